import Derived.Test.YtkihplehmkbfaaaGreatDoorZL5
import Derived.Test.YtkihplehmkbfaaaGreatDoorProg
import Derived.KernelRfl
import Derived.Laws.Externs
import Derived.Lib.TrailingZeros
set_option linter.unusedVariables false
set_option linter.unusedSimpArgs false
namespace Go.Proofs
open Go.Vc
set_option maxRecDepth 20000
namespace Nu
abbrev qD0 := Bool × List Nat × Int × Unit
abbrev qI0 := qD0 × qD0 × Unit
abbrev qT0 := List qD0 × List qI0 × Unit
abbrev qR0 := Int × Int × Int × qD0 × qD0 × List (List qI0) × List (List qT0) × Unit
theorem aRK : ∃ l : List Nat, l = [0, 1, 56, 2, 57, 49, 28, 3, 61, 58, 42, 50, 38, 29, 17, 4, 62, 47, 59, 36, 45, 43, 51, 22, 53, 39, 33, 30, 24, 18, 12, 5, 63, 55, 48, 27, 60, 41, 37, 16, 46, 35, 44, 21, 52, 32, 23, 11, 54, 26, 40, 15, 34, 20, 31, 10, 25, 14, 19, 9, 13, 8, 7, 6] := ⟨_, rfl⟩
noncomputable def aQf : List Nat := Classical.choose aRK
theorem aRL : aQf = [0, 1, 56, 2, 57, 49, 28, 3, 61, 58, 42, 50, 38, 29, 17, 4, 62, 47, 59, 36, 45, 43, 51, 22, 53, 39, 33, 30, 24, 18, 12, 5, 63, 55, 48, 27, 60, 41, 37, 16, 46, 35, 44, 21, 52, 32, 23, 11, 54, 26, 40, 15, 34, 20, 31, 10, 25, 14, 19, 9, 13, 8, 7, 6] := Classical.choose_spec aRK
theorem aUA : ∃ l : List Nat, l = [1, 10, 100, 1000, 10000, 100000, 1000000, 10000000, 100000000, 1000000000, 10000000000, 100000000000, 1000000000000, 10000000000000, 100000000000000, 1000000000000000, 10000000000000000, 100000000000000000, 1000000000000000000, 10000000000000000000] := ⟨_, rfl⟩
noncomputable def p10 : List Nat := Classical.choose aUA
theorem aUB : p10 = [1, 10, 100, 1000, 10000, 100000, 1000000, 10000000, 100000000, 1000000000, 10000000000, 100000000000, 1000000000000, 10000000000000, 100000000000000, 1000000000000000, 10000000000000000, 100000000000000000, 1000000000000000000, 10000000000000000000] := Classical.choose_spec aUA
noncomputable def GL : Nat → AV
 | 0 => .roa (.arr 64 (.u .u8)) aQf
 | 1 => .roa (.arr 20 (.u .u64)) p10
 | _ => .junk
theorem GL0 : GL 0 = .roa (.arr 64 (.u .u8)) aQf := rfl
theorem GL3 : GL 1 = .roa (.arr 20 (.u .u64)) p10 := rfl
attribute [go_sem] GL0 GL3 mSpec
def tab : List (TypeId × Ty) := [(258, .clo 239 .unit), (2, .i .i64), (3, .i .i64), (4, .bool), (5, .u .u8), (9, .str), (21, .i .i32), (22, .sl (.pair (.i .i64) (.pair (.i .i64) (.pair (.i .i64) (.pair (.pair .bool (.pair (.sl (.u .u64)) (.pair (.i .i64) .unit))) (.pair (.pair .bool (.pair (.sl (.u .u64)) (.pair (.i .i64) .unit))) (.pair (.sl (.sl (.pair (.pair .bool (.pair (.sl (.u .u64)) (.pair (.i .i64) .unit))) (.pair (.pair .bool (.pair (.sl (.u .u64)) (.pair (.i .i64) .unit))) .unit)))) (.pair (.sl (.sl (.pair (.sl (.pair .bool (.pair (.sl (.u .u64)) (.pair (.i .i64) .unit)))) (.pair (.sl (.pair (.pair .bool (.pair (.sl (.u .u64)) (.pair (.i .i64) .unit))) (.pair (.pair .bool (.pair (.sl (.u .u64)) (.pair (.i .i64) .unit))) .unit))) .unit)))) .unit)))))))), (23, .sl (.u .u64)), (25, .pair .bool (.pair (.sl (.u .u64)) (.pair (.i .i64) .unit))), (27, .pair (.pair .bool (.pair (.sl (.u .u64)) (.pair (.i .i64) .unit))) (.pair (.pair .bool (.pair (.sl (.u .u64)) (.pair (.i .i64) .unit))) .unit)), (30, .sl (.sl (.pair (.pair .bool (.pair (.sl (.u .u64)) (.pair (.i .i64) .unit))) (.pair (.pair .bool (.pair (.sl (.u .u64)) (.pair (.i .i64) .unit))) .unit)))), (31, .sl (.sl (.pair (.sl (.pair .bool (.pair (.sl (.u .u64)) (.pair (.i .i64) .unit)))) (.pair (.sl (.pair (.pair .bool (.pair (.sl (.u .u64)) (.pair (.i .i64) .unit))) (.pair (.pair .bool (.pair (.sl (.u .u64)) (.pair (.i .i64) .unit))) .unit))) .unit)))), (33, .pair (.i .i64) (.pair (.i .i64) (.pair (.i .i64) (.pair (.pair .bool (.pair (.sl (.u .u64)) (.pair (.i .i64) .unit))) (.pair (.pair .bool (.pair (.sl (.u .u64)) (.pair (.i .i64) .unit))) (.pair (.sl (.sl (.pair (.pair .bool (.pair (.sl (.u .u64)) (.pair (.i .i64) .unit))) (.pair (.pair .bool (.pair (.sl (.u .u64)) (.pair (.i .i64) .unit))) .unit)))) (.pair (.sl (.sl (.pair (.sl (.pair .bool (.pair (.sl (.u .u64)) (.pair (.i .i64) .unit)))) (.pair (.sl (.pair (.pair .bool (.pair (.sl (.u .u64)) (.pair (.i .i64) .unit))) (.pair (.pair .bool (.pair (.sl (.u .u64)) (.pair (.i .i64) .unit))) .unit))) .unit)))) .unit))))))), (39, .u .u64), (45, .sl .expr), (47, .expr), (48, .sl .str), (51, .sl (.pair .str (.pair (.sl (.pair .str (.pair (.pair .str (.pair .str .unit)) (.pair .expr .unit)))) (.pair (.sl (.pair .str (.pair (.pair .str (.pair .str .unit)) .unit))) (.pair (.sl .str) (.pair (.sl (.pair .str (.pair .expr .unit))) .unit)))))), (52, .sl (.pair .str (.pair .str (.pair .str (.pair .str .unit))))), (54, .pair (.i .i64) (.pair (.i .i64) (.pair (.i .i64) (.pair (.i .i64) (.pair .str (.pair .str (.pair .str (.pair .str (.pair (.sl (.pair .str (.pair (.sl (.pair .str (.pair (.pair .str (.pair .str .unit)) (.pair .expr .unit)))) (.pair (.sl (.pair .str (.pair (.pair .str (.pair .str .unit)) .unit))) (.pair (.sl .str) (.pair (.sl (.pair .str (.pair .expr .unit))) .unit)))))) (.pair (.sl (.pair .str (.pair .str (.pair .str (.pair .str .unit))))) .unit)))))))))), (56, .sl (.pair .str (.pair (.pair .str (.pair .str .unit)) (.pair .expr .unit)))), (57, .sl (.pair .str (.pair (.pair .str (.pair .str .unit)) .unit))), (58, .sl (.pair .str (.pair .expr .unit))), (60, .pair .str (.pair (.sl (.pair .str (.pair (.pair .str (.pair .str .unit)) (.pair .expr .unit)))) (.pair (.sl (.pair .str (.pair (.pair .str (.pair .str .unit)) .unit))) (.pair (.sl .str) (.pair (.sl (.pair .str (.pair .expr .unit))) .unit))))), (62, .pair .str (.pair .str .unit)), (64, .pair .str (.pair (.pair .str (.pair .str .unit)) (.pair .expr .unit))), (68, .pair .str (.pair .str (.pair .str (.pair .str .unit)))), (71, .pair .str (.pair (.pair .str (.pair .str .unit)) .unit)), (73, .pair .str (.pair .expr .unit)), (81, .sl (.i .i64)), (83, .u .u64), (85, .sl (.pair (.pair .bool (.pair (.sl (.u .u64)) (.pair (.i .i64) .unit))) (.pair (.pair .bool (.pair (.sl (.u .u64)) (.pair (.i .i64) .unit))) .unit))), (86, .sl (.pair (.sl (.pair .bool (.pair (.sl (.u .u64)) (.pair (.i .i64) .unit)))) (.pair (.sl (.pair (.pair .bool (.pair (.sl (.u .u64)) (.pair (.i .i64) .unit))) (.pair (.pair .bool (.pair (.sl (.u .u64)) (.pair (.i .i64) .unit))) .unit))) .unit))), (88, .sl (.pair .bool (.pair (.sl (.u .u64)) (.pair (.i .i64) .unit)))), (90, .pair (.sl (.pair .bool (.pair (.sl (.u .u64)) (.pair (.i .i64) .unit)))) (.pair (.sl (.pair (.pair .bool (.pair (.sl (.u .u64)) (.pair (.i .i64) .unit))) (.pair (.pair .bool (.pair (.sl (.u .u64)) (.pair (.i .i64) .unit))) .unit))) .unit)), (91, .nilf), (98, .nilp), (99, .sl (.u .u8)), (101, .pair .nilp (.pair (.sl (.u .u8)) .unit)), (103, .nili), (140, .sl (.u .u32)), (146, .u .u32), (174, .arr 256 (.bool)), (202, .pair .bool (.pair (.sl (.u .u32)) (.pair (.i .i64) .unit))), (221, .nilf), (226, .sl (.sl .str)), (238, .arr 24 (.u .u8)), (242, .arr 64 (.u .u8)), (251, .pair (.i .i64) .unit), (254, .pair (.i .i64) .unit), (264, .arr 20 (.u .u64)), (265, .arr 65 (.u .u8)), (268, .arr 256 (.u .u8)), (270, .pair (.u .u8) (.pair (.u .u8) .unit)), (271, .arr 16 (.pair (.u .u8) (.pair (.u .u8) .unit))), (278, .i .i64), (284, .arr 32 (.u .u8)), (294, .pair .str .unit)]
def elT : TypeId → TypeId
 | 22 => 33
 | 23 => 83
 | 30 => 85
 | 31 => 86
 | 45 => 47
 | 48 => 9
 | 51 => 60
 | 52 => 68
 | 56 => 64
 | 57 => 71
 | 58 => 73
 | 81 => 3
 | 85 => 27
 | 86 => 90
 | 88 => 25
 | 99 => 5
 | 140 => 146
 | 226 => 48
 | _ => 0
def mpT : TypeId → Option (TypeId × TypeId)
 | 96 => some (3, 9)
 | 171 => some (9, 4)
 | _ => none
theorem aRM : gZ Tryz.prog (aDS tab) := aTm (by kernel_rfl)
theorem aYP : ∀ t ct, aDS tab t = some (.sl ct) → Tryz.prog.underlying t = some (.slice (elT t)) := aWe (by kernel_rfl)
theorem aYQ : ∀ t k e, mpT t = some (k, e) → Tryz.prog.underlying t = some (.map k e) := by
 intro t k e h
 unfold mpT at h
 split at h
 ·cases h; rfl
 ·cases h; rfl
 ·cases h
def TM : Tab := aDS tab
noncomputable def EM (l : List (FuncId × aJ)) : Env := ⟨TM, GL, fun f _ => gam l f, elT, mpT⟩
theorem aYR (l : List (FuncId × aJ)) (t : TypeId) : (EM l).T t = TM t := rfl
theorem aYS (l : List (FuncId × aJ)) (t : Nat) : (EM l).G t = GL t := rfl
theorem aYT (l : List (FuncId × aJ)) (f : FuncId) (vs : List AV) : (EM l).Γ f vs = gam l f := rfl
theorem aYw (l : List (FuncId × aJ)) (t : TypeId) : (EM l).el t = elT t := rfl
theorem aYx (l : List (FuncId × aJ)) (t : TypeId) : (EM l).mp t = mpT t := rfl
theorem bF {l : List (FuncId × aJ)} (h : bL Tryz.prog GL l) : gA Tryz.prog (EM l) := aTP aRM aYP aYQ h
theorem mix : Tryz.prog.follows .mixedOrders = true := by kernel_rfl
theorem T2 : TM 2 = some (.i .i64) := rfl
theorem T3 : TM 3 = some (.i .i64) := rfl
theorem T4 : TM 4 = some (.bool) := rfl
theorem T5 : TM 5 = some (.u .u8) := rfl
theorem T9 : TM 9 = some (.str) := rfl
theorem T21 : TM 21 = some (.i .i32) := rfl
theorem T22 : TM 22 = some (.sl (.pair (.i .i64) (.pair (.i .i64) (.pair (.i .i64) (.pair (.pair .bool (.pair (.sl (.u .u64)) (.pair (.i .i64) .unit))) (.pair (.pair .bool (.pair (.sl (.u .u64)) (.pair (.i .i64) .unit))) (.pair (.sl (.sl (.pair (.pair .bool (.pair (.sl (.u .u64)) (.pair (.i .i64) .unit))) (.pair (.pair .bool (.pair (.sl (.u .u64)) (.pair (.i .i64) .unit))) .unit)))) (.pair (.sl (.sl (.pair (.sl (.pair .bool (.pair (.sl (.u .u64)) (.pair (.i .i64) .unit)))) (.pair (.sl (.pair (.pair .bool (.pair (.sl (.u .u64)) (.pair (.i .i64) .unit))) (.pair (.pair .bool (.pair (.sl (.u .u64)) (.pair (.i .i64) .unit))) .unit))) .unit)))) .unit)))))))) := rfl
theorem T23 : TM 23 = some (.sl (.u .u64)) := rfl
theorem T25 : TM 25 = some (.pair .bool (.pair (.sl (.u .u64)) (.pair (.i .i64) .unit))) := rfl
theorem T27 : TM 27 = some (.pair (.pair .bool (.pair (.sl (.u .u64)) (.pair (.i .i64) .unit))) (.pair (.pair .bool (.pair (.sl (.u .u64)) (.pair (.i .i64) .unit))) .unit)) := rfl
theorem T30 : TM 30 = some (.sl (.sl (.pair (.pair .bool (.pair (.sl (.u .u64)) (.pair (.i .i64) .unit))) (.pair (.pair .bool (.pair (.sl (.u .u64)) (.pair (.i .i64) .unit))) .unit)))) := rfl
theorem T31 : TM 31 = some (.sl (.sl (.pair (.sl (.pair .bool (.pair (.sl (.u .u64)) (.pair (.i .i64) .unit)))) (.pair (.sl (.pair (.pair .bool (.pair (.sl (.u .u64)) (.pair (.i .i64) .unit))) (.pair (.pair .bool (.pair (.sl (.u .u64)) (.pair (.i .i64) .unit))) .unit))) .unit)))) := rfl
theorem T33 : TM 33 = some (.pair (.i .i64) (.pair (.i .i64) (.pair (.i .i64) (.pair (.pair .bool (.pair (.sl (.u .u64)) (.pair (.i .i64) .unit))) (.pair (.pair .bool (.pair (.sl (.u .u64)) (.pair (.i .i64) .unit))) (.pair (.sl (.sl (.pair (.pair .bool (.pair (.sl (.u .u64)) (.pair (.i .i64) .unit))) (.pair (.pair .bool (.pair (.sl (.u .u64)) (.pair (.i .i64) .unit))) .unit)))) (.pair (.sl (.sl (.pair (.sl (.pair .bool (.pair (.sl (.u .u64)) (.pair (.i .i64) .unit)))) (.pair (.sl (.pair (.pair .bool (.pair (.sl (.u .u64)) (.pair (.i .i64) .unit))) (.pair (.pair .bool (.pair (.sl (.u .u64)) (.pair (.i .i64) .unit))) .unit))) .unit)))) .unit))))))) := rfl
theorem T39 : TM 39 = some (.u .u64) := rfl
theorem T45 : TM 45 = some (.sl .expr) := rfl
theorem T47 : TM 47 = some (.expr) := rfl
theorem T48 : TM 48 = some (.sl .str) := rfl
theorem T51 : TM 51 = some (.sl (.pair .str (.pair (.sl (.pair .str (.pair (.pair .str (.pair .str .unit)) (.pair .expr .unit)))) (.pair (.sl (.pair .str (.pair (.pair .str (.pair .str .unit)) .unit))) (.pair (.sl .str) (.pair (.sl (.pair .str (.pair .expr .unit))) .unit)))))) := rfl
theorem T52 : TM 52 = some (.sl (.pair .str (.pair .str (.pair .str (.pair .str .unit))))) := rfl
theorem T54 : TM 54 = some (.pair (.i .i64) (.pair (.i .i64) (.pair (.i .i64) (.pair (.i .i64) (.pair .str (.pair .str (.pair .str (.pair .str (.pair (.sl (.pair .str (.pair (.sl (.pair .str (.pair (.pair .str (.pair .str .unit)) (.pair .expr .unit)))) (.pair (.sl (.pair .str (.pair (.pair .str (.pair .str .unit)) .unit))) (.pair (.sl .str) (.pair (.sl (.pair .str (.pair .expr .unit))) .unit)))))) (.pair (.sl (.pair .str (.pair .str (.pair .str (.pair .str .unit))))) .unit)))))))))) := rfl
theorem T56 : TM 56 = some (.sl (.pair .str (.pair (.pair .str (.pair .str .unit)) (.pair .expr .unit)))) := rfl
theorem T57 : TM 57 = some (.sl (.pair .str (.pair (.pair .str (.pair .str .unit)) .unit))) := rfl
theorem T58 : TM 58 = some (.sl (.pair .str (.pair .expr .unit))) := rfl
theorem T60 : TM 60 = some (.pair .str (.pair (.sl (.pair .str (.pair (.pair .str (.pair .str .unit)) (.pair .expr .unit)))) (.pair (.sl (.pair .str (.pair (.pair .str (.pair .str .unit)) .unit))) (.pair (.sl .str) (.pair (.sl (.pair .str (.pair .expr .unit))) .unit))))) := rfl
theorem T62 : TM 62 = some (.pair .str (.pair .str .unit)) := rfl
theorem T64 : TM 64 = some (.pair .str (.pair (.pair .str (.pair .str .unit)) (.pair .expr .unit))) := rfl
theorem T68 : TM 68 = some (.pair .str (.pair .str (.pair .str (.pair .str .unit)))) := rfl
theorem T71 : TM 71 = some (.pair .str (.pair (.pair .str (.pair .str .unit)) .unit)) := rfl
theorem T73 : TM 73 = some (.pair .str (.pair .expr .unit)) := rfl
theorem T81 : TM 81 = some (.sl (.i .i64)) := rfl
theorem T83 : TM 83 = some (.u .u64) := rfl
theorem T85 : TM 85 = some (.sl (.pair (.pair .bool (.pair (.sl (.u .u64)) (.pair (.i .i64) .unit))) (.pair (.pair .bool (.pair (.sl (.u .u64)) (.pair (.i .i64) .unit))) .unit))) := rfl
theorem T86 : TM 86 = some (.sl (.pair (.sl (.pair .bool (.pair (.sl (.u .u64)) (.pair (.i .i64) .unit)))) (.pair (.sl (.pair (.pair .bool (.pair (.sl (.u .u64)) (.pair (.i .i64) .unit))) (.pair (.pair .bool (.pair (.sl (.u .u64)) (.pair (.i .i64) .unit))) .unit))) .unit))) := rfl
theorem T88 : TM 88 = some (.sl (.pair .bool (.pair (.sl (.u .u64)) (.pair (.i .i64) .unit)))) := rfl
theorem T90 : TM 90 = some (.pair (.sl (.pair .bool (.pair (.sl (.u .u64)) (.pair (.i .i64) .unit)))) (.pair (.sl (.pair (.pair .bool (.pair (.sl (.u .u64)) (.pair (.i .i64) .unit))) (.pair (.pair .bool (.pair (.sl (.u .u64)) (.pair (.i .i64) .unit))) .unit))) .unit)) := rfl
theorem T91 : TM 91 = some (.nilf) := rfl
theorem T98 : TM 98 = some (.nilp) := rfl
theorem T99 : TM 99 = some (.sl (.u .u8)) := rfl
theorem aYU : TM 101 = some (.pair .nilp (.pair (.sl (.u .u8)) .unit)) := rfl
theorem aYV : TM 103 = some (.nili) := rfl
theorem aYW : TM 140 = some (.sl (.u .u32)) := rfl
theorem aYX : TM 146 = some (.u .u32) := rfl
theorem aYY : TM 174 = some (.arr 256 (.bool)) := rfl
theorem aYZ : TM 202 = some (.pair .bool (.pair (.sl (.u .u32)) (.pair (.i .i64) .unit))) := rfl
theorem aY0 : TM 221 = some (.nilf) := rfl
theorem aY1 : TM 226 = some (.sl (.sl .str)) := rfl
theorem aY2 : TM 238 = some (.arr 24 (.u .u8)) := rfl
theorem aY3 : TM 242 = some (.arr 64 (.u .u8)) := rfl
theorem aY4 : TM 251 = some (.pair (.i .i64) .unit) := rfl
theorem aY5 : TM 254 = some (.pair (.i .i64) .unit) := rfl
theorem aY6 : TM 264 = some (.arr 20 (.u .u64)) := rfl
theorem aY7 : TM 265 = some (.arr 65 (.u .u8)) := rfl
theorem aY8 : TM 268 = some (.arr 256 (.u .u8)) := rfl
theorem aY9 : TM 270 = some (.pair (.u .u8) (.pair (.u .u8) .unit)) := rfl
theorem aZa : TM 271 = some (.arr 16 (.pair (.u .u8) (.pair (.u .u8) .unit))) := rfl
theorem aZb : TM 278 = some (.i .i64) := rfl
theorem aZc : TM 284 = some (.arr 32 (.u .u8)) := rfl
theorem aZd : TM 294 = some (.pair .str .unit) := rfl
theorem aZe : TM 258 = some (.clo 239 .unit) := rfl
attribute [go_sem] aYR aYS aYT aYw aYx elT mpT aZe T2 T3 T4 T5 T9 T21 T22 T23 T25 T27 T30 T31 T33 T39 T45 T47 T48 T51 T52 T54 T56 T57 T58 T60 T62 T64 T68 T71 T73 T81 T83 T85 T86 T88 T90 T91 T98 T99 aYU aYV aYW aYX aYY aYZ aY0 aY1 aY2 aY3 aY4 aY5 aY6 aY7 aY8 aY9 aZa aZb aZc aZd
end Nu
end Go.Proofs
namespace Go.Proofs
open Go.Vc
set_option maxRecDepth 20000
namespace Nu
def gO (x y c : Nat) : Nat × Nat × Unit := ((x + y + c) % 18446744073709551616, (x + y + c) / 18446744073709551616, ())
def zE (x y c : Nat) : Nat × Nat × Unit := ((x + 18446744073709551616 - y - c) % 18446744073709551616, (if x < y + c then 1 else 0), ())
abbrev zF (x y c : Nat) : Prop := c ≤ 1
def aFg : Ty := .pair (.u .u64) (.pair (.u .u64) (.pair (.u .u64) .unit))
noncomputable def lH : aJ := ⟨aFg, .tup (.pair (.u .u64) (.pair (.u .u64) .unit)), fun x => zF x.1 x.2.1 x.2.2.1, fun x => gO x.1 x.2.1 x.2.2.1⟩
attribute [go_sem] lH aFg
def aFh : Ty := .pair (.u .u64) (.pair (.u .u64) (.pair (.u .u64) .unit))
noncomputable def vY : aJ := ⟨aFh, .tup (.pair (.u .u64) (.pair (.u .u64) .unit)), fun x => zF x.1 x.2.1 x.2.2.1, fun x => zE x.1 x.2.1 x.2.2.1⟩
attribute [go_sem] vY aFh
theorem aNj {w : World} {S : Nat → Prop} {x : Nat} {v : Value} (h : cU w S (.u .u64) x v) : v = .int .u64 (x : Int) := by
 unfold cU at h
 rw [if_neg (by simp [Ty.isAgg])] at h
 simp only [aS, List.cons.injEq, and_true] at h
 exact h.1
theorem aJJ {w : World} {S : Nat → Prop} {vs : List Value} {x : Nat × Nat × Nat × Unit} (h : nE w S (.pair (.u .u64) (.pair (.u .u64) (.pair (.u .u64) .unit))) x vs) : vs = [.int .u64 (x.1 : Int), .int .u64 (x.2.1 : Int), .int .u64 (x.2.2.1 : Int)] := by
 obtain ⟨v1, r1, rfl, h1, v2, r2, rfl, h2, v3, r3, rfl, h3, h4⟩ := h
 rw [aNj h1, aNj h2, aNj h3]
 have h4 : r3 = [] := h4
 rw [h4]
theorem aUC {w : World} {S : Nat → Prop} {x : Nat} (h : x < 18446744073709551616) : cU w S (.u .u64) x (.int .u64 (x : Int)) := by
 unfold cU
 rw [if_neg (by simp [Ty.isAgg])]
 refine ⟨rfl, rfl, ?_⟩
 simp [IntKind.max, IntKind.signed, IntKind.bits]; omega
theorem aOK {w : World} {S : Nat → Prop} {x y : Nat} (hx : x < 18446744073709551616) (hy : y < 18446744073709551616) : nE w S (.pair (.u .u64) (.pair (.u .u64) .unit)) (x, y, ()) [.int .u64 (x : Int), .int .u64 (y : Int)] :=
 ⟨_, _, rfl, aUC hx, _, _, rfl, aUC hy, rfl⟩
theorem wf_u64 {x : Nat} (h : (Ty.u .u64).wf x) : x < 18446744073709551616 := by
 simp only [Ty.wf, IntKind.max, IntKind.signed, IntKind.bits] at h
 simp at h; omega
def aJK : Array Value → Sem Value := fun args => do
 let (x, y, b) ← Extern.MathBitsCarry.three "Sub64" args
 pure (Extern.MathBitsCarry.pair ((x + Extern.MathBitsCarry.m64 - y - b) % Extern.MathBitsCarry.m64) (if x < y + b then 1 else 0))
theorem aSR {P : Program} (x y b : Nat) (hb : b ≤ 1) (w : World) :
  (aJK #[.int .u64 x, .int .u64 y, .int .u64 b]).run P w =
   .ok (.tuple #[.int .u64 (((x + 18446744073709551616 - y - b) % 18446744073709551616 : Nat) : Int), .int .u64 ((if x < y + b then 1 else 0 : Nat) : Int)]) w := by
 have : b = 0 ∨ b = 1 := by omega
 rcases this with rfl | rfl <;> rfl
theorem aAF : NOK Tryz.prog GL 162 lH := by
 refine aTQ fun w S vs x ha hp => ?_
 have hp : x.2.2.1 ≤ 1 := hp
 have hw := aDE _ _ _ ha
 obtain ⟨h1, h2, h3, _⟩ := hw
 have h1 := wf_u64 h1
 have h2 := wf_u64 h2
 rw [aJJ ha]
 refine ⟨[.int .u64 (((x.1 + x.2.1 + x.2.2.1) % 18446744073709551616 : Nat) : Int), .int .u64 (((x.1 + x.2.1 + x.2.2.1) / 18446744073709551616 : Nat) : Int)], ?_, aOK (by omega) (by omega)⟩
 rw [run_callFunc_extern Tryz.func162 (by kernel_rfl) (by kernel_rfl) (by kernel_rfl) (e := add64Entry) (by kernel_rfl), run_add64 x.1 x.2.1 x.2.2.1 (by omega) (by omega) (by omega) (by omega)]
 simp only [Result.andThen]
 congr 5 <;> omega
theorem aK6 : NOK Tryz.prog GL 253 vY := by
 refine aTQ fun w S vs x ha hp => ?_
 have hp : x.2.2.1 ≤ 1 := hp
 have hw := aDE _ _ _ ha
 obtain ⟨h1, h2, h3, _⟩ := hw
 have h1 := wf_u64 h1
 have h2 := wf_u64 h2
 rw [aJJ ha]
 refine ⟨[.int .u64 (((x.1 + 18446744073709551616 - x.2.1 - x.2.2.1) % 18446744073709551616 : Nat) : Int), .int .u64 ((if x.1 < x.2.1 + x.2.2.1 then 1 else 0 : Nat) : Int)], ?_, aOK (by omega) (by split <;> omega)⟩
 rw [run_callFunc_extern Tryz.func253 (by kernel_rfl) (by kernel_rfl) (by kernel_rfl) (e := aJK) (by kernel_rfl), aSR x.1 x.2.1 x.2.2.1 hp]
 rfl
abbrev aQg (s : List Nat) : Prop := s.length * 8 ≤ 140737488355328
def pZ : Ty := .pair (.sl (.u .u64)) .unit
noncomputable def bQ : aJ := ⟨pZ, .own 83 (.u .u64), fun x => aQg x.1, fun x => id x.1⟩
attribute [go_sem] bQ pZ
noncomputable def uU : List (FuncId × aJ) := []
theorem uW : bL Tryz.prog GL uU := .nil
theorem iB : FOK Tryz.prog GL 165 bQ := by
 refine aTM (bF uW) Tryz.func165 rfl (by kernel_rfl) (by decide) fun w0 S x hw hp => ?_
 have hF : iZ (fr Tryz.prog (EM uU) S w0 Tryz.f165.ntmps) := ⟨bF uW, mix⟩
 obtain ⟨(s : (List Nat)), u⟩ := x
 have hp : s.length * 8 ≤ 140737488355328 := hp
 simp only [cC, pZ, bQ]
 refine aC (aE hF [0, 2] ?_)
 simp only [go_sem]
 refine aD (aC (aC (aSF hF rfl rfl rfl fun b hb => ?_)))
 refine aD (bG rfl (fun hc => ?_) (fun hc => ?_))
 ·have hs := hb hc
  refine aC (aE hF [2] ?_)
  simp only [go_sem]
  refine aD (dD (bW (fD hF [.tmp 2] rfl rfl rfl ?_)))
  simp only [iH, bA, go_sem, hs]
  try trivial
 ·refine bR (aD (aC (bC hF [2] ?_)))
  simp only [go_sem]
  refine ⟨by omega, ?_⟩
  refine aD (dD (fD hF [.tmp 2] rfl rfl rfl ?_))
  simp only [iH, bA, go_sem]
  try trivial
end Nu
end Go.Proofs
namespace Go.Proofs
open Go.Vc
namespace Nu
def nv : List Nat → Nat
 | [] => 0
 | x :: r => x + 18446744073709551616 * nv r
def lb (n : Nat) : List Nat := if h : n = 0 then [] else n % 18446744073709551616 :: lb (n / 18446744073709551616)
termination_by n
decreasing_by exact Nat.div_lt_self (by omega) (by decide)
def Lm (a : List Nat) : Prop := ∀ x ∈ a, x < 18446744073709551616
def Nrm (a : List Nat) : Prop := a.getLastD 1 ≠ 0
instance (a : List Nat) : Decidable (Nrm a) := inferInstanceAs (Decidable (_ ≠ _))
theorem aAG : nv [] = 0 := rfl
theorem oG (x : Nat) (r : List Nat) : nv (x :: r) = x + 18446744073709551616 * nv r := rfl
theorem mO : lb 0 = [] := by rw [lb]; simp
theorem aGl {n : Nat} (h : n ≠ 0) : lb n = n % 18446744073709551616 :: lb (n / 18446744073709551616) := by rw [lb, dif_neg h]
theorem iI (n : Nat) : nv (lb n) = n := by
 induction n using Nat.strongRecOn with
 | _ n ih =>
  by_cases h : n = 0
  ·subst h; rw [mO]; rfl
  ·rw [aGl h, oG, ih (n / 18446744073709551616) (Nat.div_lt_self (by omega) (by decide))]
   exact Nat.mod_add_div n 18446744073709551616
theorem aB7 (n : Nat) : Lm (lb n) := by
 induction n using Nat.strongRecOn with
 | _ n ih =>
  by_cases h : n = 0
  ·subst h; rw [mO]; intro x hx; cases hx
  ·rw [aGl h]
   intro x hx
   rcases List.mem_cons.1 hx with rfl | hx
   ·exact Nat.mod_lt _ (by decide)
   ·exact ih (n / 18446744073709551616) (Nat.div_lt_self (by omega) (by decide)) x hx
theorem aAH {n : Nat} : lb n = [] ↔ n = 0 := by
 constructor
 ·intro h
  rcases Nat.eq_zero_or_pos n with h0 | h0
  ·exact h0
  ·rw [aGl (by omega)] at h; cases h
 ·rintro rfl; exact mO
theorem aRN : Nrm [] := by decide
theorem aUD {x : Nat} {r : List Nat} (h : Nrm r) (hx : r = [] → x ≠ 0) : Nrm (x :: r) := by
 unfold Nrm at *
 cases r with
 | nil => simpa using hx rfl
 | cons y r => simpa using h
theorem aBD (n : Nat) : Nrm (lb n) := by
 induction n using Nat.strongRecOn with
 | _ n ih =>
  by_cases h : n = 0
  ·subst h; rw [mO]; exact aRN
  ·rw [aGl h]
   refine aUD (ih _ (Nat.div_lt_self (by omega) (by decide))) fun e => ?_
   have := aAH.1 e
   intro h0
   have := Nat.div_add_mod n 18446744073709551616
   omega
theorem aRO {x : Nat} {r : List Nat} (h : Lm (x :: r)) : x < 18446744073709551616 ∧ Lm r := ⟨h x (by simp), fun y hy => h y (by simp [hy])⟩
theorem aUE {a b : List Nat} (ha : Lm a) (hb : Lm b) : Lm (a ++ b) := fun x hx => (List.mem_append.1 hx).elim (ha x) (hb x)
theorem aJL {x y : Nat} {r : List Nat} (h : Nrm (x :: y :: r)) : Nrm (y :: r) := by
 unfold Nrm at *; simpa using h
theorem aA5 {a : List Nat} (h : Nrm a) (hne : a ≠ []) : 0 < nv a := by
  induction a with
  | nil => exact absurd rfl hne
  | cons x r ih =>
    rw [oG]
    cases r with
    | nil => have : x ≠ 0 := by simpa [Nrm] using h
             rw [aAG]; omega
    | cons y r =>
      have := ih (aJL h) (by simp)
      have : 18446744073709551616 * 1 ≤ 18446744073709551616 * nv (y :: r) := Nat.mul_le_mul_left _ this
      omega
theorem aRP {a : List Nat} (hl : Lm a) (hn : Nrm a) : lb (nv a) = a := by
 induction a with
 | nil => rw [aAG, mO]
 | cons x r ih =>
  have hx := aRO hl
  have hpos : nv (x :: r) ≠ 0 := by have := aA5 hn (by simp); omega
  have h1 : nv (x :: r) % 18446744073709551616 = x := by rw [oG, Nat.add_mul_mod_self_left]; exact Nat.mod_eq_of_lt hx.1
  have h2 : nv (x :: r) / 18446744073709551616 = nv r := by rw [oG, Nat.add_mul_div_left _ _ (by decide), Nat.div_eq_of_lt hx.1, Nat.zero_add]
  rw [aGl hpos, h1, h2]
  cases r with
  | nil => rw [aAG, mO]
  | cons y r => rw [ih hx.2 (aJL hn)]
theorem aGm (a b : List Nat) : nv (a ++ b) = nv a + 18446744073709551616 ^ a.length * nv b := by
 induction a with
 | nil => simp [nv]
 | cons x r ih =>
  rw [List.cons_append, oG, oG, ih, List.length_cons, Nat.pow_succ, Nat.mul_add]
  have : 18446744073709551616 * (18446744073709551616 ^ r.length * nv b) = 18446744073709551616 ^ r.length * 18446744073709551616 * nv b := by rw [← Nat.mul_assoc, Nat.mul_comm 18446744073709551616]
  omega
theorem kP {a : List Nat} (hl : Lm a) : nv a < 18446744073709551616 ^ a.length := by
 induction a with
 | nil => simp [nv]
 | cons x r ih =>
  have hx := aRO hl
  have := ih hx.2
  rw [oG, List.length_cons, Nat.pow_succ]
  have h2 : 18446744073709551616 * (nv r + 1) ≤ 18446744073709551616 * 18446744073709551616 ^ r.length := Nat.mul_le_mul_left _ this
  rw [Nat.mul_add] at h2
  rw [Nat.mul_comm (18446744073709551616 ^ r.length)]
  omega
theorem aRQ {a : List Nat} (hn : Nrm a) (hne : a ≠ []) : 18446744073709551616 ^ (a.length - 1) ≤ nv a := by
 induction a with
 | nil => exact absurd rfl hne
 | cons x r ih =>
  cases r with
  | nil => have := aA5 hn hne; simp only [List.length_cons, List.length_nil, Nat.zero_add, Nat.sub_self, Nat.pow_zero]; omega
  | cons y r =>
   have := ih (aJL hn) (by simp)
   rw [oG]
   simp only [List.length_cons, Nat.add_sub_cancel] at this ⊢
   rw [Nat.pow_succ, Nat.mul_comm]
   have := Nat.mul_le_mul_left 18446744073709551616 this
   omega
theorem nV {n k : Nat} : (lb n).length ≤ k ↔ n < 18446744073709551616 ^ k := by
 constructor
 ·intro h
  have := kP (aB7 n)
  rw [iI] at this
  exact Nat.lt_of_lt_of_le this (Nat.pow_le_pow_right (by decide) h)
 ·intro h
  by_cases h0 : n = 0
  ·subst h0; rw [mO]; exact Nat.zero_le _
  ·have hne : lb n ≠ [] := fun e => h0 (aAH.1 e)
   have := aRQ (aBD n) hne
   rw [iI] at this
   have hlt : 18446744073709551616 ^ ((lb n).length - 1) < 18446744073709551616 ^ k := Nat.lt_of_le_of_lt this h
   have := (Nat.pow_lt_pow_iff_right (by decide)).1 hlt
   omega
theorem aGn (n : Nat) : nv (List.replicate n 0) = 0 := by
 induction n with
 | zero => rfl
 | succ n ih => rw [List.replicate_succ, oG, ih]
theorem tY (a : List Nat) (k : Nat) : nv a = nv (a.take k) + 18446744073709551616 ^ (min k a.length) * nv (a.drop k) := by
 have := aGm (a.take k) (a.drop k)
 rw [List.take_append_drop, List.length_take] at this
 exact this
theorem aAk {a : List Nat} (h : Lm a) (k : Nat) : Lm (a.take k) := fun x hx => h x (List.mem_of_mem_take hx)
theorem aWy {a : List Nat} (h : Lm a) (k : Nat) : Lm (a.drop k) := fun x hx => h x (List.mem_of_mem_drop hx)
theorem aFi {a : List Nat} (h : Lm a) (k : Nat) : nv (a.drop k) = nv a / 18446744073709551616 ^ k := by
 rcases Nat.lt_or_ge k a.length with hk | hk
 ·rw [tY a k, Nat.min_eq_left (Nat.le_of_lt hk), Nat.add_mul_div_left _ _ (Nat.pow_pos (by decide)), Nat.div_eq_of_lt, Nat.zero_add]
  have := kP (aAk h k)
  rw [List.length_take, Nat.min_eq_left (Nat.le_of_lt hk)] at this
  exact this
 ·rw [List.drop_eq_nil_of_le hk, aAG, Nat.div_eq_of_lt]
  exact Nat.lt_of_lt_of_le (kP h) (Nat.pow_le_pow_right (by decide) hk)
theorem aWz {a : List Nat} (h : Lm a) (k : Nat) : nv (a.take k) = nv a % 18446744073709551616 ^ k := by
 rcases Nat.lt_or_ge k a.length with hk | hk
 ·have h1 := tY a k
  rw [Nat.min_eq_left (Nat.le_of_lt hk)] at h1
  have h2 := kP (aAk h k)
  rw [List.length_take, Nat.min_eq_left (Nat.le_of_lt hk)] at h2
  rw [h1, Nat.add_mul_mod_self_left, Nat.mod_eq_of_lt h2]
 ·rw [List.take_of_length_le hk, Nat.mod_eq_of_lt]
  exact Nat.lt_of_lt_of_le (kP h) (Nat.pow_le_pow_right (by decide) hk)
theorem gB {a : List Nat} (h : Lm a) (i : Nat) : a.getD i 0 < 18446744073709551616 := by
 rw [List.getD_eq_getElem?_getD]
 cases e : a[i]? with
 | none => exact (by decide : (0 : Nat) < 18446744073709551616)
 | some x => exact h x (List.mem_of_getElem? e)
theorem take_succ {a : List Nat} {k : Nat} (h : k < a.length) : a.take (k + 1) = a.take k ++ [a.getD k 0] := by
 rw [List.take_succ_eq_append_getElem h, List.getD_eq_getElem?_getD, List.getElem?_eq_getElem h]; rfl
theorem rA {a : List Nat} {k : Nat} (h : k < a.length) : nv (a.take (k + 1)) = nv (a.take k) + 18446744073709551616 ^ k * a.getD k 0 := by
 rw [take_succ h, aGm, List.length_take, Nat.min_eq_left (Nat.le_of_lt h)]
 simp [nv]
theorem aAI {a : List Nat} {k v : Nat} (h : k < a.length) : nv (a.set k v) + 18446744073709551616 ^ k * a.getD k 0 = nv a + 18446744073709551616 ^ k * v := by
 induction a generalizing k with
 | nil => simp at h
 | cons x r ih =>
  cases k with
  | zero => simp [nv]; omega
  | succ k =>
   have := ih (k := k) (by simpa using h)
   simp only [List.set_cons_succ, oG, List.getD_cons_succ, Nat.pow_succ]
   have h1 : 18446744073709551616 ^ k * 18446744073709551616 * r.getD k 0 = 18446744073709551616 * (18446744073709551616 ^ k * r.getD k 0) := by rw [Nat.mul_comm (18446744073709551616 ^ k) 18446744073709551616, Nat.mul_assoc]
   have h2 : 18446744073709551616 ^ k * 18446744073709551616 * v = 18446744073709551616 * (18446744073709551616 ^ k * v) := by rw [Nat.mul_comm (18446744073709551616 ^ k) 18446744073709551616, Nat.mul_assoc]
   rw [h1, h2]
   have := congrArg (18446744073709551616 * ·) this
   simp only [Nat.mul_add] at this
   omega
theorem xH {a : List Nat} (h : Lm a) (k : Nat) {v : Nat} (hv : v < 18446744073709551616) : Lm (a.set k v) := fun x hx => by
 rcases List.mem_or_eq_of_mem_set hx with hx | rfl
 ·exact h x hx
 ·exact hv
theorem aGo (n : Nat) : Lm (List.replicate n 0) := fun x hx => by
 rw [List.eq_of_mem_replicate hx]; decide
theorem tZ {a : List Nat} (h : (Ty.sl (.u .u64)).wf a) : Lm a := fun x hx => by
 have := h.2 x hx
 simp only [Ty.wf, IntKind.max, IntKind.signed, IntKind.bits] at this
 simp at this; omega
theorem aQh {a : List Nat} (h : (Ty.sl (.u .u64)).wf a) : a.length ≤ 9223372036854775807 := h.1
theorem aCR {x : Nat} (h : (Ty.u .u64).wf x) : x < 18446744073709551616 := by
 simp only [Ty.wf, IntKind.max, IntKind.signed, IntKind.bits] at h
 simp at h; omega
theorem wf_i64 {x : Int} (h : (Ty.i .i64).wf x) : -9223372036854775808 ≤ x ∧ x ≤ 9223372036854775807 := by
 simpa [Ty.wf, lT] using h
theorem aRR : gR .u64 = 18446744073709551616 := by decide +kernel
theorem aG8 (a b : Nat) : nR .u64 a b = a * b % 18446744073709551616 := by rw [aQ0, aRR]
theorem aOL {a b : Nat} (ha : a < 18446744073709551616) (hb : b ≤ a) : lR .u64 a b = a - b := by
 rw [aEU, aRR, show a + (18446744073709551616 - b) = (a - b) + 18446744073709551616 from by omega, Nat.add_mod_right, Nat.mod_eq_of_lt (by omega)]
end Nu
end Go.Proofs
namespace Go.Proofs
open Go.Vc
set_option maxRecDepth 20000
namespace Nu
theorem aB {α : Type} {p : Prop} [Decidable p] {k : Option α} {r : Option α} (hp : p) (h : k = r) : ck p k = r := (aGi hp).trans h
theorem aB8 {α : Type} {p : Prop} [Decidable p] {x y r : α} (h1 : p → x = r) (h2 : ¬ p → y = r) : (if p then x else y) = r := by
 split
 ·exact h1 ‹_›
 ·exact h2 ‹_›
theorem bH {α β : Type} {x : Option α} {a : α} {k : α → Option β} {r : Option β} (hx : x = some a) (h : k a = r) : x.bind k = r := by rw [hx]; exact h
def bl (x : Nat) : Nat := if x = 0 then 0 else Nat.log2 x + 1
theorem sW {x k : Nat} (h : x < 2 ^ k) : bl x ≤ k := by
 unfold bl
 split
 ·exact Nat.zero_le _
 ·rename_i h0
  exact (Nat.log2_lt h0).2 h
theorem aDZ (x : Nat) : x < 2 ^ bl x := by
 unfold bl
 split
 ·rename_i h; subst h; decide
 ·exact Nat.lt_log2_self
theorem aJM {x k : Nat} (h : 2 ^ k ≤ x) : k < bl x := by
 have h0 : x ≠ 0 := by have := Nat.two_pow_pos k; omega
 unfold bl
 rw [if_neg h0]
 have := (Nat.le_log2 h0).2 h
 omega
theorem aYy {x k : Nat} (h1 : 2 ^ k ≤ x) (h2 : x < 2 ^ (k + 1)) : bl x = k + 1 := Nat.le_antisymm (sW h2) (aJM h1)
theorem aCS {x : Nat} (h : x ≠ 0) : 0 < bl x := aJM (k := 0) (by omega)
theorem aGp {x : Nat} (h : x ≠ 0) : 2 ^ (bl x - 1) ≤ x := by
 rcases Nat.lt_or_ge x (2 ^ (bl x - 1)) with hh | hh
 ·have := sW hh; have := aCS h; omega
 ·exact hh
theorem aFj {x k : Nat} (h : 2 ^ k ≤ x) : bl x = k + bl (x / 2 ^ k) := by
 have hk := Nat.two_pow_pos k
 have h1 : 0 < x / 2 ^ k := Nat.div_pos h hk
 obtain ⟨m, hm⟩ : ∃ m, bl (x / 2 ^ k) = m + 1 := ⟨bl (x / 2 ^ k) - 1, by
  have := aJM (x := x / 2 ^ k) (k := 0) h1; omega⟩
 have h2 := aDZ (x / 2 ^ k)
 have h3 := aGp (x := x / 2 ^ k) (by omega)
 rw [hm] at h2 h3 ⊢
 refine aYy (k := k + m) ?_ ?_
 ·rw [Nat.pow_add, Nat.mul_comm]; exact (Nat.le_div_iff_mul_le hk).1 h3
 ·rw [Nat.add_assoc, Nat.pow_add, Nat.mul_comm]; exact (Nat.div_lt_iff_lt_mul hk).1 h2
def vK : ByteArray := ⟨⟨0 :: 1 :: 2 :: 2 :: 3 :: 3 :: 3 :: 3 :: 4 :: 4 :: 4 :: 4 :: 4 :: 4 :: 4 :: 4 :: 5 :: 5 :: 5 :: 5 :: 5 :: 5 :: 5 :: 5 :: 5 :: 5 :: 5 :: 5 :: 5 :: 5 :: 5 :: 5 :: 6 :: 6 :: 6 :: 6 :: 6 :: 6 :: 6 :: 6 :: 6 :: 6 :: 6 :: 6 :: 6 :: 6 :: 6 :: 6 :: 6 :: 6 :: 6 :: 6 :: 6 :: 6 :: 6 :: 6 :: 6 :: 6 :: 6 :: 6 :: 6 :: 6 :: 6 :: 6 :: 7 :: 7 :: 7 :: 7 :: 7 :: 7 :: 7 :: 7 :: 7 :: 7 :: 7 :: 7 :: 7 :: 7 :: 7 :: 7 :: 7 :: 7 :: 7 :: 7 :: 7 :: 7 :: 7 :: 7 :: 7 :: 7 :: 7 :: 7 :: 7 :: 7 :: 7 :: 7 :: 7 :: 7 :: 7 :: 7 :: 7 :: 7 :: 7 :: 7 :: 7 :: 7 :: 7 :: 7 :: 7 :: 7 :: 7 :: 7 :: 7 :: 7 :: 7 :: 7 :: 7 :: 7 :: 7 :: 7 :: 7 :: 7 :: 7 :: 7 :: 7 :: 7 :: 7 :: 7 :: 8 :: 8 :: 8 :: 8 :: 8 :: 8 :: 8 :: 8 :: 8 :: 8 :: 8 :: 8 :: 8 :: 8 :: 8 :: 8 :: 8 :: 8 :: 8 :: 8 :: 8 :: 8 :: 8 :: 8 :: 8 :: 8 :: 8 :: 8 :: 8 :: 8 :: 8 :: 8 :: 8 :: 8 :: 8 :: 8 :: 8 :: 8 :: 8 :: 8 :: 8 :: 8 :: 8 :: 8 :: 8 :: 8 :: 8 :: 8 :: 8 :: 8 :: 8 :: 8 :: 8 :: 8 :: 8 :: 8 :: 8 :: 8 :: 8 :: 8 :: 8 :: 8 :: 8 :: 8 :: 8 :: 8 :: 8 :: 8 :: 8 :: 8 :: 8 :: 8 :: 8 :: 8 :: 8 :: 8 :: 8 :: 8 :: 8 :: 8 :: 8 :: 8 :: 8 :: 8 :: 8 :: 8 :: 8 :: 8 :: 8 :: 8 :: 8 :: 8 :: 8 :: 8 :: 8 :: 8 :: 8 :: 8 :: 8 :: 8 :: 8 :: 8 :: 8 :: 8 :: 8 :: 8 :: 8 :: 8 :: 8 :: 8 :: 8 :: 8 :: 8 :: 8 :: 8 :: 8 :: 8 :: 8 :: 8 :: 8 :: 8 :: 8 :: 8 :: 8 :: 8 :: 8 :: 8 :: 8 :: []⟩⟩
theorem aK7 : (⟨⟨0 :: 1 :: 2 :: 2 :: 3 :: 3 :: 3 :: 3 :: 4 :: 4 :: 4 :: 4 :: 4 :: 4 :: 4 :: 4 :: 5 :: 5 :: 5 :: 5 :: 5 :: 5 :: 5 :: 5 :: 5 :: 5 :: 5 :: 5 :: 5 :: 5 :: 5 :: 5 :: 6 :: 6 :: 6 :: 6 :: 6 :: 6 :: 6 :: 6 :: 6 :: 6 :: 6 :: 6 :: 6 :: 6 :: 6 :: 6 :: 6 :: 6 :: 6 :: 6 :: 6 :: 6 :: 6 :: 6 :: 6 :: 6 :: 6 :: 6 :: 6 :: 6 :: 6 :: 6 :: 7 :: 7 :: 7 :: 7 :: 7 :: 7 :: 7 :: 7 :: 7 :: 7 :: 7 :: 7 :: 7 :: 7 :: 7 :: 7 :: 7 :: 7 :: 7 :: 7 :: 7 :: 7 :: 7 :: 7 :: 7 :: 7 :: 7 :: 7 :: 7 :: 7 :: 7 :: 7 :: 7 :: 7 :: 7 :: 7 :: 7 :: 7 :: 7 :: 7 :: 7 :: 7 :: 7 :: 7 :: 7 :: 7 :: 7 :: 7 :: 7 :: 7 :: 7 :: 7 :: 7 :: 7 :: 7 :: 7 :: 7 :: 7 :: 7 :: 7 :: 7 :: 7 :: 7 :: 7 :: 8 :: 8 :: 8 :: 8 :: 8 :: 8 :: 8 :: 8 :: 8 :: 8 :: 8 :: 8 :: 8 :: 8 :: 8 :: 8 :: 8 :: 8 :: 8 :: 8 :: 8 :: 8 :: 8 :: 8 :: 8 :: 8 :: 8 :: 8 :: 8 :: 8 :: 8 :: 8 :: 8 :: 8 :: 8 :: 8 :: 8 :: 8 :: 8 :: 8 :: 8 :: 8 :: 8 :: 8 :: 8 :: 8 :: 8 :: 8 :: 8 :: 8 :: 8 :: 8 :: 8 :: 8 :: 8 :: 8 :: 8 :: 8 :: 8 :: 8 :: 8 :: 8 :: 8 :: 8 :: 8 :: 8 :: 8 :: 8 :: 8 :: 8 :: 8 :: 8 :: 8 :: 8 :: 8 :: 8 :: 8 :: 8 :: 8 :: 8 :: 8 :: 8 :: 8 :: 8 :: 8 :: 8 :: 8 :: 8 :: 8 :: 8 :: 8 :: 8 :: 8 :: 8 :: 8 :: 8 :: 8 :: 8 :: 8 :: 8 :: 8 :: 8 :: 8 :: 8 :: 8 :: 8 :: 8 :: 8 :: 8 :: 8 :: 8 :: 8 :: 8 :: 8 :: 8 :: 8 :: 8 :: 8 :: 8 :: 8 :: 8 :: 8 :: 8 :: 8 :: 8 :: 8 :: 8 :: 8 :: []⟩⟩ : ByteArray) = vK := rfl
attribute [go_sem] aK7
noncomputable def kA (x_6 : Nat) (n_7 : Int) : Option (Int) :=
 ck (0 ≤ (((x_6 % 256) : Nat) : Int) ∧ (((x_6 % 256) : Nat) : Int) < ((((bE vK).length) : Nat) : Int)) (ck (I64 (n_7 + ((((bE vK).getD (x_6 % 256) (0 : Nat)) : Nat) : Int))) (some (n_7 + ((((bE vK).getD (x_6 % 256) (0 : Nat)) : Nat) : Int))))
noncomputable def kB (x_4 : Nat) (n_5 : Int) : Option (Int) :=
 if (256 : Nat) ≤ x_4 then ck (I64 (n_5 + (8 : Int))) (kA (x_4 / (256 : Nat)) (n_5 + (8 : Int))) else kA x_4 n_5
noncomputable def kC (x_2 : Nat) (n_3 : Int) : Option (Int) :=
 if (65536 : Nat) ≤ x_2 then ck (I64 (n_3 + (16 : Int))) (kB (x_2 / (65536 : Nat)) (n_3 + (16 : Int))) else kB x_2 n_3
noncomputable def uA (x_0 : Nat) : Option Int :=
 if (4294967296 : Nat) ≤ x_0 then kC (x_0 / (4294967296 : Nat)) (32 : Int) else kC x_0 (0 : Int)
def dK (x : Nat) : Int := (bl x : Int)
theorem aWA : (bE vK).length = 256 ∧ ∀ y, y < 256 → (bE vK).getD y 0 = bl y := by decide +kernel
theorem aOM {x : Nat} {n : Int} (hx : x < 256) (h0 : 0 ≤ n) (h1 : n ≤ 1000) : kA x n = some (n + bl x) := by
 obtain ⟨e1, e2⟩ := aWA
 have e3 := e2 x hx
 have h8 := sW (show x < 2 ^ 8 from hx)
 have hm : x % 256 = x := Nat.mod_eq_of_lt hx
 unfold kA
 rw [hm, e3]
 refine aB (by rw [e1]; omega) (aB (by constructor <;> omega) rfl)
theorem aON {x : Nat} {n : Int} (hx : x < 65536) (h0 : 0 ≤ n) (h1 : n ≤ 900) : kB x n = some (n + bl x) := by
 unfold kB
 refine aB8 (fun h => aB (by constructor <;> omega) ?_) (fun h => aOM (by omega) h0 (by omega))
 rw [aOM (by omega) (by omega) (by omega), aFj (x := x) (k := 8) h]
 congr 1; rw [show (2 : Nat) ^ 8 = 256 from rfl]; omega
theorem aOO {x : Nat} {n : Int} (hx : x < 4294967296) (h0 : 0 ≤ n) (h1 : n ≤ 800) : kC x n = some (n + bl x) := by
 unfold kC
 refine aB8 (fun h => aB (by constructor <;> omega) ?_) (fun h => aON (by omega) h0 (by omega))
 rw [aON (by omega) (by omega) (by omega), aFj (x := x) (k := 16) h]
 congr 1; rw [show (2 : Nat) ^ 16 = 65536 from rfl]; omega
theorem aJN (x : Nat) (w : (Ty.u .u64).wf x) : uA x = some (dK x) := by
 have hx := aCR w
 unfold uA
 refine aB8 (fun h => ?_) (fun h => ?_)
 ·rw [aOO (by omega) (by omega) (by omega), dK, aFj (x := x) (k := 32) h]
  rfl
 ·rw [aOO (by omega) (by omega) (by omega), dK]; congr 1; omega
theorem aSS {x : Nat} (hx : x < 18446744073709551616) : bl x ≤ 64 := sW hx
noncomputable def iO (x_0 : Nat) : Option Int :=
 ck (I64 ((64 : Int) - (dK x_0))) (some ((64 : Int) - (dK x_0)))
def aA (x : Nat) : Int := 64 - (bl x : Int)
theorem aA6 (x : Nat) (w : (Ty.u .u64).wf x) : iO x = some (aA x) := by
 have := aSS (aCR w)
 unfold iO dK aA
 exact aB (by constructor <;> omega) rfl
noncomputable def iC (x_0 : Nat) : Option Int :=
 if x_0 = (0 : Nat) then some (64 : Int) else ck (0 ≤ ((((nR .u64 (x_0 &&& (aKZ .u64 x_0)) (285870213051353865 : Nat)) / (288230376151711744 : Nat)) : Nat) : Int) ∧ ((((nR .u64 (x_0 &&& (aKZ .u64 x_0)) (285870213051353865 : Nat)) / (288230376151711744 : Nat)) : Nat) : Int) < (64 : Int)) (some (((aQf.getD ((nR .u64 (x_0 &&& (aKZ .u64 x_0)) (285870213051353865 : Nat)) / (288230376151711744 : Nat)) (0 : Nat)) : Nat) : Int))
def fS (x : Nat) : Int := (Lib.ctz 64 x : Int)
theorem aWB : aQf = Lib.deBruijn64tab := by rw [aRL]; decide
theorem aYz {x : Nat} (hx : x < 18446744073709551616) (hc : ¬ x = 0) : aKZ .u64 x = 18446744073709551616 - x := by
 rw [aQ2, aRR, Nat.zero_add]
 exact Nat.mod_eq_of_lt (by omega)
theorem aXV {x : Nat} (hx : x < 18446744073709551616) (hc : ¬ x = 0) : nR .u64 (x &&& aKZ .u64 x) 285870213051353865 / 288230376151711744 < 64 ∧ aQf.getD (nR .u64 (x &&& aKZ .u64 x) 285870213051353865 / 288230376151711744) 0 = Lib.ctz 64 x := by
 obtain ⟨h1, h2⟩ := Lib.lowest_bit 64 x hc hx
 have e2 : (2 : Nat) ^ 64 = 18446744073709551616 := by decide
 rw [e2] at h1
 rw [aG8, aYz hx hc, h1, aWB]
 exact Lib.deBruijn64_at _ h2
theorem aAJ (x : Nat) (w : (Ty.u .u64).wf x) : iC x = some (fS x) := by
 unfold iC fS
 refine aB8 (fun h => ?_) (fun h => ?_)
 ·subst h; rfl
 ·obtain ⟨h1, h2⟩ := aXV (aCR w) h
  rw [h2]
  exact aB ⟨Int.natCast_nonneg _, Int.ofNat_lt.2 h1⟩ rfl
noncomputable def uB (x_0 : Nat) (y_1 : Nat) : Option (Nat × (Nat × Unit)) :=
 some ((((((nR .u64 (x_0 / (4294967296 : Nat)) (y_1 / (4294967296 : Nat))) + ((((nR .u64 (x_0 / (4294967296 : Nat)) (y_1 &&& (4294967295 : Nat))) + ((nR .u64 (x_0 &&& (4294967295 : Nat)) (y_1 &&& (4294967295 : Nat))) / (4294967296 : Nat))) % 18446744073709551616) / (4294967296 : Nat))) % 18446744073709551616) + (((((((nR .u64 (x_0 / (4294967296 : Nat)) (y_1 &&& (4294967295 : Nat))) + ((nR .u64 (x_0 &&& (4294967295 : Nat)) (y_1 &&& (4294967295 : Nat))) / (4294967296 : Nat))) % 18446744073709551616) &&& (4294967295 : Nat)) + (nR .u64 (x_0 &&& (4294967295 : Nat)) (y_1 / (4294967296 : Nat)))) % 18446744073709551616) / (4294967296 : Nat))) % 18446744073709551616), (nR .u64 x_0 y_1), ())
def bJ (x y : Nat) : Nat × Nat × Unit := (x * y / 18446744073709551616, x * y % 18446744073709551616, ())
theorem aXW (x : Nat) : x &&& 4294967295 = x % 4294967296 := Nat.and_two_pow_sub_one_eq_mod x 32
theorem aUF {x y : Nat} (hx : x < 18446744073709551616) (hy : y < 18446744073709551616) :
  ((x / 4294967296 * (y / 4294967296) % 18446744073709551616 + (x / 4294967296 * (y &&& 4294967295) % 18446744073709551616 + (x &&& 4294967295) * (y &&& 4294967295) % 18446744073709551616 / 4294967296) % 18446744073709551616 / 4294967296) % 18446744073709551616 +
     (((x / 4294967296 * (y &&& 4294967295) % 18446744073709551616 + (x &&& 4294967295) * (y &&& 4294967295) % 18446744073709551616 / 4294967296) % 18446744073709551616 &&& 4294967295) + (x &&& 4294967295) * (y / 4294967296) % 18446744073709551616) % 18446744073709551616 / 4294967296) % 18446744073709551616 = x * y / 18446744073709551616 := by
 simp only [aXW]
 have a1 : x / 4294967296 ≤ 4294967295 := by omega
 have a2 : x % 4294967296 ≤ 4294967295 := by omega
 have b1 : y / 4294967296 ≤ 4294967295 := by omega
 have b2 : y % 4294967296 ≤ 4294967295 := by omega
 have ex := Nat.div_add_mod x 4294967296
 have ey := Nat.div_add_mod y 4294967296
 generalize x / 4294967296 = a at *
 generalize x % 4294967296 = b at *
 generalize y / 4294967296 = c at *
 generalize y % 4294967296 = d at *
 subst ex; subst ey
 have e : (4294967296 * a + b) * (4294967296 * c + d) = a * c * 18446744073709551616 + (a * d + b * c) * 4294967296 + b * d := by
  simp only [Nat.add_mul, Nat.mul_add]
  have h1 : 4294967296 * a * (4294967296 * c) = a * c * 18446744073709551616 := by
   rw [Nat.mul_mul_mul_comm, Nat.mul_comm _ (a * c)]
  have h2 : 4294967296 * a * d = a * d * 4294967296 := by rw [Nat.mul_assoc, Nat.mul_comm]
  have h3 : b * (4294967296 * c) = b * c * 4294967296 := by rw [Nat.mul_left_comm, Nat.mul_comm]
  omega
 rw [e]
 have p1 := Nat.mul_le_mul a1 b1
 have p2 := Nat.mul_le_mul a1 b2
 have p3 := Nat.mul_le_mul a2 b1
 have p4 := Nat.mul_le_mul a2 b2
 generalize a * c = ac at *
 generalize a * d = ad at *
 generalize b * c = bc at *
 generalize b * d = bd at *
 omega
theorem aJO (x : Nat) (wx : (Ty.u .u64).wf x) (y : Nat) (wy : (Ty.u .u64).wf y) : uB x y = some (bJ x y) := by
 unfold uB bJ
 simp only [aG8]
 rw [aUF (aCR wx) (aCR wy)]
end Nu
end Go.Proofs
namespace Go.Proofs
open Go.Vc
set_option maxRecDepth 20000
namespace Nu
abbrev Sz (a : List Nat) : Prop := a.length ≤ 1099511627776
abbrev pSz (a : List Nat) : Prop := Sz a
abbrev aJP (a b : List Nat) : Prop := Sz a ∧ Sz b
abbrev aRS (a b : List Nat) : Prop := Nrm a ∧ Nrm b
abbrev aJQ (a : List Nat) : Prop := Nrm a ∧ Sz a
theorem aNk {a : List Nat} (h : 0 < a.length) : Nrm a ↔ a.getD (a.length - 1) 0 ≠ 0 := by
 unfold Nrm
 rw [List.getD_eq_getElem?_getD, List.getLastD_eq_getLast?, List.getLast?_eq_getElem?]
 rw [List.getElem?_eq_getElem (show a.length - 1 < a.length by omega)]
 rfl
noncomputable def vZ (a_4 : (List Nat)) : Option (((List Nat)) ⊕ (((List Nat)))) :=
 ck ((((0 : Int) < (a_4.length : Int)) → (I64 ((a_4.length : Int) - (1 : Int))))) (ck ((((0 : Int) < (a_4.length : Int)) → (0 ≤ ((a_4.length : Int) - (1 : Int)) ∧ ((a_4.length : Int) - (1 : Int)) < (a_4.length : Int)))) (if ((0 : Int) < (a_4.length : Int)) ∧ ((a_4.getD (((a_4.length : Int) - (1 : Int)).toNat) (0 : Nat)) = (0 : Nat)) then ck (I64 ((a_4.length : Int) - (1 : Int))) (ck (0 ≤ ((a_4.length : Int) - (1 : Int)) ∧ ((a_4.length : Int) - (1 : Int)) ≤ (a_4.length : Int)) (some (.inl (List.take (((a_4.length : Int) - (1 : Int)).toNat) a_4)))) else some (.inr a_4)))
noncomputable def zG (a_0 : (List Nat)) : Option (List Nat) :=
 (eQ (fun d : (List Nat) => vZ d) a_0).bind (fun e => some e)
def dE (a : List Nat) : List Nat := lb (nv a)
theorem aNl (a : List Nat) (w : (Ty.sl (.u .u64)).wf a) : zG a = some (dE a) := by
 unfold zG
 refine bH (kO (I := fun d => Lm d ∧ d.length ≤ 9223372036854775807) (fun d => d.length) (fun d => lb (nv d)) ?_ a ⟨tZ w, aQh w⟩) rfl
 intro d ⟨hl, hn⟩
 unfold vZ
 rcases Nat.eq_zero_or_pos d.length with h0 | h0
 ·right
  have e : d = [] := List.eq_nil_of_length_eq_zero h0
  subst e
  refine aB (by intro h; simp at h) (aB (by intro h; simp at h) ?_)
  rw [if_neg (by simp)]
  rw [aAG, mO]
 ·have e1 : ((d.length : Nat) : Int) - 1 = ((d.length - 1 : Nat) : Int) := by omega
  rw [e1, Int.toNat_natCast]
  by_cases hz : d.getD (d.length - 1) 0 = 0
  ·left
   refine ⟨d.take (d.length - 1), aB (by intro _; constructor <;> omega) (aB (by intro _; constructor <;> omega) ?_), ⟨aAk hl _, by rw [List.length_take]; omega⟩, by rw [List.length_take]; omega, ?_⟩
   ·rw [if_pos ⟨by omega, hz⟩]
    exact aB (by constructor <;> omega) (aB (by constructor <;> omega) rfl)
   ·have := rA (a := d) (k := d.length - 1) (by omega)
    rw [hz, show d.length - 1 + 1 = d.length from by omega, List.take_length] at this
    simp only [Nat.mul_zero, Nat.add_zero] at this
    rw [this]
  ·right
   refine aB (by intro _; constructor <;> omega) (aB (by intro _; constructor <;> omega) ?_)
   rw [if_neg (fun h => hz h.2), aRP hl ((aNk h0).2 hz)]
noncomputable def aA7 (a_0 : (List Nat)) : Option Bool :=
 ck ((¬ ((a_0.length : Int) = (0 : Int)) → ((a_0.length : Int) ≤ (64 : Int)) → (I64 ((a_0.length : Int) - (1 : Int))))) (ck ((¬ ((a_0.length : Int) = (0 : Int)) → ((a_0.length : Int) ≤ (64 : Int)) → (0 ≤ ((a_0.length : Int) - (1 : Int)) ∧ ((a_0.length : Int) - (1 : Int)) < (a_0.length : Int)))) (some ((decide ((a_0.length : Int) = (0 : Int))) || ((decide ((a_0.length : Int) ≤ (64 : Int))) && (!(decide ((a_0.getD (((a_0.length : Int) - (1 : Int)).toNat) (0 : Nat)) = (0 : Nat))))))))
def aA8 (a : List Nat) : Bool := decide (a.length ≤ 64 ∧ Nrm a)
theorem aOP (a : List Nat) (w : (Ty.sl (.u .u64)).wf a) : aA7 a = some (aA8 a) := by
 have hn := aQh w
 unfold aA7 aA8
 rcases Nat.eq_zero_or_pos a.length with h0 | h0
 ·have e : a = [] := List.eq_nil_of_length_eq_zero h0
  subst e
  refine aB (by intro h; simp at h) (aB (by intro h; simp at h) ?_)
  decide
 ·have e1 : ((a.length : Nat) : Int) - 1 = ((a.length - 1 : Nat) : Int) := by omega
  rw [e1, Int.toNat_natCast]
  refine aB (by intro _ _; constructor <;> omega) (aB (by intro _ _; constructor <;> omega) ?_)
  congr 1
  rw [Bool.eq_iff_iff]
  have := aNk h0
  simp only [Bool.or_eq_true, decide_eq_true_eq, Bool.and_eq_true, Bool.not_eq_true', decide_eq_false_iff_not]
  rw [this]
  constructor
  ·rintro (h | h)
   ·omega
   ·exact ⟨by omega, h.2⟩
  ·intro h; exact .inr ⟨by omega, h.2⟩
noncomputable def zH (less_0 : Bool) : Option Int :=
 if less_0 = true then some (-1 : Int) else some (1 : Int)
def sM (b : Bool) : Int := if b = true then -1 else 1
theorem aNm (b : Bool) (w : Ty.bool.wf b) : zH b = some (sM b) := by
 unfold zH sM
 cases b <;> rfl
noncomputable def qI (a_0 : (List Nat)) (b_1 : (List Nat)) (i_5 : Int) : Option ((Int) ⊕ ((Unit) ⊕ Int)) :=
 if (0 : Int) ≤ i_5 then ck (0 ≤ i_5 ∧ i_5 < (a_0.length : Int)) (ck (0 ≤ i_5 ∧ i_5 < (b_1.length : Int)) (if ¬ ((a_0.getD (i_5.toNat) (0 : Nat)) = (b_1.getD (i_5.toNat) (0 : Nat))) then ck (0 ≤ i_5 ∧ i_5 < (a_0.length : Int)) (ck (0 ≤ i_5 ∧ i_5 < (b_1.length : Int)) (some (.inr (.inr (sM (decide ((a_0.getD (i_5.toNat) (0 : Nat)) < (b_1.getD (i_5.toNat) (0 : Nat))))))))) else ck (I64 (i_5 - (1 : Int))) (some (.inl (i_5 - (1 : Int)))))) else some (.inr (.inl ()))
noncomputable def wO (a_0 : (List Nat)) (b_1 : (List Nat)) : Option Int :=
 if ¬ ((a_0.length : Int) = (b_1.length : Int)) then some (sM (decide ((a_0.length : Int) < (b_1.length : Int)))) else ck (I64 ((a_0.length : Int) - (1 : Int))) ((eQ (fun d : Int => qI a_0 b_1 d) ((a_0.length : Int) - (1 : Int))).bind (fun e => match e with | (.inl e) => some (0 : Int) | (.inr e) => some e))
def zV (x y : Nat) : Int := if x < y then -1 else if x = y then 0 else 1
def oW (a b : List Nat) : Int := zV (nv a) (nv b)
theorem aMA {a b : List Nat} (ha : Lm a) (hb : Nrm b) (h : a.length < b.length) : nv a < nv b := by
 have h1 := kP ha
 have h2 := aRQ hb (by intro e; subst e; simp at h)
 exact Nat.lt_of_lt_of_le h1 (Nat.le_trans (Nat.pow_le_pow_right (by decide) (by omega)) h2)
theorem aK8 (a : List Nat) (wa : (Ty.sl (.u .u64)).wf a) (b : List Nat) (wb : (Ty.sl (.u .u64)).wf b) (hp : aRS a b) : wO a b = some (oW a b) := by
 have la := tZ wa
 have lb' := tZ wb
 have na := aQh wa
 unfold wO oW
 refine aB8 (fun h => ?_) (fun h => ?_)
 ·unfold sM zV
  rcases Nat.lt_or_ge a.length b.length with hl | hl
  ·have := aMA la hp.2 hl
   simp [hl, this]
  ·have hl' : b.length < a.length := by omega
   have := aMA lb' hp.1 hl'
   have h1 : ¬ a.length < b.length := by omega
   have h2 : ¬ nv a < nv b := by omega
   have h3 : ¬ nv a = nv b := by omega
   simp [h1, h2, h3]
 ·have hlen : a.length = b.length := by omega
  refine aB (by constructor <;> omega) ?_
  have key := kO (step := fun d : Int => qI a b d) (I := fun i => -1 ≤ i ∧ i < a.length ∧ nv (a.drop (i + 1).toNat) = nv (b.drop (i + 1).toNat)) (fun i => (i + 1).toNat)
   (fun i => if nv (a.take (i + 1).toNat) = nv (b.take (i + 1).toNat) then (.inl () : Unit ⊕ Int) else .inr (if nv (a.take (i + 1).toNat) < nv (b.take (i + 1).toNat) then -1 else 1)) ?_ ((a.length : Int) - 1) ⟨by omega, by omega, by rw [List.drop_eq_nil_of_le (by omega), List.drop_eq_nil_of_le (by omega)]⟩
  ·rw [show ((a.length : Int) - 1 + 1).toNat = a.length from by omega, List.take_length] at key
   rw [hlen, List.take_length] at key
   rw [hlen]
   refine bH key ?_
   unfold zV
   by_cases e : nv a = nv b
   ·simp [e]
   ·by_cases e2 : nv a < nv b <;> simp [e, e2]
  ·intro i ⟨h1, h2, h3⟩
   try dsimp only
   unfold qI
   by_cases hi : 0 ≤ i
   ·have hk : (i + 1).toNat = i.toNat + 1 := by omega
    have hia : i.toNat < a.length := by omega
    have hib : i.toNat < b.length := by omega
    rw [if_pos hi, hk, rA hia, rA hib]
    have ta := kP (aAk la i.toNat)
    have tb := kP (aAk lb' i.toNat)
    rw [List.length_take, Nat.min_eq_left (by omega)] at ta tb
    by_cases he : a.getD i.toNat 0 = b.getD i.toNat 0
    ·left
     refine ⟨i - 1, aB (by constructor <;> omega) (aB (by constructor <;> omega) ?_), ⟨by omega, by omega, ?_⟩, by omega, ?_⟩
     ·rw [if_neg (by simpa using he)]
      exact aB (by constructor <;> omega) rfl
     ·rw [show (i - 1 + 1).toNat = i.toNat from by omega, List.drop_eq_getElem_cons hia, List.drop_eq_getElem_cons hib, oG, oG]
      rw [hk] at h3
      rw [h3]
      rw [List.getD_eq_getElem?_getD, List.getD_eq_getElem?_getD, List.getElem?_eq_getElem hia, List.getElem?_eq_getElem hib] at he
      have he : a[i.toNat] = b[i.toNat] := he
      rw [he]
     ·rw [show (i - 1 + 1).toNat = i.toNat from by omega, he]
      simp only [Nat.add_right_cancel_iff, Nat.add_lt_add_iff_right]
    ·right
     refine aB (by constructor <;> omega) (aB (by constructor <;> omega) ?_)
     rw [if_pos he]
     refine aB (by constructor <;> omega) (aB (by constructor <;> omega) ?_)
     unfold sM
     generalize a.getD i.toNat 0 = x at *
     generalize b.getD i.toNat 0 = y at *
     generalize nv (a.take i.toNat) = p at *
     generalize nv (b.take i.toNat) = q at *
     generalize 18446744073709551616 ^ i.toNat = P at *
     rcases Nat.lt_or_ge x y with hxy | hxy
     ·have : P * (x + 1) ≤ P * y := Nat.mul_le_mul_left _ hxy
      rw [Nat.mul_add] at this
      have h5 : ¬ p + P * x = q + P * y := by omega
      have h6 : p + P * x < q + P * y := by omega
      simp [hxy, h5, h6]
     ·have hxy' : y < x := by omega
      have : P * (y + 1) ≤ P * x := Nat.mul_le_mul_left _ hxy'
      rw [Nat.mul_add] at this
      have h5 : ¬ p + P * x = q + P * y := by omega
      have h6 : ¬ p + P * x < q + P * y := by omega
      have h7 : ¬ x < y := by omega
      simp [h7, h5, h6]
   ·right
    have e : i = -1 := by omega
    subst e
    rw [if_neg hi]
    simp [nv]
noncomputable def zI (a_0 : (List Nat)) : Option Int :=
 if (a_0.length : Int) = (0 : Int) then some (0 : Int) else ck (I64 ((64 : Int) * (a_0.length : Int))) (ck (I64 ((a_0.length : Int) - (1 : Int))) (ck (0 ≤ ((a_0.length : Int) - (1 : Int)) ∧ ((a_0.length : Int) - (1 : Int)) < (a_0.length : Int)) (ck (I64 (((64 : Int) * (a_0.length : Int)) - (aA (a_0.getD (((a_0.length : Int) - (1 : Int)).toNat) (0 : Nat))))) (some (((64 : Int) * (a_0.length : Int)) - (aA (a_0.getD (((a_0.length : Int) - (1 : Int)).toNat) (0 : Nat))))))))
def aV (a : List Nat) : Int := (bl (nv a) : Int)
theorem qJ (k : Nat) : 18446744073709551616 ^ k = 2 ^ (64 * k) := by rw [Nat.pow_mul]
theorem aQi {x m k : Nat} (hx : x ≠ 0) (hm : m < 2 ^ k) : bl (m + 2 ^ k * x) = k + bl x := by
 have hk := Nat.two_pow_pos k
 have h1 : 2 ^ k * 1 ≤ 2 ^ k * x := Nat.mul_le_mul_left _ (by omega)
 rw [aFj (x := m + 2 ^ k * x) (k := k) (by omega), Nat.add_mul_div_left _ _ hk, Nat.div_eq_of_lt hm, Nat.zero_add]
theorem aWC {a : List Nat} (h : 0 < a.length) : nv a = nv (a.take (a.length - 1)) + 18446744073709551616 ^ (a.length - 1) * a.getD (a.length - 1) 0 := by
 have := rA (a := a) (k := a.length - 1) (by omega)
 rwa [show a.length - 1 + 1 = a.length from by omega, List.take_length] at this
theorem aWD {a : List Nat} (hl : Lm a) (hn : Nrm a) (h : 0 < a.length) : bl (nv a) = 64 * (a.length - 1) + bl (a.getD (a.length - 1) 0) := by
 rw [aWC h, qJ]
 refine aQi ((aNk h).1 hn) ?_
 have := kP (aAk hl (a.length - 1))
 rw [List.length_take, Nat.min_eq_left (by omega), qJ] at this
 exact this
theorem aNn (a : List Nat) (w : (Ty.sl (.u .u64)).wf a) (hp : aJQ a) : zI a = some (aV a) := by
 obtain ⟨hn, hs⟩ := hp
 unfold zI aV
 refine aB8 (fun h => ?_) (fun h => ?_)
 ·have e : a = [] := List.eq_nil_of_length_eq_zero (by omega)
  subst e; rfl
 ·have h0 : 0 < a.length := by omega
  have h64 := aSS (gB (tZ w) (a.length - 1))
  have e1 : ((a.length : Nat) : Int) - 1 = ((a.length - 1 : Nat) : Int) := by omega
  rw [e1, Int.toNat_natCast]
  unfold aA
  rw [aWD (tZ w) hn h0]
  refine aB (by constructor <;> omega) (aB (by constructor <;> omega) (aB (by constructor <;> omega) (aB (by constructor <;> omega) ?_)))
  congr 1; omega
end Nu
end Go.Proofs
namespace Go.Proofs
open Go.Vc
set_option maxRecDepth 20000
namespace Nu
def tzn (n : Nat) : Nat := if h : n = 0 then 0 else if n % 2 = 1 then 0 else 1 + tzn (n / 2)
termination_by n
decreasing_by exact Nat.div_lt_self (by omega) (by decide)
theorem zJ {n : Nat} (h : n ≠ 0) : ∃ m, n = 2 ^ tzn n * (2 * m + 1) := by
 induction n using Nat.strongRecOn with
 | _ n ih =>
  rw [tzn, dif_neg h]
  split
  ·exact ⟨n / 2, by rw [Nat.pow_zero]; omega⟩
  ·obtain ⟨m, hm⟩ := ih (n / 2) (Nat.div_lt_self (by omega) (by decide)) (by omega)
   refine ⟨m, ?_⟩
   rw [Nat.add_comm 1, Nat.pow_succ, Nat.mul_assoc, Nat.mul_comm 2, ← Nat.mul_assoc, ← hm]
   omega
theorem aWE {a b m k : Nat} (h : 2 ^ a * (2 * m + 1) = 2 ^ b * (2 * k + 1)) : a = b := by
 have main : ∀ {a b m k : Nat}, 2 ^ a * (2 * m + 1) = 2 ^ b * (2 * k + 1) → ¬ a < b := fun {a b m k} h hlt => by
  obtain ⟨d, rfl⟩ : ∃ d, b = a + (d + 1) := ⟨b - a - 1, by omega⟩
  rw [Nat.pow_add, Nat.mul_assoc] at h
  have := Nat.eq_of_mul_eq_mul_left (Nat.two_pow_pos a) h
  rw [Nat.pow_succ, Nat.mul_comm (2 ^ d) 2, Nat.mul_assoc] at this
  omega
 have := main h
 have := main h.symm
 omega
theorem aGq {n k m : Nat} (h : n = 2 ^ k * (2 * m + 1)) : tzn n = k := by
 have h0 : n ≠ 0 := by
  intro e
  have := Nat.two_pow_pos k
  have : 0 < 2 ^ k * (2 * m + 1) := Nat.mul_pos this (by omega)
  omega
 obtain ⟨m', hm⟩ := zJ h0
 exact aWE (hm.symm.trans h)
theorem aWF {x : Nat} (k : Nat) (h : x ≠ 0) : tzn (2 ^ k * x) = k + tzn x := by
 obtain ⟨m, hm⟩ := zJ h
 refine aGq (m := m) ?_
 rw [Nat.pow_add, Nat.mul_assoc, ← hm]
theorem aRT {x : Nat} (hx : x < 18446744073709551616) (h : x ≠ 0) : Lib.ctz 64 x = tzn x ∧ tzn x < 64 := by
 obtain ⟨m, hm, hk⟩ := Lib.ctzFrom_spec 64 x (by omega) hx
 have e : Lib.ctz 64 x = Lib.ctzFrom 64 x := by simp [Lib.ctz, h]
 have := aGq hm
 rw [e]; omega
theorem aWG {x q : Nat} (hx : x < 18446744073709551616) (h : x ≠ 0) : tzn (x + 18446744073709551616 * q) = tzn x := by
 obtain ⟨m, hm⟩ := zJ h
 have hk := (aRT hx h).2
 refine aGq (m := m + 2 ^ (63 - tzn x) * q) ?_
 have e : 18446744073709551616 = 2 ^ tzn x * (2 * 2 ^ (63 - tzn x)) := by
  rw [← Nat.mul_assoc, Nat.mul_comm _ 2, ← Nat.pow_succ', ← Nat.pow_add, show tzn x + 1 + (63 - tzn x) = 64 from by omega]
 rw [e]
 generalize tzn x = t at hm
 subst hm
 have h1 : 2 ^ t * (2 * m + 1) + 2 ^ t * (2 * 2 ^ (63 - t)) * q = 2 ^ t * (2 * m + 1 + 2 * (2 ^ (63 - t) * q)) := by
  rw [Nat.mul_add (2 ^ t) (2 * m + 1), Nat.mul_assoc (2 ^ t), Nat.mul_assoc 2]
 rw [h1]
 congr 1; omega
noncomputable def qK (a_0 : (List Nat)) (x7_4 : Int) : Option ((Int) ⊕ ((Unit) ⊕ Int)) :=
 if x7_4 < (a_0.length : Int) then ck (0 ≤ x7_4 ∧ x7_4 < (a_0.length : Int)) (if ¬ ((a_0.getD (x7_4.toNat) (0 : Nat)) = (0 : Nat)) then ck (I64 ((64 : Int) * x7_4)) (ck (I64 (((64 : Int) * x7_4) + (fS (a_0.getD (x7_4.toNat) (0 : Nat))))) (some (.inr (.inr (((64 : Int) * x7_4) + (fS (a_0.getD (x7_4.toNat) (0 : Nat)))))))) else ck (I64 (x7_4 + (1 : Int))) (some (.inl (x7_4 + (1 : Int))))) else some (.inr (.inl ()))
noncomputable def wP (a_0 : (List Nat)) : Option Int :=
 (eQ (fun d : Int => qK a_0 d) (0 : Int)).bind (fun e => match e with | (.inl e) => some (-1 : Int) | (.inr e) => some e)
def bX (a : List Nat) : Int := if nv a = 0 then -1 else (tzn (nv a) : Int)
theorem aK9 (a : List Nat) (w : (Ty.sl (.u .u64)).wf a) (hp : pSz a) : wP a = some (bX a) := by
 have hl := tZ w
 have hs : a.length ≤ 1099511627776 := hp
 unfold wP bX
 have key := kO (step := fun d : Int => qK a d) (I := fun i => 0 ≤ i ∧ i ≤ a.length ∧ nv (a.take i.toNat) = 0) (fun i => (a.length - i).toNat)
   (fun i => if nv a = 0 then (.inl () : Unit ⊕ Int) else .inr (tzn (nv a) : Int)) ?_ 0 ⟨by omega, by omega, rfl⟩
 ·refine bH key ?_
  by_cases e : nv a = 0 <;> simp [e]
 ·intro i ⟨h0, h1, h2⟩
  try dsimp only
  unfold qK
  by_cases hi : i < a.length
  ·have hk : i.toNat < a.length := by omega
   have hd := tY a i.toNat
   rw [h2, Nat.zero_add, Nat.min_eq_left (by omega), List.drop_eq_getElem_cons hk, oG] at hd
   have hg : a.getD i.toNat 0 = a[i.toNat] := by rw [List.getD_eq_getElem?_getD, List.getElem?_eq_getElem hk]; rfl
   have hx := gB hl i.toNat
   rw [← hg] at hd
   rw [if_pos hi]
   by_cases hz : a.getD i.toNat 0 = 0
   ·left
    refine ⟨i + 1, aB (by constructor <;> omega) ?_, ⟨by omega, by omega, ?_⟩, by omega, rfl⟩
    ·rw [if_neg (by simpa using hz)]
     exact aB (by constructor <;> omega) rfl
    ·rw [show (i + 1).toNat = i.toNat + 1 from by omega, rA hk, h2, hz, Nat.mul_zero]
   ·right
    obtain ⟨c1, c2⟩ := aRT hx hz
    have hne : a.getD i.toNat 0 + 18446744073709551616 * nv (a.drop (i.toNat + 1)) ≠ 0 := by omega
    have ht : tzn (nv a) = 64 * i.toNat + tzn (a.getD i.toNat 0) := by
     rw [hd, qJ, aWF _ hne, aWG hx hz]
    have hn0 : nv a ≠ 0 := by
     rw [hd]
     exact Nat.mul_ne_zero (by rw [qJ]; exact Nat.pos_iff_ne_zero.1 (Nat.two_pow_pos _)) hne
    refine aB (by constructor <;> omega) ?_
    rw [if_pos (by simpa using hz), if_neg hn0, ht]
    unfold fS
    rw [c1]
    refine aB (by constructor <;> omega) (aB (by constructor <;> omega) ?_)
    congr 3; omega
  ·right
   rw [if_neg hi]
   have : nv a = 0 := by rw [show i.toNat = a.length from by omega, List.take_length] at h2; exact h2
   rw [if_pos this]
theorem pF (b : List Nat) (i : Nat) : nv (b.take (i + 1)) = nv (b.take i) + 18446744073709551616 ^ i * b.getD i 0 := by
 rcases Nat.lt_or_ge i b.length with h | h
 ·exact rA h
 ·rw [List.take_of_length_le (by omega), List.take_of_length_le h, List.getD_eq_getElem?_getD, List.getElem?_eq_none h]
  simp
theorem aUG {a : List Nat} {i v : Nat} (h : i < a.length) : (a.set i v).take (i + 1) = a.take i ++ [v] := by
 rw [take_succ (by rw [List.length_set]; exact h), List.take_set_of_le (Nat.le_refl i), List.getD_eq_getElem?_getD, List.getElem?_set_self h]; rfl
theorem aG9 {a : List Nat} {i v : Nat} (h : i < a.length) : nv ((a.set i v).take (i + 1)) = nv (a.take i) + 18446744073709551616 ^ i * v := by
 rw [aUG h, aGm, List.length_take, Nat.min_eq_left (Nat.le_of_lt h)]; simp [nv]
theorem aFk {a b : List Nat} {i : Nat} (h : a.drop i = b.drop i) : a.getD i 0 = b.getD i 0 := by
 have h1 := congrArg (fun l => l.getD 0 0) h
 simpa [List.getD_eq_getElem?_getD, List.getElem?_drop] using h1
theorem yO {a b : List Nat} {i : Nat} (h : a.drop i = b.drop i) : a.drop (i + 1) = b.drop (i + 1) := by
 have h1 := congrArg (List.drop 1) h
 simpa [List.drop_drop] using h1
theorem drop_set {a : List Nat} {i v : Nat} : (a.set i v).drop (i + 1) = a.drop (i + 1) := by
 rw [List.drop_set_of_lt (by omega)]
noncomputable def nW (x22_13 : Int) (out_14 : (List Nat)) (carry_12 : Nat) (x_21 : Nat) : Option ((Nat × Int × (List Nat)) ⊕ (((List Nat)))) :=
 ck (0 ≤ x22_13 ∧ x22_13 < (out_14.length : Int)) (ck ((zF (out_14.getD (x22_13.toNat) (0 : Nat)) x_21 carry_12)) (ck (0 ≤ x22_13 ∧ x22_13 < (out_14.length : Int)) (ck (I64 (x22_13 + (1 : Int))) (some (.inl ((((gO (out_14.getD (x22_13.toNat) (0 : Nat)) x_21 carry_12).2).1), (x22_13 + (1 : Int)), (out_14.set (x22_13.toNat) ((gO (out_14.getD (x22_13.toNat) (0 : Nat)) x_21 carry_12).1))))))))
noncomputable def nX (a_3 : (List Nat)) (b_4 : (List Nat)) (carry_12 : Nat) (x22_13 : Int) (out_14 : (List Nat)) : Option ((Nat × Int × (List Nat)) ⊕ (((List Nat)))) :=
 if x22_13 < (((((id a_3) ++ ([0] : List Nat)).length) : Nat) : Int) then if x22_13 < (b_4.length : Int) then ck (0 ≤ x22_13 ∧ x22_13 < (b_4.length : Int)) (nW x22_13 out_14 carry_12 (b_4.getD (x22_13.toNat) (0 : Nat))) else if carry_12 = (0 : Nat) then some (.inr out_14) else nW x22_13 out_14 carry_12 (0 : Nat) else some (.inr out_14)
noncomputable def nY (a_3 : (List Nat)) (b_4 : (List Nat)) : Option ((List Nat)) :=
 ck ((aQg a_3)) (ck ((((id a_3).length) + (1 : Nat)) * 8 ≤ 140737488355328) ((eQ (fun d : Nat × Int × (List Nat) => nX a_3 b_4 d.1 d.2.1 d.2.2) ((0 : Nat), (0 : Int), ((id a_3) ++ ([0] : List Nat)))).bind (fun e => some (dE e))))
noncomputable def zK (a_0 : (List Nat)) (b_1 : (List Nat)) : Option (List Nat) :=
 if (a_0.length : Int) < (b_1.length : Int) then nY b_1 a_0 else nY a_0 b_1
def iD (a b : List Nat) : List Nat := lb (nv a + nv b)
structure aHa (a b : List Nat) (c : Nat) (i : Int) (out : List Nat) : Prop where
 i0 : 0 ≤ i
 i1 : i ≤ a.length + 1
 len : out.length = a.length + 1
 lm : Lm out
 c1 : c ≤ 1
 rest : out.drop i.toNat = (a ++ [0]).drop i.toNat
 sum : nv (out.take i.toNat) + 18446744073709551616 ^ i.toNat * c = nv ((a ++ [0]).take i.toNat) + nv (b.take i.toNat)
theorem aUH {P p q r x y c s c' : Nat} (h : p + P * c = q + r) (e : s + 18446744073709551616 * c' = x + y + c) : p + P * s + P * 18446744073709551616 * c' = q + P * x + (r + P * y) := by
 have e2 := congrArg (P * ·) e
 simp only [Nat.mul_add] at e2
 rw [Nat.mul_assoc P 18446744073709551616 c']
 omega
theorem aJR {a b : List Nat} {c : Nat} {i : Int} {out : List Nat} (lb' : Lm b) (h : aHa a b c i out) (hi : i < a.length + 1) : aHa a b ((out.getD i.toNat 0 + b.getD i.toNat 0 + c) / 18446744073709551616) (i + 1) (out.set i.toNat ((out.getD i.toNat 0 + b.getD i.toNat 0 + c) % 18446744073709551616)) := by
 have hx := gB h.lm i.toNat
 have hy := gB lb' i.toNat
 have hc := h.c1
 have h0 := h.i0
 have hl := h.len
 have e1 : (i + 1).toNat = i.toNat + 1 := by omega
 refine ⟨by omega, by omega, by rw [List.length_set]; exact hl, xH h.lm _ (Nat.mod_lt _ (by decide)), by omega, ?_, ?_⟩
 ·rw [e1, drop_set]; exact yO h.rest
 ·rw [e1, aG9 (by omega), pF, pF b, ← aFk h.rest, Nat.pow_succ]
  exact aUH h.sum (Nat.mod_add_div _ _)
theorem aRU {a b : List Nat} {c : Nat} {i : Int} {out : List Nat} (sa : a.length ≤ 1099511627776) (h : aHa a b c i out) (hi : i < a.length + 1) (y : Nat) : nW i out c y = some (.inl ((out.getD i.toNat 0 + y + c) / 18446744073709551616, i + 1, out.set i.toNat ((out.getD i.toNat 0 + y + c) % 18446744073709551616))) := by
 have h0 := h.i0
 have hl := h.len
 unfold nW gO
 exact aB (by constructor <;> omega) (aB h.c1 (aB (by constructor <;> omega) (aB (by constructor <;> omega) rfl)))
theorem aMB {a b : List Nat} {i : Int} {out : List Nat} (h : aHa a b 0 i out) (hb : (b.length : Int) ≤ i) : nv out = nv a + nv b := by
 have eA : nv (a ++ [0]) = nv a := by rw [aGm]; simp [nv]
 have lA : (a ++ [0]).length = a.length + 1 := by simp
 have h0 := h.i0
 have h1 := h.i1
 have hl := h.len
 have h6 := h.sum
 rw [Nat.mul_zero, Nat.add_zero, List.take_of_length_le (l := b) (by omega)] at h6
 have t1 := tY out i.toNat
 have t2 := tY (a ++ [0]) i.toNat
 rw [Nat.min_eq_left (by omega)] at t1
 rw [Nat.min_eq_left (by omega)] at t2
 rw [t1, h6, h.rest, ← eA, t2]; omega
theorem aQj {a b : List Nat} {c : Nat} {i : Int} {out : List Nat} (la : Lm a) (lb' : Lm b) (hab : b.length ≤ a.length) (h : aHa a b c i out) (hi : ¬ i < a.length + 1) : c = 0 := by
 have eA : nv (a ++ [0]) = nv a := by rw [aGm]; simp [nv]
 have lA : (a ++ [0]).length = a.length + 1 := by simp
 have h1 := h.i1
 have hl := h.len
 have h6 := h.sum
 rw [List.take_of_length_le (l := out) (by omega), List.take_of_length_le (l := a ++ [0]) (by omega), List.take_of_length_le (l := b) (by omega), eA] at h6
 have p1 := kP la
 have p2 := Nat.lt_of_lt_of_le (kP lb') (Nat.pow_le_pow_right (show 0 < 18446744073709551616 by decide) hab)
 rw [show i.toNat = a.length + 1 from by omega, Nat.pow_succ] at h6
 rcases Nat.eq_zero_or_pos c with h | h
 ·exact h
 ·have : 18446744073709551616 ^ a.length * 18446744073709551616 * 1 ≤ 18446744073709551616 ^ a.length * 18446744073709551616 * c := Nat.mul_le_mul_left _ h
  generalize 18446744073709551616 ^ a.length = P at *
  omega
theorem aWH {a b : List Nat} (la : Lm a) (lb' : Lm b) (sa : a.length ≤ 1099511627776) (hab : b.length ≤ a.length) {c : Nat} {i : Int} {out : List Nat} (h : aHa a b c i out) :
  (∃ d' : Nat × Int × List Nat, nX a b c i out = some (.inl d') ∧ aHa a b d'.1 d'.2.1 d'.2.2 ∧ (a.length + 1 - d'.2.1).toNat < (a.length + 1 - i).toNat) ∨ ∃ e, nX a b c i out = some (.inr e) ∧ Lm e ∧ nv e = nv a + nv b := by
 have lA : (id a ++ [0]).length = a.length + 1 := by simp
 have h0 := h.i0
 unfold nX
 rw [lA]
 by_cases hi : i < a.length + 1
 ·rw [if_pos (by omega)]
  by_cases hb : i < b.length
  ·left
   refine ⟨(_, _, _), ?_, aJR lb' h hi, ?_⟩
   ·rw [if_pos hb]
    exact aB (by constructor <;> omega) (aRU sa h hi _)
   ·simp only; omega
  ·rw [if_neg hb]
   have hy0 : b.getD i.toNat 0 = 0 := by rw [List.getD_eq_getElem?_getD, List.getElem?_eq_none (by omega)]; rfl
   by_cases hc : c = 0
   ·right
    subst hc
    exact ⟨out, by rw [if_pos rfl], h.lm, aMB h (by omega)⟩
   ·left
    have hs := aJR lb' h hi
    rw [hy0] at hs
    refine ⟨(_, _, _), ?_, hs, ?_⟩
    ·rw [if_neg hc]; exact aRU sa h hi _
    ·simp only; omega
 ·right
  rw [if_neg (by omega)]
  have hc := aQj la lb' hab h hi
  subst hc
  exact ⟨out, rfl, h.lm, aMB h (by have := h.i1; omega)⟩
theorem aRV {a b : List Nat} (la : Lm a) (lb' : Lm b) (sa : Sz a) (hab : b.length ≤ a.length) : nY a b = some (lb (nv a + nv b)) := by
 have sa : a.length ≤ 1099511627776 := sa
 have key := lV (step := fun d : Nat × Int × (List Nat) => nX a b d.1 d.2.1 d.2.2) (I := fun d => aHa a b d.1 d.2.1 d.2.2) (fun d => (a.length + 1 - d.2.1).toNat)
   (fun e => Lm e ∧ nv e = nv a + nv b) (fun d h => aWH la lb' sa hab h) (0, 0, a ++ [0]) ⟨by simp, by simp; omega, by simp, aUE la (by intro x hx; simp at hx; subst hx; decide), by simp, rfl, by simp [nv]⟩
 obtain ⟨e, h1, h2, h3⟩ := key
 unfold nY
 refine aB (by show a.length * 8 ≤ _; omega) (aB (by show (a.length + 1) * 8 ≤ _; omega) (bH h1 ?_))
 rw [dE, h3]
theorem aNo (a : List Nat) (wa : (Ty.sl (.u .u64)).wf a) (b : List Nat) (wb : (Ty.sl (.u .u64)).wf b) (hp : aJP a b) : zK a b = some (iD a b) := by
 unfold zK iD
 refine aB8 (fun h => ?_) (fun h => ?_)
 ·rw [aRV (tZ wb) (tZ wa) hp.2 (by omega), Nat.add_comm]
 ·exact aRV (tZ wa) (tZ wb) hp.1 (by omega)
noncomputable def zL (a_0 : (List Nat)) : Option (List Nat) :=
 ck ((aQg (dE a_0))) (some (id (dE a_0)))
def vL (a : List Nat) : List Nat := lb (nv a)
theorem aST {a : List Nat} (h : Lm a) : (lb (nv a)).length ≤ a.length := nV.2 (kP h)
theorem aNp (a : List Nat) (w : (Ty.sl (.u .u64)).wf a) (hp : pSz a) : zL a = some (vL a) := by
 have hp : a.length ≤ 1099511627776 := hp
 have := aST (tZ w)
 unfold zL vL dE
 exact aB (by show (lb (nv a)).length * 8 ≤ _; omega) rfl
end Nu
end Go.Proofs
namespace Go.Proofs
open Go.Vc
set_option maxRecDepth 20000
namespace Nu
theorem aUI {x y c o : Nat} (hx : x < 18446744073709551616) (hy : y < 18446744073709551616) (hc : c < 18446744073709551616) (ho : o < 18446744073709551616) :
  (o + (x * y % 18446744073709551616 + c + 0) % 18446744073709551616 + 0) % 18446744073709551616 + 18446744073709551616 * (((x * y / 18446744073709551616 + (x * y % 18446744073709551616 + c + 0) / 18446744073709551616) % 18446744073709551616 + (o + (x * y % 18446744073709551616 + c + 0) % 18446744073709551616 + 0) / 18446744073709551616) % 18446744073709551616) = o + x * y + c := by
 have p : x * y ≤ 18446744073709551615 * 18446744073709551615 := Nat.mul_le_mul (by omega) (by omega)
 have e := Nat.div_add_mod (x * y) 18446744073709551616
 have m := Nat.mod_lt (x * y) (show 0 < 18446744073709551616 by decide)
 generalize x * y = z at *
 generalize z / 18446744073709551616 = hi at *
 generalize z % 18446744073709551616 = lo at *
 omega
theorem qE {a : List Nat} (h : Lm a) (k : Nat) : a.getD k 0 = nv a / 18446744073709551616 ^ k % 18446744073709551616 := by
 rw [← aFi h]
 rcases Nat.lt_or_ge k a.length with hk | hk
 ·rw [List.drop_eq_getElem_cons hk, oG, Nat.add_mul_mod_self_left, List.getD_eq_getElem?_getD, List.getElem?_eq_getElem hk]
  exact (Nat.mod_eq_of_lt (h _ (List.getElem_mem hk))).symm
 ·rw [List.drop_eq_nil_of_le hk, List.getD_eq_getElem?_getD, List.getElem?_eq_none hk]; rfl
theorem aMC {a : List Nat} (h : Lm a) {k : Nat} (hk : nv a < 18446744073709551616 ^ k) : a.getD k 0 = 0 := by
 rw [qE h, Nat.div_eq_of_lt hk]
noncomputable def qL (x22_34 : Int) (b_1 : (List Nat)) (carry_62 : Nat) (out_63 : (List Nat)) : Option ((Int × (List Nat)) ⊕ (((List Nat)))) :=
 ck (I64 (x22_34 + (b_1.length : Int))) (ck (0 ≤ (x22_34 + (b_1.length : Int)) ∧ (x22_34 + (b_1.length : Int)) < (out_63.length : Int)) (ck (I64 (x22_34 + (1 : Int))) (some (.inl ((x22_34 + (1 : Int)), (out_63.set ((x22_34 + (b_1.length : Int)).toNat) carry_62))))))
noncomputable def lW (b_1 : (List Nat)) (a_0 : (List Nat)) (x22_34 : Int) (carry_64 : Nat) (x29_65 : Int) (out_66 : (List Nat)) : Option ((Nat × Int × (List Nat)) ⊕ ((Nat × (List Nat)))) :=
 if x29_65 < (b_1.length : Int) then ck (0 ≤ x29_65 ∧ x29_65 < (b_1.length : Int)) (ck ((zF (((bJ (a_0.getD (x22_34.toNat) (0 : Nat)) (b_1.getD (x29_65.toNat) (0 : Nat))).2).1) carry_64 (0 : Nat))) (ck (I64 (x22_34 + x29_65)) (ck (I64 (x22_34 + x29_65)) (ck (0 ≤ (x22_34 + x29_65) ∧ (x22_34 + x29_65) < (out_66.length : Int)) (ck ((zF (out_66.getD ((x22_34 + x29_65).toNat) (0 : Nat)) ((gO (((bJ (a_0.getD (x22_34.toNat) (0 : Nat)) (b_1.getD (x29_65.toNat) (0 : Nat))).2).1) carry_64 (0 : Nat)).1) (0 : Nat))) (ck (0 ≤ (x22_34 + x29_65) ∧ (x22_34 + x29_65) < (out_66.length : Int)) (ck (I64 (x29_65 + (1 : Int))) (some (.inl (((((((bJ (a_0.getD (x22_34.toNat) (0 : Nat)) (b_1.getD (x29_65.toNat) (0 : Nat))).1) + (((gO (((bJ (a_0.getD (x22_34.toNat) (0 : Nat)) (b_1.getD (x29_65.toNat) (0 : Nat))).2).1) carry_64 (0 : Nat)).2).1)) % 18446744073709551616) + (((gO (out_66.getD ((x22_34 + x29_65).toNat) (0 : Nat)) ((gO (((bJ (a_0.getD (x22_34.toNat) (0 : Nat)) (b_1.getD (x29_65.toNat) (0 : Nat))).2).1) carry_64 (0 : Nat)).1) (0 : Nat)).2).1)) % 18446744073709551616), (x29_65 + (1 : Int)), (out_66.set ((x22_34 + x29_65).toNat) ((gO (out_66.getD ((x22_34 + x29_65).toNat) (0 : Nat)) ((gO (((bJ (a_0.getD (x22_34.toNat) (0 : Nat)) (b_1.getD (x29_65.toNat) (0 : Nat))).2).1) carry_64 (0 : Nat)).1) (0 : Nat)).1)))))))))))) else some (.inr (carry_64, out_66))
noncomputable def lX (a_0 : (List Nat)) (b_1 : (List Nat)) (x22_34 : Int) (out_35 : (List Nat)) : Option ((Int × (List Nat)) ⊕ (((List Nat)))) :=
 if x22_34 < (a_0.length : Int) then ck (0 ≤ x22_34 ∧ x22_34 < (a_0.length : Int)) ((eQ (fun d : Nat × Int × (List Nat) => lW b_1 a_0 x22_34 d.1 d.2.1 d.2.2) ((0 : Nat), (0 : Int), out_35)).bind (fun e => qL x22_34 b_1 e.1 e.2)) else some (.inr out_35)
noncomputable def wQ (a_0 : (List Nat)) (b_1 : (List Nat)) : Option (List Nat) :=
 ck (I64 ((a_0.length : Int) + (b_1.length : Int))) (ck (0 ≤ ((a_0.length : Int) + (b_1.length : Int))) (ck ((8 : Int) * ((a_0.length : Int) + (b_1.length : Int)) ≤ 281474976710656) ((eQ (fun d : Int × (List Nat) => lX a_0 b_1 d.1 d.2) ((0 : Int), (List.replicate (((a_0.length : Int) + (b_1.length : Int)).toNat) (0 : Nat)))).bind (fun e => some (dE e)))))
def bY (a b : List Nat) : List Nat := lb (nv a * nv b)
structure aOQ (b : List Nat) (x : Nat) (i : Int) (o0 : List Nat) (c : Nat) (j : Int) (out : List Nat) : Prop where
 j0 : 0 ≤ j
 j1 : j ≤ b.length
 len : out.length = o0.length
 lm : Lm out
 c1 : c < 18446744073709551616
 rest : out.drop (i + j).toNat = o0.drop (i + j).toNat
 sum : nv out + 18446744073709551616 ^ (i + j).toNat * c = nv o0 + 18446744073709551616 ^ i.toNat * x * nv (b.take j.toNat)
theorem aWI {N N' N0 Q R P o v c c' x y t : Nat} (hP : P = Q * R) (h1 : N' + P * o = N + P * v) (h2 : N + P * c = N0 + Q * x * t) (h3 : v + 18446744073709551616 * c' = o + x * y + c) : N' + P * 18446744073709551616 * c' = N0 + Q * x * (t + R * y) := by
 have e := congrArg (P * ·) h3
 simp only [Nat.mul_add] at e
 have e2 : P * (x * y) = Q * x * (R * y) := by
  rw [hP, Nat.mul_assoc, Nat.mul_assoc]; congr 1; rw [Nat.mul_left_comm]
 rw [Nat.mul_add, Nat.mul_assoc P 18446744073709551616 c']
 omega
theorem aSU {b : List Nat} {x : Nat} {i : Int} {o0 : List Nat} {c : Nat} {j : Int} {out : List Nat} (hx : x < 18446744073709551616) (lb' : Lm b) (hi : 0 ≤ i) (hl : i + b.length ≤ o0.length) (h : aOQ b x i o0 c j out) (hj : j < b.length) {v c' : Nat} (hv : v < 18446744073709551616) (hc' : c' < 18446744073709551616) (e : v + 18446744073709551616 * c' = out.getD (i + j).toNat 0 + x * b.getD j.toNat 0 + c) :
  aOQ b x i o0 c' (j + 1) (out.set (i + j).toNat v) := by
 have h0 := h.j0
 have hlen := h.len
 have e1 : (i + (j + 1)).toNat = (i + j).toNat + 1 := by omega
 have e2 : (j + 1).toNat = j.toNat + 1 := by omega
 refine ⟨by omega, by omega, by rw [List.length_set]; exact hlen, xH h.lm _ hv, hc', ?_, ?_⟩
 ·rw [e1, drop_set]; exact yO h.rest
 ·rw [e1, e2, pF, Nat.pow_succ]
  exact aWI (R := 18446744073709551616 ^ j.toNat) (by rw [← Nat.pow_add]; congr 1; omega) (aAI (by omega)) h.sum e
theorem aUJ {a b : List Nat} {i : Int} {o0 : List Nat} (hi : 0 ≤ i) (hs : i + b.length ≤ 9000000000000) (hl : i + b.length ≤ o0.length) (la : Lm a) (lb' : Lm b) {c : Nat} {j : Int} {out : List Nat} (h : aOQ b (a.getD i.toNat 0) i o0 c j out) :
  (∃ d' : Nat × Int × List Nat, lW b a i c j out = some (.inl d') ∧ aOQ b (a.getD i.toNat 0) i o0 d'.1 d'.2.1 d'.2.2 ∧ (b.length - d'.2.1).toNat < (b.length - j).toNat) ∨ ∃ e : Nat × List Nat, lW b a i c j out = some (.inr e) ∧ aOQ b (a.getD i.toNat 0) i o0 e.1 b.length e.2 := by
 have h0 := h.j0
 have hlen := h.len
 have h1 := h.j1
 have hx := gB la i.toNat
 have hy := gB lb' j.toNat
 have ho := gB h.lm (i + j).toNat
 unfold lW
 by_cases hj : j < b.length
 ·left
  have key := aUI hx hy h.c1 ho
  refine ⟨(_, _, _), ?_, aSU hx lb' hi hl h hj (Nat.mod_lt _ (by decide)) (Nat.mod_lt _ (by decide)) key, ?_⟩
  ·rw [if_pos hj]
   refine aB (by constructor <;> omega) (aB (Nat.zero_le _) (aB (by constructor <;> omega) (aB (by constructor <;> omega) (aB (by constructor <;> omega) (aB (Nat.zero_le _) (aB (by constructor <;> omega) (aB (by constructor <;> omega) ?_)))))))
   simp only [bJ, gO]
  ·simp only; omega
 ·right
  refine ⟨(c, out), by rw [if_neg hj], ?_⟩
  have e : j = b.length := by omega
  rw [e] at h
  exact h
structure aUK (a b : List Nat) (i : Int) (out : List Nat) : Prop where
 i0 : 0 ≤ i
 i1 : i ≤ a.length
 len : out.length = a.length + b.length
 lm : Lm out
 sum : nv out = nv (a.take i.toNat) * nv b
theorem aSV {a b : List Nat} {i : Int} {out : List Nat} (la : Lm a) (lb' : Lm b) (h : aUK a b i out) : nv out < 18446744073709551616 ^ (i.toNat + b.length) := by
 rw [h.sum, Nat.pow_add]
 have h1 := kP (aAk la i.toNat)
 have h2 := kP lb'
 have h3 : (a.take i.toNat).length ≤ i.toNat := by rw [List.length_take]; omega
 have h4 := Nat.lt_of_lt_of_le h1 (Nat.pow_le_pow_right (show 0 < 18446744073709551616 by decide) h3)
 have hp : 0 < 18446744073709551616 ^ b.length := Nat.pow_pos (by decide)
 exact Nat.mul_lt_mul'' h4 h2
theorem aSW {a b : List Nat} {i : Int} {out : List Nat} (la : Lm a) (lb' : Lm b) (h : aUK a b i out) (hi : i < a.length) {c : Nat} {out' : List Nat} (hj : aOQ b (a.getD i.toNat 0) i out c b.length out') : aUK a b (i + 1) (out'.set (i + b.length).toNat c) := by
 have h0 := h.i0
 have hl := h.len
 have hl' := hj.len
 have e1 : (i + 1).toNat = i.toNat + 1 := by omega
 have e2 : (i + (b.length : Int)).toNat = i.toNat + b.length := by omega
 have hz : out'.getD (i.toNat + b.length) 0 = 0 := by
  have := aFk hj.rest
  rw [e2] at this
  rw [this]
  exact aMC h.lm (aSV la lb' h)
 refine ⟨by omega, by omega, by rw [List.length_set]; omega, xH hj.lm _ hj.c1, ?_⟩
 have hn := aAI (a := out') (k := i.toNat + b.length) (v := c) (by omega)
 have hs := hj.sum
 rw [e2] at hs ⊢
 rw [hz, Nat.mul_zero, Nat.add_zero] at hn
 rw [hn, hs, e1, pF, h.sum, Int.toNat_natCast, List.take_length, Nat.add_mul]
theorem aLa (a : List Nat) (wa : (Ty.sl (.u .u64)).wf a) (b : List Nat) (wb : (Ty.sl (.u .u64)).wf b) (hp : aJP a b) : wQ a b = some (bY a b) := by
 have la := tZ wa
 have lb' := tZ wb
 have sa : a.length ≤ 1099511627776 := hp.1
 have sb : b.length ≤ 1099511627776 := hp.2
 have key := lV (step := fun d : Int × (List Nat) => lX a b d.1 d.2) (I := fun d => aUK a b d.1 d.2) (fun d => (a.length - d.1).toNat) (fun e => nv e = nv a * nv b) ?_ (0, List.replicate (a.length + b.length) 0) ⟨by simp, by simp, by simp, aGo _, by simp [aGn, nv]⟩
 ·obtain ⟨e, h1, h2⟩ := key
  unfold wQ bY
  rw [show ((a.length : Int) + (b.length : Int)).toNat = a.length + b.length from by omega]
  refine aB (by constructor <;> omega) (aB (by omega) (aB (by omega) (bH h1 ?_)))
  rw [dE, h2]
 ·rintro ⟨i, out⟩ h
  have h : aUK a b i out := h
  have h0 := h.i0
  have h1 := h.i1
  have hl := h.len
  show (∃ d', lX a b i out = _ ∧ _) ∨ ∃ e, lX a b i out = _ ∧ _
  unfold lX
  by_cases hi : i < a.length
  ·left
   obtain ⟨e, q1, q2⟩ := lV (step := fun d : Nat × Int × (List Nat) => lW b a i d.1 d.2.1 d.2.2) (I := fun d => aOQ b (a.getD i.toNat 0) i out d.1 d.2.1 d.2.2) (fun d => (b.length - d.2.1).toNat) (fun e => aOQ b (a.getD i.toNat 0) i out e.1 b.length e.2)
    (fun d hd => aUJ h0 (by omega) (by omega) la lb' hd) (0, 0, out) ⟨by simp, by simp, rfl, h.lm, by simp, rfl, by simp [nv]⟩
   have hlen := q2.len
   refine ⟨(i + 1, e.2.set (i + b.length).toNat e.1), ?_, aSW la lb' h hi q2, by simp only; omega⟩
   rw [if_pos hi]
   refine aB (by constructor <;> omega) (bH q1 ?_)
   unfold qL
   exact aB (by constructor <;> omega) (aB (by constructor <;> omega) (aB (by constructor <;> omega) rfl))
  ·right
   refine ⟨out, by rw [if_neg hi], ?_⟩
   have := h.sum
   rw [show i.toNat = a.length from by omega, List.take_length] at this
   exact this
end Nu
end Go.Proofs
namespace Go.Proofs
open Go.Vc
set_option maxRecDepth 20000
namespace Nu
theorem aUL {n : Int} (h : 0 ≤ n) : Int.tdiv n 64 = ((n.toNat / 64 : Nat) : Int) ∧ Int.tmod n 64 = ((n.toNat % 64 : Nat) : Int) := by
 obtain ⟨m, rfl⟩ := Int.eq_ofNat_of_zero_le h
 constructor
 ·rw [Int.toNat_natCast]; rfl
 ·rw [Int.toNat_natCast]; rfl
theorem aMD {r : Nat} (h : r < 64) : (((r : Int)) % (18446744073709551616 : Int)).toNat = r ∧ ((63 - (r : Int)) % (18446744073709551616 : Int)).toNat = 63 - r := by omega
theorem aOR (r : Nat) (h : r ≤ 64) : 2 ^ (64 - r) * 2 ^ r = 18446744073709551616 := by
 rw [← Nat.pow_add, show 64 - r + r = 64 from by omega]
theorem aNq (x r : Nat) (h : r ≤ 64) : x * 2 ^ r % 18446744073709551616 = 2 ^ r * (x % 2 ^ (64 - r)) := by
 rw [← aOR r h, Nat.mul_comm (2 ^ (64 - r)), Nat.mul_comm x, Nat.mul_mod_mul_left]
theorem aRW (x r : Nat) (h : r ≤ 63) : x * 2 ^ r / 18446744073709551616 = x / 2 / 2 ^ (63 - r) := by
 rw [← aOR r (by omega), Nat.mul_div_mul_right _ _ (Nat.two_pow_pos r), Nat.div_div_eq_div_mul, ← Nat.pow_succ', show (63 - r).succ = 64 - r from by omega]
theorem aQk {o r t : Nat} (h : o < 2 ^ r) : o ||| 2 ^ r * t = o + 2 ^ r * t := by
 have := Nat.two_pow_add_eq_or_of_lt h t
 rw [Nat.or_comm, ← this, Nat.add_comm]
noncomputable def nZ (a_0 : (List Nat)) (n_1 : Int) (x20_7 : Int) (out_8 : (List Nat)) : Option ((Int × (List Nat)) ⊕ (((List Nat)))) :=
 if x20_7 < (a_0.length : Int) then ck (0 ≤ x20_7 ∧ x20_7 < (a_0.length : Int)) (ck (I64 (Int.tdiv n_1 (64 : Int))) (ck (I64 ((Int.tdiv n_1 (64 : Int)) + x20_7)) (ck (0 ≤ ((Int.tdiv n_1 (64 : Int)) + x20_7) ∧ ((Int.tdiv n_1 (64 : Int)) + x20_7) < (out_8.length : Int)) (ck (0 ≤ ((Int.tdiv n_1 (64 : Int)) + x20_7) ∧ ((Int.tdiv n_1 (64 : Int)) + x20_7) < (out_8.length : Int)) (ck (I64 (Int.tdiv n_1 (64 : Int))) (ck (I64 ((Int.tdiv n_1 (64 : Int)) + x20_7)) (ck (I64 (((Int.tdiv n_1 (64 : Int)) + x20_7) + (1 : Int))) (ck (0 ≤ (((Int.tdiv n_1 (64 : Int)) + x20_7) + (1 : Int)) ∧ (((Int.tdiv n_1 (64 : Int)) + x20_7) + (1 : Int)) < ((((out_8.set (((Int.tdiv n_1 (64 : Int)) + x20_7).toNat) ((out_8.getD (((Int.tdiv n_1 (64 : Int)) + x20_7).toNat) (0 : Nat)) ||| (((a_0.getD (x20_7.toNat) (0 : Nat)) * (2 ^ (((Int.tmod n_1 (64 : Int)) % (18446744073709551616 : Int)).toNat))) % 18446744073709551616))).length) : Nat) : Int)) (ck (I64 ((63 : Int) - (Int.tmod n_1 (64 : Int)))) (ck (0 ≤ (((Int.tdiv n_1 (64 : Int)) + x20_7) + (1 : Int)) ∧ (((Int.tdiv n_1 (64 : Int)) + x20_7) + (1 : Int)) < ((((out_8.set (((Int.tdiv n_1 (64 : Int)) + x20_7).toNat) ((out_8.getD (((Int.tdiv n_1 (64 : Int)) + x20_7).toNat) (0 : Nat)) ||| (((a_0.getD (x20_7.toNat) (0 : Nat)) * (2 ^ (((Int.tmod n_1 (64 : Int)) % (18446744073709551616 : Int)).toNat))) % 18446744073709551616))).length) : Nat) : Int)) (ck (I64 (x20_7 + (1 : Int))) (some (.inl ((x20_7 + (1 : Int)), ((out_8.set (((Int.tdiv n_1 (64 : Int)) + x20_7).toNat) ((out_8.getD (((Int.tdiv n_1 (64 : Int)) + x20_7).toNat) (0 : Nat)) ||| (((a_0.getD (x20_7.toNat) (0 : Nat)) * (2 ^ (((Int.tmod n_1 (64 : Int)) % (18446744073709551616 : Int)).toNat))) % 18446744073709551616))).set ((((Int.tdiv n_1 (64 : Int)) + x20_7) + (1 : Int)).toNat) (((out_8.set (((Int.tdiv n_1 (64 : Int)) + x20_7).toNat) ((out_8.getD (((Int.tdiv n_1 (64 : Int)) + x20_7).toNat) (0 : Nat)) ||| (((a_0.getD (x20_7.toNat) (0 : Nat)) * (2 ^ (((Int.tmod n_1 (64 : Int)) % (18446744073709551616 : Int)).toNat))) % 18446744073709551616))).getD ((((Int.tdiv n_1 (64 : Int)) + x20_7) + (1 : Int)).toNat) (0 : Nat)) ||| (((a_0.getD (x20_7.toNat) (0 : Nat)) / (2 : Nat)) / (2 ^ ((((63 : Int) - (Int.tmod n_1 (64 : Int))) % (18446744073709551616 : Int)).toNat))))))))))))))))))) else some (.inr out_8)
noncomputable def zM (a_0 : (List Nat)) (n_1 : Int) : Option (List Nat) :=
 if (a_0.length : Int) = (0 : Int) then some ([] : List Nat) else ck (I64 (Int.tdiv n_1 (64 : Int))) (ck (I64 ((Int.tdiv n_1 (64 : Int)) + (a_0.length : Int))) (ck (I64 (((Int.tdiv n_1 (64 : Int)) + (a_0.length : Int)) + (1 : Int))) (ck (0 ≤ (((Int.tdiv n_1 (64 : Int)) + (a_0.length : Int)) + (1 : Int))) (ck ((8 : Int) * (((Int.tdiv n_1 (64 : Int)) + (a_0.length : Int)) + (1 : Int)) ≤ 281474976710656) ((eQ (fun d : Int × (List Nat) => nZ a_0 n_1 d.1 d.2) ((0 : Int), (List.replicate ((((Int.tdiv n_1 (64 : Int)) + (a_0.length : Int)) + (1 : Int)).toNat) (0 : Nat)))).bind (fun e => some (dE e)))))))
abbrev aHb (a : List Nat) (n : Int) : Prop := Sz a ∧ 0 ≤ n ∧ n ≤ 1099511627776
def bI (a : List Nat) (n : Int) : List Nat := lb (nv a * 2 ^ n.toNat)
structure aUM (a : List Nat) (q r : Nat) (i : Int) (out : List Nat) : Prop where
 i0 : 0 ≤ i
 i1 : i ≤ a.length
 len : out.length = q + a.length + 1
 lm : Lm out
 sum : nv out = nv (a.take i.toNat) * (18446744073709551616 ^ q * 2 ^ r)
theorem aUN {a : List Nat} {q r : Nat} {i : Int} {out : List Nat} (la : Lm a) (hr : r < 64) (h : aUM a q r i out) : out.getD (q + i.toNat) 0 < 2 ^ r ∧ out.getD (q + i.toNat + 1) 0 = 0 := by
 have h1 := kP (aAk la i.toNat)
 have h3 : (a.take i.toNat).length ≤ i.toNat := by rw [List.length_take]; omega
 have h4 := Nat.lt_of_lt_of_le h1 (Nat.pow_le_pow_right (show 0 < 18446744073709551616 by decide) h3)
 have hp : 0 < 2 ^ r := Nat.two_pow_pos r
 have h5 : nv out < 18446744073709551616 ^ (q + i.toNat) * 2 ^ r := by
  rw [h.sum, Nat.pow_add, Nat.mul_comm (18446744073709551616 ^ q) (18446744073709551616 ^ i.toNat), Nat.mul_assoc]
  exact Nat.mul_lt_mul_of_pos_right h4 (Nat.mul_pos (Nat.pow_pos (by decide)) hp)
 have h6 : (2 : Nat) ^ r ≤ 18446744073709551616 := by
  have := Nat.pow_le_pow_right (n := 2) (by omega) (show r ≤ 64 by omega)
  exact this
 constructor
 ·rw [qE h.lm]
  refine Nat.lt_of_le_of_lt (Nat.mod_le _ _) ?_
  exact (Nat.div_lt_iff_lt_mul (Nat.pow_pos (by decide))).2 (by rw [Nat.mul_comm]; exact h5)
 ·refine aMC h.lm (Nat.lt_of_lt_of_le h5 ?_)
  rw [Nat.pow_succ]
  exact Nat.mul_le_mul_left _ h6
theorem aWJ {N N1 N2 P P' Q x lo hi o T R : Nat} (h1 : N1 + P * o = N + P * (o + lo)) (h2 : N2 = N1 + P * 18446744073709551616 * hi) (h3 : lo + 18446744073709551616 * hi = x * R) (hN : N = T * (P' * R)) (hP : P = P' * Q) : N2 = (T + Q * x) * (P' * R) := by
 have e := congrArg (P * ·) h3
 simp only [Nat.mul_add] at e h1
 have e2 : P * (x * R) = Q * x * (P' * R) := by
  rw [hP, Nat.mul_comm P' Q, Nat.mul_assoc, Nat.mul_assoc]; congr 1; rw [Nat.mul_left_comm]
 rw [Nat.add_mul, ← e2, h2, ← hN, Nat.mul_assoc P 18446744073709551616 hi]
 omega
theorem aSX {a : List Nat} {q r : Nat} {i : Int} {out : List Nat} (la : Lm a) (hr : r < 64) (h : aUM a q r i out) (hi : i < a.length) :
  aUM a q r (i + 1) ((out.set (q + i.toNat) (out.getD (q + i.toNat) 0 ||| a.getD i.toNat 0 * 2 ^ r % 18446744073709551616)).set (q + i.toNat + 1) ((out.set (q + i.toNat) (out.getD (q + i.toNat) 0 ||| a.getD i.toNat 0 * 2 ^ r % 18446744073709551616)).getD (q + i.toNat + 1) 0 ||| a.getD i.toNat 0 / 2 / 2 ^ (63 - r))) := by
 have h0 := h.i0
 have hlen := h.len
 obtain ⟨l1, l2⟩ := aUN la hr h
 have hx := gB la i.toNat
 have hg : ∀ v, (out.set (q + i.toNat) v).getD (q + i.toNat + 1) 0 = 0 := fun v => by
  refine Eq.trans ?_ l2
  rw [List.getD_eq_getElem?_getD, List.getElem?_set_ne (by omega), ← List.getD_eq_getElem?_getD]
 rw [hg, Nat.zero_or, aNq _ _ (by omega), aQk l1, ← aRW _ _ (by omega)]
 have hlo : 2 ^ r * (a.getD i.toNat 0 % 2 ^ (64 - r)) + 18446744073709551616 * (a.getD i.toNat 0 * 2 ^ r / 18446744073709551616) = a.getD i.toNat 0 * 2 ^ r := by
  rw [← aNq _ _ (by omega)]; exact Nat.mod_add_div _ _
 have hv1 : out.getD (q + i.toNat) 0 + 2 ^ r * (a.getD i.toNat 0 % 2 ^ (64 - r)) < 18446744073709551616 := by
  have hm : a.getD i.toNat 0 % 2 ^ (64 - r) + 1 ≤ 2 ^ (64 - r) := Nat.mod_lt _ (Nat.two_pow_pos _)
  have := Nat.mul_le_mul_left (2 ^ r) hm
  rw [Nat.mul_comm (2 ^ r) (2 ^ (64 - r)), aOR r (by omega), Nat.mul_add] at this
  omega
 have hv2 : a.getD i.toNat 0 * 2 ^ r / 18446744073709551616 < 18446744073709551616 := by
  have := Nat.div_le_self (a.getD i.toNat 0 / 2) (2 ^ (63 - r))
  rw [aRW _ _ (by omega)]; omega
 have e1 : (i + 1).toNat = i.toNat + 1 := by omega
 refine ⟨by omega, by omega, by rw [List.length_set, List.length_set]; exact hlen, xH (xH h.lm _ hv1) _ hv2, ?_⟩
 have n1 := aAI (a := out) (k := q + i.toNat) (v := out.getD (q + i.toNat) 0 + 2 ^ r * (a.getD i.toNat 0 % 2 ^ (64 - r))) (by omega)
 have n2 := aAI (a := out.set (q + i.toNat) (out.getD (q + i.toNat) 0 + 2 ^ r * (a.getD i.toNat 0 % 2 ^ (64 - r)))) (k := q + i.toNat + 1) (v := a.getD i.toNat 0 * 2 ^ r / 18446744073709551616) (by rw [List.length_set]; omega)
 rw [hg, Nat.mul_zero, Nat.add_zero, Nat.pow_succ] at n2
 rw [e1, pF]
 exact aWJ n1 n2 hlo h.sum (Nat.pow_add _ _ _)
theorem aME (n : Nat) : 18446744073709551616 ^ (n / 64) * 2 ^ (n % 64) = 2 ^ n := by
 rw [qJ, ← Nat.pow_add]; congr 1; omega
theorem aNr (a : List Nat) (wa : (Ty.sl (.u .u64)).wf a) (n : Int) (wn : (Ty.i .i64).wf n) (hp : aHb a n) : zM a n = some (bI a n) := by
 have la := tZ wa
 obtain ⟨sa, n0, n1⟩ := hp
 have sa : a.length ≤ 1099511627776 := sa
 obtain ⟨d1, d2⟩ := aUL n0
 have hr : n.toNat % 64 < 64 := Nat.mod_lt _ (by decide)
 have hq : n.toNat / 64 ≤ 1099511627776 := by omega
 have hps := aME n.toNat
 obtain ⟨u1, u2⟩ := aMD hr
 unfold zM bI
 rw [d1]
 refine aB8 (fun h => ?_) (fun h => ?_)
 ·have e : a = [] := List.eq_nil_of_length_eq_zero (by omega)
  subst e; rw [aAG, Nat.zero_mul, mO]
 ·rw [← hps]
  generalize n.toNat / 64 = q at *
  generalize n.toNat % 64 = r at *
  have key := lV (step := fun d : Int × (List Nat) => nZ a n d.1 d.2) (I := fun d => aUM a q r d.1 d.2) (fun d => (a.length - d.1).toNat) (fun e => nv e = nv a * (18446744073709551616 ^ q * 2 ^ r)) ?_ (0, List.replicate (q + a.length + 1) 0) ⟨by simp, by simp, by simp, aGo _, by simp [aGn, nv]⟩
  ·obtain ⟨e, h1, h2⟩ := key
   rw [show ((q : Int) + (a.length : Int) + 1).toNat = q + a.length + 1 from by omega]
   refine aB (by constructor <;> omega) (aB (by constructor <;> omega) (aB (by constructor <;> omega) (aB (by omega) (aB (by omega) (bH h1 ?_)))))
   rw [dE, h2]
  ·rintro ⟨i, out⟩ h
   have h : aUM a q r i out := h
   have h0 := h.i0
   have h1 := h.i1
   have hl := h.len
   show (∃ d', nZ a n i out = _ ∧ _) ∨ ∃ e, nZ a n i out = _ ∧ _
   unfold nZ
   rw [d1, d2, u1, u2, show ((q : Int) + i).toNat = q + i.toNat from by omega, show ((q : Int) + i + 1).toNat = q + i.toNat + 1 from by omega]
   by_cases hi : i < a.length
   ·left
    refine ⟨(_, _), ?_, aSX la hr h hi, by simp only; omega⟩
    rw [if_pos hi]
    simp only [List.length_set]
    refine aB (by constructor <;> omega) (aB (by constructor <;> omega) (aB (by constructor <;> omega) (aB (by constructor <;> omega) (aB (by constructor <;> omega) (aB (by constructor <;> omega) (aB (by constructor <;> omega) (aB (by constructor <;> omega) (aB (by constructor <;> omega) (aB (by constructor <;> omega) (aB (by constructor <;> omega) (aB (by constructor <;> omega) rfl)))))))))))
   ·right
    refine ⟨out, by rw [if_neg hi], ?_⟩
    have := h.sum
    rw [show i.toNat = a.length from by omega, List.take_length] at this
    exact this
noncomputable def lY (n_1 : Int) (a_0 : (List Nat)) (x22_10 : Int) (out_11 : (List Nat)) : Option ((Int × (List Nat)) ⊕ (((List Nat)))) :=
 if x22_10 < ((((List.drop ((Int.tdiv n_1 (64 : Int)).toNat) a_0).length) : Nat) : Int) then ck (0 ≤ x22_10 ∧ x22_10 < ((((List.drop ((Int.tdiv n_1 (64 : Int)).toNat) a_0).length) : Nat) : Int)) (ck (0 ≤ x22_10 ∧ x22_10 < (out_11.length : Int)) (ck (I64 (x22_10 + (1 : Int))) (if (x22_10 + (1 : Int)) < ((((List.drop ((Int.tdiv n_1 (64 : Int)).toNat) a_0).length) : Nat) : Int) then ck (0 ≤ x22_10 ∧ x22_10 < ((((out_11.set (x22_10.toNat) (((List.drop ((Int.tdiv n_1 (64 : Int)).toNat) a_0).getD (x22_10.toNat) (0 : Nat)) / (2 ^ (((Int.tmod n_1 (64 : Int)) % (18446744073709551616 : Int)).toNat)))).length) : Nat) : Int)) (ck (I64 (x22_10 + (1 : Int))) (ck (0 ≤ (x22_10 + (1 : Int)) ∧ (x22_10 + (1 : Int)) < ((((List.drop ((Int.tdiv n_1 (64 : Int)).toNat) a_0).length) : Nat) : Int)) (ck (I64 ((63 : Int) - (Int.tmod n_1 (64 : Int)))) (ck (0 ≤ x22_10 ∧ x22_10 < ((((out_11.set (x22_10.toNat) (((List.drop ((Int.tdiv n_1 (64 : Int)).toNat) a_0).getD (x22_10.toNat) (0 : Nat)) / (2 ^ (((Int.tmod n_1 (64 : Int)) % (18446744073709551616 : Int)).toNat)))).length) : Nat) : Int)) (ck (I64 (x22_10 + (1 : Int))) (some (.inl ((x22_10 + (1 : Int)), ((out_11.set (x22_10.toNat) (((List.drop ((Int.tdiv n_1 (64 : Int)).toNat) a_0).getD (x22_10.toNat) (0 : Nat)) / (2 ^ (((Int.tmod n_1 (64 : Int)) % (18446744073709551616 : Int)).toNat)))).set (x22_10.toNat) (((out_11.set (x22_10.toNat) (((List.drop ((Int.tdiv n_1 (64 : Int)).toNat) a_0).getD (x22_10.toNat) (0 : Nat)) / (2 ^ (((Int.tmod n_1 (64 : Int)) % (18446744073709551616 : Int)).toNat)))).getD (x22_10.toNat) (0 : Nat)) ||| ((((((List.drop ((Int.tdiv n_1 (64 : Int)).toNat) a_0).getD ((x22_10 + (1 : Int)).toNat) (0 : Nat)) * (2 : Nat)) % 18446744073709551616) * (2 ^ ((((63 : Int) - (Int.tmod n_1 (64 : Int))) % (18446744073709551616 : Int)).toNat))) % 18446744073709551616))))))))))) else ck (I64 (x22_10 + (1 : Int))) (some (.inl ((x22_10 + (1 : Int)), (out_11.set (x22_10.toNat) (((List.drop ((Int.tdiv n_1 (64 : Int)).toNat) a_0).getD (x22_10.toNat) (0 : Nat)) / (2 ^ (((Int.tmod n_1 (64 : Int)) % (18446744073709551616 : Int)).toNat)))))))))) else some (.inr out_11)
noncomputable def wR (a_0 : (List Nat)) (n_1 : Int) : Option (List Nat) :=
 ck (I64 (Int.tdiv n_1 (64 : Int))) (if (a_0.length : Int) ≤ (Int.tdiv n_1 (64 : Int)) then some ([] : List Nat) else ck (I64 (Int.tdiv n_1 (64 : Int))) (ck (0 ≤ (Int.tdiv n_1 (64 : Int)) ∧ (Int.tdiv n_1 (64 : Int)) ≤ (a_0.length : Int)) (ck (0 ≤ ((((List.drop ((Int.tdiv n_1 (64 : Int)).toNat) a_0).length) : Nat) : Int)) (ck ((8 : Int) * ((((List.drop ((Int.tdiv n_1 (64 : Int)).toNat) a_0).length) : Nat) : Int) ≤ 281474976710656) ((eQ (fun d : Int × (List Nat) => lY n_1 a_0 d.1 d.2) ((0 : Int), (List.replicate ((List.drop ((Int.tdiv n_1 (64 : Int)).toNat) a_0).length) (0 : Nat)))).bind (fun e => some (dE e)))))))
abbrev aGr (a : List Nat) (n : Int) : Prop := Sz a ∧ 0 ≤ n
def dB (a : List Nat) (n : Int) : List Nat := lb (nv a / 2 ^ n.toNat)
structure aWK (a : List Nat) (r : Nat) (i : Int) (out : List Nat) : Prop where
 i0 : 0 ≤ i
 i1 : i ≤ a.length
 len : out.length = a.length
 lm : Lm out
 sum : nv (out.take i.toNat) = nv a / 2 ^ r % 18446744073709551616 ^ i.toNat
theorem aWL {w s r o : Nat} (ho : o < 2 ^ s) : (o + 2 ^ s * w) % (2 ^ s * 2 ^ r) = o + 2 ^ s * (w % 2 ^ r) := by
 rw [Nat.mod_mul, Nat.add_mul_mod_self_left, Nat.mod_eq_of_lt ho, Nat.add_mul_div_left _ _ (Nat.two_pow_pos s), Nat.div_eq_of_lt ho, Nat.zero_add]
theorem aUO {x y z r : Nat} (hx : x < 18446744073709551616) (hr : r < 64) : (x + 18446744073709551616 * (y + 18446744073709551616 * z)) / 2 ^ r % 18446744073709551616 = x / 2 ^ r ||| y * 2 % 18446744073709551616 * 2 ^ (63 - r) % 18446744073709551616 := by
 have e0 : y * 2 % 18446744073709551616 * 2 ^ (63 - r) % 18446744073709551616 = 2 ^ (64 - r) * (y % 2 ^ r) := by
  rw [Nat.mul_mod (y * 2 % 18446744073709551616), Nat.mod_mod, ← Nat.mul_mod, Nat.mul_assoc, ← Nat.pow_succ', show (63 - r).succ = 64 - r from by omega, aNq _ _ (by omega), show 64 - (64 - r) = r from by omega]
 have hB := aOR r (by omega)
 have ho : x / 2 ^ r < 2 ^ (64 - r) := (Nat.div_lt_iff_lt_mul (Nat.two_pow_pos r)).2 (by rw [hB]; exact hx)
 have hd : (x + 18446744073709551616 * (y + 18446744073709551616 * z)) / 2 ^ r = x / 2 ^ r + 2 ^ (64 - r) * (y + 18446744073709551616 * z) := by
  rw [show 18446744073709551616 * (y + 18446744073709551616 * z) = 2 ^ r * (2 ^ (64 - r) * (y + 18446744073709551616 * z)) from by rw [← Nat.mul_assoc, Nat.mul_comm (2 ^ r), hB], Nat.add_mul_div_left _ _ (Nat.two_pow_pos r)]
 have hm : (y + 18446744073709551616 * z) % 2 ^ r = y % 2 ^ r := by
  rw [show 18446744073709551616 * z = 2 ^ r * (2 ^ (64 - r) * z) from by rw [← Nat.mul_assoc, Nat.mul_comm (2 ^ r), hB], Nat.add_mul_mod_self_left]
 rw [e0, aQk ho, hd]
 have := aWL (w := y + 18446744073709551616 * z) (r := r) ho
 rw [hB, hm] at this
 exact this
theorem aSY {a : List Nat} {r : Nat} {i : Int} {out : List Nat} (la : Lm a) (hr : r < 64) (h : aWK a r i out) (hi : i < a.length) :
  aWK a r (i + 1) (out.set i.toNat (a.getD i.toNat 0 / 2 ^ r ||| a.getD (i.toNat + 1) 0 * 2 % 18446744073709551616 * 2 ^ (63 - r) % 18446744073709551616)) := by
 have h0 := h.i0
 have hlen := h.len
 have hk : i.toNat < a.length := by omega
 have e1 : (i + 1).toNat = i.toNat + 1 := by omega
 have hx := gB la i.toNat
 obtain ⟨z, hz⟩ : ∃ z, nv (a.drop (i.toNat + 1)) = a.getD (i.toNat + 1) 0 + 18446744073709551616 * z := by
  rcases Nat.lt_or_ge (i.toNat + 1) a.length with hl | hl
  ·refine ⟨nv (a.drop (i.toNat + 1 + 1)), ?_⟩
   rw [List.drop_eq_getElem_cons hl, oG, List.getD_eq_getElem?_getD, List.getElem?_eq_getElem hl]; rfl
  ·refine ⟨0, ?_⟩
   rw [List.drop_eq_nil_of_le hl, List.getD_eq_getElem?_getD, List.getElem?_eq_none hl]; rfl
 have hd : nv (a.drop i.toNat) = a.getD i.toNat 0 + 18446744073709551616 * (a.getD (i.toNat + 1) 0 + 18446744073709551616 * z) := by
  have hg : a.getD i.toNat 0 = a[i.toNat] := by rw [List.getD_eq_getElem?_getD, List.getElem?_eq_getElem hk]; rfl
  rw [List.drop_eq_getElem_cons hk, oG, hz, hg]
 have key : a.getD i.toNat 0 / 2 ^ r ||| a.getD (i.toNat + 1) 0 * 2 % 18446744073709551616 * 2 ^ (63 - r) % 18446744073709551616 = nv a / 2 ^ r / 18446744073709551616 ^ i.toNat % 18446744073709551616 := by
  rw [← aUO (z := z) hx hr, ← hd, aFi la, Nat.div_div_eq_div_mul, Nat.div_div_eq_div_mul, Nat.mul_comm (18446744073709551616 ^ i.toNat)]
 rw [key]
 refine ⟨by omega, by omega, by rw [List.length_set]; exact hlen, xH h.lm _ (Nat.mod_lt _ (by decide)), ?_⟩
 rw [e1, aG9 (by omega), h.sum, Nat.pow_succ, Nat.mod_mul]
theorem aLb (a : List Nat) (wa : (Ty.sl (.u .u64)).wf a) (n : Int) (wn : (Ty.i .i64).wf n) (hp : aGr a n) : wR a n = some (dB a n) := by
 have la := tZ wa
 obtain ⟨sa, n0⟩ := hp
 have sa : a.length ≤ 1099511627776 := sa
 obtain ⟨w1, w2⟩ := wf_i64 wn
 obtain ⟨d1, d2⟩ := aUL n0
 have hr : n.toNat % 64 < 64 := Nat.mod_lt _ (by decide)
 have hq : n.toNat / 64 ≤ 9223372036854775807 := by omega
 have hps := aME n.toNat
 obtain ⟨u1, u2⟩ := aMD hr
 unfold wR dB
 rw [d1]
 refine aB (by constructor <;> omega) (aB8 (fun h => ?_) (fun h => ?_))
 ·have : nv a / 2 ^ n.toNat = 0 := by
   refine Nat.div_eq_of_lt (Nat.lt_of_lt_of_le (kP la) ?_)
   rw [← hps]
   exact Nat.le_trans (Nat.pow_le_pow_right (by decide) (by omega)) (Nat.le_mul_of_pos_right _ (Nat.two_pow_pos _))
  rw [this, mO]
 ·rw [← hps, ← Nat.div_div_eq_div_mul, ← aFi la]
  generalize n.toNat / 64 = q at *
  generalize n.toNat % 64 = r at *
  rw [Int.toNat_natCast]
  have lA := aWy la q
  have hA : (a.drop q).length = a.length - q := List.length_drop
  have key := lV (step := fun d : Int × (List Nat) => lY n a d.1 d.2) (I := fun d => aWK (a.drop q) r d.1 d.2) (fun d => ((a.drop q).length - d.1).toNat) (fun e => nv e = nv (a.drop q) / 2 ^ r) ?_ (0, List.replicate (a.drop q).length 0) ⟨by simp, by simp, by simp, aGo _, by simp [nv, Nat.mod_one]⟩
  ·obtain ⟨e, h1, h2⟩ := key
   refine aB (by constructor <;> omega) (aB (by constructor <;> omega) (aB (by omega) (aB (by omega) (bH h1 ?_))))
   rw [dE, h2]
  ·rintro ⟨i, out⟩ h
   have h : aWK (a.drop q) r i out := h
   have h0 := h.i0
   have h1 := h.i1
   have hl := h.len
   show (∃ d', lY n a i out = _ ∧ _) ∨ ∃ e, lY n a i out = _ ∧ _
   unfold lY
   rw [d1, d2, u1, u2, Int.toNat_natCast]
   generalize a.drop q = A at *
   by_cases hi : i < A.length
   ·left
    have hs := aSY lA hr h hi
    rw [if_pos hi]
    by_cases hi2 : i + 1 < A.length
    ·refine ⟨(_, _), ?_, hs, by simp only; omega⟩
     rw [if_pos hi2]
     simp only [List.length_set]
     refine aB (by constructor <;> omega) (aB (by constructor <;> omega) (aB (by constructor <;> omega) (aB (by constructor <;> omega) (aB (by constructor <;> omega) (aB (by constructor <;> omega) (aB (by constructor <;> omega) (aB (by constructor <;> omega) (aB (by constructor <;> omega) ?_))))))))
     rw [show (i + 1).toNat = i.toNat + 1 from by omega, List.set_set, List.getD_eq_getElem?_getD (l := out.set _ _), List.getElem?_set_self (by omega)]
     rfl
    ·have hy : A.getD (i.toNat + 1) 0 = 0 := by rw [List.getD_eq_getElem?_getD, List.getElem?_eq_none (by omega)]; rfl
     rw [hy] at hs
     simp only [Nat.zero_mul, Nat.zero_mod, Nat.or_zero] at hs
     refine ⟨(_, _), ?_, hs, by simp only; omega⟩
     rw [if_neg hi2]
     exact aB (by constructor <;> omega) (aB (by constructor <;> omega) (aB (by constructor <;> omega) (aB (by constructor <;> omega) rfl)))
   ·right
    refine ⟨out, by rw [if_neg hi], ?_⟩
    have := h.sum
    rw [show i.toNat = A.length from by omega, List.take_of_length_le (by omega)] at this
    rw [this]
    exact Nat.mod_eq_of_lt (Nat.lt_of_le_of_lt (Nat.div_le_self _ _) (kP lA))
end Nu
end Go.Proofs
namespace Go.Proofs
open Go.Vc
set_option maxRecDepth 20000
namespace Nu
theorem aXX {N M : Nat} (h : M ≤ N) (hl : N - M < 18446744073709551616) : lR .u64 (N % 18446744073709551616) (M % 18446744073709551616) = N - M := by
 rw [aEU, aRR]; omega
structure DI (V u u1 q r : Nat) : Prop where
 lo : 9223372036854775808 ≤ V
 hi : V < 18446744073709551616
 uV : u < V
 ul : u1 < 4294967296
 eq : q * (V / 4294967296) + r = u
 ge : (u * 4294967296 + u1) / V ≤ q
 r1 : r < 4294967296
theorem aXY {V u u1 q r : Nat} (h : DI V u u1 q r) : q * V + r * 4294967296 = u * 4294967296 + q * (V % 4294967296) := by
 have e := Nat.div_add_mod V 4294967296
 have := h.eq
 generalize V / 4294967296 = v1 at *
 generalize V % 4294967296 = v0 at *
 subst e
 subst this
 rw [Nat.mul_add, Nat.add_mul, Nat.mul_left_comm]
 rw [Nat.mul_comm 4294967296]
 omega
theorem aUP {V u u1 q r : Nat} (h : DI V u u1 q r) : (u * 4294967296 + u1) / V < 4294967296 := by
 have h1 := h.uV
 have h2 := h.ul
 refine (Nat.div_lt_iff_lt_mul (by have := h.lo; omega)).2 ?_
 omega
theorem aIL {V u u1 q r : Nat} (h : DI V u u1 q r) : (4294967296 ≤ q ∨ (nR .u64 4294967296 r + u1) % 18446744073709551616 < nR .u64 q (V % 4294967296)) ↔ (u * 4294967296 + u1) / V < q := by
 have hs := aUP h
 have hm := aXY h
 have h1 := h.r1
 have h2 := h.ul
 have hV := h.lo
 rcases Nat.lt_or_ge q 4294967296 with hq | hq
 ·have hv : V % 4294967296 ≤ 4294967295 := by omega
  have p : q * (V % 4294967296) ≤ 4294967295 * 4294967295 := Nat.mul_le_mul (by omega) hv
  rw [aG8, aG8, Nat.div_lt_iff_lt_mul (by omega)]
  rw [Nat.mod_eq_of_lt (a := q * (V % 4294967296)) (by omega)]
  generalize q * (V % 4294967296) = C at *
  generalize q * V = D at *
  constructor
  ·rintro (h | h)
   ·omega
   ·omega
  ·intro h; right; omega
 ·exact ⟨fun _ => by omega, fun _ => .inl hq⟩
theorem aUQ {V u u1 q r : Nat} (h : DI V u u1 q r) (hc : (u * 4294967296 + u1) / V < q) : (r + V / 4294967296) % 18446744073709551616 = r + V / 4294967296 ∧ lR .u64 q 1 = q - 1 ∧ (4294967296 ≤ r + V / 4294967296 → q - 1 = (u * 4294967296 + u1) / V) ∧ (r + V / 4294967296 < 4294967296 → DI V u u1 (q - 1) (r + V / 4294967296)) := by
 have h1 := h.r1
 have h2 := h.hi
 have h3 := h.lo
 have he := h.eq
 have hu := h.uV
 have hul := h.ul
 have hQ := Nat.zero_le ((u * 4294967296 + u1) / V)
 obtain ⟨p, rfl⟩ : ∃ p, q = p + 1 := ⟨q - 1, by omega⟩
 have he' : p * (V / 4294967296) + (r + V / 4294967296) = u := by rw [Nat.add_mul] at he; omega
 have hqV : (p + 1) * (V / 4294967296) < 18446744073709551616 := by omega
 have hpB : p + 1 < 18446744073709551616 := by
  have : (p + 1) * 1 ≤ (p + 1) * (V / 4294967296) := Nat.mul_le_mul_left _ (by omega)
  omega
 refine ⟨by omega, aOL hpB (by omega), fun hr => ?_, fun hr => ⟨h3, h2, hu, hul, he', by omega, hr⟩⟩
 simp only [Nat.add_sub_cancel]
 refine Nat.le_antisymm ?_ (by omega)
 refine (Nat.le_div_iff_mul_le (by omega)).2 ?_
 have ev := Nat.div_add_mod V 4294967296
 have hv0 : V % 4294967296 ≤ 4294967295 := by omega
 generalize V / 4294967296 = v1 at *
 generalize V % 4294967296 = v0 at *
 have hp : p ≤ 4294967295 := by
  rcases Nat.lt_or_ge p 4294967296 with hh | hh
  ·omega
  ·have := Nat.mul_le_mul_right v1 hh
   omega
 have hC : p * v0 ≤ 4294967295 * 4294967295 := Nat.mul_le_mul hp hv0
 rw [← ev, Nat.mul_add, Nat.mul_left_comm]
 generalize p * v1 = A at *
 generalize p * v0 = C at *
 omega
theorem aOS {V u u1 : Nat} (h1 : 9223372036854775808 ≤ V) (h2 : V < 18446744073709551616) (h3 : u < V) (h4 : u1 < 4294967296) : lR .u64 u (nR .u64 (u / (V / 4294967296)) (V / 4294967296)) = u % (V / 4294967296) ∧ DI V u u1 (u / (V / 4294967296)) (u % (V / 4294967296)) := by
 have e := Nat.div_add_mod u (V / 4294967296)
 have m := Nat.mod_lt u (show 0 < V / 4294967296 by omega)
 have hle : (V / 4294967296) * (u / (V / 4294967296)) ≤ u := by omega
 constructor
 ·rw [aG8, Nat.mul_comm, Nat.mod_eq_of_lt (show (V / 4294967296) * (u / (V / 4294967296)) < 18446744073709551616 by omega), aOL (by omega) hle]
  omega
 ·refine ⟨h1, h2, h3, h4, by rw [Nat.mul_comm]; omega, ?_, by omega⟩
  refine (Nat.le_div_iff_mul_le (by omega)).2 ?_
  have e2 := Nat.div_add_mod V 4294967296
  have d := Nat.div_mul_le_self (u * 4294967296 + u1) V
  generalize (u * 4294967296 + u1) / V = Q at *
  generalize V / 4294967296 = v1 at *
  have : Q * V = Q * v1 * 4294967296 + Q * (V % 4294967296) := by
   conv => lhs; rw [← e2]
   rw [Nat.mul_add, Nat.mul_left_comm, Nat.mul_comm 4294967296]
  generalize Q * V = D at *
  generalize Q * v1 = F at *
  generalize Q * (V % 4294967296) = G at *
  omega
abbrev xV (hi lo y : Nat) : Prop := hi < y
def kX (hi lo y : Nat) : Nat × Nat × Unit := ((hi * 18446744073709551616 + lo) / y, (hi * 18446744073709551616 + lo) % y, ())
noncomputable def pO (x15_8 : Nat) (hi_0 : Nat) (y_2 : Nat) (lo_1 : Nat) (x18_13 : Nat) : Option ((Nat × (Nat × Unit))) :=
 some ((((nR .u64 x15_8 (4294967296 : Nat)) + x18_13) % 18446744073709551616), ((lR .u64 (((nR .u64 (lR .u64 (((nR .u64 (((hi_0 * (2 ^ (((aA y_2) % (18446744073709551616 : Int)).toNat))) % 18446744073709551616) ||| (lo_1 / (2 ^ (lR .u64 (64 : Nat) (((aA y_2) % (18446744073709551616 : Int)).toNat))))) (4294967296 : Nat)) + (((lo_1 * (2 ^ (((aA y_2) % (18446744073709551616 : Int)).toNat))) % 18446744073709551616) / (4294967296 : Nat))) % 18446744073709551616) (nR .u64 x15_8 ((y_2 * (2 ^ (((aA y_2) % (18446744073709551616 : Int)).toNat))) % 18446744073709551616))) (4294967296 : Nat)) + (((lo_1 * (2 ^ (((aA y_2) % (18446744073709551616 : Int)).toNat))) % 18446744073709551616) &&& (4294967295 : Nat))) % 18446744073709551616) (nR .u64 x18_13 ((y_2 * (2 ^ (((aA y_2) % (18446744073709551616 : Int)).toNat))) % 18446744073709551616))) / (2 ^ (((aA y_2) % (18446744073709551616 : Int)).toNat))), ())
noncomputable def gT (lo_1 : Nat) (y_2 : Nat) (rhat_14 : Nat) (x18_15 : Nat) : Option ((Nat × Nat) ⊕ ((Nat))) :=
 if ((4294967296 : Nat) ≤ x18_15) ∨ ((((nR .u64 (4294967296 : Nat) rhat_14) + (((lo_1 * (2 ^ (((aA y_2) % (18446744073709551616 : Int)).toNat))) % 18446744073709551616) &&& (4294967295 : Nat))) % 18446744073709551616) < (nR .u64 x18_15 (((y_2 * (2 ^ (((aA y_2) % (18446744073709551616 : Int)).toNat))) % 18446744073709551616) &&& (4294967295 : Nat)))) then if (4294967296 : Nat) ≤ ((rhat_14 + (((y_2 * (2 ^ (((aA y_2) % (18446744073709551616 : Int)).toNat))) % 18446744073709551616) / (4294967296 : Nat))) % 18446744073709551616) then some (.inr (lR .u64 x18_15 (1 : Nat))) else some (.inl (((rhat_14 + (((y_2 * (2 ^ (((aA y_2) % (18446744073709551616 : Int)).toNat))) % 18446744073709551616) / (4294967296 : Nat))) % 18446744073709551616), (lR .u64 x18_15 (1 : Nat)))) else some (.inr x18_15)
noncomputable def pP (y_2 : Nat) (lo_1 : Nat) (hi_0 : Nat) (x15_8 : Nat) : Option ((Nat × (Nat × Unit))) :=
 ck ((((y_2 * (2 ^ (((aA y_2) % (18446744073709551616 : Int)).toNat))) % 18446744073709551616) / (4294967296 : Nat)) ≠ 0) ((eQ (fun d : Nat × Nat => gT lo_1 y_2 d.1 d.2) ((lR .u64 (lR .u64 (((nR .u64 (((hi_0 * (2 ^ (((aA y_2) % (18446744073709551616 : Int)).toNat))) % 18446744073709551616) ||| (lo_1 / (2 ^ (lR .u64 (64 : Nat) (((aA y_2) % (18446744073709551616 : Int)).toNat))))) (4294967296 : Nat)) + (((lo_1 * (2 ^ (((aA y_2) % (18446744073709551616 : Int)).toNat))) % 18446744073709551616) / (4294967296 : Nat))) % 18446744073709551616) (nR .u64 x15_8 ((y_2 * (2 ^ (((aA y_2) % (18446744073709551616 : Int)).toNat))) % 18446744073709551616))) (nR .u64 ((lR .u64 (((nR .u64 (((hi_0 * (2 ^ (((aA y_2) % (18446744073709551616 : Int)).toNat))) % 18446744073709551616) ||| (lo_1 / (2 ^ (lR .u64 (64 : Nat) (((aA y_2) % (18446744073709551616 : Int)).toNat))))) (4294967296 : Nat)) + (((lo_1 * (2 ^ (((aA y_2) % (18446744073709551616 : Int)).toNat))) % 18446744073709551616) / (4294967296 : Nat))) % 18446744073709551616) (nR .u64 x15_8 ((y_2 * (2 ^ (((aA y_2) % (18446744073709551616 : Int)).toNat))) % 18446744073709551616))) / (((y_2 * (2 ^ (((aA y_2) % (18446744073709551616 : Int)).toNat))) % 18446744073709551616) / (4294967296 : Nat))) (((y_2 * (2 ^ (((aA y_2) % (18446744073709551616 : Int)).toNat))) % 18446744073709551616) / (4294967296 : Nat)))), ((lR .u64 (((nR .u64 (((hi_0 * (2 ^ (((aA y_2) % (18446744073709551616 : Int)).toNat))) % 18446744073709551616) ||| (lo_1 / (2 ^ (lR .u64 (64 : Nat) (((aA y_2) % (18446744073709551616 : Int)).toNat))))) (4294967296 : Nat)) + (((lo_1 * (2 ^ (((aA y_2) % (18446744073709551616 : Int)).toNat))) % 18446744073709551616) / (4294967296 : Nat))) % 18446744073709551616) (nR .u64 x15_8 ((y_2 * (2 ^ (((aA y_2) % (18446744073709551616 : Int)).toNat))) % 18446744073709551616))) / (((y_2 * (2 ^ (((aA y_2) % (18446744073709551616 : Int)).toNat))) % 18446744073709551616) / (4294967296 : Nat))))).bind (fun e => pO x15_8 hi_0 y_2 lo_1 e))
noncomputable def gU (lo_1 : Nat) (y_2 : Nat) (x15_19 : Nat) (rhat_20 : Nat) : Option ((Nat × Nat) ⊕ ((Nat))) :=
 if ((4294967296 : Nat) ≤ x15_19) ∨ ((((nR .u64 (4294967296 : Nat) rhat_20) + (((lo_1 * (2 ^ (((aA y_2) % (18446744073709551616 : Int)).toNat))) % 18446744073709551616) / (4294967296 : Nat))) % 18446744073709551616) < (nR .u64 x15_19 (((y_2 * (2 ^ (((aA y_2) % (18446744073709551616 : Int)).toNat))) % 18446744073709551616) &&& (4294967295 : Nat)))) then if (4294967296 : Nat) ≤ ((rhat_20 + (((y_2 * (2 ^ (((aA y_2) % (18446744073709551616 : Int)).toNat))) % 18446744073709551616) / (4294967296 : Nat))) % 18446744073709551616) then some (.inr (lR .u64 x15_19 (1 : Nat))) else some (.inl ((lR .u64 x15_19 (1 : Nat)), ((rhat_20 + (((y_2 * (2 ^ (((aA y_2) % (18446744073709551616 : Int)).toNat))) % 18446744073709551616) / (4294967296 : Nat))) % 18446744073709551616))) else some (.inr x15_19)
noncomputable def uC (hi_0 : Nat) (lo_1 : Nat) (y_2 : Nat) : Option (Nat × (Nat × Unit)) :=
 if y_2 = (0 : Nat) then none else if y_2 ≤ hi_0 then none else if hi_0 = (0 : Nat) then ck (y_2 ≠ 0) (ck (y_2 ≠ 0) (some ((lo_1 / y_2), (lo_1 % y_2), ()))) else ck ((((y_2 * (2 ^ (((aA y_2) % (18446744073709551616 : Int)).toNat))) % 18446744073709551616) / (4294967296 : Nat)) ≠ 0) ((eQ (fun d : Nat × Nat => gU lo_1 y_2 d.1 d.2) (((((hi_0 * (2 ^ (((aA y_2) % (18446744073709551616 : Int)).toNat))) % 18446744073709551616) ||| (lo_1 / (2 ^ (lR .u64 (64 : Nat) (((aA y_2) % (18446744073709551616 : Int)).toNat))))) / (((y_2 * (2 ^ (((aA y_2) % (18446744073709551616 : Int)).toNat))) % 18446744073709551616) / (4294967296 : Nat))), (lR .u64 (((hi_0 * (2 ^ (((aA y_2) % (18446744073709551616 : Int)).toNat))) % 18446744073709551616) ||| (lo_1 / (2 ^ (lR .u64 (64 : Nat) (((aA y_2) % (18446744073709551616 : Int)).toNat))))) (nR .u64 ((((hi_0 * (2 ^ (((aA y_2) % (18446744073709551616 : Int)).toNat))) % 18446744073709551616) ||| (lo_1 / (2 ^ (lR .u64 (64 : Nat) (((aA y_2) % (18446744073709551616 : Int)).toNat))))) / (((y_2 * (2 ^ (((aA y_2) % (18446744073709551616 : Int)).toNat))) % 18446744073709551616) / (4294967296 : Nat))) (((y_2 * (2 ^ (((aA y_2) % (18446744073709551616 : Int)).toNat))) % 18446744073709551616) / (4294967296 : Nat)))))).bind (fun e => pP y_2 lo_1 hi_0 e))
theorem aIM (x : Nat) : x &&& 4294967295 = x % 4294967296 := Nat.and_two_pow_sub_one_eq_mod x 32
theorem aXZ {lo y s : Nat} {u : Nat} (hs : (aA y % (18446744073709551616 : Int)).toNat = s) (h : ∀ V, V = y * 2 ^ s % 18446744073709551616 → 9223372036854775808 ≤ V ∧ u < V) :
  eQ (fun d : Nat × Nat => gU lo y d.1 d.2) (u / (y * 2 ^ s % 18446744073709551616 / 4294967296), lR .u64 u (nR .u64 (u / (y * 2 ^ s % 18446744073709551616 / 4294967296)) (y * 2 ^ s % 18446744073709551616 / 4294967296))) = some ((u * 4294967296 + lo * 2 ^ s % 18446744073709551616 / 4294967296) / (y * 2 ^ s % 18446744073709551616)) := by
 have hV := Nat.mod_lt (y * 2 ^ s) (show 0 < 18446744073709551616 by decide)
 have hU := Nat.mod_lt (lo * 2 ^ s) (show 0 < 18446744073709551616 by decide)
 have step : ∀ q r, gU lo y q r = if 4294967296 ≤ q ∨ (nR .u64 4294967296 r + lo * 2 ^ s % 18446744073709551616 / 4294967296) % 18446744073709551616 < nR .u64 q (y * 2 ^ s % 18446744073709551616 % 4294967296) then if 4294967296 ≤ (r + y * 2 ^ s % 18446744073709551616 / 4294967296) % 18446744073709551616 then some (.inr (lR .u64 q 1)) else some (.inl (lR .u64 q 1, (r + y * 2 ^ s % 18446744073709551616 / 4294967296) % 18446744073709551616)) else some (.inr q) := fun q r => by
  unfold gU; rw [hs, aIM]
 obtain ⟨h1, h2⟩ := h _ rfl
 generalize y * 2 ^ s % 18446744073709551616 = V at *
 have hu1 : lo * 2 ^ s % 18446744073709551616 / 4294967296 < 4294967296 := by omega
 generalize lo * 2 ^ s % 18446744073709551616 / 4294967296 = u1 at *
 obtain ⟨e0, i0⟩ := aOS h1 hV h2 hu1
 rw [e0]
 refine kO (I := fun d => DI V u u1 d.1 d.2) (fun d => d.1) (fun _ => (u * 4294967296 + u1) / V) ?_ (u / (V / 4294967296), u % (V / 4294967296)) i0
 rintro ⟨q, r⟩ hi
 have hi : DI V u u1 q r := hi
 show (∃ d', gU lo y q r = _ ∧ _) ∨ gU lo y q r = _
 rw [step]
 by_cases hc : (u * 4294967296 + u1) / V < q
 ·obtain ⟨a1, a2, a3, a4⟩ := aUQ hi hc
  rw [if_pos ((aIL hi).2 hc), a1, a2]
  by_cases hr : 4294967296 ≤ r + V / 4294967296
  ·right; rw [if_pos hr, a3 hr]
  ·left
   refine ⟨(q - 1, r + V / 4294967296), by rw [if_neg hr], a4 (by omega), Nat.sub_lt (Nat.lt_of_le_of_lt (Nat.zero_le _) hc) (by decide), rfl⟩
 ·right
  rw [if_neg (fun h => hc ((aIL hi).1 h))]
  have := hi.ge
  rw [show q = (u * 4294967296 + u1) / V from Nat.le_antisymm (Nat.le_of_not_lt hc) this]
theorem aX0 {lo y s : Nat} {u : Nat} (hs : (aA y % (18446744073709551616 : Int)).toNat = s) (h : ∀ V, V = y * 2 ^ s % 18446744073709551616 → 9223372036854775808 ≤ V ∧ u < V) :
  eQ (fun d : Nat × Nat => gT lo y d.1 d.2) (lR .u64 u (nR .u64 (u / (y * 2 ^ s % 18446744073709551616 / 4294967296)) (y * 2 ^ s % 18446744073709551616 / 4294967296)), u / (y * 2 ^ s % 18446744073709551616 / 4294967296)) = some ((u * 4294967296 + lo * 2 ^ s % 18446744073709551616 % 4294967296) / (y * 2 ^ s % 18446744073709551616)) := by
 have hV := Nat.mod_lt (y * 2 ^ s) (show 0 < 18446744073709551616 by decide)
 have step : ∀ q r, gT lo y r q = if 4294967296 ≤ q ∨ (nR .u64 4294967296 r + lo * 2 ^ s % 18446744073709551616 % 4294967296) % 18446744073709551616 < nR .u64 q (y * 2 ^ s % 18446744073709551616 % 4294967296) then if 4294967296 ≤ (r + y * 2 ^ s % 18446744073709551616 / 4294967296) % 18446744073709551616 then some (.inr (lR .u64 q 1)) else some (.inl ((r + y * 2 ^ s % 18446744073709551616 / 4294967296) % 18446744073709551616, lR .u64 q 1)) else some (.inr q) := fun q r => by
  unfold gT; rw [hs, aIM, aIM]
 obtain ⟨h1, h2⟩ := h _ rfl
 generalize y * 2 ^ s % 18446744073709551616 = V at *
 have hu1 : lo * 2 ^ s % 18446744073709551616 % 4294967296 < 4294967296 := Nat.mod_lt _ (by decide)
 generalize lo * 2 ^ s % 18446744073709551616 % 4294967296 = u1 at *
 obtain ⟨e0, i0⟩ := aOS h1 hV h2 hu1
 rw [e0]
 refine kO (I := fun d => DI V u u1 d.2 d.1) (fun d => d.2) (fun _ => (u * 4294967296 + u1) / V) ?_ (u % (V / 4294967296), u / (V / 4294967296)) i0
 rintro ⟨r, q⟩ hi
 have hi : DI V u u1 q r := hi
 show (∃ d', gT lo y r q = _ ∧ _) ∨ gT lo y r q = _
 rw [step]
 by_cases hc : (u * 4294967296 + u1) / V < q
 ·obtain ⟨a1, a2, a3, a4⟩ := aUQ hi hc
  rw [if_pos ((aIL hi).2 hc), a1, a2]
  by_cases hr : 4294967296 ≤ r + V / 4294967296
  ·right; rw [if_pos hr, a3 hr]
  ·left
   refine ⟨(r + V / 4294967296, q - 1), by rw [if_neg hr], a4 (by omega), Nat.sub_lt (Nat.lt_of_le_of_lt (Nat.zero_le _) hc) (by decide), rfl⟩
 ·right
  rw [if_neg (fun h => hc ((aIL hi).1 h))]
  have := hi.ge
  rw [show q = (u * 4294967296 + u1) / V from Nat.le_antisymm (Nat.le_of_not_lt hc) this]
theorem aHc {N V : Nat} : N - N / V * V = N % V := by
 have e := Nat.div_add_mod N V
 have c := Nat.mul_comm (N / V) V
 omega
theorem aUR {V u u1 : Nat} (h1 : 0 < V) (h2 : V < 18446744073709551616) (hu1 : u1 < 4294967296) : lR .u64 ((nR .u64 u 4294967296 + u1) % 18446744073709551616) (nR .u64 ((u * 4294967296 + u1) / V) V) = (u * 4294967296 + u1) % V := by
 have m := Nat.mod_lt (u * 4294967296 + u1) h1
 rw [aG8, aG8, Nat.mod_add_mod, aXX (Nat.div_mul_le_self _ _) (by rw [aHc]; exact Nat.lt_trans m h2), aHc]
theorem aRX {V N W un0 : Nat} (hV : 0 < V) : N / V * W + (N % V * W + un0) / V = (N * W + un0) / V ∧ (N % V * W + un0) % V = (N * W + un0) % V := by
 have e := Nat.div_add_mod N V
 have : N * W + un0 = N % V * W + un0 + V * (N / V * W) := by
  conv => lhs; rw [← e]
  rw [Nat.add_mul, Nat.mul_assoc]; omega
 rw [this, Nat.add_mul_div_left _ _ hV, Nat.add_mul_mod_self_left]
 exact ⟨Nat.add_comm _ _, rfl⟩
theorem aX1 (A C : Nat) : (A * 4294967296 + C / 4294967296) * 4294967296 + C % 4294967296 = A * 18446744073709551616 + C := by omega
theorem aJS (hi : Nat) (wh : (Ty.u .u64).wf hi) (lo : Nat) (wl : (Ty.u .u64).wf lo) (y : Nat) (wy : (Ty.u .u64).wf y) (hp : xV hi lo y) : uC hi lo y = some (kX hi lo y) := by
 have hh := aCR wh
 have hl := aCR wl
 have hy := aCR wy
 have hp : hi < y := hp
 have hb := aSS hy
 have hb1 := aCS (x := y) (by omega)
 have hs : (aA y % (18446744073709551616 : Int)).toNat = 64 - bl y := by unfold aA; omega
 have hs2 : lR .u64 64 (64 - bl y) = 64 - (64 - bl y) := aOL (by omega) (by omega)
 have hlow := aGp (x := y) (by omega)
 have hlt := aDZ y
 unfold uC kX
 rw [if_neg (by omega), if_neg (by omega), hs]
 refine aB8 (fun h => ?_) (fun h => ?_)
 ·subst h
  refine aB (by omega) (aB (by omega) ?_)
  rw [Nat.zero_mul, Nat.zero_add]
 ·rw [hs2]
  generalize hsd : 64 - bl y = s at *
  have hs64 : s ≤ 63 := by omega
  have hsp := Nat.two_pow_pos s
  have h2s : 2 ^ (64 - s) * 2 ^ s = 18446744073709551616 := aOR s (by omega)
  have hyV : y * 2 ^ s < 18446744073709551616 := by
   rw [← h2s, show 64 - s = bl y from by omega]
   exact Nat.mul_lt_mul_of_pos_right hlt hsp
  have hyL : 9223372036854775808 ≤ y * 2 ^ s := by
   have := Nat.mul_le_mul_right (2 ^ s) hlow
   rw [← Nat.pow_add, show bl y - 1 + s = 63 from by omega] at this
   exact this
  have hU : hi * 2 ^ s % 18446744073709551616 ||| lo / 2 ^ (64 - s) = (hi * 18446744073709551616 + lo) * 2 ^ s / 18446744073709551616 := by
   have h1 : hi * 2 ^ s < 18446744073709551616 := Nat.lt_trans (Nat.mul_lt_mul_of_pos_right hp hsp) hyV
   have h3 : lo / 2 ^ (64 - s) < 2 ^ s := (Nat.div_lt_iff_lt_mul (Nat.two_pow_pos _)).2 (by rw [Nat.mul_comm, h2s]; exact hl)
   rw [Nat.mod_eq_of_lt h1, Nat.or_comm, Nat.mul_comm hi, aQk h3, Nat.add_mul, Nat.mul_assoc, Nat.mul_comm 18446744073709551616, ← Nat.mul_assoc, Nat.add_comm (hi * 2 ^ s * 18446744073709551616), Nat.add_mul_div_right _ _ (by decide), ← h2s, Nat.mul_div_mul_right _ _ hsp, Nat.mul_comm hi]
  have hUV : (hi * 18446744073709551616 + lo) * 2 ^ s / 18446744073709551616 < y * 2 ^ s := by
   refine (Nat.div_lt_iff_lt_mul (by decide)).2 ?_
   rw [Nat.mul_right_comm y]
   exact Nat.mul_lt_mul_of_pos_right (by have := Nat.mul_le_mul_right 18446744073709551616 (show hi + 1 ≤ y from hp); omega) hsp
  have hlow2 : lo * 2 ^ s % 18446744073709551616 = (hi * 18446744073709551616 + lo) * 2 ^ s % 18446744073709551616 := by
   rw [Nat.add_mul, Nat.mul_right_comm, Nat.add_comm, Nat.add_mul_mod_self_right]
  have hVm : y * 2 ^ s % 18446744073709551616 = y * 2 ^ s := Nat.mod_eq_of_lt hyV
  have eN := Nat.div_add_mod ((hi * 18446744073709551616 + lo) * 2 ^ s) 18446744073709551616
  have mN := Nat.mod_lt ((hi * 18446744073709551616 + lo) * 2 ^ s) (show 0 < 18446744073709551616 by decide)
  rw [hU]
  refine aB (by rw [hVm]; omega) (bH (aXZ hs (fun V e => by rw [e, hVm]; exact ⟨hyL, hUV⟩)) ?_)
  unfold pP
  rw [hs, hs2, hU]
  have hr := aUR (V := y * 2 ^ s % 18446744073709551616) (u := (hi * 18446744073709551616 + lo) * 2 ^ s / 18446744073709551616) (u1 := lo * 2 ^ s % 18446744073709551616 / 4294967296) (by rw [hVm]; omega) (by omega) (by omega)
  rw [hr]
  refine aB (by rw [hVm]; omega) (bH (aX0 hs (fun V e => by rw [e]; exact ⟨by rw [hVm]; exact hyL, Nat.mod_lt _ (by rw [hVm]; omega)⟩)) ?_)
  unfold pO
  rw [hs, hs2, hU, hr, aIM, hVm, hlow2]
  have hr2 := aUR (V := y * 2 ^ s) (u := ((hi * 18446744073709551616 + lo) * 2 ^ s / 18446744073709551616 * 4294967296 + (hi * 18446744073709551616 + lo) * 2 ^ s % 18446744073709551616 / 4294967296) % (y * 2 ^ s)) (u1 := (hi * 18446744073709551616 + lo) * 2 ^ s % 18446744073709551616 % 4294967296) (by omega) hyV (Nat.mod_lt _ (by decide))
  rw [hr2]
  obtain ⟨q1, q2⟩ := aRX (V := y * 2 ^ s) (N := (hi * 18446744073709551616 + lo) * 2 ^ s / 18446744073709551616 * 4294967296 + (hi * 18446744073709551616 + lo) * 2 ^ s % 18446744073709551616 / 4294967296) (W := 4294967296) (un0 := (hi * 18446744073709551616 + lo) * 2 ^ s % 18446744073709551616 % 4294967296) (by omega)
  have eW := (aX1 ((hi * 18446744073709551616 + lo) * 2 ^ s / 18446744073709551616) ((hi * 18446744073709551616 + lo) * 2 ^ s % 18446744073709551616)).trans ((congrArg (· + (hi * 18446744073709551616 + lo) * 2 ^ s % 18446744073709551616) (Nat.mul_comm _ _)).trans eN)
  rw [eW] at q1 q2
  rw [q2, aG8, Nat.mod_add_mod, q1, Nat.mul_div_mul_right _ _ hsp, Nat.mul_mod_mul_right, Nat.mul_div_cancel _ hsp]
  have hq : (hi * 18446744073709551616 + lo) / y < 18446744073709551616 := (Nat.div_lt_iff_lt_mul (by omega)).2 (by have := Nat.mul_le_mul_right 18446744073709551616 (show hi + 1 ≤ y from hp); rw [Nat.mul_comm 18446744073709551616]; omega)
  rw [Nat.mod_eq_of_lt hq]
end Nu
end Go.Proofs
namespace Go.Proofs
open Go.Vc
set_option maxRecDepth 20000
namespace Nu
abbrev aCT (a : List Nat) (b : Nat) : Prop := b ≠ 0 ∧ Sz a
def sX (a : List Nat) (b : Nat) : List Nat × List Nat × Unit := (lb (nv a / b), lb (nv a % b), ())
noncomputable def qM (rest_9 : Nat) (q_10 : (List Nat)) : Option (((List Nat) × ((List Nat) × Unit))) :=
 some ((dE q_10), (dE ([rest_9] : List Nat)), ())
noncomputable def lZ (a_0 : (List Nat)) (b_1 : Nat) (rest_11 : Nat) (i_12 : Int) (q_13 : (List Nat)) : Option ((Nat × Int × (List Nat)) ⊕ ((Nat × (List Nat)))) :=
 if (0 : Int) ≤ i_12 then ck (0 ≤ i_12 ∧ i_12 < (a_0.length : Int)) (ck ((xV rest_11 (a_0.getD (i_12.toNat) (0 : Nat)) b_1)) (ck (0 ≤ i_12 ∧ i_12 < (q_13.length : Int)) (ck (I64 (i_12 - (1 : Int))) (some (.inl ((((kX rest_11 (a_0.getD (i_12.toNat) (0 : Nat)) b_1).2).1), (i_12 - (1 : Int)), (q_13.set (i_12.toNat) ((kX rest_11 (a_0.getD (i_12.toNat) (0 : Nat)) b_1).1)))))))) else some (.inr (rest_11, q_13))
noncomputable def wS (a_0 : (List Nat)) (b_1 : Nat) : Option ((List Nat) × ((List Nat) × Unit)) :=
 ck (0 ≤ (a_0.length : Int)) (ck ((8 : Int) * (a_0.length : Int) ≤ 281474976710656) (ck (I64 ((a_0.length : Int) - (1 : Int))) ((eQ (fun d : Nat × Int × (List Nat) => lZ a_0 b_1 d.1 d.2.1 d.2.2) ((0 : Nat), ((a_0.length : Int) - (1 : Int)), (List.replicate (a_0.length) (0 : Nat)))).bind (fun e => qM e.1 e.2))))
structure aNs (a : List Nat) (b : Nat) (rest : Nat) (i : Int) (q : List Nat) : Prop where
 i0 : -1 ≤ i
 i1 : i < a.length
 len : q.length = a.length
 lm : Lm q
 sum : nv q = nv a / 18446744073709551616 ^ (i + 1).toNat / b * 18446744073709551616 ^ (i + 1).toNat
 res : rest = nv a / 18446744073709551616 ^ (i + 1).toNat % b
theorem aOT {a : List Nat} {b rest : Nat} {i : Int} {q : List Nat} (la : Lm a) (hb : b ≠ 0) (h : aNs a b rest i q) (hi : 0 ≤ i) :
  rest < b ∧ aNs a b ((rest * 18446744073709551616 + a.getD i.toNat 0) % b) (i - 1) (q.set i.toNat ((rest * 18446744073709551616 + a.getD i.toNat 0) / b)) := by
 have h1 := h.i1
 have hl := h.len
 have hr : rest < b := by rw [h.res]; exact Nat.mod_lt _ (by omega)
 have hx := gB la i.toNat
 have e1 : (i + 1).toNat = i.toNat + 1 := by omega
 have e2 : (i - 1 + 1).toNat = i.toNat := by omega
 have hN : nv a / 18446744073709551616 ^ i.toNat = nv a / 18446744073709551616 ^ (i.toNat + 1) * 18446744073709551616 + a.getD i.toNat 0 := by
  rw [qE la, Nat.pow_succ, ← Nat.div_div_eq_div_mul, Nat.mul_comm, Nat.div_add_mod]
 obtain ⟨d1, d2⟩ := aRX (V := b) (N := nv a / 18446744073709551616 ^ (i.toNat + 1)) (W := 18446744073709551616) (un0 := a.getD i.toNat 0) (by omega)
 have hs := h.sum
 have hres := h.res
 rw [e1] at hs hres
 rw [← hres, ← hN] at d1 d2
 have hz : q.getD i.toNat 0 = 0 := by
  rw [qE h.lm, hs, Nat.pow_succ, Nat.mul_comm (18446744073709551616 ^ i.toNat) 18446744073709551616, ← Nat.mul_assoc, Nat.mul_div_cancel _ (Nat.pow_pos (by decide)), Nat.mul_mod_left]
 have hv : (rest * 18446744073709551616 + a.getD i.toNat 0) / b < 18446744073709551616 := by
  refine (Nat.div_lt_iff_lt_mul (by omega)).2 ?_
  have := Nat.mul_le_mul_right 18446744073709551616 (show rest + 1 ≤ b from hr)
  rw [Nat.mul_comm 18446744073709551616]; omega
 refine ⟨hr, by omega, by omega, by rw [List.length_set]; exact hl, xH h.lm _ hv, ?_, ?_⟩
 ·have hn := aAI (a := q) (k := i.toNat) (v := (rest * 18446744073709551616 + a.getD i.toNat 0) / b) (by omega)
  rw [hz, Nat.mul_zero, Nat.add_zero] at hn
  rw [e2, ← d1, hn, hs, Nat.pow_succ, Nat.mul_comm (18446744073709551616 ^ i.toNat) 18446744073709551616, ← Nat.mul_assoc, Nat.mul_comm (18446744073709551616 ^ i.toNat), Nat.add_mul]
 ·rw [e2, d2]
theorem aLc (a : List Nat) (wa : (Ty.sl (.u .u64)).wf a) (b : Nat) (wb : (Ty.u .u64).wf b) (hp : aCT a b) : wS a b = some (sX a b) := by
 have la := tZ wa
 obtain ⟨hb, sa⟩ := hp
 have sa : a.length ≤ 1099511627776 := sa
 unfold wS sX
 have key := lV (step := fun d : Nat × Int × (List Nat) => lZ a b d.1 d.2.1 d.2.2) (I := fun d => aNs a b d.1 d.2.1 d.2.2) (fun d => (d.2.1 + 1).toNat) (fun e => e.1 = nv a % b ∧ nv e.2 = nv a / b) ?_ (0, (a.length : Int) - 1, List.replicate a.length 0) ?_
 ·obtain ⟨e, h1, h2, h3⟩ := key
  refine aB (by omega) (aB (by omega) (aB (by constructor <;> omega) (bH h1 ?_)))
  unfold qM
  rw [dE, dE, h3, h2]
  rfl
 ·rintro ⟨rest, i, q⟩ h
  have h : aNs a b rest i q := h
  have h1 := h.i1
  have hl := h.len
  show (∃ d', lZ a b rest i q = _ ∧ _) ∨ ∃ e, lZ a b rest i q = _ ∧ _
  unfold lZ
  by_cases hi : 0 ≤ i
  ·left
   obtain ⟨s1, s2⟩ := aOT la hb h hi
   rw [if_pos hi]
   refine ⟨(_, _, _), aB (by constructor <;> omega) (aB s1 (aB (by constructor <;> omega) (aB (by constructor <;> omega) rfl))), s2, by simp only; omega⟩
  ·right
   refine ⟨(rest, q), by rw [if_neg hi], ?_⟩
   have h0 := h.i0
   have hs := h.sum
   have hr := h.res
   rw [show (i + 1).toNat = 0 from by omega, Nat.pow_zero, Nat.div_one] at hs hr
   exact ⟨hr, by rw [hs, Nat.mul_one]⟩
 ·have e : ((a.length : Int) - 1 + 1).toNat = a.length := by omega
  have hz : nv a / 18446744073709551616 ^ a.length = 0 := Nat.div_eq_of_lt (kP la)
  exact ⟨by simp only; omega, by simp only; omega, by simp, aGo _, by simp only; rw [e, hz, aGn, Nat.zero_div, Nat.zero_mul], by simp only; rw [e, hz, Nat.zero_mod]⟩
end Nu
end Go.Proofs
namespace Go.Proofs
open Go.Vc
set_option maxRecDepth 20000
namespace Nu
def aD0 : PlR := ⟨[(0, .A [0, 2]), (1, .A [0, 2, 4]), (2, .A [0]), (3, .A [0, 2]), (4, .A [0, 2, 8]), (5, .A [0, 2]), (6, .A [0, 2]), (7, .A [0, 2, 14]), (8, .A [0, 2]), (9, .A [0, 2]), (10, .A [2])], [(4, 7), (7, 10), (10, 13)]⟩
def aBE : Ty := .pair (.u .u64) .unit
noncomputable def pT : aJ := ⟨aBE, .one (.i .i64), fun _ => True, fun x => dK x.1⟩
attribute [go_sem] pT aBE
noncomputable def aLd : aJ := mSpec aBE (.one (.i .i64)) (fun x => uA x.1)
noncomputable def aNt : List (FuncId × aJ) := []
theorem aNu : bL Tryz.prog GL aNt := .nil
attribute [go_sem] aD0
set_option maxHeartbeats 4000000 in
theorem aLe : FOK Tryz.prog GL 235 aLd := by
 refine bZ (bF aNu) mix Tryz.func235 rfl (by kernel_rfl) (by decide) aD0 fun w0 S x Θ hw h hF => ?_
 obtain ⟨(x_0 : Nat), u⟩ := x
 simp only [cC, go_sem]
 replace h : sat (uA x_0) _ := h
 unfold uA at h
 refine eC hF (D := Nat × Int) (fun d => sat (kC d.1 d.2) Θ) [] (fun d => [(0, .val (.u .u64) d.1), (2, .val (.i .i64) d.2)]) (fun d => []) ?_ ?_
 ·simp only [go_sem]
  refine iL h (fun hc h => ?_) fun hc h => ?_
  ·exact aX (((x_0 / (4294967296 : Nat)), (32 : Int))) h rfl (by simp only [go_sem])
  ·exact aX ((x_0, (0 : Int))) h rfl (by simp only [go_sem])
 ·rintro ⟨x_2, n_3⟩ h
  simp only [go_sem]
  replace h : sat (kC x_2 n_3) _ := h
  unfold kC at h
  refine eC hF (D := Nat × Int) (fun d => sat (kB d.1 d.2) Θ) [] (fun d => [(0, .val (.u .u64) d.1), (2, .val (.i .i64) d.2)]) (fun d => []) ?_ ?_
  ·simp only [go_sem]
   refine iL h (fun hc h => ?_) fun hc h => ?_
   ·refine aN h fun g0 h => ?_
    exact aX (((x_2 / (65536 : Nat)), (n_3 + (16 : Int)))) h rfl (by simp only [go_sem])
   ·exact aX ((x_2, n_3)) h rfl (by simp only [go_sem])
  ·rintro ⟨x_4, n_5⟩ h
   simp only [go_sem]
   replace h : sat (kB x_4 n_5) _ := h
   unfold kB at h
   refine eC hF (D := Nat × Int) (fun d => sat (kA d.1 d.2) Θ) [] (fun d => [(0, .val (.u .u64) d.1), (2, .val (.i .i64) d.2)]) (fun d => []) ?_ ?_
   ·simp only [go_sem]
    refine iL h (fun hc h => ?_) fun hc h => ?_
    ·refine aN h fun g0 h => ?_
     exact aX (((x_4 / (256 : Nat)), (n_5 + (8 : Int)))) h rfl (by simp only [go_sem])
    ·exact aX ((x_4, n_5)) h rfl (by simp only [go_sem])
   ·rintro ⟨x_6, n_7⟩ h
    simp only [go_sem]
    replace h : sat (kA x_6 n_7) _ := h
    unfold kA at h
    refine aN h fun g0 h => aN h fun g1 h => ?_
    exact aK hF [.tmp 2] rfl rfl rfl (aF h) (by simp only [bA, go_sem])
theorem aD1 : FOK Tryz.prog GL 235 pT := eY aLe (fun ⟨x0, u⟩ ⟨w0, wu⟩ hp => aJN x0 w0)
def uD : PlR := ⟨[(0, .A [0]), (1, .A [2])], []⟩
def qA : Ty := .pair (.u .u64) .unit
noncomputable def dL : aJ := ⟨qA, .one (.i .i64), fun _ => True, fun x => aA x.1⟩
attribute [go_sem] dL qA
noncomputable def aBF : aJ := mSpec qA (.one (.i .i64)) (fun x => iO x.1)
noncomputable def uX : List (FuncId × aJ) := [(235, pT)]
theorem aCo : bL Tryz.prog GL uX := .cons aD1 (by kernel_rfl) (.nil)
theorem zW : gam uX 235 = some pT := rfl
attribute [go_sem] uD zW
set_option maxHeartbeats 4000000 in
theorem aBG : FOK Tryz.prog GL 188 aBF := by
 refine bZ (bF aCo) mix Tryz.func188 rfl (by kernel_rfl) (by decide) uD fun w0 S x Θ hw h hF => ?_
 obtain ⟨(x_0 : Nat), u⟩ := x
 simp only [cC, go_sem]
 replace h : sat (iO x_0) _ := h
 unfold iO at h
 refine aN h fun g0 h => ?_
 exact aK hF [.tmp 2] rfl rfl rfl (aF h) (by simp only [bA, go_sem])
theorem pG : FOK Tryz.prog GL 188 dL := eY aBG (fun ⟨x0, u⟩ ⟨w0, wu⟩ hp => aA6 x0 w0)
def sY : PlR := ⟨[(0, .A [0]), (1, .A [0, 4]), (2, .A [2]), (3, .A [2])], []⟩
def pH : Ty := .pair (.u .u64) .unit
noncomputable def jS : aJ := ⟨pH, .one (.i .i64), fun _ => True, fun x => fS x.1⟩
attribute [go_sem] jS pH
noncomputable def aA9 : aJ := mSpec pH (.one (.i .i64)) (fun x => iC x.1)
noncomputable def aBH : List (FuncId × aJ) := []
theorem aBI : bL Tryz.prog GL aBH := .nil
attribute [go_sem] sY
set_option maxHeartbeats 4000000 in
theorem aBa : FOK Tryz.prog GL 164 aA9 := by
 refine bZ (bF aBI) mix Tryz.func164 rfl (by kernel_rfl) (by decide) sY fun w0 S x Θ hw h hF => ?_
 obtain ⟨(x_0 : Nat), u⟩ := x
 simp only [cC, go_sem]
 replace h : sat (iC x_0) _ := h
 unfold iC at h
 refine iL h (fun hc h => ?_) fun hc h => ?_
 ·exact aK hF [.tmp 2] rfl rfl rfl (aF h) (by simp only [bA, go_sem])
 ·refine aN h fun g0 h => ?_
  exact aK hF [.tmp 2] rfl rfl rfl (aF h) (by simp only [bA, go_sem])
theorem aBb : FOK Tryz.prog GL 164 jS := eY aBa (fun ⟨x0, u⟩ ⟨w0, wu⟩ hp => aAJ x0 w0)
def aD2 : PlR := ⟨[(0, .A [0, 1]), (1, .A [0, 1, 6]), (2, .A [0, 1, 6, 7]), (3, .A [0, 1, 6, 7, 8]), (4, .A [0, 1, 6, 7, 8, 9]), (5, .A [0, 1, 6, 7, 8, 9, 10]), (6, .A [0, 1, 6, 7, 9, 11]), (7, .A [0, 1, 6, 7, 9, 11, 12]), (8, .A [0, 1, 6, 7, 9, 12, 13]), (9, .A [0, 1, 7, 9, 12, 13]), (10, .A [0, 1, 4]), (11, .A [4, 5])], []⟩
def aBJ : Ty := .pair (.u .u64) (.pair (.u .u64) .unit)
noncomputable def lI : aJ := ⟨aBJ, .tup (.pair (.u .u64) (.pair (.u .u64) .unit)), fun _ => True, fun x => bJ x.1 x.2.1⟩
attribute [go_sem] lI aBJ
noncomputable def aLf : aJ := mSpec aBJ (.tup (.pair (.u .u64) (.pair (.u .u64) .unit))) (fun x => uB x.1 x.2.1)
noncomputable def aNv : List (FuncId × aJ) := []
theorem aNw : bL Tryz.prog GL aNv := .nil
attribute [go_sem] aD2
set_option maxHeartbeats 4000000 in
theorem aLg : FOK Tryz.prog GL 161 aLf := by
 refine bZ (bF aNw) mix Tryz.func161 rfl (by kernel_rfl) (by decide) aD2 fun w0 S x Θ hw h hF => ?_
 obtain ⟨(x_0 : Nat), (y_1 : Nat), u⟩ := x
 simp only [cC, go_sem]
 replace h : sat (uB x_0 y_1) _ := h
 unfold uB at h
 exact aK hF [.tmp 4, .tmp 5] rfl rfl rfl (aF h) (by simp only [bA, go_sem])
theorem aAK : FOK Tryz.prog GL 161 lI := eY aLg (fun ⟨x0, x1, u⟩ ⟨w0, w1, wu⟩ hp => aJO x0 w0 x1 w1)
end Nu
end Go.Proofs
namespace Go.Proofs
open Go.Vc
set_option maxRecDepth 20000
namespace Nu
def aHd : PlR := ⟨[(0, .A [0]), (1, .A [0, 14]), (2, .A [0]), (3, .A [2])], []⟩
def aEC : Ty := .pair (.sl (.u .u64)) .unit
noncomputable def eH : aJ := ⟨aEC, .one (.sl (.u .u64)), fun _ => True, fun x => dE x.1⟩
attribute [go_sem] eH aEC
noncomputable def aOU : aJ := mSpec aEC (.one (.sl (.u .u64))) (fun x => zG x.1)
noncomputable def aQl : List (FuncId × aJ) := []
theorem aQm : bL Tryz.prog GL aQl := .nil
attribute [go_sem] aHd
set_option maxHeartbeats 4000000 in
theorem aOV : FOK Tryz.prog GL 163 aOU := by
 refine bZ (bF aQm) mix Tryz.func163 rfl (by kernel_rfl) (by decide) aHd fun w0 S x Θ hw h hF => ?_
 obtain ⟨(a_0 : (List Nat)), u⟩ := x
 simp only [cC, go_sem]
 replace h : sat (zG a_0) _ := h
 unfold zG at h
 refine dP hF (D := (List Nat)) [] (fun d => [(0, .val (.sl (.u .u64)) d)]) (fun d => []) h rfl (by simp only [go_sem]) ?_
 rintro a_4 A1 T1 hA1 hE1 h
 simp only [go_sem]
 replace h : sat (vZ a_4) _ := h
 unfold vZ at h
 refine aN h fun g0 h => aN h fun g1 h => ?_
 refine ⟨fun hc => ?_, fun hc => ?_⟩
 ·replace h := hZ hc h
  refine aN h fun g0 h => aN h fun g1 h => ?_
  replace h := hA1 _ (aF h)
  exact aX _ h rfl (by simp only [go_sem])
 ·replace h := iA hc h
  replace h := hE1 _ (aF h)
  try dsimp only at h
  exact aK hF [.tmp 2] rfl rfl rfl (aF h) (by simp only [bA, go_sem])
theorem qN : FOK Tryz.prog GL 163 eH := eY aOV (fun ⟨x0, u⟩ ⟨w0, wu⟩ hp => aNl x0 w0)
def aJT : PlR := ⟨[(0, .A [0]), (1, .A [2])], []⟩
def aGs : Ty := .pair (.sl (.u .u64)) .unit
noncomputable def aBK : aJ := ⟨aGs, .one .bool, fun _ => True, fun x => aA8 x.1⟩
attribute [go_sem] aBK aGs
noncomputable def aQn : aJ := mSpec aGs (.one .bool) (fun x => aA7 x.1)
noncomputable def aSZ : List (FuncId × aJ) := []
theorem aS0 : bL Tryz.prog GL aSZ := .nil
attribute [go_sem] aJT
set_option maxHeartbeats 4000000 in
theorem aQo : FOK Tryz.prog GL 120 aQn := by
 refine bZ (bF aS0) mix Tryz.func120 rfl (by kernel_rfl) (by decide) aJT fun w0 S x Θ hw h hF => ?_
 obtain ⟨(a_0 : (List Nat)), u⟩ := x
 simp only [cC, go_sem]
 replace h : sat (aA7 a_0) _ := h
 unfold aA7 at h
 obtain ⟨g0, h⟩ := aM h
 obtain ⟨g1, h⟩ := aM h
 repeat (refine ⟨by omega, ?_⟩)
 exact aK hF [.tmp 2] rfl rfl rfl (aF h) (by simp only [bA, go_sem])
theorem aQp : FOK Tryz.prog GL 120 aBK := eY aQo (fun ⟨x0, u⟩ ⟨w0, wu⟩ hp => aOP x0 w0)
def aHe : PlR := ⟨[(0, .A [0]), (1, .A [3]), (2, .A [2]), (3, .A [2])], []⟩
def aED : Ty := .pair .bool .unit
noncomputable def aAl : aJ := ⟨aED, .one (.i .i64), fun _ => True, fun x => sM x.1⟩
attribute [go_sem] aAl aED
noncomputable def aOW : aJ := mSpec aED (.one (.i .i64)) (fun x => zH x.1)
noncomputable def aQq : List (FuncId × aJ) := []
theorem aQr : bL Tryz.prog GL aQq := .nil
attribute [go_sem] aHe
set_option maxHeartbeats 4000000 in
theorem aOX : FOK Tryz.prog GL 189 aOW := by
 refine bZ (bF aQr) mix Tryz.func189 rfl (by kernel_rfl) (by decide) aHe fun w0 S x Θ hw h hF => ?_
 obtain ⟨(less_0 : Bool), u⟩ := x
 simp only [cC, go_sem]
 replace h : sat (zH less_0) _ := h
 unfold zH at h
 refine aJH h (fun hc h => ?_) fun hc h => ?_
 ·exact aK hF [.tmp 2] rfl rfl rfl (aF h) (by simp only [bA, go_sem])
 ·exact aK hF [.tmp 2] rfl rfl rfl (aF h) (by simp only [bA, go_sem])
theorem aOY : FOK Tryz.prog GL 189 aAl := eY aOX (fun ⟨x0, u⟩ ⟨w0, wu⟩ hp => aNm x0 w0)
def aFl : PlR := ⟨[(0, .A [0, 1]), (1, .A [0, 1, 10]), (2, .A [4]), (3, .A [0, 1, 5]), (4, .A [0, 1, 5, 21]), (5, .A [0, 1, 5]), (6, .A [0, 1, 5, 32]), (7, .A [4]), (8, .A [4])], []⟩
def aCU : Ty := .pair (.sl (.u .u64)) (.pair (.sl (.u .u64)) .unit)
noncomputable def rB : aJ := ⟨aCU, .one (.i .i64), fun x => aRS x.1 x.2.1, fun x => oW x.1 x.2.1⟩
attribute [go_sem] rB aCU
noncomputable def aNx : aJ := mSpec aCU (.one (.i .i64)) (fun x => wO x.1 x.2.1)
noncomputable def aHf : List (FuncId × aJ) := [(189, aAl)]
theorem aOZ : bL Tryz.prog GL aHf := .cons aOY (by kernel_rfl) (.nil)
theorem aHS : gam aHf 189 = some aAl := rfl
attribute [go_sem] aFl aHS
set_option maxHeartbeats 4000000 in
theorem aNy : FOK Tryz.prog GL 122 aNx := by
 refine bZ (bF aOZ) mix Tryz.func122 rfl (by kernel_rfl) (by decide) aFl fun w0 S x Θ hw h hF => ?_
 obtain ⟨(a_0 : (List Nat)), (b_1 : (List Nat)), u⟩ := x
 simp only [cC, go_sem]
 replace h : sat (wO a_0 b_1) _ := h
 unfold wO at h
 refine ⟨fun hc => ?_, fun hc => ?_⟩
 ·replace h := hZ hc h
  exact aK hF [.tmp 4] rfl rfl rfl (aF h) (by simp only [bA, go_sem])
 ·replace h := iA (by first | exact hc | omega | simpa using hc) h
  refine aN h fun g0 h => ?_
  refine dP hF (D := Int) [0, 1] (fun d => [(5, .val (.i .i64) d)]) (fun d => []) h rfl (by simp only [go_sem]) ?_
  rintro i_5 A4 T4 hA4 hE4 h
  simp only [go_sem]
  replace h : sat (qI a_0 b_1 i_5) _ := h
  unfold qI at h
  refine aP9 h (fun hc h => ?_) fun hc h => ?_
  ·refine aN h fun g0 h => aN h fun g1 h => ?_
   refine ⟨fun hc => ?_, fun hc => ?_⟩
   ·replace h := hZ hc h
    refine aN h fun g0 h => aN h fun g1 h => ?_
    replace h := hE4 _ (aF h)
    try dsimp only at h
    exact aK hF [.tmp 4] rfl rfl rfl (aF h) (by simp only [bA, go_sem])
   ·replace h := iA (by first | exact hc | omega | simpa using hc) h
    refine aN h fun g0 h => ?_
    replace h := hA4 _ (aF h)
    exact aX _ h rfl (by simp only [go_sem])
  ·replace h := hE4 _ (aF h)
   try dsimp only at h
   exact aK hF [.tmp 4] rfl rfl rfl (aF h) (by simp only [bA, go_sem])
theorem aFm : FOK Tryz.prog GL 122 rB := eY aNy (fun ⟨x0, x1, u⟩ ⟨w0, w1, wu⟩ hp => aK8 x0 w0 x1 w1 hp)
def aHg : PlR := ⟨[(0, .A [0]), (1, .A [0, 5]), (2, .A [2]), (3, .A [2])], []⟩
def aEE : Ty := .pair (.sl (.u .u64)) .unit
noncomputable def oX : aJ := ⟨aEE, .one (.i .i64), fun x => aJQ x.1, fun x => aV x.1⟩
attribute [go_sem] oX aEE
noncomputable def aO0 : aJ := mSpec aEE (.one (.i .i64)) (fun x => zI x.1)
noncomputable def aJU : List (FuncId × aJ) := [(188, dL)]
theorem aQs : bL Tryz.prog GL aJU := .cons pG (by kernel_rfl) (.nil)
theorem aJV : gam aJU 188 = some dL := rfl
attribute [go_sem] aHg aJV
set_option maxHeartbeats 4000000 in
theorem aO1 : FOK Tryz.prog GL 121 aO0 := by
 refine bZ (bF aQs) mix Tryz.func121 rfl (by kernel_rfl) (by decide) aHg fun w0 S x Θ hw h hF => ?_
 obtain ⟨(a_0 : (List Nat)), u⟩ := x
 simp only [cC, go_sem]
 replace h : sat (zI a_0) _ := h
 unfold zI at h
 refine iL h (fun hc h => ?_) fun hc h => ?_
 ·exact aK hF [.tmp 2] rfl rfl rfl (aF h) (by simp only [bA, go_sem])
 ·refine aN h fun g0 h => aN h fun g1 h => aN h fun g2 h => aN h fun g3 h => ?_
  exact aK hF [.tmp 2] rfl rfl rfl (aF h) (by simp only [bA, go_sem])
theorem aCV : FOK Tryz.prog GL 121 oX := eY aO1 (fun ⟨x0, u⟩ ⟨w0, wu⟩ hp => aNn x0 w0 hp)
def aFn : PlR := ⟨[(0, .A [0]), (1, .A [5, 6, 7]), (2, .A [5, 6, 7, 8]), (3, .A [3, 4, 5, 6, 7]), (4, .A [3, 4, 5, 6, 7, 13]), (5, .A [2]), (6, .A [5, 6, 7]), (7, .A [2])], []⟩
def aCW : Ty := .pair (.sl (.u .u64)) .unit
noncomputable def nG : aJ := ⟨aCW, .one (.i .i64), fun x => pSz x.1, fun x => bX x.1⟩
attribute [go_sem] nG aCW
noncomputable def aNz : aJ := mSpec aCW (.one (.i .i64)) (fun x => wP x.1)
noncomputable def aHh : List (FuncId × aJ) := [(164, jS)]
theorem aO2 : bL Tryz.prog GL aHh := .cons aBb (by kernel_rfl) (.nil)
theorem aHT : gam aHh 164 = some jS := rfl
attribute [go_sem] aFn aHT
set_option maxHeartbeats 4000000 in
theorem aNA : FOK Tryz.prog GL 98 aNz := by
 refine bZ (bF aO2) mix Tryz.func98 rfl (by kernel_rfl) (by decide) aFn fun w0 S x Θ hw h hF => ?_
 obtain ⟨(a_0 : (List Nat)), u⟩ := x
 simp only [cC, go_sem]
 replace h : sat (wP a_0) _ := h
 unfold wP at h
 refine dP hF (D := Int) [5, 6] (fun d => [(7, .val (.i .i64) d)]) (fun d => []) h rfl (by simp only [go_sem]) ?_
 rintro x7_4 A2 T2 hA2 hE2 h
 simp only [go_sem]
 replace h : sat (qK a_0 x7_4) _ := h
 unfold qK at h
 refine jZ h (fun hc h => ?_) fun hc h => ?_
 ·refine aN h fun g0 h => ?_
  refine ⟨fun hc => ?_, fun hc => ?_⟩
  ·replace h := hZ hc h
   refine aN h fun g0 h => aN h fun g1 h => ?_
   replace h := hE2 _ (aF h)
   try dsimp only at h
   exact aK hF [.tmp 2] rfl rfl rfl (aF h) (by simp only [bA, go_sem])
  ·replace h := iA (by first | exact hc | omega | simpa using hc) h
   refine aN h fun g0 h => ?_
   replace h := hA2 _ (aF h)
   exact aX _ h rfl (by simp only [go_sem])
 ·replace h := hE2 _ (aF h)
  try dsimp only at h
  exact aK hF [.tmp 2] rfl rfl rfl (aF h) (by simp only [bA, go_sem])
theorem aBL : FOK Tryz.prog GL 98 nG := eY aNA (fun ⟨x0, u⟩ ⟨w0, wu⟩ hp => aK9 x0 w0 hp)
def aHi : PlR := ⟨[(0, .A [0, 1]), (1, .A [0, 1, 13]), (2, .A [0, 1]), (3, .B [1, 5]), (4, .A [1, 5, 6]), (5, .A [1, 5, 6, 21, 22]), (6, .A [1, 5, 6, 21, 22, 23]), (7, .A [1, 5, 6, 7, 21, 22]), (8, .A [1, 5, 6, 7, 8, 21, 22]), (9, .A [1, 5, 6, 7, 8, 21, 22, 25]), (10, .A [1, 5, 6, 7, 8, 21, 22]), (11, .A [1, 5, 6, 7, 8, 21, 22, 34]), (12, .B [1, 5, 6, 21, 22]), (13, .A [1, 5, 6, 21, 22]), (14, .B [4])], [(4, 6), (12, 15)]⟩
def aEF : Ty := .pair (.sl (.u .u64)) (.pair (.sl (.u .u64)) .unit)
noncomputable def oY : aJ := ⟨aEF, .one (.sl (.u .u64)), fun x => aJP x.1 x.2.1, fun x => iD x.1 x.2.1⟩
attribute [go_sem] oY aEF
noncomputable def aO3 : aJ := mSpec aEF (.one (.sl (.u .u64))) (fun x => zK x.1 x.2.1)
noncomputable def aBM : List (FuncId × aJ) := [(162, lH), (163, eH), (165, bQ)]
theorem aQt : bL Tryz.prog GL aBM := .nat aAF (.cons qN (by kernel_rfl) (.cons iB (by kernel_rfl) (.nil)))
theorem aJW : gam aBM 162 = some lH := rfl
theorem aJX : gam aBM 163 = some eH := rfl
theorem aJY : gam aBM 165 = some bQ := rfl
attribute [go_sem] aHi aJW aJX aJY
set_option maxHeartbeats 4000000 in
theorem aO4 : FOK Tryz.prog GL 99 aO3 := by
 refine bZ (bF aQt) mix Tryz.func99 rfl (by kernel_rfl) (by decide) aHi fun w0 S x Θ hw h hF => ?_
 obtain ⟨(a_0 : (List Nat)), (b_1 : (List Nat)), u⟩ := x
 simp only [cC, go_sem]
 replace h : sat (zK a_0 b_1) _ := h
 unfold zK at h
 refine eC hF (D := (List Nat) × (List Nat)) (fun d => sat (nY d.1 d.2) Θ) [] (fun d => [(0, .val (.sl (.u .u64)) d.1), (1, .val (.sl (.u .u64)) d.2)]) (fun d => []) ?_ ?_
 ·simp only [go_sem]
  refine jZ h (fun hc h => ?_) fun hc h => ?_
  ·exact aX ((b_1, a_0)) h rfl (by simp only [go_sem])
  ·exact aX ((a_0, b_1)) h rfl (by simp only [go_sem])
 ·rintro ⟨a_3, b_4⟩ h
  simp only [go_sem]
  replace h : sat (nY a_3 b_4) _ := h
  unfold nY at h
  refine aN h fun g0 h => ?_
  obtain ⟨g0, h⟩ := aM h
  repeat (refine ⟨by omega, ?_⟩)
  refine aM8 [1] rfl rfl ?_
  simp only [go_sem]
  refine dP hF (D := Nat × Int × (List Nat)) [1, 21] (fun d => [(5, .own 0), (6, .val (.u .u64) d.1), (22, .val (.i .i64) d.2.1)]) (fun d => [.inr (.row 83 (.u .u64) d.2.2)]) h rfl (by simp only [go_sem]) ?_
  rintro ⟨carry_12, x22_13, out_14⟩ A6 T6 hA6 hE6 h
  simp only [go_sem]
  replace h : sat (nX a_3 b_4 carry_12 x22_13 out_14) _ := h
  unfold nX at h
  refine jZ h (fun hc h => ?_) fun hc h => ?_
  ·refine eC hF (D := Nat) (fun d => sat (nW x22_13 out_14 carry_12 d) T6) [1, 6, 7, 21, 22] (fun d => [(5, .own 0), (8, .val (.u .u64) d)]) (fun d => [.inr (.row 83 (.u .u64) out_14)]) ?_ ?_
   ·simp only [go_sem]
    refine jZ h (fun hc h => ?_) fun hc h => ?_
    ·obtain ⟨g0, h⟩ := aM h
     repeat (refine ⟨by omega, ?_⟩)
     exact aX ((b_4.getD (x22_13.toNat) (0 : Nat))) h rfl (by simp only [go_sem])
    ·refine iL h (fun hc h => ?_) fun hc h => ?_
     ·replace h := hE6 _ (aF h)
      try dsimp only at h
      exact aK hF [.tmp 4] rfl rfl rfl (aF h) (by simp only [bA, go_sem])
     ·exact aX ((0 : Nat)) h rfl (by simp only [go_sem])
   ·rintro x_21 h
    simp only [go_sem]
    replace h : sat (nW x22_13 out_14 carry_12 x_21) _ := h
    unfold nW at h
    obtain ⟨g0, h⟩ := aM h
    repeat (refine ⟨by omega, ?_⟩)
    obtain ⟨g0, h⟩ := aM h
    repeat (refine ⟨by omega, ?_⟩)
    obtain ⟨g0, h⟩ := aM h
    repeat (refine ⟨by omega, ?_⟩)
    refine aN h fun g0 h => ?_
    replace h := hA6 _ (aF h)
    exact aX _ h rfl (by simp only [go_sem])
  ·replace h := hE6 _ (aF h)
   try dsimp only at h
   exact aK hF [.tmp 4] rfl rfl rfl (aF h) (by simp only [bA, go_sem])
theorem aCX : FOK Tryz.prog GL 99 oY := eY aO4 (fun ⟨x0, x1, u⟩ ⟨w0, w1, wu⟩ hp => aNo x0 w0 x1 w1 hp)
def aHj : PlR := ⟨[(0, .A [0]), (1, .B [2])], []⟩
def aEG : Ty := .pair (.sl (.u .u64)) .unit
noncomputable def aAm : aJ := ⟨aEG, .one (.sl (.u .u64)), fun x => pSz x.1, fun x => vL x.1⟩
attribute [go_sem] aAm aEG
noncomputable def aO5 : aJ := mSpec aEG (.one (.sl (.u .u64))) (fun x => zL x.1)
noncomputable def aEH : List (FuncId × aJ) := [(163, eH), (165, bQ)]
theorem aQu : bL Tryz.prog GL aEH := .cons qN (by kernel_rfl) (.cons iB (by kernel_rfl) (.nil))
theorem aJZ : gam aEH 163 = some eH := rfl
theorem aJ0 : gam aEH 165 = some bQ := rfl
attribute [go_sem] aHj aJZ aJ0
set_option maxHeartbeats 4000000 in
theorem aO6 : FOK Tryz.prog GL 231 aO5 := by
 refine bZ (bF aQu) mix Tryz.func231 rfl (by kernel_rfl) (by decide) aHj fun w0 S x Θ hw h hF => ?_
 obtain ⟨(a_0 : (List Nat)), u⟩ := x
 simp only [cC, go_sem]
 replace h : sat (zL a_0) _ := h
 unfold zL at h
 refine aN h fun g0 h => ?_
 exact aK hF [.tmp 2] rfl rfl rfl (aF h) (by simp only [bA, go_sem])
theorem aO7 : FOK Tryz.prog GL 231 aAm := eY aO6 (fun ⟨x0, u⟩ ⟨w0, wu⟩ hp => aNp x0 w0 hp)
end Nu
end Go.Proofs
namespace Go.Proofs
open Go.Vc
set_option maxRecDepth 20000
namespace Nu
def aFo : PlR := ⟨[(0, .A [0, 1]), (1, .B [0, 1, 5]), (2, .A [1, 5, 20, 21, 22]), (3, .A [1, 5, 20, 21, 22, 23]), (4, .A [1, 5, 6, 7, 20, 21, 22]), (5, .A [1, 5, 6, 7, 8, 20, 21, 22]), (6, .A [1, 5, 6, 7, 8, 20, 21, 22, 27, 28, 29]), (7, .A [1, 5, 6, 7, 8, 20, 21, 22, 27, 28, 29, 30]), (8, .A [1, 5, 6, 7, 8, 9, 10, 20, 21, 22, 27, 28, 29]), (9, .A [1, 5, 6, 7, 8, 9, 11, 12, 20, 21, 22, 27, 28, 29]), (10, .A [1, 5, 6, 7, 8, 9, 11, 12, 20, 21, 22, 27, 28, 29]), (11, .A [1, 5, 6, 7, 9, 11, 12, 13, 20, 21, 22, 27, 28, 29]), (12, .A [1, 5, 6, 7, 9, 11, 12, 20, 21, 22, 27, 28, 29]), (13, .B [1, 5, 6, 7, 11, 13, 20, 21, 22, 27, 28, 29]), (14, .A [1, 5, 6, 7, 8, 20, 21, 22, 27, 28, 29]), (15, .A [1, 5, 6, 7, 8, 20, 21, 22, 27, 28, 29]), (16, .B [1, 5, 20, 21, 22]), (17, .A [1, 5, 20, 21, 22]), (18, .B [4])], [(9, 19)]⟩
def aCY : Ty := .pair (.sl (.u .u64)) (.pair (.sl (.u .u64)) .unit)
noncomputable def jB : aJ := ⟨aCY, .one (.sl (.u .u64)), fun x => aJP x.1 x.2.1, fun x => bY x.1 x.2.1⟩
attribute [go_sem] jB aCY
noncomputable def aNB : aJ := mSpec aCY (.one (.sl (.u .u64))) (fun x => wQ x.1 x.2.1)
noncomputable def aAn : List (FuncId × aJ) := [(161, lI), (162, lH), (163, eH)]
theorem aO8 : bL Tryz.prog GL aAn := .cons aAK (by kernel_rfl) (.nat aAF (.cons qN (by kernel_rfl) (.nil)))
theorem aHU : gam aAn 161 = some lI := rfl
theorem aHV : gam aAn 162 = some lH := rfl
theorem aHW : gam aAn 163 = some eH := rfl
attribute [go_sem] aFo aHU aHV aHW
set_option maxHeartbeats 4000000 in
theorem aNC : FOK Tryz.prog GL 94 aNB := by
 refine bZ (bF aO8) mix Tryz.func94 rfl (by kernel_rfl) (by decide) aFo fun w0 S x Θ hw h hF => ?_
 obtain ⟨(a_0 : (List Nat)), (b_1 : (List Nat)), u⟩ := x
 simp only [cC, go_sem]
 replace h : sat (wQ a_0 b_1) _ := h
 unfold wQ at h
 refine aN h fun g0 h => ?_
 obtain ⟨g0, h⟩ := aM h
 obtain ⟨g1, h⟩ := aM h
 repeat (refine ⟨by omega, ?_⟩)
 refine dP hF (D := Int × (List Nat)) [1, 20, 21] (fun d => [(5, .own 0), (22, .val (.i .i64) d.1)]) (fun d => [.inr (.row 83 (.u .u64) d.2)]) h rfl (by simp only [go_sem]) ?_
 rintro ⟨x22_34, out_35⟩ A3 T3 hA3 hE3 h
 simp only [go_sem]
 replace h : sat (lX a_0 b_1 x22_34 out_35) _ := h
 unfold lX at h
 refine jZ h (fun hc h => ?_) fun hc h => ?_
 ·obtain ⟨g0, h⟩ := aM h
  repeat (refine ⟨by omega, ?_⟩)
  refine eC hF (D := Nat × (List Nat)) (fun d => sat (qL x22_34 b_1 d.1 d.2) T3) [1, 6, 20, 21, 22] (fun d => [(5, .own 0), (8, .val (.u .u64) d.1)]) (fun d => [.inr (.row 83 (.u .u64) d.2)]) ?_ ?_
  ·simp only [go_sem]
   refine dP hF (D := Nat × Int × (List Nat)) [1, 6, 7, 20, 21, 22, 27, 28] (fun d => [(5, .own 0), (8, .val (.u .u64) d.1), (29, .val (.i .i64) d.2.1)]) (fun d => [.inr (.row 83 (.u .u64) d.2.2)]) h rfl (by simp only [go_sem]) ?_
   rintro ⟨carry_64, x29_65, out_66⟩ A7 T7 hA7 hE7 h
   simp only [go_sem]
   replace h : sat (lW b_1 a_0 x22_34 carry_64 x29_65 out_66) _ := h
   unfold lW at h
   refine jZ h (fun hc h => ?_) fun hc h => ?_
   ·obtain ⟨g0, h⟩ := aM h
    repeat (refine ⟨by omega, ?_⟩)
    obtain ⟨g0, h⟩ := aM h
    repeat (refine ⟨by omega, ?_⟩)
    obtain ⟨g0, h⟩ := aM h
    repeat (refine ⟨by omega, ?_⟩)
    obtain ⟨g0, h⟩ := aM h
    repeat (refine ⟨by omega, ?_⟩)
    obtain ⟨g0, h⟩ := aM h
    repeat (refine ⟨by omega, ?_⟩)
    obtain ⟨g0, h⟩ := aM h
    repeat (refine ⟨by omega, ?_⟩)
    obtain ⟨g0, h⟩ := aM h
    repeat (refine ⟨by omega, ?_⟩)
    obtain ⟨g0, h⟩ := aM h
    repeat (refine ⟨by omega, ?_⟩)
    replace h := hA7 _ (aF h)
    exact aX _ h rfl (by simp only [go_sem])
   ·replace h := hE7 _ (aF h)
    try dsimp only at h
    exact aX ((carry_64, out_66)) h rfl (by simp only [go_sem])
  ·rintro ⟨carry_62, out_63⟩ h
   simp only [go_sem]
   replace h : sat (qL x22_34 b_1 carry_62 out_63) _ := h
   unfold qL at h
   obtain ⟨g0, h⟩ := aM h
   repeat (refine ⟨by omega, ?_⟩)
   obtain ⟨g0, h⟩ := aM h
   repeat (refine ⟨by omega, ?_⟩)
   obtain ⟨g0, h⟩ := aM h
   repeat (refine ⟨by omega, ?_⟩)
   replace h := hA3 _ (aF h)
   exact aX _ h rfl (by simp only [go_sem])
 ·replace h := hE3 _ (aF h)
  try dsimp only at h
  exact aK hF [.tmp 4] rfl rfl rfl (aF h) (by simp only [bA, go_sem])
theorem xW : FOK Tryz.prog GL 94 jB := eY aNC (fun ⟨x0, x1, u⟩ ⟨w0, w1, wu⟩ hp => aLa x0 w0 x1 w1 hp)
def aHk : PlR := ⟨[(0, .A [0, 1]), (1, .A [0, 1, 10]), (2, .A [4]), (3, .B [0, 1, 5]), (4, .A [1, 5, 18, 19, 20]), (5, .A [1, 5, 18, 19, 20, 21]), (6, .A [1, 5, 6, 7, 18, 19, 20]), (7, .B [1, 5, 6, 7, 18, 19, 20]), (8, .B [1, 5, 18, 19, 20]), (9, .A [1, 5, 18, 19, 20]), (10, .B [4])], []⟩
def aEI : Ty := .pair (.sl (.u .u64)) (.pair (.i .i64) .unit)
noncomputable def lJ : aJ := ⟨aEI, .one (.sl (.u .u64)), fun x => aHb x.1 x.2.1, fun x => bI x.1 x.2.1⟩
attribute [go_sem] lJ aEI
noncomputable def aO9 : aJ := mSpec aEI (.one (.sl (.u .u64))) (fun x => zM x.1 x.2.1)
noncomputable def aJ1 : List (FuncId × aJ) := [(163, eH)]
theorem aQv : bL Tryz.prog GL aJ1 := .cons qN (by kernel_rfl) (.nil)
theorem aJ2 : gam aJ1 163 = some eH := rfl
attribute [go_sem] aHk aJ2
set_option maxHeartbeats 4000000 in
theorem aPa : FOK Tryz.prog GL 95 aO9 := by
 refine bZ (bF aQv) mix Tryz.func95 rfl (by kernel_rfl) (by decide) aHk fun w0 S x Θ hw h hF => ?_
 obtain ⟨(a_0 : (List Nat)), (n_1 : Int), u⟩ := x
 simp only [cC, go_sem]
 replace h : sat (zM a_0 n_1) _ := h
 unfold zM at h
 refine iL h (fun hc h => ?_) fun hc h => ?_
 ·exact aK hF [.tmp 4] rfl rfl rfl (aF h) (by simp only [bA, go_sem])
 ·obtain ⟨g0, h⟩ := aM h
  try simp only [I64, I32] at g0
  repeat (refine ⟨by first | with_reducible assumption | omega | (intros; first | assumption | omega) | (simp only [go_sem] at *; first | assumption | omega) | decide, ?_⟩)
  obtain ⟨g0, h⟩ := aM h
  try simp only [I64, I32] at g0
  repeat (refine ⟨by first | with_reducible assumption | omega | (intros; first | assumption | omega) | (simp only [go_sem] at *; first | assumption | omega) | decide, ?_⟩)
  obtain ⟨g0, h⟩ := aM h
  try simp only [I64, I32] at g0
  repeat (refine ⟨by first | with_reducible assumption | omega | (intros; first | assumption | omega) | (simp only [go_sem] at *; first | assumption | omega) | decide, ?_⟩)
  obtain ⟨g0, h⟩ := aM h
  obtain ⟨g1, h⟩ := aM h
  repeat (refine ⟨by first | with_reducible assumption | omega | (intros; first | assumption | omega) | (simp only [go_sem] at *; first | assumption | omega) | decide, ?_⟩)
  refine dP hF (D := Int × (List Nat)) [1, 18, 19] (fun d => [(5, .own 0), (20, .val (.i .i64) d.1)]) (fun d => [.inr (.row 83 (.u .u64) d.2)]) h rfl (by simp only [go_sem]) ?_
  rintro ⟨x20_7, out_8⟩ A5 T5 hA5 hE5 h
  simp only [go_sem]
  replace h : sat (nZ a_0 n_1 x20_7 out_8) _ := h
  unfold nZ at h
  refine jZ h (fun hc h => ?_) fun hc h => ?_
  ·obtain ⟨g0, h⟩ := aM h
   repeat (refine ⟨by first | with_reducible assumption | omega | (intros; first | assumption | omega) | (simp only [go_sem] at *; first | assumption | omega) | decide, ?_⟩)
   obtain ⟨g0, h⟩ := aM h
   try simp only [I64, I32] at g0
   repeat (refine ⟨by first | with_reducible assumption | omega | (intros; first | assumption | omega) | (simp only [go_sem] at *; first | assumption | omega) | decide, ?_⟩)
   obtain ⟨g0, h⟩ := aM h
   try simp only [I64, I32] at g0
   repeat (refine ⟨by first | with_reducible assumption | omega | (intros; first | assumption | omega) | (simp only [go_sem] at *; first | assumption | omega) | decide, ?_⟩)
   obtain ⟨g0, h⟩ := aM h
   repeat (refine ⟨by first | with_reducible assumption | omega | (intros; first | assumption | omega) | (simp only [go_sem] at *; first | assumption | omega) | decide, ?_⟩)
   obtain ⟨g0, h⟩ := aM h
   repeat (refine ⟨by first | with_reducible assumption | omega | (intros; first | assumption | omega) | (simp only [go_sem] at *; first | assumption | omega) | decide, ?_⟩)
   obtain ⟨g0, h⟩ := aM h
   try simp only [I64, I32] at g0
   repeat (refine ⟨by first | with_reducible assumption | omega | (intros; first | assumption | omega) | (simp only [go_sem] at *; first | assumption | omega) | decide, ?_⟩)
   obtain ⟨g0, h⟩ := aM h
   try simp only [I64, I32] at g0
   repeat (refine ⟨by first | with_reducible assumption | omega | (intros; first | assumption | omega) | (simp only [go_sem] at *; first | assumption | omega) | decide, ?_⟩)
   obtain ⟨g0, h⟩ := aM h
   try simp only [I64, I32] at g0
   repeat (refine ⟨by first | with_reducible assumption | omega | (intros; first | assumption | omega) | (simp only [go_sem] at *; first | assumption | omega) | decide, ?_⟩)
   obtain ⟨g0, h⟩ := aM h
   repeat (refine ⟨by first | with_reducible assumption | omega | (intros; first | assumption | omega) | (simp only [go_sem] at *; first | assumption | omega) | decide, ?_⟩)
   obtain ⟨g0, h⟩ := aM h
   try simp only [I64, I32] at g0
   repeat (refine ⟨by first | with_reducible assumption | omega | (intros; first | assumption | omega) | (simp only [go_sem] at *; first | assumption | omega) | decide, ?_⟩)
   obtain ⟨g0, h⟩ := aM h
   repeat (refine ⟨by first | with_reducible assumption | omega | (intros; first | assumption | omega) | (simp only [go_sem] at *; first | assumption | omega) | decide, ?_⟩)
   obtain ⟨g0, h⟩ := aM h
   try simp only [I64, I32] at g0
   repeat (refine ⟨by first | with_reducible assumption | omega | (intros; first | assumption | omega) | (simp only [go_sem] at *; first | assumption | omega) | decide, ?_⟩)
   replace h := hA5 _ (aF h)
   exact aX _ h rfl (by (try simp only [jA, fL, true_or, and_self, go_sem]) <;> (repeat' apply And.intro) <;> first | rfl | (left; rfl) | (right; rfl) | (left; simp only [go_sem]; done) | (right; simp only [go_sem]; done) | (simp; done) | (simp only [*]; done) | omega)
  ·replace h := hE5 _ (aF h)
   try dsimp only at h
   exact aK hF [.tmp 4] rfl rfl rfl (aF h) (by simp only [bA, go_sem])
theorem aAo : FOK Tryz.prog GL 95 lJ := eY aPa (fun ⟨x0, x1, u⟩ ⟨w0, w1, wu⟩ hp => aNr x0 w0 x1 w1 hp)
def aFp : PlR := ⟨[(0, .A [0, 1]), (1, .A [0, 1, 12]), (2, .A [4]), (3, .A [0, 1]), (4, .B [0, 1, 5]), (5, .A [0, 1, 5, 20, 21, 22]), (6, .A [0, 1, 5, 20, 21, 22, 23]), (7, .A [0, 1, 5, 6, 7, 20, 21, 22]), (8, .B [0, 1, 5, 6, 20, 21, 22]), (9, .A [0, 1, 5, 6, 20, 21, 22, 39]), (10, .C 17 [0, 1, 5, 20, 21, 22]), (11, .A [0, 1, 5, 20, 21, 22]), (12, .B [4])], []⟩
def aCZ : Ty := .pair (.sl (.u .u64)) (.pair (.i .i64) .unit)
noncomputable def jC : aJ := ⟨aCZ, .one (.sl (.u .u64)), fun x => aGr x.1 x.2.1, fun x => dB x.1 x.2.1⟩
attribute [go_sem] jC aCZ
noncomputable def aND : aJ := mSpec aCZ (.one (.sl (.u .u64))) (fun x => wR x.1 x.2.1)
noncomputable def aHl : List (FuncId × aJ) := [(163, eH)]
theorem aPb : bL Tryz.prog GL aHl := .cons qN (by kernel_rfl) (.nil)
theorem aHX : gam aHl 163 = some eH := rfl
attribute [go_sem] aFp aHX
set_option maxHeartbeats 4000000 in
theorem aNE : FOK Tryz.prog GL 97 aND := by
 refine bZ (bF aPb) mix Tryz.func97 rfl (by kernel_rfl) (by decide) aFp fun w0 S x Θ hw h hF => ?_
 obtain ⟨(a_0 : (List Nat)), (n_1 : Int), u⟩ := x
 simp only [cC, go_sem]
 replace h : sat (wR a_0 n_1) _ := h
 unfold wR at h
 obtain ⟨g0, h⟩ := aM h
 try simp only [I64, I32] at g0
 repeat (refine ⟨by first | with_reducible assumption | omega | (intros; first | assumption | omega) | (simp only [go_sem] at *; first | assumption | omega) | decide, ?_⟩)
 refine aP9 h (fun hc h => ?_) fun hc h => ?_
 ·exact aK hF [.tmp 4] rfl rfl rfl (aF h) (by simp only [bA, go_sem])
 ·obtain ⟨g0, h⟩ := aM h
  obtain ⟨g1, h⟩ := aM h
  try simp only [I64, I32] at g0
  repeat (refine ⟨by first | with_reducible assumption | omega | (intros; first | assumption | omega) | (simp only [go_sem] at *; first | assumption | omega) | decide, ?_⟩)
  obtain ⟨g0, h⟩ := aM h
  obtain ⟨g1, h⟩ := aM h
  repeat (refine ⟨by first | with_reducible assumption | omega | (intros; first | assumption | omega) | (simp only [go_sem] at *; first | assumption | omega) | decide, ?_⟩)
  refine dP hF (D := Int × (List Nat)) [0, 1, 20, 21] (fun d => [(5, .own 0), (22, .val (.i .i64) d.1)]) (fun d => [.inr (.row 83 (.u .u64) d.2)]) h rfl (by simp only [go_sem]) ?_
  rintro ⟨x22_10, out_11⟩ A6 T6 hA6 hE6 h
  simp only [go_sem]
  replace h : sat (lY n_1 a_0 x22_10 out_11) _ := h
  unfold lY at h
  refine jZ h (fun hc h => ?_) fun hc h => ?_
  ·obtain ⟨g0, h⟩ := aM h
   repeat (refine ⟨by first | with_reducible assumption | omega | (intros; first | assumption | omega) | (simp only [go_sem] at *; first | assumption | omega) | decide, ?_⟩)
   obtain ⟨g0, h⟩ := aM h
   repeat (refine ⟨by first | with_reducible assumption | omega | (intros; first | assumption | omega) | (simp only [go_sem] at *; first | assumption | omega) | decide, ?_⟩)
   obtain ⟨g0, h⟩ := aM h
   try simp only [I64, I32] at g0
   repeat (refine ⟨by first | with_reducible assumption | omega | (intros; first | assumption | omega) | (simp only [go_sem] at *; first | assumption | omega) | decide, ?_⟩)
   refine ⟨fun hc => ?_, fun hc => ?_⟩
   ·replace h := hZ hc h
    obtain ⟨g0, h⟩ := aM h
    obtain ⟨g1, h⟩ := aM h
    obtain ⟨g2, h⟩ := aM h
    obtain ⟨g3, h⟩ := aM h
    obtain ⟨g4, h⟩ := aM h
    try simp only [I64, I32] at g1
    try simp only [I64, I32] at g3
    repeat (refine ⟨by first | with_reducible assumption | omega | (intros; first | assumption | omega) | (simp only [go_sem] at *; first | assumption | omega) | decide, ?_⟩)
    obtain ⟨g0, h⟩ := aM h
    try simp only [I64, I32] at g0
    repeat (refine ⟨by first | with_reducible assumption | omega | (intros; first | assumption | omega) | (simp only [go_sem] at *; first | assumption | omega) | decide, ?_⟩)
    replace h := hA6 _ (aF h)
    exact aX _ h rfl (by (try simp only [jA, fL, true_or, and_self, go_sem]) <;> (repeat' apply And.intro) <;> first | rfl | (left; rfl) | (right; rfl) | (left; simp only [go_sem]; done) | (right; simp only [go_sem]; done) | (simp; done) | (simp only [*]; done) | omega)
   ·replace h := iA (by first | exact hc | omega) h
    obtain ⟨g0, h⟩ := aM h
    try simp only [I64, I32] at g0
    repeat (refine ⟨by first | with_reducible assumption | omega | (intros; first | assumption | omega) | (simp only [go_sem] at *; first | assumption | omega) | decide, ?_⟩)
    replace h := hA6 _ (aF h)
    exact aX _ h rfl (by simp only [go_sem])
  ·replace h := hE6 _ (aF h)
   try dsimp only at h
   exact aK hF [.tmp 4] rfl rfl rfl (aF h) (by simp only [bA, go_sem])
theorem xX : FOK Tryz.prog GL 97 jC := eY aNE (fun ⟨x0, x1, u⟩ ⟨w0, w1, wu⟩ hp => aLb x0 w0 x1 w1 hp)
end Nu
end Go.Proofs
namespace Go.Proofs
open Go.Vc
set_option maxRecDepth 20000
namespace Nu
def aD3 : PlR := ⟨[(2, .stop), (4, .stop)], [(20, 24), (27, 31)]⟩
def aBN : Ty := .pair (.u .u64) (.pair (.u .u64) (.pair (.u .u64) .unit))
noncomputable def pU : aJ := ⟨aBN, .tup (.pair (.u .u64) (.pair (.u .u64) .unit)), fun x => xV x.1 x.2.1 x.2.2.1, fun x => kX x.1 x.2.1 x.2.2.1⟩
attribute [go_sem] pU aBN
noncomputable def aLh : aJ := mSpec aBN (.tup (.pair (.u .u64) (.pair (.u .u64) .unit))) (fun x => uC x.1 x.2.1 x.2.2.1)
noncomputable def aFq : List (FuncId × aJ) := [(188, dL)]
theorem aNF : bL Tryz.prog GL aFq := .cons pG (by kernel_rfl) (.nil)
theorem aGt : gam aFq 188 = some dL := rfl
attribute [go_sem] aD3 aGt
set_option maxHeartbeats 4000000 in
theorem aLi : FOK Tryz.prog GL 252 aLh := by
 refine bZ (bF aNF) mix Tryz.func252 rfl (by kernel_rfl) (by decide) aD3 fun w0 S x Θ hw h hF => ?_
 obtain ⟨(hi_0 : Nat), (lo_1 : Nat), (y_2 : Nat), u⟩ := x
 simp only [cC, go_sem]
 replace h : sat (uC hi_0 lo_1 y_2) _ := h
 unfold uC at h
 refine dS hF [0, 1, 2] ?_
 simp only [go_sem]
 refine dS hF [0, 1, 2, 20] ?_
 simp only [go_sem]
 refine iL h (fun hc h => ?_) fun hc h => ?_
 ·exact aCP h
 ·refine dS hF [0, 1, 2, 24] ?_
  simp only [go_sem]
  refine iL h (fun hc h => ?_) fun hc h => ?_
  ·exact aCP h
  ·refine dS hF [0, 1, 2, 27] ?_
   simp only [go_sem]
   refine iL h (fun hc h => ?_) fun hc h => ?_
   ·refine dS hF [6, 7] ?_
    simp only [go_sem]
    refine aN h fun g0 h => aN h fun g1 h => ?_
    exact aK hF [.tmp 6, .tmp 7] rfl rfl rfl (aF h) (by simp only [bA, go_sem])
   ·refine dS hF [0, 1, 2, 8] ?_
    simp only [go_sem]
    refine dS hF [0, 1, 2, 8] ?_
    simp only [go_sem]
    refine dS hF [0, 1, 2, 8, 9] ?_
    simp only [go_sem]
    refine dS hF [0, 1, 2, 8, 9, 10] ?_
    simp only [go_sem]
    refine dS hF [1, 2, 8, 9, 10, 11] ?_
    simp only [go_sem]
    refine dS hF [2, 8, 9, 10, 11, 12] ?_
    simp only [go_sem]
    refine dS hF [2, 8, 9, 10, 11, 12, 13] ?_
    simp only [go_sem]
    refine dS hF [2, 8, 9, 10, 11, 13, 14] ?_
    simp only [go_sem]
    refine dS hF [2, 8, 9, 10, 11, 13, 14, 15] ?_
    simp only [go_sem]
    refine aN h fun g0 h => ?_
    refine dS hF [2, 8, 9, 10, 11, 13, 14, 15, 16] ?_
    simp only [go_sem]
    refine eC hF (D := Nat) (fun d => sat (pP y_2 lo_1 hi_0 d) Θ) [2, 8, 9, 10, 11, 13, 14] (fun d => [(15, .val (.u .u64) d)]) (fun d => []) ?_ ?_
    ·simp only [go_sem]
     refine dP hF (D := Nat × Nat) [2, 8, 9, 10, 11, 13, 14] (fun d => [(15, .val (.u .u64) d.1), (16, .val (.u .u64) d.2)]) (fun d => []) h rfl (by simp only [go_sem]) ?_
     rintro ⟨x15_19, rhat_20⟩ A17 T17 hA17 hE17 h
     simp only [go_sem]
     replace h : sat (gU lo_1 y_2 x15_19 rhat_20) _ := h
     unfold gU at h
     refine dS hF [2, 8, 9, 10, 11, 13, 14, 15, 16, 78] ?_
     simp only [go_sem]
     refine ⟨fun hc => ?_, fun hc => ?_⟩
     ·replace h := hZ hc h
      refine dS hF [2, 8, 9, 10, 11, 13, 14, 15, 16] ?_
      simp only [go_sem]
      refine dS hF [2, 8, 9, 10, 11, 13, 14, 15, 16] ?_
      simp only [go_sem]
      refine dS hF [2, 8, 9, 10, 11, 13, 14, 15, 16, 85] ?_
      simp only [go_sem]
      refine iL h (fun hc h => ?_) fun hc h => ?_
      ·replace h := hE17 _ (aF h)
       try dsimp only at h
       exact aX ((lR .u64 x15_19 (1 : Nat))) h rfl (by simp only [go_sem])
      ·replace h := hA17 _ (aF h)
       exact aX _ h rfl (by simp only [go_sem])
     ·replace h := iA hc h
      replace h := hE17 _ (aF h)
      try dsimp only at h
      exact aX (x15_19) h rfl (by simp only [go_sem])
    ·rintro x15_8 h
     simp only [go_sem]
     replace h : sat (pP y_2 lo_1 hi_0 x15_8) _ := h
     unfold pP at h
     refine dS hF [2, 8, 9, 10, 14, 15, 17] ?_
     simp only [go_sem]
     refine dS hF [2, 8, 9, 10, 14, 15, 17, 18] ?_
     simp only [go_sem]
     refine aN h fun g0 h => ?_
     refine dS hF [2, 8, 9, 10, 14, 15, 16, 17, 18] ?_
     simp only [go_sem]
     refine eC hF (D := Nat) (fun d => sat (pO x15_8 hi_0 y_2 lo_1 d) Θ) [2, 8, 14, 15, 17] (fun d => [(18, .val (.u .u64) d)]) (fun d => []) ?_ ?_
     ·simp only [go_sem]
      refine dP hF (D := Nat × Nat) [2, 8, 9, 10, 14, 15, 17] (fun d => [(16, .val (.u .u64) d.1), (18, .val (.u .u64) d.2)]) (fun d => []) h rfl (by simp only [go_sem]) ?_
      rintro ⟨rhat_14, x18_15⟩ A24 T24 hA24 hE24 h
      simp only [go_sem]
      replace h : sat (gT lo_1 y_2 rhat_14 x18_15) _ := h
      unfold gT at h
      refine dS hF [2, 8, 9, 10, 14, 15, 16, 17, 18, 113] ?_
      simp only [go_sem]
      refine ⟨fun hc => ?_, fun hc => ?_⟩
      ·replace h := hZ hc h
       refine dS hF [2, 8, 9, 10, 14, 15, 16, 17, 18] ?_
       simp only [go_sem]
       refine dS hF [2, 8, 9, 10, 14, 15, 16, 17, 18] ?_
       simp only [go_sem]
       refine dS hF [2, 8, 9, 10, 14, 15, 16, 17, 18, 120] ?_
       simp only [go_sem]
       refine iL h (fun hc h => ?_) fun hc h => ?_
       ·replace h := hE24 _ (aF h)
        try dsimp only at h
        exact aX ((lR .u64 x18_15 (1 : Nat))) h rfl (by simp only [go_sem])
       ·replace h := hA24 _ (aF h)
        exact aX _ h rfl (by simp only [go_sem])
      ·replace h := iA hc h
       replace h := hE24 _ (aF h)
       try dsimp only at h
       exact aX (x18_15) h rfl (by simp only [go_sem])
     ·rintro x18_13 h
      simp only [go_sem]
      replace h : sat (pO x15_8 hi_0 y_2 lo_1 x18_13) _ := h
      unfold pO at h
      refine dS hF [6, 7] ?_
      simp only [go_sem]
      exact aK hF [.tmp 6, .tmp 7] rfl rfl rfl (aF h) (by simp only [bA, go_sem])
theorem aD4 : FOK Tryz.prog GL 252 pU := eY aLi (fun ⟨x0, x1, x2, u⟩ ⟨w0, w1, w2, wu⟩ hp => aJS x0 w0 x1 w1 x2 w2 hp)
def aFr : PlR := ⟨[], [(6, 10)]⟩
def aC0 : Ty := .pair (.sl (.u .u64)) (.pair (.u .u64) .unit)
noncomputable def xY : aJ := ⟨aC0, .tup (.pair (.sl (.u .u64)) (.pair (.sl (.u .u64)) .unit)), fun x => aCT x.1 x.2.1, fun x => sX x.1 x.2.1⟩
attribute [go_sem] xY aC0
noncomputable def aNG : aJ := mSpec aC0 (.tup (.pair (.sl (.u .u64)) (.pair (.sl (.u .u64)) .unit))) (fun x => wS x.1 x.2.1)
noncomputable def aC1 : List (FuncId × aJ) := [(163, eH), (252, pU)]
theorem aPc : bL Tryz.prog GL aC1 := .cons qN (by kernel_rfl) (.cons aD4 (by kernel_rfl) (.nil))
theorem aHY : gam aC1 163 = some eH := rfl
theorem aHZ : gam aC1 252 = some pU := rfl
attribute [go_sem] aFr aHY aHZ
set_option maxHeartbeats 4000000 in
theorem aNH : FOK Tryz.prog GL 219 aNG := by
 refine bZ (bF aPc) mix Tryz.func219 rfl (by kernel_rfl) (by decide) aFr fun w0 S x Θ hw h hF => ?_
 obtain ⟨(a_0 : (List Nat)), (b_1 : Nat), u⟩ := x
 simp only [cC, go_sem]
 replace h : sat (wS a_0 b_1) _ := h
 unfold wS at h
 refine dS hF [0, 1] ?_
 simp only [go_sem]
 refine aNg hF [0, 1, 6] ?_
 simp only [go_sem]
 obtain ⟨g0, h⟩ := aM h
 obtain ⟨g1, h⟩ := aM h
 repeat (refine ⟨by omega, ?_⟩)
 refine dS hF [0, 1, 6, 7] ?_
 simp only [go_sem]
 refine eC hF (D := Nat × (List Nat)) (fun d => sat (qM d.1 d.2) Θ) [] (fun d => [(6, .own 0), (7, .val (.u .u64) d.1)]) (fun d => [.inr (.row 83 (.u .u64) d.2)]) ?_ ?_
 ·simp only [go_sem]
  refine dS hF [0, 1, 6, 7, 8] ?_
  simp only [go_sem]
  obtain ⟨g0, h⟩ := aM h
  repeat (refine ⟨by omega, ?_⟩)
  refine dP hF (D := Nat × Int × (List Nat)) [0, 1] (fun d => [(6, .own 0), (7, .val (.u .u64) d.1), (8, .val (.i .i64) d.2.1)]) (fun d => [.inr (.row 83 (.u .u64) d.2.2)]) h rfl (by simp only [go_sem]) ?_
  rintro ⟨rest_11, i_12, q_13⟩ A4 T4 hA4 hE4 h
  simp only [go_sem]
  replace h : sat (lZ a_0 b_1 rest_11 i_12 q_13) _ := h
  unfold lZ at h
  refine dS hF [0, 1, 6, 7, 8, 16] ?_
  simp only [go_sem]
  refine aP9 h (fun hc h => ?_) fun hc h => ?_
  ·refine aNg hF [0, 1, 6, 7, 8] ?_
   simp only [go_sem]
   obtain ⟨g0, h⟩ := aM h
   repeat (refine ⟨by omega, ?_⟩)
   obtain ⟨g0, h⟩ := aM h
   repeat (refine ⟨by omega, ?_⟩)
   obtain ⟨g0, h⟩ := aM h
   repeat (refine ⟨by omega, ?_⟩)
   refine dS hF [0, 1, 6, 7, 8] ?_
   simp only [go_sem]
   obtain ⟨g0, h⟩ := aM h
   repeat (refine ⟨by omega, ?_⟩)
   replace h := hA4 _ (aF h)
   exact aX _ h rfl (by simp only [go_sem])
  ·replace h := hE4 _ (aF h)
   try dsimp only at h
   exact aX ((rest_11, q_13)) h rfl (by simp only [go_sem])
 ·rintro ⟨rest_9, q_10⟩ h
  simp only [go_sem]
  replace h : sat (qM rest_9 q_10) _ := h
  unfold qM at h
  refine aNg hF [4, 5] ?_
  simp only [go_sem]
  exact aK hF [.tmp 4, .tmp 5] rfl rfl rfl (aF h) (by simp only [bA, go_sem])
theorem aNI : FOK Tryz.prog GL 219 xY := eY aNH (fun ⟨x0, x1, u⟩ ⟨w0, w1, wu⟩ hp => aLc x0 w0 x1 w1 hp)
end Nu
end Go.Proofs
namespace Go.Proofs
open Go.Vc
set_option maxRecDepth 20000
namespace Nu
noncomputable def lK (is_0 : Bool) (e_1 : Int) : Option (Unit ⊕ (Int × Unit)) :=
 if ¬ (is_0 = true) then some (.inr (e_1, ())) else some (.inl ())
noncomputable def iE : mY where
 D := Bool × Int × (Unit ⊕ (Int × Unit))
 av := fun d => [.val .bool d.1, .val (.i .i64) d.2.1]
 hp := fun d => []
 m := 0
 pre := fun d => lK d.1 d.2.1 = some d.2.2
 out := fun d => match d.2.2 with | .inl r => .ret (.tup []) [] | .inr p => .pan ⟨251, (.pair (.i .i64) .unit), p⟩ []
noncomputable def aHm : List (FuncId × aJ) := []
theorem aHn : bL Tryz.prog GL aHm := .nil
set_option maxHeartbeats 4000000 in
theorem nH : GOK Tryz.prog GL 233 iE := by
 refine pN (bF aHn) Tryz.func233 rfl (by kernel_rfl) (fun _ => Nat.le_of_ble_eq_true rfl) fun c0 w0 d hw1 hw2 h hn => ?_
 have hF : iZ ⟨Tryz.prog, EM aHm, GM iE c0 d, w0, Tryz.f233.ntmps, []⟩ := ⟨bF aHn, mix⟩
 obtain ⟨(is_0 : Bool), (e_1 : Int), r⟩ := d
 replace h : lK is_0 e_1 = some r := h
 have hw1 : AV.wfL [.val .bool is_0, .val (.i .i64) e_1] := hw1
 simp only [AV.wfL, AV.wfV, Ty.wf, lT] at hw1
 show Tri _ _ _ [(0, .val .bool is_0), (1, .val (.i .i64) e_1)] []
 unfold lK at h
 refine aC (aE hF [1, 5] ?_)
 simp only [go_sem]
 refine aD (bG rfl (fun hc => ?_) (fun hc => ?_))
 ·try simp only [go_sem] at hc
  have h := eF (by first | exact hc | omega | (simpa using hc) | (simp at hc ⊢; omega)) h
  refine aT hF (cH (l := []) (.nil)) [] [] ?_
  simp only [go_sem]
  repeat (refine ⟨by first | with_reducible assumption | omega | (intros; first | assumption | omega) | (simp only [go_sem] at *; first | assumption | omega) | decide, ?_⟩)
  obtain rfl := Option.some.inj h
  refine qD rfl rfl rfl rfl
 ·try simp only [go_sem] at hc
  have h := eG (by first | exact hc | omega | (simpa using hc) | (simp at hc ⊢; omega)) h
  obtain rfl := Option.some.inj h
  refine bR (tX (qC hF [] rfl rfl rfl rfl rfl rfl ?_))
  (try simp only [bA, zU, zC, fL, nU, AV.isAgg, go_sem]) <;> first | trivial | rfl | (simp; done)
attribute [go_sem] iE
noncomputable def rT (e_2 : Int) (m_1 : (List Nat)) (neg_0 : Bool) : Option ((qD0 ⊕ (Int × Unit))) :=
 ck (I64 (e_2 + (bX m_1))) (((lK (decide ((e_2 + (bX m_1)) ≤ (1048576 : Int))) (3 : Int))).bind (fun e => match e with | .inl r_22 => ck (I64 (e_2 + (bX m_1))) (some (.inl (neg_0, (dB m_1 (bX m_1)), (e_2 + (bX m_1)), ()))) | .inr p_23 => some (.inr p_23)))
noncomputable def vM (neg_0 : Bool) (m_1 : (List Nat)) (e_2 : Int) : Option (qD0 ⊕ (Int × Unit)) :=
 if (m_1.length : Int) = (0 : Int) then some (.inl (false, ([] : List Nat), (0 : Int), ())) else ck ((pSz m_1)) (ck ((aGr m_1 (bX m_1))) (((lK (decide (((((dB m_1 (bX m_1)).length) : Nat) : Int) ≤ (64 : Int))) (2 : Int))).bind (fun e => match e with | .inl r_8 => if e_2 ≤ (1048576 : Int) then ck (I64 ((-1048576 : Int) - (bX m_1))) (((lK ((decide (e_2 ≤ (1048576 : Int))) && (decide (((-1048576 : Int) - (bX m_1)) ≤ e_2))) (3 : Int))).bind (fun e => match e with | .inl r_24 => rT e_2 m_1 neg_0 | .inr p_25 => some (.inr p_25))) else ((lK false (3 : Int))).bind (fun e => match e with | .inl r_26 => rT e_2 m_1 neg_0 | .inr p_27 => some (.inr p_27)) | .inr p_9 => some (.inr p_9))))
noncomputable def wT : mY where
 D := Bool × (List Nat) × Int × (qD0 ⊕ (Int × Unit))
 av := fun d => [.val .bool d.1, .val (.sl (.u .u64)) d.2.1, .val (.i .i64) d.2.2.1]
 hp := fun d => []
 m := 0
 pre := fun d => vM d.1 d.2.1 d.2.2.1 = some d.2.2.2
 out := fun d => match d.2.2.2 with | .inl r => .ret (.val (.pair .bool (.pair (.sl (.u .u64)) (.pair (.i .i64) .unit))) r) [] | .inr p => .pan ⟨251, (.pair (.i .i64) .unit), p⟩ []
noncomputable def aBO : List (FuncId × aJ) := [(97, jC), (98, nG)]
theorem aJ3 : bL Tryz.prog GL aBO := .cons xX (by kernel_rfl) (.cons aBL (by kernel_rfl) (.nil))
theorem aLj : gam aBO 97 = some jC := rfl
attribute [go_sem] aLj
theorem aLk : gam aBO 98 = some nG := rfl
attribute [go_sem] aLk
set_option maxHeartbeats 4000000 in
theorem aHo : GOK Tryz.prog GL 182 wT := by
 refine pN (bF aJ3) Tryz.func182 rfl (by kernel_rfl) (fun _ => Nat.le_of_ble_eq_true rfl) fun c0 w0 d hw1 hw2 h hn => ?_
 have hF : iZ ⟨Tryz.prog, EM aBO, GM wT c0 d, w0, Tryz.f182.ntmps, []⟩ := ⟨bF aJ3, mix⟩
 obtain ⟨(neg_0 : Bool), (m_1 : (List Nat)), (e_2 : Int), r⟩ := d
 replace h : vM neg_0 m_1 e_2 = some r := h
 have hw1 : AV.wfL [.val .bool neg_0, .val (.sl (.u .u64)) m_1, .val (.i .i64) e_2] := hw1
 simp only [AV.wfL, AV.wfV, Ty.wf, lT] at hw1
 show Tri _ _ _ [(0, .val .bool neg_0), (1, .val (.sl (.u .u64)) m_1), (2, .val (.i .i64) e_2)] []
 unfold vM at h
 refine aC (bC hF [0, 1, 2, 6] ?_)
 simp only [go_sem]
 refine aD (aC (aC (aE hF [0, 1, 2, 6, 10] ?_)))
 simp only [go_sem]
 refine aD (bG rfl (fun hc => ?_) (fun hc => ?_))
 ·try simp only [go_sem] at hc
  have h := eF (by first | exact hc | omega | (simpa using hc) | (simp at hc ⊢; omega)) h
  refine aC (bC hF [6] ?_)
  simp only [go_sem]
  obtain rfl := Option.some.inj h
  refine aD (dD (bW (aCO hF [.cell 6 25] [] rfl rfl rfl rfl rfl rfl rfl rfl rfl ?_)))
  (try simp only [bA, zU, zC, fL, nU, AV.isAgg, go_sem]) <;> first | trivial | rfl | (simp; done)
 ·try simp only [go_sem] at hc
  have h := eG (by first | exact hc | omega | (simpa using hc) | (simp at hc ⊢; omega)) h
  refine bR (aD (aC (aE hF [0, 1, 2, 6, 7] ?_)))
  simp only [go_sem]
  obtain ⟨g0, h⟩ := aH h
  repeat (refine ⟨by first | with_reducible assumption | omega | (intros; first | assumption | omega) | (simp only [go_sem] at *; first | assumption | omega) | decide, ?_⟩)
  refine aD (aC (aE hF [0, 1, 2, 6, 7] ?_))
  simp only [go_sem]
  obtain ⟨g0, h⟩ := aH h
  repeat (refine ⟨by first | with_reducible assumption | omega | (intros; first | assumption | omega) | (simp only [go_sem] at *; first | assumption | omega) | decide, ?_⟩)
  obtain ⟨e, he1, h⟩ := bind_some h
  rcases e with r_8 | p_9
  ·try dsimp only at h
   refine aD (aC (aT hF (cH (l := [(233, ⟨iE, [], ((decide (((((dB m_1 (bX m_1)).length) : Nat) : Int) ≤ (64 : Int))), (2 : Int), .inl r_8)⟩)]) (.cons nH (by kernel_rfl) (.nil))) [0, 1, 2, 6, 7] [] ?_))
   simp only [go_sem]
   repeat (refine ⟨by first | with_reducible assumption | omega | (intros; first | assumption | omega) | (simp only [go_sem] at *; first | assumption | omega) | decide, ?_⟩)
   refine aD (jR (D := Unit) (fun d => rT e_2 m_1 neg_0 = some r) [0, 1, 2, 7] (fun d => [(6, .ptr 0 [])]) (fun d => [.inr (.box 3 (.val (.pair .bool (.pair (.sl (.u .u64)) (.pair (.i .i64) .unit))) (false, ([] : List Nat), (0 : Int), ())))]) ?_ ?_)
   ·by_cases hq : e_2 ≤ (1048576 : Int)
    ·have h := eF hq h
     obtain ⟨g0, h⟩ := aH h
     try simp only [I64, I32] at g0
     obtain ⟨e, he3, h⟩ := bind_some h
     rcases e with r_24 | p_25
     ·try dsimp only at h
      refine aT hF (cH (l := [(233, ⟨iE, [], (((decide (e_2 ≤ (1048576 : Int))) && (decide (((-1048576 : Int) - (bX m_1)) ≤ e_2))), (3 : Int), .inl r_24)⟩)]) (.cons nH (by kernel_rfl) (.nil))) [0, 1, 2, 6, 7] [] ?_
      simp only [go_sem]
      repeat (refine ⟨by first | with_reducible assumption | omega | (intros; first | assumption | omega) | (simp only [go_sem] at *; first | assumption | omega) | decide, ?_⟩)
      refine ⟨fun _ => ?_, fun hx => by first | (exfalso; omega) | (exfalso; simp_all; done)⟩
      repeat (refine ⟨by first | with_reducible assumption | omega | (intros; first | assumption | omega) | (simp only [go_sem] at *; first | assumption | omega) | decide, ?_⟩)
      refine ⟨fun _ => ?_, fun hx => by first | (exfalso; omega) | (exfalso; simp_all; done)⟩
      repeat (refine ⟨by first | with_reducible assumption | omega | (intros; first | assumption | omega) | (simp only [go_sem] at *; first | assumption | omega) | decide, ?_⟩)
      refine ⟨fun _ => ?_, fun hx => by first | (exfalso; omega) | (exfalso; simp_all; done)⟩
      repeat (refine ⟨by first | with_reducible assumption | omega | (intros; first | assumption | omega) | (simp only [go_sem] at *; first | assumption | omega) | decide, ?_⟩)
      refine ⟨fun _ => ?_, fun hx => by first | (exfalso; omega) | (exfalso; simp_all; done)⟩
      repeat (refine ⟨by first | with_reducible assumption | omega | (intros; first | assumption | omega) | (simp only [go_sem] at *; first | assumption | omega) | decide, ?_⟩)
      refine bB (aX (()) h rfl ?_)
      ·(try simp only [jA, fL, true_or, and_self, go_sem]) <;> (repeat' apply And.intro) <;> first | rfl | (left; rfl) | (right; rfl) | (left; simp only [go_sem]; done) | (right; simp only [go_sem]; done) | (simp; done) | (simp only [*]; done) | omega
     ·try dsimp only at h
      refine aT hF (cH (l := [(233, ⟨iE, [], (((decide (e_2 ≤ (1048576 : Int))) && (decide (((-1048576 : Int) - (bX m_1)) ≤ e_2))), (3 : Int), .inr p_25)⟩)]) (.cons nH (by kernel_rfl) (.nil))) [0, 1, 2, 6, 7] [] ?_
      simp only [go_sem]
      repeat (refine ⟨by first | with_reducible assumption | omega | (intros; first | assumption | omega) | (simp only [go_sem] at *; first | assumption | omega) | decide, ?_⟩)
      refine ⟨fun _ => ?_, fun hx => by first | (exfalso; omega) | (exfalso; simp_all; done)⟩
      repeat (refine ⟨by first | with_reducible assumption | omega | (intros; first | assumption | omega) | (simp only [go_sem] at *; first | assumption | omega) | decide, ?_⟩)
      refine ⟨fun _ => ?_, fun hx => by first | (exfalso; omega) | (exfalso; simp_all; done)⟩
      repeat (refine ⟨by first | with_reducible assumption | omega | (intros; first | assumption | omega) | (simp only [go_sem] at *; first | assumption | omega) | decide, ?_⟩)
      refine ⟨fun _ => ?_, fun hx => by first | (exfalso; omega) | (exfalso; simp_all; done)⟩
      repeat (refine ⟨by first | with_reducible assumption | omega | (intros; first | assumption | omega) | (simp only [go_sem] at *; first | assumption | omega) | decide, ?_⟩)
      refine ⟨fun _ => ?_, fun hx => by first | (exfalso; omega) | (exfalso; simp_all; done)⟩
      repeat (refine ⟨by first | with_reducible assumption | omega | (intros; first | assumption | omega) | (simp only [go_sem] at *; first | assumption | omega) | decide, ?_⟩)
      obtain rfl := Option.some.inj h
      refine lU (vX [] rfl rfl ?_)
      simp only [ren, gN, oE, posOf, eX, go_sem]
      refine qD rfl rfl rfl rfl
    ·have h := eG hq h
     obtain ⟨e, he4, h⟩ := bind_some h
     rcases e with r_26 | p_27
     ·try dsimp only at h
      refine aT hF (cH (l := [(233, ⟨iE, [], (false, (3 : Int), .inl r_26)⟩)]) (.cons nH (by kernel_rfl) (.nil))) [0, 1, 2, 6, 7] [] ?_
      simp only [go_sem]
      repeat (refine ⟨by first | with_reducible assumption | omega | (intros; first | assumption | omega) | (simp only [go_sem] at *; first | assumption | omega) | decide, ?_⟩)
      first | (refine ⟨fun hx => by first | (exfalso; omega) | (exfalso; simp_all; done), fun _ => ?_⟩) | intro _
      repeat (refine ⟨by first | with_reducible assumption | omega | (intros; first | assumption | omega) | (simp only [go_sem] at *; first | assumption | omega) | decide, ?_⟩)
      first | (refine ⟨fun hx => by first | (exfalso; omega) | (exfalso; simp_all; done), fun _ => ?_⟩) | intro _
      repeat (refine ⟨by first | with_reducible assumption | omega | (intros; first | assumption | omega) | (simp only [go_sem] at *; first | assumption | omega) | decide, ?_⟩)
      first | (refine ⟨fun hx => by first | (exfalso; omega) | (exfalso; simp_all; done), fun _ => ?_⟩) | intro _
      repeat (refine ⟨by first | with_reducible assumption | omega | (intros; first | assumption | omega) | (simp only [go_sem] at *; first | assumption | omega) | decide, ?_⟩)
      first | (refine ⟨fun hx => by first | (exfalso; omega) | (exfalso; simp_all; done), fun _ => ?_⟩) | intro _
      repeat (refine ⟨by first | with_reducible assumption | omega | (intros; first | assumption | omega) | (simp only [go_sem] at *; first | assumption | omega) | decide, ?_⟩)
      refine bB (aX (()) h rfl ?_)
      ·(try simp only [jA, fL, true_or, and_self, go_sem]) <;> (repeat' apply And.intro) <;> first | rfl | (left; rfl) | (right; rfl) | (left; simp only [go_sem]; done) | (right; simp only [go_sem]; done) | (simp; done) | (simp only [*]; done) | omega
     ·try dsimp only at h
      refine aT hF (cH (l := [(233, ⟨iE, [], (false, (3 : Int), .inr p_27)⟩)]) (.cons nH (by kernel_rfl) (.nil))) [0, 1, 2, 6, 7] [] ?_
      simp only [go_sem]
      repeat (refine ⟨by first | with_reducible assumption | omega | (intros; first | assumption | omega) | (simp only [go_sem] at *; first | assumption | omega) | decide, ?_⟩)
      first | (refine ⟨fun hx => by first | (exfalso; omega) | (exfalso; simp_all; done), fun _ => ?_⟩) | intro _
      repeat (refine ⟨by first | with_reducible assumption | omega | (intros; first | assumption | omega) | (simp only [go_sem] at *; first | assumption | omega) | decide, ?_⟩)
      first | (refine ⟨fun hx => by first | (exfalso; omega) | (exfalso; simp_all; done), fun _ => ?_⟩) | intro _
      repeat (refine ⟨by first | with_reducible assumption | omega | (intros; first | assumption | omega) | (simp only [go_sem] at *; first | assumption | omega) | decide, ?_⟩)
      first | (refine ⟨fun hx => by first | (exfalso; omega) | (exfalso; simp_all; done), fun _ => ?_⟩) | intro _
      repeat (refine ⟨by first | with_reducible assumption | omega | (intros; first | assumption | omega) | (simp only [go_sem] at *; first | assumption | omega) | decide, ?_⟩)
      first | (refine ⟨fun hx => by first | (exfalso; omega) | (exfalso; simp_all; done), fun _ => ?_⟩) | intro _
      repeat (refine ⟨by first | with_reducible assumption | omega | (intros; first | assumption | omega) | (simp only [go_sem] at *; first | assumption | omega) | decide, ?_⟩)
      obtain rfl := Option.some.inj h
      refine lU (vX [] rfl rfl ?_)
      simp only [ren, gN, oE, posOf, eX, go_sem]
      refine qD rfl rfl rfl rfl
   ·rintro u h
    try dsimp only at h
    simp only [go_sem]
    unfold rT at h
    obtain ⟨g0, h⟩ := aH h
    try simp only [I64, I32] at g0
    obtain ⟨e, he2, h⟩ := bind_some h
    rcases e with r_22 | p_23
    ·try dsimp only at h
     refine aC (aT hF (cH (l := [(233, ⟨iE, [], ((decide ((e_2 + (bX m_1)) ≤ (1048576 : Int))), (3 : Int), .inl r_22)⟩)]) (.cons nH (by kernel_rfl) (.nil))) [0, 1, 2, 6, 7] [] ?_)
     simp only [go_sem]
     repeat (refine ⟨by first | with_reducible assumption | omega | (intros; first | assumption | omega) | (simp only [go_sem] at *; first | assumption | omega) | decide, ?_⟩)
     refine aD (aC (bC hF [6] ?_))
     simp only [go_sem]
     obtain ⟨g0, h⟩ := aH h
     try simp only [I64, I32] at g0
     repeat (refine ⟨by first | with_reducible assumption | omega | (intros; first | assumption | omega) | (simp only [go_sem] at *; first | assumption | omega) | decide, ?_⟩)
     obtain rfl := Option.some.inj h
     refine aD (dD (aCO hF [.cell 6 25] [] rfl rfl rfl rfl rfl rfl rfl rfl rfl ?_))
     (try simp only [bA, zU, zC, fL, nU, AV.isAgg, go_sem]) <;> first | trivial | rfl | (simp; done)
    ·try dsimp only at h
     refine aC (aT hF (cH (l := [(233, ⟨iE, [], ((decide ((e_2 + (bX m_1)) ≤ (1048576 : Int))), (3 : Int), .inr p_23)⟩)]) (.cons nH (by kernel_rfl) (.nil))) [0, 1, 2, 6, 7] [] ?_)
     simp only [go_sem]
     repeat (refine ⟨by first | with_reducible assumption | omega | (intros; first | assumption | omega) | (simp only [go_sem] at *; first | assumption | omega) | decide, ?_⟩)
     obtain rfl := Option.some.inj h
     refine lU (vX [] rfl rfl ?_)
     simp only [ren, gN, oE, posOf, eX, go_sem]
     refine qD rfl rfl rfl rfl
  ·try dsimp only at h
   refine aD (aC (aT hF (cH (l := [(233, ⟨iE, [], ((decide (((((dB m_1 (bX m_1)).length) : Nat) : Int) ≤ (64 : Int))), (2 : Int), .inr p_9)⟩)]) (.cons nH (by kernel_rfl) (.nil))) [0, 1, 2, 6, 7] [] ?_))
   simp only [go_sem]
   repeat (refine ⟨by first | with_reducible assumption | omega | (intros; first | assumption | omega) | (simp only [go_sem] at *; first | assumption | omega) | decide, ?_⟩)
   obtain rfl := Option.some.inj h
   refine lU (vX [] rfl rfl ?_)
   simp only [ren, gN, oE, posOf, eX, go_sem]
   refine qD rfl rfl rfl rfl
attribute [go_sem] wT
noncomputable def rC (a0_0 : Bool) (a1_1 : (List Nat)) (a2_2 : Int) : Option (qD0 ⊕ (Int × Unit)) :=
 ((vM a0_0 a1_1 a2_2)).bind (fun e => match e with | .inl r_8 => some (.inl r_8) | .inr p_9 => some (.inr p_9))
noncomputable def rU : mY where
 D := Bool × (List Nat) × Int × (qD0 ⊕ (Int × Unit))
 av := fun d => [.val (.rp .bool) d.1, .val (.rp (.sl (.u .u64))) d.2.1, .val (.rp (.i .i64)) d.2.2.1]
 hp := fun d => []
 m := 0
 pre := fun d => rC d.1 d.2.1 d.2.2.1 = some d.2.2.2
 out := fun d => match d.2.2.2 with | .inl r => .ret (.val (.pair .bool (.pair (.sl (.u .u64)) (.pair (.i .i64) .unit))) r) [] | .inr p => .pan ⟨251, (.pair (.i .i64) .unit), p⟩ []
noncomputable def aFs : List (FuncId × aJ) := []
theorem aFt : bL Tryz.prog GL aFs := .nil
set_option maxHeartbeats 4000000 in
theorem aD5 : GOK Tryz.prog GL 181 rU := by
 refine pN (bF aFt) Tryz.func181 rfl (by kernel_rfl) (fun _ => Nat.le_of_ble_eq_true rfl) fun c0 w0 d hw1 hw2 h hn => ?_
 have hF : iZ ⟨Tryz.prog, EM aFs, GM rU c0 d, w0, Tryz.f181.ntmps, []⟩ := ⟨bF aFt, mix⟩
 obtain ⟨(a0_0 : Bool), (a1_1 : (List Nat)), (a2_2 : Int), r⟩ := d
 replace h : rC a0_0 a1_1 a2_2 = some r := h
 have hw1 : AV.wfL [.val (.rp .bool) a0_0, .val (.rp (.sl (.u .u64))) a1_1, .val (.rp (.i .i64)) a2_2] := hw1
 simp only [AV.wfL, AV.wfV, Ty.wf, lT] at hw1
 show Tri _ _ _ [(0, .roa .bool a0_0), (1, .roa (.sl (.u .u64)) a1_1), (2, .roa (.i .i64) a2_2)] []
 unfold rC at h
 refine aC (bC hF [0, 1, 2, 3] ?_)
 simp only [go_sem]
 obtain ⟨e, he1, h⟩ := bind_some h
 rcases e with r_8 | p_9
 ·try dsimp only at h
  refine aD (aC (aT hF (cH (l := [(182, ⟨wT, [], (a0_0, a1_1, a2_2, .inl r_8)⟩)]) (.cons aHo (by kernel_rfl) (.nil))) [3] [] ?_))
  simp only [go_sem]
  repeat (refine ⟨by first | with_reducible assumption | omega | (intros; first | assumption | omega) | (simp only [go_sem] at *; first | assumption | omega) | decide, ?_⟩)
  obtain rfl := Option.some.inj h
  refine aD (dD (aCO hF [.cell 3 25] [] rfl rfl rfl rfl rfl rfl rfl rfl rfl ?_))
  (try simp only [bA, zU, zC, fL, nU, AV.isAgg, go_sem]) <;> first | trivial | rfl | (simp; done)
 ·try dsimp only at h
  refine aD (aC (aT hF (cH (l := [(182, ⟨wT, [], (a0_0, a1_1, a2_2, .inr p_9)⟩)]) (.cons aHo (by kernel_rfl) (.nil))) [3] [] ?_))
  simp only [go_sem]
  repeat (refine ⟨by first | with_reducible assumption | omega | (intros; first | assumption | omega) | (simp only [go_sem] at *; first | assumption | omega) | decide, ?_⟩)
  obtain rfl := Option.some.inj h
  refine lU (vX [] rfl rfl ?_)
  simp only [ren, gN, oE, posOf, eX, go_sem]
  refine qD rfl rfl rfl rfl
attribute [go_sem] rU
end Nu
end Go.Proofs
namespace Go.Proofs
open Go.Vc
set_option maxRecDepth 20000
namespace Nu
theorem aAp : bL Tryz.prog GL [] := .nil
def rV : mY where
 D := qD0 × Int
 av := fun _ => [.ptr 0 [], .ptr 1 []]
 hp := fun d => [.box 3 (.val (.pair .bool (.pair (.sl (.u .u64)) (.pair (.i .i64) .unit))) d.1), .box 1 (.val (.i .i64) d.2)]
 m := 2
 pre := fun _ => True
 out := fun d => .ret (.tup []) [.box 3 (.val (.pair .bool (.pair (.sl (.u .u64)) (.pair (.i .i64) .unit))) d.1), .box 1 (.val (.i .i64) d.2)]
def rW (x : (Int × Unit)) : mY where
 D := qD0 × Int
 av := fun _ => [.ptr 0 [], .ptr 1 []]
 hp := fun d => [.box 3 (.val (.pair .bool (.pair (.sl (.u .u64)) (.pair (.i .i64) .unit))) d.1), .box 1 (.val (.i .i64) d.2)]
 m := 2
 pre := fun _ => True
 out := fun d => .ret (.tup []) [.box 3 (.val (.pair .bool (.pair (.sl (.u .u64)) (.pair (.i .i64) .unit))) (false, ([] : List Nat), (0 : Int), ())), .box 1 (.val (.i .i64) x.1)]
theorem aJ4 : DOK Tryz.prog GL 232 none rV := by
 refine aNe (bF aAp) Tryz.func232 rfl (by kernel_rfl) (fun _ => Nat.le_of_ble_eq_true rfl) rfl fun c w d hw1 hw2 hp hn => ?_
 have hF : iZ ⟨Tryz.prog, EM [], GM rV c d, w, Tryz.f232.ntmps, []⟩ := ⟨bF aAp, mix⟩
 obtain ⟨d, e⟩ := d
 show pY _ _ _ [(5, .val .nili ()), (0, .ptr 0 []), (1, .ptr 1 [])] [.box 3 (.val (.pair .bool (.pair (.sl (.u .u64)) (.pair (.i .i64) .unit))) d), .box 1 (.val (.i .i64) e)] _
 simp only [go_sem]
 refine aC (aE hF [0, 1, 2, 9] ?_)
 simp only [go_sem]
 refine aD (bG rfl (fun hc => absurd hc (by decide)) (fun hc => ?_))
 refine bR ?_
 refine oN [0, 1] rfl rfl ?_
 simp only [ren, gN, oE, posOf, eX, go_sem]
 refine tX (qC hF [] rfl rfl rfl rfl rfl rfl ?_)
 simp only [bA, zU, zC, go_sem]
 try decide
theorem aJ5 (x : (Int × Unit)) : DOK Tryz.prog GL 232 (some ⟨251, (.pair (.i .i64) .unit), x⟩) (rW x) := by
 refine aNe (bF aAp) Tryz.func232 rfl (by kernel_rfl) (fun _ => Nat.le_of_ble_eq_true rfl) rfl fun c w d hw1 hw2 hp hn => ?_
 have hF : iZ ⟨Tryz.prog, EM [], GM (rW x) c d, w, Tryz.f232.ntmps, []⟩ := ⟨bF aAp, mix⟩
 obtain ⟨d, e⟩ := d
 show pY _ _ _ [(5, .val (.ifc 251 (.pair (.i .i64) .unit)) x), (0, .ptr 0 []), (1, .ptr 1 [])] [.box 3 (.val (.pair .bool (.pair (.sl (.u .u64)) (.pair (.i .i64) .unit))) d), .box 1 (.val (.i .i64) e)] _
 simp only [go_sem]
 refine aC (aE hF [0, 1, 2, 9] ?_)
 simp only [go_sem]
 refine aD (bG rfl (fun hc => ?_) (fun hc => absurd hc (by decide)))
 refine aG7 hF [] [] [.box 3 (.val (.pair .bool (.pair (.sl (.u .u64)) (.pair (.i .i64) .unit))) (false, ([] : List Nat), (0 : Int), ())), .box 1 (.val (.i .i64) x.1), .box 1 (.val (.pair (.i .i64) .unit) x)] (by decide) ?_ ?_
 ·simp only [go_sem]
  unfold anyS
  intro i hi
  have hi : i = 0 ∨ i = 1 := by revert hi; revert i; decide
  rcases hi with rfl | rfl
  ·simp only [go_sem]
   skip
   unfold anyS
   intro i hi
   have hi : i = 1 ∨ i = 3 := by revert hi; revert i; decide
   rcases hi with rfl | rfl
   ·simp only [go_sem]
    skip
    unfold anyS
    intro i hi
    have hi : i = 2 ∨ i = 3 := by revert hi; revert i; decide
    rcases hi with rfl | rfl
    ·simp only [go_sem]
     skip
     unfold anyS
     intro i hi
     have hi : i = 3 := by revert hi; revert i; decide
     subst hi
     simp only [go_sem]
     skip
     unfold anyS
     intro i hi
     have hi : i = 4 := by revert hi; revert i; decide
     subst hi
     simp only [go_sem]
     skip
     (simp only [anyS, go_sem]) <;> first | exact ⟨rfl, rfl⟩ | trivial
    ·simp only [go_sem]
     skip
     unfold anyS
     intro i hi
     have hi : i = 2 := by revert hi; revert i; decide
     subst hi
     simp only [go_sem]
     skip
     unfold anyS
     intro i hi
     have hi : i = 4 := by revert hi; revert i; decide
     subst hi
     simp only [go_sem]
     skip
     (simp only [anyS, go_sem]) <;> first | exact ⟨rfl, rfl⟩ | trivial
   ·simp only [go_sem]
    skip
    unfold anyS
    intro i hi
    have hi : i = 1 := by revert hi; revert i; decide
    subst hi
    simp only [go_sem]
    skip
    unfold anyS
    intro i hi
    have hi : i = 2 := by revert hi; revert i; decide
    subst hi
    simp only [go_sem]
    skip
    unfold anyS
    intro i hi
    have hi : i = 4 := by revert hi; revert i; decide
    subst hi
    simp only [go_sem]
    skip
    (simp only [anyS, go_sem]) <;> first | exact ⟨rfl, rfl⟩ | trivial
  ·simp only [go_sem]
   skip
   unfold anyS
   intro i hi
   have hi : i = 0 ∨ i = 2 := by revert hi; revert i; decide
   rcases hi with rfl | rfl
   ·simp only [go_sem]
    skip
    unfold anyS
    intro i hi
    have hi : i = 2 ∨ i = 3 := by revert hi; revert i; decide
    rcases hi with rfl | rfl
    ·simp only [go_sem]
     skip
     unfold anyS
     intro i hi
     have hi : i = 3 := by revert hi; revert i; decide
     subst hi
     simp only [go_sem]
     skip
     unfold anyS
     intro i hi
     have hi : i = 4 := by revert hi; revert i; decide
     subst hi
     simp only [go_sem]
     skip
     (simp only [anyS, go_sem]) <;> first | exact ⟨rfl, rfl⟩ | trivial
    ·simp only [go_sem]
     skip
     unfold anyS
     intro i hi
     have hi : i = 2 := by revert hi; revert i; decide
     subst hi
     simp only [go_sem]
     skip
     unfold anyS
     intro i hi
     have hi : i = 4 := by revert hi; revert i; decide
     subst hi
     simp only [go_sem]
     skip
     (simp only [anyS, go_sem]) <;> first | exact ⟨rfl, rfl⟩ | trivial
   ·simp only [go_sem]
    skip
    unfold anyS
    intro i hi
    have hi : i = 0 := by revert hi; revert i; decide
    subst hi
    simp only [go_sem]
    skip
    unfold anyS
    intro i hi
    have hi : i = 3 := by revert hi; revert i; decide
    subst hi
    simp only [go_sem]
    skip
    unfold anyS
    intro i hi
    have hi : i = 4 := by revert hi; revert i; decide
    subst hi
    simp only [go_sem]
    skip
    (simp only [anyS, go_sem]) <;> first | exact ⟨rfl, rfl⟩ | trivial
 refine oN [0, 1] rfl rfl ?_
 simp only [ren, gN, oE, posOf, eX, go_sem]
 refine tX (qC hF [] rfl rfl rfl rfl rfl rfl ?_)
 simp only [bA, zU, zC, go_sem]
 try decide
noncomputable def dG (c0 : Bool) (c1 : (List Nat)) (c2 : Int) : Option (qD0 × Int × Unit) :=
 (rC c0 c1 c2).bind fun q => some (match q with | .inl r => (r, 0, ()) | .inr p => ((false, ([] : List Nat), (0 : Int), ()), p.1, ()))
def sZ : Ty := .pair (.clo 181 (.pair (.rp .bool) (.pair (.rp (.sl (.u .u64))) (.pair (.rp (.i .i64)) .unit)))) .unit
noncomputable def jD : aJ := mSpec sZ (.tup (.pair (.pair .bool (.pair (.sl (.u .u64)) (.pair (.i .i64) .unit))) (.pair (.i .i64) .unit))) (fun x => dG x.1.1 x.1.2.1 x.1.2.2.1)
set_option maxHeartbeats 4000000 in
theorem aAL : FOK Tryz.prog GL 180 jD := by
 refine aJG (bF aAp) Tryz.func180 rfl (by kernel_rfl) (by decide) fun w0 S x r hw h => ?_
 have hF : iZ (fr Tryz.prog (EM []) S w0 Tryz.f180.ntmps) := ⟨bF aAp, mix⟩
 obtain ⟨⟨(c0 : Bool), (c1 : (List Nat)), (c2 : Int), u1⟩, u⟩ := x
 replace h : dG c0 c1 c2 = some r := h
 show Tri _ _ _ [(0, .val (.clo 181 (.pair (.rp .bool) (.pair (.rp (.sl (.u .u64))) (.pair (.rp (.i .i64)) .unit)))) (c0, c1, c2, u1))] []
 unfold dG at h
 obtain ⟨q, hq, h⟩ := bind_some h
 obtain rfl := Option.some.inj h
 refine aC (bC hF [0, 2, 3] ?_)
 simp only [go_sem]
 refine aD (aDY 2 [0, 1] rfl rfl (Nat.zero_le _) (by decide) fun roots hroots => ?_)
 have hF' : iZ { fr Tryz.prog (EM []) S w0 Tryz.f180.ntmps with M := ⟨nothing, S, 2, roots⟩, ds := [⟨.fn (.func 232) ([0, 1].map roots).toArray, #[]⟩] } := ⟨bF aAp, mix⟩
 rcases q with q | q
 ·refine aC (aT hF' (cH (l := [(181, ⟨rU, [], (c0, c1, c2, .inl q)⟩)]) (.cons aD5 (by kernel_rfl) .nil)) [2, 3] [] ?_)
  simp only [go_sem]
  refine ⟨hq, ?_⟩
  refine aD (dD ?_)
  refine aRz (fn := Tryz.f180) (k := 2) (l2 := [0, 1]) hF' rfl rfl (by decide) rfl (aFe (by kernel_rfl)) ⟨rV, [0, 1], (q, 0)⟩ aJ4 rfl [.cell 2 25, .cell 3 3] rfl ?_ ?_
  ·(simp only [rV, go_sem]) <;> first | decide | trivial
  ·(simp only [rV, bA, iH, go_sem]) <;> first | decide | trivial
 ·refine aC (aT hF' (cH (l := [(181, ⟨rU, [], (c0, c1, c2, .inr q)⟩)]) (.cons aD5 (by kernel_rfl) .nil)) [2, 3] [] ?_)
  simp only [go_sem]
  refine ⟨hq, ?_⟩
  refine lU ?_
  refine aRA (fn := Tryz.f180) (k := 2) (l2 := [0, 1]) hF' rfl rfl (by decide) rfl (aFe (by kernel_rfl)) ⟨rW q, [0, 1], ((false, ([] : List Nat), (0 : Int), ()), 0)⟩ (aJ5 q) rfl [.cell 2 25, .cell 3 3] rfl ?_ ?_
  ·(simp only [rW, go_sem]) <;> first | decide | trivial
  ·(simp only [rW, bA, iH, go_sem]) <;> first | decide | trivial
attribute [go_sem] jD sZ
noncomputable def cD (neg_0 : Bool) (m_1 : (List Nat)) (e_2 : Int) : Option (qD0 × (Int × Unit)) :=
 ck (((dG neg_0 m_1 e_2).isSome = true)) (some ((((dG neg_0 m_1 e_2).getD ((false, ([] : List Nat), (0 : Int), ()), (0 : Int), ())).1), ((((dG neg_0 m_1 e_2).getD ((false, ([] : List Nat), (0 : Int), ()), (0 : Int), ())).2).1), ()))
def aBP : Ty := .pair .bool (.pair (.sl (.u .u64)) (.pair (.i .i64) .unit))
attribute [go_sem] aBP
noncomputable def tA : aJ := mSpec aBP (.tup (.pair (.pair .bool (.pair (.sl (.u .u64)) (.pair (.i .i64) .unit))) (.pair (.i .i64) .unit))) (fun x => cD x.1 x.2.1 x.2.2.1)
noncomputable def aEJ : List (FuncId × aJ) := [(180, jD)]
theorem aJ6 : bL Tryz.prog GL aEJ := .cons aAL (by kernel_rfl) (.nil)
theorem aJ7 : gam aEJ 180 = some jD := rfl
attribute [go_sem] aJ7
set_option maxHeartbeats 4000000 in
theorem aHp : FOK Tryz.prog GL 117 tA := by
 refine pS (bF aJ6) Tryz.func117 rfl (by kernel_rfl) (by decide) fun w0 S x r hw h => ?_
 have hF : iZ (fr Tryz.prog (EM aEJ) S w0 Tryz.f117.ntmps) := ⟨bF aJ6, mix⟩
 obtain ⟨(neg_0 : Bool), (m_1 : (List Nat)), (e_2 : Int), u⟩ := x
 simp only [aBP, Ty.wf, lT] at hw
 simp only [cC, aBP]
 try dsimp only at h
 unfold cD at h
 refine aC (bC hF [3, 4, 5, 6] ?_)
 simp only [go_sem]
 refine aD (aC (zD 0 rfl ?_))
 simp only [go_sem]
 refine zD 1 rfl ?_
 simp only [go_sem]
 refine zD 2 rfl ?_
 simp only [go_sem]
 refine bC hF [6, 7] ?_
 simp only [go_sem]
 obtain ⟨g0, h⟩ := aH h
 repeat (refine ⟨by first | with_reducible assumption | omega | (intros; first | assumption | omega) | (simp only [go_sem] at *; first | assumption | omega) | decide, ?_⟩)
 obtain rfl := Option.some.inj h
 refine aD (dD (fD hF [.cell 6 25, .tmp 7] rfl rfl rfl ?_))
 (try simp only [iH, bA, go_sem]) <;> first | rfl | (simp; done)
attribute [go_sem] tA
end Nu
end Go.Proofs
namespace Go.Proofs
open Go.Vc
set_option maxRecDepth 20000
namespace Nu
abbrev xZ (a : List Nat) (n : Int) : Prop := a.length ≤ n ∧ n ≤ 1099511627777
def dM (a : List Nat) (n : Int) : List Nat := a ++ List.replicate (n.toNat - a.length) 0
noncomputable def uF (a_0 : (List Nat)) (n_1 : Int) : Option (List Nat) :=
 ck ((aQg a_0)) (ck (I64 (n_1 - (a_0.length : Int))) (ck (0 ≤ (n_1 - (a_0.length : Int))) (ck ((((id a_0).length) + ((n_1 - (a_0.length : Int)).toNat)) * 8 ≤ 140737488355328) (some ((id a_0) ++ (List.replicate ((n_1 - (a_0.length : Int)).toNat) (0 : Nat)))))))
theorem aJ8 (a : List Nat) (wa : (Ty.sl (.u .u64)).wf a) (n : Int) (wn : (Ty.i .i64).wf n) (hp : xZ a n) : uF a n = some (dM a n) := by
 obtain ⟨h1, h2⟩ := hp
 have h64 : aQg a := by show a.length * 8 ≤ _; omega
 unfold uF dM
 simp only [id]
 refine aB h64 (aB (by constructor <;> omega) (aB (by omega) (aB (by omega) ?_)))
 rw [show (n - (a.length : Int)).toNat = n.toNat - a.length from by omega]
noncomputable def uG (v_1 : (List Nat)) (un_0 : Nat) (uo_0 : Nat) (x_13 : Nat) (carry_31 : Nat) (u_32 : (List Nat)) : Option (((Nat × (List Nat)))) :=
 ck (0 ≤ (v_1.length : Int) ∧ (v_1.length : Int) < ((un_0 : Nat) : Int)) (ck (uo_0 + (v_1.length) < (u_32.length)) (ck (0 ≤ (v_1.length : Int) ∧ (v_1.length : Int) < ((un_0 : Nat) : Int)) (ck (uo_0 + (v_1.length) < (u_32.length)) (some ((lR .u64 x_13 (1 : Nat)), (u_32.set (uo_0 + (v_1.length)) (((u_32.getD (uo_0 + (v_1.length)) (0 : Nat)) + carry_31) % 18446744073709551616)))))))
noncomputable def kD (v_1 : (List Nat)) (un_0 : Nat) (uo_0 : Nat) (carry_33 : Nat) (x159_34 : Int) (u_35 : (List Nat)) : Option ((Nat × Int × (List Nat)) ⊕ ((Nat × (List Nat)))) :=
 if x159_34 < (v_1.length : Int) then ck (0 ≤ x159_34 ∧ x159_34 < (v_1.length : Int)) (ck (0 ≤ x159_34 ∧ x159_34 < ((un_0 : Nat) : Int)) (ck (uo_0 + (x159_34.toNat) < (u_35.length)) (ck ((zF (u_35.getD (uo_0 + (x159_34.toNat)) (0 : Nat)) (v_1.getD (x159_34.toNat) (0 : Nat)) carry_33)) (ck (0 ≤ x159_34 ∧ x159_34 < ((un_0 : Nat) : Int)) (ck (uo_0 + (x159_34.toNat) < (u_35.length)) (ck (I64 (x159_34 + (1 : Int))) (some (.inl ((((gO (u_35.getD (uo_0 + (x159_34.toNat)) (0 : Nat)) (v_1.getD (x159_34.toNat) (0 : Nat)) carry_33).2).1), (x159_34 + (1 : Int)), (u_35.set (uo_0 + (x159_34.toNat)) ((gO (u_35.getD (uo_0 + (x159_34.toNat)) (0 : Nat)) (v_1.getD (x159_34.toNat) (0 : Nat)) carry_33).1))))))))))) else some (.inr (carry_33, u_35))
noncomputable def uH (v_1 : (List Nat)) (un_0 : Nat) (uo_0 : Nat) (x_13 : Nat) (carry_22 : Nat) (borrow_23 : Nat) (u_24 : (List Nat)) : Option (((Nat × (List Nat)))) :=
 ck (0 ≤ (v_1.length : Int) ∧ (v_1.length : Int) < ((un_0 : Nat) : Int)) (ck (uo_0 + (v_1.length) < (u_24.length)) (ck ((zF (u_24.getD (uo_0 + (v_1.length)) (0 : Nat)) carry_22 borrow_23)) (ck (0 ≤ (v_1.length : Int) ∧ (v_1.length : Int) < ((un_0 : Nat) : Int)) (ck (uo_0 + (v_1.length) < (u_24.length)) (if (((zE (u_24.getD (uo_0 + (v_1.length)) (0 : Nat)) carry_22 borrow_23).2).1) = (0 : Nat) then some (x_13, (u_24.set (uo_0 + (v_1.length)) ((zE (u_24.getD (uo_0 + (v_1.length)) (0 : Nat)) carry_22 borrow_23).1))) else (eQ (fun d : Nat × Int × (List Nat) => kD v_1 un_0 uo_0 d.1 d.2.1 d.2.2) ((0 : Nat), (0 : Int), (u_24.set (uo_0 + (v_1.length)) ((zE (u_24.getD (uo_0 + (v_1.length)) (0 : Nat)) carry_22 borrow_23).1)))).bind (fun e => uG v_1 un_0 uo_0 x_13 e.1 e.2))))))
noncomputable def kE (v_1 : (List Nat)) (x_13 : Nat) (un_0 : Nat) (uo_0 : Nat) (carry_41 : Nat) (borrow_42 : Nat) (x107_43 : Int) (u_44 : (List Nat)) : Option ((Nat × Nat × Int × (List Nat)) ⊕ ((Nat × Nat × (List Nat)))) :=
 if x107_43 < (v_1.length : Int) then ck (0 ≤ x107_43 ∧ x107_43 < (v_1.length : Int)) (ck ((zF (((bJ x_13 (v_1.getD (x107_43.toNat) (0 : Nat))).2).1) carry_41 (0 : Nat))) (ck (0 ≤ x107_43 ∧ x107_43 < ((un_0 : Nat) : Int)) (ck (uo_0 + (x107_43.toNat) < (u_44.length)) (ck ((zF (u_44.getD (uo_0 + (x107_43.toNat)) (0 : Nat)) ((gO (((bJ x_13 (v_1.getD (x107_43.toNat) (0 : Nat))).2).1) carry_41 (0 : Nat)).1) borrow_42)) (ck (0 ≤ x107_43 ∧ x107_43 < ((un_0 : Nat) : Int)) (ck (uo_0 + (x107_43.toNat) < (u_44.length)) (ck (I64 (x107_43 + (1 : Int))) (some (.inl (((((bJ x_13 (v_1.getD (x107_43.toNat) (0 : Nat))).1) + (((gO (((bJ x_13 (v_1.getD (x107_43.toNat) (0 : Nat))).2).1) carry_41 (0 : Nat)).2).1)) % 18446744073709551616), (((zE (u_44.getD (uo_0 + (x107_43.toNat)) (0 : Nat)) ((gO (((bJ x_13 (v_1.getD (x107_43.toNat) (0 : Nat))).2).1) carry_41 (0 : Nat)).1) borrow_42).2).1), (x107_43 + (1 : Int)), (u_44.set (uo_0 + (x107_43.toNat)) ((zE (u_44.getD (uo_0 + (x107_43.toNat)) (0 : Nat)) ((gO (((bJ x_13 (v_1.getD (x107_43.toNat) (0 : Nat))).2).1) carry_41 (0 : Nat)).1) borrow_42).1)))))))))))) else some (.inr (carry_41, borrow_42, u_44))
noncomputable def qO (v_1 : (List Nat)) (un_0 : Nat) (uo_0 : Nat) (o0_2 : (List Nat)) (x_13 : Nat) : Option (((Nat × (List Nat)))) :=
 (eQ (fun d : Nat × Nat × Int × (List Nat) => kE v_1 x_13 un_0 uo_0 d.1 d.2.1 d.2.2.1 d.2.2.2) ((0 : Nat), (0 : Nat), (0 : Int), o0_2)).bind (fun e => uH v_1 un_0 uo_0 x_13 e.1 e.2.1 e.2.2)
noncomputable def mC (v_1 : (List Nat)) (un_0 : Nat) (uo_0 : Nat) (o0_2 : (List Nat)) (x_52 : Nat) (rest_53 : Nat) (over_54 : Nat) : Option ((Nat × Nat × Nat) ⊕ ((Nat))) :=
 if over_54 = (0 : Nat) then ck (I64 ((v_1.length : Int) - (2 : Int))) (ck (0 ≤ ((v_1.length : Int) - (2 : Int)) ∧ ((v_1.length : Int) - (2 : Int)) < (v_1.length : Int)) (ck ((¬ (((bJ x_52 (v_1.getD (((v_1.length : Int) - (2 : Int)).toNat) (0 : Nat))).1) < rest_53) → (((bJ x_52 (v_1.getD (((v_1.length : Int) - (2 : Int)).toNat) (0 : Nat))).1) = rest_53) → (I64 ((v_1.length : Int) - (2 : Int))))) (ck ((¬ (((bJ x_52 (v_1.getD (((v_1.length : Int) - (2 : Int)).toNat) (0 : Nat))).1) < rest_53) → (((bJ x_52 (v_1.getD (((v_1.length : Int) - (2 : Int)).toNat) (0 : Nat))).1) = rest_53) → (0 ≤ ((v_1.length : Int) - (2 : Int)) ∧ ((v_1.length : Int) - (2 : Int)) < ((un_0 : Nat) : Int) ∧ uo_0 + (((v_1.length : Int) - (2 : Int)).toNat) < (o0_2.length)))) (if (((bJ x_52 (v_1.getD (((v_1.length : Int) - (2 : Int)).toNat) (0 : Nat))).1) < rest_53) ∨ ((((bJ x_52 (v_1.getD (((v_1.length : Int) - (2 : Int)).toNat) (0 : Nat))).1) = rest_53) ∧ ((((bJ x_52 (v_1.getD (((v_1.length : Int) - (2 : Int)).toNat) (0 : Nat))).2).1) ≤ (o0_2.getD (uo_0 + (((v_1.length : Int) - (2 : Int)).toNat)) (0 : Nat)))) then some (.inr x_52) else ck (I64 ((v_1.length : Int) - (1 : Int))) (ck (0 ≤ ((v_1.length : Int) - (1 : Int)) ∧ ((v_1.length : Int) - (1 : Int)) < (v_1.length : Int)) (ck ((zF rest_53 (v_1.getD (((v_1.length : Int) - (1 : Int)).toNat) (0 : Nat)) (0 : Nat))) (some (.inl ((lR .u64 x_52 (1 : Nat)), ((gO rest_53 (v_1.getD (((v_1.length : Int) - (1 : Int)).toNat) (0 : Nat)) (0 : Nat)).1), (((gO rest_53 (v_1.getD (((v_1.length : Int) - (1 : Int)).toNat) (0 : Nat)) (0 : Nat)).2).1)))))))))) else some (.inr x_52)
noncomputable def oO (v_1 : (List Nat)) (un_0 : Nat) (uo_0 : Nat) (o0_2 : (List Nat)) (x_4 : Nat) (rest_5 : Nat) (over_6 : Nat) : Option (((Nat × (List Nat)))) :=
 (eQ (fun d : Nat × Nat × Nat => mC v_1 un_0 uo_0 o0_2 d.1 d.2.1 d.2.2) (x_4, rest_5, over_6)).bind (fun e => qO v_1 un_0 uo_0 o0_2 e)
noncomputable def tB (uo_0 : Nat) (un_0 : Nat) (v_1 : (List Nat)) (o0_2 : (List Nat)) : Option ((Nat × (List Nat))) :=
 ck (0 ≤ (v_1.length : Int) ∧ (v_1.length : Int) < ((un_0 : Nat) : Int)) (ck (uo_0 + (v_1.length) < (o0_2.length)) (ck (I64 ((v_1.length : Int) - (1 : Int))) (ck (0 ≤ ((v_1.length : Int) - (1 : Int)) ∧ ((v_1.length : Int) - (1 : Int)) < (v_1.length : Int)) (if (o0_2.getD (uo_0 + (v_1.length)) (0 : Nat)) < (v_1.getD (((v_1.length : Int) - (1 : Int)).toNat) (0 : Nat)) then ck (0 ≤ (v_1.length : Int) ∧ (v_1.length : Int) < ((un_0 : Nat) : Int)) (ck (uo_0 + (v_1.length) < (o0_2.length)) (ck (I64 ((v_1.length : Int) - (1 : Int))) (ck (0 ≤ ((v_1.length : Int) - (1 : Int)) ∧ ((v_1.length : Int) - (1 : Int)) < ((un_0 : Nat) : Int)) (ck (uo_0 + (((v_1.length : Int) - (1 : Int)).toNat) < (o0_2.length)) (ck (I64 ((v_1.length : Int) - (1 : Int))) (ck (0 ≤ ((v_1.length : Int) - (1 : Int)) ∧ ((v_1.length : Int) - (1 : Int)) < (v_1.length : Int)) (ck ((xV (o0_2.getD (uo_0 + (v_1.length)) (0 : Nat)) (o0_2.getD (uo_0 + (((v_1.length : Int) - (1 : Int)).toNat)) (0 : Nat)) (v_1.getD (((v_1.length : Int) - (1 : Int)).toNat) (0 : Nat)))) (oO v_1 un_0 uo_0 o0_2 ((kX (o0_2.getD (uo_0 + (v_1.length)) (0 : Nat)) (o0_2.getD (uo_0 + (((v_1.length : Int) - (1 : Int)).toNat)) (0 : Nat)) (v_1.getD (((v_1.length : Int) - (1 : Int)).toNat) (0 : Nat))).1) (((kX (o0_2.getD (uo_0 + (v_1.length)) (0 : Nat)) (o0_2.getD (uo_0 + (((v_1.length : Int) - (1 : Int)).toNat)) (0 : Nat)) (v_1.getD (((v_1.length : Int) - (1 : Int)).toNat) (0 : Nat))).2).1) (0 : Nat))))))))) else ck (I64 ((v_1.length : Int) - (1 : Int))) (ck (0 ≤ ((v_1.length : Int) - (1 : Int)) ∧ ((v_1.length : Int) - (1 : Int)) < ((un_0 : Nat) : Int)) (ck (uo_0 + (((v_1.length : Int) - (1 : Int)).toNat) < (o0_2.length)) (ck (I64 ((v_1.length : Int) - (1 : Int))) (ck (0 ≤ ((v_1.length : Int) - (1 : Int)) ∧ ((v_1.length : Int) - (1 : Int)) < (v_1.length : Int)) (ck ((zF (o0_2.getD (uo_0 + (((v_1.length : Int) - (1 : Int)).toNat)) (0 : Nat)) (v_1.getD (((v_1.length : Int) - (1 : Int)).toNat) (0 : Nat)) (0 : Nat))) (oO v_1 un_0 uo_0 o0_2 (18446744073709551615 : Nat) ((gO (o0_2.getD (uo_0 + (((v_1.length : Int) - (1 : Int)).toNat)) (0 : Nat)) (v_1.getD (((v_1.length : Int) - (1 : Int)).toNat) (0 : Nat)) (0 : Nat)).1) (((gO (o0_2.getD (uo_0 + (((v_1.length : Int) - (1 : Int)).toNat)) (0 : Nat)) (v_1.getD (((v_1.length : Int) - (1 : Int)).toNat) (0 : Nat)) (0 : Nat)).2).1)))))))))))
end Nu
end Go.Proofs
