import Derived.Test.YtkihplehmkbfaaaGreatDoorZL5
import Derived.Test.YtkihplehmkbfaaaGreatDoorProg
import Derived.KernelRfl
import Derived.Laws.Externs
import Derived.Lib.TrailingZeros
set_option linter.unusedVariables false
set_option linter.unusedSimpArgs false
namespace Go.Proofs
open Go.Vc
set_option maxRecDepth 20000
namespace Nu
abbrev qD0 := Bool × List Nat × Int × Unit
abbrev qI0 := qD0 × qD0 × Unit
abbrev qT0 := List qD0 × List qI0 × Unit
abbrev qR0 := Int × Int × Int × qD0 × qD0 × List (List qI0) × List (List qT0) × Unit
theorem aS4 : ∃ l : List Nat, l = [0, 1, 56, 2, 57, 49, 28, 3, 61, 58, 42, 50, 38, 29, 17, 4, 62, 47, 59, 36, 45, 43, 51, 22, 53, 39, 33, 30, 24, 18, 12, 5, 63, 55, 48, 27, 60, 41, 37, 16, 46, 35, 44, 21, 52, 32, 23, 11, 54, 26, 40, 15, 34, 20, 31, 10, 25, 14, 19, 9, 13, 8, 7, 6] := ⟨_, rfl⟩
noncomputable def aRu : List Nat := Classical.choose aS4
theorem aS5 : aRu = [0, 1, 56, 2, 57, 49, 28, 3, 61, 58, 42, 50, 38, 29, 17, 4, 62, 47, 59, 36, 45, 43, 51, 22, 53, 39, 33, 30, 24, 18, 12, 5, 63, 55, 48, 27, 60, 41, 37, 16, 46, 35, 44, 21, 52, 32, 23, 11, 54, 26, 40, 15, 34, 20, 31, 10, 25, 14, 19, 9, 13, 8, 7, 6] := Classical.choose_spec aS4
theorem aVH : ∃ l : List Nat, l = [1, 10, 100, 1000, 10000, 100000, 1000000, 10000000, 100000000, 1000000000, 10000000000, 100000000000, 1000000000000, 10000000000000, 100000000000000, 1000000000000000, 10000000000000000, 100000000000000000, 1000000000000000000, 10000000000000000000] := ⟨_, rfl⟩
noncomputable def p10 : List Nat := Classical.choose aVH
theorem aVI : p10 = [1, 10, 100, 1000, 10000, 100000, 1000000, 10000000, 100000000, 1000000000, 10000000000, 100000000000, 1000000000000, 10000000000000, 100000000000000, 1000000000000000, 10000000000000000, 100000000000000000, 1000000000000000000, 10000000000000000000] := Classical.choose_spec aVH
noncomputable def GL : Nat → AV
 | 0 => .roa (.arr 64 (.u .u8)) aRu
 | 1 => .roa (.arr 20 (.u .u64)) p10
 | _ => .junk
theorem GL0 : GL 0 = .roa (.arr 64 (.u .u8)) aRu := rfl
theorem GL3 : GL 1 = .roa (.arr 20 (.u .u64)) p10 := rfl
attribute [go_sem] GL0 GL3 mSpec
def tab : List (TypeId × Ty) := [(258, .clo 239 .unit), (2, .i .i64), (3, .i .i64), (4, .bool), (5, .u .u8), (9, .str), (21, .i .i32), (22, .sl (.pair (.i .i64) (.pair (.i .i64) (.pair (.i .i64) (.pair (.pair .bool (.pair (.sl (.u .u64)) (.pair (.i .i64) .unit))) (.pair (.pair .bool (.pair (.sl (.u .u64)) (.pair (.i .i64) .unit))) (.pair (.sl (.sl (.pair (.pair .bool (.pair (.sl (.u .u64)) (.pair (.i .i64) .unit))) (.pair (.pair .bool (.pair (.sl (.u .u64)) (.pair (.i .i64) .unit))) .unit)))) (.pair (.sl (.sl (.pair (.sl (.pair .bool (.pair (.sl (.u .u64)) (.pair (.i .i64) .unit)))) (.pair (.sl (.pair (.pair .bool (.pair (.sl (.u .u64)) (.pair (.i .i64) .unit))) (.pair (.pair .bool (.pair (.sl (.u .u64)) (.pair (.i .i64) .unit))) .unit))) .unit)))) .unit)))))))), (23, .sl (.u .u64)), (25, .pair .bool (.pair (.sl (.u .u64)) (.pair (.i .i64) .unit))), (27, .pair (.pair .bool (.pair (.sl (.u .u64)) (.pair (.i .i64) .unit))) (.pair (.pair .bool (.pair (.sl (.u .u64)) (.pair (.i .i64) .unit))) .unit)), (30, .sl (.sl (.pair (.pair .bool (.pair (.sl (.u .u64)) (.pair (.i .i64) .unit))) (.pair (.pair .bool (.pair (.sl (.u .u64)) (.pair (.i .i64) .unit))) .unit)))), (31, .sl (.sl (.pair (.sl (.pair .bool (.pair (.sl (.u .u64)) (.pair (.i .i64) .unit)))) (.pair (.sl (.pair (.pair .bool (.pair (.sl (.u .u64)) (.pair (.i .i64) .unit))) (.pair (.pair .bool (.pair (.sl (.u .u64)) (.pair (.i .i64) .unit))) .unit))) .unit)))), (33, .pair (.i .i64) (.pair (.i .i64) (.pair (.i .i64) (.pair (.pair .bool (.pair (.sl (.u .u64)) (.pair (.i .i64) .unit))) (.pair (.pair .bool (.pair (.sl (.u .u64)) (.pair (.i .i64) .unit))) (.pair (.sl (.sl (.pair (.pair .bool (.pair (.sl (.u .u64)) (.pair (.i .i64) .unit))) (.pair (.pair .bool (.pair (.sl (.u .u64)) (.pair (.i .i64) .unit))) .unit)))) (.pair (.sl (.sl (.pair (.sl (.pair .bool (.pair (.sl (.u .u64)) (.pair (.i .i64) .unit)))) (.pair (.sl (.pair (.pair .bool (.pair (.sl (.u .u64)) (.pair (.i .i64) .unit))) (.pair (.pair .bool (.pair (.sl (.u .u64)) (.pair (.i .i64) .unit))) .unit))) .unit)))) .unit))))))), (39, .u .u64), (45, .sl .expr), (47, .expr), (48, .sl .str), (51, .sl (.pair .str (.pair (.sl (.pair .str (.pair (.pair .str (.pair .str .unit)) (.pair .expr .unit)))) (.pair (.sl (.pair .str (.pair (.pair .str (.pair .str .unit)) .unit))) (.pair (.sl .str) (.pair (.sl (.pair .str (.pair .expr .unit))) .unit)))))), (52, .sl (.pair .str (.pair .str (.pair .str (.pair .str .unit))))), (54, .pair (.i .i64) (.pair (.i .i64) (.pair (.i .i64) (.pair (.i .i64) (.pair .str (.pair .str (.pair .str (.pair .str (.pair (.sl (.pair .str (.pair (.sl (.pair .str (.pair (.pair .str (.pair .str .unit)) (.pair .expr .unit)))) (.pair (.sl (.pair .str (.pair (.pair .str (.pair .str .unit)) .unit))) (.pair (.sl .str) (.pair (.sl (.pair .str (.pair .expr .unit))) .unit)))))) (.pair (.sl (.pair .str (.pair .str (.pair .str (.pair .str .unit))))) .unit)))))))))), (56, .sl (.pair .str (.pair (.pair .str (.pair .str .unit)) (.pair .expr .unit)))), (57, .sl (.pair .str (.pair (.pair .str (.pair .str .unit)) .unit))), (58, .sl (.pair .str (.pair .expr .unit))), (60, .pair .str (.pair (.sl (.pair .str (.pair (.pair .str (.pair .str .unit)) (.pair .expr .unit)))) (.pair (.sl (.pair .str (.pair (.pair .str (.pair .str .unit)) .unit))) (.pair (.sl .str) (.pair (.sl (.pair .str (.pair .expr .unit))) .unit))))), (62, .pair .str (.pair .str .unit)), (64, .pair .str (.pair (.pair .str (.pair .str .unit)) (.pair .expr .unit))), (68, .pair .str (.pair .str (.pair .str (.pair .str .unit)))), (71, .pair .str (.pair (.pair .str (.pair .str .unit)) .unit)), (73, .pair .str (.pair .expr .unit)), (81, .sl (.i .i64)), (83, .u .u64), (85, .sl (.pair (.pair .bool (.pair (.sl (.u .u64)) (.pair (.i .i64) .unit))) (.pair (.pair .bool (.pair (.sl (.u .u64)) (.pair (.i .i64) .unit))) .unit))), (86, .sl (.pair (.sl (.pair .bool (.pair (.sl (.u .u64)) (.pair (.i .i64) .unit)))) (.pair (.sl (.pair (.pair .bool (.pair (.sl (.u .u64)) (.pair (.i .i64) .unit))) (.pair (.pair .bool (.pair (.sl (.u .u64)) (.pair (.i .i64) .unit))) .unit))) .unit))), (88, .sl (.pair .bool (.pair (.sl (.u .u64)) (.pair (.i .i64) .unit)))), (90, .pair (.sl (.pair .bool (.pair (.sl (.u .u64)) (.pair (.i .i64) .unit)))) (.pair (.sl (.pair (.pair .bool (.pair (.sl (.u .u64)) (.pair (.i .i64) .unit))) (.pair (.pair .bool (.pair (.sl (.u .u64)) (.pair (.i .i64) .unit))) .unit))) .unit)), (91, .nilf), (98, .nilp), (99, .sl (.u .u8)), (101, .pair .nilp (.pair (.sl (.u .u8)) .unit)), (103, .nili), (140, .sl (.u .u32)), (146, .u .u32), (174, .arr 256 (.bool)), (202, .pair .bool (.pair (.sl (.u .u32)) (.pair (.i .i64) .unit))), (221, .nilf), (226, .sl (.sl .str)), (238, .arr 24 (.u .u8)), (242, .arr 64 (.u .u8)), (251, .pair (.i .i64) .unit), (254, .pair (.i .i64) .unit), (264, .arr 20 (.u .u64)), (265, .arr 65 (.u .u8)), (268, .arr 256 (.u .u8)), (270, .pair (.u .u8) (.pair (.u .u8) .unit)), (271, .arr 16 (.pair (.u .u8) (.pair (.u .u8) .unit))), (278, .i .i64), (284, .arr 32 (.u .u8)), (294, .pair .str .unit)]
def elT : TypeId → TypeId
 | 22 => 33
 | 23 => 83
 | 30 => 85
 | 31 => 86
 | 45 => 47
 | 48 => 9
 | 51 => 60
 | 52 => 68
 | 56 => 64
 | 57 => 71
 | 58 => 73
 | 81 => 3
 | 85 => 27
 | 86 => 90
 | 88 => 25
 | 99 => 5
 | 140 => 146
 | 226 => 48
 | _ => 0
def mpT : TypeId → Option (TypeId × TypeId)
 | 96 => some (3, 9)
 | 171 => some (9, 4)
 | _ => none
theorem aS6 : gM Tryz.prog (aD7 tab) := aUx (by kernel_rfl)
theorem aZW : ∀ t ct, aD7 tab t = some (.sl ct) → Tryz.prog.underlying t = some (.slice (elT t)) := aW7 (by kernel_rfl)
theorem aZX : ∀ t k e, mpT t = some (k, e) → Tryz.prog.underlying t = some (.map k e) := by
 intro t k e h
 unfold mpT at h
 split at h
 ·cases h; rfl
 ·cases h; rfl
 ·cases h
def TM : Tab := aD7 tab
noncomputable def EM (l : List (FuncId × aI)) : Env := ⟨TM, GL, fun f _ => gam l f, elT, mpT⟩
theorem aZY (l : List (FuncId × aI)) (t : TypeId) : (EM l).T t = TM t := rfl
theorem aZZ (l : List (FuncId × aI)) (t : Nat) : (EM l).G t = GL t := rfl
theorem aZ0 (l : List (FuncId × aI)) (f : FuncId) (vs : List AV) : (EM l).Γ f vs = gam l f := rfl
theorem aZA (l : List (FuncId × aI)) (t : TypeId) : (EM l).el t = elT t := rfl
theorem aZB (l : List (FuncId × aI)) (t : TypeId) : (EM l).mp t = mpT t := rfl
theorem bE {l : List (FuncId × aI)} (h : bF Tryz.prog GL l) : gN Tryz.prog (EM l) := aU0 aS6 aZW aZX h
theorem mix : Tryz.prog.follows .mixedOrders = true := by kernel_rfl
theorem T2 : TM 2 = some (.i .i64) := rfl
theorem T3 : TM 3 = some (.i .i64) := rfl
theorem T4 : TM 4 = some (.bool) := rfl
theorem T5 : TM 5 = some (.u .u8) := rfl
theorem T9 : TM 9 = some (.str) := rfl
theorem T21 : TM 21 = some (.i .i32) := rfl
theorem T22 : TM 22 = some (.sl (.pair (.i .i64) (.pair (.i .i64) (.pair (.i .i64) (.pair (.pair .bool (.pair (.sl (.u .u64)) (.pair (.i .i64) .unit))) (.pair (.pair .bool (.pair (.sl (.u .u64)) (.pair (.i .i64) .unit))) (.pair (.sl (.sl (.pair (.pair .bool (.pair (.sl (.u .u64)) (.pair (.i .i64) .unit))) (.pair (.pair .bool (.pair (.sl (.u .u64)) (.pair (.i .i64) .unit))) .unit)))) (.pair (.sl (.sl (.pair (.sl (.pair .bool (.pair (.sl (.u .u64)) (.pair (.i .i64) .unit)))) (.pair (.sl (.pair (.pair .bool (.pair (.sl (.u .u64)) (.pair (.i .i64) .unit))) (.pair (.pair .bool (.pair (.sl (.u .u64)) (.pair (.i .i64) .unit))) .unit))) .unit)))) .unit)))))))) := rfl
theorem T23 : TM 23 = some (.sl (.u .u64)) := rfl
theorem T25 : TM 25 = some (.pair .bool (.pair (.sl (.u .u64)) (.pair (.i .i64) .unit))) := rfl
theorem T27 : TM 27 = some (.pair (.pair .bool (.pair (.sl (.u .u64)) (.pair (.i .i64) .unit))) (.pair (.pair .bool (.pair (.sl (.u .u64)) (.pair (.i .i64) .unit))) .unit)) := rfl
theorem T30 : TM 30 = some (.sl (.sl (.pair (.pair .bool (.pair (.sl (.u .u64)) (.pair (.i .i64) .unit))) (.pair (.pair .bool (.pair (.sl (.u .u64)) (.pair (.i .i64) .unit))) .unit)))) := rfl
theorem T31 : TM 31 = some (.sl (.sl (.pair (.sl (.pair .bool (.pair (.sl (.u .u64)) (.pair (.i .i64) .unit)))) (.pair (.sl (.pair (.pair .bool (.pair (.sl (.u .u64)) (.pair (.i .i64) .unit))) (.pair (.pair .bool (.pair (.sl (.u .u64)) (.pair (.i .i64) .unit))) .unit))) .unit)))) := rfl
theorem T33 : TM 33 = some (.pair (.i .i64) (.pair (.i .i64) (.pair (.i .i64) (.pair (.pair .bool (.pair (.sl (.u .u64)) (.pair (.i .i64) .unit))) (.pair (.pair .bool (.pair (.sl (.u .u64)) (.pair (.i .i64) .unit))) (.pair (.sl (.sl (.pair (.pair .bool (.pair (.sl (.u .u64)) (.pair (.i .i64) .unit))) (.pair (.pair .bool (.pair (.sl (.u .u64)) (.pair (.i .i64) .unit))) .unit)))) (.pair (.sl (.sl (.pair (.sl (.pair .bool (.pair (.sl (.u .u64)) (.pair (.i .i64) .unit)))) (.pair (.sl (.pair (.pair .bool (.pair (.sl (.u .u64)) (.pair (.i .i64) .unit))) (.pair (.pair .bool (.pair (.sl (.u .u64)) (.pair (.i .i64) .unit))) .unit))) .unit)))) .unit))))))) := rfl
theorem T39 : TM 39 = some (.u .u64) := rfl
theorem T45 : TM 45 = some (.sl .expr) := rfl
theorem T47 : TM 47 = some (.expr) := rfl
theorem T48 : TM 48 = some (.sl .str) := rfl
theorem T51 : TM 51 = some (.sl (.pair .str (.pair (.sl (.pair .str (.pair (.pair .str (.pair .str .unit)) (.pair .expr .unit)))) (.pair (.sl (.pair .str (.pair (.pair .str (.pair .str .unit)) .unit))) (.pair (.sl .str) (.pair (.sl (.pair .str (.pair .expr .unit))) .unit)))))) := rfl
theorem T52 : TM 52 = some (.sl (.pair .str (.pair .str (.pair .str (.pair .str .unit))))) := rfl
theorem T54 : TM 54 = some (.pair (.i .i64) (.pair (.i .i64) (.pair (.i .i64) (.pair (.i .i64) (.pair .str (.pair .str (.pair .str (.pair .str (.pair (.sl (.pair .str (.pair (.sl (.pair .str (.pair (.pair .str (.pair .str .unit)) (.pair .expr .unit)))) (.pair (.sl (.pair .str (.pair (.pair .str (.pair .str .unit)) .unit))) (.pair (.sl .str) (.pair (.sl (.pair .str (.pair .expr .unit))) .unit)))))) (.pair (.sl (.pair .str (.pair .str (.pair .str (.pair .str .unit))))) .unit)))))))))) := rfl
theorem T56 : TM 56 = some (.sl (.pair .str (.pair (.pair .str (.pair .str .unit)) (.pair .expr .unit)))) := rfl
theorem T57 : TM 57 = some (.sl (.pair .str (.pair (.pair .str (.pair .str .unit)) .unit))) := rfl
theorem T58 : TM 58 = some (.sl (.pair .str (.pair .expr .unit))) := rfl
theorem T60 : TM 60 = some (.pair .str (.pair (.sl (.pair .str (.pair (.pair .str (.pair .str .unit)) (.pair .expr .unit)))) (.pair (.sl (.pair .str (.pair (.pair .str (.pair .str .unit)) .unit))) (.pair (.sl .str) (.pair (.sl (.pair .str (.pair .expr .unit))) .unit))))) := rfl
theorem T62 : TM 62 = some (.pair .str (.pair .str .unit)) := rfl
theorem T64 : TM 64 = some (.pair .str (.pair (.pair .str (.pair .str .unit)) (.pair .expr .unit))) := rfl
theorem T68 : TM 68 = some (.pair .str (.pair .str (.pair .str (.pair .str .unit)))) := rfl
theorem T71 : TM 71 = some (.pair .str (.pair (.pair .str (.pair .str .unit)) .unit)) := rfl
theorem T73 : TM 73 = some (.pair .str (.pair .expr .unit)) := rfl
theorem T81 : TM 81 = some (.sl (.i .i64)) := rfl
theorem T83 : TM 83 = some (.u .u64) := rfl
theorem T85 : TM 85 = some (.sl (.pair (.pair .bool (.pair (.sl (.u .u64)) (.pair (.i .i64) .unit))) (.pair (.pair .bool (.pair (.sl (.u .u64)) (.pair (.i .i64) .unit))) .unit))) := rfl
theorem T86 : TM 86 = some (.sl (.pair (.sl (.pair .bool (.pair (.sl (.u .u64)) (.pair (.i .i64) .unit)))) (.pair (.sl (.pair (.pair .bool (.pair (.sl (.u .u64)) (.pair (.i .i64) .unit))) (.pair (.pair .bool (.pair (.sl (.u .u64)) (.pair (.i .i64) .unit))) .unit))) .unit))) := rfl
theorem T88 : TM 88 = some (.sl (.pair .bool (.pair (.sl (.u .u64)) (.pair (.i .i64) .unit)))) := rfl
theorem T90 : TM 90 = some (.pair (.sl (.pair .bool (.pair (.sl (.u .u64)) (.pair (.i .i64) .unit)))) (.pair (.sl (.pair (.pair .bool (.pair (.sl (.u .u64)) (.pair (.i .i64) .unit))) (.pair (.pair .bool (.pair (.sl (.u .u64)) (.pair (.i .i64) .unit))) .unit))) .unit)) := rfl
theorem T91 : TM 91 = some (.nilf) := rfl
theorem T98 : TM 98 = some (.nilp) := rfl
theorem T99 : TM 99 = some (.sl (.u .u8)) := rfl
theorem aZ1 : TM 101 = some (.pair .nilp (.pair (.sl (.u .u8)) .unit)) := rfl
theorem aZ2 : TM 103 = some (.nili) := rfl
theorem aZ3 : TM 140 = some (.sl (.u .u32)) := rfl
theorem aZ4 : TM 146 = some (.u .u32) := rfl
theorem aZ5 : TM 174 = some (.arr 256 (.bool)) := rfl
theorem aZ6 : TM 202 = some (.pair .bool (.pair (.sl (.u .u32)) (.pair (.i .i64) .unit))) := rfl
theorem aZ7 : TM 221 = some (.nilf) := rfl
theorem aZ8 : TM 226 = some (.sl (.sl .str)) := rfl
theorem aZ9 : TM 238 = some (.arr 24 (.u .u8)) := rfl
theorem bAa : TM 242 = some (.arr 64 (.u .u8)) := rfl
theorem bAb : TM 251 = some (.pair (.i .i64) .unit) := rfl
theorem bAc : TM 254 = some (.pair (.i .i64) .unit) := rfl
theorem bAd : TM 264 = some (.arr 20 (.u .u64)) := rfl
theorem bAe : TM 265 = some (.arr 65 (.u .u8)) := rfl
theorem bAf : TM 268 = some (.arr 256 (.u .u8)) := rfl
theorem bAg : TM 270 = some (.pair (.u .u8) (.pair (.u .u8) .unit)) := rfl
theorem bAh : TM 271 = some (.arr 16 (.pair (.u .u8) (.pair (.u .u8) .unit))) := rfl
theorem bAi : TM 278 = some (.i .i64) := rfl
theorem bAj : TM 284 = some (.arr 32 (.u .u8)) := rfl
theorem bAk : TM 294 = some (.pair .str .unit) := rfl
theorem bAl : TM 258 = some (.clo 239 .unit) := rfl
attribute [go_sem] aZY aZZ aZ0 aZA aZB elT mpT bAl T2 T3 T4 T5 T9 T21 T22 T23 T25 T27 T30 T31 T33 T39 T45 T47 T48 T51 T52 T54 T56 T57 T58 T60 T62 T64 T68 T71 T73 T81 T83 T85 T86 T88 T90 T91 T98 T99 aZ1 aZ2 aZ3 aZ4 aZ5 aZ6 aZ7 aZ8 aZ9 bAa bAb bAc bAd bAe bAf bAg bAh bAi bAj bAk
end Nu
end Go.Proofs
namespace Go.Proofs
open Go.Vc
set_option maxRecDepth 20000
namespace Nu
def gA (x y c : Nat) : Nat × Nat × Unit := ((x + y + c) % 18446744073709551616, (x + y + c) / 18446744073709551616, ())
def aAb (x y c : Nat) : Nat × Nat × Unit := ((x + 18446744073709551616 - y - c) % 18446744073709551616, (if x < y + c then 1 else 0), ())
abbrev aAc (x y c : Nat) : Prop := c ≤ 1
def aFm : Ty := .pair (.u .u64) (.pair (.u .u64) (.pair (.u .u64) .unit))
noncomputable def kE : aI := ⟨aFm, .tup (.pair (.u .u64) (.pair (.u .u64) .unit)), fun x => aAc x.1 x.2.1 x.2.2.1, fun x => gA x.1 x.2.1 x.2.2.1⟩
attribute [go_sem] kE aFm
def aFn : Ty := .pair (.u .u64) (.pair (.u .u64) (.pair (.u .u64) .unit))
noncomputable def wT : aI := ⟨aFn, .tup (.pair (.u .u64) (.pair (.u .u64) .unit)), fun x => aAc x.1 x.2.1 x.2.2.1, fun x => aAb x.1 x.2.1 x.2.2.1⟩
attribute [go_sem] wT aFn
theorem aOc {w : World} {S : Nat → Prop} {x : Nat} {v : Value} (h : cL w S (.u .u64) x v) : v = .int .u64 (x : Int) := by
 unfold cL at h
 rw [if_neg (by simp [Ty.isAgg])] at h
 simp only [aW, List.cons.injEq, and_true] at h
 exact h.1
theorem aKt {w : World} {S : Nat → Prop} {vs : List Value} {x : Nat × Nat × Nat × Unit} (h : mM w S (.pair (.u .u64) (.pair (.u .u64) (.pair (.u .u64) .unit))) x vs) : vs = [.int .u64 (x.1 : Int), .int .u64 (x.2.1 : Int), .int .u64 (x.2.2.1 : Int)] := by
 obtain ⟨v1, r1, rfl, h1, v2, r2, rfl, h2, v3, r3, rfl, h3, h4⟩ := h
 rw [aOc h1, aOc h2, aOc h3]
 have h4 : r3 = [] := h4
 rw [h4]
theorem aVJ {w : World} {S : Nat → Prop} {x : Nat} (h : x < 18446744073709551616) : cL w S (.u .u64) x (.int .u64 (x : Int)) := by
 unfold cL
 rw [if_neg (by simp [Ty.isAgg])]
 refine ⟨rfl, rfl, ?_⟩
 simp [IntKind.max, IntKind.signed, IntKind.bits]; omega
theorem aPT {w : World} {S : Nat → Prop} {x y : Nat} (hx : x < 18446744073709551616) (hy : y < 18446744073709551616) : mM w S (.pair (.u .u64) (.pair (.u .u64) .unit)) (x, y, ()) [.int .u64 (x : Int), .int .u64 (y : Int)] :=
 ⟨_, _, rfl, aVJ hx, _, _, rfl, aVJ hy, rfl⟩
theorem wf_u64 {x : Nat} (h : (Ty.u .u64).wf x) : x < 18446744073709551616 := by
 simp only [Ty.wf, IntKind.max, IntKind.signed, IntKind.bits] at h
 simp at h; omega
def aKu : Array Value → Sem Value := fun args => do
 let (x, y, b) ← Extern.MathBitsCarry.three "Sub64" args
 pure (Extern.MathBitsCarry.pair ((x + Extern.MathBitsCarry.m64 - y - b) % Extern.MathBitsCarry.m64) (if x < y + b then 1 else 0))
theorem aTY {P : Program} (x y b : Nat) (hb : b ≤ 1) (w : World) :
  (aKu #[.int .u64 x, .int .u64 y, .int .u64 b]).run P w =
   .ok (.tuple #[.int .u64 (((x + 18446744073709551616 - y - b) % 18446744073709551616 : Nat) : Int), .int .u64 ((if x < y + b then 1 else 0 : Nat) : Int)]) w := by
 have : b = 0 ∨ b = 1 := by omega
 rcases this with rfl | rfl <;> rfl
theorem aA2 : NOK Tryz.prog GL 162 kE := by
 refine aU1 fun w S vs x ha hp => ?_
 have hp : x.2.2.1 ≤ 1 := hp
 have hw := aFj _ _ _ ha
 obtain ⟨h1, h2, h3, _⟩ := hw
 have h1 := wf_u64 h1
 have h2 := wf_u64 h2
 rw [aKt ha]
 refine ⟨[.int .u64 (((x.1 + x.2.1 + x.2.2.1) % 18446744073709551616 : Nat) : Int), .int .u64 (((x.1 + x.2.1 + x.2.2.1) / 18446744073709551616 : Nat) : Int)], ?_, aPT (by omega) (by omega)⟩
 rw [run_callFunc_extern Tryz.func162 (by kernel_rfl) (by kernel_rfl) (by kernel_rfl) (e := add64Entry) (by kernel_rfl), run_add64 x.1 x.2.1 x.2.2.1 (by omega) (by omega) (by omega) (by omega)]
 simp only [Result.andThen]
 congr 5 <;> omega
theorem aMb : NOK Tryz.prog GL 253 wT := by
 refine aU1 fun w S vs x ha hp => ?_
 have hp : x.2.2.1 ≤ 1 := hp
 have hw := aFj _ _ _ ha
 obtain ⟨h1, h2, h3, _⟩ := hw
 have h1 := wf_u64 h1
 have h2 := wf_u64 h2
 rw [aKt ha]
 refine ⟨[.int .u64 (((x.1 + 18446744073709551616 - x.2.1 - x.2.2.1) % 18446744073709551616 : Nat) : Int), .int .u64 ((if x.1 < x.2.1 + x.2.2.1 then 1 else 0 : Nat) : Int)], ?_, aPT (by omega) (by split <;> omega)⟩
 rw [run_callFunc_extern Tryz.func253 (by kernel_rfl) (by kernel_rfl) (by kernel_rfl) (e := aKu) (by kernel_rfl), aTY x.1 x.2.1 x.2.2.1 hp]
 rfl
abbrev aVK (s : List Nat) : Prop := s.length * 8 ≤ 140737488355328
def qR : Ty := .pair (.sl (.u .u64)) .unit
noncomputable def cR : aI := ⟨qR, .own 83 (.u .u64), fun x => aVK x.1, fun x => id x.1⟩
attribute [go_sem] cR qR
noncomputable def vJ : List (FuncId × aI) := []
theorem vK : bF Tryz.prog GL vJ := .nil
theorem pH : FOK Tryz.prog GL 165 cR := by
 refine aUX (bE vK) Tryz.func165 rfl (by kernel_rfl) (by decide) fun w0 S x hw hp => ?_
 have hF : vI (fr Tryz.prog (EM vJ) S w0 Tryz.f165.ntmps) := ⟨bE vK, mix⟩
 obtain ⟨(s : (List Nat)), u⟩ := x
 have hp : s.length * 8 ≤ 140737488355328 := hp
 simp only [bH, qR, cR]
 refine aE (aD hF [0, 2] ?_)
 simp only [go_sem]
 refine aF (aE (aE (aTR hF rfl rfl rfl fun b hb => ?_)))
 refine aF (bR rfl (fun hc => ?_) (fun hc => ?_))
 ·have hs := hb hc
  refine aE (aD hF [2] ?_)
  simp only [go_sem]
  refine aF (fC (cE (gL hF [.tmp 2] rfl rfl rfl ?_)))
  simp only [oE, aV, go_sem, hs]
  try trivial
 ·refine cM (aF (aE (cK hF [2] ?_)))
  simp only [go_sem]
  refine ⟨by omega, ?_⟩
  refine aF (fC (gL hF [.tmp 2] rfl rfl rfl ?_))
  simp only [oE, aV, go_sem]
  try trivial
end Nu
end Go.Proofs
namespace Go.Proofs
open Go.Vc
namespace Nu
def nv : List Nat → Nat
 | [] => 0
 | x :: r => x + 18446744073709551616 * nv r
def lb (n : Nat) : List Nat := if h : n = 0 then [] else n % 18446744073709551616 :: lb (n / 18446744073709551616)
termination_by n
decreasing_by exact Nat.div_lt_self (by omega) (by decide)
def Lm (a : List Nat) : Prop := ∀ x ∈ a, x < 18446744073709551616
def Nrm (a : List Nat) : Prop := a.getLastD 1 ≠ 0
instance (a : List Nat) : Decidable (Nrm a) := inferInstanceAs (Decidable (_ ≠ _))
theorem aGu : nv [] = 0 := rfl
theorem nZ (x : Nat) (r : List Nat) : nv (x :: r) = x + 18446744073709551616 * nv r := rfl
theorem oA : lb 0 = [] := by rw [lb]; simp
theorem aGv {n : Nat} (h : n ≠ 0) : lb n = n % 18446744073709551616 :: lb (n / 18446744073709551616) := by rw [lb, dif_neg h]
theorem vL (n : Nat) : nv (lb n) = n := by
 induction n using Nat.strongRecOn with
 | _ n ih =>
  by_cases h : n = 0
  ·subst h; rw [oA]; rfl
  ·rw [aGv h, nZ, ih (n / 18446744073709551616) (Nat.div_lt_self (by omega) (by decide))]
   exact Nat.mod_add_div n 18446744073709551616
theorem aS7 (n : Nat) : Lm (lb n) := by
 induction n using Nat.strongRecOn with
 | _ n ih =>
  by_cases h : n = 0
  ·subst h; rw [oA]; intro x hx; cases hx
  ·rw [aGv h]
   intro x hx
   rcases List.mem_cons.1 hx with rfl | hx
   ·exact Nat.mod_lt _ (by decide)
   ·exact ih (n / 18446744073709551616) (Nat.div_lt_self (by omega) (by decide)) x hx
theorem aGw {n : Nat} : lb n = [] ↔ n = 0 := by
 constructor
 ·intro h
  rcases Nat.eq_zero_or_pos n with h0 | h0
  ·exact h0
  ·rw [aGv (by omega)] at h; cases h
 ·rintro rfl; exact oA
theorem aOd : Nrm [] := by decide
theorem aPU {x : Nat} {r : List Nat} (h : Nrm r) (hx : r = [] → x ≠ 0) : Nrm (x :: r) := by
 unfold Nrm at *
 cases r with
 | nil => simpa using hx rfl
 | cons y r => simpa using h
theorem aOe (n : Nat) : Nrm (lb n) := by
 induction n using Nat.strongRecOn with
 | _ n ih =>
  by_cases h : n = 0
  ·subst h; rw [oA]; exact aOd
  ·rw [aGv h]
   refine aPU (ih _ (Nat.div_lt_self (by omega) (by decide))) fun e => ?_
   have := aGw.1 e
   intro h0
   have := Nat.div_add_mod n 18446744073709551616
   omega
theorem aS8 {x : Nat} {r : List Nat} (h : Lm (x :: r)) : x < 18446744073709551616 ∧ Lm r := ⟨h x (by simp), fun y hy => h y (by simp [hy])⟩
theorem aVL {a b : List Nat} (ha : Lm a) (hb : Lm b) : Lm (a ++ b) := fun x hx => (List.mem_append.1 hx).elim (ha x) (hb x)
theorem aBo {x y : Nat} {r : List Nat} (h : Nrm (x :: y :: r)) : Nrm (y :: r) := by
 unfold Nrm at *; simpa using h
theorem aNq {a : List Nat} (h : Nrm a) (hne : a ≠ []) : 0 < nv a := by
  induction a with
  | nil => exact absurd rfl hne
  | cons x r ih =>
    rw [nZ]
    cases r with
    | nil => have : x ≠ 0 := by simpa [Nrm] using h
             rw [aGu]; omega
    | cons y r =>
      have := ih (aBo h) (by simp)
      have : 18446744073709551616 * 1 ≤ 18446744073709551616 * nv (y :: r) := Nat.mul_le_mul_left _ this
      omega
theorem aYw {a : List Nat} (hl : Lm a) (hn : Nrm a) : lb (nv a) = a := by
 induction a with
 | nil => rw [aGu, oA]
 | cons x r ih =>
  have hx := aS8 hl
  have hpos : nv (x :: r) ≠ 0 := by have := aNq hn (by simp); omega
  have h1 : nv (x :: r) % 18446744073709551616 = x := by rw [nZ, Nat.add_mul_mod_self_left]; exact Nat.mod_eq_of_lt hx.1
  have h2 : nv (x :: r) / 18446744073709551616 = nv r := by rw [nZ, Nat.add_mul_div_left _ _ (by decide), Nat.div_eq_of_lt hx.1, Nat.zero_add]
  rw [aGv hpos, h1, h2]
  cases r with
  | nil => rw [aGu, oA]
  | cons y r => rw [ih hx.2 (aBo hn)]
theorem aGx (a b : List Nat) : nv (a ++ b) = nv a + 18446744073709551616 ^ a.length * nv b := by
 induction a with
 | nil => simp [nv]
 | cons x r ih =>
  rw [List.cons_append, nZ, nZ, ih, List.length_cons, Nat.pow_succ, Nat.mul_add]
  have : 18446744073709551616 * (18446744073709551616 ^ r.length * nv b) = 18446744073709551616 ^ r.length * 18446744073709551616 * nv b := by rw [← Nat.mul_assoc, Nat.mul_comm 18446744073709551616]
  omega
theorem kV {a : List Nat} (hl : Lm a) : nv a < 18446744073709551616 ^ a.length := by
 induction a with
 | nil => simp [nv]
 | cons x r ih =>
  have hx := aS8 hl
  have := ih hx.2
  rw [nZ, List.length_cons, Nat.pow_succ]
  have h2 : 18446744073709551616 * (nv r + 1) ≤ 18446744073709551616 * 18446744073709551616 ^ r.length := Nat.mul_le_mul_left _ this
  rw [Nat.mul_add] at h2
  rw [Nat.mul_comm (18446744073709551616 ^ r.length)]
  omega
theorem aS9 {a : List Nat} (hn : Nrm a) (hne : a ≠ []) : 18446744073709551616 ^ (a.length - 1) ≤ nv a := by
 induction a with
 | nil => exact absurd rfl hne
 | cons x r ih =>
  cases r with
  | nil => have := aNq hn hne; simp only [List.length_cons, List.length_nil, Nat.zero_add, Nat.sub_self, Nat.pow_zero]; omega
  | cons y r =>
   have := ih (aBo hn) (by simp)
   rw [nZ]
   simp only [List.length_cons, Nat.add_sub_cancel] at this ⊢
   rw [Nat.pow_succ, Nat.mul_comm]
   have := Nat.mul_le_mul_left 18446744073709551616 this
   omega
theorem aC8 {n k : Nat} : (lb n).length ≤ k ↔ n < 18446744073709551616 ^ k := by
 constructor
 ·intro h
  have := kV (aS7 n)
  rw [vL] at this
  exact Nat.lt_of_lt_of_le this (Nat.pow_le_pow_right (by decide) h)
 ·intro h
  by_cases h0 : n = 0
  ·subst h0; rw [oA]; exact Nat.zero_le _
  ·have hne : lb n ≠ [] := fun e => h0 (aGw.1 e)
   have := aS9 (aOe n) hne
   rw [vL] at this
   have hlt : 18446744073709551616 ^ ((lb n).length - 1) < 18446744073709551616 ^ k := Nat.lt_of_le_of_lt this h
   have := (Nat.pow_lt_pow_iff_right (by decide)).1 hlt
   omega
theorem aGy (n : Nat) : nv (List.replicate n 0) = 0 := by
 induction n with
 | zero => rfl
 | succ n ih => rw [List.replicate_succ, nZ, ih]
theorem uW (a : List Nat) (k : Nat) : nv a = nv (a.take k) + 18446744073709551616 ^ (min k a.length) * nv (a.drop k) := by
 have := aGx (a.take k) (a.drop k)
 rw [List.take_append_drop, List.length_take] at this
 exact this
theorem aAC {a : List Nat} (h : Lm a) (k : Nat) : Lm (a.take k) := fun x hx => h x (List.mem_of_mem_take hx)
theorem aXt {a : List Nat} (h : Lm a) (k : Nat) : Lm (a.drop k) := fun x hx => h x (List.mem_of_mem_drop hx)
theorem aFo {a : List Nat} (h : Lm a) (k : Nat) : nv (a.drop k) = nv a / 18446744073709551616 ^ k := by
 rcases Nat.lt_or_ge k a.length with hk | hk
 ·rw [uW a k, Nat.min_eq_left (Nat.le_of_lt hk), Nat.add_mul_div_left _ _ (Nat.pow_pos (by decide)), Nat.div_eq_of_lt, Nat.zero_add]
  have := kV (aAC h k)
  rw [List.length_take, Nat.min_eq_left (Nat.le_of_lt hk)] at this
  exact this
 ·rw [List.drop_eq_nil_of_le hk, aGu, Nat.div_eq_of_lt]
  exact Nat.lt_of_lt_of_le (kV h) (Nat.pow_le_pow_right (by decide) hk)
theorem aXu {a : List Nat} (h : Lm a) (k : Nat) : nv (a.take k) = nv a % 18446744073709551616 ^ k := by
 rcases Nat.lt_or_ge k a.length with hk | hk
 ·have h1 := uW a k
  rw [Nat.min_eq_left (Nat.le_of_lt hk)] at h1
  have h2 := kV (aAC h k)
  rw [List.length_take, Nat.min_eq_left (Nat.le_of_lt hk)] at h2
  rw [h1, Nat.add_mul_mod_self_left, Nat.mod_eq_of_lt h2]
 ·rw [List.take_of_length_le hk, Nat.mod_eq_of_lt]
  exact Nat.lt_of_lt_of_le (kV h) (Nat.pow_le_pow_right (by decide) hk)
theorem fE {a : List Nat} (h : Lm a) (i : Nat) : a.getD i 0 < 18446744073709551616 := by
 rw [List.getD_eq_getElem?_getD]
 cases e : a[i]? with
 | none => exact (by decide : (0 : Nat) < 18446744073709551616)
 | some x => exact h x (List.mem_of_getElem? e)
theorem take_succ {a : List Nat} {k : Nat} (h : k < a.length) : a.take (k + 1) = a.take k ++ [a.getD k 0] := by
 rw [List.take_succ_eq_append_getElem h, List.getD_eq_getElem?_getD, List.getElem?_eq_getElem h]; rfl
theorem pI {a : List Nat} {k : Nat} (h : k < a.length) : nv (a.take (k + 1)) = nv (a.take k) + 18446744073709551616 ^ k * a.getD k 0 := by
 rw [take_succ h, aGx, List.length_take, Nat.min_eq_left (Nat.le_of_lt h)]
 simp [nv]
theorem aA3 {a : List Nat} {k v : Nat} (h : k < a.length) : nv (a.set k v) + 18446744073709551616 ^ k * a.getD k 0 = nv a + 18446744073709551616 ^ k * v := by
 induction a generalizing k with
 | nil => simp at h
 | cons x r ih =>
  cases k with
  | zero => simp [nv]; omega
  | succ k =>
   have := ih (k := k) (by simpa using h)
   simp only [List.set_cons_succ, nZ, List.getD_cons_succ, Nat.pow_succ]
   have h1 : 18446744073709551616 ^ k * 18446744073709551616 * r.getD k 0 = 18446744073709551616 * (18446744073709551616 ^ k * r.getD k 0) := by rw [Nat.mul_comm (18446744073709551616 ^ k) 18446744073709551616, Nat.mul_assoc]
   have h2 : 18446744073709551616 ^ k * 18446744073709551616 * v = 18446744073709551616 * (18446744073709551616 ^ k * v) := by rw [Nat.mul_comm (18446744073709551616 ^ k) 18446744073709551616, Nat.mul_assoc]
   rw [h1, h2]
   have := congrArg (18446744073709551616 * ·) this
   simp only [Nat.mul_add] at this
   omega
theorem yA {a : List Nat} (h : Lm a) (k : Nat) {v : Nat} (hv : v < 18446744073709551616) : Lm (a.set k v) := fun x hx => by
 rcases List.mem_or_eq_of_mem_set hx with hx | rfl
 ·exact h x hx
 ·exact hv
theorem aGz (n : Nat) : Lm (List.replicate n 0) := fun x hx => by
 rw [List.eq_of_mem_replicate hx]; decide
theorem vM {a : List Nat} (h : (Ty.sl (.u .u64)).wf a) : Lm a := fun x hx => by
 have := h.2 x hx
 simp only [Ty.wf, IntKind.max, IntKind.signed, IntKind.bits] at this
 simp at this; omega
theorem aRv {a : List Nat} (h : (Ty.sl (.u .u64)).wf a) : a.length ≤ 9223372036854775807 := h.1
theorem aC9 {x : Nat} (h : (Ty.u .u64).wf x) : x < 18446744073709551616 := by
 simp only [Ty.wf, IntKind.max, IntKind.signed, IntKind.bits] at h
 simp at h; omega
theorem wf_i64 {x : Int} (h : (Ty.i .i64).wf x) : -9223372036854775808 ≤ x ∧ x ≤ 9223372036854775807 := by
 simpa [Ty.wf, vX] using h
theorem aTa : gB .u64 = 18446744073709551616 := by decide +kernel
theorem aHf (a b : Nat) : jU .u64 a b = a * b % 18446744073709551616 := by rw [aNM, aTa]
theorem aPV {a b : Nat} (ha : a < 18446744073709551616) (hb : b ≤ a) : pW .u64 a b = a - b := by
 rw [aJk, aTa, show a + (18446744073709551616 - b) = (a - b) + 18446744073709551616 from by omega, Nat.add_mod_right, Nat.mod_eq_of_lt (by omega)]
end Nu
end Go.Proofs
namespace Go.Proofs
open Go.Vc
set_option maxRecDepth 20000
namespace Nu
theorem aB {α : Type} {p : Prop} [Decidable p] {k : Option α} {r : Option α} (hp : p) (h : k = r) : ck p k = r := (wC hp).trans h
theorem aBp {α : Type} {p : Prop} [Decidable p] {x y r : α} (h1 : p → x = r) (h2 : ¬ p → y = r) : (if p then x else y) = r := by
 split
 ·exact h1 ‹_›
 ·exact h2 ‹_›
theorem aK {α β : Type} {x : Option α} {a : α} {k : α → Option β} {r : Option β} (hx : x = some a) (h : k a = r) : x.bind k = r := by rw [hx]; exact h
def bl (x : Nat) : Nat := if x = 0 then 0 else Nat.log2 x + 1
theorem aBq {x k : Nat} (h : x < 2 ^ k) : bl x ≤ k := by
 unfold bl
 split
 ·exact Nat.zero_le _
 ·rename_i h0
  exact (Nat.log2_lt h0).2 h
theorem aPW (x : Nat) : x < 2 ^ bl x := by
 unfold bl
 split
 ·rename_i h; subst h; decide
 ·exact Nat.lt_log2_self
theorem aKv {x k : Nat} (h : 2 ^ k ≤ x) : k < bl x := by
 have h0 : x ≠ 0 := by have := Nat.two_pow_pos k; omega
 unfold bl
 rw [if_neg h0]
 have := (Nat.le_log2 h0).2 h
 omega
theorem aZC {x k : Nat} (h1 : 2 ^ k ≤ x) (h2 : x < 2 ^ (k + 1)) : bl x = k + 1 := Nat.le_antisymm (aBq h2) (aKv h1)
theorem aXv : bl 0 = 0 := rfl
theorem aOf {x : Nat} (h : x ≠ 0) : 0 < bl x := aKv (k := 0) (by omega)
theorem aRw {x : Nat} (h : x ≠ 0) : 2 ^ (bl x - 1) ≤ x := by
 rcases Nat.lt_or_ge x (2 ^ (bl x - 1)) with hh | hh
 ·have := aBq hh; have := aOf h; omega
 ·exact hh
theorem aDa {x k : Nat} (h : 2 ^ k ≤ x) : bl x = k + bl (x / 2 ^ k) := by
 have hk := Nat.two_pow_pos k
 have h1 : 0 < x / 2 ^ k := Nat.div_pos h hk
 obtain ⟨m, hm⟩ : ∃ m, bl (x / 2 ^ k) = m + 1 := ⟨bl (x / 2 ^ k) - 1, by
  have := aKv (x := x / 2 ^ k) (k := 0) h1; omega⟩
 have h2 := aPW (x / 2 ^ k)
 have h3 := aRw (x := x / 2 ^ k) (by omega)
 rw [hm] at h2 h3 ⊢
 refine aZC (k := k + m) ?_ ?_
 ·rw [Nat.pow_add, Nat.mul_comm]; exact (Nat.le_div_iff_mul_le hk).1 h3
 ·rw [Nat.add_assoc, Nat.pow_add, Nat.mul_comm]; exact (Nat.div_lt_iff_lt_mul hk).1 h2
def wF : ByteArray := ⟨⟨0 :: 1 :: 2 :: 2 :: 3 :: 3 :: 3 :: 3 :: 4 :: 4 :: 4 :: 4 :: 4 :: 4 :: 4 :: 4 :: 5 :: 5 :: 5 :: 5 :: 5 :: 5 :: 5 :: 5 :: 5 :: 5 :: 5 :: 5 :: 5 :: 5 :: 5 :: 5 :: 6 :: 6 :: 6 :: 6 :: 6 :: 6 :: 6 :: 6 :: 6 :: 6 :: 6 :: 6 :: 6 :: 6 :: 6 :: 6 :: 6 :: 6 :: 6 :: 6 :: 6 :: 6 :: 6 :: 6 :: 6 :: 6 :: 6 :: 6 :: 6 :: 6 :: 6 :: 6 :: 7 :: 7 :: 7 :: 7 :: 7 :: 7 :: 7 :: 7 :: 7 :: 7 :: 7 :: 7 :: 7 :: 7 :: 7 :: 7 :: 7 :: 7 :: 7 :: 7 :: 7 :: 7 :: 7 :: 7 :: 7 :: 7 :: 7 :: 7 :: 7 :: 7 :: 7 :: 7 :: 7 :: 7 :: 7 :: 7 :: 7 :: 7 :: 7 :: 7 :: 7 :: 7 :: 7 :: 7 :: 7 :: 7 :: 7 :: 7 :: 7 :: 7 :: 7 :: 7 :: 7 :: 7 :: 7 :: 7 :: 7 :: 7 :: 7 :: 7 :: 7 :: 7 :: 7 :: 7 :: 8 :: 8 :: 8 :: 8 :: 8 :: 8 :: 8 :: 8 :: 8 :: 8 :: 8 :: 8 :: 8 :: 8 :: 8 :: 8 :: 8 :: 8 :: 8 :: 8 :: 8 :: 8 :: 8 :: 8 :: 8 :: 8 :: 8 :: 8 :: 8 :: 8 :: 8 :: 8 :: 8 :: 8 :: 8 :: 8 :: 8 :: 8 :: 8 :: 8 :: 8 :: 8 :: 8 :: 8 :: 8 :: 8 :: 8 :: 8 :: 8 :: 8 :: 8 :: 8 :: 8 :: 8 :: 8 :: 8 :: 8 :: 8 :: 8 :: 8 :: 8 :: 8 :: 8 :: 8 :: 8 :: 8 :: 8 :: 8 :: 8 :: 8 :: 8 :: 8 :: 8 :: 8 :: 8 :: 8 :: 8 :: 8 :: 8 :: 8 :: 8 :: 8 :: 8 :: 8 :: 8 :: 8 :: 8 :: 8 :: 8 :: 8 :: 8 :: 8 :: 8 :: 8 :: 8 :: 8 :: 8 :: 8 :: 8 :: 8 :: 8 :: 8 :: 8 :: 8 :: 8 :: 8 :: 8 :: 8 :: 8 :: 8 :: 8 :: 8 :: 8 :: 8 :: 8 :: 8 :: 8 :: 8 :: 8 :: 8 :: 8 :: 8 :: 8 :: 8 :: 8 :: 8 :: 8 :: 8 :: []⟩⟩
theorem aMc : (⟨⟨0 :: 1 :: 2 :: 2 :: 3 :: 3 :: 3 :: 3 :: 4 :: 4 :: 4 :: 4 :: 4 :: 4 :: 4 :: 4 :: 5 :: 5 :: 5 :: 5 :: 5 :: 5 :: 5 :: 5 :: 5 :: 5 :: 5 :: 5 :: 5 :: 5 :: 5 :: 5 :: 6 :: 6 :: 6 :: 6 :: 6 :: 6 :: 6 :: 6 :: 6 :: 6 :: 6 :: 6 :: 6 :: 6 :: 6 :: 6 :: 6 :: 6 :: 6 :: 6 :: 6 :: 6 :: 6 :: 6 :: 6 :: 6 :: 6 :: 6 :: 6 :: 6 :: 6 :: 6 :: 7 :: 7 :: 7 :: 7 :: 7 :: 7 :: 7 :: 7 :: 7 :: 7 :: 7 :: 7 :: 7 :: 7 :: 7 :: 7 :: 7 :: 7 :: 7 :: 7 :: 7 :: 7 :: 7 :: 7 :: 7 :: 7 :: 7 :: 7 :: 7 :: 7 :: 7 :: 7 :: 7 :: 7 :: 7 :: 7 :: 7 :: 7 :: 7 :: 7 :: 7 :: 7 :: 7 :: 7 :: 7 :: 7 :: 7 :: 7 :: 7 :: 7 :: 7 :: 7 :: 7 :: 7 :: 7 :: 7 :: 7 :: 7 :: 7 :: 7 :: 7 :: 7 :: 7 :: 7 :: 8 :: 8 :: 8 :: 8 :: 8 :: 8 :: 8 :: 8 :: 8 :: 8 :: 8 :: 8 :: 8 :: 8 :: 8 :: 8 :: 8 :: 8 :: 8 :: 8 :: 8 :: 8 :: 8 :: 8 :: 8 :: 8 :: 8 :: 8 :: 8 :: 8 :: 8 :: 8 :: 8 :: 8 :: 8 :: 8 :: 8 :: 8 :: 8 :: 8 :: 8 :: 8 :: 8 :: 8 :: 8 :: 8 :: 8 :: 8 :: 8 :: 8 :: 8 :: 8 :: 8 :: 8 :: 8 :: 8 :: 8 :: 8 :: 8 :: 8 :: 8 :: 8 :: 8 :: 8 :: 8 :: 8 :: 8 :: 8 :: 8 :: 8 :: 8 :: 8 :: 8 :: 8 :: 8 :: 8 :: 8 :: 8 :: 8 :: 8 :: 8 :: 8 :: 8 :: 8 :: 8 :: 8 :: 8 :: 8 :: 8 :: 8 :: 8 :: 8 :: 8 :: 8 :: 8 :: 8 :: 8 :: 8 :: 8 :: 8 :: 8 :: 8 :: 8 :: 8 :: 8 :: 8 :: 8 :: 8 :: 8 :: 8 :: 8 :: 8 :: 8 :: 8 :: 8 :: 8 :: 8 :: 8 :: 8 :: 8 :: 8 :: 8 :: 8 :: 8 :: 8 :: 8 :: 8 :: 8 :: []⟩⟩ : ByteArray) = wF := rfl
attribute [go_sem] aMc
noncomputable def jE (x_6 : Nat) (n_7 : Int) : Option (Int) :=
 ck (0 ≤ (((x_6 % 256) : Nat) : Int) ∧ (((x_6 % 256) : Nat) : Int) < ((((aN wF).length) : Nat) : Int)) (ck (I64 (n_7 + ((((aN wF).getD (x_6 % 256) (0 : Nat)) : Nat) : Int))) (some (n_7 + ((((aN wF).getD (x_6 % 256) (0 : Nat)) : Nat) : Int))))
noncomputable def jF (x_4 : Nat) (n_5 : Int) : Option (Int) :=
 if (256 : Nat) ≤ x_4 then ck (I64 (n_5 + (8 : Int))) (jE (x_4 / (256 : Nat)) (n_5 + (8 : Int))) else jE x_4 n_5
noncomputable def jG (x_2 : Nat) (n_3 : Int) : Option (Int) :=
 if (65536 : Nat) ≤ x_2 then ck (I64 (n_3 + (16 : Int))) (jF (x_2 / (65536 : Nat)) (n_3 + (16 : Int))) else jF x_2 n_3
noncomputable def uX (x_0 : Nat) : Option Int :=
 if (4294967296 : Nat) ≤ x_0 then jG (x_0 / (4294967296 : Nat)) (32 : Int) else jG x_0 (0 : Int)
def dB (x : Nat) : Int := (bl x : Int)
theorem aXw : (aN wF).length = 256 ∧ ∀ y, y < 256 → (aN wF).getD y 0 = bl y := by decide +kernel
theorem aPX {x : Nat} {n : Int} (hx : x < 256) (h0 : 0 ≤ n) (h1 : n ≤ 1000) : jE x n = some (n + bl x) := by
 obtain ⟨e1, e2⟩ := aXw
 have e3 := e2 x hx
 have h8 := aBq (show x < 2 ^ 8 from hx)
 have hm : x % 256 = x := Nat.mod_eq_of_lt hx
 unfold jE
 rw [hm, e3]
 refine aB (by rw [e1]; omega) (aB (by constructor <;> omega) rfl)
theorem aPY {x : Nat} {n : Int} (hx : x < 65536) (h0 : 0 ≤ n) (h1 : n ≤ 900) : jF x n = some (n + bl x) := by
 unfold jF
 refine aBp (fun h => aB (by constructor <;> omega) ?_) (fun h => aPX (by omega) h0 (by omega))
 rw [aPX (by omega) (by omega) (by omega), aDa (x := x) (k := 8) h]
 congr 1; rw [show (2 : Nat) ^ 8 = 256 from rfl]; omega
theorem aPZ {x : Nat} {n : Int} (hx : x < 4294967296) (h0 : 0 ≤ n) (h1 : n ≤ 800) : jG x n = some (n + bl x) := by
 unfold jG
 refine aBp (fun h => aB (by constructor <;> omega) ?_) (fun h => aPY (by omega) h0 (by omega))
 rw [aPY (by omega) (by omega) (by omega), aDa (x := x) (k := 16) h]
 congr 1; rw [show (2 : Nat) ^ 16 = 65536 from rfl]; omega
theorem aKw (x : Nat) (w : (Ty.u .u64).wf x) : uX x = some (dB x) := by
 have hx := aC9 w
 unfold uX
 refine aBp (fun h => ?_) (fun h => ?_)
 ·rw [aPZ (by omega) (by omega) (by omega), dB, aDa (x := x) (k := 32) h]
  rfl
 ·rw [aPZ (by omega) (by omega) (by omega), dB]; congr 1; omega
theorem aTZ {x : Nat} (hx : x < 18446744073709551616) : bl x ≤ 64 := aBq hx
noncomputable def gZ (x_0 : Nat) : Option Int :=
 ck (I64 ((64 : Int) - (dB x_0))) (some ((64 : Int) - (dB x_0)))
def aC (x : Nat) : Int := 64 - (bl x : Int)
theorem aBr (x : Nat) (w : (Ty.u .u64).wf x) : gZ x = some (aC x) := by
 have := aTZ (aC9 w)
 unfold gZ dB aC
 exact aB (by constructor <;> omega) rfl
noncomputable def gO (x_0 : Nat) : Option Int :=
 if x_0 = (0 : Nat) then some (64 : Int) else ck (0 ≤ ((((jU .u64 (x_0 &&& (aL4 .u64 x_0)) (285870213051353865 : Nat)) / (288230376151711744 : Nat)) : Nat) : Int) ∧ ((((jU .u64 (x_0 &&& (aL4 .u64 x_0)) (285870213051353865 : Nat)) / (288230376151711744 : Nat)) : Nat) : Int) < (64 : Int)) (some (((aRu.getD ((jU .u64 (x_0 &&& (aL4 .u64 x_0)) (285870213051353865 : Nat)) / (288230376151711744 : Nat)) (0 : Nat)) : Nat) : Int))
def fF (x : Nat) : Int := (Lib.ctz 64 x : Int)
theorem aXx : aRu = Lib.deBruijn64tab := by rw [aS5]; decide
theorem aZD {x : Nat} (hx : x < 18446744073709551616) (hc : ¬ x = 0) : aL4 .u64 x = 18446744073709551616 - x := by
 rw [aSq, aTa, Nat.zero_add]
 exact Nat.mod_eq_of_lt (by omega)
theorem aY3 {x : Nat} (hx : x < 18446744073709551616) (hc : ¬ x = 0) : jU .u64 (x &&& aL4 .u64 x) 285870213051353865 / 288230376151711744 < 64 ∧ aRu.getD (jU .u64 (x &&& aL4 .u64 x) 285870213051353865 / 288230376151711744) 0 = Lib.ctz 64 x := by
 obtain ⟨h1, h2⟩ := Lib.lowest_bit 64 x hc hx
 have e2 : (2 : Nat) ^ 64 = 18446744073709551616 := by decide
 rw [e2] at h1
 rw [aHf, aZD hx hc, h1, aXx]
 exact Lib.deBruijn64_at _ h2
theorem aA4 (x : Nat) (w : (Ty.u .u64).wf x) : gO x = some (fF x) := by
 unfold gO fF
 refine aBp (fun h => ?_) (fun h => ?_)
 ·subst h; rfl
 ·obtain ⟨h1, h2⟩ := aY3 (aC9 w) h
  rw [h2]
  exact aB ⟨Int.natCast_nonneg _, Int.ofNat_lt.2 h1⟩ rfl
noncomputable def uY (x_0 : Nat) (y_1 : Nat) : Option (Nat × (Nat × Unit)) :=
 some ((((((jU .u64 (x_0 / (4294967296 : Nat)) (y_1 / (4294967296 : Nat))) + ((((jU .u64 (x_0 / (4294967296 : Nat)) (y_1 &&& (4294967295 : Nat))) + ((jU .u64 (x_0 &&& (4294967295 : Nat)) (y_1 &&& (4294967295 : Nat))) / (4294967296 : Nat))) % 18446744073709551616) / (4294967296 : Nat))) % 18446744073709551616) + (((((((jU .u64 (x_0 / (4294967296 : Nat)) (y_1 &&& (4294967295 : Nat))) + ((jU .u64 (x_0 &&& (4294967295 : Nat)) (y_1 &&& (4294967295 : Nat))) / (4294967296 : Nat))) % 18446744073709551616) &&& (4294967295 : Nat)) + (jU .u64 (x_0 &&& (4294967295 : Nat)) (y_1 / (4294967296 : Nat)))) % 18446744073709551616) / (4294967296 : Nat))) % 18446744073709551616), (jU .u64 x_0 y_1), ())
def bG (x y : Nat) : Nat × Nat × Unit := (x * y / 18446744073709551616, x * y % 18446744073709551616, ())
theorem aY4 (x : Nat) : x &&& 4294967295 = x % 4294967296 := Nat.and_two_pow_sub_one_eq_mod x 32
theorem aVM {x y : Nat} (hx : x < 18446744073709551616) (hy : y < 18446744073709551616) :
  ((x / 4294967296 * (y / 4294967296) % 18446744073709551616 + (x / 4294967296 * (y &&& 4294967295) % 18446744073709551616 + (x &&& 4294967295) * (y &&& 4294967295) % 18446744073709551616 / 4294967296) % 18446744073709551616 / 4294967296) % 18446744073709551616 +
     (((x / 4294967296 * (y &&& 4294967295) % 18446744073709551616 + (x &&& 4294967295) * (y &&& 4294967295) % 18446744073709551616 / 4294967296) % 18446744073709551616 &&& 4294967295) + (x &&& 4294967295) * (y / 4294967296) % 18446744073709551616) % 18446744073709551616 / 4294967296) % 18446744073709551616 = x * y / 18446744073709551616 := by
 simp only [aY4]
 have a1 : x / 4294967296 ≤ 4294967295 := by omega
 have a2 : x % 4294967296 ≤ 4294967295 := by omega
 have b1 : y / 4294967296 ≤ 4294967295 := by omega
 have b2 : y % 4294967296 ≤ 4294967295 := by omega
 have ex := Nat.div_add_mod x 4294967296
 have ey := Nat.div_add_mod y 4294967296
 generalize x / 4294967296 = a at *
 generalize x % 4294967296 = b at *
 generalize y / 4294967296 = c at *
 generalize y % 4294967296 = d at *
 subst ex; subst ey
 have e : (4294967296 * a + b) * (4294967296 * c + d) = a * c * 18446744073709551616 + (a * d + b * c) * 4294967296 + b * d := by
  simp only [Nat.add_mul, Nat.mul_add]
  have h1 : 4294967296 * a * (4294967296 * c) = a * c * 18446744073709551616 := by
   rw [Nat.mul_mul_mul_comm, Nat.mul_comm _ (a * c)]
  have h2 : 4294967296 * a * d = a * d * 4294967296 := by rw [Nat.mul_assoc, Nat.mul_comm]
  have h3 : b * (4294967296 * c) = b * c * 4294967296 := by rw [Nat.mul_left_comm, Nat.mul_comm]
  omega
 rw [e]
 have p1 := Nat.mul_le_mul a1 b1
 have p2 := Nat.mul_le_mul a1 b2
 have p3 := Nat.mul_le_mul a2 b1
 have p4 := Nat.mul_le_mul a2 b2
 generalize a * c = ac at *
 generalize a * d = ad at *
 generalize b * c = bc at *
 generalize b * d = bd at *
 omega
theorem aKx (x : Nat) (wx : (Ty.u .u64).wf x) (y : Nat) (wy : (Ty.u .u64).wf y) : uY x y = some (bG x y) := by
 unfold uY bG
 simp only [aHf]
 rw [aVM (aC9 wx) (aC9 wy)]
end Nu
end Go.Proofs
namespace Go.Proofs
open Go.Vc
set_option maxRecDepth 20000
namespace Nu
abbrev Sz (a : List Nat) : Prop := a.length ≤ 1099511627776
abbrev pSz (a : List Nat) : Prop := Sz a
abbrev aRx (a b : List Nat) : Prop := Sz a ∧ Sz b
abbrev aTb (a b : List Nat) : Prop := Nrm a ∧ Nrm b
abbrev aTc (a : List Nat) : Prop := Nrm a ∧ Sz a
theorem aDV {a : List Nat} (h : 0 < a.length) : Nrm a ↔ a.getD (a.length - 1) 0 ≠ 0 := by
 unfold Nrm
 rw [List.getD_eq_getElem?_getD, List.getLastD_eq_getLast?, List.getLast?_eq_getElem?]
 rw [List.getElem?_eq_getElem (show a.length - 1 < a.length by omega)]
 rfl
noncomputable def wU (a_4 : (List Nat)) : Option (((List Nat)) ⊕ (((List Nat)))) :=
 ck ((((0 : Int) < (a_4.length : Int)) → (I64 ((a_4.length : Int) - (1 : Int))))) (ck ((((0 : Int) < (a_4.length : Int)) → (0 ≤ ((a_4.length : Int) - (1 : Int)) ∧ ((a_4.length : Int) - (1 : Int)) < (a_4.length : Int)))) (if ((0 : Int) < (a_4.length : Int)) ∧ ((a_4.getD (((a_4.length : Int) - (1 : Int)).toNat) (0 : Nat)) = (0 : Nat)) then ck (I64 ((a_4.length : Int) - (1 : Int))) (ck (0 ≤ ((a_4.length : Int) - (1 : Int)) ∧ ((a_4.length : Int) - (1 : Int)) ≤ (a_4.length : Int)) (some (.inl (List.take (((a_4.length : Int) - (1 : Int)).toNat) a_4)))) else some (.inr a_4)))
noncomputable def aAd (a_0 : (List Nat)) : Option (List Nat) :=
 (bO (fun d : (List Nat) => wU d) a_0).bind (fun e => some e)
def dI (a : List Nat) : List Nat := lb (nv a)
theorem aOg (a : List Nat) (w : (Ty.sl (.u .u64)).wf a) : aAd a = some (dI a) := by
 unfold aAd
 refine aK (gF (I := fun d => Lm d ∧ d.length ≤ 9223372036854775807) (fun d => d.length) (fun d => lb (nv d)) ?_ a ⟨vM w, aRv w⟩) rfl
 intro d ⟨hl, hn⟩
 unfold wU
 rcases Nat.eq_zero_or_pos d.length with h0 | h0
 ·right
  have e : d = [] := List.eq_nil_of_length_eq_zero h0
  subst e
  refine aB (by intro h; simp at h) (aB (by intro h; simp at h) ?_)
  rw [if_neg (by simp)]
  rw [aGu, oA]
 ·have e1 : ((d.length : Nat) : Int) - 1 = ((d.length - 1 : Nat) : Int) := by omega
  rw [e1, Int.toNat_natCast]
  by_cases hz : d.getD (d.length - 1) 0 = 0
  ·left
   refine ⟨d.take (d.length - 1), aB (by intro _; constructor <;> omega) (aB (by intro _; constructor <;> omega) ?_), ⟨aAC hl _, by rw [List.length_take]; omega⟩, by rw [List.length_take]; omega, ?_⟩
   ·rw [if_pos ⟨by omega, hz⟩]
    exact aB (by constructor <;> omega) (aB (by constructor <;> omega) rfl)
   ·have := pI (a := d) (k := d.length - 1) (by omega)
    rw [hz, show d.length - 1 + 1 = d.length from by omega, List.take_length] at this
    simp only [Nat.mul_zero, Nat.add_zero] at this
    rw [this]
  ·right
   refine aB (by intro _; constructor <;> omega) (aB (by intro _; constructor <;> omega) ?_)
   rw [if_neg (fun h => hz h.2), aYw hl ((aDV h0).2 hz)]
noncomputable def aBs (a_0 : (List Nat)) : Option Bool :=
 ck ((¬ ((a_0.length : Int) = (0 : Int)) → ((a_0.length : Int) ≤ (64 : Int)) → (I64 ((a_0.length : Int) - (1 : Int))))) (ck ((¬ ((a_0.length : Int) = (0 : Int)) → ((a_0.length : Int) ≤ (64 : Int)) → (0 ≤ ((a_0.length : Int) - (1 : Int)) ∧ ((a_0.length : Int) - (1 : Int)) < (a_0.length : Int)))) (some ((decide ((a_0.length : Int) = (0 : Int))) || ((decide ((a_0.length : Int) ≤ (64 : Int))) && (!(decide ((a_0.getD (((a_0.length : Int) - (1 : Int)).toNat) (0 : Nat)) = (0 : Nat))))))))
def aBt (a : List Nat) : Bool := decide (a.length ≤ 64 ∧ Nrm a)
theorem aP0 (a : List Nat) (w : (Ty.sl (.u .u64)).wf a) : aBs a = some (aBt a) := by
 have hn := aRv w
 unfold aBs aBt
 rcases Nat.eq_zero_or_pos a.length with h0 | h0
 ·have e : a = [] := List.eq_nil_of_length_eq_zero h0
  subst e
  refine aB (by intro h; simp at h) (aB (by intro h; simp at h) ?_)
  decide
 ·have e1 : ((a.length : Nat) : Int) - 1 = ((a.length - 1 : Nat) : Int) := by omega
  rw [e1, Int.toNat_natCast]
  refine aB (by intro _ _; constructor <;> omega) (aB (by intro _ _; constructor <;> omega) ?_)
  congr 1
  rw [Bool.eq_iff_iff]
  have := aDV h0
  simp only [Bool.or_eq_true, decide_eq_true_eq, Bool.and_eq_true, Bool.not_eq_true', decide_eq_false_iff_not]
  rw [this]
  constructor
  ·rintro (h | h)
   ·omega
   ·exact ⟨by omega, h.2⟩
  ·intro h; exact .inr ⟨by omega, h.2⟩
noncomputable def aAe (less_0 : Bool) : Option Int :=
 if less_0 = true then some (-1 : Int) else some (1 : Int)
def tE (b : Bool) : Int := if b = true then -1 else 1
theorem aOh (b : Bool) (w : Ty.bool.wf b) : aAe b = some (tE b) := by
 unfold aAe tE
 cases b <;> rfl
noncomputable def qZ (a_0 : (List Nat)) (b_1 : (List Nat)) (i_5 : Int) : Option ((Int) ⊕ ((Unit) ⊕ Int)) :=
 if (0 : Int) ≤ i_5 then ck (0 ≤ i_5 ∧ i_5 < (a_0.length : Int)) (ck (0 ≤ i_5 ∧ i_5 < (b_1.length : Int)) (if ¬ ((a_0.getD (i_5.toNat) (0 : Nat)) = (b_1.getD (i_5.toNat) (0 : Nat))) then ck (0 ≤ i_5 ∧ i_5 < (a_0.length : Int)) (ck (0 ≤ i_5 ∧ i_5 < (b_1.length : Int)) (some (.inr (.inr (tE (decide ((a_0.getD (i_5.toNat) (0 : Nat)) < (b_1.getD (i_5.toNat) (0 : Nat))))))))) else ck (I64 (i_5 - (1 : Int))) (some (.inl (i_5 - (1 : Int)))))) else some (.inr (.inl ()))
noncomputable def xK (a_0 : (List Nat)) (b_1 : (List Nat)) : Option Int :=
 if ¬ ((a_0.length : Int) = (b_1.length : Int)) then some (tE (decide ((a_0.length : Int) < (b_1.length : Int)))) else ck (I64 ((a_0.length : Int) - (1 : Int))) ((bO (fun d : Int => qZ a_0 b_1 d) ((a_0.length : Int) - (1 : Int))).bind (fun e => match e with | (.inl e) => some (0 : Int) | (.inr e) => some e))
def aEK (x y : Nat) : Int := if x < y then -1 else if x = y then 0 else 1
def oX (a b : List Nat) : Int := aEK (nv a) (nv b)
theorem aNr {a b : List Nat} (ha : Lm a) (hb : Nrm b) (h : a.length < b.length) : nv a < nv b := by
 have h1 := kV ha
 have h2 := aS9 hb (by intro e; subst e; simp at h)
 exact Nat.lt_of_lt_of_le h1 (Nat.le_trans (Nat.pow_le_pow_right (by decide) (by omega)) h2)
theorem aMd (a : List Nat) (wa : (Ty.sl (.u .u64)).wf a) (b : List Nat) (wb : (Ty.sl (.u .u64)).wf b) (hp : aTb a b) : xK a b = some (oX a b) := by
 have la := vM wa
 have lb' := vM wb
 have na := aRv wa
 unfold xK oX
 refine aBp (fun h => ?_) (fun h => ?_)
 ·unfold tE aEK
  rcases Nat.lt_or_ge a.length b.length with hl | hl
  ·have := aNr la hp.2 hl
   simp [hl, this]
  ·have hl' : b.length < a.length := by omega
   have := aNr lb' hp.1 hl'
   have h1 : ¬ a.length < b.length := by omega
   have h2 : ¬ nv a < nv b := by omega
   have h3 : ¬ nv a = nv b := by omega
   simp [h1, h2, h3]
 ·have hlen : a.length = b.length := by omega
  refine aB (by constructor <;> omega) ?_
  have key := gF (step := fun d : Int => qZ a b d) (I := fun i => -1 ≤ i ∧ i < a.length ∧ nv (a.drop (i + 1).toNat) = nv (b.drop (i + 1).toNat)) (fun i => (i + 1).toNat)
   (fun i => if nv (a.take (i + 1).toNat) = nv (b.take (i + 1).toNat) then (.inl () : Unit ⊕ Int) else .inr (if nv (a.take (i + 1).toNat) < nv (b.take (i + 1).toNat) then -1 else 1)) ?_ ((a.length : Int) - 1) ⟨by omega, by omega, by rw [List.drop_eq_nil_of_le (by omega), List.drop_eq_nil_of_le (by omega)]⟩
  ·rw [show ((a.length : Int) - 1 + 1).toNat = a.length from by omega, List.take_length] at key
   rw [hlen, List.take_length] at key
   rw [hlen]
   refine aK key ?_
   unfold aEK
   by_cases e : nv a = nv b
   ·simp [e]
   ·by_cases e2 : nv a < nv b <;> simp [e, e2]
  ·intro i ⟨h1, h2, h3⟩
   try dsimp only
   unfold qZ
   by_cases hi : 0 ≤ i
   ·have hk : (i + 1).toNat = i.toNat + 1 := by omega
    have hia : i.toNat < a.length := by omega
    have hib : i.toNat < b.length := by omega
    rw [if_pos hi, hk, pI hia, pI hib]
    have ta := kV (aAC la i.toNat)
    have tb := kV (aAC lb' i.toNat)
    rw [List.length_take, Nat.min_eq_left (by omega)] at ta tb
    by_cases he : a.getD i.toNat 0 = b.getD i.toNat 0
    ·left
     refine ⟨i - 1, aB (by constructor <;> omega) (aB (by constructor <;> omega) ?_), ⟨by omega, by omega, ?_⟩, by omega, ?_⟩
     ·rw [if_neg (by simpa using he)]
      exact aB (by constructor <;> omega) rfl
     ·rw [show (i - 1 + 1).toNat = i.toNat from by omega, List.drop_eq_getElem_cons hia, List.drop_eq_getElem_cons hib, nZ, nZ]
      rw [hk] at h3
      rw [h3]
      rw [List.getD_eq_getElem?_getD, List.getD_eq_getElem?_getD, List.getElem?_eq_getElem hia, List.getElem?_eq_getElem hib] at he
      have he : a[i.toNat] = b[i.toNat] := he
      rw [he]
     ·rw [show (i - 1 + 1).toNat = i.toNat from by omega, he]
      simp only [Nat.add_right_cancel_iff, Nat.add_lt_add_iff_right]
    ·right
     refine aB (by constructor <;> omega) (aB (by constructor <;> omega) ?_)
     rw [if_pos he]
     refine aB (by constructor <;> omega) (aB (by constructor <;> omega) ?_)
     unfold tE
     generalize a.getD i.toNat 0 = x at *
     generalize b.getD i.toNat 0 = y at *
     generalize nv (a.take i.toNat) = p at *
     generalize nv (b.take i.toNat) = q at *
     generalize 18446744073709551616 ^ i.toNat = P at *
     rcases Nat.lt_or_ge x y with hxy | hxy
     ·have : P * (x + 1) ≤ P * y := Nat.mul_le_mul_left _ hxy
      rw [Nat.mul_add] at this
      have h5 : ¬ p + P * x = q + P * y := by omega
      have h6 : p + P * x < q + P * y := by omega
      simp [hxy, h5, h6]
     ·have hxy' : y < x := by omega
      have : P * (y + 1) ≤ P * x := Nat.mul_le_mul_left _ hxy'
      rw [Nat.mul_add] at this
      have h5 : ¬ p + P * x = q + P * y := by omega
      have h6 : ¬ p + P * x < q + P * y := by omega
      have h7 : ¬ x < y := by omega
      simp [h7, h5, h6]
   ·right
    have e : i = -1 := by omega
    subst e
    rw [if_neg hi]
    simp [nv]
noncomputable def aAf (a_0 : (List Nat)) : Option Int :=
 if (a_0.length : Int) = (0 : Int) then some (0 : Int) else ck (I64 ((64 : Int) * (a_0.length : Int))) (ck (I64 ((a_0.length : Int) - (1 : Int))) (ck (0 ≤ ((a_0.length : Int) - (1 : Int)) ∧ ((a_0.length : Int) - (1 : Int)) < (a_0.length : Int)) (ck (I64 (((64 : Int) * (a_0.length : Int)) - (aC (a_0.getD (((a_0.length : Int) - (1 : Int)).toNat) (0 : Nat))))) (some (((64 : Int) * (a_0.length : Int)) - (aC (a_0.getD (((a_0.length : Int) - (1 : Int)).toNat) (0 : Nat))))))))
def kW (a : List Nat) : Int := (bl (nv a) : Int)
theorem uZ (k : Nat) : 18446744073709551616 ^ k = 2 ^ (64 * k) := by rw [Nat.pow_mul]
theorem aVN {x m k : Nat} (hx : x ≠ 0) (hm : m < 2 ^ k) : bl (m + 2 ^ k * x) = k + bl x := by
 have hk := Nat.two_pow_pos k
 have h1 : 2 ^ k * 1 ≤ 2 ^ k * x := Nat.mul_le_mul_left _ (by omega)
 rw [aDa (x := m + 2 ^ k * x) (k := k) (by omega), Nat.add_mul_div_left _ _ hk, Nat.div_eq_of_lt hm, Nat.zero_add]
theorem aXy {a : List Nat} (h : 0 < a.length) : nv a = nv (a.take (a.length - 1)) + 18446744073709551616 ^ (a.length - 1) * a.getD (a.length - 1) 0 := by
 have := pI (a := a) (k := a.length - 1) (by omega)
 rwa [show a.length - 1 + 1 = a.length from by omega, List.take_length] at this
theorem aXz {a : List Nat} (hl : Lm a) (hn : Nrm a) (h : 0 < a.length) : bl (nv a) = 64 * (a.length - 1) + bl (a.getD (a.length - 1) 0) := by
 rw [aXy h, uZ]
 refine aVN ((aDV h).1 hn) ?_
 have := kV (aAC hl (a.length - 1))
 rw [List.length_take, Nat.min_eq_left (by omega), uZ] at this
 exact this
theorem aOi (a : List Nat) (w : (Ty.sl (.u .u64)).wf a) (hp : aTc a) : aAf a = some (kW a) := by
 obtain ⟨hn, hs⟩ := hp
 unfold aAf kW
 refine aBp (fun h => ?_) (fun h => ?_)
 ·have e : a = [] := List.eq_nil_of_length_eq_zero (by omega)
  subst e; rfl
 ·have h0 : 0 < a.length := by omega
  have h64 := aTZ (fE (vM w) (a.length - 1))
  have e1 : ((a.length : Nat) : Int) - 1 = ((a.length - 1 : Nat) : Int) := by omega
  rw [e1, Int.toNat_natCast]
  unfold aC
  rw [aXz (vM w) hn h0]
  refine aB (by constructor <;> omega) (aB (by constructor <;> omega) (aB (by constructor <;> omega) (aB (by constructor <;> omega) ?_)))
  congr 1; omega
end Nu
end Go.Proofs
namespace Go.Proofs
open Go.Vc
set_option maxRecDepth 20000
namespace Nu
def tzn (n : Nat) : Nat := if h : n = 0 then 0 else if n % 2 = 1 then 0 else 1 + tzn (n / 2)
termination_by n
decreasing_by exact Nat.div_lt_self (by omega) (by decide)
theorem aFp {n : Nat} (h : n ≠ 0) : ∃ m, n = 2 ^ tzn n * (2 * m + 1) := by
 induction n using Nat.strongRecOn with
 | _ n ih =>
  rw [tzn, dif_neg h]
  split
  ·exact ⟨n / 2, by rw [Nat.pow_zero]; omega⟩
  ·obtain ⟨m, hm⟩ := ih (n / 2) (Nat.div_lt_self (by omega) (by decide)) (by omega)
   refine ⟨m, ?_⟩
   rw [Nat.add_comm 1, Nat.pow_succ, Nat.mul_assoc, Nat.mul_comm 2, ← Nat.mul_assoc, ← hm]
   omega
theorem aXA {a b m k : Nat} (h : 2 ^ a * (2 * m + 1) = 2 ^ b * (2 * k + 1)) : a = b := by
 have main : ∀ {a b m k : Nat}, 2 ^ a * (2 * m + 1) = 2 ^ b * (2 * k + 1) → ¬ a < b := fun {a b m k} h hlt => by
  obtain ⟨d, rfl⟩ : ∃ d, b = a + (d + 1) := ⟨b - a - 1, by omega⟩
  rw [Nat.pow_add, Nat.mul_assoc] at h
  have := Nat.eq_of_mul_eq_mul_left (Nat.two_pow_pos a) h
  rw [Nat.pow_succ, Nat.mul_comm (2 ^ d) 2, Nat.mul_assoc] at this
  omega
 have := main h
 have := main h.symm
 omega
theorem aRy {n k m : Nat} (h : n = 2 ^ k * (2 * m + 1)) : tzn n = k := by
 have h0 : n ≠ 0 := by
  intro e
  have := Nat.two_pow_pos k
  have : 0 < 2 ^ k * (2 * m + 1) := Nat.mul_pos this (by omega)
  omega
 obtain ⟨m', hm⟩ := aFp h0
 exact aXA (hm.symm.trans h)
theorem aXB {x : Nat} (k : Nat) (h : x ≠ 0) : tzn (2 ^ k * x) = k + tzn x := by
 obtain ⟨m, hm⟩ := aFp h
 refine aRy (m := m) ?_
 rw [Nat.pow_add, Nat.mul_assoc, ← hm]
theorem aTd {x : Nat} (hx : x < 18446744073709551616) (h : x ≠ 0) : Lib.ctz 64 x = tzn x ∧ tzn x < 64 := by
 obtain ⟨m, hm, hk⟩ := Lib.ctzFrom_spec 64 x (by omega) hx
 have e : Lib.ctz 64 x = Lib.ctzFrom 64 x := by simp [Lib.ctz, h]
 have := aRy hm
 rw [e]; omega
theorem aXC {x q : Nat} (hx : x < 18446744073709551616) (h : x ≠ 0) : tzn (x + 18446744073709551616 * q) = tzn x := by
 obtain ⟨m, hm⟩ := aFp h
 have hk := (aTd hx h).2
 refine aRy (m := m + 2 ^ (63 - tzn x) * q) ?_
 have e : 18446744073709551616 = 2 ^ tzn x * (2 * 2 ^ (63 - tzn x)) := by
  rw [← Nat.mul_assoc, Nat.mul_comm _ 2, ← Nat.pow_succ', ← Nat.pow_add, show tzn x + 1 + (63 - tzn x) = 64 from by omega]
 rw [e]
 generalize tzn x = t at hm
 subst hm
 have h1 : 2 ^ t * (2 * m + 1) + 2 ^ t * (2 * 2 ^ (63 - t)) * q = 2 ^ t * (2 * m + 1 + 2 * (2 ^ (63 - t) * q)) := by
  rw [Nat.mul_add (2 ^ t) (2 * m + 1), Nat.mul_assoc (2 ^ t), Nat.mul_assoc 2]
 rw [h1]
 congr 1; omega
noncomputable def rA (a_0 : (List Nat)) (x7_4 : Int) : Option ((Int) ⊕ ((Unit) ⊕ Int)) :=
 if x7_4 < (a_0.length : Int) then ck (0 ≤ x7_4 ∧ x7_4 < (a_0.length : Int)) (if ¬ ((a_0.getD (x7_4.toNat) (0 : Nat)) = (0 : Nat)) then ck (I64 ((64 : Int) * x7_4)) (ck (I64 (((64 : Int) * x7_4) + (fF (a_0.getD (x7_4.toNat) (0 : Nat))))) (some (.inr (.inr (((64 : Int) * x7_4) + (fF (a_0.getD (x7_4.toNat) (0 : Nat)))))))) else ck (I64 (x7_4 + (1 : Int))) (some (.inl (x7_4 + (1 : Int))))) else some (.inr (.inl ()))
noncomputable def xL (a_0 : (List Nat)) : Option Int :=
 (bO (fun d : Int => rA a_0 d) (0 : Int)).bind (fun e => match e with | (.inl e) => some (-1 : Int) | (.inr e) => some e)
def rB (a : List Nat) : Int := if nv a = 0 then -1 else (tzn (nv a) : Int)
theorem aMe (a : List Nat) (w : (Ty.sl (.u .u64)).wf a) (hp : pSz a) : xL a = some (rB a) := by
 have hl := vM w
 have hs : a.length ≤ 1099511627776 := hp
 unfold xL rB
 have key := gF (step := fun d : Int => rA a d) (I := fun i => 0 ≤ i ∧ i ≤ a.length ∧ nv (a.take i.toNat) = 0) (fun i => (a.length - i).toNat)
   (fun i => if nv a = 0 then (.inl () : Unit ⊕ Int) else .inr (tzn (nv a) : Int)) ?_ 0 ⟨by omega, by omega, rfl⟩
 ·refine aK key ?_
  by_cases e : nv a = 0 <;> simp [e]
 ·intro i ⟨h0, h1, h2⟩
  try dsimp only
  unfold rA
  by_cases hi : i < a.length
  ·have hk : i.toNat < a.length := by omega
   have hd := uW a i.toNat
   rw [h2, Nat.zero_add, Nat.min_eq_left (by omega), List.drop_eq_getElem_cons hk, nZ] at hd
   have hg : a.getD i.toNat 0 = a[i.toNat] := by rw [List.getD_eq_getElem?_getD, List.getElem?_eq_getElem hk]; rfl
   have hx := fE hl i.toNat
   rw [← hg] at hd
   rw [if_pos hi]
   by_cases hz : a.getD i.toNat 0 = 0
   ·left
    refine ⟨i + 1, aB (by constructor <;> omega) ?_, ⟨by omega, by omega, ?_⟩, by omega, rfl⟩
    ·rw [if_neg (by simpa using hz)]
     exact aB (by constructor <;> omega) rfl
    ·rw [show (i + 1).toNat = i.toNat + 1 from by omega, pI hk, h2, hz, Nat.mul_zero]
   ·right
    obtain ⟨c1, c2⟩ := aTd hx hz
    have hne : a.getD i.toNat 0 + 18446744073709551616 * nv (a.drop (i.toNat + 1)) ≠ 0 := by omega
    have ht : tzn (nv a) = 64 * i.toNat + tzn (a.getD i.toNat 0) := by
     rw [hd, uZ, aXB _ hne, aXC hx hz]
    have hn0 : nv a ≠ 0 := by
     rw [hd]
     exact Nat.mul_ne_zero (by rw [uZ]; exact Nat.pos_iff_ne_zero.1 (Nat.two_pow_pos _)) hne
    refine aB (by constructor <;> omega) ?_
    rw [if_pos (by simpa using hz), if_neg hn0, ht]
    unfold fF
    rw [c1]
    refine aB (by constructor <;> omega) (aB (by constructor <;> omega) ?_)
    congr 3; omega
  ·right
   rw [if_neg hi]
   have : nv a = 0 := by rw [show i.toNat = a.length from by omega, List.take_length] at h2; exact h2
   rw [if_pos this]
theorem pJ (b : List Nat) (i : Nat) : nv (b.take (i + 1)) = nv (b.take i) + 18446744073709551616 ^ i * b.getD i 0 := by
 rcases Nat.lt_or_ge i b.length with h | h
 ·exact pI h
 ·rw [List.take_of_length_le (by omega), List.take_of_length_le h, List.getD_eq_getElem?_getD, List.getElem?_eq_none h]
  simp
theorem aVO {a : List Nat} {i v : Nat} (h : i < a.length) : (a.set i v).take (i + 1) = a.take i ++ [v] := by
 rw [take_succ (by rw [List.length_set]; exact h), List.take_set_of_le (Nat.le_refl i), List.getD_eq_getElem?_getD, List.getElem?_set_self h]; rfl
theorem aHg {a : List Nat} {i v : Nat} (h : i < a.length) : nv ((a.set i v).take (i + 1)) = nv (a.take i) + 18446744073709551616 ^ i * v := by
 rw [aVO h, aGx, List.length_take, Nat.min_eq_left (Nat.le_of_lt h)]; simp [nv]
theorem aBX {a b : List Nat} {i : Nat} (h : a.drop i = b.drop i) : a.getD i 0 = b.getD i 0 := by
 have h1 := congrArg (fun l => l.getD 0 0) h
 simpa [List.getD_eq_getElem?_getD, List.getElem?_drop] using h1
theorem wG {a b : List Nat} {i : Nat} (h : a.drop i = b.drop i) : a.drop (i + 1) = b.drop (i + 1) := by
 have h1 := congrArg (List.drop 1) h
 simpa [List.drop_drop] using h1
theorem drop_set {a : List Nat} {i v : Nat} : (a.set i v).drop (i + 1) = a.drop (i + 1) := by
 rw [List.drop_set_of_lt (by omega)]
noncomputable def nF (x22_13 : Int) (out_14 : (List Nat)) (carry_12 : Nat) (x_21 : Nat) : Option ((Nat × Int × (List Nat)) ⊕ (((List Nat)))) :=
 ck (0 ≤ x22_13 ∧ x22_13 < (out_14.length : Int)) (ck ((aAc (out_14.getD (x22_13.toNat) (0 : Nat)) x_21 carry_12)) (ck (0 ≤ x22_13 ∧ x22_13 < (out_14.length : Int)) (ck (I64 (x22_13 + (1 : Int))) (some (.inl ((((gA (out_14.getD (x22_13.toNat) (0 : Nat)) x_21 carry_12).2).1), (x22_13 + (1 : Int)), (out_14.set (x22_13.toNat) ((gA (out_14.getD (x22_13.toNat) (0 : Nat)) x_21 carry_12).1))))))))
noncomputable def nG (a_3 : (List Nat)) (b_4 : (List Nat)) (carry_12 : Nat) (x22_13 : Int) (out_14 : (List Nat)) : Option ((Nat × Int × (List Nat)) ⊕ (((List Nat)))) :=
 if x22_13 < (((((id a_3) ++ ([0] : List Nat)).length) : Nat) : Int) then if x22_13 < (b_4.length : Int) then ck (0 ≤ x22_13 ∧ x22_13 < (b_4.length : Int)) (nF x22_13 out_14 carry_12 (b_4.getD (x22_13.toNat) (0 : Nat))) else if carry_12 = (0 : Nat) then some (.inr out_14) else nF x22_13 out_14 carry_12 (0 : Nat) else some (.inr out_14)
noncomputable def nH (a_3 : (List Nat)) (b_4 : (List Nat)) : Option ((List Nat)) :=
 ck ((aVK a_3)) (ck ((((id a_3).length) + (1 : Nat)) * 8 ≤ 140737488355328) ((bO (fun d : Nat × Int × (List Nat) => nG a_3 b_4 d.1 d.2.1 d.2.2) ((0 : Nat), (0 : Int), ((id a_3) ++ ([0] : List Nat)))).bind (fun e => some (dI e))))
noncomputable def aAg (a_0 : (List Nat)) (b_1 : (List Nat)) : Option (List Nat) :=
 if (a_0.length : Int) < (b_1.length : Int) then nH b_1 a_0 else nH a_0 b_1
def tF (a b : List Nat) : List Nat := lb (nv a + nv b)
structure aHh (a b : List Nat) (c : Nat) (i : Int) (out : List Nat) : Prop where
 i0 : 0 ≤ i
 i1 : i ≤ a.length + 1
 len : out.length = a.length + 1
 lm : Lm out
 c1 : c ≤ 1
 rest : out.drop i.toNat = (a ++ [0]).drop i.toNat
 sum : nv (out.take i.toNat) + 18446744073709551616 ^ i.toNat * c = nv ((a ++ [0]).take i.toNat) + nv (b.take i.toNat)
theorem aVP {P p q r x y c s c' : Nat} (h : p + P * c = q + r) (e : s + 18446744073709551616 * c' = x + y + c) : p + P * s + P * 18446744073709551616 * c' = q + P * x + (r + P * y) := by
 have e2 := congrArg (P * ·) e
 simp only [Nat.mul_add] at e2
 rw [Nat.mul_assoc P 18446744073709551616 c']
 omega
theorem aKy {a b : List Nat} {c : Nat} {i : Int} {out : List Nat} (lb' : Lm b) (h : aHh a b c i out) (hi : i < a.length + 1) : aHh a b ((out.getD i.toNat 0 + b.getD i.toNat 0 + c) / 18446744073709551616) (i + 1) (out.set i.toNat ((out.getD i.toNat 0 + b.getD i.toNat 0 + c) % 18446744073709551616)) := by
 have hx := fE h.lm i.toNat
 have hy := fE lb' i.toNat
 have hc := h.c1
 have h0 := h.i0
 have hl := h.len
 have e1 : (i + 1).toNat = i.toNat + 1 := by omega
 refine ⟨by omega, by omega, by rw [List.length_set]; exact hl, yA h.lm _ (Nat.mod_lt _ (by decide)), by omega, ?_, ?_⟩
 ·rw [e1, drop_set]; exact wG h.rest
 ·rw [e1, aHg (by omega), pJ, pJ b, ← aBX h.rest, Nat.pow_succ]
  exact aVP h.sum (Nat.mod_add_div _ _)
theorem aTe {a b : List Nat} {c : Nat} {i : Int} {out : List Nat} (sa : a.length ≤ 1099511627776) (h : aHh a b c i out) (hi : i < a.length + 1) (y : Nat) : nF i out c y = some (.inl ((out.getD i.toNat 0 + y + c) / 18446744073709551616, i + 1, out.set i.toNat ((out.getD i.toNat 0 + y + c) % 18446744073709551616))) := by
 have h0 := h.i0
 have hl := h.len
 unfold nF gA
 exact aB (by constructor <;> omega) (aB h.c1 (aB (by constructor <;> omega) (aB (by constructor <;> omega) rfl)))
theorem aNs {a b : List Nat} {i : Int} {out : List Nat} (h : aHh a b 0 i out) (hb : (b.length : Int) ≤ i) : nv out = nv a + nv b := by
 have eA : nv (a ++ [0]) = nv a := by rw [aGx]; simp [nv]
 have lA : (a ++ [0]).length = a.length + 1 := by simp
 have h0 := h.i0
 have h1 := h.i1
 have hl := h.len
 have h6 := h.sum
 rw [Nat.mul_zero, Nat.add_zero, List.take_of_length_le (l := b) (by omega)] at h6
 have t1 := uW out i.toNat
 have t2 := uW (a ++ [0]) i.toNat
 rw [Nat.min_eq_left (by omega)] at t1
 rw [Nat.min_eq_left (by omega)] at t2
 rw [t1, h6, h.rest, ← eA, t2]; omega
theorem aRz {a b : List Nat} {c : Nat} {i : Int} {out : List Nat} (la : Lm a) (lb' : Lm b) (hab : b.length ≤ a.length) (h : aHh a b c i out) (hi : ¬ i < a.length + 1) : c = 0 := by
 have eA : nv (a ++ [0]) = nv a := by rw [aGx]; simp [nv]
 have lA : (a ++ [0]).length = a.length + 1 := by simp
 have h1 := h.i1
 have hl := h.len
 have h6 := h.sum
 rw [List.take_of_length_le (l := out) (by omega), List.take_of_length_le (l := a ++ [0]) (by omega), List.take_of_length_le (l := b) (by omega), eA] at h6
 have p1 := kV la
 have p2 := Nat.lt_of_lt_of_le (kV lb') (Nat.pow_le_pow_right (show 0 < 18446744073709551616 by decide) hab)
 rw [show i.toNat = a.length + 1 from by omega, Nat.pow_succ] at h6
 rcases Nat.eq_zero_or_pos c with h | h
 ·exact h
 ·have : 18446744073709551616 ^ a.length * 18446744073709551616 * 1 ≤ 18446744073709551616 ^ a.length * 18446744073709551616 * c := Nat.mul_le_mul_left _ h
  generalize 18446744073709551616 ^ a.length = P at *
  omega
theorem aXD {a b : List Nat} (la : Lm a) (lb' : Lm b) (sa : a.length ≤ 1099511627776) (hab : b.length ≤ a.length) {c : Nat} {i : Int} {out : List Nat} (h : aHh a b c i out) :
  (∃ d' : Nat × Int × List Nat, nG a b c i out = some (.inl d') ∧ aHh a b d'.1 d'.2.1 d'.2.2 ∧ (a.length + 1 - d'.2.1).toNat < (a.length + 1 - i).toNat) ∨ ∃ e, nG a b c i out = some (.inr e) ∧ Lm e ∧ nv e = nv a + nv b := by
 have lA : (id a ++ [0]).length = a.length + 1 := by simp
 have h0 := h.i0
 unfold nG
 rw [lA]
 by_cases hi : i < a.length + 1
 ·rw [if_pos (by omega)]
  by_cases hb : i < b.length
  ·left
   refine ⟨(_, _, _), ?_, aKy lb' h hi, ?_⟩
   ·rw [if_pos hb]
    exact aB (by constructor <;> omega) (aTe sa h hi _)
   ·simp only; omega
  ·rw [if_neg hb]
   have hy0 : b.getD i.toNat 0 = 0 := by rw [List.getD_eq_getElem?_getD, List.getElem?_eq_none (by omega)]; rfl
   by_cases hc : c = 0
   ·right
    subst hc
    exact ⟨out, by rw [if_pos rfl], h.lm, aNs h (by omega)⟩
   ·left
    have hs := aKy lb' h hi
    rw [hy0] at hs
    refine ⟨(_, _, _), ?_, hs, ?_⟩
    ·rw [if_neg hc]; exact aTe sa h hi _
    ·simp only; omega
 ·right
  rw [if_neg (by omega)]
  have hc := aRz la lb' hab h hi
  subst hc
  exact ⟨out, rfl, h.lm, aNs h (by have := h.i1; omega)⟩
theorem aTf {a b : List Nat} (la : Lm a) (lb' : Lm b) (sa : Sz a) (hab : b.length ≤ a.length) : nH a b = some (lb (nv a + nv b)) := by
 have sa : a.length ≤ 1099511627776 := sa
 have key := cV (step := fun d : Nat × Int × (List Nat) => nG a b d.1 d.2.1 d.2.2) (I := fun d => aHh a b d.1 d.2.1 d.2.2) (fun d => (a.length + 1 - d.2.1).toNat)
   (fun e => Lm e ∧ nv e = nv a + nv b) (fun d h => aXD la lb' sa hab h) (0, 0, a ++ [0]) ⟨by simp, by simp; omega, by simp, aVL la (by intro x hx; simp at hx; subst hx; decide), by simp, rfl, by simp [nv]⟩
 obtain ⟨e, h1, h2, h3⟩ := key
 unfold nH
 refine aB (by show a.length * 8 ≤ _; omega) (aB (by show (a.length + 1) * 8 ≤ _; omega) (aK h1 ?_))
 rw [dI, h3]
theorem aOj (a : List Nat) (wa : (Ty.sl (.u .u64)).wf a) (b : List Nat) (wb : (Ty.sl (.u .u64)).wf b) (hp : aRx a b) : aAg a b = some (tF a b) := by
 unfold aAg tF
 refine aBp (fun h => ?_) (fun h => ?_)
 ·rw [aTf (vM wb) (vM wa) hp.2 (by omega), Nat.add_comm]
 ·exact aTf (vM wa) (vM wb) hp.1 (by omega)
end Nu
end Go.Proofs
namespace Go.Proofs
open Go.Vc
set_option maxRecDepth 20000
namespace Nu
theorem aVQ {x y c o : Nat} (hx : x < 18446744073709551616) (hy : y < 18446744073709551616) (hc : c < 18446744073709551616) (ho : o < 18446744073709551616) :
  (o + (x * y % 18446744073709551616 + c + 0) % 18446744073709551616 + 0) % 18446744073709551616 + 18446744073709551616 * (((x * y / 18446744073709551616 + (x * y % 18446744073709551616 + c + 0) / 18446744073709551616) % 18446744073709551616 + (o + (x * y % 18446744073709551616 + c + 0) % 18446744073709551616 + 0) / 18446744073709551616) % 18446744073709551616) = o + x * y + c := by
 have p : x * y ≤ 18446744073709551615 * 18446744073709551615 := Nat.mul_le_mul (by omega) (by omega)
 have e := Nat.div_add_mod (x * y) 18446744073709551616
 have m := Nat.mod_lt (x * y) (show 0 < 18446744073709551616 by decide)
 generalize x * y = z at *
 generalize z / 18446744073709551616 = hi at *
 generalize z % 18446744073709551616 = lo at *
 omega
theorem rR {a : List Nat} (h : Lm a) (k : Nat) : a.getD k 0 = nv a / 18446744073709551616 ^ k % 18446744073709551616 := by
 rw [← aFo h]
 rcases Nat.lt_or_ge k a.length with hk | hk
 ·rw [List.drop_eq_getElem_cons hk, nZ, Nat.add_mul_mod_self_left, List.getD_eq_getElem?_getD, List.getElem?_eq_getElem hk]
  exact (Nat.mod_eq_of_lt (h _ (List.getElem_mem hk))).symm
 ·rw [List.drop_eq_nil_of_le hk, List.getD_eq_getElem?_getD, List.getElem?_eq_none hk]; rfl
theorem aNt {a : List Nat} (h : Lm a) {k : Nat} (hk : nv a < 18446744073709551616 ^ k) : a.getD k 0 = 0 := by
 rw [rR h, Nat.div_eq_of_lt hk]
noncomputable def rC (x22_34 : Int) (b_1 : (List Nat)) (carry_62 : Nat) (out_63 : (List Nat)) : Option ((Int × (List Nat)) ⊕ (((List Nat)))) :=
 ck (I64 (x22_34 + (b_1.length : Int))) (ck (0 ≤ (x22_34 + (b_1.length : Int)) ∧ (x22_34 + (b_1.length : Int)) < (out_63.length : Int)) (ck (I64 (x22_34 + (1 : Int))) (some (.inl ((x22_34 + (1 : Int)), (out_63.set ((x22_34 + (b_1.length : Int)).toNat) carry_62))))))
noncomputable def kX (b_1 : (List Nat)) (a_0 : (List Nat)) (x22_34 : Int) (carry_64 : Nat) (x29_65 : Int) (out_66 : (List Nat)) : Option ((Nat × Int × (List Nat)) ⊕ ((Nat × (List Nat)))) :=
 if x29_65 < (b_1.length : Int) then ck (0 ≤ x29_65 ∧ x29_65 < (b_1.length : Int)) (ck ((aAc (((bG (a_0.getD (x22_34.toNat) (0 : Nat)) (b_1.getD (x29_65.toNat) (0 : Nat))).2).1) carry_64 (0 : Nat))) (ck (I64 (x22_34 + x29_65)) (ck (I64 (x22_34 + x29_65)) (ck (0 ≤ (x22_34 + x29_65) ∧ (x22_34 + x29_65) < (out_66.length : Int)) (ck ((aAc (out_66.getD ((x22_34 + x29_65).toNat) (0 : Nat)) ((gA (((bG (a_0.getD (x22_34.toNat) (0 : Nat)) (b_1.getD (x29_65.toNat) (0 : Nat))).2).1) carry_64 (0 : Nat)).1) (0 : Nat))) (ck (0 ≤ (x22_34 + x29_65) ∧ (x22_34 + x29_65) < (out_66.length : Int)) (ck (I64 (x29_65 + (1 : Int))) (some (.inl (((((((bG (a_0.getD (x22_34.toNat) (0 : Nat)) (b_1.getD (x29_65.toNat) (0 : Nat))).1) + (((gA (((bG (a_0.getD (x22_34.toNat) (0 : Nat)) (b_1.getD (x29_65.toNat) (0 : Nat))).2).1) carry_64 (0 : Nat)).2).1)) % 18446744073709551616) + (((gA (out_66.getD ((x22_34 + x29_65).toNat) (0 : Nat)) ((gA (((bG (a_0.getD (x22_34.toNat) (0 : Nat)) (b_1.getD (x29_65.toNat) (0 : Nat))).2).1) carry_64 (0 : Nat)).1) (0 : Nat)).2).1)) % 18446744073709551616), (x29_65 + (1 : Int)), (out_66.set ((x22_34 + x29_65).toNat) ((gA (out_66.getD ((x22_34 + x29_65).toNat) (0 : Nat)) ((gA (((bG (a_0.getD (x22_34.toNat) (0 : Nat)) (b_1.getD (x29_65.toNat) (0 : Nat))).2).1) carry_64 (0 : Nat)).1) (0 : Nat)).1)))))))))))) else some (.inr (carry_64, out_66))
noncomputable def kY (a_0 : (List Nat)) (b_1 : (List Nat)) (x22_34 : Int) (out_35 : (List Nat)) : Option ((Int × (List Nat)) ⊕ (((List Nat)))) :=
 if x22_34 < (a_0.length : Int) then ck (0 ≤ x22_34 ∧ x22_34 < (a_0.length : Int)) ((bO (fun d : Nat × Int × (List Nat) => kX b_1 a_0 x22_34 d.1 d.2.1 d.2.2) ((0 : Nat), (0 : Int), out_35)).bind (fun e => rC x22_34 b_1 e.1 e.2)) else some (.inr out_35)
noncomputable def xM (a_0 : (List Nat)) (b_1 : (List Nat)) : Option (List Nat) :=
 ck (I64 ((a_0.length : Int) + (b_1.length : Int))) (ck (0 ≤ ((a_0.length : Int) + (b_1.length : Int))) (ck ((8 : Int) * ((a_0.length : Int) + (b_1.length : Int)) ≤ 281474976710656) ((bO (fun d : Int × (List Nat) => kY a_0 b_1 d.1 d.2) ((0 : Int), (List.replicate (((a_0.length : Int) + (b_1.length : Int)).toNat) (0 : Nat)))).bind (fun e => some (dI e)))))
def dF (a b : List Nat) : List Nat := lb (nv a * nv b)
structure aP1 (b : List Nat) (x : Nat) (i : Int) (o0 : List Nat) (c : Nat) (j : Int) (out : List Nat) : Prop where
 j0 : 0 ≤ j
 j1 : j ≤ b.length
 len : out.length = o0.length
 lm : Lm out
 c1 : c < 18446744073709551616
 rest : out.drop (i + j).toNat = o0.drop (i + j).toNat
 sum : nv out + 18446744073709551616 ^ (i + j).toNat * c = nv o0 + 18446744073709551616 ^ i.toNat * x * nv (b.take j.toNat)
theorem aXE {N N' N0 Q R P o v c c' x y t : Nat} (hP : P = Q * R) (h1 : N' + P * o = N + P * v) (h2 : N + P * c = N0 + Q * x * t) (h3 : v + 18446744073709551616 * c' = o + x * y + c) : N' + P * 18446744073709551616 * c' = N0 + Q * x * (t + R * y) := by
 have e := congrArg (P * ·) h3
 simp only [Nat.mul_add] at e
 have e2 : P * (x * y) = Q * x * (R * y) := by
  rw [hP, Nat.mul_assoc, Nat.mul_assoc]; congr 1; rw [Nat.mul_left_comm]
 rw [Nat.mul_add, Nat.mul_assoc P 18446744073709551616 c']
 omega
theorem aT0 {b : List Nat} {x : Nat} {i : Int} {o0 : List Nat} {c : Nat} {j : Int} {out : List Nat} (hx : x < 18446744073709551616) (lb' : Lm b) (hi : 0 ≤ i) (hl : i + b.length ≤ o0.length) (h : aP1 b x i o0 c j out) (hj : j < b.length) {v c' : Nat} (hv : v < 18446744073709551616) (hc' : c' < 18446744073709551616) (e : v + 18446744073709551616 * c' = out.getD (i + j).toNat 0 + x * b.getD j.toNat 0 + c) :
  aP1 b x i o0 c' (j + 1) (out.set (i + j).toNat v) := by
 have h0 := h.j0
 have hlen := h.len
 have e1 : (i + (j + 1)).toNat = (i + j).toNat + 1 := by omega
 have e2 : (j + 1).toNat = j.toNat + 1 := by omega
 refine ⟨by omega, by omega, by rw [List.length_set]; exact hlen, yA h.lm _ hv, hc', ?_, ?_⟩
 ·rw [e1, drop_set]; exact wG h.rest
 ·rw [e1, e2, pJ, Nat.pow_succ]
  exact aXE (R := 18446744073709551616 ^ j.toNat) (by rw [← Nat.pow_add]; congr 1; omega) (aA3 (by omega)) h.sum e
theorem aVR {a b : List Nat} {i : Int} {o0 : List Nat} (hi : 0 ≤ i) (hs : i + b.length ≤ 9000000000000) (hl : i + b.length ≤ o0.length) (la : Lm a) (lb' : Lm b) {c : Nat} {j : Int} {out : List Nat} (h : aP1 b (a.getD i.toNat 0) i o0 c j out) :
  (∃ d' : Nat × Int × List Nat, kX b a i c j out = some (.inl d') ∧ aP1 b (a.getD i.toNat 0) i o0 d'.1 d'.2.1 d'.2.2 ∧ (b.length - d'.2.1).toNat < (b.length - j).toNat) ∨ ∃ e : Nat × List Nat, kX b a i c j out = some (.inr e) ∧ aP1 b (a.getD i.toNat 0) i o0 e.1 b.length e.2 := by
 have h0 := h.j0
 have hlen := h.len
 have h1 := h.j1
 have hx := fE la i.toNat
 have hy := fE lb' j.toNat
 have ho := fE h.lm (i + j).toNat
 unfold kX
 by_cases hj : j < b.length
 ·left
  have key := aVQ hx hy h.c1 ho
  refine ⟨(_, _, _), ?_, aT0 hx lb' hi hl h hj (Nat.mod_lt _ (by decide)) (Nat.mod_lt _ (by decide)) key, ?_⟩
  ·rw [if_pos hj]
   refine aB (by constructor <;> omega) (aB (Nat.zero_le _) (aB (by constructor <;> omega) (aB (by constructor <;> omega) (aB (by constructor <;> omega) (aB (Nat.zero_le _) (aB (by constructor <;> omega) (aB (by constructor <;> omega) ?_)))))))
   simp only [bG, gA]
  ·simp only; omega
 ·right
  refine ⟨(c, out), by rw [if_neg hj], ?_⟩
  have e : j = b.length := by omega
  rw [e] at h
  exact h
structure aVS (a b : List Nat) (i : Int) (out : List Nat) : Prop where
 i0 : 0 ≤ i
 i1 : i ≤ a.length
 len : out.length = a.length + b.length
 lm : Lm out
 sum : nv out = nv (a.take i.toNat) * nv b
theorem aT1 {a b : List Nat} {i : Int} {out : List Nat} (la : Lm a) (lb' : Lm b) (h : aVS a b i out) : nv out < 18446744073709551616 ^ (i.toNat + b.length) := by
 rw [h.sum, Nat.pow_add]
 have h1 := kV (aAC la i.toNat)
 have h2 := kV lb'
 have h3 : (a.take i.toNat).length ≤ i.toNat := by rw [List.length_take]; omega
 have h4 := Nat.lt_of_lt_of_le h1 (Nat.pow_le_pow_right (show 0 < 18446744073709551616 by decide) h3)
 have hp : 0 < 18446744073709551616 ^ b.length := Nat.pow_pos (by decide)
 exact Nat.mul_lt_mul'' h4 h2
theorem aT2 {a b : List Nat} {i : Int} {out : List Nat} (la : Lm a) (lb' : Lm b) (h : aVS a b i out) (hi : i < a.length) {c : Nat} {out' : List Nat} (hj : aP1 b (a.getD i.toNat 0) i out c b.length out') : aVS a b (i + 1) (out'.set (i + b.length).toNat c) := by
 have h0 := h.i0
 have hl := h.len
 have hl' := hj.len
 have e1 : (i + 1).toNat = i.toNat + 1 := by omega
 have e2 : (i + (b.length : Int)).toNat = i.toNat + b.length := by omega
 have hz : out'.getD (i.toNat + b.length) 0 = 0 := by
  have := aBX hj.rest
  rw [e2] at this
  rw [this]
  exact aNt h.lm (aT1 la lb' h)
 refine ⟨by omega, by omega, by rw [List.length_set]; omega, yA hj.lm _ hj.c1, ?_⟩
 have hn := aA3 (a := out') (k := i.toNat + b.length) (v := c) (by omega)
 have hs := hj.sum
 rw [e2] at hs ⊢
 rw [hz, Nat.mul_zero, Nat.add_zero] at hn
 rw [hn, hs, e1, pJ, h.sum, Int.toNat_natCast, List.take_length, Nat.add_mul]
theorem aMf (a : List Nat) (wa : (Ty.sl (.u .u64)).wf a) (b : List Nat) (wb : (Ty.sl (.u .u64)).wf b) (hp : aRx a b) : xM a b = some (dF a b) := by
 have la := vM wa
 have lb' := vM wb
 have sa : a.length ≤ 1099511627776 := hp.1
 have sb : b.length ≤ 1099511627776 := hp.2
 have key := cV (step := fun d : Int × (List Nat) => kY a b d.1 d.2) (I := fun d => aVS a b d.1 d.2) (fun d => (a.length - d.1).toNat) (fun e => nv e = nv a * nv b) ?_ (0, List.replicate (a.length + b.length) 0) ⟨by simp, by simp, by simp, aGz _, by simp [aGy, nv]⟩
 ·obtain ⟨e, h1, h2⟩ := key
  unfold xM dF
  rw [show ((a.length : Int) + (b.length : Int)).toNat = a.length + b.length from by omega]
  refine aB (by constructor <;> omega) (aB (by omega) (aB (by omega) (aK h1 ?_)))
  rw [dI, h2]
 ·rintro ⟨i, out⟩ h
  have h : aVS a b i out := h
  have h0 := h.i0
  have h1 := h.i1
  have hl := h.len
  show (∃ d', kY a b i out = _ ∧ _) ∨ ∃ e, kY a b i out = _ ∧ _
  unfold kY
  by_cases hi : i < a.length
  ·left
   obtain ⟨e, q1, q2⟩ := cV (step := fun d : Nat × Int × (List Nat) => kX b a i d.1 d.2.1 d.2.2) (I := fun d => aP1 b (a.getD i.toNat 0) i out d.1 d.2.1 d.2.2) (fun d => (b.length - d.2.1).toNat) (fun e => aP1 b (a.getD i.toNat 0) i out e.1 b.length e.2)
    (fun d hd => aVR h0 (by omega) (by omega) la lb' hd) (0, 0, out) ⟨by simp, by simp, rfl, h.lm, by simp, rfl, by simp [nv]⟩
   have hlen := q2.len
   refine ⟨(i + 1, e.2.set (i + b.length).toNat e.1), ?_, aT2 la lb' h hi q2, by simp only; omega⟩
   rw [if_pos hi]
   refine aB (by constructor <;> omega) (aK q1 ?_)
   unfold rC
   exact aB (by constructor <;> omega) (aB (by constructor <;> omega) (aB (by constructor <;> omega) rfl))
  ·right
   refine ⟨out, by rw [if_neg hi], ?_⟩
   have := h.sum
   rw [show i.toNat = a.length from by omega, List.take_length] at this
   exact this
end Nu
end Go.Proofs
namespace Go.Proofs
open Go.Vc
set_option maxRecDepth 20000
namespace Nu
theorem aVT {n : Int} (h : 0 ≤ n) : Int.tdiv n 64 = ((n.toNat / 64 : Nat) : Int) ∧ Int.tmod n 64 = ((n.toNat % 64 : Nat) : Int) := by
 obtain ⟨m, rfl⟩ := Int.eq_ofNat_of_zero_le h
 constructor
 ·rw [Int.toNat_natCast]; rfl
 ·rw [Int.toNat_natCast]; rfl
theorem aNu {r : Nat} (h : r < 64) : (((r : Int)) % (18446744073709551616 : Int)).toNat = r ∧ ((63 - (r : Int)) % (18446744073709551616 : Int)).toNat = 63 - r := by omega
theorem aP2 (r : Nat) (h : r ≤ 64) : 2 ^ (64 - r) * 2 ^ r = 18446744073709551616 := by
 rw [← Nat.pow_add, show 64 - r + r = 64 from by omega]
theorem aOk (x r : Nat) (h : r ≤ 64) : x * 2 ^ r % 18446744073709551616 = 2 ^ r * (x % 2 ^ (64 - r)) := by
 rw [← aP2 r h, Nat.mul_comm (2 ^ (64 - r)), Nat.mul_comm x, Nat.mul_mod_mul_left]
theorem aTg (x r : Nat) (h : r ≤ 63) : x * 2 ^ r / 18446744073709551616 = x / 2 / 2 ^ (63 - r) := by
 rw [← aP2 r (by omega), Nat.mul_div_mul_right _ _ (Nat.two_pow_pos r), Nat.div_div_eq_div_mul, ← Nat.pow_succ', show (63 - r).succ = 64 - r from by omega]
theorem aRA {o r t : Nat} (h : o < 2 ^ r) : o ||| 2 ^ r * t = o + 2 ^ r * t := by
 have := Nat.two_pow_add_eq_or_of_lt h t
 rw [Nat.or_comm, ← this, Nat.add_comm]
noncomputable def nI (a_0 : (List Nat)) (n_1 : Int) (x20_7 : Int) (out_8 : (List Nat)) : Option ((Int × (List Nat)) ⊕ (((List Nat)))) :=
 if x20_7 < (a_0.length : Int) then ck (0 ≤ x20_7 ∧ x20_7 < (a_0.length : Int)) (ck (I64 (Int.tdiv n_1 (64 : Int))) (ck (I64 ((Int.tdiv n_1 (64 : Int)) + x20_7)) (ck (0 ≤ ((Int.tdiv n_1 (64 : Int)) + x20_7) ∧ ((Int.tdiv n_1 (64 : Int)) + x20_7) < (out_8.length : Int)) (ck (0 ≤ ((Int.tdiv n_1 (64 : Int)) + x20_7) ∧ ((Int.tdiv n_1 (64 : Int)) + x20_7) < (out_8.length : Int)) (ck (I64 (Int.tdiv n_1 (64 : Int))) (ck (I64 ((Int.tdiv n_1 (64 : Int)) + x20_7)) (ck (I64 (((Int.tdiv n_1 (64 : Int)) + x20_7) + (1 : Int))) (ck (0 ≤ (((Int.tdiv n_1 (64 : Int)) + x20_7) + (1 : Int)) ∧ (((Int.tdiv n_1 (64 : Int)) + x20_7) + (1 : Int)) < ((((out_8.set (((Int.tdiv n_1 (64 : Int)) + x20_7).toNat) ((out_8.getD (((Int.tdiv n_1 (64 : Int)) + x20_7).toNat) (0 : Nat)) ||| (((a_0.getD (x20_7.toNat) (0 : Nat)) * (2 ^ (((Int.tmod n_1 (64 : Int)) % (18446744073709551616 : Int)).toNat))) % 18446744073709551616))).length) : Nat) : Int)) (ck (I64 ((63 : Int) - (Int.tmod n_1 (64 : Int)))) (ck (0 ≤ (((Int.tdiv n_1 (64 : Int)) + x20_7) + (1 : Int)) ∧ (((Int.tdiv n_1 (64 : Int)) + x20_7) + (1 : Int)) < ((((out_8.set (((Int.tdiv n_1 (64 : Int)) + x20_7).toNat) ((out_8.getD (((Int.tdiv n_1 (64 : Int)) + x20_7).toNat) (0 : Nat)) ||| (((a_0.getD (x20_7.toNat) (0 : Nat)) * (2 ^ (((Int.tmod n_1 (64 : Int)) % (18446744073709551616 : Int)).toNat))) % 18446744073709551616))).length) : Nat) : Int)) (ck (I64 (x20_7 + (1 : Int))) (some (.inl ((x20_7 + (1 : Int)), ((out_8.set (((Int.tdiv n_1 (64 : Int)) + x20_7).toNat) ((out_8.getD (((Int.tdiv n_1 (64 : Int)) + x20_7).toNat) (0 : Nat)) ||| (((a_0.getD (x20_7.toNat) (0 : Nat)) * (2 ^ (((Int.tmod n_1 (64 : Int)) % (18446744073709551616 : Int)).toNat))) % 18446744073709551616))).set ((((Int.tdiv n_1 (64 : Int)) + x20_7) + (1 : Int)).toNat) (((out_8.set (((Int.tdiv n_1 (64 : Int)) + x20_7).toNat) ((out_8.getD (((Int.tdiv n_1 (64 : Int)) + x20_7).toNat) (0 : Nat)) ||| (((a_0.getD (x20_7.toNat) (0 : Nat)) * (2 ^ (((Int.tmod n_1 (64 : Int)) % (18446744073709551616 : Int)).toNat))) % 18446744073709551616))).getD ((((Int.tdiv n_1 (64 : Int)) + x20_7) + (1 : Int)).toNat) (0 : Nat)) ||| (((a_0.getD (x20_7.toNat) (0 : Nat)) / (2 : Nat)) / (2 ^ ((((63 : Int) - (Int.tmod n_1 (64 : Int))) % (18446744073709551616 : Int)).toNat))))))))))))))))))) else some (.inr out_8)
noncomputable def aAh (a_0 : (List Nat)) (n_1 : Int) : Option (List Nat) :=
 if (a_0.length : Int) = (0 : Int) then some ([] : List Nat) else ck (I64 (Int.tdiv n_1 (64 : Int))) (ck (I64 ((Int.tdiv n_1 (64 : Int)) + (a_0.length : Int))) (ck (I64 (((Int.tdiv n_1 (64 : Int)) + (a_0.length : Int)) + (1 : Int))) (ck (0 ≤ (((Int.tdiv n_1 (64 : Int)) + (a_0.length : Int)) + (1 : Int))) (ck ((8 : Int) * (((Int.tdiv n_1 (64 : Int)) + (a_0.length : Int)) + (1 : Int)) ≤ 281474976710656) ((bO (fun d : Int × (List Nat) => nI a_0 n_1 d.1 d.2) ((0 : Int), (List.replicate ((((Int.tdiv n_1 (64 : Int)) + (a_0.length : Int)) + (1 : Int)).toNat) (0 : Nat)))).bind (fun e => some (dI e)))))))
abbrev aKz (a : List Nat) (n : Int) : Prop := Sz a ∧ 0 ≤ n ∧ n ≤ 1099511627776
def cF (a : List Nat) (n : Int) : List Nat := lb (nv a * 2 ^ n.toNat)
structure aVU (a : List Nat) (q r : Nat) (i : Int) (out : List Nat) : Prop where
 i0 : 0 ≤ i
 i1 : i ≤ a.length
 len : out.length = q + a.length + 1
 lm : Lm out
 sum : nv out = nv (a.take i.toNat) * (18446744073709551616 ^ q * 2 ^ r)
theorem aVV {a : List Nat} {q r : Nat} {i : Int} {out : List Nat} (la : Lm a) (hr : r < 64) (h : aVU a q r i out) : out.getD (q + i.toNat) 0 < 2 ^ r ∧ out.getD (q + i.toNat + 1) 0 = 0 := by
 have h1 := kV (aAC la i.toNat)
 have h3 : (a.take i.toNat).length ≤ i.toNat := by rw [List.length_take]; omega
 have h4 := Nat.lt_of_lt_of_le h1 (Nat.pow_le_pow_right (show 0 < 18446744073709551616 by decide) h3)
 have hp : 0 < 2 ^ r := Nat.two_pow_pos r
 have h5 : nv out < 18446744073709551616 ^ (q + i.toNat) * 2 ^ r := by
  rw [h.sum, Nat.pow_add, Nat.mul_comm (18446744073709551616 ^ q) (18446744073709551616 ^ i.toNat), Nat.mul_assoc]
  exact Nat.mul_lt_mul_of_pos_right h4 (Nat.mul_pos (Nat.pow_pos (by decide)) hp)
 have h6 : (2 : Nat) ^ r ≤ 18446744073709551616 := by
  have := Nat.pow_le_pow_right (n := 2) (by omega) (show r ≤ 64 by omega)
  exact this
 constructor
 ·rw [rR h.lm]
  refine Nat.lt_of_le_of_lt (Nat.mod_le _ _) ?_
  exact (Nat.div_lt_iff_lt_mul (Nat.pow_pos (by decide))).2 (by rw [Nat.mul_comm]; exact h5)
 ·refine aNt h.lm (Nat.lt_of_lt_of_le h5 ?_)
  rw [Nat.pow_succ]
  exact Nat.mul_le_mul_left _ h6
theorem aXF {N N1 N2 P P' Q x lo hi o T R : Nat} (h1 : N1 + P * o = N + P * (o + lo)) (h2 : N2 = N1 + P * 18446744073709551616 * hi) (h3 : lo + 18446744073709551616 * hi = x * R) (hN : N = T * (P' * R)) (hP : P = P' * Q) : N2 = (T + Q * x) * (P' * R) := by
 have e := congrArg (P * ·) h3
 simp only [Nat.mul_add] at e h1
 have e2 : P * (x * R) = Q * x * (P' * R) := by
  rw [hP, Nat.mul_comm P' Q, Nat.mul_assoc, Nat.mul_assoc]; congr 1; rw [Nat.mul_left_comm]
 rw [Nat.add_mul, ← e2, h2, ← hN, Nat.mul_assoc P 18446744073709551616 hi]
 omega
theorem aT3 {a : List Nat} {q r : Nat} {i : Int} {out : List Nat} (la : Lm a) (hr : r < 64) (h : aVU a q r i out) (hi : i < a.length) :
  aVU a q r (i + 1) ((out.set (q + i.toNat) (out.getD (q + i.toNat) 0 ||| a.getD i.toNat 0 * 2 ^ r % 18446744073709551616)).set (q + i.toNat + 1) ((out.set (q + i.toNat) (out.getD (q + i.toNat) 0 ||| a.getD i.toNat 0 * 2 ^ r % 18446744073709551616)).getD (q + i.toNat + 1) 0 ||| a.getD i.toNat 0 / 2 / 2 ^ (63 - r))) := by
 have h0 := h.i0
 have hlen := h.len
 obtain ⟨l1, l2⟩ := aVV la hr h
 have hx := fE la i.toNat
 have hg : ∀ v, (out.set (q + i.toNat) v).getD (q + i.toNat + 1) 0 = 0 := fun v => by
  refine Eq.trans ?_ l2
  rw [List.getD_eq_getElem?_getD, List.getElem?_set_ne (by omega), ← List.getD_eq_getElem?_getD]
 rw [hg, Nat.zero_or, aOk _ _ (by omega), aRA l1, ← aTg _ _ (by omega)]
 have hlo : 2 ^ r * (a.getD i.toNat 0 % 2 ^ (64 - r)) + 18446744073709551616 * (a.getD i.toNat 0 * 2 ^ r / 18446744073709551616) = a.getD i.toNat 0 * 2 ^ r := by
  rw [← aOk _ _ (by omega)]; exact Nat.mod_add_div _ _
 have hv1 : out.getD (q + i.toNat) 0 + 2 ^ r * (a.getD i.toNat 0 % 2 ^ (64 - r)) < 18446744073709551616 := by
  have hm : a.getD i.toNat 0 % 2 ^ (64 - r) + 1 ≤ 2 ^ (64 - r) := Nat.mod_lt _ (Nat.two_pow_pos _)
  have := Nat.mul_le_mul_left (2 ^ r) hm
  rw [Nat.mul_comm (2 ^ r) (2 ^ (64 - r)), aP2 r (by omega), Nat.mul_add] at this
  omega
 have hv2 : a.getD i.toNat 0 * 2 ^ r / 18446744073709551616 < 18446744073709551616 := by
  have := Nat.div_le_self (a.getD i.toNat 0 / 2) (2 ^ (63 - r))
  rw [aTg _ _ (by omega)]; omega
 have e1 : (i + 1).toNat = i.toNat + 1 := by omega
 refine ⟨by omega, by omega, by rw [List.length_set, List.length_set]; exact hlen, yA (yA h.lm _ hv1) _ hv2, ?_⟩
 have n1 := aA3 (a := out) (k := q + i.toNat) (v := out.getD (q + i.toNat) 0 + 2 ^ r * (a.getD i.toNat 0 % 2 ^ (64 - r))) (by omega)
 have n2 := aA3 (a := out.set (q + i.toNat) (out.getD (q + i.toNat) 0 + 2 ^ r * (a.getD i.toNat 0 % 2 ^ (64 - r)))) (k := q + i.toNat + 1) (v := a.getD i.toNat 0 * 2 ^ r / 18446744073709551616) (by rw [List.length_set]; omega)
 rw [hg, Nat.mul_zero, Nat.add_zero, Nat.pow_succ] at n2
 rw [e1, pJ]
 exact aXF n1 n2 hlo h.sum (Nat.pow_add _ _ _)
theorem aNv (n : Nat) : 18446744073709551616 ^ (n / 64) * 2 ^ (n % 64) = 2 ^ n := by
 rw [uZ, ← Nat.pow_add]; congr 1; omega
theorem aOl (a : List Nat) (wa : (Ty.sl (.u .u64)).wf a) (n : Int) (wn : (Ty.i .i64).wf n) (hp : aKz a n) : aAh a n = some (cF a n) := by
 have la := vM wa
 obtain ⟨sa, n0, n1⟩ := hp
 have sa : a.length ≤ 1099511627776 := sa
 obtain ⟨d1, d2⟩ := aVT n0
 have hr : n.toNat % 64 < 64 := Nat.mod_lt _ (by decide)
 have hq : n.toNat / 64 ≤ 1099511627776 := by omega
 have hps := aNv n.toNat
 obtain ⟨u1, u2⟩ := aNu hr
 unfold aAh cF
 rw [d1]
 refine aBp (fun h => ?_) (fun h => ?_)
 ·have e : a = [] := List.eq_nil_of_length_eq_zero (by omega)
  subst e; rw [aGu, Nat.zero_mul, oA]
 ·rw [← hps]
  generalize n.toNat / 64 = q at *
  generalize n.toNat % 64 = r at *
  have key := cV (step := fun d : Int × (List Nat) => nI a n d.1 d.2) (I := fun d => aVU a q r d.1 d.2) (fun d => (a.length - d.1).toNat) (fun e => nv e = nv a * (18446744073709551616 ^ q * 2 ^ r)) ?_ (0, List.replicate (q + a.length + 1) 0) ⟨by simp, by simp, by simp, aGz _, by simp [aGy, nv]⟩
  ·obtain ⟨e, h1, h2⟩ := key
   rw [show ((q : Int) + (a.length : Int) + 1).toNat = q + a.length + 1 from by omega]
   refine aB (by constructor <;> omega) (aB (by constructor <;> omega) (aB (by constructor <;> omega) (aB (by omega) (aB (by omega) (aK h1 ?_)))))
   rw [dI, h2]
  ·rintro ⟨i, out⟩ h
   have h : aVU a q r i out := h
   have h0 := h.i0
   have h1 := h.i1
   have hl := h.len
   show (∃ d', nI a n i out = _ ∧ _) ∨ ∃ e, nI a n i out = _ ∧ _
   unfold nI
   rw [d1, d2, u1, u2, show ((q : Int) + i).toNat = q + i.toNat from by omega, show ((q : Int) + i + 1).toNat = q + i.toNat + 1 from by omega]
   by_cases hi : i < a.length
   ·left
    refine ⟨(_, _), ?_, aT3 la hr h hi, by simp only; omega⟩
    rw [if_pos hi]
    simp only [List.length_set]
    refine aB (by constructor <;> omega) (aB (by constructor <;> omega) (aB (by constructor <;> omega) (aB (by constructor <;> omega) (aB (by constructor <;> omega) (aB (by constructor <;> omega) (aB (by constructor <;> omega) (aB (by constructor <;> omega) (aB (by constructor <;> omega) (aB (by constructor <;> omega) (aB (by constructor <;> omega) (aB (by constructor <;> omega) rfl)))))))))))
   ·right
    refine ⟨out, by rw [if_neg hi], ?_⟩
    have := h.sum
    rw [show i.toNat = a.length from by omega, List.take_length] at this
    exact this
noncomputable def kZ (n_1 : Int) (a_0 : (List Nat)) (x22_10 : Int) (out_11 : (List Nat)) : Option ((Int × (List Nat)) ⊕ (((List Nat)))) :=
 if x22_10 < ((((List.drop ((Int.tdiv n_1 (64 : Int)).toNat) a_0).length) : Nat) : Int) then ck (0 ≤ x22_10 ∧ x22_10 < ((((List.drop ((Int.tdiv n_1 (64 : Int)).toNat) a_0).length) : Nat) : Int)) (ck (0 ≤ x22_10 ∧ x22_10 < (out_11.length : Int)) (ck (I64 (x22_10 + (1 : Int))) (if (x22_10 + (1 : Int)) < ((((List.drop ((Int.tdiv n_1 (64 : Int)).toNat) a_0).length) : Nat) : Int) then ck (0 ≤ x22_10 ∧ x22_10 < ((((out_11.set (x22_10.toNat) (((List.drop ((Int.tdiv n_1 (64 : Int)).toNat) a_0).getD (x22_10.toNat) (0 : Nat)) / (2 ^ (((Int.tmod n_1 (64 : Int)) % (18446744073709551616 : Int)).toNat)))).length) : Nat) : Int)) (ck (I64 (x22_10 + (1 : Int))) (ck (0 ≤ (x22_10 + (1 : Int)) ∧ (x22_10 + (1 : Int)) < ((((List.drop ((Int.tdiv n_1 (64 : Int)).toNat) a_0).length) : Nat) : Int)) (ck (I64 ((63 : Int) - (Int.tmod n_1 (64 : Int)))) (ck (0 ≤ x22_10 ∧ x22_10 < ((((out_11.set (x22_10.toNat) (((List.drop ((Int.tdiv n_1 (64 : Int)).toNat) a_0).getD (x22_10.toNat) (0 : Nat)) / (2 ^ (((Int.tmod n_1 (64 : Int)) % (18446744073709551616 : Int)).toNat)))).length) : Nat) : Int)) (ck (I64 (x22_10 + (1 : Int))) (some (.inl ((x22_10 + (1 : Int)), ((out_11.set (x22_10.toNat) (((List.drop ((Int.tdiv n_1 (64 : Int)).toNat) a_0).getD (x22_10.toNat) (0 : Nat)) / (2 ^ (((Int.tmod n_1 (64 : Int)) % (18446744073709551616 : Int)).toNat)))).set (x22_10.toNat) (((out_11.set (x22_10.toNat) (((List.drop ((Int.tdiv n_1 (64 : Int)).toNat) a_0).getD (x22_10.toNat) (0 : Nat)) / (2 ^ (((Int.tmod n_1 (64 : Int)) % (18446744073709551616 : Int)).toNat)))).getD (x22_10.toNat) (0 : Nat)) ||| ((((((List.drop ((Int.tdiv n_1 (64 : Int)).toNat) a_0).getD ((x22_10 + (1 : Int)).toNat) (0 : Nat)) * (2 : Nat)) % 18446744073709551616) * (2 ^ ((((63 : Int) - (Int.tmod n_1 (64 : Int))) % (18446744073709551616 : Int)).toNat))) % 18446744073709551616))))))))))) else ck (I64 (x22_10 + (1 : Int))) (some (.inl ((x22_10 + (1 : Int)), (out_11.set (x22_10.toNat) (((List.drop ((Int.tdiv n_1 (64 : Int)).toNat) a_0).getD (x22_10.toNat) (0 : Nat)) / (2 ^ (((Int.tmod n_1 (64 : Int)) % (18446744073709551616 : Int)).toNat)))))))))) else some (.inr out_11)
noncomputable def xN (a_0 : (List Nat)) (n_1 : Int) : Option (List Nat) :=
 ck (I64 (Int.tdiv n_1 (64 : Int))) (if (a_0.length : Int) ≤ (Int.tdiv n_1 (64 : Int)) then some ([] : List Nat) else ck (I64 (Int.tdiv n_1 (64 : Int))) (ck (0 ≤ (Int.tdiv n_1 (64 : Int)) ∧ (Int.tdiv n_1 (64 : Int)) ≤ (a_0.length : Int)) (ck (0 ≤ ((((List.drop ((Int.tdiv n_1 (64 : Int)).toNat) a_0).length) : Nat) : Int)) (ck ((8 : Int) * ((((List.drop ((Int.tdiv n_1 (64 : Int)).toNat) a_0).length) : Nat) : Int) ≤ 281474976710656) ((bO (fun d : Int × (List Nat) => kZ n_1 a_0 d.1 d.2) ((0 : Int), (List.replicate ((List.drop ((Int.tdiv n_1 (64 : Int)).toNat) a_0).length) (0 : Nat)))).bind (fun e => some (dI e)))))))
abbrev aOm (a : List Nat) (n : Int) : Prop := Sz a ∧ 0 ≤ n
def gR (a : List Nat) (n : Int) : List Nat := lb (nv a / 2 ^ n.toNat)
structure aXG (a : List Nat) (r : Nat) (i : Int) (out : List Nat) : Prop where
 i0 : 0 ≤ i
 i1 : i ≤ a.length
 len : out.length = a.length
 lm : Lm out
 sum : nv (out.take i.toNat) = nv a / 2 ^ r % 18446744073709551616 ^ i.toNat
theorem aXH {w s r o : Nat} (ho : o < 2 ^ s) : (o + 2 ^ s * w) % (2 ^ s * 2 ^ r) = o + 2 ^ s * (w % 2 ^ r) := by
 rw [Nat.mod_mul, Nat.add_mul_mod_self_left, Nat.mod_eq_of_lt ho, Nat.add_mul_div_left _ _ (Nat.two_pow_pos s), Nat.div_eq_of_lt ho, Nat.zero_add]
theorem aVW {x y z r : Nat} (hx : x < 18446744073709551616) (hr : r < 64) : (x + 18446744073709551616 * (y + 18446744073709551616 * z)) / 2 ^ r % 18446744073709551616 = x / 2 ^ r ||| y * 2 % 18446744073709551616 * 2 ^ (63 - r) % 18446744073709551616 := by
 have e0 : y * 2 % 18446744073709551616 * 2 ^ (63 - r) % 18446744073709551616 = 2 ^ (64 - r) * (y % 2 ^ r) := by
  rw [Nat.mul_mod (y * 2 % 18446744073709551616), Nat.mod_mod, ← Nat.mul_mod, Nat.mul_assoc, ← Nat.pow_succ', show (63 - r).succ = 64 - r from by omega, aOk _ _ (by omega), show 64 - (64 - r) = r from by omega]
 have hB := aP2 r (by omega)
 have ho : x / 2 ^ r < 2 ^ (64 - r) := (Nat.div_lt_iff_lt_mul (Nat.two_pow_pos r)).2 (by rw [hB]; exact hx)
 have hd : (x + 18446744073709551616 * (y + 18446744073709551616 * z)) / 2 ^ r = x / 2 ^ r + 2 ^ (64 - r) * (y + 18446744073709551616 * z) := by
  rw [show 18446744073709551616 * (y + 18446744073709551616 * z) = 2 ^ r * (2 ^ (64 - r) * (y + 18446744073709551616 * z)) from by rw [← Nat.mul_assoc, Nat.mul_comm (2 ^ r), hB], Nat.add_mul_div_left _ _ (Nat.two_pow_pos r)]
 have hm : (y + 18446744073709551616 * z) % 2 ^ r = y % 2 ^ r := by
  rw [show 18446744073709551616 * z = 2 ^ r * (2 ^ (64 - r) * z) from by rw [← Nat.mul_assoc, Nat.mul_comm (2 ^ r), hB], Nat.add_mul_mod_self_left]
 rw [e0, aRA ho, hd]
 have := aXH (w := y + 18446744073709551616 * z) (r := r) ho
 rw [hB, hm] at this
 exact this
theorem aT4 {a : List Nat} {r : Nat} {i : Int} {out : List Nat} (la : Lm a) (hr : r < 64) (h : aXG a r i out) (hi : i < a.length) :
  aXG a r (i + 1) (out.set i.toNat (a.getD i.toNat 0 / 2 ^ r ||| a.getD (i.toNat + 1) 0 * 2 % 18446744073709551616 * 2 ^ (63 - r) % 18446744073709551616)) := by
 have h0 := h.i0
 have hlen := h.len
 have hk : i.toNat < a.length := by omega
 have e1 : (i + 1).toNat = i.toNat + 1 := by omega
 have hx := fE la i.toNat
 obtain ⟨z, hz⟩ : ∃ z, nv (a.drop (i.toNat + 1)) = a.getD (i.toNat + 1) 0 + 18446744073709551616 * z := by
  rcases Nat.lt_or_ge (i.toNat + 1) a.length with hl | hl
  ·refine ⟨nv (a.drop (i.toNat + 1 + 1)), ?_⟩
   rw [List.drop_eq_getElem_cons hl, nZ, List.getD_eq_getElem?_getD, List.getElem?_eq_getElem hl]; rfl
  ·refine ⟨0, ?_⟩
   rw [List.drop_eq_nil_of_le hl, List.getD_eq_getElem?_getD, List.getElem?_eq_none hl]; rfl
 have hd : nv (a.drop i.toNat) = a.getD i.toNat 0 + 18446744073709551616 * (a.getD (i.toNat + 1) 0 + 18446744073709551616 * z) := by
  have hg : a.getD i.toNat 0 = a[i.toNat] := by rw [List.getD_eq_getElem?_getD, List.getElem?_eq_getElem hk]; rfl
  rw [List.drop_eq_getElem_cons hk, nZ, hz, hg]
 have key : a.getD i.toNat 0 / 2 ^ r ||| a.getD (i.toNat + 1) 0 * 2 % 18446744073709551616 * 2 ^ (63 - r) % 18446744073709551616 = nv a / 2 ^ r / 18446744073709551616 ^ i.toNat % 18446744073709551616 := by
  rw [← aVW (z := z) hx hr, ← hd, aFo la, Nat.div_div_eq_div_mul, Nat.div_div_eq_div_mul, Nat.mul_comm (18446744073709551616 ^ i.toNat)]
 rw [key]
 refine ⟨by omega, by omega, by rw [List.length_set]; exact hlen, yA h.lm _ (Nat.mod_lt _ (by decide)), ?_⟩
 rw [e1, aHg (by omega), h.sum, Nat.pow_succ, Nat.mod_mul]
theorem aMg (a : List Nat) (wa : (Ty.sl (.u .u64)).wf a) (n : Int) (wn : (Ty.i .i64).wf n) (hp : aOm a n) : xN a n = some (gR a n) := by
 have la := vM wa
 obtain ⟨sa, n0⟩ := hp
 have sa : a.length ≤ 1099511627776 := sa
 obtain ⟨w1, w2⟩ := wf_i64 wn
 obtain ⟨d1, d2⟩ := aVT n0
 have hr : n.toNat % 64 < 64 := Nat.mod_lt _ (by decide)
 have hq : n.toNat / 64 ≤ 9223372036854775807 := by omega
 have hps := aNv n.toNat
 obtain ⟨u1, u2⟩ := aNu hr
 unfold xN gR
 rw [d1]
 refine aB (by constructor <;> omega) (aBp (fun h => ?_) (fun h => ?_))
 ·have : nv a / 2 ^ n.toNat = 0 := by
   refine Nat.div_eq_of_lt (Nat.lt_of_lt_of_le (kV la) ?_)
   rw [← hps]
   exact Nat.le_trans (Nat.pow_le_pow_right (by decide) (by omega)) (Nat.le_mul_of_pos_right _ (Nat.two_pow_pos _))
  rw [this, oA]
 ·rw [← hps, ← Nat.div_div_eq_div_mul, ← aFo la]
  generalize n.toNat / 64 = q at *
  generalize n.toNat % 64 = r at *
  rw [Int.toNat_natCast]
  have lA := aXt la q
  have hA : (a.drop q).length = a.length - q := List.length_drop
  have key := cV (step := fun d : Int × (List Nat) => kZ n a d.1 d.2) (I := fun d => aXG (a.drop q) r d.1 d.2) (fun d => ((a.drop q).length - d.1).toNat) (fun e => nv e = nv (a.drop q) / 2 ^ r) ?_ (0, List.replicate (a.drop q).length 0) ⟨by simp, by simp, by simp, aGz _, by simp [nv, Nat.mod_one]⟩
  ·obtain ⟨e, h1, h2⟩ := key
   refine aB (by constructor <;> omega) (aB (by constructor <;> omega) (aB (by omega) (aB (by omega) (aK h1 ?_))))
   rw [dI, h2]
  ·rintro ⟨i, out⟩ h
   have h : aXG (a.drop q) r i out := h
   have h0 := h.i0
   have h1 := h.i1
   have hl := h.len
   show (∃ d', kZ n a i out = _ ∧ _) ∨ ∃ e, kZ n a i out = _ ∧ _
   unfold kZ
   rw [d1, d2, u1, u2, Int.toNat_natCast]
   generalize a.drop q = A at *
   by_cases hi : i < A.length
   ·left
    have hs := aT4 lA hr h hi
    rw [if_pos hi]
    by_cases hi2 : i + 1 < A.length
    ·refine ⟨(_, _), ?_, hs, by simp only; omega⟩
     rw [if_pos hi2]
     simp only [List.length_set]
     refine aB (by constructor <;> omega) (aB (by constructor <;> omega) (aB (by constructor <;> omega) (aB (by constructor <;> omega) (aB (by constructor <;> omega) (aB (by constructor <;> omega) (aB (by constructor <;> omega) (aB (by constructor <;> omega) (aB (by constructor <;> omega) ?_))))))))
     rw [show (i + 1).toNat = i.toNat + 1 from by omega, List.set_set, List.getD_eq_getElem?_getD (l := out.set _ _), List.getElem?_set_self (by omega)]
     rfl
    ·have hy : A.getD (i.toNat + 1) 0 = 0 := by rw [List.getD_eq_getElem?_getD, List.getElem?_eq_none (by omega)]; rfl
     rw [hy] at hs
     simp only [Nat.zero_mul, Nat.zero_mod, Nat.or_zero] at hs
     refine ⟨(_, _), ?_, hs, by simp only; omega⟩
     rw [if_neg hi2]
     exact aB (by constructor <;> omega) (aB (by constructor <;> omega) (aB (by constructor <;> omega) (aB (by constructor <;> omega) rfl)))
   ·right
    refine ⟨out, by rw [if_neg hi], ?_⟩
    have := h.sum
    rw [show i.toNat = A.length from by omega, List.take_of_length_le (by omega)] at this
    rw [this]
    exact Nat.mod_eq_of_lt (Nat.lt_of_le_of_lt (Nat.div_le_self _ _) (kV lA))
end Nu
end Go.Proofs
namespace Go.Proofs
open Go.Vc
set_option maxRecDepth 20000
namespace Nu
theorem aY5 {N M : Nat} (h : M ≤ N) (hl : N - M < 18446744073709551616) : pW .u64 (N % 18446744073709551616) (M % 18446744073709551616) = N - M := by
 rw [aJk, aTa]; omega
structure DI (V u u1 q r : Nat) : Prop where
 lo : 9223372036854775808 ≤ V
 hi : V < 18446744073709551616
 uV : u < V
 ul : u1 < 4294967296
 eq : q * (V / 4294967296) + r = u
 ge : (u * 4294967296 + u1) / V ≤ q
 r1 : r < 4294967296
theorem aY6 {V u u1 q r : Nat} (h : DI V u u1 q r) : q * V + r * 4294967296 = u * 4294967296 + q * (V % 4294967296) := by
 have e := Nat.div_add_mod V 4294967296
 have := h.eq
 generalize V / 4294967296 = v1 at *
 generalize V % 4294967296 = v0 at *
 subst e
 subst this
 rw [Nat.mul_add, Nat.add_mul, Nat.mul_left_comm]
 rw [Nat.mul_comm 4294967296]
 omega
theorem aVX {V u u1 q r : Nat} (h : DI V u u1 q r) : (u * 4294967296 + u1) / V < 4294967296 := by
 have h1 := h.uV
 have h2 := h.ul
 refine (Nat.div_lt_iff_lt_mul (by have := h.lo; omega)).2 ?_
 omega
theorem aJz {V u u1 q r : Nat} (h : DI V u u1 q r) : (4294967296 ≤ q ∨ (jU .u64 4294967296 r + u1) % 18446744073709551616 < jU .u64 q (V % 4294967296)) ↔ (u * 4294967296 + u1) / V < q := by
 have hs := aVX h
 have hm := aY6 h
 have h1 := h.r1
 have h2 := h.ul
 have hV := h.lo
 rcases Nat.lt_or_ge q 4294967296 with hq | hq
 ·have hv : V % 4294967296 ≤ 4294967295 := by omega
  have p : q * (V % 4294967296) ≤ 4294967295 * 4294967295 := Nat.mul_le_mul (by omega) hv
  rw [aHf, aHf, Nat.div_lt_iff_lt_mul (by omega)]
  rw [Nat.mod_eq_of_lt (a := q * (V % 4294967296)) (by omega)]
  generalize q * (V % 4294967296) = C at *
  generalize q * V = D at *
  constructor
  ·rintro (h | h)
   ·omega
   ·omega
  ·intro h; right; omega
 ·exact ⟨fun _ => by omega, fun _ => .inl hq⟩
theorem aVY {V u u1 q r : Nat} (h : DI V u u1 q r) (hc : (u * 4294967296 + u1) / V < q) : (r + V / 4294967296) % 18446744073709551616 = r + V / 4294967296 ∧ pW .u64 q 1 = q - 1 ∧ (4294967296 ≤ r + V / 4294967296 → q - 1 = (u * 4294967296 + u1) / V) ∧ (r + V / 4294967296 < 4294967296 → DI V u u1 (q - 1) (r + V / 4294967296)) := by
 have h1 := h.r1
 have h2 := h.hi
 have h3 := h.lo
 have he := h.eq
 have hu := h.uV
 have hul := h.ul
 have hQ := Nat.zero_le ((u * 4294967296 + u1) / V)
 obtain ⟨p, rfl⟩ : ∃ p, q = p + 1 := ⟨q - 1, by omega⟩
 have he' : p * (V / 4294967296) + (r + V / 4294967296) = u := by rw [Nat.add_mul] at he; omega
 have hqV : (p + 1) * (V / 4294967296) < 18446744073709551616 := by omega
 have hpB : p + 1 < 18446744073709551616 := by
  have : (p + 1) * 1 ≤ (p + 1) * (V / 4294967296) := Nat.mul_le_mul_left _ (by omega)
  omega
 refine ⟨by omega, aPV hpB (by omega), fun hr => ?_, fun hr => ⟨h3, h2, hu, hul, he', by omega, hr⟩⟩
 simp only [Nat.add_sub_cancel]
 refine Nat.le_antisymm ?_ (by omega)
 refine (Nat.le_div_iff_mul_le (by omega)).2 ?_
 have ev := Nat.div_add_mod V 4294967296
 have hv0 : V % 4294967296 ≤ 4294967295 := by omega
 generalize V / 4294967296 = v1 at *
 generalize V % 4294967296 = v0 at *
 have hp : p ≤ 4294967295 := by
  rcases Nat.lt_or_ge p 4294967296 with hh | hh
  ·omega
  ·have := Nat.mul_le_mul_right v1 hh
   omega
 have hC : p * v0 ≤ 4294967295 * 4294967295 := Nat.mul_le_mul hp hv0
 rw [← ev, Nat.mul_add, Nat.mul_left_comm]
 generalize p * v1 = A at *
 generalize p * v0 = C at *
 omega
theorem aP3 {V u u1 : Nat} (h1 : 9223372036854775808 ≤ V) (h2 : V < 18446744073709551616) (h3 : u < V) (h4 : u1 < 4294967296) : pW .u64 u (jU .u64 (u / (V / 4294967296)) (V / 4294967296)) = u % (V / 4294967296) ∧ DI V u u1 (u / (V / 4294967296)) (u % (V / 4294967296)) := by
 have e := Nat.div_add_mod u (V / 4294967296)
 have m := Nat.mod_lt u (show 0 < V / 4294967296 by omega)
 have hle : (V / 4294967296) * (u / (V / 4294967296)) ≤ u := by omega
 constructor
 ·rw [aHf, Nat.mul_comm, Nat.mod_eq_of_lt (show (V / 4294967296) * (u / (V / 4294967296)) < 18446744073709551616 by omega), aPV (by omega) hle]
  omega
 ·refine ⟨h1, h2, h3, h4, by rw [Nat.mul_comm]; omega, ?_, by omega⟩
  refine (Nat.le_div_iff_mul_le (by omega)).2 ?_
  have e2 := Nat.div_add_mod V 4294967296
  have d := Nat.div_mul_le_self (u * 4294967296 + u1) V
  generalize (u * 4294967296 + u1) / V = Q at *
  generalize V / 4294967296 = v1 at *
  have : Q * V = Q * v1 * 4294967296 + Q * (V % 4294967296) := by
   conv => lhs; rw [← e2]
   rw [Nat.mul_add, Nat.mul_left_comm, Nat.mul_comm 4294967296]
  generalize Q * V = D at *
  generalize Q * v1 = F at *
  generalize Q * (V % 4294967296) = G at *
  omega
abbrev yR (hi lo y : Nat) : Prop := hi < y
def jW (hi lo y : Nat) : Nat × Nat × Unit := ((hi * 18446744073709551616 + lo) / y, (hi * 18446744073709551616 + lo) % y, ())
noncomputable def pY (x15_8 : Nat) (hi_0 : Nat) (y_2 : Nat) (lo_1 : Nat) (x18_13 : Nat) : Option ((Nat × (Nat × Unit))) :=
 some ((((jU .u64 x15_8 (4294967296 : Nat)) + x18_13) % 18446744073709551616), ((pW .u64 (((jU .u64 (pW .u64 (((jU .u64 (((hi_0 * (2 ^ (((aC y_2) % (18446744073709551616 : Int)).toNat))) % 18446744073709551616) ||| (lo_1 / (2 ^ (pW .u64 (64 : Nat) (((aC y_2) % (18446744073709551616 : Int)).toNat))))) (4294967296 : Nat)) + (((lo_1 * (2 ^ (((aC y_2) % (18446744073709551616 : Int)).toNat))) % 18446744073709551616) / (4294967296 : Nat))) % 18446744073709551616) (jU .u64 x15_8 ((y_2 * (2 ^ (((aC y_2) % (18446744073709551616 : Int)).toNat))) % 18446744073709551616))) (4294967296 : Nat)) + (((lo_1 * (2 ^ (((aC y_2) % (18446744073709551616 : Int)).toNat))) % 18446744073709551616) &&& (4294967295 : Nat))) % 18446744073709551616) (jU .u64 x18_13 ((y_2 * (2 ^ (((aC y_2) % (18446744073709551616 : Int)).toNat))) % 18446744073709551616))) / (2 ^ (((aC y_2) % (18446744073709551616 : Int)).toNat))), ())
noncomputable def gG (lo_1 : Nat) (y_2 : Nat) (rhat_14 : Nat) (x18_15 : Nat) : Option ((Nat × Nat) ⊕ ((Nat))) :=
 if ((4294967296 : Nat) ≤ x18_15) ∨ ((((jU .u64 (4294967296 : Nat) rhat_14) + (((lo_1 * (2 ^ (((aC y_2) % (18446744073709551616 : Int)).toNat))) % 18446744073709551616) &&& (4294967295 : Nat))) % 18446744073709551616) < (jU .u64 x18_15 (((y_2 * (2 ^ (((aC y_2) % (18446744073709551616 : Int)).toNat))) % 18446744073709551616) &&& (4294967295 : Nat)))) then if (4294967296 : Nat) ≤ ((rhat_14 + (((y_2 * (2 ^ (((aC y_2) % (18446744073709551616 : Int)).toNat))) % 18446744073709551616) / (4294967296 : Nat))) % 18446744073709551616) then some (.inr (pW .u64 x18_15 (1 : Nat))) else some (.inl (((rhat_14 + (((y_2 * (2 ^ (((aC y_2) % (18446744073709551616 : Int)).toNat))) % 18446744073709551616) / (4294967296 : Nat))) % 18446744073709551616), (pW .u64 x18_15 (1 : Nat)))) else some (.inr x18_15)
noncomputable def pZ (y_2 : Nat) (lo_1 : Nat) (hi_0 : Nat) (x15_8 : Nat) : Option ((Nat × (Nat × Unit))) :=
 ck ((((y_2 * (2 ^ (((aC y_2) % (18446744073709551616 : Int)).toNat))) % 18446744073709551616) / (4294967296 : Nat)) ≠ 0) ((bO (fun d : Nat × Nat => gG lo_1 y_2 d.1 d.2) ((pW .u64 (pW .u64 (((jU .u64 (((hi_0 * (2 ^ (((aC y_2) % (18446744073709551616 : Int)).toNat))) % 18446744073709551616) ||| (lo_1 / (2 ^ (pW .u64 (64 : Nat) (((aC y_2) % (18446744073709551616 : Int)).toNat))))) (4294967296 : Nat)) + (((lo_1 * (2 ^ (((aC y_2) % (18446744073709551616 : Int)).toNat))) % 18446744073709551616) / (4294967296 : Nat))) % 18446744073709551616) (jU .u64 x15_8 ((y_2 * (2 ^ (((aC y_2) % (18446744073709551616 : Int)).toNat))) % 18446744073709551616))) (jU .u64 ((pW .u64 (((jU .u64 (((hi_0 * (2 ^ (((aC y_2) % (18446744073709551616 : Int)).toNat))) % 18446744073709551616) ||| (lo_1 / (2 ^ (pW .u64 (64 : Nat) (((aC y_2) % (18446744073709551616 : Int)).toNat))))) (4294967296 : Nat)) + (((lo_1 * (2 ^ (((aC y_2) % (18446744073709551616 : Int)).toNat))) % 18446744073709551616) / (4294967296 : Nat))) % 18446744073709551616) (jU .u64 x15_8 ((y_2 * (2 ^ (((aC y_2) % (18446744073709551616 : Int)).toNat))) % 18446744073709551616))) / (((y_2 * (2 ^ (((aC y_2) % (18446744073709551616 : Int)).toNat))) % 18446744073709551616) / (4294967296 : Nat))) (((y_2 * (2 ^ (((aC y_2) % (18446744073709551616 : Int)).toNat))) % 18446744073709551616) / (4294967296 : Nat)))), ((pW .u64 (((jU .u64 (((hi_0 * (2 ^ (((aC y_2) % (18446744073709551616 : Int)).toNat))) % 18446744073709551616) ||| (lo_1 / (2 ^ (pW .u64 (64 : Nat) (((aC y_2) % (18446744073709551616 : Int)).toNat))))) (4294967296 : Nat)) + (((lo_1 * (2 ^ (((aC y_2) % (18446744073709551616 : Int)).toNat))) % 18446744073709551616) / (4294967296 : Nat))) % 18446744073709551616) (jU .u64 x15_8 ((y_2 * (2 ^ (((aC y_2) % (18446744073709551616 : Int)).toNat))) % 18446744073709551616))) / (((y_2 * (2 ^ (((aC y_2) % (18446744073709551616 : Int)).toNat))) % 18446744073709551616) / (4294967296 : Nat))))).bind (fun e => pY x15_8 hi_0 y_2 lo_1 e))
noncomputable def gH (lo_1 : Nat) (y_2 : Nat) (x15_19 : Nat) (rhat_20 : Nat) : Option ((Nat × Nat) ⊕ ((Nat))) :=
 if ((4294967296 : Nat) ≤ x15_19) ∨ ((((jU .u64 (4294967296 : Nat) rhat_20) + (((lo_1 * (2 ^ (((aC y_2) % (18446744073709551616 : Int)).toNat))) % 18446744073709551616) / (4294967296 : Nat))) % 18446744073709551616) < (jU .u64 x15_19 (((y_2 * (2 ^ (((aC y_2) % (18446744073709551616 : Int)).toNat))) % 18446744073709551616) &&& (4294967295 : Nat)))) then if (4294967296 : Nat) ≤ ((rhat_20 + (((y_2 * (2 ^ (((aC y_2) % (18446744073709551616 : Int)).toNat))) % 18446744073709551616) / (4294967296 : Nat))) % 18446744073709551616) then some (.inr (pW .u64 x15_19 (1 : Nat))) else some (.inl ((pW .u64 x15_19 (1 : Nat)), ((rhat_20 + (((y_2 * (2 ^ (((aC y_2) % (18446744073709551616 : Int)).toNat))) % 18446744073709551616) / (4294967296 : Nat))) % 18446744073709551616))) else some (.inr x15_19)
noncomputable def vA (hi_0 : Nat) (lo_1 : Nat) (y_2 : Nat) : Option (Nat × (Nat × Unit)) :=
 if y_2 = (0 : Nat) then none else if y_2 ≤ hi_0 then none else if hi_0 = (0 : Nat) then ck (y_2 ≠ 0) (ck (y_2 ≠ 0) (some ((lo_1 / y_2), (lo_1 % y_2), ()))) else ck ((((y_2 * (2 ^ (((aC y_2) % (18446744073709551616 : Int)).toNat))) % 18446744073709551616) / (4294967296 : Nat)) ≠ 0) ((bO (fun d : Nat × Nat => gH lo_1 y_2 d.1 d.2) (((((hi_0 * (2 ^ (((aC y_2) % (18446744073709551616 : Int)).toNat))) % 18446744073709551616) ||| (lo_1 / (2 ^ (pW .u64 (64 : Nat) (((aC y_2) % (18446744073709551616 : Int)).toNat))))) / (((y_2 * (2 ^ (((aC y_2) % (18446744073709551616 : Int)).toNat))) % 18446744073709551616) / (4294967296 : Nat))), (pW .u64 (((hi_0 * (2 ^ (((aC y_2) % (18446744073709551616 : Int)).toNat))) % 18446744073709551616) ||| (lo_1 / (2 ^ (pW .u64 (64 : Nat) (((aC y_2) % (18446744073709551616 : Int)).toNat))))) (jU .u64 ((((hi_0 * (2 ^ (((aC y_2) % (18446744073709551616 : Int)).toNat))) % 18446744073709551616) ||| (lo_1 / (2 ^ (pW .u64 (64 : Nat) (((aC y_2) % (18446744073709551616 : Int)).toNat))))) / (((y_2 * (2 ^ (((aC y_2) % (18446744073709551616 : Int)).toNat))) % 18446744073709551616) / (4294967296 : Nat))) (((y_2 * (2 ^ (((aC y_2) % (18446744073709551616 : Int)).toNat))) % 18446744073709551616) / (4294967296 : Nat)))))).bind (fun e => pZ y_2 lo_1 hi_0 e))
theorem aJA (x : Nat) : x &&& 4294967295 = x % 4294967296 := Nat.and_two_pow_sub_one_eq_mod x 32
theorem aY7 {lo y s : Nat} {u : Nat} (hs : (aC y % (18446744073709551616 : Int)).toNat = s) (h : ∀ V, V = y * 2 ^ s % 18446744073709551616 → 9223372036854775808 ≤ V ∧ u < V) :
  bO (fun d : Nat × Nat => gH lo y d.1 d.2) (u / (y * 2 ^ s % 18446744073709551616 / 4294967296), pW .u64 u (jU .u64 (u / (y * 2 ^ s % 18446744073709551616 / 4294967296)) (y * 2 ^ s % 18446744073709551616 / 4294967296))) = some ((u * 4294967296 + lo * 2 ^ s % 18446744073709551616 / 4294967296) / (y * 2 ^ s % 18446744073709551616)) := by
 have hV := Nat.mod_lt (y * 2 ^ s) (show 0 < 18446744073709551616 by decide)
 have hU := Nat.mod_lt (lo * 2 ^ s) (show 0 < 18446744073709551616 by decide)
 have step : ∀ q r, gH lo y q r = if 4294967296 ≤ q ∨ (jU .u64 4294967296 r + lo * 2 ^ s % 18446744073709551616 / 4294967296) % 18446744073709551616 < jU .u64 q (y * 2 ^ s % 18446744073709551616 % 4294967296) then if 4294967296 ≤ (r + y * 2 ^ s % 18446744073709551616 / 4294967296) % 18446744073709551616 then some (.inr (pW .u64 q 1)) else some (.inl (pW .u64 q 1, (r + y * 2 ^ s % 18446744073709551616 / 4294967296) % 18446744073709551616)) else some (.inr q) := fun q r => by
  unfold gH; rw [hs, aJA]
 obtain ⟨h1, h2⟩ := h _ rfl
 generalize y * 2 ^ s % 18446744073709551616 = V at *
 have hu1 : lo * 2 ^ s % 18446744073709551616 / 4294967296 < 4294967296 := by omega
 generalize lo * 2 ^ s % 18446744073709551616 / 4294967296 = u1 at *
 obtain ⟨e0, i0⟩ := aP3 h1 hV h2 hu1
 rw [e0]
 refine gF (I := fun d => DI V u u1 d.1 d.2) (fun d => d.1) (fun _ => (u * 4294967296 + u1) / V) ?_ (u / (V / 4294967296), u % (V / 4294967296)) i0
 rintro ⟨q, r⟩ hi
 have hi : DI V u u1 q r := hi
 show (∃ d', gH lo y q r = _ ∧ _) ∨ gH lo y q r = _
 rw [step]
 by_cases hc : (u * 4294967296 + u1) / V < q
 ·obtain ⟨a1, a2, a3, a4⟩ := aVY hi hc
  rw [if_pos ((aJz hi).2 hc), a1, a2]
  by_cases hr : 4294967296 ≤ r + V / 4294967296
  ·right; rw [if_pos hr, a3 hr]
  ·left
   refine ⟨(q - 1, r + V / 4294967296), by rw [if_neg hr], a4 (by omega), Nat.sub_lt (Nat.lt_of_le_of_lt (Nat.zero_le _) hc) (by decide), rfl⟩
 ·right
  rw [if_neg (fun h => hc ((aJz hi).1 h))]
  have := hi.ge
  rw [show q = (u * 4294967296 + u1) / V from Nat.le_antisymm (Nat.le_of_not_lt hc) this]
theorem aY8 {lo y s : Nat} {u : Nat} (hs : (aC y % (18446744073709551616 : Int)).toNat = s) (h : ∀ V, V = y * 2 ^ s % 18446744073709551616 → 9223372036854775808 ≤ V ∧ u < V) :
  bO (fun d : Nat × Nat => gG lo y d.1 d.2) (pW .u64 u (jU .u64 (u / (y * 2 ^ s % 18446744073709551616 / 4294967296)) (y * 2 ^ s % 18446744073709551616 / 4294967296)), u / (y * 2 ^ s % 18446744073709551616 / 4294967296)) = some ((u * 4294967296 + lo * 2 ^ s % 18446744073709551616 % 4294967296) / (y * 2 ^ s % 18446744073709551616)) := by
 have hV := Nat.mod_lt (y * 2 ^ s) (show 0 < 18446744073709551616 by decide)
 have step : ∀ q r, gG lo y r q = if 4294967296 ≤ q ∨ (jU .u64 4294967296 r + lo * 2 ^ s % 18446744073709551616 % 4294967296) % 18446744073709551616 < jU .u64 q (y * 2 ^ s % 18446744073709551616 % 4294967296) then if 4294967296 ≤ (r + y * 2 ^ s % 18446744073709551616 / 4294967296) % 18446744073709551616 then some (.inr (pW .u64 q 1)) else some (.inl ((r + y * 2 ^ s % 18446744073709551616 / 4294967296) % 18446744073709551616, pW .u64 q 1)) else some (.inr q) := fun q r => by
  unfold gG; rw [hs, aJA, aJA]
 obtain ⟨h1, h2⟩ := h _ rfl
 generalize y * 2 ^ s % 18446744073709551616 = V at *
 have hu1 : lo * 2 ^ s % 18446744073709551616 % 4294967296 < 4294967296 := Nat.mod_lt _ (by decide)
 generalize lo * 2 ^ s % 18446744073709551616 % 4294967296 = u1 at *
 obtain ⟨e0, i0⟩ := aP3 h1 hV h2 hu1
 rw [e0]
 refine gF (I := fun d => DI V u u1 d.2 d.1) (fun d => d.2) (fun _ => (u * 4294967296 + u1) / V) ?_ (u % (V / 4294967296), u / (V / 4294967296)) i0
 rintro ⟨r, q⟩ hi
 have hi : DI V u u1 q r := hi
 show (∃ d', gG lo y r q = _ ∧ _) ∨ gG lo y r q = _
 rw [step]
 by_cases hc : (u * 4294967296 + u1) / V < q
 ·obtain ⟨a1, a2, a3, a4⟩ := aVY hi hc
  rw [if_pos ((aJz hi).2 hc), a1, a2]
  by_cases hr : 4294967296 ≤ r + V / 4294967296
  ·right; rw [if_pos hr, a3 hr]
  ·left
   refine ⟨(r + V / 4294967296, q - 1), by rw [if_neg hr], a4 (by omega), Nat.sub_lt (Nat.lt_of_le_of_lt (Nat.zero_le _) hc) (by decide), rfl⟩
 ·right
  rw [if_neg (fun h => hc ((aJz hi).1 h))]
  have := hi.ge
  rw [show q = (u * 4294967296 + u1) / V from Nat.le_antisymm (Nat.le_of_not_lt hc) this]
theorem aHi {N V : Nat} : N - N / V * V = N % V := by
 have e := Nat.div_add_mod N V
 have c := Nat.mul_comm (N / V) V
 omega
theorem aVZ {V u u1 : Nat} (h1 : 0 < V) (h2 : V < 18446744073709551616) (hu1 : u1 < 4294967296) : pW .u64 ((jU .u64 u 4294967296 + u1) % 18446744073709551616) (jU .u64 ((u * 4294967296 + u1) / V) V) = (u * 4294967296 + u1) % V := by
 have m := Nat.mod_lt (u * 4294967296 + u1) h1
 rw [aHf, aHf, Nat.mod_add_mod, aY5 (Nat.div_mul_le_self _ _) (by rw [aHi]; exact Nat.lt_trans m h2), aHi]
theorem aTh {V N W un0 : Nat} (hV : 0 < V) : N / V * W + (N % V * W + un0) / V = (N * W + un0) / V ∧ (N % V * W + un0) % V = (N * W + un0) % V := by
 have e := Nat.div_add_mod N V
 have : N * W + un0 = N % V * W + un0 + V * (N / V * W) := by
  conv => lhs; rw [← e]
  rw [Nat.add_mul, Nat.mul_assoc]; omega
 rw [this, Nat.add_mul_div_left _ _ hV, Nat.add_mul_mod_self_left]
 exact ⟨Nat.add_comm _ _, rfl⟩
theorem aY9 (A C : Nat) : (A * 4294967296 + C / 4294967296) * 4294967296 + C % 4294967296 = A * 18446744073709551616 + C := by omega
theorem aKA (hi : Nat) (wh : (Ty.u .u64).wf hi) (lo : Nat) (wl : (Ty.u .u64).wf lo) (y : Nat) (wy : (Ty.u .u64).wf y) (hp : yR hi lo y) : vA hi lo y = some (jW hi lo y) := by
 have hh := aC9 wh
 have hl := aC9 wl
 have hy := aC9 wy
 have hp : hi < y := hp
 have hb := aTZ hy
 have hb1 := aOf (x := y) (by omega)
 have hs : (aC y % (18446744073709551616 : Int)).toNat = 64 - bl y := by unfold aC; omega
 have hs2 : pW .u64 64 (64 - bl y) = 64 - (64 - bl y) := aPV (by omega) (by omega)
 have hlow := aRw (x := y) (by omega)
 have hlt := aPW y
 unfold vA jW
 rw [if_neg (by omega), if_neg (by omega), hs]
 refine aBp (fun h => ?_) (fun h => ?_)
 ·subst h
  refine aB (by omega) (aB (by omega) ?_)
  rw [Nat.zero_mul, Nat.zero_add]
 ·rw [hs2]
  generalize hsd : 64 - bl y = s at *
  have hs64 : s ≤ 63 := by omega
  have hsp := Nat.two_pow_pos s
  have h2s : 2 ^ (64 - s) * 2 ^ s = 18446744073709551616 := aP2 s (by omega)
  have hyV : y * 2 ^ s < 18446744073709551616 := by
   rw [← h2s, show 64 - s = bl y from by omega]
   exact Nat.mul_lt_mul_of_pos_right hlt hsp
  have hyL : 9223372036854775808 ≤ y * 2 ^ s := by
   have := Nat.mul_le_mul_right (2 ^ s) hlow
   rw [← Nat.pow_add, show bl y - 1 + s = 63 from by omega] at this
   exact this
  have hU : hi * 2 ^ s % 18446744073709551616 ||| lo / 2 ^ (64 - s) = (hi * 18446744073709551616 + lo) * 2 ^ s / 18446744073709551616 := by
   have h1 : hi * 2 ^ s < 18446744073709551616 := Nat.lt_trans (Nat.mul_lt_mul_of_pos_right hp hsp) hyV
   have h3 : lo / 2 ^ (64 - s) < 2 ^ s := (Nat.div_lt_iff_lt_mul (Nat.two_pow_pos _)).2 (by rw [Nat.mul_comm, h2s]; exact hl)
   rw [Nat.mod_eq_of_lt h1, Nat.or_comm, Nat.mul_comm hi, aRA h3, Nat.add_mul, Nat.mul_assoc, Nat.mul_comm 18446744073709551616, ← Nat.mul_assoc, Nat.add_comm (hi * 2 ^ s * 18446744073709551616), Nat.add_mul_div_right _ _ (by decide), ← h2s, Nat.mul_div_mul_right _ _ hsp, Nat.mul_comm hi]
  have hUV : (hi * 18446744073709551616 + lo) * 2 ^ s / 18446744073709551616 < y * 2 ^ s := by
   refine (Nat.div_lt_iff_lt_mul (by decide)).2 ?_
   rw [Nat.mul_right_comm y]
   exact Nat.mul_lt_mul_of_pos_right (by have := Nat.mul_le_mul_right 18446744073709551616 (show hi + 1 ≤ y from hp); omega) hsp
  have hlow2 : lo * 2 ^ s % 18446744073709551616 = (hi * 18446744073709551616 + lo) * 2 ^ s % 18446744073709551616 := by
   rw [Nat.add_mul, Nat.mul_right_comm, Nat.add_comm, Nat.add_mul_mod_self_right]
  have hVm : y * 2 ^ s % 18446744073709551616 = y * 2 ^ s := Nat.mod_eq_of_lt hyV
  have eN := Nat.div_add_mod ((hi * 18446744073709551616 + lo) * 2 ^ s) 18446744073709551616
  have mN := Nat.mod_lt ((hi * 18446744073709551616 + lo) * 2 ^ s) (show 0 < 18446744073709551616 by decide)
  rw [hU]
  refine aB (by rw [hVm]; omega) (aK (aY7 hs (fun V e => by rw [e, hVm]; exact ⟨hyL, hUV⟩)) ?_)
  unfold pZ
  rw [hs, hs2, hU]
  have hr := aVZ (V := y * 2 ^ s % 18446744073709551616) (u := (hi * 18446744073709551616 + lo) * 2 ^ s / 18446744073709551616) (u1 := lo * 2 ^ s % 18446744073709551616 / 4294967296) (by rw [hVm]; omega) (by omega) (by omega)
  rw [hr]
  refine aB (by rw [hVm]; omega) (aK (aY8 hs (fun V e => by rw [e]; exact ⟨by rw [hVm]; exact hyL, Nat.mod_lt _ (by rw [hVm]; omega)⟩)) ?_)
  unfold pY
  rw [hs, hs2, hU, hr, aJA, hVm, hlow2]
  have hr2 := aVZ (V := y * 2 ^ s) (u := ((hi * 18446744073709551616 + lo) * 2 ^ s / 18446744073709551616 * 4294967296 + (hi * 18446744073709551616 + lo) * 2 ^ s % 18446744073709551616 / 4294967296) % (y * 2 ^ s)) (u1 := (hi * 18446744073709551616 + lo) * 2 ^ s % 18446744073709551616 % 4294967296) (by omega) hyV (Nat.mod_lt _ (by decide))
  rw [hr2]
  obtain ⟨q1, q2⟩ := aTh (V := y * 2 ^ s) (N := (hi * 18446744073709551616 + lo) * 2 ^ s / 18446744073709551616 * 4294967296 + (hi * 18446744073709551616 + lo) * 2 ^ s % 18446744073709551616 / 4294967296) (W := 4294967296) (un0 := (hi * 18446744073709551616 + lo) * 2 ^ s % 18446744073709551616 % 4294967296) (by omega)
  have eW := (aY9 ((hi * 18446744073709551616 + lo) * 2 ^ s / 18446744073709551616) ((hi * 18446744073709551616 + lo) * 2 ^ s % 18446744073709551616)).trans ((congrArg (· + (hi * 18446744073709551616 + lo) * 2 ^ s % 18446744073709551616) (Nat.mul_comm _ _)).trans eN)
  rw [eW] at q1 q2
  rw [q2, aHf, Nat.mod_add_mod, q1, Nat.mul_div_mul_right _ _ hsp, Nat.mul_mod_mul_right, Nat.mul_div_cancel _ hsp]
  have hq : (hi * 18446744073709551616 + lo) / y < 18446744073709551616 := (Nat.div_lt_iff_lt_mul (by omega)).2 (by have := Nat.mul_le_mul_right 18446744073709551616 (show hi + 1 ≤ y from hp); rw [Nat.mul_comm 18446744073709551616]; omega)
  rw [Nat.mod_eq_of_lt hq]
end Nu
end Go.Proofs
namespace Go.Proofs
open Go.Vc
set_option maxRecDepth 20000
namespace Nu
abbrev aDb (a : List Nat) (b : Nat) : Prop := b ≠ 0 ∧ Sz a
def tQ (a : List Nat) (b : Nat) : List Nat × List Nat × Unit := (lb (nv a / b), lb (nv a % b), ())
noncomputable def rD (rest_9 : Nat) (q_10 : (List Nat)) : Option (((List Nat) × ((List Nat) × Unit))) :=
 some ((dI q_10), (dI ([rest_9] : List Nat)), ())
noncomputable def lB (a_0 : (List Nat)) (b_1 : Nat) (rest_11 : Nat) (i_12 : Int) (q_13 : (List Nat)) : Option ((Nat × Int × (List Nat)) ⊕ ((Nat × (List Nat)))) :=
 if (0 : Int) ≤ i_12 then ck (0 ≤ i_12 ∧ i_12 < (a_0.length : Int)) (ck ((yR rest_11 (a_0.getD (i_12.toNat) (0 : Nat)) b_1)) (ck (0 ≤ i_12 ∧ i_12 < (q_13.length : Int)) (ck (I64 (i_12 - (1 : Int))) (some (.inl ((((jW rest_11 (a_0.getD (i_12.toNat) (0 : Nat)) b_1).2).1), (i_12 - (1 : Int)), (q_13.set (i_12.toNat) ((jW rest_11 (a_0.getD (i_12.toNat) (0 : Nat)) b_1).1)))))))) else some (.inr (rest_11, q_13))
noncomputable def xO (a_0 : (List Nat)) (b_1 : Nat) : Option ((List Nat) × ((List Nat) × Unit)) :=
 ck (0 ≤ (a_0.length : Int)) (ck ((8 : Int) * (a_0.length : Int) ≤ 281474976710656) (ck (I64 ((a_0.length : Int) - (1 : Int))) ((bO (fun d : Nat × Int × (List Nat) => lB a_0 b_1 d.1 d.2.1 d.2.2) ((0 : Nat), ((a_0.length : Int) - (1 : Int)), (List.replicate (a_0.length) (0 : Nat)))).bind (fun e => rD e.1 e.2))))
structure aOn (a : List Nat) (b : Nat) (rest : Nat) (i : Int) (q : List Nat) : Prop where
 i0 : -1 ≤ i
 i1 : i < a.length
 len : q.length = a.length
 lm : Lm q
 sum : nv q = nv a / 18446744073709551616 ^ (i + 1).toNat / b * 18446744073709551616 ^ (i + 1).toNat
 res : rest = nv a / 18446744073709551616 ^ (i + 1).toNat % b
theorem aP4 {a : List Nat} {b rest : Nat} {i : Int} {q : List Nat} (la : Lm a) (hb : b ≠ 0) (h : aOn a b rest i q) (hi : 0 ≤ i) :
  rest < b ∧ aOn a b ((rest * 18446744073709551616 + a.getD i.toNat 0) % b) (i - 1) (q.set i.toNat ((rest * 18446744073709551616 + a.getD i.toNat 0) / b)) := by
 have h1 := h.i1
 have hl := h.len
 have hr : rest < b := by rw [h.res]; exact Nat.mod_lt _ (by omega)
 have hx := fE la i.toNat
 have e1 : (i + 1).toNat = i.toNat + 1 := by omega
 have e2 : (i - 1 + 1).toNat = i.toNat := by omega
 have hN : nv a / 18446744073709551616 ^ i.toNat = nv a / 18446744073709551616 ^ (i.toNat + 1) * 18446744073709551616 + a.getD i.toNat 0 := by
  rw [rR la, Nat.pow_succ, ← Nat.div_div_eq_div_mul, Nat.mul_comm, Nat.div_add_mod]
 obtain ⟨d1, d2⟩ := aTh (V := b) (N := nv a / 18446744073709551616 ^ (i.toNat + 1)) (W := 18446744073709551616) (un0 := a.getD i.toNat 0) (by omega)
 have hs := h.sum
 have hres := h.res
 rw [e1] at hs hres
 rw [← hres, ← hN] at d1 d2
 have hz : q.getD i.toNat 0 = 0 := by
  rw [rR h.lm, hs, Nat.pow_succ, Nat.mul_comm (18446744073709551616 ^ i.toNat) 18446744073709551616, ← Nat.mul_assoc, Nat.mul_div_cancel _ (Nat.pow_pos (by decide)), Nat.mul_mod_left]
 have hv : (rest * 18446744073709551616 + a.getD i.toNat 0) / b < 18446744073709551616 := by
  refine (Nat.div_lt_iff_lt_mul (by omega)).2 ?_
  have := Nat.mul_le_mul_right 18446744073709551616 (show rest + 1 ≤ b from hr)
  rw [Nat.mul_comm 18446744073709551616]; omega
 refine ⟨hr, by omega, by omega, by rw [List.length_set]; exact hl, yA h.lm _ hv, ?_, ?_⟩
 ·have hn := aA3 (a := q) (k := i.toNat) (v := (rest * 18446744073709551616 + a.getD i.toNat 0) / b) (by omega)
  rw [hz, Nat.mul_zero, Nat.add_zero] at hn
  rw [e2, ← d1, hn, hs, Nat.pow_succ, Nat.mul_comm (18446744073709551616 ^ i.toNat) 18446744073709551616, ← Nat.mul_assoc, Nat.mul_comm (18446744073709551616 ^ i.toNat), Nat.add_mul]
 ·rw [e2, d2]
theorem aMh (a : List Nat) (wa : (Ty.sl (.u .u64)).wf a) (b : Nat) (wb : (Ty.u .u64).wf b) (hp : aDb a b) : xO a b = some (tQ a b) := by
 have la := vM wa
 obtain ⟨hb, sa⟩ := hp
 have sa : a.length ≤ 1099511627776 := sa
 unfold xO tQ
 have key := cV (step := fun d : Nat × Int × (List Nat) => lB a b d.1 d.2.1 d.2.2) (I := fun d => aOn a b d.1 d.2.1 d.2.2) (fun d => (d.2.1 + 1).toNat) (fun e => e.1 = nv a % b ∧ nv e.2 = nv a / b) ?_ (0, (a.length : Int) - 1, List.replicate a.length 0) ?_
 ·obtain ⟨e, h1, h2, h3⟩ := key
  refine aB (by omega) (aB (by omega) (aB (by constructor <;> omega) (aK h1 ?_)))
  unfold rD
  rw [dI, dI, h3, h2]
  rfl
 ·rintro ⟨rest, i, q⟩ h
  have h : aOn a b rest i q := h
  have h1 := h.i1
  have hl := h.len
  show (∃ d', lB a b rest i q = _ ∧ _) ∨ ∃ e, lB a b rest i q = _ ∧ _
  unfold lB
  by_cases hi : 0 ≤ i
  ·left
   obtain ⟨s1, s2⟩ := aP4 la hb h hi
   rw [if_pos hi]
   refine ⟨(_, _, _), aB (by constructor <;> omega) (aB s1 (aB (by constructor <;> omega) (aB (by constructor <;> omega) rfl))), s2, by simp only; omega⟩
  ·right
   refine ⟨(rest, q), by rw [if_neg hi], ?_⟩
   have h0 := h.i0
   have hs := h.sum
   have hr := h.res
   rw [show (i + 1).toNat = 0 from by omega, Nat.pow_zero, Nat.div_one] at hs hr
   exact ⟨hr, by rw [hs, Nat.mul_one]⟩
 ·have e : ((a.length : Int) - 1 + 1).toNat = a.length := by omega
  have hz : nv a / 18446744073709551616 ^ a.length = 0 := Nat.div_eq_of_lt (kV la)
  exact ⟨by simp only; omega, by simp only; omega, by simp, aGz _, by simp only; rw [e, hz, aGy, Nat.zero_div, Nat.zero_mul], by simp only; rw [e, hz, Nat.zero_mod]⟩
end Nu
end Go.Proofs
namespace Go.Proofs
open Go.Vc
set_option maxRecDepth 20000
namespace Nu
def aEb : PlR := ⟨[(0, .A [0, 2]), (1, .A [0, 2, 4]), (2, .A [0]), (3, .A [0, 2]), (4, .A [0, 2, 8]), (5, .A [0, 2]), (6, .A [0, 2]), (7, .A [0, 2, 14]), (8, .A [0, 2]), (9, .A [0, 2]), (10, .A [2])], [(4, 7), (7, 10), (10, 13)]⟩
def aBY : Ty := .pair (.u .u64) .unit
noncomputable def qD : aI := ⟨aBY, .one (.i .i64), fun _ => True, fun x => dB x.1⟩
attribute [go_sem] qD aBY
noncomputable def aMi : aI := mSpec aBY (.one (.i .i64)) (fun x => uX x.1)
noncomputable def aOo : List (FuncId × aI) := []
theorem aOp : bF Tryz.prog GL aOo := .nil
attribute [go_sem] aEb
set_option maxHeartbeats 4000000 in
theorem aMj : FOK Tryz.prog GL 235 aMi := by
 refine bD (bE aOp) mix Tryz.func235 rfl (by kernel_rfl) (by decide) aEb fun w0 S x Θ hw h hF => ?_
 obtain ⟨(x_0 : Nat), u⟩ := x
 simp only [bH, go_sem]
 replace h : sat (uX x_0) _ := h
 unfold uX at h
 refine cO hF (D := Nat × Int) (fun d => sat (jG d.1 d.2) Θ) [] (fun d => [(0, .val (.u .u64) d.1), (2, .val (.i .i64) d.2)]) (fun d => []) ?_ ?_
 ·simp only [go_sem]
  refine cX h (fun hc h => ?_) fun hc h => ?_
  ·exact aP (((x_0 / (4294967296 : Nat)), (32 : Int))) h rfl (by simp only [go_sem])
  ·exact aP ((x_0, (0 : Int))) h rfl (by simp only [go_sem])
 ·rintro ⟨x_2, n_3⟩ h
  simp only [go_sem]
  replace h : sat (jG x_2 n_3) _ := h
  unfold jG at h
  refine cO hF (D := Nat × Int) (fun d => sat (jF d.1 d.2) Θ) [] (fun d => [(0, .val (.u .u64) d.1), (2, .val (.i .i64) d.2)]) (fun d => []) ?_ ?_
  ·simp only [go_sem]
   refine cX h (fun hc h => ?_) fun hc h => ?_
   ·refine aH h fun g0 h => ?_
    exact aP (((x_2 / (65536 : Nat)), (n_3 + (16 : Int)))) h rfl (by simp only [go_sem])
   ·exact aP ((x_2, n_3)) h rfl (by simp only [go_sem])
  ·rintro ⟨x_4, n_5⟩ h
   simp only [go_sem]
   replace h : sat (jF x_4 n_5) _ := h
   unfold jF at h
   refine cO hF (D := Nat × Int) (fun d => sat (jE d.1 d.2) Θ) [] (fun d => [(0, .val (.u .u64) d.1), (2, .val (.i .i64) d.2)]) (fun d => []) ?_ ?_
   ·simp only [go_sem]
    refine cX h (fun hc h => ?_) fun hc h => ?_
    ·refine aH h fun g0 h => ?_
     exact aP (((x_4 / (256 : Nat)), (n_5 + (8 : Int)))) h rfl (by simp only [go_sem])
    ·exact aP ((x_4, n_5)) h rfl (by simp only [go_sem])
   ·rintro ⟨x_6, n_7⟩ h
    simp only [go_sem]
    replace h : sat (jE x_6 n_7) _ := h
    unfold jE at h
    refine aH h fun g0 h => aH h fun g1 h => ?_
    exact aG hF [.tmp 2] rfl rfl rfl (aA h) (by simp only [aV, go_sem])
theorem aEc : FOK Tryz.prog GL 235 qD := fD aMj (fun ⟨x0, u⟩ ⟨w0, wu⟩ hp => aKw x0 w0)
def vB : PlR := ⟨[(0, .A [0]), (1, .A [2])], []⟩
def qS : Ty := .pair (.u .u64) .unit
noncomputable def dC : aI := ⟨qS, .one (.i .i64), fun _ => True, fun x => aC x.1⟩
attribute [go_sem] dC qS
noncomputable def aBZ : aI := mSpec qS (.one (.i .i64)) (fun x => gZ x.1)
noncomputable def vN : List (FuncId × aI) := [(235, qD)]
theorem aCx : bF Tryz.prog GL vN := .cons aEc (by kernel_rfl) (.nil)
theorem aAq : gam vN 235 = some qD := rfl
attribute [go_sem] vB aAq
set_option maxHeartbeats 4000000 in
theorem aB0 : FOK Tryz.prog GL 188 aBZ := by
 refine bD (bE aCx) mix Tryz.func188 rfl (by kernel_rfl) (by decide) vB fun w0 S x Θ hw h hF => ?_
 obtain ⟨(x_0 : Nat), u⟩ := x
 simp only [bH, go_sem]
 replace h : sat (gZ x_0) _ := h
 unfold gZ at h
 refine aH h fun g0 h => ?_
 exact aG hF [.tmp 2] rfl rfl rfl (aA h) (by simp only [aV, go_sem])
theorem pK : FOK Tryz.prog GL 188 dC := fD aB0 (fun ⟨x0, u⟩ ⟨w0, wu⟩ hp => aBr x0 w0)
def tR : PlR := ⟨[(0, .A [0]), (1, .A [0, 4]), (2, .A [2]), (3, .A [2])], []⟩
def pL : Ty := .pair (.u .u64) .unit
noncomputable def iZ : aI := ⟨pL, .one (.i .i64), fun _ => True, fun x => fF x.1⟩
attribute [go_sem] iZ pL
noncomputable def aBu : aI := mSpec pL (.one (.i .i64)) (fun x => gO x.1)
noncomputable def aB1 : List (FuncId × aI) := []
theorem aB2 : bF Tryz.prog GL aB1 := .nil
attribute [go_sem] tR
set_option maxHeartbeats 4000000 in
theorem aBv : FOK Tryz.prog GL 164 aBu := by
 refine bD (bE aB2) mix Tryz.func164 rfl (by kernel_rfl) (by decide) tR fun w0 S x Θ hw h hF => ?_
 obtain ⟨(x_0 : Nat), u⟩ := x
 simp only [bH, go_sem]
 replace h : sat (gO x_0) _ := h
 unfold gO at h
 refine cX h (fun hc h => ?_) fun hc h => ?_
 ·exact aG hF [.tmp 2] rfl rfl rfl (aA h) (by simp only [aV, go_sem])
 ·refine aH h fun g0 h => ?_
  exact aG hF [.tmp 2] rfl rfl rfl (aA h) (by simp only [aV, go_sem])
theorem aBw : FOK Tryz.prog GL 164 iZ := fD aBv (fun ⟨x0, u⟩ ⟨w0, wu⟩ hp => aA4 x0 w0)
def aEd : PlR := ⟨[(0, .A [0, 1]), (1, .A [0, 1, 6]), (2, .A [0, 1, 6, 7]), (3, .A [0, 1, 6, 7, 8]), (4, .A [0, 1, 6, 7, 8, 9]), (5, .A [0, 1, 6, 7, 8, 9, 10]), (6, .A [0, 1, 6, 7, 9, 11]), (7, .A [0, 1, 6, 7, 9, 11, 12]), (8, .A [0, 1, 6, 7, 9, 12, 13]), (9, .A [0, 1, 7, 9, 12, 13]), (10, .A [0, 1, 4]), (11, .A [4, 5])], []⟩
def aB3 : Ty := .pair (.u .u64) (.pair (.u .u64) .unit)
noncomputable def kF : aI := ⟨aB3, .tup (.pair (.u .u64) (.pair (.u .u64) .unit)), fun _ => True, fun x => bG x.1 x.2.1⟩
attribute [go_sem] kF aB3
noncomputable def aMk : aI := mSpec aB3 (.tup (.pair (.u .u64) (.pair (.u .u64) .unit))) (fun x => uY x.1 x.2.1)
noncomputable def aOq : List (FuncId × aI) := []
theorem aOr : bF Tryz.prog GL aOq := .nil
attribute [go_sem] aEd
set_option maxHeartbeats 4000000 in
theorem aMl : FOK Tryz.prog GL 161 aMk := by
 refine bD (bE aOr) mix Tryz.func161 rfl (by kernel_rfl) (by decide) aEd fun w0 S x Θ hw h hF => ?_
 obtain ⟨(x_0 : Nat), (y_1 : Nat), u⟩ := x
 simp only [bH, go_sem]
 replace h : sat (uY x_0 y_1) _ := h
 unfold uY at h
 exact aG hF [.tmp 4, .tmp 5] rfl rfl rfl (aA h) (by simp only [aV, go_sem])
theorem aA5 : FOK Tryz.prog GL 161 kF := fD aMl (fun ⟨x0, x1, u⟩ ⟨w0, w1, wu⟩ hp => aKx x0 w0 x1 w1)
end Nu
end Go.Proofs
namespace Go.Proofs
open Go.Vc
set_option maxRecDepth 20000
namespace Nu
def aHj : PlR := ⟨[(0, .A [0]), (1, .A [0, 14]), (2, .A [0]), (3, .A [2])], []⟩
def aEL : Ty := .pair (.sl (.u .u64)) .unit
noncomputable def fL : aI := ⟨aEL, .one (.sl (.u .u64)), fun _ => True, fun x => dI x.1⟩
attribute [go_sem] fL aEL
noncomputable def aP5 : aI := mSpec aEL (.one (.sl (.u .u64))) (fun x => aAd x.1)
noncomputable def aRB : List (FuncId × aI) := []
theorem aRC : bF Tryz.prog GL aRB := .nil
attribute [go_sem] aHj
set_option maxHeartbeats 4000000 in
theorem aP6 : FOK Tryz.prog GL 163 aP5 := by
 refine bD (bE aRC) mix Tryz.func163 rfl (by kernel_rfl) (by decide) aHj fun w0 S x Θ hw h hF => ?_
 obtain ⟨(a_0 : (List Nat)), u⟩ := x
 simp only [bH, go_sem]
 replace h : sat (aAd a_0) _ := h
 unfold aAd at h
 refine bC hF (D := (List Nat)) [] (fun d => [(0, .val (.sl (.u .u64)) d)]) (fun d => []) h rfl (by simp only [go_sem]) ?_
 rintro a_4 A1 T1 hA1 hE1 h
 simp only [go_sem]
 replace h : sat (wU a_4) _ := h
 unfold wU at h
 refine aH h fun g0 h => aH h fun g1 h => ?_
 refine ⟨fun hc => ?_, fun hc => ?_⟩
 ·replace h := fU hc h
  refine aH h fun g0 h => aH h fun g1 h => ?_
  replace h := hA1 _ (aA h)
  exact aP _ h rfl (by simp only [go_sem])
 ·replace h := fV hc h
  replace h := hE1 _ (aA h)
  try dsimp only at h
  exact aG hF [.tmp 2] rfl rfl rfl (aA h) (by simp only [aV, go_sem])
theorem tS : FOK Tryz.prog GL 163 fL := fD aP6 (fun ⟨x0, u⟩ ⟨w0, wu⟩ hp => aOg x0 w0)
def aKB : PlR := ⟨[(0, .A [0]), (1, .A [2])], []⟩
def aGA : Ty := .pair (.sl (.u .u64)) .unit
noncomputable def aB4 : aI := ⟨aGA, .one .bool, fun _ => True, fun x => aBt x.1⟩
attribute [go_sem] aB4 aGA
noncomputable def aRD : aI := mSpec aGA (.one .bool) (fun x => aBs x.1)
noncomputable def aT5 : List (FuncId × aI) := []
theorem aT6 : bF Tryz.prog GL aT5 := .nil
attribute [go_sem] aKB
set_option maxHeartbeats 4000000 in
theorem aRE : FOK Tryz.prog GL 120 aRD := by
 refine bD (bE aT6) mix Tryz.func120 rfl (by kernel_rfl) (by decide) aKB fun w0 S x Θ hw h hF => ?_
 obtain ⟨(a_0 : (List Nat)), u⟩ := x
 simp only [bH, go_sem]
 replace h : sat (aBs a_0) _ := h
 unfold aBs at h
 obtain ⟨g0, h⟩ := aJ h
 obtain ⟨g1, h⟩ := aJ h
 repeat (refine ⟨by omega, ?_⟩)
 exact aG hF [.tmp 2] rfl rfl rfl (aA h) (by simp only [aV, go_sem])
theorem aRF : FOK Tryz.prog GL 120 aB4 := fD aRE (fun ⟨x0, u⟩ ⟨w0, wu⟩ hp => aP0 x0 w0)
def aHk : PlR := ⟨[(0, .A [0]), (1, .A [3]), (2, .A [2]), (3, .A [2])], []⟩
def aEM : Ty := .pair .bool .unit
noncomputable def aAD : aI := ⟨aEM, .one (.i .i64), fun _ => True, fun x => tE x.1⟩
attribute [go_sem] aAD aEM
noncomputable def aP7 : aI := mSpec aEM (.one (.i .i64)) (fun x => aAe x.1)
noncomputable def aRG : List (FuncId × aI) := []
theorem aRH : bF Tryz.prog GL aRG := .nil
attribute [go_sem] aHk
set_option maxHeartbeats 4000000 in
theorem aP8 : FOK Tryz.prog GL 189 aP7 := by
 refine bD (bE aRH) mix Tryz.func189 rfl (by kernel_rfl) (by decide) aHk fun w0 S x Θ hw h hF => ?_
 obtain ⟨(less_0 : Bool), u⟩ := x
 simp only [bH, go_sem]
 replace h : sat (aAe less_0) _ := h
 unfold aAe at h
 refine aHe h (fun hc h => ?_) fun hc h => ?_
 ·exact aG hF [.tmp 2] rfl rfl rfl (aA h) (by simp only [aV, go_sem])
 ·exact aG hF [.tmp 2] rfl rfl rfl (aA h) (by simp only [aV, go_sem])
theorem aP9 : FOK Tryz.prog GL 189 aAD := fD aP8 (fun ⟨x0, u⟩ ⟨w0, wu⟩ hp => aOh x0 w0)
def aFq : PlR := ⟨[(0, .A [0, 1]), (1, .A [0, 1, 10]), (2, .A [4]), (3, .A [0, 1, 5]), (4, .A [0, 1, 5, 21]), (5, .A [0, 1, 5]), (6, .A [0, 1, 5, 32]), (7, .A [4]), (8, .A [4])], []⟩
def aDc : Ty := .pair (.sl (.u .u64)) (.pair (.sl (.u .u64)) .unit)
noncomputable def rS : aI := ⟨aDc, .one (.i .i64), fun x => aTb x.1 x.2.1, fun x => oX x.1 x.2.1⟩
attribute [go_sem] rS aDc
noncomputable def aOs : aI := mSpec aDc (.one (.i .i64)) (fun x => xK x.1 x.2.1)
noncomputable def aHl : List (FuncId × aI) := [(189, aAD)]
theorem aQa : bF Tryz.prog GL aHl := .cons aP9 (by kernel_rfl) (.nil)
theorem aIm : gam aHl 189 = some aAD := rfl
attribute [go_sem] aFq aIm
set_option maxHeartbeats 4000000 in
theorem aOt : FOK Tryz.prog GL 122 aOs := by
 refine bD (bE aQa) mix Tryz.func122 rfl (by kernel_rfl) (by decide) aFq fun w0 S x Θ hw h hF => ?_
 obtain ⟨(a_0 : (List Nat)), (b_1 : (List Nat)), u⟩ := x
 simp only [bH, go_sem]
 replace h : sat (xK a_0 b_1) _ := h
 unfold xK at h
 refine ⟨fun hc => ?_, fun hc => ?_⟩
 ·replace h := fU hc h
  exact aG hF [.tmp 4] rfl rfl rfl (aA h) (by simp only [aV, go_sem])
 ·replace h := fV (by first | exact hc | omega | simpa using hc) h
  refine aH h fun g0 h => ?_
  refine bC hF (D := Int) [0, 1] (fun d => [(5, .val (.i .i64) d)]) (fun d => []) h rfl (by simp only [go_sem]) ?_
  rintro i_5 A4 T4 hA4 hE4 h
  simp only [go_sem]
  replace h : sat (qZ a_0 b_1 i_5) _ := h
  unfold qZ at h
  refine aBW h (fun hc h => ?_) fun hc h => ?_
  ·refine aH h fun g0 h => aH h fun g1 h => ?_
   refine ⟨fun hc => ?_, fun hc => ?_⟩
   ·replace h := fU hc h
    refine aH h fun g0 h => aH h fun g1 h => ?_
    replace h := hE4 _ (aA h)
    try dsimp only at h
    exact aG hF [.tmp 4] rfl rfl rfl (aA h) (by simp only [aV, go_sem])
   ·replace h := fV (by first | exact hc | omega | simpa using hc) h
    refine aH h fun g0 h => ?_
    replace h := hA4 _ (aA h)
    exact aP _ h rfl (by simp only [go_sem])
  ·replace h := hE4 _ (aA h)
   try dsimp only at h
   exact aG hF [.tmp 4] rfl rfl rfl (aA h) (by simp only [aV, go_sem])
theorem aFr : FOK Tryz.prog GL 122 rS := fD aOt (fun ⟨x0, x1, u⟩ ⟨w0, w1, wu⟩ hp => aMd x0 w0 x1 w1 hp)
def aHm : PlR := ⟨[(0, .A [0]), (1, .A [0, 5]), (2, .A [2]), (3, .A [2])], []⟩
def aEN : Ty := .pair (.sl (.u .u64)) .unit
noncomputable def aAE : aI := ⟨aEN, .one (.i .i64), fun x => aTc x.1, fun x => kW x.1⟩
attribute [go_sem] aAE aEN
noncomputable def aQb : aI := mSpec aEN (.one (.i .i64)) (fun x => aAf x.1)
noncomputable def aKC : List (FuncId × aI) := [(188, dC)]
theorem aRI : bF Tryz.prog GL aKC := .cons pK (by kernel_rfl) (.nil)
theorem aKD : gam aKC 188 = some dC := rfl
attribute [go_sem] aHm aKD
set_option maxHeartbeats 4000000 in
theorem aQc : FOK Tryz.prog GL 121 aQb := by
 refine bD (bE aRI) mix Tryz.func121 rfl (by kernel_rfl) (by decide) aHm fun w0 S x Θ hw h hF => ?_
 obtain ⟨(a_0 : (List Nat)), u⟩ := x
 simp only [bH, go_sem]
 replace h : sat (aAf a_0) _ := h
 unfold aAf at h
 refine cX h (fun hc h => ?_) fun hc h => ?_
 ·exact aG hF [.tmp 2] rfl rfl rfl (aA h) (by simp only [aV, go_sem])
 ·refine aH h fun g0 h => aH h fun g1 h => aH h fun g2 h => aH h fun g3 h => ?_
  exact aG hF [.tmp 2] rfl rfl rfl (aA h) (by simp only [aV, go_sem])
theorem aQd : FOK Tryz.prog GL 121 aAE := fD aQc (fun ⟨x0, u⟩ ⟨w0, wu⟩ hp => aOi x0 w0 hp)
def aFs : PlR := ⟨[(0, .A [0]), (1, .A [5, 6, 7]), (2, .A [5, 6, 7, 8]), (3, .A [3, 4, 5, 6, 7]), (4, .A [3, 4, 5, 6, 7, 13]), (5, .A [2]), (6, .A [5, 6, 7]), (7, .A [2])], []⟩
def aDd : Ty := .pair (.sl (.u .u64)) .unit
noncomputable def yS : aI := ⟨aDd, .one (.i .i64), fun x => pSz x.1, fun x => rB x.1⟩
attribute [go_sem] yS aDd
noncomputable def aOu : aI := mSpec aDd (.one (.i .i64)) (fun x => xL x.1)
noncomputable def aHn : List (FuncId × aI) := [(164, iZ)]
theorem aQe : bF Tryz.prog GL aHn := .cons aBw (by kernel_rfl) (.nil)
theorem aIn : gam aHn 164 = some iZ := rfl
attribute [go_sem] aFs aIn
set_option maxHeartbeats 4000000 in
theorem aOv : FOK Tryz.prog GL 98 aOu := by
 refine bD (bE aQe) mix Tryz.func98 rfl (by kernel_rfl) (by decide) aFs fun w0 S x Θ hw h hF => ?_
 obtain ⟨(a_0 : (List Nat)), u⟩ := x
 simp only [bH, go_sem]
 replace h : sat (xL a_0) _ := h
 unfold xL at h
 refine bC hF (D := Int) [5, 6] (fun d => [(7, .val (.i .i64) d)]) (fun d => []) h rfl (by simp only [go_sem]) ?_
 rintro x7_4 A2 T2 hA2 hE2 h
 simp only [go_sem]
 replace h : sat (rA a_0 x7_4) _ := h
 unfold rA at h
 refine bW h (fun hc h => ?_) fun hc h => ?_
 ·refine aH h fun g0 h => ?_
  refine ⟨fun hc => ?_, fun hc => ?_⟩
  ·replace h := fU hc h
   refine aH h fun g0 h => aH h fun g1 h => ?_
   replace h := hE2 _ (aA h)
   try dsimp only at h
   exact aG hF [.tmp 2] rfl rfl rfl (aA h) (by simp only [aV, go_sem])
  ·replace h := fV (by first | exact hc | omega | simpa using hc) h
   refine aH h fun g0 h => ?_
   replace h := hA2 _ (aA h)
   exact aP _ h rfl (by simp only [go_sem])
 ·replace h := hE2 _ (aA h)
  try dsimp only at h
  exact aG hF [.tmp 2] rfl rfl rfl (aA h) (by simp only [aV, go_sem])
theorem aOw : FOK Tryz.prog GL 98 yS := fD aOv (fun ⟨x0, u⟩ ⟨w0, wu⟩ hp => aMe x0 w0 hp)
def aHo : PlR := ⟨[(0, .A [0, 1]), (1, .A [0, 1, 13]), (2, .A [0, 1]), (3, .B [1, 5]), (4, .A [1, 5, 6]), (5, .A [1, 5, 6, 21, 22]), (6, .A [1, 5, 6, 21, 22, 23]), (7, .A [1, 5, 6, 7, 21, 22]), (8, .A [1, 5, 6, 7, 8, 21, 22]), (9, .A [1, 5, 6, 7, 8, 21, 22, 25]), (10, .A [1, 5, 6, 7, 8, 21, 22]), (11, .A [1, 5, 6, 7, 8, 21, 22, 34]), (12, .B [1, 5, 6, 21, 22]), (13, .A [1, 5, 6, 21, 22]), (14, .B [4])], [(4, 6), (12, 15)]⟩
def aEO : Ty := .pair (.sl (.u .u64)) (.pair (.sl (.u .u64)) .unit)
noncomputable def aAF : aI := ⟨aEO, .one (.sl (.u .u64)), fun x => aRx x.1 x.2.1, fun x => tF x.1 x.2.1⟩
attribute [go_sem] aAF aEO
noncomputable def aQf : aI := mSpec aEO (.one (.sl (.u .u64))) (fun x => aAg x.1 x.2.1)
noncomputable def aB5 : List (FuncId × aI) := [(162, kE), (163, fL), (165, cR)]
theorem aRJ : bF Tryz.prog GL aB5 := .nat aA2 (.cons tS (by kernel_rfl) (.cons pH (by kernel_rfl) (.nil)))
theorem aKE : gam aB5 162 = some kE := rfl
theorem aKF : gam aB5 163 = some fL := rfl
theorem aKG : gam aB5 165 = some cR := rfl
attribute [go_sem] aHo aKE aKF aKG
set_option maxHeartbeats 4000000 in
theorem aQg : FOK Tryz.prog GL 99 aQf := by
 refine bD (bE aRJ) mix Tryz.func99 rfl (by kernel_rfl) (by decide) aHo fun w0 S x Θ hw h hF => ?_
 obtain ⟨(a_0 : (List Nat)), (b_1 : (List Nat)), u⟩ := x
 simp only [bH, go_sem]
 replace h : sat (aAg a_0 b_1) _ := h
 unfold aAg at h
 refine cO hF (D := (List Nat) × (List Nat)) (fun d => sat (nH d.1 d.2) Θ) [] (fun d => [(0, .val (.sl (.u .u64)) d.1), (1, .val (.sl (.u .u64)) d.2)]) (fun d => []) ?_ ?_
 ·simp only [go_sem]
  refine bW h (fun hc h => ?_) fun hc h => ?_
  ·exact aP ((b_1, a_0)) h rfl (by simp only [go_sem])
  ·exact aP ((a_0, b_1)) h rfl (by simp only [go_sem])
 ·rintro ⟨a_3, b_4⟩ h
  simp only [go_sem]
  replace h : sat (nH a_3 b_4) _ := h
  unfold nH at h
  refine aH h fun g0 h => ?_
  obtain ⟨g0, h⟩ := aJ h
  repeat (refine ⟨by omega, ?_⟩)
  refine aN5 [1] rfl rfl ?_
  simp only [go_sem]
  refine bC hF (D := Nat × Int × (List Nat)) [1, 21] (fun d => [(5, .own 0), (6, .val (.u .u64) d.1), (22, .val (.i .i64) d.2.1)]) (fun d => [.inr (.row 83 (.u .u64) d.2.2)]) h rfl (by simp only [go_sem]) ?_
  rintro ⟨carry_12, x22_13, out_14⟩ A6 T6 hA6 hE6 h
  simp only [go_sem]
  replace h : sat (nG a_3 b_4 carry_12 x22_13 out_14) _ := h
  unfold nG at h
  refine bW h (fun hc h => ?_) fun hc h => ?_
  ·refine cO hF (D := Nat) (fun d => sat (nF x22_13 out_14 carry_12 d) T6) [1, 6, 7, 21, 22] (fun d => [(5, .own 0), (8, .val (.u .u64) d)]) (fun d => [.inr (.row 83 (.u .u64) out_14)]) ?_ ?_
   ·simp only [go_sem]
    refine bW h (fun hc h => ?_) fun hc h => ?_
    ·obtain ⟨g0, h⟩ := aJ h
     repeat (refine ⟨by omega, ?_⟩)
     exact aP ((b_4.getD (x22_13.toNat) (0 : Nat))) h rfl (by simp only [go_sem])
    ·refine cX h (fun hc h => ?_) fun hc h => ?_
     ·replace h := hE6 _ (aA h)
      try dsimp only at h
      exact aG hF [.tmp 4] rfl rfl rfl (aA h) (by simp only [aV, go_sem])
     ·exact aP ((0 : Nat)) h rfl (by simp only [go_sem])
   ·rintro x_21 h
    simp only [go_sem]
    replace h : sat (nF x22_13 out_14 carry_12 x_21) _ := h
    unfold nF at h
    obtain ⟨g0, h⟩ := aJ h
    repeat (refine ⟨by omega, ?_⟩)
    obtain ⟨g0, h⟩ := aJ h
    repeat (refine ⟨by omega, ?_⟩)
    obtain ⟨g0, h⟩ := aJ h
    repeat (refine ⟨by omega, ?_⟩)
    refine aH h fun g0 h => ?_
    replace h := hA6 _ (aA h)
    exact aP _ h rfl (by simp only [go_sem])
  ·replace h := hE6 _ (aA h)
   try dsimp only at h
   exact aG hF [.tmp 4] rfl rfl rfl (aA h) (by simp only [aV, go_sem])
theorem aQh : FOK Tryz.prog GL 99 aAF := fD aQg (fun ⟨x0, x1, u⟩ ⟨w0, w1, wu⟩ hp => aOj x0 w0 x1 w1 hp)
end Nu
end Go.Proofs
namespace Go.Proofs
open Go.Vc
set_option maxRecDepth 20000
namespace Nu
def aFt : PlR := ⟨[(0, .A [0, 1]), (1, .B [0, 1, 5]), (2, .A [1, 5, 20, 21, 22]), (3, .A [1, 5, 20, 21, 22, 23]), (4, .A [1, 5, 6, 7, 20, 21, 22]), (5, .A [1, 5, 6, 7, 8, 20, 21, 22]), (6, .A [1, 5, 6, 7, 8, 20, 21, 22, 27, 28, 29]), (7, .A [1, 5, 6, 7, 8, 20, 21, 22, 27, 28, 29, 30]), (8, .A [1, 5, 6, 7, 8, 9, 10, 20, 21, 22, 27, 28, 29]), (9, .A [1, 5, 6, 7, 8, 9, 11, 12, 20, 21, 22, 27, 28, 29]), (10, .A [1, 5, 6, 7, 8, 9, 11, 12, 20, 21, 22, 27, 28, 29]), (11, .A [1, 5, 6, 7, 9, 11, 12, 13, 20, 21, 22, 27, 28, 29]), (12, .A [1, 5, 6, 7, 9, 11, 12, 20, 21, 22, 27, 28, 29]), (13, .B [1, 5, 6, 7, 11, 13, 20, 21, 22, 27, 28, 29]), (14, .A [1, 5, 6, 7, 8, 20, 21, 22, 27, 28, 29]), (15, .A [1, 5, 6, 7, 8, 20, 21, 22, 27, 28, 29]), (16, .B [1, 5, 20, 21, 22]), (17, .A [1, 5, 20, 21, 22]), (18, .B [4])], [(9, 19)]⟩
def aDe : Ty := .pair (.sl (.u .u64)) (.pair (.sl (.u .u64)) .unit)
noncomputable def rT : aI := ⟨aDe, .one (.sl (.u .u64)), fun x => aRx x.1 x.2.1, fun x => dF x.1 x.2.1⟩
attribute [go_sem] rT aDe
noncomputable def aOx : aI := mSpec aDe (.one (.sl (.u .u64))) (fun x => xM x.1 x.2.1)
noncomputable def aAG : List (FuncId × aI) := [(161, kF), (162, kE), (163, fL)]
theorem aQi : bF Tryz.prog GL aAG := .cons aA5 (by kernel_rfl) (.nat aA2 (.cons tS (by kernel_rfl) (.nil)))
theorem aIo : gam aAG 161 = some kF := rfl
theorem aIp : gam aAG 162 = some kE := rfl
theorem aIq : gam aAG 163 = some fL := rfl
attribute [go_sem] aFt aIo aIp aIq
set_option maxHeartbeats 4000000 in
theorem aOy : FOK Tryz.prog GL 94 aOx := by
 refine bD (bE aQi) mix Tryz.func94 rfl (by kernel_rfl) (by decide) aFt fun w0 S x Θ hw h hF => ?_
 obtain ⟨(a_0 : (List Nat)), (b_1 : (List Nat)), u⟩ := x
 simp only [bH, go_sem]
 replace h : sat (xM a_0 b_1) _ := h
 unfold xM at h
 refine aH h fun g0 h => ?_
 obtain ⟨g0, h⟩ := aJ h
 obtain ⟨g1, h⟩ := aJ h
 repeat (refine ⟨by omega, ?_⟩)
 refine bC hF (D := Int × (List Nat)) [1, 20, 21] (fun d => [(5, .own 0), (22, .val (.i .i64) d.1)]) (fun d => [.inr (.row 83 (.u .u64) d.2)]) h rfl (by simp only [go_sem]) ?_
 rintro ⟨x22_34, out_35⟩ A3 T3 hA3 hE3 h
 simp only [go_sem]
 replace h : sat (kY a_0 b_1 x22_34 out_35) _ := h
 unfold kY at h
 refine bW h (fun hc h => ?_) fun hc h => ?_
 ·obtain ⟨g0, h⟩ := aJ h
  repeat (refine ⟨by omega, ?_⟩)
  refine cO hF (D := Nat × (List Nat)) (fun d => sat (rC x22_34 b_1 d.1 d.2) T3) [1, 6, 20, 21, 22] (fun d => [(5, .own 0), (8, .val (.u .u64) d.1)]) (fun d => [.inr (.row 83 (.u .u64) d.2)]) ?_ ?_
  ·simp only [go_sem]
   refine bC hF (D := Nat × Int × (List Nat)) [1, 6, 7, 20, 21, 22, 27, 28] (fun d => [(5, .own 0), (8, .val (.u .u64) d.1), (29, .val (.i .i64) d.2.1)]) (fun d => [.inr (.row 83 (.u .u64) d.2.2)]) h rfl (by simp only [go_sem]) ?_
   rintro ⟨carry_64, x29_65, out_66⟩ A7 T7 hA7 hE7 h
   simp only [go_sem]
   replace h : sat (kX b_1 a_0 x22_34 carry_64 x29_65 out_66) _ := h
   unfold kX at h
   refine bW h (fun hc h => ?_) fun hc h => ?_
   ·obtain ⟨g0, h⟩ := aJ h
    repeat (refine ⟨by omega, ?_⟩)
    obtain ⟨g0, h⟩ := aJ h
    repeat (refine ⟨by omega, ?_⟩)
    obtain ⟨g0, h⟩ := aJ h
    repeat (refine ⟨by omega, ?_⟩)
    obtain ⟨g0, h⟩ := aJ h
    repeat (refine ⟨by omega, ?_⟩)
    obtain ⟨g0, h⟩ := aJ h
    repeat (refine ⟨by omega, ?_⟩)
    obtain ⟨g0, h⟩ := aJ h
    repeat (refine ⟨by omega, ?_⟩)
    obtain ⟨g0, h⟩ := aJ h
    repeat (refine ⟨by omega, ?_⟩)
    obtain ⟨g0, h⟩ := aJ h
    repeat (refine ⟨by omega, ?_⟩)
    replace h := hA7 _ (aA h)
    exact aP _ h rfl (by simp only [go_sem])
   ·replace h := hE7 _ (aA h)
    try dsimp only at h
    exact aP ((carry_64, out_66)) h rfl (by simp only [go_sem])
  ·rintro ⟨carry_62, out_63⟩ h
   simp only [go_sem]
   replace h : sat (rC x22_34 b_1 carry_62 out_63) _ := h
   unfold rC at h
   obtain ⟨g0, h⟩ := aJ h
   repeat (refine ⟨by omega, ?_⟩)
   obtain ⟨g0, h⟩ := aJ h
   repeat (refine ⟨by omega, ?_⟩)
   obtain ⟨g0, h⟩ := aJ h
   repeat (refine ⟨by omega, ?_⟩)
   replace h := hA3 _ (aA h)
   exact aP _ h rfl (by simp only [go_sem])
 ·replace h := hE3 _ (aA h)
  try dsimp only at h
  exact aG hF [.tmp 4] rfl rfl rfl (aA h) (by simp only [aV, go_sem])
theorem aFu : FOK Tryz.prog GL 94 rT := fD aOy (fun ⟨x0, x1, u⟩ ⟨w0, w1, wu⟩ hp => aMf x0 w0 x1 w1 hp)
def aHp : PlR := ⟨[(0, .A [0, 1]), (1, .A [0, 1, 10]), (2, .A [4]), (3, .B [0, 1, 5]), (4, .A [1, 5, 18, 19, 20]), (5, .A [1, 5, 18, 19, 20, 21]), (6, .A [1, 5, 6, 7, 18, 19, 20]), (7, .B [1, 5, 6, 7, 18, 19, 20]), (8, .B [1, 5, 18, 19, 20]), (9, .A [1, 5, 18, 19, 20]), (10, .B [4])], []⟩
def aEP : Ty := .pair (.sl (.u .u64)) (.pair (.i .i64) .unit)
noncomputable def oY : aI := ⟨aEP, .one (.sl (.u .u64)), fun x => aKz x.1 x.2.1, fun x => cF x.1 x.2.1⟩
attribute [go_sem] oY aEP
noncomputable def aQj : aI := mSpec aEP (.one (.sl (.u .u64))) (fun x => aAh x.1 x.2.1)
noncomputable def aKH : List (FuncId × aI) := [(163, fL)]
theorem aRK : bF Tryz.prog GL aKH := .cons tS (by kernel_rfl) (.nil)
theorem aKI : gam aKH 163 = some fL := rfl
attribute [go_sem] aHp aKI
set_option maxHeartbeats 4000000 in
theorem aQk : FOK Tryz.prog GL 95 aQj := by
 refine bD (bE aRK) mix Tryz.func95 rfl (by kernel_rfl) (by decide) aHp fun w0 S x Θ hw h hF => ?_
 obtain ⟨(a_0 : (List Nat)), (n_1 : Int), u⟩ := x
 simp only [bH, go_sem]
 replace h : sat (aAh a_0 n_1) _ := h
 unfold aAh at h
 refine cX h (fun hc h => ?_) fun hc h => ?_
 ·exact aG hF [.tmp 4] rfl rfl rfl (aA h) (by simp only [aV, go_sem])
 ·obtain ⟨g0, h⟩ := aJ h
  try simp only [I64, I32] at g0
  repeat (refine ⟨by first | with_reducible assumption | omega | (intros; first | assumption | omega) | (simp only [go_sem] at *; first | assumption | omega) | decide, ?_⟩)
  obtain ⟨g0, h⟩ := aJ h
  try simp only [I64, I32] at g0
  repeat (refine ⟨by first | with_reducible assumption | omega | (intros; first | assumption | omega) | (simp only [go_sem] at *; first | assumption | omega) | decide, ?_⟩)
  obtain ⟨g0, h⟩ := aJ h
  try simp only [I64, I32] at g0
  repeat (refine ⟨by first | with_reducible assumption | omega | (intros; first | assumption | omega) | (simp only [go_sem] at *; first | assumption | omega) | decide, ?_⟩)
  obtain ⟨g0, h⟩ := aJ h
  obtain ⟨g1, h⟩ := aJ h
  repeat (refine ⟨by first | with_reducible assumption | omega | (intros; first | assumption | omega) | (simp only [go_sem] at *; first | assumption | omega) | decide, ?_⟩)
  refine bC hF (D := Int × (List Nat)) [1, 18, 19] (fun d => [(5, .own 0), (20, .val (.i .i64) d.1)]) (fun d => [.inr (.row 83 (.u .u64) d.2)]) h rfl (by simp only [go_sem]) ?_
  rintro ⟨x20_7, out_8⟩ A5 T5 hA5 hE5 h
  simp only [go_sem]
  replace h : sat (nI a_0 n_1 x20_7 out_8) _ := h
  unfold nI at h
  refine bW h (fun hc h => ?_) fun hc h => ?_
  ·obtain ⟨g0, h⟩ := aJ h
   repeat (refine ⟨by first | with_reducible assumption | omega | (intros; first | assumption | omega) | (simp only [go_sem] at *; first | assumption | omega) | decide, ?_⟩)
   obtain ⟨g0, h⟩ := aJ h
   try simp only [I64, I32] at g0
   repeat (refine ⟨by first | with_reducible assumption | omega | (intros; first | assumption | omega) | (simp only [go_sem] at *; first | assumption | omega) | decide, ?_⟩)
   obtain ⟨g0, h⟩ := aJ h
   try simp only [I64, I32] at g0
   repeat (refine ⟨by first | with_reducible assumption | omega | (intros; first | assumption | omega) | (simp only [go_sem] at *; first | assumption | omega) | decide, ?_⟩)
   obtain ⟨g0, h⟩ := aJ h
   repeat (refine ⟨by first | with_reducible assumption | omega | (intros; first | assumption | omega) | (simp only [go_sem] at *; first | assumption | omega) | decide, ?_⟩)
   obtain ⟨g0, h⟩ := aJ h
   repeat (refine ⟨by first | with_reducible assumption | omega | (intros; first | assumption | omega) | (simp only [go_sem] at *; first | assumption | omega) | decide, ?_⟩)
   obtain ⟨g0, h⟩ := aJ h
   try simp only [I64, I32] at g0
   repeat (refine ⟨by first | with_reducible assumption | omega | (intros; first | assumption | omega) | (simp only [go_sem] at *; first | assumption | omega) | decide, ?_⟩)
   obtain ⟨g0, h⟩ := aJ h
   try simp only [I64, I32] at g0
   repeat (refine ⟨by first | with_reducible assumption | omega | (intros; first | assumption | omega) | (simp only [go_sem] at *; first | assumption | omega) | decide, ?_⟩)
   obtain ⟨g0, h⟩ := aJ h
   try simp only [I64, I32] at g0
   repeat (refine ⟨by first | with_reducible assumption | omega | (intros; first | assumption | omega) | (simp only [go_sem] at *; first | assumption | omega) | decide, ?_⟩)
   obtain ⟨g0, h⟩ := aJ h
   repeat (refine ⟨by first | with_reducible assumption | omega | (intros; first | assumption | omega) | (simp only [go_sem] at *; first | assumption | omega) | decide, ?_⟩)
   obtain ⟨g0, h⟩ := aJ h
   try simp only [I64, I32] at g0
   repeat (refine ⟨by first | with_reducible assumption | omega | (intros; first | assumption | omega) | (simp only [go_sem] at *; first | assumption | omega) | decide, ?_⟩)
   obtain ⟨g0, h⟩ := aJ h
   repeat (refine ⟨by first | with_reducible assumption | omega | (intros; first | assumption | omega) | (simp only [go_sem] at *; first | assumption | omega) | decide, ?_⟩)
   obtain ⟨g0, h⟩ := aJ h
   try simp only [I64, I32] at g0
   repeat (refine ⟨by first | with_reducible assumption | omega | (intros; first | assumption | omega) | (simp only [go_sem] at *; first | assumption | omega) | decide, ?_⟩)
   replace h := hA5 _ (aA h)
   exact aP _ h rfl (by (try simp only [kU, hZ, true_or, and_self, go_sem]) <;> (repeat' apply And.intro) <;> first | rfl | (left; rfl) | (right; rfl) | (left; simp only [go_sem]; done) | (right; simp only [go_sem]; done) | (simp; done) | (simp only [*]; done) | omega)
  ·replace h := hE5 _ (aA h)
   try dsimp only at h
   exact aG hF [.tmp 4] rfl rfl rfl (aA h) (by simp only [aV, go_sem])
theorem aDf : FOK Tryz.prog GL 95 oY := fD aQk (fun ⟨x0, x1, u⟩ ⟨w0, w1, wu⟩ hp => aOl x0 w0 x1 w1 hp)
def aFv : PlR := ⟨[(0, .A [0, 1]), (1, .A [0, 1, 12]), (2, .A [4]), (3, .A [0, 1]), (4, .B [0, 1, 5]), (5, .A [0, 1, 5, 20, 21, 22]), (6, .A [0, 1, 5, 20, 21, 22, 23]), (7, .A [0, 1, 5, 6, 7, 20, 21, 22]), (8, .B [0, 1, 5, 6, 20, 21, 22]), (9, .A [0, 1, 5, 6, 20, 21, 22, 39]), (10, .C 17 [0, 1, 5, 20, 21, 22]), (11, .A [0, 1, 5, 20, 21, 22]), (12, .B [4])], []⟩
def aDg : Ty := .pair (.sl (.u .u64)) (.pair (.i .i64) .unit)
noncomputable def rU : aI := ⟨aDg, .one (.sl (.u .u64)), fun x => aOm x.1 x.2.1, fun x => gR x.1 x.2.1⟩
attribute [go_sem] rU aDg
noncomputable def aOz : aI := mSpec aDg (.one (.sl (.u .u64))) (fun x => xN x.1 x.2.1)
noncomputable def aHq : List (FuncId × aI) := [(163, fL)]
theorem aQl : bF Tryz.prog GL aHq := .cons tS (by kernel_rfl) (.nil)
theorem aIr : gam aHq 163 = some fL := rfl
attribute [go_sem] aFv aIr
set_option maxHeartbeats 4000000 in
theorem aOA : FOK Tryz.prog GL 97 aOz := by
 refine bD (bE aQl) mix Tryz.func97 rfl (by kernel_rfl) (by decide) aFv fun w0 S x Θ hw h hF => ?_
 obtain ⟨(a_0 : (List Nat)), (n_1 : Int), u⟩ := x
 simp only [bH, go_sem]
 replace h : sat (xN a_0 n_1) _ := h
 unfold xN at h
 obtain ⟨g0, h⟩ := aJ h
 try simp only [I64, I32] at g0
 repeat (refine ⟨by first | with_reducible assumption | omega | (intros; first | assumption | omega) | (simp only [go_sem] at *; first | assumption | omega) | decide, ?_⟩)
 refine aBW h (fun hc h => ?_) fun hc h => ?_
 ·exact aG hF [.tmp 4] rfl rfl rfl (aA h) (by simp only [aV, go_sem])
 ·obtain ⟨g0, h⟩ := aJ h
  obtain ⟨g1, h⟩ := aJ h
  try simp only [I64, I32] at g0
  repeat (refine ⟨by first | with_reducible assumption | omega | (intros; first | assumption | omega) | (simp only [go_sem] at *; first | assumption | omega) | decide, ?_⟩)
  obtain ⟨g0, h⟩ := aJ h
  obtain ⟨g1, h⟩ := aJ h
  repeat (refine ⟨by first | with_reducible assumption | omega | (intros; first | assumption | omega) | (simp only [go_sem] at *; first | assumption | omega) | decide, ?_⟩)
  refine bC hF (D := Int × (List Nat)) [0, 1, 20, 21] (fun d => [(5, .own 0), (22, .val (.i .i64) d.1)]) (fun d => [.inr (.row 83 (.u .u64) d.2)]) h rfl (by simp only [go_sem]) ?_
  rintro ⟨x22_10, out_11⟩ A6 T6 hA6 hE6 h
  simp only [go_sem]
  replace h : sat (kZ n_1 a_0 x22_10 out_11) _ := h
  unfold kZ at h
  refine bW h (fun hc h => ?_) fun hc h => ?_
  ·obtain ⟨g0, h⟩ := aJ h
   repeat (refine ⟨by first | with_reducible assumption | omega | (intros; first | assumption | omega) | (simp only [go_sem] at *; first | assumption | omega) | decide, ?_⟩)
   obtain ⟨g0, h⟩ := aJ h
   repeat (refine ⟨by first | with_reducible assumption | omega | (intros; first | assumption | omega) | (simp only [go_sem] at *; first | assumption | omega) | decide, ?_⟩)
   obtain ⟨g0, h⟩ := aJ h
   try simp only [I64, I32] at g0
   repeat (refine ⟨by first | with_reducible assumption | omega | (intros; first | assumption | omega) | (simp only [go_sem] at *; first | assumption | omega) | decide, ?_⟩)
   refine ⟨fun hc => ?_, fun hc => ?_⟩
   ·replace h := fU hc h
    obtain ⟨g0, h⟩ := aJ h
    obtain ⟨g1, h⟩ := aJ h
    obtain ⟨g2, h⟩ := aJ h
    obtain ⟨g3, h⟩ := aJ h
    obtain ⟨g4, h⟩ := aJ h
    try simp only [I64, I32] at g1
    try simp only [I64, I32] at g3
    repeat (refine ⟨by first | with_reducible assumption | omega | (intros; first | assumption | omega) | (simp only [go_sem] at *; first | assumption | omega) | decide, ?_⟩)
    obtain ⟨g0, h⟩ := aJ h
    try simp only [I64, I32] at g0
    repeat (refine ⟨by first | with_reducible assumption | omega | (intros; first | assumption | omega) | (simp only [go_sem] at *; first | assumption | omega) | decide, ?_⟩)
    replace h := hA6 _ (aA h)
    exact aP _ h rfl (by (try simp only [kU, hZ, true_or, and_self, go_sem]) <;> (repeat' apply And.intro) <;> first | rfl | (left; rfl) | (right; rfl) | (left; simp only [go_sem]; done) | (right; simp only [go_sem]; done) | (simp; done) | (simp only [*]; done) | omega)
   ·replace h := fV (by first | exact hc | omega) h
    obtain ⟨g0, h⟩ := aJ h
    try simp only [I64, I32] at g0
    repeat (refine ⟨by first | with_reducible assumption | omega | (intros; first | assumption | omega) | (simp only [go_sem] at *; first | assumption | omega) | decide, ?_⟩)
    replace h := hA6 _ (aA h)
    exact aP _ h rfl (by simp only [go_sem])
  ·replace h := hE6 _ (aA h)
   try dsimp only at h
   exact aG hF [.tmp 4] rfl rfl rfl (aA h) (by simp only [aV, go_sem])
theorem aFw : FOK Tryz.prog GL 97 rU := fD aOA (fun ⟨x0, x1, u⟩ ⟨w0, w1, wu⟩ hp => aMg x0 w0 x1 w1 hp)
end Nu
end Go.Proofs
namespace Go.Proofs
open Go.Vc
set_option maxRecDepth 20000
namespace Nu
def aEe : PlR := ⟨[(2, .stop), (4, .stop)], [(20, 24), (27, 31)]⟩
def aB6 : Ty := .pair (.u .u64) (.pair (.u .u64) (.pair (.u .u64) .unit))
noncomputable def qE : aI := ⟨aB6, .tup (.pair (.u .u64) (.pair (.u .u64) .unit)), fun x => yR x.1 x.2.1 x.2.2.1, fun x => jW x.1 x.2.1 x.2.2.1⟩
attribute [go_sem] qE aB6
noncomputable def aMm : aI := mSpec aB6 (.tup (.pair (.u .u64) (.pair (.u .u64) .unit))) (fun x => vA x.1 x.2.1 x.2.2.1)
noncomputable def aFx : List (FuncId × aI) := [(188, dC)]
theorem aOB : bF Tryz.prog GL aFx := .cons pK (by kernel_rfl) (.nil)
theorem aGB : gam aFx 188 = some dC := rfl
attribute [go_sem] aEe aGB
set_option maxHeartbeats 4000000 in
theorem aMn : FOK Tryz.prog GL 252 aMm := by
 refine bD (bE aOB) mix Tryz.func252 rfl (by kernel_rfl) (by decide) aEe fun w0 S x Θ hw h hF => ?_
 obtain ⟨(hi_0 : Nat), (lo_1 : Nat), (y_2 : Nat), u⟩ := x
 simp only [bH, go_sem]
 replace h : sat (vA hi_0 lo_1 y_2) _ := h
 unfold vA at h
 refine cT hF [0, 1, 2] ?_
 simp only [go_sem]
 refine cT hF [0, 1, 2, 20] ?_
 simp only [go_sem]
 refine cX h (fun hc h => ?_) fun hc h => ?_
 ·exact aPO h
 ·refine cT hF [0, 1, 2, 24] ?_
  simp only [go_sem]
  refine cX h (fun hc h => ?_) fun hc h => ?_
  ·exact aPO h
  ·refine cT hF [0, 1, 2, 27] ?_
   simp only [go_sem]
   refine cX h (fun hc h => ?_) fun hc h => ?_
   ·refine cT hF [6, 7] ?_
    simp only [go_sem]
    refine aH h fun g0 h => aH h fun g1 h => ?_
    exact aG hF [.tmp 6, .tmp 7] rfl rfl rfl (aA h) (by simp only [aV, go_sem])
   ·refine cT hF [0, 1, 2, 8] ?_
    simp only [go_sem]
    refine cT hF [0, 1, 2, 8] ?_
    simp only [go_sem]
    refine cT hF [0, 1, 2, 8, 9] ?_
    simp only [go_sem]
    refine cT hF [0, 1, 2, 8, 9, 10] ?_
    simp only [go_sem]
    refine cT hF [1, 2, 8, 9, 10, 11] ?_
    simp only [go_sem]
    refine cT hF [2, 8, 9, 10, 11, 12] ?_
    simp only [go_sem]
    refine cT hF [2, 8, 9, 10, 11, 12, 13] ?_
    simp only [go_sem]
    refine cT hF [2, 8, 9, 10, 11, 13, 14] ?_
    simp only [go_sem]
    refine cT hF [2, 8, 9, 10, 11, 13, 14, 15] ?_
    simp only [go_sem]
    refine aH h fun g0 h => ?_
    refine cT hF [2, 8, 9, 10, 11, 13, 14, 15, 16] ?_
    simp only [go_sem]
    refine cO hF (D := Nat) (fun d => sat (pZ y_2 lo_1 hi_0 d) Θ) [2, 8, 9, 10, 11, 13, 14] (fun d => [(15, .val (.u .u64) d)]) (fun d => []) ?_ ?_
    ·simp only [go_sem]
     refine bC hF (D := Nat × Nat) [2, 8, 9, 10, 11, 13, 14] (fun d => [(15, .val (.u .u64) d.1), (16, .val (.u .u64) d.2)]) (fun d => []) h rfl (by simp only [go_sem]) ?_
     rintro ⟨x15_19, rhat_20⟩ A17 T17 hA17 hE17 h
     simp only [go_sem]
     replace h : sat (gH lo_1 y_2 x15_19 rhat_20) _ := h
     unfold gH at h
     refine cT hF [2, 8, 9, 10, 11, 13, 14, 15, 16, 78] ?_
     simp only [go_sem]
     refine ⟨fun hc => ?_, fun hc => ?_⟩
     ·replace h := fU hc h
      refine cT hF [2, 8, 9, 10, 11, 13, 14, 15, 16] ?_
      simp only [go_sem]
      refine cT hF [2, 8, 9, 10, 11, 13, 14, 15, 16] ?_
      simp only [go_sem]
      refine cT hF [2, 8, 9, 10, 11, 13, 14, 15, 16, 85] ?_
      simp only [go_sem]
      refine cX h (fun hc h => ?_) fun hc h => ?_
      ·replace h := hE17 _ (aA h)
       try dsimp only at h
       exact aP ((pW .u64 x15_19 (1 : Nat))) h rfl (by simp only [go_sem])
      ·replace h := hA17 _ (aA h)
       exact aP _ h rfl (by simp only [go_sem])
     ·replace h := fV hc h
      replace h := hE17 _ (aA h)
      try dsimp only at h
      exact aP (x15_19) h rfl (by simp only [go_sem])
    ·rintro x15_8 h
     simp only [go_sem]
     replace h : sat (pZ y_2 lo_1 hi_0 x15_8) _ := h
     unfold pZ at h
     refine cT hF [2, 8, 9, 10, 14, 15, 17] ?_
     simp only [go_sem]
     refine cT hF [2, 8, 9, 10, 14, 15, 17, 18] ?_
     simp only [go_sem]
     refine aH h fun g0 h => ?_
     refine cT hF [2, 8, 9, 10, 14, 15, 16, 17, 18] ?_
     simp only [go_sem]
     refine cO hF (D := Nat) (fun d => sat (pY x15_8 hi_0 y_2 lo_1 d) Θ) [2, 8, 14, 15, 17] (fun d => [(18, .val (.u .u64) d)]) (fun d => []) ?_ ?_
     ·simp only [go_sem]
      refine bC hF (D := Nat × Nat) [2, 8, 9, 10, 14, 15, 17] (fun d => [(16, .val (.u .u64) d.1), (18, .val (.u .u64) d.2)]) (fun d => []) h rfl (by simp only [go_sem]) ?_
      rintro ⟨rhat_14, x18_15⟩ A24 T24 hA24 hE24 h
      simp only [go_sem]
      replace h : sat (gG lo_1 y_2 rhat_14 x18_15) _ := h
      unfold gG at h
      refine cT hF [2, 8, 9, 10, 14, 15, 16, 17, 18, 113] ?_
      simp only [go_sem]
      refine ⟨fun hc => ?_, fun hc => ?_⟩
      ·replace h := fU hc h
       refine cT hF [2, 8, 9, 10, 14, 15, 16, 17, 18] ?_
       simp only [go_sem]
       refine cT hF [2, 8, 9, 10, 14, 15, 16, 17, 18] ?_
       simp only [go_sem]
       refine cT hF [2, 8, 9, 10, 14, 15, 16, 17, 18, 120] ?_
       simp only [go_sem]
       refine cX h (fun hc h => ?_) fun hc h => ?_
       ·replace h := hE24 _ (aA h)
        try dsimp only at h
        exact aP ((pW .u64 x18_15 (1 : Nat))) h rfl (by simp only [go_sem])
       ·replace h := hA24 _ (aA h)
        exact aP _ h rfl (by simp only [go_sem])
      ·replace h := fV hc h
       replace h := hE24 _ (aA h)
       try dsimp only at h
       exact aP (x18_15) h rfl (by simp only [go_sem])
     ·rintro x18_13 h
      simp only [go_sem]
      replace h : sat (pY x15_8 hi_0 y_2 lo_1 x18_13) _ := h
      unfold pY at h
      refine cT hF [6, 7] ?_
      simp only [go_sem]
      exact aG hF [.tmp 6, .tmp 7] rfl rfl rfl (aA h) (by simp only [aV, go_sem])
theorem aEf : FOK Tryz.prog GL 252 qE := fD aMn (fun ⟨x0, x1, x2, u⟩ ⟨w0, w1, w2, wu⟩ hp => aKA x0 w0 x1 w1 x2 w2 hp)
def aFy : PlR := ⟨[], [(6, 10)]⟩
def aDh : Ty := .pair (.sl (.u .u64)) (.pair (.u .u64) .unit)
noncomputable def yT : aI := ⟨aDh, .tup (.pair (.sl (.u .u64)) (.pair (.sl (.u .u64)) .unit)), fun x => aDb x.1 x.2.1, fun x => tQ x.1 x.2.1⟩
attribute [go_sem] yT aDh
noncomputable def aOC : aI := mSpec aDh (.tup (.pair (.sl (.u .u64)) (.pair (.sl (.u .u64)) .unit))) (fun x => xO x.1 x.2.1)
noncomputable def aDi : List (FuncId × aI) := [(163, fL), (252, qE)]
theorem aQm : bF Tryz.prog GL aDi := .cons tS (by kernel_rfl) (.cons aEf (by kernel_rfl) (.nil))
theorem aIs : gam aDi 163 = some fL := rfl
theorem aIt : gam aDi 252 = some qE := rfl
attribute [go_sem] aFy aIs aIt
set_option maxHeartbeats 4000000 in
theorem aOD : FOK Tryz.prog GL 219 aOC := by
 refine bD (bE aQm) mix Tryz.func219 rfl (by kernel_rfl) (by decide) aFy fun w0 S x Θ hw h hF => ?_
 obtain ⟨(a_0 : (List Nat)), (b_1 : Nat), u⟩ := x
 simp only [bH, go_sem]
 replace h : sat (xO a_0 b_1) _ := h
 unfold xO at h
 refine cT hF [0, 1] ?_
 simp only [go_sem]
 refine aKr hF [0, 1, 6] ?_
 simp only [go_sem]
 obtain ⟨g0, h⟩ := aJ h
 obtain ⟨g1, h⟩ := aJ h
 repeat (refine ⟨by omega, ?_⟩)
 refine cT hF [0, 1, 6, 7] ?_
 simp only [go_sem]
 refine cO hF (D := Nat × (List Nat)) (fun d => sat (rD d.1 d.2) Θ) [] (fun d => [(6, .own 0), (7, .val (.u .u64) d.1)]) (fun d => [.inr (.row 83 (.u .u64) d.2)]) ?_ ?_
 ·simp only [go_sem]
  refine cT hF [0, 1, 6, 7, 8] ?_
  simp only [go_sem]
  obtain ⟨g0, h⟩ := aJ h
  repeat (refine ⟨by omega, ?_⟩)
  refine bC hF (D := Nat × Int × (List Nat)) [0, 1] (fun d => [(6, .own 0), (7, .val (.u .u64) d.1), (8, .val (.i .i64) d.2.1)]) (fun d => [.inr (.row 83 (.u .u64) d.2.2)]) h rfl (by simp only [go_sem]) ?_
  rintro ⟨rest_11, i_12, q_13⟩ A4 T4 hA4 hE4 h
  simp only [go_sem]
  replace h : sat (lB a_0 b_1 rest_11 i_12 q_13) _ := h
  unfold lB at h
  refine cT hF [0, 1, 6, 7, 8, 16] ?_
  simp only [go_sem]
  refine aBW h (fun hc h => ?_) fun hc h => ?_
  ·refine aKr hF [0, 1, 6, 7, 8] ?_
   simp only [go_sem]
   obtain ⟨g0, h⟩ := aJ h
   repeat (refine ⟨by omega, ?_⟩)
   obtain ⟨g0, h⟩ := aJ h
   repeat (refine ⟨by omega, ?_⟩)
   obtain ⟨g0, h⟩ := aJ h
   repeat (refine ⟨by omega, ?_⟩)
   refine cT hF [0, 1, 6, 7, 8] ?_
   simp only [go_sem]
   obtain ⟨g0, h⟩ := aJ h
   repeat (refine ⟨by omega, ?_⟩)
   replace h := hA4 _ (aA h)
   exact aP _ h rfl (by simp only [go_sem])
  ·replace h := hE4 _ (aA h)
   try dsimp only at h
   exact aP ((rest_11, q_13)) h rfl (by simp only [go_sem])
 ·rintro ⟨rest_9, q_10⟩ h
  simp only [go_sem]
  replace h : sat (rD rest_9 q_10) _ := h
  unfold rD at h
  refine aKr hF [4, 5] ?_
  simp only [go_sem]
  exact aG hF [.tmp 4, .tmp 5] rfl rfl rfl (aA h) (by simp only [aV, go_sem])
theorem aOE : FOK Tryz.prog GL 219 yT := fD aOD (fun ⟨x0, x1, u⟩ ⟨w0, w1, wu⟩ hp => aMh x0 w0 x1 w1 hp)
end Nu
end Go.Proofs
namespace Go.Proofs
open Go.Vc
set_option maxRecDepth 20000
namespace Nu
end Nu
end Go.Proofs
namespace Go.Proofs
open Go.Vc
set_option maxRecDepth 20000
namespace Nu
end Nu
end Go.Proofs
namespace Go.Proofs
open Go.Vc
set_option maxRecDepth 20000
namespace Nu
abbrev yU (a : List Nat) (n : Int) : Prop := a.length ≤ n ∧ n ≤ 1099511627777
def dD (a : List Nat) (n : Int) : List Nat := a ++ List.replicate (n.toNat - a.length) 0
noncomputable def vC (a_0 : (List Nat)) (n_1 : Int) : Option (List Nat) :=
 ck ((aVK a_0)) (ck (I64 (n_1 - (a_0.length : Int))) (ck (0 ≤ (n_1 - (a_0.length : Int))) (ck ((((id a_0).length) + ((n_1 - (a_0.length : Int)).toNat)) * 8 ≤ 140737488355328) (some ((id a_0) ++ (List.replicate ((n_1 - (a_0.length : Int)).toNat) (0 : Nat)))))))
theorem aKJ (a : List Nat) (wa : (Ty.sl (.u .u64)).wf a) (n : Int) (wn : (Ty.i .i64).wf n) (hp : yU a n) : vC a n = some (dD a n) := by
 obtain ⟨h1, h2⟩ := hp
 have h64 : aVK a := by show a.length * 8 ≤ _; omega
 unfold vC dD
 simp only [id]
 refine aB h64 (aB (by constructor <;> omega) (aB (by omega) (aB (by omega) ?_)))
 rw [show (n - (a.length : Int)).toNat = n.toNat - a.length from by omega]
noncomputable def vD (v_1 : (List Nat)) (un_0 : Nat) (uo_0 : Nat) (x_13 : Nat) (carry_31 : Nat) (u_32 : (List Nat)) : Option (((Nat × (List Nat)))) :=
 ck (0 ≤ (v_1.length : Int) ∧ (v_1.length : Int) < ((un_0 : Nat) : Int)) (ck (uo_0 + (v_1.length) < (u_32.length)) (ck (0 ≤ (v_1.length : Int) ∧ (v_1.length : Int) < ((un_0 : Nat) : Int)) (ck (uo_0 + (v_1.length) < (u_32.length)) (some ((pW .u64 x_13 (1 : Nat)), (u_32.set (uo_0 + (v_1.length)) (((u_32.getD (uo_0 + (v_1.length)) (0 : Nat)) + carry_31) % 18446744073709551616)))))))
noncomputable def jH (v_1 : (List Nat)) (un_0 : Nat) (uo_0 : Nat) (carry_33 : Nat) (x159_34 : Int) (u_35 : (List Nat)) : Option ((Nat × Int × (List Nat)) ⊕ ((Nat × (List Nat)))) :=
 if x159_34 < (v_1.length : Int) then ck (0 ≤ x159_34 ∧ x159_34 < (v_1.length : Int)) (ck (0 ≤ x159_34 ∧ x159_34 < ((un_0 : Nat) : Int)) (ck (uo_0 + (x159_34.toNat) < (u_35.length)) (ck ((aAc (u_35.getD (uo_0 + (x159_34.toNat)) (0 : Nat)) (v_1.getD (x159_34.toNat) (0 : Nat)) carry_33)) (ck (0 ≤ x159_34 ∧ x159_34 < ((un_0 : Nat) : Int)) (ck (uo_0 + (x159_34.toNat) < (u_35.length)) (ck (I64 (x159_34 + (1 : Int))) (some (.inl ((((gA (u_35.getD (uo_0 + (x159_34.toNat)) (0 : Nat)) (v_1.getD (x159_34.toNat) (0 : Nat)) carry_33).2).1), (x159_34 + (1 : Int)), (u_35.set (uo_0 + (x159_34.toNat)) ((gA (u_35.getD (uo_0 + (x159_34.toNat)) (0 : Nat)) (v_1.getD (x159_34.toNat) (0 : Nat)) carry_33).1))))))))))) else some (.inr (carry_33, u_35))
noncomputable def vE (v_1 : (List Nat)) (un_0 : Nat) (uo_0 : Nat) (x_13 : Nat) (carry_22 : Nat) (borrow_23 : Nat) (u_24 : (List Nat)) : Option (((Nat × (List Nat)))) :=
 ck (0 ≤ (v_1.length : Int) ∧ (v_1.length : Int) < ((un_0 : Nat) : Int)) (ck (uo_0 + (v_1.length) < (u_24.length)) (ck ((aAc (u_24.getD (uo_0 + (v_1.length)) (0 : Nat)) carry_22 borrow_23)) (ck (0 ≤ (v_1.length : Int) ∧ (v_1.length : Int) < ((un_0 : Nat) : Int)) (ck (uo_0 + (v_1.length) < (u_24.length)) (if (((aAb (u_24.getD (uo_0 + (v_1.length)) (0 : Nat)) carry_22 borrow_23).2).1) = (0 : Nat) then some (x_13, (u_24.set (uo_0 + (v_1.length)) ((aAb (u_24.getD (uo_0 + (v_1.length)) (0 : Nat)) carry_22 borrow_23).1))) else (bO (fun d : Nat × Int × (List Nat) => jH v_1 un_0 uo_0 d.1 d.2.1 d.2.2) ((0 : Nat), (0 : Int), (u_24.set (uo_0 + (v_1.length)) ((aAb (u_24.getD (uo_0 + (v_1.length)) (0 : Nat)) carry_22 borrow_23).1)))).bind (fun e => vD v_1 un_0 uo_0 x_13 e.1 e.2))))))
noncomputable def jI (v_1 : (List Nat)) (x_13 : Nat) (un_0 : Nat) (uo_0 : Nat) (carry_41 : Nat) (borrow_42 : Nat) (x107_43 : Int) (u_44 : (List Nat)) : Option ((Nat × Nat × Int × (List Nat)) ⊕ ((Nat × Nat × (List Nat)))) :=
 if x107_43 < (v_1.length : Int) then ck (0 ≤ x107_43 ∧ x107_43 < (v_1.length : Int)) (ck ((aAc (((bG x_13 (v_1.getD (x107_43.toNat) (0 : Nat))).2).1) carry_41 (0 : Nat))) (ck (0 ≤ x107_43 ∧ x107_43 < ((un_0 : Nat) : Int)) (ck (uo_0 + (x107_43.toNat) < (u_44.length)) (ck ((aAc (u_44.getD (uo_0 + (x107_43.toNat)) (0 : Nat)) ((gA (((bG x_13 (v_1.getD (x107_43.toNat) (0 : Nat))).2).1) carry_41 (0 : Nat)).1) borrow_42)) (ck (0 ≤ x107_43 ∧ x107_43 < ((un_0 : Nat) : Int)) (ck (uo_0 + (x107_43.toNat) < (u_44.length)) (ck (I64 (x107_43 + (1 : Int))) (some (.inl (((((bG x_13 (v_1.getD (x107_43.toNat) (0 : Nat))).1) + (((gA (((bG x_13 (v_1.getD (x107_43.toNat) (0 : Nat))).2).1) carry_41 (0 : Nat)).2).1)) % 18446744073709551616), (((aAb (u_44.getD (uo_0 + (x107_43.toNat)) (0 : Nat)) ((gA (((bG x_13 (v_1.getD (x107_43.toNat) (0 : Nat))).2).1) carry_41 (0 : Nat)).1) borrow_42).2).1), (x107_43 + (1 : Int)), (u_44.set (uo_0 + (x107_43.toNat)) ((aAb (u_44.getD (uo_0 + (x107_43.toNat)) (0 : Nat)) ((gA (((bG x_13 (v_1.getD (x107_43.toNat) (0 : Nat))).2).1) carry_41 (0 : Nat)).1) borrow_42).1)))))))))))) else some (.inr (carry_41, borrow_42, u_44))
noncomputable def rE (v_1 : (List Nat)) (un_0 : Nat) (uo_0 : Nat) (o0_2 : (List Nat)) (x_13 : Nat) : Option (((Nat × (List Nat)))) :=
 (bO (fun d : Nat × Nat × Int × (List Nat) => jI v_1 x_13 un_0 uo_0 d.1 d.2.1 d.2.2.1 d.2.2.2) ((0 : Nat), (0 : Nat), (0 : Int), o0_2)).bind (fun e => vE v_1 un_0 uo_0 x_13 e.1 e.2.1 e.2.2)
noncomputable def lC (v_1 : (List Nat)) (un_0 : Nat) (uo_0 : Nat) (o0_2 : (List Nat)) (x_52 : Nat) (rest_53 : Nat) (over_54 : Nat) : Option ((Nat × Nat × Nat) ⊕ ((Nat))) :=
 if over_54 = (0 : Nat) then ck (I64 ((v_1.length : Int) - (2 : Int))) (ck (0 ≤ ((v_1.length : Int) - (2 : Int)) ∧ ((v_1.length : Int) - (2 : Int)) < (v_1.length : Int)) (ck ((¬ (((bG x_52 (v_1.getD (((v_1.length : Int) - (2 : Int)).toNat) (0 : Nat))).1) < rest_53) → (((bG x_52 (v_1.getD (((v_1.length : Int) - (2 : Int)).toNat) (0 : Nat))).1) = rest_53) → (I64 ((v_1.length : Int) - (2 : Int))))) (ck ((¬ (((bG x_52 (v_1.getD (((v_1.length : Int) - (2 : Int)).toNat) (0 : Nat))).1) < rest_53) → (((bG x_52 (v_1.getD (((v_1.length : Int) - (2 : Int)).toNat) (0 : Nat))).1) = rest_53) → (0 ≤ ((v_1.length : Int) - (2 : Int)) ∧ ((v_1.length : Int) - (2 : Int)) < ((un_0 : Nat) : Int) ∧ uo_0 + (((v_1.length : Int) - (2 : Int)).toNat) < (o0_2.length)))) (if (((bG x_52 (v_1.getD (((v_1.length : Int) - (2 : Int)).toNat) (0 : Nat))).1) < rest_53) ∨ ((((bG x_52 (v_1.getD (((v_1.length : Int) - (2 : Int)).toNat) (0 : Nat))).1) = rest_53) ∧ ((((bG x_52 (v_1.getD (((v_1.length : Int) - (2 : Int)).toNat) (0 : Nat))).2).1) ≤ (o0_2.getD (uo_0 + (((v_1.length : Int) - (2 : Int)).toNat)) (0 : Nat)))) then some (.inr x_52) else ck (I64 ((v_1.length : Int) - (1 : Int))) (ck (0 ≤ ((v_1.length : Int) - (1 : Int)) ∧ ((v_1.length : Int) - (1 : Int)) < (v_1.length : Int)) (ck ((aAc rest_53 (v_1.getD (((v_1.length : Int) - (1 : Int)).toNat) (0 : Nat)) (0 : Nat))) (some (.inl ((pW .u64 x_52 (1 : Nat)), ((gA rest_53 (v_1.getD (((v_1.length : Int) - (1 : Int)).toNat) (0 : Nat)) (0 : Nat)).1), (((gA rest_53 (v_1.getD (((v_1.length : Int) - (1 : Int)).toNat) (0 : Nat)) (0 : Nat)).2).1)))))))))) else some (.inr x_52)
noncomputable def oF (v_1 : (List Nat)) (un_0 : Nat) (uo_0 : Nat) (o0_2 : (List Nat)) (x_4 : Nat) (rest_5 : Nat) (over_6 : Nat) : Option (((Nat × (List Nat)))) :=
 (bO (fun d : Nat × Nat × Nat => lC v_1 un_0 uo_0 o0_2 d.1 d.2.1 d.2.2) (x_4, rest_5, over_6)).bind (fun e => rE v_1 un_0 uo_0 o0_2 e)
noncomputable def tT (uo_0 : Nat) (un_0 : Nat) (v_1 : (List Nat)) (o0_2 : (List Nat)) : Option ((Nat × (List Nat))) :=
 ck (0 ≤ (v_1.length : Int) ∧ (v_1.length : Int) < ((un_0 : Nat) : Int)) (ck (uo_0 + (v_1.length) < (o0_2.length)) (ck (I64 ((v_1.length : Int) - (1 : Int))) (ck (0 ≤ ((v_1.length : Int) - (1 : Int)) ∧ ((v_1.length : Int) - (1 : Int)) < (v_1.length : Int)) (if (o0_2.getD (uo_0 + (v_1.length)) (0 : Nat)) < (v_1.getD (((v_1.length : Int) - (1 : Int)).toNat) (0 : Nat)) then ck (0 ≤ (v_1.length : Int) ∧ (v_1.length : Int) < ((un_0 : Nat) : Int)) (ck (uo_0 + (v_1.length) < (o0_2.length)) (ck (I64 ((v_1.length : Int) - (1 : Int))) (ck (0 ≤ ((v_1.length : Int) - (1 : Int)) ∧ ((v_1.length : Int) - (1 : Int)) < ((un_0 : Nat) : Int)) (ck (uo_0 + (((v_1.length : Int) - (1 : Int)).toNat) < (o0_2.length)) (ck (I64 ((v_1.length : Int) - (1 : Int))) (ck (0 ≤ ((v_1.length : Int) - (1 : Int)) ∧ ((v_1.length : Int) - (1 : Int)) < (v_1.length : Int)) (ck ((yR (o0_2.getD (uo_0 + (v_1.length)) (0 : Nat)) (o0_2.getD (uo_0 + (((v_1.length : Int) - (1 : Int)).toNat)) (0 : Nat)) (v_1.getD (((v_1.length : Int) - (1 : Int)).toNat) (0 : Nat)))) (oF v_1 un_0 uo_0 o0_2 ((jW (o0_2.getD (uo_0 + (v_1.length)) (0 : Nat)) (o0_2.getD (uo_0 + (((v_1.length : Int) - (1 : Int)).toNat)) (0 : Nat)) (v_1.getD (((v_1.length : Int) - (1 : Int)).toNat) (0 : Nat))).1) (((jW (o0_2.getD (uo_0 + (v_1.length)) (0 : Nat)) (o0_2.getD (uo_0 + (((v_1.length : Int) - (1 : Int)).toNat)) (0 : Nat)) (v_1.getD (((v_1.length : Int) - (1 : Int)).toNat) (0 : Nat))).2).1) (0 : Nat))))))))) else ck (I64 ((v_1.length : Int) - (1 : Int))) (ck (0 ≤ ((v_1.length : Int) - (1 : Int)) ∧ ((v_1.length : Int) - (1 : Int)) < ((un_0 : Nat) : Int)) (ck (uo_0 + (((v_1.length : Int) - (1 : Int)).toNat) < (o0_2.length)) (ck (I64 ((v_1.length : Int) - (1 : Int))) (ck (0 ≤ ((v_1.length : Int) - (1 : Int)) ∧ ((v_1.length : Int) - (1 : Int)) < (v_1.length : Int)) (ck ((aAc (o0_2.getD (uo_0 + (((v_1.length : Int) - (1 : Int)).toNat)) (0 : Nat)) (v_1.getD (((v_1.length : Int) - (1 : Int)).toNat) (0 : Nat)) (0 : Nat))) (oF v_1 un_0 uo_0 o0_2 (18446744073709551615 : Nat) ((gA (o0_2.getD (uo_0 + (((v_1.length : Int) - (1 : Int)).toNat)) (0 : Nat)) (v_1.getD (((v_1.length : Int) - (1 : Int)).toNat) (0 : Nat)) (0 : Nat)).1) (((gA (o0_2.getD (uo_0 + (((v_1.length : Int) - (1 : Int)).toNat)) (0 : Nat)) (v_1.getD (((v_1.length : Int) - (1 : Int)).toNat) (0 : Nat)) (0 : Nat)).2).1)))))))))))
end Nu
end Go.Proofs
namespace Go.Proofs
open Go.Vc
set_option maxRecDepth 20000
namespace Nu
structure DgN (X V P v1 v0 U2 U1 U0 : Nat) : Prop where
 hP : 0 < P
 hX : X / P = (U2 * 18446744073709551616 + U1) * 18446744073709551616 + U0
 hV : V / P = v1 * 18446744073709551616 + v0
 v1l : 9223372036854775808 ≤ v1
 v1h : v1 < 18446744073709551616
 v0h : v0 < 18446744073709551616
 u2h : U2 < 18446744073709551616
 u1h : U1 < 18446744073709551616
 u0h : U0 < 18446744073709551616
 hq : X < 18446744073709551616 * V
variable {X V P v1 v0 U2 U1 U0 : Nat}
theorem aZa (h : DgN X V P v1 v0 U2 U1 U0) : U2 ≤ v1 := by
 have h1 : V < (V / P + 1) * P := by rw [Nat.mul_comm]; exact Nat.lt_mul_div_succ V h.hP
 have h2 : X / P < 18446744073709551616 * (V / P + 1) := by
  refine (Nat.div_lt_iff_lt_mul h.hP).2 (Nat.lt_of_lt_of_le h.hq ?_)
  rw [Nat.mul_assoc]
  exact Nat.mul_le_mul_left _ (Nat.le_of_lt h1)
 rw [h.hX, h.hV] at h2
 have a := h.v0h
 have b := h.u0h
 have c := h.u1h
 omega
theorem aYx (h : DgN X V P v1 v0 U2 U1 U0) : X / V * (v1 * 18446744073709551616 + v0) ≤ (U2 * 18446744073709551616 + U1) * 18446744073709551616 + U0 := by
 rw [← h.hX, ← h.hV]
 refine (Nat.le_div_iff_mul_le h.hP).2 ?_
 rw [Nat.mul_assoc]
 exact Nat.le_trans (Nat.mul_le_mul_left _ (Nat.div_mul_le_self V P)) (Nat.div_mul_le_self X V)
theorem mul_two (x v1 v0 : Nat) : x * (v1 * 18446744073709551616 + v0) = x * v1 * 18446744073709551616 + x * v0 := by rw [Nat.mul_add, Nat.mul_assoc]
theorem aZb (h : DgN X V P v1 v0 U2 U1 U0) : X / V ≤ (U2 * 18446744073709551616 + U1) / v1 := by
 refine (Nat.le_div_iff_mul_le (by have := h.v1l; omega)).2 ?_
 have h1 := aYx h
 rw [mul_two] at h1
 have b := h.u0h
 generalize X / V * v1 = A at *
 generalize X / V * v0 = C at *
 omega
theorem aZc (h : DgN X V P v1 v0 U2 U1 U0) : X / V < 18446744073709551616 := (Nat.div_lt_iff_lt_mul (by
 have := h.hq
 rcases Nat.eq_zero_or_pos V with h0 | h0
 ·subst h0; simp at this
 ·exact h0)).2 h.hq
theorem aTi (h : DgN X V P v1 v0 U2 U1 U0) {x : Nat} (hx : x < 18446744073709551616) (hl : x * (v1 * 18446744073709551616 + v0) ≤ (U2 * 18446744073709551616 + U1) * 18446744073709551616 + U0) : x ≤ X / V + 1 := by
 rcases x with _ | y
 ·exact Nat.zero_le _
 refine Nat.succ_le_succ ?_
 have hVp : 0 < V := by
  rcases Nat.eq_zero_or_pos V with h0 | h0
  ·have := h.hq; subst h0; simp at this
  ·exact h0
 refine (Nat.le_div_iff_mul_le hVp).2 ?_
 rw [← h.hX, ← h.hV] at hl
 have e := Nat.div_add_mod V P
 have m := Nat.mod_lt V h.hP
 have h1 : (y + 1) * (V / P) * P ≤ X := Nat.le_trans (Nat.mul_le_mul_right P hl) (Nat.div_mul_le_self X P)
 have h2 : y * (V % P) ≤ 18446744073709551616 * P := Nat.mul_le_mul (by omega) (Nat.le_of_lt m)
 have h3 : 18446744073709551616 * P ≤ V / P * P := Nat.mul_le_mul_right _ (by rw [h.hV]; have := h.v1l; omega)
 have h4 : y * V = y * (V / P) * P + y * (V % P) := by
  conv => lhs; rw [← e]
  rw [Nat.mul_add, Nat.mul_comm P, Nat.mul_assoc]
 rw [h4]
 rw [Nat.add_mul, Nat.add_mul, Nat.one_mul] at h1
 generalize y * (V / P) * P = A at *
 generalize y * (V % P) = C at *
 generalize V / P * P = D at *
 generalize 18446744073709551616 * P = E at *
 omega
structure DgL (v1 U2 U1 Q x rest over : Nat) : Prop where
 eq : x * v1 + (rest + over * 18446744073709551616) = U2 * 18446744073709551616 + U1
 r1 : rest < 18446744073709551616
 o1 : over ≤ 1
 x1 : x < 18446744073709551616
 ge : Q ≤ x
theorem aV0 {A C hi lo r u2 u1 u0 : Nat} (d : 18446744073709551616 * hi + lo = C) (m : lo < 18446744073709551616) (e : A + (r + 0 * 18446744073709551616) = u2 * 18446744073709551616 + u1) (hr : r < 18446744073709551616) (hu : u0 < 18446744073709551616) : (hi < r ∨ hi = r ∧ lo ≤ u0) ↔ A * 18446744073709551616 + C ≤ (u2 * 18446744073709551616 + u1) * 18446744073709551616 + u0 := by
 have e2 : (u2 * 18446744073709551616 + u1) * 18446744073709551616 = A * 18446744073709551616 + r * 18446744073709551616 := by rw [← e, Nat.zero_mul, Nat.add_zero, Nat.add_mul]
 rw [e2]
 omega
theorem aV1 {A r v1 u2 u1 : Nat} (e : A + 1 * v1 + (r + 0 * 18446744073709551616) = u2 * 18446744073709551616 + u1) : A + ((r + v1 + 0) % 18446744073709551616 + (r + v1 + 0) / 18446744073709551616 * 18446744073709551616) = u2 * 18446744073709551616 + u1 := by
 have d := Nat.div_add_mod (r + v1 + 0) 18446744073709551616
 omega
theorem aV2 {Q x rest : Nat} (hv0 : v0 < 18446744073709551616) (hu0 : U0 < 18446744073709551616) (h : DgL v1 U2 U1 Q x rest 0) : (x * v0 / 18446744073709551616 < rest ∨ x * v0 / 18446744073709551616 = rest ∧ x * v0 % 18446744073709551616 ≤ U0) ↔ x * (v1 * 18446744073709551616 + v0) ≤ (U2 * 18446744073709551616 + U1) * 18446744073709551616 + U0 := by
 have e := h.eq
 rw [mul_two]
 have d := Nat.div_add_mod (x * v0) 18446744073709551616
 have m := Nat.mod_lt (x * v0) (show 0 < 18446744073709551616 by decide)
 exact aV0 d m e h.r1 hu0
theorem aXI {Q x rest : Nat} (hv0 : v0 < 18446744073709551616) (h : DgL v1 U2 U1 Q x rest 1) : x * (v1 * 18446744073709551616 + v0) ≤ (U2 * 18446744073709551616 + U1) * 18446744073709551616 + U0 := by
 have e := h.eq
 have r := h.r1
 have p : x * v0 ≤ 18446744073709551615 * 18446744073709551615 := Nat.mul_le_mul (by have := h.x1; omega) (by omega)
 rw [mul_two]
 generalize x * v1 = A at *
 generalize x * v0 = C at *
 omega
theorem aV3 {Q x rest : Nat} (hv1 : v1 < 18446744073709551616) (hQ : Q * (v1 * 18446744073709551616 + v0) ≤ (U2 * 18446744073709551616 + U1) * 18446744073709551616 + U0) (h : DgL v1 U2 U1 Q x rest 0) (hc : ¬ x * (v1 * 18446744073709551616 + v0) ≤ (U2 * 18446744073709551616 + U1) * 18446744073709551616 + U0) :
  pW .u64 x 1 = x - 1 ∧ x - 1 < x ∧ DgL v1 U2 U1 Q (x - 1) ((rest + v1 + 0) % 18446744073709551616) ((rest + v1 + 0) / 18446744073709551616) := by
 have hlt : Q < x := by
  refine Nat.lt_of_mul_lt_mul_right (a := v1 * 18446744073709551616 + v0) ?_
  omega
 have e := h.eq
 have r := h.r1
 have x1 := h.x1
 obtain ⟨y, rfl⟩ : ∃ y, x = y + 1 := ⟨x - 1, by omega⟩
 rw [Nat.add_mul] at e
 refine ⟨aPV x1 (by omega), by omega, ⟨?_, Nat.mod_lt _ (by decide), by omega, by omega, by omega⟩⟩
 exact aV1 e
theorem aV4 {v o : List Nat} {j un : Nat} (hn : 2 ≤ v.length) (hs : v.length ≤ 9000000000000) (hu : un = v.length + 1) (ho : j + un ≤ o.length)
  (h : DgN X V P (v.getD (v.length - 1) 0) (v.getD (v.length - 2) 0) U2 U1 (o.getD (j + (v.length - 2)) 0)) {x rest over : Nat} (hi : DgL (v.getD (v.length - 1) 0) U2 U1 (X / V) x rest over) :
  ∃ e, bO (fun d : Nat × Nat × Nat => lC v un j o d.1 d.2.1 d.2.2) (x, rest, over) = some e ∧ X / V ≤ e ∧ e ≤ X / V + 1 ∧ e < 18446744073709551616 := by
 have e1 : ((v.length : Int) - 1).toNat = v.length - 1 := by omega
 have e2 : ((v.length : Int) - 2).toNat = v.length - 2 := by omega
 refine cV (step := fun d : Nat × Nat × Nat => lC v un j o d.1 d.2.1 d.2.2) (I := fun d => DgL (v.getD (v.length - 1) 0) U2 U1 (X / V) d.1 d.2.1 d.2.2) (fun d => d.1) (fun e => X / V ≤ e ∧ e ≤ X / V + 1 ∧ e < 18446744073709551616) ?_ (x, rest, over) hi
 rintro ⟨x, rest, over⟩ hi
 have hi : DgL (v.getD (v.length - 1) 0) U2 U1 (X / V) x rest over := hi
 show (∃ d', lC v un j o x rest over = _ ∧ _) ∨ ∃ e, lC v un j o x rest over = _ ∧ _
 unfold lC
 rw [e1, e2]
 by_cases h0 : over = 0
 ·subst h0
  have ht := aV2 h.v0h h.u0h hi
  rw [if_pos rfl]
  by_cases hc : x * (v.getD (v.length - 1) 0 * 18446744073709551616 + v.getD (v.length - 2) 0) ≤ (U2 * 18446744073709551616 + U1) * 18446744073709551616 + o.getD (j + (v.length - 2)) 0
  ·right
   refine ⟨x, ?_, hi.ge, aTi h hi.x1 hc, hi.x1⟩
   refine aB (by constructor <;> omega) (aB (by constructor <;> omega) (aB (fun _ _ => by constructor <;> omega) (aB (fun _ _ => by omega) ?_)))
   exact (if_pos (ht.2 hc))
  ·left
   obtain ⟨s1, s2, s3⟩ := aV3 h.v1h (aYx h) hi hc
   refine ⟨(x - 1, (rest + v.getD (v.length - 1) 0 + 0) % 18446744073709551616, (rest + v.getD (v.length - 1) 0 + 0) / 18446744073709551616), ?_, s3, s2⟩
   refine aB (by constructor <;> omega) (aB (by constructor <;> omega) (aB (fun _ _ => by constructor <;> omega) (aB (fun _ _ => by omega) ?_)))
   refine (if_neg (fun hh => hc (ht.1 hh))).trans ?_
   rw [s1]
   exact aB (by constructor <;> omega) (aB (by constructor <;> omega) (aB (Nat.zero_le _) rfl))
 ·right
  have h1 : over = 1 := by have := hi.o1; omega
  subst h1
  exact ⟨x, by rw [if_neg h0], hi.ge, aTi h hi.x1 (aXI h.v0h hi), hi.x1⟩
end Nu
end Go.Proofs
namespace Go.Proofs
open Go.Vc
set_option maxRecDepth 20000
namespace Nu
theorem aQn {x y c b o lo hi z c' d b' : Nat} (e : 18446744073709551616 * hi + lo = x * y) (hlo : lo < 18446744073709551616) (hp : x * y ≤ 18446744073709551615 * 18446744073709551615) (hc : c < 18446744073709551616) (hb : b ≤ 1) (ho : o < 18446744073709551616)
  (hz : z = (lo + c + 0) % 18446744073709551616) (hc' : c' = (hi + (lo + c + 0) / 18446744073709551616) % 18446744073709551616) (hd : d = (o + 18446744073709551616 - z - b) % 18446744073709551616) (hb' : b' = if o < z + b then 1 else 0) :
  d + x * y + c + b = o + 18446744073709551616 * (c' + b') ∧ d < 18446744073709551616 ∧ c' < 18446744073709551616 ∧ b' ≤ 1 := by
 generalize x * y = w at *
 subst hz hc' hd hb'
 split <;> omega
theorem aZd {N N' N0 Q R P o d c b c' b' x y t : Nat} (hP : P = Q * R) (h1 : N' + P * o = N + P * d) (h2 : N + Q * x * t = N0 + P * (c + b)) (h3 : d + x * y + c + b = o + 18446744073709551616 * (c' + b')) : N' + Q * x * (t + R * y) = N0 + P * 18446744073709551616 * (c' + b') := by
 have e := congrArg (P * ·) h3
 simp only [Nat.mul_add] at e
 have e2 : P * (x * y) = Q * x * (R * y) := by
  rw [hP, Nat.mul_assoc, Nat.mul_assoc]; congr 1; rw [Nat.mul_left_comm]
 rw [Nat.mul_add] at h2 ⊢
 rw [Nat.mul_assoc P 18446744073709551616, Nat.mul_add 18446744073709551616, Nat.mul_add P]
 omega
theorem aZe {N N' N0 Q R P o d c c' y t : Nat} (hP : P = Q * R) (h1 : N' + P * o = N + P * d) (h2 : N + P * c = N0 + Q * t) (h3 : d + 18446744073709551616 * c' = o + y + c) : N' + P * 18446744073709551616 * c' = N0 + Q * (t + R * y) := by
 have e := congrArg (P * ·) h3
 simp only [Nat.mul_add] at e
 have e2 : P * y = Q * (R * y) := by rw [hP, Nat.mul_assoc]
 rw [Nat.mul_add, Nat.mul_assoc P 18446744073709551616]
 omega
structure MsI (v u : List Nat) (x j : Nat) (c b : Nat) (i : Int) (w : List Nat) : Prop where
 i0 : 0 ≤ i
 i1 : i ≤ v.length
 len : w.length = u.length
 lm : Lm w
 c1 : c < 18446744073709551616
 b1 : b ≤ 1
 rest : w.drop (j + i.toNat) = u.drop (j + i.toNat)
 sum : nv w + 18446744073709551616 ^ j * x * nv (v.take i.toNat) = nv u + 18446744073709551616 ^ (j + i.toNat) * (c + b)
structure AbI (v u : List Nat) (j : Nat) (c : Nat) (i : Int) (w : List Nat) : Prop where
 i0 : 0 ≤ i
 i1 : i ≤ v.length
 len : w.length = u.length
 lm : Lm w
 c1 : c ≤ 1
 rest : w.drop (j + i.toNat) = u.drop (j + i.toNat)
 sum : nv w + 18446744073709551616 ^ (j + i.toNat) * c = nv u + 18446744073709551616 ^ j * nv (v.take i.toNat)
theorem aV5 {v u : List Nat} {x j c b : Nat} {i : Int} {w : List Nat} (hl : j + v.length < u.length) (h : MsI v u x j c b i w) (hi : i < v.length) {d c' b' : Nat} (hd : d < 18446744073709551616) (hc' : c' < 18446744073709551616) (hb' : b' ≤ 1)
  (e : d + x * v.getD i.toNat 0 + c + b = w.getD (j + i.toNat) 0 + 18446744073709551616 * (c' + b')) : MsI v u x j c' b' (i + 1) (w.set (j + i.toNat) d) := by
 have h0 := h.i0
 have hlen := h.len
 have e1 : (i + 1).toNat = i.toNat + 1 := by omega
 refine ⟨by omega, by omega, by rw [List.length_set]; exact hlen, yA h.lm _ hd, hc', hb', ?_, ?_⟩
 ·rw [e1, ← Nat.add_assoc, drop_set]; exact wG h.rest
 ·rw [e1, pJ, ← Nat.add_assoc, Nat.pow_succ]
  exact aZd (R := 18446744073709551616 ^ i.toNat) (Nat.pow_add _ _ _) (aA3 (by omega)) h.sum e
theorem aV6 {v u : List Nat} {j c : Nat} {i : Int} {w : List Nat} (hl : j + v.length < u.length) (h : AbI v u j c i w) (hi : i < v.length) {d c' : Nat} (hd : d < 18446744073709551616) (hc' : c' ≤ 1)
  (e : d + 18446744073709551616 * c' = w.getD (j + i.toNat) 0 + v.getD i.toNat 0 + c) : AbI v u j c' (i + 1) (w.set (j + i.toNat) d) := by
 have h0 := h.i0
 have hlen := h.len
 have e1 : (i + 1).toNat = i.toNat + 1 := by omega
 refine ⟨by omega, by omega, by rw [List.length_set]; exact hlen, yA h.lm _ hd, hc', ?_, ?_⟩
 ·rw [e1, ← Nat.add_assoc, drop_set]; exact wG h.rest
 ·rw [e1, pJ, ← Nat.add_assoc, Nat.pow_succ]
  exact aZe (R := 18446744073709551616 ^ i.toNat) (Nat.pow_add _ _ _) (aA3 (by omega)) h.sum e
theorem aT7 {v u : List Nat} {x j un : Nat} (lv : Lm v) (hx : x < 18446744073709551616) (hs : v.length ≤ 9000000000000) (hu : un = v.length + 1) (ho : j + un ≤ u.length) (lu : Lm u) :
  ∃ e, bO (fun d : Nat × Nat × Int × (List Nat) => jI v x un j d.1 d.2.1 d.2.2.1 d.2.2.2) (0, 0, 0, u) = some e ∧ MsI v u x j e.1 e.2.1 v.length e.2.2 := by
 refine cV (step := fun d : Nat × Nat × Int × (List Nat) => jI v x un j d.1 d.2.1 d.2.2.1 d.2.2.2) (I := fun d => MsI v u x j d.1 d.2.1 d.2.2.1 d.2.2.2) (fun d => (v.length - d.2.2.1).toNat) (fun e => MsI v u x j e.1 e.2.1 v.length e.2.2) ?_ (0, 0, 0, u) ⟨by simp, by simp, rfl, lu, by simp, by simp, rfl, by simp [nv]⟩
 rintro ⟨c, b, i, w⟩ h
 have h : MsI v u x j c b i w := h
 have h0 := h.i0
 have hlen := h.len
 show (∃ d', jI v x un j c b i w = _ ∧ _) ∨ ∃ e, jI v x un j c b i w = _ ∧ _
 unfold jI
 by_cases hi : i < v.length
 ·left
  have hy := fE lv i.toNat
  have hw := fE h.lm (j + i.toNat)
  have hb := h.b1
  obtain ⟨k1, k2, k3, k4⟩ := aQn (b' := if w.getD (j + i.toNat) 0 < (x * v.getD i.toNat 0 % 18446744073709551616 + c + 0) % 18446744073709551616 + b then 1 else 0) (Nat.div_add_mod (x * v.getD i.toNat 0) 18446744073709551616) (Nat.mod_lt _ (by decide)) (Nat.mul_le_mul (by omega) (by omega)) h.c1 hb hw rfl rfl rfl rfl
  refine ⟨((x * v.getD i.toNat 0 / 18446744073709551616 + (x * v.getD i.toNat 0 % 18446744073709551616 + c + 0) / 18446744073709551616) % 18446744073709551616, (if w.getD (j + i.toNat) 0 < (x * v.getD i.toNat 0 % 18446744073709551616 + c + 0) % 18446744073709551616 + b then 1 else 0), i + 1, w.set (j + i.toNat) ((w.getD (j + i.toNat) 0 + 18446744073709551616 - (x * v.getD i.toNat 0 % 18446744073709551616 + c + 0) % 18446744073709551616 - b) % 18446744073709551616)), ?_, aV5 (by omega) h hi k2 k3 k4 k1, by simp only; omega⟩
  rw [if_pos hi]
  exact aB (by constructor <;> omega) (aB (Nat.zero_le _) (aB (by constructor <;> omega) (aB (by omega) (aB hb (aB (by constructor <;> omega) (aB (by omega) (aB (by constructor <;> omega) rfl)))))))
 ·right
  refine ⟨(c, b, w), by rw [if_neg hi], ?_⟩
  have e : i = v.length := by have := h.i1; omega
  rw [e] at h
  exact h
theorem aT8 {v u : List Nat} {j un : Nat} (lv : Lm v) (hs : v.length ≤ 9000000000000) (hu : un = v.length + 1) (ho : j + un ≤ u.length) (lu : Lm u) :
  ∃ e, bO (fun d : Nat × Int × (List Nat) => jH v un j d.1 d.2.1 d.2.2) (0, 0, u) = some e ∧ AbI v u j e.1 v.length e.2 := by
 refine cV (step := fun d : Nat × Int × (List Nat) => jH v un j d.1 d.2.1 d.2.2) (I := fun d => AbI v u j d.1 d.2.1 d.2.2) (fun d => (v.length - d.2.1).toNat) (fun e => AbI v u j e.1 v.length e.2) ?_ (0, 0, u) ⟨by simp, by simp, rfl, lu, by simp, rfl, by simp [nv]⟩
 rintro ⟨c, i, w⟩ h
 have h : AbI v u j c i w := h
 have h0 := h.i0
 have hlen := h.len
 show (∃ d', jH v un j c i w = _ ∧ _) ∨ ∃ e, jH v un j c i w = _ ∧ _
 unfold jH
 by_cases hi : i < v.length
 ·left
  have hy := fE lv i.toNat
  have hw := fE h.lm (j + i.toNat)
  have hc := h.c1
  have k1 := Nat.div_add_mod (w.getD (j + i.toNat) 0 + v.getD i.toNat 0 + c) 18446744073709551616
  refine ⟨(_, _, _), ?_, aV6 (d := (w.getD (j + i.toNat) 0 + v.getD i.toNat 0 + c) % 18446744073709551616) (c' := (w.getD (j + i.toNat) 0 + v.getD i.toNat 0 + c) / 18446744073709551616) (by omega) h hi (Nat.mod_lt _ (by decide)) (by omega) (by rw [Nat.add_comm]; exact k1), by simp only; omega⟩
  rw [if_pos hi]
  refine aB (by constructor <;> omega) (aB (by constructor <;> omega) (aB (by omega) (aB hc (aB (by constructor <;> omega) (aB (by omega) (aB (by constructor <;> omega) ?_))))))
  simp only [gA]
 ·right
  refine ⟨(c, w), by rw [if_neg hi], ?_⟩
  have e : i = v.length := by have := h.i1; omega
  rw [e] at h
  exact h
theorem aTj {w u : List Nat} {K : Nat} (lw : Lm w) (lu : Lm u) (h : w.drop K = u.drop K) (hu : nv u < 18446744073709551616 ^ K) : nv w < 18446744073709551616 ^ K := by
 have hp : 0 < 18446744073709551616 ^ K := Nat.pow_pos (by decide)
 have h1 := aFo lw K
 rw [h, aFo lu, Nat.div_eq_of_lt hu] at h1
 exact (Nat.div_eq_zero_iff_lt hp).1 h1.symm
theorem aV7 {N N3 W x : Nat} {Q : Nat} (hW : 0 < W) (hQ : Q = N / W) (hx : Q ≤ x) (h : N3 + x * W = N) : x = Q ∧ N3 + Q * W = N := by
 have h1 : x ≤ N / W := (Nat.le_div_iff_mul_le hW).2 (by omega)
 have : x = Q := by omega
 subst this
 exact ⟨rfl, h⟩
theorem aXJ {N N3 N4 N5 W x T S o4 c : Nat} {Q : Nat} (hQ : Q = N / W) (hx1 : Q ≤ x) (hx2 : x ≤ Q + 1) (h3 : N3 + x * W = N + T) (hT3 : N3 < T) (h4 : N4 + S * c = N3 + W) (h5 : N5 + S * o4 = N4 + S * ((o4 + c) % 18446744073709551616)) (hT5 : N5 < T) (hT : T = S * 18446744073709551616) (ho : o4 < 18446744073709551616) (hc : c ≤ 1) :
  x = Q + 1 ∧ N5 + Q * W = N := by
 have hle : Q * W ≤ N := by rw [hQ]; exact Nat.div_mul_le_self N W
 have hx : x = Q + 1 := by
  rcases Nat.lt_or_ge Q x with h | h
  ·omega
  ·have : x = Q := by omega
   subst this
   omega
 subst hx
 refine ⟨rfl, ?_⟩
 rw [Nat.add_mul, Nat.one_mul] at h3
 rcases Nat.lt_or_ge (o4 + c) 18446744073709551616 with h | h
 ·rw [Nat.mod_eq_of_lt h, Nat.mul_add] at h5
  omega
 ·have e : (o4 + c) % 18446744073709551616 = 0 := by omega
  have e2 : S * 18446744073709551616 = S * o4 + S * c := by rw [← Nat.mul_add]; congr 1; omega
  rw [e, Nat.mul_zero, Nat.add_zero] at h5
  omega
theorem aMo {v u : List Nat} {j un : Nat} (lv : Lm v) (lu : Lm u) (hn : 2 ≤ v.length) (hs : v.length ≤ 9000000000000) (hu : un = v.length + 1) (ho : j + un ≤ u.length)
  (hv : 9223372036854775808 ≤ v.getD (v.length - 1) 0) (hq : nv u < 18446744073709551616 ^ (j + 1) * nv v) :
  ∃ w, tT j un v u = some (nv u / (18446744073709551616 ^ j * nv v), w) ∧ w.length = u.length ∧ Lm w ∧ nv w + nv u / (18446744073709551616 ^ j * nv v) * (18446744073709551616 ^ j * nv v) = nv u := by
 have hVB := kV lv
 have hJ : 0 < 18446744073709551616 ^ j := Nat.pow_pos (by decide)
 have hX : nv u / 18446744073709551616 ^ j < 18446744073709551616 * nv v := (Nat.div_lt_iff_lt_mul hJ).2 (by rw [Nat.pow_succ, Nat.mul_assoc] at hq; rw [Nat.mul_comm]; exact hq)
 have hqq : nv u / 18446744073709551616 ^ j / nv v = nv u / (18446744073709551616 ^ j * nv v) := Nat.div_div_eq_div_mul _ _ _
 have hNT : nv u < 18446744073709551616 ^ (j + v.length + 1) := by
  refine Nat.lt_of_lt_of_le hq ?_
  rw [show j + v.length + 1 = j + 1 + v.length from by omega, Nat.pow_add _ (j + 1)]
  exact Nat.mul_le_mul_left _ (Nat.le_of_lt hVB)
 have hD : DgN (nv u / 18446744073709551616 ^ j) (nv v) (18446744073709551616 ^ (v.length - 2)) (v.getD (v.length - 1) 0) (v.getD (v.length - 2) 0) (u.getD (j + v.length) 0) (u.getD (j + (v.length - 1)) 0) (u.getD (j + (v.length - 2)) 0) := by
  refine ⟨Nat.pow_pos (by decide), ?_, ?_, hv, fE lv _, fE lv _, fE lu _, fE lu _, fE lu _, hX⟩
  ·have e1 : j + (v.length - 1) = j + (v.length - 2) + 1 := by omega
   have e2 : j + v.length = j + (v.length - 2) + 1 + 1 := by omega
   have hz : nv u / 18446744073709551616 ^ (j + (v.length - 2)) < 18446744073709551616 * 18446744073709551616 * 18446744073709551616 := by
    refine (Nat.div_lt_iff_lt_mul (Nat.pow_pos (by decide))).2 ?_
    rw [show j + v.length + 1 = j + (v.length - 2) + 1 + 1 + 1 from by omega, Nat.pow_succ, Nat.pow_succ, Nat.pow_succ] at hNT
    rw [Nat.mul_comm, ← Nat.mul_assoc, ← Nat.mul_assoc]
    exact hNT
   rw [rR lu, rR lu, rR lu, e1, e2, Nat.pow_succ, Nat.pow_succ, ← Nat.div_div_eq_div_mul, ← Nat.div_div_eq_div_mul, Nat.div_div_eq_div_mul _ (18446744073709551616 ^ j), ← Nat.pow_add]
   generalize nv u / 18446744073709551616 ^ (j + (v.length - 2)) = z at *
   omega
  ·have hz : nv v / 18446744073709551616 ^ (v.length - 2) < 18446744073709551616 * 18446744073709551616 := by
    refine (Nat.div_lt_iff_lt_mul (Nat.pow_pos (by decide))).2 ?_
    have h := hVB
    rw [show v.length = v.length - 2 + 1 + 1 from by omega, Nat.pow_succ, Nat.pow_succ] at h
    rw [Nat.mul_comm, ← Nat.mul_assoc]
    exact h
   rw [rR lv, rR lv, show v.length - 1 = v.length - 2 + 1 from by omega, Nat.pow_succ, ← Nat.div_div_eq_div_mul]
   generalize nv v / 18446744073709551616 ^ (v.length - 2) = z at *
   omega
 have e1 : ((v.length : Int) - 1).toNat = v.length - 1 := by omega
 rw [← hqq]
 have hV0 : 0 < nv v := by
  rcases Nat.eq_zero_or_pos (nv v) with h | h
  ·rw [h] at hq; simp at hq
  ·exact h
 have hW : 0 < 18446744073709551616 ^ j * nv v := Nat.mul_pos hJ hV0
 have main : ∀ x, nv u / 18446744073709551616 ^ j / nv v ≤ x → x ≤ nv u / 18446744073709551616 ^ j / nv v + 1 → x < 18446744073709551616 → ∃ w, rE v un j u x = some (nv u / 18446744073709551616 ^ j / nv v, w) ∧ w.length = u.length ∧ Lm w ∧ nv w + nv u / 18446744073709551616 ^ j / nv v * (18446744073709551616 ^ j * nv v) = nv u := by
  intro x hx1 hx2 hx3
  obtain ⟨⟨c, b, w⟩, m1, m2⟩ := aT7 (j := j) lv hx3 hs hu ho lu
  have m2 : MsI v u x j c b v.length w := m2
  have hlen := m2.len
  have ho2 := fE m2.lm (j + v.length)
  have hc := m2.c1
  have hb := m2.b1
  have hrest := m2.rest
  have hsum := m2.sum
  rw [Int.toNat_natCast] at hrest hsum
  rw [List.take_length] at hsum
  have hset := aA3 (a := w) (k := j + v.length) (v := (w.getD (j + v.length) 0 + 18446744073709551616 - c - b) % 18446744073709551616) (by omega)
  have lw2 : Lm (w.set (j + v.length) ((w.getD (j + v.length) 0 + 18446744073709551616 - c - b) % 18446744073709551616)) := yA m2.lm _ (Nat.mod_lt _ (by decide))
  have hr2 : (w.set (j + v.length) ((w.getD (j + v.length) 0 + 18446744073709551616 - c - b) % 18446744073709551616)).drop (j + v.length + 1) = u.drop (j + v.length + 1) := by
   rw [drop_set]; exact wG hrest
  have hT3 := aTj lw2 lu hr2 hNT
  have hx : 18446744073709551616 ^ j * x * nv v = x * (18446744073709551616 ^ j * nv v) := by rw [Nat.mul_comm (18446744073709551616 ^ j) x, Nat.mul_assoc]
  rw [hx] at hsum
  unfold rE
  rw [m1]
  simp only [Option.bind_some]
  unfold vE
  by_cases hbo : w.getD (j + v.length) 0 < c + b
  ·
   have hd : (w.getD (j + v.length) 0 + 18446744073709551616 - c - b) % 18446744073709551616 + c + b = w.getD (j + v.length) 0 + 18446744073709551616 := by omega
   have h3 : nv (w.set (j + v.length) ((w.getD (j + v.length) 0 + 18446744073709551616 - c - b) % 18446744073709551616)) + x * (18446744073709551616 ^ j * nv v) = nv u + 18446744073709551616 ^ (j + v.length + 1) := by
    have e := congrArg (18446744073709551616 ^ (j + v.length) * ·) hd
    simp only [Nat.mul_add] at e hsum
    rw [Nat.pow_succ]
    omega
   have hb1 : ¬ (aAb (w.getD (j + v.length) 0) c b).2.1 = 0 := by show ¬ (if w.getD (j + v.length) 0 < c + b then 1 else 0) = 0; rw [if_pos hbo]; decide
   have hl3 : (w.set (j + v.length) ((w.getD (j + v.length) 0 + 18446744073709551616 - c - b) % 18446744073709551616)).length = u.length := by rw [List.length_set]; exact hlen
   obtain ⟨w3, hw3⟩ : ∃ w3, w3 = w.set (j + v.length) ((w.getD (j + v.length) 0 + 18446744073709551616 - c - b) % 18446744073709551616) := ⟨_, rfl⟩
   have hw3' : w.set (j + v.length) (aAb (w.getD (j + v.length) 0) c b).1 = w3 := hw3.symm
   rw [← hw3] at h3 hT3 lw2 hr2 hl3
   obtain ⟨⟨c4, w4⟩, n1, n2⟩ := aT8 (u := w3) (j := j) lv hs hu (by omega) lw2
   have n2 : AbI v w3 j c4 v.length w4 := n2
   have hl4 := n2.len
   have ho4 := fE n2.lm (j + v.length)
   have hrest4 := n2.rest
   have hsum4 := n2.sum
   rw [Int.toNat_natCast] at hrest4 hsum4
   rw [List.take_length] at hsum4
   have hset4 := aA3 (a := w4) (k := j + v.length) (v := (w4.getD (j + v.length) 0 + c4) % 18446744073709551616) (by omega)
   have lw5 : Lm (w4.set (j + v.length) ((w4.getD (j + v.length) 0 + c4) % 18446744073709551616)) := yA n2.lm _ (Nat.mod_lt _ (by decide))
   have hr5 : (w4.set (j + v.length) ((w4.getD (j + v.length) 0 + c4) % 18446744073709551616)).drop (j + v.length + 1) = u.drop (j + v.length + 1) := by
    rw [drop_set, ← hr2]; exact wG hrest4
   have hT5 := aTj lw5 lu hr5 hNT
   obtain ⟨f1, f2⟩ := aXJ hqq hx1 hx2 h3 hT3 hsum4 hset4 hT5 (Nat.pow_succ ..) ho4 n2.c1
   refine ⟨_, aB (by constructor <;> omega) (aB (by omega) (aB hb (aB (by constructor <;> omega) (aB (by omega) ?_)))), ?_, lw5, f2⟩
   ·refine (if_neg hb1).trans ?_
    rw [hw3']
    refine aK n1 ?_
    unfold vD
    refine aB (by constructor <;> omega) (aB (by simp only; omega) (aB (by constructor <;> omega) (aB (by simp only; omega) ?_)))
    rw [aPV hx3 (by rw [f1]; exact Nat.succ_le_succ (Nat.zero_le _)), f1, Nat.add_sub_cancel]
   ·rw [List.length_set]; omega
  ·have hd : (w.getD (j + v.length) 0 + 18446744073709551616 - c - b) % 18446744073709551616 + c + b = w.getD (j + v.length) 0 := by omega
   have h3 : nv (w.set (j + v.length) ((w.getD (j + v.length) 0 + 18446744073709551616 - c - b) % 18446744073709551616)) + x * (18446744073709551616 ^ j * nv v) = nv u := by
    have e := congrArg (18446744073709551616 ^ (j + v.length) * ·) hd
    simp only [Nat.mul_add] at e hsum
    omega
   have hb0 : (aAb (w.getD (j + v.length) 0) c b).2.1 = 0 := if_neg hbo
   obtain ⟨f1, f2⟩ := aV7 hW hqq hx1 h3
   refine ⟨_, aB (by constructor <;> omega) (aB (by omega) (aB hb (aB (by constructor <;> omega) (aB (by omega) ?_)))), ?_, lw2, f2⟩
   ·refine (if_pos hb0).trans ?_
    rw [f1]; rfl
   ·rw [List.length_set]; exact hlen
 have start : ∀ x rest over, DgL (v.getD (v.length - 1) 0) (u.getD (j + v.length) 0) (u.getD (j + (v.length - 1)) 0) (nv u / 18446744073709551616 ^ j / nv v) x rest over → ∃ w, oF v un j u x rest over = some (nv u / 18446744073709551616 ^ j / nv v, w) ∧ w.length = u.length ∧ Lm w ∧ nv w + nv u / 18446744073709551616 ^ j / nv v * (18446744073709551616 ^ j * nv v) = nv u := by
  intro x rest over hL
  obtain ⟨e, g1, g2, g3, g4⟩ := aV4 hn hs hu ho hD hL
  obtain ⟨w, k1, k2⟩ := main e g2 g3 g4
  refine ⟨w, ?_, k2⟩
  unfold oF
  exact aK g1 k1
 have hu1 := fE lu (j + (v.length - 1))
 have hu2 := fE lu (j + v.length)
 have hv1 := fE lv (v.length - 1)
 have hge := aZb hD
 have hlt := aZc hD
 have hle := aZa hD
 unfold tT
 rw [e1]
 by_cases hc : u.getD (j + v.length) 0 < v.getD (v.length - 1) 0
 ·have hdm := Nat.div_add_mod (u.getD (j + v.length) 0 * 18446744073709551616 + u.getD (j + (v.length - 1)) 0) (v.getD (v.length - 1) 0)
  have hml := Nat.mod_lt (u.getD (j + v.length) 0 * 18446744073709551616 + u.getD (j + (v.length - 1)) 0) (show 0 < v.getD (v.length - 1) 0 by omega)
  have hdl : (u.getD (j + v.length) 0 * 18446744073709551616 + u.getD (j + (v.length - 1)) 0) / v.getD (v.length - 1) 0 < 18446744073709551616 := by
   refine (Nat.div_lt_iff_lt_mul (by omega)).2 ?_
   have := Nat.mul_le_mul_right 18446744073709551616 (show u.getD (j + v.length) 0 + 1 ≤ v.getD (v.length - 1) 0 from hc)
   rw [Nat.mul_comm 18446744073709551616]; omega
  obtain ⟨w, k1, k2⟩ := start _ _ 0 ⟨by rw [Nat.zero_mul, Nat.add_zero, Nat.mul_comm]; exact hdm, Nat.lt_trans hml hv1, by decide, hdl, hge⟩
  refine ⟨w, ?_, k2⟩
  refine aB (by constructor <;> omega) (aB (by omega) (aB (by constructor <;> omega) (aB (by constructor <;> omega) ?_)))
  refine (if_pos hc).trans ?_
  exact aB (by constructor <;> omega) (aB (by omega) (aB (by constructor <;> omega) (aB (by constructor <;> omega) (aB (by omega) (aB (by constructor <;> omega) (aB (by constructor <;> omega) (aB hc k1)))))))
 ·have hd := Nat.div_add_mod (u.getD (j + (v.length - 1)) 0 + v.getD (v.length - 1) 0 + 0) 18446744073709551616
  obtain ⟨w, k1, k2⟩ := start 18446744073709551615 ((u.getD (j + (v.length - 1)) 0 + v.getD (v.length - 1) 0 + 0) % 18446744073709551616) ((u.getD (j + (v.length - 1)) 0 + v.getD (v.length - 1) 0 + 0) / 18446744073709551616) ⟨by omega, Nat.mod_lt _ (by decide), by omega, by decide, by omega⟩
  refine ⟨w, ?_, k2⟩
  refine aB (by constructor <;> omega) (aB (by omega) (aB (by constructor <;> omega) (aB (by constructor <;> omega) ?_)))
  refine (if_neg hc).trans ?_
  exact aB (by constructor <;> omega) (aB (by constructor <;> omega) (aB (by omega) (aB (by constructor <;> omega) (aB (by constructor <;> omega) (aB (Nat.zero_le _) k1)))))
end Nu
end Go.Proofs
