import Derived.Test.YtabdejmolnikaaaGreatDoorZL5
import Derived.Test.YtabdejmolnikaaaGreatDoorProg
import Derived.KernelRfl
import Derived.Laws.Externs
import Derived.Lib.TrailingZeros
set_option linter.unusedVariables false
set_option linter.unusedSimpArgs false
namespace Go.Proofs
open Go.Vc
set_option maxRecDepth 20000
namespace Nu
theorem aN3 : ∃ l : List Nat, l = [0, 1, 56, 2, 57, 49, 28, 3, 61, 58, 42, 50, 38, 29, 17, 4, 62, 47, 59, 36, 45, 43, 51, 22, 53, 39, 33, 30, 24, 18, 12, 5, 63, 55, 48, 27, 60, 41, 37, 16, 46, 35, 44, 21, 52, 32, 23, 11, 54, 26, 40, 15, 34, 20, 31, 10, 25, 14, 19, 9, 13, 8, 7, 6] := ⟨_, rfl⟩
noncomputable def aMN : List Nat := Classical.choose aN3
theorem aN4 : aMN = [0, 1, 56, 2, 57, 49, 28, 3, 61, 58, 42, 50, 38, 29, 17, 4, 62, 47, 59, 36, 45, 43, 51, 22, 53, 39, 33, 30, 24, 18, 12, 5, 63, 55, 48, 27, 60, 41, 37, 16, 46, 35, 44, 21, 52, 32, 23, 11, 54, 26, 40, 15, 34, 20, 31, 10, 25, 14, 19, 9, 13, 8, 7, 6] := Classical.choose_spec aN3
theorem aQz : ∃ l : List Nat, l = [1, 10, 100, 1000, 10000, 100000, 1000000, 10000000, 100000000, 1000000000, 10000000000, 100000000000, 1000000000000, 10000000000000, 100000000000000, 1000000000000000, 10000000000000000, 100000000000000000, 1000000000000000000, 10000000000000000000] := ⟨_, rfl⟩
noncomputable def p10 : List Nat := Classical.choose aQz
theorem aQA : p10 = [1, 10, 100, 1000, 10000, 100000, 1000000, 10000000, 100000000, 1000000000, 10000000000, 100000000000, 1000000000000, 10000000000000, 100000000000000, 1000000000000000, 10000000000000000, 100000000000000000, 1000000000000000000, 10000000000000000000] := Classical.choose_spec aQz
noncomputable def GL : Nat → AV
 | 0 => .roa (.arr 64 (.u .u8)) aMN
 | 3 => .roa (.arr 20 (.u .u64)) p10
 | _ => .junk
theorem GL0 : GL 0 = .roa (.arr 64 (.u .u8)) aMN := rfl
theorem GL3 : GL 3 = .roa (.arr 20 (.u .u64)) p10 := rfl
attribute [go_sem] GL0 GL3 mSpec
def tab : List (TypeId × Ty) := [(124, .clo 87 .unit), (2, .i .i64), (3, .i .i64), (4, .bool), (5, .u .u8), (9, .str), (21, .i .i32), (22, .sl (.pair (.i .i64) (.pair (.i .i64) (.pair (.i .i64) (.pair (.pair .bool (.pair (.sl (.u .u64)) (.pair (.i .i64) .unit))) (.pair (.pair .bool (.pair (.sl (.u .u64)) (.pair (.i .i64) .unit))) (.pair (.sl (.sl (.pair (.pair .bool (.pair (.sl (.u .u64)) (.pair (.i .i64) .unit))) (.pair (.pair .bool (.pair (.sl (.u .u64)) (.pair (.i .i64) .unit))) .unit)))) (.pair (.sl (.sl (.pair (.sl (.pair .bool (.pair (.sl (.u .u64)) (.pair (.i .i64) .unit)))) (.pair (.sl (.pair (.pair .bool (.pair (.sl (.u .u64)) (.pair (.i .i64) .unit))) (.pair (.pair .bool (.pair (.sl (.u .u64)) (.pair (.i .i64) .unit))) .unit))) .unit)))) .unit)))))))), (23, .sl (.u .u64)), (25, .pair .bool (.pair (.sl (.u .u64)) (.pair (.i .i64) .unit))), (27, .pair (.pair .bool (.pair (.sl (.u .u64)) (.pair (.i .i64) .unit))) (.pair (.pair .bool (.pair (.sl (.u .u64)) (.pair (.i .i64) .unit))) .unit)), (30, .sl (.sl (.pair (.pair .bool (.pair (.sl (.u .u64)) (.pair (.i .i64) .unit))) (.pair (.pair .bool (.pair (.sl (.u .u64)) (.pair (.i .i64) .unit))) .unit)))), (31, .sl (.sl (.pair (.sl (.pair .bool (.pair (.sl (.u .u64)) (.pair (.i .i64) .unit)))) (.pair (.sl (.pair (.pair .bool (.pair (.sl (.u .u64)) (.pair (.i .i64) .unit))) (.pair (.pair .bool (.pair (.sl (.u .u64)) (.pair (.i .i64) .unit))) .unit))) .unit)))), (33, .pair (.i .i64) (.pair (.i .i64) (.pair (.i .i64) (.pair (.pair .bool (.pair (.sl (.u .u64)) (.pair (.i .i64) .unit))) (.pair (.pair .bool (.pair (.sl (.u .u64)) (.pair (.i .i64) .unit))) (.pair (.sl (.sl (.pair (.pair .bool (.pair (.sl (.u .u64)) (.pair (.i .i64) .unit))) (.pair (.pair .bool (.pair (.sl (.u .u64)) (.pair (.i .i64) .unit))) .unit)))) (.pair (.sl (.sl (.pair (.sl (.pair .bool (.pair (.sl (.u .u64)) (.pair (.i .i64) .unit)))) (.pair (.sl (.pair (.pair .bool (.pair (.sl (.u .u64)) (.pair (.i .i64) .unit))) (.pair (.pair .bool (.pair (.sl (.u .u64)) (.pair (.i .i64) .unit))) .unit))) .unit)))) .unit))))))), (49, .u .u64), (54, .u .u64), (63, .sl (.pair (.pair .bool (.pair (.sl (.u .u64)) (.pair (.i .i64) .unit))) (.pair (.pair .bool (.pair (.sl (.u .u64)) (.pair (.i .i64) .unit))) .unit))), (64, .sl (.pair (.sl (.pair .bool (.pair (.sl (.u .u64)) (.pair (.i .i64) .unit)))) (.pair (.sl (.pair (.pair .bool (.pair (.sl (.u .u64)) (.pair (.i .i64) .unit))) (.pair (.pair .bool (.pair (.sl (.u .u64)) (.pair (.i .i64) .unit))) .unit))) .unit))), (66, .sl (.pair .bool (.pair (.sl (.u .u64)) (.pair (.i .i64) .unit)))), (68, .pair (.sl (.pair .bool (.pair (.sl (.u .u64)) (.pair (.i .i64) .unit)))) (.pair (.sl (.pair (.pair .bool (.pair (.sl (.u .u64)) (.pair (.i .i64) .unit))) (.pair (.pair .bool (.pair (.sl (.u .u64)) (.pair (.i .i64) .unit))) .unit))) .unit)), (69, .sl .str), (77, .sl (.u .u8)), (81, .nili), (91, .sl (.u .u32)), (95, .pair .bool (.pair (.sl (.u .u32)) (.pair (.i .i64) .unit))), (96, .u .u32), (162, .pair (.i .i64) .unit), (165, .pair (.i .i64) .unit), (171, .arr 64 (.u .u8)), (174, .arr 24 (.u .u8)), (179, .i .i64), (186, .arr 20 (.u .u64)), (187, .arr 65 (.u .u8)), (200, .pair .str .unit), (201, .arr 32 (.u .u8))]
def elT : TypeId → TypeId
 | 22 => 33
 | 23 => 54
 | 30 => 63
 | 31 => 64
 | 63 => 27
 | 64 => 68
 | 66 => 25
 | 69 => 9
 | 77 => 5
 | 91 => 96
 | _ => 0
def mpT : TypeId → Option (TypeId × TypeId)
 | 74 => some (3, 9)
 | _ => none
theorem aN5 : fH Tryz.prog (aBA tab) := aPs (by kernel_rfl)
theorem aUq : ∀ t ct, aBA tab t = some (.sl ct) → Tryz.prog.underlying t = some (.slice (elT t)) := aRP (by kernel_rfl)
theorem aUr : ∀ t k e, mpT t = some (k, e) → Tryz.prog.underlying t = some (.map k e) := by
 intro t k e h
 unfold mpT at h
 split at h
 ·cases h; rfl
 ·cases h
def TM : Tab := aBA tab
noncomputable def EM (l : List (FuncId × aL)) : Env := ⟨TM, GL, fun f _ => gam l f, elT, mpT⟩
theorem aUs (l : List (FuncId × aL)) (t : TypeId) : (EM l).T t = TM t := rfl
theorem aUt (l : List (FuncId × aL)) (t : Nat) : (EM l).G t = GL t := rfl
theorem aUu (l : List (FuncId × aL)) (f : FuncId) (vs : List AV) : (EM l).Γ f vs = gam l f := rfl
theorem aUa (l : List (FuncId × aL)) (t : TypeId) : (EM l).el t = elT t := rfl
theorem aUb (l : List (FuncId × aL)) (t : TypeId) : (EM l).mp t = mpT t := rfl
theorem bI {l : List (FuncId × aL)} (h : bW Tryz.prog GL l) : eT Tryz.prog (EM l) := aPU aN5 aUq aUr h
theorem mix : Tryz.prog.follows .mixedOrders = true := by kernel_rfl
theorem T2 : TM 2 = some (.i .i64) := rfl
theorem T3 : TM 3 = some (.i .i64) := rfl
theorem T4 : TM 4 = some (.bool) := rfl
theorem T5 : TM 5 = some (.u .u8) := rfl
theorem T9 : TM 9 = some (.str) := rfl
theorem T21 : TM 21 = some (.i .i32) := rfl
theorem T22 : TM 22 = some (.sl (.pair (.i .i64) (.pair (.i .i64) (.pair (.i .i64) (.pair (.pair .bool (.pair (.sl (.u .u64)) (.pair (.i .i64) .unit))) (.pair (.pair .bool (.pair (.sl (.u .u64)) (.pair (.i .i64) .unit))) (.pair (.sl (.sl (.pair (.pair .bool (.pair (.sl (.u .u64)) (.pair (.i .i64) .unit))) (.pair (.pair .bool (.pair (.sl (.u .u64)) (.pair (.i .i64) .unit))) .unit)))) (.pair (.sl (.sl (.pair (.sl (.pair .bool (.pair (.sl (.u .u64)) (.pair (.i .i64) .unit)))) (.pair (.sl (.pair (.pair .bool (.pair (.sl (.u .u64)) (.pair (.i .i64) .unit))) (.pair (.pair .bool (.pair (.sl (.u .u64)) (.pair (.i .i64) .unit))) .unit))) .unit)))) .unit)))))))) := rfl
theorem T23 : TM 23 = some (.sl (.u .u64)) := rfl
theorem T25 : TM 25 = some (.pair .bool (.pair (.sl (.u .u64)) (.pair (.i .i64) .unit))) := rfl
theorem T27 : TM 27 = some (.pair (.pair .bool (.pair (.sl (.u .u64)) (.pair (.i .i64) .unit))) (.pair (.pair .bool (.pair (.sl (.u .u64)) (.pair (.i .i64) .unit))) .unit)) := rfl
theorem T30 : TM 30 = some (.sl (.sl (.pair (.pair .bool (.pair (.sl (.u .u64)) (.pair (.i .i64) .unit))) (.pair (.pair .bool (.pair (.sl (.u .u64)) (.pair (.i .i64) .unit))) .unit)))) := rfl
theorem T31 : TM 31 = some (.sl (.sl (.pair (.sl (.pair .bool (.pair (.sl (.u .u64)) (.pair (.i .i64) .unit)))) (.pair (.sl (.pair (.pair .bool (.pair (.sl (.u .u64)) (.pair (.i .i64) .unit))) (.pair (.pair .bool (.pair (.sl (.u .u64)) (.pair (.i .i64) .unit))) .unit))) .unit)))) := rfl
theorem T33 : TM 33 = some (.pair (.i .i64) (.pair (.i .i64) (.pair (.i .i64) (.pair (.pair .bool (.pair (.sl (.u .u64)) (.pair (.i .i64) .unit))) (.pair (.pair .bool (.pair (.sl (.u .u64)) (.pair (.i .i64) .unit))) (.pair (.sl (.sl (.pair (.pair .bool (.pair (.sl (.u .u64)) (.pair (.i .i64) .unit))) (.pair (.pair .bool (.pair (.sl (.u .u64)) (.pair (.i .i64) .unit))) .unit)))) (.pair (.sl (.sl (.pair (.sl (.pair .bool (.pair (.sl (.u .u64)) (.pair (.i .i64) .unit)))) (.pair (.sl (.pair (.pair .bool (.pair (.sl (.u .u64)) (.pair (.i .i64) .unit))) (.pair (.pair .bool (.pair (.sl (.u .u64)) (.pair (.i .i64) .unit))) .unit))) .unit)))) .unit))))))) := rfl
theorem T49 : TM 49 = some (.u .u64) := rfl
theorem T54 : TM 54 = some (.u .u64) := rfl
theorem T63 : TM 63 = some (.sl (.pair (.pair .bool (.pair (.sl (.u .u64)) (.pair (.i .i64) .unit))) (.pair (.pair .bool (.pair (.sl (.u .u64)) (.pair (.i .i64) .unit))) .unit))) := rfl
theorem T64 : TM 64 = some (.sl (.pair (.sl (.pair .bool (.pair (.sl (.u .u64)) (.pair (.i .i64) .unit)))) (.pair (.sl (.pair (.pair .bool (.pair (.sl (.u .u64)) (.pair (.i .i64) .unit))) (.pair (.pair .bool (.pair (.sl (.u .u64)) (.pair (.i .i64) .unit))) .unit))) .unit))) := rfl
theorem T66 : TM 66 = some (.sl (.pair .bool (.pair (.sl (.u .u64)) (.pair (.i .i64) .unit)))) := rfl
theorem T68 : TM 68 = some (.pair (.sl (.pair .bool (.pair (.sl (.u .u64)) (.pair (.i .i64) .unit)))) (.pair (.sl (.pair (.pair .bool (.pair (.sl (.u .u64)) (.pair (.i .i64) .unit))) (.pair (.pair .bool (.pair (.sl (.u .u64)) (.pair (.i .i64) .unit))) .unit))) .unit)) := rfl
theorem T69 : TM 69 = some (.sl .str) := rfl
theorem T77 : TM 77 = some (.sl (.u .u8)) := rfl
theorem T81 : TM 81 = some (.nili) := rfl
theorem T91 : TM 91 = some (.sl (.u .u32)) := rfl
theorem T95 : TM 95 = some (.pair .bool (.pair (.sl (.u .u32)) (.pair (.i .i64) .unit))) := rfl
theorem T96 : TM 96 = some (.u .u32) := rfl
theorem aUv : TM 162 = some (.pair (.i .i64) .unit) := rfl
theorem aUw : TM 165 = some (.pair (.i .i64) .unit) := rfl
theorem aUx : TM 171 = some (.arr 64 (.u .u8)) := rfl
theorem aUy : TM 174 = some (.arr 24 (.u .u8)) := rfl
theorem aUz : TM 179 = some (.i .i64) := rfl
theorem aUA : TM 186 = some (.arr 20 (.u .u64)) := rfl
theorem aUB : TM 187 = some (.arr 65 (.u .u8)) := rfl
theorem aUC : TM 200 = some (.pair .str .unit) := rfl
theorem aUD : TM 201 = some (.arr 32 (.u .u8)) := rfl
theorem aUE : TM 124 = some (.clo 87 .unit) := rfl
attribute [go_sem] aUs aUt aUu aUa aUb elT mpT aUE T2 T3 T4 T5 T9 T21 T22 T23 T25 T27 T30 T31 T33 T49 T54 T63 T64 T66 T68 T69 T77 T81 T91 T95 T96 aUv aUw aUx aUy aUz aUA aUB aUC aUD
end Nu
end Go.Proofs
namespace Go.Proofs
open Go.Vc
set_option maxRecDepth 20000
namespace Nu
def eU (x y c : Nat) : Nat × Nat × Unit := ((x + y + c) % 18446744073709551616, (x + y + c) / 18446744073709551616, ())
def uN (x y c : Nat) : Nat × Nat × Unit := ((x + 18446744073709551616 - y - c) % 18446744073709551616, (if x < y + c then 1 else 0), ())
abbrev uP (x y c : Nat) : Prop := c ≤ 1
def aCJ : Ty := .pair (.u .u64) (.pair (.u .u64) (.pair (.u .u64) .unit))
noncomputable def iS : aL := ⟨aCJ, .tup (.pair (.u .u64) (.pair (.u .u64) .unit)), fun x => uP x.1 x.2.1 x.2.2.1, fun x => eU x.1 x.2.1 x.2.2.1⟩
attribute [go_sem] iS aCJ
def aCK : Ty := .pair (.u .u64) (.pair (.u .u64) (.pair (.u .u64) .unit))
noncomputable def rN : aL := ⟨aCK, .tup (.pair (.u .u64) (.pair (.u .u64) .unit)), fun x => uP x.1 x.2.1 x.2.2.1, fun x => uN x.1 x.2.1 x.2.2.1⟩
attribute [go_sem] rN aCK
theorem aJ3 {w : World} {S : Nat → Prop} {x : Nat} {v : Value} (h : bZ w S (.u .u64) x v) : v = .int .u64 (x : Int) := by
 unfold bZ at h
 rw [if_neg (by simp [Ty.isAgg])] at h
 simp only [aV, List.cons.injEq, and_true] at h
 exact h.1
theorem aGB {w : World} {S : Nat → Prop} {vs : List Value} {x : Nat × Nat × Nat × Unit} (h : jY w S (.pair (.u .u64) (.pair (.u .u64) (.pair (.u .u64) .unit))) x vs) : vs = [.int .u64 (x.1 : Int), .int .u64 (x.2.1 : Int), .int .u64 (x.2.2.1 : Int)] := by
 obtain ⟨v1, r1, rfl, h1, v2, r2, rfl, h2, v3, r3, rfl, h3, h4⟩ := h
 rw [aJ3 h1, aJ3 h2, aJ3 h3]
 have h4 : r3 = [] := h4
 rw [h4]
theorem aQB {w : World} {S : Nat → Prop} {x : Nat} (h : x < 18446744073709551616) : bZ w S (.u .u64) x (.int .u64 (x : Int)) := by
 unfold bZ
 rw [if_neg (by simp [Ty.isAgg])]
 refine ⟨rfl, rfl, ?_⟩
 simp [IntKind.max, IntKind.signed, IntKind.bits]; omega
theorem aLs {w : World} {S : Nat → Prop} {x y : Nat} (hx : x < 18446744073709551616) (hy : y < 18446744073709551616) : jY w S (.pair (.u .u64) (.pair (.u .u64) .unit)) (x, y, ()) [.int .u64 (x : Int), .int .u64 (y : Int)] :=
 ⟨_, _, rfl, aQB hx, _, _, rfl, aQB hy, rfl⟩
theorem wf_u64 {x : Nat} (h : (Ty.u .u64).wf x) : x < 18446744073709551616 := by
 simp only [Ty.wf, IntKind.max, IntKind.signed, IntKind.bits] at h
 simp at h; omega
def aGC : Array Value → Sem Value := fun args => do
 let (x, y, b) ← Extern.MathBitsCarry.three "Sub64" args
 pure (Extern.MathBitsCarry.pair ((x + Extern.MathBitsCarry.m64 - y - b) % Extern.MathBitsCarry.m64) (if x < y + b then 1 else 0))
theorem aO1 {P : Program} (x y b : Nat) (hb : b ≤ 1) (w : World) :
  (aGC #[.int .u64 x, .int .u64 y, .int .u64 b]).run P w =
   .ok (.tuple #[.int .u64 (((x + 18446744073709551616 - y - b) % 18446744073709551616 : Nat) : Int), .int .u64 ((if x < y + b then 1 else 0 : Nat) : Int)]) w := by
 have : b = 0 ∨ b = 1 := by omega
 rcases this with rfl | rfl <;> rfl
theorem wQ : NOK Tryz.prog GL 127 iS := by
 refine aPV fun w S vs x ha hp => ?_
 have hp : x.2.2.1 ≤ 1 := hp
 have hw := aBq _ _ _ ha
 obtain ⟨h1, h2, h3, _⟩ := hw
 have h1 := wf_u64 h1
 have h2 := wf_u64 h2
 rw [aGB ha]
 refine ⟨[.int .u64 (((x.1 + x.2.1 + x.2.2.1) % 18446744073709551616 : Nat) : Int), .int .u64 (((x.1 + x.2.1 + x.2.2.1) / 18446744073709551616 : Nat) : Int)], ?_, aLs (by omega) (by omega)⟩
 rw [run_callFunc_extern Tryz.func127 (by kernel_rfl) (by kernel_rfl) (by kernel_rfl) (e := add64Entry) (by kernel_rfl), run_add64 x.1 x.2.1 x.2.2.1 (by omega) (by omega) (by omega) (by omega)]
 simp only [Result.andThen]
 congr 5 <;> omega
theorem aH2 : NOK Tryz.prog GL 159 rN := by
 refine aPV fun w S vs x ha hp => ?_
 have hp : x.2.2.1 ≤ 1 := hp
 have hw := aBq _ _ _ ha
 obtain ⟨h1, h2, h3, _⟩ := hw
 have h1 := wf_u64 h1
 have h2 := wf_u64 h2
 rw [aGB ha]
 refine ⟨[.int .u64 (((x.1 + 18446744073709551616 - x.2.1 - x.2.2.1) % 18446744073709551616 : Nat) : Int), .int .u64 ((if x.1 < x.2.1 + x.2.2.1 then 1 else 0 : Nat) : Int)], ?_, aLs (by omega) (by split <;> omega)⟩
 rw [run_callFunc_extern Tryz.func159 (by kernel_rfl) (by kernel_rfl) (by kernel_rfl) (e := aGC) (by kernel_rfl), aO1 x.1 x.2.1 x.2.2.1 hp]
 rfl
abbrev aMO (s : List Nat) : Prop := s.length * 8 ≤ 140737488355328
def mL : Ty := .pair (.sl (.u .u64)) .unit
noncomputable def bN : aL := ⟨mL, .own 54 (.u .u64), fun x => aMO x.1, fun x => id x.1⟩
attribute [go_sem] bN mL
noncomputable def qL : List (FuncId × aL) := []
theorem qM : bW Tryz.prog GL qL := .nil
theorem fK : FOK Tryz.prog GL 120 bN := by
 refine aPS (bI qM) Tryz.func120 rfl (by kernel_rfl) (by decide) fun w0 S x hw hp => ?_
 have hF : jB (fr Tryz.prog (EM qL) S w0 Tryz.f120.ntmps) := ⟨bI qM, mix⟩
 obtain ⟨(s : (List Nat)), u⟩ := x
 have hp : s.length * 8 ≤ 140737488355328 := hp
 simp only [cF, mL, bN]
 refine aD (aG hF [0, 2] ?_)
 simp only [go_sem]
 refine aF (aD (aD (aOV hF rfl rfl rfl fun b hb => ?_)))
 refine aF (bV rfl (fun hc => ?_) (fun hc => ?_))
 ·have hs := hb hc
  refine aD (aG hF [2] ?_)
  simp only [go_sem]
  refine aF (cW (dI (iL hF [.tmp 2] rfl rfl rfl ?_)))
  simp only [jD, bA, go_sem, hs]
  try trivial
 ·refine cJ (aF (aD (bO hF [2] ?_)))
  simp only [go_sem]
  refine ⟨by omega, ?_⟩
  refine aF (cW (iL hF [.tmp 2] rfl rfl rfl ?_))
  simp only [jD, bA, go_sem]
  try trivial
end Nu
end Go.Proofs
namespace Go.Proofs
open Go.Vc
namespace Nu
def nv : List Nat → Nat
 | [] => 0
 | x :: r => x + 18446744073709551616 * nv r
def lb (n : Nat) : List Nat := if h : n = 0 then [] else n % 18446744073709551616 :: lb (n / 18446744073709551616)
termination_by n
decreasing_by exact Nat.div_lt_self (by omega) (by decide)
def Lm (a : List Nat) : Prop := ∀ x ∈ a, x < 18446744073709551616
def Nrm (a : List Nat) : Prop := a.getLastD 1 ≠ 0
instance (a : List Nat) : Decidable (Nrm a) := inferInstanceAs (Decidable (_ ≠ _))
theorem wR : nv [] = 0 := rfl
theorem kS (x : Nat) (r : List Nat) : nv (x :: r) = x + 18446744073709551616 * nv r := rfl
theorem gF : lb 0 = [] := by rw [lb]; simp
theorem aAT {n : Nat} (h : n ≠ 0) : lb n = n % 18446744073709551616 :: lb (n / 18446744073709551616) := by rw [lb, dif_neg h]
theorem dV (n : Nat) : nv (lb n) = n := by
 induction n using Nat.strongRecOn with
 | _ n ih =>
  by_cases h : n = 0
  ·subst h; rw [gF]; rfl
  ·rw [aAT h, kS, ih (n / 18446744073709551616) (Nat.div_lt_self (by omega) (by decide))]
   exact Nat.mod_add_div n 18446744073709551616
theorem uQ (n : Nat) : Lm (lb n) := by
 induction n using Nat.strongRecOn with
 | _ n ih =>
  by_cases h : n = 0
  ·subst h; rw [gF]; intro x hx; cases hx
  ·rw [aAT h]
   intro x hx
   rcases List.mem_cons.1 hx with rfl | hx
   ·exact Nat.mod_lt _ (by decide)
   ·exact ih (n / 18446744073709551616) (Nat.div_lt_self (by omega) (by decide)) x hx
theorem uR {n : Nat} : lb n = [] ↔ n = 0 := by
 constructor
 ·intro h
  rcases Nat.eq_zero_or_pos n with h0 | h0
  ·exact h0
  ·rw [aAT (by omega)] at h; cases h
 ·rintro rfl; exact gF
theorem aN6 : Nrm [] := by decide
theorem aQC {x : Nat} {r : List Nat} (h : Nrm r) (hx : r = [] → x ≠ 0) : Nrm (x :: r) := by
 unfold Nrm at *
 cases r with
 | nil => simpa using hx rfl
 | cons y r => simpa using h
theorem pW (n : Nat) : Nrm (lb n) := by
 induction n using Nat.strongRecOn with
 | _ n ih =>
  by_cases h : n = 0
  ·subst h; rw [gF]; exact aN6
  ·rw [aAT h]
   refine aQC (ih _ (Nat.div_lt_self (by omega) (by decide))) fun e => ?_
   have := uR.1 e
   intro h0
   have := Nat.div_add_mod n 18446744073709551616
   omega
theorem aN7 {x : Nat} {r : List Nat} (h : Lm (x :: r)) : x < 18446744073709551616 ∧ Lm r := ⟨h x (by simp), fun y hy => h y (by simp [hy])⟩
theorem aQD {a b : List Nat} (ha : Lm a) (hb : Lm b) : Lm (a ++ b) := fun x hx => (List.mem_append.1 hx).elim (ha x) (hb x)
theorem aGD {x y : Nat} {r : List Nat} (h : Nrm (x :: y :: r)) : Nrm (y :: r) := by
 unfold Nrm at *; simpa using h
theorem xS {a : List Nat} (h : Nrm a) (hne : a ≠ []) : 0 < nv a := by
  induction a with
  | nil => exact absurd rfl hne
  | cons x r ih =>
    rw [kS]
    cases r with
    | nil => have : x ≠ 0 := by simpa [Nrm] using h
             rw [wR]; omega
    | cons y r =>
      have := ih (aGD h) (by simp)
      have : 18446744073709551616 * 1 ≤ 18446744073709551616 * nv (y :: r) := Nat.mul_le_mul_left _ this
      omega
theorem aN8 {a : List Nat} (hl : Lm a) (hn : Nrm a) : lb (nv a) = a := by
 induction a with
 | nil => rw [wR, gF]
 | cons x r ih =>
  have hx := aN7 hl
  have hpos : nv (x :: r) ≠ 0 := by have := xS hn (by simp); omega
  have h1 : nv (x :: r) % 18446744073709551616 = x := by rw [kS, Nat.add_mul_mod_self_left]; exact Nat.mod_eq_of_lt hx.1
  have h2 : nv (x :: r) / 18446744073709551616 = nv r := by rw [kS, Nat.add_mul_div_left _ _ (by decide), Nat.div_eq_of_lt hx.1, Nat.zero_add]
  rw [aAT hpos, h1, h2]
  cases r with
  | nil => rw [wR, gF]
  | cons y r => rw [ih hx.2 (aGD hn)]
theorem aDJ (a b : List Nat) : nv (a ++ b) = nv a + 18446744073709551616 ^ a.length * nv b := by
 induction a with
 | nil => simp [nv]
 | cons x r ih =>
  rw [List.cons_append, kS, kS, ih, List.length_cons, Nat.pow_succ, Nat.mul_add]
  have : 18446744073709551616 * (18446744073709551616 ^ r.length * nv b) = 18446744073709551616 ^ r.length * 18446744073709551616 * nv b := by rw [← Nat.mul_assoc, Nat.mul_comm 18446744073709551616]
  omega
theorem iG {a : List Nat} (hl : Lm a) : nv a < 18446744073709551616 ^ a.length := by
 induction a with
 | nil => simp [nv]
 | cons x r ih =>
  have hx := aN7 hl
  have := ih hx.2
  rw [kS, List.length_cons, Nat.pow_succ]
  have h2 : 18446744073709551616 * (nv r + 1) ≤ 18446744073709551616 * 18446744073709551616 ^ r.length := Nat.mul_le_mul_left _ this
  rw [Nat.mul_add] at h2
  rw [Nat.mul_comm (18446744073709551616 ^ r.length)]
  omega
theorem aN9 {a : List Nat} (hn : Nrm a) (hne : a ≠ []) : 18446744073709551616 ^ (a.length - 1) ≤ nv a := by
 induction a with
 | nil => exact absurd rfl hne
 | cons x r ih =>
  cases r with
  | nil => have := xS hn hne; simp only [List.length_cons, List.length_nil, Nat.zero_add, Nat.sub_self, Nat.pow_zero]; omega
  | cons y r =>
   have := ih (aGD hn) (by simp)
   rw [kS]
   simp only [List.length_cons, Nat.add_sub_cancel] at this ⊢
   rw [Nat.pow_succ, Nat.mul_comm]
   have := Nat.mul_le_mul_left 18446744073709551616 this
   omega
theorem iM {n k : Nat} : (lb n).length ≤ k ↔ n < 18446744073709551616 ^ k := by
 constructor
 ·intro h
  have := iG (uQ n)
  rw [dV] at this
  exact Nat.lt_of_lt_of_le this (Nat.pow_le_pow_right (by decide) h)
 ·intro h
  by_cases h0 : n = 0
  ·subst h0; rw [gF]; exact Nat.zero_le _
  ·have hne : lb n ≠ [] := fun e => h0 (uR.1 e)
   have := aN9 (pW n) hne
   rw [dV] at this
   have hlt : 18446744073709551616 ^ ((lb n).length - 1) < 18446744073709551616 ^ k := Nat.lt_of_le_of_lt this h
   have := (Nat.pow_lt_pow_iff_right (by decide)).1 hlt
   omega
theorem aDK (n : Nat) : nv (List.replicate n 0) = 0 := by
 induction n with
 | zero => rfl
 | succ n ih => rw [List.replicate_succ, kS, ih]
theorem pX (a : List Nat) (k : Nat) : nv a = nv (a.take k) + 18446744073709551616 ^ (min k a.length) * nv (a.drop k) := by
 have := aDJ (a.take k) (a.drop k)
 rw [List.take_append_drop, List.length_take] at this
 exact this
theorem vU {a : List Nat} (h : Lm a) (k : Nat) : Lm (a.take k) := fun x hx => h x (List.mem_of_mem_take hx)
theorem aR5 {a : List Nat} (h : Lm a) (k : Nat) : Lm (a.drop k) := fun x hx => h x (List.mem_of_mem_drop hx)
theorem aCL {a : List Nat} (h : Lm a) (k : Nat) : nv (a.drop k) = nv a / 18446744073709551616 ^ k := by
 rcases Nat.lt_or_ge k a.length with hk | hk
 ·rw [pX a k, Nat.min_eq_left (Nat.le_of_lt hk), Nat.add_mul_div_left _ _ (Nat.pow_pos (by decide)), Nat.div_eq_of_lt, Nat.zero_add]
  have := iG (vU h k)
  rw [List.length_take, Nat.min_eq_left (Nat.le_of_lt hk)] at this
  exact this
 ·rw [List.drop_eq_nil_of_le hk, wR, Nat.div_eq_of_lt]
  exact Nat.lt_of_lt_of_le (iG h) (Nat.pow_le_pow_right (by decide) hk)
theorem aR6 {a : List Nat} (h : Lm a) (k : Nat) : nv (a.take k) = nv a % 18446744073709551616 ^ k := by
 rcases Nat.lt_or_ge k a.length with hk | hk
 ·have h1 := pX a k
  rw [Nat.min_eq_left (Nat.le_of_lt hk)] at h1
  have h2 := iG (vU h k)
  rw [List.length_take, Nat.min_eq_left (Nat.le_of_lt hk)] at h2
  rw [h1, Nat.add_mul_mod_self_left, Nat.mod_eq_of_lt h2]
 ·rw [List.take_of_length_le hk, Nat.mod_eq_of_lt]
  exact Nat.lt_of_lt_of_le (iG h) (Nat.pow_le_pow_right (by decide) hk)
theorem eI {a : List Nat} (h : Lm a) (i : Nat) : a.getD i 0 < 18446744073709551616 := by
 rw [List.getD_eq_getElem?_getD]
 cases e : a[i]? with
 | none => exact (by decide : (0 : Nat) < 18446744073709551616)
 | some x => exact h x (List.mem_of_getElem? e)
theorem take_succ {a : List Nat} {k : Nat} (h : k < a.length) : a.take (k + 1) = a.take k ++ [a.getD k 0] := by
 rw [List.take_succ_eq_append_getElem h, List.getD_eq_getElem?_getD, List.getElem?_eq_getElem h]; rfl
theorem nO {a : List Nat} {k : Nat} (h : k < a.length) : nv (a.take (k + 1)) = nv (a.take k) + 18446744073709551616 ^ k * a.getD k 0 := by
 rw [take_succ h, aDJ, List.length_take, Nat.min_eq_left (Nat.le_of_lt h)]
 simp [nv]
theorem wS {a : List Nat} {k v : Nat} (h : k < a.length) : nv (a.set k v) + 18446744073709551616 ^ k * a.getD k 0 = nv a + 18446744073709551616 ^ k * v := by
 induction a generalizing k with
 | nil => simp at h
 | cons x r ih =>
  cases k with
  | zero => simp [nv]; omega
  | succ k =>
   have := ih (k := k) (by simpa using h)
   simp only [List.set_cons_succ, kS, List.getD_cons_succ, Nat.pow_succ]
   have h1 : 18446744073709551616 ^ k * 18446744073709551616 * r.getD k 0 = 18446744073709551616 * (18446744073709551616 ^ k * r.getD k 0) := by rw [Nat.mul_comm (18446744073709551616 ^ k) 18446744073709551616, Nat.mul_assoc]
   have h2 : 18446744073709551616 ^ k * 18446744073709551616 * v = 18446744073709551616 * (18446744073709551616 ^ k * v) := by rw [Nat.mul_comm (18446744073709551616 ^ k) 18446744073709551616, Nat.mul_assoc]
   rw [h1, h2]
   have := congrArg (18446744073709551616 * ·) this
   simp only [Nat.mul_add] at this
   omega
theorem sU {a : List Nat} (h : Lm a) (k : Nat) {v : Nat} (hv : v < 18446744073709551616) : Lm (a.set k v) := fun x hx => by
 rcases List.mem_or_eq_of_mem_set hx with hx | rfl
 ·exact h x hx
 ·exact hv
theorem aDL (n : Nat) : Lm (List.replicate n 0) := fun x hx => by
 rw [List.eq_of_mem_replicate hx]; decide
theorem qN {a : List Nat} (h : (Ty.sl (.u .u64)).wf a) : Lm a := fun x hx => by
 have := h.2 x hx
 simp only [Ty.wf, IntKind.max, IntKind.signed, IntKind.bits] at this
 simp at this; omega
theorem aMP {a : List Nat} (h : (Ty.sl (.u .u64)).wf a) : a.length ≤ 9223372036854775807 := h.1
theorem aAU {x : Nat} (h : (Ty.u .u64).wf x) : x < 18446744073709551616 := by
 simp only [Ty.wf, IntKind.max, IntKind.signed, IntKind.bits] at h
 simp at h; omega
theorem wf_i64 {x : Int} (h : (Ty.i .i64).wf x) : -9223372036854775808 ≤ x ∧ x ≤ 9223372036854775807 := by
 simpa [Ty.wf, mJ] using h
theorem aOa : eY .u64 = 18446744073709551616 := by decide +kernel
theorem aEk (a b : Nat) : kF .u64 a b = a * b % 18446744073709551616 := by rw [aNp, aOa]
theorem aLt {a b : Nat} (ha : a < 18446744073709551616) (hb : b ≤ a) : iD .u64 a b = a - b := by
 rw [aCo, aOa, show a + (18446744073709551616 - b) = (a - b) + 18446744073709551616 from by omega, Nat.add_mod_right, Nat.mod_eq_of_lt (by omega)]
end Nu
end Go.Proofs
namespace Go.Proofs
open Go.Vc
set_option maxRecDepth 20000
namespace Nu
theorem aB {α : Type} {p : Prop} [Decidable p] {k : Option α} {r : Option α} (hp : p) (h : k = r) : ck p k = r := (aTl hp).trans h
theorem aAi {α : Type} {p : Prop} [Decidable p] {x y r : α} (h1 : p → x = r) (h2 : ¬ p → y = r) : (if p then x else y) = r := by
 split
 ·exact h1 ‹_›
 ·exact h2 ‹_›
theorem cE {α β : Type} {x : Option α} {a : α} {k : α → Option β} {r : Option β} (hx : x = some a) (h : k a = r) : x.bind k = r := by rw [hx]; exact h
def bl (x : Nat) : Nat := if x = 0 then 0 else Nat.log2 x + 1
theorem oG {x k : Nat} (h : x < 2 ^ k) : bl x ≤ k := by
 unfold bl
 split
 ·exact Nat.zero_le _
 ·rename_i h0
  exact (Nat.log2_lt h0).2 h
theorem aCM (x : Nat) : x < 2 ^ bl x := by
 unfold bl
 split
 ·rename_i h; subst h; decide
 ·exact Nat.lt_log2_self
theorem aGE {x k : Nat} (h : 2 ^ k ≤ x) : k < bl x := by
 have h0 : x ≠ 0 := by have := Nat.two_pow_pos k; omega
 unfold bl
 rw [if_neg h0]
 have := (Nat.le_log2 h0).2 h
 omega
theorem aLu {x k : Nat} (h1 : 2 ^ k ≤ x) (h2 : x < 2 ^ (k + 1)) : bl x = k + 1 := Nat.le_antisymm (oG h2) (aGE h1)
theorem aB6 {x : Nat} (h : x ≠ 0) : 0 < bl x := aGE (k := 0) (by omega)
theorem aGF {x : Nat} (h : x ≠ 0) : 2 ^ (bl x - 1) ≤ x := by
 rcases Nat.lt_or_ge x (2 ^ (bl x - 1)) with hh | hh
 ·have := oG hh; have := aB6 h; omega
 ·exact hh
theorem aCN {x k : Nat} (h : 2 ^ k ≤ x) : bl x = k + bl (x / 2 ^ k) := by
 have hk := Nat.two_pow_pos k
 have h1 : 0 < x / 2 ^ k := Nat.div_pos h hk
 obtain ⟨m, hm⟩ : ∃ m, bl (x / 2 ^ k) = m + 1 := ⟨bl (x / 2 ^ k) - 1, by
  have := aGE (x := x / 2 ^ k) (k := 0) h1; omega⟩
 have h2 := aCM (x / 2 ^ k)
 have h3 := aGF (x := x / 2 ^ k) (by omega)
 rw [hm] at h2 h3 ⊢
 refine aLu (k := k + m) ?_ ?_
 ·rw [Nat.pow_add, Nat.mul_comm]; exact (Nat.le_div_iff_mul_le hk).1 h3
 ·rw [Nat.add_assoc, Nat.pow_add, Nat.mul_comm]; exact (Nat.div_lt_iff_lt_mul hk).1 h2
def rH : ByteArray := ⟨⟨0 :: 1 :: 2 :: 2 :: 3 :: 3 :: 3 :: 3 :: 4 :: 4 :: 4 :: 4 :: 4 :: 4 :: 4 :: 4 :: 5 :: 5 :: 5 :: 5 :: 5 :: 5 :: 5 :: 5 :: 5 :: 5 :: 5 :: 5 :: 5 :: 5 :: 5 :: 5 :: 6 :: 6 :: 6 :: 6 :: 6 :: 6 :: 6 :: 6 :: 6 :: 6 :: 6 :: 6 :: 6 :: 6 :: 6 :: 6 :: 6 :: 6 :: 6 :: 6 :: 6 :: 6 :: 6 :: 6 :: 6 :: 6 :: 6 :: 6 :: 6 :: 6 :: 6 :: 6 :: 7 :: 7 :: 7 :: 7 :: 7 :: 7 :: 7 :: 7 :: 7 :: 7 :: 7 :: 7 :: 7 :: 7 :: 7 :: 7 :: 7 :: 7 :: 7 :: 7 :: 7 :: 7 :: 7 :: 7 :: 7 :: 7 :: 7 :: 7 :: 7 :: 7 :: 7 :: 7 :: 7 :: 7 :: 7 :: 7 :: 7 :: 7 :: 7 :: 7 :: 7 :: 7 :: 7 :: 7 :: 7 :: 7 :: 7 :: 7 :: 7 :: 7 :: 7 :: 7 :: 7 :: 7 :: 7 :: 7 :: 7 :: 7 :: 7 :: 7 :: 7 :: 7 :: 7 :: 7 :: 8 :: 8 :: 8 :: 8 :: 8 :: 8 :: 8 :: 8 :: 8 :: 8 :: 8 :: 8 :: 8 :: 8 :: 8 :: 8 :: 8 :: 8 :: 8 :: 8 :: 8 :: 8 :: 8 :: 8 :: 8 :: 8 :: 8 :: 8 :: 8 :: 8 :: 8 :: 8 :: 8 :: 8 :: 8 :: 8 :: 8 :: 8 :: 8 :: 8 :: 8 :: 8 :: 8 :: 8 :: 8 :: 8 :: 8 :: 8 :: 8 :: 8 :: 8 :: 8 :: 8 :: 8 :: 8 :: 8 :: 8 :: 8 :: 8 :: 8 :: 8 :: 8 :: 8 :: 8 :: 8 :: 8 :: 8 :: 8 :: 8 :: 8 :: 8 :: 8 :: 8 :: 8 :: 8 :: 8 :: 8 :: 8 :: 8 :: 8 :: 8 :: 8 :: 8 :: 8 :: 8 :: 8 :: 8 :: 8 :: 8 :: 8 :: 8 :: 8 :: 8 :: 8 :: 8 :: 8 :: 8 :: 8 :: 8 :: 8 :: 8 :: 8 :: 8 :: 8 :: 8 :: 8 :: 8 :: 8 :: 8 :: 8 :: 8 :: 8 :: 8 :: 8 :: 8 :: 8 :: 8 :: 8 :: 8 :: 8 :: 8 :: 8 :: 8 :: 8 :: 8 :: 8 :: 8 :: 8 :: []⟩⟩
theorem aH3 : (⟨⟨0 :: 1 :: 2 :: 2 :: 3 :: 3 :: 3 :: 3 :: 4 :: 4 :: 4 :: 4 :: 4 :: 4 :: 4 :: 4 :: 5 :: 5 :: 5 :: 5 :: 5 :: 5 :: 5 :: 5 :: 5 :: 5 :: 5 :: 5 :: 5 :: 5 :: 5 :: 5 :: 6 :: 6 :: 6 :: 6 :: 6 :: 6 :: 6 :: 6 :: 6 :: 6 :: 6 :: 6 :: 6 :: 6 :: 6 :: 6 :: 6 :: 6 :: 6 :: 6 :: 6 :: 6 :: 6 :: 6 :: 6 :: 6 :: 6 :: 6 :: 6 :: 6 :: 6 :: 6 :: 7 :: 7 :: 7 :: 7 :: 7 :: 7 :: 7 :: 7 :: 7 :: 7 :: 7 :: 7 :: 7 :: 7 :: 7 :: 7 :: 7 :: 7 :: 7 :: 7 :: 7 :: 7 :: 7 :: 7 :: 7 :: 7 :: 7 :: 7 :: 7 :: 7 :: 7 :: 7 :: 7 :: 7 :: 7 :: 7 :: 7 :: 7 :: 7 :: 7 :: 7 :: 7 :: 7 :: 7 :: 7 :: 7 :: 7 :: 7 :: 7 :: 7 :: 7 :: 7 :: 7 :: 7 :: 7 :: 7 :: 7 :: 7 :: 7 :: 7 :: 7 :: 7 :: 7 :: 7 :: 8 :: 8 :: 8 :: 8 :: 8 :: 8 :: 8 :: 8 :: 8 :: 8 :: 8 :: 8 :: 8 :: 8 :: 8 :: 8 :: 8 :: 8 :: 8 :: 8 :: 8 :: 8 :: 8 :: 8 :: 8 :: 8 :: 8 :: 8 :: 8 :: 8 :: 8 :: 8 :: 8 :: 8 :: 8 :: 8 :: 8 :: 8 :: 8 :: 8 :: 8 :: 8 :: 8 :: 8 :: 8 :: 8 :: 8 :: 8 :: 8 :: 8 :: 8 :: 8 :: 8 :: 8 :: 8 :: 8 :: 8 :: 8 :: 8 :: 8 :: 8 :: 8 :: 8 :: 8 :: 8 :: 8 :: 8 :: 8 :: 8 :: 8 :: 8 :: 8 :: 8 :: 8 :: 8 :: 8 :: 8 :: 8 :: 8 :: 8 :: 8 :: 8 :: 8 :: 8 :: 8 :: 8 :: 8 :: 8 :: 8 :: 8 :: 8 :: 8 :: 8 :: 8 :: 8 :: 8 :: 8 :: 8 :: 8 :: 8 :: 8 :: 8 :: 8 :: 8 :: 8 :: 8 :: 8 :: 8 :: 8 :: 8 :: 8 :: 8 :: 8 :: 8 :: 8 :: 8 :: 8 :: 8 :: 8 :: 8 :: 8 :: 8 :: 8 :: 8 :: 8 :: 8 :: 8 :: 8 :: []⟩⟩ : ByteArray) = rH := rfl
attribute [go_sem] aH3
noncomputable def gW (x_6 : Nat) (n_7 : Int) : Option (Int) :=
 ck (0 ≤ (((x_6 % 256) : Nat) : Int) ∧ (((x_6 % 256) : Nat) : Int) < ((((aN rH).length) : Nat) : Int)) (ck (I64 (n_7 + ((((aN rH).getD (x_6 % 256) (0 : Nat)) : Nat) : Int))) (some (n_7 + ((((aN rH).getD (x_6 % 256) (0 : Nat)) : Nat) : Int))))
noncomputable def gX (x_4 : Nat) (n_5 : Int) : Option (Int) :=
 if (256 : Nat) ≤ x_4 then ck (I64 (n_5 + (8 : Int))) (gW (x_4 / (256 : Nat)) (n_5 + (8 : Int))) else gW x_4 n_5
noncomputable def gY (x_2 : Nat) (n_3 : Int) : Option (Int) :=
 if (65536 : Nat) ≤ x_2 then ck (I64 (n_3 + (16 : Int))) (gX (x_2 / (65536 : Nat)) (n_3 + (16 : Int))) else gX x_2 n_3
noncomputable def pY (x_0 : Nat) : Option Int :=
 if (4294967296 : Nat) ≤ x_0 then gY (x_0 / (4294967296 : Nat)) (32 : Int) else gY x_0 (0 : Int)
def cQ (x : Nat) : Int := (bl x : Int)
theorem aR7 : (aN rH).length = 256 ∧ ∀ y, y < 256 → (aN rH).getD y 0 = bl y := by decide +kernel
theorem aLv {x : Nat} {n : Int} (hx : x < 256) (h0 : 0 ≤ n) (h1 : n ≤ 1000) : gW x n = some (n + bl x) := by
 obtain ⟨e1, e2⟩ := aR7
 have e3 := e2 x hx
 have h8 := oG (show x < 2 ^ 8 from hx)
 have hm : x % 256 = x := Nat.mod_eq_of_lt hx
 unfold gW
 rw [hm, e3]
 refine aB (by rw [e1]; omega) (aB (by constructor <;> omega) rfl)
theorem aLw {x : Nat} {n : Int} (hx : x < 65536) (h0 : 0 ≤ n) (h1 : n ≤ 900) : gX x n = some (n + bl x) := by
 unfold gX
 refine aAi (fun h => aB (by constructor <;> omega) ?_) (fun h => aLv (by omega) h0 (by omega))
 rw [aLv (by omega) (by omega) (by omega), aCN (x := x) (k := 8) h]
 congr 1; rw [show (2 : Nat) ^ 8 = 256 from rfl]; omega
theorem aLx {x : Nat} {n : Int} (hx : x < 4294967296) (h0 : 0 ≤ n) (h1 : n ≤ 800) : gY x n = some (n + bl x) := by
 unfold gY
 refine aAi (fun h => aB (by constructor <;> omega) ?_) (fun h => aLw (by omega) h0 (by omega))
 rw [aLw (by omega) (by omega) (by omega), aCN (x := x) (k := 16) h]
 congr 1; rw [show (2 : Nat) ^ 16 = 65536 from rfl]; omega
theorem aGG (x : Nat) (w : (Ty.u .u64).wf x) : pY x = some (cQ x) := by
 have hx := aAU w
 unfold pY
 refine aAi (fun h => ?_) (fun h => ?_)
 ·rw [aLx (by omega) (by omega) (by omega), cQ, aCN (x := x) (k := 32) h]
  rfl
 ·rw [aLx (by omega) (by omega) (by omega), cQ]; congr 1; omega
theorem aO2 {x : Nat} (hx : x < 18446744073709551616) : bl x ≤ 64 := oG hx
noncomputable def fT (x_0 : Nat) : Option Int :=
 ck (I64 ((64 : Int) - (cQ x_0))) (some ((64 : Int) - (cQ x_0)))
def aA (x : Nat) : Int := 64 - (bl x : Int)
theorem xT (x : Nat) (w : (Ty.u .u64).wf x) : fT x = some (aA x) := by
 have := aO2 (aAU w)
 unfold fT cQ aA
 exact aB (by constructor <;> omega) rfl
noncomputable def fL (x_0 : Nat) : Option Int :=
 if x_0 = (0 : Nat) then some (64 : Int) else ck (0 ≤ ((((kF .u64 (x_0 &&& (aHW .u64 x_0)) (285870213051353865 : Nat)) / (288230376151711744 : Nat)) : Nat) : Int) ∧ ((((kF .u64 (x_0 &&& (aHW .u64 x_0)) (285870213051353865 : Nat)) / (288230376151711744 : Nat)) : Nat) : Int) < (64 : Int)) (some (((aMN.getD ((kF .u64 (x_0 &&& (aHW .u64 x_0)) (285870213051353865 : Nat)) / (288230376151711744 : Nat)) (0 : Nat)) : Nat) : Int))
def eD (x : Nat) : Int := (Lib.ctz 64 x : Int)
theorem aR8 : aMN = Lib.deBruijn64tab := by rw [aN4]; decide
theorem aUc {x : Nat} (hx : x < 18446744073709551616) (hc : ¬ x = 0) : aHW .u64 x = 18446744073709551616 - x := by
 rw [aNr, aOa, Nat.zero_add]
 exact Nat.mod_eq_of_lt (by omega)
theorem aTo {x : Nat} (hx : x < 18446744073709551616) (hc : ¬ x = 0) : kF .u64 (x &&& aHW .u64 x) 285870213051353865 / 288230376151711744 < 64 ∧ aMN.getD (kF .u64 (x &&& aHW .u64 x) 285870213051353865 / 288230376151711744) 0 = Lib.ctz 64 x := by
 obtain ⟨h1, h2⟩ := Lib.lowest_bit 64 x hc hx
 have e2 : (2 : Nat) ^ 64 = 18446744073709551616 := by decide
 rw [e2] at h1
 rw [aEk, aUc hx hc, h1, aR8]
 exact Lib.deBruijn64_at _ h2
theorem wT (x : Nat) (w : (Ty.u .u64).wf x) : fL x = some (eD x) := by
 unfold fL eD
 refine aAi (fun h => ?_) (fun h => ?_)
 ·subst h; rfl
 ·obtain ⟨h1, h2⟩ := aTo (aAU w) h
  rw [h2]
  exact aB ⟨Int.natCast_nonneg _, Int.ofNat_lt.2 h1⟩ rfl
noncomputable def pZ (x_0 : Nat) (y_1 : Nat) : Option (Nat × (Nat × Unit)) :=
 some ((((((kF .u64 (x_0 / (4294967296 : Nat)) (y_1 / (4294967296 : Nat))) + ((((kF .u64 (x_0 / (4294967296 : Nat)) (y_1 &&& (4294967295 : Nat))) + ((kF .u64 (x_0 &&& (4294967295 : Nat)) (y_1 &&& (4294967295 : Nat))) / (4294967296 : Nat))) % 18446744073709551616) / (4294967296 : Nat))) % 18446744073709551616) + (((((((kF .u64 (x_0 / (4294967296 : Nat)) (y_1 &&& (4294967295 : Nat))) + ((kF .u64 (x_0 &&& (4294967295 : Nat)) (y_1 &&& (4294967295 : Nat))) / (4294967296 : Nat))) % 18446744073709551616) &&& (4294967295 : Nat)) + (kF .u64 (x_0 &&& (4294967295 : Nat)) (y_1 / (4294967296 : Nat)))) % 18446744073709551616) / (4294967296 : Nat))) % 18446744073709551616), (kF .u64 x_0 y_1), ())
def bH (x y : Nat) : Nat × Nat × Unit := (x * y / 18446744073709551616, x * y % 18446744073709551616, ())
theorem aTp (x : Nat) : x &&& 4294967295 = x % 4294967296 := Nat.and_two_pow_sub_one_eq_mod x 32
theorem aQE {x y : Nat} (hx : x < 18446744073709551616) (hy : y < 18446744073709551616) :
  ((x / 4294967296 * (y / 4294967296) % 18446744073709551616 + (x / 4294967296 * (y &&& 4294967295) % 18446744073709551616 + (x &&& 4294967295) * (y &&& 4294967295) % 18446744073709551616 / 4294967296) % 18446744073709551616 / 4294967296) % 18446744073709551616 +
     (((x / 4294967296 * (y &&& 4294967295) % 18446744073709551616 + (x &&& 4294967295) * (y &&& 4294967295) % 18446744073709551616 / 4294967296) % 18446744073709551616 &&& 4294967295) + (x &&& 4294967295) * (y / 4294967296) % 18446744073709551616) % 18446744073709551616 / 4294967296) % 18446744073709551616 = x * y / 18446744073709551616 := by
 simp only [aTp]
 have a1 : x / 4294967296 ≤ 4294967295 := by omega
 have a2 : x % 4294967296 ≤ 4294967295 := by omega
 have b1 : y / 4294967296 ≤ 4294967295 := by omega
 have b2 : y % 4294967296 ≤ 4294967295 := by omega
 have ex := Nat.div_add_mod x 4294967296
 have ey := Nat.div_add_mod y 4294967296
 generalize x / 4294967296 = a at *
 generalize x % 4294967296 = b at *
 generalize y / 4294967296 = c at *
 generalize y % 4294967296 = d at *
 subst ex; subst ey
 have e : (4294967296 * a + b) * (4294967296 * c + d) = a * c * 18446744073709551616 + (a * d + b * c) * 4294967296 + b * d := by
  simp only [Nat.add_mul, Nat.mul_add]
  have h1 : 4294967296 * a * (4294967296 * c) = a * c * 18446744073709551616 := by
   rw [Nat.mul_mul_mul_comm, Nat.mul_comm _ (a * c)]
  have h2 : 4294967296 * a * d = a * d * 4294967296 := by rw [Nat.mul_assoc, Nat.mul_comm]
  have h3 : b * (4294967296 * c) = b * c * 4294967296 := by rw [Nat.mul_left_comm, Nat.mul_comm]
  omega
 rw [e]
 have p1 := Nat.mul_le_mul a1 b1
 have p2 := Nat.mul_le_mul a1 b2
 have p3 := Nat.mul_le_mul a2 b1
 have p4 := Nat.mul_le_mul a2 b2
 generalize a * c = ac at *
 generalize a * d = ad at *
 generalize b * c = bc at *
 generalize b * d = bd at *
 omega
theorem aGH (x : Nat) (wx : (Ty.u .u64).wf x) (y : Nat) (wy : (Ty.u .u64).wf y) : pZ x y = some (bH x y) := by
 unfold pZ bH
 simp only [aEk]
 rw [aQE (aAU wx) (aAU wy)]
end Nu
end Go.Proofs
namespace Go.Proofs
open Go.Vc
set_option maxRecDepth 20000
namespace Nu
abbrev Sz (a : List Nat) : Prop := a.length ≤ 1099511627776
abbrev pSz (a : List Nat) : Prop := Sz a
abbrev aCO (a b : List Nat) : Prop := Sz a ∧ Sz b
abbrev aOb (a b : List Nat) : Prop := Nrm a ∧ Nrm b
abbrev aEl (a : List Nat) : Prop := Nrm a ∧ Sz a
theorem aJ4 {a : List Nat} (h : 0 < a.length) : Nrm a ↔ a.getD (a.length - 1) 0 ≠ 0 := by
 unfold Nrm
 rw [List.getD_eq_getElem?_getD, List.getLastD_eq_getLast?, List.getLast?_eq_getElem?]
 rw [List.getElem?_eq_getElem (show a.length - 1 < a.length by omega)]
 rfl
noncomputable def rO (a_4 : (List Nat)) : Option (((List Nat)) ⊕ (((List Nat)))) :=
 ck ((((0 : Int) < (((a_4.length) : Nat) : Int)) → (I64 ((((a_4.length) : Nat) : Int) - (1 : Int))))) (ck ((((0 : Int) < (((a_4.length) : Nat) : Int)) → (0 ≤ ((((a_4.length) : Nat) : Int) - (1 : Int)) ∧ ((((a_4.length) : Nat) : Int) - (1 : Int)) < (((a_4.length) : Nat) : Int)))) (if ((0 : Int) < (((a_4.length) : Nat) : Int)) ∧ ((a_4.getD (((((a_4.length) : Nat) : Int) - (1 : Int)).toNat) (0 : Nat)) = (0 : Nat)) then ck (I64 ((((a_4.length) : Nat) : Int) - (1 : Int))) (ck (0 ≤ ((((a_4.length) : Nat) : Int) - (1 : Int)) ∧ ((((a_4.length) : Nat) : Int) - (1 : Int)) ≤ (((a_4.length) : Nat) : Int)) (some (.inl (List.take (((((a_4.length) : Nat) : Int) - (1 : Int)).toNat) a_4)))) else some (.inr a_4)))
noncomputable def uS (a_0 : (List Nat)) : Option (List Nat) :=
 (dC (fun d : (List Nat) => rO d) a_0).bind (fun e => some e)
def cK (a : List Nat) : List Nat := lb (nv a)
theorem aJ5 (a : List Nat) (w : (Ty.sl (.u .u64)).wf a) : uS a = some (cK a) := by
 unfold uS
 refine cE (jZ (I := fun d => Lm d ∧ d.length ≤ 9223372036854775807) (fun d => d.length) (fun d => lb (nv d)) ?_ a ⟨qN w, aMP w⟩) rfl
 intro d ⟨hl, hn⟩
 unfold rO
 rcases Nat.eq_zero_or_pos d.length with h0 | h0
 ·right
  have e : d = [] := List.eq_nil_of_length_eq_zero h0
  subst e
  refine aB (by intro h; simp at h) (aB (by intro h; simp at h) ?_)
  rw [if_neg (by simp)]
  rw [wR, gF]
 ·have e1 : ((d.length : Nat) : Int) - 1 = ((d.length - 1 : Nat) : Int) := by omega
  rw [e1, Int.toNat_natCast]
  by_cases hz : d.getD (d.length - 1) 0 = 0
  ·left
   refine ⟨d.take (d.length - 1), aB (by intro _; constructor <;> omega) (aB (by intro _; constructor <;> omega) ?_), ⟨vU hl _, by rw [List.length_take]; omega⟩, by rw [List.length_take]; omega, ?_⟩
   ·rw [if_pos ⟨by omega, hz⟩]
    exact aB (by constructor <;> omega) (aB (by constructor <;> omega) rfl)
   ·have := nO (a := d) (k := d.length - 1) (by omega)
    rw [hz, show d.length - 1 + 1 = d.length from by omega, List.take_length] at this
    simp only [Nat.mul_zero, Nat.add_zero] at this
    rw [this]
  ·right
   refine aB (by intro _; constructor <;> omega) (aB (by intro _; constructor <;> omega) ?_)
   rw [if_neg (fun h => hz h.2), aN8 hl ((aJ4 h0).2 hz)]
noncomputable def xU (a_0 : (List Nat)) : Option Bool :=
 ck ((¬ ((((a_0.length) : Nat) : Int) = (0 : Int)) → ((((a_0.length) : Nat) : Int) ≤ (64 : Int)) → (I64 ((((a_0.length) : Nat) : Int) - (1 : Int))))) (ck ((¬ ((((a_0.length) : Nat) : Int) = (0 : Int)) → ((((a_0.length) : Nat) : Int) ≤ (64 : Int)) → (0 ≤ ((((a_0.length) : Nat) : Int) - (1 : Int)) ∧ ((((a_0.length) : Nat) : Int) - (1 : Int)) < (((a_0.length) : Nat) : Int)))) (some ((decide ((((a_0.length) : Nat) : Int) = (0 : Int))) || ((decide ((((a_0.length) : Nat) : Int) ≤ (64 : Int))) && (!(decide ((a_0.getD (((((a_0.length) : Nat) : Int) - (1 : Int)).toNat) (0 : Nat)) = (0 : Nat))))))))
def xV (a : List Nat) : Bool := decide (a.length ≤ 64 ∧ Nrm a)
theorem aLy (a : List Nat) (w : (Ty.sl (.u .u64)).wf a) : xU a = some (xV a) := by
 have hn := aMP w
 unfold xU xV
 rcases Nat.eq_zero_or_pos a.length with h0 | h0
 ·have e : a = [] := List.eq_nil_of_length_eq_zero h0
  subst e
  refine aB (by intro h; simp at h) (aB (by intro h; simp at h) ?_)
  decide
 ·have e1 : ((a.length : Nat) : Int) - 1 = ((a.length - 1 : Nat) : Int) := by omega
  rw [e1, Int.toNat_natCast]
  refine aB (by intro _ _; constructor <;> omega) (aB (by intro _ _; constructor <;> omega) ?_)
  congr 1
  rw [Bool.eq_iff_iff]
  have := aJ4 h0
  simp only [Bool.or_eq_true, decide_eq_true_eq, Bool.and_eq_true, Bool.not_eq_true', decide_eq_false_iff_not]
  rw [this]
  constructor
  ·rintro (h | h)
   ·omega
   ·exact ⟨by omega, h.2⟩
  ·intro h; exact .inr ⟨by omega, h.2⟩
noncomputable def uT (less_0 : Bool) : Option Int :=
 if less_0 = true then some (-1 : Int) else some (1 : Int)
def oT (b : Bool) : Int := if b = true then -1 else 1
theorem aJ6 (b : Bool) (w : Ty.bool.wf b) : uT b = some (oT b) := by
 unfold uT oT
 cases b <;> rfl
noncomputable def mV (a_0 : (List Nat)) (b_1 : (List Nat)) (i_5 : Int) : Option ((Int) ⊕ ((Unit) ⊕ Int)) :=
 if (0 : Int) ≤ i_5 then ck (0 ≤ i_5 ∧ i_5 < (((a_0.length) : Nat) : Int)) (ck (0 ≤ i_5 ∧ i_5 < (((b_1.length) : Nat) : Int)) (if ¬ ((a_0.getD (i_5.toNat) (0 : Nat)) = (b_1.getD (i_5.toNat) (0 : Nat))) then ck (0 ≤ i_5 ∧ i_5 < (((a_0.length) : Nat) : Int)) (ck (0 ≤ i_5 ∧ i_5 < (((b_1.length) : Nat) : Int)) (some (.inr (.inr (oT (decide ((a_0.getD (i_5.toNat) (0 : Nat)) < (b_1.getD (i_5.toNat) (0 : Nat))))))))) else ck (I64 (i_5 - (1 : Int))) (some (.inl (i_5 - (1 : Int)))))) else some (.inr (.inl ()))
noncomputable def sC (a_0 : (List Nat)) (b_1 : (List Nat)) : Option Int :=
 if ¬ ((((a_0.length) : Nat) : Int) = (((b_1.length) : Nat) : Int)) then some (oT (decide ((((a_0.length) : Nat) : Int) < (((b_1.length) : Nat) : Int)))) else ck (I64 ((((a_0.length) : Nat) : Int) - (1 : Int))) ((dC (fun d : Int => mV a_0 b_1 d) ((((a_0.length) : Nat) : Int) - (1 : Int))).bind (fun e => match e with | (.inl e) => some (0 : Int) | (.inr e) => some e))
def xW (x y : Nat) : Int := if x < y then -1 else if x = y then 0 else 1
def lH (a b : List Nat) : Int := xW (nv a) (nv b)
theorem aJp {a b : List Nat} (ha : Lm a) (hb : Nrm b) (h : a.length < b.length) : nv a < nv b := by
 have h1 := iG ha
 have h2 := aN9 hb (by intro e; subst e; simp at h)
 exact Nat.lt_of_lt_of_le h1 (Nat.le_trans (Nat.pow_le_pow_right (by decide) (by omega)) h2)
theorem aH4 (a : List Nat) (wa : (Ty.sl (.u .u64)).wf a) (b : List Nat) (wb : (Ty.sl (.u .u64)).wf b) (hp : aOb a b) : sC a b = some (lH a b) := by
 have la := qN wa
 have lb' := qN wb
 have na := aMP wa
 unfold sC lH
 refine aAi (fun h => ?_) (fun h => ?_)
 ·unfold oT xW
  rcases Nat.lt_or_ge a.length b.length with hl | hl
  ·have := aJp la hp.2 hl
   simp [hl, this]
  ·have hl' : b.length < a.length := by omega
   have := aJp lb' hp.1 hl'
   have h1 : ¬ a.length < b.length := by omega
   have h2 : ¬ nv a < nv b := by omega
   have h3 : ¬ nv a = nv b := by omega
   simp [h1, h2, h3]
 ·have hlen : a.length = b.length := by omega
  refine aB (by constructor <;> omega) ?_
  have key := jZ (step := fun d : Int => mV a b d) (I := fun i => -1 ≤ i ∧ i < a.length ∧ nv (a.drop (i + 1).toNat) = nv (b.drop (i + 1).toNat)) (fun i => (i + 1).toNat)
   (fun i => if nv (a.take (i + 1).toNat) = nv (b.take (i + 1).toNat) then (.inl () : Unit ⊕ Int) else .inr (if nv (a.take (i + 1).toNat) < nv (b.take (i + 1).toNat) then -1 else 1)) ?_ ((a.length : Int) - 1) ⟨by omega, by omega, by rw [List.drop_eq_nil_of_le (by omega), List.drop_eq_nil_of_le (by omega)]⟩
  ·rw [show ((a.length : Int) - 1 + 1).toNat = a.length from by omega, List.take_length] at key
   rw [hlen, List.take_length] at key
   rw [hlen]
   refine cE key ?_
   unfold xW
   by_cases e : nv a = nv b
   ·simp [e]
   ·by_cases e2 : nv a < nv b <;> simp [e, e2]
  ·intro i ⟨h1, h2, h3⟩
   try dsimp only
   unfold mV
   by_cases hi : 0 ≤ i
   ·have hk : (i + 1).toNat = i.toNat + 1 := by omega
    have hia : i.toNat < a.length := by omega
    have hib : i.toNat < b.length := by omega
    rw [if_pos hi, hk, nO hia, nO hib]
    have ta := iG (vU la i.toNat)
    have tb := iG (vU lb' i.toNat)
    rw [List.length_take, Nat.min_eq_left (by omega)] at ta tb
    by_cases he : a.getD i.toNat 0 = b.getD i.toNat 0
    ·left
     refine ⟨i - 1, aB (by constructor <;> omega) (aB (by constructor <;> omega) ?_), ⟨by omega, by omega, ?_⟩, by omega, ?_⟩
     ·rw [if_neg (by simpa using he)]
      exact aB (by constructor <;> omega) rfl
     ·rw [show (i - 1 + 1).toNat = i.toNat from by omega, List.drop_eq_getElem_cons hia, List.drop_eq_getElem_cons hib, kS, kS]
      rw [hk] at h3
      rw [h3]
      rw [List.getD_eq_getElem?_getD, List.getD_eq_getElem?_getD, List.getElem?_eq_getElem hia, List.getElem?_eq_getElem hib] at he
      have he : a[i.toNat] = b[i.toNat] := he
      rw [he]
     ·rw [show (i - 1 + 1).toNat = i.toNat from by omega, he]
      simp only [Nat.add_right_cancel_iff, Nat.add_lt_add_iff_right]
    ·right
     refine aB (by constructor <;> omega) (aB (by constructor <;> omega) ?_)
     rw [if_pos he]
     refine aB (by constructor <;> omega) (aB (by constructor <;> omega) ?_)
     unfold oT
     generalize a.getD i.toNat 0 = x at *
     generalize b.getD i.toNat 0 = y at *
     generalize nv (a.take i.toNat) = p at *
     generalize nv (b.take i.toNat) = q at *
     generalize 18446744073709551616 ^ i.toNat = P at *
     rcases Nat.lt_or_ge x y with hxy | hxy
     ·have : P * (x + 1) ≤ P * y := Nat.mul_le_mul_left _ hxy
      rw [Nat.mul_add] at this
      have h5 : ¬ p + P * x = q + P * y := by omega
      have h6 : p + P * x < q + P * y := by omega
      simp [hxy, h5, h6]
     ·have hxy' : y < x := by omega
      have : P * (y + 1) ≤ P * x := Nat.mul_le_mul_left _ hxy'
      rw [Nat.mul_add] at this
      have h5 : ¬ p + P * x = q + P * y := by omega
      have h6 : ¬ p + P * x < q + P * y := by omega
      have h7 : ¬ x < y := by omega
      simp [h7, h5, h6]
   ·right
    have e : i = -1 := by omega
    subst e
    rw [if_neg hi]
    simp [nv]
noncomputable def uU (a_0 : (List Nat)) : Option Int :=
 if (((a_0.length) : Nat) : Int) = (0 : Int) then some (0 : Int) else ck (I64 ((64 : Int) * (((a_0.length) : Nat) : Int))) (ck (I64 ((((a_0.length) : Nat) : Int) - (1 : Int))) (ck (0 ≤ ((((a_0.length) : Nat) : Int) - (1 : Int)) ∧ ((((a_0.length) : Nat) : Int) - (1 : Int)) < (((a_0.length) : Nat) : Int)) (ck (I64 (((64 : Int) * (((a_0.length) : Nat) : Int)) - (aA (a_0.getD (((((a_0.length) : Nat) : Int) - (1 : Int)).toNat) (0 : Nat))))) (some (((64 : Int) * (((a_0.length) : Nat) : Int)) - (aA (a_0.getD (((((a_0.length) : Nat) : Int) - (1 : Int)).toNat) (0 : Nat))))))))
def aT (a : List Nat) : Int := (bl (nv a) : Int)
theorem mM (k : Nat) : 18446744073709551616 ^ k = 2 ^ (64 * k) := by rw [Nat.pow_mul]
theorem aMQ {x m k : Nat} (hx : x ≠ 0) (hm : m < 2 ^ k) : bl (m + 2 ^ k * x) = k + bl x := by
 have hk := Nat.two_pow_pos k
 have h1 : 2 ^ k * 1 ≤ 2 ^ k * x := Nat.mul_le_mul_left _ (by omega)
 rw [aCN (x := m + 2 ^ k * x) (k := k) (by omega), Nat.add_mul_div_left _ _ hk, Nat.div_eq_of_lt hm, Nat.zero_add]
theorem aR9 {a : List Nat} (h : 0 < a.length) : nv a = nv (a.take (a.length - 1)) + 18446744073709551616 ^ (a.length - 1) * a.getD (a.length - 1) 0 := by
 have := nO (a := a) (k := a.length - 1) (by omega)
 rwa [show a.length - 1 + 1 = a.length from by omega, List.take_length] at this
theorem aSa {a : List Nat} (hl : Lm a) (hn : Nrm a) (h : 0 < a.length) : bl (nv a) = 64 * (a.length - 1) + bl (a.getD (a.length - 1) 0) := by
 rw [aR9 h, mM]
 refine aMQ ((aJ4 h).1 hn) ?_
 have := iG (vU hl (a.length - 1))
 rw [List.length_take, Nat.min_eq_left (by omega), mM] at this
 exact this
theorem aJ7 (a : List Nat) (w : (Ty.sl (.u .u64)).wf a) (hp : aEl a) : uU a = some (aT a) := by
 obtain ⟨hn, hs⟩ := hp
 unfold uU aT
 refine aAi (fun h => ?_) (fun h => ?_)
 ·have e : a = [] := List.eq_nil_of_length_eq_zero (by omega)
  subst e; rfl
 ·have h0 : 0 < a.length := by omega
  have h64 := aO2 (eI (qN w) (a.length - 1))
  have e1 : ((a.length : Nat) : Int) - 1 = ((a.length - 1 : Nat) : Int) := by omega
  rw [e1, Int.toNat_natCast]
  unfold aA
  rw [aSa (qN w) hn h0]
  refine aB (by constructor <;> omega) (aB (by constructor <;> omega) (aB (by constructor <;> omega) (aB (by constructor <;> omega) ?_)))
  congr 1; omega
end Nu
end Go.Proofs
namespace Go.Proofs
open Go.Vc
set_option maxRecDepth 20000
namespace Nu
def tzn (n : Nat) : Nat := if h : n = 0 then 0 else if n % 2 = 1 then 0 else 1 + tzn (n / 2)
termination_by n
decreasing_by exact Nat.div_lt_self (by omega) (by decide)
theorem uW {n : Nat} (h : n ≠ 0) : ∃ m, n = 2 ^ tzn n * (2 * m + 1) := by
 induction n using Nat.strongRecOn with
 | _ n ih =>
  rw [tzn, dif_neg h]
  split
  ·exact ⟨n / 2, by rw [Nat.pow_zero]; omega⟩
  ·obtain ⟨m, hm⟩ := ih (n / 2) (Nat.div_lt_self (by omega) (by decide)) (by omega)
   refine ⟨m, ?_⟩
   rw [Nat.add_comm 1, Nat.pow_succ, Nat.mul_assoc, Nat.mul_comm 2, ← Nat.mul_assoc, ← hm]
   omega
theorem aSb {a b m k : Nat} (h : 2 ^ a * (2 * m + 1) = 2 ^ b * (2 * k + 1)) : a = b := by
 have main : ∀ {a b m k : Nat}, 2 ^ a * (2 * m + 1) = 2 ^ b * (2 * k + 1) → ¬ a < b := fun {a b m k} h hlt => by
  obtain ⟨d, rfl⟩ : ∃ d, b = a + (d + 1) := ⟨b - a - 1, by omega⟩
  rw [Nat.pow_add, Nat.mul_assoc] at h
  have := Nat.eq_of_mul_eq_mul_left (Nat.two_pow_pos a) h
  rw [Nat.pow_succ, Nat.mul_comm (2 ^ d) 2, Nat.mul_assoc] at this
  omega
 have := main h
 have := main h.symm
 omega
theorem zD {n k m : Nat} (h : n = 2 ^ k * (2 * m + 1)) : tzn n = k := by
 have h0 : n ≠ 0 := by
  intro e
  have := Nat.two_pow_pos k
  have : 0 < 2 ^ k * (2 * m + 1) := Nat.mul_pos this (by omega)
  omega
 obtain ⟨m', hm⟩ := uW h0
 exact aSb (hm.symm.trans h)
theorem aSc {x : Nat} (k : Nat) (h : x ≠ 0) : tzn (2 ^ k * x) = k + tzn x := by
 obtain ⟨m, hm⟩ := uW h
 refine zD (m := m) ?_
 rw [Nat.pow_add, Nat.mul_assoc, ← hm]
theorem aOc {x : Nat} (hx : x < 18446744073709551616) (h : x ≠ 0) : Lib.ctz 64 x = tzn x ∧ tzn x < 64 := by
 obtain ⟨m, hm, hk⟩ := Lib.ctzFrom_spec 64 x (by omega) hx
 have e : Lib.ctz 64 x = Lib.ctzFrom 64 x := by simp [Lib.ctz, h]
 have := zD hm
 rw [e]; omega
theorem aSd {x q : Nat} (hx : x < 18446744073709551616) (h : x ≠ 0) : tzn (x + 18446744073709551616 * q) = tzn x := by
 obtain ⟨m, hm⟩ := uW h
 have hk := (aOc hx h).2
 refine zD (m := m + 2 ^ (63 - tzn x) * q) ?_
 have e : 18446744073709551616 = 2 ^ tzn x * (2 * 2 ^ (63 - tzn x)) := by
  rw [← Nat.mul_assoc, Nat.mul_comm _ 2, ← Nat.pow_succ', ← Nat.pow_add, show tzn x + 1 + (63 - tzn x) = 64 from by omega]
 rw [e]
 generalize tzn x = t at hm
 subst hm
 have h1 : 2 ^ t * (2 * m + 1) + 2 ^ t * (2 * 2 ^ (63 - t)) * q = 2 ^ t * (2 * m + 1 + 2 * (2 ^ (63 - t) * q)) := by
  rw [Nat.mul_add (2 ^ t) (2 * m + 1), Nat.mul_assoc (2 ^ t), Nat.mul_assoc 2]
 rw [h1]
 congr 1; omega
noncomputable def mW (a_0 : (List Nat)) (x7_4 : Int) : Option ((Int) ⊕ ((Unit) ⊕ Int)) :=
 if x7_4 < (((a_0.length) : Nat) : Int) then ck (0 ≤ x7_4 ∧ x7_4 < (((a_0.length) : Nat) : Int)) (if ¬ ((a_0.getD (x7_4.toNat) (0 : Nat)) = (0 : Nat)) then ck (I64 ((64 : Int) * x7_4)) (ck (I64 (((64 : Int) * x7_4) + (eD (a_0.getD (x7_4.toNat) (0 : Nat))))) (some (.inr (.inr (((64 : Int) * x7_4) + (eD (a_0.getD (x7_4.toNat) (0 : Nat)))))))) else ck (I64 (x7_4 + (1 : Int))) (some (.inl (x7_4 + (1 : Int))))) else some (.inr (.inl ()))
noncomputable def sD (a_0 : (List Nat)) : Option Int :=
 (dC (fun d : Int => mW a_0 d) (0 : Int)).bind (fun e => match e with | (.inl e) => some (-1 : Int) | (.inr e) => some e)
def bS (a : List Nat) : Int := if nv a = 0 then -1 else (tzn (nv a) : Int)
theorem aH5 (a : List Nat) (w : (Ty.sl (.u .u64)).wf a) (hp : pSz a) : sD a = some (bS a) := by
 have hl := qN w
 have hs : a.length ≤ 1099511627776 := hp
 unfold sD bS
 have key := jZ (step := fun d : Int => mW a d) (I := fun i => 0 ≤ i ∧ i ≤ a.length ∧ nv (a.take i.toNat) = 0) (fun i => (a.length - i).toNat)
   (fun i => if nv a = 0 then (.inl () : Unit ⊕ Int) else .inr (tzn (nv a) : Int)) ?_ 0 ⟨by omega, by omega, rfl⟩
 ·refine cE key ?_
  by_cases e : nv a = 0 <;> simp [e]
 ·intro i ⟨h0, h1, h2⟩
  try dsimp only
  unfold mW
  by_cases hi : i < a.length
  ·have hk : i.toNat < a.length := by omega
   have hd := pX a i.toNat
   rw [h2, Nat.zero_add, Nat.min_eq_left (by omega), List.drop_eq_getElem_cons hk, kS] at hd
   have hg : a.getD i.toNat 0 = a[i.toNat] := by rw [List.getD_eq_getElem?_getD, List.getElem?_eq_getElem hk]; rfl
   have hx := eI hl i.toNat
   rw [← hg] at hd
   rw [if_pos hi]
   by_cases hz : a.getD i.toNat 0 = 0
   ·left
    refine ⟨i + 1, aB (by constructor <;> omega) ?_, ⟨by omega, by omega, ?_⟩, by omega, rfl⟩
    ·rw [if_neg (by simpa using hz)]
     exact aB (by constructor <;> omega) rfl
    ·rw [show (i + 1).toNat = i.toNat + 1 from by omega, nO hk, h2, hz, Nat.mul_zero]
   ·right
    obtain ⟨c1, c2⟩ := aOc hx hz
    have hne : a.getD i.toNat 0 + 18446744073709551616 * nv (a.drop (i.toNat + 1)) ≠ 0 := by omega
    have ht : tzn (nv a) = 64 * i.toNat + tzn (a.getD i.toNat 0) := by
     rw [hd, mM, aSc _ hne, aSd hx hz]
    have hn0 : nv a ≠ 0 := by
     rw [hd]
     exact Nat.mul_ne_zero (by rw [mM]; exact Nat.pos_iff_ne_zero.1 (Nat.two_pow_pos _)) hne
    refine aB (by constructor <;> omega) ?_
    rw [if_pos (by simpa using hz), if_neg hn0, ht]
    unfold eD
    rw [c1]
    refine aB (by constructor <;> omega) (aB (by constructor <;> omega) ?_)
    congr 3; omega
  ·right
   rw [if_neg hi]
   have : nv a = 0 := by rw [show i.toNat = a.length from by omega, List.take_length] at h2; exact h2
   rw [if_pos this]
theorem lP (b : List Nat) (i : Nat) : nv (b.take (i + 1)) = nv (b.take i) + 18446744073709551616 ^ i * b.getD i 0 := by
 rcases Nat.lt_or_ge i b.length with h | h
 ·exact nO h
 ·rw [List.take_of_length_le (by omega), List.take_of_length_le h, List.getD_eq_getElem?_getD, List.getElem?_eq_none h]
  simp
theorem aQF {a : List Nat} {i v : Nat} (h : i < a.length) : (a.set i v).take (i + 1) = a.take i ++ [v] := by
 rw [take_succ (by rw [List.length_set]; exact h), List.take_set_of_le (Nat.le_refl i), List.getD_eq_getElem?_getD, List.getElem?_set_self h]; rfl
theorem aEm {a : List Nat} {i v : Nat} (h : i < a.length) : nv ((a.set i v).take (i + 1)) = nv (a.take i) + 18446744073709551616 ^ i * v := by
 rw [aQF h, aDJ, List.length_take, Nat.min_eq_left (Nat.le_of_lt h)]; simp [nv]
theorem aCP {a b : List Nat} {i : Nat} (h : a.drop i = b.drop i) : a.getD i 0 = b.getD i 0 := by
 have h1 := congrArg (fun l => l.getD 0 0) h
 simpa [List.getD_eq_getElem?_getD, List.getElem?_drop] using h1
theorem tW {a b : List Nat} {i : Nat} (h : a.drop i = b.drop i) : a.drop (i + 1) = b.drop (i + 1) := by
 have h1 := congrArg (List.drop 1) h
 simpa [List.drop_drop] using h1
theorem drop_set {a : List Nat} {i v : Nat} : (a.set i v).drop (i + 1) = a.drop (i + 1) := by
 rw [List.drop_set_of_lt (by omega)]
noncomputable def kI (x22_13 : Int) (out_14 : (List Nat)) (carry_12 : Nat) (x_21 : Nat) : Option ((Nat × Int × (List Nat)) ⊕ (((List Nat)))) :=
 ck (0 ≤ x22_13 ∧ x22_13 < (((out_14.length) : Nat) : Int)) (ck ((uP (out_14.getD (x22_13.toNat) (0 : Nat)) x_21 carry_12)) (ck (0 ≤ x22_13 ∧ x22_13 < (((out_14.length) : Nat) : Int)) (ck (I64 (x22_13 + (1 : Int))) (some (.inl ((((eU (out_14.getD (x22_13.toNat) (0 : Nat)) x_21 carry_12).2).1), (x22_13 + (1 : Int)), (out_14.set (x22_13.toNat) ((eU (out_14.getD (x22_13.toNat) (0 : Nat)) x_21 carry_12).1))))))))
noncomputable def kJ (a_3 : (List Nat)) (b_4 : (List Nat)) (carry_12 : Nat) (x22_13 : Int) (out_14 : (List Nat)) : Option ((Nat × Int × (List Nat)) ⊕ (((List Nat)))) :=
 if x22_13 < (((((id a_3) ++ ([0] : List Nat)).length) : Nat) : Int) then if x22_13 < (((b_4.length) : Nat) : Int) then ck (0 ≤ x22_13 ∧ x22_13 < (((b_4.length) : Nat) : Int)) (kI x22_13 out_14 carry_12 (b_4.getD (x22_13.toNat) (0 : Nat))) else if carry_12 = (0 : Nat) then some (.inr out_14) else kI x22_13 out_14 carry_12 (0 : Nat) else some (.inr out_14)
noncomputable def kK (a_3 : (List Nat)) (b_4 : (List Nat)) : Option ((List Nat)) :=
 ck ((aMO a_3)) (ck ((((id a_3).length) + (1 : Nat)) * 8 ≤ 140737488355328) ((dC (fun d : Nat × Int × (List Nat) => kJ a_3 b_4 d.1 d.2.1 d.2.2) ((0 : Nat), (0 : Int), ((id a_3) ++ ([0] : List Nat)))).bind (fun e => some (cK e))))
noncomputable def uX (a_0 : (List Nat)) (b_1 : (List Nat)) : Option (List Nat) :=
 if (((a_0.length) : Nat) : Int) < (((b_1.length) : Nat) : Int) then kK b_1 a_0 else kK a_0 b_1
def fM (a b : List Nat) : List Nat := lb (nv a + nv b)
structure aEn (a b : List Nat) (c : Nat) (i : Int) (out : List Nat) : Prop where
 i0 : 0 ≤ i
 i1 : i ≤ a.length + 1
 len : out.length = a.length + 1
 lm : Lm out
 c1 : c ≤ 1
 rest : out.drop i.toNat = (a ++ [0]).drop i.toNat
 sum : nv (out.take i.toNat) + 18446744073709551616 ^ i.toNat * c = nv ((a ++ [0]).take i.toNat) + nv (b.take i.toNat)
theorem aQG {P p q r x y c s c' : Nat} (h : p + P * c = q + r) (e : s + 18446744073709551616 * c' = x + y + c) : p + P * s + P * 18446744073709551616 * c' = q + P * x + (r + P * y) := by
 have e2 := congrArg (P * ·) e
 simp only [Nat.mul_add] at e2
 rw [Nat.mul_assoc P 18446744073709551616 c']
 omega
theorem aGI {a b : List Nat} {c : Nat} {i : Int} {out : List Nat} (lb' : Lm b) (h : aEn a b c i out) (hi : i < a.length + 1) : aEn a b ((out.getD i.toNat 0 + b.getD i.toNat 0 + c) / 18446744073709551616) (i + 1) (out.set i.toNat ((out.getD i.toNat 0 + b.getD i.toNat 0 + c) % 18446744073709551616)) := by
 have hx := eI h.lm i.toNat
 have hy := eI lb' i.toNat
 have hc := h.c1
 have h0 := h.i0
 have hl := h.len
 have e1 : (i + 1).toNat = i.toNat + 1 := by omega
 refine ⟨by omega, by omega, by rw [List.length_set]; exact hl, sU h.lm _ (Nat.mod_lt _ (by decide)), by omega, ?_, ?_⟩
 ·rw [e1, drop_set]; exact tW h.rest
 ·rw [e1, aEm (by omega), lP, lP b, ← aCP h.rest, Nat.pow_succ]
  exact aQG h.sum (Nat.mod_add_div _ _)
theorem aOd {a b : List Nat} {c : Nat} {i : Int} {out : List Nat} (sa : a.length ≤ 1099511627776) (h : aEn a b c i out) (hi : i < a.length + 1) (y : Nat) : kI i out c y = some (.inl ((out.getD i.toNat 0 + y + c) / 18446744073709551616, i + 1, out.set i.toNat ((out.getD i.toNat 0 + y + c) % 18446744073709551616))) := by
 have h0 := h.i0
 have hl := h.len
 unfold kI eU
 exact aB (by constructor <;> omega) (aB h.c1 (aB (by constructor <;> omega) (aB (by constructor <;> omega) rfl)))
theorem aJq {a b : List Nat} {i : Int} {out : List Nat} (h : aEn a b 0 i out) (hb : (b.length : Int) ≤ i) : nv out = nv a + nv b := by
 have eA : nv (a ++ [0]) = nv a := by rw [aDJ]; simp [nv]
 have lA : (a ++ [0]).length = a.length + 1 := by simp
 have h0 := h.i0
 have h1 := h.i1
 have hl := h.len
 have h6 := h.sum
 rw [Nat.mul_zero, Nat.add_zero, List.take_of_length_le (l := b) (by omega)] at h6
 have t1 := pX out i.toNat
 have t2 := pX (a ++ [0]) i.toNat
 rw [Nat.min_eq_left (by omega)] at t1
 rw [Nat.min_eq_left (by omega)] at t2
 rw [t1, h6, h.rest, ← eA, t2]; omega
theorem aMR {a b : List Nat} {c : Nat} {i : Int} {out : List Nat} (la : Lm a) (lb' : Lm b) (hab : b.length ≤ a.length) (h : aEn a b c i out) (hi : ¬ i < a.length + 1) : c = 0 := by
 have eA : nv (a ++ [0]) = nv a := by rw [aDJ]; simp [nv]
 have lA : (a ++ [0]).length = a.length + 1 := by simp
 have h1 := h.i1
 have hl := h.len
 have h6 := h.sum
 rw [List.take_of_length_le (l := out) (by omega), List.take_of_length_le (l := a ++ [0]) (by omega), List.take_of_length_le (l := b) (by omega), eA] at h6
 have p1 := iG la
 have p2 := Nat.lt_of_lt_of_le (iG lb') (Nat.pow_le_pow_right (show 0 < 18446744073709551616 by decide) hab)
 rw [show i.toNat = a.length + 1 from by omega, Nat.pow_succ] at h6
 rcases Nat.eq_zero_or_pos c with h | h
 ·exact h
 ·have : 18446744073709551616 ^ a.length * 18446744073709551616 * 1 ≤ 18446744073709551616 ^ a.length * 18446744073709551616 * c := Nat.mul_le_mul_left _ h
  generalize 18446744073709551616 ^ a.length = P at *
  omega
theorem aSe {a b : List Nat} (la : Lm a) (lb' : Lm b) (sa : a.length ≤ 1099511627776) (hab : b.length ≤ a.length) {c : Nat} {i : Int} {out : List Nat} (h : aEn a b c i out) :
  (∃ d' : Nat × Int × List Nat, kJ a b c i out = some (.inl d') ∧ aEn a b d'.1 d'.2.1 d'.2.2 ∧ (a.length + 1 - d'.2.1).toNat < (a.length + 1 - i).toNat) ∨ ∃ e, kJ a b c i out = some (.inr e) ∧ Lm e ∧ nv e = nv a + nv b := by
 have lA : (id a ++ [0]).length = a.length + 1 := by simp
 have h0 := h.i0
 unfold kJ
 rw [lA]
 by_cases hi : i < a.length + 1
 ·rw [if_pos (by omega)]
  by_cases hb : i < b.length
  ·left
   refine ⟨(_, _, _), ?_, aGI lb' h hi, ?_⟩
   ·rw [if_pos hb]
    exact aB (by constructor <;> omega) (aOd sa h hi _)
   ·simp only; omega
  ·rw [if_neg hb]
   have hy0 : b.getD i.toNat 0 = 0 := by rw [List.getD_eq_getElem?_getD, List.getElem?_eq_none (by omega)]; rfl
   by_cases hc : c = 0
   ·right
    subst hc
    exact ⟨out, by rw [if_pos rfl], h.lm, aJq h (by omega)⟩
   ·left
    have hs := aGI lb' h hi
    rw [hy0] at hs
    refine ⟨(_, _, _), ?_, hs, ?_⟩
    ·rw [if_neg hc]; exact aOd sa h hi _
    ·simp only; omega
 ·right
  rw [if_neg (by omega)]
  have hc := aMR la lb' hab h hi
  subst hc
  exact ⟨out, rfl, h.lm, aJq h (by have := h.i1; omega)⟩
theorem aOe {a b : List Nat} (la : Lm a) (lb' : Lm b) (sa : Sz a) (hab : b.length ≤ a.length) : kK a b = some (lb (nv a + nv b)) := by
 have sa : a.length ≤ 1099511627776 := sa
 have key := gU (step := fun d : Nat × Int × (List Nat) => kJ a b d.1 d.2.1 d.2.2) (I := fun d => aEn a b d.1 d.2.1 d.2.2) (fun d => (a.length + 1 - d.2.1).toNat)
   (fun e => Lm e ∧ nv e = nv a + nv b) (fun d h => aSe la lb' sa hab h) (0, 0, a ++ [0]) ⟨by simp, by simp; omega, by simp, aQD la (by intro x hx; simp at hx; subst hx; decide), by simp, rfl, by simp [nv]⟩
 obtain ⟨e, h1, h2, h3⟩ := key
 unfold kK
 refine aB (by show a.length * 8 ≤ _; omega) (aB (by show (a.length + 1) * 8 ≤ _; omega) (cE h1 ?_))
 rw [cK, h3]
theorem aJ8 (a : List Nat) (wa : (Ty.sl (.u .u64)).wf a) (b : List Nat) (wb : (Ty.sl (.u .u64)).wf b) (hp : aCO a b) : uX a b = some (fM a b) := by
 unfold uX fM
 refine aAi (fun h => ?_) (fun h => ?_)
 ·rw [aOe (qN wb) (qN wa) hp.2 (by omega), Nat.add_comm]
 ·exact aOe (qN wa) (qN wb) hp.1 (by omega)
noncomputable def uY (a_0 : (List Nat)) : Option (List Nat) :=
 ck ((aMO (cK a_0))) (some (id (cK a_0)))
def lQ (a : List Nat) : List Nat := lb (nv a)
theorem aO3 {a : List Nat} (h : Lm a) : (lb (nv a)).length ≤ a.length := iM.2 (iG h)
theorem aJ9 (a : List Nat) (w : (Ty.sl (.u .u64)).wf a) (hp : pSz a) : uY a = some (lQ a) := by
 have hp : a.length ≤ 1099511627776 := hp
 have := aO3 (qN w)
 unfold uY lQ cK
 exact aB (by show (lb (nv a)).length * 8 ≤ _; omega) rfl
end Nu
end Go.Proofs
namespace Go.Proofs
open Go.Vc
set_option maxRecDepth 20000
namespace Nu
theorem aQH {x y c o : Nat} (hx : x < 18446744073709551616) (hy : y < 18446744073709551616) (hc : c < 18446744073709551616) (ho : o < 18446744073709551616) :
  (o + (x * y % 18446744073709551616 + c + 0) % 18446744073709551616 + 0) % 18446744073709551616 + 18446744073709551616 * (((x * y / 18446744073709551616 + (x * y % 18446744073709551616 + c + 0) / 18446744073709551616) % 18446744073709551616 + (o + (x * y % 18446744073709551616 + c + 0) % 18446744073709551616 + 0) / 18446744073709551616) % 18446744073709551616) = o + x * y + c := by
 have p : x * y ≤ 18446744073709551615 * 18446744073709551615 := Nat.mul_le_mul (by omega) (by omega)
 have e := Nat.div_add_mod (x * y) 18446744073709551616
 have m := Nat.mod_lt (x * y) (show 0 < 18446744073709551616 by decide)
 generalize x * y = z at *
 generalize z / 18446744073709551616 = hi at *
 generalize z % 18446744073709551616 = lo at *
 omega
theorem mR {a : List Nat} (h : Lm a) (k : Nat) : a.getD k 0 = nv a / 18446744073709551616 ^ k % 18446744073709551616 := by
 rw [← aCL h]
 rcases Nat.lt_or_ge k a.length with hk | hk
 ·rw [List.drop_eq_getElem_cons hk, kS, Nat.add_mul_mod_self_left, List.getD_eq_getElem?_getD, List.getElem?_eq_getElem hk]
  exact (Nat.mod_eq_of_lt (h _ (List.getElem_mem hk))).symm
 ·rw [List.drop_eq_nil_of_le hk, List.getD_eq_getElem?_getD, List.getElem?_eq_none hk]; rfl
theorem aJr {a : List Nat} (h : Lm a) {k : Nat} (hk : nv a < 18446744073709551616 ^ k) : a.getD k 0 = 0 := by
 rw [mR h, Nat.div_eq_of_lt hk]
noncomputable def mX (x22_34 : Int) (b_1 : (List Nat)) (carry_62 : Nat) (out_63 : (List Nat)) : Option ((Int × (List Nat)) ⊕ (((List Nat)))) :=
 ck (I64 (x22_34 + (((b_1.length) : Nat) : Int))) (ck (0 ≤ (x22_34 + (((b_1.length) : Nat) : Int)) ∧ (x22_34 + (((b_1.length) : Nat) : Int)) < (((out_63.length) : Nat) : Int)) (ck (I64 (x22_34 + (1 : Int))) (some (.inl ((x22_34 + (1 : Int)), (out_63.set ((x22_34 + (((b_1.length) : Nat) : Int)).toNat) carry_62))))))
noncomputable def jE (b_1 : (List Nat)) (a_0 : (List Nat)) (x22_34 : Int) (carry_64 : Nat) (x29_65 : Int) (out_66 : (List Nat)) : Option ((Nat × Int × (List Nat)) ⊕ ((Nat × (List Nat)))) :=
 if x29_65 < (((b_1.length) : Nat) : Int) then ck (0 ≤ x29_65 ∧ x29_65 < (((b_1.length) : Nat) : Int)) (ck ((uP (((bH (a_0.getD (x22_34.toNat) (0 : Nat)) (b_1.getD (x29_65.toNat) (0 : Nat))).2).1) carry_64 (0 : Nat))) (ck (I64 (x22_34 + x29_65)) (ck (I64 (x22_34 + x29_65)) (ck (0 ≤ (x22_34 + x29_65) ∧ (x22_34 + x29_65) < (((out_66.length) : Nat) : Int)) (ck ((uP (out_66.getD ((x22_34 + x29_65).toNat) (0 : Nat)) ((eU (((bH (a_0.getD (x22_34.toNat) (0 : Nat)) (b_1.getD (x29_65.toNat) (0 : Nat))).2).1) carry_64 (0 : Nat)).1) (0 : Nat))) (ck (0 ≤ (x22_34 + x29_65) ∧ (x22_34 + x29_65) < (((out_66.length) : Nat) : Int)) (ck (I64 (x29_65 + (1 : Int))) (some (.inl (((((((bH (a_0.getD (x22_34.toNat) (0 : Nat)) (b_1.getD (x29_65.toNat) (0 : Nat))).1) + (((eU (((bH (a_0.getD (x22_34.toNat) (0 : Nat)) (b_1.getD (x29_65.toNat) (0 : Nat))).2).1) carry_64 (0 : Nat)).2).1)) % 18446744073709551616) + (((eU (out_66.getD ((x22_34 + x29_65).toNat) (0 : Nat)) ((eU (((bH (a_0.getD (x22_34.toNat) (0 : Nat)) (b_1.getD (x29_65.toNat) (0 : Nat))).2).1) carry_64 (0 : Nat)).1) (0 : Nat)).2).1)) % 18446744073709551616), (x29_65 + (1 : Int)), (out_66.set ((x22_34 + x29_65).toNat) ((eU (out_66.getD ((x22_34 + x29_65).toNat) (0 : Nat)) ((eU (((bH (a_0.getD (x22_34.toNat) (0 : Nat)) (b_1.getD (x29_65.toNat) (0 : Nat))).2).1) carry_64 (0 : Nat)).1) (0 : Nat)).1)))))))))))) else some (.inr (carry_64, out_66))
noncomputable def jF (a_0 : (List Nat)) (b_1 : (List Nat)) (x22_34 : Int) (out_35 : (List Nat)) : Option ((Int × (List Nat)) ⊕ (((List Nat)))) :=
 if x22_34 < (((a_0.length) : Nat) : Int) then ck (0 ≤ x22_34 ∧ x22_34 < (((a_0.length) : Nat) : Int)) ((dC (fun d : Nat × Int × (List Nat) => jE b_1 a_0 x22_34 d.1 d.2.1 d.2.2) ((0 : Nat), (0 : Int), out_35)).bind (fun e => mX x22_34 b_1 e.1 e.2)) else some (.inr out_35)
noncomputable def sE (a_0 : (List Nat)) (b_1 : (List Nat)) : Option (List Nat) :=
 ck (I64 ((((a_0.length) : Nat) : Int) + (((b_1.length) : Nat) : Int))) (ck (0 ≤ ((((a_0.length) : Nat) : Int) + (((b_1.length) : Nat) : Int))) (ck ((8 : Int) * ((((a_0.length) : Nat) : Int) + (((b_1.length) : Nat) : Int)) ≤ 281474976710656) ((dC (fun d : Int × (List Nat) => jF a_0 b_1 d.1 d.2) ((0 : Int), (List.replicate (((((a_0.length) : Nat) : Int) + (((b_1.length) : Nat) : Int)).toNat) (0 : Nat)))).bind (fun e => some (cK e)))))
def aZ (a b : List Nat) : List Nat := lb (nv a * nv b)
structure aLz (b : List Nat) (x : Nat) (i : Int) (o0 : List Nat) (c : Nat) (j : Int) (out : List Nat) : Prop where
 j0 : 0 ≤ j
 j1 : j ≤ b.length
 len : out.length = o0.length
 lm : Lm out
 c1 : c < 18446744073709551616
 rest : out.drop (i + j).toNat = o0.drop (i + j).toNat
 sum : nv out + 18446744073709551616 ^ (i + j).toNat * c = nv o0 + 18446744073709551616 ^ i.toNat * x * nv (b.take j.toNat)
theorem aSf {N N' N0 Q R P o v c c' x y t : Nat} (hP : P = Q * R) (h1 : N' + P * o = N + P * v) (h2 : N + P * c = N0 + Q * x * t) (h3 : v + 18446744073709551616 * c' = o + x * y + c) : N' + P * 18446744073709551616 * c' = N0 + Q * x * (t + R * y) := by
 have e := congrArg (P * ·) h3
 simp only [Nat.mul_add] at e
 have e2 : P * (x * y) = Q * x * (R * y) := by
  rw [hP, Nat.mul_assoc, Nat.mul_assoc]; congr 1; rw [Nat.mul_left_comm]
 rw [Nat.mul_add, Nat.mul_assoc P 18446744073709551616 c']
 omega
theorem aO4 {b : List Nat} {x : Nat} {i : Int} {o0 : List Nat} {c : Nat} {j : Int} {out : List Nat} (hx : x < 18446744073709551616) (lb' : Lm b) (hi : 0 ≤ i) (hl : i + b.length ≤ o0.length) (h : aLz b x i o0 c j out) (hj : j < b.length) {v c' : Nat} (hv : v < 18446744073709551616) (hc' : c' < 18446744073709551616) (e : v + 18446744073709551616 * c' = out.getD (i + j).toNat 0 + x * b.getD j.toNat 0 + c) :
  aLz b x i o0 c' (j + 1) (out.set (i + j).toNat v) := by
 have h0 := h.j0
 have hlen := h.len
 have e1 : (i + (j + 1)).toNat = (i + j).toNat + 1 := by omega
 have e2 : (j + 1).toNat = j.toNat + 1 := by omega
 refine ⟨by omega, by omega, by rw [List.length_set]; exact hlen, sU h.lm _ hv, hc', ?_, ?_⟩
 ·rw [e1, drop_set]; exact tW h.rest
 ·rw [e1, e2, lP, Nat.pow_succ]
  exact aSf (R := 18446744073709551616 ^ j.toNat) (by rw [← Nat.pow_add]; congr 1; omega) (wS (by omega)) h.sum e
theorem aQI {a b : List Nat} {i : Int} {o0 : List Nat} (hi : 0 ≤ i) (hs : i + b.length ≤ 9000000000000) (hl : i + b.length ≤ o0.length) (la : Lm a) (lb' : Lm b) {c : Nat} {j : Int} {out : List Nat} (h : aLz b (a.getD i.toNat 0) i o0 c j out) :
  (∃ d' : Nat × Int × List Nat, jE b a i c j out = some (.inl d') ∧ aLz b (a.getD i.toNat 0) i o0 d'.1 d'.2.1 d'.2.2 ∧ (b.length - d'.2.1).toNat < (b.length - j).toNat) ∨ ∃ e : Nat × List Nat, jE b a i c j out = some (.inr e) ∧ aLz b (a.getD i.toNat 0) i o0 e.1 b.length e.2 := by
 have h0 := h.j0
 have hlen := h.len
 have h1 := h.j1
 have hx := eI la i.toNat
 have hy := eI lb' j.toNat
 have ho := eI h.lm (i + j).toNat
 unfold jE
 by_cases hj : j < b.length
 ·left
  have key := aQH hx hy h.c1 ho
  refine ⟨(_, _, _), ?_, aO4 hx lb' hi hl h hj (Nat.mod_lt _ (by decide)) (Nat.mod_lt _ (by decide)) key, ?_⟩
  ·rw [if_pos hj]
   refine aB (by constructor <;> omega) (aB (Nat.zero_le _) (aB (by constructor <;> omega) (aB (by constructor <;> omega) (aB (by constructor <;> omega) (aB (Nat.zero_le _) (aB (by constructor <;> omega) (aB (by constructor <;> omega) ?_)))))))
   simp only [bH, eU]
  ·simp only; omega
 ·right
  refine ⟨(c, out), by rw [if_neg hj], ?_⟩
  have e : j = b.length := by omega
  rw [e] at h
  exact h
structure aQJ (a b : List Nat) (i : Int) (out : List Nat) : Prop where
 i0 : 0 ≤ i
 i1 : i ≤ a.length
 len : out.length = a.length + b.length
 lm : Lm out
 sum : nv out = nv (a.take i.toNat) * nv b
theorem aO5 {a b : List Nat} {i : Int} {out : List Nat} (la : Lm a) (lb' : Lm b) (h : aQJ a b i out) : nv out < 18446744073709551616 ^ (i.toNat + b.length) := by
 rw [h.sum, Nat.pow_add]
 have h1 := iG (vU la i.toNat)
 have h2 := iG lb'
 have h3 : (a.take i.toNat).length ≤ i.toNat := by rw [List.length_take]; omega
 have h4 := Nat.lt_of_lt_of_le h1 (Nat.pow_le_pow_right (show 0 < 18446744073709551616 by decide) h3)
 have hp : 0 < 18446744073709551616 ^ b.length := Nat.pow_pos (by decide)
 exact Nat.mul_lt_mul'' h4 h2
theorem aO6 {a b : List Nat} {i : Int} {out : List Nat} (la : Lm a) (lb' : Lm b) (h : aQJ a b i out) (hi : i < a.length) {c : Nat} {out' : List Nat} (hj : aLz b (a.getD i.toNat 0) i out c b.length out') : aQJ a b (i + 1) (out'.set (i + b.length).toNat c) := by
 have h0 := h.i0
 have hl := h.len
 have hl' := hj.len
 have e1 : (i + 1).toNat = i.toNat + 1 := by omega
 have e2 : (i + (b.length : Int)).toNat = i.toNat + b.length := by omega
 have hz : out'.getD (i.toNat + b.length) 0 = 0 := by
  have := aCP hj.rest
  rw [e2] at this
  rw [this]
  exact aJr h.lm (aO5 la lb' h)
 refine ⟨by omega, by omega, by rw [List.length_set]; omega, sU hj.lm _ hj.c1, ?_⟩
 have hn := wS (a := out') (k := i.toNat + b.length) (v := c) (by omega)
 have hs := hj.sum
 rw [e2] at hs ⊢
 rw [hz, Nat.mul_zero, Nat.add_zero] at hn
 rw [hn, hs, e1, lP, h.sum, Int.toNat_natCast, List.take_length, Nat.add_mul]
theorem aH6 (a : List Nat) (wa : (Ty.sl (.u .u64)).wf a) (b : List Nat) (wb : (Ty.sl (.u .u64)).wf b) (hp : aCO a b) : sE a b = some (aZ a b) := by
 have la := qN wa
 have lb' := qN wb
 have sa : a.length ≤ 1099511627776 := hp.1
 have sb : b.length ≤ 1099511627776 := hp.2
 have key := gU (step := fun d : Int × (List Nat) => jF a b d.1 d.2) (I := fun d => aQJ a b d.1 d.2) (fun d => (a.length - d.1).toNat) (fun e => nv e = nv a * nv b) ?_ (0, List.replicate (a.length + b.length) 0) ⟨by simp, by simp, by simp, aDL _, by simp [aDK, nv]⟩
 ·obtain ⟨e, h1, h2⟩ := key
  unfold sE aZ
  rw [show ((a.length : Int) + (b.length : Int)).toNat = a.length + b.length from by omega]
  refine aB (by constructor <;> omega) (aB (by omega) (aB (by omega) (cE h1 ?_)))
  rw [cK, h2]
 ·rintro ⟨i, out⟩ h
  have h : aQJ a b i out := h
  have h0 := h.i0
  have h1 := h.i1
  have hl := h.len
  show (∃ d', jF a b i out = _ ∧ _) ∨ ∃ e, jF a b i out = _ ∧ _
  unfold jF
  by_cases hi : i < a.length
  ·left
   obtain ⟨e, q1, q2⟩ := gU (step := fun d : Nat × Int × (List Nat) => jE b a i d.1 d.2.1 d.2.2) (I := fun d => aLz b (a.getD i.toNat 0) i out d.1 d.2.1 d.2.2) (fun d => (b.length - d.2.1).toNat) (fun e => aLz b (a.getD i.toNat 0) i out e.1 b.length e.2)
    (fun d hd => aQI h0 (by omega) (by omega) la lb' hd) (0, 0, out) ⟨by simp, by simp, rfl, h.lm, by simp, rfl, by simp [nv]⟩
   have hlen := q2.len
   refine ⟨(i + 1, e.2.set (i + b.length).toNat e.1), ?_, aO6 la lb' h hi q2, by simp only; omega⟩
   rw [if_pos hi]
   refine aB (by constructor <;> omega) (cE q1 ?_)
   unfold mX
   exact aB (by constructor <;> omega) (aB (by constructor <;> omega) (aB (by constructor <;> omega) rfl))
  ·right
   refine ⟨out, by rw [if_neg hi], ?_⟩
   have := h.sum
   rw [show i.toNat = a.length from by omega, List.take_length] at this
   exact this
end Nu
end Go.Proofs
namespace Go.Proofs
open Go.Vc
set_option maxRecDepth 20000
namespace Nu
theorem aQK {n : Int} (h : 0 ≤ n) : Int.tdiv n 64 = ((n.toNat / 64 : Nat) : Int) ∧ Int.tmod n 64 = ((n.toNat % 64 : Nat) : Int) := by
 obtain ⟨m, rfl⟩ := Int.eq_ofNat_of_zero_le h
 constructor
 ·rw [Int.toNat_natCast]; rfl
 ·rw [Int.toNat_natCast]; rfl
theorem aJs {r : Nat} (h : r < 64) : (((r : Int)) % (18446744073709551616 : Int)).toNat = r ∧ ((63 - (r : Int)) % (18446744073709551616 : Int)).toNat = 63 - r := by omega
theorem aLA (r : Nat) (h : r ≤ 64) : 2 ^ (64 - r) * 2 ^ r = 18446744073709551616 := by
 rw [← Nat.pow_add, show 64 - r + r = 64 from by omega]
theorem aKa (x r : Nat) (h : r ≤ 64) : x * 2 ^ r % 18446744073709551616 = 2 ^ r * (x % 2 ^ (64 - r)) := by
 rw [← aLA r h, Nat.mul_comm (2 ^ (64 - r)), Nat.mul_comm x, Nat.mul_mod_mul_left]
theorem aOf (x r : Nat) (h : r ≤ 63) : x * 2 ^ r / 18446744073709551616 = x / 2 / 2 ^ (63 - r) := by
 rw [← aLA r (by omega), Nat.mul_div_mul_right _ _ (Nat.two_pow_pos r), Nat.div_div_eq_div_mul, ← Nat.pow_succ', show (63 - r).succ = 64 - r from by omega]
theorem aMS {o r t : Nat} (h : o < 2 ^ r) : o ||| 2 ^ r * t = o + 2 ^ r * t := by
 have := Nat.two_pow_add_eq_or_of_lt h t
 rw [Nat.or_comm, ← this, Nat.add_comm]
noncomputable def kL (a_0 : (List Nat)) (n_1 : Int) (x20_7 : Int) (out_8 : (List Nat)) : Option ((Int × (List Nat)) ⊕ (((List Nat)))) :=
 if x20_7 < (((a_0.length) : Nat) : Int) then ck (0 ≤ x20_7 ∧ x20_7 < (((a_0.length) : Nat) : Int)) (ck (I64 (Int.tdiv n_1 (64 : Int))) (ck (I64 ((Int.tdiv n_1 (64 : Int)) + x20_7)) (ck (0 ≤ ((Int.tdiv n_1 (64 : Int)) + x20_7) ∧ ((Int.tdiv n_1 (64 : Int)) + x20_7) < (((out_8.length) : Nat) : Int)) (ck (0 ≤ ((Int.tdiv n_1 (64 : Int)) + x20_7) ∧ ((Int.tdiv n_1 (64 : Int)) + x20_7) < (((out_8.length) : Nat) : Int)) (ck (I64 (Int.tdiv n_1 (64 : Int))) (ck (I64 ((Int.tdiv n_1 (64 : Int)) + x20_7)) (ck (I64 (((Int.tdiv n_1 (64 : Int)) + x20_7) + (1 : Int))) (ck (0 ≤ (((Int.tdiv n_1 (64 : Int)) + x20_7) + (1 : Int)) ∧ (((Int.tdiv n_1 (64 : Int)) + x20_7) + (1 : Int)) < ((((out_8.set (((Int.tdiv n_1 (64 : Int)) + x20_7).toNat) ((out_8.getD (((Int.tdiv n_1 (64 : Int)) + x20_7).toNat) (0 : Nat)) ||| (((a_0.getD (x20_7.toNat) (0 : Nat)) * (2 ^ (((Int.tmod n_1 (64 : Int)) % (18446744073709551616 : Int)).toNat))) % 18446744073709551616))).length) : Nat) : Int)) (ck (I64 ((63 : Int) - (Int.tmod n_1 (64 : Int)))) (ck (0 ≤ (((Int.tdiv n_1 (64 : Int)) + x20_7) + (1 : Int)) ∧ (((Int.tdiv n_1 (64 : Int)) + x20_7) + (1 : Int)) < ((((out_8.set (((Int.tdiv n_1 (64 : Int)) + x20_7).toNat) ((out_8.getD (((Int.tdiv n_1 (64 : Int)) + x20_7).toNat) (0 : Nat)) ||| (((a_0.getD (x20_7.toNat) (0 : Nat)) * (2 ^ (((Int.tmod n_1 (64 : Int)) % (18446744073709551616 : Int)).toNat))) % 18446744073709551616))).length) : Nat) : Int)) (ck (I64 (x20_7 + (1 : Int))) (some (.inl ((x20_7 + (1 : Int)), ((out_8.set (((Int.tdiv n_1 (64 : Int)) + x20_7).toNat) ((out_8.getD (((Int.tdiv n_1 (64 : Int)) + x20_7).toNat) (0 : Nat)) ||| (((a_0.getD (x20_7.toNat) (0 : Nat)) * (2 ^ (((Int.tmod n_1 (64 : Int)) % (18446744073709551616 : Int)).toNat))) % 18446744073709551616))).set ((((Int.tdiv n_1 (64 : Int)) + x20_7) + (1 : Int)).toNat) (((out_8.set (((Int.tdiv n_1 (64 : Int)) + x20_7).toNat) ((out_8.getD (((Int.tdiv n_1 (64 : Int)) + x20_7).toNat) (0 : Nat)) ||| (((a_0.getD (x20_7.toNat) (0 : Nat)) * (2 ^ (((Int.tmod n_1 (64 : Int)) % (18446744073709551616 : Int)).toNat))) % 18446744073709551616))).getD ((((Int.tdiv n_1 (64 : Int)) + x20_7) + (1 : Int)).toNat) (0 : Nat)) ||| (((a_0.getD (x20_7.toNat) (0 : Nat)) / (2 : Nat)) / (2 ^ ((((63 : Int) - (Int.tmod n_1 (64 : Int))) % (18446744073709551616 : Int)).toNat))))))))))))))))))) else some (.inr out_8)
noncomputable def uZ (a_0 : (List Nat)) (n_1 : Int) : Option (List Nat) :=
 if (((a_0.length) : Nat) : Int) = (0 : Int) then some ([] : List Nat) else ck (I64 (Int.tdiv n_1 (64 : Int))) (ck (I64 ((Int.tdiv n_1 (64 : Int)) + (((a_0.length) : Nat) : Int))) (ck (I64 (((Int.tdiv n_1 (64 : Int)) + (((a_0.length) : Nat) : Int)) + (1 : Int))) (ck (0 ≤ (((Int.tdiv n_1 (64 : Int)) + (((a_0.length) : Nat) : Int)) + (1 : Int))) (ck ((8 : Int) * (((Int.tdiv n_1 (64 : Int)) + (((a_0.length) : Nat) : Int)) + (1 : Int)) ≤ 281474976710656) ((dC (fun d : Int × (List Nat) => kL a_0 n_1 d.1 d.2) ((0 : Int), (List.replicate ((((Int.tdiv n_1 (64 : Int)) + (((a_0.length) : Nat) : Int)) + (1 : Int)).toNat) (0 : Nat)))).bind (fun e => some (cK e)))))))
abbrev aEo (a : List Nat) (n : Int) : Prop := Sz a ∧ 0 ≤ n ∧ n ≤ 1099511627776
def bF (a : List Nat) (n : Int) : List Nat := lb (nv a * 2 ^ n.toNat)
structure aQL (a : List Nat) (q r : Nat) (i : Int) (out : List Nat) : Prop where
 i0 : 0 ≤ i
 i1 : i ≤ a.length
 len : out.length = q + a.length + 1
 lm : Lm out
 sum : nv out = nv (a.take i.toNat) * (18446744073709551616 ^ q * 2 ^ r)
theorem aQM {a : List Nat} {q r : Nat} {i : Int} {out : List Nat} (la : Lm a) (hr : r < 64) (h : aQL a q r i out) : out.getD (q + i.toNat) 0 < 2 ^ r ∧ out.getD (q + i.toNat + 1) 0 = 0 := by
 have h1 := iG (vU la i.toNat)
 have h3 : (a.take i.toNat).length ≤ i.toNat := by rw [List.length_take]; omega
 have h4 := Nat.lt_of_lt_of_le h1 (Nat.pow_le_pow_right (show 0 < 18446744073709551616 by decide) h3)
 have hp : 0 < 2 ^ r := Nat.two_pow_pos r
 have h5 : nv out < 18446744073709551616 ^ (q + i.toNat) * 2 ^ r := by
  rw [h.sum, Nat.pow_add, Nat.mul_comm (18446744073709551616 ^ q) (18446744073709551616 ^ i.toNat), Nat.mul_assoc]
  exact Nat.mul_lt_mul_of_pos_right h4 (Nat.mul_pos (Nat.pow_pos (by decide)) hp)
 have h6 : (2 : Nat) ^ r ≤ 18446744073709551616 := by
  have := Nat.pow_le_pow_right (n := 2) (by omega) (show r ≤ 64 by omega)
  exact this
 constructor
 ·rw [mR h.lm]
  refine Nat.lt_of_le_of_lt (Nat.mod_le _ _) ?_
  exact (Nat.div_lt_iff_lt_mul (Nat.pow_pos (by decide))).2 (by rw [Nat.mul_comm]; exact h5)
 ·refine aJr h.lm (Nat.lt_of_lt_of_le h5 ?_)
  rw [Nat.pow_succ]
  exact Nat.mul_le_mul_left _ h6
theorem aSg {N N1 N2 P P' Q x lo hi o T R : Nat} (h1 : N1 + P * o = N + P * (o + lo)) (h2 : N2 = N1 + P * 18446744073709551616 * hi) (h3 : lo + 18446744073709551616 * hi = x * R) (hN : N = T * (P' * R)) (hP : P = P' * Q) : N2 = (T + Q * x) * (P' * R) := by
 have e := congrArg (P * ·) h3
 simp only [Nat.mul_add] at e h1
 have e2 : P * (x * R) = Q * x * (P' * R) := by
  rw [hP, Nat.mul_comm P' Q, Nat.mul_assoc, Nat.mul_assoc]; congr 1; rw [Nat.mul_left_comm]
 rw [Nat.add_mul, ← e2, h2, ← hN, Nat.mul_assoc P 18446744073709551616 hi]
 omega
theorem aO7 {a : List Nat} {q r : Nat} {i : Int} {out : List Nat} (la : Lm a) (hr : r < 64) (h : aQL a q r i out) (hi : i < a.length) :
  aQL a q r (i + 1) ((out.set (q + i.toNat) (out.getD (q + i.toNat) 0 ||| a.getD i.toNat 0 * 2 ^ r % 18446744073709551616)).set (q + i.toNat + 1) ((out.set (q + i.toNat) (out.getD (q + i.toNat) 0 ||| a.getD i.toNat 0 * 2 ^ r % 18446744073709551616)).getD (q + i.toNat + 1) 0 ||| a.getD i.toNat 0 / 2 / 2 ^ (63 - r))) := by
 have h0 := h.i0
 have hlen := h.len
 obtain ⟨l1, l2⟩ := aQM la hr h
 have hx := eI la i.toNat
 have hg : ∀ v, (out.set (q + i.toNat) v).getD (q + i.toNat + 1) 0 = 0 := fun v => by
  refine Eq.trans ?_ l2
  rw [List.getD_eq_getElem?_getD, List.getElem?_set_ne (by omega), ← List.getD_eq_getElem?_getD]
 rw [hg, Nat.zero_or, aKa _ _ (by omega), aMS l1, ← aOf _ _ (by omega)]
 have hlo : 2 ^ r * (a.getD i.toNat 0 % 2 ^ (64 - r)) + 18446744073709551616 * (a.getD i.toNat 0 * 2 ^ r / 18446744073709551616) = a.getD i.toNat 0 * 2 ^ r := by
  rw [← aKa _ _ (by omega)]; exact Nat.mod_add_div _ _
 have hv1 : out.getD (q + i.toNat) 0 + 2 ^ r * (a.getD i.toNat 0 % 2 ^ (64 - r)) < 18446744073709551616 := by
  have hm : a.getD i.toNat 0 % 2 ^ (64 - r) + 1 ≤ 2 ^ (64 - r) := Nat.mod_lt _ (Nat.two_pow_pos _)
  have := Nat.mul_le_mul_left (2 ^ r) hm
  rw [Nat.mul_comm (2 ^ r) (2 ^ (64 - r)), aLA r (by omega), Nat.mul_add] at this
  omega
 have hv2 : a.getD i.toNat 0 * 2 ^ r / 18446744073709551616 < 18446744073709551616 := by
  have := Nat.div_le_self (a.getD i.toNat 0 / 2) (2 ^ (63 - r))
  rw [aOf _ _ (by omega)]; omega
 have e1 : (i + 1).toNat = i.toNat + 1 := by omega
 refine ⟨by omega, by omega, by rw [List.length_set, List.length_set]; exact hlen, sU (sU h.lm _ hv1) _ hv2, ?_⟩
 have n1 := wS (a := out) (k := q + i.toNat) (v := out.getD (q + i.toNat) 0 + 2 ^ r * (a.getD i.toNat 0 % 2 ^ (64 - r))) (by omega)
 have n2 := wS (a := out.set (q + i.toNat) (out.getD (q + i.toNat) 0 + 2 ^ r * (a.getD i.toNat 0 % 2 ^ (64 - r)))) (k := q + i.toNat + 1) (v := a.getD i.toNat 0 * 2 ^ r / 18446744073709551616) (by rw [List.length_set]; omega)
 rw [hg, Nat.mul_zero, Nat.add_zero, Nat.pow_succ] at n2
 rw [e1, lP]
 exact aSg n1 n2 hlo h.sum (Nat.pow_add _ _ _)
theorem aJt (n : Nat) : 18446744073709551616 ^ (n / 64) * 2 ^ (n % 64) = 2 ^ n := by
 rw [mM, ← Nat.pow_add]; congr 1; omega
theorem aKb (a : List Nat) (wa : (Ty.sl (.u .u64)).wf a) (n : Int) (wn : (Ty.i .i64).wf n) (hp : aEo a n) : uZ a n = some (bF a n) := by
 have la := qN wa
 obtain ⟨sa, n0, n1⟩ := hp
 have sa : a.length ≤ 1099511627776 := sa
 obtain ⟨d1, d2⟩ := aQK n0
 have hr : n.toNat % 64 < 64 := Nat.mod_lt _ (by decide)
 have hq : n.toNat / 64 ≤ 1099511627776 := by omega
 have hps := aJt n.toNat
 obtain ⟨u1, u2⟩ := aJs hr
 unfold uZ bF
 rw [d1]
 refine aAi (fun h => ?_) (fun h => ?_)
 ·have e : a = [] := List.eq_nil_of_length_eq_zero (by omega)
  subst e; rw [wR, Nat.zero_mul, gF]
 ·rw [← hps]
  generalize n.toNat / 64 = q at *
  generalize n.toNat % 64 = r at *
  have key := gU (step := fun d : Int × (List Nat) => kL a n d.1 d.2) (I := fun d => aQL a q r d.1 d.2) (fun d => (a.length - d.1).toNat) (fun e => nv e = nv a * (18446744073709551616 ^ q * 2 ^ r)) ?_ (0, List.replicate (q + a.length + 1) 0) ⟨by simp, by simp, by simp, aDL _, by simp [aDK, nv]⟩
  ·obtain ⟨e, h1, h2⟩ := key
   rw [show ((q : Int) + (a.length : Int) + 1).toNat = q + a.length + 1 from by omega]
   refine aB (by constructor <;> omega) (aB (by constructor <;> omega) (aB (by constructor <;> omega) (aB (by omega) (aB (by omega) (cE h1 ?_)))))
   rw [cK, h2]
  ·rintro ⟨i, out⟩ h
   have h : aQL a q r i out := h
   have h0 := h.i0
   have h1 := h.i1
   have hl := h.len
   show (∃ d', kL a n i out = _ ∧ _) ∨ ∃ e, kL a n i out = _ ∧ _
   unfold kL
   rw [d1, d2, u1, u2, show ((q : Int) + i).toNat = q + i.toNat from by omega, show ((q : Int) + i + 1).toNat = q + i.toNat + 1 from by omega]
   by_cases hi : i < a.length
   ·left
    refine ⟨(_, _), ?_, aO7 la hr h hi, by simp only; omega⟩
    rw [if_pos hi]
    simp only [List.length_set]
    refine aB (by constructor <;> omega) (aB (by constructor <;> omega) (aB (by constructor <;> omega) (aB (by constructor <;> omega) (aB (by constructor <;> omega) (aB (by constructor <;> omega) (aB (by constructor <;> omega) (aB (by constructor <;> omega) (aB (by constructor <;> omega) (aB (by constructor <;> omega) (aB (by constructor <;> omega) (aB (by constructor <;> omega) rfl)))))))))))
   ·right
    refine ⟨out, by rw [if_neg hi], ?_⟩
    have := h.sum
    rw [show i.toNat = a.length from by omega, List.take_length] at this
    exact this
noncomputable def jG (n_1 : Int) (a_0 : (List Nat)) (x22_10 : Int) (out_11 : (List Nat)) : Option ((Int × (List Nat)) ⊕ (((List Nat)))) :=
 if x22_10 < ((((List.drop ((Int.tdiv n_1 (64 : Int)).toNat) a_0).length) : Nat) : Int) then ck (0 ≤ x22_10 ∧ x22_10 < ((((List.drop ((Int.tdiv n_1 (64 : Int)).toNat) a_0).length) : Nat) : Int)) (ck (0 ≤ x22_10 ∧ x22_10 < (((out_11.length) : Nat) : Int)) (ck (I64 (x22_10 + (1 : Int))) (if (x22_10 + (1 : Int)) < ((((List.drop ((Int.tdiv n_1 (64 : Int)).toNat) a_0).length) : Nat) : Int) then ck (0 ≤ x22_10 ∧ x22_10 < ((((out_11.set (x22_10.toNat) (((List.drop ((Int.tdiv n_1 (64 : Int)).toNat) a_0).getD (x22_10.toNat) (0 : Nat)) / (2 ^ (((Int.tmod n_1 (64 : Int)) % (18446744073709551616 : Int)).toNat)))).length) : Nat) : Int)) (ck (I64 (x22_10 + (1 : Int))) (ck (0 ≤ (x22_10 + (1 : Int)) ∧ (x22_10 + (1 : Int)) < ((((List.drop ((Int.tdiv n_1 (64 : Int)).toNat) a_0).length) : Nat) : Int)) (ck (I64 ((63 : Int) - (Int.tmod n_1 (64 : Int)))) (ck (0 ≤ x22_10 ∧ x22_10 < ((((out_11.set (x22_10.toNat) (((List.drop ((Int.tdiv n_1 (64 : Int)).toNat) a_0).getD (x22_10.toNat) (0 : Nat)) / (2 ^ (((Int.tmod n_1 (64 : Int)) % (18446744073709551616 : Int)).toNat)))).length) : Nat) : Int)) (ck (I64 (x22_10 + (1 : Int))) (some (.inl ((x22_10 + (1 : Int)), ((out_11.set (x22_10.toNat) (((List.drop ((Int.tdiv n_1 (64 : Int)).toNat) a_0).getD (x22_10.toNat) (0 : Nat)) / (2 ^ (((Int.tmod n_1 (64 : Int)) % (18446744073709551616 : Int)).toNat)))).set (x22_10.toNat) (((out_11.set (x22_10.toNat) (((List.drop ((Int.tdiv n_1 (64 : Int)).toNat) a_0).getD (x22_10.toNat) (0 : Nat)) / (2 ^ (((Int.tmod n_1 (64 : Int)) % (18446744073709551616 : Int)).toNat)))).getD (x22_10.toNat) (0 : Nat)) ||| ((((((List.drop ((Int.tdiv n_1 (64 : Int)).toNat) a_0).getD ((x22_10 + (1 : Int)).toNat) (0 : Nat)) * (2 : Nat)) % 18446744073709551616) * (2 ^ ((((63 : Int) - (Int.tmod n_1 (64 : Int))) % (18446744073709551616 : Int)).toNat))) % 18446744073709551616))))))))))) else ck (I64 (x22_10 + (1 : Int))) (some (.inl ((x22_10 + (1 : Int)), (out_11.set (x22_10.toNat) (((List.drop ((Int.tdiv n_1 (64 : Int)).toNat) a_0).getD (x22_10.toNat) (0 : Nat)) / (2 ^ (((Int.tmod n_1 (64 : Int)) % (18446744073709551616 : Int)).toNat)))))))))) else some (.inr out_11)
noncomputable def sF (a_0 : (List Nat)) (n_1 : Int) : Option (List Nat) :=
 ck (I64 (Int.tdiv n_1 (64 : Int))) (if (((a_0.length) : Nat) : Int) ≤ (Int.tdiv n_1 (64 : Int)) then some ([] : List Nat) else ck (I64 (Int.tdiv n_1 (64 : Int))) (ck (0 ≤ (Int.tdiv n_1 (64 : Int)) ∧ (Int.tdiv n_1 (64 : Int)) ≤ (((a_0.length) : Nat) : Int)) (ck (0 ≤ ((((List.drop ((Int.tdiv n_1 (64 : Int)).toNat) a_0).length) : Nat) : Int)) (ck ((8 : Int) * ((((List.drop ((Int.tdiv n_1 (64 : Int)).toNat) a_0).length) : Nat) : Int) ≤ 281474976710656) ((dC (fun d : Int × (List Nat) => jG n_1 a_0 d.1 d.2) ((0 : Int), (List.replicate ((List.drop ((Int.tdiv n_1 (64 : Int)).toNat) a_0).length) (0 : Nat)))).bind (fun e => some (cK e)))))))
abbrev aDM (a : List Nat) (n : Int) : Prop := Sz a ∧ 0 ≤ n
def cH (a : List Nat) (n : Int) : List Nat := lb (nv a / 2 ^ n.toNat)
structure aSh (a : List Nat) (r : Nat) (i : Int) (out : List Nat) : Prop where
 i0 : 0 ≤ i
 i1 : i ≤ a.length
 len : out.length = a.length
 lm : Lm out
 sum : nv (out.take i.toNat) = nv a / 2 ^ r % 18446744073709551616 ^ i.toNat
theorem aSi {w s r o : Nat} (ho : o < 2 ^ s) : (o + 2 ^ s * w) % (2 ^ s * 2 ^ r) = o + 2 ^ s * (w % 2 ^ r) := by
 rw [Nat.mod_mul, Nat.add_mul_mod_self_left, Nat.mod_eq_of_lt ho, Nat.add_mul_div_left _ _ (Nat.two_pow_pos s), Nat.div_eq_of_lt ho, Nat.zero_add]
theorem aQN {x y z r : Nat} (hx : x < 18446744073709551616) (hr : r < 64) : (x + 18446744073709551616 * (y + 18446744073709551616 * z)) / 2 ^ r % 18446744073709551616 = x / 2 ^ r ||| y * 2 % 18446744073709551616 * 2 ^ (63 - r) % 18446744073709551616 := by
 have e0 : y * 2 % 18446744073709551616 * 2 ^ (63 - r) % 18446744073709551616 = 2 ^ (64 - r) * (y % 2 ^ r) := by
  rw [Nat.mul_mod (y * 2 % 18446744073709551616), Nat.mod_mod, ← Nat.mul_mod, Nat.mul_assoc, ← Nat.pow_succ', show (63 - r).succ = 64 - r from by omega, aKa _ _ (by omega), show 64 - (64 - r) = r from by omega]
 have hB := aLA r (by omega)
 have ho : x / 2 ^ r < 2 ^ (64 - r) := (Nat.div_lt_iff_lt_mul (Nat.two_pow_pos r)).2 (by rw [hB]; exact hx)
 have hd : (x + 18446744073709551616 * (y + 18446744073709551616 * z)) / 2 ^ r = x / 2 ^ r + 2 ^ (64 - r) * (y + 18446744073709551616 * z) := by
  rw [show 18446744073709551616 * (y + 18446744073709551616 * z) = 2 ^ r * (2 ^ (64 - r) * (y + 18446744073709551616 * z)) from by rw [← Nat.mul_assoc, Nat.mul_comm (2 ^ r), hB], Nat.add_mul_div_left _ _ (Nat.two_pow_pos r)]
 have hm : (y + 18446744073709551616 * z) % 2 ^ r = y % 2 ^ r := by
  rw [show 18446744073709551616 * z = 2 ^ r * (2 ^ (64 - r) * z) from by rw [← Nat.mul_assoc, Nat.mul_comm (2 ^ r), hB], Nat.add_mul_mod_self_left]
 rw [e0, aMS ho, hd]
 have := aSi (w := y + 18446744073709551616 * z) (r := r) ho
 rw [hB, hm] at this
 exact this
theorem aO8 {a : List Nat} {r : Nat} {i : Int} {out : List Nat} (la : Lm a) (hr : r < 64) (h : aSh a r i out) (hi : i < a.length) :
  aSh a r (i + 1) (out.set i.toNat (a.getD i.toNat 0 / 2 ^ r ||| a.getD (i.toNat + 1) 0 * 2 % 18446744073709551616 * 2 ^ (63 - r) % 18446744073709551616)) := by
 have h0 := h.i0
 have hlen := h.len
 have hk : i.toNat < a.length := by omega
 have e1 : (i + 1).toNat = i.toNat + 1 := by omega
 have hx := eI la i.toNat
 obtain ⟨z, hz⟩ : ∃ z, nv (a.drop (i.toNat + 1)) = a.getD (i.toNat + 1) 0 + 18446744073709551616 * z := by
  rcases Nat.lt_or_ge (i.toNat + 1) a.length with hl | hl
  ·refine ⟨nv (a.drop (i.toNat + 1 + 1)), ?_⟩
   rw [List.drop_eq_getElem_cons hl, kS, List.getD_eq_getElem?_getD, List.getElem?_eq_getElem hl]; rfl
  ·refine ⟨0, ?_⟩
   rw [List.drop_eq_nil_of_le hl, List.getD_eq_getElem?_getD, List.getElem?_eq_none hl]; rfl
 have hd : nv (a.drop i.toNat) = a.getD i.toNat 0 + 18446744073709551616 * (a.getD (i.toNat + 1) 0 + 18446744073709551616 * z) := by
  have hg : a.getD i.toNat 0 = a[i.toNat] := by rw [List.getD_eq_getElem?_getD, List.getElem?_eq_getElem hk]; rfl
  rw [List.drop_eq_getElem_cons hk, kS, hz, hg]
 have key : a.getD i.toNat 0 / 2 ^ r ||| a.getD (i.toNat + 1) 0 * 2 % 18446744073709551616 * 2 ^ (63 - r) % 18446744073709551616 = nv a / 2 ^ r / 18446744073709551616 ^ i.toNat % 18446744073709551616 := by
  rw [← aQN (z := z) hx hr, ← hd, aCL la, Nat.div_div_eq_div_mul, Nat.div_div_eq_div_mul, Nat.mul_comm (18446744073709551616 ^ i.toNat)]
 rw [key]
 refine ⟨by omega, by omega, by rw [List.length_set]; exact hlen, sU h.lm _ (Nat.mod_lt _ (by decide)), ?_⟩
 rw [e1, aEm (by omega), h.sum, Nat.pow_succ, Nat.mod_mul]
theorem aH7 (a : List Nat) (wa : (Ty.sl (.u .u64)).wf a) (n : Int) (wn : (Ty.i .i64).wf n) (hp : aDM a n) : sF a n = some (cH a n) := by
 have la := qN wa
 obtain ⟨sa, n0⟩ := hp
 have sa : a.length ≤ 1099511627776 := sa
 obtain ⟨w1, w2⟩ := wf_i64 wn
 obtain ⟨d1, d2⟩ := aQK n0
 have hr : n.toNat % 64 < 64 := Nat.mod_lt _ (by decide)
 have hq : n.toNat / 64 ≤ 9223372036854775807 := by omega
 have hps := aJt n.toNat
 obtain ⟨u1, u2⟩ := aJs hr
 unfold sF cH
 rw [d1]
 refine aB (by constructor <;> omega) (aAi (fun h => ?_) (fun h => ?_))
 ·have : nv a / 2 ^ n.toNat = 0 := by
   refine Nat.div_eq_of_lt (Nat.lt_of_lt_of_le (iG la) ?_)
   rw [← hps]
   exact Nat.le_trans (Nat.pow_le_pow_right (by decide) (by omega)) (Nat.le_mul_of_pos_right _ (Nat.two_pow_pos _))
  rw [this, gF]
 ·rw [← hps, ← Nat.div_div_eq_div_mul, ← aCL la]
  generalize n.toNat / 64 = q at *
  generalize n.toNat % 64 = r at *
  rw [Int.toNat_natCast]
  have lA := aR5 la q
  have hA : (a.drop q).length = a.length - q := List.length_drop
  have key := gU (step := fun d : Int × (List Nat) => jG n a d.1 d.2) (I := fun d => aSh (a.drop q) r d.1 d.2) (fun d => ((a.drop q).length - d.1).toNat) (fun e => nv e = nv (a.drop q) / 2 ^ r) ?_ (0, List.replicate (a.drop q).length 0) ⟨by simp, by simp, by simp, aDL _, by simp [nv, Nat.mod_one]⟩
  ·obtain ⟨e, h1, h2⟩ := key
   refine aB (by constructor <;> omega) (aB (by constructor <;> omega) (aB (by omega) (aB (by omega) (cE h1 ?_))))
   rw [cK, h2]
  ·rintro ⟨i, out⟩ h
   have h : aSh (a.drop q) r i out := h
   have h0 := h.i0
   have h1 := h.i1
   have hl := h.len
   show (∃ d', jG n a i out = _ ∧ _) ∨ ∃ e, jG n a i out = _ ∧ _
   unfold jG
   rw [d1, d2, u1, u2, Int.toNat_natCast]
   generalize a.drop q = A at *
   by_cases hi : i < A.length
   ·left
    have hs := aO8 lA hr h hi
    rw [if_pos hi]
    by_cases hi2 : i + 1 < A.length
    ·refine ⟨(_, _), ?_, hs, by simp only; omega⟩
     rw [if_pos hi2]
     simp only [List.length_set]
     refine aB (by constructor <;> omega) (aB (by constructor <;> omega) (aB (by constructor <;> omega) (aB (by constructor <;> omega) (aB (by constructor <;> omega) (aB (by constructor <;> omega) (aB (by constructor <;> omega) (aB (by constructor <;> omega) (aB (by constructor <;> omega) ?_))))))))
     rw [show (i + 1).toNat = i.toNat + 1 from by omega, List.set_set, List.getD_eq_getElem?_getD (l := out.set _ _), List.getElem?_set_self (by omega)]
     rfl
    ·have hy : A.getD (i.toNat + 1) 0 = 0 := by rw [List.getD_eq_getElem?_getD, List.getElem?_eq_none (by omega)]; rfl
     rw [hy] at hs
     simp only [Nat.zero_mul, Nat.zero_mod, Nat.or_zero] at hs
     refine ⟨(_, _), ?_, hs, by simp only; omega⟩
     rw [if_neg hi2]
     exact aB (by constructor <;> omega) (aB (by constructor <;> omega) (aB (by constructor <;> omega) (aB (by constructor <;> omega) rfl)))
   ·right
    refine ⟨out, by rw [if_neg hi], ?_⟩
    have := h.sum
    rw [show i.toNat = A.length from by omega, List.take_of_length_le (by omega)] at this
    rw [this]
    exact Nat.mod_eq_of_lt (Nat.lt_of_le_of_lt (Nat.div_le_self _ _) (iG lA))
end Nu
end Go.Proofs
namespace Go.Proofs
open Go.Vc
set_option maxRecDepth 20000
namespace Nu
theorem aTq {N M : Nat} (h : M ≤ N) (hl : N - M < 18446744073709551616) : iD .u64 (N % 18446744073709551616) (M % 18446744073709551616) = N - M := by
 rw [aCo, aOa]; omega
structure DI (V u u1 q r : Nat) : Prop where
 lo : 9223372036854775808 ≤ V
 hi : V < 18446744073709551616
 uV : u < V
 ul : u1 < 4294967296
 eq : q * (V / 4294967296) + r = u
 ge : (u * 4294967296 + u1) / V ≤ q
 r1 : r < 4294967296
theorem aTr {V u u1 q r : Nat} (h : DI V u u1 q r) : q * V + r * 4294967296 = u * 4294967296 + q * (V % 4294967296) := by
 have e := Nat.div_add_mod V 4294967296
 have := h.eq
 generalize V / 4294967296 = v1 at *
 generalize V % 4294967296 = v0 at *
 subst e
 subst this
 rw [Nat.mul_add, Nat.add_mul, Nat.mul_left_comm]
 rw [Nat.mul_comm 4294967296]
 omega
theorem aQO {V u u1 q r : Nat} (h : DI V u u1 q r) : (u * 4294967296 + u1) / V < 4294967296 := by
 have h1 := h.uV
 have h2 := h.ul
 refine (Nat.div_lt_iff_lt_mul (by have := h.lo; omega)).2 ?_
 omega
theorem aFO {V u u1 q r : Nat} (h : DI V u u1 q r) : (4294967296 ≤ q ∨ (kF .u64 4294967296 r + u1) % 18446744073709551616 < kF .u64 q (V % 4294967296)) ↔ (u * 4294967296 + u1) / V < q := by
 have hs := aQO h
 have hm := aTr h
 have h1 := h.r1
 have h2 := h.ul
 have hV := h.lo
 rcases Nat.lt_or_ge q 4294967296 with hq | hq
 ·have hv : V % 4294967296 ≤ 4294967295 := by omega
  have p : q * (V % 4294967296) ≤ 4294967295 * 4294967295 := Nat.mul_le_mul (by omega) hv
  rw [aEk, aEk, Nat.div_lt_iff_lt_mul (by omega)]
  rw [Nat.mod_eq_of_lt (a := q * (V % 4294967296)) (by omega)]
  generalize q * (V % 4294967296) = C at *
  generalize q * V = D at *
  constructor
  ·rintro (h | h)
   ·omega
   ·omega
  ·intro h; right; omega
 ·exact ⟨fun _ => by omega, fun _ => .inl hq⟩
theorem aQP {V u u1 q r : Nat} (h : DI V u u1 q r) (hc : (u * 4294967296 + u1) / V < q) : (r + V / 4294967296) % 18446744073709551616 = r + V / 4294967296 ∧ iD .u64 q 1 = q - 1 ∧ (4294967296 ≤ r + V / 4294967296 → q - 1 = (u * 4294967296 + u1) / V) ∧ (r + V / 4294967296 < 4294967296 → DI V u u1 (q - 1) (r + V / 4294967296)) := by
 have h1 := h.r1
 have h2 := h.hi
 have h3 := h.lo
 have he := h.eq
 have hu := h.uV
 have hul := h.ul
 have hQ := Nat.zero_le ((u * 4294967296 + u1) / V)
 obtain ⟨p, rfl⟩ : ∃ p, q = p + 1 := ⟨q - 1, by omega⟩
 have he' : p * (V / 4294967296) + (r + V / 4294967296) = u := by rw [Nat.add_mul] at he; omega
 have hqV : (p + 1) * (V / 4294967296) < 18446744073709551616 := by omega
 have hpB : p + 1 < 18446744073709551616 := by
  have : (p + 1) * 1 ≤ (p + 1) * (V / 4294967296) := Nat.mul_le_mul_left _ (by omega)
  omega
 refine ⟨by omega, aLt hpB (by omega), fun hr => ?_, fun hr => ⟨h3, h2, hu, hul, he', by omega, hr⟩⟩
 simp only [Nat.add_sub_cancel]
 refine Nat.le_antisymm ?_ (by omega)
 refine (Nat.le_div_iff_mul_le (by omega)).2 ?_
 have ev := Nat.div_add_mod V 4294967296
 have hv0 : V % 4294967296 ≤ 4294967295 := by omega
 generalize V / 4294967296 = v1 at *
 generalize V % 4294967296 = v0 at *
 have hp : p ≤ 4294967295 := by
  rcases Nat.lt_or_ge p 4294967296 with hh | hh
  ·omega
  ·have := Nat.mul_le_mul_right v1 hh
   omega
 have hC : p * v0 ≤ 4294967295 * 4294967295 := Nat.mul_le_mul hp hv0
 rw [← ev, Nat.mul_add, Nat.mul_left_comm]
 generalize p * v1 = A at *
 generalize p * v0 = C at *
 omega
theorem aLB {V u u1 : Nat} (h1 : 9223372036854775808 ≤ V) (h2 : V < 18446744073709551616) (h3 : u < V) (h4 : u1 < 4294967296) : iD .u64 u (kF .u64 (u / (V / 4294967296)) (V / 4294967296)) = u % (V / 4294967296) ∧ DI V u u1 (u / (V / 4294967296)) (u % (V / 4294967296)) := by
 have e := Nat.div_add_mod u (V / 4294967296)
 have m := Nat.mod_lt u (show 0 < V / 4294967296 by omega)
 have hle : (V / 4294967296) * (u / (V / 4294967296)) ≤ u := by omega
 constructor
 ·rw [aEk, Nat.mul_comm, Nat.mod_eq_of_lt (show (V / 4294967296) * (u / (V / 4294967296)) < 18446744073709551616 by omega), aLt (by omega) hle]
  omega
 ·refine ⟨h1, h2, h3, h4, by rw [Nat.mul_comm]; omega, ?_, by omega⟩
  refine (Nat.le_div_iff_mul_le (by omega)).2 ?_
  have e2 := Nat.div_add_mod V 4294967296
  have d := Nat.div_mul_le_self (u * 4294967296 + u1) V
  generalize (u * 4294967296 + u1) / V = Q at *
  generalize V / 4294967296 = v1 at *
  have : Q * V = Q * v1 * 4294967296 + Q * (V % 4294967296) := by
   conv => lhs; rw [← e2]
   rw [Nat.mul_add, Nat.mul_left_comm, Nat.mul_comm 4294967296]
  generalize Q * V = D at *
  generalize Q * v1 = F at *
  generalize Q * (V % 4294967296) = G at *
  omega
abbrev tE (hi lo y : Nat) : Prop := hi < y
def iN (hi lo y : Nat) : Nat × Nat × Unit := ((hi * 18446744073709551616 + lo) / y, (hi * 18446744073709551616 + lo) % y, ())
noncomputable def lW (x15_8 : Nat) (hi_0 : Nat) (y_2 : Nat) (lo_1 : Nat) (x18_13 : Nat) : Option ((Nat × (Nat × Unit))) :=
 some ((((kF .u64 x15_8 (4294967296 : Nat)) + x18_13) % 18446744073709551616), ((iD .u64 (((kF .u64 (iD .u64 (((kF .u64 (((hi_0 * (2 ^ (((aA y_2) % (18446744073709551616 : Int)).toNat))) % 18446744073709551616) ||| (lo_1 / (2 ^ (iD .u64 (64 : Nat) (((aA y_2) % (18446744073709551616 : Int)).toNat))))) (4294967296 : Nat)) + (((lo_1 * (2 ^ (((aA y_2) % (18446744073709551616 : Int)).toNat))) % 18446744073709551616) / (4294967296 : Nat))) % 18446744073709551616) (kF .u64 x15_8 ((y_2 * (2 ^ (((aA y_2) % (18446744073709551616 : Int)).toNat))) % 18446744073709551616))) (4294967296 : Nat)) + (((lo_1 * (2 ^ (((aA y_2) % (18446744073709551616 : Int)).toNat))) % 18446744073709551616) &&& (4294967295 : Nat))) % 18446744073709551616) (kF .u64 x18_13 ((y_2 * (2 ^ (((aA y_2) % (18446744073709551616 : Int)).toNat))) % 18446744073709551616))) / (2 ^ (((aA y_2) % (18446744073709551616 : Int)).toNat))), ())
noncomputable def fB (lo_1 : Nat) (y_2 : Nat) (rhat_14 : Nat) (x18_15 : Nat) : Option ((Nat × Nat) ⊕ ((Nat))) :=
 if ((4294967296 : Nat) ≤ x18_15) ∨ ((((kF .u64 (4294967296 : Nat) rhat_14) + (((lo_1 * (2 ^ (((aA y_2) % (18446744073709551616 : Int)).toNat))) % 18446744073709551616) &&& (4294967295 : Nat))) % 18446744073709551616) < (kF .u64 x18_15 (((y_2 * (2 ^ (((aA y_2) % (18446744073709551616 : Int)).toNat))) % 18446744073709551616) &&& (4294967295 : Nat)))) then if (4294967296 : Nat) ≤ ((rhat_14 + (((y_2 * (2 ^ (((aA y_2) % (18446744073709551616 : Int)).toNat))) % 18446744073709551616) / (4294967296 : Nat))) % 18446744073709551616) then some (.inr (iD .u64 x18_15 (1 : Nat))) else some (.inl (((rhat_14 + (((y_2 * (2 ^ (((aA y_2) % (18446744073709551616 : Int)).toNat))) % 18446744073709551616) / (4294967296 : Nat))) % 18446744073709551616), (iD .u64 x18_15 (1 : Nat)))) else some (.inr x18_15)
noncomputable def lX (y_2 : Nat) (lo_1 : Nat) (hi_0 : Nat) (x15_8 : Nat) : Option ((Nat × (Nat × Unit))) :=
 ck ((((y_2 * (2 ^ (((aA y_2) % (18446744073709551616 : Int)).toNat))) % 18446744073709551616) / (4294967296 : Nat)) ≠ 0) ((dC (fun d : Nat × Nat => fB lo_1 y_2 d.1 d.2) ((iD .u64 (iD .u64 (((kF .u64 (((hi_0 * (2 ^ (((aA y_2) % (18446744073709551616 : Int)).toNat))) % 18446744073709551616) ||| (lo_1 / (2 ^ (iD .u64 (64 : Nat) (((aA y_2) % (18446744073709551616 : Int)).toNat))))) (4294967296 : Nat)) + (((lo_1 * (2 ^ (((aA y_2) % (18446744073709551616 : Int)).toNat))) % 18446744073709551616) / (4294967296 : Nat))) % 18446744073709551616) (kF .u64 x15_8 ((y_2 * (2 ^ (((aA y_2) % (18446744073709551616 : Int)).toNat))) % 18446744073709551616))) (kF .u64 ((iD .u64 (((kF .u64 (((hi_0 * (2 ^ (((aA y_2) % (18446744073709551616 : Int)).toNat))) % 18446744073709551616) ||| (lo_1 / (2 ^ (iD .u64 (64 : Nat) (((aA y_2) % (18446744073709551616 : Int)).toNat))))) (4294967296 : Nat)) + (((lo_1 * (2 ^ (((aA y_2) % (18446744073709551616 : Int)).toNat))) % 18446744073709551616) / (4294967296 : Nat))) % 18446744073709551616) (kF .u64 x15_8 ((y_2 * (2 ^ (((aA y_2) % (18446744073709551616 : Int)).toNat))) % 18446744073709551616))) / (((y_2 * (2 ^ (((aA y_2) % (18446744073709551616 : Int)).toNat))) % 18446744073709551616) / (4294967296 : Nat))) (((y_2 * (2 ^ (((aA y_2) % (18446744073709551616 : Int)).toNat))) % 18446744073709551616) / (4294967296 : Nat)))), ((iD .u64 (((kF .u64 (((hi_0 * (2 ^ (((aA y_2) % (18446744073709551616 : Int)).toNat))) % 18446744073709551616) ||| (lo_1 / (2 ^ (iD .u64 (64 : Nat) (((aA y_2) % (18446744073709551616 : Int)).toNat))))) (4294967296 : Nat)) + (((lo_1 * (2 ^ (((aA y_2) % (18446744073709551616 : Int)).toNat))) % 18446744073709551616) / (4294967296 : Nat))) % 18446744073709551616) (kF .u64 x15_8 ((y_2 * (2 ^ (((aA y_2) % (18446744073709551616 : Int)).toNat))) % 18446744073709551616))) / (((y_2 * (2 ^ (((aA y_2) % (18446744073709551616 : Int)).toNat))) % 18446744073709551616) / (4294967296 : Nat))))).bind (fun e => lW x15_8 hi_0 y_2 lo_1 e))
noncomputable def fC (lo_1 : Nat) (y_2 : Nat) (x15_19 : Nat) (rhat_20 : Nat) : Option ((Nat × Nat) ⊕ ((Nat))) :=
 if ((4294967296 : Nat) ≤ x15_19) ∨ ((((kF .u64 (4294967296 : Nat) rhat_20) + (((lo_1 * (2 ^ (((aA y_2) % (18446744073709551616 : Int)).toNat))) % 18446744073709551616) / (4294967296 : Nat))) % 18446744073709551616) < (kF .u64 x15_19 (((y_2 * (2 ^ (((aA y_2) % (18446744073709551616 : Int)).toNat))) % 18446744073709551616) &&& (4294967295 : Nat)))) then if (4294967296 : Nat) ≤ ((rhat_20 + (((y_2 * (2 ^ (((aA y_2) % (18446744073709551616 : Int)).toNat))) % 18446744073709551616) / (4294967296 : Nat))) % 18446744073709551616) then some (.inr (iD .u64 x15_19 (1 : Nat))) else some (.inl ((iD .u64 x15_19 (1 : Nat)), ((rhat_20 + (((y_2 * (2 ^ (((aA y_2) % (18446744073709551616 : Int)).toNat))) % 18446744073709551616) / (4294967296 : Nat))) % 18446744073709551616))) else some (.inr x15_19)
noncomputable def qA (hi_0 : Nat) (lo_1 : Nat) (y_2 : Nat) : Option (Nat × (Nat × Unit)) :=
 if y_2 = (0 : Nat) then none else if y_2 ≤ hi_0 then none else if hi_0 = (0 : Nat) then ck (y_2 ≠ 0) (ck (y_2 ≠ 0) (some ((lo_1 / y_2), (lo_1 % y_2), ()))) else ck ((((y_2 * (2 ^ (((aA y_2) % (18446744073709551616 : Int)).toNat))) % 18446744073709551616) / (4294967296 : Nat)) ≠ 0) ((dC (fun d : Nat × Nat => fC lo_1 y_2 d.1 d.2) (((((hi_0 * (2 ^ (((aA y_2) % (18446744073709551616 : Int)).toNat))) % 18446744073709551616) ||| (lo_1 / (2 ^ (iD .u64 (64 : Nat) (((aA y_2) % (18446744073709551616 : Int)).toNat))))) / (((y_2 * (2 ^ (((aA y_2) % (18446744073709551616 : Int)).toNat))) % 18446744073709551616) / (4294967296 : Nat))), (iD .u64 (((hi_0 * (2 ^ (((aA y_2) % (18446744073709551616 : Int)).toNat))) % 18446744073709551616) ||| (lo_1 / (2 ^ (iD .u64 (64 : Nat) (((aA y_2) % (18446744073709551616 : Int)).toNat))))) (kF .u64 ((((hi_0 * (2 ^ (((aA y_2) % (18446744073709551616 : Int)).toNat))) % 18446744073709551616) ||| (lo_1 / (2 ^ (iD .u64 (64 : Nat) (((aA y_2) % (18446744073709551616 : Int)).toNat))))) / (((y_2 * (2 ^ (((aA y_2) % (18446744073709551616 : Int)).toNat))) % 18446744073709551616) / (4294967296 : Nat))) (((y_2 * (2 ^ (((aA y_2) % (18446744073709551616 : Int)).toNat))) % 18446744073709551616) / (4294967296 : Nat)))))).bind (fun e => lX y_2 lo_1 hi_0 e))
theorem aFP (x : Nat) : x &&& 4294967295 = x % 4294967296 := Nat.and_two_pow_sub_one_eq_mod x 32
theorem aTs {lo y s : Nat} {u : Nat} (hs : (aA y % (18446744073709551616 : Int)).toNat = s) (h : ∀ V, V = y * 2 ^ s % 18446744073709551616 → 9223372036854775808 ≤ V ∧ u < V) :
  dC (fun d : Nat × Nat => fC lo y d.1 d.2) (u / (y * 2 ^ s % 18446744073709551616 / 4294967296), iD .u64 u (kF .u64 (u / (y * 2 ^ s % 18446744073709551616 / 4294967296)) (y * 2 ^ s % 18446744073709551616 / 4294967296))) = some ((u * 4294967296 + lo * 2 ^ s % 18446744073709551616 / 4294967296) / (y * 2 ^ s % 18446744073709551616)) := by
 have hV := Nat.mod_lt (y * 2 ^ s) (show 0 < 18446744073709551616 by decide)
 have hU := Nat.mod_lt (lo * 2 ^ s) (show 0 < 18446744073709551616 by decide)
 have step : ∀ q r, fC lo y q r = if 4294967296 ≤ q ∨ (kF .u64 4294967296 r + lo * 2 ^ s % 18446744073709551616 / 4294967296) % 18446744073709551616 < kF .u64 q (y * 2 ^ s % 18446744073709551616 % 4294967296) then if 4294967296 ≤ (r + y * 2 ^ s % 18446744073709551616 / 4294967296) % 18446744073709551616 then some (.inr (iD .u64 q 1)) else some (.inl (iD .u64 q 1, (r + y * 2 ^ s % 18446744073709551616 / 4294967296) % 18446744073709551616)) else some (.inr q) := fun q r => by
  unfold fC; rw [hs, aFP]
 obtain ⟨h1, h2⟩ := h _ rfl
 generalize y * 2 ^ s % 18446744073709551616 = V at *
 have hu1 : lo * 2 ^ s % 18446744073709551616 / 4294967296 < 4294967296 := by omega
 generalize lo * 2 ^ s % 18446744073709551616 / 4294967296 = u1 at *
 obtain ⟨e0, i0⟩ := aLB h1 hV h2 hu1
 rw [e0]
 refine jZ (I := fun d => DI V u u1 d.1 d.2) (fun d => d.1) (fun _ => (u * 4294967296 + u1) / V) ?_ (u / (V / 4294967296), u % (V / 4294967296)) i0
 rintro ⟨q, r⟩ hi
 have hi : DI V u u1 q r := hi
 show (∃ d', fC lo y q r = _ ∧ _) ∨ fC lo y q r = _
 rw [step]
 by_cases hc : (u * 4294967296 + u1) / V < q
 ·obtain ⟨a1, a2, a3, a4⟩ := aQP hi hc
  rw [if_pos ((aFO hi).2 hc), a1, a2]
  by_cases hr : 4294967296 ≤ r + V / 4294967296
  ·right; rw [if_pos hr, a3 hr]
  ·left
   refine ⟨(q - 1, r + V / 4294967296), by rw [if_neg hr], a4 (by omega), Nat.sub_lt (Nat.lt_of_le_of_lt (Nat.zero_le _) hc) (by decide), rfl⟩
 ·right
  rw [if_neg (fun h => hc ((aFO hi).1 h))]
  have := hi.ge
  rw [show q = (u * 4294967296 + u1) / V from Nat.le_antisymm (Nat.le_of_not_lt hc) this]
theorem aTt {lo y s : Nat} {u : Nat} (hs : (aA y % (18446744073709551616 : Int)).toNat = s) (h : ∀ V, V = y * 2 ^ s % 18446744073709551616 → 9223372036854775808 ≤ V ∧ u < V) :
  dC (fun d : Nat × Nat => fB lo y d.1 d.2) (iD .u64 u (kF .u64 (u / (y * 2 ^ s % 18446744073709551616 / 4294967296)) (y * 2 ^ s % 18446744073709551616 / 4294967296)), u / (y * 2 ^ s % 18446744073709551616 / 4294967296)) = some ((u * 4294967296 + lo * 2 ^ s % 18446744073709551616 % 4294967296) / (y * 2 ^ s % 18446744073709551616)) := by
 have hV := Nat.mod_lt (y * 2 ^ s) (show 0 < 18446744073709551616 by decide)
 have step : ∀ q r, fB lo y r q = if 4294967296 ≤ q ∨ (kF .u64 4294967296 r + lo * 2 ^ s % 18446744073709551616 % 4294967296) % 18446744073709551616 < kF .u64 q (y * 2 ^ s % 18446744073709551616 % 4294967296) then if 4294967296 ≤ (r + y * 2 ^ s % 18446744073709551616 / 4294967296) % 18446744073709551616 then some (.inr (iD .u64 q 1)) else some (.inl ((r + y * 2 ^ s % 18446744073709551616 / 4294967296) % 18446744073709551616, iD .u64 q 1)) else some (.inr q) := fun q r => by
  unfold fB; rw [hs, aFP, aFP]
 obtain ⟨h1, h2⟩ := h _ rfl
 generalize y * 2 ^ s % 18446744073709551616 = V at *
 have hu1 : lo * 2 ^ s % 18446744073709551616 % 4294967296 < 4294967296 := Nat.mod_lt _ (by decide)
 generalize lo * 2 ^ s % 18446744073709551616 % 4294967296 = u1 at *
 obtain ⟨e0, i0⟩ := aLB h1 hV h2 hu1
 rw [e0]
 refine jZ (I := fun d => DI V u u1 d.2 d.1) (fun d => d.2) (fun _ => (u * 4294967296 + u1) / V) ?_ (u % (V / 4294967296), u / (V / 4294967296)) i0
 rintro ⟨r, q⟩ hi
 have hi : DI V u u1 q r := hi
 show (∃ d', fB lo y r q = _ ∧ _) ∨ fB lo y r q = _
 rw [step]
 by_cases hc : (u * 4294967296 + u1) / V < q
 ·obtain ⟨a1, a2, a3, a4⟩ := aQP hi hc
  rw [if_pos ((aFO hi).2 hc), a1, a2]
  by_cases hr : 4294967296 ≤ r + V / 4294967296
  ·right; rw [if_pos hr, a3 hr]
  ·left
   refine ⟨(r + V / 4294967296, q - 1), by rw [if_neg hr], a4 (by omega), Nat.sub_lt (Nat.lt_of_le_of_lt (Nat.zero_le _) hc) (by decide), rfl⟩
 ·right
  rw [if_neg (fun h => hc ((aFO hi).1 h))]
  have := hi.ge
  rw [show q = (u * 4294967296 + u1) / V from Nat.le_antisymm (Nat.le_of_not_lt hc) this]
theorem aEp {N V : Nat} : N - N / V * V = N % V := by
 have e := Nat.div_add_mod N V
 have c := Nat.mul_comm (N / V) V
 omega
theorem aQQ {V u u1 : Nat} (h1 : 0 < V) (h2 : V < 18446744073709551616) (hu1 : u1 < 4294967296) : iD .u64 ((kF .u64 u 4294967296 + u1) % 18446744073709551616) (kF .u64 ((u * 4294967296 + u1) / V) V) = (u * 4294967296 + u1) % V := by
 have m := Nat.mod_lt (u * 4294967296 + u1) h1
 rw [aEk, aEk, Nat.mod_add_mod, aTq (Nat.div_mul_le_self _ _) (by rw [aEp]; exact Nat.lt_trans m h2), aEp]
theorem aOg {V N W un0 : Nat} (hV : 0 < V) : N / V * W + (N % V * W + un0) / V = (N * W + un0) / V ∧ (N % V * W + un0) % V = (N * W + un0) % V := by
 have e := Nat.div_add_mod N V
 have : N * W + un0 = N % V * W + un0 + V * (N / V * W) := by
  conv => lhs; rw [← e]
  rw [Nat.add_mul, Nat.mul_assoc]; omega
 rw [this, Nat.add_mul_div_left _ _ hV, Nat.add_mul_mod_self_left]
 exact ⟨Nat.add_comm _ _, rfl⟩
theorem aTu (A C : Nat) : (A * 4294967296 + C / 4294967296) * 4294967296 + C % 4294967296 = A * 18446744073709551616 + C := by omega
theorem aGJ (hi : Nat) (wh : (Ty.u .u64).wf hi) (lo : Nat) (wl : (Ty.u .u64).wf lo) (y : Nat) (wy : (Ty.u .u64).wf y) (hp : tE hi lo y) : qA hi lo y = some (iN hi lo y) := by
 have hh := aAU wh
 have hl := aAU wl
 have hy := aAU wy
 have hp : hi < y := hp
 have hb := aO2 hy
 have hb1 := aB6 (x := y) (by omega)
 have hs : (aA y % (18446744073709551616 : Int)).toNat = 64 - bl y := by unfold aA; omega
 have hs2 : iD .u64 64 (64 - bl y) = 64 - (64 - bl y) := aLt (by omega) (by omega)
 have hlow := aGF (x := y) (by omega)
 have hlt := aCM y
 unfold qA iN
 rw [if_neg (by omega), if_neg (by omega), hs]
 refine aAi (fun h => ?_) (fun h => ?_)
 ·subst h
  refine aB (by omega) (aB (by omega) ?_)
  rw [Nat.zero_mul, Nat.zero_add]
 ·rw [hs2]
  generalize hsd : 64 - bl y = s at *
  have hs64 : s ≤ 63 := by omega
  have hsp := Nat.two_pow_pos s
  have h2s : 2 ^ (64 - s) * 2 ^ s = 18446744073709551616 := aLA s (by omega)
  have hyV : y * 2 ^ s < 18446744073709551616 := by
   rw [← h2s, show 64 - s = bl y from by omega]
   exact Nat.mul_lt_mul_of_pos_right hlt hsp
  have hyL : 9223372036854775808 ≤ y * 2 ^ s := by
   have := Nat.mul_le_mul_right (2 ^ s) hlow
   rw [← Nat.pow_add, show bl y - 1 + s = 63 from by omega] at this
   exact this
  have hU : hi * 2 ^ s % 18446744073709551616 ||| lo / 2 ^ (64 - s) = (hi * 18446744073709551616 + lo) * 2 ^ s / 18446744073709551616 := by
   have h1 : hi * 2 ^ s < 18446744073709551616 := Nat.lt_trans (Nat.mul_lt_mul_of_pos_right hp hsp) hyV
   have h3 : lo / 2 ^ (64 - s) < 2 ^ s := (Nat.div_lt_iff_lt_mul (Nat.two_pow_pos _)).2 (by rw [Nat.mul_comm, h2s]; exact hl)
   rw [Nat.mod_eq_of_lt h1, Nat.or_comm, Nat.mul_comm hi, aMS h3, Nat.add_mul, Nat.mul_assoc, Nat.mul_comm 18446744073709551616, ← Nat.mul_assoc, Nat.add_comm (hi * 2 ^ s * 18446744073709551616), Nat.add_mul_div_right _ _ (by decide), ← h2s, Nat.mul_div_mul_right _ _ hsp, Nat.mul_comm hi]
  have hUV : (hi * 18446744073709551616 + lo) * 2 ^ s / 18446744073709551616 < y * 2 ^ s := by
   refine (Nat.div_lt_iff_lt_mul (by decide)).2 ?_
   rw [Nat.mul_right_comm y]
   exact Nat.mul_lt_mul_of_pos_right (by have := Nat.mul_le_mul_right 18446744073709551616 (show hi + 1 ≤ y from hp); omega) hsp
  have hlow2 : lo * 2 ^ s % 18446744073709551616 = (hi * 18446744073709551616 + lo) * 2 ^ s % 18446744073709551616 := by
   rw [Nat.add_mul, Nat.mul_right_comm, Nat.add_comm, Nat.add_mul_mod_self_right]
  have hVm : y * 2 ^ s % 18446744073709551616 = y * 2 ^ s := Nat.mod_eq_of_lt hyV
  have eN := Nat.div_add_mod ((hi * 18446744073709551616 + lo) * 2 ^ s) 18446744073709551616
  have mN := Nat.mod_lt ((hi * 18446744073709551616 + lo) * 2 ^ s) (show 0 < 18446744073709551616 by decide)
  rw [hU]
  refine aB (by rw [hVm]; omega) (cE (aTs hs (fun V e => by rw [e, hVm]; exact ⟨hyL, hUV⟩)) ?_)
  unfold lX
  rw [hs, hs2, hU]
  have hr := aQQ (V := y * 2 ^ s % 18446744073709551616) (u := (hi * 18446744073709551616 + lo) * 2 ^ s / 18446744073709551616) (u1 := lo * 2 ^ s % 18446744073709551616 / 4294967296) (by rw [hVm]; omega) (by omega) (by omega)
  rw [hr]
  refine aB (by rw [hVm]; omega) (cE (aTt hs (fun V e => by rw [e]; exact ⟨by rw [hVm]; exact hyL, Nat.mod_lt _ (by rw [hVm]; omega)⟩)) ?_)
  unfold lW
  rw [hs, hs2, hU, hr, aFP, hVm, hlow2]
  have hr2 := aQQ (V := y * 2 ^ s) (u := ((hi * 18446744073709551616 + lo) * 2 ^ s / 18446744073709551616 * 4294967296 + (hi * 18446744073709551616 + lo) * 2 ^ s % 18446744073709551616 / 4294967296) % (y * 2 ^ s)) (u1 := (hi * 18446744073709551616 + lo) * 2 ^ s % 18446744073709551616 % 4294967296) (by omega) hyV (Nat.mod_lt _ (by decide))
  rw [hr2]
  obtain ⟨q1, q2⟩ := aOg (V := y * 2 ^ s) (N := (hi * 18446744073709551616 + lo) * 2 ^ s / 18446744073709551616 * 4294967296 + (hi * 18446744073709551616 + lo) * 2 ^ s % 18446744073709551616 / 4294967296) (W := 4294967296) (un0 := (hi * 18446744073709551616 + lo) * 2 ^ s % 18446744073709551616 % 4294967296) (by omega)
  have eW := (aTu ((hi * 18446744073709551616 + lo) * 2 ^ s / 18446744073709551616) ((hi * 18446744073709551616 + lo) * 2 ^ s % 18446744073709551616)).trans ((congrArg (· + (hi * 18446744073709551616 + lo) * 2 ^ s % 18446744073709551616) (Nat.mul_comm _ _)).trans eN)
  rw [eW] at q1 q2
  rw [q2, aEk, Nat.mod_add_mod, q1, Nat.mul_div_mul_right _ _ hsp, Nat.mul_mod_mul_right, Nat.mul_div_cancel _ hsp]
  have hq : (hi * 18446744073709551616 + lo) / y < 18446744073709551616 := (Nat.div_lt_iff_lt_mul (by omega)).2 (by have := Nat.mul_le_mul_right 18446744073709551616 (show hi + 1 ≤ y from hp); rw [Nat.mul_comm 18446744073709551616]; omega)
  rw [Nat.mod_eq_of_lt hq]
end Nu
end Go.Proofs
namespace Go.Proofs
open Go.Vc
set_option maxRecDepth 20000
namespace Nu
abbrev aAV (a : List Nat) (b : Nat) : Prop := b ≠ 0 ∧ Sz a
def oZ (a : List Nat) (b : Nat) : List Nat × List Nat × Unit := (lb (nv a / b), lb (nv a % b), ())
noncomputable def mY (rest_9 : Nat) (q_10 : (List Nat)) : Option (((List Nat) × ((List Nat) × Unit))) :=
 some ((cK q_10), (cK ([rest_9] : List Nat)), ())
noncomputable def jH (a_0 : (List Nat)) (b_1 : Nat) (rest_11 : Nat) (i_12 : Int) (q_13 : (List Nat)) : Option ((Nat × Int × (List Nat)) ⊕ ((Nat × (List Nat)))) :=
 if (0 : Int) ≤ i_12 then ck (0 ≤ i_12 ∧ i_12 < (((a_0.length) : Nat) : Int)) (ck ((tE rest_11 (a_0.getD (i_12.toNat) (0 : Nat)) b_1)) (ck (0 ≤ i_12 ∧ i_12 < (((q_13.length) : Nat) : Int)) (ck (I64 (i_12 - (1 : Int))) (some (.inl ((((iN rest_11 (a_0.getD (i_12.toNat) (0 : Nat)) b_1).2).1), (i_12 - (1 : Int)), (q_13.set (i_12.toNat) ((iN rest_11 (a_0.getD (i_12.toNat) (0 : Nat)) b_1).1)))))))) else some (.inr (rest_11, q_13))
noncomputable def sG (a_0 : (List Nat)) (b_1 : Nat) : Option ((List Nat) × ((List Nat) × Unit)) :=
 ck (0 ≤ (((a_0.length) : Nat) : Int)) (ck ((8 : Int) * (((a_0.length) : Nat) : Int) ≤ 281474976710656) (ck (I64 ((((a_0.length) : Nat) : Int) - (1 : Int))) ((dC (fun d : Nat × Int × (List Nat) => jH a_0 b_1 d.1 d.2.1 d.2.2) ((0 : Nat), ((((a_0.length) : Nat) : Int) - (1 : Int)), (List.replicate (a_0.length) (0 : Nat)))).bind (fun e => mY e.1 e.2))))
structure aKc (a : List Nat) (b : Nat) (rest : Nat) (i : Int) (q : List Nat) : Prop where
 i0 : -1 ≤ i
 i1 : i < a.length
 len : q.length = a.length
 lm : Lm q
 sum : nv q = nv a / 18446744073709551616 ^ (i + 1).toNat / b * 18446744073709551616 ^ (i + 1).toNat
 res : rest = nv a / 18446744073709551616 ^ (i + 1).toNat % b
theorem aLC {a : List Nat} {b rest : Nat} {i : Int} {q : List Nat} (la : Lm a) (hb : b ≠ 0) (h : aKc a b rest i q) (hi : 0 ≤ i) :
  rest < b ∧ aKc a b ((rest * 18446744073709551616 + a.getD i.toNat 0) % b) (i - 1) (q.set i.toNat ((rest * 18446744073709551616 + a.getD i.toNat 0) / b)) := by
 have h1 := h.i1
 have hl := h.len
 have hr : rest < b := by rw [h.res]; exact Nat.mod_lt _ (by omega)
 have hx := eI la i.toNat
 have e1 : (i + 1).toNat = i.toNat + 1 := by omega
 have e2 : (i - 1 + 1).toNat = i.toNat := by omega
 have hN : nv a / 18446744073709551616 ^ i.toNat = nv a / 18446744073709551616 ^ (i.toNat + 1) * 18446744073709551616 + a.getD i.toNat 0 := by
  rw [mR la, Nat.pow_succ, ← Nat.div_div_eq_div_mul, Nat.mul_comm, Nat.div_add_mod]
 obtain ⟨d1, d2⟩ := aOg (V := b) (N := nv a / 18446744073709551616 ^ (i.toNat + 1)) (W := 18446744073709551616) (un0 := a.getD i.toNat 0) (by omega)
 have hs := h.sum
 have hres := h.res
 rw [e1] at hs hres
 rw [← hres, ← hN] at d1 d2
 have hz : q.getD i.toNat 0 = 0 := by
  rw [mR h.lm, hs, Nat.pow_succ, Nat.mul_comm (18446744073709551616 ^ i.toNat) 18446744073709551616, ← Nat.mul_assoc, Nat.mul_div_cancel _ (Nat.pow_pos (by decide)), Nat.mul_mod_left]
 have hv : (rest * 18446744073709551616 + a.getD i.toNat 0) / b < 18446744073709551616 := by
  refine (Nat.div_lt_iff_lt_mul (by omega)).2 ?_
  have := Nat.mul_le_mul_right 18446744073709551616 (show rest + 1 ≤ b from hr)
  rw [Nat.mul_comm 18446744073709551616]; omega
 refine ⟨hr, by omega, by omega, by rw [List.length_set]; exact hl, sU h.lm _ hv, ?_, ?_⟩
 ·have hn := wS (a := q) (k := i.toNat) (v := (rest * 18446744073709551616 + a.getD i.toNat 0) / b) (by omega)
  rw [hz, Nat.mul_zero, Nat.add_zero] at hn
  rw [e2, ← d1, hn, hs, Nat.pow_succ, Nat.mul_comm (18446744073709551616 ^ i.toNat) 18446744073709551616, ← Nat.mul_assoc, Nat.mul_comm (18446744073709551616 ^ i.toNat), Nat.add_mul]
 ·rw [e2, d2]
theorem aH8 (a : List Nat) (wa : (Ty.sl (.u .u64)).wf a) (b : Nat) (wb : (Ty.u .u64).wf b) (hp : aAV a b) : sG a b = some (oZ a b) := by
 have la := qN wa
 obtain ⟨hb, sa⟩ := hp
 have sa : a.length ≤ 1099511627776 := sa
 unfold sG oZ
 have key := gU (step := fun d : Nat × Int × (List Nat) => jH a b d.1 d.2.1 d.2.2) (I := fun d => aKc a b d.1 d.2.1 d.2.2) (fun d => (d.2.1 + 1).toNat) (fun e => e.1 = nv a % b ∧ nv e.2 = nv a / b) ?_ (0, (a.length : Int) - 1, List.replicate a.length 0) ?_
 ·obtain ⟨e, h1, h2, h3⟩ := key
  refine aB (by omega) (aB (by omega) (aB (by constructor <;> omega) (cE h1 ?_)))
  unfold mY
  rw [cK, cK, h3, h2]
  rfl
 ·rintro ⟨rest, i, q⟩ h
  have h : aKc a b rest i q := h
  have h1 := h.i1
  have hl := h.len
  show (∃ d', jH a b rest i q = _ ∧ _) ∨ ∃ e, jH a b rest i q = _ ∧ _
  unfold jH
  by_cases hi : 0 ≤ i
  ·left
   obtain ⟨s1, s2⟩ := aLC la hb h hi
   rw [if_pos hi]
   refine ⟨(_, _, _), aB (by constructor <;> omega) (aB s1 (aB (by constructor <;> omega) (aB (by constructor <;> omega) rfl))), s2, by simp only; omega⟩
  ·right
   refine ⟨(rest, q), by rw [if_neg hi], ?_⟩
   have h0 := h.i0
   have hs := h.sum
   have hr := h.res
   rw [show (i + 1).toNat = 0 from by omega, Nat.pow_zero, Nat.div_one] at hs hr
   exact ⟨hr, by rw [hs, Nat.mul_one]⟩
 ·have e : ((a.length : Int) - 1 + 1).toNat = a.length := by omega
  have hz : nv a / 18446744073709551616 ^ a.length = 0 := Nat.div_eq_of_lt (iG la)
  exact ⟨by simp only; omega, by simp only; omega, by simp, aDL _, by simp only; rw [e, hz, aDK, Nat.zero_div, Nat.zero_mul], by simp only; rw [e, hz, Nat.zero_mod]⟩
end Nu
end Go.Proofs
namespace Go.Proofs
open Go.Vc
set_option maxRecDepth 20000
namespace Nu
def aBF : PlR := ⟨[(0, .A [0, 2]), (1, .A [0, 2, 4]), (2, .A [0]), (3, .A [0, 2]), (4, .A [0, 2, 8]), (5, .A [0, 2]), (6, .A [0, 2]), (7, .A [0, 2, 14]), (8, .A [0, 2]), (9, .A [0, 2]), (10, .A [2])], [(4, 7), (7, 10), (10, 13)]⟩
def zE : Ty := .pair (.u .u64) .unit
noncomputable def mE : aL := ⟨zE, .one (.i .i64), fun _ => True, fun x => cQ x.1⟩
attribute [go_sem] mE zE
noncomputable def aH9 : aL := mSpec zE (.one (.i .i64)) (fun x => pY x.1)
noncomputable def aKd : List (FuncId × aL) := []
theorem aKe : bW Tryz.prog GL aKd := .nil
attribute [go_sem] aBF
set_option maxHeartbeats 4000000 in
theorem aIa : FOK Tryz.prog GL 158 aH9 := by
 refine cG (bI aKe) mix Tryz.func158 rfl (by kernel_rfl) (by decide) aBF fun w0 S x Θ hw h hF => ?_
 obtain ⟨(x_0 : Nat), u⟩ := x
 simp only [cF, go_sem]
 replace h : sat (pY x_0) _ := h
 unfold pY at h
 refine cP hF (D := Nat × Int) (fun d => sat (gY d.1 d.2) Θ) [] (fun d => [(0, .val (.u .u64) d.1), (2, .val (.i .i64) d.2)]) (fun d => []) ?_ ?_
 ·simp only [go_sem]
  refine fP h (fun hc h => ?_) fun hc h => ?_
  ·exact aY (((x_0 / (4294967296 : Nat)), (32 : Int))) h rfl (by simp only [go_sem])
  ·exact aY ((x_0, (0 : Int))) h rfl (by simp only [go_sem])
 ·rintro ⟨x_2, n_3⟩ h
  simp only [go_sem]
  replace h : sat (gY x_2 n_3) _ := h
  unfold gY at h
  refine cP hF (D := Nat × Int) (fun d => sat (gX d.1 d.2) Θ) [] (fun d => [(0, .val (.u .u64) d.1), (2, .val (.i .i64) d.2)]) (fun d => []) ?_ ?_
  ·simp only [go_sem]
   refine fP h (fun hc h => ?_) fun hc h => ?_
   ·refine aM h fun g0 h => ?_
    exact aY (((x_2 / (65536 : Nat)), (n_3 + (16 : Int)))) h rfl (by simp only [go_sem])
   ·exact aY ((x_2, n_3)) h rfl (by simp only [go_sem])
  ·rintro ⟨x_4, n_5⟩ h
   simp only [go_sem]
   replace h : sat (gX x_4 n_5) _ := h
   unfold gX at h
   refine cP hF (D := Nat × Int) (fun d => sat (gW d.1 d.2) Θ) [] (fun d => [(0, .val (.u .u64) d.1), (2, .val (.i .i64) d.2)]) (fun d => []) ?_ ?_
   ·simp only [go_sem]
    refine fP h (fun hc h => ?_) fun hc h => ?_
    ·refine aM h fun g0 h => ?_
     exact aY (((x_4 / (256 : Nat)), (n_5 + (8 : Int)))) h rfl (by simp only [go_sem])
    ·exact aY ((x_4, n_5)) h rfl (by simp only [go_sem])
   ·rintro ⟨x_6, n_7⟩ h
    simp only [go_sem]
    replace h : sat (gW x_6 n_7) _ := h
    unfold gW at h
    refine aM h fun g0 h => aM h fun g1 h => ?_
    exact aS hF [.tmp 2] rfl rfl rfl (aC h) (by simp only [bA, go_sem])
theorem aBG : FOK Tryz.prog GL 158 mE := dU aIa (fun ⟨x0, u⟩ ⟨w0, wu⟩ hp => aGG x0 w0)
def qB : PlR := ⟨[(0, .A [0]), (1, .A [2])], []⟩
def mO : Ty := .pair (.u .u64) .unit
noncomputable def cR : aL := ⟨mO, .one (.i .i64), fun _ => True, fun x => aA x.1⟩
attribute [go_sem] cR mO
noncomputable def zF : aL := mSpec mO (.one (.i .i64)) (fun x => fT x.1)
noncomputable def qO : List (FuncId × aL) := [(158, mE)]
theorem aAp : bW Tryz.prog GL qO := .cons aBG (by kernel_rfl) (.nil)
theorem vI : gam qO 158 = some mE := rfl
attribute [go_sem] qB vI
set_option maxHeartbeats 4000000 in
theorem zG : FOK Tryz.prog GL 122 zF := by
 refine cG (bI aAp) mix Tryz.func122 rfl (by kernel_rfl) (by decide) qB fun w0 S x Θ hw h hF => ?_
 obtain ⟨(x_0 : Nat), u⟩ := x
 simp only [cF, go_sem]
 replace h : sat (fT x_0) _ := h
 unfold fT at h
 refine aM h fun g0 h => ?_
 exact aS hF [.tmp 2] rfl rfl rfl (aC h) (by simp only [bA, go_sem])
theorem lR : FOK Tryz.prog GL 122 cR := dU zG (fun ⟨x0, u⟩ ⟨w0, wu⟩ hp => xT x0 w0)
def pA : PlR := ⟨[(0, .A [0]), (1, .A [0, 4]), (2, .A [2]), (3, .A [2])], []⟩
def lS : Ty := .pair (.u .u64) .unit
noncomputable def gQ : aL := ⟨lS, .one (.i .i64), fun _ => True, fun x => eD x.1⟩
attribute [go_sem] gQ lS
noncomputable def xX : aL := mSpec lS (.one (.i .i64)) (fun x => fL x.1)
noncomputable def zH : List (FuncId × aL) := []
theorem zI : bW Tryz.prog GL zH := .nil
attribute [go_sem] pA
set_option maxHeartbeats 4000000 in
theorem xY : FOK Tryz.prog GL 131 xX := by
 refine cG (bI zI) mix Tryz.func131 rfl (by kernel_rfl) (by decide) pA fun w0 S x Θ hw h hF => ?_
 obtain ⟨(x_0 : Nat), u⟩ := x
 simp only [cF, go_sem]
 replace h : sat (fL x_0) _ := h
 unfold fL at h
 refine fP h (fun hc h => ?_) fun hc h => ?_
 ·exact aS hF [.tmp 2] rfl rfl rfl (aC h) (by simp only [bA, go_sem])
 ·refine aM h fun g0 h => ?_
  exact aS hF [.tmp 2] rfl rfl rfl (aC h) (by simp only [bA, go_sem])
theorem xZ : FOK Tryz.prog GL 131 gQ := dU xY (fun ⟨x0, u⟩ ⟨w0, wu⟩ hp => wT x0 w0)
def aBH : PlR := ⟨[(0, .A [0, 1]), (1, .A [0, 1, 6]), (2, .A [0, 1, 6, 7]), (3, .A [0, 1, 6, 7, 8]), (4, .A [0, 1, 6, 7, 8, 9]), (5, .A [0, 1, 6, 7, 8, 9, 10]), (6, .A [0, 1, 6, 7, 9, 11]), (7, .A [0, 1, 6, 7, 9, 11, 12]), (8, .A [0, 1, 6, 7, 9, 12, 13]), (9, .A [0, 1, 7, 9, 12, 13]), (10, .A [0, 1, 4]), (11, .A [4, 5])], []⟩
def zJ : Ty := .pair (.u .u64) (.pair (.u .u64) .unit)
noncomputable def iT : aL := ⟨zJ, .tup (.pair (.u .u64) (.pair (.u .u64) .unit)), fun _ => True, fun x => bH x.1 x.2.1⟩
attribute [go_sem] iT zJ
noncomputable def aIb : aL := mSpec zJ (.tup (.pair (.u .u64) (.pair (.u .u64) .unit))) (fun x => pZ x.1 x.2.1)
noncomputable def aKf : List (FuncId × aL) := []
theorem aKg : bW Tryz.prog GL aKf := .nil
attribute [go_sem] aBH
set_option maxHeartbeats 4000000 in
theorem aIc : FOK Tryz.prog GL 126 aIb := by
 refine cG (bI aKg) mix Tryz.func126 rfl (by kernel_rfl) (by decide) aBH fun w0 S x Θ hw h hF => ?_
 obtain ⟨(x_0 : Nat), (y_1 : Nat), u⟩ := x
 simp only [cF, go_sem]
 replace h : sat (pZ x_0 y_1) _ := h
 unfold pZ at h
 exact aS hF [.tmp 4, .tmp 5] rfl rfl rfl (aC h) (by simp only [bA, go_sem])
theorem wU : FOK Tryz.prog GL 126 iT := dU aIc (fun ⟨x0, x1, u⟩ ⟨w0, w1, wu⟩ hp => aGH x0 w0 x1 w1)
end Nu
end Go.Proofs
namespace Go.Proofs
open Go.Vc
set_option maxRecDepth 20000
namespace Nu
def aEq : PlR := ⟨[(0, .A [0]), (1, .A [0, 14]), (2, .A [0]), (3, .A [2])], []⟩
def aB7 : Ty := .pair (.sl (.u .u64)) .unit
noncomputable def dJ : aL := ⟨aB7, .one (.sl (.u .u64)), fun _ => True, fun x => cK x.1⟩
attribute [go_sem] dJ aB7
noncomputable def aLD : aL := mSpec aB7 (.one (.sl (.u .u64))) (fun x => uS x.1)
noncomputable def aMT : List (FuncId × aL) := []
theorem aMU : bW Tryz.prog GL aMT := .nil
attribute [go_sem] aEq
set_option maxHeartbeats 4000000 in
theorem aLE : FOK Tryz.prog GL 125 aLD := by
 refine cG (bI aMU) mix Tryz.func125 rfl (by kernel_rfl) (by decide) aEq fun w0 S x Θ hw h hF => ?_
 obtain ⟨(a_0 : (List Nat)), u⟩ := x
 simp only [cF, go_sem]
 replace h : sat (uS a_0) _ := h
 unfold uS at h
 refine dF hF (D := (List Nat)) [] (fun d => [(0, .val (.sl (.u .u64)) d)]) (fun d => []) h rfl (by simp only [go_sem]) ?_
 rintro a_4 A1 T1 hA1 hE1 h
 simp only [go_sem]
 replace h : sat (rO a_4) _ := h
 unfold rO at h
 refine aM h fun g0 h => aM h fun g1 h => ?_
 refine ⟨fun hc => ?_, fun hc => ?_⟩
 ·replace h := iE hc h
  refine aM h fun g0 h => aM h fun g1 h => ?_
  replace h := hA1 _ (aC h)
  exact aY _ h rfl (by simp only [go_sem])
 ·replace h := iF hc h
  replace h := hE1 _ (aC h)
  try dsimp only at h
  exact aS hF [.tmp 2] rfl rfl rfl (aC h) (by simp only [bA, go_sem])
theorem mZ : FOK Tryz.prog GL 125 dJ := dU aLE (fun ⟨x0, u⟩ ⟨w0, wu⟩ hp => aJ5 x0 w0)
def aGK : PlR := ⟨[(0, .A [0]), (1, .A [2])], []⟩
def aDN : Ty := .pair (.sl (.u .u64)) .unit
noncomputable def zK : aL := ⟨aDN, .one .bool, fun _ => True, fun x => xV x.1⟩
attribute [go_sem] zK aDN
noncomputable def aMV : aL := mSpec aDN (.one .bool) (fun x => xU x.1)
noncomputable def aO9 : List (FuncId × aL) := []
theorem aPa : bW Tryz.prog GL aO9 := .nil
attribute [go_sem] aGK
set_option maxHeartbeats 4000000 in
theorem aMW : FOK Tryz.prog GL 81 aMV := by
 refine cG (bI aPa) mix Tryz.func81 rfl (by kernel_rfl) (by decide) aGK fun w0 S x Θ hw h hF => ?_
 obtain ⟨(a_0 : (List Nat)), u⟩ := x
 simp only [cF, go_sem]
 replace h : sat (xU a_0) _ := h
 unfold xU at h
 obtain ⟨g0, h⟩ := aI h
 obtain ⟨g1, h⟩ := aI h
 repeat (refine ⟨by omega, ?_⟩)
 exact aS hF [.tmp 2] rfl rfl rfl (aC h) (by simp only [bA, go_sem])
theorem aMX : FOK Tryz.prog GL 81 zK := dU aMW (fun ⟨x0, u⟩ ⟨w0, wu⟩ hp => aLy x0 w0)
def aEr : PlR := ⟨[(0, .A [0]), (1, .A [3]), (2, .A [2]), (3, .A [2])], []⟩
def aB8 : Ty := .pair .bool .unit
noncomputable def vV : aL := ⟨aB8, .one (.i .i64), fun _ => True, fun x => oT x.1⟩
attribute [go_sem] vV aB8
noncomputable def aLF : aL := mSpec aB8 (.one (.i .i64)) (fun x => uT x.1)
noncomputable def aMY : List (FuncId × aL) := []
theorem aMZ : bW Tryz.prog GL aMY := .nil
attribute [go_sem] aEr
set_option maxHeartbeats 4000000 in
theorem aLG : FOK Tryz.prog GL 156 aLF := by
 refine cG (bI aMZ) mix Tryz.func156 rfl (by kernel_rfl) (by decide) aEr fun w0 S x Θ hw h hF => ?_
 obtain ⟨(less_0 : Bool), u⟩ := x
 simp only [cF, go_sem]
 replace h : sat (uT less_0) _ := h
 unfold uT at h
 refine aQe h (fun hc h => ?_) fun hc h => ?_
 ·exact aS hF [.tmp 2] rfl rfl rfl (aC h) (by simp only [bA, go_sem])
 ·exact aS hF [.tmp 2] rfl rfl rfl (aC h) (by simp only [bA, go_sem])
theorem aLH : FOK Tryz.prog GL 156 vV := dU aLG (fun ⟨x0, u⟩ ⟨w0, wu⟩ hp => aJ6 x0 w0)
def aCQ : PlR := ⟨[(0, .A [0, 1]), (1, .A [0, 1, 10]), (2, .A [4]), (3, .A [0, 1, 5]), (4, .A [0, 1, 5, 21]), (5, .A [0, 1, 5]), (6, .A [0, 1, 5, 32]), (7, .A [4]), (8, .A [4])], []⟩
def aAW : Ty := .pair (.sl (.u .u64)) (.pair (.sl (.u .u64)) .unit)
noncomputable def nP : aL := ⟨aAW, .one (.i .i64), fun x => aOb x.1 x.2.1, fun x => lH x.1 x.2.1⟩
attribute [go_sem] nP aAW
noncomputable def aKh : aL := mSpec aAW (.one (.i .i64)) (fun x => sC x.1 x.2.1)
noncomputable def aEs : List (FuncId × aL) := [(156, vV)]
theorem aLI : bW Tryz.prog GL aEs := .cons aLH (by kernel_rfl) (.nil)
theorem aE8 : gam aEs 156 = some vV := rfl
attribute [go_sem] aCQ aE8
set_option maxHeartbeats 4000000 in
theorem aKi : FOK Tryz.prog GL 119 aKh := by
 refine cG (bI aLI) mix Tryz.func119 rfl (by kernel_rfl) (by decide) aCQ fun w0 S x Θ hw h hF => ?_
 obtain ⟨(a_0 : (List Nat)), (b_1 : (List Nat)), u⟩ := x
 simp only [cF, go_sem]
 replace h : sat (sC a_0 b_1) _ := h
 unfold sC at h
 refine ⟨fun hc => ?_, fun hc => ?_⟩
 ·replace h := iE hc h
  exact aS hF [.tmp 4] rfl rfl rfl (aC h) (by simp only [bA, go_sem])
 ·replace h := iF (by first | exact hc | omega | simpa using hc) h
  refine aM h fun g0 h => ?_
  refine dF hF (D := Int) [0, 1] (fun d => [(5, .val (.i .i64) d)]) (fun d => []) h rfl (by simp only [go_sem]) ?_
  rintro i_5 A4 T4 hA4 hE4 h
  simp only [go_sem]
  replace h : sat (mV a_0 b_1 i_5) _ := h
  unfold mV at h
  refine aMK h (fun hc h => ?_) fun hc h => ?_
  ·refine aM h fun g0 h => aM h fun g1 h => ?_
   refine ⟨fun hc => ?_, fun hc => ?_⟩
   ·replace h := iE hc h
    refine aM h fun g0 h => aM h fun g1 h => ?_
    replace h := hE4 _ (aC h)
    try dsimp only at h
    exact aS hF [.tmp 4] rfl rfl rfl (aC h) (by simp only [bA, go_sem])
   ·replace h := iF (by first | exact hc | omega | simpa using hc) h
    refine aM h fun g0 h => ?_
    replace h := hA4 _ (aC h)
    exact aY _ h rfl (by simp only [go_sem])
  ·replace h := hE4 _ (aC h)
   try dsimp only at h
   exact aS hF [.tmp 4] rfl rfl rfl (aC h) (by simp only [bA, go_sem])
theorem aCR : FOK Tryz.prog GL 119 nP := dU aKi (fun ⟨x0, x1, u⟩ ⟨w0, w1, wu⟩ hp => aH4 x0 w0 x1 w1 hp)
def aEt : PlR := ⟨[(0, .A [0]), (1, .A [0, 5]), (2, .A [2]), (3, .A [2])], []⟩
def aB9 : Ty := .pair (.sl (.u .u64)) .unit
noncomputable def iU : aL := ⟨aB9, .one (.i .i64), fun x => aEl x.1, fun x => aT x.1⟩
attribute [go_sem] iU aB9
noncomputable def aLJ : aL := mSpec aB9 (.one (.i .i64)) (fun x => uU x.1)
noncomputable def aGL : List (FuncId × aL) := [(122, cR)]
theorem aM0 : bW Tryz.prog GL aGL := .cons lR (by kernel_rfl) (.nil)
theorem aGM : gam aGL 122 = some cR := rfl
attribute [go_sem] aEt aGM
set_option maxHeartbeats 4000000 in
theorem aLK : FOK Tryz.prog GL 89 aLJ := by
 refine cG (bI aM0) mix Tryz.func89 rfl (by kernel_rfl) (by decide) aEt fun w0 S x Θ hw h hF => ?_
 obtain ⟨(a_0 : (List Nat)), u⟩ := x
 simp only [cF, go_sem]
 replace h : sat (uU a_0) _ := h
 unfold uU at h
 refine fP h (fun hc h => ?_) fun hc h => ?_
 ·exact aS hF [.tmp 2] rfl rfl rfl (aC h) (by simp only [bA, go_sem])
 ·refine aM h fun g0 h => aM h fun g1 h => aM h fun g2 h => aM h fun g3 h => ?_
  exact aS hF [.tmp 2] rfl rfl rfl (aC h) (by simp only [bA, go_sem])
theorem vW : FOK Tryz.prog GL 89 iU := dU aLK (fun ⟨x0, u⟩ ⟨w0, wu⟩ hp => aJ7 x0 w0 hp)
def aCS : PlR := ⟨[(0, .A [0]), (1, .A [5, 6, 7]), (2, .A [5, 6, 7, 8]), (3, .A [3, 4, 5, 6, 7]), (4, .A [3, 4, 5, 6, 7, 13]), (5, .A [2]), (6, .A [5, 6, 7]), (7, .A [2])], []⟩
def aAX : Ty := .pair (.sl (.u .u64)) .unit
noncomputable def kA : aL := ⟨aAX, .one (.i .i64), fun x => pSz x.1, fun x => bS x.1⟩
attribute [go_sem] kA aAX
noncomputable def aKj : aL := mSpec aAX (.one (.i .i64)) (fun x => sD x.1)
noncomputable def aEu : List (FuncId × aL) := [(131, gQ)]
theorem aLL : bW Tryz.prog GL aEu := .cons xZ (by kernel_rfl) (.nil)
theorem aE9 : gam aEu 131 = some gQ := rfl
attribute [go_sem] aCS aE9
set_option maxHeartbeats 4000000 in
theorem aKk : FOK Tryz.prog GL 70 aKj := by
 refine cG (bI aLL) mix Tryz.func70 rfl (by kernel_rfl) (by decide) aCS fun w0 S x Θ hw h hF => ?_
 obtain ⟨(a_0 : (List Nat)), u⟩ := x
 simp only [cF, go_sem]
 replace h : sat (sD a_0) _ := h
 unfold sD at h
 refine dF hF (D := Int) [5, 6] (fun d => [(7, .val (.i .i64) d)]) (fun d => []) h rfl (by simp only [go_sem]) ?_
 rintro x7_4 A2 T2 hA2 hE2 h
 simp only [go_sem]
 replace h : sat (mW a_0 x7_4) _ := h
 unfold mW at h
 refine gV h (fun hc h => ?_) fun hc h => ?_
 ·refine aM h fun g0 h => ?_
  refine ⟨fun hc => ?_, fun hc => ?_⟩
  ·replace h := iE hc h
   refine aM h fun g0 h => aM h fun g1 h => ?_
   replace h := hE2 _ (aC h)
   try dsimp only at h
   exact aS hF [.tmp 2] rfl rfl rfl (aC h) (by simp only [bA, go_sem])
  ·replace h := iF (by first | exact hc | omega | simpa using hc) h
   refine aM h fun g0 h => ?_
   replace h := hA2 _ (aC h)
   exact aY _ h rfl (by simp only [go_sem])
 ·replace h := hE2 _ (aC h)
  try dsimp only at h
  exact aS hF [.tmp 2] rfl rfl rfl (aC h) (by simp only [bA, go_sem])
theorem zL : FOK Tryz.prog GL 70 kA := dU aKk (fun ⟨x0, u⟩ ⟨w0, wu⟩ hp => aH5 x0 w0 hp)
def aEv : PlR := ⟨[(0, .A [0, 1]), (1, .A [0, 1, 13]), (2, .A [0, 1]), (3, .B [1, 5]), (4, .A [1, 5, 6]), (5, .A [1, 5, 6, 21, 22]), (6, .A [1, 5, 6, 21, 22, 23]), (7, .A [1, 5, 6, 7, 21, 22]), (8, .A [1, 5, 6, 7, 8, 21, 22]), (9, .A [1, 5, 6, 7, 8, 21, 22, 25]), (10, .A [1, 5, 6, 7, 8, 21, 22]), (11, .A [1, 5, 6, 7, 8, 21, 22, 34]), (12, .B [1, 5, 6, 21, 22]), (13, .A [1, 5, 6, 21, 22]), (14, .B [4])], [(4, 6), (12, 15)]⟩
def aCa : Ty := .pair (.sl (.u .u64)) (.pair (.sl (.u .u64)) .unit)
noncomputable def lI : aL := ⟨aCa, .one (.sl (.u .u64)), fun x => aCO x.1 x.2.1, fun x => fM x.1 x.2.1⟩
attribute [go_sem] lI aCa
noncomputable def aLM : aL := mSpec aCa (.one (.sl (.u .u64))) (fun x => uX x.1 x.2.1)
noncomputable def zM : List (FuncId × aL) := [(120, bN), (125, dJ), (127, iS)]
theorem aM1 : bW Tryz.prog GL zM := .cons fK (by kernel_rfl) (.cons mZ (by kernel_rfl) (.nat wQ (.nil)))
theorem aGN : gam zM 120 = some bN := rfl
theorem aGO : gam zM 125 = some dJ := rfl
theorem aGP : gam zM 127 = some iS := rfl
attribute [go_sem] aEv aGN aGO aGP
set_option maxHeartbeats 4000000 in
theorem aLN : FOK Tryz.prog GL 71 aLM := by
 refine cG (bI aM1) mix Tryz.func71 rfl (by kernel_rfl) (by decide) aEv fun w0 S x Θ hw h hF => ?_
 obtain ⟨(a_0 : (List Nat)), (b_1 : (List Nat)), u⟩ := x
 simp only [cF, go_sem]
 replace h : sat (uX a_0 b_1) _ := h
 unfold uX at h
 refine cP hF (D := (List Nat) × (List Nat)) (fun d => sat (kK d.1 d.2) Θ) [] (fun d => [(0, .val (.sl (.u .u64)) d.1), (1, .val (.sl (.u .u64)) d.2)]) (fun d => []) ?_ ?_
 ·simp only [go_sem]
  refine gV h (fun hc h => ?_) fun hc h => ?_
  ·exact aY ((b_1, a_0)) h rfl (by simp only [go_sem])
  ·exact aY ((a_0, b_1)) h rfl (by simp only [go_sem])
 ·rintro ⟨a_3, b_4⟩ h
  simp only [go_sem]
  replace h : sat (kK a_3 b_4) _ := h
  unfold kK at h
  refine aM h fun g0 h => ?_
  obtain ⟨g0, h⟩ := aI h
  repeat (refine ⟨by omega, ?_⟩)
  refine aNO [1] rfl rfl ?_
  simp only [go_sem]
  refine dF hF (D := Nat × Int × (List Nat)) [1, 21] (fun d => [(5, .own 0), (6, .val (.u .u64) d.1), (22, .val (.i .i64) d.2.1)]) (fun d => [.inr (.row 54 (.u .u64) d.2.2)]) h rfl (by simp only [go_sem]) ?_
  rintro ⟨carry_12, x22_13, out_14⟩ A6 T6 hA6 hE6 h
  simp only [go_sem]
  replace h : sat (kJ a_3 b_4 carry_12 x22_13 out_14) _ := h
  unfold kJ at h
  refine gV h (fun hc h => ?_) fun hc h => ?_
  ·refine cP hF (D := Nat) (fun d => sat (kI x22_13 out_14 carry_12 d) T6) [1, 6, 7, 21, 22] (fun d => [(5, .own 0), (8, .val (.u .u64) d)]) (fun d => [.inr (.row 54 (.u .u64) out_14)]) ?_ ?_
   ·simp only [go_sem]
    refine gV h (fun hc h => ?_) fun hc h => ?_
    ·obtain ⟨g0, h⟩ := aI h
     repeat (refine ⟨by omega, ?_⟩)
     exact aY ((b_4.getD (x22_13.toNat) (0 : Nat))) h rfl (by simp only [go_sem])
    ·refine fP h (fun hc h => ?_) fun hc h => ?_
     ·replace h := hE6 _ (aC h)
      try dsimp only at h
      exact aS hF [.tmp 4] rfl rfl rfl (aC h) (by simp only [bA, go_sem])
     ·exact aY ((0 : Nat)) h rfl (by simp only [go_sem])
   ·rintro x_21 h
    simp only [go_sem]
    replace h : sat (kI x22_13 out_14 carry_12 x_21) _ := h
    unfold kI at h
    obtain ⟨g0, h⟩ := aI h
    repeat (refine ⟨by omega, ?_⟩)
    obtain ⟨g0, h⟩ := aI h
    repeat (refine ⟨by omega, ?_⟩)
    obtain ⟨g0, h⟩ := aI h
    repeat (refine ⟨by omega, ?_⟩)
    refine aM h fun g0 h => ?_
    replace h := hA6 _ (aC h)
    exact aY _ h rfl (by simp only [go_sem])
  ·replace h := hE6 _ (aC h)
   try dsimp only at h
   exact aS hF [.tmp 4] rfl rfl rfl (aC h) (by simp only [bA, go_sem])
theorem aAY : FOK Tryz.prog GL 71 lI := dU aLN (fun ⟨x0, x1, u⟩ ⟨w0, w1, wu⟩ hp => aJ8 x0 w0 x1 w1 hp)
def aEw : PlR := ⟨[(0, .A [0]), (1, .B [2])], []⟩
def aCb : Ty := .pair (.sl (.u .u64)) .unit
noncomputable def pB : aL := ⟨aCb, .one (.sl (.u .u64)), fun x => pSz x.1, fun x => lQ x.1⟩
attribute [go_sem] pB aCb
noncomputable def aLO : aL := mSpec aCb (.one (.sl (.u .u64))) (fun x => uY x.1)
noncomputable def aCc : List (FuncId × aL) := [(120, bN), (125, dJ)]
theorem aM2 : bW Tryz.prog GL aCc := .cons fK (by kernel_rfl) (.cons mZ (by kernel_rfl) (.nil))
theorem aGQ : gam aCc 120 = some bN := rfl
theorem aGR : gam aCc 125 = some dJ := rfl
attribute [go_sem] aEw aGQ aGR
set_option maxHeartbeats 4000000 in
theorem aLP : FOK Tryz.prog GL 85 aLO := by
 refine cG (bI aM2) mix Tryz.func85 rfl (by kernel_rfl) (by decide) aEw fun w0 S x Θ hw h hF => ?_
 obtain ⟨(a_0 : (List Nat)), u⟩ := x
 simp only [cF, go_sem]
 replace h : sat (uY a_0) _ := h
 unfold uY at h
 refine aM h fun g0 h => ?_
 exact aS hF [.tmp 2] rfl rfl rfl (aC h) (by simp only [bA, go_sem])
theorem aEx : FOK Tryz.prog GL 85 pB := dU aLP (fun ⟨x0, u⟩ ⟨w0, wu⟩ hp => aJ9 x0 w0 hp)
end Nu
end Go.Proofs
namespace Go.Proofs
open Go.Vc
set_option maxRecDepth 20000
namespace Nu
def aCT : PlR := ⟨[(0, .A [0, 1]), (1, .B [0, 1, 5]), (2, .A [1, 5, 20, 21, 22]), (3, .A [1, 5, 20, 21, 22, 23]), (4, .A [1, 5, 6, 7, 20, 21, 22]), (5, .A [1, 5, 6, 7, 8, 20, 21, 22]), (6, .A [1, 5, 6, 7, 8, 20, 21, 22, 27, 28, 29]), (7, .A [1, 5, 6, 7, 8, 20, 21, 22, 27, 28, 29, 30]), (8, .A [1, 5, 6, 7, 8, 9, 10, 20, 21, 22, 27, 28, 29]), (9, .A [1, 5, 6, 7, 8, 9, 11, 12, 20, 21, 22, 27, 28, 29]), (10, .A [1, 5, 6, 7, 8, 9, 11, 12, 20, 21, 22, 27, 28, 29]), (11, .A [1, 5, 6, 7, 9, 11, 12, 13, 20, 21, 22, 27, 28, 29]), (12, .A [1, 5, 6, 7, 9, 11, 12, 20, 21, 22, 27, 28, 29]), (13, .B [1, 5, 6, 7, 11, 13, 20, 21, 22, 27, 28, 29]), (14, .A [1, 5, 6, 7, 8, 20, 21, 22, 27, 28, 29]), (15, .A [1, 5, 6, 7, 8, 20, 21, 22, 27, 28, 29]), (16, .B [1, 5, 20, 21, 22]), (17, .A [1, 5, 20, 21, 22]), (18, .B [4])], [(9, 19)]⟩
def aAZ : Ty := .pair (.sl (.u .u64)) (.pair (.sl (.u .u64)) .unit)
noncomputable def dS : aL := ⟨aAZ, .one (.sl (.u .u64)), fun x => aCO x.1 x.2.1, fun x => aZ x.1 x.2.1⟩
attribute [go_sem] dS aAZ
noncomputable def aKl : aL := mSpec aAZ (.one (.sl (.u .u64))) (fun x => sE x.1 x.2.1)
noncomputable def vX : List (FuncId × aL) := [(125, dJ), (126, iT), (127, iS)]
theorem aLQ : bW Tryz.prog GL vX := .cons mZ (by kernel_rfl) (.cons wU (by kernel_rfl) (.nat wQ (.nil)))
theorem aFa : gam vX 125 = some dJ := rfl
theorem aFb : gam vX 126 = some iT := rfl
theorem aFc : gam vX 127 = some iS := rfl
attribute [go_sem] aCT aFa aFb aFc
set_option maxHeartbeats 4000000 in
theorem aKm : FOK Tryz.prog GL 63 aKl := by
 refine cG (bI aLQ) mix Tryz.func63 rfl (by kernel_rfl) (by decide) aCT fun w0 S x Θ hw h hF => ?_
 obtain ⟨(a_0 : (List Nat)), (b_1 : (List Nat)), u⟩ := x
 simp only [cF, go_sem]
 replace h : sat (sE a_0 b_1) _ := h
 unfold sE at h
 refine aM h fun g0 h => ?_
 obtain ⟨g0, h⟩ := aI h
 obtain ⟨g1, h⟩ := aI h
 repeat (refine ⟨by omega, ?_⟩)
 refine dF hF (D := Int × (List Nat)) [1, 20, 21] (fun d => [(5, .own 0), (22, .val (.i .i64) d.1)]) (fun d => [.inr (.row 54 (.u .u64) d.2)]) h rfl (by simp only [go_sem]) ?_
 rintro ⟨x22_34, out_35⟩ A3 T3 hA3 hE3 h
 simp only [go_sem]
 replace h : sat (jF a_0 b_1 x22_34 out_35) _ := h
 unfold jF at h
 refine gV h (fun hc h => ?_) fun hc h => ?_
 ·obtain ⟨g0, h⟩ := aI h
  repeat (refine ⟨by omega, ?_⟩)
  refine cP hF (D := Nat × (List Nat)) (fun d => sat (mX x22_34 b_1 d.1 d.2) T3) [1, 6, 20, 21, 22] (fun d => [(5, .own 0), (8, .val (.u .u64) d.1)]) (fun d => [.inr (.row 54 (.u .u64) d.2)]) ?_ ?_
  ·simp only [go_sem]
   refine dF hF (D := Nat × Int × (List Nat)) [1, 6, 7, 20, 21, 22, 27, 28] (fun d => [(5, .own 0), (8, .val (.u .u64) d.1), (29, .val (.i .i64) d.2.1)]) (fun d => [.inr (.row 54 (.u .u64) d.2.2)]) h rfl (by simp only [go_sem]) ?_
   rintro ⟨carry_64, x29_65, out_66⟩ A7 T7 hA7 hE7 h
   simp only [go_sem]
   replace h : sat (jE b_1 a_0 x22_34 carry_64 x29_65 out_66) _ := h
   unfold jE at h
   refine gV h (fun hc h => ?_) fun hc h => ?_
   ·obtain ⟨g0, h⟩ := aI h
    repeat (refine ⟨by omega, ?_⟩)
    obtain ⟨g0, h⟩ := aI h
    repeat (refine ⟨by omega, ?_⟩)
    obtain ⟨g0, h⟩ := aI h
    repeat (refine ⟨by omega, ?_⟩)
    obtain ⟨g0, h⟩ := aI h
    repeat (refine ⟨by omega, ?_⟩)
    obtain ⟨g0, h⟩ := aI h
    repeat (refine ⟨by omega, ?_⟩)
    obtain ⟨g0, h⟩ := aI h
    repeat (refine ⟨by omega, ?_⟩)
    obtain ⟨g0, h⟩ := aI h
    repeat (refine ⟨by omega, ?_⟩)
    obtain ⟨g0, h⟩ := aI h
    repeat (refine ⟨by omega, ?_⟩)
    replace h := hA7 _ (aC h)
    exact aY _ h rfl (by simp only [go_sem])
   ·replace h := hE7 _ (aC h)
    try dsimp only at h
    exact aY ((carry_64, out_66)) h rfl (by simp only [go_sem])
  ·rintro ⟨carry_62, out_63⟩ h
   simp only [go_sem]
   replace h : sat (mX x22_34 b_1 carry_62 out_63) _ := h
   unfold mX at h
   obtain ⟨g0, h⟩ := aI h
   repeat (refine ⟨by omega, ?_⟩)
   obtain ⟨g0, h⟩ := aI h
   repeat (refine ⟨by omega, ?_⟩)
   obtain ⟨g0, h⟩ := aI h
   repeat (refine ⟨by omega, ?_⟩)
   replace h := hA3 _ (aC h)
   exact aY _ h rfl (by simp only [go_sem])
 ·replace h := hE3 _ (aC h)
  try dsimp only at h
  exact aS hF [.tmp 4] rfl rfl rfl (aC h) (by simp only [bA, go_sem])
theorem nQ : FOK Tryz.prog GL 63 dS := dU aKm (fun ⟨x0, x1, u⟩ ⟨w0, w1, wu⟩ hp => aH6 x0 w0 x1 w1 hp)
def aEy : PlR := ⟨[(0, .A [0, 1]), (1, .A [0, 1, 10]), (2, .A [4]), (3, .B [0, 1, 5]), (4, .A [1, 5, 18, 19, 20]), (5, .A [1, 5, 18, 19, 20, 21]), (6, .A [1, 5, 6, 7, 18, 19, 20]), (7, .B [1, 5, 6, 7, 18, 19, 20]), (8, .B [1, 5, 18, 19, 20]), (9, .A [1, 5, 18, 19, 20]), (10, .B [4])], []⟩
def aCd : Ty := .pair (.sl (.u .u64)) (.pair (.i .i64) .unit)
noncomputable def iV : aL := ⟨aCd, .one (.sl (.u .u64)), fun x => aEo x.1 x.2.1, fun x => bF x.1 x.2.1⟩
attribute [go_sem] iV aCd
noncomputable def aLR : aL := mSpec aCd (.one (.sl (.u .u64))) (fun x => uZ x.1 x.2.1)
noncomputable def aGS : List (FuncId × aL) := [(125, dJ)]
theorem aM3 : bW Tryz.prog GL aGS := .cons mZ (by kernel_rfl) (.nil)
theorem aGT : gam aGS 125 = some dJ := rfl
attribute [go_sem] aEy aGT
set_option maxHeartbeats 4000000 in
theorem aLS : FOK Tryz.prog GL 68 aLR := by
 refine cG (bI aM3) mix Tryz.func68 rfl (by kernel_rfl) (by decide) aEy fun w0 S x Θ hw h hF => ?_
 obtain ⟨(a_0 : (List Nat)), (n_1 : Int), u⟩ := x
 simp only [cF, go_sem]
 replace h : sat (uZ a_0 n_1) _ := h
 unfold uZ at h
 refine fP h (fun hc h => ?_) fun hc h => ?_
 ·exact aS hF [.tmp 4] rfl rfl rfl (aC h) (by simp only [bA, go_sem])
 ·obtain ⟨g0, h⟩ := aI h
  try simp only [I64, I32] at g0
  repeat (refine ⟨by first | with_reducible assumption | omega | (intros; first | assumption | omega) | (simp only [go_sem] at *; first | assumption | omega) | decide, ?_⟩)
  obtain ⟨g0, h⟩ := aI h
  try simp only [I64, I32] at g0
  repeat (refine ⟨by first | with_reducible assumption | omega | (intros; first | assumption | omega) | (simp only [go_sem] at *; first | assumption | omega) | decide, ?_⟩)
  obtain ⟨g0, h⟩ := aI h
  try simp only [I64, I32] at g0
  repeat (refine ⟨by first | with_reducible assumption | omega | (intros; first | assumption | omega) | (simp only [go_sem] at *; first | assumption | omega) | decide, ?_⟩)
  obtain ⟨g0, h⟩ := aI h
  obtain ⟨g1, h⟩ := aI h
  repeat (refine ⟨by first | with_reducible assumption | omega | (intros; first | assumption | omega) | (simp only [go_sem] at *; first | assumption | omega) | decide, ?_⟩)
  refine dF hF (D := Int × (List Nat)) [1, 18, 19] (fun d => [(5, .own 0), (20, .val (.i .i64) d.1)]) (fun d => [.inr (.row 54 (.u .u64) d.2)]) h rfl (by simp only [go_sem]) ?_
  rintro ⟨x20_7, out_8⟩ A5 T5 hA5 hE5 h
  simp only [go_sem]
  replace h : sat (kL a_0 n_1 x20_7 out_8) _ := h
  unfold kL at h
  refine gV h (fun hc h => ?_) fun hc h => ?_
  ·obtain ⟨g0, h⟩ := aI h
   repeat (refine ⟨by first | with_reducible assumption | omega | (intros; first | assumption | omega) | (simp only [go_sem] at *; first | assumption | omega) | decide, ?_⟩)
   obtain ⟨g0, h⟩ := aI h
   try simp only [I64, I32] at g0
   repeat (refine ⟨by first | with_reducible assumption | omega | (intros; first | assumption | omega) | (simp only [go_sem] at *; first | assumption | omega) | decide, ?_⟩)
   obtain ⟨g0, h⟩ := aI h
   try simp only [I64, I32] at g0
   repeat (refine ⟨by first | with_reducible assumption | omega | (intros; first | assumption | omega) | (simp only [go_sem] at *; first | assumption | omega) | decide, ?_⟩)
   obtain ⟨g0, h⟩ := aI h
   repeat (refine ⟨by first | with_reducible assumption | omega | (intros; first | assumption | omega) | (simp only [go_sem] at *; first | assumption | omega) | decide, ?_⟩)
   obtain ⟨g0, h⟩ := aI h
   repeat (refine ⟨by first | with_reducible assumption | omega | (intros; first | assumption | omega) | (simp only [go_sem] at *; first | assumption | omega) | decide, ?_⟩)
   obtain ⟨g0, h⟩ := aI h
   try simp only [I64, I32] at g0
   repeat (refine ⟨by first | with_reducible assumption | omega | (intros; first | assumption | omega) | (simp only [go_sem] at *; first | assumption | omega) | decide, ?_⟩)
   obtain ⟨g0, h⟩ := aI h
   try simp only [I64, I32] at g0
   repeat (refine ⟨by first | with_reducible assumption | omega | (intros; first | assumption | omega) | (simp only [go_sem] at *; first | assumption | omega) | decide, ?_⟩)
   obtain ⟨g0, h⟩ := aI h
   try simp only [I64, I32] at g0
   repeat (refine ⟨by first | with_reducible assumption | omega | (intros; first | assumption | omega) | (simp only [go_sem] at *; first | assumption | omega) | decide, ?_⟩)
   obtain ⟨g0, h⟩ := aI h
   repeat (refine ⟨by first | with_reducible assumption | omega | (intros; first | assumption | omega) | (simp only [go_sem] at *; first | assumption | omega) | decide, ?_⟩)
   obtain ⟨g0, h⟩ := aI h
   try simp only [I64, I32] at g0
   repeat (refine ⟨by first | with_reducible assumption | omega | (intros; first | assumption | omega) | (simp only [go_sem] at *; first | assumption | omega) | decide, ?_⟩)
   obtain ⟨g0, h⟩ := aI h
   repeat (refine ⟨by first | with_reducible assumption | omega | (intros; first | assumption | omega) | (simp only [go_sem] at *; first | assumption | omega) | decide, ?_⟩)
   obtain ⟨g0, h⟩ := aI h
   try simp only [I64, I32] at g0
   repeat (refine ⟨by first | with_reducible assumption | omega | (intros; first | assumption | omega) | (simp only [go_sem] at *; first | assumption | omega) | decide, ?_⟩)
   replace h := hA5 _ (aC h)
   exact aY _ h rfl (by (try simp only [kH, fO, true_or, and_self, go_sem]) <;> (repeat' apply And.intro) <;> first | rfl | (left; rfl) | (right; rfl) | (left; simp only [go_sem]; done) | (right; simp only [go_sem]; done) | (simp; done) | (simp only [*]; done) | omega)
  ·replace h := hE5 _ (aC h)
   try dsimp only at h
   exact aS hF [.tmp 4] rfl rfl rfl (aC h) (by simp only [bA, go_sem])
theorem vY : FOK Tryz.prog GL 68 iV := dU aLS (fun ⟨x0, x1, u⟩ ⟨w0, w1, wu⟩ hp => aKb x0 w0 x1 w1 hp)
def aCU : PlR := ⟨[(0, .A [0, 1]), (1, .A [0, 1, 12]), (2, .A [4]), (3, .A [0, 1]), (4, .B [0, 1, 5]), (5, .A [0, 1, 5, 20, 21, 22]), (6, .A [0, 1, 5, 20, 21, 22, 23]), (7, .A [0, 1, 5, 6, 7, 20, 21, 22]), (8, .B [0, 1, 5, 6, 20, 21, 22]), (9, .A [0, 1, 5, 6, 20, 21, 22, 39]), (10, .C 17 [0, 1, 5, 20, 21, 22]), (11, .A [0, 1, 5, 20, 21, 22]), (12, .B [4])], []⟩
def aA0 : Ty := .pair (.sl (.u .u64)) (.pair (.i .i64) .unit)
noncomputable def gG : aL := ⟨aA0, .one (.sl (.u .u64)), fun x => aDM x.1 x.2.1, fun x => cH x.1 x.2.1⟩
attribute [go_sem] gG aA0
noncomputable def aKn : aL := mSpec aA0 (.one (.sl (.u .u64))) (fun x => sF x.1 x.2.1)
noncomputable def aEz : List (FuncId × aL) := [(125, dJ)]
theorem aLT : bW Tryz.prog GL aEz := .cons mZ (by kernel_rfl) (.nil)
theorem aFd : gam aEz 125 = some dJ := rfl
attribute [go_sem] aCU aFd
set_option maxHeartbeats 4000000 in
theorem aKo : FOK Tryz.prog GL 69 aKn := by
 refine cG (bI aLT) mix Tryz.func69 rfl (by kernel_rfl) (by decide) aCU fun w0 S x Θ hw h hF => ?_
 obtain ⟨(a_0 : (List Nat)), (n_1 : Int), u⟩ := x
 simp only [cF, go_sem]
 replace h : sat (sF a_0 n_1) _ := h
 unfold sF at h
 obtain ⟨g0, h⟩ := aI h
 try simp only [I64, I32] at g0
 repeat (refine ⟨by first | with_reducible assumption | omega | (intros; first | assumption | omega) | (simp only [go_sem] at *; first | assumption | omega) | decide, ?_⟩)
 refine aMK h (fun hc h => ?_) fun hc h => ?_
 ·exact aS hF [.tmp 4] rfl rfl rfl (aC h) (by simp only [bA, go_sem])
 ·obtain ⟨g0, h⟩ := aI h
  obtain ⟨g1, h⟩ := aI h
  try simp only [I64, I32] at g0
  repeat (refine ⟨by first | with_reducible assumption | omega | (intros; first | assumption | omega) | (simp only [go_sem] at *; first | assumption | omega) | decide, ?_⟩)
  obtain ⟨g0, h⟩ := aI h
  obtain ⟨g1, h⟩ := aI h
  repeat (refine ⟨by first | with_reducible assumption | omega | (intros; first | assumption | omega) | (simp only [go_sem] at *; first | assumption | omega) | decide, ?_⟩)
  refine dF hF (D := Int × (List Nat)) [0, 1, 20, 21] (fun d => [(5, .own 0), (22, .val (.i .i64) d.1)]) (fun d => [.inr (.row 54 (.u .u64) d.2)]) h rfl (by simp only [go_sem]) ?_
  rintro ⟨x22_10, out_11⟩ A6 T6 hA6 hE6 h
  simp only [go_sem]
  replace h : sat (jG n_1 a_0 x22_10 out_11) _ := h
  unfold jG at h
  refine gV h (fun hc h => ?_) fun hc h => ?_
  ·obtain ⟨g0, h⟩ := aI h
   repeat (refine ⟨by first | with_reducible assumption | omega | (intros; first | assumption | omega) | (simp only [go_sem] at *; first | assumption | omega) | decide, ?_⟩)
   obtain ⟨g0, h⟩ := aI h
   repeat (refine ⟨by first | with_reducible assumption | omega | (intros; first | assumption | omega) | (simp only [go_sem] at *; first | assumption | omega) | decide, ?_⟩)
   obtain ⟨g0, h⟩ := aI h
   try simp only [I64, I32] at g0
   repeat (refine ⟨by first | with_reducible assumption | omega | (intros; first | assumption | omega) | (simp only [go_sem] at *; first | assumption | omega) | decide, ?_⟩)
   refine ⟨fun hc => ?_, fun hc => ?_⟩
   ·replace h := iE hc h
    obtain ⟨g0, h⟩ := aI h
    obtain ⟨g1, h⟩ := aI h
    obtain ⟨g2, h⟩ := aI h
    obtain ⟨g3, h⟩ := aI h
    obtain ⟨g4, h⟩ := aI h
    try simp only [I64, I32] at g1
    try simp only [I64, I32] at g3
    repeat (refine ⟨by first | with_reducible assumption | omega | (intros; first | assumption | omega) | (simp only [go_sem] at *; first | assumption | omega) | decide, ?_⟩)
    obtain ⟨g0, h⟩ := aI h
    try simp only [I64, I32] at g0
    repeat (refine ⟨by first | with_reducible assumption | omega | (intros; first | assumption | omega) | (simp only [go_sem] at *; first | assumption | omega) | decide, ?_⟩)
    replace h := hA6 _ (aC h)
    exact aY _ h rfl (by (try simp only [kH, fO, true_or, and_self, go_sem]) <;> (repeat' apply And.intro) <;> first | rfl | (left; rfl) | (right; rfl) | (left; simp only [go_sem]; done) | (right; simp only [go_sem]; done) | (simp; done) | (simp only [*]; done) | omega)
   ·replace h := iF (by first | exact hc | omega) h
    obtain ⟨g0, h⟩ := aI h
    try simp only [I64, I32] at g0
    repeat (refine ⟨by first | with_reducible assumption | omega | (intros; first | assumption | omega) | (simp only [go_sem] at *; first | assumption | omega) | decide, ?_⟩)
    replace h := hA6 _ (aC h)
    exact aY _ h rfl (by simp only [go_sem])
  ·replace h := hE6 _ (aC h)
   try dsimp only at h
   exact aS hF [.tmp 4] rfl rfl rfl (aC h) (by simp only [bA, go_sem])
theorem tF : FOK Tryz.prog GL 69 gG := dU aKo (fun ⟨x0, x1, u⟩ ⟨w0, w1, wu⟩ hp => aH7 x0 w0 x1 w1 hp)
end Nu
end Go.Proofs
namespace Go.Proofs
open Go.Vc
set_option maxRecDepth 20000
namespace Nu
def aBI : PlR := ⟨[(2, .stop), (4, .stop)], [(20, 24), (27, 31)]⟩
def zN : Ty := .pair (.u .u64) (.pair (.u .u64) (.pair (.u .u64) .unit))
noncomputable def mF : aL := ⟨zN, .tup (.pair (.u .u64) (.pair (.u .u64) .unit)), fun x => tE x.1 x.2.1 x.2.2.1, fun x => iN x.1 x.2.1 x.2.2.1⟩
attribute [go_sem] mF zN
noncomputable def aId : aL := mSpec zN (.tup (.pair (.u .u64) (.pair (.u .u64) .unit))) (fun x => qA x.1 x.2.1 x.2.2.1)
noncomputable def aCV : List (FuncId × aL) := [(122, cR)]
theorem aKp : bW Tryz.prog GL aCV := .cons lR (by kernel_rfl) (.nil)
theorem aDO : gam aCV 122 = some cR := rfl
attribute [go_sem] aBI aDO
set_option maxHeartbeats 4000000 in
theorem aIe : FOK Tryz.prog GL 157 aId := by
 refine cG (bI aKp) mix Tryz.func157 rfl (by kernel_rfl) (by decide) aBI fun w0 S x Θ hw h hF => ?_
 obtain ⟨(hi_0 : Nat), (lo_1 : Nat), (y_2 : Nat), u⟩ := x
 simp only [cF, go_sem]
 replace h : sat (qA hi_0 lo_1 y_2) _ := h
 unfold qA at h
 refine eL hF [0, 1, 2] ?_
 simp only [go_sem]
 refine eL hF [0, 1, 2, 20] ?_
 simp only [go_sem]
 refine fP h (fun hc h => ?_) fun hc h => ?_
 ·exact aAR h
 ·refine eL hF [0, 1, 2, 24] ?_
  simp only [go_sem]
  refine fP h (fun hc h => ?_) fun hc h => ?_
  ·exact aAR h
  ·refine eL hF [0, 1, 2, 27] ?_
   simp only [go_sem]
   refine fP h (fun hc h => ?_) fun hc h => ?_
   ·refine eL hF [6, 7] ?_
    simp only [go_sem]
    refine aM h fun g0 h => aM h fun g1 h => ?_
    exact aS hF [.tmp 6, .tmp 7] rfl rfl rfl (aC h) (by simp only [bA, go_sem])
   ·refine eL hF [0, 1, 2, 8] ?_
    simp only [go_sem]
    refine eL hF [0, 1, 2, 8] ?_
    simp only [go_sem]
    refine eL hF [0, 1, 2, 8, 9] ?_
    simp only [go_sem]
    refine eL hF [0, 1, 2, 8, 9, 10] ?_
    simp only [go_sem]
    refine eL hF [1, 2, 8, 9, 10, 11] ?_
    simp only [go_sem]
    refine eL hF [2, 8, 9, 10, 11, 12] ?_
    simp only [go_sem]
    refine eL hF [2, 8, 9, 10, 11, 12, 13] ?_
    simp only [go_sem]
    refine eL hF [2, 8, 9, 10, 11, 13, 14] ?_
    simp only [go_sem]
    refine eL hF [2, 8, 9, 10, 11, 13, 14, 15] ?_
    simp only [go_sem]
    refine aM h fun g0 h => ?_
    refine eL hF [2, 8, 9, 10, 11, 13, 14, 15, 16] ?_
    simp only [go_sem]
    refine cP hF (D := Nat) (fun d => sat (lX y_2 lo_1 hi_0 d) Θ) [2, 8, 9, 10, 11, 13, 14] (fun d => [(15, .val (.u .u64) d)]) (fun d => []) ?_ ?_
    ·simp only [go_sem]
     refine dF hF (D := Nat × Nat) [2, 8, 9, 10, 11, 13, 14] (fun d => [(15, .val (.u .u64) d.1), (16, .val (.u .u64) d.2)]) (fun d => []) h rfl (by simp only [go_sem]) ?_
     rintro ⟨x15_19, rhat_20⟩ A17 T17 hA17 hE17 h
     simp only [go_sem]
     replace h : sat (fC lo_1 y_2 x15_19 rhat_20) _ := h
     unfold fC at h
     refine eL hF [2, 8, 9, 10, 11, 13, 14, 15, 16, 78] ?_
     simp only [go_sem]
     refine ⟨fun hc => ?_, fun hc => ?_⟩
     ·replace h := iE hc h
      refine eL hF [2, 8, 9, 10, 11, 13, 14, 15, 16] ?_
      simp only [go_sem]
      refine eL hF [2, 8, 9, 10, 11, 13, 14, 15, 16] ?_
      simp only [go_sem]
      refine eL hF [2, 8, 9, 10, 11, 13, 14, 15, 16, 85] ?_
      simp only [go_sem]
      refine fP h (fun hc h => ?_) fun hc h => ?_
      ·replace h := hE17 _ (aC h)
       try dsimp only at h
       exact aY ((iD .u64 x15_19 (1 : Nat))) h rfl (by simp only [go_sem])
      ·replace h := hA17 _ (aC h)
       exact aY _ h rfl (by simp only [go_sem])
     ·replace h := iF hc h
      replace h := hE17 _ (aC h)
      try dsimp only at h
      exact aY (x15_19) h rfl (by simp only [go_sem])
    ·rintro x15_8 h
     simp only [go_sem]
     replace h : sat (lX y_2 lo_1 hi_0 x15_8) _ := h
     unfold lX at h
     refine eL hF [2, 8, 9, 10, 14, 15, 17] ?_
     simp only [go_sem]
     refine eL hF [2, 8, 9, 10, 14, 15, 17, 18] ?_
     simp only [go_sem]
     refine aM h fun g0 h => ?_
     refine eL hF [2, 8, 9, 10, 14, 15, 16, 17, 18] ?_
     simp only [go_sem]
     refine cP hF (D := Nat) (fun d => sat (lW x15_8 hi_0 y_2 lo_1 d) Θ) [2, 8, 14, 15, 17] (fun d => [(18, .val (.u .u64) d)]) (fun d => []) ?_ ?_
     ·simp only [go_sem]
      refine dF hF (D := Nat × Nat) [2, 8, 9, 10, 14, 15, 17] (fun d => [(16, .val (.u .u64) d.1), (18, .val (.u .u64) d.2)]) (fun d => []) h rfl (by simp only [go_sem]) ?_
      rintro ⟨rhat_14, x18_15⟩ A24 T24 hA24 hE24 h
      simp only [go_sem]
      replace h : sat (fB lo_1 y_2 rhat_14 x18_15) _ := h
      unfold fB at h
      refine eL hF [2, 8, 9, 10, 14, 15, 16, 17, 18, 113] ?_
      simp only [go_sem]
      refine ⟨fun hc => ?_, fun hc => ?_⟩
      ·replace h := iE hc h
       refine eL hF [2, 8, 9, 10, 14, 15, 16, 17, 18] ?_
       simp only [go_sem]
       refine eL hF [2, 8, 9, 10, 14, 15, 16, 17, 18] ?_
       simp only [go_sem]
       refine eL hF [2, 8, 9, 10, 14, 15, 16, 17, 18, 120] ?_
       simp only [go_sem]
       refine fP h (fun hc h => ?_) fun hc h => ?_
       ·replace h := hE24 _ (aC h)
        try dsimp only at h
        exact aY ((iD .u64 x18_15 (1 : Nat))) h rfl (by simp only [go_sem])
       ·replace h := hA24 _ (aC h)
        exact aY _ h rfl (by simp only [go_sem])
      ·replace h := iF hc h
       replace h := hE24 _ (aC h)
       try dsimp only at h
       exact aY (x18_15) h rfl (by simp only [go_sem])
     ·rintro x18_13 h
      simp only [go_sem]
      replace h : sat (lW x15_8 hi_0 y_2 lo_1 x18_13) _ := h
      unfold lW at h
      refine eL hF [6, 7] ?_
      simp only [go_sem]
      exact aS hF [.tmp 6, .tmp 7] rfl rfl rfl (aC h) (by simp only [bA, go_sem])
theorem aBJ : FOK Tryz.prog GL 157 mF := dU aIe (fun ⟨x0, x1, x2, u⟩ ⟨w0, w1, w2, wu⟩ hp => aGJ x0 w0 x1 w1 x2 w2 hp)
def aCW : PlR := ⟨[], [(6, 10)]⟩
def aA1 : Ty := .pair (.sl (.u .u64)) (.pair (.u .u64) .unit)
noncomputable def tG : aL := ⟨aA1, .tup (.pair (.sl (.u .u64)) (.pair (.sl (.u .u64)) .unit)), fun x => aAV x.1 x.2.1, fun x => oZ x.1 x.2.1⟩
attribute [go_sem] tG aA1
noncomputable def aKq : aL := mSpec aA1 (.tup (.pair (.sl (.u .u64)) (.pair (.sl (.u .u64)) .unit))) (fun x => sG x.1 x.2.1)
noncomputable def aA2 : List (FuncId × aL) := [(125, dJ), (157, mF)]
theorem aLU : bW Tryz.prog GL aA2 := .cons mZ (by kernel_rfl) (.cons aBJ (by kernel_rfl) (.nil))
theorem aFe : gam aA2 125 = some dJ := rfl
theorem aFf : gam aA2 157 = some mF := rfl
attribute [go_sem] aCW aFe aFf
set_option maxHeartbeats 4000000 in
theorem aKr : FOK Tryz.prog GL 121 aKq := by
 refine cG (bI aLU) mix Tryz.func121 rfl (by kernel_rfl) (by decide) aCW fun w0 S x Θ hw h hF => ?_
 obtain ⟨(a_0 : (List Nat)), (b_1 : Nat), u⟩ := x
 simp only [cF, go_sem]
 replace h : sat (sG a_0 b_1) _ := h
 unfold sG at h
 refine eL hF [0, 1] ?_
 simp only [go_sem]
 refine aMM hF [0, 1, 6] ?_
 simp only [go_sem]
 obtain ⟨g0, h⟩ := aI h
 obtain ⟨g1, h⟩ := aI h
 repeat (refine ⟨by omega, ?_⟩)
 refine eL hF [0, 1, 6, 7] ?_
 simp only [go_sem]
 refine cP hF (D := Nat × (List Nat)) (fun d => sat (mY d.1 d.2) Θ) [] (fun d => [(6, .own 0), (7, .val (.u .u64) d.1)]) (fun d => [.inr (.row 54 (.u .u64) d.2)]) ?_ ?_
 ·simp only [go_sem]
  refine eL hF [0, 1, 6, 7, 8] ?_
  simp only [go_sem]
  obtain ⟨g0, h⟩ := aI h
  repeat (refine ⟨by omega, ?_⟩)
  refine dF hF (D := Nat × Int × (List Nat)) [0, 1] (fun d => [(6, .own 0), (7, .val (.u .u64) d.1), (8, .val (.i .i64) d.2.1)]) (fun d => [.inr (.row 54 (.u .u64) d.2.2)]) h rfl (by simp only [go_sem]) ?_
  rintro ⟨rest_11, i_12, q_13⟩ A4 T4 hA4 hE4 h
  simp only [go_sem]
  replace h : sat (jH a_0 b_1 rest_11 i_12 q_13) _ := h
  unfold jH at h
  refine eL hF [0, 1, 6, 7, 8, 16] ?_
  simp only [go_sem]
  refine aMK h (fun hc h => ?_) fun hc h => ?_
  ·refine aMM hF [0, 1, 6, 7, 8] ?_
   simp only [go_sem]
   obtain ⟨g0, h⟩ := aI h
   repeat (refine ⟨by omega, ?_⟩)
   obtain ⟨g0, h⟩ := aI h
   repeat (refine ⟨by omega, ?_⟩)
   obtain ⟨g0, h⟩ := aI h
   repeat (refine ⟨by omega, ?_⟩)
   refine eL hF [0, 1, 6, 7, 8] ?_
   simp only [go_sem]
   obtain ⟨g0, h⟩ := aI h
   repeat (refine ⟨by omega, ?_⟩)
   replace h := hA4 _ (aC h)
   exact aY _ h rfl (by simp only [go_sem])
  ·replace h := hE4 _ (aC h)
   try dsimp only at h
   exact aY ((rest_11, q_13)) h rfl (by simp only [go_sem])
 ·rintro ⟨rest_9, q_10⟩ h
  simp only [go_sem]
  replace h : sat (mY rest_9 q_10) _ := h
  unfold mY at h
  refine aMM hF [4, 5] ?_
  simp only [go_sem]
  exact aS hF [.tmp 4, .tmp 5] rfl rfl rfl (aC h) (by simp only [bA, go_sem])
theorem aKs : FOK Tryz.prog GL 121 tG := dU aKr (fun ⟨x0, x1, u⟩ ⟨w0, w1, wu⟩ hp => aH8 x0 w0 x1 w1 hp)
end Nu
end Go.Proofs
namespace Go.Proofs
open Go.Vc
set_option maxRecDepth 20000
namespace Nu
noncomputable def fD (is_0 : Bool) (e_1 : Int) : Option (Unit ⊕ (Int × Unit)) :=
 if ¬ (is_0 = true) then some (.inr (e_1, ())) else some (.inl ())
noncomputable def cZ : lG where
 D := Bool × Int × (Unit ⊕ (Int × Unit))
 av := fun d => [.val .bool d.1, .val (.i .i64) d.2.1]
 hp := fun d => []
 m := 0
 pre := fun d => fD d.1 d.2.1 = some d.2.2
 out := fun d => match d.2.2 with | .inl r => .ret (.tup []) [] | .inr p => .pan ⟨162, (.pair (.i .i64) .unit), p⟩ []
noncomputable def aEA : List (FuncId × aL) := []
theorem aEB : bW Tryz.prog GL aEA := .nil
set_option maxHeartbeats 4000000 in
theorem eR : GOK Tryz.prog GL 138 cZ := by
 refine oF (bI aEB) Tryz.func138 rfl (by kernel_rfl) (fun _ => Nat.le_of_ble_eq_true rfl) fun c0 w0 d hw1 hw2 h hn => ?_
 have hF : jB ⟨Tryz.prog, EM aEA, GM cZ c0 d, w0, Tryz.f138.ntmps, []⟩ := ⟨bI aEB, mix⟩
 obtain ⟨(is_0 : Bool), (e_1 : Int), r⟩ := d
 replace h : fD is_0 e_1 = some r := h
 have hw1 : AV.wfL [.val .bool is_0, .val (.i .i64) e_1] := hw1
 simp only [AV.wfL, AV.wfV, Ty.wf, mJ] at hw1
 show Tri _ _ _ [(0, .val .bool is_0), (1, .val (.i .i64) e_1)] []
 unfold fD at h
 refine aD (aG hF [1, 5] ?_)
 simp only [go_sem]
 refine aF (bV rfl (fun hc => ?_) (fun hc => ?_))
 ·try simp only [go_sem] at hc
  have h := fR (by first | exact hc | omega | (simpa using hc) | (simp at hc ⊢; omega)) h
  refine aW hF (bY (l := []) (.nil)) [] [] ?_
  simp only [go_sem]
  repeat (refine ⟨by first | with_reducible assumption | omega | (intros; first | assumption | omega) | (simp only [go_sem] at *; first | assumption | omega) | decide, ?_⟩)
  obtain rfl := Option.some.inj h
  refine iK rfl rfl rfl rfl
 ·try simp only [go_sem] at hc
  have h := fS (by first | exact hc | omega | (simpa using hc) | (simp at hc ⊢; omega)) h
  obtain rfl := Option.some.inj h
  refine cJ (zC (tD hF [] rfl rfl rfl rfl rfl rfl ?_))
  (try simp only [bA, xQ, wO, fO, lN, AV.isAgg, go_sem]) <;> first | trivial | rfl | (simp; done)
attribute [go_sem] cZ
noncomputable def oH (e_2 : Int) (m_1 : (List Nat)) (neg_0 : Bool) : Option (((Bool × ((List Nat) × (Int × Unit))) ⊕ (Int × Unit))) :=
 ck (I64 (e_2 + (bS m_1))) (((fD (decide ((e_2 + (bS m_1)) ≤ (1048576 : Int))) (3 : Int))).bind (fun e => match e with | .inl r_22 => ck (I64 (e_2 + (bS m_1))) (some (.inl (neg_0, (cH m_1 (bS m_1)), (e_2 + (bS m_1)), ()))) | .inr p_23 => some (.inr p_23)))
noncomputable def oU (neg_0 : Bool) (m_1 : (List Nat)) (e_2 : Int) : Option ((Bool × ((List Nat) × (Int × Unit))) ⊕ (Int × Unit)) :=
 if (((m_1.length) : Nat) : Int) = (0 : Int) then some (.inl (false, ([] : List Nat), (0 : Int), ())) else ck ((pSz m_1)) (ck ((aDM m_1 (bS m_1))) (((fD (decide (((((cH m_1 (bS m_1)).length) : Nat) : Int) ≤ (64 : Int))) (2 : Int))).bind (fun e => match e with | .inl r_8 => if e_2 ≤ (1048576 : Int) then ck (I64 ((-1048576 : Int) - (bS m_1))) (((fD ((decide (e_2 ≤ (1048576 : Int))) && (decide (((-1048576 : Int) - (bS m_1)) ≤ e_2))) (3 : Int))).bind (fun e => match e with | .inl r_24 => oH e_2 m_1 neg_0 | .inr p_25 => some (.inr p_25))) else ((fD false (3 : Int))).bind (fun e => match e with | .inl r_26 => oH e_2 m_1 neg_0 | .inr p_27 => some (.inr p_27)) | .inr p_9 => some (.inr p_9))))
noncomputable def nA : lG where
 D := Bool × (List Nat) × Int × ((Bool × ((List Nat) × (Int × Unit))) ⊕ (Int × Unit))
 av := fun d => [.val .bool d.1, .val (.sl (.u .u64)) d.2.1, .val (.i .i64) d.2.2.1]
 hp := fun d => []
 m := 0
 pre := fun d => oU d.1 d.2.1 d.2.2.1 = some d.2.2.2
 out := fun d => match d.2.2.2 with | .inl r => .ret (.val (.pair .bool (.pair (.sl (.u .u64)) (.pair (.i .i64) .unit))) r) [] | .inr p => .pan ⟨162, (.pair (.i .i64) .unit), p⟩ []
noncomputable def zO : List (FuncId × aL) := [(69, gG), (70, kA)]
theorem aGU : bW Tryz.prog GL zO := .cons tF (by kernel_rfl) (.cons zL (by kernel_rfl) (.nil))
theorem aIf : gam zO 69 = some gG := rfl
attribute [go_sem] aIf
theorem aIg : gam zO 70 = some kA := rfl
attribute [go_sem] aIg
set_option maxHeartbeats 4000000 in
theorem vZ : GOK Tryz.prog GL 88 nA := by
 refine oF (bI aGU) Tryz.func88 rfl (by kernel_rfl) (fun _ => Nat.le_of_ble_eq_true rfl) fun c0 w0 d hw1 hw2 h hn => ?_
 have hF : jB ⟨Tryz.prog, EM zO, GM nA c0 d, w0, Tryz.f88.ntmps, []⟩ := ⟨bI aGU, mix⟩
 obtain ⟨(neg_0 : Bool), (m_1 : (List Nat)), (e_2 : Int), r⟩ := d
 replace h : oU neg_0 m_1 e_2 = some r := h
 have hw1 : AV.wfL [.val .bool neg_0, .val (.sl (.u .u64)) m_1, .val (.i .i64) e_2] := hw1
 simp only [AV.wfL, AV.wfV, Ty.wf, mJ] at hw1
 show Tri _ _ _ [(0, .val .bool neg_0), (1, .val (.sl (.u .u64)) m_1), (2, .val (.i .i64) e_2)] []
 unfold oU at h
 refine aD (bO hF [0, 1, 2, 6] ?_)
 simp only [go_sem]
 refine aF (aD (aD (aG hF [0, 1, 2, 6, 10] ?_)))
 simp only [go_sem]
 refine aF (bV rfl (fun hc => ?_) (fun hc => ?_))
 ·try simp only [go_sem] at hc
  have h := fR (by first | exact hc | omega | (simpa using hc) | (simp at hc ⊢; omega)) h
  refine aD (bO hF [6] ?_)
  simp only [go_sem]
  obtain rfl := Option.some.inj h
  refine aF (cW (dI (sA hF [.cell 6 25] [] rfl rfl rfl rfl rfl rfl rfl rfl rfl ?_)))
  (try simp only [bA, xQ, wO, fO, lN, AV.isAgg, go_sem]) <;> first | trivial | rfl | (simp; done)
 ·try simp only [go_sem] at hc
  have h := fS (by first | exact hc | omega | (simpa using hc) | (simp at hc ⊢; omega)) h
  refine cJ (aF (aD (aG hF [0, 1, 2, 6, 7] ?_)))
  simp only [go_sem]
  obtain ⟨g0, h⟩ := aH h
  repeat (refine ⟨by first | with_reducible assumption | omega | (intros; first | assumption | omega) | (simp only [go_sem] at *; first | assumption | omega) | decide, ?_⟩)
  refine aF (aD (aG hF [0, 1, 2, 6, 7] ?_))
  simp only [go_sem]
  obtain ⟨g0, h⟩ := aH h
  repeat (refine ⟨by first | with_reducible assumption | omega | (intros; first | assumption | omega) | (simp only [go_sem] at *; first | assumption | omega) | decide, ?_⟩)
  obtain ⟨e, he1, h⟩ := bind_some h
  rcases e with r_8 | p_9
  ·try dsimp only at h
   refine aF (aD (aW hF (bY (l := [(138, ⟨cZ, [], ((decide (((((cH m_1 (bS m_1)).length) : Nat) : Int) ≤ (64 : Int))), (2 : Int), .inl r_8)⟩)]) (.cons eR (by kernel_rfl) (.nil))) [0, 1, 2, 6, 7] [] ?_))
   simp only [go_sem]
   repeat (refine ⟨by first | with_reducible assumption | omega | (intros; first | assumption | omega) | (simp only [go_sem] at *; first | assumption | omega) | decide, ?_⟩)
   refine aF (jW (D := Unit) (fun d => oH e_2 m_1 neg_0 = some r) [0, 1, 2, 7] (fun d => [(6, .ptr 0 [])]) (fun d => [.inr (.box 3 (.val (.pair .bool (.pair (.sl (.u .u64)) (.pair (.i .i64) .unit))) (false, ([] : List Nat), (0 : Int), ())))]) ?_ ?_)
   ·by_cases hq : e_2 ≤ (1048576 : Int)
    ·have h := fR hq h
     obtain ⟨g0, h⟩ := aH h
     try simp only [I64, I32] at g0
     obtain ⟨e, he3, h⟩ := bind_some h
     rcases e with r_24 | p_25
     ·try dsimp only at h
      refine aW hF (bY (l := [(138, ⟨cZ, [], (((decide (e_2 ≤ (1048576 : Int))) && (decide (((-1048576 : Int) - (bS m_1)) ≤ e_2))), (3 : Int), .inl r_24)⟩)]) (.cons eR (by kernel_rfl) (.nil))) [0, 1, 2, 6, 7] [] ?_
      simp only [go_sem]
      repeat (refine ⟨by first | with_reducible assumption | omega | (intros; first | assumption | omega) | (simp only [go_sem] at *; first | assumption | omega) | decide, ?_⟩)
      refine ⟨fun _ => ?_, fun hx => by first | (exfalso; omega) | (exfalso; simp_all; done)⟩
      repeat (refine ⟨by first | with_reducible assumption | omega | (intros; first | assumption | omega) | (simp only [go_sem] at *; first | assumption | omega) | decide, ?_⟩)
      refine ⟨fun _ => ?_, fun hx => by first | (exfalso; omega) | (exfalso; simp_all; done)⟩
      repeat (refine ⟨by first | with_reducible assumption | omega | (intros; first | assumption | omega) | (simp only [go_sem] at *; first | assumption | omega) | decide, ?_⟩)
      refine ⟨fun _ => ?_, fun hx => by first | (exfalso; omega) | (exfalso; simp_all; done)⟩
      repeat (refine ⟨by first | with_reducible assumption | omega | (intros; first | assumption | omega) | (simp only [go_sem] at *; first | assumption | omega) | decide, ?_⟩)
      refine ⟨fun _ => ?_, fun hx => by first | (exfalso; omega) | (exfalso; simp_all; done)⟩
      repeat (refine ⟨by first | with_reducible assumption | omega | (intros; first | assumption | omega) | (simp only [go_sem] at *; first | assumption | omega) | decide, ?_⟩)
      refine bG (aY (()) h rfl ?_)
      ·(try simp only [kH, fO, true_or, and_self, go_sem]) <;> (repeat' apply And.intro) <;> first | rfl | (left; rfl) | (right; rfl) | (left; simp only [go_sem]; done) | (right; simp only [go_sem]; done) | (simp; done) | (simp only [*]; done) | omega
     ·try dsimp only at h
      refine aW hF (bY (l := [(138, ⟨cZ, [], (((decide (e_2 ≤ (1048576 : Int))) && (decide (((-1048576 : Int) - (bS m_1)) ≤ e_2))), (3 : Int), .inr p_25)⟩)]) (.cons eR (by kernel_rfl) (.nil))) [0, 1, 2, 6, 7] [] ?_
      simp only [go_sem]
      repeat (refine ⟨by first | with_reducible assumption | omega | (intros; first | assumption | omega) | (simp only [go_sem] at *; first | assumption | omega) | decide, ?_⟩)
      refine ⟨fun _ => ?_, fun hx => by first | (exfalso; omega) | (exfalso; simp_all; done)⟩
      repeat (refine ⟨by first | with_reducible assumption | omega | (intros; first | assumption | omega) | (simp only [go_sem] at *; first | assumption | omega) | decide, ?_⟩)
      refine ⟨fun _ => ?_, fun hx => by first | (exfalso; omega) | (exfalso; simp_all; done)⟩
      repeat (refine ⟨by first | with_reducible assumption | omega | (intros; first | assumption | omega) | (simp only [go_sem] at *; first | assumption | omega) | decide, ?_⟩)
      refine ⟨fun _ => ?_, fun hx => by first | (exfalso; omega) | (exfalso; simp_all; done)⟩
      repeat (refine ⟨by first | with_reducible assumption | omega | (intros; first | assumption | omega) | (simp only [go_sem] at *; first | assumption | omega) | decide, ?_⟩)
      refine ⟨fun _ => ?_, fun hx => by first | (exfalso; omega) | (exfalso; simp_all; done)⟩
      repeat (refine ⟨by first | with_reducible assumption | omega | (intros; first | assumption | omega) | (simp only [go_sem] at *; first | assumption | omega) | decide, ?_⟩)
      obtain rfl := Option.some.inj h
      refine eK (lO [] rfl rfl ?_)
      simp only [ren, gN, nM, posOf, fG, go_sem]
      refine iK rfl rfl rfl rfl
    ·have h := fS hq h
     obtain ⟨e, he4, h⟩ := bind_some h
     rcases e with r_26 | p_27
     ·try dsimp only at h
      refine aW hF (bY (l := [(138, ⟨cZ, [], (false, (3 : Int), .inl r_26)⟩)]) (.cons eR (by kernel_rfl) (.nil))) [0, 1, 2, 6, 7] [] ?_
      simp only [go_sem]
      repeat (refine ⟨by first | with_reducible assumption | omega | (intros; first | assumption | omega) | (simp only [go_sem] at *; first | assumption | omega) | decide, ?_⟩)
      first | (refine ⟨fun hx => by first | (exfalso; omega) | (exfalso; simp_all; done), fun _ => ?_⟩) | intro _
      repeat (refine ⟨by first | with_reducible assumption | omega | (intros; first | assumption | omega) | (simp only [go_sem] at *; first | assumption | omega) | decide, ?_⟩)
      first | (refine ⟨fun hx => by first | (exfalso; omega) | (exfalso; simp_all; done), fun _ => ?_⟩) | intro _
      repeat (refine ⟨by first | with_reducible assumption | omega | (intros; first | assumption | omega) | (simp only [go_sem] at *; first | assumption | omega) | decide, ?_⟩)
      first | (refine ⟨fun hx => by first | (exfalso; omega) | (exfalso; simp_all; done), fun _ => ?_⟩) | intro _
      repeat (refine ⟨by first | with_reducible assumption | omega | (intros; first | assumption | omega) | (simp only [go_sem] at *; first | assumption | omega) | decide, ?_⟩)
      first | (refine ⟨fun hx => by first | (exfalso; omega) | (exfalso; simp_all; done), fun _ => ?_⟩) | intro _
      repeat (refine ⟨by first | with_reducible assumption | omega | (intros; first | assumption | omega) | (simp only [go_sem] at *; first | assumption | omega) | decide, ?_⟩)
      refine bG (aY (()) h rfl ?_)
      ·(try simp only [kH, fO, true_or, and_self, go_sem]) <;> (repeat' apply And.intro) <;> first | rfl | (left; rfl) | (right; rfl) | (left; simp only [go_sem]; done) | (right; simp only [go_sem]; done) | (simp; done) | (simp only [*]; done) | omega
     ·try dsimp only at h
      refine aW hF (bY (l := [(138, ⟨cZ, [], (false, (3 : Int), .inr p_27)⟩)]) (.cons eR (by kernel_rfl) (.nil))) [0, 1, 2, 6, 7] [] ?_
      simp only [go_sem]
      repeat (refine ⟨by first | with_reducible assumption | omega | (intros; first | assumption | omega) | (simp only [go_sem] at *; first | assumption | omega) | decide, ?_⟩)
      first | (refine ⟨fun hx => by first | (exfalso; omega) | (exfalso; simp_all; done), fun _ => ?_⟩) | intro _
      repeat (refine ⟨by first | with_reducible assumption | omega | (intros; first | assumption | omega) | (simp only [go_sem] at *; first | assumption | omega) | decide, ?_⟩)
      first | (refine ⟨fun hx => by first | (exfalso; omega) | (exfalso; simp_all; done), fun _ => ?_⟩) | intro _
      repeat (refine ⟨by first | with_reducible assumption | omega | (intros; first | assumption | omega) | (simp only [go_sem] at *; first | assumption | omega) | decide, ?_⟩)
      first | (refine ⟨fun hx => by first | (exfalso; omega) | (exfalso; simp_all; done), fun _ => ?_⟩) | intro _
      repeat (refine ⟨by first | with_reducible assumption | omega | (intros; first | assumption | omega) | (simp only [go_sem] at *; first | assumption | omega) | decide, ?_⟩)
      first | (refine ⟨fun hx => by first | (exfalso; omega) | (exfalso; simp_all; done), fun _ => ?_⟩) | intro _
      repeat (refine ⟨by first | with_reducible assumption | omega | (intros; first | assumption | omega) | (simp only [go_sem] at *; first | assumption | omega) | decide, ?_⟩)
      obtain rfl := Option.some.inj h
      refine eK (lO [] rfl rfl ?_)
      simp only [ren, gN, nM, posOf, fG, go_sem]
      refine iK rfl rfl rfl rfl
   ·rintro u h
    try dsimp only at h
    simp only [go_sem]
    unfold oH at h
    obtain ⟨g0, h⟩ := aH h
    try simp only [I64, I32] at g0
    obtain ⟨e, he2, h⟩ := bind_some h
    rcases e with r_22 | p_23
    ·try dsimp only at h
     refine aD (aW hF (bY (l := [(138, ⟨cZ, [], ((decide ((e_2 + (bS m_1)) ≤ (1048576 : Int))), (3 : Int), .inl r_22)⟩)]) (.cons eR (by kernel_rfl) (.nil))) [0, 1, 2, 6, 7] [] ?_)
     simp only [go_sem]
     repeat (refine ⟨by first | with_reducible assumption | omega | (intros; first | assumption | omega) | (simp only [go_sem] at *; first | assumption | omega) | decide, ?_⟩)
     refine aF (aD (bO hF [6] ?_))
     simp only [go_sem]
     obtain ⟨g0, h⟩ := aH h
     try simp only [I64, I32] at g0
     repeat (refine ⟨by first | with_reducible assumption | omega | (intros; first | assumption | omega) | (simp only [go_sem] at *; first | assumption | omega) | decide, ?_⟩)
     obtain rfl := Option.some.inj h
     refine aF (cW (sA hF [.cell 6 25] [] rfl rfl rfl rfl rfl rfl rfl rfl rfl ?_))
     (try simp only [bA, xQ, wO, fO, lN, AV.isAgg, go_sem]) <;> first | trivial | rfl | (simp; done)
    ·try dsimp only at h
     refine aD (aW hF (bY (l := [(138, ⟨cZ, [], ((decide ((e_2 + (bS m_1)) ≤ (1048576 : Int))), (3 : Int), .inr p_23)⟩)]) (.cons eR (by kernel_rfl) (.nil))) [0, 1, 2, 6, 7] [] ?_)
     simp only [go_sem]
     repeat (refine ⟨by first | with_reducible assumption | omega | (intros; first | assumption | omega) | (simp only [go_sem] at *; first | assumption | omega) | decide, ?_⟩)
     obtain rfl := Option.some.inj h
     refine eK (lO [] rfl rfl ?_)
     simp only [ren, gN, nM, posOf, fG, go_sem]
     refine iK rfl rfl rfl rfl
  ·try dsimp only at h
   refine aF (aD (aW hF (bY (l := [(138, ⟨cZ, [], ((decide (((((cH m_1 (bS m_1)).length) : Nat) : Int) ≤ (64 : Int))), (2 : Int), .inr p_9)⟩)]) (.cons eR (by kernel_rfl) (.nil))) [0, 1, 2, 6, 7] [] ?_))
   simp only [go_sem]
   repeat (refine ⟨by first | with_reducible assumption | omega | (intros; first | assumption | omega) | (simp only [go_sem] at *; first | assumption | omega) | decide, ?_⟩)
   obtain rfl := Option.some.inj h
   refine eK (lO [] rfl rfl ?_)
   simp only [ren, gN, nM, posOf, fG, go_sem]
   refine iK rfl rfl rfl rfl
attribute [go_sem] nA
noncomputable def nR (a0_0 : Bool) (a1_1 : (List Nat)) (a2_2 : Int) : Option ((Bool × ((List Nat) × (Int × Unit))) ⊕ (Int × Unit)) :=
 ((oU a0_0 a1_1 a2_2)).bind (fun e => match e with | .inl r_8 => some (.inl r_8) | .inr p_9 => some (.inr p_9))
noncomputable def oI : lG where
 D := Bool × (List Nat) × Int × ((Bool × ((List Nat) × (Int × Unit))) ⊕ (Int × Unit))
 av := fun d => [.val (.rp .bool) d.1, .val (.rp (.sl (.u .u64))) d.2.1, .val (.rp (.i .i64)) d.2.2.1]
 hp := fun d => []
 m := 0
 pre := fun d => nR d.1 d.2.1 d.2.2.1 = some d.2.2.2
 out := fun d => match d.2.2.2 with | .inl r => .ret (.val (.pair .bool (.pair (.sl (.u .u64)) (.pair (.i .i64) .unit))) r) [] | .inr p => .pan ⟨162, (.pair (.i .i64) .unit), p⟩ []
noncomputable def aCX : List (FuncId × aL) := []
theorem aCY : bW Tryz.prog GL aCX := .nil
set_option maxHeartbeats 4000000 in
theorem aBK : GOK Tryz.prog GL 105 oI := by
 refine oF (bI aCY) Tryz.func105 rfl (by kernel_rfl) (fun _ => Nat.le_of_ble_eq_true rfl) fun c0 w0 d hw1 hw2 h hn => ?_
 have hF : jB ⟨Tryz.prog, EM aCX, GM oI c0 d, w0, Tryz.f105.ntmps, []⟩ := ⟨bI aCY, mix⟩
 obtain ⟨(a0_0 : Bool), (a1_1 : (List Nat)), (a2_2 : Int), r⟩ := d
 replace h : nR a0_0 a1_1 a2_2 = some r := h
 have hw1 : AV.wfL [.val (.rp .bool) a0_0, .val (.rp (.sl (.u .u64))) a1_1, .val (.rp (.i .i64)) a2_2] := hw1
 simp only [AV.wfL, AV.wfV, Ty.wf, mJ] at hw1
 show Tri _ _ _ [(0, .roa .bool a0_0), (1, .roa (.sl (.u .u64)) a1_1), (2, .roa (.i .i64) a2_2)] []
 unfold nR at h
 refine aD (bO hF [0, 1, 2, 3] ?_)
 simp only [go_sem]
 obtain ⟨e, he1, h⟩ := bind_some h
 rcases e with r_8 | p_9
 ·try dsimp only at h
  refine aF (aD (aW hF (bY (l := [(88, ⟨nA, [], (a0_0, a1_1, a2_2, .inl r_8)⟩)]) (.cons vZ (by kernel_rfl) (.nil))) [3] [] ?_))
  simp only [go_sem]
  repeat (refine ⟨by first | with_reducible assumption | omega | (intros; first | assumption | omega) | (simp only [go_sem] at *; first | assumption | omega) | decide, ?_⟩)
  obtain rfl := Option.some.inj h
  refine aF (cW (sA hF [.cell 3 25] [] rfl rfl rfl rfl rfl rfl rfl rfl rfl ?_))
  (try simp only [bA, xQ, wO, fO, lN, AV.isAgg, go_sem]) <;> first | trivial | rfl | (simp; done)
 ·try dsimp only at h
  refine aF (aD (aW hF (bY (l := [(88, ⟨nA, [], (a0_0, a1_1, a2_2, .inr p_9)⟩)]) (.cons vZ (by kernel_rfl) (.nil))) [3] [] ?_))
  simp only [go_sem]
  repeat (refine ⟨by first | with_reducible assumption | omega | (intros; first | assumption | omega) | (simp only [go_sem] at *; first | assumption | omega) | decide, ?_⟩)
  obtain rfl := Option.some.inj h
  refine eK (lO [] rfl rfl ?_)
  simp only [ren, gN, nM, posOf, fG, go_sem]
  refine iK rfl rfl rfl rfl
attribute [go_sem] oI
end Nu
end Go.Proofs
namespace Go.Proofs
open Go.Vc
set_option maxRecDepth 20000
namespace Nu
theorem sH : bW Tryz.prog GL [] := .nil
def iW : lG where
 D := (Bool × ((List Nat) × (Int × Unit))) × Int
 av := fun _ => [.ptr 0 [], .ptr 1 []]
 hp := fun d => [.box 3 (.val (.pair .bool (.pair (.sl (.u .u64)) (.pair (.i .i64) .unit))) d.1), .box 1 (.val (.i .i64) d.2)]
 m := 2
 pre := fun _ => True
 out := fun d => .ret (.tup []) [.box 3 (.val (.pair .bool (.pair (.sl (.u .u64)) (.pair (.i .i64) .unit))) d.1), .box 1 (.val (.i .i64) d.2)]
def iX (x : (Int × Unit)) : lG where
 D := (Bool × ((List Nat) × (Int × Unit))) × Int
 av := fun _ => [.ptr 0 [], .ptr 1 []]
 hp := fun d => [.box 3 (.val (.pair .bool (.pair (.sl (.u .u64)) (.pair (.i .i64) .unit))) d.1), .box 1 (.val (.i .i64) d.2)]
 m := 2
 pre := fun _ => True
 out := fun d => .ret (.tup []) [.box 3 (.val (.pair .bool (.pair (.sl (.u .u64)) (.pair (.i .i64) .unit))) (false, ([] : List Nat), (0 : Int), ())), .box 1 (.val (.i .i64) x.1)]
theorem aA3 : DOK Tryz.prog GL 150 none iW := by
 refine aJY (bI sH) Tryz.func150 rfl (by kernel_rfl) (fun _ => Nat.le_of_ble_eq_true rfl) rfl fun c w d hw1 hw2 hp hn => ?_
 have hF : jB ⟨Tryz.prog, EM [], GM iW c d, w, Tryz.f150.ntmps, []⟩ := ⟨bI sH, mix⟩
 obtain ⟨d, e⟩ := d
 show mK _ _ _ [(5, .val .nili ()), (0, .ptr 0 []), (1, .ptr 1 [])] [.box 3 (.val (.pair .bool (.pair (.sl (.u .u64)) (.pair (.i .i64) .unit))) d), .box 1 (.val (.i .i64) e)] _
 simp only [go_sem]
 refine aD (aG hF [0, 1, 2, 9] ?_)
 simp only [go_sem]
 refine aF (bV rfl (fun hc => absurd hc (by decide)) (fun hc => ?_))
 refine cJ ?_
 refine aAP [0, 1] rfl rfl ?_
 simp only [ren, gN, nM, posOf, fG, go_sem]
 refine zC (tD hF [] rfl rfl rfl rfl rfl rfl ?_)
 simp only [bA, xQ, wO, go_sem]
 try decide
theorem aA4 (x : (Int × Unit)) : DOK Tryz.prog GL 150 (some ⟨162, (.pair (.i .i64) .unit), x⟩) (iX x) := by
 refine aJY (bI sH) Tryz.func150 rfl (by kernel_rfl) (fun _ => Nat.le_of_ble_eq_true rfl) rfl fun c w d hw1 hw2 hp hn => ?_
 have hF : jB ⟨Tryz.prog, EM [], GM (iX x) c d, w, Tryz.f150.ntmps, []⟩ := ⟨bI sH, mix⟩
 obtain ⟨d, e⟩ := d
 show mK _ _ _ [(5, .val (.ifc 162 (.pair (.i .i64) .unit)) x), (0, .ptr 0 []), (1, .ptr 1 [])] [.box 3 (.val (.pair .bool (.pair (.sl (.u .u64)) (.pair (.i .i64) .unit))) d), .box 1 (.val (.i .i64) e)] _
 simp only [go_sem]
 refine aD (aG hF [0, 1, 2, 9] ?_)
 simp only [go_sem]
 refine aF (bV rfl (fun hc => ?_) (fun hc => absurd hc (by decide)))
 refine aEj hF [] [] [.box 3 (.val (.pair .bool (.pair (.sl (.u .u64)) (.pair (.i .i64) .unit))) (false, ([] : List Nat), (0 : Int), ())), .box 1 (.val (.i .i64) x.1), .box 1 (.val (.pair (.i .i64) .unit) x)] (by decide) ?_ ?_
 ·simp only [go_sem]
  unfold anyS
  intro i hi
  have hi : i = 0 ∨ i = 1 := by revert hi; revert i; decide
  rcases hi with rfl | rfl
  ·simp only [go_sem]
   skip
   unfold anyS
   intro i hi
   have hi : i = 1 ∨ i = 3 := by revert hi; revert i; decide
   rcases hi with rfl | rfl
   ·simp only [go_sem]
    skip
    unfold anyS
    intro i hi
    have hi : i = 2 ∨ i = 3 := by revert hi; revert i; decide
    rcases hi with rfl | rfl
    ·simp only [go_sem]
     skip
     unfold anyS
     intro i hi
     have hi : i = 3 := by revert hi; revert i; decide
     subst hi
     simp only [go_sem]
     skip
     unfold anyS
     intro i hi
     have hi : i = 4 := by revert hi; revert i; decide
     subst hi
     simp only [go_sem]
     skip
     (simp only [anyS, go_sem]) <;> first | exact ⟨rfl, rfl⟩ | trivial
    ·simp only [go_sem]
     skip
     unfold anyS
     intro i hi
     have hi : i = 2 := by revert hi; revert i; decide
     subst hi
     simp only [go_sem]
     skip
     unfold anyS
     intro i hi
     have hi : i = 4 := by revert hi; revert i; decide
     subst hi
     simp only [go_sem]
     skip
     (simp only [anyS, go_sem]) <;> first | exact ⟨rfl, rfl⟩ | trivial
   ·simp only [go_sem]
    skip
    unfold anyS
    intro i hi
    have hi : i = 1 := by revert hi; revert i; decide
    subst hi
    simp only [go_sem]
    skip
    unfold anyS
    intro i hi
    have hi : i = 2 := by revert hi; revert i; decide
    subst hi
    simp only [go_sem]
    skip
    unfold anyS
    intro i hi
    have hi : i = 4 := by revert hi; revert i; decide
    subst hi
    simp only [go_sem]
    skip
    (simp only [anyS, go_sem]) <;> first | exact ⟨rfl, rfl⟩ | trivial
  ·simp only [go_sem]
   skip
   unfold anyS
   intro i hi
   have hi : i = 0 ∨ i = 2 := by revert hi; revert i; decide
   rcases hi with rfl | rfl
   ·simp only [go_sem]
    skip
    unfold anyS
    intro i hi
    have hi : i = 2 ∨ i = 3 := by revert hi; revert i; decide
    rcases hi with rfl | rfl
    ·simp only [go_sem]
     skip
     unfold anyS
     intro i hi
     have hi : i = 3 := by revert hi; revert i; decide
     subst hi
     simp only [go_sem]
     skip
     unfold anyS
     intro i hi
     have hi : i = 4 := by revert hi; revert i; decide
     subst hi
     simp only [go_sem]
     skip
     (simp only [anyS, go_sem]) <;> first | exact ⟨rfl, rfl⟩ | trivial
    ·simp only [go_sem]
     skip
     unfold anyS
     intro i hi
     have hi : i = 2 := by revert hi; revert i; decide
     subst hi
     simp only [go_sem]
     skip
     unfold anyS
     intro i hi
     have hi : i = 4 := by revert hi; revert i; decide
     subst hi
     simp only [go_sem]
     skip
     (simp only [anyS, go_sem]) <;> first | exact ⟨rfl, rfl⟩ | trivial
   ·simp only [go_sem]
    skip
    unfold anyS
    intro i hi
    have hi : i = 0 := by revert hi; revert i; decide
    subst hi
    simp only [go_sem]
    skip
    unfold anyS
    intro i hi
    have hi : i = 3 := by revert hi; revert i; decide
    subst hi
    simp only [go_sem]
    skip
    unfold anyS
    intro i hi
    have hi : i = 4 := by revert hi; revert i; decide
    subst hi
    simp only [go_sem]
    skip
    (simp only [anyS, go_sem]) <;> first | exact ⟨rfl, rfl⟩ | trivial
 refine aAP [0, 1] rfl rfl ?_
 simp only [ren, gN, nM, posOf, fG, go_sem]
 refine zC (tD hF [] rfl rfl rfl rfl rfl rfl ?_)
 simp only [bA, xQ, wO, go_sem]
 try decide
noncomputable def cO (c0 : Bool) (c1 : (List Nat)) (c2 : Int) : Option ((Bool × ((List Nat) × (Int × Unit))) × Int × Unit) :=
 (nR c0 c1 c2).bind fun q => some (match q with | .inl r => (r, 0, ()) | .inr p => ((false, ([] : List Nat), (0 : Int), ()), p.1, ()))
def pC : Ty := .pair (.clo 105 (.pair (.rp .bool) (.pair (.rp (.sl (.u .u64))) (.pair (.rp (.i .i64)) .unit)))) .unit
noncomputable def gH : aL := mSpec pC (.tup (.pair (.pair .bool (.pair (.sl (.u .u64)) (.pair (.i .i64) .unit))) (.pair (.i .i64) .unit))) (fun x => cO x.1.1 x.1.2.1 x.1.2.2.1)
set_option maxHeartbeats 4000000 in
theorem wV : FOK Tryz.prog GL 104 gH := by
 refine aB5 (bI sH) Tryz.func104 rfl (by kernel_rfl) (by decide) fun w0 S x r hw h => ?_
 have hF : jB (fr Tryz.prog (EM []) S w0 Tryz.f104.ntmps) := ⟨bI sH, mix⟩
 obtain ⟨⟨(c0 : Bool), (c1 : (List Nat)), (c2 : Int), u1⟩, u⟩ := x
 replace h : cO c0 c1 c2 = some r := h
 show Tri _ _ _ [(0, .val (.clo 105 (.pair (.rp .bool) (.pair (.rp (.sl (.u .u64))) (.pair (.rp (.i .i64)) .unit)))) (c0, c1, c2, u1))] []
 unfold cO at h
 obtain ⟨q, hq, h⟩ := bind_some h
 obtain rfl := Option.some.inj h
 refine aD (bO hF [0, 2, 3] ?_)
 simp only [go_sem]
 refine aF (wP 2 [0, 1] rfl rfl (Nat.zero_le _) (by decide) fun roots hroots => ?_)
 have hF' : jB { fr Tryz.prog (EM []) S w0 Tryz.f104.ntmps with M := ⟨nothing, S, 2, roots⟩, ds := [⟨.fn (.func 150) ([0, 1].map roots).toArray, #[]⟩] } := ⟨bI sH, mix⟩
 rcases q with q | q
 ·refine aD (aW hF' (bY (l := [(105, ⟨oI, [], (c0, c1, c2, .inl q)⟩)]) (.cons aBK (by kernel_rfl) .nil)) [2, 3] [] ?_)
  simp only [go_sem]
  refine ⟨hq, ?_⟩
  refine aF (cW ?_)
  refine aJW (fn := Tryz.f104) (k := 2) (l2 := [0, 1]) hF' rfl rfl (by decide) rfl (zA (by kernel_rfl)) ⟨iW, [0, 1], (q, 0)⟩ aA3 rfl [.cell 2 25, .cell 3 3] rfl ?_ ?_
  ·(simp only [iW, go_sem]) <;> first | decide | trivial
  ·(simp only [iW, bA, jD, go_sem]) <;> first | decide | trivial
 ·refine aD (aW hF' (bY (l := [(105, ⟨oI, [], (c0, c1, c2, .inr q)⟩)]) (.cons aBK (by kernel_rfl) .nil)) [2, 3] [] ?_)
  simp only [go_sem]
  refine ⟨hq, ?_⟩
  refine eK ?_
  refine aJX (fn := Tryz.f104) (k := 2) (l2 := [0, 1]) hF' rfl rfl (by decide) rfl (zA (by kernel_rfl)) ⟨iX q, [0, 1], ((false, ([] : List Nat), (0 : Int), ()), 0)⟩ (aA4 q) rfl [.cell 2 25, .cell 3 3] rfl ?_ ?_
  ·(simp only [iX, go_sem]) <;> first | decide | trivial
  ·(simp only [iX, bA, jD, go_sem]) <;> first | decide | trivial
attribute [go_sem] gH pC
noncomputable def bJ (neg_0 : Bool) (m_1 : (List Nat)) (e_2 : Int) : Option ((Bool × ((List Nat) × (Int × Unit))) × (Int × Unit)) :=
 ck (((cO neg_0 m_1 e_2).isSome = true)) (some ((((cO neg_0 m_1 e_2).getD ((false, ([] : List Nat), (0 : Int), ()), (0 : Int), ())).1), ((((cO neg_0 m_1 e_2).getD ((false, ([] : List Nat), (0 : Int), ()), (0 : Int), ())).2).1), ()))
def zP : Ty := .pair .bool (.pair (.sl (.u .u64)) (.pair (.i .i64) .unit))
attribute [go_sem] zP
noncomputable def iY : aL := mSpec zP (.tup (.pair (.pair .bool (.pair (.sl (.u .u64)) (.pair (.i .i64) .unit))) (.pair (.i .i64) .unit))) (fun x => bJ x.1 x.2.1 x.2.2.1)
noncomputable def aCe : List (FuncId × aL) := [(104, gH)]
theorem aGV : bW Tryz.prog GL aCe := .cons wV (by kernel_rfl) (.nil)
theorem aGW : gam aCe 104 = some gH := rfl
attribute [go_sem] aGW
set_option maxHeartbeats 4000000 in
theorem wA : FOK Tryz.prog GL 54 iY := by
 refine rF (bI aGV) Tryz.func54 rfl (by kernel_rfl) (by decide) fun w0 S x r hw h => ?_
 have hF : jB (fr Tryz.prog (EM aCe) S w0 Tryz.f54.ntmps) := ⟨bI aGV, mix⟩
 obtain ⟨(neg_0 : Bool), (m_1 : (List Nat)), (e_2 : Int), u⟩ := x
 simp only [zP, Ty.wf, mJ] at hw
 simp only [cF, zP]
 try dsimp only at h
 unfold bJ at h
 refine aD (bO hF [3, 4, 5, 6] ?_)
 simp only [go_sem]
 refine aF (aD (oE 0 rfl ?_))
 simp only [go_sem]
 refine oE 1 rfl ?_
 simp only [go_sem]
 refine oE 2 rfl ?_
 simp only [go_sem]
 refine bO hF [6, 7] ?_
 simp only [go_sem]
 obtain ⟨g0, h⟩ := aH h
 repeat (refine ⟨by first | with_reducible assumption | omega | (intros; first | assumption | omega) | (simp only [go_sem] at *; first | assumption | omega) | decide, ?_⟩)
 obtain rfl := Option.some.inj h
 refine aF (cW (iL hF [.cell 6 25, .tmp 7] rfl rfl rfl ?_))
 (try simp only [jD, bA, go_sem]) <;> first | rfl | (simp; done)
attribute [go_sem] iY
end Nu
end Go.Proofs
namespace Go.Proofs
open Go.Vc
set_option maxRecDepth 20000
namespace Nu
abbrev tH (a : List Nat) (n : Int) : Prop := a.length ≤ n ∧ n ≤ 1099511627777
def cS (a : List Nat) (n : Int) : List Nat := a ++ List.replicate (n.toNat - a.length) 0
noncomputable def qC (a_0 : (List Nat)) (n_1 : Int) : Option (List Nat) :=
 ck ((aMO a_0)) (ck (I64 (n_1 - (((a_0.length) : Nat) : Int))) (ck (0 ≤ (n_1 - (((a_0.length) : Nat) : Int))) (ck ((((id a_0).length) + ((n_1 - (((a_0.length) : Nat) : Int)).toNat)) * 8 ≤ 140737488355328) (some ((id a_0) ++ (List.replicate ((n_1 - (((a_0.length) : Nat) : Int)).toNat) (0 : Nat)))))))
theorem aGX (a : List Nat) (wa : (Ty.sl (.u .u64)).wf a) (n : Int) (wn : (Ty.i .i64).wf n) (hp : tH a n) : qC a n = some (cS a n) := by
 obtain ⟨h1, h2⟩ := hp
 have h64 : aMO a := by show a.length * 8 ≤ _; omega
 unfold qC cS
 simp only [id]
 refine aB h64 (aB (by constructor <;> omega) (aB (by omega) (aB (by omega) ?_)))
 rw [show (n - (a.length : Int)).toNat = n.toNat - a.length from by omega]
noncomputable def qD (v_1 : (List Nat)) (un_0 : Nat) (uo_0 : Nat) (x_13 : Nat) (carry_31 : Nat) (u_32 : (List Nat)) : Option (((Nat × (List Nat)))) :=
 ck (0 ≤ (((v_1.length) : Nat) : Int) ∧ (((v_1.length) : Nat) : Int) < ((un_0 : Nat) : Int)) (ck (uo_0 + (v_1.length) < (u_32.length)) (ck (0 ≤ (((v_1.length) : Nat) : Int) ∧ (((v_1.length) : Nat) : Int) < ((un_0 : Nat) : Int)) (ck (uo_0 + (v_1.length) < (u_32.length)) (some ((iD .u64 x_13 (1 : Nat)), (u_32.set (uo_0 + (v_1.length)) (((u_32.getD (uo_0 + (v_1.length)) (0 : Nat)) + carry_31) % 18446744073709551616)))))))
noncomputable def gZ (v_1 : (List Nat)) (un_0 : Nat) (uo_0 : Nat) (carry_33 : Nat) (x159_34 : Int) (u_35 : (List Nat)) : Option ((Nat × Int × (List Nat)) ⊕ ((Nat × (List Nat)))) :=
 if x159_34 < (((v_1.length) : Nat) : Int) then ck (0 ≤ x159_34 ∧ x159_34 < (((v_1.length) : Nat) : Int)) (ck (0 ≤ x159_34 ∧ x159_34 < ((un_0 : Nat) : Int)) (ck (uo_0 + (x159_34.toNat) < (u_35.length)) (ck ((uP (u_35.getD (uo_0 + (x159_34.toNat)) (0 : Nat)) (v_1.getD (x159_34.toNat) (0 : Nat)) carry_33)) (ck (0 ≤ x159_34 ∧ x159_34 < ((un_0 : Nat) : Int)) (ck (uo_0 + (x159_34.toNat) < (u_35.length)) (ck (I64 (x159_34 + (1 : Int))) (some (.inl ((((eU (u_35.getD (uo_0 + (x159_34.toNat)) (0 : Nat)) (v_1.getD (x159_34.toNat) (0 : Nat)) carry_33).2).1), (x159_34 + (1 : Int)), (u_35.set (uo_0 + (x159_34.toNat)) ((eU (u_35.getD (uo_0 + (x159_34.toNat)) (0 : Nat)) (v_1.getD (x159_34.toNat) (0 : Nat)) carry_33).1))))))))))) else some (.inr (carry_33, u_35))
noncomputable def qE (v_1 : (List Nat)) (un_0 : Nat) (uo_0 : Nat) (x_13 : Nat) (carry_22 : Nat) (borrow_23 : Nat) (u_24 : (List Nat)) : Option (((Nat × (List Nat)))) :=
 ck (0 ≤ (((v_1.length) : Nat) : Int) ∧ (((v_1.length) : Nat) : Int) < ((un_0 : Nat) : Int)) (ck (uo_0 + (v_1.length) < (u_24.length)) (ck ((uP (u_24.getD (uo_0 + (v_1.length)) (0 : Nat)) carry_22 borrow_23)) (ck (0 ≤ (((v_1.length) : Nat) : Int) ∧ (((v_1.length) : Nat) : Int) < ((un_0 : Nat) : Int)) (ck (uo_0 + (v_1.length) < (u_24.length)) (if (((uN (u_24.getD (uo_0 + (v_1.length)) (0 : Nat)) carry_22 borrow_23).2).1) = (0 : Nat) then some (x_13, (u_24.set (uo_0 + (v_1.length)) ((uN (u_24.getD (uo_0 + (v_1.length)) (0 : Nat)) carry_22 borrow_23).1))) else (dC (fun d : Nat × Int × (List Nat) => gZ v_1 un_0 uo_0 d.1 d.2.1 d.2.2) ((0 : Nat), (0 : Int), (u_24.set (uo_0 + (v_1.length)) ((uN (u_24.getD (uo_0 + (v_1.length)) (0 : Nat)) carry_22 borrow_23).1)))).bind (fun e => qD v_1 un_0 uo_0 x_13 e.1 e.2))))))
noncomputable def hO (v_1 : (List Nat)) (x_13 : Nat) (un_0 : Nat) (uo_0 : Nat) (carry_41 : Nat) (borrow_42 : Nat) (x107_43 : Int) (u_44 : (List Nat)) : Option ((Nat × Nat × Int × (List Nat)) ⊕ ((Nat × Nat × (List Nat)))) :=
 if x107_43 < (((v_1.length) : Nat) : Int) then ck (0 ≤ x107_43 ∧ x107_43 < (((v_1.length) : Nat) : Int)) (ck ((uP (((bH x_13 (v_1.getD (x107_43.toNat) (0 : Nat))).2).1) carry_41 (0 : Nat))) (ck (0 ≤ x107_43 ∧ x107_43 < ((un_0 : Nat) : Int)) (ck (uo_0 + (x107_43.toNat) < (u_44.length)) (ck ((uP (u_44.getD (uo_0 + (x107_43.toNat)) (0 : Nat)) ((eU (((bH x_13 (v_1.getD (x107_43.toNat) (0 : Nat))).2).1) carry_41 (0 : Nat)).1) borrow_42)) (ck (0 ≤ x107_43 ∧ x107_43 < ((un_0 : Nat) : Int)) (ck (uo_0 + (x107_43.toNat) < (u_44.length)) (ck (I64 (x107_43 + (1 : Int))) (some (.inl (((((bH x_13 (v_1.getD (x107_43.toNat) (0 : Nat))).1) + (((eU (((bH x_13 (v_1.getD (x107_43.toNat) (0 : Nat))).2).1) carry_41 (0 : Nat)).2).1)) % 18446744073709551616), (((uN (u_44.getD (uo_0 + (x107_43.toNat)) (0 : Nat)) ((eU (((bH x_13 (v_1.getD (x107_43.toNat) (0 : Nat))).2).1) carry_41 (0 : Nat)).1) borrow_42).2).1), (x107_43 + (1 : Int)), (u_44.set (uo_0 + (x107_43.toNat)) ((uN (u_44.getD (uo_0 + (x107_43.toNat)) (0 : Nat)) ((eU (((bH x_13 (v_1.getD (x107_43.toNat) (0 : Nat))).2).1) carry_41 (0 : Nat)).1) borrow_42).1)))))))))))) else some (.inr (carry_41, borrow_42, u_44))
noncomputable def nB (v_1 : (List Nat)) (un_0 : Nat) (uo_0 : Nat) (o0_2 : (List Nat)) (x_13 : Nat) : Option (((Nat × (List Nat)))) :=
 (dC (fun d : Nat × Nat × Int × (List Nat) => hO v_1 x_13 un_0 uo_0 d.1 d.2.1 d.2.2.1 d.2.2.2) ((0 : Nat), (0 : Nat), (0 : Int), o0_2)).bind (fun e => qE v_1 un_0 uo_0 x_13 e.1 e.2.1 e.2.2)
noncomputable def jI (v_1 : (List Nat)) (un_0 : Nat) (uo_0 : Nat) (o0_2 : (List Nat)) (x_52 : Nat) (rest_53 : Nat) (over_54 : Nat) : Option ((Nat × Nat × Nat) ⊕ ((Nat))) :=
 if over_54 = (0 : Nat) then ck (I64 ((((v_1.length) : Nat) : Int) - (2 : Int))) (ck (0 ≤ ((((v_1.length) : Nat) : Int) - (2 : Int)) ∧ ((((v_1.length) : Nat) : Int) - (2 : Int)) < (((v_1.length) : Nat) : Int)) (ck ((¬ (((bH x_52 (v_1.getD (((((v_1.length) : Nat) : Int) - (2 : Int)).toNat) (0 : Nat))).1) < rest_53) → (((bH x_52 (v_1.getD (((((v_1.length) : Nat) : Int) - (2 : Int)).toNat) (0 : Nat))).1) = rest_53) → (I64 ((((v_1.length) : Nat) : Int) - (2 : Int))))) (ck ((¬ (((bH x_52 (v_1.getD (((((v_1.length) : Nat) : Int) - (2 : Int)).toNat) (0 : Nat))).1) < rest_53) → (((bH x_52 (v_1.getD (((((v_1.length) : Nat) : Int) - (2 : Int)).toNat) (0 : Nat))).1) = rest_53) → (0 ≤ ((((v_1.length) : Nat) : Int) - (2 : Int)) ∧ ((((v_1.length) : Nat) : Int) - (2 : Int)) < ((un_0 : Nat) : Int) ∧ uo_0 + (((((v_1.length) : Nat) : Int) - (2 : Int)).toNat) < (o0_2.length)))) (if (((bH x_52 (v_1.getD (((((v_1.length) : Nat) : Int) - (2 : Int)).toNat) (0 : Nat))).1) < rest_53) ∨ ((((bH x_52 (v_1.getD (((((v_1.length) : Nat) : Int) - (2 : Int)).toNat) (0 : Nat))).1) = rest_53) ∧ ((((bH x_52 (v_1.getD (((((v_1.length) : Nat) : Int) - (2 : Int)).toNat) (0 : Nat))).2).1) ≤ (o0_2.getD (uo_0 + (((((v_1.length) : Nat) : Int) - (2 : Int)).toNat)) (0 : Nat)))) then some (.inr x_52) else ck (I64 ((((v_1.length) : Nat) : Int) - (1 : Int))) (ck (0 ≤ ((((v_1.length) : Nat) : Int) - (1 : Int)) ∧ ((((v_1.length) : Nat) : Int) - (1 : Int)) < (((v_1.length) : Nat) : Int)) (ck ((uP rest_53 (v_1.getD (((((v_1.length) : Nat) : Int) - (1 : Int)).toNat) (0 : Nat)) (0 : Nat))) (some (.inl ((iD .u64 x_52 (1 : Nat)), ((eU rest_53 (v_1.getD (((((v_1.length) : Nat) : Int) - (1 : Int)).toNat) (0 : Nat)) (0 : Nat)).1), (((eU rest_53 (v_1.getD (((((v_1.length) : Nat) : Int) - (1 : Int)).toNat) (0 : Nat)) (0 : Nat)).2).1)))))))))) else some (.inr x_52)
noncomputable def kY (v_1 : (List Nat)) (un_0 : Nat) (uo_0 : Nat) (o0_2 : (List Nat)) (x_4 : Nat) (rest_5 : Nat) (over_6 : Nat) : Option (((Nat × (List Nat)))) :=
 (dC (fun d : Nat × Nat × Nat => jI v_1 un_0 uo_0 o0_2 d.1 d.2.1 d.2.2) (x_4, rest_5, over_6)).bind (fun e => nB v_1 un_0 uo_0 o0_2 e)
noncomputable def pD (uo_0 : Nat) (un_0 : Nat) (v_1 : (List Nat)) (o0_2 : (List Nat)) : Option ((Nat × (List Nat))) :=
 ck (0 ≤ (((v_1.length) : Nat) : Int) ∧ (((v_1.length) : Nat) : Int) < ((un_0 : Nat) : Int)) (ck (uo_0 + (v_1.length) < (o0_2.length)) (ck (I64 ((((v_1.length) : Nat) : Int) - (1 : Int))) (ck (0 ≤ ((((v_1.length) : Nat) : Int) - (1 : Int)) ∧ ((((v_1.length) : Nat) : Int) - (1 : Int)) < (((v_1.length) : Nat) : Int)) (if (o0_2.getD (uo_0 + (v_1.length)) (0 : Nat)) < (v_1.getD (((((v_1.length) : Nat) : Int) - (1 : Int)).toNat) (0 : Nat)) then ck (0 ≤ (((v_1.length) : Nat) : Int) ∧ (((v_1.length) : Nat) : Int) < ((un_0 : Nat) : Int)) (ck (uo_0 + (v_1.length) < (o0_2.length)) (ck (I64 ((((v_1.length) : Nat) : Int) - (1 : Int))) (ck (0 ≤ ((((v_1.length) : Nat) : Int) - (1 : Int)) ∧ ((((v_1.length) : Nat) : Int) - (1 : Int)) < ((un_0 : Nat) : Int)) (ck (uo_0 + (((((v_1.length) : Nat) : Int) - (1 : Int)).toNat) < (o0_2.length)) (ck (I64 ((((v_1.length) : Nat) : Int) - (1 : Int))) (ck (0 ≤ ((((v_1.length) : Nat) : Int) - (1 : Int)) ∧ ((((v_1.length) : Nat) : Int) - (1 : Int)) < (((v_1.length) : Nat) : Int)) (ck ((tE (o0_2.getD (uo_0 + (v_1.length)) (0 : Nat)) (o0_2.getD (uo_0 + (((((v_1.length) : Nat) : Int) - (1 : Int)).toNat)) (0 : Nat)) (v_1.getD (((((v_1.length) : Nat) : Int) - (1 : Int)).toNat) (0 : Nat)))) (kY v_1 un_0 uo_0 o0_2 ((iN (o0_2.getD (uo_0 + (v_1.length)) (0 : Nat)) (o0_2.getD (uo_0 + (((((v_1.length) : Nat) : Int) - (1 : Int)).toNat)) (0 : Nat)) (v_1.getD (((((v_1.length) : Nat) : Int) - (1 : Int)).toNat) (0 : Nat))).1) (((iN (o0_2.getD (uo_0 + (v_1.length)) (0 : Nat)) (o0_2.getD (uo_0 + (((((v_1.length) : Nat) : Int) - (1 : Int)).toNat)) (0 : Nat)) (v_1.getD (((((v_1.length) : Nat) : Int) - (1 : Int)).toNat) (0 : Nat))).2).1) (0 : Nat))))))))) else ck (I64 ((((v_1.length) : Nat) : Int) - (1 : Int))) (ck (0 ≤ ((((v_1.length) : Nat) : Int) - (1 : Int)) ∧ ((((v_1.length) : Nat) : Int) - (1 : Int)) < ((un_0 : Nat) : Int)) (ck (uo_0 + (((((v_1.length) : Nat) : Int) - (1 : Int)).toNat) < (o0_2.length)) (ck (I64 ((((v_1.length) : Nat) : Int) - (1 : Int))) (ck (0 ≤ ((((v_1.length) : Nat) : Int) - (1 : Int)) ∧ ((((v_1.length) : Nat) : Int) - (1 : Int)) < (((v_1.length) : Nat) : Int)) (ck ((uP (o0_2.getD (uo_0 + (((((v_1.length) : Nat) : Int) - (1 : Int)).toNat)) (0 : Nat)) (v_1.getD (((((v_1.length) : Nat) : Int) - (1 : Int)).toNat) (0 : Nat)) (0 : Nat))) (kY v_1 un_0 uo_0 o0_2 (18446744073709551615 : Nat) ((eU (o0_2.getD (uo_0 + (((((v_1.length) : Nat) : Int) - (1 : Int)).toNat)) (0 : Nat)) (v_1.getD (((((v_1.length) : Nat) : Int) - (1 : Int)).toNat) (0 : Nat)) (0 : Nat)).1) (((eU (o0_2.getD (uo_0 + (((((v_1.length) : Nat) : Int) - (1 : Int)).toNat)) (0 : Nat)) (v_1.getD (((((v_1.length) : Nat) : Int) - (1 : Int)).toNat) (0 : Nat)) (0 : Nat)).2).1)))))))))))
end Nu
end Go.Proofs
