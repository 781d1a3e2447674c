import Derived.Test.YtabdejmolnikaaaDoorZL5
import Derived.Test.YtabdejmolnikaaaDoorProg
import Derived.KernelRfl
import Derived.Laws.Externs
import Derived.Lib.TrailingZeros
set_option linter.unusedVariables false
set_option linter.unusedSimpArgs false
namespace Go.Proofs
open Go.Vc
set_option maxRecDepth 20000
namespace Nu
theorem tz64_ex : ∃ l : List Nat, l = [0, 1, 56, 2, 57, 49, 28, 3, 61, 58, 42, 50, 38, 29, 17, 4, 62, 47, 59, 36, 45, 43, 51, 22, 53, 39, 33, 30, 24, 18, 12, 5, 63, 55, 48, 27, 60, 41, 37, 16, 46, 35, 44, 21, 52, 32, 23, 11, 54, 26, 40, 15, 34, 20, 31, 10, 25, 14, 19, 9, 13, 8, 7, 6] := ⟨_, rfl⟩
noncomputable def tz64 : List Nat := Classical.choose tz64_ex
theorem tz64_is : tz64 = [0, 1, 56, 2, 57, 49, 28, 3, 61, 58, 42, 50, 38, 29, 17, 4, 62, 47, 59, 36, 45, 43, 51, 22, 53, 39, 33, 30, 24, 18, 12, 5, 63, 55, 48, 27, 60, 41, 37, 16, 46, 35, 44, 21, 52, 32, 23, 11, 54, 26, 40, 15, 34, 20, 31, 10, 25, 14, 19, 9, 13, 8, 7, 6] := Classical.choose_spec tz64_ex
theorem p10_ex : ∃ l : List Nat, l = [1, 10, 100, 1000, 10000, 100000, 1000000, 10000000, 100000000, 1000000000, 10000000000, 100000000000, 1000000000000, 10000000000000, 100000000000000, 1000000000000000, 10000000000000000, 100000000000000000, 1000000000000000000, 10000000000000000000] := ⟨_, rfl⟩
noncomputable def p10 : List Nat := Classical.choose p10_ex
theorem p10_is : p10 = [1, 10, 100, 1000, 10000, 100000, 1000000, 10000000, 100000000, 1000000000, 10000000000, 100000000000, 1000000000000, 10000000000000, 100000000000000, 1000000000000000, 10000000000000000, 100000000000000000, 1000000000000000000, 10000000000000000000] := Classical.choose_spec p10_ex
noncomputable def GL : Nat → AV
  | 0 => .roa (.arr 64 (.u .u8)) tz64
  | 1 => .roa (.arr 20 (.u .u64)) p10
  | _ => .junk
theorem GL0 : GL 0 = .roa (.arr 64 (.u .u8)) tz64 := rfl
theorem GL3 : GL 1 = .roa (.arr 20 (.u .u64)) p10 := rfl
attribute [go_sem] GL0 GL3 mSpec
def tab : List (TypeId × Ty) := [(2, .i .i64), (3, .i .i64), (4, .bool), (5, .u .u8), (9, .str), (21, .i .i32), (22, .sl (.pair (.i .i64) (.pair (.i .i64) (.pair (.i .i64) (.pair (.pair .bool (.pair (.sl (.u .u64)) (.pair (.i .i64) .unit))) (.pair (.pair .bool (.pair (.sl (.u .u64)) (.pair (.i .i64) .unit))) (.pair (.sl (.sl (.pair (.pair .bool (.pair (.sl (.u .u64)) (.pair (.i .i64) .unit))) (.pair (.pair .bool (.pair (.sl (.u .u64)) (.pair (.i .i64) .unit))) .unit)))) (.pair (.sl (.sl (.pair (.sl (.pair .bool (.pair (.sl (.u .u64)) (.pair (.i .i64) .unit)))) (.pair (.sl (.pair (.pair .bool (.pair (.sl (.u .u64)) (.pair (.i .i64) .unit))) (.pair (.pair .bool (.pair (.sl (.u .u64)) (.pair (.i .i64) .unit))) .unit))) .unit)))) .unit)))))))), (24, .u .u64), (26, .sl (.u .u64)), (28, .pair .bool (.pair (.sl (.u .u64)) (.pair (.i .i64) .unit))), (29, .sl (.sl (.pair (.pair .bool (.pair (.sl (.u .u64)) (.pair (.i .i64) .unit))) (.pair (.pair .bool (.pair (.sl (.u .u64)) (.pair (.i .i64) .unit))) .unit)))), (30, .sl (.sl (.pair (.sl (.pair .bool (.pair (.sl (.u .u64)) (.pair (.i .i64) .unit)))) (.pair (.sl (.pair (.pair .bool (.pair (.sl (.u .u64)) (.pair (.i .i64) .unit))) (.pair (.pair .bool (.pair (.sl (.u .u64)) (.pair (.i .i64) .unit))) .unit))) .unit)))), (32, .pair (.i .i64) (.pair (.i .i64) (.pair (.i .i64) (.pair (.pair .bool (.pair (.sl (.u .u64)) (.pair (.i .i64) .unit))) (.pair (.pair .bool (.pair (.sl (.u .u64)) (.pair (.i .i64) .unit))) (.pair (.sl (.sl (.pair (.pair .bool (.pair (.sl (.u .u64)) (.pair (.i .i64) .unit))) (.pair (.pair .bool (.pair (.sl (.u .u64)) (.pair (.i .i64) .unit))) .unit)))) (.pair (.sl (.sl (.pair (.sl (.pair .bool (.pair (.sl (.u .u64)) (.pair (.i .i64) .unit)))) (.pair (.sl (.pair (.pair .bool (.pair (.sl (.u .u64)) (.pair (.i .i64) .unit))) (.pair (.pair .bool (.pair (.sl (.u .u64)) (.pair (.i .i64) .unit))) .unit))) .unit)))) .unit))))))), (41, .sl .str), (43, .pair (.pair .bool (.pair (.sl (.u .u64)) (.pair (.i .i64) .unit))) (.pair (.pair .bool (.pair (.sl (.u .u64)) (.pair (.i .i64) .unit))) .unit)), (48, .u .u64), (51, .sl (.pair (.pair .bool (.pair (.sl (.u .u64)) (.pair (.i .i64) .unit))) (.pair (.pair .bool (.pair (.sl (.u .u64)) (.pair (.i .i64) .unit))) .unit))), (52, .sl (.pair (.sl (.pair .bool (.pair (.sl (.u .u64)) (.pair (.i .i64) .unit)))) (.pair (.sl (.pair (.pair .bool (.pair (.sl (.u .u64)) (.pair (.i .i64) .unit))) (.pair (.pair .bool (.pair (.sl (.u .u64)) (.pair (.i .i64) .unit))) .unit))) .unit))), (54, .sl (.pair .bool (.pair (.sl (.u .u64)) (.pair (.i .i64) .unit)))), (56, .pair (.sl (.pair .bool (.pair (.sl (.u .u64)) (.pair (.i .i64) .unit)))) (.pair (.sl (.pair (.pair .bool (.pair (.sl (.u .u64)) (.pair (.i .i64) .unit))) (.pair (.pair .bool (.pair (.sl (.u .u64)) (.pair (.i .i64) .unit))) .unit))) .unit)), (64, .sl (.u .u8)), (68, .nili), (126, .arr 64 (.u .u8)), (127, .u .u32), (131, .pair (.i .i64) .unit), (134, .pair (.i .i64) .unit), (137, .arr 24 (.u .u8)), (143, .i .i64), (150, .arr 20 (.u .u64)), (151, .arr 65 (.u .u8)), (164, .pair .str .unit), (165, .arr 32 (.u .u8))]
def elT : TypeId → TypeId
  | 22 => 32
  | 26 => 48
  | 29 => 51
  | 30 => 52
  | 41 => 9
  | 51 => 43
  | 52 => 56
  | 54 => 28
  | 64 => 5
  | _ => 0
def mpT : TypeId → Option (TypeId × TypeId)
  | 61 => some (3, 9)
  | _ => none
theorem tabOK : TabOK Tryd.prog (look2 tab) := tabOK_of (by kernel_rfl)
theorem elOK : ∀ t ct, look2 tab t = some (.sl ct) → Tryd.prog.underlying t = some (.slice (elT t)) := elOK_of (by kernel_rfl)
theorem mpOK : ∀ t k e, mpT t = some (k, e) → Tryd.prog.underlying t = some (.map k e) := by
  intro t k e h
  unfold mpT at h
  split at h
  · cases h; rfl
  · cases h
def TM : Tab := look2 tab
noncomputable def EM (l : List (FuncId × FSpec)) : Env := ⟨TM, GL, fun f _ => gam l f, elT, mpT⟩
theorem EM_T (l : List (FuncId × FSpec)) (t : TypeId) : (EM l).T t = TM t := rfl
theorem EM_G (l : List (FuncId × FSpec)) (t : Nat) : (EM l).G t = GL t := rfl
theorem EM_Γ (l : List (FuncId × FSpec)) (f : FuncId) (vs : List AV) : (EM l).Γ f vs = gam l f := rfl
theorem EM_el (l : List (FuncId × FSpec)) (t : TypeId) : (EM l).el t = elT t := rfl
theorem EM_mp (l : List (FuncId × FSpec)) (t : TypeId) : (EM l).mp t = mpT t := rfl
theorem EM_ok {l : List (FuncId × FSpec)} (h : Known Tryd.prog GL l) : EnvOK Tryd.prog (EM l) := envOK_of tabOK elOK mpOK h
theorem mix : Tryd.prog.follows .mixedOrders = true := by kernel_rfl
theorem T2 : TM 2 = some (.i .i64) := rfl
theorem T3 : TM 3 = some (.i .i64) := rfl
theorem T4 : TM 4 = some (.bool) := rfl
theorem T5 : TM 5 = some (.u .u8) := rfl
theorem T9 : TM 9 = some (.str) := rfl
theorem T21 : TM 21 = some (.i .i32) := rfl
theorem T22 : TM 22 = some (.sl (.pair (.i .i64) (.pair (.i .i64) (.pair (.i .i64) (.pair (.pair .bool (.pair (.sl (.u .u64)) (.pair (.i .i64) .unit))) (.pair (.pair .bool (.pair (.sl (.u .u64)) (.pair (.i .i64) .unit))) (.pair (.sl (.sl (.pair (.pair .bool (.pair (.sl (.u .u64)) (.pair (.i .i64) .unit))) (.pair (.pair .bool (.pair (.sl (.u .u64)) (.pair (.i .i64) .unit))) .unit)))) (.pair (.sl (.sl (.pair (.sl (.pair .bool (.pair (.sl (.u .u64)) (.pair (.i .i64) .unit)))) (.pair (.sl (.pair (.pair .bool (.pair (.sl (.u .u64)) (.pair (.i .i64) .unit))) (.pair (.pair .bool (.pair (.sl (.u .u64)) (.pair (.i .i64) .unit))) .unit))) .unit)))) .unit)))))))) := rfl
theorem T24 : TM 24 = some (.u .u64) := rfl
theorem T26 : TM 26 = some (.sl (.u .u64)) := rfl
theorem T28 : TM 28 = some (.pair .bool (.pair (.sl (.u .u64)) (.pair (.i .i64) .unit))) := rfl
theorem T29 : TM 29 = some (.sl (.sl (.pair (.pair .bool (.pair (.sl (.u .u64)) (.pair (.i .i64) .unit))) (.pair (.pair .bool (.pair (.sl (.u .u64)) (.pair (.i .i64) .unit))) .unit)))) := rfl
theorem T30 : TM 30 = some (.sl (.sl (.pair (.sl (.pair .bool (.pair (.sl (.u .u64)) (.pair (.i .i64) .unit)))) (.pair (.sl (.pair (.pair .bool (.pair (.sl (.u .u64)) (.pair (.i .i64) .unit))) (.pair (.pair .bool (.pair (.sl (.u .u64)) (.pair (.i .i64) .unit))) .unit))) .unit)))) := rfl
theorem T32 : TM 32 = some (.pair (.i .i64) (.pair (.i .i64) (.pair (.i .i64) (.pair (.pair .bool (.pair (.sl (.u .u64)) (.pair (.i .i64) .unit))) (.pair (.pair .bool (.pair (.sl (.u .u64)) (.pair (.i .i64) .unit))) (.pair (.sl (.sl (.pair (.pair .bool (.pair (.sl (.u .u64)) (.pair (.i .i64) .unit))) (.pair (.pair .bool (.pair (.sl (.u .u64)) (.pair (.i .i64) .unit))) .unit)))) (.pair (.sl (.sl (.pair (.sl (.pair .bool (.pair (.sl (.u .u64)) (.pair (.i .i64) .unit)))) (.pair (.sl (.pair (.pair .bool (.pair (.sl (.u .u64)) (.pair (.i .i64) .unit))) (.pair (.pair .bool (.pair (.sl (.u .u64)) (.pair (.i .i64) .unit))) .unit))) .unit)))) .unit))))))) := rfl
theorem T41 : TM 41 = some (.sl .str) := rfl
theorem T43 : TM 43 = some (.pair (.pair .bool (.pair (.sl (.u .u64)) (.pair (.i .i64) .unit))) (.pair (.pair .bool (.pair (.sl (.u .u64)) (.pair (.i .i64) .unit))) .unit)) := rfl
theorem T48 : TM 48 = some (.u .u64) := rfl
theorem T51 : TM 51 = some (.sl (.pair (.pair .bool (.pair (.sl (.u .u64)) (.pair (.i .i64) .unit))) (.pair (.pair .bool (.pair (.sl (.u .u64)) (.pair (.i .i64) .unit))) .unit))) := rfl
theorem T52 : TM 52 = some (.sl (.pair (.sl (.pair .bool (.pair (.sl (.u .u64)) (.pair (.i .i64) .unit)))) (.pair (.sl (.pair (.pair .bool (.pair (.sl (.u .u64)) (.pair (.i .i64) .unit))) (.pair (.pair .bool (.pair (.sl (.u .u64)) (.pair (.i .i64) .unit))) .unit))) .unit))) := rfl
theorem T54 : TM 54 = some (.sl (.pair .bool (.pair (.sl (.u .u64)) (.pair (.i .i64) .unit)))) := rfl
theorem T56 : TM 56 = some (.pair (.sl (.pair .bool (.pair (.sl (.u .u64)) (.pair (.i .i64) .unit)))) (.pair (.sl (.pair (.pair .bool (.pair (.sl (.u .u64)) (.pair (.i .i64) .unit))) (.pair (.pair .bool (.pair (.sl (.u .u64)) (.pair (.i .i64) .unit))) .unit))) .unit)) := rfl
theorem T64 : TM 64 = some (.sl (.u .u8)) := rfl
theorem T68 : TM 68 = some (.nili) := rfl
theorem T126 : TM 126 = some (.arr 64 (.u .u8)) := rfl
theorem T127 : TM 127 = some (.u .u32) := rfl
theorem T131 : TM 131 = some (.pair (.i .i64) .unit) := rfl
theorem T134 : TM 134 = some (.pair (.i .i64) .unit) := rfl
theorem T137 : TM 137 = some (.arr 24 (.u .u8)) := rfl
theorem T143 : TM 143 = some (.i .i64) := rfl
theorem T150 : TM 150 = some (.arr 20 (.u .u64)) := rfl
theorem T151 : TM 151 = some (.arr 65 (.u .u8)) := rfl
theorem T164 : TM 164 = some (.pair .str .unit) := rfl
theorem T165 : TM 165 = some (.arr 32 (.u .u8)) := rfl
attribute [go_sem] EM_T EM_G EM_Γ EM_el EM_mp elT mpT T2 T3 T4 T5 T9 T21 T22 T24 T26 T28 T29 T30 T32 T41 T43 T48 T51 T52 T54 T56 T64 T68 T126 T127 T131 T134 T137 T143 T150 T151 T164 T165
end Nu
end Go.Proofs
namespace Go.Proofs
open Go.Vc
set_option maxRecDepth 20000
namespace Nu
def fAdd64 (x y c : Nat) : Nat × Nat × Unit := ((x + y + c) % 18446744073709551616, (x + y + c) / 18446744073709551616, ())
def fSub64 (x y c : Nat) : Nat × Nat × Unit := ((x + 18446744073709551616 - y - c) % 18446744073709551616, (if x < y + c then 1 else 0), ())
abbrev pCarry (x y c : Nat) : Prop := c ≤ 1
def a_bits_Add64 : Ty := .pair (.u .u64) (.pair (.u .u64) (.pair (.u .u64) .unit))
noncomputable def sp_bits_Add64 : FSpec := ⟨a_bits_Add64, .tup (.pair (.u .u64) (.pair (.u .u64) .unit)), fun x => pCarry x.1 x.2.1 x.2.2.1, fun x => fAdd64 x.1 x.2.1 x.2.2.1⟩
attribute [go_sem] sp_bits_Add64 a_bits_Add64
def a_bits_Sub64 : Ty := .pair (.u .u64) (.pair (.u .u64) (.pair (.u .u64) .unit))
noncomputable def sp_bits_Sub64 : FSpec := ⟨a_bits_Sub64, .tup (.pair (.u .u64) (.pair (.u .u64) .unit)), fun x => pCarry x.1 x.2.1 x.2.2.1, fun x => fSub64 x.1 x.2.1 x.2.2.1⟩
attribute [go_sem] sp_bits_Sub64 a_bits_Sub64
theorem rep_u64 {w : World} {S : Nat → Prop} {x : Nat} {v : Value} (h : RepV w S (.u .u64) x v) : v = .int .u64 (x : Int) := by
  unfold RepV at h
  rw [if_neg (by simp [Ty.isAgg])] at h
  simp only [RepC, List.cons.injEq, and_true] at h
  exact h.1
theorem args_u64x3 {w : World} {S : Nat → Prop} {vs : List Value} {x : Nat × Nat × Nat × Unit} (h : ArgsR w S (.pair (.u .u64) (.pair (.u .u64) (.pair (.u .u64) .unit))) x vs) : vs = [.int .u64 (x.1 : Int), .int .u64 (x.2.1 : Int), .int .u64 (x.2.2.1 : Int)] := by
  obtain ⟨v1, r1, rfl, h1, v2, r2, rfl, h2, v3, r3, rfl, h3, h4⟩ := h
  rw [rep_u64 h1, rep_u64 h2, rep_u64 h3]
  have h4 : r3 = [] := h4
  rw [h4]
theorem mk_u64 {w : World} {S : Nat → Prop} {x : Nat} (h : x < 18446744073709551616) : RepV w S (.u .u64) x (.int .u64 (x : Int)) := by
  unfold RepV
  rw [if_neg (by simp [Ty.isAgg])]
  refine ⟨rfl, rfl, ?_⟩
  simp [IntKind.max, IntKind.signed, IntKind.bits]; omega
theorem mk_u64x2 {w : World} {S : Nat → Prop} {x y : Nat} (hx : x < 18446744073709551616) (hy : y < 18446744073709551616) : ArgsR w S (.pair (.u .u64) (.pair (.u .u64) .unit)) (x, y, ()) [.int .u64 (x : Int), .int .u64 (y : Int)] :=
  ⟨_, _, rfl, mk_u64 hx, _, _, rfl, mk_u64 hy, rfl⟩
theorem wf_u64 {x : Nat} (h : (Ty.u .u64).wf x) : x < 18446744073709551616 := by
  simp only [Ty.wf, IntKind.max, IntKind.signed, IntKind.bits] at h
  simp at h; omega
def sub64Entry : Array Value → Sem Value := fun args => do
  let (x, y, b) ← Extern.MathBitsCarry.three "Sub64" args
  pure (Extern.MathBitsCarry.pair ((x + Extern.MathBitsCarry.m64 - y - b) % Extern.MathBitsCarry.m64) (if x < y + b then 1 else 0))
theorem run_sub64 {P : Program} (x y b : Nat) (hb : b ≤ 1) (w : World) :
    (sub64Entry #[.int .u64 x, .int .u64 y, .int .u64 b]).run P w =
      .ok (.tuple #[.int .u64 (((x + 18446744073709551616 - y - b) % 18446744073709551616 : Nat) : Int), .int .u64 ((if x < y + b then 1 else 0 : Nat) : Int)]) w := by
  have : b = 0 ∨ b = 1 := by omega
  rcases this with rfl | rfl <;> rfl
theorem ok_bits_Add64 : NOK Tryd.prog GL 61 sp_bits_Add64 := by
  refine nok_of fun w S vs x ha hp => ?_
  have hp : x.2.2.1 ≤ 1 := hp
  have hw := args_wf _ _ _ ha
  obtain ⟨h1, h2, h3, _⟩ := hw
  have h1 := wf_u64 h1
  have h2 := wf_u64 h2
  rw [args_u64x3 ha]
  refine ⟨[.int .u64 (((x.1 + x.2.1 + x.2.2.1) % 18446744073709551616 : Nat) : Int), .int .u64 (((x.1 + x.2.1 + x.2.2.1) / 18446744073709551616 : Nat) : Int)], ?_, mk_u64x2 (by omega) (by omega)⟩
  rw [run_callFunc_extern Tryd.func61 (by kernel_rfl) (by kernel_rfl) (by kernel_rfl) (e := add64Entry) (by kernel_rfl), run_add64 x.1 x.2.1 x.2.2.1 (by omega) (by omega) (by omega) (by omega)]
  simp only [Result.andThen]
  congr 5 <;> omega
theorem ok_bits_Sub64 : NOK Tryd.prog GL 109 sp_bits_Sub64 := by
  refine nok_of fun w S vs x ha hp => ?_
  have hp : x.2.2.1 ≤ 1 := hp
  have hw := args_wf _ _ _ ha
  obtain ⟨h1, h2, h3, _⟩ := hw
  have h1 := wf_u64 h1
  have h2 := wf_u64 h2
  rw [args_u64x3 ha]
  refine ⟨[.int .u64 (((x.1 + 18446744073709551616 - x.2.1 - x.2.2.1) % 18446744073709551616 : Nat) : Int), .int .u64 ((if x.1 < x.2.1 + x.2.2.1 then 1 else 0 : Nat) : Int)], ?_, mk_u64x2 (by omega) (by split <;> omega)⟩
  rw [run_callFunc_extern Tryd.func109 (by kernel_rfl) (by kernel_rfl) (by kernel_rfl) (e := sub64Entry) (by kernel_rfl), run_sub64 x.1 x.2.1 x.2.2.1 hp]
  rfl
abbrev p64s (s : List Nat) : Prop := s.length * 8 ≤ 140737488355328
def a_slices_Clone_uint64 : Ty := .pair (.sl (.u .u64)) .unit
noncomputable def sp_slices_Clone_uint64 : FSpec := ⟨a_slices_Clone_uint64, .own 48 (.u .u64), fun x => p64s x.1, fun x => id x.1⟩
attribute [go_sem] sp_slices_Clone_uint64 a_slices_Clone_uint64
noncomputable def l_slices_Clone_uint64 : List (FuncId × FSpec) := []
theorem K_slices_Clone_uint64 : Known Tryd.prog GL l_slices_Clone_uint64 := .nil
theorem ok_slices_Clone_uint64 : FOK Tryd.prog GL 64 sp_slices_Clone_uint64 := by
  refine fok_of (EM_ok K_slices_Clone_uint64) Tryd.func64 rfl (by kernel_rfl) (by decide) fun w0 S x hw hp => ?_
  have hF : FrOK (fr Tryd.prog (EM l_slices_Clone_uint64) S w0 Tryd.f64.ntmps) := ⟨EM_ok K_slices_Clone_uint64, mix⟩
  obtain ⟨(s : (List Nat)), u⟩ := x
  have hp : s.length * 8 ≤ 140737488355328 := hp
  simp only [args0, a_slices_Clone_uint64, sp_slices_Clone_uint64]
  refine tri_seq (tri_region hF [0, 2] ?_)
  simp only [go_sem]
  refine at_next (tri_seq (tri_seq (tri_eqnil hF rfl rfl rfl fun b hb => ?_)))
  refine at_next (tri_cond rfl (fun hc => ?_) (fun hc => ?_))
  · have hs := hb hc
    refine tri_seq (tri_region hF [2] ?_)
    simp only [go_sem]
    refine at_next (tri_ret (at_then_ret (at_retC hF [.tmp 2] rfl rfl rfl ?_)))
    simp only [retOK, resE, go_sem, hs]
    try trivial
  · refine tri_skip (at_next (tri_seq (tri_regionB hF [2] ?_)))
    simp only [go_sem]
    refine ⟨by omega, ?_⟩
    refine at_next (tri_ret (at_retC hF [.tmp 2] rfl rfl rfl ?_))
    simp only [retOK, resE, go_sem]
    try trivial
end Nu
end Go.Proofs
namespace Go.Proofs
open Go.Vc
namespace Nu
def nv : List Nat → Nat
  | [] => 0
  | x :: r => x + 18446744073709551616 * nv r
def lb (n : Nat) : List Nat := if h : n = 0 then [] else n % 18446744073709551616 :: lb (n / 18446744073709551616)
termination_by n
decreasing_by exact Nat.div_lt_self (by omega) (by decide)
def Lm (a : List Nat) : Prop := ∀ x ∈ a, x < 18446744073709551616
def Nrm (a : List Nat) : Prop := a.getLastD 1 ≠ 0
instance (a : List Nat) : Decidable (Nrm a) := inferInstanceAs (Decidable (_ ≠ _))
theorem nv_nil : nv [] = 0 := rfl
theorem nv_cons (x : Nat) (r : List Nat) : nv (x :: r) = x + 18446744073709551616 * nv r := rfl
theorem lb_zero : lb 0 = [] := by rw [lb]; simp
theorem lb_pos {n : Nat} (h : n ≠ 0) : lb n = n % 18446744073709551616 :: lb (n / 18446744073709551616) := by rw [lb, dif_neg h]
theorem nv_lb (n : Nat) : nv (lb n) = n := by
  induction n using Nat.strongRecOn with
  | _ n ih =>
    by_cases h : n = 0
    · subst h; rw [lb_zero]; rfl
    · rw [lb_pos h, nv_cons, ih (n / 18446744073709551616) (Nat.div_lt_self (by omega) (by decide))]
      exact Nat.mod_add_div n 18446744073709551616
theorem Lm_lb (n : Nat) : Lm (lb n) := by
  induction n using Nat.strongRecOn with
  | _ n ih =>
    by_cases h : n = 0
    · subst h; rw [lb_zero]; intro x hx; cases hx
    · rw [lb_pos h]
      intro x hx
      rcases List.mem_cons.1 hx with rfl | hx
      · exact Nat.mod_lt _ (by decide)
      · exact ih (n / 18446744073709551616) (Nat.div_lt_self (by omega) (by decide)) x hx
theorem lb_nil {n : Nat} : lb n = [] ↔ n = 0 := by
  constructor
  · intro h
    rcases Nat.eq_zero_or_pos n with h0 | h0
    · exact h0
    · rw [lb_pos (by omega)] at h; cases h
  · rintro rfl; exact lb_zero
theorem Nrm_nil : Nrm [] := by decide
theorem Nrm_cons {x : Nat} {r : List Nat} (h : Nrm r) (hx : r = [] → x ≠ 0) : Nrm (x :: r) := by
  unfold Nrm at *
  cases r with
  | nil => simpa using hx rfl
  | cons y r => simpa using h
theorem Nrm_lb (n : Nat) : Nrm (lb n) := by
  induction n using Nat.strongRecOn with
  | _ n ih =>
    by_cases h : n = 0
    · subst h; rw [lb_zero]; exact Nrm_nil
    · rw [lb_pos h]
      refine Nrm_cons (ih _ (Nat.div_lt_self (by omega) (by decide))) fun e => ?_
      have := lb_nil.1 e
      intro h0
      have := Nat.div_add_mod n 18446744073709551616
      omega
theorem Lm_tail {x : Nat} {r : List Nat} (h : Lm (x :: r)) : x < 18446744073709551616 ∧ Lm r := ⟨h x (by simp), fun y hy => h y (by simp [hy])⟩
theorem Lm_app {a b : List Nat} (ha : Lm a) (hb : Lm b) : Lm (a ++ b) := fun x hx => (List.mem_append.1 hx).elim (ha x) (hb x)
theorem Nrm_tail {x y : Nat} {r : List Nat} (h : Nrm (x :: y :: r)) : Nrm (y :: r) := by
  unfold Nrm at *; simpa using h
theorem nv_pos_of {a : List Nat} (h : Nrm a) (hne : a ≠ []) : 0 < nv a := by
  induction a with
  | nil => exact absurd rfl hne
  | cons x r ih =>
    rw [nv_cons]
    cases r with
    | nil => have : x ≠ 0 := by simpa [Nrm] using h
             rw [nv_nil]; omega
    | cons y r =>
      have := ih (Nrm_tail h) (by simp)
      have : 18446744073709551616 * 1 ≤ 18446744073709551616 * nv (y :: r) := Nat.mul_le_mul_left _ this
      omega
theorem lb_nv {a : List Nat} (hl : Lm a) (hn : Nrm a) : lb (nv a) = a := by
  induction a with
  | nil => rw [nv_nil, lb_zero]
  | cons x r ih =>
    have hx := Lm_tail hl
    have hpos : nv (x :: r) ≠ 0 := by have := nv_pos_of hn (by simp); omega
    have h1 : nv (x :: r) % 18446744073709551616 = x := by rw [nv_cons, Nat.add_mul_mod_self_left]; exact Nat.mod_eq_of_lt hx.1
    have h2 : nv (x :: r) / 18446744073709551616 = nv r := by rw [nv_cons, Nat.add_mul_div_left _ _ (by decide), Nat.div_eq_of_lt hx.1, Nat.zero_add]
    rw [lb_pos hpos, h1, h2]
    cases r with
    | nil => rw [nv_nil, lb_zero]
    | cons y r => rw [ih hx.2 (Nrm_tail hn)]
theorem nv_app (a b : List Nat) : nv (a ++ b) = nv a + 18446744073709551616 ^ a.length * nv b := by
  induction a with
  | nil => simp [nv]
  | cons x r ih =>
    rw [List.cons_append, nv_cons, nv_cons, ih, List.length_cons, Nat.pow_succ, Nat.mul_add]
    have : 18446744073709551616 * (18446744073709551616 ^ r.length * nv b) = 18446744073709551616 ^ r.length * 18446744073709551616 * nv b := by rw [← Nat.mul_assoc, Nat.mul_comm 18446744073709551616]
    omega
theorem nv_lt {a : List Nat} (hl : Lm a) : nv a < 18446744073709551616 ^ a.length := by
  induction a with
  | nil => simp [nv]
  | cons x r ih =>
    have hx := Lm_tail hl
    have := ih hx.2
    rw [nv_cons, List.length_cons, Nat.pow_succ]
    have h2 : 18446744073709551616 * (nv r + 1) ≤ 18446744073709551616 * 18446744073709551616 ^ r.length := Nat.mul_le_mul_left _ this
    rw [Nat.mul_add] at h2
    rw [Nat.mul_comm (18446744073709551616 ^ r.length)]
    omega
theorem nv_ge {a : List Nat} (hn : Nrm a) (hne : a ≠ []) : 18446744073709551616 ^ (a.length - 1) ≤ nv a := by
  induction a with
  | nil => exact absurd rfl hne
  | cons x r ih =>
    cases r with
    | nil => have := nv_pos_of hn hne; simp only [List.length_cons, List.length_nil, Nat.zero_add, Nat.sub_self, Nat.pow_zero]; omega
    | cons y r =>
      have := ih (Nrm_tail hn) (by simp)
      rw [nv_cons]
      simp only [List.length_cons, Nat.add_sub_cancel] at this ⊢
      rw [Nat.pow_succ, Nat.mul_comm]
      have := Nat.mul_le_mul_left 18446744073709551616 this
      omega
theorem lb_len {n k : Nat} : (lb n).length ≤ k ↔ n < 18446744073709551616 ^ k := by
  constructor
  · intro h
    have := nv_lt (Lm_lb n)
    rw [nv_lb] at this
    exact Nat.lt_of_lt_of_le this (Nat.pow_le_pow_right (by decide) h)
  · intro h
    by_cases h0 : n = 0
    · subst h0; rw [lb_zero]; exact Nat.zero_le _
    · have hne : lb n ≠ [] := fun e => h0 (lb_nil.1 e)
      have := nv_ge (Nrm_lb n) hne
      rw [nv_lb] at this
      have hlt : 18446744073709551616 ^ ((lb n).length - 1) < 18446744073709551616 ^ k := Nat.lt_of_le_of_lt this h
      have := (Nat.pow_lt_pow_iff_right (by decide)).1 hlt
      omega
theorem nv_rep (n : Nat) : nv (List.replicate n 0) = 0 := by
  induction n with
  | zero => rfl
  | succ n ih => rw [List.replicate_succ, nv_cons, ih]
theorem nv_take_drop (a : List Nat) (k : Nat) : nv a = nv (a.take k) + 18446744073709551616 ^ (min k a.length) * nv (a.drop k) := by
  have := nv_app (a.take k) (a.drop k)
  rw [List.take_append_drop, List.length_take] at this
  exact this
theorem Lm_take {a : List Nat} (h : Lm a) (k : Nat) : Lm (a.take k) := fun x hx => h x (List.mem_of_mem_take hx)
theorem Lm_drop {a : List Nat} (h : Lm a) (k : Nat) : Lm (a.drop k) := fun x hx => h x (List.mem_of_mem_drop hx)
theorem nv_drop {a : List Nat} (h : Lm a) (k : Nat) : nv (a.drop k) = nv a / 18446744073709551616 ^ k := by
  rcases Nat.lt_or_ge k a.length with hk | hk
  · rw [nv_take_drop a k, Nat.min_eq_left (Nat.le_of_lt hk), Nat.add_mul_div_left _ _ (Nat.pow_pos (by decide)), Nat.div_eq_of_lt, Nat.zero_add]
    have := nv_lt (Lm_take h k)
    rw [List.length_take, Nat.min_eq_left (Nat.le_of_lt hk)] at this
    exact this
  · rw [List.drop_eq_nil_of_le hk, nv_nil, Nat.div_eq_of_lt]
    exact Nat.lt_of_lt_of_le (nv_lt h) (Nat.pow_le_pow_right (by decide) hk)
theorem nv_take {a : List Nat} (h : Lm a) (k : Nat) : nv (a.take k) = nv a % 18446744073709551616 ^ k := by
  rcases Nat.lt_or_ge k a.length with hk | hk
  · have h1 := nv_take_drop a k
    rw [Nat.min_eq_left (Nat.le_of_lt hk)] at h1
    have h2 := nv_lt (Lm_take h k)
    rw [List.length_take, Nat.min_eq_left (Nat.le_of_lt hk)] at h2
    rw [h1, Nat.add_mul_mod_self_left, Nat.mod_eq_of_lt h2]
  · rw [List.take_of_length_le hk, Nat.mod_eq_of_lt]
    exact Nat.lt_of_lt_of_le (nv_lt h) (Nat.pow_le_pow_right (by decide) hk)
theorem getD_lt {a : List Nat} (h : Lm a) (i : Nat) : a.getD i 0 < 18446744073709551616 := by
  rw [List.getD_eq_getElem?_getD]
  cases e : a[i]? with
  | none => exact (by decide : (0 : Nat) < 18446744073709551616)
  | some x => exact h x (List.mem_of_getElem? e)
theorem take_succ {a : List Nat} {k : Nat} (h : k < a.length) : a.take (k + 1) = a.take k ++ [a.getD k 0] := by
  rw [List.take_succ_eq_append_getElem h, List.getD_eq_getElem?_getD, List.getElem?_eq_getElem h]; rfl
theorem nv_take_succ {a : List Nat} {k : Nat} (h : k < a.length) : nv (a.take (k + 1)) = nv (a.take k) + 18446744073709551616 ^ k * a.getD k 0 := by
  rw [take_succ h, nv_app, List.length_take, Nat.min_eq_left (Nat.le_of_lt h)]
  simp [nv]
theorem nv_set {a : List Nat} {k v : Nat} (h : k < a.length) : nv (a.set k v) + 18446744073709551616 ^ k * a.getD k 0 = nv a + 18446744073709551616 ^ k * v := by
  induction a generalizing k with
  | nil => simp at h
  | cons x r ih =>
    cases k with
    | zero => simp [nv]; omega
    | succ k =>
      have := ih (k := k) (by simpa using h)
      simp only [List.set_cons_succ, nv_cons, List.getD_cons_succ, Nat.pow_succ]
      have h1 : 18446744073709551616 ^ k * 18446744073709551616 * r.getD k 0 = 18446744073709551616 * (18446744073709551616 ^ k * r.getD k 0) := by rw [Nat.mul_comm (18446744073709551616 ^ k) 18446744073709551616, Nat.mul_assoc]
      have h2 : 18446744073709551616 ^ k * 18446744073709551616 * v = 18446744073709551616 * (18446744073709551616 ^ k * v) := by rw [Nat.mul_comm (18446744073709551616 ^ k) 18446744073709551616, Nat.mul_assoc]
      rw [h1, h2]
      have := congrArg (18446744073709551616 * ·) this
      simp only [Nat.mul_add] at this
      omega
theorem Lm_set {a : List Nat} (h : Lm a) (k : Nat) {v : Nat} (hv : v < 18446744073709551616) : Lm (a.set k v) := fun x hx => by
  rcases List.mem_or_eq_of_mem_set hx with hx | rfl
  · exact h x hx
  · exact hv
theorem Lm_rep (n : Nat) : Lm (List.replicate n 0) := fun x hx => by
  rw [List.eq_of_mem_replicate hx]; decide
theorem wf_Lm {a : List Nat} (h : (Ty.sl (.u .u64)).wf a) : Lm a := fun x hx => by
  have := h.2 x hx
  simp only [Ty.wf, IntKind.max, IntKind.signed, IntKind.bits] at this
  simp at this; omega
theorem wf_len {a : List Nat} (h : (Ty.sl (.u .u64)).wf a) : a.length ≤ 9223372036854775807 := h.1
theorem wf_n64 {x : Nat} (h : (Ty.u .u64).wf x) : x < 18446744073709551616 := by
  simp only [Ty.wf, IntKind.max, IntKind.signed, IntKind.bits] at h
  simp at h; omega
theorem wf_i64 {x : Int} (h : (Ty.i .i64).wf x) : -9223372036854775808 ≤ x ∧ x ≤ 9223372036854775807 := by
  simpa [Ty.wf, fits64] using h
theorem mod64 : modK .u64 = 18446744073709551616 := by decide +kernel
theorem mul64 (a b : Nat) : mulU .u64 a b = a * b % 18446744073709551616 := by rw [mulU_eq, mod64]
theorem sub64 {a b : Nat} (ha : a < 18446744073709551616) (hb : b ≤ a) : subU .u64 a b = a - b := by
  rw [subU_eq, mod64, show a + (18446744073709551616 - b) = (a - b) + 18446744073709551616 from by omega, Nat.add_mod_right, Nat.mod_eq_of_lt (by omega)]
end Nu
end Go.Proofs
namespace Go.Proofs
open Go.Vc
set_option maxRecDepth 20000
namespace Nu
theorem ck_to {α : Type} {p : Prop} [Decidable p] {k : Option α} {r : Option α} (hp : p) (h : k = r) : ck p k = r := (ck_pos hp).trans h
theorem if_to {α : Type} {p : Prop} [Decidable p] {x y r : α} (h1 : p → x = r) (h2 : ¬ p → y = r) : (if p then x else y) = r := by
  split
  · exact h1 ‹_›
  · exact h2 ‹_›
theorem bind_to {α β : Type} {x : Option α} {a : α} {k : α → Option β} {r : Option β} (hx : x = some a) (h : k a = r) : x.bind k = r := by rw [hx]; exact h
def bl (x : Nat) : Nat := if x = 0 then 0 else Nat.log2 x + 1
theorem bl_le {x k : Nat} (h : x < 2 ^ k) : bl x ≤ k := by
  unfold bl
  split
  · exact Nat.zero_le _
  · rename_i h0
    exact (Nat.log2_lt h0).2 h
theorem bl_lt (x : Nat) : x < 2 ^ bl x := by
  unfold bl
  split
  · rename_i h; subst h; decide
  · exact Nat.lt_log2_self
theorem bl_ge {x k : Nat} (h : 2 ^ k ≤ x) : k < bl x := by
  have h0 : x ≠ 0 := by have := Nat.two_pow_pos k; omega
  unfold bl
  rw [if_neg h0]
  have := (Nat.le_log2 h0).2 h
  omega
theorem bl_eq {x k : Nat} (h1 : 2 ^ k ≤ x) (h2 : x < 2 ^ (k + 1)) : bl x = k + 1 := Nat.le_antisymm (bl_le h2) (bl_ge h1)
theorem bl_pos {x : Nat} (h : x ≠ 0) : 0 < bl x := bl_ge (k := 0) (by omega)
theorem bl_low {x : Nat} (h : x ≠ 0) : 2 ^ (bl x - 1) ≤ x := by
  rcases Nat.lt_or_ge x (2 ^ (bl x - 1)) with hh | hh
  · have := bl_le hh; have := bl_pos h; omega
  · exact hh
theorem bl_shift {x k : Nat} (h : 2 ^ k ≤ x) : bl x = k + bl (x / 2 ^ k) := by
  have hk := Nat.two_pow_pos k
  have h1 : 0 < x / 2 ^ k := Nat.div_pos h hk
  obtain ⟨m, hm⟩ : ∃ m, bl (x / 2 ^ k) = m + 1 := ⟨bl (x / 2 ^ k) - 1, by
    have := bl_ge (x := x / 2 ^ k) (k := 0) h1; omega⟩
  have h2 := bl_lt (x / 2 ^ k)
  have h3 := bl_low (x := x / 2 ^ k) (by omega)
  rw [hm] at h2 h3 ⊢
  refine bl_eq (k := k + m) ?_ ?_
  · rw [Nat.pow_add, Nat.mul_comm]; exact (Nat.le_div_iff_mul_le hk).1 h3
  · rw [Nat.add_assoc, Nat.pow_add, Nat.mul_comm]; exact (Nat.div_lt_iff_lt_mul hk).1 h2
def cs_633d86x : ByteArray := ⟨⟨0 :: 1 :: 2 :: 2 :: 3 :: 3 :: 3 :: 3 :: 4 :: 4 :: 4 :: 4 :: 4 :: 4 :: 4 :: 4 :: 5 :: 5 :: 5 :: 5 :: 5 :: 5 :: 5 :: 5 :: 5 :: 5 :: 5 :: 5 :: 5 :: 5 :: 5 :: 5 :: 6 :: 6 :: 6 :: 6 :: 6 :: 6 :: 6 :: 6 :: 6 :: 6 :: 6 :: 6 :: 6 :: 6 :: 6 :: 6 :: 6 :: 6 :: 6 :: 6 :: 6 :: 6 :: 6 :: 6 :: 6 :: 6 :: 6 :: 6 :: 6 :: 6 :: 6 :: 6 :: 7 :: 7 :: 7 :: 7 :: 7 :: 7 :: 7 :: 7 :: 7 :: 7 :: 7 :: 7 :: 7 :: 7 :: 7 :: 7 :: 7 :: 7 :: 7 :: 7 :: 7 :: 7 :: 7 :: 7 :: 7 :: 7 :: 7 :: 7 :: 7 :: 7 :: 7 :: 7 :: 7 :: 7 :: 7 :: 7 :: 7 :: 7 :: 7 :: 7 :: 7 :: 7 :: 7 :: 7 :: 7 :: 7 :: 7 :: 7 :: 7 :: 7 :: 7 :: 7 :: 7 :: 7 :: 7 :: 7 :: 7 :: 7 :: 7 :: 7 :: 7 :: 7 :: 7 :: 7 :: 8 :: 8 :: 8 :: 8 :: 8 :: 8 :: 8 :: 8 :: 8 :: 8 :: 8 :: 8 :: 8 :: 8 :: 8 :: 8 :: 8 :: 8 :: 8 :: 8 :: 8 :: 8 :: 8 :: 8 :: 8 :: 8 :: 8 :: 8 :: 8 :: 8 :: 8 :: 8 :: 8 :: 8 :: 8 :: 8 :: 8 :: 8 :: 8 :: 8 :: 8 :: 8 :: 8 :: 8 :: 8 :: 8 :: 8 :: 8 :: 8 :: 8 :: 8 :: 8 :: 8 :: 8 :: 8 :: 8 :: 8 :: 8 :: 8 :: 8 :: 8 :: 8 :: 8 :: 8 :: 8 :: 8 :: 8 :: 8 :: 8 :: 8 :: 8 :: 8 :: 8 :: 8 :: 8 :: 8 :: 8 :: 8 :: 8 :: 8 :: 8 :: 8 :: 8 :: 8 :: 8 :: 8 :: 8 :: 8 :: 8 :: 8 :: 8 :: 8 :: 8 :: 8 :: 8 :: 8 :: 8 :: 8 :: 8 :: 8 :: 8 :: 8 :: 8 :: 8 :: 8 :: 8 :: 8 :: 8 :: 8 :: 8 :: 8 :: 8 :: 8 :: 8 :: 8 :: 8 :: 8 :: 8 :: 8 :: 8 :: 8 :: 8 :: 8 :: 8 :: 8 :: 8 :: 8 :: 8 :: []⟩⟩
theorem cs_633d86x_is : (⟨⟨0 :: 1 :: 2 :: 2 :: 3 :: 3 :: 3 :: 3 :: 4 :: 4 :: 4 :: 4 :: 4 :: 4 :: 4 :: 4 :: 5 :: 5 :: 5 :: 5 :: 5 :: 5 :: 5 :: 5 :: 5 :: 5 :: 5 :: 5 :: 5 :: 5 :: 5 :: 5 :: 6 :: 6 :: 6 :: 6 :: 6 :: 6 :: 6 :: 6 :: 6 :: 6 :: 6 :: 6 :: 6 :: 6 :: 6 :: 6 :: 6 :: 6 :: 6 :: 6 :: 6 :: 6 :: 6 :: 6 :: 6 :: 6 :: 6 :: 6 :: 6 :: 6 :: 6 :: 6 :: 7 :: 7 :: 7 :: 7 :: 7 :: 7 :: 7 :: 7 :: 7 :: 7 :: 7 :: 7 :: 7 :: 7 :: 7 :: 7 :: 7 :: 7 :: 7 :: 7 :: 7 :: 7 :: 7 :: 7 :: 7 :: 7 :: 7 :: 7 :: 7 :: 7 :: 7 :: 7 :: 7 :: 7 :: 7 :: 7 :: 7 :: 7 :: 7 :: 7 :: 7 :: 7 :: 7 :: 7 :: 7 :: 7 :: 7 :: 7 :: 7 :: 7 :: 7 :: 7 :: 7 :: 7 :: 7 :: 7 :: 7 :: 7 :: 7 :: 7 :: 7 :: 7 :: 7 :: 7 :: 8 :: 8 :: 8 :: 8 :: 8 :: 8 :: 8 :: 8 :: 8 :: 8 :: 8 :: 8 :: 8 :: 8 :: 8 :: 8 :: 8 :: 8 :: 8 :: 8 :: 8 :: 8 :: 8 :: 8 :: 8 :: 8 :: 8 :: 8 :: 8 :: 8 :: 8 :: 8 :: 8 :: 8 :: 8 :: 8 :: 8 :: 8 :: 8 :: 8 :: 8 :: 8 :: 8 :: 8 :: 8 :: 8 :: 8 :: 8 :: 8 :: 8 :: 8 :: 8 :: 8 :: 8 :: 8 :: 8 :: 8 :: 8 :: 8 :: 8 :: 8 :: 8 :: 8 :: 8 :: 8 :: 8 :: 8 :: 8 :: 8 :: 8 :: 8 :: 8 :: 8 :: 8 :: 8 :: 8 :: 8 :: 8 :: 8 :: 8 :: 8 :: 8 :: 8 :: 8 :: 8 :: 8 :: 8 :: 8 :: 8 :: 8 :: 8 :: 8 :: 8 :: 8 :: 8 :: 8 :: 8 :: 8 :: 8 :: 8 :: 8 :: 8 :: 8 :: 8 :: 8 :: 8 :: 8 :: 8 :: 8 :: 8 :: 8 :: 8 :: 8 :: 8 :: 8 :: 8 :: 8 :: 8 :: 8 :: 8 :: 8 :: 8 :: 8 :: 8 :: 8 :: 8 :: 8 :: 8 :: []⟩⟩ : ByteArray) = cs_633d86x := rfl
attribute [go_sem] cs_633d86x_is
noncomputable def m_bits_Len64_j3 (x_6 : Nat) (n_7 : Int) : Option (Int) :=
  ck (0 ≤ (((x_6 % 256) : Nat) : Int) ∧ (((x_6 % 256) : Nat) : Int) < ((((strL cs_633d86x).length) : Nat) : Int)) (ck (I64 (n_7 + ((((strL cs_633d86x).getD (x_6 % 256) (0 : Nat)) : Nat) : Int))) (some (n_7 + ((((strL cs_633d86x).getD (x_6 % 256) (0 : Nat)) : Nat) : Int))))
noncomputable def m_bits_Len64_j2 (x_4 : Nat) (n_5 : Int) : Option (Int) :=
  if (256 : Nat) ≤ x_4 then ck (I64 (n_5 + (8 : Int))) (m_bits_Len64_j3 (x_4 / (256 : Nat)) (n_5 + (8 : Int))) else m_bits_Len64_j3 x_4 n_5
noncomputable def m_bits_Len64_j1 (x_2 : Nat) (n_3 : Int) : Option (Int) :=
  if (65536 : Nat) ≤ x_2 then ck (I64 (n_3 + (16 : Int))) (m_bits_Len64_j2 (x_2 / (65536 : Nat)) (n_3 + (16 : Int))) else m_bits_Len64_j2 x_2 n_3
noncomputable def m_bits_Len64 (x_0 : Nat) : Option Int :=
  if (4294967296 : Nat) ≤ x_0 then m_bits_Len64_j1 (x_0 / (4294967296 : Nat)) (32 : Int) else m_bits_Len64_j1 x_0 (0 : Int)
def f_bits_Len64 (x : Nat) : Int := (bl x : Int)
theorem lt8_all : (strL cs_633d86x).length = 256 ∧ ∀ y, y < 256 → (strL cs_633d86x).getD y 0 = bl y := by decide +kernel
theorem Len64_j3 {x : Nat} {n : Int} (hx : x < 256) (h0 : 0 ≤ n) (h1 : n ≤ 1000) : m_bits_Len64_j3 x n = some (n + bl x) := by
  obtain ⟨e1, e2⟩ := lt8_all
  have e3 := e2 x hx
  have h8 := bl_le (show x < 2 ^ 8 from hx)
  have hm : x % 256 = x := Nat.mod_eq_of_lt hx
  unfold m_bits_Len64_j3
  rw [hm, e3]
  refine ck_to (by rw [e1]; omega) (ck_to (by constructor <;> omega) rfl)
theorem Len64_j2 {x : Nat} {n : Int} (hx : x < 65536) (h0 : 0 ≤ n) (h1 : n ≤ 900) : m_bits_Len64_j2 x n = some (n + bl x) := by
  unfold m_bits_Len64_j2
  refine if_to (fun h => ck_to (by constructor <;> omega) ?_) (fun h => Len64_j3 (by omega) h0 (by omega))
  rw [Len64_j3 (by omega) (by omega) (by omega), bl_shift (x := x) (k := 8) h]
  congr 1; rw [show (2 : Nat) ^ 8 = 256 from rfl]; omega
theorem Len64_j1 {x : Nat} {n : Int} (hx : x < 4294967296) (h0 : 0 ≤ n) (h1 : n ≤ 800) : m_bits_Len64_j1 x n = some (n + bl x) := by
  unfold m_bits_Len64_j1
  refine if_to (fun h => ck_to (by constructor <;> omega) ?_) (fun h => Len64_j2 (by omega) h0 (by omega))
  rw [Len64_j2 (by omega) (by omega) (by omega), bl_shift (x := x) (k := 16) h]
  congr 1; rw [show (2 : Nat) ^ 16 = 65536 from rfl]; omega
theorem law_bits_Len64 (x : Nat) (w : (Ty.u .u64).wf x) : m_bits_Len64 x = some (f_bits_Len64 x) := by
  have hx := wf_n64 w
  unfold m_bits_Len64
  refine if_to (fun h => ?_) (fun h => ?_)
  · rw [Len64_j1 (by omega) (by omega) (by omega), f_bits_Len64, bl_shift (x := x) (k := 32) h]
    rfl
  · rw [Len64_j1 (by omega) (by omega) (by omega), f_bits_Len64]; congr 1; omega
theorem bl64 {x : Nat} (hx : x < 18446744073709551616) : bl x ≤ 64 := bl_le hx
noncomputable def m_bits_LeadingZeros64 (x_0 : Nat) : Option Int :=
  ck (I64 ((64 : Int) - (f_bits_Len64 x_0))) (some ((64 : Int) - (f_bits_Len64 x_0)))
def f_bits_LeadingZeros64 (x : Nat) : Int := 64 - (bl x : Int)
theorem law_bits_LeadingZeros64 (x : Nat) (w : (Ty.u .u64).wf x) : m_bits_LeadingZeros64 x = some (f_bits_LeadingZeros64 x) := by
  have := bl64 (wf_n64 w)
  unfold m_bits_LeadingZeros64 f_bits_Len64 f_bits_LeadingZeros64
  exact ck_to (by constructor <;> omega) rfl
noncomputable def m_bits_TrailingZeros64 (x_0 : Nat) : Option Int :=
  if x_0 = (0 : Nat) then some (64 : Int) else ck (0 ≤ ((((mulU .u64 (x_0 &&& (negU .u64 x_0)) (285870213051353865 : Nat)) / (288230376151711744 : Nat)) : Nat) : Int) ∧ ((((mulU .u64 (x_0 &&& (negU .u64 x_0)) (285870213051353865 : Nat)) / (288230376151711744 : Nat)) : Nat) : Int) < (64 : Int)) (some (((tz64.getD ((mulU .u64 (x_0 &&& (negU .u64 x_0)) (285870213051353865 : Nat)) / (288230376151711744 : Nat)) (0 : Nat)) : Nat) : Int))
def f_bits_TrailingZeros64 (x : Nat) : Int := (Lib.ctz 64 x : Int)
theorem tz64_eq : tz64 = Lib.deBruijn64tab := by rw [tz64_is]; decide
theorem neg64 {x : Nat} (hx : x < 18446744073709551616) (hc : ¬ x = 0) : negU .u64 x = 18446744073709551616 - x := by
  rw [negU_eq, mod64, Nat.zero_add]
  exact Nat.mod_eq_of_lt (by omega)
theorem tz_law {x : Nat} (hx : x < 18446744073709551616) (hc : ¬ x = 0) : mulU .u64 (x &&& negU .u64 x) 285870213051353865 / 288230376151711744 < 64 ∧ tz64.getD (mulU .u64 (x &&& negU .u64 x) 285870213051353865 / 288230376151711744) 0 = Lib.ctz 64 x := by
  obtain ⟨h1, h2⟩ := Lib.lowest_bit 64 x hc hx
  have e2 : (2 : Nat) ^ 64 = 18446744073709551616 := by decide
  rw [e2] at h1
  rw [mul64, neg64 hx hc, h1, tz64_eq]
  exact Lib.deBruijn64_at _ h2
theorem law_bits_TrailingZeros64 (x : Nat) (w : (Ty.u .u64).wf x) : m_bits_TrailingZeros64 x = some (f_bits_TrailingZeros64 x) := by
  unfold m_bits_TrailingZeros64 f_bits_TrailingZeros64
  refine if_to (fun h => ?_) (fun h => ?_)
  · subst h; rfl
  · obtain ⟨h1, h2⟩ := tz_law (wf_n64 w) h
    rw [h2]
    exact ck_to ⟨Int.natCast_nonneg _, Int.ofNat_lt.2 h1⟩ rfl
noncomputable def m_bits_Mul64 (x_0 : Nat) (y_1 : Nat) : Option (Nat × (Nat × Unit)) :=
  some ((((((mulU .u64 (x_0 / (4294967296 : Nat)) (y_1 / (4294967296 : Nat))) + ((((mulU .u64 (x_0 / (4294967296 : Nat)) (y_1 &&& (4294967295 : Nat))) + ((mulU .u64 (x_0 &&& (4294967295 : Nat)) (y_1 &&& (4294967295 : Nat))) / (4294967296 : Nat))) % 18446744073709551616) / (4294967296 : Nat))) % 18446744073709551616) + (((((((mulU .u64 (x_0 / (4294967296 : Nat)) (y_1 &&& (4294967295 : Nat))) + ((mulU .u64 (x_0 &&& (4294967295 : Nat)) (y_1 &&& (4294967295 : Nat))) / (4294967296 : Nat))) % 18446744073709551616) &&& (4294967295 : Nat)) + (mulU .u64 (x_0 &&& (4294967295 : Nat)) (y_1 / (4294967296 : Nat)))) % 18446744073709551616) / (4294967296 : Nat))) % 18446744073709551616), (mulU .u64 x_0 y_1), ())
def f_bits_Mul64 (x y : Nat) : Nat × Nat × Unit := (x * y / 18446744073709551616, x * y % 18446744073709551616, ())
theorem mask32 (x : Nat) : x &&& 4294967295 = x % 4294967296 := Nat.and_two_pow_sub_one_eq_mod x 32
theorem mul64_hi {x y : Nat} (hx : x < 18446744073709551616) (hy : y < 18446744073709551616) :
    ((x / 4294967296 * (y / 4294967296) % 18446744073709551616 + (x / 4294967296 * (y &&& 4294967295) % 18446744073709551616 + (x &&& 4294967295) * (y &&& 4294967295) % 18446744073709551616 / 4294967296) % 18446744073709551616 / 4294967296) % 18446744073709551616 +
          (((x / 4294967296 * (y &&& 4294967295) % 18446744073709551616 + (x &&& 4294967295) * (y &&& 4294967295) % 18446744073709551616 / 4294967296) % 18446744073709551616 &&& 4294967295) + (x &&& 4294967295) * (y / 4294967296) % 18446744073709551616) % 18446744073709551616 / 4294967296) % 18446744073709551616 = x * y / 18446744073709551616 := by
  simp only [mask32]
  have a1 : x / 4294967296 ≤ 4294967295 := by omega
  have a2 : x % 4294967296 ≤ 4294967295 := by omega
  have b1 : y / 4294967296 ≤ 4294967295 := by omega
  have b2 : y % 4294967296 ≤ 4294967295 := by omega
  have ex := Nat.div_add_mod x 4294967296
  have ey := Nat.div_add_mod y 4294967296
  generalize x / 4294967296 = a at *
  generalize x % 4294967296 = b at *
  generalize y / 4294967296 = c at *
  generalize y % 4294967296 = d at *
  subst ex; subst ey
  have e : (4294967296 * a + b) * (4294967296 * c + d) = a * c * 18446744073709551616 + (a * d + b * c) * 4294967296 + b * d := by
    simp only [Nat.add_mul, Nat.mul_add]
    have h1 : 4294967296 * a * (4294967296 * c) = a * c * 18446744073709551616 := by
      rw [Nat.mul_mul_mul_comm, Nat.mul_comm _ (a * c)]
    have h2 : 4294967296 * a * d = a * d * 4294967296 := by rw [Nat.mul_assoc, Nat.mul_comm]
    have h3 : b * (4294967296 * c) = b * c * 4294967296 := by rw [Nat.mul_left_comm, Nat.mul_comm]
    omega
  rw [e]
  have p1 := Nat.mul_le_mul a1 b1
  have p2 := Nat.mul_le_mul a1 b2
  have p3 := Nat.mul_le_mul a2 b1
  have p4 := Nat.mul_le_mul a2 b2
  generalize a * c = ac at *
  generalize a * d = ad at *
  generalize b * c = bc at *
  generalize b * d = bd at *
  omega
theorem law_bits_Mul64 (x : Nat) (wx : (Ty.u .u64).wf x) (y : Nat) (wy : (Ty.u .u64).wf y) : m_bits_Mul64 x y = some (f_bits_Mul64 x y) := by
  unfold m_bits_Mul64 f_bits_Mul64
  simp only [mul64]
  rw [mul64_hi (wf_n64 wx) (wf_n64 wy)]
end Nu
end Go.Proofs
namespace Go.Proofs
open Go.Vc
set_option maxRecDepth 20000
namespace Nu
abbrev Sz (a : List Nat) : Prop := a.length ≤ 1099511627776
abbrev pSz (a : List Nat) : Prop := Sz a
abbrev pSz2 (a b : List Nat) : Prop := Sz a ∧ Sz b
abbrev pNrm2 (a b : List Nat) : Prop := Nrm a ∧ Nrm b
abbrev pNrmS (a : List Nat) : Prop := Nrm a ∧ Sz a
theorem Nrm_iff {a : List Nat} (h : 0 < a.length) : Nrm a ↔ a.getD (a.length - 1) 0 ≠ 0 := by
  unfold Nrm
  rw [List.getD_eq_getElem?_getD, List.getLastD_eq_getLast?, List.getLast?_eq_getElem?]
  rw [List.getElem?_eq_getElem (show a.length - 1 < a.length by omega)]
  rfl
noncomputable def m_nat_trim_l1 (a_4 : (List Nat)) : Option (((List Nat)) ⊕ (((List Nat)))) :=
  ck ((((0 : Int) < (((a_4.length) : Nat) : Int)) → (I64 ((((a_4.length) : Nat) : Int) - (1 : Int))))) (ck ((((0 : Int) < (((a_4.length) : Nat) : Int)) → (0 ≤ ((((a_4.length) : Nat) : Int) - (1 : Int)) ∧ ((((a_4.length) : Nat) : Int) - (1 : Int)) < (((a_4.length) : Nat) : Int)))) (if ((0 : Int) < (((a_4.length) : Nat) : Int)) ∧ ((a_4.getD (((((a_4.length) : Nat) : Int) - (1 : Int)).toNat) (0 : Nat)) = (0 : Nat)) then ck (I64 ((((a_4.length) : Nat) : Int) - (1 : Int))) (ck (0 ≤ ((((a_4.length) : Nat) : Int) - (1 : Int)) ∧ ((((a_4.length) : Nat) : Int) - (1 : Int)) ≤ (((a_4.length) : Nat) : Int)) (some (.inl (List.take (((((a_4.length) : Nat) : Int) - (1 : Int)).toNat) a_4)))) else some (.inr a_4)))
noncomputable def m_nat_trim (a_0 : (List Nat)) : Option (List Nat) :=
  (loopO (fun d : (List Nat) => m_nat_trim_l1 d) a_0).bind (fun e => some e)
def f_nat_trim (a : List Nat) : List Nat := lb (nv a)
theorem law_nat_trim (a : List Nat) (w : (Ty.sl (.u .u64)).wf a) : m_nat_trim a = some (f_nat_trim a) := by
  unfold m_nat_trim
  refine bind_to (loopO_of (I := fun d => Lm d ∧ d.length ≤ 9223372036854775807) (fun d => d.length) (fun d => lb (nv d)) ?_ a ⟨wf_Lm w, wf_len w⟩) rfl
  intro d ⟨hl, hn⟩
  unfold m_nat_trim_l1
  rcases Nat.eq_zero_or_pos d.length with h0 | h0
  · right
    have e : d = [] := List.eq_nil_of_length_eq_zero h0
    subst e
    refine ck_to (by intro h; simp at h) (ck_to (by intro h; simp at h) ?_)
    rw [if_neg (by simp)]
    rw [nv_nil, lb_zero]
  · have e1 : ((d.length : Nat) : Int) - 1 = ((d.length - 1 : Nat) : Int) := by omega
    rw [e1, Int.toNat_natCast]
    by_cases hz : d.getD (d.length - 1) 0 = 0
    · left
      refine ⟨d.take (d.length - 1), ck_to (by intro _; constructor <;> omega) (ck_to (by intro _; constructor <;> omega) ?_), ⟨Lm_take hl _, by rw [List.length_take]; omega⟩, by rw [List.length_take]; omega, ?_⟩
      · rw [if_pos ⟨by omega, hz⟩]
        exact ck_to (by constructor <;> omega) (ck_to (by constructor <;> omega) rfl)
      · have := nv_take_succ (a := d) (k := d.length - 1) (by omega)
        rw [hz, show d.length - 1 + 1 = d.length from by omega, List.take_length] at this
        simp only [Nat.mul_zero, Nat.add_zero] at this
        rw [this]
    · right
      refine ck_to (by intro _; constructor <;> omega) (ck_to (by intro _; constructor <;> omega) ?_)
      rw [if_neg (fun h => hz h.2), lb_nv hl ((Nrm_iff h0).2 hz)]
noncomputable def m_nat_May (a_0 : (List Nat)) : Option Bool :=
  ck ((¬ ((((a_0.length) : Nat) : Int) = (0 : Int)) → ((((a_0.length) : Nat) : Int) ≤ (64 : Int)) → (I64 ((((a_0.length) : Nat) : Int) - (1 : Int))))) (ck ((¬ ((((a_0.length) : Nat) : Int) = (0 : Int)) → ((((a_0.length) : Nat) : Int) ≤ (64 : Int)) → (0 ≤ ((((a_0.length) : Nat) : Int) - (1 : Int)) ∧ ((((a_0.length) : Nat) : Int) - (1 : Int)) < (((a_0.length) : Nat) : Int)))) (some ((decide ((((a_0.length) : Nat) : Int) = (0 : Int))) || ((decide ((((a_0.length) : Nat) : Int) ≤ (64 : Int))) && (!(decide ((a_0.getD (((((a_0.length) : Nat) : Int) - (1 : Int)).toNat) (0 : Nat)) = (0 : Nat))))))))
def f_nat_May (a : List Nat) : Bool := decide (a.length ≤ 64 ∧ Nrm a)
theorem law_nat_May (a : List Nat) (w : (Ty.sl (.u .u64)).wf a) : m_nat_May a = some (f_nat_May a) := by
  have hn := wf_len w
  unfold m_nat_May f_nat_May
  rcases Nat.eq_zero_or_pos a.length with h0 | h0
  · have e : a = [] := List.eq_nil_of_length_eq_zero h0
    subst e
    refine ck_to (by intro h; simp at h) (ck_to (by intro h; simp at h) ?_)
    decide
  · have e1 : ((a.length : Nat) : Int) - 1 = ((a.length - 1 : Nat) : Int) := by omega
    rw [e1, Int.toNat_natCast]
    refine ck_to (by intro _ _; constructor <;> omega) (ck_to (by intro _ _; constructor <;> omega) ?_)
    congr 1
    rw [Bool.eq_iff_iff]
    have := Nrm_iff h0
    simp only [Bool.or_eq_true, decide_eq_true_eq, Bool.and_eq_true, Bool.not_eq_true', decide_eq_false_iff_not]
    rw [this]
    constructor
    · rintro (h | h)
      · omega
      · exact ⟨by omega, h.2⟩
    · intro h; exact .inr ⟨by omega, h.2⟩
noncomputable def m_nat_sign (less_0 : Bool) : Option Int :=
  if less_0 = true then some (-1 : Int) else some (1 : Int)
def f_nat_sign (b : Bool) : Int := if b = true then -1 else 1
theorem law_nat_sign (b : Bool) (w : Ty.bool.wf b) : m_nat_sign b = some (f_nat_sign b) := by
  unfold m_nat_sign f_nat_sign
  cases b <;> rfl
noncomputable def m_nat_Order_l4 (a_0 : (List Nat)) (b_1 : (List Nat)) (i_5 : Int) : Option ((Int) ⊕ ((Unit) ⊕ Int)) :=
  if (0 : Int) ≤ i_5 then ck (0 ≤ i_5 ∧ i_5 < (((a_0.length) : Nat) : Int)) (ck (0 ≤ i_5 ∧ i_5 < (((b_1.length) : Nat) : Int)) (if ¬ ((a_0.getD (i_5.toNat) (0 : Nat)) = (b_1.getD (i_5.toNat) (0 : Nat))) then ck (0 ≤ i_5 ∧ i_5 < (((a_0.length) : Nat) : Int)) (ck (0 ≤ i_5 ∧ i_5 < (((b_1.length) : Nat) : Int)) (some (.inr (.inr (f_nat_sign (decide ((a_0.getD (i_5.toNat) (0 : Nat)) < (b_1.getD (i_5.toNat) (0 : Nat))))))))) else ck (I64 (i_5 - (1 : Int))) (some (.inl (i_5 - (1 : Int)))))) else some (.inr (.inl ()))
noncomputable def m_nat_Order (a_0 : (List Nat)) (b_1 : (List Nat)) : Option Int :=
  if ¬ ((((a_0.length) : Nat) : Int) = (((b_1.length) : Nat) : Int)) then some (f_nat_sign (decide ((((a_0.length) : Nat) : Int) < (((b_1.length) : Nat) : Int)))) else ck (I64 ((((a_0.length) : Nat) : Int) - (1 : Int))) ((loopO (fun d : Int => m_nat_Order_l4 a_0 b_1 d) ((((a_0.length) : Nat) : Int) - (1 : Int))).bind (fun e => match e with | (.inl e) => some (0 : Int) | (.inr e) => some e))
def ordN (x y : Nat) : Int := if x < y then -1 else if x = y then 0 else 1
def f_nat_Order (a b : List Nat) : Int := ordN (nv a) (nv b)
theorem nv_len_lt {a b : List Nat} (ha : Lm a) (hb : Nrm b) (h : a.length < b.length) : nv a < nv b := by
  have h1 := nv_lt ha
  have h2 := nv_ge hb (by intro e; subst e; simp at h)
  exact Nat.lt_of_lt_of_le h1 (Nat.le_trans (Nat.pow_le_pow_right (by decide) (by omega)) h2)
theorem law_nat_Order (a : List Nat) (wa : (Ty.sl (.u .u64)).wf a) (b : List Nat) (wb : (Ty.sl (.u .u64)).wf b) (hp : pNrm2 a b) : m_nat_Order a b = some (f_nat_Order a b) := by
  have la := wf_Lm wa
  have lb' := wf_Lm wb
  have na := wf_len wa
  unfold m_nat_Order f_nat_Order
  refine if_to (fun h => ?_) (fun h => ?_)
  · unfold f_nat_sign ordN
    rcases Nat.lt_or_ge a.length b.length with hl | hl
    · have := nv_len_lt la hp.2 hl
      simp [hl, this]
    · have hl' : b.length < a.length := by omega
      have := nv_len_lt lb' hp.1 hl'
      have h1 : ¬ a.length < b.length := by omega
      have h2 : ¬ nv a < nv b := by omega
      have h3 : ¬ nv a = nv b := by omega
      simp [h1, h2, h3]
  · have hlen : a.length = b.length := by omega
    refine ck_to (by constructor <;> omega) ?_
    have key := loopO_of (step := fun d : Int => m_nat_Order_l4 a b d) (I := fun i => -1 ≤ i ∧ i < a.length ∧ nv (a.drop (i + 1).toNat) = nv (b.drop (i + 1).toNat)) (fun i => (i + 1).toNat)
      (fun i => if nv (a.take (i + 1).toNat) = nv (b.take (i + 1).toNat) then (.inl () : Unit ⊕ Int) else .inr (if nv (a.take (i + 1).toNat) < nv (b.take (i + 1).toNat) then -1 else 1)) ?_ ((a.length : Int) - 1) ⟨by omega, by omega, by rw [List.drop_eq_nil_of_le (by omega), List.drop_eq_nil_of_le (by omega)]⟩
    · rw [show ((a.length : Int) - 1 + 1).toNat = a.length from by omega, List.take_length] at key
      rw [hlen, List.take_length] at key
      rw [hlen]
      refine bind_to key ?_
      unfold ordN
      by_cases e : nv a = nv b
      · simp [e]
      · by_cases e2 : nv a < nv b <;> simp [e, e2]
    · intro i ⟨h1, h2, h3⟩
      try dsimp only
      unfold m_nat_Order_l4
      by_cases hi : 0 ≤ i
      · have hk : (i + 1).toNat = i.toNat + 1 := by omega
        have hia : i.toNat < a.length := by omega
        have hib : i.toNat < b.length := by omega
        rw [if_pos hi, hk, nv_take_succ hia, nv_take_succ hib]
        have ta := nv_lt (Lm_take la i.toNat)
        have tb := nv_lt (Lm_take lb' i.toNat)
        rw [List.length_take, Nat.min_eq_left (by omega)] at ta tb
        by_cases he : a.getD i.toNat 0 = b.getD i.toNat 0
        · left
          refine ⟨i - 1, ck_to (by constructor <;> omega) (ck_to (by constructor <;> omega) ?_), ⟨by omega, by omega, ?_⟩, by omega, ?_⟩
          · rw [if_neg (by simpa using he)]
            exact ck_to (by constructor <;> omega) rfl
          · rw [show (i - 1 + 1).toNat = i.toNat from by omega, List.drop_eq_getElem_cons hia, List.drop_eq_getElem_cons hib, nv_cons, nv_cons]
            rw [hk] at h3
            rw [h3]
            rw [List.getD_eq_getElem?_getD, List.getD_eq_getElem?_getD, List.getElem?_eq_getElem hia, List.getElem?_eq_getElem hib] at he
            have he : a[i.toNat] = b[i.toNat] := he
            rw [he]
          · rw [show (i - 1 + 1).toNat = i.toNat from by omega, he]
            simp only [Nat.add_right_cancel_iff, Nat.add_lt_add_iff_right]
        · right
          refine ck_to (by constructor <;> omega) (ck_to (by constructor <;> omega) ?_)
          rw [if_pos he]
          refine ck_to (by constructor <;> omega) (ck_to (by constructor <;> omega) ?_)
          unfold f_nat_sign
          generalize a.getD i.toNat 0 = x at *
          generalize b.getD i.toNat 0 = y at *
          generalize nv (a.take i.toNat) = p at *
          generalize nv (b.take i.toNat) = q at *
          generalize 18446744073709551616 ^ i.toNat = P at *
          rcases Nat.lt_or_ge x y with hxy | hxy
          · have : P * (x + 1) ≤ P * y := Nat.mul_le_mul_left _ hxy
            rw [Nat.mul_add] at this
            have h5 : ¬ p + P * x = q + P * y := by omega
            have h6 : p + P * x < q + P * y := by omega
            simp [hxy, h5, h6]
          · have hxy' : y < x := by omega
            have : P * (y + 1) ≤ P * x := Nat.mul_le_mul_left _ hxy'
            rw [Nat.mul_add] at this
            have h5 : ¬ p + P * x = q + P * y := by omega
            have h6 : ¬ p + P * x < q + P * y := by omega
            have h7 : ¬ x < y := by omega
            simp [h7, h5, h6]
      · right
        have e : i = -1 := by omega
        subst e
        rw [if_neg hi]
        simp [nv]
noncomputable def m_nat_Size (a_0 : (List Nat)) : Option Int :=
  if (((a_0.length) : Nat) : Int) = (0 : Int) then some (0 : Int) else ck (I64 ((64 : Int) * (((a_0.length) : Nat) : Int))) (ck (I64 ((((a_0.length) : Nat) : Int) - (1 : Int))) (ck (0 ≤ ((((a_0.length) : Nat) : Int) - (1 : Int)) ∧ ((((a_0.length) : Nat) : Int) - (1 : Int)) < (((a_0.length) : Nat) : Int)) (ck (I64 (((64 : Int) * (((a_0.length) : Nat) : Int)) - (f_bits_LeadingZeros64 (a_0.getD (((((a_0.length) : Nat) : Int) - (1 : Int)).toNat) (0 : Nat))))) (some (((64 : Int) * (((a_0.length) : Nat) : Int)) - (f_bits_LeadingZeros64 (a_0.getD (((((a_0.length) : Nat) : Int) - (1 : Int)).toNat) (0 : Nat))))))))
def f_nat_Size (a : List Nat) : Int := (bl (nv a) : Int)
theorem BB_pow (k : Nat) : 18446744073709551616 ^ k = 2 ^ (64 * k) := by rw [Nat.pow_mul]
theorem bl_add {x m k : Nat} (hx : x ≠ 0) (hm : m < 2 ^ k) : bl (m + 2 ^ k * x) = k + bl x := by
  have hk := Nat.two_pow_pos k
  have h1 : 2 ^ k * 1 ≤ 2 ^ k * x := Nat.mul_le_mul_left _ (by omega)
  rw [bl_shift (x := m + 2 ^ k * x) (k := k) (by omega), Nat.add_mul_div_left _ _ hk, Nat.div_eq_of_lt hm, Nat.zero_add]
theorem nv_last {a : List Nat} (h : 0 < a.length) : nv a = nv (a.take (a.length - 1)) + 18446744073709551616 ^ (a.length - 1) * a.getD (a.length - 1) 0 := by
  have := nv_take_succ (a := a) (k := a.length - 1) (by omega)
  rwa [show a.length - 1 + 1 = a.length from by omega, List.take_length] at this
theorem bl_last {a : List Nat} (hl : Lm a) (hn : Nrm a) (h : 0 < a.length) : bl (nv a) = 64 * (a.length - 1) + bl (a.getD (a.length - 1) 0) := by
  rw [nv_last h, BB_pow]
  refine bl_add ((Nrm_iff h).1 hn) ?_
  have := nv_lt (Lm_take hl (a.length - 1))
  rw [List.length_take, Nat.min_eq_left (by omega), BB_pow] at this
  exact this
theorem law_nat_Size (a : List Nat) (w : (Ty.sl (.u .u64)).wf a) (hp : pNrmS a) : m_nat_Size a = some (f_nat_Size a) := by
  obtain ⟨hn, hs⟩ := hp
  unfold m_nat_Size f_nat_Size
  refine if_to (fun h => ?_) (fun h => ?_)
  · have e : a = [] := List.eq_nil_of_length_eq_zero (by omega)
    subst e; rfl
  · have h0 : 0 < a.length := by omega
    have h64 := bl64 (getD_lt (wf_Lm w) (a.length - 1))
    have e1 : ((a.length : Nat) : Int) - 1 = ((a.length - 1 : Nat) : Int) := by omega
    rw [e1, Int.toNat_natCast]
    unfold f_bits_LeadingZeros64
    rw [bl_last (wf_Lm w) hn h0]
    refine ck_to (by constructor <;> omega) (ck_to (by constructor <;> omega) (ck_to (by constructor <;> omega) (ck_to (by constructor <;> omega) ?_)))
    congr 1; omega
end Nu
end Go.Proofs
namespace Go.Proofs
open Go.Vc
set_option maxRecDepth 20000
namespace Nu
def tzn (n : Nat) : Nat := if h : n = 0 then 0 else if n % 2 = 1 then 0 else 1 + tzn (n / 2)
termination_by n
decreasing_by exact Nat.div_lt_self (by omega) (by decide)
theorem tzn_spec {n : Nat} (h : n ≠ 0) : ∃ m, n = 2 ^ tzn n * (2 * m + 1) := by
  induction n using Nat.strongRecOn with
  | _ n ih =>
    rw [tzn, dif_neg h]
    split
    · exact ⟨n / 2, by rw [Nat.pow_zero]; omega⟩
    · obtain ⟨m, hm⟩ := ih (n / 2) (Nat.div_lt_self (by omega) (by decide)) (by omega)
      refine ⟨m, ?_⟩
      rw [Nat.add_comm 1, Nat.pow_succ, Nat.mul_assoc, Nat.mul_comm 2, ← Nat.mul_assoc, ← hm]
      omega
theorem odd_inj {a b m k : Nat} (h : 2 ^ a * (2 * m + 1) = 2 ^ b * (2 * k + 1)) : a = b := by
  have main : ∀ {a b m k : Nat}, 2 ^ a * (2 * m + 1) = 2 ^ b * (2 * k + 1) → ¬ a < b := fun {a b m k} h hlt => by
    obtain ⟨d, rfl⟩ : ∃ d, b = a + (d + 1) := ⟨b - a - 1, by omega⟩
    rw [Nat.pow_add, Nat.mul_assoc] at h
    have := Nat.eq_of_mul_eq_mul_left (Nat.two_pow_pos a) h
    rw [Nat.pow_succ, Nat.mul_comm (2 ^ d) 2, Nat.mul_assoc] at this
    omega
  have := main h
  have := main h.symm
  omega
theorem tzn_eq {n k m : Nat} (h : n = 2 ^ k * (2 * m + 1)) : tzn n = k := by
  have h0 : n ≠ 0 := by
    intro e
    have := Nat.two_pow_pos k
    have : 0 < 2 ^ k * (2 * m + 1) := Nat.mul_pos this (by omega)
    omega
  obtain ⟨m', hm⟩ := tzn_spec h0
  exact odd_inj (hm.symm.trans h)
theorem tzn_mul {x : Nat} (k : Nat) (h : x ≠ 0) : tzn (2 ^ k * x) = k + tzn x := by
  obtain ⟨m, hm⟩ := tzn_spec h
  refine tzn_eq (m := m) ?_
  rw [Nat.pow_add, Nat.mul_assoc, ← hm]
theorem ctz_tzn {x : Nat} (hx : x < 18446744073709551616) (h : x ≠ 0) : Lib.ctz 64 x = tzn x ∧ tzn x < 64 := by
  obtain ⟨m, hm, hk⟩ := Lib.ctzFrom_spec 64 x (by omega) hx
  have e : Lib.ctz 64 x = Lib.ctzFrom 64 x := by simp [Lib.ctz, h]
  have := tzn_eq hm
  rw [e]; omega
theorem tzn_low {x q : Nat} (hx : x < 18446744073709551616) (h : x ≠ 0) : tzn (x + 18446744073709551616 * q) = tzn x := by
  obtain ⟨m, hm⟩ := tzn_spec h
  have hk := (ctz_tzn hx h).2
  refine tzn_eq (m := m + 2 ^ (63 - tzn x) * q) ?_
  have e : 18446744073709551616 = 2 ^ tzn x * (2 * 2 ^ (63 - tzn x)) := by
    rw [← Nat.mul_assoc, Nat.mul_comm _ 2, ← Nat.pow_succ', ← Nat.pow_add, show tzn x + 1 + (63 - tzn x) = 64 from by omega]
  rw [e]
  generalize tzn x = t at hm
  subst hm
  have h1 : 2 ^ t * (2 * m + 1) + 2 ^ t * (2 * 2 ^ (63 - t)) * q = 2 ^ t * (2 * m + 1 + 2 * (2 ^ (63 - t) * q)) := by
    rw [Nat.mul_add (2 ^ t) (2 * m + 1), Nat.mul_assoc (2 ^ t), Nat.mul_assoc 2]
  rw [h1]
  congr 1; omega
noncomputable def m_nat_Zeros_l2 (a_0 : (List Nat)) (x7_4 : Int) : Option ((Int) ⊕ ((Unit) ⊕ Int)) :=
  if x7_4 < (((a_0.length) : Nat) : Int) then ck (0 ≤ x7_4 ∧ x7_4 < (((a_0.length) : Nat) : Int)) (if ¬ ((a_0.getD (x7_4.toNat) (0 : Nat)) = (0 : Nat)) then ck (I64 ((64 : Int) * x7_4)) (ck (I64 (((64 : Int) * x7_4) + (f_bits_TrailingZeros64 (a_0.getD (x7_4.toNat) (0 : Nat))))) (some (.inr (.inr (((64 : Int) * x7_4) + (f_bits_TrailingZeros64 (a_0.getD (x7_4.toNat) (0 : Nat)))))))) else ck (I64 (x7_4 + (1 : Int))) (some (.inl (x7_4 + (1 : Int))))) else some (.inr (.inl ()))
noncomputable def m_nat_Zeros (a_0 : (List Nat)) : Option Int :=
  (loopO (fun d : Int => m_nat_Zeros_l2 a_0 d) (0 : Int)).bind (fun e => match e with | (.inl e) => some (-1 : Int) | (.inr e) => some e)
def f_nat_Zeros (a : List Nat) : Int := if nv a = 0 then -1 else (tzn (nv a) : Int)
theorem law_nat_Zeros (a : List Nat) (w : (Ty.sl (.u .u64)).wf a) (hp : pSz a) : m_nat_Zeros a = some (f_nat_Zeros a) := by
  have hl := wf_Lm w
  have hs : a.length ≤ 1099511627776 := hp
  unfold m_nat_Zeros f_nat_Zeros
  have key := loopO_of (step := fun d : Int => m_nat_Zeros_l2 a d) (I := fun i => 0 ≤ i ∧ i ≤ a.length ∧ nv (a.take i.toNat) = 0) (fun i => (a.length - i).toNat)
      (fun i => if nv a = 0 then (.inl () : Unit ⊕ Int) else .inr (tzn (nv a) : Int)) ?_ 0 ⟨by omega, by omega, rfl⟩
  · refine bind_to key ?_
    by_cases e : nv a = 0 <;> simp [e]
  · intro i ⟨h0, h1, h2⟩
    try dsimp only
    unfold m_nat_Zeros_l2
    by_cases hi : i < a.length
    · have hk : i.toNat < a.length := by omega
      have hd := nv_take_drop a i.toNat
      rw [h2, Nat.zero_add, Nat.min_eq_left (by omega), List.drop_eq_getElem_cons hk, nv_cons] at hd
      have hg : a.getD i.toNat 0 = a[i.toNat] := by rw [List.getD_eq_getElem?_getD, List.getElem?_eq_getElem hk]; rfl
      have hx := getD_lt hl i.toNat
      rw [← hg] at hd
      rw [if_pos hi]
      by_cases hz : a.getD i.toNat 0 = 0
      · left
        refine ⟨i + 1, ck_to (by constructor <;> omega) ?_, ⟨by omega, by omega, ?_⟩, by omega, rfl⟩
        · rw [if_neg (by simpa using hz)]
          exact ck_to (by constructor <;> omega) rfl
        · rw [show (i + 1).toNat = i.toNat + 1 from by omega, nv_take_succ hk, h2, hz, Nat.mul_zero]
      · right
        obtain ⟨c1, c2⟩ := ctz_tzn hx hz
        have hne : a.getD i.toNat 0 + 18446744073709551616 * nv (a.drop (i.toNat + 1)) ≠ 0 := by omega
        have ht : tzn (nv a) = 64 * i.toNat + tzn (a.getD i.toNat 0) := by
          rw [hd, BB_pow, tzn_mul _ hne, tzn_low hx hz]
        have hn0 : nv a ≠ 0 := by
          rw [hd]
          exact Nat.mul_ne_zero (by rw [BB_pow]; exact Nat.pos_iff_ne_zero.1 (Nat.two_pow_pos _)) hne
        refine ck_to (by constructor <;> omega) ?_
        rw [if_pos (by simpa using hz), if_neg hn0, ht]
        unfold f_bits_TrailingZeros64
        rw [c1]
        refine ck_to (by constructor <;> omega) (ck_to (by constructor <;> omega) ?_)
        congr 3; omega
    · right
      rw [if_neg hi]
      have : nv a = 0 := by rw [show i.toNat = a.length from by omega, List.take_length] at h2; exact h2
      rw [if_pos this]
theorem nv_take_more (b : List Nat) (i : Nat) : nv (b.take (i + 1)) = nv (b.take i) + 18446744073709551616 ^ i * b.getD i 0 := by
  rcases Nat.lt_or_ge i b.length with h | h
  · exact nv_take_succ h
  · rw [List.take_of_length_le (by omega), List.take_of_length_le h, List.getD_eq_getElem?_getD, List.getElem?_eq_none h]
    simp
theorem set_take {a : List Nat} {i v : Nat} (h : i < a.length) : (a.set i v).take (i + 1) = a.take i ++ [v] := by
  rw [take_succ (by rw [List.length_set]; exact h), List.take_set_of_le (Nat.le_refl i), List.getD_eq_getElem?_getD, List.getElem?_set_self h]; rfl
theorem nv_set_take {a : List Nat} {i v : Nat} (h : i < a.length) : nv ((a.set i v).take (i + 1)) = nv (a.take i) + 18446744073709551616 ^ i * v := by
  rw [set_take h, nv_app, List.length_take, Nat.min_eq_left (Nat.le_of_lt h)]; simp [nv]
theorem getD_of_drop {a b : List Nat} {i : Nat} (h : a.drop i = b.drop i) : a.getD i 0 = b.getD i 0 := by
  have h1 := congrArg (fun l => l.getD 0 0) h
  simpa [List.getD_eq_getElem?_getD, List.getElem?_drop] using h1
theorem drop_next {a b : List Nat} {i : Nat} (h : a.drop i = b.drop i) : a.drop (i + 1) = b.drop (i + 1) := by
  have h1 := congrArg (List.drop 1) h
  simpa [List.drop_drop] using h1
theorem drop_set {a : List Nat} {i v : Nat} : (a.set i v).drop (i + 1) = a.drop (i + 1) := by
  rw [List.drop_set_of_lt (by omega)]
noncomputable def m_nat_Plus_j2 (x22_13 : Int) (out_14 : (List Nat)) (carry_12 : Nat) (x_21 : Nat) : Option ((Nat × Int × (List Nat)) ⊕ (((List Nat)))) :=
  ck (0 ≤ x22_13 ∧ x22_13 < (((out_14.length) : Nat) : Int)) (ck ((pCarry (out_14.getD (x22_13.toNat) (0 : Nat)) x_21 carry_12)) (ck (0 ≤ x22_13 ∧ x22_13 < (((out_14.length) : Nat) : Int)) (ck (I64 (x22_13 + (1 : Int))) (some (.inl ((((fAdd64 (out_14.getD (x22_13.toNat) (0 : Nat)) x_21 carry_12).2).1), (x22_13 + (1 : Int)), (out_14.set (x22_13.toNat) ((fAdd64 (out_14.getD (x22_13.toNat) (0 : Nat)) x_21 carry_12).1))))))))
noncomputable def m_nat_Plus_l6 (a_3 : (List Nat)) (b_4 : (List Nat)) (carry_12 : Nat) (x22_13 : Int) (out_14 : (List Nat)) : Option ((Nat × Int × (List Nat)) ⊕ (((List Nat)))) :=
  if x22_13 < (((((id a_3) ++ ([0] : List Nat)).length) : Nat) : Int) then if x22_13 < (((b_4.length) : Nat) : Int) then ck (0 ≤ x22_13 ∧ x22_13 < (((b_4.length) : Nat) : Int)) (m_nat_Plus_j2 x22_13 out_14 carry_12 (b_4.getD (x22_13.toNat) (0 : Nat))) else if carry_12 = (0 : Nat) then some (.inr out_14) else m_nat_Plus_j2 x22_13 out_14 carry_12 (0 : Nat) else some (.inr out_14)
noncomputable def m_nat_Plus_j1 (a_3 : (List Nat)) (b_4 : (List Nat)) : Option ((List Nat)) :=
  ck ((p64s a_3)) (ck ((((id a_3).length) + (1 : Nat)) * 8 ≤ 140737488355328) ((loopO (fun d : Nat × Int × (List Nat) => m_nat_Plus_l6 a_3 b_4 d.1 d.2.1 d.2.2) ((0 : Nat), (0 : Int), ((id a_3) ++ ([0] : List Nat)))).bind (fun e => some (f_nat_trim e))))
noncomputable def m_nat_Plus (a_0 : (List Nat)) (b_1 : (List Nat)) : Option (List Nat) :=
  if (((a_0.length) : Nat) : Int) < (((b_1.length) : Nat) : Int) then m_nat_Plus_j1 b_1 a_0 else m_nat_Plus_j1 a_0 b_1
def f_nat_Plus (a b : List Nat) : List Nat := lb (nv a + nv b)
structure PlusI (a b : List Nat) (c : Nat) (i : Int) (out : List Nat) : Prop where
  i0 : 0 ≤ i
  i1 : i ≤ a.length + 1
  len : out.length = a.length + 1
  lm : Lm out
  c1 : c ≤ 1
  rest : out.drop i.toNat = (a ++ [0]).drop i.toNat
  sum : nv (out.take i.toNat) + 18446744073709551616 ^ i.toNat * c = nv ((a ++ [0]).take i.toNat) + nv (b.take i.toNat)
theorem pos_step {P p q r x y c s c' : Nat} (h : p + P * c = q + r) (e : s + 18446744073709551616 * c' = x + y + c) : p + P * s + P * 18446744073709551616 * c' = q + P * x + (r + P * y) := by
  have e2 := congrArg (P * ·) e
  simp only [Nat.mul_add] at e2
  rw [Nat.mul_assoc P 18446744073709551616 c']
  omega
theorem PlusI_step {a b : List Nat} {c : Nat} {i : Int} {out : List Nat} (lb' : Lm b) (h : PlusI a b c i out) (hi : i < a.length + 1) : PlusI a b ((out.getD i.toNat 0 + b.getD i.toNat 0 + c) / 18446744073709551616) (i + 1) (out.set i.toNat ((out.getD i.toNat 0 + b.getD i.toNat 0 + c) % 18446744073709551616)) := by
  have hx := getD_lt h.lm i.toNat
  have hy := getD_lt lb' i.toNat
  have hc := h.c1
  have h0 := h.i0
  have hl := h.len
  have e1 : (i + 1).toNat = i.toNat + 1 := by omega
  refine ⟨by omega, by omega, by rw [List.length_set]; exact hl, Lm_set h.lm _ (Nat.mod_lt _ (by decide)), by omega, ?_, ?_⟩
  · rw [e1, drop_set]; exact drop_next h.rest
  · rw [e1, nv_set_take (by omega), nv_take_more, nv_take_more b, ← getD_of_drop h.rest, Nat.pow_succ]
    exact pos_step h.sum (Nat.mod_add_div _ _)
theorem Plus_j2 {a b : List Nat} {c : Nat} {i : Int} {out : List Nat} (sa : a.length ≤ 1099511627776) (h : PlusI a b c i out) (hi : i < a.length + 1) (y : Nat) : m_nat_Plus_j2 i out c y = some (.inl ((out.getD i.toNat 0 + y + c) / 18446744073709551616, i + 1, out.set i.toNat ((out.getD i.toNat 0 + y + c) % 18446744073709551616))) := by
  have h0 := h.i0
  have hl := h.len
  unfold m_nat_Plus_j2 fAdd64
  exact ck_to (by constructor <;> omega) (ck_to h.c1 (ck_to (by constructor <;> omega) (ck_to (by constructor <;> omega) rfl)))
theorem PlusI_end {a b : List Nat} {i : Int} {out : List Nat} (h : PlusI a b 0 i out) (hb : (b.length : Int) ≤ i) : nv out = nv a + nv b := by
  have eA : nv (a ++ [0]) = nv a := by rw [nv_app]; simp [nv]
  have lA : (a ++ [0]).length = a.length + 1 := by simp
  have h0 := h.i0
  have h1 := h.i1
  have hl := h.len
  have h6 := h.sum
  rw [Nat.mul_zero, Nat.add_zero, List.take_of_length_le (l := b) (by omega)] at h6
  have t1 := nv_take_drop out i.toNat
  have t2 := nv_take_drop (a ++ [0]) i.toNat
  rw [Nat.min_eq_left (by omega)] at t1
  rw [Nat.min_eq_left (by omega)] at t2
  rw [t1, h6, h.rest, ← eA, t2]; omega
theorem PlusI_full {a b : List Nat} {c : Nat} {i : Int} {out : List Nat} (la : Lm a) (lb' : Lm b) (hab : b.length ≤ a.length) (h : PlusI a b c i out) (hi : ¬ i < a.length + 1) : c = 0 := by
  have eA : nv (a ++ [0]) = nv a := by rw [nv_app]; simp [nv]
  have lA : (a ++ [0]).length = a.length + 1 := by simp
  have h1 := h.i1
  have hl := h.len
  have h6 := h.sum
  rw [List.take_of_length_le (l := out) (by omega), List.take_of_length_le (l := a ++ [0]) (by omega), List.take_of_length_le (l := b) (by omega), eA] at h6
  have p1 := nv_lt la
  have p2 := Nat.lt_of_lt_of_le (nv_lt lb') (Nat.pow_le_pow_right (show 0 < 18446744073709551616 by decide) hab)
  rw [show i.toNat = a.length + 1 from by omega, Nat.pow_succ] at h6
  rcases Nat.eq_zero_or_pos c with h | h
  · exact h
  · have : 18446744073709551616 ^ a.length * 18446744073709551616 * 1 ≤ 18446744073709551616 ^ a.length * 18446744073709551616 * c := Nat.mul_le_mul_left _ h
    generalize 18446744073709551616 ^ a.length = P at *
    omega
theorem Plus_l6 {a b : List Nat} (la : Lm a) (lb' : Lm b) (sa : a.length ≤ 1099511627776) (hab : b.length ≤ a.length) {c : Nat} {i : Int} {out : List Nat} (h : PlusI a b c i out) :
    (∃ d' : Nat × Int × List Nat, m_nat_Plus_l6 a b c i out = some (.inl d') ∧ PlusI a b d'.1 d'.2.1 d'.2.2 ∧ (a.length + 1 - d'.2.1).toNat < (a.length + 1 - i).toNat) ∨ ∃ e, m_nat_Plus_l6 a b c i out = some (.inr e) ∧ Lm e ∧ nv e = nv a + nv b := by
  have lA : (id a ++ [0]).length = a.length + 1 := by simp
  have h0 := h.i0
  unfold m_nat_Plus_l6
  rw [lA]
  by_cases hi : i < a.length + 1
  · rw [if_pos (by omega)]
    by_cases hb : i < b.length
    · left
      refine ⟨(_, _, _), ?_, PlusI_step lb' h hi, ?_⟩
      · rw [if_pos hb]
        exact ck_to (by constructor <;> omega) (Plus_j2 sa h hi _)
      · simp only; omega
    · rw [if_neg hb]
      have hy0 : b.getD i.toNat 0 = 0 := by rw [List.getD_eq_getElem?_getD, List.getElem?_eq_none (by omega)]; rfl
      by_cases hc : c = 0
      · right
        subst hc
        exact ⟨out, by rw [if_pos rfl], h.lm, PlusI_end h (by omega)⟩
      · left
        have hs := PlusI_step lb' h hi
        rw [hy0] at hs
        refine ⟨(_, _, _), ?_, hs, ?_⟩
        · rw [if_neg hc]; exact Plus_j2 sa h hi _
        · simp only; omega
  · right
    rw [if_neg (by omega)]
    have hc := PlusI_full la lb' hab h hi
    subst hc
    exact ⟨out, rfl, h.lm, PlusI_end h (by have := h.i1; omega)⟩
theorem Plus_j1 {a b : List Nat} (la : Lm a) (lb' : Lm b) (sa : Sz a) (hab : b.length ≤ a.length) : m_nat_Plus_j1 a b = some (lb (nv a + nv b)) := by
  have sa : a.length ≤ 1099511627776 := sa
  have key := loopO_post (step := fun d : Nat × Int × (List Nat) => m_nat_Plus_l6 a b d.1 d.2.1 d.2.2) (I := fun d => PlusI a b d.1 d.2.1 d.2.2) (fun d => (a.length + 1 - d.2.1).toNat)
      (fun e => Lm e ∧ nv e = nv a + nv b) (fun d h => Plus_l6 la lb' sa hab h) (0, 0, a ++ [0]) ⟨by simp, by simp; omega, by simp, Lm_app la (by intro x hx; simp at hx; subst hx; decide), by simp, rfl, by simp [nv]⟩
  obtain ⟨e, h1, h2, h3⟩ := key
  unfold m_nat_Plus_j1
  refine ck_to (by show a.length * 8 ≤ _; omega) (ck_to (by show (a.length + 1) * 8 ≤ _; omega) (bind_to h1 ?_))
  rw [f_nat_trim, h3]
theorem law_nat_Plus (a : List Nat) (wa : (Ty.sl (.u .u64)).wf a) (b : List Nat) (wb : (Ty.sl (.u .u64)).wf b) (hp : pSz2 a b) : m_nat_Plus a b = some (f_nat_Plus a b) := by
  unfold m_nat_Plus f_nat_Plus
  refine if_to (fun h => ?_) (fun h => ?_)
  · rw [Plus_j1 (wf_Lm wb) (wf_Lm wa) hp.2 (by omega), Nat.add_comm]
  · exact Plus_j1 (wf_Lm wa) (wf_Lm wb) hp.1 (by omega)
noncomputable def m_nat_Norm (a_0 : (List Nat)) : Option (List Nat) :=
  ck ((p64s (f_nat_trim a_0))) (some (id (f_nat_trim a_0)))
def f_nat_Norm (a : List Nat) : List Nat := lb (nv a)
theorem lb_len_nv {a : List Nat} (h : Lm a) : (lb (nv a)).length ≤ a.length := lb_len.2 (nv_lt h)
theorem law_nat_Norm (a : List Nat) (w : (Ty.sl (.u .u64)).wf a) (hp : pSz a) : m_nat_Norm a = some (f_nat_Norm a) := by
  have hp : a.length ≤ 1099511627776 := hp
  have := lb_len_nv (wf_Lm w)
  unfold m_nat_Norm f_nat_Norm f_nat_trim
  exact ck_to (by show (lb (nv a)).length * 8 ≤ _; omega) rfl
end Nu
end Go.Proofs
namespace Go.Proofs
open Go.Vc
set_option maxRecDepth 20000
namespace Nu
theorem limb_mul {x y c o : Nat} (hx : x < 18446744073709551616) (hy : y < 18446744073709551616) (hc : c < 18446744073709551616) (ho : o < 18446744073709551616) :
    (o + (x * y % 18446744073709551616 + c + 0) % 18446744073709551616 + 0) % 18446744073709551616 + 18446744073709551616 * (((x * y / 18446744073709551616 + (x * y % 18446744073709551616 + c + 0) / 18446744073709551616) % 18446744073709551616 + (o + (x * y % 18446744073709551616 + c + 0) % 18446744073709551616 + 0) / 18446744073709551616) % 18446744073709551616) = o + x * y + c := by
  have p : x * y ≤ 18446744073709551615 * 18446744073709551615 := Nat.mul_le_mul (by omega) (by omega)
  have e := Nat.div_add_mod (x * y) 18446744073709551616
  have m := Nat.mod_lt (x * y) (show 0 < 18446744073709551616 by decide)
  generalize x * y = z at *
  generalize z / 18446744073709551616 = hi at *
  generalize z % 18446744073709551616 = lo at *
  omega
theorem getD_nv {a : List Nat} (h : Lm a) (k : Nat) : a.getD k 0 = nv a / 18446744073709551616 ^ k % 18446744073709551616 := by
  rw [← nv_drop h]
  rcases Nat.lt_or_ge k a.length with hk | hk
  · rw [List.drop_eq_getElem_cons hk, nv_cons, Nat.add_mul_mod_self_left, List.getD_eq_getElem?_getD, List.getElem?_eq_getElem hk]
    exact (Nat.mod_eq_of_lt (h _ (List.getElem_mem hk))).symm
  · rw [List.drop_eq_nil_of_le hk, List.getD_eq_getElem?_getD, List.getElem?_eq_none hk]; rfl
theorem getD_high {a : List Nat} (h : Lm a) {k : Nat} (hk : nv a < 18446744073709551616 ^ k) : a.getD k 0 = 0 := by
  rw [getD_nv h, Nat.div_eq_of_lt hk]
noncomputable def m_nat_Times_j1 (x22_34 : Int) (b_1 : (List Nat)) (carry_62 : Nat) (out_63 : (List Nat)) : Option ((Int × (List Nat)) ⊕ (((List Nat)))) :=
  ck (I64 (x22_34 + (((b_1.length) : Nat) : Int))) (ck (0 ≤ (x22_34 + (((b_1.length) : Nat) : Int)) ∧ (x22_34 + (((b_1.length) : Nat) : Int)) < (((out_63.length) : Nat) : Int)) (ck (I64 (x22_34 + (1 : Int))) (some (.inl ((x22_34 + (1 : Int)), (out_63.set ((x22_34 + (((b_1.length) : Nat) : Int)).toNat) carry_62))))))
noncomputable def m_nat_Times_l7 (b_1 : (List Nat)) (a_0 : (List Nat)) (x22_34 : Int) (carry_64 : Nat) (x29_65 : Int) (out_66 : (List Nat)) : Option ((Nat × Int × (List Nat)) ⊕ ((Nat × (List Nat)))) :=
  if x29_65 < (((b_1.length) : Nat) : Int) then ck (0 ≤ x29_65 ∧ x29_65 < (((b_1.length) : Nat) : Int)) (ck ((pCarry (((f_bits_Mul64 (a_0.getD (x22_34.toNat) (0 : Nat)) (b_1.getD (x29_65.toNat) (0 : Nat))).2).1) carry_64 (0 : Nat))) (ck (I64 (x22_34 + x29_65)) (ck (I64 (x22_34 + x29_65)) (ck (0 ≤ (x22_34 + x29_65) ∧ (x22_34 + x29_65) < (((out_66.length) : Nat) : Int)) (ck ((pCarry (out_66.getD ((x22_34 + x29_65).toNat) (0 : Nat)) ((fAdd64 (((f_bits_Mul64 (a_0.getD (x22_34.toNat) (0 : Nat)) (b_1.getD (x29_65.toNat) (0 : Nat))).2).1) carry_64 (0 : Nat)).1) (0 : Nat))) (ck (0 ≤ (x22_34 + x29_65) ∧ (x22_34 + x29_65) < (((out_66.length) : Nat) : Int)) (ck (I64 (x29_65 + (1 : Int))) (some (.inl (((((((f_bits_Mul64 (a_0.getD (x22_34.toNat) (0 : Nat)) (b_1.getD (x29_65.toNat) (0 : Nat))).1) + (((fAdd64 (((f_bits_Mul64 (a_0.getD (x22_34.toNat) (0 : Nat)) (b_1.getD (x29_65.toNat) (0 : Nat))).2).1) carry_64 (0 : Nat)).2).1)) % 18446744073709551616) + (((fAdd64 (out_66.getD ((x22_34 + x29_65).toNat) (0 : Nat)) ((fAdd64 (((f_bits_Mul64 (a_0.getD (x22_34.toNat) (0 : Nat)) (b_1.getD (x29_65.toNat) (0 : Nat))).2).1) carry_64 (0 : Nat)).1) (0 : Nat)).2).1)) % 18446744073709551616), (x29_65 + (1 : Int)), (out_66.set ((x22_34 + x29_65).toNat) ((fAdd64 (out_66.getD ((x22_34 + x29_65).toNat) (0 : Nat)) ((fAdd64 (((f_bits_Mul64 (a_0.getD (x22_34.toNat) (0 : Nat)) (b_1.getD (x29_65.toNat) (0 : Nat))).2).1) carry_64 (0 : Nat)).1) (0 : Nat)).1)))))))))))) else some (.inr (carry_64, out_66))
noncomputable def m_nat_Times_l3 (a_0 : (List Nat)) (b_1 : (List Nat)) (x22_34 : Int) (out_35 : (List Nat)) : Option ((Int × (List Nat)) ⊕ (((List Nat)))) :=
  if x22_34 < (((a_0.length) : Nat) : Int) then ck (0 ≤ x22_34 ∧ x22_34 < (((a_0.length) : Nat) : Int)) ((loopO (fun d : Nat × Int × (List Nat) => m_nat_Times_l7 b_1 a_0 x22_34 d.1 d.2.1 d.2.2) ((0 : Nat), (0 : Int), out_35)).bind (fun e => m_nat_Times_j1 x22_34 b_1 e.1 e.2)) else some (.inr out_35)
noncomputable def m_nat_Times (a_0 : (List Nat)) (b_1 : (List Nat)) : Option (List Nat) :=
  ck (I64 ((((a_0.length) : Nat) : Int) + (((b_1.length) : Nat) : Int))) (ck (0 ≤ ((((a_0.length) : Nat) : Int) + (((b_1.length) : Nat) : Int))) (ck ((8 : Int) * ((((a_0.length) : Nat) : Int) + (((b_1.length) : Nat) : Int)) ≤ 281474976710656) ((loopO (fun d : Int × (List Nat) => m_nat_Times_l3 a_0 b_1 d.1 d.2) ((0 : Int), (List.replicate (((((a_0.length) : Nat) : Int) + (((b_1.length) : Nat) : Int)).toNat) (0 : Nat)))).bind (fun e => some (f_nat_trim e)))))
def f_nat_Times (a b : List Nat) : List Nat := lb (nv a * nv b)
structure MulJ (b : List Nat) (x : Nat) (i : Int) (o0 : List Nat) (c : Nat) (j : Int) (out : List Nat) : Prop where
  j0 : 0 ≤ j
  j1 : j ≤ b.length
  len : out.length = o0.length
  lm : Lm out
  c1 : c < 18446744073709551616
  rest : out.drop (i + j).toNat = o0.drop (i + j).toNat
  sum : nv out + 18446744073709551616 ^ (i + j).toNat * c = nv o0 + 18446744073709551616 ^ i.toNat * x * nv (b.take j.toNat)
theorem mul_sum {N N' N0 Q R P o v c c' x y t : Nat} (hP : P = Q * R) (h1 : N' + P * o = N + P * v) (h2 : N + P * c = N0 + Q * x * t) (h3 : v + 18446744073709551616 * c' = o + x * y + c) : N' + P * 18446744073709551616 * c' = N0 + Q * x * (t + R * y) := by
  have e := congrArg (P * ·) h3
  simp only [Nat.mul_add] at e
  have e2 : P * (x * y) = Q * x * (R * y) := by
    rw [hP, Nat.mul_assoc, Nat.mul_assoc]; congr 1; rw [Nat.mul_left_comm]
  rw [Nat.mul_add, Nat.mul_assoc P 18446744073709551616 c']
  omega
theorem MulJ_step {b : List Nat} {x : Nat} {i : Int} {o0 : List Nat} {c : Nat} {j : Int} {out : List Nat} (hx : x < 18446744073709551616) (lb' : Lm b) (hi : 0 ≤ i) (hl : i + b.length ≤ o0.length) (h : MulJ b x i o0 c j out) (hj : j < b.length) {v c' : Nat} (hv : v < 18446744073709551616) (hc' : c' < 18446744073709551616) (e : v + 18446744073709551616 * c' = out.getD (i + j).toNat 0 + x * b.getD j.toNat 0 + c) :
    MulJ b x i o0 c' (j + 1) (out.set (i + j).toNat v) := by
  have h0 := h.j0
  have hlen := h.len
  have e1 : (i + (j + 1)).toNat = (i + j).toNat + 1 := by omega
  have e2 : (j + 1).toNat = j.toNat + 1 := by omega
  refine ⟨by omega, by omega, by rw [List.length_set]; exact hlen, Lm_set h.lm _ hv, hc', ?_, ?_⟩
  · rw [e1, drop_set]; exact drop_next h.rest
  · rw [e1, e2, nv_take_more, Nat.pow_succ]
    exact mul_sum (R := 18446744073709551616 ^ j.toNat) (by rw [← Nat.pow_add]; congr 1; omega) (nv_set (by omega)) h.sum e
theorem Times_l7 {a b : List Nat} {i : Int} {o0 : List Nat} (hi : 0 ≤ i) (hs : i + b.length ≤ 9000000000000) (hl : i + b.length ≤ o0.length) (la : Lm a) (lb' : Lm b) {c : Nat} {j : Int} {out : List Nat} (h : MulJ b (a.getD i.toNat 0) i o0 c j out) :
    (∃ d' : Nat × Int × List Nat, m_nat_Times_l7 b a i c j out = some (.inl d') ∧ MulJ b (a.getD i.toNat 0) i o0 d'.1 d'.2.1 d'.2.2 ∧ (b.length - d'.2.1).toNat < (b.length - j).toNat) ∨ ∃ e : Nat × List Nat, m_nat_Times_l7 b a i c j out = some (.inr e) ∧ MulJ b (a.getD i.toNat 0) i o0 e.1 b.length e.2 := by
  have h0 := h.j0
  have hlen := h.len
  have h1 := h.j1
  have hx := getD_lt la i.toNat
  have hy := getD_lt lb' j.toNat
  have ho := getD_lt h.lm (i + j).toNat
  unfold m_nat_Times_l7
  by_cases hj : j < b.length
  · left
    have key := limb_mul hx hy h.c1 ho
    refine ⟨(_, _, _), ?_, MulJ_step hx lb' hi hl h hj (Nat.mod_lt _ (by decide)) (Nat.mod_lt _ (by decide)) key, ?_⟩
    · rw [if_pos hj]
      refine ck_to (by constructor <;> omega) (ck_to (Nat.zero_le _) (ck_to (by constructor <;> omega) (ck_to (by constructor <;> omega) (ck_to (by constructor <;> omega) (ck_to (Nat.zero_le _) (ck_to (by constructor <;> omega) (ck_to (by constructor <;> omega) ?_)))))))
      simp only [f_bits_Mul64, fAdd64]
    · simp only; omega
  · right
    refine ⟨(c, out), by rw [if_neg hj], ?_⟩
    have e : j = b.length := by omega
    rw [e] at h
    exact h
structure MulI (a b : List Nat) (i : Int) (out : List Nat) : Prop where
  i0 : 0 ≤ i
  i1 : i ≤ a.length
  len : out.length = a.length + b.length
  lm : Lm out
  sum : nv out = nv (a.take i.toNat) * nv b
theorem MulI_high {a b : List Nat} {i : Int} {out : List Nat} (la : Lm a) (lb' : Lm b) (h : MulI a b i out) : nv out < 18446744073709551616 ^ (i.toNat + b.length) := by
  rw [h.sum, Nat.pow_add]
  have h1 := nv_lt (Lm_take la i.toNat)
  have h2 := nv_lt lb'
  have h3 : (a.take i.toNat).length ≤ i.toNat := by rw [List.length_take]; omega
  have h4 := Nat.lt_of_lt_of_le h1 (Nat.pow_le_pow_right (show 0 < 18446744073709551616 by decide) h3)
  have hp : 0 < 18446744073709551616 ^ b.length := Nat.pow_pos (by decide)
  exact Nat.mul_lt_mul'' h4 h2
theorem MulI_step {a b : List Nat} {i : Int} {out : List Nat} (la : Lm a) (lb' : Lm b) (h : MulI a b i out) (hi : i < a.length) {c : Nat} {out' : List Nat} (hj : MulJ b (a.getD i.toNat 0) i out c b.length out') : MulI a b (i + 1) (out'.set (i + b.length).toNat c) := by
  have h0 := h.i0
  have hl := h.len
  have hl' := hj.len
  have e1 : (i + 1).toNat = i.toNat + 1 := by omega
  have e2 : (i + (b.length : Int)).toNat = i.toNat + b.length := by omega
  have hz : out'.getD (i.toNat + b.length) 0 = 0 := by
    have := getD_of_drop hj.rest
    rw [e2] at this
    rw [this]
    exact getD_high h.lm (MulI_high la lb' h)
  refine ⟨by omega, by omega, by rw [List.length_set]; omega, Lm_set hj.lm _ hj.c1, ?_⟩
  have hn := nv_set (a := out') (k := i.toNat + b.length) (v := c) (by omega)
  have hs := hj.sum
  rw [e2] at hs ⊢
  rw [hz, Nat.mul_zero, Nat.add_zero] at hn
  rw [hn, hs, e1, nv_take_more, h.sum, Int.toNat_natCast, List.take_length, Nat.add_mul]
theorem law_nat_Times (a : List Nat) (wa : (Ty.sl (.u .u64)).wf a) (b : List Nat) (wb : (Ty.sl (.u .u64)).wf b) (hp : pSz2 a b) : m_nat_Times a b = some (f_nat_Times a b) := by
  have la := wf_Lm wa
  have lb' := wf_Lm wb
  have sa : a.length ≤ 1099511627776 := hp.1
  have sb : b.length ≤ 1099511627776 := hp.2
  have key := loopO_post (step := fun d : Int × (List Nat) => m_nat_Times_l3 a b d.1 d.2) (I := fun d => MulI a b d.1 d.2) (fun d => (a.length - d.1).toNat) (fun e => nv e = nv a * nv b) ?_ (0, List.replicate (a.length + b.length) 0) ⟨by simp, by simp, by simp, Lm_rep _, by simp [nv_rep, nv]⟩
  · obtain ⟨e, h1, h2⟩ := key
    unfold m_nat_Times f_nat_Times
    rw [show ((a.length : Int) + (b.length : Int)).toNat = a.length + b.length from by omega]
    refine ck_to (by constructor <;> omega) (ck_to (by omega) (ck_to (by omega) (bind_to h1 ?_)))
    rw [f_nat_trim, h2]
  · rintro ⟨i, out⟩ h
    have h : MulI a b i out := h
    have h0 := h.i0
    have h1 := h.i1
    have hl := h.len
    show (∃ d', m_nat_Times_l3 a b i out = _ ∧ _) ∨ ∃ e, m_nat_Times_l3 a b i out = _ ∧ _
    unfold m_nat_Times_l3
    by_cases hi : i < a.length
    · left
      obtain ⟨e, q1, q2⟩ := loopO_post (step := fun d : Nat × Int × (List Nat) => m_nat_Times_l7 b a i d.1 d.2.1 d.2.2) (I := fun d => MulJ b (a.getD i.toNat 0) i out d.1 d.2.1 d.2.2) (fun d => (b.length - d.2.1).toNat) (fun e => MulJ b (a.getD i.toNat 0) i out e.1 b.length e.2)
        (fun d hd => Times_l7 h0 (by omega) (by omega) la lb' hd) (0, 0, out) ⟨by simp, by simp, rfl, h.lm, by simp, rfl, by simp [nv]⟩
      have hlen := q2.len
      refine ⟨(i + 1, e.2.set (i + b.length).toNat e.1), ?_, MulI_step la lb' h hi q2, by simp only; omega⟩
      rw [if_pos hi]
      refine ck_to (by constructor <;> omega) (bind_to q1 ?_)
      unfold m_nat_Times_j1
      exact ck_to (by constructor <;> omega) (ck_to (by constructor <;> omega) (ck_to (by constructor <;> omega) rfl))
    · right
      refine ⟨out, by rw [if_neg hi], ?_⟩
      have := h.sum
      rw [show i.toNat = a.length from by omega, List.take_length] at this
      exact this
end Nu
end Go.Proofs
namespace Go.Proofs
open Go.Vc
set_option maxRecDepth 20000
namespace Nu
theorem tdiv64 {n : Int} (h : 0 ≤ n) : Int.tdiv n 64 = ((n.toNat / 64 : Nat) : Int) ∧ Int.tmod n 64 = ((n.toNat % 64 : Nat) : Int) := by
  obtain ⟨m, rfl⟩ := Int.eq_ofNat_of_zero_le h
  constructor
  · rw [Int.toNat_natCast]; rfl
  · rw [Int.toNat_natCast]; rfl
theorem u64_small {r : Nat} (h : r < 64) : (((r : Int)) % (18446744073709551616 : Int)).toNat = r ∧ ((63 - (r : Int)) % (18446744073709551616 : Int)).toNat = 63 - r := by omega
theorem two64 (r : Nat) (h : r ≤ 64) : 2 ^ (64 - r) * 2 ^ r = 18446744073709551616 := by
  rw [← Nat.pow_add, show 64 - r + r = 64 from by omega]
theorem shl_mod (x r : Nat) (h : r ≤ 64) : x * 2 ^ r % 18446744073709551616 = 2 ^ r * (x % 2 ^ (64 - r)) := by
  rw [← two64 r h, Nat.mul_comm (2 ^ (64 - r)), Nat.mul_comm x, Nat.mul_mod_mul_left]
theorem shl_div (x r : Nat) (h : r ≤ 63) : x * 2 ^ r / 18446744073709551616 = x / 2 / 2 ^ (63 - r) := by
  rw [← two64 r (by omega), Nat.mul_div_mul_right _ _ (Nat.two_pow_pos r), Nat.div_div_eq_div_mul, ← Nat.pow_succ', show (63 - r).succ = 64 - r from by omega]
theorem or_add {o r t : Nat} (h : o < 2 ^ r) : o ||| 2 ^ r * t = o + 2 ^ r * t := by
  have := Nat.two_pow_add_eq_or_of_lt h t
  rw [Nat.or_comm, ← this, Nat.add_comm]
noncomputable def m_nat_Left_l5 (a_0 : (List Nat)) (n_1 : Int) (x20_7 : Int) (out_8 : (List Nat)) : Option ((Int × (List Nat)) ⊕ (((List Nat)))) :=
  if x20_7 < (((a_0.length) : Nat) : Int) then ck (0 ≤ x20_7 ∧ x20_7 < (((a_0.length) : Nat) : Int)) (ck (I64 (Int.tdiv n_1 (64 : Int))) (ck (I64 ((Int.tdiv n_1 (64 : Int)) + x20_7)) (ck (0 ≤ ((Int.tdiv n_1 (64 : Int)) + x20_7) ∧ ((Int.tdiv n_1 (64 : Int)) + x20_7) < (((out_8.length) : Nat) : Int)) (ck (0 ≤ ((Int.tdiv n_1 (64 : Int)) + x20_7) ∧ ((Int.tdiv n_1 (64 : Int)) + x20_7) < (((out_8.length) : Nat) : Int)) (ck (I64 (Int.tdiv n_1 (64 : Int))) (ck (I64 ((Int.tdiv n_1 (64 : Int)) + x20_7)) (ck (I64 (((Int.tdiv n_1 (64 : Int)) + x20_7) + (1 : Int))) (ck (0 ≤ (((Int.tdiv n_1 (64 : Int)) + x20_7) + (1 : Int)) ∧ (((Int.tdiv n_1 (64 : Int)) + x20_7) + (1 : Int)) < ((((out_8.set (((Int.tdiv n_1 (64 : Int)) + x20_7).toNat) ((out_8.getD (((Int.tdiv n_1 (64 : Int)) + x20_7).toNat) (0 : Nat)) ||| (((a_0.getD (x20_7.toNat) (0 : Nat)) * (2 ^ (((Int.tmod n_1 (64 : Int)) % (18446744073709551616 : Int)).toNat))) % 18446744073709551616))).length) : Nat) : Int)) (ck (I64 ((63 : Int) - (Int.tmod n_1 (64 : Int)))) (ck (0 ≤ (((Int.tdiv n_1 (64 : Int)) + x20_7) + (1 : Int)) ∧ (((Int.tdiv n_1 (64 : Int)) + x20_7) + (1 : Int)) < ((((out_8.set (((Int.tdiv n_1 (64 : Int)) + x20_7).toNat) ((out_8.getD (((Int.tdiv n_1 (64 : Int)) + x20_7).toNat) (0 : Nat)) ||| (((a_0.getD (x20_7.toNat) (0 : Nat)) * (2 ^ (((Int.tmod n_1 (64 : Int)) % (18446744073709551616 : Int)).toNat))) % 18446744073709551616))).length) : Nat) : Int)) (ck (I64 (x20_7 + (1 : Int))) (some (.inl ((x20_7 + (1 : Int)), ((out_8.set (((Int.tdiv n_1 (64 : Int)) + x20_7).toNat) ((out_8.getD (((Int.tdiv n_1 (64 : Int)) + x20_7).toNat) (0 : Nat)) ||| (((a_0.getD (x20_7.toNat) (0 : Nat)) * (2 ^ (((Int.tmod n_1 (64 : Int)) % (18446744073709551616 : Int)).toNat))) % 18446744073709551616))).set ((((Int.tdiv n_1 (64 : Int)) + x20_7) + (1 : Int)).toNat) (((out_8.set (((Int.tdiv n_1 (64 : Int)) + x20_7).toNat) ((out_8.getD (((Int.tdiv n_1 (64 : Int)) + x20_7).toNat) (0 : Nat)) ||| (((a_0.getD (x20_7.toNat) (0 : Nat)) * (2 ^ (((Int.tmod n_1 (64 : Int)) % (18446744073709551616 : Int)).toNat))) % 18446744073709551616))).getD ((((Int.tdiv n_1 (64 : Int)) + x20_7) + (1 : Int)).toNat) (0 : Nat)) ||| (((a_0.getD (x20_7.toNat) (0 : Nat)) / (2 : Nat)) / (2 ^ ((((63 : Int) - (Int.tmod n_1 (64 : Int))) % (18446744073709551616 : Int)).toNat))))))))))))))))))) else some (.inr out_8)
noncomputable def m_nat_Left (a_0 : (List Nat)) (n_1 : Int) : Option (List Nat) :=
  if (((a_0.length) : Nat) : Int) = (0 : Int) then some ([] : List Nat) else ck (I64 (Int.tdiv n_1 (64 : Int))) (ck (I64 ((Int.tdiv n_1 (64 : Int)) + (((a_0.length) : Nat) : Int))) (ck (I64 (((Int.tdiv n_1 (64 : Int)) + (((a_0.length) : Nat) : Int)) + (1 : Int))) (ck (0 ≤ (((Int.tdiv n_1 (64 : Int)) + (((a_0.length) : Nat) : Int)) + (1 : Int))) (ck ((8 : Int) * (((Int.tdiv n_1 (64 : Int)) + (((a_0.length) : Nat) : Int)) + (1 : Int)) ≤ 281474976710656) ((loopO (fun d : Int × (List Nat) => m_nat_Left_l5 a_0 n_1 d.1 d.2) ((0 : Int), (List.replicate ((((Int.tdiv n_1 (64 : Int)) + (((a_0.length) : Nat) : Int)) + (1 : Int)).toNat) (0 : Nat)))).bind (fun e => some (f_nat_trim e)))))))
abbrev pLeft (a : List Nat) (n : Int) : Prop := Sz a ∧ 0 ≤ n ∧ n ≤ 1099511627776
def f_nat_Left (a : List Nat) (n : Int) : List Nat := lb (nv a * 2 ^ n.toNat)
structure ShlI (a : List Nat) (q r : Nat) (i : Int) (out : List Nat) : Prop where
  i0 : 0 ≤ i
  i1 : i ≤ a.length
  len : out.length = q + a.length + 1
  lm : Lm out
  sum : nv out = nv (a.take i.toNat) * (18446744073709551616 ^ q * 2 ^ r)
theorem ShlI_low {a : List Nat} {q r : Nat} {i : Int} {out : List Nat} (la : Lm a) (hr : r < 64) (h : ShlI a q r i out) : out.getD (q + i.toNat) 0 < 2 ^ r ∧ out.getD (q + i.toNat + 1) 0 = 0 := by
  have h1 := nv_lt (Lm_take la i.toNat)
  have h3 : (a.take i.toNat).length ≤ i.toNat := by rw [List.length_take]; omega
  have h4 := Nat.lt_of_lt_of_le h1 (Nat.pow_le_pow_right (show 0 < 18446744073709551616 by decide) h3)
  have hp : 0 < 2 ^ r := Nat.two_pow_pos r
  have h5 : nv out < 18446744073709551616 ^ (q + i.toNat) * 2 ^ r := by
    rw [h.sum, Nat.pow_add, Nat.mul_comm (18446744073709551616 ^ q) (18446744073709551616 ^ i.toNat), Nat.mul_assoc]
    exact Nat.mul_lt_mul_of_pos_right h4 (Nat.mul_pos (Nat.pow_pos (by decide)) hp)
  have h6 : (2 : Nat) ^ r ≤ 18446744073709551616 := by
    have := Nat.pow_le_pow_right (n := 2) (by omega) (show r ≤ 64 by omega)
    exact this
  constructor
  · rw [getD_nv h.lm]
    refine Nat.lt_of_le_of_lt (Nat.mod_le _ _) ?_
    exact (Nat.div_lt_iff_lt_mul (Nat.pow_pos (by decide))).2 (by rw [Nat.mul_comm]; exact h5)
  · refine getD_high h.lm (Nat.lt_of_lt_of_le h5 ?_)
    rw [Nat.pow_succ]
    exact Nat.mul_le_mul_left _ h6
theorem shl_sum {N N1 N2 P P' Q x lo hi o T R : Nat} (h1 : N1 + P * o = N + P * (o + lo)) (h2 : N2 = N1 + P * 18446744073709551616 * hi) (h3 : lo + 18446744073709551616 * hi = x * R) (hN : N = T * (P' * R)) (hP : P = P' * Q) : N2 = (T + Q * x) * (P' * R) := by
  have e := congrArg (P * ·) h3
  simp only [Nat.mul_add] at e h1
  have e2 : P * (x * R) = Q * x * (P' * R) := by
    rw [hP, Nat.mul_comm P' Q, Nat.mul_assoc, Nat.mul_assoc]; congr 1; rw [Nat.mul_left_comm]
  rw [Nat.add_mul, ← e2, h2, ← hN, Nat.mul_assoc P 18446744073709551616 hi]
  omega
theorem ShlI_step {a : List Nat} {q r : Nat} {i : Int} {out : List Nat} (la : Lm a) (hr : r < 64) (h : ShlI a q r i out) (hi : i < a.length) :
    ShlI a q r (i + 1) ((out.set (q + i.toNat) (out.getD (q + i.toNat) 0 ||| a.getD i.toNat 0 * 2 ^ r % 18446744073709551616)).set (q + i.toNat + 1) ((out.set (q + i.toNat) (out.getD (q + i.toNat) 0 ||| a.getD i.toNat 0 * 2 ^ r % 18446744073709551616)).getD (q + i.toNat + 1) 0 ||| a.getD i.toNat 0 / 2 / 2 ^ (63 - r))) := by
  have h0 := h.i0
  have hlen := h.len
  obtain ⟨l1, l2⟩ := ShlI_low la hr h
  have hx := getD_lt la i.toNat
  have hg : ∀ v, (out.set (q + i.toNat) v).getD (q + i.toNat + 1) 0 = 0 := fun v => by
    refine Eq.trans ?_ l2
    rw [List.getD_eq_getElem?_getD, List.getElem?_set_ne (by omega), ← List.getD_eq_getElem?_getD]
  rw [hg, Nat.zero_or, shl_mod _ _ (by omega), or_add l1, ← shl_div _ _ (by omega)]
  have hlo : 2 ^ r * (a.getD i.toNat 0 % 2 ^ (64 - r)) + 18446744073709551616 * (a.getD i.toNat 0 * 2 ^ r / 18446744073709551616) = a.getD i.toNat 0 * 2 ^ r := by
    rw [← shl_mod _ _ (by omega)]; exact Nat.mod_add_div _ _
  have hv1 : out.getD (q + i.toNat) 0 + 2 ^ r * (a.getD i.toNat 0 % 2 ^ (64 - r)) < 18446744073709551616 := by
    have hm : a.getD i.toNat 0 % 2 ^ (64 - r) + 1 ≤ 2 ^ (64 - r) := Nat.mod_lt _ (Nat.two_pow_pos _)
    have := Nat.mul_le_mul_left (2 ^ r) hm
    rw [Nat.mul_comm (2 ^ r) (2 ^ (64 - r)), two64 r (by omega), Nat.mul_add] at this
    omega
  have hv2 : a.getD i.toNat 0 * 2 ^ r / 18446744073709551616 < 18446744073709551616 := by
    have := Nat.div_le_self (a.getD i.toNat 0 / 2) (2 ^ (63 - r))
    rw [shl_div _ _ (by omega)]; omega
  have e1 : (i + 1).toNat = i.toNat + 1 := by omega
  refine ⟨by omega, by omega, by rw [List.length_set, List.length_set]; exact hlen, Lm_set (Lm_set h.lm _ hv1) _ hv2, ?_⟩
  have n1 := nv_set (a := out) (k := q + i.toNat) (v := out.getD (q + i.toNat) 0 + 2 ^ r * (a.getD i.toNat 0 % 2 ^ (64 - r))) (by omega)
  have n2 := nv_set (a := out.set (q + i.toNat) (out.getD (q + i.toNat) 0 + 2 ^ r * (a.getD i.toNat 0 % 2 ^ (64 - r)))) (k := q + i.toNat + 1) (v := a.getD i.toNat 0 * 2 ^ r / 18446744073709551616) (by rw [List.length_set]; omega)
  rw [hg, Nat.mul_zero, Nat.add_zero, Nat.pow_succ] at n2
  rw [e1, nv_take_more]
  exact shl_sum n1 n2 hlo h.sum (Nat.pow_add _ _ _)
theorem pow_split (n : Nat) : 18446744073709551616 ^ (n / 64) * 2 ^ (n % 64) = 2 ^ n := by
  rw [BB_pow, ← Nat.pow_add]; congr 1; omega
theorem law_nat_Left (a : List Nat) (wa : (Ty.sl (.u .u64)).wf a) (n : Int) (wn : (Ty.i .i64).wf n) (hp : pLeft a n) : m_nat_Left a n = some (f_nat_Left a n) := by
  have la := wf_Lm wa
  obtain ⟨sa, n0, n1⟩ := hp
  have sa : a.length ≤ 1099511627776 := sa
  obtain ⟨d1, d2⟩ := tdiv64 n0
  have hr : n.toNat % 64 < 64 := Nat.mod_lt _ (by decide)
  have hq : n.toNat / 64 ≤ 1099511627776 := by omega
  have hps := pow_split n.toNat
  obtain ⟨u1, u2⟩ := u64_small hr
  unfold m_nat_Left f_nat_Left
  rw [d1]
  refine if_to (fun h => ?_) (fun h => ?_)
  · have e : a = [] := List.eq_nil_of_length_eq_zero (by omega)
    subst e; rw [nv_nil, Nat.zero_mul, lb_zero]
  · rw [← hps]
    generalize n.toNat / 64 = q at *
    generalize n.toNat % 64 = r at *
    have key := loopO_post (step := fun d : Int × (List Nat) => m_nat_Left_l5 a n d.1 d.2) (I := fun d => ShlI a q r d.1 d.2) (fun d => (a.length - d.1).toNat) (fun e => nv e = nv a * (18446744073709551616 ^ q * 2 ^ r)) ?_ (0, List.replicate (q + a.length + 1) 0) ⟨by simp, by simp, by simp, Lm_rep _, by simp [nv_rep, nv]⟩
    · obtain ⟨e, h1, h2⟩ := key
      rw [show ((q : Int) + (a.length : Int) + 1).toNat = q + a.length + 1 from by omega]
      refine ck_to (by constructor <;> omega) (ck_to (by constructor <;> omega) (ck_to (by constructor <;> omega) (ck_to (by omega) (ck_to (by omega) (bind_to h1 ?_)))))
      rw [f_nat_trim, h2]
    · rintro ⟨i, out⟩ h
      have h : ShlI a q r i out := h
      have h0 := h.i0
      have h1 := h.i1
      have hl := h.len
      show (∃ d', m_nat_Left_l5 a n i out = _ ∧ _) ∨ ∃ e, m_nat_Left_l5 a n i out = _ ∧ _
      unfold m_nat_Left_l5
      rw [d1, d2, u1, u2, show ((q : Int) + i).toNat = q + i.toNat from by omega, show ((q : Int) + i + 1).toNat = q + i.toNat + 1 from by omega]
      by_cases hi : i < a.length
      · left
        refine ⟨(_, _), ?_, ShlI_step la hr h hi, by simp only; omega⟩
        rw [if_pos hi]
        simp only [List.length_set]
        refine ck_to (by constructor <;> omega) (ck_to (by constructor <;> omega) (ck_to (by constructor <;> omega) (ck_to (by constructor <;> omega) (ck_to (by constructor <;> omega) (ck_to (by constructor <;> omega) (ck_to (by constructor <;> omega) (ck_to (by constructor <;> omega) (ck_to (by constructor <;> omega) (ck_to (by constructor <;> omega) (ck_to (by constructor <;> omega) (ck_to (by constructor <;> omega) rfl)))))))))))
      · right
        refine ⟨out, by rw [if_neg hi], ?_⟩
        have := h.sum
        rw [show i.toNat = a.length from by omega, List.take_length] at this
        exact this
noncomputable def m_nat_Right_l6 (n_1 : Int) (a_0 : (List Nat)) (x22_10 : Int) (out_11 : (List Nat)) : Option ((Int × (List Nat)) ⊕ (((List Nat)))) :=
  if x22_10 < ((((List.drop ((Int.tdiv n_1 (64 : Int)).toNat) a_0).length) : Nat) : Int) then ck (0 ≤ x22_10 ∧ x22_10 < ((((List.drop ((Int.tdiv n_1 (64 : Int)).toNat) a_0).length) : Nat) : Int)) (ck (0 ≤ x22_10 ∧ x22_10 < (((out_11.length) : Nat) : Int)) (ck (I64 (x22_10 + (1 : Int))) (if (x22_10 + (1 : Int)) < ((((List.drop ((Int.tdiv n_1 (64 : Int)).toNat) a_0).length) : Nat) : Int) then ck (0 ≤ x22_10 ∧ x22_10 < ((((out_11.set (x22_10.toNat) (((List.drop ((Int.tdiv n_1 (64 : Int)).toNat) a_0).getD (x22_10.toNat) (0 : Nat)) / (2 ^ (((Int.tmod n_1 (64 : Int)) % (18446744073709551616 : Int)).toNat)))).length) : Nat) : Int)) (ck (I64 (x22_10 + (1 : Int))) (ck (0 ≤ (x22_10 + (1 : Int)) ∧ (x22_10 + (1 : Int)) < ((((List.drop ((Int.tdiv n_1 (64 : Int)).toNat) a_0).length) : Nat) : Int)) (ck (I64 ((63 : Int) - (Int.tmod n_1 (64 : Int)))) (ck (0 ≤ x22_10 ∧ x22_10 < ((((out_11.set (x22_10.toNat) (((List.drop ((Int.tdiv n_1 (64 : Int)).toNat) a_0).getD (x22_10.toNat) (0 : Nat)) / (2 ^ (((Int.tmod n_1 (64 : Int)) % (18446744073709551616 : Int)).toNat)))).length) : Nat) : Int)) (ck (I64 (x22_10 + (1 : Int))) (some (.inl ((x22_10 + (1 : Int)), ((out_11.set (x22_10.toNat) (((List.drop ((Int.tdiv n_1 (64 : Int)).toNat) a_0).getD (x22_10.toNat) (0 : Nat)) / (2 ^ (((Int.tmod n_1 (64 : Int)) % (18446744073709551616 : Int)).toNat)))).set (x22_10.toNat) (((out_11.set (x22_10.toNat) (((List.drop ((Int.tdiv n_1 (64 : Int)).toNat) a_0).getD (x22_10.toNat) (0 : Nat)) / (2 ^ (((Int.tmod n_1 (64 : Int)) % (18446744073709551616 : Int)).toNat)))).getD (x22_10.toNat) (0 : Nat)) ||| ((((((List.drop ((Int.tdiv n_1 (64 : Int)).toNat) a_0).getD ((x22_10 + (1 : Int)).toNat) (0 : Nat)) * (2 : Nat)) % 18446744073709551616) * (2 ^ ((((63 : Int) - (Int.tmod n_1 (64 : Int))) % (18446744073709551616 : Int)).toNat))) % 18446744073709551616))))))))))) else ck (I64 (x22_10 + (1 : Int))) (some (.inl ((x22_10 + (1 : Int)), (out_11.set (x22_10.toNat) (((List.drop ((Int.tdiv n_1 (64 : Int)).toNat) a_0).getD (x22_10.toNat) (0 : Nat)) / (2 ^ (((Int.tmod n_1 (64 : Int)) % (18446744073709551616 : Int)).toNat)))))))))) else some (.inr out_11)
noncomputable def m_nat_Right (a_0 : (List Nat)) (n_1 : Int) : Option (List Nat) :=
  ck (I64 (Int.tdiv n_1 (64 : Int))) (if (((a_0.length) : Nat) : Int) ≤ (Int.tdiv n_1 (64 : Int)) then some ([] : List Nat) else ck (I64 (Int.tdiv n_1 (64 : Int))) (ck (0 ≤ (Int.tdiv n_1 (64 : Int)) ∧ (Int.tdiv n_1 (64 : Int)) ≤ (((a_0.length) : Nat) : Int)) (ck (0 ≤ ((((List.drop ((Int.tdiv n_1 (64 : Int)).toNat) a_0).length) : Nat) : Int)) (ck ((8 : Int) * ((((List.drop ((Int.tdiv n_1 (64 : Int)).toNat) a_0).length) : Nat) : Int) ≤ 281474976710656) ((loopO (fun d : Int × (List Nat) => m_nat_Right_l6 n_1 a_0 d.1 d.2) ((0 : Int), (List.replicate ((List.drop ((Int.tdiv n_1 (64 : Int)).toNat) a_0).length) (0 : Nat)))).bind (fun e => some (f_nat_trim e)))))))
abbrev pRight (a : List Nat) (n : Int) : Prop := Sz a ∧ 0 ≤ n
def f_nat_Right (a : List Nat) (n : Int) : List Nat := lb (nv a / 2 ^ n.toNat)
structure ShrI (a : List Nat) (r : Nat) (i : Int) (out : List Nat) : Prop where
  i0 : 0 ≤ i
  i1 : i ≤ a.length
  len : out.length = a.length
  lm : Lm out
  sum : nv (out.take i.toNat) = nv a / 2 ^ r % 18446744073709551616 ^ i.toNat
theorem mod_low {w s r o : Nat} (ho : o < 2 ^ s) : (o + 2 ^ s * w) % (2 ^ s * 2 ^ r) = o + 2 ^ s * (w % 2 ^ r) := by
  rw [Nat.mod_mul, Nat.add_mul_mod_self_left, Nat.mod_eq_of_lt ho, Nat.add_mul_div_left _ _ (Nat.two_pow_pos s), Nat.div_eq_of_lt ho, Nat.zero_add]
theorem shr_limb {x y z r : Nat} (hx : x < 18446744073709551616) (hr : r < 64) : (x + 18446744073709551616 * (y + 18446744073709551616 * z)) / 2 ^ r % 18446744073709551616 = x / 2 ^ r ||| y * 2 % 18446744073709551616 * 2 ^ (63 - r) % 18446744073709551616 := by
  have e0 : y * 2 % 18446744073709551616 * 2 ^ (63 - r) % 18446744073709551616 = 2 ^ (64 - r) * (y % 2 ^ r) := by
    rw [Nat.mul_mod (y * 2 % 18446744073709551616), Nat.mod_mod, ← Nat.mul_mod, Nat.mul_assoc, ← Nat.pow_succ', show (63 - r).succ = 64 - r from by omega, shl_mod _ _ (by omega), show 64 - (64 - r) = r from by omega]
  have hB := two64 r (by omega)
  have ho : x / 2 ^ r < 2 ^ (64 - r) := (Nat.div_lt_iff_lt_mul (Nat.two_pow_pos r)).2 (by rw [hB]; exact hx)
  have hd : (x + 18446744073709551616 * (y + 18446744073709551616 * z)) / 2 ^ r = x / 2 ^ r + 2 ^ (64 - r) * (y + 18446744073709551616 * z) := by
    rw [show 18446744073709551616 * (y + 18446744073709551616 * z) = 2 ^ r * (2 ^ (64 - r) * (y + 18446744073709551616 * z)) from by rw [← Nat.mul_assoc, Nat.mul_comm (2 ^ r), hB], Nat.add_mul_div_left _ _ (Nat.two_pow_pos r)]
  have hm : (y + 18446744073709551616 * z) % 2 ^ r = y % 2 ^ r := by
    rw [show 18446744073709551616 * z = 2 ^ r * (2 ^ (64 - r) * z) from by rw [← Nat.mul_assoc, Nat.mul_comm (2 ^ r), hB], Nat.add_mul_mod_self_left]
  rw [e0, or_add ho, hd]
  have := mod_low (w := y + 18446744073709551616 * z) (r := r) ho
  rw [hB, hm] at this
  exact this
theorem ShrI_step {a : List Nat} {r : Nat} {i : Int} {out : List Nat} (la : Lm a) (hr : r < 64) (h : ShrI a r i out) (hi : i < a.length) :
    ShrI a r (i + 1) (out.set i.toNat (a.getD i.toNat 0 / 2 ^ r ||| a.getD (i.toNat + 1) 0 * 2 % 18446744073709551616 * 2 ^ (63 - r) % 18446744073709551616)) := by
  have h0 := h.i0
  have hlen := h.len
  have hk : i.toNat < a.length := by omega
  have e1 : (i + 1).toNat = i.toNat + 1 := by omega
  have hx := getD_lt la i.toNat
  obtain ⟨z, hz⟩ : ∃ z, nv (a.drop (i.toNat + 1)) = a.getD (i.toNat + 1) 0 + 18446744073709551616 * z := by
    rcases Nat.lt_or_ge (i.toNat + 1) a.length with hl | hl
    · refine ⟨nv (a.drop (i.toNat + 1 + 1)), ?_⟩
      rw [List.drop_eq_getElem_cons hl, nv_cons, List.getD_eq_getElem?_getD, List.getElem?_eq_getElem hl]; rfl
    · refine ⟨0, ?_⟩
      rw [List.drop_eq_nil_of_le hl, List.getD_eq_getElem?_getD, List.getElem?_eq_none hl]; rfl
  have hd : nv (a.drop i.toNat) = a.getD i.toNat 0 + 18446744073709551616 * (a.getD (i.toNat + 1) 0 + 18446744073709551616 * z) := by
    have hg : a.getD i.toNat 0 = a[i.toNat] := by rw [List.getD_eq_getElem?_getD, List.getElem?_eq_getElem hk]; rfl
    rw [List.drop_eq_getElem_cons hk, nv_cons, hz, hg]
  have key : a.getD i.toNat 0 / 2 ^ r ||| a.getD (i.toNat + 1) 0 * 2 % 18446744073709551616 * 2 ^ (63 - r) % 18446744073709551616 = nv a / 2 ^ r / 18446744073709551616 ^ i.toNat % 18446744073709551616 := by
    rw [← shr_limb (z := z) hx hr, ← hd, nv_drop la, Nat.div_div_eq_div_mul, Nat.div_div_eq_div_mul, Nat.mul_comm (18446744073709551616 ^ i.toNat)]
  rw [key]
  refine ⟨by omega, by omega, by rw [List.length_set]; exact hlen, Lm_set h.lm _ (Nat.mod_lt _ (by decide)), ?_⟩
  rw [e1, nv_set_take (by omega), h.sum, Nat.pow_succ, Nat.mod_mul]
theorem law_nat_Right (a : List Nat) (wa : (Ty.sl (.u .u64)).wf a) (n : Int) (wn : (Ty.i .i64).wf n) (hp : pRight a n) : m_nat_Right a n = some (f_nat_Right a n) := by
  have la := wf_Lm wa
  obtain ⟨sa, n0⟩ := hp
  have sa : a.length ≤ 1099511627776 := sa
  obtain ⟨w1, w2⟩ := wf_i64 wn
  obtain ⟨d1, d2⟩ := tdiv64 n0
  have hr : n.toNat % 64 < 64 := Nat.mod_lt _ (by decide)
  have hq : n.toNat / 64 ≤ 9223372036854775807 := by omega
  have hps := pow_split n.toNat
  obtain ⟨u1, u2⟩ := u64_small hr
  unfold m_nat_Right f_nat_Right
  rw [d1]
  refine ck_to (by constructor <;> omega) (if_to (fun h => ?_) (fun h => ?_))
  · have : nv a / 2 ^ n.toNat = 0 := by
      refine Nat.div_eq_of_lt (Nat.lt_of_lt_of_le (nv_lt la) ?_)
      rw [← hps]
      exact Nat.le_trans (Nat.pow_le_pow_right (by decide) (by omega)) (Nat.le_mul_of_pos_right _ (Nat.two_pow_pos _))
    rw [this, lb_zero]
  · rw [← hps, ← Nat.div_div_eq_div_mul, ← nv_drop la]
    generalize n.toNat / 64 = q at *
    generalize n.toNat % 64 = r at *
    rw [Int.toNat_natCast]
    have lA := Lm_drop la q
    have hA : (a.drop q).length = a.length - q := List.length_drop
    have key := loopO_post (step := fun d : Int × (List Nat) => m_nat_Right_l6 n a d.1 d.2) (I := fun d => ShrI (a.drop q) r d.1 d.2) (fun d => ((a.drop q).length - d.1).toNat) (fun e => nv e = nv (a.drop q) / 2 ^ r) ?_ (0, List.replicate (a.drop q).length 0) ⟨by simp, by simp, by simp, Lm_rep _, by simp [nv, Nat.mod_one]⟩
    · obtain ⟨e, h1, h2⟩ := key
      refine ck_to (by constructor <;> omega) (ck_to (by constructor <;> omega) (ck_to (by omega) (ck_to (by omega) (bind_to h1 ?_))))
      rw [f_nat_trim, h2]
    · rintro ⟨i, out⟩ h
      have h : ShrI (a.drop q) r i out := h
      have h0 := h.i0
      have h1 := h.i1
      have hl := h.len
      show (∃ d', m_nat_Right_l6 n a i out = _ ∧ _) ∨ ∃ e, m_nat_Right_l6 n a i out = _ ∧ _
      unfold m_nat_Right_l6
      rw [d1, d2, u1, u2, Int.toNat_natCast]
      generalize a.drop q = A at *
      by_cases hi : i < A.length
      · left
        have hs := ShrI_step lA hr h hi
        rw [if_pos hi]
        by_cases hi2 : i + 1 < A.length
        · refine ⟨(_, _), ?_, hs, by simp only; omega⟩
          rw [if_pos hi2]
          simp only [List.length_set]
          refine ck_to (by constructor <;> omega) (ck_to (by constructor <;> omega) (ck_to (by constructor <;> omega) (ck_to (by constructor <;> omega) (ck_to (by constructor <;> omega) (ck_to (by constructor <;> omega) (ck_to (by constructor <;> omega) (ck_to (by constructor <;> omega) (ck_to (by constructor <;> omega) ?_))))))))
          rw [show (i + 1).toNat = i.toNat + 1 from by omega, List.set_set, List.getD_eq_getElem?_getD (l := out.set _ _), List.getElem?_set_self (by omega)]
          rfl
        · have hy : A.getD (i.toNat + 1) 0 = 0 := by rw [List.getD_eq_getElem?_getD, List.getElem?_eq_none (by omega)]; rfl
          rw [hy] at hs
          simp only [Nat.zero_mul, Nat.zero_mod, Nat.or_zero] at hs
          refine ⟨(_, _), ?_, hs, by simp only; omega⟩
          rw [if_neg hi2]
          exact ck_to (by constructor <;> omega) (ck_to (by constructor <;> omega) (ck_to (by constructor <;> omega) (ck_to (by constructor <;> omega) rfl)))
      · right
        refine ⟨out, by rw [if_neg hi], ?_⟩
        have := h.sum
        rw [show i.toNat = A.length from by omega, List.take_of_length_le (by omega)] at this
        rw [this]
        exact Nat.mod_eq_of_lt (Nat.lt_of_le_of_lt (Nat.div_le_self _ _) (nv_lt lA))
end Nu
end Go.Proofs
namespace Go.Proofs
open Go.Vc
set_option maxRecDepth 20000
namespace Nu
theorem sub64m {N M : Nat} (h : M ≤ N) (hl : N - M < 18446744073709551616) : subU .u64 (N % 18446744073709551616) (M % 18446744073709551616) = N - M := by
  rw [subU_eq, mod64]; omega
structure DI (V u u1 q r : Nat) : Prop where
  lo : 9223372036854775808 ≤ V
  hi : V < 18446744073709551616
  uV : u < V
  ul : u1 < 4294967296
  eq : q * (V / 4294967296) + r = u
  ge : (u * 4294967296 + u1) / V ≤ q
  r1 : r < 4294967296
theorem DI_mul {V u u1 q r : Nat} (h : DI V u u1 q r) : q * V + r * 4294967296 = u * 4294967296 + q * (V % 4294967296) := by
  have e := Nat.div_add_mod V 4294967296
  have := h.eq
  generalize V / 4294967296 = v1 at *
  generalize V % 4294967296 = v0 at *
  subst e
  subst this
  rw [Nat.mul_add, Nat.add_mul, Nat.mul_left_comm]
  rw [Nat.mul_comm 4294967296]
  omega
theorem DI_small {V u u1 q r : Nat} (h : DI V u u1 q r) : (u * 4294967296 + u1) / V < 4294967296 := by
  have h1 := h.uV
  have h2 := h.ul
  refine (Nat.div_lt_iff_lt_mul (by have := h.lo; omega)).2 ?_
  omega
theorem DI_cond {V u u1 q r : Nat} (h : DI V u u1 q r) : (4294967296 ≤ q ∨ (mulU .u64 4294967296 r + u1) % 18446744073709551616 < mulU .u64 q (V % 4294967296)) ↔ (u * 4294967296 + u1) / V < q := by
  have hs := DI_small h
  have hm := DI_mul h
  have h1 := h.r1
  have h2 := h.ul
  have hV := h.lo
  rcases Nat.lt_or_ge q 4294967296 with hq | hq
  · have hv : V % 4294967296 ≤ 4294967295 := by omega
    have p : q * (V % 4294967296) ≤ 4294967295 * 4294967295 := Nat.mul_le_mul (by omega) hv
    rw [mul64, mul64, Nat.div_lt_iff_lt_mul (by omega)]
    rw [Nat.mod_eq_of_lt (a := q * (V % 4294967296)) (by omega)]
    generalize q * (V % 4294967296) = C at *
    generalize q * V = D at *
    constructor
    · rintro (h | h)
      · omega
      · omega
    · intro h; right; omega
  · exact ⟨fun _ => by omega, fun _ => .inl hq⟩
theorem DI_dec {V u u1 q r : Nat} (h : DI V u u1 q r) (hc : (u * 4294967296 + u1) / V < q) : (r + V / 4294967296) % 18446744073709551616 = r + V / 4294967296 ∧ subU .u64 q 1 = q - 1 ∧ (4294967296 ≤ r + V / 4294967296 → q - 1 = (u * 4294967296 + u1) / V) ∧ (r + V / 4294967296 < 4294967296 → DI V u u1 (q - 1) (r + V / 4294967296)) := by
  have h1 := h.r1
  have h2 := h.hi
  have h3 := h.lo
  have he := h.eq
  have hu := h.uV
  have hul := h.ul
  have hQ := Nat.zero_le ((u * 4294967296 + u1) / V)
  obtain ⟨p, rfl⟩ : ∃ p, q = p + 1 := ⟨q - 1, by omega⟩
  have he' : p * (V / 4294967296) + (r + V / 4294967296) = u := by rw [Nat.add_mul] at he; omega
  have hqV : (p + 1) * (V / 4294967296) < 18446744073709551616 := by omega
  have hpB : p + 1 < 18446744073709551616 := by
    have : (p + 1) * 1 ≤ (p + 1) * (V / 4294967296) := Nat.mul_le_mul_left _ (by omega)
    omega
  refine ⟨by omega, sub64 hpB (by omega), fun hr => ?_, fun hr => ⟨h3, h2, hu, hul, he', by omega, hr⟩⟩
  simp only [Nat.add_sub_cancel]
  refine Nat.le_antisymm ?_ (by omega)
  refine (Nat.le_div_iff_mul_le (by omega)).2 ?_
  have ev := Nat.div_add_mod V 4294967296
  have hv0 : V % 4294967296 ≤ 4294967295 := by omega
  generalize V / 4294967296 = v1 at *
  generalize V % 4294967296 = v0 at *
  have hp : p ≤ 4294967295 := by
    rcases Nat.lt_or_ge p 4294967296 with hh | hh
    · omega
    · have := Nat.mul_le_mul_right v1 hh
      omega
  have hC : p * v0 ≤ 4294967295 * 4294967295 := Nat.mul_le_mul hp hv0
  rw [← ev, Nat.mul_add, Nat.mul_left_comm]
  generalize p * v1 = A at *
  generalize p * v0 = C at *
  omega
theorem DI_start {V u u1 : Nat} (h1 : 9223372036854775808 ≤ V) (h2 : V < 18446744073709551616) (h3 : u < V) (h4 : u1 < 4294967296) : subU .u64 u (mulU .u64 (u / (V / 4294967296)) (V / 4294967296)) = u % (V / 4294967296) ∧ DI V u u1 (u / (V / 4294967296)) (u % (V / 4294967296)) := by
  have e := Nat.div_add_mod u (V / 4294967296)
  have m := Nat.mod_lt u (show 0 < V / 4294967296 by omega)
  have hle : (V / 4294967296) * (u / (V / 4294967296)) ≤ u := by omega
  constructor
  · rw [mul64, Nat.mul_comm, Nat.mod_eq_of_lt (show (V / 4294967296) * (u / (V / 4294967296)) < 18446744073709551616 by omega), sub64 (by omega) hle]
    omega
  · refine ⟨h1, h2, h3, h4, by rw [Nat.mul_comm]; omega, ?_, by omega⟩
    refine (Nat.le_div_iff_mul_le (by omega)).2 ?_
    have e2 := Nat.div_add_mod V 4294967296
    have d := Nat.div_mul_le_self (u * 4294967296 + u1) V
    generalize (u * 4294967296 + u1) / V = Q at *
    generalize V / 4294967296 = v1 at *
    have : Q * V = Q * v1 * 4294967296 + Q * (V % 4294967296) := by
      conv => lhs; rw [← e2]
      rw [Nat.mul_add, Nat.mul_left_comm, Nat.mul_comm 4294967296]
    generalize Q * V = D at *
    generalize Q * v1 = F at *
    generalize Q * (V % 4294967296) = G at *
    omega
abbrev p_bits_Div64 (hi lo y : Nat) : Prop := hi < y
def f_bits_Div64 (hi lo y : Nat) : Nat × Nat × Unit := ((hi * 18446744073709551616 + lo) / y, (hi * 18446744073709551616 + lo) % y, ())
noncomputable def m_bits_Div64_j2 (x15_8 : Nat) (hi_0 : Nat) (y_2 : Nat) (lo_1 : Nat) (x18_13 : Nat) : Option ((Nat × (Nat × Unit))) :=
  some ((((mulU .u64 x15_8 (4294967296 : Nat)) + x18_13) % 18446744073709551616), ((subU .u64 (((mulU .u64 (subU .u64 (((mulU .u64 (((hi_0 * (2 ^ (((f_bits_LeadingZeros64 y_2) % (18446744073709551616 : Int)).toNat))) % 18446744073709551616) ||| (lo_1 / (2 ^ (subU .u64 (64 : Nat) (((f_bits_LeadingZeros64 y_2) % (18446744073709551616 : Int)).toNat))))) (4294967296 : Nat)) + (((lo_1 * (2 ^ (((f_bits_LeadingZeros64 y_2) % (18446744073709551616 : Int)).toNat))) % 18446744073709551616) / (4294967296 : Nat))) % 18446744073709551616) (mulU .u64 x15_8 ((y_2 * (2 ^ (((f_bits_LeadingZeros64 y_2) % (18446744073709551616 : Int)).toNat))) % 18446744073709551616))) (4294967296 : Nat)) + (((lo_1 * (2 ^ (((f_bits_LeadingZeros64 y_2) % (18446744073709551616 : Int)).toNat))) % 18446744073709551616) &&& (4294967295 : Nat))) % 18446744073709551616) (mulU .u64 x18_13 ((y_2 * (2 ^ (((f_bits_LeadingZeros64 y_2) % (18446744073709551616 : Int)).toNat))) % 18446744073709551616))) / (2 ^ (((f_bits_LeadingZeros64 y_2) % (18446744073709551616 : Int)).toNat))), ())
noncomputable def m_bits_Div64_l24 (lo_1 : Nat) (y_2 : Nat) (rhat_14 : Nat) (x18_15 : Nat) : Option ((Nat × Nat) ⊕ ((Nat))) :=
  if ((4294967296 : Nat) ≤ x18_15) ∨ ((((mulU .u64 (4294967296 : Nat) rhat_14) + (((lo_1 * (2 ^ (((f_bits_LeadingZeros64 y_2) % (18446744073709551616 : Int)).toNat))) % 18446744073709551616) &&& (4294967295 : Nat))) % 18446744073709551616) < (mulU .u64 x18_15 (((y_2 * (2 ^ (((f_bits_LeadingZeros64 y_2) % (18446744073709551616 : Int)).toNat))) % 18446744073709551616) &&& (4294967295 : Nat)))) then if (4294967296 : Nat) ≤ ((rhat_14 + (((y_2 * (2 ^ (((f_bits_LeadingZeros64 y_2) % (18446744073709551616 : Int)).toNat))) % 18446744073709551616) / (4294967296 : Nat))) % 18446744073709551616) then some (.inr (subU .u64 x18_15 (1 : Nat))) else some (.inl (((rhat_14 + (((y_2 * (2 ^ (((f_bits_LeadingZeros64 y_2) % (18446744073709551616 : Int)).toNat))) % 18446744073709551616) / (4294967296 : Nat))) % 18446744073709551616), (subU .u64 x18_15 (1 : Nat)))) else some (.inr x18_15)
noncomputable def m_bits_Div64_j1 (y_2 : Nat) (lo_1 : Nat) (hi_0 : Nat) (x15_8 : Nat) : Option ((Nat × (Nat × Unit))) :=
  ck ((((y_2 * (2 ^ (((f_bits_LeadingZeros64 y_2) % (18446744073709551616 : Int)).toNat))) % 18446744073709551616) / (4294967296 : Nat)) ≠ 0) ((loopO (fun d : Nat × Nat => m_bits_Div64_l24 lo_1 y_2 d.1 d.2) ((subU .u64 (subU .u64 (((mulU .u64 (((hi_0 * (2 ^ (((f_bits_LeadingZeros64 y_2) % (18446744073709551616 : Int)).toNat))) % 18446744073709551616) ||| (lo_1 / (2 ^ (subU .u64 (64 : Nat) (((f_bits_LeadingZeros64 y_2) % (18446744073709551616 : Int)).toNat))))) (4294967296 : Nat)) + (((lo_1 * (2 ^ (((f_bits_LeadingZeros64 y_2) % (18446744073709551616 : Int)).toNat))) % 18446744073709551616) / (4294967296 : Nat))) % 18446744073709551616) (mulU .u64 x15_8 ((y_2 * (2 ^ (((f_bits_LeadingZeros64 y_2) % (18446744073709551616 : Int)).toNat))) % 18446744073709551616))) (mulU .u64 ((subU .u64 (((mulU .u64 (((hi_0 * (2 ^ (((f_bits_LeadingZeros64 y_2) % (18446744073709551616 : Int)).toNat))) % 18446744073709551616) ||| (lo_1 / (2 ^ (subU .u64 (64 : Nat) (((f_bits_LeadingZeros64 y_2) % (18446744073709551616 : Int)).toNat))))) (4294967296 : Nat)) + (((lo_1 * (2 ^ (((f_bits_LeadingZeros64 y_2) % (18446744073709551616 : Int)).toNat))) % 18446744073709551616) / (4294967296 : Nat))) % 18446744073709551616) (mulU .u64 x15_8 ((y_2 * (2 ^ (((f_bits_LeadingZeros64 y_2) % (18446744073709551616 : Int)).toNat))) % 18446744073709551616))) / (((y_2 * (2 ^ (((f_bits_LeadingZeros64 y_2) % (18446744073709551616 : Int)).toNat))) % 18446744073709551616) / (4294967296 : Nat))) (((y_2 * (2 ^ (((f_bits_LeadingZeros64 y_2) % (18446744073709551616 : Int)).toNat))) % 18446744073709551616) / (4294967296 : Nat)))), ((subU .u64 (((mulU .u64 (((hi_0 * (2 ^ (((f_bits_LeadingZeros64 y_2) % (18446744073709551616 : Int)).toNat))) % 18446744073709551616) ||| (lo_1 / (2 ^ (subU .u64 (64 : Nat) (((f_bits_LeadingZeros64 y_2) % (18446744073709551616 : Int)).toNat))))) (4294967296 : Nat)) + (((lo_1 * (2 ^ (((f_bits_LeadingZeros64 y_2) % (18446744073709551616 : Int)).toNat))) % 18446744073709551616) / (4294967296 : Nat))) % 18446744073709551616) (mulU .u64 x15_8 ((y_2 * (2 ^ (((f_bits_LeadingZeros64 y_2) % (18446744073709551616 : Int)).toNat))) % 18446744073709551616))) / (((y_2 * (2 ^ (((f_bits_LeadingZeros64 y_2) % (18446744073709551616 : Int)).toNat))) % 18446744073709551616) / (4294967296 : Nat))))).bind (fun e => m_bits_Div64_j2 x15_8 hi_0 y_2 lo_1 e))
noncomputable def m_bits_Div64_l17 (lo_1 : Nat) (y_2 : Nat) (x15_19 : Nat) (rhat_20 : Nat) : Option ((Nat × Nat) ⊕ ((Nat))) :=
  if ((4294967296 : Nat) ≤ x15_19) ∨ ((((mulU .u64 (4294967296 : Nat) rhat_20) + (((lo_1 * (2 ^ (((f_bits_LeadingZeros64 y_2) % (18446744073709551616 : Int)).toNat))) % 18446744073709551616) / (4294967296 : Nat))) % 18446744073709551616) < (mulU .u64 x15_19 (((y_2 * (2 ^ (((f_bits_LeadingZeros64 y_2) % (18446744073709551616 : Int)).toNat))) % 18446744073709551616) &&& (4294967295 : Nat)))) then if (4294967296 : Nat) ≤ ((rhat_20 + (((y_2 * (2 ^ (((f_bits_LeadingZeros64 y_2) % (18446744073709551616 : Int)).toNat))) % 18446744073709551616) / (4294967296 : Nat))) % 18446744073709551616) then some (.inr (subU .u64 x15_19 (1 : Nat))) else some (.inl ((subU .u64 x15_19 (1 : Nat)), ((rhat_20 + (((y_2 * (2 ^ (((f_bits_LeadingZeros64 y_2) % (18446744073709551616 : Int)).toNat))) % 18446744073709551616) / (4294967296 : Nat))) % 18446744073709551616))) else some (.inr x15_19)
noncomputable def m_bits_Div64 (hi_0 : Nat) (lo_1 : Nat) (y_2 : Nat) : Option (Nat × (Nat × Unit)) :=
  if y_2 = (0 : Nat) then none else if y_2 ≤ hi_0 then none else if hi_0 = (0 : Nat) then ck (y_2 ≠ 0) (ck (y_2 ≠ 0) (some ((lo_1 / y_2), (lo_1 % y_2), ()))) else ck ((((y_2 * (2 ^ (((f_bits_LeadingZeros64 y_2) % (18446744073709551616 : Int)).toNat))) % 18446744073709551616) / (4294967296 : Nat)) ≠ 0) ((loopO (fun d : Nat × Nat => m_bits_Div64_l17 lo_1 y_2 d.1 d.2) (((((hi_0 * (2 ^ (((f_bits_LeadingZeros64 y_2) % (18446744073709551616 : Int)).toNat))) % 18446744073709551616) ||| (lo_1 / (2 ^ (subU .u64 (64 : Nat) (((f_bits_LeadingZeros64 y_2) % (18446744073709551616 : Int)).toNat))))) / (((y_2 * (2 ^ (((f_bits_LeadingZeros64 y_2) % (18446744073709551616 : Int)).toNat))) % 18446744073709551616) / (4294967296 : Nat))), (subU .u64 (((hi_0 * (2 ^ (((f_bits_LeadingZeros64 y_2) % (18446744073709551616 : Int)).toNat))) % 18446744073709551616) ||| (lo_1 / (2 ^ (subU .u64 (64 : Nat) (((f_bits_LeadingZeros64 y_2) % (18446744073709551616 : Int)).toNat))))) (mulU .u64 ((((hi_0 * (2 ^ (((f_bits_LeadingZeros64 y_2) % (18446744073709551616 : Int)).toNat))) % 18446744073709551616) ||| (lo_1 / (2 ^ (subU .u64 (64 : Nat) (((f_bits_LeadingZeros64 y_2) % (18446744073709551616 : Int)).toNat))))) / (((y_2 * (2 ^ (((f_bits_LeadingZeros64 y_2) % (18446744073709551616 : Int)).toNat))) % 18446744073709551616) / (4294967296 : Nat))) (((y_2 * (2 ^ (((f_bits_LeadingZeros64 y_2) % (18446744073709551616 : Int)).toNat))) % 18446744073709551616) / (4294967296 : Nat)))))).bind (fun e => m_bits_Div64_j1 y_2 lo_1 hi_0 e))
theorem mask32' (x : Nat) : x &&& 4294967295 = x % 4294967296 := Nat.and_two_pow_sub_one_eq_mod x 32
theorem loop17 {lo y s : Nat} {u : Nat} (hs : (f_bits_LeadingZeros64 y % (18446744073709551616 : Int)).toNat = s) (h : ∀ V, V = y * 2 ^ s % 18446744073709551616 → 9223372036854775808 ≤ V ∧ u < V) :
    loopO (fun d : Nat × Nat => m_bits_Div64_l17 lo y d.1 d.2) (u / (y * 2 ^ s % 18446744073709551616 / 4294967296), subU .u64 u (mulU .u64 (u / (y * 2 ^ s % 18446744073709551616 / 4294967296)) (y * 2 ^ s % 18446744073709551616 / 4294967296))) = some ((u * 4294967296 + lo * 2 ^ s % 18446744073709551616 / 4294967296) / (y * 2 ^ s % 18446744073709551616)) := by
  have hV := Nat.mod_lt (y * 2 ^ s) (show 0 < 18446744073709551616 by decide)
  have hU := Nat.mod_lt (lo * 2 ^ s) (show 0 < 18446744073709551616 by decide)
  have step : ∀ q r, m_bits_Div64_l17 lo y q r = if 4294967296 ≤ q ∨ (mulU .u64 4294967296 r + lo * 2 ^ s % 18446744073709551616 / 4294967296) % 18446744073709551616 < mulU .u64 q (y * 2 ^ s % 18446744073709551616 % 4294967296) then if 4294967296 ≤ (r + y * 2 ^ s % 18446744073709551616 / 4294967296) % 18446744073709551616 then some (.inr (subU .u64 q 1)) else some (.inl (subU .u64 q 1, (r + y * 2 ^ s % 18446744073709551616 / 4294967296) % 18446744073709551616)) else some (.inr q) := fun q r => by
    unfold m_bits_Div64_l17; rw [hs, mask32']
  obtain ⟨h1, h2⟩ := h _ rfl
  generalize y * 2 ^ s % 18446744073709551616 = V at *
  have hu1 : lo * 2 ^ s % 18446744073709551616 / 4294967296 < 4294967296 := by omega
  generalize lo * 2 ^ s % 18446744073709551616 / 4294967296 = u1 at *
  obtain ⟨e0, i0⟩ := DI_start h1 hV h2 hu1
  rw [e0]
  refine loopO_of (I := fun d => DI V u u1 d.1 d.2) (fun d => d.1) (fun _ => (u * 4294967296 + u1) / V) ?_ (u / (V / 4294967296), u % (V / 4294967296)) i0
  rintro ⟨q, r⟩ hi
  have hi : DI V u u1 q r := hi
  show (∃ d', m_bits_Div64_l17 lo y q r = _ ∧ _) ∨ m_bits_Div64_l17 lo y q r = _
  rw [step]
  by_cases hc : (u * 4294967296 + u1) / V < q
  · obtain ⟨a1, a2, a3, a4⟩ := DI_dec hi hc
    rw [if_pos ((DI_cond hi).2 hc), a1, a2]
    by_cases hr : 4294967296 ≤ r + V / 4294967296
    · right; rw [if_pos hr, a3 hr]
    · left
      refine ⟨(q - 1, r + V / 4294967296), by rw [if_neg hr], a4 (by omega), Nat.sub_lt (Nat.lt_of_le_of_lt (Nat.zero_le _) hc) (by decide), rfl⟩
  · right
    rw [if_neg (fun h => hc ((DI_cond hi).1 h))]
    have := hi.ge
    rw [show q = (u * 4294967296 + u1) / V from Nat.le_antisymm (Nat.le_of_not_lt hc) this]
theorem loop24 {lo y s : Nat} {u : Nat} (hs : (f_bits_LeadingZeros64 y % (18446744073709551616 : Int)).toNat = s) (h : ∀ V, V = y * 2 ^ s % 18446744073709551616 → 9223372036854775808 ≤ V ∧ u < V) :
    loopO (fun d : Nat × Nat => m_bits_Div64_l24 lo y d.1 d.2) (subU .u64 u (mulU .u64 (u / (y * 2 ^ s % 18446744073709551616 / 4294967296)) (y * 2 ^ s % 18446744073709551616 / 4294967296)), u / (y * 2 ^ s % 18446744073709551616 / 4294967296)) = some ((u * 4294967296 + lo * 2 ^ s % 18446744073709551616 % 4294967296) / (y * 2 ^ s % 18446744073709551616)) := by
  have hV := Nat.mod_lt (y * 2 ^ s) (show 0 < 18446744073709551616 by decide)
  have step : ∀ q r, m_bits_Div64_l24 lo y r q = if 4294967296 ≤ q ∨ (mulU .u64 4294967296 r + lo * 2 ^ s % 18446744073709551616 % 4294967296) % 18446744073709551616 < mulU .u64 q (y * 2 ^ s % 18446744073709551616 % 4294967296) then if 4294967296 ≤ (r + y * 2 ^ s % 18446744073709551616 / 4294967296) % 18446744073709551616 then some (.inr (subU .u64 q 1)) else some (.inl ((r + y * 2 ^ s % 18446744073709551616 / 4294967296) % 18446744073709551616, subU .u64 q 1)) else some (.inr q) := fun q r => by
    unfold m_bits_Div64_l24; rw [hs, mask32', mask32']
  obtain ⟨h1, h2⟩ := h _ rfl
  generalize y * 2 ^ s % 18446744073709551616 = V at *
  have hu1 : lo * 2 ^ s % 18446744073709551616 % 4294967296 < 4294967296 := Nat.mod_lt _ (by decide)
  generalize lo * 2 ^ s % 18446744073709551616 % 4294967296 = u1 at *
  obtain ⟨e0, i0⟩ := DI_start h1 hV h2 hu1
  rw [e0]
  refine loopO_of (I := fun d => DI V u u1 d.2 d.1) (fun d => d.2) (fun _ => (u * 4294967296 + u1) / V) ?_ (u % (V / 4294967296), u / (V / 4294967296)) i0
  rintro ⟨r, q⟩ hi
  have hi : DI V u u1 q r := hi
  show (∃ d', m_bits_Div64_l24 lo y r q = _ ∧ _) ∨ m_bits_Div64_l24 lo y r q = _
  rw [step]
  by_cases hc : (u * 4294967296 + u1) / V < q
  · obtain ⟨a1, a2, a3, a4⟩ := DI_dec hi hc
    rw [if_pos ((DI_cond hi).2 hc), a1, a2]
    by_cases hr : 4294967296 ≤ r + V / 4294967296
    · right; rw [if_pos hr, a3 hr]
    · left
      refine ⟨(r + V / 4294967296, q - 1), by rw [if_neg hr], a4 (by omega), Nat.sub_lt (Nat.lt_of_le_of_lt (Nat.zero_le _) hc) (by decide), rfl⟩
  · right
    rw [if_neg (fun h => hc ((DI_cond hi).1 h))]
    have := hi.ge
    rw [show q = (u * 4294967296 + u1) / V from Nat.le_antisymm (Nat.le_of_not_lt hc) this]
theorem div_mod_sub {N V : Nat} : N - N / V * V = N % V := by
  have e := Nat.div_add_mod N V
  have c := Nat.mul_comm (N / V) V
  omega
theorem rest64 {V u u1 : Nat} (h1 : 0 < V) (h2 : V < 18446744073709551616) (hu1 : u1 < 4294967296) : subU .u64 ((mulU .u64 u 4294967296 + u1) % 18446744073709551616) (mulU .u64 ((u * 4294967296 + u1) / V) V) = (u * 4294967296 + u1) % V := by
  have m := Nat.mod_lt (u * 4294967296 + u1) h1
  rw [mul64, mul64, Nat.mod_add_mod, sub64m (Nat.div_mul_le_self _ _) (by rw [div_mod_sub]; exact Nat.lt_trans m h2), div_mod_sub]
theorem div_two {V N W un0 : Nat} (hV : 0 < V) : N / V * W + (N % V * W + un0) / V = (N * W + un0) / V ∧ (N % V * W + un0) % V = (N * W + un0) % V := by
  have e := Nat.div_add_mod N V
  have : N * W + un0 = N % V * W + un0 + V * (N / V * W) := by
    conv => lhs; rw [← e]
    rw [Nat.add_mul, Nat.mul_assoc]; omega
  rw [this, Nat.add_mul_div_left _ _ hV, Nat.add_mul_mod_self_left]
  exact ⟨Nat.add_comm _ _, rfl⟩
theorem join_w (A C : Nat) : (A * 4294967296 + C / 4294967296) * 4294967296 + C % 4294967296 = A * 18446744073709551616 + C := by omega
theorem law_bits_Div64 (hi : Nat) (wh : (Ty.u .u64).wf hi) (lo : Nat) (wl : (Ty.u .u64).wf lo) (y : Nat) (wy : (Ty.u .u64).wf y) (hp : p_bits_Div64 hi lo y) : m_bits_Div64 hi lo y = some (f_bits_Div64 hi lo y) := by
  have hh := wf_n64 wh
  have hl := wf_n64 wl
  have hy := wf_n64 wy
  have hp : hi < y := hp
  have hb := bl64 hy
  have hb1 := bl_pos (x := y) (by omega)
  have hs : (f_bits_LeadingZeros64 y % (18446744073709551616 : Int)).toNat = 64 - bl y := by unfold f_bits_LeadingZeros64; omega
  have hs2 : subU .u64 64 (64 - bl y) = 64 - (64 - bl y) := sub64 (by omega) (by omega)
  have hlow := bl_low (x := y) (by omega)
  have hlt := bl_lt y
  unfold m_bits_Div64 f_bits_Div64
  rw [if_neg (by omega), if_neg (by omega), hs]
  refine if_to (fun h => ?_) (fun h => ?_)
  · subst h
    refine ck_to (by omega) (ck_to (by omega) ?_)
    rw [Nat.zero_mul, Nat.zero_add]
  · rw [hs2]
    generalize hsd : 64 - bl y = s at *
    have hs64 : s ≤ 63 := by omega
    have hsp := Nat.two_pow_pos s
    have h2s : 2 ^ (64 - s) * 2 ^ s = 18446744073709551616 := two64 s (by omega)
    have hyV : y * 2 ^ s < 18446744073709551616 := by
      rw [← h2s, show 64 - s = bl y from by omega]
      exact Nat.mul_lt_mul_of_pos_right hlt hsp
    have hyL : 9223372036854775808 ≤ y * 2 ^ s := by
      have := Nat.mul_le_mul_right (2 ^ s) hlow
      rw [← Nat.pow_add, show bl y - 1 + s = 63 from by omega] at this
      exact this
    have hU : hi * 2 ^ s % 18446744073709551616 ||| lo / 2 ^ (64 - s) = (hi * 18446744073709551616 + lo) * 2 ^ s / 18446744073709551616 := by
      have h1 : hi * 2 ^ s < 18446744073709551616 := Nat.lt_trans (Nat.mul_lt_mul_of_pos_right hp hsp) hyV
      have h3 : lo / 2 ^ (64 - s) < 2 ^ s := (Nat.div_lt_iff_lt_mul (Nat.two_pow_pos _)).2 (by rw [Nat.mul_comm, h2s]; exact hl)
      rw [Nat.mod_eq_of_lt h1, Nat.or_comm, Nat.mul_comm hi, or_add h3, Nat.add_mul, Nat.mul_assoc, Nat.mul_comm 18446744073709551616, ← Nat.mul_assoc, Nat.add_comm (hi * 2 ^ s * 18446744073709551616), Nat.add_mul_div_right _ _ (by decide), ← h2s, Nat.mul_div_mul_right _ _ hsp, Nat.mul_comm hi]
    have hUV : (hi * 18446744073709551616 + lo) * 2 ^ s / 18446744073709551616 < y * 2 ^ s := by
      refine (Nat.div_lt_iff_lt_mul (by decide)).2 ?_
      rw [Nat.mul_right_comm y]
      exact Nat.mul_lt_mul_of_pos_right (by have := Nat.mul_le_mul_right 18446744073709551616 (show hi + 1 ≤ y from hp); omega) hsp
    have hlow2 : lo * 2 ^ s % 18446744073709551616 = (hi * 18446744073709551616 + lo) * 2 ^ s % 18446744073709551616 := by
      rw [Nat.add_mul, Nat.mul_right_comm, Nat.add_comm, Nat.add_mul_mod_self_right]
    have hVm : y * 2 ^ s % 18446744073709551616 = y * 2 ^ s := Nat.mod_eq_of_lt hyV
    have eN := Nat.div_add_mod ((hi * 18446744073709551616 + lo) * 2 ^ s) 18446744073709551616
    have mN := Nat.mod_lt ((hi * 18446744073709551616 + lo) * 2 ^ s) (show 0 < 18446744073709551616 by decide)
    rw [hU]
    refine ck_to (by rw [hVm]; omega) (bind_to (loop17 hs (fun V e => by rw [e, hVm]; exact ⟨hyL, hUV⟩)) ?_)
    unfold m_bits_Div64_j1
    rw [hs, hs2, hU]
    have hr := rest64 (V := y * 2 ^ s % 18446744073709551616) (u := (hi * 18446744073709551616 + lo) * 2 ^ s / 18446744073709551616) (u1 := lo * 2 ^ s % 18446744073709551616 / 4294967296) (by rw [hVm]; omega) (by omega) (by omega)
    rw [hr]
    refine ck_to (by rw [hVm]; omega) (bind_to (loop24 hs (fun V e => by rw [e]; exact ⟨by rw [hVm]; exact hyL, Nat.mod_lt _ (by rw [hVm]; omega)⟩)) ?_)
    unfold m_bits_Div64_j2
    rw [hs, hs2, hU, hr, mask32', hVm, hlow2]
    have hr2 := rest64 (V := y * 2 ^ s) (u := ((hi * 18446744073709551616 + lo) * 2 ^ s / 18446744073709551616 * 4294967296 + (hi * 18446744073709551616 + lo) * 2 ^ s % 18446744073709551616 / 4294967296) % (y * 2 ^ s)) (u1 := (hi * 18446744073709551616 + lo) * 2 ^ s % 18446744073709551616 % 4294967296) (by omega) hyV (Nat.mod_lt _ (by decide))
    rw [hr2]
    obtain ⟨q1, q2⟩ := div_two (V := y * 2 ^ s) (N := (hi * 18446744073709551616 + lo) * 2 ^ s / 18446744073709551616 * 4294967296 + (hi * 18446744073709551616 + lo) * 2 ^ s % 18446744073709551616 / 4294967296) (W := 4294967296) (un0 := (hi * 18446744073709551616 + lo) * 2 ^ s % 18446744073709551616 % 4294967296) (by omega)
    have eW := (join_w ((hi * 18446744073709551616 + lo) * 2 ^ s / 18446744073709551616) ((hi * 18446744073709551616 + lo) * 2 ^ s % 18446744073709551616)).trans ((congrArg (· + (hi * 18446744073709551616 + lo) * 2 ^ s % 18446744073709551616) (Nat.mul_comm _ _)).trans eN)
    rw [eW] at q1 q2
    rw [q2, mul64, Nat.mod_add_mod, q1, Nat.mul_div_mul_right _ _ hsp, Nat.mul_mod_mul_right, Nat.mul_div_cancel _ hsp]
    have hq : (hi * 18446744073709551616 + lo) / y < 18446744073709551616 := (Nat.div_lt_iff_lt_mul (by omega)).2 (by have := Nat.mul_le_mul_right 18446744073709551616 (show hi + 1 ≤ y from hp); rw [Nat.mul_comm 18446744073709551616]; omega)
    rw [Nat.mod_eq_of_lt hq]
end Nu
end Go.Proofs
namespace Go.Proofs
open Go.Vc
set_option maxRecDepth 20000
namespace Nu
abbrev p_nat_short (a : List Nat) (b : Nat) : Prop := b ≠ 0 ∧ Sz a
def f_nat_short (a : List Nat) (b : Nat) : List Nat × List Nat × Unit := (lb (nv a / b), lb (nv a % b), ())
noncomputable def m_nat_short_j1 (rest_9 : Nat) (q_10 : (List Nat)) : Option (((List Nat) × ((List Nat) × Unit))) :=
  some ((f_nat_trim q_10), (f_nat_trim ([rest_9] : List Nat)), ())
noncomputable def m_nat_short_l4 (a_0 : (List Nat)) (b_1 : Nat) (rest_11 : Nat) (i_12 : Int) (q_13 : (List Nat)) : Option ((Nat × Int × (List Nat)) ⊕ ((Nat × (List Nat)))) :=
  if (0 : Int) ≤ i_12 then ck (0 ≤ i_12 ∧ i_12 < (((a_0.length) : Nat) : Int)) (ck ((p_bits_Div64 rest_11 (a_0.getD (i_12.toNat) (0 : Nat)) b_1)) (ck (0 ≤ i_12 ∧ i_12 < (((q_13.length) : Nat) : Int)) (ck (I64 (i_12 - (1 : Int))) (some (.inl ((((f_bits_Div64 rest_11 (a_0.getD (i_12.toNat) (0 : Nat)) b_1).2).1), (i_12 - (1 : Int)), (q_13.set (i_12.toNat) ((f_bits_Div64 rest_11 (a_0.getD (i_12.toNat) (0 : Nat)) b_1).1)))))))) else some (.inr (rest_11, q_13))
noncomputable def m_nat_short (a_0 : (List Nat)) (b_1 : Nat) : Option ((List Nat) × ((List Nat) × Unit)) :=
  ck (0 ≤ (((a_0.length) : Nat) : Int)) (ck ((8 : Int) * (((a_0.length) : Nat) : Int) ≤ 281474976710656) (ck (I64 ((((a_0.length) : Nat) : Int) - (1 : Int))) ((loopO (fun d : Nat × Int × (List Nat) => m_nat_short_l4 a_0 b_1 d.1 d.2.1 d.2.2) ((0 : Nat), ((((a_0.length) : Nat) : Int) - (1 : Int)), (List.replicate (a_0.length) (0 : Nat)))).bind (fun e => m_nat_short_j1 e.1 e.2))))
structure ShortI (a : List Nat) (b : Nat) (rest : Nat) (i : Int) (q : List Nat) : Prop where
  i0 : -1 ≤ i
  i1 : i < a.length
  len : q.length = a.length
  lm : Lm q
  sum : nv q = nv a / 18446744073709551616 ^ (i + 1).toNat / b * 18446744073709551616 ^ (i + 1).toNat
  res : rest = nv a / 18446744073709551616 ^ (i + 1).toNat % b
theorem ShortI_step {a : List Nat} {b rest : Nat} {i : Int} {q : List Nat} (la : Lm a) (hb : b ≠ 0) (h : ShortI a b rest i q) (hi : 0 ≤ i) :
    rest < b ∧ ShortI a b ((rest * 18446744073709551616 + a.getD i.toNat 0) % b) (i - 1) (q.set i.toNat ((rest * 18446744073709551616 + a.getD i.toNat 0) / b)) := by
  have h1 := h.i1
  have hl := h.len
  have hr : rest < b := by rw [h.res]; exact Nat.mod_lt _ (by omega)
  have hx := getD_lt la i.toNat
  have e1 : (i + 1).toNat = i.toNat + 1 := by omega
  have e2 : (i - 1 + 1).toNat = i.toNat := by omega
  have hN : nv a / 18446744073709551616 ^ i.toNat = nv a / 18446744073709551616 ^ (i.toNat + 1) * 18446744073709551616 + a.getD i.toNat 0 := by
    rw [getD_nv la, Nat.pow_succ, ← Nat.div_div_eq_div_mul, Nat.mul_comm, Nat.div_add_mod]
  obtain ⟨d1, d2⟩ := div_two (V := b) (N := nv a / 18446744073709551616 ^ (i.toNat + 1)) (W := 18446744073709551616) (un0 := a.getD i.toNat 0) (by omega)
  have hs := h.sum
  have hres := h.res
  rw [e1] at hs hres
  rw [← hres, ← hN] at d1 d2
  have hz : q.getD i.toNat 0 = 0 := by
    rw [getD_nv h.lm, hs, Nat.pow_succ, Nat.mul_comm (18446744073709551616 ^ i.toNat) 18446744073709551616, ← Nat.mul_assoc, Nat.mul_div_cancel _ (Nat.pow_pos (by decide)), Nat.mul_mod_left]
  have hv : (rest * 18446744073709551616 + a.getD i.toNat 0) / b < 18446744073709551616 := by
    refine (Nat.div_lt_iff_lt_mul (by omega)).2 ?_
    have := Nat.mul_le_mul_right 18446744073709551616 (show rest + 1 ≤ b from hr)
    rw [Nat.mul_comm 18446744073709551616]; omega
  refine ⟨hr, by omega, by omega, by rw [List.length_set]; exact hl, Lm_set h.lm _ hv, ?_, ?_⟩
  · have hn := nv_set (a := q) (k := i.toNat) (v := (rest * 18446744073709551616 + a.getD i.toNat 0) / b) (by omega)
    rw [hz, Nat.mul_zero, Nat.add_zero] at hn
    rw [e2, ← d1, hn, hs, Nat.pow_succ, Nat.mul_comm (18446744073709551616 ^ i.toNat) 18446744073709551616, ← Nat.mul_assoc, Nat.mul_comm (18446744073709551616 ^ i.toNat), Nat.add_mul]
  · rw [e2, d2]
theorem law_nat_short (a : List Nat) (wa : (Ty.sl (.u .u64)).wf a) (b : Nat) (wb : (Ty.u .u64).wf b) (hp : p_nat_short a b) : m_nat_short a b = some (f_nat_short a b) := by
  have la := wf_Lm wa
  obtain ⟨hb, sa⟩ := hp
  have sa : a.length ≤ 1099511627776 := sa
  unfold m_nat_short f_nat_short
  have key := loopO_post (step := fun d : Nat × Int × (List Nat) => m_nat_short_l4 a b d.1 d.2.1 d.2.2) (I := fun d => ShortI a b d.1 d.2.1 d.2.2) (fun d => (d.2.1 + 1).toNat) (fun e => e.1 = nv a % b ∧ nv e.2 = nv a / b) ?_ (0, (a.length : Int) - 1, List.replicate a.length 0) ?_
  · obtain ⟨e, h1, h2, h3⟩ := key
    refine ck_to (by omega) (ck_to (by omega) (ck_to (by constructor <;> omega) (bind_to h1 ?_)))
    unfold m_nat_short_j1
    rw [f_nat_trim, f_nat_trim, h3, h2]
    rfl
  · rintro ⟨rest, i, q⟩ h
    have h : ShortI a b rest i q := h
    have h1 := h.i1
    have hl := h.len
    show (∃ d', m_nat_short_l4 a b rest i q = _ ∧ _) ∨ ∃ e, m_nat_short_l4 a b rest i q = _ ∧ _
    unfold m_nat_short_l4
    by_cases hi : 0 ≤ i
    · left
      obtain ⟨s1, s2⟩ := ShortI_step la hb h hi
      rw [if_pos hi]
      refine ⟨(_, _, _), ck_to (by constructor <;> omega) (ck_to s1 (ck_to (by constructor <;> omega) (ck_to (by constructor <;> omega) rfl))), s2, by simp only; omega⟩
    · right
      refine ⟨(rest, q), by rw [if_neg hi], ?_⟩
      have h0 := h.i0
      have hs := h.sum
      have hr := h.res
      rw [show (i + 1).toNat = 0 from by omega, Nat.pow_zero, Nat.div_one] at hs hr
      exact ⟨hr, by rw [hs, Nat.mul_one]⟩
  · have e : ((a.length : Int) - 1 + 1).toNat = a.length := by omega
    have hz : nv a / 18446744073709551616 ^ a.length = 0 := Nat.div_eq_of_lt (nv_lt la)
    exact ⟨by simp only; omega, by simp only; omega, by simp, Lm_rep _, by simp only; rw [e, hz, nv_rep, Nat.zero_div, Nat.zero_mul], by simp only; rw [e, hz, Nat.zero_mod]⟩
end Nu
end Go.Proofs
namespace Go.Proofs
open Go.Vc
set_option maxRecDepth 20000
namespace Nu
def a_bits_Len64 : Ty := .pair (.u .u64) .unit
noncomputable def sp_bits_Len64 : FSpec := ⟨a_bits_Len64, .one (.i .i64), fun _ => True, fun x => f_bits_Len64 x.1⟩
attribute [go_sem] sp_bits_Len64 a_bits_Len64
noncomputable def sm_bits_Len64 : FSpec := mSpec a_bits_Len64 (.one (.i .i64)) (fun x => m_bits_Len64 x.1)
noncomputable def l_bits_Len64 : List (FuncId × FSpec) := []
theorem K_bits_Len64 : Known Tryd.prog GL l_bits_Len64 := .nil
set_option maxHeartbeats 4000000 in
theorem om_bits_Len64 : FOK Tryd.prog GL 108 sm_bits_Len64 := by
 refine fok_model (EM_ok K_bits_Len64) Tryd.func108 rfl (by kernel_rfl) (by decide) fun w0 S x r hw h => ?_
 have hF : FrOK (fr Tryd.prog (EM l_bits_Len64) S w0 Tryd.f108.ntmps) := ⟨EM_ok K_bits_Len64, mix⟩
 obtain ⟨(x_0 : Nat), u⟩ := x
 simp only [a_bits_Len64, Ty.wf, fits64] at hw
 simp only [args0, a_bits_Len64]
 try dsimp only at h
 unfold m_bits_Len64 at h
 refine tri_seq (tri_region hF [0, 2] ?_)
 simp only [go_sem]
 refine at_next (tri_joinM (D := Nat × Int) (fun d => m_bits_Len64_j1 d.1 d.2 = some r) [] (fun d => [(0, .val (.u .u64) d.1), (2, .val (.i .i64) d.2)]) (fun d => []) ?_ ?_)
 ·refine tri_seq (tri_region hF [0, 2, 4] ?_)
  simp only [go_sem]
  refine at_next (tri_cond rfl (fun hc => ?_) (fun hc => ?_))
  ·try simp only [go_sem] at hc
   have h := ite_T (by first | exact hc | omega | (simpa using hc) | (simp at hc ⊢; omega)) h
   refine tri_seq (tri_region hF [0] ?_)
   simp only [go_sem]
   refine at_next (tri_region hF [0, 2] ?_)
   simp only [go_sem]
   refine at_then_norm (at_fit (((x_0 / (4294967296 : Nat)), (32 : Int))) h rfl ?_)
   ·(try simp only [fitE, fitV, true_or, and_self, go_sem]) <;> (repeat' apply And.intro) <;> first | rfl | (left; rfl) | (right; rfl) | (left; simp only [go_sem]; done) | (right; simp only [go_sem]; done) | (simp; done) | (simp only [*]; done) | omega
  ·try simp only [go_sem] at hc
   have h := ite_F (by first | exact hc | omega | (simpa using hc) | (simp at hc ⊢; omega)) h
   refine tri_skip (at_then_norm (at_fit ((x_0, (0 : Int))) h rfl ?_))
   ·(try simp only [fitE, fitV, true_or, and_self, go_sem]) <;> (repeat' apply And.intro) <;> first | rfl | (left; rfl) | (right; rfl) | (left; simp only [go_sem]; done) | (right; simp only [go_sem]; done) | (simp; done) | (simp only [*]; done) | omega
 ·rintro ⟨x_2, n_3⟩ h
  try dsimp only at h
  simp only [go_sem]
  unfold m_bits_Len64_j1 at h
  refine tri_joinM (D := Nat × Int) (fun d => m_bits_Len64_j2 d.1 d.2 = some r) [] (fun d => [(0, .val (.u .u64) d.1), (2, .val (.i .i64) d.2)]) (fun d => []) ?_ ?_
  ·refine tri_seq (tri_region hF [0, 2, 8] ?_)
   simp only [go_sem]
   refine at_next (tri_cond rfl (fun hc => ?_) (fun hc => ?_))
   ·try simp only [go_sem] at hc
    have h := ite_T (by first | exact hc | omega | (simpa using hc) | (simp at hc ⊢; omega)) h
    refine tri_seq (tri_region hF [0, 2] ?_)
    simp only [go_sem]
    refine at_next (tri_region hF [0, 2] ?_)
    simp only [go_sem]
    obtain ⟨g0, h⟩ := ck_some h
    try simp only [I64, I32] at g0
    repeat (refine ⟨by first | with_reducible assumption | omega | (intros; first | assumption | omega) | (simp only [go_sem] at *; first | assumption | omega) | decide, ?_⟩)
    refine at_then_norm (at_fit (((x_2 / (65536 : Nat)), (n_3 + (16 : Int)))) h rfl ?_)
    ·(try simp only [fitE, fitV, true_or, and_self, go_sem]) <;> (repeat' apply And.intro) <;> first | rfl | (left; rfl) | (right; rfl) | (left; simp only [go_sem]; done) | (right; simp only [go_sem]; done) | (simp; done) | (simp only [*]; done) | omega
   ·try simp only [go_sem] at hc
    have h := ite_F (by first | exact hc | omega | (simpa using hc) | (simp at hc ⊢; omega)) h
    refine tri_skip (at_then_norm (at_fit ((x_2, n_3)) h rfl ?_))
    ·(try simp only [fitE, fitV, true_or, and_self, go_sem]) <;> (repeat' apply And.intro) <;> first | rfl | (left; rfl) | (right; rfl) | (left; simp only [go_sem]; done) | (right; simp only [go_sem]; done) | (simp; done) | (simp only [*]; done) | omega
  ·rintro ⟨x_4, n_5⟩ h
   try dsimp only at h
   simp only [go_sem]
   unfold m_bits_Len64_j2 at h
   refine tri_joinM (D := Nat × Int) (fun d => m_bits_Len64_j3 d.1 d.2 = some r) [] (fun d => [(0, .val (.u .u64) d.1), (2, .val (.i .i64) d.2)]) (fun d => []) ?_ ?_
   ·refine tri_seq (tri_region hF [0, 2, 14] ?_)
    simp only [go_sem]
    refine at_next (tri_cond rfl (fun hc => ?_) (fun hc => ?_))
    ·try simp only [go_sem] at hc
     have h := ite_T (by first | exact hc | omega | (simpa using hc) | (simp at hc ⊢; omega)) h
     refine tri_seq (tri_region hF [0, 2] ?_)
     simp only [go_sem]
     refine at_next (tri_region hF [0, 2] ?_)
     simp only [go_sem]
     obtain ⟨g0, h⟩ := ck_some h
     try simp only [I64, I32] at g0
     repeat (refine ⟨by first | with_reducible assumption | omega | (intros; first | assumption | omega) | (simp only [go_sem] at *; first | assumption | omega) | decide, ?_⟩)
     refine at_then_norm (at_fit (((x_4 / (256 : Nat)), (n_5 + (8 : Int)))) h rfl ?_)
     ·(try simp only [fitE, fitV, true_or, and_self, go_sem]) <;> (repeat' apply And.intro) <;> first | rfl | (left; rfl) | (right; rfl) | (left; simp only [go_sem]; done) | (right; simp only [go_sem]; done) | (simp; done) | (simp only [*]; done) | omega
    ·try simp only [go_sem] at hc
     have h := ite_F (by first | exact hc | omega | (simpa using hc) | (simp at hc ⊢; omega)) h
     refine tri_skip (at_then_norm (at_fit ((x_4, n_5)) h rfl ?_))
     ·(try simp only [fitE, fitV, true_or, and_self, go_sem]) <;> (repeat' apply And.intro) <;> first | rfl | (left; rfl) | (right; rfl) | (left; simp only [go_sem]; done) | (right; simp only [go_sem]; done) | (simp; done) | (simp only [*]; done) | omega
   ·rintro ⟨x_6, n_7⟩ h
    try dsimp only at h
    simp only [go_sem]
    unfold m_bits_Len64_j3 at h
    refine tri_seq (tri_region hF [2] ?_)
    simp only [go_sem]
    obtain ⟨g0, h⟩ := ck_some h
    obtain ⟨g1, h⟩ := ck_some h
    try simp only [I64, I32] at g1
    repeat (refine ⟨by first | with_reducible assumption | omega | (intros; first | assumption | omega) | (simp only [go_sem] at *; first | assumption | omega) | decide, ?_⟩)
    obtain rfl := Option.some.inj h
    refine at_next (tri_ret (at_retC hF [.tmp 2] rfl rfl rfl ?_))
    (try simp only [retOK, resE, go_sem]) <;> first | rfl | (simp; done)
theorem ok_bits_Len64 : FOK Tryd.prog GL 108 sp_bits_Len64 := fok_clean om_bits_Len64 (fun ⟨x0, u⟩ ⟨w0, wu⟩ hp => law_bits_Len64 x0 w0)
def a_bits_LeadingZeros64 : Ty := .pair (.u .u64) .unit
noncomputable def sp_bits_LeadingZeros64 : FSpec := ⟨a_bits_LeadingZeros64, .one (.i .i64), fun _ => True, fun x => f_bits_LeadingZeros64 x.1⟩
attribute [go_sem] sp_bits_LeadingZeros64 a_bits_LeadingZeros64
noncomputable def sm_bits_LeadingZeros64 : FSpec := mSpec a_bits_LeadingZeros64 (.one (.i .i64)) (fun x => m_bits_LeadingZeros64 x.1)
noncomputable def l_bits_LeadingZeros64 : List (FuncId × FSpec) := [(108, sp_bits_Len64)]
theorem K_bits_LeadingZeros64 : Known Tryd.prog GL l_bits_LeadingZeros64 := .cons ok_bits_Len64 (by kernel_rfl) (.nil)
theorem l_bits_LeadingZeros64_108 : gam l_bits_LeadingZeros64 108 = some sp_bits_Len64 := rfl
attribute [go_sem] l_bits_LeadingZeros64_108
set_option maxHeartbeats 4000000 in
theorem om_bits_LeadingZeros64 : FOK Tryd.prog GL 89 sm_bits_LeadingZeros64 := by
 refine fok_model (EM_ok K_bits_LeadingZeros64) Tryd.func89 rfl (by kernel_rfl) (by decide) fun w0 S x r hw h => ?_
 have hF : FrOK (fr Tryd.prog (EM l_bits_LeadingZeros64) S w0 Tryd.f89.ntmps) := ⟨EM_ok K_bits_LeadingZeros64, mix⟩
 obtain ⟨(x_0 : Nat), u⟩ := x
 simp only [a_bits_LeadingZeros64, Ty.wf, fits64] at hw
 simp only [args0, a_bits_LeadingZeros64]
 try dsimp only at h
 unfold m_bits_LeadingZeros64 at h
 refine tri_seq (tri_region hF [0] ?_)
 simp only [go_sem]
 refine at_next (tri_seq (tri_region hF [2] ?_))
 simp only [go_sem]
 obtain ⟨g0, h⟩ := ck_some h
 try simp only [I64, I32] at g0
 repeat (refine ⟨by first | with_reducible assumption | omega | (intros; first | assumption | omega) | (simp only [go_sem] at *; first | assumption | omega) | decide, ?_⟩)
 obtain rfl := Option.some.inj h
 refine at_next (tri_ret (at_retC hF [.tmp 2] rfl rfl rfl ?_))
 (try simp only [retOK, resE, go_sem]) <;> first | rfl | (simp; done)
theorem ok_bits_LeadingZeros64 : FOK Tryd.prog GL 89 sp_bits_LeadingZeros64 := fok_clean om_bits_LeadingZeros64 (fun ⟨x0, u⟩ ⟨w0, wu⟩ hp => law_bits_LeadingZeros64 x0 w0)
def a_bits_TrailingZeros64 : Ty := .pair (.u .u64) .unit
noncomputable def sp_bits_TrailingZeros64 : FSpec := ⟨a_bits_TrailingZeros64, .one (.i .i64), fun _ => True, fun x => f_bits_TrailingZeros64 x.1⟩
attribute [go_sem] sp_bits_TrailingZeros64 a_bits_TrailingZeros64
noncomputable def sm_bits_TrailingZeros64 : FSpec := mSpec a_bits_TrailingZeros64 (.one (.i .i64)) (fun x => m_bits_TrailingZeros64 x.1)
noncomputable def l_bits_TrailingZeros64 : List (FuncId × FSpec) := []
theorem K_bits_TrailingZeros64 : Known Tryd.prog GL l_bits_TrailingZeros64 := .nil
set_option maxHeartbeats 4000000 in
theorem om_bits_TrailingZeros64 : FOK Tryd.prog GL 63 sm_bits_TrailingZeros64 := by
 refine fok_model (EM_ok K_bits_TrailingZeros64) Tryd.func63 rfl (by kernel_rfl) (by decide) fun w0 S x r hw h => ?_
 have hF : FrOK (fr Tryd.prog (EM l_bits_TrailingZeros64) S w0 Tryd.f63.ntmps) := ⟨EM_ok K_bits_TrailingZeros64, mix⟩
 obtain ⟨(x_0 : Nat), u⟩ := x
 simp only [a_bits_TrailingZeros64, Ty.wf, fits64] at hw
 simp only [args0, a_bits_TrailingZeros64]
 try dsimp only at h
 unfold m_bits_TrailingZeros64 at h
 refine tri_seq (tri_region hF [0] ?_)
 simp only [go_sem]
 refine at_next (tri_seq (tri_seq (tri_region hF [0, 4] ?_)))
 simp only [go_sem]
 refine at_next (tri_cond rfl (fun hc => ?_) (fun hc => ?_))
 ·try simp only [go_sem] at hc
  have h := ite_T (by first | exact hc | omega | (simpa using hc) | (simp at hc ⊢; omega)) h
  refine tri_seq (tri_region hF [2] ?_)
  simp only [go_sem]
  obtain rfl := Option.some.inj h
  refine at_next (tri_ret (at_then_ret (at_retC hF [.tmp 2] rfl rfl rfl ?_)))
  (try simp only [retOK, resE, go_sem]) <;> first | rfl | (simp; done)
 ·try simp only [go_sem] at hc
  have h := ite_F (by first | exact hc | omega | (simpa using hc) | (simp at hc ⊢; omega)) h
  refine tri_skip (at_next (tri_seq (tri_region hF [2] ?_)))
  simp only [go_sem]
  obtain ⟨g0, h⟩ := ck_some h
  repeat (refine ⟨by first | with_reducible assumption | omega | (intros; first | assumption | omega) | (simp only [go_sem] at *; first | assumption | omega) | decide, ?_⟩)
  obtain rfl := Option.some.inj h
  refine at_next (tri_ret (at_retC hF [.tmp 2] rfl rfl rfl ?_))
  (try simp only [retOK, resE, go_sem]) <;> first | rfl | (simp; done)
theorem ok_bits_TrailingZeros64 : FOK Tryd.prog GL 63 sp_bits_TrailingZeros64 := fok_clean om_bits_TrailingZeros64 (fun ⟨x0, u⟩ ⟨w0, wu⟩ hp => law_bits_TrailingZeros64 x0 w0)
def a_bits_Mul64 : Ty := .pair (.u .u64) (.pair (.u .u64) .unit)
noncomputable def sp_bits_Mul64 : FSpec := ⟨a_bits_Mul64, .tup (.pair (.u .u64) (.pair (.u .u64) .unit)), fun _ => True, fun x => f_bits_Mul64 x.1 x.2.1⟩
attribute [go_sem] sp_bits_Mul64 a_bits_Mul64
noncomputable def sm_bits_Mul64 : FSpec := mSpec a_bits_Mul64 (.tup (.pair (.u .u64) (.pair (.u .u64) .unit))) (fun x => m_bits_Mul64 x.1 x.2.1)
noncomputable def l_bits_Mul64 : List (FuncId × FSpec) := []
theorem K_bits_Mul64 : Known Tryd.prog GL l_bits_Mul64 := .nil
set_option maxHeartbeats 4000000 in
theorem om_bits_Mul64 : FOK Tryd.prog GL 60 sm_bits_Mul64 := by
 refine fok_model (EM_ok K_bits_Mul64) Tryd.func60 rfl (by kernel_rfl) (by decide) fun w0 S x r hw h => ?_
 have hF : FrOK (fr Tryd.prog (EM l_bits_Mul64) S w0 Tryd.f60.ntmps) := ⟨EM_ok K_bits_Mul64, mix⟩
 obtain ⟨(x_0 : Nat), (y_1 : Nat), u⟩ := x
 simp only [a_bits_Mul64, Ty.wf, fits64] at hw
 simp only [args0, a_bits_Mul64]
 try dsimp only at h
 unfold m_bits_Mul64 at h
 refine tri_seq (tri_region hF [0, 1] ?_)
 simp only [go_sem]
 refine at_next (tri_seq (tri_region hF [0, 1, 6] ?_))
 simp only [go_sem]
 refine at_next (tri_seq (tri_region hF [0, 1, 6, 7] ?_))
 simp only [go_sem]
 refine at_next (tri_seq (tri_region hF [0, 1, 6, 7, 8] ?_))
 simp only [go_sem]
 refine at_next (tri_seq (tri_region hF [0, 1, 6, 7, 8, 9] ?_))
 simp only [go_sem]
 refine at_next (tri_seq (tri_region hF [0, 1, 6, 7, 8, 9, 10] ?_))
 simp only [go_sem]
 refine at_next (tri_seq (tri_region hF [0, 1, 6, 7, 9, 11] ?_))
 simp only [go_sem]
 refine at_next (tri_seq (tri_region hF [0, 1, 6, 7, 9, 11, 12] ?_))
 simp only [go_sem]
 refine at_next (tri_seq (tri_region hF [0, 1, 6, 7, 9, 12, 13] ?_))
 simp only [go_sem]
 refine at_next (tri_seq (tri_region hF [0, 1, 7, 9, 12, 13] ?_))
 simp only [go_sem]
 refine at_next (tri_seq (tri_region hF [0, 1, 4] ?_))
 simp only [go_sem]
 refine at_next (tri_seq (tri_region hF [4, 5] ?_))
 simp only [go_sem]
 obtain rfl := Option.some.inj h
 refine at_next (tri_ret (at_retC hF [.tmp 4, .tmp 5] rfl rfl rfl ?_))
 (try simp only [retOK, resE, go_sem]) <;> first | rfl | (simp; done)
theorem ok_bits_Mul64 : FOK Tryd.prog GL 60 sp_bits_Mul64 := fok_clean om_bits_Mul64 (fun ⟨x0, x1, u⟩ ⟨w0, w1, wu⟩ hp => law_bits_Mul64 x0 w0 x1 w1)
end Nu
end Go.Proofs
namespace Go.Proofs
open Go.Vc
set_option maxRecDepth 20000
namespace Nu
def a_nat_trim : Ty := .pair (.sl (.u .u64)) .unit
noncomputable def sp_nat_trim : FSpec := ⟨a_nat_trim, .one (.sl (.u .u64)), fun _ => True, fun x => f_nat_trim x.1⟩
attribute [go_sem] sp_nat_trim a_nat_trim
noncomputable def sm_nat_trim : FSpec := mSpec a_nat_trim (.one (.sl (.u .u64))) (fun x => m_nat_trim x.1)
noncomputable def l_nat_trim : List (FuncId × FSpec) := []
theorem K_nat_trim : Known Tryd.prog GL l_nat_trim := .nil
set_option maxHeartbeats 4000000 in
theorem om_nat_trim : FOK Tryd.prog GL 62 sm_nat_trim := by
 refine fok_model (EM_ok K_nat_trim) Tryd.func62 rfl (by kernel_rfl) (by decide) fun w0 S x r hw h => ?_
 have hF : FrOK (fr Tryd.prog (EM l_nat_trim) S w0 Tryd.f62.ntmps) := ⟨EM_ok K_nat_trim, mix⟩
 obtain ⟨(a_0 : (List Nat)), u⟩ := x
 simp only [a_nat_trim, Ty.wf, fits64] at hw
 simp only [args0, a_nat_trim]
 try dsimp only at h
 unfold m_nat_trim at h
 refine tri_seq (tri_region hF [0] ?_)
 simp only [go_sem]
 refine at_next (tri_seq (tri_block (tri_loopM (D := (List Nat)) [] (fun d => [(0, .val (.sl (.u .u64)) d)]) (fun d => []) h ?_ ?_ ?_)))
 ·first | rfl | (simp only [go_sem]; done)
 ·(try simp only [fitE, fitV, true_or, and_self, go_sem]) <;> (repeat' apply And.intro) <;> first | rfl | (left; rfl) | (right; rfl) | (left; simp only [go_sem]; done) | (right; simp only [go_sem]; done) | (simp; done) | (simp only [*]; done) | omega
 rintro a_4 s1 h hs1
 simp only [go_sem]
 try dsimp only at h
 unfold m_nat_trim_l1 at h
 refine tri_seq (tri_seq (tri_region hF [0, 14] ?_))
 simp only [go_sem]
 obtain ⟨g0, h⟩ := ck_some h
 obtain ⟨g1, h⟩ := ck_some h
 try simp only [I64, I32] at g0
 repeat (refine ⟨by first | with_reducible assumption | omega | (intros; first | assumption | omega) | (simp only [go_sem] at *; first | assumption | omega) | (intro q0; (try have e0 := g0 (by first | exact q0 | omega | (simpa using q0))); (try have e1 := g1 (by first | exact q0 | omega | (simpa using q0))); first | assumption | omega) | decide, ?_⟩)
 refine at_next (tri_cond rfl (fun hc => ?_) (fun hc => ?_))
 ·try simp only [go_sem] at hc
  have h := ite_T (by first | exact hc | omega | (simpa using hc) | (simp at hc ⊢; omega)) h
  refine tri_skip (at_next (tri_block (tri_region hF [0] ?_)))
  simp only [go_sem]
  obtain ⟨g0, h⟩ := ck_some h
  obtain ⟨g1, h⟩ := ck_some h
  try simp only [I64, I32] at g0
  repeat (refine ⟨by first | with_reducible assumption | omega | (intros; first | assumption | omega) | (simp only [go_sem] at *; first | assumption | omega) | decide, ?_⟩)
  obtain rfl := Option.some.inj h
  dsimp only [stepQ] at hs1
  refine at_block_norm (at_then_norm (at_fit ((List.take (((((a_4.length) : Nat) : Int) - (1 : Int)).toNat) a_4)) hs1 rfl ?_))
  ·(try simp only [fitE, fitV, true_or, and_self, go_sem]) <;> (repeat' apply And.intro) <;> first | rfl | (left; rfl) | (right; rfl) | (left; simp only [go_sem]; done) | (right; simp only [go_sem]; done) | (simp; done) | (simp only [*]; done) | omega
 ·try simp only [go_sem] at hc
  have h := ite_F (by first | exact hc | omega | (simpa using hc) | (simp at hc ⊢; omega)) h
  obtain rfl := Option.some.inj h
  dsimp only [stepQ] at hs1
  have h := hs1
  try dsimp only at h
  refine tri_exit (at_then_exit (at_then_exit (at_block_exit (at_next (tri_seq (tri_region hF [2] ?_))))))
  simp only [go_sem]
  obtain rfl := Option.some.inj h
  refine at_next (tri_ret (at_retC hF [.tmp 2] rfl rfl rfl ?_))
  (try simp only [retOK, resE, go_sem]) <;> first | rfl | (simp; done)
theorem ok_nat_trim : FOK Tryd.prog GL 62 sp_nat_trim := fok_clean om_nat_trim (fun ⟨x0, u⟩ ⟨w0, wu⟩ hp => law_nat_trim x0 w0)
def a_nat_May : Ty := .pair (.sl (.u .u64)) .unit
noncomputable def sp_nat_May : FSpec := ⟨a_nat_May, .one .bool, fun _ => True, fun x => f_nat_May x.1⟩
attribute [go_sem] sp_nat_May a_nat_May
noncomputable def sm_nat_May : FSpec := mSpec a_nat_May (.one .bool) (fun x => m_nat_May x.1)
noncomputable def l_nat_May : List (FuncId × FSpec) := []
theorem K_nat_May : Known Tryd.prog GL l_nat_May := .nil
set_option maxHeartbeats 4000000 in
theorem om_nat_May : FOK Tryd.prog GL 27 sm_nat_May := by
 refine fok_model (EM_ok K_nat_May) Tryd.func27 rfl (by kernel_rfl) (by decide) fun w0 S x r hw h => ?_
 have hF : FrOK (fr Tryd.prog (EM l_nat_May) S w0 Tryd.f27.ntmps) := ⟨EM_ok K_nat_May, mix⟩
 obtain ⟨(a_0 : (List Nat)), u⟩ := x
 simp only [a_nat_May, Ty.wf, fits64] at hw
 simp only [args0, a_nat_May]
 try dsimp only at h
 unfold m_nat_May at h
 refine tri_seq (tri_region hF [0] ?_)
 simp only [go_sem]
 refine at_next (tri_seq (tri_region hF [2] ?_))
 simp only [go_sem]
 obtain ⟨g0, h⟩ := ck_some h
 obtain ⟨g1, h⟩ := ck_some h
 try simp only [I64, I32] at g0
 repeat (refine ⟨by first | with_reducible assumption | omega | (intros; first | assumption | omega) | (simp only [go_sem] at *; first | assumption | omega) | (intro q0 q1; (try have e0 := g0 (by first | exact q0 | omega | (simpa using q0)) (by first | exact q1 | omega | (simpa using q1))); (try have e1 := g1 (by first | exact q0 | omega | (simpa using q0)) (by first | exact q1 | omega | (simpa using q1))); first | assumption | omega) | decide, ?_⟩)
 obtain rfl := Option.some.inj h
 refine at_next (tri_ret (at_retC hF [.tmp 2] rfl rfl rfl ?_))
 (try simp only [retOK, resE, go_sem]) <;> first | rfl | (simp; done)
theorem ok_nat_May : FOK Tryd.prog GL 27 sp_nat_May := fok_clean om_nat_May (fun ⟨x0, u⟩ ⟨w0, wu⟩ hp => law_nat_May x0 w0)
def a_nat_sign : Ty := .pair .bool .unit
noncomputable def sp_nat_sign : FSpec := ⟨a_nat_sign, .one (.i .i64), fun _ => True, fun x => f_nat_sign x.1⟩
attribute [go_sem] sp_nat_sign a_nat_sign
noncomputable def sm_nat_sign : FSpec := mSpec a_nat_sign (.one (.i .i64)) (fun x => m_nat_sign x.1)
noncomputable def l_nat_sign : List (FuncId × FSpec) := []
theorem K_nat_sign : Known Tryd.prog GL l_nat_sign := .nil
set_option maxHeartbeats 4000000 in
theorem om_nat_sign : FOK Tryd.prog GL 106 sm_nat_sign := by
 refine fok_model (EM_ok K_nat_sign) Tryd.func106 rfl (by kernel_rfl) (by decide) fun w0 S x r hw h => ?_
 have hF : FrOK (fr Tryd.prog (EM l_nat_sign) S w0 Tryd.f106.ntmps) := ⟨EM_ok K_nat_sign, mix⟩
 obtain ⟨(less_0 : Bool), u⟩ := x
 simp only [a_nat_sign, Ty.wf, fits64] at hw
 simp only [args0, a_nat_sign]
 try dsimp only at h
 unfold m_nat_sign at h
 refine tri_seq (tri_region hF [0] ?_)
 simp only [go_sem]
 refine at_next (tri_seq (tri_seq (tri_region hF [3] ?_)))
 simp only [go_sem]
 refine at_next (tri_cond rfl (fun hc => ?_) (fun hc => ?_))
 ·try simp only [go_sem] at hc
  have h := ite_T (by first | exact hc | omega | (simpa using hc) | (simp at hc ⊢; omega)) h
  refine tri_seq (tri_region hF [2] ?_)
  simp only [go_sem]
  obtain rfl := Option.some.inj h
  refine at_next (tri_ret (at_then_ret (at_retC hF [.tmp 2] rfl rfl rfl ?_)))
  (try simp only [retOK, resE, go_sem]) <;> first | rfl | (simp; done)
 ·try simp only [go_sem] at hc
  have h := ite_F (by first | exact hc | omega | (simpa using hc) | (simp at hc ⊢; omega)) h
  refine tri_skip (at_next (tri_seq (tri_region hF [2] ?_)))
  simp only [go_sem]
  obtain rfl := Option.some.inj h
  refine at_next (tri_ret (at_retC hF [.tmp 2] rfl rfl rfl ?_))
  (try simp only [retOK, resE, go_sem]) <;> first | rfl | (simp; done)
theorem ok_nat_sign : FOK Tryd.prog GL 106 sp_nat_sign := fok_clean om_nat_sign (fun ⟨x0, u⟩ ⟨w0, wu⟩ hp => law_nat_sign x0 w0)
def a_nat_Order : Ty := .pair (.sl (.u .u64)) (.pair (.sl (.u .u64)) .unit)
noncomputable def sp_nat_Order : FSpec := ⟨a_nat_Order, .one (.i .i64), fun x => pNrm2 x.1 x.2.1, fun x => f_nat_Order x.1 x.2.1⟩
attribute [go_sem] sp_nat_Order a_nat_Order
noncomputable def sm_nat_Order : FSpec := mSpec a_nat_Order (.one (.i .i64)) (fun x => m_nat_Order x.1 x.2.1)
noncomputable def l_nat_Order : List (FuncId × FSpec) := [(106, sp_nat_sign)]
theorem K_nat_Order : Known Tryd.prog GL l_nat_Order := .cons ok_nat_sign (by kernel_rfl) (.nil)
theorem l_nat_Order_106 : gam l_nat_Order 106 = some sp_nat_sign := rfl
attribute [go_sem] l_nat_Order_106
set_option maxHeartbeats 4000000 in
theorem om_nat_Order : FOK Tryd.prog GL 87 sm_nat_Order := by
 refine fok_model (EM_ok K_nat_Order) Tryd.func87 rfl (by kernel_rfl) (by decide) fun w0 S x r hw h => ?_
 have hF : FrOK (fr Tryd.prog (EM l_nat_Order) S w0 Tryd.f87.ntmps) := ⟨EM_ok K_nat_Order, mix⟩
 obtain ⟨(a_0 : (List Nat)), (b_1 : (List Nat)), u⟩ := x
 simp only [a_nat_Order, Ty.wf, fits64] at hw
 simp only [args0, a_nat_Order]
 try dsimp only at h
 unfold m_nat_Order at h
 refine tri_seq (tri_region hF [0, 1] ?_)
 simp only [go_sem]
 refine at_next (tri_seq (tri_seq (tri_region hF [0, 1, 10] ?_)))
 simp only [go_sem]
 refine at_next (tri_cond rfl (fun hc => ?_) (fun hc => ?_))
 ·try simp only [go_sem] at hc
  have h := ite_T (by first | exact hc | omega | (simpa using hc) | (simp at hc ⊢; omega)) h
  refine tri_seq (tri_region hF [4] ?_)
  simp only [go_sem]
  obtain rfl := Option.some.inj h
  refine at_next (tri_ret (at_then_ret (at_retC hF [.tmp 4] rfl rfl rfl ?_)))
  (try simp only [retOK, resE, go_sem]) <;> first | rfl | (simp; done)
 ·try simp only [go_sem] at hc
  have h := ite_F (by first | exact hc | omega | (simpa using hc) | (simp at hc ⊢; omega)) h
  refine tri_skip (at_next (tri_seq (tri_seq (tri_region hF [0, 1, 5] ?_))))
  simp only [go_sem]
  obtain ⟨g0, h⟩ := ck_some h
  try simp only [I64, I32] at g0
  repeat (refine ⟨by first | with_reducible assumption | omega | (intros; first | assumption | omega) | (simp only [go_sem] at *; first | assumption | omega) | decide, ?_⟩)
  refine at_next (tri_block (tri_loopM (D := Int) [0, 1] (fun d => [(5, .val (.i .i64) d)]) (fun d => []) h ?_ ?_ ?_))
  ·first | rfl | (simp only [go_sem]; done)
  ·(try simp only [fitE, fitV, true_or, and_self, go_sem]) <;> (repeat' apply And.intro) <;> first | rfl | (left; rfl) | (right; rfl) | (left; simp only [go_sem]; done) | (right; simp only [go_sem]; done) | (simp; done) | (simp only [*]; done) | omega
  rintro i_5 s4 h hs4
  simp only [go_sem]
  try dsimp only at h
  unfold m_nat_Order_l4 at h
  refine tri_seq (tri_seq (tri_region hF [0, 1, 5, 21] ?_))
  simp only [go_sem]
  refine at_next (tri_cond rfl (fun hc => ?_) (fun hc => ?_))
  ·try simp only [go_sem] at hc
   have h := ite_T (by first | exact hc | omega | (simpa using hc) | (simp at hc ⊢; omega)) h
   refine tri_skip (at_next (tri_seq (tri_block (tri_seq (tri_region hF [0, 1, 5, 32] ?_)))))
   simp only [go_sem]
   obtain ⟨g0, h⟩ := ck_some h
   obtain ⟨g1, h⟩ := ck_some h
   repeat (refine ⟨by first | with_reducible assumption | omega | (intros; first | assumption | omega) | (simp only [go_sem] at *; first | assumption | omega) | decide, ?_⟩)
   refine at_next (tri_cond rfl (fun hc => ?_) (fun hc => ?_))
   ·try simp only [go_sem] at hc
    have h := ite_T (by first | exact hc | omega | (simpa using hc) | (simp at hc ⊢; omega)) h
    refine tri_seq (tri_region hF [4] ?_)
    simp only [go_sem]
    obtain ⟨g0, h⟩ := ck_some h
    obtain ⟨g1, h⟩ := ck_some h
    repeat (refine ⟨by first | with_reducible assumption | omega | (intros; first | assumption | omega) | (simp only [go_sem] at *; first | assumption | omega) | decide, ?_⟩)
    obtain rfl := Option.some.inj h
    dsimp only [stepQ] at hs4
    have h := hs4
    try dsimp only at h
    obtain rfl := Option.some.inj h
    refine at_next (tri_ret (at_block_ret (at_then_ret (at_then_ret (at_block_ret (at_then_ret (at_retC hF [.tmp 4] rfl rfl rfl ?_)))))))
    (try simp only [retOK, resE, go_sem]) <;> first | rfl | (simp; done)
   ·try simp only [go_sem] at hc
    have h := ite_F (by first | exact hc | omega | (simpa using hc) | (simp at hc ⊢; omega)) h
    refine tri_skip (at_block_norm (at_next (tri_region hF [0, 1, 5] ?_)))
    simp only [go_sem]
    obtain ⟨g0, h⟩ := ck_some h
    try simp only [I64, I32] at g0
    repeat (refine ⟨by first | with_reducible assumption | omega | (intros; first | assumption | omega) | (simp only [go_sem] at *; first | assumption | omega) | decide, ?_⟩)
    obtain rfl := Option.some.inj h
    dsimp only [stepQ] at hs4
    refine at_then_norm (at_fit ((i_5 - (1 : Int))) hs4 rfl ?_)
    ·(try simp only [fitE, fitV, true_or, and_self, go_sem]) <;> (repeat' apply And.intro) <;> first | rfl | (left; rfl) | (right; rfl) | (left; simp only [go_sem]; done) | (right; simp only [go_sem]; done) | (simp; done) | (simp only [*]; done) | omega
  ·try simp only [go_sem] at hc
   have h := ite_F (by first | exact hc | omega | (simpa using hc) | (simp at hc ⊢; omega)) h
   obtain rfl := Option.some.inj h
   dsimp only [stepQ] at hs4
   have h := hs4
   try dsimp only at h
   refine tri_exit (at_then_exit (at_then_exit (at_block_exit (at_next (tri_seq (tri_region hF [4] ?_))))))
   simp only [go_sem]
   obtain rfl := Option.some.inj h
   refine at_next (tri_ret (at_retC hF [.tmp 4] rfl rfl rfl ?_))
   (try simp only [retOK, resE, go_sem]) <;> first | rfl | (simp; done)
theorem ok_nat_Order : FOK Tryd.prog GL 87 sp_nat_Order := fok_clean om_nat_Order (fun ⟨x0, x1, u⟩ ⟨w0, w1, wu⟩ hp => law_nat_Order x0 w0 x1 w1 hp)
def a_nat_Size : Ty := .pair (.sl (.u .u64)) .unit
noncomputable def sp_nat_Size : FSpec := ⟨a_nat_Size, .one (.i .i64), fun x => pNrmS x.1, fun x => f_nat_Size x.1⟩
attribute [go_sem] sp_nat_Size a_nat_Size
noncomputable def sm_nat_Size : FSpec := mSpec a_nat_Size (.one (.i .i64)) (fun x => m_nat_Size x.1)
noncomputable def l_nat_Size : List (FuncId × FSpec) := [(89, sp_bits_LeadingZeros64)]
theorem K_nat_Size : Known Tryd.prog GL l_nat_Size := .cons ok_bits_LeadingZeros64 (by kernel_rfl) (.nil)
theorem l_nat_Size_89 : gam l_nat_Size 89 = some sp_bits_LeadingZeros64 := rfl
attribute [go_sem] l_nat_Size_89
set_option maxHeartbeats 4000000 in
theorem om_nat_Size : FOK Tryd.prog GL 76 sm_nat_Size := by
 refine fok_model (EM_ok K_nat_Size) Tryd.func76 rfl (by kernel_rfl) (by decide) fun w0 S x r hw h => ?_
 have hF : FrOK (fr Tryd.prog (EM l_nat_Size) S w0 Tryd.f76.ntmps) := ⟨EM_ok K_nat_Size, mix⟩
 obtain ⟨(a_0 : (List Nat)), u⟩ := x
 simp only [a_nat_Size, Ty.wf, fits64] at hw
 simp only [args0, a_nat_Size]
 try dsimp only at h
 unfold m_nat_Size at h
 refine tri_seq (tri_region hF [0] ?_)
 simp only [go_sem]
 refine at_next (tri_seq (tri_seq (tri_region hF [0, 5] ?_)))
 simp only [go_sem]
 refine at_next (tri_cond rfl (fun hc => ?_) (fun hc => ?_))
 ·try simp only [go_sem] at hc
  have h := ite_T (by first | exact hc | omega | (simpa using hc) | (simp at hc ⊢; omega)) h
  refine tri_seq (tri_region hF [2] ?_)
  simp only [go_sem]
  obtain rfl := Option.some.inj h
  refine at_next (tri_ret (at_then_ret (at_retC hF [.tmp 2] rfl rfl rfl ?_)))
  (try simp only [retOK, resE, go_sem]) <;> first | rfl | (simp; done)
 ·try simp only [go_sem] at hc
  have h := ite_F (by first | exact hc | omega | (simpa using hc) | (simp at hc ⊢; omega)) h
  refine tri_skip (at_next (tri_seq (tri_region hF [2] ?_)))
  simp only [go_sem]
  obtain ⟨g0, h⟩ := ck_some h
  obtain ⟨g1, h⟩ := ck_some h
  obtain ⟨g2, h⟩ := ck_some h
  obtain ⟨g3, h⟩ := ck_some h
  try simp only [I64, I32] at g0
  try simp only [I64, I32] at g1
  try simp only [I64, I32] at g3
  repeat (refine ⟨by first | with_reducible assumption | omega | (intros; first | assumption | omega) | (simp only [go_sem] at *; first | assumption | omega) | decide, ?_⟩)
  obtain rfl := Option.some.inj h
  refine at_next (tri_ret (at_retC hF [.tmp 2] rfl rfl rfl ?_))
  (try simp only [retOK, resE, go_sem]) <;> first | rfl | (simp; done)
theorem ok_nat_Size : FOK Tryd.prog GL 76 sp_nat_Size := fok_clean om_nat_Size (fun ⟨x0, u⟩ ⟨w0, wu⟩ hp => law_nat_Size x0 w0 hp)
def a_nat_Zeros : Ty := .pair (.sl (.u .u64)) .unit
noncomputable def sp_nat_Zeros : FSpec := ⟨a_nat_Zeros, .one (.i .i64), fun x => pSz x.1, fun x => f_nat_Zeros x.1⟩
attribute [go_sem] sp_nat_Zeros a_nat_Zeros
noncomputable def sm_nat_Zeros : FSpec := mSpec a_nat_Zeros (.one (.i .i64)) (fun x => m_nat_Zeros x.1)
noncomputable def l_nat_Zeros : List (FuncId × FSpec) := [(63, sp_bits_TrailingZeros64)]
theorem K_nat_Zeros : Known Tryd.prog GL l_nat_Zeros := .cons ok_bits_TrailingZeros64 (by kernel_rfl) (.nil)
theorem l_nat_Zeros_63 : gam l_nat_Zeros 63 = some sp_bits_TrailingZeros64 := rfl
attribute [go_sem] l_nat_Zeros_63
set_option maxHeartbeats 4000000 in
theorem om_nat_Zeros : FOK Tryd.prog GL 35 sm_nat_Zeros := by
 refine fok_model (EM_ok K_nat_Zeros) Tryd.func35 rfl (by kernel_rfl) (by decide) fun w0 S x r hw h => ?_
 have hF : FrOK (fr Tryd.prog (EM l_nat_Zeros) S w0 Tryd.f35.ntmps) := ⟨EM_ok K_nat_Zeros, mix⟩
 obtain ⟨(a_0 : (List Nat)), u⟩ := x
 simp only [a_nat_Zeros, Ty.wf, fits64] at hw
 simp only [args0, a_nat_Zeros]
 try dsimp only at h
 unfold m_nat_Zeros at h
 refine tri_seq (tri_region hF [0] ?_)
 simp only [go_sem]
 refine at_next (tri_seq (tri_seq (tri_region hF [5, 6, 7] ?_)))
 simp only [go_sem]
 refine at_next (tri_block (tri_loopM (D := Int) [5, 6] (fun d => [(7, .val (.i .i64) d)]) (fun d => []) h ?_ ?_ ?_))
 ·first | rfl | (simp only [go_sem]; done)
 ·(try simp only [fitE, fitV, true_or, and_self, go_sem]) <;> (repeat' apply And.intro) <;> first | rfl | (left; rfl) | (right; rfl) | (left; simp only [go_sem]; done) | (right; simp only [go_sem]; done) | (simp; done) | (simp only [*]; done) | omega
 rintro x7_4 s2 h hs2
 simp only [go_sem]
 try dsimp only at h
 unfold m_nat_Zeros_l2 at h
 refine tri_seq (tri_region hF [5, 6, 7, 8] ?_)
 simp only [go_sem]
 refine at_next (tri_seq (tri_cond rfl (fun hc => ?_) (fun hc => ?_)))
 ·try simp only [go_sem] at hc
  have h := ite_T (by first | exact hc | omega | (simpa using hc) | (simp at hc ⊢; omega)) h
  refine tri_skip (at_next (tri_seq (tri_block (tri_seq (tri_region hF [3, 4, 5, 6, 7] ?_)))))
  simp only [go_sem]
  obtain ⟨g0, h⟩ := ck_some h
  repeat (refine ⟨by first | with_reducible assumption | omega | (intros; first | assumption | omega) | (simp only [go_sem] at *; first | assumption | omega) | decide, ?_⟩)
  refine at_next (tri_seq (tri_region hF [3, 4, 5, 6, 7, 13] ?_))
  simp only [go_sem]
  refine at_next (tri_cond rfl (fun hc => ?_) (fun hc => ?_))
  ·try simp only [go_sem] at hc
   have h := ite_T (by first | exact hc | omega | (simpa using hc) | (simp at hc ⊢; omega)) h
   refine tri_seq (tri_region hF [2] ?_)
   simp only [go_sem]
   obtain ⟨g0, h⟩ := ck_some h
   obtain ⟨g1, h⟩ := ck_some h
   try simp only [I64, I32] at g0
   try simp only [I64, I32] at g1
   repeat (refine ⟨by first | with_reducible assumption | omega | (intros; first | assumption | omega) | (simp only [go_sem] at *; first | assumption | omega) | decide, ?_⟩)
   obtain rfl := Option.some.inj h
   dsimp only [stepQ] at hs2
   have h := hs2
   try dsimp only at h
   obtain rfl := Option.some.inj h
   refine at_next (tri_ret (at_block_ret (at_then_ret (at_then_ret (at_block_ret (at_then_ret (at_retC hF [.tmp 2] rfl rfl rfl ?_)))))))
   (try simp only [retOK, resE, go_sem]) <;> first | rfl | (simp; done)
  ·try simp only [go_sem] at hc
   have h := ite_F (by first | exact hc | omega | (simpa using hc) | (simp at hc ⊢; omega)) h
   refine tri_skip (at_block_norm (at_next (tri_region hF [5, 6, 7] ?_)))
   simp only [go_sem]
   obtain ⟨g0, h⟩ := ck_some h
   try simp only [I64, I32] at g0
   repeat (refine ⟨by first | with_reducible assumption | omega | (intros; first | assumption | omega) | (simp only [go_sem] at *; first | assumption | omega) | decide, ?_⟩)
   obtain rfl := Option.some.inj h
   dsimp only [stepQ] at hs2
   refine at_then_norm (at_fit ((x7_4 + (1 : Int))) hs2 rfl ?_)
   ·(try simp only [fitE, fitV, true_or, and_self, go_sem]) <;> (repeat' apply And.intro) <;> first | rfl | (left; rfl) | (right; rfl) | (left; simp only [go_sem]; done) | (right; simp only [go_sem]; done) | (simp; done) | (simp only [*]; done) | omega
 ·try simp only [go_sem] at hc
  have h := ite_F (by first | exact hc | omega | (simpa using hc) | (simp at hc ⊢; omega)) h
  obtain rfl := Option.some.inj h
  dsimp only [stepQ] at hs2
  have h := hs2
  try dsimp only at h
  refine tri_exit (at_then_exit (at_then_exit (at_block_exit (at_next (tri_seq (tri_region hF [2] ?_))))))
  simp only [go_sem]
  obtain rfl := Option.some.inj h
  refine at_next (tri_ret (at_retC hF [.tmp 2] rfl rfl rfl ?_))
  (try simp only [retOK, resE, go_sem]) <;> first | rfl | (simp; done)
theorem ok_nat_Zeros : FOK Tryd.prog GL 35 sp_nat_Zeros := fok_clean om_nat_Zeros (fun ⟨x0, u⟩ ⟨w0, wu⟩ hp => law_nat_Zeros x0 w0 hp)
def a_nat_Plus : Ty := .pair (.sl (.u .u64)) (.pair (.sl (.u .u64)) .unit)
noncomputable def sp_nat_Plus : FSpec := ⟨a_nat_Plus, .one (.sl (.u .u64)), fun x => pSz2 x.1 x.2.1, fun x => f_nat_Plus x.1 x.2.1⟩
attribute [go_sem] sp_nat_Plus a_nat_Plus
noncomputable def sm_nat_Plus : FSpec := mSpec a_nat_Plus (.one (.sl (.u .u64))) (fun x => m_nat_Plus x.1 x.2.1)
noncomputable def l_nat_Plus : List (FuncId × FSpec) := [(61, sp_bits_Add64), (62, sp_nat_trim), (64, sp_slices_Clone_uint64)]
theorem K_nat_Plus : Known Tryd.prog GL l_nat_Plus := .nat ok_bits_Add64 (.cons ok_nat_trim (by kernel_rfl) (.cons ok_slices_Clone_uint64 (by kernel_rfl) (.nil)))
theorem l_nat_Plus_61 : gam l_nat_Plus 61 = some sp_bits_Add64 := rfl
attribute [go_sem] l_nat_Plus_61
theorem l_nat_Plus_62 : gam l_nat_Plus 62 = some sp_nat_trim := rfl
attribute [go_sem] l_nat_Plus_62
theorem l_nat_Plus_64 : gam l_nat_Plus 64 = some sp_slices_Clone_uint64 := rfl
attribute [go_sem] l_nat_Plus_64
set_option maxHeartbeats 4000000 in
theorem om_nat_Plus : FOK Tryd.prog GL 36 sm_nat_Plus := by
 refine fok_model (EM_ok K_nat_Plus) Tryd.func36 rfl (by kernel_rfl) (by decide) fun w0 S x r hw h => ?_
 have hF : FrOK (fr Tryd.prog (EM l_nat_Plus) S w0 Tryd.f36.ntmps) := ⟨EM_ok K_nat_Plus, mix⟩
 obtain ⟨(a_0 : (List Nat)), (b_1 : (List Nat)), u⟩ := x
 simp only [a_nat_Plus, Ty.wf, fits64] at hw
 simp only [args0, a_nat_Plus]
 try dsimp only at h
 unfold m_nat_Plus at h
 refine tri_seq (tri_region hF [0, 1] ?_)
 simp only [go_sem]
 refine at_next (tri_scope (tri_joinM (D := (List Nat) × (List Nat)) (fun d => m_nat_Plus_j1 d.1 d.2 = some r) [] (fun d => [(0, .val (.sl (.u .u64)) d.1), (1, .val (.sl (.u .u64)) d.2)]) (fun d => []) ?_ ?_))
 ·refine tri_seq (tri_region hF [0, 1, 13] ?_)
  simp only [go_sem]
  refine at_next (tri_cond rfl (fun hc => ?_) (fun hc => ?_))
  ·try simp only [go_sem] at hc
   have h := ite_T (by first | exact hc | omega | (simpa using hc) | (simp at hc ⊢; omega)) h
   refine tri_region hF [0, 1] ?_
   simp only [go_sem]
   refine at_then_norm (at_fit ((b_1, a_0)) h rfl ?_)
   ·(try simp only [fitE, fitV, true_or, and_self, go_sem]) <;> (repeat' apply And.intro) <;> first | rfl | (left; rfl) | (right; rfl) | (left; simp only [go_sem]; done) | (right; simp only [go_sem]; done) | (simp; done) | (simp only [*]; done) | omega
  ·try simp only [go_sem] at hc
   have h := ite_F (by first | exact hc | omega | (simpa using hc) | (simp at hc ⊢; omega)) h
   refine tri_skip (at_then_norm (at_fit ((a_0, b_1)) h rfl ?_))
   ·(try simp only [fitE, fitV, true_or, and_self, go_sem]) <;> (repeat' apply And.intro) <;> first | rfl | (left; rfl) | (right; rfl) | (left; simp only [go_sem]; done) | (right; simp only [go_sem]; done) | (simp; done) | (simp only [*]; done) | omega
 ·rintro ⟨a_3, b_4⟩ h
  try dsimp only at h
  simp only [go_sem]
  unfold m_nat_Plus_j1 at h
  refine tri_seq (tri_regionB hF [1, 5] ?_)
  simp only [go_sem]
  obtain ⟨g0, h⟩ := ck_some h
  repeat (refine ⟨by first | with_reducible assumption | omega | (intros; first | assumption | omega) | (simp only [go_sem] at *; first | assumption | omega) | decide, ?_⟩)
  obtain ⟨g0, h⟩ := ck_some h
  repeat (refine ⟨by first | with_reducible assumption | omega | (intros; first | assumption | omega) | (simp only [go_sem] at *; first | assumption | omega) | decide, ?_⟩)
  refine at_next (tri_seq (tri_region hF [1, 5, 6] ?_))
  simp only [go_sem]
  refine at_next (tri_seq (tri_label (at_next (tri_seq (tri_seq (tri_region hF [1, 5, 6, 21, 22] ?_))))))
  simp only [go_sem]
  refine at_next (tri_block (tri_ren [1] rfl rfl ?_))
  simp only [ren, ren1, renO, posOf, posAll, go_sem]
  refine tri_loopM (D := Nat × Int × (List Nat)) [1, 21] (fun d => [(5, .own 0), (6, .val (.u .u64) d.1), (22, .val (.i .i64) d.2.1)]) (fun d => [.inr (.row 48 (.u .u64) d.2.2)]) h ?_ ?_ ?_
  ·first | rfl | (simp only [go_sem]; done)
  ·(try simp only [fitE, fitV, true_or, and_self, go_sem]) <;> (repeat' apply And.intro) <;> first | rfl | (left; rfl) | (right; rfl) | (left; simp only [go_sem]; done) | (right; simp only [go_sem]; done) | (simp; done) | (simp only [*]; done) | omega
  rintro ⟨carry_12, x22_13, out_14⟩ s6 h hs6
  simp only [go_sem]
  try dsimp only at h
  unfold m_nat_Plus_l6 at h
  refine tri_seq (tri_region hF [1, 5, 6, 21, 22, 23] ?_)
  simp only [go_sem]
  refine at_next (tri_seq (tri_cond rfl (fun hc => ?_) (fun hc => ?_)))
  ·try simp only [go_sem] at hc
   have h := ite_T (by first | exact hc | omega | (simpa using hc) | (simp at hc ⊢; omega)) h
   refine tri_skip (at_next (tri_seq (tri_block (tri_seq (tri_region hF [1, 5, 6, 7, 21, 22] ?_)))))
   simp only [go_sem]
   refine at_next (tri_seq (tri_region hF [1, 5, 6, 7, 8, 21, 22] ?_))
   simp only [go_sem]
   refine at_next (tri_joinM (D := Nat) (fun d => m_nat_Plus_j2 x22_13 out_14 carry_12 d = some s6) [1, 6, 7, 21, 22] (fun d => [(5, .own 0), (8, .val (.u .u64) d)]) (fun d => [.inr (.row 48 (.u .u64) out_14)]) ?_ ?_)
   ·refine tri_block (tri_seq (tri_region hF [1, 5, 6, 7, 8, 21, 22, 25] ?_))
    simp only [go_sem]
    refine at_next (tri_cond rfl (fun hc => ?_) (fun hc => ?_))
    ·try simp only [go_sem] at hc
     have h := ite_T (by first | exact hc | omega | (simpa using hc) | (simp at hc ⊢; omega)) h
     refine tri_region hF [1, 5, 6, 7, 8, 21, 22] ?_
     simp only [go_sem]
     obtain ⟨g0, h⟩ := ck_some h
     repeat (refine ⟨by first | with_reducible assumption | omega | (intros; first | assumption | omega) | (simp only [go_sem] at *; first | assumption | omega) | decide, ?_⟩)
     refine at_block_norm (at_then_norm (at_fit ((b_4.getD (x22_13.toNat) (0 : Nat))) h rfl ?_))
     ·(try simp only [fitE, fitV, true_or, and_self, go_sem]) <;> (repeat' apply And.intro) <;> first | rfl | (left; rfl) | (right; rfl) | (left; simp only [go_sem]; done) | (right; simp only [go_sem]; done) | (simp; done) | (simp only [*]; done) | omega
    ·try simp only [go_sem] at hc
     have h := ite_F (by first | exact hc | omega | (simpa using hc) | (simp at hc ⊢; omega)) h
     refine tri_seq (tri_region hF [1, 5, 6, 7, 8, 21, 22, 34] ?_)
     simp only [go_sem]
     refine at_next (tri_cond rfl (fun hc => ?_) (fun hc => ?_))
     ·try simp only [go_sem] at hc
      have h := ite_T (by first | exact hc | omega | (simpa using hc) | (simp at hc ⊢; omega)) h
      obtain rfl := Option.some.inj h
      dsimp only [stepQ] at hs6
      have h := hs6
      try dsimp only at h
      refine tri_exit (at_block_other (by decide) (at_then_exit (at_block_other (by decide) (at_then_exit (at_then_exit (at_block_exit (at_next (tri_seq (tri_regionB hF [4] ?_)))))))))
      simp only [go_sem]
      obtain rfl := Option.some.inj h
      refine at_next (tri_ret (at_scope_ret (at_retC hF [.tmp 4] rfl rfl rfl ?_)))
      (try simp only [retOK, resE, go_sem]) <;> first | rfl | (simp; done)
     ·try simp only [go_sem] at hc
      have h := ite_F (by first | exact hc | omega | (simpa using hc) | (simp at hc ⊢; omega)) h
      refine tri_skip (at_block_norm (at_then_norm (at_fit ((0 : Nat)) h rfl ?_)))
      ·(try simp only [fitE, fitV, true_or, and_self, go_sem]) <;> (repeat' apply And.intro) <;> first | rfl | (left; rfl) | (right; rfl) | (left; simp only [go_sem]; done) | (right; simp only [go_sem]; done) | (simp; done) | (simp only [*]; done) | omega
   ·rintro x_21 h
    try dsimp only at h
    simp only [go_sem]
    unfold m_nat_Plus_j2 at h
    refine tri_regionB hF [1, 5, 6, 21, 22] ?_
    simp only [go_sem]
    obtain ⟨g0, h⟩ := ck_some h
    repeat (refine ⟨by first | with_reducible assumption | omega | (intros; first | assumption | omega) | (simp only [go_sem] at *; first | assumption | omega) | decide, ?_⟩)
    obtain ⟨g0, h⟩ := ck_some h
    repeat (refine ⟨by first | with_reducible assumption | omega | (intros; first | assumption | omega) | (simp only [go_sem] at *; first | assumption | omega) | decide, ?_⟩)
    obtain ⟨g0, h⟩ := ck_some h
    repeat (refine ⟨by first | with_reducible assumption | omega | (intros; first | assumption | omega) | (simp only [go_sem] at *; first | assumption | omega) | decide, ?_⟩)
    refine at_block_norm (at_next (tri_region hF [1, 5, 6, 21, 22] ?_))
    simp only [go_sem]
    obtain ⟨g0, h⟩ := ck_some h
    try simp only [I64, I32] at g0
    repeat (refine ⟨by first | with_reducible assumption | omega | (intros; first | assumption | omega) | (simp only [go_sem] at *; first | assumption | omega) | decide, ?_⟩)
    obtain rfl := Option.some.inj h
    dsimp only [stepQ] at hs6
    refine at_then_norm (at_fit (((((fAdd64 (out_14.getD (x22_13.toNat) (0 : Nat)) x_21 carry_12).2).1), (x22_13 + (1 : Int)), (out_14.set (x22_13.toNat) ((fAdd64 (out_14.getD (x22_13.toNat) (0 : Nat)) x_21 carry_12).1)))) hs6 rfl ?_)
    ·(try simp only [fitE, fitV, true_or, and_self, go_sem]) <;> (repeat' apply And.intro) <;> first | rfl | (left; rfl) | (right; rfl) | (left; simp only [go_sem]; done) | (right; simp only [go_sem]; done) | (simp; done) | (simp only [*]; done) | omega
  ·try simp only [go_sem] at hc
   have h := ite_F (by first | exact hc | omega | (simpa using hc) | (simp at hc ⊢; omega)) h
   obtain rfl := Option.some.inj h
   dsimp only [stepQ] at hs6
   have h := hs6
   try dsimp only at h
   refine tri_exit (at_then_exit (at_then_exit (at_block_exit (at_next (tri_seq (tri_regionB hF [4] ?_))))))
   simp only [go_sem]
   obtain rfl := Option.some.inj h
   refine at_next (tri_ret (at_scope_ret (at_retC hF [.tmp 4] rfl rfl rfl ?_)))
   (try simp only [retOK, resE, go_sem]) <;> first | rfl | (simp; done)
theorem ok_nat_Plus : FOK Tryd.prog GL 36 sp_nat_Plus := fok_clean om_nat_Plus (fun ⟨x0, x1, u⟩ ⟨w0, w1, wu⟩ hp => law_nat_Plus x0 w0 x1 w1 hp)
def a_nat_Norm : Ty := .pair (.sl (.u .u64)) .unit
noncomputable def sp_nat_Norm : FSpec := ⟨a_nat_Norm, .one (.sl (.u .u64)), fun x => pSz x.1, fun x => f_nat_Norm x.1⟩
attribute [go_sem] sp_nat_Norm a_nat_Norm
noncomputable def sm_nat_Norm : FSpec := mSpec a_nat_Norm (.one (.sl (.u .u64))) (fun x => m_nat_Norm x.1)
noncomputable def l_nat_Norm : List (FuncId × FSpec) := [(62, sp_nat_trim), (64, sp_slices_Clone_uint64)]
theorem K_nat_Norm : Known Tryd.prog GL l_nat_Norm := .cons ok_nat_trim (by kernel_rfl) (.cons ok_slices_Clone_uint64 (by kernel_rfl) (.nil))
theorem l_nat_Norm_62 : gam l_nat_Norm 62 = some sp_nat_trim := rfl
attribute [go_sem] l_nat_Norm_62
theorem l_nat_Norm_64 : gam l_nat_Norm 64 = some sp_slices_Clone_uint64 := rfl
attribute [go_sem] l_nat_Norm_64
set_option maxHeartbeats 4000000 in
theorem om_nat_Norm : FOK Tryd.prog GL 92 sm_nat_Norm := by
 refine fok_model (EM_ok K_nat_Norm) Tryd.func92 rfl (by kernel_rfl) (by decide) fun w0 S x r hw h => ?_
 have hF : FrOK (fr Tryd.prog (EM l_nat_Norm) S w0 Tryd.f92.ntmps) := ⟨EM_ok K_nat_Norm, mix⟩
 obtain ⟨(a_0 : (List Nat)), u⟩ := x
 simp only [a_nat_Norm, Ty.wf, fits64] at hw
 simp only [args0, a_nat_Norm]
 try dsimp only at h
 unfold m_nat_Norm at h
 refine tri_seq (tri_region hF [0] ?_)
 simp only [go_sem]
 refine at_next (tri_seq (tri_regionB hF [2] ?_))
 simp only [go_sem]
 obtain ⟨g0, h⟩ := ck_some h
 repeat (refine ⟨by first | with_reducible assumption | omega | (intros; first | assumption | omega) | (simp only [go_sem] at *; first | assumption | omega) | decide, ?_⟩)
 obtain rfl := Option.some.inj h
 refine at_next (tri_ret (at_retC hF [.tmp 2] rfl rfl rfl ?_))
 (try simp only [retOK, resE, go_sem]) <;> first | rfl | (simp; done)
theorem ok_nat_Norm : FOK Tryd.prog GL 92 sp_nat_Norm := fok_clean om_nat_Norm (fun ⟨x0, u⟩ ⟨w0, wu⟩ hp => law_nat_Norm x0 w0 hp)
end Nu
end Go.Proofs
namespace Go.Proofs
open Go.Vc
set_option maxRecDepth 20000
namespace Nu
def a_nat_Times : Ty := .pair (.sl (.u .u64)) (.pair (.sl (.u .u64)) .unit)
noncomputable def sp_nat_Times : FSpec := ⟨a_nat_Times, .one (.sl (.u .u64)), fun x => pSz2 x.1 x.2.1, fun x => f_nat_Times x.1 x.2.1⟩
attribute [go_sem] sp_nat_Times a_nat_Times
noncomputable def sm_nat_Times : FSpec := mSpec a_nat_Times (.one (.sl (.u .u64))) (fun x => m_nat_Times x.1 x.2.1)
noncomputable def l_nat_Times : List (FuncId × FSpec) := [(60, sp_bits_Mul64), (61, sp_bits_Add64), (62, sp_nat_trim)]
theorem K_nat_Times : Known Tryd.prog GL l_nat_Times := .cons ok_bits_Mul64 (by kernel_rfl) (.nat ok_bits_Add64 (.cons ok_nat_trim (by kernel_rfl) (.nil)))
theorem l_nat_Times_60 : gam l_nat_Times 60 = some sp_bits_Mul64 := rfl
attribute [go_sem] l_nat_Times_60
theorem l_nat_Times_61 : gam l_nat_Times 61 = some sp_bits_Add64 := rfl
attribute [go_sem] l_nat_Times_61
theorem l_nat_Times_62 : gam l_nat_Times 62 = some sp_nat_trim := rfl
attribute [go_sem] l_nat_Times_62
set_option maxHeartbeats 4000000 in
theorem om_nat_Times : FOK Tryd.prog GL 31 sm_nat_Times := by
 refine fok_model (EM_ok K_nat_Times) Tryd.func31 rfl (by kernel_rfl) (by decide) fun w0 S x r hw h => ?_
 have hF : FrOK (fr Tryd.prog (EM l_nat_Times) S w0 Tryd.f31.ntmps) := ⟨EM_ok K_nat_Times, mix⟩
 obtain ⟨(a_0 : (List Nat)), (b_1 : (List Nat)), u⟩ := x
 simp only [a_nat_Times, Ty.wf, fits64] at hw
 simp only [args0, a_nat_Times]
 try dsimp only at h
 unfold m_nat_Times at h
 refine tri_seq (tri_region hF [0, 1] ?_)
 simp only [go_sem]
 refine at_next (tri_seq (tri_regionB hF [0, 1, 5] ?_))
 simp only [go_sem]
 obtain ⟨g0, h⟩ := ck_some h
 try simp only [I64, I32] at g0
 repeat (refine ⟨by first | with_reducible assumption | omega | (intros; first | assumption | omega) | (simp only [go_sem] at *; first | assumption | omega) | decide, ?_⟩)
 obtain ⟨g0, h⟩ := ck_some h
 obtain ⟨g1, h⟩ := ck_some h
 repeat (refine ⟨by first | with_reducible assumption | omega | (intros; first | assumption | omega) | (simp only [go_sem] at *; first | assumption | omega) | decide, ?_⟩)
 refine at_next (tri_seq (tri_seq (tri_region hF [1, 5, 20, 21, 22] ?_)))
 simp only [go_sem]
 refine at_next (tri_block (tri_loopM (D := Int × (List Nat)) [1, 20, 21] (fun d => [(5, .own 0), (22, .val (.i .i64) d.1)]) (fun d => [.inr (.row 48 (.u .u64) d.2)]) h ?_ ?_ ?_))
 ·first | rfl | (simp only [go_sem]; done)
 ·(try simp only [fitE, fitV, true_or, and_self, go_sem]) <;> (repeat' apply And.intro) <;> first | rfl | (left; rfl) | (right; rfl) | (left; simp only [go_sem]; done) | (right; simp only [go_sem]; done) | (simp; done) | (simp only [*]; done) | omega
 rintro ⟨x22_34, out_35⟩ s3 h hs3
 simp only [go_sem]
 try dsimp only at h
 unfold m_nat_Times_l3 at h
 refine tri_seq (tri_region hF [1, 5, 20, 21, 22, 23] ?_)
 simp only [go_sem]
 refine at_next (tri_seq (tri_cond rfl (fun hc => ?_) (fun hc => ?_)))
 ·try simp only [go_sem] at hc
  have h := ite_T (by first | exact hc | omega | (simpa using hc) | (simp at hc ⊢; omega)) h
  refine tri_skip (at_next (tri_seq (tri_block (tri_seq (tri_region hF [1, 5, 6, 7, 20, 21, 22] ?_)))))
  simp only [go_sem]
  obtain ⟨g0, h⟩ := ck_some h
  repeat (refine ⟨by first | with_reducible assumption | omega | (intros; first | assumption | omega) | (simp only [go_sem] at *; first | assumption | omega) | decide, ?_⟩)
  refine at_next (tri_seq (tri_region hF [1, 5, 6, 7, 8, 20, 21, 22] ?_))
  simp only [go_sem]
  refine at_next (tri_joinM (D := Nat × (List Nat)) (fun d => m_nat_Times_j1 x22_34 b_1 d.1 d.2 = some s3) [1, 6, 20, 21, 22] (fun d => [(5, .own 0), (8, .val (.u .u64) d.1)]) (fun d => [.inr (.row 48 (.u .u64) d.2)]) ?_ ?_)
  ·refine tri_seq (tri_region hF [1, 5, 6, 7, 8, 20, 21, 22, 27, 28, 29] ?_)
   simp only [go_sem]
   refine at_next (tri_block (tri_loopM (D := Nat × Int × (List Nat)) [1, 6, 7, 20, 21, 22, 27, 28] (fun d => [(5, .own 0), (8, .val (.u .u64) d.1), (29, .val (.i .i64) d.2.1)]) (fun d => [.inr (.row 48 (.u .u64) d.2.2)]) h ?_ ?_ ?_))
   ·first | rfl | (simp only [go_sem]; done)
   ·(try simp only [fitE, fitV, true_or, and_self, go_sem]) <;> (repeat' apply And.intro) <;> first | rfl | (left; rfl) | (right; rfl) | (left; simp only [go_sem]; done) | (right; simp only [go_sem]; done) | (simp; done) | (simp only [*]; done) | omega
   rintro ⟨carry_64, x29_65, out_66⟩ s7 h hs7
   simp only [go_sem]
   try dsimp only at h
   unfold m_nat_Times_l7 at h
   refine tri_seq (tri_region hF [1, 5, 6, 7, 8, 20, 21, 22, 27, 28, 29, 30] ?_)
   simp only [go_sem]
   refine at_next (tri_seq (tri_cond rfl (fun hc => ?_) (fun hc => ?_)))
   ·try simp only [go_sem] at hc
    have h := ite_T (by first | exact hc | omega | (simpa using hc) | (simp at hc ⊢; omega)) h
    refine tri_skip (at_next (tri_seq (tri_block (tri_seq (tri_region hF [1, 5, 6, 7, 8, 9, 10, 20, 21, 22, 27, 28, 29] ?_)))))
    simp only [go_sem]
    obtain ⟨g0, h⟩ := ck_some h
    repeat (refine ⟨by first | with_reducible assumption | omega | (intros; first | assumption | omega) | (simp only [go_sem] at *; first | assumption | omega) | decide, ?_⟩)
    refine at_next (tri_seq (tri_region hF [1, 5, 6, 7, 8, 9, 11, 12, 20, 21, 22, 27, 28, 29] ?_))
    simp only [go_sem]
    refine at_next (tri_seq (tri_region hF [1, 5, 6, 7, 8, 9, 11, 12, 20, 21, 22, 27, 28, 29] ?_))
    simp only [go_sem]
    refine at_next (tri_seq (tri_region hF [1, 5, 6, 7, 9, 11, 12, 13, 20, 21, 22, 27, 28, 29] ?_))
    simp only [go_sem]
    obtain ⟨g0, h⟩ := ck_some h
    repeat (refine ⟨by first | with_reducible assumption | omega | (intros; first | assumption | omega) | (simp only [go_sem] at *; first | assumption | omega) | decide, ?_⟩)
    refine at_next (tri_seq (tri_region hF [1, 5, 6, 7, 9, 11, 12, 20, 21, 22, 27, 28, 29] ?_))
    simp only [go_sem]
    refine at_next (tri_seq (tri_regionB hF [1, 5, 6, 7, 11, 13, 20, 21, 22, 27, 28, 29] ?_))
    simp only [go_sem]
    obtain ⟨g0, h⟩ := ck_some h
    try simp only [I64, I32] at g0
    repeat (refine ⟨by first | with_reducible assumption | omega | (intros; first | assumption | omega) | (simp only [go_sem] at *; first | assumption | omega) | decide, ?_⟩)
    obtain ⟨g0, h⟩ := ck_some h
    try simp only [I64, I32] at g0
    repeat (refine ⟨by first | with_reducible assumption | omega | (intros; first | assumption | omega) | (simp only [go_sem] at *; first | assumption | omega) | decide, ?_⟩)
    obtain ⟨g0, h⟩ := ck_some h
    repeat (refine ⟨by first | with_reducible assumption | omega | (intros; first | assumption | omega) | (simp only [go_sem] at *; first | assumption | omega) | decide, ?_⟩)
    obtain ⟨g0, h⟩ := ck_some h
    repeat (refine ⟨by first | with_reducible assumption | omega | (intros; first | assumption | omega) | (simp only [go_sem] at *; first | assumption | omega) | decide, ?_⟩)
    obtain ⟨g0, h⟩ := ck_some h
    repeat (refine ⟨by first | with_reducible assumption | omega | (intros; first | assumption | omega) | (simp only [go_sem] at *; first | assumption | omega) | decide, ?_⟩)
    refine at_next (tri_region hF [1, 5, 6, 7, 8, 20, 21, 22, 27, 28, 29] ?_)
    simp only [go_sem]
    refine at_block_norm (at_next (tri_region hF [1, 5, 6, 7, 8, 20, 21, 22, 27, 28, 29] ?_))
    simp only [go_sem]
    obtain ⟨g0, h⟩ := ck_some h
    try simp only [I64, I32] at g0
    repeat (refine ⟨by first | with_reducible assumption | omega | (intros; first | assumption | omega) | (simp only [go_sem] at *; first | assumption | omega) | decide, ?_⟩)
    obtain rfl := Option.some.inj h
    dsimp only [stepQ] at hs7
    refine at_then_norm (at_fit ((((((((f_bits_Mul64 (a_0.getD (x22_34.toNat) (0 : Nat)) (b_1.getD (x29_65.toNat) (0 : Nat))).1) + (((fAdd64 (((f_bits_Mul64 (a_0.getD (x22_34.toNat) (0 : Nat)) (b_1.getD (x29_65.toNat) (0 : Nat))).2).1) carry_64 (0 : Nat)).2).1)) % 18446744073709551616) + (((fAdd64 (out_66.getD ((x22_34 + x29_65).toNat) (0 : Nat)) ((fAdd64 (((f_bits_Mul64 (a_0.getD (x22_34.toNat) (0 : Nat)) (b_1.getD (x29_65.toNat) (0 : Nat))).2).1) carry_64 (0 : Nat)).1) (0 : Nat)).2).1)) % 18446744073709551616), (x29_65 + (1 : Int)), (out_66.set ((x22_34 + x29_65).toNat) ((fAdd64 (out_66.getD ((x22_34 + x29_65).toNat) (0 : Nat)) ((fAdd64 (((f_bits_Mul64 (a_0.getD (x22_34.toNat) (0 : Nat)) (b_1.getD (x29_65.toNat) (0 : Nat))).2).1) carry_64 (0 : Nat)).1) (0 : Nat)).1)))) hs7 rfl ?_)
    ·(try simp only [fitE, fitV, true_or, and_self, go_sem]) <;> (repeat' apply And.intro) <;> first | rfl | (left; rfl) | (right; rfl) | (left; simp only [go_sem]; done) | (right; simp only [go_sem]; done) | (simp; done) | (simp only [*]; done) | omega
   ·try simp only [go_sem] at hc
    have h := ite_F (by first | exact hc | omega | (simpa using hc) | (simp at hc ⊢; omega)) h
    obtain rfl := Option.some.inj h
    dsimp only [stepQ] at hs7
    have h := hs7
    try dsimp only at h
    refine tri_exit (at_then_exit (at_then_exit (at_block_exit (at_then_norm (at_fit ((carry_64, out_66)) h rfl ?_)))))
    ·(try simp only [fitE, fitV, true_or, and_self, go_sem]) <;> (repeat' apply And.intro) <;> first | rfl | (left; rfl) | (right; rfl) | (left; simp only [go_sem]; done) | (right; simp only [go_sem]; done) | (simp; done) | (simp only [*]; done) | omega
  ·rintro ⟨carry_62, out_63⟩ h
   try dsimp only at h
   simp only [go_sem]
   unfold m_nat_Times_j1 at h
   refine tri_regionB hF [1, 5, 20, 21, 22] ?_
   simp only [go_sem]
   obtain ⟨g0, h⟩ := ck_some h
   try simp only [I64, I32] at g0
   repeat (refine ⟨by first | with_reducible assumption | omega | (intros; first | assumption | omega) | (simp only [go_sem] at *; first | assumption | omega) | decide, ?_⟩)
   obtain ⟨g0, h⟩ := ck_some h
   repeat (refine ⟨by first | with_reducible assumption | omega | (intros; first | assumption | omega) | (simp only [go_sem] at *; first | assumption | omega) | decide, ?_⟩)
   refine at_block_norm (at_next (tri_region hF [1, 5, 20, 21, 22] ?_))
   simp only [go_sem]
   obtain ⟨g0, h⟩ := ck_some h
   try simp only [I64, I32] at g0
   repeat (refine ⟨by first | with_reducible assumption | omega | (intros; first | assumption | omega) | (simp only [go_sem] at *; first | assumption | omega) | decide, ?_⟩)
   obtain rfl := Option.some.inj h
   dsimp only [stepQ] at hs3
   refine at_then_norm (at_fit (((x22_34 + (1 : Int)), (out_63.set ((x22_34 + (((b_1.length) : Nat) : Int)).toNat) carry_62))) hs3 rfl ?_)
   ·(try simp only [fitE, fitV, true_or, and_self, go_sem]) <;> (repeat' apply And.intro) <;> first | rfl | (left; rfl) | (right; rfl) | (left; simp only [go_sem]; done) | (right; simp only [go_sem]; done) | (simp; done) | (simp only [*]; done) | omega
 ·try simp only [go_sem] at hc
  have h := ite_F (by first | exact hc | omega | (simpa using hc) | (simp at hc ⊢; omega)) h
  obtain rfl := Option.some.inj h
  dsimp only [stepQ] at hs3
  have h := hs3
  try dsimp only at h
  refine tri_exit (at_then_exit (at_then_exit (at_block_exit (at_next (tri_seq (tri_regionB hF [4] ?_))))))
  simp only [go_sem]
  obtain rfl := Option.some.inj h
  refine at_next (tri_ret (at_retC hF [.tmp 4] rfl rfl rfl ?_))
  (try simp only [retOK, resE, go_sem]) <;> first | rfl | (simp; done)
theorem ok_nat_Times : FOK Tryd.prog GL 31 sp_nat_Times := fok_clean om_nat_Times (fun ⟨x0, x1, u⟩ ⟨w0, w1, wu⟩ hp => law_nat_Times x0 w0 x1 w1 hp)
def a_nat_Left : Ty := .pair (.sl (.u .u64)) (.pair (.i .i64) .unit)
noncomputable def sp_nat_Left : FSpec := ⟨a_nat_Left, .one (.sl (.u .u64)), fun x => pLeft x.1 x.2.1, fun x => f_nat_Left x.1 x.2.1⟩
attribute [go_sem] sp_nat_Left a_nat_Left
noncomputable def sm_nat_Left : FSpec := mSpec a_nat_Left (.one (.sl (.u .u64))) (fun x => m_nat_Left x.1 x.2.1)
noncomputable def l_nat_Left : List (FuncId × FSpec) := [(62, sp_nat_trim)]
theorem K_nat_Left : Known Tryd.prog GL l_nat_Left := .cons ok_nat_trim (by kernel_rfl) (.nil)
theorem l_nat_Left_62 : gam l_nat_Left 62 = some sp_nat_trim := rfl
attribute [go_sem] l_nat_Left_62
set_option maxHeartbeats 4000000 in
theorem om_nat_Left : FOK Tryd.prog GL 32 sm_nat_Left := by
 refine fok_model (EM_ok K_nat_Left) Tryd.func32 rfl (by kernel_rfl) (by decide) fun w0 S x r hw h => ?_
 have hF : FrOK (fr Tryd.prog (EM l_nat_Left) S w0 Tryd.f32.ntmps) := ⟨EM_ok K_nat_Left, mix⟩
 obtain ⟨(a_0 : (List Nat)), (n_1 : Int), u⟩ := x
 simp only [a_nat_Left, Ty.wf, fits64] at hw
 simp only [args0, a_nat_Left]
 try dsimp only at h
 unfold m_nat_Left at h
 refine tri_seq (tri_region hF [0, 1] ?_)
 simp only [go_sem]
 refine at_next (tri_seq (tri_seq (tri_region hF [0, 1, 10] ?_)))
 simp only [go_sem]
 refine at_next (tri_cond rfl (fun hc => ?_) (fun hc => ?_))
 ·try simp only [go_sem] at hc
  have h := ite_T (by first | exact hc | omega | (simpa using hc) | (simp at hc ⊢; omega)) h
  refine tri_seq (tri_region hF [4] ?_)
  simp only [go_sem]
  obtain rfl := Option.some.inj h
  refine at_next (tri_ret (at_then_ret (at_retC hF [.tmp 4] rfl rfl rfl ?_)))
  (try simp only [retOK, resE, go_sem]) <;> first | rfl | (simp; done)
 ·try simp only [go_sem] at hc
  have h := ite_F (by first | exact hc | omega | (simpa using hc) | (simp at hc ⊢; omega)) h
  refine tri_skip (at_next (tri_seq (tri_regionB hF [0, 1, 5] ?_)))
  simp only [go_sem]
  obtain ⟨g0, h⟩ := ck_some h
  try simp only [I64, I32] at g0
  repeat (refine ⟨by first | with_reducible assumption | omega | (intros; first | assumption | omega) | (simp only [go_sem] at *; first | assumption | omega) | decide, ?_⟩)
  obtain ⟨g0, h⟩ := ck_some h
  try simp only [I64, I32] at g0
  repeat (refine ⟨by first | with_reducible assumption | omega | (intros; first | assumption | omega) | (simp only [go_sem] at *; first | assumption | omega) | decide, ?_⟩)
  obtain ⟨g0, h⟩ := ck_some h
  try simp only [I64, I32] at g0
  repeat (refine ⟨by first | with_reducible assumption | omega | (intros; first | assumption | omega) | (simp only [go_sem] at *; first | assumption | omega) | decide, ?_⟩)
  obtain ⟨g0, h⟩ := ck_some h
  obtain ⟨g1, h⟩ := ck_some h
  repeat (refine ⟨by first | with_reducible assumption | omega | (intros; first | assumption | omega) | (simp only [go_sem] at *; first | assumption | omega) | decide, ?_⟩)
  refine at_next (tri_seq (tri_seq (tri_region hF [1, 5, 18, 19, 20] ?_)))
  simp only [go_sem]
  refine at_next (tri_block (tri_loopM (D := Int × (List Nat)) [1, 18, 19] (fun d => [(5, .own 0), (20, .val (.i .i64) d.1)]) (fun d => [.inr (.row 48 (.u .u64) d.2)]) h ?_ ?_ ?_))
  ·first | rfl | (simp only [go_sem]; done)
  ·(try simp only [fitE, fitV, true_or, and_self, go_sem]) <;> (repeat' apply And.intro) <;> first | rfl | (left; rfl) | (right; rfl) | (left; simp only [go_sem]; done) | (right; simp only [go_sem]; done) | (simp; done) | (simp only [*]; done) | omega
  rintro ⟨x20_7, out_8⟩ s5 h hs5
  simp only [go_sem]
  try dsimp only at h
  unfold m_nat_Left_l5 at h
  refine tri_seq (tri_region hF [1, 5, 18, 19, 20, 21] ?_)
  simp only [go_sem]
  refine at_next (tri_seq (tri_cond rfl (fun hc => ?_) (fun hc => ?_)))
  ·try simp only [go_sem] at hc
   have h := ite_T (by first | exact hc | omega | (simpa using hc) | (simp at hc ⊢; omega)) h
   refine tri_skip (at_next (tri_seq (tri_block (tri_seq (tri_region hF [1, 5, 6, 7, 18, 19, 20] ?_)))))
   simp only [go_sem]
   obtain ⟨g0, h⟩ := ck_some h
   repeat (refine ⟨by first | with_reducible assumption | omega | (intros; first | assumption | omega) | (simp only [go_sem] at *; first | assumption | omega) | decide, ?_⟩)
   refine at_next (tri_seq (tri_regionB hF [1, 5, 6, 7, 18, 19, 20] ?_))
   simp only [go_sem]
   obtain ⟨g0, h⟩ := ck_some h
   try simp only [I64, I32] at g0
   repeat (refine ⟨by first | with_reducible assumption | omega | (intros; first | assumption | omega) | (simp only [go_sem] at *; first | assumption | omega) | decide, ?_⟩)
   obtain ⟨g0, h⟩ := ck_some h
   try simp only [I64, I32] at g0
   repeat (refine ⟨by first | with_reducible assumption | omega | (intros; first | assumption | omega) | (simp only [go_sem] at *; first | assumption | omega) | decide, ?_⟩)
   obtain ⟨g0, h⟩ := ck_some h
   repeat (refine ⟨by first | with_reducible assumption | omega | (intros; first | assumption | omega) | (simp only [go_sem] at *; first | assumption | omega) | decide, ?_⟩)
   obtain ⟨g0, h⟩ := ck_some h
   repeat (refine ⟨by first | with_reducible assumption | omega | (intros; first | assumption | omega) | (simp only [go_sem] at *; first | assumption | omega) | decide, ?_⟩)
   refine at_next (tri_regionB hF [1, 5, 18, 19, 20] ?_)
   simp only [go_sem]
   obtain ⟨g0, h⟩ := ck_some h
   try simp only [I64, I32] at g0
   repeat (refine ⟨by first | with_reducible assumption | omega | (intros; first | assumption | omega) | (simp only [go_sem] at *; first | assumption | omega) | decide, ?_⟩)
   obtain ⟨g0, h⟩ := ck_some h
   try simp only [I64, I32] at g0
   repeat (refine ⟨by first | with_reducible assumption | omega | (intros; first | assumption | omega) | (simp only [go_sem] at *; first | assumption | omega) | decide, ?_⟩)
   obtain ⟨g0, h⟩ := ck_some h
   try simp only [I64, I32] at g0
   repeat (refine ⟨by first | with_reducible assumption | omega | (intros; first | assumption | omega) | (simp only [go_sem] at *; first | assumption | omega) | decide, ?_⟩)
   obtain ⟨g0, h⟩ := ck_some h
   repeat (refine ⟨by first | with_reducible assumption | omega | (intros; first | assumption | omega) | (simp only [go_sem] at *; first | assumption | omega) | decide, ?_⟩)
   obtain ⟨g0, h⟩ := ck_some h
   try simp only [I64, I32] at g0
   repeat (refine ⟨by first | with_reducible assumption | omega | (intros; first | assumption | omega) | (simp only [go_sem] at *; first | assumption | omega) | decide, ?_⟩)
   obtain ⟨g0, h⟩ := ck_some h
   repeat (refine ⟨by first | with_reducible assumption | omega | (intros; first | assumption | omega) | (simp only [go_sem] at *; first | assumption | omega) | decide, ?_⟩)
   refine at_block_norm (at_next (tri_region hF [1, 5, 18, 19, 20] ?_))
   simp only [go_sem]
   obtain ⟨g0, h⟩ := ck_some h
   try simp only [I64, I32] at g0
   repeat (refine ⟨by first | with_reducible assumption | omega | (intros; first | assumption | omega) | (simp only [go_sem] at *; first | assumption | omega) | decide, ?_⟩)
   obtain rfl := Option.some.inj h
   dsimp only [stepQ] at hs5
   refine at_then_norm (at_fit (((x20_7 + (1 : Int)), ((out_8.set (((Int.tdiv n_1 (64 : Int)) + x20_7).toNat) ((out_8.getD (((Int.tdiv n_1 (64 : Int)) + x20_7).toNat) (0 : Nat)) ||| (((a_0.getD (x20_7.toNat) (0 : Nat)) * (2 ^ (((Int.tmod n_1 (64 : Int)) % (18446744073709551616 : Int)).toNat))) % 18446744073709551616))).set ((((Int.tdiv n_1 (64 : Int)) + x20_7) + (1 : Int)).toNat) (((out_8.set (((Int.tdiv n_1 (64 : Int)) + x20_7).toNat) ((out_8.getD (((Int.tdiv n_1 (64 : Int)) + x20_7).toNat) (0 : Nat)) ||| (((a_0.getD (x20_7.toNat) (0 : Nat)) * (2 ^ (((Int.tmod n_1 (64 : Int)) % (18446744073709551616 : Int)).toNat))) % 18446744073709551616))).getD ((((Int.tdiv n_1 (64 : Int)) + x20_7) + (1 : Int)).toNat) (0 : Nat)) ||| (((a_0.getD (x20_7.toNat) (0 : Nat)) / (2 : Nat)) / (2 ^ ((((63 : Int) - (Int.tmod n_1 (64 : Int))) % (18446744073709551616 : Int)).toNat))))))) hs5 rfl ?_)
   ·(try simp only [fitE, fitV, true_or, and_self, go_sem]) <;> (repeat' apply And.intro) <;> first | rfl | (left; rfl) | (right; rfl) | (left; simp only [go_sem]; done) | (right; simp only [go_sem]; done) | (simp; done) | (simp only [*]; done) | omega
  ·try simp only [go_sem] at hc
   have h := ite_F (by first | exact hc | omega | (simpa using hc) | (simp at hc ⊢; omega)) h
   obtain rfl := Option.some.inj h
   dsimp only [stepQ] at hs5
   have h := hs5
   try dsimp only at h
   refine tri_exit (at_then_exit (at_then_exit (at_block_exit (at_next (tri_seq (tri_regionB hF [4] ?_))))))
   simp only [go_sem]
   obtain rfl := Option.some.inj h
   refine at_next (tri_ret (at_retC hF [.tmp 4] rfl rfl rfl ?_))
   (try simp only [retOK, resE, go_sem]) <;> first | rfl | (simp; done)
theorem ok_nat_Left : FOK Tryd.prog GL 32 sp_nat_Left := fok_clean om_nat_Left (fun ⟨x0, x1, u⟩ ⟨w0, w1, wu⟩ hp => law_nat_Left x0 w0 x1 w1 hp)
def a_nat_Right : Ty := .pair (.sl (.u .u64)) (.pair (.i .i64) .unit)
noncomputable def sp_nat_Right : FSpec := ⟨a_nat_Right, .one (.sl (.u .u64)), fun x => pRight x.1 x.2.1, fun x => f_nat_Right x.1 x.2.1⟩
attribute [go_sem] sp_nat_Right a_nat_Right
noncomputable def sm_nat_Right : FSpec := mSpec a_nat_Right (.one (.sl (.u .u64))) (fun x => m_nat_Right x.1 x.2.1)
noncomputable def l_nat_Right : List (FuncId × FSpec) := [(62, sp_nat_trim)]
theorem K_nat_Right : Known Tryd.prog GL l_nat_Right := .cons ok_nat_trim (by kernel_rfl) (.nil)
theorem l_nat_Right_62 : gam l_nat_Right 62 = some sp_nat_trim := rfl
attribute [go_sem] l_nat_Right_62
set_option maxHeartbeats 4000000 in
theorem om_nat_Right : FOK Tryd.prog GL 34 sm_nat_Right := by
 refine fok_model (EM_ok K_nat_Right) Tryd.func34 rfl (by kernel_rfl) (by decide) fun w0 S x r hw h => ?_
 have hF : FrOK (fr Tryd.prog (EM l_nat_Right) S w0 Tryd.f34.ntmps) := ⟨EM_ok K_nat_Right, mix⟩
 obtain ⟨(a_0 : (List Nat)), (n_1 : Int), u⟩ := x
 simp only [a_nat_Right, Ty.wf, fits64] at hw
 simp only [args0, a_nat_Right]
 try dsimp only at h
 unfold m_nat_Right at h
 refine tri_seq (tri_region hF [0, 1] ?_)
 simp only [go_sem]
 refine at_next (tri_seq (tri_seq (tri_region hF [0, 1, 12] ?_)))
 simp only [go_sem]
 obtain ⟨g0, h⟩ := ck_some h
 try simp only [I64, I32] at g0
 repeat (refine ⟨by first | with_reducible assumption | omega | (intros; first | assumption | omega) | (simp only [go_sem] at *; first | assumption | omega) | decide, ?_⟩)
 refine at_next (tri_cond rfl (fun hc => ?_) (fun hc => ?_))
 ·try simp only [go_sem] at hc
  have h := ite_T (by first | exact hc | omega | (simpa using hc) | (simp at hc ⊢; omega)) h
  refine tri_seq (tri_region hF [4] ?_)
  simp only [go_sem]
  obtain rfl := Option.some.inj h
  refine at_next (tri_ret (at_then_ret (at_retC hF [.tmp 4] rfl rfl rfl ?_)))
  (try simp only [retOK, resE, go_sem]) <;> first | rfl | (simp; done)
 ·try simp only [go_sem] at hc
  have h := ite_F (by first | exact hc | omega | (simpa using hc) | (simp at hc ⊢; omega)) h
  refine tri_skip (at_next (tri_seq (tri_region hF [0, 1] ?_)))
  simp only [go_sem]
  obtain ⟨g0, h⟩ := ck_some h
  obtain ⟨g1, h⟩ := ck_some h
  try simp only [I64, I32] at g0
  repeat (refine ⟨by first | with_reducible assumption | omega | (intros; first | assumption | omega) | (simp only [go_sem] at *; first | assumption | omega) | decide, ?_⟩)
  refine at_next (tri_seq (tri_regionB hF [0, 1, 5] ?_))
  simp only [go_sem]
  obtain ⟨g0, h⟩ := ck_some h
  obtain ⟨g1, h⟩ := ck_some h
  repeat (refine ⟨by first | with_reducible assumption | omega | (intros; first | assumption | omega) | (simp only [go_sem] at *; first | assumption | omega) | decide, ?_⟩)
  refine at_next (tri_seq (tri_seq (tri_region hF [0, 1, 5, 20, 21, 22] ?_)))
  simp only [go_sem]
  refine at_next (tri_block (tri_loopM (D := Int × (List Nat)) [0, 1, 20, 21] (fun d => [(5, .own 0), (22, .val (.i .i64) d.1)]) (fun d => [.inr (.row 48 (.u .u64) d.2)]) h ?_ ?_ ?_))
  ·first | rfl | (simp only [go_sem]; done)
  ·(try simp only [fitE, fitV, true_or, and_self, go_sem]) <;> (repeat' apply And.intro) <;> first | rfl | (left; rfl) | (right; rfl) | (left; simp only [go_sem]; done) | (right; simp only [go_sem]; done) | (simp; done) | (simp only [*]; done) | omega
  rintro ⟨x22_10, out_11⟩ s6 h hs6
  simp only [go_sem]
  try dsimp only at h
  unfold m_nat_Right_l6 at h
  refine tri_seq (tri_region hF [0, 1, 5, 20, 21, 22, 23] ?_)
  simp only [go_sem]
  refine at_next (tri_seq (tri_cond rfl (fun hc => ?_) (fun hc => ?_)))
  ·try simp only [go_sem] at hc
   have h := ite_T (by first | exact hc | omega | (simpa using hc) | (simp at hc ⊢; omega)) h
   refine tri_skip (at_next (tri_seq (tri_block (tri_seq (tri_region hF [0, 1, 5, 6, 7, 20, 21, 22] ?_)))))
   simp only [go_sem]
   obtain ⟨g0, h⟩ := ck_some h
   repeat (refine ⟨by first | with_reducible assumption | omega | (intros; first | assumption | omega) | (simp only [go_sem] at *; first | assumption | omega) | decide, ?_⟩)
   refine at_next (tri_seq (tri_regionB hF [0, 1, 5, 6, 20, 21, 22] ?_))
   simp only [go_sem]
   obtain ⟨g0, h⟩ := ck_some h
   repeat (refine ⟨by first | with_reducible assumption | omega | (intros; first | assumption | omega) | (simp only [go_sem] at *; first | assumption | omega) | decide, ?_⟩)
   refine at_next (tri_seq (tri_region hF [0, 1, 5, 6, 20, 21, 22, 39] ?_))
   simp only [go_sem]
   obtain ⟨g0, h⟩ := ck_some h
   try simp only [I64, I32] at g0
   repeat (refine ⟨by first | with_reducible assumption | omega | (intros; first | assumption | omega) | (simp only [go_sem] at *; first | assumption | omega) | decide, ?_⟩)
   refine at_next (tri_cond rfl (fun hc => ?_) (fun hc => ?_))
   ·try simp only [go_sem] at hc
    have h := ite_T (by first | exact hc | omega | (simpa using hc) | (simp at hc ⊢; omega)) h
    refine tri_regionC hF 17 (by decide) [0, 1, 5, 20, 21, 22] ?_
    simp only [go_sem]
    obtain ⟨g0, h⟩ := ck_some h
    obtain ⟨g1, h⟩ := ck_some h
    obtain ⟨g2, h⟩ := ck_some h
    obtain ⟨g3, h⟩ := ck_some h
    obtain ⟨g4, h⟩ := ck_some h
    try simp only [I64, I32] at g1
    try simp only [I64, I32] at g3
    repeat (refine ⟨by first | with_reducible assumption | omega | (intros; first | assumption | omega) | (simp only [go_sem] at *; first | assumption | omega) | decide, ?_⟩)
    simp only [contC, go_sem]
    repeat (refine ⟨by first | with_reducible assumption | omega | (intros; first | assumption | omega) | (simp only [go_sem] at *; first | assumption | omega) | decide, ?_⟩)
    refine at_block_norm (at_next (tri_region hF [0, 1, 5, 20, 21, 22] ?_))
    simp only [go_sem]
    obtain ⟨g0, h⟩ := ck_some h
    try simp only [I64, I32] at g0
    repeat (refine ⟨by first | with_reducible assumption | omega | (intros; first | assumption | omega) | (simp only [go_sem] at *; first | assumption | omega) | decide, ?_⟩)
    obtain rfl := Option.some.inj h
    dsimp only [stepQ] at hs6
    refine at_then_norm (at_fit (((x22_10 + (1 : Int)), ((out_11.set (x22_10.toNat) (((List.drop ((Int.tdiv n_1 (64 : Int)).toNat) a_0).getD (x22_10.toNat) (0 : Nat)) / (2 ^ (((Int.tmod n_1 (64 : Int)) % (18446744073709551616 : Int)).toNat)))).set (x22_10.toNat) (((out_11.set (x22_10.toNat) (((List.drop ((Int.tdiv n_1 (64 : Int)).toNat) a_0).getD (x22_10.toNat) (0 : Nat)) / (2 ^ (((Int.tmod n_1 (64 : Int)) % (18446744073709551616 : Int)).toNat)))).getD (x22_10.toNat) (0 : Nat)) ||| ((((((List.drop ((Int.tdiv n_1 (64 : Int)).toNat) a_0).getD ((x22_10 + (1 : Int)).toNat) (0 : Nat)) * (2 : Nat)) % 18446744073709551616) * (2 ^ ((((63 : Int) - (Int.tmod n_1 (64 : Int))) % (18446744073709551616 : Int)).toNat))) % 18446744073709551616))))) hs6 rfl ?_)
    ·(try simp only [fitE, fitV, true_or, and_self, go_sem]) <;> (repeat' apply And.intro) <;> first | rfl | (left; rfl) | (right; rfl) | (left; simp only [go_sem]; done) | (right; simp only [go_sem]; done) | (simp; done) | (simp only [*]; done) | omega
   ·try simp only [go_sem] at hc
    have h := ite_F (by first | exact hc | omega | (simpa using hc) | (simp at hc ⊢; omega)) h
    refine tri_skip (at_block_norm (at_next (tri_region hF [0, 1, 5, 20, 21, 22] ?_)))
    simp only [go_sem]
    obtain ⟨g0, h⟩ := ck_some h
    try simp only [I64, I32] at g0
    repeat (refine ⟨by first | with_reducible assumption | omega | (intros; first | assumption | omega) | (simp only [go_sem] at *; first | assumption | omega) | decide, ?_⟩)
    obtain rfl := Option.some.inj h
    dsimp only [stepQ] at hs6
    refine at_then_norm (at_fit (((x22_10 + (1 : Int)), (out_11.set (x22_10.toNat) (((List.drop ((Int.tdiv n_1 (64 : Int)).toNat) a_0).getD (x22_10.toNat) (0 : Nat)) / (2 ^ (((Int.tmod n_1 (64 : Int)) % (18446744073709551616 : Int)).toNat)))))) hs6 rfl ?_)
    ·(try simp only [fitE, fitV, true_or, and_self, go_sem]) <;> (repeat' apply And.intro) <;> first | rfl | (left; rfl) | (right; rfl) | (left; simp only [go_sem]; done) | (right; simp only [go_sem]; done) | (simp; done) | (simp only [*]; done) | omega
  ·try simp only [go_sem] at hc
   have h := ite_F (by first | exact hc | omega | (simpa using hc) | (simp at hc ⊢; omega)) h
   obtain rfl := Option.some.inj h
   dsimp only [stepQ] at hs6
   have h := hs6
   try dsimp only at h
   refine tri_exit (at_then_exit (at_then_exit (at_block_exit (at_next (tri_seq (tri_regionB hF [4] ?_))))))
   simp only [go_sem]
   obtain rfl := Option.some.inj h
   refine at_next (tri_ret (at_retC hF [.tmp 4] rfl rfl rfl ?_))
   (try simp only [retOK, resE, go_sem]) <;> first | rfl | (simp; done)
theorem ok_nat_Right : FOK Tryd.prog GL 34 sp_nat_Right := fok_clean om_nat_Right (fun ⟨x0, x1, u⟩ ⟨w0, w1, wu⟩ hp => law_nat_Right x0 w0 x1 w1 hp)
end Nu
end Go.Proofs
