/-
  An interpreter of the model's code, proved sound (part 2 of 4): no program text.
-/
import Derived.Test.YtciibdkdgjifiaaGreatDoorZL1
import Derived.Laws.BytesString
import Derived.Laws.MakeOwn
import Derived.Laws.IdiomStrings
import Derived.Laws.IdiomCopy
import Derived.MapKept
import Derived.Deep.AppendSrc
set_option linter.unusedVariables false
set_option linter.unusedSimpArgs false
namespace Go.It
open Go.RowKit
open Go.Vc (Keeps cellsAt)
set_option linter.unusedVariables false
set_option linter.constructorNameAsVariable false
section
variable {k : IntKind} {a b : Nat}
theorem pow_pos' (k : IntKind) : (0 : Int) < 2 ^ k.bits := by exact_mod_cast Nat.two_pow_pos k.bits
theorem cast_pow (k : IntKind) : ((2 ^ k.bits : Nat) : Int) = (2 : Int) ^ k.bits := by norm_cast
theorem wrap_add : k.wrap (dec k a + dec k b) = dec k ((a + b) % 2 ^ k.bits) := by
  rw [wrap_dec]
  congr 1
  rw [← enc_nat]
  apply enc_congr
  rw [Int.add_emod, dec_mod, dec_mod, ← Int.add_emod]
  push_cast; rfl
theorem wrap_sub (hb : b < 2 ^ k.bits) : k.wrap (dec k a - dec k b) = dec k ((a + (2 ^ k.bits - b)) % 2 ^ k.bits) := by
  rw [wrap_dec]
  congr 1
  rw [← enc_nat]
  apply enc_congr
  rw [Int.sub_emod, dec_mod, dec_mod, ← Int.sub_emod]
  have : ((a + (2 ^ k.bits - b) : Nat) : Int) = ((a : Int) - b) + 2 ^ k.bits := by
    have h := cast_pow k
    omega
  rw [this, Int.add_emod_right]
theorem wrap_mul : k.wrap (dec k a * dec k b) = dec k ((a * b) % 2 ^ k.bits) := by
  rw [wrap_dec]
  congr 1
  rw [← enc_nat]
  apply enc_congr
  rw [Int.mul_emod, dec_mod, dec_mod, ← Int.mul_emod]
  push_cast; rfl
theorem wrap_nat' (ha : a < 2 ^ k.bits) : k.wrap (a : Int) = dec k a := by
  rw [wrap_dec, enc_nat, Nat.mod_eq_of_lt ha]
theorem ofInt_dec (ha : a < 2 ^ k.bits) : (BitVec.ofInt k.bits (dec k a)).toNat = a := by
  rw [BitVec.toNat_ofInt, cast_pow, dec_mod]
  have : (a : Int) % 2 ^ k.bits = a := Int.emod_eq_of_lt (by omega) (by rw [← cast_pow]; exact_mod_cast ha)
  rw [this]; rfl
theorem dec_inj (ha : a < 2 ^ k.bits) (hb : b < 2 ^ k.bits) : dec k a = dec k b ↔ a = b := by
  constructor
  · intro h
    have := congrArg (enc k) h
    rwa [enc_dec ha, enc_dec hb] at this
  · intro h; rw [h]
theorem dec_order (hs : k.signed = true) (ha : a < 2 ^ k.bits) : dec k a = (((a + 2 ^ (k.bits - 1)) % 2 ^ k.bits : Nat) : Int) - 2 ^ (k.bits - 1) := by
  have hh := two_half k
  have hc := cast_pow k
  have hc2 : ((2 ^ (k.bits - 1) : Nat) : Int) = (2 : Int) ^ (k.bits - 1) := by norm_cast
  unfold dec
  by_cases h : 2 ^ (k.bits - 1) ≤ a
  · simp only [hs, h, decide_true, Bool.and_self, if_true]
    have : (a + 2 ^ (k.bits - 1)) % 2 ^ k.bits = a - 2 ^ (k.bits - 1) := by
      rw [show a + 2 ^ (k.bits - 1) = (a - 2 ^ (k.bits - 1)) + 2 ^ k.bits from by omega, Nat.add_mod_right, Nat.mod_eq_of_lt (by omega)]
    rw [this]
    omega
  · simp only [hs, h, decide_false, Bool.and_false, Bool.false_eq_true, if_false]
    rw [Nat.mod_eq_of_lt (by omega)]
    omega
theorem lt_dec (hs : k.signed = true) (ha : a < 2 ^ k.bits) (hb : b < 2 ^ k.bits) : dec k a < dec k b ↔ (a + 2 ^ (k.bits - 1)) % 2 ^ k.bits < (b + 2 ^ (k.bits - 1)) % 2 ^ k.bits := by
  rw [dec_order hs ha, dec_order hs hb]; omega
theorem le_dec (hs : k.signed = true) (ha : a < 2 ^ k.bits) (hb : b < 2 ^ k.bits) : dec k a ≤ dec k b ↔ (a + 2 ^ (k.bits - 1)) % 2 ^ k.bits ≤ (b + 2 ^ (k.bits - 1)) % 2 ^ k.bits := by
  rw [dec_order hs ha, dec_order hs hb]; omega
end
def N2 (op : BinOp) (k : IntKind) (g : NF) : Prop := ∀ (a b : Nat) (c : V → Bool), g a b c = true → ∃ v, c v = true ∧ (a < 2 ^ k.bits → b < 2 ^ k.bits → ∀ (P : Program) (t : TypeId) (w : World) (ρ : Rho), ∃ x, (binOp op t (.int k (dec k a)) (.int k (dec k b))).run P w = .ok x w ∧ VR ρ v x)
theorem N2.num {op : BinOp} {k : IntKind} {mk : Nat → V} (hm : ∀ (ρ : Rho) (n : Nat) (x : Value), VR ρ (mk n) x ↔ (x = .int k (dec k n) ∧ n < 2 ^ k.bits)) {g : NF} {r : Nat → Nat → Nat} (hg : ∀ a b c, g a b c = true → c (mk (r a b)) = true ∧ (op = .quo ∨ op = .rem → b ≠ 0))
    (hr : ∀ a b, a < 2 ^ k.bits → b < 2 ^ k.bits → (op = .quo ∨ op = .rem → b ≠ 0) → r a b < 2 ^ k.bits ∧ ∀ (P : Program) (t : TypeId) (w : World), (binOp op t (.int k (dec k a)) (.int k (dec k b))).run P w = .ok (.int k (dec k (r a b))) w) : N2 op k g := fun a b c h => by
  obtain ⟨h1, h2⟩ := hg a b c h
  refine ⟨_, h1, fun ha hb P t w ρ => ?_⟩
  obtain ⟨h3, h4⟩ := hr a b ha hb h2
  exact ⟨_, h4 P t w, (hm ρ _ _).2 ⟨rfl, h3⟩⟩
theorem nz_of {k : IntKind} {b : Nat} (hb : b < 2 ^ k.bits) (h : b ≠ 0) : dec k b ≠ 0 := fun e => by
  have e0 : dec k b = dec k 0 := by rw [e, dec_small (.inr (half_pos k))]; rfl
  exact h ((dec_inj hb (Nat.two_pow_pos _)).1 e0)
theorem tmod_range {k : IntKind} {x y : Int} (h1 : k.min ≤ x) (h2 : x ≤ k.max) (h0 : k.min ≤ 0) (h3 : 0 ≤ k.max) : k.min ≤ x.tmod y ∧ x.tmod y ≤ k.max := by
  by_cases hx : 0 ≤ x
  · have a1 : 0 ≤ x.tmod y := Int.tmod_nonneg y hx
    have a2 : x.tmod y ≤ x := by
      have := Int.natAbs_tmod x y
      have := Nat.mod_le x.natAbs y.natAbs
      omega
    omega
  · have a1 : (-x).tmod y = - x.tmod y := Int.neg_tmod ..
    have a2 : 0 ≤ (-x).tmod y := Int.tmod_nonneg y (by omega)
    have a3 := Int.natAbs_tmod x y
    have a4 := Nat.mod_le x.natAbs y.natAbs
    omega
theorem min_le0 (k : IntKind) : k.min ≤ 0 ∧ 0 ≤ k.max := by
  have := dec_lt (k := k) (n := 0) (Nat.two_pow_pos _)
  rw [dec_small (.inr (half_pos k))] at this
  exact this
theorem slow_fast {c : V → Bool} {mk : Nat → V} {b h a f z : Nat} {P : Prop} (hx : (bif Nat.beq b 0 then false else bif Nat.blt a h then (bif Nat.blt b h then c (mk f) else c (mk z)) else c (mk z)) = true) (he : a < h → b < h → f = z) : c (mk z) = true ∧ b ≠ 0 := by
  cases hb : Nat.beq b 0
  · rw [hb] at hx
    refine ⟨?_, fun e => by subst e; cases hb⟩
    cases h1 : Nat.blt a h
    · rw [h1] at hx; exact hx
    · rw [h1] at hx
      cases h2 : Nat.blt b h
      · rw [h2] at hx; exact hx
      · rw [h2] at hx
        rw [← he (by simpa using h1) (by simpa using h2)]; exact hx
  · rw [hb] at hx; cases hx
theorem N2.bool {op : BinOp} {k : IntKind} {g : NF} {r : Nat → Nat → Bool} (hg : ∀ a b c, g a b c = c (.b (r a b)))
    (hr : ∀ a b, a < 2 ^ k.bits → b < 2 ^ k.bits → ∀ (P : Program) (t : TypeId) (w : World), (binOp op t (.int k (dec k a)) (.int k (dec k b))).run P w = .ok (.bool (r a b)) w) : N2 op k g := fun a b c h => by
  rw [hg] at h
  exact ⟨_, h, fun ha hb P t w ρ => ⟨_, hr a b ha hb P t w, by simp only [VR]⟩⟩
theorem bLt_eq (k : IntKind) (m h : Nat) : bLt k m h = .mk fun a b c => c (.b (bif k.signed then Nat.blt ((a + h) % m) ((b + h) % m) else Nat.blt a b)) := by
  unfold bLt; cases k.signed <;> rfl
theorem bLe_eq (k : IntKind) (m h : Nat) : bLe k m h = .mk fun a b c => c (.b (bif k.signed then Nat.ble ((a + h) % m) ((b + h) % m) else Nat.ble a b)) := by
  unfold bLe; cases k.signed <;> rfl
theorem blt_dec {k : IntKind} {a b : Nat} (ha : a < 2 ^ k.bits) (hb : b < 2 ^ k.bits) : (bif k.signed then Nat.blt ((a + 2 ^ (k.bits - 1)) % 2 ^ k.bits) ((b + 2 ^ (k.bits - 1)) % 2 ^ k.bits) else Nat.blt a b) = decide (dec k a < dec k b) := by
  rw [Bool.eq_iff_iff, decide_eq_true_eq]
  cases hs : k.signed
  · rw [dec_small (.inl hs), dec_small (.inl hs)]
    simp
  · rw [lt_dec hs ha hb]
    simp
theorem ble_dec {k : IntKind} {a b : Nat} (ha : a < 2 ^ k.bits) (hb : b < 2 ^ k.bits) : (bif k.signed then Nat.ble ((a + 2 ^ (k.bits - 1)) % 2 ^ k.bits) ((b + 2 ^ (k.bits - 1)) % 2 ^ k.bits) else Nat.ble a b) = decide (dec k a ≤ dec k b) := by
  rw [Bool.eq_iff_iff, decide_eq_true_eq]
  cases hs : k.signed
  · rw [dec_small (.inl hs), dec_small (.inl hs)]
    simp
  · rw [le_dec hs ha hb]
    simp
theorem bin2_ok {op : BinOp} {k : IntKind} {g : NF} (h : bin2 op k = some (.mk g)) : N2 op k g := by
  obtain ⟨mk, hk, hm⟩ := mk_ok k
  have hp := Nat.two_pow_pos k.bits
  have hh := two_half k
  have hhp := half_pos k
  unfold bin2 at h
  rw [hk, unb_mk, mdB_eq, unb_mk, hfB_eq, unb_mk] at h
  cases op <;> simp only [Option.some.injEq, reduceCtorEq] at h
  case add =>
    cases h
    exact N2.num hm (r := fun a b => (a + b) % 2 ^ k.bits) (fun a b c h => ⟨h, by simp⟩) fun a b ha hb _ => ⟨Nat.mod_lt _ hp, fun P t w => by simp [binOp, Op.intArith, wrap_add]⟩
  case sub =>
    cases h
    exact N2.num hm (r := fun a b => (a + (2 ^ k.bits - b)) % 2 ^ k.bits) (fun a b c h => ⟨h, by simp⟩) fun a b ha hb _ => ⟨Nat.mod_lt _ hp, fun P t w => by simp [binOp, Op.intArith, wrap_sub hb]⟩
  case mul =>
    cases h
    exact N2.num hm (r := fun a b => (a * b) % 2 ^ k.bits) (fun a b c h => ⟨h, by simp⟩) fun a b ha hb _ => ⟨Nat.mod_lt _ hp, fun P t w => by simp [binOp, Op.intArith, wrap_mul]⟩
  case quo =>
    have gen : ∀ a b : Nat, b < 2 ^ k.bits → b ≠ 0 → ∀ (P : Program) (t : TypeId) (w : World), (binOp .quo t (.int k (dec k a)) (.int k (dec k b))).run P w = .ok (.int k (dec k (enc k ((dec k a).tdiv (dec k b))))) w := fun a b hb h0 P t w => by
      simp [binOp, Op.intDiv, nz_of hb h0, wrap_dec]
    have fast : ∀ a b : Nat, (k.signed = false ∨ a < 2 ^ (k.bits - 1)) → (k.signed = false ∨ b < 2 ^ (k.bits - 1)) → a < 2 ^ k.bits → a / b = enc k ((dec k a).tdiv (dec k b)) := fun a b h1 h2 ha => by
      rw [dec_small h1, dec_small h2, ← Int.ofNat_tdiv, enc_nat, Nat.mod_eq_of_lt (Nat.lt_of_le_of_lt (Nat.div_le_self _ _) ha)]
    unfold bQuo at h
    cases hs : k.signed
    · rw [hs] at h
      cases h
      refine N2.num hm (r := fun a b => a / b) (fun a b c h => ?_) fun a b ha hb h0 => ⟨Nat.lt_of_le_of_lt (Nat.div_le_self _ _) ha, fun P t w => ?_⟩
      · cases hb : Nat.beq b 0
        · simp only [hb] at h
          exact ⟨h, fun _ e => by subst e; cases hb⟩
        · simp only [hb] at h; cases h
      · rw [gen a b hb (h0 (.inl rfl)), ← fast a b (.inl hs) (.inl hs) ha]
    · rw [hs] at h
      cases h
      refine N2.num hm (r := fun a b => enc k ((dec k a).tdiv (dec k b))) (fun a b c h => ?_) fun a b ha hb h0 => ⟨enc_lt _ _, fun P t w => gen a b hb (h0 (.inl rfl)) P t w⟩
      have := slow_fast (P := True) h fun h1 h2 => fast a b (.inr h1) (.inr h2) (by omega)
      exact ⟨this.1, fun _ => this.2⟩
  case rem =>
    have gen : ∀ a b : Nat, a < 2 ^ k.bits → b < 2 ^ k.bits → b ≠ 0 → ∀ (P : Program) (t : TypeId) (w : World), (binOp .rem t (.int k (dec k a)) (.int k (dec k b))).run P w = .ok (.int k (dec k (enc k ((dec k a).tmod (dec k b))))) w := fun a b ha hb h0 P t w => by
      have hr := tmod_range (y := dec k b) (dec_lt ha).1 (dec_lt ha).2 (min_le0 k).1 (min_le0 k).2
      simp [binOp, Op.intDiv, nz_of hb h0, dec_enc hr.1 hr.2]
    have fast : ∀ a b : Nat, (k.signed = false ∨ a < 2 ^ (k.bits - 1)) → (k.signed = false ∨ b < 2 ^ (k.bits - 1)) → a < 2 ^ k.bits → a % b = enc k ((dec k a).tmod (dec k b)) := fun a b h1 h2 ha => by
      rw [dec_small h1, dec_small h2, ← Int.ofNat_tmod, enc_nat, Nat.mod_eq_of_lt (Nat.lt_of_le_of_lt (Nat.mod_le _ _) ha)]
    unfold bRem at h
    cases hs : k.signed
    · rw [hs] at h
      cases h
      refine N2.num hm (r := fun a b => a % b) (fun a b c h => ?_) fun a b ha hb h0 => ⟨Nat.lt_of_le_of_lt (Nat.mod_le _ _) ha, fun P t w => ?_⟩
      · cases hb : Nat.beq b 0
        · simp only [hb] at h
          exact ⟨h, fun _ e => by subst e; cases hb⟩
        · simp only [hb] at h; cases h
      · rw [gen a b ha hb (h0 (.inr rfl)), ← fast a b (.inl hs) (.inl hs) ha]
    · rw [hs] at h
      cases h
      refine N2.num hm (r := fun a b => enc k ((dec k a).tmod (dec k b))) (fun a b c h => ?_) fun a b ha hb h0 => ⟨enc_lt _ _, fun P t w => gen a b ha hb (h0 (.inr rfl)) P t w⟩
      have := slow_fast (P := True) h fun h1 h2 => fast a b (.inr h1) (.inr h2) (by omega)
      exact ⟨this.1, fun _ => this.2⟩
  case and =>
    cases h
    exact N2.num hm (r := fun a b => a &&& b) (fun a b c h => ⟨h, by simp⟩) fun a b ha hb _ => by
      have hl : a &&& b < 2 ^ k.bits := Nat.and_lt_two_pow _ hb
      exact ⟨hl, fun P t w => by simp [binOp, Op.intBits, BitVec.toNat_and, ofInt_dec ha, ofInt_dec hb, wrap_nat' hl]⟩
  case or =>
    cases h
    exact N2.num hm (r := fun a b => a ||| b) (fun a b c h => ⟨h, by simp⟩) fun a b ha hb _ => by
      have hl : a ||| b < 2 ^ k.bits := Nat.or_lt_two_pow ha hb
      exact ⟨hl, fun P t w => by simp [binOp, Op.intBits, BitVec.toNat_or, ofInt_dec ha, ofInt_dec hb, wrap_nat' hl]⟩
  case xor =>
    cases h
    exact N2.num hm (r := fun a b => a ^^^ b) (fun a b c h => ⟨h, by simp⟩) fun a b ha hb _ => by
      have hl : a ^^^ b < 2 ^ k.bits := Nat.xor_lt_two_pow ha hb
      exact ⟨hl, fun P t w => by simp [binOp, Op.intBits, BitVec.toNat_xor, ofInt_dec ha, ofInt_dec hb, wrap_nat' hl]⟩
  case andNot =>
    cases h
    exact N2.num hm (r := fun a b => a &&& (2 ^ k.bits - 1 - b)) (fun a b c h => ⟨h, by simp⟩) fun a b ha hb _ => by
      have hl : a &&& (2 ^ k.bits - 1 - b) < 2 ^ k.bits := Nat.lt_of_le_of_lt Nat.and_le_left ha
      exact ⟨hl, fun P t w => by simp [binOp, Op.intBits, BitVec.toNat_and, BitVec.toNat_not, ofInt_dec ha, ofInt_dec hb, wrap_nat' hl]⟩
  case eql =>
    cases h
    exact N2.bool (r := fun a b => Nat.beq a b) (fun a b c => rfl) fun a b ha hb P t w => by
      have e : (dec k a == dec k b) = Nat.beq a b := by
        rw [Bool.eq_iff_iff]; simp [dec_inj ha hb]
      simp [binOp, Op.intCmp, e]
  case neq =>
    cases h
    exact N2.bool (r := fun a b => !Nat.beq a b) (fun a b c => rfl) fun a b ha hb P t w => by
      have e1 : (dec k a == dec k b) = Nat.beq a b := by
        rw [Bool.eq_iff_iff]; simp [dec_inj ha hb]
      have e : (dec k a != dec k b) = !Nat.beq a b := by rw [bne, e1]
      simp [binOp, Op.intCmp, e]
  case lss =>
    rw [bLt_eq] at h
    cases h
    exact N2.bool (fun a b c => rfl) fun a b ha hb P t w => by rw [blt_dec ha hb]; simp [binOp, Op.intCmp]
  case leq =>
    rw [bLe_eq] at h
    cases h
    exact N2.bool (fun a b c => rfl) fun a b ha hb P t w => by rw [ble_dec ha hb]; simp [binOp, Op.intCmp]
  case gtr =>
    rw [bLt_eq, unb_mk] at h
    cases h
    exact N2.bool (r := fun a b => _) (fun a b c => rfl) fun a b ha hb P t w => by rw [blt_dec hb ha]; simp [binOp, Op.intCmp]
  case geq =>
    rw [bLe_eq, unb_mk] at h
    cases h
    exact N2.bool (r := fun a b => _) (fun a b c => rfl) fun a b ha hb P t w => by rw [ble_dec hb ha]; simp [binOp, Op.intCmp]
end Go.It
namespace Go.It
open Go.RowKit
open Go.Vc (Keeps cellsAt)
set_option linter.unusedVariables false
set_option linter.constructorNameAsVariable false
def S2 (op : BinOp) (k : IntKind) (g : NF) : Prop := ∀ (a n : Nat) (c : V → Bool), g a n c = true → ∃ v, c v = true ∧ (a < 2 ^ k.bits → ∀ (P : Program) (w : World) (ρ : Rho) (yk : IntKind), ∃ x, (Op.shift op k (dec k a) yk (n : Int)).run P w = .ok x w ∧ VR ρ v x)
theorem fdiv_range {k : IntKind} {x : Int} {d : Nat} (h1 : k.min ≤ x) (h2 : x ≤ k.max) (h0 : k.min ≤ 0) (h3 : 0 ≤ k.max) (hd : 0 < d) : k.min ≤ x.fdiv (d : Int) ∧ x.fdiv (d : Int) ≤ k.max := by
  rw [Int.fdiv_eq_ediv_of_nonneg _ (by omega)]
  by_cases hx : 0 ≤ x
  · have a1 : 0 ≤ x / (d : Int) := Int.ediv_nonneg hx (by omega)
    have a2 : x / (d : Int) ≤ x := Int.ediv_le_self _ hx
    omega
  · have a1 : x / (d : Int) < 0 := Int.ediv_neg_of_neg_of_pos (by omega) (by omega)
    have a2 : x ≤ x / (d : Int) := by
      rw [Int.le_ediv_iff_mul_le (by omega)]
      have : x * (d : Int) ≤ x * 1 := Int.mul_le_mul_of_nonpos_left (by omega) (by omega)
      omega
    omega
theorem shr_nat {a n : Nat} {b : Nat} (ha : a < 2 ^ b) : ((a : Int).fdiv (2 ^ min n b)) = (((if b ≤ n then 0 else a >>> n : Nat)) : Int) := by
  have e : ((2 : Int) ^ min n b) = ((2 ^ min n b : Nat) : Int) := by norm_cast
  rw [e, Int.fdiv_eq_ediv_of_nonneg _ (Int.natCast_nonneg _)]
  by_cases h : b ≤ n
  · rw [if_pos h, Nat.min_eq_right h, ← Int.natCast_ediv, Nat.div_eq_of_lt ha]
  · rw [if_neg h, Nat.min_eq_left (by omega), ← Int.natCast_ediv, Nat.shiftRight_eq_div_pow]
theorem sh2_ok {op : BinOp} {k : IntKind} {g : NF} (h : sh2 op k = some (.mk g)) : S2 op k g := by
  obtain ⟨mk, hk, hm⟩ := mk_ok k
  have hp := Nat.two_pow_pos k.bits
  have hh := two_half k
  have hhp := half_pos k
  unfold sh2 at h
  rw [hk, unb_mk, mdB_eq, unb_mk, hfB_eq, unb_mk, bitsB_eq, unb_mk] at h
  have wr : ∀ a r n : Nat, (a * 2 ^ min n k.bits) % 2 ^ k.bits = r → ∀ (P : Program) (w : World) (yk : IntKind), (Op.shift .shl k (dec k a) yk (n : Int)).run P w = .ok (.int k (dec k r)) w := fun a r n hr P w yk => by
    have e : k.wrap (dec k a * 2 ^ min n k.bits) = dec k r := by
      rw [wrap_dec, ← hr, ← enc_nat]
      congr 1
      apply enc_congr
      rw [Int.mul_emod, dec_mod, ← Int.mul_emod]
      push_cast; rfl
    simp [Op.shift, e, show ¬ (n : Int) < 0 from by omega]
  have sr : ∀ a r n : Nat, (dec k a).fdiv (2 ^ min n k.bits) = dec k r → ∀ (P : Program) (w : World) (yk : IntKind), (Op.shift .shr k (dec k a) yk (n : Int)).run P w = .ok (.int k (dec k r)) w := fun a r n hr P w yk => by
    simp [Op.shift, hr, show ¬ (n : Int) < 0 from by omega]
  have fast : ∀ a n : Nat, a < 2 ^ k.bits → (k.signed = false ∨ a < 2 ^ (k.bits - 1)) → (dec k a).fdiv (2 ^ min n k.bits) = dec k (if k.bits ≤ n then 0 else a >>> n) ∧ (if k.bits ≤ n then 0 else a >>> n) < 2 ^ k.bits := fun a n ha hs => by
    have hle : (if k.bits ≤ n then 0 else a >>> n) ≤ a := by
      split
      · omega
      · rw [Nat.shiftRight_eq_div_pow]; exact Nat.div_le_self _ _
    refine ⟨?_, by omega⟩
    rw [dec_small hs, shr_nat ha, dec_small]
    exact hs.imp id fun h => by omega
  cases op <;> simp only [Option.some.injEq, reduceCtorEq] at h
  case shl =>
    cases h
    intro a n c hc
    cases hb : Nat.ble k.bits n
    · simp only [hb] at hc
      have hb' : ¬ k.bits ≤ n := fun e => by rw [Nat.ble_eq_true_of_le e] at hb; cases hb
      exact ⟨_, hc, fun ha P w ρ yk => ⟨_, wr a _ n (by rw [Nat.min_eq_left (by omega), ← Nat.shiftLeft_eq]; rfl) P w yk, (hm ρ _ _).2 ⟨rfl, Nat.mod_lt _ hp⟩⟩⟩
    · simp only [hb] at hc
      exact ⟨_, hc, fun ha P w ρ yk => ⟨_, wr a 0 n (by rw [Nat.min_eq_right (Nat.le_of_ble_eq_true hb), Nat.mul_mod_left]) P w yk, (hm ρ _ _).2 ⟨rfl, hp⟩⟩⟩
  case shr =>
    have sel : ∀ (a n : Nat) (c : V → Bool), (bif Nat.ble k.bits n then c (mk 0) else c (mk (Nat.shiftRight a n))) = c (mk (if k.bits ≤ n then 0 else a >>> n)) := fun a n c => by
      cases hb : Nat.ble k.bits n
      · have hb' : ¬ k.bits ≤ n := fun e => by rw [Nat.ble_eq_true_of_le e] at hb; cases hb
        rw [if_neg hb']; rfl
      · rw [if_pos (Nat.le_of_ble_eq_true hb)]; rfl
    cases hs : k.signed
    · rw [hs] at h
      cases h
      intro a n c hc
      replace hc := (sel a n c).symm.trans hc
      refine ⟨_, hc, fun ha P w ρ yk => ?_⟩
      obtain ⟨f1, f2⟩ := fast a n ha (.inl hs)
      exact ⟨_, sr a _ n f1 P w yk, (hm ρ _ _).2 ⟨rfl, f2⟩⟩
    · rw [hs] at h
      cases h
      intro a n c hc
      cases hb : Nat.blt a (2 ^ (k.bits - 1))
      · simp only [hb] at hc
        replace hc : c (mk (enc k ((dec k a).fdiv (2 ^ min n k.bits)))) = true := hc
        refine ⟨_, hc, fun ha P w ρ yk => ⟨_, sr a _ n ?_ P w yk, (hm ρ _ _).2 ⟨rfl, enc_lt _ _⟩⟩⟩
        have e : ((2 : Int) ^ min n k.bits) = ((2 ^ min n k.bits : Nat) : Int) := by norm_cast
        have hr := fdiv_range (dec_lt ha).1 (dec_lt ha).2 (min_le0 k).1 (min_le0 k).2 (Nat.two_pow_pos (min n k.bits))
        rw [e]
        exact (dec_enc hr.1 hr.2).symm
      · simp only [hb] at hc
        replace hc := (sel a n c).symm.trans hc
        refine ⟨_, hc, fun ha P w ρ yk => ?_⟩
        obtain ⟨f1, f2⟩ := fast a n ha (.inr (by rw [Nat.blt_eq] at hb; exact hb))
        exact ⟨_, sr a _ n f1 P w yk, (hm ρ _ _).2 ⟨rfl, f2⟩⟩
theorem num_lt : ∀ l : List UInt8, num l < 256 ^ l.length
  | [] => by simp [num]
  | b :: l => by
    have h := num_lt l
    have hb := b.toNat_lt
    simp only [num, List.length_cons, Nat.pow_succ, Nat.add_eq, Nat.mul_eq]
    omega
theorem num_app : ∀ l r : List UInt8, num (l ++ r) = num l + num r * 256 ^ l.length
  | [], r => by simp [num]
  | b :: l, r => by
    simp only [List.cons_append, num, num_app l r, List.length_cons, Nat.pow_succ, Nat.add_eq, Nat.mul_eq]
    rw [Nat.mul_add, Nat.add_assoc, Nat.mul_comm (256 ^ l.length) 256, ← Nat.mul_assoc, ← Nat.mul_assoc, Nat.mul_comm 256 (num r)]
theorem num_inj : ∀ {l r : List UInt8}, l.length = r.length → num l = num r → l = r
  | [], [], _, _ => rfl
  | [], _ :: _, h, _ => by simp at h
  | _ :: _, [], h, _ => by simp at h
  | b :: l, c :: r, h, e => by
    have hb := b.toNat_lt
    have hc := c.toNat_lt
    simp only [num, Nat.add_eq, Nat.mul_eq] at e
    have e1 : b.toNat = c.toNat := by omega
    have e2 : num l = num r := by omega
    rw [UInt8.toNat_inj.1 e1, num_inj (by simpa using h) e2]
theorem pow_shift (x n : Nat) : Nat.shiftLeft x (Nat.mul 8 n) = x * 256 ^ n := by
  show x <<< (8 * n) = _
  rw [Nat.shiftLeft_eq, Nat.pow_mul]
theorem toList_data (s : ByteArray) : s.toList = s.data.toList := by rw [ByteArray.toList_eq]
theorem str_eq {a b : ByteArray} : (a.toList == b.toList) = (Nat.beq a.data.toList.length b.data.toList.length && Nat.beq (num a.data.toList) (num b.data.toList)) := by
  rw [toList_data, toList_data, Bool.eq_iff_iff]
  simp only [beq_iff_eq, Bool.and_eq_true, Nat.beq_eq]
  exact ⟨fun h => by rw [h]; exact ⟨rfl, rfl⟩, fun h => num_inj h.1 h.2⟩
theorem strB_ok {op : BinOp} {g : Nat → Nat → Nat → Nat → (V → Bool) → Bool} (h : strB op = some g) {n x m y : Nat} {c : V → Bool} (hc : g n x m y c = true) :
    ∃ v, c v = true ∧ ∀ (ρ : Rho) (a b : Value), VR ρ (.s n x) a → VR ρ (.s m y) b → ∀ (P : Program) (t : TypeId) (w : World), ∃ u, (binOp op t a b).run P w = .ok u w ∧ VR ρ v u := by
  cases op <;> simp only [strB, Option.some.injEq, reduceCtorEq] at h <;> subst h
  case add =>
    obtain ⟨h1, h2⟩ := bif_t hc
    have h1 : n + m ≤ 1099511627776 := Nat.le_of_ble_eq_true h1
    refine ⟨_, h2, fun ρ a b ha hb P t w => ?_⟩
    simp only [VR] at ha hb
    obtain ⟨s, rfl, s1, s2, s3⟩ := ha
    obtain ⟨r, rfl, r1, r2, r3⟩ := hb
    have hs : s.size = n := by rw [← s1]; exact Array.length_toList.symm
    have hr : r.size = m := by rw [← r1]; exact Array.length_toList.symm
    have hl : ¬ (((s.size + r.size : Nat) : Int) > IntKind.i64.max) := by
      rw [hs, hr]; simp only [IntKind.max, IntKind.signed, IntKind.bits]; omega
    have hd : (s ++ r).data.toList = s.data.toList ++ r.data.toList := by simp
    refine ⟨.string (s ++ r), by simp only [binOp, Op.stringOp, hl, if_false, Sem.run_pure], ?_⟩
    simp only [VR]
    refine ⟨_, rfl, by rw [hd, List.length_append, s1, r1]; rfl, ?_, by simp only [maxLen, Nat.add_eq]; omega⟩
    rw [hd, num_app, s1, s2, r2, pow_shift]; rfl
  case eql =>
    refine ⟨_, hc, fun ρ a b ha hb P t w => ?_⟩
    simp only [VR] at ha hb
    obtain ⟨s, rfl, s1, s2, s3⟩ := ha
    obtain ⟨r, rfl, r1, r2, r3⟩ := hb
    refine ⟨_, by simp only [binOp, Op.stringOp, Sem.run_pure]; rfl, ?_⟩
    simp only [VR]
    rw [str_eq, s1, s2, r1, r2]
  case neq =>
    refine ⟨_, hc, fun ρ a b ha hb P t w => ?_⟩
    simp only [VR] at ha hb
    obtain ⟨s, rfl, s1, s2, s3⟩ := ha
    obtain ⟨r, rfl, r1, r2, r3⟩ := hb
    refine ⟨_, by simp only [binOp, Op.stringOp, Sem.run_pure]; rfl, ?_⟩
    simp only [VR]
    rw [str_eq, s1, s2, r1, r2]
theorem run_guard {P : Program} {op : BinOp} {t : TypeId} {x y : Operand} {a b : Value} (w : World) (h1 : ¬ (a = .nilIface ∧ b = .nilIface) ∨ isCon x = true ∨ isCon y = true) (h2 : (∀ l r, a = .agg l → b = .agg r → P.eqGuardType P.depth t = false)) : (eqGuard op t x y a b).run P w = .ok () w := by
  have key : ∀ op, op = .eql ∨ op = .neq → (eqGuard op t x y a b).run P w = .ok () w := by
    intro op ho
    have hm : eqGuard op t x y a b = eqGuard .eql t x y a b := by rcases ho with rfl | rfl <;> rfl
    rw [hm]
    unfold eqGuard
    simp only [Bool.not_true, Bool.false_eq_true, if_false]
    split
    · rw [if_pos]
      · rfl
      · rcases h1 with h1 | h1 | h1
        · exact absurd ⟨rfl, rfl⟩ h1
        · cases x <;> first | (cases h1; done) | simp
        · cases y <;> first | (cases h1; done) | simp
    · have := h2 _ _ rfl rfl
      simp [this]
    · rfl
  cases op <;> first | rfl | exact key _ (.inl rfl) | exact key _ (.inr rfl)
end Go.It
namespace Go.It
open Go.RowKit
open Go.Vc (Keeps cellsAt)
set_option linter.unusedVariables false
set_option linter.constructorNameAsVariable false
theorem run_und {P : Program} {t : TypeId} {d : TypeDesc} (h : P.underlying t = some d) (w : World) : (underlying t).run P w = .ok d w := by simp [underlying, h]
section
variable {P : Program} {t : TypeId} {i : TI}
theorem TIok.part_one (h : TIok P t i) (ha : isAg i = false) {cs : Array Value} {off : Nat} {v : Value} (hv : cs[off]? = some v) (w : World) : (part t cs off).run P w = .ok v w := by
  simp [part, h.agg, ha, hv]
theorem TIok.part_agg (h : TIok P t i) (ha : isAg i = true) (cs : Array Value) (off : Nat) (w : World) : (part t cs off).run P w = .ok (.agg (cs.extract off (off + i.n))) w := by
  simp [part, h.agg, ha, h.size]
theorem TIok.kind (h : TIok P t i) : ∃ d, P.underlying t = some d ∧ kR d i.k := h.desc
end
def EqF (P : Program) (t : TypeId) (g : V → V → Option Bool) : Prop := ∀ (v u : V) (r : Bool) (ρ : Rho) (a b : Value), g v u = some r → VR ρ v a → VR ρ u b → ∀ (w : World) (d : Nat), (Op.equalIn (d + 1) t a b).run P w = .ok r w
def EqR (P : Program) (t : TypeId) (g : V → V → Option Bool) : Prop := ∀ (v u : V) (r : Bool) (ρ : Rho) (a b : Value), g v u = some r → VR ρ v a → VR ρ u b → ∀ (w : World) (d : Nat), (Op.equalIn (d + 2) t a b).run P w = .ok r w
theorem EqF.r {P : Program} {t : TypeId} {g : V → V → Option Bool} (h : EqF P t g) : EqR P t g := fun v u r ρ a b h1 h2 h3 w d => h v u r ρ a b h1 h2 h3 w (d + 1)
theorem qI_ok {v u : V} {r : Bool} (h : qI v u = some r) {ρ : Rho} {a b : Value} (ha : VR ρ v a) (hb : VR ρ u b) : ∃ k x y, a = .int k x ∧ b = .int k y ∧ (x == y) = r := by
  unfold qI at h
  split at h
  · simp only [Option.some.injEq] at h
    simp only [VR] at ha hb
    exact ⟨_, _, _, ha.1, hb.1, by rw [← h, Bool.eq_iff_iff]; simp [dec_inj (k := .i64) ha.2 hb.2]⟩
  · simp only [Option.some.injEq] at h
    simp only [VR] at ha hb
    exact ⟨_, _, _, ha.1, hb.1, by rw [← h, Bool.eq_iff_iff]; simp [Int.natCast_inj]⟩
  · rename_i j x k y
    simp only [VR] at ha hb
    cases hk : keq j k
    · rw [hk] at h; cases h
    · rw [hk] at h
      simp only [cond_true, Option.some.injEq] at h
      have := keq_eq hk
      subst this
      exact ⟨_, _, _, ha.1, hb.1, by rw [← h, Bool.eq_iff_iff]; simp [dec_inj ha.2 hb.2]⟩
  · cases h
theorem EqF.qI {P : Program} {t : TypeId} {k : IntKind} (ht : P.underlying t = some (.int k)) : EqF P t Go.It.qI := fun v u r ρ a b h ha hb w d => by
  obtain ⟨j, x, y, rfl, rfl, e⟩ := qI_ok h ha hb
  (rw [← e, ← run_equalIn_int w d t _ _ _ _ ht])
theorem EqF.qB {P : Program} {t : TypeId} (ht : P.underlying t = some .bool) : EqF P t Go.It.qB := fun v u r ρ a b h ha hb w d => by
  unfold Go.It.qB at h
  split at h
  · rename_i x y
    simp only [VR] at ha hb
    subst ha hb
    have e : (x == y) = r := by
      simp only [Option.some.injEq] at h
      rw [← h]; cases x <;> cases y <;> rfl
    (rw [Op.equalIn, Sem.run_bind, run_und ht, ← e]; first | rfl | (exact if_pos rfl))
  · cases h
theorem EqF.qS {P : Program} {t : TypeId} (ht : P.underlying t = some .string) : EqF P t Go.It.qS := fun v u r ρ a b h ha hb w d => by
  unfold Go.It.qS at h
  split at h
  · simp only [VR] at ha hb
    obtain ⟨s, rfl, s1, s2, s3⟩ := ha
    obtain ⟨q, rfl, r1, r2, r3⟩ := hb
    have e : (s.toList == q.toList) = r := by
      simp only [Option.some.injEq] at h
      rw [str_eq, s1, s2, r1, r2]; exact h
    rw [run_equalIn_string w _ t _ _ ht, e]
  · cases h
theorem EqF.qP {P : Program} {t : TypeId} {e : TypeId} (ht : P.underlying t = some (.pointer e)) : EqF P t Go.It.qP := fun v u r ρ a b h ha hb w d => by
  unfold Go.It.qP at h
  split at h <;> first | (cases h; done) | skip
  all_goals
    simp only [Option.some.injEq] at h
    subst h
    simp only [VR, zR] at ha hb
  · subst ha hb; (rw [Op.equalIn, Sem.run_bind, run_und ht]; rfl)
  · obtain ⟨_, _, _, _, rfl⟩ := ha; subst hb; (rw [Op.equalIn, Sem.run_bind, run_und ht]; rfl)
  · obtain ⟨_, _, _, _, rfl⟩ := hb; subst ha; (rw [Op.equalIn, Sem.run_bind, run_und ht]; rfl)
theorem EqF.qSl {P : Program} {t : TypeId} {e : TypeId} (ht : P.underlying t = some (.slice e)) : EqF P t Go.It.qSl := fun v u r ρ a b h ha hb w d => by
  unfold Go.It.qSl at h
  split at h <;> first | (cases h; done) | skip
  all_goals
    simp only [Option.some.injEq] at h
    subst h
    simp only [VR, zR] at ha hb
  · subst ha hb; (rw [Op.equalIn, Sem.run_bind, run_und ht]; rfl)
  · obtain ⟨_, _, rfl, _⟩ := ha; subst hb; (rw [Op.equalIn, Sem.run_bind, run_und ht]; rfl)
  · obtain ⟨_, _, rfl, _⟩ := hb; subst ha; (rw [Op.equalIn, Sem.run_bind, run_und ht]; rfl)
theorem EqF.qM {P : Program} {t : TypeId} {k e : TypeId} (ht : P.underlying t = some (.map k e)) : EqF P t Go.It.qM := fun v u r ρ a b h ha hb w d => by
  unfold Go.It.qM at h
  split at h <;> first | (cases h; done) | skip
  all_goals
    simp only [Option.some.injEq] at h
    subst h
    simp only [VR, zR] at ha hb
  · subst ha hb; (rw [Op.equalIn, Sem.run_bind, run_und ht]; rfl)
  · obtain ⟨_, _, _, rfl⟩ := ha; subst hb; (rw [Op.equalIn, Sem.run_bind, run_und ht]; rfl)
  · obtain ⟨_, _, _, rfl⟩ := hb; subst ha; (rw [Op.equalIn, Sem.run_bind, run_und ht]; rfl)
theorem EqF.qF {P : Program} {t : TypeId} {x y : Array TypeId} {z : Bool} (ht : P.underlying t = some (.func x y z)) : EqF P t Go.It.qF := fun v u r ρ a b h ha hb w d => by
  unfold Go.It.qF at h
  split at h <;> first | (cases h; done) | skip
  all_goals
    simp only [Option.some.injEq] at h
    subst h
    simp only [VR, zR] at ha hb
  · subst ha hb; (rw [Op.equalIn, Sem.run_bind, run_und ht]; rfl)
  · obtain ⟨_, _, rfl, _⟩ := ha; subst hb; (rw [Op.equalIn, Sem.run_bind, run_und ht]; rfl)
  · obtain ⟨_, _, rfl, _⟩ := hb; subst ha; (rw [Op.equalIn, Sem.run_bind, run_und ht]; rfl)
theorem EqF.qIf {P : Program} {t : TypeId} {ms : Array (String × TypeId)} (ht : P.underlying t = some (.interface ms)) : EqF P t Go.It.qIf := fun v u r ρ a b h ha hb w d => by
  unfold Go.It.qIf at h
  split at h <;> first | (cases h; done) | skip
  all_goals
    simp only [Option.some.injEq] at h
    subst h
    simp only [VR, zR] at ha hb
  · subst ha hb; (rw [Op.equalIn, Sem.run_bind, run_und ht]; rfl)
  · obtain ⟨_, rfl, _⟩ := ha; subst hb; (rw [Op.equalIn, Sem.run_bind, run_und ht]; rfl)
  · obtain ⟨_, rfl, _⟩ := hb; subst ha; (rw [Op.equalIn, Sem.run_bind, run_und ht]; rfl)
theorem eqElems_ok {P : Program} {e : TypeId} {i : TI} {k : IntKind} (he : TIok P e i) (hk : i.k = .i k) {ρ : Rho} {d : Nat} (w : World) : ∀ (l r : List V) (xs ys pre pre' : List Value) (j : Nat) (q : Bool), qL l r = some q → VRL ρ l xs → VRL ρ r ys → pre.length = j → pre'.length = j →
    (Go.Vc.eqElems (d + 1) e 1 (pre ++ xs).toArray (pre' ++ ys).toArray (List.range' j l.length)).run P w = .ok q w
  | [], [], xs, ys, pre, pre', j, q, h, hx, hy, _, _ => by
    simp only [qL, Option.some.injEq] at h
    subst h
    simp [Go.Vc.eqElems]
  | [], _ :: _, _, _, _, _, _, _, h, _, _, _, _ => by simp [qL] at h
  | _ :: _, [], _, _, _, _, _, _, h, _, _, _, _ => by simp [qL] at h
  | a :: l, b :: r, xs, ys, pre, pre', j, q, h, hx, hy, hp, hp' => by
    simp only [VRL] at hx hy
    obtain ⟨x, xs, rfl, hx1, hx2⟩ := hx
    obtain ⟨y, ys, rfl, hy1, hy2⟩ := hy
    obtain ⟨ds, hd, hkr⟩ := he.desc
    rw [hk] at hkr
    simp only [kR] at hkr
    subst hkr
    have hag : isAg i = false := by unfold isAg; rw [hk]
    simp only [qL] at h
    split at h
    · rename_i p q' h1 h2
      simp only [Option.some.injEq] at h
      obtain ⟨k', x', y', rfl, rfl, e1⟩ := qI_ok h1 hx1 hy1
      have p1 : (part e (pre ++ .int k' x' :: xs).toArray (j * 1)).run P w = .ok (.int k' x') w := he.part_one hag (by simp [← hp]) w
      have p2 : (part e (pre' ++ .int k' y' :: ys).toArray (j * 1)).run P w = .ok (.int k' y') w := he.part_one hag (by simp [← hp']) w
      have ih := eqElems_ok he hk (d := d) w l r xs ys (pre ++ [.int k' x']) (pre' ++ [.int k' y']) (j + 1) q' h2 hx2 hy2 (by simp [hp]) (by simp [hp'])
      simp only [List.length_cons, List.range'_succ, Go.Vc.eqElems, Sem.run_bind, p1, p2, Result.andThen_ok, run_equalIn_int w d e _ _ _ _ hd, e1]
      cases p
      · simp only [Bool.not_false, if_true, Sem.run_pure]
        rw [← h]; rfl
      · simp only [Bool.not_true, Bool.false_eq_true, if_false]
        rw [← h]
        simpa using ih
    · cases h
theorem EqR.qA {P : Program} {E : En} (hE : EnOK P E) {t e : TypeId} {n : Nat} (ht : P.underlying t = some (.array n e)) {g : V → V → Option Bool} (hg : qAr E n e = some g) : EqR P t g := fun v u r ρ a b h ha hb w d => by
  unfold qAr at hg
  split at hg
  · rename_i k hk
    have he := kn_ok hE hk (by simp)
    cases hn : Nat.beq (ti E e).n 1
    · rw [hn] at hg; cases hg
    · rw [hn] at hg
      simp only [cond_true, Option.some.injEq] at hg
      subst hg
      have hn : (ti E e).n = 1 := Nat.eq_of_beq_eq_true hn
      unfold Go.It.qA at h
      split at h
      · rename_i l r'
        cases hl : Nat.beq (lenL l) n
        · rw [hl] at h; cases h
        · rw [hl] at h
          have hl : l.length = n := by rw [← lenL_eq]; exact Nat.eq_of_beq_eq_true hl
          simp only [VR] at ha hb
          obtain ⟨xs, rfl, hx, _⟩ := ha
          obtain ⟨ys, rfl, hy, _⟩ := hb
          have hs := he.size w
          rw [hn] at hs
          rw [Go.Vc.run_equalIn_array (d + 1) t e n 1 _ _ w ht hs, ← hl]
          exact eqElems_ok he hk w l r' xs ys [] [] 0 r h hx hy rfl rfl
      · cases h
  · cases hg
theorem fldG_ok {P : Program} {E : En} (hE : EnOK P E) {t : TypeId} {g : V → V → Option Bool} (hg : fldG E t = some g) : EqF P t g ∧ TIok P t (ti E t) ∧ isAg (ti E t) = false := by
  unfold fldG at hg
  split at hg <;> first | (cases hg; done) | skip
  all_goals
    rename_i hk
    have ht := kn_ok hE hk (by simp)
    obtain ⟨ds, hd, hkr⟩ := ht.desc
    rw [hk] at hkr
    simp only [kR] at hkr
    subst hkr
    simp only [Option.some.injEq] at hg; subst hg
    refine ⟨?_, ht, by unfold isAg; rw [hk]⟩
  · exact EqF.qI hd
  · exact EqF.qS hd
  · exact EqF.qB hd
theorem eqFields_ok {P : Program} {E : En} (hE : EnOK P E) {ρ : Rho} (d : Nat) (w : World) : ∀ (fs : List Field) (n : Nat) (gs : List (V → V → Option Bool)), stG E (fs.map fun f => (f.offset, f.type)) n = some gs → (∀ f ∈ fs, f.name ≠ "_") → ∀ (l r : List V) (xs ys pre pre' : List Value) (q : Bool), qG gs l r = some q → VRL ρ l xs → VRL ρ r ys → pre.length = n → pre'.length = n →
    (Op.eqFields (d + 1) (pre ++ xs).toArray (pre' ++ ys).toArray fs).run P w = .ok q w
  | [], n, gs, hs, _, l, r, xs, ys, pre, pre', q, h, hx, hy, hp, hp' => by
    simp only [List.map_nil, stG, Option.some.injEq] at hs
    subst hs
    have : q = true := by
      cases l <;> cases r <;> simp [qG] at h <;> first | exact h | exact h.symm
    subst this
    simp [Op.eqFields]
  | f :: fs, n, gs, hs, hn, l, r, xs, ys, pre, pre', q, h, hx, hy, hp, hp' => by
    simp only [List.map_cons, stG] at hs
    cases hb : Nat.beq f.offset n
    · rw [hb] at hs; cases hs
    · rw [hb] at hs
      simp only [cond_true] at hs
      have hb : f.offset = n := Nat.eq_of_beq_eq_true hb
      split at hs
      · rename_i g gs' h1 h2
        simp only [Option.some.injEq] at hs
        subst hs
        obtain ⟨k1, k2, k3⟩ := fldG_ok hE h1
        match l, r, h with
        | a :: l, b :: r, h =>
          simp only [qG] at h
          split at h
          · rename_i p q' h3 h4
            simp only [Option.some.injEq] at h
            simp only [VRL] at hx hy
            obtain ⟨x, xs, rfl, hx1, hx2⟩ := hx
            obtain ⟨y, ys, rfl, hy1, hy2⟩ := hy
            have p1 : (part f.type (pre ++ x :: xs).toArray f.offset).run P w = .ok x w := k2.part_one k3 (by simp [hb, ← hp]) w
            have p2 : (part f.type (pre' ++ y :: ys).toArray f.offset).run P w = .ok y w := k2.part_one k3 (by simp [hb, ← hp']) w
            have e1 := k1 _ _ _ ρ _ _ h3 hx1 hy1 w d
            have ih := eqFields_ok hE d w fs (n + 1) gs' h2 (fun f hf => hn f (.tail _ hf)) l r xs ys (pre ++ [x]) (pre' ++ [y]) q' h4 hx2 hy2 (by simp [hp]) (by simp [hp'])
            have hnf := hn f (.head _)
            simp only [Op.eqFields, Sem.run_ite, Sem.run_bind, ne_eq, hnf, not_false_eq_true, if_true, p1, p2, e1, Result.andThen_ok]
            cases p
            · simp only [Bool.not_false, if_true, Sem.run_pure]
              rw [← h]; rfl
            · simp only [Bool.not_true, Bool.false_eq_true, if_false]
              rw [← h]
              simpa using ih
          · cases h
        | [], [], h => simp [qG] at h
        | [], _ :: _, h => simp [qG] at h
        | _ :: _, [], h => simp [qG] at h
      · cases hs
theorem EqR.qSt {P : Program} {E : En} (hE : EnOK P E) {t : TypeId} {F : Array Field} (ht : P.underlying t = some (.struct F)) (hh : P.stoodInHeld t = false) (hn : ∀ f ∈ F.toList, f.name ≠ "_") {gs : List (V → V → Option Bool)} (hg : stG E (F.toList.map fun f => (f.offset, f.type)) 0 = some gs) : EqR P t (Go.It.qSt gs) := fun v u r ρ a b h ha hb w d => by
  unfold Go.It.qSt at h
  split at h
  · simp only [VR] at ha hb
    obtain ⟨xs, rfl, hx, _⟩ := ha
    obtain ⟨ys, rfl, hy, _⟩ := hb
    have hf : P.fieldsOf t = F := by simp [Program.fieldsOf, ht]
    rw [run_equalIn_struct w (d + 1) t _ _ (by rw [hf]; exact ht) hh, hf]
    exact eqFields_ok hE d w F.toList 0 gs hg hn _ _ xs ys [] [] r h hx hy rfl rfl
  · cases h
def plainV : Value → Bool
  | .bool _ => true
  | .agg _ => true
  | .slice _ _ _ => true
  | .map _ => true
  | .func _ _ _ => true
  | .nilFunc => true
  | .iface _ _ => true
  | .nilIface => true
  | .pointer _ => true
  | _ => false
theorem binOp_eql {t : TypeId} {a : Value} (b : Value) (h : plainV a = true) : binOp .eql t a b = (do pure (.bool (← Op.equal t a b))) ∧ binOp .neq t a b = (do pure (.bool (!(← Op.equal t a b)))) := by
  cases a <;> first | (cases h; done) | exact ⟨rfl, rfl⟩
theorem qE_ok {P : Program} {E : En} (hE : EnOK P E) {t : TypeId} (hkn : (ti E t).k ≠ .no) {con : Bool} {g : V → V → Option Bool} (hg : qE E (ti E t).k con = some g) : EqR P t g ∧ ∀ (v u : V) (r : Bool) (ρ : Rho) (a b : Value), g v u = some r → VR ρ v a → VR ρ u b →
    plainV a = true ∧ ((a = .nilIface ∧ b = .nilIface) → con = true) ∧ (∀ l, a = .agg l → P.eqGuardType P.depth t = false) := by
  have ht := kn_ok hE rfl hkn
  obtain ⟨ds, hd, hkr⟩ := ht.desc
  unfold qE at hg
  split at hg <;> first | (cases hg; done) | (rename_i hk; rw [hk] at hkr; simp only [kR] at hkr)
  · subst hkr
    simp only [Option.some.injEq] at hg; subst hg
    refine ⟨(EqF.qB hd).r, fun v u r ρ a b h ha hb => ?_⟩
    unfold qB at h; split at h <;> first | (cases h; done) | skip
    simp only [VR] at ha; subst ha
    exact ⟨rfl, fun e => (by cases e.1), fun l e => by cases e⟩
  · subst hkr
    simp only [Option.some.injEq] at hg; subst hg
    refine ⟨(EqF.qP hd).r, fun v u r ρ a b h ha hb => ?_⟩
    unfold qP at h; split at h <;> first | (cases h; done) | skip
    all_goals simp only [VR, zR] at ha
    · subst ha; exact ⟨rfl, fun e => (by cases e.1), fun l e => by cases e⟩
    · obtain ⟨_, _, _, _, rfl⟩ := ha; exact ⟨rfl, fun e => (by cases e.1), fun l e => by cases e⟩
    · subst ha; exact ⟨rfl, fun e => (by cases e.1), fun l e => by cases e⟩
  · subst hkr
    simp only [Option.some.injEq] at hg; subst hg
    refine ⟨(EqF.qSl hd).r, fun v u r ρ a b h ha hb => ?_⟩
    unfold qSl at h; split at h <;> first | (cases h; done) | skip
    all_goals simp only [VR, zR] at ha
    · subst ha; exact ⟨rfl, fun e => (by cases e.1), fun l e => by cases e⟩
    · obtain ⟨_, _, rfl, _⟩ := ha; exact ⟨rfl, fun e => (by cases e.1), fun l e => by cases e⟩
    · subst ha; exact ⟨rfl, fun e => (by cases e.1), fun l e => by cases e⟩
  · subst hkr
    simp only [Option.some.injEq] at hg; subst hg
    refine ⟨(EqF.qM hd).r, fun v u r ρ a b h ha hb => ?_⟩
    unfold qM at h; split at h <;> first | (cases h; done) | skip
    all_goals simp only [VR, zR] at ha
    · subst ha; exact ⟨rfl, fun e => (by cases e.1), fun l e => by cases e⟩
    · obtain ⟨_, _, _, rfl⟩ := ha; exact ⟨rfl, fun e => (by cases e.1), fun l e => by cases e⟩
    · subst ha; exact ⟨rfl, fun e => (by cases e.1), fun l e => by cases e⟩
  · obtain ⟨x, y, z, rfl⟩ := hkr
    simp only [Option.some.injEq] at hg; subst hg
    refine ⟨(EqF.qF hd).r, fun v u r ρ a b h ha hb => ?_⟩
    unfold qF at h; split at h <;> first | (cases h; done) | skip
    all_goals simp only [VR, zR] at ha
    · subst ha; exact ⟨rfl, fun e => (by cases e.1), fun l e => by cases e⟩
    · obtain ⟨_, _, rfl, _⟩ := ha; exact ⟨rfl, fun e => (by cases e.1), fun l e => by cases e⟩
    · subst ha; exact ⟨rfl, fun e => (by cases e.1), fun l e => by cases e⟩
  · obtain ⟨ms, rfl⟩ := hkr
    cases hc : con
    · rw [hc] at hg; cases hg
    · rw [hc] at hg
      simp only [cond_true, Option.some.injEq] at hg; subst hg
      refine ⟨(EqF.qIf hd).r, fun v u r ρ a b h ha hb => ?_⟩
      unfold qIf at h; split at h <;> first | (cases h; done) | skip
      all_goals simp only [VR, zR] at ha
      · subst ha; exact ⟨rfl, fun e => rfl, fun l e => by cases e⟩
      · obtain ⟨_, rfl, _⟩ := ha; exact ⟨rfl, fun e => rfl, fun l e => by cases e⟩
      · subst ha; exact ⟨rfl, fun e => rfl, fun l e => by cases e⟩
  · obtain ⟨F, rfl, hF, hN⟩ := hkr
    split at hg
    · rename_i gs hgs
      simp only [Option.some.injEq] at hg; subst hg
      rw [← hF] at hgs
      refine ⟨EqR.qSt hE hd ht.held hN hgs, fun v u r ρ a b h ha hb => ?_⟩
      have hag : isAg (ti E t) = true := by unfold isAg; rw [hk]
      unfold qSt at h; split at h
      · simp only [VR] at ha
        obtain ⟨_, rfl, _⟩ := ha
        exact ⟨rfl, fun e => (by cases e.1), fun l e => ht.guard hag⟩
      · cases h
    · cases hg
  · subst hkr
    rename_i n e
    refine ⟨EqR.qA hE hd hg, fun v u r ρ a b h ha hb => ?_⟩
    have hag : isAg (ti E t) = true := by unfold isAg; rw [hk]
    unfold qAr at hg
    split at hg
    · cases hn : Nat.beq (ti E e).n 1
      · rw [hn] at hg; cases hg
      · rw [hn] at hg
        simp only [cond_true, Option.some.injEq] at hg; subst hg
        unfold qA at h; split at h
        · simp only [VR] at ha
          obtain ⟨_, rfl, _⟩ := ha
          exact ⟨rfl, fun e => (by cases e.1), fun l e => ht.guard hag⟩
        · cases h
    · cases hg
end Go.It
namespace Go.It
open Go.RowKit
open Go.Vc (Keeps cellsAt)
set_option linter.unusedVariables false
set_option linter.constructorNameAsVariable false
section
variable {P : Program} {q : Cx} {e : q.ε} {m : M} {c : V → M → Bool} {f : OpF q} {dst : Option Tmp} {ty : TypeId} {pos : String} {aft : Array Edge} {gd : Option (Nat × Bool)}
theorem exec_bin {ρ : Operand → Value} {op : BinOp} {t yt : TypeId} {x y : Operand} {u : Value} {w : World} (hg : (eqGuard op t x y (ρ x) (ρ y)).run P w = .ok () w) (hb : (binOp op t (ρ x) (ρ y)).run P w = .ok u w) :
    (execOp ρ ⟨dst, .binOp op t x y yt, ty, pos, aft, gd⟩).run P w = .ok (.value u) w := by simp [execOp, hg, hb]
theorem guard_int {op : BinOp} {t : TypeId} {x y : Operand} {k : IntKind} {n : Int} {b : Value} (w : World) : (eqGuard op t x y (.int k n) b).run P w = .ok () w := run_guard w (.inl fun e => (by cases e.1)) fun l r e => (by cases e)
theorem guard_str {op : BinOp} {t : TypeId} {x y : Operand} {s : ByteArray} {b : Value} (w : World) : (eqGuard op t x y (.string s) b).run P w = .ok () w := run_guard w (.inl fun e => (by cases e.1)) fun l r e => (by cases e)
theorem op_binI (hq : CxOK q) {op : BinOp} {t yt : TypeId} {x y : Operand} {k : IntKind} (hf : binI q op k x y = .mk f) (h : f e m c = true) : OpR P q ⟨dst, .binOp op t x y yt, ty, pos, aft, gd⟩ e m c := by
  unfold binI at hf
  obtain ⟨okf, hok, ho⟩ := oK_ok k
  split at hf
  · rename_i b hb
    obtain ⟨g⟩ := b
    simp only [unb_mk, hok] at hf
    have h2 := op2_ok hq hf h
    obtain ⟨n, h3, hn⟩ := ho _ _ h2
    obtain ⟨n', h4, hn'⟩ := ho _ _ h3
    obtain ⟨v, h5, hv⟩ := bin2_ok hb _ _ _ h4
    refine .a0 v rfl h5 fun m' w0 ρ a w hs => ?_
    obtain ⟨e1, l1⟩ := hn ρ _ (hs.ev x (by simp [Op.operands]))
    obtain ⟨e2, l2⟩ := hn' ρ _ (hs.ev y (by simp [Op.operands]))
    obtain ⟨u, h6, h7⟩ := hv l1 l2 P t w ρ
    exact ⟨u, exec_bin (by rw [e1]; exact guard_int w) (by rw [e1, e2]; exact h6), h7⟩
  · exact (bad_ok hf h).elim
theorem op_binSh (hq : CxOK q) {op : BinOp} {t yt : TypeId} {x y : Operand} {k : IntKind} (hf : binSh q op k x y = .mk f) (h : f e m c = true) : OpR P q ⟨dst, .binOp op t x y yt, ty, pos, aft, gd⟩ e m c := by
  unfold binSh at hf
  obtain ⟨okf, hok, ho⟩ := oK_ok k
  split at hf
  · rename_i b hb
    obtain ⟨g⟩ := b
    simp only [unb_mk, hok] at hf
    have h2 := op2_ok hq hf h
    obtain ⟨n, h3, hn⟩ := ho _ _ h2
    obtain ⟨n', h4, hn'⟩ := oIx_ok h3
    obtain ⟨v, h5, hv⟩ := sh2_ok hb _ _ _ h4
    refine .a0 v rfl h5 fun m' w0 ρ a w hs => ?_
    obtain ⟨e1, l1⟩ := hn ρ _ (hs.ev x (by simp [Op.operands]))
    obtain ⟨k', e2, l2⟩ := hn' ρ _ (hs.ev y (by simp [Op.operands]))
    obtain ⟨u, h6, h7⟩ := hv l1 P w ρ k'
    refine ⟨u, exec_bin (by rw [e1]; exact guard_int w) ?_, h7⟩
    rw [e1, e2]
    have hsh : op = .shl ∨ op = .shr := by
      cases op <;> first | exact .inl rfl | exact .inr rfl | (simp only [sh2] at hb; cases k <;> cases hb)
    rcases hsh with rfl | rfl <;> exact h6
  · exact (bad_ok hf h).elim
theorem op_binS (hq : CxOK q) {op : BinOp} {t yt : TypeId} {x y : Operand} (hf : binS q op x y = .mk f) (h : f e m c = true) : OpR P q ⟨dst, .binOp op t x y yt, ty, pos, aft, gd⟩ e m c := by
  unfold binS at hf
  split at hf
  · rename_i g hb
    have h2 := op2_ok hq hf h
    obtain ⟨n, s, ex, h3⟩ := oS_ok h2
    obtain ⟨n', s', ey, h4⟩ := oS_ok h3
    obtain ⟨v, h5, hv⟩ := strB_ok hb h4
    refine .a0 v rfl h5 fun m' w0 ρ a w hs => ?_
    have vx := hs.ev x (by simp [Op.operands])
    have vy := hs.ev y (by simp [Op.operands])
    rw [ex] at vx
    rw [ey] at vy
    obtain ⟨u, h6, h7⟩ := hv ρ _ _ vx vy P t w
    refine ⟨u, exec_bin ?_ h6, h7⟩
    simp only [VR] at vx
    obtain ⟨s1, e1, _⟩ := vx
    rw [e1]
    exact guard_str w
  · exact (bad_ok hf h).elim
theorem op_binE (hq : CxOK q) (hE : EnOK P q.E) {neg : Bool} {t yt : TypeId} {x y : Operand} (hn : (ti q.E t).k ≠ .no) (hf : binE q neg (ti q.E t).k x y = .mk f) (h : f e m c = true) : OpR P q ⟨dst, .binOp (bif neg then .neq else .eql) t x y yt, ty, pos, aft, gd⟩ e m c := by
  unfold binE at hf
  split at hf
  · rename_i g hg
    have h2 := op2_ok hq hf h
    split at h2
    · rename_i r hr
      obtain ⟨g1, g2⟩ := qE_ok hE hn hg
      refine .a0 _ rfl h2 fun m' w0 ρ a w hs => ?_
      have vx := hs.ev x (by simp [Op.operands])
      have vy := hs.ev y (by simp [Op.operands])
      obtain ⟨k1, k2, k3⟩ := g2 _ _ _ _ _ _ hr vx vy
      have k4 : (Op.equal t (a.eval x) (a.eval y)).run P w = .ok r w := g1 _ _ _ _ _ _ hr vx vy w 9998
      obtain ⟨b1, b2⟩ := binOp_eql (t := t) (a.eval y) k1
      have k5 : ∀ op, (eqGuard op t x y (a.eval x) (a.eval y)).run P w = .ok () w := fun op => run_guard w (by
        by_cases hc : a.eval x = .nilIface ∧ a.eval y = .nilIface
        · have := k2 hc
          simp only [Bool.or_eq_true] at this
          exact .inr this
        · exact .inl hc) fun l r el er => k3 l el
      cases neg
      · refine ⟨_, exec_bin (k5 _) (u := .bool r) ?_, by simp only [VR]; rfl⟩
        rw [show (bif false then BinOp.neq else BinOp.eql) = .eql from rfl, b1]
        simp [k4]
      · refine ⟨_, exec_bin (k5 _) (u := .bool (!r)) ?_, by simp only [VR]; rfl⟩
        rw [show (bif true then BinOp.neq else BinOp.eql) = .neq from rfl, b2]
        simp [k4]
    · cases h2
  · exact (bad_ok hf h).elim
theorem accB_eq {v : V} {k : IntKind} {a : Nat → Nat → Bool} {b : Bool} (h : qV v k a b = true) : (∃ c n, v = .q k c n ∧ a c n = true) ∨ b = true := by
  unfold qV at h
  split at h
  · rename_i j c n
    cases hj : keq j k
    · rw [hj] at h; exact .inr h
    · rw [hj] at h
      rw [keq_eq hj]
      exact .inl ⟨c, n, rfl, h⟩
  · exact .inr h
theorem op_remQ (hq : CxOK q) {t yt : TypeId} {x y : Operand} (hf : trRemQ q x y = .mk f) (h : f e m c = true) : OpR P q ⟨dst, .binOp .rem t x y yt, ty, pos, aft, gd⟩ e m c := by
  unfold trRemQ at hf
  cases hb : binI q .rem .u64 x y with
  | mk g =>
    simp only [hb, accO_eq hq, unb_mk, Box.mk.injEq] at hf
    subst hf
    rcases accB_eq h with ⟨md, n, hx, h⟩ | h
    · obtain ⟨b, hy, h⟩ := oW_ok h
      obtain ⟨h1, h3⟩ := bif_t h
      obtain ⟨h2, h4⟩ := bif_t h3
      have h1 := Nat.eq_of_beq_eq_true h1
      subst h1
      have h2 : 0 < b := by simpa using h2
      refine .a0 (.w n) rfl h4 fun m' w0 ρ a w hs => ?_
      have v1 := hs.ev x (by simp [Op.operands])
      have v2 := hs.ev y (by simp [Op.operands])
      rw [hx] at v1
      rw [hy] at v2
      simp only [VR] at v1 v2
      obtain ⟨z, e1, l1, l2⟩ := v1
      have hg : (bif Nat.beq b 0 then false else (fun v => match v with | V.w r => Nat.beq r n | _ => false) (V.w (Nat.mod z b))) = true := by
        have : Nat.beq b 0 = false := by
          cases hh : Nat.beq b 0 with
          | false => rfl
          | true => have := Nat.eq_of_beq_eq_true hh; omega
        rw [this]
        show Nat.beq (Nat.mod z b) n = true
        rw [show Nat.mod z b = n from l2, Nat.beq_refl]
      obtain ⟨v, h5, hv⟩ := bin2_ok (op := .rem) (k := .u64) (g := fun a b c => bif Nat.beq b 0 then false else c (.w (Nat.mod a b))) rfl z b (fun v => match v with | V.w r => Nat.beq r n | _ => false) hg
      have h5 : v = .w n := by
        split at h5
        · rw [Nat.eq_of_beq_eq_true h5]
        · cases h5
      subst h5
      obtain ⟨u, h6, h7⟩ := hv l1 v2.2 P t w ρ
      refine ⟨u, exec_bin (by rw [e1]; exact guard_int w) ?_, h7⟩
      rw [e1, v2.1]
      have : dec .u64 b = (b : Int) := dec_small (.inl rfl)
      rw [this] at h6
      exact h6
    · exact op_binI hq hb h
theorem op_bin (hq : CxOK q) (hE : EnOK P q.E) {op : BinOp} {t yt : TypeId} {x y : Operand} (hf : trOp q ⟨dst, .binOp op t x y yt, ty, pos, aft, gd⟩ = .mk f) (h : f e m c = true) : OpR P q ⟨dst, .binOp op t x y yt, ty, pos, aft, gd⟩ e m c := by
  have hf : trBin q op t x y yt = .mk f := hf
  unfold trBin at hf
  split at hf
  · rename_i k hk
    cases hs : isSh op
    · rw [hs] at hf
      cases hr : isRW op k
      · rw [hr] at hf
        exact op_binI hq hf h
      · rw [hr] at hf
        have : op = .rem := by cases op <;> first | rfl | (cases k <;> cases hr)
        subst this
        exact op_remQ hq hf h
    · rw [hs] at hf
      exact op_binSh hq hf h
  · exact op_binS hq hf h
  · have key : (ti q.E t).k ≠ .no := fun e0 => by
      have hb : ∀ neg, binE q neg (ti q.E t).k x y = bad := fun neg => by
        rw [e0]; rfl
      split at hf
      · rw [hb] at hf; exact bad_ok hf h
      · rw [hb] at hf; exact bad_ok hf h
      · exact bad_ok hf h
    split at hf
    · exact op_binE (neg := false) hq hE key hf h
    · exact op_binE (neg := true) hq hE key hf h
    · exact (bad_ok hf h).elim
end
end Go.It
namespace Go.It
open Go.RowKit
open Go.Vc (Keeps cellsAt)
set_option linter.unusedVariables false
set_option linter.constructorNameAsVariable false
theorem VRL.agg {ρ : Rho} {l : List V} {xs : List Value} (h : VRL ρ l xs) (h1 : l.all oneV = true) : VR ρ (.agg l) (.agg xs.toArray) := by simp only [VR]; exact ⟨xs, rfl, h, h1⟩
theorem all_of {l : List V} (h : l.all oneV = true) (o n : Nat) : ((l.drop o).take n).all oneV = true := by
  rw [List.all_eq_true] at *
  exact fun x hx => h x (List.mem_of_mem_drop (List.mem_of_mem_take hx))
section
variable {P : Program} {q : Cx} {e : q.ε} {m : M} {c : V → M → Bool} {f : OpF q} {dst : Option Tmp} {ty : TypeId} {pos : String} {aft : Array Edge} {gd : Option (Nat × Bool)}
theorem wrap_neg {k : IntKind} {a : Nat} (ha : a < 2 ^ k.bits) : k.wrap (0 - dec k a) = dec k ((2 ^ k.bits - a) % 2 ^ k.bits) := by
  have := wrap_sub (k := k) (a := 0) (b := a) ha
  rw [show dec k 0 = 0 from by rw [dec_small (.inr (half_pos k))]; rfl] at this
  rw [this, Nat.zero_add]
theorem ones_of (k : IntKind) : BitVec.ofInt k.bits (if k.signed then -1 else k.max) = BitVec.allOnes k.bits := by cases k <;> rfl
theorem op_un (hq : CxOK q) {op : UnOp} {t : TypeId} {x : Operand} (hf : trOp q ⟨dst, .unOp op t x, ty, pos, aft, gd⟩ = .mk f) (h : f e m c = true) : OpR P q ⟨dst, .unOp op t x, ty, pos, aft, gd⟩ e m c := by
  have hf : trUn q op t x = .mk f := hf
  unfold trUn at hf
  split at hf
  · have h2 := op1_ok hq hf h
    obtain ⟨b, h3, h4⟩ := oB_ok h2
    refine .a0 _ rfl h4 fun m' w0 ρ a w hs => ?_
    have hv := hs.ev x (by simp [Op.operands])
    rw [h3] at hv
    simp only [VR] at hv
    exact ⟨.bool (!b), by simp [execOp, Op.unary, hv], by simp only [VR]⟩
  · rename_i k _ hk
    obtain ⟨okf, hok, ho⟩ := oK_ok k
    obtain ⟨mk, hmk, hm⟩ := mk_ok k
    simp only [hok, hmk, mdB_eq, unb_mk] at hf
    have h2 := op1_ok hq hf h
    obtain ⟨a, h3, h4⟩ := ho _ _ h2
    refine .a0 _ rfl h3 fun m' w0 ρ ac w hs => ?_
    obtain ⟨e1, l1⟩ := h4 ρ _ (hs.ev x (by simp [Op.operands]))
    refine ⟨_, by simp only [execOp, Op.unary, e1, Op.intArith, wrap_neg l1]; rfl, (hm ρ _ _).2 ⟨rfl, Nat.mod_lt _ (Nat.two_pow_pos _)⟩⟩
  · rename_i k _ hk
    obtain ⟨okf, hok, ho⟩ := oK_ok k
    obtain ⟨mk, hmk, hm⟩ := mk_ok k
    simp only [hok, hmk, mdB_eq, unb_mk] at hf
    have h2 := op1_ok hq hf h
    obtain ⟨a, h3, h4⟩ := ho _ _ h2
    refine .a0 _ rfl h3 fun m' w0 ρ ac w hs => ?_
    obtain ⟨e1, l1⟩ := h4 ρ _ (hs.ev x (by simp [Op.operands]))
    have hlt : 2 ^ k.bits - 1 - a < 2 ^ k.bits := by have := Nat.two_pow_pos k.bits; omega
    have key : (BitVec.ofInt k.bits (if k.signed then -1 else k.max) ^^^ BitVec.ofInt k.bits (dec k a)).toNat = 2 ^ k.bits - 1 - a := by
      rw [ones_of, BitVec.allOnes_xor, BitVec.toNat_not, ofInt_dec l1]
    refine ⟨.int k (dec k (2 ^ k.bits - 1 - a)), ?_, (hm ρ _ _).2 ⟨rfl, hlt⟩⟩
    have e2 : (Op.intBits .xor k (if k.signed then -1 else k.max) (dec k a)).run P w = .ok (.int k (dec k (2 ^ k.bits - 1 - a))) w := by
      simp only [Op.intBits, key, wrap_nat' hlt]; rfl
    simp only [execOp, Op.unary, e1, Sem.run_bind, e2]; rfl
  · exact (bad_ok hf h).elim
theorem partC_ok {ag : Bool} {sz off : Nat} {l : List V} {c : V → Bool} (h : partC ag sz off l c = true) : ∃ v, c v = true ∧ ((ag = true ∧ off + sz ≤ l.length ∧ v = .agg ((l.drop off).take sz)) ∨ (ag = false ∧ l[off]? = some v)) := by
  unfold partC at h
  cases ag
  · obtain ⟨x, h1, h2⟩ := nth_ok h
    exact ⟨x, h2, .inr ⟨rfl, h1⟩⟩
  · obtain ⟨h1, h2⟩ := dropC_ok h
    obtain ⟨h3, h4⟩ := takeC_ok h2
    simp only [List.length_drop] at h3
    exact ⟨_, h4, .inl ⟨rfl, by omega, rfl⟩⟩
theorem TIok.part {t : TypeId} {i : TI} (ht : TIok P t i) {off : Nat} {l : List V} {v : V} {ρ : Rho} {xs : List Value} (hx : VRL ρ l xs) (h1 : l.all oneV = true)
    (hp : (isAg i = true ∧ off + i.n ≤ l.length ∧ v = .agg ((l.drop off).take i.n)) ∨ (isAg i = false ∧ l[off]? = some v)) (w : World) : ∃ x, (Go.part t xs.toArray off).run P w = .ok x w ∧ VR ρ v x := by
  rcases hp with ⟨g1, g2, g3⟩ | ⟨g1, g2⟩
  · refine ⟨_, ht.part_agg g1 _ _ w, ?_⟩
    rw [g3]
    have := (hx.drop off).take i.n
    have e : (xs.toArray.extract off (off + i.n)) = ((xs.drop off).take i.n).toArray := by
      simp [List.extract_toArray]
    rw [e]
    exact this.agg (all_of h1 _ _)
  · obtain ⟨x, g3, g4⟩ := hx.get g2
    exact ⟨x, ht.part_one g1 (by simpa using g3) w, g4⟩
theorem fld_ok {E : En} (hE : EnOK P E) {t : TypeId} {k off : Nat} {ft : TypeId} (h : fldAt (ti E t) k = some (off, ft)) : ∃ F fd, P.underlying t = some (.struct F) ∧ F[k]? = some fd ∧ fd.offset = off ∧ fd.type = ft := by
  unfold fldAt at h
  split at h
  · rename_i fs hk
    obtain ⟨d, hd, hkr⟩ := (kn_ok hE hk (by simp)).desc
    rw [hk] at hkr
    simp only [kR] at hkr
    obtain ⟨F, rfl, hF, _⟩ := hkr
    rw [← hF] at h
    simp only [List.getElem?_map, Option.map_eq_some_iff, Prod.mk.injEq] at h
    obtain ⟨fd, h1, h2, h3⟩ := h
    exact ⟨F, fd, hd, by simpa using h1, h2, h3⟩
  · cases h
theorem kn_of {E : En} (hE : EnOK P E) {t : TypeId} (h : (!kn E t) = false) : TIok P t (ti E t) := hE.ty t (by simpa using h)
theorem op_field (hq : CxOK q) (hE : EnOK P q.E) {t : TypeId} {x : Operand} {k : Nat} (hf : trOp q ⟨dst, .field t x k, ty, pos, aft, gd⟩ = .mk f) (h : f e m c = true) : OpR P q ⟨dst, .field t x k, ty, pos, aft, gd⟩ e m c := by
  have hf : trField q t x k = .mk f := hf
  unfold trField at hf
  split at hf
  · rename_i off ft hk
    obtain ⟨F, fd, d1, d2, d3, d4⟩ := fld_ok hE hk
    cases hn : (!kn q.E ft)
    · simp only [hn, cond_false, unb_mk] at hf
      have ht := kn_of hE hn
      have h2 := op1_ok hq hf h
      obtain ⟨l, h3, h4⟩ := oAgg_ok h2
      obtain ⟨v, h5, h6⟩ := partC_ok h4
      refine .a0 _ rfl h5 fun m' w0 ρ a w hs => ?_
      have hv := hs.ev x (by simp [Op.operands])
      rw [h3] at hv
      simp only [VR] at hv
      obtain ⟨xs, e1, e2, e3⟩ := hv
      obtain ⟨u, e4, e5⟩ := ht.part e2 e3 h6 w
      refine ⟨u, ?_, e5⟩
      rw [← d3, ← d4] at e4
      simp [execOp, Instr.field, run_und d1, d2, e1, asAgg, e4]
    · rw [hn] at hf
      exact (bad_ok hf h).elim
  · exact (bad_ok hf h).elim
end
end Go.It
namespace Go.It
open Go.RowKit
open Go.Vc (Keeps cellsAt)
set_option linter.unusedVariables false
set_option linter.constructorNameAsVariable false
theorem add_plain (r o n : Nat) : (⟨r, o, none⟩ : Addr).add n = ⟨r, o + n, none⟩ := by
  unfold Addr.add
  split
  · rename_i h; rw [h]; rfl
  · rfl
theorem W.row {w0 : World} {ρ : Rho} {m : M} {w : World} (hw : W w0 ρ m w) {a r b N : Nat} (ha : ρ a = some (r, b, N)) {wr : Bool} {l : List V} (ho : ob m a = .row wr l) : l.all oneV = true ∧ l.length ≤ N ∧ ∃ xs, VRL ρ l xs ∧ cellsAt w r b xs := by
  have h := hw.obj a r b N ha
  rw [ho] at h
  exact ⟨h.1, h.2.1, h.2.2.1⟩
theorem cells_part {w : World} {r b o n : Nat} {xs : List Value} (h : cellsAt w r b xs) : ∀ (j : Nat) (v : Value), ((xs.drop o).take n)[j]? = some v → w.cell? ((⟨r, b + o, none⟩ : Addr).add j) = some v := fun j v hj => by
  have : xs[o + j]? = some v := by
    rw [List.getElem?_take] at hj
    split at hj
    · simpa using hj
    · cases hj
  have := h _ _ this
  rw [add_plain, Nat.add_assoc]
  exact this
section
variable {P : Program} {q : Cx} {e : q.ε} {m : M} {c : V → M → Bool} {f : OpF q} {dst : Option Tmp} {ty : TypeId} {pos : String} {aft : Array Edge} {gd : Option (Nat × Bool)}
theorem op_load (hq : CxOK q) (hE : EnOK P q.E) {t : TypeId} {x : Operand} (hf : trOp q ⟨dst, .load t x, ty, pos, aft, gd⟩ = .mk f) (h : f e m c = true) : OpR P q ⟨dst, .load t x, ty, pos, aft, gd⟩ e m c := by
  have hf : trLoad q t x = .mk f := hf
  unfold trLoad at hf
  cases hn : (!kn q.E t)
  · simp only [hn, cond_false, unb_mk] at hf
    have ht := kn_of hE hn
    cases hg : isAg (ti q.E t)
    · simp only [hg, cond_false] at hf
      have h2 := op1_ok hq hf h
      obtain ⟨a, o, w', l, v, h3, h4, h5, h6⟩ := ld1_ok h2
      refine .a1 _ rfl h6 fun w0 ρ ac w hs => ?_
      have hv := hs.ev x (by simp [Op.operands])
      rw [h3] at hv
      simp only [VR] at hv
      obtain ⟨r, b, N, e1, e2⟩ := hv
      obtain ⟨k1, k2, xs, k3, k4⟩ := hs.w.row e1 h4
      obtain ⟨u, k5, k6⟩ := k3.get h5
      refine ⟨u, ?_, k6⟩
      have := k4 _ _ k5
      simp [execOp, Instr.loadAt, e2, Instr.sureAddr, loadVar, ht.agg, hg, this]
    · simp only [hg, cond_true] at hf
      have h2 := op1_ok hq hf h
      obtain ⟨a, o, w', l, h3, h4, h5, h6⟩ := ldN_ok h2
      refine .a1 _ rfl h6 fun w0 ρ ac w hs => ?_
      have hv := hs.ev x (by simp [Op.operands])
      rw [h3] at hv
      simp only [VR] at hv
      obtain ⟨r, b, N, e1, e2⟩ := hv
      obtain ⟨k1, k2, xs, k3, k4⟩ := hs.w.row e1 h4
      have k5 := run_loadCells_list (P := P) w ⟨r, b + o, none⟩ ((xs.drop o).take (ti q.E t).n) (cells_part k4)
      have hl : ((xs.drop o).take (ti q.E t).n).length = (ti q.E t).n := by
        have := k3.length
        simp; omega
      rw [hl] at k5
      refine ⟨_, ?_, ((k3.drop o).take (ti q.E t).n).agg (all_of k1 _ _)⟩
      simp [execOp, Instr.loadAt, e2, Instr.sureAddr, loadVar, ht.agg, hg, ht.size, k5]
  · simp only [hn, cond_true] at hf
    exact (bad_ok hf h).elim
theorem op_faddr (hq : CxOK q) (hE : EnOK P q.E) {t : TypeId} {x : Operand} {k : Nat} (hf : trOp q ⟨dst, .fieldAddr t x k, ty, pos, aft, gd⟩ = .mk f) (h : f e m c = true) : OpR P q ⟨dst, .fieldAddr t x k, ty, pos, aft, gd⟩ e m c := by
  have hf : trFaddr q t x k = .mk f := hf
  unfold trFaddr at hf
  split at hf
  · rename_i off ft hk
    obtain ⟨F, fd, d1, d2, d3, d4⟩ := fld_ok hE hk
    cases hn : (Nat.beq (ti q.E ft).n 0 || !kn q.E ft)
    · simp only [hn, cond_false] at hf
      simp only [Bool.or_eq_false_iff] at hn
      have ht := kn_of hE hn.2
      have hz : (ti q.E ft).n ≠ 0 := fun e => by rw [e] at hn; cases hn.1
      have h2 := op1_ok hq hf h
      obtain ⟨a, o, h3, h4⟩ := oP_ok h2
      refine .a0 _ rfl h4 fun m' w0 ρ ac w hs => ?_
      have hv := hs.ev x (by simp [Op.operands])
      rw [h3] at hv
      simp only [VR] at hv
      obtain ⟨r, b, N, e1, e2⟩ := hv
      refine ⟨.pointer (some ⟨r, b + (o + off), none⟩), ?_, by simp only [VR]; exact ⟨r, b, N, e1, rfl⟩⟩
      subst d4 d3
      simp [execOp, Instr.fieldAt, run_und d1, d2, e2, Instr.sureAddr, fieldPlace, ht.size, hz, add_plain, Nat.add_assoc]
    · simp only [hn, cond_true] at hf
      exact (bad_ok hf h).elim
  · exact (bad_ok hf h).elim
end
end Go.It
namespace Go.It
open Go.RowKit
open Go.Vc (Keeps cellsAt)
set_option linter.unusedVariables false
set_option linter.constructorNameAsVariable false
theorem num_get : ∀ {l : List UInt8} {i : Nat} {b : UInt8}, l[i]? = some b → Nat.mod (Nat.shiftRight (num l) (Nat.mul 8 i)) 256 = b.toNat := by
  have key : ∀ (l : List UInt8) (i : Nat) (b : UInt8), l[i]? = some b → num l / 256 ^ i % 256 = b.toNat := by
    intro l
    induction l with
    | nil => intro i b h; simp at h
    | cons a l ih =>
      intro i b h
      have ha := a.toNat_lt
      cases i with
      | zero =>
        simp only [List.getElem?_cons_zero, Option.some.injEq] at h
        subst h
        simp only [num, Nat.add_eq, Nat.mul_eq, Nat.pow_zero, Nat.div_one]
        omega
      | succ i =>
        have := ih i b (by simpa using h)
        rw [← this, Nat.pow_succ, Nat.mul_comm, ← Nat.div_div_eq_div_mul]
        congr 2
        simp only [num, Nat.add_eq, Nat.mul_eq]
        omega
  intro l i b h
  rw [← key l i b h]
  show (num l >>> (8 * i)) % 256 = _
  rw [Nat.shiftRight_eq_div_pow, Nat.pow_mul]
theorem kn_of' {P : Program} {E : En} (hE : EnOK P E) {t : TypeId} (h : kn E t = true) : TIok P t (ti E t) := hE.ty t h
theorem VR.slice {ρ : Rho} {a o n c x : Nat} {v : Value} (h : VR ρ (.sl a o n c x) v) (hc : 0 < c) : ∃ r b N c', ρ a = some (r, b, N) ∧ v = .slice (some ⟨r, b + o, none⟩) n c' ∧ n ≤ c ∧ c ≤ c' ∧ c' ≤ maxLen ∧ (x = 0 → c' = c) ∧ (x ≠ 0 → o + c' * x ≤ N) := by
  simp only [VR] at h
  obtain ⟨adr, c', h1, h2, h3, h4, h5, h6⟩ := h
  rcases h6 with ⟨h6, _⟩ | ⟨r, b, N, g1, g2, g3⟩
  · omega
  · subst g2
    exact ⟨r, b, N, c', g1, h1, h2, h3, h4, h5, g3⟩
section
variable {P : Program} {q : Cx} {e : q.ε} {m : M} {c : V → M → Bool} {f : OpF q} {dst : Option Tmp} {ty : TypeId} {pos : String} {aft : Array Edge} {gd : Option (Nat × Bool)}
theorem op_iaddr (hq : CxOK q) (hE : EnOK P q.E) {t : TypeId} {x y : Operand} (hf : trOp q ⟨dst, .indexAddr t x y, ty, pos, aft, gd⟩ = .mk f) (h : f e m c = true) : OpR P q ⟨dst, .indexAddr t x y, ty, pos, aft, gd⟩ e m c := by
  have hf : trIaddr q t x y = .mk f := hf
  unfold trIaddr at hf
  split at hf
  · rename_i el hk
    obtain ⟨ds, hd, hkr⟩ := (kn_ok hE hk (by simp)).desc
    rw [hk] at hkr
    simp only [kR] at hkr
    subst hkr
    cases hn : kn q.E el
    · simp only [hn, cond_false] at hf
      exact (bad_ok hf h).elim
    · simp only [hn, cond_true, unb_mk] at hf
      have ht := kn_of' hE hn
      have h2 := op2_ok hq hf h
      split at h2 <;> first | (cases h2; done) | skip
      rename_i a o n cp xx hv0
      obtain ⟨i, h3, h4⟩ := oIx_ok h2
      obtain ⟨h5, h6⟩ := bif_t h3
      have h5 : i < n := by rw [Nat.blt_eq] at h5; exact h5
      refine .a0 _ rfl h6 fun m' w0 ρ ac w hs => ?_
      have hv := hs.ev x (by simp [Op.operands])
      obtain ⟨k, e4, _⟩ := h4 ρ _ (hs.ev y (by simp [Op.operands]))
      rw [hv0] at hv
      have hnc : n ≤ cp := by have hv := hv; simp only [VR] at hv; obtain ⟨_, _, _, h, _⟩ := hv; exact h
      obtain ⟨r, b, N, c', g1, g2, _⟩ := hv.slice (by omega)
      refine ⟨.pointer (some ⟨r, b + (o + i * (ti q.E el).n), none⟩), ?_, by simp only [VR]; exact ⟨r, b, N, g1, rfl⟩⟩
      simp [execOp, Instr.indexAt, run_und hd, asIntOf, e4, g2, h5, ht.size, add_plain, Nat.add_assoc]
  · rename_i n el hk
    obtain ⟨ds, hd, hkr⟩ := (kn_ok hE hk (by simp)).desc
    rw [hk] at hkr
    simp only [kR] at hkr
    subst hkr
    cases hn : kn q.E el
    · simp only [hn, cond_false] at hf
      exact (bad_ok hf h).elim
    · simp only [hn, cond_true, unb_mk] at hf
      have ht := kn_of' hE hn
      have h2 := op2_ok hq hf h
      obtain ⟨a, o, hv0, h2⟩ := oP_ok h2
      obtain ⟨i, h3, h4⟩ := oIx_ok h2
      obtain ⟨h5, h6⟩ := bif_t h3
      have h5 : i < n := by rw [Nat.blt_eq] at h5; exact h5
      refine .a0 _ rfl h6 fun m' w0 ρ ac w hs => ?_
      have hv := hs.ev x (by simp [Op.operands])
      obtain ⟨k, e4, _⟩ := h4 ρ _ (hs.ev y (by simp [Op.operands]))
      rw [hv0] at hv
      simp only [VR] at hv
      obtain ⟨r, b, N, g1, g2⟩ := hv
      refine ⟨.pointer (some ⟨r, b + (o + i * (ti q.E el).n), none⟩), ?_, by simp only [VR]; exact ⟨r, b, N, g1, rfl⟩⟩
      simp [execOp, Instr.indexAt, run_und hd, asIntOf, e4, g2, h5, ht.size, Instr.sureAddr, add_plain, Nat.add_assoc]
  · exact (bad_ok hf h).elim
theorem op_index (hq : CxOK q) (hE : EnOK P q.E) {t : TypeId} {x y : Operand} (hf : trOp q ⟨dst, .index t x y, ty, pos, aft, gd⟩ = .mk f) (h : f e m c = true) : OpR P q ⟨dst, .index t x y, ty, pos, aft, gd⟩ e m c := by
  have hf : trIndex q t x y = .mk f := hf
  unfold trIndex at hf
  split at hf
  · rename_i hk
    obtain ⟨ds, hd, hkr⟩ := (kn_ok hE hk (by simp)).desc
    rw [hk] at hkr
    simp only [kR] at hkr
    subst hkr
    have h2 := op2_ok hq hf h
    obtain ⟨n, s, hv0, h3⟩ := oS_ok h2
    obtain ⟨i, h3, h4⟩ := oIx_ok h3
    obtain ⟨h5, h6⟩ := bif_t h3
    have h5 : i < n := by rw [Nat.blt_eq] at h5; exact h5
    refine .a0 _ rfl h6 fun m' w0 ρ ac w hs => ?_
    have hv := hs.ev x (by simp [Op.operands])
    obtain ⟨k, e4, _⟩ := h4 ρ _ (hs.ev y (by simp [Op.operands]))
    rw [hv0] at hv
    simp only [VR] at hv
    obtain ⟨sb, g1, g2, g3, g4⟩ := hv
    obtain ⟨bt, hb⟩ : ∃ bt, sb.data.toList[i]? = some bt := ⟨_, List.getElem?_eq_getElem (by omega)⟩
    have hsz : i < sb.size := by rw [show sb.size = n from by rw [← g2]; exact Array.length_toList.symm]; exact h5
    have hget : sb[i]? = some bt := by
      rw [getElem?_pos sb i hsz]
      have := (List.getElem?_eq_some_iff.1 hb).2
      rw [← this]; rfl
    refine ⟨.int .u8 bt.toNat, ?_, ?_⟩
    · simp [execOp, Instr.index, run_und hd, asIntOf, e4, g1, hget]
    · simp only [VR]
      rw [← g3, num_get hb]
      have := bt.toNat_lt
      exact ⟨by rw [dec_small (.inl rfl)], by simpa [IntKind.bits] using this⟩
  · rename_i n el hk
    obtain ⟨ds, hd, hkr⟩ := (kn_ok hE hk (by simp)).desc
    rw [hk] at hkr
    simp only [kR] at hkr
    subst hkr
    cases hn : kn q.E el
    · simp only [hn, cond_false] at hf
      exact (bad_ok hf h).elim
    · simp only [hn, cond_true, unb_mk] at hf
      have ht := kn_of' hE hn
      have h2 := op2_ok hq hf h
      obtain ⟨l, hv0, h2⟩ := oAgg_ok h2
      obtain ⟨i, h3, h4⟩ := oIx_ok h2
      obtain ⟨h5, h6⟩ := bif_t h3
      have h5 : i < n := by rw [Nat.blt_eq] at h5; exact h5
      obtain ⟨v, h7, h8⟩ := partC_ok h6
      refine .a0 _ rfl h7 fun m' w0 ρ ac w hs => ?_
      have hv := hs.ev x (by simp [Op.operands])
      obtain ⟨k, e4, _⟩ := h4 ρ _ (hs.ev y (by simp [Op.operands]))
      rw [hv0] at hv
      simp only [VR] at hv
      obtain ⟨xs, g1, g2, g3⟩ := hv
      obtain ⟨u, g4, g5⟩ := ht.part g2 g3 h8 w
      refine ⟨u, ?_, g5⟩
      simp only [Nat.mul_eq] at g4
      simp [execOp, Instr.index, run_und hd, asIntOf, e4, g1, h5, ht.size, g4]
  · exact (bad_ok hf h).elim
end
end Go.It
namespace Go.It
open Go.RowKit
open Go.Vc (Keeps cellsAt)
set_option linter.unusedVariables false
set_option linter.constructorNameAsVariable false
def OptR (z n : Nat) (xo : Option Value) : Prop := (xo = none ∧ n = z) ∨ ∃ k, xo = some (.int k (n : Int))
theorem accOpt_eq {q : Cx} (hq : CxOK q) (x : Option Operand) : accOpt q x = .mk fun e => x.map (evD q e) := by
  cases x with
  | none => rfl
  | some x => simp only [accOpt, accO_eq hq, unb_mk]; rfl
theorem oOpt_ok {q : Cx} {e : q.ε} {x : Option Operand} {z : Nat} {c : Nat → Bool} (h : oOpt (x.map (evD q e)) z c = true) : ∃ n, c n = true ∧ ∀ (ρ : Rho) (ev : Operand → Value), (∀ y, x = some y → VR ρ (evD q e y) (ev y)) → OptR z n (x.map ev) := by
  cases x with
  | none => exact ⟨z, h, fun ρ ev _ => .inl ⟨rfl, rfl⟩⟩
  | some y =>
    obtain ⟨n, h1, h2⟩ := oIx_ok h
    refine ⟨n, h1, fun ρ ev hv => ?_⟩
    obtain ⟨k, h3, _⟩ := h2 ρ _ (hv y rfl)
    exact .inr ⟨k, by rw [Option.map_some, h3]⟩
theorem run_bounds {P : Program} {w : World} {b : Bool} {len cap h l : Nat} {lo hi : Option Value} (hh : OptR len h hi) (hl : OptR 0 l lo) (h1 : l ≤ h) (h2 : h ≤ cap) : (Instr.sliceBounds b len cap lo hi none).run P w = .ok (l, h, cap) w := by
  rcases hh with ⟨rfl, rfl⟩ | ⟨k, rfl⟩ <;> rcases hl with ⟨rfl, rfl⟩ | ⟨k', rfl⟩ <;> simp [Instr.sliceBounds, Instr.sliceBound, asIntOf, h1, h2]
theorem run_bounds3 {P : Program} {w : World} {len cap u h l : Nat} {k k' : IntKind} {lo : Option Value} (hl : OptR 0 l lo) (h1 : l ≤ h) (h2 : h ≤ u) (h3 : u ≤ cap) : (Instr.sliceBounds true len cap lo (some (.int k (h : Int))) (some (.int k' (u : Int)))).run P w = .ok (l, h, u) w := by
  rcases hl with ⟨rfl, rfl⟩ | ⟨k', rfl⟩ <;> simp [Instr.sliceBounds, Instr.sliceBound, asIntOf, h1, h2, h3]
theorem num_drop : ∀ (l : List UInt8) (n : Nat), num (l.drop n) = num l / 256 ^ n
  | l, 0 => by simp
  | [], n + 1 => by simp [num]
  | a :: l, n + 1 => by
    have ha := a.toNat_lt
    rw [List.drop_succ_cons, num_drop l n, Nat.pow_succ, Nat.mul_comm, ← Nat.div_div_eq_div_mul]
    congr 1
    simp only [num, Nat.add_eq, Nat.mul_eq]
    omega
theorem num_take (l : List UInt8) (n : Nat) : num (l.take n) = num l % 256 ^ n := by
  by_cases h : n ≤ l.length
  · have e := num_app (l.take n) (l.drop n)
    rw [List.take_append_drop] at e
    have hl : (l.take n).length = n := by simp [h]
    have hlt := num_lt (l.take n)
    rw [hl] at e hlt
    rw [e, Nat.add_mul_mod_self_right, Nat.mod_eq_of_lt hlt]
  · have hlt := num_lt l
    rw [List.take_of_length_le (by omega), Nat.mod_eq_of_lt (Nat.lt_of_lt_of_le hlt (Nat.pow_le_pow_right (by omega) (by omega)))]
theorem extract_list (s : ByteArray) (l h : Nat) : (s.extract l h).data.toList = (s.data.toList.drop l).take (h - l) := by
  simp [ByteArray.extract, ByteArray.copySlice, List.extract_eq_take_drop]
section
variable {P : Program} {q : Cx} {e : q.ε} {m : M} {c : V → M → Bool} {f : OpF q} {dst : Option Tmp} {ty : TypeId} {pos : String} {aft : Array Edge} {gd : Option (Nat × Bool)}
theorem op_slice (hq : CxOK q) (hE : EnOK P q.E) {t : TypeId} {x : Operand} {lo hi mx : Option Operand} (hf : trOp q ⟨dst, .slice t x lo hi mx, ty, pos, aft, gd⟩ = .mk f) (h : f e m c = true) : OpR P q ⟨dst, .slice t x lo hi mx, ty, pos, aft, gd⟩ e m c := by
  replace hf : trSlice q t x lo hi mx = .mk f := hf
  simp only [trSlice, accO_eq hq, accOpt_eq hq, unb_mk] at hf
  have evx : ∀ {w0 ρ m' ac w}, Sv q w0 ρ e m' ac w (Op.slice t x lo hi mx).operands → VR ρ (evD q e x) (ac.eval x) ∧ (∀ y, lo = some y → VR ρ (evD q e y) (ac.eval y)) ∧ (∀ y, hi = some y → VR ρ (evD q e y) (ac.eval y)) := fun hs =>
    ⟨hs.ev x (by simp [Op.operands]), fun y hy => hs.ev y (by subst hy; simp [Op.operands]), fun y hy => hs.ev y (by subst hy; simp [Op.operands])⟩
  split at hf
  · rename_i hk
    obtain ⟨ds, hd, hkr⟩ := (kn_ok hE hk (by simp)).desc
    rw [hk] at hkr
    simp only [kR] at hkr
    subst hkr
    simp only [Box.mk.injEq] at hf
    subst hf
    obtain ⟨n, s, hv0, h2⟩ := oS_ok h
    obtain ⟨hh, h3, hhi⟩ := oOpt_ok h2
    obtain ⟨ll, h4, hlo⟩ := oOpt_ok h3
    obtain ⟨h5, h6⟩ := bif_t h4
    obtain ⟨h7, h8⟩ := bif_t h6
    have h5 := Nat.le_of_ble_eq_true h5
    have h7 := Nat.le_of_ble_eq_true h7
    refine .a0 _ rfl h8 fun m' w0 ρ ac w hs => ?_
    obtain ⟨vx, vl, vh⟩ := evx hs
    rw [hv0] at vx
    simp only [VR] at vx
    obtain ⟨sb, g1, g2, g3, g4⟩ := vx
    have hsz : sb.size = n := by rw [← g2]; exact Array.length_toList.symm
    have hb := run_bounds (P := P) (w := w) (b := false) (cap := n) (hhi ρ ac.eval vh) (hlo ρ ac.eval vl) h7 h5
    refine ⟨.string (sb.extract ll hh), ?_, ?_⟩
    · simp [execOp, Instr.sliceAt, run_und hd, Instr.slice, g1, hsz, hb]
    · simp only [VR]
      refine ⟨_, rfl, by rw [extract_list]; simp [g2]; omega, ?_, by simp only [Nat.sub_eq, maxLen] at *; omega⟩
      rw [extract_list, num_take, num_drop, g3]
      show _ = (s >>> (8 * ll)) % 256 ^ (hh - ll)
      rw [Nat.shiftRight_eq_div_pow, Nat.pow_mul]
  · rename_i el hk
    obtain ⟨ds, hd, hkr⟩ := (kn_ok hE hk (by simp)).desc
    rw [hk] at hkr
    simp only [kR] at hkr
    subst hkr
    cases hn : kn q.E el
    · simp only [hn, cond_false] at hf
      exact (bad_ok hf h).elim
    · simp only [hn, cond_true, Box.mk.injEq] at hf
      have ht := kn_of' hE hn
      subst hf
      simp only at h
      split at h
      · rename_i a o n k xx hv0
        obtain ⟨hh, h3, hhi⟩ := oOpt_ok h
        obtain ⟨ll, h4, hlo⟩ := oOpt_ok h3
        obtain ⟨h5, h6⟩ := bif_t h4
        obtain ⟨h7, h8⟩ := bif_t h6
        have h5 := Nat.le_of_ble_eq_true h5
        have h7 := Nat.le_of_ble_eq_true h7
        have base : ∀ {w0 ρ m' ac w}, Sv q w0 ρ e m' ac w (Op.slice t x lo hi none).operands → ∃ adr c', ac.eval x = .slice (some adr) n c' ∧ n ≤ k ∧ k ≤ c' ∧ c' ≤ maxLen ∧ (xx = 0 → c' = k) ∧ ((k = 0 ∧ xx ≠ 0) ∨ ∃ r b N, ρ a = some (r, b, N) ∧ adr = ⟨r, b + o, none⟩ ∧ (xx ≠ 0 → o + c' * xx ≤ N)) ∧
            (execOp ac.eval ⟨dst, .slice t x lo hi none, ty, pos, aft, gd⟩).run P w = .ok (.value (.slice (some (if c' = ll then adr else adr.add (ll * (ti q.E el).n))) (hh - ll) (c' - ll))) w := fun {w0 ρ m' ac w} hs => by
          obtain ⟨vx, vl, vh⟩ := evx hs
          rw [hv0] at vx
          simp only [VR] at vx
          obtain ⟨adr, c', g1, g2, g3, g4, g5, g6⟩ := vx
          have hb := run_bounds (P := P) (w := w) (b := true) (cap := c') (hhi ρ ac.eval vh) (hlo ρ ac.eval vl) h7 (by omega)
          refine ⟨adr, c', g1, g2, g3, g4, g5, g6, ?_⟩
          have hsz := ht.size w
          by_cases hcl : c' = ll
          · subst hcl
            simp [execOp, Instr.sliceAt, run_und hd, Instr.slice, g1, hb, hsz]
          · simp [execOp, Instr.sliceAt, run_und hd, Instr.slice, g1, hb, hsz, hcl]
        cases hx0 : Nat.beq xx 0
        · simp only [hx0, cond_false] at h8
          obtain ⟨h9, h10⟩ := bif_t h8
          have h9 : xx = (ti q.E el).n := Nat.eq_of_beq_eq_true h9
          have hx0 : xx ≠ 0 := fun e => by rw [e] at hx0; cases hx0
          refine .a0 _ rfl h10 fun m' w0 ρ ac w hs => ?_
          obtain ⟨adr, c', g1, g2, g3, g4, g5, g6, g7⟩ := base hs
          refine ⟨_, g7, ?_⟩
          simp only [VR, Nat.add_eq, Nat.mul_eq, Nat.sub_eq]
          refine ⟨_, _, rfl, by omega, by omega, by omega, fun e => absurd e hx0, ?_⟩
          by_cases hkl : k = ll
          · exact .inl ⟨by omega, hx0⟩
          · rcases g6 with ⟨g6, _⟩ | ⟨r, b, N, k1, k2, k3⟩
            · exact .inl ⟨by omega, hx0⟩
            · right
              refine ⟨r, b, N, k1, ?_, fun _ => ?_⟩
              · rw [if_neg (by omega), k2, add_plain, Nat.add_assoc]
              · have k3 := k3 hx0
                rw [h9] at k3 ⊢
                have : ll * (ti q.E el).n + (c' - ll) * (ti q.E el).n = c' * (ti q.E el).n := by rw [← Nat.add_mul]; congr 1; omega
                omega
        · simp only [hx0, cond_true] at h8
          have hx0 : xx = 0 := Nat.eq_of_beq_eq_true hx0
          cases hkl : Nat.beq ll k
          · simp only [hkl, cond_false] at h8
            have hkl : ll ≠ k := fun e => by rw [e, Nat.beq_refl] at hkl; cases hkl
            refine .a0 _ rfl h8 fun m' w0 ρ ac w hs => ?_
            obtain ⟨adr, c', g1, g2, g3, g4, g5, g6, g7⟩ := base hs
            have g5 := g5 hx0
            refine ⟨_, g7, ?_⟩
            simp only [VR, Nat.add_eq, Nat.mul_eq, Nat.sub_eq]
            refine ⟨_, _, rfl, by omega, by omega, by omega, fun _ => by rw [g5], ?_⟩
            rcases g6 with ⟨_, g6⟩ | ⟨r, b, N, k1, k2, k3⟩
            · exact absurd hx0 g6
            · right
              exact ⟨r, b, N, k1, by rw [if_neg (by omega), k2, add_plain, Nat.add_assoc], fun e => absurd rfl e⟩
          · simp only [hkl, cond_true] at h8
            have hkl : ll = k := Nat.eq_of_beq_eq_true hkl
            refine .a0 _ rfl h8 fun m' w0 ρ ac w hs => ?_
            obtain ⟨adr, c', g1, g2, g3, g4, g5, g6, g7⟩ := base hs
            have g5 := g5 hx0
            refine ⟨_, g7, ?_⟩
            simp only [VR]
            refine ⟨_, _, by rw [show hh - ll = 0 from by omega], Nat.le_refl _, Nat.zero_le _, by omega, fun _ => by omega, ?_⟩
            rcases g6 with ⟨_, g6⟩ | ⟨r, b, N, k1, k2, k3⟩
            · exact absurd hx0 g6
            · right
              exact ⟨r, b, N, k1, by rw [if_pos (by omega), k2], fun e => absurd rfl e⟩
      · rename_i hv0
        obtain ⟨hh, h3, hhi⟩ := oOpt_ok h
        obtain ⟨ll, h4, hlo⟩ := oOpt_ok h3
        obtain ⟨h5, h6⟩ := bif_t h4
        obtain ⟨h7, h8⟩ := bif_t h6
        have h5 := Nat.eq_of_beq_eq_true h5
        have h7 := Nat.eq_of_beq_eq_true h7
        refine .a0 _ rfl h8 fun m' w0 ρ ac w hs => ?_
        obtain ⟨vx, vl, vh⟩ := evx hs
        rw [hv0] at vx
        simp only [VR, zR] at vx
        have hb := run_bounds (P := P) (w := w) (b := true) (cap := 0) (hhi ρ ac.eval vh) (hlo ρ ac.eval vl) (by omega) (by omega)
        subst h5 h7
        exact ⟨.slice none 0 0, by simp [execOp, Instr.sliceAt, run_und hd, Instr.slice, vx, hb, ht.size], by simp only [VR, zR]⟩
      · cases h
  · rename_i el z hk
    obtain ⟨ds, hd, hkr⟩ := (kn_ok hE hk (by simp)).desc
    rw [hk] at hkr
    simp only [kR] at hkr
    subst hkr
    cases hn : kn q.E el
    · simp only [hn, cond_false] at hf
      exact (bad_ok hf h).elim
    · simp only [hn, cond_true, accO_eq hq, unb_mk, Box.mk.injEq] at hf
      have ht := kn_of' hE hn
      subst hf
      simp only at h
      split at h <;> first | (cases h; done) | skip
      rename_i a o n k xx hv0
      obtain ⟨uu, h1, hu⟩ := oIx_ok h
      cases hi with
      | none => cases h1
      | some hi =>
        simp only [Option.map_some] at h1
        obtain ⟨hh, h3, hhi⟩ := oIx_ok h1
        obtain ⟨ll, h4, hlo⟩ := oOpt_ok h3
        obtain ⟨h5, h6⟩ := bif_t h4
        obtain ⟨h7, h8⟩ := bif_t h6
        obtain ⟨h9, h10⟩ := bif_t h8
        have h5 := Nat.le_of_ble_eq_true h5
        have h7 := Nat.le_of_ble_eq_true h7
        have h9 := Nat.le_of_ble_eq_true h9
        refine .a0 _ rfl h10 fun m' w0 ρ ac w hs => ?_
        obtain ⟨vx, vl, vh⟩ := evx hs
        rw [hv0] at vx
        simp only [VR] at vx
        obtain ⟨adr, c', g1, g2, g3, _⟩ := vx
        obtain ⟨k1, e1, _⟩ := hu ρ _ (hs.ev z (by simp [Op.operands]))
        obtain ⟨k2, e2, _⟩ := hhi ρ _ (vh hi rfl)
        have hb := run_bounds3 (P := P) (w := w) (len := n) (cap := c') (k := k2) (k' := k1) (hlo ρ ac.eval vl) h9 h7 (by omega)
        have hsz := ht.size w
        refine ⟨.slice (some (if uu = ll then adr else adr.add (ll * (ti q.E el).n))) (hh - ll) (uu - ll), ?_, VR.junk _ _⟩
        by_cases hcl : uu = ll
        · subst hcl
          simp [execOp, Instr.sliceAt, run_und hd, Instr.slice, g1, e1, e2, hb, hsz]
        · simp [execOp, Instr.sliceAt, run_und hd, Instr.slice, g1, e1, e2, hb, hsz, hcl]
  · rename_i n el hk
    obtain ⟨ds, hd, hkr⟩ := (kn_ok hE hk (by simp)).desc
    rw [hk] at hkr
    simp only [kR] at hkr
    subst hkr
    cases hn : (and (kn q.E el) (Nat.ble n 1099511627776))
    · simp only [hn, cond_false] at hf
      exact (bad_ok hf h).elim
    · simp only [hn, cond_true, Box.mk.injEq] at hf
      simp only [Bool.and_eq_true] at hn
      have ht := kn_of' hE hn.1
      have hnm : n ≤ maxLen := by have := Nat.le_of_ble_eq_true hn.2; simp only [maxLen]; omega
      subst hf
      obtain ⟨a, o, hv0, h2⟩ := oP_ok h
      obtain ⟨hh, h3, hhi⟩ := oOpt_ok h2
      obtain ⟨ll, h4, hlo⟩ := oOpt_ok h3
      obtain ⟨h5, h6⟩ := bif_t h4
      obtain ⟨h7, h8⟩ := bif_t h6
      have h5 := Nat.le_of_ble_eq_true h5
      have h7 := Nat.le_of_ble_eq_true h7
      have base : ∀ {w0 ρ m' ac w}, Sv q w0 ρ e m' ac w (Op.slice t x lo hi none).operands → ∃ r b N, ρ a = some (r, b, N) ∧
          (execOp ac.eval ⟨dst, .slice t x lo hi none, ty, pos, aft, gd⟩).run P w = .ok (.value (.slice (some (if n = ll then ⟨r, b + o, none⟩ else ⟨r, b + (o + ll * (ti q.E el).n), none⟩)) (hh - ll) (n - ll))) w := fun {w0 ρ m' ac w} hs => by
        obtain ⟨vx, vl, vh⟩ := evx hs
        rw [hv0] at vx
        simp only [VR] at vx
        obtain ⟨r, b, N, g1, g2⟩ := vx
        have hb := run_bounds (P := P) (w := w) (b := false) (cap := n) (hhi ρ ac.eval vh) (hlo ρ ac.eval vl) h7 (by omega)
        refine ⟨r, b, N, g1, ?_⟩
        have hsz := ht.size w
        by_cases hcl : n = ll
        · subst hcl
          simp [execOp, Instr.sliceAt, run_und hd, Instr.sureAddr, g2, hb, hsz]
        · simp [execOp, Instr.sliceAt, run_und hd, Instr.sureAddr, g2, hb, hsz, hcl, add_plain, Nat.add_assoc]
      cases hkl : Nat.beq ll n
      · simp only [hkl, cond_false] at h8
        have hkl : ll ≠ n := fun e => by rw [e, Nat.beq_refl] at hkl; cases hkl
        refine .a0 _ rfl h8 fun m' w0 ρ ac w hs => ?_
        obtain ⟨r, b, N, g1, g7⟩ := base hs
        refine ⟨_, g7, ?_⟩
        simp only [VR, Nat.add_eq, Nat.mul_eq, Nat.sub_eq]
        exact ⟨_, _, rfl, by omega, by omega, by omega, fun _ => rfl, .inr ⟨r, b, N, g1, by rw [if_neg (by omega)], fun e => absurd rfl e⟩⟩
      · simp only [hkl, cond_true] at h8
        have hkl : ll = n := Nat.eq_of_beq_eq_true hkl
        refine .a0 _ rfl h8 fun m' w0 ρ ac w hs => ?_
        obtain ⟨r, b, N, g1, g7⟩ := base hs
        refine ⟨_, g7, ?_⟩
        simp only [VR]
        exact ⟨_, _, by rw [show hh - ll = 0 from by omega], Nat.le_refl _, Nat.zero_le _, by omega, fun _ => by omega, .inr ⟨r, b, N, g1, by rw [if_pos (by omega)], fun e => absurd rfl e⟩⟩
  · exact (bad_ok hf h).elim
end
end Go.It
namespace Go.It
open Go.RowKit
open Go.Vc (Keeps cellsAt)
set_option linter.unusedVariables false
set_option linter.constructorNameAsVariable false
theorem fold_set (off : Nat) : ∀ (cs : List Value) (j : Nat) (A : Array Value), off + j + cs.length ≤ A.size →
    ((cs.zipIdx j).foldl (fun A p => A.setIfInBounds (off + p.2) p.1) A).toList = A.toList.take (off + j) ++ cs ++ A.toList.drop (off + j + cs.length)
  | [], j, A, h => by simp
  | c :: cs, j, A, h => by
    simp only [List.length_cons] at h
    have hk : off + j < A.toList.length := by simp; omega
    rw [List.zipIdx_cons, List.foldl_cons, fold_set off cs (j + 1) _ (by simp; omega)]
    simp only [Array.toList_setIfInBounds]
    have e : A.toList.set (off + j) c = A.toList.take (off + j) ++ c :: A.toList.drop (off + j + 1) := by
      rw [List.set_eq_take_append_cons_drop, if_pos hk]
    have ht : (A.toList.take (off + j)).length = off + j := by simp; omega
    have e1 : (A.toList.set (off + j) c).take (off + (j + 1)) = A.toList.take (off + j) ++ [c] := by
      rw [e, List.take_append, ht, List.take_of_length_le (by rw [ht]; omega), show off + (j + 1) - (off + j) = 1 from by omega]
      rfl
    have e2 : (A.toList.set (off + j) c).drop (off + (j + 1) + cs.length) = A.toList.drop (off + j + (cs.length + 1)) := by
      rw [e, List.drop_append, ht, List.drop_eq_nil_of_le (by rw [ht]; omega), show off + (j + 1) + cs.length - (off + j) = cs.length + 1 from by omega]
      simp [List.drop_drop]
      congr 1; omega
    rw [e1, e2]
    simp
theorem cells_fold (off : Nat) (v : Value) (xs : List Value) (h : off + v.cells.size ≤ xs.length) :
    (v.cells.zipIdx.foldl (fun cs (c, j) => cs.setIfInBounds (off + j) c) xs.toArray) = (xs.take off ++ v.cells.toList ++ xs.drop (off + v.cells.size)).toArray := by
  apply Array.ext'
  rw [← Array.foldl_toList, Array.toList_zipIdx]
  have := fold_set off v.cells.toList 0 xs.toArray (by simpa using h)
  simpa using this
theorem VRL.set {ρ : Rho} {l ds : List V} {xs ys : List Value} (h : VRL ρ l xs) (k : VRL ρ ds ys) (o : Nat) : VRL ρ (l.take o ++ ds ++ l.drop (o + ds.length)) (xs.take o ++ ys ++ xs.drop (o + ys.length)) := by
  rw [k.length]
  exact ((h.take o).append k).append (h.drop _)
theorem all_set {l ds : List V} (h : l.all oneV = true) (k : ds.all oneV = true) (o n : Nat) : (l.take o ++ ds ++ l.drop n).all oneV = true := by
  simp only [List.all_append, Bool.and_eq_true]
  rw [List.all_eq_true] at h
  exact ⟨⟨List.all_eq_true.2 fun x hx => h x (List.mem_of_mem_take hx), k⟩, List.all_eq_true.2 fun x hx => h x (List.mem_of_mem_drop hx)⟩
theorem fillC_ok {pl : Nat → Option (Nat × Nat)} : ∀ {is : List Nat} {vs l : List V} {c : List V → Bool}, fillC pl (zipI is vs) l c = true → is.length = vs.length → ∃ l', c l' = true ∧
    ∀ (ρ : Rho) (us xs : List Value), VRL ρ vs us → VRL ρ l xs → l.all oneV = true → ∃ ys, Instr.fill pl xs.toArray (is.zip us) = some ys.toArray ∧ VRL ρ l' ys ∧ l'.all oneV = true ∧ l'.length = l.length
  | [], [], l, c, h, _ => ⟨l, h, fun ρ us xs hu hx ha => ⟨xs, rfl, hx, ha, rfl⟩⟩
  | [], _ :: _, _, _, _, hl => by simp at hl
  | _ :: _, [], _, _, _, hl => by simp at hl
  | i :: is, v :: vs, l, c, h, hl => by
    simp only [zipI, fillC] at h
    split at h
    · rename_i o sz hp
      cases hz : Nat.beq sz 0
      · rw [hz] at h
        obtain ⟨h1, h2⟩ := bif_t h
        have h1 : (cellsV v).length = sz := by rw [← lenL_eq]; exact Nat.eq_of_beq_eq_true h1
        have hz : sz ≠ 0 := fun e => by rw [e] at hz; cases hz
        obtain ⟨h3, h4⟩ := setC_ok h2
        have hpos : 0 < (cellsV v).length := by omega
        obtain ⟨l', g1, g4⟩ := fillC_ok h4 (by simpa using hl)
        refine ⟨l', g1, fun ρ us xs hu hx ha => ?_⟩
        simp only [VRL] at hu
        obtain ⟨u, us, rfl, hu1, hu2⟩ := hu
        obtain ⟨c1, c2⟩ := cells_ok hu1 hpos
        have cl := c1.length
        have xl := hx.length
        obtain ⟨ys, k1, k2, k3, k4⟩ := g4 ρ us _ hu2 (hx.set c1 o) (all_set ha c2 _ _)
        refine ⟨ys, ?_, k2, k3, by rw [k4]; simp; omega⟩
        have hsz : u.cells.size = sz := by rw [← Array.length_toList, cl, h1]
        simp only [Array.length_toList] at k1
        simp only [List.zip_cons_cons, Instr.fill, hp]
        rw [cells_fold o u xs (by omega), if_neg]
        · exact k1
        · simp only [hsz, ne_eq, not_true_eq_false, decide_false, Bool.false_or, decide_eq_true_eq, List.size_toArray]
          omega
      · rw [hz] at h; cases h
    · cases h
theorem mapM_all {α β : Type} {f : α → Option β} {g : α → β} : ∀ {l : List α}, (∀ x ∈ l, f x = some (g x)) → l.mapM f = some (l.map g)
  | [], _ => rfl
  | x :: l, h => by
    simp only [List.mapM_cons, h x (.head _), mapM_all (fun y hy => h y (.tail _ hy)), List.map_cons]
    rfl
theorem TIok.zero {P : Program} {t : TypeId} {i : TI} (h : TIok P t i) : ∃ f z, P.info? t = some f ∧ f.size = i.n ∧ f.zero = some z ∧ ∀ ρ, VRL ρ i.z z.cells.toList := by
  obtain ⟨f, h1, h2, _, z, h3, _, _, h4⟩ := h.info
  exact ⟨f, z, h1, h2, h3, h4⟩
theorem zip_parts (ps : Array (Nat × Operand)) (ev : Operand → Value) : (ps.map fun (i, x) => (i, ev x)).toList = (ps.toList.map (·.1)).zip ((ps.toList.map (·.2)).map ev) := by
  rw [Array.toList_map]
  generalize ps.toList = l
  induction l with
  | nil => rfl
  | cons p l ih => simp [ih]
section
variable {P : Program} {q : Cx} {e : q.ε} {m : M} {c : V → M → Bool} {f : OpF q} {dst : Option Tmp} {ty : TypeId} {pos : String} {aft : Array Edge} {gd : Option (Nat × Bool)}
theorem op_build (hq : CxOK q) (hE : EnOK P q.E) {t : TypeId} {ps : Array (Nat × Operand)} (hf : trOp q ⟨dst, .build t ps, ty, pos, aft, gd⟩ = .mk f) (h : f e m c = true) : OpR P q ⟨dst, .build t ps, ty, pos, aft, gd⟩ e m c := by
  replace hf : trBuild q t ps.toList = .mk f := hf
  simp only [trBuild, accL_eq hq, unb_mk] at hf
  have evl : ∀ {w0 ρ m' ac w}, Sv q w0 ρ e m' ac w (Op.build t ps).operands → VRL ρ ((ps.toList.map (·.2)).map (evD q e)) ((ps.toList.map (·.2)).map ac.eval) := fun hs => hs.evL fun x hx => by
    simp only [List.mem_map] at hx
    obtain ⟨p, hp, rfl⟩ := hx
    have hp : p ∈ ps := by simpa using hp
    simp [Op.operands]
    exact ⟨p.1, hp⟩
  have fin : ∀ {pl : Nat → Option (Nat × Nat)}, fillC pl (zipI (ps.toList.map (·.1)) ((ps.toList.map (·.2)).map (evD q e))) (ti q.E t).z (fun l => c (.agg l) m) = true → TIok P t (ti q.E t) →
      (∀ (z : Value) (f : TypeInfo), P.info? t = some f → f.zero = some z → ∀ parts, P.built t parts = Instr.fill pl z.cells parts) → OpR P q ⟨dst, .build t ps, ty, pos, aft, gd⟩ e m c := fun {pl} hh ht hb => by
    obtain ⟨l', g1, g2⟩ := fillC_ok hh (by simp)
    refine .a0 _ rfl g1 fun m' w0 ρ ac w hs => ?_
    obtain ⟨f, z, z1, z2, z3, z4⟩ := ht.zero
    obtain ⟨ys, k1, k2, k3, k4⟩ := g2 ρ _ _ (evl hs) (z4 ρ) ht.zone.1
    refine ⟨.agg ys.toArray, ?_, k2.agg k3⟩
    have := run_build (P := P) w t (ps.map fun (i, x) => (i, ac.eval x)) ys.toArray (by rw [hb z f z1 z3, zip_parts]; simpa using k1)
    simp only [execOp, Sem.run_bind, this]
    rfl
  split at hf
  · rename_i fs hk
    have ht := kn_ok hE hk (by simp)
    obtain ⟨ds, hd, hkr⟩ := ht.desc
    rw [hk] at hkr
    simp only [kR] at hkr
    obtain ⟨F, rfl, hF, _⟩ := hkr
    cases hn : fs.all (fun p => kn q.E p.2)
    · simp only [hn, cond_false] at hf
      exact (bad_ok hf h).elim
    · simp only [hn, cond_true, Box.mk.injEq] at hf
      subst hf
      refine fin h ht fun z f z1 z3 parts => ?_
      have hpl : F.toList.mapM (fun f => (P.info? f.type).map fun i => (f.offset, i.size)) = some (F.toList.map fun f => (f.offset, (ti q.E f.type).n)) := mapM_all fun fd hfd => by
        have : kn q.E fd.type = true := by
          rw [List.all_eq_true] at hn
          have := hn (fd.offset, fd.type) (by rw [← hF]; exact List.mem_map.2 ⟨fd, hfd, rfl⟩)
          exact this
        obtain ⟨fi, _, i1, i2, _⟩ := (kn_of' hE this).zero
        rw [i1, ← i2]; rfl
      unfold Program.built
      rw [z1, hd]
      simp only [z3, hpl]
      congr 1
      funext i
      rw [← hF]
      simp only [List.getElem?_toArray, List.getElem?_map]
      cases F.toList[i]? <;> rfl
  · rename_i n el hk
    have ht := kn_ok hE hk (by simp)
    obtain ⟨ds, hd, hkr⟩ := ht.desc
    rw [hk] at hkr
    simp only [kR] at hkr
    subst hkr
    cases hn : kn q.E el
    · simp only [hn, cond_false] at hf
      exact (bad_ok hf h).elim
    · simp only [hn, cond_true, Box.mk.injEq] at hf
      subst hf
      refine fin h ht fun z f z1 z3 parts => ?_
      obtain ⟨fi, _, i1, i2, _⟩ := (kn_of' hE hn).zero
      unfold Program.built
      rw [z1, hd]
      simp only [z3, i1, i2]
      rfl
  · exact (bad_ok hf h).elim
end
end Go.It
namespace Go.It
open Go.RowKit
open Go.Vc (Keeps cellsAt)
set_option linter.unusedVariables false
set_option linter.constructorNameAsVariable false
section
variable {P : Program} {q : Cx} {e : q.ε} {m : M} {c : V → M → Bool} {f : OpF q} {dst : Option Tmp} {ty : TypeId} {pos : String} {aft : Array Edge} {gd : Option (Nat × Bool)}
theorem arr1 {args : Array Operand} {x : Operand} (h : args.toList = [x]) : args = #[x] := by
  apply Array.ext'; simpa using h
theorem arr2 {args : Array Operand} {x y : Operand} (h : args.toList = [x, y]) : args = #[x, y] := by
  apply Array.ext'; simpa using h
theorem arrT {ats : Array TypeId} {t : TypeId} {l : List TypeId} (h : ats.toList = t :: l) : ats[0]? = some t := by
  have : ats.toList[0]? = some t := by rw [h]; rfl
  simpa using this
theorem op_len (hq : CxOK q) (hE : EnOK P q.E) {x : Operand} {ats : Array TypeId} {t : TypeId} (ht0 : ats[0]? = some t) {F : Box (OpF q)} (hF : F = trBi q .len ty [x] (t :: []) ) (hf : F = .mk f) (h : f e m c = true) : OpR P q ⟨dst, .call ⟨.builtin .len, #[x], ats⟩, ty, pos, aft, gd⟩ e m c := by
  subst hF
  unfold trBi at hf
  simp only at hf
  have ev1 : ∀ {w0 ρ m' ac w}, Sv q w0 ρ e m' ac w (Op.call ⟨.builtin .len, #[x], ats⟩).operands → VR ρ (evD q e x) (ac.eval x) := fun hs => hs.ev x (by simp [Op.operands, Call.operands])
  have fin : ∀ {w : World} {ρ : Operand → Value} {v : Value}, (Builtin.len_ ats ty #[ρ x]).run P w = .ok v w → (execOp ρ ⟨dst, .call ⟨.builtin .len, #[x], ats⟩, ty, pos, aft, gd⟩).run P w = .ok (.value v) w := fun hv => by
    simp [execOp, resolve, invoke, builtin, hv]
  have vi : ∀ {ρ : Rho} {n : Nat}, n ≤ 1099511627776 ∨ n ≤ maxLen → VR ρ (.i n) (goInt n) := fun {ρ n} hn => by
    have hn : n < 2 ^ 63 := by simp only [maxLen] at hn; omega
    simp only [VR, goInt]
    exact ⟨by rw [dec_small (.inr hn)], by omega⟩
  split at hf
  · rename_i hk
    obtain ⟨ds, hd, hkr⟩ := (kn_ok hE hk (by simp)).desc
    rw [hk] at hkr
    simp only [kR] at hkr
    subst hkr
    have h2 := op1_ok hq hf h
    obtain ⟨n, s, hv0, h3⟩ := oS_ok h2
    refine .a1 _ rfl h3 fun w0 ρ ac w hs => ?_
    have hv := ev1 hs
    rw [hv0] at hv
    simp only [VR] at hv
    obtain ⟨sb, g1, g2, g3, g4⟩ := hv
    have hsz : sb.size = n := by rw [← g2]; exact Array.length_toList.symm
    exact ⟨_, fin (by simp [Builtin.len_, ht0, run_und hd, g1, hsz]), vi (.inr g4)⟩
  · rename_i el hk
    obtain ⟨ds, hd, hkr⟩ := (kn_ok hE hk (by simp)).desc
    rw [hk] at hkr
    simp only [kR] at hkr
    subst hkr
    have h2 := op1_ok hq hf h
    split at h2 <;> first | (cases h2; done) | skip
    · rename_i hv0
      refine .a1 _ rfl h2 fun w0 ρ ac w hs => ?_
      have hv := ev1 hs
      rw [hv0] at hv
      simp only [VR, zR] at hv
      exact ⟨_, fin (by simp [Builtin.len_, ht0, run_und hd, hv]), vi (n := 0) (.inr (Nat.zero_le _))⟩
    · rename_i hv0
      refine .a1 _ rfl h2 fun w0 ρ ac w hs => ?_
      have hv := ev1 hs
      rw [hv0] at hv
      simp only [VR] at hv
      obtain ⟨adr, c', g1, g2, g3, g4, _⟩ := hv
      exact ⟨_, fin (by simp [Builtin.len_, ht0, run_und hd, g1]), vi (.inr (by omega))⟩
  · rename_i n el hk
    obtain ⟨ds, hd, hkr⟩ := (kn_ok hE hk (by simp)).desc
    rw [hk] at hkr
    simp only [kR] at hkr
    subst hkr
    cases hn : Nat.ble n 1099511627776
    · simp only [hn, cond_false] at hf
      exact (bad_ok hf h).elim
    · simp only [hn, cond_true] at hf
      have h2 := op1_ok hq hf h
      refine .a1 _ rfl h2 fun w0 ρ ac w hs => ?_
      exact ⟨_, fin (by simp [Builtin.len_, ht0, run_und hd]), vi (.inl (Nat.le_of_ble_eq_true hn))⟩
  · rename_i kt el hk
    obtain ⟨ds, hd, hkr⟩ := (kn_ok hE hk (by simp)).desc
    rw [hk] at hkr
    simp only [kR] at hkr
    subst hkr
    have h2 := op1_ok hq hf h
    split at h2 <;> first | (cases h2; done) | skip
    · rename_i hv0
      refine .a1 _ rfl h2 fun w0 ρ ac w hs => ?_
      have hv := ev1 hs
      rw [hv0] at hv
      simp only [VR, zR] at hv
      exact ⟨_, fin (by simp [Builtin.len_, ht0, run_und hd, hv]), vi (n := 0) (.inr (Nat.zero_le _))⟩
    · rename_i a hv0
      rw [rdO_eq] at h2
      obtain ⟨l, h3, h4⟩ := oMap_ok h2
      obtain ⟨h5, h6⟩ := bif_t h4
      refine .a1 _ rfl h6 fun w0 ρ ac w hs => ?_
      have hv := ev1 hs
      rw [hv0] at hv
      simp only [VR] at hv
      obtain ⟨r, N, g1, g2⟩ := hv
      have hob := hs.w.obj _ _ _ _ g1
      rw [h3] at hob
      obtain ⟨_, _, es, cl, k1, k2, _⟩ := hob
      exact ⟨_, fin (by simp [Builtin.len_, ht0, run_und hd, g2, getObj, Sem.run, k1, k2]), vi (.inl (Nat.le_of_ble_eq_true h5))⟩
  · exact (bad_ok hf h).elim
theorem op_cap (hq : CxOK q) (hE : EnOK P q.E) {x : Operand} {ats : Array TypeId} {t : TypeId} (ht0 : ats[0]? = some t) (hf : trBi q .cap ty [x] [t] = .mk f) (h : f e m c = true) : OpR P q ⟨dst, .call ⟨.builtin .cap, #[x], ats⟩, ty, pos, aft, gd⟩ e m c := by
  unfold trBi at hf
  simp only at hf
  split at hf
  · rename_i el hk
    obtain ⟨ds, hd, hkr⟩ := (kn_ok hE hk (by simp)).desc
    rw [hk] at hkr
    simp only [kR] at hkr
    subst hkr
    have h2 := op1_ok hq hf h
    split at h2 <;> first | (cases h2; done) | skip
    · rename_i hv0
      refine .a0 _ rfl h2 fun m' w0 ρ ac w hs => ?_
      have hv := hs.ev x (by simp [Op.operands, Call.operands])
      rw [hv0] at hv
      simp only [VR, zR] at hv
      exact ⟨goInt 0, by simp [execOp, resolve, invoke, builtin, Builtin.cap_, ht0, run_und hd, hv], by simp only [VR, goInt]; exact ⟨rfl, by decide⟩⟩
    · rename_i a o n k hv0
      refine .a0 _ rfl h2 fun m' w0 ρ ac w hs => ?_
      have hv := hs.ev x (by simp [Op.operands, Call.operands])
      rw [hv0] at hv
      simp only [VR] at hv
      obtain ⟨adr, c', g1, g2, g3, g4, g5, _⟩ := hv
      have g5 := g5 trivial
      subst g5
      have hn : c' < 2 ^ 63 := by simp only [maxLen] at g4; omega
      exact ⟨goInt c', by simp [execOp, resolve, invoke, builtin, Builtin.cap_, ht0, run_und hd, g1], by simp only [VR, goInt]; exact ⟨by rw [dec_small (.inr hn)], by omega⟩⟩
  · exact (bad_ok hf h).elim
theorem lss_ok (P : Program) (w : World) {k : IntKind} {g : NF} (hg : bin2 .lss k = some (.mk g)) {a b : Nat} {c : Bool → Bool} (h : g a b (fun r => oB r c) = true) : ∃ r, c r = true ∧ (a < 2 ^ k.bits → b < 2 ^ k.bits → r = decide (dec k a < dec k b)) := by
  obtain ⟨v, h1, h2⟩ := bin2_ok hg _ _ _ h
  obtain ⟨r, h3, h4⟩ := oB_ok h1
  refine ⟨r, h4, fun ha hb => ?_⟩
  obtain ⟨x, h5, h6⟩ := h2 ha hb P 0 w (fun _ => none)
  rw [h3] at h6
  simp only [VR] at h6
  simp [binOp, Op.intCmp, h6] at h5
  rw [← h5]
theorem op_min (hq : CxOK q) {x y : Operand} {ats : Array TypeId} {tl : List TypeId} (w00 : World) (hf : trBi q .min ty [x, y] tl = .mk f) (h : f e m c = true) : OpR P q ⟨dst, .call ⟨.builtin .min, #[x, y], ats⟩, ty, pos, aft, gd⟩ e m c := by
  unfold trBi at hf
  simp only at hf
  split at hf
  · rename_i k hk
    split at hf
    · rename_i b hb
      obtain ⟨g⟩ := b
      obtain ⟨okf, hok, ho⟩ := oK_ok k
      simp only [unb_mk, hok] at hf
      have h2 := op2_ok hq hf h
      obtain ⟨n, h3, hn⟩ := ho _ _ h2
      obtain ⟨n', h4, hn'⟩ := ho _ _ h3
      obtain ⟨r, h5, h6⟩ := lss_ok P w00 hb h4
      have key : ∀ {w0 ρ m' ac w}, Sv q w0 ρ e m' ac w (Op.call ⟨.builtin .min, #[x, y], ats⟩).operands → (execOp ac.eval ⟨dst, .call ⟨.builtin .min, #[x, y], ats⟩, ty, pos, aft, gd⟩).run P w = .ok (.value (bif r then ac.eval y else ac.eval x)) w := fun {w0 ρ m' ac w} hs => by
        obtain ⟨e1, l1⟩ := hn ρ _ (hs.ev x (by simp [Op.operands, Call.operands]))
        obtain ⟨e2, l2⟩ := hn' ρ _ (hs.ev y (by simp [Op.operands, Call.operands]))
        have := h6 l2 l1
        subst this
        by_cases hlt : dec k n' < dec k n <;> simp [execOp, resolve, invoke, builtin, Builtin.min_, Builtin.min2, e1, e2, hlt]
      cases r
      · simp only [cond_false] at h5 key
        exact .a0 _ rfl h5 fun m' w0 ρ ac w hs => ⟨_, key hs, hs.ev x (by simp [Op.operands, Call.operands])⟩
      · simp only [cond_true] at h5 key
        exact .a0 _ rfl h5 fun m' w0 ρ ac w hs => ⟨_, key hs, hs.ev y (by simp [Op.operands, Call.operands])⟩
    · exact (bad_ok hf h).elim
  · exact (bad_ok hf h).elim
theorem op_max (hq : CxOK q) {x y : Operand} {ats : Array TypeId} {tl : List TypeId} (w00 : World) (hf : trBi q .max ty [x, y] tl = .mk f) (h : f e m c = true) : OpR P q ⟨dst, .call ⟨.builtin .max, #[x, y], ats⟩, ty, pos, aft, gd⟩ e m c := by
  unfold trBi at hf
  simp only at hf
  split at hf
  · rename_i k hk
    split at hf
    · rename_i b hb
      obtain ⟨g⟩ := b
      obtain ⟨okf, hok, ho⟩ := oK_ok k
      simp only [unb_mk, hok] at hf
      have h2 := op2_ok hq hf h
      obtain ⟨n, h3, hn⟩ := ho _ _ h2
      obtain ⟨n', h4, hn'⟩ := ho _ _ h3
      obtain ⟨r, h5, h6⟩ := lss_ok P w00 hb h4
      have key : ∀ {w0 ρ m' ac w}, Sv q w0 ρ e m' ac w (Op.call ⟨.builtin .max, #[x, y], ats⟩).operands → (execOp ac.eval ⟨dst, .call ⟨.builtin .max, #[x, y], ats⟩, ty, pos, aft, gd⟩).run P w = .ok (.value (bif r then ac.eval y else ac.eval x)) w := fun {w0 ρ m' ac w} hs => by
        obtain ⟨e1, l1⟩ := hn ρ _ (hs.ev x (by simp [Op.operands, Call.operands]))
        obtain ⟨e2, l2⟩ := hn' ρ _ (hs.ev y (by simp [Op.operands, Call.operands]))
        have := h6 l1 l2
        subst this
        by_cases hlt : dec k n < dec k n' <;> simp [execOp, resolve, invoke, builtin, Builtin.max_, Builtin.max2, e1, e2, hlt]
      cases r
      · simp only [cond_false] at h5 key
        exact .a0 _ rfl h5 fun m' w0 ρ ac w hs => ⟨_, key hs, hs.ev x (by simp [Op.operands, Call.operands])⟩
      · simp only [cond_true] at h5 key
        exact .a0 _ rfl h5 fun m' w0 ρ ac w hs => ⟨_, key hs, hs.ev y (by simp [Op.operands, Call.operands])⟩
    · exact (bad_ok hf h).elim
  · exact (bad_ok hf h).elim
end
end Go.It
namespace Go.It
open Go.RowKit
open Go.Vc (Keeps cellsAt)
set_option linter.unusedVariables false
set_option linter.constructorNameAsVariable false
theorem TIok.zeroV {P : Program} {t : TypeId} {i : TI} (h : TIok P t i) : ∃ z, (∀ w, (zeroValue t).run P w = .ok z w) ∧ ∀ ρ, VR ρ (Go.It.zeroV i) z := by
  obtain ⟨f, h1, h2, _, z, h3, h4, h5, h6⟩ := h.info
  refine ⟨z, fun w => by simp [zeroValue, typeInfo, h1, h3], fun ρ => ?_⟩
  unfold Go.It.zeroV
  cases hg : isAg i
  · simp only [cond_false]
    have := h6 ρ
    rw [(h5 hg).1] at this
    match hz : i.z, this with
    | [], this => simp [VRL] at this
    | [v], this =>
      simp only [VRL] at this
      obtain ⟨y, ys, e1, e2, e3⟩ := this
      simp only [List.cons.injEq] at e1
      show VR ρ v z
      rw [e1.1]; exact e2
    | v :: u :: l, this =>
      simp only [VRL] at this
      obtain ⟨y, ys, e1, e2, y2, ys2, e3, _⟩ := this
      simp only [List.cons.injEq] at e1
      rw [← e1.2] at e3
      cases e3
  · simp only [cond_true]
    obtain ⟨cs, rfl⟩ := h4 hg
    have := (h6 ρ).agg h.zone.1
    simpa [Value.cells] using this
section
variable {P : Program} {q : Cx} {e : q.ε} {m : M} {c : V → M → Bool} {f : OpF q} {dst : Option Tmp} {ty : TypeId} {pos : String} {aft : Array Edge} {gd : Option (Nat × Bool)}
theorem op_assert (hq : CxOK q) (hE : EnOK P q.E) {x : Operand} {t d : TypeId} {ok : Bool} (hf : trOp q ⟨dst, .typeAssert x t d ok, ty, pos, aft, gd⟩ = .mk f) (h : f e m c = true) : OpR P q ⟨dst, .typeAssert x t d ok, ty, pos, aft, gd⟩ e m c := by
  replace hf : trAssert q x d ok = .mk f := hf
  simp only [trAssert, unb_mk] at hf
  have fin : (ti q.E d).k ≠ .no → (ti q.E d).k ≠ .ifc → (match evD q e x with
          | .ifc k y => bif Nat.beq k d then (bif ok then c (.tup [y, .b true]) m else c y m) else (bif ok then c (.tup [zeroV (ti q.E d), .b false]) m else false)
          | .z .ifn => bif ok then c (.tup [zeroV (ti q.E d), .b false]) m else false
          | _ => false) = true → OpR P q ⟨dst, .typeAssert x t d ok, ty, pos, aft, gd⟩ e m c := fun hno hni h2 => by
    have ht := kn_ok hE rfl hno
    obtain ⟨ds, hd, hkr⟩ := ht.desc
    have hni : ∀ ms, ds ≠ .interface ms := fun ms e => by
      subst e
      cases hk : (ti q.E d).k <;> rw [hk] at hkr <;> simp only [kR, reduceCtorEq] at hkr
      all_goals first | exact hni hk | (obtain ⟨_, _, _, hh⟩ := hkr; cases hh; done) | (obtain ⟨_, hh, _⟩ := hkr; cases hh; done)
    obtain ⟨z, z1, z2⟩ := ht.zeroV
    have rn : ∀ (w : World), (Instr.typeAssert .nilIface t d true).run P w = .ok (.tuple #[z, .bool false]) w := fun w => by
      cases ds <;> first | exact absurd rfl (hni _) | simp [Instr.typeAssert, run_und hd, z1]
    have ry : ∀ (w : World) (y : Value), (Instr.typeAssert (.iface d y) t d ok).run P w = .ok (if ok then .tuple #[y, .bool true] else y) w := fun w y => by
      cases ds <;> first | exact absurd rfl (hni _) | simp [Instr.typeAssert, run_und hd, z1]
    have rf : ∀ (w : World) (k : TypeId) (y : Value), k ≠ d → (Instr.typeAssert (.iface k y) t d true).run P w = .ok (.tuple #[z, .bool false]) w := fun w k y hk => by
      cases ds <;> first | exact absurd rfl (hni _) | simp [Instr.typeAssert, run_und hd, z1, hk]
    have vz : ∀ {ρ : Rho}, VR ρ (.tup [zeroV (ti q.E d), .b false]) (.tuple #[z, .bool false]) := fun {ρ} => by
      simp only [VR, VRL]
      exact ⟨[z, .bool false], rfl, _, _, rfl, z2 ρ, _, _, rfl, rfl, rfl⟩
    split at h2 <;> first | (cases h2; done) | skip
    · rename_i k y hv0
      cases hk : Nat.beq k d
      · simp only [hk, cond_false] at h2
        have hk : k ≠ d := fun e => by rw [e, Nat.beq_refl] at hk; cases hk
        cases ok
        · cases h2
        · simp only [cond_true] at h2
          refine .a0 _ rfl h2 fun m' w0 ρ ac w hs => ?_
          have hv := hs.ev x (by simp [Op.operands])
          rw [hv0] at hv
          simp only [VR] at hv
          obtain ⟨u, g1, g2⟩ := hv
          exact ⟨_, by simp [execOp, g1, rf w k u hk], vz⟩
      · simp only [hk, cond_true] at h2
        have hk : k = d := Nat.eq_of_beq_eq_true hk
        subst hk
        cases ok
        · simp only [cond_false] at h2
          refine .a0 _ rfl h2 fun m' w0 ρ ac w hs => ?_
          have hv := hs.ev x (by simp [Op.operands])
          rw [hv0] at hv
          simp only [VR] at hv
          obtain ⟨u, g1, g2⟩ := hv
          exact ⟨u, by simp [execOp, g1, ry w u], g2⟩
        · simp only [cond_true] at h2
          refine .a0 _ rfl h2 fun m' w0 ρ ac w hs => ?_
          have hv := hs.ev x (by simp [Op.operands])
          rw [hv0] at hv
          simp only [VR] at hv
          obtain ⟨u, g1, g2⟩ := hv
          refine ⟨.tuple #[u, .bool true], by simp [execOp, g1, ry w u], ?_⟩
          simp only [VR, VRL]
          exact ⟨[u, .bool true], rfl, _, _, rfl, g2, _, _, rfl, rfl, rfl⟩
    · rename_i hv0
      cases ok
      · cases h2
      · simp only [cond_true] at h2
        refine .a0 _ rfl h2 fun m' w0 ρ ac w hs => ?_
        have hv := hs.ev x (by simp [Op.operands])
        rw [hv0] at hv
        simp only [VR, zR] at hv
        exact ⟨_, by simp [execOp, hv, rn w], vz⟩
  split at hf
  · exact (bad_ok hf h).elim
  · exact (bad_ok hf h).elim
  · rename_i h1 h2
    exact fin h2 h1 (op1_ok hq hf h)
theorem txtC_ok : ∀ {l : List V} {c : Nat → Bool}, txtC l c = true → ∃ x, c x = true ∧ ∀ (ρ : Rho) (xs : List Value), VRL ρ l xs → ∃ bs : List UInt8, xs = (bs.map fun b => Value.int .u8 (b.toNat : Int)) ∧ num bs = x
  | [], c, h => ⟨0, h, fun ρ xs hx => ⟨[], by simpa [VRL] using hx, rfl⟩⟩
  | v :: l, c, h => by
    simp only [txtC] at h
    split at h
    · rename_i b
      obtain ⟨x, h1, h2⟩ := txtC_ok h
      refine ⟨_, h1, fun ρ xs hx => ?_⟩
      simp only [VRL] at hx
      obtain ⟨y, ys, rfl, hy, hys⟩ := hx
      obtain ⟨bs, rfl, h3⟩ := h2 ρ ys hys
      simp only [VR] at hy
      obtain ⟨rfl, hb⟩ := hy
      have hb : b < 256 := by simpa [IntKind.bits] using hb
      have e : (UInt8.ofNat b).toNat = b := by simp [Nat.mod_eq_of_lt hb]
      refine ⟨UInt8.ofNat b :: bs, ?_, ?_⟩
      · rw [List.map_cons, e, dec_small (.inl rfl)]
      · simp only [num, e, h3]
    · cases h
theorem push_all : ∀ (bs : List UInt8) (s : ByteArray), ((bs.map fun b => (b.toNat : Int)).foldl (fun r n => r.push (UInt8.ofNat n.toNat)) s).data.toList = s.data.toList ++ bs
  | [], s => by simp
  | b :: bs, s => by
    rw [List.map_cons, List.foldl_cons, push_all bs]
    simp [ByteArray.push]
theorem enc_cast {k : IntKind} {a m0 : Nat} (h : m0 ≤ 2 ^ k.bits * m0) : enc k ((a : Int) - m0) = (a + (2 ^ k.bits * m0 - m0)) % 2 ^ k.bits := by
  rw [← enc_nat]
  apply enc_congr
  have e : ((a + (2 ^ k.bits * m0 - m0) : Nat) : Int) = ((a : Int) - m0) + (2 : Int) ^ k.bits * m0 := by
    have hc := cast_pow k
    rw [← hc, ← Int.natCast_mul]
    omega
  rw [e, Int.add_mul_emod_self_left]
theorem op_convI (hq : CxOK q) (hE : EnOK P q.E) {s d : TypeId} {x : Operand} {k k' : IntKind} (hk : (ti q.E s).k = .i k) (hk' : (ti q.E d).k = .i k') (hf : trConvI q k k' x = .mk f) (h : f e m c = true) : OpR P q ⟨dst, .convert s d x, ty, pos, aft, gd⟩ e m c := by
  have hcl : cls q ⟨dst, .convert s d x, ty, pos, aft, gd⟩ = 0 := by
    show cConv s d q = 0
    unfold cConv; rw [hk, hk']
  obtain ⟨ds, hd, hkr⟩ := (kn_ok hE hk (by simp)).desc
  obtain ⟨ds', hd', hkr'⟩ := (kn_ok hE hk' (by simp)).desc
  rw [hk] at hkr
  rw [hk'] at hkr'
  simp only [kR] at hkr hkr'
  subst hkr hkr'
  obtain ⟨okf, hok, ho⟩ := oK_ok k
  obtain ⟨mk, hmk, hm⟩ := mk_ok k'
  have run : ∀ (w : World) (n : Int), (convert s d (.int k n)).run P w = .ok (.int k' (dec k' (enc k' n))) w := fun w n => by
    simp [convert, run_und hd, run_und hd', Conv.intToInt, wrap_dec]
  simp only [trConvI, hok, hmk, mdB_eq, hfB_eq, unb_mk] at hf
  cases hs : k.signed
  · simp only [hs, cond_false] at hf
    have h2 := op1_ok hq hf h
    obtain ⟨a, h3, h4⟩ := ho _ _ h2
    refine .a0 _ hcl h3 fun m' w0 ρ ac w hsv => ?_
    obtain ⟨e1, l1⟩ := h4 ρ _ (hsv.ev x (by simp [Op.operands]))
    refine ⟨_, by simp [execOp, e1, run]; rfl, (hm ρ _ _).2 ⟨?_, Nat.mod_lt _ (Nat.two_pow_pos _)⟩⟩
    rw [dec_small (.inl hs), enc_nat]; rfl
  · simp only [hs, cond_true] at hf
    have h2 := op1_ok hq hf h
    obtain ⟨a, h3, h4⟩ := ho _ _ h2
    cases hb : Nat.blt a (2 ^ (k.bits - 1))
    · simp only [hb, cond_false] at h3
      refine .a0 _ hcl h3 fun m' w0 ρ ac w hsv => ?_
      obtain ⟨e1, l1⟩ := h4 ρ _ (hsv.ev x (by simp [Op.operands]))
      refine ⟨_, by simp [execOp, e1, run]; rfl, (hm ρ _ _).2 ⟨?_, Nat.mod_lt _ (Nat.two_pow_pos _)⟩⟩
      have hb : 2 ^ (k.bits - 1) ≤ a := by
        have : ¬ a < 2 ^ (k.bits - 1) := fun e => by rw [← Nat.blt_eq] at e; rw [hb] at e; cases e
        omega
      have hdec : dec k a = (a : Int) - (2 ^ k.bits : Nat) := by
        unfold dec
        rw [if_pos (by simp [hs, hb])]
        push_cast; rfl
      rw [hdec, enc_cast]
      · rfl
      · exact Nat.le_mul_of_pos_left _ (Nat.two_pow_pos _)
    · simp only [hb, cond_true] at h3
      refine .a0 _ hcl h3 fun m' w0 ρ ac w hsv => ?_
      obtain ⟨e1, l1⟩ := h4 ρ _ (hsv.ev x (by simp [Op.operands]))
      refine ⟨_, by simp [execOp, e1, run]; rfl, (hm ρ _ _).2 ⟨?_, Nat.mod_lt _ (Nat.two_pow_pos _)⟩⟩
      have hdec : dec k a = (a : Int) := dec_small (.inr (by rw [Nat.blt_eq] at hb; exact hb))
      rw [hdec, enc_nat]; rfl
theorem op_convQ (hq : CxOK q) (hE : EnOK P q.E) {s d : TypeId} {x : Operand} (hk : (ti q.E s).k = .i .i64) (hk' : (ti q.E d).k = .i .u64) (hf : trConvQ q x = .mk f) (h : f e m c = true) : OpR P q ⟨dst, .convert s d x, ty, pos, aft, gd⟩ e m c := by
  unfold trConvQ at hf
  cases hb : trConvI q .i64 .u64 x with
  | mk g =>
    simp only [hb, accO_eq hq, unb_mk, Box.mk.injEq] at hf
    subst hf
    rcases accB_eq h with ⟨md, n, hx, h⟩ | h
    · have hcl : cls q ⟨dst, .convert s d x, ty, pos, aft, gd⟩ = 0 := by
        show cConv s d q = 0
        unfold cConv; rw [hk, hk']
      obtain ⟨ds, hd, hkr⟩ := (kn_ok hE hk (by simp)).desc
      obtain ⟨ds', hd', hkr'⟩ := (kn_ok hE hk' (by simp)).desc
      rw [hk] at hkr
      rw [hk'] at hkr'
      simp only [kR] at hkr hkr'
      subst hkr hkr'
      refine .a0 _ hcl h fun m' w0 ρ ac w hsv => ?_
      have v1 := hsv.ev x (by simp [Op.operands])
      rw [hx] at v1
      simp only [VR] at v1
      obtain ⟨z, e1, l1, l2⟩ := v1
      have he : enc .u64 (dec .i64 z) = z := enc_dec (k := .i64) l1
      refine ⟨.int .u64 (dec .u64 z), ?_, by simp only [VR]; exact ⟨z, rfl, l1, l2⟩⟩
      have run : (convert s d (.int .i64 (dec .i64 z))).run P w = .ok (.int .u64 (dec .u64 (enc .u64 (dec .i64 z)))) w := by
        simp [convert, run_und hd, run_und hd', Conv.intToInt, wrap_dec]
      rw [he] at run
      simp [execOp, e1, run]
    · exact op_convI hq hE hk hk' hb h
theorem op_conv_int (hq : CxOK q) (hE : EnOK P q.E) {s d : TypeId} {x : Operand} {k k' : IntKind} (hk : (ti q.E s).k = .i k) (hk' : (ti q.E d).k = .i k') (hf : trOp q ⟨dst, .convert s d x, ty, pos, aft, gd⟩ = .mk f) (h : f e m c = true) : OpR P q ⟨dst, .convert s d x, ty, pos, aft, gd⟩ e m c := by
  replace hf : trConv q s d x = .mk f := hf
  simp only [trConv, hk, hk'] at hf
  cases hi : isQ k k'
  · rw [hi] at hf; exact op_convI hq hE hk hk' hf h
  · rw [hi] at hf
    have e1 : k = .i64 := by cases k <;> first | rfl | (cases k' <;> cases hi)
    subst e1
    have e2 : k' = .u64 := by cases k' <;> first | rfl | cases hi
    subst e2
    exact op_convQ hq hE hk hk' hf h
theorem op_conv_str (hq : CxOK q) (hE : EnOK P q.E) {s d : TypeId} {x : Operand} (hk : (ti q.E s).k = .s) (hk' : (ti q.E d).k = .s) (hf : trOp q ⟨dst, .convert s d x, ty, pos, aft, gd⟩ = .mk f) (h : f e m c = true) : OpR P q ⟨dst, .convert s d x, ty, pos, aft, gd⟩ e m c := by
  replace hf : trConv q s d x = .mk f := hf
  have hcl : cls q ⟨dst, .convert s d x, ty, pos, aft, gd⟩ = 0 := by
    show cConv s d q = 0
    unfold cConv; rw [hk, hk']
  obtain ⟨ds, hd, hkr⟩ := (kn_ok hE hk (by simp)).desc
  obtain ⟨ds', hd', hkr'⟩ := (kn_ok hE hk' (by simp)).desc
  rw [hk] at hkr
  rw [hk'] at hkr'
  simp only [kR] at hkr hkr'
  subst hkr hkr'
  simp only [trConv, hk, hk'] at hf
  have h2 := op1_ok hq hf h
  obtain ⟨n, y, hv0, h3⟩ := oS_ok h2
  refine .a0 _ hcl h3 fun m' w0 ρ ac w hs => ?_
  have hv := hs.ev x (by simp [Op.operands])
  rw [hv0] at hv
  have hv2 := hv
  simp only [VR] at hv2
  obtain ⟨sb, g1, _⟩ := hv2
  exact ⟨ac.eval x, by simp [execOp, convert, run_und hd, run_und hd', g1], hv⟩
theorem op_conv_bytes (hq : CxOK q) (hE : EnOK P q.E) {s d el : TypeId} {x : Operand} (hk : (ti q.E s).k = .sl el) (hk' : (ti q.E d).k = .s) (hf : trOp q ⟨dst, .convert s d x, ty, pos, aft, gd⟩ = .mk f) (h : f e m c = true) : OpR P q ⟨dst, .convert s d x, ty, pos, aft, gd⟩ e m c := by
  replace hf : trConv q s d x = .mk f := hf
  have hcl : cls q ⟨dst, .convert s d x, ty, pos, aft, gd⟩ = 1 := by
    show cConv s d q = 1
    unfold cConv; rw [hk, hk']
  obtain ⟨ds, hd, hkr⟩ := (kn_ok hE hk (by simp)).desc
  obtain ⟨ds', hd', hkr'⟩ := (kn_ok hE hk' (by simp)).desc
  rw [hk] at hkr
  rw [hk'] at hkr'
  simp only [kR] at hkr hkr'
  subst hkr hkr'
  simp only [trConv, hk, hk'] at hf
  split at hf
  · rename_i hke
    obtain ⟨de, hde, hkre⟩ := (kn_ok hE hke (by simp)).desc
    rw [hke] at hkre
    simp only [kR] at hkre
    subst hkre
    have h2 := op1_ok hq hf h
    have run : ∀ (w : World) (a : Option Addr) (l cc : Nat), (convert s d (.slice a l cc)).run P w = (Conv.bytesToString (.slice a l cc)).run P w := fun w a l cc => run_convert_bytes_string w s d el a l cc hd hde hd'
    unfold elems at h2
    split at h2 <;> first | (cases h2; done) | skip
    · rename_i hv0
      refine .a1 _ hcl h2 fun w0 ρ ac w hs => ?_
      have hv := hs.ev x (by simp [Op.operands])
      rw [hv0] at hv
      simp only [VR, zR] at hv
      refine ⟨.string .empty, by simp [execOp, hv, run, Conv.bytesToString], ?_⟩
      simp only [VR]
      exact ⟨_, rfl, rfl, rfl, Nat.zero_le _⟩
    · rename_i a o n cp xx hv0
      cases hn : Nat.beq n 0
      · simp only [hn, cond_false, rdRow] at h2
        rw [rdO_eq] at h2
        obtain ⟨w', l, h3, h4⟩ := oRow_ok h2
        obtain ⟨h5, h6⟩ := dropC_ok h4
        obtain ⟨h7, h8⟩ := takeC_ok h6
        obtain ⟨y, h9, h10⟩ := txtC_ok h8
        have hn : n ≠ 0 := fun e => by rw [e] at hn; cases hn
        refine .a1 _ hcl h9 fun w0 ρ ac w hs => ?_
        have hv := hs.ev x (by simp [Op.operands])
        rw [hv0] at hv
        have hnc : n ≤ cp := by have hv := hv; simp only [VR] at hv; obtain ⟨_, _, _, h, _⟩ := hv; exact h
        obtain ⟨r, b, N, c', g1, g2, g3, g4, g5, _⟩ := hv.slice (by omega)
        obtain ⟨k1, k2, xs, k3, k4⟩ := hs.w.row g1 h3
        obtain ⟨bs, b1, b2⟩ := h10 ρ _ ((k3.drop o).take (Nat.mul n 1))
        have hlen : bs.length = n := by
          have e1 := congrArg List.length b1
          have e2 := k3.length
          simp only [List.length_drop, Nat.mul_eq, Nat.mul_one] at h7
          simp only [List.length_take, List.length_drop, List.length_map, Nat.mul_eq, Nat.mul_one] at e1
          omega
        have hld := run_loadCells_list (P := P) w ⟨r, b + o, none⟩ ((xs.drop o).take (Nat.mul n 1)) (cells_part k4)
        rw [b1, List.length_map, hlen] at hld
        have hbs := run_bytesToString (P := P) w ⟨r, b + o, none⟩ n c' (bs.map fun b => (b.toNat : Int)) (by rw [List.map_map]; exact hld)
        refine ⟨_, by simp only [execOp, Sem.run_bind, g2, run, hbs]; rfl, ?_⟩
        simp only [VR]
        have hp := push_all bs .empty
        refine ⟨_, rfl, by rw [hp]; simpa using hlen, by rw [hp]; simpa using b2, by omega⟩
      · simp only [hn, cond_true] at h2
        have hn : n = 0 := Nat.eq_of_beq_eq_true hn
        subst hn
        refine .a1 _ hcl h2 fun w0 ρ ac w hs => ?_
        have hv := hs.ev x (by simp [Op.operands])
        rw [hv0] at hv
        simp only [VR] at hv
        obtain ⟨adr, c', g1, _⟩ := hv
        have hbs := run_bytesToString (P := P) w adr 0 c' [] (by simp [loadCells, loadCellsFrom])
        refine ⟨.string .empty, by simp only [execOp, Sem.run_bind, g1, run, hbs]; rfl, ?_⟩
        simp only [VR]
        exact ⟨_, rfl, rfl, rfl, Nat.zero_le _⟩
  · exact (bad_ok hf h).elim
end
end Go.It
namespace Go.It
open Go.RowKit
open Go.Vc (Keeps cellsAt)
set_option linter.unusedVariables false
set_option linter.constructorNameAsVariable false
structure KeyR (P : Program) (kt : TypeId) (g : V → V → Option Bool) : Prop where
  eq : EqR P kt g
  chk : ∀ (v : V) (r : Bool) (ρ : Rho) (a : Value) (b : Bool) (w : World) (n : Nat), g v v = some r → VR ρ v a → (Instr.checkKey b (n + 2) kt a).run P w = .ok () w
  now : ∃ ds, P.underlying kt = some ds ∧ ∀ (v u : V) (r : Bool) (ρ : Rho) (a b : Value) (x : Bool), g v u = some r → VR ρ v a → VR ρ u b → Instr.sameNow ds a b = some x → x = r
theorem chk_plain {P : Program} {t : TypeId} {d : TypeDesc} (hd : P.underlying t = some d) (h : d = .bool ∨ d = .string ∨ ∃ k, d = .int k) (b : Bool) (n : Nat) (v : Value) (w : World) : (Instr.checkKey b (n + 1) t v).run P w = .ok () w := by
  rcases h with rfl | rfl | ⟨k, rfl⟩ <;> simp [Instr.checkKey, run_und hd]
theorem chk_arr {P : Program} {t e : TypeId} {len : Nat} {i : TI} (hd : P.underlying t = some (.array len e)) (he : TIok P e i) {k : IntKind} (hk : i.k = .i k) (hn : i.n = 1) (b : Bool) (n : Nat) (xs : Array Value) (hl : xs.size = len) (w : World) :
    (Instr.checkKey b (n + 2) t (.agg xs)).run P w = .ok () w := by
  obtain ⟨de, hde, hkr⟩ := he.desc
  rw [hk] at hkr
  simp only [kR] at hkr
  have hag : isAg i = false := by unfold isAg; rw [hk]
  rw [Instr.checkKey]
  simp only [Sem.run_bind, run_und hd, Result.andThen_ok]
  simp only [Std.Legacy.Range.forIn_eq_forIn_range', Std.Legacy.Range.size]
  have hall : ∀ j ∈ List.range' 0 ((len - 0 + 1 - 1) / 1) 1, j < xs.size := fun j hj => by
    have := List.mem_range'_1.1 hj
    simp at this
    omega
  generalize List.range' 0 ((len - 0 + 1 - 1) / 1) 1 = is at hall
  have hs := he.size w
  rw [hn] at hs
  have key : ∀ is : List Nat, (∀ j ∈ is, j < xs.size) → (forIn is PUnit.unit fun i r => (do
      let s ← sizeOf e
      let v ← part e xs (i * s)
      Instr.checkKey b (n + 1) e v
      pure (ForInStep.yield PUnit.unit) : Sem (ForInStep PUnit))).run P w = .ok PUnit.unit w := by
    intro is hall
    induction is with
    | nil => simp
    | cons j r ih =>
      have hj := hall j (.head _)
      have p1 : (part e xs (j * 1)).run P w = .ok xs[j] w := he.part_one hag (by simp [hj]) w
      have c1 : (Instr.checkKey b (n + 1) e xs[j]).run P w = .ok () w := chk_plain hde (.inr (.inr ⟨k, hkr⟩)) b n _ w
      simp only [List.forIn_cons, Sem.run_bind, hs, Result.andThen_ok, p1, c1, Sem.run_pure]
      exact ih fun x hx => hall x (.tail _ hx)
  rw [key is hall]
  rfl
theorem qKey_ok {P : Program} {E : En} (hE : EnOK P E) {kt : TypeId} {g : V → V → Option Bool} (hg : qKey E (ti E kt).k = some g) : KeyR P kt g := by
  unfold qKey at hg
  split at hg <;> first | (cases hg; done) | skip
  · rename_i k hk
    obtain ⟨ds, hd, hkr⟩ := (kn_ok hE hk (by simp)).desc
    rw [hk] at hkr
    simp only [kR] at hkr
    subst hkr
    simp only [Option.some.injEq] at hg; subst hg
    refine ⟨(EqF.qI hd).r, fun v r ρ a b w n _ _ => chk_plain hd (.inr (.inr ⟨k, rfl⟩)) b (n + 1) a w, _, hd, fun v u r ρ a b x h ha hb hx => ?_⟩
    obtain ⟨j, y, z, rfl, rfl, e⟩ := qI_ok h ha hb
    simp [Instr.sameNow] at hx
    rw [← hx, ← e]
  · rename_i hk
    obtain ⟨ds, hd, hkr⟩ := (kn_ok hE hk (by simp)).desc
    rw [hk] at hkr
    simp only [kR] at hkr
    subst hkr
    simp only [Option.some.injEq] at hg; subst hg
    refine ⟨(EqF.qS hd).r, fun v r ρ a b w n _ _ => chk_plain hd (.inr (.inl rfl)) b (n + 1) a w, _, hd, fun v u r ρ a b x h ha hb hx => ?_⟩
    unfold qS at h
    split at h <;> first | (cases h; done) | skip
    simp only [VR] at ha hb
    obtain ⟨s, rfl, s1, s2, s3⟩ := ha
    obtain ⟨q, rfl, r1, r2, r3⟩ := hb
    simp only [Instr.sameNow, Option.some.injEq] at hx h
    rw [← hx, ← h, beq_toListBytes, str_eq, s1, s2, r1, r2]
  · rename_i hk
    obtain ⟨ds, hd, hkr⟩ := (kn_ok hE hk (by simp)).desc
    rw [hk] at hkr
    simp only [kR] at hkr
    subst hkr
    simp only [Option.some.injEq] at hg; subst hg
    refine ⟨(EqF.qB hd).r, fun v r ρ a b w n _ _ => chk_plain hd (.inl rfl) b (n + 1) a w, _, hd, fun v u r ρ a b x h ha hb hx => ?_⟩
    unfold qB at h
    split at h <;> first | (cases h; done) | skip
    rename_i x1 y1
    simp only [VR] at ha hb
    subst ha hb
    simp only [Instr.sameNow, Option.some.injEq] at hx h
    rw [← hx, ← h]
    cases x1 <;> cases y1 <;> rfl
  · rename_i n e hk
    obtain ⟨ds, hd, hkr⟩ := (kn_ok hE hk (by simp)).desc
    rw [hk] at hkr
    simp only [kR] at hkr
    subst hkr
    have hq := EqR.qA hE hd hg
    unfold qAr at hg
    split at hg
    · rename_i k hke
      have he := kn_ok hE hke (by simp)
      cases hn : Nat.beq (ti E e).n 1
      · rw [hn] at hg; cases hg
      · rw [hn] at hg
        simp only [cond_true, Option.some.injEq] at hg
        subst hg
        refine ⟨hq, fun v r ρ a b w j h ha => ?_, _, hd, fun v u r ρ a b x h ha hb hx => by simp [Instr.sameNow] at hx⟩
        obtain ⟨l, rfl⟩ : ∃ l, v = .agg l := by cases v <;> first | exact ⟨_, rfl⟩ | (simp [qA] at h; done)
        have h : (bif Nat.beq (lenL l) n then qL l l else none) = some r := h
        cases hl : Nat.beq (lenL l) n
        · rw [hl] at h; cases h
        · have hl : l.length = n := by rw [← lenL_eq]; exact Nat.eq_of_beq_eq_true hl
          simp only [VR] at ha
          obtain ⟨xs, rfl, hx, _⟩ := ha
          have := hx.length
          exact chk_arr hd he hke (Nat.eq_of_beq_eq_true hn) b j _ (by simp; omega) w
    · cases hg
def EntR (ρ : Rho) (l : List (V × V)) (es : List MapEntry) : Prop := es.length = l.length ∧ ∀ (j : Nat) (p : V × V) (e : MapEntry), l[j]? = some p → es[j]? = some e → VR ρ p.1 e.key ∧ VR ρ p.2 e.val
theorem EntR.tail {ρ : Rho} {p : V × V} {l : List (V × V)} {e : MapEntry} {es : List MapEntry} (h : EntR ρ (p :: l) (e :: es)) : EntR ρ l es ∧ VR ρ p.1 e.key ∧ VR ρ p.2 e.val :=
  ⟨⟨by simpa using h.1, fun j p' e' h1 h2 => h.2 (j + 1) p' e' (by simpa using h1) (by simpa using h2)⟩, h.2 0 p e rfl rfl⟩
section
variable {P : Program} {kt : TypeId} {g : V → V → Option Bool}
theorem find_none (K : KeyR P kt g) {ρ : Rho} {k : V} {a : Value} (ha : VR ρ k a) {ds : TypeDesc} (hd : P.underlying kt = some ds) (w : World) : ∀ (l : List (V × V)) (es : List MapEntry) (n : Nat), EntR ρ l es → (∀ p ∈ l, g k p.1 = some false) →
    (Instr.findNow ds a es n = none ∨ Instr.findNow ds a es n = some none) ∧ (Instr.findAsking kt a es n).run P w = .ok none w
  | [], [], n, _, _ => ⟨.inr rfl, by simp [Instr.findAsking]⟩
  | [], _ :: _, _, h, _ => by have := h.1; simp at this
  | _ :: _, [], _, h, _ => by have := h.1; simp at this
  | p :: l, e :: es, n, h, hn => by
    obtain ⟨h1, h2, h3⟩ := h.tail
    have hp := hn p (.head _)
    obtain ⟨i1, i2⟩ := find_none K ha hd w l es (n + 1) h1 fun x hx => hn x (.tail _ hx)
    obtain ⟨ds', hd', hx⟩ := K.now
    rw [hd] at hd'
    cases hd'
    have he : (Op.equal kt a e.key).run P w = .ok false w := K.eq _ _ _ ρ _ _ hp ha h2 w 9998
    refine ⟨?_, by simp only [Instr.findAsking, Sem.run_bind, he, Result.andThen_ok]; simpa using i2⟩
    simp only [Instr.findNow]
    cases hs : Instr.sameNow ds a e.key with
    | none => exact .inl rfl
    | some x =>
      have := hx _ _ _ ρ _ _ _ hp ha h2 hs
      subst this
      exact i1
theorem find_some (K : KeyR P kt g) {ρ : Rho} {k : V} {a : Value} (ha : VR ρ k a) {ds : TypeDesc} (hd : P.underlying kt = some ds) (w : World) : ∀ (l : List (V × V)) (es : List MapEntry) (n i : Nat) (p : V × V), EntR ρ l es → l[i]? = some p → g k p.1 = some true → (∀ (j : Nat) (p' : V × V), j < i → l[j]? = some p' → g k p'.1 = some false) →
    ∃ v, (∃ e, es[i]? = some e ∧ e.val = v) ∧ VR ρ p.2 v ∧ (Instr.findNow ds a es n = none ∨ Instr.findNow ds a es n = some (some (n + i, v))) ∧ (Instr.findAsking kt a es n).run P w = .ok (some (n + i, v)) w
  | [], _, _, _, _, _, h, _, _ => by simp at h
  | _ :: _, [], _, _, _, h, _, _, _ => by have := h.1; simp at this
  | p0 :: l, e :: es, n, 0, p, h, hi, hp, _ => by
    simp only [List.getElem?_cons_zero, Option.some.injEq] at hi
    subst hi
    obtain ⟨h1, h2, h3⟩ := h.tail
    obtain ⟨ds', hd', hx⟩ := K.now
    rw [hd] at hd'
    cases hd'
    have he : (Op.equal kt a e.key).run P w = .ok true w := K.eq _ _ _ ρ _ _ hp ha h2 w 9998
    refine ⟨e.val, ⟨e, rfl, rfl⟩, h3, ?_, by simp only [Instr.findAsking, Sem.run_bind, he, Result.andThen_ok]; rfl⟩
    simp only [Instr.findNow]
    cases hs : Instr.sameNow ds a e.key with
    | none => exact .inl rfl
    | some x =>
      have := hx _ _ _ ρ _ _ _ hp ha h2 hs
      subst this
      exact .inr rfl
  | p0 :: l, e :: es, n, i + 1, p, h, hi, hp, hb => by
    obtain ⟨h1, h2, h3⟩ := h.tail
    have hp0 := hb 0 p0 (by omega) rfl
    obtain ⟨v, ⟨e', k1, k2⟩, k3, k4, k5⟩ := find_some K ha hd w l es (n + 1) i p h1 (by simpa using hi) hp fun j p' hj hj' => hb (j + 1) p' (by omega) (by simpa using hj')
    obtain ⟨ds', hd', hx⟩ := K.now
    rw [hd] at hd'
    cases hd'
    have he : (Op.equal kt a e.key).run P w = .ok false w := K.eq _ _ _ ρ _ _ hp0 ha h2 w 9998
    rw [show n + 1 + i = n + (i + 1) from by omega] at k4 k5
    refine ⟨v, ⟨e', by simpa using k1, k2⟩, k3, ?_, by simp only [Instr.findAsking, Sem.run_bind, he, Result.andThen_ok]; simpa using k5⟩
    simp only [Instr.findNow]
    cases hs : Instr.sameNow ds a e.key with
    | none => exact .inl rfl
    | some x =>
      have := hx _ _ _ ρ _ _ _ hp0 ha h2 hs
      subst this
      exact k4
theorem run_findKey {ds : TypeDesc} (hd : P.underlying kt = some ds) {a : Value} {es : List MapEntry} {r : Option (Nat × Value)} {w : World} (h1 : Instr.findNow ds a es 0 = none ∨ Instr.findNow ds a es 0 = some r) (h2 : (Instr.findAsking kt a es).run P w = .ok r w) : (Instr.findKey kt a es).run P w = .ok r w := by
  simp only [Instr.findKey, Sem.run_bind, run_und hd, Result.andThen_ok]
  rcases h1 with h1 | h1 <;> rw [h1]
  · exact h2
  · rfl
theorem findM_ok {k : V} : ∀ {l : List (V × V)} {c : V → Bool} {n : Bool}, findM g k l c n = true →
    (∃ i p, l[i]? = some p ∧ g k p.1 = some true ∧ (∀ (j : Nat) (p' : V × V), j < i → l[j]? = some p' → g k p'.1 = some false) ∧ c p.2 = true) ∨ ((∀ p ∈ l, g k p.1 = some false) ∧ n = true)
  | [], c, n, h => .inr ⟨fun p hp => (by cases hp), h⟩
  | (a, v) :: l, c, n, h => by
    simp only [findM] at h
    split at h
    · rename_i hk
      exact .inl ⟨0, _, rfl, hk, fun j p' hj => by omega, h⟩
    · rename_i hk
      rcases findM_ok h with ⟨i, p, h1, h2, h3, h4⟩ | ⟨h1, h2⟩
      · refine .inl ⟨i + 1, p, by simpa using h1, h2, fun j p' hj hj' => ?_, h4⟩
        cases j with
        | zero => simp at hj'; subst hj'; exact hk
        | succ j => exact h3 j p' (by omega) (by simpa using hj')
      · refine .inr ⟨fun p hp => ?_, h2⟩
        rcases List.mem_cons.1 hp with rfl | hp
        · exact hk
        · exact h1 p hp
    · cases h
end
section
variable {P : Program} {q : Cx} {e : q.ε} {m : M} {c : V → M → Bool} {f : OpF q} {dst : Option Tmp} {ty : TypeId} {pos : String} {aft : Array Edge} {gd : Option (Nat × Bool)}
theorem W.ents {w0 : World} {ρ : Rho} {m : M} {w : World} (hw : W w0 ρ m w) {a r N : Nat} (ha : ρ a = some (r, 0, N)) {l : List (V × V)} (ho : ob m a = .map l) : ∃ es cl, w0.heap.size ≤ r ∧ w.heap[r]? = some (.map es cl) ∧ EntR ρ l es.toList := by
  have h := hw.obj a r 0 N ha
  rw [ho] at h
  obtain ⟨_, h1, es, cl, h2, h3, h4⟩ := h
  exact ⟨es, cl, h1, h2, by simpa using h3, fun j p e h5 h6 => h4 j p e h5 (by simpa using h6)⟩
theorem op_lookup (hq : CxOK q) (hE : EnOK P q.E) {t : TypeId} {x y : Operand} {ok : Bool} (hf : trOp q ⟨dst, .lookup t x y ok, ty, pos, aft, gd⟩ = .mk f) (h : f e m c = true) : OpR P q ⟨dst, .lookup t x y ok, ty, pos, aft, gd⟩ e m c := by
  replace hf : trLookup q t x y ok = .mk f := hf
  unfold trLookup at hf
  split at hf
  · rename_i kt el hk
    obtain ⟨dm, hdm, hkr⟩ := (kn_ok hE hk (by simp)).desc
    rw [hk] at hkr
    simp only [kR] at hkr
    subst hkr
    split at hf
    · rename_i g hg
      cases hn : kn q.E el
      · simp only [hn, cond_false] at hf
        exact (bad_ok hf h).elim
      · simp only [hn, cond_true, unb_mk] at hf
        have hel := kn_of' hE hn
        obtain ⟨z, z1, z2⟩ := hel.zeroV
        have K := qKey_ok hE hg
        obtain ⟨ds, hd, _⟩ := K.now
        have h2 := op2_ok hq hf h
        unfold lookV at h2
        split at h2
        · cases h2
        · rename_i r0 hr0
          have nov : ∀ {ρ : Rho}, VR ρ (.tup [zeroV (ti q.E el), .b false]) (.tuple #[z, .bool false]) := fun {ρ} => by
            simp only [VR, VRL]
            exact ⟨[z, .bool false], rfl, _, _, rfl, z2 ρ, _, _, rfl, rfl, rfl⟩
          split at h2 <;> first | (cases h2; done) | skip
          · rename_i hv0
            have run : ∀ {w0 ρ m' ac w}, Sv q w0 ρ e m' ac w (Op.lookup t x y ok).operands → (execOp ac.eval ⟨dst, .lookup t x y ok, ty, pos, aft, gd⟩).run P w = .ok (.value (if ok then .tuple #[z, .bool false] else z)) w := fun {w0 ρ m' ac w} hs => by
              have hv := hs.ev x (by simp [Op.operands])
              have hy := hs.ev y (by simp [Op.operands])
              rw [hv0] at hv
              simp only [VR, zR] at hv
              have hc : (Instr.checkKey true 10000 kt (ac.eval y)).run P w = .ok () w := K.chk _ _ _ _ true w 9998 hr0 hy
              have hf0 : (Instr.findKey kt (ac.eval y) []).run P w = .ok none w := run_findKey hd (.inr rfl) (by simp [Instr.findAsking])
              simp [execOp, Instr.lookup, run_und hdm, hv, hc, hf0, z1]
            cases ok
            · exact .a1 _ rfl h2 fun w0 ρ ac w hs => ⟨_, run hs, z2 ρ⟩
            · exact .a1 _ rfl h2 fun w0 ρ ac w hs => ⟨_, run hs, nov⟩
          · rename_i a hv0
            rw [rdO_eq] at h2
            obtain ⟨l, h3, h4⟩ := oMap_ok h2
            rcases findM_ok h4 with ⟨i, p, k1, k2, k3, k4⟩ | ⟨k1, k2⟩
            · have run : ∀ {w0 ρ ac w}, Sv q w0 ρ e m ac w (Op.lookup t x y ok).operands → ∃ v, VR ρ p.2 v ∧ (execOp ac.eval ⟨dst, .lookup t x y ok, ty, pos, aft, gd⟩).run P w = .ok (.value (if ok then .tuple #[v, .bool true] else v)) w := fun {w0 ρ ac w} hs => by
                have hv := hs.ev x (by simp [Op.operands])
                have hy := hs.ev y (by simp [Op.operands])
                rw [hv0] at hv
                simp only [VR] at hv
                obtain ⟨r, N, g1, g2⟩ := hv
                obtain ⟨es, cl, e1, e2, e3⟩ := hs.w.ents g1 h3
                have hc : (Instr.checkKey es.isEmpty 10000 kt (ac.eval y)).run P w = .ok () w := K.chk _ _ _ _ _ w 9998 hr0 hy
                obtain ⟨v, _, f1, f2, f3⟩ := find_some K hy hd w l es.toList 0 i p e3 k1 k2 k3
                have hf0 := run_findKey hd f2 f3
                refine ⟨v, f1, ?_⟩
                simp [execOp, Instr.lookup, run_und hdm, g2, getObj, Sem.run, e2, hc, hf0]
              cases ok
              · exact .a1 _ rfl k4 fun w0 ρ ac w hs => by
                  obtain ⟨v, r1, r2⟩ := run hs
                  exact ⟨_, r2, r1⟩
              · exact .a1 _ rfl k4 fun w0 ρ ac w hs => by
                  obtain ⟨v, r1, r2⟩ := run hs
                  refine ⟨_, r2, ?_⟩
                  simp only [VR, VRL]
                  exact ⟨[v, .bool true], rfl, _, _, rfl, r1, _, _, rfl, rfl, rfl⟩
            · have run : ∀ {w0 ρ ac w}, Sv q w0 ρ e m ac w (Op.lookup t x y ok).operands → (execOp ac.eval ⟨dst, .lookup t x y ok, ty, pos, aft, gd⟩).run P w = .ok (.value (if ok then .tuple #[z, .bool false] else z)) w := fun {w0 ρ ac w} hs => by
                have hv := hs.ev x (by simp [Op.operands])
                have hy := hs.ev y (by simp [Op.operands])
                rw [hv0] at hv
                simp only [VR] at hv
                obtain ⟨r, N, g1, g2⟩ := hv
                obtain ⟨es, cl, e1, e2, e3⟩ := hs.w.ents g1 h3
                have hc : (Instr.checkKey es.isEmpty 10000 kt (ac.eval y)).run P w = .ok () w := K.chk _ _ _ _ _ w 9998 hr0 hy
                obtain ⟨f2, f3⟩ := find_none K hy hd w l es.toList 0 e3 k1
                have hf0 := run_findKey hd f2 f3
                simp [execOp, Instr.lookup, run_und hdm, g2, getObj, Sem.run, e2, hc, hf0, z1]
              cases ok
              · exact .a1 _ rfl k2 fun w0 ρ ac w hs => ⟨_, run hs, z2 ρ⟩
              · exact .a1 _ rfl k2 fun w0 ρ ac w hs => ⟨_, run hs, nov⟩
    · exact (bad_ok hf h).elim
  · exact (bad_ok hf h).elim
end
end Go.It
namespace Go.It
open Go.RowKit
open Go.Vc (Keeps cellsAt)
set_option linter.unusedVariables false
set_option linter.constructorNameAsVariable false
theorem But.alloc (w : World) (o : Obj) : But w.heap.size w (w.alloc o) :=
  ⟨rfl, rfl, rfl, by rw [World.size_alloc]; omega, fun b hb _ => heap_alloc_old w o hb⟩
theorem OR.made {w0 : World} {ρ : Rho} {w : World} (h0 : w0.heap.size ≤ w.heap.size) {cs : Array Value} {el : TypeId} {l : List V} {xs post : List Value} (hcs : cs.toList = xs ++ post) (hl : VRL ρ l xs) (h1 : l.all oneV = true) : OR w0 ρ (w.alloc (.cells cs el)) w.heap.size 0 cs.size (.row true l) := by
  have hsz : cs.size = xs.length + post.length := by rw [← Array.length_toList, hcs]; simp
  have hc : ∀ j, (w.alloc (.cells cs el)).cell? ⟨w.heap.size, 0 + j, none⟩ = cs[j]? := fun j => by
    rw [Nat.zero_add]; exact World.cell?_alloc_new w cs el j
  refine ⟨h1, by rw [hsz, hl.length]; omega, ⟨xs, hl, fun j v hj => ?_⟩, fun j hj => by rw [hc]; simp [hj], ⟨cs, el, _, heap_alloc_new w _⟩, fun _ => ⟨h0, fun j hj => ?_⟩⟩
  · have := hc j
    rw [Nat.zero_add] at this
    rw [show (0 + j) = j from Nat.zero_add j] at *
    rw [this, ← Array.getElem?_toList, hcs, List.getElem?_append_left (List.getElem?_eq_some_iff.1 hj).1]
    exact hj
  · rw [Nat.zero_add]
    exact World.frozen?_alloc_at cs el _ j rfl
section
variable {P : Program} {q : Cx} {e : q.ε} {m : M} {c : V → M → Bool} {f : OpF q} {dst : Option Tmp} {ty : TypeId} {pos : String} {aft : Array Edge} {gd : Option (Nat × Bool)}
theorem op_alloc (hq : CxOK q) (hE : EnOK P q.E) {t : TypeId} (hf : trOp q ⟨dst, .alloc t, ty, pos, aft, gd⟩ = .mk f) (h : f e m c = true) : OpR P q ⟨dst, .alloc t, ty, pos, aft, gd⟩ e m c := by
  replace hf : trAlloc q t = .mk f := hf
  unfold trAlloc at hf
  cases hn : kn q.E t
  · simp only [hn, cond_false] at hf
    exact (bad_ok hf h).elim
  · simp only [hn, cond_true, unb_mk, Box.mk.injEq] at hf
    subst hf
    have ht := kn_of' hE hn
    obtain ⟨h1, h2⟩ := newO_ok h
    obtain ⟨fi, z, z1, z2, z3, z4⟩ := ht.zero
    refine .b (fun a => .p a 0) _ rfl h1 h2 (fun _ => ⟨rfl, rfl⟩) fun w0 ρ m ac w hs => ?_
    refine ⟨.pointer (some ⟨w.heap.size, 0, none⟩), w.alloc (.cells z.cells t), z.cells.size, ?_, But.alloc w _, fun ρ' k hle hk => ⟨?_, ?_⟩⟩
    · simp [execOp, Instr.alloc, zeroValue, typeInfo, z1, z3, newVar, newRow]
    · simp only [VR]
      exact ⟨w.heap.size, 0, _, hk, rfl⟩
    · exact OR.made hs.w.keeps.size (by simp : z.cells.toList = z.cells.toList ++ []) (z4 ρ') ht.zone.1
theorem op_box (hq : CxOK q) (hE : EnOK P q.E) {t : TypeId} {x : Operand} (hf : trOp q ⟨dst, .box t x, ty, pos, aft, gd⟩ = .mk f) (h : f e m c = true) : OpR P q ⟨dst, .box t x, ty, pos, aft, gd⟩ e m c := by
  replace hf : trBox q t x = .mk f := hf
  unfold trBox at hf
  cases hn : kn q.E t
  · simp only [hn, cond_false] at hf
    exact (bad_ok hf h).elim
  · simp only [hn, cond_true, unb_mk] at hf
    have h2 := op1_ok hq hf h
    obtain ⟨h3, h4⟩ := bif_t h2
    simp only [Bool.and_eq_true] at h3
    have hpos : 0 < (cellsV (evD q e x)).length := by
      have e1 := Nat.eq_of_beq_eq_true h3.1
      have e2 := h3.2
      rw [Nat.blt_eq] at e2
      rw [lenL_eq] at e1
      omega
    obtain ⟨h5, h6⟩ := newO_ok h4
    refine .b (fun a => .p a 0) _ rfl h5 h6 (fun _ => ⟨rfl, rfl⟩) fun w0 ρ m ac w hs => ?_
    have hv := hs.ev x (by simp [Op.operands])
    obtain ⟨c1, c2⟩ := cells_ok hv hpos
    refine ⟨.pointer (some ⟨w.heap.size, 0, none⟩), w.alloc (.cells (ac.eval x).cells t), (ac.eval x).cells.size, ?_, But.alloc w _, fun ρ' k hle hk => ⟨?_, ?_⟩⟩
    · simp [execOp, Instr.box, newVar, newRow]
    · simp only [VR]
      exact ⟨w.heap.size, 0, _, hk, rfl⟩
    · exact OR.made hs.w.keeps.size (by simp : (ac.eval x).cells.toList = (ac.eval x).cells.toList ++ []) (c1.mono hle) c2
theorem OR.map_new {w0 : World} {ρ : Rho} {w : World} (h0 : w0.heap.size ≤ w.heap.size) (N : Nat) : OR w0 ρ (w.alloc (.map #[] 0)) w.heap.size 0 N (.map []) :=
  ⟨rfl, h0, #[], 0, heap_alloc_new w _, rfl, fun j p e hj => by simp at hj⟩
theorem op_makeMap (hq : CxOK q) {t : TypeId} (hf : trOp q ⟨dst, .makeMap t none, ty, pos, aft, gd⟩ = .mk f) (h : f e m c = true) : OpR P q ⟨dst, .makeMap t none, ty, pos, aft, gd⟩ e m c := by
  replace hf : trMakeM q = .mk f := hf
  simp only [trMakeM, Box.mk.injEq] at hf
  subst hf
  obtain ⟨h1, h2⟩ := newO_ok h
  refine .b (fun a => .m a) _ rfl h1 h2 (fun _ => ⟨rfl, rfl⟩) fun w0 ρ m ac w hs => ?_
  refine ⟨.map (some w.heap.size), w.alloc (.map #[] 0), 0, by simp [execOp, Instr.makeMap], But.alloc w _, fun ρ' k hle hk => ⟨?_, OR.map_new hs.w.keeps.size 0⟩⟩
  simp only [VR]
  exact ⟨w.heap.size, 0, hk, rfl⟩
theorem repC_len (z : List V) : ∀ k, (repC k z []).length = k * z.length
  | 0 => by simp [repC]
  | k + 1 => by simp [repC, repC_len z k, Nat.add_mul]; omega
theorem repC_all {z : List V} (h : z.all oneV = true) : ∀ k, (repC k z []).all oneV = true
  | 0 => rfl
  | k + 1 => by simp only [repC, List.all_append, h, repC_all h k, Bool.and_self]
theorem repC_get {z : List V} : ∀ {k j : Nat}, j < k * z.length → (repC k z [])[j]? = z[j % z.length]?
  | 0, j, h => by simp at h
  | k + 1, j, h => by
    simp only [repC]
    by_cases hj : j < z.length
    · rw [List.getElem?_append_left hj, Nat.mod_eq_of_lt hj]
    · rw [List.getElem?_append_right (by omega), repC_get (by rw [Nat.add_mul] at h; omega), ← Nat.mod_eq_sub_mod (by omega)]
theorem VRL.made {ρ : Rho} {zl : List V} {z : Array Value} (h : VRL ρ zl z.toList) (k : Nat) : VRL ρ (repC k zl []) (madeCells z (k * zl.length)).toList := by
  have hl := h.length
  simp only [Array.length_toList] at hl
  refine VRL.of (by simp [size_madeCells, repC_len]) fun j v x hv hx => ?_
  have hj : j < k * zl.length := by
    have := (List.getElem?_eq_some_iff.1 hv).1
    rwa [repC_len] at this
  rw [repC_get hj] at hv
  obtain ⟨y, h1, h2⟩ := h.get hv
  have hm : j % zl.length < z.size := by rw [hl]; exact Nat.mod_lt _ (by cases hz : zl.length with | zero => rw [hz] at hj; simp at hj | succ n => omega)
  have : x = y := by
    simp [madeCells, hj] at hx
    rw [← hx, hl, getElem!_pos z _ hm]
    have e1 : z.toList[j % zl.length]? = some z[j % zl.length] := by simp [hm]
    rw [e1] at h1
    exact Option.some.inj h1
  rw [this]; exact h2
theorem op_makeSlice (hq : CxOK q) (hE : EnOK P q.E) {t : TypeId} {x y : Operand} (hf : trOp q ⟨dst, .makeSlice t x y, ty, pos, aft, gd⟩ = .mk f) (h : f e m c = true) : OpR P q ⟨dst, .makeSlice t x y, ty, pos, aft, gd⟩ e m c := by
  replace hf : trMakeS q t x y = .mk f := hf
  unfold trMakeS at hf
  split at hf
  · rename_i el hk
    obtain ⟨dm, hdm, hkr⟩ := (kn_ok hE hk (by simp)).desc
    rw [hk] at hkr
    simp only [kR] at hkr
    subst hkr
    cases hn : (!kn q.E el)
    · simp only [hn, cond_false, unb_mk] at hf
      have ht := kn_of hE hn
      have h2 := op2_ok hq hf h
      obtain ⟨n, h3, hn'⟩ := oIx_ok h2
      obtain ⟨k, h4, hk'⟩ := oIx_ok h3
      obtain ⟨h5, h6⟩ := bif_t h4
      obtain ⟨h7, h8⟩ := bif_t h6
      obtain ⟨h9, h10⟩ := bif_t h8
      have h5 := Nat.le_of_ble_eq_true h5
      have h7 : k * (ti q.E el).by' ≤ 1099511627776 := Nat.le_of_ble_eq_true h7
      have h9 := Nat.le_of_ble_eq_true h9
      obtain ⟨h11, h12⟩ := newO_ok h10
      refine .b (fun a => .sl a 0 n k 0) _ rfl h11 h12 (fun _ => ⟨rfl, rfl⟩) fun w0 ρ m ac w hs => ?_
      obtain ⟨k1, e1, _⟩ := hn' ρ _ (hs.ev x (by simp [Op.operands]))
      obtain ⟨k2, e2, _⟩ := hk' ρ _ (hs.ev y (by simp [Op.operands]))
      obtain ⟨fi, i1, i2, i3, z, i4, _, _, i5⟩ := ht.info
      have hb : (fi.bytes : Int) * (k : Int) ≤ 281474976710656 := by
        rw [i3, ← Int.natCast_mul, Nat.mul_comm]
        omega
      have run := run_make (P := P) w t el fi z hdm i1 i4 k1 k2 (n : Int) (k : Int) (by omega) (by omega) hb (by omega)
      simp only [Int.toNat_natCast] at run
      rw [i2] at run
      refine ⟨_, _, (madeCells z.cells (k * (ti q.E el).n)).size, by simp only [execOp, Sem.run_bind, e1, e2, run]; rfl, But.alloc w _, fun ρ' kk hle hkk => ⟨?_, ?_⟩⟩
      · simp only [VR]
        exact ⟨_, k, rfl, h5, Nat.le_refl _, by simp only [maxLen]; omega, fun _ => rfl, .inr ⟨w.heap.size, 0, _, hkk, rfl, fun e => absurd rfl e⟩⟩
      · have hm := (i5 ρ').made k
        rw [ht.zone.2] at hm
        exact OR.made hs.w.keeps.size (by simp : (madeCells z.cells (k * (ti q.E el).n)).toList = (madeCells z.cells (k * (ti q.E el).n)).toList ++ []) hm (repC_all ht.zone.1 k)
    · simp only [hn, cond_true] at hf
      exact (bad_ok hf h).elim
  · exact (bad_ok hf h).elim
end
end Go.It
namespace Go.It
open Go.RowKit
open Go.Vc (Keeps cellsAt)
set_option linter.unusedVariables false
set_option linter.constructorNameAsVariable false
section
variable {P : Program} {q : Cx} {e : q.ε} {m : M} {c : V → M → Bool} {f : OpF q} {dst : Option Tmp} {ty : TypeId} {pos : String} {aft : Array Edge} {gd : Option (Nat × Bool)}
theorem op_makeMap2 (hq : CxOK q) (hE : EnOK P q.E) {t : TypeId} {x : Operand} (hf : trOp q ⟨dst, .makeMap t (some x), ty, pos, aft, gd⟩ = .mk f) (h : f e m c = true) : OpR P q ⟨dst, .makeMap t (some x), ty, pos, aft, gd⟩ e m c := by
  replace hf : trMakeM2 q t x = .mk f := hf
  unfold trMakeM2 at hf
  split at hf
  · rename_i kt el hk
    obtain ⟨dm, hdm, hkr⟩ := (kn_ok hE hk (by simp)).desc
    rw [hk] at hkr
    simp only [kR] at hkr
    subst hkr
    have h2 := op1_ok hq hf h
    obtain ⟨k, n, h3, h4⟩ := oAny_ok h2
    obtain ⟨h5, h6⟩ := newO_ok h3
    refine .b (fun a => .m a) _ rfl h5 h6 (fun _ => ⟨rfl, rfl⟩) fun w0 ρ m ac w hs => ?_
    obtain ⟨e1, _⟩ := h4 ρ _ (hs.ev x (by simp [Op.operands]))
    refine ⟨.map (some w.heap.size), w.alloc (.map #[] 0), 0, by simp [execOp, Instr.makeMap, run_und hdm, e1, asInt, asIntOf], But.alloc w _, fun ρ' k hle hk => ⟨?_, OR.map_new hs.w.keeps.size 0⟩⟩
    simp only [VR]
    exact ⟨w.heap.size, 0, hk, rfl⟩
  · exact (bad_ok hf h).elim
theorem op_buildSlice (hq : CxOK q) (hE : EnOK P q.E) {t : TypeId} {n : Nat} {ps : Array (Nat × Operand)} (hf : trOp q ⟨dst, .buildSlice t n ps, ty, pos, aft, gd⟩ = .mk f) (h : f e m c = true) : OpR P q ⟨dst, .buildSlice t n ps, ty, pos, aft, gd⟩ e m c := by
  replace hf : trBuildS q t n ps.toList = .mk f := hf
  simp only [trBuildS, accL_eq hq, unb_mk] at hf
  have evl : ∀ {w0 ρ m' ac w}, Sv q w0 ρ e m' ac w (Op.buildSlice t n ps).operands → VRL ρ ((ps.toList.map (·.2)).map (evD q e)) ((ps.toList.map (·.2)).map ac.eval) := fun hs => hs.evL fun x hx => by
    simp only [List.mem_map] at hx
    obtain ⟨p, hp, rfl⟩ := hx
    have hp : p ∈ ps := by simpa using hp
    simp [Op.operands]
    exact ⟨p.1, hp⟩
  split at hf
  · rename_i el hk
    obtain ⟨dm, hdm, hkr⟩ := (kn_ok hE hk (by simp)).desc
    rw [hk] at hkr
    simp only [kR] at hkr
    subst hkr
    cases hn : (kn q.E el && Nat.ble (Nat.mul n (ti q.E el).n) 65536 && Nat.ble n 65536)
    · simp only [hn, cond_false] at hf
      exact (bad_ok hf h).elim
    · simp only [hn, cond_true, Box.mk.injEq] at hf
      subst hf
      simp only [Bool.and_eq_true] at hn
      obtain ⟨⟨n1, n2⟩, n3⟩ := hn
      have n2 : n * (ti q.E el).n ≤ 65536 := Nat.le_of_ble_eq_true n2
      have n3 : n ≤ 65536 := Nat.le_of_ble_eq_true n3
      have ht := kn_of' hE n1
      obtain ⟨l', g1, g2⟩ := fillC_ok h (by simp)
      obtain ⟨h5, h6⟩ := newO_ok g1
      refine .b (fun a => .sl a 0 n n 0) _ rfl h5 h6 (fun _ => ⟨rfl, rfl⟩) fun w0 ρ m ac w hs => ?_
      obtain ⟨fi, z, z1, z2, z3, z4⟩ := ht.zero
      have hm := (z4 ρ).made n
      rw [ht.zone.2] at hm
      obtain ⟨ys, k1, k2, k3, k4⟩ := g2 ρ _ _ (evl hs) hm (repC_all ht.zone.1 n)
      have hfill : Instr.fill (fun i => some (i * (ti q.E el).n, (ti q.E el).n)) (madeCells z.cells (n * (ti q.E el).n)) ((ps.map fun (i, x) => (i, ac.eval x)).toList) = some ys.toArray := by
        rw [zip_parts]; simpa using k1
      have run : (Instr.buildSlice t n (ps.map fun (i, x) => (i, ac.eval x))).run P w = .ok (.slice (some ⟨w.heap.size, 0, none⟩) n n) (w.alloc (.cells ys.toArray el)) := by
        simp only [Instr.buildSlice, Sem.run_bind, run_und hdm, Result.andThen_ok, ht.size]
        rw [if_neg (by omega)]
        by_cases h0 : n * (ti q.E el).n = 0
        · have hmade : (Array.map (fun x => (#[] : Array Value)[x % (#[] : Array Value).size]!) (Array.range (n * (ti q.E el).n))) = madeCells z.cells (n * (ti q.E el).n) := by simp [h0, madeCells]
          rw [if_pos h0]
          simp only [Sem.run_bind, Sem.run_pure, Result.andThen_ok, hmade, hfill]
          simp [newRow]
        · have hmade : (Array.map (fun x => z.cells[x % z.cells.size]!) (Array.range (n * (ti q.E el).n))) = madeCells z.cells (n * (ti q.E el).n) := rfl
          rw [if_neg h0]
          have hzr : (zeroValue el).run P w = .ok z w := by simp [zeroValue, typeInfo, z1, z3]
          simp only [Sem.run_bind, hzr, Sem.run_pure, Result.andThen_ok, hmade, hfill]
          simp [newRow]
      refine ⟨_, _, ys.toArray.size, by simp only [execOp, Sem.run_bind, run]; rfl, But.alloc w _, fun ρ' k hle hk => ⟨?_, ?_⟩⟩
      · simp only [VR]
        exact ⟨_, n, rfl, Nat.le_refl _, Nat.le_refl _, by simp only [maxLen]; omega, fun _ => rfl, .inr ⟨w.heap.size, 0, _, hk, rfl, fun e => absurd rfl e⟩⟩
      · exact OR.made hs.w.keeps.size (by simp : ys.toArray.toList = ys ++ []) (k2.mono hle) k3
  · exact (bad_ok hf h).elim
theorem bytesL_num : ∀ bs : List UInt8, bytesL bs.length (num bs) = bs.map fun b => V.k .u8 b.toNat
  | [] => rfl
  | b :: bs => by
    have hb := b.toNat_lt
    simp only [List.length_cons, bytesL, num, List.map_cons, Nat.add_eq, Nat.mul_eq]
    have e1 : Nat.mod (b.toNat + 256 * num bs) 256 = b.toNat := by
      show (b.toNat + 256 * num bs) % 256 = _
      omega
    have e2 : Nat.shiftRight (b.toNat + 256 * num bs) 8 = num bs := by
      show (b.toNat + 256 * num bs) >>> 8 = _
      rw [Nat.shiftRight_eq_div_pow]
      omega
    rw [e1, e2, bytesL_num bs]
theorem bytes_VRL (ρ : Rho) : ∀ bs : List UInt8, VRL ρ (bs.map fun b => V.k .u8 b.toNat) (bs.map fun b => Value.int .u8 (b.toNat : Int))
  | [] => by simp [VRL]
  | b :: bs => by
    simp only [List.map_cons, VRL]
    refine ⟨_, _, rfl, ?_, bytes_VRL ρ bs⟩
    simp only [VR]
    exact ⟨by rw [dec_small (.inl rfl)], by have := b.toNat_lt; simpa [IntKind.bits] using this⟩
theorem bytes_one (bs : List UInt8) : (bs.map fun b => V.k .u8 b.toNat).all oneV = true := by
  rw [List.all_eq_true]
  intro x hx
  obtain ⟨b, _, rfl⟩ := List.mem_map.1 hx
  rfl
theorem OR.bytes {w0 : World} {ρ : Rho} {w : World} (h0 : w0.heap.size ≤ w.heap.size) {s : ByteArray} {cap : Nat} {el : TypeId} (hcap : s.size ≤ cap) : OR w0 ρ (w.drew.alloc (.cells (bytesRow s cap) el ((bytesRow s cap).size, (bytesRow s cap).size + 1))) w.heap.size 0 (bytesRow s cap).size (.row true (bytesL s.data.toList.length (num s.data.toList))) := by
  have hc : ∀ j, (w.drew.alloc (.cells (bytesRow s cap) el ((bytesRow s cap).size, (bytesRow s cap).size + 1))).cell? ⟨w.heap.size, 0 + j, none⟩ = (bytesRow s cap)[j]? := fun j => by
    rw [Nat.zero_add]; exact World.cell?_alloc_mark w.drew _ el _ j
  have hsz : s.data.size ≤ (bytesRow s cap).size := by simp [bytesRow]
  rw [bytesL_num]
  refine ⟨bytes_one _, by simpa using hsz, ⟨_, bytes_VRL ρ _, fun j v hj => ?_⟩, fun j hj => by rw [hc]; simp [hj], ⟨_, _, _, heap_alloc_new w.drew _⟩, fun _ => ⟨h0, fun j hj => ?_⟩⟩
  · have hj' : j < s.data.size := by
      have := (List.getElem?_eq_some_iff.1 hj).1
      simpa using this
    rw [hc, bytesRow_at s cap j hj', ← hj]
    simp only [List.getElem?_map, Array.getElem?_toList, Array.getElem?_eq_getElem hj']
    rfl
  · rw [Nat.zero_add]
    have := World.frozen?_alloc_mark w.drew (bytesRow s cap) el (bytesRow s cap).size ((bytesRow s cap).size + 1) j
    refine this.trans ?_
    rw [Bool.and_eq_false_iff]
    left
    simp; omega
theorem op_conv_tobytes (hq : CxOK q) (hE : EnOK P q.E) {s d el : TypeId} {x : Operand} (hk : (ti q.E s).k = .s) (hk' : (ti q.E d).k = .sl el) (hf : trOp q ⟨dst, .convert s d x, ty, pos, aft, gd⟩ = .mk f) (h : f e m c = true) : OpR P q ⟨dst, .convert s d x, ty, pos, aft, gd⟩ e m c := by
  replace hf : trConv q s d x = .mk f := hf
  have hcl : cls q ⟨dst, .convert s d x, ty, pos, aft, gd⟩ = 2 := by
    show cConv s d q = 2
    unfold cConv; rw [hk, hk']
  obtain ⟨ds, hd, hkr⟩ := (kn_ok hE hk (by simp)).desc
  obtain ⟨ds', hd', hkr'⟩ := (kn_ok hE hk' (by simp)).desc
  rw [hk] at hkr
  rw [hk'] at hkr'
  simp only [kR] at hkr hkr'
  subst hkr hkr'
  simp only [trConv, hk, hk'] at hf
  split at hf
  · rename_i hke
    obtain ⟨de, hde, hkre⟩ := (kn_ok hE hke (by simp)).desc
    rw [hke] at hkre
    simp only [kR] at hkre
    subst hkre
    have h2 := op1_ok hq hf h
    obtain ⟨n, y, hv0, h3⟩ := oS_ok h2
    obtain ⟨h4, h5⟩ := newO_ok h3
    refine .b (fun a => .sl a 0 n n 1) _ hcl h4 h5 (fun _ => ⟨rfl, rfl⟩) fun w0 ρ m ac w hs => ?_
    have hv := hs.ev x (by simp [Op.operands])
    rw [hv0] at hv
    simp only [VR] at hv
    obtain ⟨sb, g1, g2, g3, g4⟩ := hv
    have hsz : sb.size = n := by rw [← g2]; exact Array.length_toList.symm
    have run := run_bytes_of_string (P := P) w s d el sb hd hd' hde
    have hge := grownCap_ge w sb.size 0 el
    have hle := grownCap_le_maxLen w sb.size 0 el (by rw [hsz]; exact g4)
    have hN : (bytesRow sb (grownCap w sb.size 0 el)).size = grownCap w sb.size 0 el := by
      have : sb.data.size = sb.size := rfl
      simp [bytesRow]; omega
    refine ⟨_, _, (bytesRow sb (grownCap w sb.size 0 el)).size, by simp only [execOp, Sem.run_bind, g1, run]; rfl, ?_, fun ρ' k hl hk => ⟨?_, ?_⟩⟩
    · have := But.alloc w.drew (.cells (bytesRow sb (grownCap w sb.size 0 el)) el ((bytesRow sb (grownCap w sb.size 0 el)).size, (bytesRow sb (grownCap w sb.size 0 el)).size + 1))
      exact ⟨this.os, this.tape, this.output, this.size, this.block⟩
    · simp only [VR]
      exact ⟨_, _, by rw [hsz], Nat.le_refl _, by omega, hle, fun e => by omega, .inr ⟨w.heap.size, 0, _, hk, rfl, fun _ => by rw [hN]; omega⟩⟩
    · have := OR.bytes (ρ := ρ') hs.w.keeps.size (s := sb) (el := el) hge
      rw [g2, g3] at this
      exact this
  · exact (bad_ok hf h).elim
end
end Go.It
namespace Go.It
open Go.RowKit
open Go.Vc (Keeps cellsAt)
set_option linter.unusedVariables false
set_option linter.constructorNameAsVariable false
theorem But.refl (r : Nat) (w : World) : But r w w := ⟨rfl, rfl, rfl, Nat.le_refl _, fun _ _ _ => rfl⟩
theorem But.trans {r : Nat} {a b c : World} (h : But r a b) (k : But r b c) : But r a c :=
  ⟨k.os.trans h.os, k.tape.trans h.tape, k.output.trans h.output, Nat.le_trans h.size k.size, fun i hi hn => (k.block i (Nat.lt_of_lt_of_le hi h.size) hn).trans (h.block i hi hn)⟩
theorem But.setCell (w : World) (r o : Nat) (v : Value) : But r w (w.setCell ⟨r, o, none⟩ v) := by
  refine ⟨rfl, rfl, rfl, by simp [World.setCell], fun i hi hn => ?_⟩
  simp only [World.setCell, Array.getElem?_modify, if_neg (Ne.symm hn)]
theorem But.setCells (r : Nat) : ∀ (vs : List Value) (o : Nat) (w : World), But r w (w.setCells r o vs)
  | [], _, w => But.refl r w
  | v :: vs, o, w => (But.setCell w r o v).trans (But.setCells r vs (o + 1) _)
theorem cells_setCells (r : Nat) : ∀ (vs : List Value) (o : Nat) (w : World), (∃ cs e fz, w.heap[r]? = some (.cells cs e fz)) → ∃ cs e fz, (w.setCells r o vs).heap[r]? = some (.cells cs e fz)
  | [], _, w, h => h
  | v :: vs, o, w, h => by
    refine cells_setCells r vs (o + 1) _ ?_
    obtain ⟨cs, e, fz, h⟩ := h
    refine ⟨cs.setIfInBounds o v, e, fz, ?_⟩
    simp only [World.setCell, Array.getElem?_modify, if_pos, h]
    rfl
theorem OR.put {w0 : World} {ρ : Rho} {w : World} {r b N : Nat} {l ds : List V} {ys : List Value} (h : OR w0 ρ w r b N (.row true l)) (hd : VRL ρ ds ys) (h1 : ds.all oneV = true) {o : Nat} (ho : o + ds.length ≤ l.length) :
    OR w0 ρ (w.setCells r (b + o) ys) r b N (.row true (l.take o ++ ds ++ l.drop (o + ds.length))) := by
  obtain ⟨a1, a2, ⟨xs, a3, a4⟩, a5, a6, a7⟩ := h
  have hx := a3.length
  have hy := hd.length
  refine ⟨all_set a1 h1 _ _, by simp; omega, ⟨_, a3.set hd o, fun j v hj => ?_⟩, fun j hj => ?_, cells_setCells _ _ _ _ a6, fun hw => ⟨(a7 hw).1, fun j hj => by rw [World.frozen?_setCells]; exact (a7 hw).2 j hj⟩⟩
  · by_cases h1 : j < o
    · rw [World.cell?_setCells_out _ _ _ _ _ (fun _ _ => .inl (by show b + j < b + o; omega))]
      refine a4 j v ?_
      rw [List.append_assoc, List.getElem?_append_left (by simp; omega)] at hj
      rw [List.getElem?_take] at hj
      simpa [h1] using hj
    · by_cases h2 : j < o + ys.length
      · have hin := World.cell?_setCells_in r ys (b + o) w (fun i hi => by
          have := a5 (o + i) (by omega)
          rwa [← Nat.add_assoc] at this) (j - o) (by omega)
        rw [show b + o + (j - o) = b + j from by omega] at hin
        rw [hin]
        rw [List.append_assoc, List.getElem?_append_right (by simp; omega), List.getElem?_append_left (by simp; omega)] at hj
        have e : j - (xs.take o).length = j - o := by simp; omega
        rw [e, List.getElem?_eq_getElem (by omega)] at hj
        exact hj
      · rw [World.cell?_setCells_out _ _ _ _ _ (fun _ _ => .inr (by show b + o + ys.length ≤ b + j; omega))]
        refine a4 j v ?_
        rw [List.getElem?_append_right (by simp; omega), List.getElem?_drop] at hj
        rw [← hj]
        congr 1
        simp; omega
  · have : ∀ (vs : List Value) (o : Nat) (w : World), (w.cell? ⟨r, b + j, none⟩).isSome = true → ((w.setCells r o vs).cell? ⟨r, b + j, none⟩).isSome = true := by
      intro vs
      induction vs with
      | nil => exact fun _ _ h => h
      | cons v vs ih =>
        intro o w h
        refine ih (o + 1) _ ?_
        by_cases hjo : b + j = o
        · subst hjo
          obtain ⟨u, hu⟩ := Option.isSome_iff_exists.1 h
          rw [World.cell?_setCell_same w _ v (by rw [hu])]
          rfl
        · rw [World.cell?_setCell_other _ _ _ _ (by simp [hjo])]
          exact h
    exact this _ _ _ (a5 j hj)
section
variable {P : Program} {q : Cx} {e : q.ε} {m : M} {c : V → M → Bool} {f : OpF q} {dst : Option Tmp} {ty : TypeId} {pos : String} {aft : Array Edge} {gd : Option (Nat × Bool)}
theorem W.nx_wr (m : M) (a : Nat) (o : O) : (wr m a o).nx = m.nx := rfl
theorem op_store (hq : CxOK q) (hE : EnOK P q.E) {t : TypeId} {x y : Operand} (hf : trOp q ⟨dst, .store t x y, ty, pos, aft, gd⟩ = .mk f) (h : f e m c = true) : OpR P q ⟨dst, .store t x y, ty, pos, aft, gd⟩ e m c := by
  replace hf : trStore q t x y = .mk f := hf
  unfold trStore at hf
  cases hn : (!kn q.E t)
  · simp only [hn, cond_false, unb_mk] at hf
    have ht := kn_of hE hn
    cases hz : Nat.beq (ti q.E t).n 0
    · simp only [hz, cond_false] at hf
      have hz : (ti q.E t).n ≠ 0 := fun e => by rw [e] at hz; cases hz
      have h2 := op2_ok hq hf h
      obtain ⟨a, o, l, h3, h4, h5, h6, h7⟩ := stN_ok h2
      refine .c _ _ rfl h7 ⟨Nat.le_refl _, fun w0 ρ ac w hs => ?_⟩
      have hv := hs.ev x (by simp [Op.operands])
      have hy := hs.ev y (by simp [Op.operands])
      rw [h3] at hv
      simp only [VR] at hv
      obtain ⟨r, b, N, g1, g2⟩ := hv
      obtain ⟨c1, c2⟩ := cells_ok hy (by omega)
      have hob := hs.w.obj _ _ _ _ g1
      rw [h4] at hob
      have hcl : (ac.eval y).cells.size = (ti q.E t).n := by rw [← Array.length_toList, c1.length, h5]
      obtain ⟨a1, a2, a3, a5, a6, a7⟩ := hob
      have run := run_storeCells_cells (P := P) r (b + o) (ac.eval y).cells.toList 0 w (fun j hj => by
          have hj : j < (ti q.E t).n := by rw [← hcl]; simpa using hj
          have := a5 (o + j) (by omega)
          rwa [← Nat.add_assoc] at this) (fun j hj => by
          have hj : j < (ti q.E t).n := by rw [← hcl]; simpa using hj
          have := (a7 rfl).2 (o + j) (by omega)
          rwa [← Nat.add_assoc] at this) (c1.one c2)
      have hput := OR.put (o := o) ⟨a1, a2, a3, a5, a6, a7⟩ c1 c2 (by omega)
      refine ⟨.skip, Go.undef, w.setCells r (b + o) (ac.eval y).cells.toList, ρ, ?_, .inr ⟨rfl, rfl⟩, ?_, by simp only [VR, zR]; rfl, .refl _, fun k hk _ => hk⟩
      · simp only [execOp, Instr.storeAt, g2, Instr.sureAddr, storeVar, Sem.run_bind, Sem.run_pure, Result.andThen_ok, ht.size, hcl]
        simp [run]
      · rw [← h5]
        exact hs.w.write g1 (by rw [h4]; rfl) (.inl rfl) (But.setCells _ _ _ _) (a7 rfl).1 hput
    · simp only [hz, cond_true] at hf
      have h2 := op2_ok hq hf h
      obtain ⟨a, o, h3, h4⟩ := oP_ok h2
      split at h4
      · rename_i hu
        refine .c _ _ rfl h4 ⟨Nat.le_refl _, fun w0 ρ ac w hs => ?_⟩
        have hv := hs.ev x (by simp [Op.operands])
        have hy := hs.ev y (by simp [Op.operands])
        rw [h3] at hv
        rw [hu] at hy
        simp only [VR] at hv hy
        obtain ⟨r, b, N, g1, g2⟩ := hv
        obtain ⟨xs, hy, hxs, -⟩ := hy
        simp only [VRL] at hxs
        subst hxs
        have hz : (ti q.E t).n = 0 := Nat.eq_of_beq_eq_true hz
        refine ⟨.skip, Go.undef, w, ρ, ?_, .inr ⟨rfl, rfl⟩, hs.w, by simp only [VR, zR]; rfl, .refl _, fun k hk _ => hk⟩
        simp [execOp, Instr.storeAt, g2, Instr.sureAddr, storeVar, Sem.run_bind, Sem.run_pure, Result.andThen_ok, ht.size, hy, hz, Value.cells, storeCells]
      · cases h4
  · simp only [hn, cond_true] at hf
    exact (bad_ok hf h).elim
end
end Go.It
namespace Go.It
open Go.RowKit
open Go.Vc (Keeps cellsAt)
set_option linter.unusedVariables false
set_option linter.constructorNameAsVariable false
theorem bits_int (n : Nat) (k : IntKind) (x y : Int) (h : (x == y) = true) : Instr.sameBits n (.int k y) (.int k x) = true := by
  have : x = y := by simpa using h
  subst this
  cases n <;> simp [Instr.sameBits]
theorem qKey_bits {E : En} {k : TK} {g : V → V → Option Bool} (hg : qKey E k = some g) {v u : V} (h : g v u = some true) {ρ : Rho} {a b : Value} (ha : VR ρ v a) (hb : VR ρ u b) : Instr.sameBits 10000 b a = true := by
  unfold qKey at hg
  split at hg <;> first | (cases hg; done) | skip
  · simp only [Option.some.injEq] at hg; subst hg
    obtain ⟨j, y, z, rfl, rfl, e⟩ := qI_ok h ha hb
    exact bits_int _ _ _ _ e
  · simp only [Option.some.injEq] at hg; subst hg
    unfold qS at h
    split at h <;> first | (cases h; done) | skip
    simp only [VR] at ha hb
    obtain ⟨s, rfl, s1, s2, s3⟩ := ha
    obtain ⟨q, rfl, r1, r2, r3⟩ := hb
    simp only [Option.some.injEq] at h
    have : (s == q) = true := by rw [beq_toListBytes, str_eq, s1, s2, r1, r2]; exact h
    have e : (q == s) = true := by
      rw [beq_toListBytes] at this ⊢
      simp only [beq_iff_eq] at this ⊢
      exact this.symm
    show Instr.sameBits 10000 (.string q) (.string s) = true
    rw [Instr.sameBits]; exact e
  · simp only [Option.some.injEq] at hg; subst hg
    unfold qB at h
    split at h <;> first | (cases h; done) | skip
    rename_i x y
    simp only [VR] at ha hb
    subst ha hb
    simp only [Option.some.injEq] at h
    show Instr.sameBits 10000 (.bool y) (.bool x) = true
    rw [Instr.sameBits]
    cases x <;> cases y <;> first | rfl | cases h
  · rename_i n e
    unfold qAr at hg
    split at hg
    · cases hn : Nat.beq (ti E e).n 1
      · rw [hn] at hg; cases hg
      · rw [hn] at hg
        simp only [cond_true, Option.some.injEq] at hg
        subst hg
        unfold qA at h
        split at h
        · rename_i l r
          cases hl : Nat.beq (lenL l) n
          · rw [hl] at h; cases h
          · rw [hl] at h
            have h : qL l r = some true := h
            simp only [VR] at ha hb
            obtain ⟨xs, rfl, hx, _⟩ := ha
            obtain ⟨ys, rfl, hy, _⟩ := hb
            have key : ∀ (l r : List V) (xs ys : List Value), qL l r = some true → VRL ρ l xs → VRL ρ r ys → ys.length = xs.length ∧ (ys.zip xs).all (fun (x, y) => Instr.sameBits 9999 x y) = true := by
              intro l
              induction l with
              | nil =>
                intro r xs ys h hx hy
                cases r with
                | nil => simp only [VRL] at hx hy; subst hx hy; exact ⟨rfl, rfl⟩
                | cons b r => simp [qL] at h
              | cons a l ih =>
                intro r xs ys h hx hy
                cases r with
                | nil => simp [qL] at h
                | cons b r =>
                  simp only [VRL] at hx hy
                  obtain ⟨x, xs, rfl, hx1, hx2⟩ := hx
                  obtain ⟨y, ys, rfl, hy1, hy2⟩ := hy
                  simp only [qL] at h
                  split at h
                  · rename_i p q h1 h2
                    simp only [Option.some.injEq] at h
                    have hp : p = true := by cases p <;> first | rfl | cases h
                    have hq : q = true := by cases q <;> first | rfl | (cases p <;> cases h)
                    subst hp hq
                    obtain ⟨i1, i2⟩ := ih r xs ys h2 hx2 hy2
                    obtain ⟨j, y', z, rfl, rfl, e⟩ := qI_ok h1 hx1 hy1
                    exact ⟨by simpa using i1, by simp only [List.zip_cons_cons, List.all_cons, i2, Bool.and_true]; exact bits_int _ _ _ _ e⟩
                  · cases h
            obtain ⟨k1, k2⟩ := key l r xs ys h hx hy
            show Instr.sameBits (9999 + 1) (.agg ys.toArray) (.agg xs.toArray) = true
            rw [Instr.sameBits]
            simp only [List.size_toArray, k1, beq_self_eq_true, Bool.true_and]
            exact k2
        · cases h
    · cases hg
section
variable {g : V → V → Option Bool}
theorem setM_ok {k v : V} : ∀ {l : List (V × V)} {c : List (V × V) → Bool}, setM g k v l c = true →
    (∃ i p, l[i]? = some p ∧ g k p.1 = some true ∧ (∀ (j : Nat) (p' : V × V), j < i → l[j]? = some p' → g k p'.1 = some false) ∧ c (l.set i (k, v)) = true) ∨ ((∀ p ∈ l, g k p.1 = some false) ∧ c (l ++ [(k, v)]) = true)
  | [], c, h => .inr ⟨fun p hp => (by cases hp), h⟩
  | (a, u) :: l, c, h => by
    simp only [setM] at h
    split at h
    · rename_i hk
      exact .inl ⟨0, _, rfl, hk, fun j p' hj => by omega, h⟩
    · rename_i hk
      rcases setM_ok h with ⟨i, p, h1, h2, h3, h4⟩ | ⟨h1, h2⟩
      · refine .inl ⟨i + 1, p, by simpa using h1, h2, fun j p' hj hj' => ?_, h4⟩
        cases j with
        | zero => simp at hj'; subst hj'; exact hk
        | succ j => exact h3 j p' (by omega) (by simpa using hj')
      · refine .inr ⟨fun p hp => ?_, h2⟩
        rcases List.mem_cons.1 hp with rfl | hp
        · exact hk
        · exact h1 p hp
    · cases h
end
theorem But.setObj (w : World) (r : Nat) (o : Obj) : But r w { w with heap := w.heap.setIfInBounds r o } :=
  ⟨rfl, rfl, rfl, by simp, fun b hb hn => by simp [Array.getElem?_setIfInBounds, Ne.symm hn]⟩
section
variable {P : Program} {q : Cx} {e : q.ε} {m : M} {c : V → M → Bool} {f : OpF q} {dst : Option Tmp} {ty : TypeId} {pos : String} {aft : Array Edge} {gd : Option (Nat × Bool)}
theorem op_mapset (hq : CxOK q) (hE : EnOK P q.E) {t : TypeId} {mp k x : Operand} {op : Op} (hop : op = .insert t mp k x ∨ op = .mapUpdate t mp k x) (hf : trMapSet q t mp k x = .mk f) (h : f e m c = true) : OpR P q ⟨dst, op, ty, pos, aft, gd⟩ e m c := by
  unfold trMapSet at hf
  have hcl : cls q ⟨dst, op, ty, pos, aft, gd⟩ = 3 := by rcases hop with rfl | rfl <;> rfl
  have evs : ∀ {w0 ρ m' ac w}, Sv q w0 ρ e m' ac w op.operands → VR ρ (evD q e mp) (ac.eval mp) ∧ VR ρ (evD q e k) (ac.eval k) ∧ VR ρ (evD q e x) (ac.eval x) := fun hs => by
    rcases hop with rfl | rfl <;> exact ⟨hs.ev _ (by simp [Op.operands]), hs.ev _ (by simp [Op.operands]), hs.ev _ (by simp [Op.operands])⟩
  have exe : ∀ {ev : Operand → Value} {w w' : World}, (Instr.mapUpdate t (ev mp) (ev k) (ev x)).run P w = .ok () w' → (execOp ev ⟨dst, op, ty, pos, aft, gd⟩).run P w = .ok .skip w' := fun hr => by
    rcases hop with rfl | rfl <;> simp [execOp, hr]
  split at hf
  · rename_i kt el hk
    obtain ⟨dm, hdm, hkr⟩ := (kn_ok hE hk (by simp)).desc
    rw [hk] at hkr
    simp only [kR] at hkr
    subst hkr
    split at hf
    · rename_i g hg
      have K := qKey_ok hE hg
      obtain ⟨ds, hd, _⟩ := K.now
      simp only [accO_eq hq, unb_mk, Box.mk.injEq] at hf
      subst hf
      simp only at h
      split at h <;> first | (cases h; done) | skip
      rename_i a hv0
      rw [rdO_eq] at h
      obtain ⟨l, h3, h4⟩ := oMap_ok h
      split at h4
      · rename_i r0 hr0
        rcases setM_ok h4 with ⟨i, p, k1, k2, k3, k4⟩ | ⟨k1, k4⟩ <;> rw [wrO_eq] at k4
        · refine .c _ _ hcl k4 ⟨Nat.le_refl _, fun w0 ρ ac w hs => ?_⟩
          obtain ⟨hv, hky, hx⟩ := evs hs
          rw [hv0] at hv
          simp only [VR] at hv
          obtain ⟨r, N, g1, g2⟩ := hv
          obtain ⟨es, cl, e1, e2, e3⟩ := hs.w.ents g1 h3
          have hc : (Instr.checkKey false 10000 kt (ac.eval k)).run P w = .ok () w := K.chk _ _ _ _ _ w 9998 hr0 hky
          obtain ⟨v, ⟨en, f4, f5⟩, f1, f2, f3⟩ := find_some K hky hd w l es.toList 0 i p e3 k1 k2 k3
          have hf0 := run_findKey hd f2 f3
          rw [Nat.zero_add] at hf0
          have f4' : es[i]? = some en := by simpa using f4
          have hst : (Instr.keyThatStays (((es[i]?).map (·.key)).getD (ac.eval k)) (ac.eval k)).run P w = .ok (ac.eval k) w := by
            have := qKey_bits hg k2 hky (e3.2 i p en k1 f4).1
            simp [Instr.keyThatStays, f4', this]
          have run : (Instr.mapUpdate t (ac.eval mp) (ac.eval k) (ac.eval x)).run P w = .ok () { w with heap := w.heap.setIfInBounds r (.map (es.modify i fun e => { e with key := ac.eval k, val := ac.eval x }) cl) } := by
            simp only [Instr.mapUpdate, g2, Sem.run_bind, run_und hdm, Result.andThen_ok, MapKept.run_getObj_map e2, hc, hf0, hst]
            exact MapKept.run_setObj_map _ e2
          refine ⟨.skip, Go.undef, _, ρ, exe run, .inr ⟨rfl, rfl⟩, ?_, by simp only [VR, zR]; rfl, .refl _, fun k hk _ => hk⟩
          refine hs.w.write g1 (by rw [h3]; rfl) (.inl rfl) (But.setObj _ _ _) e1 ⟨rfl, e1, es.modify i fun e => { e with key := ac.eval k, val := ac.eval x }, cl, ?_, ?_, fun j p' e' hj he => ?_⟩
          · have := (Array.getElem?_eq_some_iff.1 e2).1
            simp [Array.getElem?_setIfInBounds, this]
          · have := e3.1; simpa using this
          · rw [Array.getElem?_modify] at he
            rw [List.getElem?_set] at hj
            by_cases hij : i = j
            · subst hij
              rw [if_pos rfl, f4'] at he
              have hlt : i < l.length := (List.getElem?_eq_some_iff.1 k1).1
              simp [hlt] at hj
              simp at he
              rw [← hj, ← he]
              exact ⟨hky, hx⟩
            · rw [if_neg hij] at he hj
              exact e3.2 j p' e' hj (by simpa using he)
        · refine .c _ _ hcl k4 ⟨Nat.le_refl _, fun w0 ρ ac w hs => ?_⟩
          obtain ⟨hv, hky, hx⟩ := evs hs
          rw [hv0] at hv
          simp only [VR] at hv
          obtain ⟨r, N, g1, g2⟩ := hv
          obtain ⟨es, cl, e1, e2, e3⟩ := hs.w.ents g1 h3
          have hc : (Instr.checkKey false 10000 kt (ac.eval k)).run P w = .ok () w := K.chk _ _ _ _ _ w 9998 hr0 hky
          obtain ⟨f2, f3⟩ := find_none K hky hd w l es.toList 0 e3 k1
          have hf0 := run_findKey hd f2 f3
          have run : (Instr.mapUpdate t (ac.eval mp) (ac.eval k) (ac.eval x)).run P w = .ok () { w with heap := w.heap.setIfInBounds r (.map (es.push { key := ac.eval k, val := ac.eval x, born := cl }) (cl + 1)) } := by
            simp only [Instr.mapUpdate, g2, Sem.run_bind, run_und hdm, Result.andThen_ok, MapKept.run_getObj_map e2, hc, hf0]
            exact MapKept.run_setObj_map _ e2
          refine ⟨.skip, Go.undef, _, ρ, exe run, .inr ⟨rfl, rfl⟩, ?_, by simp only [VR, zR]; rfl, .refl _, fun k hk _ => hk⟩
          refine hs.w.write g1 (by rw [h3]; rfl) (.inl rfl) (But.setObj _ _ _) e1 ⟨rfl, e1, es.push { key := ac.eval k, val := ac.eval x, born := cl }, cl + 1, ?_, ?_, fun j p' e' hj he => ?_⟩
          · have := (Array.getElem?_eq_some_iff.1 e2).1
            simp [Array.getElem?_setIfInBounds, this]
          · have := e3.1; simpa using this
          · have hsz : es.size = l.length := by have := e3.1; simpa using this
            rw [Array.getElem?_push] at he
            by_cases hij : j = es.size
            · rw [if_pos hij] at he
              rw [List.getElem?_append_right (by omega), hij, hsz] at hj
              simp at hj he
              rw [← hj, ← he]
              exact ⟨hky, hx⟩
            · rw [if_neg hij] at he
              have hlt := (Array.getElem?_eq_some_iff.1 he).1
              rw [List.getElem?_append_left (by omega)] at hj
              exact e3.2 j p' e' hj (by simpa using he)
      · cases h4
    · exact (bad_ok hf h).elim
  · exact (bad_ok hf h).elim
end
end Go.It
namespace Go.It
open Go.RowKit
open Go.Vc (Keeps cellsAt)
set_option linter.unusedVariables false
set_option linter.constructorNameAsVariable false
structure Ls (P : Program) (sz : Nat) (ρ : Rho) (w : World) (x : Value) (k : Nat) (xs : List V) : Prop where
  len : ∀ w', (Builtin.lenOf x).run P w' = .ok k w'
  max : k ≤ maxLen
  cells : ∃ ns : List Value, VRL ρ xs ns ∧ xs.all oneV = true ∧ ns.length = k * sz ∧ ∀ j, j ≤ k → (Builtin.firstCells sz j x).run P w = .ok (ns.take (j * sz)).toArray w ∧ (Builtin.firstCells sz j x).run P w.drew = .ok (ns.take (j * sz)).toArray w.drew
theorem elemsS_ok {P : Program} {sz : Nat} {v : V} {m : M} {c : Nat → List V → Bool} (h : elemsS sz v m c = true) : ∃ k xs, c k xs = true ∧ ∀ {w0 : World} {ρ : Rho} {w : World} {x : Value}, W w0 ρ m w → VR ρ v x → Ls P sz ρ w x k xs := by
  have slow : elems sz v m c = true → ∃ k xs, c k xs = true ∧ ∀ {w0 : World} {ρ : Rho} {w : World} {x : Value}, W w0 ρ m w → VR ρ v x → Ls P sz ρ w x k xs := fun h => by
    unfold elems at h
    split at h <;> first | (cases h; done) | skip
    · refine ⟨0, [], h, fun {w0 ρ w x} hw hv => ?_⟩
      simp only [VR, zR] at hv
      subst hv
      exact ⟨fun _ => rfl, Nat.zero_le _, [], by simp [VRL], rfl, by simp, fun j hj => ⟨by simp [Builtin.firstCells], by simp [Builtin.firstCells]⟩⟩
    · rename_i a o n cp xx _
      cases hn : Nat.beq n 0
      · simp only [hn, cond_false, rdRow] at h
        rw [rdO_eq] at h
        obtain ⟨w', l, h3, h4⟩ := oRow_ok h
        obtain ⟨h5, h6⟩ := dropC_ok h4
        obtain ⟨h7, h8⟩ := takeC_ok h6
        have hn : n ≠ 0 := fun e => by rw [e] at hn; cases hn
        refine ⟨n, _, h8, fun {w0 ρ w x} hw hv => ?_⟩
        have hnc : n ≤ cp := by have hv := hv; simp only [VR] at hv; obtain ⟨_, _, _, h, _⟩ := hv; exact h
        obtain ⟨r, b, N, c', g1, g2, g3, g4, g5, _⟩ := hv.slice (by omega)
        obtain ⟨k1, k2, xs, k3, k4⟩ := hw.row g1 h3
        subst g2
        have hl : ((xs.drop o).take (n * sz)).length = n * sz := by
          have := k3.length
          simp only [List.length_drop, Nat.mul_eq] at h7
          simp; omega
        refine ⟨fun _ => rfl, by omega, _, (k3.drop o).take (n * sz), all_of k1 _ _, hl, fun j hj => ?_⟩
        have hjn : j * sz ≤ n * sz := Nat.mul_le_mul_right _ hj
        have hlen : (((xs.drop o).take (n * sz)).take (j * sz)).length = j * sz := by rw [List.length_take, hl]; omega
        have hc : ∀ (w1 : World), w1.heap = w.heap → ∀ (i : Nat) (u : Value), (((xs.drop o).take (n * sz)).take (j * sz))[i]? = some u → w1.cell? ((⟨r, b + o, none⟩ : Addr).add i) = some u := fun w1 hw1 i u hi => by
          rw [List.getElem?_take] at hi
          split at hi
          · have := cells_part k4 i u hi
            rw [← this]
            simp only [World.cell?, hw1]
          · cases hi
        have r1 := run_loadCells_list (P := P) w ⟨r, b + o, none⟩ _ (hc w rfl)
        have r2 := run_loadCells_list (P := P) w.drew ⟨r, b + o, none⟩ _ (hc w.drew rfl)
        rw [hlen] at r1 r2
        exact ⟨r1, r2⟩
      · simp only [hn, cond_true] at h
        have hn : n = 0 := Nat.eq_of_beq_eq_true hn
        subst hn
        refine ⟨0, [], h, fun {w0 ρ w x} hw hv => ?_⟩
        simp only [VR] at hv
        obtain ⟨adr, c', rfl, _⟩ := hv
        refine ⟨fun _ => rfl, Nat.zero_le _, [], by simp [VRL], rfl, by simp, fun j hj => ?_⟩
        have : j = 0 := by omega
        subst this
        exact ⟨by simp [Builtin.firstCells, loadCells, loadCellsFrom], by simp [Builtin.firstCells, loadCells, loadCellsFrom]⟩
  unfold elemsS at h
  split at h
  · rename_i n y
    obtain ⟨h1, h2⟩ := bif_t h
    have h1 : sz = 1 := Nat.eq_of_beq_eq_true h1
    subst h1
    refine ⟨n, _, h2, fun {w0 ρ w x} hw hv => ?_⟩
    simp only [VR] at hv
    obtain ⟨sb, rfl, g2, g3, g4⟩ := hv
    have hsz : sb.size = n := by rw [← g2]; exact Array.length_toList.symm
    rw [← g2, ← g3, bytesL_num]
    have hf : ∀ (j : Nat) (w' : World), j ≤ sb.data.toList.length → (Builtin.firstCells 1 j (.string sb)).run P w' = .ok ((sb.data.toList.map fun b => Value.int .u8 (b.toNat : Int)).take (j * 1)).toArray w' := fun j w' hj => by
      simp only [Builtin.firstCells, Sem.run_pure]
      congr 1
      apply Array.ext'
      rw [Array.toList_map, extract_list]
      simp [List.map_take]
    exact ⟨fun _ => by simp [Builtin.lenOf, hsz, g2], by rw [g2]; exact g4, _, bytes_VRL ρ _, bytes_one _, by simp, fun j hj => ⟨hf j w hj, hf j w.drew hj⟩⟩
  · exact slow h
section
variable {P : Program} {q : Cx} {e : q.ε} {m : M} {c : V → M → Bool} {f : OpF q} {dst : Option Tmp} {ty : TypeId} {pos : String} {aft : Array Edge} {gd : Option (Nat × Bool)}
theorem op_copy (hq : CxOK q) (hE : EnOK P q.E) {x y : Operand} {ats : Array TypeId} {t : TypeId} {tl : List TypeId} (ht0 : ats[0]? = some t) (hf : trBi q .copy ty [x, y] (t :: tl) = .mk f) (h : f e m c = true) : OpR P q ⟨dst, .call ⟨.builtin .copy, #[x, y], ats⟩, ty, pos, aft, gd⟩ e m c := by
  unfold trBi at hf
  simp only at hf
  have exe : ∀ {ev : Operand → Value} {w w' : World} {v : Value}, (Builtin.copy_ ats ty #[ev x, ev y]).run P w = .ok v w' → (execOp ev ⟨dst, .call ⟨.builtin .copy, #[x, y], ats⟩, ty, pos, aft, gd⟩).run P w = .ok (.value v) w' := fun hv => by
    simp [execOp, resolve, invoke, builtin, hv]
  split at hf
  · rename_i el hk
    obtain ⟨dm, hdm, hkr⟩ := (kn_ok hE hk (by simp)).desc
    rw [hk] at hkr
    simp only [kR] at hkr
    subst hkr
    cases hn : kn q.E el
    · simp only [hn, cond_false] at hf
      exact (bad_ok hf h).elim
    · simp only [hn, cond_true, unb_mk] at hf
      have ht := kn_of' hE hn
      have h2 := op2_ok hq hf h
      obtain ⟨k, xs, h3, hL⟩ := elemsS_ok (P := P) h2
      split at h3 <;> first | (cases h3; done) | skip
      · rename_i hv0
        refine .c _ _ rfl h3 ⟨Nat.le_refl _, fun w0 ρ ac w hs => ?_⟩
        have hv := hs.ev x (by simp [Op.operands, Call.operands])
        have L := hL hs.w (hs.ev y (by simp [Op.operands, Call.operands]))
        rw [hv0] at hv
        simp only [VR, zR] at hv
        obtain ⟨ns, n1, n2, n3, n4⟩ := L.cells
        have hf0 := (n4 0 (Nat.zero_le _)).1
        refine ⟨.value (goInt 0), goInt 0, w, ρ, exe ?_, .inl rfl, hs.w, by simp only [VR, goInt]; exact ⟨rfl, by decide⟩, .refl _, fun k hk _ => hk⟩
        simp [Builtin.copy_, ht0, run_und hdm, hv, L.len, ht.size]
        rw [hf0]; rfl
      · rename_i a o n cp xx hv0
        cases hmn : Nat.beq (Nat.min k n) 0
        · simp only [hmn, cond_false] at h3
          have hmn : Nat.min k n ≠ 0 := fun e => by rw [e] at hmn; cases hmn
          obtain ⟨h4, h5⟩ := takeC_ok h3
          rw [rdO_eq] at h5
          obtain ⟨w', l, h6, h7⟩ := oRow_ok h5
          obtain ⟨h8, h9⟩ := bif_t h7
          rw [h8] at h6
          obtain ⟨h10, h11⟩ := setC_ok h9
          rw [wrO_eq] at h11
          have hmk : Nat.min k n ≤ k := Nat.min_le_left _ _
          have hmn' : Nat.min k n ≤ n := Nat.min_le_right _ _
          refine .c _ _ rfl h11 ⟨Nat.le_refl _, fun w0 ρ ac w hs => ?_⟩
          have hv := hs.ev x (by simp [Op.operands, Call.operands])
          have L := hL hs.w (hs.ev y (by simp [Op.operands, Call.operands]))
          rw [hv0] at hv
          have hnc : n ≤ cp := by have hv := hv; simp only [VR] at hv; obtain ⟨_, _, _, h, _⟩ := hv; exact h
          obtain ⟨r, b, N, c', g1, g2, _⟩ := hv.slice (by omega)
          obtain ⟨ns, n1, n2, n3, n4⟩ := L.cells
          have hf0 := (n4 _ hmk).1
          have c1 := n1.take (Nat.mul (Nat.min k n) (ti q.E el).n)
          have c2 : (xs.take (Nat.mul (Nat.min k n) (ti q.E el).n)).all oneV = true := by have := all_of n2 0 (Nat.mul (Nat.min k n) (ti q.E el).n); simpa using this
          have hob := hs.w.obj _ _ _ _ g1
          rw [h6] at hob
          obtain ⟨a1, a2, a3, a5, a6, a7⟩ := hob
          have hlen := c1.length
          have run := run_storeCells_cells (P := P) r (b + o) (ns.take (Nat.mul (Nat.min k n) (ti q.E el).n)) 0 w (fun j hj => by
              have := a5 (o + j) (by omega)
              rwa [← Nat.add_assoc] at this) (fun j hj => by
              have := (a7 rfl).2 (o + j) (by omega)
              rwa [← Nat.add_assoc] at this) (c1.one c2)
          have hput := OR.put (o := o) ⟨a1, a2, a3, a5, a6, a7⟩ c1 c2 h10
          have hkm := L.max
          have hlt : Nat.min k n < 2 ^ 63 := by simp only [maxLen] at hkm; omega
          refine ⟨.value (goInt (Nat.min k n : Nat)), _, w.setCells r (b + o) (ns.take (Nat.mul (Nat.min k n) (ti q.E el).n)), ρ, exe ?_, .inl rfl, ?_, by simp only [VR, goInt]; exact ⟨by rw [dec_small (.inr hlt)], by omega⟩, .refl _, fun k hk _ => hk⟩
          · simp only [Builtin.copy_, ht0]
            simp only [Nat.mul_eq, Nat.add_zero] at run
            simp [run_und hdm, g2, L.len, ht.size, hf0, run]
          · exact hs.w.write g1 (by rw [h6]; rfl) (.inl rfl) (But.setCells _ _ _ _) (a7 rfl).1 hput
        · simp only [hmn, cond_true] at h3
          have hmn : Nat.min k n = 0 := Nat.eq_of_beq_eq_true hmn
          refine .c _ _ rfl h3 ⟨Nat.le_refl _, fun w0 ρ ac w hs => ?_⟩
          have hv := hs.ev x (by simp [Op.operands, Call.operands])
          have L := hL hs.w (hs.ev y (by simp [Op.operands, Call.operands]))
          rw [hv0] at hv
          simp only [VR] at hv
          obtain ⟨adr, c', g1, _⟩ := hv
          obtain ⟨ns, n1, n2, n3, n4⟩ := L.cells
          have hf0 := (n4 0 (Nat.zero_le _)).1
          refine ⟨.value (goInt 0), goInt 0, w, ρ, exe ?_, .inl rfl, hs.w, by simp only [VR, goInt]; exact ⟨rfl, by decide⟩, .refl _, fun k hk _ => hk⟩
          simp only [Builtin.copy_, ht0]
          simp [run_und hdm, g1, L.len, hmn, ht.size]
          rw [hf0]
          simp [storeCells]
  · exact (bad_ok hf h).elim
theorem VRL.noughts {ρ : Rho} {zl : List V} {z : Array Value} (h : VRL ρ zl z.toList) (k : Nat) : VRL ρ (repC k zl []) (Builtin.zeroCells z k).toList := by
  have hl := h.length
  simp only [Array.length_toList] at hl
  refine VRL.of (by simp [Builtin.zeroCells, repC_len, hl]) fun j v x hv hx => ?_
  have hj : j < k * zl.length := by
    have := (List.getElem?_eq_some_iff.1 hv).1
    rwa [repC_len] at this
  rw [repC_get hj] at hv
  obtain ⟨y, h1, h2⟩ := h.get hv
  have hm : j % zl.length < z.size := by rw [hl]; exact Nat.mod_lt _ (by cases hz : zl.length with | zero => rw [hz] at hj; simp at hj | succ n => omega)
  have : x = y := by
    simp [Builtin.zeroCells, hl, hj] at hx
    rw [← hx, getElem!_pos z _ hm]
    have e1 : z.toList[j % zl.length]? = some z[j % zl.length] := by simp [hm]
    rw [e1] at h1
    exact Option.some.inj h1
  rw [this]; exact h2
theorem op_clear (hq : CxOK q) (hE : EnOK P q.E) {x : Operand} {ats : Array TypeId} {t : TypeId} {tl : List TypeId} (ht0 : ats[0]? = some t) (hf : trBi q .clear ty [x] (t :: tl) = .mk f) (h : f e m c = true) : OpR P q ⟨dst, .call ⟨.builtin .clear, #[x], ats⟩, ty, pos, aft, gd⟩ e m c := by
  unfold trBi at hf
  simp only at hf
  have exe : ∀ {ev : Operand → Value} {w w' : World} {v : Value}, (Builtin.clear_ ats ty #[ev x]).run P w = .ok v w' → (execOp ev ⟨dst, .call ⟨.builtin .clear, #[x], ats⟩, ty, pos, aft, gd⟩).run P w = .ok (.value v) w' := fun hv => by
    simp [execOp, resolve, invoke, builtin, hv]
  have tup : ∀ {ρ : Rho}, VR ρ (.tup []) (.tuple #[]) := fun {ρ} => by simp only [VR, VRL]; exact ⟨[], rfl, rfl⟩
  split at hf
  · rename_i el hk
    obtain ⟨dm, hdm, hkr⟩ := (kn_ok hE hk (by simp)).desc
    rw [hk] at hkr
    simp only [kR] at hkr
    subst hkr
    cases hn : kn q.E el
    · simp only [hn, cond_false] at hf
      exact (bad_ok hf h).elim
    · simp only [hn, cond_true, unb_mk] at hf
      have ht := kn_of' hE hn
      have h2 := op1_ok hq hf h
      split at h2 <;> first | (cases h2; done) | skip
      · rename_i hv0
        refine .c _ _ rfl h2 ⟨Nat.le_refl _, fun w0 ρ ac w hs => ?_⟩
        have hv := hs.ev x (by simp [Op.operands, Call.operands])
        rw [hv0] at hv
        simp only [VR, zR] at hv
        refine ⟨.value (.tuple #[]), .tuple #[], w, ρ, exe ?_, .inl rfl, hs.w, tup, .refl _, fun k hk _ => hk⟩
        simp [Builtin.clear_, ht0, run_und hdm, hv]
      · rename_i a o n cp xx hv0
        cases hn0 : Nat.beq n 0
        · simp only [hn0, cond_false] at h2
          have hn0 : n ≠ 0 := fun e => by rw [e] at hn0; cases hn0
          rw [rdO_eq] at h2
          obtain ⟨w', l, h6, h7⟩ := oRow_ok h2
          obtain ⟨h8, h9⟩ := bif_t h7
          rw [h8] at h6
          obtain ⟨h10, h11⟩ := setC_ok h9
          rw [wrO_eq] at h11
          refine .c _ _ rfl h11 ⟨Nat.le_refl _, fun w0 ρ ac w hs => ?_⟩
          have hv := hs.ev x (by simp [Op.operands, Call.operands])
          rw [hv0] at hv
          have hnc : n ≤ cp := by have hv := hv; simp only [VR] at hv; obtain ⟨_, _, _, h, _⟩ := hv; exact h
          obtain ⟨r, b, N, c', g1, g2, _⟩ := hv.slice (by omega)
          obtain ⟨fi, z, z1, z2, z3, z4⟩ := ht.zero
          have c1 := (z4 ρ).noughts n
          have c2 := repC_all ht.zone.1 n
          have hob := hs.w.obj _ _ _ _ g1
          rw [h6] at hob
          obtain ⟨a1, a2, a3, a5, a6, a7⟩ := hob
          have hlen := c1.length
          have run := run_storeCells_cells (P := P) r (b + o) (Builtin.zeroCells z.cells n).toList 0 w (fun j hj => by
              have := a5 (o + j) (by omega)
              rwa [← Nat.add_assoc] at this) (fun j hj => by
              have := (a7 rfl).2 (o + j) (by omega)
              rwa [← Nat.add_assoc] at this) (c1.one c2)
          have hput := OR.put (o := o) ⟨a1, a2, a3, a5, a6, a7⟩ c1 c2 h10
          refine ⟨.value (.tuple #[]), .tuple #[], w.setCells r (b + o) (Builtin.zeroCells z.cells n).toList, ρ, exe ?_, .inl rfl, ?_, tup, .refl _, fun k hk _ => hk⟩
          · simp only [Builtin.clear_, ht0]
            simp only [Nat.add_zero] at run
            simp [run_und hdm, g2, zeroValue, typeInfo, z1, z3, run]
          · exact hs.w.write g1 (by rw [h6]; rfl) (.inl rfl) (But.setCells _ _ _ _) (a7 rfl).1 hput
        · simp only [hn0, cond_true] at h2
          have hn0 : n = 0 := Nat.eq_of_beq_eq_true hn0
          refine .c _ _ rfl h2 ⟨Nat.le_refl _, fun w0 ρ ac w hs => ?_⟩
          have hv := hs.ev x (by simp [Op.operands, Call.operands])
          rw [hv0] at hv
          simp only [VR] at hv
          obtain ⟨adr, c', g1, _⟩ := hv
          refine ⟨.value (.tuple #[]), .tuple #[], w, ρ, exe ?_, .inl rfl, hs.w, tup, .refl _, fun k hk _ => hk⟩
          subst hn0
          simp [Builtin.clear_, ht0, run_und hdm, g1]
  · exact (bad_ok hf h).elim
end
end Go.It
