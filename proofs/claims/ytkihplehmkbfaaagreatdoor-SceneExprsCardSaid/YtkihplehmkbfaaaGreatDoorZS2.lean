import Derived.Test.YtkihplehmkbfaaaGreatDoorZS1
import Derived.Test.YtkihplehmkbfaaaGreatDoorZL6
import Derived.Lib.AppendZeros
import Derived.Lib.SliceRun
import Derived.WalkKit
import Derived.Lib.Walk
import Derived.Shelf.RegionOpenPlain
set_option linter.unusedVariables false
set_option linter.unusedSimpArgs false
namespace Go.Proofs
open Go.Vc
set_option maxRecDepth 100000
namespace Nu
section
open Go.Shelf Go.RowKit Go.Lib
set_option maxHeartbeats 4000000 in
theorem aSQ (n : Nat) (w : World) (hn : n ≤ 1073741824) :
  Calls Tryz.prog 202 #[.slice none 0 0, .int .i64 n] w fun e w' => (n = 0 ∧ e = .returned (.slice none 0 0) ∧ w' = w) ∨
   (0 < n ∧ e = .returned (.slice (some ⟨w.heap.size, 0, none⟩) 0 (grownCap w n 0 9)) ∧ w' = w.drew.alloc (.cells (Builtin.zeroCells #[Value.string ⟨#[]⟩] n ++ Builtin.zeroCells #[Value.string ⟨#[]⟩] (grownCap w n 0 9 - n)) 9)) := by
 have h1 : ¬ ((n : Int) < 0) := by omega
 have h3 : wrap64 ((n : Int) - wrap64 (0 - 0)) = (n : Int) := by unfold wrap64; omega
 have h5 : wrap64 (n : Int) = (n : Int) := by unfold wrap64; omega
 obtain ⟨i, hi, hz, hs, hb⟩ : ∃ i, Tryz.prog.info? 9 = some i ∧ i.zero = some (.string ⟨#[]⟩) ∧ i.size = 1 ∧ i.bytes = 16 := ⟨_, rfl, rfl, rfl, rfl⟩
 go_enter Tryz.func202, Tryz.ntmps202
 rcases Nat.eq_zero_or_pos n with rfl | hp
 ·go_wp2
  go_ret
  exact ⟨rfl, rfl⟩
 ·have h4 : (n : Int) > 0 := by omega
  have hrz : ∀ ty, (Builtin.append_ #[48, 3] ty #[.slice none 0 0, .int .i64 (n : Int)]).run Tryz.prog w = .ok (.slice (some ⟨w.heap.size, 0, none⟩) n (grownCap w n 0 9)) (w.drew.alloc (.cells (Builtin.zeroCells #[Value.string ⟨#[]⟩] n ++ Builtin.zeroCells #[Value.string ⟨#[]⟩] (grownCap w n 0 9 - n)) 9)) :=
   fun ty => Lib.run_append_nil_zeros w 48 3 ty 9 i (.string ⟨#[]⟩) .i64 .i64 rfl rfl hi hz n hp (by omega) (by omega) (by rw [hb]; omega)
  have hG := grownCap_ge w n 0 9
  have hG2 := grownCap_le_maxLen w n 0 9 (by unfold maxLen; omega)
  unfold maxLen at hG2
  generalize grownCap w n 0 9 = G at *
  go_wp2_with (at_builtin; refine Lib.wpList_append_run _ rfl _ _ _ _ rfl _ _ rfl rfl _ _ (hrz _) ?_)
  go_ret
  exact .inr ⟨rfl, rfl⟩
end
def nB (F : Md) (n : Int) : Option (List (List Nat)) := ck (0 ≤ n ∧ n ≤ 1073741824) (some [])
noncomputable def gK (F : Md) : pL where
 D := Int × (List (List Nat))
 av := fun d => [.nilS, .val (.i .i64) d.1]
 hp := fun d => []
 m := 0
 pre := fun d => nB F d.1 = some d.2
 out := fun d => (fun r : (List (List Nat)) => .ret (.own 0) [.row 9 .str (r)]) d.2
attribute [go_sem] gK
theorem aOV {F : Md} {c : Ctx} {w w' : World} {d : (gK F).D} (hd : d.2 = []) (good : Go.Vc.Good (GM (gK F) c d) w c [] w) (hk : fU nothing w w') (v : Value) (hv : ∃ a n m, v = .slice a n m) (hr : w'.ownsRow 0 9 1 v 0 []) (hb : ∀ b, aK v = some b → w.heap.size ≤ b ∧ b < w'.heap.size) :
  aGr (gK F) c w d (.returned v) w' := by
 have e1 : (c.push v).hd c.n = v := by simp [Ctx.push]
 have h0 : c.n = 0 := good.n
 have := good.push hk (o := .row 9 .str []) (hv := v) (by
  show yA _ _ _ _ _ _
  rw [e1]
  exact ⟨[], hr, ⟨rfl, [], rfl, rfl, fun i h => by simp at h⟩⟩) (fun b h => hb b (by simpa [dY, e1] using h))
 refine ⟨c.push v, ?_⟩
 show ∃ u, _ ∧ Go.Vc.Good _ _ _ [.row 9 .str d.2] _ ∧ aJ _ _ (.own 0) u
 rw [hd]
 refine ⟨v, rfl, this.1, ?_⟩
 have := aAh (c := c) (v' := v) hv (w' := w') (S' := c.S)
 rw [h0] at this
 exact this
theorem aDc (F : Md) : GOK Tryz.prog GL 202 (gK F) := by
 rintro c w ⟨n, r⟩ vs hpre ⟨good, glob, len, val⟩
 have hpre : nB F n = some r := hpre
 unfold nB at hpre
 obtain ⟨⟨h1, h2⟩, hpre⟩ := aL hpre
 have hr : [] = r := Option.some.inj hpre
 have hv0 := val 0 (by show 0 < 2; decide) (by rw [len]; show 0 < 2; decide)
 have hv1 := val 1 (by show 1 < 2; decide) (by rw [len]; show 1 < 2; decide)
 have e0 : vs.toList[0]'(by rw [len]; show 0 < 2; decide) = .slice none 0 0 := by
  obtain ⟨q1, _, q3⟩ := hv0
  have q3 := q3 rfl
  revert q1 q3
  generalize vs.toList[0]'(by rw [len]; show 0 < 2; decide) = sv
  intro q1 q3
  have q1 : sv.cells.toList = [.slice none 0 0] := q1
  cases sv <;> simp [Value.cells] at q1 q3 <;> simp [q1]
 obtain ⟨e1, _, _⟩ := aDn (k := .i64) (n := n) hv1
 have hvs : vs = #[.slice none 0 0, .int .i64 (n.toNat : Int)] := by
  have hlen : vs.toList.length = 2 := len
  rw [← Array.toList_inj]
  apply List.ext_getElem
  ·exact hlen
  ·intro i a1 a2
   match i, a2 with
   | 0, _ => exact e0
   | 1, _ => show _ = Value.int .i64 (n.toNat : Int); rw [Int.toNat_of_nonneg h1]; exact e1
 rw [hvs]
 refine Calls.mono (f := 202) (aSQ n.toNat w (by omega)) ?_
 rintro e w' (⟨_, rfl, rfl⟩ | ⟨hp, rfl, rfl⟩)
 ·exact aOV (d := (n, r)) hr.symm good (.refl nothing _) _ ⟨_, _, _, rfl⟩ ⟨rfl, .inl ⟨rfl, rfl⟩⟩ (fun b h => by simp [aK] at h)
 ·have hG := grownCap_ge w n.toNat 0 9
  have hG2 := grownCap_le_maxLen w n.toNat 0 9 (by unfold maxLen; omega)
  have hk : ∀ o, fU nothing w (w.drew.alloc o) := fun o => have k := fU.alloc nothing w.drew o; ⟨rfl, rfl, rfl, k.size, k.block⟩
  refine aOV (d := (n, r)) hr.symm good (hk _) _ ⟨_, _, _, rfl⟩ ⟨rfl, .inr ⟨w.heap.size, _, Builtin.zeroCells #[Value.string ⟨#[]⟩] n.toNat ++ Builtin.zeroCells #[Value.string ⟨#[]⟩] (grownCap w n.toNat 0 9 - n.toNat), rfl, Nat.zero_le _, ?_, Nat.zero_le _, hG2, ?_, rfl⟩⟩ ?_
  ·show (w.heap.push _)[w.heap.size]? = _
   simp
  ·simp [Builtin.zeroCells]
   omega
  ·intro b h
   simp only [aK, Option.some.injEq] at h
   subst h
   refine ⟨Nat.le_refl _, ?_⟩
   show w.heap.size < (w.heap.push _).size
   simp
end Nu
end Go.Proofs
namespace Go.Proofs
open Go.Vc
set_option maxRecDepth 20000
namespace Nu
noncomputable def oH (F : Md) (l_8 : (List (Bool × ((List Nat) × (Int × Unit))))) : Option (Bool) :=
 ck ((2 : Int) < (((l_8.length) : Nat) : Int)) (ck ((1 : Int) < (((l_8.length) : Nat) : Int)) ((wQ F (l_8.getD (2 : Nat) (false, [], 0, ())) (l_8.getD (1 : Nat) (false, [], 0, ()))).bind (fun v_14 => ck ((v_14 ≤ (0 : Int)) → ((0 : Int) < (((l_8.length) : Nat) : Int))) (ck ((v_14 ≤ (0 : Int)) → ((1 : Int) < (((l_8.length) : Nat) : Int))) (ck ((v_14 ≤ (0 : Int)) → ((jH F (l_8.getD (0 : Nat) (false, [], 0, ())) (l_8.getD (1 : Nat) (false, [], 0, ())) (256 : Int)).isSome = true)) (ck (((v_14 ≤ (0 : Int)) ∧ (((jH F (l_8.getD (0 : Nat) (false, [], 0, ())) (l_8.getD (1 : Nat) (false, [], 0, ())) (256 : Int)).getD false) = true)) → ((1 : Int) < (((l_8.length) : Nat) : Int))) (ck (((v_14 ≤ (0 : Int)) ∧ (((jH F (l_8.getD (0 : Nat) (false, [], 0, ())) (l_8.getD (1 : Nat) (false, [], 0, ())) (256 : Int)).getD false) = true)) → ((2 : Int) < (((l_8.length) : Nat) : Int))) (ck (((v_14 ≤ (0 : Int)) ∧ (((jH F (l_8.getD (0 : Nat) (false, [], 0, ())) (l_8.getD (1 : Nat) (false, [], 0, ())) (256 : Int)).getD false) = true)) → ((jH F (l_8.getD (1 : Nat) (false, [], 0, ())) (l_8.getD (2 : Nat) (false, [], 0, ())) (4096 : Int)).isSome = true)) (some (((decide (v_14 ≤ (0 : Int))) && ((jH F (l_8.getD (0 : Nat) (false, [], 0, ())) (l_8.getD (1 : Nat) (false, [], 0, ())) (256 : Int)).getD false)) && ((jH F (l_8.getD (1 : Nat) (false, [], 0, ())) (l_8.getD (2 : Nat) (false, [], 0, ())) (4096 : Int)).getD false)))))))))))
noncomputable def tI (F : Md) (s_0 : (Int × (Int × (Int × (Int × ((List Nat) × ((List Nat) × ((List Nat) × ((List Nat) × ((List ((List Nat) × ((List ((List Nat) × (((List Nat) × ((List Nat) × Unit)) × (Ex × Unit)))) × ((List ((List Nat) × (((List Nat) × ((List Nat) × Unit)) × Unit))) × ((List (List Nat)) × ((List ((List Nat) × (Ex × Unit))) × Unit)))))) × ((List ((List Nat) × ((List Nat) × ((List Nat) × ((List Nat) × Unit))))) × Unit))))))))))) (x56_16 : Int) (l_17 : (List (Bool × ((List Nat) × (Int × Unit))))) : Option ((Int × (List (Bool × ((List Nat) × (Int × Unit))))) ⊕ ((List (Bool × ((List Nat) × (Int × Unit)))) ⊕ Bool)) :=
 if x56_16 < (4 : Int) then ck (0 ≤ x56_16 ∧ x56_16 < (4 : Int)) ((aA2 F (([s_0.2.2.2.2.1, s_0.2.2.2.2.2.1, s_0.2.2.2.2.2.2.1, s_0.2.2.2.2.2.2.2.1] : List (List Nat)).getD (x56_16.toNat) ([] : List Nat))).bind (fun v_24 => ck (¬ (¬ (v_24.2.1 = (0 : Int))) → ((qE F v_24.1).isSome = true)) (if (¬ (v_24.2.1 = (0 : Int))) ∨ (((qE F v_24.1).getD (0 : Int)) ≤ (0 : Int)) then some (.inr (.inr false)) else ck (((l_17.length) + (1 : Nat)) * 73 ≤ 140737488355328) (ck (I64 (x56_16 + (1 : Int))) (some (.inl ((x56_16 + (1 : Int)), (l_17 ++ ([v_24.1] : List (Bool × ((List Nat) × (Int × Unit)))))))))))) else some (.inr (.inl l_17))
noncomputable def sR (F : Md) (s_0 : (Int × (Int × (Int × (Int × ((List Nat) × ((List Nat) × ((List Nat) × ((List Nat) × ((List ((List Nat) × ((List ((List Nat) × (((List Nat) × ((List Nat) × Unit)) × (Ex × Unit)))) × ((List ((List Nat) × (((List Nat) × ((List Nat) × Unit)) × Unit))) × ((List (List Nat)) × ((List ((List Nat) × (Ex × Unit))) × Unit)))))) × ((List ((List Nat) × ((List Nat) × ((List Nat) × ((List Nat) × Unit))))) × Unit))))))))))) : Option Bool :=
 if ((((((s_0.1 < (8 : Int)) ∨ ((200 : Int) < s_0.1)) ∨ (s_0.2.1 < (1 : Int))) ∨ ((20 : Int) < s_0.2.1)) ∨ (s_0.2.2.1 < (0 : Int))) ∨ ((3 : Int) < s_0.2.2.1)) ∨ ((¬ (s_0.2.2.2.1 = (1 : Int))) ∧ (¬ (s_0.2.2.2.1 = (2 : Int)))) then some false else (dB F (fun d : Int × (List (Bool × ((List Nat) × (Int × Unit)))) => tI F s_0 d.1 d.2) ((0 : Int), ([] : List (Bool × ((List Nat) × (Int × Unit)))))).bind (fun e => match e with | (.inl e) => oH F e | (.inr e) => some e)
def aBK : PlR := ⟨[(0, .B [1]), (1, .A [1, 45]), (2, .A [2]), (3, .A [1, 3]), (4, .A [3, 54, 55, 56]), (5, .A [3, 54, 55, 56, 57]), (6, .A [3, 5, 54, 55, 56]), (7, .B [3, 6, 7, 54, 55, 56]), (8, .A [3, 6, 54, 55, 56, 71]), (9, .A [2]), (10, .B [3, 54, 55, 56]), (11, .A [3, 54, 55, 56]), (12, .A [2])], [(7, 15)]⟩
def aCV : Ty := .pair (.pair (.i .i64) (.pair (.i .i64) (.pair (.i .i64) (.pair (.i .i64) (.pair .str (.pair .str (.pair .str (.pair .str (.pair (.sl (.pair .str (.pair (.sl (.pair .str (.pair (.pair .str (.pair .str .unit)) (.pair .expr .unit)))) (.pair (.sl (.pair .str (.pair (.pair .str (.pair .str .unit)) .unit))) (.pair (.sl .str) (.pair (.sl (.pair .str (.pair .expr .unit))) .unit)))))) (.pair (.sl (.pair .str (.pair .str (.pair .str (.pair .str .unit))))) .unit)))))))))) .unit
noncomputable def qU (F : Md) : aF := mSpec aCV (.one .bool) (fun x => sR F x.1)
noncomputable def oW (F : Md) : List (FuncId × aF) := [(133, (zO F)), (134, (xE F)), (22, (tS F)), (57, (qR F))]
theorem aJM (F : Md) : bA Tryz.prog GL (oW F) := .cons (aNP F) (by kernel_rfl) (.cons (aMk F) (by kernel_rfl) (.cons (aI3 F) (by kernel_rfl) (.cons (aGP F) (by kernel_rfl) (.nil))))
theorem aEu (F : Md) : gam (oW F) 133 = some (zO F) := rfl
theorem aEv (F : Md) : gam (oW F) 134 = some (xE F) := rfl
theorem aFE (F : Md) : gam (oW F) 22 = some (tS F) := rfl
theorem aFF (F : Md) : gam (oW F) 57 = some (qR F) := rfl
attribute [go_sem] aCV aBK aEu aEv aFE aFF
set_option maxHeartbeats 4000000 in
theorem aH6 (F : Md) : FOK Tryz.prog GL 66 (qU F) := by
 refine bF (aT (aJM F)) mix Tryz.func66 rfl (by kernel_rfl) (by decide) aBK fun w0 S x Θ hw h hF => ?_
 obtain ⟨(s_0 : (Int × (Int × (Int × (Int × ((List Nat) × ((List Nat) × ((List Nat) × ((List Nat) × ((List ((List Nat) × ((List ((List Nat) × (((List Nat) × ((List Nat) × Unit)) × (Ex × Unit)))) × ((List ((List Nat) × (((List Nat) × ((List Nat) × Unit)) × Unit))) × ((List (List Nat)) × ((List ((List Nat) × (Ex × Unit))) × Unit)))))) × ((List ((List Nat) × ((List Nat) × ((List Nat) × ((List Nat) × Unit))))) × Unit))))))))))), u⟩ := x
 simp only [bJ, go_sem]
 replace h : sat (sR F s_0) _ := h
 unfold sR at h
 refine ⟨fun hc => ?_, fun hc => ?_⟩
 ·replace h := fV hc h
  exact aE hF [.tmp 2] rfl rfl rfl (aA h) (by simp only [aM, go_sem])
 ·replace h := fW hc h
  refine dM hF (D := (List (Bool × ((List Nat) × (Int × Unit))))) (fun d => sat (oH F d) Θ) [] (fun d => [(3, .own 0)]) (fun d => [.inr (.row 25 (.pair .bool (.pair (.sl (.u .u64)) (.pair (.i .i64) .unit))) d)]) ?_ ?_
  ·simp only [go_sem]
   refine aCi 3 25 (.pair .bool (.pair (.sl (.u .u64)) (.pair (.i .i64) .unit))) rfl ?_
   simp only [go_sem]
   refine aGq [1] rfl rfl ?_
   simp only [go_sem]
   refine bQ hF (D := Int × (List (Bool × ((List Nat) × (Int × Unit))))) [55] (fun d => [(3, .own 0), (54, .val (.sl .str) ([s_0.2.2.2.2.1, s_0.2.2.2.2.2.1, s_0.2.2.2.2.2.2.1, s_0.2.2.2.2.2.2.2.1] : List (List Nat))), (56, .val (.i .i64) d.1)]) (fun d => [.inr (.row 25 (.pair .bool (.pair (.sl (.u .u64)) (.pair (.i .i64) .unit))) d.2)]) h rfl (by (try simp only [mX, jB, true_or, and_self, go_sem]) <;> (repeat' apply And.intro) <;> first | rfl | (left; rfl) | (right; rfl) | (left; simp only [go_sem]; done) | (right; simp only [go_sem]; done) | (simp; done) | (simp only [*]; done) | omega) ?_
   rintro ⟨x56_16, l_17⟩ A5 T5 hA5 hE5 h
   simp only [go_sem]
   replace h : sat (tI F s_0 x56_16 l_17) _ := h
   unfold tI at h
   refine eI h (fun hc h => ?_) fun hc h => ?_
   ·obtain ⟨g0, h⟩ := aH h
    repeat (refine ⟨zAA, ?_⟩)
    obtain ⟨v_24, hv, h⟩ := aI h
    try simp only [hv, go_sem]
    obtain ⟨g0, h⟩ := aH h
    repeat (refine ⟨zAC, ?_⟩)
    refine ⟨fun hc => ?_, fun hc => ?_⟩
    ·replace h := fV zAB h
     replace h := hE5 _ (aA h)
     try dsimp only at h
     exact aE hF [.tmp 2] rfl rfl rfl (aA h) (by simp only [aM, go_sem])
    ·replace h := fW zAB h
     obtain ⟨g0, h⟩ := aH h
     repeat (refine ⟨zAA, ?_⟩)
     obtain ⟨g0, h⟩ := aH h
     try simp only [I64, I32] at g0
     repeat (refine ⟨zAA, ?_⟩)
     replace h := hA5 _ (aA h)
     refine oE [2] rfl rfl ?_
     simp only [go_sem]
     exact aQ _ h rfl (by simp only [go_sem])
   ·replace h := hE5 _ (aA h)
    try dsimp only at h
    exact aQ (l_17) h rfl (by simp only [go_sem])
  ·rintro l_8 h
   simp only [go_sem]
   replace h : sat (oH F l_8) _ := h
   unfold oH at h
   obtain ⟨g0, h⟩ := aH h
   obtain ⟨g1, h⟩ := aH h
   repeat (refine ⟨zAA, ?_⟩)
   obtain ⟨v_14, hv, h⟩ := aI h
   try simp only [hv, go_sem]
   obtain ⟨g0, h⟩ := aH h
   obtain ⟨g1, h⟩ := aH h
   obtain ⟨g2, h⟩ := aH h
   obtain ⟨g3, h⟩ := aH h
   obtain ⟨g4, h⟩ := aH h
   obtain ⟨g5, h⟩ := aH h
   repeat (refine ⟨by first | with_reducible assumption | omega | (intros; first | with_reducible assumption | omega) | (simp only [go_sem] at *; first | with_reducible assumption | omega) | (intro _; exact ⟨rfl, by decide⟩) | (intro _; refine (?_ : _ = bD _); rfl) | exact ⟨rfl, rfl⟩ | (intro q0; (try have e0 := g0 zAE); (try have e1 := g1 zAE); (try have e2 := g2 zAE); (try have e3 := g3 zAE); (try have e4 := g4 zAE); (try have e5 := g5 zAE); first | assumption | omega) | decide, ?_⟩)
   exact aE hF [.tmp 2] rfl rfl rfl (aA h) (by simp only [aM, go_sem])
attribute [go_sem] qU
noncomputable def qV (F : Md) (x_6 : (List (List Nat))) (s_0 : ((List Nat) × ((List ((List Nat) × (((List Nat) × ((List Nat) × Unit)) × (Ex × Unit)))) × ((List ((List Nat) × (((List Nat) × ((List Nat) × Unit)) × Unit))) × ((List (List Nat)) × ((List ((List Nat) × (Ex × Unit))) × Unit)))))) (p_11 : (List (List Nat))) : Option ((List (List Nat)) × ((List (List Nat)) × ((List (List Nat)) × Unit))) :=
 some (x_6, p_11, s_0.2.2.2.1, ())
noncomputable def wR (F : Md) (s_0 : ((List Nat) × ((List ((List Nat) × (((List Nat) × ((List Nat) × Unit)) × (Ex × Unit)))) × ((List ((List Nat) × (((List Nat) × ((List Nat) × Unit)) × Unit))) × ((List (List Nat)) × ((List ((List Nat) × (Ex × Unit))) × Unit)))))) (x25_12 : Int) (p_13 : (List (List Nat))) : Option ((Int × (List (List Nat))) ⊕ (List (List Nat))) :=
 if x25_12 < (((s_0.2.2.1.length) : Nat) : Int) then ck (0 ≤ x25_12 ∧ x25_12 < (((s_0.2.2.1.length) : Nat) : Int)) (ck (((p_13.length) + (1 : Nat)) * 16 ≤ 140737488355328) (ck (I64 (x25_12 + (1 : Int))) (some (.inl ((x25_12 + (1 : Int)), (p_13 ++ ([(s_0.2.2.1.getD (x25_12.toNat) ([], ([], [], ()), ())).1] : List (List Nat)))))))) else some (.inr p_13)
noncomputable def qW (F : Md) (s_0 : ((List Nat) × ((List ((List Nat) × (((List Nat) × ((List Nat) × Unit)) × (Ex × Unit)))) × ((List ((List Nat) × (((List Nat) × ((List Nat) × Unit)) × Unit))) × ((List (List Nat)) × ((List ((List Nat) × (Ex × Unit))) × Unit)))))) (x_6 : (List (List Nat))) : Option ((List (List Nat)) × ((List (List Nat)) × ((List (List Nat)) × Unit))) :=
 (dB F (fun d : Int × (List (List Nat)) => wR F s_0 d.1 d.2) ((0 : Int), ([] : List (List Nat)))).bind (fun e => qV F x_6 s_0 e)
noncomputable def wS (F : Md) (s_0 : ((List Nat) × ((List ((List Nat) × (((List Nat) × ((List Nat) × Unit)) × (Ex × Unit)))) × ((List ((List Nat) × (((List Nat) × ((List Nat) × Unit)) × Unit))) × ((List (List Nat)) × ((List ((List Nat) × (Ex × Unit))) × Unit)))))) (x12_17 : Int) (x_18 : (List (List Nat))) : Option ((Int × (List (List Nat))) ⊕ (List (List Nat))) :=
 if x12_17 < (((s_0.2.1.length) : Nat) : Int) then ck (0 ≤ x12_17 ∧ x12_17 < (((s_0.2.1.length) : Nat) : Int)) (ck (((x_18.length) + (1 : Nat)) * 16 ≤ 140737488355328) (ck (I64 (x12_17 + (1 : Int))) (some (.inl ((x12_17 + (1 : Int)), (x_18 ++ ([(s_0.2.1.getD (x12_17.toNat) ([], ([], [], ()), (Ex.mk 0 [] []), ())).1] : List (List Nat)))))))) else some (.inr x_18)
noncomputable def aR (F : Md) (s_0 : ((List Nat) × ((List ((List Nat) × (((List Nat) × ((List Nat) × Unit)) × (Ex × Unit)))) × ((List ((List Nat) × (((List Nat) × ((List Nat) × Unit)) × Unit))) × ((List (List Nat)) × ((List ((List Nat) × (Ex × Unit))) × Unit)))))) : Option ((List (List Nat)) × ((List (List Nat)) × ((List (List Nat)) × Unit))) :=
 (dB F (fun d : Int × (List (List Nat)) => wS F s_0 d.1 d.2) ((0 : Int), ([] : List (List Nat)))).bind (fun e => qW F s_0 e)
def aDT : PlR := ⟨[(0, .B [1, 2, 3]), (1, .A [1, 2, 3, 10, 11, 12]), (2, .A [1, 2, 3, 10, 11, 12, 13]), (3, .B [1, 2, 3, 6, 10, 11, 12]), (4, .B [1, 2, 3, 10, 11, 12]), (5, .A [1, 2, 3, 10, 11, 12]), (6, .A [1, 2, 3, 23, 24, 25]), (7, .A [1, 2, 3, 23, 24, 25, 26]), (8, .B [1, 2, 3, 8, 23, 24, 25]), (9, .B [1, 2, 3, 23, 24, 25]), (10, .A [1, 2, 3, 23, 24, 25]), (11, .A [2, 3, 4])], [(4, 9), (9, 14)]⟩
def aEY : Ty := .pair (.pair .str (.pair (.sl (.pair .str (.pair (.pair .str (.pair .str .unit)) (.pair .expr .unit)))) (.pair (.sl (.pair .str (.pair (.pair .str (.pair .str .unit)) .unit))) (.pair (.sl .str) (.pair (.sl (.pair .str (.pair .expr .unit))) .unit))))) .unit
noncomputable def uZ (F : Md) : aF := mSpec aEY (.tup (.pair (.sl .str) (.pair (.sl .str) (.pair (.sl .str) .unit)))) (fun x => aR F x.1)
noncomputable def aMl (F : Md) : List (FuncId × aF) := []
theorem aMm (F : Md) : bA Tryz.prog GL (aMl F) := .nil
attribute [go_sem] aEY aDT
set_option maxHeartbeats 4000000 in
theorem aLG (F : Md) : FOK Tryz.prog GL 135 (uZ F) := by
 refine bF (aT (aMm F)) mix Tryz.func135 rfl (by kernel_rfl) (by decide) aDT fun w0 S x Θ hw h hF => ?_
 obtain ⟨(s_0 : ((List Nat) × ((List ((List Nat) × (((List Nat) × ((List Nat) × Unit)) × (Ex × Unit)))) × ((List ((List Nat) × (((List Nat) × ((List Nat) × Unit)) × Unit))) × ((List (List Nat)) × ((List ((List Nat) × (Ex × Unit))) × Unit)))))), u⟩ := x
 simp only [bJ, go_sem]
 replace h : sat (aR F s_0) _ := h
 unfold aR at h
 refine dM hF (D := (List (List Nat))) (fun d => sat (qW F s_0 d) Θ) [3] (fun d => [(1, .ptr 0 []), (2, .own 1)]) (fun d => [.inr (.box 5 (.val (.pair .str (.pair (.sl (.pair .str (.pair (.pair .str (.pair .str .unit)) (.pair .expr .unit)))) (.pair (.sl (.pair .str (.pair (.pair .str (.pair .str .unit)) .unit))) (.pair (.sl .str) (.pair (.sl (.pair .str (.pair .expr .unit))) .unit))))) s_0)), .inr (.row 9 .str d)]) ?_ ?_
 ·simp only [go_sem]
  refine aCi 2 9 .str rfl ?_
  simp only [go_sem]
  refine bQ hF (D := Int × (List (List Nat))) [3, 10, 11] (fun d => [(1, .ptr 0 []), (2, .own 1), (12, .val (.i .i64) d.1)]) (fun d => [.inr (.box 5 (.val (.pair .str (.pair (.sl (.pair .str (.pair (.pair .str (.pair .str .unit)) (.pair .expr .unit)))) (.pair (.sl (.pair .str (.pair (.pair .str (.pair .str .unit)) .unit))) (.pair (.sl .str) (.pair (.sl (.pair .str (.pair .expr .unit))) .unit))))) s_0)), .inr (.row 9 .str d.2)]) h rfl (by simp only [go_sem]) ?_
  rintro ⟨x12_17, x_18⟩ A2 T2 hA2 hE2 h
  simp only [go_sem]
  replace h : sat (wS F s_0 x12_17 x_18) _ := h
  unfold wS at h
  refine eI h (fun hc h => ?_) fun hc h => ?_
  ·obtain ⟨g0, h⟩ := aH h
   repeat (refine ⟨by omega, ?_⟩)
   obtain ⟨g0, h⟩ := aH h
   repeat (refine ⟨by omega, ?_⟩)
   refine aP h fun g0 h => ?_
   replace h := hA2 _ (aA h)
   refine oE [0, 3] rfl rfl ?_
   simp only [go_sem]
   exact aQ _ h rfl (by simp only [go_sem])
  ·replace h := hE2 _ (aA h)
   try dsimp only at h
   exact aQ (x_18) h rfl (by simp only [go_sem])
 ·rintro x_6 h
  simp only [go_sem]
  replace h : sat (qW F s_0 x_6) _ := h
  unfold qW at h
  refine dM hF (D := (List (List Nat))) (fun d => sat (qV F x_6 s_0 d) Θ) [] (fun d => [(1, .ptr 0 []), (2, .own 1), (3, .own 2)]) (fun d => [.inr (.box 5 (.val (.pair .str (.pair (.sl (.pair .str (.pair (.pair .str (.pair .str .unit)) (.pair .expr .unit)))) (.pair (.sl (.pair .str (.pair (.pair .str (.pair .str .unit)) .unit))) (.pair (.sl .str) (.pair (.sl (.pair .str (.pair .expr .unit))) .unit))))) s_0)), .inr (.row 9 .str x_6), .inr (.row 9 .str d)]) ?_ ?_
  ·simp only [go_sem]
   refine aCi 3 9 .str rfl ?_
   simp only [go_sem]
   refine bQ hF (D := Int × (List (List Nat))) [23, 24] (fun d => [(1, .ptr 0 []), (2, .own 1), (3, .own 2), (25, .val (.i .i64) d.1)]) (fun d => [.inr (.box 5 (.val (.pair .str (.pair (.sl (.pair .str (.pair (.pair .str (.pair .str .unit)) (.pair .expr .unit)))) (.pair (.sl (.pair .str (.pair (.pair .str (.pair .str .unit)) .unit))) (.pair (.sl .str) (.pair (.sl (.pair .str (.pair .expr .unit))) .unit))))) s_0)), .inr (.row 9 .str x_6), .inr (.row 9 .str d.2)]) h rfl (by simp only [go_sem]) ?_
   rintro ⟨x25_12, p_13⟩ A7 T7 hA7 hE7 h
   simp only [go_sem]
   replace h : sat (wR F s_0 x25_12 p_13) _ := h
   unfold wR at h
   refine eI h (fun hc h => ?_) fun hc h => ?_
   ·obtain ⟨g0, h⟩ := aH h
    repeat (refine ⟨by omega, ?_⟩)
    obtain ⟨g0, h⟩ := aH h
    repeat (refine ⟨by omega, ?_⟩)
    refine aP h fun g0 h => ?_
    replace h := hA7 _ (aA h)
    refine oE [0, 1, 4] rfl rfl ?_
    simp only [go_sem]
    exact aQ _ h rfl (by simp only [go_sem])
   ·replace h := hE7 _ (aA h)
    try dsimp only at h
    exact aQ (p_13) h rfl (by simp only [go_sem])
  ·rintro p_11 h
   simp only [go_sem]
   replace h : sat (qV F x_6 s_0 p_11) _ := h
   unfold qV at h
   exact aE hF [.tmp 2, .tmp 3, .tmp 4] rfl rfl rfl (aA h) (by simp only [aM, go_sem])
attribute [go_sem] uZ
noncomputable def qH (F : Md) (slices_0 : (List (List (List Nat)))) (x27_13 : Int) (newslice_14 : (List (List Nat))) : Option ((Int × (List (List Nat))) ⊕ (List (List Nat))) :=
 if x27_13 < (((slices_0.length) : Nat) : Int) then ck (0 ≤ x27_13 ∧ x27_13 < (((slices_0.length) : Nat) : Int)) (ck (((newslice_14.length) + (slices_0.getD (x27_13.toNat) ([] : List (List Nat))).length) * 16 ≤ 140737488355328) (ck (I64 (x27_13 + (1 : Int))) (some (.inl ((x27_13 + (1 : Int)), (newslice_14 ++ (slices_0.getD (x27_13.toNat) ([] : List (List Nat))))))))) else some (.inr newslice_14)
noncomputable def mR (F : Md) (slices_0 : (List (List (List Nat)))) (size_6 : Int) : Option (List (List Nat)) :=
 (nB F size_6).bind (fun r_8 => (dB F (fun d : Int × (List (List Nat)) => qH F slices_0 d.1 d.2) ((0 : Int), r_8)).bind (fun e => some e))
noncomputable def rM (F : Md) (slices_0 : (List (List (List Nat)))) (size_18 : Int) (x11_19 : Int) : Option ((Int × Int) ⊕ (Int)) :=
 if x11_19 < (((slices_0.length) : Nat) : Int) then ck (0 ≤ x11_19 ∧ x11_19 < (((slices_0.length) : Nat) : Int)) (ck (I64 (size_18 + (((slices_0.getD (x11_19.toNat) ([] : List (List Nat))).length : Nat) : Int))) (if (size_18 + (((slices_0.getD (x11_19.toNat) ([] : List (List Nat))).length : Nat) : Int)) < (0 : Int) then none else ck (I64 (x11_19 + (1 : Int))) (some (.inl ((size_18 + (((slices_0.getD (x11_19.toNat) ([] : List (List Nat))).length : Nat) : Int)), (x11_19 + (1 : Int))))))) else some (.inr size_18)
noncomputable def bN (F : Md) (slices_0 : (List (List (List Nat)))) : Option (List (List Nat)) :=
 (dB F (fun d : Int × Int => rM F slices_0 d.1 d.2) ((0 : Int), (0 : Int))).bind (fun e => mR F slices_0 e)
def lH : Ty := .pair (.sl (.sl .str)) .unit
attribute [go_sem] lH
noncomputable def kE (F : Md) : aF := mSpec lH (.one (.sl .str)) (fun x => bN F x.1)
noncomputable def vA (F : Md) : List (FuncId × aF) := []
theorem vB (F : Md) : bA Tryz.prog GL (vA F) := .nil
set_option maxHeartbeats 4000000 in
theorem aBL (F : Md) : FOK Tryz.prog GL 136 (kE F) := by
 refine jX (aT (vB F)) Tryz.func136 rfl (by kernel_rfl) (by decide) fun w0 S x r hw h => ?_
 have hF : kP (fr Tryz.prog (EM (vA F)) S w0 Tryz.f136.ntmps) := ⟨aT (vB F), mix⟩
 obtain ⟨(slices_0 : (List (List (List Nat)))), u⟩ := x
 simp only [lH, Ty.wf, nH] at hw
 simp only [bJ, lH]
 try dsimp only at h
 replace h : bN F slices_0 = some r := h
 unfold bN at h
 refine aB (aD hF [0] ?_)
 simp only [go_sem]
 refine aC (aB (aD hF [0, 3] ?_))
 simp only [go_sem]
 refine aC (tL (D := Int) (fun d => mR F slices_0 d = some r) [0] (fun d => [(3, .val (.i .i64) d)]) (fun d => []) ?_ ?_)
 ·refine aB (aD hF [0, 3, 9, 10, 11] ?_)
  simp only [go_sem]
  refine aC (eE (pB (D := Int × Int) [0, 9, 10] (fun d => [(3, .val (.i .i64) d.1), (11, .val (.i .i64) d.2)]) (fun d => []) h ?_ ?_ ?_))
  ·first | rfl | (simp only [go_sem]; done)
  ·exact zAF
  rintro ⟨size_18, x11_19⟩ s3 h hs3
  simp only [go_sem]
  try dsimp only at h
  unfold rM at h
  refine aB (aD hF [0, 3, 9, 10, 11, 12] ?_)
  simp only [go_sem]
  refine aC (aB (bZ rfl (fun hc => ?_) (fun hc => ?_)))
  ·try simp only [go_sem] at hc
   have h := gS zAB h
   refine cQ (aC (aB (eE (aB (aD hF [0, 3, 5, 9, 10, 11] ?_)))))
   simp only [go_sem]
   obtain ⟨g0, h⟩ := aL h
   repeat (refine ⟨zAA, ?_⟩)
   refine aC (aB (aD hF [0, 3, 9, 10, 11] ?_))
   simp only [go_sem]
   obtain ⟨g0, h⟩ := aL h
   try simp only [I64, I32] at g0
   repeat (refine ⟨zAA, ?_⟩)
   refine aC (aB (aD hF [0, 3, 9, 10, 11, 20] ?_))
   simp only [go_sem]
   refine aC (bZ rfl (fun hc => ?_) (fun hc => ?_))
   ·try simp only [go_sem] at hc
    have h := gS zAB h
    cases h
   ·try simp only [go_sem] at hc
    have h := gT zAB h
    refine cQ (fR (aC (aD hF [0, 3, 9, 10, 11] ?_)))
    simp only [go_sem]
    obtain ⟨g0, h⟩ := aL h
    try simp only [I64, I32] at g0
    repeat (refine ⟨zAA, ?_⟩)
    obtain rfl := Option.some.inj h
    dsimp only [nZ] at hs3
    refine cD (aQ ((size_18 + (((slices_0.getD (x11_19.toNat) ([] : List (List Nat))).length : Nat) : Int)), (x11_19 + (1 : Int))) hs3 rfl ?_)
    ·exact zAF
  ·try simp only [go_sem] at hc
   have h := gT zAB h
   obtain rfl := Option.some.inj h
   dsimp only [nZ] at hs3
   have h := hs3
   try dsimp only at h
   refine pX (dA (dA (fS (cD (aQ (size_18) h rfl ?_)))))
   ·exact zAF
 ·rintro size_6 h
  try dsimp only at h
  simp only [go_sem]
  unfold mR at h
  obtain ⟨r_8, he1, h⟩ := bind_some h
  try dsimp only at h
  refine aB (cB hF (eL (l := [(202, ⟨gK F, [], (size_6, r_8)⟩)]) (.cons (aDc F) (by kernel_rfl) (.nil))) [0, 6] [] ?_)
  simp only [go_sem]
  repeat (refine ⟨zAA, ?_⟩)
  refine aC (aB (aB (aD hF [6, 25, 26, 27] ?_)))
  simp only [go_sem]
  refine aC (eE (pB (D := Int × (List (List Nat))) [25, 26] (fun d => [(6, .own 0), (27, .val (.i .i64) d.1)]) (fun d => [.inr (.row 9 .str d.2)]) h ?_ ?_ ?_))
  ·first | rfl | (simp only [go_sem]; done)
  ·exact zAF
  rintro ⟨x27_13, newslice_14⟩ s11 h hs11
  simp only [go_sem]
  try dsimp only at h
  unfold qH at h
  refine aB (aD hF [6, 25, 26, 27, 28] ?_)
  simp only [go_sem]
  refine aC (aB (bZ rfl (fun hc => ?_) (fun hc => ?_)))
  ·try simp only [go_sem] at hc
   have h := gS zAB h
   refine cQ (aC (aB (eE (aB (aD hF [6, 8, 25, 26, 27] ?_)))))
   simp only [go_sem]
   obtain ⟨g0, h⟩ := aL h
   repeat (refine ⟨zAA, ?_⟩)
   refine aC (aZ hF [6, 25, 26, 27] ?_)
   simp only [go_sem]
   obtain ⟨g0, h⟩ := aL h
   repeat (refine ⟨zAA, ?_⟩)
   refine fR (aC (aD hF [6, 25, 26, 27] ?_))
   simp only [go_sem]
   obtain ⟨g0, h⟩ := aL h
   try simp only [I64, I32] at g0
   repeat (refine ⟨zAA, ?_⟩)
   obtain rfl := Option.some.inj h
   dsimp only [nZ] at hs11
   refine cD (oE [1] rfl rfl ?_)
   simp only [ren, kJ, pZ, posOf, iC, go_sem]
   refine aQ ((x27_13 + (1 : Int)), (newslice_14 ++ (slices_0.getD (x27_13.toNat) ([] : List (List Nat))))) hs11 rfl ?_
   ·exact zAF
  ·try simp only [go_sem] at hc
   have h := gT zAB h
   obtain rfl := Option.some.inj h
   dsimp only [nZ] at hs11
   have h := hs11
   try dsimp only at h
   refine pX (dA (dA (fS (aC (aB (aD hF [2] ?_))))))
   simp only [go_sem]
   obtain rfl := Option.some.inj h
   refine aC (cI (dK hF [.tmp 2] rfl rfl rfl ?_))
   exact zAG
attribute [go_sem] kE
noncomputable def wT (F : Md) (l_0 : (List (List Nat))) (x9_12 : Int) (seen_13 : (List ((List Nat) × Bool))) : Option ((Int × (List ((List Nat) × Bool))) ⊕ ((Unit) ⊕ Bool)) :=
 if x9_12 < (((l_0.length) : Nat) : Int) then ck (0 ≤ x9_12 ∧ x9_12 < (((l_0.length) : Nat) : Int)) ((aU F (l_0.getD (x9_12.toNat) ([] : List Nat))).bind (fun v_25 => if (¬ (v_25 = true)) ∨ (((aDw .str seen_13 (l_0.getD (x9_12.toNat) ([] : List Nat))).getD false) = true) then some (.inr (.inr false)) else ck (I64 (x9_12 + (1 : Int))) (some (.inl ((x9_12 + (1 : Int)), (aPe .str seen_13 (l_0.getD (x9_12.toNat) ([] : List Nat)) true)))))) else some (.inr (.inl ()))
noncomputable def pF (F : Md) (l_0 : (List (List Nat))) : Option Bool :=
 (dB F (fun d : Int × (List ((List Nat) × Bool)) => wT F l_0 d.1 d.2) ((0 : Int), ([] : List ((List Nat) × Bool)))).bind (fun e => match e with | (.inl e) => some true | (.inr e) => some e)
def aDU : PlR := ⟨[(0, .A [0]), (1, .B [0, 3]), (2, .A [3, 7, 8, 9]), (3, .A [3, 7, 8, 9, 10]), (4, .A [3, 5, 7, 8, 9]), (5, .A [3, 5, 7, 8, 9, 20]), (6, .A [2]), (7, .B [3, 7, 8, 9]), (8, .A [3, 7, 8, 9]), (9, .A [2])], []⟩
def aEZ : Ty := .pair (.sl .str) .unit
noncomputable def nU (F : Md) : aF := mSpec aEZ (.one .bool) (fun x => pF F x.1)
noncomputable def aE0 (F : Md) : List (FuncId × aF) := [(29, (pD F))]
theorem aMn (F : Md) : bA Tryz.prog GL (aE0 F) := .cons (aES F) (by kernel_rfl) (.nil)
theorem aH7 (F : Md) : gam (aE0 F) 29 = some (pD F) := rfl
attribute [go_sem] aEZ aDU aH7
set_option maxHeartbeats 4000000 in
theorem aDV (F : Md) : FOK Tryz.prog GL 68 (nU F) := by
 refine bF (aT (aMn F)) mix Tryz.func68 rfl (by kernel_rfl) (by decide) aDU fun w0 S x Θ hw h hF => ?_
 obtain ⟨(l_0 : (List (List Nat))), u⟩ := x
 simp only [bJ, go_sem]
 replace h : sat (pF F l_0) _ := h
 unfold pF at h
 refine bQ hF (D := Int × (List ((List Nat) × Bool))) [7, 8] (fun d => [(3, .mp 0), (9, .val (.i .i64) d.1)]) (fun d => [.inr (.map .str .bool d.2)]) h rfl (by simp only [go_sem]) ?_
 rintro ⟨x9_12, seen_13⟩ A3 T3 hA3 hE3 h
 simp only [go_sem]
 replace h : sat (wT F l_0 x9_12 seen_13) _ := h
 unfold wT at h
 refine eI h (fun hc h => ?_) fun hc h => ?_
 ·refine aP h fun g0 h => ?_
  obtain ⟨v_25, hv, h⟩ := aI h
  try simp only [hv, go_sem]
  refine ⟨fun hc => ?_, fun hc => ?_⟩
  ·replace h := fV zAB h
   replace h := hE3 _ (aA h)
   try dsimp only at h
   exact aE hF [.tmp 2] rfl rfl rfl (aA h) (by simp only [aM, go_sem])
  ·replace h := fW zAB h
   refine aP h fun g0 h => ?_
   replace h := hA3 _ (aA h)
   exact aQ _ h rfl (by simp only [go_sem])
 ·replace h := hE3 _ (aA h)
  try dsimp only at h
  exact aE hF [.tmp 2] rfl rfl rfl (aA h) (by simp only [aM, go_sem])
attribute [go_sem] nU
noncomputable def jI (F : Md) (s_0 : (List Nat)) (prefix_1 : (List Nat)) : Option Bool :=
 ck (((((prefix_1.length) : Nat) : Int) ≤ (((s_0.length) : Nat) : Int)) → (0 ≤ (((prefix_1.length) : Nat) : Int) ∧ (((prefix_1.length) : Nat) : Int) ≤ (((s_0.length) : Nat) : Int))) (some ((decide ((((prefix_1.length) : Nat) : Int) ≤ (((s_0.length) : Nat) : Int))) && (decide ((List.take (prefix_1.length) s_0) = prefix_1))))
def rN : PlR := ⟨[(0, .A [0, 1]), (1, .A [4])], []⟩
def sD : Ty := .pair .str (.pair .str .unit)
noncomputable def iQ (F : Md) : aF := mSpec sD (.one .bool) (fun x => jI F x.1 x.2.1)
noncomputable def aBm (F : Md) : List (FuncId × aF) := []
theorem aBn (F : Md) : bA Tryz.prog GL (aBm F) := .nil
attribute [go_sem] sD rN
set_option maxHeartbeats 4000000 in
theorem aAK (F : Md) : FOK Tryz.prog GL 224 (iQ F) := by
 refine bF (aT (aBn F)) mix Tryz.func224 rfl (by kernel_rfl) (by decide) rN fun w0 S x Θ hw h hF => ?_
 obtain ⟨(s_0 : (List Nat)), (prefix_1 : (List Nat)), u⟩ := x
 simp only [bJ, go_sem]
 replace h : sat (jI F s_0 prefix_1) _ := h
 unfold jI at h
 refine aP h fun g0 h => ?_
 exact aE hF [.tmp 4] rfl rfl rfl (aA h) (by simp only [aM, go_sem])
attribute [go_sem] iQ
noncomputable def jJ (F : Md) (s_0 : (List Nat)) (prefix_1 : (List Nat)) : Option ((List Nat) × (Bool × Unit)) :=
 (jI F s_0 prefix_1).bind (fun v_8 => if ¬ (v_8 = true) then some (s_0, false, ()) else ck (0 ≤ (((prefix_1.length) : Nat) : Int) ∧ (((prefix_1.length) : Nat) : Int) ≤ (((s_0.length) : Nat) : Int)) (some ((List.drop (prefix_1.length) s_0), true, ())))
def rO : PlR := ⟨[(0, .A [0, 1]), (1, .A [0, 1, 9]), (2, .A [4, 5]), (3, .A [4, 5])], []⟩
def sE : Ty := .pair .str (.pair .str .unit)
noncomputable def iR (F : Md) : aF := mSpec sE (.tup (.pair .str (.pair .bool .unit))) (fun x => jJ F x.1 x.2.1)
noncomputable def sF (F : Md) : List (FuncId × aF) := [(224, (iQ F))]
theorem aBo (F : Md) : bA Tryz.prog GL (sF F) := .cons (aAK F) (by kernel_rfl) (.nil)
theorem yH (F : Md) : gam (sF F) 224 = some (iQ F) := rfl
attribute [go_sem] sE rO yH
set_option maxHeartbeats 4000000 in
theorem aAL (F : Md) : FOK Tryz.prog GL 257 (iR F) := by
 refine bF (aT (aBo F)) mix Tryz.func257 rfl (by kernel_rfl) (by decide) rO fun w0 S x Θ hw h hF => ?_
 obtain ⟨(s_0 : (List Nat)), (prefix_1 : (List Nat)), u⟩ := x
 simp only [bJ, go_sem]
 replace h : sat (jJ F s_0 prefix_1) _ := h
 unfold jJ at h
 obtain ⟨v_8, hv, h⟩ := aI h
 try simp only [hv, go_sem]
 refine aBc h (fun hc h => ?_) fun hc h => ?_
 ·exact aE hF [.tmp 4, .tmp 5] rfl rfl rfl (aA h) (by simp only [aM, go_sem])
 ·refine aP h fun g0 h => ?_
  exact aE hF [.tmp 4, .tmp 5] rfl rfl rfl (aA h) (by simp only [aM, go_sem])
attribute [go_sem] iR
noncomputable def nM (F : Md) (s_0 : (List Nat)) (prefix_1 : (List Nat)) : Option ((List Nat) × (Bool × Unit)) :=
 (jJ F s_0 prefix_1).bind (fun v_6 => some (v_6.1, v_6.2.1, ()))
def xY : PlR := ⟨[(0, .A [0, 1]), (1, .A [4, 5])], []⟩
def yO : Ty := .pair .str (.pair .str .unit)
noncomputable def nC (F : Md) : aF := mSpec yO (.tup (.pair .str (.pair .bool .unit))) (fun x => nM F x.1 x.2.1)
noncomputable def yP (F : Md) : List (FuncId × aF) := [(257, (iR F))]
theorem aEw (F : Md) : bA Tryz.prog GL (yP F) := .cons (aAL F) (by kernel_rfl) (.nil)
theorem aBM (F : Md) : gam (yP F) 257 = some (iR F) := rfl
attribute [go_sem] yO xY aBM
set_option maxHeartbeats 4000000 in
theorem aDW (F : Md) : FOK Tryz.prog GL 240 (nC F) := by
 refine bF (aT (aEw F)) mix Tryz.func240 rfl (by kernel_rfl) (by decide) xY fun w0 S x Θ hw h hF => ?_
 obtain ⟨(s_0 : (List Nat)), (prefix_1 : (List Nat)), u⟩ := x
 simp only [bJ, go_sem]
 replace h : sat (nM F s_0 prefix_1) _ := h
 unfold nM at h
 obtain ⟨v_6, hv, h⟩ := aI h
 try simp only [hv, go_sem]
 exact aE hF [.tmp 4, .tmp 5] rfl rfl rfl (aA h) (by simp only [aM, go_sem])
attribute [go_sem] nC
noncomputable def sG (F : Md) (s_0 : (List Nat)) : Option (Bool × ((List Nat) × ((List Nat) × (Bool × Unit)))) :=
 (nM F s_0 (aY ⟨#[45]⟩)).bind (fun v_5 => (aA1 F v_5.1).bind (fun v_9 => some ((v_5.2.1 && (decide ((0 : Int) < (((v_9.1.length) : Nat) : Int)))), v_9.1, v_9.2.1, v_9.2.2.1, ())))
def aDX : PlR := ⟨[(0, .A [0]), (1, .A [6, 7]), (2, .A [7, 8, 9, 10]), (3, .A [2, 3, 4, 5])], []⟩
def aE1 : Ty := .pair .str .unit
noncomputable def vC (F : Md) : aF := mSpec aE1 (.tup (.pair .bool (.pair (.sl (.u .u64)) (.pair (.sl (.u .u64)) (.pair .bool .unit))))) (fun x => sG F x.1)
noncomputable def aBp (F : Md) : List (FuncId × aF) := [(116, (zN F)), (240, (nC F))]
theorem aMo (F : Md) : bA Tryz.prog GL (aBp F) := .cons (aNO F) (by kernel_rfl) (.cons (aDW F) (by kernel_rfl) (.nil))
theorem aG3 (F : Md) : gam (aBp F) 116 = some (zN F) := rfl
theorem aG4 (F : Md) : gam (aBp F) 240 = some (nC F) := rfl
attribute [go_sem] aE1 aDX aG3 aG4
set_option maxHeartbeats 4000000 in
theorem aLH (F : Md) : FOK Tryz.prog GL 203 (vC F) := by
 refine bF (aT (aMo F)) mix Tryz.func203 rfl (by kernel_rfl) (by decide) aDX fun w0 S x Θ hw h hF => ?_
 obtain ⟨(s_0 : (List Nat)), u⟩ := x
 simp only [bJ, go_sem]
 replace h : sat (sG F s_0) _ := h
 unfold sG at h
 obtain ⟨v_5, hv, h⟩ := aI h
 try simp only [hv, go_sem]
 obtain ⟨v_9, hv, h⟩ := aI h
 try simp only [hv, go_sem]
 exact aE hF [.tmp 2, .tmp 3, .tmp 4, .tmp 5] rfl rfl rfl (aA h) (by simp only [aM, go_sem])
attribute [go_sem] vC
noncomputable def nD (F : Md) (r_0 : ((List Nat) × ((List Nat) × Unit))) (hi_2 : (List Nat)) : Option (Bool) :=
 (sG F r_0.1).bind (fun v_6 => (sG F hi_2).bind (fun v_10 => (gZ F v_6.2.1 v_10.2.2.1).bind (fun v_20 => (gZ F v_10.2.1 v_6.2.2.1).bind (fun v_21 => (qC F v_20 v_21).bind (fun v_22 => if (¬ (v_6.2.2.2.1 = true)) ∨ (¬ (v_10.2.2.2.1 = true)) then some false else if (v_6.1 != v_10.1) = true then some v_6.1 else if v_6.1 = true then some (decide ((0 : Int) ≤ v_22)) else some (decide (v_22 ≤ (0 : Int))))))))
noncomputable def jN (F : Md) (r_0 : ((List Nat) × ((List Nat) × Unit))) : Option Bool :=
 if r_0.2.1 = (aY ⟨#[]⟩) then nD F r_0 r_0.1 else nD F r_0 r_0.2.1
def aCW : PlR := ⟨[(0, .B [1]), (1, .A [1, 3]), (2, .A [1, 3, 16]), (3, .A [1, 3]), (4, .A [3, 4, 5, 6, 7]), (5, .A [4, 5, 6, 7, 8, 9, 10, 11]), (6, .A [4, 7, 8, 11, 12]), (7, .A [2]), (8, .A [4, 8, 12, 43]), (9, .A [2]), (10, .A [4, 12, 50]), (11, .A [2]), (12, .A [12, 55]), (13, .A [2])], [(5, 7)]⟩
def aDY : Ty := .pair (.pair .str (.pair .str .unit)) .unit
noncomputable def sS (F : Md) : aF := mSpec aDY (.one .bool) (fun x => jN F x.1)
noncomputable def vD (F : Md) : List (FuncId × aF) := [(122, (mY F)), (203, (vC F)), (94, (eV F))]
theorem aLI (F : Md) : bA Tryz.prog GL (vD F) := .cons (aCr F) (by kernel_rfl) (.cons (aLH F) (by kernel_rfl) (.cons (qP F) (by kernel_rfl) (.nil)))
theorem aFG (F : Md) : gam (vD F) 122 = some (mY F) := rfl
theorem aFH (F : Md) : gam (vD F) 203 = some (vC F) := rfl
theorem aG5 (F : Md) : gam (vD F) 94 = some (eV F) := rfl
attribute [go_sem] aDY aCW aFG aFH aG5
set_option maxHeartbeats 4000000 in
theorem aJN (F : Md) : FOK Tryz.prog GL 138 (sS F) := by
 refine bF (aT (aLI F)) mix Tryz.func138 rfl (by kernel_rfl) (by decide) aCW fun w0 S x Θ hw h hF => ?_
 obtain ⟨(r_0 : ((List Nat) × ((List Nat) × Unit))), u⟩ := x
 simp only [bJ, go_sem]
 replace h : sat (jN F r_0) _ := h
 unfold jN at h
 refine dM hF (D := (List Nat)) (fun d => sat (nD F r_0 d) Θ) [] (fun d => [(1, .ptr 0 []), (3, .val .str d)]) (fun d => [.inr (.box 2 (.val (.pair .str (.pair .str .unit)) r_0))]) ?_ ?_
 ·simp only [go_sem]
  refine dQ h (fun hc h => ?_) fun hc h => ?_
  ·exact aQ r_0.1 h rfl (by simp only [go_sem])
  ·exact aQ r_0.2.1 h rfl (by simp only [go_sem])
 ·rintro hi_2 h
  simp only [go_sem]
  replace h : sat (nD F r_0 hi_2) _ := h
  unfold nD at h
  obtain ⟨v_6, hv, h⟩ := aI h
  try simp only [hv, go_sem]
  obtain ⟨v_10, hv, h⟩ := aI h
  try simp only [hv, go_sem]
  obtain ⟨v_20, hv, h⟩ := aI h
  try simp only [hv, go_sem]
  obtain ⟨v_21, hv, h⟩ := aI h
  try simp only [hv, go_sem]
  obtain ⟨v_22, hv, h⟩ := aI h
  try simp only [hv, go_sem]
  refine ⟨fun hc => ?_, fun hc => ?_⟩
  ·replace h := fV zAB h
   exact aE hF [.tmp 2] rfl rfl rfl (aA h) (by simp only [aM, go_sem])
  ·replace h := fW zAB h
   refine aIE h (fun hc h => ?_) fun hc h => ?_
   ·exact aE hF [.tmp 2] rfl rfl rfl (aA h) (by simp only [aM, go_sem])
   ·refine aIE h (fun hc h => ?_) fun hc h => ?_
    ·exact aE hF [.tmp 2] rfl rfl rfl (aA h) (by simp only [aM, go_sem])
    ·exact aE hF [.tmp 2] rfl rfl rfl (aA h) (by simp only [aM, go_sem])
attribute [go_sem] sS
end Nu
end Go.Proofs
namespace Go.Proofs
open Go.Vc
set_option maxRecDepth 20000
namespace Nu
attribute [-go_sem] Ex.kind Ex.text Ex.l
@[go_sem] theorem aVs (k : Int) (t : List Nat) (l : List Ex) : Ex.l (.mk k t l) = l := rfl
@[go_sem] theorem aVt (k : Int) (t : List Nat) (l : List Ex) : Ex.kind (.mk k t l) = k := rfl
@[go_sem] theorem aVu (k : Int) (t : List Nat) (l : List Ex) : Ex.text (.mk k t l) = t := rfl
noncomputable def iL (F : Md) (g : Ex → Int → Int → Int → Option (Int × Int)) (e_0 : Ex) (at_1 : Int) (x23_10 : Int) (x_11 : Int) (x_12 : Int) : Option ((Int × Int × Int) ⊕ (Int × Int)) :=
 if x23_10 < (((e_0.l).length : Nat) : Int) then ck (0 ≤ x23_10 ∧ x23_10 < (((e_0.l).length : Nat) : Int)) (ck (I64 (at_1 + (1 : Int))) ((g ((e_0.l).getD (x23_10.toNat) (Ex.mk 0 [] [])) (at_1 + (1 : Int)) x_11 x_12).bind (fun r_20 => ck (I64 (x23_10 + (1 : Int))) (some (.inl ((x23_10 + (1 : Int)), r_20.1, r_20.2)))))) else some (.inr (x_11, x_12))
noncomputable def lT (F : Md) (g : Ex → Int → Int → Int → Option (Int × Int)) (e_0 : Ex) (at_1 : Int) (o0_5 : Int) (o1_6 : Int) : Option (Int × Int) :=
 ck (I64 (o0_5 + (1 : Int))) (if ((60 : Int) < (o0_5 + (1 : Int))) ∨ ((30 : Int) < at_1) then some ((o0_5 + (1 : Int)), (max o1_6 at_1)) else (dB F (fun d : Int × Int × Int => iL F g e_0 at_1 d.1 d.2.1 d.2.2) ((0 : Int), (o0_5 + (1 : Int)), (max o1_6 at_1))).bind (fun e => some (e.1, e.2)))
noncomputable def qX (g : Ex → Int → Int → Int → Option (Int × Int)) : pL where
 D := Ex × Int × Int × Int × (Int × Int)
 av := fun d => [.val .expr d.1, .val (.i .i64) d.2.1, .ptr 0 [], .ptr 1 [], .ptr 2 []]
 hp := fun d => [.box 1 (.val (.i .i64) d.2.2.1), .box 1 (.val (.i .i64) d.2.2.2.1), .box 1 (.fn 197 [] [0, 1, 2])]
 m := 3
 pre := fun d => g d.1 d.2.1 d.2.2.1 d.2.2.2.1 = some d.2.2.2.2
 out := fun d => (fun r : (Int × Int) => .ret (.tup []) [.box 1 (.val (.i .i64) r.1), .box 1 (.val (.i .i64) r.2), .box 1 (.fn 197 [] [0, 1, 2])]) d.2.2.2.2
attribute [go_sem] qX
noncomputable def aBN (F : Md) (g : Ex → Int → Int → Int → Option (Int × Int)) : pL where
 D := Ex × Int × Int × Int × (Int × Int)
 av := fun d => [.val .expr d.1, .val (.i .i64) d.2.1, .ptr 0 [], .ptr 1 [], .ptr 2 []]
 hp := fun d => [.box 1 (.val (.i .i64) d.2.2.1), .box 1 (.val (.i .i64) d.2.2.2.1), .box 1 (.fn 197 [] [0, 1, 2])]
 m := 3
 pre := fun d => lT F g d.1 d.2.1 d.2.2.1 d.2.2.2.1 = some d.2.2.2.2
 out := fun d => (fun r : (Int × Int) => .ret (.tup []) [.box 1 (.val (.i .i64) r.1), .box 1 (.val (.i .i64) r.2), .box 1 (.fn 197 [] [0, 1, 2])]) d.2.2.2.2
noncomputable def aDZ (F : Md) (g : Ex → Int → Int → Int → Option (Int × Int)) : List (FuncId × aF) := []
theorem aD0 (F : Md) (g : Ex → Int → Int → Int → Option (Int × Int)) (hg : GOK Tryz.prog GL 197 (qX g)) : bA Tryz.prog GL (aDZ F g) := .nil
set_option maxHeartbeats 4000000 in
theorem aH8 (F : Md) (g : Ex → Int → Int → Int → Option (Int × Int)) (hg : GOK Tryz.prog GL 197 (qX g)) : GOK Tryz.prog GL 197 (aBN F g) := by
 refine aAl (aT (aD0 F g hg)) Tryz.func197 rfl (by kernel_rfl) (fun _ => Nat.le_of_ble_eq_true rfl) fun c0 w0 d hw1 hw2 h hn => ?_
 have hF : kP ⟨Tryz.prog, EM (aDZ F g), GM (aBN F g) c0 d, w0, Tryz.f197.ntmps, []⟩ := ⟨aT (aD0 F g hg), mix⟩
 obtain ⟨(e_0 : Ex), (at_1 : Int), (o0_5 : Int), (o1_6 : Int), r⟩ := d
 replace h : lT F g e_0 at_1 o0_5 o1_6 = some r := h
 have hw1 : AV.wfL [.val .expr e_0, .val (.i .i64) at_1, .ptr 0 [], .ptr 1 [], .ptr 2 []] := hw1
 simp only [AV.wfL, AV.wfV, Ty.wf, nH] at hw1
 show Tri _ _ _ [(0, .val .expr e_0), (1, .val (.i .i64) at_1), (2, .ptr 0 []), (3, .ptr 1 []), (4, .ptr 2 [])] [.box 1 (.val (.i .i64) o0_5), .box 1 (.val (.i .i64) o1_6), .box 1 (.fn 197 [] [0, 1, 2])]
 unfold lT at h
 refine aB (aZ hF [1, 2, 3, 4, 5] ?_)
 simp only [go_sem]
 refine aC (aB (aZ hF [1, 2, 3, 4, 5] ?_))
 simp only [go_sem]
 obtain ⟨g0, h⟩ := aL h
 try simp only [I64, I32] at g0
 repeat (refine ⟨zAA, ?_⟩)
 refine aC (aB (aZ hF [1, 2, 4, 5] ?_))
 simp only [go_sem]
 refine aC (aB (aB (aD hF [1, 4, 5, 19] ?_)))
 simp only [go_sem]
 refine aC (bZ rfl (fun hc => ?_) (fun hc => ?_))
 ·try simp only [go_sem] at hc
  have h := gS zAB h
  obtain rfl := Option.some.inj h
  refine cI (bV (oE [0, 1, 2] rfl rfl ?_))
  simp only [ren, kJ, pZ, posOf, iC, go_sem]
  refine aGt hF [] rfl rfl rfl rfl rfl rfl ?_
  (try simp only [aM, aGs, aFt, jB, tD, AV.isAgg, go_sem]) <;> first | trivial | rfl | (simp; done)
 ·try simp only [go_sem] at hc
  have h := gT zAB h
  refine cQ (aC (aB (aD hF [1, 4, 21, 22, 23] ?_)))
  simp only [go_sem]
  refine aC (eE (aGq [0, 1, 2] rfl rfl ?_))
  simp only [ren, kJ, pZ, posOf, iC, go_sem]
  refine pB (D := Int × Int × Int) [1, 21, 22] (fun d => [(4, .ptr 2 []), (23, .val (.i .i64) d.1)]) (fun d => [.inr (.box 1 (.val (.i .i64) d.2.1)), .inr (.box 1 (.val (.i .i64) d.2.2)), .inr (.box 1 (.fn 197 [] [0, 1, 2]))]) h ?_ ?_ ?_
  ·first | rfl | (simp only [go_sem]; done)
  ·exact zAF
  rintro ⟨x23_10, x_11, x_12⟩ s5 h hs5
  simp only [go_sem]
  try dsimp only at h
  unfold iL at h
  refine aB (aD hF [1, 4, 21, 22, 23, 24] ?_)
  simp only [go_sem]
  refine aC (aB (bZ rfl (fun hc => ?_) (fun hc => ?_)))
  ·try simp only [go_sem] at hc
   have h := gS zAB h
   refine cQ (aC (aB (eE (aB (aZ hF [1, 4, 8, 21, 22, 23] ?_)))))
   simp only [go_sem]
   obtain ⟨g0, h⟩ := aL h
   repeat (refine ⟨zAA, ?_⟩)
   obtain ⟨g0, h⟩ := aL h
   try simp only [I64, I32] at g0
   obtain ⟨r_20, he1, h⟩ := bind_some h
   try dsimp only at h
   refine aC (cB hF (eL (l := [(197, ⟨(qX g), [0, 1, 2], (((e_0.l).getD (x23_10.toNat) (Ex.mk 0 [] [])), (at_1 + (1 : Int)), x_11, x_12, r_20)⟩)]) (.cons hg (by kernel_rfl) (.nil))) [1, 4, 21, 22, 23] [] ?_)
   simp only [go_sem]
   repeat (refine ⟨by first | with_reducible assumption | omega | (intros; first | with_reducible assumption | omega) | (simp only [go_sem] at *; first | with_reducible assumption | omega) | (intro _; exact ⟨rfl, by decide⟩) | (intro _; refine (?_ : _ = bD _); rfl) | exact ⟨rfl, rfl⟩ | decide | ((repeat' apply And.intro) <;> first | assumption | rfl | omega) | fail, ?_⟩)
   refine fR (aC (aD hF [1, 4, 21, 22, 23] ?_))
   simp only [go_sem]
   obtain ⟨g0, h⟩ := aL h
   try simp only [I64, I32] at g0
   repeat (refine ⟨zAA, ?_⟩)
   obtain rfl := Option.some.inj h
   dsimp only [nZ] at hs5
   refine cD (oE [0, 1, 2] rfl rfl ?_)
   simp only [ren, kJ, pZ, posOf, iC, go_sem]
   refine aQ ((x23_10 + (1 : Int)), r_20.1, r_20.2) hs5 rfl ?_
   ·exact zAF
  ·try simp only [go_sem] at hc
   have h := gT zAB h
   obtain rfl := Option.some.inj h
   dsimp only [nZ] at hs5
   have h := hs5
   try dsimp only at h
   obtain rfl := Option.some.inj h
   refine pX (dA (dA (fS (aKd (aGt hF [] rfl rfl rfl rfl rfl rfl ?_)))))
   (try simp only [aM, aGs, aFt, jB, tD, AV.isAgg, go_sem]) <;> first | trivial | rfl | (simp; done)
noncomputable def jO (F : Md) : Nat → Ex → Int → Int → Int → Option (Int × Int)
 | 0 => fun _ _ _ _ => none
 | n + 1 => lT F (jO F n)
noncomputable def yI (F : Md) (n : Nat) : pL where
 D := Ex × Int × Int × Int × (Int × Int)
 av := fun d => [.val .expr d.1, .val (.i .i64) d.2.1, .ptr 0 [], .ptr 1 [], .ptr 2 []]
 hp := fun d => [.box 1 (.val (.i .i64) d.2.2.1), .box 1 (.val (.i .i64) d.2.2.2.1), .box 1 (.fn 197 [] [0, 1, 2])]
 m := 3
 pre := fun d => jO F n d.1 d.2.1 d.2.2.1 d.2.2.2.1 = some d.2.2.2.2
 out := fun d => (fun r : (Int × Int) => .ret (.tup []) [.box 1 (.val (.i .i64) r.1), .box 1 (.val (.i .i64) r.2), .box 1 (.fn 197 [] [0, 1, 2])]) d.2.2.2.2
theorem aCX (F : Md) : ∀ n, GOK Tryz.prog GL 197 (yI F n)
 | 0 => fun _ _ _ _ hp _ => absurd (show none = some _ from hp) (by simp)
 | n + 1 => aH8 F _ (aCX F n)
attribute [go_sem] yI
noncomputable def vE (F : Md) (e_0 : Ex) : Option (Int × (Int × Unit)) :=
 (jO F 64 e_0 (1 : Int) (0 : Int) (0 : Int)).bind (fun r_3 => some (r_3.1, r_3.2, ()))
def zQ : Ty := .pair .expr .unit
attribute [go_sem] zQ
noncomputable def xF (F : Md) : aF := mSpec zQ (.tup (.pair (.i .i64) (.pair (.i .i64) .unit))) (fun x => vE F x.1)
noncomputable def aG6 (F : Md) : List (FuncId × aF) := []
theorem aG7 (F : Md) : bA Tryz.prog GL (aG6 F) := .nil
set_option maxHeartbeats 4000000 in
theorem aMp (F : Md) : FOK Tryz.prog GL 126 (xF F) := by
 refine jX (aT (aG7 F)) Tryz.func126 rfl (by kernel_rfl) (by decide) fun w0 S x r hw h => ?_
 have hF : kP (fr Tryz.prog (EM (aG6 F)) S w0 Tryz.f126.ntmps) := ⟨aT (aG7 F), mix⟩
 obtain ⟨(e_0 : Ex), u⟩ := x
 simp only [zQ, Ty.wf, nH] at hw
 simp only [bJ, zQ]
 try dsimp only at h
 replace h : vE F e_0 = some r := h
 unfold vE at h
 refine aB (aZ hF [1, 2, 3] ?_)
 simp only [go_sem]
 refine aC (aB (aZ hF [1, 2, 3, 4] ?_))
 simp only [go_sem]
 refine aC (aB (aZ hF [1, 2, 3, 4] ?_))
 simp only [go_sem]
 obtain ⟨r_3, he1, h⟩ := bind_some h
 try dsimp only at h
 refine aC (aB (cB hF (eL (l := [(197, ⟨(yI F 64), [1, 2, 3], (e_0, (1 : Int), (0 : Int), (0 : Int), r_3)⟩)]) (.cons (aCX F 64) (by kernel_rfl) (.nil))) [2, 3] [] ?_))
 simp only [go_sem]
 repeat (refine ⟨by first | with_reducible assumption | omega | (intros; first | with_reducible assumption | omega) | (simp only [go_sem] at *; first | with_reducible assumption | omega) | (intro _; exact ⟨rfl, by decide⟩) | (intro _; refine (?_ : _ = bD _); rfl) | exact ⟨rfl, rfl⟩ | decide | ((repeat' apply And.intro) <;> first | assumption | rfl | omega) | fail, ?_⟩)
 refine aC (aB (aID hF [2, 3] [(2, .ptr 1 []), (3, .ptr 2 [])] [.box 3 (.val .expr e_0), .box 1 (.val (.i .i64) r_3.1), .box 1 (.val (.i .i64) r_3.2), .box 1 (.fn 197 [] [1, 2, 3])] (by decide) ?_ ?_))
 ·simp only [go_sem]
  unfold anyS
  intro i hi
  have hi : i = 0 ∨ i = 1 := by revert hi; revert i; decide
  rcases hi with rfl | rfl
  ·simp only [go_sem]
   repeat (refine ⟨zAA, ?_⟩)
   unfold anyS
   intro i hi
   have hi : i = 1 ∨ i = 2 := by revert hi; revert i; decide
   rcases hi with rfl | rfl
   ·simp only [go_sem]
    repeat (refine ⟨zAA, ?_⟩)
    unfold anyS
    intro i hi
    have hi : i = 2 := by revert hi; revert i; decide
    subst hi
    simp only [go_sem]
    repeat (refine ⟨zAA, ?_⟩)
    unfold anyS
    intro i hi
    have hi : i = 3 := by revert hi; revert i; decide
    subst hi
    simp only [go_sem]
    repeat (refine ⟨zAA, ?_⟩)
    (simp only [anyS, go_sem]) <;> first | exact ⟨rfl, rfl⟩ | trivial
   ·simp only [go_sem]
    repeat (refine ⟨zAA, ?_⟩)
    unfold anyS
    intro i hi
    have hi : i = 1 := by revert hi; revert i; decide
    subst hi
    simp only [go_sem]
    repeat (refine ⟨zAA, ?_⟩)
    unfold anyS
    intro i hi
    have hi : i = 3 := by revert hi; revert i; decide
    subst hi
    simp only [go_sem]
    repeat (refine ⟨zAA, ?_⟩)
    (simp only [anyS, go_sem]) <;> first | exact ⟨rfl, rfl⟩ | trivial
  ·simp only [go_sem]
   repeat (refine ⟨zAA, ?_⟩)
   unfold anyS
   intro i hi
   have hi : i = 0 := by revert hi; revert i; decide
   subst hi
   simp only [go_sem]
   repeat (refine ⟨zAA, ?_⟩)
   unfold anyS
   intro i hi
   have hi : i = 2 := by revert hi; revert i; decide
   subst hi
   simp only [go_sem]
   repeat (refine ⟨zAA, ?_⟩)
   unfold anyS
   intro i hi
   have hi : i = 3 := by revert hi; revert i; decide
   subst hi
   simp only [go_sem]
   repeat (refine ⟨zAA, ?_⟩)
   (simp only [anyS, go_sem]) <;> first | exact ⟨rfl, rfl⟩ | trivial
 obtain rfl := Option.some.inj h
 refine aC (cI (dK hF [.cell 2 3, .cell 3 3] rfl rfl rfl ?_))
 exact zAG
attribute [go_sem] xF
noncomputable def tZ (F : Md) (e_0 : Ex) : Option Bool :=
 (vE F e_0).bind (fun v_5 => some ((decide (v_5.1 ≤ (60 : Int))) && (decide (v_5.2.1 ≤ (30 : Int)))))
def aG8 : PlR := ⟨[(0, .B [1]), (1, .A [3, 4]), (2, .A [2])], []⟩
def aJa : Ty := .pair .expr .unit
noncomputable def zR (F : Md) : aF := mSpec aJa (.one .bool) (fun x => tZ F x.1)
noncomputable def aJb (F : Md) : List (FuncId × aF) := [(126, (xF F))]
theorem aOW (F : Md) : bA Tryz.prog GL (aJb F) := .cons (aMp F) (by kernel_rfl) (.nil)
theorem aJO (F : Md) : gam (aJb F) 126 = some (xF F) := rfl
attribute [go_sem] aJa aG8 aJO
set_option maxHeartbeats 4000000 in
theorem aNR (F : Md) : FOK Tryz.prog GL 63 (zR F) := by
 refine bF (aT (aOW F)) mix Tryz.func63 rfl (by kernel_rfl) (by decide) aG8 fun w0 S x Θ hw h hF => ?_
 obtain ⟨(e_0 : Ex), u⟩ := x
 simp only [bJ, go_sem]
 replace h : sat (tZ F e_0) _ := h
 unfold tZ at h
 obtain ⟨v_5, hv, h⟩ := aI h
 try simp only [hv, go_sem]
 exact aE hF [.tmp 2] rfl rfl rfl (aA h) (by simp only [aM, go_sem])
attribute [go_sem] zR
noncomputable def kM (F : Md) (x12_7 : Bool) : Option (Int) :=
 if x12_7 = true then some (1 : Int) else some (-1 : Int)
noncomputable def kN (F : Md) (kind_0 : Int) (x7_6 : Bool) : Option (Int) :=
 if x7_6 = true then some (2 : Int) else if kind_0 = (10 : Int) then kM F (decide (kind_0 = (10 : Int))) else if kind_0 = (11 : Int) then kM F (decide (kind_0 = (11 : Int))) else if kind_0 = (12 : Int) then kM F (decide (kind_0 = (12 : Int))) else kM F (decide (kind_0 = (13 : Int)))
noncomputable def oX (F : Md) (kind_0 : Int) (x4_5 : Bool) : Option (Int) :=
 if x4_5 = true then some (0 : Int) else if kind_0 = (6 : Int) then kN F kind_0 (decide (kind_0 = (6 : Int))) else if kind_0 = (7 : Int) then kN F kind_0 (decide (kind_0 = (7 : Int))) else if kind_0 = (8 : Int) then kN F kind_0 (decide (kind_0 = (8 : Int))) else kN F kind_0 (decide (kind_0 = (9 : Int)))
noncomputable def oI (F : Md) (kind_0 : Int) : Option Int :=
 if kind_0 = (1 : Int) then oX F kind_0 (decide (kind_0 = (1 : Int))) else oX F kind_0 (decide (kind_0 = (2 : Int)))
def zS : Ty := .pair (.i .i64) .unit
attribute [go_sem] zS
noncomputable def xG (F : Md) : aF := mSpec zS (.one (.i .i64)) (fun x => oI F x.1)
noncomputable def aG9 (F : Md) : List (FuncId × aF) := []
theorem aHa (F : Md) : bA Tryz.prog GL (aG9 F) := .nil
set_option maxHeartbeats 4000000 in
theorem aMq (F : Md) : FOK Tryz.prog GL 127 (xG F) := by
 refine jX (aT (aHa F)) Tryz.func127 rfl (by kernel_rfl) (by decide) fun w0 S x r hw h => ?_
 have hF : kP (fr Tryz.prog (EM (aG9 F)) S w0 Tryz.f127.ntmps) := ⟨aT (aHa F), mix⟩
 obtain ⟨(kind_0 : Int), u⟩ := x
 simp only [zS, Ty.wf, nH] at hw
 simp only [bJ, zS]
 try dsimp only at h
 replace h : oI F kind_0 = some r := h
 unfold oI at h
 refine aB (aD hF [0] ?_)
 simp only [go_sem]
 refine aC (aB (aB (aD hF [3] ?_)))
 simp only [go_sem]
 refine aC (eE (tL (D := Bool) (fun d => oX F kind_0 d = some r) [3] (fun d => [(4, .val .bool d)]) (fun d => []) ?_ ?_))
 ·refine aB (aD hF [3, 4] ?_)
  simp only [go_sem]
  refine aC (bZ rfl (fun hc => ?_) (fun hc => ?_))
  ·try simp only [go_sem] at hc
   have h := gS zAB h
   refine cQ (cD (aQ (decide (kind_0 = (1 : Int))) h rfl ?_))
   ·exact zAF
  ·try simp only [go_sem] at hc
   have h := gT zAB h
   refine aD hF [3, 4] ?_
   simp only [go_sem]
   refine cD (aQ (decide (kind_0 = (2 : Int))) h rfl ?_)
   ·exact zAF
 ·rintro x4_5 h
  try dsimp only at h
  simp only [go_sem]
  unfold oX at h
  refine bZ rfl (fun hc => ?_) (fun hc => ?_)
  ·try simp only [go_sem] at hc
   have h := gS zAB h
   refine aB (aD hF [2] ?_)
   simp only [go_sem]
   obtain rfl := Option.some.inj h
   refine aC (cI (eB (bV (dK hF [.tmp 2] rfl rfl rfl ?_))))
   exact zAG
  ·try simp only [go_sem] at hc
   have h := gT zAB h
   refine tL (D := Bool) (fun d => kN F kind_0 d = some r) [3] (fun d => [(7, .val .bool d)]) (fun d => []) ?_ ?_
   ·refine aB (aD hF [3, 7] ?_)
    simp only [go_sem]
    refine aC (bZ rfl (fun hc => ?_) (fun hc => ?_))
    ·try simp only [go_sem] at hc
     have h := gS zAB h
     refine cQ (cD (aQ (decide (kind_0 = (6 : Int))) h rfl ?_))
     ·exact zAF
    ·try simp only [go_sem] at hc
     have h := gT zAB h
     refine aB (aD hF [3, 7] ?_)
     simp only [go_sem]
     refine aC (bZ rfl (fun hc => ?_) (fun hc => ?_))
     ·try simp only [go_sem] at hc
      have h := gS zAB h
      refine cQ (cD (aQ (decide (kind_0 = (7 : Int))) h rfl ?_))
      ·exact zAF
     ·try simp only [go_sem] at hc
      have h := gT zAB h
      refine aB (aD hF [3, 7] ?_)
      simp only [go_sem]
      refine aC (bZ rfl (fun hc => ?_) (fun hc => ?_))
      ·try simp only [go_sem] at hc
       have h := gS zAB h
       refine cQ (cD (aQ (decide (kind_0 = (8 : Int))) h rfl ?_))
       ·exact zAF
      ·try simp only [go_sem] at hc
       have h := gT zAB h
       refine aD hF [3, 7] ?_
       simp only [go_sem]
       refine cD (aQ (decide (kind_0 = (9 : Int))) h rfl ?_)
       ·exact zAF
   ·rintro x7_6 h
    try dsimp only at h
    simp only [go_sem]
    unfold kN at h
    refine bZ rfl (fun hc => ?_) (fun hc => ?_)
    ·try simp only [go_sem] at hc
     have h := gS zAB h
     refine aB (aD hF [2] ?_)
     simp only [go_sem]
     obtain rfl := Option.some.inj h
     refine aC (cI (eB (bV (dK hF [.tmp 2] rfl rfl rfl ?_))))
     exact zAG
    ·try simp only [go_sem] at hc
     have h := gT zAB h
     refine tL (D := Bool) (fun d => kM F d = some r) [] (fun d => [(12, .val .bool d)]) (fun d => []) ?_ ?_
     ·refine aB (aD hF [3, 12] ?_)
      simp only [go_sem]
      refine aC (bZ rfl (fun hc => ?_) (fun hc => ?_))
      ·try simp only [go_sem] at hc
       have h := gS zAB h
       refine cQ (cD (aQ (decide (kind_0 = (10 : Int))) h rfl ?_))
       ·exact zAF
      ·try simp only [go_sem] at hc
       have h := gT zAB h
       refine aB (aD hF [3, 12] ?_)
       simp only [go_sem]
       refine aC (bZ rfl (fun hc => ?_) (fun hc => ?_))
       ·try simp only [go_sem] at hc
        have h := gS zAB h
        refine cQ (cD (aQ (decide (kind_0 = (11 : Int))) h rfl ?_))
        ·exact zAF
       ·try simp only [go_sem] at hc
        have h := gT zAB h
        refine aB (aD hF [3, 12] ?_)
        simp only [go_sem]
        refine aC (bZ rfl (fun hc => ?_) (fun hc => ?_))
        ·try simp only [go_sem] at hc
         have h := gS zAB h
         refine cQ (cD (aQ (decide (kind_0 = (12 : Int))) h rfl ?_))
         ·exact zAF
        ·try simp only [go_sem] at hc
         have h := gT zAB h
         refine aD hF [12] ?_
         simp only [go_sem]
         refine cD (aQ (decide (kind_0 = (13 : Int))) h rfl ?_)
         ·exact zAF
     ·rintro x12_7 h
      try dsimp only at h
      simp only [go_sem]
      unfold kM at h
      refine bZ rfl (fun hc => ?_) (fun hc => ?_)
      ·try simp only [go_sem] at hc
       have h := gS zAB h
       refine aB (aD hF [2] ?_)
       simp only [go_sem]
       obtain rfl := Option.some.inj h
       refine aC (cI (eB (bV (dK hF [.tmp 2] rfl rfl rfl ?_))))
       exact zAG
      ·try simp only [go_sem] at hc
       have h := gT zAB h
       refine cQ (fR (aC (aB (aD hF [2] ?_))))
       simp only [go_sem]
       obtain rfl := Option.some.inj h
       refine aC (cI (dK hF [.tmp 2] rfl rfl rfl ?_))
       exact zAG
attribute [go_sem] xG
def qY : Ty := .pair .expr (.pair (.sl .str) .unit)
attribute [go_sem] qY
noncomputable def gO (g : Ex → (List (List Nat)) → Option (Bool)) : aF := mSpec qY (.one .bool) (fun x => g x.1 x.2.1)
attribute [go_sem] gO
noncomputable def qI (F : Md) (g : Ex → (List (List Nat)) → Option (Bool)) (x_0 : Ex) (a1_1 : (List (List Nat))) : Option Bool :=
 (g x_0 a1_1).bind (fun v_6 => some (!v_6))
def aCY : PlR := ⟨[(0, .B [1, 2]), (1, .A [3])], []⟩
def aD1 : Ty := .pair .expr (.pair (.rp (.sl .str)) .unit)
noncomputable def sT (F : Md) (g : Ex → (List (List Nat)) → Option (Bool)) : aF := mSpec aD1 (.one .bool) (fun x => qI F g x.1 x.2.1)
noncomputable def aD2 (F : Md) (g : Ex → (List (List Nat)) → Option (Bool)) : List (FuncId × aF) := [(64, (gO g))]
theorem aLJ (F : Md) (g : Ex → (List (List Nat)) → Option (Bool)) (hg : FOK Tryz.prog GL 64 (gO g)) : bA Tryz.prog GL (aD2 F g) := .cons hg (by kernel_rfl) (.nil)
theorem aHb (F : Md) (g : Ex → (List (List Nat)) → Option (Bool)) : gam (aD2 F g) 64 = some (gO g) := rfl
attribute [go_sem] aD1 aCY aHb
set_option maxHeartbeats 4000000 in
theorem aJP (F : Md) (g : Ex → (List (List Nat)) → Option (Bool)) (hg : FOK Tryz.prog GL 64 (gO g)) : FOK Tryz.prog GL 130 (sT F g) := by
 refine bF (aT (aLJ F g hg)) mix Tryz.func130 rfl (by kernel_rfl) (by decide) aCY fun w0 S x Θ hw h hF => ?_
 obtain ⟨(x_0 : Ex), (a1_1 : (List (List Nat))), u⟩ := x
 simp only [bJ, go_sem]
 replace h : sat (qI F g x_0 a1_1) _ := h
 unfold qI at h
 obtain ⟨v_6, hv, h⟩ := aI h
 try simp only [hv, go_sem]
 exact aE hF [.tmp 3] rfl rfl rfl (aA h) (by simp only [aM, go_sem])
attribute [go_sem] sT
noncomputable def aW (F : Md) (g : Ex → (List (List Nat)) → Option (Bool)) (s_0 : (List Ex)) (f_1 : ((List (List Nat)) × Unit)) (x8_14 : Int) : Option ((Int) ⊕ ((Unit) ⊕ Int)) :=
 if x8_14 < (((s_0.length) : Nat) : Int) then ck (0 ≤ x8_14 ∧ x8_14 < (((s_0.length) : Nat) : Int)) ((qI F g (s_0.getD (x8_14.toNat) (Ex.mk 0 [] [])) f_1.1).bind (fun v_27 => if v_27 = true then some (.inr (.inr x8_14)) else ck (I64 (x8_14 + (1 : Int))) (some (.inl (x8_14 + (1 : Int)))))) else some (.inr (.inl ()))
noncomputable def bW (F : Md) (g : Ex → (List (List Nat)) → Option (Bool)) (s_0 : (List Ex)) (f_1 : ((List (List Nat)) × Unit)) : Option Int :=
 (dB F (fun d : Int => aW F g s_0 f_1 d) (0 : Int)).bind (fun e => match e with | (.inl e) => some (-1 : Int) | (.inr e) => some e)
def fL : PlR := ⟨[(0, .A [0, 1]), (1, .A [0, 1, 7, 8]), (2, .A [0, 1, 7, 8, 9]), (3, .A [0, 1, 5, 7, 8]), (4, .A [0, 1, 5, 7, 8, 16]), (5, .A [4]), (6, .A [0, 1, 7, 8]), (7, .A [4])], []⟩
def fX : Ty := .pair (.sl .expr) (.pair (.clo 130 (.pair (.rp (.sl .str)) .unit)) .unit)
noncomputable def cK (F : Md) (g : Ex → (List (List Nat)) → Option (Bool)) : aF := mSpec fX (.one (.i .i64)) (fun x => bW F g x.1 x.2.1)
noncomputable def fY (F : Md) (g : Ex → (List (List Nat)) → Option (Bool)) : List (FuncId × aF) := [(130, (sT F g))]
theorem mL (F : Md) (g : Ex → (List (List Nat)) → Option (Bool)) (hg : FOK Tryz.prog GL 64 (gO g)) : bA Tryz.prog GL (fY F g) := .cons (aJP F g hg) (by kernel_rfl) (.nil)
theorem kQ (F : Md) (g : Ex → (List (List Nat)) → Option (Bool)) : gam (fY F g) 130 = some (sT F g) := rfl
attribute [go_sem] fX fL kQ
set_option maxHeartbeats 4000000 in
theorem mB (F : Md) (g : Ex → (List (List Nat)) → Option (Bool)) (hg : FOK Tryz.prog GL 64 (gO g)) : FOK Tryz.prog GL 198 (cK F g) := by
 refine bF (aT (mL F g hg)) mix Tryz.func198 rfl (by kernel_rfl) (by decide) fL fun w0 S x Θ hw h hF => ?_
 obtain ⟨(s_0 : (List Ex)), (f_1 : ((List (List Nat)) × Unit)), u⟩ := x
 simp only [bJ, go_sem]
 replace h : sat (bW F g s_0 f_1) _ := h
 unfold bW at h
 refine bQ hF (D := Int) [0, 1, 7] (fun d => [(8, .val (.i .i64) d)]) (fun d => []) h rfl (by simp only [go_sem]) ?_
 rintro x8_14 A2 T2 hA2 hE2 h
 simp only [go_sem]
 replace h : sat (aW F g s_0 f_1 x8_14) _ := h
 unfold aW at h
 refine eI h (fun hc h => ?_) fun hc h => ?_
 ·refine aP h fun g0 h => ?_
  obtain ⟨v_27, hv, h⟩ := aI h
  try simp only [hv, go_sem]
  refine aIE h (fun hc h => ?_) fun hc h => ?_
  ·replace h := hE2 _ (aA h)
   try dsimp only at h
   exact aE hF [.tmp 4] rfl rfl rfl (aA h) (by simp only [aM, go_sem])
  ·refine aP h fun g0 h => ?_
   replace h := hA2 _ (aA h)
   exact aQ _ h rfl (by simp only [go_sem])
 ·replace h := hE2 _ (aA h)
  try dsimp only at h
  exact aE hF [.tmp 4] rfl rfl rfl (aA h) (by simp only [aM, go_sem])
attribute [go_sem] cK
noncomputable def aX (F : Md) (g : Ex → (List (List Nat)) → Option (Bool)) (s_0 : (List Ex)) (f_1 : ((List (List Nat)) × Unit)) : Option Bool :=
 (bW F g s_0 f_1).bind (fun v_6 => some (decide ((0 : Int) ≤ v_6)))
def eP : PlR := ⟨[(0, .A [0, 1]), (1, .A [4])], []⟩
def eX : Ty := .pair (.sl .expr) (.pair (.clo 130 (.pair (.rp (.sl .str)) .unit)) .unit)
noncomputable def cF (F : Md) (g : Ex → (List (List Nat)) → Option (Bool)) : aF := mSpec eX (.one .bool) (fun x => aX F g x.1 x.2.1)
noncomputable def eY (F : Md) (g : Ex → (List (List Nat)) → Option (Bool)) : List (FuncId × aF) := [(198, (cK F g))]
theorem lI (F : Md) (g : Ex → (List (List Nat)) → Option (Bool)) (hg : FOK Tryz.prog GL 64 (gO g)) : bA Tryz.prog GL (eY F g) := .cons (mB F g hg) (by kernel_rfl) (.nil)
theorem jP (F : Md) (g : Ex → (List (List Nat)) → Option (Bool)) : gam (eY F g) 198 = some (cK F g) := rfl
attribute [go_sem] eX eP jP
set_option maxHeartbeats 4000000 in
theorem kR (F : Md) (g : Ex → (List (List Nat)) → Option (Bool)) (hg : FOK Tryz.prog GL 64 (gO g)) : FOK Tryz.prog GL 129 (cF F g) := by
 refine bF (aT (lI F g hg)) mix Tryz.func129 rfl (by kernel_rfl) (by decide) eP fun w0 S x Θ hw h hF => ?_
 obtain ⟨(s_0 : (List Ex)), (f_1 : ((List (List Nat)) × Unit)), u⟩ := x
 simp only [bJ, go_sem]
 replace h : sat (aX F g s_0 f_1) _ := h
 unfold aX at h
 obtain ⟨v_6, hv, h⟩ := aI h
 try simp only [hv, go_sem]
 exact aE hF [.tmp 4] rfl rfl rfl (aA h) (by simp only [aM, go_sem])
attribute [go_sem] cF
noncomputable def nV (F : Md) (g : Ex → (List (List Nat)) → Option (Bool)) (e_0 : Ex) (names_1 : (List (List Nat))) : Option Bool :=
 ck ((oI F (e_0.kind)).isSome = true) (if ¬ (((oI F (e_0.kind)).getD (0 : Int)) = (((e_0.l).length : Nat) : Int)) then some false else if (e_0.kind) = (1 : Int) then ck ((tH F (e_0.text)).isSome = true) (some ((tH F (e_0.text)).getD false)) else if (e_0.kind) = (2 : Int) then ck (¬ ((e_0.text) = (aY ⟨#[116]⟩)) → ((cV F names_1 (e_0.text)).isSome = true)) (some ((decide ((e_0.text) = (aY ⟨#[116]⟩))) || ((cV F names_1 (e_0.text)).getD false))) else ck (((e_0.text) = (aY ⟨#[]⟩)) → ((aX F g (e_0.l) (names_1, ())).isSome = true)) (some ((decide ((e_0.text) = (aY ⟨#[]⟩))) && (!((aX F g (e_0.l) (names_1, ())).getD false)))))
noncomputable def qZ (F : Md) (g : Ex → (List (List Nat)) → Option (Bool)) : List (FuncId × aF) := [(129, (cF F g)), (127, (xG F)), (128, (aA0 F)), (71, (eH F))]
theorem aHc (F : Md) (g : Ex → (List (List Nat)) → Option (Bool)) (hg : FOK Tryz.prog GL 64 (gO g)) : bA Tryz.prog GL (qZ F g) := .cons (kR F g hg) (by kernel_rfl) (.cons (aMq F) (by kernel_rfl) (.cons (aOS F) (by kernel_rfl) (.cons (rL F) (by kernel_rfl) (.nil))))
theorem aH9 (F : Md) (g : Ex → (List (List Nat)) → Option (Bool)) : gam (qZ F g) 129 = some (cF F g) := rfl
attribute [go_sem] aH9
theorem aIa (F : Md) (g : Ex → (List (List Nat)) → Option (Bool)) : gam (qZ F g) 127 = some (xG F) := rfl
attribute [go_sem] aIa
theorem aIb (F : Md) (g : Ex → (List (List Nat)) → Option (Bool)) : gam (qZ F g) 128 = some (aA0 F) := rfl
attribute [go_sem] aIb
theorem aJQ (F : Md) (g : Ex → (List (List Nat)) → Option (Bool)) : gam (qZ F g) 71 = some (eH F) := rfl
attribute [go_sem] aJQ
set_option maxHeartbeats 4000000 in
theorem aLK (F : Md) (g : Ex → (List (List Nat)) → Option (Bool)) (hg : FOK Tryz.prog GL 64 (gO g)) : FOK Tryz.prog GL 64 (mSpec qY (.one .bool) (fun x => nV F g x.1 x.2.1)) := by
 refine jX (aT (aHc F g hg)) Tryz.func64 rfl (by kernel_rfl) (by decide) fun w0 S x r hw h => ?_
 have hF : kP (fr Tryz.prog (EM (qZ F g)) S w0 Tryz.f64.ntmps) := ⟨aT (aHc F g hg), mix⟩
 obtain ⟨(e_0 : Ex), (names_1 : (List (List Nat))), u⟩ := x
 simp only [qY, Ty.wf, nH] at hw
 simp only [bJ, qY]
 try dsimp only at h
 replace h : nV F g e_0 names_1 = some r := h
 unfold nV at h
 refine aB (aZ hF [2, 3] ?_)
 simp only [go_sem]
 refine aC (aB (aB (aD hF [2, 3, 11] ?_)))
 simp only [go_sem]
 obtain ⟨g0, h⟩ := aL h
 repeat (refine ⟨zAA, ?_⟩)
 refine aC (bZ rfl (fun hc => ?_) (fun hc => ?_))
 ·try simp only [go_sem] at hc
  have h := gS zAB h
  refine aB (aD hF [4] ?_)
  simp only [go_sem]
  obtain rfl := Option.some.inj h
  refine aC (cI (bV (dK hF [.tmp 4] rfl rfl rfl ?_)))
  exact zAG
 ·try simp only [go_sem] at hc
  have h := gT zAB h
  refine cQ (aC (aB (aB (aD hF [2, 3, 13] ?_))))
  simp only [go_sem]
  refine aC (eE (aB (aD hF [2, 3, 13, 14] ?_)))
  simp only [go_sem]
  refine aC (bZ rfl (fun hc => ?_) (fun hc => ?_))
  ·try simp only [go_sem] at hc
   have h := gS zAB h
   refine aB (aD hF [4] ?_)
   simp only [go_sem]
   obtain ⟨g0, h⟩ := aL h
   repeat (refine ⟨zAA, ?_⟩)
   obtain rfl := Option.some.inj h
   refine aC (cI (eB (bV (dK hF [.tmp 4] rfl rfl rfl ?_))))
   exact zAG
  ·try simp only [go_sem] at hc
   have h := gT zAB h
   refine aB (aD hF [2, 3, 19] ?_)
   simp only [go_sem]
   refine aC (bZ rfl (fun hc => ?_) (fun hc => ?_))
   ·try simp only [go_sem] at hc
    have h := gS zAB h
    refine aB (aD hF [4] ?_)
    simp only [go_sem]
    obtain ⟨g0, h⟩ := aL h
    repeat (refine ⟨zAC, ?_⟩)
    obtain rfl := Option.some.inj h
    refine aC (cI (eB (bV (dK hF [.tmp 4] rfl rfl rfl ?_))))
    exact zAG
   ·try simp only [go_sem] at hc
    have h := gT zAB h
    refine cQ (fR (aC (aB (xW 1 rfl ?_))))
    simp only [go_sem]
    refine aD hF [4] ?_
    simp only [go_sem]
    obtain ⟨g0, h⟩ := aL h
    repeat (refine ⟨zAC, ?_⟩)
    obtain rfl := Option.some.inj h
    refine aC (cI (dK hF [.tmp 4] rfl rfl rfl ?_))
    exact zAG
noncomputable def oJ (F : Md) : Nat → Ex → (List (List Nat)) → Option (Bool)
 | 0 => fun _ _ => none
 | n + 1 => nV F (oJ F n)
noncomputable def xH (F : Md) (n : Nat) : aF := mSpec qY (.one .bool) (fun x => oJ F n x.1 x.2.1)
theorem aE2 (F : Md) : ∀ n, FOK Tryz.prog GL 64 (xH F n)
 | 0 => fun _ _ _ _ _ _ _ hp => Bool.noConfusion (show false = true from hp)
 | n + 1 => aLK F _ (aE2 F n)
attribute [go_sem] xH
end Nu
end Go.Proofs
namespace Go.Proofs
open Go.Vc
set_option maxRecDepth 20000
namespace Nu
attribute [-go_sem] Ex.kind Ex.text Ex.l
@[reducible] def aT4 (xs : List (List Nat)) : Prop := xs.length * 16 ≤ 140737488355328
def pK : Ty := .pair (.sl .str) .unit
noncomputable def iE : aF := ⟨pK, .own 9 .str, fun x => aT4 x.1, fun x => id x.1⟩
attribute [go_sem] iE pK
noncomputable def wE (F : Md) : List (FuncId × aF) := []
theorem wF (F : Md) : bA Tryz.prog GL (wE F) := .nil
theorem aCG : FOK Tryz.prog GL 137 iE := by
 refine aPk (aT (wF none)) Tryz.func137 rfl (by kernel_rfl) (by decide) fun w0 S x hw hp => ?_
 have hF : kP (fr Tryz.prog (EM (wE none)) S w0 Tryz.f137.ntmps) := ⟨aT (wF none), mix⟩
 obtain ⟨(s : (List (List Nat))), u⟩ := x
 have hp : s.length * 16 ≤ 140737488355328 := hp
 simp only [bJ, pK, iE]
 refine aB (aD hF [0, 2] ?_)
 simp only [go_sem]
 refine aC (aB (aB (aM0 hF rfl rfl rfl fun b hb => ?_)))
 refine aC (bZ rfl (fun hc => ?_) (fun hc => ?_))
 ·have hs := hb hc
  refine aB (aD hF [2] ?_)
  simp only [go_sem]
  refine aC (cI (bV (dK hF [.tmp 2] rfl rfl rfl ?_)))
  simp only [fJ, aM, go_sem, hs]
  try trivial
 ·refine cQ (aC (aB (aZ hF [2] ?_)))
  simp only [go_sem]
  refine ⟨by omega, ?_⟩
  refine aC (cI (dK hF [.tmp 2] rfl rfl rfl ?_))
  simp only [fJ, aM, go_sem]
  try trivial
noncomputable def eC (F : Md) (e_0 : Ex) (names_1 : (List (List Nat))) : Option Bool :=
 (tZ F e_0).bind (fun v_6 => ck ((v_6 = true) → ((oJ F 64 e_0 names_1).isSome = true)) (some (v_6 && ((oJ F 64 e_0 names_1).getD false))))
def aBO : PlR := ⟨[(0, .B [1, 2]), (1, .A [4])], []⟩
def aCZ : Ty := .pair .expr (.pair (.sl .str) .unit)
noncomputable def eN (F : Md) : aF := mSpec aCZ (.one .bool) (fun x => eC F x.1 x.2.1)
noncomputable def yJ (F : Md) : List (FuncId × aF) := [(63, (zR F)), (64, (xH F 64))]
theorem aJR (F : Md) : bA Tryz.prog GL (yJ F) := .cons (aNR F) (by kernel_rfl) (.cons (aE2 F 64) (by kernel_rfl) (.nil))
theorem aFI (F : Md) : gam (yJ F) 63 = some (zR F) := rfl
theorem aFJ (F : Md) : gam (yJ F) 64 = some (xH F 64) := rfl
attribute [go_sem] aCZ aBO aFI aFJ
set_option maxHeartbeats 4000000 in
theorem rA (F : Md) : FOK Tryz.prog GL 25 (eN F) := by
 refine bF (aT (aJR F)) mix Tryz.func25 rfl (by kernel_rfl) (by decide) aBO fun w0 S x Θ hw h hF => ?_
 obtain ⟨(e_0 : Ex), (names_1 : (List (List Nat))), u⟩ := x
 simp only [bJ, go_sem]
 replace h : sat (eC F e_0 names_1) _ := h
 unfold eC at h
 obtain ⟨v_6, hv, h⟩ := aI h
 try simp only [hv, go_sem]
 refine aP h fun g0 h => ?_
 exact aE hF [.tmp 4] rfl rfl rfl (aA h) (by simp only [aM, go_sem])
attribute [go_sem] eN
noncomputable def rB (F : Md) (a_0 : ((List Nat) × (Ex × Unit))) (a1_1 : (List (List Nat))) : Option Bool :=
 (eC F a_0.2.1 a1_1).bind (fun v_6 => some (!v_6))
def aA3 : PlR := ⟨[(0, .B [1, 2]), (1, .A [3])], []⟩
def aBP : Ty := .pair (.pair .str (.pair .expr .unit)) (.pair (.rp (.sl .str)) .unit)
noncomputable def pO (F : Md) : aF := mSpec aBP (.one .bool) (fun x => rB F x.1 x.2.1)
noncomputable def aBQ (F : Md) : List (FuncId × aF) := [(25, (eN F))]
theorem aIc (F : Md) : bA Tryz.prog GL (aBQ F) := .cons (rA F) (by kernel_rfl) (.nil)
theorem aEx (F : Md) : gam (aBQ F) 25 = some (eN F) := rfl
attribute [go_sem] aBP aA3 aEx
set_option maxHeartbeats 4000000 in
theorem aHd (F : Md) : FOK Tryz.prog GL 140 (pO F) := by
 refine bF (aT (aIc F)) mix Tryz.func140 rfl (by kernel_rfl) (by decide) aA3 fun w0 S x Θ hw h hF => ?_
 obtain ⟨(a_0 : ((List Nat) × (Ex × Unit))), (a1_1 : (List (List Nat))), u⟩ := x
 simp only [bJ, go_sem]
 replace h : sat (rB F a_0 a1_1) _ := h
 unfold rB at h
 obtain ⟨v_6, hv, h⟩ := aI h
 try simp only [hv, go_sem]
 exact aE hF [.tmp 3] rfl rfl rfl (aA h) (by simp only [aM, go_sem])
attribute [go_sem] pO
noncomputable def dF (F : Md) (s_0 : (List ((List Nat) × (Ex × Unit)))) (f_1 : ((List (List Nat)) × Unit)) (x8_14 : Int) : Option ((Int) ⊕ ((Unit) ⊕ Int)) :=
 if x8_14 < (((s_0.length) : Nat) : Int) then ck (0 ≤ x8_14 ∧ x8_14 < (((s_0.length) : Nat) : Int)) ((rB F (s_0.getD (x8_14.toNat) ([], (Ex.mk 0 [] []), ())) f_1.1).bind (fun v_27 => if v_27 = true then some (.inr (.inr x8_14)) else ck (I64 (x8_14 + (1 : Int))) (some (.inl (x8_14 + (1 : Int)))))) else some (.inr (.inl ()))
noncomputable def cO (F : Md) (s_0 : (List ((List Nat) × (Ex × Unit)))) (f_1 : ((List (List Nat)) × Unit)) : Option Int :=
 (dB F (fun d : Int => dF F s_0 f_1 d) (0 : Int)).bind (fun e => match e with | (.inl e) => some (-1 : Int) | (.inr e) => some e)
def fM : PlR := ⟨[(0, .A [0, 1]), (1, .A [0, 1, 7, 8]), (2, .A [0, 1, 7, 8, 9]), (3, .A [0, 1, 5, 7, 8]), (4, .A [0, 1, 5, 7, 8, 16]), (5, .A [4]), (6, .A [0, 1, 7, 8]), (7, .A [4])], []⟩
def fZ : Ty := .pair (.sl (.pair .str (.pair .expr .unit))) (.pair (.clo 140 (.pair (.rp (.sl .str)) .unit)) .unit)
noncomputable def cL (F : Md) : aF := mSpec fZ (.one (.i .i64)) (fun x => cO F x.1 x.2.1)
noncomputable def gA (F : Md) : List (FuncId × aF) := [(140, (pO F))]
theorem mM (F : Md) : bA Tryz.prog GL (gA F) := .cons (aHd F) (by kernel_rfl) (.nil)
theorem kS (F : Md) : gam (gA F) 140 = some (pO F) := rfl
attribute [go_sem] fZ fM kS
set_option maxHeartbeats 4000000 in
theorem mC (F : Md) : FOK Tryz.prog GL 204 (cL F) := by
 refine bF (aT (mM F)) mix Tryz.func204 rfl (by kernel_rfl) (by decide) fM fun w0 S x Θ hw h hF => ?_
 obtain ⟨(s_0 : (List ((List Nat) × (Ex × Unit)))), (f_1 : ((List (List Nat)) × Unit)), u⟩ := x
 simp only [bJ, go_sem]
 replace h : sat (cO F s_0 f_1) _ := h
 unfold cO at h
 refine bQ hF (D := Int) [0, 1, 7] (fun d => [(8, .val (.i .i64) d)]) (fun d => []) h rfl (by simp only [go_sem]) ?_
 rintro x8_14 A2 T2 hA2 hE2 h
 simp only [go_sem]
 replace h : sat (dF F s_0 f_1 x8_14) _ := h
 unfold dF at h
 refine eI h (fun hc h => ?_) fun hc h => ?_
 ·refine aP h fun g0 h => ?_
  obtain ⟨v_27, hv, h⟩ := aI h
  try simp only [hv, go_sem]
  refine aIE h (fun hc h => ?_) fun hc h => ?_
  ·replace h := hE2 _ (aA h)
   try dsimp only at h
   exact aE hF [.tmp 4] rfl rfl rfl (aA h) (by simp only [aM, go_sem])
  ·refine aP h fun g0 h => ?_
   replace h := hA2 _ (aA h)
   exact aQ _ h rfl (by simp only [go_sem])
 ·replace h := hE2 _ (aA h)
  try dsimp only at h
  exact aE hF [.tmp 4] rfl rfl rfl (aA h) (by simp only [aM, go_sem])
attribute [go_sem] cL
noncomputable def bS (F : Md) (s_0 : (List ((List Nat) × (Ex × Unit)))) (f_1 : ((List (List Nat)) × Unit)) : Option Bool :=
 (cO F s_0 f_1).bind (fun v_6 => some (decide ((0 : Int) ≤ v_6)))
def eQ : PlR := ⟨[(0, .A [0, 1]), (1, .A [4])], []⟩
def eZ : Ty := .pair (.sl (.pair .str (.pair .expr .unit))) (.pair (.clo 140 (.pair (.rp (.sl .str)) .unit)) .unit)
noncomputable def cG (F : Md) : aF := mSpec eZ (.one .bool) (fun x => bS F x.1 x.2.1)
noncomputable def fA (F : Md) : List (FuncId × aF) := [(204, (cL F))]
theorem lJ (F : Md) : bA Tryz.prog GL (fA F) := .cons (mC F) (by kernel_rfl) (.nil)
theorem jQ (F : Md) : gam (fA F) 204 = some (cL F) := rfl
attribute [go_sem] eZ eQ jQ
set_option maxHeartbeats 4000000 in
theorem kT (F : Md) : FOK Tryz.prog GL 139 (cG F) := by
 refine bF (aT (lJ F)) mix Tryz.func139 rfl (by kernel_rfl) (by decide) eQ fun w0 S x Θ hw h hF => ?_
 obtain ⟨(s_0 : (List ((List Nat) × (Ex × Unit)))), (f_1 : ((List (List Nat)) × Unit)), u⟩ := x
 simp only [bJ, go_sem]
 replace h : sat (bS F s_0 f_1) _ := h
 unfold bS at h
 obtain ⟨v_6, hv, h⟩ := aI h
 try simp only [hv, go_sem]
 exact aE hF [.tmp 4] rfl rfl rfl (aA h) (by simp only [aM, go_sem])
attribute [go_sem] cG
noncomputable def aAA (F : Md) (s_0 : ((List Nat) × ((List ((List Nat) × (((List Nat) × ((List Nat) × Unit)) × (Ex × Unit)))) × ((List ((List Nat) × (((List Nat) × ((List Nat) × Unit)) × Unit))) × ((List (List Nat)) × ((List ((List Nat) × (Ex × Unit))) × Unit)))))) (x93_11 : Int) : Option ((Int) ⊕ ((Unit) ⊕ Bool)) :=
 if x93_11 < (((s_0.2.2.1.length) : Nat) : Int) then ck (0 ≤ x93_11 ∧ x93_11 < (((s_0.2.2.1.length) : Nat) : Int)) (ck ((jN F (s_0.2.2.1.getD (x93_11.toNat) ([], ([], [], ()), ())).2.1).isSome = true) (if ¬ (((jN F (s_0.2.2.1.getD (x93_11.toNat) ([], ([], [], ()), ())).2.1).getD false) = true) then some (.inr (.inr false)) else ck (I64 (x93_11 + (1 : Int))) (some (.inl (x93_11 + (1 : Int)))))) else some (.inr (.inl ()))
noncomputable def vF (F : Md) (s_0 : ((List Nat) × ((List ((List Nat) × (((List Nat) × ((List Nat) × Unit)) × (Ex × Unit)))) × ((List ((List Nat) × (((List Nat) × ((List Nat) × Unit)) × Unit))) × ((List (List Nat)) × ((List ((List Nat) × (Ex × Unit))) × Unit)))))) : Option (Bool) :=
 (dB F (fun d : Int => aAA F s_0 d) (0 : Int)).bind (fun e => match e with | (.inl e) => ck ((bS F s_0.2.2.2.2.1 (((bN F ([((aR F s_0).getD (([] : List (List Nat)), ([] : List (List Nat)), ([] : List (List Nat)), ())).1, ((aR F s_0).getD (([] : List (List Nat)), ([] : List (List Nat)), ([] : List (List Nat)), ())).2.1, ((aR F s_0).getD (([] : List (List Nat)), ([] : List (List Nat)), ([] : List (List Nat)), ())).2.2.1] : List (List (List Nat)))).getD ([] : List (List Nat))), ())).isSome = true) (some (!((bS F s_0.2.2.2.2.1 (((bN F ([((aR F s_0).getD (([] : List (List Nat)), ([] : List (List Nat)), ([] : List (List Nat)), ())).1, ((aR F s_0).getD (([] : List (List Nat)), ([] : List (List Nat)), ([] : List (List Nat)), ())).2.1, ((aR F s_0).getD (([] : List (List Nat)), ([] : List (List Nat)), ([] : List (List Nat)), ())).2.2.1] : List (List (List Nat)))).getD ([] : List (List Nat))), ())).getD false))) | (.inr e) => some e)
noncomputable def aAB (F : Md) (s_0 : ((List Nat) × ((List ((List Nat) × (((List Nat) × ((List Nat) × Unit)) × (Ex × Unit)))) × ((List ((List Nat) × (((List Nat) × ((List Nat) × Unit)) × Unit))) × ((List (List Nat)) × ((List ((List Nat) × (Ex × Unit))) × Unit)))))) (x74_14 : Int) : Option ((Int) ⊕ ((Unit) ⊕ Bool)) :=
 if x74_14 < (((s_0.2.1.length) : Nat) : Int) then ck (0 ≤ x74_14 ∧ x74_14 < (((s_0.2.1.length) : Nat) : Int)) (ck ((jN F (s_0.2.1.getD (x74_14.toNat) ([], ([], [], ()), (Ex.mk 0 [] []), ())).2.1).isSome = true) (ck (¬ (¬ (((jN F (s_0.2.1.getD (x74_14.toNat) ([], ([], [], ()), (Ex.mk 0 [] []), ())).2.1).getD false) = true)) → ((eC F (s_0.2.1.getD (x74_14.toNat) ([], ([], [], ()), (Ex.mk 0 [] []), ())).2.2.1 ((bN F ([((aR F s_0).getD (([] : List (List Nat)), ([] : List (List Nat)), ([] : List (List Nat)), ())).1, ((aR F s_0).getD (([] : List (List Nat)), ([] : List (List Nat)), ([] : List (List Nat)), ())).2.1, ((aR F s_0).getD (([] : List (List Nat)), ([] : List (List Nat)), ([] : List (List Nat)), ())).2.2.1] : List (List (List Nat)))).getD ([] : List (List Nat)))).isSome = true)) (if (¬ (((jN F (s_0.2.1.getD (x74_14.toNat) ([], ([], [], ()), (Ex.mk 0 [] []), ())).2.1).getD false) = true)) ∨ (¬ (((eC F (s_0.2.1.getD (x74_14.toNat) ([], ([], [], ()), (Ex.mk 0 [] []), ())).2.2.1 ((bN F ([((aR F s_0).getD (([] : List (List Nat)), ([] : List (List Nat)), ([] : List (List Nat)), ())).1, ((aR F s_0).getD (([] : List (List Nat)), ([] : List (List Nat)), ([] : List (List Nat)), ())).2.1, ((aR F s_0).getD (([] : List (List Nat)), ([] : List (List Nat)), ([] : List (List Nat)), ())).2.2.1] : List (List (List Nat)))).getD ([] : List (List Nat)))).getD false) = true)) then some (.inr (.inr false)) else ck (I64 (x74_14 + (1 : Int))) (some (.inl (x74_14 + (1 : Int))))))) else some (.inr (.inl ()))
noncomputable def vG (F : Md) (s_0 : ((List Nat) × ((List ((List Nat) × (((List Nat) × ((List Nat) × Unit)) × (Ex × Unit)))) × ((List ((List Nat) × (((List Nat) × ((List Nat) × Unit)) × Unit))) × ((List (List Nat)) × ((List ((List Nat) × (Ex × Unit))) × Unit)))))) (all_6 : (List (List Nat))) : Option (Bool) :=
 ck ((pF F all_6).isSome = true) (if ¬ (((pF F all_6).getD false) = true) then some false else (dB F (fun d : Int => aAB F s_0 d) (0 : Int)).bind (fun e => match e with | (.inl e) => vF F s_0 | (.inr e) => some e))
noncomputable def aA4 (F : Md) (s_0 : ((List Nat) × ((List ((List Nat) × (((List Nat) × ((List Nat) × Unit)) × (Ex × Unit)))) × ((List ((List Nat) × (((List Nat) × ((List Nat) × Unit)) × Unit))) × ((List (List Nat)) × ((List ((List Nat) × (Ex × Unit))) × Unit)))))) (x58_17 : Int) (all_18 : (List (List Nat))) : Option ((Int × (List (List Nat))) ⊕ (List (List Nat))) :=
 if x58_17 < (((s_0.2.2.2.2.1.length) : Nat) : Int) then ck (0 ≤ x58_17 ∧ x58_17 < (((s_0.2.2.2.2.1.length) : Nat) : Int)) (ck (((all_18.length) + (1 : Nat)) * 16 ≤ 140737488355328) (ck (I64 (x58_17 + (1 : Int))) (some (.inl ((x58_17 + (1 : Int)), (all_18 ++ ([(s_0.2.2.2.2.1.getD (x58_17.toNat) ([], (Ex.mk 0 [] []), ())).1] : List (List Nat)))))))) else some (.inr all_18)
noncomputable def vH (F : Md) (s_0 : ((List Nat) × ((List ((List Nat) × (((List Nat) × ((List Nat) × Unit)) × (Ex × Unit)))) × ((List ((List Nat) × (((List Nat) × ((List Nat) × Unit)) × Unit))) × ((List (List Nat)) × ((List ((List Nat) × (Ex × Unit))) × Unit)))))) : Option Bool :=
 if (((((((s_0.2.1.length) : Nat) : Int) < (1 : Int)) ∨ ((6 : Int) < (((s_0.2.1.length) : Nat) : Int))) ∨ ((6 : Int) < (((s_0.2.2.1.length) : Nat) : Int))) ∨ ((4 : Int) < (((s_0.2.2.2.1.length) : Nat) : Int))) ∨ ((4 : Int) < (((s_0.2.2.2.2.1.length) : Nat) : Int)) then some false else ck ((aR F s_0).isSome = true) (ck ((bN F ([((aR F s_0).getD (([] : List (List Nat)), ([] : List (List Nat)), ([] : List (List Nat)), ())).1, ((aR F s_0).getD (([] : List (List Nat)), ([] : List (List Nat)), ([] : List (List Nat)), ())).2.1, ((aR F s_0).getD (([] : List (List Nat)), ([] : List (List Nat)), ([] : List (List Nat)), ())).2.2.1] : List (List (List Nat)))).isSome = true) (ck (aT4 ((bN F ([((aR F s_0).getD (([] : List (List Nat)), ([] : List (List Nat)), ([] : List (List Nat)), ())).1, ((aR F s_0).getD (([] : List (List Nat)), ([] : List (List Nat)), ([] : List (List Nat)), ())).2.1, ((aR F s_0).getD (([] : List (List Nat)), ([] : List (List Nat)), ([] : List (List Nat)), ())).2.2.1] : List (List (List Nat)))).getD ([] : List (List Nat)))) ((dB F (fun d : Int × (List (List Nat)) => aA4 F s_0 d.1 d.2) ((0 : Int), (id ((bN F ([((aR F s_0).getD (([] : List (List Nat)), ([] : List (List Nat)), ([] : List (List Nat)), ())).1, ((aR F s_0).getD (([] : List (List Nat)), ([] : List (List Nat)), ([] : List (List Nat)), ())).2.1, ((aR F s_0).getD (([] : List (List Nat)), ([] : List (List Nat)), ([] : List (List Nat)), ())).2.2.1] : List (List (List Nat)))).getD ([] : List (List Nat)))))).bind (fun e => vG F s_0 e))))
def vI : Ty := .pair (.pair .str (.pair (.sl (.pair .str (.pair (.pair .str (.pair .str .unit)) (.pair .expr .unit)))) (.pair (.sl (.pair .str (.pair (.pair .str (.pair .str .unit)) .unit))) (.pair (.sl .str) (.pair (.sl (.pair .str (.pair .expr .unit))) .unit))))) .unit
attribute [go_sem] vI
noncomputable def sU (F : Md) : aF := mSpec vI (.one .bool) (fun x => vH F x.1)
noncomputable def iF (F : Md) : List (FuncId × aF) := [(139, (cG F)), (135, (uZ F)), (136, (kE F)), (137, iE), (138, (sS F)), (25, (eN F)), (68, (nU F))]
theorem aD3 (F : Md) : bA Tryz.prog GL (iF F) := .cons (kT F) (by kernel_rfl) (.cons (aLG F) (by kernel_rfl) (.cons (aBL F) (by kernel_rfl) (.cons aCG (by kernel_rfl) (.cons (aJN F) (by kernel_rfl) (.cons (rA F) (by kernel_rfl) (.cons (aDV F) (by kernel_rfl) (.nil)))))))
theorem aFK (F : Md) : gam (iF F) 139 = some (cG F) := rfl
attribute [go_sem] aFK
theorem aFL (F : Md) : gam (iF F) 135 = some (uZ F) := rfl
attribute [go_sem] aFL
theorem aFM (F : Md) : gam (iF F) 136 = some (kE F) := rfl
attribute [go_sem] aFM
theorem aFN (F : Md) : gam (iF F) 137 = some iE := rfl
attribute [go_sem] aFN
theorem aFO (F : Md) : gam (iF F) 138 = some (sS F) := rfl
attribute [go_sem] aFO
theorem aHe (F : Md) : gam (iF F) 25 = some (eN F) := rfl
attribute [go_sem] aHe
theorem aHf (F : Md) : gam (iF F) 68 = some (nU F) := rfl
attribute [go_sem] aHf
set_option maxHeartbeats 4000000 in
theorem aJS (F : Md) : FOK Tryz.prog GL 67 (sU F) := by
 refine jX (aT (aD3 F)) Tryz.func67 rfl (by kernel_rfl) (by decide) fun w0 S x r hw h => ?_
 have hF : kP (fr Tryz.prog (EM (iF F)) S w0 Tryz.f67.ntmps) := ⟨aT (aD3 F), mix⟩
 obtain ⟨(s_0 : ((List Nat) × ((List ((List Nat) × (((List Nat) × ((List Nat) × Unit)) × (Ex × Unit)))) × ((List ((List Nat) × (((List Nat) × ((List Nat) × Unit)) × Unit))) × ((List (List Nat)) × ((List ((List Nat) × (Ex × Unit))) × Unit)))))), u⟩ := x
 simp only [vI, Ty.wf, nH] at hw
 simp only [bJ, vI]
 try dsimp only at h
 replace h : vH F s_0 = some r := h
 unfold vH at h
 refine aB (aZ hF [1] ?_)
 simp only [go_sem]
 refine aC (aB (aB (aD hF [1, 41] ?_)))
 simp only [go_sem]
 refine aC (bZ rfl (fun hc => ?_) (fun hc => ?_))
 ·try simp only [go_sem] at hc
  have h := gS zAB h
  refine aB (aD hF [2] ?_)
  simp only [go_sem]
  obtain rfl := Option.some.inj h
  refine aC (cI (bV (dK hF [.tmp 2] rfl rfl rfl ?_)))
  exact zAG
 ·try simp only [go_sem] at hc
  have h := gT zAB h
  refine cQ (aC (aB (aD hF [1, 3, 4, 5] ?_)))
  simp only [go_sem]
  obtain ⟨g0, h⟩ := aL h
  repeat (refine ⟨zAA, ?_⟩)
  refine aC (aB (aZ hF [1, 6] ?_))
  simp only [go_sem]
  obtain ⟨g0, h⟩ := aL h
  repeat (refine ⟨zAA, ?_⟩)
  refine aC (aB (aZ hF [1, 6, 7] ?_))
  simp only [go_sem]
  obtain ⟨g0, h⟩ := aL h
  repeat (refine ⟨zAA, ?_⟩)
  refine aC (tL (D := (List (List Nat))) (fun d => vG F s_0 d = some r) [] (fun d => [(1, .ptr 0 []), (6, .ptr 1 []), (7, .own 2)]) (fun d => [.inr (.box 5 (.val (.pair .str (.pair (.sl (.pair .str (.pair (.pair .str (.pair .str .unit)) (.pair .expr .unit)))) (.pair (.sl (.pair .str (.pair (.pair .str (.pair .str .unit)) .unit))) (.pair (.sl .str) (.pair (.sl (.pair .str (.pair .expr .unit))) .unit))))) s_0)), .inr (.box 1 (.val (.sl .str) ((bN F ([((aR F s_0).getD (([] : List (List Nat)), ([] : List (List Nat)), ([] : List (List Nat)), ())).1, ((aR F s_0).getD (([] : List (List Nat)), ([] : List (List Nat)), ([] : List (List Nat)), ())).2.1, ((aR F s_0).getD (([] : List (List Nat)), ([] : List (List Nat)), ([] : List (List Nat)), ())).2.2.1] : List (List (List Nat)))).getD ([] : List (List Nat))))), .inr (.row 9 .str d)]) ?_ ?_)
  ·refine aB (aD hF [1, 6, 7, 56, 57, 58] ?_)
   simp only [go_sem]
   refine aC (eE (pB (D := Int × (List (List Nat))) [56, 57] (fun d => [(1, .ptr 0 []), (6, .ptr 1 []), (7, .own 2), (58, .val (.i .i64) d.1)]) (fun d => [.inr (.box 5 (.val (.pair .str (.pair (.sl (.pair .str (.pair (.pair .str (.pair .str .unit)) (.pair .expr .unit)))) (.pair (.sl (.pair .str (.pair (.pair .str (.pair .str .unit)) .unit))) (.pair (.sl .str) (.pair (.sl (.pair .str (.pair .expr .unit))) .unit))))) s_0)), .inr (.box 1 (.val (.sl .str) ((bN F ([((aR F s_0).getD (([] : List (List Nat)), ([] : List (List Nat)), ([] : List (List Nat)), ())).1, ((aR F s_0).getD (([] : List (List Nat)), ([] : List (List Nat)), ([] : List (List Nat)), ())).2.1, ((aR F s_0).getD (([] : List (List Nat)), ([] : List (List Nat)), ([] : List (List Nat)), ())).2.2.1] : List (List (List Nat)))).getD ([] : List (List Nat))))), .inr (.row 9 .str d.2)]) h ?_ ?_ ?_))
   ·first | rfl | (simp only [go_sem]; done)
   ·exact zAF
   rintro ⟨x58_17, all_18⟩ s7 h hs7
   simp only [go_sem]
   try dsimp only at h
   unfold aA4 at h
   refine aB (aD hF [1, 6, 7, 56, 57, 58, 59] ?_)
   simp only [go_sem]
   refine aC (aB (bZ rfl (fun hc => ?_) (fun hc => ?_)))
   ·try simp only [go_sem] at hc
    have h := gS zAB h
    refine cQ (aC (aB (eE (aB (aZ hF [1, 6, 7, 9, 56, 57, 58] ?_)))))
    simp only [go_sem]
    obtain ⟨g0, h⟩ := aL h
    repeat (refine ⟨zAA, ?_⟩)
    refine aC (aZ hF [1, 6, 7, 56, 57, 58] ?_)
    simp only [go_sem]
    obtain ⟨g0, h⟩ := aL h
    repeat (refine ⟨zAA, ?_⟩)
    refine fR (aC (aD hF [1, 6, 7, 56, 57, 58] ?_))
    simp only [go_sem]
    obtain ⟨g0, h⟩ := aL h
    try simp only [I64, I32] at g0
    repeat (refine ⟨zAA, ?_⟩)
    obtain rfl := Option.some.inj h
    dsimp only [nZ] at hs7
    refine cD (oE [0, 1, 4] rfl rfl ?_)
    simp only [ren, kJ, pZ, posOf, iC, go_sem]
    refine aQ ((x58_17 + (1 : Int)), (all_18 ++ ([(s_0.2.2.2.2.1.getD (x58_17.toNat) ([], (Ex.mk 0 [] []), ())).1] : List (List Nat)))) hs7 rfl ?_
    ·exact zAF
   ·try simp only [go_sem] at hc
    have h := gT zAB h
    obtain rfl := Option.some.inj h
    dsimp only [nZ] at hs7
    have h := hs7
    try dsimp only at h
    refine pX (dA (dA (fS (cD (aQ (all_18) h rfl ?_)))))
    ·exact zAF
  ·rintro all_6 h
   try dsimp only at h
   simp only [go_sem]
   unfold vG at h
   refine aB (aB (aD hF [1, 6, 70] ?_))
   simp only [go_sem]
   obtain ⟨g0, h⟩ := aL h
   repeat (refine ⟨zAA, ?_⟩)
   refine aC (bZ rfl (fun hc => ?_) (fun hc => ?_))
   ·try simp only [go_sem] at hc
    have h := gS zAB h
    refine aB (aD hF [2] ?_)
    simp only [go_sem]
    obtain rfl := Option.some.inj h
    refine aC (cI (bV (dK hF [.tmp 2] rfl rfl rfl ?_)))
    exact zAG
   ·try simp only [go_sem] at hc
    have h := gT zAB h
    refine cQ (aC (tL (D := Unit) (fun d => vF F s_0 = some r) [] (fun d => [(1, .ptr 0 []), (6, .ptr 1 [])]) (fun d => [.inr (.box 5 (.val (.pair .str (.pair (.sl (.pair .str (.pair (.pair .str (.pair .str .unit)) (.pair .expr .unit)))) (.pair (.sl (.pair .str (.pair (.pair .str (.pair .str .unit)) .unit))) (.pair (.sl .str) (.pair (.sl (.pair .str (.pair .expr .unit))) .unit))))) s_0)), .inr (.box 1 (.val (.sl .str) ((bN F ([((aR F s_0).getD (([] : List (List Nat)), ([] : List (List Nat)), ([] : List (List Nat)), ())).1, ((aR F s_0).getD (([] : List (List Nat)), ([] : List (List Nat)), ([] : List (List Nat)), ())).2.1, ((aR F s_0).getD (([] : List (List Nat)), ([] : List (List Nat)), ([] : List (List Nat)), ())).2.2.1] : List (List (List Nat)))).getD ([] : List (List Nat)))))]) ?_ ?_))
    ·refine aB (aD hF [1, 6, 72, 73, 74] ?_)
     simp only [go_sem]
     refine aC (eE (aGq [0, 1] rfl rfl ?_))
     simp only [ren, kJ, pZ, posOf, iC, go_sem]
     refine pB (D := Int) [72, 73] (fun d => [(1, .ptr 0 []), (6, .ptr 1 []), (74, .val (.i .i64) d)]) (fun d => [.inr (.box 5 (.val (.pair .str (.pair (.sl (.pair .str (.pair (.pair .str (.pair .str .unit)) (.pair .expr .unit)))) (.pair (.sl (.pair .str (.pair (.pair .str (.pair .str .unit)) .unit))) (.pair (.sl .str) (.pair (.sl (.pair .str (.pair .expr .unit))) .unit))))) s_0)), .inr (.box 1 (.val (.sl .str) ((bN F ([((aR F s_0).getD (([] : List (List Nat)), ([] : List (List Nat)), ([] : List (List Nat)), ())).1, ((aR F s_0).getD (([] : List (List Nat)), ([] : List (List Nat)), ([] : List (List Nat)), ())).2.1, ((aR F s_0).getD (([] : List (List Nat)), ([] : List (List Nat)), ([] : List (List Nat)), ())).2.2.1] : List (List (List Nat)))).getD ([] : List (List Nat)))))]) h ?_ ?_ ?_
     ·first | rfl | (simp only [go_sem]; done)
     ·exact zAF
     rintro x74_14 s14 h hs14
     simp only [go_sem]
     try dsimp only at h
     unfold aAB at h
     refine aB (aD hF [1, 6, 72, 73, 74, 75] ?_)
     simp only [go_sem]
     refine aC (aB (bZ rfl (fun hc => ?_) (fun hc => ?_)))
     ·try simp only [go_sem] at hc
      have h := gS zAB h
      refine cQ (aC (aB (eE (aB (aZ hF [1, 6, 11, 72, 73, 74] ?_)))))
      simp only [go_sem]
      obtain ⟨g0, h⟩ := aL h
      repeat (refine ⟨zAA, ?_⟩)
      refine aC (aB (aD hF [1, 6, 72, 73, 74, 88] ?_))
      simp only [go_sem]
      obtain ⟨g0, h⟩ := aL h
      obtain ⟨g1, h⟩ := aL h
      repeat (refine ⟨by first | with_reducible assumption | omega | (intros; first | with_reducible assumption | omega) | (simp only [go_sem] at *; first | with_reducible assumption | omega) | (intro _; exact ⟨rfl, by decide⟩) | (intro _; refine (?_ : _ = bD _); rfl) | exact ⟨rfl, rfl⟩ | (intro q0; (try have e1 := g1 zAE); first | assumption | omega) | decide, ?_⟩)
      refine aC (bZ rfl (fun hc => ?_) (fun hc => ?_))
      ·try simp only [go_sem] at hc
       have h := gS zAB h
       refine aB (aD hF [2] ?_)
       simp only [go_sem]
       obtain rfl := Option.some.inj h
       dsimp only [nZ] at hs14
       have h := hs14
       try dsimp only at h
       obtain rfl := Option.some.inj h
       refine aC (cI (eB (bV (bV (eB (bV (dK hF [.tmp 2] rfl rfl rfl ?_)))))))
       exact zAG
      ·try simp only [go_sem] at hc
       have h := gT zAB h
       refine cQ (fR (aC (aD hF [1, 6, 72, 73, 74] ?_)))
       simp only [go_sem]
       obtain ⟨g0, h⟩ := aL h
       try simp only [I64, I32] at g0
       repeat (refine ⟨zAA, ?_⟩)
       obtain rfl := Option.some.inj h
       dsimp only [nZ] at hs14
       refine cD (oE [0, 1] rfl rfl ?_)
       simp only [ren, kJ, pZ, posOf, iC, go_sem]
       refine aQ (x74_14 + (1 : Int)) hs14 rfl ?_
       ·exact zAF
     ·try simp only [go_sem] at hc
      have h := gT zAB h
      obtain rfl := Option.some.inj h
      dsimp only [nZ] at hs14
      have h := hs14
      try dsimp only at h
      refine pX (dA (dA (fS (cD (aQ () h rfl ?_)))))
      ·exact zAF
    ·rintro u h
     try dsimp only at h
     simp only [go_sem]
     unfold vF at h
     refine aB (aB (aD hF [1, 6, 91, 92, 93] ?_))
     simp only [go_sem]
     refine aC (eE (pB (D := Int) [91, 92] (fun d => [(1, .ptr 0 []), (6, .ptr 1 []), (93, .val (.i .i64) d)]) (fun d => [.inr (.box 5 (.val (.pair .str (.pair (.sl (.pair .str (.pair (.pair .str (.pair .str .unit)) (.pair .expr .unit)))) (.pair (.sl (.pair .str (.pair (.pair .str (.pair .str .unit)) .unit))) (.pair (.sl .str) (.pair (.sl (.pair .str (.pair .expr .unit))) .unit))))) s_0)), .inr (.box 1 (.val (.sl .str) ((bN F ([((aR F s_0).getD (([] : List (List Nat)), ([] : List (List Nat)), ([] : List (List Nat)), ())).1, ((aR F s_0).getD (([] : List (List Nat)), ([] : List (List Nat)), ([] : List (List Nat)), ())).2.1, ((aR F s_0).getD (([] : List (List Nat)), ([] : List (List Nat)), ([] : List (List Nat)), ())).2.2.1] : List (List (List Nat)))).getD ([] : List (List Nat)))))]) h ?_ ?_ ?_))
     ·first | rfl | (simp only [go_sem]; done)
     ·exact zAF
     rintro x93_11 s20 h hs20
     simp only [go_sem]
     try dsimp only at h
     unfold aAA at h
     refine aB (aD hF [1, 6, 91, 92, 93, 94] ?_)
     simp only [go_sem]
     refine aC (aB (bZ rfl (fun hc => ?_) (fun hc => ?_)))
     ·try simp only [go_sem] at hc
      have h := gS zAB h
      refine cQ (aC (aB (eE (aB (aZ hF [1, 6, 13, 91, 92, 93] ?_)))))
      simp only [go_sem]
      obtain ⟨g0, h⟩ := aL h
      repeat (refine ⟨zAA, ?_⟩)
      refine aC (aB (aD hF [1, 6, 91, 92, 93, 100] ?_))
      simp only [go_sem]
      obtain ⟨g0, h⟩ := aL h
      repeat (refine ⟨zAA, ?_⟩)
      refine aC (bZ rfl (fun hc => ?_) (fun hc => ?_))
      ·try simp only [go_sem] at hc
       have h := gS zAB h
       refine aB (aD hF [2] ?_)
       simp only [go_sem]
       obtain rfl := Option.some.inj h
       dsimp only [nZ] at hs20
       have h := hs20
       try dsimp only at h
       obtain rfl := Option.some.inj h
       refine aC (cI (eB (bV (bV (eB (bV (dK hF [.tmp 2] rfl rfl rfl ?_)))))))
       exact zAG
      ·try simp only [go_sem] at hc
       have h := gT zAB h
       refine cQ (fR (aC (aD hF [1, 6, 91, 92, 93] ?_)))
       simp only [go_sem]
       obtain ⟨g0, h⟩ := aL h
       try simp only [I64, I32] at g0
       repeat (refine ⟨zAA, ?_⟩)
       obtain rfl := Option.some.inj h
       dsimp only [nZ] at hs20
       refine cD (oE [0, 1] rfl rfl ?_)
       simp only [ren, kJ, pZ, posOf, iC, go_sem]
       refine aQ (x93_11 + (1 : Int)) hs20 rfl ?_
       ·exact zAF
     ·try simp only [go_sem] at hc
      have h := gT zAB h
      obtain rfl := Option.some.inj h
      dsimp only [nZ] at hs20
      have h := hs20
      try dsimp only at h
      refine pX (dA (dA (fS (aC (aB (xW 1 rfl ?_))))))
      simp only [go_sem]
      refine aD hF [2] ?_
      simp only [go_sem]
      obtain ⟨g0, h⟩ := aL h
      repeat (refine ⟨zAA, ?_⟩)
      obtain rfl := Option.some.inj h
      refine aC (cI (dK hF [.tmp 2] rfl rfl rfl ?_))
      exact zAG
attribute [go_sem] sU
noncomputable def yK (F : Md) (s_0 : (Int × (Int × (Int × (Int × ((List Nat) × ((List Nat) × ((List Nat) × ((List Nat) × ((List ((List Nat) × ((List ((List Nat) × (((List Nat) × ((List Nat) × Unit)) × (Ex × Unit)))) × ((List ((List Nat) × (((List Nat) × ((List Nat) × Unit)) × Unit))) × ((List (List Nat)) × ((List ((List Nat) × (Ex × Unit))) × Unit)))))) × ((List ((List Nat) × ((List Nat) × ((List Nat) × ((List Nat) × Unit))))) × Unit))))))))))) (sub_1 : (List Nat)) (x10_5 : Int) : Option ((Int) ⊕ ((Unit) ⊕ Int)) :=
 if x10_5 < (((s_0.2.2.2.2.2.2.2.2.1.length) : Nat) : Int) then ck (0 ≤ x10_5 ∧ x10_5 < (((s_0.2.2.2.2.2.2.2.2.1.length) : Nat) : Int)) (if (s_0.2.2.2.2.2.2.2.2.1.getD (x10_5.toNat) ([], [], [], [], [], ())).1 = sub_1 then some (.inr (.inr x10_5)) else ck (I64 (x10_5 + (1 : Int))) (some (.inl (x10_5 + (1 : Int))))) else some (.inr (.inl ()))
noncomputable def iG (F : Md) (s_0 : (Int × (Int × (Int × (Int × ((List Nat) × ((List Nat) × ((List Nat) × ((List Nat) × ((List ((List Nat) × ((List ((List Nat) × (((List Nat) × ((List Nat) × Unit)) × (Ex × Unit)))) × ((List ((List Nat) × (((List Nat) × ((List Nat) × Unit)) × Unit))) × ((List (List Nat)) × ((List ((List Nat) × (Ex × Unit))) × Unit)))))) × ((List ((List Nat) × ((List Nat) × ((List Nat) × ((List Nat) × Unit))))) × Unit))))))))))) (sub_1 : (List Nat)) : Option Int :=
 (dB F (fun d : Int => yK F s_0 sub_1 d) (0 : Int)).bind (fun e => match e with | (.inl e) => some (-1 : Int) | (.inr e) => some e)
def aE3 : PlR := ⟨[(0, .B [1, 2]), (1, .A [1, 8, 9, 10]), (2, .A [1, 8, 9, 10, 11]), (3, .B [1, 5, 6, 8, 9, 10]), (4, .A [1, 5, 8, 9, 10, 18]), (5, .A [4]), (6, .A [1, 8, 9, 10]), (7, .A [4])], []⟩
def aHg : Ty := .pair (.pair (.i .i64) (.pair (.i .i64) (.pair (.i .i64) (.pair (.i .i64) (.pair .str (.pair .str (.pair .str (.pair .str (.pair (.sl (.pair .str (.pair (.sl (.pair .str (.pair (.pair .str (.pair .str .unit)) (.pair .expr .unit)))) (.pair (.sl (.pair .str (.pair (.pair .str (.pair .str .unit)) .unit))) (.pair (.sl .str) (.pair (.sl (.pair .str (.pair .expr .unit))) .unit)))))) (.pair (.sl (.pair .str (.pair .str (.pair .str (.pair .str .unit))))) .unit)))))))))) (.pair .str .unit)
noncomputable def pG (F : Md) : aF := mSpec aHg (.one (.i .i64)) (fun x => iG F x.1 x.2.1)
noncomputable def aNS (F : Md) : List (FuncId × aF) := []
theorem aNT (F : Md) : bA Tryz.prog GL (aNS F) := .nil
attribute [go_sem] aHg aE3
set_option maxHeartbeats 4000000 in
theorem aE4 (F : Md) : FOK Tryz.prog GL 62 (pG F) := by
 refine bF (aT (aNT F)) mix Tryz.func62 rfl (by kernel_rfl) (by decide) aE3 fun w0 S x Θ hw h hF => ?_
 obtain ⟨(s_0 : (Int × (Int × (Int × (Int × ((List Nat) × ((List Nat) × ((List Nat) × ((List Nat) × ((List ((List Nat) × ((List ((List Nat) × (((List Nat) × ((List Nat) × Unit)) × (Ex × Unit)))) × ((List ((List Nat) × (((List Nat) × ((List Nat) × Unit)) × Unit))) × ((List (List Nat)) × ((List ((List Nat) × (Ex × Unit))) × Unit)))))) × ((List ((List Nat) × ((List Nat) × ((List Nat) × ((List Nat) × Unit))))) × Unit))))))))))), (sub_1 : (List Nat)), u⟩ := x
 simp only [bJ, go_sem]
 replace h : sat (iG F s_0 sub_1) _ := h
 unfold iG at h
 refine aGq [] rfl rfl ?_
 simp only [go_sem]
 refine bQ hF (D := Int) [1, 8, 9] (fun d => [(10, .val (.i .i64) d)]) (fun d => []) h rfl (by simp only [go_sem]) ?_
 rintro x10_5 A2 T2 hA2 hE2 h
 simp only [go_sem]
 replace h : sat (yK F s_0 sub_1 x10_5) _ := h
 unfold yK at h
 refine eI h (fun hc h => ?_) fun hc h => ?_
 ·refine aP h fun g0 h => ?_
  refine dQ h (fun hc h => ?_) fun hc h => ?_
  ·replace h := hE2 _ (aA h)
   try dsimp only at h
   exact aE hF [.tmp 4] rfl rfl rfl (aA h) (by simp only [aM, go_sem])
  ·refine aP h fun g0 h => ?_
   replace h := hA2 _ (aA h)
   refine oE [] rfl rfl ?_
   simp only [go_sem]
   exact aQ _ h rfl (by simp only [go_sem])
 ·replace h := hE2 _ (aA h)
  try dsimp only at h
  exact aE hF [.tmp 4] rfl rfl rfl (aA h) (by simp only [aM, go_sem])
attribute [go_sem] pG
noncomputable def rC (F : Md) (o_0 : ((List Nat) × (Ex × Unit))) (a1_1 : (List ((List Nat) × ((List Nat) × ((List Nat) × ((List Nat) × Unit)))))) : Option Bool :=
 ck ((0 : Int) < (((a1_1.length) : Nat) : Int)) (some (decide (o_0.1 = (a1_1.getD (0 : Nat) ([], [], [], [], ())).2.2.2.1)))
def aA5 : PlR := ⟨[(0, .B [1, 2]), (1, .A [3])], []⟩
def aBR : Ty := .pair (.pair .str (.pair .expr .unit)) (.pair (.rp (.sl (.pair .str (.pair .str (.pair .str (.pair .str .unit)))))) .unit)
noncomputable def pP (F : Md) : aF := mSpec aBR (.one .bool) (fun x => rC F x.1 x.2.1)
noncomputable def aId (F : Md) : List (FuncId × aF) := []
theorem aIe (F : Md) : bA Tryz.prog GL (aId F) := .nil
attribute [go_sem] aBR aA5
set_option maxHeartbeats 4000000 in
theorem aHh (F : Md) : FOK Tryz.prog GL 141 (pP F) := by
 refine bF (aT (aIe F)) mix Tryz.func141 rfl (by kernel_rfl) (by decide) aA5 fun w0 S x Θ hw h hF => ?_
 obtain ⟨(o_0 : ((List Nat) × (Ex × Unit))), (a1_1 : (List ((List Nat) × ((List Nat) × ((List Nat) × ((List Nat) × Unit)))))), u⟩ := x
 simp only [bJ, go_sem]
 replace h : sat (rC F o_0 a1_1) _ := h
 unfold rC at h
 refine aP h fun g0 h => ?_
 exact aE hF [.tmp 3] rfl rfl rfl (aA h) (by simp only [aM, go_sem])
attribute [go_sem] pP
noncomputable def dG (F : Md) (s_0 : (List ((List Nat) × (Ex × Unit)))) (f_1 : ((List ((List Nat) × ((List Nat) × ((List Nat) × ((List Nat) × Unit))))) × Unit)) (x8_14 : Int) : Option ((Int) ⊕ ((Unit) ⊕ Int)) :=
 if x8_14 < (((s_0.length) : Nat) : Int) then ck (0 ≤ x8_14 ∧ x8_14 < (((s_0.length) : Nat) : Int)) ((rC F (s_0.getD (x8_14.toNat) ([], (Ex.mk 0 [] []), ())) f_1.1).bind (fun v_27 => if v_27 = true then some (.inr (.inr x8_14)) else ck (I64 (x8_14 + (1 : Int))) (some (.inl (x8_14 + (1 : Int)))))) else some (.inr (.inl ()))
noncomputable def cP (F : Md) (s_0 : (List ((List Nat) × (Ex × Unit)))) (f_1 : ((List ((List Nat) × ((List Nat) × ((List Nat) × ((List Nat) × Unit))))) × Unit)) : Option Int :=
 (dB F (fun d : Int => dG F s_0 f_1 d) (0 : Int)).bind (fun e => match e with | (.inl e) => some (-1 : Int) | (.inr e) => some e)
def fN : PlR := ⟨[(0, .A [0, 1]), (1, .A [0, 1, 7, 8]), (2, .A [0, 1, 7, 8, 9]), (3, .A [0, 1, 5, 7, 8]), (4, .A [0, 1, 5, 7, 8, 16]), (5, .A [4]), (6, .A [0, 1, 7, 8]), (7, .A [4])], []⟩
def gB : Ty := .pair (.sl (.pair .str (.pair .expr .unit))) (.pair (.clo 141 (.pair (.rp (.sl (.pair .str (.pair .str (.pair .str (.pair .str .unit)))))) .unit)) .unit)
noncomputable def cM (F : Md) : aF := mSpec gB (.one (.i .i64)) (fun x => cP F x.1 x.2.1)
noncomputable def gC (F : Md) : List (FuncId × aF) := [(141, (pP F))]
theorem mN (F : Md) : bA Tryz.prog GL (gC F) := .cons (aHh F) (by kernel_rfl) (.nil)
theorem kU (F : Md) : gam (gC F) 141 = some (pP F) := rfl
attribute [go_sem] gB fN kU
set_option maxHeartbeats 4000000 in
theorem mD (F : Md) : FOK Tryz.prog GL 204 (cM F) := by
 refine bF (aT (mN F)) mix Tryz.func204 rfl (by kernel_rfl) (by decide) fN fun w0 S x Θ hw h hF => ?_
 obtain ⟨(s_0 : (List ((List Nat) × (Ex × Unit)))), (f_1 : ((List ((List Nat) × ((List Nat) × ((List Nat) × ((List Nat) × Unit))))) × Unit)), u⟩ := x
 simp only [bJ, go_sem]
 replace h : sat (cP F s_0 f_1) _ := h
 unfold cP at h
 refine bQ hF (D := Int) [0, 1, 7] (fun d => [(8, .val (.i .i64) d)]) (fun d => []) h rfl (by simp only [go_sem]) ?_
 rintro x8_14 A2 T2 hA2 hE2 h
 simp only [go_sem]
 replace h : sat (dG F s_0 f_1 x8_14) _ := h
 unfold dG at h
 refine eI h (fun hc h => ?_) fun hc h => ?_
 ·refine aP h fun g0 h => ?_
  obtain ⟨v_27, hv, h⟩ := aI h
  try simp only [hv, go_sem]
  refine aIE h (fun hc h => ?_) fun hc h => ?_
  ·replace h := hE2 _ (aA h)
   try dsimp only at h
   exact aE hF [.tmp 4] rfl rfl rfl (aA h) (by simp only [aM, go_sem])
  ·refine aP h fun g0 h => ?_
   replace h := hA2 _ (aA h)
   exact aQ _ h rfl (by simp only [go_sem])
 ·replace h := hE2 _ (aA h)
  try dsimp only at h
  exact aE hF [.tmp 4] rfl rfl rfl (aA h) (by simp only [aM, go_sem])
attribute [go_sem] cM
noncomputable def bT (F : Md) (s_0 : (List ((List Nat) × (Ex × Unit)))) (f_1 : ((List ((List Nat) × ((List Nat) × ((List Nat) × ((List Nat) × Unit))))) × Unit)) : Option Bool :=
 (cP F s_0 f_1).bind (fun v_6 => some (decide ((0 : Int) ≤ v_6)))
def eR : PlR := ⟨[(0, .A [0, 1]), (1, .A [4])], []⟩
def fB : Ty := .pair (.sl (.pair .str (.pair .expr .unit))) (.pair (.clo 141 (.pair (.rp (.sl (.pair .str (.pair .str (.pair .str (.pair .str .unit)))))) .unit)) .unit)
noncomputable def cH (F : Md) : aF := mSpec fB (.one .bool) (fun x => bT F x.1 x.2.1)
noncomputable def fC (F : Md) : List (FuncId × aF) := [(204, (cM F))]
theorem lK (F : Md) : bA Tryz.prog GL (fC F) := .cons (mD F) (by kernel_rfl) (.nil)
theorem jR (F : Md) : gam (fC F) 204 = some (cM F) := rfl
attribute [go_sem] fB eR jR
set_option maxHeartbeats 4000000 in
theorem kV (F : Md) : FOK Tryz.prog GL 139 (cH F) := by
 refine bF (aT (lK F)) mix Tryz.func139 rfl (by kernel_rfl) (by decide) eR fun w0 S x Θ hw h hF => ?_
 obtain ⟨(s_0 : (List ((List Nat) × (Ex × Unit)))), (f_1 : ((List ((List Nat) × ((List Nat) × ((List Nat) × ((List Nat) × Unit))))) × Unit)), u⟩ := x
 simp only [bJ, go_sem]
 replace h : sat (bT F s_0 f_1) _ := h
 unfold bT at h
 obtain ⟨v_6, hv, h⟩ := aI h
 try simp only [hv, go_sem]
 exact aE hF [.tmp 4] rfl rfl rfl (aA h) (by simp only [aM, go_sem])
attribute [go_sem] cH
noncomputable def vJ (F : Md) (s_0 : (Int × (Int × (Int × (Int × ((List Nat) × ((List Nat) × ((List Nat) × ((List Nat) × ((List ((List Nat) × ((List ((List Nat) × (((List Nat) × ((List Nat) × Unit)) × (Ex × Unit)))) × ((List ((List Nat) × (((List Nat) × ((List Nat) × Unit)) × Unit))) × ((List (List Nat)) × ((List ((List Nat) × (Ex × Unit))) × Unit)))))) × ((List ((List Nat) × ((List Nat) × ((List Nat) × ((List Nat) × Unit))))) × Unit))))))))))) (x14_42 : Int) (x21_83 : Int) (l_84 : (List ((List Nat) × ((List Nat) × ((List Nat) × ((List Nat) × Unit)))))) : Option ((Int × (List ((List Nat) × ((List Nat) × ((List Nat) × ((List Nat) × Unit)))))) ⊕ ((List ((List Nat) × ((List Nat) × ((List Nat) × ((List Nat) × Unit))))) ⊕ Bool)) :=
 if x21_83 < (((s_0.2.2.2.2.2.2.2.2.1.getD (x14_42.toNat) ([], [], [], [], [], ())).2.2.2.1.length : Nat) : Int) then ck (0 ≤ x21_83 ∧ x21_83 < (((s_0.2.2.2.2.2.2.2.2.1.getD (x14_42.toNat) ([], [], [], [], [], ())).2.2.2.1.length : Nat) : Int)) (ck (¬ ((((l_84.length) : Nat) : Int) = (0 : Int)) → ((0 : Int) < (((l_84.length) : Nat) : Int))) (ck (¬ (((((l_84.length) : Nat) : Int) = (0 : Int)) ∨ (¬ ((l_84.getD (0 : Nat) ([], [], [], [], ())).1 = (s_0.2.2.2.2.2.2.2.2.1.getD (x14_42.toNat) ([], [], [], [], [], ())).1))) → ((0 : Int) < (((l_84.length) : Nat) : Int))) (if (((((l_84.length) : Nat) : Int) = (0 : Int)) ∨ (¬ ((l_84.getD (0 : Nat) ([], [], [], [], ())).1 = (s_0.2.2.2.2.2.2.2.2.1.getD (x14_42.toNat) ([], [], [], [], [], ())).1))) ∨ (¬ ((l_84.getD (0 : Nat) ([], [], [], [], ())).2.1 = ((s_0.2.2.2.2.2.2.2.2.1.getD (x14_42.toNat) ([], [], [], [], [], ())).2.2.2.1.getD (x21_83.toNat) ([] : List Nat)))) then some (.inr (.inr false)) else ck ((0 : Int) < (((l_84.length) : Nat) : Int)) ((iG F s_0 (l_84.getD (0 : Nat) ([], [], [], [], ())).2.2.1).bind (fun v_99 => ck (¬ (v_99 < (0 : Int)) → (0 ≤ v_99 ∧ v_99 < (((s_0.2.2.2.2.2.2.2.2.1.length) : Nat) : Int))) (ck (¬ (v_99 < (0 : Int)) → ((bT F (s_0.2.2.2.2.2.2.2.2.1.getD (v_99.toNat) ([], [], [], [], [], ())).2.2.2.2.1 (l_84, ())).isSome = true)) (if (v_99 < (0 : Int)) ∨ (¬ (((bT F (s_0.2.2.2.2.2.2.2.2.1.getD (v_99.toNat) ([], [], [], [], [], ())).2.2.2.2.1 (l_84, ())).getD false) = true)) then some (.inr (.inr false)) else ck ((1 : Int) ≤ (((l_84.length) : Nat) : Int)) (ck (I64 (x21_83 + (1 : Int))) (some (.inl ((x21_83 + (1 : Int)), (List.drop (1 : Nat) l_84)))))))))))) else some (.inr (.inl l_84))
noncomputable def vK (F : Md) (s_0 : (Int × (Int × (Int × (Int × ((List Nat) × ((List Nat) × ((List Nat) × ((List Nat) × ((List ((List Nat) × ((List ((List Nat) × (((List Nat) × ((List Nat) × Unit)) × (Ex × Unit)))) × ((List ((List Nat) × (((List Nat) × ((List Nat) × Unit)) × Unit))) × ((List (List Nat)) × ((List ((List Nat) × (Ex × Unit))) × Unit)))))) × ((List ((List Nat) × ((List Nat) × ((List Nat) × ((List Nat) × Unit))))) × Unit))))))))))) (x14_42 : Int) (l_43 : (List ((List Nat) × ((List Nat) × ((List Nat) × ((List Nat) × Unit)))))) : Option ((Int × (List ((List Nat) × ((List Nat) × ((List Nat) × ((List Nat) × Unit)))))) ⊕ ((List ((List Nat) × ((List Nat) × ((List Nat) × ((List Nat) × Unit))))) ⊕ Bool)) :=
 if x14_42 < (((s_0.2.2.2.2.2.2.2.2.1.length) : Nat) : Int) then ck (0 ≤ x14_42 ∧ x14_42 < (((s_0.2.2.2.2.2.2.2.2.1.length) : Nat) : Int)) ((dB F (fun d : Int × (List ((List Nat) × ((List Nat) × ((List Nat) × ((List Nat) × Unit))))) => vJ F s_0 x14_42 d.1 d.2) ((0 : Int), l_43)).bind (fun e => match e with | (.inl e) => ck (I64 (x14_42 + (1 : Int))) (some (.inl ((x14_42 + (1 : Int)), e))) | (.inr e) => some (.inr (.inr e)))) else some (.inr (.inl l_43))
noncomputable def qJ (F : Md) (s_0 : (Int × (Int × (Int × (Int × ((List Nat) × ((List Nat) × ((List Nat) × ((List Nat) × ((List ((List Nat) × ((List ((List Nat) × (((List Nat) × ((List Nat) × Unit)) × (Ex × Unit)))) × ((List ((List Nat) × (((List Nat) × ((List Nat) × Unit)) × Unit))) × ((List (List Nat)) × ((List ((List Nat) × (Ex × Unit))) × Unit)))))) × ((List ((List Nat) × ((List Nat) × ((List Nat) × ((List Nat) × Unit))))) × Unit))))))))))) : Option Bool :=
 (dB F (fun d : Int × (List ((List Nat) × ((List Nat) × ((List Nat) × ((List Nat) × Unit))))) => vK F s_0 d.1 d.2) ((0 : Int), s_0.2.2.2.2.2.2.2.2.2.1)).bind (fun e => match e with | (.inl e) => some (decide ((((e.length) : Nat) : Int) = (0 : Int))) | (.inr e) => some e)
def aC0 : PlR := ⟨[(0, .B [1]), (1, .B [1, 3]), (2, .A [1, 3, 12, 13, 14]), (3, .A [1, 3, 12, 13, 14, 15]), (4, .B [1, 3, 5, 12, 13, 14]), (5, .A [1, 3, 5, 12, 13, 14, 19, 20, 21]), (6, .A [1, 3, 5, 12, 13, 14, 19, 20, 21, 22]), (7, .A [1, 3, 5, 7, 12, 13, 14, 19, 20, 21]), (8, .A [1, 3, 5, 12, 13, 14, 19, 20, 21, 44]), (9, .A [2]), (10, .A [1, 3, 5, 8, 12, 13, 14, 19, 20, 21]), (11, .A [1, 3, 5, 12, 13, 14, 19, 20, 21, 63]), (12, .A [2]), (13, .B [1, 3, 5, 12, 13, 14, 19, 20, 21]), (14, .A [1, 3, 5, 12, 13, 14, 19, 20, 21]), (15, .A [1, 3, 12, 13, 14]), (16, .A [2])], []⟩
def aD4 : Ty := .pair (.pair (.i .i64) (.pair (.i .i64) (.pair (.i .i64) (.pair (.i .i64) (.pair .str (.pair .str (.pair .str (.pair .str (.pair (.sl (.pair .str (.pair (.sl (.pair .str (.pair (.pair .str (.pair .str .unit)) (.pair .expr .unit)))) (.pair (.sl (.pair .str (.pair (.pair .str (.pair .str .unit)) .unit))) (.pair (.sl .str) (.pair (.sl (.pair .str (.pair .expr .unit))) .unit)))))) (.pair (.sl (.pair .str (.pair .str (.pair .str (.pair .str .unit))))) .unit)))))))))) .unit
noncomputable def sV (F : Md) : aF := mSpec aD4 (.one .bool) (fun x => qJ F x.1)
noncomputable def aAC (F : Md) : List (FuncId × aF) := [(139, (cH F)), (62, (pG F))]
theorem aLL (F : Md) : bA Tryz.prog GL (aAC F) := .cons (kV F) (by kernel_rfl) (.cons (aE4 F) (by kernel_rfl) (.nil))
theorem aFP (F : Md) : gam (aAC F) 139 = some (cH F) := rfl
theorem aHi (F : Md) : gam (aAC F) 62 = some (pG F) := rfl
attribute [go_sem] aD4 aC0 aFP aHi
set_option maxHeartbeats 4000000 in
theorem aJT (F : Md) : FOK Tryz.prog GL 69 (sV F) := by
 refine bF (aT (aLL F)) mix Tryz.func69 rfl (by kernel_rfl) (by decide) aC0 fun w0 S x Θ hw h hF => ?_
 obtain ⟨(s_0 : (Int × (Int × (Int × (Int × ((List Nat) × ((List Nat) × ((List Nat) × ((List Nat) × ((List ((List Nat) × ((List ((List Nat) × (((List Nat) × ((List Nat) × Unit)) × (Ex × Unit)))) × ((List ((List Nat) × (((List Nat) × ((List Nat) × Unit)) × Unit))) × ((List (List Nat)) × ((List ((List Nat) × (Ex × Unit))) × Unit)))))) × ((List ((List Nat) × ((List Nat) × ((List Nat) × ((List Nat) × Unit))))) × Unit))))))))))), u⟩ := x
 simp only [bJ, go_sem]
 replace h : sat (qJ F s_0) _ := h
 unfold qJ at h
 refine bQ hF (D := Int × (List ((List Nat) × ((List Nat) × ((List Nat) × ((List Nat) × Unit)))))) [12, 13] (fun d => [(1, .ptr 0 []), (3, .ptr 1 []), (14, .val (.i .i64) d.1)]) (fun d => [.inr (.box 10 (.val (.pair (.i .i64) (.pair (.i .i64) (.pair (.i .i64) (.pair (.i .i64) (.pair .str (.pair .str (.pair .str (.pair .str (.pair (.sl (.pair .str (.pair (.sl (.pair .str (.pair (.pair .str (.pair .str .unit)) (.pair .expr .unit)))) (.pair (.sl (.pair .str (.pair (.pair .str (.pair .str .unit)) .unit))) (.pair (.sl .str) (.pair (.sl (.pair .str (.pair .expr .unit))) .unit)))))) (.pair (.sl (.pair .str (.pair .str (.pair .str (.pair .str .unit))))) .unit)))))))))) s_0)), .inr (.box 1 (.val (.sl (.pair .str (.pair .str (.pair .str (.pair .str .unit))))) d.2))]) h rfl (by simp only [go_sem]) ?_
 rintro ⟨x14_42, l_43⟩ A3 T3 hA3 hE3 h
 simp only [go_sem]
 replace h : sat (vK F s_0 x14_42 l_43) _ := h
 unfold vK at h
 refine eI h (fun hc h => ?_) fun hc h => ?_
 ·obtain ⟨g0, h⟩ := aH h
  repeat (refine ⟨zAA, ?_⟩)
  refine bQ hF (D := Int × (List ((List Nat) × ((List Nat) × ((List Nat) × ((List Nat) × Unit)))))) [12, 13, 14, 19, 20] (fun d => [(1, .ptr 0 []), (3, .ptr 1 []), (5, .ptr 2 []), (21, .val (.i .i64) d.1)]) (fun d => [.inr (.box 10 (.val (.pair (.i .i64) (.pair (.i .i64) (.pair (.i .i64) (.pair (.i .i64) (.pair .str (.pair .str (.pair .str (.pair .str (.pair (.sl (.pair .str (.pair (.sl (.pair .str (.pair (.pair .str (.pair .str .unit)) (.pair .expr .unit)))) (.pair (.sl (.pair .str (.pair (.pair .str (.pair .str .unit)) .unit))) (.pair (.sl .str) (.pair (.sl (.pair .str (.pair .expr .unit))) .unit)))))) (.pair (.sl (.pair .str (.pair .str (.pair .str (.pair .str .unit))))) .unit)))))))))) s_0)), .inr (.box 1 (.val (.sl (.pair .str (.pair .str (.pair .str (.pair .str .unit))))) d.2)), .inr (.box 5 (.val (.pair .str (.pair (.sl (.pair .str (.pair (.pair .str (.pair .str .unit)) (.pair .expr .unit)))) (.pair (.sl (.pair .str (.pair (.pair .str (.pair .str .unit)) .unit))) (.pair (.sl .str) (.pair (.sl (.pair .str (.pair .expr .unit))) .unit))))) (s_0.2.2.2.2.2.2.2.2.1.getD (x14_42.toNat) ([], [], [], [], [], ()))))]) h rfl (by simp only [go_sem]) ?_
  rintro ⟨x21_83, l_84⟩ A6 T6 hA6 hE6 h
  simp only [go_sem]
  replace h : sat (vJ F s_0 x14_42 x21_83 l_84) _ := h
  unfold vJ at h
  refine eI h (fun hc h => ?_) fun hc h => ?_
  ·obtain ⟨g0, h⟩ := aH h
   repeat (refine ⟨zAA, ?_⟩)
   obtain ⟨g0, h⟩ := aH h
   obtain ⟨g1, h⟩ := aH h
   repeat (refine ⟨zAD, ?_⟩)
   refine ⟨fun hc => ?_, fun hc => ?_⟩
   ·replace h := fV hc h
    replace h := hE6 _ (aA h)
    try dsimp only at h
    replace h := hE3 _ (aA h)
    try dsimp only at h
    exact aE hF [.tmp 2] rfl rfl rfl (aA h) (by simp only [aM, go_sem])
   ·replace h := fW hc h
    obtain ⟨g0, h⟩ := aH h
    repeat (refine ⟨zAA, ?_⟩)
    obtain ⟨v_99, hv, h⟩ := aI h
    try simp only [hv, go_sem]
    obtain ⟨g0, h⟩ := aH h
    obtain ⟨g1, h⟩ := aH h
    repeat (refine ⟨zAD, ?_⟩)
    refine ⟨fun hc => ?_, fun hc => ?_⟩
    ·replace h := fV zAB h
     replace h := hE6 _ (aA h)
     try dsimp only at h
     replace h := hE3 _ (aA h)
     try dsimp only at h
     exact aE hF [.tmp 2] rfl rfl rfl (aA h) (by simp only [aM, go_sem])
    ·replace h := fW zAB h
     obtain ⟨g0, h⟩ := aH h
     repeat (refine ⟨zAA, ?_⟩)
     obtain ⟨g0, h⟩ := aH h
     try simp only [I64, I32] at g0
     repeat (refine ⟨zAA, ?_⟩)
     replace h := hA6 _ (aA h)
     exact aQ _ h rfl (by simp only [go_sem])
  ·replace h := hE6 _ (aA h)
   try dsimp only at h
   obtain ⟨g0, h⟩ := aH h
   try simp only [I64, I32] at g0
   repeat (refine ⟨zAA, ?_⟩)
   replace h := hA3 _ (aA h)
   refine oE [0, 1] rfl rfl ?_
   simp only [go_sem]
   exact aQ _ h rfl (by simp only [go_sem])
 ·replace h := hE3 _ (aA h)
  try dsimp only at h
  exact aE hF [.tmp 2] rfl rfl rfl (aA h) (by simp only [aM, go_sem])
attribute [go_sem] sV
noncomputable def vL (F : Md) (s_0 : (Int × (Int × (Int × (Int × ((List Nat) × ((List Nat) × ((List Nat) × ((List Nat) × ((List ((List Nat) × ((List ((List Nat) × (((List Nat) × ((List Nat) × Unit)) × (Ex × Unit)))) × ((List ((List Nat) × (((List Nat) × ((List Nat) × Unit)) × Unit))) × ((List (List Nat)) × ((List ((List Nat) × (Ex × Unit))) × Unit)))))) × ((List ((List Nat) × ((List Nat) × ((List Nat) × ((List Nat) × Unit))))) × Unit))))))))))) (names_16 : (List (List Nat))) : Option (Bool) :=
 (pF F names_16).bind (fun v_20 => ck ((v_20 = true) → ((qJ F s_0).isSome = true)) (some (v_20 && ((qJ F s_0).getD false))))
noncomputable def aAD (F : Md) (s_0 : (Int × (Int × (Int × (Int × ((List Nat) × ((List Nat) × ((List Nat) × ((List Nat) × ((List ((List Nat) × ((List ((List Nat) × (((List Nat) × ((List Nat) × Unit)) × (Ex × Unit)))) × ((List ((List Nat) × (((List Nat) × ((List Nat) × Unit)) × Unit))) × ((List (List Nat)) × ((List ((List Nat) × (Ex × Unit))) × Unit)))))) × ((List ((List Nat) × ((List Nat) × ((List Nat) × ((List Nat) × Unit))))) × Unit))))))))))) (x24_23 : Int) (names_24 : (List (List Nat))) : Option ((Int × (List (List Nat))) ⊕ ((List (List Nat)) ⊕ Bool)) :=
 if x24_23 < (((s_0.2.2.2.2.2.2.2.2.1.length) : Nat) : Int) then ck (0 ≤ x24_23 ∧ x24_23 < (((s_0.2.2.2.2.2.2.2.2.1.length) : Nat) : Int)) ((vH F (s_0.2.2.2.2.2.2.2.2.1.getD (x24_23.toNat) ([], [], [], [], [], ()))).bind (fun v_37 => if ¬ (v_37 = true) then some (.inr (.inr false)) else ck (((names_24.length) + (1 : Nat)) * 16 ≤ 140737488355328) (ck (I64 (x24_23 + (1 : Int))) (some (.inl ((x24_23 + (1 : Int)), (names_24 ++ ([(s_0.2.2.2.2.2.2.2.2.1.getD (x24_23.toNat) ([], [], [], [], [], ())).1] : List (List Nat))))))))) else some (.inr (.inl names_24))
noncomputable def bY (F : Md) (s_0 : (Int × (Int × (Int × (Int × ((List Nat) × ((List Nat) × ((List Nat) × ((List Nat) × ((List ((List Nat) × ((List ((List Nat) × (((List Nat) × ((List Nat) × Unit)) × (Ex × Unit)))) × ((List ((List Nat) × (((List Nat) × ((List Nat) × Unit)) × Unit))) × ((List (List Nat)) × ((List ((List Nat) × (Ex × Unit))) × Unit)))))) × ((List ((List Nat) × ((List Nat) × ((List Nat) × ((List Nat) × Unit))))) × Unit))))))))))) : Option Bool :=
 (sR F s_0).bind (fun v_7 => if ((¬ (v_7 = true)) ∨ ((((s_0.2.2.2.2.2.2.2.2.1.length) : Nat) : Int) < (1 : Int))) ∨ ((4 : Int) < (((s_0.2.2.2.2.2.2.2.2.1.length) : Nat) : Int)) then some false else (dB F (fun d : Int × (List (List Nat)) => aAD F s_0 d.1 d.2) ((0 : Int), ([] : List (List Nat)))).bind (fun e => match e with | (.inl e) => vL F s_0 e | (.inr e) => some e))
def aHj : PlR := ⟨[(0, .B [1]), (1, .A [1, 20]), (2, .A [2]), (3, .A [1, 3]), (4, .A [1, 3, 22, 23, 24]), (5, .A [1, 3, 22, 23, 24, 25]), (6, .B [1, 3, 5, 22, 23, 24]), (7, .A [1, 3, 5, 22, 23, 24, 30]), (8, .A [2]), (9, .B [1, 3, 22, 23, 24]), (10, .A [1, 3, 22, 23, 24]), (11, .A [2])], [(7, 14)]⟩
def aJc : Ty := .pair (.pair (.i .i64) (.pair (.i .i64) (.pair (.i .i64) (.pair (.i .i64) (.pair .str (.pair .str (.pair .str (.pair .str (.pair (.sl (.pair .str (.pair (.sl (.pair .str (.pair (.pair .str (.pair .str .unit)) (.pair .expr .unit)))) (.pair (.sl (.pair .str (.pair (.pair .str (.pair .str .unit)) .unit))) (.pair (.sl .str) (.pair (.sl (.pair .str (.pair .expr .unit))) .unit)))))) (.pair (.sl (.pair .str (.pair .str (.pair .str (.pair .str .unit))))) .unit)))))))))) .unit
noncomputable def zT (F : Md) : aF := mSpec aJc (.one .bool) (fun x => bY F x.1)
noncomputable def xZ (F : Md) : List (FuncId × aF) := [(66, (qU F)), (67, (sU F)), (68, (nU F)), (69, (sV F))]
theorem aOX (F : Md) : bA Tryz.prog GL (xZ F) := .cons (aH6 F) (by kernel_rfl) (.cons (aJS F) (by kernel_rfl) (.cons (aDV F) (by kernel_rfl) (.cons (aJT F) (by kernel_rfl) (.nil))))
theorem aLM (F : Md) : gam (xZ F) 66 = some (qU F) := rfl
theorem aLN (F : Md) : gam (xZ F) 67 = some (sU F) := rfl
theorem aLO (F : Md) : gam (xZ F) 68 = some (nU F) := rfl
theorem aLP (F : Md) : gam (xZ F) 69 = some (sV F) := rfl
attribute [go_sem] aJc aHj aLM aLN aLO aLP
set_option maxHeartbeats 4000000 in
theorem aNU (F : Md) : FOK Tryz.prog GL 28 (zT F) := by
 refine bF (aT (aOX F)) mix Tryz.func28 rfl (by kernel_rfl) (by decide) aHj fun w0 S x Θ hw h hF => ?_
 obtain ⟨(s_0 : (Int × (Int × (Int × (Int × ((List Nat) × ((List Nat) × ((List Nat) × ((List Nat) × ((List ((List Nat) × ((List ((List Nat) × (((List Nat) × ((List Nat) × Unit)) × (Ex × Unit)))) × ((List ((List Nat) × (((List Nat) × ((List Nat) × Unit)) × Unit))) × ((List (List Nat)) × ((List ((List Nat) × (Ex × Unit))) × Unit)))))) × ((List ((List Nat) × ((List Nat) × ((List Nat) × ((List Nat) × Unit))))) × Unit))))))))))), u⟩ := x
 simp only [bJ, go_sem]
 replace h : sat (bY F s_0) _ := h
 unfold bY at h
 obtain ⟨v_7, hv, h⟩ := aI h
 try simp only [hv, go_sem]
 refine ⟨fun hc => ?_, fun hc => ?_⟩
 ·replace h := fV zAB h
  exact aE hF [.tmp 2] rfl rfl rfl (aA h) (by simp only [aM, go_sem])
 ·replace h := fW zAB h
  refine dM hF (D := (List (List Nat))) (fun d => sat (vL F s_0 d) Θ) [] (fun d => [(1, .ptr 0 []), (3, .own 1)]) (fun d => [.inr (.box 10 (.val (.pair (.i .i64) (.pair (.i .i64) (.pair (.i .i64) (.pair (.i .i64) (.pair .str (.pair .str (.pair .str (.pair .str (.pair (.sl (.pair .str (.pair (.sl (.pair .str (.pair (.pair .str (.pair .str .unit)) (.pair .expr .unit)))) (.pair (.sl (.pair .str (.pair (.pair .str (.pair .str .unit)) .unit))) (.pair (.sl .str) (.pair (.sl (.pair .str (.pair .expr .unit))) .unit)))))) (.pair (.sl (.pair .str (.pair .str (.pair .str (.pair .str .unit))))) .unit)))))))))) s_0)), .inr (.row 9 .str d)]) ?_ ?_
  ·simp only [go_sem]
   refine aCi 3 9 .str rfl ?_
   simp only [go_sem]
   refine bQ hF (D := Int × (List (List Nat))) [22, 23] (fun d => [(1, .ptr 0 []), (3, .own 1), (24, .val (.i .i64) d.1)]) (fun d => [.inr (.box 10 (.val (.pair (.i .i64) (.pair (.i .i64) (.pair (.i .i64) (.pair (.i .i64) (.pair .str (.pair .str (.pair .str (.pair .str (.pair (.sl (.pair .str (.pair (.sl (.pair .str (.pair (.pair .str (.pair .str .unit)) (.pair .expr .unit)))) (.pair (.sl (.pair .str (.pair (.pair .str (.pair .str .unit)) .unit))) (.pair (.sl .str) (.pair (.sl (.pair .str (.pair .expr .unit))) .unit)))))) (.pair (.sl (.pair .str (.pair .str (.pair .str (.pair .str .unit))))) .unit)))))))))) s_0)), .inr (.row 9 .str d.2)]) h rfl (by simp only [go_sem]) ?_
   rintro ⟨x24_23, names_24⟩ A5 T5 hA5 hE5 h
   simp only [go_sem]
   replace h : sat (aAD F s_0 x24_23 names_24) _ := h
   unfold aAD at h
   refine eI h (fun hc h => ?_) fun hc h => ?_
   ·obtain ⟨g0, h⟩ := aH h
    repeat (refine ⟨by omega, ?_⟩)
    obtain ⟨v_37, hv, h⟩ := aI h
    try simp only [hv, go_sem]
    refine aBc h (fun hc h => ?_) fun hc h => ?_
    ·replace h := hE5 _ (aA h)
     try dsimp only at h
     exact aE hF [.tmp 2] rfl rfl rfl (aA h) (by simp only [aM, go_sem])
    ·obtain ⟨g0, h⟩ := aH h
     repeat (refine ⟨by omega, ?_⟩)
     obtain ⟨g0, h⟩ := aH h
     repeat (refine ⟨by omega, ?_⟩)
     replace h := hA5 _ (aA h)
     refine oE [0, 3] rfl rfl ?_
     simp only [go_sem]
     exact aQ _ h rfl (by simp only [go_sem])
   ·replace h := hE5 _ (aA h)
    try dsimp only at h
    exact aQ (names_24) h rfl (by simp only [go_sem])
  ·rintro names_16 h
   simp only [go_sem]
   replace h : sat (vL F s_0 names_16) _ := h
   unfold vL at h
   obtain ⟨v_20, hv, h⟩ := aI h
   try simp only [hv, go_sem]
   obtain ⟨g0, h⟩ := aH h
   repeat (refine ⟨by omega, ?_⟩)
   exact aE hF [.tmp 2] rfl rfl rfl (aA h) (by simp only [aM, go_sem])
attribute [go_sem] zT
end Nu
end Go.Proofs
namespace Go.Proofs
open Go.Vc
set_option maxRecDepth 20000
namespace Nu
attribute [-go_sem] Ex.kind Ex.text Ex.l
noncomputable def mS (F : Md) (a0_0 : (List ((List Nat) × (((List Nat) × ((List Nat) × Unit)) × Unit)))) (a1_1 : (List ((List Nat) × (((List Nat) × ((List Nat) × Unit)) × Unit)))) (x13_5 : Int) : Option ((Int) ⊕ ((Unit) ⊕ Bool)) :=
 if x13_5 < (((a0_0.length) : Nat) : Int) then ck (0 ≤ x13_5 ∧ x13_5 < (((a0_0.length) : Nat) : Int)) (ck (0 ≤ x13_5 ∧ x13_5 < (((a1_1.length) : Nat) : Int)) (if ¬ ((Ty.eqb (.pair .str (.pair (.pair .str (.pair .str .unit)) .unit)) (a0_0.getD (x13_5.toNat) ([], ([], [], ()), ())) (a1_1.getD (x13_5.toNat) ([], ([], [], ()), ()))) = true) then some (.inr (.inr false)) else ck (I64 (x13_5 + (1 : Int))) (some (.inl (x13_5 + (1 : Int)))))) else some (.inr (.inl ()))
noncomputable def gE (F : Md) (a0_0 : (List ((List Nat) × (((List Nat) × ((List Nat) × Unit)) × Unit)))) (a1_1 : (List ((List Nat) × (((List Nat) × ((List Nat) × Unit)) × Unit)))) : Option Bool :=
 if ¬ ((((a0_0.length) : Nat) : Int) = (((a1_1.length) : Nat) : Int)) then some false else (dB F (fun d : Int => mS F a0_0 a1_1 d) (0 : Int)).bind (fun e => match e with | (.inl e) => some true | (.inr e) => some e)
def uA : PlR := ⟨[(0, .A [0, 1]), (1, .A [0, 1, 10]), (2, .A [4]), (3, .A [0, 1, 12, 13]), (4, .A [0, 1, 12, 13, 14]), (5, .A [0, 1, 5, 12, 13]), (6, .A [0, 1, 12, 13, 24]), (7, .A [4]), (8, .A [0, 1, 12, 13]), (9, .A [4])], []⟩
def vM : Ty := .pair (.sl (.pair .str (.pair (.pair .str (.pair .str .unit)) .unit))) (.pair (.sl (.pair .str (.pair (.pair .str (.pair .str .unit)) .unit))) .unit)
noncomputable def kF (F : Md) : aF := mSpec vM (.one .bool) (fun x => gE F x.1 x.2.1)
noncomputable def aCH (F : Md) : List (FuncId × aF) := []
theorem aCI (F : Md) : bA Tryz.prog GL (aCH F) := .nil
attribute [go_sem] vM uA
set_option maxHeartbeats 4000000 in
theorem aBS (F : Md) : FOK Tryz.prog GL 195 (kF F) := by
 refine bF (aT (aCI F)) mix Tryz.func195 rfl (by kernel_rfl) (by decide) uA fun w0 S x Θ hw h hF => ?_
 obtain ⟨(a0_0 : (List ((List Nat) × (((List Nat) × ((List Nat) × Unit)) × Unit)))), (a1_1 : (List ((List Nat) × (((List Nat) × ((List Nat) × Unit)) × Unit)))), u⟩ := x
 simp only [bJ, go_sem]
 replace h : sat (gE F a0_0 a1_1) _ := h
 unfold gE at h
 refine dQ h (fun hc h => ?_) fun hc h => ?_
 ·exact aE hF [.tmp 4] rfl rfl rfl (aA h) (by simp only [aM, go_sem])
 ·refine bQ hF (D := Int) [0, 1, 12] (fun d => [(13, .val (.i .i64) d)]) (fun d => []) h rfl (by simp only [go_sem]) ?_
  rintro x13_5 A4 T4 hA4 hE4 h
  simp only [go_sem]
  replace h : sat (mS F a0_0 a1_1 x13_5) _ := h
  unfold mS at h
  refine eI h (fun hc h => ?_) fun hc h => ?_
  ·obtain ⟨g0, h⟩ := aH h
   obtain ⟨g1, h⟩ := aH h
   repeat (refine ⟨zAA, ?_⟩)
   refine ⟨fun hc => ?_, fun hc => ?_⟩
   ·replace h := fV zAB h
    replace h := hE4 _ (aA h)
    try dsimp only at h
    exact aE hF [.tmp 4] rfl rfl rfl (aA h) (by simp only [aM, go_sem])
   ·replace h := fW zAB h
    obtain ⟨g0, h⟩ := aH h
    try simp only [I64, I32] at g0
    repeat (refine ⟨zAA, ?_⟩)
    replace h := hA4 _ (aA h)
    exact aQ _ h rfl (by simp only [go_sem])
  ·replace h := hE4 _ (aA h)
   try dsimp only at h
   exact aE hF [.tmp 4] rfl rfl rfl (aA h) (by simp only [aM, go_sem])
attribute [go_sem] kF
noncomputable def nJ (F : Md) (a0_0 : (List (List Nat))) (a1_1 : (List (List Nat))) (x13_5 : Int) : Option ((Int) ⊕ ((Unit) ⊕ Bool)) :=
 if x13_5 < (((a0_0.length) : Nat) : Int) then ck (0 ≤ x13_5 ∧ x13_5 < (((a0_0.length) : Nat) : Int)) (ck (0 ≤ x13_5 ∧ x13_5 < (((a1_1.length) : Nat) : Int)) (if ¬ ((a0_0.getD (x13_5.toNat) ([] : List Nat)) = (a1_1.getD (x13_5.toNat) ([] : List Nat))) then some (.inr (.inr false)) else ck (I64 (x13_5 + (1 : Int))) (some (.inl (x13_5 + (1 : Int)))))) else some (.inr (.inl ()))
noncomputable def iS (F : Md) (a0_0 : (List (List Nat))) (a1_1 : (List (List Nat))) : Option Bool :=
 if ¬ ((((a0_0.length) : Nat) : Int) = (((a1_1.length) : Nat) : Int)) then some false else (dB F (fun d : Int => nJ F a0_0 a1_1 d) (0 : Int)).bind (fun e => match e with | (.inl e) => some true | (.inr e) => some e)
def vN : PlR := ⟨[(0, .A [0, 1]), (1, .A [0, 1, 10]), (2, .A [4]), (3, .A [0, 1, 12, 13]), (4, .A [0, 1, 12, 13, 14]), (5, .A [0, 1, 5, 12, 13]), (6, .A [0, 1, 12, 13, 24]), (7, .A [4]), (8, .A [0, 1, 12, 13]), (9, .A [4])], []⟩
def wG : Ty := .pair (.sl .str) (.pair (.sl .str) .unit)
noncomputable def lL (F : Md) : aF := mSpec wG (.one .bool) (fun x => iS F x.1 x.2.1)
noncomputable def aDd (F : Md) : List (FuncId × aF) := []
theorem aDe (F : Md) : bA Tryz.prog GL (aDd F) := .nil
attribute [go_sem] wG vN
set_option maxHeartbeats 4000000 in
theorem aCJ (F : Md) : FOK Tryz.prog GL 196 (lL F) := by
 refine bF (aT (aDe F)) mix Tryz.func196 rfl (by kernel_rfl) (by decide) vN fun w0 S x Θ hw h hF => ?_
 obtain ⟨(a0_0 : (List (List Nat))), (a1_1 : (List (List Nat))), u⟩ := x
 simp only [bJ, go_sem]
 replace h : sat (iS F a0_0 a1_1) _ := h
 unfold iS at h
 refine dQ h (fun hc h => ?_) fun hc h => ?_
 ·exact aE hF [.tmp 4] rfl rfl rfl (aA h) (by simp only [aM, go_sem])
 ·refine bQ hF (D := Int) [0, 1, 12] (fun d => [(13, .val (.i .i64) d)]) (fun d => []) h rfl (by simp only [go_sem]) ?_
  rintro x13_5 A4 T4 hA4 hE4 h
  simp only [go_sem]
  replace h : sat (nJ F a0_0 a1_1 x13_5) _ := h
  unfold nJ at h
  refine eI h (fun hc h => ?_) fun hc h => ?_
  ·refine aP h fun g0 h => aP h fun g1 h => ?_
   refine dQ h (fun hc h => ?_) fun hc h => ?_
   ·replace h := hE4 _ (aA h)
    try dsimp only at h
    exact aE hF [.tmp 4] rfl rfl rfl (aA h) (by simp only [aM, go_sem])
   ·refine aP h fun g0 h => ?_
    replace h := hA4 _ (aA h)
    exact aQ _ h rfl (by simp only [go_sem])
  ·replace h := hE4 _ (aA h)
   try dsimp only at h
   exact aE hF [.tmp 4] rfl rfl rfl (aA h) (by simp only [aM, go_sem])
attribute [go_sem] lL
noncomputable def mE (F : Md) (a0_0 : (List ((List Nat) × ((List Nat) × ((List Nat) × ((List Nat) × Unit)))))) (a1_1 : (List ((List Nat) × ((List Nat) × ((List Nat) × ((List Nat) × Unit)))))) (x13_5 : Int) : Option ((Int) ⊕ ((Unit) ⊕ Bool)) :=
 if x13_5 < (((a0_0.length) : Nat) : Int) then ck (0 ≤ x13_5 ∧ x13_5 < (((a0_0.length) : Nat) : Int)) (ck (0 ≤ x13_5 ∧ x13_5 < (((a1_1.length) : Nat) : Int)) (if ¬ ((Ty.eqb (.pair .str (.pair .str (.pair .str (.pair .str .unit)))) (a0_0.getD (x13_5.toNat) ([], [], [], [], ())) (a1_1.getD (x13_5.toNat) ([], [], [], [], ()))) = true) then some (.inr (.inr false)) else ck (I64 (x13_5 + (1 : Int))) (some (.inl (x13_5 + (1 : Int)))))) else some (.inr (.inl ()))
noncomputable def hD (F : Md) (a0_0 : (List ((List Nat) × ((List Nat) × ((List Nat) × ((List Nat) × Unit)))))) (a1_1 : (List ((List Nat) × ((List Nat) × ((List Nat) × ((List Nat) × Unit)))))) : Option Bool :=
 if ¬ ((((a0_0.length) : Nat) : Int) = (((a1_1.length) : Nat) : Int)) then some false else (dB F (fun d : Int => mE F a0_0 a1_1 d) (0 : Int)).bind (fun e => match e with | (.inl e) => some true | (.inr e) => some e)
def sH : PlR := ⟨[(0, .A [0, 1]), (1, .A [0, 1, 10]), (2, .A [4]), (3, .A [0, 1, 12, 13]), (4, .A [0, 1, 12, 13, 14]), (5, .A [0, 1, 5, 12, 13]), (6, .A [0, 1, 12, 13, 24]), (7, .A [4]), (8, .A [0, 1, 12, 13]), (9, .A [4])], []⟩
def uB : Ty := .pair (.sl (.pair .str (.pair .str (.pair .str (.pair .str .unit))))) (.pair (.sl (.pair .str (.pair .str (.pair .str (.pair .str .unit))))) .unit)
noncomputable def jK (F : Md) : aF := mSpec uB (.one .bool) (fun x => hD F x.1 x.2.1)
noncomputable def aBT (F : Md) : List (FuncId × aF) := []
theorem aBU (F : Md) : bA Tryz.prog GL (aBT F) := .nil
attribute [go_sem] uB sH
set_option maxHeartbeats 4000000 in
theorem aBq (F : Md) : FOK Tryz.prog GL 125 (jK F) := by
 refine bF (aT (aBU F)) mix Tryz.func125 rfl (by kernel_rfl) (by decide) sH fun w0 S x Θ hw h hF => ?_
 obtain ⟨(a0_0 : (List ((List Nat) × ((List Nat) × ((List Nat) × ((List Nat) × Unit)))))), (a1_1 : (List ((List Nat) × ((List Nat) × ((List Nat) × ((List Nat) × Unit)))))), u⟩ := x
 simp only [bJ, go_sem]
 replace h : sat (hD F a0_0 a1_1) _ := h
 unfold hD at h
 refine dQ h (fun hc h => ?_) fun hc h => ?_
 ·exact aE hF [.tmp 4] rfl rfl rfl (aA h) (by simp only [aM, go_sem])
 ·refine bQ hF (D := Int) [0, 1, 12] (fun d => [(13, .val (.i .i64) d)]) (fun d => []) h rfl (by simp only [go_sem]) ?_
  rintro x13_5 A4 T4 hA4 hE4 h
  simp only [go_sem]
  replace h : sat (mE F a0_0 a1_1 x13_5) _ := h
  unfold mE at h
  refine eI h (fun hc h => ?_) fun hc h => ?_
  ·obtain ⟨g0, h⟩ := aH h
   obtain ⟨g1, h⟩ := aH h
   repeat (refine ⟨zAA, ?_⟩)
   refine ⟨fun hc => ?_, fun hc => ?_⟩
   ·replace h := fV zAB h
    replace h := hE4 _ (aA h)
    try dsimp only at h
    exact aE hF [.tmp 4] rfl rfl rfl (aA h) (by simp only [aM, go_sem])
   ·replace h := fW zAB h
    obtain ⟨g0, h⟩ := aH h
    try simp only [I64, I32] at g0
    repeat (refine ⟨zAA, ?_⟩)
    replace h := hA4 _ (aA h)
    exact aQ _ h rfl (by simp only [go_sem])
  ·replace h := hE4 _ (aA h)
   try dsimp only at h
   exact aE hF [.tmp 4] rfl rfl rfl (aA h) (by simp only [aM, go_sem])
attribute [go_sem] jK
def rD : Ty := .pair .expr (.pair .expr .unit)
attribute [go_sem] rD
noncomputable def iH (g : Ex → Ex → Option (Bool)) : aF := mSpec rD (.one .bool) (fun x => g x.1 x.2.1)
attribute [go_sem] iH
noncomputable def bX (F : Md) (g : Ex → Ex → Option (Bool)) (a0_0 : (List Ex)) (a1_1 : (List Ex)) (x17_15 : Int) : Option ((Int) ⊕ ((Unit) ⊕ Bool)) :=
 if x17_15 < (((a0_0.length) : Nat) : Int) then ck (0 ≤ x17_15 ∧ x17_15 < (((a0_0.length) : Nat) : Int)) (ck (0 ≤ x17_15 ∧ x17_15 < (((a1_1.length) : Nat) : Int)) ((g (a0_0.getD (x17_15.toNat) (Ex.mk 0 [] [])) (a1_1.getD (x17_15.toNat) (Ex.mk 0 [] []))).bind (fun v_28 => if ¬ (v_28 = true) then some (.inr (.inr false)) else ck (I64 (x17_15 + (1 : Int))) (some (.inl (x17_15 + (1 : Int))))))) else some (.inr (.inl ()))
noncomputable def aV (F : Md) (g : Ex → Ex → Option (Bool)) (a0_0 : (List Ex)) (a1_1 : (List Ex)) (eq_2 : Unit) : Option Bool :=
 if ¬ ((((a0_0.length) : Nat) : Int) = (((a1_1.length) : Nat) : Int)) then some false else (dB F (fun d : Int => bX F g a0_0 a1_1 d) (0 : Int)).bind (fun e => match e with | (.inl e) => some true | (.inr e) => some e)
def dC : PlR := ⟨[(0, .A [0, 1, 2]), (1, .A [0, 1, 2, 14]), (2, .A [6]), (3, .A [1, 2, 15, 16, 17]), (4, .A [1, 2, 15, 16, 17, 18]), (5, .B [1, 2, 7, 8, 15, 16, 17]), (6, .B [1, 2, 8, 9, 15, 16, 17]), (7, .A [1, 2, 15, 16, 17, 30]), (8, .A [6]), (9, .A [1, 2, 15, 16, 17]), (10, .A [6])], []⟩
def dD : Ty := .pair (.sl .expr) (.pair (.sl .expr) (.pair (.clo 192 .unit) .unit))
noncomputable def bK (F : Md) (g : Ex → Ex → Option (Bool)) : aF := mSpec dD (.one .bool) (fun x => aV F g x.1 x.2.1 x.2.2.1)
noncomputable def dE (F : Md) (g : Ex → Ex → Option (Bool)) : List (FuncId × aF) := [(192, (iH g))]
theorem gI (F : Md) (g : Ex → Ex → Option (Bool)) (hg : FOK Tryz.prog GL 192 (iH g)) : bA Tryz.prog GL (dE F g) := .cons hg (by kernel_rfl) (.nil)
theorem fT (F : Md) (g : Ex → Ex → Option (Bool)) : gam (dE F g) 192 = some (iH g) := rfl
attribute [go_sem] dD dC fT
set_option maxHeartbeats 4000000 in
theorem gG (F : Md) (g : Ex → Ex → Option (Bool)) (hg : FOK Tryz.prog GL 192 (iH g)) : FOK Tryz.prog GL 236 (bK F g) := by
 refine bF (aT (gI F g hg)) mix Tryz.func236 rfl (by kernel_rfl) (by decide) dC fun w0 S x Θ hw h hF => ?_
 obtain ⟨(a0_0 : (List Ex)), (a1_1 : (List Ex)), (eq_2 : Unit), u⟩ := x
 simp only [bJ, go_sem]
 replace h : sat (aV F g a0_0 a1_1 eq_2) _ := h
 unfold aV at h
 refine dQ h (fun hc h => ?_) fun hc h => ?_
 ·exact aE hF [.tmp 6] rfl rfl rfl (aA h) (by simp only [aM, go_sem])
 ·refine bQ hF (D := Int) [1, 2, 15, 16] (fun d => [(17, .val (.i .i64) d)]) (fun d => []) h rfl (by simp only [go_sem]) ?_
  rintro x17_15 A4 T4 hA4 hE4 h
  simp only [go_sem]
  replace h : sat (bX F g a0_0 a1_1 x17_15) _ := h
  unfold bX at h
  refine eI h (fun hc h => ?_) fun hc h => ?_
  ·refine aP h fun g0 h => ?_
   refine aP h fun g0 h => ?_
   obtain ⟨v_28, hv, h⟩ := aI h
   try simp only [hv, go_sem]
   refine aBc h (fun hc h => ?_) fun hc h => ?_
   ·replace h := hE4 _ (aA h)
    try dsimp only at h
    exact aE hF [.tmp 6] rfl rfl rfl (aA h) (by simp only [aM, go_sem])
   ·refine aP h fun g0 h => ?_
    replace h := hA4 _ (aA h)
    refine oE [] rfl rfl ?_
    simp only [go_sem]
    exact aQ _ h rfl (by simp only [go_sem])
  ·replace h := hE4 _ (aA h)
   try dsimp only at h
   exact aE hF [.tmp 6] rfl rfl rfl (aA h) (by simp only [aM, go_sem])
attribute [go_sem] bK
noncomputable def oK (F : Md) (g : Ex → Ex → Option (Bool)) (a_0 : Ex) (b_1 : Ex) : Option Bool :=
 ck ((((a_0.kind) = (b_1.kind)) ∧ ((a_0.text) = (b_1.text))) → ((aV F g (a_0.l) (b_1.l) ()).isSome = true)) (some (((decide ((a_0.kind) = (b_1.kind))) && (decide ((a_0.text) = (b_1.text)))) && ((aV F g (a_0.l) (b_1.l) ()).getD false)))
def aA6 : PlR := ⟨[(0, .B [2, 3]), (1, .A [4])], []⟩
noncomputable def aBV (F : Md) (g : Ex → Ex → Option (Bool)) : List (FuncId × aF) := [(236, (bK F g))]
theorem aIf (F : Md) (g : Ex → Ex → Option (Bool)) (hg : FOK Tryz.prog GL 192 (iH g)) : bA Tryz.prog GL (aBV F g) := .cons (gG F g hg) (by kernel_rfl) (.nil)
theorem aD5 (F : Md) (g : Ex → Ex → Option (Bool)) : gam (aBV F g) 236 = some (bK F g) := rfl
attribute [go_sem] aA6 aD5
set_option maxHeartbeats 4000000 in
theorem aFQ (F : Md) (g : Ex → Ex → Option (Bool)) (hg : FOK Tryz.prog GL 192 (iH g)) : FOK Tryz.prog GL 192 (mSpec rD (.one .bool) (fun x => oK F g x.1 x.2.1)) := by
 refine bF (aT (aIf F g hg)) mix Tryz.func192 rfl (by kernel_rfl) (by decide) aA6 fun w0 S x Θ hw h hF => ?_
 obtain ⟨(a_0 : Ex), (b_1 : Ex), u⟩ := x
 simp only [bJ, go_sem]
 replace h : sat (oK F g a_0 b_1) _ := h
 unfold oK at h
 refine aP h fun g0 h => ?_
 exact aE hF [.tmp 4] rfl rfl rfl (aA h) (by simp only [aM, go_sem])
noncomputable def lU (F : Md) : Nat → Ex → Ex → Option (Bool)
 | 0 => fun _ _ => none
 | n + 1 => oK F (lU F n)
noncomputable def kG (F : Md) (n : Nat) : aF := mSpec rD (.one .bool) (fun x => lU F n x.1 x.2.1)
theorem vO (F : Md) : ∀ n, FOK Tryz.prog GL 192 (kG F n)
 | 0 => fun _ _ _ _ _ _ _ hp => Bool.noConfusion (show false = true from hp)
 | n + 1 => aFQ F _ (vO F n)
attribute [go_sem] kG
end Nu
end Go.Proofs
namespace Go.Proofs
open Go.Vc
set_option maxRecDepth 20000
namespace Nu
attribute [-go_sem] Ex.kind Ex.text Ex.l
noncomputable def pQ (F : Md) (x_0 : ((List Nat) × (((List Nat) × ((List Nat) × Unit)) × (Ex × Unit)))) (y_1 : ((List Nat) × (((List Nat) × ((List Nat) × Unit)) × (Ex × Unit)))) : Option Bool :=
 ck (((x_0.1 = y_1.1) ∧ ((Ty.eqb (.pair .str (.pair .str .unit)) x_0.2.1 y_1.2.1) = true)) → ((lU F 64 x_0.2.2.1 y_1.2.2.1).isSome = true)) (some (((decide (x_0.1 = y_1.1)) && (Ty.eqb (.pair .str (.pair .str .unit)) x_0.2.1 y_1.2.1)) && ((lU F 64 x_0.2.2.1 y_1.2.2.1).getD false)))
def pR : Ty := .pair (.pair .str (.pair (.pair .str (.pair .str .unit)) (.pair .expr .unit))) (.pair (.pair .str (.pair (.pair .str (.pair .str .unit)) (.pair .expr .unit))) .unit)
attribute [go_sem] pR
noncomputable def oL (F : Md) : aF := mSpec pR (.one .bool) (fun x => pQ F x.1 x.2.1)
noncomputable def vP (F : Md) : List (FuncId × aF) := [(192, (kG F 64))]
theorem aA7 (F : Md) : bA Tryz.prog GL (vP F) := .cons (vO F 64) (by kernel_rfl) (.nil)
theorem aDf (F : Md) : gam (vP F) 192 = some (kG F 64) := rfl
attribute [go_sem] aDf
set_option maxHeartbeats 4000000 in
theorem aFR (F : Md) : FOK Tryz.prog GL 191 (oL F) := by
 refine jX (aT (aA7 F)) Tryz.func191 rfl (by kernel_rfl) (by decide) fun w0 S x r hw h => ?_
 have hF : kP (fr Tryz.prog (EM (vP F)) S w0 Tryz.f191.ntmps) := ⟨aT (aA7 F), mix⟩
 obtain ⟨(x_0 : ((List Nat) × (((List Nat) × ((List Nat) × Unit)) × (Ex × Unit)))), (y_1 : ((List Nat) × (((List Nat) × ((List Nat) × Unit)) × (Ex × Unit)))), u⟩ := x
 simp only [pR, Ty.wf, nH] at hw
 simp only [bJ, pR]
 try dsimp only at h
 replace h : pQ F x_0 y_1 = some r := h
 unfold pQ at h
 refine aB (aZ hF [2, 3] ?_)
 simp only [go_sem]
 refine aC (aB (aD hF [4] ?_))
 simp only [go_sem]
 obtain ⟨g0, h⟩ := aL h
 repeat (refine ⟨zAC, ?_⟩)
 obtain rfl := Option.some.inj h
 refine aC (cI (dK hF [.tmp 4] rfl rfl rfl ?_))
 exact zAG
attribute [go_sem] oL
noncomputable def bU (F : Md) (a0_0 : (List ((List Nat) × (((List Nat) × ((List Nat) × Unit)) × (Ex × Unit))))) (a1_1 : (List ((List Nat) × (((List Nat) × ((List Nat) × Unit)) × (Ex × Unit))))) (x17_15 : Int) : Option ((Int) ⊕ ((Unit) ⊕ Bool)) :=
 if x17_15 < (((a0_0.length) : Nat) : Int) then ck (0 ≤ x17_15 ∧ x17_15 < (((a0_0.length) : Nat) : Int)) (ck (0 ≤ x17_15 ∧ x17_15 < (((a1_1.length) : Nat) : Int)) ((pQ F (a0_0.getD (x17_15.toNat) ([], ([], [], ()), (Ex.mk 0 [] []), ())) (a1_1.getD (x17_15.toNat) ([], ([], [], ()), (Ex.mk 0 [] []), ()))).bind (fun v_28 => if ¬ (v_28 = true) then some (.inr (.inr false)) else ck (I64 (x17_15 + (1 : Int))) (some (.inl (x17_15 + (1 : Int))))))) else some (.inr (.inl ()))
noncomputable def bE (F : Md) (a0_0 : (List ((List Nat) × (((List Nat) × ((List Nat) × Unit)) × (Ex × Unit))))) (a1_1 : (List ((List Nat) × (((List Nat) × ((List Nat) × Unit)) × (Ex × Unit))))) (eq_2 : Unit) : Option Bool :=
 if ¬ ((((a0_0.length) : Nat) : Int) = (((a1_1.length) : Nat) : Int)) then some false else (dB F (fun d : Int => bU F a0_0 a1_1 d) (0 : Int)).bind (fun e => match e with | (.inl e) => some true | (.inr e) => some e)
def cX : PlR := ⟨[(0, .A [0, 1, 2]), (1, .A [0, 1, 2, 14]), (2, .A [6]), (3, .A [1, 2, 15, 16, 17]), (4, .A [1, 2, 15, 16, 17, 18]), (5, .B [1, 2, 7, 8, 15, 16, 17]), (6, .B [1, 2, 8, 9, 15, 16, 17]), (7, .A [1, 2, 15, 16, 17, 30]), (8, .A [6]), (9, .A [1, 2, 15, 16, 17]), (10, .A [6])], []⟩
def cY : Ty := .pair (.sl (.pair .str (.pair (.pair .str (.pair .str .unit)) (.pair .expr .unit)))) (.pair (.sl (.pair .str (.pair (.pair .str (.pair .str .unit)) (.pair .expr .unit)))) (.pair (.clo 191 .unit) .unit))
noncomputable def bC (F : Md) : aF := mSpec cY (.one .bool) (fun x => bE F x.1 x.2.1 x.2.2.1)
noncomputable def cZ (F : Md) : List (FuncId × aF) := [(191, (oL F))]
theorem fO (F : Md) : bA Tryz.prog GL (cZ F) := .cons (aFR F) (by kernel_rfl) (.nil)
theorem eS (F : Md) : gam (cZ F) 191 = some (oL F) := rfl
attribute [go_sem] cY cX eS
set_option maxHeartbeats 4000000 in
theorem fH (F : Md) : FOK Tryz.prog GL 190 (bC F) := by
 refine bF (aT (fO F)) mix Tryz.func190 rfl (by kernel_rfl) (by decide) cX fun w0 S x Θ hw h hF => ?_
 obtain ⟨(a0_0 : (List ((List Nat) × (((List Nat) × ((List Nat) × Unit)) × (Ex × Unit))))), (a1_1 : (List ((List Nat) × (((List Nat) × ((List Nat) × Unit)) × (Ex × Unit))))), (eq_2 : Unit), u⟩ := x
 simp only [bJ, go_sem]
 replace h : sat (bE F a0_0 a1_1 eq_2) _ := h
 unfold bE at h
 refine dQ h (fun hc h => ?_) fun hc h => ?_
 ·exact aE hF [.tmp 6] rfl rfl rfl (aA h) (by simp only [aM, go_sem])
 ·refine bQ hF (D := Int) [1, 2, 15, 16] (fun d => [(17, .val (.i .i64) d)]) (fun d => []) h rfl (by simp only [go_sem]) ?_
  rintro x17_15 A4 T4 hA4 hE4 h
  simp only [go_sem]
  replace h : sat (bU F a0_0 a1_1 x17_15) _ := h
  unfold bU at h
  refine eI h (fun hc h => ?_) fun hc h => ?_
  ·refine aP h fun g0 h => ?_
   refine aP h fun g0 h => ?_
   obtain ⟨v_28, hv, h⟩ := aI h
   try simp only [hv, go_sem]
   refine aBc h (fun hc h => ?_) fun hc h => ?_
   ·replace h := hE4 _ (aA h)
    try dsimp only at h
    exact aE hF [.tmp 6] rfl rfl rfl (aA h) (by simp only [aM, go_sem])
   ·refine aP h fun g0 h => ?_
    replace h := hA4 _ (aA h)
    refine oE [] rfl rfl ?_
    simp only [go_sem]
    exact aQ _ h rfl (by simp only [go_sem])
  ·replace h := hE4 _ (aA h)
   try dsimp only at h
   exact aE hF [.tmp 6] rfl rfl rfl (aA h) (by simp only [aM, go_sem])
attribute [go_sem] bC
noncomputable def pS (F : Md) (x_0 : ((List Nat) × (Ex × Unit))) (y_1 : ((List Nat) × (Ex × Unit))) : Option Bool :=
 ck ((x_0.1 = y_1.1) → ((lU F 64 x_0.2.1 y_1.2.1).isSome = true)) (some ((decide (x_0.1 = y_1.1)) && ((lU F 64 x_0.2.1 y_1.2.1).getD false)))
def aAE : PlR := ⟨[(0, .B [2, 3]), (1, .A [4])], []⟩
def aA8 : Ty := .pair (.pair .str (.pair .expr .unit)) (.pair (.pair .str (.pair .expr .unit)) .unit)
noncomputable def oM (F : Md) : aF := mSpec aA8 (.one .bool) (fun x => pS F x.1 x.2.1)
noncomputable def aA9 (F : Md) : List (FuncId × aF) := [(192, (kG F 64))]
theorem aHk (F : Md) : bA Tryz.prog GL (aA9 F) := .cons (vO F 64) (by kernel_rfl) (.nil)
theorem aDg (F : Md) : gam (aA9 F) 192 = some (kG F 64) := rfl
attribute [go_sem] aA8 aAE aDg
set_option maxHeartbeats 4000000 in
theorem aFS (F : Md) : FOK Tryz.prog GL 194 (oM F) := by
 refine bF (aT (aHk F)) mix Tryz.func194 rfl (by kernel_rfl) (by decide) aAE fun w0 S x Θ hw h hF => ?_
 obtain ⟨(x_0 : ((List Nat) × (Ex × Unit))), (y_1 : ((List Nat) × (Ex × Unit))), u⟩ := x
 simp only [bJ, go_sem]
 replace h : sat (pS F x_0 y_1) _ := h
 unfold pS at h
 refine aP h fun g0 h => ?_
 exact aE hF [.tmp 4] rfl rfl rfl (aA h) (by simp only [aM, go_sem])
attribute [go_sem] oM
noncomputable def cA (F : Md) (a0_0 : (List ((List Nat) × (Ex × Unit)))) (a1_1 : (List ((List Nat) × (Ex × Unit)))) (x17_15 : Int) : Option ((Int) ⊕ ((Unit) ⊕ Bool)) :=
 if x17_15 < (((a0_0.length) : Nat) : Int) then ck (0 ≤ x17_15 ∧ x17_15 < (((a0_0.length) : Nat) : Int)) (ck (0 ≤ x17_15 ∧ x17_15 < (((a1_1.length) : Nat) : Int)) ((pS F (a0_0.getD (x17_15.toNat) ([], (Ex.mk 0 [] []), ())) (a1_1.getD (x17_15.toNat) ([], (Ex.mk 0 [] []), ()))).bind (fun v_28 => if ¬ (v_28 = true) then some (.inr (.inr false)) else ck (I64 (x17_15 + (1 : Int))) (some (.inl (x17_15 + (1 : Int))))))) else some (.inr (.inl ()))
noncomputable def bO (F : Md) (a0_0 : (List ((List Nat) × (Ex × Unit)))) (a1_1 : (List ((List Nat) × (Ex × Unit)))) (eq_2 : Unit) : Option Bool :=
 if ¬ ((((a0_0.length) : Nat) : Int) = (((a1_1.length) : Nat) : Int)) then some false else (dB F (fun d : Int => cA F a0_0 a1_1 d) (0 : Int)).bind (fun e => match e with | (.inl e) => some true | (.inr e) => some e)
def dH : PlR := ⟨[(0, .A [0, 1, 2]), (1, .A [0, 1, 2, 14]), (2, .A [6]), (3, .A [1, 2, 15, 16, 17]), (4, .A [1, 2, 15, 16, 17, 18]), (5, .B [1, 2, 7, 8, 15, 16, 17]), (6, .B [1, 2, 8, 9, 15, 16, 17]), (7, .A [1, 2, 15, 16, 17, 30]), (8, .A [6]), (9, .A [1, 2, 15, 16, 17]), (10, .A [6])], []⟩
def dI : Ty := .pair (.sl (.pair .str (.pair .expr .unit))) (.pair (.sl (.pair .str (.pair .expr .unit))) (.pair (.clo 194 .unit) .unit))
noncomputable def bL (F : Md) : aF := mSpec dI (.one .bool) (fun x => bO F x.1 x.2.1 x.2.2.1)
noncomputable def dJ (F : Md) : List (FuncId × aF) := [(194, (oM F))]
theorem gX (F : Md) : bA Tryz.prog GL (dJ F) := .cons (aFS F) (by kernel_rfl) (.nil)
theorem gH (F : Md) : gam (dJ F) 194 = some (oM F) := rfl
attribute [go_sem] dI dH gH
set_option maxHeartbeats 4000000 in
theorem gR (F : Md) : FOK Tryz.prog GL 193 (bL F) := by
 refine bF (aT (gX F)) mix Tryz.func193 rfl (by kernel_rfl) (by decide) dH fun w0 S x Θ hw h hF => ?_
 obtain ⟨(a0_0 : (List ((List Nat) × (Ex × Unit)))), (a1_1 : (List ((List Nat) × (Ex × Unit)))), (eq_2 : Unit), u⟩ := x
 simp only [bJ, go_sem]
 replace h : sat (bO F a0_0 a1_1 eq_2) _ := h
 unfold bO at h
 refine dQ h (fun hc h => ?_) fun hc h => ?_
 ·exact aE hF [.tmp 6] rfl rfl rfl (aA h) (by simp only [aM, go_sem])
 ·refine bQ hF (D := Int) [1, 2, 15, 16] (fun d => [(17, .val (.i .i64) d)]) (fun d => []) h rfl (by simp only [go_sem]) ?_
  rintro x17_15 A4 T4 hA4 hE4 h
  simp only [go_sem]
  replace h : sat (cA F a0_0 a1_1 x17_15) _ := h
  unfold cA at h
  refine eI h (fun hc h => ?_) fun hc h => ?_
  ·refine aP h fun g0 h => ?_
   refine aP h fun g0 h => ?_
   obtain ⟨v_28, hv, h⟩ := aI h
   try simp only [hv, go_sem]
   refine aBc h (fun hc h => ?_) fun hc h => ?_
   ·replace h := hE4 _ (aA h)
    try dsimp only at h
    exact aE hF [.tmp 6] rfl rfl rfl (aA h) (by simp only [aM, go_sem])
   ·refine aP h fun g0 h => ?_
    replace h := hA4 _ (aA h)
    refine oE [] rfl rfl ?_
    simp only [go_sem]
    exact aQ _ h rfl (by simp only [go_sem])
  ·replace h := hE4 _ (aA h)
   try dsimp only at h
   exact aE hF [.tmp 6] rfl rfl rfl (aA h) (by simp only [aM, go_sem])
attribute [go_sem] bL
noncomputable def sW (F : Md) (a_0 : ((List Nat) × ((List ((List Nat) × (((List Nat) × ((List Nat) × Unit)) × (Ex × Unit)))) × ((List ((List Nat) × (((List Nat) × ((List Nat) × Unit)) × Unit))) × ((List (List Nat)) × ((List ((List Nat) × (Ex × Unit))) × Unit)))))) (b_1 : ((List Nat) × ((List ((List Nat) × (((List Nat) × ((List Nat) × Unit)) × (Ex × Unit)))) × ((List ((List Nat) × (((List Nat) × ((List Nat) × Unit)) × Unit))) × ((List (List Nat)) × ((List ((List Nat) × (Ex × Unit))) × Unit)))))) : Option Bool :=
 (bE F a_0.2.1 b_1.2.1 ()).bind (fun v_6 => (bO F a_0.2.2.2.2.1 b_1.2.2.2.2.1 ()).bind (fun v_10 => ck ((((v_6 = true) ∧ (v_10 = true)) ∧ (a_0.1 = b_1.1)) → ((gE F a_0.2.2.1 b_1.2.2.1).isSome = true)) (ck (((((v_6 = true) ∧ (v_10 = true)) ∧ (a_0.1 = b_1.1)) ∧ (((gE F a_0.2.2.1 b_1.2.2.1).getD false) = true)) → ((iS F a_0.2.2.2.1 b_1.2.2.2.1).isSome = true)) (some ((((v_6 && v_10) && (decide (a_0.1 = b_1.1))) && ((gE F a_0.2.2.1 b_1.2.2.1).getD false)) && ((iS F a_0.2.2.2.1 b_1.2.2.2.1).getD false))))))
def aBW : PlR := ⟨[(0, .B [2, 3]), (1, .A [2, 3, 5]), (2, .A [2, 3, 5, 6]), (3, .A [4])], []⟩
def aC1 : Ty := .pair (.pair .str (.pair (.sl (.pair .str (.pair (.pair .str (.pair .str .unit)) (.pair .expr .unit)))) (.pair (.sl (.pair .str (.pair (.pair .str (.pair .str .unit)) .unit))) (.pair (.sl .str) (.pair (.sl (.pair .str (.pair .expr .unit))) .unit))))) (.pair (.pair .str (.pair (.sl (.pair .str (.pair (.pair .str (.pair .str .unit)) (.pair .expr .unit)))) (.pair (.sl (.pair .str (.pair (.pair .str (.pair .str .unit)) .unit))) (.pair (.sl .str) (.pair (.sl (.pair .str (.pair .expr .unit))) .unit))))) .unit)
noncomputable def rE (F : Md) : aF := mSpec aC1 (.one .bool) (fun x => sW F x.1 x.2.1)
noncomputable def oY (F : Md) : List (FuncId × aF) := [(190, (bC F)), (193, (bL F)), (195, (kF F)), (196, (lL F))]
theorem aJU (F : Md) : bA Tryz.prog GL (oY F) := .cons (fH F) (by kernel_rfl) (.cons (gR F) (by kernel_rfl) (.cons (aBS F) (by kernel_rfl) (.cons (aCJ F) (by kernel_rfl) (.nil))))
theorem aEy (F : Md) : gam (oY F) 190 = some (bC F) := rfl
theorem aEz (F : Md) : gam (oY F) 193 = some (bL F) := rfl
theorem aEA (F : Md) : gam (oY F) 195 = some (kF F) := rfl
theorem aEB (F : Md) : gam (oY F) 196 = some (lL F) := rfl
attribute [go_sem] aC1 aBW aEy aEz aEA aEB
set_option maxHeartbeats 4000000 in
theorem aIg (F : Md) : FOK Tryz.prog GL 124 (rE F) := by
 refine bF (aT (aJU F)) mix Tryz.func124 rfl (by kernel_rfl) (by decide) aBW fun w0 S x Θ hw h hF => ?_
 obtain ⟨(a_0 : ((List Nat) × ((List ((List Nat) × (((List Nat) × ((List Nat) × Unit)) × (Ex × Unit)))) × ((List ((List Nat) × (((List Nat) × ((List Nat) × Unit)) × Unit))) × ((List (List Nat)) × ((List ((List Nat) × (Ex × Unit))) × Unit)))))), (b_1 : ((List Nat) × ((List ((List Nat) × (((List Nat) × ((List Nat) × Unit)) × (Ex × Unit)))) × ((List ((List Nat) × (((List Nat) × ((List Nat) × Unit)) × Unit))) × ((List (List Nat)) × ((List ((List Nat) × (Ex × Unit))) × Unit)))))), u⟩ := x
 simp only [bJ, go_sem]
 replace h : sat (sW F a_0 b_1) _ := h
 unfold sW at h
 obtain ⟨v_6, hv, h⟩ := aI h
 try simp only [hv, go_sem]
 obtain ⟨v_10, hv, h⟩ := aI h
 try simp only [hv, go_sem]
 refine aP h fun g0 h => aP h fun g1 h => ?_
 exact aE hF [.tmp 4] rfl rfl rfl (aA h) (by simp only [aM, go_sem])
attribute [go_sem] rE
noncomputable def cE (F : Md) (a0_0 : (List ((List Nat) × ((List ((List Nat) × (((List Nat) × ((List Nat) × Unit)) × (Ex × Unit)))) × ((List ((List Nat) × (((List Nat) × ((List Nat) × Unit)) × Unit))) × ((List (List Nat)) × ((List ((List Nat) × (Ex × Unit))) × Unit))))))) (a1_1 : (List ((List Nat) × ((List ((List Nat) × (((List Nat) × ((List Nat) × Unit)) × (Ex × Unit)))) × ((List ((List Nat) × (((List Nat) × ((List Nat) × Unit)) × Unit))) × ((List (List Nat)) × ((List ((List Nat) × (Ex × Unit))) × Unit))))))) (x17_15 : Int) : Option ((Int) ⊕ ((Unit) ⊕ Bool)) :=
 if x17_15 < (((a0_0.length) : Nat) : Int) then ck (0 ≤ x17_15 ∧ x17_15 < (((a0_0.length) : Nat) : Int)) (ck (0 ≤ x17_15 ∧ x17_15 < (((a1_1.length) : Nat) : Int)) ((sW F (a0_0.getD (x17_15.toNat) ([], [], [], [], [], ())) (a1_1.getD (x17_15.toNat) ([], [], [], [], [], ()))).bind (fun v_28 => if ¬ (v_28 = true) then some (.inr (.inr false)) else ck (I64 (x17_15 + (1 : Int))) (some (.inl (x17_15 + (1 : Int))))))) else some (.inr (.inl ()))
noncomputable def aS (F : Md) (a0_0 : (List ((List Nat) × ((List ((List Nat) × (((List Nat) × ((List Nat) × Unit)) × (Ex × Unit)))) × ((List ((List Nat) × (((List Nat) × ((List Nat) × Unit)) × Unit))) × ((List (List Nat)) × ((List ((List Nat) × (Ex × Unit))) × Unit))))))) (a1_1 : (List ((List Nat) × ((List ((List Nat) × (((List Nat) × ((List Nat) × Unit)) × (Ex × Unit)))) × ((List ((List Nat) × (((List Nat) × ((List Nat) × Unit)) × Unit))) × ((List (List Nat)) × ((List ((List Nat) × (Ex × Unit))) × Unit))))))) (eq_2 : Unit) : Option Bool :=
 if ¬ ((((a0_0.length) : Nat) : Int) = (((a1_1.length) : Nat) : Int)) then some false else (dB F (fun d : Int => cE F a0_0 a1_1 d) (0 : Int)).bind (fun e => match e with | (.inl e) => some true | (.inr e) => some e)
def dN : PlR := ⟨[(0, .A [0, 1, 2]), (1, .A [0, 1, 2, 14]), (2, .A [6]), (3, .A [1, 2, 15, 16, 17]), (4, .A [1, 2, 15, 16, 17, 18]), (5, .B [1, 2, 7, 8, 15, 16, 17]), (6, .B [1, 2, 8, 9, 15, 16, 17]), (7, .A [1, 2, 15, 16, 17, 30]), (8, .A [6]), (9, .A [1, 2, 15, 16, 17]), (10, .A [6])], []⟩
def dO : Ty := .pair (.sl (.pair .str (.pair (.sl (.pair .str (.pair (.pair .str (.pair .str .unit)) (.pair .expr .unit)))) (.pair (.sl (.pair .str (.pair (.pair .str (.pair .str .unit)) .unit))) (.pair (.sl .str) (.pair (.sl (.pair .str (.pair .expr .unit))) .unit)))))) (.pair (.sl (.pair .str (.pair (.sl (.pair .str (.pair (.pair .str (.pair .str .unit)) (.pair .expr .unit)))) (.pair (.sl (.pair .str (.pair (.pair .str (.pair .str .unit)) .unit))) (.pair (.sl .str) (.pair (.sl (.pair .str (.pair .expr .unit))) .unit)))))) (.pair (.clo 124 .unit) .unit))
noncomputable def bP (F : Md) : aF := mSpec dO (.one .bool) (fun x => aS F x.1 x.2.1 x.2.2.1)
noncomputable def dP (F : Md) : List (FuncId × aF) := [(124, (rE F))]
theorem hP (F : Md) : bA Tryz.prog GL (dP F) := .cons (aIg F) (by kernel_rfl) (.nil)
theorem gP (F : Md) : gam (dP F) 124 = some (rE F) := rfl
attribute [go_sem] dO dN gP
set_option maxHeartbeats 4000000 in
theorem hN (F : Md) : FOK Tryz.prog GL 123 (bP F) := by
 refine bF (aT (hP F)) mix Tryz.func123 rfl (by kernel_rfl) (by decide) dN fun w0 S x Θ hw h hF => ?_
 obtain ⟨(a0_0 : (List ((List Nat) × ((List ((List Nat) × (((List Nat) × ((List Nat) × Unit)) × (Ex × Unit)))) × ((List ((List Nat) × (((List Nat) × ((List Nat) × Unit)) × Unit))) × ((List (List Nat)) × ((List ((List Nat) × (Ex × Unit))) × Unit))))))), (a1_1 : (List ((List Nat) × ((List ((List Nat) × (((List Nat) × ((List Nat) × Unit)) × (Ex × Unit)))) × ((List ((List Nat) × (((List Nat) × ((List Nat) × Unit)) × Unit))) × ((List (List Nat)) × ((List ((List Nat) × (Ex × Unit))) × Unit))))))), (eq_2 : Unit), u⟩ := x
 simp only [bJ, go_sem]
 replace h : sat (aS F a0_0 a1_1 eq_2) _ := h
 unfold aS at h
 refine dQ h (fun hc h => ?_) fun hc h => ?_
 ·exact aE hF [.tmp 6] rfl rfl rfl (aA h) (by simp only [aM, go_sem])
 ·refine bQ hF (D := Int) [1, 2, 15, 16] (fun d => [(17, .val (.i .i64) d)]) (fun d => []) h rfl (by simp only [go_sem]) ?_
  rintro x17_15 A4 T4 hA4 hE4 h
  simp only [go_sem]
  replace h : sat (cE F a0_0 a1_1 x17_15) _ := h
  unfold cE at h
  refine eI h (fun hc h => ?_) fun hc h => ?_
  ·refine aP h fun g0 h => ?_
   refine aP h fun g0 h => ?_
   obtain ⟨v_28, hv, h⟩ := aI h
   try simp only [hv, go_sem]
   refine aBc h (fun hc h => ?_) fun hc h => ?_
   ·replace h := hE4 _ (aA h)
    try dsimp only at h
    exact aE hF [.tmp 6] rfl rfl rfl (aA h) (by simp only [aM, go_sem])
   ·refine aP h fun g0 h => ?_
    replace h := hA4 _ (aA h)
    refine oE [] rfl rfl ?_
    simp only [go_sem]
    exact aQ _ h rfl (by simp only [go_sem])
  ·replace h := hE4 _ (aA h)
   try dsimp only at h
   exact aE hF [.tmp 6] rfl rfl rfl (aA h) (by simp only [aM, go_sem])
attribute [go_sem] bP
noncomputable def fD (F : Md) (a_0 : (Int × (Int × (Int × (Int × ((List Nat) × ((List Nat) × ((List Nat) × ((List Nat) × ((List ((List Nat) × ((List ((List Nat) × (((List Nat) × ((List Nat) × Unit)) × (Ex × Unit)))) × ((List ((List Nat) × (((List Nat) × ((List Nat) × Unit)) × Unit))) × ((List (List Nat)) × ((List ((List Nat) × (Ex × Unit))) × Unit)))))) × ((List ((List Nat) × ((List Nat) × ((List Nat) × ((List Nat) × Unit))))) × Unit))))))))))) (b_1 : (Int × (Int × (Int × (Int × ((List Nat) × ((List Nat) × ((List Nat) × ((List Nat) × ((List ((List Nat) × ((List ((List Nat) × (((List Nat) × ((List Nat) × Unit)) × (Ex × Unit)))) × ((List ((List Nat) × (((List Nat) × ((List Nat) × Unit)) × Unit))) × ((List (List Nat)) × ((List ((List Nat) × (Ex × Unit))) × Unit)))))) × ((List ((List Nat) × ((List Nat) × ((List Nat) × ((List Nat) × Unit))))) × Unit))))))))))) : Option Bool :=
 ck (((((((((a_0.1 = b_1.1) ∧ (a_0.2.1 = b_1.2.1)) ∧ (a_0.2.2.1 = b_1.2.2.1)) ∧ (a_0.2.2.2.1 = b_1.2.2.2.1)) ∧ (a_0.2.2.2.2.1 = b_1.2.2.2.2.1)) ∧ (a_0.2.2.2.2.2.1 = b_1.2.2.2.2.2.1)) ∧ (a_0.2.2.2.2.2.2.1 = b_1.2.2.2.2.2.2.1)) ∧ (a_0.2.2.2.2.2.2.2.1 = b_1.2.2.2.2.2.2.2.1)) → ((aS F a_0.2.2.2.2.2.2.2.2.1 b_1.2.2.2.2.2.2.2.2.1 ()).isSome = true)) (ck ((((((((((a_0.1 = b_1.1) ∧ (a_0.2.1 = b_1.2.1)) ∧ (a_0.2.2.1 = b_1.2.2.1)) ∧ (a_0.2.2.2.1 = b_1.2.2.2.1)) ∧ (a_0.2.2.2.2.1 = b_1.2.2.2.2.1)) ∧ (a_0.2.2.2.2.2.1 = b_1.2.2.2.2.2.1)) ∧ (a_0.2.2.2.2.2.2.1 = b_1.2.2.2.2.2.2.1)) ∧ (a_0.2.2.2.2.2.2.2.1 = b_1.2.2.2.2.2.2.2.1)) ∧ (((aS F a_0.2.2.2.2.2.2.2.2.1 b_1.2.2.2.2.2.2.2.2.1 ()).getD false) = true)) → ((hD F a_0.2.2.2.2.2.2.2.2.2.1 b_1.2.2.2.2.2.2.2.2.2.1).isSome = true)) (some ((((((((((decide (a_0.1 = b_1.1)) && (decide (a_0.2.1 = b_1.2.1))) && (decide (a_0.2.2.1 = b_1.2.2.1))) && (decide (a_0.2.2.2.1 = b_1.2.2.2.1))) && (decide (a_0.2.2.2.2.1 = b_1.2.2.2.2.1))) && (decide (a_0.2.2.2.2.2.1 = b_1.2.2.2.2.2.1))) && (decide (a_0.2.2.2.2.2.2.1 = b_1.2.2.2.2.2.2.1))) && (decide (a_0.2.2.2.2.2.2.2.1 = b_1.2.2.2.2.2.2.2.1))) && ((aS F a_0.2.2.2.2.2.2.2.2.1 b_1.2.2.2.2.2.2.2.2.1 ()).getD false)) && ((hD F a_0.2.2.2.2.2.2.2.2.2.1 b_1.2.2.2.2.2.2.2.2.2.1).getD false))))
def aE5 : PlR := ⟨[(0, .B [2, 3]), (1, .A [2, 3, 5]), (2, .A [4])], []⟩
def aHl : Ty := .pair (.pair (.i .i64) (.pair (.i .i64) (.pair (.i .i64) (.pair (.i .i64) (.pair .str (.pair .str (.pair .str (.pair .str (.pair (.sl (.pair .str (.pair (.sl (.pair .str (.pair (.pair .str (.pair .str .unit)) (.pair .expr .unit)))) (.pair (.sl (.pair .str (.pair (.pair .str (.pair .str .unit)) .unit))) (.pair (.sl .str) (.pair (.sl (.pair .str (.pair .expr .unit))) .unit)))))) (.pair (.sl (.pair .str (.pair .str (.pair .str (.pair .str .unit))))) .unit)))))))))) (.pair (.pair (.i .i64) (.pair (.i .i64) (.pair (.i .i64) (.pair (.i .i64) (.pair .str (.pair .str (.pair .str (.pair .str (.pair (.sl (.pair .str (.pair (.sl (.pair .str (.pair (.pair .str (.pair .str .unit)) (.pair .expr .unit)))) (.pair (.sl (.pair .str (.pair (.pair .str (.pair .str .unit)) .unit))) (.pair (.sl .str) (.pair (.sl (.pair .str (.pair .expr .unit))) .unit)))))) (.pair (.sl (.pair .str (.pair .str (.pair .str (.pair .str .unit))))) .unit)))))))))) .unit)
noncomputable def xI (F : Md) : aF := mSpec aHl (.one .bool) (fun x => fD F x.1 x.2.1)
noncomputable def aCK (F : Md) : List (FuncId × aF) := [(123, (bP F)), (125, (jK F))]
theorem aNV (F : Md) : bA Tryz.prog GL (aCK F) := .cons (hN F) (by kernel_rfl) (.cons (aBq F) (by kernel_rfl) (.nil))
theorem aIh (F : Md) : gam (aCK F) 123 = some (bP F) := rfl
theorem aIi (F : Md) : gam (aCK F) 125 = some (jK F) := rfl
attribute [go_sem] aHl aE5 aIh aIi
set_option maxHeartbeats 4000000 in
theorem aMr (F : Md) : FOK Tryz.prog GL 61 (xI F) := by
 refine bF (aT (aNV F)) mix Tryz.func61 rfl (by kernel_rfl) (by decide) aE5 fun w0 S x Θ hw h hF => ?_
 obtain ⟨(a_0 : (Int × (Int × (Int × (Int × ((List Nat) × ((List Nat) × ((List Nat) × ((List Nat) × ((List ((List Nat) × ((List ((List Nat) × (((List Nat) × ((List Nat) × Unit)) × (Ex × Unit)))) × ((List ((List Nat) × (((List Nat) × ((List Nat) × Unit)) × Unit))) × ((List (List Nat)) × ((List ((List Nat) × (Ex × Unit))) × Unit)))))) × ((List ((List Nat) × ((List Nat) × ((List Nat) × ((List Nat) × Unit))))) × Unit))))))))))), (b_1 : (Int × (Int × (Int × (Int × ((List Nat) × ((List Nat) × ((List Nat) × ((List Nat) × ((List ((List Nat) × ((List ((List Nat) × (((List Nat) × ((List Nat) × Unit)) × (Ex × Unit)))) × ((List ((List Nat) × (((List Nat) × ((List Nat) × Unit)) × Unit))) × ((List (List Nat)) × ((List ((List Nat) × (Ex × Unit))) × Unit)))))) × ((List ((List Nat) × ((List Nat) × ((List Nat) × ((List Nat) × Unit))))) × Unit))))))))))), u⟩ := x
 simp only [bJ, go_sem]
 replace h : sat (fD F a_0 b_1) _ := h
 unfold fD at h
 refine aP h fun g0 h => aP h fun g1 h => ?_
 exact aE hF [.tmp 4] rfl rfl rfl (aA h) (by simp only [aM, go_sem])
attribute [go_sem] xI
end Nu
end Go.Proofs
namespace Go.Proofs
open Go.Vc
set_option maxRecDepth 20000
namespace Nu
attribute [-go_sem] Ex.kind Ex.text Ex.l
noncomputable def hU (F : Md) : Option (Int × (Int × (Int × (Int × ((List Nat) × ((List Nat) × ((List Nat) × ((List Nat) × ((List ((List Nat) × ((List ((List Nat) × (((List Nat) × ((List Nat) × Unit)) × (Ex × Unit)))) × ((List ((List Nat) × (((List Nat) × ((List Nat) × Unit)) × Unit))) × ((List (List Nat)) × ((List ((List Nat) × (Ex × Unit))) × Unit)))))) × ((List ((List Nat) × ((List Nat) × ((List Nat) × ((List Nat) × Unit))))) × Unit)))))))))) :=
 some ((40 : Int), (4 : Int), (0 : Int), (1 : Int), (aY ⟨#[49]⟩), (aY ⟨#[48, 46, 53]⟩), (aY ⟨#[48, 46, 49, 50, 53]⟩), (aY ⟨#[49]⟩), ([((aY ⟨#[97]⟩), ([((aY ⟨#[120]⟩), ((aY ⟨#[49]⟩), ([] : List Nat), ()), (Ex.mk (2 : Int) (aY ⟨#[120]⟩) ([] : List Ex)), ())] : List ((List Nat) × (((List Nat) × ((List Nat) × Unit)) × (Ex × Unit)))), ([] : List ((List Nat) × (((List Nat) × ((List Nat) × Unit)) × Unit))), ([] : List (List Nat)), ([((aY ⟨#[121]⟩), (Ex.mk (2 : Int) (aY ⟨#[120]⟩) ([] : List Ex)), ())] : List ((List Nat) × (Ex × Unit))), ())] : List ((List Nat) × ((List ((List Nat) × (((List Nat) × ((List Nat) × Unit)) × (Ex × Unit)))) × ((List ((List Nat) × (((List Nat) × ((List Nat) × Unit)) × Unit))) × ((List (List Nat)) × ((List ((List Nat) × (Ex × Unit))) × Unit)))))), ([] : List ((List Nat) × ((List Nat) × ((List Nat) × ((List Nat) × Unit))))), ())
def aD6 : PlR := ⟨[(0, .B [0]), (1, .B [0, 1]), (2, .B [0])], []⟩
def aE6 : Ty := .unit
noncomputable def vQ (F : Md) : aF := mSpec aE6 (.one (.pair (.i .i64) (.pair (.i .i64) (.pair (.i .i64) (.pair (.i .i64) (.pair .str (.pair .str (.pair .str (.pair .str (.pair (.sl (.pair .str (.pair (.sl (.pair .str (.pair (.pair .str (.pair .str .unit)) (.pair .expr .unit)))) (.pair (.sl (.pair .str (.pair (.pair .str (.pair .str .unit)) .unit))) (.pair (.sl .str) (.pair (.sl (.pair .str (.pair .expr .unit))) .unit)))))) (.pair (.sl (.pair .str (.pair .str (.pair .str (.pair .str .unit))))) .unit))))))))))) (fun x => hU F )
noncomputable def aMs (F : Md) : List (FuncId × aF) := []
theorem aMt (F : Md) : bA Tryz.prog GL (aMs F) := .nil
attribute [go_sem] aE6 aD6
set_option maxHeartbeats 4000000 in
theorem aLQ (F : Md) : FOK Tryz.prog GL 27 (vQ F) := by
 refine bF (aT (aMt F)) mix Tryz.func27 rfl (by kernel_rfl) (by decide) aD6 fun w0 S x Θ hw h hF => ?_
 simp only [bJ, go_sem]
 replace h : sat (hU F) _ := h
 unfold hU at h
 exact aE hF [.cell 0 54] rfl rfl rfl (aA h) (by simp only [aM, go_sem])
attribute [go_sem] vQ
noncomputable def mF (F : Md) : Option (Int × (Int × (Int × (Int × ((List Nat) × ((List Nat) × ((List Nat) × ((List Nat) × ((List ((List Nat) × ((List ((List Nat) × (((List Nat) × ((List Nat) × Unit)) × (Ex × Unit)))) × ((List ((List Nat) × (((List Nat) × ((List Nat) × Unit)) × Unit))) × ((List (List Nat)) × ((List ((List Nat) × (Ex × Unit))) × Unit)))))) × ((List ((List Nat) × ((List Nat) × ((List Nat) × ((List Nat) × Unit))))) × Unit)))))))))) :=
 some ((40 : Int), (4 : Int), (0 : Int), (1 : Int), (aY ⟨#[49]⟩), (aY ⟨#[48, 46, 53]⟩), (aY ⟨#[48, 46, 49, 50, 53]⟩), (aY ⟨#[49]⟩), ([((aY ⟨#[97]⟩), ([((aY ⟨#[120]⟩), ((aY ⟨#[49]⟩), ([] : List Nat), ()), (Ex.mk (2 : Int) (aY ⟨#[120]⟩) ([] : List Ex)), ())] : List ((List Nat) × (((List Nat) × ((List Nat) × Unit)) × (Ex × Unit)))), ([] : List ((List Nat) × (((List Nat) × ((List Nat) × Unit)) × Unit))), ([] : List (List Nat)), ([((aY ⟨#[121]⟩), (Ex.mk (2 : Int) (aY ⟨#[120]⟩) ([] : List Ex)), ())] : List ((List Nat) × (Ex × Unit))), ())] : List ((List Nat) × ((List ((List Nat) × (((List Nat) × ((List Nat) × Unit)) × (Ex × Unit)))) × ((List ((List Nat) × (((List Nat) × ((List Nat) × Unit)) × Unit))) × ((List (List Nat)) × ((List ((List Nat) × (Ex × Unit))) × Unit)))))), ([] : List ((List Nat) × ((List Nat) × ((List Nat) × ((List Nat) × Unit))))), ())
noncomputable def kW (F : Md) : pL where
 D := (Int × (Int × (Int × (Int × ((List Nat) × ((List Nat) × ((List Nat) × ((List Nat) × ((List ((List Nat) × ((List ((List Nat) × (((List Nat) × ((List Nat) × Unit)) × (Ex × Unit)))) × ((List ((List Nat) × (((List Nat) × ((List Nat) × Unit)) × Unit))) × ((List (List Nat)) × ((List ((List Nat) × (Ex × Unit))) × Unit)))))) × ((List ((List Nat) × ((List Nat) × ((List Nat) × ((List Nat) × Unit))))) × Unit))))))))))
 av := fun d => []
 hp := fun d => []
 m := 0
 pre := fun d => mF F = some d
 out := fun d => (fun r : (Int × (Int × (Int × (Int × ((List Nat) × ((List Nat) × ((List Nat) × ((List Nat) × ((List ((List Nat) × ((List ((List Nat) × (((List Nat) × ((List Nat) × Unit)) × (Ex × Unit)))) × ((List ((List Nat) × (((List Nat) × ((List Nat) × Unit)) × Unit))) × ((List (List Nat)) × ((List ((List Nat) × (Ex × Unit))) × Unit)))))) × ((List ((List Nat) × ((List Nat) × ((List Nat) × ((List Nat) × Unit))))) × Unit)))))))))) => .ret (.agg [.val (.i .i64) r.1, .val (.i .i64) r.2.1, .val (.i .i64) r.2.2.1, .val (.i .i64) r.2.2.2.1, .val .str r.2.2.2.2.1, .val .str r.2.2.2.2.2.1, .val .str r.2.2.2.2.2.2.1, .val .str r.2.2.2.2.2.2.2.1, .own 0, .own 1]) [.tre 60 (.pair .no (.pair (.sl 64 .no) (.pair (.sl 71 .no) (.pair (.sl 9 .no) (.pair (.sl 73 .no) .no))))) (.pair .str (.pair (.sl (.pair .str (.pair (.pair .str (.pair .str .unit)) (.pair .expr .unit)))) (.pair (.sl (.pair .str (.pair (.pair .str (.pair .str .unit)) .unit))) (.pair (.sl .str) (.pair (.sl (.pair .str (.pair .expr .unit))) .unit))))) r.2.2.2.2.2.2.2.2.1, .row 68 (.pair .str (.pair .str (.pair .str (.pair .str .unit)))) r.2.2.2.2.2.2.2.2.2.1]) d
noncomputable def aAF (F : Md) : List (FuncId × aF) := []
theorem aAG (F : Md) : bA Tryz.prog GL (aAF F) := .nil
set_option maxHeartbeats 4000000 in
theorem yQ (F : Md) : GOK Tryz.prog GL 27 (kW F) := by
 refine aAl (aQD (aAG F)) Tryz.func27 rfl (by kernel_rfl) (fun _ => Nat.le_of_ble_eq_true rfl) fun c0 w0 r hw1 hw2 h hn => ?_
 have hF : kP ⟨Tryz.prog, EX (aAF F), GM (kW F) c0 r, w0, Tryz.f27.ntmps, []⟩ := ⟨aQD (aAG F), mix⟩
 replace h : mF F = some r := h
 have hw1 : AV.wfL [] := hw1
 simp only [AV.wfL, AV.wfV, Ty.wf, nH] at hw1
 show Tri _ _ _ [] []
 unfold mF at h
 refine aB (aZ hF [0] ?_)
 simp only [go_sem]
 repeat (refine ⟨zAA, ?_⟩)
 refine aC (aB (aZ hF [0, 1] ?_))
 simp only [go_sem]
 repeat (refine ⟨zAA, ?_⟩)
 refine aC (aB (aZ hF [0] ?_))
 simp only [go_sem]
 repeat (refine ⟨zAA, ?_⟩)
 obtain rfl := Option.some.inj h
 refine aC (cI (aRk 0 9 68 .no (.pair .str (.pair .str (.pair .str (.pair .str .unit)))) rfl rfl rfl ?_))
 simp only [go_sem]
 refine aSJ hF [.cell 0 54] [4, 5] (.agg [.val (.i .i64) (40 : Int), .val (.i .i64) (4 : Int), .val (.i .i64) (0 : Int), .val (.i .i64) (1 : Int), .val .str (aY ⟨#[49]⟩), .val .str (aY ⟨#[48, 46, 53]⟩), .val .str (aY ⟨#[48, 46, 49, 50, 53]⟩), .val .str (aY ⟨#[49]⟩), .own 4, .own 5]) rfl rfl rfl rfl rfl rfl rfl ?_ ?_
 ·(simp only [aM, go_sem]) <;> first | trivial | rfl | (simp; done)
 ·first | rfl | (simp only [aM, go_sem]; done)
attribute [go_sem] kW
end Nu
end Go.Proofs
namespace Go.Proofs
open Go.Vc
set_option maxRecDepth 20000
namespace Nu
attribute [-go_sem] Ex.kind Ex.text Ex.l
noncomputable def zU (F : Md) : Option Bool :=
 (mF F).bind (fun r_3 => (mF F).bind (fun r_5 => ck ((0 : Nat) < (r_5.2.2.2.2.2.2.2.2.1.length)) (ck ((0 : Int) < (((r_5.2.2.2.2.2.2.2.2.1.length) : Nat) : Int)) (ck ((0 : Int) < (((r_5.2.2.2.2.2.2.2.2.1.getD (0 : Nat) ([], [], [], [], [], ())).2.1.length : Nat) : Int)) (ck ((aU F (aY ⟨#[120, 95, 49]⟩)).isSome = true) (ck ((((aU F (aY ⟨#[120, 95, 49]⟩)).getD false) = true) → ((aU F (aY ⟨#[116]⟩)).isSome = true)) (ck (((((aU F (aY ⟨#[120, 95, 49]⟩)).getD false) = true) ∧ (¬ (((aU F (aY ⟨#[116]⟩)).getD false) = true))) → ((aU F (aY ⟨#[]⟩)).isSome = true)) (ck ((((((aU F (aY ⟨#[120, 95, 49]⟩)).getD false) = true) ∧ (¬ (((aU F (aY ⟨#[116]⟩)).getD false) = true))) ∧ (¬ (((aU F (aY ⟨#[]⟩)).getD false) = true))) → ((bY F (r_3.1, r_3.2.1, r_3.2.2.1, r_3.2.2.2.1, r_3.2.2.2.2.1, r_3.2.2.2.2.2.1, r_3.2.2.2.2.2.2.1, r_3.2.2.2.2.2.2.2.1, r_3.2.2.2.2.2.2.2.2.1, r_3.2.2.2.2.2.2.2.2.2.1, ())).isSome = true)) (ck (((((((aU F (aY ⟨#[120, 95, 49]⟩)).getD false) = true) ∧ (¬ (((aU F (aY ⟨#[116]⟩)).getD false) = true))) ∧ (¬ (((aU F (aY ⟨#[]⟩)).getD false) = true))) ∧ (((bY F (r_3.1, r_3.2.1, r_3.2.2.1, r_3.2.2.2.1, r_3.2.2.2.2.1, r_3.2.2.2.2.2.1, r_3.2.2.2.2.2.2.1, r_3.2.2.2.2.2.2.2.1, r_3.2.2.2.2.2.2.2.2.1, r_3.2.2.2.2.2.2.2.2.2.1, ())).getD false) = true)) → ((bY F (r_5.1, r_5.2.1, r_5.2.2.1, r_5.2.2.2.1, r_5.2.2.2.2.1, r_5.2.2.2.2.2.1, r_5.2.2.2.2.2.2.1, r_5.2.2.2.2.2.2.2.1, (r_5.2.2.2.2.2.2.2.2.1.set (0 : Nat) ((r_5.2.2.2.2.2.2.2.2.1.getD (0 : Nat) ([], [], [], [], [], ())).1, ((r_5.2.2.2.2.2.2.2.2.1.getD (0 : Nat) ([], [], [], [], [], ())).2.1.set (0 : Nat) (((r_5.2.2.2.2.2.2.2.2.1.getD (0 : Nat) ([], [], [], [], [], ())).2.1.getD (0 : Nat) ([], ([], [], ()), (Ex.mk 0 [] []), ())).1, ((r_5.2.2.2.2.2.2.2.2.1.getD (0 : Nat) ([], [], [], [], [], ())).2.1.getD (0 : Nat) ([], ([], [], ()), (Ex.mk 0 [] []), ())).2.1, (Ex.mk ((r_5.2.2.2.2.2.2.2.2.1.getD (0 : Nat) ([], [], [], [], [], ())).2.1.getD (0 : Nat) ([], ([], [], ()), (Ex.mk 0 [] []), ())).2.2.1.kind (aY ⟨#[122]⟩) ((r_5.2.2.2.2.2.2.2.2.1.getD (0 : Nat) ([], [], [], [], [], ())).2.1.getD (0 : Nat) ([], ([], [], ()), (Ex.mk 0 [] []), ())).2.2.1.l), ())), (r_5.2.2.2.2.2.2.2.2.1.getD (0 : Nat) ([], [], [], [], [], ())).2.2.1, (r_5.2.2.2.2.2.2.2.2.1.getD (0 : Nat) ([], [], [], [], [], ())).2.2.2.1, (r_5.2.2.2.2.2.2.2.2.1.getD (0 : Nat) ([], [], [], [], [], ())).2.2.2.2.1, ())), r_5.2.2.2.2.2.2.2.2.2.1, ())).isSome = true)) (ck ((((((((aU F (aY ⟨#[120, 95, 49]⟩)).getD false) = true) ∧ (¬ (((aU F (aY ⟨#[116]⟩)).getD false) = true))) ∧ (¬ (((aU F (aY ⟨#[]⟩)).getD false) = true))) ∧ (((bY F (r_3.1, r_3.2.1, r_3.2.2.1, r_3.2.2.2.1, r_3.2.2.2.2.1, r_3.2.2.2.2.2.1, r_3.2.2.2.2.2.2.1, r_3.2.2.2.2.2.2.2.1, r_3.2.2.2.2.2.2.2.2.1, r_3.2.2.2.2.2.2.2.2.2.1, ())).getD false) = true)) ∧ (¬ (((bY F (r_5.1, r_5.2.1, r_5.2.2.1, r_5.2.2.2.1, r_5.2.2.2.2.1, r_5.2.2.2.2.2.1, r_5.2.2.2.2.2.2.1, r_5.2.2.2.2.2.2.2.1, (r_5.2.2.2.2.2.2.2.2.1.set (0 : Nat) ((r_5.2.2.2.2.2.2.2.2.1.getD (0 : Nat) ([], [], [], [], [], ())).1, ((r_5.2.2.2.2.2.2.2.2.1.getD (0 : Nat) ([], [], [], [], [], ())).2.1.set (0 : Nat) (((r_5.2.2.2.2.2.2.2.2.1.getD (0 : Nat) ([], [], [], [], [], ())).2.1.getD (0 : Nat) ([], ([], [], ()), (Ex.mk 0 [] []), ())).1, ((r_5.2.2.2.2.2.2.2.2.1.getD (0 : Nat) ([], [], [], [], [], ())).2.1.getD (0 : Nat) ([], ([], [], ()), (Ex.mk 0 [] []), ())).2.1, (Ex.mk ((r_5.2.2.2.2.2.2.2.2.1.getD (0 : Nat) ([], [], [], [], [], ())).2.1.getD (0 : Nat) ([], ([], [], ()), (Ex.mk 0 [] []), ())).2.2.1.kind (aY ⟨#[122]⟩) ((r_5.2.2.2.2.2.2.2.2.1.getD (0 : Nat) ([], [], [], [], [], ())).2.1.getD (0 : Nat) ([], ([], [], ()), (Ex.mk 0 [] []), ())).2.2.1.l), ())), (r_5.2.2.2.2.2.2.2.2.1.getD (0 : Nat) ([], [], [], [], [], ())).2.2.1, (r_5.2.2.2.2.2.2.2.2.1.getD (0 : Nat) ([], [], [], [], [], ())).2.2.2.1, (r_5.2.2.2.2.2.2.2.2.1.getD (0 : Nat) ([], [], [], [], [], ())).2.2.2.2.1, ())), r_5.2.2.2.2.2.2.2.2.2.1, ())).getD false) = true))) → ((bY F ((0 : Int), (0 : Int), (0 : Int), (0 : Int), ([] : List Nat), ([] : List Nat), ([] : List Nat), ([] : List Nat), ([] : List ((List Nat) × ((List ((List Nat) × (((List Nat) × ((List Nat) × Unit)) × (Ex × Unit)))) × ((List ((List Nat) × (((List Nat) × ((List Nat) × Unit)) × Unit))) × ((List (List Nat)) × ((List ((List Nat) × (Ex × Unit))) × Unit)))))), ([] : List ((List Nat) × ((List Nat) × ((List Nat) × ((List Nat) × Unit))))), ())).isSome = true)) (ck (((((((((aU F (aY ⟨#[120, 95, 49]⟩)).getD false) = true) ∧ (¬ (((aU F (aY ⟨#[116]⟩)).getD false) = true))) ∧ (¬ (((aU F (aY ⟨#[]⟩)).getD false) = true))) ∧ (((bY F (r_3.1, r_3.2.1, r_3.2.2.1, r_3.2.2.2.1, r_3.2.2.2.2.1, r_3.2.2.2.2.2.1, r_3.2.2.2.2.2.2.1, r_3.2.2.2.2.2.2.2.1, r_3.2.2.2.2.2.2.2.2.1, r_3.2.2.2.2.2.2.2.2.2.1, ())).getD false) = true)) ∧ (¬ (((bY F (r_5.1, r_5.2.1, r_5.2.2.1, r_5.2.2.2.1, r_5.2.2.2.2.1, r_5.2.2.2.2.2.1, r_5.2.2.2.2.2.2.1, r_5.2.2.2.2.2.2.2.1, (r_5.2.2.2.2.2.2.2.2.1.set (0 : Nat) ((r_5.2.2.2.2.2.2.2.2.1.getD (0 : Nat) ([], [], [], [], [], ())).1, ((r_5.2.2.2.2.2.2.2.2.1.getD (0 : Nat) ([], [], [], [], [], ())).2.1.set (0 : Nat) (((r_5.2.2.2.2.2.2.2.2.1.getD (0 : Nat) ([], [], [], [], [], ())).2.1.getD (0 : Nat) ([], ([], [], ()), (Ex.mk 0 [] []), ())).1, ((r_5.2.2.2.2.2.2.2.2.1.getD (0 : Nat) ([], [], [], [], [], ())).2.1.getD (0 : Nat) ([], ([], [], ()), (Ex.mk 0 [] []), ())).2.1, (Ex.mk ((r_5.2.2.2.2.2.2.2.2.1.getD (0 : Nat) ([], [], [], [], [], ())).2.1.getD (0 : Nat) ([], ([], [], ()), (Ex.mk 0 [] []), ())).2.2.1.kind (aY ⟨#[122]⟩) ((r_5.2.2.2.2.2.2.2.2.1.getD (0 : Nat) ([], [], [], [], [], ())).2.1.getD (0 : Nat) ([], ([], [], ()), (Ex.mk 0 [] []), ())).2.2.1.l), ())), (r_5.2.2.2.2.2.2.2.2.1.getD (0 : Nat) ([], [], [], [], [], ())).2.2.1, (r_5.2.2.2.2.2.2.2.2.1.getD (0 : Nat) ([], [], [], [], [], ())).2.2.2.1, (r_5.2.2.2.2.2.2.2.2.1.getD (0 : Nat) ([], [], [], [], [], ())).2.2.2.2.1, ())), r_5.2.2.2.2.2.2.2.2.2.1, ())).getD false) = true))) ∧ (¬ (((bY F ((0 : Int), (0 : Int), (0 : Int), (0 : Int), ([] : List Nat), ([] : List Nat), ([] : List Nat), ([] : List Nat), ([] : List ((List Nat) × ((List ((List Nat) × (((List Nat) × ((List Nat) × Unit)) × (Ex × Unit)))) × ((List ((List Nat) × (((List Nat) × ((List Nat) × Unit)) × Unit))) × ((List (List Nat)) × ((List ((List Nat) × (Ex × Unit))) × Unit)))))), ([] : List ((List Nat) × ((List Nat) × ((List Nat) × ((List Nat) × Unit))))), ())).getD false) = true))) → ((hU F).isSome = true)) (ck (((((((((aU F (aY ⟨#[120, 95, 49]⟩)).getD false) = true) ∧ (¬ (((aU F (aY ⟨#[116]⟩)).getD false) = true))) ∧ (¬ (((aU F (aY ⟨#[]⟩)).getD false) = true))) ∧ (((bY F (r_3.1, r_3.2.1, r_3.2.2.1, r_3.2.2.2.1, r_3.2.2.2.2.1, r_3.2.2.2.2.2.1, r_3.2.2.2.2.2.2.1, r_3.2.2.2.2.2.2.2.1, r_3.2.2.2.2.2.2.2.2.1, r_3.2.2.2.2.2.2.2.2.2.1, ())).getD false) = true)) ∧ (¬ (((bY F (r_5.1, r_5.2.1, r_5.2.2.1, r_5.2.2.2.1, r_5.2.2.2.2.1, r_5.2.2.2.2.2.1, r_5.2.2.2.2.2.2.1, r_5.2.2.2.2.2.2.2.1, (r_5.2.2.2.2.2.2.2.2.1.set (0 : Nat) ((r_5.2.2.2.2.2.2.2.2.1.getD (0 : Nat) ([], [], [], [], [], ())).1, ((r_5.2.2.2.2.2.2.2.2.1.getD (0 : Nat) ([], [], [], [], [], ())).2.1.set (0 : Nat) (((r_5.2.2.2.2.2.2.2.2.1.getD (0 : Nat) ([], [], [], [], [], ())).2.1.getD (0 : Nat) ([], ([], [], ()), (Ex.mk 0 [] []), ())).1, ((r_5.2.2.2.2.2.2.2.2.1.getD (0 : Nat) ([], [], [], [], [], ())).2.1.getD (0 : Nat) ([], ([], [], ()), (Ex.mk 0 [] []), ())).2.1, (Ex.mk ((r_5.2.2.2.2.2.2.2.2.1.getD (0 : Nat) ([], [], [], [], [], ())).2.1.getD (0 : Nat) ([], ([], [], ()), (Ex.mk 0 [] []), ())).2.2.1.kind (aY ⟨#[122]⟩) ((r_5.2.2.2.2.2.2.2.2.1.getD (0 : Nat) ([], [], [], [], [], ())).2.1.getD (0 : Nat) ([], ([], [], ()), (Ex.mk 0 [] []), ())).2.2.1.l), ())), (r_5.2.2.2.2.2.2.2.2.1.getD (0 : Nat) ([], [], [], [], [], ())).2.2.1, (r_5.2.2.2.2.2.2.2.2.1.getD (0 : Nat) ([], [], [], [], [], ())).2.2.2.1, (r_5.2.2.2.2.2.2.2.2.1.getD (0 : Nat) ([], [], [], [], [], ())).2.2.2.2.1, ())), r_5.2.2.2.2.2.2.2.2.2.1, ())).getD false) = true))) ∧ (¬ (((bY F ((0 : Int), (0 : Int), (0 : Int), (0 : Int), ([] : List Nat), ([] : List Nat), ([] : List Nat), ([] : List Nat), ([] : List ((List Nat) × ((List ((List Nat) × (((List Nat) × ((List Nat) × Unit)) × (Ex × Unit)))) × ((List ((List Nat) × (((List Nat) × ((List Nat) × Unit)) × Unit))) × ((List (List Nat)) × ((List ((List Nat) × (Ex × Unit))) × Unit)))))), ([] : List ((List Nat) × ((List Nat) × ((List Nat) × ((List Nat) × Unit))))), ())).getD false) = true))) → ((fD F (r_3.1, r_3.2.1, r_3.2.2.1, r_3.2.2.2.1, r_3.2.2.2.2.1, r_3.2.2.2.2.2.1, r_3.2.2.2.2.2.2.1, r_3.2.2.2.2.2.2.2.1, r_3.2.2.2.2.2.2.2.2.1, r_3.2.2.2.2.2.2.2.2.2.1, ()) ((hU F).getD ((0 : Int), (0 : Int), (0 : Int), (0 : Int), ([] : List Nat), ([] : List Nat), ([] : List Nat), ([] : List Nat), ([] : List ((List Nat) × ((List ((List Nat) × (((List Nat) × ((List Nat) × Unit)) × (Ex × Unit)))) × ((List ((List Nat) × (((List Nat) × ((List Nat) × Unit)) × Unit))) × ((List (List Nat)) × ((List ((List Nat) × (Ex × Unit))) × Unit)))))), ([] : List ((List Nat) × ((List Nat) × ((List Nat) × ((List Nat) × Unit))))), ()))).isSome = true)) (ck ((((((((((aU F (aY ⟨#[120, 95, 49]⟩)).getD false) = true) ∧ (¬ (((aU F (aY ⟨#[116]⟩)).getD false) = true))) ∧ (¬ (((aU F (aY ⟨#[]⟩)).getD false) = true))) ∧ (((bY F (r_3.1, r_3.2.1, r_3.2.2.1, r_3.2.2.2.1, r_3.2.2.2.2.1, r_3.2.2.2.2.2.1, r_3.2.2.2.2.2.2.1, r_3.2.2.2.2.2.2.2.1, r_3.2.2.2.2.2.2.2.2.1, r_3.2.2.2.2.2.2.2.2.2.1, ())).getD false) = true)) ∧ (¬ (((bY F (r_5.1, r_5.2.1, r_5.2.2.1, r_5.2.2.2.1, r_5.2.2.2.2.1, r_5.2.2.2.2.2.1, r_5.2.2.2.2.2.2.1, r_5.2.2.2.2.2.2.2.1, (r_5.2.2.2.2.2.2.2.2.1.set (0 : Nat) ((r_5.2.2.2.2.2.2.2.2.1.getD (0 : Nat) ([], [], [], [], [], ())).1, ((r_5.2.2.2.2.2.2.2.2.1.getD (0 : Nat) ([], [], [], [], [], ())).2.1.set (0 : Nat) (((r_5.2.2.2.2.2.2.2.2.1.getD (0 : Nat) ([], [], [], [], [], ())).2.1.getD (0 : Nat) ([], ([], [], ()), (Ex.mk 0 [] []), ())).1, ((r_5.2.2.2.2.2.2.2.2.1.getD (0 : Nat) ([], [], [], [], [], ())).2.1.getD (0 : Nat) ([], ([], [], ()), (Ex.mk 0 [] []), ())).2.1, (Ex.mk ((r_5.2.2.2.2.2.2.2.2.1.getD (0 : Nat) ([], [], [], [], [], ())).2.1.getD (0 : Nat) ([], ([], [], ()), (Ex.mk 0 [] []), ())).2.2.1.kind (aY ⟨#[122]⟩) ((r_5.2.2.2.2.2.2.2.2.1.getD (0 : Nat) ([], [], [], [], [], ())).2.1.getD (0 : Nat) ([], ([], [], ()), (Ex.mk 0 [] []), ())).2.2.1.l), ())), (r_5.2.2.2.2.2.2.2.2.1.getD (0 : Nat) ([], [], [], [], [], ())).2.2.1, (r_5.2.2.2.2.2.2.2.2.1.getD (0 : Nat) ([], [], [], [], [], ())).2.2.2.1, (r_5.2.2.2.2.2.2.2.2.1.getD (0 : Nat) ([], [], [], [], [], ())).2.2.2.2.1, ())), r_5.2.2.2.2.2.2.2.2.2.1, ())).getD false) = true))) ∧ (¬ (((bY F ((0 : Int), (0 : Int), (0 : Int), (0 : Int), ([] : List Nat), ([] : List Nat), ([] : List Nat), ([] : List Nat), ([] : List ((List Nat) × ((List ((List Nat) × (((List Nat) × ((List Nat) × Unit)) × (Ex × Unit)))) × ((List ((List Nat) × (((List Nat) × ((List Nat) × Unit)) × Unit))) × ((List (List Nat)) × ((List ((List Nat) × (Ex × Unit))) × Unit)))))), ([] : List ((List Nat) × ((List Nat) × ((List Nat) × ((List Nat) × Unit))))), ())).getD false) = true))) ∧ (((fD F (r_3.1, r_3.2.1, r_3.2.2.1, r_3.2.2.2.1, r_3.2.2.2.2.1, r_3.2.2.2.2.2.1, r_3.2.2.2.2.2.2.1, r_3.2.2.2.2.2.2.2.1, r_3.2.2.2.2.2.2.2.2.1, r_3.2.2.2.2.2.2.2.2.2.1, ()) ((hU F).getD ((0 : Int), (0 : Int), (0 : Int), (0 : Int), ([] : List Nat), ([] : List Nat), ([] : List Nat), ([] : List Nat), ([] : List ((List Nat) × ((List ((List Nat) × (((List Nat) × ((List Nat) × Unit)) × (Ex × Unit)))) × ((List ((List Nat) × (((List Nat) × ((List Nat) × Unit)) × Unit))) × ((List (List Nat)) × ((List ((List Nat) × (Ex × Unit))) × Unit)))))), ([] : List ((List Nat) × ((List Nat) × ((List Nat) × ((List Nat) × Unit))))), ()))).getD false) = true)) → ((fD F (r_3.1, r_3.2.1, r_3.2.2.1, r_3.2.2.2.1, r_3.2.2.2.2.1, r_3.2.2.2.2.2.1, r_3.2.2.2.2.2.2.1, r_3.2.2.2.2.2.2.2.1, r_3.2.2.2.2.2.2.2.2.1, r_3.2.2.2.2.2.2.2.2.2.1, ()) (r_5.1, r_5.2.1, r_5.2.2.1, r_5.2.2.2.1, r_5.2.2.2.2.1, r_5.2.2.2.2.2.1, r_5.2.2.2.2.2.2.1, r_5.2.2.2.2.2.2.2.1, (r_5.2.2.2.2.2.2.2.2.1.set (0 : Nat) ((r_5.2.2.2.2.2.2.2.2.1.getD (0 : Nat) ([], [], [], [], [], ())).1, ((r_5.2.2.2.2.2.2.2.2.1.getD (0 : Nat) ([], [], [], [], [], ())).2.1.set (0 : Nat) (((r_5.2.2.2.2.2.2.2.2.1.getD (0 : Nat) ([], [], [], [], [], ())).2.1.getD (0 : Nat) ([], ([], [], ()), (Ex.mk 0 [] []), ())).1, ((r_5.2.2.2.2.2.2.2.2.1.getD (0 : Nat) ([], [], [], [], [], ())).2.1.getD (0 : Nat) ([], ([], [], ()), (Ex.mk 0 [] []), ())).2.1, (Ex.mk ((r_5.2.2.2.2.2.2.2.2.1.getD (0 : Nat) ([], [], [], [], [], ())).2.1.getD (0 : Nat) ([], ([], [], ()), (Ex.mk 0 [] []), ())).2.2.1.kind (aY ⟨#[122]⟩) ((r_5.2.2.2.2.2.2.2.2.1.getD (0 : Nat) ([], [], [], [], [], ())).2.1.getD (0 : Nat) ([], ([], [], ()), (Ex.mk 0 [] []), ())).2.2.1.l), ())), (r_5.2.2.2.2.2.2.2.2.1.getD (0 : Nat) ([], [], [], [], [], ())).2.2.1, (r_5.2.2.2.2.2.2.2.2.1.getD (0 : Nat) ([], [], [], [], [], ())).2.2.2.1, (r_5.2.2.2.2.2.2.2.2.1.getD (0 : Nat) ([], [], [], [], [], ())).2.2.2.2.1, ())), r_5.2.2.2.2.2.2.2.2.2.1, ())).isSome = true)) (ck (((((((((((aU F (aY ⟨#[120, 95, 49]⟩)).getD false) = true) ∧ (¬ (((aU F (aY ⟨#[116]⟩)).getD false) = true))) ∧ (¬ (((aU F (aY ⟨#[]⟩)).getD false) = true))) ∧ (((bY F (r_3.1, r_3.2.1, r_3.2.2.1, r_3.2.2.2.1, r_3.2.2.2.2.1, r_3.2.2.2.2.2.1, r_3.2.2.2.2.2.2.1, r_3.2.2.2.2.2.2.2.1, r_3.2.2.2.2.2.2.2.2.1, r_3.2.2.2.2.2.2.2.2.2.1, ())).getD false) = true)) ∧ (¬ (((bY F (r_5.1, r_5.2.1, r_5.2.2.1, r_5.2.2.2.1, r_5.2.2.2.2.1, r_5.2.2.2.2.2.1, r_5.2.2.2.2.2.2.1, r_5.2.2.2.2.2.2.2.1, (r_5.2.2.2.2.2.2.2.2.1.set (0 : Nat) ((r_5.2.2.2.2.2.2.2.2.1.getD (0 : Nat) ([], [], [], [], [], ())).1, ((r_5.2.2.2.2.2.2.2.2.1.getD (0 : Nat) ([], [], [], [], [], ())).2.1.set (0 : Nat) (((r_5.2.2.2.2.2.2.2.2.1.getD (0 : Nat) ([], [], [], [], [], ())).2.1.getD (0 : Nat) ([], ([], [], ()), (Ex.mk 0 [] []), ())).1, ((r_5.2.2.2.2.2.2.2.2.1.getD (0 : Nat) ([], [], [], [], [], ())).2.1.getD (0 : Nat) ([], ([], [], ()), (Ex.mk 0 [] []), ())).2.1, (Ex.mk ((r_5.2.2.2.2.2.2.2.2.1.getD (0 : Nat) ([], [], [], [], [], ())).2.1.getD (0 : Nat) ([], ([], [], ()), (Ex.mk 0 [] []), ())).2.2.1.kind (aY ⟨#[122]⟩) ((r_5.2.2.2.2.2.2.2.2.1.getD (0 : Nat) ([], [], [], [], [], ())).2.1.getD (0 : Nat) ([], ([], [], ()), (Ex.mk 0 [] []), ())).2.2.1.l), ())), (r_5.2.2.2.2.2.2.2.2.1.getD (0 : Nat) ([], [], [], [], [], ())).2.2.1, (r_5.2.2.2.2.2.2.2.2.1.getD (0 : Nat) ([], [], [], [], [], ())).2.2.2.1, (r_5.2.2.2.2.2.2.2.2.1.getD (0 : Nat) ([], [], [], [], [], ())).2.2.2.2.1, ())), r_5.2.2.2.2.2.2.2.2.2.1, ())).getD false) = true))) ∧ (¬ (((bY F ((0 : Int), (0 : Int), (0 : Int), (0 : Int), ([] : List Nat), ([] : List Nat), ([] : List Nat), ([] : List Nat), ([] : List ((List Nat) × ((List ((List Nat) × (((List Nat) × ((List Nat) × Unit)) × (Ex × Unit)))) × ((List ((List Nat) × (((List Nat) × ((List Nat) × Unit)) × Unit))) × ((List (List Nat)) × ((List ((List Nat) × (Ex × Unit))) × Unit)))))), ([] : List ((List Nat) × ((List Nat) × ((List Nat) × ((List Nat) × Unit))))), ())).getD false) = true))) ∧ (((fD F (r_3.1, r_3.2.1, r_3.2.2.1, r_3.2.2.2.1, r_3.2.2.2.2.1, r_3.2.2.2.2.2.1, r_3.2.2.2.2.2.2.1, r_3.2.2.2.2.2.2.2.1, r_3.2.2.2.2.2.2.2.2.1, r_3.2.2.2.2.2.2.2.2.2.1, ()) ((hU F).getD ((0 : Int), (0 : Int), (0 : Int), (0 : Int), ([] : List Nat), ([] : List Nat), ([] : List Nat), ([] : List Nat), ([] : List ((List Nat) × ((List ((List Nat) × (((List Nat) × ((List Nat) × Unit)) × (Ex × Unit)))) × ((List ((List Nat) × (((List Nat) × ((List Nat) × Unit)) × Unit))) × ((List (List Nat)) × ((List ((List Nat) × (Ex × Unit))) × Unit)))))), ([] : List ((List Nat) × ((List Nat) × ((List Nat) × ((List Nat) × Unit))))), ()))).getD false) = true)) ∧ (¬ (((fD F (r_3.1, r_3.2.1, r_3.2.2.1, r_3.2.2.2.1, r_3.2.2.2.2.1, r_3.2.2.2.2.2.1, r_3.2.2.2.2.2.2.1, r_3.2.2.2.2.2.2.2.1, r_3.2.2.2.2.2.2.2.2.1, r_3.2.2.2.2.2.2.2.2.2.1, ()) (r_5.1, r_5.2.1, r_5.2.2.1, r_5.2.2.2.1, r_5.2.2.2.2.1, r_5.2.2.2.2.2.1, r_5.2.2.2.2.2.2.1, r_5.2.2.2.2.2.2.2.1, (r_5.2.2.2.2.2.2.2.2.1.set (0 : Nat) ((r_5.2.2.2.2.2.2.2.2.1.getD (0 : Nat) ([], [], [], [], [], ())).1, ((r_5.2.2.2.2.2.2.2.2.1.getD (0 : Nat) ([], [], [], [], [], ())).2.1.set (0 : Nat) (((r_5.2.2.2.2.2.2.2.2.1.getD (0 : Nat) ([], [], [], [], [], ())).2.1.getD (0 : Nat) ([], ([], [], ()), (Ex.mk 0 [] []), ())).1, ((r_5.2.2.2.2.2.2.2.2.1.getD (0 : Nat) ([], [], [], [], [], ())).2.1.getD (0 : Nat) ([], ([], [], ()), (Ex.mk 0 [] []), ())).2.1, (Ex.mk ((r_5.2.2.2.2.2.2.2.2.1.getD (0 : Nat) ([], [], [], [], [], ())).2.1.getD (0 : Nat) ([], ([], [], ()), (Ex.mk 0 [] []), ())).2.2.1.kind (aY ⟨#[122]⟩) ((r_5.2.2.2.2.2.2.2.2.1.getD (0 : Nat) ([], [], [], [], [], ())).2.1.getD (0 : Nat) ([], ([], [], ()), (Ex.mk 0 [] []), ())).2.2.1.l), ())), (r_5.2.2.2.2.2.2.2.2.1.getD (0 : Nat) ([], [], [], [], [], ())).2.2.1, (r_5.2.2.2.2.2.2.2.2.1.getD (0 : Nat) ([], [], [], [], [], ())).2.2.2.1, (r_5.2.2.2.2.2.2.2.2.1.getD (0 : Nat) ([], [], [], [], [], ())).2.2.2.2.1, ())), r_5.2.2.2.2.2.2.2.2.2.1, ())).getD false) = true))) → ((iG F (r_3.1, r_3.2.1, r_3.2.2.1, r_3.2.2.2.1, r_3.2.2.2.2.1, r_3.2.2.2.2.2.1, r_3.2.2.2.2.2.2.1, r_3.2.2.2.2.2.2.2.1, r_3.2.2.2.2.2.2.2.2.1, r_3.2.2.2.2.2.2.2.2.2.1, ()) (aY ⟨#[97]⟩)).isSome = true)) (ck ((((((((((((aU F (aY ⟨#[120, 95, 49]⟩)).getD false) = true) ∧ (¬ (((aU F (aY ⟨#[116]⟩)).getD false) = true))) ∧ (¬ (((aU F (aY ⟨#[]⟩)).getD false) = true))) ∧ (((bY F (r_3.1, r_3.2.1, r_3.2.2.1, r_3.2.2.2.1, r_3.2.2.2.2.1, r_3.2.2.2.2.2.1, r_3.2.2.2.2.2.2.1, r_3.2.2.2.2.2.2.2.1, r_3.2.2.2.2.2.2.2.2.1, r_3.2.2.2.2.2.2.2.2.2.1, ())).getD false) = true)) ∧ (¬ (((bY F (r_5.1, r_5.2.1, r_5.2.2.1, r_5.2.2.2.1, r_5.2.2.2.2.1, r_5.2.2.2.2.2.1, r_5.2.2.2.2.2.2.1, r_5.2.2.2.2.2.2.2.1, (r_5.2.2.2.2.2.2.2.2.1.set (0 : Nat) ((r_5.2.2.2.2.2.2.2.2.1.getD (0 : Nat) ([], [], [], [], [], ())).1, ((r_5.2.2.2.2.2.2.2.2.1.getD (0 : Nat) ([], [], [], [], [], ())).2.1.set (0 : Nat) (((r_5.2.2.2.2.2.2.2.2.1.getD (0 : Nat) ([], [], [], [], [], ())).2.1.getD (0 : Nat) ([], ([], [], ()), (Ex.mk 0 [] []), ())).1, ((r_5.2.2.2.2.2.2.2.2.1.getD (0 : Nat) ([], [], [], [], [], ())).2.1.getD (0 : Nat) ([], ([], [], ()), (Ex.mk 0 [] []), ())).2.1, (Ex.mk ((r_5.2.2.2.2.2.2.2.2.1.getD (0 : Nat) ([], [], [], [], [], ())).2.1.getD (0 : Nat) ([], ([], [], ()), (Ex.mk 0 [] []), ())).2.2.1.kind (aY ⟨#[122]⟩) ((r_5.2.2.2.2.2.2.2.2.1.getD (0 : Nat) ([], [], [], [], [], ())).2.1.getD (0 : Nat) ([], ([], [], ()), (Ex.mk 0 [] []), ())).2.2.1.l), ())), (r_5.2.2.2.2.2.2.2.2.1.getD (0 : Nat) ([], [], [], [], [], ())).2.2.1, (r_5.2.2.2.2.2.2.2.2.1.getD (0 : Nat) ([], [], [], [], [], ())).2.2.2.1, (r_5.2.2.2.2.2.2.2.2.1.getD (0 : Nat) ([], [], [], [], [], ())).2.2.2.2.1, ())), r_5.2.2.2.2.2.2.2.2.2.1, ())).getD false) = true))) ∧ (¬ (((bY F ((0 : Int), (0 : Int), (0 : Int), (0 : Int), ([] : List Nat), ([] : List Nat), ([] : List Nat), ([] : List Nat), ([] : List ((List Nat) × ((List ((List Nat) × (((List Nat) × ((List Nat) × Unit)) × (Ex × Unit)))) × ((List ((List Nat) × (((List Nat) × ((List Nat) × Unit)) × Unit))) × ((List (List Nat)) × ((List ((List Nat) × (Ex × Unit))) × Unit)))))), ([] : List ((List Nat) × ((List Nat) × ((List Nat) × ((List Nat) × Unit))))), ())).getD false) = true))) ∧ (((fD F (r_3.1, r_3.2.1, r_3.2.2.1, r_3.2.2.2.1, r_3.2.2.2.2.1, r_3.2.2.2.2.2.1, r_3.2.2.2.2.2.2.1, r_3.2.2.2.2.2.2.2.1, r_3.2.2.2.2.2.2.2.2.1, r_3.2.2.2.2.2.2.2.2.2.1, ()) ((hU F).getD ((0 : Int), (0 : Int), (0 : Int), (0 : Int), ([] : List Nat), ([] : List Nat), ([] : List Nat), ([] : List Nat), ([] : List ((List Nat) × ((List ((List Nat) × (((List Nat) × ((List Nat) × Unit)) × (Ex × Unit)))) × ((List ((List Nat) × (((List Nat) × ((List Nat) × Unit)) × Unit))) × ((List (List Nat)) × ((List ((List Nat) × (Ex × Unit))) × Unit)))))), ([] : List ((List Nat) × ((List Nat) × ((List Nat) × ((List Nat) × Unit))))), ()))).getD false) = true)) ∧ (¬ (((fD F (r_3.1, r_3.2.1, r_3.2.2.1, r_3.2.2.2.1, r_3.2.2.2.2.1, r_3.2.2.2.2.2.1, r_3.2.2.2.2.2.2.1, r_3.2.2.2.2.2.2.2.1, r_3.2.2.2.2.2.2.2.2.1, r_3.2.2.2.2.2.2.2.2.2.1, ()) (r_5.1, r_5.2.1, r_5.2.2.1, r_5.2.2.2.1, r_5.2.2.2.2.1, r_5.2.2.2.2.2.1, r_5.2.2.2.2.2.2.1, r_5.2.2.2.2.2.2.2.1, (r_5.2.2.2.2.2.2.2.2.1.set (0 : Nat) ((r_5.2.2.2.2.2.2.2.2.1.getD (0 : Nat) ([], [], [], [], [], ())).1, ((r_5.2.2.2.2.2.2.2.2.1.getD (0 : Nat) ([], [], [], [], [], ())).2.1.set (0 : Nat) (((r_5.2.2.2.2.2.2.2.2.1.getD (0 : Nat) ([], [], [], [], [], ())).2.1.getD (0 : Nat) ([], ([], [], ()), (Ex.mk 0 [] []), ())).1, ((r_5.2.2.2.2.2.2.2.2.1.getD (0 : Nat) ([], [], [], [], [], ())).2.1.getD (0 : Nat) ([], ([], [], ()), (Ex.mk 0 [] []), ())).2.1, (Ex.mk ((r_5.2.2.2.2.2.2.2.2.1.getD (0 : Nat) ([], [], [], [], [], ())).2.1.getD (0 : Nat) ([], ([], [], ()), (Ex.mk 0 [] []), ())).2.2.1.kind (aY ⟨#[122]⟩) ((r_5.2.2.2.2.2.2.2.2.1.getD (0 : Nat) ([], [], [], [], [], ())).2.1.getD (0 : Nat) ([], ([], [], ()), (Ex.mk 0 [] []), ())).2.2.1.l), ())), (r_5.2.2.2.2.2.2.2.2.1.getD (0 : Nat) ([], [], [], [], [], ())).2.2.1, (r_5.2.2.2.2.2.2.2.2.1.getD (0 : Nat) ([], [], [], [], [], ())).2.2.2.1, (r_5.2.2.2.2.2.2.2.2.1.getD (0 : Nat) ([], [], [], [], [], ())).2.2.2.2.1, ())), r_5.2.2.2.2.2.2.2.2.2.1, ())).getD false) = true))) ∧ (((iG F (r_3.1, r_3.2.1, r_3.2.2.1, r_3.2.2.2.1, r_3.2.2.2.2.1, r_3.2.2.2.2.2.1, r_3.2.2.2.2.2.2.1, r_3.2.2.2.2.2.2.2.1, r_3.2.2.2.2.2.2.2.2.1, r_3.2.2.2.2.2.2.2.2.2.1, ()) (aY ⟨#[97]⟩)).getD (0 : Int)) = (0 : Int))) → ((iG F (r_3.1, r_3.2.1, r_3.2.2.1, r_3.2.2.2.1, r_3.2.2.2.2.1, r_3.2.2.2.2.2.1, r_3.2.2.2.2.2.2.1, r_3.2.2.2.2.2.2.2.1, r_3.2.2.2.2.2.2.2.2.1, r_3.2.2.2.2.2.2.2.2.2.1, ()) (aY ⟨#[98]⟩)).isSome = true)) (ck (((((((((((((aU F (aY ⟨#[120, 95, 49]⟩)).getD false) = true) ∧ (¬ (((aU F (aY ⟨#[116]⟩)).getD false) = true))) ∧ (¬ (((aU F (aY ⟨#[]⟩)).getD false) = true))) ∧ (((bY F (r_3.1, r_3.2.1, r_3.2.2.1, r_3.2.2.2.1, r_3.2.2.2.2.1, r_3.2.2.2.2.2.1, r_3.2.2.2.2.2.2.1, r_3.2.2.2.2.2.2.2.1, r_3.2.2.2.2.2.2.2.2.1, r_3.2.2.2.2.2.2.2.2.2.1, ())).getD false) = true)) ∧ (¬ (((bY F (r_5.1, r_5.2.1, r_5.2.2.1, r_5.2.2.2.1, r_5.2.2.2.2.1, r_5.2.2.2.2.2.1, r_5.2.2.2.2.2.2.1, r_5.2.2.2.2.2.2.2.1, (r_5.2.2.2.2.2.2.2.2.1.set (0 : Nat) ((r_5.2.2.2.2.2.2.2.2.1.getD (0 : Nat) ([], [], [], [], [], ())).1, ((r_5.2.2.2.2.2.2.2.2.1.getD (0 : Nat) ([], [], [], [], [], ())).2.1.set (0 : Nat) (((r_5.2.2.2.2.2.2.2.2.1.getD (0 : Nat) ([], [], [], [], [], ())).2.1.getD (0 : Nat) ([], ([], [], ()), (Ex.mk 0 [] []), ())).1, ((r_5.2.2.2.2.2.2.2.2.1.getD (0 : Nat) ([], [], [], [], [], ())).2.1.getD (0 : Nat) ([], ([], [], ()), (Ex.mk 0 [] []), ())).2.1, (Ex.mk ((r_5.2.2.2.2.2.2.2.2.1.getD (0 : Nat) ([], [], [], [], [], ())).2.1.getD (0 : Nat) ([], ([], [], ()), (Ex.mk 0 [] []), ())).2.2.1.kind (aY ⟨#[122]⟩) ((r_5.2.2.2.2.2.2.2.2.1.getD (0 : Nat) ([], [], [], [], [], ())).2.1.getD (0 : Nat) ([], ([], [], ()), (Ex.mk 0 [] []), ())).2.2.1.l), ())), (r_5.2.2.2.2.2.2.2.2.1.getD (0 : Nat) ([], [], [], [], [], ())).2.2.1, (r_5.2.2.2.2.2.2.2.2.1.getD (0 : Nat) ([], [], [], [], [], ())).2.2.2.1, (r_5.2.2.2.2.2.2.2.2.1.getD (0 : Nat) ([], [], [], [], [], ())).2.2.2.2.1, ())), r_5.2.2.2.2.2.2.2.2.2.1, ())).getD false) = true))) ∧ (¬ (((bY F ((0 : Int), (0 : Int), (0 : Int), (0 : Int), ([] : List Nat), ([] : List Nat), ([] : List Nat), ([] : List Nat), ([] : List ((List Nat) × ((List ((List Nat) × (((List Nat) × ((List Nat) × Unit)) × (Ex × Unit)))) × ((List ((List Nat) × (((List Nat) × ((List Nat) × Unit)) × Unit))) × ((List (List Nat)) × ((List ((List Nat) × (Ex × Unit))) × Unit)))))), ([] : List ((List Nat) × ((List Nat) × ((List Nat) × ((List Nat) × Unit))))), ())).getD false) = true))) ∧ (((fD F (r_3.1, r_3.2.1, r_3.2.2.1, r_3.2.2.2.1, r_3.2.2.2.2.1, r_3.2.2.2.2.2.1, r_3.2.2.2.2.2.2.1, r_3.2.2.2.2.2.2.2.1, r_3.2.2.2.2.2.2.2.2.1, r_3.2.2.2.2.2.2.2.2.2.1, ()) ((hU F).getD ((0 : Int), (0 : Int), (0 : Int), (0 : Int), ([] : List Nat), ([] : List Nat), ([] : List Nat), ([] : List Nat), ([] : List ((List Nat) × ((List ((List Nat) × (((List Nat) × ((List Nat) × Unit)) × (Ex × Unit)))) × ((List ((List Nat) × (((List Nat) × ((List Nat) × Unit)) × Unit))) × ((List (List Nat)) × ((List ((List Nat) × (Ex × Unit))) × Unit)))))), ([] : List ((List Nat) × ((List Nat) × ((List Nat) × ((List Nat) × Unit))))), ()))).getD false) = true)) ∧ (¬ (((fD F (r_3.1, r_3.2.1, r_3.2.2.1, r_3.2.2.2.1, r_3.2.2.2.2.1, r_3.2.2.2.2.2.1, r_3.2.2.2.2.2.2.1, r_3.2.2.2.2.2.2.2.1, r_3.2.2.2.2.2.2.2.2.1, r_3.2.2.2.2.2.2.2.2.2.1, ()) (r_5.1, r_5.2.1, r_5.2.2.1, r_5.2.2.2.1, r_5.2.2.2.2.1, r_5.2.2.2.2.2.1, r_5.2.2.2.2.2.2.1, r_5.2.2.2.2.2.2.2.1, (r_5.2.2.2.2.2.2.2.2.1.set (0 : Nat) ((r_5.2.2.2.2.2.2.2.2.1.getD (0 : Nat) ([], [], [], [], [], ())).1, ((r_5.2.2.2.2.2.2.2.2.1.getD (0 : Nat) ([], [], [], [], [], ())).2.1.set (0 : Nat) (((r_5.2.2.2.2.2.2.2.2.1.getD (0 : Nat) ([], [], [], [], [], ())).2.1.getD (0 : Nat) ([], ([], [], ()), (Ex.mk 0 [] []), ())).1, ((r_5.2.2.2.2.2.2.2.2.1.getD (0 : Nat) ([], [], [], [], [], ())).2.1.getD (0 : Nat) ([], ([], [], ()), (Ex.mk 0 [] []), ())).2.1, (Ex.mk ((r_5.2.2.2.2.2.2.2.2.1.getD (0 : Nat) ([], [], [], [], [], ())).2.1.getD (0 : Nat) ([], ([], [], ()), (Ex.mk 0 [] []), ())).2.2.1.kind (aY ⟨#[122]⟩) ((r_5.2.2.2.2.2.2.2.2.1.getD (0 : Nat) ([], [], [], [], [], ())).2.1.getD (0 : Nat) ([], ([], [], ()), (Ex.mk 0 [] []), ())).2.2.1.l), ())), (r_5.2.2.2.2.2.2.2.2.1.getD (0 : Nat) ([], [], [], [], [], ())).2.2.1, (r_5.2.2.2.2.2.2.2.2.1.getD (0 : Nat) ([], [], [], [], [], ())).2.2.2.1, (r_5.2.2.2.2.2.2.2.2.1.getD (0 : Nat) ([], [], [], [], [], ())).2.2.2.2.1, ())), r_5.2.2.2.2.2.2.2.2.2.1, ())).getD false) = true))) ∧ (((iG F (r_3.1, r_3.2.1, r_3.2.2.1, r_3.2.2.2.1, r_3.2.2.2.2.1, r_3.2.2.2.2.2.1, r_3.2.2.2.2.2.2.1, r_3.2.2.2.2.2.2.2.1, r_3.2.2.2.2.2.2.2.2.1, r_3.2.2.2.2.2.2.2.2.2.1, ()) (aY ⟨#[97]⟩)).getD (0 : Int)) = (0 : Int))) ∧ (((iG F (r_3.1, r_3.2.1, r_3.2.2.1, r_3.2.2.2.1, r_3.2.2.2.2.1, r_3.2.2.2.2.2.1, r_3.2.2.2.2.2.2.1, r_3.2.2.2.2.2.2.2.1, r_3.2.2.2.2.2.2.2.2.1, r_3.2.2.2.2.2.2.2.2.2.1, ()) (aY ⟨#[98]⟩)).getD (0 : Int)) = (-1 : Int))) → ((eC F (Ex.mk (2 : Int) (aY ⟨#[120]⟩) ([] : List Ex)) ([(aY ⟨#[120]⟩)] : List (List Nat))).isSome = true)) (some ((((((((((((aU F (aY ⟨#[120, 95, 49]⟩)).getD false) && (!((aU F (aY ⟨#[116]⟩)).getD false))) && (!((aU F (aY ⟨#[]⟩)).getD false))) && ((bY F (r_3.1, r_3.2.1, r_3.2.2.1, r_3.2.2.2.1, r_3.2.2.2.2.1, r_3.2.2.2.2.2.1, r_3.2.2.2.2.2.2.1, r_3.2.2.2.2.2.2.2.1, r_3.2.2.2.2.2.2.2.2.1, r_3.2.2.2.2.2.2.2.2.2.1, ())).getD false)) && (!((bY F (r_5.1, r_5.2.1, r_5.2.2.1, r_5.2.2.2.1, r_5.2.2.2.2.1, r_5.2.2.2.2.2.1, r_5.2.2.2.2.2.2.1, r_5.2.2.2.2.2.2.2.1, (r_5.2.2.2.2.2.2.2.2.1.set (0 : Nat) ((r_5.2.2.2.2.2.2.2.2.1.getD (0 : Nat) ([], [], [], [], [], ())).1, ((r_5.2.2.2.2.2.2.2.2.1.getD (0 : Nat) ([], [], [], [], [], ())).2.1.set (0 : Nat) (((r_5.2.2.2.2.2.2.2.2.1.getD (0 : Nat) ([], [], [], [], [], ())).2.1.getD (0 : Nat) ([], ([], [], ()), (Ex.mk 0 [] []), ())).1, ((r_5.2.2.2.2.2.2.2.2.1.getD (0 : Nat) ([], [], [], [], [], ())).2.1.getD (0 : Nat) ([], ([], [], ()), (Ex.mk 0 [] []), ())).2.1, (Ex.mk ((r_5.2.2.2.2.2.2.2.2.1.getD (0 : Nat) ([], [], [], [], [], ())).2.1.getD (0 : Nat) ([], ([], [], ()), (Ex.mk 0 [] []), ())).2.2.1.kind (aY ⟨#[122]⟩) ((r_5.2.2.2.2.2.2.2.2.1.getD (0 : Nat) ([], [], [], [], [], ())).2.1.getD (0 : Nat) ([], ([], [], ()), (Ex.mk 0 [] []), ())).2.2.1.l), ())), (r_5.2.2.2.2.2.2.2.2.1.getD (0 : Nat) ([], [], [], [], [], ())).2.2.1, (r_5.2.2.2.2.2.2.2.2.1.getD (0 : Nat) ([], [], [], [], [], ())).2.2.2.1, (r_5.2.2.2.2.2.2.2.2.1.getD (0 : Nat) ([], [], [], [], [], ())).2.2.2.2.1, ())), r_5.2.2.2.2.2.2.2.2.2.1, ())).getD false))) && (!((bY F ((0 : Int), (0 : Int), (0 : Int), (0 : Int), ([] : List Nat), ([] : List Nat), ([] : List Nat), ([] : List Nat), ([] : List ((List Nat) × ((List ((List Nat) × (((List Nat) × ((List Nat) × Unit)) × (Ex × Unit)))) × ((List ((List Nat) × (((List Nat) × ((List Nat) × Unit)) × Unit))) × ((List (List Nat)) × ((List ((List Nat) × (Ex × Unit))) × Unit)))))), ([] : List ((List Nat) × ((List Nat) × ((List Nat) × ((List Nat) × Unit))))), ())).getD false))) && ((fD F (r_3.1, r_3.2.1, r_3.2.2.1, r_3.2.2.2.1, r_3.2.2.2.2.1, r_3.2.2.2.2.2.1, r_3.2.2.2.2.2.2.1, r_3.2.2.2.2.2.2.2.1, r_3.2.2.2.2.2.2.2.2.1, r_3.2.2.2.2.2.2.2.2.2.1, ()) ((hU F).getD ((0 : Int), (0 : Int), (0 : Int), (0 : Int), ([] : List Nat), ([] : List Nat), ([] : List Nat), ([] : List Nat), ([] : List ((List Nat) × ((List ((List Nat) × (((List Nat) × ((List Nat) × Unit)) × (Ex × Unit)))) × ((List ((List Nat) × (((List Nat) × ((List Nat) × Unit)) × Unit))) × ((List (List Nat)) × ((List ((List Nat) × (Ex × Unit))) × Unit)))))), ([] : List ((List Nat) × ((List Nat) × ((List Nat) × ((List Nat) × Unit))))), ()))).getD false)) && (!((fD F (r_3.1, r_3.2.1, r_3.2.2.1, r_3.2.2.2.1, r_3.2.2.2.2.1, r_3.2.2.2.2.2.1, r_3.2.2.2.2.2.2.1, r_3.2.2.2.2.2.2.2.1, r_3.2.2.2.2.2.2.2.2.1, r_3.2.2.2.2.2.2.2.2.2.1, ()) (r_5.1, r_5.2.1, r_5.2.2.1, r_5.2.2.2.1, r_5.2.2.2.2.1, r_5.2.2.2.2.2.1, r_5.2.2.2.2.2.2.1, r_5.2.2.2.2.2.2.2.1, (r_5.2.2.2.2.2.2.2.2.1.set (0 : Nat) ((r_5.2.2.2.2.2.2.2.2.1.getD (0 : Nat) ([], [], [], [], [], ())).1, ((r_5.2.2.2.2.2.2.2.2.1.getD (0 : Nat) ([], [], [], [], [], ())).2.1.set (0 : Nat) (((r_5.2.2.2.2.2.2.2.2.1.getD (0 : Nat) ([], [], [], [], [], ())).2.1.getD (0 : Nat) ([], ([], [], ()), (Ex.mk 0 [] []), ())).1, ((r_5.2.2.2.2.2.2.2.2.1.getD (0 : Nat) ([], [], [], [], [], ())).2.1.getD (0 : Nat) ([], ([], [], ()), (Ex.mk 0 [] []), ())).2.1, (Ex.mk ((r_5.2.2.2.2.2.2.2.2.1.getD (0 : Nat) ([], [], [], [], [], ())).2.1.getD (0 : Nat) ([], ([], [], ()), (Ex.mk 0 [] []), ())).2.2.1.kind (aY ⟨#[122]⟩) ((r_5.2.2.2.2.2.2.2.2.1.getD (0 : Nat) ([], [], [], [], [], ())).2.1.getD (0 : Nat) ([], ([], [], ()), (Ex.mk 0 [] []), ())).2.2.1.l), ())), (r_5.2.2.2.2.2.2.2.2.1.getD (0 : Nat) ([], [], [], [], [], ())).2.2.1, (r_5.2.2.2.2.2.2.2.2.1.getD (0 : Nat) ([], [], [], [], [], ())).2.2.2.1, (r_5.2.2.2.2.2.2.2.2.1.getD (0 : Nat) ([], [], [], [], [], ())).2.2.2.2.1, ())), r_5.2.2.2.2.2.2.2.2.2.1, ())).getD false))) && (decide (((iG F (r_3.1, r_3.2.1, r_3.2.2.1, r_3.2.2.2.1, r_3.2.2.2.2.1, r_3.2.2.2.2.2.1, r_3.2.2.2.2.2.2.1, r_3.2.2.2.2.2.2.2.1, r_3.2.2.2.2.2.2.2.2.1, r_3.2.2.2.2.2.2.2.2.2.1, ()) (aY ⟨#[97]⟩)).getD (0 : Int)) = (0 : Int)))) && (decide (((iG F (r_3.1, r_3.2.1, r_3.2.2.1, r_3.2.2.2.1, r_3.2.2.2.2.1, r_3.2.2.2.2.2.1, r_3.2.2.2.2.2.2.1, r_3.2.2.2.2.2.2.2.1, r_3.2.2.2.2.2.2.2.2.1, r_3.2.2.2.2.2.2.2.2.2.1, ()) (aY ⟨#[98]⟩)).getD (0 : Int)) = (-1 : Int)))) && ((eC F (Ex.mk (2 : Int) (aY ⟨#[120]⟩) ([] : List Ex)) ([(aY ⟨#[120]⟩)] : List (List Nat))).getD false)))))))))))))))))))
def vR : Ty := .unit
attribute [go_sem] vR
noncomputable def aE7 (F : Md) : aF := mSpec vR (.one .bool) (fun x => zU F )
noncomputable def nE (F : Md) : List (FuncId × aF) := [(25, (eN F)), (27, (vQ F)), (28, (zT F)), (29, (pD F)), (61, (xI F)), (62, (pG F))]
theorem aHm (F : Md) : bA Tryz.prog GL (nE F) := .cons (rA F) (by kernel_rfl) (.cons (aLQ F) (by kernel_rfl) (.cons (aNU F) (by kernel_rfl) (.cons (aES F) (by kernel_rfl) (.cons (aMr F) (by kernel_rfl) (.cons (aE4 F) (by kernel_rfl) (.nil))))))
theorem aJV (F : Md) : gam (nE F) 25 = some (eN F) := rfl
attribute [go_sem] aJV
theorem aJW (F : Md) : gam (nE F) 27 = some (vQ F) := rfl
attribute [go_sem] aJW
theorem aJX (F : Md) : gam (nE F) 28 = some (zT F) := rfl
attribute [go_sem] aJX
theorem aJY (F : Md) : gam (nE F) 29 = some (pD F) := rfl
attribute [go_sem] aJY
theorem aJZ (F : Md) : gam (nE F) 61 = some (xI F) := rfl
attribute [go_sem] aJZ
theorem aJ0 (F : Md) : gam (nE F) 62 = some (pG F) := rfl
attribute [go_sem] aJ0
set_option maxHeartbeats 4000000 in
theorem aMu (F : Md) : FOK Tryz.prog GL 24 (aE7 F) := by
 refine jX (aQD (aHm F)) Tryz.func24 rfl (by kernel_rfl) (by decide) fun w0 S x r hw h => ?_
 have hF : kP (fr Tryz.prog (EX (nE F)) S w0 Tryz.f24.ntmps) := ⟨aQD (aHm F), mix⟩
 simp only [vR, Ty.wf, nH] at hw
 simp only [bJ, vR]
 try dsimp only at h
 replace h : zU F = some r := h
 unfold zU at h
 refine aB (aD hF [] ?_)
 simp only [go_sem]
 repeat (refine ⟨zAA, ?_⟩)
 obtain ⟨r_3, he1, h⟩ := bind_some h
 try dsimp only at h
 refine aC (aB (cB hF (eL (l := [(27, ⟨kW F, [], r_3⟩)]) (.cons (yQ F) (by kernel_rfl) (.nil))) [1] [] ?_))
 simp only [go_sem]
 repeat (refine ⟨zAA, ?_⟩)
 obtain ⟨r_5, he2, h⟩ := bind_some h
 try dsimp only at h
 refine aC (aB (cB hF (eL (l := [(27, ⟨kW F, [], r_5⟩)]) (.cons (yQ F) (by kernel_rfl) (.nil))) [1, 2] [] ?_))
 simp only [go_sem]
 repeat (refine ⟨zAA, ?_⟩)
 obtain ⟨go, h⟩ := aL h
 refine aC (aB (aR7 3 (0 : Nat) rfl go rfl ?_))
 simp only [go_sem]
 refine aZ hF [1, 2] ?_
 simp only [go_sem]
 obtain ⟨g0, h⟩ := aL h
 repeat (refine ⟨zAA, ?_⟩)
 obtain ⟨g0, h⟩ := aL h
 repeat (refine ⟨zAA, ?_⟩)
 refine aR6 3 ((r_5.2.2.2.2.2.2.2.2.1.getD (0 : Nat) ([], [], [], [], [], ())).1, ((r_5.2.2.2.2.2.2.2.2.1.getD (0 : Nat) ([], [], [], [], [], ())).2.1.set (0 : Nat) (((r_5.2.2.2.2.2.2.2.2.1.getD (0 : Nat) ([], [], [], [], [], ())).2.1.getD (0 : Nat) ([], ([], [], ()), (Ex.mk 0 [] []), ())).1, ((r_5.2.2.2.2.2.2.2.2.1.getD (0 : Nat) ([], [], [], [], [], ())).2.1.getD (0 : Nat) ([], ([], [], ()), (Ex.mk 0 [] []), ())).2.1, (Ex.mk ((r_5.2.2.2.2.2.2.2.2.1.getD (0 : Nat) ([], [], [], [], [], ())).2.1.getD (0 : Nat) ([], ([], [], ()), (Ex.mk 0 [] []), ())).2.2.1.kind (aY ⟨#[122]⟩) ((r_5.2.2.2.2.2.2.2.2.1.getD (0 : Nat) ([], [], [], [], [], ())).2.1.getD (0 : Nat) ([], ([], [], ()), (Ex.mk 0 [] []), ())).2.2.1.l), ())), (r_5.2.2.2.2.2.2.2.2.1.getD (0 : Nat) ([], [], [], [], [], ())).2.2.1, (r_5.2.2.2.2.2.2.2.2.1.getD (0 : Nat) ([], [], [], [], [], ())).2.2.2.1, (r_5.2.2.2.2.2.2.2.2.1.getD (0 : Nat) ([], [], [], [], [], ())).2.2.2.2.1, ()) [6, 7, 8, 9] rfl (by first | rfl | (simp only [go_sem]; done)) rfl rfl ?_
 simp only [go_sem]
 refine aC (aB (aD hF [0] ?_))
 simp only [go_sem]
 obtain ⟨g0, h⟩ := aL h
 obtain ⟨g1, h⟩ := aL h
 obtain ⟨g2, h⟩ := aL h
 obtain ⟨g3, h⟩ := aL h
 obtain ⟨g4, h⟩ := aL h
 obtain ⟨g5, h⟩ := aL h
 obtain ⟨g6, h⟩ := aL h
 obtain ⟨g7, h⟩ := aL h
 obtain ⟨g8, h⟩ := aL h
 obtain ⟨g9, h⟩ := aL h
 obtain ⟨g10, h⟩ := aL h
 obtain ⟨g11, h⟩ := aL h
 repeat (refine ⟨by first | with_reducible assumption | omega | (intros; first | with_reducible assumption | omega) | (simp only [go_sem] at *; first | with_reducible assumption | omega) | (intro _; exact ⟨rfl, by decide⟩) | (intro _; refine (?_ : _ = bD _); rfl) | exact ⟨rfl, rfl⟩ | (intro q0; (try have e1 := g1 zAE); (try have e2 := g2 zAE); (try have e3 := g3 zAE); (try have e4 := g4 zAE); (try have e5 := g5 zAE); (try have e6 := g6 zAE); (try have e7 := g7 zAE); (try have e8 := g8 zAE); (try have e9 := g9 zAE); (try have e10 := g10 zAE); (try have e11 := g11 zAE); first | assumption | omega) | decide, ?_⟩)
 obtain rfl := Option.some.inj h
 refine aC (cI (dK hF [.tmp 0] rfl rfl rfl ?_))
 exact zAG
attribute [go_sem] aE7
end Nu
end Go.Proofs
