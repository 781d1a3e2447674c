import Derived.Test.YtkihplehmkbfaaaGreatDoorZS1
import Derived.Test.YtkihplehmkbfaaaGreatDoorZL6
import Derived.Lib.AppendZeros
import Derived.Lib.SliceRun
import Derived.WalkKit
import Derived.Lib.Walk
import Derived.Shelf.RegionOpenPlain
set_option linter.unusedVariables false
set_option linter.unusedSimpArgs false
namespace Go.Proofs
open Go.Vc
set_option maxRecDepth 100000
namespace Nu
section
open Go.Shelf Go.RowKit Go.Lib
set_option maxHeartbeats 4000000 in
theorem aQY (n : Nat) (w : World) (hn : n ≤ 1073741824) :
  Calls Tryz.prog 202 #[.slice none 0 0, .int .i64 n] w fun e w' => (n = 0 ∧ e = .returned (.slice none 0 0) ∧ w' = w) ∨
   (0 < n ∧ e = .returned (.slice (some ⟨w.heap.size, 0, none⟩) 0 (grownCap w n 0 9)) ∧ w' = w.drew.alloc (.cells (Builtin.zeroCells #[Value.string ⟨#[]⟩] n ++ Builtin.zeroCells #[Value.string ⟨#[]⟩] (grownCap w n 0 9 - n)) 9)) := by
 have h1 : ¬ ((n : Int) < 0) := by omega
 have h3 : wrap64 ((n : Int) - wrap64 (0 - 0)) = (n : Int) := by unfold wrap64; omega
 have h5 : wrap64 (n : Int) = (n : Int) := by unfold wrap64; omega
 obtain ⟨i, hi, hz, hs, hb⟩ : ∃ i, Tryz.prog.info? 9 = some i ∧ i.zero = some (.string ⟨#[]⟩) ∧ i.size = 1 ∧ i.bytes = 16 := ⟨_, rfl, rfl, rfl, rfl⟩
 go_enter Tryz.func202, Tryz.ntmps202
 rcases Nat.eq_zero_or_pos n with rfl | hp
 ·go_wp2
  go_ret
  exact ⟨rfl, rfl⟩
 ·have h4 : (n : Int) > 0 := by omega
  have hrz : ∀ ty, (Builtin.append_ #[48, 3] ty #[.slice none 0 0, .int .i64 (n : Int)]).run Tryz.prog w = .ok (.slice (some ⟨w.heap.size, 0, none⟩) n (grownCap w n 0 9)) (w.drew.alloc (.cells (Builtin.zeroCells #[Value.string ⟨#[]⟩] n ++ Builtin.zeroCells #[Value.string ⟨#[]⟩] (grownCap w n 0 9 - n)) 9)) :=
   fun ty => Lib.run_append_nil_zeros w 48 3 ty 9 i (.string ⟨#[]⟩) .i64 .i64 rfl rfl hi hz n hp (by omega) (by omega) (by rw [hb]; omega)
  have hG := grownCap_ge w n 0 9
  have hG2 := grownCap_le_maxLen w n 0 9 (by unfold maxLen; omega)
  unfold maxLen at hG2
  generalize grownCap w n 0 9 = G at *
  go_wp2_with (at_builtin; refine Lib.wpList_append_run _ rfl _ _ _ _ rfl _ _ rfl rfl _ _ (hrz _) ?_)
  go_ret
  exact .inr ⟨rfl, rfl⟩
end
def mB (F : Md) (n : Int) : Option (List (List Nat)) := ck (0 ≤ n ∧ n ≤ 1073741824) (some [])
noncomputable def fW (F : Md) : oD where
 D := Int × (List (List Nat))
 av := fun d => [.nilS, .val (.i .i64) d.1]
 hp := fun d => []
 m := 0
 pre := fun d => mB F d.1 = some d.2
 out := fun d => (fun r : (List (List Nat)) => .ret (.own 0) [.row 9 .str (r)]) d.2
attribute [go_sem] fW
theorem aM9 {F : Md} {c : Ctx} {w w' : World} {d : (fW F).D} (hd : d.2 = []) (good : Go.Vc.Good (GM (fW F) c d) w c [] w) (hk : fL nothing w w') (v : Value) (hv : ∃ a n m, v = .slice a n m) (hr : w'.ownsRow 0 9 1 v 0 []) (hb : ∀ b, aK v = some b → w.heap.size ≤ b ∧ b < w'.heap.size) :
  aFf (fW F) c w d (.returned v) w' := by
 have e1 : (c.push v).hd c.n = v := by simp [Ctx.push]
 have h0 : c.n = 0 := good.n
 have := good.push hk (o := .row 9 .str []) (hv := v) (by
  show wE _ _ _ _ _ _
  rw [e1]
  exact ⟨[], hr, ⟨rfl, [], rfl, rfl, fun i h => by simp at h⟩⟩) (fun b h => hb b (by simpa [dS, e1] using h))
 refine ⟨c.push v, ?_⟩
 show ∃ u, _ ∧ Go.Vc.Good _ _ _ [.row 9 .str d.2] _ ∧ aL _ _ (.own 0) u
 rw [hd]
 refine ⟨v, rfl, this.1, ?_⟩
 have := yK (c := c) (v' := v) hv (w' := w') (S' := c.S)
 rw [h0] at this
 exact this
theorem aCn (F : Md) : GOK Tryz.prog GL 202 (fW F) := by
 rintro c w ⟨n, r⟩ vs hpre ⟨good, glob, len, val⟩
 have hpre : mB F n = some r := hpre
 unfold mB at hpre
 obtain ⟨⟨h1, h2⟩, hpre⟩ := aT hpre
 have hr : [] = r := Option.some.inj hpre
 have hv0 := val 0 (by show 0 < 2; decide) (by rw [len]; show 0 < 2; decide)
 have hv1 := val 1 (by show 1 < 2; decide) (by rw [len]; show 1 < 2; decide)
 have e0 : vs.toList[0]'(by rw [len]; show 0 < 2; decide) = .slice none 0 0 := by
  obtain ⟨q1, _, q3⟩ := hv0
  have q3 := q3 rfl
  revert q1 q3
  generalize vs.toList[0]'(by rw [len]; show 0 < 2; decide) = sv
  intro q1 q3
  have q1 : sv.cells.toList = [.slice none 0 0] := q1
  cases sv <;> simp [Value.cells] at q1 q3 <;> simp [q1]
 obtain ⟨e1, _, _⟩ := aCx (k := .i64) (n := n) hv1
 have hvs : vs = #[.slice none 0 0, .int .i64 (n.toNat : Int)] := by
  have hlen : vs.toList.length = 2 := len
  rw [← Array.toList_inj]
  apply List.ext_getElem
  ·exact hlen
  ·intro i a1 a2
   match i, a2 with
   | 0, _ => exact e0
   | 1, _ => show _ = Value.int .i64 (n.toNat : Int); rw [Int.toNat_of_nonneg h1]; exact e1
 rw [hvs]
 refine Calls.mono (f := 202) (aQY n.toNat w (by omega)) ?_
 rintro e w' (⟨_, rfl, rfl⟩ | ⟨hp, rfl, rfl⟩)
 ·exact aM9 (d := (n, r)) hr.symm good (.refl nothing _) _ ⟨_, _, _, rfl⟩ ⟨rfl, .inl ⟨rfl, rfl⟩⟩ (fun b h => by simp [aK] at h)
 ·have hG := grownCap_ge w n.toNat 0 9
  have hG2 := grownCap_le_maxLen w n.toNat 0 9 (by unfold maxLen; omega)
  have hk : ∀ o, fL nothing w (w.drew.alloc o) := fun o => have k := fL.alloc nothing w.drew o; ⟨rfl, rfl, rfl, k.size, k.block⟩
  refine aM9 (d := (n, r)) hr.symm good (hk _) _ ⟨_, _, _, rfl⟩ ⟨rfl, .inr ⟨w.heap.size, _, Builtin.zeroCells #[Value.string ⟨#[]⟩] n.toNat ++ Builtin.zeroCells #[Value.string ⟨#[]⟩] (grownCap w n.toNat 0 9 - n.toNat), rfl, Nat.zero_le _, ?_, Nat.zero_le _, hG2, ?_, rfl⟩⟩ ?_
  ·show (w.heap.push _)[w.heap.size]? = _
   simp
  ·simp [Builtin.zeroCells]
   omega
  ·intro b h
   simp only [aK, Option.some.injEq] at h
   subst h
   refine ⟨Nat.le_refl _, ?_⟩
   show w.heap.size < (w.heap.push _).size
   simp
end Nu
end Go.Proofs
namespace Go.Proofs
open Go.Vc
set_option maxRecDepth 20000
namespace Nu
noncomputable def nF (F : Md) (l_8 : (List (Bool × ((List Nat) × (Int × Unit))))) : Option (Bool) :=
 ck ((2 : Int) < (((l_8.length) : Nat) : Int)) (ck ((1 : Int) < (((l_8.length) : Nat) : Int)) ((uV F (l_8.getD (2 : Nat) (false, [], 0, ())) (l_8.getD (1 : Nat) (false, [], 0, ()))).bind (fun v_14 => ck ((v_14 ≤ (0 : Int)) → ((0 : Int) < (((l_8.length) : Nat) : Int))) (ck ((v_14 ≤ (0 : Int)) → ((1 : Int) < (((l_8.length) : Nat) : Int))) (ck ((v_14 ≤ (0 : Int)) → ((iP F (l_8.getD (0 : Nat) (false, [], 0, ())) (l_8.getD (1 : Nat) (false, [], 0, ())) (256 : Int)).isSome = true)) (ck (((v_14 ≤ (0 : Int)) ∧ (((iP F (l_8.getD (0 : Nat) (false, [], 0, ())) (l_8.getD (1 : Nat) (false, [], 0, ())) (256 : Int)).getD false) = true)) → ((1 : Int) < (((l_8.length) : Nat) : Int))) (ck (((v_14 ≤ (0 : Int)) ∧ (((iP F (l_8.getD (0 : Nat) (false, [], 0, ())) (l_8.getD (1 : Nat) (false, [], 0, ())) (256 : Int)).getD false) = true)) → ((2 : Int) < (((l_8.length) : Nat) : Int))) (ck (((v_14 ≤ (0 : Int)) ∧ (((iP F (l_8.getD (0 : Nat) (false, [], 0, ())) (l_8.getD (1 : Nat) (false, [], 0, ())) (256 : Int)).getD false) = true)) → ((iP F (l_8.getD (1 : Nat) (false, [], 0, ())) (l_8.getD (2 : Nat) (false, [], 0, ())) (4096 : Int)).isSome = true)) (some (((decide (v_14 ≤ (0 : Int))) && ((iP F (l_8.getD (0 : Nat) (false, [], 0, ())) (l_8.getD (1 : Nat) (false, [], 0, ())) (256 : Int)).getD false)) && ((iP F (l_8.getD (1 : Nat) (false, [], 0, ())) (l_8.getD (2 : Nat) (false, [], 0, ())) (4096 : Int)).getD false)))))))))))
noncomputable def rU (F : Md) (s_0 : (Int × (Int × (Int × (Int × ((List Nat) × ((List Nat) × ((List Nat) × ((List Nat) × ((List ((List Nat) × ((List ((List Nat) × (((List Nat) × ((List Nat) × Unit)) × (Ex × Unit)))) × ((List ((List Nat) × (((List Nat) × ((List Nat) × Unit)) × Unit))) × ((List (List Nat)) × ((List ((List Nat) × (Ex × Unit))) × Unit)))))) × ((List ((List Nat) × ((List Nat) × ((List Nat) × ((List Nat) × Unit))))) × Unit))))))))))) (x56_16 : Int) (l_17 : (List (Bool × ((List Nat) × (Int × Unit))))) : Option ((Int × (List (Bool × ((List Nat) × (Int × Unit))))) ⊕ ((List (Bool × ((List Nat) × (Int × Unit)))) ⊕ Bool)) :=
 if x56_16 < (4 : Int) then ck (0 ≤ x56_16 ∧ x56_16 < (4 : Int)) ((aAi F (([s_0.2.2.2.2.1, s_0.2.2.2.2.2.1, s_0.2.2.2.2.2.2.1, s_0.2.2.2.2.2.2.2.1] : List (List Nat)).getD (x56_16.toNat) ([] : List Nat))).bind (fun v_24 => ck (¬ (¬ (v_24.2.1 = (0 : Int))) → ((oS F v_24.1).isSome = true)) (if (¬ (v_24.2.1 = (0 : Int))) ∨ (((oS F v_24.1).getD (0 : Int)) ≤ (0 : Int)) then some (.inr (.inr false)) else ck (((l_17.length) + (1 : Nat)) * 73 ≤ 140737488355328) (ck (I64 (x56_16 + (1 : Int))) (some (.inl ((x56_16 + (1 : Int)), (l_17 ++ ([v_24.1] : List (Bool × ((List Nat) × (Int × Unit)))))))))))) else some (.inr (.inl l_17))
noncomputable def rG (F : Md) (s_0 : (Int × (Int × (Int × (Int × ((List Nat) × ((List Nat) × ((List Nat) × ((List Nat) × ((List ((List Nat) × ((List ((List Nat) × (((List Nat) × ((List Nat) × Unit)) × (Ex × Unit)))) × ((List ((List Nat) × (((List Nat) × ((List Nat) × Unit)) × Unit))) × ((List (List Nat)) × ((List ((List Nat) × (Ex × Unit))) × Unit)))))) × ((List ((List Nat) × ((List Nat) × ((List Nat) × ((List Nat) × Unit))))) × Unit))))))))))) : Option Bool :=
 if ((((((s_0.1 < (8 : Int)) ∨ ((200 : Int) < s_0.1)) ∨ (s_0.2.1 < (1 : Int))) ∨ ((20 : Int) < s_0.2.1)) ∨ (s_0.2.2.1 < (0 : Int))) ∨ ((3 : Int) < s_0.2.2.1)) ∨ ((¬ (s_0.2.2.2.1 = (1 : Int))) ∧ (¬ (s_0.2.2.2.1 = (2 : Int)))) then some false else (dM F (fun d : Int × (List (Bool × ((List Nat) × (Int × Unit)))) => rU F s_0 d.1 d.2) ((0 : Int), ([] : List (Bool × ((List Nat) × (Int × Unit)))))).bind (fun e => match e with | (.inl e) => nF F e | (.inr e) => some e)
def aA1 : PlR := ⟨[(0, .B [1]), (1, .A [1, 45]), (2, .A [2]), (3, .A [1, 3]), (4, .A [3, 54, 55, 56]), (5, .A [3, 54, 55, 56, 57]), (6, .A [3, 5, 54, 55, 56]), (7, .B [3, 6, 7, 54, 55, 56]), (8, .A [3, 6, 54, 55, 56, 71]), (9, .A [2]), (10, .B [3, 54, 55, 56]), (11, .A [3, 54, 55, 56]), (12, .A [2])], [(7, 15)]⟩
def aB9 : Ty := .pair (.pair (.i .i64) (.pair (.i .i64) (.pair (.i .i64) (.pair (.i .i64) (.pair .str (.pair .str (.pair .str (.pair .str (.pair (.sl (.pair .str (.pair (.sl (.pair .str (.pair (.pair .str (.pair .str .unit)) (.pair .expr .unit)))) (.pair (.sl (.pair .str (.pair (.pair .str (.pair .str .unit)) .unit))) (.pair (.sl .str) (.pair (.sl (.pair .str (.pair .expr .unit))) .unit)))))) (.pair (.sl (.pair .str (.pair .str (.pair .str (.pair .str .unit))))) .unit)))))))))) .unit
noncomputable def pH (F : Md) : aG := mSpec aB9 (.one .bool) (fun x => rG F x.1)
noncomputable def nR (F : Md) : List (FuncId × aG) := [(133, (xR F)), (134, (vK F)), (22, (sE F)), (57, (pD F))]
theorem aIm (F : Md) : bD Tryz.prog GL (nR F) := .cons (aL6 F) (by kernel_rfl) (.cons (aKF F) (by kernel_rfl) (.cons (aHF F) (by kernel_rfl) (.cons (aFC F) (by kernel_rfl) (.nil))))
theorem aDx (F : Md) : gam (nR F) 133 = some (xR F) := rfl
theorem aDy (F : Md) : gam (nR F) 134 = some (vK F) := rfl
theorem aEz (F : Md) : gam (nR F) 22 = some (sE F) := rfl
theorem aEA (F : Md) : gam (nR F) 57 = some (pD F) := rfl
attribute [go_sem] aB9 aA1 aDx aDy aEz aEA
set_option maxHeartbeats 4000000 in
theorem aGP (F : Md) : FOK Tryz.prog GL 66 (pH F) := by
 refine bH (aY (aIm F)) mix Tryz.func66 rfl (by kernel_rfl) (by decide) aA1 fun w0 S x Θ hw h hF => ?_
 obtain ⟨(s_0 : (Int × (Int × (Int × (Int × ((List Nat) × ((List Nat) × ((List Nat) × ((List Nat) × ((List ((List Nat) × ((List ((List Nat) × (((List Nat) × ((List Nat) × Unit)) × (Ex × Unit)))) × ((List ((List Nat) × (((List Nat) × ((List Nat) × Unit)) × Unit))) × ((List (List Nat)) × ((List ((List Nat) × (Ex × Unit))) × Unit)))))) × ((List ((List Nat) × ((List Nat) × ((List Nat) × ((List Nat) × Unit))))) × Unit))))))))))), u⟩ := x
 simp only [bL, go_sem]
 replace h : sat (rG F s_0) _ := h
 unfold rG at h
 refine ⟨fun hc => ?_, fun hc => ?_⟩
 ·replace h := iU hc h
  exact aF hF [.tmp 2] rfl rfl rfl (aA h) (by simp only [aR, go_sem])
 ·replace h := iV hc h
  refine dZ hF (D := (List (Bool × ((List Nat) × (Int × Unit))))) (fun d => sat (nF F d) Θ) [] (fun d => [(3, .own 0)]) (fun d => [.inr (.row 25 (.pair .bool (.pair (.sl (.u .u64)) (.pair (.i .i64) .unit))) d)]) ?_ ?_
  ·simp only [go_sem]
   refine aBx 3 25 (.pair .bool (.pair (.sl (.u .u64)) (.pair (.i .i64) .unit))) rfl ?_
   simp only [go_sem]
   refine aFe [1] rfl rfl ?_
   simp only [go_sem]
   refine bR hF (D := Int × (List (Bool × ((List Nat) × (Int × Unit))))) [55] (fun d => [(3, .own 0), (54, .val (.sl .str) ([s_0.2.2.2.2.1, s_0.2.2.2.2.2.1, s_0.2.2.2.2.2.2.1, s_0.2.2.2.2.2.2.2.1] : List (List Nat))), (56, .val (.i .i64) d.1)]) (fun d => [.inr (.row 25 (.pair .bool (.pair (.sl (.u .u64)) (.pair (.i .i64) .unit))) d.2)]) h rfl (by (try simp only [kR, hN, true_or, and_self, go_sem]) <;> (repeat' apply And.intro) <;> first | rfl | (left; rfl) | (right; rfl) | (left; simp only [go_sem]; done) | (right; simp only [go_sem]; done) | (simp; done) | (simp only [*]; done) | omega) ?_
   rintro ⟨x56_16, l_17⟩ A5 T5 hA5 hE5 h
   simp only [go_sem]
   replace h : sat (rU F s_0 x56_16 l_17) _ := h
   unfold rU at h
   refine eE h (fun hc h => ?_) fun hc h => ?_
   ·obtain ⟨g0, h⟩ := aJ h
    repeat (refine ⟨zAA, ?_⟩)
    obtain ⟨v_24, hv, h⟩ := aI h
    try simp only [hv, go_sem]
    obtain ⟨g0, h⟩ := aJ h
    repeat (refine ⟨zAD, ?_⟩)
    refine ⟨fun hc => ?_, fun hc => ?_⟩
    ·replace h := iU zAB h
     replace h := hE5 _ (aA h)
     try dsimp only at h
     exact aF hF [.tmp 2] rfl rfl rfl (aA h) (by simp only [aR, go_sem])
    ·replace h := iV zAB h
     obtain ⟨g0, h⟩ := aJ h
     repeat (refine ⟨zAA, ?_⟩)
     obtain ⟨g0, h⟩ := aJ h
     try simp only [I64, I32] at g0
     repeat (refine ⟨zAA, ?_⟩)
     replace h := hA5 _ (aA h)
     refine gQ [2] rfl rfl ?_
     simp only [go_sem]
     exact aS _ h rfl (by simp only [go_sem])
   ·replace h := hE5 _ (aA h)
    try dsimp only at h
    exact aS (l_17) h rfl (by simp only [go_sem])
  ·rintro l_8 h
   simp only [go_sem]
   replace h : sat (nF F l_8) _ := h
   unfold nF at h
   obtain ⟨g0, h⟩ := aJ h
   obtain ⟨g1, h⟩ := aJ h
   repeat (refine ⟨zAA, ?_⟩)
   obtain ⟨v_14, hv, h⟩ := aI h
   try simp only [hv, go_sem]
   obtain ⟨g0, h⟩ := aJ h
   obtain ⟨g1, h⟩ := aJ h
   obtain ⟨g2, h⟩ := aJ h
   obtain ⟨g3, h⟩ := aJ h
   obtain ⟨g4, h⟩ := aJ h
   obtain ⟨g5, h⟩ := aJ h
   repeat (refine ⟨by first | with_reducible assumption | omega | (intros; first | with_reducible assumption | omega) | (simp only [go_sem] at *; first | with_reducible assumption | omega) | (intro _; exact ⟨rfl, by decide⟩) | (intro _; refine (?_ : _ = aX _); rfl) | exact ⟨rfl, rfl⟩ | (intro q0; (try have e0 := g0 zAC); (try have e1 := g1 zAC); (try have e2 := g2 zAC); (try have e3 := g3 zAC); (try have e4 := g4 zAC); (try have e5 := g5 zAC); first | assumption | omega) | decide, ?_⟩)
   exact aF hF [.tmp 2] rfl rfl rfl (aA h) (by simp only [aR, go_sem])
attribute [go_sem] pH
noncomputable def pI (F : Md) (x_6 : (List (List Nat))) (s_0 : ((List Nat) × ((List ((List Nat) × (((List Nat) × ((List Nat) × Unit)) × (Ex × Unit)))) × ((List ((List Nat) × (((List Nat) × ((List Nat) × Unit)) × Unit))) × ((List (List Nat)) × ((List ((List Nat) × (Ex × Unit))) × Unit)))))) (p_11 : (List (List Nat))) : Option ((List (List Nat)) × ((List (List Nat)) × ((List (List Nat)) × Unit))) :=
 some (x_6, p_11, s_0.2.2.2.1, ())
noncomputable def uW (F : Md) (s_0 : ((List Nat) × ((List ((List Nat) × (((List Nat) × ((List Nat) × Unit)) × (Ex × Unit)))) × ((List ((List Nat) × (((List Nat) × ((List Nat) × Unit)) × Unit))) × ((List (List Nat)) × ((List ((List Nat) × (Ex × Unit))) × Unit)))))) (x25_12 : Int) (p_13 : (List (List Nat))) : Option ((Int × (List (List Nat))) ⊕ (List (List Nat))) :=
 if x25_12 < (((s_0.2.2.1.length) : Nat) : Int) then ck (0 ≤ x25_12 ∧ x25_12 < (((s_0.2.2.1.length) : Nat) : Int)) (ck (((p_13.length) + (1 : Nat)) * 16 ≤ 140737488355328) (ck (I64 (x25_12 + (1 : Int))) (some (.inl ((x25_12 + (1 : Int)), (p_13 ++ ([(s_0.2.2.1.getD (x25_12.toNat) ([], ([], [], ()), ())).1] : List (List Nat)))))))) else some (.inr p_13)
noncomputable def pJ (F : Md) (s_0 : ((List Nat) × ((List ((List Nat) × (((List Nat) × ((List Nat) × Unit)) × (Ex × Unit)))) × ((List ((List Nat) × (((List Nat) × ((List Nat) × Unit)) × Unit))) × ((List (List Nat)) × ((List ((List Nat) × (Ex × Unit))) × Unit)))))) (x_6 : (List (List Nat))) : Option ((List (List Nat)) × ((List (List Nat)) × ((List (List Nat)) × Unit))) :=
 (dM F (fun d : Int × (List (List Nat)) => uW F s_0 d.1 d.2) ((0 : Int), ([] : List (List Nat)))).bind (fun e => pI F x_6 s_0 e)
noncomputable def uX (F : Md) (s_0 : ((List Nat) × ((List ((List Nat) × (((List Nat) × ((List Nat) × Unit)) × (Ex × Unit)))) × ((List ((List Nat) × (((List Nat) × ((List Nat) × Unit)) × Unit))) × ((List (List Nat)) × ((List ((List Nat) × (Ex × Unit))) × Unit)))))) (x12_17 : Int) (x_18 : (List (List Nat))) : Option ((Int × (List (List Nat))) ⊕ (List (List Nat))) :=
 if x12_17 < (((s_0.2.1.length) : Nat) : Int) then ck (0 ≤ x12_17 ∧ x12_17 < (((s_0.2.1.length) : Nat) : Int)) (ck (((x_18.length) + (1 : Nat)) * 16 ≤ 140737488355328) (ck (I64 (x12_17 + (1 : Int))) (some (.inl ((x12_17 + (1 : Int)), (x_18 ++ ([(s_0.2.1.getD (x12_17.toNat) ([], ([], [], ()), (Ex.mk 0 [] []), ())).1] : List (List Nat)))))))) else some (.inr x_18)
noncomputable def aQ (F : Md) (s_0 : ((List Nat) × ((List ((List Nat) × (((List Nat) × ((List Nat) × Unit)) × (Ex × Unit)))) × ((List ((List Nat) × (((List Nat) × ((List Nat) × Unit)) × Unit))) × ((List (List Nat)) × ((List ((List Nat) × (Ex × Unit))) × Unit)))))) : Option ((List (List Nat)) × ((List (List Nat)) × ((List (List Nat)) × Unit))) :=
 (dM F (fun d : Int × (List (List Nat)) => uX F s_0 d.1 d.2) ((0 : Int), ([] : List (List Nat)))).bind (fun e => pJ F s_0 e)
def aC3 : PlR := ⟨[(0, .B [1, 2, 3]), (1, .A [1, 2, 3, 10, 11, 12]), (2, .A [1, 2, 3, 10, 11, 12, 13]), (3, .B [1, 2, 3, 6, 10, 11, 12]), (4, .B [1, 2, 3, 10, 11, 12]), (5, .A [1, 2, 3, 10, 11, 12]), (6, .A [1, 2, 3, 23, 24, 25]), (7, .A [1, 2, 3, 23, 24, 25, 26]), (8, .B [1, 2, 3, 8, 23, 24, 25]), (9, .B [1, 2, 3, 23, 24, 25]), (10, .A [1, 2, 3, 23, 24, 25]), (11, .A [2, 3, 4])], [(4, 9), (9, 14)]⟩
def aD1 : Ty := .pair (.pair .str (.pair (.sl (.pair .str (.pair (.pair .str (.pair .str .unit)) (.pair .expr .unit)))) (.pair (.sl (.pair .str (.pair (.pair .str (.pair .str .unit)) .unit))) (.pair (.sl .str) (.pair (.sl (.pair .str (.pair .expr .unit))) .unit))))) .unit
noncomputable def tJ (F : Md) : aG := mSpec aD1 (.tup (.pair (.sl .str) (.pair (.sl .str) (.pair (.sl .str) .unit)))) (fun x => aQ F x.1)
noncomputable def aKG (F : Md) : List (FuncId × aG) := []
theorem aKH (F : Md) : bD Tryz.prog GL (aKG F) := .nil
attribute [go_sem] aD1 aC3
set_option maxHeartbeats 4000000 in
theorem aKa (F : Md) : FOK Tryz.prog GL 135 (tJ F) := by
 refine bH (aY (aKH F)) mix Tryz.func135 rfl (by kernel_rfl) (by decide) aC3 fun w0 S x Θ hw h hF => ?_
 obtain ⟨(s_0 : ((List Nat) × ((List ((List Nat) × (((List Nat) × ((List Nat) × Unit)) × (Ex × Unit)))) × ((List ((List Nat) × (((List Nat) × ((List Nat) × Unit)) × Unit))) × ((List (List Nat)) × ((List ((List Nat) × (Ex × Unit))) × Unit)))))), u⟩ := x
 simp only [bL, go_sem]
 replace h : sat (aQ F s_0) _ := h
 unfold aQ at h
 refine dZ hF (D := (List (List Nat))) (fun d => sat (pJ F s_0 d) Θ) [3] (fun d => [(1, .ptr 0 []), (2, .own 1)]) (fun d => [.inr (.box 5 (.val (.pair .str (.pair (.sl (.pair .str (.pair (.pair .str (.pair .str .unit)) (.pair .expr .unit)))) (.pair (.sl (.pair .str (.pair (.pair .str (.pair .str .unit)) .unit))) (.pair (.sl .str) (.pair (.sl (.pair .str (.pair .expr .unit))) .unit))))) s_0)), .inr (.row 9 .str d)]) ?_ ?_
 ·simp only [go_sem]
  refine aBx 2 9 .str rfl ?_
  simp only [go_sem]
  refine bR hF (D := Int × (List (List Nat))) [3, 10, 11] (fun d => [(1, .ptr 0 []), (2, .own 1), (12, .val (.i .i64) d.1)]) (fun d => [.inr (.box 5 (.val (.pair .str (.pair (.sl (.pair .str (.pair (.pair .str (.pair .str .unit)) (.pair .expr .unit)))) (.pair (.sl (.pair .str (.pair (.pair .str (.pair .str .unit)) .unit))) (.pair (.sl .str) (.pair (.sl (.pair .str (.pair .expr .unit))) .unit))))) s_0)), .inr (.row 9 .str d.2)]) h rfl (by simp only [go_sem]) ?_
  rintro ⟨x12_17, x_18⟩ A2 T2 hA2 hE2 h
  simp only [go_sem]
  replace h : sat (uX F s_0 x12_17 x_18) _ := h
  unfold uX at h
  refine eE h (fun hc h => ?_) fun hc h => ?_
  ·obtain ⟨g0, h⟩ := aJ h
   repeat (refine ⟨by omega, ?_⟩)
   obtain ⟨g0, h⟩ := aJ h
   repeat (refine ⟨by omega, ?_⟩)
   refine aP h fun g0 h => ?_
   replace h := hA2 _ (aA h)
   refine gQ [0, 3] rfl rfl ?_
   simp only [go_sem]
   exact aS _ h rfl (by simp only [go_sem])
  ·replace h := hE2 _ (aA h)
   try dsimp only at h
   exact aS (x_18) h rfl (by simp only [go_sem])
 ·rintro x_6 h
  simp only [go_sem]
  replace h : sat (pJ F s_0 x_6) _ := h
  unfold pJ at h
  refine dZ hF (D := (List (List Nat))) (fun d => sat (pI F x_6 s_0 d) Θ) [] (fun d => [(1, .ptr 0 []), (2, .own 1), (3, .own 2)]) (fun d => [.inr (.box 5 (.val (.pair .str (.pair (.sl (.pair .str (.pair (.pair .str (.pair .str .unit)) (.pair .expr .unit)))) (.pair (.sl (.pair .str (.pair (.pair .str (.pair .str .unit)) .unit))) (.pair (.sl .str) (.pair (.sl (.pair .str (.pair .expr .unit))) .unit))))) s_0)), .inr (.row 9 .str x_6), .inr (.row 9 .str d)]) ?_ ?_
  ·simp only [go_sem]
   refine aBx 3 9 .str rfl ?_
   simp only [go_sem]
   refine bR hF (D := Int × (List (List Nat))) [23, 24] (fun d => [(1, .ptr 0 []), (2, .own 1), (3, .own 2), (25, .val (.i .i64) d.1)]) (fun d => [.inr (.box 5 (.val (.pair .str (.pair (.sl (.pair .str (.pair (.pair .str (.pair .str .unit)) (.pair .expr .unit)))) (.pair (.sl (.pair .str (.pair (.pair .str (.pair .str .unit)) .unit))) (.pair (.sl .str) (.pair (.sl (.pair .str (.pair .expr .unit))) .unit))))) s_0)), .inr (.row 9 .str x_6), .inr (.row 9 .str d.2)]) h rfl (by simp only [go_sem]) ?_
   rintro ⟨x25_12, p_13⟩ A7 T7 hA7 hE7 h
   simp only [go_sem]
   replace h : sat (uW F s_0 x25_12 p_13) _ := h
   unfold uW at h
   refine eE h (fun hc h => ?_) fun hc h => ?_
   ·obtain ⟨g0, h⟩ := aJ h
    repeat (refine ⟨by omega, ?_⟩)
    obtain ⟨g0, h⟩ := aJ h
    repeat (refine ⟨by omega, ?_⟩)
    refine aP h fun g0 h => ?_
    replace h := hA7 _ (aA h)
    refine gQ [0, 1, 4] rfl rfl ?_
    simp only [go_sem]
    exact aS _ h rfl (by simp only [go_sem])
   ·replace h := hE7 _ (aA h)
    try dsimp only at h
    exact aS (p_13) h rfl (by simp only [go_sem])
  ·rintro p_11 h
   simp only [go_sem]
   replace h : sat (pI F x_6 s_0 p_11) _ := h
   unfold pI at h
   exact aF hF [.tmp 2, .tmp 3, .tmp 4] rfl rfl rfl (aA h) (by simp only [aR, go_sem])
attribute [go_sem] tJ
noncomputable def oV (F : Md) (slices_0 : (List (List (List Nat)))) (x27_13 : Int) (newslice_14 : (List (List Nat))) : Option ((Int × (List (List Nat))) ⊕ (List (List Nat))) :=
 if x27_13 < (((slices_0.length) : Nat) : Int) then ck (0 ≤ x27_13 ∧ x27_13 < (((slices_0.length) : Nat) : Int)) (ck (((newslice_14.length) + (slices_0.getD (x27_13.toNat) ([] : List (List Nat))).length) * 16 ≤ 140737488355328) (ck (I64 (x27_13 + (1 : Int))) (some (.inl ((x27_13 + (1 : Int)), (newslice_14 ++ (slices_0.getD (x27_13.toNat) ([] : List (List Nat))))))))) else some (.inr newslice_14)
noncomputable def lR (F : Md) (slices_0 : (List (List (List Nat)))) (size_6 : Int) : Option (List (List Nat)) :=
 (mB F size_6).bind (fun r_8 => (dM F (fun d : Int × (List (List Nat)) => oV F slices_0 d.1 d.2) ((0 : Int), r_8)).bind (fun e => some e))
noncomputable def pY (F : Md) (slices_0 : (List (List (List Nat)))) (size_18 : Int) (x11_19 : Int) : Option ((Int × Int) ⊕ (Int)) :=
 if x11_19 < (((slices_0.length) : Nat) : Int) then ck (0 ≤ x11_19 ∧ x11_19 < (((slices_0.length) : Nat) : Int)) (ck (I64 (size_18 + (((slices_0.getD (x11_19.toNat) ([] : List (List Nat))).length : Nat) : Int))) (if (size_18 + (((slices_0.getD (x11_19.toNat) ([] : List (List Nat))).length : Nat) : Int)) < (0 : Int) then none else ck (I64 (x11_19 + (1 : Int))) (some (.inl ((size_18 + (((slices_0.getD (x11_19.toNat) ([] : List (List Nat))).length : Nat) : Int)), (x11_19 + (1 : Int))))))) else some (.inr size_18)
noncomputable def bI (F : Md) (slices_0 : (List (List (List Nat)))) : Option (List (List Nat)) :=
 (dM F (fun d : Int × Int => pY F slices_0 d.1 d.2) ((0 : Int), (0 : Int))).bind (fun e => lR F slices_0 e)
def kJ : Ty := .pair (.sl (.sl .str)) .unit
attribute [go_sem] kJ
noncomputable def jL (F : Md) : aG := mSpec kJ (.one (.sl .str)) (fun x => bI F x.1)
noncomputable def tK (F : Md) : List (FuncId × aG) := []
theorem tL (F : Md) : bD Tryz.prog GL (tK F) := .nil
set_option maxHeartbeats 4000000 in
theorem aA2 (F : Md) : FOK Tryz.prog GL 136 (jL F) := by
 refine lU (aY (tL F)) Tryz.func136 rfl (by kernel_rfl) (by decide) fun w0 S x r hw h => ?_
 have hF : jP (fr Tryz.prog (EM (tK F)) S w0 Tryz.f136.ntmps) := ⟨aY (tL F), mix⟩
 obtain ⟨(slices_0 : (List (List (List Nat)))), u⟩ := x
 simp only [kJ, Ty.wf, nA] at hw
 simp only [bL, kJ]
 try dsimp only at h
 replace h : bI F slices_0 = some r := h
 unfold bI at h
 refine aB (aD hF [0] ?_)
 simp only [go_sem]
 refine aC (aB (aD hF [0, 3] ?_))
 simp only [go_sem]
 refine aC (lT (D := Int) (fun d => lR F slices_0 d = some r) [0] (fun d => [(3, .val (.i .i64) d)]) (fun d => []) ?_ ?_)
 ·refine aB (aD hF [0, 3, 9, 10, 11] ?_)
  simp only [go_sem]
  refine aC (gJ (uS (D := Int × Int) [0, 9, 10] (fun d => [(3, .val (.i .i64) d.1), (11, .val (.i .i64) d.2)]) (fun d => []) h ?_ ?_ ?_))
  ·first | rfl | (simp only [go_sem]; done)
  ·exact zAF
  rintro ⟨size_18, x11_19⟩ s3 h hs3
  simp only [go_sem]
  try dsimp only at h
  unfold pY at h
  refine aB (aD hF [0, 3, 9, 10, 11, 12] ?_)
  simp only [go_sem]
  refine aC (aB (cA rfl (fun hc => ?_) (fun hc => ?_)))
  ·try simp only [go_sem] at hc
   have h := hP zAB h
   refine dH (aC (aB (gJ (aB (aD hF [0, 3, 5, 9, 10, 11] ?_)))))
   simp only [go_sem]
   obtain ⟨g0, h⟩ := aT h
   repeat (refine ⟨zAA, ?_⟩)
   refine aC (aB (aD hF [0, 3, 9, 10, 11] ?_))
   simp only [go_sem]
   obtain ⟨g0, h⟩ := aT h
   try simp only [I64, I32] at g0
   repeat (refine ⟨zAA, ?_⟩)
   refine aC (aB (aD hF [0, 3, 9, 10, 11, 20] ?_))
   simp only [go_sem]
   refine aC (cA rfl (fun hc => ?_) (fun hc => ?_))
   ·try simp only [go_sem] at hc
    have h := hP zAB h
    cases h
   ·try simp only [go_sem] at hc
    have h := hU zAB h
    refine dH (dP (aC (aD hF [0, 3, 9, 10, 11] ?_)))
    simp only [go_sem]
    obtain ⟨g0, h⟩ := aT h
    try simp only [I64, I32] at g0
    repeat (refine ⟨zAA, ?_⟩)
    obtain rfl := Option.some.inj h
    dsimp only [uC] at hs3
    refine bE (aS ((size_18 + (((slices_0.getD (x11_19.toNat) ([] : List (List Nat))).length : Nat) : Int)), (x11_19 + (1 : Int))) hs3 rfl ?_)
    ·exact zAF
  ·try simp only [go_sem] at hc
   have h := hU zAB h
   obtain rfl := Option.some.inj h
   dsimp only [uC] at hs3
   have h := hs3
   try dsimp only at h
   refine vX (eN (eN (iJ (bE (aS (size_18) h rfl ?_)))))
   ·exact zAF
 ·rintro size_6 h
  try dsimp only at h
  simp only [go_sem]
  unfold lR at h
  obtain ⟨r_8, he1, h⟩ := bind_some h
  try dsimp only at h
  refine aB (bT hF (eC (l := [(202, ⟨fW F, [], (size_6, r_8)⟩)]) (.cons (aCn F) (by kernel_rfl) (.nil))) [0, 6] [] ?_)
  simp only [go_sem]
  repeat (refine ⟨zAA, ?_⟩)
  refine aC (aB (aB (aD hF [6, 25, 26, 27] ?_)))
  simp only [go_sem]
  refine aC (gJ (uS (D := Int × (List (List Nat))) [25, 26] (fun d => [(6, .own 0), (27, .val (.i .i64) d.1)]) (fun d => [.inr (.row 9 .str d.2)]) h ?_ ?_ ?_))
  ·first | rfl | (simp only [go_sem]; done)
  ·exact zAF
  rintro ⟨x27_13, newslice_14⟩ s11 h hs11
  simp only [go_sem]
  try dsimp only at h
  unfold oV at h
  refine aB (aD hF [6, 25, 26, 27, 28] ?_)
  simp only [go_sem]
  refine aC (aB (cA rfl (fun hc => ?_) (fun hc => ?_)))
  ·try simp only [go_sem] at hc
   have h := hP zAB h
   refine dH (aC (aB (gJ (aB (aD hF [6, 8, 25, 26, 27] ?_)))))
   simp only [go_sem]
   obtain ⟨g0, h⟩ := aT h
   repeat (refine ⟨zAA, ?_⟩)
   refine aC (aO hF [6, 25, 26, 27] ?_)
   simp only [go_sem]
   obtain ⟨g0, h⟩ := aT h
   repeat (refine ⟨zAA, ?_⟩)
   refine dP (aC (aD hF [6, 25, 26, 27] ?_))
   simp only [go_sem]
   obtain ⟨g0, h⟩ := aT h
   try simp only [I64, I32] at g0
   repeat (refine ⟨zAA, ?_⟩)
   obtain rfl := Option.some.inj h
   dsimp only [uC] at hs11
   refine bE (gQ [1] rfl rfl ?_)
   simp only [ren, gP, kA, posOf, eB, go_sem]
   refine aS ((x27_13 + (1 : Int)), (newslice_14 ++ (slices_0.getD (x27_13.toNat) ([] : List (List Nat))))) hs11 rfl ?_
   ·exact zAF
  ·try simp only [go_sem] at hc
   have h := hU zAB h
   obtain rfl := Option.some.inj h
   dsimp only [uC] at hs11
   have h := hs11
   try dsimp only at h
   refine vX (eN (eN (iJ (aC (aB (aD hF [2] ?_))))))
   simp only [go_sem]
   obtain rfl := Option.some.inj h
   refine aC (dB (fC hF [.tmp 2] rfl rfl rfl ?_))
   exact zAG
attribute [go_sem] jL
noncomputable def uY (F : Md) (l_0 : (List (List Nat))) (x9_12 : Int) (seen_13 : (List ((List Nat) × Bool))) : Option ((Int × (List ((List Nat) × Bool))) ⊕ ((Unit) ⊕ Bool)) :=
 if x9_12 < (((l_0.length) : Nat) : Int) then ck (0 ≤ x9_12 ∧ x9_12 < (((l_0.length) : Nat) : Int)) ((aV F (l_0.getD (x9_12.toNat) ([] : List Nat))).bind (fun v_25 => if (¬ (v_25 = true)) ∨ (((aCG .str seen_13 (l_0.getD (x9_12.toNat) ([] : List Nat))).getD false) = true) then some (.inr (.inr false)) else ck (I64 (x9_12 + (1 : Int))) (some (.inl ((x9_12 + (1 : Int)), (aNn .str seen_13 (l_0.getD (x9_12.toNat) ([] : List Nat)) true)))))) else some (.inr (.inl ()))
noncomputable def nY (F : Md) (l_0 : (List (List Nat))) : Option Bool :=
 (dM F (fun d : Int × (List ((List Nat) × Bool)) => uY F l_0 d.1 d.2) ((0 : Int), ([] : List ((List Nat) × Bool)))).bind (fun e => match e with | (.inl e) => some true | (.inr e) => some e)
def aC4 : PlR := ⟨[(0, .A [0]), (1, .B [0, 3]), (2, .A [3, 7, 8, 9]), (3, .A [3, 7, 8, 9, 10]), (4, .A [3, 5, 7, 8, 9]), (5, .A [3, 5, 7, 8, 9, 20]), (6, .A [2]), (7, .B [3, 7, 8, 9]), (8, .A [3, 7, 8, 9]), (9, .A [2])], []⟩
def aD2 : Ty := .pair (.sl .str) .unit
noncomputable def mU (F : Md) : aG := mSpec aD2 (.one .bool) (fun x => nY F x.1)
noncomputable def aD3 (F : Md) : List (FuncId × aG) := [(29, (nV F))]
theorem aKI (F : Md) : bD Tryz.prog GL (aD3 F) := .cons (aDV F) (by kernel_rfl) (.nil)
theorem aGQ (F : Md) : gam (aD3 F) 29 = some (nV F) := rfl
attribute [go_sem] aD2 aC4 aGQ
set_option maxHeartbeats 4000000 in
theorem aC5 (F : Md) : FOK Tryz.prog GL 68 (mU F) := by
 refine bH (aY (aKI F)) mix Tryz.func68 rfl (by kernel_rfl) (by decide) aC4 fun w0 S x Θ hw h hF => ?_
 obtain ⟨(l_0 : (List (List Nat))), u⟩ := x
 simp only [bL, go_sem]
 replace h : sat (nY F l_0) _ := h
 unfold nY at h
 refine bR hF (D := Int × (List ((List Nat) × Bool))) [7, 8] (fun d => [(3, .mp 0), (9, .val (.i .i64) d.1)]) (fun d => [.inr (.map .str .bool d.2)]) h rfl (by simp only [go_sem]) ?_
 rintro ⟨x9_12, seen_13⟩ A3 T3 hA3 hE3 h
 simp only [go_sem]
 replace h : sat (uY F l_0 x9_12 seen_13) _ := h
 unfold uY at h
 refine eE h (fun hc h => ?_) fun hc h => ?_
 ·refine aP h fun g0 h => ?_
  obtain ⟨v_25, hv, h⟩ := aI h
  try simp only [hv, go_sem]
  refine ⟨fun hc => ?_, fun hc => ?_⟩
  ·replace h := iU zAB h
   replace h := hE3 _ (aA h)
   try dsimp only at h
   exact aF hF [.tmp 2] rfl rfl rfl (aA h) (by simp only [aR, go_sem])
  ·replace h := iV zAB h
   refine aP h fun g0 h => ?_
   replace h := hA3 _ (aA h)
   exact aS _ h rfl (by simp only [go_sem])
 ·replace h := hE3 _ (aA h)
  try dsimp only at h
  exact aF hF [.tmp 2] rfl rfl rfl (aA h) (by simp only [aR, go_sem])
attribute [go_sem] mU
noncomputable def iQ (F : Md) (s_0 : (List Nat)) (prefix_1 : (List Nat)) : Option Bool :=
 ck (((((prefix_1.length) : Nat) : Int) ≤ (((s_0.length) : Nat) : Int)) → (0 ≤ (((prefix_1.length) : Nat) : Int) ∧ (((prefix_1.length) : Nat) : Int) ≤ (((s_0.length) : Nat) : Int))) (some ((decide ((((prefix_1.length) : Nat) : Int) ≤ (((s_0.length) : Nat) : Int))) && (decide ((List.take (prefix_1.length) s_0) = prefix_1))))
def pZ : PlR := ⟨[(0, .A [0, 1]), (1, .A [4])], []⟩
def qT : Ty := .pair .str (.pair .str .unit)
noncomputable def iC (F : Md) : aG := mSpec qT (.one .bool) (fun x => iQ F x.1 x.2.1)
noncomputable def aAD (F : Md) : List (FuncId × aG) := []
theorem aAE (F : Md) : bD Tryz.prog GL (aAD F) := .nil
attribute [go_sem] qT pZ
set_option maxHeartbeats 4000000 in
theorem zQ (F : Md) : FOK Tryz.prog GL 224 (iC F) := by
 refine bH (aY (aAE F)) mix Tryz.func224 rfl (by kernel_rfl) (by decide) pZ fun w0 S x Θ hw h hF => ?_
 obtain ⟨(s_0 : (List Nat)), (prefix_1 : (List Nat)), u⟩ := x
 simp only [bL, go_sem]
 replace h : sat (iQ F s_0 prefix_1) _ := h
 unfold iQ at h
 refine aP h fun g0 h => ?_
 exact aF hF [.tmp 4] rfl rfl rfl (aA h) (by simp only [aR, go_sem])
attribute [go_sem] iC
noncomputable def iR (F : Md) (s_0 : (List Nat)) (prefix_1 : (List Nat)) : Option ((List Nat) × (Bool × Unit)) :=
 (iQ F s_0 prefix_1).bind (fun v_8 => if ¬ (v_8 = true) then some (s_0, false, ()) else ck (0 ≤ (((prefix_1.length) : Nat) : Int) ∧ (((prefix_1.length) : Nat) : Int) ≤ (((s_0.length) : Nat) : Int)) (some ((List.drop (prefix_1.length) s_0), true, ())))
def qA : PlR := ⟨[(0, .A [0, 1]), (1, .A [0, 1, 9]), (2, .A [4, 5]), (3, .A [4, 5])], []⟩
def qU : Ty := .pair .str (.pair .str .unit)
noncomputable def iD (F : Md) : aG := mSpec qU (.tup (.pair .str (.pair .bool .unit))) (fun x => iR F x.1 x.2.1)
noncomputable def qV (F : Md) : List (FuncId × aG) := [(224, (iC F))]
theorem aAF (F : Md) : bD Tryz.prog GL (qV F) := .cons (zQ F) (by kernel_rfl) (.nil)
theorem wM (F : Md) : gam (qV F) 224 = some (iC F) := rfl
attribute [go_sem] qU qA wM
set_option maxHeartbeats 4000000 in
theorem zR (F : Md) : FOK Tryz.prog GL 257 (iD F) := by
 refine bH (aY (aAF F)) mix Tryz.func257 rfl (by kernel_rfl) (by decide) qA fun w0 S x Θ hw h hF => ?_
 obtain ⟨(s_0 : (List Nat)), (prefix_1 : (List Nat)), u⟩ := x
 simp only [bL, go_sem]
 replace h : sat (iR F s_0 prefix_1) _ := h
 unfold iR at h
 obtain ⟨v_8, hv, h⟩ := aI h
 try simp only [hv, go_sem]
 refine aAt h (fun hc h => ?_) fun hc h => ?_
 ·exact aF hF [.tmp 4, .tmp 5] rfl rfl rfl (aA h) (by simp only [aR, go_sem])
 ·refine aP h fun g0 h => ?_
  exact aF hF [.tmp 4, .tmp 5] rfl rfl rfl (aA h) (by simp only [aR, go_sem])
attribute [go_sem] iD
noncomputable def mK (F : Md) (s_0 : (List Nat)) (prefix_1 : (List Nat)) : Option ((List Nat) × (Bool × Unit)) :=
 (iR F s_0 prefix_1).bind (fun v_6 => some (v_6.1, v_6.2.1, ()))
def wC : PlR := ⟨[(0, .A [0, 1]), (1, .A [4, 5])], []⟩
def wS : Ty := .pair .str (.pair .str .unit)
noncomputable def mC (F : Md) : aG := mSpec wS (.tup (.pair .str (.pair .bool .unit))) (fun x => mK F x.1 x.2.1)
noncomputable def wT (F : Md) : List (FuncId × aG) := [(257, (iD F))]
theorem aDz (F : Md) : bD Tryz.prog GL (wT F) := .cons (zR F) (by kernel_rfl) (.nil)
theorem aA3 (F : Md) : gam (wT F) 257 = some (iD F) := rfl
attribute [go_sem] wS wC aA3
set_option maxHeartbeats 4000000 in
theorem aC6 (F : Md) : FOK Tryz.prog GL 240 (mC F) := by
 refine bH (aY (aDz F)) mix Tryz.func240 rfl (by kernel_rfl) (by decide) wC fun w0 S x Θ hw h hF => ?_
 obtain ⟨(s_0 : (List Nat)), (prefix_1 : (List Nat)), u⟩ := x
 simp only [bL, go_sem]
 replace h : sat (mK F s_0 prefix_1) _ := h
 unfold mK at h
 obtain ⟨v_6, hv, h⟩ := aI h
 try simp only [hv, go_sem]
 exact aF hF [.tmp 4, .tmp 5] rfl rfl rfl (aA h) (by simp only [aR, go_sem])
attribute [go_sem] mC
noncomputable def qW (F : Md) (s_0 : (List Nat)) : Option (Bool × ((List Nat) × ((List Nat) × (Bool × Unit)))) :=
 (mK F s_0 (aH ⟨#[45]⟩)).bind (fun v_5 => (aAh F v_5.1).bind (fun v_9 => some ((v_5.2.1 && (decide ((0 : Int) < (((v_9.1.length) : Nat) : Int)))), v_9.1, v_9.2.1, v_9.2.2.1, ())))
def aC7 : PlR := ⟨[(0, .A [0]), (1, .A [6, 7]), (2, .A [7, 8, 9, 10]), (3, .A [2, 3, 4, 5])], []⟩
def aD4 : Ty := .pair .str .unit
noncomputable def tM (F : Md) : aG := mSpec aD4 (.tup (.pair .bool (.pair (.sl (.u .u64)) (.pair (.sl (.u .u64)) (.pair .bool .unit))))) (fun x => qW F x.1)
noncomputable def aAG (F : Md) : List (FuncId × aG) := [(116, (xQ F)), (240, (mC F))]
theorem aKJ (F : Md) : bD Tryz.prog GL (aAG F) := .cons (aL5 F) (by kernel_rfl) (.cons (aC6 F) (by kernel_rfl) (.nil))
theorem aFQ (F : Md) : gam (aAG F) 116 = some (xQ F) := rfl
theorem aFR (F : Md) : gam (aAG F) 240 = some (mC F) := rfl
attribute [go_sem] aD4 aC7 aFQ aFR
set_option maxHeartbeats 4000000 in
theorem aKb (F : Md) : FOK Tryz.prog GL 203 (tM F) := by
 refine bH (aY (aKJ F)) mix Tryz.func203 rfl (by kernel_rfl) (by decide) aC7 fun w0 S x Θ hw h hF => ?_
 obtain ⟨(s_0 : (List Nat)), u⟩ := x
 simp only [bL, go_sem]
 replace h : sat (qW F s_0) _ := h
 unfold qW at h
 obtain ⟨v_5, hv, h⟩ := aI h
 try simp only [hv, go_sem]
 obtain ⟨v_9, hv, h⟩ := aI h
 try simp only [hv, go_sem]
 exact aF hF [.tmp 2, .tmp 3, .tmp 4, .tmp 5] rfl rfl rfl (aA h) (by simp only [aR, go_sem])
attribute [go_sem] tM
noncomputable def mD (F : Md) (r_0 : ((List Nat) × ((List Nat) × Unit))) (hi_2 : (List Nat)) : Option (Bool) :=
 (qW F r_0.1).bind (fun v_6 => (qW F hi_2).bind (fun v_10 => (gK F v_6.2.1 v_10.2.2.1).bind (fun v_20 => (gK F v_10.2.1 v_6.2.2.1).bind (fun v_21 => (oQ F v_20 v_21).bind (fun v_22 => if (¬ (v_6.2.2.2.1 = true)) ∨ (¬ (v_10.2.2.2.1 = true)) then some false else if (v_6.1 != v_10.1) = true then some v_6.1 else if v_6.1 = true then some (decide ((0 : Int) ≤ v_22)) else some (decide (v_22 ≤ (0 : Int))))))))
noncomputable def iX (F : Md) (r_0 : ((List Nat) × ((List Nat) × Unit))) : Option Bool :=
 if r_0.2.1 = (aH ⟨#[]⟩) then mD F r_0 r_0.1 else mD F r_0 r_0.2.1
def aCa : PlR := ⟨[(0, .B [1]), (1, .A [1, 3]), (2, .A [1, 3, 16]), (3, .A [1, 3]), (4, .A [3, 4, 5, 6, 7]), (5, .A [4, 5, 6, 7, 8, 9, 10, 11]), (6, .A [4, 7, 8, 11, 12]), (7, .A [2]), (8, .A [4, 8, 12, 43]), (9, .A [2]), (10, .A [4, 12, 50]), (11, .A [2]), (12, .A [12, 55]), (13, .A [2])], [(5, 7)]⟩
def aC8 : Ty := .pair (.pair .str (.pair .str .unit)) .unit
noncomputable def rH (F : Md) : aG := mSpec aC8 (.one .bool) (fun x => iX F x.1)
noncomputable def tN (F : Md) : List (FuncId × aG) := [(122, (lZ F)), (203, (tM F)), (94, (eP F))]
theorem aKc (F : Md) : bD Tryz.prog GL (tN F) := .cons (aBG F) (by kernel_rfl) (.cons (aKb F) (by kernel_rfl) (.cons (pB F) (by kernel_rfl) (.nil)))
theorem aEB (F : Md) : gam (tN F) 122 = some (lZ F) := rfl
theorem aEC (F : Md) : gam (tN F) 203 = some (tM F) := rfl
theorem aFS (F : Md) : gam (tN F) 94 = some (eP F) := rfl
attribute [go_sem] aC8 aCa aEB aEC aFS
set_option maxHeartbeats 4000000 in
theorem aIn (F : Md) : FOK Tryz.prog GL 138 (rH F) := by
 refine bH (aY (aKc F)) mix Tryz.func138 rfl (by kernel_rfl) (by decide) aCa fun w0 S x Θ hw h hF => ?_
 obtain ⟨(r_0 : ((List Nat) × ((List Nat) × Unit))), u⟩ := x
 simp only [bL, go_sem]
 replace h : sat (iX F r_0) _ := h
 unfold iX at h
 refine dZ hF (D := (List Nat)) (fun d => sat (mD F r_0 d) Θ) [] (fun d => [(1, .ptr 0 []), (3, .val .str d)]) (fun d => [.inr (.box 2 (.val (.pair .str (.pair .str .unit)) r_0))]) ?_ ?_
 ·simp only [go_sem]
  refine dR h (fun hc h => ?_) fun hc h => ?_
  ·exact aS r_0.1 h rfl (by simp only [go_sem])
  ·exact aS r_0.2.1 h rfl (by simp only [go_sem])
 ·rintro hi_2 h
  simp only [go_sem]
  replace h : sat (mD F r_0 hi_2) _ := h
  unfold mD at h
  obtain ⟨v_6, hv, h⟩ := aI h
  try simp only [hv, go_sem]
  obtain ⟨v_10, hv, h⟩ := aI h
  try simp only [hv, go_sem]
  obtain ⟨v_20, hv, h⟩ := aI h
  try simp only [hv, go_sem]
  obtain ⟨v_21, hv, h⟩ := aI h
  try simp only [hv, go_sem]
  obtain ⟨v_22, hv, h⟩ := aI h
  try simp only [hv, go_sem]
  refine ⟨fun hc => ?_, fun hc => ?_⟩
  ·replace h := iU zAB h
   exact aF hF [.tmp 2] rfl rfl rfl (aA h) (by simp only [aR, go_sem])
  ·replace h := iV zAB h
   refine aHg h (fun hc h => ?_) fun hc h => ?_
   ·exact aF hF [.tmp 2] rfl rfl rfl (aA h) (by simp only [aR, go_sem])
   ·refine aHg h (fun hc h => ?_) fun hc h => ?_
    ·exact aF hF [.tmp 2] rfl rfl rfl (aA h) (by simp only [aR, go_sem])
    ·exact aF hF [.tmp 2] rfl rfl rfl (aA h) (by simp only [aR, go_sem])
attribute [go_sem] rH
end Nu
end Go.Proofs
namespace Go.Proofs
open Go.Vc
set_option maxRecDepth 20000
namespace Nu
attribute [-go_sem] Ex.kind Ex.text Ex.l
@[go_sem] theorem aTg (k : Int) (t : List Nat) (l : List Ex) : Ex.l (.mk k t l) = l := rfl
@[go_sem] theorem aTh (k : Int) (t : List Nat) (l : List Ex) : Ex.kind (.mk k t l) = k := rfl
@[go_sem] theorem aTi (k : Int) (t : List Nat) (l : List Ex) : Ex.text (.mk k t l) = t := rfl
noncomputable def wU (F : Md) (g : Ex → Int → Int → Int → Option (Int × Int)) (e_0 : Ex) (at_1 : Int) (x23_10 : Int) (x_11 : Int) (x_12 : Int) : Option ((Int × Int × Int) ⊕ (Int × Int)) :=
 if x23_10 < (((e_0.l).length : Nat) : Int) then ck (0 ≤ x23_10 ∧ x23_10 < (((e_0.l).length : Nat) : Int)) (ck (I64 (at_1 + (1 : Int))) ((g ((e_0.l).getD (x23_10.toNat) (Ex.mk 0 [] [])) (at_1 + (1 : Int)) x_11 x_12).bind (fun r_20 => ck (I64 (x23_10 + (1 : Int))) (some (.inl ((x23_10 + (1 : Int)), r_20.1, r_20.2)))))) else some (.inr (x_11, x_12))
noncomputable def pK (F : Md) (g : Ex → Int → Int → Int → Option (Int × Int)) (e_0 : Ex) (at_1 : Int) (o0_5 : Int) (o1_6 : Int) : Option (Int × Int) :=
 ck (I64 (o0_5 + (1 : Int))) (if ((60 : Int) < (o0_5 + (1 : Int))) ∨ ((30 : Int) < at_1) then some ((o0_5 + (1 : Int)), (max o1_6 at_1)) else (dM F (fun d : Int × Int × Int => wU F g e_0 at_1 d.1 d.2.1 d.2.2) ((0 : Int), (o0_5 + (1 : Int)), (max o1_6 at_1))).bind (fun e => some (e.1, e.2)))
noncomputable def pL (g : Ex → Int → Int → Int → Option (Int × Int)) : oD where
 D := Ex × Int × Int × Int × (Int × Int)
 av := fun d => [.val .expr d.1, .val (.i .i64) d.2.1, .ptr 0 [], .ptr 1 [], .ptr 2 []]
 hp := fun d => [.box 1 (.val (.i .i64) d.2.2.1), .box 1 (.val (.i .i64) d.2.2.2.1), .box 1 (.fn 197 [] [0, 1, 2])]
 m := 3
 pre := fun d => g d.1 d.2.1 d.2.2.1 d.2.2.2.1 = some d.2.2.2.2
 out := fun d => (fun r : (Int × Int) => .ret (.tup []) [.box 1 (.val (.i .i64) r.1), .box 1 (.val (.i .i64) r.2), .box 1 (.fn 197 [] [0, 1, 2])]) d.2.2.2.2
attribute [go_sem] pL
noncomputable def aA4 (F : Md) (g : Ex → Int → Int → Int → Option (Int × Int)) : oD where
 D := Ex × Int × Int × Int × (Int × Int)
 av := fun d => [.val .expr d.1, .val (.i .i64) d.2.1, .ptr 0 [], .ptr 1 [], .ptr 2 []]
 hp := fun d => [.box 1 (.val (.i .i64) d.2.2.1), .box 1 (.val (.i .i64) d.2.2.2.1), .box 1 (.fn 197 [] [0, 1, 2])]
 m := 3
 pre := fun d => pK F g d.1 d.2.1 d.2.2.1 d.2.2.2.1 = some d.2.2.2.2
 out := fun d => (fun r : (Int × Int) => .ret (.tup []) [.box 1 (.val (.i .i64) r.1), .box 1 (.val (.i .i64) r.2), .box 1 (.fn 197 [] [0, 1, 2])]) d.2.2.2.2
noncomputable def aC9 (F : Md) (g : Ex → Int → Int → Int → Option (Int × Int)) : List (FuncId × aG) := []
theorem aDa (F : Md) (g : Ex → Int → Int → Int → Option (Int × Int)) (hg : GOK Tryz.prog GL 197 (pL g)) : bD Tryz.prog GL (aC9 F g) := .nil
set_option maxHeartbeats 4000000 in
theorem aGR (F : Md) (g : Ex → Int → Int → Int → Option (Int × Int)) (hg : GOK Tryz.prog GL 197 (pL g)) : GOK Tryz.prog GL 197 (aA4 F g) := by
 refine yO (aY (aDa F g hg)) Tryz.func197 rfl (by kernel_rfl) (fun _ => Nat.le_of_ble_eq_true rfl) fun c0 w0 d hw1 hw2 h hn => ?_
 have hF : jP ⟨Tryz.prog, EM (aC9 F g), GM (aA4 F g) c0 d, w0, Tryz.f197.ntmps, []⟩ := ⟨aY (aDa F g hg), mix⟩
 obtain ⟨(e_0 : Ex), (at_1 : Int), (o0_5 : Int), (o1_6 : Int), r⟩ := d
 replace h : pK F g e_0 at_1 o0_5 o1_6 = some r := h
 have hw1 : AV.wfL [.val .expr e_0, .val (.i .i64) at_1, .ptr 0 [], .ptr 1 [], .ptr 2 []] := hw1
 simp only [AV.wfL, AV.wfV, Ty.wf, nA] at hw1
 show Tri _ _ _ [(0, .val .expr e_0), (1, .val (.i .i64) at_1), (2, .ptr 0 []), (3, .ptr 1 []), (4, .ptr 2 [])] [.box 1 (.val (.i .i64) o0_5), .box 1 (.val (.i .i64) o1_6), .box 1 (.fn 197 [] [0, 1, 2])]
 unfold pK at h
 refine aB (aO hF [1, 2, 3, 4, 5] ?_)
 simp only [go_sem]
 refine aC (aB (aO hF [1, 2, 3, 4, 5] ?_))
 simp only [go_sem]
 obtain ⟨g0, h⟩ := aT h
 try simp only [I64, I32] at g0
 repeat (refine ⟨zAA, ?_⟩)
 refine aC (aB (aO hF [1, 2, 4, 5] ?_))
 simp only [go_sem]
 refine aC (aB (aB (aD hF [1, 4, 5, 19] ?_)))
 simp only [go_sem]
 refine aC (cA rfl (fun hc => ?_) (fun hc => ?_))
 ·try simp only [go_sem] at hc
  have h := hP zAB h
  obtain rfl := Option.some.inj h
  refine dB (dF (gQ [0, 1, 2] rfl rfl ?_))
  simp only [ren, gP, kA, posOf, eB, go_sem]
  refine aFh hF [] rfl rfl rfl rfl rfl rfl ?_
  (try simp only [aR, aFg, aEo, hN, rR, AV.isAgg, go_sem]) <;> first | trivial | rfl | (simp; done)
 ·try simp only [go_sem] at hc
  have h := hU zAB h
  refine dH (aC (aB (aD hF [1, 4, 21, 22, 23] ?_)))
  simp only [go_sem]
  refine aC (gJ (aFe [0, 1, 2] rfl rfl ?_))
  simp only [ren, gP, kA, posOf, eB, go_sem]
  refine uS (D := Int × Int × Int) [1, 21, 22] (fun d => [(4, .ptr 2 []), (23, .val (.i .i64) d.1)]) (fun d => [.inr (.box 1 (.val (.i .i64) d.2.1)), .inr (.box 1 (.val (.i .i64) d.2.2)), .inr (.box 1 (.fn 197 [] [0, 1, 2]))]) h ?_ ?_ ?_
  ·first | rfl | (simp only [go_sem]; done)
  ·exact zAF
  rintro ⟨x23_10, x_11, x_12⟩ s5 h hs5
  simp only [go_sem]
  try dsimp only at h
  unfold wU at h
  refine aB (aD hF [1, 4, 21, 22, 23, 24] ?_)
  simp only [go_sem]
  refine aC (aB (cA rfl (fun hc => ?_) (fun hc => ?_)))
  ·try simp only [go_sem] at hc
   have h := hP zAB h
   refine dH (aC (aB (gJ (aB (aO hF [1, 4, 8, 21, 22, 23] ?_)))))
   simp only [go_sem]
   obtain ⟨g0, h⟩ := aT h
   repeat (refine ⟨zAA, ?_⟩)
   obtain ⟨g0, h⟩ := aT h
   try simp only [I64, I32] at g0
   obtain ⟨r_20, he1, h⟩ := bind_some h
   try dsimp only at h
   refine aC (bT hF (eC (l := [(197, ⟨(pL g), [0, 1, 2], (((e_0.l).getD (x23_10.toNat) (Ex.mk 0 [] [])), (at_1 + (1 : Int)), x_11, x_12, r_20)⟩)]) (.cons hg (by kernel_rfl) (.nil))) [1, 4, 21, 22, 23] [] ?_)
   simp only [go_sem]
   repeat (refine ⟨by first | with_reducible assumption | omega | (intros; first | with_reducible assumption | omega) | (simp only [go_sem] at *; first | with_reducible assumption | omega) | (intro _; exact ⟨rfl, by decide⟩) | (intro _; refine (?_ : _ = aX _); rfl) | exact ⟨rfl, rfl⟩ | decide | ((repeat' apply And.intro) <;> first | assumption | rfl | omega) | fail, ?_⟩)
   refine dP (aC (aD hF [1, 4, 21, 22, 23] ?_))
   simp only [go_sem]
   obtain ⟨g0, h⟩ := aT h
   try simp only [I64, I32] at g0
   repeat (refine ⟨zAA, ?_⟩)
   obtain rfl := Option.some.inj h
   dsimp only [uC] at hs5
   refine bE (gQ [0, 1, 2] rfl rfl ?_)
   simp only [ren, gP, kA, posOf, eB, go_sem]
   refine aS ((x23_10 + (1 : Int)), r_20.1, r_20.2) hs5 rfl ?_
   ·exact zAF
  ·try simp only [go_sem] at hc
   have h := hU zAB h
   obtain rfl := Option.some.inj h
   dsimp only [uC] at hs5
   have h := hs5
   try dsimp only at h
   obtain rfl := Option.some.inj h
   refine vX (eN (eN (iJ (aIH (aFh hF [] rfl rfl rfl rfl rfl rfl ?_)))))
   (try simp only [aR, aFg, aEo, hN, rR, AV.isAgg, go_sem]) <;> first | trivial | rfl | (simp; done)
noncomputable def zE (F : Md) : Nat → Ex → Int → Int → Int → Option (Int × Int)
 | 0 => fun _ _ _ _ => none
 | n + 1 => pK F (zE F n)
noncomputable def wN (F : Md) (n : Nat) : oD where
 D := Ex × Int × Int × Int × (Int × Int)
 av := fun d => [.val .expr d.1, .val (.i .i64) d.2.1, .ptr 0 [], .ptr 1 [], .ptr 2 []]
 hp := fun d => [.box 1 (.val (.i .i64) d.2.2.1), .box 1 (.val (.i .i64) d.2.2.2.1), .box 1 (.fn 197 [] [0, 1, 2])]
 m := 3
 pre := fun d => zE F n d.1 d.2.1 d.2.2.1 d.2.2.2.1 = some d.2.2.2.2
 out := fun d => (fun r : (Int × Int) => .ret (.tup []) [.box 1 (.val (.i .i64) r.1), .box 1 (.val (.i .i64) r.2), .box 1 (.fn 197 [] [0, 1, 2])]) d.2.2.2.2
theorem aCb (F : Md) : ∀ n, GOK Tryz.prog GL 197 (wN F n)
 | 0 => fun _ _ _ _ hp _ => absurd (show none = some _ from hp) (by simp)
 | n + 1 => aGR F _ (aCb F n)
attribute [go_sem] wN
noncomputable def xT (F : Md) (e_0 : Ex) : Option (Int × (Int × Unit)) :=
 (zE F 64 e_0 (1 : Int) (0 : Int) (0 : Int)).bind (fun r_3 => some (r_3.1, r_3.2, ()))
def xU : Ty := .pair .expr .unit
attribute [go_sem] xU
noncomputable def vL (F : Md) : aG := mSpec xU (.tup (.pair (.i .i64) (.pair (.i .i64) .unit))) (fun x => xT F x.1)
noncomputable def aFT (F : Md) : List (FuncId × aG) := []
theorem aFU (F : Md) : bD Tryz.prog GL (aFT F) := .nil
set_option maxHeartbeats 4000000 in
theorem aKK (F : Md) : FOK Tryz.prog GL 126 (vL F) := by
 refine lU (aY (aFU F)) Tryz.func126 rfl (by kernel_rfl) (by decide) fun w0 S x r hw h => ?_
 have hF : jP (fr Tryz.prog (EM (aFT F)) S w0 Tryz.f126.ntmps) := ⟨aY (aFU F), mix⟩
 obtain ⟨(e_0 : Ex), u⟩ := x
 simp only [xU, Ty.wf, nA] at hw
 simp only [bL, xU]
 try dsimp only at h
 replace h : xT F e_0 = some r := h
 unfold xT at h
 refine aB (aO hF [1, 2, 3] ?_)
 simp only [go_sem]
 refine aC (aB (aO hF [1, 2, 3, 4] ?_))
 simp only [go_sem]
 refine aC (aB (aO hF [1, 2, 3, 4] ?_))
 simp only [go_sem]
 obtain ⟨r_3, he1, h⟩ := bind_some h
 try dsimp only at h
 refine aC (aB (bT hF (eC (l := [(197, ⟨(wN F 64), [1, 2, 3], (e_0, (1 : Int), (0 : Int), (0 : Int), r_3)⟩)]) (.cons (aCb F 64) (by kernel_rfl) (.nil))) [2, 3] [] ?_))
 simp only [go_sem]
 repeat (refine ⟨by first | with_reducible assumption | omega | (intros; first | with_reducible assumption | omega) | (simp only [go_sem] at *; first | with_reducible assumption | omega) | (intro _; exact ⟨rfl, by decide⟩) | (intro _; refine (?_ : _ = aX _); rfl) | exact ⟨rfl, rfl⟩ | decide | ((repeat' apply And.intro) <;> first | assumption | rfl | omega) | fail, ?_⟩)
 refine aC (aB (aHf hF [2, 3] [(2, .ptr 1 []), (3, .ptr 2 [])] [.box 3 (.val .expr e_0), .box 1 (.val (.i .i64) r_3.1), .box 1 (.val (.i .i64) r_3.2), .box 1 (.fn 197 [] [1, 2, 3])] (by decide) ?_ ?_))
 ·simp only [go_sem]
  unfold anyS
  intro i hi
  have hi : i = 0 ∨ i = 1 := by revert hi; revert i; decide
  rcases hi with rfl | rfl
  ·simp only [go_sem]
   repeat (refine ⟨zAA, ?_⟩)
   unfold anyS
   intro i hi
   have hi : i = 1 ∨ i = 2 := by revert hi; revert i; decide
   rcases hi with rfl | rfl
   ·simp only [go_sem]
    repeat (refine ⟨zAA, ?_⟩)
    unfold anyS
    intro i hi
    have hi : i = 2 := by revert hi; revert i; decide
    subst hi
    simp only [go_sem]
    repeat (refine ⟨zAA, ?_⟩)
    unfold anyS
    intro i hi
    have hi : i = 3 := by revert hi; revert i; decide
    subst hi
    simp only [go_sem]
    repeat (refine ⟨zAA, ?_⟩)
    (simp only [anyS, go_sem]) <;> first | exact ⟨rfl, rfl⟩ | trivial
   ·simp only [go_sem]
    repeat (refine ⟨zAA, ?_⟩)
    unfold anyS
    intro i hi
    have hi : i = 1 := by revert hi; revert i; decide
    subst hi
    simp only [go_sem]
    repeat (refine ⟨zAA, ?_⟩)
    unfold anyS
    intro i hi
    have hi : i = 3 := by revert hi; revert i; decide
    subst hi
    simp only [go_sem]
    repeat (refine ⟨zAA, ?_⟩)
    (simp only [anyS, go_sem]) <;> first | exact ⟨rfl, rfl⟩ | trivial
  ·simp only [go_sem]
   repeat (refine ⟨zAA, ?_⟩)
   unfold anyS
   intro i hi
   have hi : i = 0 := by revert hi; revert i; decide
   subst hi
   simp only [go_sem]
   repeat (refine ⟨zAA, ?_⟩)
   unfold anyS
   intro i hi
   have hi : i = 2 := by revert hi; revert i; decide
   subst hi
   simp only [go_sem]
   repeat (refine ⟨zAA, ?_⟩)
   unfold anyS
   intro i hi
   have hi : i = 3 := by revert hi; revert i; decide
   subst hi
   simp only [go_sem]
   repeat (refine ⟨zAA, ?_⟩)
   (simp only [anyS, go_sem]) <;> first | exact ⟨rfl, rfl⟩ | trivial
 obtain rfl := Option.some.inj h
 refine aC (dB (fC hF [.cell 2 3, .cell 3 3] rfl rfl rfl ?_))
 exact zAG
attribute [go_sem] vL
noncomputable def aAj (F : Md) (e_0 : Ex) : Option Bool :=
 (xT F e_0).bind (fun v_5 => some ((decide (v_5.1 ≤ (60 : Int))) && (decide (v_5.2.1 ≤ (30 : Int)))))
def aFV : PlR := ⟨[(0, .B [1]), (1, .A [3, 4]), (2, .A [2])], []⟩
def aHM : Ty := .pair .expr .unit
noncomputable def xV (F : Md) : aG := mSpec aHM (.one .bool) (fun x => aAj F x.1)
noncomputable def aHN (F : Md) : List (FuncId × aG) := [(126, (vL F))]
theorem aNa (F : Md) : bD Tryz.prog GL (aHN F) := .cons (aKK F) (by kernel_rfl) (.nil)
theorem aIo (F : Md) : gam (aHN F) 126 = some (vL F) := rfl
attribute [go_sem] aHM aFV aIo
set_option maxHeartbeats 4000000 in
theorem aL8 (F : Md) : FOK Tryz.prog GL 63 (xV F) := by
 refine bH (aY (aNa F)) mix Tryz.func63 rfl (by kernel_rfl) (by decide) aFV fun w0 S x Θ hw h hF => ?_
 obtain ⟨(e_0 : Ex), u⟩ := x
 simp only [bL, go_sem]
 replace h : sat (aAj F e_0) _ := h
 unfold aAj at h
 obtain ⟨v_5, hv, h⟩ := aI h
 try simp only [hv, go_sem]
 exact aF hF [.tmp 2] rfl rfl rfl (aA h) (by simp only [aR, go_sem])
attribute [go_sem] xV
noncomputable def lV (F : Md) (x12_7 : Bool) : Option (Int) :=
 if x12_7 = true then some (1 : Int) else some (-1 : Int)
noncomputable def lW (F : Md) (kind_0 : Int) (x7_6 : Bool) : Option (Int) :=
 if x7_6 = true then some (2 : Int) else if kind_0 = (10 : Int) then lV F (decide (kind_0 = (10 : Int))) else if kind_0 = (11 : Int) then lV F (decide (kind_0 = (11 : Int))) else if kind_0 = (12 : Int) then lV F (decide (kind_0 = (12 : Int))) else lV F (decide (kind_0 = (13 : Int)))
noncomputable def rI (F : Md) (kind_0 : Int) (x4_5 : Bool) : Option (Int) :=
 if x4_5 = true then some (0 : Int) else if kind_0 = (6 : Int) then lW F kind_0 (decide (kind_0 = (6 : Int))) else if kind_0 = (7 : Int) then lW F kind_0 (decide (kind_0 = (7 : Int))) else if kind_0 = (8 : Int) then lW F kind_0 (decide (kind_0 = (8 : Int))) else lW F kind_0 (decide (kind_0 = (9 : Int)))
noncomputable def tO (F : Md) (kind_0 : Int) : Option Int :=
 if kind_0 = (1 : Int) then rI F kind_0 (decide (kind_0 = (1 : Int))) else rI F kind_0 (decide (kind_0 = (2 : Int)))
def xW : Ty := .pair (.i .i64) .unit
attribute [go_sem] xW
noncomputable def vM (F : Md) : aG := mSpec xW (.one (.i .i64)) (fun x => tO F x.1)
noncomputable def aFW (F : Md) : List (FuncId × aG) := []
theorem aFX (F : Md) : bD Tryz.prog GL (aFW F) := .nil
set_option maxHeartbeats 4000000 in
theorem aKL (F : Md) : FOK Tryz.prog GL 127 (vM F) := by
 refine lU (aY (aFX F)) Tryz.func127 rfl (by kernel_rfl) (by decide) fun w0 S x r hw h => ?_
 have hF : jP (fr Tryz.prog (EM (aFW F)) S w0 Tryz.f127.ntmps) := ⟨aY (aFX F), mix⟩
 obtain ⟨(kind_0 : Int), u⟩ := x
 simp only [xW, Ty.wf, nA] at hw
 simp only [bL, xW]
 try dsimp only at h
 replace h : tO F kind_0 = some r := h
 unfold tO at h
 refine aB (aD hF [0] ?_)
 simp only [go_sem]
 refine aC (aB (aB (aD hF [3] ?_)))
 simp only [go_sem]
 refine aC (gJ (lT (D := Bool) (fun d => rI F kind_0 d = some r) [3] (fun d => [(4, .val .bool d)]) (fun d => []) ?_ ?_))
 ·refine aB (aD hF [3, 4] ?_)
  simp only [go_sem]
  refine aC (cA rfl (fun hc => ?_) (fun hc => ?_))
  ·try simp only [go_sem] at hc
   have h := hP zAB h
   refine dH (bE (aS (decide (kind_0 = (1 : Int))) h rfl ?_))
   ·exact zAF
  ·try simp only [go_sem] at hc
   have h := hU zAB h
   refine aD hF [3, 4] ?_
   simp only [go_sem]
   refine bE (aS (decide (kind_0 = (2 : Int))) h rfl ?_)
   ·exact zAF
 ·rintro x4_5 h
  try dsimp only at h
  simp only [go_sem]
  unfold rI at h
  refine cA rfl (fun hc => ?_) (fun hc => ?_)
  ·try simp only [go_sem] at hc
   have h := hP zAB h
   refine aB (aD hF [2] ?_)
   simp only [go_sem]
   obtain rfl := Option.some.inj h
   refine aC (dB (jY (dF (fC hF [.tmp 2] rfl rfl rfl ?_))))
   exact zAG
  ·try simp only [go_sem] at hc
   have h := hU zAB h
   refine lT (D := Bool) (fun d => lW F kind_0 d = some r) [3] (fun d => [(7, .val .bool d)]) (fun d => []) ?_ ?_
   ·refine aB (aD hF [3, 7] ?_)
    simp only [go_sem]
    refine aC (cA rfl (fun hc => ?_) (fun hc => ?_))
    ·try simp only [go_sem] at hc
     have h := hP zAB h
     refine dH (bE (aS (decide (kind_0 = (6 : Int))) h rfl ?_))
     ·exact zAF
    ·try simp only [go_sem] at hc
     have h := hU zAB h
     refine aB (aD hF [3, 7] ?_)
     simp only [go_sem]
     refine aC (cA rfl (fun hc => ?_) (fun hc => ?_))
     ·try simp only [go_sem] at hc
      have h := hP zAB h
      refine dH (bE (aS (decide (kind_0 = (7 : Int))) h rfl ?_))
      ·exact zAF
     ·try simp only [go_sem] at hc
      have h := hU zAB h
      refine aB (aD hF [3, 7] ?_)
      simp only [go_sem]
      refine aC (cA rfl (fun hc => ?_) (fun hc => ?_))
      ·try simp only [go_sem] at hc
       have h := hP zAB h
       refine dH (bE (aS (decide (kind_0 = (8 : Int))) h rfl ?_))
       ·exact zAF
      ·try simp only [go_sem] at hc
       have h := hU zAB h
       refine aD hF [3, 7] ?_
       simp only [go_sem]
       refine bE (aS (decide (kind_0 = (9 : Int))) h rfl ?_)
       ·exact zAF
   ·rintro x7_6 h
    try dsimp only at h
    simp only [go_sem]
    unfold lW at h
    refine cA rfl (fun hc => ?_) (fun hc => ?_)
    ·try simp only [go_sem] at hc
     have h := hP zAB h
     refine aB (aD hF [2] ?_)
     simp only [go_sem]
     obtain rfl := Option.some.inj h
     refine aC (dB (jY (dF (fC hF [.tmp 2] rfl rfl rfl ?_))))
     exact zAG
    ·try simp only [go_sem] at hc
     have h := hU zAB h
     refine lT (D := Bool) (fun d => lV F d = some r) [] (fun d => [(12, .val .bool d)]) (fun d => []) ?_ ?_
     ·refine aB (aD hF [3, 12] ?_)
      simp only [go_sem]
      refine aC (cA rfl (fun hc => ?_) (fun hc => ?_))
      ·try simp only [go_sem] at hc
       have h := hP zAB h
       refine dH (bE (aS (decide (kind_0 = (10 : Int))) h rfl ?_))
       ·exact zAF
      ·try simp only [go_sem] at hc
       have h := hU zAB h
       refine aB (aD hF [3, 12] ?_)
       simp only [go_sem]
       refine aC (cA rfl (fun hc => ?_) (fun hc => ?_))
       ·try simp only [go_sem] at hc
        have h := hP zAB h
        refine dH (bE (aS (decide (kind_0 = (11 : Int))) h rfl ?_))
        ·exact zAF
       ·try simp only [go_sem] at hc
        have h := hU zAB h
        refine aB (aD hF [3, 12] ?_)
        simp only [go_sem]
        refine aC (cA rfl (fun hc => ?_) (fun hc => ?_))
        ·try simp only [go_sem] at hc
         have h := hP zAB h
         refine dH (bE (aS (decide (kind_0 = (12 : Int))) h rfl ?_))
         ·exact zAF
        ·try simp only [go_sem] at hc
         have h := hU zAB h
         refine aD hF [12] ?_
         simp only [go_sem]
         refine bE (aS (decide (kind_0 = (13 : Int))) h rfl ?_)
         ·exact zAF
     ·rintro x12_7 h
      try dsimp only at h
      simp only [go_sem]
      unfold lV at h
      refine cA rfl (fun hc => ?_) (fun hc => ?_)
      ·try simp only [go_sem] at hc
       have h := hP zAB h
       refine aB (aD hF [2] ?_)
       simp only [go_sem]
       obtain rfl := Option.some.inj h
       refine aC (dB (jY (dF (fC hF [.tmp 2] rfl rfl rfl ?_))))
       exact zAG
      ·try simp only [go_sem] at hc
       have h := hU zAB h
       refine dH (dP (aC (aB (aD hF [2] ?_))))
       simp only [go_sem]
       obtain rfl := Option.some.inj h
       refine aC (dB (fC hF [.tmp 2] rfl rfl rfl ?_))
       exact zAG
attribute [go_sem] vM
def pM : Ty := .pair .expr (.pair (.sl .str) .unit)
attribute [go_sem] pM
noncomputable def fZ (g : Ex → (List (List Nat)) → Option (Bool)) : aG := mSpec pM (.one .bool) (fun x => g x.1 x.2.1)
attribute [go_sem] fZ
noncomputable def tP (F : Md) (g : Ex → (List (List Nat)) → Option (Bool)) (x_0 : Ex) (a1_1 : (List (List Nat))) : Option Bool :=
 (g x_0 a1_1).bind (fun v_6 => some (!v_6))
def aCc : PlR := ⟨[(0, .B [1, 2]), (1, .A [3])], []⟩
def aDb : Ty := .pair .expr (.pair (.rp (.sl .str)) .unit)
noncomputable def rJ (F : Md) (g : Ex → (List (List Nat)) → Option (Bool)) : aG := mSpec aDb (.one .bool) (fun x => tP F g x.1 x.2.1)
noncomputable def aDc (F : Md) (g : Ex → (List (List Nat)) → Option (Bool)) : List (FuncId × aG) := [(64, (fZ g))]
theorem aKd (F : Md) (g : Ex → (List (List Nat)) → Option (Bool)) (hg : FOK Tryz.prog GL 64 (fZ g)) : bD Tryz.prog GL (aDc F g) := .cons hg (by kernel_rfl) (.nil)
theorem aFY (F : Md) (g : Ex → (List (List Nat)) → Option (Bool)) : gam (aDc F g) 64 = some (fZ g) := rfl
attribute [go_sem] aDb aCc aFY
set_option maxHeartbeats 4000000 in
theorem aIp (F : Md) (g : Ex → (List (List Nat)) → Option (Bool)) (hg : FOK Tryz.prog GL 64 (fZ g)) : FOK Tryz.prog GL 130 (rJ F g) := by
 refine bH (aY (aKd F g hg)) mix Tryz.func130 rfl (by kernel_rfl) (by decide) aCc fun w0 S x Θ hw h hF => ?_
 obtain ⟨(x_0 : Ex), (a1_1 : (List (List Nat))), u⟩ := x
 simp only [bL, go_sem]
 replace h : sat (tP F g x_0 a1_1) _ := h
 unfold tP at h
 obtain ⟨v_6, hv, h⟩ := aI h
 try simp only [hv, go_sem]
 exact aF hF [.tmp 3] rfl rfl rfl (aA h) (by simp only [aR, go_sem])
attribute [go_sem] rJ
noncomputable def cY (F : Md) (g : Ex → (List (List Nat)) → Option (Bool)) (s_0 : (List Ex)) (f_1 : ((List (List Nat)) × Unit)) (x8_14 : Int) : Option ((Int) ⊕ ((Unit) ⊕ Int)) :=
 if x8_14 < (((s_0.length) : Nat) : Int) then ck (0 ≤ x8_14 ∧ x8_14 < (((s_0.length) : Nat) : Int)) ((tP F g (s_0.getD (x8_14.toNat) (Ex.mk 0 [] [])) f_1.1).bind (fun v_27 => if v_27 = true then some (.inr (.inr x8_14)) else ck (I64 (x8_14 + (1 : Int))) (some (.inl (x8_14 + (1 : Int)))))) else some (.inr (.inl ()))
noncomputable def cI (F : Md) (g : Ex → (List (List Nat)) → Option (Bool)) (s_0 : (List Ex)) (f_1 : ((List (List Nat)) × Unit)) : Option Int :=
 (dM F (fun d : Int => cY F g s_0 f_1 d) (0 : Int)).bind (fun e => match e with | (.inl e) => some (-1 : Int) | (.inr e) => some e)
def fF : PlR := ⟨[(0, .A [0, 1]), (1, .A [0, 1, 7, 8]), (2, .A [0, 1, 7, 8, 9]), (3, .A [0, 1, 5, 7, 8]), (4, .A [0, 1, 5, 7, 8, 16]), (5, .A [4]), (6, .A [0, 1, 7, 8]), (7, .A [4])], []⟩
def fM : Ty := .pair (.sl .expr) (.pair (.clo 130 (.pair (.rp (.sl .str)) .unit)) .unit)
noncomputable def cC (F : Md) (g : Ex → (List (List Nat)) → Option (Bool)) : aG := mSpec fM (.one (.i .i64)) (fun x => cI F g x.1 x.2.1)
noncomputable def fN (F : Md) (g : Ex → (List (List Nat)) → Option (Bool)) : List (FuncId × aG) := [(130, (rJ F g))]
theorem lL (F : Md) (g : Ex → (List (List Nat)) → Option (Bool)) (hg : FOK Tryz.prog GL 64 (fZ g)) : bD Tryz.prog GL (fN F g) := .cons (aIp F g hg) (by kernel_rfl) (.nil)
theorem jR (F : Md) (g : Ex → (List (List Nat)) → Option (Bool)) : gam (fN F g) 130 = some (rJ F g) := rfl
attribute [go_sem] fM fF jR
set_option maxHeartbeats 4000000 in
theorem kZ (F : Md) (g : Ex → (List (List Nat)) → Option (Bool)) (hg : FOK Tryz.prog GL 64 (fZ g)) : FOK Tryz.prog GL 198 (cC F g) := by
 refine bH (aY (lL F g hg)) mix Tryz.func198 rfl (by kernel_rfl) (by decide) fF fun w0 S x Θ hw h hF => ?_
 obtain ⟨(s_0 : (List Ex)), (f_1 : ((List (List Nat)) × Unit)), u⟩ := x
 simp only [bL, go_sem]
 replace h : sat (cI F g s_0 f_1) _ := h
 unfold cI at h
 refine bR hF (D := Int) [0, 1, 7] (fun d => [(8, .val (.i .i64) d)]) (fun d => []) h rfl (by simp only [go_sem]) ?_
 rintro x8_14 A2 T2 hA2 hE2 h
 simp only [go_sem]
 replace h : sat (cY F g s_0 f_1 x8_14) _ := h
 unfold cY at h
 refine eE h (fun hc h => ?_) fun hc h => ?_
 ·refine aP h fun g0 h => ?_
  obtain ⟨v_27, hv, h⟩ := aI h
  try simp only [hv, go_sem]
  refine aHg h (fun hc h => ?_) fun hc h => ?_
  ·replace h := hE2 _ (aA h)
   try dsimp only at h
   exact aF hF [.tmp 4] rfl rfl rfl (aA h) (by simp only [aR, go_sem])
  ·refine aP h fun g0 h => ?_
   replace h := hA2 _ (aA h)
   exact aS _ h rfl (by simp only [go_sem])
 ·replace h := hE2 _ (aA h)
  try dsimp only at h
  exact aF hF [.tmp 4] rfl rfl rfl (aA h) (by simp only [aR, go_sem])
attribute [go_sem] cC
noncomputable def bM (F : Md) (g : Ex → (List (List Nat)) → Option (Bool)) (s_0 : (List Ex)) (f_1 : ((List (List Nat)) × Unit)) : Option Bool :=
 (cI F g s_0 f_1).bind (fun v_6 => some (decide ((0 : Int) ≤ v_6)))
def eH : PlR := ⟨[(0, .A [0, 1]), (1, .A [4])], []⟩
def eR : Ty := .pair (.sl .expr) (.pair (.clo 130 (.pair (.rp (.sl .str)) .unit)) .unit)
noncomputable def bX (F : Md) (g : Ex → (List (List Nat)) → Option (Bool)) : aG := mSpec eR (.one .bool) (fun x => bM F g x.1 x.2.1)
noncomputable def eS (F : Md) (g : Ex → (List (List Nat)) → Option (Bool)) : List (FuncId × aG) := [(198, (cC F g))]
theorem kK (F : Md) (g : Ex → (List (List Nat)) → Option (Bool)) (hg : FOK Tryz.prog GL 64 (fZ g)) : bD Tryz.prog GL (eS F g) := .cons (kZ F g hg) (by kernel_rfl) (.nil)
theorem iY (F : Md) (g : Ex → (List (List Nat)) → Option (Bool)) : gam (eS F g) 198 = some (cC F g) := rfl
attribute [go_sem] eR eH iY
set_option maxHeartbeats 4000000 in
theorem jS (F : Md) (g : Ex → (List (List Nat)) → Option (Bool)) (hg : FOK Tryz.prog GL 64 (fZ g)) : FOK Tryz.prog GL 129 (bX F g) := by
 refine bH (aY (kK F g hg)) mix Tryz.func129 rfl (by kernel_rfl) (by decide) eH fun w0 S x Θ hw h hF => ?_
 obtain ⟨(s_0 : (List Ex)), (f_1 : ((List (List Nat)) × Unit)), u⟩ := x
 simp only [bL, go_sem]
 replace h : sat (bM F g s_0 f_1) _ := h
 unfold bM at h
 obtain ⟨v_6, hv, h⟩ := aI h
 try simp only [hv, go_sem]
 exact aF hF [.tmp 4] rfl rfl rfl (aA h) (by simp only [aR, go_sem])
attribute [go_sem] bX
noncomputable def tQ (F : Md) (g : Ex → (List (List Nat)) → Option (Bool)) (e_0 : Ex) (names_1 : (List (List Nat))) : Option Bool :=
 ck ((tO F (e_0.kind)).isSome = true) (if ¬ (((tO F (e_0.kind)).getD (0 : Int)) = (((e_0.l).length : Nat) : Int)) then some false else if (e_0.kind) = (1 : Int) then ck ((zD F (e_0.text)).isSome = true) (some ((zD F (e_0.text)).getD false)) else if (e_0.kind) = (2 : Int) then ck (¬ ((e_0.text) = (aH ⟨#[116]⟩)) → ((dQ F names_1 (e_0.text)).isSome = true)) (some ((decide ((e_0.text) = (aH ⟨#[116]⟩))) || ((dQ F names_1 (e_0.text)).getD false))) else ck (((e_0.text) = (aH ⟨#[]⟩)) → ((bM F g (e_0.l) (names_1, ())).isSome = true)) (some ((decide ((e_0.text) = (aH ⟨#[]⟩))) && (!((bM F g (e_0.l) (names_1, ())).getD false)))))
noncomputable def pN (F : Md) (g : Ex → (List (List Nat)) → Option (Bool)) : List (FuncId × aG) := [(129, (bX F g)), (127, (vM F)), (128, (aAg F)), (71, (eA F))]
theorem aFZ (F : Md) (g : Ex → (List (List Nat)) → Option (Bool)) (hg : FOK Tryz.prog GL 64 (fZ g)) : bD Tryz.prog GL (pN F g) := .cons (jS F g hg) (by kernel_rfl) (.cons (aKL F) (by kernel_rfl) (.cons (aM6 F) (by kernel_rfl) (.cons (pX F) (by kernel_rfl) (.nil))))
theorem aGS (F : Md) (g : Ex → (List (List Nat)) → Option (Bool)) : gam (pN F g) 129 = some (bX F g) := rfl
attribute [go_sem] aGS
theorem aGT (F : Md) (g : Ex → (List (List Nat)) → Option (Bool)) : gam (pN F g) 127 = some (vM F) := rfl
attribute [go_sem] aGT
theorem aGU (F : Md) (g : Ex → (List (List Nat)) → Option (Bool)) : gam (pN F g) 128 = some (aAg F) := rfl
attribute [go_sem] aGU
theorem aIq (F : Md) (g : Ex → (List (List Nat)) → Option (Bool)) : gam (pN F g) 71 = some (eA F) := rfl
attribute [go_sem] aIq
set_option maxHeartbeats 4000000 in
theorem aKe (F : Md) (g : Ex → (List (List Nat)) → Option (Bool)) (hg : FOK Tryz.prog GL 64 (fZ g)) : FOK Tryz.prog GL 64 (mSpec pM (.one .bool) (fun x => tQ F g x.1 x.2.1)) := by
 refine lU (aY (aFZ F g hg)) Tryz.func64 rfl (by kernel_rfl) (by decide) fun w0 S x r hw h => ?_
 have hF : jP (fr Tryz.prog (EM (pN F g)) S w0 Tryz.f64.ntmps) := ⟨aY (aFZ F g hg), mix⟩
 obtain ⟨(e_0 : Ex), (names_1 : (List (List Nat))), u⟩ := x
 simp only [pM, Ty.wf, nA] at hw
 simp only [bL, pM]
 try dsimp only at h
 replace h : tQ F g e_0 names_1 = some r := h
 unfold tQ at h
 refine aB (aO hF [2, 3] ?_)
 simp only [go_sem]
 refine aC (aB (aB (aD hF [2, 3, 11] ?_)))
 simp only [go_sem]
 obtain ⟨g0, h⟩ := aT h
 repeat (refine ⟨zAA, ?_⟩)
 refine aC (cA rfl (fun hc => ?_) (fun hc => ?_))
 ·try simp only [go_sem] at hc
  have h := hP zAB h
  refine aB (aD hF [4] ?_)
  simp only [go_sem]
  obtain rfl := Option.some.inj h
  refine aC (dB (dF (fC hF [.tmp 4] rfl rfl rfl ?_)))
  exact zAG
 ·try simp only [go_sem] at hc
  have h := hU zAB h
  refine dH (aC (aB (aB (aD hF [2, 3, 13] ?_))))
  simp only [go_sem]
  refine aC (gJ (aB (aD hF [2, 3, 13, 14] ?_)))
  simp only [go_sem]
  refine aC (cA rfl (fun hc => ?_) (fun hc => ?_))
  ·try simp only [go_sem] at hc
   have h := hP zAB h
   refine aB (aD hF [4] ?_)
   simp only [go_sem]
   obtain ⟨g0, h⟩ := aT h
   repeat (refine ⟨zAA, ?_⟩)
   obtain rfl := Option.some.inj h
   refine aC (dB (jY (dF (fC hF [.tmp 4] rfl rfl rfl ?_))))
   exact zAG
  ·try simp only [go_sem] at hc
   have h := hU zAB h
   refine aB (aD hF [2, 3, 19] ?_)
   simp only [go_sem]
   refine aC (cA rfl (fun hc => ?_) (fun hc => ?_))
   ·try simp only [go_sem] at hc
    have h := hP zAB h
    refine aB (aD hF [4] ?_)
    simp only [go_sem]
    obtain ⟨g0, h⟩ := aT h
    repeat (refine ⟨zAD, ?_⟩)
    obtain rfl := Option.some.inj h
    refine aC (dB (jY (dF (fC hF [.tmp 4] rfl rfl rfl ?_))))
    exact zAG
   ·try simp only [go_sem] at hc
    have h := hU zAB h
    refine dH (dP (aC (aB (wA 1 rfl ?_))))
    simp only [go_sem]
    refine aD hF [4] ?_
    simp only [go_sem]
    obtain ⟨g0, h⟩ := aT h
    repeat (refine ⟨zAD, ?_⟩)
    obtain rfl := Option.some.inj h
    refine aC (dB (fC hF [.tmp 4] rfl rfl rfl ?_))
    exact zAG
noncomputable def xX (F : Md) : Nat → Ex → (List (List Nat)) → Option (Bool)
 | 0 => fun _ _ => none
 | n + 1 => tQ F (xX F n)
noncomputable def vN (F : Md) (n : Nat) : aG := mSpec pM (.one .bool) (fun x => xX F n x.1 x.2.1)
theorem aD5 (F : Md) : ∀ n, FOK Tryz.prog GL 64 (vN F n)
 | 0 => fun _ _ _ _ _ _ _ hp => Bool.noConfusion (show false = true from hp)
 | n + 1 => aKe F _ (aD5 F n)
attribute [go_sem] vN
end Nu
end Go.Proofs
namespace Go.Proofs
open Go.Vc
set_option maxRecDepth 20000
namespace Nu
attribute [-go_sem] Ex.kind Ex.text Ex.l
@[reducible] def aRX (xs : List (List Nat)) : Prop := xs.length * 16 ≤ 140737488355328
def oC : Ty := .pair (.sl .str) .unit
noncomputable def gV : aG := ⟨oC, .own 9 .str, fun x => aRX x.1, fun x => id x.1⟩
attribute [go_sem] gV oC
noncomputable def uK (F : Md) : List (FuncId × aG) := []
theorem uL (F : Md) : bD Tryz.prog GL (uK F) := .nil
theorem aBV : FOK Tryz.prog GL 137 gV := by
 refine aNt (aY (uL none)) Tryz.func137 rfl (by kernel_rfl) (by decide) fun w0 S x hw hp => ?_
 have hF : jP (fr Tryz.prog (EM (uK none)) S w0 Tryz.f137.ntmps) := ⟨aY (uL none), mix⟩
 obtain ⟨(s : (List (List Nat))), u⟩ := x
 have hp : s.length * 16 ≤ 140737488355328 := hp
 simp only [bL, oC, gV]
 refine aB (aD hF [0, 2] ?_)
 simp only [go_sem]
 refine aC (aB (aB (aLe hF rfl rfl rfl fun b hb => ?_)))
 refine aC (cA rfl (fun hc => ?_) (fun hc => ?_))
 ·have hs := hb hc
  refine aB (aD hF [2] ?_)
  simp only [go_sem]
  refine aC (dB (dF (fC hF [.tmp 2] rfl rfl rfl ?_)))
  simp only [hO, aR, go_sem, hs]
  try trivial
 ·refine dH (aC (aB (aO hF [2] ?_)))
  simp only [go_sem]
  refine ⟨by omega, ?_⟩
  refine aC (dB (fC hF [.tmp 2] rfl rfl rfl ?_))
  simp only [hO, aR, go_sem]
  try trivial
noncomputable def hZ (F : Md) (e_0 : Ex) (names_1 : (List (List Nat))) : Option Bool :=
 (aAj F e_0).bind (fun v_6 => ck ((v_6 = true) → ((xX F 64 e_0 names_1).isSome = true)) (some (v_6 && ((xX F 64 e_0 names_1).getD false))))
def aA5 : PlR := ⟨[(0, .B [1, 2]), (1, .A [4])], []⟩
def aCd : Ty := .pair .expr (.pair (.sl .str) .unit)
noncomputable def gL (F : Md) : aG := mSpec aCd (.one .bool) (fun x => hZ F x.1 x.2.1)
noncomputable def wO (F : Md) : List (FuncId × aG) := [(63, (xV F)), (64, (vN F 64))]
theorem aIr (F : Md) : bD Tryz.prog GL (wO F) := .cons (aL8 F) (by kernel_rfl) (.cons (aD5 F 64) (by kernel_rfl) (.nil))
theorem aED (F : Md) : gam (wO F) 63 = some (xV F) := rfl
theorem aEE (F : Md) : gam (wO F) 64 = some (vN F 64) := rfl
attribute [go_sem] aCd aA5 aED aEE
set_option maxHeartbeats 4000000 in
theorem uZ (F : Md) : FOK Tryz.prog GL 25 (gL F) := by
 refine bH (aY (aIr F)) mix Tryz.func25 rfl (by kernel_rfl) (by decide) aA5 fun w0 S x Θ hw h hF => ?_
 obtain ⟨(e_0 : Ex), (names_1 : (List (List Nat))), u⟩ := x
 simp only [bL, go_sem]
 replace h : sat (hZ F e_0 names_1) _ := h
 unfold hZ at h
 obtain ⟨v_6, hv, h⟩ := aI h
 try simp only [hv, go_sem]
 refine aP h fun g0 h => ?_
 exact aF hF [.tmp 4] rfl rfl rfl (aA h) (by simp only [aR, go_sem])
attribute [go_sem] gL
noncomputable def pO (F : Md) (a_0 : ((List Nat) × (Ex × Unit))) (a1_1 : (List (List Nat))) : Option Bool :=
 (hZ F a_0.2.1 a1_1).bind (fun v_6 => some (!v_6))
def aAk : PlR := ⟨[(0, .B [1, 2]), (1, .A [3])], []⟩
def aA6 : Ty := .pair (.pair .str (.pair .expr .unit)) (.pair (.rp (.sl .str)) .unit)
noncomputable def oG (F : Md) : aG := mSpec aA6 (.one .bool) (fun x => pO F x.1 x.2.1)
noncomputable def aA7 (F : Md) : List (FuncId × aG) := [(25, (gL F))]
theorem aGV (F : Md) : bD Tryz.prog GL (aA7 F) := .cons (uZ F) (by kernel_rfl) (.nil)
theorem aDA (F : Md) : gam (aA7 F) 25 = some (gL F) := rfl
attribute [go_sem] aA6 aAk aDA
set_option maxHeartbeats 4000000 in
theorem aF0 (F : Md) : FOK Tryz.prog GL 140 (oG F) := by
 refine bH (aY (aGV F)) mix Tryz.func140 rfl (by kernel_rfl) (by decide) aAk fun w0 S x Θ hw h hF => ?_
 obtain ⟨(a_0 : ((List Nat) × (Ex × Unit))), (a1_1 : (List (List Nat))), u⟩ := x
 simp only [bL, go_sem]
 replace h : sat (pO F a_0 a1_1) _ := h
 unfold pO at h
 obtain ⟨v_6, hv, h⟩ := aI h
 try simp only [hv, go_sem]
 exact aF hF [.tmp 3] rfl rfl rfl (aA h) (by simp only [aR, go_sem])
attribute [go_sem] oG
noncomputable def cZ (F : Md) (s_0 : (List ((List Nat) × (Ex × Unit)))) (f_1 : ((List (List Nat)) × Unit)) (x8_14 : Int) : Option ((Int) ⊕ ((Unit) ⊕ Int)) :=
 if x8_14 < (((s_0.length) : Nat) : Int) then ck (0 ≤ x8_14 ∧ x8_14 < (((s_0.length) : Nat) : Int)) ((pO F (s_0.getD (x8_14.toNat) ([], (Ex.mk 0 [] []), ())) f_1.1).bind (fun v_27 => if v_27 = true then some (.inr (.inr x8_14)) else ck (I64 (x8_14 + (1 : Int))) (some (.inl (x8_14 + (1 : Int)))))) else some (.inr (.inl ()))
noncomputable def cJ (F : Md) (s_0 : (List ((List Nat) × (Ex × Unit)))) (f_1 : ((List (List Nat)) × Unit)) : Option Int :=
 (dM F (fun d : Int => cZ F s_0 f_1 d) (0 : Int)).bind (fun e => match e with | (.inl e) => some (-1 : Int) | (.inr e) => some e)
def fG : PlR := ⟨[(0, .A [0, 1]), (1, .A [0, 1, 7, 8]), (2, .A [0, 1, 7, 8, 9]), (3, .A [0, 1, 5, 7, 8]), (4, .A [0, 1, 5, 7, 8, 16]), (5, .A [4]), (6, .A [0, 1, 7, 8]), (7, .A [4])], []⟩
def fO : Ty := .pair (.sl (.pair .str (.pair .expr .unit))) (.pair (.clo 140 (.pair (.rp (.sl .str)) .unit)) .unit)
noncomputable def cD (F : Md) : aG := mSpec fO (.one (.i .i64)) (fun x => cJ F x.1 x.2.1)
noncomputable def fP (F : Md) : List (FuncId × aG) := [(140, (oG F))]
theorem lM (F : Md) : bD Tryz.prog GL (fP F) := .cons (aF0 F) (by kernel_rfl) (.nil)
theorem jT (F : Md) : gam (fP F) 140 = some (oG F) := rfl
attribute [go_sem] fO fG jT
set_option maxHeartbeats 4000000 in
theorem lA (F : Md) : FOK Tryz.prog GL 204 (cD F) := by
 refine bH (aY (lM F)) mix Tryz.func204 rfl (by kernel_rfl) (by decide) fG fun w0 S x Θ hw h hF => ?_
 obtain ⟨(s_0 : (List ((List Nat) × (Ex × Unit)))), (f_1 : ((List (List Nat)) × Unit)), u⟩ := x
 simp only [bL, go_sem]
 replace h : sat (cJ F s_0 f_1) _ := h
 unfold cJ at h
 refine bR hF (D := Int) [0, 1, 7] (fun d => [(8, .val (.i .i64) d)]) (fun d => []) h rfl (by simp only [go_sem]) ?_
 rintro x8_14 A2 T2 hA2 hE2 h
 simp only [go_sem]
 replace h : sat (cZ F s_0 f_1 x8_14) _ := h
 unfold cZ at h
 refine eE h (fun hc h => ?_) fun hc h => ?_
 ·refine aP h fun g0 h => ?_
  obtain ⟨v_27, hv, h⟩ := aI h
  try simp only [hv, go_sem]
  refine aHg h (fun hc h => ?_) fun hc h => ?_
  ·replace h := hE2 _ (aA h)
   try dsimp only at h
   exact aF hF [.tmp 4] rfl rfl rfl (aA h) (by simp only [aR, go_sem])
  ·refine aP h fun g0 h => ?_
   replace h := hA2 _ (aA h)
   exact aS _ h rfl (by simp only [go_sem])
 ·replace h := hE2 _ (aA h)
  try dsimp only at h
  exact aF hF [.tmp 4] rfl rfl rfl (aA h) (by simp only [aR, go_sem])
attribute [go_sem] cD
noncomputable def bN (F : Md) (s_0 : (List ((List Nat) × (Ex × Unit)))) (f_1 : ((List (List Nat)) × Unit)) : Option Bool :=
 (cJ F s_0 f_1).bind (fun v_6 => some (decide ((0 : Int) ≤ v_6)))
def eI : PlR := ⟨[(0, .A [0, 1]), (1, .A [4])], []⟩
def eT : Ty := .pair (.sl (.pair .str (.pair .expr .unit))) (.pair (.clo 140 (.pair (.rp (.sl .str)) .unit)) .unit)
noncomputable def bY (F : Md) : aG := mSpec eT (.one .bool) (fun x => bN F x.1 x.2.1)
noncomputable def eU (F : Md) : List (FuncId × aG) := [(204, (cD F))]
theorem kL (F : Md) : bD Tryz.prog GL (eU F) := .cons (lA F) (by kernel_rfl) (.nil)
theorem iZ (F : Md) : gam (eU F) 204 = some (cD F) := rfl
attribute [go_sem] eT eI iZ
set_option maxHeartbeats 4000000 in
theorem jU (F : Md) : FOK Tryz.prog GL 139 (bY F) := by
 refine bH (aY (kL F)) mix Tryz.func139 rfl (by kernel_rfl) (by decide) eI fun w0 S x Θ hw h hF => ?_
 obtain ⟨(s_0 : (List ((List Nat) × (Ex × Unit)))), (f_1 : ((List (List Nat)) × Unit)), u⟩ := x
 simp only [bL, go_sem]
 replace h : sat (bN F s_0 f_1) _ := h
 unfold bN at h
 obtain ⟨v_6, hv, h⟩ := aI h
 try simp only [hv, go_sem]
 exact aF hF [.tmp 4] rfl rfl rfl (aA h) (by simp only [aR, go_sem])
attribute [go_sem] bY
noncomputable def zF (F : Md) (s_0 : ((List Nat) × ((List ((List Nat) × (((List Nat) × ((List Nat) × Unit)) × (Ex × Unit)))) × ((List ((List Nat) × (((List Nat) × ((List Nat) × Unit)) × Unit))) × ((List (List Nat)) × ((List ((List Nat) × (Ex × Unit))) × Unit)))))) (x93_11 : Int) : Option ((Int) ⊕ ((Unit) ⊕ Bool)) :=
 if x93_11 < (((s_0.2.2.1.length) : Nat) : Int) then ck (0 ≤ x93_11 ∧ x93_11 < (((s_0.2.2.1.length) : Nat) : Int)) (ck ((iX F (s_0.2.2.1.getD (x93_11.toNat) ([], ([], [], ()), ())).2.1).isSome = true) (if ¬ (((iX F (s_0.2.2.1.getD (x93_11.toNat) ([], ([], [], ()), ())).2.1).getD false) = true) then some (.inr (.inr false)) else ck (I64 (x93_11 + (1 : Int))) (some (.inl (x93_11 + (1 : Int)))))) else some (.inr (.inl ()))
noncomputable def tR (F : Md) (s_0 : ((List Nat) × ((List ((List Nat) × (((List Nat) × ((List Nat) × Unit)) × (Ex × Unit)))) × ((List ((List Nat) × (((List Nat) × ((List Nat) × Unit)) × Unit))) × ((List (List Nat)) × ((List ((List Nat) × (Ex × Unit))) × Unit)))))) : Option (Bool) :=
 (dM F (fun d : Int => zF F s_0 d) (0 : Int)).bind (fun e => match e with | (.inl e) => ck ((bN F s_0.2.2.2.2.1 (((bI F ([((aQ F s_0).getD (([] : List (List Nat)), ([] : List (List Nat)), ([] : List (List Nat)), ())).1, ((aQ F s_0).getD (([] : List (List Nat)), ([] : List (List Nat)), ([] : List (List Nat)), ())).2.1, ((aQ F s_0).getD (([] : List (List Nat)), ([] : List (List Nat)), ([] : List (List Nat)), ())).2.2.1] : List (List (List Nat)))).getD ([] : List (List Nat))), ())).isSome = true) (some (!((bN F s_0.2.2.2.2.1 (((bI F ([((aQ F s_0).getD (([] : List (List Nat)), ([] : List (List Nat)), ([] : List (List Nat)), ())).1, ((aQ F s_0).getD (([] : List (List Nat)), ([] : List (List Nat)), ([] : List (List Nat)), ())).2.1, ((aQ F s_0).getD (([] : List (List Nat)), ([] : List (List Nat)), ([] : List (List Nat)), ())).2.2.1] : List (List (List Nat)))).getD ([] : List (List Nat))), ())).getD false))) | (.inr e) => some e)
noncomputable def zG (F : Md) (s_0 : ((List Nat) × ((List ((List Nat) × (((List Nat) × ((List Nat) × Unit)) × (Ex × Unit)))) × ((List ((List Nat) × (((List Nat) × ((List Nat) × Unit)) × Unit))) × ((List (List Nat)) × ((List ((List Nat) × (Ex × Unit))) × Unit)))))) (x74_14 : Int) : Option ((Int) ⊕ ((Unit) ⊕ Bool)) :=
 if x74_14 < (((s_0.2.1.length) : Nat) : Int) then ck (0 ≤ x74_14 ∧ x74_14 < (((s_0.2.1.length) : Nat) : Int)) (ck ((iX F (s_0.2.1.getD (x74_14.toNat) ([], ([], [], ()), (Ex.mk 0 [] []), ())).2.1).isSome = true) (ck (¬ (¬ (((iX F (s_0.2.1.getD (x74_14.toNat) ([], ([], [], ()), (Ex.mk 0 [] []), ())).2.1).getD false) = true)) → ((hZ F (s_0.2.1.getD (x74_14.toNat) ([], ([], [], ()), (Ex.mk 0 [] []), ())).2.2.1 ((bI F ([((aQ F s_0).getD (([] : List (List Nat)), ([] : List (List Nat)), ([] : List (List Nat)), ())).1, ((aQ F s_0).getD (([] : List (List Nat)), ([] : List (List Nat)), ([] : List (List Nat)), ())).2.1, ((aQ F s_0).getD (([] : List (List Nat)), ([] : List (List Nat)), ([] : List (List Nat)), ())).2.2.1] : List (List (List Nat)))).getD ([] : List (List Nat)))).isSome = true)) (if (¬ (((iX F (s_0.2.1.getD (x74_14.toNat) ([], ([], [], ()), (Ex.mk 0 [] []), ())).2.1).getD false) = true)) ∨ (¬ (((hZ F (s_0.2.1.getD (x74_14.toNat) ([], ([], [], ()), (Ex.mk 0 [] []), ())).2.2.1 ((bI F ([((aQ F s_0).getD (([] : List (List Nat)), ([] : List (List Nat)), ([] : List (List Nat)), ())).1, ((aQ F s_0).getD (([] : List (List Nat)), ([] : List (List Nat)), ([] : List (List Nat)), ())).2.1, ((aQ F s_0).getD (([] : List (List Nat)), ([] : List (List Nat)), ([] : List (List Nat)), ())).2.2.1] : List (List (List Nat)))).getD ([] : List (List Nat)))).getD false) = true)) then some (.inr (.inr false)) else ck (I64 (x74_14 + (1 : Int))) (some (.inl (x74_14 + (1 : Int))))))) else some (.inr (.inl ()))
noncomputable def tS (F : Md) (s_0 : ((List Nat) × ((List ((List Nat) × (((List Nat) × ((List Nat) × Unit)) × (Ex × Unit)))) × ((List ((List Nat) × (((List Nat) × ((List Nat) × Unit)) × Unit))) × ((List (List Nat)) × ((List ((List Nat) × (Ex × Unit))) × Unit)))))) (all_6 : (List (List Nat))) : Option (Bool) :=
 ck ((nY F all_6).isSome = true) (if ¬ (((nY F all_6).getD false) = true) then some false else (dM F (fun d : Int => zG F s_0 d) (0 : Int)).bind (fun e => match e with | (.inl e) => tR F s_0 | (.inr e) => some e))
noncomputable def aAl (F : Md) (s_0 : ((List Nat) × ((List ((List Nat) × (((List Nat) × ((List Nat) × Unit)) × (Ex × Unit)))) × ((List ((List Nat) × (((List Nat) × ((List Nat) × Unit)) × Unit))) × ((List (List Nat)) × ((List ((List Nat) × (Ex × Unit))) × Unit)))))) (x58_17 : Int) (all_18 : (List (List Nat))) : Option ((Int × (List (List Nat))) ⊕ (List (List Nat))) :=
 if x58_17 < (((s_0.2.2.2.2.1.length) : Nat) : Int) then ck (0 ≤ x58_17 ∧ x58_17 < (((s_0.2.2.2.2.1.length) : Nat) : Int)) (ck (((all_18.length) + (1 : Nat)) * 16 ≤ 140737488355328) (ck (I64 (x58_17 + (1 : Int))) (some (.inl ((x58_17 + (1 : Int)), (all_18 ++ ([(s_0.2.2.2.2.1.getD (x58_17.toNat) ([], (Ex.mk 0 [] []), ())).1] : List (List Nat)))))))) else some (.inr all_18)
noncomputable def tT (F : Md) (s_0 : ((List Nat) × ((List ((List Nat) × (((List Nat) × ((List Nat) × Unit)) × (Ex × Unit)))) × ((List ((List Nat) × (((List Nat) × ((List Nat) × Unit)) × Unit))) × ((List (List Nat)) × ((List ((List Nat) × (Ex × Unit))) × Unit)))))) : Option Bool :=
 if (((((((s_0.2.1.length) : Nat) : Int) < (1 : Int)) ∨ ((6 : Int) < (((s_0.2.1.length) : Nat) : Int))) ∨ ((6 : Int) < (((s_0.2.2.1.length) : Nat) : Int))) ∨ ((4 : Int) < (((s_0.2.2.2.1.length) : Nat) : Int))) ∨ ((4 : Int) < (((s_0.2.2.2.2.1.length) : Nat) : Int)) then some false else ck ((aQ F s_0).isSome = true) (ck ((bI F ([((aQ F s_0).getD (([] : List (List Nat)), ([] : List (List Nat)), ([] : List (List Nat)), ())).1, ((aQ F s_0).getD (([] : List (List Nat)), ([] : List (List Nat)), ([] : List (List Nat)), ())).2.1, ((aQ F s_0).getD (([] : List (List Nat)), ([] : List (List Nat)), ([] : List (List Nat)), ())).2.2.1] : List (List (List Nat)))).isSome = true) (ck (aRX ((bI F ([((aQ F s_0).getD (([] : List (List Nat)), ([] : List (List Nat)), ([] : List (List Nat)), ())).1, ((aQ F s_0).getD (([] : List (List Nat)), ([] : List (List Nat)), ([] : List (List Nat)), ())).2.1, ((aQ F s_0).getD (([] : List (List Nat)), ([] : List (List Nat)), ([] : List (List Nat)), ())).2.2.1] : List (List (List Nat)))).getD ([] : List (List Nat)))) ((dM F (fun d : Int × (List (List Nat)) => aAl F s_0 d.1 d.2) ((0 : Int), (id ((bI F ([((aQ F s_0).getD (([] : List (List Nat)), ([] : List (List Nat)), ([] : List (List Nat)), ())).1, ((aQ F s_0).getD (([] : List (List Nat)), ([] : List (List Nat)), ([] : List (List Nat)), ())).2.1, ((aQ F s_0).getD (([] : List (List Nat)), ([] : List (List Nat)), ([] : List (List Nat)), ())).2.2.1] : List (List (List Nat)))).getD ([] : List (List Nat)))))).bind (fun e => tS F s_0 e))))
def tU : Ty := .pair (.pair .str (.pair (.sl (.pair .str (.pair (.pair .str (.pair .str .unit)) (.pair .expr .unit)))) (.pair (.sl (.pair .str (.pair (.pair .str (.pair .str .unit)) .unit))) (.pair (.sl .str) (.pair (.sl (.pair .str (.pair .expr .unit))) .unit))))) .unit
attribute [go_sem] tU
noncomputable def rK (F : Md) : aG := mSpec tU (.one .bool) (fun x => tT F x.1)
noncomputable def gW (F : Md) : List (FuncId × aG) := [(139, (bY F)), (135, (tJ F)), (136, (jL F)), (137, gV), (138, (rH F)), (25, (gL F)), (68, (mU F))]
theorem aDd (F : Md) : bD Tryz.prog GL (gW F) := .cons (jU F) (by kernel_rfl) (.cons (aKa F) (by kernel_rfl) (.cons (aA2 F) (by kernel_rfl) (.cons aBV (by kernel_rfl) (.cons (aIn F) (by kernel_rfl) (.cons (uZ F) (by kernel_rfl) (.cons (aC5 F) (by kernel_rfl) (.nil)))))))
theorem aEF (F : Md) : gam (gW F) 139 = some (bY F) := rfl
attribute [go_sem] aEF
theorem aEG (F : Md) : gam (gW F) 135 = some (tJ F) := rfl
attribute [go_sem] aEG
theorem aEH (F : Md) : gam (gW F) 136 = some (jL F) := rfl
attribute [go_sem] aEH
theorem aEI (F : Md) : gam (gW F) 137 = some gV := rfl
attribute [go_sem] aEI
theorem aEJ (F : Md) : gam (gW F) 138 = some (rH F) := rfl
attribute [go_sem] aEJ
theorem aF1 (F : Md) : gam (gW F) 25 = some (gL F) := rfl
attribute [go_sem] aF1
theorem aF2 (F : Md) : gam (gW F) 68 = some (mU F) := rfl
attribute [go_sem] aF2
set_option maxHeartbeats 4000000 in
theorem aIs (F : Md) : FOK Tryz.prog GL 67 (rK F) := by
 refine lU (aY (aDd F)) Tryz.func67 rfl (by kernel_rfl) (by decide) fun w0 S x r hw h => ?_
 have hF : jP (fr Tryz.prog (EM (gW F)) S w0 Tryz.f67.ntmps) := ⟨aY (aDd F), mix⟩
 obtain ⟨(s_0 : ((List Nat) × ((List ((List Nat) × (((List Nat) × ((List Nat) × Unit)) × (Ex × Unit)))) × ((List ((List Nat) × (((List Nat) × ((List Nat) × Unit)) × Unit))) × ((List (List Nat)) × ((List ((List Nat) × (Ex × Unit))) × Unit)))))), u⟩ := x
 simp only [tU, Ty.wf, nA] at hw
 simp only [bL, tU]
 try dsimp only at h
 replace h : tT F s_0 = some r := h
 unfold tT at h
 refine aB (aO hF [1] ?_)
 simp only [go_sem]
 refine aC (aB (aB (aD hF [1, 41] ?_)))
 simp only [go_sem]
 refine aC (cA rfl (fun hc => ?_) (fun hc => ?_))
 ·try simp only [go_sem] at hc
  have h := hP zAB h
  refine aB (aD hF [2] ?_)
  simp only [go_sem]
  obtain rfl := Option.some.inj h
  refine aC (dB (dF (fC hF [.tmp 2] rfl rfl rfl ?_)))
  exact zAG
 ·try simp only [go_sem] at hc
  have h := hU zAB h
  refine dH (aC (aB (aD hF [1, 3, 4, 5] ?_)))
  simp only [go_sem]
  obtain ⟨g0, h⟩ := aT h
  repeat (refine ⟨zAA, ?_⟩)
  refine aC (aB (aO hF [1, 6] ?_))
  simp only [go_sem]
  obtain ⟨g0, h⟩ := aT h
  repeat (refine ⟨zAA, ?_⟩)
  refine aC (aB (aO hF [1, 6, 7] ?_))
  simp only [go_sem]
  obtain ⟨g0, h⟩ := aT h
  repeat (refine ⟨zAA, ?_⟩)
  refine aC (lT (D := (List (List Nat))) (fun d => tS F s_0 d = some r) [] (fun d => [(1, .ptr 0 []), (6, .ptr 1 []), (7, .own 2)]) (fun d => [.inr (.box 5 (.val (.pair .str (.pair (.sl (.pair .str (.pair (.pair .str (.pair .str .unit)) (.pair .expr .unit)))) (.pair (.sl (.pair .str (.pair (.pair .str (.pair .str .unit)) .unit))) (.pair (.sl .str) (.pair (.sl (.pair .str (.pair .expr .unit))) .unit))))) s_0)), .inr (.box 1 (.val (.sl .str) ((bI F ([((aQ F s_0).getD (([] : List (List Nat)), ([] : List (List Nat)), ([] : List (List Nat)), ())).1, ((aQ F s_0).getD (([] : List (List Nat)), ([] : List (List Nat)), ([] : List (List Nat)), ())).2.1, ((aQ F s_0).getD (([] : List (List Nat)), ([] : List (List Nat)), ([] : List (List Nat)), ())).2.2.1] : List (List (List Nat)))).getD ([] : List (List Nat))))), .inr (.row 9 .str d)]) ?_ ?_)
  ·refine aB (aD hF [1, 6, 7, 56, 57, 58] ?_)
   simp only [go_sem]
   refine aC (gJ (uS (D := Int × (List (List Nat))) [56, 57] (fun d => [(1, .ptr 0 []), (6, .ptr 1 []), (7, .own 2), (58, .val (.i .i64) d.1)]) (fun d => [.inr (.box 5 (.val (.pair .str (.pair (.sl (.pair .str (.pair (.pair .str (.pair .str .unit)) (.pair .expr .unit)))) (.pair (.sl (.pair .str (.pair (.pair .str (.pair .str .unit)) .unit))) (.pair (.sl .str) (.pair (.sl (.pair .str (.pair .expr .unit))) .unit))))) s_0)), .inr (.box 1 (.val (.sl .str) ((bI F ([((aQ F s_0).getD (([] : List (List Nat)), ([] : List (List Nat)), ([] : List (List Nat)), ())).1, ((aQ F s_0).getD (([] : List (List Nat)), ([] : List (List Nat)), ([] : List (List Nat)), ())).2.1, ((aQ F s_0).getD (([] : List (List Nat)), ([] : List (List Nat)), ([] : List (List Nat)), ())).2.2.1] : List (List (List Nat)))).getD ([] : List (List Nat))))), .inr (.row 9 .str d.2)]) h ?_ ?_ ?_))
   ·first | rfl | (simp only [go_sem]; done)
   ·exact zAF
   rintro ⟨x58_17, all_18⟩ s7 h hs7
   simp only [go_sem]
   try dsimp only at h
   unfold aAl at h
   refine aB (aD hF [1, 6, 7, 56, 57, 58, 59] ?_)
   simp only [go_sem]
   refine aC (aB (cA rfl (fun hc => ?_) (fun hc => ?_)))
   ·try simp only [go_sem] at hc
    have h := hP zAB h
    refine dH (aC (aB (gJ (aB (aO hF [1, 6, 7, 9, 56, 57, 58] ?_)))))
    simp only [go_sem]
    obtain ⟨g0, h⟩ := aT h
    repeat (refine ⟨zAA, ?_⟩)
    refine aC (aO hF [1, 6, 7, 56, 57, 58] ?_)
    simp only [go_sem]
    obtain ⟨g0, h⟩ := aT h
    repeat (refine ⟨zAA, ?_⟩)
    refine dP (aC (aD hF [1, 6, 7, 56, 57, 58] ?_))
    simp only [go_sem]
    obtain ⟨g0, h⟩ := aT h
    try simp only [I64, I32] at g0
    repeat (refine ⟨zAA, ?_⟩)
    obtain rfl := Option.some.inj h
    dsimp only [uC] at hs7
    refine bE (gQ [0, 1, 4] rfl rfl ?_)
    simp only [ren, gP, kA, posOf, eB, go_sem]
    refine aS ((x58_17 + (1 : Int)), (all_18 ++ ([(s_0.2.2.2.2.1.getD (x58_17.toNat) ([], (Ex.mk 0 [] []), ())).1] : List (List Nat)))) hs7 rfl ?_
    ·exact zAF
   ·try simp only [go_sem] at hc
    have h := hU zAB h
    obtain rfl := Option.some.inj h
    dsimp only [uC] at hs7
    have h := hs7
    try dsimp only at h
    refine vX (eN (eN (iJ (bE (aS (all_18) h rfl ?_)))))
    ·exact zAF
  ·rintro all_6 h
   try dsimp only at h
   simp only [go_sem]
   unfold tS at h
   refine aB (aB (aD hF [1, 6, 70] ?_))
   simp only [go_sem]
   obtain ⟨g0, h⟩ := aT h
   repeat (refine ⟨zAA, ?_⟩)
   refine aC (cA rfl (fun hc => ?_) (fun hc => ?_))
   ·try simp only [go_sem] at hc
    have h := hP zAB h
    refine aB (aD hF [2] ?_)
    simp only [go_sem]
    obtain rfl := Option.some.inj h
    refine aC (dB (dF (fC hF [.tmp 2] rfl rfl rfl ?_)))
    exact zAG
   ·try simp only [go_sem] at hc
    have h := hU zAB h
    refine dH (aC (lT (D := Unit) (fun d => tR F s_0 = some r) [] (fun d => [(1, .ptr 0 []), (6, .ptr 1 [])]) (fun d => [.inr (.box 5 (.val (.pair .str (.pair (.sl (.pair .str (.pair (.pair .str (.pair .str .unit)) (.pair .expr .unit)))) (.pair (.sl (.pair .str (.pair (.pair .str (.pair .str .unit)) .unit))) (.pair (.sl .str) (.pair (.sl (.pair .str (.pair .expr .unit))) .unit))))) s_0)), .inr (.box 1 (.val (.sl .str) ((bI F ([((aQ F s_0).getD (([] : List (List Nat)), ([] : List (List Nat)), ([] : List (List Nat)), ())).1, ((aQ F s_0).getD (([] : List (List Nat)), ([] : List (List Nat)), ([] : List (List Nat)), ())).2.1, ((aQ F s_0).getD (([] : List (List Nat)), ([] : List (List Nat)), ([] : List (List Nat)), ())).2.2.1] : List (List (List Nat)))).getD ([] : List (List Nat)))))]) ?_ ?_))
    ·refine aB (aD hF [1, 6, 72, 73, 74] ?_)
     simp only [go_sem]
     refine aC (gJ (aFe [0, 1] rfl rfl ?_))
     simp only [ren, gP, kA, posOf, eB, go_sem]
     refine uS (D := Int) [72, 73] (fun d => [(1, .ptr 0 []), (6, .ptr 1 []), (74, .val (.i .i64) d)]) (fun d => [.inr (.box 5 (.val (.pair .str (.pair (.sl (.pair .str (.pair (.pair .str (.pair .str .unit)) (.pair .expr .unit)))) (.pair (.sl (.pair .str (.pair (.pair .str (.pair .str .unit)) .unit))) (.pair (.sl .str) (.pair (.sl (.pair .str (.pair .expr .unit))) .unit))))) s_0)), .inr (.box 1 (.val (.sl .str) ((bI F ([((aQ F s_0).getD (([] : List (List Nat)), ([] : List (List Nat)), ([] : List (List Nat)), ())).1, ((aQ F s_0).getD (([] : List (List Nat)), ([] : List (List Nat)), ([] : List (List Nat)), ())).2.1, ((aQ F s_0).getD (([] : List (List Nat)), ([] : List (List Nat)), ([] : List (List Nat)), ())).2.2.1] : List (List (List Nat)))).getD ([] : List (List Nat)))))]) h ?_ ?_ ?_
     ·first | rfl | (simp only [go_sem]; done)
     ·exact zAF
     rintro x74_14 s14 h hs14
     simp only [go_sem]
     try dsimp only at h
     unfold zG at h
     refine aB (aD hF [1, 6, 72, 73, 74, 75] ?_)
     simp only [go_sem]
     refine aC (aB (cA rfl (fun hc => ?_) (fun hc => ?_)))
     ·try simp only [go_sem] at hc
      have h := hP zAB h
      refine dH (aC (aB (gJ (aB (aO hF [1, 6, 11, 72, 73, 74] ?_)))))
      simp only [go_sem]
      obtain ⟨g0, h⟩ := aT h
      repeat (refine ⟨zAA, ?_⟩)
      refine aC (aB (aD hF [1, 6, 72, 73, 74, 88] ?_))
      simp only [go_sem]
      obtain ⟨g0, h⟩ := aT h
      obtain ⟨g1, h⟩ := aT h
      repeat (refine ⟨by first | with_reducible assumption | omega | (intros; first | with_reducible assumption | omega) | (simp only [go_sem] at *; first | with_reducible assumption | omega) | (intro _; exact ⟨rfl, by decide⟩) | (intro _; refine (?_ : _ = aX _); rfl) | exact ⟨rfl, rfl⟩ | (intro q0; (try have e1 := g1 zAC); first | assumption | omega) | decide, ?_⟩)
      refine aC (cA rfl (fun hc => ?_) (fun hc => ?_))
      ·try simp only [go_sem] at hc
       have h := hP zAB h
       refine aB (aD hF [2] ?_)
       simp only [go_sem]
       obtain rfl := Option.some.inj h
       dsimp only [uC] at hs14
       have h := hs14
       try dsimp only at h
       obtain rfl := Option.some.inj h
       refine aC (dB (jY (dF (dF (jY (dF (fC hF [.tmp 2] rfl rfl rfl ?_)))))))
       exact zAG
      ·try simp only [go_sem] at hc
       have h := hU zAB h
       refine dH (dP (aC (aD hF [1, 6, 72, 73, 74] ?_)))
       simp only [go_sem]
       obtain ⟨g0, h⟩ := aT h
       try simp only [I64, I32] at g0
       repeat (refine ⟨zAA, ?_⟩)
       obtain rfl := Option.some.inj h
       dsimp only [uC] at hs14
       refine bE (gQ [0, 1] rfl rfl ?_)
       simp only [ren, gP, kA, posOf, eB, go_sem]
       refine aS (x74_14 + (1 : Int)) hs14 rfl ?_
       ·exact zAF
     ·try simp only [go_sem] at hc
      have h := hU zAB h
      obtain rfl := Option.some.inj h
      dsimp only [uC] at hs14
      have h := hs14
      try dsimp only at h
      refine vX (eN (eN (iJ (bE (aS () h rfl ?_)))))
      ·exact zAF
    ·rintro u h
     try dsimp only at h
     simp only [go_sem]
     unfold tR at h
     refine aB (aB (aD hF [1, 6, 91, 92, 93] ?_))
     simp only [go_sem]
     refine aC (gJ (uS (D := Int) [91, 92] (fun d => [(1, .ptr 0 []), (6, .ptr 1 []), (93, .val (.i .i64) d)]) (fun d => [.inr (.box 5 (.val (.pair .str (.pair (.sl (.pair .str (.pair (.pair .str (.pair .str .unit)) (.pair .expr .unit)))) (.pair (.sl (.pair .str (.pair (.pair .str (.pair .str .unit)) .unit))) (.pair (.sl .str) (.pair (.sl (.pair .str (.pair .expr .unit))) .unit))))) s_0)), .inr (.box 1 (.val (.sl .str) ((bI F ([((aQ F s_0).getD (([] : List (List Nat)), ([] : List (List Nat)), ([] : List (List Nat)), ())).1, ((aQ F s_0).getD (([] : List (List Nat)), ([] : List (List Nat)), ([] : List (List Nat)), ())).2.1, ((aQ F s_0).getD (([] : List (List Nat)), ([] : List (List Nat)), ([] : List (List Nat)), ())).2.2.1] : List (List (List Nat)))).getD ([] : List (List Nat)))))]) h ?_ ?_ ?_))
     ·first | rfl | (simp only [go_sem]; done)
     ·exact zAF
     rintro x93_11 s20 h hs20
     simp only [go_sem]
     try dsimp only at h
     unfold zF at h
     refine aB (aD hF [1, 6, 91, 92, 93, 94] ?_)
     simp only [go_sem]
     refine aC (aB (cA rfl (fun hc => ?_) (fun hc => ?_)))
     ·try simp only [go_sem] at hc
      have h := hP zAB h
      refine dH (aC (aB (gJ (aB (aO hF [1, 6, 13, 91, 92, 93] ?_)))))
      simp only [go_sem]
      obtain ⟨g0, h⟩ := aT h
      repeat (refine ⟨zAA, ?_⟩)
      refine aC (aB (aD hF [1, 6, 91, 92, 93, 100] ?_))
      simp only [go_sem]
      obtain ⟨g0, h⟩ := aT h
      repeat (refine ⟨zAA, ?_⟩)
      refine aC (cA rfl (fun hc => ?_) (fun hc => ?_))
      ·try simp only [go_sem] at hc
       have h := hP zAB h
       refine aB (aD hF [2] ?_)
       simp only [go_sem]
       obtain rfl := Option.some.inj h
       dsimp only [uC] at hs20
       have h := hs20
       try dsimp only at h
       obtain rfl := Option.some.inj h
       refine aC (dB (jY (dF (dF (jY (dF (fC hF [.tmp 2] rfl rfl rfl ?_)))))))
       exact zAG
      ·try simp only [go_sem] at hc
       have h := hU zAB h
       refine dH (dP (aC (aD hF [1, 6, 91, 92, 93] ?_)))
       simp only [go_sem]
       obtain ⟨g0, h⟩ := aT h
       try simp only [I64, I32] at g0
       repeat (refine ⟨zAA, ?_⟩)
       obtain rfl := Option.some.inj h
       dsimp only [uC] at hs20
       refine bE (gQ [0, 1] rfl rfl ?_)
       simp only [ren, gP, kA, posOf, eB, go_sem]
       refine aS (x93_11 + (1 : Int)) hs20 rfl ?_
       ·exact zAF
     ·try simp only [go_sem] at hc
      have h := hU zAB h
      obtain rfl := Option.some.inj h
      dsimp only [uC] at hs20
      have h := hs20
      try dsimp only at h
      refine vX (eN (eN (iJ (aC (aB (wA 1 rfl ?_))))))
      simp only [go_sem]
      refine aD hF [2] ?_
      simp only [go_sem]
      obtain ⟨g0, h⟩ := aT h
      repeat (refine ⟨zAA, ?_⟩)
      obtain rfl := Option.some.inj h
      refine aC (dB (fC hF [.tmp 2] rfl rfl rfl ?_))
      exact zAG
attribute [go_sem] rK
noncomputable def wP (F : Md) (s_0 : (Int × (Int × (Int × (Int × ((List Nat) × ((List Nat) × ((List Nat) × ((List Nat) × ((List ((List Nat) × ((List ((List Nat) × (((List Nat) × ((List Nat) × Unit)) × (Ex × Unit)))) × ((List ((List Nat) × (((List Nat) × ((List Nat) × Unit)) × Unit))) × ((List (List Nat)) × ((List ((List Nat) × (Ex × Unit))) × Unit)))))) × ((List ((List Nat) × ((List Nat) × ((List Nat) × ((List Nat) × Unit))))) × Unit))))))))))) (sub_1 : (List Nat)) (x10_5 : Int) : Option ((Int) ⊕ ((Unit) ⊕ Int)) :=
 if x10_5 < (((s_0.2.2.2.2.2.2.2.2.1.length) : Nat) : Int) then ck (0 ≤ x10_5 ∧ x10_5 < (((s_0.2.2.2.2.2.2.2.2.1.length) : Nat) : Int)) (if (s_0.2.2.2.2.2.2.2.2.1.getD (x10_5.toNat) ([], [], [], [], [], ())).1 = sub_1 then some (.inr (.inr x10_5)) else ck (I64 (x10_5 + (1 : Int))) (some (.inl (x10_5 + (1 : Int))))) else some (.inr (.inl ()))
noncomputable def gX (F : Md) (s_0 : (Int × (Int × (Int × (Int × ((List Nat) × ((List Nat) × ((List Nat) × ((List Nat) × ((List ((List Nat) × ((List ((List Nat) × (((List Nat) × ((List Nat) × Unit)) × (Ex × Unit)))) × ((List ((List Nat) × (((List Nat) × ((List Nat) × Unit)) × Unit))) × ((List (List Nat)) × ((List ((List Nat) × (Ex × Unit))) × Unit)))))) × ((List ((List Nat) × ((List Nat) × ((List Nat) × ((List Nat) × Unit))))) × Unit))))))))))) (sub_1 : (List Nat)) : Option Int :=
 (dM F (fun d : Int => wP F s_0 sub_1 d) (0 : Int)).bind (fun e => match e with | (.inl e) => some (-1 : Int) | (.inr e) => some e)
def aD6 : PlR := ⟨[(0, .B [1, 2]), (1, .A [1, 8, 9, 10]), (2, .A [1, 8, 9, 10, 11]), (3, .B [1, 5, 6, 8, 9, 10]), (4, .A [1, 5, 8, 9, 10, 18]), (5, .A [4]), (6, .A [1, 8, 9, 10]), (7, .A [4])], []⟩
def aF3 : Ty := .pair (.pair (.i .i64) (.pair (.i .i64) (.pair (.i .i64) (.pair (.i .i64) (.pair .str (.pair .str (.pair .str (.pair .str (.pair (.sl (.pair .str (.pair (.sl (.pair .str (.pair (.pair .str (.pair .str .unit)) (.pair .expr .unit)))) (.pair (.sl (.pair .str (.pair (.pair .str (.pair .str .unit)) .unit))) (.pair (.sl .str) (.pair (.sl (.pair .str (.pair .expr .unit))) .unit)))))) (.pair (.sl (.pair .str (.pair .str (.pair .str (.pair .str .unit))))) .unit)))))))))) (.pair .str .unit)
noncomputable def nZ (F : Md) : aG := mSpec aF3 (.one (.i .i64)) (fun x => gX F x.1 x.2.1)
noncomputable def aL9 (F : Md) : List (FuncId × aG) := []
theorem aMa (F : Md) : bD Tryz.prog GL (aL9 F) := .nil
attribute [go_sem] aF3 aD6
set_option maxHeartbeats 4000000 in
theorem aD7 (F : Md) : FOK Tryz.prog GL 62 (nZ F) := by
 refine bH (aY (aMa F)) mix Tryz.func62 rfl (by kernel_rfl) (by decide) aD6 fun w0 S x Θ hw h hF => ?_
 obtain ⟨(s_0 : (Int × (Int × (Int × (Int × ((List Nat) × ((List Nat) × ((List Nat) × ((List Nat) × ((List ((List Nat) × ((List ((List Nat) × (((List Nat) × ((List Nat) × Unit)) × (Ex × Unit)))) × ((List ((List Nat) × (((List Nat) × ((List Nat) × Unit)) × Unit))) × ((List (List Nat)) × ((List ((List Nat) × (Ex × Unit))) × Unit)))))) × ((List ((List Nat) × ((List Nat) × ((List Nat) × ((List Nat) × Unit))))) × Unit))))))))))), (sub_1 : (List Nat)), u⟩ := x
 simp only [bL, go_sem]
 replace h : sat (gX F s_0 sub_1) _ := h
 unfold gX at h
 refine aFe [] rfl rfl ?_
 simp only [go_sem]
 refine bR hF (D := Int) [1, 8, 9] (fun d => [(10, .val (.i .i64) d)]) (fun d => []) h rfl (by simp only [go_sem]) ?_
 rintro x10_5 A2 T2 hA2 hE2 h
 simp only [go_sem]
 replace h : sat (wP F s_0 sub_1 x10_5) _ := h
 unfold wP at h
 refine eE h (fun hc h => ?_) fun hc h => ?_
 ·refine aP h fun g0 h => ?_
  refine dR h (fun hc h => ?_) fun hc h => ?_
  ·replace h := hE2 _ (aA h)
   try dsimp only at h
   exact aF hF [.tmp 4] rfl rfl rfl (aA h) (by simp only [aR, go_sem])
  ·refine aP h fun g0 h => ?_
   replace h := hA2 _ (aA h)
   refine gQ [] rfl rfl ?_
   simp only [go_sem]
   exact aS _ h rfl (by simp only [go_sem])
 ·replace h := hE2 _ (aA h)
  try dsimp only at h
  exact aF hF [.tmp 4] rfl rfl rfl (aA h) (by simp only [aR, go_sem])
attribute [go_sem] nZ
noncomputable def pP (F : Md) (o_0 : ((List Nat) × (Ex × Unit))) (a1_1 : (List ((List Nat) × ((List Nat) × ((List Nat) × ((List Nat) × Unit)))))) : Option Bool :=
 ck ((0 : Int) < (((a1_1.length) : Nat) : Int)) (some (decide (o_0.1 = (a1_1.getD (0 : Nat) ([], [], [], [], ())).2.2.2.1)))
def aAm : PlR := ⟨[(0, .B [1, 2]), (1, .A [3])], []⟩
def aA8 : Ty := .pair (.pair .str (.pair .expr .unit)) (.pair (.rp (.sl (.pair .str (.pair .str (.pair .str (.pair .str .unit)))))) .unit)
noncomputable def oH (F : Md) : aG := mSpec aA8 (.one .bool) (fun x => pP F x.1 x.2.1)
noncomputable def aGW (F : Md) : List (FuncId × aG) := []
theorem aGX (F : Md) : bD Tryz.prog GL (aGW F) := .nil
attribute [go_sem] aA8 aAm
set_option maxHeartbeats 4000000 in
theorem aF4 (F : Md) : FOK Tryz.prog GL 141 (oH F) := by
 refine bH (aY (aGX F)) mix Tryz.func141 rfl (by kernel_rfl) (by decide) aAm fun w0 S x Θ hw h hF => ?_
 obtain ⟨(o_0 : ((List Nat) × (Ex × Unit))), (a1_1 : (List ((List Nat) × ((List Nat) × ((List Nat) × ((List Nat) × Unit)))))), u⟩ := x
 simp only [bL, go_sem]
 replace h : sat (pP F o_0 a1_1) _ := h
 unfold pP at h
 refine aP h fun g0 h => ?_
 exact aF hF [.tmp 3] rfl rfl rfl (aA h) (by simp only [aR, go_sem])
attribute [go_sem] oH
noncomputable def dA (F : Md) (s_0 : (List ((List Nat) × (Ex × Unit)))) (f_1 : ((List ((List Nat) × ((List Nat) × ((List Nat) × ((List Nat) × Unit))))) × Unit)) (x8_14 : Int) : Option ((Int) ⊕ ((Unit) ⊕ Int)) :=
 if x8_14 < (((s_0.length) : Nat) : Int) then ck (0 ≤ x8_14 ∧ x8_14 < (((s_0.length) : Nat) : Int)) ((pP F (s_0.getD (x8_14.toNat) ([], (Ex.mk 0 [] []), ())) f_1.1).bind (fun v_27 => if v_27 = true then some (.inr (.inr x8_14)) else ck (I64 (x8_14 + (1 : Int))) (some (.inl (x8_14 + (1 : Int)))))) else some (.inr (.inl ()))
noncomputable def cK (F : Md) (s_0 : (List ((List Nat) × (Ex × Unit)))) (f_1 : ((List ((List Nat) × ((List Nat) × ((List Nat) × ((List Nat) × Unit))))) × Unit)) : Option Int :=
 (dM F (fun d : Int => dA F s_0 f_1 d) (0 : Int)).bind (fun e => match e with | (.inl e) => some (-1 : Int) | (.inr e) => some e)
def fH : PlR := ⟨[(0, .A [0, 1]), (1, .A [0, 1, 7, 8]), (2, .A [0, 1, 7, 8, 9]), (3, .A [0, 1, 5, 7, 8]), (4, .A [0, 1, 5, 7, 8, 16]), (5, .A [4]), (6, .A [0, 1, 7, 8]), (7, .A [4])], []⟩
def fQ : Ty := .pair (.sl (.pair .str (.pair .expr .unit))) (.pair (.clo 141 (.pair (.rp (.sl (.pair .str (.pair .str (.pair .str (.pair .str .unit)))))) .unit)) .unit)
noncomputable def cE (F : Md) : aG := mSpec fQ (.one (.i .i64)) (fun x => cK F x.1 x.2.1)
noncomputable def fR (F : Md) : List (FuncId × aG) := [(141, (oH F))]
theorem lN (F : Md) : bD Tryz.prog GL (fR F) := .cons (aF4 F) (by kernel_rfl) (.nil)
theorem jV (F : Md) : gam (fR F) 141 = some (oH F) := rfl
attribute [go_sem] fQ fH jV
set_option maxHeartbeats 4000000 in
theorem lB (F : Md) : FOK Tryz.prog GL 204 (cE F) := by
 refine bH (aY (lN F)) mix Tryz.func204 rfl (by kernel_rfl) (by decide) fH fun w0 S x Θ hw h hF => ?_
 obtain ⟨(s_0 : (List ((List Nat) × (Ex × Unit)))), (f_1 : ((List ((List Nat) × ((List Nat) × ((List Nat) × ((List Nat) × Unit))))) × Unit)), u⟩ := x
 simp only [bL, go_sem]
 replace h : sat (cK F s_0 f_1) _ := h
 unfold cK at h
 refine bR hF (D := Int) [0, 1, 7] (fun d => [(8, .val (.i .i64) d)]) (fun d => []) h rfl (by simp only [go_sem]) ?_
 rintro x8_14 A2 T2 hA2 hE2 h
 simp only [go_sem]
 replace h : sat (dA F s_0 f_1 x8_14) _ := h
 unfold dA at h
 refine eE h (fun hc h => ?_) fun hc h => ?_
 ·refine aP h fun g0 h => ?_
  obtain ⟨v_27, hv, h⟩ := aI h
  try simp only [hv, go_sem]
  refine aHg h (fun hc h => ?_) fun hc h => ?_
  ·replace h := hE2 _ (aA h)
   try dsimp only at h
   exact aF hF [.tmp 4] rfl rfl rfl (aA h) (by simp only [aR, go_sem])
  ·refine aP h fun g0 h => ?_
   replace h := hA2 _ (aA h)
   exact aS _ h rfl (by simp only [go_sem])
 ·replace h := hE2 _ (aA h)
  try dsimp only at h
  exact aF hF [.tmp 4] rfl rfl rfl (aA h) (by simp only [aR, go_sem])
attribute [go_sem] cE
noncomputable def bO (F : Md) (s_0 : (List ((List Nat) × (Ex × Unit)))) (f_1 : ((List ((List Nat) × ((List Nat) × ((List Nat) × ((List Nat) × Unit))))) × Unit)) : Option Bool :=
 (cK F s_0 f_1).bind (fun v_6 => some (decide ((0 : Int) ≤ v_6)))
def eJ : PlR := ⟨[(0, .A [0, 1]), (1, .A [4])], []⟩
def eV : Ty := .pair (.sl (.pair .str (.pair .expr .unit))) (.pair (.clo 141 (.pair (.rp (.sl (.pair .str (.pair .str (.pair .str (.pair .str .unit)))))) .unit)) .unit)
noncomputable def bZ (F : Md) : aG := mSpec eV (.one .bool) (fun x => bO F x.1 x.2.1)
noncomputable def eW (F : Md) : List (FuncId × aG) := [(204, (cE F))]
theorem kM (F : Md) : bD Tryz.prog GL (eW F) := .cons (lB F) (by kernel_rfl) (.nil)
theorem jA (F : Md) : gam (eW F) 204 = some (cE F) := rfl
attribute [go_sem] eV eJ jA
set_option maxHeartbeats 4000000 in
theorem jW (F : Md) : FOK Tryz.prog GL 139 (bZ F) := by
 refine bH (aY (kM F)) mix Tryz.func139 rfl (by kernel_rfl) (by decide) eJ fun w0 S x Θ hw h hF => ?_
 obtain ⟨(s_0 : (List ((List Nat) × (Ex × Unit)))), (f_1 : ((List ((List Nat) × ((List Nat) × ((List Nat) × ((List Nat) × Unit))))) × Unit)), u⟩ := x
 simp only [bL, go_sem]
 replace h : sat (bO F s_0 f_1) _ := h
 unfold bO at h
 obtain ⟨v_6, hv, h⟩ := aI h
 try simp only [hv, go_sem]
 exact aF hF [.tmp 4] rfl rfl rfl (aA h) (by simp only [aR, go_sem])
attribute [go_sem] bZ
noncomputable def tV (F : Md) (s_0 : (Int × (Int × (Int × (Int × ((List Nat) × ((List Nat) × ((List Nat) × ((List Nat) × ((List ((List Nat) × ((List ((List Nat) × (((List Nat) × ((List Nat) × Unit)) × (Ex × Unit)))) × ((List ((List Nat) × (((List Nat) × ((List Nat) × Unit)) × Unit))) × ((List (List Nat)) × ((List ((List Nat) × (Ex × Unit))) × Unit)))))) × ((List ((List Nat) × ((List Nat) × ((List Nat) × ((List Nat) × Unit))))) × Unit))))))))))) (x14_42 : Int) (x21_83 : Int) (l_84 : (List ((List Nat) × ((List Nat) × ((List Nat) × ((List Nat) × Unit)))))) : Option ((Int × (List ((List Nat) × ((List Nat) × ((List Nat) × ((List Nat) × Unit)))))) ⊕ ((List ((List Nat) × ((List Nat) × ((List Nat) × ((List Nat) × Unit))))) ⊕ Bool)) :=
 if x21_83 < (((s_0.2.2.2.2.2.2.2.2.1.getD (x14_42.toNat) ([], [], [], [], [], ())).2.2.2.1.length : Nat) : Int) then ck (0 ≤ x21_83 ∧ x21_83 < (((s_0.2.2.2.2.2.2.2.2.1.getD (x14_42.toNat) ([], [], [], [], [], ())).2.2.2.1.length : Nat) : Int)) (ck (¬ ((((l_84.length) : Nat) : Int) = (0 : Int)) → ((0 : Int) < (((l_84.length) : Nat) : Int))) (ck (¬ (((((l_84.length) : Nat) : Int) = (0 : Int)) ∨ (¬ ((l_84.getD (0 : Nat) ([], [], [], [], ())).1 = (s_0.2.2.2.2.2.2.2.2.1.getD (x14_42.toNat) ([], [], [], [], [], ())).1))) → ((0 : Int) < (((l_84.length) : Nat) : Int))) (if (((((l_84.length) : Nat) : Int) = (0 : Int)) ∨ (¬ ((l_84.getD (0 : Nat) ([], [], [], [], ())).1 = (s_0.2.2.2.2.2.2.2.2.1.getD (x14_42.toNat) ([], [], [], [], [], ())).1))) ∨ (¬ ((l_84.getD (0 : Nat) ([], [], [], [], ())).2.1 = ((s_0.2.2.2.2.2.2.2.2.1.getD (x14_42.toNat) ([], [], [], [], [], ())).2.2.2.1.getD (x21_83.toNat) ([] : List Nat)))) then some (.inr (.inr false)) else ck ((0 : Int) < (((l_84.length) : Nat) : Int)) ((gX F s_0 (l_84.getD (0 : Nat) ([], [], [], [], ())).2.2.1).bind (fun v_99 => ck (¬ (v_99 < (0 : Int)) → (0 ≤ v_99 ∧ v_99 < (((s_0.2.2.2.2.2.2.2.2.1.length) : Nat) : Int))) (ck (¬ (v_99 < (0 : Int)) → ((bO F (s_0.2.2.2.2.2.2.2.2.1.getD (v_99.toNat) ([], [], [], [], [], ())).2.2.2.2.1 (l_84, ())).isSome = true)) (if (v_99 < (0 : Int)) ∨ (¬ (((bO F (s_0.2.2.2.2.2.2.2.2.1.getD (v_99.toNat) ([], [], [], [], [], ())).2.2.2.2.1 (l_84, ())).getD false) = true)) then some (.inr (.inr false)) else ck ((1 : Int) ≤ (((l_84.length) : Nat) : Int)) (ck (I64 (x21_83 + (1 : Int))) (some (.inl ((x21_83 + (1 : Int)), (List.drop (1 : Nat) l_84)))))))))))) else some (.inr (.inl l_84))
noncomputable def tW (F : Md) (s_0 : (Int × (Int × (Int × (Int × ((List Nat) × ((List Nat) × ((List Nat) × ((List Nat) × ((List ((List Nat) × ((List ((List Nat) × (((List Nat) × ((List Nat) × Unit)) × (Ex × Unit)))) × ((List ((List Nat) × (((List Nat) × ((List Nat) × Unit)) × Unit))) × ((List (List Nat)) × ((List ((List Nat) × (Ex × Unit))) × Unit)))))) × ((List ((List Nat) × ((List Nat) × ((List Nat) × ((List Nat) × Unit))))) × Unit))))))))))) (x14_42 : Int) (l_43 : (List ((List Nat) × ((List Nat) × ((List Nat) × ((List Nat) × Unit)))))) : Option ((Int × (List ((List Nat) × ((List Nat) × ((List Nat) × ((List Nat) × Unit)))))) ⊕ ((List ((List Nat) × ((List Nat) × ((List Nat) × ((List Nat) × Unit))))) ⊕ Bool)) :=
 if x14_42 < (((s_0.2.2.2.2.2.2.2.2.1.length) : Nat) : Int) then ck (0 ≤ x14_42 ∧ x14_42 < (((s_0.2.2.2.2.2.2.2.2.1.length) : Nat) : Int)) ((dM F (fun d : Int × (List ((List Nat) × ((List Nat) × ((List Nat) × ((List Nat) × Unit))))) => tV F s_0 x14_42 d.1 d.2) ((0 : Int), l_43)).bind (fun e => match e with | (.inl e) => ck (I64 (x14_42 + (1 : Int))) (some (.inl ((x14_42 + (1 : Int)), e))) | (.inr e) => some (.inr (.inr e)))) else some (.inr (.inl l_43))
noncomputable def oW (F : Md) (s_0 : (Int × (Int × (Int × (Int × ((List Nat) × ((List Nat) × ((List Nat) × ((List Nat) × ((List ((List Nat) × ((List ((List Nat) × (((List Nat) × ((List Nat) × Unit)) × (Ex × Unit)))) × ((List ((List Nat) × (((List Nat) × ((List Nat) × Unit)) × Unit))) × ((List (List Nat)) × ((List ((List Nat) × (Ex × Unit))) × Unit)))))) × ((List ((List Nat) × ((List Nat) × ((List Nat) × ((List Nat) × Unit))))) × Unit))))))))))) : Option Bool :=
 (dM F (fun d : Int × (List ((List Nat) × ((List Nat) × ((List Nat) × ((List Nat) × Unit))))) => tW F s_0 d.1 d.2) ((0 : Int), s_0.2.2.2.2.2.2.2.2.2.1)).bind (fun e => match e with | (.inl e) => some (decide ((((e.length) : Nat) : Int) = (0 : Int))) | (.inr e) => some e)
def aCe : PlR := ⟨[(0, .B [1]), (1, .B [1, 3]), (2, .A [1, 3, 12, 13, 14]), (3, .A [1, 3, 12, 13, 14, 15]), (4, .B [1, 3, 5, 12, 13, 14]), (5, .A [1, 3, 5, 12, 13, 14, 19, 20, 21]), (6, .A [1, 3, 5, 12, 13, 14, 19, 20, 21, 22]), (7, .A [1, 3, 5, 7, 12, 13, 14, 19, 20, 21]), (8, .A [1, 3, 5, 12, 13, 14, 19, 20, 21, 44]), (9, .A [2]), (10, .A [1, 3, 5, 8, 12, 13, 14, 19, 20, 21]), (11, .A [1, 3, 5, 12, 13, 14, 19, 20, 21, 63]), (12, .A [2]), (13, .B [1, 3, 5, 12, 13, 14, 19, 20, 21]), (14, .A [1, 3, 5, 12, 13, 14, 19, 20, 21]), (15, .A [1, 3, 12, 13, 14]), (16, .A [2])], []⟩
def aDe : Ty := .pair (.pair (.i .i64) (.pair (.i .i64) (.pair (.i .i64) (.pair (.i .i64) (.pair .str (.pair .str (.pair .str (.pair .str (.pair (.sl (.pair .str (.pair (.sl (.pair .str (.pair (.pair .str (.pair .str .unit)) (.pair .expr .unit)))) (.pair (.sl (.pair .str (.pair (.pair .str (.pair .str .unit)) .unit))) (.pair (.sl .str) (.pair (.sl (.pair .str (.pair .expr .unit))) .unit)))))) (.pair (.sl (.pair .str (.pair .str (.pair .str (.pair .str .unit))))) .unit)))))))))) .unit
noncomputable def rL (F : Md) : aG := mSpec aDe (.one .bool) (fun x => oW F x.1)
noncomputable def zH (F : Md) : List (FuncId × aG) := [(139, (bZ F)), (62, (nZ F))]
theorem aKf (F : Md) : bD Tryz.prog GL (zH F) := .cons (jW F) (by kernel_rfl) (.cons (aD7 F) (by kernel_rfl) (.nil))
theorem aEK (F : Md) : gam (zH F) 139 = some (bZ F) := rfl
theorem aF5 (F : Md) : gam (zH F) 62 = some (nZ F) := rfl
attribute [go_sem] aDe aCe aEK aF5
set_option maxHeartbeats 4000000 in
theorem aIt (F : Md) : FOK Tryz.prog GL 69 (rL F) := by
 refine bH (aY (aKf F)) mix Tryz.func69 rfl (by kernel_rfl) (by decide) aCe fun w0 S x Θ hw h hF => ?_
 obtain ⟨(s_0 : (Int × (Int × (Int × (Int × ((List Nat) × ((List Nat) × ((List Nat) × ((List Nat) × ((List ((List Nat) × ((List ((List Nat) × (((List Nat) × ((List Nat) × Unit)) × (Ex × Unit)))) × ((List ((List Nat) × (((List Nat) × ((List Nat) × Unit)) × Unit))) × ((List (List Nat)) × ((List ((List Nat) × (Ex × Unit))) × Unit)))))) × ((List ((List Nat) × ((List Nat) × ((List Nat) × ((List Nat) × Unit))))) × Unit))))))))))), u⟩ := x
 simp only [bL, go_sem]
 replace h : sat (oW F s_0) _ := h
 unfold oW at h
 refine bR hF (D := Int × (List ((List Nat) × ((List Nat) × ((List Nat) × ((List Nat) × Unit)))))) [12, 13] (fun d => [(1, .ptr 0 []), (3, .ptr 1 []), (14, .val (.i .i64) d.1)]) (fun d => [.inr (.box 10 (.val (.pair (.i .i64) (.pair (.i .i64) (.pair (.i .i64) (.pair (.i .i64) (.pair .str (.pair .str (.pair .str (.pair .str (.pair (.sl (.pair .str (.pair (.sl (.pair .str (.pair (.pair .str (.pair .str .unit)) (.pair .expr .unit)))) (.pair (.sl (.pair .str (.pair (.pair .str (.pair .str .unit)) .unit))) (.pair (.sl .str) (.pair (.sl (.pair .str (.pair .expr .unit))) .unit)))))) (.pair (.sl (.pair .str (.pair .str (.pair .str (.pair .str .unit))))) .unit)))))))))) s_0)), .inr (.box 1 (.val (.sl (.pair .str (.pair .str (.pair .str (.pair .str .unit))))) d.2))]) h rfl (by simp only [go_sem]) ?_
 rintro ⟨x14_42, l_43⟩ A3 T3 hA3 hE3 h
 simp only [go_sem]
 replace h : sat (tW F s_0 x14_42 l_43) _ := h
 unfold tW at h
 refine eE h (fun hc h => ?_) fun hc h => ?_
 ·obtain ⟨g0, h⟩ := aJ h
  repeat (refine ⟨zAA, ?_⟩)
  refine bR hF (D := Int × (List ((List Nat) × ((List Nat) × ((List Nat) × ((List Nat) × Unit)))))) [12, 13, 14, 19, 20] (fun d => [(1, .ptr 0 []), (3, .ptr 1 []), (5, .ptr 2 []), (21, .val (.i .i64) d.1)]) (fun d => [.inr (.box 10 (.val (.pair (.i .i64) (.pair (.i .i64) (.pair (.i .i64) (.pair (.i .i64) (.pair .str (.pair .str (.pair .str (.pair .str (.pair (.sl (.pair .str (.pair (.sl (.pair .str (.pair (.pair .str (.pair .str .unit)) (.pair .expr .unit)))) (.pair (.sl (.pair .str (.pair (.pair .str (.pair .str .unit)) .unit))) (.pair (.sl .str) (.pair (.sl (.pair .str (.pair .expr .unit))) .unit)))))) (.pair (.sl (.pair .str (.pair .str (.pair .str (.pair .str .unit))))) .unit)))))))))) s_0)), .inr (.box 1 (.val (.sl (.pair .str (.pair .str (.pair .str (.pair .str .unit))))) d.2)), .inr (.box 5 (.val (.pair .str (.pair (.sl (.pair .str (.pair (.pair .str (.pair .str .unit)) (.pair .expr .unit)))) (.pair (.sl (.pair .str (.pair (.pair .str (.pair .str .unit)) .unit))) (.pair (.sl .str) (.pair (.sl (.pair .str (.pair .expr .unit))) .unit))))) (s_0.2.2.2.2.2.2.2.2.1.getD (x14_42.toNat) ([], [], [], [], [], ()))))]) h rfl (by simp only [go_sem]) ?_
  rintro ⟨x21_83, l_84⟩ A6 T6 hA6 hE6 h
  simp only [go_sem]
  replace h : sat (tV F s_0 x14_42 x21_83 l_84) _ := h
  unfold tV at h
  refine eE h (fun hc h => ?_) fun hc h => ?_
  ·obtain ⟨g0, h⟩ := aJ h
   repeat (refine ⟨zAA, ?_⟩)
   obtain ⟨g0, h⟩ := aJ h
   obtain ⟨g1, h⟩ := aJ h
   repeat (refine ⟨zAE, ?_⟩)
   refine ⟨fun hc => ?_, fun hc => ?_⟩
   ·replace h := iU hc h
    replace h := hE6 _ (aA h)
    try dsimp only at h
    replace h := hE3 _ (aA h)
    try dsimp only at h
    exact aF hF [.tmp 2] rfl rfl rfl (aA h) (by simp only [aR, go_sem])
   ·replace h := iV hc h
    obtain ⟨g0, h⟩ := aJ h
    repeat (refine ⟨zAA, ?_⟩)
    obtain ⟨v_99, hv, h⟩ := aI h
    try simp only [hv, go_sem]
    obtain ⟨g0, h⟩ := aJ h
    obtain ⟨g1, h⟩ := aJ h
    repeat (refine ⟨zAE, ?_⟩)
    refine ⟨fun hc => ?_, fun hc => ?_⟩
    ·replace h := iU zAB h
     replace h := hE6 _ (aA h)
     try dsimp only at h
     replace h := hE3 _ (aA h)
     try dsimp only at h
     exact aF hF [.tmp 2] rfl rfl rfl (aA h) (by simp only [aR, go_sem])
    ·replace h := iV zAB h
     obtain ⟨g0, h⟩ := aJ h
     repeat (refine ⟨zAA, ?_⟩)
     obtain ⟨g0, h⟩ := aJ h
     try simp only [I64, I32] at g0
     repeat (refine ⟨zAA, ?_⟩)
     replace h := hA6 _ (aA h)
     exact aS _ h rfl (by simp only [go_sem])
  ·replace h := hE6 _ (aA h)
   try dsimp only at h
   obtain ⟨g0, h⟩ := aJ h
   try simp only [I64, I32] at g0
   repeat (refine ⟨zAA, ?_⟩)
   replace h := hA3 _ (aA h)
   refine gQ [0, 1] rfl rfl ?_
   simp only [go_sem]
   exact aS _ h rfl (by simp only [go_sem])
 ·replace h := hE3 _ (aA h)
  try dsimp only at h
  exact aF hF [.tmp 2] rfl rfl rfl (aA h) (by simp only [aR, go_sem])
attribute [go_sem] rL
noncomputable def tX (F : Md) (s_0 : (Int × (Int × (Int × (Int × ((List Nat) × ((List Nat) × ((List Nat) × ((List Nat) × ((List ((List Nat) × ((List ((List Nat) × (((List Nat) × ((List Nat) × Unit)) × (Ex × Unit)))) × ((List ((List Nat) × (((List Nat) × ((List Nat) × Unit)) × Unit))) × ((List (List Nat)) × ((List ((List Nat) × (Ex × Unit))) × Unit)))))) × ((List ((List Nat) × ((List Nat) × ((List Nat) × ((List Nat) × Unit))))) × Unit))))))))))) (names_16 : (List (List Nat))) : Option (Bool) :=
 (nY F names_16).bind (fun v_20 => ck ((v_20 = true) → ((oW F s_0).isSome = true)) (some (v_20 && ((oW F s_0).getD false))))
noncomputable def zI (F : Md) (s_0 : (Int × (Int × (Int × (Int × ((List Nat) × ((List Nat) × ((List Nat) × ((List Nat) × ((List ((List Nat) × ((List ((List Nat) × (((List Nat) × ((List Nat) × Unit)) × (Ex × Unit)))) × ((List ((List Nat) × (((List Nat) × ((List Nat) × Unit)) × Unit))) × ((List (List Nat)) × ((List ((List Nat) × (Ex × Unit))) × Unit)))))) × ((List ((List Nat) × ((List Nat) × ((List Nat) × ((List Nat) × Unit))))) × Unit))))))))))) (x24_23 : Int) (names_24 : (List (List Nat))) : Option ((Int × (List (List Nat))) ⊕ ((List (List Nat)) ⊕ Bool)) :=
 if x24_23 < (((s_0.2.2.2.2.2.2.2.2.1.length) : Nat) : Int) then ck (0 ≤ x24_23 ∧ x24_23 < (((s_0.2.2.2.2.2.2.2.2.1.length) : Nat) : Int)) ((tT F (s_0.2.2.2.2.2.2.2.2.1.getD (x24_23.toNat) ([], [], [], [], [], ()))).bind (fun v_37 => if ¬ (v_37 = true) then some (.inr (.inr false)) else ck (((names_24.length) + (1 : Nat)) * 16 ≤ 140737488355328) (ck (I64 (x24_23 + (1 : Int))) (some (.inl ((x24_23 + (1 : Int)), (names_24 ++ ([(s_0.2.2.2.2.2.2.2.2.1.getD (x24_23.toNat) ([], [], [], [], [], ())).1] : List (List Nat))))))))) else some (.inr (.inl names_24))
noncomputable def bQ (F : Md) (s_0 : (Int × (Int × (Int × (Int × ((List Nat) × ((List Nat) × ((List Nat) × ((List Nat) × ((List ((List Nat) × ((List ((List Nat) × (((List Nat) × ((List Nat) × Unit)) × (Ex × Unit)))) × ((List ((List Nat) × (((List Nat) × ((List Nat) × Unit)) × Unit))) × ((List (List Nat)) × ((List ((List Nat) × (Ex × Unit))) × Unit)))))) × ((List ((List Nat) × ((List Nat) × ((List Nat) × ((List Nat) × Unit))))) × Unit))))))))))) : Option Bool :=
 (rG F s_0).bind (fun v_7 => if ((¬ (v_7 = true)) ∨ ((((s_0.2.2.2.2.2.2.2.2.1.length) : Nat) : Int) < (1 : Int))) ∨ ((4 : Int) < (((s_0.2.2.2.2.2.2.2.2.1.length) : Nat) : Int)) then some false else (dM F (fun d : Int × (List (List Nat)) => zI F s_0 d.1 d.2) ((0 : Int), ([] : List (List Nat)))).bind (fun e => match e with | (.inl e) => tX F s_0 e | (.inr e) => some e))
def aF6 : PlR := ⟨[(0, .B [1]), (1, .A [1, 20]), (2, .A [2]), (3, .A [1, 3]), (4, .A [1, 3, 22, 23, 24]), (5, .A [1, 3, 22, 23, 24, 25]), (6, .B [1, 3, 5, 22, 23, 24]), (7, .A [1, 3, 5, 22, 23, 24, 30]), (8, .A [2]), (9, .B [1, 3, 22, 23, 24]), (10, .A [1, 3, 22, 23, 24]), (11, .A [2])], [(7, 14)]⟩
def aHO : Ty := .pair (.pair (.i .i64) (.pair (.i .i64) (.pair (.i .i64) (.pair (.i .i64) (.pair .str (.pair .str (.pair .str (.pair .str (.pair (.sl (.pair .str (.pair (.sl (.pair .str (.pair (.pair .str (.pair .str .unit)) (.pair .expr .unit)))) (.pair (.sl (.pair .str (.pair (.pair .str (.pair .str .unit)) .unit))) (.pair (.sl .str) (.pair (.sl (.pair .str (.pair .expr .unit))) .unit)))))) (.pair (.sl (.pair .str (.pair .str (.pair .str (.pair .str .unit))))) .unit)))))))))) .unit
noncomputable def pQ (F : Md) : aG := mSpec aHO (.one .bool) (fun x => bQ F x.1)
noncomputable def wD (F : Md) : List (FuncId × aG) := [(66, (pH F)), (67, (rK F)), (68, (mU F)), (69, (rL F))]
theorem aNb (F : Md) : bD Tryz.prog GL (wD F) := .cons (aGP F) (by kernel_rfl) (.cons (aIs F) (by kernel_rfl) (.cons (aC5 F) (by kernel_rfl) (.cons (aIt F) (by kernel_rfl) (.nil))))
theorem aKg (F : Md) : gam (wD F) 66 = some (pH F) := rfl
theorem aKh (F : Md) : gam (wD F) 67 = some (rK F) := rfl
theorem aKi (F : Md) : gam (wD F) 68 = some (mU F) := rfl
theorem aKj (F : Md) : gam (wD F) 69 = some (rL F) := rfl
attribute [go_sem] aHO aF6 aKg aKh aKi aKj
set_option maxHeartbeats 4000000 in
theorem aF7 (F : Md) : FOK Tryz.prog GL 28 (pQ F) := by
 refine bH (aY (aNb F)) mix Tryz.func28 rfl (by kernel_rfl) (by decide) aF6 fun w0 S x Θ hw h hF => ?_
 obtain ⟨(s_0 : (Int × (Int × (Int × (Int × ((List Nat) × ((List Nat) × ((List Nat) × ((List Nat) × ((List ((List Nat) × ((List ((List Nat) × (((List Nat) × ((List Nat) × Unit)) × (Ex × Unit)))) × ((List ((List Nat) × (((List Nat) × ((List Nat) × Unit)) × Unit))) × ((List (List Nat)) × ((List ((List Nat) × (Ex × Unit))) × Unit)))))) × ((List ((List Nat) × ((List Nat) × ((List Nat) × ((List Nat) × Unit))))) × Unit))))))))))), u⟩ := x
 simp only [bL, go_sem]
 replace h : sat (bQ F s_0) _ := h
 unfold bQ at h
 obtain ⟨v_7, hv, h⟩ := aI h
 try simp only [hv, go_sem]
 refine ⟨fun hc => ?_, fun hc => ?_⟩
 ·replace h := iU zAB h
  exact aF hF [.tmp 2] rfl rfl rfl (aA h) (by simp only [aR, go_sem])
 ·replace h := iV zAB h
  refine dZ hF (D := (List (List Nat))) (fun d => sat (tX F s_0 d) Θ) [] (fun d => [(1, .ptr 0 []), (3, .own 1)]) (fun d => [.inr (.box 10 (.val (.pair (.i .i64) (.pair (.i .i64) (.pair (.i .i64) (.pair (.i .i64) (.pair .str (.pair .str (.pair .str (.pair .str (.pair (.sl (.pair .str (.pair (.sl (.pair .str (.pair (.pair .str (.pair .str .unit)) (.pair .expr .unit)))) (.pair (.sl (.pair .str (.pair (.pair .str (.pair .str .unit)) .unit))) (.pair (.sl .str) (.pair (.sl (.pair .str (.pair .expr .unit))) .unit)))))) (.pair (.sl (.pair .str (.pair .str (.pair .str (.pair .str .unit))))) .unit)))))))))) s_0)), .inr (.row 9 .str d)]) ?_ ?_
  ·simp only [go_sem]
   refine aBx 3 9 .str rfl ?_
   simp only [go_sem]
   refine bR hF (D := Int × (List (List Nat))) [22, 23] (fun d => [(1, .ptr 0 []), (3, .own 1), (24, .val (.i .i64) d.1)]) (fun d => [.inr (.box 10 (.val (.pair (.i .i64) (.pair (.i .i64) (.pair (.i .i64) (.pair (.i .i64) (.pair .str (.pair .str (.pair .str (.pair .str (.pair (.sl (.pair .str (.pair (.sl (.pair .str (.pair (.pair .str (.pair .str .unit)) (.pair .expr .unit)))) (.pair (.sl (.pair .str (.pair (.pair .str (.pair .str .unit)) .unit))) (.pair (.sl .str) (.pair (.sl (.pair .str (.pair .expr .unit))) .unit)))))) (.pair (.sl (.pair .str (.pair .str (.pair .str (.pair .str .unit))))) .unit)))))))))) s_0)), .inr (.row 9 .str d.2)]) h rfl (by simp only [go_sem]) ?_
   rintro ⟨x24_23, names_24⟩ A5 T5 hA5 hE5 h
   simp only [go_sem]
   replace h : sat (zI F s_0 x24_23 names_24) _ := h
   unfold zI at h
   refine eE h (fun hc h => ?_) fun hc h => ?_
   ·obtain ⟨g0, h⟩ := aJ h
    repeat (refine ⟨by omega, ?_⟩)
    obtain ⟨v_37, hv, h⟩ := aI h
    try simp only [hv, go_sem]
    refine aAt h (fun hc h => ?_) fun hc h => ?_
    ·replace h := hE5 _ (aA h)
     try dsimp only at h
     exact aF hF [.tmp 2] rfl rfl rfl (aA h) (by simp only [aR, go_sem])
    ·obtain ⟨g0, h⟩ := aJ h
     repeat (refine ⟨by omega, ?_⟩)
     obtain ⟨g0, h⟩ := aJ h
     repeat (refine ⟨by omega, ?_⟩)
     replace h := hA5 _ (aA h)
     refine gQ [0, 3] rfl rfl ?_
     simp only [go_sem]
     exact aS _ h rfl (by simp only [go_sem])
   ·replace h := hE5 _ (aA h)
    try dsimp only at h
    exact aS (names_24) h rfl (by simp only [go_sem])
  ·rintro names_16 h
   simp only [go_sem]
   replace h : sat (tX F s_0 names_16) _ := h
   unfold tX at h
   obtain ⟨v_20, hv, h⟩ := aI h
   try simp only [hv, go_sem]
   obtain ⟨g0, h⟩ := aJ h
   repeat (refine ⟨by omega, ?_⟩)
   exact aF hF [.tmp 2] rfl rfl rfl (aA h) (by simp only [aR, go_sem])
attribute [go_sem] pQ
end Nu
end Go.Proofs
namespace Go.Proofs
open Go.Vc
set_option maxRecDepth 20000
namespace Nu
attribute [-go_sem] Ex.kind Ex.text Ex.l
noncomputable def lS (F : Md) (a0_0 : (List ((List Nat) × (((List Nat) × ((List Nat) × Unit)) × Unit)))) (a1_1 : (List ((List Nat) × (((List Nat) × ((List Nat) × Unit)) × Unit)))) (x13_5 : Int) : Option ((Int) ⊕ ((Unit) ⊕ Bool)) :=
 if x13_5 < (((a0_0.length) : Nat) : Int) then ck (0 ≤ x13_5 ∧ x13_5 < (((a0_0.length) : Nat) : Int)) (ck (0 ≤ x13_5 ∧ x13_5 < (((a1_1.length) : Nat) : Int)) (if ¬ ((Ty.eqb (.pair .str (.pair (.pair .str (.pair .str .unit)) .unit)) (a0_0.getD (x13_5.toNat) ([], ([], [], ()), ())) (a1_1.getD (x13_5.toNat) ([], ([], [], ()), ()))) = true) then some (.inr (.inr false)) else ck (I64 (x13_5 + (1 : Int))) (some (.inl (x13_5 + (1 : Int)))))) else some (.inr (.inl ()))
noncomputable def fS (F : Md) (a0_0 : (List ((List Nat) × (((List Nat) × ((List Nat) × Unit)) × Unit)))) (a1_1 : (List ((List Nat) × (((List Nat) × ((List Nat) × Unit)) × Unit)))) : Option Bool :=
 if ¬ ((((a0_0.length) : Nat) : Int) = (((a1_1.length) : Nat) : Int)) then some false else (dM F (fun d : Int => lS F a0_0 a1_1 d) (0 : Int)).bind (fun e => match e with | (.inl e) => some true | (.inr e) => some e)
def sL : PlR := ⟨[(0, .A [0, 1]), (1, .A [0, 1, 10]), (2, .A [4]), (3, .A [0, 1, 12, 13]), (4, .A [0, 1, 12, 13, 14]), (5, .A [0, 1, 5, 12, 13]), (6, .A [0, 1, 12, 13, 24]), (7, .A [4]), (8, .A [0, 1, 12, 13]), (9, .A [4])], []⟩
def tY : Ty := .pair (.sl (.pair .str (.pair (.pair .str (.pair .str .unit)) .unit))) (.pair (.sl (.pair .str (.pair (.pair .str (.pair .str .unit)) .unit))) .unit)
noncomputable def jM (F : Md) : aG := mSpec tY (.one .bool) (fun x => fS F x.1 x.2.1)
noncomputable def aBW (F : Md) : List (FuncId × aG) := []
theorem aBX (F : Md) : bD Tryz.prog GL (aBW F) := .nil
attribute [go_sem] tY sL
set_option maxHeartbeats 4000000 in
theorem aA9 (F : Md) : FOK Tryz.prog GL 195 (jM F) := by
 refine bH (aY (aBX F)) mix Tryz.func195 rfl (by kernel_rfl) (by decide) sL fun w0 S x Θ hw h hF => ?_
 obtain ⟨(a0_0 : (List ((List Nat) × (((List Nat) × ((List Nat) × Unit)) × Unit)))), (a1_1 : (List ((List Nat) × (((List Nat) × ((List Nat) × Unit)) × Unit)))), u⟩ := x
 simp only [bL, go_sem]
 replace h : sat (fS F a0_0 a1_1) _ := h
 unfold fS at h
 refine dR h (fun hc h => ?_) fun hc h => ?_
 ·exact aF hF [.tmp 4] rfl rfl rfl (aA h) (by simp only [aR, go_sem])
 ·refine bR hF (D := Int) [0, 1, 12] (fun d => [(13, .val (.i .i64) d)]) (fun d => []) h rfl (by simp only [go_sem]) ?_
  rintro x13_5 A4 T4 hA4 hE4 h
  simp only [go_sem]
  replace h : sat (lS F a0_0 a1_1 x13_5) _ := h
  unfold lS at h
  refine eE h (fun hc h => ?_) fun hc h => ?_
  ·obtain ⟨g0, h⟩ := aJ h
   obtain ⟨g1, h⟩ := aJ h
   repeat (refine ⟨zAA, ?_⟩)
   refine ⟨fun hc => ?_, fun hc => ?_⟩
   ·replace h := iU zAB h
    replace h := hE4 _ (aA h)
    try dsimp only at h
    exact aF hF [.tmp 4] rfl rfl rfl (aA h) (by simp only [aR, go_sem])
   ·replace h := iV zAB h
    obtain ⟨g0, h⟩ := aJ h
    try simp only [I64, I32] at g0
    repeat (refine ⟨zAA, ?_⟩)
    replace h := hA4 _ (aA h)
    exact aS _ h rfl (by simp only [go_sem])
  ·replace h := hE4 _ (aA h)
   try dsimp only at h
   exact aF hF [.tmp 4] rfl rfl rfl (aA h) (by simp only [aR, go_sem])
attribute [go_sem] jM
noncomputable def mH (F : Md) (a0_0 : (List (List Nat))) (a1_1 : (List (List Nat))) (x13_5 : Int) : Option ((Int) ⊕ ((Unit) ⊕ Bool)) :=
 if x13_5 < (((a0_0.length) : Nat) : Int) then ck (0 ≤ x13_5 ∧ x13_5 < (((a0_0.length) : Nat) : Int)) (ck (0 ≤ x13_5 ∧ x13_5 < (((a1_1.length) : Nat) : Int)) (if ¬ ((a0_0.getD (x13_5.toNat) ([] : List Nat)) = (a1_1.getD (x13_5.toNat) ([] : List Nat))) then some (.inr (.inr false)) else ck (I64 (x13_5 + (1 : Int))) (some (.inl (x13_5 + (1 : Int)))))) else some (.inr (.inl ()))
noncomputable def iE (F : Md) (a0_0 : (List (List Nat))) (a1_1 : (List (List Nat))) : Option Bool :=
 if ¬ ((((a0_0.length) : Nat) : Int) = (((a1_1.length) : Nat) : Int)) then some false else (dM F (fun d : Int => mH F a0_0 a1_1 d) (0 : Int)).bind (fun e => match e with | (.inl e) => some true | (.inr e) => some e)
def tZ : PlR := ⟨[(0, .A [0, 1]), (1, .A [0, 1, 10]), (2, .A [4]), (3, .A [0, 1, 12, 13]), (4, .A [0, 1, 12, 13, 14]), (5, .A [0, 1, 5, 12, 13]), (6, .A [0, 1, 12, 13, 24]), (7, .A [4]), (8, .A [0, 1, 12, 13]), (9, .A [4])], []⟩
def uM : Ty := .pair (.sl .str) (.pair (.sl .str) .unit)
noncomputable def kN (F : Md) : aG := mSpec uM (.one .bool) (fun x => iE F x.1 x.2.1)
noncomputable def aCo (F : Md) : List (FuncId × aG) := []
theorem aCp (F : Md) : bD Tryz.prog GL (aCo F) := .nil
attribute [go_sem] uM tZ
set_option maxHeartbeats 4000000 in
theorem aBY (F : Md) : FOK Tryz.prog GL 196 (kN F) := by
 refine bH (aY (aCp F)) mix Tryz.func196 rfl (by kernel_rfl) (by decide) tZ fun w0 S x Θ hw h hF => ?_
 obtain ⟨(a0_0 : (List (List Nat))), (a1_1 : (List (List Nat))), u⟩ := x
 simp only [bL, go_sem]
 replace h : sat (iE F a0_0 a1_1) _ := h
 unfold iE at h
 refine dR h (fun hc h => ?_) fun hc h => ?_
 ·exact aF hF [.tmp 4] rfl rfl rfl (aA h) (by simp only [aR, go_sem])
 ·refine bR hF (D := Int) [0, 1, 12] (fun d => [(13, .val (.i .i64) d)]) (fun d => []) h rfl (by simp only [go_sem]) ?_
  rintro x13_5 A4 T4 hA4 hE4 h
  simp only [go_sem]
  replace h : sat (mH F a0_0 a1_1 x13_5) _ := h
  unfold mH at h
  refine eE h (fun hc h => ?_) fun hc h => ?_
  ·refine aP h fun g0 h => aP h fun g1 h => ?_
   refine dR h (fun hc h => ?_) fun hc h => ?_
   ·replace h := hE4 _ (aA h)
    try dsimp only at h
    exact aF hF [.tmp 4] rfl rfl rfl (aA h) (by simp only [aR, go_sem])
   ·refine aP h fun g0 h => ?_
    replace h := hA4 _ (aA h)
    exact aS _ h rfl (by simp only [go_sem])
  ·replace h := hE4 _ (aA h)
   try dsimp only at h
   exact aF hF [.tmp 4] rfl rfl rfl (aA h) (by simp only [aR, go_sem])
attribute [go_sem] kN
noncomputable def lC (F : Md) (a0_0 : (List ((List Nat) × ((List Nat) × ((List Nat) × ((List Nat) × Unit)))))) (a1_1 : (List ((List Nat) × ((List Nat) × ((List Nat) × ((List Nat) × Unit)))))) (x13_5 : Int) : Option ((Int) ⊕ ((Unit) ⊕ Bool)) :=
 if x13_5 < (((a0_0.length) : Nat) : Int) then ck (0 ≤ x13_5 ∧ x13_5 < (((a0_0.length) : Nat) : Int)) (ck (0 ≤ x13_5 ∧ x13_5 < (((a1_1.length) : Nat) : Int)) (if ¬ ((Ty.eqb (.pair .str (.pair .str (.pair .str (.pair .str .unit)))) (a0_0.getD (x13_5.toNat) ([], [], [], [], ())) (a1_1.getD (x13_5.toNat) ([], [], [], [], ()))) = true) then some (.inr (.inr false)) else ck (I64 (x13_5 + (1 : Int))) (some (.inl (x13_5 + (1 : Int)))))) else some (.inr (.inl ()))
noncomputable def gM (F : Md) (a0_0 : (List ((List Nat) × ((List Nat) × ((List Nat) × ((List Nat) × Unit)))))) (a1_1 : (List ((List Nat) × ((List Nat) × ((List Nat) × ((List Nat) × Unit)))))) : Option Bool :=
 if ¬ ((((a0_0.length) : Nat) : Int) = (((a1_1.length) : Nat) : Int)) then some false else (dM F (fun d : Int => lC F a0_0 a1_1 d) (0 : Int)).bind (fun e => match e with | (.inl e) => some true | (.inr e) => some e)
def qX : PlR := ⟨[(0, .A [0, 1]), (1, .A [0, 1, 10]), (2, .A [4]), (3, .A [0, 1, 12, 13]), (4, .A [0, 1, 12, 13, 14]), (5, .A [0, 1, 5, 12, 13]), (6, .A [0, 1, 12, 13, 24]), (7, .A [4]), (8, .A [0, 1, 12, 13]), (9, .A [4])], []⟩
def sM : Ty := .pair (.sl (.pair .str (.pair .str (.pair .str (.pair .str .unit))))) (.pair (.sl (.pair .str (.pair .str (.pair .str (.pair .str .unit))))) .unit)
noncomputable def iS (F : Md) : aG := mSpec sM (.one .bool) (fun x => gM F x.1 x.2.1)
noncomputable def aBa (F : Md) : List (FuncId × aG) := []
theorem aBb (F : Md) : bD Tryz.prog GL (aBa F) := .nil
attribute [go_sem] sM qX
set_option maxHeartbeats 4000000 in
theorem aAH (F : Md) : FOK Tryz.prog GL 125 (iS F) := by
 refine bH (aY (aBb F)) mix Tryz.func125 rfl (by kernel_rfl) (by decide) qX fun w0 S x Θ hw h hF => ?_
 obtain ⟨(a0_0 : (List ((List Nat) × ((List Nat) × ((List Nat) × ((List Nat) × Unit)))))), (a1_1 : (List ((List Nat) × ((List Nat) × ((List Nat) × ((List Nat) × Unit)))))), u⟩ := x
 simp only [bL, go_sem]
 replace h : sat (gM F a0_0 a1_1) _ := h
 unfold gM at h
 refine dR h (fun hc h => ?_) fun hc h => ?_
 ·exact aF hF [.tmp 4] rfl rfl rfl (aA h) (by simp only [aR, go_sem])
 ·refine bR hF (D := Int) [0, 1, 12] (fun d => [(13, .val (.i .i64) d)]) (fun d => []) h rfl (by simp only [go_sem]) ?_
  rintro x13_5 A4 T4 hA4 hE4 h
  simp only [go_sem]
  replace h : sat (lC F a0_0 a1_1 x13_5) _ := h
  unfold lC at h
  refine eE h (fun hc h => ?_) fun hc h => ?_
  ·obtain ⟨g0, h⟩ := aJ h
   obtain ⟨g1, h⟩ := aJ h
   repeat (refine ⟨zAA, ?_⟩)
   refine ⟨fun hc => ?_, fun hc => ?_⟩
   ·replace h := iU zAB h
    replace h := hE4 _ (aA h)
    try dsimp only at h
    exact aF hF [.tmp 4] rfl rfl rfl (aA h) (by simp only [aR, go_sem])
   ·replace h := iV zAB h
    obtain ⟨g0, h⟩ := aJ h
    try simp only [I64, I32] at g0
    repeat (refine ⟨zAA, ?_⟩)
    replace h := hA4 _ (aA h)
    exact aS _ h rfl (by simp only [go_sem])
  ·replace h := hE4 _ (aA h)
   try dsimp only at h
   exact aF hF [.tmp 4] rfl rfl rfl (aA h) (by simp only [aR, go_sem])
attribute [go_sem] iS
def pR : Ty := .pair .expr (.pair .expr .unit)
attribute [go_sem] pR
noncomputable def gY (g : Ex → Ex → Option (Bool)) : aG := mSpec pR (.one .bool) (fun x => g x.1 x.2.1)
attribute [go_sem] gY
noncomputable def bS (F : Md) (g : Ex → Ex → Option (Bool)) (a0_0 : (List Ex)) (a1_1 : (List Ex)) (x17_15 : Int) : Option ((Int) ⊕ ((Unit) ⊕ Bool)) :=
 if x17_15 < (((a0_0.length) : Nat) : Int) then ck (0 ≤ x17_15 ∧ x17_15 < (((a0_0.length) : Nat) : Int)) (ck (0 ≤ x17_15 ∧ x17_15 < (((a1_1.length) : Nat) : Int)) ((g (a0_0.getD (x17_15.toNat) (Ex.mk 0 [] [])) (a1_1.getD (x17_15.toNat) (Ex.mk 0 [] []))).bind (fun v_28 => if ¬ (v_28 = true) then some (.inr (.inr false)) else ck (I64 (x17_15 + (1 : Int))) (some (.inl (x17_15 + (1 : Int))))))) else some (.inr (.inl ()))
noncomputable def aW (F : Md) (g : Ex → Ex → Option (Bool)) (a0_0 : (List Ex)) (a1_1 : (List Ex)) (eq_2 : Unit) : Option Bool :=
 if ¬ ((((a0_0.length) : Nat) : Int) = (((a1_1.length) : Nat) : Int)) then some false else (dM F (fun d : Int => bS F g a0_0 a1_1 d) (0 : Int)).bind (fun e => match e with | (.inl e) => some true | (.inr e) => some e)
def cV : PlR := ⟨[(0, .A [0, 1, 2]), (1, .A [0, 1, 2, 14]), (2, .A [6]), (3, .A [1, 2, 15, 16, 17]), (4, .A [1, 2, 15, 16, 17, 18]), (5, .B [1, 2, 7, 8, 15, 16, 17]), (6, .B [1, 2, 8, 9, 15, 16, 17]), (7, .A [1, 2, 15, 16, 17, 30]), (8, .A [6]), (9, .A [1, 2, 15, 16, 17]), (10, .A [6])], []⟩
def cW : Ty := .pair (.sl .expr) (.pair (.sl .expr) (.pair (.clo 192 .unit) .unit))
noncomputable def bC (F : Md) (g : Ex → Ex → Option (Bool)) : aG := mSpec cW (.one .bool) (fun x => aW F g x.1 x.2.1 x.2.2.1)
noncomputable def cX (F : Md) (g : Ex → Ex → Option (Bool)) : List (FuncId × aG) := [(192, (gY g))]
theorem fV (F : Md) (g : Ex → Ex → Option (Bool)) (hg : FOK Tryz.prog GL 192 (gY g)) : bD Tryz.prog GL (cX F g) := .cons hg (by kernel_rfl) (.nil)
theorem fK (F : Md) (g : Ex → Ex → Option (Bool)) : gam (cX F g) 192 = some (gY g) := rfl
attribute [go_sem] cW cV fK
set_option maxHeartbeats 4000000 in
theorem fT (F : Md) (g : Ex → Ex → Option (Bool)) (hg : FOK Tryz.prog GL 192 (gY g)) : FOK Tryz.prog GL 236 (bC F g) := by
 refine bH (aY (fV F g hg)) mix Tryz.func236 rfl (by kernel_rfl) (by decide) cV fun w0 S x Θ hw h hF => ?_
 obtain ⟨(a0_0 : (List Ex)), (a1_1 : (List Ex)), (eq_2 : Unit), u⟩ := x
 simp only [bL, go_sem]
 replace h : sat (aW F g a0_0 a1_1 eq_2) _ := h
 unfold aW at h
 refine dR h (fun hc h => ?_) fun hc h => ?_
 ·exact aF hF [.tmp 6] rfl rfl rfl (aA h) (by simp only [aR, go_sem])
 ·refine bR hF (D := Int) [1, 2, 15, 16] (fun d => [(17, .val (.i .i64) d)]) (fun d => []) h rfl (by simp only [go_sem]) ?_
  rintro x17_15 A4 T4 hA4 hE4 h
  simp only [go_sem]
  replace h : sat (bS F g a0_0 a1_1 x17_15) _ := h
  unfold bS at h
  refine eE h (fun hc h => ?_) fun hc h => ?_
  ·refine aP h fun g0 h => ?_
   refine aP h fun g0 h => ?_
   obtain ⟨v_28, hv, h⟩ := aI h
   try simp only [hv, go_sem]
   refine aAt h (fun hc h => ?_) fun hc h => ?_
   ·replace h := hE4 _ (aA h)
    try dsimp only at h
    exact aF hF [.tmp 6] rfl rfl rfl (aA h) (by simp only [aR, go_sem])
   ·refine aP h fun g0 h => ?_
    replace h := hA4 _ (aA h)
    refine gQ [] rfl rfl ?_
    simp only [go_sem]
    exact aS _ h rfl (by simp only [go_sem])
  ·replace h := hE4 _ (aA h)
   try dsimp only at h
   exact aF hF [.tmp 6] rfl rfl rfl (aA h) (by simp only [aR, go_sem])
attribute [go_sem] bC
noncomputable def nG (F : Md) (g : Ex → Ex → Option (Bool)) (a_0 : Ex) (b_1 : Ex) : Option Bool :=
 ck ((((a_0.kind) = (b_1.kind)) ∧ ((a_0.text) = (b_1.text))) → ((aW F g (a_0.l) (b_1.l) ()).isSome = true)) (some (((decide ((a_0.kind) = (b_1.kind))) && (decide ((a_0.text) = (b_1.text)))) && ((aW F g (a_0.l) (b_1.l) ()).getD false)))
def aAn : PlR := ⟨[(0, .B [2, 3]), (1, .A [4])], []⟩
noncomputable def aBc (F : Md) (g : Ex → Ex → Option (Bool)) : List (FuncId × aG) := [(236, (bC F g))]
theorem aGY (F : Md) (g : Ex → Ex → Option (Bool)) (hg : FOK Tryz.prog GL 192 (gY g)) : bD Tryz.prog GL (aBc F g) := .cons (fT F g hg) (by kernel_rfl) (.nil)
theorem aDf (F : Md) (g : Ex → Ex → Option (Bool)) : gam (aBc F g) 236 = some (bC F g) := rfl
attribute [go_sem] aAn aDf
set_option maxHeartbeats 4000000 in
theorem aEL (F : Md) (g : Ex → Ex → Option (Bool)) (hg : FOK Tryz.prog GL 192 (gY g)) : FOK Tryz.prog GL 192 (mSpec pR (.one .bool) (fun x => nG F g x.1 x.2.1)) := by
 refine bH (aY (aGY F g hg)) mix Tryz.func192 rfl (by kernel_rfl) (by decide) aAn fun w0 S x Θ hw h hF => ?_
 obtain ⟨(a_0 : Ex), (b_1 : Ex), u⟩ := x
 simp only [bL, go_sem]
 replace h : sat (nG F g a_0 b_1) _ := h
 unfold nG at h
 refine aP h fun g0 h => ?_
 exact aF hF [.tmp 4] rfl rfl rfl (aA h) (by simp only [aR, go_sem])
noncomputable def kT (F : Md) : Nat → Ex → Ex → Option (Bool)
 | 0 => fun _ _ => none
 | n + 1 => nG F (kT F n)
noncomputable def jN (F : Md) (n : Nat) : aG := mSpec pR (.one .bool) (fun x => kT F n x.1 x.2.1)
theorem uA (F : Md) : ∀ n, FOK Tryz.prog GL 192 (jN F n)
 | 0 => fun _ _ _ _ _ _ _ hp => Bool.noConfusion (show false = true from hp)
 | n + 1 => aEL F _ (uA F n)
attribute [go_sem] jN
end Nu
end Go.Proofs
namespace Go.Proofs
open Go.Vc
set_option maxRecDepth 20000
namespace Nu
attribute [-go_sem] Ex.kind Ex.text Ex.l
noncomputable def oI (F : Md) (x_0 : ((List Nat) × (((List Nat) × ((List Nat) × Unit)) × (Ex × Unit)))) (y_1 : ((List Nat) × (((List Nat) × ((List Nat) × Unit)) × (Ex × Unit)))) : Option Bool :=
 ck (((x_0.1 = y_1.1) ∧ ((Ty.eqb (.pair .str (.pair .str .unit)) x_0.2.1 y_1.2.1) = true)) → ((kT F 64 x_0.2.2.1 y_1.2.2.1).isSome = true)) (some (((decide (x_0.1 = y_1.1)) && (Ty.eqb (.pair .str (.pair .str .unit)) x_0.2.1 y_1.2.1)) && ((kT F 64 x_0.2.2.1 y_1.2.2.1).getD false)))
def oJ : Ty := .pair (.pair .str (.pair (.pair .str (.pair .str .unit)) (.pair .expr .unit))) (.pair (.pair .str (.pair (.pair .str (.pair .str .unit)) (.pair .expr .unit))) .unit)
attribute [go_sem] oJ
noncomputable def nH (F : Md) : aG := mSpec oJ (.one .bool) (fun x => oI F x.1 x.2.1)
noncomputable def uB (F : Md) : List (FuncId × aG) := [(192, (jN F 64))]
theorem aAo (F : Md) : bD Tryz.prog GL (uB F) := .cons (uA F 64) (by kernel_rfl) (.nil)
theorem aCq (F : Md) : gam (uB F) 192 = some (jN F 64) := rfl
attribute [go_sem] aCq
set_option maxHeartbeats 4000000 in
theorem aEM (F : Md) : FOK Tryz.prog GL 191 (nH F) := by
 refine lU (aY (aAo F)) Tryz.func191 rfl (by kernel_rfl) (by decide) fun w0 S x r hw h => ?_
 have hF : jP (fr Tryz.prog (EM (uB F)) S w0 Tryz.f191.ntmps) := ⟨aY (aAo F), mix⟩
 obtain ⟨(x_0 : ((List Nat) × (((List Nat) × ((List Nat) × Unit)) × (Ex × Unit)))), (y_1 : ((List Nat) × (((List Nat) × ((List Nat) × Unit)) × (Ex × Unit)))), u⟩ := x
 simp only [oJ, Ty.wf, nA] at hw
 simp only [bL, oJ]
 try dsimp only at h
 replace h : oI F x_0 y_1 = some r := h
 unfold oI at h
 refine aB (aO hF [2, 3] ?_)
 simp only [go_sem]
 refine aC (aB (aD hF [4] ?_))
 simp only [go_sem]
 obtain ⟨g0, h⟩ := aT h
 repeat (refine ⟨zAD, ?_⟩)
 obtain rfl := Option.some.inj h
 refine aC (dB (fC hF [.tmp 4] rfl rfl rfl ?_))
 exact zAG
attribute [go_sem] nH
noncomputable def bP (F : Md) (a0_0 : (List ((List Nat) × (((List Nat) × ((List Nat) × Unit)) × (Ex × Unit))))) (a1_1 : (List ((List Nat) × (((List Nat) × ((List Nat) × Unit)) × (Ex × Unit))))) (x17_15 : Int) : Option ((Int) ⊕ ((Unit) ⊕ Bool)) :=
 if x17_15 < (((a0_0.length) : Nat) : Int) then ck (0 ≤ x17_15 ∧ x17_15 < (((a0_0.length) : Nat) : Int)) (ck (0 ≤ x17_15 ∧ x17_15 < (((a1_1.length) : Nat) : Int)) ((oI F (a0_0.getD (x17_15.toNat) ([], ([], [], ()), (Ex.mk 0 [] []), ())) (a1_1.getD (x17_15.toNat) ([], ([], [], ()), (Ex.mk 0 [] []), ()))).bind (fun v_28 => if ¬ (v_28 = true) then some (.inr (.inr false)) else ck (I64 (x17_15 + (1 : Int))) (some (.inl (x17_15 + (1 : Int))))))) else some (.inr (.inl ()))
noncomputable def bB (F : Md) (a0_0 : (List ((List Nat) × (((List Nat) × ((List Nat) × Unit)) × (Ex × Unit))))) (a1_1 : (List ((List Nat) × (((List Nat) × ((List Nat) × Unit)) × (Ex × Unit))))) (eq_2 : Unit) : Option Bool :=
 if ¬ ((((a0_0.length) : Nat) : Int) = (((a1_1.length) : Nat) : Int)) then some false else (dM F (fun d : Int => bP F a0_0 a1_1 d) (0 : Int)).bind (fun e => match e with | (.inl e) => some true | (.inr e) => some e)
def cR : PlR := ⟨[(0, .A [0, 1, 2]), (1, .A [0, 1, 2, 14]), (2, .A [6]), (3, .A [1, 2, 15, 16, 17]), (4, .A [1, 2, 15, 16, 17, 18]), (5, .B [1, 2, 7, 8, 15, 16, 17]), (6, .B [1, 2, 8, 9, 15, 16, 17]), (7, .A [1, 2, 15, 16, 17, 30]), (8, .A [6]), (9, .A [1, 2, 15, 16, 17]), (10, .A [6])], []⟩
def cS : Ty := .pair (.sl (.pair .str (.pair (.pair .str (.pair .str .unit)) (.pair .expr .unit)))) (.pair (.sl (.pair .str (.pair (.pair .str (.pair .str .unit)) (.pair .expr .unit)))) (.pair (.clo 191 .unit) .unit))
noncomputable def aZ (F : Md) : aG := mSpec cS (.one .bool) (fun x => bB F x.1 x.2.1 x.2.2.1)
noncomputable def cT (F : Md) : List (FuncId × aG) := [(191, (nH F))]
theorem fI (F : Md) : bD Tryz.prog GL (cT F) := .cons (aEM F) (by kernel_rfl) (.nil)
theorem eL (F : Md) : gam (cT F) 191 = some (nH F) := rfl
attribute [go_sem] cS cR eL
set_option maxHeartbeats 4000000 in
theorem fA (F : Md) : FOK Tryz.prog GL 190 (aZ F) := by
 refine bH (aY (fI F)) mix Tryz.func190 rfl (by kernel_rfl) (by decide) cR fun w0 S x Θ hw h hF => ?_
 obtain ⟨(a0_0 : (List ((List Nat) × (((List Nat) × ((List Nat) × Unit)) × (Ex × Unit))))), (a1_1 : (List ((List Nat) × (((List Nat) × ((List Nat) × Unit)) × (Ex × Unit))))), (eq_2 : Unit), u⟩ := x
 simp only [bL, go_sem]
 replace h : sat (bB F a0_0 a1_1 eq_2) _ := h
 unfold bB at h
 refine dR h (fun hc h => ?_) fun hc h => ?_
 ·exact aF hF [.tmp 6] rfl rfl rfl (aA h) (by simp only [aR, go_sem])
 ·refine bR hF (D := Int) [1, 2, 15, 16] (fun d => [(17, .val (.i .i64) d)]) (fun d => []) h rfl (by simp only [go_sem]) ?_
  rintro x17_15 A4 T4 hA4 hE4 h
  simp only [go_sem]
  replace h : sat (bP F a0_0 a1_1 x17_15) _ := h
  unfold bP at h
  refine eE h (fun hc h => ?_) fun hc h => ?_
  ·refine aP h fun g0 h => ?_
   refine aP h fun g0 h => ?_
   obtain ⟨v_28, hv, h⟩ := aI h
   try simp only [hv, go_sem]
   refine aAt h (fun hc h => ?_) fun hc h => ?_
   ·replace h := hE4 _ (aA h)
    try dsimp only at h
    exact aF hF [.tmp 6] rfl rfl rfl (aA h) (by simp only [aR, go_sem])
   ·refine aP h fun g0 h => ?_
    replace h := hA4 _ (aA h)
    refine gQ [] rfl rfl ?_
    simp only [go_sem]
    exact aS _ h rfl (by simp only [go_sem])
  ·replace h := hE4 _ (aA h)
   try dsimp only at h
   exact aF hF [.tmp 6] rfl rfl rfl (aA h) (by simp only [aR, go_sem])
attribute [go_sem] aZ
noncomputable def oK (F : Md) (x_0 : ((List Nat) × (Ex × Unit))) (y_1 : ((List Nat) × (Ex × Unit))) : Option Bool :=
 ck ((x_0.1 = y_1.1) → ((kT F 64 x_0.2.1 y_1.2.1).isSome = true)) (some ((decide (x_0.1 = y_1.1)) && ((kT F 64 x_0.2.1 y_1.2.1).getD false)))
def zJ : PlR := ⟨[(0, .B [2, 3]), (1, .A [4])], []⟩
def aAp : Ty := .pair (.pair .str (.pair .expr .unit)) (.pair (.pair .str (.pair .expr .unit)) .unit)
noncomputable def nI (F : Md) : aG := mSpec aAp (.one .bool) (fun x => oK F x.1 x.2.1)
noncomputable def aAq (F : Md) : List (FuncId × aG) := [(192, (jN F 64))]
theorem aF8 (F : Md) : bD Tryz.prog GL (aAq F) := .cons (uA F 64) (by kernel_rfl) (.nil)
theorem aCr (F : Md) : gam (aAq F) 192 = some (jN F 64) := rfl
attribute [go_sem] aAp zJ aCr
set_option maxHeartbeats 4000000 in
theorem aEN (F : Md) : FOK Tryz.prog GL 194 (nI F) := by
 refine bH (aY (aF8 F)) mix Tryz.func194 rfl (by kernel_rfl) (by decide) zJ fun w0 S x Θ hw h hF => ?_
 obtain ⟨(x_0 : ((List Nat) × (Ex × Unit))), (y_1 : ((List Nat) × (Ex × Unit))), u⟩ := x
 simp only [bL, go_sem]
 replace h : sat (oK F x_0 y_1) _ := h
 unfold oK at h
 refine aP h fun g0 h => ?_
 exact aF hF [.tmp 4] rfl rfl rfl (aA h) (by simp only [aR, go_sem])
attribute [go_sem] nI
noncomputable def bU (F : Md) (a0_0 : (List ((List Nat) × (Ex × Unit)))) (a1_1 : (List ((List Nat) × (Ex × Unit)))) (x17_15 : Int) : Option ((Int) ⊕ ((Unit) ⊕ Bool)) :=
 if x17_15 < (((a0_0.length) : Nat) : Int) then ck (0 ≤ x17_15 ∧ x17_15 < (((a0_0.length) : Nat) : Int)) (ck (0 ≤ x17_15 ∧ x17_15 < (((a1_1.length) : Nat) : Int)) ((oK F (a0_0.getD (x17_15.toNat) ([], (Ex.mk 0 [] []), ())) (a1_1.getD (x17_15.toNat) ([], (Ex.mk 0 [] []), ()))).bind (fun v_28 => if ¬ (v_28 = true) then some (.inr (.inr false)) else ck (I64 (x17_15 + (1 : Int))) (some (.inl (x17_15 + (1 : Int))))))) else some (.inr (.inl ()))
noncomputable def bJ (F : Md) (a0_0 : (List ((List Nat) × (Ex × Unit)))) (a1_1 : (List ((List Nat) × (Ex × Unit)))) (eq_2 : Unit) : Option Bool :=
 if ¬ ((((a0_0.length) : Nat) : Int) = (((a1_1.length) : Nat) : Int)) then some false else (dM F (fun d : Int => bU F a0_0 a1_1 d) (0 : Int)).bind (fun e => match e with | (.inl e) => some true | (.inr e) => some e)
def dC : PlR := ⟨[(0, .A [0, 1, 2]), (1, .A [0, 1, 2, 14]), (2, .A [6]), (3, .A [1, 2, 15, 16, 17]), (4, .A [1, 2, 15, 16, 17, 18]), (5, .B [1, 2, 7, 8, 15, 16, 17]), (6, .B [1, 2, 8, 9, 15, 16, 17]), (7, .A [1, 2, 15, 16, 17, 30]), (8, .A [6]), (9, .A [1, 2, 15, 16, 17]), (10, .A [6])], []⟩
def dD : Ty := .pair (.sl (.pair .str (.pair .expr .unit))) (.pair (.sl (.pair .str (.pair .expr .unit))) (.pair (.clo 194 .unit) .unit))
noncomputable def bF (F : Md) : aG := mSpec dD (.one .bool) (fun x => bJ F x.1 x.2.1 x.2.2.1)
noncomputable def dE (F : Md) : List (FuncId × aG) := [(194, (nI F))]
theorem gH (F : Md) : bD Tryz.prog GL (dE F) := .cons (aEN F) (by kernel_rfl) (.nil)
theorem fU (F : Md) : gam (dE F) 194 = some (nI F) := rfl
attribute [go_sem] dD dC fU
set_option maxHeartbeats 4000000 in
theorem gF (F : Md) : FOK Tryz.prog GL 193 (bF F) := by
 refine bH (aY (gH F)) mix Tryz.func193 rfl (by kernel_rfl) (by decide) dC fun w0 S x Θ hw h hF => ?_
 obtain ⟨(a0_0 : (List ((List Nat) × (Ex × Unit)))), (a1_1 : (List ((List Nat) × (Ex × Unit)))), (eq_2 : Unit), u⟩ := x
 simp only [bL, go_sem]
 replace h : sat (bJ F a0_0 a1_1 eq_2) _ := h
 unfold bJ at h
 refine dR h (fun hc h => ?_) fun hc h => ?_
 ·exact aF hF [.tmp 6] rfl rfl rfl (aA h) (by simp only [aR, go_sem])
 ·refine bR hF (D := Int) [1, 2, 15, 16] (fun d => [(17, .val (.i .i64) d)]) (fun d => []) h rfl (by simp only [go_sem]) ?_
  rintro x17_15 A4 T4 hA4 hE4 h
  simp only [go_sem]
  replace h : sat (bU F a0_0 a1_1 x17_15) _ := h
  unfold bU at h
  refine eE h (fun hc h => ?_) fun hc h => ?_
  ·refine aP h fun g0 h => ?_
   refine aP h fun g0 h => ?_
   obtain ⟨v_28, hv, h⟩ := aI h
   try simp only [hv, go_sem]
   refine aAt h (fun hc h => ?_) fun hc h => ?_
   ·replace h := hE4 _ (aA h)
    try dsimp only at h
    exact aF hF [.tmp 6] rfl rfl rfl (aA h) (by simp only [aR, go_sem])
   ·refine aP h fun g0 h => ?_
    replace h := hA4 _ (aA h)
    refine gQ [] rfl rfl ?_
    simp only [go_sem]
    exact aS _ h rfl (by simp only [go_sem])
  ·replace h := hE4 _ (aA h)
   try dsimp only at h
   exact aF hF [.tmp 6] rfl rfl rfl (aA h) (by simp only [aR, go_sem])
attribute [go_sem] bF
noncomputable def rM (F : Md) (a_0 : ((List Nat) × ((List ((List Nat) × (((List Nat) × ((List Nat) × Unit)) × (Ex × Unit)))) × ((List ((List Nat) × (((List Nat) × ((List Nat) × Unit)) × Unit))) × ((List (List Nat)) × ((List ((List Nat) × (Ex × Unit))) × Unit)))))) (b_1 : ((List Nat) × ((List ((List Nat) × (((List Nat) × ((List Nat) × Unit)) × (Ex × Unit)))) × ((List ((List Nat) × (((List Nat) × ((List Nat) × Unit)) × Unit))) × ((List (List Nat)) × ((List ((List Nat) × (Ex × Unit))) × Unit)))))) : Option Bool :=
 (bB F a_0.2.1 b_1.2.1 ()).bind (fun v_6 => (bJ F a_0.2.2.2.2.1 b_1.2.2.2.2.1 ()).bind (fun v_10 => ck ((((v_6 = true) ∧ (v_10 = true)) ∧ (a_0.1 = b_1.1)) → ((fS F a_0.2.2.1 b_1.2.2.1).isSome = true)) (ck (((((v_6 = true) ∧ (v_10 = true)) ∧ (a_0.1 = b_1.1)) ∧ (((fS F a_0.2.2.1 b_1.2.2.1).getD false) = true)) → ((iE F a_0.2.2.2.1 b_1.2.2.2.1).isSome = true)) (some ((((v_6 && v_10) && (decide (a_0.1 = b_1.1))) && ((fS F a_0.2.2.1 b_1.2.2.1).getD false)) && ((iE F a_0.2.2.2.1 b_1.2.2.2.1).getD false))))))
def aBd : PlR := ⟨[(0, .B [2, 3]), (1, .A [2, 3, 5]), (2, .A [2, 3, 5, 6]), (3, .A [4])], []⟩
def aCf : Ty := .pair (.pair .str (.pair (.sl (.pair .str (.pair (.pair .str (.pair .str .unit)) (.pair .expr .unit)))) (.pair (.sl (.pair .str (.pair (.pair .str (.pair .str .unit)) .unit))) (.pair (.sl .str) (.pair (.sl (.pair .str (.pair .expr .unit))) .unit))))) (.pair (.pair .str (.pair (.sl (.pair .str (.pair (.pair .str (.pair .str .unit)) (.pair .expr .unit)))) (.pair (.sl (.pair .str (.pair (.pair .str (.pair .str .unit)) .unit))) (.pair (.sl .str) (.pair (.sl (.pair .str (.pair .expr .unit))) .unit))))) .unit)
noncomputable def pS (F : Md) : aG := mSpec aCf (.one .bool) (fun x => rM F x.1 x.2.1)
noncomputable def nS (F : Md) : List (FuncId × aG) := [(190, (aZ F)), (193, (bF F)), (195, (jM F)), (196, (kN F))]
theorem aIu (F : Md) : bD Tryz.prog GL (nS F) := .cons (fA F) (by kernel_rfl) (.cons (gF F) (by kernel_rfl) (.cons (aA9 F) (by kernel_rfl) (.cons (aBY F) (by kernel_rfl) (.nil))))
theorem aDB (F : Md) : gam (nS F) 190 = some (aZ F) := rfl
theorem aDC (F : Md) : gam (nS F) 193 = some (bF F) := rfl
theorem aDD (F : Md) : gam (nS F) 195 = some (jM F) := rfl
theorem aDE (F : Md) : gam (nS F) 196 = some (kN F) := rfl
attribute [go_sem] aCf aBd aDB aDC aDD aDE
set_option maxHeartbeats 4000000 in
theorem aGZ (F : Md) : FOK Tryz.prog GL 124 (pS F) := by
 refine bH (aY (aIu F)) mix Tryz.func124 rfl (by kernel_rfl) (by decide) aBd fun w0 S x Θ hw h hF => ?_
 obtain ⟨(a_0 : ((List Nat) × ((List ((List Nat) × (((List Nat) × ((List Nat) × Unit)) × (Ex × Unit)))) × ((List ((List Nat) × (((List Nat) × ((List Nat) × Unit)) × Unit))) × ((List (List Nat)) × ((List ((List Nat) × (Ex × Unit))) × Unit)))))), (b_1 : ((List Nat) × ((List ((List Nat) × (((List Nat) × ((List Nat) × Unit)) × (Ex × Unit)))) × ((List ((List Nat) × (((List Nat) × ((List Nat) × Unit)) × Unit))) × ((List (List Nat)) × ((List ((List Nat) × (Ex × Unit))) × Unit)))))), u⟩ := x
 simp only [bL, go_sem]
 replace h : sat (rM F a_0 b_1) _ := h
 unfold rM at h
 obtain ⟨v_6, hv, h⟩ := aI h
 try simp only [hv, go_sem]
 obtain ⟨v_10, hv, h⟩ := aI h
 try simp only [hv, go_sem]
 refine aP h fun g0 h => aP h fun g1 h => ?_
 exact aF hF [.tmp 4] rfl rfl rfl (aA h) (by simp only [aR, go_sem])
attribute [go_sem] pS
noncomputable def bW (F : Md) (a0_0 : (List ((List Nat) × ((List ((List Nat) × (((List Nat) × ((List Nat) × Unit)) × (Ex × Unit)))) × ((List ((List Nat) × (((List Nat) × ((List Nat) × Unit)) × Unit))) × ((List (List Nat)) × ((List ((List Nat) × (Ex × Unit))) × Unit))))))) (a1_1 : (List ((List Nat) × ((List ((List Nat) × (((List Nat) × ((List Nat) × Unit)) × (Ex × Unit)))) × ((List ((List Nat) × (((List Nat) × ((List Nat) × Unit)) × Unit))) × ((List (List Nat)) × ((List ((List Nat) × (Ex × Unit))) × Unit))))))) (x17_15 : Int) : Option ((Int) ⊕ ((Unit) ⊕ Bool)) :=
 if x17_15 < (((a0_0.length) : Nat) : Int) then ck (0 ≤ x17_15 ∧ x17_15 < (((a0_0.length) : Nat) : Int)) (ck (0 ≤ x17_15 ∧ x17_15 < (((a1_1.length) : Nat) : Int)) ((rM F (a0_0.getD (x17_15.toNat) ([], [], [], [], [], ())) (a1_1.getD (x17_15.toNat) ([], [], [], [], [], ()))).bind (fun v_28 => if ¬ (v_28 = true) then some (.inr (.inr false)) else ck (I64 (x17_15 + (1 : Int))) (some (.inl (x17_15 + (1 : Int))))))) else some (.inr (.inl ()))
noncomputable def aU (F : Md) (a0_0 : (List ((List Nat) × ((List ((List Nat) × (((List Nat) × ((List Nat) × Unit)) × (Ex × Unit)))) × ((List ((List Nat) × (((List Nat) × ((List Nat) × Unit)) × Unit))) × ((List (List Nat)) × ((List ((List Nat) × (Ex × Unit))) × Unit))))))) (a1_1 : (List ((List Nat) × ((List ((List Nat) × (((List Nat) × ((List Nat) × Unit)) × (Ex × Unit)))) × ((List ((List Nat) × (((List Nat) × ((List Nat) × Unit)) × Unit))) × ((List (List Nat)) × ((List ((List Nat) × (Ex × Unit))) × Unit))))))) (eq_2 : Unit) : Option Bool :=
 if ¬ ((((a0_0.length) : Nat) : Int) = (((a1_1.length) : Nat) : Int)) then some false else (dM F (fun d : Int => bW F a0_0 a1_1 d) (0 : Int)).bind (fun e => match e with | (.inl e) => some true | (.inr e) => some e)
def dG : PlR := ⟨[(0, .A [0, 1, 2]), (1, .A [0, 1, 2, 14]), (2, .A [6]), (3, .A [1, 2, 15, 16, 17]), (4, .A [1, 2, 15, 16, 17, 18]), (5, .B [1, 2, 7, 8, 15, 16, 17]), (6, .B [1, 2, 8, 9, 15, 16, 17]), (7, .A [1, 2, 15, 16, 17, 30]), (8, .A [6]), (9, .A [1, 2, 15, 16, 17]), (10, .A [6])], []⟩
def dI : Ty := .pair (.sl (.pair .str (.pair (.sl (.pair .str (.pair (.pair .str (.pair .str .unit)) (.pair .expr .unit)))) (.pair (.sl (.pair .str (.pair (.pair .str (.pair .str .unit)) .unit))) (.pair (.sl .str) (.pair (.sl (.pair .str (.pair .expr .unit))) .unit)))))) (.pair (.sl (.pair .str (.pair (.sl (.pair .str (.pair (.pair .str (.pair .str .unit)) (.pair .expr .unit)))) (.pair (.sl (.pair .str (.pair (.pair .str (.pair .str .unit)) .unit))) (.pair (.sl .str) (.pair (.sl (.pair .str (.pair .expr .unit))) .unit)))))) (.pair (.clo 124 .unit) .unit))
noncomputable def bK (F : Md) : aG := mSpec dI (.one .bool) (fun x => aU F x.1 x.2.1 x.2.2.1)
noncomputable def dJ (F : Md) : List (FuncId × aG) := [(124, (pS F))]
theorem gR (F : Md) : bD Tryz.prog GL (dJ F) := .cons (aGZ F) (by kernel_rfl) (.nil)
theorem gA (F : Md) : gam (dJ F) 124 = some (pS F) := rfl
attribute [go_sem] dI dG gA
set_option maxHeartbeats 4000000 in
theorem gN (F : Md) : FOK Tryz.prog GL 123 (bK F) := by
 refine bH (aY (gR F)) mix Tryz.func123 rfl (by kernel_rfl) (by decide) dG fun w0 S x Θ hw h hF => ?_
 obtain ⟨(a0_0 : (List ((List Nat) × ((List ((List Nat) × (((List Nat) × ((List Nat) × Unit)) × (Ex × Unit)))) × ((List ((List Nat) × (((List Nat) × ((List Nat) × Unit)) × Unit))) × ((List (List Nat)) × ((List ((List Nat) × (Ex × Unit))) × Unit))))))), (a1_1 : (List ((List Nat) × ((List ((List Nat) × (((List Nat) × ((List Nat) × Unit)) × (Ex × Unit)))) × ((List ((List Nat) × (((List Nat) × ((List Nat) × Unit)) × Unit))) × ((List (List Nat)) × ((List ((List Nat) × (Ex × Unit))) × Unit))))))), (eq_2 : Unit), u⟩ := x
 simp only [bL, go_sem]
 replace h : sat (aU F a0_0 a1_1 eq_2) _ := h
 unfold aU at h
 refine dR h (fun hc h => ?_) fun hc h => ?_
 ·exact aF hF [.tmp 6] rfl rfl rfl (aA h) (by simp only [aR, go_sem])
 ·refine bR hF (D := Int) [1, 2, 15, 16] (fun d => [(17, .val (.i .i64) d)]) (fun d => []) h rfl (by simp only [go_sem]) ?_
  rintro x17_15 A4 T4 hA4 hE4 h
  simp only [go_sem]
  replace h : sat (bW F a0_0 a1_1 x17_15) _ := h
  unfold bW at h
  refine eE h (fun hc h => ?_) fun hc h => ?_
  ·refine aP h fun g0 h => ?_
   refine aP h fun g0 h => ?_
   obtain ⟨v_28, hv, h⟩ := aI h
   try simp only [hv, go_sem]
   refine aAt h (fun hc h => ?_) fun hc h => ?_
   ·replace h := hE4 _ (aA h)
    try dsimp only at h
    exact aF hF [.tmp 6] rfl rfl rfl (aA h) (by simp only [aR, go_sem])
   ·refine aP h fun g0 h => ?_
    replace h := hA4 _ (aA h)
    refine gQ [] rfl rfl ?_
    simp only [go_sem]
    exact aS _ h rfl (by simp only [go_sem])
  ·replace h := hE4 _ (aA h)
   try dsimp only at h
   exact aF hF [.tmp 6] rfl rfl rfl (aA h) (by simp only [aR, go_sem])
attribute [go_sem] bK
noncomputable def eX (F : Md) (a_0 : (Int × (Int × (Int × (Int × ((List Nat) × ((List Nat) × ((List Nat) × ((List Nat) × ((List ((List Nat) × ((List ((List Nat) × (((List Nat) × ((List Nat) × Unit)) × (Ex × Unit)))) × ((List ((List Nat) × (((List Nat) × ((List Nat) × Unit)) × Unit))) × ((List (List Nat)) × ((List ((List Nat) × (Ex × Unit))) × Unit)))))) × ((List ((List Nat) × ((List Nat) × ((List Nat) × ((List Nat) × Unit))))) × Unit))))))))))) (b_1 : (Int × (Int × (Int × (Int × ((List Nat) × ((List Nat) × ((List Nat) × ((List Nat) × ((List ((List Nat) × ((List ((List Nat) × (((List Nat) × ((List Nat) × Unit)) × (Ex × Unit)))) × ((List ((List Nat) × (((List Nat) × ((List Nat) × Unit)) × Unit))) × ((List (List Nat)) × ((List ((List Nat) × (Ex × Unit))) × Unit)))))) × ((List ((List Nat) × ((List Nat) × ((List Nat) × ((List Nat) × Unit))))) × Unit))))))))))) : Option Bool :=
 ck (((((((((a_0.1 = b_1.1) ∧ (a_0.2.1 = b_1.2.1)) ∧ (a_0.2.2.1 = b_1.2.2.1)) ∧ (a_0.2.2.2.1 = b_1.2.2.2.1)) ∧ (a_0.2.2.2.2.1 = b_1.2.2.2.2.1)) ∧ (a_0.2.2.2.2.2.1 = b_1.2.2.2.2.2.1)) ∧ (a_0.2.2.2.2.2.2.1 = b_1.2.2.2.2.2.2.1)) ∧ (a_0.2.2.2.2.2.2.2.1 = b_1.2.2.2.2.2.2.2.1)) → ((aU F a_0.2.2.2.2.2.2.2.2.1 b_1.2.2.2.2.2.2.2.2.1 ()).isSome = true)) (ck ((((((((((a_0.1 = b_1.1) ∧ (a_0.2.1 = b_1.2.1)) ∧ (a_0.2.2.1 = b_1.2.2.1)) ∧ (a_0.2.2.2.1 = b_1.2.2.2.1)) ∧ (a_0.2.2.2.2.1 = b_1.2.2.2.2.1)) ∧ (a_0.2.2.2.2.2.1 = b_1.2.2.2.2.2.1)) ∧ (a_0.2.2.2.2.2.2.1 = b_1.2.2.2.2.2.2.1)) ∧ (a_0.2.2.2.2.2.2.2.1 = b_1.2.2.2.2.2.2.2.1)) ∧ (((aU F a_0.2.2.2.2.2.2.2.2.1 b_1.2.2.2.2.2.2.2.2.1 ()).getD false) = true)) → ((gM F a_0.2.2.2.2.2.2.2.2.2.1 b_1.2.2.2.2.2.2.2.2.2.1).isSome = true)) (some ((((((((((decide (a_0.1 = b_1.1)) && (decide (a_0.2.1 = b_1.2.1))) && (decide (a_0.2.2.1 = b_1.2.2.1))) && (decide (a_0.2.2.2.1 = b_1.2.2.2.1))) && (decide (a_0.2.2.2.2.1 = b_1.2.2.2.2.1))) && (decide (a_0.2.2.2.2.2.1 = b_1.2.2.2.2.2.1))) && (decide (a_0.2.2.2.2.2.2.1 = b_1.2.2.2.2.2.2.1))) && (decide (a_0.2.2.2.2.2.2.2.1 = b_1.2.2.2.2.2.2.2.1))) && ((aU F a_0.2.2.2.2.2.2.2.2.1 b_1.2.2.2.2.2.2.2.2.1 ()).getD false)) && ((gM F a_0.2.2.2.2.2.2.2.2.2.1 b_1.2.2.2.2.2.2.2.2.2.1).getD false))))
def aD8 : PlR := ⟨[(0, .B [2, 3]), (1, .A [2, 3, 5]), (2, .A [4])], []⟩
def aF9 : Ty := .pair (.pair (.i .i64) (.pair (.i .i64) (.pair (.i .i64) (.pair (.i .i64) (.pair .str (.pair .str (.pair .str (.pair .str (.pair (.sl (.pair .str (.pair (.sl (.pair .str (.pair (.pair .str (.pair .str .unit)) (.pair .expr .unit)))) (.pair (.sl (.pair .str (.pair (.pair .str (.pair .str .unit)) .unit))) (.pair (.sl .str) (.pair (.sl (.pair .str (.pair .expr .unit))) .unit)))))) (.pair (.sl (.pair .str (.pair .str (.pair .str (.pair .str .unit))))) .unit)))))))))) (.pair (.pair (.i .i64) (.pair (.i .i64) (.pair (.i .i64) (.pair (.i .i64) (.pair .str (.pair .str (.pair .str (.pair .str (.pair (.sl (.pair .str (.pair (.sl (.pair .str (.pair (.pair .str (.pair .str .unit)) (.pair .expr .unit)))) (.pair (.sl (.pair .str (.pair (.pair .str (.pair .str .unit)) .unit))) (.pair (.sl .str) (.pair (.sl (.pair .str (.pair .expr .unit))) .unit)))))) (.pair (.sl (.pair .str (.pair .str (.pair .str (.pair .str .unit))))) .unit)))))))))) .unit)
noncomputable def vO (F : Md) : aG := mSpec aF9 (.one .bool) (fun x => eX F x.1 x.2.1)
noncomputable def aBZ (F : Md) : List (FuncId × aG) := [(123, (bK F)), (125, (iS F))]
theorem aMb (F : Md) : bD Tryz.prog GL (aBZ F) := .cons (gN F) (by kernel_rfl) (.cons (aAH F) (by kernel_rfl) (.nil))
theorem aG0 (F : Md) : gam (aBZ F) 123 = some (bK F) := rfl
theorem aG1 (F : Md) : gam (aBZ F) 125 = some (iS F) := rfl
attribute [go_sem] aF9 aD8 aG0 aG1
set_option maxHeartbeats 4000000 in
theorem aKM (F : Md) : FOK Tryz.prog GL 61 (vO F) := by
 refine bH (aY (aMb F)) mix Tryz.func61 rfl (by kernel_rfl) (by decide) aD8 fun w0 S x Θ hw h hF => ?_
 obtain ⟨(a_0 : (Int × (Int × (Int × (Int × ((List Nat) × ((List Nat) × ((List Nat) × ((List Nat) × ((List ((List Nat) × ((List ((List Nat) × (((List Nat) × ((List Nat) × Unit)) × (Ex × Unit)))) × ((List ((List Nat) × (((List Nat) × ((List Nat) × Unit)) × Unit))) × ((List (List Nat)) × ((List ((List Nat) × (Ex × Unit))) × Unit)))))) × ((List ((List Nat) × ((List Nat) × ((List Nat) × ((List Nat) × Unit))))) × Unit))))))))))), (b_1 : (Int × (Int × (Int × (Int × ((List Nat) × ((List Nat) × ((List Nat) × ((List Nat) × ((List ((List Nat) × ((List ((List Nat) × (((List Nat) × ((List Nat) × Unit)) × (Ex × Unit)))) × ((List ((List Nat) × (((List Nat) × ((List Nat) × Unit)) × Unit))) × ((List (List Nat)) × ((List ((List Nat) × (Ex × Unit))) × Unit)))))) × ((List ((List Nat) × ((List Nat) × ((List Nat) × ((List Nat) × Unit))))) × Unit))))))))))), u⟩ := x
 simp only [bL, go_sem]
 replace h : sat (eX F a_0 b_1) _ := h
 unfold eX at h
 refine aP h fun g0 h => aP h fun g1 h => ?_
 exact aF hF [.tmp 4] rfl rfl rfl (aA h) (by simp only [aR, go_sem])
attribute [go_sem] vO
end Nu
end Go.Proofs
namespace Go.Proofs
open Go.Vc
set_option maxRecDepth 20000
namespace Nu
attribute [-go_sem] Ex.kind Ex.text Ex.l
noncomputable def dY (F : Md) : Option (Int × (Int × (Int × (Int × ((List Nat) × ((List Nat) × ((List Nat) × ((List Nat) × ((List ((List Nat) × ((List ((List Nat) × (((List Nat) × ((List Nat) × Unit)) × (Ex × Unit)))) × ((List ((List Nat) × (((List Nat) × ((List Nat) × Unit)) × Unit))) × ((List (List Nat)) × ((List ((List Nat) × (Ex × Unit))) × Unit)))))) × ((List ((List Nat) × ((List Nat) × ((List Nat) × ((List Nat) × Unit))))) × Unit)))))))))) :=
 some ((40 : Int), (4 : Int), (0 : Int), (1 : Int), (aH ⟨#[49]⟩), (aH ⟨#[48, 46, 53]⟩), (aH ⟨#[48, 46, 49, 50, 53]⟩), (aH ⟨#[49]⟩), ([((aH ⟨#[97]⟩), ([((aH ⟨#[120]⟩), ((aH ⟨#[49]⟩), ([] : List Nat), ()), (Ex.mk (2 : Int) (aH ⟨#[120]⟩) ([] : List Ex)), ())] : List ((List Nat) × (((List Nat) × ((List Nat) × Unit)) × (Ex × Unit)))), ([] : List ((List Nat) × (((List Nat) × ((List Nat) × Unit)) × Unit))), ([] : List (List Nat)), ([((aH ⟨#[121]⟩), (Ex.mk (2 : Int) (aH ⟨#[120]⟩) ([] : List Ex)), ())] : List ((List Nat) × (Ex × Unit))), ())] : List ((List Nat) × ((List ((List Nat) × (((List Nat) × ((List Nat) × Unit)) × (Ex × Unit)))) × ((List ((List Nat) × (((List Nat) × ((List Nat) × Unit)) × Unit))) × ((List (List Nat)) × ((List ((List Nat) × (Ex × Unit))) × Unit)))))), ([] : List ((List Nat) × ((List Nat) × ((List Nat) × ((List Nat) × Unit))))), ())
def aDg : PlR := ⟨[(0, .B [0]), (1, .B [0, 1]), (2, .B [0])], []⟩
def aD9 : Ty := .unit
noncomputable def mV (F : Md) : aG := mSpec aD9 (.one (.pair (.i .i64) (.pair (.i .i64) (.pair (.i .i64) (.pair (.i .i64) (.pair .str (.pair .str (.pair .str (.pair .str (.pair (.sl (.pair .str (.pair (.sl (.pair .str (.pair (.pair .str (.pair .str .unit)) (.pair .expr .unit)))) (.pair (.sl (.pair .str (.pair (.pair .str (.pair .str .unit)) .unit))) (.pair (.sl .str) (.pair (.sl (.pair .str (.pair .expr .unit))) .unit)))))) (.pair (.sl (.pair .str (.pair .str (.pair .str (.pair .str .unit))))) .unit))))))))))) (fun x => dY F )
noncomputable def aKN (F : Md) : List (FuncId × aG) := []
theorem aKO (F : Md) : bD Tryz.prog GL (aKN F) := .nil
attribute [go_sem] aD9 aDg
set_option maxHeartbeats 4000000 in
theorem aDh (F : Md) : FOK Tryz.prog GL 27 (mV F) := by
 refine bH (aY (aKO F)) mix Tryz.func27 rfl (by kernel_rfl) (by decide) aDg fun w0 S x Θ hw h hF => ?_
 simp only [bL, go_sem]
 replace h : sat (dY F) _ := h
 unfold dY at h
 exact aF hF [.cell 0 54] rfl rfl rfl (aA h) (by simp only [aR, go_sem])
attribute [go_sem] mV
noncomputable def iH (F : Md) : Option (Int × (Int × (Int × (Int × ((List Nat) × ((List Nat) × ((List Nat) × ((List Nat) × ((List ((List Nat) × ((List ((List Nat) × (((List Nat) × ((List Nat) × Unit)) × (Ex × Unit)))) × ((List ((List Nat) × (((List Nat) × ((List Nat) × Unit)) × Unit))) × ((List (List Nat)) × ((List ((List Nat) × (Ex × Unit))) × Unit)))))) × ((List ((List Nat) × ((List Nat) × ((List Nat) × ((List Nat) × Unit))))) × Unit)))))))))) :=
 some ((40 : Int), (4 : Int), (0 : Int), (1 : Int), (aH ⟨#[49]⟩), (aH ⟨#[48, 46, 53]⟩), (aH ⟨#[48, 46, 49, 50, 53]⟩), (aH ⟨#[49]⟩), ([((aH ⟨#[97]⟩), ([((aH ⟨#[120]⟩), ((aH ⟨#[49]⟩), ([] : List Nat), ()), (Ex.mk (2 : Int) (aH ⟨#[120]⟩) ([] : List Ex)), ())] : List ((List Nat) × (((List Nat) × ((List Nat) × Unit)) × (Ex × Unit)))), ([] : List ((List Nat) × (((List Nat) × ((List Nat) × Unit)) × Unit))), ([] : List (List Nat)), ([((aH ⟨#[121]⟩), (Ex.mk (2 : Int) (aH ⟨#[120]⟩) ([] : List Ex)), ())] : List ((List Nat) × (Ex × Unit))), ())] : List ((List Nat) × ((List ((List Nat) × (((List Nat) × ((List Nat) × Unit)) × (Ex × Unit)))) × ((List ((List Nat) × (((List Nat) × ((List Nat) × Unit)) × Unit))) × ((List (List Nat)) × ((List ((List Nat) × (Ex × Unit))) × Unit)))))), ([] : List ((List Nat) × ((List Nat) × ((List Nat) × ((List Nat) × Unit))))), ())
noncomputable def gZ (F : Md) : oD where
 D := (Int × (Int × (Int × (Int × ((List Nat) × ((List Nat) × ((List Nat) × ((List Nat) × ((List ((List Nat) × ((List ((List Nat) × (((List Nat) × ((List Nat) × Unit)) × (Ex × Unit)))) × ((List ((List Nat) × (((List Nat) × ((List Nat) × Unit)) × Unit))) × ((List (List Nat)) × ((List ((List Nat) × (Ex × Unit))) × Unit)))))) × ((List ((List Nat) × ((List Nat) × ((List Nat) × ((List Nat) × Unit))))) × Unit))))))))))
 av := fun d => []
 hp := fun d => []
 m := 0
 pre := fun d => iH F = some d
 out := fun d => (fun r : (Int × (Int × (Int × (Int × ((List Nat) × ((List Nat) × ((List Nat) × ((List Nat) × ((List ((List Nat) × ((List ((List Nat) × (((List Nat) × ((List Nat) × Unit)) × (Ex × Unit)))) × ((List ((List Nat) × (((List Nat) × ((List Nat) × Unit)) × Unit))) × ((List (List Nat)) × ((List ((List Nat) × (Ex × Unit))) × Unit)))))) × ((List ((List Nat) × ((List Nat) × ((List Nat) × ((List Nat) × Unit))))) × Unit)))))))))) => .ret (.agg [.val (.i .i64) r.1, .val (.i .i64) r.2.1, .val (.i .i64) r.2.2.1, .val (.i .i64) r.2.2.2.1, .val .str r.2.2.2.2.1, .val .str r.2.2.2.2.2.1, .val .str r.2.2.2.2.2.2.1, .val .str r.2.2.2.2.2.2.2.1, .own 0, .own 1]) [.tre 60 (.pair .no (.pair (.sl 64 .no) (.pair (.sl 71 .no) (.pair (.sl 9 .no) (.pair (.sl 73 .no) .no))))) (.pair .str (.pair (.sl (.pair .str (.pair (.pair .str (.pair .str .unit)) (.pair .expr .unit)))) (.pair (.sl (.pair .str (.pair (.pair .str (.pair .str .unit)) .unit))) (.pair (.sl .str) (.pair (.sl (.pair .str (.pair .expr .unit))) .unit))))) r.2.2.2.2.2.2.2.2.1, .row 68 (.pair .str (.pair .str (.pair .str (.pair .str .unit)))) r.2.2.2.2.2.2.2.2.2.1]) d
noncomputable def zK (F : Md) : List (FuncId × aG) := []
theorem zL (F : Md) : bD Tryz.prog GL (zK F) := .nil
set_option maxHeartbeats 4000000 in
theorem qD (F : Md) : GOK Tryz.prog GL 27 (gZ F) := by
 refine yO (aLl (zL F)) Tryz.func27 rfl (by kernel_rfl) (fun _ => Nat.le_of_ble_eq_true rfl) fun c0 w0 r hw1 hw2 h hn => ?_
 have hF : jP ⟨Tryz.prog, EX (zK F), GM (gZ F) c0 r, w0, Tryz.f27.ntmps, []⟩ := ⟨aLl (zL F), mix⟩
 replace h : iH F = some r := h
 have hw1 : AV.wfL [] := hw1
 simp only [AV.wfL, AV.wfV, Ty.wf, nA] at hw1
 show Tri _ _ _ [] []
 unfold iH at h
 refine aB (aO hF [0] ?_)
 simp only [go_sem]
 repeat (refine ⟨zAA, ?_⟩)
 refine aC (aB (aO hF [0, 1] ?_))
 simp only [go_sem]
 repeat (refine ⟨zAA, ?_⟩)
 refine aC (aB (aO hF [0] ?_))
 simp only [go_sem]
 repeat (refine ⟨zAA, ?_⟩)
 obtain rfl := Option.some.inj h
 refine aC (dB (aPh 0 9 68 .no (.pair .str (.pair .str (.pair .str (.pair .str .unit)))) rfl rfl rfl ?_))
 simp only [go_sem]
 refine aQM hF [.cell 0 54] [4, 5] (.agg [.val (.i .i64) (40 : Int), .val (.i .i64) (4 : Int), .val (.i .i64) (0 : Int), .val (.i .i64) (1 : Int), .val .str (aH ⟨#[49]⟩), .val .str (aH ⟨#[48, 46, 53]⟩), .val .str (aH ⟨#[48, 46, 49, 50, 53]⟩), .val .str (aH ⟨#[49]⟩), .own 4, .own 5]) rfl rfl rfl rfl rfl rfl rfl ?_ ?_
 ·(simp only [aR, go_sem]) <;> first | trivial | rfl | (simp; done)
 ·first | rfl | (simp only [aR, go_sem]; done)
attribute [go_sem] gZ
end Nu
end Go.Proofs
namespace Go.Proofs
open Go.Vc
set_option maxRecDepth 20000
namespace Nu
attribute [-go_sem] Ex.kind Ex.text Ex.l
noncomputable def pT (F : Md) : Option Bool :=
 (iH F).bind (fun r_3 => (iH F).bind (fun r_5 => ck ((0 : Nat) < (r_5.2.2.2.2.2.2.2.2.1.length)) (ck ((0 : Int) < (((r_5.2.2.2.2.2.2.2.2.1.length) : Nat) : Int)) (ck ((0 : Int) < (((r_5.2.2.2.2.2.2.2.2.1.getD (0 : Nat) ([], [], [], [], [], ())).2.1.length : Nat) : Int)) (ck ((aV F (aH ⟨#[120, 95, 49]⟩)).isSome = true) (ck ((((aV F (aH ⟨#[120, 95, 49]⟩)).getD false) = true) → ((aV F (aH ⟨#[116]⟩)).isSome = true)) (ck (((((aV F (aH ⟨#[120, 95, 49]⟩)).getD false) = true) ∧ (¬ (((aV F (aH ⟨#[116]⟩)).getD false) = true))) → ((aV F (aH ⟨#[]⟩)).isSome = true)) (ck ((((((aV F (aH ⟨#[120, 95, 49]⟩)).getD false) = true) ∧ (¬ (((aV F (aH ⟨#[116]⟩)).getD false) = true))) ∧ (¬ (((aV F (aH ⟨#[]⟩)).getD false) = true))) → ((bQ F (r_3.1, r_3.2.1, r_3.2.2.1, r_3.2.2.2.1, r_3.2.2.2.2.1, r_3.2.2.2.2.2.1, r_3.2.2.2.2.2.2.1, r_3.2.2.2.2.2.2.2.1, r_3.2.2.2.2.2.2.2.2.1, r_3.2.2.2.2.2.2.2.2.2.1, ())).isSome = true)) (ck (((((((aV F (aH ⟨#[120, 95, 49]⟩)).getD false) = true) ∧ (¬ (((aV F (aH ⟨#[116]⟩)).getD false) = true))) ∧ (¬ (((aV F (aH ⟨#[]⟩)).getD false) = true))) ∧ (((bQ F (r_3.1, r_3.2.1, r_3.2.2.1, r_3.2.2.2.1, r_3.2.2.2.2.1, r_3.2.2.2.2.2.1, r_3.2.2.2.2.2.2.1, r_3.2.2.2.2.2.2.2.1, r_3.2.2.2.2.2.2.2.2.1, r_3.2.2.2.2.2.2.2.2.2.1, ())).getD false) = true)) → ((bQ F (r_5.1, r_5.2.1, r_5.2.2.1, r_5.2.2.2.1, r_5.2.2.2.2.1, r_5.2.2.2.2.2.1, r_5.2.2.2.2.2.2.1, r_5.2.2.2.2.2.2.2.1, (r_5.2.2.2.2.2.2.2.2.1.set (0 : Nat) ((r_5.2.2.2.2.2.2.2.2.1.getD (0 : Nat) ([], [], [], [], [], ())).1, ((r_5.2.2.2.2.2.2.2.2.1.getD (0 : Nat) ([], [], [], [], [], ())).2.1.set (0 : Nat) (((r_5.2.2.2.2.2.2.2.2.1.getD (0 : Nat) ([], [], [], [], [], ())).2.1.getD (0 : Nat) ([], ([], [], ()), (Ex.mk 0 [] []), ())).1, ((r_5.2.2.2.2.2.2.2.2.1.getD (0 : Nat) ([], [], [], [], [], ())).2.1.getD (0 : Nat) ([], ([], [], ()), (Ex.mk 0 [] []), ())).2.1, (Ex.mk ((r_5.2.2.2.2.2.2.2.2.1.getD (0 : Nat) ([], [], [], [], [], ())).2.1.getD (0 : Nat) ([], ([], [], ()), (Ex.mk 0 [] []), ())).2.2.1.kind (aH ⟨#[122]⟩) ((r_5.2.2.2.2.2.2.2.2.1.getD (0 : Nat) ([], [], [], [], [], ())).2.1.getD (0 : Nat) ([], ([], [], ()), (Ex.mk 0 [] []), ())).2.2.1.l), ())), (r_5.2.2.2.2.2.2.2.2.1.getD (0 : Nat) ([], [], [], [], [], ())).2.2.1, (r_5.2.2.2.2.2.2.2.2.1.getD (0 : Nat) ([], [], [], [], [], ())).2.2.2.1, (r_5.2.2.2.2.2.2.2.2.1.getD (0 : Nat) ([], [], [], [], [], ())).2.2.2.2.1, ())), r_5.2.2.2.2.2.2.2.2.2.1, ())).isSome = true)) (ck ((((((((aV F (aH ⟨#[120, 95, 49]⟩)).getD false) = true) ∧ (¬ (((aV F (aH ⟨#[116]⟩)).getD false) = true))) ∧ (¬ (((aV F (aH ⟨#[]⟩)).getD false) = true))) ∧ (((bQ F (r_3.1, r_3.2.1, r_3.2.2.1, r_3.2.2.2.1, r_3.2.2.2.2.1, r_3.2.2.2.2.2.1, r_3.2.2.2.2.2.2.1, r_3.2.2.2.2.2.2.2.1, r_3.2.2.2.2.2.2.2.2.1, r_3.2.2.2.2.2.2.2.2.2.1, ())).getD false) = true)) ∧ (¬ (((bQ F (r_5.1, r_5.2.1, r_5.2.2.1, r_5.2.2.2.1, r_5.2.2.2.2.1, r_5.2.2.2.2.2.1, r_5.2.2.2.2.2.2.1, r_5.2.2.2.2.2.2.2.1, (r_5.2.2.2.2.2.2.2.2.1.set (0 : Nat) ((r_5.2.2.2.2.2.2.2.2.1.getD (0 : Nat) ([], [], [], [], [], ())).1, ((r_5.2.2.2.2.2.2.2.2.1.getD (0 : Nat) ([], [], [], [], [], ())).2.1.set (0 : Nat) (((r_5.2.2.2.2.2.2.2.2.1.getD (0 : Nat) ([], [], [], [], [], ())).2.1.getD (0 : Nat) ([], ([], [], ()), (Ex.mk 0 [] []), ())).1, ((r_5.2.2.2.2.2.2.2.2.1.getD (0 : Nat) ([], [], [], [], [], ())).2.1.getD (0 : Nat) ([], ([], [], ()), (Ex.mk 0 [] []), ())).2.1, (Ex.mk ((r_5.2.2.2.2.2.2.2.2.1.getD (0 : Nat) ([], [], [], [], [], ())).2.1.getD (0 : Nat) ([], ([], [], ()), (Ex.mk 0 [] []), ())).2.2.1.kind (aH ⟨#[122]⟩) ((r_5.2.2.2.2.2.2.2.2.1.getD (0 : Nat) ([], [], [], [], [], ())).2.1.getD (0 : Nat) ([], ([], [], ()), (Ex.mk 0 [] []), ())).2.2.1.l), ())), (r_5.2.2.2.2.2.2.2.2.1.getD (0 : Nat) ([], [], [], [], [], ())).2.2.1, (r_5.2.2.2.2.2.2.2.2.1.getD (0 : Nat) ([], [], [], [], [], ())).2.2.2.1, (r_5.2.2.2.2.2.2.2.2.1.getD (0 : Nat) ([], [], [], [], [], ())).2.2.2.2.1, ())), r_5.2.2.2.2.2.2.2.2.2.1, ())).getD false) = true))) → ((bQ F ((0 : Int), (0 : Int), (0 : Int), (0 : Int), ([] : List Nat), ([] : List Nat), ([] : List Nat), ([] : List Nat), ([] : List ((List Nat) × ((List ((List Nat) × (((List Nat) × ((List Nat) × Unit)) × (Ex × Unit)))) × ((List ((List Nat) × (((List Nat) × ((List Nat) × Unit)) × Unit))) × ((List (List Nat)) × ((List ((List Nat) × (Ex × Unit))) × Unit)))))), ([] : List ((List Nat) × ((List Nat) × ((List Nat) × ((List Nat) × Unit))))), ())).isSome = true)) (ck (((((((((aV F (aH ⟨#[120, 95, 49]⟩)).getD false) = true) ∧ (¬ (((aV F (aH ⟨#[116]⟩)).getD false) = true))) ∧ (¬ (((aV F (aH ⟨#[]⟩)).getD false) = true))) ∧ (((bQ F (r_3.1, r_3.2.1, r_3.2.2.1, r_3.2.2.2.1, r_3.2.2.2.2.1, r_3.2.2.2.2.2.1, r_3.2.2.2.2.2.2.1, r_3.2.2.2.2.2.2.2.1, r_3.2.2.2.2.2.2.2.2.1, r_3.2.2.2.2.2.2.2.2.2.1, ())).getD false) = true)) ∧ (¬ (((bQ F (r_5.1, r_5.2.1, r_5.2.2.1, r_5.2.2.2.1, r_5.2.2.2.2.1, r_5.2.2.2.2.2.1, r_5.2.2.2.2.2.2.1, r_5.2.2.2.2.2.2.2.1, (r_5.2.2.2.2.2.2.2.2.1.set (0 : Nat) ((r_5.2.2.2.2.2.2.2.2.1.getD (0 : Nat) ([], [], [], [], [], ())).1, ((r_5.2.2.2.2.2.2.2.2.1.getD (0 : Nat) ([], [], [], [], [], ())).2.1.set (0 : Nat) (((r_5.2.2.2.2.2.2.2.2.1.getD (0 : Nat) ([], [], [], [], [], ())).2.1.getD (0 : Nat) ([], ([], [], ()), (Ex.mk 0 [] []), ())).1, ((r_5.2.2.2.2.2.2.2.2.1.getD (0 : Nat) ([], [], [], [], [], ())).2.1.getD (0 : Nat) ([], ([], [], ()), (Ex.mk 0 [] []), ())).2.1, (Ex.mk ((r_5.2.2.2.2.2.2.2.2.1.getD (0 : Nat) ([], [], [], [], [], ())).2.1.getD (0 : Nat) ([], ([], [], ()), (Ex.mk 0 [] []), ())).2.2.1.kind (aH ⟨#[122]⟩) ((r_5.2.2.2.2.2.2.2.2.1.getD (0 : Nat) ([], [], [], [], [], ())).2.1.getD (0 : Nat) ([], ([], [], ()), (Ex.mk 0 [] []), ())).2.2.1.l), ())), (r_5.2.2.2.2.2.2.2.2.1.getD (0 : Nat) ([], [], [], [], [], ())).2.2.1, (r_5.2.2.2.2.2.2.2.2.1.getD (0 : Nat) ([], [], [], [], [], ())).2.2.2.1, (r_5.2.2.2.2.2.2.2.2.1.getD (0 : Nat) ([], [], [], [], [], ())).2.2.2.2.1, ())), r_5.2.2.2.2.2.2.2.2.2.1, ())).getD false) = true))) ∧ (¬ (((bQ F ((0 : Int), (0 : Int), (0 : Int), (0 : Int), ([] : List Nat), ([] : List Nat), ([] : List Nat), ([] : List Nat), ([] : List ((List Nat) × ((List ((List Nat) × (((List Nat) × ((List Nat) × Unit)) × (Ex × Unit)))) × ((List ((List Nat) × (((List Nat) × ((List Nat) × Unit)) × Unit))) × ((List (List Nat)) × ((List ((List Nat) × (Ex × Unit))) × Unit)))))), ([] : List ((List Nat) × ((List Nat) × ((List Nat) × ((List Nat) × Unit))))), ())).getD false) = true))) → ((dY F).isSome = true)) (ck (((((((((aV F (aH ⟨#[120, 95, 49]⟩)).getD false) = true) ∧ (¬ (((aV F (aH ⟨#[116]⟩)).getD false) = true))) ∧ (¬ (((aV F (aH ⟨#[]⟩)).getD false) = true))) ∧ (((bQ F (r_3.1, r_3.2.1, r_3.2.2.1, r_3.2.2.2.1, r_3.2.2.2.2.1, r_3.2.2.2.2.2.1, r_3.2.2.2.2.2.2.1, r_3.2.2.2.2.2.2.2.1, r_3.2.2.2.2.2.2.2.2.1, r_3.2.2.2.2.2.2.2.2.2.1, ())).getD false) = true)) ∧ (¬ (((bQ F (r_5.1, r_5.2.1, r_5.2.2.1, r_5.2.2.2.1, r_5.2.2.2.2.1, r_5.2.2.2.2.2.1, r_5.2.2.2.2.2.2.1, r_5.2.2.2.2.2.2.2.1, (r_5.2.2.2.2.2.2.2.2.1.set (0 : Nat) ((r_5.2.2.2.2.2.2.2.2.1.getD (0 : Nat) ([], [], [], [], [], ())).1, ((r_5.2.2.2.2.2.2.2.2.1.getD (0 : Nat) ([], [], [], [], [], ())).2.1.set (0 : Nat) (((r_5.2.2.2.2.2.2.2.2.1.getD (0 : Nat) ([], [], [], [], [], ())).2.1.getD (0 : Nat) ([], ([], [], ()), (Ex.mk 0 [] []), ())).1, ((r_5.2.2.2.2.2.2.2.2.1.getD (0 : Nat) ([], [], [], [], [], ())).2.1.getD (0 : Nat) ([], ([], [], ()), (Ex.mk 0 [] []), ())).2.1, (Ex.mk ((r_5.2.2.2.2.2.2.2.2.1.getD (0 : Nat) ([], [], [], [], [], ())).2.1.getD (0 : Nat) ([], ([], [], ()), (Ex.mk 0 [] []), ())).2.2.1.kind (aH ⟨#[122]⟩) ((r_5.2.2.2.2.2.2.2.2.1.getD (0 : Nat) ([], [], [], [], [], ())).2.1.getD (0 : Nat) ([], ([], [], ()), (Ex.mk 0 [] []), ())).2.2.1.l), ())), (r_5.2.2.2.2.2.2.2.2.1.getD (0 : Nat) ([], [], [], [], [], ())).2.2.1, (r_5.2.2.2.2.2.2.2.2.1.getD (0 : Nat) ([], [], [], [], [], ())).2.2.2.1, (r_5.2.2.2.2.2.2.2.2.1.getD (0 : Nat) ([], [], [], [], [], ())).2.2.2.2.1, ())), r_5.2.2.2.2.2.2.2.2.2.1, ())).getD false) = true))) ∧ (¬ (((bQ F ((0 : Int), (0 : Int), (0 : Int), (0 : Int), ([] : List Nat), ([] : List Nat), ([] : List Nat), ([] : List Nat), ([] : List ((List Nat) × ((List ((List Nat) × (((List Nat) × ((List Nat) × Unit)) × (Ex × Unit)))) × ((List ((List Nat) × (((List Nat) × ((List Nat) × Unit)) × Unit))) × ((List (List Nat)) × ((List ((List Nat) × (Ex × Unit))) × Unit)))))), ([] : List ((List Nat) × ((List Nat) × ((List Nat) × ((List Nat) × Unit))))), ())).getD false) = true))) → ((eX F (r_3.1, r_3.2.1, r_3.2.2.1, r_3.2.2.2.1, r_3.2.2.2.2.1, r_3.2.2.2.2.2.1, r_3.2.2.2.2.2.2.1, r_3.2.2.2.2.2.2.2.1, r_3.2.2.2.2.2.2.2.2.1, r_3.2.2.2.2.2.2.2.2.2.1, ()) ((dY F).getD ((0 : Int), (0 : Int), (0 : Int), (0 : Int), ([] : List Nat), ([] : List Nat), ([] : List Nat), ([] : List Nat), ([] : List ((List Nat) × ((List ((List Nat) × (((List Nat) × ((List Nat) × Unit)) × (Ex × Unit)))) × ((List ((List Nat) × (((List Nat) × ((List Nat) × Unit)) × Unit))) × ((List (List Nat)) × ((List ((List Nat) × (Ex × Unit))) × Unit)))))), ([] : List ((List Nat) × ((List Nat) × ((List Nat) × ((List Nat) × Unit))))), ()))).isSome = true)) (ck ((((((((((aV F (aH ⟨#[120, 95, 49]⟩)).getD false) = true) ∧ (¬ (((aV F (aH ⟨#[116]⟩)).getD false) = true))) ∧ (¬ (((aV F (aH ⟨#[]⟩)).getD false) = true))) ∧ (((bQ F (r_3.1, r_3.2.1, r_3.2.2.1, r_3.2.2.2.1, r_3.2.2.2.2.1, r_3.2.2.2.2.2.1, r_3.2.2.2.2.2.2.1, r_3.2.2.2.2.2.2.2.1, r_3.2.2.2.2.2.2.2.2.1, r_3.2.2.2.2.2.2.2.2.2.1, ())).getD false) = true)) ∧ (¬ (((bQ F (r_5.1, r_5.2.1, r_5.2.2.1, r_5.2.2.2.1, r_5.2.2.2.2.1, r_5.2.2.2.2.2.1, r_5.2.2.2.2.2.2.1, r_5.2.2.2.2.2.2.2.1, (r_5.2.2.2.2.2.2.2.2.1.set (0 : Nat) ((r_5.2.2.2.2.2.2.2.2.1.getD (0 : Nat) ([], [], [], [], [], ())).1, ((r_5.2.2.2.2.2.2.2.2.1.getD (0 : Nat) ([], [], [], [], [], ())).2.1.set (0 : Nat) (((r_5.2.2.2.2.2.2.2.2.1.getD (0 : Nat) ([], [], [], [], [], ())).2.1.getD (0 : Nat) ([], ([], [], ()), (Ex.mk 0 [] []), ())).1, ((r_5.2.2.2.2.2.2.2.2.1.getD (0 : Nat) ([], [], [], [], [], ())).2.1.getD (0 : Nat) ([], ([], [], ()), (Ex.mk 0 [] []), ())).2.1, (Ex.mk ((r_5.2.2.2.2.2.2.2.2.1.getD (0 : Nat) ([], [], [], [], [], ())).2.1.getD (0 : Nat) ([], ([], [], ()), (Ex.mk 0 [] []), ())).2.2.1.kind (aH ⟨#[122]⟩) ((r_5.2.2.2.2.2.2.2.2.1.getD (0 : Nat) ([], [], [], [], [], ())).2.1.getD (0 : Nat) ([], ([], [], ()), (Ex.mk 0 [] []), ())).2.2.1.l), ())), (r_5.2.2.2.2.2.2.2.2.1.getD (0 : Nat) ([], [], [], [], [], ())).2.2.1, (r_5.2.2.2.2.2.2.2.2.1.getD (0 : Nat) ([], [], [], [], [], ())).2.2.2.1, (r_5.2.2.2.2.2.2.2.2.1.getD (0 : Nat) ([], [], [], [], [], ())).2.2.2.2.1, ())), r_5.2.2.2.2.2.2.2.2.2.1, ())).getD false) = true))) ∧ (¬ (((bQ F ((0 : Int), (0 : Int), (0 : Int), (0 : Int), ([] : List Nat), ([] : List Nat), ([] : List Nat), ([] : List Nat), ([] : List ((List Nat) × ((List ((List Nat) × (((List Nat) × ((List Nat) × Unit)) × (Ex × Unit)))) × ((List ((List Nat) × (((List Nat) × ((List Nat) × Unit)) × Unit))) × ((List (List Nat)) × ((List ((List Nat) × (Ex × Unit))) × Unit)))))), ([] : List ((List Nat) × ((List Nat) × ((List Nat) × ((List Nat) × Unit))))), ())).getD false) = true))) ∧ (((eX F (r_3.1, r_3.2.1, r_3.2.2.1, r_3.2.2.2.1, r_3.2.2.2.2.1, r_3.2.2.2.2.2.1, r_3.2.2.2.2.2.2.1, r_3.2.2.2.2.2.2.2.1, r_3.2.2.2.2.2.2.2.2.1, r_3.2.2.2.2.2.2.2.2.2.1, ()) ((dY F).getD ((0 : Int), (0 : Int), (0 : Int), (0 : Int), ([] : List Nat), ([] : List Nat), ([] : List Nat), ([] : List Nat), ([] : List ((List Nat) × ((List ((List Nat) × (((List Nat) × ((List Nat) × Unit)) × (Ex × Unit)))) × ((List ((List Nat) × (((List Nat) × ((List Nat) × Unit)) × Unit))) × ((List (List Nat)) × ((List ((List Nat) × (Ex × Unit))) × Unit)))))), ([] : List ((List Nat) × ((List Nat) × ((List Nat) × ((List Nat) × Unit))))), ()))).getD false) = true)) → ((eX F (r_3.1, r_3.2.1, r_3.2.2.1, r_3.2.2.2.1, r_3.2.2.2.2.1, r_3.2.2.2.2.2.1, r_3.2.2.2.2.2.2.1, r_3.2.2.2.2.2.2.2.1, r_3.2.2.2.2.2.2.2.2.1, r_3.2.2.2.2.2.2.2.2.2.1, ()) (r_5.1, r_5.2.1, r_5.2.2.1, r_5.2.2.2.1, r_5.2.2.2.2.1, r_5.2.2.2.2.2.1, r_5.2.2.2.2.2.2.1, r_5.2.2.2.2.2.2.2.1, (r_5.2.2.2.2.2.2.2.2.1.set (0 : Nat) ((r_5.2.2.2.2.2.2.2.2.1.getD (0 : Nat) ([], [], [], [], [], ())).1, ((r_5.2.2.2.2.2.2.2.2.1.getD (0 : Nat) ([], [], [], [], [], ())).2.1.set (0 : Nat) (((r_5.2.2.2.2.2.2.2.2.1.getD (0 : Nat) ([], [], [], [], [], ())).2.1.getD (0 : Nat) ([], ([], [], ()), (Ex.mk 0 [] []), ())).1, ((r_5.2.2.2.2.2.2.2.2.1.getD (0 : Nat) ([], [], [], [], [], ())).2.1.getD (0 : Nat) ([], ([], [], ()), (Ex.mk 0 [] []), ())).2.1, (Ex.mk ((r_5.2.2.2.2.2.2.2.2.1.getD (0 : Nat) ([], [], [], [], [], ())).2.1.getD (0 : Nat) ([], ([], [], ()), (Ex.mk 0 [] []), ())).2.2.1.kind (aH ⟨#[122]⟩) ((r_5.2.2.2.2.2.2.2.2.1.getD (0 : Nat) ([], [], [], [], [], ())).2.1.getD (0 : Nat) ([], ([], [], ()), (Ex.mk 0 [] []), ())).2.2.1.l), ())), (r_5.2.2.2.2.2.2.2.2.1.getD (0 : Nat) ([], [], [], [], [], ())).2.2.1, (r_5.2.2.2.2.2.2.2.2.1.getD (0 : Nat) ([], [], [], [], [], ())).2.2.2.1, (r_5.2.2.2.2.2.2.2.2.1.getD (0 : Nat) ([], [], [], [], [], ())).2.2.2.2.1, ())), r_5.2.2.2.2.2.2.2.2.2.1, ())).isSome = true)) (ck (((((((((((aV F (aH ⟨#[120, 95, 49]⟩)).getD false) = true) ∧ (¬ (((aV F (aH ⟨#[116]⟩)).getD false) = true))) ∧ (¬ (((aV F (aH ⟨#[]⟩)).getD false) = true))) ∧ (((bQ F (r_3.1, r_3.2.1, r_3.2.2.1, r_3.2.2.2.1, r_3.2.2.2.2.1, r_3.2.2.2.2.2.1, r_3.2.2.2.2.2.2.1, r_3.2.2.2.2.2.2.2.1, r_3.2.2.2.2.2.2.2.2.1, r_3.2.2.2.2.2.2.2.2.2.1, ())).getD false) = true)) ∧ (¬ (((bQ F (r_5.1, r_5.2.1, r_5.2.2.1, r_5.2.2.2.1, r_5.2.2.2.2.1, r_5.2.2.2.2.2.1, r_5.2.2.2.2.2.2.1, r_5.2.2.2.2.2.2.2.1, (r_5.2.2.2.2.2.2.2.2.1.set (0 : Nat) ((r_5.2.2.2.2.2.2.2.2.1.getD (0 : Nat) ([], [], [], [], [], ())).1, ((r_5.2.2.2.2.2.2.2.2.1.getD (0 : Nat) ([], [], [], [], [], ())).2.1.set (0 : Nat) (((r_5.2.2.2.2.2.2.2.2.1.getD (0 : Nat) ([], [], [], [], [], ())).2.1.getD (0 : Nat) ([], ([], [], ()), (Ex.mk 0 [] []), ())).1, ((r_5.2.2.2.2.2.2.2.2.1.getD (0 : Nat) ([], [], [], [], [], ())).2.1.getD (0 : Nat) ([], ([], [], ()), (Ex.mk 0 [] []), ())).2.1, (Ex.mk ((r_5.2.2.2.2.2.2.2.2.1.getD (0 : Nat) ([], [], [], [], [], ())).2.1.getD (0 : Nat) ([], ([], [], ()), (Ex.mk 0 [] []), ())).2.2.1.kind (aH ⟨#[122]⟩) ((r_5.2.2.2.2.2.2.2.2.1.getD (0 : Nat) ([], [], [], [], [], ())).2.1.getD (0 : Nat) ([], ([], [], ()), (Ex.mk 0 [] []), ())).2.2.1.l), ())), (r_5.2.2.2.2.2.2.2.2.1.getD (0 : Nat) ([], [], [], [], [], ())).2.2.1, (r_5.2.2.2.2.2.2.2.2.1.getD (0 : Nat) ([], [], [], [], [], ())).2.2.2.1, (r_5.2.2.2.2.2.2.2.2.1.getD (0 : Nat) ([], [], [], [], [], ())).2.2.2.2.1, ())), r_5.2.2.2.2.2.2.2.2.2.1, ())).getD false) = true))) ∧ (¬ (((bQ F ((0 : Int), (0 : Int), (0 : Int), (0 : Int), ([] : List Nat), ([] : List Nat), ([] : List Nat), ([] : List Nat), ([] : List ((List Nat) × ((List ((List Nat) × (((List Nat) × ((List Nat) × Unit)) × (Ex × Unit)))) × ((List ((List Nat) × (((List Nat) × ((List Nat) × Unit)) × Unit))) × ((List (List Nat)) × ((List ((List Nat) × (Ex × Unit))) × Unit)))))), ([] : List ((List Nat) × ((List Nat) × ((List Nat) × ((List Nat) × Unit))))), ())).getD false) = true))) ∧ (((eX F (r_3.1, r_3.2.1, r_3.2.2.1, r_3.2.2.2.1, r_3.2.2.2.2.1, r_3.2.2.2.2.2.1, r_3.2.2.2.2.2.2.1, r_3.2.2.2.2.2.2.2.1, r_3.2.2.2.2.2.2.2.2.1, r_3.2.2.2.2.2.2.2.2.2.1, ()) ((dY F).getD ((0 : Int), (0 : Int), (0 : Int), (0 : Int), ([] : List Nat), ([] : List Nat), ([] : List Nat), ([] : List Nat), ([] : List ((List Nat) × ((List ((List Nat) × (((List Nat) × ((List Nat) × Unit)) × (Ex × Unit)))) × ((List ((List Nat) × (((List Nat) × ((List Nat) × Unit)) × Unit))) × ((List (List Nat)) × ((List ((List Nat) × (Ex × Unit))) × Unit)))))), ([] : List ((List Nat) × ((List Nat) × ((List Nat) × ((List Nat) × Unit))))), ()))).getD false) = true)) ∧ (¬ (((eX F (r_3.1, r_3.2.1, r_3.2.2.1, r_3.2.2.2.1, r_3.2.2.2.2.1, r_3.2.2.2.2.2.1, r_3.2.2.2.2.2.2.1, r_3.2.2.2.2.2.2.2.1, r_3.2.2.2.2.2.2.2.2.1, r_3.2.2.2.2.2.2.2.2.2.1, ()) (r_5.1, r_5.2.1, r_5.2.2.1, r_5.2.2.2.1, r_5.2.2.2.2.1, r_5.2.2.2.2.2.1, r_5.2.2.2.2.2.2.1, r_5.2.2.2.2.2.2.2.1, (r_5.2.2.2.2.2.2.2.2.1.set (0 : Nat) ((r_5.2.2.2.2.2.2.2.2.1.getD (0 : Nat) ([], [], [], [], [], ())).1, ((r_5.2.2.2.2.2.2.2.2.1.getD (0 : Nat) ([], [], [], [], [], ())).2.1.set (0 : Nat) (((r_5.2.2.2.2.2.2.2.2.1.getD (0 : Nat) ([], [], [], [], [], ())).2.1.getD (0 : Nat) ([], ([], [], ()), (Ex.mk 0 [] []), ())).1, ((r_5.2.2.2.2.2.2.2.2.1.getD (0 : Nat) ([], [], [], [], [], ())).2.1.getD (0 : Nat) ([], ([], [], ()), (Ex.mk 0 [] []), ())).2.1, (Ex.mk ((r_5.2.2.2.2.2.2.2.2.1.getD (0 : Nat) ([], [], [], [], [], ())).2.1.getD (0 : Nat) ([], ([], [], ()), (Ex.mk 0 [] []), ())).2.2.1.kind (aH ⟨#[122]⟩) ((r_5.2.2.2.2.2.2.2.2.1.getD (0 : Nat) ([], [], [], [], [], ())).2.1.getD (0 : Nat) ([], ([], [], ()), (Ex.mk 0 [] []), ())).2.2.1.l), ())), (r_5.2.2.2.2.2.2.2.2.1.getD (0 : Nat) ([], [], [], [], [], ())).2.2.1, (r_5.2.2.2.2.2.2.2.2.1.getD (0 : Nat) ([], [], [], [], [], ())).2.2.2.1, (r_5.2.2.2.2.2.2.2.2.1.getD (0 : Nat) ([], [], [], [], [], ())).2.2.2.2.1, ())), r_5.2.2.2.2.2.2.2.2.2.1, ())).getD false) = true))) → ((gX F (r_3.1, r_3.2.1, r_3.2.2.1, r_3.2.2.2.1, r_3.2.2.2.2.1, r_3.2.2.2.2.2.1, r_3.2.2.2.2.2.2.1, r_3.2.2.2.2.2.2.2.1, r_3.2.2.2.2.2.2.2.2.1, r_3.2.2.2.2.2.2.2.2.2.1, ()) (aH ⟨#[97]⟩)).isSome = true)) (ck ((((((((((((aV F (aH ⟨#[120, 95, 49]⟩)).getD false) = true) ∧ (¬ (((aV F (aH ⟨#[116]⟩)).getD false) = true))) ∧ (¬ (((aV F (aH ⟨#[]⟩)).getD false) = true))) ∧ (((bQ F (r_3.1, r_3.2.1, r_3.2.2.1, r_3.2.2.2.1, r_3.2.2.2.2.1, r_3.2.2.2.2.2.1, r_3.2.2.2.2.2.2.1, r_3.2.2.2.2.2.2.2.1, r_3.2.2.2.2.2.2.2.2.1, r_3.2.2.2.2.2.2.2.2.2.1, ())).getD false) = true)) ∧ (¬ (((bQ F (r_5.1, r_5.2.1, r_5.2.2.1, r_5.2.2.2.1, r_5.2.2.2.2.1, r_5.2.2.2.2.2.1, r_5.2.2.2.2.2.2.1, r_5.2.2.2.2.2.2.2.1, (r_5.2.2.2.2.2.2.2.2.1.set (0 : Nat) ((r_5.2.2.2.2.2.2.2.2.1.getD (0 : Nat) ([], [], [], [], [], ())).1, ((r_5.2.2.2.2.2.2.2.2.1.getD (0 : Nat) ([], [], [], [], [], ())).2.1.set (0 : Nat) (((r_5.2.2.2.2.2.2.2.2.1.getD (0 : Nat) ([], [], [], [], [], ())).2.1.getD (0 : Nat) ([], ([], [], ()), (Ex.mk 0 [] []), ())).1, ((r_5.2.2.2.2.2.2.2.2.1.getD (0 : Nat) ([], [], [], [], [], ())).2.1.getD (0 : Nat) ([], ([], [], ()), (Ex.mk 0 [] []), ())).2.1, (Ex.mk ((r_5.2.2.2.2.2.2.2.2.1.getD (0 : Nat) ([], [], [], [], [], ())).2.1.getD (0 : Nat) ([], ([], [], ()), (Ex.mk 0 [] []), ())).2.2.1.kind (aH ⟨#[122]⟩) ((r_5.2.2.2.2.2.2.2.2.1.getD (0 : Nat) ([], [], [], [], [], ())).2.1.getD (0 : Nat) ([], ([], [], ()), (Ex.mk 0 [] []), ())).2.2.1.l), ())), (r_5.2.2.2.2.2.2.2.2.1.getD (0 : Nat) ([], [], [], [], [], ())).2.2.1, (r_5.2.2.2.2.2.2.2.2.1.getD (0 : Nat) ([], [], [], [], [], ())).2.2.2.1, (r_5.2.2.2.2.2.2.2.2.1.getD (0 : Nat) ([], [], [], [], [], ())).2.2.2.2.1, ())), r_5.2.2.2.2.2.2.2.2.2.1, ())).getD false) = true))) ∧ (¬ (((bQ F ((0 : Int), (0 : Int), (0 : Int), (0 : Int), ([] : List Nat), ([] : List Nat), ([] : List Nat), ([] : List Nat), ([] : List ((List Nat) × ((List ((List Nat) × (((List Nat) × ((List Nat) × Unit)) × (Ex × Unit)))) × ((List ((List Nat) × (((List Nat) × ((List Nat) × Unit)) × Unit))) × ((List (List Nat)) × ((List ((List Nat) × (Ex × Unit))) × Unit)))))), ([] : List ((List Nat) × ((List Nat) × ((List Nat) × ((List Nat) × Unit))))), ())).getD false) = true))) ∧ (((eX F (r_3.1, r_3.2.1, r_3.2.2.1, r_3.2.2.2.1, r_3.2.2.2.2.1, r_3.2.2.2.2.2.1, r_3.2.2.2.2.2.2.1, r_3.2.2.2.2.2.2.2.1, r_3.2.2.2.2.2.2.2.2.1, r_3.2.2.2.2.2.2.2.2.2.1, ()) ((dY F).getD ((0 : Int), (0 : Int), (0 : Int), (0 : Int), ([] : List Nat), ([] : List Nat), ([] : List Nat), ([] : List Nat), ([] : List ((List Nat) × ((List ((List Nat) × (((List Nat) × ((List Nat) × Unit)) × (Ex × Unit)))) × ((List ((List Nat) × (((List Nat) × ((List Nat) × Unit)) × Unit))) × ((List (List Nat)) × ((List ((List Nat) × (Ex × Unit))) × Unit)))))), ([] : List ((List Nat) × ((List Nat) × ((List Nat) × ((List Nat) × Unit))))), ()))).getD false) = true)) ∧ (¬ (((eX F (r_3.1, r_3.2.1, r_3.2.2.1, r_3.2.2.2.1, r_3.2.2.2.2.1, r_3.2.2.2.2.2.1, r_3.2.2.2.2.2.2.1, r_3.2.2.2.2.2.2.2.1, r_3.2.2.2.2.2.2.2.2.1, r_3.2.2.2.2.2.2.2.2.2.1, ()) (r_5.1, r_5.2.1, r_5.2.2.1, r_5.2.2.2.1, r_5.2.2.2.2.1, r_5.2.2.2.2.2.1, r_5.2.2.2.2.2.2.1, r_5.2.2.2.2.2.2.2.1, (r_5.2.2.2.2.2.2.2.2.1.set (0 : Nat) ((r_5.2.2.2.2.2.2.2.2.1.getD (0 : Nat) ([], [], [], [], [], ())).1, ((r_5.2.2.2.2.2.2.2.2.1.getD (0 : Nat) ([], [], [], [], [], ())).2.1.set (0 : Nat) (((r_5.2.2.2.2.2.2.2.2.1.getD (0 : Nat) ([], [], [], [], [], ())).2.1.getD (0 : Nat) ([], ([], [], ()), (Ex.mk 0 [] []), ())).1, ((r_5.2.2.2.2.2.2.2.2.1.getD (0 : Nat) ([], [], [], [], [], ())).2.1.getD (0 : Nat) ([], ([], [], ()), (Ex.mk 0 [] []), ())).2.1, (Ex.mk ((r_5.2.2.2.2.2.2.2.2.1.getD (0 : Nat) ([], [], [], [], [], ())).2.1.getD (0 : Nat) ([], ([], [], ()), (Ex.mk 0 [] []), ())).2.2.1.kind (aH ⟨#[122]⟩) ((r_5.2.2.2.2.2.2.2.2.1.getD (0 : Nat) ([], [], [], [], [], ())).2.1.getD (0 : Nat) ([], ([], [], ()), (Ex.mk 0 [] []), ())).2.2.1.l), ())), (r_5.2.2.2.2.2.2.2.2.1.getD (0 : Nat) ([], [], [], [], [], ())).2.2.1, (r_5.2.2.2.2.2.2.2.2.1.getD (0 : Nat) ([], [], [], [], [], ())).2.2.2.1, (r_5.2.2.2.2.2.2.2.2.1.getD (0 : Nat) ([], [], [], [], [], ())).2.2.2.2.1, ())), r_5.2.2.2.2.2.2.2.2.2.1, ())).getD false) = true))) ∧ (((gX F (r_3.1, r_3.2.1, r_3.2.2.1, r_3.2.2.2.1, r_3.2.2.2.2.1, r_3.2.2.2.2.2.1, r_3.2.2.2.2.2.2.1, r_3.2.2.2.2.2.2.2.1, r_3.2.2.2.2.2.2.2.2.1, r_3.2.2.2.2.2.2.2.2.2.1, ()) (aH ⟨#[97]⟩)).getD (0 : Int)) = (0 : Int))) → ((gX F (r_3.1, r_3.2.1, r_3.2.2.1, r_3.2.2.2.1, r_3.2.2.2.2.1, r_3.2.2.2.2.2.1, r_3.2.2.2.2.2.2.1, r_3.2.2.2.2.2.2.2.1, r_3.2.2.2.2.2.2.2.2.1, r_3.2.2.2.2.2.2.2.2.2.1, ()) (aH ⟨#[98]⟩)).isSome = true)) (ck (((((((((((((aV F (aH ⟨#[120, 95, 49]⟩)).getD false) = true) ∧ (¬ (((aV F (aH ⟨#[116]⟩)).getD false) = true))) ∧ (¬ (((aV F (aH ⟨#[]⟩)).getD false) = true))) ∧ (((bQ F (r_3.1, r_3.2.1, r_3.2.2.1, r_3.2.2.2.1, r_3.2.2.2.2.1, r_3.2.2.2.2.2.1, r_3.2.2.2.2.2.2.1, r_3.2.2.2.2.2.2.2.1, r_3.2.2.2.2.2.2.2.2.1, r_3.2.2.2.2.2.2.2.2.2.1, ())).getD false) = true)) ∧ (¬ (((bQ F (r_5.1, r_5.2.1, r_5.2.2.1, r_5.2.2.2.1, r_5.2.2.2.2.1, r_5.2.2.2.2.2.1, r_5.2.2.2.2.2.2.1, r_5.2.2.2.2.2.2.2.1, (r_5.2.2.2.2.2.2.2.2.1.set (0 : Nat) ((r_5.2.2.2.2.2.2.2.2.1.getD (0 : Nat) ([], [], [], [], [], ())).1, ((r_5.2.2.2.2.2.2.2.2.1.getD (0 : Nat) ([], [], [], [], [], ())).2.1.set (0 : Nat) (((r_5.2.2.2.2.2.2.2.2.1.getD (0 : Nat) ([], [], [], [], [], ())).2.1.getD (0 : Nat) ([], ([], [], ()), (Ex.mk 0 [] []), ())).1, ((r_5.2.2.2.2.2.2.2.2.1.getD (0 : Nat) ([], [], [], [], [], ())).2.1.getD (0 : Nat) ([], ([], [], ()), (Ex.mk 0 [] []), ())).2.1, (Ex.mk ((r_5.2.2.2.2.2.2.2.2.1.getD (0 : Nat) ([], [], [], [], [], ())).2.1.getD (0 : Nat) ([], ([], [], ()), (Ex.mk 0 [] []), ())).2.2.1.kind (aH ⟨#[122]⟩) ((r_5.2.2.2.2.2.2.2.2.1.getD (0 : Nat) ([], [], [], [], [], ())).2.1.getD (0 : Nat) ([], ([], [], ()), (Ex.mk 0 [] []), ())).2.2.1.l), ())), (r_5.2.2.2.2.2.2.2.2.1.getD (0 : Nat) ([], [], [], [], [], ())).2.2.1, (r_5.2.2.2.2.2.2.2.2.1.getD (0 : Nat) ([], [], [], [], [], ())).2.2.2.1, (r_5.2.2.2.2.2.2.2.2.1.getD (0 : Nat) ([], [], [], [], [], ())).2.2.2.2.1, ())), r_5.2.2.2.2.2.2.2.2.2.1, ())).getD false) = true))) ∧ (¬ (((bQ F ((0 : Int), (0 : Int), (0 : Int), (0 : Int), ([] : List Nat), ([] : List Nat), ([] : List Nat), ([] : List Nat), ([] : List ((List Nat) × ((List ((List Nat) × (((List Nat) × ((List Nat) × Unit)) × (Ex × Unit)))) × ((List ((List Nat) × (((List Nat) × ((List Nat) × Unit)) × Unit))) × ((List (List Nat)) × ((List ((List Nat) × (Ex × Unit))) × Unit)))))), ([] : List ((List Nat) × ((List Nat) × ((List Nat) × ((List Nat) × Unit))))), ())).getD false) = true))) ∧ (((eX F (r_3.1, r_3.2.1, r_3.2.2.1, r_3.2.2.2.1, r_3.2.2.2.2.1, r_3.2.2.2.2.2.1, r_3.2.2.2.2.2.2.1, r_3.2.2.2.2.2.2.2.1, r_3.2.2.2.2.2.2.2.2.1, r_3.2.2.2.2.2.2.2.2.2.1, ()) ((dY F).getD ((0 : Int), (0 : Int), (0 : Int), (0 : Int), ([] : List Nat), ([] : List Nat), ([] : List Nat), ([] : List Nat), ([] : List ((List Nat) × ((List ((List Nat) × (((List Nat) × ((List Nat) × Unit)) × (Ex × Unit)))) × ((List ((List Nat) × (((List Nat) × ((List Nat) × Unit)) × Unit))) × ((List (List Nat)) × ((List ((List Nat) × (Ex × Unit))) × Unit)))))), ([] : List ((List Nat) × ((List Nat) × ((List Nat) × ((List Nat) × Unit))))), ()))).getD false) = true)) ∧ (¬ (((eX F (r_3.1, r_3.2.1, r_3.2.2.1, r_3.2.2.2.1, r_3.2.2.2.2.1, r_3.2.2.2.2.2.1, r_3.2.2.2.2.2.2.1, r_3.2.2.2.2.2.2.2.1, r_3.2.2.2.2.2.2.2.2.1, r_3.2.2.2.2.2.2.2.2.2.1, ()) (r_5.1, r_5.2.1, r_5.2.2.1, r_5.2.2.2.1, r_5.2.2.2.2.1, r_5.2.2.2.2.2.1, r_5.2.2.2.2.2.2.1, r_5.2.2.2.2.2.2.2.1, (r_5.2.2.2.2.2.2.2.2.1.set (0 : Nat) ((r_5.2.2.2.2.2.2.2.2.1.getD (0 : Nat) ([], [], [], [], [], ())).1, ((r_5.2.2.2.2.2.2.2.2.1.getD (0 : Nat) ([], [], [], [], [], ())).2.1.set (0 : Nat) (((r_5.2.2.2.2.2.2.2.2.1.getD (0 : Nat) ([], [], [], [], [], ())).2.1.getD (0 : Nat) ([], ([], [], ()), (Ex.mk 0 [] []), ())).1, ((r_5.2.2.2.2.2.2.2.2.1.getD (0 : Nat) ([], [], [], [], [], ())).2.1.getD (0 : Nat) ([], ([], [], ()), (Ex.mk 0 [] []), ())).2.1, (Ex.mk ((r_5.2.2.2.2.2.2.2.2.1.getD (0 : Nat) ([], [], [], [], [], ())).2.1.getD (0 : Nat) ([], ([], [], ()), (Ex.mk 0 [] []), ())).2.2.1.kind (aH ⟨#[122]⟩) ((r_5.2.2.2.2.2.2.2.2.1.getD (0 : Nat) ([], [], [], [], [], ())).2.1.getD (0 : Nat) ([], ([], [], ()), (Ex.mk 0 [] []), ())).2.2.1.l), ())), (r_5.2.2.2.2.2.2.2.2.1.getD (0 : Nat) ([], [], [], [], [], ())).2.2.1, (r_5.2.2.2.2.2.2.2.2.1.getD (0 : Nat) ([], [], [], [], [], ())).2.2.2.1, (r_5.2.2.2.2.2.2.2.2.1.getD (0 : Nat) ([], [], [], [], [], ())).2.2.2.2.1, ())), r_5.2.2.2.2.2.2.2.2.2.1, ())).getD false) = true))) ∧ (((gX F (r_3.1, r_3.2.1, r_3.2.2.1, r_3.2.2.2.1, r_3.2.2.2.2.1, r_3.2.2.2.2.2.1, r_3.2.2.2.2.2.2.1, r_3.2.2.2.2.2.2.2.1, r_3.2.2.2.2.2.2.2.2.1, r_3.2.2.2.2.2.2.2.2.2.1, ()) (aH ⟨#[97]⟩)).getD (0 : Int)) = (0 : Int))) ∧ (((gX F (r_3.1, r_3.2.1, r_3.2.2.1, r_3.2.2.2.1, r_3.2.2.2.2.1, r_3.2.2.2.2.2.1, r_3.2.2.2.2.2.2.1, r_3.2.2.2.2.2.2.2.1, r_3.2.2.2.2.2.2.2.2.1, r_3.2.2.2.2.2.2.2.2.2.1, ()) (aH ⟨#[98]⟩)).getD (0 : Int)) = (-1 : Int))) → ((hZ F (Ex.mk (2 : Int) (aH ⟨#[120]⟩) ([] : List Ex)) ([(aH ⟨#[120]⟩)] : List (List Nat))).isSome = true)) (some ((((((((((((aV F (aH ⟨#[120, 95, 49]⟩)).getD false) && (!((aV F (aH ⟨#[116]⟩)).getD false))) && (!((aV F (aH ⟨#[]⟩)).getD false))) && ((bQ F (r_3.1, r_3.2.1, r_3.2.2.1, r_3.2.2.2.1, r_3.2.2.2.2.1, r_3.2.2.2.2.2.1, r_3.2.2.2.2.2.2.1, r_3.2.2.2.2.2.2.2.1, r_3.2.2.2.2.2.2.2.2.1, r_3.2.2.2.2.2.2.2.2.2.1, ())).getD false)) && (!((bQ F (r_5.1, r_5.2.1, r_5.2.2.1, r_5.2.2.2.1, r_5.2.2.2.2.1, r_5.2.2.2.2.2.1, r_5.2.2.2.2.2.2.1, r_5.2.2.2.2.2.2.2.1, (r_5.2.2.2.2.2.2.2.2.1.set (0 : Nat) ((r_5.2.2.2.2.2.2.2.2.1.getD (0 : Nat) ([], [], [], [], [], ())).1, ((r_5.2.2.2.2.2.2.2.2.1.getD (0 : Nat) ([], [], [], [], [], ())).2.1.set (0 : Nat) (((r_5.2.2.2.2.2.2.2.2.1.getD (0 : Nat) ([], [], [], [], [], ())).2.1.getD (0 : Nat) ([], ([], [], ()), (Ex.mk 0 [] []), ())).1, ((r_5.2.2.2.2.2.2.2.2.1.getD (0 : Nat) ([], [], [], [], [], ())).2.1.getD (0 : Nat) ([], ([], [], ()), (Ex.mk 0 [] []), ())).2.1, (Ex.mk ((r_5.2.2.2.2.2.2.2.2.1.getD (0 : Nat) ([], [], [], [], [], ())).2.1.getD (0 : Nat) ([], ([], [], ()), (Ex.mk 0 [] []), ())).2.2.1.kind (aH ⟨#[122]⟩) ((r_5.2.2.2.2.2.2.2.2.1.getD (0 : Nat) ([], [], [], [], [], ())).2.1.getD (0 : Nat) ([], ([], [], ()), (Ex.mk 0 [] []), ())).2.2.1.l), ())), (r_5.2.2.2.2.2.2.2.2.1.getD (0 : Nat) ([], [], [], [], [], ())).2.2.1, (r_5.2.2.2.2.2.2.2.2.1.getD (0 : Nat) ([], [], [], [], [], ())).2.2.2.1, (r_5.2.2.2.2.2.2.2.2.1.getD (0 : Nat) ([], [], [], [], [], ())).2.2.2.2.1, ())), r_5.2.2.2.2.2.2.2.2.2.1, ())).getD false))) && (!((bQ F ((0 : Int), (0 : Int), (0 : Int), (0 : Int), ([] : List Nat), ([] : List Nat), ([] : List Nat), ([] : List Nat), ([] : List ((List Nat) × ((List ((List Nat) × (((List Nat) × ((List Nat) × Unit)) × (Ex × Unit)))) × ((List ((List Nat) × (((List Nat) × ((List Nat) × Unit)) × Unit))) × ((List (List Nat)) × ((List ((List Nat) × (Ex × Unit))) × Unit)))))), ([] : List ((List Nat) × ((List Nat) × ((List Nat) × ((List Nat) × Unit))))), ())).getD false))) && ((eX F (r_3.1, r_3.2.1, r_3.2.2.1, r_3.2.2.2.1, r_3.2.2.2.2.1, r_3.2.2.2.2.2.1, r_3.2.2.2.2.2.2.1, r_3.2.2.2.2.2.2.2.1, r_3.2.2.2.2.2.2.2.2.1, r_3.2.2.2.2.2.2.2.2.2.1, ()) ((dY F).getD ((0 : Int), (0 : Int), (0 : Int), (0 : Int), ([] : List Nat), ([] : List Nat), ([] : List Nat), ([] : List Nat), ([] : List ((List Nat) × ((List ((List Nat) × (((List Nat) × ((List Nat) × Unit)) × (Ex × Unit)))) × ((List ((List Nat) × (((List Nat) × ((List Nat) × Unit)) × Unit))) × ((List (List Nat)) × ((List ((List Nat) × (Ex × Unit))) × Unit)))))), ([] : List ((List Nat) × ((List Nat) × ((List Nat) × ((List Nat) × Unit))))), ()))).getD false)) && (!((eX F (r_3.1, r_3.2.1, r_3.2.2.1, r_3.2.2.2.1, r_3.2.2.2.2.1, r_3.2.2.2.2.2.1, r_3.2.2.2.2.2.2.1, r_3.2.2.2.2.2.2.2.1, r_3.2.2.2.2.2.2.2.2.1, r_3.2.2.2.2.2.2.2.2.2.1, ()) (r_5.1, r_5.2.1, r_5.2.2.1, r_5.2.2.2.1, r_5.2.2.2.2.1, r_5.2.2.2.2.2.1, r_5.2.2.2.2.2.2.1, r_5.2.2.2.2.2.2.2.1, (r_5.2.2.2.2.2.2.2.2.1.set (0 : Nat) ((r_5.2.2.2.2.2.2.2.2.1.getD (0 : Nat) ([], [], [], [], [], ())).1, ((r_5.2.2.2.2.2.2.2.2.1.getD (0 : Nat) ([], [], [], [], [], ())).2.1.set (0 : Nat) (((r_5.2.2.2.2.2.2.2.2.1.getD (0 : Nat) ([], [], [], [], [], ())).2.1.getD (0 : Nat) ([], ([], [], ()), (Ex.mk 0 [] []), ())).1, ((r_5.2.2.2.2.2.2.2.2.1.getD (0 : Nat) ([], [], [], [], [], ())).2.1.getD (0 : Nat) ([], ([], [], ()), (Ex.mk 0 [] []), ())).2.1, (Ex.mk ((r_5.2.2.2.2.2.2.2.2.1.getD (0 : Nat) ([], [], [], [], [], ())).2.1.getD (0 : Nat) ([], ([], [], ()), (Ex.mk 0 [] []), ())).2.2.1.kind (aH ⟨#[122]⟩) ((r_5.2.2.2.2.2.2.2.2.1.getD (0 : Nat) ([], [], [], [], [], ())).2.1.getD (0 : Nat) ([], ([], [], ()), (Ex.mk 0 [] []), ())).2.2.1.l), ())), (r_5.2.2.2.2.2.2.2.2.1.getD (0 : Nat) ([], [], [], [], [], ())).2.2.1, (r_5.2.2.2.2.2.2.2.2.1.getD (0 : Nat) ([], [], [], [], [], ())).2.2.2.1, (r_5.2.2.2.2.2.2.2.2.1.getD (0 : Nat) ([], [], [], [], [], ())).2.2.2.2.1, ())), r_5.2.2.2.2.2.2.2.2.2.1, ())).getD false))) && (decide (((gX F (r_3.1, r_3.2.1, r_3.2.2.1, r_3.2.2.2.1, r_3.2.2.2.2.1, r_3.2.2.2.2.2.1, r_3.2.2.2.2.2.2.1, r_3.2.2.2.2.2.2.2.1, r_3.2.2.2.2.2.2.2.2.1, r_3.2.2.2.2.2.2.2.2.2.1, ()) (aH ⟨#[97]⟩)).getD (0 : Int)) = (0 : Int)))) && (decide (((gX F (r_3.1, r_3.2.1, r_3.2.2.1, r_3.2.2.2.1, r_3.2.2.2.2.1, r_3.2.2.2.2.2.1, r_3.2.2.2.2.2.2.1, r_3.2.2.2.2.2.2.2.1, r_3.2.2.2.2.2.2.2.2.1, r_3.2.2.2.2.2.2.2.2.2.1, ()) (aH ⟨#[98]⟩)).getD (0 : Int)) = (-1 : Int)))) && ((hZ F (Ex.mk (2 : Int) (aH ⟨#[120]⟩) ([] : List Ex)) ([(aH ⟨#[120]⟩)] : List (List Nat))).getD false)))))))))))))))))))
def xY : Ty := .unit
attribute [go_sem] xY
noncomputable def vP (F : Md) : aG := mSpec xY (.one .bool) (fun x => pT F )
noncomputable def mE (F : Md) : List (FuncId × aG) := [(25, (gL F)), (27, (mV F)), (28, (pQ F)), (29, (nV F)), (61, (vO F)), (62, (nZ F))]
theorem aGa (F : Md) : bD Tryz.prog GL (mE F) := .cons (uZ F) (by kernel_rfl) (.cons (aDh F) (by kernel_rfl) (.cons (aF7 F) (by kernel_rfl) (.cons (aDV F) (by kernel_rfl) (.cons (aKM F) (by kernel_rfl) (.cons (aD7 F) (by kernel_rfl) (.nil))))))
theorem aIv (F : Md) : gam (mE F) 25 = some (gL F) := rfl
attribute [go_sem] aIv
theorem aIw (F : Md) : gam (mE F) 27 = some (mV F) := rfl
attribute [go_sem] aIw
theorem aIx (F : Md) : gam (mE F) 28 = some (pQ F) := rfl
attribute [go_sem] aIx
theorem aIy (F : Md) : gam (mE F) 29 = some (nV F) := rfl
attribute [go_sem] aIy
theorem aIz (F : Md) : gam (mE F) 61 = some (vO F) := rfl
attribute [go_sem] aIz
theorem aIA (F : Md) : gam (mE F) 62 = some (nZ F) := rfl
attribute [go_sem] aIA
set_option maxHeartbeats 4000000 in
theorem aKP (F : Md) : FOK Tryz.prog GL 24 (vP F) := by
 refine lU (aLl (aGa F)) Tryz.func24 rfl (by kernel_rfl) (by decide) fun w0 S x r hw h => ?_
 have hF : jP (fr Tryz.prog (EX (mE F)) S w0 Tryz.f24.ntmps) := ⟨aLl (aGa F), mix⟩
 simp only [xY, Ty.wf, nA] at hw
 simp only [bL, xY]
 try dsimp only at h
 replace h : pT F = some r := h
 unfold pT at h
 refine aB (aD hF [] ?_)
 simp only [go_sem]
 repeat (refine ⟨zAA, ?_⟩)
 obtain ⟨r_3, he1, h⟩ := bind_some h
 try dsimp only at h
 refine aC (aB (bT hF (eC (l := [(27, ⟨gZ F, [], r_3⟩)]) (.cons (qD F) (by kernel_rfl) (.nil))) [1] [] ?_))
 simp only [go_sem]
 repeat (refine ⟨zAA, ?_⟩)
 obtain ⟨r_5, he2, h⟩ := bind_some h
 try dsimp only at h
 refine aC (aB (bT hF (eC (l := [(27, ⟨gZ F, [], r_5⟩)]) (.cons (qD F) (by kernel_rfl) (.nil))) [1, 2] [] ?_))
 simp only [go_sem]
 repeat (refine ⟨zAA, ?_⟩)
 obtain ⟨go, h⟩ := aT h
 refine aC (aB (aP9 3 (0 : Nat) rfl go rfl ?_))
 simp only [go_sem]
 refine aO hF [1, 2] ?_
 simp only [go_sem]
 obtain ⟨g0, h⟩ := aT h
 repeat (refine ⟨zAA, ?_⟩)
 obtain ⟨g0, h⟩ := aT h
 repeat (refine ⟨zAA, ?_⟩)
 refine aP8 3 ((r_5.2.2.2.2.2.2.2.2.1.getD (0 : Nat) ([], [], [], [], [], ())).1, ((r_5.2.2.2.2.2.2.2.2.1.getD (0 : Nat) ([], [], [], [], [], ())).2.1.set (0 : Nat) (((r_5.2.2.2.2.2.2.2.2.1.getD (0 : Nat) ([], [], [], [], [], ())).2.1.getD (0 : Nat) ([], ([], [], ()), (Ex.mk 0 [] []), ())).1, ((r_5.2.2.2.2.2.2.2.2.1.getD (0 : Nat) ([], [], [], [], [], ())).2.1.getD (0 : Nat) ([], ([], [], ()), (Ex.mk 0 [] []), ())).2.1, (Ex.mk ((r_5.2.2.2.2.2.2.2.2.1.getD (0 : Nat) ([], [], [], [], [], ())).2.1.getD (0 : Nat) ([], ([], [], ()), (Ex.mk 0 [] []), ())).2.2.1.kind (aH ⟨#[122]⟩) ((r_5.2.2.2.2.2.2.2.2.1.getD (0 : Nat) ([], [], [], [], [], ())).2.1.getD (0 : Nat) ([], ([], [], ()), (Ex.mk 0 [] []), ())).2.2.1.l), ())), (r_5.2.2.2.2.2.2.2.2.1.getD (0 : Nat) ([], [], [], [], [], ())).2.2.1, (r_5.2.2.2.2.2.2.2.2.1.getD (0 : Nat) ([], [], [], [], [], ())).2.2.2.1, (r_5.2.2.2.2.2.2.2.2.1.getD (0 : Nat) ([], [], [], [], [], ())).2.2.2.2.1, ()) [6, 7, 8, 9] rfl (by first | rfl | (simp only [go_sem]; done)) rfl rfl ?_
 simp only [go_sem]
 refine aC (aB (aD hF [0] ?_))
 simp only [go_sem]
 obtain ⟨g0, h⟩ := aT h
 obtain ⟨g1, h⟩ := aT h
 obtain ⟨g2, h⟩ := aT h
 obtain ⟨g3, h⟩ := aT h
 obtain ⟨g4, h⟩ := aT h
 obtain ⟨g5, h⟩ := aT h
 obtain ⟨g6, h⟩ := aT h
 obtain ⟨g7, h⟩ := aT h
 obtain ⟨g8, h⟩ := aT h
 obtain ⟨g9, h⟩ := aT h
 obtain ⟨g10, h⟩ := aT h
 obtain ⟨g11, h⟩ := aT h
 repeat (refine ⟨by first | with_reducible assumption | omega | (intros; first | with_reducible assumption | omega) | (simp only [go_sem] at *; first | with_reducible assumption | omega) | (intro _; exact ⟨rfl, by decide⟩) | (intro _; refine (?_ : _ = aX _); rfl) | exact ⟨rfl, rfl⟩ | (intro q0; (try have e1 := g1 zAC); (try have e2 := g2 zAC); (try have e3 := g3 zAC); (try have e4 := g4 zAC); (try have e5 := g5 zAC); (try have e6 := g6 zAC); (try have e7 := g7 zAC); (try have e8 := g8 zAC); (try have e9 := g9 zAC); (try have e10 := g10 zAC); (try have e11 := g11 zAC); first | assumption | omega) | decide, ?_⟩)
 obtain rfl := Option.some.inj h
 refine aC (dB (fC hF [.tmp 0] rfl rfl rfl ?_))
 exact zAG
attribute [go_sem] vP
end Nu
end Go.Proofs
