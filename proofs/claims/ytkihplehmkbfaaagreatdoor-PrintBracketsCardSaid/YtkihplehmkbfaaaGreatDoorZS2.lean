import Derived.Test.YtkihplehmkbfaaaGreatDoorZS1
import Derived.Test.YtkihplehmkbfaaaGreatDoorZL6
import Derived.Shelf.Strconv.Itoa2
import Derived.Shelf.Strings.OnBuilder
set_option linter.unusedVariables false
set_option linter.unusedSimpArgs false
namespace Go.Proofs
open Go.Vc
set_option maxRecDepth 20000
namespace Nu
noncomputable def mI (F : Md) (l_8 : (List (Bool × ((List Nat) × (Int × Unit))))) : Option (Bool) :=
 ck ((2 : Int) < (((l_8.length) : Nat) : Int)) (ck ((1 : Int) < (((l_8.length) : Nat) : Int)) ((tO F (l_8.getD (2 : Nat) (false, [], 0, ())) (l_8.getD (1 : Nat) (false, [], 0, ()))).bind (fun v_14 => ck ((v_14 ≤ (0 : Int)) → ((0 : Int) < (((l_8.length) : Nat) : Int))) (ck ((v_14 ≤ (0 : Int)) → ((1 : Int) < (((l_8.length) : Nat) : Int))) (ck ((v_14 ≤ (0 : Int)) → ((gP F (l_8.getD (0 : Nat) (false, [], 0, ())) (l_8.getD (1 : Nat) (false, [], 0, ())) (256 : Int)).isSome = true)) (ck (((v_14 ≤ (0 : Int)) ∧ (((gP F (l_8.getD (0 : Nat) (false, [], 0, ())) (l_8.getD (1 : Nat) (false, [], 0, ())) (256 : Int)).getD false) = true)) → ((1 : Int) < (((l_8.length) : Nat) : Int))) (ck (((v_14 ≤ (0 : Int)) ∧ (((gP F (l_8.getD (0 : Nat) (false, [], 0, ())) (l_8.getD (1 : Nat) (false, [], 0, ())) (256 : Int)).getD false) = true)) → ((2 : Int) < (((l_8.length) : Nat) : Int))) (ck (((v_14 ≤ (0 : Int)) ∧ (((gP F (l_8.getD (0 : Nat) (false, [], 0, ())) (l_8.getD (1 : Nat) (false, [], 0, ())) (256 : Int)).getD false) = true)) → ((gP F (l_8.getD (1 : Nat) (false, [], 0, ())) (l_8.getD (2 : Nat) (false, [], 0, ())) (4096 : Int)).isSome = true)) (some (((decide (v_14 ≤ (0 : Int))) && ((gP F (l_8.getD (0 : Nat) (false, [], 0, ())) (l_8.getD (1 : Nat) (false, [], 0, ())) (256 : Int)).getD false)) && ((gP F (l_8.getD (1 : Nat) (false, [], 0, ())) (l_8.getD (2 : Nat) (false, [], 0, ())) (4096 : Int)).getD false)))))))))))
noncomputable def qL (F : Md) (s_0 : (Int × (Int × (Int × (Int × ((List Nat) × ((List Nat) × ((List Nat) × ((List Nat) × ((List ((List Nat) × ((List ((List Nat) × (((List Nat) × ((List Nat) × Unit)) × (Ex × Unit)))) × ((List ((List Nat) × (((List Nat) × ((List Nat) × Unit)) × Unit))) × ((List (List Nat)) × ((List ((List Nat) × (Ex × Unit))) × Unit)))))) × ((List ((List Nat) × ((List Nat) × ((List Nat) × ((List Nat) × Unit))))) × Unit))))))))))) (x56_16 : Int) (l_17 : (List (Bool × ((List Nat) × (Int × Unit))))) : Option ((Int × (List (Bool × ((List Nat) × (Int × Unit))))) ⊕ ((List (Bool × ((List Nat) × (Int × Unit)))) ⊕ Bool)) :=
 if x56_16 < (4 : Int) then ck (0 ≤ x56_16 ∧ x56_16 < (4 : Int)) ((zP F (([s_0.2.2.2.2.1, s_0.2.2.2.2.2.1, s_0.2.2.2.2.2.2.1, s_0.2.2.2.2.2.2.2.1] : List (List Nat)).getD (x56_16.toNat) ([] : List Nat))).bind (fun v_24 => ck (¬ (¬ (v_24.2.1 = (0 : Int))) → ((nQ F v_24.1).isSome = true)) (if (¬ (v_24.2.1 = (0 : Int))) ∨ (((nQ F v_24.1).getD (0 : Int)) ≤ (0 : Int)) then some (.inr (.inr false)) else ck (((l_17.length) + (1 : Nat)) * 73 ≤ 140737488355328) (ck (I64 (x56_16 + (1 : Int))) (some (.inl ((x56_16 + (1 : Int)), (l_17 ++ ([v_24.1] : List (Bool × ((List Nat) × (Int × Unit)))))))))))) else some (.inr (.inl l_17))
noncomputable def pX (F : Md) (s_0 : (Int × (Int × (Int × (Int × ((List Nat) × ((List Nat) × ((List Nat) × ((List Nat) × ((List ((List Nat) × ((List ((List Nat) × (((List Nat) × ((List Nat) × Unit)) × (Ex × Unit)))) × ((List ((List Nat) × (((List Nat) × ((List Nat) × Unit)) × Unit))) × ((List (List Nat)) × ((List ((List Nat) × (Ex × Unit))) × Unit)))))) × ((List ((List Nat) × ((List Nat) × ((List Nat) × ((List Nat) × Unit))))) × Unit))))))))))) : Option Bool :=
 if ((((((s_0.1 < (8 : Int)) ∨ ((200 : Int) < s_0.1)) ∨ (s_0.2.1 < (1 : Int))) ∨ ((20 : Int) < s_0.2.1)) ∨ (s_0.2.2.1 < (0 : Int))) ∨ ((3 : Int) < s_0.2.2.1)) ∨ ((¬ (s_0.2.2.2.1 = (1 : Int))) ∧ (¬ (s_0.2.2.2.1 = (2 : Int)))) then some false else (cW F (fun d : Int × (List (Bool × ((List Nat) × (Int × Unit)))) => qL F s_0 d.1 d.2) ((0 : Int), ([] : List (Bool × ((List Nat) × (Int × Unit)))))).bind (fun e => match e with | (.inl e) => mI F e | (.inr e) => some e)
def aAR : PlR := ⟨[(0, .B [1]), (1, .A [1, 45]), (2, .A [2]), (3, .A [1, 3]), (4, .A [3, 54, 55, 56]), (5, .A [3, 54, 55, 56, 57]), (6, .A [3, 5, 54, 55, 56]), (7, .B [3, 6, 7, 54, 55, 56]), (8, .A [3, 6, 54, 55, 56, 71]), (9, .A [2]), (10, .B [3, 54, 55, 56]), (11, .A [3, 54, 55, 56]), (12, .A [2])], [(7, 15)]⟩
def aBQ : Ty := .pair (.pair (.i .i64) (.pair (.i .i64) (.pair (.i .i64) (.pair (.i .i64) (.pair .str (.pair .str (.pair .str (.pair .str (.pair (.sl (.pair .str (.pair (.sl (.pair .str (.pair (.pair .str (.pair .str .unit)) (.pair .expr .unit)))) (.pair (.sl (.pair .str (.pair (.pair .str (.pair .str .unit)) .unit))) (.pair (.sl .str) (.pair (.sl (.pair .str (.pair .expr .unit))) .unit)))))) (.pair (.sl (.pair .str (.pair .str (.pair .str (.pair .str .unit))))) .unit)))))))))) .unit
noncomputable def oD (F : Md) : aG := mSpec aBQ (.one .bool) (fun x => pX F x.1)
noncomputable def mR (F : Md) : List (FuncId × aG) := [(133, (xB F)), (134, (uI F)), (22, (qU F)), (57, (nZ F))]
theorem aIg (F : Md) : bC Tryz.prog GL (mR F) := .cons (aMa F) (by kernel_rfl) (.cons (aKG F) (by kernel_rfl) (.cons (aHw F) (by kernel_rfl) (.cons (aFq F) (by kernel_rfl) (.nil))))
theorem aDp (F : Md) : gam (mR F) 133 = some (xB F) := rfl
theorem aDq (F : Md) : gam (mR F) 134 = some (uI F) := rfl
theorem aEn (F : Md) : gam (mR F) 22 = some (qU F) := rfl
theorem aEo (F : Md) : gam (mR F) 57 = some (nZ F) := rfl
attribute [go_sem] aBQ aAR aDp aDq aEn aEo
set_option maxHeartbeats 4000000 in
theorem aGD (F : Md) : FOK Tryz.prog GL 66 (oD F) := by
 refine bG (aW (aIg F)) mix Tryz.func66 rfl (by kernel_rfl) (by decide) aAR fun w0 S x Θ hw h hF => ?_
 obtain ⟨(s_0 : (Int × (Int × (Int × (Int × ((List Nat) × ((List Nat) × ((List Nat) × ((List Nat) × ((List ((List Nat) × ((List ((List Nat) × (((List Nat) × ((List Nat) × Unit)) × (Ex × Unit)))) × ((List ((List Nat) × (((List Nat) × ((List Nat) × Unit)) × Unit))) × ((List (List Nat)) × ((List ((List Nat) × (Ex × Unit))) × Unit)))))) × ((List ((List Nat) × ((List Nat) × ((List Nat) × ((List Nat) × Unit))))) × Unit))))))))))), u⟩ := x
 simp only [bH, go_sem]
 replace h : sat (pX F s_0) _ := h
 unfold pX at h
 refine ⟨fun hc => ?_, fun hc => ?_⟩
 ·replace h := hP hc h
  exact aF hF [.tmp 2] rfl rfl rfl (aA h) (by simp only [aT, go_sem])
 ·replace h := hU hc h
  refine dH hF (D := (List (Bool × ((List Nat) × (Int × Unit))))) (fun d => sat (mI F d) Θ) [] (fun d => [(3, .own 0)]) (fun d => [.inr (.row 25 (.pair .bool (.pair (.sl (.u .u64)) (.pair (.i .i64) .unit))) d)]) ?_ ?_
  ·simp only [go_sem]
   refine aBh 3 25 (.pair .bool (.pair (.sl (.u .u64)) (.pair (.i .i64) .unit))) rfl ?_
   simp only [go_sem]
   refine wL [1] rfl rfl ?_
   simp only [go_sem]
   refine cB hF (D := Int × (List (Bool × ((List Nat) × (Int × Unit))))) [55] (fun d => [(3, .own 0), (54, .val (.sl .str) ([s_0.2.2.2.2.1, s_0.2.2.2.2.2.1, s_0.2.2.2.2.2.2.1, s_0.2.2.2.2.2.2.2.1] : List (List Nat))), (56, .val (.i .i64) d.1)]) (fun d => [.inr (.row 25 (.pair .bool (.pair (.sl (.u .u64)) (.pair (.i .i64) .unit))) d.2)]) h rfl (by (try simp only [eY, dL, true_or, and_self, go_sem]) <;> (repeat' apply And.intro) <;> first | rfl | (left; rfl) | (right; rfl) | (left; simp only [go_sem]; done) | (right; simp only [go_sem]; done) | (simp; done) | (simp only [*]; done) | omega) ?_
   rintro ⟨x56_16, l_17⟩ A5 T5 hA5 hE5 h
   simp only [go_sem]
   replace h : sat (qL F s_0 x56_16 l_17) _ := h
   unfold qL at h
   refine fF h (fun hc h => ?_) fun hc h => ?_
   ·obtain ⟨g0, h⟩ := aM h
    repeat (refine ⟨zAA, ?_⟩)
    obtain ⟨v_24, hv, h⟩ := aH h
    try simp only [hv, go_sem]
    obtain ⟨g0, h⟩ := aM h
    repeat (refine ⟨zAF, ?_⟩)
    refine ⟨fun hc => ?_, fun hc => ?_⟩
    ·replace h := hP zAB h
     replace h := hE5 _ (aA h)
     try dsimp only at h
     exact aF hF [.tmp 2] rfl rfl rfl (aA h) (by simp only [aT, go_sem])
    ·replace h := hU zAB h
     obtain ⟨g0, h⟩ := aM h
     repeat (refine ⟨zAA, ?_⟩)
     obtain ⟨g0, h⟩ := aM h
     try simp only [I64, I32] at g0
     repeat (refine ⟨zAA, ?_⟩)
     replace h := hA5 _ (aA h)
     refine fZ [2] rfl rfl ?_
     simp only [go_sem]
     exact aQ _ h rfl (by simp only [go_sem])
   ·replace h := hE5 _ (aA h)
    try dsimp only at h
    exact aQ (l_17) h rfl (by simp only [go_sem])
  ·rintro l_8 h
   simp only [go_sem]
   replace h : sat (mI F l_8) _ := h
   unfold mI at h
   obtain ⟨g0, h⟩ := aM h
   obtain ⟨g1, h⟩ := aM h
   repeat (refine ⟨zAA, ?_⟩)
   obtain ⟨v_14, hv, h⟩ := aH h
   try simp only [hv, go_sem]
   obtain ⟨g0, h⟩ := aM h
   obtain ⟨g1, h⟩ := aM h
   obtain ⟨g2, h⟩ := aM h
   obtain ⟨g3, h⟩ := aM h
   obtain ⟨g4, h⟩ := aM h
   obtain ⟨g5, h⟩ := aM h
   repeat (refine ⟨by first | with_reducible assumption | omega | (intros; first | with_reducible assumption | omega) | (simp only [go_sem] at *; first | with_reducible assumption | omega) | (intro _; exact ⟨rfl, by decide⟩) | (intro _; refine (?_ : _ = aV _); rfl) | exact ⟨rfl, rfl⟩ | (intro q0; (try have e0 := g0 zAD); (try have e1 := g1 zAD); (try have e2 := g2 zAD); (try have e3 := g3 zAD); (try have e4 := g4 zAD); (try have e5 := g5 zAD); first | assumption | omega) | decide, ?_⟩)
   exact aF hF [.tmp 2] rfl rfl rfl (aA h) (by simp only [aT, go_sem])
attribute [go_sem] oD
noncomputable def oE (F : Md) (x_6 : (List (List Nat))) (s_0 : ((List Nat) × ((List ((List Nat) × (((List Nat) × ((List Nat) × Unit)) × (Ex × Unit)))) × ((List ((List Nat) × (((List Nat) × ((List Nat) × Unit)) × Unit))) × ((List (List Nat)) × ((List ((List Nat) × (Ex × Unit))) × Unit)))))) (p_11 : (List (List Nat))) : Option ((List (List Nat)) × ((List (List Nat)) × ((List (List Nat)) × Unit))) :=
 some (x_6, p_11, s_0.2.2.2.1, ())
noncomputable def tP (F : Md) (s_0 : ((List Nat) × ((List ((List Nat) × (((List Nat) × ((List Nat) × Unit)) × (Ex × Unit)))) × ((List ((List Nat) × (((List Nat) × ((List Nat) × Unit)) × Unit))) × ((List (List Nat)) × ((List ((List Nat) × (Ex × Unit))) × Unit)))))) (x25_12 : Int) (p_13 : (List (List Nat))) : Option ((Int × (List (List Nat))) ⊕ (List (List Nat))) :=
 if x25_12 < (((s_0.2.2.1.length) : Nat) : Int) then ck (0 ≤ x25_12 ∧ x25_12 < (((s_0.2.2.1.length) : Nat) : Int)) (ck (((p_13.length) + (1 : Nat)) * 16 ≤ 140737488355328) (ck (I64 (x25_12 + (1 : Int))) (some (.inl ((x25_12 + (1 : Int)), (p_13 ++ ([(s_0.2.2.1.getD (x25_12.toNat) ([], ([], [], ()), ())).1] : List (List Nat)))))))) else some (.inr p_13)
noncomputable def oF (F : Md) (s_0 : ((List Nat) × ((List ((List Nat) × (((List Nat) × ((List Nat) × Unit)) × (Ex × Unit)))) × ((List ((List Nat) × (((List Nat) × ((List Nat) × Unit)) × Unit))) × ((List (List Nat)) × ((List ((List Nat) × (Ex × Unit))) × Unit)))))) (x_6 : (List (List Nat))) : Option ((List (List Nat)) × ((List (List Nat)) × ((List (List Nat)) × Unit))) :=
 (cW F (fun d : Int × (List (List Nat)) => tP F s_0 d.1 d.2) ((0 : Int), ([] : List (List Nat)))).bind (fun e => oE F x_6 s_0 e)
noncomputable def tQ (F : Md) (s_0 : ((List Nat) × ((List ((List Nat) × (((List Nat) × ((List Nat) × Unit)) × (Ex × Unit)))) × ((List ((List Nat) × (((List Nat) × ((List Nat) × Unit)) × Unit))) × ((List (List Nat)) × ((List ((List Nat) × (Ex × Unit))) × Unit)))))) (x12_17 : Int) (x_18 : (List (List Nat))) : Option ((Int × (List (List Nat))) ⊕ (List (List Nat))) :=
 if x12_17 < (((s_0.2.1.length) : Nat) : Int) then ck (0 ≤ x12_17 ∧ x12_17 < (((s_0.2.1.length) : Nat) : Int)) (ck (((x_18.length) + (1 : Nat)) * 16 ≤ 140737488355328) (ck (I64 (x12_17 + (1 : Int))) (some (.inl ((x12_17 + (1 : Int)), (x_18 ++ ([(s_0.2.1.getD (x12_17.toNat) ([], ([], [], ()), (Ex.mk 0 [] []), ())).1] : List (List Nat)))))))) else some (.inr x_18)
noncomputable def aR (F : Md) (s_0 : ((List Nat) × ((List ((List Nat) × (((List Nat) × ((List Nat) × Unit)) × (Ex × Unit)))) × ((List ((List Nat) × (((List Nat) × ((List Nat) × Unit)) × Unit))) × ((List (List Nat)) × ((List ((List Nat) × (Ex × Unit))) × Unit)))))) : Option ((List (List Nat)) × ((List (List Nat)) × ((List (List Nat)) × Unit))) :=
 (cW F (fun d : Int × (List (List Nat)) => tQ F s_0 d.1 d.2) ((0 : Int), ([] : List (List Nat)))).bind (fun e => oF F s_0 e)
def aCM : PlR := ⟨[(0, .B [1, 2, 3]), (1, .A [1, 2, 3, 10, 11, 12]), (2, .A [1, 2, 3, 10, 11, 12, 13]), (3, .B [1, 2, 3, 6, 10, 11, 12]), (4, .B [1, 2, 3, 10, 11, 12]), (5, .A [1, 2, 3, 10, 11, 12]), (6, .A [1, 2, 3, 23, 24, 25]), (7, .A [1, 2, 3, 23, 24, 25, 26]), (8, .B [1, 2, 3, 8, 23, 24, 25]), (9, .B [1, 2, 3, 23, 24, 25]), (10, .A [1, 2, 3, 23, 24, 25]), (11, .A [2, 3, 4])], [(4, 9), (9, 14)]⟩
def aDO : Ty := .pair (.pair .str (.pair (.sl (.pair .str (.pair (.pair .str (.pair .str .unit)) (.pair .expr .unit)))) (.pair (.sl (.pair .str (.pair (.pair .str (.pair .str .unit)) .unit))) (.pair (.sl .str) (.pair (.sl (.pair .str (.pair .expr .unit))) .unit))))) .unit
noncomputable def sA (F : Md) : aG := mSpec aDO (.tup (.pair (.sl .str) (.pair (.sl .str) (.pair (.sl .str) .unit)))) (fun x => aR F x.1)
noncomputable def aKH (F : Md) : List (FuncId × aG) := []
theorem aKI (F : Md) : bC Tryz.prog GL (aKH F) := .nil
attribute [go_sem] aDO aCM
set_option maxHeartbeats 4000000 in
theorem aJ3 (F : Md) : FOK Tryz.prog GL 135 (sA F) := by
 refine bG (aW (aKI F)) mix Tryz.func135 rfl (by kernel_rfl) (by decide) aCM fun w0 S x Θ hw h hF => ?_
 obtain ⟨(s_0 : ((List Nat) × ((List ((List Nat) × (((List Nat) × ((List Nat) × Unit)) × (Ex × Unit)))) × ((List ((List Nat) × (((List Nat) × ((List Nat) × Unit)) × Unit))) × ((List (List Nat)) × ((List ((List Nat) × (Ex × Unit))) × Unit)))))), u⟩ := x
 simp only [bH, go_sem]
 replace h : sat (aR F s_0) _ := h
 unfold aR at h
 refine dH hF (D := (List (List Nat))) (fun d => sat (oF F s_0 d) Θ) [3] (fun d => [(1, .ptr 0 []), (2, .own 1)]) (fun d => [.inr (.box 5 (.val (.pair .str (.pair (.sl (.pair .str (.pair (.pair .str (.pair .str .unit)) (.pair .expr .unit)))) (.pair (.sl (.pair .str (.pair (.pair .str (.pair .str .unit)) .unit))) (.pair (.sl .str) (.pair (.sl (.pair .str (.pair .expr .unit))) .unit))))) s_0)), .inr (.row 9 .str d)]) ?_ ?_
 ·simp only [go_sem]
  refine aBh 2 9 .str rfl ?_
  simp only [go_sem]
  refine cB hF (D := Int × (List (List Nat))) [3, 10, 11] (fun d => [(1, .ptr 0 []), (2, .own 1), (12, .val (.i .i64) d.1)]) (fun d => [.inr (.box 5 (.val (.pair .str (.pair (.sl (.pair .str (.pair (.pair .str (.pair .str .unit)) (.pair .expr .unit)))) (.pair (.sl (.pair .str (.pair (.pair .str (.pair .str .unit)) .unit))) (.pair (.sl .str) (.pair (.sl (.pair .str (.pair .expr .unit))) .unit))))) s_0)), .inr (.row 9 .str d.2)]) h rfl (by simp only [go_sem]) ?_
  rintro ⟨x12_17, x_18⟩ A2 T2 hA2 hE2 h
  simp only [go_sem]
  replace h : sat (tQ F s_0 x12_17 x_18) _ := h
  unfold tQ at h
  refine fF h (fun hc h => ?_) fun hc h => ?_
  ·obtain ⟨g0, h⟩ := aM h
   repeat (refine ⟨by omega, ?_⟩)
   obtain ⟨g0, h⟩ := aM h
   repeat (refine ⟨by omega, ?_⟩)
   refine aP h fun g0 h => ?_
   replace h := hA2 _ (aA h)
   refine fZ [0, 3] rfl rfl ?_
   simp only [go_sem]
   exact aQ _ h rfl (by simp only [go_sem])
  ·replace h := hE2 _ (aA h)
   try dsimp only at h
   exact aQ (x_18) h rfl (by simp only [go_sem])
 ·rintro x_6 h
  simp only [go_sem]
  replace h : sat (oF F s_0 x_6) _ := h
  unfold oF at h
  refine dH hF (D := (List (List Nat))) (fun d => sat (oE F x_6 s_0 d) Θ) [] (fun d => [(1, .ptr 0 []), (2, .own 1), (3, .own 2)]) (fun d => [.inr (.box 5 (.val (.pair .str (.pair (.sl (.pair .str (.pair (.pair .str (.pair .str .unit)) (.pair .expr .unit)))) (.pair (.sl (.pair .str (.pair (.pair .str (.pair .str .unit)) .unit))) (.pair (.sl .str) (.pair (.sl (.pair .str (.pair .expr .unit))) .unit))))) s_0)), .inr (.row 9 .str x_6), .inr (.row 9 .str d)]) ?_ ?_
  ·simp only [go_sem]
   refine aBh 3 9 .str rfl ?_
   simp only [go_sem]
   refine cB hF (D := Int × (List (List Nat))) [23, 24] (fun d => [(1, .ptr 0 []), (2, .own 1), (3, .own 2), (25, .val (.i .i64) d.1)]) (fun d => [.inr (.box 5 (.val (.pair .str (.pair (.sl (.pair .str (.pair (.pair .str (.pair .str .unit)) (.pair .expr .unit)))) (.pair (.sl (.pair .str (.pair (.pair .str (.pair .str .unit)) .unit))) (.pair (.sl .str) (.pair (.sl (.pair .str (.pair .expr .unit))) .unit))))) s_0)), .inr (.row 9 .str x_6), .inr (.row 9 .str d.2)]) h rfl (by simp only [go_sem]) ?_
   rintro ⟨x25_12, p_13⟩ A7 T7 hA7 hE7 h
   simp only [go_sem]
   replace h : sat (tP F s_0 x25_12 p_13) _ := h
   unfold tP at h
   refine fF h (fun hc h => ?_) fun hc h => ?_
   ·obtain ⟨g0, h⟩ := aM h
    repeat (refine ⟨by omega, ?_⟩)
    obtain ⟨g0, h⟩ := aM h
    repeat (refine ⟨by omega, ?_⟩)
    refine aP h fun g0 h => ?_
    replace h := hA7 _ (aA h)
    refine fZ [0, 1, 4] rfl rfl ?_
    simp only [go_sem]
    exact aQ _ h rfl (by simp only [go_sem])
   ·replace h := hE7 _ (aA h)
    try dsimp only at h
    exact aQ (p_13) h rfl (by simp only [go_sem])
  ·rintro p_11 h
   simp only [go_sem]
   replace h : sat (oE F x_6 s_0 p_11) _ := h
   unfold oE at h
   exact aF hF [.tmp 2, .tmp 3, .tmp 4] rfl rfl rfl (aA h) (by simp only [aT, go_sem])
attribute [go_sem] sA
noncomputable def nT (F : Md) (slices_0 : (List (List (List Nat)))) (x27_13 : Int) (newslice_14 : (List (List Nat))) : Option ((Int × (List (List Nat))) ⊕ (List (List Nat))) :=
 if x27_13 < (((slices_0.length) : Nat) : Int) then ck (0 ≤ x27_13 ∧ x27_13 < (((slices_0.length) : Nat) : Int)) (ck (((newslice_14.length) + (slices_0.getD (x27_13.toNat) ([] : List (List Nat))).length) * 16 ≤ 140737488355328) (ck (I64 (x27_13 + (1 : Int))) (some (.inl ((x27_13 + (1 : Int)), (newslice_14 ++ (slices_0.getD (x27_13.toNat) ([] : List (List Nat))))))))) else some (.inr newslice_14)
noncomputable def kM (F : Md) (slices_0 : (List (List (List Nat)))) (size_6 : Int) : Option (List (List Nat)) :=
 (kW F size_6).bind (fun r_8 => (cW F (fun d : Int × (List (List Nat)) => nT F slices_0 d.1 d.2) ((0 : Int), r_8)).bind (fun e => some e))
noncomputable def oS (F : Md) (slices_0 : (List (List (List Nat)))) (size_18 : Int) (x11_19 : Int) : Option ((Int × Int) ⊕ (Int)) :=
 if x11_19 < (((slices_0.length) : Nat) : Int) then ck (0 ≤ x11_19 ∧ x11_19 < (((slices_0.length) : Nat) : Int)) (ck (I64 (size_18 + (((slices_0.getD (x11_19.toNat) ([] : List (List Nat))).length : Nat) : Int))) (if (size_18 + (((slices_0.getD (x11_19.toNat) ([] : List (List Nat))).length : Nat) : Int)) < (0 : Int) then none else ck (I64 (x11_19 + (1 : Int))) (some (.inl ((size_18 + (((slices_0.getD (x11_19.toNat) ([] : List (List Nat))).length : Nat) : Int)), (x11_19 + (1 : Int))))))) else some (.inr size_18)
noncomputable def bF (F : Md) (slices_0 : (List (List (List Nat)))) : Option (List (List Nat)) :=
 (cW F (fun d : Int × Int => oS F slices_0 d.1 d.2) ((0 : Int), (0 : Int))).bind (fun e => kM F slices_0 e)
def jC : Ty := .pair (.sl (.sl .str)) .unit
attribute [go_sem] jC
noncomputable def iF (F : Md) : aG := mSpec jC (.one (.sl .str)) (fun x => bF F x.1)
noncomputable def sB (F : Md) : List (FuncId × aG) := []
theorem sC (F : Md) : bC Tryz.prog GL (sB F) := .nil
set_option maxHeartbeats 4000000 in
theorem aAS (F : Md) : FOK Tryz.prog GL 136 (iF F) := by
 refine kN (aW (sC F)) Tryz.func136 rfl (by kernel_rfl) (by decide) fun w0 S x r hw h => ?_
 have hF : iQ (fr Tryz.prog (EM (sB F)) S w0 Tryz.f136.ntmps) := ⟨aW (sC F), mix⟩
 obtain ⟨(slices_0 : (List (List (List Nat)))), u⟩ := x
 simp only [jC, Ty.wf, lO] at hw
 simp only [bH, jC]
 try dsimp only at h
 replace h : bF F slices_0 = some r := h
 unfold bF at h
 refine aB (aD hF [0] ?_)
 simp only [go_sem]
 refine aC (aB (aD hF [0, 3] ?_))
 simp only [go_sem]
 refine aC (eZ (D := Int) (fun d => kM F slices_0 d = some r) [0] (fun d => [(3, .val (.i .i64) d)]) (fun d => []) ?_ ?_)
 ·refine aB (aD hF [0, 3, 9, 10, 11] ?_)
  simp only [go_sem]
  refine aC (cJ (jL (D := Int × Int) [0, 9, 10] (fun d => [(3, .val (.i .i64) d.1), (11, .val (.i .i64) d.2)]) (fun d => []) h ?_ ?_ ?_))
  ·first | rfl | (simp only [go_sem]; done)
  ·exact zAG
  rintro ⟨size_18, x11_19⟩ s3 h hs3
  simp only [go_sem]
  try dsimp only at h
  unfold oS at h
  refine aB (aD hF [0, 3, 9, 10, 11, 12] ?_)
  simp only [go_sem]
  refine aC (aB (bD rfl (fun hc => ?_) (fun hc => ?_)))
  ·try simp only [go_sem] at hc
   have h := dP zAB h
   refine bL (aC (aB (cJ (aB (aD hF [0, 3, 5, 9, 10, 11] ?_)))))
   simp only [go_sem]
   obtain ⟨g0, h⟩ := aJ h
   repeat (refine ⟨zAA, ?_⟩)
   refine aC (aB (aD hF [0, 3, 9, 10, 11] ?_))
   simp only [go_sem]
   obtain ⟨g0, h⟩ := aJ h
   try simp only [I64, I32] at g0
   repeat (refine ⟨zAA, ?_⟩)
   refine aC (aB (aD hF [0, 3, 9, 10, 11, 20] ?_))
   simp only [go_sem]
   refine aC (bD rfl (fun hc => ?_) (fun hc => ?_))
   ·try simp only [go_sem] at hc
    have h := dP zAB h
    cases h
   ·try simp only [go_sem] at hc
    have h := dQ zAB h
    refine bL (dE (aC (aD hF [0, 3, 9, 10, 11] ?_)))
    simp only [go_sem]
    obtain ⟨g0, h⟩ := aJ h
    try simp only [I64, I32] at g0
    repeat (refine ⟨zAA, ?_⟩)
    obtain rfl := Option.some.inj h
    dsimp only [kI] at hs3
    refine aS (aQ ((size_18 + (((slices_0.getD (x11_19.toNat) ([] : List (List Nat))).length : Nat) : Int)), (x11_19 + (1 : Int))) hs3 rfl ?_)
    ·exact zAG
  ·try simp only [go_sem] at hc
   have h := dQ zAB h
   obtain rfl := Option.some.inj h
   dsimp only [kI] at hs3
   have h := hs3
   try dsimp only at h
   refine kT (bM (bM (cX (aS (aQ (size_18) h rfl ?_)))))
   ·exact zAG
 ·rintro size_6 h
  try dsimp only at h
  simp only [go_sem]
  unfold kM at h
  obtain ⟨r_8, he1, h⟩ := bind_some h
  try dsimp only at h
  refine aB (aX hF (bS (l := [(202, ⟨fA F, [], (size_6, r_8)⟩)]) (.cons (aB9 F) (by kernel_rfl) (.nil))) [0, 6] [] ?_)
  simp only [go_sem]
  repeat (refine ⟨zAA, ?_⟩)
  refine aC (aB (aB (aD hF [6, 25, 26, 27] ?_)))
  simp only [go_sem]
  refine aC (cJ (jL (D := Int × (List (List Nat))) [25, 26] (fun d => [(6, .own 0), (27, .val (.i .i64) d.1)]) (fun d => [.inr (.row 9 .str d.2)]) h ?_ ?_ ?_))
  ·first | rfl | (simp only [go_sem]; done)
  ·exact zAG
  rintro ⟨x27_13, newslice_14⟩ s11 h hs11
  simp only [go_sem]
  try dsimp only at h
  unfold nT at h
  refine aB (aD hF [6, 25, 26, 27, 28] ?_)
  simp only [go_sem]
  refine aC (aB (bD rfl (fun hc => ?_) (fun hc => ?_)))
  ·try simp only [go_sem] at hc
   have h := dP zAB h
   refine bL (aC (aB (cJ (aB (aD hF [6, 8, 25, 26, 27] ?_)))))
   simp only [go_sem]
   obtain ⟨g0, h⟩ := aJ h
   repeat (refine ⟨zAA, ?_⟩)
   refine aC (aU hF [6, 25, 26, 27] ?_)
   simp only [go_sem]
   obtain ⟨g0, h⟩ := aJ h
   repeat (refine ⟨zAA, ?_⟩)
   refine dE (aC (aD hF [6, 25, 26, 27] ?_))
   simp only [go_sem]
   obtain ⟨g0, h⟩ := aJ h
   try simp only [I64, I32] at g0
   repeat (refine ⟨zAA, ?_⟩)
   obtain rfl := Option.some.inj h
   dsimp only [kI] at hs11
   refine aS (fZ [1] rfl rfl ?_)
   simp only [ren, eF, gZ, posOf, cQ, go_sem]
   refine aQ ((x27_13 + (1 : Int)), (newslice_14 ++ (slices_0.getD (x27_13.toNat) ([] : List (List Nat))))) hs11 rfl ?_
   ·exact zAG
  ·try simp only [go_sem] at hc
   have h := dQ zAB h
   obtain rfl := Option.some.inj h
   dsimp only [kI] at hs11
   have h := hs11
   try dsimp only at h
   refine kT (bM (bM (cX (aC (aB (aD hF [2] ?_))))))
   simp only [go_sem]
   obtain rfl := Option.some.inj h
   refine aC (cH (dC hF [.tmp 2] rfl rfl rfl ?_))
   exact zAH
attribute [go_sem] iF
noncomputable def tR (F : Md) (l_0 : (List (List Nat))) (x9_12 : Int) (seen_13 : (List ((List Nat) × Bool))) : Option ((Int × (List ((List Nat) × Bool))) ⊕ ((Unit) ⊕ Bool)) :=
 if x9_12 < (((l_0.length) : Nat) : Int) then ck (0 ≤ x9_12 ∧ x9_12 < (((l_0.length) : Nat) : Int)) ((wX F (l_0.getD (x9_12.toNat) ([] : List Nat))).bind (fun v_25 => if (¬ (v_25 = true)) ∨ (((aCq .str seen_13 (l_0.getD (x9_12.toNat) ([] : List Nat))).getD false) = true) then some (.inr (.inr false)) else ck (I64 (x9_12 + (1 : Int))) (some (.inl ((x9_12 + (1 : Int)), (aNv .str seen_13 (l_0.getD (x9_12.toNat) ([] : List Nat)) true)))))) else some (.inr (.inl ()))
noncomputable def mX (F : Md) (l_0 : (List (List Nat))) : Option Bool :=
 (cW F (fun d : Int × (List ((List Nat) × Bool)) => tR F l_0 d.1 d.2) ((0 : Int), ([] : List ((List Nat) × Bool)))).bind (fun e => match e with | (.inl e) => some true | (.inr e) => some e)
def aCN : PlR := ⟨[(0, .A [0]), (1, .B [0, 3]), (2, .A [3, 7, 8, 9]), (3, .A [3, 7, 8, 9, 10]), (4, .A [3, 5, 7, 8, 9]), (5, .A [3, 5, 7, 8, 9, 20]), (6, .A [2]), (7, .B [3, 7, 8, 9]), (8, .A [3, 7, 8, 9]), (9, .A [2])], []⟩
def aDP : Ty := .pair (.sl .str) .unit
noncomputable def lW (F : Md) : aG := mSpec aDP (.one .bool) (fun x => mX F x.1)
noncomputable def aDQ (F : Md) : List (FuncId × aG) := [(29, (uG F))]
theorem aKJ (F : Md) : bC Tryz.prog GL (aDQ F) := .cons (aKD F) (by kernel_rfl) (.nil)
theorem aGE (F : Md) : gam (aDQ F) 29 = some (uG F) := rfl
attribute [go_sem] aDP aCN aGE
set_option maxHeartbeats 4000000 in
theorem aCO (F : Md) : FOK Tryz.prog GL 68 (lW F) := by
 refine bG (aW (aKJ F)) mix Tryz.func68 rfl (by kernel_rfl) (by decide) aCN fun w0 S x Θ hw h hF => ?_
 obtain ⟨(l_0 : (List (List Nat))), u⟩ := x
 simp only [bH, go_sem]
 replace h : sat (mX F l_0) _ := h
 unfold mX at h
 refine cB hF (D := Int × (List ((List Nat) × Bool))) [7, 8] (fun d => [(3, .mp 0), (9, .val (.i .i64) d.1)]) (fun d => [.inr (.map .str .bool d.2)]) h rfl (by simp only [go_sem]) ?_
 rintro ⟨x9_12, seen_13⟩ A3 T3 hA3 hE3 h
 simp only [go_sem]
 replace h : sat (tR F l_0 x9_12 seen_13) _ := h
 unfold tR at h
 refine fF h (fun hc h => ?_) fun hc h => ?_
 ·refine aP h fun g0 h => ?_
  obtain ⟨v_25, hv, h⟩ := aH h
  try simp only [hv, go_sem]
  refine ⟨fun hc => ?_, fun hc => ?_⟩
  ·replace h := hP zAB h
   replace h := hE3 _ (aA h)
   try dsimp only at h
   exact aF hF [.tmp 2] rfl rfl rfl (aA h) (by simp only [aT, go_sem])
  ·replace h := hU zAB h
   refine aP h fun g0 h => ?_
   replace h := hA3 _ (aA h)
   exact aQ _ h rfl (by simp only [go_sem])
 ·replace h := hE3 _ (aA h)
  try dsimp only at h
  exact aF hF [.tmp 2] rfl rfl rfl (aA h) (by simp only [aT, go_sem])
attribute [go_sem] lW
noncomputable def gQ (F : Md) (s_0 : (List Nat)) (prefix_1 : (List Nat)) : Option Bool :=
 ck (((((prefix_1.length) : Nat) : Int) ≤ (((s_0.length) : Nat) : Int)) → (0 ≤ (((prefix_1.length) : Nat) : Int) ∧ (((prefix_1.length) : Nat) : Int) ≤ (((s_0.length) : Nat) : Int))) (some ((decide ((((prefix_1.length) : Nat) : Int) ≤ (((s_0.length) : Nat) : Int))) && (decide ((List.take (prefix_1.length) s_0) = prefix_1))))
def oT : PlR := ⟨[(0, .A [0, 1]), (1, .A [4])], []⟩
def pK : Ty := .pair .str (.pair .str .unit)
noncomputable def gB (F : Md) : aG := mSpec pK (.one .bool) (fun x => gQ F x.1 x.2.1)
noncomputable def aAm (F : Md) : List (FuncId × aG) := []
theorem aAn (F : Md) : bC Tryz.prog GL (aAm F) := .nil
attribute [go_sem] pK oT
set_option maxHeartbeats 4000000 in
theorem yX (F : Md) : FOK Tryz.prog GL 224 (gB F) := by
 refine bG (aW (aAn F)) mix Tryz.func224 rfl (by kernel_rfl) (by decide) oT fun w0 S x Θ hw h hF => ?_
 obtain ⟨(s_0 : (List Nat)), (prefix_1 : (List Nat)), u⟩ := x
 simp only [bH, go_sem]
 replace h : sat (gQ F s_0 prefix_1) _ := h
 unfold gQ at h
 refine aP h fun g0 h => ?_
 exact aF hF [.tmp 4] rfl rfl rfl (aA h) (by simp only [aT, go_sem])
attribute [go_sem] gB
noncomputable def gR (F : Md) (s_0 : (List Nat)) (prefix_1 : (List Nat)) : Option ((List Nat) × (Bool × Unit)) :=
 (gQ F s_0 prefix_1).bind (fun v_8 => if ¬ (v_8 = true) then some (s_0, false, ()) else ck (0 ≤ (((prefix_1.length) : Nat) : Int) ∧ (((prefix_1.length) : Nat) : Int) ≤ (((s_0.length) : Nat) : Int)) (some ((List.drop (prefix_1.length) s_0), true, ())))
def oU : PlR := ⟨[(0, .A [0, 1]), (1, .A [0, 1, 9]), (2, .A [4, 5]), (3, .A [4, 5])], []⟩
def pL : Ty := .pair .str (.pair .str .unit)
noncomputable def gC (F : Md) : aG := mSpec pL (.tup (.pair .str (.pair .bool .unit))) (fun x => gR F x.1 x.2.1)
noncomputable def pM (F : Md) : List (FuncId × aG) := [(224, (gB F))]
theorem aAo (F : Md) : bC Tryz.prog GL (pM F) := .cons (yX F) (by kernel_rfl) (.nil)
theorem vT (F : Md) : gam (pM F) 224 = some (gB F) := rfl
attribute [go_sem] pL oU vT
set_option maxHeartbeats 4000000 in
theorem yY (F : Md) : FOK Tryz.prog GL 257 (gC F) := by
 refine bG (aW (aAo F)) mix Tryz.func257 rfl (by kernel_rfl) (by decide) oU fun w0 S x Θ hw h hF => ?_
 obtain ⟨(s_0 : (List Nat)), (prefix_1 : (List Nat)), u⟩ := x
 simp only [bH, go_sem]
 replace h : sat (gR F s_0 prefix_1) _ := h
 unfold gR at h
 obtain ⟨v_8, hv, h⟩ := aH h
 try simp only [hv, go_sem]
 refine aGn h (fun hc h => ?_) fun hc h => ?_
 ·exact aF hF [.tmp 4, .tmp 5] rfl rfl rfl (aA h) (by simp only [aT, go_sem])
 ·refine aP h fun g0 h => ?_
  exact aF hF [.tmp 4, .tmp 5] rfl rfl rfl (aA h) (by simp only [aT, go_sem])
attribute [go_sem] gC
noncomputable def lJ (F : Md) (s_0 : (List Nat)) (prefix_1 : (List Nat)) : Option ((List Nat) × (Bool × Unit)) :=
 (gR F s_0 prefix_1).bind (fun v_6 => some (v_6.1, v_6.2.1, ()))
def vF : PlR := ⟨[(0, .A [0, 1]), (1, .A [4, 5])], []⟩
def wB : Ty := .pair .str (.pair .str .unit)
noncomputable def kX (F : Md) : aG := mSpec wB (.tup (.pair .str (.pair .bool .unit))) (fun x => lJ F x.1 x.2.1)
noncomputable def wC (F : Md) : List (FuncId × aG) := [(257, (gC F))]
theorem aDr (F : Md) : bC Tryz.prog GL (wC F) := .cons (yY F) (by kernel_rfl) (.nil)
theorem aAT (F : Md) : gam (wC F) 257 = some (gC F) := rfl
attribute [go_sem] wB vF aAT
set_option maxHeartbeats 4000000 in
theorem aCP (F : Md) : FOK Tryz.prog GL 240 (kX F) := by
 refine bG (aW (aDr F)) mix Tryz.func240 rfl (by kernel_rfl) (by decide) vF fun w0 S x Θ hw h hF => ?_
 obtain ⟨(s_0 : (List Nat)), (prefix_1 : (List Nat)), u⟩ := x
 simp only [bH, go_sem]
 replace h : sat (lJ F s_0 prefix_1) _ := h
 unfold lJ at h
 obtain ⟨v_6, hv, h⟩ := aH h
 try simp only [hv, go_sem]
 exact aF hF [.tmp 4, .tmp 5] rfl rfl rfl (aA h) (by simp only [aT, go_sem])
attribute [go_sem] kX
noncomputable def pN (F : Md) (s_0 : (List Nat)) : Option (Bool × ((List Nat) × ((List Nat) × (Bool × Unit)))) :=
 (lJ F s_0 (aI ⟨#[45]⟩)).bind (fun v_5 => (zO F v_5.1).bind (fun v_9 => some ((v_5.2.1 && (decide ((0 : Int) < (((v_9.1.length) : Nat) : Int)))), v_9.1, v_9.2.1, v_9.2.2.1, ())))
def aCQ : PlR := ⟨[(0, .A [0]), (1, .A [6, 7]), (2, .A [7, 8, 9, 10]), (3, .A [2, 3, 4, 5])], []⟩
def aDR : Ty := .pair .str .unit
noncomputable def sD (F : Md) : aG := mSpec aDR (.tup (.pair .bool (.pair (.sl (.u .u64)) (.pair (.sl (.u .u64)) (.pair .bool .unit))))) (fun x => pN F x.1)
noncomputable def aAp (F : Md) : List (FuncId × aG) := [(116, (xA F)), (240, (kX F))]
theorem aKK (F : Md) : bC Tryz.prog GL (aAp F) := .cons (aL9 F) (by kernel_rfl) (.cons (aCP F) (by kernel_rfl) (.nil))
theorem aFE (F : Md) : gam (aAp F) 116 = some (xA F) := rfl
theorem aFF (F : Md) : gam (aAp F) 240 = some (kX F) := rfl
attribute [go_sem] aDR aCQ aFE aFF
set_option maxHeartbeats 4000000 in
theorem aJ4 (F : Md) : FOK Tryz.prog GL 203 (sD F) := by
 refine bG (aW (aKK F)) mix Tryz.func203 rfl (by kernel_rfl) (by decide) aCQ fun w0 S x Θ hw h hF => ?_
 obtain ⟨(s_0 : (List Nat)), u⟩ := x
 simp only [bH, go_sem]
 replace h : sat (pN F s_0) _ := h
 unfold pN at h
 obtain ⟨v_5, hv, h⟩ := aH h
 try simp only [hv, go_sem]
 obtain ⟨v_9, hv, h⟩ := aH h
 try simp only [hv, go_sem]
 exact aF hF [.tmp 2, .tmp 3, .tmp 4, .tmp 5] rfl rfl rfl (aA h) (by simp only [aT, go_sem])
attribute [go_sem] sD
noncomputable def kY (F : Md) (r_0 : ((List Nat) × ((List Nat) × Unit))) (hi_2 : (List Nat)) : Option (Bool) :=
 (pN F r_0.1).bind (fun v_6 => (pN F hi_2).bind (fun v_10 => (fQ F v_6.2.1 v_10.2.2.1).bind (fun v_20 => (fQ F v_10.2.1 v_6.2.2.1).bind (fun v_21 => (nO F v_20 v_21).bind (fun v_22 => if (¬ (v_6.2.2.2.1 = true)) ∨ (¬ (v_10.2.2.2.1 = true)) then some false else if (v_6.1 != v_10.1) = true then some v_6.1 else if v_6.1 = true then some (decide ((0 : Int) ≤ v_22)) else some (decide (v_22 ≤ (0 : Int))))))))
noncomputable def gV (F : Md) (r_0 : ((List Nat) × ((List Nat) × Unit))) : Option Bool :=
 if r_0.2.1 = (aI ⟨#[]⟩) then kY F r_0 r_0.1 else kY F r_0 r_0.2.1
def aBR : PlR := ⟨[(0, .B [1]), (1, .A [1, 3]), (2, .A [1, 3, 16]), (3, .A [1, 3]), (4, .A [3, 4, 5, 6, 7]), (5, .A [4, 5, 6, 7, 8, 9, 10, 11]), (6, .A [4, 7, 8, 11, 12]), (7, .A [2]), (8, .A [4, 8, 12, 43]), (9, .A [2]), (10, .A [4, 12, 50]), (11, .A [2]), (12, .A [12, 55]), (13, .A [2])], [(5, 7)]⟩
def aCR : Ty := .pair (.pair .str (.pair .str .unit)) .unit
noncomputable def pY (F : Md) : aG := mSpec aCR (.one .bool) (fun x => gV F x.1)
noncomputable def sE (F : Md) : List (FuncId × aG) := [(122, (kU F)), (203, (sD F)), (94, (dW F))]
theorem aJ5 (F : Md) : bC Tryz.prog GL (sE F) := .cons (aBs F) (by kernel_rfl) (.cons (aJ4 F) (by kernel_rfl) (.cons (nX F) (by kernel_rfl) (.nil)))
theorem aEp (F : Md) : gam (sE F) 122 = some (kU F) := rfl
theorem aEq (F : Md) : gam (sE F) 203 = some (sD F) := rfl
theorem aFG (F : Md) : gam (sE F) 94 = some (dW F) := rfl
attribute [go_sem] aCR aBR aEp aEq aFG
set_option maxHeartbeats 4000000 in
theorem aIh (F : Md) : FOK Tryz.prog GL 138 (pY F) := by
 refine bG (aW (aJ5 F)) mix Tryz.func138 rfl (by kernel_rfl) (by decide) aBR fun w0 S x Θ hw h hF => ?_
 obtain ⟨(r_0 : ((List Nat) × ((List Nat) × Unit))), u⟩ := x
 simp only [bH, go_sem]
 replace h : sat (gV F r_0) _ := h
 unfold gV at h
 refine dH hF (D := (List Nat)) (fun d => sat (kY F r_0 d) Θ) [] (fun d => [(1, .ptr 0 []), (3, .val .str d)]) (fun d => [.inr (.box 2 (.val (.pair .str (.pair .str .unit)) r_0))]) ?_ ?_
 ·simp only [go_sem]
  refine cT h (fun hc h => ?_) fun hc h => ?_
  ·exact aQ r_0.1 h rfl (by simp only [go_sem])
  ·exact aQ r_0.2.1 h rfl (by simp only [go_sem])
 ·rintro hi_2 h
  simp only [go_sem]
  replace h : sat (kY F r_0 hi_2) _ := h
  unfold kY at h
  obtain ⟨v_6, hv, h⟩ := aH h
  try simp only [hv, go_sem]
  obtain ⟨v_10, hv, h⟩ := aH h
  try simp only [hv, go_sem]
  obtain ⟨v_20, hv, h⟩ := aH h
  try simp only [hv, go_sem]
  obtain ⟨v_21, hv, h⟩ := aH h
  try simp only [hv, go_sem]
  obtain ⟨v_22, hv, h⟩ := aH h
  try simp only [hv, go_sem]
  refine ⟨fun hc => ?_, fun hc => ?_⟩
  ·replace h := hP zAB h
   exact aF hF [.tmp 2] rfl rfl rfl (aA h) (by simp only [aT, go_sem])
  ·replace h := hU zAB h
   refine aE8 h (fun hc h => ?_) fun hc h => ?_
   ·exact aF hF [.tmp 2] rfl rfl rfl (aA h) (by simp only [aT, go_sem])
   ·refine aE8 h (fun hc h => ?_) fun hc h => ?_
    ·exact aF hF [.tmp 2] rfl rfl rfl (aA h) (by simp only [aT, go_sem])
    ·exact aF hF [.tmp 2] rfl rfl rfl (aA h) (by simp only [aT, go_sem])
attribute [go_sem] pY
end Nu
end Go.Proofs
namespace Go.Proofs
open Go.Vc
set_option maxRecDepth 20000
namespace Nu
attribute [-go_sem] Ex.kind Ex.text Ex.l
@[go_sem] theorem aTg (k : Int) (t : List Nat) (l : List Ex) : Ex.l (.mk k t l) = l := rfl
@[go_sem] theorem aTh (k : Int) (t : List Nat) (l : List Ex) : Ex.kind (.mk k t l) = k := rfl
@[go_sem] theorem aTi (k : Int) (t : List Nat) (l : List Ex) : Ex.text (.mk k t l) = t := rfl
noncomputable def wD (F : Md) (g : Ex → Int → Int → Int → Option (Int × Int)) (e_0 : Ex) (at_1 : Int) (x23_10 : Int) (x_11 : Int) (x_12 : Int) : Option ((Int × Int × Int) ⊕ (Int × Int)) :=
 if x23_10 < (((e_0.l).length : Nat) : Int) then ck (0 ≤ x23_10 ∧ x23_10 < (((e_0.l).length : Nat) : Int)) (ck (I64 (at_1 + (1 : Int))) ((g ((e_0.l).getD (x23_10.toNat) (Ex.mk 0 [] [])) (at_1 + (1 : Int)) x_11 x_12).bind (fun r_20 => ck (I64 (x23_10 + (1 : Int))) (some (.inl ((x23_10 + (1 : Int)), r_20.1, r_20.2)))))) else some (.inr (x_11, x_12))
noncomputable def oG (F : Md) (g : Ex → Int → Int → Int → Option (Int × Int)) (e_0 : Ex) (at_1 : Int) (o0_5 : Int) (o1_6 : Int) : Option (Int × Int) :=
 ck (I64 (o0_5 + (1 : Int))) (if ((60 : Int) < (o0_5 + (1 : Int))) ∨ ((30 : Int) < at_1) then some ((o0_5 + (1 : Int)), (max o1_6 at_1)) else (cW F (fun d : Int × Int × Int => wD F g e_0 at_1 d.1 d.2.1 d.2.2) ((0 : Int), (o0_5 + (1 : Int)), (max o1_6 at_1))).bind (fun e => some (e.1, e.2)))
noncomputable def oH (g : Ex → Int → Int → Int → Option (Int × Int)) : lP where
 D := Ex × Int × Int × Int × (Int × Int)
 av := fun d => [.val .expr d.1, .val (.i .i64) d.2.1, .ptr 0 [], .ptr 1 [], .ptr 2 []]
 hp := fun d => [.box 1 (.val (.i .i64) d.2.2.1), .box 1 (.val (.i .i64) d.2.2.2.1), .box 1 (.fn 197 [] [0, 1, 2])]
 m := 3
 pre := fun d => g d.1 d.2.1 d.2.2.1 d.2.2.2.1 = some d.2.2.2.2
 out := fun d => (fun r : (Int × Int) => .ret (.tup []) [.box 1 (.val (.i .i64) r.1), .box 1 (.val (.i .i64) r.2), .box 1 (.fn 197 [] [0, 1, 2])]) d.2.2.2.2
attribute [go_sem] oH
noncomputable def aAU (F : Md) (g : Ex → Int → Int → Int → Option (Int × Int)) : lP where
 D := Ex × Int × Int × Int × (Int × Int)
 av := fun d => [.val .expr d.1, .val (.i .i64) d.2.1, .ptr 0 [], .ptr 1 [], .ptr 2 []]
 hp := fun d => [.box 1 (.val (.i .i64) d.2.2.1), .box 1 (.val (.i .i64) d.2.2.2.1), .box 1 (.fn 197 [] [0, 1, 2])]
 m := 3
 pre := fun d => oG F g d.1 d.2.1 d.2.2.1 d.2.2.2.1 = some d.2.2.2.2
 out := fun d => (fun r : (Int × Int) => .ret (.tup []) [.box 1 (.val (.i .i64) r.1), .box 1 (.val (.i .i64) r.2), .box 1 (.fn 197 [] [0, 1, 2])]) d.2.2.2.2
noncomputable def aCS (F : Md) (g : Ex → Int → Int → Int → Option (Int × Int)) : List (FuncId × aG) := []
theorem aCT (F : Md) (g : Ex → Int → Int → Int → Option (Int × Int)) (hg : GOK Tryz.prog GL 197 (oH g)) : bC Tryz.prog GL (aCS F g) := .nil
set_option maxHeartbeats 4000000 in
theorem aGF (F : Md) (g : Ex → Int → Int → Int → Option (Int × Int)) (hg : GOK Tryz.prog GL 197 (oH g)) : GOK Tryz.prog GL 197 (aAU F g) := by
 refine vD (aW (aCT F g hg)) Tryz.func197 rfl (by kernel_rfl) (fun _ => Nat.le_of_ble_eq_true rfl) fun c0 w0 d hw1 hw2 h hn => ?_
 have hF : iQ ⟨Tryz.prog, EM (aCS F g), GM (aAU F g) c0 d, w0, Tryz.f197.ntmps, []⟩ := ⟨aW (aCT F g hg), mix⟩
 obtain ⟨(e_0 : Ex), (at_1 : Int), (o0_5 : Int), (o1_6 : Int), r⟩ := d
 replace h : oG F g e_0 at_1 o0_5 o1_6 = some r := h
 have hw1 : AV.wfL [.val .expr e_0, .val (.i .i64) at_1, .ptr 0 [], .ptr 1 [], .ptr 2 []] := hw1
 simp only [AV.wfL, AV.wfV, Ty.wf, lO] at hw1
 show Tri _ _ _ [(0, .val .expr e_0), (1, .val (.i .i64) at_1), (2, .ptr 0 []), (3, .ptr 1 []), (4, .ptr 2 [])] [.box 1 (.val (.i .i64) o0_5), .box 1 (.val (.i .i64) o1_6), .box 1 (.fn 197 [] [0, 1, 2])]
 unfold oG at h
 refine aB (aU hF [1, 2, 3, 4, 5] ?_)
 simp only [go_sem]
 refine aC (aB (aU hF [1, 2, 3, 4, 5] ?_))
 simp only [go_sem]
 obtain ⟨g0, h⟩ := aJ h
 try simp only [I64, I32] at g0
 repeat (refine ⟨zAA, ?_⟩)
 refine aC (aB (aU hF [1, 2, 4, 5] ?_))
 simp only [go_sem]
 refine aC (aB (aB (aD hF [1, 4, 5, 19] ?_)))
 simp only [go_sem]
 refine aC (bD rfl (fun hc => ?_) (fun hc => ?_))
 ·try simp only [go_sem] at hc
  have h := dP zAB h
  obtain rfl := Option.some.inj h
  refine cH (bN (fZ [0, 1, 2] rfl rfl ?_))
  simp only [ren, eF, gZ, posOf, cQ, go_sem]
  refine aBk hF [] rfl rfl rfl rfl rfl rfl ?_
  (try simp only [aT, aDo, aCC, dL, nL, AV.isAgg, go_sem]) <;> first | trivial | rfl | (simp; done)
 ·try simp only [go_sem] at hc
  have h := dQ zAB h
  refine bL (aC (aB (aD hF [1, 4, 21, 22, 23] ?_)))
  simp only [go_sem]
  refine aC (cJ (wL [0, 1, 2] rfl rfl ?_))
  simp only [ren, eF, gZ, posOf, cQ, go_sem]
  refine jL (D := Int × Int × Int) [1, 21, 22] (fun d => [(4, .ptr 2 []), (23, .val (.i .i64) d.1)]) (fun d => [.inr (.box 1 (.val (.i .i64) d.2.1)), .inr (.box 1 (.val (.i .i64) d.2.2)), .inr (.box 1 (.fn 197 [] [0, 1, 2]))]) h ?_ ?_ ?_
  ·first | rfl | (simp only [go_sem]; done)
  ·exact zAG
  rintro ⟨x23_10, x_11, x_12⟩ s5 h hs5
  simp only [go_sem]
  try dsimp only at h
  unfold wD at h
  refine aB (aD hF [1, 4, 21, 22, 23, 24] ?_)
  simp only [go_sem]
  refine aC (aB (bD rfl (fun hc => ?_) (fun hc => ?_)))
  ·try simp only [go_sem] at hc
   have h := dP zAB h
   refine bL (aC (aB (cJ (aB (aU hF [1, 4, 8, 21, 22, 23] ?_)))))
   simp only [go_sem]
   obtain ⟨g0, h⟩ := aJ h
   repeat (refine ⟨zAA, ?_⟩)
   obtain ⟨g0, h⟩ := aJ h
   try simp only [I64, I32] at g0
   obtain ⟨r_20, he1, h⟩ := bind_some h
   try dsimp only at h
   refine aC (aX hF (bS (l := [(197, ⟨(oH g), [0, 1, 2], (((e_0.l).getD (x23_10.toNat) (Ex.mk 0 [] [])), (at_1 + (1 : Int)), x_11, x_12, r_20)⟩)]) (.cons hg (by kernel_rfl) (.nil))) [1, 4, 21, 22, 23] [] ?_)
   simp only [go_sem]
   repeat (refine ⟨zAC, ?_⟩)
   refine dE (aC (aD hF [1, 4, 21, 22, 23] ?_))
   simp only [go_sem]
   obtain ⟨g0, h⟩ := aJ h
   try simp only [I64, I32] at g0
   repeat (refine ⟨zAA, ?_⟩)
   obtain rfl := Option.some.inj h
   dsimp only [kI] at hs5
   refine aS (fZ [0, 1, 2] rfl rfl ?_)
   simp only [ren, eF, gZ, posOf, cQ, go_sem]
   refine aQ ((x23_10 + (1 : Int)), r_20.1, r_20.2) hs5 rfl ?_
   ·exact zAG
  ·try simp only [go_sem] at hc
   have h := dQ zAB h
   obtain rfl := Option.some.inj h
   dsimp only [kI] at hs5
   have h := hs5
   try dsimp only at h
   obtain rfl := Option.some.inj h
   refine kT (bM (bM (cX (aE7 (aBk hF [] rfl rfl rfl rfl rfl rfl ?_)))))
   (try simp only [aT, aDo, aCC, dL, nL, AV.isAgg, go_sem]) <;> first | trivial | rfl | (simp; done)
noncomputable def yP (F : Md) : Nat → Ex → Int → Int → Int → Option (Int × Int)
 | 0 => fun _ _ _ _ => none
 | n + 1 => oG F (yP F n)
noncomputable def vU (F : Md) (n : Nat) : lP where
 D := Ex × Int × Int × Int × (Int × Int)
 av := fun d => [.val .expr d.1, .val (.i .i64) d.2.1, .ptr 0 [], .ptr 1 [], .ptr 2 []]
 hp := fun d => [.box 1 (.val (.i .i64) d.2.2.1), .box 1 (.val (.i .i64) d.2.2.2.1), .box 1 (.fn 197 [] [0, 1, 2])]
 m := 3
 pre := fun d => yP F n d.1 d.2.1 d.2.2.1 d.2.2.2.1 = some d.2.2.2.2
 out := fun d => (fun r : (Int × Int) => .ret (.tup []) [.box 1 (.val (.i .i64) r.1), .box 1 (.val (.i .i64) r.2), .box 1 (.fn 197 [] [0, 1, 2])]) d.2.2.2.2
theorem aBS (F : Md) : ∀ n, GOK Tryz.prog GL 197 (vU F n)
 | 0 => fun _ _ _ _ hp _ => absurd (show none = some _ from hp) (by simp)
 | n + 1 => aGF F _ (aBS F n)
attribute [go_sem] vU
noncomputable def xD (F : Md) (e_0 : Ex) : Option (Int × (Int × Unit)) :=
 (yP F 64 e_0 (1 : Int) (0 : Int) (0 : Int)).bind (fun r_3 => some (r_3.1, r_3.2, ()))
def xE : Ty := .pair .expr .unit
attribute [go_sem] xE
noncomputable def uJ (F : Md) : aG := mSpec xE (.tup (.pair (.i .i64) (.pair (.i .i64) .unit))) (fun x => xD F x.1)
noncomputable def aFH (F : Md) : List (FuncId × aG) := []
theorem aFI (F : Md) : bC Tryz.prog GL (aFH F) := .nil
set_option maxHeartbeats 4000000 in
theorem aKL (F : Md) : FOK Tryz.prog GL 126 (uJ F) := by
 refine kN (aW (aFI F)) Tryz.func126 rfl (by kernel_rfl) (by decide) fun w0 S x r hw h => ?_
 have hF : iQ (fr Tryz.prog (EM (aFH F)) S w0 Tryz.f126.ntmps) := ⟨aW (aFI F), mix⟩
 obtain ⟨(e_0 : Ex), u⟩ := x
 simp only [xE, Ty.wf, lO] at hw
 simp only [bH, xE]
 try dsimp only at h
 replace h : xD F e_0 = some r := h
 unfold xD at h
 refine aB (aU hF [1, 2, 3] ?_)
 simp only [go_sem]
 refine aC (aB (aU hF [1, 2, 3, 4] ?_))
 simp only [go_sem]
 refine aC (aB (aU hF [1, 2, 3, 4] ?_))
 simp only [go_sem]
 obtain ⟨r_3, he1, h⟩ := bind_some h
 try dsimp only at h
 refine aC (aB (aX hF (bS (l := [(197, ⟨(vU F 64), [1, 2, 3], (e_0, (1 : Int), (0 : Int), (0 : Int), r_3)⟩)]) (.cons (aBS F 64) (by kernel_rfl) (.nil))) [2, 3] [] ?_))
 simp only [go_sem]
 repeat (refine ⟨zAC, ?_⟩)
 refine aC (aB (aG7 hF [2, 3] [(2, .ptr 1 []), (3, .ptr 2 [])] [.box 3 (.val .expr e_0), .box 1 (.val (.i .i64) r_3.1), .box 1 (.val (.i .i64) r_3.2), .box 1 (.fn 197 [] [1, 2, 3])] (by decide) ?_ ?_))
 ·simp only [go_sem]
  unfold anyS
  intro i hi
  have hi : i = 0 ∨ i = 1 := by revert hi; revert i; decide
  rcases hi with rfl | rfl
  ·simp only [go_sem]
   repeat (refine ⟨zAA, ?_⟩)
   unfold anyS
   intro i hi
   have hi : i = 1 ∨ i = 2 := by revert hi; revert i; decide
   rcases hi with rfl | rfl
   ·simp only [go_sem]
    repeat (refine ⟨zAA, ?_⟩)
    unfold anyS
    intro i hi
    have hi : i = 2 := by revert hi; revert i; decide
    subst hi
    simp only [go_sem]
    repeat (refine ⟨zAA, ?_⟩)
    unfold anyS
    intro i hi
    have hi : i = 3 := by revert hi; revert i; decide
    subst hi
    simp only [go_sem]
    repeat (refine ⟨zAA, ?_⟩)
    (simp only [anyS, go_sem]) <;> first | exact ⟨rfl, rfl⟩ | trivial
   ·simp only [go_sem]
    repeat (refine ⟨zAA, ?_⟩)
    unfold anyS
    intro i hi
    have hi : i = 1 := by revert hi; revert i; decide
    subst hi
    simp only [go_sem]
    repeat (refine ⟨zAA, ?_⟩)
    unfold anyS
    intro i hi
    have hi : i = 3 := by revert hi; revert i; decide
    subst hi
    simp only [go_sem]
    repeat (refine ⟨zAA, ?_⟩)
    (simp only [anyS, go_sem]) <;> first | exact ⟨rfl, rfl⟩ | trivial
  ·simp only [go_sem]
   repeat (refine ⟨zAA, ?_⟩)
   unfold anyS
   intro i hi
   have hi : i = 0 := by revert hi; revert i; decide
   subst hi
   simp only [go_sem]
   repeat (refine ⟨zAA, ?_⟩)
   unfold anyS
   intro i hi
   have hi : i = 2 := by revert hi; revert i; decide
   subst hi
   simp only [go_sem]
   repeat (refine ⟨zAA, ?_⟩)
   unfold anyS
   intro i hi
   have hi : i = 3 := by revert hi; revert i; decide
   subst hi
   simp only [go_sem]
   repeat (refine ⟨zAA, ?_⟩)
   (simp only [anyS, go_sem]) <;> first | exact ⟨rfl, rfl⟩ | trivial
 obtain rfl := Option.some.inj h
 refine aC (cH (dC hF [.cell 2 3, .cell 3 3] rfl rfl rfl ?_))
 exact zAH
attribute [go_sem] uJ
noncomputable def zQ (F : Md) (e_0 : Ex) : Option Bool :=
 (xD F e_0).bind (fun v_5 => some ((decide (v_5.1 ≤ (60 : Int))) && (decide (v_5.2.1 ≤ (30 : Int)))))
def aFJ : PlR := ⟨[(0, .B [1]), (1, .A [3, 4]), (2, .A [2])], []⟩
def aHD : Ty := .pair .expr .unit
noncomputable def xF (F : Md) : aG := mSpec aHD (.one .bool) (fun x => zQ F x.1)
noncomputable def aHE (F : Md) : List (FuncId × aG) := [(126, (uJ F))]
theorem aNf (F : Md) : bC Tryz.prog GL (aHE F) := .cons (aKL F) (by kernel_rfl) (.nil)
theorem aIi (F : Md) : gam (aHE F) 126 = some (uJ F) := rfl
attribute [go_sem] aHD aFJ aIi
set_option maxHeartbeats 4000000 in
theorem aMc (F : Md) : FOK Tryz.prog GL 63 (xF F) := by
 refine bG (aW (aNf F)) mix Tryz.func63 rfl (by kernel_rfl) (by decide) aFJ fun w0 S x Θ hw h hF => ?_
 obtain ⟨(e_0 : Ex), u⟩ := x
 simp only [bH, go_sem]
 replace h : sat (zQ F e_0) _ := h
 unfold zQ at h
 obtain ⟨v_5, hv, h⟩ := aH h
 try simp only [hv, go_sem]
 exact aF hF [.tmp 2] rfl rfl rfl (aA h) (by simp only [aT, go_sem])
attribute [go_sem] xF
noncomputable def kO (F : Md) (x12_7 : Bool) : Option (Int) :=
 if x12_7 = true then some (1 : Int) else some (-1 : Int)
noncomputable def kP (F : Md) (kind_0 : Int) (x7_6 : Bool) : Option (Int) :=
 if x7_6 = true then some (2 : Int) else if kind_0 = (10 : Int) then kO F (decide (kind_0 = (10 : Int))) else if kind_0 = (11 : Int) then kO F (decide (kind_0 = (11 : Int))) else if kind_0 = (12 : Int) then kO F (decide (kind_0 = (12 : Int))) else kO F (decide (kind_0 = (13 : Int)))
noncomputable def pZ (F : Md) (kind_0 : Int) (x4_5 : Bool) : Option (Int) :=
 if x4_5 = true then some (0 : Int) else if kind_0 = (6 : Int) then kP F kind_0 (decide (kind_0 = (6 : Int))) else if kind_0 = (7 : Int) then kP F kind_0 (decide (kind_0 = (7 : Int))) else if kind_0 = (8 : Int) then kP F kind_0 (decide (kind_0 = (8 : Int))) else kP F kind_0 (decide (kind_0 = (9 : Int)))
noncomputable def sF (F : Md) (kind_0 : Int) : Option Int :=
 if kind_0 = (1 : Int) then pZ F kind_0 (decide (kind_0 = (1 : Int))) else pZ F kind_0 (decide (kind_0 = (2 : Int)))
def xG : Ty := .pair (.i .i64) .unit
attribute [go_sem] xG
noncomputable def uK (F : Md) : aG := mSpec xG (.one (.i .i64)) (fun x => sF F x.1)
noncomputable def aFK (F : Md) : List (FuncId × aG) := []
theorem aFL (F : Md) : bC Tryz.prog GL (aFK F) := .nil
set_option maxHeartbeats 4000000 in
theorem aKM (F : Md) : FOK Tryz.prog GL 127 (uK F) := by
 refine kN (aW (aFL F)) Tryz.func127 rfl (by kernel_rfl) (by decide) fun w0 S x r hw h => ?_
 have hF : iQ (fr Tryz.prog (EM (aFK F)) S w0 Tryz.f127.ntmps) := ⟨aW (aFL F), mix⟩
 obtain ⟨(kind_0 : Int), u⟩ := x
 simp only [xG, Ty.wf, lO] at hw
 simp only [bH, xG]
 try dsimp only at h
 replace h : sF F kind_0 = some r := h
 unfold sF at h
 refine aB (aD hF [0] ?_)
 simp only [go_sem]
 refine aC (aB (aB (aD hF [3] ?_)))
 simp only [go_sem]
 refine aC (cJ (eZ (D := Bool) (fun d => pZ F kind_0 d = some r) [3] (fun d => [(4, .val .bool d)]) (fun d => []) ?_ ?_))
 ·refine aB (aD hF [3, 4] ?_)
  simp only [go_sem]
  refine aC (bD rfl (fun hc => ?_) (fun hc => ?_))
  ·try simp only [go_sem] at hc
   have h := dP zAB h
   refine bL (aS (aQ (decide (kind_0 = (1 : Int))) h rfl ?_))
   ·exact zAG
  ·try simp only [go_sem] at hc
   have h := dQ zAB h
   refine aD hF [3, 4] ?_
   simp only [go_sem]
   refine aS (aQ (decide (kind_0 = (2 : Int))) h rfl ?_)
   ·exact zAG
 ·rintro x4_5 h
  try dsimp only at h
  simp only [go_sem]
  unfold pZ at h
  refine bD rfl (fun hc => ?_) (fun hc => ?_)
  ·try simp only [go_sem] at hc
   have h := dP zAB h
   refine aB (aD hF [2] ?_)
   simp only [go_sem]
   obtain rfl := Option.some.inj h
   refine aC (cH (iR (bN (dC hF [.tmp 2] rfl rfl rfl ?_))))
   exact zAH
  ·try simp only [go_sem] at hc
   have h := dQ zAB h
   refine eZ (D := Bool) (fun d => kP F kind_0 d = some r) [3] (fun d => [(7, .val .bool d)]) (fun d => []) ?_ ?_
   ·refine aB (aD hF [3, 7] ?_)
    simp only [go_sem]
    refine aC (bD rfl (fun hc => ?_) (fun hc => ?_))
    ·try simp only [go_sem] at hc
     have h := dP zAB h
     refine bL (aS (aQ (decide (kind_0 = (6 : Int))) h rfl ?_))
     ·exact zAG
    ·try simp only [go_sem] at hc
     have h := dQ zAB h
     refine aB (aD hF [3, 7] ?_)
     simp only [go_sem]
     refine aC (bD rfl (fun hc => ?_) (fun hc => ?_))
     ·try simp only [go_sem] at hc
      have h := dP zAB h
      refine bL (aS (aQ (decide (kind_0 = (7 : Int))) h rfl ?_))
      ·exact zAG
     ·try simp only [go_sem] at hc
      have h := dQ zAB h
      refine aB (aD hF [3, 7] ?_)
      simp only [go_sem]
      refine aC (bD rfl (fun hc => ?_) (fun hc => ?_))
      ·try simp only [go_sem] at hc
       have h := dP zAB h
       refine bL (aS (aQ (decide (kind_0 = (8 : Int))) h rfl ?_))
       ·exact zAG
      ·try simp only [go_sem] at hc
       have h := dQ zAB h
       refine aD hF [3, 7] ?_
       simp only [go_sem]
       refine aS (aQ (decide (kind_0 = (9 : Int))) h rfl ?_)
       ·exact zAG
   ·rintro x7_6 h
    try dsimp only at h
    simp only [go_sem]
    unfold kP at h
    refine bD rfl (fun hc => ?_) (fun hc => ?_)
    ·try simp only [go_sem] at hc
     have h := dP zAB h
     refine aB (aD hF [2] ?_)
     simp only [go_sem]
     obtain rfl := Option.some.inj h
     refine aC (cH (iR (bN (dC hF [.tmp 2] rfl rfl rfl ?_))))
     exact zAH
    ·try simp only [go_sem] at hc
     have h := dQ zAB h
     refine eZ (D := Bool) (fun d => kO F d = some r) [] (fun d => [(12, .val .bool d)]) (fun d => []) ?_ ?_
     ·refine aB (aD hF [3, 12] ?_)
      simp only [go_sem]
      refine aC (bD rfl (fun hc => ?_) (fun hc => ?_))
      ·try simp only [go_sem] at hc
       have h := dP zAB h
       refine bL (aS (aQ (decide (kind_0 = (10 : Int))) h rfl ?_))
       ·exact zAG
      ·try simp only [go_sem] at hc
       have h := dQ zAB h
       refine aB (aD hF [3, 12] ?_)
       simp only [go_sem]
       refine aC (bD rfl (fun hc => ?_) (fun hc => ?_))
       ·try simp only [go_sem] at hc
        have h := dP zAB h
        refine bL (aS (aQ (decide (kind_0 = (11 : Int))) h rfl ?_))
        ·exact zAG
       ·try simp only [go_sem] at hc
        have h := dQ zAB h
        refine aB (aD hF [3, 12] ?_)
        simp only [go_sem]
        refine aC (bD rfl (fun hc => ?_) (fun hc => ?_))
        ·try simp only [go_sem] at hc
         have h := dP zAB h
         refine bL (aS (aQ (decide (kind_0 = (12 : Int))) h rfl ?_))
         ·exact zAG
        ·try simp only [go_sem] at hc
         have h := dQ zAB h
         refine aD hF [12] ?_
         simp only [go_sem]
         refine aS (aQ (decide (kind_0 = (13 : Int))) h rfl ?_)
         ·exact zAG
     ·rintro x12_7 h
      try dsimp only at h
      simp only [go_sem]
      unfold kO at h
      refine bD rfl (fun hc => ?_) (fun hc => ?_)
      ·try simp only [go_sem] at hc
       have h := dP zAB h
       refine aB (aD hF [2] ?_)
       simp only [go_sem]
       obtain rfl := Option.some.inj h
       refine aC (cH (iR (bN (dC hF [.tmp 2] rfl rfl rfl ?_))))
       exact zAH
      ·try simp only [go_sem] at hc
       have h := dQ zAB h
       refine bL (dE (aC (aB (aD hF [2] ?_))))
       simp only [go_sem]
       obtain rfl := Option.some.inj h
       refine aC (cH (dC hF [.tmp 2] rfl rfl rfl ?_))
       exact zAH
attribute [go_sem] uK
def oI : Ty := .pair .expr (.pair (.sl .str) .unit)
attribute [go_sem] oI
noncomputable def fH (g : Ex → (List (List Nat)) → Option (Bool)) : aG := mSpec oI (.one .bool) (fun x => g x.1 x.2.1)
attribute [go_sem] fH
noncomputable def sG (F : Md) (g : Ex → (List (List Nat)) → Option (Bool)) (x_0 : Ex) (a1_1 : (List (List Nat))) : Option Bool :=
 (g x_0 a1_1).bind (fun v_6 => some (!v_6))
def aBT : PlR := ⟨[(0, .B [1, 2]), (1, .A [3])], []⟩
def aCU : Ty := .pair .expr (.pair (.rp (.sl .str)) .unit)
noncomputable def qA (F : Md) (g : Ex → (List (List Nat)) → Option (Bool)) : aG := mSpec aCU (.one .bool) (fun x => sG F g x.1 x.2.1)
noncomputable def aCV (F : Md) (g : Ex → (List (List Nat)) → Option (Bool)) : List (FuncId × aG) := [(64, (fH g))]
theorem aJ6 (F : Md) (g : Ex → (List (List Nat)) → Option (Bool)) (hg : FOK Tryz.prog GL 64 (fH g)) : bC Tryz.prog GL (aCV F g) := .cons hg (by kernel_rfl) (.nil)
theorem aFM (F : Md) (g : Ex → (List (List Nat)) → Option (Bool)) : gam (aCV F g) 64 = some (fH g) := rfl
attribute [go_sem] aCU aBT aFM
set_option maxHeartbeats 4000000 in
theorem aIj (F : Md) (g : Ex → (List (List Nat)) → Option (Bool)) (hg : FOK Tryz.prog GL 64 (fH g)) : FOK Tryz.prog GL 130 (qA F g) := by
 refine bG (aW (aJ6 F g hg)) mix Tryz.func130 rfl (by kernel_rfl) (by decide) aBT fun w0 S x Θ hw h hF => ?_
 obtain ⟨(x_0 : Ex), (a1_1 : (List (List Nat))), u⟩ := x
 simp only [bH, go_sem]
 replace h : sat (sG F g x_0 a1_1) _ := h
 unfold sG at h
 obtain ⟨v_6, hv, h⟩ := aH h
 try simp only [hv, go_sem]
 exact aF hF [.tmp 3] rfl rfl rfl (aA h) (by simp only [aT, go_sem])
attribute [go_sem] qA
noncomputable def cK (F : Md) (g : Ex → (List (List Nat)) → Option (Bool)) (s_0 : (List Ex)) (f_1 : ((List (List Nat)) × Unit)) (x8_14 : Int) : Option ((Int) ⊕ ((Unit) ⊕ Int)) :=
 if x8_14 < (((s_0.length) : Nat) : Int) then ck (0 ≤ x8_14 ∧ x8_14 < (((s_0.length) : Nat) : Int)) ((sG F g (s_0.getD (x8_14.toNat) (Ex.mk 0 [] [])) f_1.1).bind (fun v_27 => if v_27 = true then some (.inr (.inr x8_14)) else ck (I64 (x8_14 + (1 : Int))) (some (.inl (x8_14 + (1 : Int)))))) else some (.inr (.inl ()))
noncomputable def bY (F : Md) (g : Ex → (List (List Nat)) → Option (Bool)) (s_0 : (List Ex)) (f_1 : ((List (List Nat)) × Unit)) : Option Int :=
 (cW F (fun d : Int => cK F g s_0 f_1 d) (0 : Int)).bind (fun e => match e with | (.inl e) => some (-1 : Int) | (.inr e) => some e)
def eM : PlR := ⟨[(0, .A [0, 1]), (1, .A [0, 1, 7, 8]), (2, .A [0, 1, 7, 8, 9]), (3, .A [0, 1, 5, 7, 8]), (4, .A [0, 1, 5, 7, 8, 16]), (5, .A [4]), (6, .A [0, 1, 7, 8]), (7, .A [4])], []⟩
def eQ : Ty := .pair (.sl .expr) (.pair (.clo 130 (.pair (.rp (.sl .str)) .unit)) .unit)
noncomputable def bU (F : Md) (g : Ex → (List (List Nat)) → Option (Bool)) : aG := mSpec eQ (.one (.i .i64)) (fun x => bY F g x.1 x.2.1)
noncomputable def eR (F : Md) (g : Ex → (List (List Nat)) → Option (Bool)) : List (FuncId × aG) := [(130, (qA F g))]
theorem kF (F : Md) (g : Ex → (List (List Nat)) → Option (Bool)) (hg : FOK Tryz.prog GL 64 (fH g)) : bC Tryz.prog GL (eR F g) := .cons (aIj F g hg) (by kernel_rfl) (.nil)
theorem iK (F : Md) (g : Ex → (List (List Nat)) → Option (Bool)) : gam (eR F g) 130 = some (qA F g) := rfl
attribute [go_sem] eQ eM iK
set_option maxHeartbeats 4000000 in
theorem jT (F : Md) (g : Ex → (List (List Nat)) → Option (Bool)) (hg : FOK Tryz.prog GL 64 (fH g)) : FOK Tryz.prog GL 198 (bU F g) := by
 refine bG (aW (kF F g hg)) mix Tryz.func198 rfl (by kernel_rfl) (by decide) eM fun w0 S x Θ hw h hF => ?_
 obtain ⟨(s_0 : (List Ex)), (f_1 : ((List (List Nat)) × Unit)), u⟩ := x
 simp only [bH, go_sem]
 replace h : sat (bY F g s_0 f_1) _ := h
 unfold bY at h
 refine cB hF (D := Int) [0, 1, 7] (fun d => [(8, .val (.i .i64) d)]) (fun d => []) h rfl (by simp only [go_sem]) ?_
 rintro x8_14 A2 T2 hA2 hE2 h
 simp only [go_sem]
 replace h : sat (cK F g s_0 f_1 x8_14) _ := h
 unfold cK at h
 refine fF h (fun hc h => ?_) fun hc h => ?_
 ·refine aP h fun g0 h => ?_
  obtain ⟨v_27, hv, h⟩ := aH h
  try simp only [hv, go_sem]
  refine aE8 h (fun hc h => ?_) fun hc h => ?_
  ·replace h := hE2 _ (aA h)
   try dsimp only at h
   exact aF hF [.tmp 4] rfl rfl rfl (aA h) (by simp only [aT, go_sem])
  ·refine aP h fun g0 h => ?_
   replace h := hA2 _ (aA h)
   exact aQ _ h rfl (by simp only [go_sem])
 ·replace h := hE2 _ (aA h)
  try dsimp only at h
  exact aF hF [.tmp 4] rfl rfl rfl (aA h) (by simp only [aT, go_sem])
attribute [go_sem] bU
noncomputable def bI (F : Md) (g : Ex → (List (List Nat)) → Option (Bool)) (s_0 : (List Ex)) (f_1 : ((List (List Nat)) × Unit)) : Option Bool :=
 (bY F g s_0 f_1).bind (fun v_6 => some (decide ((0 : Int) ≤ v_6)))
def dS : PlR := ⟨[(0, .A [0, 1]), (1, .A [4])], []⟩
def dY : Ty := .pair (.sl .expr) (.pair (.clo 130 (.pair (.rp (.sl .str)) .unit)) .unit)
noncomputable def bP (F : Md) (g : Ex → (List (List Nat)) → Option (Bool)) : aG := mSpec dY (.one .bool) (fun x => bI F g x.1 x.2.1)
noncomputable def dZ (F : Md) (g : Ex → (List (List Nat)) → Option (Bool)) : List (FuncId × aG) := [(198, (bU F g))]
theorem jD (F : Md) (g : Ex → (List (List Nat)) → Option (Bool)) (hg : FOK Tryz.prog GL 64 (fH g)) : bC Tryz.prog GL (dZ F g) := .cons (jT F g hg) (by kernel_rfl) (.nil)
theorem gW (F : Md) (g : Ex → (List (List Nat)) → Option (Bool)) : gam (dZ F g) 198 = some (bU F g) := rfl
attribute [go_sem] dY dS gW
set_option maxHeartbeats 4000000 in
theorem iL (F : Md) (g : Ex → (List (List Nat)) → Option (Bool)) (hg : FOK Tryz.prog GL 64 (fH g)) : FOK Tryz.prog GL 129 (bP F g) := by
 refine bG (aW (jD F g hg)) mix Tryz.func129 rfl (by kernel_rfl) (by decide) dS fun w0 S x Θ hw h hF => ?_
 obtain ⟨(s_0 : (List Ex)), (f_1 : ((List (List Nat)) × Unit)), u⟩ := x
 simp only [bH, go_sem]
 replace h : sat (bI F g s_0 f_1) _ := h
 unfold bI at h
 obtain ⟨v_6, hv, h⟩ := aH h
 try simp only [hv, go_sem]
 exact aF hF [.tmp 4] rfl rfl rfl (aA h) (by simp only [aT, go_sem])
attribute [go_sem] bP
noncomputable def sH (F : Md) (g : Ex → (List (List Nat)) → Option (Bool)) (e_0 : Ex) (names_1 : (List (List Nat))) : Option Bool :=
 ck ((sF F (e_0.kind)).isSome = true) (if ¬ (((sF F (e_0.kind)).getD (0 : Int)) = (((e_0.l).length : Nat) : Int)) then some false else if (e_0.kind) = (1 : Int) then ck ((yO F (e_0.text)).isSome = true) (some ((yO F (e_0.text)).getD false)) else if (e_0.kind) = (2 : Int) then ck (¬ ((e_0.text) = (aI ⟨#[116]⟩)) → ((cY F names_1 (e_0.text)).isSome = true)) (some ((decide ((e_0.text) = (aI ⟨#[116]⟩))) || ((cY F names_1 (e_0.text)).getD false))) else ck (((e_0.text) = (aI ⟨#[]⟩)) → ((bI F g (e_0.l) (names_1, ())).isSome = true)) (some ((decide ((e_0.text) = (aI ⟨#[]⟩))) && (!((bI F g (e_0.l) (names_1, ())).getD false)))))
noncomputable def oJ (F : Md) (g : Ex → (List (List Nat)) → Option (Bool)) : List (FuncId × aG) := [(129, (bP F g)), (127, (uK F)), (128, (zN F)), (71, (dI F))]
theorem aFN (F : Md) (g : Ex → (List (List Nat)) → Option (Bool)) (hg : FOK Tryz.prog GL 64 (fH g)) : bC Tryz.prog GL (oJ F g) := .cons (iL F g hg) (by kernel_rfl) (.cons (aKM F) (by kernel_rfl) (.cons (aNb F) (by kernel_rfl) (.cons (oR F) (by kernel_rfl) (.nil))))
theorem aGG (F : Md) (g : Ex → (List (List Nat)) → Option (Bool)) : gam (oJ F g) 129 = some (bP F g) := rfl
attribute [go_sem] aGG
theorem aGH (F : Md) (g : Ex → (List (List Nat)) → Option (Bool)) : gam (oJ F g) 127 = some (uK F) := rfl
attribute [go_sem] aGH
theorem aGI (F : Md) (g : Ex → (List (List Nat)) → Option (Bool)) : gam (oJ F g) 128 = some (zN F) := rfl
attribute [go_sem] aGI
theorem aIk (F : Md) (g : Ex → (List (List Nat)) → Option (Bool)) : gam (oJ F g) 71 = some (dI F) := rfl
attribute [go_sem] aIk
set_option maxHeartbeats 4000000 in
theorem aJ7 (F : Md) (g : Ex → (List (List Nat)) → Option (Bool)) (hg : FOK Tryz.prog GL 64 (fH g)) : FOK Tryz.prog GL 64 (mSpec oI (.one .bool) (fun x => sH F g x.1 x.2.1)) := by
 refine kN (aW (aFN F g hg)) Tryz.func64 rfl (by kernel_rfl) (by decide) fun w0 S x r hw h => ?_
 have hF : iQ (fr Tryz.prog (EM (oJ F g)) S w0 Tryz.f64.ntmps) := ⟨aW (aFN F g hg), mix⟩
 obtain ⟨(e_0 : Ex), (names_1 : (List (List Nat))), u⟩ := x
 simp only [oI, Ty.wf, lO] at hw
 simp only [bH, oI]
 try dsimp only at h
 replace h : sH F g e_0 names_1 = some r := h
 unfold sH at h
 refine aB (aU hF [2, 3] ?_)
 simp only [go_sem]
 refine aC (aB (aB (aD hF [2, 3, 11] ?_)))
 simp only [go_sem]
 obtain ⟨g0, h⟩ := aJ h
 repeat (refine ⟨zAA, ?_⟩)
 refine aC (bD rfl (fun hc => ?_) (fun hc => ?_))
 ·try simp only [go_sem] at hc
  have h := dP zAB h
  refine aB (aD hF [4] ?_)
  simp only [go_sem]
  obtain rfl := Option.some.inj h
  refine aC (cH (bN (dC hF [.tmp 4] rfl rfl rfl ?_)))
  exact zAH
 ·try simp only [go_sem] at hc
  have h := dQ zAB h
  refine bL (aC (aB (aB (aD hF [2, 3, 13] ?_))))
  simp only [go_sem]
  refine aC (cJ (aB (aD hF [2, 3, 13, 14] ?_)))
  simp only [go_sem]
  refine aC (bD rfl (fun hc => ?_) (fun hc => ?_))
  ·try simp only [go_sem] at hc
   have h := dP zAB h
   refine aB (aD hF [4] ?_)
   simp only [go_sem]
   obtain ⟨g0, h⟩ := aJ h
   repeat (refine ⟨zAA, ?_⟩)
   obtain rfl := Option.some.inj h
   refine aC (cH (iR (bN (dC hF [.tmp 4] rfl rfl rfl ?_))))
   exact zAH
  ·try simp only [go_sem] at hc
   have h := dQ zAB h
   refine aB (aD hF [2, 3, 19] ?_)
   simp only [go_sem]
   refine aC (bD rfl (fun hc => ?_) (fun hc => ?_))
   ·try simp only [go_sem] at hc
    have h := dP zAB h
    refine aB (aD hF [4] ?_)
    simp only [go_sem]
    obtain ⟨g0, h⟩ := aJ h
    repeat (refine ⟨zAF, ?_⟩)
    obtain rfl := Option.some.inj h
    refine aC (cH (iR (bN (dC hF [.tmp 4] rfl rfl rfl ?_))))
    exact zAH
   ·try simp only [go_sem] at hc
    have h := dQ zAB h
    refine bL (dE (aC (aB (vC 1 rfl ?_))))
    simp only [go_sem]
    refine aD hF [4] ?_
    simp only [go_sem]
    obtain ⟨g0, h⟩ := aJ h
    repeat (refine ⟨zAF, ?_⟩)
    obtain rfl := Option.some.inj h
    refine aC (cH (dC hF [.tmp 4] rfl rfl rfl ?_))
    exact zAH
noncomputable def xH (F : Md) : Nat → Ex → (List (List Nat)) → Option (Bool)
 | 0 => fun _ _ => none
 | n + 1 => sH F (xH F n)
noncomputable def uL (F : Md) (n : Nat) : aG := mSpec oI (.one .bool) (fun x => xH F n x.1 x.2.1)
theorem aDS (F : Md) : ∀ n, FOK Tryz.prog GL 64 (uL F n)
 | 0 => fun _ _ _ _ _ _ _ hp => Bool.noConfusion (show false = true from hp)
 | n + 1 => aJ7 F _ (aDS F n)
attribute [go_sem] uL
end Nu
end Go.Proofs
namespace Go.Proofs
open Go.Vc
set_option maxRecDepth 20000
namespace Nu
attribute [-go_sem] Ex.kind Ex.text Ex.l
@[reducible] def aRY (xs : List (List Nat)) : Prop := xs.length * 16 ≤ 140737488355328
def nB : Ty := .pair (.sl .str) .unit
noncomputable def fV : aG := ⟨nB, .own 9 .str, fun x => aRY x.1, fun x => id x.1⟩
attribute [go_sem] fV nB
noncomputable def tB (F : Md) : List (FuncId × aG) := []
theorem tC (F : Md) : bC Tryz.prog GL (tB F) := .nil
theorem aBH : FOK Tryz.prog GL 137 fV := by
 refine aNB (aW (tC none)) Tryz.func137 rfl (by kernel_rfl) (by decide) fun w0 S x hw hp => ?_
 have hF : iQ (fr Tryz.prog (EM (tB none)) S w0 Tryz.f137.ntmps) := ⟨aW (tC none), mix⟩
 obtain ⟨(s : (List (List Nat))), u⟩ := x
 have hp : s.length * 16 ≤ 140737488355328 := hp
 simp only [bH, nB, fV]
 refine aB (aD hF [0, 2] ?_)
 simp only [go_sem]
 refine aC (aB (aB (aLj hF rfl rfl rfl fun b hb => ?_)))
 refine aC (bD rfl (fun hc => ?_) (fun hc => ?_))
 ·have hs := hb hc
  refine aB (aD hF [2] ?_)
  simp only [go_sem]
  refine aC (cH (bN (dC hF [.tmp 2] rfl rfl rfl ?_)))
  simp only [fE, aT, go_sem, hs]
  try trivial
 ·refine bL (aC (aB (aU hF [2] ?_)))
  simp only [go_sem]
  refine ⟨by omega, ?_⟩
  refine aC (cH (dC hF [.tmp 2] rfl rfl rfl ?_))
  simp only [fE, aT, go_sem]
  try trivial
noncomputable def kQ (F : Md) (e_0 : Ex) (names_1 : (List (List Nat))) : Option Bool :=
 (zQ F e_0).bind (fun v_6 => ck ((v_6 = true) → ((xH F 64 e_0 names_1).isSome = true)) (some (v_6 && ((xH F 64 e_0 names_1).getD false))))
def aAV : PlR := ⟨[(0, .B [1, 2]), (1, .A [4])], []⟩
def aBU : Ty := .pair .expr (.pair (.sl .str) .unit)
noncomputable def jN (F : Md) : aG := mSpec aBU (.one .bool) (fun x => kQ F x.1 x.2.1)
noncomputable def vV (F : Md) : List (FuncId × aG) := [(63, (xF F)), (64, (uL F 64))]
theorem aIl (F : Md) : bC Tryz.prog GL (vV F) := .cons (aMc F) (by kernel_rfl) (.cons (aDS F 64) (by kernel_rfl) (.nil))
theorem aEr (F : Md) : gam (vV F) 63 = some (xF F) := rfl
theorem aEs (F : Md) : gam (vV F) 64 = some (uL F 64) := rfl
attribute [go_sem] aBU aAV aEr aEs
set_option maxHeartbeats 4000000 in
theorem aAW (F : Md) : FOK Tryz.prog GL 25 (jN F) := by
 refine bG (aW (aIl F)) mix Tryz.func25 rfl (by kernel_rfl) (by decide) aAV fun w0 S x Θ hw h hF => ?_
 obtain ⟨(e_0 : Ex), (names_1 : (List (List Nat))), u⟩ := x
 simp only [bH, go_sem]
 replace h : sat (kQ F e_0 names_1) _ := h
 unfold kQ at h
 obtain ⟨v_6, hv, h⟩ := aH h
 try simp only [hv, go_sem]
 refine aP h fun g0 h => ?_
 exact aF hF [.tmp 4] rfl rfl rfl (aA h) (by simp only [aT, go_sem])
attribute [go_sem] jN
noncomputable def oK (F : Md) (a_0 : ((List Nat) × (Ex × Unit))) (a1_1 : (List (List Nat))) : Option Bool :=
 (kQ F a_0.2.1 a1_1).bind (fun v_6 => some (!v_6))
def zR : PlR := ⟨[(0, .B [1, 2]), (1, .A [3])], []⟩
def aAX : Ty := .pair (.pair .str (.pair .expr .unit)) (.pair (.rp (.sl .str)) .unit)
noncomputable def nE (F : Md) : aG := mSpec aAX (.one .bool) (fun x => oK F x.1 x.2.1)
noncomputable def aAY (F : Md) : List (FuncId × aG) := [(25, (jN F))]
theorem aGJ (F : Md) : bC Tryz.prog GL (aAY F) := .cons (aAW F) (by kernel_rfl) (.nil)
theorem aDs (F : Md) : gam (aAY F) 25 = some (jN F) := rfl
attribute [go_sem] aAX zR aDs
set_option maxHeartbeats 4000000 in
theorem aFO (F : Md) : FOK Tryz.prog GL 140 (nE F) := by
 refine bG (aW (aGJ F)) mix Tryz.func140 rfl (by kernel_rfl) (by decide) zR fun w0 S x Θ hw h hF => ?_
 obtain ⟨(a_0 : ((List Nat) × (Ex × Unit))), (a1_1 : (List (List Nat))), u⟩ := x
 simp only [bH, go_sem]
 replace h : sat (oK F a_0 a1_1) _ := h
 unfold oK at h
 obtain ⟨v_6, hv, h⟩ := aH h
 try simp only [hv, go_sem]
 exact aF hF [.tmp 3] rfl rfl rfl (aA h) (by simp only [aT, go_sem])
attribute [go_sem] nE
noncomputable def cL (F : Md) (s_0 : (List ((List Nat) × (Ex × Unit)))) (f_1 : ((List (List Nat)) × Unit)) (x8_14 : Int) : Option ((Int) ⊕ ((Unit) ⊕ Int)) :=
 if x8_14 < (((s_0.length) : Nat) : Int) then ck (0 ≤ x8_14 ∧ x8_14 < (((s_0.length) : Nat) : Int)) ((oK F (s_0.getD (x8_14.toNat) ([], (Ex.mk 0 [] []), ())) f_1.1).bind (fun v_27 => if v_27 = true then some (.inr (.inr x8_14)) else ck (I64 (x8_14 + (1 : Int))) (some (.inl (x8_14 + (1 : Int)))))) else some (.inr (.inl ()))
noncomputable def bZ (F : Md) (s_0 : (List ((List Nat) × (Ex × Unit)))) (f_1 : ((List (List Nat)) × Unit)) : Option Int :=
 (cW F (fun d : Int => cL F s_0 f_1 d) (0 : Int)).bind (fun e => match e with | (.inl e) => some (-1 : Int) | (.inr e) => some e)
def eN : PlR := ⟨[(0, .A [0, 1]), (1, .A [0, 1, 7, 8]), (2, .A [0, 1, 7, 8, 9]), (3, .A [0, 1, 5, 7, 8]), (4, .A [0, 1, 5, 7, 8, 16]), (5, .A [4]), (6, .A [0, 1, 7, 8]), (7, .A [4])], []⟩
def eS : Ty := .pair (.sl (.pair .str (.pair .expr .unit))) (.pair (.clo 140 (.pair (.rp (.sl .str)) .unit)) .unit)
noncomputable def bV (F : Md) : aG := mSpec eS (.one (.i .i64)) (fun x => bZ F x.1 x.2.1)
noncomputable def eT (F : Md) : List (FuncId × aG) := [(140, (nE F))]
theorem kG (F : Md) : bC Tryz.prog GL (eT F) := .cons (aFO F) (by kernel_rfl) (.nil)
theorem iM (F : Md) : gam (eT F) 140 = some (nE F) := rfl
attribute [go_sem] eS eN iM
set_option maxHeartbeats 4000000 in
theorem jU (F : Md) : FOK Tryz.prog GL 204 (bV F) := by
 refine bG (aW (kG F)) mix Tryz.func204 rfl (by kernel_rfl) (by decide) eN fun w0 S x Θ hw h hF => ?_
 obtain ⟨(s_0 : (List ((List Nat) × (Ex × Unit)))), (f_1 : ((List (List Nat)) × Unit)), u⟩ := x
 simp only [bH, go_sem]
 replace h : sat (bZ F s_0 f_1) _ := h
 unfold bZ at h
 refine cB hF (D := Int) [0, 1, 7] (fun d => [(8, .val (.i .i64) d)]) (fun d => []) h rfl (by simp only [go_sem]) ?_
 rintro x8_14 A2 T2 hA2 hE2 h
 simp only [go_sem]
 replace h : sat (cL F s_0 f_1 x8_14) _ := h
 unfold cL at h
 refine fF h (fun hc h => ?_) fun hc h => ?_
 ·refine aP h fun g0 h => ?_
  obtain ⟨v_27, hv, h⟩ := aH h
  try simp only [hv, go_sem]
  refine aE8 h (fun hc h => ?_) fun hc h => ?_
  ·replace h := hE2 _ (aA h)
   try dsimp only at h
   exact aF hF [.tmp 4] rfl rfl rfl (aA h) (by simp only [aT, go_sem])
  ·refine aP h fun g0 h => ?_
   replace h := hA2 _ (aA h)
   exact aQ _ h rfl (by simp only [go_sem])
 ·replace h := hE2 _ (aA h)
  try dsimp only at h
  exact aF hF [.tmp 4] rfl rfl rfl (aA h) (by simp only [aT, go_sem])
attribute [go_sem] bV
noncomputable def bJ (F : Md) (s_0 : (List ((List Nat) × (Ex × Unit)))) (f_1 : ((List (List Nat)) × Unit)) : Option Bool :=
 (bZ F s_0 f_1).bind (fun v_6 => some (decide ((0 : Int) ≤ v_6)))
def dT : PlR := ⟨[(0, .A [0, 1]), (1, .A [4])], []⟩
def eA : Ty := .pair (.sl (.pair .str (.pair .expr .unit))) (.pair (.clo 140 (.pair (.rp (.sl .str)) .unit)) .unit)
noncomputable def bQ (F : Md) : aG := mSpec eA (.one .bool) (fun x => bJ F x.1 x.2.1)
noncomputable def eB (F : Md) : List (FuncId × aG) := [(204, (bV F))]
theorem jE (F : Md) : bC Tryz.prog GL (eB F) := .cons (jU F) (by kernel_rfl) (.nil)
theorem gX (F : Md) : gam (eB F) 204 = some (bV F) := rfl
attribute [go_sem] eA dT gX
set_option maxHeartbeats 4000000 in
theorem iN (F : Md) : FOK Tryz.prog GL 139 (bQ F) := by
 refine bG (aW (jE F)) mix Tryz.func139 rfl (by kernel_rfl) (by decide) dT fun w0 S x Θ hw h hF => ?_
 obtain ⟨(s_0 : (List ((List Nat) × (Ex × Unit)))), (f_1 : ((List (List Nat)) × Unit)), u⟩ := x
 simp only [bH, go_sem]
 replace h : sat (bJ F s_0 f_1) _ := h
 unfold bJ at h
 obtain ⟨v_6, hv, h⟩ := aH h
 try simp only [hv, go_sem]
 exact aF hF [.tmp 4] rfl rfl rfl (aA h) (by simp only [aT, go_sem])
attribute [go_sem] bQ
noncomputable def yQ (F : Md) (s_0 : ((List Nat) × ((List ((List Nat) × (((List Nat) × ((List Nat) × Unit)) × (Ex × Unit)))) × ((List ((List Nat) × (((List Nat) × ((List Nat) × Unit)) × Unit))) × ((List (List Nat)) × ((List ((List Nat) × (Ex × Unit))) × Unit)))))) (x93_11 : Int) : Option ((Int) ⊕ ((Unit) ⊕ Bool)) :=
 if x93_11 < (((s_0.2.2.1.length) : Nat) : Int) then ck (0 ≤ x93_11 ∧ x93_11 < (((s_0.2.2.1.length) : Nat) : Int)) (ck ((gV F (s_0.2.2.1.getD (x93_11.toNat) ([], ([], [], ()), ())).2.1).isSome = true) (if ¬ (((gV F (s_0.2.2.1.getD (x93_11.toNat) ([], ([], [], ()), ())).2.1).getD false) = true) then some (.inr (.inr false)) else ck (I64 (x93_11 + (1 : Int))) (some (.inl (x93_11 + (1 : Int)))))) else some (.inr (.inl ()))
noncomputable def sI (F : Md) (s_0 : ((List Nat) × ((List ((List Nat) × (((List Nat) × ((List Nat) × Unit)) × (Ex × Unit)))) × ((List ((List Nat) × (((List Nat) × ((List Nat) × Unit)) × Unit))) × ((List (List Nat)) × ((List ((List Nat) × (Ex × Unit))) × Unit)))))) : Option (Bool) :=
 (cW F (fun d : Int => yQ F s_0 d) (0 : Int)).bind (fun e => match e with | (.inl e) => ck ((bJ F s_0.2.2.2.2.1 (((bF F ([((aR F s_0).getD (([] : List (List Nat)), ([] : List (List Nat)), ([] : List (List Nat)), ())).1, ((aR F s_0).getD (([] : List (List Nat)), ([] : List (List Nat)), ([] : List (List Nat)), ())).2.1, ((aR F s_0).getD (([] : List (List Nat)), ([] : List (List Nat)), ([] : List (List Nat)), ())).2.2.1] : List (List (List Nat)))).getD ([] : List (List Nat))), ())).isSome = true) (some (!((bJ F s_0.2.2.2.2.1 (((bF F ([((aR F s_0).getD (([] : List (List Nat)), ([] : List (List Nat)), ([] : List (List Nat)), ())).1, ((aR F s_0).getD (([] : List (List Nat)), ([] : List (List Nat)), ([] : List (List Nat)), ())).2.1, ((aR F s_0).getD (([] : List (List Nat)), ([] : List (List Nat)), ([] : List (List Nat)), ())).2.2.1] : List (List (List Nat)))).getD ([] : List (List Nat))), ())).getD false))) | (.inr e) => some e)
noncomputable def yR (F : Md) (s_0 : ((List Nat) × ((List ((List Nat) × (((List Nat) × ((List Nat) × Unit)) × (Ex × Unit)))) × ((List ((List Nat) × (((List Nat) × ((List Nat) × Unit)) × Unit))) × ((List (List Nat)) × ((List ((List Nat) × (Ex × Unit))) × Unit)))))) (x74_14 : Int) : Option ((Int) ⊕ ((Unit) ⊕ Bool)) :=
 if x74_14 < (((s_0.2.1.length) : Nat) : Int) then ck (0 ≤ x74_14 ∧ x74_14 < (((s_0.2.1.length) : Nat) : Int)) (ck ((gV F (s_0.2.1.getD (x74_14.toNat) ([], ([], [], ()), (Ex.mk 0 [] []), ())).2.1).isSome = true) (ck (¬ (¬ (((gV F (s_0.2.1.getD (x74_14.toNat) ([], ([], [], ()), (Ex.mk 0 [] []), ())).2.1).getD false) = true)) → ((kQ F (s_0.2.1.getD (x74_14.toNat) ([], ([], [], ()), (Ex.mk 0 [] []), ())).2.2.1 ((bF F ([((aR F s_0).getD (([] : List (List Nat)), ([] : List (List Nat)), ([] : List (List Nat)), ())).1, ((aR F s_0).getD (([] : List (List Nat)), ([] : List (List Nat)), ([] : List (List Nat)), ())).2.1, ((aR F s_0).getD (([] : List (List Nat)), ([] : List (List Nat)), ([] : List (List Nat)), ())).2.2.1] : List (List (List Nat)))).getD ([] : List (List Nat)))).isSome = true)) (if (¬ (((gV F (s_0.2.1.getD (x74_14.toNat) ([], ([], [], ()), (Ex.mk 0 [] []), ())).2.1).getD false) = true)) ∨ (¬ (((kQ F (s_0.2.1.getD (x74_14.toNat) ([], ([], [], ()), (Ex.mk 0 [] []), ())).2.2.1 ((bF F ([((aR F s_0).getD (([] : List (List Nat)), ([] : List (List Nat)), ([] : List (List Nat)), ())).1, ((aR F s_0).getD (([] : List (List Nat)), ([] : List (List Nat)), ([] : List (List Nat)), ())).2.1, ((aR F s_0).getD (([] : List (List Nat)), ([] : List (List Nat)), ([] : List (List Nat)), ())).2.2.1] : List (List (List Nat)))).getD ([] : List (List Nat)))).getD false) = true)) then some (.inr (.inr false)) else ck (I64 (x74_14 + (1 : Int))) (some (.inl (x74_14 + (1 : Int))))))) else some (.inr (.inl ()))
noncomputable def sJ (F : Md) (s_0 : ((List Nat) × ((List ((List Nat) × (((List Nat) × ((List Nat) × Unit)) × (Ex × Unit)))) × ((List ((List Nat) × (((List Nat) × ((List Nat) × Unit)) × Unit))) × ((List (List Nat)) × ((List ((List Nat) × (Ex × Unit))) × Unit)))))) (all_6 : (List (List Nat))) : Option (Bool) :=
 ck ((mX F all_6).isSome = true) (if ¬ (((mX F all_6).getD false) = true) then some false else (cW F (fun d : Int => yR F s_0 d) (0 : Int)).bind (fun e => match e with | (.inl e) => sI F s_0 | (.inr e) => some e))
noncomputable def zS (F : Md) (s_0 : ((List Nat) × ((List ((List Nat) × (((List Nat) × ((List Nat) × Unit)) × (Ex × Unit)))) × ((List ((List Nat) × (((List Nat) × ((List Nat) × Unit)) × Unit))) × ((List (List Nat)) × ((List ((List Nat) × (Ex × Unit))) × Unit)))))) (x58_17 : Int) (all_18 : (List (List Nat))) : Option ((Int × (List (List Nat))) ⊕ (List (List Nat))) :=
 if x58_17 < (((s_0.2.2.2.2.1.length) : Nat) : Int) then ck (0 ≤ x58_17 ∧ x58_17 < (((s_0.2.2.2.2.1.length) : Nat) : Int)) (ck (((all_18.length) + (1 : Nat)) * 16 ≤ 140737488355328) (ck (I64 (x58_17 + (1 : Int))) (some (.inl ((x58_17 + (1 : Int)), (all_18 ++ ([(s_0.2.2.2.2.1.getD (x58_17.toNat) ([], (Ex.mk 0 [] []), ())).1] : List (List Nat)))))))) else some (.inr all_18)
noncomputable def sK (F : Md) (s_0 : ((List Nat) × ((List ((List Nat) × (((List Nat) × ((List Nat) × Unit)) × (Ex × Unit)))) × ((List ((List Nat) × (((List Nat) × ((List Nat) × Unit)) × Unit))) × ((List (List Nat)) × ((List ((List Nat) × (Ex × Unit))) × Unit)))))) : Option Bool :=
 if (((((((s_0.2.1.length) : Nat) : Int) < (1 : Int)) ∨ ((6 : Int) < (((s_0.2.1.length) : Nat) : Int))) ∨ ((6 : Int) < (((s_0.2.2.1.length) : Nat) : Int))) ∨ ((4 : Int) < (((s_0.2.2.2.1.length) : Nat) : Int))) ∨ ((4 : Int) < (((s_0.2.2.2.2.1.length) : Nat) : Int)) then some false else ck ((aR F s_0).isSome = true) (ck ((bF F ([((aR F s_0).getD (([] : List (List Nat)), ([] : List (List Nat)), ([] : List (List Nat)), ())).1, ((aR F s_0).getD (([] : List (List Nat)), ([] : List (List Nat)), ([] : List (List Nat)), ())).2.1, ((aR F s_0).getD (([] : List (List Nat)), ([] : List (List Nat)), ([] : List (List Nat)), ())).2.2.1] : List (List (List Nat)))).isSome = true) (ck (aRY ((bF F ([((aR F s_0).getD (([] : List (List Nat)), ([] : List (List Nat)), ([] : List (List Nat)), ())).1, ((aR F s_0).getD (([] : List (List Nat)), ([] : List (List Nat)), ([] : List (List Nat)), ())).2.1, ((aR F s_0).getD (([] : List (List Nat)), ([] : List (List Nat)), ([] : List (List Nat)), ())).2.2.1] : List (List (List Nat)))).getD ([] : List (List Nat)))) ((cW F (fun d : Int × (List (List Nat)) => zS F s_0 d.1 d.2) ((0 : Int), (id ((bF F ([((aR F s_0).getD (([] : List (List Nat)), ([] : List (List Nat)), ([] : List (List Nat)), ())).1, ((aR F s_0).getD (([] : List (List Nat)), ([] : List (List Nat)), ([] : List (List Nat)), ())).2.1, ((aR F s_0).getD (([] : List (List Nat)), ([] : List (List Nat)), ([] : List (List Nat)), ())).2.2.1] : List (List (List Nat)))).getD ([] : List (List Nat)))))).bind (fun e => sJ F s_0 e))))
def sL : Ty := .pair (.pair .str (.pair (.sl (.pair .str (.pair (.pair .str (.pair .str .unit)) (.pair .expr .unit)))) (.pair (.sl (.pair .str (.pair (.pair .str (.pair .str .unit)) .unit))) (.pair (.sl .str) (.pair (.sl (.pair .str (.pair .expr .unit))) .unit))))) .unit
attribute [go_sem] sL
noncomputable def qB (F : Md) : aG := mSpec sL (.one .bool) (fun x => sK F x.1)
noncomputable def fW (F : Md) : List (FuncId × aG) := [(139, (bQ F)), (135, (sA F)), (136, (iF F)), (137, fV), (138, (pY F)), (25, (jN F)), (68, (lW F))]
theorem aCW (F : Md) : bC Tryz.prog GL (fW F) := .cons (iN F) (by kernel_rfl) (.cons (aJ3 F) (by kernel_rfl) (.cons (aAS F) (by kernel_rfl) (.cons aBH (by kernel_rfl) (.cons (aIh F) (by kernel_rfl) (.cons (aAW F) (by kernel_rfl) (.cons (aCO F) (by kernel_rfl) (.nil)))))))
theorem aEt (F : Md) : gam (fW F) 139 = some (bQ F) := rfl
attribute [go_sem] aEt
theorem aEu (F : Md) : gam (fW F) 135 = some (sA F) := rfl
attribute [go_sem] aEu
theorem aEv (F : Md) : gam (fW F) 136 = some (iF F) := rfl
attribute [go_sem] aEv
theorem aEw (F : Md) : gam (fW F) 137 = some fV := rfl
attribute [go_sem] aEw
theorem aEx (F : Md) : gam (fW F) 138 = some (pY F) := rfl
attribute [go_sem] aEx
theorem aFP (F : Md) : gam (fW F) 25 = some (jN F) := rfl
attribute [go_sem] aFP
theorem aFQ (F : Md) : gam (fW F) 68 = some (lW F) := rfl
attribute [go_sem] aFQ
set_option maxHeartbeats 4000000 in
theorem aIm (F : Md) : FOK Tryz.prog GL 67 (qB F) := by
 refine kN (aW (aCW F)) Tryz.func67 rfl (by kernel_rfl) (by decide) fun w0 S x r hw h => ?_
 have hF : iQ (fr Tryz.prog (EM (fW F)) S w0 Tryz.f67.ntmps) := ⟨aW (aCW F), mix⟩
 obtain ⟨(s_0 : ((List Nat) × ((List ((List Nat) × (((List Nat) × ((List Nat) × Unit)) × (Ex × Unit)))) × ((List ((List Nat) × (((List Nat) × ((List Nat) × Unit)) × Unit))) × ((List (List Nat)) × ((List ((List Nat) × (Ex × Unit))) × Unit)))))), u⟩ := x
 simp only [sL, Ty.wf, lO] at hw
 simp only [bH, sL]
 try dsimp only at h
 replace h : sK F s_0 = some r := h
 unfold sK at h
 refine aB (aU hF [1] ?_)
 simp only [go_sem]
 refine aC (aB (aB (aD hF [1, 41] ?_)))
 simp only [go_sem]
 refine aC (bD rfl (fun hc => ?_) (fun hc => ?_))
 ·try simp only [go_sem] at hc
  have h := dP zAB h
  refine aB (aD hF [2] ?_)
  simp only [go_sem]
  obtain rfl := Option.some.inj h
  refine aC (cH (bN (dC hF [.tmp 2] rfl rfl rfl ?_)))
  exact zAH
 ·try simp only [go_sem] at hc
  have h := dQ zAB h
  refine bL (aC (aB (aD hF [1, 3, 4, 5] ?_)))
  simp only [go_sem]
  obtain ⟨g0, h⟩ := aJ h
  repeat (refine ⟨zAA, ?_⟩)
  refine aC (aB (aU hF [1, 6] ?_))
  simp only [go_sem]
  obtain ⟨g0, h⟩ := aJ h
  repeat (refine ⟨zAA, ?_⟩)
  refine aC (aB (aU hF [1, 6, 7] ?_))
  simp only [go_sem]
  obtain ⟨g0, h⟩ := aJ h
  repeat (refine ⟨zAA, ?_⟩)
  refine aC (eZ (D := (List (List Nat))) (fun d => sJ F s_0 d = some r) [] (fun d => [(1, .ptr 0 []), (6, .ptr 1 []), (7, .own 2)]) (fun d => [.inr (.box 5 (.val (.pair .str (.pair (.sl (.pair .str (.pair (.pair .str (.pair .str .unit)) (.pair .expr .unit)))) (.pair (.sl (.pair .str (.pair (.pair .str (.pair .str .unit)) .unit))) (.pair (.sl .str) (.pair (.sl (.pair .str (.pair .expr .unit))) .unit))))) s_0)), .inr (.box 1 (.val (.sl .str) ((bF F ([((aR F s_0).getD (([] : List (List Nat)), ([] : List (List Nat)), ([] : List (List Nat)), ())).1, ((aR F s_0).getD (([] : List (List Nat)), ([] : List (List Nat)), ([] : List (List Nat)), ())).2.1, ((aR F s_0).getD (([] : List (List Nat)), ([] : List (List Nat)), ([] : List (List Nat)), ())).2.2.1] : List (List (List Nat)))).getD ([] : List (List Nat))))), .inr (.row 9 .str d)]) ?_ ?_)
  ·refine aB (aD hF [1, 6, 7, 56, 57, 58] ?_)
   simp only [go_sem]
   refine aC (cJ (jL (D := Int × (List (List Nat))) [56, 57] (fun d => [(1, .ptr 0 []), (6, .ptr 1 []), (7, .own 2), (58, .val (.i .i64) d.1)]) (fun d => [.inr (.box 5 (.val (.pair .str (.pair (.sl (.pair .str (.pair (.pair .str (.pair .str .unit)) (.pair .expr .unit)))) (.pair (.sl (.pair .str (.pair (.pair .str (.pair .str .unit)) .unit))) (.pair (.sl .str) (.pair (.sl (.pair .str (.pair .expr .unit))) .unit))))) s_0)), .inr (.box 1 (.val (.sl .str) ((bF F ([((aR F s_0).getD (([] : List (List Nat)), ([] : List (List Nat)), ([] : List (List Nat)), ())).1, ((aR F s_0).getD (([] : List (List Nat)), ([] : List (List Nat)), ([] : List (List Nat)), ())).2.1, ((aR F s_0).getD (([] : List (List Nat)), ([] : List (List Nat)), ([] : List (List Nat)), ())).2.2.1] : List (List (List Nat)))).getD ([] : List (List Nat))))), .inr (.row 9 .str d.2)]) h ?_ ?_ ?_))
   ·first | rfl | (simp only [go_sem]; done)
   ·exact zAG
   rintro ⟨x58_17, all_18⟩ s7 h hs7
   simp only [go_sem]
   try dsimp only at h
   unfold zS at h
   refine aB (aD hF [1, 6, 7, 56, 57, 58, 59] ?_)
   simp only [go_sem]
   refine aC (aB (bD rfl (fun hc => ?_) (fun hc => ?_)))
   ·try simp only [go_sem] at hc
    have h := dP zAB h
    refine bL (aC (aB (cJ (aB (aU hF [1, 6, 7, 9, 56, 57, 58] ?_)))))
    simp only [go_sem]
    obtain ⟨g0, h⟩ := aJ h
    repeat (refine ⟨zAA, ?_⟩)
    refine aC (aU hF [1, 6, 7, 56, 57, 58] ?_)
    simp only [go_sem]
    obtain ⟨g0, h⟩ := aJ h
    repeat (refine ⟨zAA, ?_⟩)
    refine dE (aC (aD hF [1, 6, 7, 56, 57, 58] ?_))
    simp only [go_sem]
    obtain ⟨g0, h⟩ := aJ h
    try simp only [I64, I32] at g0
    repeat (refine ⟨zAA, ?_⟩)
    obtain rfl := Option.some.inj h
    dsimp only [kI] at hs7
    refine aS (fZ [0, 1, 4] rfl rfl ?_)
    simp only [ren, eF, gZ, posOf, cQ, go_sem]
    refine aQ ((x58_17 + (1 : Int)), (all_18 ++ ([(s_0.2.2.2.2.1.getD (x58_17.toNat) ([], (Ex.mk 0 [] []), ())).1] : List (List Nat)))) hs7 rfl ?_
    ·exact zAG
   ·try simp only [go_sem] at hc
    have h := dQ zAB h
    obtain rfl := Option.some.inj h
    dsimp only [kI] at hs7
    have h := hs7
    try dsimp only at h
    refine kT (bM (bM (cX (aS (aQ (all_18) h rfl ?_)))))
    ·exact zAG
  ·rintro all_6 h
   try dsimp only at h
   simp only [go_sem]
   unfold sJ at h
   refine aB (aB (aD hF [1, 6, 70] ?_))
   simp only [go_sem]
   obtain ⟨g0, h⟩ := aJ h
   repeat (refine ⟨zAA, ?_⟩)
   refine aC (bD rfl (fun hc => ?_) (fun hc => ?_))
   ·try simp only [go_sem] at hc
    have h := dP zAB h
    refine aB (aD hF [2] ?_)
    simp only [go_sem]
    obtain rfl := Option.some.inj h
    refine aC (cH (bN (dC hF [.tmp 2] rfl rfl rfl ?_)))
    exact zAH
   ·try simp only [go_sem] at hc
    have h := dQ zAB h
    refine bL (aC (eZ (D := Unit) (fun d => sI F s_0 = some r) [] (fun d => [(1, .ptr 0 []), (6, .ptr 1 [])]) (fun d => [.inr (.box 5 (.val (.pair .str (.pair (.sl (.pair .str (.pair (.pair .str (.pair .str .unit)) (.pair .expr .unit)))) (.pair (.sl (.pair .str (.pair (.pair .str (.pair .str .unit)) .unit))) (.pair (.sl .str) (.pair (.sl (.pair .str (.pair .expr .unit))) .unit))))) s_0)), .inr (.box 1 (.val (.sl .str) ((bF F ([((aR F s_0).getD (([] : List (List Nat)), ([] : List (List Nat)), ([] : List (List Nat)), ())).1, ((aR F s_0).getD (([] : List (List Nat)), ([] : List (List Nat)), ([] : List (List Nat)), ())).2.1, ((aR F s_0).getD (([] : List (List Nat)), ([] : List (List Nat)), ([] : List (List Nat)), ())).2.2.1] : List (List (List Nat)))).getD ([] : List (List Nat)))))]) ?_ ?_))
    ·refine aB (aD hF [1, 6, 72, 73, 74] ?_)
     simp only [go_sem]
     refine aC (cJ (wL [0, 1] rfl rfl ?_))
     simp only [ren, eF, gZ, posOf, cQ, go_sem]
     refine jL (D := Int) [72, 73] (fun d => [(1, .ptr 0 []), (6, .ptr 1 []), (74, .val (.i .i64) d)]) (fun d => [.inr (.box 5 (.val (.pair .str (.pair (.sl (.pair .str (.pair (.pair .str (.pair .str .unit)) (.pair .expr .unit)))) (.pair (.sl (.pair .str (.pair (.pair .str (.pair .str .unit)) .unit))) (.pair (.sl .str) (.pair (.sl (.pair .str (.pair .expr .unit))) .unit))))) s_0)), .inr (.box 1 (.val (.sl .str) ((bF F ([((aR F s_0).getD (([] : List (List Nat)), ([] : List (List Nat)), ([] : List (List Nat)), ())).1, ((aR F s_0).getD (([] : List (List Nat)), ([] : List (List Nat)), ([] : List (List Nat)), ())).2.1, ((aR F s_0).getD (([] : List (List Nat)), ([] : List (List Nat)), ([] : List (List Nat)), ())).2.2.1] : List (List (List Nat)))).getD ([] : List (List Nat)))))]) h ?_ ?_ ?_
     ·first | rfl | (simp only [go_sem]; done)
     ·exact zAG
     rintro x74_14 s14 h hs14
     simp only [go_sem]
     try dsimp only at h
     unfold yR at h
     refine aB (aD hF [1, 6, 72, 73, 74, 75] ?_)
     simp only [go_sem]
     refine aC (aB (bD rfl (fun hc => ?_) (fun hc => ?_)))
     ·try simp only [go_sem] at hc
      have h := dP zAB h
      refine bL (aC (aB (cJ (aB (aU hF [1, 6, 11, 72, 73, 74] ?_)))))
      simp only [go_sem]
      obtain ⟨g0, h⟩ := aJ h
      repeat (refine ⟨zAA, ?_⟩)
      refine aC (aB (aD hF [1, 6, 72, 73, 74, 88] ?_))
      simp only [go_sem]
      obtain ⟨g0, h⟩ := aJ h
      obtain ⟨g1, h⟩ := aJ h
      repeat (refine ⟨by first | with_reducible assumption | omega | (intros; first | with_reducible assumption | omega) | (simp only [go_sem] at *; first | with_reducible assumption | omega) | (intro _; exact ⟨rfl, by decide⟩) | (intro _; refine (?_ : _ = aV _); rfl) | exact ⟨rfl, rfl⟩ | (intro q0; (try have e1 := g1 zAD); first | assumption | omega) | decide, ?_⟩)
      refine aC (bD rfl (fun hc => ?_) (fun hc => ?_))
      ·try simp only [go_sem] at hc
       have h := dP zAB h
       refine aB (aD hF [2] ?_)
       simp only [go_sem]
       obtain rfl := Option.some.inj h
       dsimp only [kI] at hs14
       have h := hs14
       try dsimp only at h
       obtain rfl := Option.some.inj h
       refine aC (cH (iR (bN (bN (iR (bN (dC hF [.tmp 2] rfl rfl rfl ?_)))))))
       exact zAH
      ·try simp only [go_sem] at hc
       have h := dQ zAB h
       refine bL (dE (aC (aD hF [1, 6, 72, 73, 74] ?_)))
       simp only [go_sem]
       obtain ⟨g0, h⟩ := aJ h
       try simp only [I64, I32] at g0
       repeat (refine ⟨zAA, ?_⟩)
       obtain rfl := Option.some.inj h
       dsimp only [kI] at hs14
       refine aS (fZ [0, 1] rfl rfl ?_)
       simp only [ren, eF, gZ, posOf, cQ, go_sem]
       refine aQ (x74_14 + (1 : Int)) hs14 rfl ?_
       ·exact zAG
     ·try simp only [go_sem] at hc
      have h := dQ zAB h
      obtain rfl := Option.some.inj h
      dsimp only [kI] at hs14
      have h := hs14
      try dsimp only at h
      refine kT (bM (bM (cX (aS (aQ () h rfl ?_)))))
      ·exact zAG
    ·rintro u h
     try dsimp only at h
     simp only [go_sem]
     unfold sI at h
     refine aB (aB (aD hF [1, 6, 91, 92, 93] ?_))
     simp only [go_sem]
     refine aC (cJ (jL (D := Int) [91, 92] (fun d => [(1, .ptr 0 []), (6, .ptr 1 []), (93, .val (.i .i64) d)]) (fun d => [.inr (.box 5 (.val (.pair .str (.pair (.sl (.pair .str (.pair (.pair .str (.pair .str .unit)) (.pair .expr .unit)))) (.pair (.sl (.pair .str (.pair (.pair .str (.pair .str .unit)) .unit))) (.pair (.sl .str) (.pair (.sl (.pair .str (.pair .expr .unit))) .unit))))) s_0)), .inr (.box 1 (.val (.sl .str) ((bF F ([((aR F s_0).getD (([] : List (List Nat)), ([] : List (List Nat)), ([] : List (List Nat)), ())).1, ((aR F s_0).getD (([] : List (List Nat)), ([] : List (List Nat)), ([] : List (List Nat)), ())).2.1, ((aR F s_0).getD (([] : List (List Nat)), ([] : List (List Nat)), ([] : List (List Nat)), ())).2.2.1] : List (List (List Nat)))).getD ([] : List (List Nat)))))]) h ?_ ?_ ?_))
     ·first | rfl | (simp only [go_sem]; done)
     ·exact zAG
     rintro x93_11 s20 h hs20
     simp only [go_sem]
     try dsimp only at h
     unfold yQ at h
     refine aB (aD hF [1, 6, 91, 92, 93, 94] ?_)
     simp only [go_sem]
     refine aC (aB (bD rfl (fun hc => ?_) (fun hc => ?_)))
     ·try simp only [go_sem] at hc
      have h := dP zAB h
      refine bL (aC (aB (cJ (aB (aU hF [1, 6, 13, 91, 92, 93] ?_)))))
      simp only [go_sem]
      obtain ⟨g0, h⟩ := aJ h
      repeat (refine ⟨zAA, ?_⟩)
      refine aC (aB (aD hF [1, 6, 91, 92, 93, 100] ?_))
      simp only [go_sem]
      obtain ⟨g0, h⟩ := aJ h
      repeat (refine ⟨zAA, ?_⟩)
      refine aC (bD rfl (fun hc => ?_) (fun hc => ?_))
      ·try simp only [go_sem] at hc
       have h := dP zAB h
       refine aB (aD hF [2] ?_)
       simp only [go_sem]
       obtain rfl := Option.some.inj h
       dsimp only [kI] at hs20
       have h := hs20
       try dsimp only at h
       obtain rfl := Option.some.inj h
       refine aC (cH (iR (bN (bN (iR (bN (dC hF [.tmp 2] rfl rfl rfl ?_)))))))
       exact zAH
      ·try simp only [go_sem] at hc
       have h := dQ zAB h
       refine bL (dE (aC (aD hF [1, 6, 91, 92, 93] ?_)))
       simp only [go_sem]
       obtain ⟨g0, h⟩ := aJ h
       try simp only [I64, I32] at g0
       repeat (refine ⟨zAA, ?_⟩)
       obtain rfl := Option.some.inj h
       dsimp only [kI] at hs20
       refine aS (fZ [0, 1] rfl rfl ?_)
       simp only [ren, eF, gZ, posOf, cQ, go_sem]
       refine aQ (x93_11 + (1 : Int)) hs20 rfl ?_
       ·exact zAG
     ·try simp only [go_sem] at hc
      have h := dQ zAB h
      obtain rfl := Option.some.inj h
      dsimp only [kI] at hs20
      have h := hs20
      try dsimp only at h
      refine kT (bM (bM (cX (aC (aB (vC 1 rfl ?_))))))
      simp only [go_sem]
      refine aD hF [2] ?_
      simp only [go_sem]
      obtain ⟨g0, h⟩ := aJ h
      repeat (refine ⟨zAA, ?_⟩)
      obtain rfl := Option.some.inj h
      refine aC (cH (dC hF [.tmp 2] rfl rfl rfl ?_))
      exact zAH
attribute [go_sem] qB
noncomputable def vW (F : Md) (s_0 : (Int × (Int × (Int × (Int × ((List Nat) × ((List Nat) × ((List Nat) × ((List Nat) × ((List ((List Nat) × ((List ((List Nat) × (((List Nat) × ((List Nat) × Unit)) × (Ex × Unit)))) × ((List ((List Nat) × (((List Nat) × ((List Nat) × Unit)) × Unit))) × ((List (List Nat)) × ((List ((List Nat) × (Ex × Unit))) × Unit)))))) × ((List ((List Nat) × ((List Nat) × ((List Nat) × ((List Nat) × Unit))))) × Unit))))))))))) (sub_1 : (List Nat)) (x10_5 : Int) : Option ((Int) ⊕ ((Unit) ⊕ Int)) :=
 if x10_5 < (((s_0.2.2.2.2.2.2.2.2.1.length) : Nat) : Int) then ck (0 ≤ x10_5 ∧ x10_5 < (((s_0.2.2.2.2.2.2.2.2.1.length) : Nat) : Int)) (if (s_0.2.2.2.2.2.2.2.2.1.getD (x10_5.toNat) ([], [], [], [], [], ())).1 = sub_1 then some (.inr (.inr x10_5)) else ck (I64 (x10_5 + (1 : Int))) (some (.inl (x10_5 + (1 : Int))))) else some (.inr (.inl ()))
noncomputable def xI (F : Md) (s_0 : (Int × (Int × (Int × (Int × ((List Nat) × ((List Nat) × ((List Nat) × ((List Nat) × ((List ((List Nat) × ((List ((List Nat) × (((List Nat) × ((List Nat) × Unit)) × (Ex × Unit)))) × ((List ((List Nat) × (((List Nat) × ((List Nat) × Unit)) × Unit))) × ((List (List Nat)) × ((List ((List Nat) × (Ex × Unit))) × Unit)))))) × ((List ((List Nat) × ((List Nat) × ((List Nat) × ((List Nat) × Unit))))) × Unit))))))))))) (sub_1 : (List Nat)) : Option Int :=
 (cW F (fun d : Int => vW F s_0 sub_1 d) (0 : Int)).bind (fun e => match e with | (.inl e) => some (-1 : Int) | (.inr e) => some e)
def aDT : PlR := ⟨[(0, .B [1, 2]), (1, .A [1, 8, 9, 10]), (2, .A [1, 8, 9, 10, 11]), (3, .B [1, 5, 6, 8, 9, 10]), (4, .A [1, 5, 8, 9, 10, 18]), (5, .A [4]), (6, .A [1, 8, 9, 10]), (7, .A [4])], []⟩
def aFR : Ty := .pair (.pair (.i .i64) (.pair (.i .i64) (.pair (.i .i64) (.pair (.i .i64) (.pair .str (.pair .str (.pair .str (.pair .str (.pair (.sl (.pair .str (.pair (.sl (.pair .str (.pair (.pair .str (.pair .str .unit)) (.pair .expr .unit)))) (.pair (.sl (.pair .str (.pair (.pair .str (.pair .str .unit)) .unit))) (.pair (.sl .str) (.pair (.sl (.pair .str (.pair .expr .unit))) .unit)))))) (.pair (.sl (.pair .str (.pair .str (.pair .str (.pair .str .unit))))) .unit)))))))))) (.pair .str .unit)
noncomputable def uM (F : Md) : aG := mSpec aFR (.one (.i .i64)) (fun x => xI F x.1 x.2.1)
noncomputable def aMd (F : Md) : List (FuncId × aG) := []
theorem aMe (F : Md) : bC Tryz.prog GL (aMd F) := .nil
attribute [go_sem] aFR aDT
set_option maxHeartbeats 4000000 in
theorem aKN (F : Md) : FOK Tryz.prog GL 62 (uM F) := by
 refine bG (aW (aMe F)) mix Tryz.func62 rfl (by kernel_rfl) (by decide) aDT fun w0 S x Θ hw h hF => ?_
 obtain ⟨(s_0 : (Int × (Int × (Int × (Int × ((List Nat) × ((List Nat) × ((List Nat) × ((List Nat) × ((List ((List Nat) × ((List ((List Nat) × (((List Nat) × ((List Nat) × Unit)) × (Ex × Unit)))) × ((List ((List Nat) × (((List Nat) × ((List Nat) × Unit)) × Unit))) × ((List (List Nat)) × ((List ((List Nat) × (Ex × Unit))) × Unit)))))) × ((List ((List Nat) × ((List Nat) × ((List Nat) × ((List Nat) × Unit))))) × Unit))))))))))), (sub_1 : (List Nat)), u⟩ := x
 simp only [bH, go_sem]
 replace h : sat (xI F s_0 sub_1) _ := h
 unfold xI at h
 refine wL [] rfl rfl ?_
 simp only [go_sem]
 refine cB hF (D := Int) [1, 8, 9] (fun d => [(10, .val (.i .i64) d)]) (fun d => []) h rfl (by simp only [go_sem]) ?_
 rintro x10_5 A2 T2 hA2 hE2 h
 simp only [go_sem]
 replace h : sat (vW F s_0 sub_1 x10_5) _ := h
 unfold vW at h
 refine fF h (fun hc h => ?_) fun hc h => ?_
 ·refine aP h fun g0 h => ?_
  refine cT h (fun hc h => ?_) fun hc h => ?_
  ·replace h := hE2 _ (aA h)
   try dsimp only at h
   exact aF hF [.tmp 4] rfl rfl rfl (aA h) (by simp only [aT, go_sem])
  ·refine aP h fun g0 h => ?_
   replace h := hA2 _ (aA h)
   refine fZ [] rfl rfl ?_
   simp only [go_sem]
   exact aQ _ h rfl (by simp only [go_sem])
 ·replace h := hE2 _ (aA h)
  try dsimp only at h
  exact aF hF [.tmp 4] rfl rfl rfl (aA h) (by simp only [aT, go_sem])
attribute [go_sem] uM
noncomputable def oL (F : Md) (o_0 : ((List Nat) × (Ex × Unit))) (a1_1 : (List ((List Nat) × ((List Nat) × ((List Nat) × ((List Nat) × Unit)))))) : Option Bool :=
 ck ((0 : Int) < (((a1_1.length) : Nat) : Int)) (some (decide (o_0.1 = (a1_1.getD (0 : Nat) ([], [], [], [], ())).2.2.2.1)))
def zT : PlR := ⟨[(0, .B [1, 2]), (1, .A [3])], []⟩
def aAZ : Ty := .pair (.pair .str (.pair .expr .unit)) (.pair (.rp (.sl (.pair .str (.pair .str (.pair .str (.pair .str .unit)))))) .unit)
noncomputable def nF (F : Md) : aG := mSpec aAZ (.one .bool) (fun x => oL F x.1 x.2.1)
noncomputable def aGK (F : Md) : List (FuncId × aG) := []
theorem aGL (F : Md) : bC Tryz.prog GL (aGK F) := .nil
attribute [go_sem] aAZ zT
set_option maxHeartbeats 4000000 in
theorem aFS (F : Md) : FOK Tryz.prog GL 141 (nF F) := by
 refine bG (aW (aGL F)) mix Tryz.func141 rfl (by kernel_rfl) (by decide) zT fun w0 S x Θ hw h hF => ?_
 obtain ⟨(o_0 : ((List Nat) × (Ex × Unit))), (a1_1 : (List ((List Nat) × ((List Nat) × ((List Nat) × ((List Nat) × Unit)))))), u⟩ := x
 simp only [bH, go_sem]
 replace h : sat (oL F o_0 a1_1) _ := h
 unfold oL at h
 refine aP h fun g0 h => ?_
 exact aF hF [.tmp 3] rfl rfl rfl (aA h) (by simp only [aT, go_sem])
attribute [go_sem] nF
noncomputable def cM (F : Md) (s_0 : (List ((List Nat) × (Ex × Unit)))) (f_1 : ((List ((List Nat) × ((List Nat) × ((List Nat) × ((List Nat) × Unit))))) × Unit)) (x8_14 : Int) : Option ((Int) ⊕ ((Unit) ⊕ Int)) :=
 if x8_14 < (((s_0.length) : Nat) : Int) then ck (0 ≤ x8_14 ∧ x8_14 < (((s_0.length) : Nat) : Int)) ((oL F (s_0.getD (x8_14.toNat) ([], (Ex.mk 0 [] []), ())) f_1.1).bind (fun v_27 => if v_27 = true then some (.inr (.inr x8_14)) else ck (I64 (x8_14 + (1 : Int))) (some (.inl (x8_14 + (1 : Int)))))) else some (.inr (.inl ()))
noncomputable def cA (F : Md) (s_0 : (List ((List Nat) × (Ex × Unit)))) (f_1 : ((List ((List Nat) × ((List Nat) × ((List Nat) × ((List Nat) × Unit))))) × Unit)) : Option Int :=
 (cW F (fun d : Int => cM F s_0 f_1 d) (0 : Int)).bind (fun e => match e with | (.inl e) => some (-1 : Int) | (.inr e) => some e)
def eO : PlR := ⟨[(0, .A [0, 1]), (1, .A [0, 1, 7, 8]), (2, .A [0, 1, 7, 8, 9]), (3, .A [0, 1, 5, 7, 8]), (4, .A [0, 1, 5, 7, 8, 16]), (5, .A [4]), (6, .A [0, 1, 7, 8]), (7, .A [4])], []⟩
def eU : Ty := .pair (.sl (.pair .str (.pair .expr .unit))) (.pair (.clo 141 (.pair (.rp (.sl (.pair .str (.pair .str (.pair .str (.pair .str .unit)))))) .unit)) .unit)
noncomputable def bW (F : Md) : aG := mSpec eU (.one (.i .i64)) (fun x => cA F x.1 x.2.1)
noncomputable def eV (F : Md) : List (FuncId × aG) := [(141, (nF F))]
theorem kH (F : Md) : bC Tryz.prog GL (eV F) := .cons (aFS F) (by kernel_rfl) (.nil)
theorem iO (F : Md) : gam (eV F) 141 = some (nF F) := rfl
attribute [go_sem] eU eO iO
set_option maxHeartbeats 4000000 in
theorem jV (F : Md) : FOK Tryz.prog GL 204 (bW F) := by
 refine bG (aW (kH F)) mix Tryz.func204 rfl (by kernel_rfl) (by decide) eO fun w0 S x Θ hw h hF => ?_
 obtain ⟨(s_0 : (List ((List Nat) × (Ex × Unit)))), (f_1 : ((List ((List Nat) × ((List Nat) × ((List Nat) × ((List Nat) × Unit))))) × Unit)), u⟩ := x
 simp only [bH, go_sem]
 replace h : sat (cA F s_0 f_1) _ := h
 unfold cA at h
 refine cB hF (D := Int) [0, 1, 7] (fun d => [(8, .val (.i .i64) d)]) (fun d => []) h rfl (by simp only [go_sem]) ?_
 rintro x8_14 A2 T2 hA2 hE2 h
 simp only [go_sem]
 replace h : sat (cM F s_0 f_1 x8_14) _ := h
 unfold cM at h
 refine fF h (fun hc h => ?_) fun hc h => ?_
 ·refine aP h fun g0 h => ?_
  obtain ⟨v_27, hv, h⟩ := aH h
  try simp only [hv, go_sem]
  refine aE8 h (fun hc h => ?_) fun hc h => ?_
  ·replace h := hE2 _ (aA h)
   try dsimp only at h
   exact aF hF [.tmp 4] rfl rfl rfl (aA h) (by simp only [aT, go_sem])
  ·refine aP h fun g0 h => ?_
   replace h := hA2 _ (aA h)
   exact aQ _ h rfl (by simp only [go_sem])
 ·replace h := hE2 _ (aA h)
  try dsimp only at h
  exact aF hF [.tmp 4] rfl rfl rfl (aA h) (by simp only [aT, go_sem])
attribute [go_sem] bW
noncomputable def bK (F : Md) (s_0 : (List ((List Nat) × (Ex × Unit)))) (f_1 : ((List ((List Nat) × ((List Nat) × ((List Nat) × ((List Nat) × Unit))))) × Unit)) : Option Bool :=
 (cA F s_0 f_1).bind (fun v_6 => some (decide ((0 : Int) ≤ v_6)))
def dU : PlR := ⟨[(0, .A [0, 1]), (1, .A [4])], []⟩
def eC : Ty := .pair (.sl (.pair .str (.pair .expr .unit))) (.pair (.clo 141 (.pair (.rp (.sl (.pair .str (.pair .str (.pair .str (.pair .str .unit)))))) .unit)) .unit)
noncomputable def bR (F : Md) : aG := mSpec eC (.one .bool) (fun x => bK F x.1 x.2.1)
noncomputable def eD (F : Md) : List (FuncId × aG) := [(204, (bW F))]
theorem jF (F : Md) : bC Tryz.prog GL (eD F) := .cons (jV F) (by kernel_rfl) (.nil)
theorem gY (F : Md) : gam (eD F) 204 = some (bW F) := rfl
attribute [go_sem] eC dU gY
set_option maxHeartbeats 4000000 in
theorem iP (F : Md) : FOK Tryz.prog GL 139 (bR F) := by
 refine bG (aW (jF F)) mix Tryz.func139 rfl (by kernel_rfl) (by decide) dU fun w0 S x Θ hw h hF => ?_
 obtain ⟨(s_0 : (List ((List Nat) × (Ex × Unit)))), (f_1 : ((List ((List Nat) × ((List Nat) × ((List Nat) × ((List Nat) × Unit))))) × Unit)), u⟩ := x
 simp only [bH, go_sem]
 replace h : sat (bK F s_0 f_1) _ := h
 unfold bK at h
 obtain ⟨v_6, hv, h⟩ := aH h
 try simp only [hv, go_sem]
 exact aF hF [.tmp 4] rfl rfl rfl (aA h) (by simp only [aT, go_sem])
attribute [go_sem] bR
noncomputable def sM (F : Md) (s_0 : (Int × (Int × (Int × (Int × ((List Nat) × ((List Nat) × ((List Nat) × ((List Nat) × ((List ((List Nat) × ((List ((List Nat) × (((List Nat) × ((List Nat) × Unit)) × (Ex × Unit)))) × ((List ((List Nat) × (((List Nat) × ((List Nat) × Unit)) × Unit))) × ((List (List Nat)) × ((List ((List Nat) × (Ex × Unit))) × Unit)))))) × ((List ((List Nat) × ((List Nat) × ((List Nat) × ((List Nat) × Unit))))) × Unit))))))))))) (x14_42 : Int) (x21_83 : Int) (l_84 : (List ((List Nat) × ((List Nat) × ((List Nat) × ((List Nat) × Unit)))))) : Option ((Int × (List ((List Nat) × ((List Nat) × ((List Nat) × ((List Nat) × Unit)))))) ⊕ ((List ((List Nat) × ((List Nat) × ((List Nat) × ((List Nat) × Unit))))) ⊕ Bool)) :=
 if x21_83 < (((s_0.2.2.2.2.2.2.2.2.1.getD (x14_42.toNat) ([], [], [], [], [], ())).2.2.2.1.length : Nat) : Int) then ck (0 ≤ x21_83 ∧ x21_83 < (((s_0.2.2.2.2.2.2.2.2.1.getD (x14_42.toNat) ([], [], [], [], [], ())).2.2.2.1.length : Nat) : Int)) (ck (¬ ((((l_84.length) : Nat) : Int) = (0 : Int)) → ((0 : Int) < (((l_84.length) : Nat) : Int))) (ck (¬ (((((l_84.length) : Nat) : Int) = (0 : Int)) ∨ (¬ ((l_84.getD (0 : Nat) ([], [], [], [], ())).1 = (s_0.2.2.2.2.2.2.2.2.1.getD (x14_42.toNat) ([], [], [], [], [], ())).1))) → ((0 : Int) < (((l_84.length) : Nat) : Int))) (if (((((l_84.length) : Nat) : Int) = (0 : Int)) ∨ (¬ ((l_84.getD (0 : Nat) ([], [], [], [], ())).1 = (s_0.2.2.2.2.2.2.2.2.1.getD (x14_42.toNat) ([], [], [], [], [], ())).1))) ∨ (¬ ((l_84.getD (0 : Nat) ([], [], [], [], ())).2.1 = ((s_0.2.2.2.2.2.2.2.2.1.getD (x14_42.toNat) ([], [], [], [], [], ())).2.2.2.1.getD (x21_83.toNat) ([] : List Nat)))) then some (.inr (.inr false)) else ck ((0 : Int) < (((l_84.length) : Nat) : Int)) ((xI F s_0 (l_84.getD (0 : Nat) ([], [], [], [], ())).2.2.1).bind (fun v_99 => ck (¬ (v_99 < (0 : Int)) → (0 ≤ v_99 ∧ v_99 < (((s_0.2.2.2.2.2.2.2.2.1.length) : Nat) : Int))) (ck (¬ (v_99 < (0 : Int)) → ((bK F (s_0.2.2.2.2.2.2.2.2.1.getD (v_99.toNat) ([], [], [], [], [], ())).2.2.2.2.1 (l_84, ())).isSome = true)) (if (v_99 < (0 : Int)) ∨ (¬ (((bK F (s_0.2.2.2.2.2.2.2.2.1.getD (v_99.toNat) ([], [], [], [], [], ())).2.2.2.2.1 (l_84, ())).getD false) = true)) then some (.inr (.inr false)) else ck ((1 : Int) ≤ (((l_84.length) : Nat) : Int)) (ck (I64 (x21_83 + (1 : Int))) (some (.inl ((x21_83 + (1 : Int)), (List.drop (1 : Nat) l_84)))))))))))) else some (.inr (.inl l_84))
noncomputable def sN (F : Md) (s_0 : (Int × (Int × (Int × (Int × ((List Nat) × ((List Nat) × ((List Nat) × ((List Nat) × ((List ((List Nat) × ((List ((List Nat) × (((List Nat) × ((List Nat) × Unit)) × (Ex × Unit)))) × ((List ((List Nat) × (((List Nat) × ((List Nat) × Unit)) × Unit))) × ((List (List Nat)) × ((List ((List Nat) × (Ex × Unit))) × Unit)))))) × ((List ((List Nat) × ((List Nat) × ((List Nat) × ((List Nat) × Unit))))) × Unit))))))))))) (x14_42 : Int) (l_43 : (List ((List Nat) × ((List Nat) × ((List Nat) × ((List Nat) × Unit)))))) : Option ((Int × (List ((List Nat) × ((List Nat) × ((List Nat) × ((List Nat) × Unit)))))) ⊕ ((List ((List Nat) × ((List Nat) × ((List Nat) × ((List Nat) × Unit))))) ⊕ Bool)) :=
 if x14_42 < (((s_0.2.2.2.2.2.2.2.2.1.length) : Nat) : Int) then ck (0 ≤ x14_42 ∧ x14_42 < (((s_0.2.2.2.2.2.2.2.2.1.length) : Nat) : Int)) ((cW F (fun d : Int × (List ((List Nat) × ((List Nat) × ((List Nat) × ((List Nat) × Unit))))) => sM F s_0 x14_42 d.1 d.2) ((0 : Int), l_43)).bind (fun e => match e with | (.inl e) => ck (I64 (x14_42 + (1 : Int))) (some (.inl ((x14_42 + (1 : Int)), e))) | (.inr e) => some (.inr (.inr e)))) else some (.inr (.inl l_43))
noncomputable def nU (F : Md) (s_0 : (Int × (Int × (Int × (Int × ((List Nat) × ((List Nat) × ((List Nat) × ((List Nat) × ((List ((List Nat) × ((List ((List Nat) × (((List Nat) × ((List Nat) × Unit)) × (Ex × Unit)))) × ((List ((List Nat) × (((List Nat) × ((List Nat) × Unit)) × Unit))) × ((List (List Nat)) × ((List ((List Nat) × (Ex × Unit))) × Unit)))))) × ((List ((List Nat) × ((List Nat) × ((List Nat) × ((List Nat) × Unit))))) × Unit))))))))))) : Option Bool :=
 (cW F (fun d : Int × (List ((List Nat) × ((List Nat) × ((List Nat) × ((List Nat) × Unit))))) => sN F s_0 d.1 d.2) ((0 : Int), s_0.2.2.2.2.2.2.2.2.2.1)).bind (fun e => match e with | (.inl e) => some (decide ((((e.length) : Nat) : Int) = (0 : Int))) | (.inr e) => some e)
def aBV : PlR := ⟨[(0, .B [1]), (1, .B [1, 3]), (2, .A [1, 3, 12, 13, 14]), (3, .A [1, 3, 12, 13, 14, 15]), (4, .B [1, 3, 5, 12, 13, 14]), (5, .A [1, 3, 5, 12, 13, 14, 19, 20, 21]), (6, .A [1, 3, 5, 12, 13, 14, 19, 20, 21, 22]), (7, .A [1, 3, 5, 7, 12, 13, 14, 19, 20, 21]), (8, .A [1, 3, 5, 12, 13, 14, 19, 20, 21, 44]), (9, .A [2]), (10, .A [1, 3, 5, 8, 12, 13, 14, 19, 20, 21]), (11, .A [1, 3, 5, 12, 13, 14, 19, 20, 21, 63]), (12, .A [2]), (13, .B [1, 3, 5, 12, 13, 14, 19, 20, 21]), (14, .A [1, 3, 5, 12, 13, 14, 19, 20, 21]), (15, .A [1, 3, 12, 13, 14]), (16, .A [2])], []⟩
def aCX : Ty := .pair (.pair (.i .i64) (.pair (.i .i64) (.pair (.i .i64) (.pair (.i .i64) (.pair .str (.pair .str (.pair .str (.pair .str (.pair (.sl (.pair .str (.pair (.sl (.pair .str (.pair (.pair .str (.pair .str .unit)) (.pair .expr .unit)))) (.pair (.sl (.pair .str (.pair (.pair .str (.pair .str .unit)) .unit))) (.pair (.sl .str) (.pair (.sl (.pair .str (.pair .expr .unit))) .unit)))))) (.pair (.sl (.pair .str (.pair .str (.pair .str (.pair .str .unit))))) .unit)))))))))) .unit
noncomputable def qC (F : Md) : aG := mSpec aCX (.one .bool) (fun x => nU F x.1)
noncomputable def yS (F : Md) : List (FuncId × aG) := [(139, (bR F)), (62, (uM F))]
theorem aJ8 (F : Md) : bC Tryz.prog GL (yS F) := .cons (iP F) (by kernel_rfl) (.cons (aKN F) (by kernel_rfl) (.nil))
theorem aEy (F : Md) : gam (yS F) 139 = some (bR F) := rfl
theorem aFT (F : Md) : gam (yS F) 62 = some (uM F) := rfl
attribute [go_sem] aCX aBV aEy aFT
set_option maxHeartbeats 4000000 in
theorem aIn (F : Md) : FOK Tryz.prog GL 69 (qC F) := by
 refine bG (aW (aJ8 F)) mix Tryz.func69 rfl (by kernel_rfl) (by decide) aBV fun w0 S x Θ hw h hF => ?_
 obtain ⟨(s_0 : (Int × (Int × (Int × (Int × ((List Nat) × ((List Nat) × ((List Nat) × ((List Nat) × ((List ((List Nat) × ((List ((List Nat) × (((List Nat) × ((List Nat) × Unit)) × (Ex × Unit)))) × ((List ((List Nat) × (((List Nat) × ((List Nat) × Unit)) × Unit))) × ((List (List Nat)) × ((List ((List Nat) × (Ex × Unit))) × Unit)))))) × ((List ((List Nat) × ((List Nat) × ((List Nat) × ((List Nat) × Unit))))) × Unit))))))))))), u⟩ := x
 simp only [bH, go_sem]
 replace h : sat (nU F s_0) _ := h
 unfold nU at h
 refine cB hF (D := Int × (List ((List Nat) × ((List Nat) × ((List Nat) × ((List Nat) × Unit)))))) [12, 13] (fun d => [(1, .ptr 0 []), (3, .ptr 1 []), (14, .val (.i .i64) d.1)]) (fun d => [.inr (.box 10 (.val (.pair (.i .i64) (.pair (.i .i64) (.pair (.i .i64) (.pair (.i .i64) (.pair .str (.pair .str (.pair .str (.pair .str (.pair (.sl (.pair .str (.pair (.sl (.pair .str (.pair (.pair .str (.pair .str .unit)) (.pair .expr .unit)))) (.pair (.sl (.pair .str (.pair (.pair .str (.pair .str .unit)) .unit))) (.pair (.sl .str) (.pair (.sl (.pair .str (.pair .expr .unit))) .unit)))))) (.pair (.sl (.pair .str (.pair .str (.pair .str (.pair .str .unit))))) .unit)))))))))) s_0)), .inr (.box 1 (.val (.sl (.pair .str (.pair .str (.pair .str (.pair .str .unit))))) d.2))]) h rfl (by simp only [go_sem]) ?_
 rintro ⟨x14_42, l_43⟩ A3 T3 hA3 hE3 h
 simp only [go_sem]
 replace h : sat (sN F s_0 x14_42 l_43) _ := h
 unfold sN at h
 refine fF h (fun hc h => ?_) fun hc h => ?_
 ·obtain ⟨g0, h⟩ := aM h
  repeat (refine ⟨zAA, ?_⟩)
  refine cB hF (D := Int × (List ((List Nat) × ((List Nat) × ((List Nat) × ((List Nat) × Unit)))))) [12, 13, 14, 19, 20] (fun d => [(1, .ptr 0 []), (3, .ptr 1 []), (5, .ptr 2 []), (21, .val (.i .i64) d.1)]) (fun d => [.inr (.box 10 (.val (.pair (.i .i64) (.pair (.i .i64) (.pair (.i .i64) (.pair (.i .i64) (.pair .str (.pair .str (.pair .str (.pair .str (.pair (.sl (.pair .str (.pair (.sl (.pair .str (.pair (.pair .str (.pair .str .unit)) (.pair .expr .unit)))) (.pair (.sl (.pair .str (.pair (.pair .str (.pair .str .unit)) .unit))) (.pair (.sl .str) (.pair (.sl (.pair .str (.pair .expr .unit))) .unit)))))) (.pair (.sl (.pair .str (.pair .str (.pair .str (.pair .str .unit))))) .unit)))))))))) s_0)), .inr (.box 1 (.val (.sl (.pair .str (.pair .str (.pair .str (.pair .str .unit))))) d.2)), .inr (.box 5 (.val (.pair .str (.pair (.sl (.pair .str (.pair (.pair .str (.pair .str .unit)) (.pair .expr .unit)))) (.pair (.sl (.pair .str (.pair (.pair .str (.pair .str .unit)) .unit))) (.pair (.sl .str) (.pair (.sl (.pair .str (.pair .expr .unit))) .unit))))) (s_0.2.2.2.2.2.2.2.2.1.getD (x14_42.toNat) ([], [], [], [], [], ()))))]) h rfl (by simp only [go_sem]) ?_
  rintro ⟨x21_83, l_84⟩ A6 T6 hA6 hE6 h
  simp only [go_sem]
  replace h : sat (sM F s_0 x14_42 x21_83 l_84) _ := h
  unfold sM at h
  refine fF h (fun hc h => ?_) fun hc h => ?_
  ·obtain ⟨g0, h⟩ := aM h
   repeat (refine ⟨zAA, ?_⟩)
   obtain ⟨g0, h⟩ := aM h
   obtain ⟨g1, h⟩ := aM h
   repeat (refine ⟨zAE, ?_⟩)
   refine ⟨fun hc => ?_, fun hc => ?_⟩
   ·replace h := hP hc h
    replace h := hE6 _ (aA h)
    try dsimp only at h
    replace h := hE3 _ (aA h)
    try dsimp only at h
    exact aF hF [.tmp 2] rfl rfl rfl (aA h) (by simp only [aT, go_sem])
   ·replace h := hU hc h
    obtain ⟨g0, h⟩ := aM h
    repeat (refine ⟨zAA, ?_⟩)
    obtain ⟨v_99, hv, h⟩ := aH h
    try simp only [hv, go_sem]
    obtain ⟨g0, h⟩ := aM h
    obtain ⟨g1, h⟩ := aM h
    repeat (refine ⟨zAE, ?_⟩)
    refine ⟨fun hc => ?_, fun hc => ?_⟩
    ·replace h := hP zAB h
     replace h := hE6 _ (aA h)
     try dsimp only at h
     replace h := hE3 _ (aA h)
     try dsimp only at h
     exact aF hF [.tmp 2] rfl rfl rfl (aA h) (by simp only [aT, go_sem])
    ·replace h := hU zAB h
     obtain ⟨g0, h⟩ := aM h
     repeat (refine ⟨zAA, ?_⟩)
     obtain ⟨g0, h⟩ := aM h
     try simp only [I64, I32] at g0
     repeat (refine ⟨zAA, ?_⟩)
     replace h := hA6 _ (aA h)
     exact aQ _ h rfl (by simp only [go_sem])
  ·replace h := hE6 _ (aA h)
   try dsimp only at h
   obtain ⟨g0, h⟩ := aM h
   try simp only [I64, I32] at g0
   repeat (refine ⟨zAA, ?_⟩)
   replace h := hA3 _ (aA h)
   refine fZ [0, 1] rfl rfl ?_
   simp only [go_sem]
   exact aQ _ h rfl (by simp only [go_sem])
 ·replace h := hE3 _ (aA h)
  try dsimp only at h
  exact aF hF [.tmp 2] rfl rfl rfl (aA h) (by simp only [aT, go_sem])
attribute [go_sem] qC
noncomputable def sO (F : Md) (s_0 : (Int × (Int × (Int × (Int × ((List Nat) × ((List Nat) × ((List Nat) × ((List Nat) × ((List ((List Nat) × ((List ((List Nat) × (((List Nat) × ((List Nat) × Unit)) × (Ex × Unit)))) × ((List ((List Nat) × (((List Nat) × ((List Nat) × Unit)) × Unit))) × ((List (List Nat)) × ((List ((List Nat) × (Ex × Unit))) × Unit)))))) × ((List ((List Nat) × ((List Nat) × ((List Nat) × ((List Nat) × Unit))))) × Unit))))))))))) (names_16 : (List (List Nat))) : Option (Bool) :=
 (mX F names_16).bind (fun v_20 => ck ((v_20 = true) → ((nU F s_0).isSome = true)) (some (v_20 && ((nU F s_0).getD false))))
noncomputable def yT (F : Md) (s_0 : (Int × (Int × (Int × (Int × ((List Nat) × ((List Nat) × ((List Nat) × ((List Nat) × ((List ((List Nat) × ((List ((List Nat) × (((List Nat) × ((List Nat) × Unit)) × (Ex × Unit)))) × ((List ((List Nat) × (((List Nat) × ((List Nat) × Unit)) × Unit))) × ((List (List Nat)) × ((List ((List Nat) × (Ex × Unit))) × Unit)))))) × ((List ((List Nat) × ((List Nat) × ((List Nat) × ((List Nat) × Unit))))) × Unit))))))))))) (x24_23 : Int) (names_24 : (List (List Nat))) : Option ((Int × (List (List Nat))) ⊕ ((List (List Nat)) ⊕ Bool)) :=
 if x24_23 < (((s_0.2.2.2.2.2.2.2.2.1.length) : Nat) : Int) then ck (0 ≤ x24_23 ∧ x24_23 < (((s_0.2.2.2.2.2.2.2.2.1.length) : Nat) : Int)) ((sK F (s_0.2.2.2.2.2.2.2.2.1.getD (x24_23.toNat) ([], [], [], [], [], ()))).bind (fun v_37 => if ¬ (v_37 = true) then some (.inr (.inr false)) else ck (((names_24.length) + (1 : Nat)) * 16 ≤ 140737488355328) (ck (I64 (x24_23 + (1 : Int))) (some (.inl ((x24_23 + (1 : Int)), (names_24 ++ ([(s_0.2.2.2.2.2.2.2.2.1.getD (x24_23.toNat) ([], [], [], [], [], ())).1] : List (List Nat))))))))) else some (.inr (.inl names_24))
noncomputable def vG (F : Md) (s_0 : (Int × (Int × (Int × (Int × ((List Nat) × ((List Nat) × ((List Nat) × ((List Nat) × ((List ((List Nat) × ((List ((List Nat) × (((List Nat) × ((List Nat) × Unit)) × (Ex × Unit)))) × ((List ((List Nat) × (((List Nat) × ((List Nat) × Unit)) × Unit))) × ((List (List Nat)) × ((List ((List Nat) × (Ex × Unit))) × Unit)))))) × ((List ((List Nat) × ((List Nat) × ((List Nat) × ((List Nat) × Unit))))) × Unit))))))))))) : Option Bool :=
 (pX F s_0).bind (fun v_7 => if ((¬ (v_7 = true)) ∨ ((((s_0.2.2.2.2.2.2.2.2.1.length) : Nat) : Int) < (1 : Int))) ∨ ((4 : Int) < (((s_0.2.2.2.2.2.2.2.2.1.length) : Nat) : Int)) then some false else (cW F (fun d : Int × (List (List Nat)) => yT F s_0 d.1 d.2) ((0 : Int), ([] : List (List Nat)))).bind (fun e => match e with | (.inl e) => sO F s_0 e | (.inr e) => some e))
def aFU : PlR := ⟨[(0, .B [1]), (1, .A [1, 20]), (2, .A [2]), (3, .A [1, 3]), (4, .A [1, 3, 22, 23, 24]), (5, .A [1, 3, 22, 23, 24, 25]), (6, .B [1, 3, 5, 22, 23, 24]), (7, .A [1, 3, 5, 22, 23, 24, 30]), (8, .A [2]), (9, .B [1, 3, 22, 23, 24]), (10, .A [1, 3, 22, 23, 24]), (11, .A [2])], [(7, 14)]⟩
def aHF : Ty := .pair (.pair (.i .i64) (.pair (.i .i64) (.pair (.i .i64) (.pair (.i .i64) (.pair .str (.pair .str (.pair .str (.pair .str (.pair (.sl (.pair .str (.pair (.sl (.pair .str (.pair (.pair .str (.pair .str .unit)) (.pair .expr .unit)))) (.pair (.sl (.pair .str (.pair (.pair .str (.pair .str .unit)) .unit))) (.pair (.sl .str) (.pair (.sl (.pair .str (.pair .expr .unit))) .unit)))))) (.pair (.sl (.pair .str (.pair .str (.pair .str (.pair .str .unit))))) .unit)))))))))) .unit
noncomputable def xJ (F : Md) : aG := mSpec aHF (.one .bool) (fun x => vG F x.1)
noncomputable def vH (F : Md) : List (FuncId × aG) := [(66, (oD F)), (67, (qB F)), (68, (lW F)), (69, (qC F))]
theorem aNg (F : Md) : bC Tryz.prog GL (vH F) := .cons (aGD F) (by kernel_rfl) (.cons (aIm F) (by kernel_rfl) (.cons (aCO F) (by kernel_rfl) (.cons (aIn F) (by kernel_rfl) (.nil))))
theorem aJ9 (F : Md) : gam (vH F) 66 = some (oD F) := rfl
theorem aKa (F : Md) : gam (vH F) 67 = some (qB F) := rfl
theorem aKb (F : Md) : gam (vH F) 68 = some (lW F) := rfl
theorem aKc (F : Md) : gam (vH F) 69 = some (qC F) := rfl
attribute [go_sem] aHF aFU aJ9 aKa aKb aKc
set_option maxHeartbeats 4000000 in
theorem aMf (F : Md) : FOK Tryz.prog GL 28 (xJ F) := by
 refine bG (aW (aNg F)) mix Tryz.func28 rfl (by kernel_rfl) (by decide) aFU fun w0 S x Θ hw h hF => ?_
 obtain ⟨(s_0 : (Int × (Int × (Int × (Int × ((List Nat) × ((List Nat) × ((List Nat) × ((List Nat) × ((List ((List Nat) × ((List ((List Nat) × (((List Nat) × ((List Nat) × Unit)) × (Ex × Unit)))) × ((List ((List Nat) × (((List Nat) × ((List Nat) × Unit)) × Unit))) × ((List (List Nat)) × ((List ((List Nat) × (Ex × Unit))) × Unit)))))) × ((List ((List Nat) × ((List Nat) × ((List Nat) × ((List Nat) × Unit))))) × Unit))))))))))), u⟩ := x
 simp only [bH, go_sem]
 replace h : sat (vG F s_0) _ := h
 unfold vG at h
 obtain ⟨v_7, hv, h⟩ := aH h
 try simp only [hv, go_sem]
 refine ⟨fun hc => ?_, fun hc => ?_⟩
 ·replace h := hP zAB h
  exact aF hF [.tmp 2] rfl rfl rfl (aA h) (by simp only [aT, go_sem])
 ·replace h := hU zAB h
  refine dH hF (D := (List (List Nat))) (fun d => sat (sO F s_0 d) Θ) [] (fun d => [(1, .ptr 0 []), (3, .own 1)]) (fun d => [.inr (.box 10 (.val (.pair (.i .i64) (.pair (.i .i64) (.pair (.i .i64) (.pair (.i .i64) (.pair .str (.pair .str (.pair .str (.pair .str (.pair (.sl (.pair .str (.pair (.sl (.pair .str (.pair (.pair .str (.pair .str .unit)) (.pair .expr .unit)))) (.pair (.sl (.pair .str (.pair (.pair .str (.pair .str .unit)) .unit))) (.pair (.sl .str) (.pair (.sl (.pair .str (.pair .expr .unit))) .unit)))))) (.pair (.sl (.pair .str (.pair .str (.pair .str (.pair .str .unit))))) .unit)))))))))) s_0)), .inr (.row 9 .str d)]) ?_ ?_
  ·simp only [go_sem]
   refine aBh 3 9 .str rfl ?_
   simp only [go_sem]
   refine cB hF (D := Int × (List (List Nat))) [22, 23] (fun d => [(1, .ptr 0 []), (3, .own 1), (24, .val (.i .i64) d.1)]) (fun d => [.inr (.box 10 (.val (.pair (.i .i64) (.pair (.i .i64) (.pair (.i .i64) (.pair (.i .i64) (.pair .str (.pair .str (.pair .str (.pair .str (.pair (.sl (.pair .str (.pair (.sl (.pair .str (.pair (.pair .str (.pair .str .unit)) (.pair .expr .unit)))) (.pair (.sl (.pair .str (.pair (.pair .str (.pair .str .unit)) .unit))) (.pair (.sl .str) (.pair (.sl (.pair .str (.pair .expr .unit))) .unit)))))) (.pair (.sl (.pair .str (.pair .str (.pair .str (.pair .str .unit))))) .unit)))))))))) s_0)), .inr (.row 9 .str d.2)]) h rfl (by simp only [go_sem]) ?_
   rintro ⟨x24_23, names_24⟩ A5 T5 hA5 hE5 h
   simp only [go_sem]
   replace h : sat (yT F s_0 x24_23 names_24) _ := h
   unfold yT at h
   refine fF h (fun hc h => ?_) fun hc h => ?_
   ·obtain ⟨g0, h⟩ := aM h
    repeat (refine ⟨by omega, ?_⟩)
    obtain ⟨v_37, hv, h⟩ := aH h
    try simp only [hv, go_sem]
    refine aGn h (fun hc h => ?_) fun hc h => ?_
    ·replace h := hE5 _ (aA h)
     try dsimp only at h
     exact aF hF [.tmp 2] rfl rfl rfl (aA h) (by simp only [aT, go_sem])
    ·obtain ⟨g0, h⟩ := aM h
     repeat (refine ⟨by omega, ?_⟩)
     obtain ⟨g0, h⟩ := aM h
     repeat (refine ⟨by omega, ?_⟩)
     replace h := hA5 _ (aA h)
     refine fZ [0, 3] rfl rfl ?_
     simp only [go_sem]
     exact aQ _ h rfl (by simp only [go_sem])
   ·replace h := hE5 _ (aA h)
    try dsimp only at h
    exact aQ (names_24) h rfl (by simp only [go_sem])
  ·rintro names_16 h
   simp only [go_sem]
   replace h : sat (sO F s_0 names_16) _ := h
   unfold sO at h
   obtain ⟨v_20, hv, h⟩ := aH h
   try simp only [hv, go_sem]
   obtain ⟨g0, h⟩ := aM h
   repeat (refine ⟨by omega, ?_⟩)
   exact aF hF [.tmp 2] rfl rfl rfl (aA h) (by simp only [aT, go_sem])
attribute [go_sem] xJ
end Nu
end Go.Proofs
namespace Go.Proofs
open Go.Vc
set_option maxRecDepth 20000
namespace Nu
attribute [-go_sem] Ex.kind Ex.text Ex.l
end Nu
end Go.Proofs
namespace Go.Proofs
open Go.Vc
set_option maxRecDepth 20000
namespace Nu
attribute [-go_sem] Ex.kind Ex.text Ex.l
end Nu
end Go.Proofs
namespace Go.Proofs
open Go.Vc
set_option maxRecDepth 20000
namespace Nu
attribute [-go_sem] Ex.kind Ex.text Ex.l
noncomputable def uN (F : Md) : Option (Int × (Int × (Int × (Int × ((List Nat) × ((List Nat) × ((List Nat) × ((List Nat) × ((List ((List Nat) × ((List ((List Nat) × (((List Nat) × ((List Nat) × Unit)) × (Ex × Unit)))) × ((List ((List Nat) × (((List Nat) × ((List Nat) × Unit)) × Unit))) × ((List (List Nat)) × ((List ((List Nat) × (Ex × Unit))) × Unit)))))) × ((List ((List Nat) × ((List Nat) × ((List Nat) × ((List Nat) × Unit))))) × Unit)))))))))) :=
 some ((40 : Int), (4 : Int), (0 : Int), (1 : Int), (aI ⟨#[49]⟩), (aI ⟨#[48, 46, 53]⟩), (aI ⟨#[48, 46, 49, 50, 53]⟩), (aI ⟨#[49]⟩), ([((aI ⟨#[97]⟩), ([((aI ⟨#[120]⟩), ((aI ⟨#[49]⟩), ([] : List Nat), ()), (Ex.mk (2 : Int) (aI ⟨#[120]⟩) ([] : List Ex)), ())] : List ((List Nat) × (((List Nat) × ((List Nat) × Unit)) × (Ex × Unit)))), ([] : List ((List Nat) × (((List Nat) × ((List Nat) × Unit)) × Unit))), ([] : List (List Nat)), ([((aI ⟨#[121]⟩), (Ex.mk (2 : Int) (aI ⟨#[120]⟩) ([] : List Ex)), ())] : List ((List Nat) × (Ex × Unit))), ())] : List ((List Nat) × ((List ((List Nat) × (((List Nat) × ((List Nat) × Unit)) × (Ex × Unit)))) × ((List ((List Nat) × (((List Nat) × ((List Nat) × Unit)) × Unit))) × ((List (List Nat)) × ((List ((List Nat) × (Ex × Unit))) × Unit)))))), ([] : List ((List Nat) × ((List Nat) × ((List Nat) × ((List Nat) × Unit))))), ())
def aCY : PlR := ⟨[(0, .B [0]), (1, .B [0, 1]), (2, .B [0])], []⟩
def aDU : Ty := .unit
noncomputable def sP (F : Md) : aG := mSpec aDU (.one (.pair (.i .i64) (.pair (.i .i64) (.pair (.i .i64) (.pair (.i .i64) (.pair .str (.pair .str (.pair .str (.pair .str (.pair (.sl (.pair .str (.pair (.sl (.pair .str (.pair (.pair .str (.pair .str .unit)) (.pair .expr .unit)))) (.pair (.sl (.pair .str (.pair (.pair .str (.pair .str .unit)) .unit))) (.pair (.sl .str) (.pair (.sl (.pair .str (.pair .expr .unit))) .unit)))))) (.pair (.sl (.pair .str (.pair .str (.pair .str (.pair .str .unit))))) .unit))))))))))) (fun x => uN F )
noncomputable def aKO (F : Md) : List (FuncId × aG) := []
theorem aKP (F : Md) : bC Tryz.prog GL (aKO F) := .nil
attribute [go_sem] aDU aCY
set_option maxHeartbeats 4000000 in
theorem aKd (F : Md) : FOK Tryz.prog GL 27 (sP F) := by
 refine bG (aW (aKP F)) mix Tryz.func27 rfl (by kernel_rfl) (by decide) aCY fun w0 S x Θ hw h hF => ?_
 simp only [bH, go_sem]
 replace h : sat (uN F) _ := h
 unfold uN at h
 exact aF hF [.cell 0 54] rfl rfl rfl (aA h) (by simp only [aT, go_sem])
attribute [go_sem] sP
end Nu
end Go.Proofs
namespace Go.Proofs
open Go.Shelf
def Tryz.lays285_ren : Go.Shelf.Ren := ⟨fun | 285 => 217 | n => n, fun | 37 => 99 | 53 => 83 | 3 => 3 | 4 => 4 | 51 => 146 | 9 => 9 | 5 => 5 | 0 => 0 | n => n, fun | n => n⟩
theorem Tryz.lays285 : Go.Proofs.Lays.n285 Tryz.prog Tryz.lays285_ren := {
 mixed := by kernel_rfl
 f285 := Tryz.func217.trans (congrArg some (by kernel_rfl))
 t0 := Tryz.underlying0
 a0 := Tryz.isAgg0
 z0 := Tryz.sizeOf0
 v0 := Tryz.zeroValue0
 t3 := Tryz.underlying3
 a3 := Tryz.isAgg3
 z3 := Tryz.sizeOf3
 v3 := Tryz.zeroValue3
 t4 := Tryz.underlying4
 a4 := Tryz.isAgg4
 z4 := Tryz.sizeOf4
 v4 := Tryz.zeroValue4
 t5 := Tryz.underlying5
 a5 := Tryz.isAgg5
 z5 := Tryz.sizeOf5
 v5 := Tryz.zeroValue5
 t9 := Tryz.underlying9
 a9 := Tryz.isAgg9
 z9 := Tryz.sizeOf9
 v9 := Tryz.zeroValue9
 t37 := Tryz.underlying99
 a37 := Tryz.isAgg99
 z37 := Tryz.sizeOf99
 v37 := Tryz.zeroValue99
 t51 := Tryz.underlying146
 a51 := Tryz.isAgg146
 z51 := Tryz.sizeOf146
 v51 := Tryz.zeroValue146
 t53 := Tryz.underlying83
 a53 := Tryz.isAgg83
 z53 := Tryz.sizeOf83
 v53 := Tryz.zeroValue83 }
open Go.Vc
set_option maxRecDepth 20000
namespace Nu
def dgs (n u : Nat) : List Nat := (List.range n).map fun t => 48 + u / 10 ^ (n - 1 - t) % 10
theorem aDm (n u : Nat) : (dgs n u).length = n := by simp [dgs]
noncomputable def iG (F : Md) (uo un u : Nat) (xs : List Nat) : Option (List Nat) :=
 ck (uo + un ≤ 24) (ck (u < 10 ^ un) (some (xs.take uo ++ dgs un u ++ xs.drop (uo + un))))
noncomputable def lH (F : Md) : lP where
 D := Nat × Nat × Nat × (List Nat) × (List Nat)
 av := fun d => [.sub 0 1 d.1 d.2.1, .val (.u .u64) d.2.2.1]
 hp := fun d => [.box 24 (.val (.arr 24 (.u .u8)) d.2.2.2.1)]
 m := 1
 pre := fun d => iG F d.1 d.2.1 d.2.2.1 d.2.2.2.1 = some d.2.2.2.2
 out := fun d => (fun r : (List Nat) => .ret (.tup []) [.box 24 (.val (.arr 24 (.u .u8)) (r))]) d.2.2.2.2
attribute [go_sem] lH
theorem aHG (xs : List Nat) : (xs.map (fun (x : Nat) => [Value.int .u8 (x : Int)])).flatten = xs.map (fun (x : Nat) => Value.int .u8 (x : Int)) := by
 induction xs with
 | nil => rfl
 | cons x r ih => simp [ih]
theorem aRO {w : World} {S : Nat → Prop} {m : Nat} {xs : List Nat} {cs : List Value} (h : aO w S (.arr m (.u .u8)) xs cs) : xs.length = m ∧ cs = xs.map (fun (x : Nat) => Value.int .u8 (x : Int)) ∧ ∀ x ∈ xs, x < 256 := by
 obtain ⟨hl, css, rfl, hcl, hr⟩ := h
 have hl : xs.length = m := hl
 have key : ∀ i (h : i < xs.length) (h' : i < css.length), css[i] = [Value.int .u8 (xs[i] : Int)] ∧ xs[i] < 256 := fun i h h' => by
  obtain ⟨h1, _, h3⟩ := hr i h h'
  refine ⟨h1, ?_⟩
  simp only [IntKind.max, IntKind.signed, IntKind.bits] at h3
  simp at h3
  omega
 refine ⟨hl, ?_, fun x hx => ?_⟩
 ·have e : css = xs.map (fun (x : Nat) => [Value.int .u8 (x : Int)]) := by
   apply List.ext_getElem
   ·simp; exact hcl
   ·intro i h1 h2
    have := (key i (by simpa using h2) h1).1
    simpa using this
  rw [e, aHG]
 ·obtain ⟨i, hi, rfl⟩ := List.getElem_of_mem hx
  exact (key i hi (by have : css.length = xs.length := hcl; omega)).2
theorem aSG {w : World} {S : Nat → Prop} {m : Nat} {xs : List Nat} (hl : xs.length = m) (hx : ∀ x ∈ xs, x < 256) : aO w S (.arr m (.u .u8)) xs (xs.map (fun (x : Nat) => Value.int .u8 (x : Int))) := by
 refine ⟨hl, xs.map (fun (x : Nat) => [Value.int .u8 (x : Int)]), (aHG xs).symm, by simp, fun i h h' => ?_⟩
 ·have := hx xs[i] (List.getElem_mem h)
  refine ⟨by simp, rfl, ?_⟩
  simp only [IntKind.max, IntKind.signed, IntKind.bits]
  simp
  omega
open Go.Sort in
theorem aPy {cells : Array Value} {xs : List Nat} {uo un u v' : Nat} {dk : Array UInt8} (hc : cells.toList = xs.map (fun (x : Nat) => Value.int .u8 (x : Int))) (hle : uo + un ≤ xs.length) (hF : Lib.FmtInv un u 0 v' dk) :
  (putCells (fun (b : UInt8) => Value.int .u8 (b.toNat : Int)) uo dk cells).toList = (xs.take uo ++ dgs un u ++ xs.drop (uo + un)).map (fun (x : Nat) => Value.int .u8 (x : Int)) := by
 have hsz : cells.size = xs.length := by rw [← Array.length_toList, hc, List.length_map]
 have hdk := hF.size
 apply List.ext_getElem
 ·simp [putCells, aDm, hsz]; omega
 ·intro i h1 h2
  have hi : i < xs.length := by simpa [putCells, hsz] using h1
  have hci : cells[i]'(by omega) = Value.int .u8 (xs[i] : Int) := by
   have : cells.toList[i]'(by rw [Array.length_toList]; omega) = Value.int .u8 (xs[i] : Int) := by simp [hc]
   simpa using this
  simp only [putCells, Array.toList_mapIdx, List.getElem_mapIdx, Array.getElem_toList, List.getElem_map]
  by_cases hr : uo ≤ i ∧ i < uo + dk.size
  ·rw [if_pos hr, hF.done (i - uo) (Nat.zero_le _) (by omega)]
   have : (xs.take uo ++ dgs un u ++ xs.drop (uo + un))[i]'(by simpa using h2) = 48 + u / 10 ^ (un - 1 - (i - uo)) % 10 := by
    rw [List.getElem_append_left (by simp [aDm]; omega), List.getElem_append_right (by simp; omega)]
    simp [dgs, Nat.min_eq_left (show uo ≤ xs.length by omega)]
   rw [this]
   have hm := Nat.mod_lt (u / 10 ^ (un - 1 - (i - uo))) (show 0 < 10 by decide)
   simp only [Lib.dg, UInt8.toNat_ofNat']
   rw [Nat.mod_eq_of_lt (by omega)]
  ·rw [if_neg hr, hci]
   rcases Nat.lt_or_ge i uo with h | h
   ·rw [List.getElem_append_left (by simp [aDm]; omega), List.getElem_append_left (by simp; omega)]
    simp
   ·rw [List.getElem_append_right (by simp [aDm]; omega)]
    simp only [List.length_append, List.length_take, aDm, List.getElem_drop]
    congr 3
    omega
open Go.Sort in
theorem aAq (F : Md) : GOK Tryz.prog GL 217 (lH F) := by
 rintro c w ⟨uo, un, u, xs, r⟩ vs hpre ⟨good, glob, len, val⟩
 have hpre : iG F uo un u xs = some r := hpre
 unfold iG at hpre
 obtain ⟨h1, hpre⟩ := aJ hpre
 obtain ⟨h2, hpre⟩ := aJ hpre
 have hr : xs.take uo ++ dgs un u ++ xs.drop (uo + un) = r := Option.some.inj hpre
 obtain ⟨b, cells, e, hhd, hheap, hsz, hcl⟩ := good.objs 0 _ rfl
 obtain ⟨hl, hcs, hx⟩ := aRO hcl
 have hl : xs.length = 24 := hl
 have hcs : cells.toList = xs.map (fun (x : Nat) => Value.int .u8 (x : Int)) := hcs
 have hx : ∀ x ∈ xs, x < 256 := hx
 have hsz : cells.size = 24 := by
  rcases hsz with h | ⟨_, h⟩
  ·exact h
  ·exact absurd h (by omega)
 have hv0 := val 0 (by show 0 < 2; decide) (by rw [len]; show 0 < 2; decide)
 have hv1 := val 1 (by show 1 < 2; decide) (by rw [len]; show 1 < 2; decide)
 obtain ⟨_, hn, b', cap, hb', e0⟩ := aIw (i := 0) (s := 1) (off := uo) (n := un) hv0
 obtain ⟨e1, _, hu⟩ := aCg (k := .u64) (n := u) hv1
 rw [hhd] at hb'
 simp only [aK, Option.some.injEq] at hb'
 subst hb'
 have hvs : vs = #[.slice (some ⟨b, uo * 1, none⟩) un cap, .int .u64 (u : Int)] := by
  have hlen : vs.toList.length = 2 := len
  rw [← Array.toList_inj]
  apply List.ext_getElem
  ·exact hlen
  ·intro i a1 a2
   match i, a2 with
   | 0, _ => exact e0
   | 1, _ => exact e1
 have hd : (((xs.drop uo).take un).map UInt8.ofNat).toArray.size = un := by simp; omega
 have hcell : ∀ j (hj : j < xs.length), w.cell? ⟨b, j, none⟩ = some (.int .u8 (xs[j] : Int)) := fun j hj => by
  have hj2 : j < cells.size := by omega
  have : cells[j] = Value.int .u8 (xs[j] : Int) := by
   have : cells.toList[j]'(by rw [Array.length_toList]; omega) = Value.int .u8 (xs[j] : Int) := by simp [hcs]
   simpa using this
  simp [World.cell?, hheap, hj2, this]
 have hH : Holds (fun (b : UInt8) => Value.int .u8 (b.toNat : Int)) w b uo (((xs.drop uo).take un).map UInt8.ofNat).toArray := fun j hj => by
  rw [hd] at hj
  have hj2 : uo + j < xs.length := by omega
  refine ⟨?_, ?_⟩
  ·rw [hcell _ hj2]
   have hlt := hx xs[uo + j] (List.getElem_mem hj2)
   have : (((xs.drop uo).take un).map UInt8.ofNat).toArray[j]! = UInt8.ofNat xs[uo + j] := by
    rw [getElem!_pos _ j (by rw [hd]; exact hj)]
    simp
   rw [this]
   simp only [UInt8.toNat_ofNat']
   rw [Nat.mod_eq_of_lt (by omega)]
  ·simp [World.frozen?, hheap]
 have hB : fC .u64 = 18446744073709551616 := by decide +kernel
 have key := Any.internal_strconv_formatBase10 Tryz.lays285 b uo cap u _ w hH (by rw [hd]; exact h2) (by omega) (by rw [hd]; omega)
 rw [hd] at key
 rw [hvs, Nat.mul_one]
 refine Calls.mono (f := 217) key ?_
 rintro e w' ⟨rfl, n, v', dk, rfl, hF⟩
 refine ⟨c, .tuple #[], rfl, ?_, ?_⟩
 ·have hbl : b < w.heap.size := (Array.getElem?_eq_some_iff.1 hheap).1
  have hpc := aPy (uo := uo) (xs := xs) (u := u) (dk := dk) (un := un) hcs (by omega) hF
  have hheap' : ((putRow (fun (b : UInt8) => Value.int .u8 (b.toNat : Int)) w b uo dk).drewN n).heap[b]? = some (.cells (putCells (fun (b : UInt8) => Value.int .u8 (b.toNat : Int)) uo dk cells) e (0, 0)) := by
   show (w.heap.modify b (onCells _))[b]? = _
   rw [Array.getElem?_modify, if_pos rfl, hheap]
   rfl
  have hoth : ∀ k, k ≠ b → ((putRow (fun (b : UInt8) => Value.int .u8 (b.toNat : Int)) w b uo dk).drewN n).heap[k]? = w.heap[k]? := fun k hk => by
   show (w.heap.modify b (onCells _))[k]? = _
   rw [Array.getElem?_modify, if_neg (fun h => hk h.symm)]
  have hsize : ((putRow (fun (b : UInt8) => Value.int .u8 (b.toNat : Int)) w b uo dk).drewN n).heap.size = w.heap.size := by
   show (w.heap.modify b (onCells _)).size = _
   simp
  have hnS : ¬ c.S b := (good.own 0 _ b rfl (by show aK (c.hd 0) = some b; rw [hhd]; rfl)).2.2
  refine ⟨good.n, ⟨rfl, rfl, rfl, Nat.le_of_eq hsize.symm, fun k hk hM => hoth k (fun hkb => hM ?_)⟩, fun k hk => by rw [hsize]; exact good.sfin k hk, good.src, fun i o hio => ?_, fun i o k hio hk => ?_, fun i j oi oj k hi hj hbi hbj => ?_, good.root⟩
  ·subst hkb
   exact ⟨0, _, rfl, by show aK (c.hd 0) = some k; rw [hhd]; rfl⟩
  ·match i, hio with
   | 0, hio =>
    cases hio
    refine ⟨b, _, e, hhd, hheap', ?_, ?_⟩
    ·exact .inl (by (simp [putCells, hsz]) <;> rfl)
    ·show aO _ c.S (.arr 24 (.u .u8)) r _
     rw [hpc, hr]
     have hrl : r.length = 24 := by rw [← hr]; simp [aDm]; omega
     refine aSG hrl (fun x hxr => ?_)
     rw [← hr] at hxr
     rcases List.mem_append.1 hxr with hxr | hxr
     ·rcases List.mem_append.1 hxr with hxr | hxr
      ·exact hx x (List.mem_of_mem_take hxr)
      ·obtain ⟨t, _, rfl⟩ := List.mem_map.1 hxr
       have := Nat.mod_lt (u / 10 ^ (un - 1 - t)) (show 0 < 10 by decide)
       omega
     ·exact hx x (List.mem_of_mem_drop hxr)
   | i + 1, hio => cases hio
  ·match i, hio with
   | 0, hio =>
    cases hio
    have := good.own 0 _ k rfl hk
    rw [hsize]; exact this
   | i + 1, hio => cases hio
  ·match i, j, hi, hj with
   | 0, 0, _, _ => rfl
   | 0, j + 1, _, hj => cases hj
   | i + 1, _, hi, _ => cases hi
 ·exact ⟨[], rfl, rfl, fun i h1 _ => by cases h1⟩
end Nu
end Go.Proofs
namespace Go.Proofs
open Go.Vc
set_option maxRecDepth 20000
namespace Nu
def aEz : ByteArray := ⟨⟨48 :: 48 :: 48 :: 49 :: 48 :: 50 :: 48 :: 51 :: 48 :: 52 :: 48 :: 53 :: 48 :: 54 :: 48 :: 55 :: 48 :: 56 :: 48 :: 57 :: 49 :: 48 :: 49 :: 49 :: 49 :: 50 :: 49 :: 51 :: 49 :: 52 :: 49 :: 53 :: 49 :: 54 :: 49 :: 55 :: 49 :: 56 :: 49 :: 57 :: 50 :: 48 :: 50 :: 49 :: 50 :: 50 :: 50 :: 51 :: 50 :: 52 :: 50 :: 53 :: 50 :: 54 :: 50 :: 55 :: 50 :: 56 :: 50 :: 57 :: 51 :: 48 :: 51 :: 49 :: 51 :: 50 :: 51 :: 51 :: 51 :: 52 :: 51 :: 53 :: 51 :: 54 :: 51 :: 55 :: 51 :: 56 :: 51 :: 57 :: 52 :: 48 :: 52 :: 49 :: 52 :: 50 :: 52 :: 51 :: 52 :: 52 :: 52 :: 53 :: 52 :: 54 :: 52 :: 55 :: 52 :: 56 :: 52 :: 57 :: 53 :: 48 :: 53 :: 49 :: 53 :: 50 :: 53 :: 51 :: 53 :: 52 :: 53 :: 53 :: 53 :: 54 :: 53 :: 55 :: 53 :: 56 :: 53 :: 57 :: 54 :: 48 :: 54 :: 49 :: 54 :: 50 :: 54 :: 51 :: 54 :: 52 :: 54 :: 53 :: 54 :: 54 :: 54 :: 55 :: 54 :: 56 :: 54 :: 57 :: 55 :: 48 :: 55 :: 49 :: 55 :: 50 :: 55 :: 51 :: 55 :: 52 :: 55 :: 53 :: 55 :: 54 :: 55 :: 55 :: 55 :: 56 :: 55 :: 57 :: 56 :: 48 :: 56 :: 49 :: 56 :: 50 :: 56 :: 51 :: 56 :: 52 :: 56 :: 53 :: 56 :: 54 :: 56 :: 55 :: 56 :: 56 :: 56 :: 57 :: 57 :: 48 :: 57 :: 49 :: 57 :: 50 :: 57 :: 51 :: 57 :: 52 :: 57 :: 53 :: 57 :: 54 :: 57 :: 55 :: 57 :: 56 :: 57 :: 57 :: []⟩⟩
theorem aKQ : (⟨⟨48 :: 48 :: 48 :: 49 :: 48 :: 50 :: 48 :: 51 :: 48 :: 52 :: 48 :: 53 :: 48 :: 54 :: 48 :: 55 :: 48 :: 56 :: 48 :: 57 :: 49 :: 48 :: 49 :: 49 :: 49 :: 50 :: 49 :: 51 :: 49 :: 52 :: 49 :: 53 :: 49 :: 54 :: 49 :: 55 :: 49 :: 56 :: 49 :: 57 :: 50 :: 48 :: 50 :: 49 :: 50 :: 50 :: 50 :: 51 :: 50 :: 52 :: 50 :: 53 :: 50 :: 54 :: 50 :: 55 :: 50 :: 56 :: 50 :: 57 :: 51 :: 48 :: 51 :: 49 :: 51 :: 50 :: 51 :: 51 :: 51 :: 52 :: 51 :: 53 :: 51 :: 54 :: 51 :: 55 :: 51 :: 56 :: 51 :: 57 :: 52 :: 48 :: 52 :: 49 :: 52 :: 50 :: 52 :: 51 :: 52 :: 52 :: 52 :: 53 :: 52 :: 54 :: 52 :: 55 :: 52 :: 56 :: 52 :: 57 :: 53 :: 48 :: 53 :: 49 :: 53 :: 50 :: 53 :: 51 :: 53 :: 52 :: 53 :: 53 :: 53 :: 54 :: 53 :: 55 :: 53 :: 56 :: 53 :: 57 :: 54 :: 48 :: 54 :: 49 :: 54 :: 50 :: 54 :: 51 :: 54 :: 52 :: 54 :: 53 :: 54 :: 54 :: 54 :: 55 :: 54 :: 56 :: 54 :: 57 :: 55 :: 48 :: 55 :: 49 :: 55 :: 50 :: 55 :: 51 :: 55 :: 52 :: 55 :: 53 :: 55 :: 54 :: 55 :: 55 :: 55 :: 56 :: 55 :: 57 :: 56 :: 48 :: 56 :: 49 :: 56 :: 50 :: 56 :: 51 :: 56 :: 52 :: 56 :: 53 :: 56 :: 54 :: 56 :: 55 :: 56 :: 56 :: 56 :: 57 :: 57 :: 48 :: 57 :: 49 :: 57 :: 50 :: 57 :: 51 :: 57 :: 52 :: 57 :: 53 :: 57 :: 54 :: 57 :: 55 :: 57 :: 56 :: 57 :: 57 :: []⟩⟩ : ByteArray) = aEz := rfl
attribute [go_sem] aKQ
def aEA : ByteArray := ⟨⟨48 :: 49 :: 50 :: 51 :: 52 :: 53 :: 54 :: 55 :: 56 :: 57 :: 97 :: 98 :: 99 :: 100 :: 101 :: 102 :: 103 :: 104 :: 105 :: 106 :: 107 :: 108 :: 109 :: 110 :: 111 :: 112 :: 113 :: 114 :: 115 :: 116 :: 117 :: 118 :: 119 :: 120 :: 121 :: 122 :: []⟩⟩
theorem aKR : (⟨⟨48 :: 49 :: 50 :: 51 :: 52 :: 53 :: 54 :: 55 :: 56 :: 57 :: 97 :: 98 :: 99 :: 100 :: 101 :: 102 :: 103 :: 104 :: 105 :: 106 :: 107 :: 108 :: 109 :: 110 :: 111 :: 112 :: 113 :: 114 :: 115 :: 116 :: 117 :: 118 :: 119 :: 120 :: 121 :: 122 :: []⟩⟩ : ByteArray) = aEA := rfl
attribute [go_sem] aKR
noncomputable def kZ (F : Md) (b_0 : Bool) : Option Int :=
 if b_0 = true then some (1 : Int) else some (0 : Int)
def tD : PlR := ⟨[(0, .A [0]), (1, .A [3]), (2, .A [2]), (3, .A [2])], []⟩
def vI : Ty := .pair .bool .unit
noncomputable def kA (F : Md) : aG := mSpec vI (.one (.i .i64)) (fun x => kZ F x.1)
noncomputable def aCZ (F : Md) : List (FuncId × aG) := []
theorem aC0 (F : Md) : bC Tryz.prog GL (aCZ F) := .nil
attribute [go_sem] vI tD
set_option maxHeartbeats 4000000 in
theorem aCa (F : Md) : FOK Tryz.prog GL 249 (kA F) := by
 refine bG (aW (aC0 F)) mix Tryz.func249 rfl (by kernel_rfl) (by decide) tD fun w0 S x Θ hw h hF => ?_
 obtain ⟨(b_0 : Bool), u⟩ := x
 simp only [bH, go_sem]
 replace h : sat (kZ F b_0) _ := h
 unfold kZ at h
 refine aE8 h (fun hc h => ?_) fun hc h => ?_
 ·exact aF hF [.tmp 2] rfl rfl rfl (aA h) (by simp only [aT, go_sem])
 ·exact aF hF [.tmp 2] rfl rfl rfl (aA h) (by simp only [aT, go_sem])
attribute [go_sem] kA
noncomputable def lA (F : Md) (x_0 : Int) : Option Int :=
 ck (I64 (x_0 * (78913 : Int))) (some (Int.fdiv (x_0 * (78913 : Int)) (2 ^ (18 : Nat))))
def tE : PlR := ⟨[(0, .A [0]), (1, .A [2])], []⟩
def vJ : Ty := .pair (.i .i64) .unit
noncomputable def kB (F : Md) : aG := mSpec vJ (.one (.i .i64)) (fun x => lA F x.1)
noncomputable def aC1 (F : Md) : List (FuncId × aG) := []
theorem aC2 (F : Md) : bC Tryz.prog GL (aC1 F) := .nil
attribute [go_sem] vJ tE
set_option maxHeartbeats 4000000 in
theorem aCb (F : Md) : FOK Tryz.prog GL 248 (kB F) := by
 refine bG (aW (aC2 F)) mix Tryz.func248 rfl (by kernel_rfl) (by decide) tE fun w0 S x Θ hw h hF => ?_
 obtain ⟨(x_0 : Int), u⟩ := x
 simp only [bH, go_sem]
 replace h : sat (lA F x_0) _ := h
 unfold lA at h
 refine aP h fun g0 h => ?_
 exact aF hF [.tmp 2] rfl rfl rfl (aA h) (by simp only [aT, go_sem])
attribute [go_sem] kB
noncomputable def bB (F : Md) (d_0 : Nat) : Option Int :=
 (rN F d_0).bind (fun v_8 => (lA F v_8).bind (fun v_9 => ck (0 ≤ v_9 ∧ v_9 < (20 : Int)) ((kZ F (decide ((p10.getD (v_9.toNat) (0 : Nat)) ≤ d_0))).bind (fun v_13 => ck (I64 (v_9 + v_13)) (some (v_9 + v_13))))))
def tF : PlR := ⟨[(0, .A [0]), (1, .A [0, 3]), (2, .A [2])], []⟩
def vK : Ty := .pair (.u .u64) .unit
noncomputable def kC (F : Md) : aG := mSpec vK (.one (.i .i64)) (fun x => bB F x.1)
noncomputable def lB (F : Md) : List (FuncId × aG) := [(235, (mU F)), (248, (kB F)), (249, (kA F))]
theorem aC3 (F : Md) : bC Tryz.prog GL (lB F) := .cons (aDC F) (by kernel_rfl) (.cons (aCb F) (by kernel_rfl) (.cons (aCa F) (by kernel_rfl) (.nil)))
theorem aAr (F : Md) : gam (lB F) 235 = some (mU F) := rfl
theorem aAs (F : Md) : gam (lB F) 248 = some (kB F) := rfl
theorem aAt (F : Md) : gam (lB F) 249 = some (kA F) := rfl
attribute [go_sem] vK tF aAr aAs aAt
set_option maxHeartbeats 4000000 in
theorem aCc (F : Md) : FOK Tryz.prog GL 216 (kC F) := by
 refine bG (aW (aC3 F)) mix Tryz.func216 rfl (by kernel_rfl) (by decide) tF fun w0 S x Θ hw h hF => ?_
 obtain ⟨(d_0 : Nat), u⟩ := x
 simp only [bH, go_sem]
 replace h : sat (bB F d_0) _ := h
 unfold bB at h
 obtain ⟨v_8, hv, h⟩ := aH h
 try simp only [hv, go_sem]
 obtain ⟨v_9, hv, h⟩ := aH h
 try simp only [hv, go_sem]
 refine aP h fun g0 h => ?_
 obtain ⟨v_13, hv, h⟩ := aH h
 try simp only [hv, go_sem]
 refine aP h fun g0 h => ?_
 exact aF hF [.tmp 2] rfl rfl rfl (aA h) (by simp only [aT, go_sem])
attribute [go_sem] kC
noncomputable def lX (F : Md) (i_0 : Int) : Option (List Nat) :=
 if i_0 < (10 : Int) then ck (I64 (i_0 + (1 : Int))) (ck (0 ≤ i_0 ∧ i_0 ≤ (i_0 + (1 : Int)) ∧ (i_0 + (1 : Int)) ≤ (((aI aEA).length : Nat) : Int)) (some (List.drop (i_0.toNat) (List.take (i_0 + (1 : Int)).toNat (aI aEA))))) else ck (I64 (i_0 * (2 : Int))) (ck (I64 (i_0 * (2 : Int))) (ck (I64 ((i_0 * (2 : Int)) + (2 : Int))) (ck (0 ≤ (i_0 * (2 : Int)) ∧ (i_0 * (2 : Int)) ≤ ((i_0 * (2 : Int)) + (2 : Int)) ∧ ((i_0 * (2 : Int)) + (2 : Int)) ≤ (((aI aEz).length : Nat) : Int)) (some (List.drop (i_0 * (2 : Int)).toNat (List.take ((i_0 * (2 : Int)) + (2 : Int)).toNat (aI aEz)))))))
def zU : PlR := ⟨[(0, .A [0]), (1, .A [0, 4]), (2, .A [2]), (3, .A [2])], []⟩
def aA0 : Ty := .pair (.i .i64) .unit
noncomputable def nG (F : Md) : aG := mSpec aA0 (.one .str) (fun x => lX F x.1)
noncomputable def aGM (F : Md) : List (FuncId × aG) := []
theorem aGN (F : Md) : bC Tryz.prog GL (aGM F) := .nil
attribute [go_sem] aA0 zU
set_option maxHeartbeats 4000000 in
theorem aFV (F : Md) : FOK Tryz.prog GL 215 (nG F) := by
 refine bG (aW (aGN F)) mix Tryz.func215 rfl (by kernel_rfl) (by decide) zU fun w0 S x Θ hw h hF => ?_
 obtain ⟨(i_0 : Int), u⟩ := x
 simp only [bH, go_sem]
 replace h : sat (lX F i_0) _ := h
 unfold lX at h
 refine fF h (fun hc h => ?_) fun hc h => ?_
 ·refine aP h fun g0 h => aP h fun g1 h => ?_
  exact aF hF [.tmp 2] rfl rfl rfl (aA h) (by simp only [aT, go_sem])
 ·refine aP h fun g0 h => aP h fun g1 h => aP h fun g2 h => aP h fun g3 h => ?_
  exact aF hF [.tmp 2] rfl rfl rfl (aA h) (by simp only [aT, go_sem])
attribute [go_sem] nG
noncomputable def iH (F : Md) (i_0 : Int) (u_5 : Nat) : Option (List Nat) :=
 ck ((bB F u_5).isSome = true) (ck (I64 ((1 : Int) + ((bB F u_5).getD (0 : Int)))) (ck ((1 : Int) < ((1 : Int) + ((bB F u_5).getD (0 : Int))) ∧ ((1 : Int) + ((bB F u_5).getD (0 : Int))) ≤ 24) ((iG F (1 : Nat) (((1 : Int) + ((bB F u_5).getD (0 : Int))) - (1 : Int)).toNat u_5 (List.replicate 24 (0 : Nat))).bind (fun r_7 => if i_0 < (0 : Int) then ck (I64 ((1 : Int) + ((bB F u_5).getD (0 : Int)))) (ck ((0 : Int) < ((1 : Int) + ((bB F u_5).getD (0 : Int))) ∧ ((1 : Int) + ((bB F u_5).getD (0 : Int))) ≤ 24) (ck ((0 : Nat) + (((1 : Int) + ((bB F u_5).getD (0 : Int))) - (0 : Int)).toNat ≤ 24) (some (List.take (((1 : Int) + ((bB F u_5).getD (0 : Int))) - (0 : Int)).toNat (List.drop (0 : Nat) (r_7.set (0 : Nat) (45 : Nat))))))) else ck (I64 ((1 : Int) + ((bB F u_5).getD (0 : Int)))) (ck ((1 : Int) < ((1 : Int) + ((bB F u_5).getD (0 : Int))) ∧ ((1 : Int) + ((bB F u_5).getD (0 : Int))) ≤ 24) (ck ((1 : Nat) + (((1 : Int) + ((bB F u_5).getD (0 : Int))) - (1 : Int)).toNat ≤ 24) (some (List.take (((1 : Int) + ((bB F u_5).getD (0 : Int))) - (1 : Int)).toNat (List.drop (1 : Nat) r_7)))))))))
noncomputable def lC (F : Md) (i_0 : Int) (base_1 : Int) : Option (List Nat) :=
 if base_1 = (10 : Int) then if ((0 : Int) ≤ i_0) ∧ (i_0 < (100 : Int)) then ck ((lX F i_0).isSome = true) (some ((lX F i_0).getD ([] : List Nat))) else if i_0 < (0 : Int) then iH F i_0 (aLO F .u64 (i_0 % (18446744073709551616 : Int)).toNat) else iH F i_0 (i_0 % (18446744073709551616 : Int)).toNat else none
def lD : Ty := .pair (.i .i64) (.pair (.i .i64) .unit)
attribute [go_sem] lD
noncomputable def kD (F : Md) : aG := mSpec lD (.one .str) (fun x => lC F x.1 x.2.1)
noncomputable def lE (F : Md) : List (FuncId × aG) := [(215, (nG F)), (216, (kC F))]
theorem vL (F : Md) : bC Tryz.prog GL (lE F) := .cons (aFV F) (by kernel_rfl) (.cons (aCc F) (by kernel_rfl) (.nil))
theorem aAu (F : Md) : gam (lE F) 215 = some (nG F) := rfl
attribute [go_sem] aAu
theorem aAv (F : Md) : gam (lE F) 216 = some (kC F) := rfl
attribute [go_sem] aAv
set_option maxHeartbeats 4000000 in
theorem aCd (F : Md) : FOK Tryz.prog GL 160 (kD F) := by
 refine kN (aW (vL F)) Tryz.func160 rfl (by kernel_rfl) (by decide) fun w0 S x r hw h => ?_
 have hF : iQ (fr Tryz.prog (EM (lE F)) S w0 Tryz.f160.ntmps) := ⟨aW (vL F), mix⟩
 obtain ⟨(i_0 : Int), (base_1 : Int), u⟩ := x
 simp only [lD, Ty.wf, lO] at hw
 simp only [bH, lD]
 try dsimp only at h
 replace h : lC F i_0 base_1 = some r := h
 unfold lC at h
 refine aB (aD hF [0, 1] ?_)
 simp only [go_sem, aY F, aZ F, bA F]
 refine aC (aB (aB (aD hF [0, 1, 11] ?_)))
 simp only [go_sem, aY F, aZ F, bA F]
 refine aC (bD rfl (fun hc => ?_) (fun hc => ?_))
 ·try simp only [go_sem, aY F, aZ F, bA F] at hc
  have h := dP zAB h
  refine aB (aB (aD hF [0, 17] ?_))
  simp only [go_sem, aY F, aZ F, bA F]
  refine aC (bD rfl (fun hc => ?_) (fun hc => ?_))
  ·try simp only [go_sem, aY F, aZ F, bA F] at hc
   have h := dP zAB h
   refine aB (aD hF [4] ?_)
   simp only [go_sem, aY F, aZ F, bA F]
   obtain ⟨g0, h⟩ := aJ h
   repeat (refine ⟨by first | with_reducible assumption | omega | (intros; first | with_reducible assumption | omega) | (simp only [go_sem, aY F, aZ F, bA F] at *; first | with_reducible assumption | omega) | (intro _; exact ⟨rfl, by decide⟩) | (intro _; refine (?_ : _ = aV _); rfl) | exact ⟨rfl, rfl⟩ | decide, ?_⟩)
   obtain rfl := Option.some.inj h
   refine aC (cH (bN (bN (dC hF [.tmp 4] rfl rfl rfl ?_))))
   (try simp only [fE, aT, go_sem, aY F, aZ F, bA F]) <;> first | rfl | (simp; done)
  ·try simp only [go_sem, aY F, aZ F, bA F] at hc
   have h := dQ zAB h
   refine bL (aC (aB (aU hF [0, 5] ?_)))
   simp only [go_sem, aY F, aZ F, bA F]
   refine aC (aB (aD hF [0, 5, 6] ?_))
   simp only [go_sem, aY F, aZ F, bA F]
   refine aC (eZ (D := Nat) (fun d => iH F i_0 d = some r) [0] (fun d => [(5, .ptr 0 []), (6, .val (.u .u64) d)]) (fun d => [.inr (.box 24 (.val (.arr 24 (.u .u8)) (List.replicate 24 (0 : Nat))))]) ?_ ?_)
   ·refine aB (aD hF [0, 5, 6, 23] ?_)
    simp only [go_sem, aY F, aZ F, bA F]
    refine aC (bD rfl (fun hc => ?_) (fun hc => ?_))
    ·try simp only [go_sem, aY F, aZ F, bA F] at hc
     have h := dP zAB h
     refine aD hF [0, 5, 6] ?_
     simp only [go_sem, aY F, aZ F, bA F]
     refine aS (aQ (aLO F .u64 (i_0 % (18446744073709551616 : Int)).toNat) h rfl ?_)
     ·(try simp only [eY, dL, true_or, and_self, go_sem, aY F, aZ F, bA F]) <;> (repeat' apply And.intro) <;> first | rfl | (left; rfl) | (right; rfl) | (left; simp only [go_sem, aY F, aZ F, bA F]; done) | (right; simp only [go_sem, aY F, aZ F, bA F]; done) | (simp; done) | (simp only [*]; done) | omega
    ·try simp only [go_sem, aY F, aZ F, bA F] at hc
     have h := dQ zAB h
     refine bL (aS (aQ (i_0 % (18446744073709551616 : Int)).toNat h rfl ?_))
     ·(try simp only [eY, dL, true_or, and_self, go_sem, aY F, aZ F, bA F]) <;> (repeat' apply And.intro) <;> first | rfl | (left; rfl) | (right; rfl) | (left; simp only [go_sem, aY F, aZ F, bA F]; done) | (right; simp only [go_sem, aY F, aZ F, bA F]; done) | (simp; done) | (simp only [*]; done) | omega
   ·rintro u_5 h
    try dsimp only at h
    simp only [go_sem, aY F, aZ F, bA F]
    unfold iH at h
    refine aB (aD hF [0, 5, 6, 7] ?_)
    simp only [go_sem, aY F, aZ F, bA F]
    obtain ⟨g0, h⟩ := aJ h
    repeat (refine ⟨by first | with_reducible assumption | omega | (intros; first | with_reducible assumption | omega) | (simp only [go_sem, aY F, aZ F, bA F] at *; first | with_reducible assumption | omega) | (intro _; exact ⟨rfl, by decide⟩) | (intro _; refine (?_ : _ = aV _); rfl) | exact ⟨rfl, rfl⟩ | decide, ?_⟩)
    obtain ⟨g0, h⟩ := aJ h
    try simp only [I64, I32] at g0
    obtain ⟨g1, h⟩ := aJ h
    obtain ⟨r_7, he1, h⟩ := bind_some h
    try dsimp only at h
    refine aC (aB (aX hF (bS (l := [(217, ⟨lH F, [0], ((1 : Nat), (((1 : Int) + ((bB F u_5).getD (0 : Int))) - (1 : Int)).toNat, u_5, (List.replicate 24 (0 : Nat)), r_7)⟩)]) (.cons (aAq F) (by kernel_rfl) (.nil))) [0, 5, 7] [30] ?_))
    simp only [go_sem, aY F, aZ F, bA F]
    repeat (refine ⟨by first | with_reducible assumption | omega | (intros; first | with_reducible assumption | omega) | (simp only [go_sem, aY F, aZ F, bA F] at *; first | with_reducible assumption | omega) | (intro _; exact ⟨rfl, by decide⟩) | (intro _; refine (?_ : _ = aV _); rfl) | exact ⟨rfl, rfl⟩ | decide, ?_⟩)
    refine aC (aB (aB (aD hF [5, 7, 34] ?_)))
    simp only [go_sem, aY F, aZ F, bA F]
    refine aC (bD rfl (fun hc => ?_) (fun hc => ?_))
    ·try simp only [go_sem, aY F, aZ F, bA F] at hc
     have h := dP zAB h
     refine aB (aU hF [5, 7] ?_)
     simp only [go_sem, aY F, aZ F, bA F]
     obtain ⟨g0, h⟩ := aJ h
     try simp only [I64, I32] at g0
     obtain ⟨g1, h⟩ := aJ h
     obtain ⟨g2, h⟩ := aJ h
     refine aC (aB (aX hF (bS (l := []) (.nil)) [4] [38] ?_))
     simp only [go_sem, aY F, aZ F, bA F]
     repeat (refine ⟨by first | with_reducible assumption | omega | (intros; first | with_reducible assumption | omega) | (simp only [go_sem, aY F, aZ F, bA F] at *; first | with_reducible assumption | omega) | (intro _; exact ⟨rfl, by decide⟩) | (intro _; refine (?_ : _ = aV _); rfl) | exact ⟨rfl, rfl⟩ | decide, ?_⟩)
     obtain rfl := Option.some.inj h
     refine aC (cH (bN (bN (dC hF [.tmp 4] rfl rfl rfl ?_))))
     (try simp only [fE, aT, go_sem, aY F, aZ F, bA F]) <;> first | rfl | (simp; done)
    ·try simp only [go_sem, aY F, aZ F, bA F] at hc
     have h := dQ zAB h
     obtain ⟨g0, h⟩ := aJ h
     try simp only [I64, I32] at g0
     obtain ⟨g1, h⟩ := aJ h
     obtain ⟨g2, h⟩ := aJ h
     refine bL (aC (aB (aX hF (bS (l := []) (.nil)) [4] [42] ?_)))
     simp only [go_sem, aY F, aZ F, bA F]
     repeat (refine ⟨by first | with_reducible assumption | omega | (intros; first | with_reducible assumption | omega) | (simp only [go_sem, aY F, aZ F, bA F] at *; first | with_reducible assumption | omega) | (intro _; exact ⟨rfl, by decide⟩) | (intro _; refine (?_ : _ = aV _); rfl) | exact ⟨rfl, rfl⟩ | decide, ?_⟩)
     obtain rfl := Option.some.inj h
     refine aC (cH (bN (dC hF [.tmp 4] rfl rfl rfl ?_)))
     (try simp only [fE, aT, go_sem, aY F, aZ F, bA F]) <;> first | rfl | (simp; done)
 ·try simp only [go_sem, aY F, aZ F, bA F] at hc
  have h := dQ zAB h
  cases h
attribute [go_sem] kD
noncomputable def qD (F : Md) (i_0 : Int) : Option (List Nat) :=
 (lC F i_0 (10 : Int)).bind (fun v_5 => some v_5)
def aA1 : PlR := ⟨[(0, .A [0]), (1, .A [2])], []⟩
def aBW : Ty := .pair (.i .i64) .unit
noncomputable def oM (F : Md) : aG := mSpec aBW (.one .str) (fun x => qD F x.1)
noncomputable def aBX (F : Md) : List (FuncId × aG) := [(160, (kD F))]
theorem aIo (F : Md) : bC Tryz.prog GL (aBX F) := .cons (aCd F) (by kernel_rfl) (.nil)
theorem aDt (F : Md) : gam (aBX F) 160 = some (kD F) := rfl
attribute [go_sem] aBW aA1 aDt
set_option maxHeartbeats 4000000 in
theorem aGO (F : Md) : FOK Tryz.prog GL 93 (oM F) := by
 refine bG (aW (aIo F)) mix Tryz.func93 rfl (by kernel_rfl) (by decide) aA1 fun w0 S x Θ hw h hF => ?_
 obtain ⟨(i_0 : Int), u⟩ := x
 simp only [bH, go_sem]
 replace h : sat (qD F i_0) _ := h
 unfold qD at h
 obtain ⟨v_5, hv, h⟩ := aH h
 try simp only [hv, go_sem]
 exact aF hF [.tmp 2] rfl rfl rfl (aA h) (by simp only [aT, go_sem])
attribute [go_sem] oM
noncomputable def dM (F : Md) (i_0 : Int) : Option (List Nat) :=
 (qD F i_0).bind (fun v_5 => some v_5)
def aBY : PlR := ⟨[(0, .A [0]), (1, .A [2])], []⟩
def aC4 : Ty := .pair (.i .i64) .unit
noncomputable def qE (F : Md) : aG := mSpec aC4 (.one .str) (fun x => dM F x.1)
noncomputable def aC5 (F : Md) : List (FuncId × aG) := [(93, (oM F))]
theorem aKe (F : Md) : bC Tryz.prog GL (aC5 F) := .cons (aGO F) (by kernel_rfl) (.nil)
theorem aFW (F : Md) : gam (aC5 F) 93 = some (oM F) := rfl
attribute [go_sem] aC4 aBY aFW
set_option maxHeartbeats 4000000 in
theorem aIp (F : Md) : FOK Tryz.prog GL 43 (qE F) := by
 refine bG (aW (aKe F)) mix Tryz.func43 rfl (by kernel_rfl) (by decide) aBY fun w0 S x Θ hw h hF => ?_
 obtain ⟨(i_0 : Int), u⟩ := x
 simp only [bH, go_sem]
 replace h : sat (dM F i_0) _ := h
 unfold dM at h
 obtain ⟨v_5, hv, h⟩ := aH h
 try simp only [hv, go_sem]
 exact aF hF [.tmp 2] rfl rfl rfl (aA h) (by simp only [aT, go_sem])
attribute [go_sem] qE
end Nu
end Go.Proofs
namespace Go.Proofs
open Go.Vc
set_option maxRecDepth 20000
namespace Nu
attribute [-go_sem] Ex.kind Ex.text Ex.l
def xK : Ty := .pair .expr .unit
attribute [go_sem] xK
noncomputable def lI (g : Ex → Option (List Nat)) : aG := mSpec xK (.one .str) (fun x => g x.1)
attribute [go_sem] lI
noncomputable def fO (F : Md) (g : Ex → Option (List Nat)) (e_0 : Ex) (k_1 : Int) (some_2 : Int) : Option (List Nat) :=
 if (((e_0.l).length : Nat) : Int) ≤ k_1 then some (aI ⟨#[]⟩) else ck (0 ≤ k_1 ∧ k_1 < (((e_0.l).length : Nat) : Int)) (if (((0 : Int) ≤ ((e_0.l).getD (k_1.toNat) (Ex.mk 0 [] [])).kind) ∧ (((e_0.l).getD (k_1.toNat) (Ex.mk 0 [] [])).kind < (60 : Int))) ∧ ((IntKind.i64.wrap ((BitVec.ofInt 64 (Int.fdiv some_2 (2 ^ (((e_0.l).getD (k_1.toNat) (Ex.mk 0 [] [])).kind % (18446744073709551616 : Int)).toNat)) &&& BitVec.ofInt 64 (1 : Int)).toNat : Int)) = (1 : Int)) then (g ((e_0.l).getD (k_1.toNat) (Ex.mk 0 [] []))).bind (fun v_9 => ck ((aI ⟨#[40]⟩).length + (v_9.length) ≤ 9223372036854775807) (ck (((aI ⟨#[40]⟩) ++ v_9).length + (aI ⟨#[41]⟩).length ≤ 9223372036854775807) (some (((aI ⟨#[40]⟩) ++ v_9) ++ (aI ⟨#[41]⟩))))) else (g ((e_0.l).getD (k_1.toNat) (Ex.mk 0 [] []))).bind (fun v_13 => some v_13))
def aHH : PlR := ⟨[(0, .B [1, 2, 3]), (1, .A [1, 2, 3, 12]), (2, .A [6]), (3, .B [2, 7]), (4, .A [7, 34]), (5, .A [6]), (6, .A [6])], []⟩
def aKf : Ty := .pair .expr (.pair (.i .i64) (.pair (.i .i64) .unit))
noncomputable def zV (F : Md) (g : Ex → Option (List Nat)) : aG := mSpec aKf (.one .str) (fun x => fO F g x.1 x.2.1 x.2.2.1)
noncomputable def aKg (F : Md) (g : Ex → Option (List Nat)) : List (FuncId × aG) := [(33, (lI g))]
theorem aN5 (F : Md) (g : Ex → Option (List Nat)) (hg : FOK Tryz.prog GL 33 (lI g)) : bC Tryz.prog GL (aKg F g) := .cons hg (by kernel_rfl) (.nil)
theorem aKS (F : Md) (g : Ex → Option (List Nat)) : gam (aKg F g) 33 = some (lI g) := rfl
attribute [go_sem] aKf aHH aKS
set_option maxHeartbeats 4000000 in
theorem aNh (F : Md) (g : Ex → Option (List Nat)) (hg : FOK Tryz.prog GL 33 (lI g)) : FOK Tryz.prog GL 74 (zV F g) := by
 refine bG (aW (aN5 F g hg)) mix Tryz.func74 rfl (by kernel_rfl) (by decide) aHH fun w0 S x Θ hw h hF => ?_
 obtain ⟨(e_0 : Ex), (k_1 : Int), (some_2 : Int), u⟩ := x
 simp only [bH, go_sem]
 replace h : sat (fO F g e_0 k_1 some_2) _ := h
 unfold fO at h
 refine aLQ h (fun hc h => ?_) fun hc h => ?_
 ·exact aF hF [.tmp 6] rfl rfl rfl (aA h) (by simp only [aT, go_sem])
 ·refine aP h fun g0 h => ?_
  refine ⟨fun hc => ?_, fun hc => ?_⟩
  ·replace h := hP hc h
   obtain ⟨v_9, hv, h⟩ := aH h
   try simp only [hv, go_sem]
   refine aP h fun g0 h => aP h fun g1 h => ?_
   exact aF hF [.tmp 6] rfl rfl rfl (aA h) (by simp only [aT, go_sem])
  ·replace h := hU hc h
   obtain ⟨v_13, hv, h⟩ := aH h
   try simp only [hv, go_sem]
   exact aF hF [.tmp 6] rfl rfl rfl (aA h) (by simp only [aT, go_sem])
attribute [go_sem] zV
noncomputable def sQ (F : Md) (g : Ex → Option (List Nat)) (e_0 : Ex) : Option (List Nat) :=
 if (e_0.kind) = (6 : Int) then (fO F g e_0 (0 : Int) (0 : Int)).bind (fun v_44 => ck ((v_44.length) + (aI ⟨#[32, 43, 32]⟩).length ≤ 9223372036854775807) ((fO F g e_0 (1 : Int) (192 : Int)).bind (fun v_45 => ck ((v_44 ++ (aI ⟨#[32, 43, 32]⟩)).length + (v_45.length) ≤ 9223372036854775807) (some ((v_44 ++ (aI ⟨#[32, 43, 32]⟩)) ++ v_45))))) else if (e_0.kind) = (7 : Int) then (fO F g e_0 (0 : Int) (0 : Int)).bind (fun v_56 => ck ((v_56.length) + (aI ⟨#[32, 45, 32]⟩).length ≤ 9223372036854775807) ((fO F g e_0 (1 : Int) (192 : Int)).bind (fun v_57 => ck ((v_56 ++ (aI ⟨#[32, 45, 32]⟩)).length + (v_57.length) ≤ 9223372036854775807) (some ((v_56 ++ (aI ⟨#[32, 45, 32]⟩)) ++ v_57))))) else if (e_0.kind) = (8 : Int) then (fO F g e_0 (0 : Int) (192 : Int)).bind (fun v_68 => ck ((v_68.length) + (aI ⟨#[32, 42, 32]⟩).length ≤ 9223372036854775807) ((fO F g e_0 (1 : Int) (960 : Int)).bind (fun v_69 => ck ((v_68 ++ (aI ⟨#[32, 42, 32]⟩)).length + (v_69.length) ≤ 9223372036854775807) (some ((v_68 ++ (aI ⟨#[32, 42, 32]⟩)) ++ v_69))))) else if (e_0.kind) = (9 : Int) then (fO F g e_0 (0 : Int) (192 : Int)).bind (fun v_80 => ck ((v_80.length) + (aI ⟨#[32, 47, 32]⟩).length ≤ 9223372036854775807) ((fO F g e_0 (1 : Int) (960 : Int)).bind (fun v_81 => ck ((v_80 ++ (aI ⟨#[32, 47, 32]⟩)).length + (v_81.length) ≤ 9223372036854775807) (some ((v_80 ++ (aI ⟨#[32, 47, 32]⟩)) ++ v_81))))) else if (e_0.kind) = (10 : Int) then (fO F g e_0 (0 : Int) (960 : Int)).bind (fun v_85 => ck ((aI ⟨#[45]⟩).length + (v_85.length) ≤ 9223372036854775807) (some ((aI ⟨#[45]⟩) ++ v_85))) else if (e_0.kind) = (11 : Int) then (fO F g e_0 (0 : Int) (0 : Int)).bind (fun v_89 => ck ((aI ⟨#[115, 113, 114, 40]⟩).length + (v_89.length) ≤ 9223372036854775807) (ck (((aI ⟨#[115, 113, 114, 40]⟩) ++ v_89).length + (aI ⟨#[41]⟩).length ≤ 9223372036854775807) (some (((aI ⟨#[115, 113, 114, 40]⟩) ++ v_89) ++ (aI ⟨#[41]⟩))))) else if (e_0.kind) = (12 : Int) then (fO F g e_0 (0 : Int) (0 : Int)).bind (fun v_93 => ck ((aI ⟨#[115, 113, 114, 116, 40]⟩).length + (v_93.length) ≤ 9223372036854775807) (ck (((aI ⟨#[115, 113, 114, 116, 40]⟩) ++ v_93).length + (aI ⟨#[41]⟩).length ≤ 9223372036854775807) (some (((aI ⟨#[115, 113, 114, 116, 40]⟩) ++ v_93) ++ (aI ⟨#[41]⟩))))) else if (e_0.kind) = (13 : Int) then (fO F g e_0 (0 : Int) (0 : Int)).bind (fun v_97 => ck ((aI ⟨#[101, 120, 112, 40]⟩).length + (v_97.length) ≤ 9223372036854775807) (ck (((aI ⟨#[101, 120, 112, 40]⟩) ++ v_97).length + (aI ⟨#[41]⟩).length ≤ 9223372036854775807) (some (((aI ⟨#[101, 120, 112, 40]⟩) ++ v_97) ++ (aI ⟨#[41]⟩))))) else some (e_0.text)
def aDV : PlR := ⟨[(0, .B [1]), (1, .A [1, 4]), (2, .A [1, 4, 5]), (3, .A [2]), (4, .A [1, 4, 13]), (5, .A [2]), (6, .A [1, 4, 21]), (7, .A [2]), (8, .A [1, 4, 29]), (9, .A [2]), (10, .A [1, 4, 37]), (11, .A [2]), (12, .A [1, 4, 42]), (13, .A [2]), (14, .A [1, 4, 48]), (15, .A [2]), (16, .A [1, 54]), (17, .A [2]), (18, .A [2])], []⟩
noncomputable def aFX (F : Md) (g : Ex → Option (List Nat)) : List (FuncId × aG) := [(74, (zV F g))]
theorem aMg (F : Md) (g : Ex → Option (List Nat)) (hg : FOK Tryz.prog GL 33 (lI g)) : bC Tryz.prog GL (aFX F g) := .cons (aNh F g hg) (by kernel_rfl) (.nil)
theorem aIq (F : Md) (g : Ex → Option (List Nat)) : gam (aFX F g) 74 = some (zV F g) := rfl
attribute [go_sem] aDV aIq
set_option maxHeartbeats 4000000 in
theorem aKh (F : Md) (g : Ex → Option (List Nat)) (hg : FOK Tryz.prog GL 33 (lI g)) : FOK Tryz.prog GL 33 (mSpec xK (.one .str) (fun x => sQ F g x.1)) := by
 refine bG (aW (aMg F g hg)) mix Tryz.func33 rfl (by kernel_rfl) (by decide) aDV fun w0 S x Θ hw h hF => ?_
 obtain ⟨(e_0 : Ex), u⟩ := x
 simp only [bH, go_sem]
 replace h : sat (sQ F g e_0) _ := h
 unfold sQ at h
 refine cT h (fun hc h => ?_) fun hc h => ?_
 ·obtain ⟨v_44, hv, h⟩ := aH h
  try simp only [hv, go_sem]
  refine aP h fun g0 h => ?_
  obtain ⟨v_45, hv, h⟩ := aH h
  try simp only [hv, go_sem]
  refine aP h fun g0 h => ?_
  exact aF hF [.tmp 2] rfl rfl rfl (aA h) (by simp only [aT, go_sem])
 ·refine cT h (fun hc h => ?_) fun hc h => ?_
  ·obtain ⟨v_56, hv, h⟩ := aH h
   try simp only [hv, go_sem]
   refine aP h fun g0 h => ?_
   obtain ⟨v_57, hv, h⟩ := aH h
   try simp only [hv, go_sem]
   refine aP h fun g0 h => ?_
   exact aF hF [.tmp 2] rfl rfl rfl (aA h) (by simp only [aT, go_sem])
  ·refine cT h (fun hc h => ?_) fun hc h => ?_
   ·obtain ⟨v_68, hv, h⟩ := aH h
    try simp only [hv, go_sem]
    refine aP h fun g0 h => ?_
    obtain ⟨v_69, hv, h⟩ := aH h
    try simp only [hv, go_sem]
    refine aP h fun g0 h => ?_
    exact aF hF [.tmp 2] rfl rfl rfl (aA h) (by simp only [aT, go_sem])
   ·refine cT h (fun hc h => ?_) fun hc h => ?_
    ·obtain ⟨v_80, hv, h⟩ := aH h
     try simp only [hv, go_sem]
     refine aP h fun g0 h => ?_
     obtain ⟨v_81, hv, h⟩ := aH h
     try simp only [hv, go_sem]
     refine aP h fun g0 h => ?_
     exact aF hF [.tmp 2] rfl rfl rfl (aA h) (by simp only [aT, go_sem])
    ·refine cT h (fun hc h => ?_) fun hc h => ?_
     ·obtain ⟨v_85, hv, h⟩ := aH h
      try simp only [hv, go_sem]
      refine aP h fun g0 h => ?_
      exact aF hF [.tmp 2] rfl rfl rfl (aA h) (by simp only [aT, go_sem])
     ·refine cT h (fun hc h => ?_) fun hc h => ?_
      ·obtain ⟨v_89, hv, h⟩ := aH h
       try simp only [hv, go_sem]
       refine aP h fun g0 h => aP h fun g1 h => ?_
       exact aF hF [.tmp 2] rfl rfl rfl (aA h) (by simp only [aT, go_sem])
      ·refine cT h (fun hc h => ?_) fun hc h => ?_
       ·obtain ⟨v_93, hv, h⟩ := aH h
        try simp only [hv, go_sem]
        refine aP h fun g0 h => aP h fun g1 h => ?_
        exact aF hF [.tmp 2] rfl rfl rfl (aA h) (by simp only [aT, go_sem])
       ·refine cT h (fun hc h => ?_) fun hc h => ?_
        ·obtain ⟨v_97, hv, h⟩ := aH h
         try simp only [hv, go_sem]
         refine aP h fun g0 h => aP h fun g1 h => ?_
         exact aF hF [.tmp 2] rfl rfl rfl (aA h) (by simp only [aT, go_sem])
        ·exact aF hF [.tmp 2] rfl rfl rfl (aA h) (by simp only [aT, go_sem])
noncomputable def dK (F : Md) : Nat → Ex → Option (List Nat)
 | 0 => fun _ => none
 | n + 1 => sQ F (dK F n)
noncomputable def jK (F : Md) (n : Nat) : aG := mSpec xK (.one .str) (fun x => dK F n x.1)
theorem uP (F : Md) : ∀ n, FOK Tryz.prog GL 33 (jK F n)
 | 0 => fun _ _ _ _ _ _ _ hp => Bool.noConfusion (show false = true from hp)
 | n + 1 => aKh F _ (uP F n)
attribute [go_sem] jK
noncomputable def jG (F : Md) (r_0 : ((List Nat) × ((List Nat) × Unit))) : Option (List Nat) :=
 if r_0.2.1 = (aI ⟨#[]⟩) then some r_0.1 else ck ((r_0.1.length) + (aI ⟨#[32]⟩).length ≤ 9223372036854775807) (ck ((r_0.1 ++ (aI ⟨#[32]⟩)).length + (r_0.2.1.length) ≤ 9223372036854775807) (some ((r_0.1 ++ (aI ⟨#[32]⟩)) ++ r_0.2.1)))
def aDW : PlR := ⟨[(0, .B [1]), (1, .A [1, 5]), (2, .A [2]), (3, .A [2])], []⟩
def aFY : Ty := .pair (.pair .str (.pair .str .unit)) .unit
noncomputable def uQ (F : Md) : aG := mSpec aFY (.one .str) (fun x => jG F x.1)
noncomputable def aMh (F : Md) : List (FuncId × aG) := []
theorem aMi (F : Md) : bC Tryz.prog GL (aMh F) := .nil
attribute [go_sem] aFY aDW
set_option maxHeartbeats 4000000 in
theorem aKT (F : Md) : FOK Tryz.prog GL 77 (uQ F) := by
 refine bG (aW (aMi F)) mix Tryz.func77 rfl (by kernel_rfl) (by decide) aDW fun w0 S x Θ hw h hF => ?_
 obtain ⟨(r_0 : ((List Nat) × ((List Nat) × Unit))), u⟩ := x
 simp only [bH, go_sem]
 replace h : sat (jG F r_0) _ := h
 unfold jG at h
 refine cT h (fun hc h => ?_) fun hc h => ?_
 ·exact aF hF [.tmp 2] rfl rfl rfl (aA h) (by simp only [aT, go_sem])
 ·refine aP h fun g0 h => aP h fun g1 h => ?_
  exact aF hF [.tmp 2] rfl rfl rfl (aA h) (by simp only [aT, go_sem])
attribute [go_sem] uQ
end Nu
end Go.Proofs
namespace Go.Proofs
open Go.Shelf
def Tryz.lays156_ren : Go.Shelf.Ren := ⟨fun | 156 => 46 | 165 => 102 | 166 => 50 | 169 => 51 | 240 => 114 | 241 => 171 | 276 => 175 | 277 => 225 | n => n, fun | 31 => 48 | 9 => 9 | 3 => 3 | 4 => 4 | 0 => 0 | 20 => 20 | 72 => 101 | 76 => 104 | 70 => 98 | 37 => 99 | 75 => 103 | 127 => 148 | 164 => 198 | 5 => 5 | 80 => 106 | n => n, fun | n => n⟩
theorem Tryz.lays156 : Go.Proofs.Lays.n156 Tryz.prog Tryz.lays156_ren := {
 mixed := by kernel_rfl
 f156 := Tryz.func46.trans (congrArg some (by kernel_rfl))
 f165 := Tryz.func102.trans (congrArg some (by kernel_rfl))
 f166 := Tryz.func50.trans (congrArg some (by kernel_rfl))
 f169 := Tryz.func51.trans (congrArg some (by kernel_rfl))
 f240 := Tryz.func114.trans (congrArg some (by kernel_rfl))
 f241 := Tryz.func171.trans (congrArg some (by kernel_rfl))
 f276 := Tryz.func175.trans (congrArg some (by kernel_rfl))
 f277 := Tryz.func225.trans (congrArg some (by kernel_rfl))
 t0 := Tryz.underlying0
 a0 := Tryz.isAgg0
 z0 := Tryz.sizeOf0
 v0 := Tryz.zeroValue0
 t3 := Tryz.underlying3
 a3 := Tryz.isAgg3
 z3 := Tryz.sizeOf3
 v3 := Tryz.zeroValue3
 t4 := Tryz.underlying4
 a4 := Tryz.isAgg4
 z4 := Tryz.sizeOf4
 v4 := Tryz.zeroValue4
 t9 := Tryz.underlying9
 a9 := Tryz.isAgg9
 z9 := Tryz.sizeOf9
 v9 := Tryz.zeroValue9
 t20 := Tryz.underlying20
 a20 := Tryz.isAgg20
 z20 := Tryz.sizeOf20
 v20 := Tryz.zeroValue20
 t31 := Tryz.underlying48
 a31 := Tryz.isAgg48
 z31 := Tryz.sizeOf48
 v31 := Tryz.zeroValue48
 t37 := Tryz.underlying99
 a37 := Tryz.isAgg99
 z37 := Tryz.sizeOf99
 v37 := Tryz.zeroValue99
 t70 := Tryz.underlying98
 a70 := Tryz.isAgg98
 z70 := Tryz.sizeOf98
 v70 := Tryz.zeroValue98
 t72 := Tryz.underlying101
 a72 := Tryz.isAgg101
 z72 := Tryz.sizeOf101
 v72 := Tryz.zeroValue101
 t75 := Tryz.underlying103
 a75 := Tryz.isAgg103
 z75 := Tryz.sizeOf103
 v75 := Tryz.zeroValue103
 t76 := Tryz.underlying104
 a76 := Tryz.isAgg104
 z76 := Tryz.sizeOf104
 v76 := Tryz.zeroValue104
 t127 := Tryz.underlying148
 a127 := Tryz.isAgg148
 z127 := Tryz.sizeOf148
 v127 := Tryz.zeroValue148
 t164 := Tryz.underlying198
 a164 := Tryz.isAgg198
 z164 := Tryz.sizeOf198
 v164 := Tryz.zeroValue198 }
theorem Tryz.bx156 : Builder.Extra Tryz.prog Tryz.lays156_ren where
 sizeBuilder := by kernel_rfl
 liesBuilder := by kernel_rfl
 t5 := Tryz.underlying5
 a5 := Tryz.isAgg5
 z5 := Tryz.sizeOf5
 v5 := Tryz.zeroValue5
 infoByte := by kernel_rfl
 cellsByte := by kernel_rfl
 sizeByte := by kernel_rfl
 neB5 := by decide
open Go.Vc
set_option maxRecDepth 20000
namespace Nu
noncomputable def nH (F : Md) (o : Bool × List Nat) : Option (Bool × List Nat) := some (false, o.2)
noncomputable def iJ (F : Md) : lP where
 D := (Bool × (List Nat)) × (Bool × (List Nat))
 av := fun d => [.ptr 0 []]
 hp := fun d => [.box 4294967397 (.agg [pk d.1.1 0, .own 1]), .row 5 (.u .u8) d.1.2]
 m := 1
 pre := fun d => nH F d.1 = some d.2
 out := fun d => (fun r : (Bool × (List Nat)) => .ret (.tup []) [.box 4294967397 (.agg [pk (r).1 0, .own 1]), .row 5 (.u .u8) (r).2]) d.2
attribute [go_sem] iJ
noncomputable def pO (F : Md) (o : Bool × List Nat) : Option (List Nat) := some o.2
noncomputable def gD (F : Md) : lP where
 D := (Bool × (List Nat)) × (List Nat)
 av := fun d => [.ptr 0 []]
 hp := fun d => [.box 4294967397 (.agg [pk d.1.1 0, .own 1]), .row 5 (.u .u8) d.1.2]
 m := 1
 pre := fun d => pO F d.1 = some d.2
 out := fun d => (fun r : (List Nat) => .ret (.val .str r) [.dead]) d.2
attribute [go_sem] gD
theorem aNi {b : Nat} {c : Ctx} {w : World} {vs : Array Value} (hl : vs.toList.length = 1) (hb : c.hd 0 = .pointer (some ⟨b, 0, none⟩)) (hv : ∀ (h2 : 0 < vs.toList.length), aL c w (.ptr 0 []) vs.toList[0]) : vs = #[.pointer (some ⟨b, 0, none⟩)] := by
 obtain ⟨_, b', hb', e⟩ := zB (hv (by omega))
 rw [hb] at hb'
 simp only [aK, Option.some.injEq] at hb'
 subst hb'
 rw [← Array.toList_inj]
 refine List.ext_getElem hl fun i a1 a2 => ?_
 match i, a2 with
 | 0, _ => exact e
theorem vX (F : Md) : GOK Tryz.prog GL 114 (iJ F) := by
 rintro c w ⟨⟨b, xs⟩, r⟩ vs hpre ⟨good, glob, len, val⟩
 obtain rfl : (false, xs) = r := Option.some.inj hpre
 obtain ⟨B, q1, q2, q3⟩ := aJo good (i := 0) (j := 1) (tb := 101) rfl rfl
 have hvs := aNi len q1 (fun h2 => val 0 (by show 0 < 1; decide) h2)
 rw [hvs]
 have hr : aL c w (.tup []) (.tuple #[]) := ⟨[], rfl, rfl, fun i h1 _ => by cases h1⟩
 cases b with
 | true =>
  refine Calls.mono (f := 114) (Any.Builder_copyCheck_fresh { Tryz.lays156 with } Tryz.bx156.toX72 B w (by rw [Lib.cell_of_heap q2]; rfl) (by simp [World.shape?, q2]; rfl) (Lib.frozen_of_heap q2 0)) ?_
  rintro e w' ⟨rfl, rfl⟩
  exact ⟨c, .tuple #[], rfl, aQR good (i := 0) (j := 1) (tb := 101) rfl rfl q1, ⟨[], rfl, rfl, fun i h1 _ => by cases h1⟩⟩
 | false =>
  refine Calls.mono (f := 114) (Any.Builder_copyCheck_used { Tryz.lays156 with } Tryz.bx156.toX72 B w (by rw [Lib.cell_of_heap q2]; rfl)) ?_
  rintro e w' ⟨rfl, rfl⟩
  exact ⟨c, .tuple #[], rfl, good, hr⟩
theorem yZ (F : Md) : GOK Tryz.prog GL 51 (gD F) := by
 rintro c w ⟨⟨b, xs⟩, r⟩ vs hpre ⟨good, glob, len, val⟩
 obtain rfl : xs = r := Option.some.inj hpre
 obtain ⟨B, q1, q2, q3⟩ := aJo good (i := 0) (j := 1) (tb := 101) rfl rfl
 have hvs := aNi len q1 (fun h2 => val 0 (by show 0 < 1; decide) h2)
 rw [hvs]
 obtain ⟨l, hx, hl⟩ := aPu q3
 have hlm : l.length ≤ maxLen := by
  rcases hl with ⟨_, rfl⟩ | ⟨g, cap, cur, _, _, h1, h2, _⟩
  ·exact Nat.zero_le _
  ·exact Nat.le_trans h1 h2
 have hfin : ∀ (g : Option Nat) (w' : World), (∀ b', g = some b' → aK (c.hd 1) = some b') → w.grownBy w' g → aE3 (gD F) c w ((b, xs), xs) (.returned (.string ⟨l.toArray⟩)) w' := fun g w' hg hgr => by
  refine ⟨⟨c.S, c.hd, 1, c.bl⟩, .string ⟨l.toArray⟩, rfl, aQS good (i := 0) (j := 1) rfl rfl rfl hgr hg, ?_, (fun h => by cases h), fun _ cs => by simp⟩
  show aO w' c.S .str xs [.string ⟨l.toArray⟩]
  exact ⟨_, rfl, (by simp only [aI]; exact hx.symm), hlm⟩
 rcases hl with ⟨e1, rfl⟩ | ⟨g, cap, cur, e1, hg, hnc, hcm, hcs, hcell⟩
 ·rw [e1] at q2
  refine Calls.mono (f := 51) (aNP { Tryz.lays156 with } Tryz.bx156 B _ w q2) ?_
  rintro e w' ⟨rfl, hgr⟩
  exact hfin _ _ (fun _ h => by cases h) hgr
 ·rw [e1] at q2
  by_cases h0 : l = []
  ·subst h0
   by_cases hc0 : cap = 0
   ·subst hc0
    refine Calls.mono (f := 51) (aKp { Tryz.lays156 with } Tryz.bx156 B g _ cur w q2 hg) ?_
    rintro e w' ⟨rfl, hgr⟩
    exact hfin _ _ (fun _ h => by cases h) hgr
   ·refine Calls.mono (f := 51) (aMX { Tryz.lays156 with } Tryz.bx156 B g cap _ w hc0 q2) ?_
    rintro e w' ⟨rfl, hgr⟩
    exact hfin _ _ (fun _ h => by cases h) hgr
  ·refine Calls.mono (f := 51) (aMW { Tryz.lays156 with } Tryz.bx156 B g cap _ cur l w h0 q2 hg hnc hcm hcs hcell) ?_
   rintro e w' ⟨rfl, hgr⟩
   exact hfin _ _ (fun b' h => by cases h; rw [e1]; rfl) hgr
def aBZ (xs : List (List Nat)) (sep : List Nat) : List Nat := sep.intercalate xs
def aOS (xs : List (List Nat)) (sep : List Nat) : Prop := xs.length ≤ 140737488355328 ∧ (aBZ xs sep).length ≤ 140737488355328
instance (xs : List (List Nat)) (sep : List Nat) : Decidable (aOS xs sep) := by unfold aOS; infer_instance
theorem aLo {s : ByteArray} {x : List Nat} (h : aI s = x) : s.data.toList = x.map UInt8.ofNat := by
 subst h
 simp [aI, List.map_map, Function.comp_def]
theorem aNj {α β : Type} (f : α → β) (sep : List α) : ∀ xs : List (List α), (sep.intercalate xs).map f = (sep.map f).intercalate (xs.map (List.map f))
 | [] => rfl
 | [x] => by simp [List.intercalate]
 | x :: y :: r => by
  have := aNj f sep (y :: r)
  simp only [List.intercalate, List.intersperse, List.flatten_cons, List.map_append, List.map_cons] at this ⊢
  rw [this]
def aC6 : Ty := .pair (.sl .str) (.pair .str .unit)
noncomputable def qF : aG := ⟨aC6, .one .str, fun x => aOS x.1 x.2.1, fun x => aBZ x.1 x.2.1⟩
attribute [go_sem] qF aC6
theorem aIr : FOK Tryz.prog GL 46 qF := by
 rintro w S vs ⟨xs, sep, u⟩ hS hG ⟨v, vs', e1, h1, v2, vs2, e2, h2, e3⟩ ⟨p1, p2⟩
 have h1 : aO w S (.sl .str) xs [v] := h1
 obtain ⟨a, len, cap, ev, hl, hlc, hcm, hr⟩ := h1
 have h2 : aO w S .str sep [v2] := h2
 obtain ⟨s, es, hs, hsz⟩ := h2
 have hl : xs.length = len := hl
 have e3 : vs2 = [] := e3
 have hvs : vs = #[.slice a len cap, .string s] := by
  rw [← Array.toList_inj, e1, e2, e3, (List.cons.inj ev).1, (List.cons.inj es).1]
 rw [hvs]
 have hres : ∀ (t : List UInt8) (w' : World), t.map (·.toNat) = aBZ xs sep → cC w' (fun b => S b ∨ (w.heap.size ≤ b ∧ b < w'.heap.size)) .str (aBZ xs sep) (.string ⟨t.toArray⟩) := fun t w' ht => by
  show aO w' (fun b => S b ∨ (w.heap.size ≤ b ∧ b < w'.heap.size)) .str (aBZ xs sep) [.string ⟨t.toArray⟩]
  refine ⟨_, rfl, by simp [aI, ht], ?_⟩
  have : t.length = (aBZ xs sep).length := by rw [← ht, List.length_map]
  have hp : (aBZ xs sep).length ≤ 140737488355328 := p2
  show t.length ≤ maxLen
  unfold maxLen
  omega
 rcases hr with hr | ⟨b, off, ea, hb, hc⟩
 ·have hr : xs = [] := hr
  subst hr
  have hl0 : len = 0 := hl.symm
  subst hl0
  refine Calls.mono (f := 46) (Any.strings_Join_none Tryz.lays156 Tryz.bx156 a cap s w) ?_
  rintro e w' ⟨rfl, rfl⟩
  exact ⟨.string ⟨#[]⟩, rfl, .refl _ _, hres [] w' rfl⟩
 ·have ex : xs = (xs.map (fun l => (⟨(l.map UInt8.ofNat).toArray⟩ : ByteArray))).map aI := by
   rw [List.map_map]
   apply List.ext_getElem
   ·simp
   ·intro i h1 h2
    obtain ⟨ds, hd, _⟩ := hc i h1
    obtain ⟨s', _, hs', _⟩ := hd
    have hb := aLo hs'
    simp only [List.getElem_map, Function.comp]
    show xs[i] = List.map _ ((xs[i]).map UInt8.ofNat)
    rw [← hb]; exact hs'.symm
  subst ea
  have hcells : ∀ (j : Nat) x, (xs.map (fun l => (⟨(l.map UInt8.ofNat).toArray⟩ : ByteArray)))[j]? = some x → w.cell? ⟨b, off + j, none⟩ = some (.string x) := fun j x hx => by
   have hj : j < xs.length := by
    rcases Nat.lt_or_ge j xs.length with h | h
    ·exact h
    ·rw [List.getElem?_eq_none (by simpa using h)] at hx; cases hx
   obtain ⟨ds, hd, hcell⟩ := hc j hj
   obtain ⟨s', hds, hs', _⟩ := hd
   have hds : ds = [.string s'] := hds
   have := hcell 0 (.string s') (by rw [hds]; rfl)
   rw [List.getElem?_map, List.getElem?_eq_getElem hj] at hx
   have hx : (⟨((xs[j]).map UInt8.ofNat).toArray⟩ : ByteArray) = x := Option.some.inj hx
   rw [← hx, ← aLo hs']
   simpa [Ty.cells] using this
  have hsd : s.data.toList.map (·.toNat) = sep := hs
  have hj : (Lib.join ((xs.map (fun l => (⟨(l.map UInt8.ofNat).toArray⟩ : ByteArray))).map (·.data.toList)) s.data.toList).map (·.toNat) = aBZ xs sep := by
   unfold Lib.join aBZ
   rw [aNj, hsd]
   congr 1
   conv => rhs; rw [ex]
   simp only [List.map_map]
   rfl
  have key := Any.strings_Join Tryz.lays156 Tryz.bx156 b off cap (xs.map (fun l => (⟨(l.map UInt8.ofNat).toArray⟩ : ByteArray))) s w hcells (hS b hb) (by rw [List.length_map]; exact p1) (by rw [List.length_map, hl]; exact hlc) (by
   have := congrArg List.length hj
   rw [List.length_map] at this
   rw [this]; exact p2)
  rw [List.length_map, hl] at key
  refine Calls.mono (f := 46) key ?_
  rintro e w' ⟨rfl, hbel⟩
  exact ⟨_, rfl, dV.of_below hbel, hres _ w' hj⟩
end Nu
end Go.Proofs
