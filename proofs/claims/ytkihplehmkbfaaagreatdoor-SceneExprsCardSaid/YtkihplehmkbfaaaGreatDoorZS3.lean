import Derived.Test.YtkihplehmkbfaaaGreatDoorZS2
set_option linter.unusedVariables false
set_option linter.unusedSimpArgs false
namespace Go.Proofs
open Go.Vc
set_option maxRecDepth 20000
namespace Nu
attribute [-go_sem] Ex.kind Ex.text Ex.l
noncomputable def dX (F : Md) (kind_0 : Int) : Option Int :=
 if (kind_0 = (1 : Int)) ∨ (kind_0 = (2 : Int)) then some (0 : Int) else if ((6 : Int) ≤ kind_0) ∧ (kind_0 ≤ (9 : Int)) then some (2 : Int) else if ((10 : Int) ≤ kind_0) ∧ (kind_0 ≤ (13 : Int)) then some (1 : Int) else some (-1 : Int)
def aD7 : PlR := ⟨[(0, .A [0]), (1, .A [0, 3]), (2, .A [2]), (3, .A [0, 10]), (4, .A [2]), (5, .A [17]), (6, .A [2]), (7, .A [2])], []⟩
def aE8 : Ty := .pair (.i .i64) .unit
noncomputable def vS (F : Md) : aF := mSpec aE8 (.one (.i .i64)) (fun x => dX F x.1)
noncomputable def aMv (F : Md) : List (FuncId × aF) := []
theorem aMw (F : Md) : bA Tryz.prog GL (aMv F) := .nil
attribute [go_sem] aE8 aD7
set_option maxHeartbeats 4000000 in
theorem aLR (F : Md) : FOK Tryz.prog GL 73 (vS F) := by
 refine bF (aT (aMw F)) mix Tryz.func73 rfl (by kernel_rfl) (by decide) aD7 fun w0 S x Θ hw h hF => ?_
 obtain ⟨(kind_0 : Int), u⟩ := x
 simp only [bJ, go_sem]
 replace h : sat (dX F kind_0) _ := h
 unfold dX at h
 refine ⟨fun hc => ?_, fun hc => ?_⟩
 ·replace h := fV hc h
  exact aE hF [.tmp 2] rfl rfl rfl (aA h) (by simp only [aM, go_sem])
 ·replace h := fW hc h
  refine ⟨fun hc => ?_, fun hc => ?_⟩
  ·replace h := fV hc h
   exact aE hF [.tmp 2] rfl rfl rfl (aA h) (by simp only [aM, go_sem])
  ·replace h := fW hc h
   refine ⟨fun hc => ?_, fun hc => ?_⟩
   ·replace h := fV hc h
    exact aE hF [.tmp 2] rfl rfl rfl (aA h) (by simp only [aM, go_sem])
   ·replace h := fW hc h
    exact aE hF [.tmp 2] rfl rfl rfl (aA h) (by simp only [aM, go_sem])
attribute [go_sem] vS
def pH : Ty := .pair .expr (.pair (.i .i64) .unit)
attribute [go_sem] pH
noncomputable def qK (g : Ex → Int → Option (Int × (Int × (Bool × Unit)))) : aF := mSpec pH (.tup (.pair (.i .i64) (.pair (.i .i64) (.pair .bool .unit)))) (fun x => g x.1 x.2.1)
attribute [go_sem] qK
noncomputable def iZ (F : Md) (g : Ex → Int → Option (Int × (Int × (Bool × Unit)))) (e_0 : Ex) (deep_1 : Int) (n_9 : Int) (d_10 : Int) (i_11 : Int) : Option ((Int × Int × Int) ⊕ ((Int × Int) ⊕ (Int × (Int × (Bool × Unit))))) :=
 if i_11 < (((e_0.l).length : Nat) : Int) then ck (0 ≤ i_11 ∧ i_11 < (((e_0.l).length : Nat) : Int)) (ck (I64 (deep_1 + (1 : Int))) (ck ((g ((e_0.l).getD (i_11.toNat) (Ex.mk 0 [] [])) (deep_1 + (1 : Int))).isSome = true) (if ¬ (((g ((e_0.l).getD (i_11.toNat) (Ex.mk 0 [] [])) (deep_1 + (1 : Int))).getD ((0 : Int), (0 : Int), false, ())).2.2.1 = true) then some (.inr (.inr ((61 : Int), (31 : Int), false, ()))) else ck (I64 (n_9 + ((g ((e_0.l).getD (i_11.toNat) (Ex.mk 0 [] [])) (deep_1 + (1 : Int))).getD ((0 : Int), (0 : Int), false, ())).1)) (ck (I64 (((g ((e_0.l).getD (i_11.toNat) (Ex.mk 0 [] [])) (deep_1 + (1 : Int))).getD ((0 : Int), (0 : Int), false, ())).2.1 + (1 : Int))) (ck (I64 (i_11 + (1 : Int))) (some (.inl ((min (n_9 + ((g ((e_0.l).getD (i_11.toNat) (Ex.mk 0 [] [])) (deep_1 + (1 : Int))).getD ((0 : Int), (0 : Int), false, ())).1) (61 : Int)), (max d_10 (((g ((e_0.l).getD (i_11.toNat) (Ex.mk 0 [] [])) (deep_1 + (1 : Int))).getD ((0 : Int), (0 : Int), false, ())).2.1 + (1 : Int))), (i_11 + (1 : Int)))))))))) else some (.inr (.inl (n_9, d_10)))
noncomputable def mU (F : Md) (g : Ex → Int → Option (Int × (Int × (Bool × Unit)))) (e_0 : Ex) (deep_1 : Int) : Option (Int × (Int × (Bool × Unit))) :=
 ck (¬ ((30 : Int) < deep_1) → ((dX F (e_0.kind)).isSome = true)) (ck (¬ (((30 : Int) < deep_1) ∨ (((dX F (e_0.kind)).getD (0 : Int)) < (0 : Int))) → ((dX F (e_0.kind)).isSome = true)) (if (((30 : Int) < deep_1) ∨ (((dX F (e_0.kind)).getD (0 : Int)) < (0 : Int))) ∨ (¬ (((dX F (e_0.kind)).getD (0 : Int)) = (((e_0.l).length : Nat) : Int))) then ck ((dX F (e_0.kind)).isSome = true) (ck (((0 : Int) ≤ ((dX F (e_0.kind)).getD (0 : Int))) → ((dX F (e_0.kind)).isSome = true)) (some ((61 : Int), (31 : Int), ((decide ((0 : Int) ≤ ((dX F (e_0.kind)).getD (0 : Int)))) && (decide (((dX F (e_0.kind)).getD (0 : Int)) = (((e_0.l).length : Nat) : Int)))), ()))) else (dB F (fun d : Int × Int × Int => iZ F g e_0 deep_1 d.1 d.2.1 d.2.2) ((1 : Int), (1 : Int), (0 : Int))).bind (fun e => match e with | (.inl e) => some (e.1, e.2, true, ()) | (.inr e) => some e)))
noncomputable def xJ (F : Md) (g : Ex → Int → Option (Int × (Int × (Bool × Unit)))) : List (FuncId × aF) := [(32, (qK g)), (73, (vS F))]
theorem aE9 (F : Md) (g : Ex → Int → Option (Int × (Int × (Bool × Unit)))) (hg : FOK Tryz.prog GL 32 (qK g)) : bA Tryz.prog GL (xJ F g) := .cons hg (by kernel_rfl) (.cons (aLR F) (by kernel_rfl) (.nil))
theorem aIj (F : Md) (g : Ex → Int → Option (Int × (Int × (Bool × Unit)))) : gam (xJ F g) 32 = some (qK g) := rfl
attribute [go_sem] aIj
theorem aIk (F : Md) (g : Ex → Int → Option (Int × (Int × (Bool × Unit)))) : gam (xJ F g) 73 = some (vS F) := rfl
attribute [go_sem] aIk
set_option maxHeartbeats 4000000 in
theorem aJ1 (F : Md) (g : Ex → Int → Option (Int × (Int × (Bool × Unit)))) (hg : FOK Tryz.prog GL 32 (qK g)) : FOK Tryz.prog GL 32 (mSpec pH (.tup (.pair (.i .i64) (.pair (.i .i64) (.pair .bool .unit)))) (fun x => mU F g x.1 x.2.1)) := by
 refine jX (aT (aE9 F g hg)) Tryz.func32 rfl (by kernel_rfl) (by decide) fun w0 S x r hw h => ?_
 have hF : kP (fr Tryz.prog (EM (xJ F g)) S w0 Tryz.f32.ntmps) := ⟨aT (aE9 F g hg), mix⟩
 obtain ⟨(e_0 : Ex), (deep_1 : Int), u⟩ := x
 simp only [pH, Ty.wf, nH] at hw
 simp only [bJ, pH]
 try dsimp only at h
 replace h : mU F g e_0 deep_1 = some r := h
 unfold mU at h
 refine aB (aZ hF [1, 2] ?_)
 simp only [go_sem]
 refine aC (aB (aB (aD hF [1, 2, 29] ?_)))
 simp only [go_sem]
 obtain ⟨g0, h⟩ := aL h
 obtain ⟨g1, h⟩ := aL h
 repeat (refine ⟨zAD, ?_⟩)
 refine aC (bZ rfl (fun hc => ?_) (fun hc => ?_))
 ·try simp only [go_sem] at hc
  have h := gS zAB h
  refine aB (aD hF [4, 5, 6] ?_)
  simp only [go_sem]
  obtain ⟨g0, h⟩ := aL h
  obtain ⟨g1, h⟩ := aL h
  repeat (refine ⟨by first | with_reducible assumption | omega | (intros; first | with_reducible assumption | omega) | (simp only [go_sem] at *; first | with_reducible assumption | omega) | (intro _; exact ⟨rfl, by decide⟩) | (intro _; refine (?_ : _ = bD _); rfl) | exact ⟨rfl, rfl⟩ | (intro q0; (try have e1 := g1 zAE); first | assumption | omega) | decide, ?_⟩)
  obtain rfl := Option.some.inj h
  refine aC (cI (bV (dK hF [.tmp 4, .tmp 5, .tmp 6] rfl rfl rfl ?_)))
  exact zAG
 ·try simp only [go_sem] at hc
  have h := gT zAB h
  refine cQ (aC (aB (aD hF [1, 2, 7, 8] ?_)))
  simp only [go_sem]
  refine aC (aB (aB (aD hF [1, 2, 7, 8, 9] ?_)))
  simp only [go_sem]
  refine aC (eE (pB (D := Int × Int × Int) [1] (fun d => [(2, .ptr 0 []), (7, .val (.i .i64) d.1), (8, .val (.i .i64) d.2.1), (9, .val (.i .i64) d.2.2)]) (fun d => [.inr (.box 3 (.val .expr e_0))]) h ?_ ?_ ?_))
  ·first | rfl | (simp only [go_sem]; done)
  ·exact zAF
  rintro ⟨n_9, d_10, i_11⟩ s5 h hs5
  simp only [go_sem]
  try dsimp only at h
  unfold iZ at h
  refine aB (aB (aD hF [1, 2, 7, 8, 9, 47] ?_))
  simp only [go_sem]
  refine aC (bZ rfl (fun hc => ?_) (fun hc => ?_))
  ·try simp only [go_sem] at hc
   have h := gS zAB h
   refine cQ (aC (aB (eE (aB (aD hF [1, 2, 7, 8, 9, 10, 11, 12] ?_)))))
   simp only [go_sem]
   obtain ⟨g0, h⟩ := aL h
   obtain ⟨g1, h⟩ := aL h
   obtain ⟨g2, h⟩ := aL h
   try simp only [I64, I32] at g1
   repeat (refine ⟨zAA, ?_⟩)
   refine aC (aB (aB (aD hF [1, 2, 7, 8, 9, 10, 11, 63] ?_)))
   simp only [go_sem]
   refine aC (bZ rfl (fun hc => ?_) (fun hc => ?_))
   ·try simp only [go_sem] at hc
    have h := gS zAB h
    refine aB (aD hF [4, 5, 6] ?_)
    simp only [go_sem]
    obtain rfl := Option.some.inj h
    dsimp only [nZ] at hs5
    have h := hs5
    try dsimp only at h
    obtain rfl := Option.some.inj h
    refine aC (cI (bV (eB (bV (bV (eB (bV (dK hF [.tmp 4, .tmp 5, .tmp 6] rfl rfl rfl ?_))))))))
    exact zAG
   ·try simp only [go_sem] at hc
    have h := gT zAB h
    refine cQ (aC (aD hF [1, 2, 7, 8, 9] ?_))
    simp only [go_sem]
    obtain ⟨g0, h⟩ := aL h
    obtain ⟨g1, h⟩ := aL h
    try simp only [I64, I32] at g0
    try simp only [I64, I32] at g1
    repeat (refine ⟨zAA, ?_⟩)
    refine fR (aC (aD hF [1, 2, 7, 8, 9] ?_))
    simp only [go_sem]
    obtain ⟨g0, h⟩ := aL h
    try simp only [I64, I32] at g0
    repeat (refine ⟨zAA, ?_⟩)
    obtain rfl := Option.some.inj h
    dsimp only [nZ] at hs5
    refine cD (aQ ((min (n_9 + ((g ((e_0.l).getD (i_11.toNat) (Ex.mk 0 [] [])) (deep_1 + (1 : Int))).getD ((0 : Int), (0 : Int), false, ())).1) (61 : Int)), (max d_10 (((g ((e_0.l).getD (i_11.toNat) (Ex.mk 0 [] [])) (deep_1 + (1 : Int))).getD ((0 : Int), (0 : Int), false, ())).2.1 + (1 : Int))), (i_11 + (1 : Int))) hs5 rfl ?_)
    ·exact zAF
  ·try simp only [go_sem] at hc
   have h := gT zAB h
   obtain rfl := Option.some.inj h
   dsimp only [nZ] at hs5
   have h := hs5
   try dsimp only at h
   refine pX (dA (dA (fS (aC (aB (aD hF [4, 5, 6] ?_))))))
   simp only [go_sem]
   obtain rfl := Option.some.inj h
   refine aC (cI (dK hF [.tmp 4, .tmp 5, .tmp 6] rfl rfl rfl ?_))
   exact zAG
noncomputable def lR (F : Md) : Nat → Ex → Int → Option (Int × (Int × (Bool × Unit)))
 | 0 => fun _ _ => none
 | n + 1 => mU F (lR F n)
noncomputable def vT (F : Md) (n : Nat) : aF := mSpec pH (.tup (.pair (.i .i64) (.pair (.i .i64) (.pair .bool .unit)))) (fun x => lR F n x.1 x.2.1)
theorem aD8 (F : Md) : ∀ n, FOK Tryz.prog GL 32 (vT F n)
 | 0 => fun _ _ _ _ _ _ _ hp => Bool.noConfusion (show false = true from hp)
 | n + 1 => aJ1 F _ (aD8 F n)
attribute [go_sem] vT
noncomputable def eK (F : Md) (c_0 : Nat) : Option Bool :=
 some ((decide ((48 : Nat) ≤ c_0)) && (decide (c_0 ≤ (57 : Nat))))
def aFa : PlR := ⟨[(0, .A [0]), (1, .A [2])], []⟩
def aHn : Ty := .pair (.u .u8) .unit
noncomputable def xK (F : Md) : aF := mSpec aHn (.one .bool) (fun x => eK F x.1)
noncomputable def aNW (F : Md) : List (FuncId × aF) := []
theorem aNX (F : Md) : bA Tryz.prog GL (aNW F) := .nil
attribute [go_sem] aHn aFa
set_option maxHeartbeats 4000000 in
theorem aMx (F : Md) : FOK Tryz.prog GL 237 (xK F) := by
 refine bF (aT (aNX F)) mix Tryz.func237 rfl (by kernel_rfl) (by decide) aFa fun w0 S x Θ hw h hF => ?_
 obtain ⟨(c_0 : Nat), u⟩ := x
 simp only [bJ, go_sem]
 replace h : sat (eK F c_0) _ := h
 unfold eK at h
 exact aE hF [.tmp 2] rfl rfl rfl (aA h) (by simp only [aM, go_sem])
attribute [go_sem] xK
noncomputable def nF (F : Md) (k_16 : Int) (at_1 : Int) (i_8 : Int) (k_21 : Int) (v_22 : Int) : Option (Int) :=
 ck ((k_16 < k_21) → (I64 (k_16 + (3 : Int)))) (if ((k_16 < k_21) ∧ (k_21 ≤ (k_16 + (3 : Int)))) ∧ (v_22 ≤ (100 : Int)) then ck (I64 (k_21 - at_1)) (some (k_21 - at_1)) else ck (I64 (i_8 - at_1)) (some (i_8 - at_1)))
noncomputable def fP (F : Md) (s_0 : (List Nat)) (k_16 : Int) (k_23 : Int) (v_24 : Int) : Option ((Int × Int) ⊕ (Int × Int)) :=
 ck ((k_23 < (((s_0.length) : Nat) : Int)) → (I64 (k_16 + (4 : Int)))) (ck (((k_23 < (((s_0.length) : Nat) : Int)) ∧ (k_23 < (k_16 + (4 : Int)))) → (0 ≤ k_23 ∧ k_23 < (((s_0.length) : Nat) : Int))) (ck (((k_23 < (((s_0.length) : Nat) : Int)) ∧ (k_23 < (k_16 + (4 : Int)))) → ((eK F (s_0.getD (k_23.toNat) (0 : Nat))).isSome = true)) (if ((k_23 < (((s_0.length) : Nat) : Int)) ∧ (k_23 < (k_16 + (4 : Int)))) ∧ (((eK F (s_0.getD (k_23.toNat) (0 : Nat))).getD false) = true) then ck (I64 (v_24 * (10 : Int))) (ck (0 ≤ k_23 ∧ k_23 < (((s_0.length) : Nat) : Int)) (ck (I64 ((v_24 * (10 : Int)) + (((tF F .u8 (s_0.getD (k_23.toNat) (0 : Nat)) (48 : Nat)) : Nat) : Int))) (ck (I64 (k_23 + (1 : Int))) (some (.inl ((k_23 + (1 : Int)), ((v_24 * (10 : Int)) + (((tF F .u8 (s_0.getD (k_23.toNat) (0 : Nat)) (48 : Nat)) : Nat) : Int)))))))) else some (.inr (k_23, v_24)))))
noncomputable def iI (F : Md) (s_0 : (List Nat)) (at_1 : Int) (i_8 : Int) (k_16 : Int) : Option (Int) :=
 (dB F (fun d : Int × Int => fP F s_0 k_16 d.1 d.2) (k_16, (0 : Int))).bind (fun e => nF F k_16 at_1 i_8 e.1 e.2)
noncomputable def iJ (F : Md) (s_0 : (List Nat)) (at_1 : Int) (i_8 : Int) : Option (Int) :=
 ck ((i_8 < (((s_0.length) : Nat) : Int)) → (0 ≤ i_8 ∧ i_8 < (((s_0.length) : Nat) : Int))) (if (i_8 < (((s_0.length) : Nat) : Int)) ∧ ((s_0.getD (i_8.toNat) (0 : Nat)) = (101 : Nat)) then ck (I64 (i_8 + (1 : Int))) (ck (((i_8 + (1 : Int)) < (((s_0.length) : Nat) : Int)) → (0 ≤ (i_8 + (1 : Int)) ∧ (i_8 + (1 : Int)) < (((s_0.length) : Nat) : Int))) (ck (((i_8 + (1 : Int)) < (((s_0.length) : Nat) : Int)) → ¬ ((s_0.getD (i_8 + (1 : Int)).toNat (0 : Nat)) = (43 : Nat)) → (0 ≤ (i_8 + (1 : Int)) ∧ (i_8 + (1 : Int)) < (((s_0.length) : Nat) : Int))) (if ((i_8 + (1 : Int)) < (((s_0.length) : Nat) : Int)) ∧ (((s_0.getD (i_8 + (1 : Int)).toNat (0 : Nat)) = (43 : Nat)) ∨ ((s_0.getD (i_8 + (1 : Int)).toNat (0 : Nat)) = (45 : Nat))) then ck (I64 ((i_8 + (1 : Int)) + (1 : Int))) (iI F s_0 at_1 i_8 ((i_8 + (1 : Int)) + (1 : Int))) else iI F s_0 at_1 i_8 (i_8 + (1 : Int))))) else ck (I64 (i_8 - at_1)) (some (i_8 - at_1)))
noncomputable def pT (F : Md) (s_0 : (List Nat)) (i_29 : Int) : Option ((Int) ⊕ (Int)) :=
 ck ((i_29 < (((s_0.length) : Nat) : Int)) → (0 ≤ i_29 ∧ i_29 < (((s_0.length) : Nat) : Int))) (ck ((i_29 < (((s_0.length) : Nat) : Int)) → ((eK F (s_0.getD (i_29.toNat) (0 : Nat))).isSome = true)) (if (i_29 < (((s_0.length) : Nat) : Int)) ∧ (((eK F (s_0.getD (i_29.toNat) (0 : Nat))).getD false) = true) then ck (I64 (i_29 + (1 : Int))) (some (.inl (i_29 + (1 : Int)))) else some (.inr i_29)))
noncomputable def nG (F : Md) (at_1 : Int) (s_0 : (List Nat)) (i_5 : Int) : Option (Int) :=
 if i_5 = at_1 then some (0 : Int) else ck (I64 (i_5 + (1 : Int))) (ck (((i_5 + (1 : Int)) < (((s_0.length) : Nat) : Int)) → (0 ≤ i_5 ∧ i_5 < (((s_0.length) : Nat) : Int))) (ck ((((i_5 + (1 : Int)) < (((s_0.length) : Nat) : Int)) ∧ ((s_0.getD (i_5.toNat) (0 : Nat)) = (46 : Nat))) → (I64 (i_5 + (1 : Int)))) (ck ((((i_5 + (1 : Int)) < (((s_0.length) : Nat) : Int)) ∧ ((s_0.getD (i_5.toNat) (0 : Nat)) = (46 : Nat))) → (0 ≤ (i_5 + (1 : Int)) ∧ (i_5 + (1 : Int)) < (((s_0.length) : Nat) : Int))) (ck ((((i_5 + (1 : Int)) < (((s_0.length) : Nat) : Int)) ∧ ((s_0.getD (i_5.toNat) (0 : Nat)) = (46 : Nat))) → ((eK F (s_0.getD (i_5 + (1 : Int)).toNat (0 : Nat))).isSome = true)) (if (((i_5 + (1 : Int)) < (((s_0.length) : Nat) : Int)) ∧ ((s_0.getD (i_5.toNat) (0 : Nat)) = (46 : Nat))) ∧ (((eK F (s_0.getD (i_5 + (1 : Int)).toNat (0 : Nat))).getD false) = true) then ck (I64 (i_5 + (1 : Int))) ((dB F (fun d : Int => pT F s_0 d) (i_5 + (1 : Int))).bind (fun e => iJ F s_0 at_1 e)) else iJ F s_0 at_1 i_5)))))
noncomputable def pU (F : Md) (s_0 : (List Nat)) (i_32 : Int) : Option ((Int) ⊕ (Int)) :=
 ck ((i_32 < (((s_0.length) : Nat) : Int)) → (0 ≤ i_32 ∧ i_32 < (((s_0.length) : Nat) : Int))) (ck ((i_32 < (((s_0.length) : Nat) : Int)) → ((eK F (s_0.getD (i_32.toNat) (0 : Nat))).isSome = true)) (if (i_32 < (((s_0.length) : Nat) : Int)) ∧ (((eK F (s_0.getD (i_32.toNat) (0 : Nat))).getD false) = true) then ck (I64 (i_32 + (1 : Int))) (some (.inl (i_32 + (1 : Int)))) else some (.inr i_32)))
noncomputable def mG (F : Md) (s_0 : (List Nat)) (at_1 : Int) : Option Int :=
 (dB F (fun d : Int => pU F s_0 d) at_1).bind (fun e => nG F at_1 s_0 e)
def aC2 : PlR := ⟨[(0, .A [0, 1]), (1, .A [0, 1, 5]), (2, .A [0, 1, 5, 19]), (3, .A [0, 1, 5]), (4, .A [0, 1, 5, 24]), (5, .A [4]), (6, .A [0, 1, 5, 42]), (7, .A [0, 1, 5]), (8, .A [0, 1, 5, 54]), (9, .A [0, 1, 5]), (10, .A [0, 1, 5, 6]), (11, .A [0, 1, 5, 6, 67]), (12, .A [0, 1, 5, 6]), (13, .A [0, 1, 5, 6, 85]), (14, .A [0, 1, 5, 6]), (15, .A [0, 1, 5, 6, 7]), (16, .A [0, 1, 5, 6, 7, 8]), (17, .A [0, 1, 5, 6, 7, 8, 104]), (18, .A [0, 1, 5, 6, 7, 8]), (19, .A [0, 1, 5, 6, 7, 8]), (20, .A [1, 5, 6, 127]), (21, .A [1, 5]), (22, .A [4])], [(5, 7), (9, 13), (16, 18), (20, 23)]⟩
def aD9 : Ty := .pair .str (.pair (.i .i64) .unit)
noncomputable def sX (F : Md) : aF := mSpec aD9 (.one (.i .i64)) (fun x => mG F x.1 x.2.1)
noncomputable def aEa (F : Md) : List (FuncId × aF) := [(237, (xK F))]
theorem aLS (F : Md) : bA Tryz.prog GL (aEa F) := .cons (aMx F) (by kernel_rfl) (.nil)
theorem aFT (F : Md) : gam (aEa F) 237 = some (xK F) := rfl
attribute [go_sem] aD9 aC2 aFT
set_option maxHeartbeats 4000000 in
theorem aJ2 (F : Md) : FOK Tryz.prog GL 199 (sX F) := by
 refine bF (aT (aLS F)) mix Tryz.func199 rfl (by kernel_rfl) (by decide) aC2 fun w0 S x Θ hw h hF => ?_
 obtain ⟨(s_0 : (List Nat)), (at_1 : Int), u⟩ := x
 simp only [bJ, go_sem]
 replace h : sat (mG F s_0 at_1) _ := h
 unfold mG at h
 refine dM hF (D := Int) (fun d => sat (nG F at_1 s_0 d) Θ) [0, 1] (fun d => [(5, .val (.i .i64) d)]) (fun d => []) ?_ ?_
 ·simp only [go_sem, bG F, bH F, bI F]
  refine bQ hF (D := Int) [0, 1] (fun d => [(5, .val (.i .i64) d)]) (fun d => []) h rfl (by simp only [go_sem, bG F, bH F, bI F]) ?_
  rintro i_32 A2 T2 hA2 hE2 h
  simp only [go_sem, bG F, bH F, bI F]
  replace h : sat (pU F s_0 i_32) _ := h
  unfold pU at h
  obtain ⟨g0, h⟩ := aH h
  obtain ⟨g1, h⟩ := aH h
  repeat (refine ⟨by omega, ?_⟩)
  refine ⟨fun hc => ?_, fun hc => ?_⟩
  ·replace h := fV hc h
   obtain ⟨g0, h⟩ := aH h
   repeat (refine ⟨by omega, ?_⟩)
   replace h := hA2 _ (aA h)
   exact aQ _ h rfl (by simp only [go_sem, bG F, bH F, bI F])
  ·replace h := fW hc h
   replace h := hE2 _ (aA h)
   try dsimp only at h
   exact aQ (i_32) h rfl (by simp only [go_sem, bG F, bH F, bI F])
 ·rintro i_5 h
  simp only [go_sem, bG F, bH F, bI F]
  replace h : sat (nG F at_1 s_0 i_5) _ := h
  unfold nG at h
  refine dQ h (fun hc h => ?_) fun hc h => ?_
  ·exact aE hF [.tmp 4] rfl rfl rfl (aA h) (by simp only [aM, go_sem, bG F, bH F, bI F])
  ·refine dM hF (D := Int) (fun d => sat (iJ F s_0 at_1 d) Θ) [0, 1] (fun d => [(5, .val (.i .i64) d)]) (fun d => []) ?_ ?_
   ·simp only [go_sem, bG F, bH F, bI F]
    obtain ⟨g0, h⟩ := aH h
    obtain ⟨g1, h⟩ := aH h
    obtain ⟨g2, h⟩ := aH h
    obtain ⟨g3, h⟩ := aH h
    obtain ⟨g4, h⟩ := aH h
    repeat (refine ⟨by omega, ?_⟩)
    refine ⟨fun hc => ?_, fun hc => ?_⟩
    ·replace h := fV hc h
     obtain ⟨g0, h⟩ := aH h
     repeat (refine ⟨by omega, ?_⟩)
     refine bQ hF (D := Int) [0, 1] (fun d => [(5, .val (.i .i64) d)]) (fun d => []) h rfl (by simp only [go_sem, bG F, bH F, bI F]) ?_
     rintro i_29 A8 T8 hA8 hE8 h
     simp only [go_sem, bG F, bH F, bI F]
     replace h : sat (pT F s_0 i_29) _ := h
     unfold pT at h
     obtain ⟨g0, h⟩ := aH h
     obtain ⟨g1, h⟩ := aH h
     repeat (refine ⟨by omega, ?_⟩)
     refine ⟨fun hc => ?_, fun hc => ?_⟩
     ·replace h := fV hc h
      obtain ⟨g0, h⟩ := aH h
      repeat (refine ⟨by omega, ?_⟩)
      replace h := hA8 _ (aA h)
      exact aQ _ h rfl (by simp only [go_sem, bG F, bH F, bI F])
     ·replace h := fW hc h
      replace h := hE8 _ (aA h)
      try dsimp only at h
      exact aQ (i_29) h rfl (by simp only [go_sem, bG F, bH F, bI F])
    ·replace h := fW hc h
     exact aQ (i_5) h rfl (by simp only [go_sem, bG F, bH F, bI F])
   ·rintro i_8 h
    simp only [go_sem, bG F, bH F, bI F]
    replace h : sat (iJ F s_0 at_1 i_8) _ := h
    unfold iJ at h
    obtain ⟨g0, h⟩ := aH h
    repeat (refine ⟨by omega, ?_⟩)
    refine ⟨fun hc => ?_, fun hc => ?_⟩
    ·replace h := fV hc h
     obtain ⟨g0, h⟩ := aH h
     repeat (refine ⟨by omega, ?_⟩)
     refine dM hF (D := Int) (fun d => sat (iI F s_0 at_1 i_8 d) Θ) [0, 1, 5] (fun d => [(6, .val (.i .i64) d)]) (fun d => []) ?_ ?_
     ·simp only [go_sem, bG F, bH F, bI F]
      obtain ⟨g0, h⟩ := aH h
      obtain ⟨g1, h⟩ := aH h
      repeat (refine ⟨by omega, ?_⟩)
      refine ⟨fun hc => ?_, fun hc => ?_⟩
      ·replace h := fV hc h
       obtain ⟨g0, h⟩ := aH h
       repeat (refine ⟨by omega, ?_⟩)
       exact aQ ((i_8 + (1 : Int)) + (1 : Int)) h rfl (by simp only [go_sem, bG F, bH F, bI F])
      ·replace h := fW hc h
       exact aQ (i_8 + (1 : Int)) h rfl (by simp only [go_sem, bG F, bH F, bI F])
     ·rintro k_16 h
      simp only [go_sem, bG F, bH F, bI F]
      replace h : sat (iI F s_0 at_1 i_8 k_16) _ := h
      unfold iI at h
      refine dM hF (D := Int × Int) (fun d => sat (nF F k_16 at_1 i_8 d.1 d.2) Θ) [1, 5, 7] (fun d => [(6, .val (.i .i64) d.1), (8, .val (.i .i64) d.2)]) (fun d => []) ?_ ?_
      ·simp only [go_sem, bG F, bH F, bI F]
       refine bQ hF (D := Int × Int) [0, 1, 5, 7] (fun d => [(6, .val (.i .i64) d.1), (8, .val (.i .i64) d.2)]) (fun d => []) h rfl (by simp only [go_sem, bG F, bH F, bI F]) ?_
       rintro ⟨k_23, v_24⟩ A17 T17 hA17 hE17 h
       simp only [go_sem, bG F, bH F, bI F]
       replace h : sat (fP F s_0 k_16 k_23 v_24) _ := h
       unfold fP at h
       obtain ⟨g0, h⟩ := aH h
       obtain ⟨g1, h⟩ := aH h
       obtain ⟨g2, h⟩ := aH h
       repeat (refine ⟨by omega, ?_⟩)
       refine ⟨fun hc => ?_, fun hc => ?_⟩
       ·replace h := fV hc h
        obtain ⟨g0, h⟩ := aH h
        obtain ⟨g1, h⟩ := aH h
        obtain ⟨g2, h⟩ := aH h
        repeat (refine ⟨by omega, ?_⟩)
        obtain ⟨g0, h⟩ := aH h
        repeat (refine ⟨by omega, ?_⟩)
        replace h := hA17 _ (aA h)
        exact aQ _ h rfl (by simp only [go_sem, bG F, bH F, bI F])
       ·replace h := fW hc h
        replace h := hE17 _ (aA h)
        try dsimp only at h
        exact aQ (k_23, v_24) h rfl (by simp only [go_sem, bG F, bH F, bI F])
      ·rintro ⟨k_21, v_22⟩ h
       simp only [go_sem, bG F, bH F, bI F]
       replace h : sat (nF F k_16 at_1 i_8 k_21 v_22) _ := h
       unfold nF at h
       obtain ⟨g0, h⟩ := aH h
       repeat (refine ⟨by omega, ?_⟩)
       refine ⟨fun hc => ?_, fun hc => ?_⟩
       ·replace h := fV hc h
        obtain ⟨g0, h⟩ := aH h
        repeat (refine ⟨by omega, ?_⟩)
        exact aE hF [.tmp 4] rfl rfl rfl (aA h) (by simp only [aM, go_sem, bG F, bH F, bI F])
       ·replace h := fW hc h
        obtain ⟨g0, h⟩ := aH h
        repeat (refine ⟨by omega, ?_⟩)
        exact aE hF [.tmp 4] rfl rfl rfl (aA h) (by simp only [aM, go_sem, bG F, bH F, bI F])
    ·replace h := fW hc h
     obtain ⟨g0, h⟩ := aH h
     repeat (refine ⟨by omega, ?_⟩)
     exact aE hF [.tmp 4] rfl rfl rfl (aA h) (by simp only [aM, go_sem, bG F, bH F, bI F])
attribute [go_sem] sX
noncomputable def oB (F : Md) (s_0 : (List Nat)) : Option Bool :=
 ck (((¬ (s_0 = (aY ⟨#[]⟩))) ∧ ((((s_0.length) : Nat) : Int) ≤ (60 : Int))) → ((mG F s_0 (0 : Int)).isSome = true)) (some (((!(decide (s_0 = (aY ⟨#[]⟩)))) && (decide ((((s_0.length) : Nat) : Int) ≤ (60 : Int)))) && (decide (((mG F s_0 (0 : Int)).getD (0 : Int)) = (((s_0.length) : Nat) : Int)))))
def aHo : PlR := ⟨[(0, .A [0]), (1, .A [2])], []⟩
def aJd : Ty := .pair .str .unit
noncomputable def zV (F : Md) : aF := mSpec aJd (.one .bool) (fun x => oB F x.1)
noncomputable def aJe (F : Md) : List (FuncId × aF) := [(199, (sX F))]
theorem aOY (F : Md) : bA Tryz.prog GL (aJe F) := .cons (aJ2 F) (by kernel_rfl) (.nil)
theorem aJ3 (F : Md) : gam (aJe F) 199 = some (sX F) := rfl
attribute [go_sem] aJd aHo aJ3
set_option maxHeartbeats 4000000 in
theorem aNY (F : Md) : FOK Tryz.prog GL 131 (zV F) := by
 refine bF (aT (aOY F)) mix Tryz.func131 rfl (by kernel_rfl) (by decide) aHo fun w0 S x Θ hw h hF => ?_
 obtain ⟨(s_0 : (List Nat)), u⟩ := x
 simp only [bJ, go_sem]
 replace h : sat (oB F s_0) _ := h
 unfold oB at h
 refine aP h fun g0 h => ?_
 exact aE hF [.tmp 2] rfl rfl rfl (aA h) (by simp only [aM, go_sem])
attribute [go_sem] zV
noncomputable def jA (F : Md) (l_0 : (List (List Nat))) (s_1 : (List Nat)) (i_5 : Int) : Option ((Int) ⊕ ((Unit) ⊕ Int)) :=
 if i_5 < (((l_0.length) : Nat) : Int) then ck (0 ≤ i_5 ∧ i_5 < (((l_0.length) : Nat) : Int)) (if (l_0.getD (i_5.toNat) ([] : List Nat)) = s_1 then some (.inr (.inr i_5)) else ck (I64 (i_5 + (1 : Int))) (some (.inl (i_5 + (1 : Int))))) else some (.inr (.inl ()))
noncomputable def nK (F : Md) (l_0 : (List (List Nat))) (s_1 : (List Nat)) : Option Int :=
 (dB F (fun d : Int => jA F l_0 s_1 d) (0 : Int)).bind (fun e => match e with | (.inl e) => some (-1 : Int) | (.inr e) => some e)
def aEb : PlR := ⟨[(0, .A [0, 1]), (1, .A [0, 1, 5]), (2, .A [0, 1, 5, 9]), (3, .A [0, 1, 5]), (4, .A [0, 1, 5, 17]), (5, .A [4]), (6, .A [4])], []⟩
def aFb : Ty := .pair (.sl .str) (.pair .str .unit)
noncomputable def vU (F : Md) : aF := mSpec aFb (.one (.i .i64)) (fun x => nK F x.1 x.2.1)
noncomputable def aMy (F : Md) : List (FuncId × aF) := []
theorem aMz (F : Md) : bA Tryz.prog GL (aMy F) := .nil
attribute [go_sem] aFb aEb
set_option maxHeartbeats 4000000 in
theorem aLT (F : Md) : FOK Tryz.prog GL 132 (vU F) := by
 refine bF (aT (aMz F)) mix Tryz.func132 rfl (by kernel_rfl) (by decide) aEb fun w0 S x Θ hw h hF => ?_
 obtain ⟨(l_0 : (List (List Nat))), (s_1 : (List Nat)), u⟩ := x
 simp only [bJ, go_sem]
 replace h : sat (nK F l_0 s_1) _ := h
 unfold nK at h
 refine bQ hF (D := Int) [0, 1] (fun d => [(5, .val (.i .i64) d)]) (fun d => []) h rfl (by simp only [go_sem]) ?_
 rintro i_5 A2 T2 hA2 hE2 h
 simp only [go_sem]
 replace h : sat (jA F l_0 s_1 i_5) _ := h
 unfold jA at h
 refine eI h (fun hc h => ?_) fun hc h => ?_
 ·refine aP h fun g0 h => ?_
  refine dQ h (fun hc h => ?_) fun hc h => ?_
  ·replace h := hE2 _ (aA h)
   try dsimp only at h
   exact aE hF [.tmp 4] rfl rfl rfl (aA h) (by simp only [aM, go_sem])
  ·refine aP h fun g0 h => ?_
   replace h := hA2 _ (aA h)
   exact aQ _ h rfl (by simp only [go_sem])
 ·replace h := hE2 _ (aA h)
  try dsimp only at h
  exact aE hF [.tmp 4] rfl rfl rfl (aA h) (by simp only [aM, go_sem])
attribute [go_sem] vU
def nW : Ty := .pair .expr (.pair (.sl .str) .unit)
attribute [go_sem] nW
noncomputable def oZ (g : Ex → (List (List Nat)) → Option (Bool)) : aF := mSpec nW (.one .bool) (fun x => g x.1 x.2.1)
attribute [go_sem] oZ
noncomputable def iM (F : Md) (g : Ex → (List (List Nat)) → Option (Bool)) (e_0 : Ex) (names_1 : (List (List Nat))) (i_5 : Int) : Option ((Int) ⊕ ((Unit) ⊕ Bool)) :=
 if i_5 < (((e_0.l).length : Nat) : Int) then ck (0 ≤ i_5 ∧ i_5 < (((e_0.l).length : Nat) : Int)) (ck ((g ((e_0.l).getD (i_5.toNat) (Ex.mk 0 [] [])) names_1).isSome = true) (if ¬ (((g ((e_0.l).getD (i_5.toNat) (Ex.mk 0 [] [])) names_1).getD false) = true) then some (.inr (.inr false)) else ck (I64 (i_5 + (1 : Int))) (some (.inl (i_5 + (1 : Int)))))) else some (.inr (.inl ()))
noncomputable def lV (F : Md) (g : Ex → (List (List Nat)) → Option (Bool)) (e_0 : Ex) (names_1 : (List (List Nat))) : Option Bool :=
 if (e_0.kind) = (1 : Int) then ck ((oB F (e_0.text)).isSome = true) (some ((oB F (e_0.text)).getD false)) else if (e_0.kind) = (2 : Int) then ck (¬ ((e_0.text) = (aY ⟨#[116]⟩)) → ((nK F names_1 (e_0.text)).isSome = true)) (some ((decide ((e_0.text) = (aY ⟨#[116]⟩))) || (decide ((0 : Int) ≤ ((nK F names_1 (e_0.text)).getD (0 : Int)))))) else if ¬ ((e_0.text) = (aY ⟨#[]⟩)) then some false else (dB F (fun d : Int => iM F g e_0 names_1 d) (0 : Int)).bind (fun e => match e with | (.inl e) => some true | (.inr e) => some e)
noncomputable def qL (F : Md) (g : Ex → (List (List Nat)) → Option (Bool)) : List (FuncId × aF) := [(131, (zV F)), (132, (vU F)), (65, (oZ g))]
theorem aEc (F : Md) (g : Ex → (List (List Nat)) → Option (Bool)) (hg : FOK Tryz.prog GL 65 (oZ g)) : bA Tryz.prog GL (qL F g) := .cons (aNY F) (by kernel_rfl) (.cons (aLT F) (by kernel_rfl) (.cons hg (by kernel_rfl) (.nil)))
theorem aFU (F : Md) (g : Ex → (List (List Nat)) → Option (Bool)) : gam (qL F g) 131 = some (zV F) := rfl
attribute [go_sem] aFU
theorem aFV (F : Md) (g : Ex → (List (List Nat)) → Option (Bool)) : gam (qL F g) 132 = some (vU F) := rfl
attribute [go_sem] aFV
theorem aHp (F : Md) (g : Ex → (List (List Nat)) → Option (Bool)) : gam (qL F g) 65 = some (oZ g) := rfl
attribute [go_sem] aHp
set_option maxHeartbeats 4000000 in
theorem aIl (F : Md) (g : Ex → (List (List Nat)) → Option (Bool)) (hg : FOK Tryz.prog GL 65 (oZ g)) : FOK Tryz.prog GL 65 (mSpec nW (.one .bool) (fun x => lV F g x.1 x.2.1)) := by
 refine jX (aT (aEc F g hg)) Tryz.func65 rfl (by kernel_rfl) (by decide) fun w0 S x r hw h => ?_
 have hF : kP (fr Tryz.prog (EM (qL F g)) S w0 Tryz.f65.ntmps) := ⟨aT (aEc F g hg), mix⟩
 obtain ⟨(e_0 : Ex), (names_1 : (List (List Nat))), u⟩ := x
 simp only [nW, Ty.wf, nH] at hw
 simp only [bJ, nW]
 try dsimp only at h
 replace h : lV F g e_0 names_1 = some r := h
 unfold lV at h
 refine aB (aZ hF [1, 2] ?_)
 simp only [go_sem]
 refine aC (aB (eE (aB (aD hF [1, 2, 6] ?_))))
 simp only [go_sem]
 refine aC (bZ rfl (fun hc => ?_) (fun hc => ?_))
 ·try simp only [go_sem] at hc
  have h := gS zAB h
  refine aB (aD hF [4] ?_)
  simp only [go_sem]
  obtain ⟨g0, h⟩ := aL h
  repeat (refine ⟨zAA, ?_⟩)
  obtain rfl := Option.some.inj h
  refine aC (cI (eB (bV (dK hF [.tmp 4] rfl rfl rfl ?_))))
  exact zAG
 ·try simp only [go_sem] at hc
  have h := gT zAB h
  refine aB (aD hF [1, 2, 13] ?_)
  simp only [go_sem]
  refine aC (bZ rfl (fun hc => ?_) (fun hc => ?_))
  ·try simp only [go_sem] at hc
   have h := gS zAB h
   refine aB (aD hF [4] ?_)
   simp only [go_sem]
   obtain ⟨g0, h⟩ := aL h
   repeat (refine ⟨zAC, ?_⟩)
   obtain rfl := Option.some.inj h
   refine aC (cI (eB (bV (dK hF [.tmp 4] rfl rfl rfl ?_))))
   exact zAG
  ·try simp only [go_sem] at hc
   have h := gT zAB h
   refine aB (aD hF [1, 2, 27] ?_)
   simp only [go_sem]
   refine aC (bZ rfl (fun hc => ?_) (fun hc => ?_))
   ·try simp only [go_sem] at hc
    have h := gS zAB h
    refine aB (aD hF [4] ?_)
    simp only [go_sem]
    obtain rfl := Option.some.inj h
    refine aC (cI (eB (bV (dK hF [.tmp 4] rfl rfl rfl ?_))))
    exact zAG
   ·try simp only [go_sem] at hc
    have h := gT zAB h
    refine cQ (fR (aC (aB (aB (aD hF [1, 2, 5] ?_)))))
    simp only [go_sem]
    refine aC (eE (pB (D := Int) [1] (fun d => [(2, .ptr 0 []), (5, .val (.i .i64) d)]) (fun d => [.inr (.box 3 (.val .expr e_0))]) h ?_ ?_ ?_))
    ·first | rfl | (simp only [go_sem]; done)
    ·exact zAF
    rintro i_5 s8 h hs8
    simp only [go_sem]
    try dsimp only at h
    unfold iM at h
    refine aB (aB (aD hF [1, 2, 5, 35] ?_))
    simp only [go_sem]
    refine aC (bZ rfl (fun hc => ?_) (fun hc => ?_))
    ·try simp only [go_sem] at hc
     have h := gS zAB h
     refine cQ (aC (aB (eE (aB (aD hF [1, 2, 5, 45] ?_)))))
     simp only [go_sem]
     obtain ⟨g0, h⟩ := aL h
     obtain ⟨g1, h⟩ := aL h
     repeat (refine ⟨zAA, ?_⟩)
     refine aC (bZ rfl (fun hc => ?_) (fun hc => ?_))
     ·try simp only [go_sem] at hc
      have h := gS zAB h
      refine aB (aD hF [4] ?_)
      simp only [go_sem]
      obtain rfl := Option.some.inj h
      dsimp only [nZ] at hs8
      have h := hs8
      try dsimp only at h
      obtain rfl := Option.some.inj h
      refine aC (cI (eB (bV (bV (eB (bV (dK hF [.tmp 4] rfl rfl rfl ?_)))))))
      exact zAG
     ·try simp only [go_sem] at hc
      have h := gT zAB h
      refine cQ (fR (aC (aD hF [1, 2, 5] ?_)))
      simp only [go_sem]
      obtain ⟨g0, h⟩ := aL h
      try simp only [I64, I32] at g0
      repeat (refine ⟨zAA, ?_⟩)
      obtain rfl := Option.some.inj h
      dsimp only [nZ] at hs8
      refine cD (aQ (i_5 + (1 : Int)) hs8 rfl ?_)
      ·exact zAF
    ·try simp only [go_sem] at hc
     have h := gT zAB h
     obtain rfl := Option.some.inj h
     dsimp only [nZ] at hs8
     have h := hs8
     try dsimp only at h
     refine pX (dA (dA (fS (aC (aB (aD hF [4] ?_))))))
     simp only [go_sem]
     obtain rfl := Option.some.inj h
     refine aC (cI (dK hF [.tmp 4] rfl rfl rfl ?_))
     exact zAG
noncomputable def iK (F : Md) : Nat → Ex → (List (List Nat)) → Option (Bool)
 | 0 => fun _ _ => none
 | n + 1 => lV F (iK F n)
noncomputable def sY (F : Md) (n : Nat) : aF := mSpec nW (.one .bool) (fun x => iK F n x.1 x.2.1)
theorem aC3 (F : Md) : ∀ n, FOK Tryz.prog GL 65 (sY F n)
 | 0 => fun _ _ _ _ _ _ _ hp => Bool.noConfusion (show false = true from hp)
 | n + 1 => aIl F _ (aC3 F n)
attribute [go_sem] sY
noncomputable def kO (F : Md) (e_0 : Ex) (names_1 : (List (List Nat))) : Option Bool :=
 (lR F 64 e_0 (1 : Int)).bind (fun v_6 => ck ((((v_6.2.2.1 = true) ∧ (v_6.1 ≤ (60 : Int))) ∧ (v_6.2.1 ≤ (30 : Int))) → ((iK F 64 e_0 names_1).isSome = true)) (some (((v_6.2.2.1 && (decide (v_6.1 ≤ (60 : Int)))) && (decide (v_6.2.1 ≤ (30 : Int)))) && ((iK F 64 e_0 names_1).getD false))))
def aBX : PlR := ⟨[(0, .B [1, 2]), (1, .A [1, 2, 5, 6, 7]), (2, .A [4])], []⟩
def aC4 : Ty := .pair .expr (.pair (.sl .str) .unit)
noncomputable def rF (F : Md) : aF := mSpec aC4 (.one .bool) (fun x => kO F x.1 x.2.1)
noncomputable def yL (F : Md) : List (FuncId × aF) := [(32, (vT F 64)), (65, (sY F 64))]
theorem aJ4 (F : Md) : bA Tryz.prog GL (yL F) := .cons (aD8 F 64) (by kernel_rfl) (.cons (aC3 F 64) (by kernel_rfl) (.nil))
theorem aFW (F : Md) : gam (yL F) 32 = some (vT F 64) := rfl
theorem aFX (F : Md) : gam (yL F) 65 = some (sY F 64) := rfl
attribute [go_sem] aC4 aBX aFW aFX
set_option maxHeartbeats 4000000 in
theorem aIm (F : Md) : FOK Tryz.prog GL 26 (rF F) := by
 refine bF (aT (aJ4 F)) mix Tryz.func26 rfl (by kernel_rfl) (by decide) aBX fun w0 S x Θ hw h hF => ?_
 obtain ⟨(e_0 : Ex), (names_1 : (List (List Nat))), u⟩ := x
 simp only [bJ, go_sem]
 replace h : sat (kO F e_0 names_1) _ := h
 unfold kO at h
 obtain ⟨v_6, hv, h⟩ := aI h
 try simp only [hv, go_sem]
 refine aP h fun g0 h => ?_
 exact aE hF [.tmp 4] rfl rfl rfl (aA h) (by simp only [aM, go_sem])
attribute [go_sem] rF
def rG : Ty := .pair .expr (.pair (.i .i64) .unit)
attribute [go_sem] rG
noncomputable def sI (g : Ex → Int → Option (Int)) : aF := mSpec rG (.one (.i .i64)) (fun x => g x.1 x.2.1)
attribute [go_sem] sI
noncomputable def kH (F : Md) (g : Ex → Int → Option (Int)) (e_0 : Ex) (deep_1 : Int) (n_7 : Int) (i_8 : Int) : Option ((Int × Int) ⊕ (Int)) :=
 if (i_8 < (((e_0.l).length : Nat) : Int)) ∧ (n_7 ≤ (200 : Int)) then ck (0 ≤ i_8 ∧ i_8 < (((e_0.l).length : Nat) : Int)) (ck (I64 (deep_1 + (1 : Int))) (ck ((g ((e_0.l).getD (i_8.toNat) (Ex.mk 0 [] [])) (deep_1 + (1 : Int))).isSome = true) (ck (I64 (n_7 + ((g ((e_0.l).getD (i_8.toNat) (Ex.mk 0 [] [])) (deep_1 + (1 : Int))).getD (0 : Int)))) (ck (I64 (i_8 + (1 : Int))) (some (.inl ((n_7 + ((g ((e_0.l).getD (i_8.toNat) (Ex.mk 0 [] [])) (deep_1 + (1 : Int))).getD (0 : Int))), (i_8 + (1 : Int))))))))) else some (.inr n_7)
noncomputable def jS (F : Md) (g : Ex → Int → Option (Int)) (e_0 : Ex) (deep_1 : Int) : Option Int :=
 if ((40 : Int) < deep_1) ∨ ((100 : Int) < (((e_0.text).length : Nat) : Int)) then some (201 : Int) else (dB F (fun d : Int × Int => kH F g e_0 deep_1 d.1 d.2) ((1 : Int), (0 : Int))).bind (fun e => some (min e (201 : Int)))
noncomputable def aCL (F : Md) (g : Ex → Int → Option (Int)) : List (FuncId × aF) := [(60, (sI g))]
theorem aHq (F : Md) (g : Ex → Int → Option (Int)) (hg : FOK Tryz.prog GL 60 (sI g)) : bA Tryz.prog GL (aCL F g) := .cons hg (by kernel_rfl) (.nil)
theorem aJ5 (F : Md) (g : Ex → Int → Option (Int)) : gam (aCL F g) 60 = some (sI g) := rfl
attribute [go_sem] aJ5
set_option maxHeartbeats 4000000 in
theorem aLU (F : Md) (g : Ex → Int → Option (Int)) (hg : FOK Tryz.prog GL 60 (sI g)) : FOK Tryz.prog GL 60 (mSpec rG (.one (.i .i64)) (fun x => jS F g x.1 x.2.1)) := by
 refine jX (aT (aHq F g hg)) Tryz.func60 rfl (by kernel_rfl) (by decide) fun w0 S x r hw h => ?_
 have hF : kP (fr Tryz.prog (EM (aCL F g)) S w0 Tryz.f60.ntmps) := ⟨aT (aHq F g hg), mix⟩
 obtain ⟨(e_0 : Ex), (deep_1 : Int), u⟩ := x
 simp only [rG, Ty.wf, nH] at hw
 simp only [bJ, rG]
 try dsimp only at h
 replace h : jS F g e_0 deep_1 = some r := h
 unfold jS at h
 refine aB (aZ hF [1, 2] ?_)
 simp only [go_sem]
 refine aC (aB (aD hF [1, 2, 5] ?_))
 simp only [go_sem]
 refine aC (aB (aB (aD hF [1, 2, 5, 14] ?_)))
 simp only [go_sem]
 refine aC (bZ rfl (fun hc => ?_) (fun hc => ?_))
 ·try simp only [go_sem] at hc
  have h := gS zAB h
  refine aB (aD hF [4] ?_)
  simp only [go_sem]
  obtain rfl := Option.some.inj h
  refine aC (cI (bV (dK hF [.tmp 4] rfl rfl rfl ?_)))
  exact zAG
 ·try simp only [go_sem] at hc
  have h := gT zAB h
  refine cQ (aC (aB (aB (aD hF [1, 2, 5, 6] ?_))))
  simp only [go_sem]
  refine aC (eE (pB (D := Int × Int) [1] (fun d => [(2, .ptr 0 []), (5, .val (.i .i64) d.1), (6, .val (.i .i64) d.2)]) (fun d => [.inr (.box 3 (.val .expr e_0))]) h ?_ ?_ ?_))
  ·first | rfl | (simp only [go_sem]; done)
  ·exact zAF
  rintro ⟨n_7, i_8⟩ s5 h hs5
  simp only [go_sem]
  try dsimp only at h
  unfold kH at h
  refine aB (aB (aD hF [1, 2, 5, 6, 23] ?_))
  simp only [go_sem]
  refine aC (bZ rfl (fun hc => ?_) (fun hc => ?_))
  ·try simp only [go_sem] at hc
   have h := gS zAB h
   refine cQ (aC (aB (eE (aD hF [1, 2, 5, 6] ?_))))
   simp only [go_sem]
   obtain ⟨g0, h⟩ := aL h
   obtain ⟨g1, h⟩ := aL h
   obtain ⟨g2, h⟩ := aL h
   obtain ⟨g3, h⟩ := aL h
   try simp only [I64, I32] at g1
   try simp only [I64, I32] at g3
   repeat (refine ⟨zAA, ?_⟩)
   refine fR (aC (aD hF [1, 2, 5, 6] ?_))
   simp only [go_sem]
   obtain ⟨g0, h⟩ := aL h
   try simp only [I64, I32] at g0
   repeat (refine ⟨zAA, ?_⟩)
   obtain rfl := Option.some.inj h
   dsimp only [nZ] at hs5
   refine cD (aQ ((n_7 + ((g ((e_0.l).getD (i_8.toNat) (Ex.mk 0 [] [])) (deep_1 + (1 : Int))).getD (0 : Int))), (i_8 + (1 : Int))) hs5 rfl ?_)
   ·exact zAF
  ·try simp only [go_sem] at hc
   have h := gT zAB h
   obtain rfl := Option.some.inj h
   dsimp only [nZ] at hs5
   have h := hs5
   try dsimp only at h
   refine pX (dA (dA (fS (aC (aB (aD hF [4] ?_))))))
   simp only [go_sem]
   obtain rfl := Option.some.inj h
   refine aC (cI (dK hF [.tmp 4] rfl rfl rfl ?_))
   exact zAG
noncomputable def lM (F : Md) : Nat → Ex → Int → Option (Int)
 | 0 => fun _ _ => none
 | n + 1 => jS F (lM F n)
noncomputable def xL (F : Md) (n : Nat) : aF := mSpec rG (.one (.i .i64)) (fun x => lM F n x.1 x.2.1)
theorem aFc (F : Md) : ∀ n, FOK Tryz.prog GL 60 (xL F n)
 | 0 => fun _ _ _ _ _ _ _ hp => Bool.noConfusion (show false = true from hp)
 | n + 1 => aLU F _ (aFc F n)
attribute [go_sem] xL
noncomputable def sJ (F : Md) (e_0 : Ex) : Option Bool :=
 (lM F 64 e_0 (1 : Int)).bind (fun v_5 => some (decide (v_5 ≤ (200 : Int))))
def aEd : PlR := ⟨[(0, .B [1]), (1, .A [2])], []⟩
def aFd : Ty := .pair .expr .unit
noncomputable def vV (F : Md) : aF := mSpec aFd (.one .bool) (fun x => sJ F x.1)
noncomputable def aFe (F : Md) : List (FuncId × aF) := [(60, (xL F 64))]
theorem aMA (F : Md) : bA Tryz.prog GL (aFe F) := .cons (aFc F 64) (by kernel_rfl) (.nil)
theorem aIn (F : Md) : gam (aFe F) 60 = some (xL F 64) := rfl
attribute [go_sem] aFd aEd aIn
set_option maxHeartbeats 4000000 in
theorem aLV (F : Md) : FOK Tryz.prog GL 23 (vV F) := by
 refine bF (aT (aMA F)) mix Tryz.func23 rfl (by kernel_rfl) (by decide) aEd fun w0 S x Θ hw h hF => ?_
 obtain ⟨(e_0 : Ex), u⟩ := x
 simp only [bJ, go_sem]
 replace h : sat (sJ F e_0) _ := h
 unfold sJ at h
 obtain ⟨v_5, hv, h⟩ := aI h
 try simp only [hv, go_sem]
 exact aE hF [.tmp 2] rfl rfl rfl (aA h) (by simp only [aM, go_sem])
attribute [go_sem] vV
end Nu
end Go.Proofs
namespace Go.Proofs
open Go.Vc
set_option maxRecDepth 20000
namespace Nu
attribute [-go_sem] Ex.kind Ex.text Ex.l
theorem aUw : zU (some 1000) = some true := by kernel_rfl
def aEe : Bool := true
noncomputable def xM : aF := ⟨vR, .one .bool, fun _ => True, fun _ => aEe⟩
attribute [go_sem] xM
theorem aMB : FOK Tryz.prog GL 24 xM := aM1 (aMu (some 1000)) (fun _ _ _ => aUw)
noncomputable def mH (F : Md) (e_0 : Ex) (names_1 : (List (List Nat))) : Option Bool :=
 (sJ F e_0).bind (fun v_8 => if (¬ (v_8 = true)) ∨ ((8 : Int) < (((names_1.length) : Nat) : Int)) then some aEe else ck ((aEe = true) → ((eC F e_0 names_1).isSome = true)) (ck ((aEe = true) → ((kO F e_0 names_1).isSome = true)) (some (aEe && (((eC F e_0 names_1).getD false) == ((kO F e_0 names_1).getD false))))))
def yR : PlR := ⟨[(0, .B [1, 2]), (1, .A [1, 2, 12]), (2, .A [4]), (3, .A [4])], []⟩
def oN : Ty := .pair .expr (.pair (.sl .str) .unit)
noncomputable def yS (F : Md) : aF := mSpec oN (.one .bool) (fun x => mH F x.1 x.2.1)
noncomputable def mI (F : Md) : List (FuncId × aF) := [(23, (vV F)), (24, xM), (25, (eN F)), (26, (rF F))]
theorem aFY (F : Md) : bA Tryz.prog GL (mI F) := .cons (aLV F) (by kernel_rfl) (.cons aMB (by kernel_rfl) (.cons (rA F) (by kernel_rfl) (.cons (aIm F) (by kernel_rfl) (.nil))))
theorem aDh (F : Md) : gam (mI F) 23 = some (vV F) := rfl
theorem aDi (F : Md) : gam (mI F) 24 = some xM := rfl
theorem aDj (F : Md) : gam (mI F) 25 = some (eN F) := rfl
theorem aDk (F : Md) : gam (mI F) 26 = some (rF F) := rfl
attribute [go_sem] oN yR aDh aDi aDj aDk
set_option maxHeartbeats 4000000 in
theorem aEC (F : Md) : FOK Tryz.prog GL 5 (yS F) := by
 refine bF (aT (aFY F)) mix Tryz.func5 rfl (by kernel_rfl) (by decide) yR fun w0 S x Θ hw h hF => ?_
 obtain ⟨(e_0 : Ex), (names_1 : (List (List Nat))), u⟩ := x
 simp only [bJ, go_sem]
 replace h : sat (mH F e_0 names_1) _ := h
 unfold mH at h
 obtain ⟨v_8, hv, h⟩ := aI h
 try simp only [hv, go_sem]
 refine ⟨fun hc => ?_, fun hc => ?_⟩
 ·replace h := fV zAB h
  exact aE hF [.tmp 4] rfl rfl rfl (aA h) (by simp only [aM, go_sem])
 ·replace h := fW zAB h
  refine aP h fun g0 h => aP h fun g1 h => ?_
  exact aE hF [.tmp 4] rfl rfl rfl (aA h) (by simp only [aM, go_sem])
attribute [go_sem] yS
end Nu
end Go.Proofs
namespace Go.Proofs
open Go.Vc
set_option maxRecDepth 20000
namespace Nu
theorem bB {α : Type} {p : Prop} [Decidable p] {k : Option α} {r : Option α} (hp : p) (h : k = r) : ck p k = r := (aUs hp).trans h
theorem dL {α β : Type} {x : Option α} {a : α} {k : α → Option β} {r : Option β} (hx : x = some a) (h : k a = r) : x.bind k = r := by rw [hx]; exact h
theorem take_succ {s : List Nat} {k : Nat} (h : k < s.length) : s.take (k + 1) = s.take k ++ [s.getD k 0] := by
 rw [List.take_add_one, List.getElem?_eq_getElem h, List.getD_eq_getElem?_getD, List.getElem?_eq_getElem h]
 rfl
def wH (c : Nat) : Bool := decide (48 ≤ c ∧ c ≤ 57)
def bR (s : List Nat) (i : Nat) : Nat := ((s.drop i).takeWhile wH).length
theorem aSR {p : Nat → Bool} : ∀ (l : List Nat) (n : Nat), n ≤ (l.takeWhile p).length → (n < (l.takeWhile p).length ↔ n < l.length ∧ p (l.getD n 0) = true)
 | [], n, h => by simp
 | x :: r, n, h => by
  by_cases hp : p x = true
  ·rw [List.takeWhile_cons_of_pos hp] at h ⊢
   cases n with
   | zero => simp [hp]
   | succ n =>
    have := aSR (p := p) r n (by simpa using h)
    simpa using this
  ·rw [List.takeWhile_cons_of_neg hp] at h ⊢
   have : n = 0 := by simpa using h
   subst this
   simp [hp]
theorem vW (s : List Nat) (i : Nat) : bR s i ≤ s.length - i := by
 have := (List.takeWhile_prefix (p := wH) (l := s.drop i)).length_le
 rw [List.length_drop] at this
 exact this
theorem aIo (s : List Nat) (i : Nat) (hs : s.length ≤ 4611686018427387904) (hi : i ≤ 4611686018427387904) : nA none s (i : Int) = some (bR s i : Int) := by
 have hd := vW s i
 unfold nA
 refine dL (aGv (step := fun d : Int => kL none (i : Int) s d) (I := fun n => 0 ≤ n ∧ n ≤ bR s i) (fun n => ((bR s i : Int) - n).toNat) (fun _ => (bR s i : Int)) ?_ 0 ⟨by omega, by omega⟩) rfl
 rintro n ⟨n0, n1⟩
 obtain ⟨k, rfl⟩ := Int.eq_ofNat_of_zero_le n0
 show (∃ d', kL none (i : Int) s k = _ ∧ _) ∨ kL none (i : Int) s k = _
 have e : ((i : Int) + (k : Int)).toNat = i + k := by omega
 have hx : s.getD (i + k) 0 = (s.drop i).getD k 0 := by simp [List.getD_eq_getElem?_getD, List.getElem?_drop]
 have ht := aSR (p := wH) (s.drop i) k (by show k ≤ bR s i; omega)
 have ht : k < bR s i ↔ i + k < s.length ∧ 48 ≤ s.getD (i + k) 0 ∧ s.getD (i + k) 0 ≤ 57 := by
  rw [hx]
  refine ht.trans ?_
  rw [List.length_drop, wH, decide_eq_true_iff]
  constructor
  ·rintro ⟨h1, h2⟩; exact ⟨by omega, h2⟩
  ·rintro ⟨h1, h2⟩; exact ⟨by omega, h2⟩
 unfold kL
 rw [e]
 by_cases hk : k < bR s i
 ·left
  obtain ⟨h1, h2, h3⟩ := ht.1 hk
  refine ⟨(k : Int) + 1, ?_, ⟨by omega, by omega⟩, by omega, rfl⟩
  refine bB (by constructor <;> omega) (bB (fun _ => by constructor <;> omega) (bB (fun _ => by constructor <;> omega) (bB (fun _ => by constructor <;> omega) (bB (fun _ => by constructor <;> omega) ?_))))
  rw [if_pos ⟨⟨by omega, h2⟩, h3⟩]
  exact bB (by constructor <;> omega) rfl
 ·right
  refine bB (by constructor <;> omega) (bB (fun _ => by constructor <;> omega) (bB (fun _ => by constructor <;> omega) (bB (fun _ => by constructor <;> omega) (bB (fun _ => by constructor <;> omega) ?_))))
  rw [if_neg (fun h => hk (ht.2 ⟨by omega, h.1.2, h.2⟩)), show (k : Int) = (bR s i : Int) from by omega]
theorem aUS {a b : Nat} (ha : a < 256) (hb : b ≤ a) : tF none .u8 a b = a - b := by
 have hm : gL .u8 = 256 := by decide +kernel
 rw [aQA, aJ7, hm, show a + (256 - b) = (a - b) + 256 from by omega, Nat.add_mod_right, Nat.mod_eq_of_lt (by omega)]
def rH (s : List Nat) : Nat := s.foldl (fun m c => m * 10 + (c - 48)) 0
theorem aM5 (s : List Nat) (c : Nat) : rH (s ++ [c]) = rH s * 10 + (c - 48) := by simp [rH]
theorem aM6 : ∀ (s : List Nat) (m : Nat), (∀ c ∈ s, wH c = true) → s.foldl (fun m c => m * 10 + (c - 48)) m < (m + 1) * 10 ^ s.length
 | [], m, _ => by simp
 | x :: r, m, h => by
  have hx := h x (by simp)
  simp only [wH, decide_eq_true_iff] at hx
  have ih := aM6 r (m * 10 + (x - 48)) (fun c hc => h c (by simp [hc]))
  rw [List.foldl_cons, List.length_cons, Nat.pow_succ, Nat.mul_comm (10 ^ r.length) 10, ← Nat.mul_assoc]
  exact Nat.lt_of_lt_of_le ih (Nat.mul_le_mul_right _ (by omega))
theorem aQE {s : List Nat} (h : ∀ c ∈ s, wH c = true) : rH s < 10 ^ s.length := by
 have := aM6 s 0 h
 rw [Nat.zero_add, Nat.one_mul] at this
 exact this
theorem aSS {k : Nat} (h : k ≤ 18) : 10 ^ k ≤ 1000000000000000000 := Nat.pow_le_pow_right (n := 10) (by decide) h
theorem aTQ (s : List Nat) (hd : ∀ c ∈ s, wH c = true) (h0 : 0 < s.length) (h1 : s.length ≤ 18) : nT none s = some ((rH s : Int), (), ()) := by
 have hget : ∀ k, k < s.length → 48 ≤ s.getD k 0 ∧ s.getD k 0 ≤ 57 := fun k hk => by
  have hg : s.getD k 0 ∈ s := by rw [List.getD_eq_getElem?_getD, List.getElem?_eq_getElem hk]; exact List.getElem_mem hk
  have := hd _ hg
  simpa only [wH, decide_eq_true_iff] using this
 have hlt : ∀ k, rH (s.take k) < 1000000000000000000 ∨ k > s.length := fun k => by
  rcases Nat.lt_or_ge s.length k with h | h
  ·exact .inr h
  ·left
   have a := aQE (s := s.take k) (fun c hc => hd c (List.mem_of_mem_take hc))
   have b := aSS (k := (s.take k).length) (by rw [List.length_take]; omega)
   omega
 have key : gW none s s = some ((rH s : Int), (), ()) := by
  unfold gW
  refine dL (aGv (step := fun d : Int × Int => gF none s d.1 d.2) (I := fun d => 0 ≤ d.2 ∧ d.2 ≤ s.length ∧ d.1 = (rH (s.take d.2.toNat) : Int)) (fun d => ((s.length : Int) - d.2).toNat) (fun _ => .inl (rH s : Int)) ?_ (0, 0) ⟨by simp, by simp, by simp [rH]⟩) ?_
  ·rintro ⟨n, i⟩ ⟨i0, i1, i2⟩
   have i0 : 0 ≤ i := i0
   have i1 : i ≤ s.length := i1
   have i2 : n = (rH (s.take i.toNat) : Int) := i2
   show (∃ d', gF none s n i = _ ∧ _) ∨ gF none s n i = _
   unfold gF
   by_cases hi : i < s.length
   ·left
    have hk : i.toNat < s.length := by omega
    obtain ⟨c1, c2⟩ := hget _ hk
    have hsub : tF none .u8 (s.getD i.toNat 0) 48 = s.getD i.toNat 0 - 48 := aUS (by omega) c1
    have hb : rH (s.take (i.toNat + 1)) = rH (s.take i.toNat) * 10 + (s.getD i.toNat 0 - 48) := by rw [take_succ hk, aM5]
    have hl := hlt (i.toNat + 1)
    refine ⟨((rH (s.take (i + 1).toNat) : Int), i + 1), ?_, ⟨by simp only; omega, by simp only; omega, rfl⟩, by simp only; omega, rfl⟩
    rw [if_pos hi, hsub, show (i + 1).toNat = i.toNat + 1 from by omega, hb]
    refine bB (by constructor <;> omega) ?_
    rw [if_neg (by omega), i2]
    refine bB (by constructor <;> omega) (bB (by constructor <;> omega) (bB (by constructor <;> omega) ?_))
    congr 3
   ·right
    rw [if_neg hi, i2, List.take_of_length_le (by omega)]
  ·unfold mA
   obtain ⟨c1, c2⟩ := hget 0 h0
   refine bB (by omega) ?_
   rw [if_neg (by omega)]
 have h2 : mT none s = some ((rH s : Int), (), ()) := by
  unfold mT
  obtain ⟨c1, c2⟩ := hget 0 h0
  rw [if_pos (.inr ⟨trivial, by omega, by omega⟩)]
  refine bB (by omega) (bB (fun _ => by omega) ?_)
  rw [if_neg (by omega)]
  exact key
 unfold nT
 exact dL h2 rfl
theorem aOZ (s : List Nat) (i : Nat) : ∀ c ∈ (s.drop i).take (bR s i), wH c = true := by
 intro c hc
 have h : (s.drop i).take (bR s i) = (s.drop i).takeWhile wH := by
  have := List.prefix_iff_eq_take.1 (List.takeWhile_prefix (p := wH) (l := s.drop i))
  exact this.symm
 rw [h] at hc
 exact List.all_eq_true.1 List.all_takeWhile c hc
abbrev aTR : Type := List Nat × Int × Bool × Unit
def litNo : aTR := ([], 0, false, ())
def dV (s : List Nat) (i : Nat) (c : Nat) : Prop := i < s.length ∧ s.getD i 0 = c
instance (s : List Nat) (i c : Nat) : Decidable (dV s i c) := inferInstanceAs (Decidable (_ ∧ _))
def aNZ (s : List Nat) (i : Nat) (all : List Nat) (pow : Int) (neg : Bool) : aTR :=
 if bR s i < 1 ∨ 3 < bR s i then litNo
 else if 100 < rH ((s.drop i).take (bR s i)) then litNo
 else (all, pow + (if neg then -(rH ((s.drop i).take (bR s i)) : Int) else rH ((s.drop i).take (bR s i))), decide (i + bR s i = s.length), ())
def aRo (s : List Nat) (i : Nat) (all : List Nat) (pow : Int) : aTR :=
 if dV s i 101 then aNZ s (if dV s (i + 1) 45 ∨ dV s (i + 1) 43 then i + 2 else i + 1) all pow (decide (dV s (i + 1) 45))
 else (all, pow, decide (i = s.length), ())
def aN0 (s : List Nat) : aTR :=
 if 60 < s.length ∨ bR s 0 = 0 then litNo
 else if dV s (bR s 0) 46 then
  if bR s (bR s 0 + 1) = 0 then litNo
  else aRo s (bR s 0 + 1 + bR s (bR s 0 + 1)) (s.take (bR s 0) ++ (s.drop (bR s 0 + 1)).take (bR s (bR s 0 + 1))) (-(bR s (bR s 0 + 1) : Int))
 else aRo s (bR s 0) (s.take (bR s 0)) 0
theorem aST (s : List Nat) (i : Nat) : s.getD (i : Int).toNat 0 = s.getD i 0 := by rw [Int.toNat_natCast]
theorem aSU (s : List Nat) (k : Nat) (all : List Nat) (pow x : Int) (hs : s.length ≤ 60) (hk : k ≤ 100) (hp : -100 ≤ pow ∧ pow ≤ 100) (hx : -100 ≤ x ∧ x ≤ 100) : iW none pow (k : Int) (bR s k : Int) all s x = some (all, pow + x, decide (k + bR s k = s.length), ()) := by
 have hd := vW s k
 unfold iW
 refine bB (by constructor <;> omega) (bB (by constructor <;> omega) ?_)
 unfold iV
 have : decide ((k : Int) + (bR s k : Int) = (s.length : Int)) = decide (k + bR s k = s.length) := decide_eq_decide.2 (by omega)
 rw [this]
theorem aSV (s : List Nat) (i k : Nat) (all : List Nat) (pow : Int) (hs : s.length ≤ 60) (hi : i ≤ 60) (hk : k ≤ 100) (hp : -100 ≤ pow ∧ pow ≤ 100) : iX none s (i : Int) pow all (k : Int) = some (aNZ s k all pow (decide (dV s (i + 1) 45))) := by
 have hd := vW s k
 unfold iX aNZ
 refine dL (aIo s k (by omega) (by omega)) ?_
 by_cases h1 : bR s k < 1 ∨ 3 < bR s k
 ·rw [if_pos (by omega), if_pos h1]; rfl
 ·rw [if_neg (by omega), if_neg h1]
  have ht : List.drop (k : Int).toNat (List.take ((k : Int) + (bR s k : Int)).toNat s) = (s.drop k).take (bR s k) := by
   rw [List.drop_take, Int.toNat_natCast]
   congr 1
   omega
  have hl : ((s.drop k).take (bR s k)).length = bR s k := by rw [List.length_take, List.length_drop]; omega
  have ha := aTQ _ (aOZ s k) (by omega) (by omega)
  simp only [ht]
  refine bB (by constructor <;> omega) (bB (by constructor <;> omega) (dL ha ?_))
  by_cases h2 : 100 < rH ((s.drop k).take (bR s k))
  ·rw [if_pos (by omega), if_pos h2]; rfl
  ·rw [if_neg (by omega), if_neg h2]
   have e : ((i : Int) + 1).toNat = i + 1 := by omega
   rw [e]
   by_cases h3 : dV s (i + 1) 45
   ·have h3' : i + 1 < s.length ∧ s.getD (i + 1) 0 = 45 := h3
    rw [if_pos ⟨by omega, h3'.2⟩, decide_eq_true h3]
    refine bB (by constructor <;> omega) ?_
    rw [show (0 : Int) - (rH ((s.drop k).take (bR s k)) : Int) = -(rH ((s.drop k).take (bR s k)) : Int) from by omega]
    rw [aSU s k all pow _ hs hk hp (by constructor <;> omega)]
    rfl
   ·have h3' : ¬ (i + 1 < s.length ∧ s.getD (i + 1) 0 = 45) := h3
    rw [if_neg (fun h => h3' ⟨by omega, h.2⟩), decide_eq_false h3]
    rw [aSU s k all pow _ hs hk hp (by constructor <;> omega)]
    rfl
theorem aSW (s : List Nat) (i : Nat) (all : List Nat) (pow : Int) (hs : s.length ≤ 60) (hi : i ≤ 60) (hp : -100 ≤ pow ∧ pow ≤ 100) : iY none s (i : Int) all pow = some (aRo s i all pow) := by
 unfold iY aRo
 have e : ((i : Int) + 1).toNat = i + 1 := by omega
 rw [aST, e]
 refine bB (fun _ => by constructor <;> omega) ?_
 by_cases h : dV s i 101
 ·have h' : i < s.length ∧ s.getD i 0 = 101 := h
  rw [if_pos ⟨by omega, h'.2⟩, if_pos h]
  refine bB (by constructor <;> omega) (bB (fun _ => by constructor <;> omega) (bB (fun _ _ => by constructor <;> omega) ?_))
  by_cases h2 : dV s (i + 1) 45 ∨ dV s (i + 1) 43
  ·have h2' : (i + 1 < s.length ∧ s.getD (i + 1) 0 = 45) ∨ (i + 1 < s.length ∧ s.getD (i + 1) 0 = 43) := h2
   rw [if_pos (by rcases h2' with h | h; exact .inl ⟨by omega, h.2⟩; exact .inr ⟨by omega, h.2⟩), if_pos h2]
   refine bB (by constructor <;> omega) ?_
   have := aSV s i (i + 2) all pow hs hi (by omega) hp
   rw [show ((i + 2 : Nat) : Int) = (i : Int) + 1 + 1 from by omega] at this
   exact this
  ·have h2' : ¬ ((i + 1 < s.length ∧ s.getD (i + 1) 0 = 45) ∨ (i + 1 < s.length ∧ s.getD (i + 1) 0 = 43)) := h2
   rw [if_neg (fun h => h2' (by rcases h with h | h; exact .inl ⟨by omega, h.2⟩; exact .inr ⟨by omega, h.2⟩)), if_neg h2]
   have := aSV s i (i + 1) all pow hs hi (by omega) hp
   rw [show ((i + 1 : Nat) : Int) = (i : Int) + 1 from by omega] at this
   exact this
 ·have h' : ¬ (i < s.length ∧ s.getD i 0 = 101) := h
  rw [if_neg (fun h => h' ⟨by omega, h.2⟩), if_neg h]
  unfold iV
  have : decide ((i : Int) = (s.length : Int)) = decide (i = s.length) := decide_eq_decide.2 (by omega)
  rw [this]
theorem aUx (s : List Nat) (hs : s.length ≤ 4611686018427387904) : lQ none s = some (aN0 s) := by
 have hd0 := vW s 0
 have hd1 := vW s (bR s 0 + 1)
 unfold lQ aN0
 have e0 := aIo s 0 hs (by omega)
 rw [show ((0 : Nat) : Int) = 0 from rfl] at e0
 refine dL e0 (bB (by constructor <;> omega) ?_)
 by_cases h1 : 60 < s.length ∨ bR s 0 = 0
 ·rw [if_pos (by omega), if_pos h1]; rfl
 ·rw [if_neg (by omega), if_neg h1]
  rw [aST]
  refine bB (fun _ => by constructor <;> omega) ?_
  by_cases h2 : dV s (bR s 0) 46
  ·have h2' : bR s 0 < s.length ∧ s.getD (bR s 0) 0 = 46 := h2
   rw [if_pos ⟨by omega, h2'.2⟩, if_pos h2]
   have e1 := aIo s (bR s 0 + 1) hs (by omega)
   rw [show ((bR s 0 + 1 : Nat) : Int) = (bR s 0 : Int) + 1 from by omega] at e1
   refine bB (by constructor <;> omega) (dL e1 ?_)
   by_cases h3 : bR s (bR s 0 + 1) = 0
   ·rw [if_pos (by omega), if_pos h3]; rfl
   ·rw [if_neg (by omega), if_neg h3]
    have ht : List.drop ((bR s 0 : Int) + 1).toNat (List.take ((bR s 0 : Int) + 1 + (bR s (bR s 0 + 1) : Int)).toNat s) = (s.drop (bR s 0 + 1)).take (bR s (bR s 0 + 1)) := by
     rw [List.drop_take, show ((bR s 0 : Int) + 1).toNat = bR s 0 + 1 from by omega]
     congr 1
     omega
    simp only [ht, Int.toNat_natCast]
    have hl1 : (s.take (bR s 0)).length ≤ 60 := by rw [List.length_take]; omega
    have hl2 : ((s.drop (bR s 0 + 1)).take (bR s (bR s 0 + 1))).length ≤ 60 := by rw [List.length_take]; omega
    refine bB (by constructor <;> omega) (bB (by constructor <;> omega) (bB (by constructor <;> omega) (bB (by constructor <;> omega) (bB (by omega) (bB (by constructor <;> omega) (bB (by constructor <;> omega) (bB (by constructor <;> omega) ?_)))))))
    have := aSW s (bR s 0 + 1 + bR s (bR s 0 + 1)) (s.take (bR s 0) ++ (s.drop (bR s 0 + 1)).take (bR s (bR s 0 + 1))) (-(bR s (bR s 0 + 1) : Int)) (by omega) (by omega) (by constructor <;> omega)
    rw [show ((bR s 0 + 1 + bR s (bR s 0 + 1) : Nat) : Int) = (bR s 0 : Int) + 1 + (bR s (bR s 0 + 1) : Int) from by omega] at this
    rw [show (0 : Int) - (bR s (bR s 0 + 1) : Int) = -(bR s (bR s 0 + 1) : Int) from by omega]
    exact this
  ·have h2' : ¬ (bR s 0 < s.length ∧ s.getD (bR s 0) 0 = 46) := h2
   rw [if_neg (fun h => h2' ⟨by omega, h.2⟩), if_neg h2]
   rw [Int.toNat_natCast]
   exact aSW s (bR s 0) _ 0 (by omega) (by omega) (by decide)
theorem aIp (c : Nat) : eK none c = some (wH c) := by
 unfold eK wH
 rw [Bool.decide_and]
theorem aLW {s : List Nat} {i k : Nat} (h : k ≤ bR s i) : k < bR s i ↔ i + k < s.length ∧ wH (s.getD (i + k) 0) = true := by
 have hx : s.getD (i + k) 0 = (s.drop i).getD k 0 := by simp [List.getD_eq_getElem?_getD, List.getElem?_drop]
 have ht := aSR (p := wH) (s.drop i) k h
 rw [hx]
 refine ht.trans ?_
 rw [List.length_drop]
 constructor
 ·rintro ⟨h1, h2⟩; exact ⟨by omega, h2⟩
 ·rintro ⟨h1, h2⟩; exact ⟨by omega, h2⟩
theorem aLX {f : Int → Option (Int ⊕ Int)} (s : List Nat) (hs : s.length ≤ 1099511627776) (i : Nat) (hi : i ≤ s.length)
  (hf : ∀ n : Int, f n = ck ((n < (s.length : Int)) → (0 ≤ n ∧ n < (s.length : Int))) (ck ((n < (s.length : Int)) → (eK none (s.getD n.toNat 0)).isSome = true) (if n < (s.length : Int) ∧ (eK none (s.getD n.toNat 0)).getD false = true then ck (I64 (n + 1)) (some (.inl (n + 1))) else some (.inr n)))) :
  aOC f (i : Int) = some ((i + bR s i : Nat) : Int) := by
 have hd := vW s i
 refine aGv (step := f) (I := fun n => (i : Int) ≤ n ∧ n ≤ ((i + bR s i : Nat) : Int)) (fun n => (((i + bR s i : Nat) : Int) - n).toNat) (fun _ => ((i + bR s i : Nat) : Int)) ?_ (i : Int) ⟨by omega, by omega⟩
 intro n ⟨n0, n1⟩
 obtain ⟨k, rfl⟩ : ∃ k : Nat, n = ((i + k : Nat) : Int) := ⟨(n - i).toNat, by omega⟩
 have ht := aLW (s := s) (i := i) (k := k) (by omega)
 rw [hf, aIp, Int.toNat_natCast, Option.getD_some]
 by_cases hk : k < bR s i
 ·left
  obtain ⟨h1, h2⟩ := ht.1 hk
  refine ⟨((i + k : Nat) : Int) + 1, ?_, ⟨by omega, by omega⟩, by omega, rfl⟩
  refine bB (fun _ => by constructor <;> omega) (bB (fun _ => rfl) ?_)
  rw [if_pos ⟨by omega, h2⟩]
  exact bB (by constructor <;> omega) rfl
 ·right
  refine bB (fun _ => by constructor <;> omega) (bB (fun _ => rfl) ?_)
  rw [if_neg (fun h => hk (ht.2 ⟨by omega, h.2⟩))]
  congr 2; omega
theorem aSX (s : List Nat) (hs : s.length ≤ 1099511627776) (k : Nat) (hk : k ≤ s.length + 2) :
  aOC (fun d : Int × Int => fP none s (k : Int) d.1 d.2) ((k : Int), 0) = some (((k + min (bR s k) 4 : Nat) : Int), (rH ((s.drop k).take (min (bR s k) 4)) : Int)) := by
 have hd := vW s k
 refine aGv (step := fun d : Int × Int => fP none s (k : Int) d.1 d.2) (I := fun d => (k : Int) ≤ d.1 ∧ d.1 ≤ ((k + min (bR s k) 4 : Nat) : Int) ∧ d.2 = (rH ((s.drop k).take (d.1 - k).toNat) : Int)) (fun d => (((k + min (bR s k) 4 : Nat) : Int) - d.1).toNat) (fun _ => (((k + min (bR s k) 4 : Nat) : Int), (rH ((s.drop k).take (min (bR s k) 4)) : Int))) ?_ ((k : Int), 0) ⟨by simp, by simp only; omega, by simp [rH]⟩
 rintro ⟨n, v⟩ ⟨n0, n1, n2⟩
 have n0 : (k : Int) ≤ n := n0
 have n1 : n ≤ ((k + min (bR s k) 4 : Nat) : Int) := n1
 have n2 : v = (rH ((s.drop k).take (n - k).toNat) : Int) := n2
 obtain ⟨j, rfl⟩ : ∃ j : Nat, n = ((k + j : Nat) : Int) := ⟨(n - k).toNat, by omega⟩
 rw [show (((k + j : Nat) : Int) - (k : Int)).toNat = j from by omega] at n2
 show (∃ d', fP none s (k : Int) ((k + j : Nat) : Int) v = _ ∧ _) ∨ fP none s (k : Int) ((k + j : Nat) : Int) v = _
 have ht := aLW (s := s) (i := k) (k := j) (by omega)
 unfold fP
 rw [aIp, Int.toNat_natCast, Option.getD_some]
 by_cases hj : j < min (bR s k) 4
 ·left
  obtain ⟨h1, h2⟩ := ht.1 (by omega)
  have hdg : 48 ≤ s.getD (k + j) 0 ∧ s.getD (k + j) 0 ≤ 57 := by simpa only [wH, decide_eq_true_iff] using h2
  have hsub : tF none .u8 (s.getD (k + j) 0) 48 = s.getD (k + j) 0 - 48 := aUS (by omega) hdg.1
  have hx : (s.drop k).getD j 0 = s.getD (k + j) 0 := by simp [List.getD_eq_getElem?_getD, List.getElem?_drop]
  have hb2 : rH ((s.drop k).take (j + 1)) = rH ((s.drop k).take j) * 10 + (s.getD (k + j) 0 - 48) := by
   rw [take_succ (by rw [List.length_drop]; omega), aM5, hx]
  have hlt : rH ((s.drop k).take j) < 10 ^ 4 := by
   have hall := aOZ s k
   have hp : ∀ c ∈ (s.drop k).take j, wH c = true := fun c hc => hall c (by
    have : (s.drop k).take j = ((s.drop k).take (bR s k)).take j := by rw [List.take_take, Nat.min_eq_left (by omega)]
    rw [this] at hc; exact List.mem_of_mem_take hc)
   refine Nat.lt_of_lt_of_le (aQE hp) (Nat.pow_le_pow_right (by decide) ?_)
   rw [List.length_take]; omega
  refine ⟨(((k + j : Nat) : Int) + 1, (rH ((s.drop k).take (j + 1)) : Int)), ?_, ⟨by simp only; omega, by simp only; omega, ?_⟩, by simp only; omega, rfl⟩
  ·refine bB (fun _ => by constructor <;> omega) (bB (fun _ => by constructor <;> omega) (bB (fun _ => rfl) ?_))
   rw [if_pos ⟨⟨by omega, by omega⟩, h2⟩, hsub, n2, hb2]
   refine bB (by constructor <;> omega) (bB (by constructor <;> omega) (bB (by constructor <;> omega) (bB (by constructor <;> omega) ?_)))
   congr 3
  ·simp only
   rw [show (((k + j : Nat) : Int) + 1 - (k : Int)).toNat = j + 1 from by omega]
 ·right
  have e : j = min (bR s k) 4 := by omega
  refine bB (fun _ => by constructor <;> omega) (bB (fun _ => by constructor <;> omega) (bB (fun _ => rfl) ?_))
  rw [if_neg ?_, n2, e]
  rintro ⟨⟨h1, h2⟩, h3⟩
  have := ht.2 ⟨by omega, h3⟩
  omega
def aPN (s : List Nat) (i : Nat) : Nat :=
 if dV s i 101 then
  if 1 ≤ bR s (if dV s (i + 1) 45 ∨ dV s (i + 1) 43 then i + 2 else i + 1) ∧ bR s (if dV s (i + 1) 45 ∨ dV s (i + 1) 43 then i + 2 else i + 1) ≤ 3 ∧ rH ((s.drop (if dV s (i + 1) 45 ∨ dV s (i + 1) 43 then i + 2 else i + 1)).take (bR s (if dV s (i + 1) 45 ∨ dV s (i + 1) 43 then i + 2 else i + 1))) ≤ 100
  then (if dV s (i + 1) 45 ∨ dV s (i + 1) 43 then i + 2 else i + 1) + bR s (if dV s (i + 1) 45 ∨ dV s (i + 1) 43 then i + 2 else i + 1) else i
 else i
def aPO (s : List Nat) : Nat :=
 if bR s 0 = 0 then 0
 else if dV s (bR s 0) 46 ∧ bR s (bR s 0 + 1) ≠ 0 then aPN s (bR s 0 + 1 + bR s (bR s 0 + 1))
 else aPN s (bR s 0)
theorem aQF (s : List Nat) (hs : s.length ≤ 1099511627776) (i k : Nat) (hi : i ≤ s.length) (hk : k ≤ s.length + 2) :
  iI none s 0 (i : Int) (k : Int) = some ((if 1 ≤ bR s k ∧ bR s k ≤ 3 ∧ rH ((s.drop k).take (bR s k)) ≤ 100 then k + bR s k else i : Nat) : Int) := by
 have hd := vW s k
 unfold iI nF
 refine dL (aSX s hs k hk) ?_
 simp only
 refine bB (fun _ => by constructor <;> omega) ?_
 by_cases h : 1 ≤ bR s k ∧ bR s k ≤ 3 ∧ rH ((s.drop k).take (bR s k)) ≤ 100
 ·have e : min (bR s k) 4 = bR s k := by omega
  rw [if_pos h, e, if_pos ⟨⟨by omega, by omega⟩, by omega⟩]
  refine bB (by constructor <;> omega) ?_
  congr 1
 ·rw [if_neg h, if_neg ?_]
  ·refine bB (by constructor <;> omega) ?_
   congr 1
  ·rintro ⟨⟨h1, h2⟩, h3⟩
   have e : min (bR s k) 4 = bR s k := by omega
   rw [e] at h3
   exact h ⟨by omega, by omega, by omega⟩
theorem aQG (s : List Nat) (hs : s.length ≤ 1099511627776) (i : Nat) (hi : i ≤ s.length) : iJ none s 0 (i : Int) = some ((aPN s i : Nat) : Int) := by
 have e : ((i : Int) + 1).toNat = i + 1 := by omega
 unfold iJ aPN
 rw [Int.toNat_natCast, e]
 refine bB (fun _ => by constructor <;> omega) ?_
 by_cases h : dV s i 101
 ·have h' : i < s.length ∧ s.getD i 0 = 101 := h
  rw [if_pos ⟨by omega, h'.2⟩, if_pos h]
  refine bB (by constructor <;> omega) (bB (fun _ => by constructor <;> omega) (bB (fun _ _ => by constructor <;> omega) ?_))
  by_cases h2 : dV s (i + 1) 45 ∨ dV s (i + 1) 43
  ·have h2' : (i + 1 < s.length ∧ s.getD (i + 1) 0 = 45) ∨ (i + 1 < s.length ∧ s.getD (i + 1) 0 = 43) := h2
   rw [if_pos (by rcases h2' with h | h; exact ⟨by omega, .inr h.2⟩; exact ⟨by omega, .inl h.2⟩)]
   refine bB (by constructor <;> omega) ?_
   have := aQF s hs i (i + 2) hi (by omega)
   rw [show ((i + 2 : Nat) : Int) = (i : Int) + 1 + 1 from by omega] at this
   rw [this]
   simp only [h2, if_true]
  ·have h2' : ¬ ((i + 1 < s.length ∧ s.getD (i + 1) 0 = 45) ∨ (i + 1 < s.length ∧ s.getD (i + 1) 0 = 43)) := h2
   rw [if_neg (fun h => h2' (by rcases h with ⟨h3, h4 | h4⟩; exact .inr ⟨by omega, h4⟩; exact .inl ⟨by omega, h4⟩))]
   have := aQF s hs i (i + 1) hi (by omega)
   rw [show ((i + 1 : Nat) : Int) = (i : Int) + 1 from by omega] at this
   rw [this]
   simp only [h2, if_false]
 ·have h' : ¬ (i < s.length ∧ s.getD i 0 = 101) := h
  rw [if_neg (fun h => h' ⟨by omega, h.2⟩), if_neg h]
  refine bB (by constructor <;> omega) ?_
  congr 1
theorem aO0 (s : List Nat) (hs : s.length ≤ 1099511627776) : mG none s 0 = some ((aPO s : Nat) : Int) := by
 have hd := vW s 0
 have hd1 := vW s (bR s 0 + 1)
 unfold mG
 have h1 := aLX (f := fun d : Int => pU none s d) s hs 0 (by omega) (fun n => rfl)
 rw [Nat.zero_add] at h1
 refine dL h1 ?_
 unfold nG aPO
 have e : ((bR s 0 : Int) + 1).toNat = bR s 0 + 1 := by omega
 by_cases h0 : bR s 0 = 0
 ·rw [if_pos (by omega), if_pos h0]; rfl
 ·rw [if_neg (by omega), if_neg h0, Int.toNat_natCast, e, aIp, Option.getD_some]
  refine bB (by constructor <;> omega) (bB (fun _ => by constructor <;> omega) (bB (fun _ => by constructor <;> omega) (bB (fun _ => by constructor <;> omega) (bB (fun _ => rfl) ?_))))
  have hi := aLW (s := s) (i := bR s 0 + 1) (k := 0) (Nat.zero_le _)
  rw [Nat.add_zero] at hi
  by_cases h2 : dV s (bR s 0) 46 ∧ bR s (bR s 0 + 1) ≠ 0
  ·have h2' : bR s 0 < s.length ∧ s.getD (bR s 0) 0 = 46 := h2.1
   obtain ⟨q1, q2⟩ := hi.1 (by omega)
   rw [if_pos ⟨⟨by omega, h2'.2⟩, q2⟩, if_pos h2]
   have h3 := aLX (f := fun d : Int => pT none s d) s hs (bR s 0 + 1) (by omega) (fun n => rfl)
   rw [show ((bR s 0 + 1 : Nat) : Int) = (bR s 0 : Int) + 1 from by omega] at h3
   exact bB (by constructor <;> omega) (dL h3 (aQG s hs _ (by omega)))
  ·rw [if_neg ?_, if_neg h2]
   ·exact aQG s hs _ (by omega)
   ·rintro ⟨⟨p1, p2⟩, p3⟩
    have := hi.2 ⟨by omega, p3⟩
    exact h2 ⟨⟨by omega, p2⟩, by omega⟩
theorem aO1 (s : List Nat) (i : Nat) (all : List Nat) (pow : Int) : decide (aPN s i = s.length) = (aRo s i all pow).2.2.1 := by
 unfold aPN aRo
 by_cases h : dV s i 101
 ·have h' : i < s.length := h.1
  rw [if_pos h, if_pos h]
  generalize (if dV s (i + 1) 45 ∨ dV s (i + 1) 43 then i + 2 else i + 1) = k
  unfold aNZ
  by_cases h1 : bR s k < 1 ∨ 3 < bR s k
  ·rw [if_pos h1, if_neg (by omega), decide_eq_false (by omega)]; rfl
  ·rw [if_neg h1]
   by_cases h2 : 100 < rH ((s.drop k).take (bR s k))
   ·rw [if_pos h2, if_neg (by omega), decide_eq_false (by omega)]; rfl
   ·rw [if_neg h2, if_pos (by omega)]
 ·rw [if_neg h, if_neg h]
theorem aSY (s : List Nat) (hs : s.length ≤ 1099511627776) : oB none s = some (aN0 s).2.2.1 := by
 have hd := vW s 0
 unfold oB
 rw [aO0 s hs, Option.getD_some]
 refine bB (fun _ => rfl) ?_
 congr 1
 have s0 : aY ⟨#[]⟩ = [] := rfl
 rw [s0]
 have hdec : decide (((aPO s : Nat) : Int) = (s.length : Int)) = decide (aPO s = s.length) := decide_eq_decide.2 (by omega)
 rw [hdec]
 by_cases h0 : bR s 0 = 0
 ·have e1 : aN0 s = litNo := by unfold aN0; exact if_pos (.inr h0)
  have e2 : aPO s = 0 := by unfold aPO; exact if_pos h0
  rw [e1, e2]
  by_cases he : s = []
  ·subst he; rfl
  ·have := List.length_pos_iff.2 he
   rw [decide_eq_false (show ¬ 0 = s.length by omega), Bool.and_false]; rfl
 ·have hne : s ≠ [] := by intro e; rw [e] at h0; exact h0 rfl
  rw [decide_eq_false hne]
  by_cases hl : 60 < s.length
  ·have e1 : aN0 s = litNo := by unfold aN0; exact if_pos (.inl hl)
   rw [e1, decide_eq_false (show ¬ (s.length : Int) ≤ 60 by omega)]; rfl
  ·unfold aN0
   rw [if_neg (by rintro (h | h); exact hl h; exact h0 h), decide_eq_true (show (s.length : Int) ≤ 60 by omega)]
   unfold aPO
   rw [if_neg h0]
   simp only [Bool.not_false, Bool.true_and]
   by_cases h1 : dV s (bR s 0) 46
   ·have h1' : bR s 0 < s.length ∧ s.getD (bR s 0) 0 = 46 := h1
    rw [if_pos h1]
    by_cases h2 : bR s (bR s 0 + 1) = 0
    ·rw [if_pos h2, if_neg (fun h => h.2 h2)]
     have : ¬ dV s (bR s 0) 101 := fun h => by have := h.2; rw [h1'.2] at this; cases this
     unfold aPN
     rw [if_neg this, decide_eq_false (by omega)]; rfl
    ·rw [if_neg h2, if_pos ⟨h1, h2⟩]
     exact aO1 s _ _ _
   ·rw [if_neg h1, if_neg (fun h => h1 h.1)]
    exact aO1 s _ _ _
end Nu
end Go.Proofs
namespace Go.Proofs
open Go.Vc
set_option maxRecDepth 20000
namespace Nu
def mx (l : List Nat) : Nat := l.foldr max 0
theorem aTS (l : List Nat) (b : Nat) : mx (l ++ [b]) = max (mx l) b := by
 induction l with
 | nil => simp [mx]
 | cons a r ih =>
  simp only [mx, List.cons_append, List.foldr_cons] at ih ⊢
  rw [ih, Nat.max_assoc]
theorem aUy (l m : List Nat) : mx (l ++ m) = max (mx l) (mx m) := by
 induction l with
 | nil => simp [mx]
 | cons a r ih =>
  simp only [mx, List.cons_append, List.foldr_cons] at ih ⊢
  rw [ih, Nat.max_assoc]
theorem aKe {l : List Ex} {k : Nat} (h : k < l.length) : l.take (k + 1) = l.take k ++ [l.getD k (Ex.mk 0 [] [])] := by
 rw [List.take_succ_eq_append_getElem h, List.getD_eq_getElem?_getD, List.getElem?_eq_getElem h]; rfl
theorem aBY {l : List Ex} {k : Nat} (h : k < l.length) : l.getD k (Ex.mk 0 [] []) ∈ l := by
 rw [List.getD_eq_getElem?_getD, List.getElem?_eq_getElem h]; exact List.getElem_mem h
def vX (f : Ex → Nat) (l : List Ex) : Nat := (l.map f).sum
def mxN (f : Ex → Nat) (l : List Ex) : Nat := mx (l.map f)
theorem aEt (f : Ex → Nat) {l : List Ex} {k : Nat} (h : k < l.length) : vX f (l.take (k + 1)) = vX f (l.take k) + f (l.getD k (Ex.mk 0 [] [])) := by
 rw [aKe h]; simp [vX]
theorem aO2 (f : Ex → Nat) {l : List Ex} {k : Nat} (h : k < l.length) : mxN f (l.take (k + 1)) = max (mxN f (l.take k)) (f (l.getD k (Ex.mk 0 [] []))) := by
 rw [aKe h, mxN, List.map_append]; exact aTS _ _
theorem aQH (f : Ex → Nat) (l : List Ex) (k : Nat) : vX f (l.take k) ≤ vX f l := by
 have : vX f l = vX f (l.take k ++ l.drop k) := by rw [List.take_append_drop]
 rw [this, vX, vX, List.map_append, List.sum_append]
 exact Nat.le_add_right _ _
theorem aSZ (f : Ex → Nat) {l : List Ex} {k : Nat} (h : k < l.length) : vX f (l.take k) + f (l.getD k (Ex.mk 0 [] [])) ≤ vX f l := by
 rw [← aEt f h]; exact aQH f l _
theorem aPP (f : Ex → Nat) (l : List Ex) : vX f (l.take 0) = 0 := by simp [vX]
theorem aS0 (f : Ex → Nat) (l : List Ex) : mxN f (l.take 0) = 0 := by simp [mxN, mx]
theorem aBZ {l : List Ex} {k : Nat} (h : l.length ≤ k) : l.take k = l := List.take_of_length_le h
def fits : Nat → Ex → Prop
 | 0, _ => False
 | n + 1, e => e.text.length ≤ 100 ∧ e.l.length ≤ 1000 ∧ ∀ x ∈ e.l, fits n x
def nd : Nat → Ex → Nat
 | 0, _ => 0
 | n + 1, e => 1 + vX (nd n) e.l
def ht : Nat → Ex → Nat
 | 0, _ => 0
 | n + 1, e => 1 + mxN (ht n) e.l
theorem aN1 {f : Ex → Nat} {b : Nat} (h : ∀ x, f x ≤ b) : ∀ l : List Ex, mxN f l ≤ b
 | [] => by simp [mxN, mx]
 | x :: r => by
  have h1 := h x
  have h2 := aN1 h r
  have : mxN f (x :: r) = max (f x) (mxN f r) := rfl
  omega
theorem aS1 : ∀ (n : Nat) (e : Ex), ht n e ≤ n
 | 0, e => Nat.le_refl 0
 | n + 1, e => by
  have := aN1 (aS1 n) e.l
  have h : ht (n + 1) e = 1 + mxN (ht n) e.l := rfl
  omega
theorem aPQ {n : Nat} {e : Ex} (h : fits n e) : 1 ≤ ht n e := by
 cases n with
 | zero => exact h.elim
 | succ n => have : ht (n + 1) e = 1 + mxN (ht n) e.l := rfl; omega
theorem aUz {n : Nat} {e : Ex} (h : fits n e) : 1 ≤ nd n e := by
 cases n with
 | zero => exact h.elim
 | succ n => have : nd (n + 1) e = 1 + vX (nd n) e.l := rfl; omega
def prt (k : Int) : Int := if k = 1 ∨ k = 2 then 0 else if 6 ≤ k ∧ k ≤ 9 then 2 else if 10 ≤ k ∧ k ≤ 13 then 1 else -1
theorem parts_eq (k : Int) : dX none k = some (prt k) := by
 unfold dX prt
 split
 ·rfl
 ·split
  ·rfl
  ·split <;> rfl
theorem aTT (k : Int) : oI none k = some (prt k) := by
 by_cases h : 1 ≤ k ∧ k ≤ 13
 ·have : k = 1 ∨ k = 2 ∨ k = 3 ∨ k = 4 ∨ k = 5 ∨ k = 6 ∨ k = 7 ∨ k = 8 ∨ k = 9 ∨ k = 10 ∨ k = 11 ∨ k = 12 ∨ k = 13 := by omega
  rcases this with h | h | h | h | h | h | h | h | h | h | h | h | h <;> subst h <;> rfl
 ·unfold oI oX kN kM prt
  have e : ∀ j : Int, 1 ≤ j → j ≤ 13 → ¬ k = j := fun j h1 h2 h3 => h (by omega)
  rw [if_neg (e 1 (by decide) (by decide)), decide_eq_false (e 2 (by decide) (by decide)), if_neg (by decide), if_neg (e 6 (by decide) (by decide)), if_neg (e 7 (by decide) (by decide)), if_neg (e 8 (by decide) (by decide)),
   decide_eq_false (e 9 (by decide) (by decide)), if_neg (by decide), if_neg (e 10 (by decide) (by decide)), if_neg (e 11 (by decide) (by decide)), if_neg (e 12 (by decide) (by decide)), decide_eq_false (e 13 (by decide) (by decide)), if_neg (by decide),
   if_neg (by omega), if_neg (by omega), if_neg (by omega)]
theorem aQI : ∀ (n k : Nat) (e : Ex) (a n0 d0 : Nat), n ≤ k → fits n e → a + n ≤ 1000 → n0 + nd n e ≤ 100000 → d0 ≤ 100000 →
  ∃ n' d' : Nat, jO none k e (a : Int) (n0 : Int) (d0 : Int) = some ((n' : Int), (d' : Int)) ∧ n0 < n' ∧ n' ≤ n0 + nd n e ∧ d0 ≤ d' ∧ a ≤ d' ∧ d' ≤ max d0 (a + ht n e - 1) ∧ (n' ≤ 60 → d' ≤ 30 → n' = n0 + nd n e ∧ d' = max d0 (a + ht n e - 1))
 | 0, k, e, a, n0, d0, hk, hf, ha, hn, hd => hf.elim
 | n + 1, 0, e, a, n0, d0, hk, hf, ha, hn, hd => absurd hk (by omega)
 | n + 1, k + 1, e, a, n0, d0, hk, hf, ha, hn, hd => by
  obtain ⟨hf1, hf2, hf3⟩ := hf
  have hnd : nd (n + 1) e = 1 + vX (nd n) e.l := rfl
  have hht : ht (n + 1) e = 1 + mxN (ht n) e.l := rfl
  show ∃ n' d' : Nat, lT none (jO none k) e (a : Int) (n0 : Int) (d0 : Int) = _ ∧ _
  unfold lT
  by_cases hc : (60 : Int) < (n0 : Int) + 1 ∨ (30 : Int) < (a : Int)
  ·refine ⟨n0 + 1, max d0 a, ?_, by omega, by omega, by omega, by omega, by omega, fun _ _ => by omega⟩
   refine bB (by constructor <;> omega) ?_
   rw [if_pos hc]
   congr 2
   omega
  ·obtain ⟨r, hr, x, y, rfl, q1, q2, q3, q4, q5⟩ := tE (step := fun d : Int × Int × Int => iL none (jO none k) e (a : Int) d.1 d.2.1 d.2.2)
    (I := fun d => ∃ i x y : Nat, d = ((i : Int), (x : Int), (y : Int)) ∧ i ≤ e.l.length ∧ n0 + 1 ≤ x ∧ x ≤ n0 + 1 + vX (nd n) (e.l.take i) ∧ max d0 a ≤ y ∧ y ≤ max (max d0 a) (a + mxN (ht n) (e.l.take i)) ∧ (x ≤ 60 → y ≤ 30 → x = n0 + 1 + vX (nd n) (e.l.take i) ∧ y = max (max d0 a) (a + mxN (ht n) (e.l.take i))))
    (fun d => ((e.l.length : Int) - d.1).toNat)
    (fun r => ∃ x y : Nat, r = ((x : Int), (y : Int)) ∧ n0 + 1 ≤ x ∧ x ≤ n0 + 1 + vX (nd n) e.l ∧ max d0 a ≤ y ∧ y ≤ max (max d0 a) (a + mxN (ht n) e.l) ∧ (x ≤ 60 → y ≤ 30 → x = n0 + 1 + vX (nd n) e.l ∧ y = max (max d0 a) (a + mxN (ht n) e.l)))
    (by
     rintro d ⟨i, x, y, rfl, h1, h2, h3, h4, h5, h6⟩
     show (∃ d', iL none (jO none k) e (a : Int) (i : Int) (x : Int) (y : Int) = _ ∧ _) ∨ ∃ r, iL none (jO none k) e (a : Int) (i : Int) (x : Int) (y : Int) = _ ∧ _
     unfold iL
     by_cases hi : i < e.l.length
     ·left
      have s1 := aSZ (nd n) hi
      have s2 := aEt (nd n) hi
      have s3 := aO2 (ht n) hi
      have hmem := hf3 _ (aBY hi)
      have hm := aN1 (aS1 n) (e.l.take i)
      have hy : y ≤ 100000 := by omega
      ·obtain ⟨x', y', p1, p2, p3, p4, p5, p6, p7⟩ := aQI n k (e.l.getD i (Ex.mk 0 [] [])) (a + 1) x y (by omega) hmem (by omega) (by omega) hy
       rw [show ((a + 1 : Nat) : Int) = (a : Int) + 1 from by omega] at p1
       refine ⟨(((i + 1 : Nat) : Int), (x' : Int), (y' : Int)), ?_, ⟨i + 1, x', y', rfl, by omega, by omega, by omega, by omega, by omega, fun c1 c2 => ?_⟩, by simp only; omega⟩
       ·rw [if_pos (by omega), Int.toNat_natCast]
        refine bB (by constructor <;> omega) (bB (by constructor <;> omega) (dL p1 (bB (by constructor <;> omega) ?_)))
        congr 3
       ·obtain ⟨u1, u2⟩ := p7 c1 c2
        obtain ⟨v1, v2⟩ := h6 (by omega) (by omega)
        omega
     ·right
      have e1 : e.l.take i = e.l := aBZ (by omega)
      rw [e1] at h3 h5 h6
      refine ⟨((x : Int), (y : Int)), ?_, x, y, rfl, h2, h3, h4, h5, h6⟩
      rw [if_neg (by omega)])
    ((0 : Int), (n0 : Int) + 1, max (d0 : Int) (a : Int)) ⟨0, n0 + 1, max d0 a, by congr 2; omega, by omega, by omega, by omega, by omega, by omega, fun _ _ => by rw [aPP, aS0]; omega⟩
   refine ⟨x, y, ?_, by omega, by omega, by omega, by omega, by omega, fun c1 c2 => by have := q5 c1 c2; omega⟩
   refine bB (by constructor <;> omega) ?_
   rw [if_neg hc]
   exact dL hr rfl
theorem aUA {n : Nat} {e : Ex} (hf : fits n e) (hn : n ≤ 64) (hd : nd n e ≤ 1000) : tZ none e = some (decide (nd n e ≤ 60 ∧ ht n e ≤ 30)) := by
 obtain ⟨x, y, h1, h2, h3, h4, h5, h6, h7⟩ := aQI n 64 e 1 0 0 hn hf (by omega) (by omega) (by omega)
 have hp := aPQ hf
 unfold tZ vE
 refine dL (dL h1 rfl) ?_
 congr 1
 rw [← Bool.decide_and]
 refine decide_eq_decide.2 ⟨fun ⟨a, b⟩ => ?_, fun ⟨a, b⟩ => ?_⟩
 ·have a : (x : Int) ≤ 60 := a
  have b : (y : Int) ≤ 30 := b
  have := h7 (by omega) (by omega)
  omega
 ·show (x : Int) ≤ 60 ∧ (y : Int) ≤ 30
  omega
def gk : Nat → Ex → Bool
 | 0, _ => true
 | n + 1, e => decide (prt e.kind = (e.l.length : Int)) && e.l.all (gk n)
theorem aLY {f : Ex → Bool} {l : List Ex} {k : Nat} (h : k < l.length) : (l.take (k + 1)).all f = ((l.take k).all f && f (l.getD k (Ex.mk 0 [] []))) := by
 rw [aKe h, List.all_append]; simp
theorem count_eq : ∀ (n k : Nat) (e : Ex) (a : Nat), n ≤ k → fits n e → 1 ≤ a → a + n ≤ 1000 →
  ∃ (c d : Nat) (ok : Bool), lR none k e (a : Int) = some ((c : Int), (d : Int), ok, ()) ∧ 1 ≤ c ∧ c ≤ 61 ∧ 1 ≤ d ∧ d ≤ 31 + n ∧ ((gk n e = true ∧ a + ht n e ≤ 31) → c = min (nd n e) 61 ∧ d = ht n e ∧ ok = true) ∧ (¬ (gk n e = true ∧ a + ht n e ≤ 31) → ok = false ∨ c = 61)
 | 0, k, e, a, hk, hf, h1, ha => hf.elim
 | n + 1, 0, e, a, hk, hf, h1, ha => absurd hk (by omega)
 | n + 1, k + 1, e, a, hk, hf, h1, ha => by
  have hp := aPQ hf
  obtain ⟨hf1, hf2, hf3⟩ := hf
  have hnd : nd (n + 1) e = 1 + vX (nd n) e.l := rfl
  have hht : ht (n + 1) e = 1 + mxN (ht n) e.l := rfl
  have hgk : gk (n + 1) e = (decide (prt e.kind = (e.l.length : Int)) && e.l.all (gk n)) := rfl
  show ∃ (c d : Nat) (ok : Bool), mU none (lR none k) e (a : Int) = _ ∧ _
  unfold mU
  rw [parts_eq]
  simp only [Option.getD_some, Option.isSome_some]
  by_cases hc : ((30 : Int) < (a : Int) ∨ prt e.kind < 0) ∨ ¬ prt e.kind = (e.l.length : Int)
  ·refine ⟨61, 31, (decide ((0 : Int) ≤ prt e.kind) && decide (prt e.kind = (e.l.length : Int))), ?_, by omega, by omega, by omega, by omega, fun ⟨c1, c2⟩ => ?_, fun _ => .inr rfl⟩
   ·refine bB (by simp) (bB (by simp) ?_)
    rw [if_pos hc]
    exact bB trivial (bB (by simp) rfl)
   ·exfalso
    rw [hgk, Bool.and_eq_true, decide_eq_true_iff] at c1
    omega
  ·have hkd : prt e.kind = (e.l.length : Int) := by omega
   have hgk : gk (n + 1) e = e.l.all (gk n) := by rw [hgk, decide_eq_true hkd]; rfl
   obtain ⟨r, hr, hQ⟩ := tE (step := fun d : Int × Int × Int => iZ none (lR none k) e (a : Int) d.1 d.2.1 d.2.2)
    (I := fun d => ∃ i x y : Nat, d = ((x : Int), (y : Int), (i : Int)) ∧ i ≤ e.l.length ∧ 1 ≤ x ∧ x ≤ 61 ∧ 1 ≤ y ∧ y ≤ 32 + n ∧
     (((e.l.take i).all (gk n) = true ∧ a + 1 + mxN (ht n) (e.l.take i) ≤ 31) → x = min (1 + vX (nd n) (e.l.take i)) 61 ∧ y = 1 + mxN (ht n) (e.l.take i)) ∧
     (¬ ((e.l.take i).all (gk n) = true ∧ a + 1 + mxN (ht n) (e.l.take i) ≤ 31) → x = 61))
    (fun d => ((e.l.length : Int) - d.2.2).toNat)
    (fun r => (∃ x y : Nat, r = .inl ((x : Int), (y : Int)) ∧ 1 ≤ x ∧ x ≤ 61 ∧ 1 ≤ y ∧ y ≤ 32 + n ∧ ((e.l.all (gk n) = true ∧ a + 1 + mxN (ht n) e.l ≤ 31) → x = min (1 + vX (nd n) e.l) 61 ∧ y = 1 + mxN (ht n) e.l) ∧
     (¬ (e.l.all (gk n) = true ∧ a + 1 + mxN (ht n) e.l ≤ 31) → x = 61)) ∨ (r = .inr ((61 : Int), (31 : Int), false, ()) ∧ ¬ (e.l.all (gk n) = true ∧ a + 1 + mxN (ht n) e.l ≤ 31)))
    (by
     rintro d ⟨i, x, y, rfl, h1, h2, h3, h4, h5, h6, h7⟩
     show (∃ d', iZ none (lR none k) e (a : Int) (x : Int) (y : Int) (i : Int) = _ ∧ _) ∨ ∃ r, iZ none (lR none k) e (a : Int) (x : Int) (y : Int) (i : Int) = _ ∧ _
     unfold iZ
     by_cases hi : i < e.l.length
     ·have s2 := aEt (nd n) hi
      have s3 := aO2 (ht n) hi
      have s4 := aLY (f := gk n) hi
      have hmem := hf3 _ (aBY hi)
      have hpos := aUz hmem
      have hsub : vX (nd n) (e.l.take (i + 1)) ≤ vX (nd n) e.l := aQH _ _ _
      obtain ⟨c, d, ok, p1, p2, p3, p4, p5, p6, p7⟩ := count_eq n k (e.l.getD i (Ex.mk 0 [] [])) (a + 1) (by omega) hmem (by omega) (by omega)
      rw [show ((a + 1 : Nat) : Int) = (a : Int) + 1 from by omega] at p1
      rw [if_pos (by omega), Int.toNat_natCast, p1]
      simp only [Option.isSome_some, Option.getD_some]
      cases ok with
      | false =>
       right
       refine ⟨_, bB (by constructor <;> omega) (bB (by constructor <;> omega) (bB (by simp) (if_pos (by decide)))), .inr ⟨rfl, fun ⟨c1, c2⟩ => ?_⟩⟩
       have hmx : mxN (ht n) (e.l.take (i + 1)) ≤ mxN (ht n) e.l := by
        have : mxN (ht n) e.l = max (mxN (ht n) (e.l.take (i + 1))) (mxN (ht n) (e.l.drop (i + 1))) := by
         rw [mxN, mxN, mxN, ← aUy, ← List.map_append, List.take_append_drop]
        omega
       have hg : gk n (e.l.getD i (Ex.mk 0 [] [])) = true := List.all_eq_true.1 c1 _ (aBY hi)
       have := (p6 ⟨hg, by omega⟩).2.2
       cases this
      | true =>
       left
       refine ⟨(((min (x + c) 61 : Nat) : Int), ((max y (d + 1) : Nat) : Int), ((i + 1 : Nat) : Int)), ?_, ⟨i + 1, min (x + c) 61, max y (d + 1), rfl, by omega, by omega, by omega, by omega, by omega, fun ⟨c1, c2⟩ => ?_, fun c1 => ?_⟩, by simp only; omega⟩
       ·refine bB (by constructor <;> omega) (bB (by constructor <;> omega) (bB (by simp) ?_))
        rw [if_neg (by simp)]
        refine bB (by constructor <;> omega) (bB (by constructor <;> omega) (bB (by constructor <;> omega) ?_))
        congr 3
        ·omega
        ·congr 1; omega
       ·rw [s4, Bool.and_eq_true] at c1
        obtain ⟨u1, u2⟩ := h6 ⟨c1.1, by omega⟩
        obtain ⟨v1, v2, _⟩ := p6 ⟨c1.2, by omega⟩
        omega
       ·by_cases hb : (e.l.take i).all (gk n) = true ∧ a + 1 + mxN (ht n) (e.l.take i) ≤ 31
        ·have : ¬ (gk n (e.l.getD i (Ex.mk 0 [] [])) = true ∧ a + 1 + ht n (e.l.getD i (Ex.mk 0 [] [])) ≤ 31) := fun hx => c1 ⟨by rw [s4, hb.1, hx.1]; rfl, by omega⟩
         rcases p7 this with q | q
         ·cases q
         ·omega
        ·have := h7 hb
         omega
     ·right
      have e1 : e.l.take i = e.l := aBZ (by omega)
      rw [e1] at h6 h7
      refine ⟨.inl ((x : Int), (y : Int)), ?_, .inl ⟨x, y, rfl, h2, h3, h4, h5, h6, h7⟩⟩
      rw [if_neg (by omega)])
    ((1 : Int), (1 : Int), (0 : Int)) ⟨0, 1, 1, rfl, by omega, by omega, by omega, by omega, by omega, fun _ => by rw [aPP, aS0]; omega, fun c1 => absurd ⟨by simp, by rw [aS0]; omega⟩ c1⟩
   have hm := aN1 (aS1 n) e.l
   rcases hQ with ⟨x, y, rfl, q1, q2, q3, q4, q5, q6⟩ | ⟨rfl, q1⟩
   ·refine ⟨x, y, true, ?_, by omega, by omega, by omega, by omega, fun ⟨c1, c2⟩ => ?_, fun c1 => .inr (q6 fun ⟨z1, z2⟩ => c1 ⟨by rw [hgk]; exact z1, by omega⟩)⟩
    ·refine bB (by simp) (bB (by simp) ?_)
     rw [if_neg hc]
     exact dL hr rfl
    ·obtain ⟨z1, z2⟩ := q5 ⟨by rw [← hgk]; exact c1, by omega⟩
     exact ⟨by omega, by omega, rfl⟩
   ·refine ⟨61, 31, false, ?_, by omega, by omega, by omega, by omega, fun ⟨c1, c2⟩ => absurd ⟨by rw [← hgk]; exact c1, by omega⟩ q1, fun _ => .inl rfl⟩
    refine bB (by simp) (bB (by simp) ?_)
    rw [if_neg hc]
    exact dL hr rfl
end Nu
end Go.Proofs
namespace Go.Proofs
open Go.Vc
set_option maxRecDepth 20000
namespace Nu
theorem aQJ {α : Type} (z : α) {l : List α} {k : Nat} (h : k < l.length) : l.take (k + 1) = l.take k ++ [l.getD k z] := by
 rw [List.take_succ_eq_append_getElem h, List.getD_eq_getElem?_getD, List.getElem?_eq_getElem h]; rfl
theorem aQK {α : Type} (z : α) {l : List α} {k : Nat} (h : k < l.length) : l.getD k z ∈ l := by
 rw [List.getD_eq_getElem?_getD, List.getElem?_eq_getElem h]; exact List.getElem_mem h
theorem aS2 (l : List (List Nat)) (v : List Nat) (hl : l.length ≤ 1000) : ∃ r : Int, gJ none l v = some r ∧ ((0 : Int) ≤ r ↔ v ∈ l) := by
 obtain ⟨e, he, hQ⟩ := tE (step := fun d : Int => dW none l v d) (I := fun d => ∃ j : Nat, d = (j : Int) ∧ j ≤ l.length ∧ v ∉ l.take j) (fun d => ((l.length : Int) - d).toNat)
  (fun e => (e = .inl () ∧ v ∉ l) ∨ ∃ j : Nat, e = .inr (j : Int) ∧ v ∈ l)
  (by
   rintro d ⟨j, rfl, h1, h2⟩
   show (∃ d', dW none l v (j : Int) = _ ∧ _) ∨ ∃ e, dW none l v (j : Int) = _ ∧ _
   unfold dW
   by_cases hj : j < l.length
   ·rw [if_pos (by omega), Int.toNat_natCast]
    by_cases hv : v = l.getD j []
    ·right
     exact ⟨_, bB (by constructor <;> omega) (if_pos hv), .inr ⟨j, rfl, by rw [hv]; exact aQK [] hj⟩⟩
    ·left
     refine ⟨((j + 1 : Nat) : Int), bB (by constructor <;> omega) ((if_neg hv).trans (bB (by constructor <;> omega) rfl)), ⟨j + 1, rfl, by omega, ?_⟩, by omega⟩
     rw [aQJ [] hj, List.mem_append]
     rintro (h | h)
     ·exact h2 h
     ·exact hv (List.mem_singleton.1 h)
   ·right
    rw [if_neg (by omega)]
    exact ⟨_, rfl, .inl ⟨rfl, by rwa [List.take_of_length_le (by omega)] at h2⟩⟩) (0 : Int) ⟨0, rfl, by omega, by simp⟩
 unfold gJ
 rcases hQ with ⟨rfl, h⟩ | ⟨j, rfl, h⟩
 ·exact ⟨-1, dL he rfl, fun h0 => absurd h0 (by decide), fun h0 => absurd h0 h⟩
 ·exact ⟨j, dL he rfl, fun _ => h, fun _ => by omega⟩
theorem contains_eq (l : List (List Nat)) (v : List Nat) (hl : l.length ≤ 1000) : cV none l v = some (decide (v ∈ l)) := by
 obtain ⟨r, h1, h2⟩ := aS2 l v hl
 unfold cV
 exact dL h1 (congrArg some (decide_eq_decide.2 h2))
theorem aS3 (l : List (List Nat)) (v : List Nat) (hl : l.length ≤ 1000) : ∃ r : Int, nK none l v = some r ∧ ((0 : Int) ≤ r ↔ v ∈ l) := by
 obtain ⟨e, he, hQ⟩ := tE (step := fun d : Int => jA none l v d) (I := fun d => ∃ j : Nat, d = (j : Int) ∧ j ≤ l.length ∧ v ∉ l.take j) (fun d => ((l.length : Int) - d).toNat)
  (fun e => (e = .inl () ∧ v ∉ l) ∨ ∃ j : Nat, e = .inr (j : Int) ∧ v ∈ l)
  (by
   rintro d ⟨j, rfl, h1, h2⟩
   show (∃ d', jA none l v (j : Int) = _ ∧ _) ∨ ∃ e, jA none l v (j : Int) = _ ∧ _
   unfold jA
   by_cases hj : j < l.length
   ·rw [if_pos (by omega), Int.toNat_natCast]
    by_cases hv : l.getD j [] = v
    ·right
     exact ⟨_, bB (by constructor <;> omega) (if_pos hv), .inr ⟨j, rfl, by rw [← hv]; exact aQK [] hj⟩⟩
    ·left
     refine ⟨((j + 1 : Nat) : Int), bB (by constructor <;> omega) ((if_neg hv).trans (bB (by constructor <;> omega) rfl)), ⟨j + 1, rfl, by omega, ?_⟩, by omega⟩
     rw [aQJ [] hj, List.mem_append]
     rintro (h | h)
     ·exact h2 h
     ·exact hv (List.mem_singleton.1 h).symm
   ·right
    rw [if_neg (by omega)]
    exact ⟨_, rfl, .inl ⟨rfl, by rwa [List.take_of_length_le (by omega)] at h2⟩⟩) (0 : Int) ⟨0, rfl, by omega, by simp⟩
 unfold nK
 rcases hQ with ⟨rfl, h⟩ | ⟨j, rfl, h⟩
 ·exact ⟨-1, dL he rfl, fun h0 => absurd h0 (by decide), fun h0 => absurd h0 h⟩
 ·exact ⟨j, dL he rfl, fun _ => h, fun _ => by omega⟩
def fm (s : List Nat) : Bool := (aN0 s).2.2.1
theorem aTU (s : List Nat) (hs : s.length ≤ 1000) : tH none s = some (fm s) := by
 unfold tH
 exact dL (aUx s (by omega)) rfl
theorem aS4 (s : List Nat) (hs : s.length ≤ 1000) : oB none s = some (fm s) := aSY s (by omega)
def lvs (names : List (List Nat)) : Nat → Ex → Bool
 | 0, _ => true
 | n + 1, e => if e.kind = 1 then fm e.text else if e.kind = 2 then (decide (e.text = aY ⟨#[116]⟩) || decide (e.text ∈ names)) else (decide (e.text = aY ⟨#[]⟩) && e.l.all (lvs names n))
theorem aQL (p q : Ex → Bool) : ∀ l : List Ex, l.all (fun x => p x && q x) = (l.all p && l.all q)
 | [] => rfl
 | x :: r => by
  rw [List.all_cons, List.all_cons, List.all_cons, aQL p q r]
  cases p x <;> cases q x <;> simp
theorem aHr {b : Ex → Bool} {l : List Ex} {j : Nat} (hj : j < l.length) (h : b (l.getD j (Ex.mk 0 [] [])) = false) : l.all b = false := by
 rw [Bool.eq_false_iff]
 intro hx
 rw [List.all_eq_true.1 hx _ (aBY hj)] at h
 cases h
theorem aS5 (g : Ex → List (List Nat) → Option Bool) (names : List (List Nat)) (b : Ex → Bool) (l : List Ex) (hl : l.length ≤ 1000) (hg : ∀ x ∈ l, g x names = some (b x)) :
  aX none g l (names, ()) = some (!(l.all b)) := by
 obtain ⟨e, he, hQ⟩ := tE (step := fun d : Int => aW none g l (names, ()) d) (I := fun d => ∃ j : Nat, d = (j : Int) ∧ j ≤ l.length ∧ (l.take j).all b = true) (fun d => ((l.length : Int) - d).toNat)
  (fun e => (e = .inl () ∧ l.all b = true) ∨ ∃ j : Nat, e = .inr (j : Int) ∧ l.all b = false)
  (by
   rintro d ⟨j, rfl, h1, h2⟩
   show (∃ d', aW none g l (names, ()) (j : Int) = _ ∧ _) ∨ ∃ e, aW none g l (names, ()) (j : Int) = _ ∧ _
   unfold aW qI
   by_cases hj : j < l.length
   ·rw [if_pos (by omega), Int.toNat_natCast]
    have hx := hg _ (aBY hj)
    cases hb : b (l.getD j (Ex.mk 0 [] [])) with
    | false =>
     right
     rw [hb] at hx
     exact ⟨_, bB (by constructor <;> omega) (dL (dL hx rfl) (if_pos rfl)), .inr ⟨j, rfl, aHr hj hb⟩⟩
    | true =>
     left
     rw [hb] at hx
     refine ⟨((j + 1 : Nat) : Int), bB (by constructor <;> omega) (dL (dL hx rfl) ((if_neg (by decide)).trans (bB (by constructor <;> omega) rfl))), ⟨j + 1, rfl, by omega, ?_⟩, by omega⟩
     rw [aLY hj, h2, hb]; rfl
   ·right
    rw [if_neg (by omega)]
    exact ⟨_, rfl, .inl ⟨rfl, by rwa [aBZ (by omega)] at h2⟩⟩) (0 : Int) ⟨0, rfl, by omega, by simp⟩
 unfold aX bW
 rcases hQ with ⟨rfl, h⟩ | ⟨j, rfl, h⟩
 ·exact dL (dL he rfl) (by rw [h]; rfl)
 ·refine dL (dL he rfl) ?_
  rw [h, decide_eq_true (show (0 : Int) ≤ (j : Int) by omega)]; rfl
theorem aQM (names : List (List Nat)) (hns : names.length ≤ 1000) : ∀ (n k : Nat) (e : Ex), n ≤ k → fits n e → oJ none k e names = some (gk n e && lvs names n e)
 | 0, k, e, hk, hf => hf.elim
 | n + 1, 0, e, hk, hf => absurd hk (by omega)
 | n + 1, k + 1, e, hk, hf => by
  obtain ⟨hf1, hf2, hf3⟩ := hf
  have hgk : gk (n + 1) e = (decide (prt e.kind = (e.l.length : Int)) && e.l.all (gk n)) := rfl
  have hlv : lvs names (n + 1) e = if e.kind = 1 then fm e.text else if e.kind = 2 then (decide (e.text = aY ⟨#[116]⟩) || decide (e.text ∈ names)) else (decide (e.text = aY ⟨#[]⟩) && e.l.all (lvs names n)) := rfl
  have hany := aS5 (oJ none k) names (fun x => gk n x && lvs names n x) e.l hf2 fun x hx => aQM names hns n k x (by omega) (hf3 x hx)
  show nV none (oJ none k) e names = _
  unfold nV
  rw [aTT, hany, aTU _ (by omega), contains_eq _ _ hns, aQL]
  simp only [Option.isSome_some, Option.getD_some]
  refine bB trivial ?_
  by_cases hp : prt e.kind = (e.l.length : Int)
  ·rw [if_neg (fun h => h hp)]
   by_cases h1 : e.kind = 1
   ·have h0 : e.l = [] := List.eq_nil_of_length_eq_zero (by rw [h1] at hp; have : prt 1 = 0 := rfl; omega)
    rw [if_pos h1, hgk, hlv, if_pos h1, decide_eq_true hp, h0]
    exact bB trivial rfl
   ·rw [if_neg h1]
    by_cases h2 : e.kind = 2
    ·have h0 : e.l = [] := List.eq_nil_of_length_eq_zero (by rw [h2] at hp; have : prt 2 = 0 := rfl; omega)
     rw [if_pos h2, hgk, hlv, if_neg h1, if_pos h2, decide_eq_true hp, h0]
     exact bB (by simp) rfl
    ·rw [if_neg h2, hgk, hlv, if_neg h1, if_neg h2, decide_eq_true hp]
     refine bB (by simp) ?_
     congr 1
     cases decide (e.text = aY ⟨#[]⟩) <;> cases e.l.all (gk n) <;> cases e.l.all (lvs names n) <;> rfl
  ·rw [if_pos hp, hgk, decide_eq_false hp]; rfl
theorem aM7 (names : List (List Nat)) (hns : names.length ≤ 1000) : ∀ (n k : Nat) (e : Ex), n ≤ k → fits n e → iK none k e names = some (lvs names n e)
 | 0, k, e, hk, hf => hf.elim
 | n + 1, 0, e, hk, hf => absurd hk (by omega)
 | n + 1, k + 1, e, hk, hf => by
  obtain ⟨hf1, hf2, hf3⟩ := hf
  have hlv : lvs names (n + 1) e = if e.kind = 1 then fm e.text else if e.kind = 2 then (decide (e.text = aY ⟨#[116]⟩) || decide (e.text ∈ names)) else (decide (e.text = aY ⟨#[]⟩) && e.l.all (lvs names n)) := rfl
  show lV none (iK none k) e names = _
  unfold lV
  obtain ⟨r, hr1, hr2⟩ := aS3 names e.text hns
  rw [hlv, aS4 _ (by omega), hr1]
  simp only [Option.isSome_some, Option.getD_some]
  by_cases h1 : e.kind = 1
  ·rw [if_pos h1, if_pos h1]
   exact bB trivial rfl
  ·rw [if_neg h1, if_neg h1]
   by_cases h2 : e.kind = 2
   ·rw [if_pos h2, if_pos h2]
    refine bB (by simp) ?_
    rw [decide_eq_decide.2 hr2]
   ·rw [if_neg h2, if_neg h2]
    by_cases h3 : e.text = aY ⟨#[]⟩
    ·rw [if_neg (fun h => h h3), decide_eq_true h3, Bool.true_and]
     obtain ⟨q, he, hQ⟩ := tE (step := fun d : Int => iM none (iK none k) e names d) (I := fun d => ∃ j : Nat, d = (j : Int) ∧ j ≤ e.l.length ∧ (e.l.take j).all (lvs names n) = true) (fun d => ((e.l.length : Int) - d).toNat)
      (fun q => (q = .inl () ∧ e.l.all (lvs names n) = true) ∨ (q = .inr false ∧ e.l.all (lvs names n) = false))
      (by
       rintro d ⟨j, rfl, u1, u2⟩
       show (∃ d', iM none (iK none k) e names (j : Int) = _ ∧ _) ∨ ∃ q, iM none (iK none k) e names (j : Int) = _ ∧ _
       unfold iM
       by_cases hj : j < e.l.length
       ·have hx := aM7 names hns n k _ (by omega) (hf3 _ (aBY hj))
        rw [if_pos (by omega), Int.toNat_natCast, hx]
        simp only [Option.isSome_some, Option.getD_some]
        cases hb : lvs names n (e.l.getD j (Ex.mk 0 [] [])) with
        | false =>
         right
         exact ⟨_, bB (by constructor <;> omega) (bB trivial (if_pos (by decide))), .inr ⟨rfl, aHr hj hb⟩⟩
        | true =>
         left
         refine ⟨((j + 1 : Nat) : Int), bB (by constructor <;> omega) (bB trivial ((if_neg (by decide)).trans (bB (by constructor <;> omega) rfl))), ⟨j + 1, rfl, by omega, ?_⟩, by omega⟩
         rw [aLY hj, u2, hb]; rfl
       ·right
        rw [if_neg (by omega)]
        exact ⟨_, rfl, .inl ⟨rfl, by rwa [aBZ (by omega)] at u2⟩⟩) (0 : Int) ⟨0, rfl, by omega, by simp⟩
     rcases hQ with ⟨rfl, h⟩ | ⟨rfl, h⟩
     ·exact dL he (by rw [h])
     ·exact dL he (by rw [h])
    ·rw [if_pos h3, decide_eq_false h3]; rfl
theorem size_eq : ∀ (m k : Nat) (e : Ex) (a : Nat), m < k → a + m = 41 → ∃ v : Nat, lM none k e (a : Int) = some (v : Int) ∧ 1 ≤ v ∧ v ≤ 201 ∧ (v ≤ 200 → fits m e ∧ nd m e = v)
 | m, 0, e, a, hk, ha => absurd hk (by omega)
 | 0, k + 1, e, a, hk, ha => by
  refine ⟨201, ?_, by omega, by omega, fun h => absurd h (by omega)⟩
  show jS none (lM none k) e (a : Int) = _
  unfold jS
  rw [if_pos (.inl (by omega))]
  rfl
 | m + 1, k + 1, e, a, hk, ha => by
  show ∃ v : Nat, jS none (lM none k) e (a : Int) = _ ∧ _
  unfold jS
  by_cases ht : e.text.length ≤ 100
  ·obtain ⟨r, hr, x, rfl, q1, q2, q3⟩ := tE (step := fun d : Int × Int => kH none (lM none k) e (a : Int) d.1 d.2)
    (I := fun d => ∃ i x : Nat, d = ((x : Int), (i : Int)) ∧ i ≤ e.l.length ∧ i + 1 ≤ x ∧ x ≤ 401 ∧ (x ≤ 200 → (∀ y ∈ e.l.take i, fits m y) ∧ x = 1 + vX (nd m) (e.l.take i)))
    (fun d => ((e.l.length : Int) - d.2).toNat)
    (fun r => ∃ x : Nat, r = (x : Int) ∧ 1 ≤ x ∧ x ≤ 401 ∧ (x ≤ 200 → e.l.length ≤ 200 ∧ (∀ y ∈ e.l, fits m y) ∧ x = 1 + vX (nd m) e.l))
    (by
     rintro d ⟨i, x, rfl, h1, h2, h3, h4⟩
     show (∃ d', kH none (lM none k) e (a : Int) (x : Int) (i : Int) = _ ∧ _) ∨ ∃ r, kH none (lM none k) e (a : Int) (x : Int) (i : Int) = _ ∧ _
     unfold kH
     by_cases hi : i < e.l.length ∧ x ≤ 200
     ·left
      obtain ⟨hi, hx⟩ := hi
      obtain ⟨v, p1, p2, p3, p4⟩ := size_eq m k (e.l.getD i (Ex.mk 0 [] [])) (a + 1) (by omega) (by omega)
      rw [show ((a + 1 : Nat) : Int) = (a : Int) + 1 from by omega] at p1
      rw [if_pos ⟨by omega, by omega⟩, Int.toNat_natCast, p1]
      simp only [Option.isSome_some, Option.getD_some]
      refine ⟨(((x + v : Nat) : Int), ((i + 1 : Nat) : Int)), bB (by constructor <;> omega) (bB (by constructor <;> omega) (bB trivial (bB (by constructor <;> omega) (bB (by constructor <;> omega) rfl)))), ⟨i + 1, x + v, rfl, by omega, by omega, by omega, fun hv => ?_⟩, by simp only; omega⟩
      obtain ⟨u1, u2⟩ := h4 hx
      obtain ⟨w1, w2⟩ := p4 (by omega)
      rw [aEt (nd m) hi, w2]
      refine ⟨fun y hy => ?_, by omega⟩
      rw [aKe hi, List.mem_append] at hy
      rcases hy with hy | hy
      ·exact u1 y hy
      ·rw [List.mem_singleton.1 hy]; exact w1
     ·right
      refine ⟨(x : Int), if_neg (fun h => hi ⟨by omega, by omega⟩), x, rfl, by omega, h3, fun hv => ?_⟩
      obtain ⟨u1, u2⟩ := h4 hv
      rw [aBZ (by omega)] at u1 u2
      exact ⟨by omega, u1, u2⟩) ((1 : Int), (0 : Int)) ⟨0, 1, rfl, by omega, by omega, by omega, fun _ => ⟨by simp, by rw [aPP]⟩⟩
   refine ⟨min x 201, ?_, by omega, by omega, fun hv => ?_⟩
   ·rw [if_neg (by rintro (h | h) <;> omega)]
    refine dL hr ?_
    congr 1
    omega
   ·obtain ⟨u1, u2, u3⟩ := q3 (by omega)
    have hnd : nd (m + 1) e = 1 + vX (nd m) e.l := rfl
    exact ⟨⟨ht, by omega, u2⟩, by omega⟩
  ·refine ⟨201, ?_, by omega, by omega, fun h => absurd h (by omega)⟩
   rw [if_pos (.inr (by omega))]
   rfl
theorem aJ6 (e : Ex) (names : List (List Nat)) : mH none e names = some true := by
 obtain ⟨v, h1, h2, h3, h4⟩ := size_eq 40 64 e 1 (by omega) rfl
 unfold mH sJ
 refine dL (dL h1 rfl) ?_
 by_cases hc : (¬ decide ((v : Int) ≤ 200) = true) ∨ (8 : Int) < ((names.length : Nat) : Int)
 ·rw [if_pos hc]; rfl
 ·rw [if_neg hc]
  have hv : v ≤ 200 := by
   by_cases h : v ≤ 200
   ·exact h
   ·exact absurd (Or.inl (by simp; omega)) hc
  have hn : names.length ≤ 8 := by
   by_cases h : names.length ≤ 8
   ·exact h
   ·exact absurd (Or.inr (by omega)) hc
  obtain ⟨hf, hnd⟩ := h4 hv
  obtain ⟨c, d, ok, p1, p2, p3, p4, p5, p6, p7⟩ := count_eq 40 64 e 1 (by omega) hf (by omega) (by omega)
  have hpos := aPQ hf
  have e1 : eC none e names = some (decide (nd 40 e ≤ 60 ∧ ht 40 e ≤ 30) && (gk 40 e && lvs names 40 e)) := by
   unfold eC
   rw [aQM names (by omega) 40 64 e (by omega) hf]
   exact dL (aUA hf (by omega) (by omega)) (bB (fun _ => rfl) rfl)
  have e2 : kO none e names = some (((ok && decide ((c : Int) ≤ 60)) && decide ((d : Int) ≤ 30)) && lvs names 40 e) := by
   unfold kO
   rw [aM7 names (by omega) 40 64 e (by omega) hf]
   exact dL p1 (bB (fun _ => rfl) rfl)
  have e3 : ((ok && decide ((c : Int) ≤ 60)) && decide ((d : Int) ≤ 30)) = (decide (nd 40 e ≤ 60 ∧ ht 40 e ≤ 30) && gk 40 e) := by
   rw [Bool.eq_iff_iff]
   simp only [Bool.and_eq_true, decide_eq_true_eq]
   constructor
   ·rintro ⟨⟨a1, a2⟩, a3⟩
    by_cases hx : gk 40 e = true ∧ 1 + ht 40 e ≤ 31
    ·obtain ⟨b1, b2, b3⟩ := p6 hx
     exact ⟨⟨by omega, by omega⟩, hx.1⟩
    ·rcases p7 hx with q | q
     ·rw [q] at a1; cases a1
     ·omega
   ·rintro ⟨⟨a1, a2⟩, a3⟩
    obtain ⟨b1, b2, b3⟩ := p6 ⟨a3, by omega⟩
    exact ⟨⟨b3, by omega⟩, by omega⟩
  rw [e1, e2]
  simp only [Option.isSome_some, Option.getD_some]
  refine bB (by simp) (bB (by simp) ?_)
  rw [e3, Bool.and_assoc]
  show some (true && _) = some true
  rw [Bool.true_and, beq_self_eq_true]
end Nu
end Go.Proofs
