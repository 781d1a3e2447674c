import Derived.Test.YtlijgfkkmamanaaGreatDoorZS4
import Derived.Test.YtlijgfkkmamanaaGreatDoorZS2
import Derived.Test.YtlijgfkkmamanaaGreatDoorZS3
set_option linter.unusedVariables false
set_option linter.unusedSimpArgs false
namespace Go.Proofs
open Go.Vc
set_option maxRecDepth 20000
namespace Nu
noncomputable section
set_option maxHeartbeats 4000000
attribute [-go_sem] Ex.kind Ex.text Ex.l
def vZ : fT where
 D := qe × (Int × qn) × Int × Unit
 av := fun _ => [.ptr 0 [], .ptr 1 [], .ptr 2 []]
 hp := fun d => [.box 10 (.val qh d.1), .box 2 (.val wc d.2.1), .box 1 (.val qc d.2.2.1)]
 m := 3
 pre := fun _ => True
 out := fun d => .ret (.tup []) [.box 10 (.val qh d.1), .box 2 (.val wc d.2.1), .box 1 (.val qc d.2.2.1)]
def eY (x : qz) : fT where
 D := Unit
 av := fun _ => [.ptr 0 [], .ptr 1 [], .ptr 2 []]
 hp := fun _ => [.box 10 .junk, .box 2 .junk, .box 1 .junk]
 m := 3
 pre := fun _ => True
 out := fun _ => .ret (.tup []) [.box 10 (.val qh ((0 : Int), (0 : Int), (0 : Int), (0 : Int), ([] : List Nat), ([] : List Nat), ([] : List Nat), ([] : List Nat), ([] : List qB), ([] : List qk), ())), .box 2 (.val wc (x).1), .box 1 (.val qc (6 : Int))]
theorem aPf [Mx] : DOK Tryz.prog GL 15 none vZ := by
 refine aOp (bC aB8) Tryz.func15 rfl xAa (fun _ => Nat.le_of_ble_eq_true rfl) rfl fun c w d b j hp q => ?_
 have hF : tI ⟨Tryz.prog, EM [], GM vZ c d, w, Tryz.f15.ntmps, []⟩ := ⟨bC aB8, mix⟩
 obtain ⟨d0, f, g, r⟩ := d
 show vR _ _ _ [(6, .val .nili ()), (0, .ptr 0 []), (1, .ptr 1 []), (2, .ptr 2 [])] [.box 10 (.val qh d0), .box 2 (.val wc f), .box 1 (.val qc g)] _
 exact zar
theorem zA [Mx] (x : qz) : DOK Tryz.prog GL 15 (some ⟨45, wm, x⟩) (eY x) := by
 refine aOp (bC aB8) Tryz.func15 rfl xAa (fun _ => Nat.le_of_ble_eq_true rfl) rfl fun c w d b f hp g => ?_
 have hF : tI ⟨Tryz.prog, EM [], GM (eY x) c d, w, Tryz.f15.ntmps, []⟩ := ⟨bC aB8, mix⟩
 show vR _ _ _ [(6, .val (.ifc 45 wm) x), (0, .ptr 0 []), (1, .ptr 1 []), (2, .ptr 2 [])] [.box 10 .junk, .box 2 .junk, .box 1 .junk] _
 simp only [go_sem]
 refine aO (aS hF [0, 1, 2, 3, 10] (yaA ?_))
 refine aQ (dC rfl (fun hc => ?_) (fun hc => absurd hc xAb))
 refine aFt hF [] [] [.box 10 (.val qh ((0 : Int), (0 : Int), (0 : Int), (0 : Int), ([] : List Nat), ([] : List Nat), ([] : List Nat), ([] : List Nat), ([] : List qB), ([] : List qk), ())), .box 2 (.val wc (x).1), .box 1 (.val qc (6 : Int)), .box 2 (.val wm x)] xAb ?_ ?_
 ·simp only [go_sem]
  exact zaV
 refine iI [0, 1, 2] rfl rfl (yaB ?_)
 exact zaZ
def uF (F : Md) (L : Int) (z : Int) (b : Int) (I : Int) (q : Int) (j : qa) (s : qa) (r : qa) (g : qa) (f : w7) (J : wg) : Option (qe × ((Int × qn) × qn)) :=
 ck ((gF F (z, b, I, q, j, s, r, g, f, J, ())).isSome = true) (ck (¬ (L < (7 : Int)) → ((nD F (z, b, I, q, j, s, r, g, f, ((gF F (z, b, I, q, j, s, r, g, f, J, ())).getD ([] : List qk)), ())).isSome = true)) (if (L < (7 : Int)) ∨ (¬ (((nD F (z, b, I, q, j, s, r, g, f, ((gF F (z, b, I, q, j, s, r, g, f, J, ())).getD ([] : List qk)), ())).getD false) = true)) then some (((0 : Int), (0 : Int), (0 : Int), (0 : Int), ([] : List Nat), ([] : List Nat), ([] : List Nat), ([] : List Nat), ([] : List qB), ([] : List qk), ()), (((0 : Int), (0 : Int), ()), ()).1, (6 : Int), ()) else some ((z, b, I, q, j, s, r, g, f, ((gF F (z, b, I, q, j, s, r, g, f, J, ())).getD ([] : List qk)), ()), ((0 : Int), (0 : Int), ()), (0 : Int), ())))
def zB (F : Md) (j : qa) (q : Int) (b : Int) (N : Int) (L : Int) (W : Int) (U : Int) (Y : qa) (J : qa) (O : qa) (z : qa) (s : w7) (r : wg) : Option ((Int × Int × Int × Int × Int × Int × qa × qa × qa × qa × w7 × wg) ⊕ ((Int × Int × Int × Int × Int × qa × qa × qa × qa × w7 × wg) ⊕ qz)) :=
 if b < (((aAJ j (aV ⟨#[10]⟩)).length : Nat) : Int) then ck (0 ≤ b ∧ b < (((aAJ j (aV ⟨#[10]⟩)).length : Nat) : Int)) (ck (aT2 ((aAJ j (aV ⟨#[10]⟩)).getD (b.toNat) ([] : List Nat)) (aV ⟨#[35]⟩)) (ck (I64 (b + (1 : Int))) (ck ((iE F (aAI ((aAJ j (aV ⟨#[10]⟩)).getD (b.toNat) ([] : List Nat)) (aV ⟨#[35]⟩)).1 (aV ⟨#[32]⟩)).isSome = true) ((fR F ((b + (1 : Int)), (0 : Int), ((iE F (aAI ((aAJ j (aV ⟨#[10]⟩)).getD (b.toNat) ([] : List Nat)) (aV ⟨#[35]⟩)).1 (aV ⟨#[32]⟩)).getD ([] : List Nat)), ())).bind (fun I => if I.1 = (aV ⟨#[]⟩) then ck (I64 (b + (1 : Int))) (some (.inl (q, (b + (1 : Int)), N, L, W, U, Y, J, O, z, s, r))) else if q < (7 : Int) then (yV F q (N, L, W, U, Y, J, O, z, s, r, ()) I.2).bind (fun e => match e with | .inl f => ck (I64 (q + (1 : Int))) (ck (I64 (b + (1 : Int))) (some (.inl ((q + (1 : Int)), (b + (1 : Int)), f.1.1, f.1.2.1, f.1.2.2.1, f.1.2.2.2.1, f.1.2.2.2.2.1, f.1.2.2.2.2.2.1, f.1.2.2.2.2.2.2.1, f.1.2.2.2.2.2.2.2.1, f.1.2.2.2.2.2.2.2.2.1, f.1.2.2.2.2.2.2.2.2.2.1)))) | .inr p_175 => some (.inr (.inr p_175))) else (tZ F (N, L, W, U, Y, J, O, z, s, r, ()) I.2).bind (fun e => match e with | .inl g => ck (I64 (q + (1 : Int))) (ck (I64 (b + (1 : Int))) (some (.inl ((q + (1 : Int)), (b + (1 : Int)), g.1.1, g.1.2.1, g.1.2.2.1, g.1.2.2.2.1, g.1.2.2.2.2.1, g.1.2.2.2.2.2.1, g.1.2.2.2.2.2.2.1, g.1.2.2.2.2.2.2.2.1, g.1.2.2.2.2.2.2.2.2.1, g.1.2.2.2.2.2.2.2.2.2.1)))) | .inr Z => some (.inr (.inr Z)))))))) else some (.inr (.inl (q, N, L, W, U, Y, J, O, z, s, r)))
def oD (F : Md) (b : qa) : Option (qe × ((Int × qn) × qn)) :=
 if (20000 : Int) < (b.length : Int) then some (((0 : Int), (0 : Int), (0 : Int), (0 : Int), ([] : List Nat), ([] : List Nat), ([] : List Nat), ([] : List Nat), ([] : List qB), ([] : List qk), ()), (((0 : Int), (0 : Int), ()), ()).1, (6 : Int), ()) else ck (aT2 b (aV ⟨#[10]⟩)) ((dG F (fun d : Int × Int × Int × Int × Int × Int × qa × qa × qa × qa × w7 × wg => zB F b d.1 d.2.1 d.2.2.1 d.2.2.2.1 d.2.2.2.2.1 d.2.2.2.2.2.1 d.2.2.2.2.2.2.1 d.2.2.2.2.2.2.2.1 d.2.2.2.2.2.2.2.2.1 d.2.2.2.2.2.2.2.2.2.1 d.2.2.2.2.2.2.2.2.2.2.1 d.2.2.2.2.2.2.2.2.2.2.2) ((0 : Int), (0 : Int), (0 : Int), (0 : Int), (0 : Int), (0 : Int), ([] : List Nat), ([] : List Nat), ([] : List Nat), ([] : List Nat), ([] : List qB), ([] : List qk))).bind (fun e => match e with | (.inl e) => uF F e.1 e.2.1 e.2.2.1 e.2.2.2.1 e.2.2.2.2.1 e.2.2.2.2.2.1 e.2.2.2.2.2.2.1 e.2.2.2.2.2.2.2.1 e.2.2.2.2.2.2.2.2.1 e.2.2.2.2.2.2.2.2.2.1 e.2.2.2.2.2.2.2.2.2.2 | (.inr e) => some (((0 : Int), (0 : Int), (0 : Int), (0 : Int), ([] : List Nat), ([] : List Nat), ([] : List Nat), ([] : List Nat), ([] : List qB), ([] : List qk), ()), (e).1, (6 : Int), ())))
@[go_sem]def aCP : Ty := .pair .str .unit
def uG (F : Md) : aG := mSpec aCP (.tup (.pair qh (.pair wc qj))) (fun x => oD F x.1)
abbrev qU (F : Md) : List (FuncId × aG) := [(16, yS), (17, oM), (18, (sX F)), (22, (yX F)), (8, (yZ F))]
theorem aLg [Mx] (F : Md) : bE Tryz.prog GL (qU F) := .cons aO6 xAa (.cons aEU xAa (.cons (aJJ F) xAa (.cons (aPb F) xAa (.cons (aNS F) xAa (.nil)))))
theorem aJY [Mx] (F : Md) : FOK Tryz.prog GL 7 (uG F) := by
 refine aHm (aXt (aLg F)) Tryz.func7 rfl xAa xAb fun w0 S x r hw h => ?_
 have hF : tI (fr Tryz.prog (EX (qU F)) S w0 Tryz.f7.ntmps) := ⟨aXt (aLg F), mix⟩
 obtain ⟨(text_0 : qa), u⟩ := x
 simp only [aCP, Ty.wf, aHd] at hw
 simp only [bT, aCP]
 try dsimp only at h
 replace h : oD F text_0 = some r := h
 unfold oD at h
 refine aO (dT hF [0, 2, 3, 4] (yaD ?_))
 refine aQ (aUx (aCA 3 [0, 1, 2] rfl rfl (Nat.zero_le _) xAb fun roots hroots => (yaA ?_)))
 have hF : tI { fr Tryz.prog (EX (qU F)) S w0 Tryz.f7.ntmps with M := ⟨nothing, S, 3, roots⟩, ds := [⟨.fn (.func 15) ([0, 1, 2].map roots).toArray, #[]⟩] } := ⟨hF.env, mix⟩
 refine aO (aO (aS hF [0, 2, 3, 4, 12] (yaD ?_)))
 refine aQ (dC rfl (fun hc => ?_) (fun hc => ?_))
 ·try simp only [go_sem] at hc
  have h := qL zAC h
  refine cK hF (eQ (l := []) (.nil)) [0, 2, 3, 4] [] (yaD ?_)
  exact zaW
 ·try simp only [go_sem] at hc
  have h := qM zAC h
  refine eJ (aQ (aO (aS hF [0, 2, 3, 4, 5] (yaD ?_))))
  refine aQ (aO (aUq (aQ (aCr (D := Int × Int × Int × Int × Int × qa × qa × qa × qa × w7 × wg) (fun d => uF F d.1 d.2.1 d.2.2.1 d.2.2.2.1 d.2.2.2.2.1 d.2.2.2.2.2.1 d.2.2.2.2.2.2.1 d.2.2.2.2.2.2.2.1 d.2.2.2.2.2.2.2.2.1 d.2.2.2.2.2.2.2.2.2.1 d.2.2.2.2.2.2.2.2.2.2 = some r) [] (fun d => [(2, .ptr 0 []), (3, .ptr 1 []), (4, .ptr 2 []), (5, .val qc d.1)]) (fun d => [.inr (.box 10 (.agg [.val qc d.2.1, .val qc d.2.2.1, .val qc d.2.2.2.1, .val qc d.2.2.2.2.1, .val .str d.2.2.2.2.2.1, .val .str d.2.2.2.2.2.2.1, .val .str d.2.2.2.2.2.2.2.1, .val .str d.2.2.2.2.2.2.2.2.1, .own 3, .own 4])), .inr (.box 2 (.val wc ((0 : Int), (0 : Int), ()))), .inr (.box 1 (.val qc (0 : Int))), .inr (.tre 63 qg qD d.2.2.2.2.2.2.2.2.2.1), .inr (.row 69 qs d.2.2.2.2.2.2.2.2.2.2)]) ?_ ?_))))
  ·refine aO (aS hF [2, 3, 4, 5, 16, 17, 18] (yaA ?_))
   obtain ⟨g0, h⟩ := bV h
   repeat (refine ⟨zAA, ?_⟩)
   refine aQ (qW (aSb 0 8 63 qg qD rfl rfl rfl (yaA ?_)))
   refine aSb 0 9 69 .no qs rfl rfl rfl (yaA ?_)
   refine aGo (D := Int × Int × Int × Int × Int × Int × qa × qa × qa × qa × w7 × wg) [16, 17] (fun d => [(2, .ptr 0 []), (3, .ptr 1 []), (4, .ptr 2 []), (5, .val qc d.1), (18, .val qc d.2.1)]) (fun d => [.inr (.box 10 (.agg [.val qc d.2.2.1, .val qc d.2.2.2.1, .val qc d.2.2.2.2.1, .val qc d.2.2.2.2.2.1, .val .str d.2.2.2.2.2.2.1, .val .str d.2.2.2.2.2.2.2.1, .val .str d.2.2.2.2.2.2.2.2.1, .val .str d.2.2.2.2.2.2.2.2.2.1, .own 3, .own 4])), .inr (.box 2 (.val wc ((0 : Int), (0 : Int), ()))), .inr (.box 1 (.val qc (0 : Int))), .inr (.tre 63 qg qD d.2.2.2.2.2.2.2.2.2.2.1), .inr (.row 69 qs d.2.2.2.2.2.2.2.2.2.2.2)]) h ?_ ?_ ?_
   ·first | rfl | (simp only [go_sem]; done)
   ·exact zAI
   rintro ⟨Z, g, W, N, U, Y, O, L, J, q, j, s⟩ s6 h z
   simp only [go_sem]
   try dsimp only at h
   unfold zB at h
   refine aO (aS hF [2, 3, 4, 5, 16, 17, 18, 19] (yaD ?_))
   refine aQ (aO (dC rfl (fun hc => ?_) (fun hc => ?_)))
   ·try simp only [go_sem] at hc
    have h := qL zAC h
    refine eJ (aQ (aO (qW (aO (aS hF [2, 3, 4, 5, 6, 7, 16, 17, 18] (yaA ?_))))))
    obtain ⟨g0, h⟩ := bV h
    repeat (refine ⟨zAA, ?_⟩)
    refine aQ (aO (aS hF [2, 3, 4, 5, 6, 7, 16, 17, 18] (yaA ?_)))
    obtain ⟨g0, h⟩ := bV h
    repeat (refine ⟨zAA, ?_⟩)
    refine aQ (aO (dT hF [2, 3, 4, 5, 8, 16, 17, 18] (yaA ?_)))
    obtain ⟨g0, h⟩ := bV h
    try simp only [I64, I32] at g0
    repeat (refine ⟨zAA, ?_⟩)
    obtain ⟨g0, h⟩ := bV h
    repeat (refine ⟨zAA, ?_⟩)
    obtain ⟨I, he1, h⟩ := bind_some h
    try dsimp only at h
    refine aQ (aO (aO (cK hF (eQ (l := [(19, ⟨vI F, [5], (((g + (1 : Int)), (0 : Int), ((iE F (aAI ((aAJ text_0 (aV ⟨#[10]⟩)).getD (g.toNat) ([] : List Nat)) (aV ⟨#[35]⟩)).1 (aV ⟨#[32]⟩)).getD ([] : List Nat)), ()), I)⟩)]) (.cons (rR F) xAa (.nil))) [2, 3, 4, 5, 8, 16, 17, 18, 37] [] (yaD ?_))))
    refine aQ (dC rfl (fun hc => ?_) (fun hc => ?_))
    ·try simp only [go_sem] at hc
     have h := qL zAC h
     refine aEB (mF (qK (aQ (aS hF [2, 3, 4, 5, 16, 17, 18] (yaA ?_)))))
     obtain ⟨g0, h⟩ := bV h
     try simp only [I64, I32] at g0
     repeat (refine ⟨zAA, ?_⟩)
     obtain rfl := Option.some.inj h
     dsimp only [aBp] at z
     refine dX (iI [0, 1, 2, 3, 4] rfl rfl (yaB ?_))
     refine aU (Z, (g + (1 : Int)), W, N, U, Y, O, L, J, q, j, s) z rfl ?_
     ·exact zAI
    ·try simp only [go_sem] at hc
     have h := qM zAC h
     refine eJ (aQ (aO (aO (aS hF [2, 3, 4, 5, 8, 16, 17, 18, 39] (yaD ?_)))))
     refine aQ (dC rfl (fun hc => ?_) (fun hc => ?_))
     ·try simp only [go_sem] at hc
      have h := qL zAC h
      obtain ⟨e, he2, h⟩ := bind_some h
      rcases e with f | p_175
      ·try dsimp only at h
       refine cK hF (eQ (l := [(20, ⟨aCM F, [0, 5, 3, 4], (Z, (W, N, U, Y, O, L, J, q, j, s, ()), I.2, .inl f)⟩)]) (.cons (aLc F) xAa (.nil))) [2, 3, 4, 5, 16, 17, 18] [] (yaF ?_)
       refine aQ (aS hF [2, 3, 4, 5, 16, 17, 18] (yaA ?_))
       obtain ⟨g0, h⟩ := bV h
       try simp only [I64, I32] at g0
       repeat (refine ⟨zAA, ?_⟩)
       refine qJ (aQ (aS hF [2, 3, 4, 5, 16, 17, 18] (yaA ?_)))
       obtain ⟨g0, h⟩ := bV h
       try simp only [I64, I32] at g0
       repeat (refine ⟨zAA, ?_⟩)
       obtain rfl := Option.some.inj h
       dsimp only [aBp] at z
       refine dX (iI [0, 1, 2, 6, 7] rfl rfl (yaB ?_))
       refine aU ((Z + (1 : Int)), (g + (1 : Int)), f.1.1, f.1.2.1, f.1.2.2.1, f.1.2.2.2.1, f.1.2.2.2.2.1, f.1.2.2.2.2.2.1, f.1.2.2.2.2.2.2.1, f.1.2.2.2.2.2.2.2.1, f.1.2.2.2.2.2.2.2.2.1, f.1.2.2.2.2.2.2.2.2.2.1) z rfl ?_
       ·exact zAI
      ·try dsimp only at h
       refine cK hF (eQ (l := [(20, ⟨aCM F, [0, 5, 3, 4], (Z, (W, N, U, Y, O, L, J, q, j, s, ()), I.2, .inr p_175)⟩)]) (.cons (aLc F) xAa (.nil))) [2, 3, 4, 5, 16, 17, 18] [] (yaF ?_)
       obtain rfl := Option.some.inj h
       dsimp only [aBp] at z
       have h := yaG (z)
       obtain rfl := Option.some.inj h
       refine iL (aCq (iL (iL (aCq (iL (aKn (aJ (aI 0 rfl aE) ?_)))))))
       refine aJ (aI 1 rfl aE) ?_
       refine aJ (aI 2 rfl aE) (yaA ?_)
       refine aDZ (fn := Tryz.f7) (k := 3) (l2 := [0, 1, 2]) hF rfl rfl xAb rfl (uR xAa) ⟨eY (p_175), [0, 1, 2], ()⟩ (zA (p_175)) rfl [.cell 2 27, .cell 3 29, .cell 4 3] rfl ?_ ?_
       ·(simp only [eY, go_sem]) <;> first | decide | trivial
       ·(simp only [eY, aR, nH, go_sem]) <;> first | decide | trivial | rfl | (simp; done)
     ·try simp only [go_sem] at hc
      have h := qM zAC h
      obtain ⟨e, he3, h⟩ := bind_some h
      rcases e with b | p_177
      ·try dsimp only at h
       refine cK hF (eQ (l := [(21, ⟨aAx F, [0, 5, 3, 4], ((W, N, U, Y, O, L, J, q, j, s, ()), I.2, .inl b)⟩)]) (.cons (aIn F) xAa (.nil))) [2, 3, 4, 5, 16, 17, 18] [] (yaF ?_)
       refine aQ (aS hF [2, 3, 4, 5, 16, 17, 18] (yaA ?_))
       obtain ⟨g0, h⟩ := bV h
       try simp only [I64, I32] at g0
       repeat (refine ⟨zAA, ?_⟩)
       refine qJ (aQ (aS hF [2, 3, 4, 5, 16, 17, 18] (yaA ?_)))
       obtain ⟨g0, h⟩ := bV h
       try simp only [I64, I32] at g0
       repeat (refine ⟨zAA, ?_⟩)
       obtain rfl := Option.some.inj h
       dsimp only [aBp] at z
       refine dX (iI [0, 1, 2, 6, 7] rfl rfl (yaB ?_))
       refine aU ((Z + (1 : Int)), (g + (1 : Int)), b.1.1, b.1.2.1, b.1.2.2.1, b.1.2.2.2.1, b.1.2.2.2.2.1, b.1.2.2.2.2.2.1, b.1.2.2.2.2.2.2.1, b.1.2.2.2.2.2.2.2.1, b.1.2.2.2.2.2.2.2.2.1, b.1.2.2.2.2.2.2.2.2.2.1) z rfl ?_
       ·exact zAI
      ·try dsimp only at h
       refine cK hF (eQ (l := [(21, ⟨aAx F, [0, 5, 3, 4], ((W, N, U, Y, O, L, J, q, j, s, ()), I.2, .inr p_177)⟩)]) (.cons (aIn F) xAa (.nil))) [2, 3, 4, 5, 16, 17, 18] [] (yaF ?_)
       obtain rfl := Option.some.inj h
       dsimp only [aBp] at z
       have h := yaG (z)
       obtain rfl := Option.some.inj h
       refine iL (aCq (iL (iL (aCq (iL (aKn (aJ (aI 0 rfl aE) ?_)))))))
       refine aJ (aI 1 rfl aE) ?_
       refine aJ (aI 2 rfl aE) (yaA ?_)
       refine aDZ (fn := Tryz.f7) (k := 3) (l2 := [0, 1, 2]) hF rfl rfl xAb rfl (uR xAa) ⟨eY (p_177), [0, 1, 2], ()⟩ (zA (p_177)) rfl [.cell 2 27, .cell 3 29, .cell 4 3] rfl ?_ ?_
       ·(simp only [eY, go_sem]) <;> first | decide | trivial
       ·(simp only [eY, aR, nH, go_sem]) <;> first | decide | trivial | rfl | (simp; done)
   ·try simp only [go_sem] at hc
    have h := qM zAC h
    obtain rfl := Option.some.inj h
    dsimp only [aBp] at z
    have h := yaG (z)
    refine aEB (mF (mF (qK (dX (aU (Z, W, N, U, Y, O, L, J, q, j, s) h rfl ?_)))))
    ·exact zAI
  ·rintro ⟨k_66, s_67, s_68, s_69, s_70, s_71, s_72, s_73, s_74, x_75, x_76⟩ h
   try dsimp only at h
   simp only [go_sem]
   unfold uF at h
   refine aO (dT hF [2, 3, 4, 5] (yaA ?_))
   obtain ⟨g0, h⟩ := bV h
   repeat (refine ⟨zAA, ?_⟩)
   refine aQ (aO (aO (aS hF [2, 3, 4, 57] (yaA ?_))))
   obtain ⟨g0, h⟩ := bV h
   repeat (refine ⟨by first | with_reducible assumption | omega | (intros; first | with_reducible assumption | omega) | (simp only [go_sem] at *; first | with_reducible assumption | omega) | (intro _; exact ⟨rfl, by decide⟩) | (intro _; refine (?_ : _ = aK _); rfl) | (refine (?_ : _ = aK _); rfl) | exact ⟨rfl, rfl⟩ | (intro q0; (try have e0 := g0 zAG); first | assumption | omega) | decide, ?_⟩)
   refine aQ (dC rfl (fun hc => ?_) (fun hc => ?_))
   ·try simp only [go_sem] at hc
    have h := qL zAC h
    refine cK hF (eQ (l := []) (.nil)) [2, 3, 4] [] (yaD ?_)
    exact zaW
   ·try simp only [go_sem] at hc
    have h := qM zAC h
    refine eJ (aQ (aO (dT hF [2, 3, 4] (yaD ?_))))
    refine aQ (jS (aVp (bBp (bFc 0 (t := qh) (s_67, s_68, s_69, s_70, s_71, s_72, s_73, s_74, x_75, ((gF F (s_67, s_68, s_69, s_70, s_71, s_72, s_73, s_74, x_75, x_76, ())).getD ([] : List qk)), ()) rfl (by first | rfl | (simp only [go_sem]; done)) aE) (yaA ?_))))
    obtain rfl := Option.some.inj h
    refine aRh (fn := Tryz.f7) (k := 3) (l2 := [0, 1, 2]) hF rfl rfl xAb rfl (uR xAa) ⟨vZ, [0, 1, 2], ((s_67, s_68, s_69, s_70, s_71, s_72, s_73, s_74, x_75, ((gF F (s_67, s_68, s_69, s_70, s_71, s_72, s_73, s_74, x_75, x_76, ())).getD ([] : List qk)), ()), ((0 : Int), (0 : Int), ()), (0 : Int), ())⟩ aPf rfl [.cell 2 27, .cell 3 29, .cell 4 3] rfl ?_ ?_
    ·(simp only [vZ, go_sem]) <;> first | decide | trivial
    ·(simp only [vZ, aR, nH, go_sem]) <;> first | decide | trivial | rfl | (simp; done)
attribute [go_sem] uG
end
end Nu
end Go.Proofs
namespace Go.Proofs
open Go.Vc
set_option maxRecDepth 20000
namespace Nu
noncomputable section
set_option maxHeartbeats 4000000
attribute [-go_sem] Ex.kind Ex.text Ex.l
def sK (F : Md) (f : (List wd)) (g : (List wd)) (b : Int) : Option ((Int) ⊕ ((Unit) ⊕ Bool)) :=
 if b < (f.length : Int) then ck (0 ≤ b ∧ b < (f.length : Int)) (ck (0 ≤ b ∧ b < (g.length : Int)) (if ¬ ((Ty.eqb qv (f.getD (b.toNat) ([], ([], [], ()), ())) (g.getD (b.toNat) ([], ([], [], ()), ()))) = true) then some (.inr (.inr false)) else ck (I64 (b + (1 : Int))) (some (.inl (b + (1 : Int)))))) else some (.inr (.inl ()))
def jY (F : Md) (b : (List wd)) (f : (List wd)) : Option Bool :=
 if ¬ ((b.length : Int) = (f.length : Int)) then some false else (dG F (fun d : Int => sK F b f d) (0 : Int)).bind (fun e => match e with | (.inl e) => some true | (.inr e) => some e)
def aBg : PlR := ⟨[(0, .A [0, 1]), (1, .A [0, 1, 10]), (2, .A [4]), (3, .A [0, 1, 12, 13]), (4, .A [0, 1, 12, 13, 14]), (5, .A [0, 1, 5, 12, 13]), (6, .A [0, 1, 12, 13, 24]), (7, .A [4]), (8, .A [0, 1, 12, 13]), (9, .A [4])], [], []⟩
def aBV : Ty := .pair (.sl qv) (.pair (.sl qv) .unit)
def oX (F : Md) : aG := mSpec aBV (.one .bool) (fun x => jY F x.1 x.2.1)
abbrev aHY (F : Md) : List (FuncId × aG) := []
theorem aHZ [Mx] (F : Md) : bE Tryz.prog GL (aHY F) := .nil
attribute [go_sem] aBV aBg
theorem aGT [Mx] (F : Md) : FOK Tryz.prog GL 78 (oX F) := by
 refine bN (bC (aHZ F)) mix Tryz.func78 rfl xAa xAb aBg (fun w0 S x Θ q h hV => ?_)
 obtain ⟨(b : (List wd)), (f : (List wd)), u⟩ := x
 simp only [bT, go_sem]
 replace h : sat (jY F b f) _ := h
 unfold jY at h
 refine cI h (fun hc h => ?_) fun hc h => ?_
 ·exact aH hV [.tmp 4] rfl rfl rfl (aA h) xAd
 ·refine bM hV (D := Int) [0, 1, 12] (fun d => [(13, .val qc d)]) (fun d => []) h rfl xAc ?_
  rintro g j T4 hA4 hE4 h
  simp only [go_sem]
  replace h : sat (sK F b f g) _ := h
  unfold sK at h
  exact zaY
attribute [go_sem] oX
def tH (F : Md) (f : qx) (g : qx) (b : Int) : Option ((Int) ⊕ ((Unit) ⊕ Bool)) :=
 if b < (f.length : Int) then ck (0 ≤ b ∧ b < (f.length : Int)) (ck (0 ≤ b ∧ b < (g.length : Int)) (if ¬ ((f.getD (b.toNat) ([] : List Nat)) = (g.getD (b.toNat) ([] : List Nat))) then some (.inr (.inr false)) else ck (I64 (b + (1 : Int))) (some (.inl (b + (1 : Int)))))) else some (.inr (.inl ()))
def nM (F : Md) (b : qx) (f : qx) : Option Bool :=
 if ¬ ((b.length : Int) = (f.length : Int)) then some false else (dG F (fun d : Int => tH F b f d) (0 : Int)).bind (fun e => match e with | (.inl e) => some true | (.inr e) => some e)
def aBW : PlR := ⟨[(0, .A [0, 1]), (1, .A [0, 1, 10]), (2, .A [4]), (3, .A [0, 1, 12, 13]), (4, .A [0, 1, 12, 13, 14]), (5, .A [0, 1, 5, 12, 13]), (6, .A [0, 1, 12, 13, 24]), (7, .A [4]), (8, .A [0, 1, 12, 13]), (9, .A [4])], [], []⟩
def aCk : Ty := .pair wi (.pair wi .unit)
def qF (F : Md) : aG := mSpec aCk (.one .bool) (fun x => nM F x.1 x.2.1)
abbrev aIN (F : Md) : List (FuncId × aG) := []
theorem aIO [Mx] (F : Md) : bE Tryz.prog GL (aIN F) := .nil
attribute [go_sem] aCk aBW
theorem aH0 [Mx] (F : Md) : FOK Tryz.prog GL 79 (qF F) := by
 refine bN (bC (aIO F)) mix Tryz.func79 rfl xAa xAb aBW (fun w0 S x Θ q h hV => ?_)
 obtain ⟨(b : qx), (f : qx), u⟩ := x
 simp only [bT, go_sem]
 replace h : sat (nM F b f) _ := h
 unfold nM at h
 refine cI h (fun hc h => ?_) fun hc h => ?_
 ·exact aH hV [.tmp 4] rfl rfl rfl (aA h) xAd
 ·refine bM hV (D := Int) [0, 1, 12] (fun d => [(13, .val qc d)]) (fun d => []) h rfl xAc ?_
  rintro g j T4 hA4 hE4 h
  simp only [go_sem]
  replace h : sat (tH F b f g) _ := h
  unfold tH at h
  refine dY h (fun hc h => ?_) fun hc h => ?_
  ·refine aN h fun g0 h => aN h fun g1 h => ?_
   refine cI h (fun hc h => ?_) fun hc h => ?_
   ·replace h := yaG (hE4 _ (aA h))
    exact zaD
   ·refine aN h fun g0 h => ?_
    replace h := hA4 _ (aA h)
    exact zaJ
  ·replace h := yaG (hE4 _ (aA h))
   exact zaD
attribute [go_sem] qF
def rY (F : Md) (f : wg) (g : wg) (b : Int) : Option ((Int) ⊕ ((Unit) ⊕ Bool)) :=
 if b < (f.length : Int) then ck (0 ≤ b ∧ b < (f.length : Int)) (ck (0 ≤ b ∧ b < (g.length : Int)) (if ¬ ((Ty.eqb qs (f.getD (b.toNat) ([], [], [], [], ())) (g.getD (b.toNat) ([], [], [], [], ()))) = true) then some (.inr (.inr false)) else ck (I64 (b + (1 : Int))) (some (.inl (b + (1 : Int)))))) else some (.inr (.inl ()))
def eI (F : Md) (b : wg) (f : wg) : Option Bool :=
 if ¬ ((b.length : Int) = (f.length : Int)) then some false else (dG F (fun d : Int => rY F b f d) (0 : Int)).bind (fun e => match e with | (.inl e) => some true | (.inr e) => some e)
def aAo : PlR := ⟨[(0, .A [0, 1]), (1, .A [0, 1, 10]), (2, .A [4]), (3, .A [0, 1, 12, 13]), (4, .A [0, 1, 12, 13, 14]), (5, .A [0, 1, 5, 12, 13]), (6, .A [0, 1, 12, 13, 24]), (7, .A [4]), (8, .A [0, 1, 12, 13]), (9, .A [4])], [], []⟩
def aBh : Ty := .pair (.sl qs) (.pair (.sl qs) .unit)
def oE (F : Md) : aG := mSpec aBh (.one .bool) (fun x => eI F x.1 x.2.1)
abbrev aGU (F : Md) : List (FuncId × aG) := []
theorem aGV [Mx] (F : Md) : bE Tryz.prog GL (aGU F) := .nil
attribute [go_sem] aBh aAo
theorem aGd [Mx] (F : Md) : FOK Tryz.prog GL 29 (oE F) := by
 refine bN (bC (aGV F)) mix Tryz.func29 rfl xAa xAb aAo (fun w0 S x Θ q h hV => ?_)
 obtain ⟨(b : wg), (f : wg), u⟩ := x
 simp only [bT, go_sem]
 replace h : sat (eI F b f) _ := h
 unfold eI at h
 refine cI h (fun hc h => ?_) fun hc h => ?_
 ·exact aH hV [.tmp 4] rfl rfl rfl (aA h) xAd
 ·refine bM hV (D := Int) [0, 1, 12] (fun d => [(13, .val qc d)]) (fun d => []) h rfl xAc ?_
  rintro g j T4 hA4 hE4 h
  simp only [go_sem]
  replace h : sat (rY F b f g) _ := h
  unfold rY at h
  exact zaY
attribute [go_sem] oE
@[go_sem]def zC : Ty := .pair .expr (.pair .expr .unit)
def mT (g : Ex → Ex → Option (Bool)) : aG := mSpec zC (.one .bool) (fun x => g x.1 x.2.1)
attribute [go_sem] mT
def cQ (F : Md) (g : Ex → Ex → Option (Bool)) (f : w9) (j : w9) (b : Int) : Option ((Int) ⊕ ((Unit) ⊕ Bool)) :=
 if b < (f.length : Int) then ck (0 ≤ b ∧ b < (f.length : Int)) (ck (0 ≤ b ∧ b < (j.length : Int)) ((g (f.getD (b.toNat) (Ex.mk 0 [] [])) (j.getD (b.toNat) (Ex.mk 0 [] []))).bind (fun v_28 => if ¬ (v_28 = true) then some (.inr (.inr false)) else ck (I64 (b + (1 : Int))) (some (.inl (b + (1 : Int))))))) else some (.inr (.inl ()))
def bG (F : Md) (g : Ex → Ex → Option (Bool)) (b : w9) (f : w9) (j : Unit) : Option Bool :=
 if ¬ ((b.length : Int) = (f.length : Int)) then some false else (dG F (fun d : Int => cQ F g b f d) (0 : Int)).bind (fun e => match e with | (.inl e) => some true | (.inr e) => some e)
def eM : PlR := ⟨[(0, .A [0, 1, 2]), (1, .A [0, 1, 2, 14]), (2, .A [6]), (3, .A [1, 2, 15, 16, 17]), (4, .A [1, 2, 15, 16, 17, 18]), (5, .B [1, 2, 7, 8, 15, 16, 17]), (6, .B [1, 2, 8, 9, 15, 16, 17]), (7, .A [1, 2, 15, 16, 17, 30]), (8, .A [6]), (9, .A [1, 2, 15, 16, 17]), (10, .A [6])], [], []⟩
def eO : Ty := .pair (.sl .expr) (.pair (.sl .expr) (.pair (.clo 75 .unit) .unit))
def bU (F : Md) (g : Ex → Ex → Option (Bool)) : aG := mSpec eO (.one .bool) (fun x => bG F g x.1 x.2.1 x.2.2.1)
abbrev eP (F : Md) (g : Ex → Ex → Option (Bool)) : List (FuncId × aG) := [(75, (mT g))]
theorem kP [Mx] (F : Md) (g : Ex → Ex → Option (Bool)) (b : FOK Tryz.prog GL 75 (mT g)) : bE Tryz.prog GL (eP F g) := .cons b xAa (.nil)
attribute [go_sem] eO eM
theorem kH [Mx] (F : Md) (g : Ex → Ex → Option (Bool)) (r : FOK Tryz.prog GL 75 (mT g)) : FOK Tryz.prog GL 120 (bU F g) := by
 refine bN (bC (kP F g r)) mix Tryz.func120 rfl xAa xAb eM (fun w0 S x Θ z h hV => ?_)
 obtain ⟨(f : w9), (j : w9), (q : Unit), u⟩ := x
 simp only [bT, go_sem]
 replace h : sat (bG F g f j q) _ := h
 unfold bG at h
 refine cI h (fun hc h => ?_) fun hc h => ?_
 ·exact aH hV [.tmp 6] rfl rfl rfl (aA h) xAd
 ·refine bM hV (D := Int) [1, 2, 15, 16] (fun d => [(17, .val qc d)]) (fun d => []) h rfl xAc ?_
  rintro b s T4 hA4 hE4 h
  simp only [go_sem]
  replace h : sat (cQ F g f j b) _ := h
  unfold cQ at h
  exact zaF
attribute [go_sem] bU
def vL (F : Md) (g : Ex → Ex → Option (Bool)) (f : Ex) (b : Ex) : Option Bool :=
 ck ((((f.kind) = (b.kind)) ∧ ((f.text) = (b.text))) → ((bG F g (f.l) (b.l) ()).isSome = true)) (some (((decide ((f.kind) = (b.kind))) && (decide ((f.text) = (b.text)))) && ((bG F g (f.l) (b.l) ()).getD false)))
def aFL : PlR := ⟨[(0, .B [2, 3]), (1, .A [4])], [], []⟩
abbrev aGW (F : Md) (g : Ex → Ex → Option (Bool)) : List (FuncId × aG) := [(120, (bU F g))]
theorem aPk [Mx] (F : Md) (g : Ex → Ex → Option (Bool)) (b : FOK Tryz.prog GL 75 (mT g)) : bE Tryz.prog GL (aGW F g) := .cons (kH F g b) xAa (.nil)
attribute [go_sem] aFL
theorem aL5 [Mx] (F : Md) (g : Ex → Ex → Option (Bool)) (j : FOK Tryz.prog GL 75 (mT g)) : FOK Tryz.prog GL 75 (mSpec zC (.one .bool) (fun x => vL F g x.1 x.2.1)) := by
 refine bN (bC (aPk F g j)) mix Tryz.func75 rfl xAa xAb aFL (fun w0 S x Θ q h hV => ?_)
 obtain ⟨(f : Ex), (b : Ex), u⟩ := x
 simp only [bT, go_sem]
 replace h : sat (vL F g f b) _ := h
 unfold vL at h
 refine aN h fun g0 h => ?_
 exact zaD
def rA (F : Md) : Nat → Ex → Ex → Option (Bool)
 | 0 => fun _ _ => none
 | n + 1 => vL F (rA F n)
def oY (F : Md) (n : Nat) : aG := mSpec zC (.one .bool) (fun x => rA F n x.1 x.2.1)
theorem aBX [Mx] (F : Md) : ∀ n, FOK Tryz.prog GL 75 (oY F n)
 | 0 => fun _ _ _ _ _ _ _ hp => Bool.noConfusion (show false = true from hp)
 | n + 1 => aL5 F _ (aBX F n)
attribute [go_sem] oY
end
end Nu
end Go.Proofs
namespace Go.Proofs
open Go.Vc
set_option maxRecDepth 20000
namespace Nu
noncomputable section
set_option maxHeartbeats 4000000
attribute [-go_sem] Ex.kind Ex.text Ex.l
def wW (F : Md) (b : q8) (f : q8) : Option Bool :=
 ck (((b.1 = f.1) ∧ ((Ty.eqb qf b.2.1 f.2.1) = true)) → ((rA F 64 b.2.2.1 f.2.2.1).isSome = true)) (some (((decide (b.1 = f.1)) && (Ty.eqb qf b.2.1 f.2.1)) && ((rA F 64 b.2.2.1 f.2.2.1).getD false)))
@[go_sem]def wX : Ty := .pair qp (.pair qp .unit)
def vM (F : Md) : aG := mSpec wX (.one .bool) (fun x => wW F x.1 x.2.1)
abbrev aBY (F : Md) : List (FuncId × aG) := [(75, (oY F 64))]
theorem aFM [Mx] (F : Md) : bE Tryz.prog GL (aBY F) := .cons (aBX F 64) xAa (.nil)
theorem aL6 [Mx] (F : Md) : FOK Tryz.prog GL 74 (vM F) := by
 refine aGp (bC (aFM F)) Tryz.func74 rfl xAa xAb fun w0 S x r g h => ?_
 have hF : tI (fr Tryz.prog (EM (aBY F)) S w0 Tryz.f74.ntmps) := ⟨bC (aFM F), mix⟩
 obtain ⟨(b : q8), (f : q8), u⟩ := x
 simp only [wX, Ty.wf, aHd] at g
 simp only [bT, wX]
 try dsimp only at h
 replace h : wW F b f = some r := h
 unfold wW at h
 refine aO (dT hF [2, 3] (yaA ?_))
 refine aQ (aO (aS hF [4] (yaA ?_)))
 obtain ⟨g0, h⟩ := bV h
 repeat (refine ⟨by first | with_reducible assumption | omega | (intros; first | with_reducible assumption | omega) | (simp only [go_sem] at *; first | with_reducible assumption | omega) | (intro _; exact ⟨rfl, by decide⟩) | (intro _; refine (?_ : _ = aK _); rfl) | (refine (?_ : _ = aK _); rfl) | exact ⟨rfl, rfl⟩ | (intro q0; (try have e0 := g0 zAG); first | assumption | omega) | decide, ?_⟩)
 obtain rfl := Option.some.inj h
 refine aQ (jS (sA hF [.tmp 4] rfl rfl rfl ?_))
 exact zaQ
attribute [go_sem] vM
def cH (F : Md) (f : (List q8)) (g : (List q8)) (b : Int) : Option ((Int) ⊕ ((Unit) ⊕ Bool)) :=
 if b < (f.length : Int) then ck (0 ≤ b ∧ b < (f.length : Int)) (ck (0 ≤ b ∧ b < (g.length : Int)) ((wW F (f.getD (b.toNat) ([], ([], [], ()), (Ex.mk 0 [] []), ())) (g.getD (b.toNat) ([], ([], [], ()), (Ex.mk 0 [] []), ()))).bind (fun v_28 => if ¬ (v_28 = true) then some (.inr (.inr false)) else ck (I64 (b + (1 : Int))) (some (.inl (b + (1 : Int))))))) else some (.inr (.inl ()))
def bR (F : Md) (b : (List q8)) (f : (List q8)) (g : Unit) : Option Bool :=
 if ¬ ((b.length : Int) = (f.length : Int)) then some false else (dG F (fun d : Int => cH F b f d) (0 : Int)).bind (fun e => match e with | (.inl e) => some true | (.inr e) => some e)
def eE : PlR := ⟨[(0, .A [0, 1, 2]), (1, .A [0, 1, 2, 14]), (2, .A [6]), (3, .A [1, 2, 15, 16, 17]), (4, .A [1, 2, 15, 16, 17, 18]), (5, .B [1, 2, 7, 8, 15, 16, 17]), (6, .B [1, 2, 8, 9, 15, 16, 17]), (7, .A [1, 2, 15, 16, 17, 30]), (8, .A [6]), (9, .A [1, 2, 15, 16, 17]), (10, .A [6])], [], []⟩
def eF : Ty := .pair (.sl qp) (.pair (.sl qp) (.pair (.clo 74 .unit) .unit))
def bQ (F : Md) : aG := mSpec eF (.one .bool) (fun x => bR F x.1 x.2.1 x.2.2.1)
abbrev eG (F : Md) : List (FuncId × aG) := [(74, (vM F))]
theorem jK [Mx] (F : Md) : bE Tryz.prog GL (eG F) := .cons (aL6 F) xAa (.nil)
attribute [go_sem] eF eE
theorem jA [Mx] (F : Md) : FOK Tryz.prog GL 73 (bQ F) := by
 refine bN (bC (jK F)) mix Tryz.func73 rfl xAa xAb eE (fun w0 S x Θ r h hV => ?_)
 obtain ⟨(f : (List q8)), (g : (List q8)), (j : Unit), u⟩ := x
 simp only [bT, go_sem]
 replace h : sat (bR F f g j) _ := h
 unfold bR at h
 refine cI h (fun hc h => ?_) fun hc h => ?_
 ·exact aH hV [.tmp 6] rfl rfl rfl (aA h) xAd
 ·refine bM hV (D := Int) [1, 2, 15, 16] (fun d => [(17, .val qc d)]) (fun d => []) h rfl xAc ?_
  rintro b q T4 hA4 hE4 h
  simp only [go_sem]
  replace h : sat (cH F f g b) _ := h
  unfold cH at h
  exact zaF
attribute [go_sem] bQ
def wY (F : Md) (b : qy) (f : qy) : Option Bool :=
 ck ((b.1 = f.1) → ((rA F 64 b.2.1 f.2.1).isSome = true)) (some ((decide (b.1 = f.1)) && ((rA F 64 b.2.1 f.2.1).getD false)))
def aFb : PlR := ⟨[(0, .B [2, 3]), (1, .A [4])], [], []⟩
def aFN : Ty := .pair qr (.pair qr .unit)
def vN (F : Md) : aG := mSpec aFN (.one .bool) (fun x => wY F x.1 x.2.1)
abbrev aFO (F : Md) : List (FuncId × aG) := [(75, (oY F 64))]
theorem aNT [Mx] (F : Md) : bE Tryz.prog GL (aFO F) := .cons (aBX F 64) xAa (.nil)
attribute [go_sem] aFN aFb
theorem aL7 [Mx] (F : Md) : FOK Tryz.prog GL 77 (vN F) := by
 refine bN (bC (aNT F)) mix Tryz.func77 rfl xAa xAb aFb (fun w0 S x Θ g h hV => ?_)
 obtain ⟨(b : qy), (f : qy), u⟩ := x
 simp only [bT, go_sem]
 replace h : sat (wY F b f) _ := h
 unfold wY at h
 refine aN h fun g0 h => ?_
 exact zaD
attribute [go_sem] vN
def cU (F : Md) (f : w6) (g : w6) (b : Int) : Option ((Int) ⊕ ((Unit) ⊕ Bool)) :=
 if b < (f.length : Int) then ck (0 ≤ b ∧ b < (f.length : Int)) (ck (0 ≤ b ∧ b < (g.length : Int)) ((wY F (f.getD (b.toNat) ([], (Ex.mk 0 [] []), ())) (g.getD (b.toNat) ([], (Ex.mk 0 [] []), ()))).bind (fun v_28 => if ¬ (v_28 = true) then some (.inr (.inr false)) else ck (I64 (b + (1 : Int))) (some (.inl (b + (1 : Int))))))) else some (.inr (.inl ()))
def bZ (F : Md) (b : w6) (f : w6) (g : Unit) : Option Bool :=
 if ¬ ((b.length : Int) = (f.length : Int)) then some false else (dG F (fun d : Int => cU F b f d) (0 : Int)).bind (fun e => match e with | (.inl e) => some true | (.inr e) => some e)
def eZ : PlR := ⟨[(0, .A [0, 1, 2]), (1, .A [0, 1, 2, 14]), (2, .A [6]), (3, .A [1, 2, 15, 16, 17]), (4, .A [1, 2, 15, 16, 17, 18]), (5, .B [1, 2, 7, 8, 15, 16, 17]), (6, .B [1, 2, 8, 9, 15, 16, 17]), (7, .A [1, 2, 15, 16, 17, 30]), (8, .A [6]), (9, .A [1, 2, 15, 16, 17]), (10, .A [6])], [], []⟩
def fC : Ty := .pair (.sl qr) (.pair (.sl qr) (.pair (.clo 77 .unit) .unit))
def bW (F : Md) : aG := mSpec fC (.one .bool) (fun x => bZ F x.1 x.2.1 x.2.2.1)
abbrev fD (F : Md) : List (FuncId × aG) := [(77, (vN F))]
theorem lO [Mx] (F : Md) : bE Tryz.prog GL (fD F) := .cons (aL7 F) xAa (.nil)
attribute [go_sem] fC eZ
theorem lF [Mx] (F : Md) : FOK Tryz.prog GL 76 (bW F) := by
 refine bN (bC (lO F)) mix Tryz.func76 rfl xAa xAb eZ (fun w0 S x Θ r h hV => ?_)
 obtain ⟨(f : w6), (g : w6), (j : Unit), u⟩ := x
 simp only [bT, go_sem]
 replace h : sat (bZ F f g j) _ := h
 unfold bZ at h
 refine cI h (fun hc h => ?_) fun hc h => ?_
 ·exact aH hV [.tmp 6] rfl rfl rfl (aA h) xAd
 ·refine bM hV (D := Int) [1, 2, 15, 16] (fun d => [(17, .val qc d)]) (fun d => []) h rfl xAc ?_
  rintro b q T4 hA4 hE4 h
  simp only [go_sem]
  replace h : sat (cU F f g b) _ := h
  unfold cU at h
  exact zaF
attribute [go_sem] bW
def aAA (F : Md) (f : qB) (b : qB) : Option Bool :=
 (bR F f.2.1 b.2.1 ()).bind (fun v_8 => (bZ F f.2.2.2.2.1 b.2.2.2.2.1 ()).bind (fun g => ck ((((v_8 = true) ∧ (g = true)) ∧ (f.1 = b.1)) → ((jY F f.2.2.1 b.2.2.1).isSome = true)) (ck (((((v_8 = true) ∧ (g = true)) ∧ (f.1 = b.1)) ∧ (((jY F f.2.2.1 b.2.2.1).getD false) = true)) → ((nM F f.2.2.2.1 b.2.2.2.1).isSome = true)) (some ((((v_8 && g) && (decide (f.1 = b.1))) && ((jY F f.2.2.1 b.2.2.1).getD false)) && ((nM F f.2.2.2.1 b.2.2.2.1).getD false))))))
def aGX : PlR := ⟨[(0, .B [2, 3]), (1, .A [2, 3, 5]), (2, .A [2, 3, 5, 6]), (3, .A [4])], [], []⟩
def aIr : Ty := .pair qD (.pair qD .unit)
def zD (F : Md) : aG := mSpec aIr (.one .bool) (fun x => aAA F x.1 x.2.1)
abbrev wA (F : Md) : List (FuncId × aG) := [(73, (bQ F)), (76, (bW F)), (78, (oX F)), (79, (qF F))]
theorem aQ4 [Mx] (F : Md) : bE Tryz.prog GL (wA F) := .cons (jA F) xAa (.cons (lF F) xAa (.cons (aGT F) xAa (.cons (aH0 F) xAa (.nil))))
attribute [go_sem] aIr aGX
theorem aPl [Mx] (F : Md) : FOK Tryz.prog GL 28 (zD F) := by
 refine bN (bC (aQ4 F)) mix Tryz.func28 rfl xAa xAb aGX (fun w0 S x Θ j h hV => ?_)
 obtain ⟨(f : qB), (b : qB), u⟩ := x
 simp only [bT, go_sem]
 replace h : sat (aAA F f b) _ := h
 unfold aAA at h
 refine aC h fun v_8 hv h => ?_
 try simp only [hv, go_sem]
 refine aC h fun g hv h => ?_
 try simp only [hv, go_sem]
 refine aN h fun g0 h => aN h fun g1 h => ?_
 exact zaD
attribute [go_sem] zD
def cW (F : Md) (f : w7) (g : w7) (b : Int) : Option ((Int) ⊕ ((Unit) ⊕ Bool)) :=
 if b < (f.length : Int) then ck (0 ≤ b ∧ b < (f.length : Int)) (ck (0 ≤ b ∧ b < (g.length : Int)) ((aAA F (f.getD (b.toNat) ([], [], [], [], [], ())) (g.getD (b.toNat) ([], [], [], [], [], ()))).bind (fun v_28 => if ¬ (v_28 = true) then some (.inr (.inr false)) else ck (I64 (b + (1 : Int))) (some (.inl (b + (1 : Int))))))) else some (.inr (.inl ()))
def aP (F : Md) (b : w7) (f : w7) (g : Unit) : Option Bool :=
 if ¬ ((b.length : Int) = (f.length : Int)) then some false else (dG F (fun d : Int => cW F b f d) (0 : Int)).bind (fun e => match e with | (.inl e) => some true | (.inr e) => some e)
def fF : PlR := ⟨[(0, .A [0, 1, 2]), (1, .A [0, 1, 2, 14]), (2, .A [6]), (3, .A [1, 2, 15, 16, 17]), (4, .A [1, 2, 15, 16, 17, 18]), (5, .B [1, 2, 7, 8, 15, 16, 17]), (6, .B [1, 2, 8, 9, 15, 16, 17]), (7, .A [1, 2, 15, 16, 17, 30]), (8, .A [6]), (9, .A [1, 2, 15, 16, 17]), (10, .A [6])], [], []⟩
def fG : Ty := .pair (.sl qD) (.pair (.sl qD) (.pair (.clo 28 .unit) .unit))
def cD (F : Md) : aG := mSpec fG (.one .bool) (fun x => aP F x.1 x.2.1 x.2.2.1)
abbrev fH (F : Md) : List (FuncId × aG) := [(28, (zD F))]
theorem mB [Mx] (F : Md) : bE Tryz.prog GL (fH F) := .cons (aPl F) xAa (.nil)
attribute [go_sem] fG fF
theorem lX [Mx] (F : Md) : FOK Tryz.prog GL 27 (cD F) := by
 refine bN (bC (mB F)) mix Tryz.func27 rfl xAa xAb fF (fun w0 S x Θ r h hV => ?_)
 obtain ⟨(f : w7), (g : w7), (j : Unit), u⟩ := x
 simp only [bT, go_sem]
 replace h : sat (aP F f g j) _ := h
 unfold aP at h
 refine cI h (fun hc h => ?_) fun hc h => ?_
 ·exact aH hV [.tmp 6] rfl rfl rfl (aA h) xAd
 ·refine bM hV (D := Int) [1, 2, 15, 16] (fun d => [(17, .val qc d)]) (fun d => []) h rfl xAc ?_
  rintro b q T4 hA4 hE4 h
  simp only [go_sem]
  replace h : sat (cW F f g b) _ := h
  unfold cW at h
  exact zaF
attribute [go_sem] cD
def mU (F : Md) (f : qe) (b : qe) : Option Bool :=
 ck (((((((((f.1 = b.1) ∧ (f.2.1 = b.2.1)) ∧ (f.2.2.1 = b.2.2.1)) ∧ (f.2.2.2.1 = b.2.2.2.1)) ∧ (f.2.2.2.2.1 = b.2.2.2.2.1)) ∧ (f.2.2.2.2.2.1 = b.2.2.2.2.2.1)) ∧ (f.2.2.2.2.2.2.1 = b.2.2.2.2.2.2.1)) ∧ (f.2.2.2.2.2.2.2.1 = b.2.2.2.2.2.2.2.1)) → ((aP F f.2.2.2.2.2.2.2.2.1 b.2.2.2.2.2.2.2.2.1 ()).isSome = true)) (ck ((((((((((f.1 = b.1) ∧ (f.2.1 = b.2.1)) ∧ (f.2.2.1 = b.2.2.1)) ∧ (f.2.2.2.1 = b.2.2.2.1)) ∧ (f.2.2.2.2.1 = b.2.2.2.2.1)) ∧ (f.2.2.2.2.2.1 = b.2.2.2.2.2.1)) ∧ (f.2.2.2.2.2.2.1 = b.2.2.2.2.2.2.1)) ∧ (f.2.2.2.2.2.2.2.1 = b.2.2.2.2.2.2.2.1)) ∧ (((aP F f.2.2.2.2.2.2.2.2.1 b.2.2.2.2.2.2.2.2.1 ()).getD false) = true)) → ((eI F f.2.2.2.2.2.2.2.2.2.1 b.2.2.2.2.2.2.2.2.2.1).isSome = true)) (some ((((((((((decide (f.1 = b.1)) && (decide (f.2.1 = b.2.1))) && (decide (f.2.2.1 = b.2.2.1))) && (decide (f.2.2.2.1 = b.2.2.2.1))) && (decide (f.2.2.2.2.1 = b.2.2.2.2.1))) && (decide (f.2.2.2.2.2.1 = b.2.2.2.2.2.1))) && (decide (f.2.2.2.2.2.2.1 = b.2.2.2.2.2.2.1))) && (decide (f.2.2.2.2.2.2.2.1 = b.2.2.2.2.2.2.2.1))) && ((aP F f.2.2.2.2.2.2.2.2.1 b.2.2.2.2.2.2.2.2.1 ()).getD false)) && ((eI F f.2.2.2.2.2.2.2.2.2.1 b.2.2.2.2.2.2.2.2.2.1).getD false))))
def aLh : PlR := ⟨[(0, .B [2, 3]), (1, .A [2, 3, 5]), (2, .A [4])], [], []⟩
def aNU : Ty := .pair qh (.pair qh .unit)
def wI (F : Md) : aG := mSpec aNU (.one .bool) (fun x => mU F x.1 x.2.1)
abbrev aH1 (F : Md) : List (FuncId × aG) := [(27, (cD F)), (29, (oE F))]
theorem aWq [Mx] (F : Md) : bE Tryz.prog GL (aH1 F) := .cons (lX F) xAa (.cons (aGd F) xAa (.nil))
attribute [go_sem] aNU aLh
theorem aLi [Mx] (F : Md) : FOK Tryz.prog GL 9 (wI F) := by
 refine bN (bC (aWq F)) mix Tryz.func9 rfl xAa xAb aLh (fun w0 S x Θ g h hV => ?_)
 obtain ⟨(f : qe), (b : qe), u⟩ := x
 simp only [bT, go_sem]
 replace h : sat (mU F f b) _ := h
 unfold mU at h
 refine aN h fun g0 h => aN h fun g1 h => ?_
 exact zaD
attribute [go_sem] wI
end
end Nu
end Go.Proofs
namespace Go.Proofs
open Go.Vc
set_option maxRecDepth 20000
namespace Nu
noncomputable section
set_option maxHeartbeats 4000000
attribute [-go_sem] Ex.kind Ex.text Ex.l
def wJ (F : Md) : Option qe :=
 some ((40 : Int), (4 : Int), (0 : Int), (1 : Int), (aV ⟨#[49]⟩), (aV ⟨#[48, 46, 53]⟩), (aV ⟨#[48, 46, 49, 50, 53]⟩), (aV ⟨#[49]⟩), ([((aV ⟨#[97]⟩), ([((aV ⟨#[120]⟩), ((aV ⟨#[49]⟩), ([] : List Nat), ()), (Ex.mk (2 : Int) (aV ⟨#[120]⟩) ([] : List Ex)), ())] : List q8), ([] : List wd), ([] : List qa), ([((aV ⟨#[121]⟩), (Ex.mk (2 : Int) (aV ⟨#[120]⟩) ([] : List Ex)), ())] : List qy), ())] : List qB), ([] : List qk), ())
def aJ2 : PlR := ⟨[(0, .B [0]), (1, .B [0, 1]), (2, .B [0])], [], []⟩
def aLj : Ty := .unit
def aBZ (F : Md) : aG := mSpec aLj (.one qh) (fun x => wJ F )
abbrev aT8 (F : Md) : List (FuncId × aG) := []
theorem aT9 [Mx] (F : Md) : bE Tryz.prog GL (aT8 F) := .nil
attribute [go_sem] aLj aJ2
theorem aTc [Mx] (F : Md) : FOK Tryz.prog GL 14 (aBZ F) := by
 refine bN (bC (aT9 F)) mix Tryz.func14 rfl xAa xAb aJ2 (fun w0 S x Θ b h hV => ?_)
 simp only [bT, go_sem]
 replace h : sat (wJ F) _ := h
 unfold wJ at h
 exact aH hV [.cell 0 27] rfl rfl rfl (aA h) xAd
attribute [go_sem] aBZ
end
end Nu
end Go.Proofs
namespace Go.Proofs
open Go.Vc
set_option maxRecDepth 20000
namespace Nu
noncomputable section
set_option maxHeartbeats 4000000
def aTd : ByteArray := ⟨⟨112 :: 114 :: 101 :: 99 :: 32 :: 52 :: 48 :: 10 :: 101 :: 110 :: 100 :: 32 :: 49 :: 10 :: 115 :: 116 :: 101 :: 112 :: 32 :: 48 :: 46 :: 53 :: 32 :: 48 :: 46 :: 49 :: 50 :: 53 :: 32 :: 35 :: 32 :: 102 :: 105 :: 110 :: 101 :: 10 :: 116 :: 111 :: 108 :: 32 :: 49 :: 10 :: 116 :: 114 :: 105 :: 101 :: 115 :: 32 :: 52 :: 10 :: 111 :: 114 :: 100 :: 101 :: 114 :: 32 :: 48 :: 10 :: 106 :: 97 :: 99 :: 111 :: 98 :: 105 :: 10 :: 10 :: 115 :: 117 :: 98 :: 32 :: 97 :: 10 :: 32 :: 115 :: 116 :: 97 :: 116 :: 101 :: 32 :: 120 :: 32 :: 61 :: 32 :: 49 :: 32 :: 100 :: 101 :: 114 :: 32 :: 120 :: 10 :: 111 :: 117 :: 116 :: 32 :: 121 :: 32 :: 61 :: 32 :: 120 :: 10 :: []⟩⟩
@[go_sem]theorem aUa : (⟨⟨112 :: 114 :: 101 :: 99 :: 32 :: 52 :: 48 :: 10 :: 101 :: 110 :: 100 :: 32 :: 49 :: 10 :: 115 :: 116 :: 101 :: 112 :: 32 :: 48 :: 46 :: 53 :: 32 :: 48 :: 46 :: 49 :: 50 :: 53 :: 32 :: 35 :: 32 :: 102 :: 105 :: 110 :: 101 :: 10 :: 116 :: 111 :: 108 :: 32 :: 49 :: 10 :: 116 :: 114 :: 105 :: 101 :: 115 :: 32 :: 52 :: 10 :: 111 :: 114 :: 100 :: 101 :: 114 :: 32 :: 48 :: 10 :: 106 :: 97 :: 99 :: 111 :: 98 :: 105 :: 10 :: 10 :: 115 :: 117 :: 98 :: 32 :: 97 :: 10 :: 32 :: 115 :: 116 :: 97 :: 116 :: 101 :: 32 :: 120 :: 32 :: 61 :: 32 :: 49 :: 32 :: 100 :: 101 :: 114 :: 32 :: 120 :: 10 :: 111 :: 117 :: 116 :: 32 :: 121 :: 32 :: 61 :: 32 :: 120 :: 10 :: []⟩⟩ : ByteArray) = aTd := rfl
attribute [-go_sem] Ex.kind Ex.text Ex.l
def aEj (F : Md) : Option Bool :=
 (jX F (aV ⟨#[49, 43, 120, 42, 50]⟩)).bind (fun b => (jX F (aV ⟨#[49, 32, 43, 32]⟩)).bind (fun g => (oD F (aV aTd)).bind (fun f => (oD F (aV ⟨#[112, 114, 101, 99, 32, 52, 48, 10, 101, 110, 100, 32, 120, 10]⟩)).bind (fun j => ck ((((b.2.2.1 = (0 : Int)) ∧ ((b.1.kind) = (6 : Int))) ∧ ((((b.1.l).length : Nat) : Int) = (2 : Int))) → ((1 : Int) < (((b.1.l).length : Nat) : Int))) (ck (((((((((b.2.2.1 = (0 : Int)) ∧ ((b.1.kind) = (6 : Int))) ∧ ((((b.1.l).length : Nat) : Int) = (2 : Int))) ∧ (((b.1.l).getD (1 : Nat) (Ex.mk 0 [] [])).kind = (8 : Int))) ∧ (g.2.1 = (4 : Int))) ∧ (g.2.2.1 = (6 : Int))) ∧ (f.2.2.1 = (0 : Int))) ∧ ((Ty.eqb wc f.2.1 ((0 : Int), (0 : Int), ())) = true)) → ((wJ F).isSome = true)) (ck (((((((((b.2.2.1 = (0 : Int)) ∧ ((b.1.kind) = (6 : Int))) ∧ ((((b.1.l).length : Nat) : Int) = (2 : Int))) ∧ (((b.1.l).getD (1 : Nat) (Ex.mk 0 [] [])).kind = (8 : Int))) ∧ (g.2.1 = (4 : Int))) ∧ (g.2.2.1 = (6 : Int))) ∧ (f.2.2.1 = (0 : Int))) ∧ ((Ty.eqb wc f.2.1 ((0 : Int), (0 : Int), ())) = true)) → ((mU F f.1 ((wJ F).getD ((0 : Int), (0 : Int), (0 : Int), (0 : Int), ([] : List Nat), ([] : List Nat), ([] : List Nat), ([] : List Nat), ([] : List qB), ([] : List qk), ()))).isSome = true)) (some (((((((((((decide (b.2.2.1 = (0 : Int))) && (decide ((b.1.kind) = (6 : Int)))) && (decide ((((b.1.l).length : Nat) : Int) = (2 : Int)))) && (decide (((b.1.l).getD (1 : Nat) (Ex.mk 0 [] [])).kind = (8 : Int)))) && (decide (g.2.1 = (4 : Int)))) && (decide (g.2.2.1 = (6 : Int)))) && (decide (f.2.2.1 = (0 : Int)))) && (Ty.eqb wc f.2.1 ((0 : Int), (0 : Int), ()))) && ((mU F f.1 ((wJ F).getD ((0 : Int), (0 : Int), (0 : Int), (0 : Int), ([] : List Nat), ([] : List Nat), ([] : List Nat), ([] : List Nat), ([] : List qB), ([] : List qk), ()))).getD false)) && (decide (j.2.2.1 = (6 : Int)))) && (Ty.eqb wc j.2.1 ((2 : Int), (1 : Int), ()))))))))))
def aLk : PlR := ⟨[(0, .A []), (1, .B [1, 3]), (2, .B [1, 3, 5, 6]), (3, .B [1, 3, 5, 6, 7, 8, 9]), (4, .B [1, 3, 5, 6, 7, 8, 9, 11, 12]), (5, .A [0])], [], []⟩
def aH2 : Ty := .unit
def aLl (F : Md) : aG := mSpec aH2 (.one .bool) (fun x => aEj F )
abbrev aB0 (F : Md) : List (FuncId × aG) := [(13, (wH F)), (14, (aBZ F)), (7, (uG F)), (9, (wI F))]
theorem aWr [Mx] (F : Md) : bE Tryz.prog GL (aB0 F) := .cons (aK5 F) xAa (.cons (aTc F) xAa (.cons (aJY F) xAa (.cons (aLi F) xAa (.nil))))
attribute [go_sem] aH2 aLk
theorem aUb [Mx] (F : Md) : FOK Tryz.prog GL 6 (aLl F) := by
 refine bN (bC (aWr F)) mix Tryz.func6 rfl xAa xAb aLk (fun w0 S x Θ s h hV => ?_)
 simp only [bT, go_sem]
 replace h : sat (aEj F) _ := h
 unfold aEj at h
 refine aC h fun j hv h => ?_
 try simp only [hv, go_sem]
 refine aC h fun f hv h => ?_
 try simp only [hv, go_sem]
 refine aC h fun g hv h => ?_
 try simp only [hv, go_sem]
 refine aC h fun b hv h => ?_
 try simp only [hv, go_sem]
 refine aD h fun g0 h => ?_
 refine aD h fun g1 h => ?_
 refine aD h fun q h => ?_
 repeat (refine ⟨by first | with_reducible assumption | omega | (intros; first | with_reducible assumption | omega) | (intro _; exact ⟨rfl, by decide⟩) | (intro _; refine (?_ : _ = aK _); rfl) | (refine (?_ : _ = aK _); rfl) | exact ⟨rfl, rfl⟩ | (intro q0; (try have e0 := g0 zAG); (try have e1 := g1 zAG); (try have r := q zAG); first | assumption | omega) | decide, ?_⟩)
 exact aH hV [.tmp 0] rfl rfl rfl (aA h) xAd
attribute [go_sem] aLl
end
end Nu
end Go.Proofs
namespace Go.Proofs
open Go.Vc
set_option maxRecDepth 20000
namespace Nu
noncomputable section
theorem bG1 [Mx] : aEj (some 1000) = some true := by kernel_rfl
def aB1 : Bool := true
def aCQ : aG := ⟨aH2, .one .bool, fun _ => True, fun _ => aB1⟩
attribute [go_sem] aCQ
theorem aUc [Mx] [Mx] : FOK Tryz.prog GL 6 aCQ := iW (aUb (some 1000)) (fun _ _ _ => bG1)
end
end Nu
end Go.Proofs
namespace Go.Proofs
open Go.Vc
set_option maxRecDepth 20000
namespace Nu
noncomputable section
set_option maxHeartbeats 4000000
def aH3 : ByteArray := ⟨⟨112 :: 114 :: 101 :: 99 :: 32 :: 52 :: 48 :: 10 :: 101 :: 110 :: 100 :: 32 :: 49 :: 10 :: 115 :: 116 :: 101 :: 112 :: 32 :: 48 :: 46 :: 53 :: 32 :: 48 :: 46 :: 49 :: 50 :: 53 :: 10 :: 116 :: 111 :: 108 :: 32 :: 49 :: 10 :: 116 :: 114 :: 105 :: 101 :: 115 :: 32 :: 52 :: 10 :: 111 :: 114 :: 100 :: 101 :: 114 :: 32 :: 48 :: 10 :: 115 :: 101 :: 105 :: 100 :: 101 :: 108 :: 10 :: []⟩⟩
@[go_sem]theorem aUd : (⟨⟨112 :: 114 :: 101 :: 99 :: 32 :: 52 :: 48 :: 10 :: 101 :: 110 :: 100 :: 32 :: 49 :: 10 :: 115 :: 116 :: 101 :: 112 :: 32 :: 48 :: 46 :: 53 :: 32 :: 48 :: 46 :: 49 :: 50 :: 53 :: 10 :: 116 :: 111 :: 108 :: 32 :: 49 :: 10 :: 116 :: 114 :: 105 :: 101 :: 115 :: 32 :: 52 :: 10 :: 111 :: 114 :: 100 :: 101 :: 114 :: 32 :: 48 :: 10 :: 115 :: 101 :: 105 :: 100 :: 101 :: 108 :: 10 :: []⟩⟩ : ByteArray) = aH3 := rfl
attribute [-go_sem] Ex.kind Ex.text Ex.l
def kI (F : Md) (f : Int) (lines_0 : qx) (g : qa) : Option (Bool) :=
 (oD F g).bind (fun b => if b.2.2.1 = (0 : Int) then ck (((aB1 = true) ∧ ((Ty.eqb wc b.2.1 ((0 : Int), (0 : Int), ())) = true)) → ((nD F b.1).isSome = true)) (some ((aB1 && (Ty.eqb wc b.2.1 ((0 : Int), (0 : Int), ()))) && ((nD F b.1).getD false))) else ck (¬ (¬ (b.2.2.1 = (6 : Int))) → ((mU F b.1 ((0 : Int), (0 : Int), (0 : Int), (0 : Int), ([] : List Nat), ([] : List Nat), ([] : List Nat), ([] : List Nat), ([] : List qB), ([] : List qk), ())).isSome = true)) (if (¬ (b.2.2.1 = (6 : Int))) ∨ (¬ (((mU F b.1 ((0 : Int), (0 : Int), (0 : Int), (0 : Int), ([] : List Nat), ([] : List Nat), ([] : List Nat), ([] : List Nat), ([] : List qB), ([] : List qk), ())).getD false) = true)) then some false else ck ((aB1 = true) → ¬ ((Ty.eqb wc b.2.1 ((0 : Int), (0 : Int), ())) = true) → ((1 : Int) ≤ b.2.1.1) → (I64 (f + (lines_0.length : Int)))) (ck ((aB1 = true) → ¬ ((Ty.eqb wc b.2.1 ((0 : Int), (0 : Int), ())) = true) → ((1 : Int) ≤ b.2.1.1) → (I64 ((f + (lines_0.length : Int)) + (1 : Int)))) (some (aB1 && ((Ty.eqb wc b.2.1 ((0 : Int), (0 : Int), ())) || ((((decide ((1 : Int) ≤ b.2.1.1)) && (decide (b.2.1.1 ≤ ((f + (lines_0.length : Int)) + (1 : Int))))) && (decide ((1 : Int) ≤ b.2.1.2.1))) && (decide (b.2.1.2.1 ≤ (91 : Int))))))))))
def mY (F : Md) (b : Int) (lines_0 : qx) (f : qa) : Option (vE ⊕ (qa ⊕ Bool)) :=
 ck (0 ≤ b ∧ b < (lines_0.length : Int)) (ck ((f.length) + (lines_0.getD (b.toNat) ([] : List Nat)).length ≤ 9223372036854775807) (ck ((f ++ (lines_0.getD (b.toNat) ([] : List Nat))).length + (aV ⟨#[10]⟩).length ≤ 9223372036854775807) (ck (I64 (b + (1 : Int))) (some (.inl (((f ++ (lines_0.getD (b.toNat) ([] : List Nat))) ++ (aV ⟨#[10]⟩)), (b + (1 : Int))))))))
def oQ (F : Md) (b : Int) (lines_0 : qx) (f : Int) : Option ((Int) ⊕ ((Unit) ⊕ Bool)) :=
 ck (0 ≤ b ∧ b < (lines_0.length : Int)) (if f < (((lines_0.getD (b.toNat) ([] : List Nat)).length : Nat) : Int) then ck (0 ≤ b ∧ b < (lines_0.length : Int)) (ck (0 ≤ f ∧ f < (((lines_0.getD (b.toNat) ([] : List Nat)).length : Nat) : Int)) (if ((lines_0.getD (b.toNat) ([] : List Nat)).getD (f.toNat) (0 : Nat)) = (10 : Nat) then some (.inr (.inr aB1)) else ck (I64 (f + (1 : Int))) (some (.inl (f + (1 : Int)))))) else some (.inr (.inl ())))
def pR (F : Md) (lines_0 : qx) (f : qa) (b : Int) : Option (vE ⊕ (qa ⊕ Bool)) :=
 if b < (lines_0.length : Int) then ck (0 ≤ b ∧ b < (lines_0.length : Int)) (if (80 : Int) < (((lines_0.getD (b.toNat) ([] : List Nat)).length : Nat) : Int) then some (.inr (.inr aB1)) else (dG F (fun d : Int => oQ F b lines_0 d) (0 : Int)).bind (fun e => match e with | (.inl e) => mY F b lines_0 f | (.inr e) => some (.inr (.inr e)))) else some (.inr (.inl f))
def kJ (F : Md) (lines_0 : qx) (f : qa) (b : Int) : Option (Bool) :=
 (dG F (fun d : qa × Int => pR F lines_0 d.1 d.2) (f, (0 : Int))).bind (fun e => match e with | (.inl e) => kI F b lines_0 e | (.inr e) => some e)
def rB (F : Md) (lines_0 : qx) (front_1 : Bool) : Option Bool :=
 if (40 : Int) < (lines_0.length : Int) then some aB1 else if front_1 = true then kJ F lines_0 (aV aH3) (7 : Int) else kJ F lines_0 (aV ⟨#[]⟩) (0 : Int)
def aFP : PlR := ⟨[(0, .A [0, 1]), (1, .A [0, 1, 14]), (2, .A [4]), (3, .A [0, 1, 5, 6]), (4, .A [0, 5, 6, 16]), (5, .A [0, 5, 6]), (6, .A [0, 5, 6, 7]), (7, .A [0, 5, 6, 7, 20]), (8, .A [0, 5, 6, 7]), (9, .A [0, 5, 6, 7, 28]), (10, .A [4]), (11, .A [0, 5, 6, 7, 8]), (12, .A [0, 5, 6, 7, 8, 36]), (13, .A [0, 5, 6, 7, 8]), (14, .A [0, 5, 6, 7, 8, 45]), (15, .A [4]), (16, .A [0, 5, 6, 7]), (17, .B [0, 6, 9, 10, 11]), (18, .A [0, 6, 9, 10, 11, 61]), (19, .A [4]), (20, .A [0, 6, 10, 79]), (21, .A [4]), (22, .A [4])], [(7, 9), (9, 20), (14, 19)], []⟩
def zE : Ty := .pair wi ww
def aFQ (F : Md) : aG := mSpec zE (.one .bool) (fun x => rB F x.1 x.2.1)
abbrev uH (F : Md) : List (FuncId × aG) := [(6, aCQ), (7, (uG F)), (8, (yZ F)), (9, (wI F))]
theorem aPm [Mx] (F : Md) : bE Tryz.prog GL (uH F) := .cons aUc xAa (.cons (aJY F) xAa (.cons (aNS F) xAa (.cons (aLi F) xAa (.nil))))
attribute [go_sem] zE aFP
theorem aNV [Mx] (F : Md) : FOK Tryz.prog GL 3 (aFQ F) := by
 refine bN (bC (aPm F)) mix Tryz.func3 rfl xAa xAb aFP (fun w0 S x Θ Z h hV => ?_)
 obtain ⟨(lines_0 : qx), (front_1 : Bool), u⟩ := x
 simp only [bT, go_sem]
 replace h : sat (rB F lines_0 front_1) _ := h
 unfold rB at h
 refine dY h (fun hc h => ?_) fun hc h => ?_
 ·exact aH hV [.tmp 4] rfl rfl rfl (aA h) xAd
 ·refine cX hV (D := qa × Int) (fun d => sat (kJ F lines_0 d.1 d.2) Θ) [0] (fun d => [(5, .val .str d.1), (6, .val qc d.2)]) (fun d => []) ?_ ?_
  ·simp only [go_sem]
   refine aGq h (fun hc h => ?_) fun hc h => ?_
   ·exact aU ((aV aH3), (7 : Int)) h rfl xAc
   ·exact aU ((aV ⟨#[]⟩), (0 : Int)) h rfl xAc
  ·rintro ⟨L, r⟩ h
   simp only [go_sem]
   replace h : sat (kJ F lines_0 L r) _ := h
   unfold kJ at h
   refine cX hV (D := qa) (fun d => sat (kI F r lines_0 d) Θ) [0, 6] (fun d => [(5, .val .str d)]) (fun d => []) ?_ ?_
   ·simp only [go_sem]
    refine bM hV (D := qa × Int) [0, 6] (fun d => [(5, .val .str d.1), (7, .val qc d.2)]) (fun d => []) h rfl xAc ?_
    rintro ⟨f, b⟩ A7 W N s h
    simp only [go_sem]
    replace h : sat (pR F lines_0 f b) _ := h
    unfold pR at h
    refine dY h (fun hc h => ?_) fun hc h => ?_
    ·refine aD h fun g0 h => (yaE ?_)
     refine dY h (fun hc h => ?_) fun hc h => ?_
     ·replace h := yaG (s _ (aA h))
      exact zaD
     ·refine cX hV (D := Unit) (fun d => sat (mY F b lines_0 f) W) [0, 5, 6, 7] (fun d => []) (fun d => []) ?_ ?_
      ·simp only [go_sem]
       refine bM hV (D := Int) [0, 5, 6, 7] (fun d => [(8, .val qc d)]) (fun d => []) h rfl xAc ?_
       rintro J U Y I q h
       simp only [go_sem]
       replace h : sat (oQ F b lines_0 J) _ := h
       unfold oQ at h
       refine aD h fun g0 h => (yaE ?_)
       refine dY h (fun hc h => ?_) fun hc h => ?_
       ·refine aD h fun g0 h => ?_
        refine aD h fun g1 h => (yaE ?_)
        refine cI h (fun hc h => ?_) fun hc h => ?_
        ·replace h := yaG (q _ (aA h))
         replace h := yaG (s _ (aA h))
         exact zaD
        ·refine aD h fun g0 h => ?_
         try simp only [I64, I32] at g0
         repeat (refine ⟨zAB, ?_⟩)
         replace h := I _ (aA h)
         exact zaJ
       ·replace h := yaG (q _ (aA h))
        exact aU () h rfl xAc
      ·rintro u h
       simp only [go_sem]
       replace h : sat (mY F b lines_0 f) _ := h
       unfold mY at h
       refine aD h fun g0 h => ?_
       refine aD h fun g1 h => ?_
       refine aD h fun g2 h => (yaE ?_)
       refine aD h fun g0 h => ?_
       try simp only [I64, I32] at g0
       repeat (refine ⟨zAB, ?_⟩)
       replace h := N _ (aA h)
       exact zaJ
    ·replace h := yaG (s _ (aA h))
     exact aU (f) h rfl xAc
   ·rintro z h
    simp only [go_sem]
    replace h : sat (kI F r lines_0 z) _ := h
    unfold kI at h
    refine aC h fun O hv h => ?_
    try simp only [hv, go_sem]
    refine cI h (fun hc h => ?_) fun hc h => ?_
    ·refine aD h fun g0 h => ?_
     repeat (refine ⟨zAF, ?_⟩)
     exact aH hV [.tmp 4] rfl rfl rfl (aA h) (by (simp only [aR, go_sem]) <;> first | rfl | (simp; done))
    ·refine aD h fun g0 h => ?_
     repeat (refine ⟨zAF, ?_⟩)
     refine ⟨fun hc => ?_, fun hc => ?_⟩
     ·replace h := gB zAC h
      exact zaD
     ·replace h := gC zAC h
      refine aD h fun g0 h => ?_
      refine aD h fun g1 h => ?_
      try simp only [I64, I32] at g0
      try simp only [I64, I32] at g1
      repeat (refine ⟨by first | with_reducible assumption | omega | (intros; first | with_reducible assumption | omega) | (intro _; exact ⟨rfl, by decide⟩) | (intro _; refine (?_ : _ = aK _); rfl) | (refine (?_ : _ = aK _); rfl) | exact ⟨rfl, rfl⟩ | (intro q0 j g; (try have e0 := g0 zAG (by first | exact j | omega | (simpa using j)) (by first | exact g | omega | (simpa using g))); (try have e1 := g1 zAG (by first | exact j | omega | (simpa using j)) (by first | exact g | omega | (simpa using g))); first | assumption | omega) | (rintro ⟨q0, j, g⟩; (try have e0 := g0 zAG (by first | exact j | omega | (simpa using j)) (by first | exact g | omega | (simpa using g))); (try have e1 := g1 zAG (by first | exact j | omega | (simpa using j)) (by first | exact g | omega | (simpa using g))); first | assumption | omega) | (rintro ⟨⟨q0, j⟩, g⟩; (try have e0 := g0 zAG (by first | exact j | omega | (simpa using j)) (by first | exact g | omega | (simpa using g))); (try have e1 := g1 zAG (by first | exact j | omega | (simpa using j)) (by first | exact g | omega | (simpa using g))); first | assumption | omega) | decide, ?_⟩)
      exact zaD
attribute [go_sem] aFQ
end
end Nu
end Go.Proofs
namespace Go.Proofs
open Go.Vc
set_option maxRecDepth 20000
namespace Nu
def zS (c : Nat) : Bool := decide (48 ≤ c ∧ c ≤ 57)
def dD (s : List Nat) (i : Nat) : Nat := ((s.drop i).takeWhile zS).length
theorem bGg {p : Nat → Bool} : ∀ (l : List Nat) (n : Nat), n ≤ (l.takeWhile p).length → (n < (l.takeWhile p).length ↔ n < l.length ∧ p (l.getD n 0) = true)
 | [], n, h => by simp
 | x :: r, n, h => by
  by_cases hp : p x = true
  ·rw [List.takeWhile_cons_of_pos hp] at h ⊢
   cases n with
   | zero => simp [hp]
   | succ n =>
    have := bGg (p := p) r n (by simp_all)
    simp_all
  simp_all
theorem aB2 (s : List Nat) (i : Nat) : dD s i ≤ s.length - i := by
 have := (List.takeWhile_prefix (p := zS) (l := s.drop i)).length_le
 rw [List.length_drop] at this
 exact this
theorem zF (s : List Nat) (i : Nat) (hs : s.length ≤ 4611686018427387904) (hi : i ≤ 4611686018427387904) : mJ none s (i : Int) = some (dD s i : Int) := by
 have hd := aB2 s i
 unfold mJ
 refine bP (aBq (step := fun d : Int => pI none (i : Int) s d) (I := fun n => 0 ≤ n ∧ n ≤ dD s i) (fun n => ((dD s i : Int) - n).toNat) (fun _ => (dD s i : Int)) ?_ 0 ⟨by omega, by omega⟩) rfl
 rintro n ⟨f, r⟩
 obtain ⟨k, rfl⟩ := Int.eq_ofNat_of_zero_le f
 show (∃ d', pI none (i : Int) s k = _ ∧ _) ∨ pI none (i : Int) s k = _
 have e : ((i : Int) + (k : Int)).toNat = i + k := by omega
 have b : s.getD (i + k) 0 = (s.drop i).getD k 0 := by simp_all
 have ht := bGg (p := zS) (s.drop i) k (by grind [dD])
 have ht : k < dD s i ↔ i + k < s.length ∧ 48 ≤ s.getD (i + k) 0 ∧ s.getD (i + k) 0 ≤ 57 := by
  rw [b]
  refine ht.trans ?_
  rw [List.length_drop, zS, decide_eq_true_iff]
  omega
 unfold pI
 rw [e]
 by_cases q : k < dD s i
 ·left
  obtain ⟨z, j, g⟩ := ht.1 q
  refine ⟨(k : Int) + 1, ?_, ⟨by omega, by omega⟩, by omega, rfl⟩
  refine aF (by omega) (aF (fun _ => by omega) (aF (fun _ => by omega) (aF (fun _ => by omega) (aF (fun _ => by omega) ?_))))
  rw [if_pos ⟨⟨by omega, j⟩, g⟩]
  exact aF (by omega) rfl
 ·right
  refine aF (by omega) (aF (fun _ => by omega) (aF (fun _ => by omega) (aF (fun _ => by omega) (aF (fun _ => by omega) ?_))))
  grind
theorem bHC {a b : Nat} (f : a < 256) (hb : b ≤ a) : uI none .u8 a b = a - b := by
 have hm : lC .u8 = 256 := by rfl
 grind [bAi, aJ7, Nat.add_mod_right, Nat.mod_eq_of_lt]
def vO (s : List Nat) : Nat := s.foldl (fun m c => m * 10 + (c - 48)) 0
theorem aUS (s : List Nat) (c : Nat) : vO (s ++ [c]) = vO s * 10 + (c - 48) := by simp [vO]
theorem aUT : ∀ (s : List Nat) (m : Nat), (∀ c ∈ s, zS c = true) → s.foldl (fun m c => m * 10 + (c - 48)) m < (m + 1) * 10 ^ s.length
 | [], m, _ => by simp
 | x :: r, m, h => by
  have f := h x (by simp)
  simp only [zS, decide_eq_true_iff] at f
  have b := aUT r (m * 10 + (x - 48)) (fun c hc => h c (by simp [hc]))
  rw [List.foldl_cons, List.length_cons, Nat.pow_succ, Nat.mul_comm (10 ^ r.length) 10, ← Nat.mul_assoc]
  exact Nat.lt_of_lt_of_le b (Nat.mul_le_mul_right _ (by omega))
theorem aKp {s : List Nat} (h : ∀ c ∈ s, zS c = true) : vO s < 10 ^ s.length := by
 have := aUT s 0 h
 rw [Nat.zero_add, Nat.one_mul] at this
 exact this
theorem bDE {k : Nat} (h : k ≤ 18) : 10 ^ k ≤ 1000000000000000000 := Nat.pow_le_pow_right (n := 10) xAb h
theorem aWs (s : List Nat) (hd : ∀ c ∈ s, zS c = true) (h0 : 0 < s.length) (N : s.length ≤ 18) : kX none s = some ((vO s : Int), (), ()) := by
 have b : ∀ k, k < s.length → 48 ≤ s.getD k 0 ∧ s.getD k 0 ≤ 57 := fun k g => by
  have J : s.getD k 0 ∈ s := by simp_all
  simp_all [zS, decide_eq_true_iff]
 have q : ∀ k, vO (s.take k) < 1000000000000000000 ∨ k > s.length := fun k => by
  rcases Nat.lt_or_ge s.length k with h | h
  all_goals grind [aKp, List.mem_of_mem_take, bDE, List.length_take]
 have z : lJ none s s = some ((vO s : Int), (), ()) := by
  unfold lJ
  refine bP (aBq (step := fun d : Int × Int => kG none s d.1 d.2) (I := fun d => 0 ≤ d.2 ∧ d.2 ≤ s.length ∧ d.1 = (vO (s.take d.2.toNat) : Int)) (fun d => ((s.length : Int) - d.2).toNat) (fun _ => .inl (vO s : Int)) ?_ (0, 0) ⟨by simp, by simp, by rfl⟩) ?_
  ·rintro ⟨n, i⟩ ⟨i0, i1, j⟩
   have i0 : 0 ≤ i := i0
   have i1 : i ≤ s.length := i1
   have j : n = (vO (s.take i.toNat) : Int) := j
   show (∃ d', kG none s n i = _ ∧ _) ∨ kG none s n i = _
   unfold kG
   by_cases hi : i < s.length
   ·left
    have g : i.toNat < s.length := by omega
    obtain ⟨c1, r⟩ := b _ g
    have f : uI none .u8 (s.getD i.toNat 0) 48 = s.getD i.toNat 0 - 48 := bHC (by omega) c1
    have hb : vO (s.take (i.toNat + 1)) = vO (s.take i.toNat) * 10 + (s.getD i.toNat 0 - 48) := by rw [take_succ g, aUS]
    have O := q (i.toNat + 1)
    refine ⟨((vO (s.take (i + 1).toNat) : Int), i + 1), ?_, ⟨by omega, by omega, rfl⟩, by omega, rfl⟩
    rw [if_pos hi, f, show (i + 1).toNat = i.toNat + 1 from by omega, hb]
    refine aF (by omega) ?_
    rw [if_neg (by omega), j]
    refine aF (by omega) (aF (by omega) (aF (by omega) ?_))
    congr 3
   simp_all [if_neg, List.take_of_length_le]
  ·unfold rM
   obtain ⟨c1, r⟩ := b 0 h0
   refine aF (by omega) ?_
   grind
 have L : sN none s = some ((vO s : Int), (), ()) := by
  unfold sN
  obtain ⟨c1, r⟩ := b 0 h0
  rw [if_pos (.inr ⟨trivial, by omega, by omega⟩)]
  refine aF (by omega) (aF (fun _ => by omega) ?_)
  grind
 unfold kX
 simp_all
theorem aNW (s : List Nat) (i : Nat) : ∀ c ∈ (s.drop i).take (dD s i), zS c = true := by
 intro c hc
 have h : (s.drop i).take (dD s i) = (s.drop i).takeWhile zS := by
  have := List.prefix_iff_eq_take.1 (List.takeWhile_prefix (p := zS) (l := s.drop i))
  exact this.symm
 grind [List.all_eq_true, List.all_takeWhile]
abbrev bDF : Type := List Nat × Int × Bool × Unit
def litNo : bDF := ([], 0, false, ())
def oZ (s : List Nat) (i : Nat) (c : Nat) : Prop := i < s.length ∧ s.getD i 0 = c
instance (s : List Nat) (i c : Nat) : Decidable (oZ s i c) := inferInstanceAs (Decidable (_ ∧ _))
def aTg (s : List Nat) (i : Nat) (all : List Nat) (b : Int) (f : Bool) : bDF :=
 if dD s i < 1 ∨ 3 < dD s i then litNo
 else if 100 < vO ((s.drop i).take (dD s i)) then litNo
 else (all, b + (if f then -(vO ((s.drop i).take (dD s i)) : Int) else vO ((s.drop i).take (dD s i))), decide (i + dD s i = s.length), ())
def bBE (s : List Nat) (i : Nat) (all : List Nat) (b : Int) : bDF :=
 if oZ s i 101 then aTg s (if oZ s (i + 1) 45 ∨ oZ s (i + 1) 43 then i + 2 else i + 1) all b (decide (oZ s (i + 1) 45))
 else (all, b, decide (i = s.length), ())
def qG (s : List Nat) : bDF :=
 if 60 < s.length ∨ dD s 0 = 0 then litNo
 else if oZ s (dD s 0) 46 then
  if dD s (dD s 0 + 1) = 0 then litNo
  else bBE s (dD s 0 + 1 + dD s (dD s 0 + 1)) (s.take (dD s 0) ++ (s.drop (dD s 0 + 1)).take (dD s (dD s 0 + 1))) (-(dD s (dD s 0 + 1) : Int))
 else bBE s (dD s 0) (s.take (dD s 0)) 0
theorem bDG (s : List Nat) (i : Nat) : s.getD (i : Int).toNat 0 = s.getD i 0 := by rfl
theorem bDH (s : List Nat) (k : Nat) (all : List Nat) (b x : Int) (hs : s.length ≤ 60) (f : k ≤ 100) (hp : -100 ≤ b ∧ b ≤ 100) (g : -100 ≤ x ∧ x ≤ 100) : nR none b (k : Int) (dD s k : Int) all s x = some (all, b + x, decide (k + dD s k = s.length), ()) := by
 have hd := aB2 s k
 unfold nR
 refine aF (by omega) (aF (by omega) ?_)
 unfold nQ
 have : decide ((k : Int) + (dD s k : Int) = (s.length : Int)) = decide (k + dD s k = s.length) := decide_eq_decide.2 (by omega)
 rw [this]
theorem bDI (s : List Nat) (i k : Nat) (all : List Nat) (b : Int) (hs : s.length ≤ 60) (hi : i ≤ 60) (z : k ≤ 100) (hp : -100 ≤ b ∧ b ≤ 100) : nS none s (i : Int) b all (k : Int) = some (aTg s k all b (decide (oZ s (i + 1) 45))) := by
 have hd := aB2 s k
 unfold nS aTg
 refine bP (zF s k (by omega) (by omega)) ?_
 by_cases q : dD s k < 1 ∨ 3 < dD s k
 ·rw [if_pos (by omega), if_pos q]; rfl
 ·rw [if_neg (by omega), if_neg q]
  have ht : List.drop (k : Int).toNat (List.take ((k : Int) + (dD s k : Int)).toNat s) = (s.drop k).take (dD s k) := by
   grind [List.drop_take, Int.toNat_natCast]
  have I : ((s.drop k).take (dD s k)).length = dD s k := by simp_all
  have r := aWs _ (aNW s k) (by omega) (by omega)
  simp only [ht]
  refine aF (by omega) (aF (by omega) (bP r ?_))
  by_cases j : 100 < vO ((s.drop k).take (dD s k))
  ·rw [if_pos (by omega), if_pos j]; rfl
  ·rw [if_neg (by omega), if_neg j]
   have e : ((i : Int) + 1).toNat = i + 1 := by omega
   rw [e]
   by_cases g : oZ s (i + 1) 45
   ·have f : i + 1 < s.length ∧ s.getD (i + 1) 0 = 45 := g
    rw [if_pos ⟨by omega, f.2⟩, decide_eq_true g]
    refine aF (by omega) ?_
    grind [vO, dD, bDH]
   ·have f : ¬ (i + 1 < s.length ∧ s.getD (i + 1) 0 = 45) := g
    rw [if_neg (fun h => f ⟨by omega, h.2⟩), decide_eq_false g]
    grind [bDH]
theorem bDJ (s : List Nat) (i : Nat) (all : List Nat) (b : Int) (hs : s.length ≤ 60) (hi : i ≤ 60) (hp : -100 ≤ b ∧ b ≤ 100) : nT none s (i : Int) all b = some (bBE s i all b) := by
 unfold nT bBE
 have e : ((i : Int) + 1).toNat = i + 1 := by omega
 rw [bDG, e]
 refine aF (fun _ => by omega) ?_
 by_cases h : oZ s i 101
 ·have h' : i < s.length ∧ s.getD i 0 = 101 := h
  rw [if_pos ⟨by omega, h'.2⟩, if_pos h]
  refine aF (by omega) (aF (fun _ => by omega) (aF (fun _ _ => by omega) ?_))
  by_cases g : oZ s (i + 1) 45 ∨ oZ s (i + 1) 43
  ·have f : (i + 1 < s.length ∧ s.getD (i + 1) 0 = 45) ∨ (i + 1 < s.length ∧ s.getD (i + 1) 0 = 43) := g
   rw [if_pos (by omega), if_pos g]
   refine aF (by omega) ?_
   have := bDI s i (i + 2) all b hs hi (by omega) hp
   grind
  ·have f : ¬ ((i + 1 < s.length ∧ s.getD (i + 1) 0 = 45) ∨ (i + 1 < s.length ∧ s.getD (i + 1) 0 = 43)) := g
   rw [if_neg (fun h => f (by omega)), if_neg g]
   grind [bDI]
 ·have h' : ¬ (i < s.length ∧ s.getD i 0 = 101) := h
  rw [if_neg (fun h => h' ⟨by omega, h.2⟩), if_neg h]
  unfold nQ
  have : decide ((i : Int) = (s.length : Int)) = decide (i = s.length) := decide_eq_decide.2 (by omega)
  rw [this]
theorem aZs (s : List Nat) (hs : s.length ≤ 4611686018427387904) : qS none s = some (qG s) := by
 have I := aB2 s 0
 have r := aB2 s (dD s 0 + 1)
 unfold qS qG
 have e0 := zF s 0 hs (by omega)
 rw [show ((0 : Nat) : Int) = 0 from rfl] at e0
 refine bP e0 (aF (by omega) ?_)
 by_cases j : 60 < s.length ∨ dD s 0 = 0
 ·rw [if_pos (by omega), if_pos j]; rfl
 ·rw [if_neg (by omega), if_neg j]
  rw [bDG]
  refine aF (fun _ => by omega) ?_
  by_cases f : oZ s (dD s 0) 46
  ·have b : dD s 0 < s.length ∧ s.getD (dD s 0) 0 = 46 := f
   rw [if_pos ⟨by omega, b.2⟩, if_pos f]
   have e1 := zF s (dD s 0 + 1) hs (by omega)
   rw [show ((dD s 0 + 1 : Nat) : Int) = (dD s 0 : Int) + 1 from by omega] at e1
   refine aF (by omega) (bP e1 ?_)
   by_cases g : dD s (dD s 0 + 1) = 0
   ·rw [if_pos (by omega), if_pos g]; rfl
   ·rw [if_neg (by omega), if_neg g]
    have ht : List.drop ((dD s 0 : Int) + 1).toNat (List.take ((dD s 0 : Int) + 1 + (dD s (dD s 0 + 1) : Int)).toNat s) = (s.drop (dD s 0 + 1)).take (dD s (dD s 0 + 1)) := by
     grind [List.drop_take, dD]
    simp only [ht, Int.toNat_natCast]
    have z : (s.take (dD s 0)).length ≤ 60 := by grind
    have q : ((s.drop (dD s 0 + 1)).take (dD s (dD s 0 + 1))).length ≤ 60 := by grind
    refine aF (by omega) (aF (by omega) (aF (by omega) (aF (by omega) (aF (by omega) (aF (by omega) (aF (by omega) (aF (by omega) ?_)))))))
    grind [bDJ, dD]
  ·have b : ¬ (dD s 0 < s.length ∧ s.getD (dD s 0) 0 = 46) := f
   rw [if_neg (fun h => b ⟨by omega, h.2⟩), if_neg f]
   grind [Int.toNat_natCast, bDJ, dD]
end Nu
end Go.Proofs
namespace Go.Proofs
open Go.Vc
set_option maxRecDepth 20000
namespace Nu
theorem p2m (n m : Nat) (h : n ≤ m) : 2 ^ n ≤ 2 ^ m := Nat.pow_le_pow_right xAb h
theorem aYe (m : Nat) {x n : Nat} (h : x < 2 ^ n) (b : n ≤ m) : x < 2 ^ m := Nat.lt_of_lt_of_le h (p2m n m b)
theorem aTh (m : Nat) {x n : Nat} (h : x ≤ 2 ^ n) (b : n < m) : x < 2 ^ m := Nat.lt_of_le_of_lt h (Nat.pow_lt_pow_right xAb b)
theorem bGh (k : Nat) {x n : Nat} (h : x < 2 ^ n) (b : n ≤ 64 * k) : x < 18446744073709551616 ^ k := by grind [aHp, aYe]
abbrev Dy : Type := Bool × List Nat × Int × Unit
def d0 : Dy := (false, [], 0, ())
def aPn (d : Dy) : Bool :=
 if d.2.1.length = 0 then !d.1 && decide (d.2.2.1 = 0)
 else decide (d.2.1.length ≤ 64 ∧ Nrm d.2.1) && decide (d.2.1.getD 0 0 % 2 = 1) && decide (-1048576 ≤ d.2.2.1) && decide (d.2.2.1 ≤ 1048576)
theorem and_one (x : Nat) : x &&& 1 = x % 2 := Nat.and_two_pow_sub_one_eq_mod x 1
theorem aPo (d : Dy) : mI none d = some (aPn d) := by
 unfold mI aPn
 by_cases h : d.2.1.length = 0
 ·simp_all
 ·rw [if_neg (by omega), if_neg h]
  refine aF (fun _ => by omega) ?_
  rw [and_one]
  rfl
theorem aTi (e : Int) : lS none false e = some (.inr (e, ())) := rfl
theorem aRk {b : Bool} {e : Int} (h : b = true) : lS none b e = some (.inl ()) := by rw [h]; rfl
theorem aNX {b : Bool} {e : Int} (h : b = false) : lS none b e = some (.inr (e, ())) := by rw [h]; rfl
def aUe (b : Bool) (m : Nat) (e : Int) : Dy ⊕ qn :=
 if m = 0 then .inl d0
 else if 64 < (lb (m / 2 ^ tzn m)).length then .inr (2, ())
 else if ¬ (e ≤ 1048576 ∧ -1048576 - (tzn m : Int) ≤ e) then .inr (3, ())
 else if 1048576 < e + (tzn m : Int) then .inr (3, ())
 else .inl (b, lb (m / 2 ^ tzn m), e + (tzn m : Int), ())
theorem bG2 {m k : Nat} (h0 : m ≠ 0) (h : m < 18446744073709551616 ^ k) : tzn m < 64 * k := by
 obtain ⟨q, hq⟩ := aJg h0
 rw [aHp] at h
 refine (Nat.pow_lt_pow_iff_right (show 1 < 2 by decide)).1 (Nat.lt_of_le_of_lt ?_ h)
 grind
theorem bDK (b : Bool) (m : List Nat) (e : Int) (lm : Lm m) (z : Nrm m) (q : m.length ≤ 1099511627776) : xQ none b m e = some (aUe b (nv m) e) := by
 unfold xQ aUe
 by_cases h0 : m.length = 0
 ·have hm : m = [] := List.eq_nil_of_length_eq_zero h0
  subst hm
  rfl
 ·have hm : nv m ≠ 0 := by have := aOv z (fun e => h0 (by grind)); omega
  have g : kL m = (tzn (nv m) : Int) := by unfold kL; omega
  have s := bG2 hm (sH lm)
  have f : uL m (tzn (nv m) : Int) = lb (nv m / 2 ^ tzn (nv m)) := by rfl
  rw [if_neg (by omega), if_neg hm, g, f]
  refine aF q (aF ⟨q, by omega⟩ ?_)
  by_cases r : 64 < (lb (nv m / 2 ^ tzn (nv m))).length
  ·rw [aNX (by grind), if_pos r]; rfl
  ·rw [aRk (by grind), if_neg r]
   simp only [Option.bind_some]
   by_cases j : e ≤ 1048576
   ·rw [if_pos j]
    refine aF (by omega) ?_
    by_cases I : -1048576 - (tzn (nv m) : Int) ≤ e
    ·rw [aRk (by grind), if_neg (by omega)]
     simp only [Option.bind_some]
     unfold wE
     rw [g, f]
     refine aF (by omega) ?_
     by_cases J : e + (tzn (nv m) : Int) ≤ 1048576
     ·rw [aRk (by grind), if_neg (by omega)]
      simp only [Option.bind_some]
      exact aF (by omega) rfl
     simp_all [aNX, if_pos]
    simp_all [aNX, if_pos]
   ·rw [if_neg j, aTi, if_pos (by omega)]; rfl
def told {α : Type} (z : α) : α ⊕ qn → α × Int × Unit
 | .inl r => (r, 0, ())
 | .inr p => (z, p.1, ())
def aZt (b : Bool) (m : Nat) (e : Int) : Dy × Int × Unit := told d0 (aUe b m e)
theorem bDL (b : Bool) (m : List Nat) (e : Int) (lm : Lm m) (q : Nrm m) (g : m.length ≤ 1099511627776) : xR none b m e = some (aZt b (nv m) e) := by
 have j : yI none b m e = some (aUe b (nv m) e) := by
  unfold yI
  rw [bDK b m e lm q g]
  simp only [Option.bind_some]
  cases aUe b (nv m) e <;> rfl
 have f : iX none b m e = some (aZt b (nv m) e) := by
  unfold iX aZt
  rw [j]
  simp only [Option.bind_some]
  cases aUe b (nv m) e <;> rfl
 unfold xR
 rw [f]
 rfl
theorem bHD {x k : Nat} (a : List Nat) (f : Lm a) (h : x ≤ nv a) (b : a.length ≤ k) : (lb x).length ≤ k :=
 Nat.le_trans (aDv.2 (Nat.lt_of_le_of_lt h (sH f))) b
end Nu
end Go.Proofs
namespace Go.Proofs
open Go.Vc
set_option maxRecDepth 20000
namespace Nu
theorem bDM {b i : Nat} (h : b < 18446744073709551616) : (lb (b ^ i)).length ≤ i + 1 :=
 aDv.2 (Nat.lt_of_le_of_lt (Nat.pow_le_pow_left (Nat.le_of_lt h) i) (Nat.pow_lt_pow_right xAb (by omega)))
theorem aNY (b n : Nat) (hb : b < 18446744073709551616) (g : n ≤ 100000) : sU none b (n : Int) = some (lb (b ^ n)) := by
 unfold sU
 refine bP (aBq (step := fun d : qa × Int => rN none (n : Int) b d.1 d.2) (I := fun d => 0 ≤ d.2 ∧ d.2 ≤ n ∧ d.1 = lb (b ^ d.2.toNat)) (fun d => ((n : Int) - d.2).toNat) (fun _ => lb (b ^ n)) ?_ ([1], 0) ⟨by simp, by simp, ?_⟩) rfl
 ·rintro ⟨m, i⟩ ⟨i0, i1, f⟩
  have f : m = lb (b ^ i.toNat) := f
  have i0 : 0 ≤ i := i0
  have i1 : i ≤ n := i1
  show (∃ d', rN none (n : Int) b m i = _ ∧ _) ∨ rN none (n : Int) b m i = _
  unfold rN
  have j := bDM (i := i.toNat) hb
  by_cases hi : i < n
  ·left
   have ht : cR m [b] = lb (b ^ (i + 1).toNat) := by
    unfold cR
    rw [f, aBt, show (i + 1).toNat = i.toNat + 1 from by omega, Nat.pow_succ]
    rfl
   refine ⟨(lb (b ^ (i + 1).toNat), i + 1), ?_, ⟨by (try simp only); omega, by (try simp only); omega, rfl⟩, by (try simp only); omega, rfl⟩
   rw [if_pos hi]
   refine aF ⟨by show m.length ≤ _; rw [f]; omega, by show (1 : Nat) ≤ _; decide⟩ (aF (by constructor <;> omega) ?_)
   rw [ht]
  ·right
   rw [if_neg hi, f, show i.toNat = n from by omega]
 ·show [1] = lb (b ^ 0)
  rw [Nat.pow_zero, aOu xAb]
  rw [show 1 / 18446744073709551616 = 0 from by decide, aCC]
theorem aUU (s : List Nat) (hd : ∀ c ∈ s, zS c = true) (hs : s.length ≤ 100000) : uZ none s = some (lb (vO s)) := by
 unfold uZ
 refine bP (aBq (step := fun d : qa × Int => pJ none s d.1 d.2) (I := fun d => 0 ≤ d.2 ∧ d.2 ≤ s.length ∧ d.1 = lb (vO (s.take d.2.toNat))) (fun d => ((s.length : Int) - d.2).toNat) (fun _ => lb (vO s)) ?_ ([], 0) ⟨by simp, by simp, ?_⟩) rfl
 ·rintro ⟨m, i⟩ ⟨i0, i1, f⟩
  have f : m = lb (vO (s.take i.toNat)) := f
  have i0 : 0 ≤ i := i0
  have i1 : i ≤ s.length := i1
  show (∃ d', pJ none s m i = _ ∧ _) ∨ pJ none s m i = _
  unfold pJ
  have J : m.length ≤ 100001 := by
   rw [f]
   have q := aKp (s := s.take i.toNat) (fun c hc => hd c (List.mem_of_mem_take hc))
   have N : (s.take i.toNat).length ≤ 100000 := by rw [List.length_take]; omega
   have z := bDM (b := 10) (i := (s.take i.toNat).length) xAb
   have O := bHD (x := vO (s.take i.toNat)) (lb (10 ^ (s.take i.toNat).length)) (aKK _) (by rw [aBt]; omega) z
   omega
  by_cases hi : i < s.length
  ·left
   have j : i.toNat < s.length := by omega
   have r : s.getD i.toNat 0 ∈ s := by rw [List.getD_eq_getElem?_getD, List.getElem?_eq_getElem j]; exact List.getElem_mem j
   have hc := hd _ r
   simp only [zS, decide_eq_true_iff] at hc
   have g : uI none .u8 (s.getD i.toNat 0) 48 = s.getD i.toNat 0 - 48 := bHC (by omega) hc.1
   have L : pH [s.getD i.toNat 0 - 48] = lb (s.getD i.toNat 0 - 48) := by
    show lb (nv [s.getD i.toNat 0 - 48]) = _
    simp [nv]
   have ht : aCu (cR m [10]) (lb (s.getD i.toNat 0 - 48)) = lb (vO (s.take (i + 1).toNat)) := by
    unfold aCu cR
    rw [f, aBt, aBt, aBt, show (i + 1).toNat = i.toNat + 1 from by omega, take_succ j, aUS]
    rfl
   have U : (cR m [10]).length ≤ 100002 := by
    unfold cR
    refine Nat.le_trans (aDv (k := m.length + 1).2 ?_) (by omega)
    rw [f, aBt, Nat.pow_succ, ← f]
    have q := sH (a := m) (by rw [f]; exact aKK _)
    rw [f, aBt, ← f] at q
    exact Nat.mul_lt_mul'' q xAb
   refine ⟨(lb (vO (s.take (i + 1).toNat)), i + 1), ?_, ⟨by (try simp only); omega, by (try simp only); omega, rfl⟩, by (try simp only); omega, by first | rfl | trivial⟩
   rw [if_pos hi]
   simp only [g, L, ht]
   refine aF (by constructor <;> omega) (aF ⟨by show m.length ≤ _; omega, by show (1 : Nat) ≤ _; decide⟩ (aF (by show (1 : Nat) ≤ _; decide) (aF ⟨by show (cR m [10]).length ≤ _; omega, ?_⟩ (aF (by constructor <;> omega) rfl))))
   show (lb (s.getD i.toNat 0 - 48)).length ≤ _
   have := aDv (n := s.getD i.toNat 0 - 48) (k := 1).2 (by omega)
   omega
  ·right
   rw [if_neg hi, f, List.take_of_length_le (by omega)]
 ·show [] = lb (vO [])
  rw [show vO [] = 0 from rfl, aCC]
end Nu
end Go.Proofs
namespace Go.Proofs
open Go.Vc
set_option maxRecDepth 20000
namespace Nu
def aUV (M : Nat) (e : Int) : Dy := if M = 0 then d0 else (false, lb (M / 2 ^ tzn M), e + (tzn M : Int), ())
theorem bG3 {M K : Nat} (h0 : M ≠ 0) (h : M < 2 ^ K) : tzn M < K := by
 obtain ⟨q, hq⟩ := aJg h0
 refine (Nat.pow_lt_pow_iff_right (show 1 < 2 by decide)).1 (Nat.lt_of_le_of_lt ?_ h)
 grind
theorem bFx {M K : Nat} {e : Int} (b : M < 2 ^ K) (j : K ≤ 4096) (q : -1000000 ≤ e ∧ e ≤ 1000000) : aZt false M e = (aUV M e, 0, ()) := by
 unfold aZt aUe aUV
 by_cases h0 : M = 0
 ·rw [if_pos h0, if_pos h0]; rfl
 ·have f := bG3 h0 b
  have g : (lb (M / 2 ^ tzn M)).length ≤ 64 := by
   exact aDv.2 (bGh 64 (Nat.lt_of_le_of_lt (Nat.div_le_self _ _) b) (by omega))
  rw [if_neg h0, if_neg h0, if_neg (by omega), if_neg (by omega), if_neg (by omega)]
  rfl
def bFy (r : bDF) : Prop := (∀ c ∈ r.1, zS c = true) ∧ r.1.length ≤ 60 ∧ -160 ≤ r.2.1 ∧ r.2.1 ≤ 160
theorem aJ3 : bFy litNo := ⟨(fun c hc => by cases hc), by decide, by decide, by decide⟩
theorem aWt {s : List Nat} {i : Nat} {all : List Nat} {b : Int} {f : Bool} (j : ∀ c ∈ all, zS c = true) (g : all.length ≤ 60) (q : -60 ≤ b ∧ b ≤ 0) : bFy (aTg s i all b f) := by
 unfold aTg
 split
 ·exact aJ3
 ·split
  ·exact aJ3
  ·refine ⟨j, g, ?_, ?_⟩
   all_goals grind
theorem aZu {s : List Nat} {i : Nat} {all : List Nat} {b : Int} (g : ∀ c ∈ all, zS c = true) (f : all.length ≤ 60) (j : -60 ≤ b ∧ b ≤ 0) : bFy (bBE s i all b) := by
 unfold bBE
 split
 ·grind [aWt]
 ·exact ⟨g, f, by grind, by grind⟩
theorem aFc (s : List Nat) : bFy (qG s) := by
 have f := aB2 s 0
 have g := aB2 s (dD s 0 + 1)
 have b := aNW s 0
 rw [List.drop_zero] at b
 have j := aNW s (dD s 0 + 1)
 grind [qG, aJ3, aZu, List.length_take]
def bDN (s : List Nat) : Nat := vO (qG s).1 * 10 ^ (max (qG s).2.1 0).toNat
def bG4 (s : List Nat) : Nat := 10 ^ (max (-(qG s).2.1) 0).toNat
theorem aDr (n : Nat) : 10 ^ n ≤ 2 ^ (4 * n) := by
 simp_all [Nat.pow_mul, Nat.pow_le_pow_left]
theorem bFz (s : List Nat) : bDN s < 2 ^ 900 := by
 obtain ⟨f, g, q, j⟩ := aFc s
 have a := aKp f
 have b := aDr (qG s).1.length
 have c := aDr (max (qG s).2.1 0).toNat
 unfold bDN
 have d := Nat.mul_lt_mul_of_lt_of_le (Nat.lt_of_lt_of_le a b) c (Nat.pow_pos xAb)
 rw [← Nat.pow_add] at d
 exact aYe 900 d (by omega)
theorem bFA (s : List Nat) : bG4 s < 2 ^ 900 := by
 obtain ⟨j, b, g, f⟩ := aFc s
 have c := aDr (max (-(qG s).2.1) 0).toNat
 unfold bG4
 exact aTh 900 c (by omega)
def bG5 (s : List Nat) : List Nat × List Nat × Bool × Unit := if (qG s).2.2.1 = true then (lb (bDN s), lb (bG4 s), true, ()) else ([], [], false, ())
theorem aMg {x : Nat} (h : x < 2 ^ 900) : (lb x).length ≤ 15 := by
 exact aDv.2 (bGh 15 h xAb)
theorem bDO (s : List Nat) (hs : s.length ≤ 4611686018427387904) : aBa none s = some (bG5 s) := by
 obtain ⟨j, I, r, J⟩ := aFc s
 unfold aBa bG5
 refine bP (aZs s hs) ?_
 by_cases h : (qG s).2.2.1 = true
 ·rw [if_neg (fun q => q h), if_pos h]
  have e1 := aUU (qG s).1 j (by omega)
  have f := aNY 10 (max (qG s).2.1 0).toNat xAb (by omega)
  have g := aNY 10 (max (-(qG s).2.1) 0).toNat xAb (by omega)
  rw [show (((max (qG s).2.1 0).toNat : Nat) : Int) = max (qG s).2.1 0 from by omega] at f
  rw [show (((max (-(qG s).2.1) 0).toNat : Nat) : Int) = max (0 - (qG s).2.1) 0 from by omega] at g
  have z : (lb (vO (qG s).1)).length ≤ 15 := aMg (by
   have a := aKp j
   have b := aDr (qG s).1.length
   exact aYe 900 (Nat.lt_of_lt_of_le a b) (by omega))
  have l2 : (lb (10 ^ (max (qG s).2.1 0).toNat)).length ≤ 15 := aMg (aTh 900 (aDr _) (by omega))
  refine bP e1 (bP f (aF ⟨?_, ?_⟩ (aF (by omega) (bP g ?_))))
  ·omega
  ·omega
  ·have ht : cR (lb (vO (qG s).1)) (lb (10 ^ (max (qG s).2.1 0).toNat)) = lb (bDN s) := by
    grind [cR, bDN, aBt]
   rw [ht]; rfl
 simp_all
def exN (s : List Nat) : Nat := vO (qG s).1 * 5 ^ (max (qG s).2.1 0).toNat
def exD (s : List Nat) : Nat := 5 ^ (max (-(qG s).2.1) 0).toNat
def aZv (s : List Nat) : Dy × Int × Unit :=
 if ¬ (qG s).2.2.1 = true then (d0, 6, ())
 else if exN s % exD s ≠ 0 then (d0, 6, ())
 else (aUV (exN s / exD s) (qG s).2.1, 0, ())
theorem aYf (n : Nat) : 5 ^ n ≤ 2 ^ (4 * n) := Nat.le_trans (Nat.pow_le_pow_left xAb n) (aDr n)
theorem bG6 (s : List Nat) : exN s < 2 ^ 900 := by
 obtain ⟨f, g, q, j⟩ := aFc s
 have a := aKp f
 have b := aDr (qG s).1.length
 have c := aYf (max (qG s).2.1 0).toNat
 unfold exN
 have d := Nat.mul_lt_mul_of_lt_of_le (Nat.lt_of_lt_of_le a b) c (Nat.pow_pos xAb)
 rw [← Nat.pow_add] at d
 exact aYe 900 d (by omega)
theorem bFB (s : List Nat) : exD s ≠ 0 := by
 grind [exD, Nat.pow_pos, Max.max, qG]
theorem bDP (s : List Nat) (hs : s.length ≤ 4611686018427387904) : xT none s = some (aZv s) := by
 obtain ⟨r, O, L, U⟩ := aFc s
 unfold xT aZv
 refine bP (aZs s hs) ?_
 by_cases h : (qG s).2.2.1 = true
 ·rw [if_neg (fun z => z h)]
  simp only [h, not_true, if_false]
  have e1 := aUU (qG s).1 r (by omega)
  have q := aNY 5 (max (qG s).2.1 0).toNat xAb (by omega)
  have j := aNY 5 (max (-(qG s).2.1) 0).toNat xAb (by omega)
  rw [show (((max (qG s).2.1 0).toNat : Nat) : Int) = max (qG s).2.1 0 from by omega] at q
  rw [show (((max (-(qG s).2.1) 0).toNat : Nat) : Int) = max (0 - (qG s).2.1) 0 from by omega] at j
  have N : (lb (vO (qG s).1)).length ≤ 15 := aMg (by
   have a := aKp r
   have b := aDr (qG s).1.length
   exact aYe 900 (Nat.lt_of_lt_of_le a b) (by omega))
  have l2 : (lb (5 ^ (max (qG s).2.1 0).toNat)).length ≤ 15 := aMg (aTh 900 (aYf _) (by omega))
  have ht : cR (lb (vO (qG s).1)) (lb (5 ^ (max (qG s).2.1 0).toNat)) = lb (exN s) := by
   grind [cR, exN, aBt]
  have hq : pV (lb (exN s)) (lb (exD s)) = (lb (exN s / exD s), lb (exN s % exD s), ()) := by
   grind [pV, aBt]
  have J := bG6 s
  have g : exN s / exD s < 2 ^ 900 := Nat.lt_of_le_of_lt (Nat.div_le_self _ _) J
  have hF : xR none false (lb (exN s / exD s)) (qG s).2.1 = some (aUV (exN s / exD s) (qG s).2.1, 0, ()) := by
   rw [bDL false _ _ (aKK _) (aFX _) (by grind [aMg]), aBt, bFx g xAb (by omega)]
  have I : lb (5 ^ (max (-(qG s).2.1) 0).toNat) = lb (exD s) := rfl
  rw [I] at j
  refine bP e1 (bP q (aF ⟨?_, ?_⟩ (aF (by omega) (bP j ?_))))
  rotate_left 2
  ·simp only [ht, hq]
   refine aF ⟨aFX _, aFX _, by grind [aBt, bFB], ?_⟩ (bP hF ?_)
   ·grind [aMg]
   ·by_cases f : exN s % exD s = 0
    ·rw [if_neg (by rw [f, aCC]; simp), if_neg (fun h => h f)]
    ·have W := List.length_pos_iff.2 (fun e => f (aY1.1 e))
     rw [if_pos (.inl (by omega)), if_pos f]; rfl
  all_goals omega
 ·rw [if_pos h, if_pos h]; rfl
end Nu
end Go.Proofs
namespace Go.Proofs
open Go.Vc
set_option maxRecDepth 20000
namespace Nu
def Tot {α : Type} (o : Option α) (P : α → Prop) : Prop := ∃ r, o = some r ∧ P r
namespace Tot
variable {α β : Type} {P : α → Prop} {o : Option α} {R : β → Prop}
theorem ret {r : α} (h : P r) : Tot (some r) P := ⟨r, rfl, h⟩
theorem of {r : α} (e : o = some r) (h : P r) : Tot o P := ⟨r, e, h⟩
theorem ck {p : Prop} [Decidable p] (hp : p) (h : Tot o P) : Tot (Go.Vc.ck p o) P := by grind [bCF]
theorem bind {f : α → Option β} (h : Tot o P) (g : ∀ r, P r → Tot (f r) R) : Tot (o.bind f) R := by
 obtain ⟨r, rfl, b⟩ := h
 simp_all
theorem ite {p : Prop} {i : Decidable p} {x y : Option α} (f : p → Tot x P) (b : ¬ p → Tot y P) : Tot (@_root_.ite _ p i x y) P := by
 grind
theorem mono {Q : α → Prop} (h : Tot o P) (hq : ∀ r, P r → Q r) : Tot o Q := by
 obtain ⟨r, e, b⟩ := h
 exact ⟨r, e, hq r b⟩
theorem sJ (h : Tot o P) : o.isSome = true := by
 obtain ⟨r, rfl, b⟩ := h
 rfl
theorem get (h : Tot o P) (z : α) : P (o.getD z) := by
 obtain ⟨r, rfl, b⟩ := h
 exact b
end Tot
theorem aKq {d : Dy} (h : aPn d = true) : d.2.1.length ≤ 64 ∧ Nrm d.2.1 ∧ -1048576 ≤ d.2.2.1 ∧ d.2.2.1 ≤ 1048576 := by
 grind [aPn, List.eq_nil_of_length_eq_zero, bAo]
theorem aTj (d : Dy) : Tot (sS none d) (fun r => -1 ≤ r ∧ r ≤ 1) := by
 unfold sS
 exact (Tot.of (P := fun _ => True) (aPo d) trivial).bind fun v _ => .ite (fun _ => .ret xAb) fun _ => .ite (fun _ => .ret xAb) fun _ => .ret xAb
def aYg (a b : Dy) : Int :=
 let x := (bl (nv a.2.1) : Int) + a.2.2.1
 let y := (bl (nv b.2.1) : Int) + b.2.2.1
 let f := min a.2.2.1 b.2.2.1
 if x < y then -1 else if y < x then 1 else aY5 (nv a.2.1 * 2 ^ (a.2.2.1 - f).toNat) (nv b.2.1 * 2 ^ (b.2.2.1 - f).toNat)
theorem size_eq (a b : Dy) (U : Lm a.2.1) (q : Lm b.2.1) (z : aPn a = true) (hb : aPn b = true) : aA1 none a b = some (aYg a b) := by
 obtain ⟨N, J, W, Y⟩ := aKq z
 obtain ⟨b1, s, L, O⟩ := aKq hb
 have r : bl (nv a.2.1) ≤ 64 * a.2.1.length := aUI (by grind [aHp, sH])
 have I : bl (nv b.2.1) ≤ 64 * b.2.1.length := aUI (by grind [aHp, sH])
 have e1 : rF a.2.1 = (bl (nv a.2.1) : Int) := rfl
 have j : rF b.2.1 = (bl (nv b.2.1) : Int) := rfl
 unfold aA1 aYg
 rw [e1, j]
 refine aF ⟨J, by omega⟩ (aF (by omega) (aF ⟨s, by omega⟩ (aF (by omega) ?_)))
 simp only
 by_cases g : (bl (nv a.2.1) : Int) + a.2.2.1 < (bl (nv b.2.1) : Int) + b.2.2.1
 ·simp_all
 ·rw [if_neg g, if_neg g]
  by_cases f : (bl (nv b.2.1) : Int) + b.2.2.1 < (bl (nv a.2.1) : Int) + a.2.2.1
  ·simp_all
  ·rw [if_neg f, if_neg f]
   refine aF (by omega) (aF ⟨by omega, by omega, by omega⟩ (aF (by omega) (aF ⟨by omega, by omega, by omega⟩ (aF ⟨aFX _, aFX _⟩ ?_))))
   grind [qO, jD, aBt]
theorem aYh (a b : Dy) : -1 ≤ aYg a b ∧ aYg a b ≤ 1 := by
 grind [aYg, aY5]
theorem bAA (a b : Dy) (q : Lm a.2.1) (f : Lm b.2.1) : Tot (xS none a b) (fun _ => True) := by
 unfold xS
 refine (aTj a).bind fun v hv => (aTj b).bind fun w I => (Tot.of (P := fun x => aPn a = x) (aPo a) rfl).bind fun x s => .ck (fun _ => by rw [aPo]; rfl) (.ite (fun _ => .ret trivial) fun h => .ite (fun _ => .ret trivial) fun _ => .ite (fun _ => .ret trivial) fun _ => .ite (fun _ => .ret trivial) fun _ => ?_)
 rw [aPo] at h
 have g : aPn a = true ∧ aPn b = true := by
  simp_all
 refine (Tot.of (P := fun r => -1 ≤ r ∧ r ≤ 1) (size_eq a b q f g.1 g.2) (aYh a b)).bind fun r j => .ck ?_ (.ret trivial)
 have : -1 ≤ v * r ∧ v * r ≤ 1 := by
  obtain ⟨v1, J⟩ := hv
  obtain ⟨r1, z⟩ := j
  have e1 : v = -1 ∨ v = 0 ∨ v = 1 := by omega
  grind
 omega
theorem bAB (n : Bool) (m : Nat) (e : Int) : match aUe n m e with | .inl d => Lm d.2.1 | .inr _ => True := by
 unfold aUe
 split
 ·rename_i h
  split at h
  ·cases h; exact fun x b => by cases b
  grind [aKK]
 grind
theorem bDQ (a b : Dy) (r : Lm a.2.1) (f : Lm b.2.1) (s : aPn a = true) (hb : aPn b = true) : Tot (sT none a b) (fun q => match q with | .inl d => Lm d.2.1 | .inr _ => True) := by
 obtain ⟨g, O, N, W⟩ := aKq s
 obtain ⟨b1, L, I, J⟩ := aKq hb
 unfold sT
 refine .ck ⟨by omega, by omega⟩ (.ck (by omega) ?_)
 have U : (cR a.2.1 b.2.1).length ≤ 128 := by
  refine aDv.2 ?_
  have z := Nat.lt_of_lt_of_le (sH r) (Nat.pow_le_pow_right (show 0 < 18446744073709551616 by decide) g)
  have j := Nat.lt_of_lt_of_le (sH f) (Nat.pow_le_pow_right (show 0 < 18446744073709551616 by decide) b1)
  have := Nat.mul_lt_mul'' z j
  omega
 refine (Tot.of (P := fun q => match q with | .inl d => Lm d.2.1 | .inr _ => True) (bDK _ _ _ (show Lm (cR a.2.1 b.2.1) from aKK _) (aFX _) (by omega)) (bAB _ _ _)).bind fun q hq => ?_
 cases q with
 | inl d => exact .ret hq
 | inr p => exact .ret trivial
theorem bFC (a b : Dy) (j : Lm a.2.1) (f : Lm b.2.1) : Tot (gH none a b ()) (fun q => match q with | .inl d => Lm d.2.1 | .inr _ => True) := by
 unfold gH
 rw [aPo, aPo]
 refine .ck rfl (.ite (fun h => .ck rfl ?_) fun h => ?_)
 ·cases hb : aPn b with
  | false =>
   rw [aNX (by simp)]
   exact .ret trivial
  | true =>
   have g : aPn a = true := h
   rw [aRk (by simp [g])]
   refine (bDQ a b j f g hb).bind fun q hq => ?_
   cases q with
   | inl d => exact .ret hq
   | inr p => exact .ret trivial
 ·rw [aTi]
  exact .ret trivial
theorem bFD (a b : Dy) (j : Lm a.2.1) (f : Lm b.2.1) : Tot (aCv none a b) (fun r => Lm r.1.2.1) := by
 unfold aCv nJ cY
 have h : Tot ((gH none a b ()).bind fun q => some (match q with | .inl r => (r, (0 : Int), ()) | .inr p => ((false, ([] : List Nat), (0 : Int), ()), p.1, ()))) (fun r => Lm r.1.2.1) := (bFC a b j f).bind fun q hq => .ret (by
  cases q with
  | inl d => exact hq
  | inr p => exact fun x s => by cases s)
 exact (Tot.ck h.sJ (.ret (P := fun r => Lm r.1.2.1) (h.get _))).bind fun r g => .ret g
theorem bG7 (n e : Int) (g : 0 ≤ n ∧ n < 9223372036854775808) (j : e = 0) : Tot (aEq none n e) (fun r => Lm r.1.2.1) := by
 unfold aEq
 refine .ite (fun h => by omega) fun _ => ?_
 unfold yK
 refine .ck (by simp_all) ?_
 have q : (pH [(n % 18446744073709551616).toNat]).length ≤ 1 := by
  refine aDv.2 ?_
  have hb : 18446744073709551616 = 18446744073709551616 := by decide
  have : nv [(n % 18446744073709551616).toNat] = (n % 18446744073709551616).toNat := by simp [nv]
  omega
 have hF : Lm (aZt (decide (n < 0)) (nv (pH [(n % 18446744073709551616).toNat])) e).1.2.1 := by
  have := bAB (decide (n < 0)) (nv (pH [(n % 18446744073709551616).toNat])) e
  unfold aZt
  revert this
  cases aUe (decide (n < 0)) (nv (pH [(n % 18446744073709551616).toNat])) e with
  | inl d => exact fun h => h
  | inr p => exact fun h x f => by cases f
 exact (Tot.of (P := fun r => Lm r.1.2.1) (bDL _ _ _ (show Lm (pH [(n % 18446744073709551616).toNat]) from aKK _) (aFX _) (by omega)) hF).bind fun r b => .ret b
end Nu
end Go.Proofs
namespace Go.Proofs
open Go.Vc
set_option maxRecDepth 20000
namespace Nu
def mx (l : List Nat) : Nat := l.foldr max 0
theorem bFE (l : List Nat) (b : Nat) : mx (l ++ [b]) = max (mx l) b := by
 induction l with
 | nil => simp [mx]
 | cons a r f =>
  simp only [mx, List.cons_append, List.foldr_cons] at f ⊢
  rw [f, Nat.max_assoc]
theorem aWu {l : List Ex} {k : Nat} (h : k < l.length) : l.take (k + 1) = l.take k ++ [l.getD k (Ex.mk 0 [] [])] := by
 simp_all
theorem aTk {l : List Ex} {k : Nat} (h : k < l.length) : l.getD k (Ex.mk 0 [] []) ∈ l := by
 simp_all
def aB4 (f : Ex → Nat) (l : List Ex) : Nat := (l.map f).sum
def mxN (f : Ex → Nat) (l : List Ex) : Nat := mx (l.map f)
theorem aPp (f : Ex → Nat) {l : List Ex} {k : Nat} (h : k < l.length) : aB4 f (l.take (k + 1)) = aB4 f (l.take k) + f (l.getD k (Ex.mk 0 [] [])) := by
 grind [aWu, aB4]
theorem aYi (f : Ex → Nat) {l : List Ex} {k : Nat} (h : k < l.length) : mxN f (l.take (k + 1)) = max (mxN f (l.take k)) (f (l.getD k (Ex.mk 0 [] []))) := by
 rw [aWu h, mxN, List.map_append]; exact bFE _ _
theorem bFF (f : Ex → Nat) (l : List Ex) (k : Nat) : aB4 f (l.take k) ≤ aB4 f l := by
 have : aB4 f l = aB4 f (l.take k ++ l.drop k) := by simp_all
 rw [this, aB4, aB4, List.map_append, List.sum_append]
 omega
theorem aYj (f : Ex → Nat) {l : List Ex} {k : Nat} (h : k < l.length) : aB4 f (l.take k) + f (l.getD k (Ex.mk 0 [] [])) ≤ aB4 f l := by
 rw [← aPp f h]; exact bFF f l _
theorem bDR (f : Ex → Nat) (l : List Ex) : aB4 f (l.take 0) = 0 := by rfl
theorem bGi (f : Ex → Nat) (l : List Ex) : mxN f (l.take 0) = 0 := by rfl
theorem aUW {l : List Ex} {k : Nat} (h : l.length ≤ k) : l.take k = l := List.take_of_length_le h
def fits : Nat → Ex → Prop
 | 0, _ => False
 | n + 1, e => e.text.length ≤ 100 ∧ e.l.length ≤ 1000 ∧ ∀ x ∈ e.l, fits n x
def nd : Nat → Ex → Nat
 | 0, _ => 0
 | n + 1, e => 1 + aB4 (nd n) e.l
def ht : Nat → Ex → Nat
 | 0, _ => 0
 | n + 1, e => 1 + mxN (ht n) e.l
theorem aWv {f : Ex → Nat} {b : Nat} (h : ∀ x, f x ≤ b) : ∀ l : List Ex, mxN f l ≤ b
 | [] => by simp [mxN, mx]
 | x :: r => by
  have j := h x
  have g := aWv h r
  have : mxN f (x :: r) = max (f x) (mxN f r) := rfl
  omega
theorem bAC : ∀ (n : Nat) (e : Ex), ht n e ≤ n
 | 0, e => Nat.le_refl 0
 | n + 1, e => by
  have := aWv (bAC n) e.l
  have h : ht (n + 1) e = 1 + mxN (ht n) e.l := rfl
  omega
theorem bDS {n : Nat} {e : Ex} (h : fits n e) : 1 ≤ ht n e := by
 cases n with
 | zero => exact h.elim
 | succ n => have : ht (n + 1) e = 1 + mxN (ht n) e.l := rfl; omega
def prt (k : Int) : Int := if k = 1 ∨ k = 2 then 0 else if 6 ≤ k ∧ k ≤ 9 then 2 else if 10 ≤ k ∧ k ≤ 13 then 1 else -1
theorem bFG (k : Int) : yQ none k = some (prt k) := by
 by_cases h : 1 ≤ k ∧ k ≤ 13
 ·have : k = 1 ∨ k = 2 ∨ k = 3 ∨ k = 4 ∨ k = 5 ∨ k = 6 ∨ k = 7 ∨ k = 8 ∨ k = 9 ∨ k = 10 ∨ k = 11 ∨ k = 12 ∨ k = 13 := by omega
  rcases this with h | h | h | h | h | h | h | h | h | h | h | h | h <;> subst h <;> rfl
 ·unfold yQ vW pL pK prt
  have e : ∀ j : Int, 1 ≤ j → j ≤ 13 → ¬ k = j := fun j g b f => h (by omega)
  rw [if_neg (e 1 xAb xAb), decide_eq_false (e 2 xAb xAb), if_neg xAb, if_neg (e 6 xAb xAb), if_neg (e 7 xAb xAb), if_neg (e 8 xAb xAb),
   decide_eq_false (e 9 xAb xAb), if_neg xAb, if_neg (e 10 xAb xAb), if_neg (e 11 xAb xAb), if_neg (e 12 xAb xAb), decide_eq_false (e 13 xAb xAb), if_neg xAb,
   if_neg (by omega), if_neg (by omega), if_neg (by omega)]
theorem bAD : ∀ (n k : Nat) (e : Ex) (a b d0 : Nat), n ≤ k → fits n e → a + n ≤ 1000 → b + nd n e ≤ 100000 → d0 ≤ 100000 →
  ∃ n' d' : Nat, fP none k e (a : Int) (b : Int) (d0 : Int) = some ((n' : Int), (d' : Int)) ∧ b < n' ∧ n' ≤ b + nd n e ∧ d0 ≤ d' ∧ a ≤ d' ∧ d' ≤ max d0 (a + ht n e - 1) ∧ (n' ≤ 60 → d' ≤ 30 → n' = b + nd n e ∧ d' = max d0 (a + ht n e - 1))
 | 0, k, e, a, b, d0, q, g, W, L, hd => g.elim
 | n + 1, 0, e, a, b, d0, q, g, W, L, hd => absurd q (by omega)
 | n + 1, k + 1, e, a, b, d0, q, g, W, L, hd => by
  obtain ⟨Z, hf2, j⟩ := g
  have hnd : nd (n + 1) e = 1 + aB4 (nd n) e.l := rfl
  have hht : ht (n + 1) e = 1 + mxN (ht n) e.l := rfl
  show ∃ n' d' : Nat, lT none (fP none k) e (a : Int) (b : Int) (d0 : Int) = _ ∧ _
  unfold lT
  by_cases hc : (60 : Int) < (b : Int) + 1 ∨ (30 : Int) < (a : Int)
  ·refine ⟨b + 1, max d0 a, ?_, by omega, by omega, by omega, by omega, by omega, fun _ _ => by omega⟩
   refine aF (by omega) ?_
   grind
  ·obtain ⟨r, hr, x, y, rfl, q1, q2, q3, q4, q5⟩ := lI (step := fun d : Int × Int × Int => eK none (fP none k) e (a : Int) d.1 d.2.1 d.2.2)
    (I := fun d => ∃ i x y : Nat, d = ((i : Int), (x : Int), (y : Int)) ∧ i ≤ e.l.length ∧ b + 1 ≤ x ∧ x ≤ b + 1 + aB4 (nd n) (e.l.take i) ∧ max d0 a ≤ y ∧ y ≤ max (max d0 a) (a + mxN (ht n) (e.l.take i)) ∧ (x ≤ 60 → y ≤ 30 → x = b + 1 + aB4 (nd n) (e.l.take i) ∧ y = max (max d0 a) (a + mxN (ht n) (e.l.take i))))
    (fun d => ((e.l.length : Int) - d.1).toNat)
    (fun r => ∃ x y : Nat, r = ((x : Int), (y : Int)) ∧ b + 1 ≤ x ∧ x ≤ b + 1 + aB4 (nd n) e.l ∧ max d0 a ≤ y ∧ y ≤ max (max d0 a) (a + mxN (ht n) e.l) ∧ (x ≤ 60 → y ≤ 30 → x = b + 1 + aB4 (nd n) e.l ∧ y = max (max d0 a) (a + mxN (ht n) e.l)))
    (by
     rintro d ⟨i, x, y, rfl, h1, h2, s, Y, z, O⟩
     show (∃ d', eK none (fP none k) e (a : Int) (i : Int) (x : Int) (y : Int) = _ ∧ _) ∨ ∃ r, eK none (fP none k) e (a : Int) (i : Int) (x : Int) (y : Int) = _ ∧ _
     unfold eK
     by_cases hi : i < e.l.length
     ·left
      have s1 := aYj (nd n) hi
      have s2 := aPp (nd n) hi
      have s3 := aYi (ht n) hi
      have f := j _ (aTk hi)
      have hm := aWv (bAC n) (e.l.take i)
      have hy : y ≤ 100000 := by omega
      ·obtain ⟨J, N, U, p2, p3, p4, p5, p6, p7⟩ := bAD n k (e.l.getD i (Ex.mk 0 [] [])) (a + 1) x y (by omega) f (by omega) (by omega) hy
       rw [show ((a + 1 : Nat) : Int) = (a : Int) + 1 from by omega] at U
       refine ⟨(((i + 1 : Nat) : Int), (J : Int), (N : Int)), ?_, ⟨i + 1, J, N, rfl, by omega, by omega, by omega, by omega, by omega, fun c1 c2 => ?_⟩, by omega⟩
       ·rw [if_pos (by omega), Int.toNat_natCast]
        refine aF (by omega) (aF (by omega) (bP U (aF (by omega) ?_)))
        congr 3
       omega
     ·right
      have e1 : e.l.take i = e.l := aUW (by omega)
      rw [e1] at s z O
      refine ⟨((x : Int), (y : Int)), ?_, x, y, rfl, h2, s, Y, z, O⟩
      grind)
    ((0 : Int), (b : Int) + 1, max (d0 : Int) (a : Int)) ⟨0, b + 1, max d0 a, by grind, by omega, by omega, by omega, by omega, by omega, fun _ _ => by rw [bDR, bGi]; omega⟩
   refine ⟨x, y, ?_, by omega, by omega, by omega, by omega, by omega, fun c1 c2 => by omega⟩
   refine aF (by omega) ?_
   grind
theorem bG8 {n : Nat} {e : Ex} (b : fits n e) (f : n ≤ 64) (hd : nd n e ≤ 1000) : oI none e = some (decide (nd n e ≤ 60 ∧ ht n e ≤ 30)) := by
 obtain ⟨x, y, I, r, j, s, z, g, q⟩ := bAD n 64 e 1 0 0 f b (by omega) (by omega) (by omega)
 have hp := bDS b
 unfold oI yO
 grind
end Nu
end Go.Proofs
namespace Go.Proofs
open Go.Vc
set_option maxRecDepth 20000
namespace Nu
def gk : Nat → Ex → Bool
 | 0, _ => true
 | n + 1, e => decide (prt e.kind = (e.l.length : Int)) && e.l.all (gk n)
theorem bDT {f : Ex → Bool} {l : List Ex} {k : Nat} (h : k < l.length) : (l.take (k + 1)).all f = ((l.take k).all f && f (l.getD k (Ex.mk 0 [] []))) := by
 rw [aWu h, List.all_append]; simp
theorem bFH {α : Type} (z : α) {l : List α} {k : Nat} (h : k < l.length) : l.take (k + 1) = l.take k ++ [l.getD k z] := by
 simp_all
theorem bDU (l : List qa) (v : List Nat) (z : l.length ≤ 1000) : ∃ r : Int, kR none l v = some r ∧ ((0 : Int) ≤ r ↔ v ∈ l) := by
 obtain ⟨e, s, f⟩ := lI (step := fun d : Int => fU none l v d) (I := fun d => ∃ j : Nat, d = (j : Int) ∧ j ≤ l.length ∧ v ∉ l.take j) (fun d => ((l.length : Int) - d).toNat)
  (fun e => (e = .inl () ∧ v ∉ l) ∨ ∃ j : Nat, e = .inr (j : Int) ∧ v ∈ l)
  (by
   rintro d ⟨j, rfl, q, b⟩
   show (∃ d', fU none l v (j : Int) = _ ∧ _) ∨ ∃ e, fU none l v (j : Int) = _ ∧ _
   unfold fU
   by_cases g : j < l.length
   ·rw [if_pos (by omega), Int.toNat_natCast]
    by_cases hv : v = l.getD j []
    ·right
     exact ⟨_, aF (by omega) (if_pos hv), .inr ⟨j, rfl, by simp_all⟩⟩
    ·left
     refine ⟨((j + 1 : Nat) : Int), aF (by omega) ((if_neg hv).trans (aF (by omega) rfl)), ⟨j + 1, rfl, by omega, ?_⟩, by omega⟩
     rw [bFH [] g, List.mem_append]
     rintro (h | h)
     ·exact b h
     ·exact hv (List.mem_singleton.1 h)
   grind) (0 : Int) ⟨0, rfl, by omega, by simp⟩
 unfold kR
 rcases f with ⟨rfl, h⟩ | ⟨j, rfl, h⟩
 all_goals simp_all
theorem contains_eq (l : List qa) (v : List Nat) (b : l.length ≤ 1000) : eC none l v = some (decide (v ∈ l)) := by
 obtain ⟨r, g, f⟩ := bDU l v b
 simp_all [eC, bP, congrArg, decide_eq_decide]
def fm (s : List Nat) : Bool := (qG s).2.2.1
theorem aWw (s : List Nat) (hs : s.length ≤ 1000) : tE none s = some (fm s) := by
 unfold tE
 exact bP (aZs s (by omega)) rfl
def lvs (names : List qa) : Nat → Ex → Bool
 | 0, _ => true
 | n + 1, e => if e.kind = 1 then fm e.text else if e.kind = 2 then (decide (e.text = aV ⟨#[116]⟩) || decide (e.text ∈ names)) else (decide (e.text = aV ⟨#[]⟩) && e.l.all (lvs names n))
theorem bFI (p q : Ex → Bool) : ∀ l : List Ex, l.all (fun x => p x && q x) = (l.all p && l.all q)
 | [] => rfl
 | x :: r => by
  grind
theorem aWx {b : Ex → Bool} {l : List Ex} {j : Nat} (f : j < l.length) (h : b (l.getD j (Ex.mk 0 [] [])) = false) : l.all b = false := by
 grind
theorem bDV (g : Ex → List qa → Option Bool) (names : List qa) (b : Ex → Bool) (l : List Ex) (N : l.length ≤ 1000) (r : ∀ x ∈ l, g x names = some (b x)) :
  bI none g l (names, ()) = some (!(l.all b)) := by
 obtain ⟨e, L, s⟩ := lI (step := fun d : Int => bH none g l (names, ()) d) (I := fun d => ∃ j : Nat, d = (j : Int) ∧ j ≤ l.length ∧ (l.take j).all b = true) (fun d => ((l.length : Int) - d).toNat)
  (fun e => (e = .inl () ∧ l.all b = true) ∨ ∃ j : Nat, e = .inr (j : Int) ∧ l.all b = false)
  (by
   rintro d ⟨j, rfl, J, z⟩
   show (∃ d', bH none g l (names, ()) (j : Int) = _ ∧ _) ∨ ∃ e, bH none g l (names, ()) (j : Int) = _ ∧ _
   unfold bH xV
   by_cases q : j < l.length
   ·rw [if_pos (by omega), Int.toNat_natCast]
    have f := r _ (aTk q)
    cases hb : b (l.getD j (Ex.mk 0 [] [])) with
    | false =>
     right
     rw [hb] at f
     exact ⟨_, aF (by omega) (bP (bP f rfl) (if_pos rfl)), .inr ⟨j, rfl, aWx q hb⟩⟩
    | true =>
     left
     rw [hb] at f
     refine ⟨((j + 1 : Nat) : Int), aF (by omega) (bP (bP f rfl) ((if_neg xAb).trans (aF (by omega) rfl))), ⟨j + 1, rfl, by omega, ?_⟩, by omega⟩
     grind [bDT]
   grind) (0 : Int) ⟨0, rfl, by omega, by simp⟩
 unfold bI cM
 rcases s with ⟨rfl, h⟩ | ⟨j, rfl, h⟩
 all_goals simp_all
theorem bAE (names : List qa) (q : names.length ≤ 1000) : ∀ (n k : Nat) (e : Ex), n ≤ k → fits n e → vA none k e names = some (gk n e && lvs names n e)
 | 0, k, e, J, s => s.elim
 | n + 1, 0, e, J, s => absurd J (by omega)
 | n + 1, k + 1, e, J, s => by
  obtain ⟨N, I, z⟩ := s
  have b : gk (n + 1) e = (decide (prt e.kind = (e.l.length : Int)) && e.l.all (gk n)) := rfl
  have f : lvs names (n + 1) e = if e.kind = 1 then fm e.text else if e.kind = 2 then (decide (e.text = aV ⟨#[116]⟩) || decide (e.text ∈ names)) else (decide (e.text = aV ⟨#[]⟩) && e.l.all (lvs names n)) := rfl
  have r := bDV (vA none k) names (fun x => gk n x && lvs names n x) e.l I fun x L => bAE names q n k x (by omega) (z x L)
  show tT none (vA none k) e names = _
  unfold tT
  rw [bFG, r, aWw _ (by omega), contains_eq _ _ q, bFI]
  simp only [Option.isSome_some, Option.getD_some, Option.bind_some]
  by_cases hp : prt e.kind = (e.l.length : Int)
  ·rw [if_neg (fun h => h hp)]
   by_cases g : e.kind = 1
   ·have h0 : e.l = [] := List.eq_nil_of_length_eq_zero (by rw [g] at hp; have : prt 1 = 0 := rfl; omega)
    rw [if_pos g, b, f, if_pos g, decide_eq_true hp, h0]
    rfl
   ·rw [if_neg g]
    by_cases j : e.kind = 2
    ·have h0 : e.l = [] := List.eq_nil_of_length_eq_zero (by rw [j] at hp; have : prt 2 = 0 := rfl; omega)
     rw [if_pos j, b, f, if_neg g, if_pos j, decide_eq_true hp, h0]
     exact aF (by simp) rfl
    ·rw [if_neg j, b, f, if_neg g, if_neg j, decide_eq_true hp]
     refine aF (by simp) ?_
     grind
  simp_all
end Nu
end Go.Proofs
namespace Go.Proofs
open Go.Vc
set_option maxRecDepth 20000
namespace Nu
theorem Tot.loop {D E : Type} {step : D → Option (D ⊕ E)} {P : E → Prop} (I : D → Prop) (b : D → Nat) (h : ∀ d, I d → Tot (step d) (fun q => match q with | .inl f => I f ∧ b f < b d | .inr e => P e)) {d : D} (h0 : I d) : Tot (dG none step d) P :=
 lI b P (fun d hd => by
  obtain ⟨q, e, hq⟩ := h d hd
  grind) d h0
theorem aYk (a b : Dy) (n : Int) (g : Lm a.2.1) (f : Lm b.2.1) (q : 0 ≤ n ∧ n < 9223372036854775808) : Tot (lE none a b n) (fun _ => True) := by
 unfold lE
 exact (bG7 n 0 q rfl).bind fun v hv => (bFD b v.1 f hv).bind fun w j => .ck (fun _ => (bAA a w.1 g j).sJ) (.ret trivial)
theorem bBF (s : List Nat) (hs : s.length ≤ 1000) : Tot (xT none s) (fun r => Lm r.1.2.1) := by
 refine .of (bDP s (by omega)) ?_
 unfold aZv
 split
 ·exact fun x b => by cases b
 ·split
  ·exact fun x b => by cases b
  ·show Lm (aUV _ _).2.1
   unfold aUV
   split
   ·exact fun x b => by cases b
   ·exact aKK _
abbrev aQ9 : Type := List Nat × List (List Nat × (List Nat × List Nat × Unit) × Ex × Unit) × List (List Nat × (List Nat × List Nat × Unit) × Unit) × List qa × List (List Nat × Ex × Unit) × Unit
abbrev TSc : Type := Int × Int × Int × Int × List Nat × List Nat × List Nat × List Nat × List aQ9 × List (List Nat × List Nat × List Nat × List Nat × Unit) × Unit
theorem aYl (s : TSc) (L : s.2.2.2.2.1.length ≤ 1000) (I : s.2.2.2.2.2.1.length ≤ 1000) (z : s.2.2.2.2.2.2.1.length ≤ 1000) (J : s.2.2.2.2.2.2.2.1.length ≤ 1000) : Tot (sO none s) (fun _ => True) := by
 unfold sO
 refine .ite (fun _ => .ret trivial) fun _ => ?_
 refine Tot.bind (P := fun e => match e with | .inl l => l.length = 4 ∧ ∀ d ∈ l, Lm (d : Dy).2.1 | .inr _ => True) ?_ fun e q => ?_
 ·refine Tot.loop (fun d : Int × List Dy => 0 ≤ d.1 ∧ d.1 ≤ 4 ∧ d.2.length = d.1.toNat ∧ ∀ x ∈ d.2, Lm x.2.1) (fun d => (4 - d.1).toNat) ?_ ⟨by decide, by decide, rfl, fun x f => by cases f⟩
  rintro ⟨i, l⟩ ⟨i0, i1, j, r⟩
  have i0 : 0 ≤ i := i0
  have i1 : i ≤ 4 := i1
  have j : l.length = i.toNat := j
  show Tot (rP none s i l) _
  unfold rP
  refine .ite (fun hi => .ck ⟨i0, hi⟩ ?_) fun hi => .ret ⟨by omega, r⟩
  have f : (([s.2.2.2.2.1, s.2.2.2.2.2.1, s.2.2.2.2.2.2.1, s.2.2.2.2.2.2.2.1] : List qa).getD i.toNat []).length ≤ 1000 := by
   grind
  refine (bBF _ f).bind fun v hv => .ck (fun _ => (aTj _).sJ) (.ite (fun _ => .ret trivial) fun _ => .ck (by omega) (.ck (by omega) (.ret ⟨⟨by omega, by omega, ?_, ?_⟩, ?_⟩)))
  all_goals grind
 ·cases e with
  | inr b => exact .ret trivial
  | inl l =>
   obtain ⟨O, hd⟩ := q
   have g : ∀ k, k < 4 → Lm (l.getD k (false, [], 0, ())).2.1 := fun k N => by
    grind
   show Tot (nU none l) _
   unfold nU
   exact .ck (by omega) (.ck (by omega) ((bAA _ _ (g 2 xAb) (g 1 xAb)).bind fun v _ => .ck (fun _ => by omega) (.ck (fun _ => by omega) (.ck (fun _ => (aYk _ _ _ (g 0 xAb) (g 1 xAb) xAb).sJ) (.ck (fun _ => by omega) (.ck (fun _ => by omega) (.ck (fun _ => (aYk _ _ _ (g 1 xAb) (g 2 xAb) xAb).sJ) (.ret trivial))))))))
theorem aUf (s p : List Nat) (hs : s.length ≤ 1000) : Tot (mW none s p) (fun r => r.1.length ≤ 1000) := by
 unfold mW kZ fW
 refine Tot.bind (P := fun r => r.1.length ≤ 1000) ?_ fun r f => .ret f
 refine Tot.bind (P := fun b => b = true → p.length ≤ s.length) (.ck (fun h => ⟨by omega, h⟩) (.ret fun h => ?_)) fun b hb => .ite (fun _ => .ret hs) fun h => .ck ?_ (.ret ?_)
 all_goals grind
theorem aUX (s : List Nat) (hs : s.length ≤ 1000) : Tot (tG none s) (fun r => r.2.1.length ≤ 15 ∧ r.2.2.1.length ≤ 15) := by
 unfold tG
 refine (aUf s _ hs).bind fun v hv => Tot.bind (P := fun r => r.1.length ≤ 15 ∧ r.2.1.length ≤ 15) (.of (bDO v.1 (by omega)) ?_) fun r b => .ret b
 grind [bG5, aMg, bFz, bFA]
theorem aTl (r : List Nat × List Nat × Unit) (f : r.1.length ≤ 1000) (g : r.2.1.length ≤ 1000) : Tot (lB none r) (fun _ => True) := by
 have j : ∀ hi : List Nat, hi.length ≤ 1000 → Tot (mL none r hi) (fun _ => True) := fun hi b => by
  unfold mL
  refine (aUX _ f).bind fun v hv => (aUX _ b).bind fun w q => .ck ⟨by omega, by omega⟩ (.ck ⟨by omega, by omega⟩ (.ck ⟨aFX _, aFX _⟩ (.ite (fun _ => .ret trivial) fun _ => .ite (fun _ => .ret trivial) fun _ => .ite (fun _ => .ret trivial) fun _ => .ret trivial)))
 unfold lB
 grind
end Nu
end Go.Proofs
namespace Go.Proofs
open Go.Vc
set_option maxRecDepth 20000
namespace Nu
def T8 (w : List Nat) : Prop := w.length ≤ 1000 ∧ ∀ c ∈ w, c < 256
theorem T8.take {w : List Nat} (h : T8 w) (k : Nat) : T8 (w.take k) := ⟨by rw [List.length_take]; have := h.1; omega, fun c hc => h.2 c (List.mem_of_mem_take hc)⟩
theorem T8.drop {w : List Nat} (h : T8 w) (k : Nat) : T8 (w.drop k) := ⟨by rw [List.length_drop]; have := h.1; omega, fun c hc => h.2 c (List.mem_of_mem_drop hc)⟩
theorem T8.nil : T8 [] := ⟨by decide, fun c hc => by cases hc⟩
theorem pA {α : Type} (z : α) {l : List α} {k : Nat} (h : k < l.length) : l.getD k z ∈ l := by
 simp_all
theorem Tot.imp {α : Type} {o : Option α} {P : α → Prop} (h : Tot o P) : Tot o (fun _ => True) := h.mono fun _ _ => trivial
theorem bFJ (s : List Nat) (c : Nat) : Tot (gS none s c) (fun v => ∃ k, k ≤ s.length ∧ v = s.drop k) := by
 unfold gS
 refine Tot.bind (Tot.loop (fun d => ∃ k, k ≤ s.length ∧ d = s.drop k) (fun d => d.length) ?_ ⟨0, Nat.zero_le _, rfl⟩) fun e f => .ret f
 rintro d ⟨k, b, rfl⟩
 show Tot (kA none c (s.drop k)) _
 unfold kA
 refine .ck (fun h => h) (.ite (fun h => .ck (by omega) (.ret ⟨⟨k + 1, ?_, by simp_all⟩, ?_⟩)) fun h => .ret ⟨k, b, rfl⟩)
 all_goals grind
theorem bFK (s : List Nat) (c : Nat) (hs : s.length ≤ 1000) : Tot (gI none s c) (fun v => ∃ k, k ≤ s.length ∧ v = s.take k) := by
 unfold gI
 refine Tot.bind (Tot.loop (fun d => ∃ k, k ≤ s.length ∧ d = s.take k) (fun d => d.length) ?_ ⟨s.length, Nat.le_refl _, (List.take_length).symm⟩) fun e g => .ret g
 rintro d ⟨k, f, rfl⟩
 have b : (s.take k).length = k := by simp_all
 show Tot (jE none c (s.take k)) _
 unfold jE
 rw [b]
 refine .ck (fun h => by omega) (.ck (fun h => by omega) (.ite (fun h => .ck (by omega) (.ck (by omega) (.ret ⟨⟨k - 1, by omega, ?_⟩, ?_⟩))) fun h => .ret ⟨k, f, rfl⟩))
 ·simp_all [List.take_take]
 ·have := h.1
  show (List.take _ (s.take k)).length < k
  rw [List.length_take, b]
  omega
theorem bAF {A : List Bool} {c : Nat} (hc : c < 256) : Tot (eR none A c) (fun _ => True) := by
 unfold eR
 exact .ck (by omega) (.ret trivial)
theorem bFL (cs : List Nat) (h : ∀ c ∈ cs, c < 128) (g : cs.length ≤ 1000) : Tot (dZ none cs) (fun r => r.2.1 = true) := by
 unfold dZ
 refine Tot.bind (P := fun e => match e with | .inl _ => True | .inr r => r.2.1 = true) (Tot.loop (fun d : Int × List Bool => 0 ≤ d.1 ∧ d.1 ≤ cs.length) (fun d => ((cs.length : Int) - d.1).toNat) ?_ ⟨by decide, by omega⟩) fun e b => ?_
 ·rintro ⟨i, A⟩ ⟨i0, i1⟩
  have i0 : 0 ≤ i := i0
  have i1 : i ≤ cs.length := i1
  show Tot (dR none cs i A) _
  unfold dR
  refine .ite (fun hi => .ck ⟨i0, hi⟩ ?_) fun _ => .ret trivial
  have hc := h _ (pA 0 (l := cs) (k := i.toNat) (by omega))
  refine .ite (fun f => by omega) fun _ => .ck (by omega) (.ck (by omega) (.ret ⟨⟨by omega, by omega⟩, by omega⟩))
 ·cases e with
  | inl A => exact .ret rfl
  | inr r => exact .ret b
theorem bFM (s : List Nat) (A : List Bool) (hs : T8 s) : Tot (eB none s A) T8 := by
 unfold eB
 refine Tot.bind (Tot.loop T8 (fun d => d.length) ?_ hs) fun e b => .ret b
 intro d hd
 show Tot (eS none A d) _
 unfold eS
 have f := hd.1
 refine .ite (fun h => .ck (by omega) (.ck (by omega) ((bAF (hd.2 _ (pA 0 (by omega)))).bind fun v _ => .ite (fun _ => .ret hd) fun _ => .ck (by omega) (.ck (by omega) (.ret ⟨hd.take _, ?_⟩))))) fun _ => .ret hd
 grind
theorem bFN (s : List Nat) (A : List Bool) (hs : T8 s) : Tot (eH none s A) T8 := by
 unfold eH
 refine Tot.bind (Tot.loop T8 (fun d => d.length) ?_ hs) fun e b => .ret b
 intro d hd
 show Tot (fB none A d) _
 unfold fB
 refine .ite (fun h => .ck h ((bAF (hd.2 _ (pA 0 (by omega)))).bind fun v _ => .ite (fun _ => .ret hd) fun _ => .ck (by omega) (.ret ⟨hd.drop _, ?_⟩))) fun _ => .ret hd
 grind
theorem bDW (s cs : List Nat) (hs : T8 s) (h : ∀ c ∈ cs, c < 128) (q : 2 ≤ cs.length) (j : cs.length ≤ 1000) : Tot (kW none s cs) (fun _ => True) := by
 unfold kW
 refine .ite (fun _ => .ret trivial) fun _ => .ck (fun h => by omega) (.ite (fun h => absurd h.1 (by omega)) fun _ => (bFL cs h j).bind fun v hv => .ite (fun _ => (bFM s _ hs).bind fun a g => (bFN a _ g).bind fun b _ => .ret trivial) fun f => absurd hv f)
theorem aNZ (w : List Nat) (b : T8 w) : Tot (jV none w) (fun _ => True) := by
 unfold jV
 refine .ck (fun h => by omega) (.ck (fun h => by omega) (.ite (fun _ => .ret trivial) fun _ => (bDW w _ b xAb xAb xAb).bind fun v _ => .ck (fun _ => rfl) (.ck (fun _ => ?_) (.ret trivial))))
 simp_all [nP, Option.getD_some, contains_eq]
theorem aUY (l : List qa) (h : ∀ x ∈ l, T8 x) (f : l.length ≤ 100000) : Tot (qT none l) (fun _ => True) := by
 unfold qT
 refine Tot.bind (P := fun _ => True) (Tot.loop (fun d : Int × List (List Nat × Bool) => 0 ≤ d.1 ∧ d.1 ≤ l.length) (fun d => ((l.length : Int) - d.1).toNat) ?_ ⟨by decide, by omega⟩) fun e b => ?_
 ·rintro ⟨i, A⟩ ⟨i0, i1⟩
  have i0 : 0 ≤ i := i0
  have i1 : i ≤ l.length := i1
  show Tot (tX none l i A) _
  unfold tX
  exact .ite (fun hi => .ck ⟨i0, hi⟩ ((aNZ _ (h _ (pA [] (by omega)))).bind fun v _ => .ite (fun _ => .ret trivial) fun _ => .ck (by omega) (.ret ⟨⟨by omega, by omega⟩, by omega⟩))) fun _ => .ret trivial
 ·cases e <;> exact .ret trivial
end Nu
end Go.Proofs
namespace Go.Proofs
open Go.Vc
set_option maxRecDepth 20000
namespace Nu
theorem Tot.idx {X E : Type} (n : Nat) (I : X → Nat → Prop) {step : Int × X → Option ((Int × X) ⊕ E)} {P : E → Prop} (g : n ≤ 1000000)
  (h : ∀ (i : Int) (x : X), 0 ≤ i → i < n → I64 (i + 1) → I x i.toNat → Tot (step (i, x)) (fun q => match q with | .inl d => d.1 = i + 1 ∧ I d.2 (i.toNat + 1) | .inr e => P e))
  (b : ∀ (x : X), I x n → Tot (step ((n : Int), x)) (fun q => match q with | .inl d => False | .inr e => P e)) {x : X} (h0 : I x 0) : Tot (dG none step ((0 : Int), x)) P := by
 refine Tot.loop (fun d : Int × X => (0 : Int) ≤ d.1 ∧ d.1 ≤ (n : Int) ∧ I d.2 d.1.toNat) (fun d => ((n : Int) - d.1).toNat) ?_ ⟨Int.le_refl 0, by omega, h0⟩
 rintro ⟨i, x⟩ ⟨i0, i1, f⟩
 have i0 : 0 ≤ i := i0
 have i1 : i ≤ n := i1
 rcases Int.lt_or_le i n with hi | hi
 ·refine (h i x i0 hi (by omega) f).mono fun q hq => ?_
  grind
 ·have : i = n := by omega
  subst this
  grind [mono]
theorem Tot.idx1 {E : Type} (n : Nat) {step : Int → Option (Int ⊕ E)} {P : E → Prop} (f : n ≤ 1000000)
  (h : ∀ (i : Int), 0 ≤ i → i < n → I64 (i + 1) → Tot (step i) (fun q => match q with | .inl d => d = i + 1 | .inr e => P e))
  (b : Tot (step (n : Int)) (fun q => match q with | .inl d => False | .inr e => P e)) : Tot (dG none step (0 : Int)) P := by
 refine Tot.loop (fun d : Int => (0 : Int) ≤ d ∧ d ≤ (n : Int)) (fun d => ((n : Int) - d).toNat) ?_ ⟨Int.le_refl 0, by omega⟩
 grind [Int.lt_or_le, mono]
def OkE (e : Ex) : Prop := ∃ n, n ≤ 64 ∧ fits n e ∧ nd n e ≤ 1000
theorem aQf (e : Ex) (names : List qa) (q : OkE e) (g : names.length ≤ 1000) : Tot (nC none e names) (fun _ => True) := by
 obtain ⟨n, f, b, j⟩ := q
 unfold nC
 exact (Tot.of (P := fun _ => True) (bG8 b f j) trivial).bind fun v _ => .ck (fun _ => by rw [bAE names g n 64 e f b]; rfl) (.ret trivial)
theorem bFO (l : List (List Nat × Ex × Unit)) (names : List qa) (g : ∀ x ∈ l, OkE x.2.1) (f : names.length ≤ 1000) (j : l.length ≤ 1000) : Tot (bJ none l (names, ())) (fun _ => True) := by
 unfold bJ cO
 refine Tot.bind (P := fun _ => True) (Tot.bind (P := fun _ => True) (Tot.idx1 l.length (by omega) (fun i i0 hi b => ?_) ?_) fun e _ => ?_) fun v _ => .ret trivial
 ·unfold cF
  refine .ite (fun _ => .ck ⟨i0, hi⟩ ?_) fun h => absurd hi h
  refine Tot.bind (P := fun _ => True) ?_ fun v _ => .ite (fun _ => .ret trivial) fun _ => .ck b (.ret rfl)
  unfold uA
  exact (aQf _ names (g _ (pA _ (by omega))) f).bind fun v _ => .ret trivial
 ·unfold cF
  exact .ite (fun h => absurd h (by omega)) fun _ => .ret trivial
 ·cases e <;> exact .ret trivial
def TL (n : Nat) (l : List qa) : Prop := l.length ≤ n ∧ ∀ x ∈ l, T8 x
theorem TL.app {n m : Nat} {a b : List qa} (h : TL n a) (k : TL m b) : TL (n + m) (a ++ b) := ⟨by rw [List.length_append]; have := h.1; have := k.1; omega, fun x f => (List.mem_append.1 f).elim (h.2 x) (k.2 x)⟩
theorem TL.one {w : List Nat} (h : T8 w) : TL 1 [w] := ⟨Nat.le_refl 1, fun x b => by simp_all⟩
theorem TL.up {n m : Nat} {a : List qa} (h : TL n a) (k : n ≤ m) : TL m a := ⟨Nat.le_trans h.1 k, h.2⟩
structure bAG (s : aQ9) : Prop where
 n : T8 s.1
 x : s.2.1.length ≤ 1000 ∧ ∀ a ∈ s.2.1, T8 a.1 ∧ T8 a.2.1.1 ∧ T8 a.2.1.2.1 ∧ OkE a.2.2.1
 p : s.2.2.1.length ≤ 1000 ∧ ∀ a ∈ s.2.2.1, T8 a.1 ∧ T8 a.2.1.1 ∧ T8 a.2.1.2.1
 u : TL 1000 s.2.2.2.1
 o : s.2.2.2.2.1.length ≤ 1000 ∧ ∀ a ∈ s.2.2.2.2.1, T8 a.1 ∧ OkE a.2.1
theorem bBG (s : aQ9) (h : bAG s) : Tot (aY none s) (fun r => TL s.2.1.length r.1 ∧ TL s.2.2.1.length r.2.1 ∧ r.2.2.1 = s.2.2.2.1) := by
 unfold aY
 have g := h.x.1
 have hp := h.p.1
 refine Tot.bind (P := fun l => TL s.2.1.length l) (Tot.idx s.2.1.length (fun l i => TL i l) (by omega) (fun i l i0 hi b f => ?_) (fun l f => ?_) ⟨by decide, fun x g => by cases g⟩) fun l z => ?_
 ·show Tot (qY none s i l) _
  unfold qY
  have := f.1
  exact .ite (fun _ => .ck ⟨i0, hi⟩ (.ck (by omega) (.ck b (.ret ⟨rfl, f.app (.one (h.x.2 _ (pA _ (by omega))).1)⟩)))) fun j => absurd hi j
 ·simp_all [Tot, qY, ite, absurd]
 ·unfold tW
  refine Tot.bind (P := fun l => TL s.2.2.1.length l) (Tot.idx s.2.2.1.length (fun l i => TL i l) (by omega) (fun i l i0 hi b f => ?_) (fun l f => ?_) ⟨by decide, fun x g => by cases g⟩) fun q hq => ?_
  ·show Tot (qX none s i l) _
   unfold qX
   have := f.1
   exact .ite (fun _ => .ck ⟨i0, hi⟩ (.ck (by omega) (.ck b (.ret ⟨rfl, f.app (.one (h.p.2 _ (pA _ (by omega))).1)⟩)))) fun j => absurd hi j
  ·simp_all [Tot, qX, ite, absurd]
  ·unfold tV
   exact .ret ⟨z, hq, rfl⟩
theorem aZw (a b c : List qa) {n : Nat} (J : n ≤ 1000) (U : TL n a) (hb : TL n b) (hc : TL n c) : Tot (bO none [a, b, c]) (TL (n * 3)) := by
 have Z := U.1
 have b1 := hb.1
 have c1 := hc.1
 have g : ∀ i : Int, 0 ≤ i → i < (3 : Nat) → TL n (([a, b, c] : List qx).getD i.toNat []) := fun i W O => by
  grind
 unfold bO
 refine Tot.bind (P := fun k : Int => 0 ≤ k ∧ k ≤ 3000) ?_ fun k hk => ?_
 ·refine Tot.loop (fun d : Int × Int => 0 ≤ d.2 ∧ d.2 ≤ 3 ∧ 0 ≤ d.1 ∧ d.1 ≤ 1000 * d.2) (fun d => (3 - d.2).toNat) ?_ ⟨by decide, by decide, by decide, by decide⟩
  rintro ⟨k, i⟩ ⟨i0, i1, j, I⟩
  have i0 : 0 ≤ i := i0
  have i1 : i ≤ 3 := i1
  have j : 0 ≤ k := j
  have I : k ≤ 1000 * i := I
  show Tot (kC none [a, b, c] k i) _
  unfold kC
  refine .ite (fun hi => ?_) fun _ => .ret ⟨j, by omega⟩
  have q : i < (3 : Nat) := hi
  have := (g i i0 q).1
  exact .ck ⟨i0, hi⟩ (.ck (by omega) (.ite (fun f => by omega) fun _ => .ck (by omega) (.ret ⟨⟨by omega, by omega, by omega, by omega⟩, by omega⟩)))
 ·unfold kB lW
  refine Tot.bind (P := fun r => r = []) (.ck (by omega) (.ret rfl)) fun r L => ?_
  subst L
  refine Tot.bind (P := TL (n * 3)) (Tot.idx 3 (fun l i => TL (n * i) l) xAb (fun i l i0 hi s z => ?_) (fun l z => ?_) ⟨by simp, fun x N => by cases N⟩) fun l Y => .ret Y
  ·show Tot (gJ none [a, b, c] i l) _
   unfold gJ
   have W := z.1
   have O := (g i i0 hi).1
   have h3 : n * i.toNat ≤ 1000 * 3 := Nat.mul_le_mul J (by omega)
   exact .ite (fun f => .ck ⟨i0, f⟩ (.ck (by omega) (.ck s (.ret ⟨rfl, by have := z.app (g i i0 hi); omega⟩)))) fun f => absurd hi f
  simp_all [Tot, gJ, ite, absurd]
end Nu
end Go.Proofs
namespace Go.Proofs
open Go.Vc
set_option maxRecDepth 20000
namespace Nu
theorem aZx (s : aQ9) (h : bAG s) : Tot (uB none s) (fun _ => True) := by
 unfold uB
 refine .ite (fun _ => .ret trivial) fun hb => ?_
 have O := h.x.1
 have L : s.2.1.length ≤ 6 := by omega
 have I : s.2.2.1.length ≤ 6 := by omega
 have z : s.2.2.2.1.length ≤ 6 := by omega
 have ho6 : s.2.2.2.2.1.length ≤ 6 := by omega
 have N := bBG s h
 obtain ⟨g1, g2, g3⟩ := N.get (([] : List qa), ([] : List qa), ([] : List qa), ())
 have C := aZw _ _ _ (n := 6) xAb (g1.up L) (g2.up I) (show TL 6 ((aY none s).getD (([] : List qa), ([] : List qa), ([] : List qa), ())).2.2.1 from by rw [g3]; exact ⟨z, h.u.2⟩)
 have G := C.get ([] : List qa)
 refine .ck N.sJ (.ck C.sJ (.ck (by have := G.1; omega) ?_))
 have hC := C.sJ
 have hN : ∀ {P : Bool → Prop}, True := trivial
 revert G
 generalize U : ((bO none ([((aY none s).getD (([] : List qa), ([] : List qa), ([] : List qa), ())).1, ((aY none s).getD (([] : List qa), ([] : List qa), ([] : List qa), ())).2.1, ((aY none s).getD (([] : List qa), ([] : List qa), ([] : List qa), ())).2.2.1] : List qx)).getD ([] : List qa)) = A
 intro G
 refine Tot.bind (P := TL 24) (Tot.idx s.2.2.2.2.1.length (fun l i => TL (18 + i) l) (by omega) (fun i l i0 hi g q => ?_) (fun l q => ?_) G) fun all j => ?_
 ·show Tot (oW none s i l) _
  unfold oW
  have := q.1
  exact .ite (fun _ => .ck ⟨i0, hi⟩ (.ck (by omega) (.ck g (.ret ⟨rfl, q.app (.one (h.o.2 _ (pA _ (by omega))).1)⟩)))) fun f => absurd hi f
 ·show Tot (oW none s _ l) _
  unfold oW
  exact .ite (fun f => absurd f (by omega)) fun _ => .ret (q.up (by omega))
 ·unfold wU
  have Z := aUY all j.2 (by have := j.1; omega)
  refine .ck Z.sJ (.ite (fun _ => .ret trivial) fun _ => Tot.bind (P := fun _ => True) (Tot.idx1 s.2.1.length (by omega) (fun i i0 hi g => ?_) ?_) fun e _ => ?_)
  ·unfold vK
   rw [U]
   refine .ite (fun _ => .ck ⟨i0, hi⟩ ?_) fun f => absurd hi f
   obtain ⟨Y, r, J, W⟩ := h.x.2 _ (pA (([] : List Nat), (([] : List Nat), ([] : List Nat), ()), (Ex.mk 0 [] []), ()) (l := s.2.1) (k := i.toNat) (by omega))
   exact .ck (aTl _ r.1 J.1).sJ (.ck (fun _ => (aQf _ A W (by have := G.1; omega)).sJ) (.ite (fun _ => .ret trivial) fun _ => .ck g (.ret rfl)))
  ·unfold vK
   exact .ite (fun f => absurd f (by omega)) fun _ => .ret trivial
  ·cases e with
   | inr b => exact .ret trivial
   | inl u =>
    show Tot (sY none s) _
    unfold sY
    refine Tot.bind (P := fun _ => True) (Tot.idx1 s.2.2.1.length (by omega) (fun i i0 hi g => ?_) ?_) fun e _ => ?_
    ·unfold vJ
     refine .ite (fun _ => .ck ⟨i0, hi⟩ ?_) fun f => absurd hi f
     obtain ⟨Y, r, J⟩ := h.p.2 _ (pA (([] : List Nat), (([] : List Nat), ([] : List Nat), ()), ()) (l := s.2.2.1) (k := i.toNat) (by omega))
     exact .ck (aTl _ r.1 J.1).sJ (.ite (fun _ => .ret trivial) fun _ => .ck g (.ret rfl))
    ·unfold vJ
     exact .ite (fun f => absurd f (by omega)) fun _ => .ret trivial
    ·cases e with
     | inr b => exact .ret trivial
     | inl u =>
      rw [U]
      exact .ck (bFO _ A (fun x O => (h.o.2 x O).2) (by have := G.1; omega) h.o.1).sJ (.ret trivial)
abbrev TLk : Type := List Nat × List Nat × List Nat × List Nat × Unit
structure bFP (s : TSc) : Prop where
 e : T8 s.2.2.2.2.1
 h0 : T8 s.2.2.2.2.2.1
 hm : T8 s.2.2.2.2.2.2.1
 t : T8 s.2.2.2.2.2.2.2.1
 sb : s.2.2.2.2.2.2.2.2.1.length ≤ 1000 ∧ ∀ a ∈ s.2.2.2.2.2.2.2.2.1, bAG a
 l : s.2.2.2.2.2.2.2.2.2.1.length ≤ 1000
theorem bDX (s : TSc) (h : bFP s) (w : List Nat) : Tot (yY none s w) (fun r => r < 0 ∨ (0 ≤ r ∧ r < s.2.2.2.2.2.2.2.2.1.length)) := by
 unfold yY
 refine Tot.bind (P := fun e => match e with | .inl _ => True | .inr r => 0 ≤ r ∧ r < s.2.2.2.2.2.2.2.2.1.length) (Tot.idx1 s.2.2.2.2.2.2.2.2.1.length (by have := h.sb.1; omega) (fun i i0 hi b => ?_) ?_) fun e g => ?_
 ·unfold vY
  exact .ite (fun _ => .ck ⟨i0, hi⟩ (.ite (fun _ => .ret ⟨i0, hi⟩) fun _ => .ck b (.ret rfl))) fun f => absurd hi f
 ·unfold vY
  exact .ite (fun f => absurd f (by omega)) fun _ => .ret trivial
 ·cases e with
  | inl u => exact .ret (.inl xAb)
  | inr r => exact .ret (.inr g)
theorem bFQ (l : List (List Nat × Ex × Unit)) (k : List TLk) (g : 0 < k.length) (f : l.length ≤ 1000) : Tot (bK none l (k, ())) (fun _ => True) := by
 unfold bK cP
 refine Tot.bind (P := fun _ => True) (Tot.bind (P := fun _ => True) (Tot.idx1 l.length (by omega) (fun i i0 hi b => ?_) ?_) fun e _ => ?_) fun v _ => .ret trivial
 ·unfold cG
  refine .ite (fun _ => .ck ⟨i0, hi⟩ ?_) fun h => absurd hi h
  refine Tot.bind (P := fun _ => True) ?_ fun v _ => .ite (fun _ => .ret trivial) fun _ => .ck b (.ret rfl)
  unfold uC
  exact .ck (by simp_all) (.ret trivial)
 ·unfold cG
  exact .ite (fun h => absurd h (by omega)) fun _ => .ret trivial
 ·cases e <;> exact .ret trivial
theorem aZy (s : TSc) (h : bFP s) : Tot (rW none s) (fun _ => True) := by
 have hs := h.sb.1
 unfold rW
 refine Tot.bind (P := fun _ => True) (Tot.idx s.2.2.2.2.2.2.2.2.1.length (fun _ _ => True) (by omega) (fun i l i0 hi q _ => ?_) (fun l _ => ?_) trivial) fun e _ => ?_
 ·show Tot (mS none s i l) _
  unfold mS
  refine .ite (fun _ => .ck ⟨i0, hi⟩ ?_) fun f => absurd hi f
  have g := h.sb.2 _ (pA (([] : List Nat), ([] : List q8), ([] : List wd), ([] : List qa), ([] : List qy), ()) (l := s.2.2.2.2.2.2.2.2.1) (k := i.toNat) (by omega))
  have J := g.u.1
  refine Tot.bind (P := fun _ => True) (Tot.idx _ (fun _ _ => True) (Nat.le_trans J xAb) (fun j k j0 z r _ => ?_) (fun k _ => ?_) trivial) fun e _ => ?_
  ·show Tot (mR none s i j k) _
   unfold mR
   refine .ite (fun _ => .ck ⟨j0, z⟩ (.ck (fun _ => by omega) (.ck (fun _ => by omega) (.ite (fun _ => .ret trivial) fun O => ?_)))) fun f => absurd z f
   have N : 0 < k.length := by
    omega
   refine .ck (by omega) ((bDX s h _).bind fun v hv => .ck (fun _ => by omega) (.ck (fun I => ?_) (.ite (fun _ => .ret trivial) fun _ => .ck (by omega) (.ck r (.ret ⟨rfl, trivial⟩)))))
   have L : 0 ≤ v ∧ v < s.2.2.2.2.2.2.2.2.1.length := by omega
   exact (bFQ _ k N (h.sb.2 _ (pA _ (by omega))).o.1).sJ
  ·show Tot (mR none s i _ k) _
   unfold mR
   exact .ite (fun f => absurd f (Int.lt_irrefl _)) fun _ => .ret trivial
  ·cases e with
   | inl k => exact .ck q (.ret ⟨rfl, trivial⟩)
   | inr b => exact .ret trivial
 ·show Tot (mS none s _ l) _
  unfold mS
  exact .ite (fun f => absurd f (Int.lt_irrefl _)) fun _ => .ret trivial
 ·cases e <;> exact .ret trivial
theorem bFR (s : TSc) (h : bFP s) : Tot (nD none s) (fun _ => True) := by
 have hs := h.sb.1
 unfold nD
 refine (aYl s h.e.1 h.h0.1 h.hm.1 h.t.1).bind fun v _ => .ite (fun _ => .ret trivial) fun _ => ?_
 refine Tot.bind (P := fun e => match e with | .inl l => TL 1000 l | .inr _ => True) (Tot.idx s.2.2.2.2.2.2.2.2.1.length (fun l i => TL i l) (by omega) (fun i l i0 hi j g => ?_) (fun l g => ?_) ⟨Nat.le_refl 0, fun x z => by cases z⟩) fun e r => ?_
 ·show Tot (rX none s i l) _
  unfold rX
  have f := h.sb.2 _ (pA (([] : List Nat), ([] : List q8), ([] : List wd), ([] : List qa), ([] : List qy), ()) (l := s.2.2.2.2.2.2.2.2.1) (k := i.toNat) (by omega))
  have := g.1
  exact .ite (fun _ => .ck ⟨i0, hi⟩ ((aZx _ f).bind fun v _ => .ite (fun _ => .ret trivial) fun _ => .ck (by omega) (.ck j (.ret ⟨rfl, g.app (.one f.n)⟩)))) fun q => absurd hi q
 ·show Tot (rX none s _ l) _
  unfold rX
  exact .ite (fun q => absurd q (Int.lt_irrefl _)) fun _ => .ret (g.up hs)
 ·cases e with
  | inr b => exact .ret trivial
  | inl l =>
   show Tot (uD none s l) _
   unfold uD
   exact (aUY l r.2 (by have := r.1; omega)).bind fun v _ => .ck (fun _ => (aZy s h).sJ) (.ret trivial)
end Nu
end Go.Proofs
namespace Go.Proofs
open Go.Vc
set_option maxRecDepth 20000
namespace Nu
theorem aYm : ∀ (n k : Nat) (e : Ex) (a b d0 : Nat), (n ≤ k ∨ (a ≤ 31 ∧ 32 ≤ a + k)) → fits n e → a + n ≤ 1000 → b + nd n e ≤ 100000 → d0 ≤ 100000 →
  ∃ n' d' : Nat, fP none k e (a : Int) (b : Int) (d0 : Int) = some ((n' : Int), (d' : Int)) ∧ b < n' ∧ n' ≤ b + nd n e ∧ d0 ≤ d' ∧ a ≤ d' ∧ d' ≤ max d0 (a + ht n e - 1) ∧ (n' ≤ 60 → d' ≤ 30 → n' = b + nd n e ∧ d' = max d0 (a + ht n e - 1))
 | 0, k, e, a, b, d0, q, g, W, L, hd => g.elim
 | n + 1, 0, e, a, b, d0, q, g, W, L, hd => absurd q (by omega)
 | n + 1, k + 1, e, a, b, d0, q, g, W, L, hd => by
  obtain ⟨Z, hf2, j⟩ := g
  have hnd : nd (n + 1) e = 1 + aB4 (nd n) e.l := rfl
  have hht : ht (n + 1) e = 1 + mxN (ht n) e.l := rfl
  show ∃ n' d' : Nat, lT none (fP none k) e (a : Int) (b : Int) (d0 : Int) = _ ∧ _
  unfold lT
  by_cases hc : (60 : Int) < (b : Int) + 1 ∨ (30 : Int) < (a : Int)
  ·refine ⟨b + 1, max d0 a, ?_, by omega, by omega, by omega, by omega, by omega, fun _ _ => by omega⟩
   refine aF (by omega) ?_
   grind
  ·obtain ⟨r, hr, x, y, rfl, q1, q2, q3, q4, q5⟩ := lI (step := fun d : Int × Int × Int => eK none (fP none k) e (a : Int) d.1 d.2.1 d.2.2)
    (I := fun d => ∃ i x y : Nat, d = ((i : Int), (x : Int), (y : Int)) ∧ i ≤ e.l.length ∧ b + 1 ≤ x ∧ x ≤ b + 1 + aB4 (nd n) (e.l.take i) ∧ max d0 a ≤ y ∧ y ≤ max (max d0 a) (a + mxN (ht n) (e.l.take i)) ∧ (x ≤ 60 → y ≤ 30 → x = b + 1 + aB4 (nd n) (e.l.take i) ∧ y = max (max d0 a) (a + mxN (ht n) (e.l.take i))))
    (fun d => ((e.l.length : Int) - d.1).toNat)
    (fun r => ∃ x y : Nat, r = ((x : Int), (y : Int)) ∧ b + 1 ≤ x ∧ x ≤ b + 1 + aB4 (nd n) e.l ∧ max d0 a ≤ y ∧ y ≤ max (max d0 a) (a + mxN (ht n) e.l) ∧ (x ≤ 60 → y ≤ 30 → x = b + 1 + aB4 (nd n) e.l ∧ y = max (max d0 a) (a + mxN (ht n) e.l)))
    (by
     rintro d ⟨i, x, y, rfl, h1, h2, s, Y, z, O⟩
     show (∃ d', eK none (fP none k) e (a : Int) (i : Int) (x : Int) (y : Int) = _ ∧ _) ∨ ∃ r, eK none (fP none k) e (a : Int) (i : Int) (x : Int) (y : Int) = _ ∧ _
     unfold eK
     by_cases hi : i < e.l.length
     ·left
      have s1 := aYj (nd n) hi
      have s2 := aPp (nd n) hi
      have s3 := aYi (ht n) hi
      have f := j _ (aTk hi)
      have hm := aWv (bAC n) (e.l.take i)
      have hy : y ≤ 100000 := by omega
      ·obtain ⟨J, N, U, p2, p3, p4, p5, p6, p7⟩ := aYm n k (e.l.getD i (Ex.mk 0 [] [])) (a + 1) x y (by omega) f (by omega) (by omega) hy
       rw [show ((a + 1 : Nat) : Int) = (a : Int) + 1 from by omega] at U
       refine ⟨(((i + 1 : Nat) : Int), (J : Int), (N : Int)), ?_, ⟨i + 1, J, N, rfl, by omega, by omega, by omega, by omega, by omega, fun c1 c2 => ?_⟩, by omega⟩
       ·rw [if_pos (by omega), Int.toNat_natCast]
        refine aF (by omega) (aF (by omega) (bP U (aF (by omega) ?_)))
        congr 3
       omega
     ·right
      have e1 : e.l.take i = e.l := aUW (by omega)
      rw [e1] at s z O
      refine ⟨((x : Int), (y : Int)), ?_, x, y, rfl, h2, s, Y, z, O⟩
      grind)
    ((0 : Int), (b : Int) + 1, max (d0 : Int) (a : Int)) ⟨0, b + 1, max d0 a, by grind, by omega, by omega, by omega, by omega, by omega, fun _ _ => by rw [bDR, bGi]; omega⟩
   refine ⟨x, y, ?_, by omega, by omega, by omega, by omega, by omega, fun c1 c2 => by omega⟩
   refine aF (by omega) ?_
   grind
theorem bFS {n : Nat} {e : Ex} (b : fits n e) (f : n ≤ 900) (hd : nd n e ≤ 10000) : oI none e = some (decide (nd n e ≤ 60 ∧ ht n e ≤ 30)) := by
 obtain ⟨x, y, I, r, j, s, z, g, q⟩ := aYm n 64 e 1 0 0 (.inr xAb) b (by omega) (by omega) (by omega)
 have hp := bDS b
 unfold oI yO
 grind
theorem bAH (f : Ex → Nat) : ∀ {l : List Ex} {x : Ex}, x ∈ l → f x ≤ mxN f l
 | y :: l, x, h => by
  show f x ≤ max (f y) (mxN f l)
  rcases List.mem_cons.1 h with rfl | h
  ·omega
  ·exact Nat.le_trans (bAH f h) (Nat.le_max_right _ _)
theorem aUZ {f g : Ex → Nat} : ∀ {l : List Ex}, (∀ x ∈ l, f x = g x) → aB4 f l = aB4 g l
 | [], _ => rfl
 | y :: l, h => by
  show f y + aB4 f l = g y + aB4 g l
  rw [h y (.head _), aUZ fun x b => h x (.tail _ b)]
theorem aWy : ∀ (n m : Nat) (e : Ex), fits n e → ht n e ≤ m → fits m e ∧ nd m e = nd n e
 | 0, m, e, g, _ => g.elim
 | n + 1, 0, e, g, h => by
  have : ht (n + 1) e = 1 + mxN (ht n) e.l := rfl
  omega
 | n + 1, m + 1, e, ⟨r, q, j⟩, h => by
  have s : ht (n + 1) e = 1 + mxN (ht n) e.l := rfl
  have f : ∀ x ∈ e.l, fits m x ∧ nd m x = nd n x := fun x b => aWy n m x (j x b) (by grind [bAH, ht])
  refine ⟨⟨r, q, fun x b => (f x b).1⟩, ?_⟩
  grind [aB4, nd, aUZ]
theorem bFT {n : Nat} {e : Ex} (f : fits n e) (g : n ≤ 900) (hd : nd n e ≤ 10000) : Tot (oI none e) (fun b => b = true → OkE e) := by
 refine .of (bFS f g hd) fun h => ?_
 have h := of_decide_eq_true h
 obtain ⟨j, q⟩ := aWy n 30 e f h.2
 exact ⟨30, by decide, j, by omega⟩
end Nu
end Go.Proofs
namespace Go.Proofs
open Go.Vc
set_option maxRecDepth 20000
namespace Nu
theorem aRl {D E : Type} {step : D → Option (D ⊕ E)} {d d' : D} {r : E} (h : step d = some (.inl d')) (b : aGn step d' = some r) : aGn step d = some r := by
 obtain ⟨n, f⟩ := bBg.1 b
 exact aHk (n := n + 1) (by grind [iter])
theorem aGY {D E : Type} {step : D → Option (D ⊕ E)} {d : D} {r : E} (h : step d = some (.inr r)) : aGn step d = some r := aHk (n := 1) (by rw [iter, h])
theorem ify {α : Type} {p : Prop} {i : Decidable p} {x y r : α} (hp : p) (h : x = r) : @ite α p i x y = r := (if_pos hp).trans h
theorem ifn {α : Type} {p : Prop} {i : Decidable p} {x y r : α} (hp : ¬ p) (h : y = r) : @ite α p i x y = r := (if_neg hp).trans h
def bDY (c : Nat) : Bool := c == 32
def aU0 (c : Nat) : Bool := decide (97 ≤ c ∧ c ≤ 122)
def qH (c : Nat) : Bool := aU0 c || zS c || c == 95
def run (p : Nat → Bool) (s : List Nat) (i : Nat) : Nat := ((s.drop i).takeWhile p).length
theorem aTm (p : Nat → Bool) (s : List Nat) (i : Nat) : run p s i ≤ s.length - i := by
 have := (List.takeWhile_prefix (p := p) (l := s.drop i)).length_le
 rw [List.length_drop] at this
 exact this
theorem aWz {p : Nat → Bool} {s : List Nat} {i : Nat} (h : i < s.length) (hp : p (s.getD i 0) = true) : run p s i = run p s (i + 1) + 1 := by
 have e : s.getD i 0 = s[i] := by simp_all
 grind [run, List.drop_eq_getElem_cons, List.takeWhile_cons_of_pos, List.length_cons]
theorem bAI {p : Nat → Bool} {s : List Nat} {i : Nat} (h : i < s.length → p (s.getD i 0) = false) : run p s i = 0 := by
 unfold run
 by_cases hi : i < s.length
 ·have e : s.getD i 0 = s[i] := by rw [List.getD_eq_getElem?_getD, List.getElem?_eq_getElem hi]; rfl
  have := h hi
  rw [e] at this
  rw [List.drop_eq_getElem_cons hi, List.takeWhile_cons_of_neg (by rw [this]; decide)]
  rfl
 simp_all [List.drop_eq_nil_of_le]
def skp (s : List Nat) (i : Nat) : Nat := i + run bDY s i
theorem aDE (s : List Nat) (i : Nat) (h : i ≤ s.length) : i ≤ skp s i ∧ skp s i ≤ s.length := by
 grind [aTm, bDY, skp]
abbrev RD0 : Type := List Nat × (Int × qn)
abbrev st (s : List Nat) (p n : Nat) : RD0 := (s, (p : Int), (n : Int), ())
theorem aWA (s : List Nat) (hs : s.length ≤ 1099511627776) : ∀ (k p n : Nat), k = s.length - p → p ≤ s.length → iD none (st s p n) = some (st s (skp s p) n) := by
 have f : ∀ (k p n : Nat), k = s.length - p → p ≤ s.length → aGn (fun d : RD0 => eD none d) (st s p n) = some (st s (skp s p) n) := by
  intro k
  induction k with
  | zero =>
   intro p n b hp
   have e : skp s p = p := by grind [aDE]
   rw [e]
   refine aGY ?_
   show eD none (st s p n) = _
   unfold eD
   refine aF (fun h => by simp_all) ?_
   grind
  | succ k g =>
   intro p n b hp
   by_cases hb : bDY (s.getD p 0) = true
   ·have e : skp s p = skp s (p + 1) := by unfold skp; grind [aWz]
    rw [e]
    refine aRl (d' := st s (p + 1) n) ?_ (g (p + 1) n (by omega) (by omega))
    show eD none (st s p n) = _
    unfold eD
    have hb : s.getD p 0 = 32 := by grind [bDY]
    refine aF (fun _ => ⟨by simp_all, by omega⟩) ?_
    rw [if_pos ⟨by grind, by simp_all⟩]
    refine aF (by grind) rfl
   ·have e : skp s p = p := by
     grind [skp, bAI]
    rw [e]
    refine aGY ?_
    show eD none (st s p n) = _
    unfold eD
    simp_all [aF, if_neg, Int.toNat_natCast, bDY]
 intro k p n b hp
 unfold iD
 simp_all
theorem bDZ (l : List Nat) (c : Nat) : ∀ k, aWi l c k < 0 ↔ c ∉ l := by
 induction l with
 | nil => grind [aWi]
 | cons b r f =>
  intro k
  rw [aWi]
  grind
theorem aKr (l : List Nat) (c : Nat) : aT none l c = some (aIB l c) := rfl
theorem aRm (l : List Nat) (c : Nat) : aIB l c < 0 ↔ c ∉ l := bDZ l c 0
def aPq (s : List Nat) (l : List Nat) (q : Nat) : Prop := q < s.length ∧ s.getD q 0 ∈ l
instance (s l : List Nat) (q : Nat) : Decidable (aPq s l q) := inferInstanceAs (Decidable (_ ∧ _))
theorem aZz {s l : List Nat} (hs : s.length ≤ 1099511627776) {p n : Nat} (hp : p ≤ s.length) (h : aPq s l (skp s p)) :
  eX none l (st s p n) = some ((s.getD (skp s p) 0, true, ()), st s (skp s p + 1) n) := by
 have b := aDE s p hp
 have g := h.1
 have f : ¬ aIB l (s.getD (skp s p) 0) < 0 := fun e => (aRm _ _).1 e h.2
 unfold eX
 refine bP (aWA s hs _ p n rfl hp) ?_
 simp only [aKr, Int.toNat_natCast, Option.isSome_some, Option.getD_some]
 refine aF (fun h => ⟨by omega, by omega⟩) (aF (fun _ => trivial) (ifn (by omega) ?_))
 refine aF (by omega) (aF (by omega) (aF (by omega) ?_))
 simp_all
theorem bD0 {s l : List Nat} (hs : s.length ≤ 1099511627776) {p n : Nat} (hp : p ≤ s.length) (h : ¬ aPq s l (skp s p)) :
  eX none l (st s p n) = some ((0, false, ()), st s (skp s p) n) := by
 have f := aDE s p hp
 unfold eX
 refine bP (aWA s hs _ p n rfl hp) ?_
 simp only [aKr, Int.toNat_natCast, Option.isSome_some, Option.getD_some]
 refine aF (fun h => ⟨by omega, by omega⟩) (aF (fun _ => trivial) (ify ?_ rfl))
 by_cases b : skp s p < s.length
 ·exact .inr ((aRm _ _).2 fun e => h ⟨b, e⟩)
 omega
theorem aYn {s l : List Nat} (hs : s.length ≤ 1099511627776) {p n : Nat} (hp : p ≤ s.length) (h : aPq s l (skp s p)) :
  eL none l (st s p n) = some (.inl (st s (skp s p + 1) n)) := by
 unfold eL
 exact bP (aZz hs hp h) (ifn (by simp) rfl)
theorem bAJ {s l : List Nat} (hs : s.length ≤ 1099511627776) {p n : Nat} (hp : p ≤ s.length) (h : ¬ aPq s l (skp s p)) :
  eL none l (st s p n) = some (.inr ((skp s p : Int), ())) := by
 unfold eL
 exact bP (bD0 hs hp h) (ify (by simp) rfl)
theorem aJ4 (k : Int) (t : List Nat) (l : List Ex) (s : List Nat) (p n : Nat) (b : n ≤ 4611686018427387904) : dL none k t l (st s p n) = some (Ex.mk k t l, st s p (n + 1)) := by
 unfold dL
 exact aF (by grind) rfl
def aQg (s : List Nat) (i : Nat) : Nat :=
 if oZ s i 101 then
  let k := if oZ s (i + 1) 43 ∨ oZ s (i + 1) 45 then i + 2 else i + 1
  if 1 ≤ dD s k ∧ dD s k ≤ 3 ∧ vO ((s.drop k).take (dD s k)) ≤ 100 then k + dD s k else i
 else i
def aDs (s : List Nat) (p : Nat) : Nat :=
 if dD s p = 0 then 0
 else aQg s (if oZ s (p + dD s p) 46 ∧ 0 < dD s (p + dD s p + 1) then p + dD s p + 1 + dD s (p + dD s p + 1) else p + dD s p) - p
theorem bAK (s : List Nat) (hs : s.length ≤ 1099511627776) (p i k : Nat) (hp : p ≤ i) (hi : i ≤ s.length) (q : k ≤ s.length) (j : p ≤ k) :
  tF none s (p : Int) (i : Int) (k : Int) = some ((if 1 ≤ dD s k ∧ dD s k ≤ 3 ∧ vO ((s.drop k).take (dD s k)) ≤ 100 then k + dD s k else i : Nat) - (p : Int)) := by
 have hd := aB2 s k
 unfold tF
 refine bP (zF s k (by omega) (by omega)) ?_
 have hm : min (dD s k : Int) 4 = ((min (dD s k) 4 : Nat) : Int) := by omega
 rw [hm]
 have ht : List.drop (k : Int).toNat (List.take ((k : Int) + ((min (dD s k) 4 : Nat) : Int)).toNat s) = (s.drop k).take (min (dD s k) 4) := by
  grind [List.drop_take, Int.toNat_natCast]
 have r : ((s.drop k).take (min (dD s k) 4)).length = min (dD s k) 4 := by grind
 have h0 : aV ⟨#[48]⟩ = [48] := rfl
 have b : ∀ c ∈ [48] ++ (s.drop k).take (min (dD s k) 4), zS c = true := by
  intro c hc
  rcases List.mem_append.1 hc with hc | hc
  ·simp at hc; subst hc; decide
  ·refine aNW s k c ?_
   have : (s.drop k).take (min (dD s k) 4) = ((s.drop k).take (dD s k)).take 4 := by grind
   grind
 simp only [ht, h0]
 refine aF (by omega) (aF (by omega) (aF (by grind) ?_))
 refine bP (aWs _ b (by simp) (by grind)) ?_
 have g : vO ([48] ++ (s.drop k).take (min (dD s k) 4)) = vO ((s.drop k).take (min (dD s k) 4)) := by rfl
 by_cases hc : 1 ≤ dD s k ∧ dD s k ≤ 3 ∧ vO ((s.drop k).take (dD s k)) ≤ 100
 ·have f : min (dD s k) 4 = dD s k := by omega
  rw [f] at g
  rw [if_pos ⟨by omega, by grind⟩, if_pos hc]
  refine aF (by omega) (aF (by omega) ?_)
  congr 1
 ·rw [if_neg, if_neg hc]
  ·refine aF (by omega) rfl
  grind
theorem bFU (s : List Nat) (hs : s.length ≤ 1099511627776) (p i : Nat) (hp : p ≤ i) (hi : i ≤ s.length) : oC none s (p : Int) (i : Int) = some ((aQg s i : Int) - (p : Int)) := by
 unfold oC aQg
 have e1 : ((i : Int) + 1).toNat = i + 1 := by omega
 simp only [Int.toNat_natCast, e1]
 refine aF (fun h => ⟨by omega, by omega⟩) ?_
 by_cases g : oZ s i 101
 ·have b : i < s.length ∧ s.getD i 0 = 101 := g
  rw [if_pos ⟨by omega, b.2⟩, if_pos g]
  refine aF (by omega) (aF (fun _ => by omega) (aF (fun _ _ => by omega) ?_))
  by_cases f : oZ s (i + 1) 43 ∨ oZ s (i + 1) 45
  ·have j : (i + 1 < s.length ∧ s.getD (i + 1) 0 = 43) ∨ (i + 1 < s.length ∧ s.getD (i + 1) 0 = 45) := f
   rw [if_pos ⟨by omega, by omega⟩, if_pos f]
   refine aF (by omega) ?_
   have := bAK s hs p i (i + 2) hp hi (by omega) (by omega)
   grind
  ·have j : ¬ ((i + 1 < s.length ∧ s.getD (i + 1) 0 = 43) ∨ (i + 1 < s.length ∧ s.getD (i + 1) 0 = 45)) := f
   rw [if_neg (by omega), if_neg f]
   grind [bAK]
 ·have b : ¬ (i < s.length ∧ s.getD i 0 = 101) := g
  rw [if_neg (fun h => b ⟨by omega, h.2⟩), if_neg g]
  exact aF (by omega) rfl
theorem bD1 (s : List Nat) (i : Nat) : i ≤ aQg s i ∧ (i ≤ s.length → aQg s i ≤ s.length) := by
 unfold aQg
 split
 ·grind [aB2]
 omega
theorem bAL (s : List Nat) (hs : s.length ≤ 1099511627776) (p : Nat) (hp : p ≤ s.length) : fV none s (p : Int) = some (aDs s p : Int) ∧ p + aDs s p ≤ s.length := by
 have hd := aB2 s p
 have I := aB2 s (p + dD s p + 1)
 unfold aDs
 have b : ∀ i, p ≤ i → i ≤ s.length → oC none s (p : Int) (i : Int) = some ((aQg s i - p : Nat) : Int) ∧ p + (aQg s i - p) ≤ s.length := fun i g q => by
  grind [bD1, bFU]
 unfold fV
 by_cases h0 : dD s p = 0
 ·rw [if_pos h0]
  refine ⟨bP (zF s p (by omega) (by omega)) (aF (by omega) ?_), by omega⟩
  simp_all
 ·rw [if_neg h0]
  have e1 : ((p : Int) + (dD s p : Int)).toNat = p + dD s p := by omega
  have z : ((p : Int) + (dD s p : Int)) = ((p + dD s p : Nat) : Int) := by omega
  by_cases g : oZ s (p + dD s p) 46
  ·have j : p + dD s p < s.length ∧ s.getD (p + dD s p) 0 = 46 := g
   have r := zF s (p + dD s p + 1) (by omega) (by omega)
   rw [show ((p + dD s p + 1 : Nat) : Int) = (p : Int) + (dD s p : Int) + 1 from by omega] at r
   by_cases q : 0 < dD s (p + dD s p + 1)
   ·have f := b (p + dD s p + 1 + dD s (p + dD s p + 1)) (by omega) (by omega)
    rw [if_pos ⟨g, q⟩]
    refine ⟨bP (zF s p (by omega) (by omega)) (aF (by omega) ?_), f.2⟩
    rw [if_neg (by omega)]
    refine aF (fun h => by omega) ?_
    rw [if_pos ⟨by omega, by grind⟩]
    refine aF (by omega) (bP r ?_)
    rw [if_pos (by omega)]
    refine aF (by omega) (aF (by omega) ?_)
    grind
   ·have f := b (p + dD s p) (by omega) (by omega)
    rw [if_neg (fun h => q h.2)]
    refine ⟨bP (zF s p (by omega) (by omega)) (aF (by omega) ?_), f.2⟩
    rw [if_neg (by omega)]
    refine aF (fun h => by omega) ?_
    rw [if_pos ⟨by omega, by grind⟩]
    refine aF (by omega) (bP r ?_)
    rw [if_neg (by omega), z]
    grind
  ·have j : ¬ (p + dD s p < s.length ∧ s.getD (p + dD s p) 0 = 46) := g
   have f := b (p + dD s p) (by omega) (by omega)
   rw [if_neg (fun h => g h.1)]
   refine ⟨bP (zF s p (by omega) (by omega)) (aF (by omega) ?_), f.2⟩
   rw [if_neg (by omega)]
   refine aF (fun h => by omega) ?_
   rw [if_neg (fun h => j ⟨by omega, by grind⟩), z]
   grind
end Nu
end Go.Proofs
namespace Go.Proofs
open Go.Vc
set_option maxRecDepth 20000
namespace Nu
abbrev PR : Type := (Ex × Nat) ⊕ Nat
def aIs (o : Option PR) (k : Ex → Nat → Option PR) : Option PR := match o with
 | some (.inl (e, q)) => k e q
 | x => x
def aWB (one : Nat → Option PR) (s : List Nat) (a b : Nat) (ka kb : Int) : Nat → Ex → Nat → Option PR
 | 0, _, _ => none
 | f + 1, e, p => if aPq s [a, b] (skp s p) then
   aIs (one (skp s p + 1)) (fun r z => aWB one s a b ka kb f (Ex.mk (if s.getD (skp s p) 0 = a then ka else kb) [] [e, r]) z)
  else some (.inl (e, skp s p))
def aYo (one : Nat → Option PR) (s : List Nat) (p : Nat) : Option PR := aIs (one p) (aWB one s 42 47 8 9 (s.length + 1))
def bFV (one : Nat → Option PR) (s : List Nat) (p : Nat) : Option PR := aIs (aYo one s p) (aWB (aYo one s) s 43 45 6 7 (s.length + 1))
def pIn (one : Nat → Option PR) (s : List Nat) (p : Nat) : Option PR :=
 if aPq s [40] (skp s p) then
  aIs (bFV one s (skp s p + 1)) (fun e q => if aPq s [41] (skp s q) then some (.inl (e, skp s q + 1)) else some (.inr (skp s q)))
 else some (.inr (skp s p))
def bFW (s : List Nat) (q : Nat) : Option PR :=
 if aDs s q = 0 ∨ 60 < aDs s q then some (.inr q) else some (.inl (Ex.mk 1 ((s.drop q).take (aDs s q)) [], q + aDs s q))
def aPr (s : List Nat) (q : Nat) : List Nat := (s.drop q).take (run qH s q)
def bFX (w : List Nat) : Option Int := if w = [115, 113, 114] then some 11 else if w = [115, 113, 114, 116] then some 12 else if w = [101, 120, 112] then some 13 else none
def bD2 (one : Nat → Option PR) (s : List Nat) (q : Nat) : Option PR := match bFX (aPr s q) with
 | some k => aIs (pIn one s (q + run qH s q)) (fun e z => some (.inl (Ex.mk k [] [e], z)))
 | none => some (.inl (Ex.mk 2 (aPr s q) [], q + run qH s q))
def bD3 (one : Nat → Option PR) (s : List Nat) (q : Nat) : Option PR :=
 if s.length ≤ q then some (.inr q)
 else if s.getD q 0 = 40 then pIn one s q
 else if aU0 (s.getD q 0) = true then bD2 one s q else bFW s q
def aZA (s : List Nat) : Nat → Nat → Option PR
 | 0, _ => none
 | n + 1, p => if aPq s [45] (skp s p) then aIs (aZA s n (skp s p + 1)) (fun e z => some (.inl (Ex.mk 10 [] [e], z)))
  else bD3 (aZA s n) s (skp s p)
abbrev CR : Type := (Ex × RD0) ⊕ qn
def Cor (s : List Nat) (p n : Nat) (x : Option CR) : PR → Prop
 | .inl (e, q) => p ≤ q ∧ q ≤ s.length ∧ ∃ n', n' + p ≤ n + q ∧ x = some (.inl (e, st s q n'))
 | .inr q => q ≤ s.length ∧ x = some (.inr ((q : Int), ()))
def Gd (s : List Nat) (g : RD0 → Option CR) (one : Nat → Option PR) : Prop :=
 ∀ p n r, p ≤ s.length → n + s.length ≤ 1099511627776 + p → one p = some r → Cor s p n (g (st s p n)) r
theorem Cor.mv {s : List Nat} {p q n n' : Nat} {x : Option CR} {r : PR} (h : p ≤ q) (j : n' + p ≤ n + q) (c : Cor s q n' x r) : Cor s p n x r := by
 cases r with
 | inl z =>
  obtain ⟨J, L⟩ := z
  obtain ⟨b1, f, g, I, b⟩ := c
  exact ⟨by omega, f, g, by omega, b⟩
 | inr z => exact c
theorem aN0 {s : List Nat} {o : Option PR} {k : Ex → Nat → Option PR} {r : PR} {I p n : Nat} {x : Option CR} {f : CR → Option CR} (g : aIs o k = some r)
  (J : ∀ b, o = some b → Cor s p n x b)
  (U : ∀ e q n', p ≤ q → q ≤ s.length → n' + p ≤ n + q → k e q = some r → Cor s I n (f (.inl (e, st s q n'))) r)
  (N : ∀ z, f (.inr z) = some (.inr z)) : Cor s I n (x.bind f) r := by
 unfold aIs at g
 cases o with
 | none => cases g
 | some b =>
  cases b with
  | inl y =>
   obtain ⟨e, q⟩ := y
   obtain ⟨j, L, n', O, W⟩ := J _ rfl
   simp_all
  | inr y =>
   obtain ⟨j, L⟩ := J _ rfl
   obtain rfl : .inr y = r := Option.some.inj g
   rw [L]
   exact ⟨j, N _⟩
theorem bAM {s : List Nat} (hs : s.length ≤ 1099511627776) {g : RD0 → Option CR} {one : Nat → Option PR} (W : Gd s g one) {a b : Nat} {ka kb : Int} (O : a ≠ b) : ∀ (f : Nat) (e : Ex) (p n : Nat) (r : PR), p ≤ s.length → n + s.length ≤ 1099511627776 + p →
  aWB one s a b ka kb f e p = some r → Cor s p n (aGn (fun d : RD0 × Ex => bS none g [a, b] [ka, kb] d.1 d.2) (st s p n, e)) r
 | 0, e, p, n, r, hp, hn, j => by cases j
 | f + 1, e, p, n, r, hp, hn, j => by
  have Y := aDE s p hp
  rw [aWB] at j
  by_cases h : aPq s [a, b] (skp s p)
  ·rw [if_pos h] at j
   have h1 := h.1
   have hm := h.2
   have round : ∀ x, g (st s (skp s p + 1) n) = some x → bS none g [a, b] [ka, kb] (st s p n) e =
     match x with
     | .inl r => (dL none (if s.getD (skp s p) 0 = a then ka else kb) [] [e, r.1] r.2).bind (fun r => some (.inl (r.2, r.1)))
     | .inr z => some (.inr (.inr z)) := fun x hx => by
    unfold bS
    refine bP (aZz hs hp h) (ifn (by simp) ?_)
    simp only [aKr, Option.isSome_some, Option.getD_some]
    have hi : aIB [a, b] (s.getD (skp s p) 0) = if s.getD (skp s p) 0 = a then 0 else 1 := by
     unfold aIB aWi
     by_cases e1 : s.getD (skp s p) 0 = a
     ·omega
     ·have e2 : s.getD (skp s p) 0 = b := by
       simp_all
      simp_all [if_neg, aWi, if_pos]
    refine aF trivial (aF (by omega) (bP hx ?_))
    have J : ([ka, kb] : List Int).getD (aIB [a, b] (s.getD (skp s p) 0)).toNat 0 = if s.getD (skp s p) 0 = a then ka else kb := by grind
    cases x with
    | inl y => simp only; rw [J]; rfl
    | inr y => rfl
   unfold aIs at j
   cases ho : one (skp s p + 1) with
   | none => simp_all
   | some U =>
    rw [ho] at j
    have hc := W (skp s p + 1) n U (by omega) (by omega) ho
    cases U with
    | inl y =>
     obtain ⟨x, q⟩ := y
     obtain ⟨Z, L, I, a3, a4⟩ := hc
     have j : aWB one s a b ka kb f (Ex.mk (if s.getD (skp s p) 0 = a then ka else kb) [] [e, x]) q = some r := j
     have N := bAM hs W O f _ q (I + 1) r L (by omega) j
     have hstep := round _ a4
     have hstep : bS none g [a, b] [ka, kb] (st s p n) e = some (.inl (st s q (I + 1), Ex.mk (if s.getD (skp s p) 0 = a then ka else kb) [] [e, x])) := hstep.trans (bP (aJ4 _ _ _ s q I (by omega)) rfl)
     cases r with
     | inl z =>
      obtain ⟨e2, q2⟩ := z
      obtain ⟨b1, b2, n2, b3, b4⟩ := N
      exact ⟨by omega, b2, n2, by omega, aRl hstep b4⟩
     | inr z => exact ⟨N.1, aRl hstep N.2⟩
    | inr y =>
     obtain ⟨Z, L⟩ := hc
     obtain rfl : .inr y = r := Option.some.inj j
     exact ⟨Z, aGY (round _ L)⟩
  ·rw [if_neg h] at j
   obtain rfl : .inl (e, skp s p) = r := Option.some.inj j
   refine ⟨Y.1, Y.2, n, by omega, aGY ?_⟩
   unfold bS
   exact bP (bD0 hs hp h) (ify (by simp) rfl)
theorem bD4 {s : List Nat} (hs : s.length ≤ 1099511627776) {g : RD0 → Option CR} {one : Nat → Option PR} (j : Gd s g one) {a b : Nat} {ka kb : Int} (f : a ≠ b) :
  Gd s (fun o => bX none g [a, b] [ka, kb] o) (fun p => aIs (one p) (aWB one s a b ka kb (s.length + 1))) := fun p n r hp I L => by
 show Cor s p n (bX none g [a, b] [ka, kb] (st s p n)) r
 unfold bX
 refine aN0 (p := p) L (fun J h => j p n J hp I h) (fun e q n' h1 U O Y => ?_) (fun z => rfl)
 have := bAM hs j f _ e q n' r U (by omega) Y
 refine Cor.mv h1 O ?_
 cases r with
 | inl z =>
  obtain ⟨e2, q2⟩ := z
  obtain ⟨b1, Z, n2, N, W⟩ := this
  exact ⟨b1, Z, n2, N, bP W rfl⟩
 | inr z => exact ⟨this.1, bP this.2 rfl⟩
theorem Gd.of {s : List Nat} {g b : RD0 → Option CR} {one : Nat → Option PR} (h : Gd s g one) (e : ∀ o, b o = (g o).bind fun x => some x) : Gd s b one := fun p n r hp f j => by
 rw [e]
 have := h p n r hp f j
 simp_all
theorem aYp (x : Option CR) : (x.bind fun e => match e with | .inl r => some (Sum.inl (r.1, r.2)) | .inr p => some (Sum.inr p)) = x.bind fun x => some x := by
 grind
theorem bFY {s : List Nat} (hs : s.length ≤ 1099511627776) {g : RD0 → Option CR} {one : Nat → Option PR} (f : Gd s g one) : Gd s (fQ none g) (aYo one s) :=
 (bD4 hs f (a := 42) (b := 47) (ka := 8) (kb := 9) xAb).of fun o => (show fQ none g o = _ from aYp _)
theorem bD5 {s : List Nat} (hs : s.length ≤ 1099511627776) {g : RD0 → Option CR} {one : Nat → Option PR} (f : Gd s g one) : Gd s (jG none g) (bFV one s) :=
 (bD4 hs (bFY hs f) (a := 43) (b := 45) (ka := 6) (kb := 7) xAb).of fun o => (show jG none g o = _ from aYp _)
theorem bGj {s : List Nat} (hs : s.length ≤ 1099511627776) {g : RD0 → Option CR} {one : Nat → Option PR} (O : Gd s g one) : Gd s (iK none g) (pIn one s) := fun p n r hp Y b => by
 have W := aDE s p hp
 unfold iK
 unfold pIn at b
 by_cases h : aPq s [40] (skp s p)
 ·rw [if_pos h] at b
  have U := h.1
  have e : eL none (aV ⟨#[40]⟩) (st s p n) = some (.inl (st s (skp s p + 1) n)) := aYn hs hp h
  rw [e]
  refine aN0 (p := skp s p + 1) b (fun N h => bD5 hs O _ n N (by omega) (by omega) h) (fun e q L U I h3 j => ?_) (fun z => rfl)
  refine Cor.mv (q := q) (by omega) (by omega : L + p ≤ n + q) ?_
  have J := aDE s q I
  by_cases f : aPq s [41] (skp s q)
  ·rw [if_pos f] at j
   obtain rfl := Option.some.inj j
   have Z := f.1
   exact ⟨by omega, by omega, L, by omega, bP (aYn hs I f) rfl⟩
  ·rw [if_neg f] at j
   obtain rfl := Option.some.inj j
   exact ⟨J.2, bP (bAJ hs I f) rfl⟩
 ·rw [if_neg h] at b
  obtain rfl := Option.some.inj b
  exact ⟨W.2, bP (bAJ hs hp h) rfl⟩
theorem bG9 {s : List Nat} (hs : s.length ≤ 1099511627776) {p n : Nat} {r : PR} (hp : p ≤ s.length) (I : n + s.length ≤ 1099511627776 + p) (b : bFW s p = some r) : Cor s p n (kS none (st s p n)) r := by
 obtain ⟨z, j⟩ := bAL s hs p hp
 unfold kS
 unfold bFW at b
 simp only [z, Option.isSome_some, Option.getD_some]
 by_cases h : aDs s p = 0 ∨ 60 < aDs s p
 ·rw [if_pos h] at b
  obtain rfl := Option.some.inj b
  exact ⟨hp, aF trivial (ify (by omega) rfl)⟩
 ·rw [if_neg h] at b
  obtain rfl := Option.some.inj b
  refine ⟨by omega, j, n + 1, by omega, aF trivial (ifn (by omega) ?_)⟩
  refine aF (by omega) (aF (by omega) (aF (by omega) ?_))
  have e1 : ((p : Int) + (aDs s p : Int) - (aDs s p : Int)).toNat = p := by omega
  have f : ((p : Int) + (aDs s p : Int)).toNat = p + aDs s p := by omega
  have q : (p : Int) + (aDs s p : Int) = ((p + aDs s p : Nat) : Int) := by omega
  have g : List.drop p (List.take (p + aDs s p) s) = (s.drop p).take (aDs s p) := by grind
  rw [e1, f, g, q]
  exact bP (aJ4 _ _ _ s _ n (by omega)) rfl
theorem bAN (c : Nat) : aIB (aV uX) c < 0 ↔ ¬ qH c = true := by
 rw [aRm]
 have e : aV uX = List.range' 97 26 ++ (List.range' 48 10 ++ [95]) := by decide
 rw [e]
 simp only [List.mem_append, List.mem_range'_1, List.mem_singleton, qH, aU0, zS, Bool.or_eq_true, decide_eq_true_eq, beq_iff_eq]
 omega
theorem bD6 (c : Nat) : aIB (aV aAH) c < 0 ↔ ¬ aU0 c = true := by
 rw [aRm]
 have e : aV aAH = List.range' 97 26 := by decide
 rw [e]
 simp only [List.mem_range'_1, aU0, decide_eq_true_eq]
 omega
theorem bFZ {s : List Nat} (hs : s.length ≤ 1099511627776) {p n : Nat} (hp : p ≤ s.length) : mV none (st s p n) = some (aPr s p, st s (p + run qH s p) n) := by
 have r := aTm qH s p
 have b : ∀ (k p : Nat), k = s.length - p → p ≤ s.length → aGn (fun d : RD0 => eT none d) (st s p n) = some (st s (p + run qH s p) n) := by
  intro k
  induction k with
  | zero =>
   intro p j hp
   have e : run qH s p = 0 := by grind [aTm, qH]
   rw [e]
   refine aGY ?_
   show eT none (st s p n) = _
   unfold eT
   refine aF (fun h => by simp_all) (aF (fun _ => rfl) (ifn (fun h => by grind) rfl))
  | succ k g =>
   intro p j hp
   have f : ∀ x, eT none (st s p n) = x ↔ (if (p : Int) < (s.length : Int) ∧ (0 : Int) ≤ aIB (aV uX) (s.getD p 0) then some (.inl (st s (p + 1) n)) else some (.inr (st s p n))) = x := by
    intro x
    have : eT none (st s p n) = (if (p : Int) < (s.length : Int) ∧ (0 : Int) ≤ aIB (aV uX) (s.getD p 0) then some (.inl (st s (p + 1) n)) else some (.inr (st s p n))) := by
     unfold eT
     simp only [aKr, Int.toNat_natCast, Option.isSome_some, Option.getD_some]
     refine aF (fun h => ⟨by omega, by omega⟩) (aF (fun _ => trivial) ?_)
     refine aGr (fun h => ?_) (fun h => ?_)
     ·rw [if_pos h]
      exact aF (by omega) rfl
     simp_all
    rw [this]
   by_cases hb : qH (s.getD p 0) = true
   ·have e : p + run qH s p = (p + 1) + run qH s (p + 1) := by grind [aWz]
    rw [e]
    refine aRl (d' := st s (p + 1) n) ((f _).2 ?_) (g (p + 1) (by omega) (by omega))
    have : ¬ aIB (aV uX) (s.getD p 0) < 0 := fun h => (bAN _).1 h hb
    rw [if_pos ⟨by omega, by omega⟩]
   ·have e : run qH s p = 0 := bAI (fun _ => by simp_all)
    simp_all [aGY, bAN, if_neg]
 unfold mV
 refine bP (b _ p rfl hp) ?_
 unfold mK
 refine aF (by grind) ?_
 have q : List.drop (p : Int).toNat (List.take ((p + run qH s p : Nat) : Int).toNat s) = aPr s p := by
  rw [Int.toNat_natCast, Int.toNat_natCast, List.drop_take]
  simp_all [aPr]
 simp_all
end Nu
end Go.Proofs
namespace Go.Proofs
open Go.Vc
set_option maxRecDepth 20000
namespace Nu
theorem bHE (w : List Nat) : aDW .str (aCU .str (aCU .str (aCU .str ([] : List vE) (aV ⟨#[115, 113, 114]⟩) (11 : Int)) (aV ⟨#[115, 113, 114, 116]⟩) (12 : Int)) (aV ⟨#[101, 120, 112]⟩) (13 : Int)) w = bFX w := by
 have e : aCU .str (aCU .str (aCU .str ([] : List vE) (aV ⟨#[115, 113, 114]⟩) (11 : Int)) (aV ⟨#[115, 113, 114, 116]⟩) (12 : Int)) (aV ⟨#[101, 120, 112]⟩) (13 : Int) = [([115, 113, 114], 11), ([115, 113, 114, 116], 12), ([101, 120, 112], 13)] := by decide
 simp_all [aDW, bFX, Ty.eqb, decide_eq_true_eq]
theorem aJ5 {s : List Nat} {p n : Nat} {x y : Option CR} {r : PR} (h : x = y) (c : Cor s p n y r) : Cor s p n x r := by simp_all
theorem aYq {s : List Nat} {p n : Nat} {x : Option CR} {f : CR → Option CR} {r : PR} (c : Cor s p n x r) (b : ∀ y, f y = some y) : Cor s p n (x.bind f) r := by
 cases r with
 | inl z =>
  obtain ⟨J, L⟩ := z
  obtain ⟨b1, q, I, g, j⟩ := c
  exact ⟨b1, q, I, g, bP j (b _)⟩
 | inr z => exact ⟨c.1, bP c.2 (b _)⟩
theorem bD7 {s : List Nat} (hs : s.length ≤ 1099511627776) : ∀ n, Gd s (gD none n) (aZA s n)
 | 0 => fun p n r hp Z b => by cases b
 | k + 1 => fun p n r hp Z b => by
  have O := bD7 hs k
  have L := aDE s p hp
  show Cor s p n (iZ none (gD none k) (st s p n)) r
  generalize hg : gD none k = g at O
  rw [aZA] at b
  unfold iZ
  have W : aV ⟨#[45]⟩ = [45] := rfl
  rw [W]
  by_cases h : aPq s [45] (skp s p)
  ·rw [if_pos h] at b
   have N := h.1
   refine aJ5 (bP (aZz hs hp h) (ify rfl rfl)) ?_
   refine aN0 (p := skp s p + 1) b (fun U h => O _ n U (by omega) (by omega) h) (fun e q J N I j f => ?_) (fun z => rfl)
   obtain rfl := Option.some.inj f
   exact ⟨by omega, I, J + 1, by omega, bP (aJ4 _ _ _ s q J (by omega)) rfl⟩
  ·rw [if_neg h] at b
   refine aJ5 (bP (bD0 hs hp h) (ifn (by simp) rfl)) ?_
   generalize hq : skp s p = q at L b
   refine Cor.mv (n' := n) L.1 (by omega) ?_
   unfold bD3 at b
   by_cases N : s.length ≤ q
   ·rw [if_pos N] at b
    obtain rfl := Option.some.inj b
    exact ⟨L.2, ify (by grind) rfl⟩
   ·rw [if_neg N] at b
    refine aJ5 (ifn (by grind) (aF (by simp_all) rfl)) ?_
    have hc : (q : Int).toNat = q := by omega
    by_cases I : s.getD q 0 = 40
    ·rw [if_pos I] at b
     refine aJ5 (ify (by simp_all) rfl) ?_
     exact aYq (bGj hs O q n r L.2 (by omega) b) (fun y => by grind)
    ·rw [if_neg I] at b
     refine aJ5 (ifn (by simp_all) (aF (by simp_all) (aF rfl rfl))) ?_
     by_cases j : aU0 (s.getD q 0) = true
     ·rw [if_pos j] at b
      have f : ¬ aIB (aV aAH) (s.getD q 0) < 0 := fun e => (bD6 _).1 e j
      refine aJ5 (ifn (by simp only [aKr, hc, Option.getD_some]; exact f) (bP (bFZ hs L.2) rfl)) ?_
      unfold bD2 at b
      simp only [bHE]
      have hw := aTm qH s q
      have hw1 : 1 ≤ run qH s q := by grind [aWz, qH]
      cases Y : bFX (aPr s q) with
      | none =>
       rw [Y] at b
       obtain rfl := Option.some.inj b
       exact ⟨by omega, by omega, n + 1, by omega, (ifn (by simp) (bP (aJ4 _ _ _ s _ n (by omega)) rfl))⟩
      | some kd =>
       rw [Y] at b
       refine aJ5 (ify rfl rfl) ?_
       have b : aIs (pIn (aZA s k) s (q + run qH s q)) (fun e z => some (.inl (Ex.mk kd [] [e], z))) = some r := b
       refine aN0 (p := q + run qH s q) b (fun U h => bGj hs O _ n U (by omega) (by omega) h) (fun e q' J N I j f => ?_) (fun z => rfl)
       obtain rfl := Option.some.inj f
       exact ⟨by omega, I, J + 1, by omega, bP (aJ4 _ _ _ s q' J (by omega)) rfl⟩
     ·rw [if_neg j] at b
      have f : aIB (aV aAH) (s.getD q 0) < 0 := (bD6 _).2 j
      refine aJ5 (ify (by simp only [aKr, hc, Option.getD_some]; exact f) rfl) ?_
      grind [aYq, bG9]
end Nu
end Go.Proofs
namespace Go.Proofs
open Go.Vc
set_option maxRecDepth 20000
namespace Nu
def Szd (k : Nat) (e : Ex) : Prop := fits k e ∧ nd k e ≤ k
theorem Szd.up {k m : Nat} {e : Ex} (h : Szd k e) (hm : k ≤ m) : fits m e ∧ nd m e ≤ k := by
 obtain ⟨f, b⟩ := aWy k m e h.1 (Nat.le_trans (bAC k e) hm)
 exact ⟨f, by rw [b]; exact h.2⟩
theorem Szd.le {k m : Nat} {e : Ex} (h : Szd k e) (hm : k ≤ m) : Szd m e := ⟨(h.up hm).1, Nat.le_trans (h.up hm).2 hm⟩
theorem Szd.leaf {k : Int} {t : List Nat} (h : t.length ≤ 100) : Szd 1 (Ex.mk k t []) := ⟨⟨h, Nat.zero_le _, fun x b => by cases b⟩, Nat.le_refl 1⟩
theorem Szd.one {n : Nat} {k : Int} {e : Ex} (h : Szd n e) : Szd (n + 1) (Ex.mk k [] [e]) :=
 ⟨⟨Nat.zero_le _, by show 1 ≤ 1000; decide, fun x b => by rw [List.mem_singleton.1 b]; exact h.1⟩, by
  show 1 + (nd n e + 0) ≤ n + 1
  have := h.2
  omega⟩
theorem Szd.two {n m : Nat} {k : Int} {e r : Ex} (h : Szd n e) (g : Szd m r) : Szd (n + m + 1) (Ex.mk k [] [e, r]) := by
 obtain ⟨j, q⟩ := h.up (m := n + m) (by omega)
 obtain ⟨b1, f⟩ := g.up (m := n + m) (by omega)
 refine ⟨⟨Nat.zero_le _, by show 2 ≤ 1000; decide, fun x b => ?_⟩, by
  show 1 + (nd (n + m) e + (nd (n + m) r + 0)) ≤ n + m + 1
  omega⟩
 rcases List.mem_cons.1 b with rfl | b
 all_goals simp_all
def PT (s : List Nat) (p : Nat) : PR → Prop
 | .inl (e, q) => p < q ∧ q ≤ s.length ∧ Szd (q - p) e
 | .inr q => q ≤ s.length
def GT (s : List Nat) (one : Nat → Option PR) (n : Nat) : Prop := ∀ p, p ≤ s.length → s.length < p + n → Tot (one p) (PT s p)
theorem aEr {s : List Nat} {o : Option PR} {k : Ex → Nat → Option PR} {p f : Nat} (h : Tot o (PT s p)) (g : ∀ e q, PT s p (.inl (e, q)) → Tot (k e q) (PT s f)) : Tot (aIs o k) (PT s f) := by
 obtain ⟨r, rfl, b⟩ := h
 cases r with
 | inl x => exact g x.1 x.2 b
 | inr q => exact .ret (show q ≤ s.length from b)
theorem aWC {s : List Nat} {one : Nat → Option PR} {n : Nat} (I : GT s one n) (a b : Nat) (ka kb : Int) {q : Nat} : ∀ (f : Nat) (e : Ex) (p : Nat), s.length < p + f → p ≤ s.length → s.length < p + n → q < p → Szd (p - q) e → Tot (aWB one s a b ka kb f e p) (PT s q)
 | 0, e, p, L, hp, J, h0, j => absurd hp (by omega)
 | f + 1, e, p, L, hp, J, h0, j => by
  have hs := aDE s p hp
  unfold aWB
  refine .ite (fun h => ?_) fun _ => .ret ⟨by omega, hs.2, j.le (by omega)⟩
  have U : skp s p < s.length := h.1
  refine aEr (I (skp s p + 1) (by omega) (by omega)) fun r z g => ?_
  obtain ⟨W, O, N⟩ := g
  exact aWC I a b ka kb f _ z (by omega) O (by omega) (by omega) ((j.two N).le (by omega))
theorem aYr {s : List Nat} {one : Nat → Option PR} {n : Nat} (f : GT s one n) : GT s (aYo one s) n := fun p hp b => by
 unfold aYo
 refine aEr (f p hp b) fun e q h => ?_
 obtain ⟨g, r, j⟩ := h
 grind [aWC]
theorem bAO {s : List Nat} {one : Nat → Option PR} {n : Nat} (b : GT s one n) : GT s (bFV one s) n := fun p hp f => by
 unfold bFV
 refine aEr (aYr b p hp f) fun e q h => ?_
 obtain ⟨g, r, j⟩ := h
 exact aWC (aYr b) _ _ _ _ _ e q (by omega) r (by omega) g j
theorem bD8 {s : List Nat} {one : Nat → Option PR} {n : Nat} (g : GT s one n) (p : Nat) (hp : p ≤ s.length) (z : s.length < p + 1 + n) : Tot (pIn one s p) (PT s p) := by
 have hs := aDE s p hp
 unfold pIn
 refine .ite (fun h => ?_) fun _ => .ret hs.2
 have f : skp s p < s.length := h.1
 refine aEr (bAO g (skp s p + 1) (by omega) (by omega)) fun e q h => ?_
 obtain ⟨I, r, j⟩ := h
 have hq := aDE s q r
 refine .ite (fun h => ?_) fun _ => .ret hq.2
 have b : skp s q < s.length := h.1
 exact .ret ⟨by omega, by omega, j.le (by omega)⟩
theorem aRn {s : List Nat} (hs : s.length ≤ 100) : ∀ n, GT s (aZA s n) n
 | 0, p, hp, J => absurd hp (by omega)
 | n + 1, p, hp, J => by
  have f := aDE s p hp
  unfold aZA
  refine .ite (fun h => ?_) fun _ => ?_
  ·have g : skp s p < s.length := h.1
   refine aEr (aRn hs n (skp s p + 1) (by omega) (by omega)) fun e q h => ?_
   obtain ⟨Y, W, U⟩ := h
   exact .ret ⟨by omega, W, U.one.le (by omega)⟩
  ·unfold bD3
   refine .ite (fun _ => .ret f.2) fun hq => ?_
   have g : skp s p < s.length := by omega
   have mv : ∀ {o : Option PR} {q : Nat}, skp s p ≤ q → Tot o (PT s q) → Tot o (PT s p) := fun {o q} hq h => h.mono fun r j => by
    cases r with
    | inl x => obtain ⟨a, b, c⟩ := j; exact ⟨by omega, b, c.le (by omega)⟩
    | inr z => exact j
   refine .ite (fun _ => mv (Nat.le_refl _) (bD8 (aRn hs n) _ f.2 (by omega))) fun _ => .ite (fun I => ?_) fun _ => ?_
   ·have Z := aTm qH s (skp s p)
    have L : 1 ≤ run qH s (skp s p) := by grind [aWz, qH]
    unfold bD2
    split
    ·refine aEr (bD8 (aRn hs n) (skp s p + run qH s (skp s p)) (by omega) (by omega)) fun e z h => ?_
     obtain ⟨z1, O, N⟩ := h
     exact .ret ⟨by omega, O, N.one.le (by omega)⟩
    ·refine .ret ⟨by omega, by omega, (Szd.leaf ?_).le (by omega)⟩
     show ((s.drop _).take _).length ≤ 100
     grind
   ·have I := (bAL s (by omega) (skp s p) f.2).2
    unfold bFW
    refine .ite (fun _ => .ret f.2) fun h => .ret ⟨by omega, I, (Szd.leaf ?_).le (by omega)⟩
    grind
theorem bD9 (s : List Nat) (hs : s.length ≤ 100) : Tot (jX none s) (fun r => (0 ≤ r.2.1 ∧ r.2.1 ≤ s.length) ∧ (r.2.2.1 = 0 ∨ r.2.2.1 = 6) ∧ (r.2.2.1 = 0 → OkE r.1)) := by
 obtain ⟨r, I, hp⟩ := bAO (aRn hs 1100) 0 (Nat.zero_le _) (by omega)
 have := bD5 (by omega) (bD7 (by omega) 1100) 0 0 r (by omega) (by omega) I
 unfold jX
 cases r with
 | inr q =>
  obtain ⟨J, b⟩ := this
  refine .of (bP b rfl) ⟨⟨by simp_all, by simp_all⟩, .inr rfl, fun h => by cases h⟩
 | inl x =>
  obtain ⟨e, q⟩ := x
  obtain ⟨J, b, g, U, N⟩ := this
  obtain ⟨O, W, L⟩ := hp
  have Y := aDE s q b
  refine Tot.bind (P := fun y => y = .inl (e, st s q g)) (.of N rfl) fun y f => ?_
  subst f
  refine Tot.bind (P := fun y => y = st s (skp s q) g) (.of (aWA s (by omega) _ q g rfl b) rfl) fun y f => ?_
  subst f
  have j := L.le (m := 100) (by omega)
  have z := bFT j.1 xAb (by have := j.2; omega)
  refine .ite (fun _ => .ret ⟨⟨by simp_all, by simp_all⟩, .inr rfl, fun h => by cases h⟩) fun _ => .ck z.sJ (.ite (fun _ => .ret ⟨⟨Int.le_refl 0, by simp_all⟩, .inr rfl, fun h => by cases h⟩) fun h => .ret ⟨⟨Int.le_refl 0, by simp_all⟩, .inl rfl, fun _ => z.get false (Classical.not_not.1 h)⟩)
end Nu
end Go.Proofs

