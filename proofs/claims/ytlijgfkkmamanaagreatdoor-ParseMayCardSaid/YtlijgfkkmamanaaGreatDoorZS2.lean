import Derived.Test.YtlijgfkkmamanaaGreatDoorZL5
import Derived.Test.YtlijgfkkmamanaaGreatDoorZS1
import Derived.Laws.Externs
import Derived.Lib.Bytealg
import Derived.Test.YtlijgfkkmamanaaGreatDoorZL6
set_option linter.unusedVariables false
set_option linter.unusedSimpArgs false
namespace Go.Proofs
open Go.Vc
set_option maxRecDepth 20000
namespace Nu
noncomputable section
set_option maxHeartbeats 4000000
def aKQ : PlR := ⟨[(0, .A [0, 1]), (1, .B [4])], [], []⟩
def aHB : Ty := .pair we qj
def aCF : aG := ⟨aHB, .own 165 qt, fun x => aD1 x.1 x.2.1, fun x => fN x.1 x.2.1⟩
attribute [go_sem] aCF aHB
def aTL (F : Md) : aG := mSpec aHB (.own 165 qt) (fun x => aBy F x.1 x.2.1)
abbrev aMX (F : Md) : List (FuncId × aG) := [(142, dH)]
theorem aV2 [Mx] (F : Md) : bE Tryz.prog GL (aMX F) := .cons pT xAa (.nil)
attribute [go_sem] aKQ
theorem aTM [Mx] (F : Md) : FOK Tryz.prog GL 145 (aTL F) := by
 refine bN (bC (aV2 F)) mix Tryz.func145 rfl xAa xAb aKQ (fun w0 S x Θ g h hV => ?_)
 obtain ⟨(f : qa), (b : Int), u⟩ := x
 simp only [bT, go_sem]
 replace h : sat (aBy F f b) _ := h
 unfold aBy at h
 refine aN h fun g0 h => ?_
 refine aN h fun g0 h => ?_
 refine aD h fun g0 h => ?_
 refine aD h fun g1 h => (yaC ?_)
 exact zaD
theorem aTN [Mx] : FOK Tryz.prog GL 145 aCF := iW (aTM none) (fun ⟨f, x1, u⟩ ⟨w0, b, g⟩ hp => aSl f w0 x1 b hp)
def aHC (F : Md) : fT where
 D := Nat × Nat × qa × qa × vf
 av := fun d => [.sub 0 1 d.1 d.2.1, .val we d.2.2.1]
 hp := fun d => [.row 165 qt d.2.2.2.1]
 m := 1
 pre := fun d => aAV F d.1 d.2.1 d.2.2.1 d.2.2.2.1 = some d.2.2.2.2
 out := fun d => (fun r : vf => .ret (.val qt r.1) [.row 165 qt r.2]) d.2.2.2.2
def aMY : PlR := ⟨[(0, .A [0, 1]), (1, .A [0, 1, 5]), (2, .A [0, 1, 5, 6, 8]), (3, .A [0, 1, 5, 6, 8, 31]), (4, .A [0, 1, 5, 6, 7, 8]), (5, .A [0, 1, 5, 6, 7, 8]), (6, .A [0, 1, 5, 6, 7, 65]), (7, .A [0, 1, 5, 6, 7, 9, 10]), (8, .A [0, 1, 5, 6, 7, 92]), (9, .A [0, 1, 5, 6, 7]), (10, .A [0, 1, 5, 6, 7, 8]), (11, .A [0, 1, 5, 6, 11, 12]), (12, .A [0, 1, 5, 6, 11, 12, 105, 106, 107]), (13, .A [0, 1, 5, 6, 11, 12, 105, 106, 107, 108]), (14, .A [0, 1, 5, 6, 11, 12, 13, 14, 105, 106, 107]), (15, .A [0, 1, 5, 6, 11, 12, 13, 15, 16, 105, 106, 107]), (16, .A [0, 1, 5, 6, 11, 12, 13, 15, 16, 105, 106, 107]), (17, .A [0, 1, 5, 6, 12, 13, 15, 16, 17, 105, 106, 107]), (18, .A [0, 1, 5, 6, 11, 12, 13, 16, 105, 106, 107]), (19, .B [0, 1, 5, 6, 11, 12, 105, 106, 107]), (20, .A [0, 1, 5, 6, 11, 12, 105, 106, 107]), (21, .B [0, 1, 5, 6, 12]), (22, .A [0, 1, 5, 6, 155]), (23, .A [4]), (24, .A [0, 1, 5, 6, 11]), (25, .A [0, 5, 6, 11, 157, 158, 159]), (26, .A [0, 5, 6, 11, 157, 158, 159, 160]), (27, .A [0, 5, 6, 11, 18, 19, 157, 158, 159]), (28, .B [0, 5, 6, 11, 157, 158, 159]), (29, .A [0, 5, 6, 11, 157, 158, 159]), (30, .B [6]), (31, .A [4])], [(6, 9), (9, 14), (15, 24), (28, 33)], []⟩
abbrev aC7 (F : Md) : List (FuncId × aG) := [(150, wC), (151, qN), (186, wD), (188, aCB)]
theorem aX1 [Mx] (F : Md) : bE Tryz.prog GL (aC7 F) := .cons aKN xAa (.nat aFW (.cons aKP xAa (.nat aTw (.nil))))
attribute [go_sem] aMY aHC
theorem aV3 [Mx] (F : Md) : GOK Tryz.prog GL 147 (aHC F) := by
 refine kE (bC (aX1 F)) mix Tryz.func147 rfl xAa (fun _ => Nat.le_of_ble_eq_true rfl) aMY (fun c0 w0 d hw hw2 h hV => ?_)
 obtain ⟨(b : Nat), (f : Nat), (g : qa), (j : qa), r⟩ := d
 have hF := hV.fr
 replace h := kF (show aAV F b f g j = some r from h)
 simp only [tP, List.map_cons, List.map_nil, go_sem]
 unfold aAV at h
 refine cX hV (D := Nat × Nat × Nat) (fun d => sat (rK F g f b j d.1 d.2.1 d.2.2) (fun z => z = r)) [1, 5] (fun d => [(0, .sub 0 1 b f), (6, .val qt d.1), (7, .val qt d.2.1), (8, .val qt d.2.2)]) (fun d => [.inr (.row 165 qt j)]) ?_ ?_
 ·simp only [go_sem, cA F, cB F, cC F]
  refine aD h fun g0 h => ?_
  refine aD h fun g1 h => ?_
  refine aD h fun g2 h => ?_
  refine aD h fun g3 h => (yaC ?_)
  refine cI h (fun hc h => ?_) fun hc h => ?_
  ·refine aD h fun g0 h => ?_
   refine aD h fun g1 h => ?_
   refine aD h fun g2 h => ?_
   refine aD h fun g3 h => ?_
   refine aD h fun g4 h => ?_
   refine aD h fun g5 h => ?_
   refine aD h fun g6 h => ?_
   refine aD h fun g7 h => (yaC ?_)
   exact aU ((pU (j.getD (b + (g.length)) (0 : Nat)) (j.getD (b + ((g.length : Int) - (1 : Int)).toNat) (0 : Nat)) (g.getD ((g.length : Int) - (1 : Int)).toNat (0 : Nat))).1, (pU (j.getD (b + (g.length)) (0 : Nat)) (j.getD (b + ((g.length : Int) - (1 : Int)).toNat) (0 : Nat)) (g.getD ((g.length : Int) - (1 : Int)).toNat (0 : Nat))).2.1, (0 : Nat)) h rfl xAe
  ·refine aD h fun g0 h => ?_
   refine aD h fun g1 h => ?_
   refine aD h fun g2 h => ?_
   refine aD h fun g3 h => ?_
   refine aD h fun g4 h => ?_
   refine aD h fun g5 h => (yaC ?_)
   exact aU ((18446744073709551615 : Nat), (rE (j.getD (b + ((g.length : Int) - (1 : Int)).toNat) (0 : Nat)) (g.getD ((g.length : Int) - (1 : Int)).toNat (0 : Nat)) (0 : Nat)).1, (rE (j.getD (b + ((g.length : Int) - (1 : Int)).toNat) (0 : Nat)) (g.getD ((g.length : Int) - (1 : Int)).toNat (0 : Nat)) (0 : Nat)).2.1) h rfl xAe
 ·rintro ⟨x_4, U, O⟩ h
  simp only [go_sem, cA F, cB F, cC F]
  replace h : sat (rK F g f b j x_4 U O) _ := h
  unfold rK at h
  refine cX hV (D := Nat) (fun d => sat (tQ F g f b j d) (fun z => z = r)) [1, 5] (fun d => [(0, .sub 0 1 b f), (6, .val qt d)]) (fun d => [.inr (.row 165 qt j)]) ?_ ?_
  ·simp only [go_sem, cA F, cB F, cC F]
   refine bM hV (D := Nat × Nat × Nat) [1, 5] (fun d => [(0, .sub 0 1 b f), (6, .val qt d.1), (7, .val qt d.2.1), (8, .val qt d.2.2)]) (fun d => [.inr (.row 165 qt j)]) h rfl xAe ?_
   rintro ⟨L, I, N⟩ A6 T6 hA6 Z h
   simp only [go_sem, cA F, cB F, cC F]
   replace h : sat (oG F g f b j L I N) _ := h
   unfold oG at h
   refine cI h (fun hc h => ?_) fun hc h => ?_
   ·refine aD h fun g0 h => ?_
    refine aD h fun g1 h => (yaC ?_)
    refine aD h fun g0 h => ?_
    refine aD h fun g1 h => (yaC ?_)
    refine ⟨fun hc => ?_, fun hc => ?_⟩
    ·replace h := gB hc h
     replace h := yaG (Z _ (aA h))
     exact aU (L) h rfl xAe
    ·replace h := gC hc h
     refine aD h fun g0 h => ?_
     refine aD h fun g1 h => ?_
     refine aD h fun g2 h => (yaC ?_)
     replace h := hA6 _ (aA h)
     exact zaj
   ·replace h := yaG (Z _ (aA h))
    exact aU (L) h rfl xAe
  ·rintro q h
   simp only [go_sem, cA F, cB F, cC F]
   replace h : sat (tQ F g f b j q) _ := h
   unfold tQ at h
   refine cX hV (D := Nat × Nat × qa) (fun d => sat (xO F g f b q d.1 d.2.1 d.2.2) (fun z => z = r)) [1, 5, 6] (fun d => [(0, .sub 0 1 b f), (11, .val qt d.1), (12, .val qt d.2.1)]) (fun d => [.inr (.row 165 qt d.2.2)]) ?_ ?_
   ·simp only [go_sem, cA F, cB F, cC F]
    refine bM hV (D := Nat × Nat × Int × qa) [1, 5, 6, 105, 106] (fun d => [(0, .sub 0 1 b f), (11, .val qt d.1), (12, .val qt d.2.1), (107, .val qc d.2.2.1)]) (fun d => [.inr (.row 165 qt d.2.2.2)]) h rfl xAe ?_
    rintro ⟨carry_41, borrow_42, s, Y⟩ A13 T13 hA13 hE13 h
    simp only [go_sem, cA F, cB F, cC F]
    replace h : sat (nA F g q f b carry_41 borrow_42 s Y) _ := h
    unfold nA at h
    refine dY h (fun hc h => ?_) fun hc h => ?_
    ·refine aD h fun g0 h => (yaC ?_)
     refine aD h fun g0 h => (yaC ?_)
     refine aD h fun g0 h => ?_
     refine aD h fun g1 h => (yaC ?_)
     refine aD h fun g0 h => (yaC ?_)
     refine aD h fun g0 h => ?_
     refine aD h fun g1 h => (yaC ?_)
     refine aD h fun g0 h => (yaC ?_)
     replace h := hA13 _ (aA h)
     exact zaj
    ·replace h := yaG (hE13 _ (aA h))
     exact aU (carry_41, borrow_42, Y) h rfl xAe
   ·rintro ⟨carry_22, borrow_23, u_24⟩ h
    simp only [go_sem, cA F, cB F, cC F]
    replace h : sat (xO F g f b q carry_22 borrow_23 u_24) _ := h
    unfold xO at h
    refine aD h fun g0 h => ?_
    refine aD h fun g1 h => (yaC ?_)
    refine aD h fun g0 h => (yaC ?_)
    refine aD h fun g0 h => ?_
    refine aD h fun g1 h => (yaC ?_)
    refine cI h (fun hc h => ?_) fun hc h => ?_
    ·obtain rfl := aL h
     refine dP hF [.tmp 4] rfl rfl rfl rfl rfl rfl ?_
     (try simp only [aR, jT, jL, eV, cT, AV.isAgg, go_sem, cA F, cB F, cC F]) <;> first | trivial | rfl | (simp; done)
    ·refine cX hV (D := Nat × qa) (fun d => sat (xN F g f b q d.1 d.2) (fun z => z = r)) [5, 6] (fun d => [(0, .sub 0 1 b f), (11, .val qt d.1)]) (fun d => [.inr (.row 165 qt d.2)]) ?_ ?_
     ·simp only [go_sem, cA F, cB F, cC F]
      refine bM hV (D := Nat × Int × qa) [5, 6, 157, 158] (fun d => [(0, .sub 0 1 b f), (11, .val qt d.1), (159, .val qc d.2.1)]) (fun d => [.inr (.row 165 qt d.2.2)]) h rfl xAe ?_
      rintro ⟨carry_33, J, W⟩ A26 T26 hA26 hE26 h
      simp only [go_sem, cA F, cB F, cC F]
      replace h : sat (mZ F g f b carry_33 J W) _ := h
      unfold mZ at h
      refine dY h (fun hc h => ?_) fun hc h => ?_
      ·refine aD h fun g0 h => (yaC ?_)
       refine aD h fun g0 h => ?_
       refine aD h fun g1 h => (yaC ?_)
       refine aD h fun g0 h => (yaC ?_)
       refine aD h fun g0 h => ?_
       refine aD h fun g1 h => (yaC ?_)
       refine aD h fun g0 h => (yaC ?_)
       replace h := hA26 _ (aA h)
       exact zaj
      ·replace h := yaG (hE26 _ (aA h))
       exact aU (carry_33, W) h rfl xAe
     ·rintro ⟨carry_31, u_32⟩ h
      simp only [go_sem, cA F, cB F, cC F]
      replace h : sat (xN F g f b q carry_31 u_32) _ := h
      unfold xN at h
      refine aD h fun g0 h => ?_
      refine aD h fun g1 h => (yaC ?_)
      refine aD h fun g0 h => ?_
      refine aD h fun g1 h => (yaC ?_)
      obtain rfl := aL h
      refine dP hF [.tmp 4] rfl rfl rfl rfl rfl rfl ?_
      (try simp only [aR, jT, jL, eV, cT, AV.isAgg, go_sem, cA F, cB F, cC F]) <;> first | trivial | rfl | (simp; done)
end
end Nu
end Go.Proofs
namespace Go.Proofs
open Go.Vc
set_option maxRecDepth 20000
namespace Nu
noncomputable section
set_option maxHeartbeats 4000000
def aBB : Ty := .pair we ve
def aCG : aG := ⟨aBB, .tup (.pair we ve), fun x => aHq x.1 x.2.1, fun x => pV x.1 x.2.1⟩
attribute [go_sem] aCG aBB
def aTO (F : Md) : aG := mSpec aBB (.tup (.pair we ve)) (fun x => aBz F x.1 x.2.1)
abbrev nY (F : Md) : List (FuncId × aG) := [(115, sR), (142, dH), (143, aD3), (144, fO), (145, aCF), (146, aAY), (148, iB), (149, yH)]
theorem aMZ [Mx] (F : Md) : bE Tryz.prog GL (nY F) := .cons aHy xAa (.cons pT xAa (.cons aV1 xAa (.cons uU xAa (.cons aTN xAa (.cons aPS xAa (.cons xP xAa (.cons aMU xAa (.nil))))))))
theorem aTP [Mx] (F : Md) : FOK Tryz.prog GL 104 (aTO F) := by
 refine aGp (bC (aMZ F)) Tryz.func104 rfl xAa xAb fun w0 S x r L h => ?_
 have hF : tI (fr Tryz.prog (EM (nY F)) S w0 Tryz.f104.ntmps) := ⟨bC (aMZ F), mix⟩
 obtain ⟨(z : qa), (f : qa), u⟩ := x
 simp only [aBB, Ty.wf, aHd] at L
 simp only [bT, aBB]
 try dsimp only at h
 replace h : aBz F z f = some r := h
 unfold aBz at h
 refine aO (aS hF [0, 1] (yaA ?_))
 refine aQ (aO (aO (aS hF [0, 1, 15] (yaA ?_))))
 obtain ⟨g0, h⟩ := bV h
 repeat (refine ⟨zAA, ?_⟩)
 refine aQ (dC rfl (fun hc => ?_) (fun hc => ?_))
 ·try simp only [go_sem] at hc
  have h := qL zAC h
  refine aO (dT hF [4, 5] (yaA ?_))
  obtain ⟨g0, h⟩ := bV h
  repeat (refine ⟨zAA, ?_⟩)
  obtain rfl := Option.some.inj h
  refine aQ (jS (fM (sA hF [.tmp 4, .tmp 5] rfl rfl rfl ?_)))
  exact zaQ
 ·try simp only [go_sem] at hc
  have h := qM zAC h
  refine eJ (aQ (aO (aO (aS hF [0, 1, 20] (yaA ?_)))))
  refine aQ (dC rfl (fun hc => ?_) (fun hc => ?_))
  ·try simp only [go_sem] at hc
   have h := qL zAC h
   refine aO (aS hF [4, 5] (yaA ?_))
   obtain ⟨g0, h⟩ := bV h
   obtain ⟨g1, h⟩ := bV h
   repeat (refine ⟨zAA, ?_⟩)
   obtain rfl := Option.some.inj h
   refine aQ (jS (fM (sA hF [.tmp 4, .tmp 5] rfl rfl rfl ?_)))
   exact zaQ
  ·try simp only [go_sem] at hc
   have h := qM zAC h
   refine eJ (aQ (aO (aS hF [0, 1, 6, 7] (yaA ?_))))
   obtain ⟨g0, h⟩ := bV h
   obtain ⟨g1, h⟩ := bV h
   try simp only [I64, I32] at g0
   repeat (refine ⟨zAA, ?_⟩)
   refine aQ (aO (dT hF [0, 6, 7, 8, 9] (yaA ?_)))
   obtain ⟨g0, h⟩ := bV h
   repeat (refine ⟨zAA, ?_⟩)
   obtain ⟨g0, h⟩ := bV h
   repeat (refine ⟨zAA, ?_⟩)
   obtain ⟨g0, h⟩ := bV h
   repeat (refine ⟨zAA, ?_⟩)
   obtain ⟨g0, h⟩ := bV h
   try simp only [I64, I32] at g0
   repeat (refine ⟨zAA, ?_⟩)
   obtain ⟨g0, h⟩ := bV h
   repeat (refine ⟨zAA, ?_⟩)
   refine aQ (aO (dT hF [0, 6, 7, 8, 9, 10] (yaA ?_)))
   obtain ⟨g0, h⟩ := bV h
   try simp only [I64, I32] at g0
   repeat (refine ⟨zAA, ?_⟩)
   obtain ⟨g0, h⟩ := bV h
   try simp only [I64, I32] at g0
   repeat (refine ⟨zAA, ?_⟩)
   obtain ⟨g0, h⟩ := bV h
   obtain ⟨g1, h⟩ := bV h
   repeat (refine ⟨zAA, ?_⟩)
   refine aQ (aCr (D := qa × qa) (fun d => aAt F f d.1 d.2 = some r) [6, 7] (fun d => [(9, .own 0), (10, .own 1)]) (fun d => [.inr (.row 165 qt d.1), .inr (.row 165 qt d.2)]) ?_ ?_)
   ·refine aO (aS hF [6, 7, 8, 9, 10, 11] (yaA ?_))
    obtain ⟨g0, h⟩ := bV h
    try simp only [I64, I32] at g0
    repeat (refine ⟨zAA, ?_⟩)
    refine aQ (qW (aLx 0 (yaA ?_)))
    refine aKm [1, 2] rfl rfl (yaB ?_)
    refine aGo (D := Int × qa × qa) [6, 7, 8] (fun d => [(9, .own 0), (10, .own 1), (11, .val qc d.1)]) (fun d => [.inr (.row 165 qt d.2.1), .inr (.row 165 qt d.2.2)]) h ?_ ?_ ?_
    ·first | rfl | (simp only [go_sem]; done)
    ·exact zAI
    rintro ⟨b, q, s⟩ U h j
    simp only [go_sem]
    try dsimp only at h
    unfold sL at h
    refine aO (aO (aS hF [6, 7, 8, 9, 10, 11, 60] (yaA ?_)))
    refine aQ (dC rfl (fun hc => ?_) (fun hc => ?_))
    ·try simp only [go_sem] at hc
     have h := qL zAC h
     obtain ⟨g0, h⟩ := bV h
     try simp only [I64, I32] at g0
     obtain ⟨g1, h⟩ := bV h
     try simp only [I64, I32] at g1
     obtain ⟨W, h⟩ := bV h
     obtain ⟨g, N, h⟩ := bind_some h
     try dsimp only at h
     obtain ⟨O, h⟩ := bV h
     refine eJ (aQ (aO (qW (cK hF (eQ (l := [(147, ⟨aHC F, [0], ((b.toNat), (((b + (f.length : Int)) + (1 : Int)) - b).toNat, (fN (jD f (aB (f.getD ((f.length : Int) - (1 : Int)).toNat (0 : Nat)))) (f.length : Int)), q, g)⟩)]) (.cons (aV3 F) xAa (.nil))) [6, 7, 8, 9, 10, 11] [71] (yaD ?_)))))
     refine qJ (aQ (aS hF [6, 7, 8, 9, 10, 11] (yaA ?_)))
     obtain ⟨g0, h⟩ := bV h
     try simp only [I64, I32] at g0
     repeat (refine ⟨zAA, ?_⟩)
     obtain rfl := Option.some.inj h
     dsimp only [aBp] at j
     refine dX (aU ((b - (1 : Int)), g.2, (s.set (b.toNat) g.1)) j rfl ?_)
     ·exact zAI
    ·try simp only [go_sem] at hc
     have h := qM zAC h
     obtain rfl := Option.some.inj h
     dsimp only [aBp] at j
     have h := yaG (j)
     refine aEB (mF (mF (qK (dX (aU (q, s) h rfl ?_)))))
     ·exact zAI
   ·rintro ⟨J, I⟩ h
    try dsimp only at h
    simp only [go_sem]
    unfold aAt at h
    refine aO (aLx 1 (yaA ?_))
    refine aLx 0 (yaA ?_)
    refine aS hF [4, 5] (yaA ?_)
    obtain ⟨g0, h⟩ := bV h
    obtain ⟨g1, h⟩ := bV h
    repeat (refine ⟨zAA, ?_⟩)
    obtain rfl := Option.some.inj h
    refine aQ (jS (sA hF [.tmp 4, .tmp 5] rfl rfl rfl ?_))
    exact zaQ
theorem aTQ [Mx] : FOK Tryz.prog GL 104 aCG := iW (aTP none) (fun ⟨f, x1, u⟩ ⟨w0, b, g⟩ hp => aSn f w0 x1 b hp)
end
end Nu
end Go.Proofs
namespace Go.Proofs
namespace Nu
end Nu
end Go.Proofs
namespace Go.Proofs
open Go.Vc
set_option maxRecDepth 20000
namespace Nu
noncomputable section
set_option maxHeartbeats 4000000
theorem aB8 [Mx] : bE Tryz.prog GL [] := .nil
def lS (F : Md) (b : Bool) (f : Int) : Option (Unit ⊕ qn) :=
 if ¬ (b = true) then some (.inr (f, ())) else some (.inl ())
def aHD (F : Md) : fT where
 D := Bool × Int × (Unit ⊕ qn)
 av := fun d => [.val .bool d.1, .val qc d.2.1]
 hp := fun d => []
 m := 0
 pre := fun d => lS F d.1 d.2.1 = some d.2.2
 out := fun d => match d.2.2 with | .inl r => .ret (.tup []) [] | .inr p => .pan ⟨231, qj, p⟩ []
def aHE (F : Md) (vs : List AV) (h : List Vc.Obj) : Hit := mkH (lS F (rD h vs 0 .bool) (rD h vs 1 qc)) (.inr ((0 : Int), ())) fun r => ⟨(aHD F), [], ((rD h vs 0 .bool), (rD h vs 1 qc), r)⟩
attribute [go_sem] aHE
def aM0 : PlR := ⟨[(0, .A [1, 5]), (1, .P [] [])], [], []⟩
abbrev aX2 (F : Md) : List (FuncId × aG) := []
theorem aX3 [Mx] (F : Md) : bE Tryz.prog GL (aX2 F) := .nil
attribute [go_sem] aM0 aHD
theorem aM1 [Mx] (F : Md) : GOK Tryz.prog GL 191 (aHD F) := by
 refine kE (bC (aX3 F)) mix Tryz.func191 rfl xAa (fun _ => Nat.le_of_ble_eq_true rfl) aM0 (fun j w0 d q g h hV => ?_)
 obtain ⟨(b : Bool), (f : Int), r⟩ := d
 have hF := hV.fr
 replace h := kF (show lS F b f = some r from h)
 simp only [tP, List.map_cons, List.map_nil, go_sem]
 unfold lS at h
 refine aAF h (fun hc h => ?_) fun hc h => ?_
 ·obtain rfl := aL h
  refine aZ rfl rfl rfl rfl
 ·obtain rfl := aL h
  exact zaq
def wE (F : Md) (f : Int) (b : qa) (g : Bool) : Option (qu ⊕ qn) :=
 ck (I64 (f + (kL b))) ((lS F (decide ((f + (kL b)) ≤ (1048576 : Int))) (3 : Int)).bind (fun e => match e with | .inl q => ck (I64 (f + (kL b))) (some (.inl (g, (uL b (kL b)), (f + (kL b)), ()))) | .inr j => some (.inr j)))
def xQ (F : Md) (f : Bool) (b : qa) (g : Int) : Option (qu ⊕ qn) :=
 if (b.length : Int) = (0 : Int) then some (.inl (false, ([] : List Nat), (0 : Int), ())) else ck (pSz b) (ck (aVJ b (kL b)) ((lS F (decide ((((uL b (kL b)).length : Nat) : Int) ≤ (64 : Int))) (2 : Int)).bind (fun e => match e with | .inl I => if g ≤ (1048576 : Int) then ck (I64 ((-1048576 : Int) - (kL b))) ((lS F ((decide (g ≤ (1048576 : Int))) && (decide (((-1048576 : Int) - (kL b)) ≤ g))) (3 : Int)).bind (fun e => match e with | .inl z => wE F g b f | .inr q => some (.inr q))) else (lS F false (3 : Int)).bind (fun e => match e with | .inl s => wE F g b f | .inr j => some (.inr j)) | .inr r => some (.inr r))))
def aJo (F : Md) : fT where
 D := Bool × qa × Int × (qu ⊕ qn)
 av := fun d => [.val .bool d.1, .val we d.2.1, .val qc d.2.2.1]
 hp := fun d => []
 m := 0
 pre := fun d => xQ F d.1 d.2.1 d.2.2.1 = some d.2.2.2
 out := fun d => match d.2.2.2 with | .inl r => .ret (.val qo r) [] | .inr p => .pan ⟨231, qj, p⟩ []
def aJp (F : Md) (vs : List AV) (h : List Vc.Obj) : Hit := mkH (xQ F (rD h vs 0 .bool) (rD h vs 1 we) (rD h vs 2 qc)) (.inr ((0 : Int), ())) fun r => ⟨(aJo F), [], ((rD h vs 0 .bool), (rD h vs 1 we), (rD h vs 2 qc), r)⟩
attribute [go_sem] aJp
def aPU (F : Md) : PlR := ⟨[(0, .B [0, 1, 2, 6]), (1, .A [0, 1, 2, 6, 10]), (2, .B [6]), (3, .A [0, 1, 2, 6, 7]), (4, .A [0, 1, 2, 6, 7]), (5, .P [0, 1, 2, 6, 7] []), (6, .P [0, 1, 2, 6, 7] []), (7, .P [0, 1, 2, 6, 7] []), (8, .B [6])], [(9, 10)], [(191, aHE F)]⟩
abbrev aLL (F : Md) : List (FuncId × aG) := [(149, yH), (190, aD2)]
theorem aZk [Mx] (F : Md) : bE Tryz.prog GL (aLL F) := .cons aMU xAa (.cons aVT xAa (.nil))
attribute [go_sem] aPU aJo
theorem aPV [Mx] (F : Md) : GOK Tryz.prog GL 156 (aJo F) := by
 refine kE (bC (aZk F)) mix Tryz.func156 rfl xAa (fun _ => Nat.le_of_ble_eq_true rfl) (aPU F) (fun Y w0 d Z W h hV => ?_) (.cons (fun _ _ => (aM1 F)) xAa (.nil))
 obtain ⟨(b : Bool), (f : qa), (g : Int), r⟩ := d
 have hF := hV.fr
 replace h := kF (show xQ F b f g = some r from h)
 simp only [tP, List.map_cons, List.map_nil, go_sem]
 unfold xQ at h
 refine cI h (fun hc h => ?_) fun hc h => ?_
 ·obtain rfl := aL h
  refine kV hF [.cell 6 119] [] rfl rfl rfl rfl rfl rfl rfl rfl rfl ?_
  exact zaC
 ·refine aD h fun g0 h => (yaC ?_)
  refine aD h fun g0 h => (yaC ?_)
  refine aC h fun e hv h => ?_
  rcases e with O | U
  ·try dsimp only at h
   simp only [hv, go_sem]
   refine cX hV (D := Unit) (fun d => sat (wE F g f b) (fun z => z = r)) [0, 1, 2, 7] (fun d => [(6, .ptr 0 [])]) (fun d => [.inr (.box 3 (.val qo (false, ([] : List Nat), (0 : Int), ())))]) ?_ ?_
   ·simp only [go_sem]
    refine ⟨fun hc => ?_, fun hc => ?_⟩
    ·replace h := gB zAC h
     refine ⟨fun _ => ?_, fun j => by first | (exfalso; omega) | (exfalso; simp_all; done)⟩
     refine ⟨fun _ => ?_, fun j => by first | (exfalso; omega) | (exfalso; simp_all; done)⟩
     refine aD h fun g0 h => (yaC ?_)
     refine ⟨fun _ => ?_, fun j => by first | (exfalso; omega) | (exfalso; simp_all; done)⟩
     refine aC h fun e hv h => ?_
     rcases e with N | L
     ·try dsimp only at h
      simp only [hv, go_sem]
      exact aU () h rfl xAc
     ·try dsimp only at h
      exact zav
    ·replace h := gC zAC h
     first | (refine ⟨fun j => by first | (exfalso; omega) | (exfalso; simp_all; done), fun _ => ?_⟩) | (with_reducible intro _) | skip
     first | (refine ⟨fun j => by first | (exfalso; omega) | (exfalso; simp_all; done), fun _ => ?_⟩) | (with_reducible intro _) | skip
     first | (refine ⟨fun j => by first | (exfalso; omega) | (exfalso; simp_all; done), fun _ => ?_⟩) | (with_reducible intro _) | skip
     refine aC h fun e hv h => ?_
     rcases e with s | J
     ·try dsimp only at h
      simp only [hv, go_sem]
      repeat (refine ⟨zAB, ?_⟩)
      exact aU () h rfl (by (try simp only [xA, eV, true_or, and_self, go_sem]) <;> (repeat' apply And.intro) <;> first | rfl | (left; rfl) | (right; rfl) | (left; simp only [go_sem]; done) | (right; simp only [go_sem]; done) | (simp; done) | (simp only [*]; done) | omega)
     ·try dsimp only at h
      simp only [hv, go_sem]
      repeat (refine ⟨zAB, ?_⟩)
      exact zaP
   ·rintro u h
    simp only [go_sem]
    replace h : sat (wE F g f b) _ := h
    unfold wE at h
    refine aD h fun g0 h => (yaC ?_)
    refine aC h fun e hv h => ?_
    rcases e with I | q
    ·try dsimp only at h
     simp only [hv, go_sem]
     refine aD h fun g0 h => (yaC ?_)
     obtain rfl := aL h
     refine kV hF [.cell 6 119] [] rfl rfl rfl rfl rfl rfl rfl rfl rfl ?_
     exact zaC
    ·try dsimp only at h
     exact zav
  ·try dsimp only at h
   exact zav
def yI (F : Md) (b : Bool) (f : qa) (g : Int) : Option (qu ⊕ qn) :=
 (xQ F b f g).bind (fun e => match e with | .inl j => some (.inl j) | .inr q => some (.inr q))
def aCH (F : Md) : fT where
 D := Bool × qa × Int × (qu ⊕ qn)
 av := fun d => [.val (.rp .bool) d.1, .val (.rp we) d.2.1, .val (.rp qc) d.2.2.1]
 hp := fun d => []
 m := 0
 pre := fun d => yI F d.1 d.2.1 d.2.2.1 = some d.2.2.2
 out := fun d => match d.2.2.2 with | .inl r => .ret (.val qo r) [] | .inr p => .pan ⟨231, qj, p⟩ []
def aKR (F : Md) : PlR := ⟨[(0, .B [0, 1, 2, 3]), (1, .P [3] [])], [], [(156, aJp F)]⟩
abbrev aV4 (F : Md) : List (FuncId × aG) := []
theorem aV5 [Mx] (F : Md) : bE Tryz.prog GL (aV4 F) := .nil
attribute [go_sem] aKR aCH
theorem aKS [Mx] (F : Md) : GOK Tryz.prog GL 155 (aCH F) := by
 refine kE (bC (aV5 F)) mix Tryz.func155 rfl xAa (fun _ => Nat.le_of_ble_eq_true rfl) (aKR F) (fun z w0 d I j h hV => ?_) (.cons (fun _ _ => (aPV F)) xAa (.nil))
 obtain ⟨(b : Bool), (f : qa), (g : Int), r⟩ := d
 have hF := hV.fr
 replace h := kF (show yI F b f g = some r from h)
 simp only [tP, List.map_cons, List.map_nil, go_sem]
 unfold yI at h
 refine aC h fun e hv h => ?_
 rcases e with q | s
 ·try dsimp only at h
  simp only [hv, go_sem]
  exact zat
 ·try dsimp only at h
  exact zav
def qP : fT where
 D := qu × Int
 av := fun _ => [.ptr 0 [], .ptr 1 []]
 hp := fun d => [.box 3 (.val qo d.1), .box 1 (.val qc d.2)]
 m := 2
 pre := fun _ => True
 out := fun d => .ret (.tup []) [.box 3 (.val qo d.1), .box 1 (.val qc d.2)]
def qQ (x : qn) : fT where
 D := qu × Int
 av := fun _ => [.ptr 0 [], .ptr 1 []]
 hp := fun d => [.box 3 (.val qo d.1), .box 1 (.val qc d.2)]
 m := 2
 pre := fun _ => True
 out := fun d => .ret (.tup []) [.box 3 (.val qo (false, ([] : List Nat), (0 : Int), ())), .box 1 (.val qc x.1)]
theorem aJq [Mx] : DOK Tryz.prog GL 189 none qP := by
 refine aOp (bC aB8) Tryz.func189 rfl xAa (fun _ => Nat.le_of_ble_eq_true rfl) rfl fun c w d b f hp g => ?_
 have hF : tI ⟨Tryz.prog, EM [], GM qP c d, w, Tryz.f189.ntmps, []⟩ := ⟨bC aB8, mix⟩
 obtain ⟨d, e⟩ := d
 show vR _ _ _ [(5, .val .nili ()), (0, .ptr 0 []), (1, .ptr 1 [])] [.box 3 (.val qo d), .box 1 (.val qc e)] _
 simp only [go_sem]
 refine aO (aS hF [0, 1, 2, 9] (yaA ?_))
 refine aQ (dC rfl (fun hc => absurd hc xAb) (fun hc => ?_))
 refine eJ ?_
 refine iI [0, 1] rfl rfl (yaB ?_)
 exact zaZ
theorem aJr [Mx] (x : qn) : DOK Tryz.prog GL 189 (some ⟨231, qj, x⟩) (qQ x) := by
 refine aOp (bC aB8) Tryz.func189 rfl xAa (fun _ => Nat.le_of_ble_eq_true rfl) rfl fun c w d b f hp g => ?_
 have hF : tI ⟨Tryz.prog, EM [], GM (qQ x) c d, w, Tryz.f189.ntmps, []⟩ := ⟨bC aB8, mix⟩
 obtain ⟨d, e⟩ := d
 show vR _ _ _ [(5, .val (.ifc 231 qj) x), (0, .ptr 0 []), (1, .ptr 1 [])] [.box 3 (.val qo d), .box 1 (.val qc e)] _
 simp only [go_sem]
 refine aO (aS hF [0, 1, 2, 9] (yaA ?_))
 refine aQ (dC rfl (fun hc => ?_) (fun hc => absurd hc xAb))
 refine aFt hF [] [] [.box 3 (.val qo (false, ([] : List Nat), (0 : Int), ())), .box 1 (.val qc x.1), .box 1 (.val qj x)] xAb ?_ ?_
 ·simp only [go_sem]
  unfold anyS
  intro i hi
  have hi : i = 0 ∨ i = 1 := by revert hi; revert i; decide
  rcases hi with rfl | rfl
  ·simp only [go_sem]
   skip
   unfold anyS
   intro i hi
   have hi : i = 1 ∨ i = 3 := by revert hi; revert i; decide
   rcases hi with rfl | rfl
   ·simp only [go_sem]
    exact zab
   ·simp only [go_sem]
    skip
    unfold anyS
    intro i hi
    have hi : i = 1 := by revert hi; revert i; decide
    subst hi
    simp only [go_sem]
    skip
    unfold anyS
    intro i hi
    have hi : i = 2 := by revert hi; revert i; decide
    exact zaK
  ·simp only [go_sem]
   skip
   unfold anyS
   intro i hi
   have hi : i = 0 ∨ i = 2 := by revert hi; revert i; decide
   rcases hi with rfl | rfl
   ·simp only [go_sem]
    exact zab
   ·simp only [go_sem]
    skip
    unfold anyS
    intro i hi
    have hi : i = 0 := by revert hi; revert i; decide
    subst hi
    simp only [go_sem]
    skip
    unfold anyS
    intro i hi
    have hi : i = 3 := by revert hi; revert i; decide
    exact zaK
 refine iI [0, 1] rfl rfl (yaB ?_)
 exact zaZ
def iX (F : Md) (b : Bool) (c1 : qa) (f : Int) : Option (qu × Int × Unit) :=
 (yI F b c1 f).bind fun q => some (match q with | .inl r => (r, 0, ()) | .inr p => ((false, ([] : List Nat), (0 : Int), ()), p.1, ()))
def aAZ : Ty := .pair (.clo 155 (.pair (.rp .bool) (.pair (.rp we) (.pair (.rp qc) .unit)))) .unit
def nZ (F : Md) : aG := mSpec aAZ (.tup (.pair qo qj)) (fun x => iX F x.1.1 x.1.2.1 x.1.2.2.1)
theorem aF0 [Mx] (F : Md) : FOK Tryz.prog GL 154 (nZ F) := by
 refine aHm (bC aB8) Tryz.func154 rfl xAa xAb fun w0 S x r j h => ?_
 have hF : tI (fr Tryz.prog (EM []) S w0 Tryz.f154.ntmps) := ⟨bC aB8, mix⟩
 obtain ⟨⟨(b : Bool), (c1 : qa), (f : Int), g⟩, u⟩ := x
 replace h : iX F b c1 f = some r := h
 show Tri _ _ _ [(0, .val (.clo 155 (.pair (.rp .bool) (.pair (.rp we) (.pair (.rp qc) .unit)))) (b, c1, f, g))] []
 unfold iX at h
 obtain ⟨q, hq, h⟩ := bind_some h
 obtain rfl := Option.some.inj h
 refine aO (dT hF [0, 2, 3] (yaA ?_))
 refine aQ (aCA 2 [0, 1] rfl rfl (Nat.zero_le _) xAb fun roots hroots => ?_)
 have hF' : tI { fr Tryz.prog (EM []) S w0 Tryz.f154.ntmps with M := ⟨nothing, S, 2, roots⟩, ds := [⟨.fn (.func 189) ([0, 1].map roots).toArray, #[]⟩] } := ⟨bC aB8, mix⟩
 rcases q with q | q
 ·refine aO (cK hF' (eQ (l := [(155, ⟨aCH F, [], (b, c1, f, .inl q)⟩)]) (.cons (aKS F) xAa .nil)) [2, 3] [] (yaA ?_))
  exact zai
 ·refine aO (cK hF' (eQ (l := [(155, ⟨aCH F, [], (b, c1, f, .inr q)⟩)]) (.cons (aKS F) xAa .nil)) [2, 3] [] (yaA ?_))
  exact zag
attribute [go_sem] nZ aAZ
def xR (F : Md) (b : Bool) (g : qa) (j : Int) : Option (qu × qn) :=
 (iX F b g j).bind (fun f => some (f.1, f.2.1, ()))
def aPW : PlR := ⟨[(0, .B [3, 4, 5, 6]), (1, .stop)], [], []⟩
def aSA : Ty := .pair .bool (.pair we qj)
def aA0 (F : Md) : aG := mSpec aSA (.tup (.pair qo qj)) (fun x => xR F x.1 x.2.1 x.2.2.1)
abbrev aSB (F : Md) : List (FuncId × aG) := [(154, (nZ F))]
theorem aZl [Mx] (F : Md) : bE Tryz.prog GL (aSB F) := .cons (aF0 F) xAa (.nil)
attribute [go_sem] aSA aPW
theorem aPX [Mx] (F : Md) : FOK Tryz.prog GL 108 (aA0 F) := by
 refine bN (bC (aZl F)) mix Tryz.func108 rfl xAa xAb aPW (fun w0 S x Θ q h hV => ?_)
 obtain ⟨(b : Bool), (f : qa), (g : Int), u⟩ := x
 simp only [bT, go_sem]
 replace h : sat (xR F b f g) _ := h
 unfold xR at h
 refine aC0 0 rfl (yaA ?_)
 refine aC0 1 rfl (yaA ?_)
 refine aC0 2 rfl (yaA ?_)
 refine aSa hV [6, 7] (yaA ?_)
 refine aC h fun j hv h => ?_
 try simp only [hv, go_sem]
 exact aH hV [.cell 6 119, .tmp 7] rfl rfl rfl (aA h) xAd
attribute [go_sem] aA0
def mI (F : Md) (b : qu) : Option Bool :=
 if (b.2.1.length : Int) = (0 : Int) then some ((!b.1) && (decide (b.2.2.1 = (0 : Int)))) else ck (((aGu b.2.1) = true) → ((0 : Int) < (b.2.1.length : Int))) (some ((((aGu b.2.1) && (decide (((b.2.1.getD (0 : Nat) (0 : Nat)) &&& (1 : Nat)) = (1 : Nat)))) && (decide ((-1048576 : Int) ≤ b.2.2.1))) && (decide (b.2.2.1 ≤ (1048576 : Int)))))
def aPY : PlR := ⟨[(0, .B [1]), (1, .A [1, 6]), (2, .A [2]), (3, .A [2])], [], []⟩
def aSD : Ty := .pair qo .unit
def uM (F : Md) : aG := mSpec aSD (.one .bool) (fun x => mI F x.1)
abbrev aSE (F : Md) : List (FuncId × aG) := [(157, aHx)]
theorem aZm [Mx] (F : Md) : bE Tryz.prog GL (aSE F) := .cons aZd xAa (.nil)
attribute [go_sem] aSD aPY
theorem aJs [Mx] (F : Md) : FOK Tryz.prog GL 109 (uM F) := by
 refine bN (bC (aZm F)) mix Tryz.func109 rfl xAa xAb aPY (fun w0 S x Θ f h hV => ?_)
 obtain ⟨(b : qu), u⟩ := x
 simp only [bT, go_sem]
 replace h : sat (mI F b) _ := h
 unfold mI at h
 refine cI h (fun hc h => ?_) fun hc h => ?_
 ·exact aH hV [.tmp 2] rfl rfl rfl (aA h) xAd
 ·refine aN h fun g0 h => ?_
  exact zaH
attribute [go_sem] uM
def sS (F : Md) (b : qu) : Option Int :=
 (mI F b).bind (fun f => if (¬ (f = true)) ∨ ((b.2.1.length : Int) = (0 : Int)) then some (0 : Int) else if b.1 = true then some (-1 : Int) else some (1 : Int))
def aM2 : PlR := ⟨[(0, .B [1]), (1, .A [1, 3]), (2, .A [2]), (3, .A [13]), (4, .A [2]), (5, .A [2])], [], []⟩
def aPZ : Ty := .pair qo .unit
def yJ (F : Md) : aG := mSpec aPZ (.one qc) (fun x => sS F x.1)
abbrev aP0 (F : Md) : List (FuncId × aG) := [(109, (uM F))]
theorem aX4 [Mx] (F : Md) : bE Tryz.prog GL (aP0 F) := .cons (aJs F) xAa (.nil)
attribute [go_sem] aPZ aM2
theorem aM3 [Mx] (F : Md) : FOK Tryz.prog GL 60 (yJ F) := by
 refine bN (bC (aX4 F)) mix Tryz.func60 rfl xAa xAb aM2 (fun w0 S x Θ g h hV => ?_)
 obtain ⟨(b : qu), u⟩ := x
 simp only [bT, go_sem]
 replace h : sat (sS F b) _ := h
 unfold sS at h
 refine aC h fun f hv h => ?_
 try simp only [hv, go_sem]
 refine ⟨fun hc => ?_, fun hc => ?_⟩
 ·replace h := gB zAC h
  exact zaH
 ·replace h := gC zAC h
  exact zaw
attribute [go_sem] yJ
def aA1 (F : Md) (f : qu) (b : qu) : Option Int :=
 ck (bAs f.2.1) (ck (I64 ((rF f.2.1) + f.2.2.1)) (ck (bAs b.2.1) (ck (I64 ((rF b.2.1) + b.2.2.1)) (if ((rF f.2.1) + f.2.2.1) < ((rF b.2.1) + b.2.2.1) then some (-1 : Int) else if ((rF b.2.1) + b.2.2.1) < ((rF f.2.1) + f.2.2.1) then some (1 : Int) else ck (I64 (f.2.2.1 - (min f.2.2.1 b.2.2.1))) (ck (aUN f.2.1 (f.2.2.1 - (min f.2.2.1 b.2.2.1))) (ck (I64 (b.2.2.1 - (min f.2.2.1 b.2.2.1))) (ck (aUN b.2.1 (b.2.2.1 - (min f.2.2.1 b.2.2.1))) (ck (aXz (jD f.2.1 (f.2.2.1 - (min f.2.2.1 b.2.2.1))) (jD b.2.1 (b.2.2.1 - (min f.2.2.1 b.2.2.1)))) (some (qO (jD f.2.1 (f.2.2.1 - (min f.2.2.1 b.2.2.1))) (jD b.2.1 (b.2.2.1 - (min f.2.2.1 b.2.2.1)))))))))))))
def aM4 : PlR := ⟨[(0, .B [2, 3]), (1, .A [2, 3, 5, 6]), (2, .A [2, 3, 5, 6, 20]), (3, .A [4]), (4, .A [2, 3, 24]), (5, .A [4]), (6, .A [2, 3, 7]), (7, .A [4])], [], []⟩
def aP1 : Ty := .pair qo (.pair qo .unit)
def aD4 (F : Md) : aG := mSpec aP1 (.one qc) (fun x => aA1 F x.1 x.2.1)
abbrev aFA (F : Md) : List (FuncId × aG) := [(115, sR), (146, aAY), (158, aFx)]
theorem aX5 [Mx] (F : Md) : bE Tryz.prog GL (aFA F) := .cons aHy xAa (.cons aPS xAa (.cons aXP xAa (.nil)))
attribute [go_sem] aP1 aM4
theorem aV6 [Mx] (F : Md) : FOK Tryz.prog GL 110 (aD4 F) := by
 refine bN (bC (aX5 F)) mix Tryz.func110 rfl xAa xAb aM4 (fun w0 S x Θ r h hV => ?_)
 obtain ⟨(b : qu), (f : qu), u⟩ := x
 simp only [bT, go_sem]
 replace h : sat (aA1 F b f) _ := h
 unfold aA1 at h
 refine aN h fun g0 h => aN h fun g1 h => aN h fun j h => aN h fun g h => ?_
 refine dY h (fun hc h => ?_) fun hc h => ?_
 ·exact aH hV [.tmp 4] rfl rfl rfl (aA h) xAd
 ·refine dY h (fun hc h => ?_) fun hc h => ?_
  ·exact aH hV [.tmp 4] rfl rfl rfl (aA h) xAd
  ·refine aN h fun g0 h => aN h fun g1 h => aN h fun j h => aN h fun g h => aN h fun q h => ?_
   exact zaD
attribute [go_sem] aD4
def xS (F : Md) (q : qu) (f : qu) : Option Int :=
 (sS F q).bind (fun v_13 => (sS F f).bind (fun b => (mI F q).bind (fun g => ck (¬ (¬ (g = true)) → ((mI F f).isSome = true)) (if (¬ (g = true)) ∨ (¬ (((mI F f).getD false) = true)) then some (0 : Int) else if (¬ (v_13 = b)) ∧ (v_13 < b) then some (-1 : Int) else if ¬ (v_13 = b) then some (1 : Int) else if v_13 = (0 : Int) then some (0 : Int) else (aA1 F q f).bind (fun j => ck (I64 (v_13 * j)) (some (v_13 * j)))))))
def aP2 : PlR := ⟨[(0, .B [2, 3]), (1, .A [2, 3, 5, 6]), (2, .A [2, 3, 5, 6, 11]), (3, .A [4]), (4, .A [2, 3, 5, 6, 20]), (5, .A [4]), (6, .A [2, 3, 5, 29]), (7, .A [4]), (8, .A [2, 3, 5, 33]), (9, .A [4]), (10, .A [4])], [], []⟩
def aSG : Ty := .pair qo (.pair qo .unit)
def aA2 (F : Md) : aG := mSpec aSG (.one qc) (fun x => xS F x.1 x.2.1)
abbrev aHF (F : Md) : List (FuncId × aG) := [(109, (uM F)), (110, (aD4 F)), (60, (yJ F))]
theorem aZn [Mx] (F : Md) : bE Tryz.prog GL (aHF F) := .cons (aJs F) xAa (.cons (aV6 F) xAa (.cons (aM3 F) xAa (.nil)))
attribute [go_sem] aSG aP2
theorem aP3 [Mx] (F : Md) : FOK Tryz.prog GL 61 (aA2 F) := by
 refine bN (bC (aZn F)) mix Tryz.func61 rfl xAa xAb aP2 (fun w0 S x Θ r h hV => ?_)
 obtain ⟨(b : qu), (f : qu), u⟩ := x
 simp only [bT, go_sem]
 replace h : sat (xS F b f) _ := h
 unfold xS at h
 refine aC h fun v_13 hv h => ?_
 try simp only [hv, go_sem]
 refine aC h fun j hv h => ?_
 try simp only [hv, go_sem]
 refine aC h fun g hv h => ?_
 try simp only [hv, go_sem]
 refine aD h fun g0 h => ?_
 repeat (refine ⟨zAF, ?_⟩)
 refine ⟨fun hc => ?_, fun hc => ?_⟩
 ·replace h := gB zAC h
  exact zaD
 ·replace h := gC zAC h
  refine ⟨fun hc => ?_, fun hc => ?_⟩
  ·replace h := gB hc h
   exact zaD
  ·replace h := gC hc h
   refine cI h (fun hc h => ?_) fun hc h => ?_
   ·exact aH hV [.tmp 4] rfl rfl rfl (aA h) xAd
   ·refine cI h (fun hc h => ?_) fun hc h => ?_
    ·exact aH hV [.tmp 4] rfl rfl rfl (aA h) xAd
    ·refine aC h fun q hv h => ?_
     try simp only [hv, go_sem]
     refine aD h fun g0 h => ?_
     try simp only [I64, I32] at g0
     repeat (refine ⟨zAB, ?_⟩)
     exact zaD
attribute [go_sem] aA2
def yK (F : Md) (g : Int) (j : Int) (f : Nat) : Option (qu × qn) :=
 ck (pSz ([f] : List Nat)) ((xR F (decide (g < (0 : Int))) (pH ([f] : List Nat)) j).bind (fun b => some (b.1, b.2.1, ())))
def aEq (F : Md) (b : Int) (f : Int) : Option (qu × qn) :=
 if b < (0 : Int) then yK F b f (aMJ F .u64 (b % (18446744073709551616 : Int)).toNat) else yK F b f (b % (18446744073709551616 : Int)).toNat
def aSJ : PlR := ⟨[(0, .B [0, 1, 4]), (1, .A [0, 1, 4, 6]), (2, .A [0, 1, 4, 6, 10]), (3, .A [0, 1, 4, 6]), (4, .B [4, 5])], [(5, 7)], []⟩
def aUQ : Ty := .pair qc qj
def aHG (F : Md) : aG := mSpec aUQ (.tup (.pair qo qj)) (fun x => aEq F x.1 x.2.1)
abbrev aOL (F : Md) : List (FuncId × aG) := [(108, (aA0 F)), (153, aAX)]
theorem bBD [Mx] (F : Md) : bE Tryz.prog GL (aOL F) := .cons (aPX F) xAa (.cons aPQ xAa (.nil))
attribute [go_sem] aUQ aSJ
theorem aZo [Mx] (F : Md) : FOK Tryz.prog GL 111 (aHG F) := by
 refine bN (bC (bBD F)) mix Tryz.func111 rfl xAa xAb aSJ (fun w0 S x Θ q h hV => ?_)
 obtain ⟨(b : Int), (f : Int), u⟩ := x
 simp only [bT, go_sem]
 replace h : sat (aEq F b f) _ := h
 unfold aEq at h
 refine cX hV (D := Nat) (fun d => sat (yK F b f d) Θ) [0, 1] (fun d => [(4, .ptr 0 []), (6, .val qt d)]) (fun d => [.inr (.box 3 (.val qo (false, ([] : List Nat), (0 : Int), ())))]) ?_ ?_
 ·simp only [go_sem, cA F, cB F, cC F]
  refine dY h (fun hc h => ?_) fun hc h => ?_
  ·exact aU (aMJ F .u64 (b % (18446744073709551616 : Int)).toNat) h rfl xAe
  ·exact aU (b % (18446744073709551616 : Int)).toNat h rfl xAe
 ·rintro g h
  simp only [go_sem, cA F, cB F, cC F]
  replace h : sat (yK F b f g) _ := h
  unfold yK at h
  refine aD h fun g0 h => (yaC ?_)
  refine aC h fun j hv h => ?_
  try simp only [hv, go_sem, cA F, cB F, cC F]
  exact aH hV [.cell 4 119, .tmp 5] rfl rfl rfl (aA h) xAf
attribute [go_sem] aHG
def sT (F : Md) (f : qu) (b : qu) : Option (qu ⊕ qn) :=
 ck (aQk f.2.1 b.2.1) (ck (I64 (f.2.2.1 + b.2.2.1)) ((xQ F (f.1 != b.1) (cR f.2.1 b.2.1) (f.2.2.1 + b.2.2.1)).bind (fun e => match e with | .inl r_7 => some (.inl r_7) | .inr p_8 => some (.inr p_8))))
def aF1 (F : Md) : fT where
 D := qu × qu × (qu ⊕ qn)
 av := fun d => [.val qo d.1, .val qo d.2.1]
 hp := fun d => []
 m := 0
 pre := fun d => sT F d.1 d.2.1 = some d.2.2
 out := fun d => match d.2.2 with | .inl r => .ret (.val qo r) [] | .inr p => .pan ⟨231, qj, p⟩ []
def aKT (F : Md) (vs : List AV) (h : List Vc.Obj) : Hit := mkH (sT F (rD h vs 0 qo) (rD h vs 1 qo)) (.inr ((0 : Int), ())) fun r => ⟨(aF1 F), [], ((rD h vs 0 qo), (rD h vs 1 qo), r)⟩
attribute [go_sem] aKT
def aKU (F : Md) : PlR := ⟨[(0, .B [2, 3, 4]), (1, .Q 15 [4] [])], [], [(156, aJp F)]⟩
abbrev aM5 (F : Md) : List (FuncId × aG) := [(105, iM)]
theorem aV7 [Mx] (F : Md) : bE Tryz.prog GL (aM5 F) := .cons yG xAa (.nil)
attribute [go_sem] aKU aF1
theorem aTU [Mx] (F : Md) : GOK Tryz.prog GL 160 (aF1 F) := by
 refine kE (bC (aV7 F)) mix Tryz.func160 rfl xAa (fun _ => Nat.le_of_ble_eq_true rfl) (aKU F) (fun j w0 d q g h hV => ?_) (.cons (fun _ _ => (aPV F)) xAa (.nil))
 obtain ⟨(b : qu), (f : qu), r⟩ := d
 have hF := hV.fr
 replace h := kF (show sT F b f = some r from h)
 simp only [tP, List.map_cons, List.map_nil, go_sem]
 unfold sT at h
 refine ⟨by kernel_rfl, ?_⟩
 refine aD h fun g0 h => ?_
 refine aD h fun g1 h => ?_
 try simp only [I64, I32] at g1
 repeat (refine ⟨zAB, ?_⟩)
 refine aC h fun e hv h => ?_
 rcases e with r_7 | p_8
 ·try dsimp only at h
  simp only [hv, go_sem]
  obtain rfl := aL h
  refine kV hF [.cell 4 119] [] rfl rfl rfl rfl rfl rfl rfl rfl rfl ?_
  exact zaC
 ·try dsimp only at h
  exact zav
def gH (F : Md) (b : qu) (f : qu) (J : Unit) : Option (qu ⊕ qn) :=
 ck ((mI F b).isSome = true) (if ((mI F b).getD false) = true then ck ((mI F f).isSome = true) ((lS F (((mI F b).getD false) && ((mI F f).getD false)) (1 : Int)).bind (fun e => match e with | .inl L => (sT F b f).bind (fun e => match e with | .inl q => some (.inl q) | .inr s => some (.inr s)) | .inr z => some (.inr z))) else (lS F false (1 : Int)).bind (fun e => match e with | .inl I => (sT F b f).bind (fun e => match e with | .inl j => some (.inl j) | .inr r => some (.inr r)) | .inr g => some (.inr g)))
def oA (F : Md) : fT where
 D := qu × qu × Unit × (qu ⊕ qn)
 av := fun d => [.val (.rp qo) d.1, .val (.rp qo) d.2.1, .val (.rp (.clo 160 .unit)) d.2.2.1]
 hp := fun d => []
 m := 0
 pre := fun d => gH F d.1 d.2.1 d.2.2.1 = some d.2.2.2
 out := fun d => match d.2.2.2 with | .inl r => .ret (.val qo r) [] | .inr p => .pan ⟨231, qj, p⟩ []
def zY (F : Md) : PlR := ⟨[(0, .B [0, 1, 2, 3]), (1, .P [0, 1, 2, 3] []), (2, .P [3] [])], [], [(160, aKT F), (191, aHE F)]⟩
abbrev aA3 (F : Md) : List (FuncId × aG) := [(109, (uM F))]
theorem aGy [Mx] (F : Md) : bE Tryz.prog GL (aA3 F) := .cons (aJs F) xAa (.nil)
attribute [go_sem] zY oA
theorem zZ [Mx] (F : Md) : GOK Tryz.prog GL 192 (oA F) := by
 refine kE (bC (aGy F)) mix Tryz.func192 rfl xAa (fun _ => Nat.le_of_ble_eq_true rfl) (zY F) (fun W w0 d Y U h hV => ?_) (.cons (fun _ _ => (aTU F)) xAa (.cons (fun _ _ => (aM1 F)) xAa (.nil)))
 obtain ⟨(b : qu), (f : qu), (g : Unit), r⟩ := d
 have hF := hV.fr
 replace h := kF (show gH F b f g = some r from h)
 simp only [tP, List.map_cons, List.map_nil, go_sem]
 unfold gH at h
 refine aN h fun g0 h => ?_
 refine ⟨fun hc => ?_, fun hc => ?_⟩
 ·replace h := gB zAC h
  refine ⟨fun _ => ?_, fun O => by first | (exfalso; omega) | (exfalso; simp_all; done)⟩
  refine aN h fun g0 h => ?_
  refine aC h fun e hv h => ?_
  rcases e with J | N
  ·try dsimp only at h
   simp only [hv, go_sem]
   refine aC h fun e hv h => ?_
   rcases e with z | L
   ·try dsimp only at h
    simp only [hv, go_sem]
    exact zat
   ·try dsimp only at h
    exact zav
  ·try dsimp only at h
   exact zav
 ·replace h := gC zAC h
  first | (refine ⟨fun O => by first | (exfalso; omega) | (exfalso; simp_all; done), fun _ => ?_⟩) | (with_reducible intro _) | skip
  refine aC h fun e hv h => ?_
  rcases e with I | j
  ·try dsimp only at h
   simp only [hv, go_sem]
   refine aC h fun e hv h => ?_
   rcases e with q | s
   ·try dsimp only at h
    simp only [hv, go_sem]
    repeat (refine ⟨zAB, ?_⟩)
    exact zat
   ·try dsimp only at h
    simp only [hv, go_sem]
    repeat (refine ⟨zAB, ?_⟩)
    exact zaP
  ·try dsimp only at h
   simp only [hv, go_sem]
   repeat (refine ⟨zAB, ?_⟩)
   exact zaP
def cY (F : Md) (b : qu) (c1 : qu) (f : Unit) : Option (qu × Int × Unit) :=
 (gH F b c1 f).bind fun q => some (match q with | .inl r => (r, 0, ()) | .inr p => ((false, ([] : List Nat), (0 : Int), ()), p.1, ()))
def rL : Ty := .pair (.clo 192 (.pair (.rp qo) (.pair (.rp qo) (.pair (.rp (.clo 160 .unit)) .unit)))) .unit
def gL (F : Md) : aG := mSpec rL (.tup (.pair qo qj)) (fun x => cY F x.1.1 x.1.2.1 x.1.2.2.1)
theorem aAa [Mx] (F : Md) : FOK Tryz.prog GL 154 (gL F) := by
 refine aHm (bC aB8) Tryz.func154 rfl xAa xAb fun w0 S x r j h => ?_
 have hF : tI (fr Tryz.prog (EM []) S w0 Tryz.f154.ntmps) := ⟨bC aB8, mix⟩
 obtain ⟨⟨(b : qu), (c1 : qu), (f : Unit), g⟩, u⟩ := x
 replace h : cY F b c1 f = some r := h
 show Tri _ _ _ [(0, .val (.clo 192 (.pair (.rp qo) (.pair (.rp qo) (.pair (.rp (.clo 160 .unit)) .unit)))) (b, c1, f, g))] []
 unfold cY at h
 obtain ⟨q, hq, h⟩ := bind_some h
 obtain rfl := Option.some.inj h
 refine aO (dT hF [0, 2, 3] (yaA ?_))
 refine aQ (aCA 2 [0, 1] rfl rfl (Nat.zero_le _) xAb fun roots hroots => ?_)
 have hF' : tI { fr Tryz.prog (EM []) S w0 Tryz.f154.ntmps with M := ⟨nothing, S, 2, roots⟩, ds := [⟨.fn (.func 189) ([0, 1].map roots).toArray, #[]⟩] } := ⟨bC aB8, mix⟩
 rcases q with q | q
 ·refine aO (cK hF' (eQ (l := [(192, ⟨oA F, [], (b, c1, f, .inl q)⟩)]) (.cons (zZ F) xAa .nil)) [2, 3] [] (yaA ?_))
  exact zai
 ·refine aO (cK hF' (eQ (l := [(192, ⟨oA F, [], (b, c1, f, .inr q)⟩)]) (.cons (zZ F) xAa .nil)) [2, 3] [] (yaA ?_))
  exact zag
attribute [go_sem] gL rL
def nJ (F : Md) (g : qu) (f : qu) (b : Unit) : Option (qu × qn) :=
 ck ((cY F g f b).isSome = true) (some (((cY F g f b).getD ((false, ([] : List Nat), (0 : Int), ()), (0 : Int), ())).1, ((cY F g f b).getD ((false, ([] : List Nat), (0 : Int), ()), (0 : Int), ())).2.1, ()))
def aBC : PlR := ⟨[(0, .B [3, 4, 5, 6]), (1, .stop)], [], []⟩
def aB9 : Ty := .pair qo (.pair qo (.pair (.clo 160 .unit) .unit))
def pW (F : Md) : aG := mSpec aB9 (.tup (.pair qo qj)) (fun x => nJ F x.1 x.2.1 x.2.2.1)
abbrev aCa (F : Md) : List (FuncId × aG) := [(154, (gL F))]
theorem aIy [Mx] (F : Md) : bE Tryz.prog GL (aCa F) := .cons (aAa F) xAa (.nil)
attribute [go_sem] aB9 aBC
theorem aHH [Mx] (F : Md) : FOK Tryz.prog GL 159 (pW F) := by
 refine bN (bC (aIy F)) mix Tryz.func159 rfl xAa xAb aBC (fun w0 S x Θ j h hV => ?_)
 obtain ⟨(g : qu), (f : qu), (b : Unit), u⟩ := x
 simp only [bT, go_sem]
 replace h : sat (nJ F g f b) _ := h
 unfold nJ at h
 refine aC0 0 rfl (yaA ?_)
 refine aC0 1 rfl (yaA ?_)
 refine aC0 2 rfl (yaA ?_)
 refine aSa hV [6, 7] (yaA ?_)
 refine aN h fun g0 h => ?_
 exact aH hV [.cell 6 119, .tmp 7] rfl rfl rfl (aA h) xAd
attribute [go_sem] pW
def aCv (F : Md) (g : qu) (f : qu) : Option (qu × qn) :=
 (nJ F g f ()).bind (fun b => some (b.1, b.2.1, ()))
def aP4 : PlR := ⟨[(0, .B [2, 3, 4]), (1, .B [4, 5])], [], []⟩
def aSK : Ty := .pair qo (.pair qo .unit)
def aFB (F : Md) : aG := mSpec aSK (.tup (.pair qo qj)) (fun x => aCv F x.1 x.2.1)
abbrev aSL (F : Md) : List (FuncId × aG) := [(159, (pW F))]
theorem aZp [Mx] (F : Md) : bE Tryz.prog GL (aSL F) := .cons (aHH F) xAa (.nil)
attribute [go_sem] aSK aP4
theorem aX6 [Mx] (F : Md) : FOK Tryz.prog GL 112 (aFB F) := by
 refine bN (bC (aZp F)) mix Tryz.func112 rfl xAa xAb aP4 (fun w0 S x Θ j h hV => ?_)
 obtain ⟨(f : qu), (b : qu), u⟩ := x
 simp only [bT, go_sem]
 replace h : sat (aCv F f b) _ := h
 unfold aCv at h
 refine aC h fun g hv h => ?_
 try simp only [hv, go_sem]
 exact aH hV [.cell 4 119, .tmp 5] rfl rfl rfl (aA h) xAd
attribute [go_sem] aFB
end
end Nu
end Go.Proofs
namespace Go.Proofs
open Go.Vc
set_option maxRecDepth 20000
namespace Nu
noncomputable section
set_option maxHeartbeats 4000000
def uX : ByteArray := ⟨⟨97 :: 98 :: 99 :: 100 :: 101 :: 102 :: 103 :: 104 :: 105 :: 106 :: 107 :: 108 :: 109 :: 110 :: 111 :: 112 :: 113 :: 114 :: 115 :: 116 :: 117 :: 118 :: 119 :: 120 :: 121 :: 122 :: 48 :: 49 :: 50 :: 51 :: 52 :: 53 :: 54 :: 55 :: 56 :: 57 :: 95 :: []⟩⟩
@[go_sem]theorem aTV : (⟨⟨97 :: 98 :: 99 :: 100 :: 101 :: 102 :: 103 :: 104 :: 105 :: 106 :: 107 :: 108 :: 109 :: 110 :: 111 :: 112 :: 113 :: 114 :: 115 :: 116 :: 117 :: 118 :: 119 :: 120 :: 121 :: 122 :: 48 :: 49 :: 50 :: 51 :: 52 :: 53 :: 54 :: 55 :: 56 :: 57 :: 95 :: []⟩⟩ : ByteArray) = uX := rfl
def jE (F : Md) (f : Nat) (b : qa) : Option (qa ⊕ qa) :=
 ck (((0 : Int) < (b.length : Int)) → (I64 ((b.length : Int) - (1 : Int)))) (ck (((0 : Int) < (b.length : Int)) → (0 ≤ ((b.length : Int) - (1 : Int)) ∧ ((b.length : Int) - (1 : Int)) < (b.length : Int))) (if ((0 : Int) < (b.length : Int)) ∧ ((b.getD ((b.length : Int) - (1 : Int)).toNat (0 : Nat)) = f) then ck (I64 ((b.length : Int) - (1 : Int))) (ck (0 ≤ ((b.length : Int) - (1 : Int)) ∧ ((b.length : Int) - (1 : Int)) ≤ (b.length : Int)) (some (.inl (List.take ((b.length : Int) - (1 : Int)).toNat b)))) else some (.inr b)))
def gI (F : Md) (b : qa) (f : Nat) : Option qa :=
 (dG F (fun d : qa => jE F f d) b).bind (fun e => some e)
def aAb : PlR := ⟨[(0, .A [0, 1]), (1, .A [0, 1, 16]), (2, .A [0, 1]), (3, .A [4])], [], []⟩
def aA4 : Ty := .pair .str w5
def hO (F : Md) : aG := mSpec aA4 (.one .str) (fun x => gI F x.1 x.2.1)
abbrev aGz (F : Md) : List (FuncId × aG) := []
theorem aGA [Mx] (F : Md) : bE Tryz.prog GL (aGz F) := .nil
attribute [go_sem] aA4 aAb
theorem aAc [Mx] (F : Md) : FOK Tryz.prog GL 44 (hO F) := by
 refine bN (bC (aGA F)) mix Tryz.func44 rfl xAa xAb aAb (fun w0 S x Θ z h hV => ?_)
 obtain ⟨(f : qa), (b : Nat), u⟩ := x
 simp only [bT, go_sem]
 replace h : sat (gI F f b) _ := h
 unfold gI at h
 refine bM hV (D := qa) [1] (fun d => [(0, .val .str d)]) (fun d => []) h rfl xAc ?_
 rintro q s r j g h
 simp only [go_sem]
 replace h : sat (jE F b q) _ := h
 unfold jE at h
 refine aN h fun g0 h => aN h fun g1 h => ?_
 refine ⟨fun hc => ?_, fun hc => ?_⟩
 ·replace h := gB hc h
  refine aN h fun g0 h => aN h fun g1 h => ?_
  replace h := j _ (aA h)
  exact zaJ
 ·replace h := gC hc h
  replace h := yaG (g _ (aA h))
  exact zaD
attribute [go_sem] hO
def kA (F : Md) (f : Nat) (b : qa) : Option (qa ⊕ qa) :=
 ck (((0 : Int) < (b.length : Int)) → ((0 : Int) < (b.length : Int))) (if ((0 : Int) < (b.length : Int)) ∧ ((b.getD (0 : Nat) (0 : Nat)) = f) then ck ((1 : Int) ≤ (b.length : Int)) (some (.inl (List.drop (1 : Nat) b))) else some (.inr b))
def gS (F : Md) (b : qa) (f : Nat) : Option qa :=
 (dG F (fun d : qa => kA F f d) b).bind (fun e => some e)
def aA5 : PlR := ⟨[(0, .A [0, 1]), (1, .A [0, 1, 13]), (2, .A [0, 1]), (3, .A [4])], [], []⟩
def aBD : Ty := .pair .str w5
def iY (F : Md) : aG := mSpec aBD (.one .str) (fun x => gS F x.1 x.2.1)
abbrev aHI (F : Md) : List (FuncId × aG) := []
theorem aHJ [Mx] (F : Md) : bE Tryz.prog GL (aHI F) := .nil
attribute [go_sem] aBD aA5
theorem aA6 [Mx] (F : Md) : FOK Tryz.prog GL 95 (iY F) := by
 refine bN (bC (aHJ F)) mix Tryz.func95 rfl xAa xAb aA5 (fun w0 S x Θ z h hV => ?_)
 obtain ⟨(f : qa), (b : Nat), u⟩ := x
 simp only [bT, go_sem]
 replace h : sat (gS F f b) _ := h
 unfold gS at h
 refine bM hV (D := qa) [1] (fun d => [(0, .val .str d)]) (fun d => []) h rfl xAc ?_
 rintro q s r j g h
 simp only [go_sem]
 replace h : sat (kA F b q) _ := h
 unfold kA at h
 refine aN h fun g0 h => ?_
 refine ⟨fun hc => ?_, fun hc => ?_⟩
 ·replace h := gB hc h
  refine aN h fun g0 h => ?_
  replace h := j _ (aA h)
  exact zaJ
 ·replace h := gC hc h
  replace h := yaG (g _ (aA h))
  exact zaD
attribute [go_sem] iY
def eR (F : Md) (f : wv) (b : Nat) : Option Bool :=
 ck (0 ≤ ((b : Nat) : Int) ∧ ((b : Nat) : Int) < (256 : Int)) (some (f.getD b false))
def vU : PlR := ⟨[(0, .A [0, 1]), (1, .A [4])], [], []⟩
def wQ : Ty := .pair (.rp (.arr 256 .bool)) w5
def fJ (F : Md) : aG := mSpec wQ (.one .bool) (fun x => eR F x.1 x.2.1)
abbrev aD6 (F : Md) : List (FuncId × aG) := []
theorem aD7 [Mx] (F : Md) : bE Tryz.prog GL (aD6 F) := .nil
attribute [go_sem] wQ vU
theorem vV [Mx] (F : Md) : FOK Tryz.prog GL 92 (fJ F) := by
 refine bN (bC (aD7 F)) mix Tryz.func92 rfl xAa xAb vU (fun w0 S x Θ g h hV => ?_)
 obtain ⟨(b : wv), (f : Nat), u⟩ := x
 simp only [bT, go_sem]
 replace h : sat (eR F b f) _ := h
 unfold eR at h
 refine aN h fun g0 h => ?_
 exact zaD
attribute [go_sem] fJ
def dR (F : Md) (chars_0 : qa) (b : Int) (f : wv) : Option ((Int × wv) ⊕ (wv ⊕ (wv × wt))) :=
 if b < (chars_0.length : Int) then ck (0 ≤ b ∧ b < (chars_0.length : Int)) (if (128 : Nat) ≤ (chars_0.getD (b.toNat) (0 : Nat)) then some (.inr (.inr (f, false, ()))) else ck (0 ≤ (((chars_0.getD (b.toNat) (0 : Nat)) : Nat) : Int) ∧ (((chars_0.getD (b.toNat) (0 : Nat)) : Nat) : Int) < (256 : Int)) (ck (I64 (b + (1 : Int))) (some (.inl ((b + (1 : Int)), (f.set (chars_0.getD (b.toNat) (0 : Nat)) true)))))) else some (.inr (.inl f))
def dZ (F : Md) (chars_0 : qa) : Option (wv × wt) :=
 (dG F (fun d : Int × wv => dR F chars_0 d.1 d.2) ((0 : Int), (List.replicate 256 false))).bind (fun e => match e with | (.inl e) => some (e, true, ()) | (.inr e) => some e)
def aA7 : PlR := ⟨[(0, .B [0, 2]), (1, .A [0, 2, 4]), (2, .A [0, 2, 4, 9]), (3, .A [0, 2, 4]), (4, .A [0, 2, 4, 5]), (5, .A [0, 2, 4, 5, 16]), (6, .B [2, 3]), (7, .B [0, 2, 4]), (8, .B [2, 3])], [], []⟩
def aBE : Ty := .pair .str .unit
def fE (F : Md) : aG := mSpec aBE (.tup (.pair (.arr 256 .bool) ww)) (fun x => dZ F x.1)
abbrev aHK (F : Md) : List (FuncId × aG) := []
theorem aHL [Mx] (F : Md) : bE Tryz.prog GL (aHK F) := .nil
attribute [go_sem] aBE aA7
theorem tR [Mx] (F : Md) : FOK Tryz.prog GL 45 (fE F) := by
 refine bN (bC (aHL F)) mix Tryz.func45 rfl xAa xAb aA7 (fun w0 S x Θ g h hV => ?_)
 obtain ⟨(chars_0 : qa), u⟩ := x
 simp only [bT, go_sem]
 replace h : sat (dZ F chars_0) _ := h
 unfold dZ at h
 refine bM hV (D := Int × wv) [0] (fun d => [(2, .ptr 0 []), (4, .val qc d.1)]) (fun d => [.inr (.box 256 (.val (.arr 256 .bool) d.2))]) h rfl xAc ?_
 rintro ⟨f, b⟩ j T2 hA2 hE2 h
 simp only [go_sem]
 replace h : sat (dR F chars_0 f b) _ := h
 unfold dR at h
 refine dY h (fun hc h => ?_) fun hc h => ?_
 ·refine aD h fun g0 h => (yaC ?_)
  refine cI h (fun hc h => ?_) fun hc h => ?_
  ·replace h := yaG (hE2 _ (aA h))
   exact aH hV [.cell 2 102, .tmp 3] rfl rfl rfl (aA h) xAd
  ·refine aD h fun g0 h => (yaC ?_)
   refine aD h fun g0 h => (yaC ?_)
   exact zas
 ·replace h := yaG (hE2 _ (aA h))
  exact aH hV [.cell 2 102, .tmp 3] rfl rfl rfl (aA h) xAd
attribute [go_sem] fE
def eS (F : Md) (g : wv) (b : qa) : Option (qa ⊕ qa) :=
 if (0 : Int) < (b.length : Int) then ck (I64 ((b.length : Int) - (1 : Int))) (ck (0 ≤ ((b.length : Int) - (1 : Int)) ∧ ((b.length : Int) - (1 : Int)) < (b.length : Int)) ((eR F g (b.getD ((b.length : Int) - (1 : Int)).toNat (0 : Nat))).bind (fun f => if ¬ (f = true) then some (.inr b) else ck (I64 ((b.length : Int) - (1 : Int))) (ck (0 ≤ ((b.length : Int) - (1 : Int)) ∧ ((b.length : Int) - (1 : Int)) ≤ (b.length : Int)) (some (.inl (List.take ((b.length : Int) - (1 : Int)).toNat b))))))) else some (.inr b)
def eB (F : Md) (f : qa) (b : wv) : Option qa :=
 (dG F (fun d : qa => eS F b d) f).bind (fun e => some e)
def zI : PlR := ⟨[(0, .A [0, 1]), (1, .A [0, 1, 7]), (2, .A [0, 1, 15]), (3, .A [0, 1]), (4, .A [4])], [], []⟩
def aAd : Ty := .pair .str (.pair (.rp (.arr 256 .bool)) .unit)
def gO (F : Md) : aG := mSpec aAd (.one .str) (fun x => eB F x.1 x.2.1)
abbrev aAe (F : Md) : List (FuncId × aG) := [(92, (fJ F))]
theorem aF2 [Mx] (F : Md) : bE Tryz.prog GL (aAe F) := .cons (vV F) xAa (.nil)
attribute [go_sem] aAd zI
theorem zJ [Mx] (F : Md) : FOK Tryz.prog GL 46 (gO F) := by
 refine bN (bC (aF2 F)) mix Tryz.func46 rfl xAa xAb zI (fun w0 S x Θ I h hV => ?_)
 obtain ⟨(j : qa), (b : wv), u⟩ := x
 simp only [bT, go_sem]
 replace h : sat (eB F j b) _ := h
 unfold eB at h
 refine bM hV (D := qa) [1] (fun d => [(0, .val .str d)]) (fun d => []) h rfl xAc ?_
 rintro f z s q g h
 simp only [go_sem]
 replace h : sat (eS F b f) _ := h
 unfold eS at h
 refine dY h (fun hc h => ?_) fun hc h => ?_
 ·refine aN h fun g0 h => aN h fun g1 h => ?_
  refine aC h fun r hv h => ?_
  try simp only [hv, go_sem]
  refine aAF h (fun hc h => ?_) fun hc h => ?_
  ·replace h := yaG (g _ (aA h))
   exact zaD
  ·refine aN h fun g0 h => aN h fun g1 h => ?_
   replace h := q _ (aA h)
   exact zaJ
 ·replace h := yaG (g _ (aA h))
  exact zaD
attribute [go_sem] gO
def fB (F : Md) (g : wv) (b : qa) : Option (qa ⊕ qa) :=
 if (0 : Int) < (b.length : Int) then ck ((0 : Int) < (b.length : Int)) ((eR F g (b.getD (0 : Nat) (0 : Nat))).bind (fun f => if ¬ (f = true) then some (.inr b) else ck ((1 : Int) ≤ (b.length : Int)) (some (.inl (List.drop (1 : Nat) b))))) else some (.inr b)
def eH (F : Md) (f : qa) (b : wv) : Option qa :=
 (dG F (fun d : qa => fB F b d) f).bind (fun e => some e)
def aAf : PlR := ⟨[(0, .A [0, 1]), (1, .A [0, 1, 7]), (2, .A [0, 1, 12]), (3, .A [0, 1]), (4, .A [4])], [], []⟩
def aA8 : Ty := .pair .str (.pair (.rp (.arr 256 .bool)) .unit)
def hZ (F : Md) : aG := mSpec aA8 (.one .str) (fun x => eH F x.1 x.2.1)
abbrev aA9 (F : Md) : List (FuncId × aG) := [(92, (fJ F))]
theorem aGB [Mx] (F : Md) : bE Tryz.prog GL (aA9 F) := .cons (vV F) xAa (.nil)
attribute [go_sem] aA8 aAf
theorem aAg [Mx] (F : Md) : FOK Tryz.prog GL 96 (hZ F) := by
 refine bN (bC (aGB F)) mix Tryz.func96 rfl xAa xAb aAf (fun w0 S x Θ I h hV => ?_)
 obtain ⟨(j : qa), (b : wv), u⟩ := x
 simp only [bT, go_sem]
 replace h : sat (eH F j b) _ := h
 unfold eH at h
 refine bM hV (D := qa) [1] (fun d => [(0, .val .str d)]) (fun d => []) h rfl xAc ?_
 rintro f z s q g h
 simp only [go_sem]
 replace h : sat (fB F b f) _ := h
 unfold fB at h
 refine dY h (fun hc h => ?_) fun hc h => ?_
 ·refine aN h fun g0 h => ?_
  refine aC h fun r hv h => ?_
  try simp only [hv, go_sem]
  refine aAF h (fun hc h => ?_) fun hc h => ?_
  ·replace h := yaG (g _ (aA h))
   exact zaD
  ·refine aN h fun g0 h => ?_
   replace h := q _ (aA h)
   exact zaJ
 ·replace h := yaG (g _ (aA h))
  exact zaD
attribute [go_sem] hZ
def kW (F : Md) (b : qa) (cutset_1 : qa) : Option qa :=
 if (b = (aV ⟨#[]⟩)) ∨ (cutset_1 = (aV ⟨#[]⟩)) then some b else ck (((cutset_1.length : Int) = (1 : Int)) → ((0 : Int) < (cutset_1.length : Int))) (if ((cutset_1.length : Int) = (1 : Int)) ∧ ((cutset_1.getD (0 : Nat) (0 : Nat)) < (128 : Nat)) then ck ((0 : Int) < (cutset_1.length : Int)) ((gI F b (cutset_1.getD (0 : Nat) (0 : Nat))).bind (fun q => ck ((0 : Int) < (cutset_1.length : Int)) ((gS F q (cutset_1.getD (0 : Nat) (0 : Nat))).bind (fun f => some f)))) else (dZ F cutset_1).bind (fun v_27 => if v_27.2.1 = true then (eB F b v_27.1).bind (fun j => (eH F j v_27.1).bind (fun g => some g)) else none))
def aH9 : PlR := ⟨[(0, .A [0, 1]), (1, .A [0, 1, 12]), (2, .A [4]), (3, .A [0, 1, 21]), (4, .A [4]), (5, .B [0, 1, 5, 6]), (6, .A [0, 1, 5, 34]), (7, .A [4]), (8, .stop)], [], []⟩
def aJt : Ty := .pair .str wj
def sM (F : Md) : aG := mSpec aJt (.one .str) (fun x => kW F x.1 x.2.1)
abbrev tS (F : Md) : List (FuncId × aG) := [(44, (hO F)), (45, (fE F)), (46, (gO F)), (95, (iY F)), (96, (hZ F))]
theorem aSN [Mx] (F : Md) : bE Tryz.prog GL (tS F) := .cons (aAc F) xAa (.cons (tR F) xAa (.cons (zJ F) xAa (.cons (aA6 F) xAa (.cons (aAg F) xAa (.nil)))))
attribute [go_sem] aJt aH9
theorem aIa [Mx] (F : Md) : FOK Tryz.prog GL 98 (sM F) := by
 refine bN (bC (aSN F)) mix Tryz.func98 rfl xAa xAb aH9 (fun w0 S x Θ r h hV => ?_)
 obtain ⟨(b : qa), (cutset_1 : qa), u⟩ := x
 simp only [bT, go_sem]
 replace h : sat (kW F b cutset_1) _ := h
 unfold kW at h
 refine ⟨fun hc => ?_, fun hc => ?_⟩
 ·replace h := gB hc h
  exact zaD
 ·replace h := gC hc h
  refine aN h fun g0 h => ?_
  refine ⟨fun hc => ?_, fun hc => ?_⟩
  ·replace h := gB hc h
   refine aN h fun g0 h => ?_
   refine aC h fun q hv h => ?_
   try simp only [hv, go_sem]
   refine aN h fun g0 h => ?_
   refine aC h fun f hv h => ?_
   exact zam
  ·replace h := gC hc h
   refine aC h fun v_27 hv h => ?_
   try simp only [hv, go_sem]
   refine aGq h (fun hc h => ?_) fun hc h => ?_
   ·refine aC h fun j hv h => ?_
    try simp only [hv, go_sem]
    refine aC h fun g hv h => ?_
    exact zam
   ·exact aBr h
attribute [go_sem] sM
def nP (F : Md) : Option qx :=
 some ([(aV ⟨#[116]⟩), (aV ⟨#[115, 113, 114]⟩), (aV ⟨#[115, 113, 114, 116]⟩), (aV ⟨#[101, 120, 112]⟩), (aV ⟨#[112, 114, 101, 99]⟩), (aV ⟨#[101, 110, 100]⟩), (aV ⟨#[115, 116, 101, 112]⟩), (aV ⟨#[116, 111, 108]⟩), (aV ⟨#[116, 114, 105, 101, 115]⟩), (aV ⟨#[111, 114, 100, 101, 114]⟩), (aV ⟨#[106, 97, 99, 111, 98, 105]⟩), (aV ⟨#[115, 101, 105, 100, 101, 108]⟩), (aV ⟨#[115, 117, 98]⟩), (aV ⟨#[115, 116, 97, 116, 101]⟩), (aV ⟨#[112, 97, 114]⟩), (aV ⟨#[105, 110]⟩), (aV ⟨#[111, 117, 116]⟩), (aV ⟨#[100, 101, 114]⟩), (aV ⟨#[108, 105, 110, 107]⟩)] : List qa)
def aFC : PlR := ⟨[(0, .A []), (1, .A [0])], [], []⟩
def aGC : Ty := .unit
def wR (F : Md) : aG := mSpec aGC (.one wi) (fun x => nP F )
abbrev aON (F : Md) : List (FuncId × aG) := []
theorem aOO [Mx] (F : Md) : bE Tryz.prog GL (aON F) := .nil
attribute [go_sem] aGC aFC
theorem aNb [Mx] (F : Md) : FOK Tryz.prog GL 119 (wR F) := by
 refine bN (bC (aOO F)) mix Tryz.func119 rfl xAa xAb aFC (fun w0 S x Θ b h hV => ?_)
 simp only [bT, go_sem]
 replace h : sat (nP F) _ := h
 unfold nP at h
 exact aH hV [.tmp 0] rfl rfl rfl (aA h) (by (simp only [aR, go_sem]) <;> first | rfl | (simp; done))
attribute [go_sem] wR
def fU (F : Md) (f : qx) (g : qa) (b : Int) : Option ((Int) ⊕ ((Unit) ⊕ Int)) :=
 if b < (f.length : Int) then ck (0 ≤ b ∧ b < (f.length : Int)) (if g = (f.getD (b.toNat) ([] : List Nat)) then some (.inr (.inr b)) else ck (I64 (b + (1 : Int))) (some (.inl (b + (1 : Int))))) else some (.inr (.inl ()))
def kR (F : Md) (f : qx) (b : qa) : Option Int :=
 (dG F (fun d : Int => fU F f b d) (0 : Int)).bind (fun e => match e with | (.inl e) => some (-1 : Int) | (.inr e) => some e)
def aBF : PlR := ⟨[(0, .A [0, 1]), (1, .A [0, 1, 7, 8]), (2, .A [0, 1, 7, 8, 9]), (3, .A [0, 1, 5, 7, 8]), (4, .A [0, 1, 5, 7, 8, 16]), (5, .A [4]), (6, .A [0, 1, 7, 8]), (7, .A [4])], [], []⟩
def aCb : Ty := .pair wi wj
def pX (F : Md) : aG := mSpec aCb (.one qc) (fun x => kR F x.1 x.2.1)
abbrev aIz (F : Md) : List (FuncId × aG) := []
theorem aIA [Mx] (F : Md) : bE Tryz.prog GL (aIz F) := .nil
attribute [go_sem] aCb aBF
theorem aHM [Mx] (F : Md) : FOK Tryz.prog GL 167 (pX F) := by
 refine bN (bC (aIA F)) mix Tryz.func167 rfl xAa xAb aBF (fun w0 S x Θ q h hV => ?_)
 obtain ⟨(b : qx), (g : qa), u⟩ := x
 simp only [bT, go_sem]
 replace h : sat (kR F b g) _ := h
 unfold kR at h
 refine bM hV (D := Int) [0, 1, 7] (fun d => [(8, .val qc d)]) (fun d => []) h rfl xAc ?_
 rintro f j T2 hA2 hE2 h
 simp only [go_sem]
 replace h : sat (fU F b g f) _ := h
 unfold fU at h
 refine dY h (fun hc h => ?_) fun hc h => ?_
 ·refine aN h fun g0 h => ?_
  refine cI h (fun hc h => ?_) fun hc h => ?_
  ·replace h := yaG (hE2 _ (aA h))
   exact zaD
  ·refine aN h fun g0 h => ?_
   exact zas
 ·replace h := yaG (hE2 _ (aA h))
  exact zaD
attribute [go_sem] pX
def eC (F : Md) (g : qx) (b : qa) : Option Bool :=
 (kR F g b).bind (fun f => some (decide ((0 : Int) ≤ f)))
def zK : PlR := ⟨[(0, .A [0, 1]), (1, .A [4])], [], []⟩
def aAh : Ty := .pair wi wj
def gP (F : Md) : aG := mSpec aAh (.one .bool) (fun x => eC F x.1 x.2.1)
abbrev aAi (F : Md) : List (FuncId × aG) := [(167, (pX F))]
theorem aF3 [Mx] (F : Md) : bE Tryz.prog GL (aAi F) := .cons (aHM F) xAa (.nil)
attribute [go_sem] aAh zK
theorem zL [Mx] (F : Md) : FOK Tryz.prog GL 118 (gP F) := by
 refine bN (bC (aF3 F)) mix Tryz.func118 rfl xAa xAb zK (fun w0 S x Θ j h hV => ?_)
 obtain ⟨(f : qx), (b : qa), u⟩ := x
 simp only [bT, go_sem]
 replace h : sat (eC F f b) _ := h
 unfold eC at h
 refine aC h fun g hv h => ?_
 exact zam
attribute [go_sem] gP
def jV (F : Md) (b : qa) : Option Bool :=
 ck (¬ (((b.length : Int) < (1 : Int)) ∨ ((20 : Int) < (b.length : Int))) → ((0 : Int) < (b.length : Int))) (ck (¬ ((((b.length : Int) < (1 : Int)) ∨ ((20 : Int) < (b.length : Int))) ∨ ((b.getD (0 : Nat) (0 : Nat)) < (97 : Nat))) → ((0 : Int) < (b.length : Int))) (if ((((b.length : Int) < (1 : Int)) ∨ ((20 : Int) < (b.length : Int))) ∨ ((b.getD (0 : Nat) (0 : Nat)) < (97 : Nat))) ∨ ((122 : Nat) < (b.getD (0 : Nat) (0 : Nat))) then some false else (kW F b (aV uX)).bind (fun f => ck ((f = (aV ⟨#[]⟩)) → ((nP F).isSome = true)) (ck ((f = (aV ⟨#[]⟩)) → ((eC F ((nP F).getD ([] : List qa)) b).isSome = true)) (some ((decide (f = (aV ⟨#[]⟩))) && (!((eC F ((nP F).getD ([] : List qa)) b).getD false))))))))
def aKV : PlR := ⟨[(0, .A [0]), (1, .A [0, 20]), (2, .A [2]), (3, .A [2])], [], []⟩
def aNc : Ty := .pair .str .unit
def qR (F : Md) : aG := mSpec aNc (.one .bool) (fun x => jV F x.1)
abbrev aD9 (F : Md) : List (FuncId × aG) := [(118, (gP F)), (119, (wR F)), (98, (sM F))]
theorem aV8 [Mx] (F : Md) : bE Tryz.prog GL (aD9 F) := .cons (zL F) xAa (.cons (aNb F) xAa (.cons (aIa F) xAa (.nil)))
attribute [go_sem] aNc aKV
theorem aF4 [Mx] (F : Md) : FOK Tryz.prog GL 70 (qR F) := by
 refine bN (bC (aV8 F)) mix Tryz.func70 rfl xAa xAb aKV (fun w0 S x Θ g h hV => ?_)
 obtain ⟨(b : qa), u⟩ := x
 simp only [bT, go_sem]
 replace h : sat (jV F b) _ := h
 unfold jV at h
 refine aD h fun g0 h => ?_
 refine aD h fun g1 h => ?_
 repeat (refine ⟨zAH, ?_⟩)
 refine ⟨fun hc => ?_, fun hc => ?_⟩
 ·replace h := gB hc h
  exact zaH
 ·replace h := gC hc h
  refine aC h fun f hv h => ?_
  try simp only [hv, go_sem]
  refine aD h fun g0 h => ?_
  refine aD h fun g1 h => ?_
  repeat (refine ⟨zAH, ?_⟩)
  exact zaH
attribute [go_sem] qR
end
end Nu
end Go.Proofs
namespace Go.Proofs
open Go.Vc
set_option maxRecDepth 20000
namespace Nu
noncomputable section
set_option maxHeartbeats 4000000
def uY (F : Md) : Option w8 :=
 none
def rM (F : Md) (f : qa) (b : Int) : Option w8 :=
 ck ((0 : Int) < (f.length : Int)) (if (f.getD (0 : Nat) (0 : Nat)) = (45 : Nat) then ck (I64 (0 - b)) (some ((0 - b), (), ())) else some (b, (), ()))
def kG (F : Md) (g : qa) (f : Int) (b : Int) : Option (wo ⊕ ((Int) ⊕ w8)) :=
 if b < (g.length : Int) then ck (0 ≤ b ∧ b < (g.length : Int)) (if (9 : Nat) < (uI F .u8 (g.getD (b.toNat) (0 : Nat)) (48 : Nat)) then none else ck (I64 (f * (10 : Int))) (ck (I64 ((f * (10 : Int)) + (((uI F .u8 (g.getD (b.toNat) (0 : Nat)) (48 : Nat)) : Nat) : Int))) (ck (I64 (b + (1 : Int))) (some (.inl (((f * (10 : Int)) + (((uI F .u8 (g.getD (b.toNat) (0 : Nat)) (48 : Nat)) : Nat) : Int)), (b + (1 : Int)))))))) else some (.inr (.inl f))
def lJ (F : Md) (f : qa) (b : qa) : Option w8 :=
 (dG F (fun d : Int × Int => kG F b d.1 d.2) ((0 : Int), (0 : Int))).bind (fun e => match e with | (.inl e) => rM F f e | (.inr e) => some e)
def sN (F : Md) (b : qa) : Option w8 :=
 if ((False) ∧ (((0 : Int) < (b.length : Int)) ∧ ((b.length : Int) < (10 : Int)))) ∨ ((True) ∧ (((0 : Int) < (b.length : Int)) ∧ ((b.length : Int) < (19 : Int)))) then ck ((0 : Int) < (b.length : Int)) (ck (¬ ((b.getD (0 : Nat) (0 : Nat)) = (45 : Nat)) → ((0 : Int) < (b.length : Int))) (if ((b.getD (0 : Nat) (0 : Nat)) = (45 : Nat)) ∨ ((b.getD (0 : Nat) (0 : Nat)) = (43 : Nat)) then ck ((1 : Int) ≤ (b.length : Int)) (if (((List.drop (1 : Nat) b).length : Nat) : Int) < (1 : Int) then none else lJ F b (List.drop (1 : Nat) b)) else lJ F b b)) else uY F
def aGD : PlR := ⟨[(0, .A [0]), (1, .A [0, 4]), (2, .A [0, 30]), (3, .A [0, 5]), (4, .A [0, 5, 39]), (5, .A [0, 5]), (6, .A [0, 5, 44]), (7, .A [2, 3]), (8, .A [0, 5, 6]), (9, .A [5, 6, 47, 48, 49]), (10, .A [5, 6, 47, 48, 49, 50]), (11, .A [5, 6, 8, 47, 48, 49]), (12, .A [5, 6, 8, 47, 48, 49]), (13, .A [5, 6, 8, 47, 48, 49, 56]), (14, .A [2, 3]), (15, .A [5, 6, 47, 48, 49]), (16, .A [5, 6, 47, 48, 49]), (17, .A [6, 66]), (18, .A [6]), (19, .A [2, 3]), (20, .stop)], [(5, 23), (7, 11), (12, 20)], []⟩
def aIb : Ty := .pair .str .unit
def yL (F : Md) : aG := mSpec aIb (.tup (.pair qc (.pair .nili .unit))) (fun x => sN F x.1)
abbrev aQC (F : Md) : List (FuncId × aG) := []
theorem aQD [Mx] (F : Md) : bE Tryz.prog GL (aQC F) := .nil
attribute [go_sem] aIb aGD
theorem aOR [Mx] (F : Md) : FOK Tryz.prog GL 138 (yL F) := by
 refine bN (bC (aQD F)) mix Tryz.func138 rfl xAa xAb aGD (fun w0 S x Θ J h hV => ?_)
 obtain ⟨(b : qa), u⟩ := x
 simp only [bT, go_sem]
 replace h : sat (sN F b) _ := h
 unfold sN at h
 refine cX hV (D := Unit) (fun d => sat (uY F) Θ) [0] (fun d => []) (fun d => []) ?_ ?_
 ·simp only [go_sem, cA F, cB F, cC F]
  refine ⟨fun hc => ?_, fun hc => ?_⟩
  ·replace h := gB zAC h
   refine cX hV (D := qa) (fun d => sat (lJ F b d) Θ) [5] (fun d => [(0, .val .str d)]) (fun d => []) ?_ ?_
   ·simp only [go_sem, cA F, cB F, cC F]
    refine aN h fun g0 h => aN h fun g1 h => ?_
    refine ⟨fun hc => ?_, fun hc => ?_⟩
    ·replace h := gB hc h
     refine aN h fun g0 h => ?_
     refine dY h (fun hc h => ?_) fun hc h => ?_
     ·exact aBr h
     ·exact aU (List.drop (1 : Nat) b) h rfl xAe
    ·replace h := gC hc h
     exact aU (b) h rfl xAe
   ·rintro s h
    simp only [go_sem, cA F, cB F, cC F]
    replace h : sat (lJ F b s) _ := h
    unfold lJ at h
    refine cX hV (D := Int) (fun d => sat (rM F b d) Θ) [5] (fun d => [(6, .val qc d)]) (fun d => []) ?_ ?_
    ·simp only [go_sem, cA F, cB F, cC F]
     refine bM hV (D := Int × Int) [5, 47, 48] (fun d => [(6, .val qc d.1), (49, .val qc d.2)]) (fun d => []) h rfl xAe ?_
     rintro ⟨g, f⟩ I z j r h
     simp only [go_sem, cA F, cB F, cC F]
     replace h : sat (kG F s g f) _ := h
     unfold kG at h
     refine dY h (fun hc h => ?_) fun hc h => ?_
     ·refine aN h fun g0 h => ?_
      refine cI h (fun hc h => ?_) fun hc h => ?_
      ·exact aBr h
      ·refine aN h fun g0 h => aN h fun g1 h => ?_
       refine aN h fun g0 h => ?_
       replace h := j _ (aA h)
       exact zaj
     ·replace h := yaG (r _ (aA h))
      exact aU (g) h rfl xAe
    ·rintro q h
     simp only [go_sem, cA F, cB F, cC F]
     replace h : sat (rM F b q) _ := h
     unfold rM at h
     refine aN h fun g0 h => ?_
     refine cI h (fun hc h => ?_) fun hc h => ?_
     ·refine aN h fun g0 h => ?_
      exact aH hV [.tmp 2, .tmp 3] rfl rfl rfl (aA h) xAf
     ·exact aH hV [.tmp 2, .tmp 3] rfl rfl rfl (aA h) xAf
  ·replace h := gC zAC h
   exact aU () h rfl xAe
 ·rintro u h
  simp only [go_sem, cA F, cB F, cC F]
  replace h : sat (uY F) _ := h
  unfold uY at h
  exact aBr h
attribute [go_sem] yL
def kX (F : Md) (f : qa) : Option w8 :=
 (sN F f).bind (fun b => some (b.1, (), ()))
def aIc : PlR := ⟨[(0, .A [0]), (1, .A [0, 4, 5]), (2, .A [0, 4, 5, 12]), (4, .A [2, 3])], [], []⟩
def aJu : Ty := .pair .str .unit
def nB (F : Md) : aG := mSpec aJu (.tup (.pair qc (.pair .nili .unit))) (fun x => kX F x.1)
abbrev aJv (F : Md) : List (FuncId × aG) := [(138, (yL F))]
theorem aSO [Mx] (F : Md) : bE Tryz.prog GL (aJv F) := .cons (aOR F) xAa (.nil)
attribute [go_sem] aJu aIc
theorem aDy [Mx] (F : Md) : FOK Tryz.prog GL 99 (nB F) := by
 refine bN (bC (aSO F)) mix Tryz.func99 rfl xAa xAb aIc (fun w0 S x Θ g h hV => ?_)
 obtain ⟨(b : qa), u⟩ := x
 simp only [bT, go_sem]
 replace h : sat (kX F b) _ := h
 unfold kX at h
 refine aC h fun f hv h => ?_
 try simp only [hv, go_sem]
 exact aH hV [.tmp 2, .tmp 3] rfl rfl rfl (aA h) xAd
attribute [go_sem] nB
def pI (F : Md) (b : Int) (g : qa) (f : Int) : Option ((Int) ⊕ (Int)) :=
 ck (I64 (b + f)) (ck (((b + f) < (g.length : Int)) → (I64 (b + f))) (ck (((b + f) < (g.length : Int)) → (0 ≤ (b + f) ∧ (b + f) < (g.length : Int))) (ck ((((b + f) < (g.length : Int)) ∧ ((48 : Nat) ≤ (g.getD (b + f).toNat (0 : Nat)))) → (I64 (b + f))) (ck ((((b + f) < (g.length : Int)) ∧ ((48 : Nat) ≤ (g.getD (b + f).toNat (0 : Nat)))) → (0 ≤ (b + f) ∧ (b + f) < (g.length : Int))) (if (((b + f) < (g.length : Int)) ∧ ((48 : Nat) ≤ (g.getD (b + f).toNat (0 : Nat)))) ∧ ((g.getD (b + f).toNat (0 : Nat)) ≤ (57 : Nat)) then ck (I64 (f + (1 : Int))) (some (.inl (f + (1 : Int)))) else some (.inr f))))))
def mJ (F : Md) (f : qa) (b : Int) : Option Int :=
 (dG F (fun d : Int => pI F b f d) (0 : Int)).bind (fun e => some e)
def aKW : PlR := ⟨[(0, .A [0, 1]), (1, .A [0, 1, 5]), (2, .A [0, 1, 5, 27]), (3, .A [0, 1, 5]), (4, .A [4])], [], []⟩
def aNd : Ty := .pair .str qj
def wF (F : Md) : aG := mSpec aNd (.one qc) (fun x => mJ F x.1 x.2.1)
abbrev aV9 (F : Md) : List (FuncId × aG) := []
theorem aWa [Mx] (F : Md) : bE Tryz.prog GL (aV9 F) := .nil
attribute [go_sem] aNd aKW
theorem aKX [Mx] (F : Md) : FOK Tryz.prog GL 141 (wF F) := by
 refine bN (bC (aWa F)) mix Tryz.func141 rfl xAa xAb aKW (fun w0 S x Θ s h hV => ?_)
 obtain ⟨(f : qa), (b : Int), u⟩ := x
 simp only [bT, go_sem]
 replace h : sat (mJ F f b) _ := h
 unfold mJ at h
 refine bM hV (D := Int) [0, 1] (fun d => [(5, .val qc d)]) (fun d => []) h rfl xAc ?_
 rintro g j T2 hA2 hE2 h
 simp only [go_sem]
 replace h : sat (pI F b f g) _ := h
 unfold pI at h
 refine aN h fun g0 h => aN h fun g1 h => aN h fun z h => aN h fun q h => aN h fun r h => ?_
 refine ⟨fun hc => ?_, fun hc => ?_⟩
 ·replace h := gB hc h
  refine aN h fun g0 h => ?_
  exact zas
 ·replace h := gC hc h
  replace h := yaG (hE2 _ (aA h))
  exact zaD
attribute [go_sem] wF
def nQ (F : Md) (f : qa) (j : qa) (g : Int) (b : Int) : Option (qa × (Int × wt)) :=
 some (f, b, (decide (g = (j.length : Int))), ())
def nR (F : Md) (b : Int) (f : Int) (g : Int) (q : qa) (r : qa) (j : Int) : Option (qa × (Int × wt)) :=
 ck (I64 (b + j)) (ck (I64 (f + g)) (nQ F q r (f + g) (b + j)))
def nS (F : Md) (g : qa) (r : Int) (j : Int) (q : qa) (b : Int) : Option (qa × (Int × wt)) :=
 (mJ F g b).bind (fun f => if (f < (1 : Int)) ∨ ((3 : Int) < f) then some ((aV ⟨#[]⟩), (0 : Int), false, ()) else ck (I64 (b + f)) (ck (0 ≤ b ∧ b ≤ (b + f) ∧ (b + f) ≤ (g.length : Int)) ((kX F (List.drop (b.toNat) (List.take (b + f).toNat g))).bind (fun v_27 => if (100 : Int) < v_27.1 then some ((aV ⟨#[]⟩), (0 : Int), false, ()) else if ((r + (1 : Int)) < (g.length : Int)) ∧ ((g.getD (r + (1 : Int)).toNat (0 : Nat)) = (45 : Nat)) then ck (I64 (0 - v_27.1)) (nR F j b f q g (0 - v_27.1)) else nR F j b f q g v_27.1))))
def nT (F : Md) (f : qa) (b : Int) (j : qa) (g : Int) : Option (qa × (Int × wt)) :=
 ck ((b < (f.length : Int)) → (0 ≤ b ∧ b < (f.length : Int))) (if (b < (f.length : Int)) ∧ ((f.getD (b.toNat) (0 : Nat)) = (101 : Nat)) then ck (I64 (b + (1 : Int))) (ck (((b + (1 : Int)) < (f.length : Int)) → (0 ≤ (b + (1 : Int)) ∧ (b + (1 : Int)) < (f.length : Int))) (ck (¬ (((b + (1 : Int)) < (f.length : Int)) ∧ ((f.getD (b + (1 : Int)).toNat (0 : Nat)) = (45 : Nat))) → ((b + (1 : Int)) < (f.length : Int)) → (0 ≤ (b + (1 : Int)) ∧ (b + (1 : Int)) < (f.length : Int))) (if (((b + (1 : Int)) < (f.length : Int)) ∧ ((f.getD (b + (1 : Int)).toNat (0 : Nat)) = (45 : Nat))) ∨ (((b + (1 : Int)) < (f.length : Int)) ∧ ((f.getD (b + (1 : Int)).toNat (0 : Nat)) = (43 : Nat))) then ck (I64 ((b + (1 : Int)) + (1 : Int))) (nS F f b g j ((b + (1 : Int)) + (1 : Int))) else nS F f b g j (b + (1 : Int))))) else nQ F j f b g)
def qS (F : Md) (f : qa) : Option (qa × (Int × wt)) :=
 (mJ F f (0 : Int)).bind (fun b => ck (0 ≤ b ∧ b ≤ (f.length : Int)) (if ((60 : Int) < (f.length : Int)) ∨ (b = (0 : Int)) then some ((aV ⟨#[]⟩), (0 : Int), false, ()) else ck ((b < (f.length : Int)) → (0 ≤ b ∧ b < (f.length : Int))) (if (b < (f.length : Int)) ∧ ((f.getD (b.toNat) (0 : Nat)) = (46 : Nat)) then ck (I64 (b + (1 : Int))) ((mJ F f (b + (1 : Int))).bind (fun g => if g = (0 : Int) then some ((aV ⟨#[]⟩), (0 : Int), false, ()) else ck (I64 (b + (1 : Int))) (ck (I64 (b + (1 : Int))) (ck (I64 ((b + (1 : Int)) + g)) (ck (0 ≤ (b + (1 : Int)) ∧ (b + (1 : Int)) ≤ ((b + (1 : Int)) + g) ∧ ((b + (1 : Int)) + g) ≤ (f.length : Int)) (ck ((List.take (b.toNat) f).length + (List.drop (b + (1 : Int)).toNat (List.take ((b + (1 : Int)) + g).toNat f)).length ≤ 9223372036854775807) (ck (I64 (0 - g)) (ck (I64 (b + (1 : Int))) (ck (I64 ((b + (1 : Int)) + g)) (nT F f ((b + (1 : Int)) + g) ((List.take (b.toNat) f) ++ (List.drop (b + (1 : Int)).toNat (List.take ((b + (1 : Int)) + g).toNat f))) (0 - g))))))))))) else nT F f b (List.take (b.toNat) f) (0 : Int))))
def aJw : PlR := ⟨[(0, .A [0]), (1, .A [0, 5]), (2, .A [0, 5, 6, 7]), (3, .A [0, 5, 6, 7, 24]), (4, .A [2, 3, 4]), (5, .A [0, 5, 6, 7, 34]), (6, .A [0, 5, 6, 8]), (7, .A [0, 5, 6, 8, 40]), (8, .A [2, 3, 4]), (9, .A [0, 5, 6, 7]), (10, .A [0, 5, 6, 7, 66]), (11, .A [0, 5, 6, 7]), (12, .A [0, 5, 6, 7, 9]), (13, .A [0, 5, 6, 7, 9, 91]), (14, .A [0, 5, 6, 7, 9]), (15, .A [0, 5, 6, 7, 9, 10]), (16, .A [0, 5, 6, 7, 9, 10, 102]), (17, .A [2, 3, 4]), (18, .A [0, 5, 6, 7, 9, 10, 11]), (19, .A [0, 5, 6, 7, 9, 10, 11, 114]), (20, .A [2, 3, 4]), (21, .A [0, 5, 6, 7, 10, 11, 115]), (22, .A [0, 5, 6, 7, 10, 11]), (23, .A [0, 5, 6, 7]), (24, .A [2, 3, 4])], [(8, 13), (13, 27), (16, 18), (24, 26)], []⟩
def aKY : Ty := .pair .str .unit
def oH (F : Md) : aG := mSpec aKY (.tup (.pair .str (.pair qc ww))) (fun x => qS F x.1)
abbrev aF5 (F : Md) : List (FuncId × aG) := [(141, (wF F)), (99, (nB F))]
theorem aTW [Mx] (F : Md) : bE Tryz.prog GL (aF5 F) := .cons (aKX F) xAa (.cons (aDy F) xAa (.nil))
attribute [go_sem] aKY aJw
theorem aES [Mx] (F : Md) : FOK Tryz.prog GL 103 (oH F) := by
 refine bN (bC (aTW F)) mix Tryz.func103 rfl xAa xAb aJw (fun w0 S x Θ hw h hV => ?_)
 obtain ⟨(g : qa), u⟩ := x
 simp only [bT, go_sem]
 replace h : sat (qS F g) _ := h
 unfold qS at h
 refine aC h fun r hv h => ?_
 try simp only [hv, go_sem]
 refine aD h fun g0 h => (yaC ?_)
 refine ⟨fun hc => ?_, fun hc => ?_⟩
 ·replace h := gB hc h
  exact zal
 ·replace h := gC hc h
  refine cX hV (D := Int × qa × Int) (fun d => sat (nT F g d.1 d.2.1 d.2.2) Θ) [0] (fun d => [(5, .val qc d.1), (6, .val .str d.2.1), (7, .val qc d.2.2)]) (fun d => []) ?_ ?_
  ·simp only [go_sem]
   refine aD h fun g0 h => (yaC ?_)
   refine ⟨fun hc => ?_, fun hc => ?_⟩
   ·replace h := gB hc h
    refine aD h fun g0 h => (yaC ?_)
    refine aC h fun z hv h => ?_
    try simp only [hv, go_sem]
    refine cI h (fun hc h => ?_) fun hc h => ?_
    ·exact aH hV [.tmp 2, .tmp 3, .tmp 4] rfl rfl rfl (aA h) xAd
    ·refine aD h fun g0 h => ?_
     refine aD h fun g1 h => ?_
     refine aD h fun W h => ?_
     refine aD h fun Y h => ?_
     refine aD h fun Z h => ?_
     refine aD h fun O h => ?_
     refine aD h fun N h => ?_
     refine aD h fun U h => (yaC ?_)
     exact aU (((r + (1 : Int)) + z), ((List.take (r.toNat) g) ++ (List.drop (r + (1 : Int)).toNat (List.take ((r + (1 : Int)) + z).toNat g))), (0 - z)) h rfl xAc
   ·replace h := gC hc h
    exact aU (r, (List.take (r.toNat) g), (0 : Int)) h rfl xAc
  ·rintro ⟨j, f, b⟩ h
   simp only [go_sem]
   replace h : sat (nT F g j f b) _ := h
   unfold nT at h
   refine cX hV (D := Int × Int) (fun d => sat (nQ F f g d.1 d.2) Θ) [0, 6] (fun d => [(5, .val qc d.1), (7, .val qc d.2)]) (fun d => []) ?_ ?_
   ·simp only [go_sem]
    refine aD h fun g0 h => (yaC ?_)
    refine ⟨fun hc => ?_, fun hc => ?_⟩
    ·replace h := gB hc h
     refine aD h fun g0 h => (yaC ?_)
     refine aD h fun g0 h => (yaC ?_)
     refine cX hV (D := Int) (fun d => sat (nS F g j b f d) Θ) [0, 6, 7, 9] (fun d => [(5, .val qc d)]) (fun d => []) ?_ ?_
     ·simp only [go_sem]
      refine aD h fun g0 h => (yaC ?_)
      refine ⟨fun hc => ?_, fun hc => ?_⟩
      ·replace h := gB hc h
       refine aD h fun g0 h => (yaC ?_)
       exact aU ((j + (1 : Int)) + (1 : Int)) h rfl xAc
      ·replace h := gC hc h
       exact aU (j + (1 : Int)) h rfl xAc
     ·rintro q h
      simp only [go_sem]
      replace h : sat (nS F g j b f q) _ := h
      unfold nS at h
      refine aC h fun s hv h => ?_
      try simp only [hv, go_sem]
      refine ⟨fun hc => ?_, fun hc => ?_⟩
      ·replace h := gB hc h
       exact zal
      ·replace h := gC hc h
       refine aD h fun g0 h => ?_
       refine aD h fun g1 h => (yaC ?_)
       refine aC h fun v_27 hv h => ?_
       try simp only [hv, go_sem]
       refine dY h (fun hc h => ?_) fun hc h => ?_
       ·exact aH hV [.tmp 2, .tmp 3, .tmp 4] rfl rfl rfl (aA h) xAd
       ·refine cX hV (D := Int) (fun d => sat (nR F b q s f g d) Θ) [0, 5, 6, 7, 10] (fun d => [(11, .val qc d)]) (fun d => []) ?_ ?_
        ·simp only [go_sem]
         refine ⟨fun hc => ?_, fun hc => ?_⟩
         ·replace h := gB hc h
          refine aD h fun g0 h => (yaC ?_)
          exact aU (0 - v_27.1) h rfl xAc
         ·replace h := gC hc h
          exact aU v_27.1 h rfl xAc
        ·rintro J h
         simp only [go_sem]
         replace h : sat (nR F b q s f g J) _ := h
         unfold nR at h
         refine aD h fun g0 h => ?_
         refine aD h fun g1 h => (yaC ?_)
         exact aU ((q + s), (b + J)) h rfl xAc
    ·replace h := gC hc h
     exact aU (j, b) h rfl xAc
   ·rintro ⟨L, I⟩ h
    simp only [go_sem]
    replace h : sat (nQ F f g L I) _ := h
    unfold nQ at h
    exact zal
attribute [go_sem] oH
def rN (F : Md) (j : Int) (g : Nat) (f : qa) (b : Int) : Option (vE ⊕ qa) :=
 if b < j then ck (aQk f ([g] : List Nat)) (ck (I64 (b + (1 : Int))) (some (.inl ((cR f ([g] : List Nat)), (b + (1 : Int)))))) else some (.inr f)
def sU (F : Md) (b : Nat) (f : Int) : Option qa :=
 (dG F (fun d : qa × Int => rN F f b d.1 d.2) (([1] : List Nat), (0 : Int))).bind (fun e => some e)
def aNf : PlR := ⟨[(0, .stop), (1, .stop), (2, .stop), (3, .stop), (4, .stop), (5, .stop), (6, .stop)], [], []⟩
def aP5 : Ty := .pair qt qj
def yM (F : Md) : aG := mSpec aP5 (.one we) (fun x => sU F x.1 x.2.1)
abbrev aP6 (F : Md) : List (FuncId × aG) := [(105, iM)]
theorem aX7 [Mx] (F : Md) : bE Tryz.prog GL (aP6 F) := .cons yG xAa (.nil)
attribute [go_sem] aP5 aNf
theorem aNg [Mx] (F : Md) : FOK Tryz.prog GL 107 (yM F) := by
 refine bN (bC (aX7 F)) mix Tryz.func107 rfl xAa xAb aNf (fun w0 S x Θ z h hV => ?_)
 obtain ⟨(f : Nat), (g : Int), u⟩ := x
 simp only [bT, go_sem]
 replace h : sat (sU F f g) _ := h
 unfold sU at h
 refine sZ hV [0, 1] (yaA ?_)
 refine sZ hV [0, 1, 5] (yaA ?_)
 refine sZ hV [0, 5, 7, 8] (yaA ?_)
 refine bM hV (D := qa × Int) [0, 7] (fun d => [(5, .val we d.1), (8, .val qc d.2)]) (fun d => []) h rfl xAc ?_
 rintro ⟨r, b⟩ s T3 q j h
 simp only [go_sem]
 replace h : sat (rN F g f r b) _ := h
 unfold rN at h
 refine sZ hV [0, 5, 7, 8, 9] (yaA ?_)
 refine dY h (fun hc h => ?_) fun hc h => ?_
 ·refine sZ hV [0, 5, 7, 8] (yaA ?_)
  refine aN h fun g0 h => ?_
  refine sZ hV [0, 5, 7, 8] (yaA ?_)
  refine aN h fun g0 h => ?_
  replace h := q _ (aA h)
  exact zaJ
 ·replace h := yaG (j _ (aA h))
  refine sZ hV [4] (yaA ?_)
  exact zaD
attribute [go_sem] yM
def pJ (F : Md) (f : qa) (g : qa) (b : Int) : Option (vE ⊕ qa) :=
 if b < (f.length : Int) then ck (0 ≤ b ∧ b < (f.length : Int)) (ck (aQk g ([10] : List Nat)) (ck (pSz ([(uI F .u8 (f.getD (b.toNat) (0 : Nat)) (48 : Nat))] : List Nat)) (ck (aQk (cR g ([10] : List Nat)) (pH ([(uI F .u8 (f.getD (b.toNat) (0 : Nat)) (48 : Nat))] : List Nat))) (ck (I64 (b + (1 : Int))) (some (.inl ((aCu (cR g ([10] : List Nat)) (pH ([(uI F .u8 (f.getD (b.toNat) (0 : Nat)) (48 : Nat))] : List Nat))), (b + (1 : Int))))))))) else some (.inr g)
def uZ (F : Md) (b : qa) : Option qa :=
 (dG F (fun d : qa × Int => pJ F b d.1 d.2) (([] : List Nat), (0 : Int))).bind (fun e => some e)
def aKZ : PlR := ⟨[(0, .stop), (1, .stop), (2, .stop), (3, .stop), (4, .stop), (5, .stop), (6, .stop), (7, .stop)], [], []⟩
def aNh : Ty := .pair .str .unit
def wG (F : Md) : aG := mSpec aNh (.one we) (fun x => uZ F x.1)
abbrev aEa (F : Md) : List (FuncId × aG) := [(105, iM), (152, aFy), (153, aAX)]
theorem aWb [Mx] (F : Md) : bE Tryz.prog GL (aEa F) := .cons yG xAa (.cons aXT xAa (.cons aPQ xAa (.nil)))
attribute [go_sem] aNh aKZ
theorem aK0 [Mx] (F : Md) : FOK Tryz.prog GL 106 (wG F) := by
 refine bN (bC (aWb F)) mix Tryz.func106 rfl xAa xAb aKZ (fun w0 S x Θ z h hV => ?_)
 obtain ⟨(b : qa), u⟩ := x
 simp only [bT, go_sem]
 replace h : sat (uZ F b) _ := h
 unfold uZ at h
 refine sZ hV [0] ?_
 simp only [go_sem, cA F, cB F, cC F]
 refine sZ hV [0, 3] ?_
 simp only [go_sem, cA F, cB F, cC F]
 refine sZ hV [3, 7, 8, 9] ?_
 simp only [go_sem, cA F, cB F, cC F]
 refine bM hV (D := qa × Int) [7, 8] (fun d => [(3, .val we d.1), (9, .val qc d.2)]) (fun d => []) h rfl xAe ?_
 rintro ⟨q, f⟩ r T3 j g h
 simp only [go_sem, cA F, cB F, cC F]
 replace h : sat (pJ F b q f) _ := h
 unfold pJ at h
 refine sZ hV [3, 7, 8, 9, 10] ?_
 simp only [go_sem, cA F, cB F, cC F]
 refine dY h (fun hc h => ?_) fun hc h => ?_
 ·refine sZ hV [3, 5, 7, 8, 9] ?_
  simp only [go_sem, cA F, cB F, cC F]
  refine aD h fun g0 h => (yaE ?_)
  refine sZ hV [3, 7, 8, 9] ?_
  simp only [go_sem, cA F, cB F, cC F]
  refine aD h fun g0 h => ?_
  refine aD h fun g1 h => ?_
  refine aD h fun s h => (yaE ?_)
  refine sZ hV [3, 7, 8, 9] ?_
  simp only [go_sem, cA F, cB F, cC F]
  refine aD h fun g0 h => ?_
  try simp only [I64, I32] at g0
  repeat (refine ⟨zAB, ?_⟩)
  replace h := j _ (aA h)
  exact zaj
 ·replace h := yaG (g _ (aA h))
  refine sZ hV [2] ?_
  simp only [go_sem, cA F, cB F, cC F]
  exact aH hV [.tmp 2] rfl rfl rfl (aA h) xAf
attribute [go_sem] wG
def tE (F : Md) (f : qa) : Option Bool :=
 (qS F f).bind (fun b => some b.2.2.1)
def aP7 : PlR := ⟨[(0, .A [0]), (1, .A [5]), (2, .A [2])], [], []⟩
def aSP : Ty := .pair .str .unit
def uN (F : Md) : aG := mSpec aSP (.one .bool) (fun x => tE F x.1)
abbrev aSQ (F : Md) : List (FuncId × aG) := [(103, (oH F))]
theorem aZq [Mx] (F : Md) : bE Tryz.prog GL (aSQ F) := .cons (aES F) xAa (.nil)
attribute [go_sem] aSP aP7
theorem aJx [Mx] (F : Md) : FOK Tryz.prog GL 100 (uN F) := by
 refine bN (bC (aZq F)) mix Tryz.func100 rfl xAa xAb aP7 (fun w0 S x Θ g h hV => ?_)
 obtain ⟨(b : qa), u⟩ := x
 simp only [bT, go_sem]
 replace h : sat (tE F b) _ := h
 unfold tE at h
 refine aC h fun f hv h => ?_
 try simp only [hv, go_sem]
 exact zaH
attribute [go_sem] uN
def aBa (F : Md) (j : qa) : Option (qa × (qa × wt)) :=
 (qS F j).bind (fun b => if ¬ (b.2.2.1 = true) then some (([] : List Nat), ([] : List Nat), false, ()) else (uZ F b.1).bind (fun g => (sU F (10 : Nat) (max b.2.1 (0 : Int))).bind (fun f => ck (aQk g f) (ck (I64 (0 - b.2.1)) ((sU F (10 : Nat) (max (0 - b.2.1) (0 : Int))).bind (fun v_17 => some ((cR g f), v_17, true, ())))))))
def aNi : PlR := ⟨[(0, .A [0]), (1, .A [5, 6, 7]), (2, .A [5, 6, 15]), (3, .A [2, 3, 4]), (4, .A [2, 3, 4])], [], []⟩
def aP8 : Ty := .pair .str .unit
def aEb (F : Md) : aG := mSpec aP8 (.tup (.pair we (.pair we ww))) (fun x => aBa F x.1)
abbrev aC8 (F : Md) : List (FuncId × aG) := [(103, (oH F)), (105, iM), (106, (wG F)), (107, (yM F))]
theorem aX8 [Mx] (F : Md) : bE Tryz.prog GL (aC8 F) := .cons (aES F) xAa (.cons yG xAa (.cons (aK0 F) xAa (.cons (aNg F) xAa (.nil))))
attribute [go_sem] aP8 aNi
theorem aWc [Mx] (F : Md) : FOK Tryz.prog GL 162 (aEb F) := by
 refine bN (bC (aX8 F)) mix Tryz.func162 rfl xAa xAb aNi (fun w0 S x Θ q h hV => ?_)
 obtain ⟨(b : qa), u⟩ := x
 simp only [bT, go_sem]
 replace h : sat (aBa F b) _ := h
 unfold aBa at h
 refine aC h fun j hv h => ?_
 try simp only [hv, go_sem]
 refine aAF h (fun hc h => ?_) fun hc h => ?_
 ·exact aH hV [.tmp 2, .tmp 3, .tmp 4] rfl rfl rfl (aA h) xAd
 ·refine aC h fun g hv h => ?_
  try simp only [hv, go_sem]
  refine aC h fun f hv h => ?_
  try simp only [hv, go_sem]
  refine aN h fun g0 h => aN h fun g1 h => ?_
  refine aC h fun v_17 hv h => ?_
  try simp only [hv, go_sem]
  exact zal
attribute [go_sem] aEb
def xT (F : Md) (q : qa) : Option (qu × qn) :=
 (qS F q).bind (fun g => if ¬ (g.2.2.1 = true) then some ((false, ([] : List Nat), (0 : Int), ()), (6 : Int), ()) else (uZ F g.1).bind (fun f => (sU F (5 : Nat) (max g.2.1 (0 : Int))).bind (fun b => ck (aQk f b) (ck (I64 (0 - g.2.1)) ((sU F (5 : Nat) (max (0 - g.2.1) (0 : Int))).bind (fun v_17 => ck (aHq (cR f b) v_17) ((xR F false (pV (cR f b) v_17).1 g.2.1).bind (fun j => if ((0 : Int) < (((pV (cR f b) v_17).2.1.length : Nat) : Int)) ∨ (¬ (j.2.1 = (0 : Int))) then some ((false, ([] : List Nat), (0 : Int), ()), (6 : Int), ()) else some (j.1, (0 : Int), ())))))))))
def aNj : PlR := ⟨[(0, .B [0, 2]), (1, .A [2, 4, 5, 6]), (2, .A [2, 4, 5, 18]), (3, .B [2, 3]), (4, .A [2, 5, 7, 8]), (5, .B [2, 8, 9, 10]), (6, .A [2, 9, 46]), (7, .B [2, 3]), (8, .B [2, 3])], [], []⟩
def aP9 : Ty := .pair .str .unit
def aEc (F : Md) : aG := mSpec aP9 (.tup (.pair qo qj)) (fun x => xT F x.1)
abbrev xU (F : Md) : List (FuncId × aG) := [(103, (oH F)), (104, aCG), (105, iM), (106, (wG F)), (107, (yM F)), (108, (aA0 F))]
theorem aX9 [Mx] (F : Md) : bE Tryz.prog GL (xU F) := .cons (aES F) xAa (.cons aTQ xAa (.cons yG xAa (.cons (aK0 F) xAa (.cons (aNg F) xAa (.cons (aPX F) xAa (.nil))))))
attribute [go_sem] aP9 aNj
theorem aWd [Mx] (F : Md) : FOK Tryz.prog GL 59 (aEc F) := by
 refine bN (bC (aX9 F)) mix Tryz.func59 rfl xAa xAb aNj (fun w0 S x Θ r h hV => ?_)
 obtain ⟨(b : qa), u⟩ := x
 simp only [bT, go_sem]
 replace h : sat (xT F b) _ := h
 unfold xT at h
 refine aC h fun q hv h => ?_
 try simp only [hv, go_sem]
 refine aAF h (fun hc h => ?_) fun hc h => ?_
 ·exact aH hV [.cell 2 119, .tmp 3] rfl rfl rfl (aA h) xAd
 ·refine aC h fun g hv h => ?_
  try simp only [hv, go_sem]
  refine aC h fun f hv h => ?_
  try simp only [hv, go_sem]
  refine aN h fun g0 h => aN h fun g1 h => ?_
  refine aC h fun v_17 hv h => ?_
  try simp only [hv, go_sem]
  refine aN h fun g0 h => ?_
  refine aC h fun j hv h => ?_
  try simp only [hv, go_sem]
  refine ⟨fun hc => ?_, fun hc => ?_⟩
  ·replace h := gB hc h
   exact aH hV [.cell 2 119, .tmp 3] rfl rfl rfl (aA h) xAd
  ·replace h := gC hc h
   exact aH hV [.cell 2 119, .tmp 3] rfl rfl rfl (aA h) xAd
attribute [go_sem] aEc
def lE (F : Md) (f : qu) (q : qu) (g : Int) : Option Bool :=
 (aEq F g (0 : Int)).bind (fun j => (aCv F q j.1).bind (fun b => ck ((b.2.1 = (0 : Int)) → ((xS F f b.1).isSome = true)) (some ((decide (b.2.1 = (0 : Int))) && (decide (((xS F f b.1).getD (0 : Int)) ≤ (0 : Int)))))))
def aK1 : PlR := ⟨[(0, .B [2, 3, 4]), (1, .B [3, 4, 7]), (2, .B [3, 9, 10]), (3, .A [6])], [], []⟩
def aNk : Ty := .pair qo (.pair qo qj)
def aCI (F : Md) : aG := mSpec aNk (.one .bool) (fun x => lE F x.1 x.2.1 x.2.2.1)
abbrev aEd (F : Md) : List (FuncId × aG) := [(111, (aHG F)), (112, (aFB F)), (61, (aA2 F))]
theorem aWe [Mx] (F : Md) : bE Tryz.prog GL (aEd F) := .cons (aZo F) xAa (.cons (aX6 F) xAa (.cons (aP3 F) xAa (.nil)))
attribute [go_sem] aNk aK1
theorem aTX [Mx] (F : Md) : FOK Tryz.prog GL 62 (aCI F) := by
 refine bN (bC (aWe F)) mix Tryz.func62 rfl xAa xAb aK1 (fun w0 S x Θ r h hV => ?_)
 obtain ⟨(f : qu), (g : qu), (b : Int), u⟩ := x
 simp only [bT, go_sem]
 replace h : sat (lE F f g b) _ := h
 unfold lE at h
 refine aC h fun j hv h => ?_
 try simp only [hv, go_sem]
 refine aC h fun q hv h => ?_
 try simp only [hv, go_sem]
 refine aN h fun g0 h => ?_
 exact aH hV [.tmp 6] rfl rfl rfl (aA h) xAd
attribute [go_sem] aCI
end
end Nu
end Go.Proofs
namespace Go.Proofs
open Go.Vc
set_option maxRecDepth 20000
namespace Nu
noncomputable section
set_option maxHeartbeats 4000000
attribute [-go_sem] Ex.kind Ex.text Ex.l
@[go_sem] theorem bIj (k : Int) (t : List Nat) (l : List Ex) : Ex.l (.mk k t l) = l := rfl
@[go_sem] theorem bIk (k : Int) (t : List Nat) (l : List Ex) : Ex.kind (.mk k t l) = k := rfl
@[go_sem] theorem bIl (k : Int) (t : List Nat) (l : List Ex) : Ex.text (.mk k t l) = t := rfl
def eK (F : Md) (g : Ex → Int → Int → Int → Option wo) (s : Ex) (j : Int) (b : Int) (r : Int) (f : Int) : Option ((Int × Int × Int) ⊕ wo) :=
 if b < (((s.l).length : Nat) : Int) then ck (0 ≤ b ∧ b < (((s.l).length : Nat) : Int)) (ck (I64 (j + (1 : Int))) ((g ((s.l).getD (b.toNat) (Ex.mk 0 [] [])) (j + (1 : Int)) r f).bind (fun q => ck (I64 (b + (1 : Int))) (some (.inl ((b + (1 : Int)), q.1, q.2)))))) else some (.inr (r, f))
def lT (F : Md) (g : Ex → Int → Int → Int → Option wo) (q : Ex) (b : Int) (f : Int) (j : Int) : Option wo :=
 ck (I64 (f + (1 : Int))) (if ((60 : Int) < (f + (1 : Int))) ∨ ((30 : Int) < b) then some ((f + (1 : Int)), (max j b)) else (dG F (fun d : Int × Int × Int => eK F g q b d.1 d.2.1 d.2.2) ((0 : Int), (f + (1 : Int)), (max j b))).bind (fun e => some (e.1, e.2)))
def yN (g : Ex → Int → Int → Int → Option wo) : fT where
 D := Ex × Int × Int × Int × wo
 av := fun d => [.val .expr d.1, .val qc d.2.1, .ptr 0 [], .ptr 1 [], .ptr 2 []]
 hp := fun d => [.box 1 (.val qc d.2.2.1), .box 1 (.val qc d.2.2.2.1), .box 1 (.fn 128 [] [0, 1, 2])]
 m := 3
 pre := fun d => g d.1 d.2.1 d.2.2.1 d.2.2.2.1 = some d.2.2.2.2
 out := fun d => (fun r : wo => .ret (.tup []) [.box 1 (.val qc r.1), .box 1 (.val qc r.2), .box 1 (.fn 128 [] [0, 1, 2])]) d.2.2.2.2
def aGE (g : Ex → Int → Int → Int → Option wo) (vs : List AV) (h : List Vc.Obj) : Hit := mkH (g (rD h vs 0 .expr) (rD h vs 1 qc) (dU h (gX vs 2) qc) (dU h (gX vs 3) qc)) ((0 : Int), (0 : Int)) fun r => ⟨(yN g), [(gX vs 2), (gX vs 3), (gX vs 4)], ((rD h vs 0 .expr), (rD h vs 1 qc), (dU h (gX vs 2) qc), (dU h (gX vs 3) qc), r)⟩
attribute [go_sem] aGE
attribute [go_sem] yN
def aGF (F : Md) (g : Ex → Int → Int → Int → Option wo) : fT where
 D := Ex × Int × Int × Int × wo
 av := fun d => [.val .expr d.1, .val qc d.2.1, .ptr 0 [], .ptr 1 [], .ptr 2 []]
 hp := fun d => [.box 1 (.val qc d.2.2.1), .box 1 (.val qc d.2.2.2.1), .box 1 (.fn 128 [] [0, 1, 2])]
 m := 3
 pre := fun d => lT F g d.1 d.2.1 d.2.2.1 d.2.2.2.1 = some d.2.2.2.2
 out := fun d => (fun r : wo => .ret (.tup []) [.box 1 (.val qc r.1), .box 1 (.val qc r.2), .box 1 (.fn 128 [] [0, 1, 2])]) d.2.2.2.2
def aId (F : Md) (g : Ex → Int → Int → Int → Option wo) : PlR := ⟨[(0, .B [1, 2, 3, 4, 5]), (1, .B [1, 2, 3, 4, 5]), (2, .B [1, 2, 4, 5]), (3, .A [1, 4, 5, 19]), (4, .A [1, 4, 21, 22, 23]), (5, .A [1, 4, 21, 22, 23, 24]), (6, .B [1, 4, 8, 21, 22, 23]), (7, .P [1, 4, 21, 22, 23] []), (8, .A [1, 4, 21, 22, 23])], [], [(128, (aGE g))]⟩
abbrev aSS (F : Md) (g : Ex → Int → Int → Int → Option wo) : List (FuncId × aG) := []
theorem aST [Mx] (F : Md) (g : Ex → Int → Int → Int → Option wo) (b : GOK Tryz.prog GL 128 (yN g)) : bE Tryz.prog GL (aSS F g) := .nil
attribute [go_sem] aId aGF
theorem aOY [Mx] (F : Md) (g : Ex → Int → Int → Int → Option wo) (N : GOK Tryz.prog GL 128 (yN g)) : GOK Tryz.prog GL 128 (aGF F g) := by
 refine kE (bC (aST F g N)) mix Tryz.func128 rfl xAa (fun _ => Nat.le_of_ble_eq_true rfl) (aId F g) (fun Y w0 d Z U h hV => ?_) (.cons (fun _ _ => N) xAa (.nil))
 obtain ⟨(s : Ex), (f : Int), (q : Int), (I : Int), r⟩ := d
 have hF := hV.fr
 replace h := kF (show lT F g s f q I = some r from h)
 simp only [tP, List.map_cons, List.map_nil, go_sem]
 unfold lT at h
 refine aD h fun g0 h => ?_
 try simp only [I64, I32] at g0
 repeat (refine ⟨zAB, ?_⟩)
 refine ⟨fun hc => ?_, fun hc => ?_⟩
 ·replace h := gB hc h
  obtain rfl := aL h
  refine iI [0, 1, 2] rfl rfl (yaB ?_)
  exact zad
 ·replace h := gC hc h
  refine aKm [0, 1, 2] rfl rfl (yaA ?_)
  refine bM hV (D := Int × Int × Int) [1, 21, 22] (fun d => [(4, .ptr 2 []), (23, .val qc d.1)]) (fun d => [.inr (.box 1 (.val qc d.2.1)), .inr (.box 1 (.val qc d.2.2)), .inr (.box 1 (.fn 128 [] [0, 1, 2]))]) h rfl xAc ?_
  rintro ⟨b, z, j⟩ W T5 L J h
  simp only [go_sem]
  replace h : sat (eK F g s f b z j) _ := h
  unfold eK at h
  refine dY h (fun hc h => ?_) fun hc h => ?_
  ·refine aD h fun g0 h => (yaE ?_)
   refine aD h fun g0 h => ?_
   try simp only [I64, I32] at g0
   repeat (refine ⟨zAB, ?_⟩)
   refine aC h fun O hv h => ?_
   simp only [hv, go_sem]
   repeat (refine ⟨zAB, ?_⟩)
   refine aD h fun g0 h => ?_
   try simp only [I64, I32] at g0
   repeat (refine ⟨zAB, ?_⟩)
   replace h := L _ (aA h)
   refine iI [0, 1, 2] rfl rfl (yaA ?_)
   exact zaJ
  ·replace h := yaG (J _ (aA h))
   obtain rfl := aL h
   exact zaq
def fP (F : Md) : Nat → Ex → Int → Int → Int → Option wo
 | 0 => fun _ _ _ _ => none
 | n + 1 => lT F (fP F n)
def aDz (F : Md) (n : Nat) : fT where
 D := Ex × Int × Int × Int × wo
 av := fun d => [.val .expr d.1, .val qc d.2.1, .ptr 0 [], .ptr 1 [], .ptr 2 []]
 hp := fun d => [.box 1 (.val qc d.2.2.1), .box 1 (.val qc d.2.2.2.1), .box 1 (.fn 128 [] [0, 1, 2])]
 m := 3
 pre := fun d => fP F n d.1 d.2.1 d.2.2.1 d.2.2.2.1 = some d.2.2.2.2
 out := fun d => (fun r : wo => .ret (.tup []) [.box 1 (.val qc r.1), .box 1 (.val qc r.2), .box 1 (.fn 128 [] [0, 1, 2])]) d.2.2.2.2
def aIe (F : Md) (n : Nat) (vs : List AV) (h : List Vc.Obj) : Hit := mkH (fP F n (rD h vs 0 .expr) (rD h vs 1 qc) (dU h (gX vs 2) qc) (dU h (gX vs 3) qc)) ((0 : Int), (0 : Int)) fun r => ⟨(aDz F n), [(gX vs 2), (gX vs 3), (gX vs 4)], ((rD h vs 0 .expr), (rD h vs 1 qc), (dU h (gX vs 2) qc), (dU h (gX vs 3) qc), r)⟩
attribute [go_sem] aIe
theorem aIf [Mx] (F : Md) : ∀ n, GOK Tryz.prog GL 128 (aDz F n)
 | 0 => fun _ _ _ _ hp _ => absurd (show none = some _ from hp) (by simp)
 | n + 1 => aOY F _ (aIf F n)
attribute [go_sem] aDz
def yO (F : Md) (f : Ex) : Option (Int × qn) :=
 (fP F 64 f (1 : Int) (0 : Int) (0 : Int)).bind (fun b => some (b.1, b.2, ()))
def aK2 (F : Md) : PlR := ⟨[(0, .B [1, 2, 3]), (1, .B [1, 2, 3, 4]), (2, .B [1, 2, 3, 4]), (3, .P [2, 3] []), (4, .stop)], [], [(128, (aIe F 64))]⟩
def aNl : Ty := .pair .expr .unit
def aCJ (F : Md) : aG := mSpec aNl (.tup wc) (fun x => yO F x.1)
abbrev aWf (F : Md) : List (FuncId × aG) := []
theorem aWg [Mx] (F : Md) : bE Tryz.prog GL (aWf F) := .nil
attribute [go_sem] aNl aK2
theorem aTY [Mx] (F : Md) : FOK Tryz.prog GL 87 (aCJ F) := by
 refine bN (bC (aWg F)) mix Tryz.func87 rfl xAa xAb (aK2 F) (fun w0 S x Θ g h hV => ?_) (.cons (fun _ _ => (aIf F 64)) xAa (.nil))
 have hF := hV.fr
 obtain ⟨(f : Ex), u⟩ := x
 simp only [bT, go_sem]
 replace h : sat (yO F f) _ := h
 unfold yO at h
 refine aC h fun b hv h => ?_
 simp only [hv, go_sem]
 repeat (refine ⟨zAB, ?_⟩)
 obtain ⟨q0, h, hq⟩ := h
 refine aFt hF [2, 3] [(2, .ptr 1 []), (3, .ptr 2 [])] [.box 3 (.val .expr f), .box 1 (.val qc b.1), .box 1 (.val qc b.2), .box 1 (.fn 128 [] [1, 2, 3])] xAb ?_ ?_
 ·simp only [go_sem]
  unfold anyS
  intro i hi
  have hi : i = 0 ∨ i = 1 := by revert hi; revert i; decide
  rcases hi with rfl | rfl
  ·simp only [go_sem]
   repeat (refine ⟨zAA, ?_⟩)
   unfold anyS
   intro i hi
   have hi : i = 1 ∨ i = 2 := by revert hi; revert i; decide
   rcases hi with rfl | rfl
   ·simp only [go_sem]
    repeat (refine ⟨zAA, ?_⟩)
    unfold anyS
    intro i hi
    have hi : i = 2 := by revert hi; revert i; decide
    exact zaS
   ·simp only [go_sem]
    repeat (refine ⟨zAA, ?_⟩)
    unfold anyS
    intro i hi
    have hi : i = 1 := by revert hi; revert i; decide
    exact zaS
  ·simp only [go_sem]
   repeat (refine ⟨zAA, ?_⟩)
   unfold anyS
   intro i hi
   have hi : i = 0 := by revert hi; revert i; decide
   subst hi
   simp only [go_sem]
   repeat (refine ⟨zAA, ?_⟩)
   unfold anyS
   intro i hi
   have hi : i = 2 := by revert hi; revert i; decide
   exact zaS
 replace h := pD h hq
 refine aFV hV (yaA ?_)
 exact aH hV [.cell 2 3, .cell 3 3] rfl rfl rfl (aA h) xAd
attribute [go_sem] aCJ
def oI (F : Md) (f : Ex) : Option Bool :=
 (yO F f).bind (fun b => some ((decide (b.1 ≤ (60 : Int))) && (decide (b.2.1 ≤ (30 : Int)))))
def aNm : PlR := ⟨[(0, .B [1]), (1, .A [3, 4]), (2, .A [2])], [], []⟩
def aQa : Ty := .pair .expr .unit
def yP (F : Md) : aG := mSpec aQa (.one .bool) (fun x => oI F x.1)
abbrev aQb (F : Md) : List (FuncId × aG) := [(87, (aCJ F))]
theorem aYa [Mx] (F : Md) : bE Tryz.prog GL (aQb F) := .cons (aTY F) xAa (.nil)
attribute [go_sem] aQa aNm
theorem aNn [Mx] (F : Md) : FOK Tryz.prog GL 41 (yP F) := by
 refine bN (bC (aYa F)) mix Tryz.func41 rfl xAa xAb aNm (fun w0 S x Θ g h hV => ?_)
 obtain ⟨(b : Ex), u⟩ := x
 simp only [bT, go_sem]
 replace h : sat (oI F b) _ := h
 unfold oI at h
 refine aC h fun f hv h => ?_
 try simp only [hv, go_sem]
 exact zaH
attribute [go_sem] yP
def pK (F : Md) (b : Bool) : Option (Int) :=
 if b = true then some (1 : Int) else some (-1 : Int)
def pL (F : Md) (b : Int) (f : Bool) : Option (Int) :=
 if f = true then some (2 : Int) else if b = (10 : Int) then pK F (decide (b = (10 : Int))) else if b = (11 : Int) then pK F (decide (b = (11 : Int))) else if b = (12 : Int) then pK F (decide (b = (12 : Int))) else pK F (decide (b = (13 : Int)))
def vW (F : Md) (b : Int) (f : Bool) : Option (Int) :=
 if f = true then some (0 : Int) else if b = (6 : Int) then pL F b (decide (b = (6 : Int))) else if b = (7 : Int) then pL F b (decide (b = (7 : Int))) else if b = (8 : Int) then pL F b (decide (b = (8 : Int))) else pL F b (decide (b = (9 : Int)))
def yQ (F : Md) (b : Int) : Option Int :=
 if b = (1 : Int) then vW F b (decide (b = (1 : Int))) else vW F b (decide (b = (2 : Int)))
@[go_sem]def aEe : Ty := .pair qc .unit
def aCK (F : Md) : aG := mSpec aEe (.one qc) (fun x => yQ F x.1)
abbrev aNo (F : Md) : List (FuncId × aG) := []
theorem aNp [Mx] (F : Md) : bE Tryz.prog GL (aNo F) := .nil
theorem aTZ [Mx] (F : Md) : FOK Tryz.prog GL 164 (aCK F) := by
 refine aGp (bC (aNp F)) Tryz.func164 rfl xAa xAb fun w0 S x r q h => ?_
 have hF : tI (fr Tryz.prog (EM (aNo F)) S w0 Tryz.f164.ntmps) := ⟨bC (aNp F), mix⟩
 obtain ⟨(b : Int), u⟩ := x
 simp only [aEe, Ty.wf, aHd] at q
 simp only [bT, aEe]
 try dsimp only at h
 replace h : yQ F b = some r := h
 unfold yQ at h
 refine aO (aS hF [0] (yaA ?_))
 refine aQ (aO (aO (aS hF [3] (yaA ?_))))
 refine aQ (qW (aCr (D := Bool) (fun d => vW F b d = some r) [3] (fun d => [(4, .val .bool d)]) (fun d => []) ?_ ?_))
 ·refine aO (aS hF [3, 4] (yaA ?_))
  refine aQ (dC rfl (fun hc => ?_) (fun hc => ?_))
  ·try simp only [go_sem] at hc
   have h := qL zAC h
   refine eJ (dX (aU (decide (b = (1 : Int))) h rfl ?_))
   ·exact zAI
  ·try simp only [go_sem] at hc
   have h := qM zAC h
   refine aS hF [3, 4] (yaA ?_)
   refine dX (aU (decide (b = (2 : Int))) h rfl ?_)
   ·exact zAI
 ·rintro j h
  try dsimp only at h
  simp only [go_sem]
  unfold vW at h
  refine dC rfl (fun hc => ?_) (fun hc => ?_)
  ·try simp only [go_sem] at hc
   exact zah
  ·try simp only [go_sem] at hc
   have h := qM zAC h
   refine aCr (D := Bool) (fun d => pL F b d = some r) [3] (fun d => [(7, .val .bool d)]) (fun d => []) ?_ ?_
   ·refine aO (aS hF [3, 7] (yaA ?_))
    refine aQ (dC rfl (fun hc => ?_) (fun hc => ?_))
    ·try simp only [go_sem] at hc
     have h := qL zAC h
     refine eJ (dX (aU (decide (b = (6 : Int))) h rfl ?_))
     ·exact zAI
    ·try simp only [go_sem] at hc
     have h := qM zAC h
     refine aO (aS hF [3, 7] (yaA ?_))
     refine aQ (dC rfl (fun hc => ?_) (fun hc => ?_))
     ·try simp only [go_sem] at hc
      have h := qL zAC h
      refine eJ (dX (aU (decide (b = (7 : Int))) h rfl ?_))
      ·exact zAI
     ·try simp only [go_sem] at hc
      have h := qM zAC h
      refine aO (aS hF [3, 7] (yaA ?_))
      refine aQ (dC rfl (fun hc => ?_) (fun hc => ?_))
      ·try simp only [go_sem] at hc
       have h := qL zAC h
       refine eJ (dX (aU (decide (b = (8 : Int))) h rfl ?_))
       ·exact zAI
      ·try simp only [go_sem] at hc
       have h := qM zAC h
       refine aS hF [3, 7] (yaA ?_)
       refine dX (aU (decide (b = (9 : Int))) h rfl ?_)
       ·exact zAI
   ·rintro g h
    try dsimp only at h
    simp only [go_sem]
    unfold pL at h
    refine dC rfl (fun hc => ?_) (fun hc => ?_)
    ·try simp only [go_sem] at hc
     exact zah
    ·try simp only [go_sem] at hc
     have h := qM zAC h
     refine aCr (D := Bool) (fun d => pK F d = some r) [] (fun d => [(12, .val .bool d)]) (fun d => []) ?_ ?_
     ·refine aO (aS hF [3, 12] (yaA ?_))
      refine aQ (dC rfl (fun hc => ?_) (fun hc => ?_))
      ·try simp only [go_sem] at hc
       have h := qL zAC h
       refine eJ (dX (aU (decide (b = (10 : Int))) h rfl ?_))
       ·exact zAI
      ·try simp only [go_sem] at hc
       have h := qM zAC h
       refine aO (aS hF [3, 12] (yaA ?_))
       refine aQ (dC rfl (fun hc => ?_) (fun hc => ?_))
       ·try simp only [go_sem] at hc
        have h := qL zAC h
        refine eJ (dX (aU (decide (b = (11 : Int))) h rfl ?_))
        ·exact zAI
       ·try simp only [go_sem] at hc
        have h := qM zAC h
        refine aO (aS hF [3, 12] (yaA ?_))
        refine aQ (dC rfl (fun hc => ?_) (fun hc => ?_))
        ·try simp only [go_sem] at hc
         have h := qL zAC h
         refine eJ (dX (aU (decide (b = (12 : Int))) h rfl ?_))
         ·exact zAI
        ·try simp only [go_sem] at hc
         have h := qM zAC h
         refine aS hF [12] (yaA ?_)
         refine dX (aU (decide (b = (13 : Int))) h rfl ?_)
         ·exact zAI
     ·rintro f h
      try dsimp only at h
      simp only [go_sem]
      unfold pK at h
      refine dC rfl (fun hc => ?_) (fun hc => ?_)
      ·try simp only [go_sem] at hc
       exact zah
      ·try simp only [go_sem] at hc
       have h := qM zAC h
       refine eJ (qJ (aQ (aO (aS hF [2] (yaA ?_)))))
       obtain rfl := Option.some.inj h
       refine aQ (jS (sA hF [.tmp 2] rfl rfl rfl ?_))
       exact zaQ
attribute [go_sem] aCK
@[go_sem]def aEf : Ty := .pair .expr (.pair wi .unit)
def kY (g : Ex → qx → Option (Bool)) : aG := mSpec aEf (.one .bool) (fun x => g x.1 x.2.1)
attribute [go_sem] kY
def xV (F : Md) (g : Ex → qx → Option (Bool)) (j : Ex) (b : qx) : Option Bool :=
 (g j b).bind (fun f => some (!f))
def aIg : PlR := ⟨[(0, .B [1, 2]), (1, .A [3])], [], []⟩
def aJy : Ty := .pair .expr vd
def aAu (F : Md) (g : Ex → qx → Option (Bool)) : aG := mSpec aJy (.one .bool) (fun x => xV F g x.1 x.2.1)
abbrev aJz (F : Md) (g : Ex → qx → Option (Bool)) : List (FuncId × aG) := [(116, (kY g))]
theorem aSV [Mx] (F : Md) (g : Ex → qx → Option (Bool)) (b : FOK Tryz.prog GL 116 (kY g)) : bE Tryz.prog GL (aJz F g) := .cons b xAa (.nil)
attribute [go_sem] aJy aIg
theorem aQQ [Mx] (F : Md) (g : Ex → qx → Option (Bool)) (j : FOK Tryz.prog GL 116 (kY g)) : FOK Tryz.prog GL 166 (aAu F g) := by
 refine bN (bC (aSV F g j)) mix Tryz.func166 rfl xAa xAb aIg (fun w0 S x Θ r h hV => ?_)
 obtain ⟨(f : Ex), (b : qx), u⟩ := x
 simp only [bT, go_sem]
 replace h : sat (xV F g f b) _ := h
 unfold xV at h
 refine aC h fun q hv h => ?_
 try simp only [hv, go_sem]
 exact aH hV [.tmp 3] rfl rfl rfl (aA h) xAd
attribute [go_sem] aAu
def bH (F : Md) (g : Ex → qx → Option (Bool)) (f : w9) (j : wz) (b : Int) : Option ((Int) ⊕ ((Unit) ⊕ Int)) :=
 if b < (f.length : Int) then ck (0 ≤ b ∧ b < (f.length : Int)) ((xV F g (f.getD (b.toNat) (Ex.mk 0 [] [])) j.1).bind (fun v_27 => if v_27 = true then some (.inr (.inr b)) else ck (I64 (b + (1 : Int))) (some (.inl (b + (1 : Int)))))) else some (.inr (.inl ()))
def cM (F : Md) (g : Ex → qx → Option (Bool)) (b : w9) (f : wz) : Option Int :=
 (dG F (fun d : Int => bH F g b f d) (0 : Int)).bind (fun e => match e with | (.inl e) => some (-1 : Int) | (.inr e) => some e)
def jF : PlR := ⟨[(0, .A [0, 1]), (1, .A [0, 1, 7, 8]), (2, .A [0, 1, 7, 8, 9]), (3, .A [0, 1, 5, 7, 8]), (4, .A [0, 1, 5, 7, 8, 16]), (5, .A [4]), (6, .A [0, 1, 7, 8]), (7, .A [4])], [], []⟩
def jM : Ty := .pair (.sl .expr) (.pair (.clo 166 vd) .unit)
def dI (F : Md) (g : Ex → qx → Option (Bool)) : aG := mSpec jM (.one qc) (fun x => cM F g x.1 x.2.1)
abbrev jN (F : Md) (g : Ex → qx → Option (Bool)) : List (FuncId × aG) := [(166, (aAu F g))]
theorem sD [Mx] (F : Md) (g : Ex → qx → Option (Bool)) (b : FOK Tryz.prog GL 116 (kY g)) : bE Tryz.prog GL (jN F g) := .cons (aQQ F g b) xAa (.nil)
attribute [go_sem] jM jF
theorem rO [Mx] (F : Md) (g : Ex → qx → Option (Bool)) (q : FOK Tryz.prog GL 116 (kY g)) : FOK Tryz.prog GL 194 (dI F g) := by
 refine bN (bC (sD F g q)) mix Tryz.func194 rfl xAa xAb jF (fun w0 S x Θ s h hV => ?_)
 obtain ⟨(f : w9), (j : wz), u⟩ := x
 simp only [bT, go_sem]
 replace h : sat (cM F g f j) _ := h
 unfold cM at h
 refine bM hV (D := Int) [0, 1, 7] (fun d => [(8, .val qc d)]) (fun d => []) h rfl xAc ?_
 rintro b r T2 hA2 hE2 h
 simp only [go_sem]
 replace h : sat (bH F g f j b) _ := h
 unfold bH at h
 exact zaO
attribute [go_sem] dI
def bI (F : Md) (g : Ex → qx → Option (Bool)) (b : w9) (f : wz) : Option Bool :=
 (cM F g b f).bind (fun v_8 => some (decide ((0 : Int) ≤ v_8)))
def iC : PlR := ⟨[(0, .A [0, 1]), (1, .A [4])], [], []⟩
def iN : Ty := .pair (.sl .expr) (.pair (.clo 166 vd) .unit)
def cZ (F : Md) (g : Ex → qx → Option (Bool)) : aG := mSpec iN (.one .bool) (fun x => bI F g x.1 x.2.1)
abbrev iO (F : Md) (g : Ex → qx → Option (Bool)) : List (FuncId × aG) := [(194, (dI F g))]
theorem pY [Mx] (F : Md) (g : Ex → qx → Option (Bool)) (b : FOK Tryz.prog GL 116 (kY g)) : bE Tryz.prog GL (iO F g) := .cons (rO F g b) xAa (.nil)
attribute [go_sem] iN iC
theorem pN [Mx] (F : Md) (g : Ex → qx → Option (Bool)) (j : FOK Tryz.prog GL 116 (kY g)) : FOK Tryz.prog GL 165 (cZ F g) := by
 refine bN (bC (pY F g j)) mix Tryz.func165 rfl xAa xAb iC (fun w0 S x Θ q h hV => ?_)
 obtain ⟨(b : w9), (f : wz), u⟩ := x
 simp only [bT, go_sem]
 replace h : sat (bI F g b f) _ := h
 unfold bI at h
 refine aC h fun v_8 hv h => ?_
 exact zam
attribute [go_sem] cZ
def tT (F : Md) (g : Ex → qx → Option (Bool)) (b : Ex) (names_1 : qx) : Option Bool :=
 (yQ F (b.kind)).bind (fun f => if ¬ (f = (((b.l).length : Nat) : Int)) then some false else if (b.kind) = (1 : Int) then (tE F (b.text)).bind (fun v_17 => some v_17) else if (b.kind) = (2 : Int) then ck (¬ ((b.text) = (aV ⟨#[116]⟩)) → ((eC F names_1 (b.text)).isSome = true)) (some ((decide ((b.text) = (aV ⟨#[116]⟩))) || ((eC F names_1 (b.text)).getD false))) else ck (((b.text) = (aV ⟨#[]⟩)) → ((bI F g (b.l) (names_1, ())).isSome = true)) (some ((decide ((b.text) = (aV ⟨#[]⟩))) && (!((bI F g (b.l) (names_1, ())).getD false)))))
def aK3 : PlR := ⟨[(0, .B [2, 3]), (1, .A [2, 3, 11]), (2, .A [4]), (3, .A [2, 3, 13]), (4, .A [2, 3, 13, 14]), (5, .A [4]), (6, .A [2, 3, 19]), (7, .A [4]), (8, .stop)], [], []⟩
abbrev aBG (F : Md) (g : Ex → qx → Option (Bool)) : List (FuncId × aG) := [(165, (cZ F g)), (100, (uN F)), (118, (gP F)), (164, (aCK F))]
theorem aWh [Mx] (F : Md) (g : Ex → qx → Option (Bool)) (b : FOK Tryz.prog GL 116 (kY g)) : bE Tryz.prog GL (aBG F g) := .cons (pN F g b) xAa (.cons (aJx F) xAa (.cons (zL F) xAa (.cons (aTZ F) xAa (.nil))))
attribute [go_sem] aK3
theorem aSW [Mx] (F : Md) (g : Ex → qx → Option (Bool)) (j : FOK Tryz.prog GL 116 (kY g)) : FOK Tryz.prog GL 116 (mSpec aEf (.one .bool) (fun x => tT F g x.1 x.2.1)) := by
 refine bN (bC (aWh F g j)) mix Tryz.func116 rfl xAa xAb aK3 (fun w0 S x Θ q h hV => ?_)
 obtain ⟨(b : Ex), (names_1 : qx), u⟩ := x
 simp only [bT, go_sem]
 replace h : sat (tT F g b names_1) _ := h
 unfold tT at h
 refine aC h fun f hv h => ?_
 try simp only [hv, go_sem]
 refine cI h (fun hc h => ?_) fun hc h => ?_
 ·exact aH hV [.tmp 4] rfl rfl rfl (aA h) xAd
 ·refine cI h (fun hc h => ?_) fun hc h => ?_
  ·refine aC h fun v_17 hv h => ?_
   exact zam
  ·refine cI h (fun hc h => ?_) fun hc h => ?_
   ·refine aD h fun g0 h => ?_
    repeat (refine ⟨zAF, ?_⟩)
    exact zaD
   ·refine aC0 1 rfl (yaA ?_)
    refine sZ hV [4] (yaA ?_)
    refine aD h fun g0 h => ?_
    repeat (refine ⟨zAF, ?_⟩)
    exact zaD
def vA (F : Md) : Nat → Ex → qx → Option (Bool)
 | 0 => fun _ _ => none
 | n + 1 => tT F (vA F n)
def aCL (F : Md) (n : Nat) : aG := mSpec aEf (.one .bool) (fun x => vA F n x.1 x.2.1)
theorem aK4 [Mx] (F : Md) : ∀ n, FOK Tryz.prog GL 116 (aCL F n)
 | 0 => fun _ _ _ _ _ _ _ hp => Bool.noConfusion (show false = true from hp)
 | n + 1 => aSW F _ (aK4 F n)
attribute [go_sem] aCL
end
end Nu
end Go.Proofs
namespace Go.Proofs
open Go.Vc
set_option maxRecDepth 20000
namespace Nu
noncomputable section
def aWi : List Nat → Nat → Nat → Int
 | [], _, _ => -1
 | b :: l, c, k => if b = c then (k : Int) else aWi l c (k + 1)
def aIB (l : List Nat) (c : Nat) : Int := aWi l c 0
theorem aHN : ∀ (l : List UInt8) (c : UInt8), Lib.indexByte l c = -1 ∨ 0 ≤ Lib.indexByte l c
 | [], c => .inl rfl
 | b :: l, c => by
  unfold Lib.indexByte
  split
  ·exact .inr xAb
  ·split
   ·exact .inl rfl
   ·rename_i h
    rcases aHN l c with f | f
    ·rw [f] at h; exact absurd rfl h
    ·right; omega
theorem aUR : ∀ (l : List UInt8) (c : UInt8) (k : Nat), aWi (l.map (·.toNat)) c.toNat k = if Lib.indexByte l c = -1 then -1 else Lib.indexByte l c + k
 | [], c, k => rfl
 | b :: l, c, k => by
  have q := aUR l c (k + 1)
  have s := aHN l c
  rw [List.map_cons, aWi]
  unfold Lib.indexByte
  by_cases hb : b = c
  ·subst hb
   simp
  ·have j : ¬ b.toNat = c.toNat := fun h => hb (UInt8.toNat_inj.1 h)
   have g : (b == c) = false := by simpa using hb
   rw [if_neg j, q, g]
   by_cases f : Lib.indexByte l c = -1
   ·rw [if_pos f, f]; rfl
   ·have r : (Lib.indexByte l c == -1) = false := by simpa using f
    rw [if_neg f, r]
    simp only [Bool.false_eq_true, if_false]
    rw [if_neg (by omega)]
    omega
def xW : Ty := .pair .str w5
def lZ : aG := ⟨xW, .one qc, fun _ => True, fun x => aIB x.1 x.2.1⟩
attribute [go_sem] lZ xW
theorem aEg [Mx] : NOK Tryz.prog GL 177 lZ := by
 refine ⟨(fun e t h => by cases h), fun w Y S x hS hG ha hp => ?_⟩
 obtain ⟨(a : List Nat), (c : Nat), u⟩ := x
 obtain ⟨v1, r1, e1, J, v2, O, W, f, j⟩ := ha
 have j : O = [] := j
 subst j
 have J : bB w S .str a [v1] := J
 obtain ⟨s, U, hs, L⟩ := J
 obtain rfl := (List.cons.inj U).1
 have hw := f
 unfold dE at f
 rw [if_neg (by simp [Ty.isAgg])] at f
 simp only [bB, List.cons.injEq, and_true] at f
 have hc : c < 256 := by
  have := f.2.2
  have hm : IntKind.u8.max = 255 := by decide
  omega
 obtain rfl := f.1
 have q : Y = #[.string s, .int .u8 (c : Int)] := by rw [← Array.toList_inj, e1, W]
 rw [q]
 refine ⟨.int .i64 (Lib.indexByte s.data.toList ((c : Int).toNat.toUInt8)), w, ?_, _, rfl, .refl _ _, ?_⟩
 ·rw [run_callFunc_extern Tryz.func177 xAa xAa xAa (e := Extern.BytealgIndexByte.indexByte) xAa, Lib.run_indexByteString]
  rfl
 ·show dE w _ qc (aIB a c) _
  have N : aIB a c = Lib.indexByte s.data.toList ((c : Int).toNat.toUInt8) := by
   have r : ((c : Int).toNat.toUInt8).toNat = c := by
    rw [Int.toNat_natCast]
    exact Nat.mod_eq_of_lt hc
   have := aUR s.data.toList ((c : Int).toNat.toUInt8) 0
   rw [r] at this
   have hs : a = s.data.toList.map (·.toNat) := hs.symm
   unfold aIB
   rw [hs, this]
   split
   ·rename_i h; exact h.symm
   ·omega
  rw [N]
  unfold dE
  rw [if_neg (by simp [Ty.isAgg])]
  have Z := aHN s.data.toList ((c : Int).toNat.toUInt8)
  have I : ∀ (l : List UInt8) (c : UInt8), Lib.indexByte l c ≤ l.length := fun l c => by
   induction l with
   | nil => exact (by decide : (-1 : Int) ≤ 0)
   | cons b l ih =>
    unfold Lib.indexByte
    split
    ·simp; omega
    ·split
     ·simp; omega
     ·simp; omega
  have I := I s.data.toList ((c : Int).toNat.toUInt8)
  have g : s.data.toList.length ≤ maxLen := L
  unfold maxLen at g
  generalize Lib.indexByte s.data.toList ((c : Int).toNat.toUInt8) = z at Z I ⊢
  refine ⟨rfl, rfl, ?_, ?_⟩
  ·have hm : IntKind.i64.min = -9223372036854775808 := by decide
   show (IntKind.i64.min : Int) ≤ z
   rw [hm]
   omega
  ·have hm : IntKind.i64.max = 9223372036854775807 := by decide
   show (z : Int) ≤ IntKind.i64.max
   rw [hm]
   omega
end
end Nu
end Go.Proofs
namespace Go.Proofs
open Go.Vc
set_option maxRecDepth 20000
namespace Nu
noncomputable section
set_option maxHeartbeats 4000000
attribute [-go_sem] Ex.kind Ex.text Ex.l
def oB (F : Md) (b : qa) (f : Nat) : Option Int :=
 some (aIB b f)
def zM : PlR := ⟨[(0, .A [0, 1]), (1, .A [4])], [], []⟩
def aAj : Ty := .pair .str w5
def nF (F : Md) : aG := mSpec aAj (.one qc) (fun x => oB F x.1 x.2.1)
abbrev aAk (F : Md) : List (FuncId × aG) := [(177, lZ)]
theorem aF6 [Mx] (F : Md) : bE Tryz.prog GL (aAk F) := .nat aEg (.nil)
attribute [go_sem] aAj zM
theorem aFh [Mx] (F : Md) : FOK Tryz.prog GL 132 (nF F) := by
 refine bN (bC (aF6 F)) mix Tryz.func132 rfl xAa xAb zM (fun w0 S x Θ g h hV => ?_)
 obtain ⟨(b : qa), (f : Nat), u⟩ := x
 simp only [bT, go_sem]
 replace h : sat (oB F b f) _ := h
 unfold oB at h
 exact zaD
attribute [go_sem] nF
def aT (F : Md) (g : qa) (f : Nat) : Option Int :=
 (oB F g f).bind (fun b => some b)
def aC9 : PlR := ⟨[(0, .A [0, 1]), (1, .A [4])], [], []⟩
def aDJ : Ty := .pair .str w5
def dM (F : Md) : aG := mSpec aDJ (.one qc) (fun x => aT F x.1 x.2.1)
abbrev aDK (F : Md) : List (FuncId × aG) := [(132, (nF F))]
theorem aKt [Mx] (F : Md) : bE Tryz.prog GL (aDK F) := .cons (aFh F) xAa (.nil)
attribute [go_sem] aDJ aC9
theorem oK [Mx] (F : Md) : FOK Tryz.prog GL 125 (dM F) := by
 refine bN (bC (aKt F)) mix Tryz.func125 rfl xAa xAb aC9 (fun w0 S x Θ j h hV => ?_)
 obtain ⟨(b : qa), (f : Nat), u⟩ := x
 simp only [bT, go_sem]
 replace h : sat (aT F b f) _ := h
 unfold aT at h
 refine aC h fun g hv h => ?_
 exact zam
attribute [go_sem] dM
def eD (F : Md) (b : qd) : Option (qd ⊕ qd) :=
 ck ((b.2.1 < (b.1.length : Int)) → (0 ≤ b.2.1 ∧ b.2.1 < (b.1.length : Int))) (if (b.2.1 < (b.1.length : Int)) ∧ ((b.1.getD (b.2.1.toNat) (0 : Nat)) = (32 : Nat)) then ck (I64 (b.2.1 + (1 : Int))) (some (.inl (b.1, (b.2.1 + (1 : Int)), b.2.2.1, ()))) else some (.inr b))
def iD (F : Md) (b : qd) : Option qd :=
 (dG F (fun d : qd => eD F d) b).bind (fun e => some e)
def sV (F : Md) : fT where
 D := qd × qd
 av := fun d => [.ptr 0 []]
 hp := fun d => [.box 3 (.val qq d.1)]
 m := 1
 pre := fun d => iD F d.1 = some d.2
 out := fun d => (fun r : qd => .ret (.tup []) [.box 3 (.val qq (r))]) d.2
def aDa (F : Md) (vs : List AV) (h : List Vc.Obj) : Hit := mkH (iD F (dU h (gX vs 0) qq)) (([] : List Nat), (0 : Int), (0 : Int), ()) fun r => ⟨(sV F), [(gX vs 0)], ((dU h (gX vs 0) qq), r)⟩
attribute [go_sem] aDa
def aDb : PlR := ⟨[(0, .A [0, 23]), (1, .B [0])], [], []⟩
abbrev aKu (F : Md) : List (FuncId × aG) := []
theorem aKv [Mx] (F : Md) : bE Tryz.prog GL (aKu F) := .nil
attribute [go_sem] aDb sV
theorem aDc [Mx] (F : Md) : GOK Tryz.prog GL 40 (sV F) := by
 refine kE (bC (aKv F)) mix Tryz.func40 rfl xAa (fun _ => Nat.le_of_ble_eq_true rfl) aDb (fun z w0 d J q h hV => ?_)
 obtain ⟨(b : qd), r⟩ := d
 have hF := hV.fr
 replace h := kF (show iD F b = some r from h)
 simp only [tP, List.map_cons, List.map_nil, go_sem]
 unfold iD at h
 refine bM hV (D := qd) [] (fun d => [(0, .ptr 0 [])]) (fun d => [.inr (.box 3 (.val qq d))]) h rfl xAc ?_
 rintro g s I f j h
 simp only [go_sem]
 replace h : sat (eD F g) _ := h
 unfold eD at h
 refine aN h fun g0 h => ?_
 refine ⟨fun hc => ?_, fun hc => ?_⟩
 ·replace h := gB hc h
  refine aN h fun g0 h => ?_
  replace h := f _ (aA h)
  exact zaJ
 ·replace h := gC hc h
  replace h := yaG (j _ (aA h))
  obtain rfl := aL h
  exact zaq
def eX (F : Md) (signs_1 : qa) (f : qd) : Option ((Nat × wt) × qd) :=
 (iD F f).bind (fun b => ck (¬ (b.2.1 = (b.1.length : Int)) → (0 ≤ b.2.1 ∧ b.2.1 < (b.1.length : Int))) (ck (¬ (b.2.1 = (b.1.length : Int)) → ((aT F signs_1 (b.1.getD (b.2.1.toNat) (0 : Nat))).isSome = true)) (if (b.2.1 = (b.1.length : Int)) ∨ (((aT F signs_1 (b.1.getD (b.2.1.toNat) (0 : Nat))).getD (0 : Int)) < (0 : Int)) then some (((0 : Nat), false, ()), b) else ck (I64 (b.2.1 + (1 : Int))) (ck (I64 ((b.2.1 + (1 : Int)) - (1 : Int))) (ck (0 ≤ ((b.2.1 + (1 : Int)) - (1 : Int)) ∧ ((b.2.1 + (1 : Int)) - (1 : Int)) < (b.1.length : Int)) (some (((b.1.getD ((b.2.1 + (1 : Int)) - (1 : Int)).toNat (0 : Nat)), true, ()), b.1, (b.2.1 + (1 : Int)), b.2.2.1, ())))))))
def vB (F : Md) : fT where
 D := qa × qd × ((Nat × wt) × qd)
 av := fun d => [.ptr 0 [], .val .str d.1]
 hp := fun d => [.box 3 (.val qq d.2.1)]
 m := 1
 pre := fun d => eX F d.1 d.2.1 = some d.2.2
 out := fun d => (fun r : ((Nat × wt) × qd) => .ret (.tup [.val wq r.1.1, .val .bool r.1.2.1]) [.box 3 (.val qq r.2)]) d.2.2
def vC (F : Md) (vs : List AV) (h : List Vc.Obj) : Hit := mkH (eX F (rD h vs 1 .str) (dU h (gX vs 0) qq)) (((0 : Nat), false, ()), ([] : List Nat), (0 : Int), (0 : Int), ()) fun r => ⟨(vB F), [(gX vs 0)], ((rD h vs 1 .str), (dU h (gX vs 0) qq), r)⟩
attribute [go_sem] vC
def aET (F : Md) : PlR := ⟨[(0, .A [0, 1]), (1, .P [0, 1] []), (2, .A [0, 31]), (3, .A [4, 5]), (4, .B [0]), (5, .A [4, 5])], [], [(40, aDa F)]⟩
abbrev aFD (F : Md) : List (FuncId × aG) := [(125, (dM F))]
theorem aNq [Mx] (F : Md) : bE Tryz.prog GL (aFD F) := .cons (oK F) xAa (.nil)
attribute [go_sem] aET vB
theorem vD [Mx] (F : Md) : GOK Tryz.prog GL 124 (vB F) := by
 refine kE (bC (aNq F)) mix Tryz.func124 rfl xAa (fun _ => Nat.le_of_ble_eq_true rfl) (aET F) (fun j w0 d q g h hV => ?_) (.cons (fun _ _ => (aDc F)) xAa (.nil))
 obtain ⟨(signs_1 : qa), (b : qd), r⟩ := d
 have hF := hV.fr
 replace h := kF (show eX F signs_1 b = some r from h)
 simp only [tP, List.map_cons, List.map_nil, go_sem]
 unfold eX at h
 refine aC h fun f hv h => ?_
 simp only [hv, go_sem]
 refine aN h fun g0 h => aN h fun g1 h => ?_
 refine ⟨fun hc => ?_, fun hc => ?_⟩
 ·replace h := gB hc h
  obtain rfl := aL h
  refine dP hF [.tmp 4, .tmp 5] rfl rfl rfl rfl rfl rfl ?_
  exact zaC
 ·replace h := gC hc h
  refine aN h fun g0 h => ?_
  refine aN h fun g0 h => aN h fun g1 h => ?_
  obtain rfl := aL h
  refine dP hF [.tmp 4, .tmp 5] rfl rfl rfl rfl rfl rfl ?_
  exact zaC
def eL (F : Md) (b : qa) (g : qd) : Option (qd ⊕ qn) :=
 (eX F b g).bind (fun f => if ¬ (f.1.2.1 = true) then some (.inr (f.2.2.1, ())) else some (.inl f.2))
def xX (F : Md) : fT where
 D := qa × qd × (qd ⊕ qn)
 av := fun d => [.ptr 0 [], .val .str d.1]
 hp := fun d => [.box 3 (.val qq d.2.1)]
 m := 1
 pre := fun d => eL F d.1 d.2.1 = some d.2.2
 out := fun d => match d.2.2 with | .inl r => .ret (.tup []) [.box 3 (.val qq (r))] | .inr p => .pan ⟨93, qj, p⟩ [.box 3 (.junk)]
def aDd (F : Md) (vs : List AV) (h : List Vc.Obj) : Hit := mkH (eL F (rD h vs 1 .str) (dU h (gX vs 0) qq)) (.inr ((0 : Int), ())) fun r => ⟨(xX F), [(gX vs 0)], ((rD h vs 1 .str), (dU h (gX vs 0) qq), r)⟩
attribute [go_sem] aDd
def aDe (F : Md) : PlR := ⟨[(0, .P [0, 5] []), (1, .A [0, 13]), (2, .P [] [])], [], [(124, vC F)]⟩
abbrev aKw (F : Md) : List (FuncId × aG) := []
theorem aKx [Mx] (F : Md) : bE Tryz.prog GL (aKw F) := .nil
attribute [go_sem] aDe xX
theorem aJA [Mx] (F : Md) : GOK Tryz.prog GL 199 (xX F) := by
 refine kE (bC (aKx F)) mix Tryz.func199 rfl xAa (fun _ => Nat.le_of_ble_eq_true rfl) (aDe F) (fun q w0 d s j h hV => ?_) (.cons (fun _ _ => (vD F)) xAa (.nil))
 obtain ⟨(b : qa), (f : qd), r⟩ := d
 have hF := hV.fr
 replace h := kF (show eL F b f = some r from h)
 simp only [tP, List.map_cons, List.map_nil, go_sem]
 unfold eL at h
 refine aC h fun g hv h => ?_
 simp only [hv, go_sem]
 refine aAF h (fun hc h => ?_) fun hc h => ?_
 ·obtain rfl := aL h
  exact zaG
 ·obtain rfl := aL h
  exact zaq
def dL (F : Md) (g : Int) (f : qa) (j : w9) (b : qd) : Option q9 :=
 ck (I64 (b.2.2.1 + (1 : Int))) (some ((Ex.mk g f j), b.1, b.2.1, (b.2.2.1 + (1 : Int)), ()))
def gN (F : Md) : fT where
 D := Int × qa × w9 × qd × q9
 av := fun d => [.ptr 0 [], .val qc d.1, .val .str d.2.1, .val (.sl .expr) d.2.2.1]
 hp := fun d => [.box 3 (.val qq d.2.2.2.1)]
 m := 1
 pre := fun d => dL F d.1 d.2.1 d.2.2.1 d.2.2.2.1 = some d.2.2.2.2
 out := fun d => (fun r : q9 => .ret (.val .expr r.1) [.box 3 (.val qq r.2)]) d.2.2.2.2
def aDf (F : Md) (vs : List AV) (h : List Vc.Obj) : Hit := mkH (dL F (rD h vs 1 qc) (rD h vs 2 .str) (rD h vs 3 (.sl .expr)) (dU h (gX vs 0) qq)) ((Ex.mk 0 [] []), ([] : List Nat), (0 : Int), (0 : Int), ()) fun r => ⟨(gN F), [(gX vs 0)], ((rD h vs 1 qc), (rD h vs 2 .str), (rD h vs 3 (.sl .expr)), (dU h (gX vs 0) qq), r)⟩
attribute [go_sem] aDf
def aDg : PlR := ⟨[(0, .B [0, 1, 2, 3, 8]), (1, .B [1, 2, 3, 8]), (2, .B [8])], [], []⟩
abbrev aKy (F : Md) : List (FuncId × aG) := []
theorem aKz [Mx] (F : Md) : bE Tryz.prog GL (aKy F) := .nil
attribute [go_sem] aDg gN
theorem lU [Mx] (F : Md) : GOK Tryz.prog GL 126 (gN F) := by
 refine kE (bC (aKz F)) mix Tryz.func126 rfl xAa (fun _ => Nat.le_of_ble_eq_true rfl) aDg (fun s w0 d z q h hV => ?_)
 obtain ⟨(b : Int), (f : qa), (j : w9), (g : qd), r⟩ := d
 have hF := hV.fr
 replace h := kF (show dL F b f j g = some r from h)
 simp only [tP, List.map_cons, List.map_nil, go_sem]
 unfold dL at h
 refine aN h fun g0 h => ?_
 exact zau
def tF (F : Md) (j : qa) (g : Int) (r : Int) (b : Int) : Option (Int) :=
 (mJ F j b).bind (fun f => ck (I64 (b + (min f (4 : Int)))) (ck (0 ≤ b ∧ b ≤ (b + (min f (4 : Int))) ∧ (b + (min f (4 : Int))) ≤ (j.length : Int)) (ck ((aV ⟨#[48]⟩).length + (List.drop (b.toNat) (List.take (b + (min f (4 : Int))).toNat j)).length ≤ 9223372036854775807) ((kX F ((aV ⟨#[48]⟩) ++ (List.drop (b.toNat) (List.take (b + (min f (4 : Int))).toNat j)))).bind (fun q => if (((1 : Int) ≤ f) ∧ (f ≤ (3 : Int))) ∧ (q.1 ≤ (100 : Int)) then ck (I64 (b + f)) (ck (I64 ((b + f) - g)) (some ((b + f) - g))) else ck (I64 (r - g)) (some (r - g)))))))
def oC (F : Md) (f : qa) (g : Int) (b : Int) : Option (Int) :=
 ck ((b < (f.length : Int)) → (0 ≤ b ∧ b < (f.length : Int))) (if (b < (f.length : Int)) ∧ ((f.getD (b.toNat) (0 : Nat)) = (101 : Nat)) then ck (I64 (b + (1 : Int))) (ck (((b + (1 : Int)) < (f.length : Int)) → (0 ≤ (b + (1 : Int)) ∧ (b + (1 : Int)) < (f.length : Int))) (ck (((b + (1 : Int)) < (f.length : Int)) → ¬ ((f.getD (b + (1 : Int)).toNat (0 : Nat)) = (43 : Nat)) → (0 ≤ (b + (1 : Int)) ∧ (b + (1 : Int)) < (f.length : Int))) (if ((b + (1 : Int)) < (f.length : Int)) ∧ (((f.getD (b + (1 : Int)).toNat (0 : Nat)) = (43 : Nat)) ∨ ((f.getD (b + (1 : Int)).toNat (0 : Nat)) = (45 : Nat))) then ck (I64 ((b + (1 : Int)) + (1 : Int))) (tF F f g b ((b + (1 : Int)) + (1 : Int))) else tF F f g b (b + (1 : Int))))) else ck (I64 (b - g)) (some (b - g)))
def fV (F : Md) (g : qa) (b : Int) : Option Int :=
 (mJ F g b).bind (fun f => ck (I64 (b + f)) (if (b + f) = b then some (0 : Int) else ck (((b + f) < (g.length : Int)) → (0 ≤ (b + f) ∧ (b + f) < (g.length : Int))) (if ((b + f) < (g.length : Int)) ∧ ((g.getD (b + f).toNat (0 : Nat)) = (46 : Nat)) then ck (I64 ((b + f) + (1 : Int))) ((mJ F g ((b + f) + (1 : Int))).bind (fun v_27 => if (0 : Int) < v_27 then ck (I64 ((b + f) + (1 : Int))) (ck (I64 (((b + f) + (1 : Int)) + v_27)) (oC F g b (((b + f) + (1 : Int)) + v_27))) else oC F g b (b + f))) else oC F g b (b + f))))
def aQc : PlR := ⟨[(0, .A [0, 1]), (1, .A [0, 1, 5]), (2, .A [0, 1, 5, 18]), (3, .A [4]), (4, .A [0, 1, 5, 28]), (5, .A [0, 1, 5, 6]), (6, .A [0, 1, 5, 6, 34]), (7, .A [0, 1, 5]), (8, .A [0, 1, 5, 48]), (9, .A [0, 1, 5, 7]), (10, .A [0, 1, 5, 7, 66]), (11, .A [0, 1, 5, 7]), (12, .A [0, 1, 5, 7, 8]), (13, .A [1, 5, 7, 8, 9]), (14, .A [1, 5, 7, 8, 93]), (15, .A [1, 5]), (16, .A [4])], [(7, 11), (13, 15)], []⟩
def aSX : Ty := .pair .str qj
def aFE (F : Md) : aG := mSpec aSX (.one qc) (fun x => fV F x.1 x.2.1)
abbrev aLO (F : Md) : List (FuncId × aG) := [(141, (wF F)), (99, (nB F))]
theorem aZr [Mx] (F : Md) : bE Tryz.prog GL (aLO F) := .cons (aKX F) xAa (.cons (aDy F) xAa (.nil))
attribute [go_sem] aSX aQc
theorem aYb [Mx] (F : Md) : FOK Tryz.prog GL 200 (aFE F) := by
 refine bN (bC (aZr F)) mix Tryz.func200 rfl xAa xAb aQc (fun w0 S x Θ z h hV => ?_)
 obtain ⟨(g : qa), (b : Int), u⟩ := x
 simp only [bT, go_sem]
 replace h : sat (fV F g b) _ := h
 unfold fV at h
 refine aC h fun j hv h => ?_
 try simp only [hv, go_sem]
 refine aD h fun g0 h => (yaC ?_)
 refine cI h (fun hc h => ?_) fun hc h => ?_
 ·exact aH hV [.tmp 4] rfl rfl rfl (aA h) xAd
 ·refine cX hV (D := Int) (fun d => sat (oC F g b d) Θ) [0, 1] (fun d => [(5, .val qc d)]) (fun d => []) ?_ ?_
  ·simp only [go_sem]
   refine aD h fun g0 h => (yaC ?_)
   refine ⟨fun hc => ?_, fun hc => ?_⟩
   ·replace h := gB hc h
    refine aD h fun g0 h => (yaC ?_)
    refine aC h fun v_27 hv h => ?_
    try simp only [hv, go_sem]
    refine dY h (fun hc h => ?_) fun hc h => ?_
    ·refine aD h fun g0 h => ?_
     refine aD h fun g1 h => (yaC ?_)
     exact aU (((b + j) + (1 : Int)) + v_27) h rfl xAc
    ·exact aU (b + j) h rfl xAc
   ·replace h := gC hc h
    exact aU (b + j) h rfl xAc
  ·rintro f h
   simp only [go_sem]
   replace h : sat (oC F g b f) _ := h
   unfold oC at h
   refine aD h fun g0 h => (yaC ?_)
   refine ⟨fun hc => ?_, fun hc => ?_⟩
   ·replace h := gB hc h
    refine aD h fun g0 h => (yaC ?_)
    refine cX hV (D := Int) (fun d => sat (tF F g b f d) Θ) [0, 1, 5] (fun d => [(7, .val qc d)]) (fun d => []) ?_ ?_
    ·simp only [go_sem]
     refine aD h fun g0 h => ?_
     refine aD h fun g1 h => (yaC ?_)
     refine ⟨fun hc => ?_, fun hc => ?_⟩
     ·replace h := gB hc h
      refine aD h fun g0 h => (yaC ?_)
      exact aU ((f + (1 : Int)) + (1 : Int)) h rfl xAc
     ·replace h := gC hc h
      exact aU (f + (1 : Int)) h rfl xAc
    ·rintro q h
     simp only [go_sem]
     replace h : sat (tF F g b f q) _ := h
     unfold tF at h
     refine aC h fun s hv h => ?_
     try simp only [hv, go_sem]
     refine aD h fun g0 h => ?_
     refine aD h fun g1 h => ?_
     refine aD h fun I h => (yaC ?_)
     refine aC h fun r hv h => ?_
     try simp only [hv, go_sem]
     refine ⟨fun hc => ?_, fun hc => ?_⟩
     ·replace h := gB hc h
      refine aD h fun g0 h => (yaC ?_)
      refine aD h fun g0 h => (yaC ?_)
      exact zaD
     ·replace h := gC hc h
      refine aD h fun g0 h => (yaC ?_)
      exact zaD
   ·replace h := gC hc h
    refine aD h fun g0 h => (yaC ?_)
    exact zaD
attribute [go_sem] aFE
def kS (F : Md) (b : qd) : Option (q9 ⊕ qn) :=
 ck ((fV F b.1 b.2.1).isSome = true) (if (((fV F b.1 b.2.1).getD (0 : Int)) = (0 : Int)) ∨ ((60 : Int) < ((fV F b.1 b.2.1).getD (0 : Int))) then some (.inr (b.2.1, ())) else ck (I64 (b.2.1 + ((fV F b.1 b.2.1).getD (0 : Int)))) (ck (I64 ((b.2.1 + ((fV F b.1 b.2.1).getD (0 : Int))) - ((fV F b.1 b.2.1).getD (0 : Int)))) (ck (0 ≤ ((b.2.1 + ((fV F b.1 b.2.1).getD (0 : Int))) - ((fV F b.1 b.2.1).getD (0 : Int))) ∧ ((b.2.1 + ((fV F b.1 b.2.1).getD (0 : Int))) - ((fV F b.1 b.2.1).getD (0 : Int))) ≤ (b.2.1 + ((fV F b.1 b.2.1).getD (0 : Int))) ∧ (b.2.1 + ((fV F b.1 b.2.1).getD (0 : Int))) ≤ (b.1.length : Int)) ((dL F (1 : Int) (List.drop ((b.2.1 + ((fV F b.1 b.2.1).getD (0 : Int))) - ((fV F b.1 b.2.1).getD (0 : Int))).toNat (List.take (b.2.1 + ((fV F b.1 b.2.1).getD (0 : Int))).toNat b.1)) ([] : List Ex) (b.1, (b.2.1 + ((fV F b.1 b.2.1).getD (0 : Int))), b.2.2.1, ())).bind (fun f => some (.inl (f.1, f.2)))))))
def pZ (F : Md) : fT where
 D := qd × (q9 ⊕ qn)
 av := fun d => [.ptr 0 []]
 hp := fun d => [.box 3 (.val qq d.1)]
 m := 1
 pre := fun d => kS F d.1 = some d.2
 out := fun d => match d.2 with | .inl r => .ret (.val .expr r.1) [.box 3 (.val qq r.2)] | .inr p => .pan ⟨93, qj, p⟩ [.box 3 (.junk)]
def aBH (F : Md) : PlR := ⟨[(0, .B [0, 2]), (1, .A [0, 2, 3]), (2, .A [0, 2, 3, 18]), (3, .P [0, 2, 3] []), (4, .B [0, 2, 3]), (5, .Q 16 [2] [])], [], [(126, aDf F)]⟩
abbrev aCc (F : Md) : List (FuncId × aG) := [(200, (aFE F))]
theorem aID [Mx] (F : Md) : bE Tryz.prog GL (aCc F) := .cons (aYb F) xAa (.nil)
attribute [go_sem] aBH pZ
theorem aBI [Mx] (F : Md) : GOK Tryz.prog GL 174 (pZ F) := by
 refine kE (bC (aID F)) mix Tryz.func174 rfl xAa (fun _ => Nat.le_of_ble_eq_true rfl) (aBH F) (fun j w0 d q f h hV => ?_) (.cons (fun _ _ => (lU F)) xAa (.nil))
 obtain ⟨(b : qd), r⟩ := d
 have hF := hV.fr
 replace h := kF (show kS F b = some r from h)
 simp only [tP, List.map_cons, List.map_nil, go_sem]
 unfold kS at h
 refine aN h fun g0 h => ?_
 refine ⟨fun hc => ?_, fun hc => ?_⟩
 ·replace h := gB hc h
  obtain rfl := aL h
  refine bF [0] rfl rfl (yaB ?_)
  exact zaG
 ·replace h := gC hc h
  refine aN h fun g0 h => ?_
  refine ⟨by kernel_rfl, ?_⟩
  refine aN h fun g0 h => aN h fun g1 h => ?_
  refine aC h fun g hv h => ?_
  exact zae
def mK (F : Md) (f : qd) (b : qd) : Option (qa × qd) :=
 ck (0 ≤ f.2.1 ∧ f.2.1 ≤ b.2.1 ∧ b.2.1 ≤ (b.1.length : Int)) (some ((List.drop (f.2.1.toNat) (List.take (b.2.1.toNat) b.1)), b))
def eT (F : Md) (b : qd) : Option (qd ⊕ qd) :=
 ck ((b.2.1 < (b.1.length : Int)) → (0 ≤ b.2.1 ∧ b.2.1 < (b.1.length : Int))) (ck ((b.2.1 < (b.1.length : Int)) → ((aT F (aV uX) (b.1.getD (b.2.1.toNat) (0 : Nat))).isSome = true)) (if (b.2.1 < (b.1.length : Int)) ∧ ((0 : Int) ≤ ((aT F (aV uX) (b.1.getD (b.2.1.toNat) (0 : Nat))).getD (0 : Int))) then ck (I64 (b.2.1 + (1 : Int))) (some (.inl (b.1, (b.2.1 + (1 : Int)), b.2.2.1, ()))) else some (.inr b)))
def mV (F : Md) (b : qd) : Option (qa × qd) :=
 (dG F (fun d : qd => eT F d) b).bind (fun e => mK F b e)
def xY (F : Md) : fT where
 D := qd × (qa × qd)
 av := fun d => [.ptr 0 []]
 hp := fun d => [.box 3 (.val qq d.1)]
 m := 1
 pre := fun d => mV F d.1 = some d.2
 out := fun d => (fun r : (qa × qd) => .ret (.val .str r.1) [.box 3 (.val qq r.2)]) d.2
def aDh : PlR := ⟨[(0, .A [0]), (1, .A [0, 3]), (2, .A [0, 3, 30]), (3, .B [0, 3]), (4, .A [2])], [(5, 7)], []⟩
abbrev aDL (F : Md) : List (FuncId × aG) := [(125, (dM F))]
theorem aKA [Mx] (F : Md) : bE Tryz.prog GL (aDL F) := .cons (oK F) xAa (.nil)
attribute [go_sem] aDh xY
theorem aJB [Mx] (F : Md) : GOK Tryz.prog GL 175 (xY F) := by
 refine kE (bC (aKA F)) mix Tryz.func175 rfl xAa (fun _ => Nat.le_of_ble_eq_true rfl) aDh (fun s w0 d I j h hV => ?_)
 obtain ⟨(b : qd), r⟩ := d
 have hF := hV.fr
 replace h := kF (show mV F b = some r from h)
 simp only [tP, List.map_cons, List.map_nil, go_sem]
 unfold mV at h
 refine cX hV (D := qd) (fun d => sat (mK F b d) (fun z => z = r)) [3] (fun d => [(0, .ptr 0 [])]) (fun d => [.inr (.box 3 (.val qq d))]) ?_ ?_
 ·simp only [go_sem]
  refine bM hV (D := qd) [3] (fun d => [(0, .ptr 0 [])]) (fun d => [.inr (.box 3 (.val qq d))]) h rfl xAc ?_
  rintro f q T2 hA2 hE2 h
  simp only [go_sem]
  replace h : sat (eT F f) _ := h
  unfold eT at h
  refine aN h fun g0 h => aN h fun g1 h => ?_
  refine ⟨fun hc => ?_, fun hc => ?_⟩
  ·replace h := gB hc h
   refine aN h fun g0 h => ?_
   exact zas
  ·replace h := gC hc h
   replace h := yaG (hE2 _ (aA h))
   exact aU (f) h rfl xAc
 ·rintro g h
  simp only [go_sem]
  replace h : sat (mK F b g) _ := h
  unfold mK at h
  refine aN h fun g0 h => ?_
  exact zap
end
end Nu
end Go.Proofs

