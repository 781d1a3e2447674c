import Derived.Test.YtlijgfkkmamanaaGreatDoorZL6
import Derived.Test.YtlijgfkkmamanaaGreatDoorProg
import Derived.KernelRfl
import Derived.Laws.Externs
import Derived.Test.YtlijgfkkmamanaaGreatDoorZL5
import Derived.Lib.TrailingZeros
set_option linter.unusedVariables false
set_option linter.unusedSimpArgs false
namespace Go.Proofs
open Go.Vc
set_option maxRecDepth 20000
namespace Nu
noncomputable section
theorem xAa {p : Prop} (h : p := by kernel_rfl) : p := h
theorem xAb {p : Prop} (h : p := by decide) : p := h
theorem xAc {p : Prop} (h : p := by simp only [go_sem]) : p := h
theorem xAd {p : Prop} (h : p := by simp only [aR, go_sem]) : p := h
theorem xAe {p : Prop} (h : p := by simp only [go_sem, cA F, cB F, cC F]) : p := h
theorem xAf {p : Prop} (h : p := by simp only [aR, go_sem, cA F, cB F, cC F]) : p := h
abbrev qa := List Nat
@[go_sem]abbrev qc : Ty := .i .i64
@[go_sem]abbrev qg : Mk := .pair .no (.pair (.sl 74 .no) (.pair (.sl 91 .no) (.pair (.sl 9 .no) (.pair (.sl 76 .no) .no))))
@[go_sem]abbrev qj : Ty := .pair qc .unit
abbrev qm := Int × (Int × (qa × Unit))
abbrev qn := Int × Unit
@[go_sem]abbrev qr : Ty := .pair .str (.pair .expr .unit)
@[go_sem]abbrev qt : Ty := .u .u64
abbrev qu := Bool × (qa × qn)
abbrev qw := qa × (qa × Unit)
abbrev qx := List qa
abbrev qy := qa × (Ex × Unit)
abbrev qz := (Int × qn) × Unit
abbrev q8 := qa × (qw × (Ex × Unit))
@[go_sem]abbrev wc : Ty := .pair qc qj
abbrev wd := qa × (qw × Unit)
@[go_sem]abbrev we : Ty := .sl qt
@[go_sem]abbrev wi : Ty := .sl .str
@[go_sem]abbrev wj : Ty := .pair .str .unit
@[go_sem]abbrev wk : Ty := .pair qt (.pair qt .unit)
@[go_sem]abbrev wm : Ty := .pair wc .unit
abbrev wo := Int × Int
@[go_sem]abbrev wq : Ty := .u .u8
@[go_sem]abbrev ws : Ty := .arr 2 qc
abbrev wt := Bool × Unit
abbrev wv := List Bool
@[go_sem]abbrev ww : Ty := .pair .bool .unit
abbrev wz := qx × Unit
@[go_sem]abbrev w5 : Ty := .pair wq .unit
abbrev w6 := List qy
abbrev w8 := Int × (Unit × Unit)
abbrev w9 := List Ex
abbrev vE := qa × Int
@[go_sem]abbrev vd : Ty := .pair (.rp wi) .unit
@[go_sem]abbrev ve : Ty := .pair we .unit
abbrev vf := Nat × qa
abbrev qB := qa × ((List q8) × ((List wd) × (qx × (w6 × Unit))))
abbrev qd := qa × (Int × qn)
@[go_sem]abbrev qf : Ty := .pair .str wj
@[go_sem]abbrev qi : Ty := .pair qc (.pair qc wj)
abbrev qk := qa × (qa × qw)
@[go_sem]abbrev qo : Ty := .pair .bool (.pair we qj)
@[go_sem]abbrev qp : Ty := .pair .str (.pair qf (.pair .expr .unit))
@[go_sem]abbrev qq : Ty := .pair .str wc
@[go_sem]abbrev qs : Ty := .pair .str (.pair .str qf)
@[go_sem]abbrev qv : Ty := .pair .str (.pair qf .unit)
abbrev q9 := Ex × qd
abbrev wg := List qk
abbrev w7 := List qB
@[go_sem]abbrev qD : Ty := .pair .str (.pair (.sl qp) (.pair (.sl qv) (.pair wi (.pair (.sl qr) .unit))))
abbrev qe := Int × (Int × (Int × (Int × (qa × (qa × (qa × (qa × (w7 × (wg × Unit)))))))))
@[go_sem]abbrev qh : Ty := .pair qc (.pair qc (.pair qc (.pair qc (.pair .str (.pair .str (.pair .str (.pair .str (.pair (.sl qD) (.pair (.sl qs) .unit)))))))))
@[go_sem]theorem gam_in {a b : FuncId} {s : aG} {l : List (FuncId × aG)} : gam ((a, s) :: l) b = if a = b then some s else gam l b := rfl
structure Hq (p : Prop) : Prop where
 a : p
theorem yaA {p q : Prop} (a : q) (h : Hq q → p := by
 intro hq
 simp only [go_sem]
 exact hq.a) : p := h ⟨a⟩
theorem yaB {p q : Prop} (a : q) (h : Hq q → p := by
 intro hq
 simp only [ren, cS, dF, posOf, bD, go_sem]
 exact hq.a) : p := h ⟨a⟩
theorem yaC {p q : Prop} (a : q) (h : Hq q → p := by
 intro hq
 repeat (refine ⟨zAD, ?_⟩)
 exact hq.a) : p := h ⟨a⟩
theorem yaD {p q : Prop} (a : q) (h : Hq q → p := by
 intro hq
 simp only [go_sem]
 repeat (refine ⟨zAA, ?_⟩)
 exact hq.a) : p := h ⟨a⟩
theorem yaE {p q : Prop} (a : q) (h : Hq q → p := by
 intro hq
 repeat (refine ⟨zAB, ?_⟩)
 exact hq.a) : p := h ⟨a⟩
theorem yaF {p q : Prop} (a : q) (h : Hq q → p := by
 intro hq
 simp only [go_sem]
 repeat (refine ⟨zAE, ?_⟩)
 exact hq.a) : p := h ⟨a⟩
theorem yaG {p q : Prop} (h : p) (t : p → q := by
 intro h
 try dsimp only at h
 exact h) : q := t h
theorem zaA {p : Prop} (h : p := by
 simp only [hv, go_sem]
 obtain rfl := aL h
 refine aJ (aI 0 rfl aE) ?_
 refine aJ (aI 1 rfl aE) (yaA ?_)
 refine bF [0, 1] rfl rfl (yaB ?_)
 refine aZ rfl rfl rfl rfl) : p := h
theorem zaB {p : Prop} (h : p := by
 subst hi
 simp only [go_sem]
 try (refine ⟨by decide, ?_⟩)
 unfold anyS
 intro i hi
 have hi : i = 4 := by revert hi; revert i; decide
 subst hi
 simp only [go_sem]
 try (refine ⟨by decide, ?_⟩)
 unfold anyS
 intro i hi
 have hi : i = 5 := by revert hi; revert i; decide
 subst hi
 simp only [go_sem]
 try (refine ⟨by decide, ?_⟩)
 (simp only [anyS, go_sem]) <;> first | exact ⟨rfl, rfl⟩ | trivial) : p := h
theorem zaC {p : Prop} (h : p := by
 (try simp only [aR, jT, jL, eV, cT, AV.isAgg, go_sem]) <;> first | trivial | rfl | (simp; done)) : p := h
theorem zaD {p : Prop} (h : p := by
 exact aH hV [.tmp 4] rfl rfl rfl (aA h) xAd) : p := h
theorem zaE {p : Prop} (h : p := by
 simp only [hv, go_sem]
 obtain rfl := aL h
 refine aJ (mG 0 rfl aE) ?_
 refine aJ (aI 1 rfl aE) (yaA ?_)
 refine bF [0, 1] rfl rfl (yaB ?_)
 refine aZ rfl rfl rfl rfl) : p := h
theorem zaF {p : Prop} (h : p := by
 refine dY h (fun hc h => ?_) fun hc h => ?_
 ·refine aN h fun g0 h => ?_
  refine aN h fun g0 h => ?_
  refine aC h fun v_28 hv h => ?_
  try simp only [hv, go_sem]
  refine aAF h (fun hc h => ?_) fun hc h => ?_
  ·replace h := yaG (hE4 _ (aA h))
   exact aH hV [.tmp 6] rfl rfl rfl (aA h) xAd
  ·refine aN h fun g0 h => ?_
   replace h := hA4 _ (aA h)
   refine iI [] rfl rfl (yaA ?_)
   exact aU _ h rfl xAc
 ·replace h := yaG (hE4 _ (aA h))
  exact aH hV [.tmp 6] rfl rfl rfl (aA h) xAd) : p := h
theorem zaG {p : Prop} (h : p := by
 refine aJ (aI 0 rfl aE) ?_
 refine aZ rfl rfl rfl rfl) : p := h
theorem zaH {p : Prop} (h : p := by
 exact aH hV [.tmp 2] rfl rfl rfl (aA h) xAd) : p := h
theorem zaI {p : Prop} (h : p := by
 try (refine ⟨by decide, ?_⟩)
 unfold anyS
 intro i hi
 have hi : i = 2 ∨ i = 3 := by revert hi; revert i; decide
 rcases hi with rfl | rfl
 ·simp only [go_sem]
  try (refine ⟨by decide, ?_⟩)
  unfold anyS
  intro i hi
  have hi : i = 3 := by revert hi; revert i; decide
  exact zaB
 ·simp only [go_sem]
  try (refine ⟨by decide, ?_⟩)
  unfold anyS
  intro i hi
  have hi : i = 2 := by revert hi; revert i; decide
  exact zaB) : p := h
theorem zaJ {p : Prop} (h : p := by
 exact aU _ h rfl xAc) : p := h
theorem zaK {p : Prop} (h : p := by
 subst hi
 simp only [go_sem]
 skip
 unfold anyS
 intro i hi
 have hi : i = 4 := by revert hi; revert i; decide
 subst hi
 simp only [go_sem]
 skip
 (simp only [anyS, go_sem]) <;> first | exact ⟨rfl, rfl⟩ | trivial) : p := h
theorem zaL {p : Prop} (h : p := by
 simp only [hv, go_sem]
 obtain rfl := aL h
 refine gR (dP hF [] rfl rfl rfl rfl rfl rfl ?_)
 exact zaC) : p := h
theorem zaM {p : Prop} (h : p := by
 (repeat' apply And.intro) <;> first | trivial | rfl | with_reducible assumption | omega | (intros; first | with_reducible assumption | omega) | (simp; done) | (simp at *; omega)) : p := h
theorem zaN {p : Prop} (h : p := by
 simp only [hv, go_sem]
 obtain rfl := aL h
 refine bF [0] rfl rfl (yaB ?_)
 exact zaG) : p := h
theorem zaO {p : Prop} (h : p := by
 refine dY h (fun hc h => ?_) fun hc h => ?_
 ·refine aN h fun g0 h => ?_
  refine aC h fun v_27 hv h => ?_
  try simp only [hv, go_sem]
  refine aGq h (fun hc h => ?_) fun hc h => ?_
  ·replace h := yaG (hE2 _ (aA h))
   exact zaD
  ·refine aN h fun g0 h => ?_
   replace h := hA2 _ (aA h)
   exact zaJ
 ·replace h := yaG (hE2 _ (aA h))
  exact zaD) : p := h
theorem zaP {p : Prop} (h : p := by
 obtain rfl := aL h
 refine bF [] rfl rfl (yaB ?_)
 refine aZ rfl rfl rfl rfl) : p := h
theorem zaQ {p : Prop} (h : p := by
 (try simp only [nH, aR, go_sem]) <;> first | rfl | (simp; done)) : p := h
theorem zaR {p : Prop} (h : p := by
 refine ⟨fun hc => ?_, fun hc => ?_⟩
 ·replace h := gB hc h
  exact zaD
 ·replace h := gC hc h
  refine aN h fun g0 h => ?_
  refine ⟨fun hc => ?_, fun hc => ?_⟩
  ·replace h := gB hc h
   refine aN h fun g0 h => ?_
   refine aC h fun v_8 hv h => ?_
   try simp only [hv, go_sem]
   exact zaD
  ·replace h := gC hc h
   refine aC h fun v_13 hv h => ?_
   try simp only [hv, go_sem]
   refine aGq h (fun hc h => ?_) fun hc h => ?_
   ·refine aC h fun v_17 hv h => ?_
    try simp only [hv, go_sem]
    exact zaD
   ·exact aBr h) : p := h
theorem zaS {p : Prop} (h : p := by
 subst hi
 simp only [go_sem]
 repeat (refine ⟨zAA, ?_⟩)
 unfold anyS
 intro i hi
 have hi : i = 3 := by revert hi; revert i; decide
 subst hi
 simp only [go_sem]
 repeat (refine ⟨zAA, ?_⟩)
 (simp only [anyS, go_sem]) <;> first | exact ⟨rfl, rfl⟩ | trivial) : p := h
theorem zaT {p : Prop} (h : p := by
 refine aC h fun e hv h => ?_
 rcases e with r_7 | p_8
 ·try dsimp only at h
  simp only [hv, go_sem]
  refine aN h fun g0 h => ?_
  refine aC h fun e hv h => ?_
  rcases e with r_13 | p_14
  ·try dsimp only at h
   simp only [hv, go_sem]
   obtain rfl := aL h
   refine dP hF [.tmp 2] rfl rfl rfl rfl rfl rfl ?_
   exact zaC
  ·try dsimp only at h
   simp only [hv, go_sem]
   obtain rfl := aL h
   exact zaG
 ·try dsimp only at h
  simp only [hv, go_sem]
  obtain rfl := aL h
  exact zaG) : p := h
theorem zaU {p : Prop} (h : p := by
 try (refine ⟨by decide, ?_⟩)
 unfold anyS
 intro i hi
 have hi : i = 1 ∨ i = 3 := by revert hi; revert i; decide
 rcases hi with rfl | rfl
 ·simp only [go_sem]
  exact zaI
 ·simp only [go_sem]
  try (refine ⟨by decide, ?_⟩)
  unfold anyS
  intro i hi
  have hi : i = 1 := by revert hi; revert i; decide
  subst hi
  simp only [go_sem]
  try (refine ⟨by decide, ?_⟩)
  unfold anyS
  intro i hi
  have hi : i = 2 := by revert hi; revert i; decide
  exact zaB) : p := h
theorem zaV {p : Prop} (h : p := by
 unfold anyS
 intro i hi
 have hi : i = 0 ∨ i = 1 := by revert hi; revert i; decide
 rcases hi with rfl | rfl
 ·simp only [go_sem]
  exact zaU
 ·simp only [go_sem]
  try (refine ⟨by decide, ?_⟩)
  unfold anyS
  intro i hi
  have hi : i = 0 ∨ i = 2 := by revert hi; revert i; decide
  rcases hi with rfl | rfl
  ·simp only [go_sem]
   exact zaI
  ·simp only [go_sem]
   try (refine ⟨by decide, ?_⟩)
   unfold anyS
   intro i hi
   have hi : i = 0 := by revert hi; revert i; decide
   subst hi
   simp only [go_sem]
   try (refine ⟨by decide, ?_⟩)
   unfold anyS
   intro i hi
   have hi : i = 3 := by revert hi; revert i; decide
   exact zaB) : p := h
theorem zaW {p : Prop} (h : p := by
 obtain rfl := Option.some.inj h
 refine iL (aKn (aJ (aI 0 rfl aE) ?_))
 refine aJ (aI 1 rfl aE) ?_
 refine aJ (aI 2 rfl aE) (yaA ?_)
 refine aDZ (fn := Tryz.f7) (k := 3) (l2 := [0, 1, 2]) hF rfl rfl xAb rfl (uR xAa) ⟨eY (((0 : Int), (0 : Int), ()), ()), [0, 1, 2], ()⟩ (zA (((0 : Int), (0 : Int), ()), ())) rfl [.cell 2 27, .cell 3 29, .cell 4 3] rfl ?_ ?_
 ·(simp only [eY, go_sem]) <;> first | decide | trivial
 ·(simp only [eY, aR, nH, go_sem]) <;> first | decide | trivial | rfl | (simp; done)) : p := h
theorem zaX {p : Prop} (h : p := by
 refine aO (aS hF [0, 2] (yaA ?_))
 refine aQ (aO (aO (aUE hF rfl rfl rfl fun b hb => ?_)))
 refine aQ (dC rfl (fun hc => ?_) (fun hc => ?_))
 ·have hs := hb hc
  refine aO (aS hF [2] (yaA ?_))
  refine aQ (jS (fM (sA hF [.tmp 2] rfl rfl rfl ?_)))
  simp only [nH, aR, go_sem, hs]
  try trivial
 ·refine eJ (aQ (aO (dT hF [2] (yaA ?_))))
  refine ⟨by omega, ?_⟩
  refine aQ (jS (sA hF [.tmp 2] rfl rfl rfl ?_))
  simp only [nH, aR, go_sem]
  try trivial) : p := h
theorem zaY {p : Prop} (h : p := by
 refine dY h (fun hc h => ?_) fun hc h => ?_
 ·refine aD h fun g0 h => ?_
  refine aD h fun g1 h => (yaE ?_)
  refine ⟨fun hc => ?_, fun hc => ?_⟩
  ·replace h := gB zAC h
   replace h := yaG (hE4 _ (aA h))
   exact zaD
  ·replace h := gC zAC h
   refine aD h fun g0 h => ?_
   try simp only [I64, I32] at g0
   repeat (refine ⟨zAB, ?_⟩)
   replace h := hA4 _ (aA h)
   exact zaJ
 ·replace h := yaG (hE4 _ (aA h))
  exact zaD) : p := h
theorem zaZ {p : Prop} (h : p := by
 refine gR (dP hF [] rfl rfl rfl rfl rfl rfl ?_)
 simp only [aR, jT, jL, go_sem]
 try decide) : p := h
theorem zaa {p : Prop} (h : p := by
 simp only [hv, go_sem]
 repeat (refine ⟨zAB, ?_⟩)
 obtain rfl := aL h
 exact zaG) : p := h
theorem zab {p : Prop} (h : p := by
 skip
 unfold anyS
 intro i hi
 have hi : i = 2 ∨ i = 3 := by revert hi; revert i; decide
 rcases hi with rfl | rfl
 ·simp only [go_sem]
  skip
  unfold anyS
  intro i hi
  have hi : i = 3 := by revert hi; revert i; decide
  exact zaK
 ·simp only [go_sem]
  skip
  unfold anyS
  intro i hi
  have hi : i = 2 := by revert hi; revert i; decide
  exact zaK) : p := h
theorem zac {p : Prop} (h : p := by
 simp only [go_sem]
 (repeat' apply And.intro) <;> try (first | trivial | rfl | with_reducible assumption | omega | (intros; first | with_reducible assumption | omega) | (simp; done) | (simp at *; omega))
 replace h := pD h hq
 try simp only [go_sem]
 replace h := yaG (hE2 _ (aA h))
 obtain rfl := aL h
 refine bF [0] rfl rfl (yaB ?_)
 refine aJ (aI 0 rfl aE) ?_
 refine aZ rfl rfl rfl rfl) : p := h
theorem zad {p : Prop} (h : p := by
 refine dP hF [] rfl rfl rfl rfl rfl rfl ?_
 exact zaC) : p := h
theorem zae {p : Prop} (h : p := by
 simp only [hv, go_sem]
 obtain rfl := aL h
 refine kV hF [.cell 2 40] [0] rfl rfl rfl rfl rfl rfl rfl rfl rfl ?_
 exact zaC) : p := h
theorem zaf {p : Prop} (h : p := by
 refine aJ (aI 1 rfl aE) (yaA ?_)
 refine bF [0, 1] rfl rfl (yaB ?_)
 refine aZ rfl rfl rfl rfl) : p := h
theorem zag {p : Prop} (h : p := by
 refine ⟨hq, ?_⟩
 refine iL ?_
 refine aDZ (fn := Tryz.f154) (k := 2) (l2 := [0, 1]) hF' rfl rfl xAb rfl (uR xAa) ⟨qQ q, [0, 1], ((false, ([] : List Nat), (0 : Int), ()), 0)⟩ (aJr q) rfl [.cell 2 119, .cell 3 3] rfl ?_ ?_
 ·(simp only [qQ, go_sem]) <;> first | decide | trivial
 ·(simp only [qQ, aR, nH, go_sem]) <;> first | decide | trivial) : p := h
theorem zah {p : Prop} (h : p := by
 have h := qL zAC h
 refine aO (aS hF [2] (yaA ?_))
 obtain rfl := Option.some.inj h
 refine aQ (jS (pS (fM (sA hF [.tmp 2] rfl rfl rfl ?_))))
 exact zaQ) : p := h
theorem zai {p : Prop} (h : p := by
 refine ⟨hq, ?_⟩
 refine aQ (jS ?_)
 refine aRh (fn := Tryz.f154) (k := 2) (l2 := [0, 1]) hF' rfl rfl xAb rfl (uR xAa) ⟨qP, [0, 1], (q, 0)⟩ aJq rfl [.cell 2 119, .cell 3 3] rfl ?_ ?_
 ·(simp only [qP, go_sem]) <;> first | decide | trivial
 ·(simp only [qP, aR, nH, go_sem]) <;> first | decide | trivial) : p := h
theorem zaj {p : Prop} (h : p := by
 exact aU _ h rfl xAe) : p := h
theorem zak {p : Prop} (h : p := by
 simp only [hv, go_sem]
 repeat (refine ⟨zAB, ?_⟩)
 obtain rfl := aL h
 refine dP hF [.tmp 2, .tmp 3] rfl rfl rfl rfl rfl rfl ?_
 exact zaC) : p := h
theorem zal {p : Prop} (h : p := by
 exact aH hV [.tmp 2, .tmp 3, .tmp 4] rfl rfl rfl (aA h) xAd) : p := h
theorem zam {p : Prop} (h : p := by
 try simp only [hv, go_sem]
 exact zaD) : p := h
theorem zan {p : Prop} (h : p := by
 simp only [hv, go_sem]
 obtain rfl := aL h
 exact zaG) : p := h
theorem zao {p : Prop} (h : p := by
 exact aU _ h rfl (by (try simp only [xA, eV, true_or, and_self, go_sem]) <;> (repeat' apply And.intro) <;> first | rfl | (left; rfl) | (right; rfl) | (left; simp only [go_sem]; done) | (right; simp only [go_sem]; done) | (simp; done) | (simp only [*]; done) | omega)) : p := h
theorem zap {p : Prop} (h : p := by
 obtain rfl := aL h
 refine dP hF [.tmp 2] rfl rfl rfl rfl rfl rfl ?_
 exact zaC) : p := h
theorem zaq {p : Prop} (h : p := by
 refine gR (dP hF [] rfl rfl rfl rfl rfl rfl ?_)
 exact zaC) : p := h
theorem zar {p : Prop} (h : p := by
 simp only [go_sem]
 refine aO (aS hF [0, 1, 2, 3, 10] (yaA ?_))
 refine aQ (dC rfl (fun hc => absurd hc xAb) (fun hc => ?_))
 refine eJ ?_
 refine iI [0, 1, 2] rfl rfl (yaB ?_)
 exact zaZ) : p := h
theorem zas {p : Prop} (h : p := by
 replace h := hA2 _ (aA h)
 exact zaJ) : p := h
theorem zat {p : Prop} (h : p := by
 obtain rfl := aL h
 refine kV hF [.cell 3 119] [] rfl rfl rfl rfl rfl rfl rfl rfl rfl ?_
 exact zaC) : p := h
theorem zau {p : Prop} (h : p := by
 obtain rfl := aL h
 refine kV hF [.cell 8 40] [0] rfl rfl rfl rfl rfl rfl rfl rfl rfl ?_
 exact zaC) : p := h
theorem zav {p : Prop} (h : p := by
 simp only [hv, go_sem]
 exact zaP) : p := h
theorem zaw {p : Prop} (h : p := by
 refine aGq h (fun hc h => ?_) fun hc h => ?_
 ·exact aH hV [.tmp 2] rfl rfl rfl (aA h) xAd
 ·exact aH hV [.tmp 2] rfl rfl rfl (aA h) xAd) : p := h
theorem zAA {p : Prop} (h : p := by first | with_reducible assumption | omega | (intros; first | with_reducible assumption | omega) | (simp only [go_sem] at *; first | with_reducible assumption | omega) | (intro _; exact ⟨rfl, by decide⟩) | (intro _; refine (?_ : _ = aK _); rfl) | (refine (?_ : _ = aK _); rfl) | exact ⟨rfl, rfl⟩ | decide) : p := h
theorem zAB {p : Prop} (h : p := by first | with_reducible assumption | omega | (intros; first | with_reducible assumption | omega) | (intro _; exact ⟨rfl, by decide⟩) | (intro _; refine (?_ : _ = aK _); rfl) | (refine (?_ : _ = aK _); rfl) | exact ⟨rfl, rfl⟩ | decide) : p := h
theorem zAC {p : Prop} (h : p := by first | exact hc | omega | (simpa using hc) | (simp at hc ⊢; omega)) : p := h
theorem zAD {p : Prop} (h : p := by first | with_reducible assumption | omega) : p := h
theorem zAE {p : Prop} (h : p := by first | with_reducible assumption | omega | (intros; first | with_reducible assumption | omega) | (simp only [go_sem] at *; first | with_reducible assumption | omega) | (intro _; exact ⟨rfl, by decide⟩) | (intro _; refine (?_ : _ = aK _); rfl) | (refine (?_ : _ = aK _); rfl) | exact ⟨rfl, rfl⟩ | decide | ((repeat' apply And.intro) <;> first | assumption | rfl | omega) | fail) : p := h
theorem zAF {p : Prop} (h : p := by first | with_reducible assumption | omega | (intros; first | with_reducible assumption | omega) | (intro _; exact ⟨rfl, by decide⟩) | (intro _; refine (?_ : _ = aK _); rfl) | (refine (?_ : _ = aK _); rfl) | exact ⟨rfl, rfl⟩ | (intro q0; (try have e0 := g0 (by first | exact q0 | omega | (simpa using q0))); first | assumption | omega) | decide) : p := h
theorem zAG {p : Prop} (h : p := by first | exact q0 | omega | (simpa using q0)) : p := h
theorem zAH {p : Prop} (h : p := by first | with_reducible assumption | omega | (intros; first | with_reducible assumption | omega) | (intro _; exact ⟨rfl, by decide⟩) | (intro _; refine (?_ : _ = aK _); rfl) | (refine (?_ : _ = aK _); rfl) | exact ⟨rfl, rfl⟩ | (intro q0; (try have e0 := g0 zAG); (try have e1 := g1 zAG); first | assumption | omega) | decide) : p := h
theorem zAI {p : Prop} (h : p := by (try simp only [xA, eV, true_or, and_self, go_sem]) <;> (repeat' apply And.intro) <;> first | rfl | (left; rfl) | (right; rfl) | (left; simp only [go_sem]; done) | (right; simp only [go_sem]; done) | (simp; done) | (simp only [*]; done) | omega) : p := h
def aY0 : List Nat := [0, 1, 56, 2, 57, 49, 28, 3, 61, 58, 42, 50, 38, 29, 17, 4, 62, 47, 59, 36, 45, 43, 51, 22, 53, 39, 33, 30, 24, 18, 12, 5, 63, 55, 48, 27, 60, 41, 37, 16, 46, 35, 44, 21, 52, 32, 23, 11, 54, 26, 40, 15, 34, 20, 31, 10, 25, 14, 19, 9, 13, 8, 7, 6]
theorem bFf : aY0 = [0, 1, 56, 2, 57, 49, 28, 3, 61, 58, 42, 50, 38, 29, 17, 4, 62, 47, 59, 36, 45, 43, 51, 22, 53, 39, 33, 30, 24, 18, 12, 5, 63, 55, 48, 27, 60, 41, 37, 16, 46, 35, 44, 21, 52, 32, 23, 11, 54, 26, 40, 15, 34, 20, 31, 10, 25, 14, 19, 9, 13, 8, 7, 6] := rfl
def p10 : List Nat := [1, 10, 100, 1000, 10000, 100000, 1000000, 10000000, 100000000, 1000000000, 10000000000, 100000000000, 1000000000000, 10000000000000, 100000000000000, 1000000000000000, 10000000000000000, 100000000000000000, 1000000000000000000, 10000000000000000000]
theorem bGN : p10 = [1, 10, 100, 1000, 10000, 100000, 1000000, 10000000, 100000000, 1000000000, 10000000000, 100000000000, 1000000000000, 10000000000000, 100000000000000, 1000000000000000, 10000000000000000, 100000000000000000, 1000000000000000000, 10000000000000000000] := rfl
class Mx where
 v : Int
def GL [Mx] : Nat → AV
 | 8 => .roa (.arr 64 wq) aY0
 | 1 => .roa (.arr 20 qt) p10
 | 0 => .roa qc Mx.v
 | _ => .junk
theorem GL0 [Mx] : GL 8 = .roa (.arr 64 wq) aY0 := rfl
theorem GL3 [Mx] : GL 1 = .roa (.arr 20 qt) p10 := rfl
theorem GLm [Mx] : GL 0 = .roa qc Mx.v := rfl
attribute [go_sem] GLm GL0 GL3 mSpec
def tab : List (TypeId × Ty) := [(207, .clo 160 .unit), (2, .i .i64), (3, .i .i64), (4, .bool), (5, .u .u8), (9, .str), (21, .i .i32), (22, .sl .str), (24, .sl qD), (25, .sl qs), (27, .pair qc (.pair qc (.pair qc (.pair qc (.pair .str (.pair .str (.pair .str (.pair .str (.pair (.sl qD) (.pair (.sl qs) .unit)))))))))), (29, .pair qc qj), (38, .sl .expr), (40, .expr), (45, .pair wc .unit), (53, .pair qc (.pair qc wj)), (59, .sl qp), (60, .sl qv), (61, .sl qr), (63, .pair .str (.pair (.sl qp) (.pair (.sl qv) (.pair wi (.pair (.sl qr) .unit))))), (69, .pair .str (.pair .str qf)), (72, .pair .str wj), (74, .pair .str (.pair qf (.pair .expr .unit))), (76, .pair .str (.pair .expr .unit)), (78, .nilp), (79, .sl wq), (81, .pair .nilp (.pair (.sl wq) .unit)), (83, .nili), (91, .pair .str (.pair qf .unit)), (93, .pair qc .unit), (97, .pair .str wc), (102, .arr 256 (.bool)), (116, .sl qo), (117, .sl qt), (119, .pair .bool (.pair we qj)), (148, .arr 2 qc), (165, .u .u64), (170, .sl wi), (179, .u .u64), (187, .nilf), (216, .arr 24 wq), (220, .u .u32), (224, .i .i64), (231, .pair qc .unit), (235, .arr 20 qt), (236, .arr 65 wq), (239, .arr 256 wq), (241, .pair wq w5), (242, .arr 16 (.pair wq w5)), (254, .pair .str .unit), (255, .arr 64 wq), (256, .arr 32 wq)]
def elT : TypeId → TypeId
 | 22 => 9
 | 24 => 63
 | 25 => 69
 | 38 => 40
 | 59 => 74
 | 60 => 91
 | 61 => 76
 | 79 => 5
 | 116 => 119
 | 117 => 165
 | 170 => 22
 | _ => 0
def mpT : TypeId → Option (TypeId × TypeId)
 | 110 => some (9, 3)
 | 133 => some (9, 4)
 | _ => none
theorem aXs : lP Tryz.prog (aKH tab) := bBP xAa
theorem bHq : ∀ t b, aKH tab t = some (.sl b) → Tryz.prog.underlying t = some (.slice (elT t)) := bEI xAa
theorem bHr : ∀ t k e, mpT t = some (k, e) → Tryz.prog.underlying t = some (.map k e) := by
 intro t k e h
 unfold mpT at h
 split at h
 ·cases h; rfl
 ·cases h; rfl
 ·cases h
def TM : Tab := aKH tab
def EM [Mx] (l : List (FuncId × aG)) : Env := ⟨TM, GL, fun f _ => gam l f, elT, mpT, fun _ => none, fun _ => false⟩
def dmT : TypeId → Option Mk
 | 22 => some .no
 | 24 => some qg
 | 25 => some .no
 | 59 => some .no
 | 60 => some .no
 | 61 => some .no
 | _ => none
def dzT : TypeId → Bool
 | 27 => true
 | 63 => true
 | _ => false
def EX [Mx] (l : List (FuncId × aG)) : Env := ⟨TM, GL, fun f _ => gam l f, elT, mpT, dmT, dzT⟩
theorem bHO [Mx] (l : List (FuncId × aG)) (t : TypeId) : (EM l).T t = TM t := rfl
theorem bHP [Mx] (l : List (FuncId × aG)) (t : Nat) : (EM l).G t = GL t := rfl
theorem bHQ [Mx] (l : List (FuncId × aG)) (f : FuncId) (vs : List AV) : (EM l).Γ f vs = gam l f := rfl
theorem bHs [Mx] (l : List (FuncId × aG)) (t : TypeId) : (EM l).el t = elT t := rfl
theorem bHt [Mx] (l : List (FuncId × aG)) (t : TypeId) : (EM l).mp t = mpT t := rfl
theorem bC [Mx] {l : List (FuncId × aG)} (h : bE Tryz.prog GL l) : iA Tryz.prog (EM l) := aW6 aXs bHq bHr h
theorem mix : Tryz.prog.follows .mixedOrders = true := by kernel_rfl
theorem bHu [Mx] (l : List (FuncId × aG)) (t : TypeId) : (EM l).dm t = none := rfl
theorem bHv [Mx] (l : List (FuncId × aG)) (t : TypeId) : (EM l).dz t = false := rfl
theorem bHR [Mx] (l : List (FuncId × aG)) (t : TypeId) : (EX l).T t = TM t := rfl
theorem bHS [Mx] (l : List (FuncId × aG)) (t : Nat) : (EX l).G t = GL t := rfl
theorem bHT [Mx] (l : List (FuncId × aG)) (f : FuncId) (vs : List AV) : (EX l).Γ f vs = gam l f := rfl
theorem bHw [Mx] (l : List (FuncId × aG)) (t : TypeId) : (EX l).el t = elT t := rfl
theorem bHx [Mx] (l : List (FuncId × aG)) (t : TypeId) : (EX l).mp t = mpT t := rfl
theorem bHy [Mx] (l : List (FuncId × aG)) (t : TypeId) : (EX l).dm t = dmT t := rfl
theorem bHz [Mx] (l : List (FuncId × aG)) (t : TypeId) : (EX l).dz t = dzT t := rfl
theorem aXt [Mx] {l : List (FuncId × aG)} (h : bE Tryz.prog GL l) : iA Tryz.prog (EX l) := aW6 aXs bHq bHr h
attribute [go_sem] bHu bHv bHR bHS bHT bHw bHx bHy bHz dmT dzT
theorem T2 : TM 2 = some qc := rfl
theorem T3 : TM 3 = some qc := rfl
theorem T4 : TM 4 = some (.bool) := rfl
theorem T5 : TM 5 = some wq := rfl
theorem T9 : TM 9 = some (.str) := rfl
theorem T21 : TM 21 = some (.i .i32) := rfl
theorem T22 : TM 22 = some wi := rfl
theorem T24 : TM 24 = some (.sl qD) := rfl
theorem T25 : TM 25 = some (.sl qs) := rfl
theorem T27 : TM 27 = some qh := rfl
theorem T29 : TM 29 = some wc := rfl
theorem T38 : TM 38 = some (.sl .expr) := rfl
theorem T40 : TM 40 = some (.expr) := rfl
theorem T45 : TM 45 = some wm := rfl
theorem T53 : TM 53 = some qi := rfl
theorem T59 : TM 59 = some (.sl qp) := rfl
theorem T60 : TM 60 = some (.sl qv) := rfl
theorem T61 : TM 61 = some (.sl qr) := rfl
theorem T63 : TM 63 = some qD := rfl
theorem T69 : TM 69 = some qs := rfl
theorem T72 : TM 72 = some qf := rfl
theorem T74 : TM 74 = some qp := rfl
theorem T76 : TM 76 = some qr := rfl
theorem T78 : TM 78 = some (.nilp) := rfl
theorem T79 : TM 79 = some (.sl wq) := rfl
theorem T81 : TM 81 = some (.pair .nilp (.pair (.sl wq) .unit)) := rfl
theorem T83 : TM 83 = some (.nili) := rfl
theorem T91 : TM 91 = some qv := rfl
theorem T93 : TM 93 = some qj := rfl
theorem T97 : TM 97 = some qq := rfl
theorem bHU : TM 102 = some (.arr 256 (.bool)) := rfl
theorem bHV : TM 116 = some (.sl qo) := rfl
theorem bHW : TM 117 = some we := rfl
theorem bHX : TM 119 = some qo := rfl
theorem bHY : TM 148 = some ws := rfl
theorem bHZ : TM 165 = some qt := rfl
theorem bH0 : TM 170 = some (.sl wi) := rfl
theorem bH1 : TM 179 = some qt := rfl
theorem bH2 : TM 187 = some (.nilf) := rfl
theorem bH3 : TM 216 = some (.arr 24 wq) := rfl
theorem bH4 : TM 220 = some (.u .u32) := rfl
theorem bH5 : TM 224 = some qc := rfl
theorem bH6 : TM 231 = some qj := rfl
theorem bH7 : TM 235 = some (.arr 20 qt) := rfl
theorem bH8 : TM 236 = some (.arr 65 wq) := rfl
theorem bH9 : TM 239 = some (.arr 256 wq) := rfl
theorem bIa : TM 241 = some (.pair wq w5) := rfl
theorem bIb : TM 242 = some (.arr 16 (.pair wq w5)) := rfl
theorem bIc : TM 254 = some wj := rfl
theorem bId : TM 255 = some (.arr 64 wq) := rfl
theorem bIe : TM 256 = some (.arr 32 wq) := rfl
theorem bIf : TM 207 = some (.clo 160 .unit) := rfl
attribute [go_sem] bHO bHP bHQ bHs bHt elT mpT bIf T2 T3 T4 T5 T9 T21 T22 T24 T25 T27 T29 T38 T40 T45 T53 T59 T60 T61 T63 T69 T72 T74 T76 T78 T79 T81 T83 T91 T93 T97 bHU bHV bHW bHX bHY bHZ bH0 bH1 bH2 bH3 bH4 bH5 bH6 bH7 bH8 bH9 bIa bIb bIc bId bIe
end
end Nu
end Go.Proofs
namespace Go.Proofs
open Go.Vc
set_option maxRecDepth 20000
namespace Nu
noncomputable section
def rE (x y c : Nat) : Nat × Nat × Unit := ((x + y + c) % 18446744073709551616, (x + y + c) / 18446744073709551616, ())
def aHo (x y c : Nat) : Nat × Nat × Unit := ((x + 18446744073709551616 - y - c) % 18446744073709551616, (if x < y + c then 1 else 0), ())
abbrev aEJ (x y c : Nat) : Prop := c ≤ 1
def aML : Ty := .pair qt wk
def qN : aG := ⟨aML, .tup wk, fun x => aEJ x.1 x.2.1 x.2.2.1, fun x => rE x.1 x.2.1 x.2.2.1⟩
attribute [go_sem] qN aML
def aMM : Ty := .pair qt wk
def aCB : aG := ⟨aMM, .tup wk, fun x => aEJ x.1 x.2.1 x.2.2.1, fun x => aHo x.1 x.2.1 x.2.2.1⟩
attribute [go_sem] aCB aMM
theorem aVz {w : World} {S : Nat → Prop} {x : Nat} {v : Value} (h : dE w S qt x v) : v = .int .u64 (x : Int) := by
 unfold dE at h
 rw [if_neg (by simp [Ty.isAgg])] at h
 simp only [bB, List.cons.injEq, and_true] at h
 exact h.1
theorem aSe {w : World} {S : Nat → Prop} {vs : List Value} {x : Nat × Nat × Nat × Unit} (h : qI w S (.pair qt wk) x vs) : vs = [.int .u64 (x.1 : Int), .int .u64 (x.2.1 : Int), .int .u64 (x.2.2.1 : Int)] := by
 obtain ⟨v1, r1, rfl, q, s, r, rfl, g, z, j, rfl, f, b⟩ := h
 rw [aVz q, aVz g, aVz f]
 have b : j = [] := b
 rw [b]
theorem bDc {w : World} {S : Nat → Prop} {x : Nat} (h : x < 18446744073709551616) : dE w S qt x (.int .u64 (x : Int)) := by
 unfold dE
 rw [if_neg (by simp [Ty.isAgg])]
 refine ⟨rfl, rfl, ?_⟩
 simp [IntKind.max, IntKind.signed, IntKind.bits]; omega
theorem aXu {w : World} {S : Nat → Prop} {x y : Nat} (f : x < 18446744073709551616) (b : y < 18446744073709551616) : qI w S wk (x, y, ()) [.int .u64 (x : Int), .int .u64 (y : Int)] :=
 ⟨_, _, rfl, bDc f, _, _, rfl, bDc b, rfl⟩
theorem wf_u64 {x : Nat} (h : (Ty.u .u64).wf x) : x < 18446744073709551616 := by
 simp only [Ty.wf, IntKind.max, IntKind.signed, IntKind.bits] at h
 simp at h; omega
def aSf : Array Value → Sem Value := fun args => do
 let (x, y, b) ← Extern.MathBitsCarry.three "Sub64" args
 pure (Extern.MathBitsCarry.pair ((x + Extern.MathBitsCarry.m64 - y - b) % Extern.MathBitsCarry.m64) (if x < y + b then 1 else 0))
theorem bBq {P : Program} (x y b : Nat) (hb : b ≤ 1) (w : World) :
  (aSf #[.int .u64 x, .int .u64 y, .int .u64 b]).run P w =
   .ok (.tuple #[.int .u64 (((x + 18446744073709551616 - y - b) % 18446744073709551616 : Nat) : Int), .int .u64 ((if x < y + b then 1 else 0 : Nat) : Int)]) w := by
 have : b = 0 ∨ b = 1 := by omega
 rcases this with rfl | rfl <;> rfl
theorem aFW [Mx] : NOK Tryz.prog GL 151 qN := by
 refine bCp fun w S r x f hp => ?_
 have hp : x.2.2.1 ≤ 1 := hp
 have j := aHc _ _ _ f
 obtain ⟨g, b, q, _⟩ := j
 have g := wf_u64 g
 have b := wf_u64 b
 rw [aSe f]
 refine ⟨[.int .u64 (((x.1 + x.2.1 + x.2.2.1) % 18446744073709551616 : Nat) : Int), .int .u64 (((x.1 + x.2.1 + x.2.2.1) / 18446744073709551616 : Nat) : Int)], ?_, aXu (by omega) (by omega)⟩
 rw [run_callFunc_extern Tryz.func151 xAa xAa xAa (e := add64Entry) xAa, run_add64 x.1 x.2.1 x.2.2.1 (by omega) (by omega) (by omega) (by omega)]
 simp only [Result.andThen]
 congr 5 <;> omega
theorem aTw [Mx] : NOK Tryz.prog GL 188 aCB := by
 refine bCp fun w S r x f hp => ?_
 have hp : x.2.2.1 ≤ 1 := hp
 have j := aHc _ _ _ f
 obtain ⟨g, b, q, _⟩ := j
 have g := wf_u64 g
 have b := wf_u64 b
 rw [aSe f]
 refine ⟨[.int .u64 (((x.1 + 18446744073709551616 - x.2.1 - x.2.2.1) % 18446744073709551616 : Nat) : Int), .int .u64 ((if x.1 < x.2.1 + x.2.2.1 then 1 else 0 : Nat) : Int)], ?_, aXu (by omega) (by split <;> omega)⟩
 rw [run_callFunc_extern Tryz.func188 xAa xAa xAa (e := aSf) xAa, bBq x.1 x.2.1 x.2.2.1 hp]
 rfl
abbrev bBr (s : List Nat) : Prop := s.length * 8 ≤ 140737488355328
def wK : Ty := .pair we .unit
def dH : aG := ⟨wK, .own 165 qt, fun x => bBr x.1, fun x => id x.1⟩
attribute [go_sem] dH wK
abbrev aB5 (F : Md) : List (FuncId × aG) := []
theorem aB6 [Mx] (F : Md) : bE Tryz.prog GL (aB5 F) := .nil
theorem pT [Mx] : FOK Tryz.prog GL 142 dH := by
 refine aYO (bC (aB6 none)) Tryz.func142 rfl xAa xAb fun w0 S x b hp => ?_
 have hF : tI (fr Tryz.prog (EM (aB5 none)) S w0 Tryz.f142.ntmps) := ⟨bC (aB6 none), mix⟩
 obtain ⟨(s : qa), u⟩ := x
 have hp : s.length * 8 ≤ 140737488355328 := hp
 simp only [bT, wK, dH]
 exact zaX
end
end Nu
end Go.Proofs
namespace Go.Proofs
open Go.Vc
namespace Nu
def nv : List Nat → Nat
 | [] => 0
 | x :: r => x + 18446744073709551616 * nv r
def lbF : Nat → Nat → List Nat
 | 0, _ => []
 | k + 1, n => if n = 0 then [] else n % 18446744073709551616 :: lbF k (n / 18446744073709551616)
def lb (n : Nat) : List Nat := lbF n n
theorem bDd : ∀ (k m n : Nat), n ≤ k → n ≤ m → lbF k n = lbF m n
 | 0, m, n, f, b => by
  obtain rfl : n = 0 := by omega
  cases m <;> rfl
 | k + 1, 0, n, f, b => by
  obtain rfl : n = 0 := by omega
  rfl
 | k + 1, m + 1, n, f, b => by
  rw [lbF, lbF]
  by_cases h : n = 0
  ·simp_all
  ·rw [if_neg h, if_neg h]
   have hd : n / 18446744073709551616 < n := Nat.div_lt_self (by omega) xAb
   rw [bDd k m (n / 18446744073709551616) (by omega) (by omega)]
def Lm (a : List Nat) : Prop := ∀ x ∈ a, x < 18446744073709551616
def Nrm (a : List Nat) : Prop := a.getLastD 1 ≠ 0
instance (a : List Nat) : Decidable (Nrm a) := inferInstanceAs (Decidable (_ ≠ _))
theorem aVA : nv [] = 0 := rfl
theorem tJ (x : Nat) (r : List Nat) : nv (x :: r) = x + 18446744073709551616 * nv r := rfl
theorem aCC : lb 0 = [] := rfl
theorem aOu {n : Nat} (h : n ≠ 0) : lb n = n % 18446744073709551616 :: lb (n / 18446744073709551616) := by
 obtain ⟨k, rfl⟩ : ∃ k, n = k + 1 := ⟨n - 1, by omega⟩
 have hd : (k + 1) / 18446744073709551616 < k + 1 := Nat.div_lt_self (by omega) xAb
 rw [lb, lbF, if_neg h, lb, bDd k ((k + 1) / 18446744073709551616) ((k + 1) / 18446744073709551616) (by omega) (Nat.le_refl _)]
theorem aBt (n : Nat) : nv (lb n) = n := by
 induction n using Nat.strongRecOn with
 | _ n b =>
  by_cases h : n = 0
  ·subst h; rfl
  grind [aOu, tJ, Nat.div_lt_self, Nat.mod_add_div]
theorem aKK (n : Nat) : Lm (lb n) := by
 induction n using Nat.strongRecOn with
 | _ n f =>
  by_cases h : n = 0
  ·subst h; rw [aCC]; intro x b; cases b
  ·rw [aOu h]
   intro x b
   rcases List.mem_cons.1 b with rfl | b
   ·omega
   ·exact f (n / 18446744073709551616) (Nat.div_lt_self (by omega) xAb) x b
theorem aY1 {n : Nat} : lb n = [] ↔ n = 0 := by
 constructor
 ·grind [Nat.eq_zero_or_pos, aOu]
 ·rintro rfl; rfl
theorem bAo : Nrm [] := by decide
theorem bDe {x : Nat} {r : List Nat} (h : Nrm r) (b : r = [] → x ≠ 0) : Nrm (x :: r) := by
 unfold Nrm at *
 grind
theorem aFX (n : Nat) : Nrm (lb n) := by
 induction n using Nat.strongRecOn with
 | _ n b =>
  by_cases h : n = 0
  ·grind [aCC, bAo]
  ·rw [aOu h]
   grind [bDe, Nat.div_lt_self, aY1, Nat.div_add_mod]
theorem bAp {x : Nat} {r : List Nat} (h : Lm (x :: r)) : x < 18446744073709551616 ∧ Lm r := ⟨h x (by simp), fun y b => h y (by simp [b])⟩
theorem bDf {a b : List Nat} (f : Lm a) (hb : Lm b) : Lm (a ++ b) := fun x g => (List.mem_append.1 g).elim (f x) (hb x)
theorem aSg {x y : Nat} {r : List Nat} (h : Nrm (x :: y :: r)) : Nrm (y :: r) := by
 grind [Nrm]
theorem aOv {a : List Nat} (h : Nrm a) (b : a ≠ []) : 0 < nv a := by
 induction a with
 | nil => simp_all
 | cons x r f =>
  rw [tJ]
  cases r with
  | nil => grind [Nrm, aVA]
  | cons y r =>
   grind [aSg, nv, Nat.mul_le_mul_left]
theorem bGd {a : List Nat} (j : Lm a) (q : Nrm a) : lb (nv a) = a := by
 induction a with
 | nil => rfl
 | cons x r s =>
  have z := bAp j
  have b : nv (x :: r) ≠ 0 := by grind [aOv]
  have g : nv (x :: r) % 18446744073709551616 = x := by grind [tJ, Nat.add_mul_mod_self_left, Nat.mod_eq_of_lt]
  have f : nv (x :: r) / 18446744073709551616 = nv r := by simp_all [tJ, Nat.add_mul_div_left, Nat.div_eq_of_lt, Nat.zero_add]
  rw [aOu b, g, f]
  cases r with
  | nil => rfl
  | cons y r => grind [aSg]
theorem aOw (a b : List Nat) : nv (a ++ b) = nv a + 18446744073709551616 ^ a.length * nv b := by
 induction a with
 | nil => simp [nv]
 | cons x r f =>
  rw [List.cons_append, tJ, tJ, f, List.length_cons, Nat.pow_succ, Nat.mul_add]
  grind
theorem sH {a : List Nat} (g : Lm a) : nv a < 18446744073709551616 ^ a.length := by
 induction a with
 | nil => simp [nv]
 | cons x r b =>
  have f := bAp g
  have := b f.2
  rw [tJ, List.length_cons, Nat.pow_succ]
  omega
theorem bAq {a : List Nat} (f : Nrm a) (b : a ≠ []) : 18446744073709551616 ^ (a.length - 1) ≤ nv a := by
 induction a with
 | nil => simp_all
 | cons x r g =>
  cases r with
  | nil => have := aOv f b; grind
  | cons y r =>
   have := g (aSg f) (by simp)
   rw [tJ]
   simp only [List.length_cons, Nat.add_sub_cancel] at this ⊢
   omega
theorem aDv {n k : Nat} : (lb n).length ≤ k ↔ n < 18446744073709551616 ^ k := by
 constructor
 ·intro h
  have := sH (aKK n)
  grind [aBt, Nat.lt_of_lt_of_le, Nat.pow_le_pow_right]
 ·intro h
  by_cases h0 : n = 0
  ·simp_all [aCC, Nat.zero_le]
  ·have b : lb n ≠ [] := fun e => h0 (aY1.1 e)
   have := bAq (aFX n) b
   rw [aBt] at this
   have f : 18446744073709551616 ^ ((lb n).length - 1) < 18446744073709551616 ^ k := Nat.lt_of_le_of_lt this h
   grind [Nat.pow_lt_pow_iff_right]
theorem aOx (n : Nat) : nv (List.replicate n 0) = 0 := by
 induction n with
 | zero => rfl
 | succ n b => rw [List.replicate_succ, tJ, b]
theorem aBu (a : List Nat) (k : Nat) : nv a = nv (a.take k) + 18446744073709551616 ^ (min k a.length) * nv (a.drop k) := by
 grind [aOw, List.take_append_drop, List.length_take]
theorem aFv {a : List Nat} (h : Lm a) (k : Nat) : Lm (a.take k) := fun x b => h x (List.mem_of_mem_take b)
theorem bFg {a : List Nat} (h : Lm a) (k : Nat) : Lm (a.drop k) := fun x b => h x (List.mem_of_mem_drop b)
theorem aMN {a : List Nat} (h : Lm a) (k : Nat) : nv (a.drop k) = nv a / 18446744073709551616 ^ k := by
 rcases Nat.lt_or_ge k a.length with b | b
 ·rw [aBu a k, Nat.min_eq_left (Nat.le_of_lt b), Nat.add_mul_div_left _ _ (Nat.pow_pos xAb), Nat.div_eq_of_lt, Nat.zero_add]
  have := sH (aFv h k)
  grind
 ·rw [List.drop_eq_nil_of_le b, aVA, Nat.div_eq_of_lt]
  grind [Nat.lt_of_lt_of_le, sH, Nat.pow_le_pow_right]
theorem bFh {a : List Nat} (h : Lm a) (k : Nat) : nv (a.take k) = nv a % 18446744073709551616 ^ k := by
 rcases Nat.lt_or_ge k a.length with b | b
 ·have g := aBu a k
  rw [Nat.min_eq_left (Nat.le_of_lt b)] at g
  have f := sH (aFv h k)
  rw [List.length_take, Nat.min_eq_left (Nat.le_of_lt b)] at f
  rw [g, Nat.add_mul_mod_self_left, Nat.mod_eq_of_lt f]
 ·rw [List.take_of_length_le b, Nat.mod_eq_of_lt]
  grind [Nat.lt_of_lt_of_le, sH, Nat.pow_le_pow_right]
theorem kK {a : List Nat} (h : Lm a) (i : Nat) : a.getD i 0 < 18446744073709551616 := by
 rw [List.getD_eq_getElem?_getD]
 cases e : a[i]? with
 | none => simp_all
 | some x => exact h x (List.mem_of_getElem? e)
theorem take_succ {a : List Nat} {k : Nat} (h : k < a.length) : a.take (k + 1) = a.take k ++ [a.getD k 0] := by
 simp_all
theorem yF {a : List Nat} {k : Nat} (h : k < a.length) : nv (a.take (k + 1)) = nv (a.take k) + 18446744073709551616 ^ k * a.getD k 0 := by
 rw [take_succ h, aOw, List.length_take, Nat.min_eq_left (Nat.le_of_lt h)]
 simp [nv]
theorem aFY {a : List Nat} {k v : Nat} (h : k < a.length) : nv (a.set k v) + 18446744073709551616 ^ k * a.getD k 0 = nv a + 18446744073709551616 ^ k * v := by
 induction a generalizing k with
 | nil => simp at h
 | cons x r b =>
  cases k with
  | zero => grind [nv]
  | succ k =>
   have := b (k := k) (by simp_all)
   simp only [List.set_cons_succ, tJ, List.getD_cons_succ, Nat.pow_succ]
   grind
theorem aDw {a : List Nat} (h : Lm a) (k : Nat) {v : Nat} (hv : v < 18446744073709551616) : Lm (a.set k v) := fun x b => by
 rcases List.mem_or_eq_of_mem_set b with b | rfl
 ·exact h x b
 omega
theorem aOy (n : Nat) : Lm (List.replicate n 0) := fun x b => by
 simp_all
theorem aEK {a : List Nat} (h : (Ty.sl qt).wf a) : Lm a := fun x b => by
 grind [Ty.wf, Go.IntKind.max, Go.IntKind.signed, Go.IntKind.bits]
theorem aY2 {a : List Nat} (h : (Ty.sl qt).wf a) : a.length ≤ 9223372036854775807 := h.1
theorem aLD {x : Nat} (h : (Ty.u .u64).wf x) : x < 18446744073709551616 := by
 grind [Ty.wf, Go.IntKind.max, Go.IntKind.signed, Go.IntKind.bits]
theorem wf_i64 {x : Int} (h : (Ty.i .i64).wf x) : -9223372036854775808 ≤ x ∧ x ≤ 9223372036854775807 := by
 grind [Ty.wf, aHd]
theorem bAr : lC .u64 = 18446744073709551616 := by rfl
theorem aPF (a b : Nat) : aG1 .u64 a b = a * b % 18446744073709551616 := by rw [aU4, bAr]
theorem aXv {a b : Nat} (f : a < 18446744073709551616) (hb : b ≤ a) : aIv .u64 a b = a - b := by
 grind [aJ7, bAr, Nat.add_mod_right, Nat.mod_eq_of_lt]
end Nu
end Go.Proofs
namespace Go.Proofs
open Go.Vc
set_option maxRecDepth 20000
namespace Nu
noncomputable section
theorem aF {α : Type} {p : Prop} [Decidable p] {k : Option α} {r : Option α} (hp : p) (h : k = r) : ck p k = r := (bCF hp).trans h
theorem aGr {α : Type} {p : Prop} [Decidable p] {x y r : α} (f : p → x = r) (b : ¬ p → y = r) : (if p then x else y) = r := by
 simp_all
theorem bP {α β : Type} {x : Option α} {a : α} {k : α → Option β} {r : Option β} (b : x = some a) (h : k a = r) : x.bind k = r := by simp_all
def bl (x : Nat) : Nat := if x = 0 then 0 else Nat.log2 x + 1
theorem aUI {x k : Nat} (h : x < 2 ^ k) : bl x ≤ k := by
 unfold bl
 split
 ·omega
 ·rename_i h0
  exact (Nat.log2_lt h0).2 h
theorem bDg (x : Nat) : x < 2 ^ bl x := by
 grind [bl, Nat.lt_log2_self]
theorem bDh {x k : Nat} (h : 2 ^ k ≤ x) : k < bl x := by
 have h0 : x ≠ 0 := by grind
 unfold bl
 rw [if_neg h0]
 have := (Nat.le_log2 h0).2 h
 omega
theorem bHA {x k : Nat} (f : 2 ^ k ≤ x) (b : x < 2 ^ (k + 1)) : bl x = k + 1 := Nat.le_antisymm (aUI b) (bDh f)
theorem aY3 {x : Nat} (h : x ≠ 0) : 0 < bl x := bDh (k := 0) (by omega)
theorem aY4 {x : Nat} (h : x ≠ 0) : 2 ^ (bl x - 1) ≤ x := by
 rcases Nat.lt_or_ge x (2 ^ (bl x - 1)) with b | b
 ·have := aUI b; grind
 omega
theorem aMO {x k : Nat} (h : 2 ^ k ≤ x) : bl x = k + bl (x / 2 ^ k) := by
 have b := Nat.two_pow_pos k
 have j : 0 < x / 2 ^ k := Nat.div_pos h b
 obtain ⟨m, hm⟩ : ∃ m, bl (x / 2 ^ k) = m + 1 := ⟨bl (x / 2 ^ k) - 1, by
  have := bDh (x := x / 2 ^ k) (k := 0) j; omega⟩
 have f := bDg (x / 2 ^ k)
 have g := aY4 (x := x / 2 ^ k) (by omega)
 rw [hm] at f g ⊢
 refine bHA (k := k + m) ?_ ?_
 ·grind [Nat.pow_add, Nat.mul_comm, Nat.le_div_iff_mul_le]
 simp_all [Nat.add_assoc, Nat.pow_add, Nat.mul_comm, Nat.div_lt_iff_lt_mul]
def aCt : ByteArray := ⟨⟨0 :: 1 :: 2 :: 2 :: 3 :: 3 :: 3 :: 3 :: 4 :: 4 :: 4 :: 4 :: 4 :: 4 :: 4 :: 4 :: 5 :: 5 :: 5 :: 5 :: 5 :: 5 :: 5 :: 5 :: 5 :: 5 :: 5 :: 5 :: 5 :: 5 :: 5 :: 5 :: 6 :: 6 :: 6 :: 6 :: 6 :: 6 :: 6 :: 6 :: 6 :: 6 :: 6 :: 6 :: 6 :: 6 :: 6 :: 6 :: 6 :: 6 :: 6 :: 6 :: 6 :: 6 :: 6 :: 6 :: 6 :: 6 :: 6 :: 6 :: 6 :: 6 :: 6 :: 6 :: 7 :: 7 :: 7 :: 7 :: 7 :: 7 :: 7 :: 7 :: 7 :: 7 :: 7 :: 7 :: 7 :: 7 :: 7 :: 7 :: 7 :: 7 :: 7 :: 7 :: 7 :: 7 :: 7 :: 7 :: 7 :: 7 :: 7 :: 7 :: 7 :: 7 :: 7 :: 7 :: 7 :: 7 :: 7 :: 7 :: 7 :: 7 :: 7 :: 7 :: 7 :: 7 :: 7 :: 7 :: 7 :: 7 :: 7 :: 7 :: 7 :: 7 :: 7 :: 7 :: 7 :: 7 :: 7 :: 7 :: 7 :: 7 :: 7 :: 7 :: 7 :: 7 :: 7 :: 7 :: 8 :: 8 :: 8 :: 8 :: 8 :: 8 :: 8 :: 8 :: 8 :: 8 :: 8 :: 8 :: 8 :: 8 :: 8 :: 8 :: 8 :: 8 :: 8 :: 8 :: 8 :: 8 :: 8 :: 8 :: 8 :: 8 :: 8 :: 8 :: 8 :: 8 :: 8 :: 8 :: 8 :: 8 :: 8 :: 8 :: 8 :: 8 :: 8 :: 8 :: 8 :: 8 :: 8 :: 8 :: 8 :: 8 :: 8 :: 8 :: 8 :: 8 :: 8 :: 8 :: 8 :: 8 :: 8 :: 8 :: 8 :: 8 :: 8 :: 8 :: 8 :: 8 :: 8 :: 8 :: 8 :: 8 :: 8 :: 8 :: 8 :: 8 :: 8 :: 8 :: 8 :: 8 :: 8 :: 8 :: 8 :: 8 :: 8 :: 8 :: 8 :: 8 :: 8 :: 8 :: 8 :: 8 :: 8 :: 8 :: 8 :: 8 :: 8 :: 8 :: 8 :: 8 :: 8 :: 8 :: 8 :: 8 :: 8 :: 8 :: 8 :: 8 :: 8 :: 8 :: 8 :: 8 :: 8 :: 8 :: 8 :: 8 :: 8 :: 8 :: 8 :: 8 :: 8 :: 8 :: 8 :: 8 :: 8 :: 8 :: 8 :: 8 :: 8 :: 8 :: 8 :: 8 :: 8 :: 8 :: []⟩⟩
@[go_sem]theorem aTx : (⟨⟨0 :: 1 :: 2 :: 2 :: 3 :: 3 :: 3 :: 3 :: 4 :: 4 :: 4 :: 4 :: 4 :: 4 :: 4 :: 4 :: 5 :: 5 :: 5 :: 5 :: 5 :: 5 :: 5 :: 5 :: 5 :: 5 :: 5 :: 5 :: 5 :: 5 :: 5 :: 5 :: 6 :: 6 :: 6 :: 6 :: 6 :: 6 :: 6 :: 6 :: 6 :: 6 :: 6 :: 6 :: 6 :: 6 :: 6 :: 6 :: 6 :: 6 :: 6 :: 6 :: 6 :: 6 :: 6 :: 6 :: 6 :: 6 :: 6 :: 6 :: 6 :: 6 :: 6 :: 6 :: 7 :: 7 :: 7 :: 7 :: 7 :: 7 :: 7 :: 7 :: 7 :: 7 :: 7 :: 7 :: 7 :: 7 :: 7 :: 7 :: 7 :: 7 :: 7 :: 7 :: 7 :: 7 :: 7 :: 7 :: 7 :: 7 :: 7 :: 7 :: 7 :: 7 :: 7 :: 7 :: 7 :: 7 :: 7 :: 7 :: 7 :: 7 :: 7 :: 7 :: 7 :: 7 :: 7 :: 7 :: 7 :: 7 :: 7 :: 7 :: 7 :: 7 :: 7 :: 7 :: 7 :: 7 :: 7 :: 7 :: 7 :: 7 :: 7 :: 7 :: 7 :: 7 :: 7 :: 7 :: 8 :: 8 :: 8 :: 8 :: 8 :: 8 :: 8 :: 8 :: 8 :: 8 :: 8 :: 8 :: 8 :: 8 :: 8 :: 8 :: 8 :: 8 :: 8 :: 8 :: 8 :: 8 :: 8 :: 8 :: 8 :: 8 :: 8 :: 8 :: 8 :: 8 :: 8 :: 8 :: 8 :: 8 :: 8 :: 8 :: 8 :: 8 :: 8 :: 8 :: 8 :: 8 :: 8 :: 8 :: 8 :: 8 :: 8 :: 8 :: 8 :: 8 :: 8 :: 8 :: 8 :: 8 :: 8 :: 8 :: 8 :: 8 :: 8 :: 8 :: 8 :: 8 :: 8 :: 8 :: 8 :: 8 :: 8 :: 8 :: 8 :: 8 :: 8 :: 8 :: 8 :: 8 :: 8 :: 8 :: 8 :: 8 :: 8 :: 8 :: 8 :: 8 :: 8 :: 8 :: 8 :: 8 :: 8 :: 8 :: 8 :: 8 :: 8 :: 8 :: 8 :: 8 :: 8 :: 8 :: 8 :: 8 :: 8 :: 8 :: 8 :: 8 :: 8 :: 8 :: 8 :: 8 :: 8 :: 8 :: 8 :: 8 :: 8 :: 8 :: 8 :: 8 :: 8 :: 8 :: 8 :: 8 :: 8 :: 8 :: 8 :: 8 :: 8 :: 8 :: 8 :: 8 :: 8 :: 8 :: []⟩⟩ : ByteArray) = aCt := rfl
def pE (F : Md) (b : Nat) (f : Int) : Option (Int) :=
 ck (0 ≤ (((b % 256) : Nat) : Int) ∧ (((b % 256) : Nat) : Int) < (((aV aCt).length : Nat) : Int)) (ck (I64 (f + ((((aV aCt).getD (b % 256) (0 : Nat)) : Nat) : Int))) (some (f + ((((aV aCt).getD (b % 256) (0 : Nat)) : Nat) : Int))))
def pF (F : Md) (b : Nat) (f : Int) : Option (Int) :=
 if (256 : Nat) ≤ b then ck (I64 (f + (8 : Int))) (pE F (b / (256 : Nat)) (f + (8 : Int))) else pE F b f
def pG (F : Md) (b : Nat) (f : Int) : Option (Int) :=
 if (65536 : Nat) ≤ b then ck (I64 (f + (16 : Int))) (pF F (b / (65536 : Nat)) (f + (16 : Int))) else pF F b f
def aBv (F : Md) (b : Nat) : Option Int :=
 if (4294967296 : Nat) ≤ b then pG F (b / (4294967296 : Nat)) (32 : Int) else pG F b (0 : Int)
def uS (x : Nat) : Int := (bl x : Int)
theorem bFi : (aV aCt).length = 256 ∧ ∀ y, y < 256 → (aV aCt).getD y 0 = bl y := by decide +kernel
theorem aXw {x : Nat} {n : Int} (b : x < 256) (h0 : 0 ≤ n) (q : n ≤ 1000) : pE none x n = some (n + bl x) := by
 obtain ⟨e1, f⟩ := bFi
 have g := f x b
 have j := aUI (show x < 2 ^ 8 from b)
 have hm : x % 256 = x := Nat.mod_eq_of_lt b
 unfold pE
 rw [hm, g]
 refine aF (by omega) (aF (by omega) rfl)
theorem aXx {x : Nat} {n : Int} (b : x < 65536) (h0 : 0 ≤ n) (f : n ≤ 900) : pF none x n = some (n + bl x) := by
 unfold pF
 refine aGr (fun h => aF (by omega) ?_) (fun h => aXw (by omega) h0 (by omega))
 rw [aXw (by omega) (by omega) (by omega), aMO (x := x) (k := 8) h]
 grind
theorem aXy {x : Nat} {n : Int} (b : x < 4294967296) (h0 : 0 ≤ n) (f : n ≤ 800) : pG none x n = some (n + bl x) := by
 unfold pG
 refine aGr (fun h => aF (by omega) ?_) (fun h => aXx (by omega) h0 (by omega))
 rw [aXx (by omega) (by omega) (by omega), aMO (x := x) (k := 16) h]
 grind
theorem aSh (x : Nat) (w : (Ty.u .u64).wf x) : aBv none x = some (uS x) := by
 have b := aLD w
 unfold aBv
 refine aGr (fun h => ?_) (fun h => ?_)
 ·rw [aXy (by omega) (by omega) (by omega), uS, aMO (x := x) (k := 32) h]
  rfl
 grind [aXy, uS]
theorem bDi {x : Nat} (b : x < 18446744073709551616) : bl x ≤ 64 := aUI b
def nI (F : Md) (b : Nat) : Option Int :=
 ck (I64 ((64 : Int) - (uS b))) (some ((64 : Int) - (uS b)))
def aB (x : Nat) : Int := 64 - (bl x : Int)
theorem aGs (x : Nat) (w : (Ty.u .u64).wf x) : nI none x = some (aB x) := by
 have := bDi (aLD w)
 unfold nI uS aB
 exact aF (by omega) rfl
def mH (F : Md) (b : Nat) : Option Int :=
 if b = (0 : Nat) then some (64 : Int) else ck (0 ≤ ((((mulM F .u64 (b &&& (aMJ F .u64 b)) (285870213051353865 : Nat)) / (288230376151711744 : Nat)) : Nat) : Int) ∧ ((((mulM F .u64 (b &&& (aMJ F .u64 b)) (285870213051353865 : Nat)) / (288230376151711744 : Nat)) : Nat) : Int) < (64 : Int)) (some (((aY0.getD ((mulM F .u64 (b &&& (aMJ F .u64 b)) (285870213051353865 : Nat)) / (288230376151711744 : Nat)) (0 : Nat)) : Nat) : Int))
def jU (x : Nat) : Int := (Lib.ctz 64 x : Int)
theorem bFj : aY0 = Lib.deBruijn64tab := by rfl
theorem bHB {x : Nat} (b : x < 18446744073709551616) (hc : ¬ x = 0) : aWF .u64 x = 18446744073709551616 - x := by
 rw [aU5, bAr, Nat.zero_add]
 omega
theorem bGO {x : Nat} (b : x < 18446744073709551616) (hc : ¬ x = 0) : aG1 .u64 (x &&& aWF .u64 x) 285870213051353865 / 288230376151711744 < 64 ∧ aY0.getD (aG1 .u64 (x &&& aWF .u64 x) 285870213051353865 / 288230376151711744) 0 = Lib.ctz 64 x := by
 obtain ⟨f, j⟩ := Lib.lowest_bit 64 x hc b
 have g : (2 : Nat) ^ 64 = 18446744073709551616 := by decide
 rw [g] at f
 rw [aPF, bHB b hc, f, bFj]
 exact Lib.deBruijn64_at _ j
theorem aFZ (x : Nat) (w : (Ty.u .u64).wf x) : mH none x = some (jU x) := by
 unfold mH jU
 try simp only [uI, mulM, aMJ]
 refine aGr (fun h => ?_) (fun h => ?_)
 ·subst h; rfl
 ·obtain ⟨f, b⟩ := bGO (aLD w) h
  rw [b]
  exact aF ⟨Int.natCast_nonneg _, Int.ofNat_lt.2 f⟩ rfl
def aBw (F : Md) (b : Nat) (f : Nat) : Option (Nat × (Nat × Unit)) :=
 some ((((((mulM F .u64 (b / (4294967296 : Nat)) (f / (4294967296 : Nat))) + ((((mulM F .u64 (b / (4294967296 : Nat)) (f &&& (4294967295 : Nat))) + ((mulM F .u64 (b &&& (4294967295 : Nat)) (f &&& (4294967295 : Nat))) / (4294967296 : Nat))) % 18446744073709551616) / (4294967296 : Nat))) % 18446744073709551616) + (((((((mulM F .u64 (b / (4294967296 : Nat)) (f &&& (4294967295 : Nat))) + ((mulM F .u64 (b &&& (4294967295 : Nat)) (f &&& (4294967295 : Nat))) / (4294967296 : Nat))) % 18446744073709551616) &&& (4294967295 : Nat)) + (mulM F .u64 (b &&& (4294967295 : Nat)) (f / (4294967296 : Nat)))) % 18446744073709551616) / (4294967296 : Nat))) % 18446744073709551616), (mulM F .u64 b f), ())
def dQ (x y : Nat) : Nat × Nat × Unit := (x * y / 18446744073709551616, x * y % 18446744073709551616, ())
theorem bGP (x : Nat) : x &&& 4294967295 = x % 4294967296 := Nat.and_two_pow_sub_one_eq_mod x 32
theorem bDj {x y : Nat} (I : x < 18446744073709551616) (U : y < 18446744073709551616) :
  ((x / 4294967296 * (y / 4294967296) % 18446744073709551616 + (x / 4294967296 * (y &&& 4294967295) % 18446744073709551616 + (x &&& 4294967295) * (y &&& 4294967295) % 18446744073709551616 / 4294967296) % 18446744073709551616 / 4294967296) % 18446744073709551616 +
     (((x / 4294967296 * (y &&& 4294967295) % 18446744073709551616 + (x &&& 4294967295) * (y &&& 4294967295) % 18446744073709551616 / 4294967296) % 18446744073709551616 &&& 4294967295) + (x &&& 4294967295) * (y / 4294967296) % 18446744073709551616) % 18446744073709551616 / 4294967296) % 18446744073709551616 = x * y / 18446744073709551616 := by
 simp only [bGP]
 have f : x / 4294967296 ≤ 4294967295 := by omega
 have j : x % 4294967296 ≤ 4294967295 := by omega
 have b1 : y / 4294967296 ≤ 4294967295 := by omega
 have g : y % 4294967296 ≤ 4294967295 := by omega
 have r := Nat.div_add_mod x 4294967296
 have q := Nat.div_add_mod y 4294967296
 generalize x / 4294967296 = a at *
 generalize x % 4294967296 = b at *
 generalize y / 4294967296 = c at *
 generalize y % 4294967296 = d at *
 subst r; subst q
 have e : (4294967296 * a + b) * (4294967296 * c + d) = a * c * 18446744073709551616 + (a * d + b * c) * 4294967296 + b * d := by
  grind
 rw [e]
 have z := Nat.mul_le_mul f b1
 have Y := Nat.mul_le_mul f g
 have O := Nat.mul_le_mul j b1
 have L := Nat.mul_le_mul j g
 generalize a * c = W at *
 generalize a * d = s at *
 generalize b * c = J at *
 generalize b * d = N at *
 omega
theorem aSi (x : Nat) (b : (Ty.u .u64).wf x) (y : Nat) (f : (Ty.u .u64).wf y) : aBw none x y = some (dQ x y) := by
 unfold aBw dQ
 try simp only [uI, mulM, aMJ]
 simp only [aPF]
 grind [bDj, aLD]
end
end Nu
end Go.Proofs
namespace Go.Proofs
open Go.Vc
set_option maxRecDepth 20000
namespace Nu
noncomputable section
abbrev Sz (a : List Nat) : Prop := a.length ≤ 1099511627776
abbrev pSz (a : List Nat) : Prop := Sz a
abbrev aQk (a b : List Nat) : Prop := Sz a ∧ Sz b
abbrev aXz (a b : List Nat) : Prop := Nrm a ∧ Nrm b
abbrev bAs (a : List Nat) : Prop := Nrm a ∧ Sz a
theorem aVB {a : List Nat} (h : 0 < a.length) : Nrm a ↔ a.getD (a.length - 1) 0 ≠ 0 := by
 unfold Nrm
 grind
def aCD (F : Md) (b : qa) : Option (qa ⊕ qa) :=
 ck (((0 : Int) < (b.length : Int)) → (I64 ((b.length : Int) - (1 : Int)))) (ck (((0 : Int) < (b.length : Int)) → (0 ≤ ((b.length : Int) - (1 : Int)) ∧ ((b.length : Int) - (1 : Int)) < (b.length : Int))) (if ((0 : Int) < (b.length : Int)) ∧ ((b.getD ((b.length : Int) - (1 : Int)).toNat (0 : Nat)) = (0 : Nat)) then ck (I64 ((b.length : Int) - (1 : Int))) (ck (0 ≤ ((b.length : Int) - (1 : Int)) ∧ ((b.length : Int) - (1 : Int)) ≤ (b.length : Int)) (some (.inl (List.take ((b.length : Int) - (1 : Int)).toNat b)))) else some (.inr b)))
def aEL (F : Md) (b : qa) : Option qa :=
 (dG F (fun d : qa => aCD F d) b).bind (fun e => some e)
def fA (a : List Nat) : List Nat := lb (nv a)
theorem aVC (a : List Nat) (w : (Ty.sl qt).wf a) : aEL none a = some (fA a) := by
 unfold aEL
 refine bP (aBq (I := fun d => Lm d ∧ d.length ≤ 9223372036854775807) (fun d => d.length) (fun d => lb (nv d)) ?_ a ⟨aEK w, aY2 w⟩) rfl
 intro d ⟨f, g⟩
 unfold aCD
 rcases Nat.eq_zero_or_pos d.length with h0 | h0
 ·right
  have e : d = [] := List.eq_nil_of_length_eq_zero h0
  simp_all [aF, if_neg, aVA, aCC]
 ·have e1 : (d.length : Int) - 1 = ((d.length - 1 : Nat) : Int) := by omega
  rw [e1, Int.toNat_natCast]
  by_cases b : d.getD (d.length - 1) 0 = 0
  ·left
   refine ⟨d.take (d.length - 1), aF (by omega) (aF (by omega) ?_), ⟨aFv f _, by grind⟩, by grind, ?_⟩
   ·rw [if_pos ⟨by omega, b⟩]
    exact aF (by omega) (aF (by omega) rfl)
   ·have := yF (a := d) (k := d.length - 1) (by omega)
    rw [b, show d.length - 1 + 1 = d.length from by omega, List.take_length] at this
    simp_all
  ·right
   refine aF (by omega) (aF (by omega) ?_)
   simp_all [if_neg, bGd, aVB]
def aGt (F : Md) (b : qa) : Option Bool :=
 ck (¬ ((b.length : Int) = (0 : Int)) → ((b.length : Int) ≤ (64 : Int)) → (I64 ((b.length : Int) - (1 : Int)))) (ck (¬ ((b.length : Int) = (0 : Int)) → ((b.length : Int) ≤ (64 : Int)) → (0 ≤ ((b.length : Int) - (1 : Int)) ∧ ((b.length : Int) - (1 : Int)) < (b.length : Int))) (some ((decide ((b.length : Int) = (0 : Int))) || ((decide ((b.length : Int) ≤ (64 : Int))) && (!(decide ((b.getD ((b.length : Int) - (1 : Int)).toNat (0 : Nat)) = (0 : Nat))))))))
def aGu (a : List Nat) : Bool := decide (a.length ≤ 64 ∧ Nrm a)
theorem aXA (a : List Nat) (w : (Ty.sl qt).wf a) : aGt none a = some (aGu a) := by
 have b := aY2 w
 unfold aGt aGu
 rcases Nat.eq_zero_or_pos a.length with h0 | h0
 ·have e : a = [] := List.eq_nil_of_length_eq_zero h0
  subst e
  rfl
 ·have e1 : (a.length : Int) - 1 = ((a.length - 1 : Nat) : Int) := by omega
  rw [e1, Int.toNat_natCast]
  refine aF (by omega) (aF (by omega) ?_)
  congr 1
  rw [Bool.eq_iff_iff]
  have := aVB h0
  grind
def aEM (F : Md) (b : Bool) : Option Int :=
 if b = true then some (-1 : Int) else some (1 : Int)
def aAG (b : Bool) : Int := if b = true then -1 else 1
theorem aVD (b : Bool) (w : Ty.bool.wf b) : aEM none b = some (aAG b) := by
 grind [aEM, aAG]
def xJ (F : Md) (g : qa) (f : qa) (b : Int) : Option ((Int) ⊕ ((Unit) ⊕ Int)) :=
 if (0 : Int) ≤ b then ck (0 ≤ b ∧ b < (g.length : Int)) (ck (0 ≤ b ∧ b < (f.length : Int)) (if ¬ ((g.getD (b.toNat) (0 : Nat)) = (f.getD (b.toNat) (0 : Nat))) then ck (0 ≤ b ∧ b < (g.length : Int)) (ck (0 ≤ b ∧ b < (f.length : Int)) (some (.inr (.inr (aAG (decide ((g.getD (b.toNat) (0 : Nat)) < (f.getD (b.toNat) (0 : Nat))))))))) else ck (I64 (b - (1 : Int))) (some (.inl (b - (1 : Int)))))) else some (.inr (.inl ()))
def aC2 (F : Md) (b : qa) (f : qa) : Option Int :=
 if ¬ ((b.length : Int) = (f.length : Int)) then some (aAG (decide ((b.length : Int) < (f.length : Int)))) else ck (I64 ((b.length : Int) - (1 : Int))) ((dG F (fun d : Int => xJ F b f d) ((b.length : Int) - (1 : Int))).bind (fun e => match e with | (.inl e) => some (0 : Int) | (.inr e) => some e))
def aY5 (x y : Nat) : Int := if x < y then -1 else if x = y then 0 else 1
def qO (a b : List Nat) : Int := aY5 (nv a) (nv b)
theorem aUJ {a b : List Nat} (f : Lm a) (hb : Nrm b) (h : a.length < b.length) : nv a < nv b := by
 have j := sH f
 have g := bAq hb (by grind)
 grind [Nat.lt_of_lt_of_le, Nat.le_trans, Nat.pow_le_pow_right]
theorem aTy (a : List Nat) (W : (Ty.sl qt).wf a) (b : List Nat) (Z : (Ty.sl qt).wf b) (hp : aXz a b) : aC2 none a b = some (qO a b) := by
 have la := aEK W
 have z := aEK Z
 have na := aY2 W
 unfold aC2 qO
 refine aGr (fun h => ?_) (fun h => ?_)
 ·unfold aAG aY5
  rcases Nat.lt_or_ge a.length b.length with Y | Y
  ·grind [aUJ]
  ·have N : b.length < a.length := by omega
   have := aUJ z hp.1 N
   grind
 ·have f : a.length = b.length := by omega
  refine aF (by omega) ?_
  have g := aBq (step := fun d : Int => xJ none a b d) (I := fun i => -1 ≤ i ∧ i < a.length ∧ nv (a.drop (i + 1).toNat) = nv (b.drop (i + 1).toNat)) (fun i => (i + 1).toNat)
   (fun i => if nv (a.take (i + 1).toNat) = nv (b.take (i + 1).toNat) then (.inl () : Unit ⊕ Int) else .inr (if nv (a.take (i + 1).toNat) < nv (b.take (i + 1).toNat) then -1 else 1)) ?_ ((a.length : Int) - 1) ⟨by omega, by omega, by grind [List.drop_eq_nil_of_le]⟩
  ·rw [show ((a.length : Int) - 1 + 1).toNat = a.length from by omega, List.take_length] at g
   rw [f, List.take_length] at g
   rw [f]
   refine bP g ?_
   grind [aY5, nv]
  ·intro i ⟨h1, h2, O⟩
   try dsimp only
   unfold xJ
   by_cases hi : 0 ≤ i
   ·have U : (i + 1).toNat = i.toNat + 1 := by omega
    have r : i.toNat < a.length := by omega
    have j : i.toNat < b.length := by omega
    rw [if_pos hi, U, yF r, yF j]
    have ta := sH (aFv la i.toNat)
    have tb := sH (aFv z i.toNat)
    rw [List.length_take, Nat.min_eq_left (by omega)] at ta tb
    by_cases s : a.getD i.toNat 0 = b.getD i.toNat 0
    ·left
     refine ⟨i - 1, aF (by omega) (aF (by omega) ?_), ⟨by omega, by omega, ?_⟩, by omega, ?_⟩
     ·rw [if_neg (by omega)]
      exact aF (by omega) rfl
     ·rw [show (i - 1 + 1).toNat = i.toNat from by omega, List.drop_eq_getElem_cons r, List.drop_eq_getElem_cons j, tJ, tJ]
      rw [U] at O
      rw [O]
      rw [List.getD_eq_getElem?_getD, List.getD_eq_getElem?_getD, List.getElem?_eq_getElem r, List.getElem?_eq_getElem j] at s
      have s : a[i.toNat] = b[i.toNat] := s
      rw [s]
     simp_all
    ·right
     refine aF (by omega) (aF (by omega) ?_)
     rw [if_pos s]
     refine aF (by omega) (aF (by omega) ?_)
     unfold aAG
     generalize a.getD i.toNat 0 = x at *
     generalize b.getD i.toNat 0 = y at *
     generalize nv (a.take i.toNat) = p at *
     generalize nv (b.take i.toNat) = q at *
     generalize 18446744073709551616 ^ i.toNat = P at *
     rcases Nat.lt_or_ge x y with L | L
     ·have : P * (x + 1) ≤ P * y := Nat.mul_le_mul_left _ L
      grind
     ·have J : y < x := by omega
      have : P * (y + 1) ≤ P * x := Nat.mul_le_mul_left _ J
      grind
   ·right
    have e : i = -1 := by omega
    simp_all
def aEN (F : Md) (b : qa) : Option Int :=
 if (b.length : Int) = (0 : Int) then some (0 : Int) else ck (I64 ((64 : Int) * (b.length : Int))) (ck (I64 ((b.length : Int) - (1 : Int))) (ck (0 ≤ ((b.length : Int) - (1 : Int)) ∧ ((b.length : Int) - (1 : Int)) < (b.length : Int)) (ck (I64 (((64 : Int) * (b.length : Int)) - (aB (b.getD ((b.length : Int) - (1 : Int)).toNat (0 : Nat))))) (some (((64 : Int) * (b.length : Int)) - (aB (b.getD ((b.length : Int) - (1 : Int)).toNat (0 : Nat))))))))
def rF (a : List Nat) : Int := (bl (nv a) : Int)
theorem aHp (k : Nat) : 18446744073709551616 ^ k = 2 ^ (64 * k) := by rw [Nat.pow_mul]
theorem bGQ {x m k : Nat} (f : x ≠ 0) (hm : m < 2 ^ k) : bl (m + 2 ^ k * x) = k + bl x := by
 have b := Nat.two_pow_pos k
 have g : 2 ^ k * 1 ≤ 2 ^ k * x := Nat.mul_le_mul_left _ (by omega)
 rw [aMO (x := m + 2 ^ k * x) (k := k) (by omega), Nat.add_mul_div_left _ _ b, Nat.div_eq_of_lt hm, Nat.zero_add]
theorem bFk {a : List Nat} (h : 0 < a.length) : nv a = nv (a.take (a.length - 1)) + 18446744073709551616 ^ (a.length - 1) * a.getD (a.length - 1) 0 := by
 have := yF (a := a) (k := a.length - 1) (by omega)
 grind
theorem bFl {a : List Nat} (f : Lm a) (b : Nrm a) (h : 0 < a.length) : bl (nv a) = 64 * (a.length - 1) + bl (a.getD (a.length - 1) 0) := by
 rw [bFk h, aHp]
 refine bGQ ((aVB h).1 b) ?_
 have := sH (aFv f (a.length - 1))
 grind [List.length_take, Nat.min_eq_left, aHp]
theorem aVE (a : List Nat) (w : (Ty.sl qt).wf a) (hp : bAs a) : aEN none a = some (rF a) := by
 obtain ⟨b, hs⟩ := hp
 unfold aEN rF
 refine aGr (fun h => ?_) (fun h => ?_)
 ·have e : a = [] := List.eq_nil_of_length_eq_zero (by omega)
  subst e; rfl
 ·have h0 : 0 < a.length := by omega
  have f := bDi (kK (aEK w) (a.length - 1))
  have e1 : (a.length : Int) - 1 = ((a.length - 1 : Nat) : Int) := by omega
  rw [e1, Int.toNat_natCast]
  unfold aB
  rw [bFl (aEK w) b h0]
  refine aF (by omega) (aF (by omega) (aF (by omega) (aF (by omega) ?_)))
  grind
end
end Nu
end Go.Proofs
namespace Go.Proofs
open Go.Vc
set_option maxRecDepth 20000
namespace Nu
noncomputable section
def tzn (n : Nat) : Nat := if h : n = 0 then 0 else if n % 2 = 1 then 0 else 1 + tzn (n / 2)
termination_by n
decreasing_by omega
theorem aJg {n : Nat} (h : n ≠ 0) : ∃ m, n = 2 ^ tzn n * (2 * m + 1) := by
 induction n using Nat.strongRecOn with
 | _ n b =>
  rw [tzn, dif_neg h]
  split
  ·exact ⟨n / 2, by omega⟩
  ·obtain ⟨m, hm⟩ := b (n / 2) (Nat.div_lt_self (by omega) xAb) (by omega)
   refine ⟨m, ?_⟩
   grind [Nat.add_comm, Nat.pow_succ, Nat.mul_assoc, Nat.mul_comm]
theorem bFm {a b m k : Nat} (h : 2 ^ a * (2 * m + 1) = 2 ^ b * (2 * k + 1)) : a = b := by
 have f : ∀ {a b m k : Nat}, 2 ^ a * (2 * m + 1) = 2 ^ b * (2 * k + 1) → ¬ a < b := fun {a b m k} h g => by
  obtain ⟨d, rfl⟩ : ∃ d, b = a + (d + 1) := ⟨b - a - 1, by omega⟩
  rw [Nat.pow_add, Nat.mul_assoc] at h
  have := Nat.eq_of_mul_eq_mul_left (Nat.two_pow_pos a) h
  grind
 grind
theorem aY6 {n k m : Nat} (h : n = 2 ^ k * (2 * m + 1)) : tzn n = k := by
 have h0 : n ≠ 0 := by
  grind
 obtain ⟨b, hm⟩ := aJg h0
 grind [bFm]
theorem bFn {x : Nat} (k : Nat) (h : x ≠ 0) : tzn (2 ^ k * x) = k + tzn x := by
 obtain ⟨m, hm⟩ := aJg h
 refine aY6 (m := m) ?_
 grind
theorem bAt {x : Nat} (b : x < 18446744073709551616) (h : x ≠ 0) : Lib.ctz 64 x = tzn x ∧ tzn x < 64 := by
 obtain ⟨m, hm, f⟩ := Lib.ctzFrom_spec 64 x (by omega) b
 grind [Go.Lib.ctz, Go.Lib.ctzFrom, aY6]
theorem bFo {x q : Nat} (b : x < 18446744073709551616) (h : x ≠ 0) : tzn (x + 18446744073709551616 * q) = tzn x := by
 obtain ⟨m, hm⟩ := aJg h
 have f := (bAt b h).2
 refine aY6 (m := m + 2 ^ (63 - tzn x) * q) ?_
 have e : 18446744073709551616 = 2 ^ tzn x * (2 * 2 ^ (63 - tzn x)) := by
  rw [← Nat.mul_assoc, Nat.mul_comm _ 2, ← Nat.pow_succ', ← Nat.pow_add, show tzn x + 1 + (63 - tzn x) = 64 from by omega]
 grind
def xK (F : Md) (f : qa) (b : Int) : Option ((Int) ⊕ ((Unit) ⊕ Int)) :=
 if b < (f.length : Int) then ck (0 ≤ b ∧ b < (f.length : Int)) (if ¬ ((f.getD (b.toNat) (0 : Nat)) = (0 : Nat)) then ck (I64 ((64 : Int) * b)) (ck (I64 (((64 : Int) * b) + (jU (f.getD (b.toNat) (0 : Nat))))) (some (.inr (.inr (((64 : Int) * b) + (jU (f.getD (b.toNat) (0 : Nat)))))))) else ck (I64 (b + (1 : Int))) (some (.inl (b + (1 : Int))))) else some (.inr (.inl ()))
def aC3 (F : Md) (b : qa) : Option Int :=
 (dG F (fun d : Int => xK F b d) (0 : Int)).bind (fun e => match e with | (.inl e) => some (-1 : Int) | (.inr e) => some e)
def kL (a : List Nat) : Int := if nv a = 0 then -1 else (tzn (nv a) : Int)
theorem aTz (a : List Nat) (w : (Ty.sl qt).wf a) (hp : pSz a) : aC3 none a = some (kL a) := by
 have J := aEK w
 have hs : a.length ≤ 1099511627776 := hp
 unfold aC3 kL
 have z := aBq (step := fun d : Int => xK none a d) (I := fun i => 0 ≤ i ∧ i ≤ a.length ∧ nv (a.take i.toNat) = 0) (fun i => (a.length - i).toNat)
   (fun i => if nv a = 0 then (.inl () : Unit ⊕ Int) else .inr (tzn (nv a) : Int)) ?_ 0 ⟨by omega, by omega, rfl⟩
 ·grind
 ·intro i ⟨h0, L, g⟩
  try dsimp only
  unfold xK
  by_cases hi : i < a.length
  ·have j : i.toNat < a.length := by omega
   have hd := aBu a i.toNat
   rw [g, Nat.zero_add, Nat.min_eq_left (by omega), List.drop_eq_getElem_cons j, tJ] at hd
   have q : a.getD i.toNat 0 = a[i.toNat] := by simp_all
   have r := kK J i.toNat
   rw [← q] at hd
   rw [if_pos hi]
   by_cases f : a.getD i.toNat 0 = 0
   ·left
    refine ⟨i + 1, aF (by omega) ?_, ⟨by omega, by omega, ?_⟩, by omega, rfl⟩
    ·rw [if_neg (by omega)]
     exact aF (by omega) rfl
    ·rw [show (i + 1).toNat = i.toNat + 1 from by omega, yF j, g, f, Nat.mul_zero]
   ·right
    obtain ⟨c1, N⟩ := bAt r f
    have s : a.getD i.toNat 0 + 18446744073709551616 * nv (a.drop (i.toNat + 1)) ≠ 0 := by omega
    have ht : tzn (nv a) = 64 * i.toNat + tzn (a.getD i.toNat 0) := by
     grind [aHp, bFn, bFo]
    have b : nv a ≠ 0 := by
     grind [Nat.mul_ne_zero, aHp, Nat.pos_iff_ne_zero, Nat.two_pow_pos]
    refine aF (by omega) ?_
    rw [if_pos (by omega), if_neg b, ht]
    unfold jU
    rw [c1]
    refine aF (by omega) (aF (by omega) ?_)
    grind
  ·right
   rw [if_neg hi]
   have : nv a = 0 := by grind [List.take_length]
   simp_all
theorem uT (b : List Nat) (i : Nat) : nv (b.take (i + 1)) = nv (b.take i) + 18446744073709551616 ^ i * b.getD i 0 := by
 rcases Nat.lt_or_ge i b.length with h | h
 ·exact yF h
 ·rw [List.take_of_length_le (by omega), List.take_of_length_le h, List.getD_eq_getElem?_getD, List.getElem?_eq_none h]
  simp
theorem bDk {a : List Nat} {i v : Nat} (h : i < a.length) : (a.set i v).take (i + 1) = a.take i ++ [v] := by
 rw [take_succ (by simp_all), List.take_set_of_le (Nat.le_refl i), List.getD_eq_getElem?_getD, List.getElem?_set_self h]; rfl
theorem aPG {a : List Nat} {i v : Nat} (h : i < a.length) : nv ((a.set i v).take (i + 1)) = nv (a.take i) + 18446744073709551616 ^ i * v := by
 rw [bDk h, aOw, List.length_take, Nat.min_eq_left (Nat.le_of_lt h)]; simp [nv]
theorem aMP {a b : List Nat} {i : Nat} (h : a.drop i = b.drop i) : a.getD i 0 = b.getD i 0 := by
 have f := congrArg (fun l => l.getD 0 0) h
 grind
theorem aEp {a b : List Nat} {i : Nat} (h : a.drop i = b.drop i) : a.drop (i + 1) = b.drop (i + 1) := by
 have f := congrArg (List.drop 1) h
 grind [List.drop_drop]
theorem drop_set {a : List Nat} {i v : Nat} : (a.set i v).drop (i + 1) = a.drop (i + 1) := by
 grind [List.drop_set_of_lt]
def tA (F : Md) (b : Int) (f : qa) (carry_12 : Nat) (g : Nat) : Option ((Nat × Int × qa) ⊕ qa) :=
 ck (0 ≤ b ∧ b < (f.length : Int)) (ck (aEJ (f.getD (b.toNat) (0 : Nat)) g carry_12) (ck (0 ≤ b ∧ b < (f.length : Int)) (ck (I64 (b + (1 : Int))) (some (.inl ((rE (f.getD (b.toNat) (0 : Nat)) g carry_12).2.1, (b + (1 : Int)), (f.set (b.toNat) (rE (f.getD (b.toNat) (0 : Nat)) g carry_12).1)))))))
def tB (F : Md) (j : qa) (g : qa) (carry_12 : Nat) (b : Int) (f : qa) : Option ((Nat × Int × qa) ⊕ qa) :=
 if b < ((((id j) ++ ([0] : List Nat)).length : Nat) : Int) then if b < (g.length : Int) then ck (0 ≤ b ∧ b < (g.length : Int)) (tA F b f carry_12 (g.getD (b.toNat) (0 : Nat))) else if carry_12 = (0 : Nat) then some (.inr f) else tA F b f carry_12 (0 : Nat) else some (.inr f)
def tC (F : Md) (b : qa) (f : qa) : Option qa :=
 ck (bBr b) (ck (((id b).length + (1 : Nat)) * 8 ≤ 140737488355328) ((dG F (fun d : Nat × Int × qa => tB F b f d.1 d.2.1 d.2.2) ((0 : Nat), (0 : Int), ((id b) ++ ([0] : List Nat)))).bind (fun e => some (fA e))))
def aEO (F : Md) (f : qa) (b : qa) : Option qa :=
 if (f.length : Int) < (b.length : Int) then tC F b f else tC F f b
def aCu (a b : List Nat) : List Nat := lb (nv a + nv b)
structure aPH (a b : List Nat) (c : Nat) (i : Int) (out : List Nat) : Prop where
 i0 : 0 ≤ i
 i1 : i ≤ a.length + 1
 len : out.length = a.length + 1
 lm : Lm out
 c1 : c ≤ 1
 rest : out.drop i.toNat = (a ++ [0]).drop i.toNat
 sum : nv (out.take i.toNat) + 18446744073709551616 ^ i.toNat * c = nv ((a ++ [0]).take i.toNat) + nv (b.take i.toNat)
theorem bDl {P p q r x y c s c' : Nat} (h : p + P * c = q + r) (e : s + 18446744073709551616 * c' = x + y + c) : p + P * s + P * 18446744073709551616 * c' = q + P * x + (r + P * y) := by
 grind
theorem aSj {a b : List Nat} {c : Nat} {i : Int} {out : List Nat} (f : Lm b) (h : aPH a b c i out) (hi : i < a.length + 1) : aPH a b ((out.getD i.toNat 0 + b.getD i.toNat 0 + c) / 18446744073709551616) (i + 1) (out.set i.toNat ((out.getD i.toNat 0 + b.getD i.toNat 0 + c) % 18446744073709551616)) := by
 have g := kK h.lm i.toNat
 have q := kK f i.toNat
 have hc := h.c1
 have h0 := h.i0
 have j := h.len
 have e1 : (i + 1).toNat = i.toNat + 1 := by omega
 refine ⟨by omega, by omega, by simp_all, aDw h.lm _ (Nat.mod_lt _ xAb), by omega, ?_, ?_⟩
 ·rw [e1, drop_set]; exact aEp h.rest
 ·rw [e1, aPG (by omega), uT, uT b, ← aMP h.rest, Nat.pow_succ]
  exact bDl h.sum (Nat.mod_add_div _ _)
theorem bAu {a b : List Nat} {c : Nat} {i : Int} {out : List Nat} (f : a.length ≤ 1099511627776) (h : aPH a b c i out) (hi : i < a.length + 1) (y : Nat) : tA none i out c y = some (.inl ((out.getD i.toNat 0 + y + c) / 18446744073709551616, i + 1, out.set i.toNat ((out.getD i.toNat 0 + y + c) % 18446744073709551616))) := by
 have h0 := h.i0
 have g := h.len
 unfold tA rE
 exact aF (by omega) (aF h.c1 (aF (by omega) (aF (by omega) rfl)))
theorem aUK {a b : List Nat} {i : Int} {out : List Nat} (h : aPH a b 0 i out) (hb : (b.length : Int) ≤ i) : nv out = nv a + nv b := by
 have q : nv (a ++ [0]) = nv a := by rw [aOw]; simp [nv]
 have r : (a ++ [0]).length = a.length + 1 := by simp
 have h0 := h.i0
 have s := h.i1
 have z := h.len
 have f := h.sum
 rw [Nat.mul_zero, Nat.add_zero, List.take_of_length_le (l := b) (by omega)] at f
 have g := aBu out i.toNat
 have j := aBu (a ++ [0]) i.toNat
 rw [Nat.min_eq_left (by omega)] at g
 rw [Nat.min_eq_left (by omega)] at j
 rw [g, f, h.rest, ← q, j]; omega
theorem aY7 {a b : List Nat} {c : Nat} {i : Int} {out : List Nat} (r : Lm a) (f : Lm b) (g : b.length ≤ a.length) (h : aPH a b c i out) (hi : ¬ i < a.length + 1) : c = 0 := by
 have q : nv (a ++ [0]) = nv a := by rw [aOw]; simp [nv]
 have z : (a ++ [0]).length = a.length + 1 := by simp
 have J := h.i1
 have L := h.len
 have j := h.sum
 rw [List.take_of_length_le (l := out) (by omega), List.take_of_length_le (l := a ++ [0]) (by omega), List.take_of_length_le (l := b) (by omega), q] at j
 have s := sH r
 have I := Nat.lt_of_lt_of_le (sH f) (Nat.pow_le_pow_right (show 0 < 18446744073709551616 by decide) g)
 rw [show i.toNat = a.length + 1 from by omega, Nat.pow_succ] at j
 rcases Nat.eq_zero_or_pos c with h | h
 ·exact h
 ·have : 18446744073709551616 ^ a.length * 18446744073709551616 * 1 ≤ 18446744073709551616 ^ a.length * 18446744073709551616 * c := Nat.mul_le_mul_left _ h
  omega
theorem bFp {a b : List Nat} (r : Lm a) (f : Lm b) (q : a.length ≤ 1099511627776) (j : b.length ≤ a.length) {c : Nat} {i : Int} {out : List Nat} (h : aPH a b c i out) :
  (∃ d' : Nat × Int × List Nat, tB none a b c i out = some (.inl d') ∧ aPH a b d'.1 d'.2.1 d'.2.2 ∧ (a.length + 1 - d'.2.1).toNat < (a.length + 1 - i).toNat) ∨ ∃ e, tB none a b c i out = some (.inr e) ∧ Lm e ∧ nv e = nv a + nv b := by
 have s : (id a ++ [0]).length = a.length + 1 := by simp
 have h0 := h.i0
 unfold tB
 rw [s]
 by_cases hi : i < a.length + 1
 ·rw [if_pos (by omega)]
  by_cases hb : i < b.length
  ·left
   refine ⟨(_, _, _), ?_, aSj f h hi, ?_⟩
   ·rw [if_pos hb]
    exact aF (by omega) (bAu q h hi _)
   grind
  ·rw [if_neg hb]
   have g : b.getD i.toNat 0 = 0 := by simp_all
   by_cases hc : c = 0
   ·right
    subst hc
    exact ⟨out, by rfl, h.lm, aUK h (by omega)⟩
   ·left
    have hs := aSj f h hi
    rw [g] at hs
    refine ⟨(_, _, _), ?_, hs, ?_⟩
    ·rw [if_neg hc]; grind [bAu]
    grind
 ·right
  rw [if_neg (by omega)]
  have hc := aY7 r f j h hi
  subst hc
  exact ⟨out, rfl, h.lm, aUK h (by omega)⟩
theorem bFq {a b : List Nat} (r : Lm a) (f : Lm b) (g : Sz a) (j : b.length ≤ a.length) : tC none a b = some (lb (nv a + nv b)) := by
 have g : a.length ≤ 1099511627776 := g
 have q := lI (step := fun d : Nat × Int × qa => tB none a b d.1 d.2.1 d.2.2) (I := fun d => aPH a b d.1 d.2.1 d.2.2) (fun d => (a.length + 1 - d.2.1).toNat)
   (fun e => Lm e ∧ nv e = nv a + nv b) (fun d h => bFp r f g j h) (0, 0, a ++ [0]) ⟨by simp, by grind, by simp, bDf r (by intro x J; simp_all), by simp, rfl, by simp [nv]⟩
 obtain ⟨e, z, L, s⟩ := q
 unfold tC
 refine aF (by omega) (aF (by grind) (bP z ?_))
 rw [fA, s]
theorem aVF (a : List Nat) (g : (Ty.sl qt).wf a) (b : List Nat) (f : (Ty.sl qt).wf b) (hp : aQk a b) : aEO none a b = some (aCu a b) := by
 unfold aEO aCu
 refine aGr (fun h => ?_) (fun h => ?_)
 all_goals grind [bFq, aEK, Nat.add_comm]
def aEP (F : Md) (b : qa) : Option qa :=
 ck (bBr (fA b)) (some (id (fA b)))
def pH (a : List Nat) : List Nat := lb (nv a)
theorem bBs {a : List Nat} (h : Lm a) : (lb (nv a)).length ≤ a.length := aDv.2 (sH h)
theorem aVG (a : List Nat) (w : (Ty.sl qt).wf a) (hp : pSz a) : aEP none a = some (pH a) := by
 have hp : a.length ≤ 1099511627776 := hp
 have := bBs (aEK w)
 unfold aEP pH fA
 exact aF (by omega) rfl
end
end Nu
end Go.Proofs
namespace Go.Proofs
open Go.Vc
set_option maxRecDepth 20000
namespace Nu
noncomputable section
theorem bDm {x y c o : Nat} (g : x < 18446744073709551616) (b : y < 18446744073709551616) (hc : c < 18446744073709551616) (f : o < 18446744073709551616) :
  (o + (x * y % 18446744073709551616 + c + 0) % 18446744073709551616 + 0) % 18446744073709551616 + 18446744073709551616 * (((x * y / 18446744073709551616 + (x * y % 18446744073709551616 + c + 0) / 18446744073709551616) % 18446744073709551616 + (o + (x * y % 18446744073709551616 + c + 0) % 18446744073709551616 + 0) / 18446744073709551616) % 18446744073709551616) = o + x * y + c := by
 have p : x * y ≤ 18446744073709551615 * 18446744073709551615 := Nat.mul_le_mul (by omega) (by omega)
 omega
theorem aAs {a : List Nat} (h : Lm a) (k : Nat) : a.getD k 0 = nv a / 18446744073709551616 ^ k % 18446744073709551616 := by
 rw [← aMN h]
 rcases Nat.lt_or_ge k a.length with b | b
 ·rw [List.drop_eq_getElem_cons b, tJ, Nat.add_mul_mod_self_left, List.getD_eq_getElem?_getD, List.getElem?_eq_getElem b]
  exact (Nat.mod_eq_of_lt (h _ (List.getElem_mem b))).symm
 ·rw [List.drop_eq_nil_of_le b, List.getD_eq_getElem?_getD, List.getElem?_eq_none b]; rfl
theorem aUL {a : List Nat} (h : Lm a) {k : Nat} (b : nv a < 18446744073709551616 ^ k) : a.getD k 0 = 0 := by
 rw [aAs h, Nat.div_eq_of_lt b]
def xL (F : Md) (b : Int) (g : qa) (carry_62 : Nat) (f : qa) : Option ((Int × qa) ⊕ qa) :=
 ck (I64 (b + (g.length : Int))) (ck (0 ≤ (b + (g.length : Int)) ∧ (b + (g.length : Int)) < (f.length : Int)) (ck (I64 (b + (1 : Int))) (some (.inl ((b + (1 : Int)), (f.set (b + (g.length : Int)).toNat carry_62))))))
def rG (F : Md) (j : qa) (q : qa) (f : Int) (carry_64 : Nat) (b : Int) (g : qa) : Option ((Nat × Int × qa) ⊕ vf) :=
 if b < (j.length : Int) then ck (0 ≤ b ∧ b < (j.length : Int)) (ck (aEJ (dQ (q.getD (f.toNat) (0 : Nat)) (j.getD (b.toNat) (0 : Nat))).2.1 carry_64 (0 : Nat)) (ck (I64 (f + b)) (ck (I64 (f + b)) (ck (0 ≤ (f + b) ∧ (f + b) < (g.length : Int)) (ck (aEJ (g.getD (f + b).toNat (0 : Nat)) (rE (dQ (q.getD (f.toNat) (0 : Nat)) (j.getD (b.toNat) (0 : Nat))).2.1 carry_64 (0 : Nat)).1 (0 : Nat)) (ck (0 ≤ (f + b) ∧ (f + b) < (g.length : Int)) (ck (I64 (b + (1 : Int))) (some (.inl ((((((dQ (q.getD (f.toNat) (0 : Nat)) (j.getD (b.toNat) (0 : Nat))).1 + (rE (dQ (q.getD (f.toNat) (0 : Nat)) (j.getD (b.toNat) (0 : Nat))).2.1 carry_64 (0 : Nat)).2.1) % 18446744073709551616) + (rE (g.getD (f + b).toNat (0 : Nat)) (rE (dQ (q.getD (f.toNat) (0 : Nat)) (j.getD (b.toNat) (0 : Nat))).2.1 carry_64 (0 : Nat)).1 (0 : Nat)).2.1) % 18446744073709551616), (b + (1 : Int)), (g.set (f + b).toNat (rE (g.getD (f + b).toNat (0 : Nat)) (rE (dQ (q.getD (f.toNat) (0 : Nat)) (j.getD (b.toNat) (0 : Nat))).2.1 carry_64 (0 : Nat)).1 (0 : Nat)).1))))))))))) else some (.inr (carry_64, g))
def rH (F : Md) (g : qa) (j : qa) (b : Int) (f : qa) : Option ((Int × qa) ⊕ qa) :=
 if b < (g.length : Int) then ck (0 ≤ b ∧ b < (g.length : Int)) ((dG F (fun d : Nat × Int × qa => rG F j g b d.1 d.2.1 d.2.2) ((0 : Nat), (0 : Int), f)).bind (fun e => xL F b j e.1 e.2)) else some (.inr f)
def aC4 (F : Md) (f : qa) (b : qa) : Option qa :=
 ck (I64 ((f.length : Int) + (b.length : Int))) (ck (0 ≤ ((f.length : Int) + (b.length : Int))) (ck ((8 : Int) * ((f.length : Int) + (b.length : Int)) ≤ 281474976710656) ((dG F (fun d : Int × qa => rH F f b d.1 d.2) ((0 : Int), (List.replicate ((f.length : Int) + (b.length : Int)).toNat (0 : Nat)))).bind (fun e => some (fA e)))))
def cR (a b : List Nat) : List Nat := lb (nv a * nv b)
structure aXB (b : List Nat) (x : Nat) (i : Int) (o0 : List Nat) (c : Nat) (j : Int) (out : List Nat) : Prop where
 j0 : 0 ≤ j
 j1 : j ≤ b.length
 len : out.length = o0.length
 lm : Lm out
 c1 : c < 18446744073709551616
 rest : out.drop (i + j).toNat = o0.drop (i + j).toNat
 sum : nv out + 18446744073709551616 ^ (i + j).toNat * c = nv o0 + 18446744073709551616 ^ i.toNat * x * nv (b.take j.toNat)
theorem bFr {N f b Q R P o v c c' x y t : Nat} (hP : P = Q * R) (q : f + P * o = N + P * v) (j : N + P * c = b + Q * x * t) (g : v + 18446744073709551616 * c' = o + x * y + c) : f + P * 18446744073709551616 * c' = b + Q * x * (t + R * y) := by
 grind
theorem bBt {b : List Nat} {x : Nat} {i : Int} {f : List Nat} {c : Nat} {j : Int} {out : List Nat} (z : x < 18446744073709551616) (s : Lm b) (hi : 0 ≤ i) (J : i + b.length ≤ f.length) (h : aXB b x i f c j out) (I : j < b.length) {v c' : Nat} (hv : v < 18446744073709551616) (g : c' < 18446744073709551616) (e : v + 18446744073709551616 * c' = out.getD (i + j).toNat 0 + x * b.getD j.toNat 0 + c) :
  aXB b x i f c' (j + 1) (out.set (i + j).toNat v) := by
 have h0 := h.j0
 have q := h.len
 have e1 : (i + (j + 1)).toNat = (i + j).toNat + 1 := by omega
 have r : (j + 1).toNat = j.toNat + 1 := by omega
 refine ⟨by omega, by omega, by simp_all, aDw h.lm _ hv, g, ?_, ?_⟩
 ·rw [e1, drop_set]; exact aEp h.rest
 ·rw [e1, r, uT, Nat.pow_succ]
  exact bFr (R := 18446744073709551616 ^ j.toNat) (by rw [← Nat.pow_add]; grind) (aFY (by omega)) h.sum e
theorem bDn {a b : List Nat} {i : Int} {g : List Nat} (hi : 0 ≤ i) (hs : i + b.length ≤ 9000000000000) (N : i + b.length ≤ g.length) (I : Lm a) (f : Lm b) {c : Nat} {j : Int} {out : List Nat} (h : aXB b (a.getD i.toNat 0) i g c j out) :
  (∃ d' : Nat × Int × List Nat, rG none b a i c j out = some (.inl d') ∧ aXB b (a.getD i.toNat 0) i g d'.1 d'.2.1 d'.2.2 ∧ (b.length - d'.2.1).toNat < (b.length - j).toNat) ∨ ∃ e : Nat × List Nat, rG none b a i c j out = some (.inr e) ∧ aXB b (a.getD i.toNat 0) i g e.1 b.length e.2 := by
 have h0 := h.j0
 have r := h.len
 have O := h.j1
 have s := kK I i.toNat
 have L := kK f j.toNat
 have J := kK h.lm (i + j).toNat
 unfold rG
 by_cases z : j < b.length
 ·left
  have q := bDm s L h.c1 J
  refine ⟨(_, _, _), ?_, bBt s f hi N h z (Nat.mod_lt _ xAb) (Nat.mod_lt _ xAb) q, ?_⟩
  ·rw [if_pos z]
   refine aF (by omega) (aF (Nat.zero_le _) (aF (by omega) (aF (by omega) (aF (by omega) (aF (Nat.zero_le _) (aF (by omega) (aF (by omega) ?_)))))))
   rfl
  grind
 ·right
  refine ⟨(c, out), by grind, ?_⟩
  grind
structure bDo (a b : List Nat) (i : Int) (out : List Nat) : Prop where
 i0 : 0 ≤ i
 i1 : i ≤ a.length
 len : out.length = a.length + b.length
 lm : Lm out
 sum : nv out = nv (a.take i.toNat) * nv b
theorem bBu {a b : List Nat} {i : Int} {out : List Nat} (j : Lm a) (f : Lm b) (h : bDo a b i out) : nv out < 18446744073709551616 ^ (i.toNat + b.length) := by
 rw [h.sum, Nat.pow_add]
 have q := sH (aFv j i.toNat)
 have r := sH f
 have g : (a.take i.toNat).length ≤ i.toNat := by grind
 have s := Nat.lt_of_lt_of_le q (Nat.pow_le_pow_right (show 0 < 18446744073709551616 by decide) g)
 simp_all [Nat.pow_pos, Nat.mul_lt_mul'']
theorem bBv {a b : List Nat} {i : Int} {out : List Nat} (z : Lm a) (j : Lm b) (h : bDo a b i out) (hi : i < a.length) {c : Nat} {f : List Nat} (g : aXB b (a.getD i.toNat 0) i out c b.length f) : bDo a b (i + 1) (f.set (i + b.length).toNat c) := by
 have h0 := h.i0
 have J := h.len
 have I := g.len
 have e1 : (i + 1).toNat = i.toNat + 1 := by omega
 have q : (i + (b.length : Int)).toNat = i.toNat + b.length := by omega
 have s : f.getD (i.toNat + b.length) 0 = 0 := by
  have := aMP g.rest
  rw [q] at this
  rw [this]
  exact aUL h.lm (bBu z j h)
 refine ⟨by omega, by omega, by simp_all, aDw g.lm _ g.c1, ?_⟩
 have r := aFY (a := f) (k := i.toNat + b.length) (v := c) (by omega)
 have hs := g.sum
 rw [q] at hs ⊢
 rw [s, Nat.mul_zero, Nat.add_zero] at r
 rw [r, hs, e1, uT, h.sum, Int.toNat_natCast, List.take_length, Nat.add_mul]
theorem aTA (a : List Nat) (N : (Ty.sl qt).wf a) (b : List Nat) (L : (Ty.sl qt).wf b) (hp : aQk a b) : aC4 none a b = some (cR a b) := by
 have q := aEK N
 have f := aEK L
 have O : a.length ≤ 1099511627776 := hp.1
 have sb : b.length ≤ 1099511627776 := hp.2
 have g := lI (step := fun d : Int × qa => rH none a b d.1 d.2) (I := fun d => bDo a b d.1 d.2) (fun d => (a.length - d.1).toNat) (fun e => nv e = nv a * nv b) ?_ (0, List.replicate (a.length + b.length) 0) ⟨by simp, by simp, by simp, aOy _, by simp [aOx, nv]⟩
 ·obtain ⟨e, r, J⟩ := g
  unfold aC4 cR
  rw [show ((a.length : Int) + (b.length : Int)).toNat = a.length + b.length from by omega]
  refine aF (by omega) (aF (by omega) (aF (by omega) (bP r ?_)))
  rw [fA, J]
 ·rintro ⟨i, out⟩ h
  have h : bDo a b i out := h
  have h0 := h.i0
  have r := h.i1
  have U := h.len
  show (∃ d', rH none a b i out = _ ∧ _) ∨ ∃ e, rH none a b i out = _ ∧ _
  unfold rH
  by_cases hi : i < a.length
  ·left
   obtain ⟨e, z, s⟩ := lI (step := fun d : Nat × Int × qa => rG none b a i d.1 d.2.1 d.2.2) (I := fun d => aXB b (a.getD i.toNat 0) i out d.1 d.2.1 d.2.2) (fun d => (b.length - d.2.1).toNat) (fun e => aXB b (a.getD i.toNat 0) i out e.1 b.length e.2)
    (fun d hd => bDn h0 (by omega) (by omega) q f hd) (0, 0, out) ⟨by simp, by simp, rfl, h.lm, by simp, rfl, by simp [nv]⟩
   have j := s.len
   refine ⟨(i + 1, e.2.set (i + b.length).toNat e.1), ?_, bBv q f h hi s, by omega⟩
   rw [if_pos hi]
   refine aF (by omega) (bP z ?_)
   unfold xL
   exact aF (by omega) (aF (by omega) (aF (by omega) rfl))
  ·right
   refine ⟨out, by grind, ?_⟩
   have := h.sum
   rw [show i.toNat = a.length from by omega, List.take_length] at this
   omega
end
end Nu
end Go.Proofs
namespace Go.Proofs
open Go.Vc
set_option maxRecDepth 20000
namespace Nu
noncomputable section
theorem bDp {n : Int} (h : 0 ≤ n) : Int.tdiv n 64 = ((n.toNat / 64 : Nat) : Int) ∧ Int.tmod n 64 = ((n.toNat % 64 : Nat) : Int) := by
 grind
theorem aUM {r : Nat} (h : r < 64) : ((r : Int) % (18446744073709551616 : Int)).toNat = r ∧ ((63 - (r : Int)) % (18446744073709551616 : Int)).toNat = 63 - r := by omega
theorem aXC (r : Nat) (h : r ≤ 64) : 2 ^ (64 - r) * 2 ^ r = 18446744073709551616 := by
 rw [← Nat.pow_add, show 64 - r + r = 64 from by omega]
theorem aVH (x r : Nat) (h : r ≤ 64) : x * 2 ^ r % 18446744073709551616 = 2 ^ r * (x % 2 ^ (64 - r)) := by
 grind [aXC, Nat.mul_comm, Nat.mul_mod_mul_left]
theorem bAv (x r : Nat) (h : r ≤ 63) : x * 2 ^ r / 18446744073709551616 = x / 2 / 2 ^ (63 - r) := by
 rw [← aXC r (by omega), Nat.mul_div_mul_right _ _ (Nat.two_pow_pos r), Nat.div_div_eq_div_mul, ← Nat.pow_succ', show (63 - r).succ = 64 - r from by omega]
theorem aY8 {o r t : Nat} (h : o < 2 ^ r) : o ||| 2 ^ r * t = o + 2 ^ r * t := by
 have := Nat.two_pow_add_eq_or_of_lt h t
 rw [Nat.or_comm, ← this, Nat.add_comm]
def tD (F : Md) (j : qa) (f : Int) (b : Int) (g : qa) : Option ((Int × qa) ⊕ qa) :=
 if b < (j.length : Int) then ck (0 ≤ b ∧ b < (j.length : Int)) (ck (I64 (Int.tdiv f (64 : Int))) (ck (I64 ((Int.tdiv f (64 : Int)) + b)) (ck (0 ≤ ((Int.tdiv f (64 : Int)) + b) ∧ ((Int.tdiv f (64 : Int)) + b) < (g.length : Int)) (ck (0 ≤ ((Int.tdiv f (64 : Int)) + b) ∧ ((Int.tdiv f (64 : Int)) + b) < (g.length : Int)) (ck (I64 (Int.tdiv f (64 : Int))) (ck (I64 ((Int.tdiv f (64 : Int)) + b)) (ck (I64 (((Int.tdiv f (64 : Int)) + b) + (1 : Int))) (ck (0 ≤ (((Int.tdiv f (64 : Int)) + b) + (1 : Int)) ∧ (((Int.tdiv f (64 : Int)) + b) + (1 : Int)) < (((g.set ((Int.tdiv f (64 : Int)) + b).toNat ((g.getD ((Int.tdiv f (64 : Int)) + b).toNat (0 : Nat)) ||| (((j.getD (b.toNat) (0 : Nat)) * (2 ^ ((Int.tmod f (64 : Int)) % (18446744073709551616 : Int)).toNat)) % 18446744073709551616))).length : Nat) : Int)) (ck (I64 ((63 : Int) - (Int.tmod f (64 : Int)))) (ck (0 ≤ (((Int.tdiv f (64 : Int)) + b) + (1 : Int)) ∧ (((Int.tdiv f (64 : Int)) + b) + (1 : Int)) < (((g.set ((Int.tdiv f (64 : Int)) + b).toNat ((g.getD ((Int.tdiv f (64 : Int)) + b).toNat (0 : Nat)) ||| (((j.getD (b.toNat) (0 : Nat)) * (2 ^ ((Int.tmod f (64 : Int)) % (18446744073709551616 : Int)).toNat)) % 18446744073709551616))).length : Nat) : Int)) (ck (I64 (b + (1 : Int))) (some (.inl ((b + (1 : Int)), ((g.set ((Int.tdiv f (64 : Int)) + b).toNat ((g.getD ((Int.tdiv f (64 : Int)) + b).toNat (0 : Nat)) ||| (((j.getD (b.toNat) (0 : Nat)) * (2 ^ ((Int.tmod f (64 : Int)) % (18446744073709551616 : Int)).toNat)) % 18446744073709551616))).set (((Int.tdiv f (64 : Int)) + b) + (1 : Int)).toNat (((g.set ((Int.tdiv f (64 : Int)) + b).toNat ((g.getD ((Int.tdiv f (64 : Int)) + b).toNat (0 : Nat)) ||| (((j.getD (b.toNat) (0 : Nat)) * (2 ^ ((Int.tmod f (64 : Int)) % (18446744073709551616 : Int)).toNat)) % 18446744073709551616))).getD (((Int.tdiv f (64 : Int)) + b) + (1 : Int)).toNat (0 : Nat)) ||| (((j.getD (b.toNat) (0 : Nat)) / (2 : Nat)) / (2 ^ (((63 : Int) - (Int.tmod f (64 : Int))) % (18446744073709551616 : Int)).toNat)))))))))))))))))) else some (.inr g)
def aEQ (F : Md) (f : qa) (b : Int) : Option qa :=
 if (f.length : Int) = (0 : Int) then some ([] : List Nat) else ck (I64 (Int.tdiv b (64 : Int))) (ck (I64 ((Int.tdiv b (64 : Int)) + (f.length : Int))) (ck (I64 (((Int.tdiv b (64 : Int)) + (f.length : Int)) + (1 : Int))) (ck (0 ≤ (((Int.tdiv b (64 : Int)) + (f.length : Int)) + (1 : Int))) (ck ((8 : Int) * (((Int.tdiv b (64 : Int)) + (f.length : Int)) + (1 : Int)) ≤ 281474976710656) ((dG F (fun d : Int × qa => tD F f b d.1 d.2) ((0 : Int), (List.replicate (((Int.tdiv b (64 : Int)) + (f.length : Int)) + (1 : Int)).toNat (0 : Nat)))).bind (fun e => some (fA e)))))))
abbrev aUN (a : List Nat) (n : Int) : Prop := Sz a ∧ 0 ≤ n ∧ n ≤ 1099511627776
def jD (a : List Nat) (n : Int) : List Nat := lb (nv a * 2 ^ n.toNat)
structure bDq (a : List Nat) (q r : Nat) (i : Int) (out : List Nat) : Prop where
 i0 : 0 ≤ i
 i1 : i ≤ a.length
 len : out.length = q + a.length + 1
 lm : Lm out
 sum : nv out = nv (a.take i.toNat) * (18446744073709551616 ^ q * 2 ^ r)
theorem bDr {a : List Nat} {q r : Nat} {i : Int} {out : List Nat} (f : Lm a) (z : r < 64) (h : bDq a q r i out) : out.getD (q + i.toNat) 0 < 2 ^ r ∧ out.getD (q + i.toNat + 1) 0 = 0 := by
 have s := sH (aFv f i.toNat)
 have b : (a.take i.toNat).length ≤ i.toNat := by grind
 have g := Nat.lt_of_lt_of_le s (Nat.pow_le_pow_right (show 0 < 18446744073709551616 by decide) b)
 have hp : 0 < 2 ^ r := Nat.two_pow_pos r
 have j : nv out < 18446744073709551616 ^ (q + i.toNat) * 2 ^ r := by
  rw [h.sum, Nat.pow_add, Nat.mul_comm (18446744073709551616 ^ q) (18446744073709551616 ^ i.toNat), Nat.mul_assoc]
  exact Nat.mul_lt_mul_of_pos_right g (Nat.mul_pos (Nat.pow_pos xAb) hp)
 have I : (2 : Nat) ^ r ≤ 18446744073709551616 := by
  have := Nat.pow_le_pow_right (n := 2) (by omega) (show r ≤ 64 by omega)
  omega
 constructor
 ·rw [aAs h.lm]
  refine Nat.lt_of_le_of_lt (Nat.mod_le _ _) ?_
  simp_all [Nat.div_lt_iff_lt_mul, Nat.pow_pos, Nat.mul_comm]
 ·refine aUL h.lm (Nat.lt_of_lt_of_le j ?_)
  simp_all [Nat.pow_succ, Nat.mul_le_mul_left]
theorem bFs {N g f P b Q x lo hi o T R : Nat} (r : g + P * o = N + P * (o + lo)) (q : f = g + P * 18446744073709551616 * hi) (j : lo + 18446744073709551616 * hi = x * R) (s : N = T * (b * R)) (hP : P = b * Q) : f = (T + Q * x) * (b * R) := by
 grind
theorem bBw {a : List Nat} {q r : Nat} {i : Int} {out : List Nat} (z : Lm a) (J : r < 64) (h : bDq a q r i out) (hi : i < a.length) :
  bDq a q r (i + 1) ((out.set (q + i.toNat) (out.getD (q + i.toNat) 0 ||| a.getD i.toNat 0 * 2 ^ r % 18446744073709551616)).set (q + i.toNat + 1) ((out.set (q + i.toNat) (out.getD (q + i.toNat) 0 ||| a.getD i.toNat 0 * 2 ^ r % 18446744073709551616)).getD (q + i.toNat + 1) 0 ||| a.getD i.toNat 0 / 2 / 2 ^ (63 - r))) := by
 have h0 := h.i0
 have s := h.len
 obtain ⟨L, l2⟩ := bDr z J h
 have O := kK z i.toNat
 have j : ∀ v, (out.set (q + i.toNat) v).getD (q + i.toNat + 1) 0 = 0 := fun v => by
  simp_all
 rw [j, Nat.zero_or, aVH _ _ (by omega), aY8 L, ← bAv _ _ (by omega)]
 have f : 2 ^ r * (a.getD i.toNat 0 % 2 ^ (64 - r)) + 18446744073709551616 * (a.getD i.toNat 0 * 2 ^ r / 18446744073709551616) = a.getD i.toNat 0 * 2 ^ r := by
  grind [aVH, Nat.mod_add_div]
 have b : out.getD (q + i.toNat) 0 + 2 ^ r * (a.getD i.toNat 0 % 2 ^ (64 - r)) < 18446744073709551616 := by
  have hm : a.getD i.toNat 0 % 2 ^ (64 - r) + 1 ≤ 2 ^ (64 - r) := Nat.mod_lt _ (Nat.two_pow_pos _)
  have := Nat.mul_le_mul_left (2 ^ r) hm
  grind [Nat.mul_comm, aXC, Nat.mul_add]
 have g : a.getD i.toNat 0 * 2 ^ r / 18446744073709551616 < 18446744073709551616 := by
  have := Nat.div_le_self (a.getD i.toNat 0 / 2) (2 ^ (63 - r))
  grind [bAv]
 have e1 : (i + 1).toNat = i.toNat + 1 := by omega
 refine ⟨by omega, by omega, by simp_all, aDw (aDw h.lm _ b) _ g, ?_⟩
 have N := aFY (a := out) (k := q + i.toNat) (v := out.getD (q + i.toNat) 0 + 2 ^ r * (a.getD i.toNat 0 % 2 ^ (64 - r))) (by omega)
 have I := aFY (a := out.set (q + i.toNat) (out.getD (q + i.toNat) 0 + 2 ^ r * (a.getD i.toNat 0 % 2 ^ (64 - r)))) (k := q + i.toNat + 1) (v := a.getD i.toNat 0 * 2 ^ r / 18446744073709551616) (by simp_all)
 rw [j, Nat.mul_zero, Nat.add_zero, Nat.pow_succ] at I
 rw [e1, uT]
 exact bFs N I f h.sum (Nat.pow_add _ _ _)
theorem aUO (n : Nat) : 18446744073709551616 ^ (n / 64) * 2 ^ (n % 64) = 2 ^ n := by
 rw [aHp, ← Nat.pow_add]; grind
theorem aVI (a : List Nat) (U : (Ty.sl qt).wf a) (n : Int) (Z : (Ty.i .i64).wf n) (hp : aUN a n) : aEQ none a n = some (jD a n) := by
 have N := aEK U
 obtain ⟨j, J, n1⟩ := hp
 have j : a.length ≤ 1099511627776 := j
 obtain ⟨s, Y⟩ := bDp J
 have g : n.toNat % 64 < 64 := Nat.mod_lt _ xAb
 have hq : n.toNat / 64 ≤ 1099511627776 := by omega
 have b := aUO n.toNat
 obtain ⟨W, O⟩ := aUM g
 unfold aEQ jD
 rw [s]
 refine aGr (fun h => ?_) (fun h => ?_)
 ·simp_all [List.eq_nil_of_length_eq_zero, aVA, Nat.zero_mul, aCC]
 ·rw [← b]
  generalize n.toNat / 64 = q at *
  generalize n.toNat % 64 = r at *
  have f := lI (step := fun d : Int × qa => tD none a n d.1 d.2) (I := fun d => bDq a q r d.1 d.2) (fun d => (a.length - d.1).toNat) (fun e => nv e = nv a * (18446744073709551616 ^ q * 2 ^ r)) ?_ (0, List.replicate (q + a.length + 1) 0) ⟨by simp, by simp, by simp, aOy _, by simp [aOx, nv]⟩
  ·obtain ⟨e, z, L⟩ := f
   rw [show ((q : Int) + (a.length : Int) + 1).toNat = q + a.length + 1 from by omega]
   refine aF (by omega) (aF (by omega) (aF (by omega) (aF (by omega) (aF (by omega) (bP z ?_)))))
   rw [fA, L]
  ·rintro ⟨i, out⟩ h
   have h : bDq a q r i out := h
   have h0 := h.i0
   have z := h.i1
   have hl := h.len
   show (∃ d', tD none a n i out = _ ∧ _) ∨ ∃ e, tD none a n i out = _ ∧ _
   unfold tD
   rw [s, Y, W, O, show ((q : Int) + i).toNat = q + i.toNat from by omega, show ((q : Int) + i + 1).toNat = q + i.toNat + 1 from by omega]
   by_cases hi : i < a.length
   ·left
    refine ⟨(_, _), ?_, bBw N g h hi, by omega⟩
    rw [if_pos hi]
    simp only [List.length_set]
    refine aF (by omega) (aF (by omega) (aF (by omega) (aF (by omega) (aF (by omega) (aF (by omega) (aF (by omega) (aF (by omega) (aF (by omega) (aF (by omega) (aF (by omega) (aF (by omega) rfl)))))))))))
   ·right
    refine ⟨out, by grind, ?_⟩
    have := h.sum
    grind [List.take_length]
def rI (F : Md) (g : Int) (j : qa) (b : Int) (f : qa) : Option ((Int × qa) ⊕ qa) :=
 if b < (((List.drop (Int.tdiv g (64 : Int)).toNat j).length : Nat) : Int) then ck (0 ≤ b ∧ b < (((List.drop (Int.tdiv g (64 : Int)).toNat j).length : Nat) : Int)) (ck (0 ≤ b ∧ b < (f.length : Int)) (ck (I64 (b + (1 : Int))) (if (b + (1 : Int)) < (((List.drop (Int.tdiv g (64 : Int)).toNat j).length : Nat) : Int) then ck (0 ≤ b ∧ b < (((f.set (b.toNat) (((List.drop (Int.tdiv g (64 : Int)).toNat j).getD (b.toNat) (0 : Nat)) / (2 ^ ((Int.tmod g (64 : Int)) % (18446744073709551616 : Int)).toNat))).length : Nat) : Int)) (ck (I64 (b + (1 : Int))) (ck (0 ≤ (b + (1 : Int)) ∧ (b + (1 : Int)) < (((List.drop (Int.tdiv g (64 : Int)).toNat j).length : Nat) : Int)) (ck (I64 ((63 : Int) - (Int.tmod g (64 : Int)))) (ck (0 ≤ b ∧ b < (((f.set (b.toNat) (((List.drop (Int.tdiv g (64 : Int)).toNat j).getD (b.toNat) (0 : Nat)) / (2 ^ ((Int.tmod g (64 : Int)) % (18446744073709551616 : Int)).toNat))).length : Nat) : Int)) (ck (I64 (b + (1 : Int))) (some (.inl ((b + (1 : Int)), ((f.set (b.toNat) (((List.drop (Int.tdiv g (64 : Int)).toNat j).getD (b.toNat) (0 : Nat)) / (2 ^ ((Int.tmod g (64 : Int)) % (18446744073709551616 : Int)).toNat))).set (b.toNat) (((f.set (b.toNat) (((List.drop (Int.tdiv g (64 : Int)).toNat j).getD (b.toNat) (0 : Nat)) / (2 ^ ((Int.tmod g (64 : Int)) % (18446744073709551616 : Int)).toNat))).getD (b.toNat) (0 : Nat)) ||| ((((((List.drop (Int.tdiv g (64 : Int)).toNat j).getD (b + (1 : Int)).toNat (0 : Nat)) * (2 : Nat)) % 18446744073709551616) * (2 ^ (((63 : Int) - (Int.tmod g (64 : Int))) % (18446744073709551616 : Int)).toNat)) % 18446744073709551616))))))))))) else ck (I64 (b + (1 : Int))) (some (.inl ((b + (1 : Int)), (f.set (b.toNat) (((List.drop (Int.tdiv g (64 : Int)).toNat j).getD (b.toNat) (0 : Nat)) / (2 ^ ((Int.tmod g (64 : Int)) % (18446744073709551616 : Int)).toNat))))))))) else some (.inr f)
def aC5 (F : Md) (f : qa) (b : Int) : Option qa :=
 ck (I64 (Int.tdiv b (64 : Int))) (if (f.length : Int) ≤ (Int.tdiv b (64 : Int)) then some ([] : List Nat) else ck (I64 (Int.tdiv b (64 : Int))) (ck (0 ≤ (Int.tdiv b (64 : Int)) ∧ (Int.tdiv b (64 : Int)) ≤ (f.length : Int)) (ck (0 ≤ (((List.drop (Int.tdiv b (64 : Int)).toNat f).length : Nat) : Int)) (ck ((8 : Int) * (((List.drop (Int.tdiv b (64 : Int)).toNat f).length : Nat) : Int) ≤ 281474976710656) ((dG F (fun d : Int × qa => rI F b f d.1 d.2) ((0 : Int), (List.replicate (List.drop (Int.tdiv b (64 : Int)).toNat f).length (0 : Nat)))).bind (fun e => some (fA e)))))))
abbrev aVJ (a : List Nat) (n : Int) : Prop := Sz a ∧ 0 ≤ n
def uL (a : List Nat) (n : Int) : List Nat := lb (nv a / 2 ^ n.toNat)
structure bFt (a : List Nat) (r : Nat) (i : Int) (out : List Nat) : Prop where
 i0 : 0 ≤ i
 i1 : i ≤ a.length
 len : out.length = a.length
 lm : Lm out
 sum : nv (out.take i.toNat) = nv a / 2 ^ r % 18446744073709551616 ^ i.toNat
theorem bFu {w s r o : Nat} (b : o < 2 ^ s) : (o + 2 ^ s * w) % (2 ^ s * 2 ^ r) = o + 2 ^ s * (w % 2 ^ r) := by
 rw [Nat.mod_mul, Nat.add_mul_mod_self_left, Nat.mod_eq_of_lt b, Nat.add_mul_div_left _ _ (Nat.two_pow_pos s), Nat.div_eq_of_lt b, Nat.zero_add]
theorem bDs {x y z r : Nat} (j : x < 18446744073709551616) (b : r < 64) : (x + 18446744073709551616 * (y + 18446744073709551616 * z)) / 2 ^ r % 18446744073709551616 = x / 2 ^ r ||| y * 2 % 18446744073709551616 * 2 ^ (63 - r) % 18446744073709551616 := by
 have e0 : y * 2 % 18446744073709551616 * 2 ^ (63 - r) % 18446744073709551616 = 2 ^ (64 - r) * (y % 2 ^ r) := by
  rw [Nat.mul_mod (y * 2 % 18446744073709551616), Nat.mod_mod, ← Nat.mul_mod, Nat.mul_assoc, ← Nat.pow_succ', show (63 - r).succ = 64 - r from by omega, aVH _ _ (by omega), show 64 - (64 - r) = r from by omega]
 have g := aXC r (by omega)
 have f : x / 2 ^ r < 2 ^ (64 - r) := (Nat.div_lt_iff_lt_mul (Nat.two_pow_pos r)).2 (by omega)
 have hd : (x + 18446744073709551616 * (y + 18446744073709551616 * z)) / 2 ^ r = x / 2 ^ r + 2 ^ (64 - r) * (y + 18446744073709551616 * z) := by
  rw [show 18446744073709551616 * (y + 18446744073709551616 * z) = 2 ^ r * (2 ^ (64 - r) * (y + 18446744073709551616 * z)) from by grind, Nat.add_mul_div_left _ _ (Nat.two_pow_pos r)]
 have hm : (y + 18446744073709551616 * z) % 2 ^ r = y % 2 ^ r := by
  grind [Nat.mul_assoc, Nat.mul_comm, Nat.add_mul_mod_self_left]
 grind [aY8, bFu]
theorem bBx {a : List Nat} {r : Nat} {i : Int} {out : List Nat} (j : Lm a) (s : r < 64) (h : bFt a r i out) (hi : i < a.length) :
  bFt a r (i + 1) (out.set i.toNat (a.getD i.toNat 0 / 2 ^ r ||| a.getD (i.toNat + 1) 0 * 2 % 18446744073709551616 * 2 ^ (63 - r) % 18446744073709551616)) := by
 have h0 := h.i0
 have g := h.len
 have q : i.toNat < a.length := by omega
 have e1 : (i + 1).toNat = i.toNat + 1 := by omega
 have J := kK j i.toNat
 obtain ⟨z, I⟩ : ∃ z, nv (a.drop (i.toNat + 1)) = a.getD (i.toNat + 1) 0 + 18446744073709551616 * z := by
  rcases Nat.lt_or_ge (i.toNat + 1) a.length with b | b
  ·refine ⟨nv (a.drop (i.toNat + 1 + 1)), ?_⟩
   rw [List.drop_eq_getElem_cons b, tJ, List.getD_eq_getElem?_getD, List.getElem?_eq_getElem b]; rfl
  ·refine ⟨0, ?_⟩
   rw [List.drop_eq_nil_of_le b, List.getD_eq_getElem?_getD, List.getElem?_eq_none b]; rfl
 have hd : nv (a.drop i.toNat) = a.getD i.toNat 0 + 18446744073709551616 * (a.getD (i.toNat + 1) 0 + 18446744073709551616 * z) := by
  have L : a.getD i.toNat 0 = a[i.toNat] := by rw [List.getD_eq_getElem?_getD, List.getElem?_eq_getElem q]; rfl
  rw [List.drop_eq_getElem_cons q, tJ, I, L]
 have f : a.getD i.toNat 0 / 2 ^ r ||| a.getD (i.toNat + 1) 0 * 2 % 18446744073709551616 * 2 ^ (63 - r) % 18446744073709551616 = nv a / 2 ^ r / 18446744073709551616 ^ i.toNat % 18446744073709551616 := by
  rw [← bDs (z := z) J s, ← hd, aMN j, Nat.div_div_eq_div_mul, Nat.div_div_eq_div_mul, Nat.mul_comm (18446744073709551616 ^ i.toNat)]
 rw [f]
 refine ⟨by omega, by omega, by simp_all, aDw h.lm _ (Nat.mod_lt _ xAb), ?_⟩
 rw [e1, aPG (by omega), h.sum, Nat.pow_succ, Nat.mod_mul]
theorem aTB (a : List Nat) (wa : (Ty.sl qt).wf a) (n : Int) (U : (Ty.i .i64).wf n) (hp : aVJ a n) : aC5 none a n = some (uL a n) := by
 have g := aEK wa
 obtain ⟨s, O⟩ := hp
 have s : a.length ≤ 1099511627776 := s
 obtain ⟨w1, w2⟩ := wf_i64 U
 obtain ⟨z, d2⟩ := bDp O
 have L : n.toNat % 64 < 64 := Nat.mod_lt _ xAb
 have hq : n.toNat / 64 ≤ 9223372036854775807 := by omega
 have j := aUO n.toNat
 obtain ⟨Y, u2⟩ := aUM L
 unfold aC5 uL
 rw [z]
 refine aF (by omega) (aGr (fun h => ?_) (fun h => ?_))
 ·have : nv a / 2 ^ n.toNat = 0 := by
   refine Nat.div_eq_of_lt (Nat.lt_of_lt_of_le (sH g) ?_)
   grind [Nat.le_trans, Nat.pow_le_pow_right, Nat.le_mul_of_pos_right, Nat.two_pow_pos]
  rw [this, aCC]
 ·rw [← j, ← Nat.div_div_eq_div_mul, ← aMN g]
  generalize n.toNat / 64 = q at *
  generalize n.toNat % 64 = r at *
  rw [Int.toNat_natCast]
  have J := bFg g q
  have hA : (a.drop q).length = a.length - q := List.length_drop
  have f := lI (step := fun d : Int × qa => rI none n a d.1 d.2) (I := fun d => bFt (a.drop q) r d.1 d.2) (fun d => ((a.drop q).length - d.1).toNat) (fun e => nv e = nv (a.drop q) / 2 ^ r) ?_ (0, List.replicate (a.drop q).length 0) ⟨by simp, by simp, by simp, aOy _, by simp [nv, Nat.mod_one]⟩
  ·obtain ⟨e, N, W⟩ := f
   refine aF (by omega) (aF (by omega) (aF (by omega) (aF (by omega) (bP N ?_))))
   rw [fA, W]
  ·rintro ⟨i, out⟩ h
   have h : bFt (a.drop q) r i out := h
   have h0 := h.i0
   have N := h.i1
   have hl := h.len
   show (∃ d', rI none n a i out = _ ∧ _) ∨ ∃ e, rI none n a i out = _ ∧ _
   unfold rI
   rw [z, d2, Y, u2, Int.toNat_natCast]
   generalize a.drop q = A at *
   by_cases hi : i < A.length
   ·left
    have hs := bBx J L h hi
    rw [if_pos hi]
    by_cases b : i + 1 < A.length
    ·refine ⟨(_, _), ?_, hs, by omega⟩
     rw [if_pos b]
     simp only [List.length_set]
     refine aF (by omega) (aF (by omega) (aF (by omega) (aF (by omega) (aF (by omega) (aF (by omega) (aF (by omega) (aF (by omega) (aF (by omega) ?_))))))))
     rw [show (i + 1).toNat = i.toNat + 1 from by omega, List.set_set, List.getD_eq_getElem?_getD (l := out.set _ _), List.getElem?_set_self (by omega)]
     rfl
    ·have Z : A.getD (i.toNat + 1) 0 = 0 := by grind
     rw [Z] at hs
     simp only [Nat.zero_mul, Nat.zero_mod, Nat.or_zero] at hs
     refine ⟨(_, _), ?_, hs, by omega⟩
     rw [if_neg b]
     exact aF (by omega) (aF (by omega) (aF (by omega) (aF (by omega) rfl)))
   ·right
    refine ⟨out, by grind, ?_⟩
    have := h.sum
    rw [show i.toNat = A.length from by omega, List.take_of_length_le (by omega)] at this
    rw [this]
    exact Nat.mod_eq_of_lt (Nat.lt_of_le_of_lt (Nat.div_le_self _ _) (sH J))
end
end Nu
end Go.Proofs
namespace Go.Proofs
open Go.Vc
set_option maxRecDepth 20000
namespace Nu
noncomputable section
theorem bGR {N M : Nat} (h : M ≤ N) (b : N - M < 18446744073709551616) : aIv .u64 (N % 18446744073709551616) (M % 18446744073709551616) = N - M := by
 rw [aJ7, bAr]; omega
structure DI (V u u1 q r : Nat) : Prop where
 lo : 9223372036854775808 ≤ V
 hi : V < 18446744073709551616
 uV : u < V
 ul : u1 < 4294967296
 eq : q * (V / 4294967296) + r = u
 ge : (u * 4294967296 + u1) / V ≤ q
 r1 : r < 4294967296
theorem bGS {V u u1 q r : Nat} (h : DI V u u1 q r) : q * V + r * 4294967296 = u * 4294967296 + q * (V % 4294967296) := by
 have e := Nat.div_add_mod V 4294967296
 have := h.eq
 grind
theorem bDt {V u u1 q r : Nat} (h : DI V u u1 q r) : (u * 4294967296 + u1) / V < 4294967296 := by
 have f := h.uV
 have b := h.ul
 refine (Nat.div_lt_iff_lt_mul (by omega)).2 ?_
 omega
theorem aRi {V u u1 q r : Nat} (h : DI V u u1 q r) : (4294967296 ≤ q ∨ (aG1 .u64 4294967296 r + u1) % 18446744073709551616 < aG1 .u64 q (V % 4294967296)) ↔ (u * 4294967296 + u1) / V < q := by
 have hs := bDt h
 have hm := bGS h
 have f := h.r1
 have b := h.ul
 have hV := h.lo
 rcases Nat.lt_or_ge q 4294967296 with hq | hq
 ·have hv : V % 4294967296 ≤ 4294967295 := by omega
  have p : q * (V % 4294967296) ≤ 4294967295 * 4294967295 := Nat.mul_le_mul (by omega) hv
  rw [aPF, aPF, Nat.div_lt_iff_lt_mul (by omega)]
  omega
 omega
theorem bDu {V u u1 q r : Nat} (h : DI V u u1 q r) (hc : (u * 4294967296 + u1) / V < q) : (r + V / 4294967296) % 18446744073709551616 = r + V / 4294967296 ∧ aIv .u64 q 1 = q - 1 ∧ (4294967296 ≤ r + V / 4294967296 → q - 1 = (u * 4294967296 + u1) / V) ∧ (r + V / 4294967296 < 4294967296 → DI V u u1 (q - 1) (r + V / 4294967296)) := by
 have Y := h.r1
 have J := h.hi
 have I := h.lo
 have Z := h.eq
 have N := h.uV
 have j := h.ul
 have U := Nat.zero_le ((u * 4294967296 + u1) / V)
 obtain ⟨p, rfl⟩ : ∃ p, q = p + 1 := ⟨q - 1, by omega⟩
 have f : p * (V / 4294967296) + (r + V / 4294967296) = u := by grind
 have L : (p + 1) * (V / 4294967296) < 18446744073709551616 := by omega
 have g : p + 1 < 18446744073709551616 := by
  have : (p + 1) * 1 ≤ (p + 1) * (V / 4294967296) := Nat.mul_le_mul_left _ (by omega)
  omega
 refine ⟨by omega, aXv g (by omega), fun s => ?_, fun s => ⟨I, J, N, j, f, by omega, s⟩⟩
 simp only [Nat.add_sub_cancel]
 refine Nat.le_antisymm ?_ (by omega)
 refine (Nat.le_div_iff_mul_le (by omega)).2 ?_
 have W := Nat.div_add_mod V 4294967296
 have b : V % 4294967296 ≤ 4294967295 := by omega
 generalize V / 4294967296 = v1 at *
 generalize V % 4294967296 = v0 at *
 have hp : p ≤ 4294967295 := by
  rcases Nat.lt_or_ge p 4294967296 with z | z
  ·omega
  ·have := Nat.mul_le_mul_right v1 z
   omega
 have O : p * v0 ≤ 4294967295 * 4294967295 := Nat.mul_le_mul hp b
 grind [Nat.mul_add, Nat.mul_left_comm]
theorem aXD {V u u1 : Nat} (j : 9223372036854775808 ≤ V) (f : V < 18446744073709551616) (b : u < V) (g : u1 < 4294967296) : aIv .u64 u (aG1 .u64 (u / (V / 4294967296)) (V / 4294967296)) = u % (V / 4294967296) ∧ DI V u u1 (u / (V / 4294967296)) (u % (V / 4294967296)) := by
 have e := Nat.div_add_mod u (V / 4294967296)
 have m := Nat.mod_lt u (show 0 < V / 4294967296 by omega)
 have q : (V / 4294967296) * (u / (V / 4294967296)) ≤ u := by omega
 constructor
 ·grind [aPF, Nat.mul_comm, Nat.mod_eq_of_lt, aXv]
 ·refine ⟨j, f, b, g, by grind, ?_, by omega⟩
  refine (Nat.le_div_iff_mul_le (by omega)).2 ?_
  have r := Nat.div_add_mod V 4294967296
  have d := Nat.div_mul_le_self (u * 4294967296 + u1) V
  grind [Nat.mul_add, Nat.mul_left_comm, Nat.mul_comm]
abbrev aD0 (hi lo y : Nat) : Prop := hi < y
def pU (hi lo y : Nat) : Nat × Nat × Unit := ((hi * 18446744073709551616 + lo) / y, (hi * 18446744073709551616 + lo) % y, ())
def vS (F : Md) (g : Nat) (q : Nat) (b : Nat) (j : Nat) (f : Nat) : Option (Nat × (Nat × Unit)) :=
 some ((((mulM F .u64 g (4294967296 : Nat)) + f) % 18446744073709551616), ((uI F .u64 (((mulM F .u64 (uI F .u64 (((mulM F .u64 (((q * (2 ^ ((aB b) % (18446744073709551616 : Int)).toNat)) % 18446744073709551616) ||| (j / (2 ^ (uI F .u64 (64 : Nat) ((aB b) % (18446744073709551616 : Int)).toNat)))) (4294967296 : Nat)) + (((j * (2 ^ ((aB b) % (18446744073709551616 : Int)).toNat)) % 18446744073709551616) / (4294967296 : Nat))) % 18446744073709551616) (mulM F .u64 g ((b * (2 ^ ((aB b) % (18446744073709551616 : Int)).toNat)) % 18446744073709551616))) (4294967296 : Nat)) + (((j * (2 ^ ((aB b) % (18446744073709551616 : Int)).toNat)) % 18446744073709551616) &&& (4294967295 : Nat))) % 18446744073709551616) (mulM F .u64 f ((b * (2 ^ ((aB b) % (18446744073709551616 : Int)).toNat)) % 18446744073709551616))) / (2 ^ ((aB b) % (18446744073709551616 : Int)).toNat)), ())
def lQ (F : Md) (j : Nat) (g : Nat) (f : Nat) (b : Nat) : Option ((Nat × Nat) ⊕ (Nat)) :=
 if ((4294967296 : Nat) ≤ b) ∨ ((((mulM F .u64 (4294967296 : Nat) f) + (((j * (2 ^ ((aB g) % (18446744073709551616 : Int)).toNat)) % 18446744073709551616) &&& (4294967295 : Nat))) % 18446744073709551616) < (mulM F .u64 b (((g * (2 ^ ((aB g) % (18446744073709551616 : Int)).toNat)) % 18446744073709551616) &&& (4294967295 : Nat)))) then if (4294967296 : Nat) ≤ ((f + (((g * (2 ^ ((aB g) % (18446744073709551616 : Int)).toNat)) % 18446744073709551616) / (4294967296 : Nat))) % 18446744073709551616) then some (.inr (uI F .u64 b (1 : Nat))) else some (.inl (((f + (((g * (2 ^ ((aB g) % (18446744073709551616 : Int)).toNat)) % 18446744073709551616) / (4294967296 : Nat))) % 18446744073709551616), (uI F .u64 b (1 : Nat)))) else some (.inr b)
def vT (F : Md) (b : Nat) (f : Nat) (j : Nat) (g : Nat) : Option (Nat × (Nat × Unit)) :=
 ck ((((b * (2 ^ ((aB b) % (18446744073709551616 : Int)).toNat)) % 18446744073709551616) / (4294967296 : Nat)) ≠ 0) ((dG F (fun d : Nat × Nat => lQ F f b d.1 d.2) ((uI F .u64 (uI F .u64 (((mulM F .u64 (((j * (2 ^ ((aB b) % (18446744073709551616 : Int)).toNat)) % 18446744073709551616) ||| (f / (2 ^ (uI F .u64 (64 : Nat) ((aB b) % (18446744073709551616 : Int)).toNat)))) (4294967296 : Nat)) + (((f * (2 ^ ((aB b) % (18446744073709551616 : Int)).toNat)) % 18446744073709551616) / (4294967296 : Nat))) % 18446744073709551616) (mulM F .u64 g ((b * (2 ^ ((aB b) % (18446744073709551616 : Int)).toNat)) % 18446744073709551616))) (mulM F .u64 ((uI F .u64 (((mulM F .u64 (((j * (2 ^ ((aB b) % (18446744073709551616 : Int)).toNat)) % 18446744073709551616) ||| (f / (2 ^ (uI F .u64 (64 : Nat) ((aB b) % (18446744073709551616 : Int)).toNat)))) (4294967296 : Nat)) + (((f * (2 ^ ((aB b) % (18446744073709551616 : Int)).toNat)) % 18446744073709551616) / (4294967296 : Nat))) % 18446744073709551616) (mulM F .u64 g ((b * (2 ^ ((aB b) % (18446744073709551616 : Int)).toNat)) % 18446744073709551616))) / (((b * (2 ^ ((aB b) % (18446744073709551616 : Int)).toNat)) % 18446744073709551616) / (4294967296 : Nat))) (((b * (2 ^ ((aB b) % (18446744073709551616 : Int)).toNat)) % 18446744073709551616) / (4294967296 : Nat)))), ((uI F .u64 (((mulM F .u64 (((j * (2 ^ ((aB b) % (18446744073709551616 : Int)).toNat)) % 18446744073709551616) ||| (f / (2 ^ (uI F .u64 (64 : Nat) ((aB b) % (18446744073709551616 : Int)).toNat)))) (4294967296 : Nat)) + (((f * (2 ^ ((aB b) % (18446744073709551616 : Int)).toNat)) % 18446744073709551616) / (4294967296 : Nat))) % 18446744073709551616) (mulM F .u64 g ((b * (2 ^ ((aB b) % (18446744073709551616 : Int)).toNat)) % 18446744073709551616))) / (((b * (2 ^ ((aB b) % (18446744073709551616 : Int)).toNat)) % 18446744073709551616) / (4294967296 : Nat))))).bind (fun e => vS F g j b f e))
def lR (F : Md) (j : Nat) (g : Nat) (b : Nat) (f : Nat) : Option ((Nat × Nat) ⊕ (Nat)) :=
 if ((4294967296 : Nat) ≤ b) ∨ ((((mulM F .u64 (4294967296 : Nat) f) + (((j * (2 ^ ((aB g) % (18446744073709551616 : Int)).toNat)) % 18446744073709551616) / (4294967296 : Nat))) % 18446744073709551616) < (mulM F .u64 b (((g * (2 ^ ((aB g) % (18446744073709551616 : Int)).toNat)) % 18446744073709551616) &&& (4294967295 : Nat)))) then if (4294967296 : Nat) ≤ ((f + (((g * (2 ^ ((aB g) % (18446744073709551616 : Int)).toNat)) % 18446744073709551616) / (4294967296 : Nat))) % 18446744073709551616) then some (.inr (uI F .u64 b (1 : Nat))) else some (.inl ((uI F .u64 b (1 : Nat)), ((f + (((g * (2 ^ ((aB g) % (18446744073709551616 : Int)).toNat)) % 18446744073709551616) / (4294967296 : Nat))) % 18446744073709551616))) else some (.inr b)
def aBx (F : Md) (g : Nat) (f : Nat) (b : Nat) : Option (Nat × (Nat × Unit)) :=
 if b = (0 : Nat) then none else if b ≤ g then none else if g = (0 : Nat) then ck (b ≠ 0) (ck (b ≠ 0) (some ((f / b), (f % b), ()))) else ck ((((b * (2 ^ ((aB b) % (18446744073709551616 : Int)).toNat)) % 18446744073709551616) / (4294967296 : Nat)) ≠ 0) ((dG F (fun d : Nat × Nat => lR F f b d.1 d.2) (((((g * (2 ^ ((aB b) % (18446744073709551616 : Int)).toNat)) % 18446744073709551616) ||| (f / (2 ^ (uI F .u64 (64 : Nat) ((aB b) % (18446744073709551616 : Int)).toNat)))) / (((b * (2 ^ ((aB b) % (18446744073709551616 : Int)).toNat)) % 18446744073709551616) / (4294967296 : Nat))), (uI F .u64 (((g * (2 ^ ((aB b) % (18446744073709551616 : Int)).toNat)) % 18446744073709551616) ||| (f / (2 ^ (uI F .u64 (64 : Nat) ((aB b) % (18446744073709551616 : Int)).toNat)))) (mulM F .u64 ((((g * (2 ^ ((aB b) % (18446744073709551616 : Int)).toNat)) % 18446744073709551616) ||| (f / (2 ^ (uI F .u64 (64 : Nat) ((aB b) % (18446744073709551616 : Int)).toNat)))) / (((b * (2 ^ ((aB b) % (18446744073709551616 : Int)).toNat)) % 18446744073709551616) / (4294967296 : Nat))) (((b * (2 ^ ((aB b) % (18446744073709551616 : Int)).toNat)) % 18446744073709551616) / (4294967296 : Nat)))))).bind (fun e => vT F b f g e))
theorem aRj (x : Nat) : x &&& 4294967295 = x % 4294967296 := Nat.and_two_pow_sub_one_eq_mod x 32
theorem bGT {lo y s : Nat} {u : Nat} (hs : (aB y % (18446744073709551616 : Int)).toNat = s) (h : ∀ V, V = y * 2 ^ s % 18446744073709551616 → 9223372036854775808 ≤ V ∧ u < V) :
  aGn (fun d : Nat × Nat => lR none lo y d.1 d.2) (u / (y * 2 ^ s % 18446744073709551616 / 4294967296), aIv .u64 u (aG1 .u64 (u / (y * 2 ^ s % 18446744073709551616 / 4294967296)) (y * 2 ^ s % 18446744073709551616 / 4294967296))) = some ((u * 4294967296 + lo * 2 ^ s % 18446744073709551616 / 4294967296) / (y * 2 ^ s % 18446744073709551616)) := by
 have hV := Nat.mod_lt (y * 2 ^ s) (show 0 < 18446744073709551616 by decide)
 have L := Nat.mod_lt (lo * 2 ^ s) (show 0 < 18446744073709551616 by decide)
 have step : ∀ q r, lR none lo y q r = if 4294967296 ≤ q ∨ (aG1 .u64 4294967296 r + lo * 2 ^ s % 18446744073709551616 / 4294967296) % 18446744073709551616 < aG1 .u64 q (y * 2 ^ s % 18446744073709551616 % 4294967296) then if 4294967296 ≤ (r + y * 2 ^ s % 18446744073709551616 / 4294967296) % 18446744073709551616 then some (.inr (aIv .u64 q 1)) else some (.inl (aIv .u64 q 1, (r + y * 2 ^ s % 18446744073709551616 / 4294967296) % 18446744073709551616)) else some (.inr q) := fun q r => by
  unfold lR; rw [hs, aRj]; rfl
 obtain ⟨z, j⟩ := h _ rfl
 generalize y * 2 ^ s % 18446744073709551616 = V at *
 have f : lo * 2 ^ s % 18446744073709551616 / 4294967296 < 4294967296 := by omega
 generalize lo * 2 ^ s % 18446744073709551616 / 4294967296 = b at *
 obtain ⟨e0, i0⟩ := aXD z hV j f
 rw [e0]
 refine aBq (I := fun d => DI V u b d.1 d.2) (fun d => d.1) (fun _ => (u * 4294967296 + b) / V) ?_ (u / (V / 4294967296), u % (V / 4294967296)) i0
 rintro ⟨q, r⟩ hi
 have hi : DI V u b q r := hi
 show (∃ d', lR none lo y q r = _ ∧ _) ∨ lR none lo y q r = _
 rw [step]
 by_cases hc : (u * 4294967296 + b) / V < q
 ·obtain ⟨g, J, N, O⟩ := bDu hi hc
  rw [if_pos ((aRi hi).2 hc), g, J]
  grind
 ·right
  rw [if_neg (fun h => hc ((aRi hi).1 h))]
  have := hi.ge
  grind
theorem bGU {lo y s : Nat} {u : Nat} (hs : (aB y % (18446744073709551616 : Int)).toNat = s) (h : ∀ V, V = y * 2 ^ s % 18446744073709551616 → 9223372036854775808 ≤ V ∧ u < V) :
  aGn (fun d : Nat × Nat => lQ none lo y d.1 d.2) (aIv .u64 u (aG1 .u64 (u / (y * 2 ^ s % 18446744073709551616 / 4294967296)) (y * 2 ^ s % 18446744073709551616 / 4294967296)), u / (y * 2 ^ s % 18446744073709551616 / 4294967296)) = some ((u * 4294967296 + lo * 2 ^ s % 18446744073709551616 % 4294967296) / (y * 2 ^ s % 18446744073709551616)) := by
 have hV := Nat.mod_lt (y * 2 ^ s) (show 0 < 18446744073709551616 by decide)
 have step : ∀ q r, lQ none lo y r q = if 4294967296 ≤ q ∨ (aG1 .u64 4294967296 r + lo * 2 ^ s % 18446744073709551616 % 4294967296) % 18446744073709551616 < aG1 .u64 q (y * 2 ^ s % 18446744073709551616 % 4294967296) then if 4294967296 ≤ (r + y * 2 ^ s % 18446744073709551616 / 4294967296) % 18446744073709551616 then some (.inr (aIv .u64 q 1)) else some (.inl ((r + y * 2 ^ s % 18446744073709551616 / 4294967296) % 18446744073709551616, aIv .u64 q 1)) else some (.inr q) := fun q r => by
  unfold lQ; rw [hs, aRj, aRj]; rfl
 obtain ⟨z, j⟩ := h _ rfl
 generalize y * 2 ^ s % 18446744073709551616 = V at *
 have f : lo * 2 ^ s % 18446744073709551616 % 4294967296 < 4294967296 := Nat.mod_lt _ xAb
 generalize lo * 2 ^ s % 18446744073709551616 % 4294967296 = b at *
 obtain ⟨e0, i0⟩ := aXD z hV j f
 rw [e0]
 refine aBq (I := fun d => DI V u b d.2 d.1) (fun d => d.2) (fun _ => (u * 4294967296 + b) / V) ?_ (u % (V / 4294967296), u / (V / 4294967296)) i0
 rintro ⟨r, q⟩ hi
 have hi : DI V u b q r := hi
 show (∃ d', lQ none lo y r q = _ ∧ _) ∨ lQ none lo y r q = _
 rw [step]
 by_cases hc : (u * 4294967296 + b) / V < q
 ·obtain ⟨g, J, L, N⟩ := bDu hi hc
  rw [if_pos ((aRi hi).2 hc), g, J]
  grind
 ·right
  rw [if_neg (fun h => hc ((aRi hi).1 h))]
  have := hi.ge
  grind
theorem aPI {N V : Nat} : N - N / V * V = N % V := by
 grind [Nat.div_add_mod, Nat.mul_comm]
theorem bDv {V u u1 : Nat} (f : 0 < V) (g : V < 18446744073709551616) (b : u1 < 4294967296) : aIv .u64 ((aG1 .u64 u 4294967296 + u1) % 18446744073709551616) (aG1 .u64 ((u * 4294967296 + u1) / V) V) = (u * 4294967296 + u1) % V := by
 have m := Nat.mod_lt (u * 4294967296 + u1) f
 rw [aPF, aPF, Nat.mod_add_mod, bGR (Nat.div_mul_le_self _ _) (by grind [aPI, Nat.lt_trans]), aPI]
theorem bAw {V N W un0 : Nat} (hV : 0 < V) : N / V * W + (N % V * W + un0) / V = (N * W + un0) / V ∧ (N % V * W + un0) % V = (N * W + un0) % V := by
 have e := Nat.div_add_mod N V
 have : N * W + un0 = N % V * W + un0 + V * (N / V * W) := by
  grind
 rw [this, Nat.add_mul_div_left _ _ hV, Nat.add_mul_mod_self_left]
 omega
theorem bGV (A C : Nat) : (A * 4294967296 + C / 4294967296) * 4294967296 + C % 4294967296 = A * 18446744073709551616 + C := by omega
theorem aSk (hi : Nat) (Z : (Ty.u .u64).wf hi) (lo : Nat) (wl : (Ty.u .u64).wf lo) (y : Nat) (wy : (Ty.u .u64).wf y) (hp : aD0 hi lo y) : aBx none hi lo y = some (pU hi lo y) := by
 have hh := aLD Z
 have hl := aLD wl
 have hy := aLD wy
 have hp : hi < y := hp
 have hb := bDi hy
 have hb1 := aY3 (x := y) (by omega)
 have hs : (aB y % (18446744073709551616 : Int)).toNat = 64 - bl y := by grind [aB]
 have g : aIv .u64 64 (64 - bl y) = 64 - (64 - bl y) := aXv (by omega) (by omega)
 have q := aY4 (x := y) (by omega)
 have hlt := bDg y
 unfold aBx pU
 try simp only [uI, mulM, aMJ]
 rw [if_neg (by omega), if_neg (by omega), hs]
 refine aGr (fun h => ?_) (fun h => ?_)
 ·subst h
  refine aF (by omega) (aF (by omega) ?_)
  simp_all
 ·rw [g]
  generalize hsd : 64 - bl y = s at *
  have U : s ≤ 63 := by omega
  have b := Nat.two_pow_pos s
  have h2s : 2 ^ (64 - s) * 2 ^ s = 18446744073709551616 := aXC s (by omega)
  have f : y * 2 ^ s < 18446744073709551616 := by
   rw [← h2s, show 64 - s = bl y from by omega]
   simp_all
  have hyL : 9223372036854775808 ≤ y * 2 ^ s := by
   have := Nat.mul_le_mul_right (2 ^ s) q
   rw [← Nat.pow_add, show bl y - 1 + s = 63 from by omega] at this
   omega
  have I : hi * 2 ^ s % 18446744073709551616 ||| lo / 2 ^ (64 - s) = (hi * 18446744073709551616 + lo) * 2 ^ s / 18446744073709551616 := by
   have h1 : hi * 2 ^ s < 18446744073709551616 := Nat.lt_trans (Nat.mul_lt_mul_of_pos_right hp b) f
   have Y : lo / 2 ^ (64 - s) < 2 ^ s := (Nat.div_lt_iff_lt_mul (Nat.two_pow_pos _)).2 (by grind)
   rw [Nat.mod_eq_of_lt h1, Nat.or_comm, Nat.mul_comm hi, aY8 Y, Nat.add_mul, Nat.mul_assoc, Nat.mul_comm 18446744073709551616, ← Nat.mul_assoc, Nat.add_comm (hi * 2 ^ s * 18446744073709551616), Nat.add_mul_div_right _ _ xAb, ← h2s, Nat.mul_div_mul_right _ _ b, Nat.mul_comm hi]
  have hUV : (hi * 18446744073709551616 + lo) * 2 ^ s / 18446744073709551616 < y * 2 ^ s := by
   refine (Nat.div_lt_iff_lt_mul xAb).2 ?_
   rw [Nat.mul_right_comm y]
   exact Nat.mul_lt_mul_of_pos_right (by omega) b
  have j : lo * 2 ^ s % 18446744073709551616 = (hi * 18446744073709551616 + lo) * 2 ^ s % 18446744073709551616 := by
   grind
  have z : y * 2 ^ s % 18446744073709551616 = y * 2 ^ s := Nat.mod_eq_of_lt f
  have eN := Nat.div_add_mod ((hi * 18446744073709551616 + lo) * 2 ^ s) 18446744073709551616
  have mN := Nat.mod_lt ((hi * 18446744073709551616 + lo) * 2 ^ s) (show 0 < 18446744073709551616 by decide)
  rw [I]
  refine aF (by omega) (bP (bGT hs (fun V e => by omega)) ?_)
  unfold vT
  try simp only [uI, mulM, aMJ]
  rw [hs, g, I]
  have O := bDv (V := y * 2 ^ s % 18446744073709551616) (u := (hi * 18446744073709551616 + lo) * 2 ^ s / 18446744073709551616) (u1 := lo * 2 ^ s % 18446744073709551616 / 4294967296) (by omega) (by omega) (by omega)
  rw [O]
  refine aF (by omega) (bP (bGU hs (fun V e => by rw [e]; exact ⟨by omega, Nat.mod_lt _ (by omega)⟩)) ?_)
  unfold vS
  try simp only [uI, mulM, aMJ]
  rw [hs, g, I, O, aRj, z, j]
  have r := bDv (V := y * 2 ^ s) (u := ((hi * 18446744073709551616 + lo) * 2 ^ s / 18446744073709551616 * 4294967296 + (hi * 18446744073709551616 + lo) * 2 ^ s % 18446744073709551616 / 4294967296) % (y * 2 ^ s)) (u1 := (hi * 18446744073709551616 + lo) * 2 ^ s % 18446744073709551616 % 4294967296) (by omega) f (Nat.mod_lt _ xAb)
  rw [r]
  obtain ⟨L, J⟩ := bAw (V := y * 2 ^ s) (N := (hi * 18446744073709551616 + lo) * 2 ^ s / 18446744073709551616 * 4294967296 + (hi * 18446744073709551616 + lo) * 2 ^ s % 18446744073709551616 / 4294967296) (W := 4294967296) (un0 := (hi * 18446744073709551616 + lo) * 2 ^ s % 18446744073709551616 % 4294967296) (by omega)
  have eW := (bGV ((hi * 18446744073709551616 + lo) * 2 ^ s / 18446744073709551616) ((hi * 18446744073709551616 + lo) * 2 ^ s % 18446744073709551616)).trans ((congrArg (· + (hi * 18446744073709551616 + lo) * 2 ^ s % 18446744073709551616) (Nat.mul_comm _ _)).trans eN)
  rw [eW] at L J
  rw [J, aPF, Nat.mod_add_mod, L, Nat.mul_div_mul_right _ _ b, Nat.mul_mod_mul_right, Nat.mul_div_cancel _ b]
  have hq : (hi * 18446744073709551616 + lo) / y < 18446744073709551616 := (Nat.div_lt_iff_lt_mul (by omega)).2 (by omega)
  simp_all
end
end Nu
end Go.Proofs
namespace Go.Proofs
open Go.Vc
set_option maxRecDepth 20000
namespace Nu
noncomputable section
abbrev aJh (a : List Nat) (b : Nat) : Prop := b ≠ 0 ∧ Sz a
def aAU (a : List Nat) (b : Nat) : List Nat × List Nat × Unit := (lb (nv a / b), lb (nv a % b), ())
def xM (F : Md) (b : Nat) (f : qa) : Option qw :=
 some ((fA f), (fA ([b] : List Nat)), ())
def rJ (F : Md) (j : qa) (q : Nat) (f : Nat) (b : Int) (g : qa) : Option ((Nat × Int × qa) ⊕ vf) :=
 if (0 : Int) ≤ b then ck (0 ≤ b ∧ b < (j.length : Int)) (ck (aD0 f (j.getD (b.toNat) (0 : Nat)) q) (ck (0 ≤ b ∧ b < (g.length : Int)) (ck (I64 (b - (1 : Int))) (some (.inl ((pU f (j.getD (b.toNat) (0 : Nat)) q).2.1, (b - (1 : Int)), (g.set (b.toNat) (pU f (j.getD (b.toNat) (0 : Nat)) q).1))))))) else some (.inr (f, g))
def aC6 (F : Md) (b : qa) (f : Nat) : Option qw :=
 ck (0 ≤ (b.length : Int)) (ck ((8 : Int) * (b.length : Int) ≤ 281474976710656) (ck (I64 ((b.length : Int) - (1 : Int))) ((dG F (fun d : Nat × Int × qa => rJ F b f d.1 d.2.1 d.2.2) ((0 : Nat), ((b.length : Int) - (1 : Int)), (List.replicate (b.length) (0 : Nat)))).bind (fun e => xM F e.1 e.2))))
structure aVK (a : List Nat) (b : Nat) (rest : Nat) (i : Int) (q : List Nat) : Prop where
 i0 : -1 ≤ i
 i1 : i < a.length
 len : q.length = a.length
 lm : Lm q
 sum : nv q = nv a / 18446744073709551616 ^ (i + 1).toNat / b * 18446744073709551616 ^ (i + 1).toNat
 res : rest = nv a / 18446744073709551616 ^ (i + 1).toNat % b
theorem aXE {a : List Nat} {b rest : Nat} {i : Int} {q : List Nat} (g : Lm a) (hb : b ≠ 0) (h : aVK a b rest i q) (hi : 0 ≤ i) :
  rest < b ∧ aVK a b ((rest * 18446744073709551616 + a.getD i.toNat 0) % b) (i - 1) (q.set i.toNat ((rest * 18446744073709551616 + a.getD i.toNat 0) / b)) := by
 have U := h.i1
 have Y := h.len
 have j : rest < b := by rw [h.res]; exact Nat.mod_lt _ (by omega)
 have O := kK g i.toNat
 have e1 : (i + 1).toNat = i.toNat + 1 := by omega
 have I : (i - 1 + 1).toNat = i.toNat := by omega
 have z : nv a / 18446744073709551616 ^ i.toNat = nv a / 18446744073709551616 ^ (i.toNat + 1) * 18446744073709551616 + a.getD i.toNat 0 := by
  rw [aAs g, Nat.pow_succ, ← Nat.div_div_eq_div_mul, Nat.mul_comm, Nat.div_add_mod]
 obtain ⟨r, s⟩ := bAw (V := b) (N := nv a / 18446744073709551616 ^ (i.toNat + 1)) (W := 18446744073709551616) (un0 := a.getD i.toNat 0) (by omega)
 have hs := h.sum
 have f := h.res
 rw [e1] at hs f
 rw [← f, ← z] at r s
 have L : q.getD i.toNat 0 = 0 := by
  rw [aAs h.lm, hs, Nat.pow_succ, Nat.mul_comm (18446744073709551616 ^ i.toNat) 18446744073709551616, ← Nat.mul_assoc, Nat.mul_div_cancel _ (Nat.pow_pos xAb), Nat.mul_mod_left]
 have hv : (rest * 18446744073709551616 + a.getD i.toNat 0) / b < 18446744073709551616 := by
  refine (Nat.div_lt_iff_lt_mul (by omega)).2 ?_
  omega
 refine ⟨j, by omega, by omega, by simp_all, aDw h.lm _ hv, ?_, ?_⟩
 ·have J := aFY (a := q) (k := i.toNat) (v := (rest * 18446744073709551616 + a.getD i.toNat 0) / b) (by omega)
  grind
 simp_all
theorem aTC (a : List Nat) (L : (Ty.sl qt).wf a) (b : Nat) (W : (Ty.u .u64).wf b) (hp : aJh a b) : aC6 none a b = some (aAU a b) := by
 have j := aEK L
 obtain ⟨hb, g⟩ := hp
 have g : a.length ≤ 1099511627776 := g
 unfold aC6 aAU
 have f := lI (step := fun d : Nat × Int × qa => rJ none a b d.1 d.2.1 d.2.2) (I := fun d => aVK a b d.1 d.2.1 d.2.2) (fun d => (d.2.1 + 1).toNat) (fun e => e.1 = nv a % b ∧ nv e.2 = nv a / b) ?_ (0, (a.length : Int) - 1, List.replicate a.length 0) ?_
 ·obtain ⟨e, r, J, z⟩ := f
  refine aF (by omega) (aF (by omega) (aF (by omega) (bP r ?_)))
  unfold xM
  rw [fA, fA, z, J]
  rfl
 ·rintro ⟨rest, i, q⟩ h
  have h : aVK a b rest i q := h
  have r := h.i1
  have Y := h.len
  show (∃ d', rJ none a b rest i q = _ ∧ _) ∨ ∃ e, rJ none a b rest i q = _ ∧ _
  unfold rJ
  by_cases hi : 0 ≤ i
  ·left
   obtain ⟨O, N⟩ := aXE j hb h hi
   rw [if_pos hi]
   refine ⟨(_, _, _), aF (by omega) (aF O (aF (by omega) (aF (by omega) rfl))), N, by grind⟩
  ·right
   refine ⟨(rest, q), by grind, ?_⟩
   have h0 := h.i0
   have hs := h.sum
   have U := h.res
   grind
 ·have e : ((a.length : Int) - 1 + 1).toNat = a.length := by omega
  have s : nv a / 18446744073709551616 ^ a.length = 0 := Nat.div_eq_of_lt (sH j)
  exact ⟨by grind, by grind, by simp, aOy _, by simp only; rw [e, s, aOx, Nat.zero_div, Nat.zero_mul], by grind [Nat.zero_mod]⟩
end
end Nu
end Go.Proofs
namespace Go.Proofs
open Go.Vc
set_option maxRecDepth 20000
namespace Nu
noncomputable section
abbrev aD1 (a : List Nat) (n : Int) : Prop := a.length ≤ n ∧ n ≤ 1099511627777
def fN (a : List Nat) (n : Int) : List Nat := a ++ List.replicate (n.toNat - a.length) 0
def aBy (F : Md) (b : qa) (f : Int) : Option qa :=
 ck (bBr b) (ck (I64 (f - (b.length : Int))) (ck (0 ≤ (f - (b.length : Int))) (ck (((id b).length + (f - (b.length : Int)).toNat) * 8 ≤ 140737488355328) (some ((id b) ++ (List.replicate (f - (b.length : Int)).toNat (0 : Nat)))))))
theorem aSl (a : List Nat) (g : (Ty.sl qt).wf a) (n : Int) (j : (Ty.i .i64).wf n) (hp : aD1 a n) : aBy none a n = some (fN a n) := by
 obtain ⟨q, f⟩ := hp
 have b : bBr a := by omega
 unfold aBy fN
 simp only [id]
 refine aF b (aF (by omega) (aF (by omega) (aF (by omega) ?_)))
 simp_all
def xN (F : Md) (b : qa) (j : Nat) (f : Nat) (q : Nat) (carry_31 : Nat) (g : qa) : Option vf :=
 ck (0 ≤ (b.length : Int) ∧ (b.length : Int) < ((j : Nat) : Int)) (ck (f + (b.length) < (g.length)) (ck (0 ≤ (b.length : Int) ∧ (b.length : Int) < ((j : Nat) : Int)) (ck (f + (b.length) < (g.length)) (some ((uI F .u64 q (1 : Nat)), (g.set (f + (b.length)) (((g.getD (f + (b.length)) (0 : Nat)) + carry_31) % 18446744073709551616)))))))
def mZ (F : Md) (j : qa) (q : Nat) (g : Nat) (carry_33 : Nat) (b : Int) (f : qa) : Option ((Nat × Int × qa) ⊕ vf) :=
 if b < (j.length : Int) then ck (0 ≤ b ∧ b < (j.length : Int)) (ck (0 ≤ b ∧ b < ((q : Nat) : Int)) (ck (g + (b.toNat) < (f.length)) (ck (aEJ (f.getD (g + (b.toNat)) (0 : Nat)) (j.getD (b.toNat) (0 : Nat)) carry_33) (ck (0 ≤ b ∧ b < ((q : Nat) : Int)) (ck (g + (b.toNat) < (f.length)) (ck (I64 (b + (1 : Int))) (some (.inl ((rE (f.getD (g + (b.toNat)) (0 : Nat)) (j.getD (b.toNat) (0 : Nat)) carry_33).2.1, (b + (1 : Int)), (f.set (g + (b.toNat)) (rE (f.getD (g + (b.toNat)) (0 : Nat)) (j.getD (b.toNat) (0 : Nat)) carry_33).1)))))))))) else some (.inr (carry_33, f))
def xO (F : Md) (f : qa) (j : Nat) (b : Nat) (q : Nat) (carry_22 : Nat) (borrow_23 : Nat) (g : qa) : Option vf :=
 ck (0 ≤ (f.length : Int) ∧ (f.length : Int) < ((j : Nat) : Int)) (ck (b + (f.length) < (g.length)) (ck (aEJ (g.getD (b + (f.length)) (0 : Nat)) carry_22 borrow_23) (ck (0 ≤ (f.length : Int) ∧ (f.length : Int) < ((j : Nat) : Int)) (ck (b + (f.length) < (g.length)) (if (aHo (g.getD (b + (f.length)) (0 : Nat)) carry_22 borrow_23).2.1 = (0 : Nat) then some (q, (g.set (b + (f.length)) (aHo (g.getD (b + (f.length)) (0 : Nat)) carry_22 borrow_23).1)) else (dG F (fun d : Nat × Int × qa => mZ F f j b d.1 d.2.1 d.2.2) ((0 : Nat), (0 : Int), (g.set (b + (f.length)) (aHo (g.getD (b + (f.length)) (0 : Nat)) carry_22 borrow_23).1))).bind (fun e => xN F f j b q e.1 e.2))))))
def nA (F : Md) (q : qa) (j : Nat) (r : Nat) (g : Nat) (carry_41 : Nat) (borrow_42 : Nat) (b : Int) (f : qa) : Option ((Nat × Nat × Int × qa) ⊕ (Nat × Nat × qa)) :=
 if b < (q.length : Int) then ck (0 ≤ b ∧ b < (q.length : Int)) (ck (aEJ (dQ j (q.getD (b.toNat) (0 : Nat))).2.1 carry_41 (0 : Nat)) (ck (0 ≤ b ∧ b < ((r : Nat) : Int)) (ck (g + (b.toNat) < (f.length)) (ck (aEJ (f.getD (g + (b.toNat)) (0 : Nat)) (rE (dQ j (q.getD (b.toNat) (0 : Nat))).2.1 carry_41 (0 : Nat)).1 borrow_42) (ck (0 ≤ b ∧ b < ((r : Nat) : Int)) (ck (g + (b.toNat) < (f.length)) (ck (I64 (b + (1 : Int))) (some (.inl ((((dQ j (q.getD (b.toNat) (0 : Nat))).1 + (rE (dQ j (q.getD (b.toNat) (0 : Nat))).2.1 carry_41 (0 : Nat)).2.1) % 18446744073709551616), (aHo (f.getD (g + (b.toNat)) (0 : Nat)) (rE (dQ j (q.getD (b.toNat) (0 : Nat))).2.1 carry_41 (0 : Nat)).1 borrow_42).2.1, (b + (1 : Int)), (f.set (g + (b.toNat)) (aHo (f.getD (g + (b.toNat)) (0 : Nat)) (rE (dQ j (q.getD (b.toNat) (0 : Nat))).2.1 carry_41 (0 : Nat)).1 borrow_42).1))))))))))) else some (.inr (carry_41, borrow_42, f))
def tQ (F : Md) (j : qa) (f : Nat) (b : Nat) (q : qa) (g : Nat) : Option vf :=
 (dG F (fun d : Nat × Nat × Int × qa => nA F j g f b d.1 d.2.1 d.2.2.1 d.2.2.2) ((0 : Nat), (0 : Nat), (0 : Int), q)).bind (fun e => xO F j f b g e.1 e.2.1 e.2.2)
def oG (F : Md) (b : qa) (s : Nat) (q : Nat) (r : qa) (g : Nat) (f : Nat) (j : Nat) : Option ((Nat × Nat × Nat) ⊕ (Nat)) :=
 if j = (0 : Nat) then ck (I64 ((b.length : Int) - (2 : Int))) (ck (0 ≤ ((b.length : Int) - (2 : Int)) ∧ ((b.length : Int) - (2 : Int)) < (b.length : Int)) (ck (¬ ((dQ g (b.getD ((b.length : Int) - (2 : Int)).toNat (0 : Nat))).1 < f) → ((dQ g (b.getD ((b.length : Int) - (2 : Int)).toNat (0 : Nat))).1 = f) → (I64 ((b.length : Int) - (2 : Int)))) (ck (¬ ((dQ g (b.getD ((b.length : Int) - (2 : Int)).toNat (0 : Nat))).1 < f) → ((dQ g (b.getD ((b.length : Int) - (2 : Int)).toNat (0 : Nat))).1 = f) → (0 ≤ ((b.length : Int) - (2 : Int)) ∧ ((b.length : Int) - (2 : Int)) < ((s : Nat) : Int) ∧ q + ((b.length : Int) - (2 : Int)).toNat < (r.length))) (if ((dQ g (b.getD ((b.length : Int) - (2 : Int)).toNat (0 : Nat))).1 < f) ∨ (((dQ g (b.getD ((b.length : Int) - (2 : Int)).toNat (0 : Nat))).1 = f) ∧ ((dQ g (b.getD ((b.length : Int) - (2 : Int)).toNat (0 : Nat))).2.1 ≤ (r.getD (q + ((b.length : Int) - (2 : Int)).toNat) (0 : Nat)))) then some (.inr g) else ck (I64 ((b.length : Int) - (1 : Int))) (ck (0 ≤ ((b.length : Int) - (1 : Int)) ∧ ((b.length : Int) - (1 : Int)) < (b.length : Int)) (ck (aEJ f (b.getD ((b.length : Int) - (1 : Int)).toNat (0 : Nat)) (0 : Nat)) (some (.inl ((uI F .u64 g (1 : Nat)), (rE f (b.getD ((b.length : Int) - (1 : Int)).toNat (0 : Nat)) (0 : Nat)).1, (rE f (b.getD ((b.length : Int) - (1 : Int)).toNat (0 : Nat)) (0 : Nat)).2.1))))))))) else some (.inr g)
def rK (F : Md) (r : qa) (j : Nat) (g : Nat) (q : qa) (s : Nat) (b : Nat) (f : Nat) : Option vf :=
 (dG F (fun d : Nat × Nat × Nat => oG F r j g q d.1 d.2.1 d.2.2) (s, b, f)).bind (fun e => tQ F r j g q e)
def aAV (F : Md) (f : Nat) (j : Nat) (b : qa) (g : qa) : Option vf :=
 ck (0 ≤ (b.length : Int) ∧ (b.length : Int) < ((j : Nat) : Int)) (ck (f + (b.length) < (g.length)) (ck (I64 ((b.length : Int) - (1 : Int))) (ck (0 ≤ ((b.length : Int) - (1 : Int)) ∧ ((b.length : Int) - (1 : Int)) < (b.length : Int)) (if (g.getD (f + (b.length)) (0 : Nat)) < (b.getD ((b.length : Int) - (1 : Int)).toNat (0 : Nat)) then ck (0 ≤ (b.length : Int) ∧ (b.length : Int) < ((j : Nat) : Int)) (ck (f + (b.length) < (g.length)) (ck (I64 ((b.length : Int) - (1 : Int))) (ck (0 ≤ ((b.length : Int) - (1 : Int)) ∧ ((b.length : Int) - (1 : Int)) < ((j : Nat) : Int)) (ck (f + ((b.length : Int) - (1 : Int)).toNat < (g.length)) (ck (I64 ((b.length : Int) - (1 : Int))) (ck (0 ≤ ((b.length : Int) - (1 : Int)) ∧ ((b.length : Int) - (1 : Int)) < (b.length : Int)) (ck (aD0 (g.getD (f + (b.length)) (0 : Nat)) (g.getD (f + ((b.length : Int) - (1 : Int)).toNat) (0 : Nat)) (b.getD ((b.length : Int) - (1 : Int)).toNat (0 : Nat))) (rK F b j f g (pU (g.getD (f + (b.length)) (0 : Nat)) (g.getD (f + ((b.length : Int) - (1 : Int)).toNat) (0 : Nat)) (b.getD ((b.length : Int) - (1 : Int)).toNat (0 : Nat))).1 (pU (g.getD (f + (b.length)) (0 : Nat)) (g.getD (f + ((b.length : Int) - (1 : Int)).toNat) (0 : Nat)) (b.getD ((b.length : Int) - (1 : Int)).toNat (0 : Nat))).2.1 (0 : Nat))))))))) else ck (I64 ((b.length : Int) - (1 : Int))) (ck (0 ≤ ((b.length : Int) - (1 : Int)) ∧ ((b.length : Int) - (1 : Int)) < ((j : Nat) : Int)) (ck (f + ((b.length : Int) - (1 : Int)).toNat < (g.length)) (ck (I64 ((b.length : Int) - (1 : Int))) (ck (0 ≤ ((b.length : Int) - (1 : Int)) ∧ ((b.length : Int) - (1 : Int)) < (b.length : Int)) (ck (aEJ (g.getD (f + ((b.length : Int) - (1 : Int)).toNat) (0 : Nat)) (b.getD ((b.length : Int) - (1 : Int)).toNat (0 : Nat)) (0 : Nat)) (rK F b j f g (18446744073709551615 : Nat) (rE (g.getD (f + ((b.length : Int) - (1 : Int)).toNat) (0 : Nat)) (b.getD ((b.length : Int) - (1 : Int)).toNat (0 : Nat)) (0 : Nat)).1 (rE (g.getD (f + ((b.length : Int) - (1 : Int)).toNat) (0 : Nat)) (b.getD ((b.length : Int) - (1 : Int)).toNat (0 : Nat)) (0 : Nat)).2.1))))))))))
end
end Nu
end Go.Proofs
namespace Go.Proofs
open Go.Vc
set_option maxRecDepth 20000
namespace Nu
structure DgN (X V P v1 v0 U2 U1 U0 : Nat) : Prop where
 hP : 0 < P
 hX : X / P = (U2 * 18446744073709551616 + U1) * 18446744073709551616 + U0
 hV : V / P = v1 * 18446744073709551616 + v0
 v1l : 9223372036854775808 ≤ v1
 v1h : v1 < 18446744073709551616
 v0h : v0 < 18446744073709551616
 u2h : U2 < 18446744073709551616
 u1h : U1 < 18446744073709551616
 u0h : U0 < 18446744073709551616
 hq : X < 18446744073709551616 * V
variable {X V P v1 v0 U2 U1 U0 : Nat}
theorem bGW (h : DgN X V P v1 v0 U2 U1 U0) : U2 ≤ v1 := by
 have f : V < (V / P + 1) * P := by rw [Nat.mul_comm]; exact Nat.lt_mul_div_succ V h.hP
 have b : X / P < 18446744073709551616 * (V / P + 1) := by
  refine (Nat.div_lt_iff_lt_mul h.hP).2 (Nat.lt_of_lt_of_le h.hq ?_)
  grind
 rw [h.hX, h.hV] at b
 have a := h.v0h
 omega
theorem bGe (h : DgN X V P v1 v0 U2 U1 U0) : X / V * (v1 * 18446744073709551616 + v0) ≤ (U2 * 18446744073709551616 + U1) * 18446744073709551616 + U0 := by
 rw [← h.hX, ← h.hV]
 refine (Nat.le_div_iff_mul_le h.hP).2 ?_
 rw [Nat.mul_assoc]
 exact Nat.le_trans (Nat.mul_le_mul_left _ (Nat.div_mul_le_self V P)) (Nat.div_mul_le_self X V)
theorem mul_two (x v1 v0 : Nat) : x * (v1 * 18446744073709551616 + v0) = x * v1 * 18446744073709551616 + x * v0 := by grind
theorem bGX (h : DgN X V P v1 v0 U2 U1 U0) : X / V ≤ (U2 * 18446744073709551616 + U1) / v1 := by
 refine (Nat.le_div_iff_mul_le (by have := h.v1l; omega)).2 ?_
 have f := bGe h
 rw [mul_two] at f
 have b := h.u0h
 omega
theorem bGY (h : DgN X V P v1 v0 U2 U1 U0) : X / V < 18446744073709551616 := (Nat.div_lt_iff_lt_mul (by
 have := h.hq
 omega)).2 h.hq
theorem bAx (h : DgN X V P v1 v0 U2 U1 U0) {x : Nat} (g : x < 18446744073709551616) (f : x * (v1 * 18446744073709551616 + v0) ≤ (U2 * 18446744073709551616 + U1) * 18446744073709551616 + U0) : x ≤ X / V + 1 := by
 rcases x with _ | y
 ·simp_all
 refine Nat.succ_le_succ ?_
 have b : 0 < V := by
  rcases Nat.eq_zero_or_pos V with h0 | h0
  ·have := h.hq; omega
  omega
 refine (Nat.le_div_iff_mul_le b).2 ?_
 rw [← h.hX, ← h.hV] at f
 have e := Nat.div_add_mod V P
 have m := Nat.mod_lt V h.hP
 have s : (y + 1) * (V / P) * P ≤ X := Nat.le_trans (Nat.mul_le_mul_right P f) (Nat.div_mul_le_self X P)
 have q : y * (V % P) ≤ 18446744073709551616 * P := Nat.mul_le_mul (by omega) (Nat.le_of_lt m)
 have j : 18446744073709551616 * P ≤ V / P * P := Nat.mul_le_mul_right _ (by rw [h.hV]; have := h.v1l; omega)
 have r : y * V = y * (V / P) * P + y * (V % P) := by
  grind
 grind
structure DgL (v1 U2 U1 Q x rest over : Nat) : Prop where
 eq : x * v1 + (rest + over * 18446744073709551616) = U2 * 18446744073709551616 + U1
 r1 : rest < 18446744073709551616
 o1 : over ≤ 1
 x1 : x < 18446744073709551616
 ge : Q ≤ x
theorem bDw {Q x rest : Nat} (f : v0 < 18446744073709551616) (b : U0 < 18446744073709551616) (h : DgL v1 U2 U1 Q x rest 0) : (x * v0 / 18446744073709551616 < rest ∨ x * v0 / 18446744073709551616 = rest ∧ x * v0 % 18446744073709551616 ≤ U0) ↔ x * (v1 * 18446744073709551616 + v0) ≤ (U2 * 18446744073709551616 + U1) * 18446744073709551616 + U0 := by
 have e := h.eq
 grind
theorem bFv {Q x rest : Nat} (b : v0 < 18446744073709551616) (h : DgL v1 U2 U1 Q x rest 1) : x * (v1 * 18446744073709551616 + v0) ≤ (U2 * 18446744073709551616 + U1) * 18446744073709551616 + U0 := by
 have e := h.eq
 have r := h.r1
 have p : x * v0 ≤ 18446744073709551615 * 18446744073709551615 := Nat.mul_le_mul (by have := h.x1; omega) (by omega)
 grind
theorem bDx {Q x rest : Nat} (b : v1 < 18446744073709551616) (g : Q * (v1 * 18446744073709551616 + v0) ≤ (U2 * 18446744073709551616 + U1) * 18446744073709551616 + U0) (h : DgL v1 U2 U1 Q x rest 0) (hc : ¬ x * (v1 * 18446744073709551616 + v0) ≤ (U2 * 18446744073709551616 + U1) * 18446744073709551616 + U0) :
  aIv .u64 x 1 = x - 1 ∧ x - 1 < x ∧ DgL v1 U2 U1 Q (x - 1) ((rest + v1 + 0) % 18446744073709551616) ((rest + v1 + 0) / 18446744073709551616) := by
 have f : Q < x := by
  refine Nat.lt_of_mul_lt_mul_right (a := v1 * 18446744073709551616 + v0) ?_
  omega
 have e := h.eq
 have r := h.r1
 have x1 := h.x1
 obtain ⟨y, rfl⟩ : ∃ y, x = y + 1 := ⟨x - 1, by omega⟩
 rw [Nat.add_mul] at e
 refine ⟨aXv x1 (by omega), by omega, ⟨?_, Nat.mod_lt _ xAb, by omega, by omega, by omega⟩⟩
 grind
theorem bDy {v o : List Nat} {j un : Nat} (z : 2 ≤ v.length) (hs : v.length ≤ 9000000000000) (L : un = v.length + 1) (J : j + un ≤ o.length)
  (h : DgN X V P (v.getD (v.length - 1) 0) (v.getD (v.length - 2) 0) U2 U1 (o.getD (j + (v.length - 2)) 0)) {x rest over : Nat} (hi : DgL (v.getD (v.length - 1) 0) U2 U1 (X / V) x rest over) :
  ∃ e, aGn (fun d : Nat × Nat × Nat => oG none v un j o d.1 d.2.1 d.2.2) (x, rest, over) = some e ∧ X / V ≤ e ∧ e ≤ X / V + 1 ∧ e < 18446744073709551616 := by
 have e1 : ((v.length : Int) - 1).toNat = v.length - 1 := by omega
 have b : ((v.length : Int) - 2).toNat = v.length - 2 := by omega
 refine lI (step := fun d : Nat × Nat × Nat => oG none v un j o d.1 d.2.1 d.2.2) (I := fun d => DgL (v.getD (v.length - 1) 0) U2 U1 (X / V) d.1 d.2.1 d.2.2) (fun d => d.1) (fun e => X / V ≤ e ∧ e ≤ X / V + 1 ∧ e < 18446744073709551616) ?_ (x, rest, over) hi
 rintro ⟨x, rest, over⟩ hi
 have hi : DgL (v.getD (v.length - 1) 0) U2 U1 (X / V) x rest over := hi
 show (∃ d', oG none v un j o x rest over = _ ∧ _) ∨ ∃ e, oG none v un j o x rest over = _ ∧ _
 unfold oG
 try simp only [uI, mulM, aMJ]
 rw [e1, b]
 by_cases h0 : over = 0
 ·subst h0
  have ht := bDw h.v0h h.u0h hi
  rw [if_pos rfl]
  by_cases hc : x * (v.getD (v.length - 1) 0 * 18446744073709551616 + v.getD (v.length - 2) 0) ≤ (U2 * 18446744073709551616 + U1) * 18446744073709551616 + o.getD (j + (v.length - 2)) 0
  ·right
   refine ⟨x, ?_, hi.ge, bAx h hi.x1 hc, hi.x1⟩
   refine aF (by omega) (aF (by omega) (aF (fun _ _ => by omega) (aF (fun _ _ => by omega) ?_)))
   exact (if_pos (ht.2 hc))
  ·left
   obtain ⟨r, g, s⟩ := bDx h.v1h (bGe h) hi hc
   refine ⟨(x - 1, (rest + v.getD (v.length - 1) 0 + 0) % 18446744073709551616, (rest + v.getD (v.length - 1) 0 + 0) / 18446744073709551616), ?_, s, g⟩
   refine aF (by omega) (aF (by omega) (aF (fun _ _ => by omega) (aF (fun _ _ => by omega) ?_)))
   refine (if_neg (fun f => hc (ht.1 f))).trans ?_
   rw [r]
   exact aF (by omega) (aF (by omega) (aF (Nat.zero_le _) rfl))
 ·right
  have q : over = 1 := by have := hi.o1; omega
  subst q
  exact ⟨x, by rfl, hi.ge, bAx h hi.x1 (bFv h.v0h hi), hi.x1⟩
end Nu
end Go.Proofs
namespace Go.Proofs
open Go.Vc
set_option maxRecDepth 20000
namespace Nu
theorem aXF {x y c b o lo hi z c' d b' : Nat} (e : 18446744073709551616 * hi + lo = x * y) (q : lo < 18446744073709551616) (hp : x * y ≤ 18446744073709551615 * 18446744073709551615) (hc : c < 18446744073709551616) (hb : b ≤ 1) (r : o < 18446744073709551616)
  (j : z = (lo + c + 0) % 18446744073709551616) (g : c' = (hi + (lo + c + 0) / 18446744073709551616) % 18446744073709551616) (hd : d = (o + 18446744073709551616 - z - b) % 18446744073709551616) (f : b' = if o < z + b then 1 else 0) :
  d + x * y + c + b = o + 18446744073709551616 * (c' + b') ∧ d < 18446744073709551616 ∧ c' < 18446744073709551616 ∧ b' ≤ 1 := by
 generalize x * y = w at *
 subst j g hd f
 split <;> omega
theorem bGZ {N g f Q R P o d c b c' b' x y t : Nat} (hP : P = Q * R) (s : g + P * o = N + P * d) (q : N + Q * x * t = f + P * (c + b)) (j : d + x * y + c + b = o + 18446744073709551616 * (c' + b')) : g + Q * x * (t + R * y) = f + P * 18446744073709551616 * (c' + b') := by
 have e := congrArg (P * ·) j
 simp only [Nat.mul_add] at e
 have r : P * (x * y) = Q * x * (R * y) := by
  rw [hP, Nat.mul_assoc, Nat.mul_assoc]; congr 1; rw [Nat.mul_left_comm]
 rw [Nat.mul_add] at q ⊢
 rw [Nat.mul_assoc P 18446744073709551616, Nat.mul_add 18446744073709551616, Nat.mul_add P]
 omega
theorem bG0 {N f b Q R P o d c c' y t : Nat} (hP : P = Q * R) (r : f + P * o = N + P * d) (q : N + P * c = b + Q * t) (g : d + 18446744073709551616 * c' = o + y + c) : f + P * 18446744073709551616 * c' = b + Q * (t + R * y) := by
 have e := congrArg (P * ·) g
 simp only [Nat.mul_add] at e
 have j : P * y = Q * (R * y) := by rw [hP, Nat.mul_assoc]
 rw [Nat.mul_add, Nat.mul_assoc P 18446744073709551616]
 omega
structure MsI (v u : List Nat) (x j : Nat) (c b : Nat) (i : Int) (w : List Nat) : Prop where
 i0 : 0 ≤ i
 i1 : i ≤ v.length
 len : w.length = u.length
 lm : Lm w
 c1 : c < 18446744073709551616
 b1 : b ≤ 1
 rest : w.drop (j + i.toNat) = u.drop (j + i.toNat)
 sum : nv w + 18446744073709551616 ^ j * x * nv (v.take i.toNat) = nv u + 18446744073709551616 ^ (j + i.toNat) * (c + b)
structure AbI (v u : List Nat) (j : Nat) (c : Nat) (i : Int) (w : List Nat) : Prop where
 i0 : 0 ≤ i
 i1 : i ≤ v.length
 len : w.length = u.length
 lm : Lm w
 c1 : c ≤ 1
 rest : w.drop (j + i.toNat) = u.drop (j + i.toNat)
 sum : nv w + 18446744073709551616 ^ (j + i.toNat) * c = nv u + 18446744073709551616 ^ j * nv (v.take i.toNat)
theorem bDz {v u : List Nat} {x j c b : Nat} {i : Int} {w : List Nat} (r : j + v.length < u.length) (h : MsI v u x j c b i w) (hi : i < v.length) {d c' b' : Nat} (hd : d < 18446744073709551616) (q : c' < 18446744073709551616) (g : b' ≤ 1)
  (e : d + x * v.getD i.toNat 0 + c + b = w.getD (j + i.toNat) 0 + 18446744073709551616 * (c' + b')) : MsI v u x j c' b' (i + 1) (w.set (j + i.toNat) d) := by
 have h0 := h.i0
 have f := h.len
 have e1 : (i + 1).toNat = i.toNat + 1 := by omega
 refine ⟨by omega, by omega, by rw [List.length_set]; exact f, aDw h.lm _ hd, q, g, ?_, ?_⟩
 ·rw [e1, ← Nat.add_assoc, drop_set]; exact aEp h.rest
 ·rw [e1, uT, ← Nat.add_assoc, Nat.pow_succ]
  exact bGZ (R := 18446744073709551616 ^ i.toNat) (Nat.pow_add _ _ _) (aFY (by omega)) h.sum e
theorem bDA {v u : List Nat} {j c : Nat} {i : Int} {w : List Nat} (g : j + v.length < u.length) (h : AbI v u j c i w) (hi : i < v.length) {d c' : Nat} (hd : d < 18446744073709551616) (f : c' ≤ 1)
  (e : d + 18446744073709551616 * c' = w.getD (j + i.toNat) 0 + v.getD i.toNat 0 + c) : AbI v u j c' (i + 1) (w.set (j + i.toNat) d) := by
 have h0 := h.i0
 have b := h.len
 have e1 : (i + 1).toNat = i.toNat + 1 := by omega
 refine ⟨by omega, by omega, by rw [List.length_set]; exact b, aDw h.lm _ hd, f, ?_, ?_⟩
 ·rw [e1, ← Nat.add_assoc, drop_set]; exact aEp h.rest
 ·rw [e1, uT, ← Nat.add_assoc, Nat.pow_succ]
  exact bG0 (R := 18446744073709551616 ^ i.toNat) (Nat.pow_add _ _ _) (aFY (by omega)) h.sum e
theorem bBy {v u : List Nat} {x j un : Nat} (s : Lm v) (L : x < 18446744073709551616) (hs : v.length ≤ 9000000000000) (O : un = v.length + 1) (N : j + un ≤ u.length) (lu : Lm u) :
  ∃ e, dG none (fun d : Nat × Nat × Int × qa => nA none v x un j d.1 d.2.1 d.2.2.1 d.2.2.2) (0, 0, 0, u) = some e ∧ MsI v u x j e.1 e.2.1 v.length e.2.2 := by
 refine lI (step := fun d : Nat × Nat × Int × qa => nA none v x un j d.1 d.2.1 d.2.2.1 d.2.2.2) (I := fun d => MsI v u x j d.1 d.2.1 d.2.2.1 d.2.2.2) (fun d => (v.length - d.2.2.1).toNat) (fun e => MsI v u x j e.1 e.2.1 v.length e.2.2) ?_ (0, 0, 0, u) ⟨by simp, by simp, rfl, lu, by simp, by simp, rfl, by simp [nv]⟩
 rintro ⟨c, b, i, w⟩ h
 have h : MsI v u x j c b i w := h
 have h0 := h.i0
 have f := h.len
 show (∃ d', nA none v x un j c b i w = _ ∧ _) ∨ ∃ e, nA none v x un j c b i w = _ ∧ _
 unfold nA
 by_cases hi : i < v.length
 ·left
  have U := kK s i.toNat
  have z := kK h.lm (j + i.toNat)
  have hb := h.b1
  obtain ⟨r, g, q, J⟩ := aXF (b' := if w.getD (j + i.toNat) 0 < (x * v.getD i.toNat 0 % 18446744073709551616 + c + 0) % 18446744073709551616 + b then 1 else 0) (Nat.div_add_mod (x * v.getD i.toNat 0) 18446744073709551616) (Nat.mod_lt _ xAb) (Nat.mul_le_mul (by omega) (by omega)) h.c1 hb z rfl rfl rfl rfl
  refine ⟨((x * v.getD i.toNat 0 / 18446744073709551616 + (x * v.getD i.toNat 0 % 18446744073709551616 + c + 0) / 18446744073709551616) % 18446744073709551616, (if w.getD (j + i.toNat) 0 < (x * v.getD i.toNat 0 % 18446744073709551616 + c + 0) % 18446744073709551616 + b then 1 else 0), i + 1, w.set (j + i.toNat) ((w.getD (j + i.toNat) 0 + 18446744073709551616 - (x * v.getD i.toNat 0 % 18446744073709551616 + c + 0) % 18446744073709551616 - b) % 18446744073709551616)), ?_, bDz (by omega) h hi g q J r, by (try simp only); omega⟩
  rw [if_pos hi]
  exact aF (by constructor <;> omega) (aF (Nat.zero_le _) (aF (by constructor <;> omega) (aF (by omega) (aF hb (aF (by constructor <;> omega) (aF (by omega) (aF (by constructor <;> omega) rfl)))))))
 ·right
  refine ⟨(c, b, w), by rw [if_neg hi], ?_⟩
  have e : i = v.length := by have := h.i1; omega
  rw [e] at h
  exact h
theorem bBz {v u : List Nat} {j un : Nat} (g : Lm v) (hs : v.length ≤ 9000000000000) (r : un = v.length + 1) (q : j + un ≤ u.length) (lu : Lm u) :
  ∃ e, dG none (fun d : Nat × Int × qa => mZ none v un j d.1 d.2.1 d.2.2) (0, 0, u) = some e ∧ AbI v u j e.1 v.length e.2 := by
 refine lI (step := fun d : Nat × Int × qa => mZ none v un j d.1 d.2.1 d.2.2) (I := fun d => AbI v u j d.1 d.2.1 d.2.2) (fun d => (v.length - d.2.1).toNat) (fun e => AbI v u j e.1 v.length e.2) ?_ (0, 0, u) ⟨by simp, by simp, rfl, lu, by simp, rfl, by simp [nv]⟩
 rintro ⟨c, i, w⟩ h
 have h : AbI v u j c i w := h
 have h0 := h.i0
 have b := h.len
 show (∃ d', mZ none v un j c i w = _ ∧ _) ∨ ∃ e, mZ none v un j c i w = _ ∧ _
 unfold mZ
 by_cases hi : i < v.length
 ·left
  have s := kK g i.toNat
  have z := kK h.lm (j + i.toNat)
  have hc := h.c1
  have f := Nat.div_add_mod (w.getD (j + i.toNat) 0 + v.getD i.toNat 0 + c) 18446744073709551616
  refine ⟨(_, _, _), ?_, bDA (d := (w.getD (j + i.toNat) 0 + v.getD i.toNat 0 + c) % 18446744073709551616) (c' := (w.getD (j + i.toNat) 0 + v.getD i.toNat 0 + c) / 18446744073709551616) (by omega) h hi (Nat.mod_lt _ xAb) (by omega) (by rw [Nat.add_comm]; exact f), by (try simp only); omega⟩
  rw [if_pos hi]
  refine aF (by constructor <;> omega) (aF (by constructor <;> omega) (aF (by omega) (aF hc (aF (by constructor <;> omega) (aF (by omega) (aF (by constructor <;> omega) ?_))))))
  simp only [rE]
 ·right
  refine ⟨(c, w), by rw [if_neg hi], ?_⟩
  have e : i = v.length := by have := h.i1; omega
  rw [e] at h
  exact h
theorem bAy {w u : List Nat} {K : Nat} (f : Lm w) (lu : Lm u) (h : w.drop K = u.drop K) (g : nv u < 18446744073709551616 ^ K) : nv w < 18446744073709551616 ^ K := by
 have hp : 0 < 18446744073709551616 ^ K := Nat.pow_pos xAb
 have b := aMN f K
 rw [h, aMN lu, Nat.div_eq_of_lt g] at b
 exact (Nat.div_eq_zero_iff_lt hp).1 b.symm
theorem bDB {N b W x : Nat} {Q : Nat} (f : 0 < W) (j : Q = N / W) (g : Q ≤ x) (h : b + x * W = N) : x = Q ∧ b + Q * W = N := by
 have q : x ≤ N / W := (Nat.le_div_iff_mul_le f).2 (by omega)
 have : x = Q := by omega
 subst this
 exact ⟨rfl, h⟩
theorem bFw {N f q g W x T S b c : Nat} {Q : Nat} (J : Q = N / W) (I : Q ≤ x) (z : x ≤ Q + 1) (r : f + x * W = N + T) (U : f < T) (h4 : q + S * c = f + W) (j : g + S * b = q + S * ((b + c) % 18446744073709551616)) (O : g < T) (hT : T = S * 18446744073709551616) (Z : b < 18446744073709551616) (hc : c ≤ 1) :
  x = Q + 1 ∧ g + Q * W = N := by
 have L : Q * W ≤ N := by rw [J]; exact Nat.div_mul_le_self N W
 have s : x = Q + 1 := by
  rcases Nat.lt_or_ge Q x with h | h
  ·omega
  ·have : x = Q := by omega
   subst this
   omega
 subst s
 refine ⟨rfl, ?_⟩
 rw [Nat.add_mul, Nat.one_mul] at r
 rcases Nat.lt_or_ge (b + c) 18446744073709551616 with h | h
 ·rw [Nat.mod_eq_of_lt h, Nat.mul_add] at j
  omega
 ·have e : (b + c) % 18446744073709551616 = 0 := by omega
  have Y : S * 18446744073709551616 = S * b + S * c := by rw [← Nat.mul_add]; congr 1; omega
  rw [e, Nat.mul_zero, Nat.add_zero] at j
  omega
theorem aTD {v u : List Nat} {j un : Nat} (I : Lm v) (lu : Lm u) (hn : 2 ≤ v.length) (hs : v.length ≤ 9000000000000) (hu : un = v.length + 1) (ho : j + un ≤ u.length)
  (hv : 9223372036854775808 ≤ v.getD (v.length - 1) 0) (hq : nv u < 18446744073709551616 ^ (j + 1) * nv v) :
  ∃ w, aAV none j un v u = some (nv u / (18446744073709551616 ^ j * nv v), w) ∧ w.length = u.length ∧ Lm w ∧ nv w + nv u / (18446744073709551616 ^ j * nv v) * (18446744073709551616 ^ j * nv v) = nv u := by
 have hVB := sH I
 have hJ : 0 < 18446744073709551616 ^ j := Nat.pow_pos xAb
 have hX : nv u / 18446744073709551616 ^ j < 18446744073709551616 * nv v := (Nat.div_lt_iff_lt_mul hJ).2 (by rw [Nat.pow_succ, Nat.mul_assoc] at hq; rw [Nat.mul_comm]; exact hq)
 have U : nv u / 18446744073709551616 ^ j / nv v = nv u / (18446744073709551616 ^ j * nv v) := Nat.div_div_eq_div_mul _ _ _
 have r : nv u < 18446744073709551616 ^ (j + v.length + 1) := by
  refine Nat.lt_of_lt_of_le hq ?_
  rw [show j + v.length + 1 = j + 1 + v.length from by omega, Nat.pow_add _ (j + 1)]
  exact Nat.mul_le_mul_left _ (Nat.le_of_lt hVB)
 have hD : DgN (nv u / 18446744073709551616 ^ j) (nv v) (18446744073709551616 ^ (v.length - 2)) (v.getD (v.length - 1) 0) (v.getD (v.length - 2) 0) (u.getD (j + v.length) 0) (u.getD (j + (v.length - 1)) 0) (u.getD (j + (v.length - 2)) 0) := by
  refine ⟨Nat.pow_pos xAb, ?_, ?_, hv, kK I _, kK I _, kK lu _, kK lu _, kK lu _, hX⟩
  ·have e1 : j + (v.length - 1) = j + (v.length - 2) + 1 := by omega
   have e2 : j + v.length = j + (v.length - 2) + 1 + 1 := by omega
   have hz : nv u / 18446744073709551616 ^ (j + (v.length - 2)) < 18446744073709551616 * 18446744073709551616 * 18446744073709551616 := by
    refine (Nat.div_lt_iff_lt_mul (Nat.pow_pos xAb)).2 ?_
    rw [show j + v.length + 1 = j + (v.length - 2) + 1 + 1 + 1 from by omega, Nat.pow_succ, Nat.pow_succ, Nat.pow_succ] at r
    rw [Nat.mul_comm, ← Nat.mul_assoc, ← Nat.mul_assoc]
    exact r
   rw [aAs lu, aAs lu, aAs lu, e1, e2, Nat.pow_succ, Nat.pow_succ, ← Nat.div_div_eq_div_mul, ← Nat.div_div_eq_div_mul, Nat.div_div_eq_div_mul _ (18446744073709551616 ^ j), ← Nat.pow_add]
   generalize nv u / 18446744073709551616 ^ (j + (v.length - 2)) = z at *
   omega
  ·have hz : nv v / 18446744073709551616 ^ (v.length - 2) < 18446744073709551616 * 18446744073709551616 := by
    refine (Nat.div_lt_iff_lt_mul (Nat.pow_pos xAb)).2 ?_
    have h := hVB
    rw [show v.length = v.length - 2 + 1 + 1 from by omega, Nat.pow_succ, Nat.pow_succ] at h
    rw [Nat.mul_comm, ← Nat.mul_assoc]
    exact h
   rw [aAs I, aAs I, show v.length - 1 = v.length - 2 + 1 from by omega, Nat.pow_succ, ← Nat.div_div_eq_div_mul]
   generalize nv v / 18446744073709551616 ^ (v.length - 2) = z at *
   omega
 have e1 : ((v.length : Int) - 1).toNat = v.length - 1 := by omega
 rw [← U]
 have hV0 : 0 < nv v := by
  rcases Nat.eq_zero_or_pos (nv v) with h | h
  ·rw [h] at hq; simp at hq
  ·exact h
 have hW : 0 < 18446744073709551616 ^ j * nv v := Nat.mul_pos hJ hV0
 have main : ∀ x, nv u / 18446744073709551616 ^ j / nv v ≤ x → x ≤ nv u / 18446744073709551616 ^ j / nv v + 1 → x < 18446744073709551616 → ∃ w, tQ none v un j u x = some (nv u / 18446744073709551616 ^ j / nv v, w) ∧ w.length = u.length ∧ Lm w ∧ nv w + nv u / 18446744073709551616 ^ j / nv v * (18446744073709551616 ^ j * nv v) = nv u := by
  intro x Y hx2 hx3
  obtain ⟨⟨c, b, w⟩, m1, s⟩ := bBy (j := j) I hx3 hs hu ho lu
  have s : MsI v u x j c b v.length w := s
  have L := s.len
  have ho2 := kK s.lm (j + v.length)
  have hc := s.c1
  have hb := s.b1
  have hrest := s.rest
  have f := s.sum
  rw [Int.toNat_natCast] at hrest f
  rw [List.take_length] at f
  have hset := aFY (a := w) (k := j + v.length) (v := (w.getD (j + v.length) 0 + 18446744073709551616 - c - b) % 18446744073709551616) (by omega)
  have q : Lm (w.set (j + v.length) ((w.getD (j + v.length) 0 + 18446744073709551616 - c - b) % 18446744073709551616)) := aDw s.lm _ (Nat.mod_lt _ xAb)
  have N : (w.set (j + v.length) ((w.getD (j + v.length) 0 + 18446744073709551616 - c - b) % 18446744073709551616)).drop (j + v.length + 1) = u.drop (j + v.length + 1) := by
   rw [drop_set]; exact aEp hrest
  have Z := bAy q lu N r
  have hx : 18446744073709551616 ^ j * x * nv v = x * (18446744073709551616 ^ j * nv v) := by rw [Nat.mul_comm (18446744073709551616 ^ j) x, Nat.mul_assoc]
  rw [hx] at f
  unfold tQ
  rw [m1]
  simp only [Option.bind_some]
  unfold xO
  by_cases hbo : w.getD (j + v.length) 0 < c + b
  ·
   have hd : (w.getD (j + v.length) 0 + 18446744073709551616 - c - b) % 18446744073709551616 + c + b = w.getD (j + v.length) 0 + 18446744073709551616 := by omega
   have h3 : nv (w.set (j + v.length) ((w.getD (j + v.length) 0 + 18446744073709551616 - c - b) % 18446744073709551616)) + x * (18446744073709551616 ^ j * nv v) = nv u + 18446744073709551616 ^ (j + v.length + 1) := by
    have e := congrArg (18446744073709551616 ^ (j + v.length) * ·) hd
    simp only [Nat.mul_add] at e f
    rw [Nat.pow_succ]
    omega
   have hb1 : ¬ (aHo (w.getD (j + v.length) 0) c b).2.1 = 0 := by show ¬ (if w.getD (j + v.length) 0 < c + b then 1 else 0) = 0; rw [if_pos hbo]; decide
   have hl3 : (w.set (j + v.length) ((w.getD (j + v.length) 0 + 18446744073709551616 - c - b) % 18446744073709551616)).length = u.length := by rw [List.length_set]; exact L
   obtain ⟨w3, hw3⟩ : ∃ w3, w3 = w.set (j + v.length) ((w.getD (j + v.length) 0 + 18446744073709551616 - c - b) % 18446744073709551616) := ⟨_, rfl⟩
   have hw3' : w.set (j + v.length) (aHo (w.getD (j + v.length) 0) c b).1 = w3 := hw3.symm
   rw [← hw3] at h3 Z q N hl3
   obtain ⟨⟨c4, O⟩, n1, J⟩ := bBz (u := w3) (j := j) I hs hu (by omega) q
   have J : AbI v w3 j c4 v.length O := J
   have hl4 := J.len
   have ho4 := kK J.lm (j + v.length)
   have hrest4 := J.rest
   have g := J.sum
   rw [Int.toNat_natCast] at hrest4 g
   rw [List.take_length] at g
   have W := aFY (a := O) (k := j + v.length) (v := (O.getD (j + v.length) 0 + c4) % 18446744073709551616) (by omega)
   have lw5 : Lm (O.set (j + v.length) ((O.getD (j + v.length) 0 + c4) % 18446744073709551616)) := aDw J.lm _ (Nat.mod_lt _ xAb)
   have hr5 : (O.set (j + v.length) ((O.getD (j + v.length) 0 + c4) % 18446744073709551616)).drop (j + v.length + 1) = u.drop (j + v.length + 1) := by
    rw [drop_set, ← N]; exact aEp hrest4
   have hT5 := bAy lw5 lu hr5 r
   obtain ⟨f1, f2⟩ := bFw U Y hx2 h3 Z g W hT5 (Nat.pow_succ ..) ho4 J.c1
   refine ⟨_, aF (by constructor <;> omega) (aF (by omega) (aF hb (aF (by constructor <;> omega) (aF (by omega) ?_)))), ?_, lw5, f2⟩
   ·refine (if_neg hb1).trans ?_
    rw [hw3']
    refine bP n1 ?_
    unfold xN
    try simp only [uI, mulM, aMJ]
    refine aF (by constructor <;> omega) (aF (by (try simp only); omega) (aF (by constructor <;> omega) (aF (by (try simp only); omega) ?_)))
    rw [aXv hx3 (by rw [f1]; exact Nat.succ_le_succ (Nat.zero_le _)), f1, Nat.add_sub_cancel]
   ·rw [List.length_set]; omega
  ·have hd : (w.getD (j + v.length) 0 + 18446744073709551616 - c - b) % 18446744073709551616 + c + b = w.getD (j + v.length) 0 := by omega
   have h3 : nv (w.set (j + v.length) ((w.getD (j + v.length) 0 + 18446744073709551616 - c - b) % 18446744073709551616)) + x * (18446744073709551616 ^ j * nv v) = nv u := by
    have e := congrArg (18446744073709551616 ^ (j + v.length) * ·) hd
    simp only [Nat.mul_add] at e f
    omega
   have hb0 : (aHo (w.getD (j + v.length) 0) c b).2.1 = 0 := if_neg hbo
   obtain ⟨f1, f2⟩ := bDB hW U Y h3
   refine ⟨_, aF (by constructor <;> omega) (aF (by omega) (aF hb (aF (by constructor <;> omega) (aF (by omega) ?_)))), ?_, q, f2⟩
   ·refine (if_pos hb0).trans ?_
    rw [f1]; rfl
   ·rw [List.length_set]; exact L
 have start : ∀ x rest over, DgL (v.getD (v.length - 1) 0) (u.getD (j + v.length) 0) (u.getD (j + (v.length - 1)) 0) (nv u / 18446744073709551616 ^ j / nv v) x rest over → ∃ w, rK none v un j u x rest over = some (nv u / 18446744073709551616 ^ j / nv v, w) ∧ w.length = u.length ∧ Lm w ∧ nv w + nv u / 18446744073709551616 ^ j / nv v * (18446744073709551616 ^ j * nv v) = nv u := by
  intro x rest over hL
  obtain ⟨e, g1, g2, g3, g4⟩ := bDy hn hs hu ho hD hL
  obtain ⟨w, k1, k2⟩ := main e g2 g3 g4
  refine ⟨w, ?_, k2⟩
  unfold rK
  exact bP g1 k1
 have hu1 := kK lu (j + (v.length - 1))
 have hu2 := kK lu (j + v.length)
 have hv1 := kK I (v.length - 1)
 have hge := bGX hD
 have hlt := bGY hD
 have hle := bGW hD
 unfold aAV
 rw [e1]
 by_cases hc : u.getD (j + v.length) 0 < v.getD (v.length - 1) 0
 ·have hdm := Nat.div_add_mod (u.getD (j + v.length) 0 * 18446744073709551616 + u.getD (j + (v.length - 1)) 0) (v.getD (v.length - 1) 0)
  have hml := Nat.mod_lt (u.getD (j + v.length) 0 * 18446744073709551616 + u.getD (j + (v.length - 1)) 0) (show 0 < v.getD (v.length - 1) 0 by omega)
  have hdl : (u.getD (j + v.length) 0 * 18446744073709551616 + u.getD (j + (v.length - 1)) 0) / v.getD (v.length - 1) 0 < 18446744073709551616 := by
   refine (Nat.div_lt_iff_lt_mul (by omega)).2 ?_
   have := Nat.mul_le_mul_right 18446744073709551616 (show u.getD (j + v.length) 0 + 1 ≤ v.getD (v.length - 1) 0 from hc)
   rw [Nat.mul_comm 18446744073709551616]; omega
  obtain ⟨w, k1, k2⟩ := start _ _ 0 ⟨by rw [Nat.zero_mul, Nat.add_zero, Nat.mul_comm]; exact hdm, Nat.lt_trans hml hv1, by decide, hdl, hge⟩
  refine ⟨w, ?_, k2⟩
  refine aF (by constructor <;> omega) (aF (by omega) (aF (by constructor <;> omega) (aF (by constructor <;> omega) ?_)))
  refine (if_pos hc).trans ?_
  exact aF (by constructor <;> omega) (aF (by omega) (aF (by constructor <;> omega) (aF (by constructor <;> omega) (aF (by omega) (aF (by constructor <;> omega) (aF (by constructor <;> omega) (aF hc k1)))))))
 ·have hd := Nat.div_add_mod (u.getD (j + (v.length - 1)) 0 + v.getD (v.length - 1) 0 + 0) 18446744073709551616
  obtain ⟨w, k1, k2⟩ := start 18446744073709551615 ((u.getD (j + (v.length - 1)) 0 + v.getD (v.length - 1) 0 + 0) % 18446744073709551616) ((u.getD (j + (v.length - 1)) 0 + v.getD (v.length - 1) 0 + 0) / 18446744073709551616) ⟨by omega, Nat.mod_lt _ xAb, by omega, by decide, by omega⟩
  refine ⟨w, ?_, k2⟩
  refine aF (by constructor <;> omega) (aF (by omega) (aF (by constructor <;> omega) (aF (by constructor <;> omega) ?_)))
  refine (if_neg hc).trans ?_
  exact aF (by constructor <;> omega) (aF (by constructor <;> omega) (aF (by omega) (aF (by constructor <;> omega) (aF (by constructor <;> omega) (aF (Nat.zero_le _) k1)))))
end Nu
end Go.Proofs
namespace Go.Proofs
open Go.Vc
set_option maxRecDepth 20000
namespace Nu
noncomputable section
abbrev aHq (a b : List Nat) : Prop := Nrm a ∧ Nrm b ∧ nv b ≠ 0 ∧ a.length ≤ 1099511627776
def pV (a b : List Nat) : List Nat × List Nat × Unit := (lb (nv a / nv b), lb (nv a % nv b), ())
def aAt (F : Md) (b : qa) (f : qa) (g : qa) : Option qw :=
 ck (0 ≤ (b.length : Int) ∧ (b.length : Int) ≤ (f.length : Int)) (ck (aVJ (fA (List.take (b.length) f)) (aB (b.getD ((b.length : Int) - (1 : Int)).toNat (0 : Nat)))) (some ((fA g), (uL (fA (List.take (b.length) f)) (aB (b.getD ((b.length : Int) - (1 : Int)).toNat (0 : Nat)))), ())))
def sL (F : Md) (f : qa) (b : Int) (g : qa) (j : qa) : Option ((Int × qa × qa) ⊕ (qa × qa)) :=
 if (0 : Int) ≤ b then ck (I64 (b + (f.length : Int))) (ck (I64 ((b + (f.length : Int)) + (1 : Int))) (ck (0 ≤ b ∧ b < ((b + (f.length : Int)) + (1 : Int)) ∧ ((b + (f.length : Int)) + (1 : Int)) ≤ (g.length : Int)) ((aAV F (b.toNat) (((b + (f.length : Int)) + (1 : Int)) - b).toNat (fN (jD f (aB (f.getD ((f.length : Int) - (1 : Int)).toNat (0 : Nat)))) (f.length : Int)) g).bind (fun q => ck (0 ≤ b ∧ b < (j.length : Int)) (ck (I64 (b - (1 : Int))) (some (.inl ((b - (1 : Int)), q.2, (j.set (b.toNat) q.1))))))))) else some (.inr (g, j))
def aBz (F : Md) (f : qa) (b : qa) : Option qw :=
 ck (aXz f b) (if (qO f b) < (0 : Int) then ck (bBr f) (some (([] : List Nat), (id f), ())) else if (b.length : Int) = (1 : Int) then ck ((0 : Int) < (b.length : Int)) (ck (aJh f (b.getD (0 : Nat) (0 : Nat))) (some ((aAU f (b.getD (0 : Nat) (0 : Nat))).1, (aAU f (b.getD (0 : Nat) (0 : Nat))).2.1, ()))) else ck (I64 ((b.length : Int) - (1 : Int))) (ck (0 ≤ ((b.length : Int) - (1 : Int)) ∧ ((b.length : Int) - (1 : Int)) < (b.length : Int)) (ck (aUN b (aB (b.getD ((b.length : Int) - (1 : Int)).toNat (0 : Nat)))) (ck (aD1 (jD b (aB (b.getD ((b.length : Int) - (1 : Int)).toNat (0 : Nat)))) (b.length : Int)) (ck (aUN f (aB (b.getD ((b.length : Int) - (1 : Int)).toNat (0 : Nat)))) (ck (I64 ((f.length : Int) + (1 : Int))) (ck (aD1 (jD f (aB (b.getD ((b.length : Int) - (1 : Int)).toNat (0 : Nat)))) ((f.length : Int) + (1 : Int))) (ck (I64 ((f.length : Int) - (b.length : Int))) (ck (I64 (((f.length : Int) - (b.length : Int)) + (1 : Int))) (ck (0 ≤ (((f.length : Int) - (b.length : Int)) + (1 : Int))) (ck ((8 : Int) * (((f.length : Int) - (b.length : Int)) + (1 : Int)) ≤ 281474976710656) (ck (I64 ((f.length : Int) - (b.length : Int))) ((dG F (fun d : Int × qa × qa => sL F b d.1 d.2.1 d.2.2) (((f.length : Int) - (b.length : Int)), (fN (jD f (aB (b.getD ((b.length : Int) - (1 : Int)).toNat (0 : Nat)))) ((f.length : Int) + (1 : Int))), (List.replicate (((f.length : Int) - (b.length : Int)) + (1 : Int)).toNat (0 : Nat)))).bind (fun e => aAt F b e.1 e.2))))))))))))))
theorem aOz {a : List Nat} {n : Int} : nv (fN a n) = nv a := by
 unfold fN; rw [aOw, aOx, Nat.mul_zero, Nat.add_zero]
theorem aSm {a : List Nat} {n : Int} (h : a.length ≤ n) : (fN a n).length = n.toNat := by
 grind [fN, List.length_append, List.length_replicate]
theorem aUP {a : List Nat} {n : Int} (h : Lm a) : Lm (fN a n) := bDf h (aOy _)
theorem aXG {b : List Nat} (f : Lm b) (q : Nrm b) (h0 : nv b ≠ 0) : 0 < b.length ∧ 1 ≤ b.getD (b.length - 1) 0 ∧ b.getD (b.length - 1) 0 * 18446744073709551616 ^ (b.length - 1) ≤ nv b ∧ nv b < (b.getD (b.length - 1) 0 + 1) * 18446744073709551616 ^ (b.length - 1) := by
 have g : b ≠ [] := fun e => h0 (by rw [e]; rfl)
 have s : 0 < b.length := List.length_pos_iff.2 g
 have hp : 0 < 18446744073709551616 ^ (b.length - 1) := Nat.pow_pos xAb
 have r := bAq q g
 have j := sH f
 have ht : b.getD (b.length - 1) 0 = nv b / 18446744073709551616 ^ (b.length - 1) := by
  rw [aAs f]
  refine Nat.mod_eq_of_lt ((Nat.div_lt_iff_lt_mul hp).2 ?_)
  rw [Nat.mul_comm, ← Nat.pow_succ, show (b.length - 1).succ = b.length from by omega]
  exact j
 rw [ht]
 exact ⟨s, (Nat.le_div_iff_mul_le hp).2 (by omega), Nat.div_mul_le_self _ _, by simp_all [Nat.mul_comm, Nat.lt_mul_div_succ]⟩
theorem bBA {b : List Nat} (f : Lm b) (z : Nrm b) (h0 : nv b ≠ 0) : nv b * 2 ^ (64 - bl (b.getD (b.length - 1) 0)) < 18446744073709551616 ^ b.length ∧ 9223372036854775808 * 18446744073709551616 ^ (b.length - 1) ≤ nv b * 2 ^ (64 - bl (b.getD (b.length - 1) 0)) := by
 obtain ⟨O, N, L, I⟩ := aXG f z h0
 have hb := bDi (kK f (b.length - 1))
 have g := aY4 (x := b.getD (b.length - 1) 0) (by omega)
 have q := bDg (b.getD (b.length - 1) 0)
 have r := aY3 (x := b.getD (b.length - 1) 0) (by omega)
 generalize b.getD (b.length - 1) 0 = t at *
 have hp := Nat.two_pow_pos (64 - bl t)
 have e1 : 2 ^ bl t * 2 ^ (64 - bl t) = 18446744073709551616 := by rw [← Nat.pow_add, show bl t + (64 - bl t) = 64 from by omega]
 have s : 2 ^ (bl t - 1) * 2 ^ (64 - bl t) = 9223372036854775808 := by grind [Nat.pow_add, bl]
 constructor
 ·have j : (t + 1) * 2 ^ (64 - bl t) ≤ 18446744073709551616 := by rw [← e1]; exact Nat.mul_le_mul_right _ q
  have J := Nat.mul_lt_mul_of_pos_right I hp
  refine Nat.lt_of_lt_of_le J ?_
  rw [Nat.mul_right_comm, show 18446744073709551616 ^ b.length = 18446744073709551616 * 18446744073709551616 ^ (b.length - 1) from by rw [Nat.mul_comm, ← Nat.pow_succ]; grind]
  exact Nat.mul_le_mul_right _ j
 ·have j : 9223372036854775808 ≤ t * 2 ^ (64 - bl t) := by rw [← s]; exact Nat.mul_le_mul_right _ g
  refine Nat.le_trans (Nat.mul_le_mul_right _ j) ?_
  simp_all [Nat.mul_right_comm, Nat.mul_le_mul_right]
structure QrI (m n V N : Nat) (j : Int) (u q : List Nat) : Prop where
 j0 : -1 ≤ j
 j1 : j ≤ m
 ul : u.length = m + n + 1
 lu : Lm u
 ql : q.length = m + 1
 lq : Lm q
 lt : nv u < 18446744073709551616 ^ (j + 1).toNat * V
 lo : ∃ t, nv q = 18446744073709551616 ^ (j + 1).toNat * t
 sum : nv q * V + nv u = N
theorem bDC {m n V N : Nat} {j : Int} {u q w : List Nat} (h : QrI m n V N j u q) (U : 0 ≤ j) (W : w.length = u.length) (L : Lm w) (hV : 0 < V)
  (e : nv w + nv u / (18446744073709551616 ^ j.toNat * V) * (18446744073709551616 ^ j.toNat * V) = nv u) : QrI m n V N (j - 1) w (q.set j.toNat (nv u / (18446744073709551616 ^ j.toNat * V))) := by
 have Y := h.j1
 have z := h.ql
 have O := h.ul
 have e1 : (j + 1).toNat = j.toNat + 1 := by omega
 have g : (j - 1 + 1).toNat = j.toNat := by omega
 have J : 0 < 18446744073709551616 ^ j.toNat * V := Nat.mul_pos (Nat.pow_pos xAb) hV
 have f := h.lt
 obtain ⟨t, ht⟩ := h.lo
 rw [e1] at f ht
 have I : nv u / (18446744073709551616 ^ j.toNat * V) < 18446744073709551616 := by
  refine (Nat.div_lt_iff_lt_mul J).2 ?_
  rw [Nat.pow_succ, Nat.mul_comm (18446744073709551616 ^ j.toNat) 18446744073709551616, Nat.mul_assoc] at f
  exact f
 have r : q.getD j.toNat 0 = 0 := by
  rw [aAs h.lq, ht, Nat.pow_succ, Nat.mul_assoc, Nat.mul_div_cancel_left _ (Nat.pow_pos xAb), Nat.mul_mod_right]
 have b := aFY (a := q) (k := j.toNat) (v := nv u / (18446744073709551616 ^ j.toNat * V)) (by omega)
 rw [r, Nat.mul_zero, Nat.add_zero] at b
 have s : nv w = nv u % (18446744073709551616 ^ j.toNat * V) := by
  grind [Nat.div_add_mod, nv, Nat.mul_comm]
 refine ⟨by omega, by omega, by omega, L, by simp_all, aDw h.lq _ I, ?_, ?_, ?_⟩
 ·simp_all [Nat.mod_lt]
 ·rw [g, b, ht, Nat.pow_succ, Nat.mul_assoc, ← Nat.mul_add]; grind
 ·have hs := h.sum
  grind
theorem aSn (a : List Nat) (wa : (Ty.sl qt).wf a) (b : List Nat) (wb : (Ty.sl qt).wf b) (hp : aHq a b) : aBz none a b = some (pV a b) := by
 obtain ⟨na, nb, O, sa⟩ := hp
 have Z := aEK wa
 have z := aEK wb
 obtain ⟨hl, t1, t2, t3⟩ := aXG z nb O
 obtain ⟨v1, v2⟩ := bBA z nb O
 have h64 := bDi (kK z (b.length - 1))
 have hpos := aY3 (x := b.getD (b.length - 1) 0) (by omega)
 unfold aBz
 refine aF ⟨na, nb⟩ (aGr (fun hc => ?_) (fun hc => aGr (fun h1 => ?_) (fun h1 => ?_)))
 ·have f : nv a < nv b := by
   grind [qO, aY5]
  unfold pV
  rw [Nat.div_eq_of_lt f, Nat.mod_eq_of_lt f, aCC, bGd Z na]
  exact aF (by omega) rfl
 ·have hb1 : nv b = b.getD 0 0 := by
   grind
  refine aF (by omega) (aF ⟨by omega, sa⟩ ?_)
  grind [aAU, pV]
 ·have hge : nv b ≤ nv a := by
   grind [qO, aY5]
  have hlen : b.length ≤ a.length := by
   rcases Nat.lt_or_ge a.length b.length with h | h
   ·exfalso
    have W := sH Z
    have Y : 18446744073709551616 ^ a.length ≤ 18446744073709551616 ^ (b.length - 1) := Nat.pow_le_pow_right xAb (by omega)
    grind [bAq]
   omega
  have e1 : ((b.length : Int) - 1).toNat = b.length - 1 := by omega
  rw [e1]
  have hs : (aB (b.getD (b.length - 1) 0)).toNat = 64 - bl (b.getD (b.length - 1) 0) := by grind [aB]
  have U : 0 ≤ aB (b.getD (b.length - 1) 0) ∧ aB (b.getD (b.length - 1) 0) ≤ 63 := by grind [aB]
  have g : jD b (aB (b.getD (b.length - 1) 0)) = lb (nv b * 2 ^ (64 - bl (b.getD (b.length - 1) 0))) := by grind [jD]
  have J : jD a (aB (b.getD (b.length - 1) 0)) = lb (nv a * 2 ^ (64 - bl (b.getD (b.length - 1) 0))) := by grind [jD]
  have L : 64 - bl (b.getD (b.length - 1) 0) ≤ 63 := by omega
  have hbl : (lb (nv b * 2 ^ (64 - bl (b.getD (b.length - 1) 0)))).length ≤ b.length := aDv.2 v1
  have hal : (lb (nv a * 2 ^ (64 - bl (b.getD (b.length - 1) 0)))).length ≤ a.length + 1 := by
   refine aDv.2 ?_
   rw [Nat.pow_succ]
   refine Nat.mul_lt_mul'' (sH Z) ?_
   exact Nat.lt_of_le_of_lt (Nat.pow_le_pow_right xAb L) xAb
  have hn2 : 2 ≤ b.length := by omega
  obtain ⟨sI, r⟩ : ∃ sI, sI = aB (b.getD (b.length - 1) 0) := ⟨_, rfl⟩
  obtain ⟨s, hss⟩ : ∃ s, s = 64 - bl (b.getD (b.length - 1) 0) := ⟨_, rfl⟩
  rw [← hss] at v1 v2 hbl hal J g L hs
  rw [← r] at J g U hs
  rw [← r, J, g]
  have hV : 0 < nv b * 2 ^ s := Nat.mul_pos (by omega) (Nat.two_pow_pos s)
  have key := lI (step := fun d : Int × qa × qa => sL none b d.1 d.2.1 d.2.2) (I := fun d => QrI (a.length - b.length) b.length (nv b * 2 ^ s) (nv a * 2 ^ s) d.1 d.2.1 d.2.2) (fun d => (d.1 + 1).toNat)
   (fun e => e.1.length = a.length + 1 ∧ Lm e.1 ∧ nv e.1 = nv a * 2 ^ s % (nv b * 2 ^ s) ∧ nv e.2 = nv a * 2 ^ s / (nv b * 2 ^ s)) ?_ ((a.length : Int) - (b.length : Int), fN (lb (nv a * 2 ^ s)) ((a.length : Int) + 1), List.replicate (((a.length : Int) - (b.length : Int)) + 1).toNat 0) ?_
  ·obtain ⟨e, h2, h3, h4, h5, h6⟩ := key
   refine aF (by omega) (aF (by omega) (aF ⟨(by omega), by omega, by omega⟩ (aF (by omega) (aF ⟨sa, by omega, by omega⟩ (aF (by omega) (aF (by omega) (aF (by omega) (aF (by omega) (aF (by omega) (aF (by omega) (aF (by omega) (bP h2 ?_))))))))))))
   have hm : nv e.1 < nv b * 2 ^ s := by simp_all [Nat.mod_lt]
   have htk : nv (e.1.take b.length) = nv e.1 := by
    rw [bFh h4]; exact Nat.mod_eq_of_lt (Nat.lt_trans hm v1)
   have htr : fA (e.1.take b.length) = lb (nv e.1) := by rw [fA, htk]
   unfold aAt
   rw [e1, ← r, htr]
   refine aF (by omega) (aF ⟨?_, U.1⟩ ?_)
   ·have := aDv.2 (Nat.lt_trans hm v1)
    omega
   ·unfold pV uL
    rw [fA, h6, aBt, hs, h5, Nat.mul_div_mul_right _ _ (Nat.two_pow_pos s), Nat.mul_mod_mul_right, Nat.mul_div_cancel _ (Nat.two_pow_pos s)]
  ·rintro ⟨j, u, q⟩ h
   have h : QrI (a.length - b.length) b.length (nv b * 2 ^ s) (nv a * 2 ^ s) j u q := h
   have i0 := h.j0
   have i1 := h.j1
   have hul := h.ul
   have hql := h.ql
   show (∃ d', sL none b j u q = _ ∧ _) ∨ ∃ e, sL none b j u q = _ ∧ _
   unfold sL
   rw [e1, ← r, g]
   by_cases hj : 0 ≤ j
   ·left
    have hvl : (fN (lb (nv b * 2 ^ s)) (b.length : Int)).length = b.length := by grind [aSm, Int.toNat_natCast]
    have N : nv (fN (lb (nv b * 2 ^ s)) (b.length : Int)) = nv b * 2 ^ s := by rw [aOz, aBt]
    have lv : Lm (fN (lb (nv b * 2 ^ s)) (b.length : Int)) := aUP (aKK _)
    have htop : 9223372036854775808 ≤ (fN (lb (nv b * 2 ^ s)) (b.length : Int)).getD (b.length - 1) 0 := by
     have hp : 0 < 18446744073709551616 ^ (b.length - 1) := Nat.pow_pos xAb
     rw [aAs lv, N, Nat.mod_eq_of_lt ((Nat.div_lt_iff_lt_mul hp).2 (by rw [← Nat.pow_succ', show (b.length - 1).succ = b.length from by omega]; exact v1))]
     simp_all [Nat.le_div_iff_mul_le]
    have f := h.lt
    rw [show (j + 1).toNat = j.toNat + 1 from by omega] at f
    obtain ⟨w, W, Y, k3, k4⟩ := aTD (v := fN (lb (nv b * 2 ^ s)) (b.length : Int)) (u := u) (j := j.toNat) (un := ((j + (b.length : Int)) + 1 - j).toNat) lv h.lu (by omega) (by omega) (by omega) (by omega) (by simp_all) (by simp_all)
    rw [N] at W k4
    refine ⟨(j - 1, w, q.set j.toNat (nv u / (18446744073709551616 ^ j.toNat * (nv b * 2 ^ s)))), ?_, bDC h hj Y k3 hV k4, by omega⟩
    rw [if_pos hj]
    exact aF (by omega) (aF (by omega) (aF (by omega) (bP W (aF (by omega) (aF (by omega) rfl)))))
   ·right
    have hj1 : (j + 1).toNat = 0 := by omega
    have f := h.lt
    rw [hj1, Nat.pow_zero, Nat.one_mul] at f
    have hs4 := h.sum
    refine ⟨(u, q), by grind, by simp_all, h.lu, ?_, ?_⟩
    ·grind [Nat.add_comm, Nat.add_mul_mod_self_right, Nat.mod_eq_of_lt]
    ·simp only
     rw [← hs4, Nat.add_comm, Nat.add_mul_div_right _ _ hV, Nat.div_eq_of_lt f, Nat.zero_add]
  ·have ej : ((a.length : Int) - (b.length : Int) + 1).toNat = a.length - b.length + 1 := by omega
   refine ⟨by omega, by omega, ?_, aUP (aKK _), ?_, aOy _, ?_, ⟨0, ?_⟩, ?_⟩
   ·grind [aSm]
   ·simp_all
   ·simp only
    rw [aOz, aBt, ej]
    have W := sH Z
    have Y : 2 ^ s ≤ 2 ^ 63 := Nat.pow_le_pow_right xAb L
    refine Nat.lt_of_lt_of_le (Nat.mul_lt_mul_of_pos_right W (Nat.two_pow_pos s)) ?_
    refine Nat.le_trans (Nat.mul_le_mul_left _ Y) ?_
    refine Nat.le_trans ?_ (Nat.mul_le_mul_left _ v2)
    rw [Nat.mul_left_comm, ← Nat.pow_add, show a.length - b.length + 1 + (b.length - 1) = a.length from by omega, Nat.mul_comm]
    omega
   ·simp_all [aOx, Nat.mul_zero]
   ·simp only; rw [aOx, Nat.zero_mul, Nat.zero_add, aOz, aBt]
end
end Nu
end Go.Proofs
namespace Go.Proofs
open Go.Vc
set_option maxRecDepth 20000
namespace Nu
noncomputable section
set_option maxHeartbeats 4000000
def aKL : PlR := ⟨[(0, .A [0, 2]), (1, .A [0, 2, 4]), (2, .A [0]), (3, .A [0, 2]), (4, .A [0, 2, 8]), (5, .A [0, 2]), (6, .A [0, 2]), (7, .A [0, 2, 14]), (8, .A [0, 2]), (9, .A [0, 2]), (10, .A [2])], [(4, 7), (7, 10), (10, 13)], []⟩
def aHr : Ty := .pair qt .unit
def aCE : aG := ⟨aHr, .one qc, fun _ => True, fun x => uS x.1⟩
attribute [go_sem] aCE aHr
def aTE (F : Md) : aG := mSpec aHr (.one qc) (fun x => aBv F x.1)
abbrev aVL (F : Md) : List (FuncId × aG) := []
theorem aVM [Mx] (F : Md) : bE Tryz.prog GL (aVL F) := .nil
attribute [go_sem] aKL
theorem aTF [Mx] (F : Md) : FOK Tryz.prog GL 187 (aTE F) := by
 refine bN (bC (aVM F)) mix Tryz.func187 rfl xAa xAb aKL (fun w0 S x Θ z h hV => ?_)
 obtain ⟨(f : Nat), u⟩ := x
 simp only [bT, go_sem]
 replace h : sat (aBv F f) _ := h
 unfold aBv at h
 refine cX hV (D := Nat × Int) (fun d => sat (pG F d.1 d.2) Θ) [] (fun d => [(0, .val qt d.1), (2, .val qc d.2)]) (fun d => []) ?_ ?_
 ·simp only [go_sem]
  refine cI h (fun hc h => ?_) fun hc h => ?_
  ·exact aU ((f / (4294967296 : Nat)), (32 : Int)) h rfl xAc
  ·exact aU (f, (0 : Int)) h rfl xAc
 ·rintro ⟨g, q⟩ h
  simp only [go_sem]
  replace h : sat (pG F g q) _ := h
  unfold pG at h
  refine cX hV (D := Nat × Int) (fun d => sat (pF F d.1 d.2) Θ) [] (fun d => [(0, .val qt d.1), (2, .val qc d.2)]) (fun d => []) ?_ ?_
  ·simp only [go_sem]
   refine cI h (fun hc h => ?_) fun hc h => ?_
   ·refine aN h fun g0 h => ?_
    exact aU ((g / (65536 : Nat)), (q + (16 : Int))) h rfl xAc
   ·exact aU (g, q) h rfl xAc
  ·rintro ⟨b, j⟩ h
   simp only [go_sem]
   replace h : sat (pF F b j) _ := h
   unfold pF at h
   refine cX hV (D := Nat × Int) (fun d => sat (pE F d.1 d.2) Θ) [] (fun d => [(0, .val qt d.1), (2, .val qc d.2)]) (fun d => []) ?_ ?_
   ·simp only [go_sem]
    refine cI h (fun hc h => ?_) fun hc h => ?_
    ·refine aN h fun g0 h => ?_
     exact aU ((b / (256 : Nat)), (j + (8 : Int))) h rfl xAc
    ·exact aU (b, j) h rfl xAc
   ·rintro ⟨r, s⟩ h
    simp only [go_sem]
    replace h : sat (pE F r s) _ := h
    unfold pE at h
    refine aN h fun g0 h => aN h fun g1 h => ?_
    exact zaH
theorem aTG [Mx] : FOK Tryz.prog GL 187 aCE := iW (aTF none) (fun ⟨b, u⟩ ⟨w0, f⟩ hp => aSh b w0)
def aBA : PlR := ⟨[(0, .A [0]), (1, .A [2])], [], []⟩
def wL : Ty := .pair qt .unit
def fO : aG := ⟨wL, .one qc, fun _ => True, fun x => aB x.1⟩
attribute [go_sem] fO wL
def aHs (F : Md) : aG := mSpec wL (.one qc) (fun x => nI F x.1)
abbrev aB7 (F : Md) : List (FuncId × aG) := [(187, aCE)]
theorem aIx [Mx] (F : Md) : bE Tryz.prog GL (aB7 F) := .cons aTG xAa (.nil)
attribute [go_sem] aBA
theorem aHt [Mx] (F : Md) : FOK Tryz.prog GL 144 (aHs F) := by
 refine bN (bC (aIx F)) mix Tryz.func144 rfl xAa xAb aBA (fun w0 S x Θ f h hV => ?_)
 obtain ⟨(b : Nat), u⟩ := x
 simp only [bT, go_sem]
 replace h : sat (nI F b) _ := h
 unfold nI at h
 refine aN h fun g0 h => ?_
 exact zaH
theorem uU [Mx] : FOK Tryz.prog GL 144 fO := iW (aHt none) (fun ⟨b, u⟩ ⟨w0, f⟩ hp => aGs b w0)
def aAW : PlR := ⟨[(0, .A [0]), (1, .A [0, 4]), (2, .A [2]), (3, .A [2])], [], []⟩
def uW : Ty := .pair qt .unit
def oU : aG := ⟨uW, .one qc, fun _ => True, fun x => jU x.1⟩
attribute [go_sem] oU uW
def aGv (F : Md) : aG := mSpec uW (.one qc) (fun x => mH F x.1)
abbrev aHu (F : Md) : List (FuncId × aG) := []
theorem aHv [Mx] (F : Md) : bE Tryz.prog GL (aHu F) := .nil
attribute [go_sem] aAW
theorem aGw [Mx] (F : Md) : FOK Tryz.prog GL 205 (aGv F) := by
 refine bN (bC (aHv F)) mix Tryz.func205 rfl xAa xAb aAW (fun w0 S x Θ f h hV => ?_)
 obtain ⟨(b : Nat), u⟩ := x
 simp only [bT, go_sem]
 replace h : sat (mH F b) _ := h
 unfold mH at h
 refine cI h (fun hc h => ?_) fun hc h => ?_
 ·exact aH hV [.tmp 2] rfl rfl rfl (aA h) xAf
 ·refine aD h fun g0 h => ?_
  repeat (refine ⟨by first | with_reducible assumption | omega | (intros; first | with_reducible assumption | omega) | (simp only [go_sem, cA F, cB F, cC F] at *; first | with_reducible assumption | omega) | (intro _; exact ⟨rfl, by decide⟩) | (intro _; refine (?_ : _ = aK _); rfl) | (refine (?_ : _ = aK _); rfl) | exact ⟨rfl, rfl⟩ | decide, ?_⟩)
  exact aH hV [.tmp 2] rfl rfl rfl (aA h) (by (simp only [aR, go_sem, cA F, cB F, cC F]) <;> first | rfl | (simp; done))
theorem aGx [Mx] : FOK Tryz.prog GL 205 oU := iW (aGw none) (fun ⟨b, u⟩ ⟨w0, f⟩ hp => aFZ b w0)
def aKM : PlR := ⟨[(0, .A [0, 1]), (1, .A [0, 1, 6]), (2, .A [0, 1, 6, 7]), (3, .A [0, 1, 6, 7, 8]), (4, .A [0, 1, 6, 7, 8, 9]), (5, .A [0, 1, 6, 7, 8, 9, 10]), (6, .A [0, 1, 6, 7, 9, 11]), (7, .A [0, 1, 6, 7, 9, 11, 12]), (8, .A [0, 1, 6, 7, 9, 12, 13]), (9, .A [0, 1, 7, 9, 12, 13]), (10, .A [0, 1, 4]), (11, .A [4, 5])], [], []⟩
def aHw : Ty := .pair qt (.pair qt .unit)
def wC : aG := ⟨aHw, .tup wk, fun _ => True, fun x => dQ x.1 x.2.1⟩
attribute [go_sem] wC aHw
def aTH (F : Md) : aG := mSpec aHw (.tup wk) (fun x => aBw F x.1 x.2.1)
abbrev aVN (F : Md) : List (FuncId × aG) := []
theorem aVO [Mx] (F : Md) : bE Tryz.prog GL (aVN F) := .nil
attribute [go_sem] aKM
theorem aTI [Mx] (F : Md) : FOK Tryz.prog GL 150 (aTH F) := by
 refine bN (bC (aVO F)) mix Tryz.func150 rfl xAa xAb aKM (fun w0 S x Θ g h hV => ?_)
 obtain ⟨(b : Nat), (f : Nat), u⟩ := x
 simp only [bT, go_sem]
 replace h : sat (aBw F b f) _ := h
 unfold aBw at h
 exact aH hV [.tmp 4, .tmp 5] rfl rfl rfl (aA h) xAf
theorem aKN [Mx] : FOK Tryz.prog GL 150 wC := iW (aTI none) (fun ⟨f, x1, u⟩ ⟨w0, b, g⟩ hp => aSi f w0 x1 b)
end
end Nu
end Go.Proofs
namespace Go.Proofs
open Go.Vc
set_option maxRecDepth 20000
namespace Nu
noncomputable section
set_option maxHeartbeats 4000000
def aPJ : PlR := ⟨[(0, .A [0]), (1, .A [0, 14]), (2, .A [0]), (3, .A [2])], [], []⟩
def aLE : Ty := .pair we .unit
def iB : aG := ⟨aLE, .one we, fun _ => True, fun x => fA x.1⟩
attribute [go_sem] iB aLE
def aXH (F : Md) : aG := mSpec aLE (.one we) (fun x => aEL F x.1)
abbrev aY9 (F : Md) : List (FuncId × aG) := []
theorem aZa [Mx] (F : Md) : bE Tryz.prog GL (aY9 F) := .nil
attribute [go_sem] aPJ
theorem aXI [Mx] (F : Md) : FOK Tryz.prog GL 148 (aXH F) := by
 refine bN (bC (aZa F)) mix Tryz.func148 rfl xAa xAb aPJ (fun w0 S x Θ s h hV => ?_)
 obtain ⟨(g : qa), u⟩ := x
 simp only [bT, go_sem]
 replace h : sat (aEL F g) _ := h
 unfold aEL at h
 refine bM hV (D := qa) [] (fun d => [(0, .val we d)]) (fun d => []) h rfl xAc ?_
 rintro j r q b f h
 simp only [go_sem]
 replace h : sat (aCD F j) _ := h
 unfold aCD at h
 refine aN h fun g0 h => aN h fun g1 h => ?_
 refine ⟨fun hc => ?_, fun hc => ?_⟩
 ·replace h := gB hc h
  refine aN h fun g0 h => aN h fun g1 h => ?_
  replace h := b _ (aA h)
  exact zaJ
 ·replace h := gC hc h
  replace h := yaG (f _ (aA h))
  exact zaH
theorem xP [Mx] : FOK Tryz.prog GL 148 iB := iW (aXI none) (fun ⟨b, u⟩ ⟨w0, f⟩ hp => aVC b w0)
def aSo : PlR := ⟨[(0, .A [0]), (1, .A [2])], [], []⟩
def aOA : Ty := .pair we .unit
def aHx : aG := ⟨aOA, .one .bool, fun _ => True, fun x => aGu x.1⟩
attribute [go_sem] aHx aOA
def aZb (F : Md) : aG := mSpec aOA (.one .bool) (fun x => aGt F x.1)
abbrev bBB (F : Md) : List (FuncId × aG) := []
theorem bBC [Mx] (F : Md) : bE Tryz.prog GL (bBB F) := .nil
attribute [go_sem] aSo
theorem aZc [Mx] (F : Md) : FOK Tryz.prog GL 157 (aZb F) := by
 refine bN (bC (bBC F)) mix Tryz.func157 rfl xAa xAb aSo (fun w0 S x Θ g h hV => ?_)
 obtain ⟨(f : qa), u⟩ := x
 simp only [bT, go_sem]
 replace h : sat (aGt F f) _ := h
 unfold aGt at h
 refine aD h fun g0 h => ?_
 refine aD h fun g1 h => ?_
 try simp only [I64, I32] at g0
 repeat (refine ⟨by first | with_reducible assumption | omega | (intros; first | with_reducible assumption | omega) | (intro _; exact ⟨rfl, by decide⟩) | (intro _; refine (?_ : _ = aK _); rfl) | (refine (?_ : _ = aK _); rfl) | exact ⟨rfl, rfl⟩ | (intro q0 b; (try have e0 := g0 zAG (by first | exact b | omega | (simpa using b))); (try have e1 := g1 zAG (by first | exact b | omega | (simpa using b))); first | assumption | omega) | (rintro ⟨q0, b⟩; (try have e0 := g0 zAG (by first | exact b | omega | (simpa using b))); (try have e1 := g1 zAG (by first | exact b | omega | (simpa using b))); first | assumption | omega) | decide, ?_⟩)
 exact zaH
theorem aZd [Mx] : FOK Tryz.prog GL 157 aHx := iW (aZc none) (fun ⟨b, u⟩ ⟨w0, f⟩ hp => aXA b w0)
def aPK : PlR := ⟨[(0, .A [0]), (1, .A [3]), (2, .A [2]), (3, .A [2])], [], []⟩
def aLF : Ty := .pair .bool .unit
def aFw : aG := ⟨aLF, .one qc, fun _ => True, fun x => aAG x.1⟩
attribute [go_sem] aFw aLF
def aXJ (F : Md) : aG := mSpec aLF (.one qc) (fun x => aEM F x.1)
abbrev aZe (F : Md) : List (FuncId × aG) := []
theorem aZf [Mx] (F : Md) : bE Tryz.prog GL (aZe F) := .nil
attribute [go_sem] aPK
theorem aXK [Mx] (F : Md) : FOK Tryz.prog GL 163 (aXJ F) := by
 refine bN (bC (aZf F)) mix Tryz.func163 rfl xAa xAb aPK (fun w0 S x Θ f h hV => ?_)
 obtain ⟨(b : Bool), u⟩ := x
 simp only [bT, go_sem]
 replace h : sat (aEM F b) _ := h
 unfold aEM at h
 exact zaw
theorem aXL [Mx] : FOK Tryz.prog GL 163 aFw := iW (aXK none) (fun ⟨b, u⟩ ⟨w0, f⟩ hp => aVD b w0)
def aMQ : PlR := ⟨[(0, .A [0, 1]), (1, .A [0, 1, 10]), (2, .A [4]), (3, .A [0, 1, 5]), (4, .A [0, 1, 5, 21]), (5, .A [0, 1, 5]), (6, .A [0, 1, 5, 32]), (7, .A [4]), (8, .A [4])], [], []⟩
def aJi : Ty := .pair we ve
def sR : aG := ⟨aJi, .one qc, fun x => aXz x.1 x.2.1, fun x => qO x.1 x.2.1⟩
attribute [go_sem] sR aJi
def aVP (F : Md) : aG := mSpec aJi (.one qc) (fun x => aC2 F x.1 x.2.1)
abbrev aPL (F : Md) : List (FuncId × aG) := [(163, aFw)]
theorem aXM [Mx] (F : Md) : bE Tryz.prog GL (aPL F) := .cons aXL xAa (.nil)
attribute [go_sem] aMQ
theorem aVQ [Mx] (F : Md) : FOK Tryz.prog GL 115 (aVP F) := by
 refine bN (bC (aXM F)) mix Tryz.func115 rfl xAa xAb aMQ (fun w0 S x Θ q h hV => ?_)
 obtain ⟨(f : qa), (b : qa), u⟩ := x
 simp only [bT, go_sem]
 replace h : sat (aC2 F f b) _ := h
 unfold aC2 at h
 refine cI h (fun hc h => ?_) fun hc h => ?_
 ·exact aH hV [.tmp 4] rfl rfl rfl (aA h) xAd
 ·refine aN h fun g0 h => ?_
  refine bM hV (D := Int) [0, 1] (fun d => [(5, .val qc d)]) (fun d => []) h rfl xAc ?_
  rintro g j T4 hA4 hE4 h
  simp only [go_sem]
  replace h : sat (xJ F f b g) _ := h
  unfold xJ at h
  refine aYW h (fun hc h => ?_) fun hc h => ?_
  ·refine aN h fun g0 h => aN h fun g1 h => ?_
   refine cI h (fun hc h => ?_) fun hc h => ?_
   ·refine aN h fun g0 h => aN h fun g1 h => ?_
    replace h := yaG (hE4 _ (aA h))
    exact zaD
   ·refine aN h fun g0 h => ?_
    replace h := hA4 _ (aA h)
    exact zaJ
  ·replace h := yaG (hE4 _ (aA h))
   exact zaD
theorem aHy [Mx] : FOK Tryz.prog GL 115 sR := iW (aVQ none) (fun ⟨f, x1, u⟩ ⟨w0, b, g⟩ hp => aTy f w0 x1 b hp)
def aPM : PlR := ⟨[(0, .A [0]), (1, .A [0, 5]), (2, .A [2]), (3, .A [2])], [], []⟩
def aLG : Ty := .pair we .unit
def aFx : aG := ⟨aLG, .one qc, fun x => bAs x.1, fun x => rF x.1⟩
attribute [go_sem] aFx aLG
def aXN (F : Md) : aG := mSpec aLG (.one qc) (fun x => aEN F x.1)
abbrev aSp (F : Md) : List (FuncId × aG) := [(144, fO)]
theorem aZg [Mx] (F : Md) : bE Tryz.prog GL (aSp F) := .cons uU xAa (.nil)
attribute [go_sem] aPM
theorem aXO [Mx] (F : Md) : FOK Tryz.prog GL 158 (aXN F) := by
 refine bN (bC (aZg F)) mix Tryz.func158 rfl xAa xAb aPM (fun w0 S x Θ f h hV => ?_)
 obtain ⟨(b : qa), u⟩ := x
 simp only [bT, go_sem]
 replace h : sat (aEN F b) _ := h
 unfold aEN at h
 refine cI h (fun hc h => ?_) fun hc h => ?_
 ·exact aH hV [.tmp 2] rfl rfl rfl (aA h) xAd
 ·refine aN h fun g0 h => aN h fun g1 h => aN h fun g h => aN h fun j h => ?_
  exact zaH
theorem aXP [Mx] : FOK Tryz.prog GL 158 aFx := iW (aXO none) (fun ⟨b, u⟩ ⟨w0, f⟩ hp => aVE b w0 hp)
def aMR : PlR := ⟨[(0, .A [0]), (1, .A [5, 6, 7]), (2, .A [5, 6, 7, 8]), (3, .A [3, 4, 5, 6, 7]), (4, .A [3, 4, 5, 6, 7, 13]), (5, .A [2]), (6, .A [5, 6, 7]), (7, .A [2])], [], []⟩
def aJj : Ty := .pair we .unit
def aD2 : aG := ⟨aJj, .one qc, fun x => pSz x.1, fun x => kL x.1⟩
attribute [go_sem] aD2 aJj
def aVR (F : Md) : aG := mSpec aJj (.one qc) (fun x => aC3 F x.1)
abbrev aPN (F : Md) : List (FuncId × aG) := [(205, oU)]
theorem aXQ [Mx] (F : Md) : bE Tryz.prog GL (aPN F) := .cons aGx xAa (.nil)
attribute [go_sem] aMR
theorem aVS [Mx] (F : Md) : FOK Tryz.prog GL 190 (aVR F) := by
 refine bN (bC (aXQ F)) mix Tryz.func190 rfl xAa xAb aMR (fun w0 S x Θ g h hV => ?_)
 obtain ⟨(f : qa), u⟩ := x
 simp only [bT, go_sem]
 replace h : sat (aC3 F f) _ := h
 unfold aC3 at h
 refine bM hV (D := Int) [5, 6] (fun d => [(7, .val qc d)]) (fun d => []) h rfl xAc ?_
 rintro b j T2 hA2 hE2 h
 simp only [go_sem]
 replace h : sat (xK F f b) _ := h
 unfold xK at h
 refine dY h (fun hc h => ?_) fun hc h => ?_
 ·refine aN h fun g0 h => ?_
  refine cI h (fun hc h => ?_) fun hc h => ?_
  ·refine aN h fun g0 h => aN h fun g1 h => ?_
   replace h := yaG (hE2 _ (aA h))
   exact zaH
  ·refine aN h fun g0 h => ?_
   exact zas
 ·replace h := yaG (hE2 _ (aA h))
  exact zaH
theorem aVT [Mx] : FOK Tryz.prog GL 190 aD2 := iW (aVS none) (fun ⟨b, u⟩ ⟨w0, f⟩ hp => aTz b w0 hp)
def aPO : PlR := ⟨[(0, .A [0, 1]), (1, .A [0, 1, 13]), (2, .A [0, 1]), (3, .B [1, 5]), (4, .A [1, 5, 6]), (5, .A [1, 5, 6, 21, 22]), (6, .A [1, 5, 6, 21, 22, 23]), (7, .A [1, 5, 6, 7, 21, 22]), (8, .A [1, 5, 6, 7, 8, 21, 22]), (9, .A [1, 5, 6, 7, 8, 21, 22, 25]), (10, .A [1, 5, 6, 7, 8, 21, 22]), (11, .A [1, 5, 6, 7, 8, 21, 22, 34]), (12, .B [1, 5, 6, 21, 22]), (13, .A [1, 5, 6, 21, 22]), (14, .B [4])], [(4, 6), (12, 15)], []⟩
def aLH : Ty := .pair we ve
def aFy : aG := ⟨aLH, .one we, fun x => aQk x.1 x.2.1, fun x => aCu x.1 x.2.1⟩
attribute [go_sem] aFy aLH
def aXR (F : Md) : aG := mSpec aLH (.one we) (fun x => aEO F x.1 x.2.1)
abbrev aHz (F : Md) : List (FuncId × aG) := [(142, dH), (148, iB), (151, qN)]
theorem aZh [Mx] (F : Md) : bE Tryz.prog GL (aHz F) := .cons pT xAa (.cons xP xAa (.nat aFW (.nil)))
attribute [go_sem] aPO
theorem aXS [Mx] (F : Md) : FOK Tryz.prog GL 152 (aXR F) := by
 refine bN (bC (aZh F)) mix Tryz.func152 rfl xAa xAb aPO (fun w0 S x Θ L h hV => ?_)
 obtain ⟨(g : qa), (j : qa), u⟩ := x
 simp only [bT, go_sem]
 replace h : sat (aEO F g j) _ := h
 unfold aEO at h
 refine cX hV (D := qa × qa) (fun d => sat (tC F d.1 d.2) Θ) [] (fun d => [(0, .val we d.1), (1, .val we d.2)]) (fun d => []) ?_ ?_
 ·simp only [go_sem]
  refine dY h (fun hc h => ?_) fun hc h => ?_
  ·exact aU (j, g) h rfl xAc
  ·exact aU (g, j) h rfl xAc
 ·rintro ⟨z, q⟩ h
  simp only [go_sem]
  replace h : sat (tC F z q) _ := h
  unfold tC at h
  refine aN h fun g0 h => ?_
  refine aD h fun g0 h => (yaC ?_)
  refine aKm [1] rfl rfl (yaA ?_)
  refine bM hV (D := Nat × Int × qa) [1, 21] (fun d => [(5, .own 0), (6, .val qt d.1), (22, .val qc d.2.1)]) (fun d => [.inr (.row 165 qt d.2.2)]) h rfl xAc ?_
  rintro ⟨carry_12, b, f⟩ N J I r h
  simp only [go_sem]
  replace h : sat (tB F z q carry_12 b f) _ := h
  unfold tB at h
  refine dY h (fun hc h => ?_) fun hc h => ?_
  ·refine cX hV (D := Nat) (fun d => sat (tA F b f carry_12 d) J) [1, 6, 7, 21, 22] (fun d => [(5, .own 0), (8, .val qt d)]) (fun d => [.inr (.row 165 qt f)]) ?_ ?_
   ·simp only [go_sem]
    refine dY h (fun hc h => ?_) fun hc h => ?_
    ·refine aD h fun g0 h => (yaC ?_)
     exact aU (q.getD (b.toNat) (0 : Nat)) h rfl xAc
    ·refine cI h (fun hc h => ?_) fun hc h => ?_
     ·replace h := yaG (r _ (aA h))
      exact zaD
     ·exact aU (0 : Nat) h rfl xAc
   ·rintro s h
    simp only [go_sem]
    replace h : sat (tA F b f carry_12 s) _ := h
    unfold tA at h
    refine aD h fun g0 h => (yaC ?_)
    refine aD h fun g0 h => (yaC ?_)
    refine aD h fun g0 h => (yaC ?_)
    refine aN h fun g0 h => ?_
    replace h := I _ (aA h)
    exact zaJ
  ·replace h := yaG (r _ (aA h))
   exact zaD
theorem aXT [Mx] : FOK Tryz.prog GL 152 aFy := iW (aXS none) (fun ⟨f, x1, u⟩ ⟨w0, b, g⟩ hp => aVF f w0 x1 b hp)
def aPP : PlR := ⟨[(0, .A [0]), (1, .B [2])], [], []⟩
def aLI : Ty := .pair we .unit
def aAX : aG := ⟨aLI, .one we, fun x => pSz x.1, fun x => pH x.1⟩
attribute [go_sem] aAX aLI
def aXU (F : Md) : aG := mSpec aLI (.one we) (fun x => aEP F x.1)
abbrev aLJ (F : Md) : List (FuncId × aG) := [(142, dH), (148, iB)]
theorem aZi [Mx] (F : Md) : bE Tryz.prog GL (aLJ F) := .cons pT xAa (.cons xP xAa (.nil))
attribute [go_sem] aPP
theorem aXV [Mx] (F : Md) : FOK Tryz.prog GL 153 (aXU F) := by
 refine bN (bC (aZi F)) mix Tryz.func153 rfl xAa xAb aPP (fun w0 S x Θ f h hV => ?_)
 obtain ⟨(b : qa), u⟩ := x
 simp only [bT, go_sem]
 replace h : sat (aEP F b) _ := h
 unfold aEP at h
 refine aN h fun g0 h => ?_
 exact zaH
theorem aPQ [Mx] : FOK Tryz.prog GL 153 aAX := iW (aXV none) (fun ⟨b, u⟩ ⟨w0, f⟩ hp => aVG b w0 hp)
end
end Nu
end Go.Proofs
namespace Go.Proofs
open Go.Vc
set_option maxRecDepth 20000
namespace Nu
noncomputable section
set_option maxHeartbeats 4000000
def aMS : PlR := ⟨[(0, .A [0, 1]), (1, .B [0, 1, 5]), (2, .A [1, 5, 20, 21, 22]), (3, .A [1, 5, 20, 21, 22, 23]), (4, .A [1, 5, 6, 7, 20, 21, 22]), (5, .A [1, 5, 6, 7, 8, 20, 21, 22]), (6, .A [1, 5, 6, 7, 8, 20, 21, 22, 27, 28, 29]), (7, .A [1, 5, 6, 7, 8, 20, 21, 22, 27, 28, 29, 30]), (8, .A [1, 5, 6, 7, 8, 9, 10, 20, 21, 22, 27, 28, 29]), (9, .A [1, 5, 6, 7, 8, 9, 11, 12, 20, 21, 22, 27, 28, 29]), (10, .A [1, 5, 6, 7, 8, 9, 11, 12, 20, 21, 22, 27, 28, 29]), (11, .A [1, 5, 6, 7, 9, 11, 12, 13, 20, 21, 22, 27, 28, 29]), (12, .A [1, 5, 6, 7, 9, 11, 12, 20, 21, 22, 27, 28, 29]), (13, .B [1, 5, 6, 7, 11, 13, 20, 21, 22, 27, 28, 29]), (14, .A [1, 5, 6, 7, 8, 20, 21, 22, 27, 28, 29]), (15, .A [1, 5, 6, 7, 8, 20, 21, 22, 27, 28, 29]), (16, .B [1, 5, 20, 21, 22]), (17, .A [1, 5, 20, 21, 22]), (18, .B [4])], [(9, 19)], []⟩
def aJk : Ty := .pair we ve
def iM : aG := ⟨aJk, .one we, fun x => aQk x.1 x.2.1, fun x => cR x.1 x.2.1⟩
attribute [go_sem] iM aJk
def aVU (F : Md) : aG := mSpec aJk (.one we) (fun x => aC4 F x.1 x.2.1)
abbrev aFz (F : Md) : List (FuncId × aG) := [(148, iB), (150, wC), (151, qN)]
theorem aXW [Mx] (F : Md) : bE Tryz.prog GL (aFz F) := .cons xP xAa (.cons aKN xAa (.nat aFW (.nil)))
attribute [go_sem] aMS
theorem aVV [Mx] (F : Md) : FOK Tryz.prog GL 105 (aVU F) := by
 refine bN (bC (aXW F)) mix Tryz.func105 rfl xAa xAb aMS (fun w0 S x Θ W h hV => ?_)
 obtain ⟨(s : qa), (g : qa), u⟩ := x
 simp only [bT, go_sem]
 replace h : sat (aC4 F s g) _ := h
 unfold aC4 at h
 refine aD h fun g0 h => (yaC ?_)
 refine aD h fun g0 h => ?_
 refine aD h fun g1 h => (yaC ?_)
 refine bM hV (D := Int × qa) [1, 20, 21] (fun d => [(5, .own 0), (22, .val qc d.1)]) (fun d => [.inr (.row 165 qt d.2)]) h rfl xAc ?_
 rintro ⟨b, r⟩ U T3 J z h
 simp only [go_sem]
 replace h : sat (rH F s g b r) _ := h
 unfold rH at h
 refine dY h (fun hc h => ?_) fun hc h => ?_
 ·refine aD h fun g0 h => (yaC ?_)
  refine cX hV (D := Nat × qa) (fun d => sat (xL F b g d.1 d.2) T3) [1, 6, 20, 21, 22] (fun d => [(5, .own 0), (8, .val qt d.1)]) (fun d => [.inr (.row 165 qt d.2)]) ?_ ?_
  ·simp only [go_sem]
   refine bM hV (D := Nat × Int × qa) [1, 6, 7, 20, 21, 22, 27, 28] (fun d => [(5, .own 0), (8, .val qt d.1), (29, .val qc d.2.1)]) (fun d => [.inr (.row 165 qt d.2.2)]) h rfl xAc ?_
   rintro ⟨carry_64, j, f⟩ N O I L h
   simp only [go_sem]
   replace h : sat (rG F g s b carry_64 j f) _ := h
   unfold rG at h
   refine dY h (fun hc h => ?_) fun hc h => ?_
   ·refine aD h fun g0 h => (yaC ?_)
    refine aD h fun g0 h => (yaC ?_)
    refine aD h fun g0 h => (yaC ?_)
    refine aD h fun g0 h => (yaC ?_)
    refine aD h fun g0 h => (yaC ?_)
    refine aD h fun g0 h => (yaC ?_)
    refine aD h fun g0 h => (yaC ?_)
    refine aD h fun g0 h => (yaC ?_)
    replace h := I _ (aA h)
    exact zaJ
   ·replace h := yaG (L _ (aA h))
    exact aU (carry_64, f) h rfl xAc
  ·rintro ⟨carry_62, q⟩ h
   simp only [go_sem]
   replace h : sat (xL F b g carry_62 q) _ := h
   unfold xL at h
   refine aD h fun g0 h => (yaC ?_)
   refine aD h fun g0 h => (yaC ?_)
   refine aD h fun g0 h => ?_
   try simp only [I64, I32] at g0
   repeat (refine ⟨zAB, ?_⟩)
   replace h := J _ (aA h)
   exact zaJ
 ·replace h := yaG (z _ (aA h))
  exact zaD
theorem yG [Mx] : FOK Tryz.prog GL 105 iM := iW (aVV none) (fun ⟨f, x1, u⟩ ⟨w0, b, g⟩ hp => aTA f w0 x1 b hp)
def aPR : PlR := ⟨[(0, .A [0, 1]), (1, .A [0, 1, 10]), (2, .A [4]), (3, .B [0, 1, 5]), (4, .A [1, 5, 18, 19, 20]), (5, .A [1, 5, 18, 19, 20, 21]), (6, .A [1, 5, 6, 7, 18, 19, 20]), (7, .B [1, 5, 6, 7, 18, 19, 20]), (8, .B [1, 5, 18, 19, 20]), (9, .A [1, 5, 18, 19, 20]), (10, .B [4])], [], []⟩
def aLK : Ty := .pair we qj
def aAY : aG := ⟨aLK, .one we, fun x => aUN x.1 x.2.1, fun x => jD x.1 x.2.1⟩
attribute [go_sem] aAY aLK
def aXX (F : Md) : aG := mSpec aLK (.one we) (fun x => aEQ F x.1 x.2.1)
abbrev aSw (F : Md) : List (FuncId × aG) := [(148, iB)]
theorem aZj [Mx] (F : Md) : bE Tryz.prog GL (aSw F) := .cons xP xAa (.nil)
attribute [go_sem] aPR
theorem aXY [Mx] (F : Md) : FOK Tryz.prog GL 146 (aXX F) := by
 refine bN (bC (aZj F)) mix Tryz.func146 rfl xAa xAb aPR (fun w0 S x Θ z h hV => ?_)
 obtain ⟨(g : qa), (j : Int), u⟩ := x
 simp only [bT, go_sem]
 replace h : sat (aEQ F g j) _ := h
 unfold aEQ at h
 refine cI h (fun hc h => ?_) fun hc h => ?_
 ·exact aH hV [.tmp 4] rfl rfl rfl (aA h) xAd
 ·refine aD h fun g0 h => ?_
  try simp only [I64, I32] at g0
  repeat (refine ⟨zAA, ?_⟩)
  refine aD h fun g0 h => ?_
  try simp only [I64, I32] at g0
  repeat (refine ⟨zAA, ?_⟩)
  refine aD h fun g0 h => ?_
  try simp only [I64, I32] at g0
  repeat (refine ⟨zAA, ?_⟩)
  refine aD h fun g0 h => ?_
  refine aD h fun g1 h => ?_
  repeat (refine ⟨zAA, ?_⟩)
  refine bM hV (D := Int × qa) [1, 18, 19] (fun d => [(5, .own 0), (20, .val qc d.1)]) (fun d => [.inr (.row 165 qt d.2)]) h rfl xAc ?_
  rintro ⟨f, b⟩ s T5 r q h
  simp only [go_sem]
  replace h : sat (tD F g j f b) _ := h
  unfold tD at h
  refine dY h (fun hc h => ?_) fun hc h => ?_
  ·refine aD h fun g0 h => ?_
   repeat (refine ⟨zAA, ?_⟩)
   refine aD h fun g0 h => ?_
   try simp only [I64, I32] at g0
   repeat (refine ⟨zAA, ?_⟩)
   refine aD h fun g0 h => ?_
   try simp only [I64, I32] at g0
   repeat (refine ⟨zAA, ?_⟩)
   refine aD h fun g0 h => ?_
   repeat (refine ⟨zAA, ?_⟩)
   refine aD h fun g0 h => ?_
   repeat (refine ⟨zAA, ?_⟩)
   refine aD h fun g0 h => ?_
   try simp only [I64, I32] at g0
   repeat (refine ⟨zAA, ?_⟩)
   refine aD h fun g0 h => ?_
   try simp only [I64, I32] at g0
   repeat (refine ⟨zAA, ?_⟩)
   refine aD h fun g0 h => ?_
   try simp only [I64, I32] at g0
   repeat (refine ⟨zAA, ?_⟩)
   refine aD h fun g0 h => ?_
   repeat (refine ⟨zAA, ?_⟩)
   refine aD h fun g0 h => ?_
   try simp only [I64, I32] at g0
   repeat (refine ⟨zAA, ?_⟩)
   refine aD h fun g0 h => ?_
   repeat (refine ⟨zAA, ?_⟩)
   refine aD h fun g0 h => ?_
   try simp only [I64, I32] at g0
   repeat (refine ⟨zAA, ?_⟩)
   replace h := r _ (aA h)
   exact zao
  ·replace h := yaG (q _ (aA h))
   exact zaD
theorem aPS [Mx] : FOK Tryz.prog GL 146 aAY := iW (aXY none) (fun ⟨f, x1, u⟩ ⟨w0, b, g⟩ hp => aVI f w0 x1 b hp)
def aMT : PlR := ⟨[(0, .A [0, 1]), (1, .A [0, 1, 12]), (2, .A [4]), (3, .A [0, 1]), (4, .B [0, 1, 5]), (5, .A [0, 1, 5, 20, 21, 22]), (6, .A [0, 1, 5, 20, 21, 22, 23]), (7, .A [0, 1, 5, 6, 7, 20, 21, 22]), (8, .B [0, 1, 5, 6, 20, 21, 22]), (9, .A [0, 1, 5, 6, 20, 21, 22, 39]), (10, .C 17 [0, 1, 5, 20, 21, 22]), (11, .A [0, 1, 5, 20, 21, 22]), (12, .B [4])], [], []⟩
def aJl : Ty := .pair we qj
def yH : aG := ⟨aJl, .one we, fun x => aVJ x.1 x.2.1, fun x => uL x.1 x.2.1⟩
attribute [go_sem] yH aJl
def aVW (F : Md) : aG := mSpec aJl (.one we) (fun x => aC5 F x.1 x.2.1)
abbrev aPT (F : Md) : List (FuncId × aG) := [(148, iB)]
theorem aXZ [Mx] (F : Md) : bE Tryz.prog GL (aPT F) := .cons xP xAa (.nil)
attribute [go_sem] aMT
theorem aVX [Mx] (F : Md) : FOK Tryz.prog GL 149 (aVW F) := by
 refine bN (bC (aXZ F)) mix Tryz.func149 rfl xAa xAb aMT (fun w0 S x Θ L h hV => ?_)
 obtain ⟨(g : qa), (q : Int), u⟩ := x
 simp only [bT, go_sem]
 replace h : sat (aC5 F g q) _ := h
 unfold aC5 at h
 refine aD h fun g0 h => ?_
 try simp only [I64, I32] at g0
 repeat (refine ⟨zAB, ?_⟩)
 refine aYW h (fun hc h => ?_) fun hc h => ?_
 ·exact aH hV [.tmp 4] rfl rfl rfl (aA h) xAd
 ·refine aD h fun g0 h => ?_
  refine aD h fun g1 h => ?_
  try simp only [I64, I32] at g0
  repeat (refine ⟨zAB, ?_⟩)
  refine aD h fun g0 h => ?_
  refine aD h fun g1 h => (yaE ?_)
  refine bM hV (D := Int × qa) [0, 1, 20, 21] (fun d => [(5, .own 0), (22, .val qc d.1)]) (fun d => [.inr (.row 165 qt d.2)]) h rfl xAc ?_
  rintro ⟨f, b⟩ J I j r h
  simp only [go_sem]
  replace h : sat (rI F q g f b) _ := h
  unfold rI at h
  refine dY h (fun hc h => ?_) fun hc h => ?_
  ·refine aD h fun g0 h => (yaE ?_)
   refine aD h fun g0 h => (yaE ?_)
   refine aD h fun g0 h => ?_
   try simp only [I64, I32] at g0
   repeat (refine ⟨zAB, ?_⟩)
   refine ⟨fun hc => ?_, fun hc => ?_⟩
   ·replace h := gB hc h
    refine ⟨by kernel_rfl, ?_⟩
    refine aD h fun g0 h => ?_
    refine aD h fun g1 h => ?_
    refine aD h fun N h => ?_
    refine aD h fun s h => ?_
    refine aD h fun z h => ?_
    try simp only [I64, I32] at g1
    try simp only [I64, I32] at s
    repeat (refine ⟨zAB, ?_⟩)
    refine aD h fun g0 h => ?_
    try simp only [I64, I32] at g0
    repeat (refine ⟨zAB, ?_⟩)
    replace h := j _ (aA h)
    exact zao
   ·replace h := gC (by first | exact hc | omega) h
    refine aD h fun g0 h => ?_
    try simp only [I64, I32] at g0
    repeat (refine ⟨zAB, ?_⟩)
    replace h := j _ (aA h)
    exact zaJ
  ·replace h := yaG (r _ (aA h))
   exact zaD
theorem aMU [Mx] : FOK Tryz.prog GL 149 yH := iW (aVX none) (fun ⟨f, x1, u⟩ ⟨w0, b, g⟩ hp => aTB f w0 x1 b hp)
end
end Nu
end Go.Proofs
namespace Go.Proofs
open Go.Vc
set_option maxRecDepth 20000
namespace Nu
noncomputable section
set_option maxHeartbeats 4000000
def aKO : PlR := ⟨[(0, .A [0, 1, 2]), (1, .A [0, 1, 2, 20]), (2, .stop), (3, .A [0, 1, 2, 24]), (4, .stop), (5, .A [0, 1, 2, 27]), (6, .A [6, 7]), (7, .A [0, 1, 2, 8]), (8, .A [0, 1, 2, 8]), (9, .A [0, 1, 2, 8, 9]), (10, .A [0, 1, 2, 8, 9, 10]), (11, .A [1, 2, 8, 9, 10, 11]), (12, .A [2, 8, 9, 10, 11, 12]), (13, .A [2, 8, 9, 10, 11, 12, 13]), (14, .A [2, 8, 9, 10, 11, 13, 14]), (15, .A [2, 8, 9, 10, 11, 13, 14, 15]), (16, .A [2, 8, 9, 10, 11, 13, 14, 15, 16]), (17, .A [2, 8, 9, 10, 11, 13, 14, 15, 16, 78]), (18, .A [2, 8, 9, 10, 11, 13, 14, 15, 16]), (19, .A [2, 8, 9, 10, 11, 13, 14, 15, 16]), (20, .A [2, 8, 9, 10, 11, 13, 14, 15, 16, 85]), (21, .A [2, 8, 9, 10, 14, 15, 17]), (22, .A [2, 8, 9, 10, 14, 15, 17, 18]), (23, .A [2, 8, 9, 10, 14, 15, 16, 17, 18]), (24, .A [2, 8, 9, 10, 14, 15, 16, 17, 18, 113]), (25, .A [2, 8, 9, 10, 14, 15, 16, 17, 18]), (26, .A [2, 8, 9, 10, 14, 15, 16, 17, 18]), (27, .A [2, 8, 9, 10, 14, 15, 16, 17, 18, 120]), (28, .A [6, 7])], [(20, 24), (27, 31)], []⟩
def aHA : Ty := .pair qt wk
def wD : aG := ⟨aHA, .tup wk, fun x => aD0 x.1 x.2.1 x.2.2.1, fun x => pU x.1 x.2.1 x.2.2.1⟩
attribute [go_sem] wD aHA
def aTJ (F : Md) : aG := mSpec aHA (.tup wk) (fun x => aBx F x.1 x.2.1 x.2.2.1)
abbrev aMV (F : Md) : List (FuncId × aG) := [(144, fO)]
theorem aVY [Mx] (F : Md) : bE Tryz.prog GL (aMV F) := .cons uU xAa (.nil)
attribute [go_sem] aKO
theorem aTK [Mx] (F : Md) : FOK Tryz.prog GL 186 (aTJ F) := by
 refine bN (bC (aVY F)) mix Tryz.func186 rfl xAa xAb aKO (fun w0 S x Θ Z h hV => ?_)
 obtain ⟨(j : Nat), (b : Nat), (r : Nat), u⟩ := x
 simp only [bT, go_sem]
 replace h : sat (aBx F j b r) _ := h
 unfold aBx at h
 refine cI h (fun hc h => ?_) fun hc h => ?_
 ·exact aBr h
 ·refine cI h (fun hc h => ?_) fun hc h => ?_
  ·exact aBr h
  ·refine cI h (fun hc h => ?_) fun hc h => ?_
   ·refine aN h fun g0 h => aN h fun g1 h => ?_
    exact aH hV [.tmp 6, .tmp 7] rfl rfl rfl (aA h) xAf
   ·refine aN h fun g0 h => ?_
    refine cX hV (D := Nat) (fun d => sat (vT F r b j d) Θ) [2, 8, 9, 10, 11, 13, 14] (fun d => [(15, .val qt d)]) (fun d => []) ?_ ?_
    ·simp only [go_sem, cA F, cB F, cC F]
     refine bM hV (D := Nat × Nat) [2, 8, 9, 10, 11, 13, 14] (fun d => [(15, .val qt d.1), (16, .val qt d.2)]) (fun d => []) h rfl xAe ?_
     rintro ⟨f, s⟩ U W N J h
     simp only [go_sem, cA F, cB F, cC F]
     replace h : sat (lR F b r f s) _ := h
     unfold lR at h
     refine ⟨fun hc => ?_, fun hc => ?_⟩
     ·replace h := gB hc h
      refine cI h (fun hc h => ?_) fun hc h => ?_
      ·replace h := yaG (J _ (aA h))
       exact aU (uI F .u64 f (1 : Nat)) h rfl xAe
      ·replace h := N _ (aA h)
       exact zaj
     ·replace h := gC hc h
      replace h := yaG (J _ (aA h))
      exact aU (f) h rfl xAe
    ·rintro q h
     simp only [go_sem, cA F, cB F, cC F]
     replace h : sat (vT F r b j q) _ := h
     unfold vT at h
     refine aN h fun g0 h => ?_
     refine cX hV (D := Nat) (fun d => sat (vS F q j r b d) Θ) [2, 8, 14, 15, 17] (fun d => [(18, .val qt d)]) (fun d => []) ?_ ?_
     ·simp only [go_sem, cA F, cB F, cC F]
      refine bM hV (D := Nat × Nat) [2, 8, 9, 10, 14, 15, 17] (fun d => [(16, .val qt d.1), (18, .val qt d.2)]) (fun d => []) h rfl xAe ?_
      rintro ⟨z, g⟩ Y T24 O L h
      simp only [go_sem, cA F, cB F, cC F]
      replace h : sat (lQ F b r z g) _ := h
      unfold lQ at h
      refine ⟨fun hc => ?_, fun hc => ?_⟩
      ·replace h := gB hc h
       refine cI h (fun hc h => ?_) fun hc h => ?_
       ·replace h := yaG (L _ (aA h))
        exact aU (uI F .u64 g (1 : Nat)) h rfl xAe
       ·replace h := O _ (aA h)
        exact zaj
      ·replace h := gC hc h
       replace h := yaG (L _ (aA h))
       exact aU (g) h rfl xAe
     ·rintro I h
      simp only [go_sem, cA F, cB F, cC F]
      replace h : sat (vS F q j r b I) _ := h
      unfold vS at h
      exact aH hV [.tmp 6, .tmp 7] rfl rfl rfl (aA h) xAf
theorem aKP [Mx] : FOK Tryz.prog GL 186 wD := iW (aTK none) (fun ⟨j, x1, b, u⟩ ⟨w0, f, g, q⟩ hp => aSk j w0 x1 f b g hp)
def aMW : PlR := ⟨[(0, .stop), (1, .stop), (2, .stop), (3, .stop), (4, .stop), (5, .stop), (6, .stop), (7, .stop)], [(6, 10)], []⟩
def aJm : Ty := .pair we (.pair qt .unit)
def aD3 : aG := ⟨aJm, .tup (.pair we ve), fun x => aJh x.1 x.2.1, fun x => aAU x.1 x.2.1⟩
attribute [go_sem] aD3 aJm
def aVZ (F : Md) : aG := mSpec aJm (.tup (.pair we ve)) (fun x => aC6 F x.1 x.2.1)
abbrev aJn (F : Md) : List (FuncId × aG) := [(148, iB), (186, wD)]
theorem aX0 [Mx] (F : Md) : bE Tryz.prog GL (aJn F) := .cons xP xAa (.cons aKP xAa (.nil))
attribute [go_sem] aMW
theorem aV0 [Mx] (F : Md) : FOK Tryz.prog GL 143 (aVZ F) := by
 refine bN (bC (aX0 F)) mix Tryz.func143 rfl xAa xAb aMW (fun w0 S x Θ I h hV => ?_)
 obtain ⟨(r : qa), (s : Nat), u⟩ := x
 simp only [bT, go_sem]
 replace h : sat (aC6 F r s) _ := h
 unfold aC6 at h
 refine sZ hV [0, 1] (yaA ?_)
 refine aSa hV [0, 1, 6] (yaA ?_)
 refine aD h fun g0 h => ?_
 refine aD h fun g1 h => (yaC ?_)
 refine sZ hV [0, 1, 6, 7] (yaA ?_)
 refine cX hV (D := Nat × qa) (fun d => sat (xM F d.1 d.2) Θ) [] (fun d => [(6, .own 0), (7, .val qt d.1)]) (fun d => [.inr (.row 165 qt d.2)]) ?_ ?_
 ·simp only [go_sem]
  refine sZ hV [0, 1, 6, 7, 8] (yaA ?_)
  refine aD h fun g0 h => (yaC ?_)
  refine bM hV (D := Nat × Int × qa) [0, 1] (fun d => [(6, .own 0), (7, .val qt d.1), (8, .val qc d.2.1)]) (fun d => [.inr (.row 165 qt d.2.2)]) h rfl xAc ?_
  rintro ⟨b, j, g⟩ z T4 hA4 hE4 h
  simp only [go_sem]
  replace h : sat (rJ F r s b j g) _ := h
  unfold rJ at h
  refine sZ hV [0, 1, 6, 7, 8, 16] (yaA ?_)
  refine aYW h (fun hc h => ?_) fun hc h => ?_
  ·refine aSa hV [0, 1, 6, 7, 8] (yaA ?_)
   refine aD h fun g0 h => (yaC ?_)
   refine aD h fun g0 h => (yaC ?_)
   refine aD h fun g0 h => (yaC ?_)
   refine sZ hV [0, 1, 6, 7, 8] (yaA ?_)
   refine aD h fun g0 h => (yaC ?_)
   replace h := hA4 _ (aA h)
   exact zaJ
  ·replace h := yaG (hE4 _ (aA h))
   exact aU (b, g) h rfl xAc
 ·rintro ⟨f, q⟩ h
  simp only [go_sem]
  replace h : sat (xM F f q) _ := h
  unfold xM at h
  refine aSa hV [4, 5] (yaA ?_)
  exact aH hV [.tmp 4, .tmp 5] rfl rfl rfl (aA h) xAd
theorem aV1 [Mx] : FOK Tryz.prog GL 143 aD3 := iW (aV0 none) (fun ⟨f, x1, u⟩ ⟨w0, b, g⟩ hp => aTC f w0 x1 b hp)
end
end Nu
end Go.Proofs

