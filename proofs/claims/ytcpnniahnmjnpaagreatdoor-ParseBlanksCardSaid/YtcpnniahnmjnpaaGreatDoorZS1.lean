import Derived.Test.YtcpnniahnmjnpaaGreatDoorZL6
import Derived.Test.YtcpnniahnmjnpaaGreatDoorProg
import Derived.KernelRfl
import Derived.Laws.Externs
set_option linter.unusedVariables false
set_option linter.unusedSimpArgs false
namespace Go.Proofs
open Go.Vc
set_option maxRecDepth 20000
namespace Nu
noncomputable section
theorem xAa {p : Prop} (h : p := by kernel_rfl) : p := h
theorem xAb {p : Prop} (h : p := by simp only [go_sem]) : p := h
theorem xAc {p : Prop} (h : p := by decide) : p := h
theorem xAd {p : Prop} (h : p := by simp only [aU, go_sem]) : p := h
theorem xAe {p : Prop} (h : p := by simp only [go_sem, dI F, dJ F, dK F]) : p := h
theorem xAf {p : Prop} (h : p := by simp only [aU, go_sem, dI F, dJ F, dK F]) : p := h
abbrev qd := List Nat
@[go_sem]abbrev qe : Ty := .i .i64
@[go_sem]abbrev qh : Mk := .pair .no (.pair (.sl 87 .no) (.pair (.sl 123 .no) (.pair (.sl 9 .no) (.pair (.sl 89 .no) .no))))
abbrev qo := Int × (Int × (qd × Unit))
abbrev qp := Int × Unit
@[go_sem]abbrev qr : Ty := .pair .str (.pair .expr .unit)
abbrev qt := Bool × (qd × qp)
abbrev qv := qd × (qd × Unit)
abbrev qw := List qd
@[go_sem]abbrev qx : Ty := .u .u64
abbrev qz := qd × (Ex × Unit)
abbrev q8 := (Int × qp) × Unit
@[go_sem]abbrev q9 : Ty := .pair qe .unit
abbrev wa := qd × (qv × (Ex × Unit))
abbrev wc := qd × (qv × Unit)
@[go_sem]abbrev we : Ty := .sl qx
@[go_sem]abbrev wg : Ty := .sl .str
@[go_sem]abbrev wh : Ty := .pair .str .unit
abbrev wj := Int × Int
@[go_sem]abbrev wl : Ty := .arr 2 qe
abbrev wm := Bool × Unit
@[go_sem]abbrev wn : Ty := .pair qx (.pair qx .unit)
abbrev wo := List Bool
abbrev wq := qw × Unit
@[go_sem]abbrev ws : Ty := .pair .bool .unit
abbrev wt := List qz
abbrev wv := Int × (Unit × Unit)
@[go_sem]abbrev ww : Ty := .u .u8
abbrev wx := List Ex
abbrev wy := qd × Int
@[go_sem]abbrev wz : Ty := .pair (.rp wg) .unit
abbrev qc := qd × ((List wa) × ((List wc) × (qw × (wt × Unit))))
@[go_sem]abbrev qg : Ty := .pair .str wh
abbrev qi := qd × (Int × qp)
@[go_sem]abbrev qk : Ty := .pair qe (.pair qe wh)
@[go_sem]abbrev ql : Ty := .pair .bool (.pair we q9)
abbrev qm := qd × (qd × qv)
@[go_sem]abbrev qn : Ty := .pair qe q9
@[go_sem]abbrev qq : Ty := .pair .str (.pair qg (.pair .expr .unit))
@[go_sem]abbrev qs : Ty := .pair .str (.pair .str qg)
@[go_sem]abbrev qu : Ty := .pair .str (.pair qg .unit)
@[go_sem]abbrev qy : Ty := .pair .str qn
abbrev wb := Ex × qi
abbrev wd := List qm
@[go_sem]abbrev wi : Ty := .pair qn .unit
@[go_sem]abbrev wk : Ty := .pair ww .unit
abbrev wu := List qc
@[go_sem]abbrev qa : Ty := .pair .str (.pair (.sl qq) (.pair (.sl qu) (.pair wg (.pair (.sl qr) .unit))))
abbrev qf := Int × (Int × (Int × (Int × (qd × (qd × (qd × (qd × (wu × (wd × Unit)))))))))
@[go_sem]abbrev qj : Ty := .pair qe (.pair qe (.pair qe (.pair qe (.pair .str (.pair .str (.pair .str (.pair .str (.pair (.sl qa) (.pair (.sl qs) .unit)))))))))
@[go_sem]theorem gam_in {a b : FuncId} {s : aJ} {l : List (FuncId × aJ)} : gam ((a, s) :: l) b = if a = b then some s else gam l b := rfl
structure Hq (p : Prop) : Prop where
 a : p
theorem yaA {p q : Prop} (a : q) (h : Hq q → p := by
 intro hq
 simp only [go_sem]
 exact hq.a) : p := h ⟨a⟩
theorem yaB {p q : Prop} (a : q) (h : Hq q → p := by
 intro hq
 simp only [go_sem]
 repeat (refine ⟨zAA, ?_⟩)
 exact hq.a) : p := h ⟨a⟩
theorem yaC {p q : Prop} (a : q) (h : Hq q → p := by
 intro hq
 simp only [ren, cR, dC, posOf, bF, go_sem]
 exact hq.a) : p := h ⟨a⟩
theorem yaD {p q : Prop} (a : q) (h : Hq q → p := by
 intro hq
 repeat (refine ⟨zAA, ?_⟩)
 exact hq.a) : p := h ⟨a⟩
theorem yaE {p q : Prop} (a : q) (h : Hq q → p := by
 intro hq
 simp only [go_sem]
 repeat (refine ⟨zAC, ?_⟩)
 exact hq.a) : p := h ⟨a⟩
theorem yaF {p q : Prop} (h : p) (t : p → q := by
 intro h
 try dsimp only at h
 exact h) : q := t h
theorem zaA {p : Prop} (h : p := by
 subst hi
 simp only [go_sem]
 try (refine ⟨by decide, ?_⟩)
 unfold anyS
 intro i hi
 have hi : i = 4 := by revert hi; revert i; decide
 subst hi
 simp only [go_sem]
 try (refine ⟨by decide, ?_⟩)
 unfold anyS
 intro i hi
 have hi : i = 5 := by revert hi; revert i; decide
 subst hi
 simp only [go_sem]
 try (refine ⟨by decide, ?_⟩)
 (simp only [anyS, go_sem]) <;> first | exact ⟨rfl, rfl⟩ | trivial) : p := h
theorem zaB {p : Prop} (h : p := by
 (try simp only [aU, jC, jB, dQ, cV, AV.isAgg, go_sem]) <;> first | trivial | rfl | (simp; done)) : p := h
theorem zaC {p : Prop} (h : p := by
 refine aM (aK 1 rfl aI) (yaA ?_)
 refine bO [0, 1] rfl rfl (yaC ?_)
 refine bA rfl rfl rfl rfl) : p := h
theorem zaD {p : Prop} (h : p := by
 exact aL hF [.tmp 4] rfl rfl rfl (aE h) xAd) : p := h
theorem zaE {p : Prop} (h : p := by
 refine fI h (fun hc h => ?_) fun hc h => ?_
 ·refine aR h fun g0 h => ?_
  refine aR h fun g0 h => ?_
  obtain ⟨v_28, hv, h⟩ := aP h
  try simp only [hv, go_sem]
  refine aEb h (fun hc h => ?_) fun hc h => ?_
  ·replace h := yaF (hE4 _ (aE h))
   exact aL hF [.tmp 6] rfl rfl rfl (aE h) xAd
  ·refine aR h fun g0 h => ?_
   replace h := hA4 _ (aE h)
   refine gT [] rfl rfl (yaA ?_)
   exact aZ _ h rfl xAb
 ·replace h := yaF (hE4 _ (aE h))
  exact aL hF [.tmp 6] rfl rfl rfl (aE h) xAd) : p := h
theorem zaF {p : Prop} (h : p := by
 exact aL hF [.tmp 2] rfl rfl rfl (aE h) xAd) : p := h
theorem zaG {p : Prop} (h : p := by
 try (refine ⟨by decide, ?_⟩)
 unfold anyS
 intro i hi
 have hi : i = 2 ∨ i = 3 := by revert hi; revert i; decide
 rcases hi with rfl | rfl
 ·simp only [go_sem]
  try (refine ⟨by decide, ?_⟩)
  unfold anyS
  intro i hi
  have hi : i = 3 := by revert hi; revert i; decide
  exact zaA
 ·simp only [go_sem]
  try (refine ⟨by decide, ?_⟩)
  unfold anyS
  intro i hi
  have hi : i = 2 := by revert hi; revert i; decide
  exact zaA) : p := h
theorem zaH {p : Prop} (h : p := by
 obtain rfl := Option.some.inj h
 refine aO (bO [0] rfl rfl (yaC ?_))
 refine aM (aK 0 rfl aI) ?_
 refine bA rfl rfl rfl rfl) : p := h
theorem zaI {p : Prop} (h : p := by
 exact aZ _ h rfl xAb) : p := h
theorem zaJ {p : Prop} (h : p := by
 subst hi
 simp only [go_sem]
 skip
 unfold anyS
 intro i hi
 have hi : i = 4 := by revert hi; revert i; decide
 subst hi
 simp only [go_sem]
 skip
 (simp only [anyS, go_sem]) <;> first | exact ⟨rfl, rfl⟩ | trivial) : p := h
theorem zaK {p : Prop} (h : p := by
 (repeat' apply And.intro) <;> first | trivial | rfl | with_reducible assumption | omega | (intros; first | with_reducible assumption | omega) | (simp; done) | (simp at *; omega)) : p := h
theorem zaL {p : Prop} (h : p := by
 obtain rfl := Option.some.inj h
 refine aO (aM (aK 0 rfl aI) ?_)
 refine bA rfl rfl rfl rfl) : p := h
theorem zaM {p : Prop} (h : p := by
 obtain rfl := Option.some.inj h
 refine aO (bW (aO (aM (kU 0 rfl aI) ?_)))
 exact zaC) : p := h
theorem zaN {p : Prop} (h : p := by
 obtain rfl := Option.some.inj h
 refine aO (bO [] rfl rfl (yaC ?_))
 refine bA rfl rfl rfl rfl) : p := h
theorem zaO {p : Prop} (h : p := by
 obtain rfl := Option.some.inj h
 refine gF (dZ hF [] rfl rfl rfl rfl rfl rfl ?_)
 exact zaB) : p := h
theorem zaP {p : Prop} (h : p := by
 refine fI h (fun hc h => ?_) fun hc h => ?_
 ·refine aR h fun g0 h => ?_
  obtain ⟨v_27, hv, h⟩ := aP h
  try simp only [hv, go_sem]
  refine aG5 h (fun hc h => ?_) fun hc h => ?_
  ·replace h := yaF (hE2 _ (aE h))
   exact zaD
  ·refine aR h fun g0 h => ?_
   replace h := hA2 _ (aE h)
   exact zaI
 ·replace h := yaF (hE2 _ (aE h))
  exact zaD) : p := h
theorem zaQ {p : Prop} (h : p := by
 first | (refine ⟨fun hx => by first | (exfalso; omega) | (exfalso; simp_all; done), fun _ => ?_⟩) | (with_reducible intro _) | skip
 repeat (refine ⟨zAA, ?_⟩)
 first | (refine ⟨fun hx => by first | (exfalso; omega) | (exfalso; simp_all; done), fun _ => ?_⟩) | (with_reducible intro _) | skip
 repeat (refine ⟨zAA, ?_⟩)
 exact zaL) : p := h
theorem zaR {p : Prop} (h : p := by
 try simp only [hv, go_sem]
 exact zaD) : p := h
theorem zaS {p : Prop} (h : p := by
 obtain rfl := Option.some.inj h
 refine aA (cD (jO hF [.cell 2 27] [0] rfl rfl rfl rfl rfl rfl rfl rfl rfl ?_))
 exact zaB) : p := h
theorem zaT {p : Prop} (h : p := by
 obtain rfl := Option.some.inj h
 refine aO (bW (aO (aM (aK 0 rfl aI) ?_)))
 exact zaC) : p := h
theorem zaU {p : Prop} (h : p := by
 subst hi
 simp only [go_sem]
 repeat (refine ⟨zAA, ?_⟩)
 unfold anyS
 intro i hi
 have hi : i = 3 := by revert hi; revert i; decide
 subst hi
 simp only [go_sem]
 repeat (refine ⟨zAA, ?_⟩)
 (simp only [anyS, go_sem]) <;> first | exact ⟨rfl, rfl⟩ | trivial) : p := h
theorem zaV {p : Prop} (h : p := by
 refine aA (aB (aF hF [2] (yaA ?_)))
 obtain rfl := Option.some.inj h
 refine aA (cD (dZ hF [.tmp 2] rfl rfl rfl rfl rfl rfl ?_))
 exact zaB) : p := h
theorem zaW {p : Prop} (h : p := by
 try (refine ⟨by decide, ?_⟩)
 unfold anyS
 intro i hi
 have hi : i = 1 ∨ i = 3 := by revert hi; revert i; decide
 rcases hi with rfl | rfl
 ·simp only [go_sem]
  exact zaG
 ·simp only [go_sem]
  try (refine ⟨by decide, ?_⟩)
  unfold anyS
  intro i hi
  have hi : i = 1 := by revert hi; revert i; decide
  subst hi
  simp only [go_sem]
  try (refine ⟨by decide, ?_⟩)
  unfold anyS
  intro i hi
  have hi : i = 2 := by revert hi; revert i; decide
  exact zaA) : p := h
theorem zaX {p : Prop} (h : p := by
 unfold anyS
 intro i hi
 have hi : i = 0 ∨ i = 1 := by revert hi; revert i; decide
 rcases hi with rfl | rfl
 ·simp only [go_sem]
  exact zaW
 ·simp only [go_sem]
  try (refine ⟨by decide, ?_⟩)
  unfold anyS
  intro i hi
  have hi : i = 0 ∨ i = 2 := by revert hi; revert i; decide
  rcases hi with rfl | rfl
  ·simp only [go_sem]
   exact zaG
  ·simp only [go_sem]
   try (refine ⟨by decide, ?_⟩)
   unfold anyS
   intro i hi
   have hi : i = 0 := by revert hi; revert i; decide
   subst hi
   simp only [go_sem]
   try (refine ⟨by decide, ?_⟩)
   unfold anyS
   intro i hi
   have hi : i = 3 := by revert hi; revert i; decide
   exact zaA) : p := h
theorem zaY {p : Prop} (h : p := by
 obtain rfl := Option.some.inj h
 refine aO (aH1 (aM (aK 0 rfl aI) ?_))
 refine aM (aK 1 rfl aI) ?_
 refine aM (aK 2 rfl aI) (yaA ?_)
 refine aCb (fn := Tryz.f11) (k := 3) (l2 := [0, 1, 2]) hF rfl rfl xAc rfl (rR xAa) ⟨eR (((0 : Int), (0 : Int), ()), ()), [0, 1, 2], ()⟩ (vJ (((0 : Int), (0 : Int), ()), ())) rfl [.cell 2 36, .cell 3 38, .cell 4 3] rfl ?_ ?_
 ·(simp only [eR, go_sem]) <;> first | decide | trivial
 ·(simp only [eR, aU, jA, go_sem]) <;> first | decide | trivial | rfl | (simp; done)) : p := h
theorem zaZ {p : Prop} (h : p := by
 refine ⟨fun hc => ?_, fun hc => ?_⟩
 ·replace h := jG hc h
  exact zaD
 ·replace h := jH hc h
  refine aR h fun g0 h => ?_
  refine ⟨fun hc => ?_, fun hc => ?_⟩
  ·replace h := jG hc h
   refine aR h fun g0 h => ?_
   obtain ⟨v_8, hv, h⟩ := aP h
   exact zaR
  ·replace h := jH hc h
   obtain ⟨v_13, hv, h⟩ := aP h
   try simp only [hv, go_sem]
   refine aG5 h (fun hc h => ?_) fun hc h => ?_
   ·obtain ⟨v_17, hv, h⟩ := aP h
    exact zaR
   ·exact aBi h) : p := h
theorem zaa {p : Prop} (h : p := by
 refine aM (aK 0 rfl aI) ?_
 refine bA rfl rfl rfl rfl) : p := h
theorem zab {p : Prop} (h : p := by
 refine aB (aF hF [0, 2] (yaA ?_))
 refine aA (aB (aB (aQE hF rfl rfl rfl fun b hb => ?_)))
 refine aA (bG rfl (fun hc => ?_) (fun hc => ?_))
 ·have hs := hb hc
  refine aB (aF hF [2] (yaA ?_))
  refine aA (cD (cS (jF hF [.tmp 2] rfl rfl rfl ?_)))
  simp only [jA, aU, go_sem, hs]
  try trivial
 ·refine cI (aA (aB (aT hF [2] (yaA ?_))))
  refine ⟨by omega, ?_⟩
  refine aA (cD (jF hF [.tmp 2] rfl rfl rfl ?_))
  simp only [jA, aU, go_sem]
  try trivial) : p := h
theorem zac {p : Prop} (h : p := by
 refine fI h (fun hc h => ?_) fun hc h => ?_
 ·obtain ⟨g0, h⟩ := aS h
  obtain ⟨g1, h⟩ := aS h
  repeat (refine ⟨zAA, ?_⟩)
  refine ⟨fun hc => ?_, fun hc => ?_⟩
  ·replace h := jG zAB h
   replace h := yaF (hE4 _ (aE h))
   exact zaD
  ·replace h := jH zAB h
   obtain ⟨g0, h⟩ := aS h
   try simp only [I64, I32] at g0
   repeat (refine ⟨zAA, ?_⟩)
   replace h := hA4 _ (aE h)
   exact zaI
 ·replace h := yaF (hE4 _ (aE h))
  exact zaD) : p := h
theorem zad {p : Prop} (h : p := by
 obtain rfl := Option.some.inj h
 refine bW (aO (aM (aK 0 rfl aI) ?_))
 exact zaC) : p := h
theorem zae {p : Prop} (h : p := by
 first | (refine ⟨fun hx => by first | (exfalso; omega) | (exfalso; simp_all; done), fun _ => ?_⟩) | (with_reducible intro _) | skip
 repeat (refine ⟨zAA, ?_⟩)
 first | (refine ⟨fun hx => by first | (exfalso; omega) | (exfalso; simp_all; done), fun _ => ?_⟩) | (with_reducible intro _) | skip
 repeat (refine ⟨zAA, ?_⟩)
 refine aA (aB (aF hF [2, 3] (yaA ?_)))
 obtain rfl := Option.some.inj h
 refine aA (cD (dZ hF [.tmp 2, .tmp 3] rfl rfl rfl rfl rfl rfl ?_))
 exact zaB) : p := h
theorem zaf {p : Prop} (h : p := by
 refine gF (dZ hF [] rfl rfl rfl rfl rfl rfl ?_)
 simp only [aU, jC, jB, go_sem]
 try decide) : p := h
theorem zag {p : Prop} (h : p := by
 simp only [go_sem]
 (repeat' apply And.intro) <;> try (first | trivial | rfl | with_reducible assumption | omega | (intros; first | with_reducible assumption | omega) | (simp; done) | (simp at *; omega))
 obtain rfl := Option.some.inj h
 dsimp only [mZ] at hs2
 have h := yaF (hs2)
 obtain rfl := Option.some.inj h
 refine bW (aO (bW (bO [0] rfl rfl (yaC ?_))))
 refine aM (aK 0 rfl aI) ?_
 refine bA rfl rfl rfl rfl) : p := h
theorem zah {p : Prop} (h : p := by
 obtain rfl := Option.some.inj h
 refine aM (aK 0 rfl aI) ?_
 exact zaC) : p := h
theorem zai {p : Prop} (h : p := by
 skip
 unfold anyS
 intro i hi
 have hi : i = 2 ∨ i = 3 := by revert hi; revert i; decide
 rcases hi with rfl | rfl
 ·simp only [go_sem]
  skip
  unfold anyS
  intro i hi
  have hi : i = 3 := by revert hi; revert i; decide
  exact zaJ
 ·simp only [go_sem]
  skip
  unfold anyS
  intro i hi
  have hi : i = 2 := by revert hi; revert i; decide
  exact zaJ) : p := h
theorem zaj {p : Prop} (h : p := by
 obtain rfl := Option.some.inj h
 refine aO (bW (aM (aK 0 rfl aI) ?_))
 exact zaC) : p := h
theorem zak {p : Prop} (h : p := by
 refine dZ hF [] rfl rfl rfl rfl rfl rfl ?_
 exact zaB) : p := h
theorem zal {p : Prop} (h : p := by
 refine ⟨hq, ?_⟩
 refine aO ?_
 refine aCb (fn := Tryz.f147) (k := 2) (l2 := [0, 1]) hF' rfl rfl xAc rfl (rR xAa) ⟨oL q, [0, 1], ((false, ([] : List Nat), (0 : Int), ()), 0)⟩ (aG9 q) rfl [.cell 2 128, .cell 3 3] rfl ?_ ?_
 ·(simp only [oL, go_sem]) <;> first | decide | trivial
 ·(simp only [oL, aU, jA, go_sem]) <;> first | decide | trivial) : p := h
theorem zam {p : Prop} (h : p := by
 refine aB (aT hF [3, 4, 5, 6] (yaA ?_))
 refine aA (aB (aBh 0 rfl (yaA ?_)))
 refine aBh 1 rfl (yaA ?_)
 refine aBh 2 rfl (yaA ?_)
 refine aT hF [6, 7] (yaA ?_)
 obtain ⟨g0, h⟩ := aQ h
 repeat (refine ⟨zAA, ?_⟩)
 obtain rfl := Option.some.inj h
 refine aA (cD (jF hF [.cell 6 128, .tmp 7] rfl rfl rfl ?_))
 exact zAG) : p := h
theorem zan {p : Prop} (h : p := by
 refine aR h fun g0 h => aR h fun g1 h => ?_
 refine aR h fun g0 h => ?_
 replace h := hA7 _ (aE h)
 exact zaI) : p := h
theorem zao {p : Prop} (h : p := by
 first | (refine ⟨fun hx => by first | (exfalso; omega) | (exfalso; simp_all; done), fun _ => ?_⟩) | (with_reducible intro _) | skip
 repeat (refine ⟨zAA, ?_⟩)
 first | (refine ⟨fun hx => by first | (exfalso; omega) | (exfalso; simp_all; done), fun _ => ?_⟩) | (with_reducible intro _) | skip
 repeat (refine ⟨zAA, ?_⟩)
 exact zaN) : p := h
theorem zap {p : Prop} (h : p := by
 have h := eC zAB h
 refine aB (aF hF [2] (yaA ?_))
 obtain rfl := Option.some.inj h
 refine aA (cD (gE (cS (jF hF [.tmp 2] rfl rfl rfl ?_))))
 exact zAG) : p := h
theorem zaq {p : Prop} (h : p := by
 refine ⟨hq, ?_⟩
 refine aA (cD ?_)
 refine aNQ (fn := Tryz.f147) (k := 2) (l2 := [0, 1]) hF' rfl rfl xAc rfl (rR xAa) ⟨oK, [0, 1], (q, 0)⟩ aG8 rfl [.cell 2 128, .cell 3 3] rfl ?_ ?_
 ·(simp only [oK, go_sem]) <;> first | decide | trivial
 ·(simp only [oK, aU, jA, go_sem]) <;> first | decide | trivial) : p := h
theorem zar {p : Prop} (h : p := by
 exact aL hF [.tmp 2, .tmp 3, .tmp 4] rfl rfl rfl (aE h) xAd) : p := h
theorem zas {p : Prop} (h : p := by
 have h := eC zAB h
 refine aB (aT hF [8] (yaA ?_))
 obtain rfl := Option.some.inj h
 dsimp only [mZ] at hs2
 have h := yaF (hs2)
 obtain rfl := Option.some.inj h
 refine aA (cD (cS (gE (cS (gE (jO hF [.cell 8 27] [0] rfl rfl rfl rfl rfl rfl rfl rfl rfl ?_))))))
 exact zaB) : p := h
theorem zat {p : Prop} (h : p := by
 refine ⟨fun _ => (yaD ?_), fun hx => by first | (exfalso; omega) | (exfalso; simp_all; done)⟩
 refine ⟨fun _ => (yaD ?_), fun hx => by first | (exfalso; omega) | (exfalso; simp_all; done)⟩
 refine ⟨fun _ => (yaD ?_), fun hx => by first | (exfalso; omega) | (exfalso; simp_all; done)⟩
 exact zaL) : p := h
theorem zau {p : Prop} (h : p := by
 obtain rfl := Option.some.inj h
 refine aM (kU 0 rfl aI) ?_
 exact zaC) : p := h
theorem zav {p : Prop} (h : p := by
 refine aA (aB (aC hF (aH (l := [(53, ⟨bM F, [0], (o0_1, .inr p_8)⟩)]) (.cons (bR F) xAa (.nil))) [0, 3] [] (yaB ?_)))
 exact zaL) : p := h
theorem zaw {p : Prop} (h : p := by
 exact aZ _ h rfl (by (try simp only [lX, dQ, true_or, and_self, go_sem]) <;> (repeat' apply And.intro) <;> first | rfl | (left; rfl) | (right; rfl) | (left; simp only [go_sem]; done) | (right; simp only [go_sem]; done) | (simp; done) | (simp only [*]; done) | omega)) : p := h
theorem zax {p : Prop} (h : p := by
 have h := eD zAB h
 obtain rfl := Option.some.inj h
 refine cI (gF (dZ hF [] rfl rfl rfl rfl rfl rfl ?_))
 exact zaB) : p := h
theorem zay {p : Prop} (h : p := by
 obtain rfl := Option.some.inj h
 refine aA (cD (jO hF [.cell 3 128] [] rfl rfl rfl rfl rfl rfl rfl rfl rfl ?_))
 exact zaB) : p := h
theorem zaz {p : Prop} (h : p := by
 obtain rfl := Option.some.inj h
 refine bW (aM (aK 0 rfl aI) ?_)
 exact zaC) : p := h
theorem za0 {p : Prop} (h : p := by
 simp only [go_sem]
 refine aB (aF hF [0, 1, 2, 3, 10] (yaA ?_))
 refine aA (bG rfl (fun hc => absurd hc xAc) (fun hc => ?_))
 refine cI ?_
 refine gT [0, 1, 2] rfl rfl (yaC ?_)
 exact zaf) : p := h
theorem za1 {p : Prop} (h : p := by
 try simp only [hv, go_sem]
 refine aR h fun g0 h => ?_
 exact zaF) : p := h
theorem za2 {p : Prop} (h : p := by
 obtain rfl := Option.some.inj h
 exact zaa) : p := h
theorem za3 {p : Prop} (h : p := by
 refine ⟨fun _ => (yaD ?_), fun hx => by first | (exfalso; omega) | (exfalso; simp_all; done)⟩
 refine ⟨fun _ => (yaD ?_), fun hx => by first | (exfalso; omega) | (exfalso; simp_all; done)⟩
 exact zaN) : p := h
theorem za4 {p : Prop} (h : p := by
 obtain rfl := Option.some.inj h
 refine aA (cD (jF hF [.tmp 2] rfl rfl rfl ?_))
 exact zAG) : p := h
theorem za5 {p : Prop} (h : p := by
 refine aG5 h (fun hc h => ?_) fun hc h => ?_
 ·exact aL hF [.tmp 2] rfl rfl rfl (aE h) xAd
 ·exact aL hF [.tmp 2] rfl rfl rfl (aE h) xAd) : p := h
theorem zAA {p : Prop} (h : p := by first | with_reducible assumption | omega | (intros; first | with_reducible assumption | omega) | (simp only [go_sem] at *; first | with_reducible assumption | omega) | (intro _; exact ⟨rfl, by decide⟩) | (intro _; refine (?_ : _ = aD _); rfl) | (refine (?_ : _ = aD _); rfl) | exact ⟨rfl, rfl⟩ | decide) : p := h
theorem zAB {p : Prop} (h : p := by first | exact hc | omega | (simpa using hc) | (simp at hc ⊢; omega)) : p := h
theorem zAC {p : Prop} (h : p := by first | with_reducible assumption | omega | (intros; first | with_reducible assumption | omega) | (simp only [go_sem] at *; first | with_reducible assumption | omega) | (intro _; exact ⟨rfl, by decide⟩) | (intro _; refine (?_ : _ = aD _); rfl) | (refine (?_ : _ = aD _); rfl) | exact ⟨rfl, rfl⟩ | decide | ((repeat' apply And.intro) <;> first | assumption | rfl | omega) | fail) : p := h
theorem zAD {p : Prop} (h : p := by first | with_reducible assumption | omega | (intros; first | with_reducible assumption | omega) | (simp only [go_sem] at *; first | with_reducible assumption | omega) | (intro _; exact ⟨rfl, by decide⟩) | (intro _; refine (?_ : _ = aD _); rfl) | (refine (?_ : _ = aD _); rfl) | exact ⟨rfl, rfl⟩ | (intro q0; (try have e0 := g0 (by first | exact q0 | omega | (simpa using q0))); first | assumption | omega) | decide) : p := h
theorem zAE {p : Prop} (h : p := by first | with_reducible assumption | omega | (intros; first | with_reducible assumption | omega) | (simp only [go_sem] at *; first | with_reducible assumption | omega) | (intro _; exact ⟨rfl, by decide⟩) | (intro _; refine (?_ : _ = aD _); rfl) | (refine (?_ : _ = aD _); rfl) | exact ⟨rfl, rfl⟩ | (intro q0; (try have e0 := g0 (by first | exact q0 | omega | (simpa using q0))); (try have e1 := g1 (by first | exact q0 | omega | (simpa using q0))); first | assumption | omega) | decide) : p := h
theorem zAF {p : Prop} (h : p := by (try simp only [lX, dQ, true_or, and_self, go_sem]) <;> (repeat' apply And.intro) <;> first | rfl | (left; rfl) | (right; rfl) | (left; simp only [go_sem]; done) | (right; simp only [go_sem]; done) | (simp; done) | (simp only [*]; done) | omega) : p := h
theorem zAG {p : Prop} (h : p := by (try simp only [jA, aU, go_sem]) <;> first | rfl | (simp; done)) : p := h
def aWd : List Nat := [0, 1, 56, 2, 57, 49, 28, 3, 61, 58, 42, 50, 38, 29, 17, 4, 62, 47, 59, 36, 45, 43, 51, 22, 53, 39, 33, 30, 24, 18, 12, 5, 63, 55, 48, 27, 60, 41, 37, 16, 46, 35, 44, 21, 52, 32, 23, 11, 54, 26, 40, 15, 34, 20, 31, 10, 25, 14, 19, 9, 13, 8, 7, 6]
theorem aXb : aWd = [0, 1, 56, 2, 57, 49, 28, 3, 61, 58, 42, 50, 38, 29, 17, 4, 62, 47, 59, 36, 45, 43, 51, 22, 53, 39, 33, 30, 24, 18, 12, 5, 63, 55, 48, 27, 60, 41, 37, 16, 46, 35, 44, 21, 52, 32, 23, 11, 54, 26, 40, 15, 34, 20, 31, 10, 25, 14, 19, 9, 13, 8, 7, 6] := rfl
def p10 : List Nat := [1, 10, 100, 1000, 10000, 100000, 1000000, 10000000, 100000000, 1000000000, 10000000000, 100000000000, 1000000000000, 10000000000000, 100000000000000, 1000000000000000, 10000000000000000, 100000000000000000, 1000000000000000000, 10000000000000000000]
theorem aXP : p10 = [1, 10, 100, 1000, 10000, 100000, 1000000, 10000000, 100000000, 1000000000, 10000000000, 100000000000, 1000000000000, 10000000000000, 100000000000000, 1000000000000000, 10000000000000000, 100000000000000000, 1000000000000000000, 10000000000000000000] := rfl
class Mx where
 v : Int
def GL [Mx] : Nat → AV
 | 7 => .roa (.arr 64 ww) aWd
 | 8 => .roa (.arr 20 qx) p10
 | 0 => .roa qe Mx.v
 | _ => .junk
theorem GL0 [Mx] : GL 7 = .roa (.arr 64 ww) aWd := rfl
theorem GL3 [Mx] : GL 8 = .roa (.arr 20 qx) p10 := rfl
theorem GLm [Mx] : GL 0 = .roa qe Mx.v := rfl
attribute [go_sem] GLm GL0 GL3 mSpec
def tab : List (TypeId × Ty) := [(201, .clo 153 .unit), (2, .i .i64), (3, .i .i64), (4, .bool), (5, .u .u8), (9, .str), (21, .i .i32), (22, .sl qe), (24, .u .u64), (25, .sl .expr), (27, .expr), (32, .sl .str), (33, .sl qa), (34, .sl qs), (36, .pair qe (.pair qe (.pair qe (.pair qe (.pair .str (.pair .str (.pair .str (.pair .str (.pair (.sl qa) (.pair (.sl qs) .unit)))))))))), (38, .pair qe q9), (49, .sl qq), (50, .sl qu), (51, .sl qr), (53, .pair .str (.pair (.sl qq) (.pair (.sl qu) (.pair wg (.pair (.sl qr) .unit))))), (56, .pair qe .unit), (60, .pair .str qn), (65, .pair qn .unit), (73, .pair qe (.pair qe wh)), (83, .pair .str (.pair .str qg)), (85, .pair .str wh), (87, .pair .str (.pair qg (.pair .expr .unit))), (89, .pair .str (.pair .expr .unit)), (96, .arr 2 qe), (102, .arr 256 (.bool)), (123, .pair .str (.pair qg .unit)), (125, .sl ql), (126, .sl qx), (128, .pair .bool (.pair we q9)), (149, .nilf), (157, .nili), (169, .u .u64), (174, .sl wg), (194, .sl ww), (208, .u .u32), (212, .i .i64), (219, .pair qe .unit), (223, .arr 256 ww), (225, .pair ww wk), (226, .arr 16 (.pair ww wk)), (239, .pair .str .unit), (240, .arr 64 ww), (242, .arr 24 ww), (246, .arr 20 qx), (247, .arr 65 ww), (250, .arr 32 ww)]
def elT : TypeId → TypeId
 | 22 => 3
 | 25 => 27
 | 32 => 9
 | 33 => 53
 | 34 => 83
 | 49 => 87
 | 50 => 123
 | 51 => 89
 | 125 => 128
 | 126 => 169
 | 174 => 32
 | 194 => 5
 | _ => 0
def mpT : TypeId → Option (TypeId × TypeId)
 | 90 => some (9, 9)
 | 110 => some (9, 3)
 | 142 => some (9, 4)
 | _ => none
theorem aSl : kF Tryz.prog (aIe tab) := aUU xAa
theorem aX2 : ∀ t ct, aIe tab t = some (.sl ct) → Tryz.prog.underlying t = some (.slice (elT t)) := aWI xAa
theorem aX3 : ∀ t k e, mpT t = some (k, e) → Tryz.prog.underlying t = some (.map k e) := by
 intro t k e h
 unfold mpT at h
 split at h
 ·cases h; rfl
 ·cases h; rfl
 ·cases h; rfl
 ·cases h
def TM : Tab := aIe tab
def EM [Mx] (l : List (FuncId × aJ)) : Env := ⟨TM, GL, fun f _ => gam l f, elT, mpT, fun _ => none, fun _ => false⟩
def dmT : TypeId → Option Mk
 | 32 => some .no
 | 33 => some qh
 | 34 => some .no
 | 49 => some .no
 | 50 => some .no
 | 51 => some .no
 | _ => none
def dzT : TypeId → Bool
 | 36 => true
 | 53 => true
 | _ => false
def EX [Mx] (l : List (FuncId × aJ)) : Env := ⟨TM, GL, fun f _ => gam l f, elT, mpT, dmT, dzT⟩
theorem aYj [Mx] (l : List (FuncId × aJ)) (t : TypeId) : (EM l).T t = TM t := rfl
theorem aYk [Mx] (l : List (FuncId × aJ)) (t : Nat) : (EM l).G t = GL t := rfl
theorem aYl [Mx] (l : List (FuncId × aJ)) (f : FuncId) (vs : List AV) : (EM l).Γ f vs = gam l f := rfl
theorem aX4 [Mx] (l : List (FuncId × aJ)) (t : TypeId) : (EM l).el t = elT t := rfl
theorem aX5 [Mx] (l : List (FuncId × aJ)) (t : TypeId) : (EM l).mp t = mpT t := rfl
theorem aV [Mx] {l : List (FuncId × aJ)} (h : bJ Tryz.prog GL l) : gV Tryz.prog (EM l) := aR3 aSl aX2 aX3 h
theorem mix : Tryz.prog.follows .mixedOrders = true := by kernel_rfl
theorem aX6 [Mx] (l : List (FuncId × aJ)) (t : TypeId) : (EM l).dm t = none := rfl
theorem aX7 [Mx] (l : List (FuncId × aJ)) (t : TypeId) : (EM l).dz t = false := rfl
theorem aYm [Mx] (l : List (FuncId × aJ)) (t : TypeId) : (EX l).T t = TM t := rfl
theorem aYn [Mx] (l : List (FuncId × aJ)) (t : Nat) : (EX l).G t = GL t := rfl
theorem aYo [Mx] (l : List (FuncId × aJ)) (f : FuncId) (vs : List AV) : (EX l).Γ f vs = gam l f := rfl
theorem aX8 [Mx] (l : List (FuncId × aJ)) (t : TypeId) : (EX l).el t = elT t := rfl
theorem aX9 [Mx] (l : List (FuncId × aJ)) (t : TypeId) : (EX l).mp t = mpT t := rfl
theorem aYa [Mx] (l : List (FuncId × aJ)) (t : TypeId) : (EX l).dm t = dmT t := rfl
theorem aYb [Mx] (l : List (FuncId × aJ)) (t : TypeId) : (EX l).dz t = dzT t := rfl
theorem aMj [Mx] {l : List (FuncId × aJ)} (h : bJ Tryz.prog GL l) : gV Tryz.prog (EX l) := aR3 aSl aX2 aX3 h
attribute [go_sem] aX6 aX7 aYm aYn aYo aX8 aX9 aYa aYb dmT dzT
theorem T2 : TM 2 = some qe := rfl
theorem T3 : TM 3 = some qe := rfl
theorem T4 : TM 4 = some (.bool) := rfl
theorem T5 : TM 5 = some ww := rfl
theorem T9 : TM 9 = some (.str) := rfl
theorem T21 : TM 21 = some (.i .i32) := rfl
theorem T22 : TM 22 = some (.sl qe) := rfl
theorem T24 : TM 24 = some qx := rfl
theorem T25 : TM 25 = some (.sl .expr) := rfl
theorem T27 : TM 27 = some (.expr) := rfl
theorem T32 : TM 32 = some wg := rfl
theorem T33 : TM 33 = some (.sl qa) := rfl
theorem T34 : TM 34 = some (.sl qs) := rfl
theorem T36 : TM 36 = some qj := rfl
theorem T38 : TM 38 = some qn := rfl
theorem T49 : TM 49 = some (.sl qq) := rfl
theorem T50 : TM 50 = some (.sl qu) := rfl
theorem T51 : TM 51 = some (.sl qr) := rfl
theorem T53 : TM 53 = some qa := rfl
theorem T56 : TM 56 = some q9 := rfl
theorem T60 : TM 60 = some qy := rfl
theorem T65 : TM 65 = some wi := rfl
theorem T73 : TM 73 = some qk := rfl
theorem T83 : TM 83 = some qs := rfl
theorem T85 : TM 85 = some qg := rfl
theorem T87 : TM 87 = some qq := rfl
theorem T89 : TM 89 = some qr := rfl
theorem T96 : TM 96 = some wl := rfl
theorem aYp : TM 102 = some (.arr 256 (.bool)) := rfl
theorem aYq : TM 123 = some qu := rfl
theorem aYr : TM 125 = some (.sl ql) := rfl
theorem aYs : TM 126 = some we := rfl
theorem aYt : TM 128 = some ql := rfl
theorem aYu : TM 149 = some (.nilf) := rfl
theorem aYv : TM 157 = some (.nili) := rfl
theorem aYw : TM 169 = some qx := rfl
theorem aYx : TM 174 = some (.sl wg) := rfl
theorem aYy : TM 194 = some (.sl ww) := rfl
theorem aYz : TM 208 = some (.u .u32) := rfl
theorem aYA : TM 212 = some qe := rfl
theorem aYB : TM 219 = some q9 := rfl
theorem aYC : TM 223 = some (.arr 256 ww) := rfl
theorem aYD : TM 225 = some (.pair ww wk) := rfl
theorem aYE : TM 226 = some (.arr 16 (.pair ww wk)) := rfl
theorem aYF : TM 239 = some wh := rfl
theorem aYG : TM 240 = some (.arr 64 ww) := rfl
theorem aYH : TM 242 = some (.arr 24 ww) := rfl
theorem aYI : TM 246 = some (.arr 20 qx) := rfl
theorem aYJ : TM 247 = some (.arr 65 ww) := rfl
theorem aYK : TM 250 = some (.arr 32 ww) := rfl
theorem aYL : TM 201 = some (.clo 153 .unit) := rfl
attribute [go_sem] aYj aYk aYl aX4 aX5 elT mpT aYL T2 T3 T4 T5 T9 T21 T22 T24 T25 T27 T32 T33 T34 T36 T38 T49 T50 T51 T53 T56 T60 T65 T73 T83 T85 T87 T89 T96 aYp aYq aYr aYs aYt aYu aYv aYw aYx aYy aYz aYA aYB aYC aYD aYE aYF aYG aYH aYI aYJ aYK
end
end Nu
end Go.Proofs
namespace Go.Proofs
open Go.Vc
set_option maxRecDepth 20000
namespace Nu
noncomputable section
def aFt (x y c : Nat) : Nat × Nat × Unit := ((x + y + c) % 18446744073709551616, (x + y + c) / 18446744073709551616, ())
abbrev aRf (x y c : Nat) : Prop := c ≤ 1
def aJO : Ty := .pair qx wn
def sX : aJ := ⟨aJO, .tup wn, fun x => aRf x.1 x.2.1 x.2.2.1, fun x => aFt x.1 x.2.1 x.2.2.1⟩
attribute [go_sem] sX aJO
theorem aRg {w : World} {S : Nat → Prop} {x : Nat} {v : Value} (h : dB w S qx x v) : v = .int .u64 (x : Int) := by
 unfold dB at h
 rw [if_neg (by simp [Ty.isAgg])] at h
 simp only [bD, List.cons.injEq, and_true] at h
 exact h.1
theorem aTa {w : World} {S : Nat → Prop} {vs : List Value} {x : Nat × Nat × Nat × Unit} (h : oS w S (.pair qx wn) x vs) : vs = [.int .u64 (x.1 : Int), .int .u64 (x.2.1 : Int), .int .u64 (x.2.2.1 : Int)] := by
 obtain ⟨v1, r1, rfl, h1, v2, r2, rfl, h2, v3, r3, rfl, h3, h4⟩ := h
 rw [aRg h1, aRg h2, aRg h3]
 have h4 : r3 = [] := h4
 rw [h4]
theorem aWe {w : World} {S : Nat → Prop} {x : Nat} (h : x < 18446744073709551616) : dB w S qx x (.int .u64 (x : Int)) := by
 unfold dB
 rw [if_neg (by simp [Ty.isAgg])]
 refine ⟨rfl, rfl, ?_⟩
 simp [IntKind.max, IntKind.signed, IntKind.bits]; omega
theorem aWf {w : World} {S : Nat → Prop} {x y : Nat} (hx : x < 18446744073709551616) (hy : y < 18446744073709551616) : oS w S wn (x, y, ()) [.int .u64 (x : Int), .int .u64 (y : Int)] :=
 ⟨_, _, rfl, aWe hx, _, _, rfl, aWe hy, rfl⟩
theorem wf_u64 {x : Nat} (h : (Ty.u .u64).wf x) : x < 18446744073709551616 := by
 simp only [Ty.wf, IntKind.max, IntKind.signed, IntKind.bits] at h
 simp at h; omega
theorem aIi [Mx] : NOK Tryz.prog GL 144 sX := by
 refine aXD fun w S vs x ha hp => ?_
 have hp : x.2.2.1 ≤ 1 := hp
 have hw := aJI _ _ _ ha
 obtain ⟨h1, h2, h3, _⟩ := hw
 have h1 := wf_u64 h1
 have h2 := wf_u64 h2
 rw [aTa ha]
 refine ⟨[.int .u64 (((x.1 + x.2.1 + x.2.2.1) % 18446744073709551616 : Nat) : Int), .int .u64 (((x.1 + x.2.1 + x.2.2.1) / 18446744073709551616 : Nat) : Int)], ?_, aWf (by omega) (by omega)⟩
 rw [run_callFunc_extern Tryz.func144 xAa xAa xAa (e := add64Entry) xAa, run_add64 x.1 x.2.1 x.2.2.1 (by omega) (by omega) (by omega) (by omega)]
 simp only [Result.andThen]
 congr 5 <;> omega
abbrev aWg (s : List Nat) : Prop := s.length * 8 ≤ 140737488355328
def tG : Ty := .pair we .unit
def dD : aJ := ⟨tG, .own 169 qx, fun x => aWg x.1, fun x => id x.1⟩
attribute [go_sem] dD tG
abbrev aAs (F : Md) : List (FuncId × aJ) := []
theorem aAt [Mx] (F : Md) : bJ Tryz.prog GL (aAs F) := .nil
theorem nS [Mx] : FOK Tryz.prog GL 135 dD := by
 refine aSU (aV (aAt none)) Tryz.func135 rfl xAa xAc fun w0 S x hw hp => ?_
 have hF : fT (fr Tryz.prog (EM (aAs none)) S w0 Tryz.f135.ntmps) := ⟨aV (aAt none), mix⟩
 obtain ⟨(s : qd), u⟩ := x
 have hp : s.length * 8 ≤ 140737488355328 := hp
 simp only [bX, tG, dD]
 exact zab
end
end Nu
end Go.Proofs
namespace Go.Proofs
open Go.Vc
set_option maxRecDepth 20000
namespace Nu
noncomputable section
set_option maxHeartbeats 4000000
def aFu : ByteArray := ⟨⟨0 :: 1 :: 2 :: 2 :: 3 :: 3 :: 3 :: 3 :: 4 :: 4 :: 4 :: 4 :: 4 :: 4 :: 4 :: 4 :: 5 :: 5 :: 5 :: 5 :: 5 :: 5 :: 5 :: 5 :: 5 :: 5 :: 5 :: 5 :: 5 :: 5 :: 5 :: 5 :: 6 :: 6 :: 6 :: 6 :: 6 :: 6 :: 6 :: 6 :: 6 :: 6 :: 6 :: 6 :: 6 :: 6 :: 6 :: 6 :: 6 :: 6 :: 6 :: 6 :: 6 :: 6 :: 6 :: 6 :: 6 :: 6 :: 6 :: 6 :: 6 :: 6 :: 6 :: 6 :: 7 :: 7 :: 7 :: 7 :: 7 :: 7 :: 7 :: 7 :: 7 :: 7 :: 7 :: 7 :: 7 :: 7 :: 7 :: 7 :: 7 :: 7 :: 7 :: 7 :: 7 :: 7 :: 7 :: 7 :: 7 :: 7 :: 7 :: 7 :: 7 :: 7 :: 7 :: 7 :: 7 :: 7 :: 7 :: 7 :: 7 :: 7 :: 7 :: 7 :: 7 :: 7 :: 7 :: 7 :: 7 :: 7 :: 7 :: 7 :: 7 :: 7 :: 7 :: 7 :: 7 :: 7 :: 7 :: 7 :: 7 :: 7 :: 7 :: 7 :: 7 :: 7 :: 7 :: 7 :: 8 :: 8 :: 8 :: 8 :: 8 :: 8 :: 8 :: 8 :: 8 :: 8 :: 8 :: 8 :: 8 :: 8 :: 8 :: 8 :: 8 :: 8 :: 8 :: 8 :: 8 :: 8 :: 8 :: 8 :: 8 :: 8 :: 8 :: 8 :: 8 :: 8 :: 8 :: 8 :: 8 :: 8 :: 8 :: 8 :: 8 :: 8 :: 8 :: 8 :: 8 :: 8 :: 8 :: 8 :: 8 :: 8 :: 8 :: 8 :: 8 :: 8 :: 8 :: 8 :: 8 :: 8 :: 8 :: 8 :: 8 :: 8 :: 8 :: 8 :: 8 :: 8 :: 8 :: 8 :: 8 :: 8 :: 8 :: 8 :: 8 :: 8 :: 8 :: 8 :: 8 :: 8 :: 8 :: 8 :: 8 :: 8 :: 8 :: 8 :: 8 :: 8 :: 8 :: 8 :: 8 :: 8 :: 8 :: 8 :: 8 :: 8 :: 8 :: 8 :: 8 :: 8 :: 8 :: 8 :: 8 :: 8 :: 8 :: 8 :: 8 :: 8 :: 8 :: 8 :: 8 :: 8 :: 8 :: 8 :: 8 :: 8 :: 8 :: 8 :: 8 :: 8 :: 8 :: 8 :: 8 :: 8 :: 8 :: 8 :: 8 :: 8 :: 8 :: 8 :: 8 :: 8 :: 8 :: 8 :: []⟩⟩
@[go_sem]theorem aPK : (⟨⟨0 :: 1 :: 2 :: 2 :: 3 :: 3 :: 3 :: 3 :: 4 :: 4 :: 4 :: 4 :: 4 :: 4 :: 4 :: 4 :: 5 :: 5 :: 5 :: 5 :: 5 :: 5 :: 5 :: 5 :: 5 :: 5 :: 5 :: 5 :: 5 :: 5 :: 5 :: 5 :: 6 :: 6 :: 6 :: 6 :: 6 :: 6 :: 6 :: 6 :: 6 :: 6 :: 6 :: 6 :: 6 :: 6 :: 6 :: 6 :: 6 :: 6 :: 6 :: 6 :: 6 :: 6 :: 6 :: 6 :: 6 :: 6 :: 6 :: 6 :: 6 :: 6 :: 6 :: 6 :: 7 :: 7 :: 7 :: 7 :: 7 :: 7 :: 7 :: 7 :: 7 :: 7 :: 7 :: 7 :: 7 :: 7 :: 7 :: 7 :: 7 :: 7 :: 7 :: 7 :: 7 :: 7 :: 7 :: 7 :: 7 :: 7 :: 7 :: 7 :: 7 :: 7 :: 7 :: 7 :: 7 :: 7 :: 7 :: 7 :: 7 :: 7 :: 7 :: 7 :: 7 :: 7 :: 7 :: 7 :: 7 :: 7 :: 7 :: 7 :: 7 :: 7 :: 7 :: 7 :: 7 :: 7 :: 7 :: 7 :: 7 :: 7 :: 7 :: 7 :: 7 :: 7 :: 7 :: 7 :: 8 :: 8 :: 8 :: 8 :: 8 :: 8 :: 8 :: 8 :: 8 :: 8 :: 8 :: 8 :: 8 :: 8 :: 8 :: 8 :: 8 :: 8 :: 8 :: 8 :: 8 :: 8 :: 8 :: 8 :: 8 :: 8 :: 8 :: 8 :: 8 :: 8 :: 8 :: 8 :: 8 :: 8 :: 8 :: 8 :: 8 :: 8 :: 8 :: 8 :: 8 :: 8 :: 8 :: 8 :: 8 :: 8 :: 8 :: 8 :: 8 :: 8 :: 8 :: 8 :: 8 :: 8 :: 8 :: 8 :: 8 :: 8 :: 8 :: 8 :: 8 :: 8 :: 8 :: 8 :: 8 :: 8 :: 8 :: 8 :: 8 :: 8 :: 8 :: 8 :: 8 :: 8 :: 8 :: 8 :: 8 :: 8 :: 8 :: 8 :: 8 :: 8 :: 8 :: 8 :: 8 :: 8 :: 8 :: 8 :: 8 :: 8 :: 8 :: 8 :: 8 :: 8 :: 8 :: 8 :: 8 :: 8 :: 8 :: 8 :: 8 :: 8 :: 8 :: 8 :: 8 :: 8 :: 8 :: 8 :: 8 :: 8 :: 8 :: 8 :: 8 :: 8 :: 8 :: 8 :: 8 :: 8 :: 8 :: 8 :: 8 :: 8 :: 8 :: 8 :: 8 :: 8 :: 8 :: 8 :: []⟩⟩ : ByteArray) = aFu := rfl
def sL (F : Md) (x_6 : Nat) (n_7 : Int) : Option (Int) :=
 ck (0 ≤ (((x_6 % 256) : Nat) : Int) ∧ (((x_6 % 256) : Nat) : Int) < (((aG aFu).length : Nat) : Int)) (ck (I64 (n_7 + ((((aG aFu).getD (x_6 % 256) (0 : Nat)) : Nat) : Int))) (some (n_7 + ((((aG aFu).getD (x_6 % 256) (0 : Nat)) : Nat) : Int))))
def sM (F : Md) (x_4 : Nat) (n_5 : Int) : Option (Int) :=
 if (256 : Nat) ≤ x_4 then ck (I64 (n_5 + (8 : Int))) (sL F (x_4 / (256 : Nat)) (n_5 + (8 : Int))) else sL F x_4 n_5
def sN (F : Md) (x_2 : Nat) (n_3 : Int) : Option (Int) :=
 if (65536 : Nat) ≤ x_2 then ck (I64 (n_3 + (16 : Int))) (sM F (x_2 / (65536 : Nat)) (n_3 + (16 : Int))) else sM F x_2 n_3
def aCd (F : Md) (x_0 : Nat) : Option Int :=
 if (4294967296 : Nat) ≤ x_0 then sN F (x_0 / (4294967296 : Nat)) (32 : Int) else sN F x_0 (0 : Int)
def aIj : PlR := ⟨[(0, .A [0, 2]), (1, .A [0, 2, 4]), (2, .A [0]), (3, .A [0, 2]), (4, .A [0, 2, 8]), (5, .A [0, 2]), (6, .A [0, 2]), (7, .A [0, 2, 14]), (8, .A [0, 2]), (9, .A [0, 2]), (10, .A [2])], [(4, 7), (7, 10), (10, 13)]⟩
def aJP : Ty := .pair qx .unit
def aAU (F : Md) : aJ := mSpec aJP (.one qe) (fun x => aCd F x.1)
abbrev aRh (F : Md) : List (FuncId × aJ) := []
theorem aRi [Mx] (F : Md) : bJ Tryz.prog GL (aRh F) := .nil
attribute [go_sem] aJP aIj
theorem aPL [Mx] (F : Md) : FOK Tryz.prog GL 174 (aAU F) := by
 refine bT (aV (aRi F)) mix Tryz.func174 rfl xAa xAc aIj fun w0 S x Θ hw h hF => ?_
 obtain ⟨(x_0 : Nat), u⟩ := x
 simp only [bX, go_sem]
 replace h : sat (aCd F x_0) _ := h
 unfold aCd at h
 refine eY hF (D := Nat × Int) (fun d => sat (sN F d.1 d.2) Θ) [] (fun d => [(0, .val qx d.1), (2, .val qe d.2)]) (fun d => []) ?_ ?_
 ·simp only [go_sem]
  refine eH h (fun hc h => ?_) fun hc h => ?_
  ·exact aZ ((x_0 / (4294967296 : Nat)), (32 : Int)) h rfl xAb
  ·exact aZ (x_0, (0 : Int)) h rfl xAb
 ·rintro ⟨x_2, n_3⟩ h
  simp only [go_sem]
  replace h : sat (sN F x_2 n_3) _ := h
  unfold sN at h
  refine eY hF (D := Nat × Int) (fun d => sat (sM F d.1 d.2) Θ) [] (fun d => [(0, .val qx d.1), (2, .val qe d.2)]) (fun d => []) ?_ ?_
  ·simp only [go_sem]
   refine eH h (fun hc h => ?_) fun hc h => ?_
   ·refine aR h fun g0 h => ?_
    exact aZ ((x_2 / (65536 : Nat)), (n_3 + (16 : Int))) h rfl xAb
   ·exact aZ (x_2, n_3) h rfl xAb
  ·rintro ⟨x_4, n_5⟩ h
   simp only [go_sem]
   replace h : sat (sM F x_4 n_5) _ := h
   unfold sM at h
   refine eY hF (D := Nat × Int) (fun d => sat (sL F d.1 d.2) Θ) [] (fun d => [(0, .val qx d.1), (2, .val qe d.2)]) (fun d => []) ?_ ?_
   ·simp only [go_sem]
    refine eH h (fun hc h => ?_) fun hc h => ?_
    ·refine aR h fun g0 h => ?_
     exact aZ ((x_4 / (256 : Nat)), (n_5 + (8 : Int))) h rfl xAb
    ·exact aZ (x_4, n_5) h rfl xAb
   ·rintro ⟨x_6, n_7⟩ h
    simp only [go_sem]
    replace h : sat (sL F x_6 n_7) _ := h
    unfold sL at h
    refine aR h fun g0 h => aR h fun g1 h => ?_
    exact zaF
attribute [go_sem] aAU
def cB (F : Md) (x_0 : Nat) : Option Int :=
 (aCd F x_0).bind (fun v_5 => ck (I64 ((64 : Int) - v_5)) (some ((64 : Int) - v_5)))
def zD : PlR := ⟨[(0, .A [0]), (1, .A [2])], []⟩
def aAu : Ty := .pair qx .unit
def fJ (F : Md) : aJ := mSpec aAu (.one qe) (fun x => cB F x.1)
abbrev aAv (F : Md) : List (FuncId × aJ) := [(174, (aAU F))]
theorem aGv [Mx] (F : Md) : bJ Tryz.prog GL (aAv F) := .cons (aPL F) xAa (.nil)
attribute [go_sem] aAu zD
theorem rS [Mx] (F : Md) : FOK Tryz.prog GL 137 (fJ F) := by
 refine bT (aV (aGv F)) mix Tryz.func137 rfl xAa xAc zD fun w0 S x Θ hw h hF => ?_
 obtain ⟨(x_0 : Nat), u⟩ := x
 simp only [bX, go_sem]
 replace h : sat (cB F x_0) _ := h
 unfold cB at h
 obtain ⟨v_5, hv, h⟩ := aP h
 exact za1
attribute [go_sem] fJ
def nT (F : Md) (x_0 : Nat) : Option Int :=
 if x_0 = (0 : Nat) then some (64 : Int) else ck (0 ≤ ((((mulM F .u64 (x_0 &&& (aS4 F .u64 x_0)) (285870213051353865 : Nat)) / (288230376151711744 : Nat)) : Nat) : Int) ∧ ((((mulM F .u64 (x_0 &&& (aS4 F .u64 x_0)) (285870213051353865 : Nat)) / (288230376151711744 : Nat)) : Nat) : Int) < (64 : Int)) (some (((aWd.getD ((mulM F .u64 (x_0 &&& (aS4 F .u64 x_0)) (285870213051353865 : Nat)) / (288230376151711744 : Nat)) (0 : Nat)) : Nat) : Int))
def yC : PlR := ⟨[(0, .A [0]), (1, .A [0, 4]), (2, .A [2]), (3, .A [2])], []⟩
def zE : Ty := .pair qx .unit
def nA (F : Md) : aJ := mSpec zE (.one qe) (fun x => nT F x.1)
abbrev aFv (F : Md) : List (FuncId × aJ) := []
theorem aFw [Mx] (F : Md) : bJ Tryz.prog GL (aFv F) := .nil
attribute [go_sem] zE yC
theorem aEE [Mx] (F : Md) : FOK Tryz.prog GL 187 (nA F) := by
 refine bT (aV (aFw F)) mix Tryz.func187 rfl xAa xAc yC fun w0 S x Θ hw h hF => ?_
 obtain ⟨(x_0 : Nat), u⟩ := x
 simp only [bX, go_sem]
 replace h : sat (nT F x_0) _ := h
 unfold nT at h
 refine eH h (fun hc h => ?_) fun hc h => ?_
 ·exact aL hF [.tmp 2] rfl rfl rfl (aE h) xAf
 ·obtain ⟨g0, h⟩ := aS h
  repeat (refine ⟨by first | with_reducible assumption | omega | (intros; first | with_reducible assumption | omega) | (simp only [go_sem, dI F, dJ F, dK F] at *; first | with_reducible assumption | omega) | (intro _; exact ⟨rfl, by decide⟩) | (intro _; refine (?_ : _ = aD _); rfl) | (refine (?_ : _ = aD _); rfl) | exact ⟨rfl, rfl⟩ | decide, ?_⟩)
  exact aL hF [.tmp 2] rfl rfl rfl (aE h) (by (simp only [aU, go_sem, dI F, dJ F, dK F]) <;> first | rfl | (simp; done))
attribute [go_sem] nA
def aCe (F : Md) (x_0 : Nat) (y_1 : Nat) : Option (Nat × (Nat × Unit)) :=
 some ((((((mulM F .u64 (x_0 / (4294967296 : Nat)) (y_1 / (4294967296 : Nat))) + ((((mulM F .u64 (x_0 / (4294967296 : Nat)) (y_1 &&& (4294967295 : Nat))) + ((mulM F .u64 (x_0 &&& (4294967295 : Nat)) (y_1 &&& (4294967295 : Nat))) / (4294967296 : Nat))) % 18446744073709551616) / (4294967296 : Nat))) % 18446744073709551616) + (((((((mulM F .u64 (x_0 / (4294967296 : Nat)) (y_1 &&& (4294967295 : Nat))) + ((mulM F .u64 (x_0 &&& (4294967295 : Nat)) (y_1 &&& (4294967295 : Nat))) / (4294967296 : Nat))) % 18446744073709551616) &&& (4294967295 : Nat)) + (mulM F .u64 (x_0 &&& (4294967295 : Nat)) (y_1 / (4294967296 : Nat)))) % 18446744073709551616) / (4294967296 : Nat))) % 18446744073709551616), (mulM F .u64 x_0 y_1), ())
def aIk : PlR := ⟨[(0, .A [0, 1]), (1, .A [0, 1, 6]), (2, .A [0, 1, 6, 7]), (3, .A [0, 1, 6, 7, 8]), (4, .A [0, 1, 6, 7, 8, 9]), (5, .A [0, 1, 6, 7, 8, 9, 10]), (6, .A [0, 1, 6, 7, 9, 11]), (7, .A [0, 1, 6, 7, 9, 11, 12]), (8, .A [0, 1, 6, 7, 9, 12, 13]), (9, .A [0, 1, 7, 9, 12, 13]), (10, .A [0, 1, 4]), (11, .A [4, 5])], []⟩
def aJQ : Ty := .pair qx (.pair qx .unit)
def aAV (F : Md) : aJ := mSpec aJQ (.tup wn) (fun x => aCe F x.1 x.2.1)
abbrev aRj (F : Md) : List (FuncId × aJ) := []
theorem aRk [Mx] (F : Md) : bJ Tryz.prog GL (aRj F) := .nil
attribute [go_sem] aJQ aIk
theorem aPM [Mx] (F : Md) : FOK Tryz.prog GL 143 (aAV F) := by
 refine bT (aV (aRk F)) mix Tryz.func143 rfl xAa xAc aIk fun w0 S x Θ hw h hF => ?_
 obtain ⟨(x_0 : Nat), (y_1 : Nat), u⟩ := x
 simp only [bX, go_sem]
 replace h : sat (aCe F x_0 y_1) _ := h
 unfold aCe at h
 exact aL hF [.tmp 4, .tmp 5] rfl rfl rfl (aE h) xAf
attribute [go_sem] aAV
def xF (F : Md) (x15_12 : Nat) (hi_0 : Nat) (v_7 : Int) (lo_1 : Nat) (y_2 : Nat) (x18_17 : Nat) : Option (Nat × (Nat × Unit)) :=
 some ((((mulM F .u64 x15_12 (4294967296 : Nat)) + x18_17) % 18446744073709551616), ((aBg F .u64 (((mulM F .u64 (aBg F .u64 (((mulM F .u64 (((hi_0 * (2 ^ (v_7 % (18446744073709551616 : Int)).toNat)) % 18446744073709551616) ||| (lo_1 / (2 ^ (aBg F .u64 (64 : Nat) (v_7 % (18446744073709551616 : Int)).toNat)))) (4294967296 : Nat)) + (((lo_1 * (2 ^ (v_7 % (18446744073709551616 : Int)).toNat)) % 18446744073709551616) / (4294967296 : Nat))) % 18446744073709551616) (mulM F .u64 x15_12 ((y_2 * (2 ^ (v_7 % (18446744073709551616 : Int)).toNat)) % 18446744073709551616))) (4294967296 : Nat)) + (((lo_1 * (2 ^ (v_7 % (18446744073709551616 : Int)).toNat)) % 18446744073709551616) &&& (4294967295 : Nat))) % 18446744073709551616) (mulM F .u64 x18_17 ((y_2 * (2 ^ (v_7 % (18446744073709551616 : Int)).toNat)) % 18446744073709551616))) / (2 ^ (v_7 % (18446744073709551616 : Int)).toNat)), ())
def aAL (F : Md) (lo_1 : Nat) (v_7 : Int) (y_2 : Nat) (rhat_18 : Nat) (x18_19 : Nat) : Option ((Nat × Nat) ⊕ (Nat)) :=
 if ((4294967296 : Nat) ≤ x18_19) ∨ ((((mulM F .u64 (4294967296 : Nat) rhat_18) + (((lo_1 * (2 ^ (v_7 % (18446744073709551616 : Int)).toNat)) % 18446744073709551616) &&& (4294967295 : Nat))) % 18446744073709551616) < (mulM F .u64 x18_19 (((y_2 * (2 ^ (v_7 % (18446744073709551616 : Int)).toNat)) % 18446744073709551616) &&& (4294967295 : Nat)))) then if (4294967296 : Nat) ≤ ((rhat_18 + (((y_2 * (2 ^ (v_7 % (18446744073709551616 : Int)).toNat)) % 18446744073709551616) / (4294967296 : Nat))) % 18446744073709551616) then some (.inr (aBg F .u64 x18_19 (1 : Nat))) else some (.inl (((rhat_18 + (((y_2 * (2 ^ (v_7 % (18446744073709551616 : Int)).toNat)) % 18446744073709551616) / (4294967296 : Nat))) % 18446744073709551616), (aBg F .u64 x18_19 (1 : Nat)))) else some (.inr x18_19)
def xG (F : Md) (y_2 : Nat) (v_7 : Int) (lo_1 : Nat) (hi_0 : Nat) (x15_12 : Nat) : Option (Nat × (Nat × Unit)) :=
 ck ((((y_2 * (2 ^ (v_7 % (18446744073709551616 : Int)).toNat)) % 18446744073709551616) / (4294967296 : Nat)) ≠ 0) ((eG F (fun d : Nat × Nat => aAL F lo_1 v_7 y_2 d.1 d.2) ((aBg F .u64 (aBg F .u64 (((mulM F .u64 (((hi_0 * (2 ^ (v_7 % (18446744073709551616 : Int)).toNat)) % 18446744073709551616) ||| (lo_1 / (2 ^ (aBg F .u64 (64 : Nat) (v_7 % (18446744073709551616 : Int)).toNat)))) (4294967296 : Nat)) + (((lo_1 * (2 ^ (v_7 % (18446744073709551616 : Int)).toNat)) % 18446744073709551616) / (4294967296 : Nat))) % 18446744073709551616) (mulM F .u64 x15_12 ((y_2 * (2 ^ (v_7 % (18446744073709551616 : Int)).toNat)) % 18446744073709551616))) (mulM F .u64 ((aBg F .u64 (((mulM F .u64 (((hi_0 * (2 ^ (v_7 % (18446744073709551616 : Int)).toNat)) % 18446744073709551616) ||| (lo_1 / (2 ^ (aBg F .u64 (64 : Nat) (v_7 % (18446744073709551616 : Int)).toNat)))) (4294967296 : Nat)) + (((lo_1 * (2 ^ (v_7 % (18446744073709551616 : Int)).toNat)) % 18446744073709551616) / (4294967296 : Nat))) % 18446744073709551616) (mulM F .u64 x15_12 ((y_2 * (2 ^ (v_7 % (18446744073709551616 : Int)).toNat)) % 18446744073709551616))) / (((y_2 * (2 ^ (v_7 % (18446744073709551616 : Int)).toNat)) % 18446744073709551616) / (4294967296 : Nat))) (((y_2 * (2 ^ (v_7 % (18446744073709551616 : Int)).toNat)) % 18446744073709551616) / (4294967296 : Nat)))), ((aBg F .u64 (((mulM F .u64 (((hi_0 * (2 ^ (v_7 % (18446744073709551616 : Int)).toNat)) % 18446744073709551616) ||| (lo_1 / (2 ^ (aBg F .u64 (64 : Nat) (v_7 % (18446744073709551616 : Int)).toNat)))) (4294967296 : Nat)) + (((lo_1 * (2 ^ (v_7 % (18446744073709551616 : Int)).toNat)) % 18446744073709551616) / (4294967296 : Nat))) % 18446744073709551616) (mulM F .u64 x15_12 ((y_2 * (2 ^ (v_7 % (18446744073709551616 : Int)).toNat)) % 18446744073709551616))) / (((y_2 * (2 ^ (v_7 % (18446744073709551616 : Int)).toNat)) % 18446744073709551616) / (4294967296 : Nat))))).bind (fun e => xF F x15_12 hi_0 v_7 lo_1 y_2 e))
def aAM (F : Md) (lo_1 : Nat) (v_7 : Int) (y_2 : Nat) (x15_23 : Nat) (rhat_24 : Nat) : Option ((Nat × Nat) ⊕ (Nat)) :=
 if ((4294967296 : Nat) ≤ x15_23) ∨ ((((mulM F .u64 (4294967296 : Nat) rhat_24) + (((lo_1 * (2 ^ (v_7 % (18446744073709551616 : Int)).toNat)) % 18446744073709551616) / (4294967296 : Nat))) % 18446744073709551616) < (mulM F .u64 x15_23 (((y_2 * (2 ^ (v_7 % (18446744073709551616 : Int)).toNat)) % 18446744073709551616) &&& (4294967295 : Nat)))) then if (4294967296 : Nat) ≤ ((rhat_24 + (((y_2 * (2 ^ (v_7 % (18446744073709551616 : Int)).toNat)) % 18446744073709551616) / (4294967296 : Nat))) % 18446744073709551616) then some (.inr (aBg F .u64 x15_23 (1 : Nat))) else some (.inl ((aBg F .u64 x15_23 (1 : Nat)), ((rhat_24 + (((y_2 * (2 ^ (v_7 % (18446744073709551616 : Int)).toNat)) % 18446744073709551616) / (4294967296 : Nat))) % 18446744073709551616))) else some (.inr x15_23)
def aCf (F : Md) (hi_0 : Nat) (lo_1 : Nat) (y_2 : Nat) : Option (Nat × (Nat × Unit)) :=
 if y_2 = (0 : Nat) then none else if y_2 ≤ hi_0 then none else if hi_0 = (0 : Nat) then ck (y_2 ≠ 0) (ck (y_2 ≠ 0) (some ((lo_1 / y_2), (lo_1 % y_2), ()))) else (cB F y_2).bind (fun v_7 => ck ((((y_2 * (2 ^ (v_7 % (18446744073709551616 : Int)).toNat)) % 18446744073709551616) / (4294967296 : Nat)) ≠ 0) ((eG F (fun d : Nat × Nat => aAM F lo_1 v_7 y_2 d.1 d.2) (((((hi_0 * (2 ^ (v_7 % (18446744073709551616 : Int)).toNat)) % 18446744073709551616) ||| (lo_1 / (2 ^ (aBg F .u64 (64 : Nat) (v_7 % (18446744073709551616 : Int)).toNat)))) / (((y_2 * (2 ^ (v_7 % (18446744073709551616 : Int)).toNat)) % 18446744073709551616) / (4294967296 : Nat))), (aBg F .u64 (((hi_0 * (2 ^ (v_7 % (18446744073709551616 : Int)).toNat)) % 18446744073709551616) ||| (lo_1 / (2 ^ (aBg F .u64 (64 : Nat) (v_7 % (18446744073709551616 : Int)).toNat)))) (mulM F .u64 ((((hi_0 * (2 ^ (v_7 % (18446744073709551616 : Int)).toNat)) % 18446744073709551616) ||| (lo_1 / (2 ^ (aBg F .u64 (64 : Nat) (v_7 % (18446744073709551616 : Int)).toNat)))) / (((y_2 * (2 ^ (v_7 % (18446744073709551616 : Int)).toNat)) % 18446744073709551616) / (4294967296 : Nat))) (((y_2 * (2 ^ (v_7 % (18446744073709551616 : Int)).toNat)) % 18446744073709551616) / (4294967296 : Nat)))))).bind (fun e => xG F y_2 v_7 lo_1 hi_0 e)))
def aIl : PlR := ⟨[(0, .A [0, 1, 2]), (1, .A [0, 1, 2, 20]), (2, .stop), (3, .A [0, 1, 2, 24]), (4, .stop), (5, .A [0, 1, 2, 27]), (6, .A [6, 7]), (7, .A [0, 1, 2, 8]), (8, .A [0, 1, 2, 8]), (9, .A [0, 1, 2, 8, 9]), (10, .A [0, 1, 2, 8, 9, 10]), (11, .A [1, 2, 8, 9, 10, 11]), (12, .A [2, 8, 9, 10, 11, 12]), (13, .A [2, 8, 9, 10, 11, 12, 13]), (14, .A [2, 8, 9, 10, 11, 13, 14]), (15, .A [2, 8, 9, 10, 11, 13, 14, 15]), (16, .A [2, 8, 9, 10, 11, 13, 14, 15, 16]), (17, .A [2, 8, 9, 10, 11, 13, 14, 15, 16, 78]), (18, .A [2, 8, 9, 10, 11, 13, 14, 15, 16]), (19, .A [2, 8, 9, 10, 11, 13, 14, 15, 16]), (20, .A [2, 8, 9, 10, 11, 13, 14, 15, 16, 85]), (21, .A [2, 8, 9, 10, 14, 15, 17]), (22, .A [2, 8, 9, 10, 14, 15, 17, 18]), (23, .A [2, 8, 9, 10, 14, 15, 16, 17, 18]), (24, .A [2, 8, 9, 10, 14, 15, 16, 17, 18, 113]), (25, .A [2, 8, 9, 10, 14, 15, 16, 17, 18]), (26, .A [2, 8, 9, 10, 14, 15, 16, 17, 18]), (27, .A [2, 8, 9, 10, 14, 15, 16, 17, 18, 120]), (28, .A [6, 7])], [(20, 24), (27, 31)]⟩
def aJR : Ty := .pair qx wn
def aAW (F : Md) : aJ := mSpec aJR (.tup wn) (fun x => aCf F x.1 x.2.1 x.2.2.1)
abbrev aJS (F : Md) : List (FuncId × aJ) := [(137, (fJ F))]
theorem aRl [Mx] (F : Md) : bJ Tryz.prog GL (aJS F) := .cons (rS F) xAa (.nil)
attribute [go_sem] aJR aIl
theorem aPN [Mx] (F : Md) : FOK Tryz.prog GL 173 (aAW F) := by
 refine bT (aV (aRl F)) mix Tryz.func173 rfl xAa xAc aIl fun w0 S x Θ hw h hF => ?_
 obtain ⟨(hi_0 : Nat), (lo_1 : Nat), (y_2 : Nat), u⟩ := x
 simp only [bX, go_sem]
 replace h : sat (aCf F hi_0 lo_1 y_2) _ := h
 unfold aCf at h
 refine eH h (fun hc h => ?_) fun hc h => ?_
 ·exact aBi h
 ·refine eH h (fun hc h => ?_) fun hc h => ?_
  ·exact aBi h
  ·refine eH h (fun hc h => ?_) fun hc h => ?_
   ·refine aR h fun g0 h => aR h fun g1 h => ?_
    exact aL hF [.tmp 6, .tmp 7] rfl rfl rfl (aE h) xAf
   ·obtain ⟨v_7, hv, h⟩ := aP h
    try simp only [hv, go_sem, dI F, dJ F, dK F]
    refine aR h fun g0 h => ?_
    refine eY hF (D := Nat) (fun d => sat (xG F y_2 v_7 lo_1 hi_0 d) Θ) [2, 8, 9, 10, 11, 13, 14] (fun d => [(15, .val qx d)]) (fun d => []) ?_ ?_
    ·simp only [go_sem, dI F, dJ F, dK F]
     refine cG hF (D := Nat × Nat) [2, 8, 9, 10, 11, 13, 14] (fun d => [(15, .val qx d.1), (16, .val qx d.2)]) (fun d => []) h rfl xAe ?_
     rintro ⟨x15_23, rhat_24⟩ A17 T17 hA17 hE17 h
     simp only [go_sem, dI F, dJ F, dK F]
     replace h : sat (aAM F lo_1 v_7 y_2 x15_23 rhat_24) _ := h
     unfold aAM at h
     refine ⟨fun hc => ?_, fun hc => ?_⟩
     ·replace h := jG hc h
      refine eH h (fun hc h => ?_) fun hc h => ?_
      ·replace h := yaF (hE17 _ (aE h))
       exact aZ (aBg F .u64 x15_23 (1 : Nat)) h rfl xAe
      ·replace h := hA17 _ (aE h)
       exact aZ _ h rfl xAe
     ·replace h := jH hc h
      replace h := yaF (hE17 _ (aE h))
      exact aZ (x15_23) h rfl xAe
    ·rintro x15_12 h
     simp only [go_sem, dI F, dJ F, dK F]
     replace h : sat (xG F y_2 v_7 lo_1 hi_0 x15_12) _ := h
     unfold xG at h
     refine aR h fun g0 h => ?_
     refine eY hF (D := Nat) (fun d => sat (xF F x15_12 hi_0 v_7 lo_1 y_2 d) Θ) [2, 8, 14, 15, 17] (fun d => [(18, .val qx d)]) (fun d => []) ?_ ?_
     ·simp only [go_sem, dI F, dJ F, dK F]
      refine cG hF (D := Nat × Nat) [2, 8, 9, 10, 14, 15, 17] (fun d => [(16, .val qx d.1), (18, .val qx d.2)]) (fun d => []) h rfl xAe ?_
      rintro ⟨rhat_18, x18_19⟩ A24 T24 hA24 hE24 h
      simp only [go_sem, dI F, dJ F, dK F]
      replace h : sat (aAL F lo_1 v_7 y_2 rhat_18 x18_19) _ := h
      unfold aAL at h
      refine ⟨fun hc => ?_, fun hc => ?_⟩
      ·replace h := jG hc h
       refine eH h (fun hc h => ?_) fun hc h => ?_
       ·replace h := yaF (hE24 _ (aE h))
        exact aZ (aBg F .u64 x18_19 (1 : Nat)) h rfl xAe
       ·replace h := hA24 _ (aE h)
        exact aZ _ h rfl xAe
      ·replace h := jH hc h
       replace h := yaF (hE24 _ (aE h))
       exact aZ (x18_19) h rfl xAe
     ·rintro x18_17 h
      simp only [go_sem, dI F, dJ F, dK F]
      replace h : sat (xF F x15_12 hi_0 v_7 lo_1 y_2 x18_17) _ := h
      unfold xF at h
      exact aL hF [.tmp 6, .tmp 7] rfl rfl rfl (aE h) xAf
attribute [go_sem] aAW
def aH2 (F : Md) (a_0 : qd) : Option Bool :=
 ck (¬ ((a_0.length : Int) = (0 : Int)) → ((a_0.length : Int) ≤ (64 : Int)) → (I64 ((a_0.length : Int) - (1 : Int)))) (ck (¬ ((a_0.length : Int) = (0 : Int)) → ((a_0.length : Int) ≤ (64 : Int)) → (0 ≤ ((a_0.length : Int) - (1 : Int)) ∧ ((a_0.length : Int) - (1 : Int)) < (a_0.length : Int))) (some ((decide ((a_0.length : Int) = (0 : Int))) || ((decide ((a_0.length : Int) ≤ (64 : Int))) && (!(decide ((a_0.getD ((a_0.length : Int) - (1 : Int)).toNat (0 : Nat)) = (0 : Nat))))))))
def aOE : PlR := ⟨[(0, .A [0]), (1, .A [2])], []⟩
def aQJ : Ty := .pair we .unit
def aFx (F : Md) : aJ := mSpec aQJ (.one .bool) (fun x => aH2 F x.1)
abbrev aUI (F : Md) : List (FuncId × aJ) := []
theorem aUJ [Mx] (F : Md) : bJ Tryz.prog GL (aUI F) := .nil
attribute [go_sem] aQJ aOE
theorem aTb [Mx] (F : Md) : FOK Tryz.prog GL 150 (aFx F) := by
 refine bT (aV (aUJ F)) mix Tryz.func150 rfl xAa xAc aOE fun w0 S x Θ hw h hF => ?_
 obtain ⟨(a_0 : qd), u⟩ := x
 simp only [bX, go_sem]
 replace h : sat (aH2 F a_0) _ := h
 unfold aH2 at h
 obtain ⟨g0, h⟩ := aS h
 obtain ⟨g1, h⟩ := aS h
 try simp only [I64, I32] at g0
 repeat (refine ⟨by first | with_reducible assumption | omega | (intros; first | with_reducible assumption | omega) | (simp only [go_sem] at *; first | with_reducible assumption | omega) | (intro _; exact ⟨rfl, by decide⟩) | (intro _; refine (?_ : _ = aD _); rfl) | (refine (?_ : _ = aD _); rfl) | exact ⟨rfl, rfl⟩ | (intro q0 q1; (try have e0 := g0 (by first | exact q0 | omega | (simpa using q0)) (by first | exact q1 | omega | (simpa using q1))); (try have e1 := g1 (by first | exact q0 | omega | (simpa using q0)) (by first | exact q1 | omega | (simpa using q1))); first | assumption | omega) | (rintro ⟨q0, q1⟩; (try have e0 := g0 (by first | exact q0 | omega | (simpa using q0)) (by first | exact q1 | omega | (simpa using q1))); (try have e1 := g1 (by first | exact q0 | omega | (simpa using q0)) (by first | exact q1 | omega | (simpa using q1))); first | assumption | omega) | decide, ?_⟩)
 exact zaF
attribute [go_sem] aFx
def aEc (F : Md) (a_4 : qd) : Option (qd ⊕ qd) :=
 ck (((0 : Int) < (a_4.length : Int)) → (I64 ((a_4.length : Int) - (1 : Int)))) (ck (((0 : Int) < (a_4.length : Int)) → (0 ≤ ((a_4.length : Int) - (1 : Int)) ∧ ((a_4.length : Int) - (1 : Int)) < (a_4.length : Int))) (if ((0 : Int) < (a_4.length : Int)) ∧ ((a_4.getD ((a_4.length : Int) - (1 : Int)).toNat (0 : Nat)) = (0 : Nat)) then ck (I64 ((a_4.length : Int) - (1 : Int))) (ck (0 ≤ ((a_4.length : Int) - (1 : Int)) ∧ ((a_4.length : Int) - (1 : Int)) ≤ (a_4.length : Int)) (some (.inl (List.take ((a_4.length : Int) - (1 : Int)).toNat a_4)))) else some (.inr a_4)))
def jZ (F : Md) (a_0 : qd) : Option qd :=
 (eG F (fun d : qd => aEc F d) a_0).bind (fun e => some e)
def aMk : PlR := ⟨[(0, .A [0]), (1, .A [0, 14]), (2, .A [0]), (3, .A [2])], []⟩
def aOF : Ty := .pair we .unit
def gO (F : Md) : aJ := mSpec aOF (.one we) (fun x => jZ F x.1)
abbrev aTc (F : Md) : List (FuncId × aJ) := []
theorem aTd [Mx] (F : Md) : bJ Tryz.prog GL (aTc F) := .nil
attribute [go_sem] aOF aMk
theorem uA [Mx] (F : Md) : FOK Tryz.prog GL 141 (gO F) := by
 refine bT (aV (aTd F)) mix Tryz.func141 rfl xAa xAc aMk fun w0 S x Θ hw h hF => ?_
 obtain ⟨(a_0 : qd), u⟩ := x
 simp only [bX, go_sem]
 replace h : sat (jZ F a_0) _ := h
 unfold jZ at h
 refine cG hF (D := qd) [] (fun d => [(0, .val we d)]) (fun d => []) h rfl xAb ?_
 rintro a_4 A1 T1 hA1 hE1 h
 simp only [go_sem]
 replace h : sat (aEc F a_4) _ := h
 unfold aEc at h
 refine aR h fun g0 h => aR h fun g1 h => ?_
 refine ⟨fun hc => ?_, fun hc => ?_⟩
 ·replace h := jG hc h
  refine aR h fun g0 h => aR h fun g1 h => ?_
  replace h := hA1 _ (aE h)
  exact zaI
 ·replace h := jH hc h
  replace h := yaF (hE1 _ (aE h))
  exact zaF
attribute [go_sem] gO
def aCY (F : Md) (less_0 : Bool) : Option Int :=
 if less_0 = true then some (-1 : Int) else some (1 : Int)
def aMl : PlR := ⟨[(0, .A [0]), (1, .A [3]), (2, .A [2]), (3, .A [2])], []⟩
def aOG : Ty := .pair .bool .unit
def aDD (F : Md) : aJ := mSpec aOG (.one qe) (fun x => aCY F x.1)
abbrev aTe (F : Md) : List (FuncId × aJ) := []
theorem aTf [Mx] (F : Md) : bJ Tryz.prog GL (aTe F) := .nil
attribute [go_sem] aOG aMl
theorem aSm [Mx] (F : Md) : FOK Tryz.prog GL 156 (aDD F) := by
 refine bT (aV (aTf F)) mix Tryz.func156 rfl xAa xAc aMl fun w0 S x Θ hw h hF => ?_
 obtain ⟨(less_0 : Bool), u⟩ := x
 simp only [bX, go_sem]
 replace h : sat (aCY F less_0) _ := h
 unfold aCY at h
 exact za5
attribute [go_sem] aDD
def aCZ (F : Md) (a_0 : qd) (b_1 : qd) (i_20 : Int) : Option ((Int) ⊕ ((Unit) ⊕ Int)) :=
 if (0 : Int) ≤ i_20 then ck (0 ≤ i_20 ∧ i_20 < (a_0.length : Int)) (ck (0 ≤ i_20 ∧ i_20 < (b_1.length : Int)) (if ¬ ((a_0.getD (i_20.toNat) (0 : Nat)) = (b_1.getD (i_20.toNat) (0 : Nat))) then ck (0 ≤ i_20 ∧ i_20 < (a_0.length : Int)) (ck (0 ≤ i_20 ∧ i_20 < (b_1.length : Int)) ((aCY F (decide ((a_0.getD (i_20.toNat) (0 : Nat)) < (b_1.getD (i_20.toNat) (0 : Nat))))).bind (fun v_33 => some (.inr (.inr v_33))))) else ck (I64 (i_20 - (1 : Int))) (some (.inl (i_20 - (1 : Int)))))) else some (.inr (.inl ()))
def uB (F : Md) (a_0 : qd) (b_1 : qd) : Option Int :=
 if ¬ ((a_0.length : Int) = (b_1.length : Int)) then (aCY F (decide ((a_0.length : Int) < (b_1.length : Int)))).bind (fun v_8 => some v_8) else ck (I64 ((a_0.length : Int) - (1 : Int))) ((eG F (fun d : Int => aCZ F a_0 b_1 d) ((a_0.length : Int) - (1 : Int))).bind (fun e => match e with | (.inl e) => some (0 : Int) | (.inr e) => some e))
def aJT : PlR := ⟨[(0, .A [0, 1]), (1, .A [0, 1, 10]), (2, .A [4]), (3, .A [0, 1, 5]), (4, .A [0, 1, 5, 21]), (5, .A [0, 1, 5]), (6, .A [0, 1, 5, 32]), (7, .A [4]), (8, .A [4])], []⟩
def aMm : Ty := .pair we (.pair we .unit)
def pZ (F : Md) : aJ := mSpec aMm (.one qe) (fun x => uB F x.1 x.2.1)
abbrev aMn (F : Md) : List (FuncId × aJ) := [(156, (aDD F))]
theorem aSn [Mx] (F : Md) : bJ Tryz.prog GL (aMn F) := .cons (aSm F) xAa (.nil)
attribute [go_sem] aMm aJT
theorem aFy [Mx] (F : Md) : FOK Tryz.prog GL 114 (pZ F) := by
 refine bT (aV (aSn F)) mix Tryz.func114 rfl xAa xAc aJT fun w0 S x Θ hw h hF => ?_
 obtain ⟨(a_0 : qd), (b_1 : qd), u⟩ := x
 simp only [bX, go_sem]
 replace h : sat (uB F a_0 b_1) _ := h
 unfold uB at h
 refine eH h (fun hc h => ?_) fun hc h => ?_
 ·obtain ⟨v_8, hv, h⟩ := aP h
  exact zaR
 ·refine aR h fun g0 h => ?_
  refine cG hF (D := Int) [0, 1] (fun d => [(5, .val qe d)]) (fun d => []) h rfl xAb ?_
  rintro i_20 A4 T4 hA4 hE4 h
  simp only [go_sem]
  replace h : sat (aCZ F a_0 b_1 i_20) _ := h
  unfold aCZ at h
  refine aS6 h (fun hc h => ?_) fun hc h => ?_
  ·refine aR h fun g0 h => aR h fun g1 h => ?_
   refine eH h (fun hc h => ?_) fun hc h => ?_
   ·refine aR h fun g0 h => aR h fun g1 h => ?_
    obtain ⟨v_33, hv, h⟩ := aP h
    try simp only [hv, go_sem]
    replace h := yaF (hE4 _ (aE h))
    exact zaD
   ·refine aR h fun g0 h => ?_
    replace h := hA4 _ (aE h)
    exact zaI
  ·replace h := yaF (hE4 _ (aE h))
   exact zaD
attribute [go_sem] pZ
def aC0 (F : Md) (a_0 : qd) : Option Int :=
 if (a_0.length : Int) = (0 : Int) then some (0 : Int) else ck (I64 ((64 : Int) * (a_0.length : Int))) (ck (I64 ((a_0.length : Int) - (1 : Int))) (ck (0 ≤ ((a_0.length : Int) - (1 : Int)) ∧ ((a_0.length : Int) - (1 : Int)) < (a_0.length : Int)) ((cB F (a_0.getD ((a_0.length : Int) - (1 : Int)).toNat (0 : Nat))).bind (fun v_5 => ck (I64 (((64 : Int) * (a_0.length : Int)) - v_5)) (some (((64 : Int) * (a_0.length : Int)) - v_5))))))
def aMo : PlR := ⟨[(0, .A [0]), (1, .A [0, 5]), (2, .A [2]), (3, .A [2])], []⟩
def aOH : Ty := .pair we .unit
def aDE (F : Md) : aJ := mSpec aOH (.one qe) (fun x => aC0 F x.1)
abbrev aOI (F : Md) : List (FuncId × aJ) := [(137, (fJ F))]
theorem aTg [Mx] (F : Md) : bJ Tryz.prog GL (aOI F) := .cons (rS F) xAa (.nil)
attribute [go_sem] aOH aMo
theorem aSo [Mx] (F : Md) : FOK Tryz.prog GL 151 (aDE F) := by
 refine bT (aV (aTg F)) mix Tryz.func151 rfl xAa xAc aMo fun w0 S x Θ hw h hF => ?_
 obtain ⟨(a_0 : qd), u⟩ := x
 simp only [bX, go_sem]
 replace h : sat (aC0 F a_0) _ := h
 unfold aC0 at h
 refine eH h (fun hc h => ?_) fun hc h => ?_
 ·exact aL hF [.tmp 2] rfl rfl rfl (aE h) xAd
 ·refine aR h fun g0 h => aR h fun g1 h => aR h fun g2 h => ?_
  obtain ⟨v_5, hv, h⟩ := aP h
  exact za1
attribute [go_sem] aDE
def aC1 (F : Md) (a_0 : qd) (x7_10 : Int) : Option ((Int) ⊕ ((Unit) ⊕ Int)) :=
 if x7_10 < (a_0.length : Int) then ck (0 ≤ x7_10 ∧ x7_10 < (a_0.length : Int)) (if ¬ ((a_0.getD (x7_10.toNat) (0 : Nat)) = (0 : Nat)) then ck (I64 ((64 : Int) * x7_10)) ((nT F (a_0.getD (x7_10.toNat) (0 : Nat))).bind (fun v_19 => ck (I64 (((64 : Int) * x7_10) + v_19)) (some (.inr (.inr (((64 : Int) * x7_10) + v_19)))))) else ck (I64 (x7_10 + (1 : Int))) (some (.inl (x7_10 + (1 : Int))))) else some (.inr (.inl ()))
def fK (F : Md) (a_0 : qd) : Option Int :=
 (eG F (fun d : Int => aC1 F a_0 d) (0 : Int)).bind (fun e => match e with | (.inl e) => some (-1 : Int) | (.inr e) => some e)
def aJU : PlR := ⟨[(0, .A [0]), (1, .A [5, 6, 7]), (2, .A [5, 6, 7, 8]), (3, .A [3, 4, 5, 6, 7]), (4, .A [3, 4, 5, 6, 7, 13]), (5, .A [2]), (6, .A [5, 6, 7]), (7, .A [2])], []⟩
def aMp : Ty := .pair we .unit
def aCg (F : Md) : aJ := mSpec aMp (.one qe) (fun x => fK F x.1)
abbrev aMq (F : Md) : List (FuncId × aJ) := [(187, (nA F))]
theorem aSp [Mx] (F : Md) : bJ Tryz.prog GL (aMq F) := .cons (aEE F) xAa (.nil)
attribute [go_sem] aMp aJU
theorem aRm [Mx] (F : Md) : FOK Tryz.prog GL 177 (aCg F) := by
 refine bT (aV (aSp F)) mix Tryz.func177 rfl xAa xAc aJU fun w0 S x Θ hw h hF => ?_
 obtain ⟨(a_0 : qd), u⟩ := x
 simp only [bX, go_sem]
 replace h : sat (fK F a_0) _ := h
 unfold fK at h
 refine cG hF (D := Int) [5, 6] (fun d => [(7, .val qe d)]) (fun d => []) h rfl xAb ?_
 rintro x7_10 A2 T2 hA2 hE2 h
 simp only [go_sem]
 replace h : sat (aC1 F a_0 x7_10) _ := h
 unfold aC1 at h
 refine fI h (fun hc h => ?_) fun hc h => ?_
 ·refine aR h fun g0 h => ?_
  refine eH h (fun hc h => ?_) fun hc h => ?_
  ·refine aR h fun g0 h => ?_
   obtain ⟨v_19, hv, h⟩ := aP h
   try simp only [hv, go_sem]
   refine aR h fun g0 h => ?_
   replace h := yaF (hE2 _ (aE h))
   exact zaF
  ·refine aR h fun g0 h => ?_
   replace h := hA2 _ (aE h)
   exact zaI
 ·replace h := yaF (hE2 _ (aE h))
  exact zaF
attribute [go_sem] aCg
def aC2 (F : Md) (a_0 : qd) : Option qd :=
 (jZ F a_0).bind (fun v_3 => ck (aWg v_3) (some (id v_3)))
def aMr : PlR := ⟨[(0, .A [0]), (1, .B [2])], []⟩
def aOK : Ty := .pair we .unit
def yD (F : Md) : aJ := mSpec aOK (.one we) (fun x => aC2 F x.1)
abbrev aI0 (F : Md) : List (FuncId × aJ) := [(135, dD), (141, (gO F))]
theorem aTh [Mx] (F : Md) : bJ Tryz.prog GL (aI0 F) := .cons nS xAa (.cons (uA F) xAa (.nil))
attribute [go_sem] aOK aMr
theorem aMs [Mx] (F : Md) : FOK Tryz.prog GL 146 (yD F) := by
 refine bT (aV (aTh F)) mix Tryz.func146 rfl xAa xAc aMr fun w0 S x Θ hw h hF => ?_
 obtain ⟨(a_0 : qd), u⟩ := x
 simp only [bX, go_sem]
 replace h : sat (aC2 F a_0) _ := h
 unfold aC2 at h
 obtain ⟨v_3, hv, h⟩ := aP h
 exact za1
attribute [go_sem] yD
def wE (F : Md) (x22_13 : Int) (out_14 : qd) (carry_12 : Nat) (x_21 : Nat) : Option ((Nat × Int × qd) ⊕ qd) :=
 ck (0 ≤ x22_13 ∧ x22_13 < (out_14.length : Int)) (ck (aRf (out_14.getD (x22_13.toNat) (0 : Nat)) x_21 carry_12) (ck (0 ≤ x22_13 ∧ x22_13 < (out_14.length : Int)) (ck (I64 (x22_13 + (1 : Int))) (some (.inl ((aFt (out_14.getD (x22_13.toNat) (0 : Nat)) x_21 carry_12).2.1, (x22_13 + (1 : Int)), (out_14.set (x22_13.toNat) (aFt (out_14.getD (x22_13.toNat) (0 : Nat)) x_21 carry_12).1)))))))
def aEd (F : Md) (a_3 : qd) (b_4 : qd) (carry_12 : Nat) (x22_13 : Int) (out_14 : qd) : Option ((Nat × Int × qd) ⊕ qd) :=
 if x22_13 < ((((id a_3) ++ ([0] : List Nat)).length : Nat) : Int) then if x22_13 < (b_4.length : Int) then ck (0 ≤ x22_13 ∧ x22_13 < (b_4.length : Int)) (wE F x22_13 out_14 carry_12 (b_4.getD (x22_13.toNat) (0 : Nat))) else if carry_12 = (0 : Nat) then some (.inr out_14) else wE F x22_13 out_14 carry_12 (0 : Nat) else some (.inr out_14)
def wF (F : Md) (a_3 : qd) (b_4 : qd) : Option qd :=
 ck (aWg a_3) (ck (((id a_3).length + (1 : Nat)) * 8 ≤ 140737488355328) ((eG F (fun d : Nat × Int × qd => aEd F a_3 b_4 d.1 d.2.1 d.2.2) ((0 : Nat), (0 : Int), ((id a_3) ++ ([0] : List Nat)))).bind (fun e => (jZ F e).bind (fun v_27 => some v_27))))
def aFz (F : Md) (a_0 : qd) (b_1 : qd) : Option qd :=
 if (a_0.length : Int) < (b_1.length : Int) then wF F b_1 a_0 else wF F a_0 b_1
def aMt : PlR := ⟨[(0, .A [0, 1]), (1, .A [0, 1, 13]), (2, .A [0, 1]), (3, .B [1, 5]), (4, .A [1, 5, 6]), (5, .A [1, 5, 6, 21, 22]), (6, .A [1, 5, 6, 21, 22, 23]), (7, .A [1, 5, 6, 7, 21, 22]), (8, .A [1, 5, 6, 7, 8, 21, 22]), (9, .A [1, 5, 6, 7, 8, 21, 22, 25]), (10, .A [1, 5, 6, 7, 8, 21, 22]), (11, .A [1, 5, 6, 7, 8, 21, 22, 34]), (12, .B [1, 5, 6, 21, 22]), (13, .A [1, 5, 6, 21, 22]), (14, .B [4])], [(4, 6), (12, 15)]⟩
def aON : Ty := .pair we (.pair we .unit)
def aDF (F : Md) : aJ := mSpec aON (.one we) (fun x => aFz F x.1 x.2.1)
abbrev aFA (F : Md) : List (FuncId × aJ) := [(135, dD), (141, (gO F)), (144, sX)]
theorem aTi [Mx] (F : Md) : bJ Tryz.prog GL (aFA F) := .cons nS xAa (.cons (uA F) xAa (.nat aIi (.nil)))
attribute [go_sem] aON aMt
theorem aSq [Mx] (F : Md) : FOK Tryz.prog GL 145 (aDF F) := by
 refine bT (aV (aTi F)) mix Tryz.func145 rfl xAa xAc aMt fun w0 S x Θ hw h hF => ?_
 obtain ⟨(a_0 : qd), (b_1 : qd), u⟩ := x
 simp only [bX, go_sem]
 replace h : sat (aFz F a_0 b_1) _ := h
 unfold aFz at h
 refine eY hF (D := qd × qd) (fun d => sat (wF F d.1 d.2) Θ) [] (fun d => [(0, .val we d.1), (1, .val we d.2)]) (fun d => []) ?_ ?_
 ·simp only [go_sem]
  refine fI h (fun hc h => ?_) fun hc h => ?_
  ·exact aZ (b_1, a_0) h rfl xAb
  ·exact aZ (a_0, b_1) h rfl xAb
 ·rintro ⟨a_3, b_4⟩ h
  simp only [go_sem]
  replace h : sat (wF F a_3 b_4) _ := h
  unfold wF at h
  refine aR h fun g0 h => ?_
  obtain ⟨g0, h⟩ := aS h
  repeat (refine ⟨by omega, ?_⟩)
  refine aJM [1] rfl rfl (yaA ?_)
  refine cG hF (D := Nat × Int × qd) [1, 21] (fun d => [(5, .own 0), (6, .val qx d.1), (22, .val qe d.2.1)]) (fun d => [.inr (.row 169 qx d.2.2)]) h rfl xAb ?_
  rintro ⟨carry_12, x22_13, out_14⟩ A6 T6 hA6 hE6 h
  simp only [go_sem]
  replace h : sat (aEd F a_3 b_4 carry_12 x22_13 out_14) _ := h
  unfold aEd at h
  refine fI h (fun hc h => ?_) fun hc h => ?_
  ·refine eY hF (D := Nat) (fun d => sat (wE F x22_13 out_14 carry_12 d) T6) [1, 6, 7, 21, 22] (fun d => [(5, .own 0), (8, .val qx d)]) (fun d => [.inr (.row 169 qx out_14)]) ?_ ?_
   ·simp only [go_sem]
    refine fI h (fun hc h => ?_) fun hc h => ?_
    ·obtain ⟨g0, h⟩ := aS h
     repeat (refine ⟨by omega, ?_⟩)
     exact aZ (b_4.getD (x22_13.toNat) (0 : Nat)) h rfl xAb
    ·refine eH h (fun hc h => ?_) fun hc h => ?_
     ·replace h := yaF (hE6 _ (aE h))
      obtain ⟨v_23, hv, h⟩ := aP h
      exact zaR
     ·exact aZ (0 : Nat) h rfl xAb
   ·rintro x_21 h
    simp only [go_sem]
    replace h : sat (wE F x22_13 out_14 carry_12 x_21) _ := h
    unfold wE at h
    obtain ⟨g0, h⟩ := aS h
    repeat (refine ⟨by omega, ?_⟩)
    obtain ⟨g0, h⟩ := aS h
    repeat (refine ⟨by omega, ?_⟩)
    obtain ⟨g0, h⟩ := aS h
    repeat (refine ⟨by omega, ?_⟩)
    refine aR h fun g0 h => ?_
    replace h := hA6 _ (aE h)
    exact zaI
  ·replace h := yaF (hE6 _ (aE h))
   obtain ⟨v_25, hv, h⟩ := aP h
   exact zaR
attribute [go_sem] aDF
def zF (F : Md) (x22_46 : Int) (b_1 : qd) (carry_86 : Nat) (out_87 : qd) : Option ((Int × qd) ⊕ qd) :=
 ck (I64 (x22_46 + (b_1.length : Int))) (ck (0 ≤ (x22_46 + (b_1.length : Int)) ∧ (x22_46 + (b_1.length : Int)) < (out_87.length : Int)) (ck (I64 (x22_46 + (1 : Int))) (some (.inl ((x22_46 + (1 : Int)), (out_87.set (x22_46 + (b_1.length : Int)).toNat carry_86))))))
def aC3 (F : Md) (b_1 : qd) (a_0 : qd) (x22_46 : Int) (carry_90 : Nat) (x29_91 : Int) (out_92 : qd) : Option ((Nat × Int × qd) ⊕ (Nat × qd)) :=
 if x29_91 < (b_1.length : Int) then ck (0 ≤ x29_91 ∧ x29_91 < (b_1.length : Int)) ((aCe F (a_0.getD (x22_46.toNat) (0 : Nat)) (b_1.getD (x29_91.toNat) (0 : Nat))).bind (fun v_105 => ck (aRf v_105.2.1 carry_90 (0 : Nat)) (ck (I64 (x22_46 + x29_91)) (ck (I64 (x22_46 + x29_91)) (ck (0 ≤ (x22_46 + x29_91) ∧ (x22_46 + x29_91) < (out_92.length : Int)) (ck (aRf (out_92.getD (x22_46 + x29_91).toNat (0 : Nat)) (aFt v_105.2.1 carry_90 (0 : Nat)).1 (0 : Nat)) (ck (0 ≤ (x22_46 + x29_91) ∧ (x22_46 + x29_91) < (out_92.length : Int)) (ck (I64 (x29_91 + (1 : Int))) (some (.inl (((((v_105.1 + (aFt v_105.2.1 carry_90 (0 : Nat)).2.1) % 18446744073709551616) + (aFt (out_92.getD (x22_46 + x29_91).toNat (0 : Nat)) (aFt v_105.2.1 carry_90 (0 : Nat)).1 (0 : Nat)).2.1) % 18446744073709551616), (x29_91 + (1 : Int)), (out_92.set (x22_46 + x29_91).toNat (aFt (out_92.getD (x22_46 + x29_91).toNat (0 : Nat)) (aFt v_105.2.1 carry_90 (0 : Nat)).1 (0 : Nat)).1)))))))))))) else some (.inr (carry_90, out_92))
def aC4 (F : Md) (a_0 : qd) (b_1 : qd) (x22_46 : Int) (out_47 : qd) : Option ((Int × qd) ⊕ qd) :=
 if x22_46 < (a_0.length : Int) then ck (0 ≤ x22_46 ∧ x22_46 < (a_0.length : Int)) ((eG F (fun d : Nat × Int × qd => aC3 F b_1 a_0 x22_46 d.1 d.2.1 d.2.2) ((0 : Nat), (0 : Int), out_47)).bind (fun e => zF F x22_46 b_1 e.1 e.2)) else some (.inr out_47)
def kG (F : Md) (a_0 : qd) (b_1 : qd) : Option qd :=
 ck (I64 ((a_0.length : Int) + (b_1.length : Int))) (ck (0 ≤ ((a_0.length : Int) + (b_1.length : Int))) (ck ((8 : Int) * ((a_0.length : Int) + (b_1.length : Int)) ≤ 281474976710656) ((eG F (fun d : Int × qd => aC4 F a_0 b_1 d.1 d.2) ((0 : Int), (List.replicate ((a_0.length : Int) + (b_1.length : Int)).toNat (0 : Nat)))).bind (fun e => (jZ F e).bind (fun v_109 => some v_109)))))
def aJV : PlR := ⟨[(0, .A [0, 1]), (1, .B [0, 1, 5]), (2, .A [1, 5, 20, 21, 22]), (3, .A [1, 5, 20, 21, 22, 23]), (4, .A [1, 5, 6, 7, 20, 21, 22]), (5, .A [1, 5, 6, 7, 8, 20, 21, 22]), (6, .A [1, 5, 6, 7, 8, 20, 21, 22, 27, 28, 29]), (7, .A [1, 5, 6, 7, 8, 20, 21, 22, 27, 28, 29, 30]), (8, .A [1, 5, 6, 7, 8, 9, 10, 20, 21, 22, 27, 28, 29]), (9, .A [1, 5, 6, 7, 8, 9, 11, 12, 20, 21, 22, 27, 28, 29]), (10, .A [1, 5, 6, 7, 8, 9, 11, 12, 20, 21, 22, 27, 28, 29]), (11, .A [1, 5, 6, 7, 9, 11, 12, 13, 20, 21, 22, 27, 28, 29]), (12, .A [1, 5, 6, 7, 9, 11, 12, 20, 21, 22, 27, 28, 29]), (13, .B [1, 5, 6, 7, 11, 13, 20, 21, 22, 27, 28, 29]), (14, .A [1, 5, 6, 7, 8, 20, 21, 22, 27, 28, 29]), (15, .A [1, 5, 6, 7, 8, 20, 21, 22, 27, 28, 29]), (16, .B [1, 5, 20, 21, 22]), (17, .A [1, 5, 20, 21, 22]), (18, .B [4])], [(9, 19)]⟩
def aMu : Ty := .pair we (.pair we .unit)
def gW (F : Md) : aJ := mSpec aMu (.one we) (fun x => kG F x.1 x.2.1)
abbrev aDG (F : Md) : List (FuncId × aJ) := [(141, (gO F)), (143, (aAV F)), (144, sX)]
theorem aSr [Mx] (F : Md) : bJ Tryz.prog GL (aDG F) := .cons (uA F) xAa (.cons (aPM F) xAa (.nat aIi (.nil)))
attribute [go_sem] aMu aJV
theorem uR [Mx] (F : Md) : FOK Tryz.prog GL 104 (gW F) := by
 refine bT (aV (aSr F)) mix Tryz.func104 rfl xAa xAc aJV fun w0 S x Θ hw h hF => ?_
 obtain ⟨(a_0 : qd), (b_1 : qd), u⟩ := x
 simp only [bX, go_sem]
 replace h : sat (kG F a_0 b_1) _ := h
 unfold kG at h
 obtain ⟨g0, h⟩ := aS h
 repeat (refine ⟨by omega, ?_⟩)
 obtain ⟨g0, h⟩ := aS h
 obtain ⟨g1, h⟩ := aS h
 repeat (refine ⟨by omega, ?_⟩)
 refine cG hF (D := Int × qd) [1, 20, 21] (fun d => [(5, .own 0), (22, .val qe d.1)]) (fun d => [.inr (.row 169 qx d.2)]) h rfl xAb ?_
 rintro ⟨x22_46, out_47⟩ A3 T3 hA3 hE3 h
 simp only [go_sem]
 replace h : sat (aC4 F a_0 b_1 x22_46 out_47) _ := h
 unfold aC4 at h
 refine fI h (fun hc h => ?_) fun hc h => ?_
 ·obtain ⟨g0, h⟩ := aS h
  repeat (refine ⟨by omega, ?_⟩)
  refine eY hF (D := Nat × qd) (fun d => sat (zF F x22_46 b_1 d.1 d.2) T3) [1, 6, 20, 21, 22] (fun d => [(5, .own 0), (8, .val qx d.1)]) (fun d => [.inr (.row 169 qx d.2)]) ?_ ?_
  ·simp only [go_sem]
   refine cG hF (D := Nat × Int × qd) [1, 6, 7, 20, 21, 22, 27, 28] (fun d => [(5, .own 0), (8, .val qx d.1), (29, .val qe d.2.1)]) (fun d => [.inr (.row 169 qx d.2.2)]) h rfl xAb ?_
   rintro ⟨carry_90, x29_91, out_92⟩ A7 T7 hA7 hE7 h
   simp only [go_sem]
   replace h : sat (aC3 F b_1 a_0 x22_46 carry_90 x29_91 out_92) _ := h
   unfold aC3 at h
   refine fI h (fun hc h => ?_) fun hc h => ?_
   ·obtain ⟨g0, h⟩ := aS h
    repeat (refine ⟨by omega, ?_⟩)
    obtain ⟨v_105, hv, h⟩ := aP h
    try simp only [hv, go_sem]
    obtain ⟨g0, h⟩ := aS h
    repeat (refine ⟨by omega, ?_⟩)
    obtain ⟨g0, h⟩ := aS h
    repeat (refine ⟨by omega, ?_⟩)
    obtain ⟨g0, h⟩ := aS h
    repeat (refine ⟨by omega, ?_⟩)
    obtain ⟨g0, h⟩ := aS h
    repeat (refine ⟨by omega, ?_⟩)
    obtain ⟨g0, h⟩ := aS h
    repeat (refine ⟨by omega, ?_⟩)
    obtain ⟨g0, h⟩ := aS h
    repeat (refine ⟨by omega, ?_⟩)
    obtain ⟨g0, h⟩ := aS h
    repeat (refine ⟨by omega, ?_⟩)
    replace h := hA7 _ (aE h)
    exact zaI
   ·replace h := yaF (hE7 _ (aE h))
    exact aZ (carry_90, out_92) h rfl xAb
  ·rintro ⟨carry_86, out_87⟩ h
   simp only [go_sem]
   replace h : sat (zF F x22_46 b_1 carry_86 out_87) _ := h
   unfold zF at h
   obtain ⟨g0, h⟩ := aS h
   repeat (refine ⟨by omega, ?_⟩)
   obtain ⟨g0, h⟩ := aS h
   repeat (refine ⟨by omega, ?_⟩)
   obtain ⟨g0, h⟩ := aS h
   try simp only [I64, I32] at g0
   repeat (refine ⟨zAA, ?_⟩)
   replace h := hA3 _ (aE h)
   exact zaI
 ·replace h := yaF (hE3 _ (aE h))
  obtain ⟨v_107, hv, h⟩ := aP h
  exact zaR
attribute [go_sem] gW
def aEe (F : Md) (a_0 : qd) (n_1 : Int) (x20_7 : Int) (out_8 : qd) : Option ((Int × qd) ⊕ qd) :=
 if x20_7 < (a_0.length : Int) then ck (0 ≤ x20_7 ∧ x20_7 < (a_0.length : Int)) (ck (I64 (Int.tdiv n_1 (64 : Int))) (ck (I64 ((Int.tdiv n_1 (64 : Int)) + x20_7)) (ck (0 ≤ ((Int.tdiv n_1 (64 : Int)) + x20_7) ∧ ((Int.tdiv n_1 (64 : Int)) + x20_7) < (out_8.length : Int)) (ck (0 ≤ ((Int.tdiv n_1 (64 : Int)) + x20_7) ∧ ((Int.tdiv n_1 (64 : Int)) + x20_7) < (out_8.length : Int)) (ck (I64 (Int.tdiv n_1 (64 : Int))) (ck (I64 ((Int.tdiv n_1 (64 : Int)) + x20_7)) (ck (I64 (((Int.tdiv n_1 (64 : Int)) + x20_7) + (1 : Int))) (ck (0 ≤ (((Int.tdiv n_1 (64 : Int)) + x20_7) + (1 : Int)) ∧ (((Int.tdiv n_1 (64 : Int)) + x20_7) + (1 : Int)) < (((out_8.set ((Int.tdiv n_1 (64 : Int)) + x20_7).toNat ((out_8.getD ((Int.tdiv n_1 (64 : Int)) + x20_7).toNat (0 : Nat)) ||| (((a_0.getD (x20_7.toNat) (0 : Nat)) * (2 ^ ((Int.tmod n_1 (64 : Int)) % (18446744073709551616 : Int)).toNat)) % 18446744073709551616))).length : Nat) : Int)) (ck (I64 ((63 : Int) - (Int.tmod n_1 (64 : Int)))) (ck (0 ≤ (((Int.tdiv n_1 (64 : Int)) + x20_7) + (1 : Int)) ∧ (((Int.tdiv n_1 (64 : Int)) + x20_7) + (1 : Int)) < (((out_8.set ((Int.tdiv n_1 (64 : Int)) + x20_7).toNat ((out_8.getD ((Int.tdiv n_1 (64 : Int)) + x20_7).toNat (0 : Nat)) ||| (((a_0.getD (x20_7.toNat) (0 : Nat)) * (2 ^ ((Int.tmod n_1 (64 : Int)) % (18446744073709551616 : Int)).toNat)) % 18446744073709551616))).length : Nat) : Int)) (ck (I64 (x20_7 + (1 : Int))) (some (.inl ((x20_7 + (1 : Int)), ((out_8.set ((Int.tdiv n_1 (64 : Int)) + x20_7).toNat ((out_8.getD ((Int.tdiv n_1 (64 : Int)) + x20_7).toNat (0 : Nat)) ||| (((a_0.getD (x20_7.toNat) (0 : Nat)) * (2 ^ ((Int.tmod n_1 (64 : Int)) % (18446744073709551616 : Int)).toNat)) % 18446744073709551616))).set (((Int.tdiv n_1 (64 : Int)) + x20_7) + (1 : Int)).toNat (((out_8.set ((Int.tdiv n_1 (64 : Int)) + x20_7).toNat ((out_8.getD ((Int.tdiv n_1 (64 : Int)) + x20_7).toNat (0 : Nat)) ||| (((a_0.getD (x20_7.toNat) (0 : Nat)) * (2 ^ ((Int.tmod n_1 (64 : Int)) % (18446744073709551616 : Int)).toNat)) % 18446744073709551616))).getD (((Int.tdiv n_1 (64 : Int)) + x20_7) + (1 : Int)).toNat (0 : Nat)) ||| (((a_0.getD (x20_7.toNat) (0 : Nat)) / (2 : Nat)) / (2 ^ (((63 : Int) - (Int.tmod n_1 (64 : Int))) % (18446744073709551616 : Int)).toNat)))))))))))))))))) else some (.inr out_8)
def lY (F : Md) (a_0 : qd) (n_1 : Int) : Option qd :=
 if (a_0.length : Int) = (0 : Int) then some ([] : List Nat) else ck (I64 (Int.tdiv n_1 (64 : Int))) (ck (I64 ((Int.tdiv n_1 (64 : Int)) + (a_0.length : Int))) (ck (I64 (((Int.tdiv n_1 (64 : Int)) + (a_0.length : Int)) + (1 : Int))) (ck (0 ≤ (((Int.tdiv n_1 (64 : Int)) + (a_0.length : Int)) + (1 : Int))) (ck ((8 : Int) * (((Int.tdiv n_1 (64 : Int)) + (a_0.length : Int)) + (1 : Int)) ≤ 281474976710656) ((eG F (fun d : Int × qd => aEe F a_0 n_1 d.1 d.2) ((0 : Int), (List.replicate (((Int.tdiv n_1 (64 : Int)) + (a_0.length : Int)) + (1 : Int)).toNat (0 : Nat)))).bind (fun e => (jZ F e).bind (fun v_15 => some v_15)))))))
def aMv : PlR := ⟨[(0, .A [0, 1]), (1, .A [0, 1, 10]), (2, .A [4]), (3, .B [0, 1, 5]), (4, .A [1, 5, 18, 19, 20]), (5, .A [1, 5, 18, 19, 20, 21]), (6, .A [1, 5, 6, 7, 18, 19, 20]), (7, .B [1, 5, 6, 7, 18, 19, 20]), (8, .B [1, 5, 18, 19, 20]), (9, .A [1, 5, 18, 19, 20]), (10, .B [4])], []⟩
def aOR : Ty := .pair we q9
def yE (F : Md) : aJ := mSpec aOR (.one we) (fun x => lY F x.1 x.2.1)
abbrev aOS (F : Md) : List (FuncId × aJ) := [(141, (gO F))]
theorem aTj [Mx] (F : Md) : bJ Tryz.prog GL (aOS F) := .cons (uA F) xAa (.nil)
attribute [go_sem] aOR aMv
theorem aMw [Mx] (F : Md) : FOK Tryz.prog GL 139 (yE F) := by
 refine bT (aV (aTj F)) mix Tryz.func139 rfl xAa xAc aMv fun w0 S x Θ hw h hF => ?_
 obtain ⟨(a_0 : qd), (n_1 : Int), u⟩ := x
 simp only [bX, go_sem]
 replace h : sat (lY F a_0 n_1) _ := h
 unfold lY at h
 refine eH h (fun hc h => ?_) fun hc h => ?_
 ·exact aL hF [.tmp 4] rfl rfl rfl (aE h) xAd
 ·obtain ⟨g0, h⟩ := aS h
  try simp only [I64, I32] at g0
  repeat (refine ⟨zAA, ?_⟩)
  obtain ⟨g0, h⟩ := aS h
  try simp only [I64, I32] at g0
  repeat (refine ⟨zAA, ?_⟩)
  obtain ⟨g0, h⟩ := aS h
  try simp only [I64, I32] at g0
  repeat (refine ⟨zAA, ?_⟩)
  obtain ⟨g0, h⟩ := aS h
  obtain ⟨g1, h⟩ := aS h
  repeat (refine ⟨zAA, ?_⟩)
  refine cG hF (D := Int × qd) [1, 18, 19] (fun d => [(5, .own 0), (20, .val qe d.1)]) (fun d => [.inr (.row 169 qx d.2)]) h rfl xAb ?_
  rintro ⟨x20_7, out_8⟩ A5 T5 hA5 hE5 h
  simp only [go_sem]
  replace h : sat (aEe F a_0 n_1 x20_7 out_8) _ := h
  unfold aEe at h
  refine fI h (fun hc h => ?_) fun hc h => ?_
  ·obtain ⟨g0, h⟩ := aS h
   repeat (refine ⟨zAA, ?_⟩)
   obtain ⟨g0, h⟩ := aS h
   try simp only [I64, I32] at g0
   repeat (refine ⟨zAA, ?_⟩)
   obtain ⟨g0, h⟩ := aS h
   try simp only [I64, I32] at g0
   repeat (refine ⟨zAA, ?_⟩)
   obtain ⟨g0, h⟩ := aS h
   repeat (refine ⟨zAA, ?_⟩)
   obtain ⟨g0, h⟩ := aS h
   repeat (refine ⟨zAA, ?_⟩)
   obtain ⟨g0, h⟩ := aS h
   try simp only [I64, I32] at g0
   repeat (refine ⟨zAA, ?_⟩)
   obtain ⟨g0, h⟩ := aS h
   try simp only [I64, I32] at g0
   repeat (refine ⟨zAA, ?_⟩)
   obtain ⟨g0, h⟩ := aS h
   try simp only [I64, I32] at g0
   repeat (refine ⟨zAA, ?_⟩)
   obtain ⟨g0, h⟩ := aS h
   repeat (refine ⟨zAA, ?_⟩)
   obtain ⟨g0, h⟩ := aS h
   try simp only [I64, I32] at g0
   repeat (refine ⟨zAA, ?_⟩)
   obtain ⟨g0, h⟩ := aS h
   repeat (refine ⟨zAA, ?_⟩)
   obtain ⟨g0, h⟩ := aS h
   try simp only [I64, I32] at g0
   repeat (refine ⟨zAA, ?_⟩)
   replace h := hA5 _ (aE h)
   exact zaw
  ·replace h := yaF (hE5 _ (aE h))
   obtain ⟨v_13, hv, h⟩ := aP h
   exact zaR
attribute [go_sem] yE
def aC5 (F : Md) (n_1 : Int) (a_0 : qd) (x22_10 : Int) (out_11 : qd) : Option ((Int × qd) ⊕ qd) :=
 if x22_10 < (((List.drop (Int.tdiv n_1 (64 : Int)).toNat a_0).length : Nat) : Int) then ck (0 ≤ x22_10 ∧ x22_10 < (((List.drop (Int.tdiv n_1 (64 : Int)).toNat a_0).length : Nat) : Int)) (ck (0 ≤ x22_10 ∧ x22_10 < (out_11.length : Int)) (ck (I64 (x22_10 + (1 : Int))) (if (x22_10 + (1 : Int)) < (((List.drop (Int.tdiv n_1 (64 : Int)).toNat a_0).length : Nat) : Int) then ck (0 ≤ x22_10 ∧ x22_10 < (((out_11.set (x22_10.toNat) (((List.drop (Int.tdiv n_1 (64 : Int)).toNat a_0).getD (x22_10.toNat) (0 : Nat)) / (2 ^ ((Int.tmod n_1 (64 : Int)) % (18446744073709551616 : Int)).toNat))).length : Nat) : Int)) (ck (I64 (x22_10 + (1 : Int))) (ck (0 ≤ (x22_10 + (1 : Int)) ∧ (x22_10 + (1 : Int)) < (((List.drop (Int.tdiv n_1 (64 : Int)).toNat a_0).length : Nat) : Int)) (ck (I64 ((63 : Int) - (Int.tmod n_1 (64 : Int)))) (ck (0 ≤ x22_10 ∧ x22_10 < (((out_11.set (x22_10.toNat) (((List.drop (Int.tdiv n_1 (64 : Int)).toNat a_0).getD (x22_10.toNat) (0 : Nat)) / (2 ^ ((Int.tmod n_1 (64 : Int)) % (18446744073709551616 : Int)).toNat))).length : Nat) : Int)) (ck (I64 (x22_10 + (1 : Int))) (some (.inl ((x22_10 + (1 : Int)), ((out_11.set (x22_10.toNat) (((List.drop (Int.tdiv n_1 (64 : Int)).toNat a_0).getD (x22_10.toNat) (0 : Nat)) / (2 ^ ((Int.tmod n_1 (64 : Int)) % (18446744073709551616 : Int)).toNat))).set (x22_10.toNat) (((out_11.set (x22_10.toNat) (((List.drop (Int.tdiv n_1 (64 : Int)).toNat a_0).getD (x22_10.toNat) (0 : Nat)) / (2 ^ ((Int.tmod n_1 (64 : Int)) % (18446744073709551616 : Int)).toNat))).getD (x22_10.toNat) (0 : Nat)) ||| ((((((List.drop (Int.tdiv n_1 (64 : Int)).toNat a_0).getD (x22_10 + (1 : Int)).toNat (0 : Nat)) * (2 : Nat)) % 18446744073709551616) * (2 ^ (((63 : Int) - (Int.tmod n_1 (64 : Int))) % (18446744073709551616 : Int)).toNat)) % 18446744073709551616))))))))))) else ck (I64 (x22_10 + (1 : Int))) (some (.inl ((x22_10 + (1 : Int)), (out_11.set (x22_10.toNat) (((List.drop (Int.tdiv n_1 (64 : Int)).toNat a_0).getD (x22_10.toNat) (0 : Nat)) / (2 ^ ((Int.tmod n_1 (64 : Int)) % (18446744073709551616 : Int)).toNat))))))))) else some (.inr out_11)
def oJ (F : Md) (a_0 : qd) (n_1 : Int) : Option qd :=
 ck (I64 (Int.tdiv n_1 (64 : Int))) (if (a_0.length : Int) ≤ (Int.tdiv n_1 (64 : Int)) then some ([] : List Nat) else ck (I64 (Int.tdiv n_1 (64 : Int))) (ck (0 ≤ (Int.tdiv n_1 (64 : Int)) ∧ (Int.tdiv n_1 (64 : Int)) ≤ (a_0.length : Int)) (ck (0 ≤ (((List.drop (Int.tdiv n_1 (64 : Int)).toNat a_0).length : Nat) : Int)) (ck ((8 : Int) * (((List.drop (Int.tdiv n_1 (64 : Int)).toNat a_0).length : Nat) : Int) ≤ 281474976710656) ((eG F (fun d : Int × qd => aC5 F n_1 a_0 d.1 d.2) ((0 : Int), (List.replicate (List.drop (Int.tdiv n_1 (64 : Int)).toNat a_0).length (0 : Nat)))).bind (fun e => (jZ F e).bind (fun v_19 => some v_19)))))))
def aJW : PlR := ⟨[(0, .A [0, 1]), (1, .A [0, 1, 12]), (2, .A [4]), (3, .A [0, 1]), (4, .B [0, 1, 5]), (5, .A [0, 1, 5, 20, 21, 22]), (6, .A [0, 1, 5, 20, 21, 22, 23]), (7, .A [0, 1, 5, 6, 7, 20, 21, 22]), (8, .B [0, 1, 5, 6, 20, 21, 22]), (9, .A [0, 1, 5, 6, 20, 21, 22, 39]), (10, .C 17 [0, 1, 5, 20, 21, 22]), (11, .A [0, 1, 5, 20, 21, 22]), (12, .B [4])], []⟩
def aMx : Ty := .pair we q9
def uS (F : Md) : aJ := mSpec aMx (.one we) (fun x => oJ F x.1 x.2.1)
abbrev aMy (F : Md) : List (FuncId × aJ) := [(141, (gO F))]
theorem aSs [Mx] (F : Md) : bJ Tryz.prog GL (aMy F) := .cons (uA F) xAa (.nil)
attribute [go_sem] aMx aJW
theorem aJX [Mx] (F : Md) : FOK Tryz.prog GL 142 (uS F) := by
 refine bT (aV (aSs F)) mix Tryz.func142 rfl xAa xAc aJW fun w0 S x Θ hw h hF => ?_
 obtain ⟨(a_0 : qd), (n_1 : Int), u⟩ := x
 simp only [bX, go_sem]
 replace h : sat (oJ F a_0 n_1) _ := h
 unfold oJ at h
 obtain ⟨g0, h⟩ := aS h
 try simp only [I64, I32] at g0
 repeat (refine ⟨zAA, ?_⟩)
 refine aS6 h (fun hc h => ?_) fun hc h => ?_
 ·exact aL hF [.tmp 4] rfl rfl rfl (aE h) xAd
 ·obtain ⟨g0, h⟩ := aS h
  obtain ⟨g1, h⟩ := aS h
  try simp only [I64, I32] at g0
  repeat (refine ⟨zAA, ?_⟩)
  obtain ⟨g0, h⟩ := aS h
  obtain ⟨g1, h⟩ := aS h
  repeat (refine ⟨zAA, ?_⟩)
  refine cG hF (D := Int × qd) [0, 1, 20, 21] (fun d => [(5, .own 0), (22, .val qe d.1)]) (fun d => [.inr (.row 169 qx d.2)]) h rfl xAb ?_
  rintro ⟨x22_10, out_11⟩ A6 T6 hA6 hE6 h
  simp only [go_sem]
  replace h : sat (aC5 F n_1 a_0 x22_10 out_11) _ := h
  unfold aC5 at h
  refine fI h (fun hc h => ?_) fun hc h => ?_
  ·obtain ⟨g0, h⟩ := aS h
   repeat (refine ⟨zAA, ?_⟩)
   obtain ⟨g0, h⟩ := aS h
   repeat (refine ⟨zAA, ?_⟩)
   obtain ⟨g0, h⟩ := aS h
   try simp only [I64, I32] at g0
   repeat (refine ⟨zAA, ?_⟩)
   refine ⟨fun hc => ?_, fun hc => ?_⟩
   ·replace h := jG hc h
    obtain ⟨g0, h⟩ := aS h
    obtain ⟨g1, h⟩ := aS h
    obtain ⟨g2, h⟩ := aS h
    obtain ⟨g3, h⟩ := aS h
    obtain ⟨g4, h⟩ := aS h
    try simp only [I64, I32] at g1
    try simp only [I64, I32] at g3
    repeat (refine ⟨zAA, ?_⟩)
    obtain ⟨g0, h⟩ := aS h
    try simp only [I64, I32] at g0
    repeat (refine ⟨zAA, ?_⟩)
    replace h := hA6 _ (aE h)
    exact zaw
   ·replace h := jH (by first | exact hc | omega) h
    obtain ⟨g0, h⟩ := aS h
    try simp only [I64, I32] at g0
    repeat (refine ⟨zAA, ?_⟩)
    replace h := hA6 _ (aE h)
    exact zaI
  ·replace h := yaF (hE6 _ (aE h))
   obtain ⟨v_17, hv, h⟩ := aP h
   exact zaR
attribute [go_sem] uS
def zG (F : Md) (rest_11 : Nat) (q_12 : qd) : Option qv :=
 (jZ F q_12).bind (fun v_15 => (jZ F ([rest_11] : List Nat)).bind (fun v_16 => some (v_15, v_16, ())))
def aC6 (F : Md) (a_0 : qd) (b_1 : Nat) (rest_18 : Nat) (i_19 : Int) (q_20 : qd) : Option ((Nat × Int × qd) ⊕ (Nat × qd)) :=
 if (0 : Int) ≤ i_19 then ck (0 ≤ i_19 ∧ i_19 < (a_0.length : Int)) ((aCf F rest_18 (a_0.getD (i_19.toNat) (0 : Nat)) b_1).bind (fun v_28 => ck (0 ≤ i_19 ∧ i_19 < (q_20.length : Int)) (ck (I64 (i_19 - (1 : Int))) (some (.inl (v_28.2.1, (i_19 - (1 : Int)), (q_20.set (i_19.toNat) v_28.1))))))) else some (.inr (rest_18, q_20))
def yF (F : Md) (a_0 : qd) (b_1 : Nat) : Option qv :=
 ck (0 ≤ (a_0.length : Int)) (ck ((8 : Int) * (a_0.length : Int) ≤ 281474976710656) (ck (I64 ((a_0.length : Int) - (1 : Int))) ((eG F (fun d : Nat × Int × qd => aC6 F a_0 b_1 d.1 d.2.1 d.2.2) ((0 : Nat), ((a_0.length : Int) - (1 : Int)), (List.replicate (a_0.length) (0 : Nat)))).bind (fun e => zG F e.1 e.2))))
def aJY : PlR := ⟨[(0, .A [0, 1]), (1, .B [0, 1, 6]), (2, .A [0, 1, 6, 7]), (3, .A [0, 1, 6, 7, 8]), (4, .A [0, 1, 6, 7, 8, 16]), (5, .A [0, 1, 6, 7, 8]), (6, .B [0, 1, 6, 7, 8]), (7, .B [4, 5])], [(6, 10)]⟩
def aMz : Ty := .pair we (.pair qx .unit)
def aCh (F : Md) : aJ := mSpec aMz (.tup (.pair we (.pair we .unit))) (fun x => yF F x.1 x.2.1)
abbrev aG7 (F : Md) : List (FuncId × aJ) := [(141, (gO F)), (173, (aAW F))]
theorem aSt [Mx] (F : Md) : bJ Tryz.prog GL (aG7 F) := .cons (uA F) xAa (.cons (aPN F) xAa (.nil))
attribute [go_sem] aMz aJY
theorem aRn [Mx] (F : Md) : FOK Tryz.prog GL 136 (aCh F) := by
 refine bT (aV (aSt F)) mix Tryz.func136 rfl xAa xAc aJY fun w0 S x Θ hw h hF => ?_
 obtain ⟨(a_0 : qd), (b_1 : Nat), u⟩ := x
 simp only [bX, go_sem]
 replace h : sat (yF F a_0 b_1) _ := h
 unfold yF at h
 obtain ⟨g0, h⟩ := aS h
 obtain ⟨g1, h⟩ := aS h
 repeat (refine ⟨by omega, ?_⟩)
 refine eY hF (D := Nat × qd) (fun d => sat (zG F d.1 d.2) Θ) [] (fun d => [(6, .own 0), (7, .val qx d.1)]) (fun d => [.inr (.row 169 qx d.2)]) ?_ ?_
 ·simp only [go_sem]
  obtain ⟨g0, h⟩ := aS h
  repeat (refine ⟨by omega, ?_⟩)
  refine cG hF (D := Nat × Int × qd) [0, 1] (fun d => [(6, .own 0), (7, .val qx d.1), (8, .val qe d.2.1)]) (fun d => [.inr (.row 169 qx d.2.2)]) h rfl xAb ?_
  rintro ⟨rest_18, i_19, q_20⟩ A4 T4 hA4 hE4 h
  simp only [go_sem]
  replace h : sat (aC6 F a_0 b_1 rest_18 i_19 q_20) _ := h
  unfold aC6 at h
  refine aS6 h (fun hc h => ?_) fun hc h => ?_
  ·obtain ⟨g0, h⟩ := aS h
   repeat (refine ⟨by omega, ?_⟩)
   obtain ⟨v_28, hv, h⟩ := aP h
   try simp only [hv, go_sem]
   obtain ⟨g0, h⟩ := aS h
   repeat (refine ⟨by omega, ?_⟩)
   obtain ⟨g0, h⟩ := aS h
   repeat (refine ⟨by omega, ?_⟩)
   replace h := hA4 _ (aE h)
   exact zaI
  ·replace h := yaF (hE4 _ (aE h))
   exact aZ (rest_18, q_20) h rfl xAb
 ·rintro ⟨rest_11, q_12⟩ h
  simp only [go_sem]
  replace h : sat (zG F rest_11 q_12) _ := h
  unfold zG at h
  obtain ⟨v_15, hv, h⟩ := aP h
  try simp only [hv, go_sem]
  obtain ⟨v_16, hv, h⟩ := aP h
  try simp only [hv, go_sem]
  exact aL hF [.tmp 4, .tmp 5] rfl rfl rfl (aE h) xAd
attribute [go_sem] aCh
def nU (F : Md) (a_0 : qd) (n_1 : Int) : Option qd :=
 ck (aWg a_0) (ck (I64 (n_1 - (a_0.length : Int))) (ck (0 ≤ (n_1 - (a_0.length : Int))) (ck (((id a_0).length + (n_1 - (a_0.length : Int)).toNat) * 8 ≤ 140737488355328) (some ((id a_0) ++ (List.replicate (n_1 - (a_0.length : Int)).toNat (0 : Nat)))))))
def aIm : PlR := ⟨[(0, .A [0, 1]), (1, .B [4])], []⟩
def aJZ : Ty := .pair we q9
def aAX (F : Md) : aJ := mSpec aJZ (.one we) (fun x => nU F x.1 x.2.1)
abbrev aJ0 (F : Md) : List (FuncId × aJ) := [(135, dD)]
theorem aRo [Mx] (F : Md) : bJ Tryz.prog GL (aJ0 F) := .cons nS xAa (.nil)
attribute [go_sem] aJZ aIm
theorem aPO [Mx] (F : Md) : FOK Tryz.prog GL 138 (aAX F) := by
 refine bT (aV (aRo F)) mix Tryz.func138 rfl xAa xAc aIm fun w0 S x Θ hw h hF => ?_
 obtain ⟨(a_0 : qd), (n_1 : Int), u⟩ := x
 simp only [bX, go_sem]
 replace h : sat (nU F a_0 n_1) _ := h
 unfold nU at h
 refine aR h fun g0 h => ?_
 refine aR h fun g0 h => ?_
 obtain ⟨g0, h⟩ := aS h
 obtain ⟨g1, h⟩ := aS h
 repeat (refine ⟨by omega, ?_⟩)
 exact zaD
attribute [go_sem] aAX
def aBA (F : Md) (a_0 : qd) (b_1 : qd) : Option qv :=
 ck ((jZ F (List.replicate (((a_0.length : Int) - (b_1.length : Int)) + (1 : Int)).toNat (0 : Nat))).isSome = true) (ck (0 ≤ (b_1.length : Int) ∧ (b_1.length : Int) ≤ ((((nU F ((lY F a_0 ((cB F (b_1.getD ((b_1.length : Int) - (1 : Int)).toNat (0 : Nat))).getD (0 : Int))).getD ([] : List Nat)) ((a_0.length : Int) + (1 : Int))).getD ([] : List Nat)).length : Nat) : Int)) (ck ((jZ F (List.take (b_1.length) ((nU F ((lY F a_0 ((cB F (b_1.getD ((b_1.length : Int) - (1 : Int)).toNat (0 : Nat))).getD (0 : Int))).getD ([] : List Nat)) ((a_0.length : Int) + (1 : Int))).getD ([] : List Nat)))).isSome = true) (ck ((oJ F ((jZ F (List.take (b_1.length) ((nU F ((lY F a_0 ((cB F (b_1.getD ((b_1.length : Int) - (1 : Int)).toNat (0 : Nat))).getD (0 : Int))).getD ([] : List Nat)) ((a_0.length : Int) + (1 : Int))).getD ([] : List Nat)))).getD ([] : List Nat)) ((cB F (b_1.getD ((b_1.length : Int) - (1 : Int)).toNat (0 : Nat))).getD (0 : Int))).isSome = true) (some (((jZ F (List.replicate (((a_0.length : Int) - (b_1.length : Int)) + (1 : Int)).toNat (0 : Nat))).getD ([] : List Nat)), ((oJ F ((jZ F (List.take (b_1.length) ((nU F ((lY F a_0 ((cB F (b_1.getD ((b_1.length : Int) - (1 : Int)).toNat (0 : Nat))).getD (0 : Int))).getD ([] : List Nat)) ((a_0.length : Int) + (1 : Int))).getD ([] : List Nat)))).getD ([] : List Nat)) ((cB F (b_1.getD ((b_1.length : Int) - (1 : Int)).toNat (0 : Nat))).getD (0 : Int))).getD ([] : List Nat)), ())))))
def aF8 (F : Md) (a_0 : qd) (b_1 : qd) : Option ((Unit) ⊕ (Unit)) :=
 if (0 : Int) ≤ ((a_0.length : Int) - (b_1.length : Int)) then none else some (.inr ())
def aCi (F : Md) (a_0 : qd) (b_1 : qd) : Option qv :=
 ck ((uB F a_0 b_1).isSome = true) (if ((uB F a_0 b_1).getD (0 : Int)) < (0 : Int) then ck (aWg a_0) (some (([] : List Nat), (id a_0), ())) else if (b_1.length : Int) = (1 : Int) then ck ((0 : Int) < (b_1.length : Int)) (ck ((yF F a_0 (b_1.getD (0 : Nat) (0 : Nat))).isSome = true) (some (((yF F a_0 (b_1.getD (0 : Nat) (0 : Nat))).getD (([] : List Nat), ([] : List Nat), ())).1, ((yF F a_0 (b_1.getD (0 : Nat) (0 : Nat))).getD (([] : List Nat), ([] : List Nat), ())).2.1, ()))) else ck (I64 ((b_1.length : Int) - (1 : Int))) (ck (0 ≤ ((b_1.length : Int) - (1 : Int)) ∧ ((b_1.length : Int) - (1 : Int)) < (b_1.length : Int)) (ck ((cB F (b_1.getD ((b_1.length : Int) - (1 : Int)).toNat (0 : Nat))).isSome = true) (ck ((lY F b_1 ((cB F (b_1.getD ((b_1.length : Int) - (1 : Int)).toNat (0 : Nat))).getD (0 : Int))).isSome = true) (ck ((nU F ((lY F b_1 ((cB F (b_1.getD ((b_1.length : Int) - (1 : Int)).toNat (0 : Nat))).getD (0 : Int))).getD ([] : List Nat)) (b_1.length : Int)).isSome = true) (ck ((lY F a_0 ((cB F (b_1.getD ((b_1.length : Int) - (1 : Int)).toNat (0 : Nat))).getD (0 : Int))).isSome = true) (ck (I64 ((a_0.length : Int) + (1 : Int))) (ck ((nU F ((lY F a_0 ((cB F (b_1.getD ((b_1.length : Int) - (1 : Int)).toNat (0 : Nat))).getD (0 : Int))).getD ([] : List Nat)) ((a_0.length : Int) + (1 : Int))).isSome = true) (ck (I64 ((a_0.length : Int) - (b_1.length : Int))) (ck (I64 (((a_0.length : Int) - (b_1.length : Int)) + (1 : Int))) (ck (0 ≤ (((a_0.length : Int) - (b_1.length : Int)) + (1 : Int))) (ck ((8 : Int) * (((a_0.length : Int) - (b_1.length : Int)) + (1 : Int)) ≤ 281474976710656) (ck (I64 ((a_0.length : Int) - (b_1.length : Int))) ((eG F (fun d : Unit => aF8 F a_0 b_1) ()).bind (fun e => aBA F a_0 b_1)))))))))))))))
@[go_sem]def aCj : Ty := .pair we (.pair we .unit)
def aAY (F : Md) : aJ := mSpec aCj (.tup (.pair we (.pair we .unit))) (fun x => aCi F x.1 x.2.1)
abbrev mC (F : Md) : List (FuncId × aJ) := [(114, (pZ F)), (135, dD), (136, (aCh F)), (137, (fJ F)), (138, (aAX F)), (139, (yE F)), (141, (gO F)), (142, (uS F))]
theorem aJ1 [Mx] (F : Md) : bJ Tryz.prog GL (mC F) := .cons (aFy F) xAa (.cons nS xAa (.cons (aRn F) xAa (.cons (rS F) xAa (.cons (aPO F) xAa (.cons (aMw F) xAa (.cons (uA F) xAa (.cons (aJX F) xAa (.nil))))))))
theorem aPP [Mx] (F : Md) : FOK Tryz.prog GL 103 (aAY F) := by
 refine sW (aV (aJ1 F)) Tryz.func103 rfl xAa xAc fun w0 S x r hw h => ?_
 have hF : fT (fr Tryz.prog (EM (mC F)) S w0 Tryz.f103.ntmps) := ⟨aV (aJ1 F), mix⟩
 obtain ⟨(a_0 : qd), (b_1 : qd), u⟩ := x
 simp only [aCj, Ty.wf, fF] at hw
 simp only [bX, aCj]
 try dsimp only at h
 replace h : aCi F a_0 b_1 = some r := h
 unfold aCi at h
 refine aB (aF hF [0, 1] (yaA ?_))
 refine aA (aB (aB (aF hF [0, 1, 15] (yaA ?_))))
 obtain ⟨g0, h⟩ := aQ h
 repeat (refine ⟨zAA, ?_⟩)
 refine aA (bG rfl (fun hc => ?_) (fun hc => ?_))
 ·try simp only [go_sem] at hc
  have h := eC zAB h
  refine aB (aT hF [4, 5] (yaA ?_))
  obtain ⟨g0, h⟩ := aQ h
  repeat (refine ⟨zAA, ?_⟩)
  obtain rfl := Option.some.inj h
  refine aA (cD (cS (jF hF [.tmp 4, .tmp 5] rfl rfl rfl ?_)))
  exact zAG
 ·try simp only [go_sem] at hc
  have h := eD zAB h
  refine cI (aA (aB (aB (aF hF [0, 1, 20] (yaA ?_)))))
  refine aA (bG rfl (fun hc => ?_) (fun hc => ?_))
  ·try simp only [go_sem] at hc
   have h := eC zAB h
   refine aB (aF hF [4, 5] (yaA ?_))
   obtain ⟨g0, h⟩ := aQ h
   obtain ⟨g1, h⟩ := aQ h
   repeat (refine ⟨zAA, ?_⟩)
   obtain rfl := Option.some.inj h
   refine aA (cD (cS (jF hF [.tmp 4, .tmp 5] rfl rfl rfl ?_)))
   exact zAG
  ·try simp only [go_sem] at hc
   have h := eD zAB h
   refine cI (aA (aB (aF hF [0, 1, 6, 7] (yaA ?_))))
   obtain ⟨g0, h⟩ := aQ h
   obtain ⟨g1, h⟩ := aQ h
   obtain ⟨g2, h⟩ := aQ h
   try simp only [I64, I32] at g0
   repeat (refine ⟨zAA, ?_⟩)
   refine aA (aB (aF hF [0, 6, 7, 8, 9] (yaA ?_)))
   obtain ⟨g0, h⟩ := aQ h
   obtain ⟨g1, h⟩ := aQ h
   obtain ⟨g2, h⟩ := aQ h
   obtain ⟨g3, h⟩ := aQ h
   obtain ⟨g4, h⟩ := aQ h
   try simp only [I64, I32] at g3
   repeat (refine ⟨zAA, ?_⟩)
   refine aA (aB (aT hF [0, 6, 7, 8, 9, 10] (yaA ?_)))
   obtain ⟨g0, h⟩ := aQ h
   try simp only [I64, I32] at g0
   repeat (refine ⟨zAA, ?_⟩)
   obtain ⟨g0, h⟩ := aQ h
   try simp only [I64, I32] at g0
   repeat (refine ⟨zAA, ?_⟩)
   obtain ⟨g0, h⟩ := aQ h
   obtain ⟨g1, h⟩ := aQ h
   repeat (refine ⟨zAA, ?_⟩)
   refine aA (qZ (D := Unit) (fun d => aBA F a_0 b_1 = some r) [6, 7, 9] (fun d => [(10, .own 0)]) (fun d => [.inr (.row 169 qx (List.replicate (((a_0.length : Int) - (b_1.length : Int)) + (1 : Int)).toNat (0 : Nat)))]) ?_ ?_)
   ·refine aB (aF hF [6, 7, 8, 9, 10, 11] (yaA ?_))
    obtain ⟨g0, h⟩ := aQ h
    try simp only [I64, I32] at g0
    repeat (refine ⟨zAA, ?_⟩)
    refine aA (eB (pS (D := Unit) [6, 7, 8, 9, 11] (fun d => [(10, .own 0)]) (fun d => [.inr (.row 169 qx (List.replicate (((a_0.length : Int) - (b_1.length : Int)) + (1 : Int)).toNat (0 : Nat)))]) h ?_ ?_ ?_))
    ·first | rfl | (simp only [go_sem]; done)
    ·exact zAF
    rintro u s9 h hs9
    simp only [go_sem]
    try dsimp only at h
    unfold aF8 at h
    refine aB (aB (aF hF [6, 7, 8, 9, 10, 11, 60] (yaA ?_)))
    refine aA (bG rfl (fun hc => ?_) (fun hc => ?_))
    ·try simp only [go_sem] at hc
     have h := eC zAB h
     cases h
    ·try simp only [go_sem] at hc
     have h := eD zAB h
     obtain rfl := Option.some.inj h
     dsimp only [mZ] at hs9
     have h := yaF (hs9)
     refine sK (dY (dY (gL (bY (aZ () h rfl ?_)))))
     ·exact zAF
   ·rintro u h
    try dsimp only at h
    simp only [go_sem]
    unfold aBA at h
    refine aB (aS0 0 (yaA ?_))
    refine aF hF [4, 5] (yaA ?_)
    obtain ⟨g0, h⟩ := aQ h
    obtain ⟨g1, h⟩ := aQ h
    obtain ⟨g2, h⟩ := aQ h
    obtain ⟨g3, h⟩ := aQ h
    repeat (refine ⟨zAA, ?_⟩)
    obtain rfl := Option.some.inj h
    refine aA (cD (jF hF [.tmp 4, .tmp 5] rfl rfl rfl ?_))
    exact zAG
attribute [go_sem] aAY
end
end Nu
end Go.Proofs
namespace Go.Proofs
open Go.Vc
set_option maxRecDepth 20000
namespace Nu
noncomputable section
set_option maxHeartbeats 4000000
theorem aAw [Mx] : bJ Tryz.prog GL [] := .nil
def qA (F : Md) (is_0 : Bool) (e_1 : Int) : Option (Unit ⊕ qp) :=
 if ¬ (is_0 = true) then some (.inr (e_1, ())) else some (.inl ())
def gG (F : Md) : fW where
 D := Bool × Int × (Unit ⊕ qp)
 av := fun d => [.val .bool d.1, .val qe d.2.1]
 hp := fun d => []
 m := 0
 pre := fun d => qA F d.1 d.2.1 = some d.2.2
 out := fun d => match d.2.2 with | .inl r => .ret (.tup []) [] | .inr p => .pan ⟨219, q9, p⟩ []
abbrev aMA (F : Md) : List (FuncId × aJ) := []
theorem aMB [Mx] (F : Md) : bJ Tryz.prog GL (aMA F) := .nil
theorem jU [Mx] (F : Md) : GOK Tryz.prog GL 178 (gG F) := by
 refine eJ (aV (aMB F)) Tryz.func178 rfl xAa (fun _ => Nat.le_of_ble_eq_true rfl) fun c0 w0 d hw1 hw2 h hn => ?_
 have hF : fT ⟨Tryz.prog, EM (aMA F), GM (gG F) c0 d, w0, Tryz.f178.ntmps, []⟩ := ⟨aV (aMB F), mix⟩
 obtain ⟨(is_0 : Bool), (e_1 : Int), r⟩ := d
 replace h : qA F is_0 e_1 = some r := h
 have hw1 : AV.wfL [.val .bool is_0, .val qe e_1] := hw1
 simp only [AV.wfL, AV.wfV, Ty.wf, fF] at hw1
 show Tri _ _ _ [(0, .val .bool is_0), (1, .val qe e_1)] []
 unfold qA at h
 refine aB (aF hF [1, 5] (yaA ?_))
 refine aA (bG rfl (fun hc => ?_) (fun hc => ?_))
 ·try simp only [go_sem] at hc
  have h := eC zAB h
  refine aC hF (aH (l := []) (.nil)) [] [] (yaB ?_)
  obtain rfl := Option.some.inj h
  refine bA rfl rfl rfl rfl
 ·try simp only [go_sem] at hc
  exact zax
attribute [go_sem] gG
def aAZ (F : Md) (e_2 : Int) (m_1 : qd) (neg_0 : Bool) : Option (qt ⊕ qp) :=
 ck (I64 (e_2 + ((fK F m_1).getD (0 : Int)))) ((qA F (decide ((e_2 + ((fK F m_1).getD (0 : Int))) ≤ (1048576 : Int))) (3 : Int)).bind (fun e => match e with | .inl r_22 => ck (I64 (e_2 + ((fK F m_1).getD (0 : Int)))) (some (.inl (neg_0, ((oJ F m_1 ((fK F m_1).getD (0 : Int))).getD ([] : List Nat)), (e_2 + ((fK F m_1).getD (0 : Int))), ()))) | .inr p_23 => some (.inr p_23)))
def aC7 (F : Md) (neg_0 : Bool) (m_1 : qd) (e_2 : Int) : Option (qt ⊕ qp) :=
 if (m_1.length : Int) = (0 : Int) then some (.inl (false, ([] : List Nat), (0 : Int), ())) else ck ((fK F m_1).isSome = true) (ck ((oJ F m_1 ((fK F m_1).getD (0 : Int))).isSome = true) ((qA F (decide (((((oJ F m_1 ((fK F m_1).getD (0 : Int))).getD ([] : List Nat)).length : Nat) : Int) ≤ (64 : Int))) (2 : Int)).bind (fun e => match e with | .inl r_8 => if e_2 ≤ (1048576 : Int) then ck (I64 ((-1048576 : Int) - ((fK F m_1).getD (0 : Int)))) ((qA F ((decide (e_2 ≤ (1048576 : Int))) && (decide (((-1048576 : Int) - ((fK F m_1).getD (0 : Int))) ≤ e_2))) (3 : Int)).bind (fun e => match e with | .inl r_24 => aAZ F e_2 m_1 neg_0 | .inr p_25 => some (.inr p_25))) else (qA F false (3 : Int)).bind (fun e => match e with | .inl r_26 => aAZ F e_2 m_1 neg_0 | .inr p_27 => some (.inr p_27)) | .inr p_9 => some (.inr p_9))))
def uC (F : Md) : fW where
 D := Bool × qd × Int × (qt ⊕ qp)
 av := fun d => [.val .bool d.1, .val we d.2.1, .val qe d.2.2.1]
 hp := fun d => []
 m := 0
 pre := fun d => aC7 F d.1 d.2.1 d.2.2.1 = some d.2.2.2
 out := fun d => match d.2.2.2 with | .inl r => .ret (.val ql r) [] | .inr p => .pan ⟨219, q9, p⟩ []
abbrev aFB (F : Md) : List (FuncId × aJ) := [(142, (uS F)), (177, (aCg F))]
theorem aOU [Mx] (F : Md) : bJ Tryz.prog GL (aFB F) := .cons (aJX F) xAa (.cons (aRm F) xAa (.nil))
theorem aDH [Mx] (F : Md) : GOK Tryz.prog GL 149 (uC F) := by
 refine eJ (aV (aOU F)) Tryz.func149 rfl xAa (fun _ => Nat.le_of_ble_eq_true rfl) fun c0 w0 d hw1 hw2 h hn => ?_
 have hF : fT ⟨Tryz.prog, EM (aFB F), GM (uC F) c0 d, w0, Tryz.f149.ntmps, []⟩ := ⟨aV (aOU F), mix⟩
 obtain ⟨(neg_0 : Bool), (m_1 : qd), (e_2 : Int), r⟩ := d
 replace h : aC7 F neg_0 m_1 e_2 = some r := h
 have hw1 : AV.wfL [.val .bool neg_0, .val we m_1, .val qe e_2] := hw1
 simp only [AV.wfL, AV.wfV, Ty.wf, fF] at hw1
 show Tri _ _ _ [(0, .val .bool neg_0), (1, .val we m_1), (2, .val qe e_2)] []
 unfold aC7 at h
 refine aB (aT hF [0, 1, 2, 6] (yaA ?_))
 refine aA (aB (aB (aF hF [0, 1, 2, 6, 10] (yaA ?_))))
 refine aA (bG rfl (fun hc => ?_) (fun hc => ?_))
 ·try simp only [go_sem] at hc
  have h := eC zAB h
  refine aB (aT hF [6] (yaA ?_))
  obtain rfl := Option.some.inj h
  refine aA (cD (cS (jO hF [.cell 6 128] [] rfl rfl rfl rfl rfl rfl rfl rfl rfl ?_)))
  exact zaB
 ·try simp only [go_sem] at hc
  have h := eD zAB h
  refine cI (aA (aB (aF hF [0, 1, 2, 6, 7] (yaA ?_))))
  obtain ⟨g0, h⟩ := aQ h
  repeat (refine ⟨zAA, ?_⟩)
  refine aA (aB (aF hF [0, 1, 2, 6, 7] (yaA ?_)))
  obtain ⟨g0, h⟩ := aQ h
  repeat (refine ⟨zAA, ?_⟩)
  obtain ⟨e, he1, h⟩ := bind_some h
  rcases e with r_8 | p_9
  ·try dsimp only at h
   refine aA (aB (aC hF (aH (l := [(178, ⟨gG F, [], ((decide (((((oJ F m_1 ((fK F m_1).getD (0 : Int))).getD ([] : List Nat)).length : Nat) : Int) ≤ (64 : Int))), (2 : Int), .inl r_8)⟩)]) (.cons (jU F) xAa (.nil))) [0, 1, 2, 6, 7] [] (yaB ?_)))
   refine aA (qZ (D := Unit) (fun d => aAZ F e_2 m_1 neg_0 = some r) [0, 1, 2, 7] (fun d => [(6, .ptr 0 [])]) (fun d => [.inr (.box 3 (.val ql (false, ([] : List Nat), (0 : Int), ())))]) ?_ ?_)
   ·by_cases hq : e_2 ≤ (1048576 : Int)
    ·have h := eC hq h
     obtain ⟨g0, h⟩ := aQ h
     try simp only [I64, I32] at g0
     obtain ⟨e, he3, h⟩ := bind_some h
     rcases e with r_24 | p_25
     ·try dsimp only at h
      refine aC hF (aH (l := [(178, ⟨gG F, [], (((decide (e_2 ≤ (1048576 : Int))) && (decide (((-1048576 : Int) - ((fK F m_1).getD (0 : Int))) ≤ e_2))), (3 : Int), .inl r_24)⟩)]) (.cons (jU F) xAa (.nil))) [0, 1, 2, 6, 7] [] (yaB ?_)
      refine ⟨fun _ => (yaD ?_), fun hx => by first | (exfalso; omega) | (exfalso; simp_all; done)⟩
      refine ⟨fun _ => (yaD ?_), fun hx => by first | (exfalso; omega) | (exfalso; simp_all; done)⟩
      refine ⟨fun _ => (yaD ?_), fun hx => by first | (exfalso; omega) | (exfalso; simp_all; done)⟩
      refine ⟨fun _ => (yaD ?_), fun hx => by first | (exfalso; omega) | (exfalso; simp_all; done)⟩
      refine bY (aZ () h rfl ?_)
      ·exact zAF
     ·try dsimp only at h
      refine aC hF (aH (l := [(178, ⟨gG F, [], (((decide (e_2 ≤ (1048576 : Int))) && (decide (((-1048576 : Int) - ((fK F m_1).getD (0 : Int))) ≤ e_2))), (3 : Int), .inr p_25)⟩)]) (.cons (jU F) xAa (.nil))) [0, 1, 2, 6, 7] [] (yaB ?_)
      refine ⟨fun _ => (yaD ?_), fun hx => by first | (exfalso; omega) | (exfalso; simp_all; done)⟩
      refine ⟨fun _ => (yaD ?_), fun hx => by first | (exfalso; omega) | (exfalso; simp_all; done)⟩
      exact za3
    ·have h := eD hq h
     obtain ⟨e, he4, h⟩ := bind_some h
     rcases e with r_26 | p_27
     ·try dsimp only at h
      refine aC hF (aH (l := [(178, ⟨gG F, [], (false, (3 : Int), .inl r_26)⟩)]) (.cons (jU F) xAa (.nil))) [0, 1, 2, 6, 7] [] (yaB ?_)
      first | (refine ⟨fun hx => by first | (exfalso; omega) | (exfalso; simp_all; done), fun _ => ?_⟩) | (with_reducible intro _) | skip
      repeat (refine ⟨zAA, ?_⟩)
      first | (refine ⟨fun hx => by first | (exfalso; omega) | (exfalso; simp_all; done), fun _ => ?_⟩) | (with_reducible intro _) | skip
      repeat (refine ⟨zAA, ?_⟩)
      first | (refine ⟨fun hx => by first | (exfalso; omega) | (exfalso; simp_all; done), fun _ => ?_⟩) | (with_reducible intro _) | skip
      repeat (refine ⟨zAA, ?_⟩)
      first | (refine ⟨fun hx => by first | (exfalso; omega) | (exfalso; simp_all; done), fun _ => ?_⟩) | (with_reducible intro _) | skip
      repeat (refine ⟨zAA, ?_⟩)
      refine bY (aZ () h rfl ?_)
      ·exact zAF
     ·try dsimp only at h
      refine aC hF (aH (l := [(178, ⟨gG F, [], (false, (3 : Int), .inr p_27)⟩)]) (.cons (jU F) xAa (.nil))) [0, 1, 2, 6, 7] [] (yaB ?_)
      first | (refine ⟨fun hx => by first | (exfalso; omega) | (exfalso; simp_all; done), fun _ => ?_⟩) | (with_reducible intro _) | skip
      repeat (refine ⟨zAA, ?_⟩)
      first | (refine ⟨fun hx => by first | (exfalso; omega) | (exfalso; simp_all; done), fun _ => ?_⟩) | (with_reducible intro _) | skip
      repeat (refine ⟨zAA, ?_⟩)
      exact zao
   ·rintro u h
    try dsimp only at h
    simp only [go_sem]
    unfold aAZ at h
    obtain ⟨g0, h⟩ := aQ h
    try simp only [I64, I32] at g0
    obtain ⟨e, he2, h⟩ := bind_some h
    rcases e with r_22 | p_23
    ·try dsimp only at h
     refine aB (aC hF (aH (l := [(178, ⟨gG F, [], ((decide ((e_2 + ((fK F m_1).getD (0 : Int))) ≤ (1048576 : Int))), (3 : Int), .inl r_22)⟩)]) (.cons (jU F) xAa (.nil))) [0, 1, 2, 6, 7] [] (yaB ?_))
     refine aA (aB (aT hF [6] (yaA ?_)))
     obtain ⟨g0, h⟩ := aQ h
     try simp only [I64, I32] at g0
     repeat (refine ⟨zAA, ?_⟩)
     obtain rfl := Option.some.inj h
     refine aA (cD (jO hF [.cell 6 128] [] rfl rfl rfl rfl rfl rfl rfl rfl rfl ?_))
     exact zaB
    ·try dsimp only at h
     refine aB (aC hF (aH (l := [(178, ⟨gG F, [], ((decide ((e_2 + ((fK F m_1).getD (0 : Int))) ≤ (1048576 : Int))), (3 : Int), .inr p_23)⟩)]) (.cons (jU F) xAa (.nil))) [0, 1, 2, 6, 7] [] (yaB ?_))
     exact zaN
  ·try dsimp only at h
   refine aA (aB (aC hF (aH (l := [(178, ⟨gG F, [], ((decide (((((oJ F m_1 ((fK F m_1).getD (0 : Int))).getD ([] : List Nat)).length : Nat) : Int) ≤ (64 : Int))), (2 : Int), .inr p_9)⟩)]) (.cons (jU F) xAa (.nil))) [0, 1, 2, 6, 7] [] (yaB ?_)))
   exact zaN
attribute [go_sem] uC
def aCk (F : Md) (a0_0 : Bool) (a1_1 : qd) (a2_2 : Int) : Option (qt ⊕ qp) :=
 (aC7 F a0_0 a1_1 a2_2).bind (fun e => match e with | .inl r_8 => some (.inl r_8) | .inr p_9 => some (.inr p_9))
def wG (F : Md) : fW where
 D := Bool × qd × Int × (qt ⊕ qp)
 av := fun d => [.val (.rp .bool) d.1, .val (.rp we) d.2.1, .val (.rp qe) d.2.2.1]
 hp := fun d => []
 m := 0
 pre := fun d => aCk F d.1 d.2.1 d.2.2.1 = some d.2.2.2
 out := fun d => match d.2.2.2 with | .inl r => .ret (.val ql r) [] | .inr p => .pan ⟨219, q9, p⟩ []
abbrev aJ2 (F : Md) : List (FuncId × aJ) := []
theorem aJ3 [Mx] (F : Md) : bJ Tryz.prog GL (aJ2 F) := .nil
theorem aIn [Mx] (F : Md) : GOK Tryz.prog GL 148 (wG F) := by
 refine eJ (aV (aJ3 F)) Tryz.func148 rfl xAa (fun _ => Nat.le_of_ble_eq_true rfl) fun c0 w0 d hw1 hw2 h hn => ?_
 have hF : fT ⟨Tryz.prog, EM (aJ2 F), GM (wG F) c0 d, w0, Tryz.f148.ntmps, []⟩ := ⟨aV (aJ3 F), mix⟩
 obtain ⟨(a0_0 : Bool), (a1_1 : qd), (a2_2 : Int), r⟩ := d
 replace h : aCk F a0_0 a1_1 a2_2 = some r := h
 have hw1 : AV.wfL [.val (.rp .bool) a0_0, .val (.rp we) a1_1, .val (.rp qe) a2_2] := hw1
 simp only [AV.wfL, AV.wfV, Ty.wf, fF] at hw1
 show Tri _ _ _ [(0, .roa .bool a0_0), (1, .roa we a1_1), (2, .roa qe a2_2)] []
 unfold aCk at h
 refine aB (aT hF [0, 1, 2, 3] (yaA ?_))
 obtain ⟨e, he1, h⟩ := bind_some h
 rcases e with r_8 | p_9
 ·try dsimp only at h
  refine aA (aB (aC hF (aH (l := [(149, ⟨uC F, [], (a0_0, a1_1, a2_2, .inl r_8)⟩)]) (.cons (aDH F) xAa (.nil))) [3] [] (yaB ?_)))
  exact zay
 ·try dsimp only at h
  refine aA (aB (aC hF (aH (l := [(149, ⟨uC F, [], (a0_0, a1_1, a2_2, .inr p_9)⟩)]) (.cons (aDH F) xAa (.nil))) [3] [] (yaB ?_)))
  exact zaN
attribute [go_sem] wG
def oK : fW where
 D := qt × Int
 av := fun _ => [.ptr 0 [], .ptr 1 []]
 hp := fun d => [.box 3 (.val ql d.1), .box 1 (.val qe d.2)]
 m := 2
 pre := fun _ => True
 out := fun d => .ret (.tup []) [.box 3 (.val ql d.1), .box 1 (.val qe d.2)]
def oL (x : qp) : fW where
 D := qt × Int
 av := fun _ => [.ptr 0 [], .ptr 1 []]
 hp := fun d => [.box 3 (.val ql d.1), .box 1 (.val qe d.2)]
 m := 2
 pre := fun _ => True
 out := fun d => .ret (.tup []) [.box 3 (.val ql (false, ([] : List Nat), (0 : Int), ())), .box 1 (.val qe x.1)]
theorem aG8 [Mx] : DOK Tryz.prog GL 176 none oK := by
 refine aLf (aV aAw) Tryz.func176 rfl xAa (fun _ => Nat.le_of_ble_eq_true rfl) rfl fun c w d hw1 hw2 hp hn => ?_
 have hF : fT ⟨Tryz.prog, EM [], GM oK c d, w, Tryz.f176.ntmps, []⟩ := ⟨aV aAw, mix⟩
 obtain ⟨d, e⟩ := d
 show rQ _ _ _ [(5, .val .nili ()), (0, .ptr 0 []), (1, .ptr 1 [])] [.box 3 (.val ql d), .box 1 (.val qe e)] _
 simp only [go_sem]
 refine aB (aF hF [0, 1, 2, 9] (yaA ?_))
 refine aA (bG rfl (fun hc => absurd hc xAc) (fun hc => ?_))
 refine cI ?_
 refine gT [0, 1] rfl rfl (yaC ?_)
 exact zaf
theorem aG9 [Mx] (x : qp) : DOK Tryz.prog GL 176 (some ⟨219, q9, x⟩) (oL x) := by
 refine aLf (aV aAw) Tryz.func176 rfl xAa (fun _ => Nat.le_of_ble_eq_true rfl) rfl fun c w d hw1 hw2 hp hn => ?_
 have hF : fT ⟨Tryz.prog, EM [], GM (oL x) c d, w, Tryz.f176.ntmps, []⟩ := ⟨aV aAw, mix⟩
 obtain ⟨d, e⟩ := d
 show rQ _ _ _ [(5, .val (.ifc 219 q9) x), (0, .ptr 0 []), (1, .ptr 1 [])] [.box 3 (.val ql d), .box 1 (.val qe e)] _
 simp only [go_sem]
 refine aB (aF hF [0, 1, 2, 9] (yaA ?_))
 refine aA (bG rfl (fun hc => ?_) (fun hc => absurd hc xAc))
 refine aDB hF [] [] [.box 3 (.val ql (false, ([] : List Nat), (0 : Int), ())), .box 1 (.val qe x.1), .box 1 (.val q9 x)] xAc ?_ ?_
 ·simp only [go_sem]
  unfold anyS
  intro i hi
  have hi : i = 0 ∨ i = 1 := by revert hi; revert i; decide
  rcases hi with rfl | rfl
  ·simp only [go_sem]
   skip
   unfold anyS
   intro i hi
   have hi : i = 1 ∨ i = 3 := by revert hi; revert i; decide
   rcases hi with rfl | rfl
   ·simp only [go_sem]
    exact zai
   ·simp only [go_sem]
    skip
    unfold anyS
    intro i hi
    have hi : i = 1 := by revert hi; revert i; decide
    subst hi
    simp only [go_sem]
    skip
    unfold anyS
    intro i hi
    have hi : i = 2 := by revert hi; revert i; decide
    exact zaJ
  ·simp only [go_sem]
   skip
   unfold anyS
   intro i hi
   have hi : i = 0 ∨ i = 2 := by revert hi; revert i; decide
   rcases hi with rfl | rfl
   ·simp only [go_sem]
    exact zai
   ·simp only [go_sem]
    skip
    unfold anyS
    intro i hi
    have hi : i = 0 := by revert hi; revert i; decide
    subst hi
    simp only [go_sem]
    skip
    unfold anyS
    intro i hi
    have hi : i = 3 := by revert hi; revert i; decide
    exact zaJ
 refine gT [0, 1] rfl rfl (yaC ?_)
 exact zaf
def iB (F : Md) (c0 : Bool) (c1 : qd) (c2 : Int) : Option (qt × Int × Unit) :=
 (aCk F c0 c1 c2).bind fun q => some (match q with | .inl r => (r, 0, ()) | .inr p => ((false, ([] : List Nat), (0 : Int), ()), p.1, ()))
def yG : Ty := .pair (.clo 148 (.pair (.rp .bool) (.pair (.rp we) (.pair (.rp qe) .unit)))) .unit
def mD (F : Md) : aJ := mSpec yG (.tup (.pair ql q9)) (fun x => iB F x.1.1 x.1.2.1 x.1.2.2.1)
theorem aEf [Mx] (F : Md) : FOK Tryz.prog GL 147 (mD F) := by
 refine aFr (aV aAw) Tryz.func147 rfl xAa xAc fun w0 S x r hw h => ?_
 have hF : fT (fr Tryz.prog (EM []) S w0 Tryz.f147.ntmps) := ⟨aV aAw, mix⟩
 obtain ⟨⟨(c0 : Bool), (c1 : qd), (c2 : Int), u1⟩, u⟩ := x
 replace h : iB F c0 c1 c2 = some r := h
 show Tri _ _ _ [(0, .val (.clo 148 (.pair (.rp .bool) (.pair (.rp we) (.pair (.rp qe) .unit)))) (c0, c1, c2, u1))] []
 unfold iB at h
 obtain ⟨q, hq, h⟩ := bind_some h
 obtain rfl := Option.some.inj h
 refine aB (aT hF [0, 2, 3] (yaA ?_))
 refine aA (aAT 2 [0, 1] rfl rfl (Nat.zero_le _) xAc fun roots hroots => ?_)
 have hF' : fT { fr Tryz.prog (EM []) S w0 Tryz.f147.ntmps with M := ⟨nothing, S, 2, roots⟩, ds := [⟨.fn (.func 176) ([0, 1].map roots).toArray, #[]⟩] } := ⟨aV aAw, mix⟩
 rcases q with q | q
 ·refine aB (aC hF' (aH (l := [(148, ⟨wG F, [], (c0, c1, c2, .inl q)⟩)]) (.cons (aIn F) xAa .nil)) [2, 3] [] (yaA ?_))
  exact zaq
 ·refine aB (aC hF' (aH (l := [(148, ⟨wG F, [], (c0, c1, c2, .inr q)⟩)]) (.cons (aIn F) xAa .nil)) [2, 3] [] (yaA ?_))
  exact zal
attribute [go_sem] mD yG
def aC8 (F : Md) (neg_0 : Bool) (m_1 : qd) (e_2 : Int) : Option (qt × qp) :=
 ck ((iB F neg_0 m_1 e_2).isSome = true) (some (((iB F neg_0 m_1 e_2).getD ((false, ([] : List Nat), (0 : Int), ()), (0 : Int), ())).1, ((iB F neg_0 m_1 e_2).getD ((false, ([] : List Nat), (0 : Int), ()), (0 : Int), ())).2.1, ()))
@[go_sem]def aFC : Ty := .pair .bool (.pair we q9)
def yH (F : Md) : aJ := mSpec aFC (.tup (.pair ql q9)) (fun x => aC8 F x.1 x.2.1 x.2.2.1)
abbrev aI1 (F : Md) : List (FuncId × aJ) := [(147, (mD F))]
theorem aOX [Mx] (F : Md) : bJ Tryz.prog GL (aI1 F) := .cons (aEf F) xAa (.nil)
theorem aMC [Mx] (F : Md) : FOK Tryz.prog GL 107 (yH F) := by
 refine sW (aV (aOX F)) Tryz.func107 rfl xAa xAc fun w0 S x r hw h => ?_
 have hF : fT (fr Tryz.prog (EM (aI1 F)) S w0 Tryz.f107.ntmps) := ⟨aV (aOX F), mix⟩
 obtain ⟨(neg_0 : Bool), (m_1 : qd), (e_2 : Int), u⟩ := x
 simp only [aFC, Ty.wf, fF] at hw
 simp only [bX, aFC]
 try dsimp only at h
 replace h : aC8 F neg_0 m_1 e_2 = some r := h
 unfold aC8 at h
 exact zam
attribute [go_sem] yH
def iG (F : Md) (d_0 : qt) : Option Bool :=
 if (d_0.2.1.length : Int) = (0 : Int) then some ((!d_0.1) && (decide (d_0.2.2.1 = (0 : Int)))) else (aH2 F d_0.2.1).bind (fun v_5 => ck ((v_5 = true) → ((0 : Int) < (d_0.2.1.length : Int))) (some (((v_5 && (decide (((d_0.2.1.getD (0 : Nat) (0 : Nat)) &&& (1 : Nat)) = (1 : Nat)))) && (decide ((-1048576 : Int) ≤ d_0.2.2.1))) && (decide (d_0.2.2.1 ≤ (1048576 : Int))))))
def aMD : PlR := ⟨[(0, .B [1]), (1, .A [1, 6]), (2, .A [2]), (3, .A [2])], []⟩
def aOZ : Ty := .pair ql .unit
def rM (F : Md) : aJ := mSpec aOZ (.one .bool) (fun x => iG F x.1)
abbrev aO0 (F : Md) : List (FuncId × aJ) := [(150, (aFx F))]
theorem aTk [Mx] (F : Md) : bJ Tryz.prog GL (aO0 F) := .cons (aTb F) xAa (.nil)
attribute [go_sem] aOZ aMD
theorem aHa [Mx] (F : Md) : FOK Tryz.prog GL 108 (rM F) := by
 refine bT (aV (aTk F)) mix Tryz.func108 rfl xAa xAc aMD fun w0 S x Θ hw h hF => ?_
 obtain ⟨(d_0 : qt), u⟩ := x
 simp only [bX, go_sem]
 replace h : sat (iG F d_0) _ := h
 unfold iG at h
 refine eH h (fun hc h => ?_) fun hc h => ?_
 ·exact aL hF [.tmp 2] rfl rfl rfl (aE h) xAd
 ·obtain ⟨v_5, hv, h⟩ := aP h
  exact za1
attribute [go_sem] rM
def uD (F : Md) (d_0 : qt) : Option Int :=
 (iG F d_0).bind (fun v_7 => if (¬ (v_7 = true)) ∨ ((d_0.2.1.length : Int) = (0 : Int)) then some (0 : Int) else if d_0.1 = true then some (-1 : Int) else some (1 : Int))
def aJ4 : PlR := ⟨[(0, .B [1]), (1, .A [1, 3]), (2, .A [2]), (3, .A [13]), (4, .A [2]), (5, .A [2])], []⟩
def aME : Ty := .pair ql .unit
def uT (F : Md) : aJ := mSpec aME (.one qe) (fun x => uD F x.1)
abbrev aMF (F : Md) : List (FuncId × aJ) := [(108, (rM F))]
theorem aSu [Mx] (F : Md) : bJ Tryz.prog GL (aMF F) := .cons (aHa F) xAa (.nil)
attribute [go_sem] aME aJ4
theorem aJ5 [Mx] (F : Md) : FOK Tryz.prog GL 68 (uT F) := by
 refine bT (aV (aSu F)) mix Tryz.func68 rfl xAa xAc aJ4 fun w0 S x Θ hw h hF => ?_
 obtain ⟨(d_0 : qt), u⟩ := x
 simp only [bX, go_sem]
 replace h : sat (uD F d_0) _ := h
 unfold uD at h
 obtain ⟨v_7, hv, h⟩ := aP h
 try simp only [hv, go_sem]
 refine ⟨fun hc => ?_, fun hc => ?_⟩
 ·replace h := jG zAB h
  exact zaF
 ·replace h := jH zAB h
  exact za5
attribute [go_sem] uT
def aDI (F : Md) (a_0 : qt) (b_1 : qt) : Option Int :=
 (aC0 F a_0.2.1).bind (fun v_13 => ck (I64 (v_13 + a_0.2.2.1)) ((aC0 F b_1.2.1).bind (fun v_14 => ck (I64 (v_14 + b_1.2.2.1)) (if (v_13 + a_0.2.2.1) < (v_14 + b_1.2.2.1) then some (-1 : Int) else if (v_14 + b_1.2.2.1) < (v_13 + a_0.2.2.1) then some (1 : Int) else ck (I64 (a_0.2.2.1 - (min a_0.2.2.1 b_1.2.2.1))) ((lY F a_0.2.1 (a_0.2.2.1 - (min a_0.2.2.1 b_1.2.2.1))).bind (fun v_30 => ck (I64 (b_1.2.2.1 - (min a_0.2.2.1 b_1.2.2.1))) ((lY F b_1.2.1 (b_1.2.2.1 - (min a_0.2.2.1 b_1.2.2.1))).bind (fun v_31 => (uB F v_30 v_31).bind (fun v_32 => some v_32)))))))))
def aJ6 : PlR := ⟨[(0, .B [2, 3]), (1, .A [2, 3, 5, 6]), (2, .A [2, 3, 5, 6, 20]), (3, .A [4]), (4, .A [2, 3, 24]), (5, .A [4]), (6, .A [2, 3, 7]), (7, .A [4])], []⟩
def aMG : Ty := .pair ql (.pair ql .unit)
def aCl (F : Md) : aJ := mSpec aMG (.one qe) (fun x => aDI F x.1 x.2.1)
abbrev aDJ (F : Md) : List (FuncId × aJ) := [(114, (pZ F)), (139, (yE F)), (151, (aDE F))]
theorem aSv [Mx] (F : Md) : bJ Tryz.prog GL (aDJ F) := .cons (aFy F) xAa (.cons (aMw F) xAa (.cons (aSo F) xAa (.nil)))
attribute [go_sem] aMG aJ6
theorem aRp [Mx] (F : Md) : FOK Tryz.prog GL 109 (aCl F) := by
 refine bT (aV (aSv F)) mix Tryz.func109 rfl xAa xAc aJ6 fun w0 S x Θ hw h hF => ?_
 obtain ⟨(a_0 : qt), (b_1 : qt), u⟩ := x
 simp only [bX, go_sem]
 replace h : sat (aDI F a_0 b_1) _ := h
 unfold aDI at h
 obtain ⟨v_13, hv, h⟩ := aP h
 try simp only [hv, go_sem]
 refine aR h fun g0 h => ?_
 obtain ⟨v_14, hv, h⟩ := aP h
 try simp only [hv, go_sem]
 refine aR h fun g0 h => ?_
 refine fI h (fun hc h => ?_) fun hc h => ?_
 ·exact aL hF [.tmp 4] rfl rfl rfl (aE h) xAd
 ·refine fI h (fun hc h => ?_) fun hc h => ?_
  ·exact aL hF [.tmp 4] rfl rfl rfl (aE h) xAd
  ·refine aR h fun g0 h => ?_
   obtain ⟨v_30, hv, h⟩ := aP h
   try simp only [hv, go_sem]
   refine aR h fun g0 h => ?_
   obtain ⟨v_31, hv, h⟩ := aP h
   try simp only [hv, go_sem]
   obtain ⟨v_32, hv, h⟩ := aP h
   exact zaR
attribute [go_sem] aCl
def aAN (F : Md) (a_0 : qt) (b_1 : qt) : Option Int :=
 (uD F a_0).bind (fun v_13 => (uD F b_1).bind (fun v_14 => (iG F a_0).bind (fun v_20 => ck (¬ (¬ (v_20 = true)) → ((iG F b_1).isSome = true)) (if (¬ (v_20 = true)) ∨ (¬ (((iG F b_1).getD false) = true)) then some (0 : Int) else if (¬ (v_13 = v_14)) ∧ (v_13 < v_14) then some (-1 : Int) else if ¬ (v_13 = v_14) then some (1 : Int) else if v_13 = (0 : Int) then some (0 : Int) else (aDI F a_0 b_1).bind (fun v_24 => ck (I64 (v_13 * v_24)) (some (v_13 * v_24)))))))
def aMH : PlR := ⟨[(0, .B [2, 3]), (1, .A [2, 3, 5, 6]), (2, .A [2, 3, 5, 6, 11]), (3, .A [4]), (4, .A [2, 3, 5, 6, 20]), (5, .A [4]), (6, .A [2, 3, 5, 29]), (7, .A [4]), (8, .A [2, 3, 5, 33]), (9, .A [4]), (10, .A [4])], []⟩
def aO2 : Ty := .pair ql (.pair ql .unit)
def yI (F : Md) : aJ := mSpec aO2 (.one qe) (fun x => aAN F x.1 x.2.1)
abbrev aFD (F : Md) : List (FuncId × aJ) := [(108, (rM F)), (109, (aCl F)), (68, (uT F))]
theorem aTl [Mx] (F : Md) : bJ Tryz.prog GL (aFD F) := .cons (aHa F) xAa (.cons (aRp F) xAa (.cons (aJ5 F) xAa (.nil)))
attribute [go_sem] aO2 aMH
theorem aMI [Mx] (F : Md) : FOK Tryz.prog GL 69 (yI F) := by
 refine bT (aV (aTl F)) mix Tryz.func69 rfl xAa xAc aMH fun w0 S x Θ hw h hF => ?_
 obtain ⟨(a_0 : qt), (b_1 : qt), u⟩ := x
 simp only [bX, go_sem]
 replace h : sat (aAN F a_0 b_1) _ := h
 unfold aAN at h
 obtain ⟨v_13, hv, h⟩ := aP h
 try simp only [hv, go_sem]
 obtain ⟨v_14, hv, h⟩ := aP h
 try simp only [hv, go_sem]
 obtain ⟨v_20, hv, h⟩ := aP h
 try simp only [hv, go_sem]
 obtain ⟨g0, h⟩ := aS h
 repeat (refine ⟨zAD, ?_⟩)
 refine ⟨fun hc => ?_, fun hc => ?_⟩
 ·replace h := jG zAB h
  exact zaD
 ·replace h := jH zAB h
  refine ⟨fun hc => ?_, fun hc => ?_⟩
  ·replace h := jG hc h
   exact zaD
  ·replace h := jH hc h
   refine eH h (fun hc h => ?_) fun hc h => ?_
   ·exact aL hF [.tmp 4] rfl rfl rfl (aE h) xAd
   ·refine eH h (fun hc h => ?_) fun hc h => ?_
    ·exact aL hF [.tmp 4] rfl rfl rfl (aE h) xAd
    ·obtain ⟨v_24, hv, h⟩ := aP h
     try simp only [hv, go_sem]
     obtain ⟨g0, h⟩ := aS h
     try simp only [I64, I32] at g0
     repeat (refine ⟨zAA, ?_⟩)
     exact zaD
attribute [go_sem] yI
def zH (F : Md) (n_0 : Int) (e_1 : Int) (m_3 : Nat) : Option (qt × qp) :=
 (aC2 F ([m_3] : List Nat)).bind (fun v_6 => (aC8 F (decide (n_0 < (0 : Int))) v_6 e_1).bind (fun v_7 => some (v_7.1, v_7.2.1, ())))
def aH3 (F : Md) (n_0 : Int) (e_1 : Int) : Option (qt × qp) :=
 if n_0 < (0 : Int) then zH F n_0 e_1 (aS4 F .u64 (n_0 % (18446744073709551616 : Int)).toNat) else zH F n_0 e_1 (n_0 % (18446744073709551616 : Int)).toNat
def aO5 : PlR := ⟨[(0, .B [0, 1, 4]), (1, .A [0, 1, 4, 6]), (2, .A [0, 1, 4, 6, 10]), (3, .A [0, 1, 4, 6]), (4, .B [4, 5])], [(5, 7)]⟩
def aQK : Ty := .pair qe q9
def aFE (F : Md) : aJ := mSpec aQK (.tup (.pair ql q9)) (fun x => aH3 F x.1 x.2.1)
abbrev aLu (F : Md) : List (FuncId × aJ) := [(107, (yH F)), (146, (yD F))]
theorem aUK [Mx] (F : Md) : bJ Tryz.prog GL (aLu F) := .cons (aMC F) xAa (.cons (aMs F) xAa (.nil))
attribute [go_sem] aQK aO5
theorem aTm [Mx] (F : Md) : FOK Tryz.prog GL 110 (aFE F) := by
 refine bT (aV (aUK F)) mix Tryz.func110 rfl xAa xAc aO5 fun w0 S x Θ hw h hF => ?_
 obtain ⟨(n_0 : Int), (e_1 : Int), u⟩ := x
 simp only [bX, go_sem]
 replace h : sat (aH3 F n_0 e_1) _ := h
 unfold aH3 at h
 refine eY hF (D := Nat) (fun d => sat (zH F n_0 e_1 d) Θ) [0, 1] (fun d => [(4, .ptr 0 []), (6, .val qx d)]) (fun d => [.inr (.box 3 (.val ql (false, ([] : List Nat), (0 : Int), ())))]) ?_ ?_
 ·simp only [go_sem, dI F, dJ F, dK F]
  refine fI h (fun hc h => ?_) fun hc h => ?_
  ·exact aZ (aS4 F .u64 (n_0 % (18446744073709551616 : Int)).toNat) h rfl xAe
  ·exact aZ (n_0 % (18446744073709551616 : Int)).toNat h rfl xAe
 ·rintro m_3 h
  simp only [go_sem, dI F, dJ F, dK F]
  replace h : sat (zH F n_0 e_1 m_3) _ := h
  unfold zH at h
  obtain ⟨v_6, hv, h⟩ := aP h
  try simp only [hv, go_sem, dI F, dJ F, dK F]
  obtain ⟨v_7, hv, h⟩ := aP h
  try simp only [hv, go_sem, dI F, dJ F, dK F]
  exact aL hF [.cell 4 128, .tmp 5] rfl rfl rfl (aE h) xAf
attribute [go_sem] aFE
def zI (F : Md) (a_0 : qt) (b_1 : qt) : Option (qt ⊕ qp) :=
 ck ((kG F a_0.2.1 b_1.2.1).isSome = true) (ck (I64 (a_0.2.2.1 + b_1.2.2.1)) ((aC7 F (a_0.1 != b_1.1) ((kG F a_0.2.1 b_1.2.1).getD ([] : List Nat)) (a_0.2.2.1 + b_1.2.2.1)).bind (fun e => match e with | .inl r_7 => some (.inl r_7) | .inr p_8 => some (.inr p_8))))
def qL (F : Md) : fW where
 D := qt × qt × (qt ⊕ qp)
 av := fun d => [.val ql d.1, .val ql d.2.1]
 hp := fun d => []
 m := 0
 pre := fun d => zI F d.1 d.2.1 = some d.2.2
 out := fun d => match d.2.2 with | .inl r => .ret (.val ql r) [] | .inr p => .pan ⟨219, q9, p⟩ []
abbrev aFF (F : Md) : List (FuncId × aJ) := [(104, (gW F))]
theorem aJ7 [Mx] (F : Md) : bJ Tryz.prog GL (aFF F) := .cons (uR F) xAa (.nil)
theorem aA0 [Mx] (F : Md) : GOK Tryz.prog GL 153 (qL F) := by
 refine eJ (aV (aJ7 F)) Tryz.func153 rfl xAa (fun _ => Nat.le_of_ble_eq_true rfl) fun c0 w0 d hw1 hw2 h hn => ?_
 have hF : fT ⟨Tryz.prog, EM (aFF F), GM (qL F) c0 d, w0, Tryz.f153.ntmps, []⟩ := ⟨aV (aJ7 F), mix⟩
 obtain ⟨(a_0 : qt), (b_1 : qt), r⟩ := d
 replace h : zI F a_0 b_1 = some r := h
 have hw1 : AV.wfL [.val ql a_0, .val ql b_1] := hw1
 simp only [AV.wfL, AV.wfV, Ty.wf, fF] at hw1
 show Tri _ _ _ [(0, .val ql a_0), (1, .val ql b_1)] []
 unfold zI at h
 refine aB (aT hF [2, 3, 4] (yaA ?_))
 obtain ⟨g0, h⟩ := aQ h
 obtain ⟨g1, h⟩ := aQ h
 try simp only [I64, I32] at g1
 obtain ⟨e, he1, h⟩ := bind_some h
 rcases e with r_7 | p_8
 ·try dsimp only at h
  refine aA (aB (aFq hF (aH (l := [(149, ⟨uC F, [], ((a_0.1 != b_1.1), ((kG F a_0.2.1 b_1.2.1).getD ([] : List Nat)), (a_0.2.2.1 + b_1.2.2.1), .inl r_7)⟩)]) (.cons (aDH F) xAa (.nil))) 15 xAc [4] [] (yaB ?_)))
  simp only [aT6, go_sem]
  repeat (refine ⟨zAA, ?_⟩)
  obtain rfl := Option.some.inj h
  refine aA (cD (jO hF [.cell 4 128] [] rfl rfl rfl rfl rfl rfl rfl rfl rfl ?_))
  exact zaB
 ·try dsimp only at h
  refine aA (aB (aFq hF (aH (l := [(149, ⟨uC F, [], ((a_0.1 != b_1.1), ((kG F a_0.2.1 b_1.2.1).getD ([] : List Nat)), (a_0.2.2.1 + b_1.2.2.1), .inr p_8)⟩)]) (.cons (aDH F) xAa (.nil))) 15 xAc [4] [] (yaB ?_)))
  simp only [aT6, go_sem]
  repeat (refine ⟨zAA, ?_⟩)
  exact zaN
attribute [go_sem] qL
def nB (F : Md) (a0_0 : qt) (a1_1 : qt) (a2_2 : Unit) : Option (qt ⊕ qp) :=
 ck ((iG F a0_0).isSome = true) (if ((iG F a0_0).getD false) = true then ck ((iG F a1_1).isSome = true) ((qA F (((iG F a0_0).getD false) && ((iG F a1_1).getD false)) (1 : Int)).bind (fun e => match e with | .inl r_12 => (zI F a0_0 a1_1).bind (fun e => match e with | .inl r_20 => some (.inl r_20) | .inr p_21 => some (.inr p_21)) | .inr p_13 => some (.inr p_13))) else (qA F false (1 : Int)).bind (fun e => match e with | .inl r_14 => (zI F a0_0 a1_1).bind (fun e => match e with | .inl r_26 => some (.inl r_26) | .inr p_27 => some (.inr p_27)) | .inr p_15 => some (.inr p_15)))
def jP (F : Md) : fW where
 D := qt × qt × Unit × (qt ⊕ qp)
 av := fun d => [.val (.rp ql) d.1, .val (.rp ql) d.2.1, .val (.rp (.clo 153 .unit)) d.2.2.1]
 hp := fun d => []
 m := 0
 pre := fun d => nB F d.1 d.2.1 d.2.2.1 = some d.2.2.2
 out := fun d => match d.2.2.2 with | .inl r => .ret (.val ql r) [] | .inr p => .pan ⟨219, q9, p⟩ []
abbrev rA (F : Md) : List (FuncId × aJ) := [(108, (rM F))]
theorem yJ [Mx] (F : Md) : bJ Tryz.prog GL (rA F) := .cons (aHa F) xAa (.nil)
theorem wH [Mx] (F : Md) : GOK Tryz.prog GL 179 (jP F) := by
 refine eJ (aV (yJ F)) Tryz.func179 rfl xAa (fun _ => Nat.le_of_ble_eq_true rfl) fun c0 w0 d hw1 hw2 h hn => ?_
 have hF : fT ⟨Tryz.prog, EM (rA F), GM (jP F) c0 d, w0, Tryz.f179.ntmps, []⟩ := ⟨aV (yJ F), mix⟩
 obtain ⟨(a0_0 : qt), (a1_1 : qt), (a2_2 : Unit), r⟩ := d
 replace h : nB F a0_0 a1_1 a2_2 = some r := h
 have hw1 : AV.wfL [.val (.rp ql) a0_0, .val (.rp ql) a1_1, .val (.rp (.clo 153 .unit)) a2_2] := hw1
 simp only [AV.wfL, AV.wfV, Ty.wf, fF] at hw1
 show Tri _ _ _ [(0, .roa ql a0_0), (1, .roa ql a1_1), (2, .roa (.clo 153 .unit) a2_2)] []
 unfold nB at h
 refine aB (aT hF [0, 1, 2, 3] (yaA ?_))
 obtain ⟨g0, h⟩ := aQ h
 by_cases hq : ((iG F a0_0).getD false) = true
 ·have h := eC hq h
  obtain ⟨g1, h⟩ := aQ h
  obtain ⟨e, he1, h⟩ := bind_some h
  rcases e with r_12 | p_13
  ·try dsimp only at h
   refine aA (aB (aC hF (aH (l := [(178, ⟨gG F, [], ((((iG F a0_0).getD false) && ((iG F a1_1).getD false)), (1 : Int), .inl r_12)⟩)]) (.cons (jU F) xAa (.nil))) [0, 1, 2, 3] [] (yaB ?_)))
   refine ⟨fun _ => (yaD ?_), fun hx => by first | (exfalso; omega) | (exfalso; simp_all; done)⟩
   refine ⟨fun _ => (yaD ?_), fun hx => by first | (exfalso; omega) | (exfalso; simp_all; done)⟩
   obtain ⟨e, he2, h⟩ := bind_some h
   rcases e with r_20 | p_21
   ·try dsimp only at h
    refine aA (aB (aC hF (aH (l := [(153, ⟨qL F, [], (a0_0, a1_1, .inl r_20)⟩)]) (.cons (aA0 F) xAa (.nil))) [3] [] (yaB ?_)))
    exact zay
   ·try dsimp only at h
    refine aA (aB (aC hF (aH (l := [(153, ⟨qL F, [], (a0_0, a1_1, .inr p_21)⟩)]) (.cons (aA0 F) xAa (.nil))) [3] [] (yaB ?_)))
    exact zaN
  ·try dsimp only at h
   refine aA (aB (aC hF (aH (l := [(178, ⟨gG F, [], ((((iG F a0_0).getD false) && ((iG F a1_1).getD false)), (1 : Int), .inr p_13)⟩)]) (.cons (jU F) xAa (.nil))) [0, 1, 2, 3] [] (yaB ?_)))
   exact za3
 ·have h := eD hq h
  obtain ⟨e, he3, h⟩ := bind_some h
  rcases e with r_14 | p_15
  ·try dsimp only at h
   refine aA (aB (aC hF (aH (l := [(178, ⟨gG F, [], (false, (1 : Int), .inl r_14)⟩)]) (.cons (jU F) xAa (.nil))) [0, 1, 2, 3] [] (yaB ?_)))
   first | (refine ⟨fun hx => by first | (exfalso; omega) | (exfalso; simp_all; done), fun _ => ?_⟩) | (with_reducible intro _) | skip
   repeat (refine ⟨zAA, ?_⟩)
   first | (refine ⟨fun hx => by first | (exfalso; omega) | (exfalso; simp_all; done), fun _ => ?_⟩) | (with_reducible intro _) | skip
   repeat (refine ⟨zAA, ?_⟩)
   obtain ⟨e, he4, h⟩ := bind_some h
   rcases e with r_26 | p_27
   ·try dsimp only at h
    refine aA (aB (aC hF (aH (l := [(153, ⟨qL F, [], (a0_0, a1_1, .inl r_26)⟩)]) (.cons (aA0 F) xAa (.nil))) [3] [] (yaB ?_)))
    exact zay
   ·try dsimp only at h
    refine aA (aB (aC hF (aH (l := [(153, ⟨qL F, [], (a0_0, a1_1, .inr p_27)⟩)]) (.cons (aA0 F) xAa (.nil))) [3] [] (yaB ?_)))
    exact zaN
  ·try dsimp only at h
   refine aA (aB (aC hF (aH (l := [(178, ⟨gG F, [], (false, (1 : Int), .inr p_15)⟩)]) (.cons (jU F) xAa (.nil))) [0, 1, 2, 3] [] (yaB ?_)))
   exact zao
attribute [go_sem] jP
def dU (F : Md) (c0 : qt) (c1 : qt) (c2 : Unit) : Option (qt × Int × Unit) :=
 (nB F c0 c1 c2).bind fun q => some (match q with | .inl r => (r, 0, ()) | .inr p => ((false, ([] : List Nat), (0 : Int), ()), p.1, ()))
def oT : Ty := .pair (.clo 179 (.pair (.rp ql) (.pair (.rp ql) (.pair (.rp (.clo 153 .unit)) .unit)))) .unit
def fZ (F : Md) : aJ := mSpec oT (.tup (.pair ql q9)) (fun x => dU F x.1.1 x.1.2.1 x.1.2.2.1)
theorem wI [Mx] (F : Md) : FOK Tryz.prog GL 147 (fZ F) := by
 refine aFr (aV aAw) Tryz.func147 rfl xAa xAc fun w0 S x r hw h => ?_
 have hF : fT (fr Tryz.prog (EM []) S w0 Tryz.f147.ntmps) := ⟨aV aAw, mix⟩
 obtain ⟨⟨(c0 : qt), (c1 : qt), (c2 : Unit), u1⟩, u⟩ := x
 replace h : dU F c0 c1 c2 = some r := h
 show Tri _ _ _ [(0, .val (.clo 179 (.pair (.rp ql) (.pair (.rp ql) (.pair (.rp (.clo 153 .unit)) .unit)))) (c0, c1, c2, u1))] []
 unfold dU at h
 obtain ⟨q, hq, h⟩ := bind_some h
 obtain rfl := Option.some.inj h
 refine aB (aT hF [0, 2, 3] (yaA ?_))
 refine aA (aAT 2 [0, 1] rfl rfl (Nat.zero_le _) xAc fun roots hroots => ?_)
 have hF' : fT { fr Tryz.prog (EM []) S w0 Tryz.f147.ntmps with M := ⟨nothing, S, 2, roots⟩, ds := [⟨.fn (.func 176) ([0, 1].map roots).toArray, #[]⟩] } := ⟨aV aAw, mix⟩
 rcases q with q | q
 ·refine aB (aC hF' (aH (l := [(179, ⟨jP F, [], (c0, c1, c2, .inl q)⟩)]) (.cons (wH F) xAa .nil)) [2, 3] [] (yaA ?_))
  exact zaq
 ·refine aB (aC hF' (aH (l := [(179, ⟨jP F, [], (c0, c1, c2, .inr q)⟩)]) (.cons (wH F) xAa .nil)) [2, 3] [] (yaA ?_))
  exact zal
attribute [go_sem] fZ oT
def pE (F : Md) (a_0 : qt) (b_1 : qt) (do_2 : Unit) : Option (qt × qp) :=
 ck ((dU F a_0 b_1 do_2).isSome = true) (some (((dU F a_0 b_1 do_2).getD ((false, ([] : List Nat), (0 : Int), ()), (0 : Int), ())).1, ((dU F a_0 b_1 do_2).getD ((false, ([] : List Nat), (0 : Int), ()), (0 : Int), ())).2.1, ()))
@[go_sem]def pF : Ty := .pair ql (.pair ql (.pair (.clo 153 .unit) .unit))
def nV (F : Md) : aJ := mSpec pF (.tup (.pair ql q9)) (fun x => pE F x.1 x.2.1 x.2.2.1)
abbrev tH (F : Md) : List (FuncId × aJ) := [(147, (fZ F))]
theorem aAx [Mx] (F : Md) : bJ Tryz.prog GL (tH F) := .cons (wI F) xAa (.nil)
theorem aFG [Mx] (F : Md) : FOK Tryz.prog GL 152 (nV F) := by
 refine sW (aV (aAx F)) Tryz.func152 rfl xAa xAc fun w0 S x r hw h => ?_
 have hF : fT (fr Tryz.prog (EM (tH F)) S w0 Tryz.f152.ntmps) := ⟨aV (aAx F), mix⟩
 obtain ⟨(a_0 : qt), (b_1 : qt), (do_2 : Unit), u⟩ := x
 simp only [pF, Ty.wf, fF] at hw
 simp only [bX, pF]
 try dsimp only at h
 replace h : pE F a_0 b_1 do_2 = some r := h
 unfold pE at h
 exact zam
attribute [go_sem] nV
def aFH (F : Md) (a_0 : qt) (b_1 : qt) : Option (qt × qp) :=
 (pE F a_0 b_1 ()).bind (fun v_6 => some (v_6.1, v_6.2.1, ()))
def aMJ : PlR := ⟨[(0, .B [2, 3, 4]), (1, .B [4, 5])], []⟩
def aO6 : Ty := .pair ql (.pair ql .unit)
def aDK (F : Md) : aJ := mSpec aO6 (.tup (.pair ql q9)) (fun x => aFH F x.1 x.2.1)
abbrev aO7 (F : Md) : List (FuncId × aJ) := [(152, (nV F))]
theorem aTn [Mx] (F : Md) : bJ Tryz.prog GL (aO7 F) := .cons (aFG F) xAa (.nil)
attribute [go_sem] aO6 aMJ
theorem aSw [Mx] (F : Md) : FOK Tryz.prog GL 111 (aDK F) := by
 refine bT (aV (aTn F)) mix Tryz.func111 rfl xAa xAc aMJ fun w0 S x Θ hw h hF => ?_
 obtain ⟨(a_0 : qt), (b_1 : qt), u⟩ := x
 simp only [bX, go_sem]
 replace h : sat (aFH F a_0 b_1) _ := h
 unfold aFH at h
 obtain ⟨v_6, hv, h⟩ := aP h
 try simp only [hv, go_sem]
 exact aL hF [.cell 4 128, .tmp 5] rfl rfl rfl (aE h) xAd
attribute [go_sem] aDK
end
end Nu
end Go.Proofs
namespace Go.Proofs
open Go.Vc
set_option maxRecDepth 20000
namespace Nu
noncomputable section
set_option maxHeartbeats 4000000
def aFI : ByteArray := ⟨⟨97 :: 98 :: 99 :: 100 :: 101 :: 102 :: 103 :: 104 :: 105 :: 106 :: 107 :: 108 :: 109 :: 110 :: 111 :: 112 :: 113 :: 114 :: 115 :: 116 :: 117 :: 118 :: 119 :: 120 :: 121 :: 122 :: 48 :: 49 :: 50 :: 51 :: 52 :: 53 :: 54 :: 55 :: 56 :: 57 :: 95 :: []⟩⟩
@[go_sem]theorem aPT : (⟨⟨97 :: 98 :: 99 :: 100 :: 101 :: 102 :: 103 :: 104 :: 105 :: 106 :: 107 :: 108 :: 109 :: 110 :: 111 :: 112 :: 113 :: 114 :: 115 :: 116 :: 117 :: 118 :: 119 :: 120 :: 121 :: 122 :: 48 :: 49 :: 50 :: 51 :: 52 :: 53 :: 54 :: 55 :: 56 :: 57 :: 95 :: []⟩⟩ : ByteArray) = aFI := rfl
def oU (F : Md) (c_1 : Nat) (s_5 : qd) : Option (qd ⊕ qd) :=
 ck (((0 : Int) < (s_5.length : Int)) → (I64 ((s_5.length : Int) - (1 : Int)))) (ck (((0 : Int) < (s_5.length : Int)) → (0 ≤ ((s_5.length : Int) - (1 : Int)) ∧ ((s_5.length : Int) - (1 : Int)) < (s_5.length : Int))) (if ((0 : Int) < (s_5.length : Int)) ∧ ((s_5.getD ((s_5.length : Int) - (1 : Int)).toNat (0 : Nat)) = c_1) then ck (I64 ((s_5.length : Int) - (1 : Int))) (ck (0 ≤ ((s_5.length : Int) - (1 : Int)) ∧ ((s_5.length : Int) - (1 : Int)) ≤ (s_5.length : Int)) (some (.inl (List.take ((s_5.length : Int) - (1 : Int)).toNat s_5)))) else some (.inr s_5)))
def kH (F : Md) (s_0 : qd) (c_1 : Nat) : Option qd :=
 (eG F (fun d : qd => oU F c_1 d) s_0).bind (fun e => some e)
def wJ : PlR := ⟨[(0, .A [0, 1]), (1, .A [0, 1, 16]), (2, .A [0, 1]), (3, .A [4])], []⟩
def yK : Ty := .pair .str wk
def gM (F : Md) : aJ := mSpec yK (.one .str) (fun x => kH F x.1 x.2.1)
abbrev aEF (F : Md) : List (FuncId × aJ) := []
theorem aEG [Mx] (F : Md) : bJ Tryz.prog GL (aEF F) := .nil
attribute [go_sem] yK wJ
theorem wK [Mx] (F : Md) : FOK Tryz.prog GL 45 (gM F) := by
 refine bT (aV (aEG F)) mix Tryz.func45 rfl xAa xAc wJ fun w0 S x Θ hw h hF => ?_
 obtain ⟨(s_0 : qd), (c_1 : Nat), u⟩ := x
 simp only [bX, go_sem]
 replace h : sat (kH F s_0 c_1) _ := h
 unfold kH at h
 refine cG hF (D := qd) [1] (fun d => [(0, .val .str d)]) (fun d => []) h rfl xAb ?_
 rintro s_5 A1 T1 hA1 hE1 h
 simp only [go_sem]
 replace h : sat (oU F c_1 s_5) _ := h
 unfold oU at h
 refine aR h fun g0 h => aR h fun g1 h => ?_
 refine ⟨fun hc => ?_, fun hc => ?_⟩
 ·replace h := jG hc h
  refine aR h fun g0 h => aR h fun g1 h => ?_
  replace h := hA1 _ (aE h)
  exact zaI
 ·replace h := jH hc h
  replace h := yaF (hE1 _ (aE h))
  exact zaD
attribute [go_sem] gM
def pO (F : Md) (c_1 : Nat) (s_5 : qd) : Option (qd ⊕ qd) :=
 ck (((0 : Int) < (s_5.length : Int)) → ((0 : Int) < (s_5.length : Int))) (if ((0 : Int) < (s_5.length : Int)) ∧ ((s_5.getD (0 : Nat) (0 : Nat)) = c_1) then ck ((1 : Int) ≤ (s_5.length : Int)) (some (.inl (List.drop (1 : Nat) s_5))) else some (.inr s_5))
def kV (F : Md) (s_0 : qd) (c_1 : Nat) : Option qd :=
 (eG F (fun d : qd => pO F c_1 d) s_0).bind (fun e => some e)
def yL : PlR := ⟨[(0, .A [0, 1]), (1, .A [0, 1, 13]), (2, .A [0, 1]), (3, .A [4])], []⟩
def zJ : Ty := .pair .str wk
def iC (F : Md) : aJ := mSpec zJ (.one .str) (fun x => kV F x.1 x.2.1)
abbrev aFJ (F : Md) : List (FuncId × aJ) := []
theorem aFK [Mx] (F : Md) : bJ Tryz.prog GL (aFJ F) := .nil
attribute [go_sem] zJ yL
theorem yM [Mx] (F : Md) : FOK Tryz.prog GL 93 (iC F) := by
 refine bT (aV (aFK F)) mix Tryz.func93 rfl xAa xAc yL fun w0 S x Θ hw h hF => ?_
 obtain ⟨(s_0 : qd), (c_1 : Nat), u⟩ := x
 simp only [bX, go_sem]
 replace h : sat (kV F s_0 c_1) _ := h
 unfold kV at h
 refine cG hF (D := qd) [1] (fun d => [(0, .val .str d)]) (fun d => []) h rfl xAb ?_
 rintro s_5 A1 T1 hA1 hE1 h
 simp only [go_sem]
 replace h : sat (pO F c_1 s_5) _ := h
 unfold pO at h
 refine aR h fun g0 h => ?_
 refine ⟨fun hc => ?_, fun hc => ?_⟩
 ·replace h := jG hc h
  refine aR h fun g0 h => ?_
  replace h := hA1 _ (aE h)
  exact zaI
 ·replace h := jH hc h
  replace h := yaF (hE1 _ (aE h))
  exact zaD
attribute [go_sem] iC
def gX (F : Md) (as_0 : wo) (c_1 : Nat) : Option Bool :=
 ck (0 ≤ ((c_1 : Nat) : Int) ∧ ((c_1 : Nat) : Int) < (256 : Int)) (some (as_0.getD c_1 false))
def sO : PlR := ⟨[(0, .A [0, 1]), (1, .A [4])], []⟩
def tL : Ty := .pair (.rp (.arr 256 .bool)) wk
def fG (F : Md) : aJ := mSpec tL (.one .bool) (fun x => gX F x.1 x.2.1)
abbrev aCn (F : Md) : List (FuncId × aJ) := []
theorem aCo [Mx] (F : Md) : bJ Tryz.prog GL (aCn F) := .nil
attribute [go_sem] tL sO
theorem sP [Mx] (F : Md) : FOK Tryz.prog GL 90 (fG F) := by
 refine bT (aV (aCo F)) mix Tryz.func90 rfl xAa xAc sO fun w0 S x Θ hw h hF => ?_
 obtain ⟨(as_0 : wo), (c_1 : Nat), u⟩ := x
 simp only [bX, go_sem]
 replace h : sat (gX F as_0 c_1) _ := h
 unfold gX at h
 refine aR h fun g0 h => ?_
 exact zaD
attribute [go_sem] fG
def pP (F : Md) (chars_0 : qd) (i_6 : Int) (as_7 : wo) : Option ((Int × wo) ⊕ (wo ⊕ (wo × wm))) :=
 if i_6 < (chars_0.length : Int) then ck (0 ≤ i_6 ∧ i_6 < (chars_0.length : Int)) (if (128 : Nat) ≤ (chars_0.getD (i_6.toNat) (0 : Nat)) then some (.inr (.inr (as_7, false, ()))) else ck (0 ≤ (((chars_0.getD (i_6.toNat) (0 : Nat)) : Nat) : Int) ∧ (((chars_0.getD (i_6.toNat) (0 : Nat)) : Nat) : Int) < (256 : Int)) (ck (I64 (i_6 + (1 : Int))) (some (.inl ((i_6 + (1 : Int)), (as_7.set (chars_0.getD (i_6.toNat) (0 : Nat)) true)))))) else some (.inr (.inl as_7))
def iX (F : Md) (chars_0 : qd) : Option (wo × wm) :=
 (eG F (fun d : Int × wo => pP F chars_0 d.1 d.2) ((0 : Int), (List.replicate 256 false))).bind (fun e => match e with | (.inl e) => some (e, true, ()) | (.inr e) => some e)
def yN : PlR := ⟨[(0, .B [0, 2]), (1, .A [0, 2, 4]), (2, .A [0, 2, 4, 9]), (3, .A [0, 2, 4]), (4, .A [0, 2, 4, 5]), (5, .A [0, 2, 4, 5, 16]), (6, .B [2, 3]), (7, .B [0, 2, 4]), (8, .B [2, 3])], []⟩
def zK : Ty := .pair .str .unit
def eZ (F : Md) : aJ := mSpec zK (.tup (.pair (.arr 256 .bool) ws)) (fun x => iX F x.1)
abbrev aFL (F : Md) : List (FuncId × aJ) := []
theorem aFM [Mx] (F : Md) : bJ Tryz.prog GL (aFL F) := .nil
attribute [go_sem] zK yN
theorem rB [Mx] (F : Md) : FOK Tryz.prog GL 46 (eZ F) := by
 refine bT (aV (aFM F)) mix Tryz.func46 rfl xAa xAc yN fun w0 S x Θ hw h hF => ?_
 obtain ⟨(chars_0 : qd), u⟩ := x
 simp only [bX, go_sem]
 replace h : sat (iX F chars_0) _ := h
 unfold iX at h
 refine cG hF (D := Int × wo) [0] (fun d => [(2, .ptr 0 []), (4, .val qe d.1)]) (fun d => [.inr (.box 256 (.val (.arr 256 .bool) d.2))]) h rfl xAb ?_
 rintro ⟨i_6, as_7⟩ A2 T2 hA2 hE2 h
 simp only [go_sem]
 replace h : sat (pP F chars_0 i_6 as_7) _ := h
 unfold pP at h
 refine fI h (fun hc h => ?_) fun hc h => ?_
 ·obtain ⟨g0, h⟩ := aS h
  repeat (refine ⟨by omega, ?_⟩)
  refine eH h (fun hc h => ?_) fun hc h => ?_
  ·replace h := yaF (hE2 _ (aE h))
   exact aL hF [.cell 2 102, .tmp 3] rfl rfl rfl (aE h) xAd
  ·obtain ⟨g0, h⟩ := aS h
   repeat (refine ⟨by omega, ?_⟩)
   obtain ⟨g0, h⟩ := aS h
   repeat (refine ⟨by omega, ?_⟩)
   replace h := hA2 _ (aE h)
   exact zaI
 ·replace h := yaF (hE2 _ (aE h))
  exact aL hF [.cell 2 102, .tmp 3] rfl rfl rfl (aE h) xAd
attribute [go_sem] eZ
def nW (F : Md) (as_1 : wo) (s_11 : qd) : Option (qd ⊕ qd) :=
 if (0 : Int) < (s_11.length : Int) then ck (I64 ((s_11.length : Int) - (1 : Int))) (ck (0 ≤ ((s_11.length : Int) - (1 : Int)) ∧ ((s_11.length : Int) - (1 : Int)) < (s_11.length : Int)) ((gX F as_1 (s_11.getD ((s_11.length : Int) - (1 : Int)).toNat (0 : Nat))).bind (fun v_21 => if ¬ (v_21 = true) then some (.inr s_11) else ck (I64 ((s_11.length : Int) - (1 : Int))) (ck (0 ≤ ((s_11.length : Int) - (1 : Int)) ∧ ((s_11.length : Int) - (1 : Int)) ≤ (s_11.length : Int)) (some (.inl (List.take ((s_11.length : Int) - (1 : Int)).toNat s_11))))))) else some (.inr s_11)
def jQ (F : Md) (s_0 : qd) (as_1 : wo) : Option qd :=
 (eG F (fun d : qd => nW F as_1 d) s_0).bind (fun e => some e)
def vN : PlR := ⟨[(0, .A [0, 1]), (1, .A [0, 1, 7]), (2, .A [0, 1, 15]), (3, .A [0, 1]), (4, .A [4])], []⟩
def wL : Ty := .pair .str (.pair (.rp (.arr 256 .bool)) .unit)
def gB (F : Md) : aJ := mSpec wL (.one .str) (fun x => jQ F x.1 x.2.1)
abbrev wM (F : Md) : List (FuncId × aJ) := [(90, (fG F))]
theorem aEg [Mx] (F : Md) : bJ Tryz.prog GL (wM F) := .cons (sP F) xAa (.nil)
attribute [go_sem] wL vN
theorem vO [Mx] (F : Md) : FOK Tryz.prog GL 47 (gB F) := by
 refine bT (aV (aEg F)) mix Tryz.func47 rfl xAa xAc vN fun w0 S x Θ hw h hF => ?_
 obtain ⟨(s_0 : qd), (as_1 : wo), u⟩ := x
 simp only [bX, go_sem]
 replace h : sat (jQ F s_0 as_1) _ := h
 unfold jQ at h
 refine cG hF (D := qd) [1] (fun d => [(0, .val .str d)]) (fun d => []) h rfl xAb ?_
 rintro s_11 A1 T1 hA1 hE1 h
 simp only [go_sem]
 replace h : sat (nW F as_1 s_11) _ := h
 unfold nW at h
 refine fI h (fun hc h => ?_) fun hc h => ?_
 ·refine aR h fun g0 h => aR h fun g1 h => ?_
  obtain ⟨v_21, hv, h⟩ := aP h
  try simp only [hv, go_sem]
  refine aEb h (fun hc h => ?_) fun hc h => ?_
  ·replace h := yaF (hE1 _ (aE h))
   exact zaD
  ·refine aR h fun g0 h => aR h fun g1 h => ?_
   replace h := hA1 _ (aE h)
   exact zaI
 ·replace h := yaF (hE1 _ (aE h))
  exact zaD
attribute [go_sem] gB
def oV (F : Md) (as_1 : wo) (s_11 : qd) : Option (qd ⊕ qd) :=
 if (0 : Int) < (s_11.length : Int) then ck ((0 : Int) < (s_11.length : Int)) ((gX F as_1 (s_11.getD (0 : Nat) (0 : Nat))).bind (fun v_21 => if ¬ (v_21 = true) then some (.inr s_11) else ck ((1 : Int) ≤ (s_11.length : Int)) (some (.inl (List.drop (1 : Nat) s_11))))) else some (.inr s_11)
def kI (F : Md) (s_0 : qd) (as_1 : wo) : Option qd :=
 (eG F (fun d : qd => oV F as_1 d) s_0).bind (fun e => some e)
def wN : PlR := ⟨[(0, .A [0, 1]), (1, .A [0, 1, 7]), (2, .A [0, 1, 12]), (3, .A [0, 1]), (4, .A [4])], []⟩
def yO : Ty := .pair .str (.pair (.rp (.arr 256 .bool)) .unit)
def gN (F : Md) : aJ := mSpec yO (.one .str) (fun x => kI F x.1 x.2.1)
abbrev yP (F : Md) : List (FuncId × aJ) := [(90, (fG F))]
theorem aEH [Mx] (F : Md) : bJ Tryz.prog GL (yP F) := .cons (sP F) xAa (.nil)
attribute [go_sem] yO wN
theorem wO [Mx] (F : Md) : FOK Tryz.prog GL 94 (gN F) := by
 refine bT (aV (aEH F)) mix Tryz.func94 rfl xAa xAc wN fun w0 S x Θ hw h hF => ?_
 obtain ⟨(s_0 : qd), (as_1 : wo), u⟩ := x
 simp only [bX, go_sem]
 replace h : sat (kI F s_0 as_1) _ := h
 unfold kI at h
 refine cG hF (D := qd) [1] (fun d => [(0, .val .str d)]) (fun d => []) h rfl xAb ?_
 rintro s_11 A1 T1 hA1 hE1 h
 simp only [go_sem]
 replace h : sat (oV F as_1 s_11) _ := h
 unfold oV at h
 refine fI h (fun hc h => ?_) fun hc h => ?_
 ·refine aR h fun g0 h => ?_
  obtain ⟨v_21, hv, h⟩ := aP h
  try simp only [hv, go_sem]
  refine aEb h (fun hc h => ?_) fun hc h => ?_
  ·replace h := yaF (hE1 _ (aE h))
   exact zaD
  ·refine aR h fun g0 h => ?_
   replace h := hA1 _ (aE h)
   exact zaI
 ·replace h := yaF (hE1 _ (aE h))
  exact zaD
attribute [go_sem] gN
def mM (F : Md) (s_0 : qd) (cutset_1 : qd) : Option qd :=
 if (s_0 = (aG ⟨#[]⟩)) ∨ (cutset_1 = (aG ⟨#[]⟩)) then some s_0 else ck (((cutset_1.length : Int) = (1 : Int)) → ((0 : Int) < (cutset_1.length : Int))) (if ((cutset_1.length : Int) = (1 : Int)) ∧ ((cutset_1.getD (0 : Nat) (0 : Nat)) < (128 : Nat)) then ck ((0 : Int) < (cutset_1.length : Int)) ((kH F s_0 (cutset_1.getD (0 : Nat) (0 : Nat))).bind (fun v_19 => ck ((0 : Int) < (cutset_1.length : Int)) ((kV F v_19 (cutset_1.getD (0 : Nat) (0 : Nat))).bind (fun v_20 => some v_20)))) else (iX F cutset_1).bind (fun v_27 => if v_27.2.1 = true then (jQ F s_0 v_27.1).bind (fun v_34 => (kI F v_34 v_27.1).bind (fun v_35 => some v_35)) else none))
def aF9 : PlR := ⟨[(0, .A [0, 1]), (1, .A [0, 1, 12]), (2, .A [4]), (3, .A [0, 1, 21]), (4, .A [4]), (5, .B [0, 1, 5, 6]), (6, .A [0, 1, 5, 34]), (7, .A [4]), (8, .stop)], []⟩
def aHb : Ty := .pair .str wh
def pT (F : Md) : aJ := mSpec aHb (.one .str) (fun x => mM F x.1 x.2.1)
abbrev rC (F : Md) : List (FuncId × aJ) := [(45, (gM F)), (46, (eZ F)), (47, (gB F)), (93, (iC F)), (94, (gN F))]
theorem aO9 [Mx] (F : Md) : bJ Tryz.prog GL (rC F) := .cons (wK F) xAa (.cons (rB F) xAa (.cons (vO F) xAa (.cons (yM F) xAa (.cons (wO F) xAa (.nil)))))
attribute [go_sem] aHb aF9
theorem aGa [Mx] (F : Md) : FOK Tryz.prog GL 96 (pT F) := by
 refine bT (aV (aO9 F)) mix Tryz.func96 rfl xAa xAc aF9 fun w0 S x Θ hw h hF => ?_
 obtain ⟨(s_0 : qd), (cutset_1 : qd), u⟩ := x
 simp only [bX, go_sem]
 replace h : sat (mM F s_0 cutset_1) _ := h
 unfold mM at h
 refine ⟨fun hc => ?_, fun hc => ?_⟩
 ·replace h := jG hc h
  exact zaD
 ·replace h := jH hc h
  refine aR h fun g0 h => ?_
  refine ⟨fun hc => ?_, fun hc => ?_⟩
  ·replace h := jG hc h
   refine aR h fun g0 h => ?_
   obtain ⟨v_19, hv, h⟩ := aP h
   try simp only [hv, go_sem]
   refine aR h fun g0 h => ?_
   obtain ⟨v_20, hv, h⟩ := aP h
   exact zaR
  ·replace h := jH hc h
   obtain ⟨v_27, hv, h⟩ := aP h
   try simp only [hv, go_sem]
   refine aG5 h (fun hc h => ?_) fun hc h => ?_
   ·obtain ⟨v_34, hv, h⟩ := aP h
    try simp only [hv, go_sem]
    obtain ⟨v_35, hv, h⟩ := aP h
    exact zaR
   ·exact aBi h
attribute [go_sem] pT
def oO (F : Md) : Option qw :=
 some ([(aG ⟨#[116]⟩), (aG ⟨#[115, 113, 114]⟩), (aG ⟨#[115, 113, 114, 116]⟩), (aG ⟨#[101, 120, 112]⟩), (aG ⟨#[112, 114, 101, 99]⟩), (aG ⟨#[101, 110, 100]⟩), (aG ⟨#[115, 116, 101, 112]⟩), (aG ⟨#[116, 111, 108]⟩), (aG ⟨#[116, 114, 105, 101, 115]⟩), (aG ⟨#[111, 114, 100, 101, 114]⟩), (aG ⟨#[106, 97, 99, 111, 98, 105]⟩), (aG ⟨#[115, 101, 105, 100, 101, 108]⟩), (aG ⟨#[115, 117, 98]⟩), (aG ⟨#[115, 116, 97, 116, 101]⟩), (aG ⟨#[112, 97, 114]⟩), (aG ⟨#[105, 110]⟩), (aG ⟨#[111, 117, 116]⟩), (aG ⟨#[100, 101, 114]⟩), (aG ⟨#[108, 105, 110, 107]⟩)] : List qd)
def aDL : PlR := ⟨[(0, .A []), (1, .A [0])], []⟩
def aEI : Ty := .unit
def tM (F : Md) : aJ := mSpec aEI (.one wg) (fun x => oO F )
abbrev aLw (F : Md) : List (FuncId × aJ) := []
theorem aLx [Mx] (F : Md) : bJ Tryz.prog GL (aLw F) := .nil
attribute [go_sem] aEI aDL
theorem aKd [Mx] (F : Md) : FOK Tryz.prog GL 118 (tM F) := by
 refine bT (aV (aLx F)) mix Tryz.func118 rfl xAa xAc aDL fun w0 S x Θ hw h hF => ?_
 simp only [bX, go_sem]
 replace h : sat (oO F) _ := h
 unfold oO at h
 exact aL hF [.tmp 0] rfl rfl rfl (aE h) (by (simp only [aU, go_sem]) <;> first | rfl | (simp; done))
attribute [go_sem] tM
def qM (F : Md) (s_0 : qw) (v_1 : qd) (x8_5 : Int) : Option ((Int) ⊕ ((Unit) ⊕ Int)) :=
 if x8_5 < (s_0.length : Int) then ck (0 ≤ x8_5 ∧ x8_5 < (s_0.length : Int)) (if v_1 = (s_0.getD (x8_5.toNat) ([] : List Nat)) then some (.inr (.inr x8_5)) else ck (I64 (x8_5 + (1 : Int))) (some (.inl (x8_5 + (1 : Int))))) else some (.inr (.inl ()))
def pG (F : Md) (s_0 : qw) (v_1 : qd) : Option Int :=
 (eG F (fun d : Int => qM F s_0 v_1 d) (0 : Int)).bind (fun e => match e with | (.inl e) => some (-1 : Int) | (.inr e) => some e)
def zL : PlR := ⟨[(0, .A [0, 1]), (1, .A [0, 1, 7, 8]), (2, .A [0, 1, 7, 8, 9]), (3, .A [0, 1, 5, 7, 8]), (4, .A [0, 1, 5, 7, 8, 16]), (5, .A [4]), (6, .A [0, 1, 7, 8]), (7, .A [4])], []⟩
def aAy : Ty := .pair wg wh
def nX (F : Md) : aJ := mSpec aAy (.one qe) (fun x => pG F x.1 x.2.1)
abbrev aGw (F : Md) : List (FuncId × aJ) := []
theorem aGx [Mx] (F : Md) : bJ Tryz.prog GL (aGw F) := .nil
attribute [go_sem] aAy zL
theorem aFN [Mx] (F : Md) : FOK Tryz.prog GL 160 (nX F) := by
 refine bT (aV (aGx F)) mix Tryz.func160 rfl xAa xAc zL fun w0 S x Θ hw h hF => ?_
 obtain ⟨(s_0 : qw), (v_1 : qd), u⟩ := x
 simp only [bX, go_sem]
 replace h : sat (pG F s_0 v_1) _ := h
 unfold pG at h
 refine cG hF (D := Int) [0, 1, 7] (fun d => [(8, .val qe d)]) (fun d => []) h rfl xAb ?_
 rintro x8_5 A2 T2 hA2 hE2 h
 simp only [go_sem]
 replace h : sat (qM F s_0 v_1 x8_5) _ := h
 unfold qM at h
 refine fI h (fun hc h => ?_) fun hc h => ?_
 ·refine aR h fun g0 h => ?_
  refine eH h (fun hc h => ?_) fun hc h => ?_
  ·replace h := yaF (hE2 _ (aE h))
   exact zaD
  ·refine aR h fun g0 h => ?_
   replace h := hA2 _ (aE h)
   exact zaI
 ·replace h := yaF (hE2 _ (aE h))
  exact zaD
attribute [go_sem] nX
def fP (F : Md) (s_0 : qw) (v_1 : qd) : Option Bool :=
 (pG F s_0 v_1).bind (fun v_6 => some (decide ((0 : Int) ≤ v_6)))
def vP : PlR := ⟨[(0, .A [0, 1]), (1, .A [4])], []⟩
def wP : Ty := .pair wg wh
def gC (F : Md) : aJ := mSpec wP (.one .bool) (fun x => fP F x.1 x.2.1)
abbrev wQ (F : Md) : List (FuncId × aJ) := [(160, (nX F))]
theorem aEh [Mx] (F : Md) : bJ Tryz.prog GL (wQ F) := .cons (aFN F) xAa (.nil)
attribute [go_sem] wP vP
theorem vQ [Mx] (F : Md) : FOK Tryz.prog GL 117 (gC F) := by
 refine bT (aV (aEh F)) mix Tryz.func117 rfl xAa xAc vP fun w0 S x Θ hw h hF => ?_
 obtain ⟨(s_0 : qw), (v_1 : qd), u⟩ := x
 simp only [bX, go_sem]
 replace h : sat (fP F s_0 v_1) _ := h
 unfold fP at h
 obtain ⟨v_6, hv, h⟩ := aP h
 exact zaR
attribute [go_sem] gC
def eX (F : Md) (s_0 : qd) : Option Bool :=
 ck (¬ (((s_0.length : Int) < (1 : Int)) ∨ ((20 : Int) < (s_0.length : Int))) → ((0 : Int) < (s_0.length : Int))) (ck (¬ ((((s_0.length : Int) < (1 : Int)) ∨ ((20 : Int) < (s_0.length : Int))) ∨ ((s_0.getD (0 : Nat) (0 : Nat)) < (97 : Nat))) → ((0 : Int) < (s_0.length : Int))) (if ((((s_0.length : Int) < (1 : Int)) ∨ ((20 : Int) < (s_0.length : Int))) ∨ ((s_0.getD (0 : Nat) (0 : Nat)) < (97 : Nat))) ∨ ((122 : Nat) < (s_0.getD (0 : Nat) (0 : Nat))) then some false else (mM F s_0 (aG aFI)).bind (fun v_5 => ck ((v_5 = (aG ⟨#[]⟩)) → ((oO F).isSome = true)) (ck ((v_5 = (aG ⟨#[]⟩)) → ((fP F ((oO F).getD ([] : List qd)) s_0).isSome = true)) (some ((decide (v_5 = (aG ⟨#[]⟩))) && (!((fP F ((oO F).getD ([] : List qd)) s_0).getD false))))))))
def aIo : PlR := ⟨[(0, .A [0]), (1, .A [0, 20]), (2, .A [2]), (3, .A [2])], []⟩
def aKe : Ty := .pair .str .unit
def oM (F : Md) : aJ := mSpec aKe (.one .bool) (fun x => eX F x.1)
abbrev aCq (F : Md) : List (FuncId × aJ) := [(117, (gC F)), (118, (tM F)), (96, (pT F))]
theorem aRq [Mx] (F : Md) : bJ Tryz.prog GL (aCq F) := .cons (vQ F) xAa (.cons (aKd F) xAa (.cons (aGa F) xAa (.nil)))
attribute [go_sem] aKe aIo
theorem aEi [Mx] (F : Md) : FOK Tryz.prog GL 78 (oM F) := by
 refine bT (aV (aRq F)) mix Tryz.func78 rfl xAa xAc aIo fun w0 S x Θ hw h hF => ?_
 obtain ⟨(s_0 : qd), u⟩ := x
 simp only [bX, go_sem]
 replace h : sat (eX F s_0) _ := h
 unfold eX at h
 obtain ⟨g0, h⟩ := aS h
 obtain ⟨g1, h⟩ := aS h
 repeat (refine ⟨zAE, ?_⟩)
 refine ⟨fun hc => ?_, fun hc => ?_⟩
 ·replace h := jG hc h
  exact zaF
 ·replace h := jH hc h
  obtain ⟨v_5, hv, h⟩ := aP h
  try simp only [hv, go_sem]
  obtain ⟨g0, h⟩ := aS h
  obtain ⟨g1, h⟩ := aS h
  repeat (refine ⟨zAE, ?_⟩)
  exact zaF
attribute [go_sem] oM
end
end Nu
end Go.Proofs
namespace Go.Proofs
open Go.Vc
set_option maxRecDepth 20000
namespace Nu
noncomputable section
set_option maxHeartbeats 4000000
def rT (F : Md) : Option wv :=
 none
def rU (F : Md) (s_0 : qd) (n_14 : Int) : Option wv :=
 ck ((0 : Int) < (s_0.length : Int)) (if (s_0.getD (0 : Nat) (0 : Nat)) = (45 : Nat) then ck (I64 (0 - n_14)) (some ((0 - n_14), (), ())) else some (n_14, (), ()))
def vZ (F : Md) (s_9 : qd) (n_15 : Int) (x49_16 : Int) : Option (wj ⊕ ((Int) ⊕ wv)) :=
 if x49_16 < (s_9.length : Int) then ck (0 ≤ x49_16 ∧ x49_16 < (s_9.length : Int)) (if (9 : Nat) < (aBg F .u8 (s_9.getD (x49_16.toNat) (0 : Nat)) (48 : Nat)) then none else ck (I64 (n_15 * (10 : Int))) (ck (I64 ((n_15 * (10 : Int)) + (((aBg F .u8 (s_9.getD (x49_16.toNat) (0 : Nat)) (48 : Nat)) : Nat) : Int))) (ck (I64 (x49_16 + (1 : Int))) (some (.inl (((n_15 * (10 : Int)) + (((aBg F .u8 (s_9.getD (x49_16.toNat) (0 : Nat)) (48 : Nat)) : Nat) : Int)), (x49_16 + (1 : Int)))))))) else some (.inr (.inl n_15))
def oW (F : Md) (s_0 : qd) (s_9 : qd) : Option wv :=
 (eG F (fun d : Int × Int => vZ F s_9 d.1 d.2) ((0 : Int), (0 : Int))).bind (fun e => match e with | (.inl e) => rU F s_0 e | (.inr e) => some e)
def xH (F : Md) (s_0 : qd) : Option wv :=
 if ((False) ∧ (((0 : Int) < (s_0.length : Int)) ∧ ((s_0.length : Int) < (10 : Int)))) ∨ ((True) ∧ (((0 : Int) < (s_0.length : Int)) ∧ ((s_0.length : Int) < (19 : Int)))) then ck ((0 : Int) < (s_0.length : Int)) (ck (¬ ((s_0.getD (0 : Nat) (0 : Nat)) = (45 : Nat)) → ((0 : Int) < (s_0.length : Int))) (if ((s_0.getD (0 : Nat) (0 : Nat)) = (45 : Nat)) ∨ ((s_0.getD (0 : Nat) (0 : Nat)) = (43 : Nat)) then ck ((1 : Int) ≤ (s_0.length : Int)) (if (((List.drop (1 : Nat) s_0).length : Nat) : Int) < (1 : Int) then none else oW F s_0 (List.drop (1 : Nat) s_0)) else oW F s_0 s_0)) else rT F
def aEJ : PlR := ⟨[(0, .A [0]), (1, .A [0, 4]), (2, .A [0, 30]), (3, .A [0, 5]), (4, .A [0, 5, 39]), (5, .A [0, 5]), (6, .A [0, 5, 44]), (7, .A [2, 3]), (8, .A [0, 5, 6]), (9, .A [5, 6, 47, 48, 49]), (10, .A [5, 6, 47, 48, 49, 50]), (11, .A [5, 6, 8, 47, 48, 49]), (12, .A [5, 6, 8, 47, 48, 49]), (13, .A [5, 6, 8, 47, 48, 49, 56]), (14, .A [2, 3]), (15, .A [5, 6, 47, 48, 49]), (16, .A [5, 6, 47, 48, 49]), (17, .A [6, 66]), (18, .A [6]), (19, .A [2, 3]), (20, .stop)], [(5, 23), (7, 11), (12, 20)]⟩
def aGb : Ty := .pair .str .unit
def uU (F : Md) : aJ := mSpec aGb (.tup (.pair qe (.pair .nili .unit))) (fun x => xH F x.1)
abbrev aNc (F : Md) : List (FuncId × aJ) := []
theorem aNd [Mx] (F : Md) : bJ Tryz.prog GL (aNc F) := .nil
attribute [go_sem] aGb aEJ
theorem aLA [Mx] (F : Md) : FOK Tryz.prog GL 131 (uU F) := by
 refine bT (aV (aNd F)) mix Tryz.func131 rfl xAa xAc aEJ fun w0 S x Θ hw h hF => ?_
 obtain ⟨(s_0 : qd), u⟩ := x
 simp only [bX, go_sem]
 replace h : sat (xH F s_0) _ := h
 unfold xH at h
 refine eY hF (D := Unit) (fun d => sat (rT F) Θ) [0] (fun d => []) (fun d => []) ?_ ?_
 ·simp only [go_sem, dI F, dJ F, dK F]
  refine ⟨fun hc => ?_, fun hc => ?_⟩
  ·replace h := jG zAB h
   refine eY hF (D := qd) (fun d => sat (oW F s_0 d) Θ) [5] (fun d => [(0, .val .str d)]) (fun d => []) ?_ ?_
   ·simp only [go_sem, dI F, dJ F, dK F]
    refine aR h fun g0 h => aR h fun g1 h => ?_
    refine ⟨fun hc => ?_, fun hc => ?_⟩
    ·replace h := jG hc h
     refine aR h fun g0 h => ?_
     refine fI h (fun hc h => ?_) fun hc h => ?_
     ·exact aBi h
     ·exact aZ (List.drop (1 : Nat) s_0) h rfl xAe
    ·replace h := jH hc h
     exact aZ (s_0) h rfl xAe
   ·rintro s_9 h
    simp only [go_sem, dI F, dJ F, dK F]
    replace h : sat (oW F s_0 s_9) _ := h
    unfold oW at h
    refine eY hF (D := Int) (fun d => sat (rU F s_0 d) Θ) [5] (fun d => [(6, .val qe d)]) (fun d => []) ?_ ?_
    ·simp only [go_sem, dI F, dJ F, dK F]
     refine cG hF (D := Int × Int) [5, 47, 48] (fun d => [(6, .val qe d.1), (49, .val qe d.2)]) (fun d => []) h rfl xAe ?_
     rintro ⟨n_15, x49_16⟩ A10 T10 hA10 hE10 h
     simp only [go_sem, dI F, dJ F, dK F]
     replace h : sat (vZ F s_9 n_15 x49_16) _ := h
     unfold vZ at h
     refine fI h (fun hc h => ?_) fun hc h => ?_
     ·refine aR h fun g0 h => ?_
      refine eH h (fun hc h => ?_) fun hc h => ?_
      ·exact aBi h
      ·refine aR h fun g0 h => aR h fun g1 h => ?_
       refine aR h fun g0 h => ?_
       replace h := hA10 _ (aE h)
       exact aZ _ h rfl xAe
     ·replace h := yaF (hE10 _ (aE h))
      exact aZ (n_15) h rfl xAe
    ·rintro n_14 h
     simp only [go_sem, dI F, dJ F, dK F]
     replace h : sat (rU F s_0 n_14) _ := h
     unfold rU at h
     refine aR h fun g0 h => ?_
     refine eH h (fun hc h => ?_) fun hc h => ?_
     ·refine aR h fun g0 h => ?_
      exact aL hF [.tmp 2, .tmp 3] rfl rfl rfl (aE h) xAf
     ·exact aL hF [.tmp 2, .tmp 3] rfl rfl rfl (aE h) xAf
  ·replace h := jH zAB h
   exact aZ () h rfl xAe
 ·rintro u h
  simp only [go_sem, dI F, dJ F, dK F]
  replace h : sat (rT F) _ := h
  unfold rT at h
  exact aBi h
attribute [go_sem] uU
def oX (F : Md) (s_0 : qd) : Option wv :=
 (xH F s_0).bind (fun v_5 => some (v_5.1, (), ()))
def aGc : PlR := ⟨[(0, .A [0]), (1, .A [0, 4, 5]), (2, .A [0, 4, 5, 12]), (4, .A [2, 3])], []⟩
def aHc : Ty := .pair .str .unit
def lM (F : Md) : aJ := mSpec aHc (.tup (.pair qe (.pair .nili .unit))) (fun x => oX F x.1)
abbrev aHd (F : Md) : List (FuncId × aJ) := [(131, (uU F))]
theorem aPa [Mx] (F : Md) : bJ Tryz.prog GL (aHd F) := .cons (aLA F) xAa (.nil)
attribute [go_sem] aHc aGc
theorem aBC [Mx] (F : Md) : FOK Tryz.prog GL 97 (lM F) := by
 refine bT (aV (aPa F)) mix Tryz.func97 rfl xAa xAc aGc fun w0 S x Θ hw h hF => ?_
 obtain ⟨(s_0 : qd), u⟩ := x
 simp only [bX, go_sem]
 replace h : sat (oX F s_0) _ := h
 unfold oX at h
 obtain ⟨v_5, hv, h⟩ := aP h
 try simp only [hv, go_sem]
 exact aL hF [.tmp 2, .tmp 3] rfl rfl rfl (aE h) xAd
attribute [go_sem] lM
def aBD (F : Md) (at_1 : Int) (s_0 : qd) (n_5 : Int) : Option ((Int) ⊕ (Int)) :=
 ck (I64 (at_1 + n_5)) (ck (((at_1 + n_5) < (s_0.length : Int)) → (I64 (at_1 + n_5))) (ck (((at_1 + n_5) < (s_0.length : Int)) → (0 ≤ (at_1 + n_5) ∧ (at_1 + n_5) < (s_0.length : Int))) (ck ((((at_1 + n_5) < (s_0.length : Int)) ∧ ((48 : Nat) ≤ (s_0.getD (at_1 + n_5).toNat (0 : Nat)))) → (I64 (at_1 + n_5))) (ck ((((at_1 + n_5) < (s_0.length : Int)) ∧ ((48 : Nat) ≤ (s_0.getD (at_1 + n_5).toNat (0 : Nat)))) → (0 ≤ (at_1 + n_5) ∧ (at_1 + n_5) < (s_0.length : Int))) (if (((at_1 + n_5) < (s_0.length : Int)) ∧ ((48 : Nat) ≤ (s_0.getD (at_1 + n_5).toNat (0 : Nat)))) ∧ ((s_0.getD (at_1 + n_5).toNat (0 : Nat)) ≤ (57 : Nat)) then ck (I64 (n_5 + (1 : Int))) (some (.inl (n_5 + (1 : Int)))) else some (.inr n_5))))))
def nY (F : Md) (s_0 : qd) (at_1 : Int) : Option Int :=
 (eG F (fun d : Int => aBD F at_1 s_0 d) (0 : Int)).bind (fun e => some e)
def aIp : PlR := ⟨[(0, .A [0, 1]), (1, .A [0, 1, 5]), (2, .A [0, 1, 5, 27]), (3, .A [0, 1, 5]), (4, .A [4])], []⟩
def aKf : Ty := .pair .str q9
def sY (F : Md) : aJ := mSpec aKf (.one qe) (fun x => nY F x.1 x.2.1)
abbrev aRr (F : Md) : List (FuncId × aJ) := []
theorem aRs [Mx] (F : Md) : bJ Tryz.prog GL (aRr F) := .nil
attribute [go_sem] aKf aIp
theorem aIq [Mx] (F : Md) : FOK Tryz.prog GL 134 (sY F) := by
 refine bT (aV (aRs F)) mix Tryz.func134 rfl xAa xAc aIp fun w0 S x Θ hw h hF => ?_
 obtain ⟨(s_0 : qd), (at_1 : Int), u⟩ := x
 simp only [bX, go_sem]
 replace h : sat (nY F s_0 at_1) _ := h
 unfold nY at h
 refine cG hF (D := Int) [0, 1] (fun d => [(5, .val qe d)]) (fun d => []) h rfl xAb ?_
 rintro n_5 A2 T2 hA2 hE2 h
 simp only [go_sem]
 replace h : sat (aBD F at_1 s_0 n_5) _ := h
 unfold aBD at h
 refine aR h fun g0 h => aR h fun g1 h => aR h fun g2 h => aR h fun g3 h => aR h fun g4 h => ?_
 refine ⟨fun hc => ?_, fun hc => ?_⟩
 ·replace h := jG hc h
  refine aR h fun g0 h => ?_
  replace h := hA2 _ (aE h)
  exact zaI
 ·replace h := jH hc h
  replace h := yaF (hE2 _ (aE h))
  exact zaD
attribute [go_sem] sY
def rD (F : Md) (all_9 : qd) (s_0 : qd) (at_17 : Int) (pow_18 : Int) : Option (qd × (Int × wm)) :=
 some (all_9, pow_18, (decide (at_17 = (s_0.length : Int))), ())
def rE (F : Md) (pow_10 : Int) (at_19 : Int) (v_23 : Int) (all_9 : qd) (s_0 : qd) (x_28 : Int) : Option (qd × (Int × wm)) :=
 ck (I64 (pow_10 + x_28)) (ck (I64 (at_19 + v_23)) (rD F all_9 s_0 (at_19 + v_23) (pow_10 + x_28)))
def rF (F : Md) (s_0 : qd) (at_8 : Int) (pow_10 : Int) (all_9 : qd) (at_19 : Int) : Option (qd × (Int × wm)) :=
 (nY F s_0 at_19).bind (fun v_23 => if (v_23 < (1 : Int)) ∨ ((3 : Int) < v_23) then some ((aG ⟨#[]⟩), (0 : Int), false, ()) else ck (I64 (at_19 + v_23)) (ck (0 ≤ at_19 ∧ at_19 ≤ (at_19 + v_23) ∧ (at_19 + v_23) ≤ (s_0.length : Int)) ((oX F (List.drop (at_19.toNat) (List.take (at_19 + v_23).toNat s_0))).bind (fun v_27 => if (100 : Int) < v_27.1 then some ((aG ⟨#[]⟩), (0 : Int), false, ()) else if ((at_8 + (1 : Int)) < (s_0.length : Int)) ∧ ((s_0.getD (at_8 + (1 : Int)).toNat (0 : Nat)) = (45 : Nat)) then ck (I64 (0 - v_27.1)) (rE F pow_10 at_19 v_23 all_9 s_0 (0 - v_27.1)) else rE F pow_10 at_19 v_23 all_9 s_0 v_27.1))))
def rG (F : Md) (s_0 : qd) (at_8 : Int) (all_9 : qd) (pow_10 : Int) : Option (qd × (Int × wm)) :=
 ck ((at_8 < (s_0.length : Int)) → (0 ≤ at_8 ∧ at_8 < (s_0.length : Int))) (if (at_8 < (s_0.length : Int)) ∧ ((s_0.getD (at_8.toNat) (0 : Nat)) = (101 : Nat)) then ck (I64 (at_8 + (1 : Int))) (ck (((at_8 + (1 : Int)) < (s_0.length : Int)) → (0 ≤ (at_8 + (1 : Int)) ∧ (at_8 + (1 : Int)) < (s_0.length : Int))) (ck (¬ (((at_8 + (1 : Int)) < (s_0.length : Int)) ∧ ((s_0.getD (at_8 + (1 : Int)).toNat (0 : Nat)) = (45 : Nat))) → ((at_8 + (1 : Int)) < (s_0.length : Int)) → (0 ≤ (at_8 + (1 : Int)) ∧ (at_8 + (1 : Int)) < (s_0.length : Int))) (if (((at_8 + (1 : Int)) < (s_0.length : Int)) ∧ ((s_0.getD (at_8 + (1 : Int)).toNat (0 : Nat)) = (45 : Nat))) ∨ (((at_8 + (1 : Int)) < (s_0.length : Int)) ∧ ((s_0.getD (at_8 + (1 : Int)).toNat (0 : Nat)) = (43 : Nat))) then ck (I64 ((at_8 + (1 : Int)) + (1 : Int))) (rF F s_0 at_8 pow_10 all_9 ((at_8 + (1 : Int)) + (1 : Int))) else rF F s_0 at_8 pow_10 all_9 (at_8 + (1 : Int))))) else rD F all_9 s_0 at_8 pow_10)
def sZ (F : Md) (s_0 : qd) : Option (qd × (Int × wm)) :=
 (nY F s_0 (0 : Int)).bind (fun v_5 => ck (0 ≤ v_5 ∧ v_5 ≤ (s_0.length : Int)) (if ((60 : Int) < (s_0.length : Int)) ∨ (v_5 = (0 : Int)) then some ((aG ⟨#[]⟩), (0 : Int), false, ()) else ck ((v_5 < (s_0.length : Int)) → (0 ≤ v_5 ∧ v_5 < (s_0.length : Int))) (if (v_5 < (s_0.length : Int)) ∧ ((s_0.getD (v_5.toNat) (0 : Nat)) = (46 : Nat)) then ck (I64 (v_5 + (1 : Int))) ((nY F s_0 (v_5 + (1 : Int))).bind (fun v_32 => if v_32 = (0 : Int) then some ((aG ⟨#[]⟩), (0 : Int), false, ()) else ck (I64 (v_5 + (1 : Int))) (ck (I64 (v_5 + (1 : Int))) (ck (I64 ((v_5 + (1 : Int)) + v_32)) (ck (0 ≤ (v_5 + (1 : Int)) ∧ (v_5 + (1 : Int)) ≤ ((v_5 + (1 : Int)) + v_32) ∧ ((v_5 + (1 : Int)) + v_32) ≤ (s_0.length : Int)) (ck ((List.take (v_5.toNat) s_0).length + (List.drop (v_5 + (1 : Int)).toNat (List.take ((v_5 + (1 : Int)) + v_32).toNat s_0)).length ≤ 9223372036854775807) (ck (I64 (0 - v_32)) (ck (I64 (v_5 + (1 : Int))) (ck (I64 ((v_5 + (1 : Int)) + v_32)) (rG F s_0 ((v_5 + (1 : Int)) + v_32) ((List.take (v_5.toNat) s_0) ++ (List.drop (v_5 + (1 : Int)).toNat (List.take ((v_5 + (1 : Int)) + v_32).toNat s_0))) (0 - v_32))))))))))) else rG F s_0 v_5 (List.take (v_5.toNat) s_0) (0 : Int))))
def aHe : PlR := ⟨[(0, .A [0]), (1, .A [0, 5]), (2, .A [0, 5, 6, 7]), (3, .A [0, 5, 6, 7, 24]), (4, .A [2, 3, 4]), (5, .A [0, 5, 6, 7, 34]), (6, .A [0, 5, 6, 8]), (7, .A [0, 5, 6, 8, 40]), (8, .A [2, 3, 4]), (9, .A [0, 5, 6, 7]), (10, .A [0, 5, 6, 7, 66]), (11, .A [0, 5, 6, 7]), (12, .A [0, 5, 6, 7, 9]), (13, .A [0, 5, 6, 7, 9, 91]), (14, .A [0, 5, 6, 7, 9]), (15, .A [0, 5, 6, 7, 9, 10]), (16, .A [0, 5, 6, 7, 9, 10, 102]), (17, .A [2, 3, 4]), (18, .A [0, 5, 6, 7, 9, 10, 11]), (19, .A [0, 5, 6, 7, 9, 10, 11, 114]), (20, .A [2, 3, 4]), (21, .A [0, 5, 6, 7, 10, 11, 115]), (22, .A [0, 5, 6, 7, 10, 11]), (23, .A [0, 5, 6, 7]), (24, .A [2, 3, 4])], [(8, 13), (13, 27), (16, 18), (24, 26)]⟩
def aIr : Ty := .pair .str .unit
def mN (F : Md) : aJ := mSpec aIr (.tup (.pair .str (.pair qe ws))) (fun x => sZ F x.1)
abbrev aEj (F : Md) : List (FuncId × aJ) := [(134, (sY F)), (97, (lM F))]
theorem aPU [Mx] (F : Md) : bJ Tryz.prog GL (aEj F) := .cons (aIq F) xAa (.cons (aBC F) xAa (.nil))
attribute [go_sem] aIr aHe
theorem aDa [Mx] (F : Md) : FOK Tryz.prog GL 102 (mN F) := by
 refine bT (aV (aPU F)) mix Tryz.func102 rfl xAa xAc aHe fun w0 S x Θ hw h hF => ?_
 obtain ⟨(s_0 : qd), u⟩ := x
 simp only [bX, go_sem]
 replace h : sat (sZ F s_0) _ := h
 unfold sZ at h
 obtain ⟨v_5, hv, h⟩ := aP h
 try simp only [hv, go_sem]
 obtain ⟨g0, h⟩ := aS h
 repeat (refine ⟨by omega, ?_⟩)
 refine ⟨fun hc => ?_, fun hc => ?_⟩
 ·replace h := jG hc h
  exact zar
 ·replace h := jH hc h
  refine eY hF (D := Int × qd × Int) (fun d => sat (rG F s_0 d.1 d.2.1 d.2.2) Θ) [0] (fun d => [(5, .val qe d.1), (6, .val .str d.2.1), (7, .val qe d.2.2)]) (fun d => []) ?_ ?_
  ·simp only [go_sem]
   obtain ⟨g0, h⟩ := aS h
   repeat (refine ⟨by omega, ?_⟩)
   refine ⟨fun hc => ?_, fun hc => ?_⟩
   ·replace h := jG hc h
    obtain ⟨g0, h⟩ := aS h
    repeat (refine ⟨by omega, ?_⟩)
    obtain ⟨v_32, hv, h⟩ := aP h
    try simp only [hv, go_sem]
    refine eH h (fun hc h => ?_) fun hc h => ?_
    ·exact aL hF [.tmp 2, .tmp 3, .tmp 4] rfl rfl rfl (aE h) xAd
    ·obtain ⟨g0, h⟩ := aS h
     obtain ⟨g1, h⟩ := aS h
     obtain ⟨g2, h⟩ := aS h
     obtain ⟨g3, h⟩ := aS h
     obtain ⟨g4, h⟩ := aS h
     obtain ⟨g5, h⟩ := aS h
     obtain ⟨g6, h⟩ := aS h
     obtain ⟨g7, h⟩ := aS h
     repeat (refine ⟨by omega, ?_⟩)
     exact aZ (((v_5 + (1 : Int)) + v_32), ((List.take (v_5.toNat) s_0) ++ (List.drop (v_5 + (1 : Int)).toNat (List.take ((v_5 + (1 : Int)) + v_32).toNat s_0))), (0 - v_32)) h rfl xAb
   ·replace h := jH hc h
    exact aZ (v_5, (List.take (v_5.toNat) s_0), (0 : Int)) h rfl xAb
  ·rintro ⟨at_8, all_9, pow_10⟩ h
   simp only [go_sem]
   replace h : sat (rG F s_0 at_8 all_9 pow_10) _ := h
   unfold rG at h
   refine eY hF (D := Int × Int) (fun d => sat (rD F all_9 s_0 d.1 d.2) Θ) [0, 6] (fun d => [(5, .val qe d.1), (7, .val qe d.2)]) (fun d => []) ?_ ?_
   ·simp only [go_sem]
    obtain ⟨g0, h⟩ := aS h
    repeat (refine ⟨by omega, ?_⟩)
    refine ⟨fun hc => ?_, fun hc => ?_⟩
    ·replace h := jG hc h
     obtain ⟨g0, h⟩ := aS h
     repeat (refine ⟨by omega, ?_⟩)
     obtain ⟨g0, h⟩ := aS h
     repeat (refine ⟨by omega, ?_⟩)
     refine eY hF (D := Int) (fun d => sat (rF F s_0 at_8 pow_10 all_9 d) Θ) [0, 6, 7, 9] (fun d => [(5, .val qe d)]) (fun d => []) ?_ ?_
     ·simp only [go_sem]
      obtain ⟨g0, h⟩ := aS h
      repeat (refine ⟨by omega, ?_⟩)
      refine ⟨fun hc => ?_, fun hc => ?_⟩
      ·replace h := jG hc h
       obtain ⟨g0, h⟩ := aS h
       repeat (refine ⟨by omega, ?_⟩)
       exact aZ ((at_8 + (1 : Int)) + (1 : Int)) h rfl xAb
      ·replace h := jH hc h
       exact aZ (at_8 + (1 : Int)) h rfl xAb
     ·rintro at_19 h
      simp only [go_sem]
      replace h : sat (rF F s_0 at_8 pow_10 all_9 at_19) _ := h
      unfold rF at h
      obtain ⟨v_23, hv, h⟩ := aP h
      try simp only [hv, go_sem]
      refine ⟨fun hc => ?_, fun hc => ?_⟩
      ·replace h := jG hc h
       exact zar
      ·replace h := jH hc h
       obtain ⟨g0, h⟩ := aS h
       obtain ⟨g1, h⟩ := aS h
       repeat (refine ⟨by omega, ?_⟩)
       obtain ⟨v_27, hv, h⟩ := aP h
       try simp only [hv, go_sem]
       refine fI h (fun hc h => ?_) fun hc h => ?_
       ·exact aL hF [.tmp 2, .tmp 3, .tmp 4] rfl rfl rfl (aE h) xAd
       ·refine eY hF (D := Int) (fun d => sat (rE F pow_10 at_19 v_23 all_9 s_0 d) Θ) [0, 5, 6, 7, 10] (fun d => [(11, .val qe d)]) (fun d => []) ?_ ?_
        ·simp only [go_sem]
         refine ⟨fun hc => ?_, fun hc => ?_⟩
         ·replace h := jG hc h
          obtain ⟨g0, h⟩ := aS h
          repeat (refine ⟨by omega, ?_⟩)
          exact aZ (0 - v_27.1) h rfl xAb
         ·replace h := jH hc h
          exact aZ v_27.1 h rfl xAb
        ·rintro x_28 h
         simp only [go_sem]
         replace h : sat (rE F pow_10 at_19 v_23 all_9 s_0 x_28) _ := h
         unfold rE at h
         obtain ⟨g0, h⟩ := aS h
         obtain ⟨g1, h⟩ := aS h
         repeat (refine ⟨by omega, ?_⟩)
         exact aZ ((at_19 + v_23), (pow_10 + x_28)) h rfl xAb
    ·replace h := jH hc h
     exact aZ (at_8, pow_10) h rfl xAb
   ·rintro ⟨at_17, pow_18⟩ h
    simp only [go_sem]
    replace h : sat (rD F all_9 s_0 at_17 pow_18) _ := h
    unfold rD at h
    exact zar
attribute [go_sem] mN
def aDb (F : Md) (n_1 : Int) (b_0 : Nat) (m_13 : qd) (x8_14 : Int) : Option (wy ⊕ qd) :=
 if x8_14 < n_1 then (kG F m_13 ([b_0] : List Nat)).bind (fun v_23 => ck (I64 (x8_14 + (1 : Int))) (some (.inl (v_23, (x8_14 + (1 : Int)))))) else some (.inr m_13)
def uF (F : Md) (b_0 : Nat) (n_1 : Int) : Option qd :=
 (eG F (fun d : qd × Int => aDb F n_1 b_0 d.1 d.2) (([1] : List Nat), (0 : Int))).bind (fun e => some e)
def aKh : PlR := ⟨[], []⟩
def aMK : Ty := .pair qx q9
def uV (F : Md) : aJ := mSpec aMK (.one we) (fun x => uF F x.1 x.2.1)
abbrev aML (F : Md) : List (FuncId × aJ) := [(104, (gW F))]
theorem aSx [Mx] (F : Md) : bJ Tryz.prog GL (aML F) := .cons (uR F) xAa (.nil)
attribute [go_sem] aMK aKh
theorem aKi [Mx] (F : Md) : FOK Tryz.prog GL 106 (uV F) := by
 refine bT (aV (aSx F)) mix Tryz.func106 rfl xAa xAc aKh fun w0 S x Θ hw h hF => ?_
 obtain ⟨(b_0 : Nat), (n_1 : Int), u⟩ := x
 simp only [bX, go_sem]
 replace h : sat (uF F b_0 n_1) _ := h
 unfold uF at h
 refine xV hF [0, 1] (yaA ?_)
 refine xV hF [0, 1, 5] (yaA ?_)
 refine xV hF [0, 5, 7, 8] (yaA ?_)
 refine cG hF (D := qd × Int) [0, 7] (fun d => [(5, .val we d.1), (8, .val qe d.2)]) (fun d => []) h rfl xAb ?_
 rintro ⟨m_13, x8_14⟩ A3 T3 hA3 hE3 h
 simp only [go_sem]
 replace h : sat (aDb F n_1 b_0 m_13 x8_14) _ := h
 unfold aDb at h
 refine xV hF [0, 5, 7, 8, 9] (yaA ?_)
 refine fI h (fun hc h => ?_) fun hc h => ?_
 ·refine xV hF [0, 5, 7, 8] (yaA ?_)
  obtain ⟨v_23, hv, h⟩ := aP h
  try simp only [hv, go_sem]
  refine xV hF [0, 5, 7, 8] (yaA ?_)
  refine aR h fun g0 h => ?_
  replace h := hA3 _ (aE h)
  exact zaI
 ·replace h := yaF (hE3 _ (aE h))
  refine xV hF [4] (yaA ?_)
  exact zaD
attribute [go_sem] uV
def aBE (F : Md) (s_0 : qd) (m_24 : qd) (x9_25 : Int) : Option (wy ⊕ qd) :=
 if x9_25 < (s_0.length : Int) then ck (0 ≤ x9_25 ∧ x9_25 < (s_0.length : Int)) ((kG F m_24 ([10] : List Nat)).bind (fun v_44 => (aC2 F ([(aBg F .u8 (s_0.getD (x9_25.toNat) (0 : Nat)) (48 : Nat))] : List Nat)).bind (fun v_45 => (aFz F v_44 v_45).bind (fun v_46 => ck (I64 (x9_25 + (1 : Int))) (some (.inl (v_46, (x9_25 + (1 : Int))))))))) else some (.inr m_24)
def zM (F : Md) (s_0 : qd) : Option qd :=
 (eG F (fun d : qd × Int => aBE F s_0 d.1 d.2) (([] : List Nat), (0 : Int))).bind (fun e => some e)
def aIs : PlR := ⟨[], []⟩
def aKj : Ty := .pair .str .unit
def tA (F : Md) : aJ := mSpec aKj (.one we) (fun x => zM F x.1)
abbrev aCr (F : Md) : List (FuncId × aJ) := [(104, (gW F)), (145, (aDF F)), (146, (yD F))]
theorem aRt [Mx] (F : Md) : bJ Tryz.prog GL (aCr F) := .cons (uR F) xAa (.cons (aSq F) xAa (.cons (aMs F) xAa (.nil)))
attribute [go_sem] aKj aIs
theorem aIt [Mx] (F : Md) : FOK Tryz.prog GL 105 (tA F) := by
 refine bT (aV (aRt F)) mix Tryz.func105 rfl xAa xAc aIs fun w0 S x Θ hw h hF => ?_
 obtain ⟨(s_0 : qd), u⟩ := x
 simp only [bX, go_sem]
 replace h : sat (zM F s_0) _ := h
 unfold zM at h
 refine xV hF [0] ?_
 simp only [go_sem, dI F, dJ F, dK F]
 refine xV hF [0, 3] ?_
 simp only [go_sem, dI F, dJ F, dK F]
 refine xV hF [3, 7, 8, 9] ?_
 simp only [go_sem, dI F, dJ F, dK F]
 refine cG hF (D := qd × Int) [7, 8] (fun d => [(3, .val we d.1), (9, .val qe d.2)]) (fun d => []) h rfl xAe ?_
 rintro ⟨m_24, x9_25⟩ A3 T3 hA3 hE3 h
 simp only [go_sem, dI F, dJ F, dK F]
 replace h : sat (aBE F s_0 m_24 x9_25) _ := h
 unfold aBE at h
 refine xV hF [3, 7, 8, 9, 10] ?_
 simp only [go_sem, dI F, dJ F, dK F]
 refine fI h (fun hc h => ?_) fun hc h => ?_
 ·refine xV hF [3, 5, 7, 8, 9] ?_
  simp only [go_sem, dI F, dJ F, dK F]
  refine aR h fun g0 h => ?_
  refine xV hF [3, 7, 8, 9] ?_
  simp only [go_sem, dI F, dJ F, dK F]
  obtain ⟨v_44, hv, h⟩ := aP h
  try simp only [hv, go_sem, dI F, dJ F, dK F]
  obtain ⟨v_45, hv, h⟩ := aP h
  try simp only [hv, go_sem, dI F, dJ F, dK F]
  obtain ⟨v_46, hv, h⟩ := aP h
  try simp only [hv, go_sem, dI F, dJ F, dK F]
  refine xV hF [3, 7, 8, 9] ?_
  simp only [go_sem, dI F, dJ F, dK F]
  refine aR h fun g0 h => ?_
  replace h := hA3 _ (aE h)
  exact aZ _ h rfl xAe
 ·replace h := yaF (hE3 _ (aE h))
  refine xV hF [2] ?_
  simp only [go_sem, dI F, dJ F, dK F]
  exact aL hF [.tmp 2] rfl rfl rfl (aE h) xAf
attribute [go_sem] tA
def qN (F : Md) (s_0 : qd) : Option Bool :=
 (sZ F s_0).bind (fun v_5 => some v_5.2.2.1)
def aMM : PlR := ⟨[(0, .A [0]), (1, .A [5]), (2, .A [2])], []⟩
def aPb : Ty := .pair .str .unit
def rN (F : Md) : aJ := mSpec aPb (.one .bool) (fun x => qN F x.1)
abbrev aPc (F : Md) : List (FuncId × aJ) := [(102, (mN F))]
theorem aTo [Mx] (F : Md) : bJ Tryz.prog GL (aPc F) := .cons (aDa F) xAa (.nil)
attribute [go_sem] aPb aMM
theorem aHf [Mx] (F : Md) : FOK Tryz.prog GL 98 (rN F) := by
 refine bT (aV (aTo F)) mix Tryz.func98 rfl xAa xAc aMM fun w0 S x Θ hw h hF => ?_
 obtain ⟨(s_0 : qd), u⟩ := x
 simp only [bX, go_sem]
 replace h : sat (qN F s_0) _ := h
 unfold qN at h
 obtain ⟨v_5, hv, h⟩ := aP h
 try simp only [hv, go_sem]
 exact zaF
attribute [go_sem] rN
def aDM (F : Md) (s_0 : qd) : Option (qd × (qd × wm)) :=
 (sZ F s_0).bind (fun v_5 => if ¬ (v_5.2.2.1 = true) then some (([] : List Nat), ([] : List Nat), false, ()) else (zM F v_5.1).bind (fun v_18 => (uF F (10 : Nat) (max v_5.2.1 (0 : Int))).bind (fun v_19 => (kG F v_18 v_19).bind (fun v_20 => ck (I64 (0 - v_5.2.1)) ((uF F (10 : Nat) (max (0 - v_5.2.1) (0 : Int))).bind (fun v_21 => some (v_20, v_21, true, ())))))))
def aKk : PlR := ⟨[(0, .A [0]), (1, .A [5, 6, 7]), (2, .A [5, 6, 15]), (3, .A [2, 3, 4]), (4, .A [2, 3, 4])], []⟩
def aMN : Ty := .pair .str .unit
def aCs (F : Md) : aJ := mSpec aMN (.tup (.pair we (.pair we ws))) (fun x => aDM F x.1)
abbrev aBk (F : Md) : List (FuncId × aJ) := [(102, (mN F)), (104, (gW F)), (105, (tA F)), (106, (uV F))]
theorem aSy [Mx] (F : Md) : bJ Tryz.prog GL (aBk F) := .cons (aDa F) xAa (.cons (uR F) xAa (.cons (aIt F) xAa (.cons (aKi F) xAa (.nil))))
attribute [go_sem] aMN aKk
theorem aRu [Mx] (F : Md) : FOK Tryz.prog GL 155 (aCs F) := by
 refine bT (aV (aSy F)) mix Tryz.func155 rfl xAa xAc aKk fun w0 S x Θ hw h hF => ?_
 obtain ⟨(s_0 : qd), u⟩ := x
 simp only [bX, go_sem]
 replace h : sat (aDM F s_0) _ := h
 unfold aDM at h
 obtain ⟨v_5, hv, h⟩ := aP h
 try simp only [hv, go_sem]
 refine aEb h (fun hc h => ?_) fun hc h => ?_
 ·exact aL hF [.tmp 2, .tmp 3, .tmp 4] rfl rfl rfl (aE h) xAd
 ·obtain ⟨v_18, hv, h⟩ := aP h
  try simp only [hv, go_sem]
  obtain ⟨v_19, hv, h⟩ := aP h
  try simp only [hv, go_sem]
  obtain ⟨v_20, hv, h⟩ := aP h
  try simp only [hv, go_sem]
  refine aR h fun g0 h => ?_
  obtain ⟨v_21, hv, h⟩ := aP h
  try simp only [hv, go_sem]
  exact zar
attribute [go_sem] aCs
def aDN (F : Md) (s_0 : qd) : Option (qt × qp) :=
 (sZ F s_0).bind (fun v_5 => if ¬ (v_5.2.2.1 = true) then some ((false, ([] : List Nat), (0 : Int), ()), (6 : Int), ()) else (zM F v_5.1).bind (fun v_21 => (uF F (5 : Nat) (max v_5.2.1 (0 : Int))).bind (fun v_22 => (kG F v_21 v_22).bind (fun v_23 => ck (I64 (0 - v_5.2.1)) ((uF F (5 : Nat) (max (0 - v_5.2.1) (0 : Int))).bind (fun v_24 => (aCi F v_23 v_24).bind (fun v_25 => (aC8 F false v_25.1 v_5.2.1).bind (fun v_27 => if ((0 : Int) < (v_25.2.1.length : Int)) ∨ (¬ (v_27.2.1 = (0 : Int))) then some ((false, ([] : List Nat), (0 : Int), ()), (6 : Int), ()) else some (v_27.1, (0 : Int), ())))))))))
def aKl : PlR := ⟨[(0, .B [0, 2]), (1, .A [2, 4, 5, 6]), (2, .A [2, 4, 5, 18]), (3, .B [2, 3]), (4, .A [2, 5, 7, 8]), (5, .B [2, 8, 9, 10]), (6, .A [2, 9, 46]), (7, .B [2, 3]), (8, .B [2, 3])], []⟩
def aMO : Ty := .pair .str .unit
def aCt (F : Md) : aJ := mSpec aMO (.tup (.pair ql q9)) (fun x => aDN F x.1)
abbrev uG (F : Md) : List (FuncId × aJ) := [(102, (mN F)), (103, (aAY F)), (104, (gW F)), (105, (tA F)), (106, (uV F)), (107, (yH F))]
theorem aSz [Mx] (F : Md) : bJ Tryz.prog GL (uG F) := .cons (aDa F) xAa (.cons (aPP F) xAa (.cons (uR F) xAa (.cons (aIt F) xAa (.cons (aKi F) xAa (.cons (aMC F) xAa (.nil))))))
attribute [go_sem] aMO aKl
theorem aRv [Mx] (F : Md) : FOK Tryz.prog GL 67 (aCt F) := by
 refine bT (aV (aSz F)) mix Tryz.func67 rfl xAa xAc aKl fun w0 S x Θ hw h hF => ?_
 obtain ⟨(s_0 : qd), u⟩ := x
 simp only [bX, go_sem]
 replace h : sat (aDN F s_0) _ := h
 unfold aDN at h
 obtain ⟨v_5, hv, h⟩ := aP h
 try simp only [hv, go_sem]
 refine aEb h (fun hc h => ?_) fun hc h => ?_
 ·exact aL hF [.cell 2 128, .tmp 3] rfl rfl rfl (aE h) xAd
 ·obtain ⟨v_21, hv, h⟩ := aP h
  try simp only [hv, go_sem]
  obtain ⟨v_22, hv, h⟩ := aP h
  try simp only [hv, go_sem]
  obtain ⟨v_23, hv, h⟩ := aP h
  try simp only [hv, go_sem]
  refine aR h fun g0 h => ?_
  obtain ⟨v_24, hv, h⟩ := aP h
  try simp only [hv, go_sem]
  obtain ⟨v_25, hv, h⟩ := aP h
  try simp only [hv, go_sem]
  obtain ⟨v_27, hv, h⟩ := aP h
  try simp only [hv, go_sem]
  refine ⟨fun hc => ?_, fun hc => ?_⟩
  ·replace h := jG hc h
   exact aL hF [.cell 2 128, .tmp 3] rfl rfl rfl (aE h) xAd
  ·replace h := jH hc h
   exact aL hF [.cell 2 128, .tmp 3] rfl rfl rfl (aE h) xAd
attribute [go_sem] aCt
def mE (F : Md) (a_0 : qt) (b_1 : qt) (n_2 : Int) : Option Bool :=
 (aH3 F n_2 (0 : Int)).bind (fun v_5 => (aFH F b_1 v_5.1).bind (fun v_7 => ck ((v_7.2.1 = (0 : Int)) → ((aAN F a_0 v_7.1).isSome = true)) (some ((decide (v_7.2.1 = (0 : Int))) && (decide (((aAN F a_0 v_7.1).getD (0 : Int)) ≤ (0 : Int)))))))
def aIu : PlR := ⟨[(0, .B [2, 3, 4]), (1, .B [3, 4, 7]), (2, .B [3, 9, 10]), (3, .A [6])], []⟩
def aKm : Ty := .pair ql (.pair ql q9)
def aA1 (F : Md) : aJ := mSpec aKm (.one .bool) (fun x => mE F x.1 x.2.1 x.2.2.1)
abbrev aCu (F : Md) : List (FuncId × aJ) := [(110, (aFE F)), (111, (aDK F)), (69, (yI F))]
theorem aRw [Mx] (F : Md) : bJ Tryz.prog GL (aCu F) := .cons (aTm F) xAa (.cons (aSw F) xAa (.cons (aMI F) xAa (.nil)))
attribute [go_sem] aKm aIu
theorem aPV [Mx] (F : Md) : FOK Tryz.prog GL 70 (aA1 F) := by
 refine bT (aV (aRw F)) mix Tryz.func70 rfl xAa xAc aIu fun w0 S x Θ hw h hF => ?_
 obtain ⟨(a_0 : qt), (b_1 : qt), (n_2 : Int), u⟩ := x
 simp only [bX, go_sem]
 replace h : sat (mE F a_0 b_1 n_2) _ := h
 unfold mE at h
 obtain ⟨v_5, hv, h⟩ := aP h
 try simp only [hv, go_sem]
 obtain ⟨v_7, hv, h⟩ := aP h
 try simp only [hv, go_sem]
 refine aR h fun g0 h => ?_
 exact aL hF [.tmp 6] rfl rfl rfl (aE h) xAd
attribute [go_sem] aA1
end
end Nu
end Go.Proofs
