import Derived.Test.YtcpnniahnmjnpaaGreatDoorZL6
import Derived.Test.YtcpnniahnmjnpaaGreatDoorProg
import Derived.KernelRfl
import Derived.Laws.Externs
set_option linter.unusedVariables false
set_option linter.unusedSimpArgs false
namespace Go.Proofs
open Go.Vc
set_option maxRecDepth 20000
namespace Nu
noncomputable section
theorem xAa {p : Prop} (h : p := by kernel_rfl) : p := h
theorem xAb {p : Prop} (h : p := by simp only [go_sem]) : p := h
theorem xAc {p : Prop} (h : p := by decide) : p := h
theorem xAd {p : Prop} (h : p := by simp only [aS, go_sem]) : p := h
theorem xAe {p : Prop} (h : p := by simp only [go_sem, dI F, dJ F, dK F]) : p := h
theorem xAf {p : Prop} (h : p := by simp only [aS, go_sem, dI F, dJ F, dK F]) : p := h
abbrev qd := List Nat
@[go_sem]abbrev qe : Ty := .i .i64
@[go_sem]abbrev qh : Mk := .pair .no (.pair (.sl 87 .no) (.pair (.sl 123 .no) (.pair (.sl 9 .no) (.pair (.sl 89 .no) .no))))
abbrev qo := Int × (Int × (qd × Unit))
abbrev qp := Int × Unit
@[go_sem]abbrev qr : Ty := .pair .str (.pair .expr .unit)
abbrev qt := Bool × (qd × qp)
abbrev qv := qd × (qd × Unit)
abbrev qw := List qd
@[go_sem]abbrev qx : Ty := .u .u64
abbrev qz := qd × (Ex × Unit)
abbrev q8 := (Int × qp) × Unit
@[go_sem]abbrev q9 : Ty := .pair qe .unit
abbrev wa := qd × (qv × (Ex × Unit))
abbrev wc := qd × (qv × Unit)
@[go_sem]abbrev we : Ty := .sl qx
@[go_sem]abbrev wg : Ty := .pair .str .unit
@[go_sem]abbrev wh : Ty := .sl .str
abbrev wj := Int × Int
@[go_sem]abbrev wl : Ty := .arr 2 qe
abbrev wm := Bool × Unit
@[go_sem]abbrev wn : Ty := .pair qx (.pair qx .unit)
abbrev wo := List Bool
abbrev wq := qw × Unit
@[go_sem]abbrev ws : Ty := .pair .bool .unit
abbrev wt := List qz
abbrev wv := Int × (Unit × Unit)
@[go_sem]abbrev ww : Ty := .u .u8
abbrev wx := List Ex
@[go_sem]abbrev wy : Ty := .pair (.rp wh) .unit
abbrev wz := qd × Int
abbrev qc := qd × ((List wa) × ((List wc) × (qw × (wt × Unit))))
@[go_sem]abbrev qg : Ty := .pair .str wg
abbrev qi := qd × (Int × qp)
@[go_sem]abbrev qk : Ty := .pair qe (.pair qe wg)
@[go_sem]abbrev ql : Ty := .pair .bool (.pair we q9)
abbrev qm := qd × (qd × qv)
@[go_sem]abbrev qn : Ty := .pair qe q9
@[go_sem]abbrev qq : Ty := .pair .str (.pair qg (.pair .expr .unit))
@[go_sem]abbrev qs : Ty := .pair .str (.pair .str qg)
@[go_sem]abbrev qu : Ty := .pair .str (.pair qg .unit)
@[go_sem]abbrev qy : Ty := .pair .str qn
abbrev wb := Ex × qi
abbrev wd := List qm
@[go_sem]abbrev wi : Ty := .pair qn .unit
@[go_sem]abbrev wk : Ty := .pair ww .unit
abbrev wu := List qc
@[go_sem]abbrev qa : Ty := .pair .str (.pair (.sl qq) (.pair (.sl qu) (.pair wh (.pair (.sl qr) .unit))))
abbrev qf := Int × (Int × (Int × (Int × (qd × (qd × (qd × (qd × (wu × (wd × Unit)))))))))
@[go_sem]abbrev qj : Ty := .pair qe (.pair qe (.pair qe (.pair qe (.pair .str (.pair .str (.pair .str (.pair .str (.pair (.sl qa) (.pair (.sl qs) .unit)))))))))
@[go_sem]theorem gam_in {a b : FuncId} {s : aI} {l : List (FuncId × aI)} : gam ((a, s) :: l) b = if a = b then some s else gam l b := rfl
structure Hq (p : Prop) : Prop where
 a : p
theorem yaA {p q : Prop} (a : q) (h : Hq q → p := by
 intro hq
 simp only [go_sem]
 exact hq.a) : p := h ⟨a⟩
theorem yaB {p q : Prop} (a : q) (h : Hq q → p := by
 intro hq
 simp only [go_sem]
 repeat (refine ⟨zAA, ?_⟩)
 exact hq.a) : p := h ⟨a⟩
theorem yaC {p q : Prop} (a : q) (h : Hq q → p := by
 intro hq
 simp only [ren, cR, dC, posOf, bF, go_sem]
 exact hq.a) : p := h ⟨a⟩
theorem yaD {p q : Prop} (a : q) (h : Hq q → p := by
 intro hq
 repeat (refine ⟨zAA, ?_⟩)
 exact hq.a) : p := h ⟨a⟩
theorem yaE {p q : Prop} (a : q) (h : Hq q → p := by
 intro hq
 simp only [go_sem]
 repeat (refine ⟨zAC, ?_⟩)
 exact hq.a) : p := h ⟨a⟩
theorem yaF {p q : Prop} (h : p) (t : p → q := by
 intro h
 try dsimp only at h
 exact h) : q := t h
theorem zaA {p : Prop} (h : p := by
 subst hi
 simp only [go_sem]
 try (refine ⟨by decide, ?_⟩)
 unfold anyS
 intro i hi
 have hi : i = 4 := by revert hi; revert i; decide
 subst hi
 simp only [go_sem]
 try (refine ⟨by decide, ?_⟩)
 unfold anyS
 intro i hi
 have hi : i = 5 := by revert hi; revert i; decide
 subst hi
 simp only [go_sem]
 try (refine ⟨by decide, ?_⟩)
 (simp only [anyS, go_sem]) <;> first | exact ⟨rfl, rfl⟩ | trivial) : p := h
theorem zaB {p : Prop} (h : p := by
 (try simp only [aS, jD, jC, dR, cV, AV.isAgg, go_sem]) <;> first | trivial | rfl | (simp; done)) : p := h
theorem zaC {p : Prop} (h : p := by
 refine aL (aJ 1 rfl aH) (yaA ?_)
 refine bO [0, 1] rfl rfl (yaC ?_)
 refine aY rfl rfl rfl rfl) : p := h
theorem zaD {p : Prop} (h : p := by
 exact aK hF [.tmp 4] rfl rfl rfl (aE h) xAd) : p := h
theorem zaE {p : Prop} (h : p := by
 refine fI h (fun hc h => ?_) fun hc h => ?_
 ·refine bD h fun g0 h => ?_
  refine bD h fun g0 h => ?_
  obtain ⟨v_28, hv, h⟩ := aN h
  try simp only [hv, go_sem]
  refine aEc h (fun hc h => ?_) fun hc h => ?_
  ·replace h := yaF (hE4 _ (aE h))
   exact aK hF [.tmp 6] rfl rfl rfl (aE h) xAd
  ·refine bD h fun g0 h => ?_
   replace h := hA4 _ (aE h)
   refine gT [] rfl rfl (yaA ?_)
   exact aZ _ h rfl xAb
 ·replace h := yaF (hE4 _ (aE h))
  exact aK hF [.tmp 6] rfl rfl rfl (aE h) xAd) : p := h
theorem zaF {p : Prop} (h : p := by
 exact aK hF [.tmp 2] rfl rfl rfl (aE h) xAd) : p := h
theorem zaG {p : Prop} (h : p := by
 try (refine ⟨by decide, ?_⟩)
 unfold anyS
 intro i hi
 have hi : i = 2 ∨ i = 3 := by revert hi; revert i; decide
 rcases hi with rfl | rfl
 ·simp only [go_sem]
  try (refine ⟨by decide, ?_⟩)
  unfold anyS
  intro i hi
  have hi : i = 3 := by revert hi; revert i; decide
  exact zaA
 ·simp only [go_sem]
  try (refine ⟨by decide, ?_⟩)
  unfold anyS
  intro i hi
  have hi : i = 2 := by revert hi; revert i; decide
  exact zaA) : p := h
theorem zaH {p : Prop} (h : p := by
 obtain rfl := Option.some.inj h
 refine aO (bO [0] rfl rfl (yaC ?_))
 refine aL (aJ 0 rfl aH) ?_
 refine aY rfl rfl rfl rfl) : p := h
theorem zaI {p : Prop} (h : p := by
 subst hi
 simp only [go_sem]
 skip
 unfold anyS
 intro i hi
 have hi : i = 4 := by revert hi; revert i; decide
 subst hi
 simp only [go_sem]
 skip
 (simp only [anyS, go_sem]) <;> first | exact ⟨rfl, rfl⟩ | trivial) : p := h
theorem zaJ {p : Prop} (h : p := by
 (repeat' apply And.intro) <;> first | trivial | rfl | with_reducible assumption | omega | (intros; first | with_reducible assumption | omega) | (simp; done) | (simp at *; omega)) : p := h
theorem zaK {p : Prop} (h : p := by
 exact aZ _ h rfl xAb) : p := h
theorem zaL {p : Prop} (h : p := by
 obtain rfl := Option.some.inj h
 refine aO (aL (aJ 0 rfl aH) ?_)
 refine aY rfl rfl rfl rfl) : p := h
theorem zaM {p : Prop} (h : p := by
 obtain rfl := Option.some.inj h
 refine aO (bW (aO (aL (kU 0 rfl aH) ?_)))
 exact zaC) : p := h
theorem zaN {p : Prop} (h : p := by
 obtain rfl := Option.some.inj h
 refine aO (bO [] rfl rfl (yaC ?_))
 refine aY rfl rfl rfl rfl) : p := h
theorem zaO {p : Prop} (h : p := by
 obtain rfl := Option.some.inj h
 refine gF (dZ hF [] rfl rfl rfl rfl rfl rfl ?_)
 exact zaB) : p := h
theorem zaP {p : Prop} (h : p := by
 refine fI h (fun hc h => ?_) fun hc h => ?_
 ·refine bD h fun g0 h => ?_
  obtain ⟨v_27, hv, h⟩ := aN h
  try simp only [hv, go_sem]
  refine aG3 h (fun hc h => ?_) fun hc h => ?_
  ·replace h := yaF (hE2 _ (aE h))
   exact zaD
  ·refine bD h fun g0 h => ?_
   replace h := hA2 _ (aE h)
   exact zaK
 ·replace h := yaF (hE2 _ (aE h))
  exact zaD) : p := h
theorem zaQ {p : Prop} (h : p := by
 first | (refine ⟨fun hx => by first | (exfalso; omega) | (exfalso; simp_all; done), fun _ => ?_⟩) | (with_reducible intro _) | skip
 repeat (refine ⟨zAA, ?_⟩)
 first | (refine ⟨fun hx => by first | (exfalso; omega) | (exfalso; simp_all; done), fun _ => ?_⟩) | (with_reducible intro _) | skip
 repeat (refine ⟨zAA, ?_⟩)
 exact zaL) : p := h
theorem zaR {p : Prop} (h : p := by
 try simp only [hv, go_sem]
 exact zaD) : p := h
theorem zaS {p : Prop} (h : p := by
 obtain rfl := Option.some.inj h
 refine aA (cD (jP hF [.cell 2 27] [0] rfl rfl rfl rfl rfl rfl rfl rfl rfl ?_))
 exact zaB) : p := h
theorem zaT {p : Prop} (h : p := by
 obtain rfl := Option.some.inj h
 refine aO (bW (aO (aL (aJ 0 rfl aH) ?_)))
 exact zaC) : p := h
theorem zaU {p : Prop} (h : p := by
 subst hi
 simp only [go_sem]
 repeat (refine ⟨zAA, ?_⟩)
 unfold anyS
 intro i hi
 have hi : i = 3 := by revert hi; revert i; decide
 subst hi
 simp only [go_sem]
 repeat (refine ⟨zAA, ?_⟩)
 (simp only [anyS, go_sem]) <;> first | exact ⟨rfl, rfl⟩ | trivial) : p := h
theorem zaV {p : Prop} (h : p := by
 refine aA (aB (aF hF [2] (yaA ?_)))
 obtain rfl := Option.some.inj h
 refine aA (cD (dZ hF [.tmp 2] rfl rfl rfl rfl rfl rfl ?_))
 exact zaB) : p := h
theorem zaW {p : Prop} (h : p := by
 try (refine ⟨by decide, ?_⟩)
 unfold anyS
 intro i hi
 have hi : i = 1 ∨ i = 3 := by revert hi; revert i; decide
 rcases hi with rfl | rfl
 ·simp only [go_sem]
  exact zaG
 ·simp only [go_sem]
  try (refine ⟨by decide, ?_⟩)
  unfold anyS
  intro i hi
  have hi : i = 1 := by revert hi; revert i; decide
  subst hi
  simp only [go_sem]
  try (refine ⟨by decide, ?_⟩)
  unfold anyS
  intro i hi
  have hi : i = 2 := by revert hi; revert i; decide
  exact zaA) : p := h
theorem zaX {p : Prop} (h : p := by
 unfold anyS
 intro i hi
 have hi : i = 0 ∨ i = 1 := by revert hi; revert i; decide
 rcases hi with rfl | rfl
 ·simp only [go_sem]
  exact zaW
 ·simp only [go_sem]
  try (refine ⟨by decide, ?_⟩)
  unfold anyS
  intro i hi
  have hi : i = 0 ∨ i = 2 := by revert hi; revert i; decide
  rcases hi with rfl | rfl
  ·simp only [go_sem]
   exact zaG
  ·simp only [go_sem]
   try (refine ⟨by decide, ?_⟩)
   unfold anyS
   intro i hi
   have hi : i = 0 := by revert hi; revert i; decide
   subst hi
   simp only [go_sem]
   try (refine ⟨by decide, ?_⟩)
   unfold anyS
   intro i hi
   have hi : i = 3 := by revert hi; revert i; decide
   exact zaA) : p := h
theorem zaY {p : Prop} (h : p := by
 obtain rfl := Option.some.inj h
 refine aO (aHV (aL (aJ 0 rfl aH) ?_))
 refine aL (aJ 1 rfl aH) ?_
 refine aL (aJ 2 rfl aH) (yaA ?_)
 refine aCb (fn := Tryz.f11) (k := 3) (l2 := [0, 1, 2]) hF rfl rfl xAc rfl (rN xAa) ⟨eR (((0 : Int), (0 : Int), ()), ()), [0, 1, 2], ()⟩ (vE (((0 : Int), (0 : Int), ()), ())) rfl [.cell 2 36, .cell 3 38, .cell 4 3] rfl ?_ ?_
 ·(simp only [eR, go_sem]) <;> first | decide | trivial
 ·(simp only [eR, aS, jB, go_sem]) <;> first | decide | trivial | rfl | (simp; done)) : p := h
theorem zaZ {p : Prop} (h : p := by
 refine ⟨fun hc => ?_, fun hc => ?_⟩
 ·replace h := jH hc h
  exact zaD
 ·replace h := jI hc h
  refine bD h fun g0 h => ?_
  refine ⟨fun hc => ?_, fun hc => ?_⟩
  ·replace h := jH hc h
   refine bD h fun g0 h => ?_
   obtain ⟨v_8, hv, h⟩ := aN h
   exact zaR
  ·replace h := jI hc h
   obtain ⟨v_13, hv, h⟩ := aN h
   try simp only [hv, go_sem]
   refine aG3 h (fun hc h => ?_) fun hc h => ?_
   ·obtain ⟨v_17, hv, h⟩ := aN h
    exact zaR
   ·exact aBj h) : p := h
theorem zaa {p : Prop} (h : p := by
 refine aL (aJ 0 rfl aH) ?_
 refine aY rfl rfl rfl rfl) : p := h
theorem zab {p : Prop} (h : p := by
 refine aB (aF hF [0, 2] (yaA ?_))
 refine aA (aB (aB (aQt hF rfl rfl rfl fun b hb => ?_)))
 refine aA (bG rfl (fun hc => ?_) (fun hc => ?_))
 ·have hs := hb hc
  refine aB (aF hF [2] (yaA ?_))
  refine aA (cD (cS (jG hF [.tmp 2] rfl rfl rfl ?_)))
  simp only [jB, aS, go_sem, hs]
  try trivial
 ·refine cI (aA (aB (aR hF [2] (yaA ?_))))
  refine ⟨by omega, ?_⟩
  refine aA (cD (jG hF [.tmp 2] rfl rfl rfl ?_))
  simp only [jB, aS, go_sem]
  try trivial) : p := h
theorem zac {p : Prop} (h : p := by
 refine fI h (fun hc h => ?_) fun hc h => ?_
 ·obtain ⟨g0, h⟩ := aP h
  obtain ⟨g1, h⟩ := aP h
  repeat (refine ⟨zAA, ?_⟩)
  refine ⟨fun hc => ?_, fun hc => ?_⟩
  ·replace h := jH zAB h
   replace h := yaF (hE4 _ (aE h))
   exact zaD
  ·replace h := jI zAB h
   obtain ⟨g0, h⟩ := aP h
   try simp only [I64, I32] at g0
   repeat (refine ⟨zAA, ?_⟩)
   replace h := hA4 _ (aE h)
   exact zaK
 ·replace h := yaF (hE4 _ (aE h))
  exact zaD) : p := h
theorem zad {p : Prop} (h : p := by
 obtain rfl := Option.some.inj h
 refine bW (aO (aL (aJ 0 rfl aH) ?_))
 exact zaC) : p := h
theorem zae {p : Prop} (h : p := by
 first | (refine ⟨fun hx => by first | (exfalso; omega) | (exfalso; simp_all; done), fun _ => ?_⟩) | (with_reducible intro _) | skip
 repeat (refine ⟨zAA, ?_⟩)
 first | (refine ⟨fun hx => by first | (exfalso; omega) | (exfalso; simp_all; done), fun _ => ?_⟩) | (with_reducible intro _) | skip
 repeat (refine ⟨zAA, ?_⟩)
 refine aA (aB (aF hF [2, 3] (yaA ?_)))
 obtain rfl := Option.some.inj h
 refine aA (cD (dZ hF [.tmp 2, .tmp 3] rfl rfl rfl rfl rfl rfl ?_))
 exact zaB) : p := h
theorem zaf {p : Prop} (h : p := by
 refine gF (dZ hF [] rfl rfl rfl rfl rfl rfl ?_)
 simp only [aS, jD, jC, go_sem]
 try decide) : p := h
theorem zag {p : Prop} (h : p := by
 simp only [go_sem]
 (repeat' apply And.intro) <;> try (first | trivial | rfl | with_reducible assumption | omega | (intros; first | with_reducible assumption | omega) | (simp; done) | (simp at *; omega))
 obtain rfl := Option.some.inj h
 dsimp only [mY] at hs2
 have h := yaF (hs2)
 obtain rfl := Option.some.inj h
 refine bW (aO (bW (bO [0] rfl rfl (yaC ?_))))
 refine aL (aJ 0 rfl aH) ?_
 refine aY rfl rfl rfl rfl) : p := h
theorem zah {p : Prop} (h : p := by
 obtain rfl := Option.some.inj h
 refine aL (aJ 0 rfl aH) ?_
 exact zaC) : p := h
theorem zai {p : Prop} (h : p := by
 skip
 unfold anyS
 intro i hi
 have hi : i = 2 ∨ i = 3 := by revert hi; revert i; decide
 rcases hi with rfl | rfl
 ·simp only [go_sem]
  skip
  unfold anyS
  intro i hi
  have hi : i = 3 := by revert hi; revert i; decide
  exact zaI
 ·simp only [go_sem]
  skip
  unfold anyS
  intro i hi
  have hi : i = 2 := by revert hi; revert i; decide
  exact zaI) : p := h
theorem zaj {p : Prop} (h : p := by
 obtain rfl := Option.some.inj h
 refine aO (bW (aL (aJ 0 rfl aH) ?_))
 exact zaC) : p := h
theorem zak {p : Prop} (h : p := by
 refine dZ hF [] rfl rfl rfl rfl rfl rfl ?_
 exact zaB) : p := h
theorem zal {p : Prop} (h : p := by
 refine ⟨hq, ?_⟩
 refine aO ?_
 refine aCb (fn := Tryz.f147) (k := 2) (l2 := [0, 1]) hF' rfl rfl xAc rfl (rN xAa) ⟨oH q, [0, 1], ((false, ([] : List Nat), (0 : Int), ()), 0)⟩ (aG7 q) rfl [.cell 2 128, .cell 3 3] rfl ?_ ?_
 ·(simp only [oH, go_sem]) <;> first | decide | trivial
 ·(simp only [oH, aS, jB, go_sem]) <;> first | decide | trivial) : p := h
theorem zam {p : Prop} (h : p := by
 refine aB (aR hF [3, 4, 5, 6] (yaA ?_))
 refine aA (aB (aBi 0 rfl (yaA ?_)))
 refine aBi 1 rfl (yaA ?_)
 refine aBi 2 rfl (yaA ?_)
 refine aR hF [6, 7] (yaA ?_)
 obtain ⟨g0, h⟩ := aQ h
 repeat (refine ⟨zAA, ?_⟩)
 obtain rfl := Option.some.inj h
 refine aA (cD (jG hF [.cell 6 128, .tmp 7] rfl rfl rfl ?_))
 exact zAH) : p := h
theorem zan {p : Prop} (h : p := by
 first | (refine ⟨fun hx => by first | (exfalso; omega) | (exfalso; simp_all; done), fun _ => ?_⟩) | (with_reducible intro _) | skip
 repeat (refine ⟨zAA, ?_⟩)
 first | (refine ⟨fun hx => by first | (exfalso; omega) | (exfalso; simp_all; done), fun _ => ?_⟩) | (with_reducible intro _) | skip
 repeat (refine ⟨zAA, ?_⟩)
 exact zaN) : p := h
theorem zao {p : Prop} (h : p := by
 have h := eC zAB h
 refine aB (aF hF [2] (yaA ?_))
 obtain rfl := Option.some.inj h
 refine aA (cD (gE (cS (jG hF [.tmp 2] rfl rfl rfl ?_))))
 exact zAH) : p := h
theorem zap {p : Prop} (h : p := by
 refine ⟨hq, ?_⟩
 refine aA (cD ?_)
 refine aNL (fn := Tryz.f147) (k := 2) (l2 := [0, 1]) hF' rfl rfl xAc rfl (rN xAa) ⟨oG, [0, 1], (q, 0)⟩ aG6 rfl [.cell 2 128, .cell 3 3] rfl ?_ ?_
 ·(simp only [oG, go_sem]) <;> first | decide | trivial
 ·(simp only [oG, aS, jB, go_sem]) <;> first | decide | trivial) : p := h
theorem zaq {p : Prop} (h : p := by
 exact aK hF [.tmp 2, .tmp 3, .tmp 4] rfl rfl rfl (aE h) xAd) : p := h
theorem zar {p : Prop} (h : p := by
 have h := eC zAB h
 refine aB (aR hF [8] (yaA ?_))
 obtain rfl := Option.some.inj h
 dsimp only [mY] at hs2
 have h := yaF (hs2)
 obtain rfl := Option.some.inj h
 refine aA (cD (cS (gE (cS (gE (jP hF [.cell 8 27] [0] rfl rfl rfl rfl rfl rfl rfl rfl rfl ?_))))))
 exact zaB) : p := h
theorem zas {p : Prop} (h : p := by
 refine ⟨fun _ => (yaD ?_), fun hx => by first | (exfalso; omega) | (exfalso; simp_all; done)⟩
 refine ⟨fun _ => (yaD ?_), fun hx => by first | (exfalso; omega) | (exfalso; simp_all; done)⟩
 refine ⟨fun _ => (yaD ?_), fun hx => by first | (exfalso; omega) | (exfalso; simp_all; done)⟩
 exact zaL) : p := h
theorem zat {p : Prop} (h : p := by
 obtain rfl := Option.some.inj h
 refine aL (kU 0 rfl aH) ?_
 exact zaC) : p := h
theorem zau {p : Prop} (h : p := by
 refine aA (aB (aC hF (aG (l := [(53, ⟨bM F, [0], (o0_1, .inr p_8)⟩)]) (.cons (bR F) xAa (.nil))) [0, 3] [] (yaB ?_)))
 exact zaL) : p := h
theorem zav {p : Prop} (h : p := by
 exact aZ _ h rfl (by (try simp only [lZ, dR, true_or, and_self, go_sem]) <;> (repeat' apply And.intro) <;> first | rfl | (left; rfl) | (right; rfl) | (left; simp only [go_sem]; done) | (right; simp only [go_sem]; done) | (simp; done) | (simp only [*]; done) | omega)) : p := h
theorem zaw {p : Prop} (h : p := by
 have h := eD zAB h
 obtain rfl := Option.some.inj h
 refine cI (gF (dZ hF [] rfl rfl rfl rfl rfl rfl ?_))
 exact zaB) : p := h
theorem zax {p : Prop} (h : p := by
 obtain rfl := Option.some.inj h
 refine aA (cD (jP hF [.cell 3 128] [] rfl rfl rfl rfl rfl rfl rfl rfl rfl ?_))
 exact zaB) : p := h
theorem zay {p : Prop} (h : p := by
 obtain rfl := Option.some.inj h
 refine bW (aL (aJ 0 rfl aH) ?_)
 exact zaC) : p := h
theorem zaz {p : Prop} (h : p := by
 simp only [go_sem]
 refine aB (aF hF [0, 1, 2, 3, 10] (yaA ?_))
 refine aA (bG rfl (fun hc => absurd hc xAc) (fun hc => ?_))
 refine cI ?_
 refine gT [0, 1, 2] rfl rfl (yaC ?_)
 exact zaf) : p := h
theorem za0 {p : Prop} (h : p := by
 try simp only [hv, go_sem]
 refine bD h fun g0 h => ?_
 exact zaF) : p := h
theorem za1 {p : Prop} (h : p := by
 obtain rfl := Option.some.inj h
 exact zaa) : p := h
theorem za2 {p : Prop} (h : p := by
 refine ⟨fun _ => (yaD ?_), fun hx => by first | (exfalso; omega) | (exfalso; simp_all; done)⟩
 refine ⟨fun _ => (yaD ?_), fun hx => by first | (exfalso; omega) | (exfalso; simp_all; done)⟩
 exact zaN) : p := h
theorem za3 {p : Prop} (h : p := by
 obtain rfl := Option.some.inj h
 refine aA (cD (jG hF [.tmp 2] rfl rfl rfl ?_))
 exact zAH) : p := h
theorem za4 {p : Prop} (h : p := by
 refine aG3 h (fun hc h => ?_) fun hc h => ?_
 ·exact aK hF [.tmp 2] rfl rfl rfl (aE h) xAd
 ·exact aK hF [.tmp 2] rfl rfl rfl (aE h) xAd) : p := h
theorem zAA {p : Prop} (h : p := by first | with_reducible assumption | omega | (intros; first | with_reducible assumption | omega) | (simp only [go_sem] at *; first | with_reducible assumption | omega) | (intro _; exact ⟨rfl, by decide⟩) | (intro _; refine (?_ : _ = aD _); rfl) | (refine (?_ : _ = aD _); rfl) | exact ⟨rfl, rfl⟩ | decide) : p := h
theorem zAB {p : Prop} (h : p := by first | exact hc | omega | (simpa using hc) | (simp at hc ⊢; omega)) : p := h
theorem zAC {p : Prop} (h : p := by first | with_reducible assumption | omega | (intros; first | with_reducible assumption | omega) | (simp only [go_sem] at *; first | with_reducible assumption | omega) | (intro _; exact ⟨rfl, by decide⟩) | (intro _; refine (?_ : _ = aD _); rfl) | (refine (?_ : _ = aD _); rfl) | exact ⟨rfl, rfl⟩ | decide | ((repeat' apply And.intro) <;> first | assumption | rfl | omega) | fail) : p := h
theorem zAD {p : Prop} (h : p := by first | with_reducible assumption | omega | (intros; first | with_reducible assumption | omega) | (simp only [go_sem] at *; first | with_reducible assumption | omega) | (intro _; exact ⟨rfl, by decide⟩) | (intro _; refine (?_ : _ = aD _); rfl) | (refine (?_ : _ = aD _); rfl) | exact ⟨rfl, rfl⟩ | (intro q0; (try have e0 := g0 (by first | exact q0 | omega | (simpa using q0))); first | assumption | omega) | decide) : p := h
theorem zAE {p : Prop} (h : p := by first | with_reducible assumption | omega | (intros; first | with_reducible assumption | omega) | (simp only [go_sem] at *; first | with_reducible assumption | omega) | (intro _; exact ⟨rfl, by decide⟩) | (intro _; refine (?_ : _ = aD _); rfl) | (refine (?_ : _ = aD _); rfl) | exact ⟨rfl, rfl⟩ | (intro q0; (try have e0 := g0 (by first | exact q0 | omega | (simpa using q0))); (try have e1 := g1 (by first | exact q0 | omega | (simpa using q0))); first | assumption | omega) | decide) : p := h
theorem zAF {p : Prop} (h : p := by first | exact q0 | omega | (simpa using q0)) : p := h
theorem zAG {p : Prop} (h : p := by (try simp only [lZ, dR, true_or, and_self, go_sem]) <;> (repeat' apply And.intro) <;> first | rfl | (left; rfl) | (right; rfl) | (left; simp only [go_sem]; done) | (right; simp only [go_sem]; done) | (simp; done) | (simp only [*]; done) | omega) : p := h
theorem zAH {p : Prop} (h : p := by (try simp only [jB, aS, go_sem]) <;> first | rfl | (simp; done)) : p := h
def aWd : List Nat := [0, 1, 56, 2, 57, 49, 28, 3, 61, 58, 42, 50, 38, 29, 17, 4, 62, 47, 59, 36, 45, 43, 51, 22, 53, 39, 33, 30, 24, 18, 12, 5, 63, 55, 48, 27, 60, 41, 37, 16, 46, 35, 44, 21, 52, 32, 23, 11, 54, 26, 40, 15, 34, 20, 31, 10, 25, 14, 19, 9, 13, 8, 7, 6]
theorem aXb : aWd = [0, 1, 56, 2, 57, 49, 28, 3, 61, 58, 42, 50, 38, 29, 17, 4, 62, 47, 59, 36, 45, 43, 51, 22, 53, 39, 33, 30, 24, 18, 12, 5, 63, 55, 48, 27, 60, 41, 37, 16, 46, 35, 44, 21, 52, 32, 23, 11, 54, 26, 40, 15, 34, 20, 31, 10, 25, 14, 19, 9, 13, 8, 7, 6] := rfl
def p10 : List Nat := [1, 10, 100, 1000, 10000, 100000, 1000000, 10000000, 100000000, 1000000000, 10000000000, 100000000000, 1000000000000, 10000000000000, 100000000000000, 1000000000000000, 10000000000000000, 100000000000000000, 1000000000000000000, 10000000000000000000]
theorem aXP : p10 = [1, 10, 100, 1000, 10000, 100000, 1000000, 10000000, 100000000, 1000000000, 10000000000, 100000000000, 1000000000000, 10000000000000, 100000000000000, 1000000000000000, 10000000000000000, 100000000000000000, 1000000000000000000, 10000000000000000000] := rfl
class Mx where
 v : Int
def GL [Mx] : Nat → AV
 | 7 => .roa (.arr 64 ww) aWd
 | 8 => .roa (.arr 20 qx) p10
 | 0 => .roa qe Mx.v
 | _ => .junk
theorem GL0 [Mx] : GL 7 = .roa (.arr 64 ww) aWd := rfl
theorem GL3 [Mx] : GL 8 = .roa (.arr 20 qx) p10 := rfl
theorem GLm [Mx] : GL 0 = .roa qe Mx.v := rfl
attribute [go_sem] GLm GL0 GL3 mSpec
def tab : List (TypeId × Ty) := [(201, .clo 153 .unit), (2, .i .i64), (3, .i .i64), (4, .bool), (5, .u .u8), (9, .str), (21, .i .i32), (22, .sl qe), (24, .u .u64), (25, .sl .expr), (27, .expr), (32, .sl .str), (33, .sl qa), (34, .sl qs), (36, .pair qe (.pair qe (.pair qe (.pair qe (.pair .str (.pair .str (.pair .str (.pair .str (.pair (.sl qa) (.pair (.sl qs) .unit)))))))))), (38, .pair qe q9), (49, .sl qq), (50, .sl qu), (51, .sl qr), (53, .pair .str (.pair (.sl qq) (.pair (.sl qu) (.pair wh (.pair (.sl qr) .unit))))), (56, .pair qe .unit), (60, .pair .str qn), (65, .pair qn .unit), (73, .pair qe (.pair qe wg)), (83, .pair .str (.pair .str qg)), (85, .pair .str wg), (87, .pair .str (.pair qg (.pair .expr .unit))), (89, .pair .str (.pair .expr .unit)), (96, .arr 2 qe), (102, .arr 256 (.bool)), (123, .pair .str (.pair qg .unit)), (125, .sl ql), (126, .sl qx), (128, .pair .bool (.pair we q9)), (149, .nilf), (157, .nili), (169, .u .u64), (174, .sl wh), (194, .sl ww), (208, .u .u32), (212, .i .i64), (219, .pair qe .unit), (223, .arr 256 ww), (225, .pair ww wk), (226, .arr 16 (.pair ww wk)), (239, .pair .str .unit), (240, .arr 64 ww), (242, .arr 24 ww), (246, .arr 20 qx), (247, .arr 65 ww), (250, .arr 32 ww)]
def elT : TypeId → TypeId
 | 22 => 3
 | 25 => 27
 | 32 => 9
 | 33 => 53
 | 34 => 83
 | 49 => 87
 | 50 => 123
 | 51 => 89
 | 125 => 128
 | 126 => 169
 | 174 => 32
 | 194 => 5
 | _ => 0
def mpT : TypeId → Option (TypeId × TypeId)
 | 90 => some (9, 9)
 | 110 => some (9, 3)
 | 142 => some (9, 4)
 | _ => none
theorem aSj : kG Tryz.prog (aH9 tab) := aUU xAa
theorem aX2 : ∀ t ct, aH9 tab t = some (.sl ct) → Tryz.prog.underlying t = some (.slice (elT t)) := aWI xAa
theorem aX3 : ∀ t k e, mpT t = some (k, e) → Tryz.prog.underlying t = some (.map k e) := by
 intro t k e h
 unfold mpT at h
 split at h
 ·cases h; rfl
 ·cases h; rfl
 ·cases h; rfl
 ·cases h
def TM : Tab := aH9 tab
def EM [Mx] (l : List (FuncId × aI)) : Env := ⟨TM, GL, fun f _ => gam l f, elT, mpT, fun _ => none, fun _ => false⟩
def dmT : TypeId → Option Mk
 | 32 => some .no
 | 33 => some qh
 | 34 => some .no
 | 49 => some .no
 | 50 => some .no
 | 51 => some .no
 | _ => none
def dzT : TypeId → Bool
 | 36 => true
 | 53 => true
 | _ => false
def EX [Mx] (l : List (FuncId × aI)) : Env := ⟨TM, GL, fun f _ => gam l f, elT, mpT, dmT, dzT⟩
theorem aYj [Mx] (l : List (FuncId × aI)) (t : TypeId) : (EM l).T t = TM t := rfl
theorem aYk [Mx] (l : List (FuncId × aI)) (t : Nat) : (EM l).G t = GL t := rfl
theorem aYl [Mx] (l : List (FuncId × aI)) (f : FuncId) (vs : List AV) : (EM l).Γ f vs = gam l f := rfl
theorem aX4 [Mx] (l : List (FuncId × aI)) (t : TypeId) : (EM l).el t = elT t := rfl
theorem aX5 [Mx] (l : List (FuncId × aI)) (t : TypeId) : (EM l).mp t = mpT t := rfl
theorem aT [Mx] {l : List (FuncId × aI)} (h : bJ Tryz.prog GL l) : gV Tryz.prog (EM l) := aR1 aSj aX2 aX3 h
theorem mix : Tryz.prog.follows .mixedOrders = true := by kernel_rfl
theorem aX6 [Mx] (l : List (FuncId × aI)) (t : TypeId) : (EM l).dm t = none := rfl
theorem aX7 [Mx] (l : List (FuncId × aI)) (t : TypeId) : (EM l).dz t = false := rfl
theorem aYm [Mx] (l : List (FuncId × aI)) (t : TypeId) : (EX l).T t = TM t := rfl
theorem aYn [Mx] (l : List (FuncId × aI)) (t : Nat) : (EX l).G t = GL t := rfl
theorem aYo [Mx] (l : List (FuncId × aI)) (f : FuncId) (vs : List AV) : (EX l).Γ f vs = gam l f := rfl
theorem aX8 [Mx] (l : List (FuncId × aI)) (t : TypeId) : (EX l).el t = elT t := rfl
theorem aX9 [Mx] (l : List (FuncId × aI)) (t : TypeId) : (EX l).mp t = mpT t := rfl
theorem aYa [Mx] (l : List (FuncId × aI)) (t : TypeId) : (EX l).dm t = dmT t := rfl
theorem aYb [Mx] (l : List (FuncId × aI)) (t : TypeId) : (EX l).dz t = dzT t := rfl
theorem aMe [Mx] {l : List (FuncId × aI)} (h : bJ Tryz.prog GL l) : gV Tryz.prog (EX l) := aR1 aSj aX2 aX3 h
attribute [go_sem] aX6 aX7 aYm aYn aYo aX8 aX9 aYa aYb dmT dzT
theorem T2 : TM 2 = some qe := rfl
theorem T3 : TM 3 = some qe := rfl
theorem T4 : TM 4 = some (.bool) := rfl
theorem T5 : TM 5 = some ww := rfl
theorem T9 : TM 9 = some (.str) := rfl
theorem T21 : TM 21 = some (.i .i32) := rfl
theorem T22 : TM 22 = some (.sl qe) := rfl
theorem T24 : TM 24 = some qx := rfl
theorem T25 : TM 25 = some (.sl .expr) := rfl
theorem T27 : TM 27 = some (.expr) := rfl
theorem T32 : TM 32 = some wh := rfl
theorem T33 : TM 33 = some (.sl qa) := rfl
theorem T34 : TM 34 = some (.sl qs) := rfl
theorem T36 : TM 36 = some qj := rfl
theorem T38 : TM 38 = some qn := rfl
theorem T49 : TM 49 = some (.sl qq) := rfl
theorem T50 : TM 50 = some (.sl qu) := rfl
theorem T51 : TM 51 = some (.sl qr) := rfl
theorem T53 : TM 53 = some qa := rfl
theorem T56 : TM 56 = some q9 := rfl
theorem T60 : TM 60 = some qy := rfl
theorem T65 : TM 65 = some wi := rfl
theorem T73 : TM 73 = some qk := rfl
theorem T83 : TM 83 = some qs := rfl
theorem T85 : TM 85 = some qg := rfl
theorem T87 : TM 87 = some qq := rfl
theorem T89 : TM 89 = some qr := rfl
theorem T96 : TM 96 = some wl := rfl
theorem aYp : TM 102 = some (.arr 256 (.bool)) := rfl
theorem aYq : TM 123 = some qu := rfl
theorem aYr : TM 125 = some (.sl ql) := rfl
theorem aYs : TM 126 = some we := rfl
theorem aYt : TM 128 = some ql := rfl
theorem aYu : TM 149 = some (.nilf) := rfl
theorem aYv : TM 157 = some (.nili) := rfl
theorem aYw : TM 169 = some qx := rfl
theorem aYx : TM 174 = some (.sl wh) := rfl
theorem aYy : TM 194 = some (.sl ww) := rfl
theorem aYz : TM 208 = some (.u .u32) := rfl
theorem aYA : TM 212 = some qe := rfl
theorem aYB : TM 219 = some q9 := rfl
theorem aYC : TM 223 = some (.arr 256 ww) := rfl
theorem aYD : TM 225 = some (.pair ww wk) := rfl
theorem aYE : TM 226 = some (.arr 16 (.pair ww wk)) := rfl
theorem aYF : TM 239 = some wg := rfl
theorem aYG : TM 240 = some (.arr 64 ww) := rfl
theorem aYH : TM 242 = some (.arr 24 ww) := rfl
theorem aYI : TM 246 = some (.arr 20 qx) := rfl
theorem aYJ : TM 247 = some (.arr 65 ww) := rfl
theorem aYK : TM 250 = some (.arr 32 ww) := rfl
theorem aYL : TM 201 = some (.clo 153 .unit) := rfl
attribute [go_sem] aYj aYk aYl aX4 aX5 elT mpT aYL T2 T3 T4 T5 T9 T21 T22 T24 T25 T27 T32 T33 T34 T36 T38 T49 T50 T51 T53 T56 T60 T65 T73 T83 T85 T87 T89 T96 aYp aYq aYr aYs aYt aYu aYv aYw aYx aYy aYz aYA aYB aYC aYD aYE aYF aYG aYH aYI aYJ aYK
end
end Nu
end Go.Proofs
namespace Go.Proofs
open Go.Vc
set_option maxRecDepth 20000
namespace Nu
noncomputable section
def aFv (x y c : Nat) : Nat × Nat × Unit := ((x + y + c) % 18446744073709551616, (x + y + c) / 18446744073709551616, ())
abbrev aQ4 (x y c : Nat) : Prop := c ≤ 1
def aJI : Ty := .pair qx wn
def sT : aI := ⟨aJI, .tup wn, fun x => aQ4 x.1 x.2.1 x.2.2.1, fun x => aFv x.1 x.2.1 x.2.2.1⟩
attribute [go_sem] sT aJI
theorem aQ5 {w : World} {S : Nat → Prop} {x : Nat} {v : Value} (h : dB w S qx x v) : v = .int .u64 (x : Int) := by
 unfold dB at h
 rw [if_neg (by simp [Ty.isAgg])] at h
 simp only [bC, List.cons.injEq, and_true] at h
 exact h.1
theorem aTa {w : World} {S : Nat → Prop} {vs : List Value} {x : Nat × Nat × Nat × Unit} (h : oP w S (.pair qx wn) x vs) : vs = [.int .u64 (x.1 : Int), .int .u64 (x.2.1 : Int), .int .u64 (x.2.2.1 : Int)] := by
 obtain ⟨v1, r1, rfl, h1, v2, r2, rfl, h2, v3, r3, rfl, h3, h4⟩ := h
 rw [aQ5 h1, aQ5 h2, aQ5 h3]
 have h4 : r3 = [] := h4
 rw [h4]
theorem aWe {w : World} {S : Nat → Prop} {x : Nat} (h : x < 18446744073709551616) : dB w S qx x (.int .u64 (x : Int)) := by
 unfold dB
 rw [if_neg (by simp [Ty.isAgg])]
 refine ⟨rfl, rfl, ?_⟩
 simp [IntKind.max, IntKind.signed, IntKind.bits]; omega
theorem aWf {w : World} {S : Nat → Prop} {x y : Nat} (hx : x < 18446744073709551616) (hy : y < 18446744073709551616) : oP w S wn (x, y, ()) [.int .u64 (x : Int), .int .u64 (y : Int)] :=
 ⟨_, _, rfl, aWe hx, _, _, rfl, aWe hy, rfl⟩
theorem wf_u64 {x : Nat} (h : (Ty.u .u64).wf x) : x < 18446744073709551616 := by
 simp only [Ty.wf, IntKind.max, IntKind.signed, IntKind.bits] at h
 simp at h; omega
theorem aId [Mx] : NOK Tryz.prog GL 144 sT := by
 refine aXD fun w S vs x ha hp => ?_
 have hp : x.2.2.1 ≤ 1 := hp
 have hw := aJC _ _ _ ha
 obtain ⟨h1, h2, h3, _⟩ := hw
 have h1 := wf_u64 h1
 have h2 := wf_u64 h2
 rw [aTa ha]
 refine ⟨[.int .u64 (((x.1 + x.2.1 + x.2.2.1) % 18446744073709551616 : Nat) : Int), .int .u64 (((x.1 + x.2.1 + x.2.2.1) / 18446744073709551616 : Nat) : Int)], ?_, aWf (by omega) (by omega)⟩
 rw [run_callFunc_extern Tryz.func144 xAa xAa xAa (e := add64Entry) xAa, run_add64 x.1 x.2.1 x.2.2.1 (by omega) (by omega) (by omega) (by omega)]
 simp only [Result.andThen]
 congr 5 <;> omega
abbrev aWg (s : List Nat) : Prop := s.length * 8 ≤ 140737488355328
def tA : Ty := .pair we .unit
def dD : aI := ⟨tA, .own 169 qx, fun x => aWg x.1, fun x => id x.1⟩
attribute [go_sem] dD tA
abbrev aAs (F : Md) : List (FuncId × aI) := []
theorem aAt [Mx] (F : Md) : bJ Tryz.prog GL (aAs F) := .nil
theorem nP [Mx] : FOK Tryz.prog GL 135 dD := by
 refine aSU (aT (aAt none)) Tryz.func135 rfl xAa xAc fun w0 S x hw hp => ?_
 have hF : fT (fr Tryz.prog (EM (aAs none)) S w0 Tryz.f135.ntmps) := ⟨aT (aAt none), mix⟩
 obtain ⟨(s : qd), u⟩ := x
 have hp : s.length * 8 ≤ 140737488355328 := hp
 simp only [bX, tA, dD]
 exact zab
end
end Nu
end Go.Proofs
namespace Go.Proofs
open Go.Vc
set_option maxRecDepth 20000
namespace Nu
noncomputable section
set_option maxHeartbeats 4000000
def aFw : ByteArray := ⟨⟨0 :: 1 :: 2 :: 2 :: 3 :: 3 :: 3 :: 3 :: 4 :: 4 :: 4 :: 4 :: 4 :: 4 :: 4 :: 4 :: 5 :: 5 :: 5 :: 5 :: 5 :: 5 :: 5 :: 5 :: 5 :: 5 :: 5 :: 5 :: 5 :: 5 :: 5 :: 5 :: 6 :: 6 :: 6 :: 6 :: 6 :: 6 :: 6 :: 6 :: 6 :: 6 :: 6 :: 6 :: 6 :: 6 :: 6 :: 6 :: 6 :: 6 :: 6 :: 6 :: 6 :: 6 :: 6 :: 6 :: 6 :: 6 :: 6 :: 6 :: 6 :: 6 :: 6 :: 6 :: 7 :: 7 :: 7 :: 7 :: 7 :: 7 :: 7 :: 7 :: 7 :: 7 :: 7 :: 7 :: 7 :: 7 :: 7 :: 7 :: 7 :: 7 :: 7 :: 7 :: 7 :: 7 :: 7 :: 7 :: 7 :: 7 :: 7 :: 7 :: 7 :: 7 :: 7 :: 7 :: 7 :: 7 :: 7 :: 7 :: 7 :: 7 :: 7 :: 7 :: 7 :: 7 :: 7 :: 7 :: 7 :: 7 :: 7 :: 7 :: 7 :: 7 :: 7 :: 7 :: 7 :: 7 :: 7 :: 7 :: 7 :: 7 :: 7 :: 7 :: 7 :: 7 :: 7 :: 7 :: 8 :: 8 :: 8 :: 8 :: 8 :: 8 :: 8 :: 8 :: 8 :: 8 :: 8 :: 8 :: 8 :: 8 :: 8 :: 8 :: 8 :: 8 :: 8 :: 8 :: 8 :: 8 :: 8 :: 8 :: 8 :: 8 :: 8 :: 8 :: 8 :: 8 :: 8 :: 8 :: 8 :: 8 :: 8 :: 8 :: 8 :: 8 :: 8 :: 8 :: 8 :: 8 :: 8 :: 8 :: 8 :: 8 :: 8 :: 8 :: 8 :: 8 :: 8 :: 8 :: 8 :: 8 :: 8 :: 8 :: 8 :: 8 :: 8 :: 8 :: 8 :: 8 :: 8 :: 8 :: 8 :: 8 :: 8 :: 8 :: 8 :: 8 :: 8 :: 8 :: 8 :: 8 :: 8 :: 8 :: 8 :: 8 :: 8 :: 8 :: 8 :: 8 :: 8 :: 8 :: 8 :: 8 :: 8 :: 8 :: 8 :: 8 :: 8 :: 8 :: 8 :: 8 :: 8 :: 8 :: 8 :: 8 :: 8 :: 8 :: 8 :: 8 :: 8 :: 8 :: 8 :: 8 :: 8 :: 8 :: 8 :: 8 :: 8 :: 8 :: 8 :: 8 :: 8 :: 8 :: 8 :: 8 :: 8 :: 8 :: 8 :: 8 :: 8 :: 8 :: 8 :: 8 :: 8 :: 8 :: []⟩⟩
@[go_sem]theorem aPB : (⟨⟨0 :: 1 :: 2 :: 2 :: 3 :: 3 :: 3 :: 3 :: 4 :: 4 :: 4 :: 4 :: 4 :: 4 :: 4 :: 4 :: 5 :: 5 :: 5 :: 5 :: 5 :: 5 :: 5 :: 5 :: 5 :: 5 :: 5 :: 5 :: 5 :: 5 :: 5 :: 5 :: 6 :: 6 :: 6 :: 6 :: 6 :: 6 :: 6 :: 6 :: 6 :: 6 :: 6 :: 6 :: 6 :: 6 :: 6 :: 6 :: 6 :: 6 :: 6 :: 6 :: 6 :: 6 :: 6 :: 6 :: 6 :: 6 :: 6 :: 6 :: 6 :: 6 :: 6 :: 6 :: 7 :: 7 :: 7 :: 7 :: 7 :: 7 :: 7 :: 7 :: 7 :: 7 :: 7 :: 7 :: 7 :: 7 :: 7 :: 7 :: 7 :: 7 :: 7 :: 7 :: 7 :: 7 :: 7 :: 7 :: 7 :: 7 :: 7 :: 7 :: 7 :: 7 :: 7 :: 7 :: 7 :: 7 :: 7 :: 7 :: 7 :: 7 :: 7 :: 7 :: 7 :: 7 :: 7 :: 7 :: 7 :: 7 :: 7 :: 7 :: 7 :: 7 :: 7 :: 7 :: 7 :: 7 :: 7 :: 7 :: 7 :: 7 :: 7 :: 7 :: 7 :: 7 :: 7 :: 7 :: 8 :: 8 :: 8 :: 8 :: 8 :: 8 :: 8 :: 8 :: 8 :: 8 :: 8 :: 8 :: 8 :: 8 :: 8 :: 8 :: 8 :: 8 :: 8 :: 8 :: 8 :: 8 :: 8 :: 8 :: 8 :: 8 :: 8 :: 8 :: 8 :: 8 :: 8 :: 8 :: 8 :: 8 :: 8 :: 8 :: 8 :: 8 :: 8 :: 8 :: 8 :: 8 :: 8 :: 8 :: 8 :: 8 :: 8 :: 8 :: 8 :: 8 :: 8 :: 8 :: 8 :: 8 :: 8 :: 8 :: 8 :: 8 :: 8 :: 8 :: 8 :: 8 :: 8 :: 8 :: 8 :: 8 :: 8 :: 8 :: 8 :: 8 :: 8 :: 8 :: 8 :: 8 :: 8 :: 8 :: 8 :: 8 :: 8 :: 8 :: 8 :: 8 :: 8 :: 8 :: 8 :: 8 :: 8 :: 8 :: 8 :: 8 :: 8 :: 8 :: 8 :: 8 :: 8 :: 8 :: 8 :: 8 :: 8 :: 8 :: 8 :: 8 :: 8 :: 8 :: 8 :: 8 :: 8 :: 8 :: 8 :: 8 :: 8 :: 8 :: 8 :: 8 :: 8 :: 8 :: 8 :: 8 :: 8 :: 8 :: 8 :: 8 :: 8 :: 8 :: 8 :: 8 :: 8 :: 8 :: []⟩⟩ : ByteArray) = aFw := rfl
def sH (F : Md) (x_6 : Nat) (n_7 : Int) : Option (Int) :=
 ck (0 ≤ (((x_6 % 256) : Nat) : Int) ∧ (((x_6 % 256) : Nat) : Int) < (((aU aFw).length : Nat) : Int)) (ck (I64 (n_7 + ((((aU aFw).getD (x_6 % 256) (0 : Nat)) : Nat) : Int))) (some (n_7 + ((((aU aFw).getD (x_6 % 256) (0 : Nat)) : Nat) : Int))))
def sI (F : Md) (x_4 : Nat) (n_5 : Int) : Option (Int) :=
 if (256 : Nat) ≤ x_4 then ck (I64 (n_5 + (8 : Int))) (sH F (x_4 / (256 : Nat)) (n_5 + (8 : Int))) else sH F x_4 n_5
def sJ (F : Md) (x_2 : Nat) (n_3 : Int) : Option (Int) :=
 if (65536 : Nat) ≤ x_2 then ck (I64 (n_3 + (16 : Int))) (sI F (x_2 / (65536 : Nat)) (n_3 + (16 : Int))) else sI F x_2 n_3
def aCd (F : Md) (x_0 : Nat) : Option Int :=
 if (4294967296 : Nat) ≤ x_0 then sJ F (x_0 / (4294967296 : Nat)) (32 : Int) else sJ F x_0 (0 : Int)
def aIe : PlR := ⟨[(0, .A [0, 2]), (1, .A [0, 2, 4]), (2, .A [0]), (3, .A [0, 2]), (4, .A [0, 2, 8]), (5, .A [0, 2]), (6, .A [0, 2]), (7, .A [0, 2, 14]), (8, .A [0, 2]), (9, .A [0, 2]), (10, .A [2])], [(4, 7), (7, 10), (10, 13)]⟩
def aJJ : Ty := .pair qx .unit
def aAU (F : Md) : aI := mSpec aJJ (.one qe) (fun x => aCd F x.1)
abbrev aQ6 (F : Md) : List (FuncId × aI) := []
theorem aQ7 [Mx] (F : Md) : bJ Tryz.prog GL (aQ6 F) := .nil
attribute [go_sem] aJJ aIe
theorem aPC [Mx] (F : Md) : FOK Tryz.prog GL 174 (aAU F) := by
 refine bT (aT (aQ7 F)) mix Tryz.func174 rfl xAa xAc aIe fun w0 S x Θ hw h hF => ?_
 obtain ⟨(x_0 : Nat), u⟩ := x
 simp only [bX, go_sem]
 replace h : sat (aCd F x_0) _ := h
 unfold aCd at h
 refine eP hF (D := Nat × Int) (fun d => sat (sJ F d.1 d.2) Θ) [] (fun d => [(0, .val qx d.1), (2, .val qe d.2)]) (fun d => []) ?_ ?_
 ·simp only [go_sem]
  refine fC h (fun hc h => ?_) fun hc h => ?_
  ·exact aZ ((x_0 / (4294967296 : Nat)), (32 : Int)) h rfl xAb
  ·exact aZ (x_0, (0 : Int)) h rfl xAb
 ·rintro ⟨x_2, n_3⟩ h
  simp only [go_sem]
  replace h : sat (sJ F x_2 n_3) _ := h
  unfold sJ at h
  refine eP hF (D := Nat × Int) (fun d => sat (sI F d.1 d.2) Θ) [] (fun d => [(0, .val qx d.1), (2, .val qe d.2)]) (fun d => []) ?_ ?_
  ·simp only [go_sem]
   refine fC h (fun hc h => ?_) fun hc h => ?_
   ·refine bD h fun g0 h => ?_
    exact aZ ((x_2 / (65536 : Nat)), (n_3 + (16 : Int))) h rfl xAb
   ·exact aZ (x_2, n_3) h rfl xAb
  ·rintro ⟨x_4, n_5⟩ h
   simp only [go_sem]
   replace h : sat (sI F x_4 n_5) _ := h
   unfold sI at h
   refine eP hF (D := Nat × Int) (fun d => sat (sH F d.1 d.2) Θ) [] (fun d => [(0, .val qx d.1), (2, .val qe d.2)]) (fun d => []) ?_ ?_
   ·simp only [go_sem]
    refine fC h (fun hc h => ?_) fun hc h => ?_
    ·refine bD h fun g0 h => ?_
     exact aZ ((x_4 / (256 : Nat)), (n_5 + (8 : Int))) h rfl xAb
    ·exact aZ (x_4, n_5) h rfl xAb
   ·rintro ⟨x_6, n_7⟩ h
    simp only [go_sem]
    replace h : sat (sH F x_6 n_7) _ := h
    unfold sH at h
    refine bD h fun g0 h => bD h fun g1 h => ?_
    exact zaF
attribute [go_sem] aAU
def cB (F : Md) (x_0 : Nat) : Option Int :=
 (aCd F x_0).bind (fun v_5 => ck (I64 ((64 : Int) - v_5)) (some ((64 : Int) - v_5)))
def yZ : PlR := ⟨[(0, .A [0]), (1, .A [2])], []⟩
def aAu : Ty := .pair qx .unit
def fJ (F : Md) : aI := mSpec aAu (.one qe) (fun x => cB F x.1)
abbrev aAv (F : Md) : List (FuncId × aI) := [(174, (aAU F))]
theorem aGu [Mx] (F : Md) : bJ Tryz.prog GL (aAv F) := .cons (aPC F) xAa (.nil)
attribute [go_sem] aAu yZ
theorem rO [Mx] (F : Md) : FOK Tryz.prog GL 137 (fJ F) := by
 refine bT (aT (aGu F)) mix Tryz.func137 rfl xAa xAc yZ fun w0 S x Θ hw h hF => ?_
 obtain ⟨(x_0 : Nat), u⟩ := x
 simp only [bX, go_sem]
 replace h : sat (cB F x_0) _ := h
 unfold cB at h
 obtain ⟨v_5, hv, h⟩ := aN h
 exact za0
attribute [go_sem] fJ
def nQ (F : Md) (x_0 : Nat) : Option Int :=
 if x_0 = (0 : Nat) then some (64 : Int) else ck (0 ≤ ((((mulM F .u64 (x_0 &&& (aS4 F .u64 x_0)) (285870213051353865 : Nat)) / (288230376151711744 : Nat)) : Nat) : Int) ∧ ((((mulM F .u64 (x_0 &&& (aS4 F .u64 x_0)) (285870213051353865 : Nat)) / (288230376151711744 : Nat)) : Nat) : Int) < (64 : Int)) (some (((aWd.getD ((mulM F .u64 (x_0 &&& (aS4 F .u64 x_0)) (285870213051353865 : Nat)) / (288230376151711744 : Nat)) (0 : Nat)) : Nat) : Int))
def xY : PlR := ⟨[(0, .A [0]), (1, .A [0, 4]), (2, .A [2]), (3, .A [2])], []⟩
def zA : Ty := .pair qx .unit
def mZ (F : Md) : aI := mSpec zA (.one qe) (fun x => nQ F x.1)
abbrev aFx (F : Md) : List (FuncId × aI) := []
theorem aFy [Mx] (F : Md) : bJ Tryz.prog GL (aFx F) := .nil
attribute [go_sem] zA xY
theorem aEG [Mx] (F : Md) : FOK Tryz.prog GL 187 (mZ F) := by
 refine bT (aT (aFy F)) mix Tryz.func187 rfl xAa xAc xY fun w0 S x Θ hw h hF => ?_
 obtain ⟨(x_0 : Nat), u⟩ := x
 simp only [bX, go_sem]
 replace h : sat (nQ F x_0) _ := h
 unfold nQ at h
 refine fC h (fun hc h => ?_) fun hc h => ?_
 ·exact aK hF [.tmp 2] rfl rfl rfl (aE h) xAf
 ·obtain ⟨g0, h⟩ := aP h
  repeat (refine ⟨by first | with_reducible assumption | omega | (intros; first | with_reducible assumption | omega) | (simp only [go_sem, dI F, dJ F, dK F] at *; first | with_reducible assumption | omega) | (intro _; exact ⟨rfl, by decide⟩) | (intro _; refine (?_ : _ = aD _); rfl) | (refine (?_ : _ = aD _); rfl) | exact ⟨rfl, rfl⟩ | decide, ?_⟩)
  exact aK hF [.tmp 2] rfl rfl rfl (aE h) (by (simp only [aS, go_sem, dI F, dJ F, dK F]) <;> first | rfl | (simp; done))
attribute [go_sem] mZ
def aCe (F : Md) (x_0 : Nat) (y_1 : Nat) : Option (Nat × (Nat × Unit)) :=
 some ((((((mulM F .u64 (x_0 / (4294967296 : Nat)) (y_1 / (4294967296 : Nat))) + ((((mulM F .u64 (x_0 / (4294967296 : Nat)) (y_1 &&& (4294967295 : Nat))) + ((mulM F .u64 (x_0 &&& (4294967295 : Nat)) (y_1 &&& (4294967295 : Nat))) / (4294967296 : Nat))) % 18446744073709551616) / (4294967296 : Nat))) % 18446744073709551616) + (((((((mulM F .u64 (x_0 / (4294967296 : Nat)) (y_1 &&& (4294967295 : Nat))) + ((mulM F .u64 (x_0 &&& (4294967295 : Nat)) (y_1 &&& (4294967295 : Nat))) / (4294967296 : Nat))) % 18446744073709551616) &&& (4294967295 : Nat)) + (mulM F .u64 (x_0 &&& (4294967295 : Nat)) (y_1 / (4294967296 : Nat)))) % 18446744073709551616) / (4294967296 : Nat))) % 18446744073709551616), (mulM F .u64 x_0 y_1), ())
def aIf : PlR := ⟨[(0, .A [0, 1]), (1, .A [0, 1, 6]), (2, .A [0, 1, 6, 7]), (3, .A [0, 1, 6, 7, 8]), (4, .A [0, 1, 6, 7, 8, 9]), (5, .A [0, 1, 6, 7, 8, 9, 10]), (6, .A [0, 1, 6, 7, 9, 11]), (7, .A [0, 1, 6, 7, 9, 11, 12]), (8, .A [0, 1, 6, 7, 9, 12, 13]), (9, .A [0, 1, 7, 9, 12, 13]), (10, .A [0, 1, 4]), (11, .A [4, 5])], []⟩
def aJK : Ty := .pair qx (.pair qx .unit)
def aAV (F : Md) : aI := mSpec aJK (.tup wn) (fun x => aCe F x.1 x.2.1)
abbrev aQ8 (F : Md) : List (FuncId × aI) := []
theorem aQ9 [Mx] (F : Md) : bJ Tryz.prog GL (aQ8 F) := .nil
attribute [go_sem] aJK aIf
theorem aPD [Mx] (F : Md) : FOK Tryz.prog GL 143 (aAV F) := by
 refine bT (aT (aQ9 F)) mix Tryz.func143 rfl xAa xAc aIf fun w0 S x Θ hw h hF => ?_
 obtain ⟨(x_0 : Nat), (y_1 : Nat), u⟩ := x
 simp only [bX, go_sem]
 replace h : sat (aCe F x_0 y_1) _ := h
 unfold aCe at h
 exact aK hF [.tmp 4, .tmp 5] rfl rfl rfl (aE h) xAf
attribute [go_sem] aAV
def xB (F : Md) (x15_12 : Nat) (hi_0 : Nat) (v_7 : Int) (lo_1 : Nat) (y_2 : Nat) (x18_17 : Nat) : Option (Nat × (Nat × Unit)) :=
 some ((((mulM F .u64 x15_12 (4294967296 : Nat)) + x18_17) % 18446744073709551616), ((aBh F .u64 (((mulM F .u64 (aBh F .u64 (((mulM F .u64 (((hi_0 * (2 ^ (v_7 % (18446744073709551616 : Int)).toNat)) % 18446744073709551616) ||| (lo_1 / (2 ^ (aBh F .u64 (64 : Nat) (v_7 % (18446744073709551616 : Int)).toNat)))) (4294967296 : Nat)) + (((lo_1 * (2 ^ (v_7 % (18446744073709551616 : Int)).toNat)) % 18446744073709551616) / (4294967296 : Nat))) % 18446744073709551616) (mulM F .u64 x15_12 ((y_2 * (2 ^ (v_7 % (18446744073709551616 : Int)).toNat)) % 18446744073709551616))) (4294967296 : Nat)) + (((lo_1 * (2 ^ (v_7 % (18446744073709551616 : Int)).toNat)) % 18446744073709551616) &&& (4294967295 : Nat))) % 18446744073709551616) (mulM F .u64 x18_17 ((y_2 * (2 ^ (v_7 % (18446744073709551616 : Int)).toNat)) % 18446744073709551616))) / (2 ^ (v_7 % (18446744073709551616 : Int)).toNat)), ())
def aAL (F : Md) (lo_1 : Nat) (v_7 : Int) (y_2 : Nat) (rhat_18 : Nat) (x18_19 : Nat) : Option ((Nat × Nat) ⊕ (Nat)) :=
 if ((4294967296 : Nat) ≤ x18_19) ∨ ((((mulM F .u64 (4294967296 : Nat) rhat_18) + (((lo_1 * (2 ^ (v_7 % (18446744073709551616 : Int)).toNat)) % 18446744073709551616) &&& (4294967295 : Nat))) % 18446744073709551616) < (mulM F .u64 x18_19 (((y_2 * (2 ^ (v_7 % (18446744073709551616 : Int)).toNat)) % 18446744073709551616) &&& (4294967295 : Nat)))) then if (4294967296 : Nat) ≤ ((rhat_18 + (((y_2 * (2 ^ (v_7 % (18446744073709551616 : Int)).toNat)) % 18446744073709551616) / (4294967296 : Nat))) % 18446744073709551616) then some (.inr (aBh F .u64 x18_19 (1 : Nat))) else some (.inl (((rhat_18 + (((y_2 * (2 ^ (v_7 % (18446744073709551616 : Int)).toNat)) % 18446744073709551616) / (4294967296 : Nat))) % 18446744073709551616), (aBh F .u64 x18_19 (1 : Nat)))) else some (.inr x18_19)
def xC (F : Md) (y_2 : Nat) (v_7 : Int) (lo_1 : Nat) (hi_0 : Nat) (x15_12 : Nat) : Option (Nat × (Nat × Unit)) :=
 ck ((((y_2 * (2 ^ (v_7 % (18446744073709551616 : Int)).toNat)) % 18446744073709551616) / (4294967296 : Nat)) ≠ 0) ((eG F (fun d : Nat × Nat => aAL F lo_1 v_7 y_2 d.1 d.2) ((aBh F .u64 (aBh F .u64 (((mulM F .u64 (((hi_0 * (2 ^ (v_7 % (18446744073709551616 : Int)).toNat)) % 18446744073709551616) ||| (lo_1 / (2 ^ (aBh F .u64 (64 : Nat) (v_7 % (18446744073709551616 : Int)).toNat)))) (4294967296 : Nat)) + (((lo_1 * (2 ^ (v_7 % (18446744073709551616 : Int)).toNat)) % 18446744073709551616) / (4294967296 : Nat))) % 18446744073709551616) (mulM F .u64 x15_12 ((y_2 * (2 ^ (v_7 % (18446744073709551616 : Int)).toNat)) % 18446744073709551616))) (mulM F .u64 ((aBh F .u64 (((mulM F .u64 (((hi_0 * (2 ^ (v_7 % (18446744073709551616 : Int)).toNat)) % 18446744073709551616) ||| (lo_1 / (2 ^ (aBh F .u64 (64 : Nat) (v_7 % (18446744073709551616 : Int)).toNat)))) (4294967296 : Nat)) + (((lo_1 * (2 ^ (v_7 % (18446744073709551616 : Int)).toNat)) % 18446744073709551616) / (4294967296 : Nat))) % 18446744073709551616) (mulM F .u64 x15_12 ((y_2 * (2 ^ (v_7 % (18446744073709551616 : Int)).toNat)) % 18446744073709551616))) / (((y_2 * (2 ^ (v_7 % (18446744073709551616 : Int)).toNat)) % 18446744073709551616) / (4294967296 : Nat))) (((y_2 * (2 ^ (v_7 % (18446744073709551616 : Int)).toNat)) % 18446744073709551616) / (4294967296 : Nat)))), ((aBh F .u64 (((mulM F .u64 (((hi_0 * (2 ^ (v_7 % (18446744073709551616 : Int)).toNat)) % 18446744073709551616) ||| (lo_1 / (2 ^ (aBh F .u64 (64 : Nat) (v_7 % (18446744073709551616 : Int)).toNat)))) (4294967296 : Nat)) + (((lo_1 * (2 ^ (v_7 % (18446744073709551616 : Int)).toNat)) % 18446744073709551616) / (4294967296 : Nat))) % 18446744073709551616) (mulM F .u64 x15_12 ((y_2 * (2 ^ (v_7 % (18446744073709551616 : Int)).toNat)) % 18446744073709551616))) / (((y_2 * (2 ^ (v_7 % (18446744073709551616 : Int)).toNat)) % 18446744073709551616) / (4294967296 : Nat))))).bind (fun e => xB F x15_12 hi_0 v_7 lo_1 y_2 e))
def aAM (F : Md) (lo_1 : Nat) (v_7 : Int) (y_2 : Nat) (x15_23 : Nat) (rhat_24 : Nat) : Option ((Nat × Nat) ⊕ (Nat)) :=
 if ((4294967296 : Nat) ≤ x15_23) ∨ ((((mulM F .u64 (4294967296 : Nat) rhat_24) + (((lo_1 * (2 ^ (v_7 % (18446744073709551616 : Int)).toNat)) % 18446744073709551616) / (4294967296 : Nat))) % 18446744073709551616) < (mulM F .u64 x15_23 (((y_2 * (2 ^ (v_7 % (18446744073709551616 : Int)).toNat)) % 18446744073709551616) &&& (4294967295 : Nat)))) then if (4294967296 : Nat) ≤ ((rhat_24 + (((y_2 * (2 ^ (v_7 % (18446744073709551616 : Int)).toNat)) % 18446744073709551616) / (4294967296 : Nat))) % 18446744073709551616) then some (.inr (aBh F .u64 x15_23 (1 : Nat))) else some (.inl ((aBh F .u64 x15_23 (1 : Nat)), ((rhat_24 + (((y_2 * (2 ^ (v_7 % (18446744073709551616 : Int)).toNat)) % 18446744073709551616) / (4294967296 : Nat))) % 18446744073709551616))) else some (.inr x15_23)
def aCf (F : Md) (hi_0 : Nat) (lo_1 : Nat) (y_2 : Nat) : Option (Nat × (Nat × Unit)) :=
 if y_2 = (0 : Nat) then none else if y_2 ≤ hi_0 then none else if hi_0 = (0 : Nat) then ck (y_2 ≠ 0) (ck (y_2 ≠ 0) (some ((lo_1 / y_2), (lo_1 % y_2), ()))) else (cB F y_2).bind (fun v_7 => ck ((((y_2 * (2 ^ (v_7 % (18446744073709551616 : Int)).toNat)) % 18446744073709551616) / (4294967296 : Nat)) ≠ 0) ((eG F (fun d : Nat × Nat => aAM F lo_1 v_7 y_2 d.1 d.2) (((((hi_0 * (2 ^ (v_7 % (18446744073709551616 : Int)).toNat)) % 18446744073709551616) ||| (lo_1 / (2 ^ (aBh F .u64 (64 : Nat) (v_7 % (18446744073709551616 : Int)).toNat)))) / (((y_2 * (2 ^ (v_7 % (18446744073709551616 : Int)).toNat)) % 18446744073709551616) / (4294967296 : Nat))), (aBh F .u64 (((hi_0 * (2 ^ (v_7 % (18446744073709551616 : Int)).toNat)) % 18446744073709551616) ||| (lo_1 / (2 ^ (aBh F .u64 (64 : Nat) (v_7 % (18446744073709551616 : Int)).toNat)))) (mulM F .u64 ((((hi_0 * (2 ^ (v_7 % (18446744073709551616 : Int)).toNat)) % 18446744073709551616) ||| (lo_1 / (2 ^ (aBh F .u64 (64 : Nat) (v_7 % (18446744073709551616 : Int)).toNat)))) / (((y_2 * (2 ^ (v_7 % (18446744073709551616 : Int)).toNat)) % 18446744073709551616) / (4294967296 : Nat))) (((y_2 * (2 ^ (v_7 % (18446744073709551616 : Int)).toNat)) % 18446744073709551616) / (4294967296 : Nat)))))).bind (fun e => xC F y_2 v_7 lo_1 hi_0 e)))
def aIg : PlR := ⟨[(0, .A [0, 1, 2]), (1, .A [0, 1, 2, 20]), (2, .stop), (3, .A [0, 1, 2, 24]), (4, .stop), (5, .A [0, 1, 2, 27]), (6, .A [6, 7]), (7, .A [0, 1, 2, 8]), (8, .A [0, 1, 2, 8]), (9, .A [0, 1, 2, 8, 9]), (10, .A [0, 1, 2, 8, 9, 10]), (11, .A [1, 2, 8, 9, 10, 11]), (12, .A [2, 8, 9, 10, 11, 12]), (13, .A [2, 8, 9, 10, 11, 12, 13]), (14, .A [2, 8, 9, 10, 11, 13, 14]), (15, .A [2, 8, 9, 10, 11, 13, 14, 15]), (16, .A [2, 8, 9, 10, 11, 13, 14, 15, 16]), (17, .A [2, 8, 9, 10, 11, 13, 14, 15, 16, 78]), (18, .A [2, 8, 9, 10, 11, 13, 14, 15, 16]), (19, .A [2, 8, 9, 10, 11, 13, 14, 15, 16]), (20, .A [2, 8, 9, 10, 11, 13, 14, 15, 16, 85]), (21, .A [2, 8, 9, 10, 14, 15, 17]), (22, .A [2, 8, 9, 10, 14, 15, 17, 18]), (23, .A [2, 8, 9, 10, 14, 15, 16, 17, 18]), (24, .A [2, 8, 9, 10, 14, 15, 16, 17, 18, 113]), (25, .A [2, 8, 9, 10, 14, 15, 16, 17, 18]), (26, .A [2, 8, 9, 10, 14, 15, 16, 17, 18]), (27, .A [2, 8, 9, 10, 14, 15, 16, 17, 18, 120]), (28, .A [6, 7])], [(20, 24), (27, 31)]⟩
def aJL : Ty := .pair qx wn
def aAW (F : Md) : aI := mSpec aJL (.tup wn) (fun x => aCf F x.1 x.2.1 x.2.2.1)
abbrev aJM (F : Md) : List (FuncId × aI) := [(137, (fJ F))]
theorem aRa [Mx] (F : Md) : bJ Tryz.prog GL (aJM F) := .cons (rO F) xAa (.nil)
attribute [go_sem] aJL aIg
theorem aPE [Mx] (F : Md) : FOK Tryz.prog GL 173 (aAW F) := by
 refine bT (aT (aRa F)) mix Tryz.func173 rfl xAa xAc aIg fun w0 S x Θ hw h hF => ?_
 obtain ⟨(hi_0 : Nat), (lo_1 : Nat), (y_2 : Nat), u⟩ := x
 simp only [bX, go_sem]
 replace h : sat (aCf F hi_0 lo_1 y_2) _ := h
 unfold aCf at h
 refine fC h (fun hc h => ?_) fun hc h => ?_
 ·exact aBj h
 ·refine fC h (fun hc h => ?_) fun hc h => ?_
  ·exact aBj h
  ·refine fC h (fun hc h => ?_) fun hc h => ?_
   ·refine bD h fun g0 h => bD h fun g1 h => ?_
    exact aK hF [.tmp 6, .tmp 7] rfl rfl rfl (aE h) xAf
   ·obtain ⟨v_7, hv, h⟩ := aN h
    try simp only [hv, go_sem, dI F, dJ F, dK F]
    refine bD h fun g0 h => ?_
    refine eP hF (D := Nat) (fun d => sat (xC F y_2 v_7 lo_1 hi_0 d) Θ) [2, 8, 9, 10, 11, 13, 14] (fun d => [(15, .val qx d)]) (fun d => []) ?_ ?_
    ·simp only [go_sem, dI F, dJ F, dK F]
     refine cG hF (D := Nat × Nat) [2, 8, 9, 10, 11, 13, 14] (fun d => [(15, .val qx d.1), (16, .val qx d.2)]) (fun d => []) h rfl xAe ?_
     rintro ⟨x15_23, rhat_24⟩ A17 T17 hA17 hE17 h
     simp only [go_sem, dI F, dJ F, dK F]
     replace h : sat (aAM F lo_1 v_7 y_2 x15_23 rhat_24) _ := h
     unfold aAM at h
     refine ⟨fun hc => ?_, fun hc => ?_⟩
     ·replace h := jH hc h
      refine fC h (fun hc h => ?_) fun hc h => ?_
      ·replace h := yaF (hE17 _ (aE h))
       exact aZ (aBh F .u64 x15_23 (1 : Nat)) h rfl xAe
      ·replace h := hA17 _ (aE h)
       exact aZ _ h rfl xAe
     ·replace h := jI hc h
      replace h := yaF (hE17 _ (aE h))
      exact aZ (x15_23) h rfl xAe
    ·rintro x15_12 h
     simp only [go_sem, dI F, dJ F, dK F]
     replace h : sat (xC F y_2 v_7 lo_1 hi_0 x15_12) _ := h
     unfold xC at h
     refine bD h fun g0 h => ?_
     refine eP hF (D := Nat) (fun d => sat (xB F x15_12 hi_0 v_7 lo_1 y_2 d) Θ) [2, 8, 14, 15, 17] (fun d => [(18, .val qx d)]) (fun d => []) ?_ ?_
     ·simp only [go_sem, dI F, dJ F, dK F]
      refine cG hF (D := Nat × Nat) [2, 8, 9, 10, 14, 15, 17] (fun d => [(16, .val qx d.1), (18, .val qx d.2)]) (fun d => []) h rfl xAe ?_
      rintro ⟨rhat_18, x18_19⟩ A24 T24 hA24 hE24 h
      simp only [go_sem, dI F, dJ F, dK F]
      replace h : sat (aAL F lo_1 v_7 y_2 rhat_18 x18_19) _ := h
      unfold aAL at h
      refine ⟨fun hc => ?_, fun hc => ?_⟩
      ·replace h := jH hc h
       refine fC h (fun hc h => ?_) fun hc h => ?_
       ·replace h := yaF (hE24 _ (aE h))
        exact aZ (aBh F .u64 x18_19 (1 : Nat)) h rfl xAe
       ·replace h := hA24 _ (aE h)
        exact aZ _ h rfl xAe
      ·replace h := jI hc h
       replace h := yaF (hE24 _ (aE h))
       exact aZ (x18_19) h rfl xAe
     ·rintro x18_17 h
      simp only [go_sem, dI F, dJ F, dK F]
      replace h : sat (xB F x15_12 hi_0 v_7 lo_1 y_2 x18_17) _ := h
      unfold xB at h
      exact aK hF [.tmp 6, .tmp 7] rfl rfl rfl (aE h) xAf
attribute [go_sem] aAW
def aHW (F : Md) (a_0 : qd) : Option Bool :=
 ck (¬ ((a_0.length : Int) = (0 : Int)) → ((a_0.length : Int) ≤ (64 : Int)) → (I64 ((a_0.length : Int) - (1 : Int)))) (ck (¬ ((a_0.length : Int) = (0 : Int)) → ((a_0.length : Int) ≤ (64 : Int)) → (0 ≤ ((a_0.length : Int) - (1 : Int)) ∧ ((a_0.length : Int) - (1 : Int)) < (a_0.length : Int))) (some ((decide ((a_0.length : Int) = (0 : Int))) || ((decide ((a_0.length : Int) ≤ (64 : Int))) && (!(decide ((a_0.getD ((a_0.length : Int) - (1 : Int)).toNat (0 : Nat)) = (0 : Nat))))))))
def aOz : PlR := ⟨[(0, .A [0]), (1, .A [2])], []⟩
def aQy : Ty := .pair we .unit
def aFz (F : Md) : aI := mSpec aQy (.one .bool) (fun x => aHW F x.1)
abbrev aUI (F : Md) : List (FuncId × aI) := []
theorem aUJ [Mx] (F : Md) : bJ Tryz.prog GL (aUI F) := .nil
attribute [go_sem] aQy aOz
theorem aTb [Mx] (F : Md) : FOK Tryz.prog GL 150 (aFz F) := by
 refine bT (aT (aUJ F)) mix Tryz.func150 rfl xAa xAc aOz fun w0 S x Θ hw h hF => ?_
 obtain ⟨(a_0 : qd), u⟩ := x
 simp only [bX, go_sem]
 replace h : sat (aHW F a_0) _ := h
 unfold aHW at h
 obtain ⟨g0, h⟩ := aP h
 obtain ⟨g1, h⟩ := aP h
 try simp only [I64, I32] at g0
 repeat (refine ⟨by first | with_reducible assumption | omega | (intros; first | with_reducible assumption | omega) | (simp only [go_sem] at *; first | with_reducible assumption | omega) | (intro _; exact ⟨rfl, by decide⟩) | (intro _; refine (?_ : _ = aD _); rfl) | (refine (?_ : _ = aD _); rfl) | exact ⟨rfl, rfl⟩ | (intro q0 q1; (try have e0 := g0 zAF (by first | exact q1 | omega | (simpa using q1))); (try have e1 := g1 zAF (by first | exact q1 | omega | (simpa using q1))); first | assumption | omega) | (rintro ⟨q0, q1⟩; (try have e0 := g0 zAF (by first | exact q1 | omega | (simpa using q1))); (try have e1 := g1 zAF (by first | exact q1 | omega | (simpa using q1))); first | assumption | omega) | decide, ?_⟩)
 exact zaF
attribute [go_sem] aFz
def aEd (F : Md) (a_4 : qd) : Option (qd ⊕ qd) :=
 ck (((0 : Int) < (a_4.length : Int)) → (I64 ((a_4.length : Int) - (1 : Int)))) (ck (((0 : Int) < (a_4.length : Int)) → (0 ≤ ((a_4.length : Int) - (1 : Int)) ∧ ((a_4.length : Int) - (1 : Int)) < (a_4.length : Int))) (if ((0 : Int) < (a_4.length : Int)) ∧ ((a_4.getD ((a_4.length : Int) - (1 : Int)).toNat (0 : Nat)) = (0 : Nat)) then ck (I64 ((a_4.length : Int) - (1 : Int))) (ck (0 ≤ ((a_4.length : Int) - (1 : Int)) ∧ ((a_4.length : Int) - (1 : Int)) ≤ (a_4.length : Int)) (some (.inl (List.take ((a_4.length : Int) - (1 : Int)).toNat a_4)))) else some (.inr a_4)))
def kA (F : Md) (a_0 : qd) : Option qd :=
 (eG F (fun d : qd => aEd F d) a_0).bind (fun e => some e)
def aMf : PlR := ⟨[(0, .A [0]), (1, .A [0, 14]), (2, .A [0]), (3, .A [2])], []⟩
def aOA : Ty := .pair we .unit
def gO (F : Md) : aI := mSpec aOA (.one we) (fun x => kA F x.1)
abbrev aTc (F : Md) : List (FuncId × aI) := []
theorem aTd [Mx] (F : Md) : bJ Tryz.prog GL (aTc F) := .nil
attribute [go_sem] aOA aMf
theorem tV [Mx] (F : Md) : FOK Tryz.prog GL 141 (gO F) := by
 refine bT (aT (aTd F)) mix Tryz.func141 rfl xAa xAc aMf fun w0 S x Θ hw h hF => ?_
 obtain ⟨(a_0 : qd), u⟩ := x
 simp only [bX, go_sem]
 replace h : sat (kA F a_0) _ := h
 unfold kA at h
 refine cG hF (D := qd) [] (fun d => [(0, .val we d)]) (fun d => []) h rfl xAb ?_
 rintro a_4 A1 T1 hA1 hE1 h
 simp only [go_sem]
 replace h : sat (aEd F a_4) _ := h
 unfold aEd at h
 refine bD h fun g0 h => bD h fun g1 h => ?_
 refine ⟨fun hc => ?_, fun hc => ?_⟩
 ·replace h := jH hc h
  refine bD h fun g0 h => bD h fun g1 h => ?_
  replace h := hA1 _ (aE h)
  exact zaK
 ·replace h := jI hc h
  replace h := yaF (hE1 _ (aE h))
  exact zaF
attribute [go_sem] gO
def aCY (F : Md) (less_0 : Bool) : Option Int :=
 if less_0 = true then some (-1 : Int) else some (1 : Int)
def aMg : PlR := ⟨[(0, .A [0]), (1, .A [3]), (2, .A [2]), (3, .A [2])], []⟩
def aOB : Ty := .pair .bool .unit
def aDE (F : Md) : aI := mSpec aOB (.one qe) (fun x => aCY F x.1)
abbrev aTe (F : Md) : List (FuncId × aI) := []
theorem aTf [Mx] (F : Md) : bJ Tryz.prog GL (aTe F) := .nil
attribute [go_sem] aOB aMg
theorem aSk [Mx] (F : Md) : FOK Tryz.prog GL 156 (aDE F) := by
 refine bT (aT (aTf F)) mix Tryz.func156 rfl xAa xAc aMg fun w0 S x Θ hw h hF => ?_
 obtain ⟨(less_0 : Bool), u⟩ := x
 simp only [bX, go_sem]
 replace h : sat (aCY F less_0) _ := h
 unfold aCY at h
 exact za4
attribute [go_sem] aDE
def aCZ (F : Md) (a_0 : qd) (b_1 : qd) (i_20 : Int) : Option ((Int) ⊕ ((Unit) ⊕ Int)) :=
 if (0 : Int) ≤ i_20 then ck (0 ≤ i_20 ∧ i_20 < (a_0.length : Int)) (ck (0 ≤ i_20 ∧ i_20 < (b_1.length : Int)) (if ¬ ((a_0.getD (i_20.toNat) (0 : Nat)) = (b_1.getD (i_20.toNat) (0 : Nat))) then ck (0 ≤ i_20 ∧ i_20 < (a_0.length : Int)) (ck (0 ≤ i_20 ∧ i_20 < (b_1.length : Int)) ((aCY F (decide ((a_0.getD (i_20.toNat) (0 : Nat)) < (b_1.getD (i_20.toNat) (0 : Nat))))).bind (fun v_33 => some (.inr (.inr v_33))))) else ck (I64 (i_20 - (1 : Int))) (some (.inl (i_20 - (1 : Int)))))) else some (.inr (.inl ()))
def tW (F : Md) (a_0 : qd) (b_1 : qd) : Option Int :=
 if ¬ ((a_0.length : Int) = (b_1.length : Int)) then (aCY F (decide ((a_0.length : Int) < (b_1.length : Int)))).bind (fun v_8 => some v_8) else ck (I64 ((a_0.length : Int) - (1 : Int))) ((eG F (fun d : Int => aCZ F a_0 b_1 d) ((a_0.length : Int) - (1 : Int))).bind (fun e => match e with | (.inl e) => some (0 : Int) | (.inr e) => some e))
def aJN : PlR := ⟨[(0, .A [0, 1]), (1, .A [0, 1, 10]), (2, .A [4]), (3, .A [0, 1, 5]), (4, .A [0, 1, 5, 21]), (5, .A [0, 1, 5]), (6, .A [0, 1, 5, 32]), (7, .A [4]), (8, .A [4])], []⟩
def aMh : Ty := .pair we (.pair we .unit)
def pW (F : Md) : aI := mSpec aMh (.one qe) (fun x => tW F x.1 x.2.1)
abbrev aMi (F : Md) : List (FuncId × aI) := [(156, (aDE F))]
theorem aSl [Mx] (F : Md) : bJ Tryz.prog GL (aMi F) := .cons (aSk F) xAa (.nil)
attribute [go_sem] aMh aJN
theorem aFA [Mx] (F : Md) : FOK Tryz.prog GL 114 (pW F) := by
 refine bT (aT (aSl F)) mix Tryz.func114 rfl xAa xAc aJN fun w0 S x Θ hw h hF => ?_
 obtain ⟨(a_0 : qd), (b_1 : qd), u⟩ := x
 simp only [bX, go_sem]
 replace h : sat (tW F a_0 b_1) _ := h
 unfold tW at h
 refine fC h (fun hc h => ?_) fun hc h => ?_
 ·obtain ⟨v_8, hv, h⟩ := aN h
  exact zaR
 ·refine bD h fun g0 h => ?_
  refine cG hF (D := Int) [0, 1] (fun d => [(5, .val qe d)]) (fun d => []) h rfl xAb ?_
  rintro i_20 A4 T4 hA4 hE4 h
  simp only [go_sem]
  replace h : sat (aCZ F a_0 b_1 i_20) _ := h
  unfold aCZ at h
  refine aS6 h (fun hc h => ?_) fun hc h => ?_
  ·refine bD h fun g0 h => bD h fun g1 h => ?_
   refine fC h (fun hc h => ?_) fun hc h => ?_
   ·refine bD h fun g0 h => bD h fun g1 h => ?_
    obtain ⟨v_33, hv, h⟩ := aN h
    try simp only [hv, go_sem]
    replace h := yaF (hE4 _ (aE h))
    exact zaD
   ·refine bD h fun g0 h => ?_
    replace h := hA4 _ (aE h)
    exact zaK
  ·replace h := yaF (hE4 _ (aE h))
   exact zaD
attribute [go_sem] pW
def aC0 (F : Md) (a_0 : qd) : Option Int :=
 if (a_0.length : Int) = (0 : Int) then some (0 : Int) else ck (I64 ((64 : Int) * (a_0.length : Int))) (ck (I64 ((a_0.length : Int) - (1 : Int))) (ck (0 ≤ ((a_0.length : Int) - (1 : Int)) ∧ ((a_0.length : Int) - (1 : Int)) < (a_0.length : Int)) ((cB F (a_0.getD ((a_0.length : Int) - (1 : Int)).toNat (0 : Nat))).bind (fun v_5 => ck (I64 (((64 : Int) * (a_0.length : Int)) - v_5)) (some (((64 : Int) * (a_0.length : Int)) - v_5))))))
def aMj : PlR := ⟨[(0, .A [0]), (1, .A [0, 5]), (2, .A [2]), (3, .A [2])], []⟩
def aOC : Ty := .pair we .unit
def aDF (F : Md) : aI := mSpec aOC (.one qe) (fun x => aC0 F x.1)
abbrev aOD (F : Md) : List (FuncId × aI) := [(137, (fJ F))]
theorem aTg [Mx] (F : Md) : bJ Tryz.prog GL (aOD F) := .cons (rO F) xAa (.nil)
attribute [go_sem] aOC aMj
theorem aSm [Mx] (F : Md) : FOK Tryz.prog GL 151 (aDF F) := by
 refine bT (aT (aTg F)) mix Tryz.func151 rfl xAa xAc aMj fun w0 S x Θ hw h hF => ?_
 obtain ⟨(a_0 : qd), u⟩ := x
 simp only [bX, go_sem]
 replace h : sat (aC0 F a_0) _ := h
 unfold aC0 at h
 refine fC h (fun hc h => ?_) fun hc h => ?_
 ·exact aK hF [.tmp 2] rfl rfl rfl (aE h) xAd
 ·refine bD h fun g0 h => bD h fun g1 h => bD h fun g2 h => ?_
  obtain ⟨v_5, hv, h⟩ := aN h
  exact za0
attribute [go_sem] aDF
def aC1 (F : Md) (a_0 : qd) (x7_10 : Int) : Option ((Int) ⊕ ((Unit) ⊕ Int)) :=
 if x7_10 < (a_0.length : Int) then ck (0 ≤ x7_10 ∧ x7_10 < (a_0.length : Int)) (if ¬ ((a_0.getD (x7_10.toNat) (0 : Nat)) = (0 : Nat)) then ck (I64 ((64 : Int) * x7_10)) ((nQ F (a_0.getD (x7_10.toNat) (0 : Nat))).bind (fun v_19 => ck (I64 (((64 : Int) * x7_10) + v_19)) (some (.inr (.inr (((64 : Int) * x7_10) + v_19)))))) else ck (I64 (x7_10 + (1 : Int))) (some (.inl (x7_10 + (1 : Int))))) else some (.inr (.inl ()))
def fK (F : Md) (a_0 : qd) : Option Int :=
 (eG F (fun d : Int => aC1 F a_0 d) (0 : Int)).bind (fun e => match e with | (.inl e) => some (-1 : Int) | (.inr e) => some e)
def aJO : PlR := ⟨[(0, .A [0]), (1, .A [5, 6, 7]), (2, .A [5, 6, 7, 8]), (3, .A [3, 4, 5, 6, 7]), (4, .A [3, 4, 5, 6, 7, 13]), (5, .A [2]), (6, .A [5, 6, 7]), (7, .A [2])], []⟩
def aMk : Ty := .pair we .unit
def aCg (F : Md) : aI := mSpec aMk (.one qe) (fun x => fK F x.1)
abbrev aMl (F : Md) : List (FuncId × aI) := [(187, (mZ F))]
theorem aSn [Mx] (F : Md) : bJ Tryz.prog GL (aMl F) := .cons (aEG F) xAa (.nil)
attribute [go_sem] aMk aJO
theorem aRb [Mx] (F : Md) : FOK Tryz.prog GL 177 (aCg F) := by
 refine bT (aT (aSn F)) mix Tryz.func177 rfl xAa xAc aJO fun w0 S x Θ hw h hF => ?_
 obtain ⟨(a_0 : qd), u⟩ := x
 simp only [bX, go_sem]
 replace h : sat (fK F a_0) _ := h
 unfold fK at h
 refine cG hF (D := Int) [5, 6] (fun d => [(7, .val qe d)]) (fun d => []) h rfl xAb ?_
 rintro x7_10 A2 T2 hA2 hE2 h
 simp only [go_sem]
 replace h : sat (aC1 F a_0 x7_10) _ := h
 unfold aC1 at h
 refine fI h (fun hc h => ?_) fun hc h => ?_
 ·refine bD h fun g0 h => ?_
  refine fC h (fun hc h => ?_) fun hc h => ?_
  ·refine bD h fun g0 h => ?_
   obtain ⟨v_19, hv, h⟩ := aN h
   try simp only [hv, go_sem]
   refine bD h fun g0 h => ?_
   replace h := yaF (hE2 _ (aE h))
   exact zaF
  ·refine bD h fun g0 h => ?_
   replace h := hA2 _ (aE h)
   exact zaK
 ·replace h := yaF (hE2 _ (aE h))
  exact zaF
attribute [go_sem] aCg
def aC2 (F : Md) (a_0 : qd) : Option qd :=
 (kA F a_0).bind (fun v_3 => ck (aWg v_3) (some (id v_3)))
def aMm : PlR := ⟨[(0, .A [0]), (1, .B [2])], []⟩
def aOF : Ty := .pair we .unit
def xZ (F : Md) : aI := mSpec aOF (.one we) (fun x => aC2 F x.1)
abbrev aIT (F : Md) : List (FuncId × aI) := [(135, dD), (141, (gO F))]
theorem aTh [Mx] (F : Md) : bJ Tryz.prog GL (aIT F) := .cons nP xAa (.cons (tV F) xAa (.nil))
attribute [go_sem] aOF aMm
theorem aMn [Mx] (F : Md) : FOK Tryz.prog GL 146 (xZ F) := by
 refine bT (aT (aTh F)) mix Tryz.func146 rfl xAa xAc aMm fun w0 S x Θ hw h hF => ?_
 obtain ⟨(a_0 : qd), u⟩ := x
 simp only [bX, go_sem]
 replace h : sat (aC2 F a_0) _ := h
 unfold aC2 at h
 obtain ⟨v_3, hv, h⟩ := aN h
 exact za0
attribute [go_sem] xZ
def vZ (F : Md) (x22_13 : Int) (out_14 : qd) (carry_12 : Nat) (x_21 : Nat) : Option ((Nat × Int × qd) ⊕ qd) :=
 ck (0 ≤ x22_13 ∧ x22_13 < (out_14.length : Int)) (ck (aQ4 (out_14.getD (x22_13.toNat) (0 : Nat)) x_21 carry_12) (ck (0 ≤ x22_13 ∧ x22_13 < (out_14.length : Int)) (ck (I64 (x22_13 + (1 : Int))) (some (.inl ((aFv (out_14.getD (x22_13.toNat) (0 : Nat)) x_21 carry_12).2.1, (x22_13 + (1 : Int)), (out_14.set (x22_13.toNat) (aFv (out_14.getD (x22_13.toNat) (0 : Nat)) x_21 carry_12).1)))))))
def aEe (F : Md) (a_3 : qd) (b_4 : qd) (carry_12 : Nat) (x22_13 : Int) (out_14 : qd) : Option ((Nat × Int × qd) ⊕ qd) :=
 if x22_13 < ((((id a_3) ++ ([0] : List Nat)).length : Nat) : Int) then if x22_13 < (b_4.length : Int) then ck (0 ≤ x22_13 ∧ x22_13 < (b_4.length : Int)) (vZ F x22_13 out_14 carry_12 (b_4.getD (x22_13.toNat) (0 : Nat))) else if carry_12 = (0 : Nat) then some (.inr out_14) else vZ F x22_13 out_14 carry_12 (0 : Nat) else some (.inr out_14)
def wA (F : Md) (a_3 : qd) (b_4 : qd) : Option qd :=
 ck (aWg a_3) (ck (((id a_3).length + (1 : Nat)) * 8 ≤ 140737488355328) ((eG F (fun d : Nat × Int × qd => aEe F a_3 b_4 d.1 d.2.1 d.2.2) ((0 : Nat), (0 : Int), ((id a_3) ++ ([0] : List Nat)))).bind (fun e => (kA F e).bind (fun v_27 => some v_27))))
def aFB (F : Md) (a_0 : qd) (b_1 : qd) : Option qd :=
 if (a_0.length : Int) < (b_1.length : Int) then wA F b_1 a_0 else wA F a_0 b_1
def aMo : PlR := ⟨[(0, .A [0, 1]), (1, .A [0, 1, 13]), (2, .A [0, 1]), (3, .B [1, 5]), (4, .A [1, 5, 6]), (5, .A [1, 5, 6, 21, 22]), (6, .A [1, 5, 6, 21, 22, 23]), (7, .A [1, 5, 6, 7, 21, 22]), (8, .A [1, 5, 6, 7, 8, 21, 22]), (9, .A [1, 5, 6, 7, 8, 21, 22, 25]), (10, .A [1, 5, 6, 7, 8, 21, 22]), (11, .A [1, 5, 6, 7, 8, 21, 22, 34]), (12, .B [1, 5, 6, 21, 22]), (13, .A [1, 5, 6, 21, 22]), (14, .B [4])], [(4, 6), (12, 15)]⟩
def aOI : Ty := .pair we (.pair we .unit)
def aDG (F : Md) : aI := mSpec aOI (.one we) (fun x => aFB F x.1 x.2.1)
abbrev aFC (F : Md) : List (FuncId × aI) := [(135, dD), (141, (gO F)), (144, sT)]
theorem aTi [Mx] (F : Md) : bJ Tryz.prog GL (aFC F) := .cons nP xAa (.cons (tV F) xAa (.nat aId (.nil)))
attribute [go_sem] aOI aMo
theorem aSo [Mx] (F : Md) : FOK Tryz.prog GL 145 (aDG F) := by
 refine bT (aT (aTi F)) mix Tryz.func145 rfl xAa xAc aMo fun w0 S x Θ hw h hF => ?_
 obtain ⟨(a_0 : qd), (b_1 : qd), u⟩ := x
 simp only [bX, go_sem]
 replace h : sat (aFB F a_0 b_1) _ := h
 unfold aFB at h
 refine eP hF (D := qd × qd) (fun d => sat (wA F d.1 d.2) Θ) [] (fun d => [(0, .val we d.1), (1, .val we d.2)]) (fun d => []) ?_ ?_
 ·simp only [go_sem]
  refine fI h (fun hc h => ?_) fun hc h => ?_
  ·exact aZ (b_1, a_0) h rfl xAb
  ·exact aZ (a_0, b_1) h rfl xAb
 ·rintro ⟨a_3, b_4⟩ h
  simp only [go_sem]
  replace h : sat (wA F a_3 b_4) _ := h
  unfold wA at h
  refine bD h fun g0 h => ?_
  obtain ⟨g0, h⟩ := aP h
  repeat (refine ⟨by omega, ?_⟩)
  refine aJG [1] rfl rfl (yaA ?_)
  refine cG hF (D := Nat × Int × qd) [1, 21] (fun d => [(5, .own 0), (6, .val qx d.1), (22, .val qe d.2.1)]) (fun d => [.inr (.row 169 qx d.2.2)]) h rfl xAb ?_
  rintro ⟨carry_12, x22_13, out_14⟩ A6 T6 hA6 hE6 h
  simp only [go_sem]
  replace h : sat (aEe F a_3 b_4 carry_12 x22_13 out_14) _ := h
  unfold aEe at h
  refine fI h (fun hc h => ?_) fun hc h => ?_
  ·refine eP hF (D := Nat) (fun d => sat (vZ F x22_13 out_14 carry_12 d) T6) [1, 6, 7, 21, 22] (fun d => [(5, .own 0), (8, .val qx d)]) (fun d => [.inr (.row 169 qx out_14)]) ?_ ?_
   ·simp only [go_sem]
    refine fI h (fun hc h => ?_) fun hc h => ?_
    ·obtain ⟨g0, h⟩ := aP h
     repeat (refine ⟨by omega, ?_⟩)
     exact aZ (b_4.getD (x22_13.toNat) (0 : Nat)) h rfl xAb
    ·refine fC h (fun hc h => ?_) fun hc h => ?_
     ·replace h := yaF (hE6 _ (aE h))
      obtain ⟨v_23, hv, h⟩ := aN h
      exact zaR
     ·exact aZ (0 : Nat) h rfl xAb
   ·rintro x_21 h
    simp only [go_sem]
    replace h : sat (vZ F x22_13 out_14 carry_12 x_21) _ := h
    unfold vZ at h
    obtain ⟨g0, h⟩ := aP h
    repeat (refine ⟨by omega, ?_⟩)
    obtain ⟨g0, h⟩ := aP h
    repeat (refine ⟨by omega, ?_⟩)
    obtain ⟨g0, h⟩ := aP h
    repeat (refine ⟨by omega, ?_⟩)
    refine bD h fun g0 h => ?_
    replace h := hA6 _ (aE h)
    exact zaK
  ·replace h := yaF (hE6 _ (aE h))
   obtain ⟨v_25, hv, h⟩ := aN h
   exact zaR
attribute [go_sem] aDG
def zB (F : Md) (x22_46 : Int) (b_1 : qd) (carry_86 : Nat) (out_87 : qd) : Option ((Int × qd) ⊕ qd) :=
 ck (I64 (x22_46 + (b_1.length : Int))) (ck (0 ≤ (x22_46 + (b_1.length : Int)) ∧ (x22_46 + (b_1.length : Int)) < (out_87.length : Int)) (ck (I64 (x22_46 + (1 : Int))) (some (.inl ((x22_46 + (1 : Int)), (out_87.set (x22_46 + (b_1.length : Int)).toNat carry_86))))))
def aC3 (F : Md) (b_1 : qd) (a_0 : qd) (x22_46 : Int) (carry_90 : Nat) (x29_91 : Int) (out_92 : qd) : Option ((Nat × Int × qd) ⊕ (Nat × qd)) :=
 if x29_91 < (b_1.length : Int) then ck (0 ≤ x29_91 ∧ x29_91 < (b_1.length : Int)) ((aCe F (a_0.getD (x22_46.toNat) (0 : Nat)) (b_1.getD (x29_91.toNat) (0 : Nat))).bind (fun v_105 => ck (aQ4 v_105.2.1 carry_90 (0 : Nat)) (ck (I64 (x22_46 + x29_91)) (ck (I64 (x22_46 + x29_91)) (ck (0 ≤ (x22_46 + x29_91) ∧ (x22_46 + x29_91) < (out_92.length : Int)) (ck (aQ4 (out_92.getD (x22_46 + x29_91).toNat (0 : Nat)) (aFv v_105.2.1 carry_90 (0 : Nat)).1 (0 : Nat)) (ck (0 ≤ (x22_46 + x29_91) ∧ (x22_46 + x29_91) < (out_92.length : Int)) (ck (I64 (x29_91 + (1 : Int))) (some (.inl (((((v_105.1 + (aFv v_105.2.1 carry_90 (0 : Nat)).2.1) % 18446744073709551616) + (aFv (out_92.getD (x22_46 + x29_91).toNat (0 : Nat)) (aFv v_105.2.1 carry_90 (0 : Nat)).1 (0 : Nat)).2.1) % 18446744073709551616), (x29_91 + (1 : Int)), (out_92.set (x22_46 + x29_91).toNat (aFv (out_92.getD (x22_46 + x29_91).toNat (0 : Nat)) (aFv v_105.2.1 carry_90 (0 : Nat)).1 (0 : Nat)).1)))))))))))) else some (.inr (carry_90, out_92))
def aC4 (F : Md) (a_0 : qd) (b_1 : qd) (x22_46 : Int) (out_47 : qd) : Option ((Int × qd) ⊕ qd) :=
 if x22_46 < (a_0.length : Int) then ck (0 ≤ x22_46 ∧ x22_46 < (a_0.length : Int)) ((eG F (fun d : Nat × Int × qd => aC3 F b_1 a_0 x22_46 d.1 d.2.1 d.2.2) ((0 : Nat), (0 : Int), out_47)).bind (fun e => zB F x22_46 b_1 e.1 e.2)) else some (.inr out_47)
def kH (F : Md) (a_0 : qd) (b_1 : qd) : Option qd :=
 ck (I64 ((a_0.length : Int) + (b_1.length : Int))) (ck (0 ≤ ((a_0.length : Int) + (b_1.length : Int))) (ck ((8 : Int) * ((a_0.length : Int) + (b_1.length : Int)) ≤ 281474976710656) ((eG F (fun d : Int × qd => aC4 F a_0 b_1 d.1 d.2) ((0 : Int), (List.replicate ((a_0.length : Int) + (b_1.length : Int)).toNat (0 : Nat)))).bind (fun e => (kA F e).bind (fun v_109 => some v_109)))))
def aJP : PlR := ⟨[(0, .A [0, 1]), (1, .B [0, 1, 5]), (2, .A [1, 5, 20, 21, 22]), (3, .A [1, 5, 20, 21, 22, 23]), (4, .A [1, 5, 6, 7, 20, 21, 22]), (5, .A [1, 5, 6, 7, 8, 20, 21, 22]), (6, .A [1, 5, 6, 7, 8, 20, 21, 22, 27, 28, 29]), (7, .A [1, 5, 6, 7, 8, 20, 21, 22, 27, 28, 29, 30]), (8, .A [1, 5, 6, 7, 8, 9, 10, 20, 21, 22, 27, 28, 29]), (9, .A [1, 5, 6, 7, 8, 9, 11, 12, 20, 21, 22, 27, 28, 29]), (10, .A [1, 5, 6, 7, 8, 9, 11, 12, 20, 21, 22, 27, 28, 29]), (11, .A [1, 5, 6, 7, 9, 11, 12, 13, 20, 21, 22, 27, 28, 29]), (12, .A [1, 5, 6, 7, 9, 11, 12, 20, 21, 22, 27, 28, 29]), (13, .B [1, 5, 6, 7, 11, 13, 20, 21, 22, 27, 28, 29]), (14, .A [1, 5, 6, 7, 8, 20, 21, 22, 27, 28, 29]), (15, .A [1, 5, 6, 7, 8, 20, 21, 22, 27, 28, 29]), (16, .B [1, 5, 20, 21, 22]), (17, .A [1, 5, 20, 21, 22]), (18, .B [4])], [(9, 19)]⟩
def aMp : Ty := .pair we (.pair we .unit)
def gW (F : Md) : aI := mSpec aMp (.one we) (fun x => kH F x.1 x.2.1)
abbrev aDH (F : Md) : List (FuncId × aI) := [(141, (gO F)), (143, (aAV F)), (144, sT)]
theorem aSp [Mx] (F : Md) : bJ Tryz.prog GL (aDH F) := .cons (tV F) xAa (.cons (aPD F) xAa (.nat aId (.nil)))
attribute [go_sem] aMp aJP
theorem uL [Mx] (F : Md) : FOK Tryz.prog GL 104 (gW F) := by
 refine bT (aT (aSp F)) mix Tryz.func104 rfl xAa xAc aJP fun w0 S x Θ hw h hF => ?_
 obtain ⟨(a_0 : qd), (b_1 : qd), u⟩ := x
 simp only [bX, go_sem]
 replace h : sat (kH F a_0 b_1) _ := h
 unfold kH at h
 obtain ⟨g0, h⟩ := aP h
 repeat (refine ⟨by omega, ?_⟩)
 obtain ⟨g0, h⟩ := aP h
 obtain ⟨g1, h⟩ := aP h
 repeat (refine ⟨by omega, ?_⟩)
 refine cG hF (D := Int × qd) [1, 20, 21] (fun d => [(5, .own 0), (22, .val qe d.1)]) (fun d => [.inr (.row 169 qx d.2)]) h rfl xAb ?_
 rintro ⟨x22_46, out_47⟩ A3 T3 hA3 hE3 h
 simp only [go_sem]
 replace h : sat (aC4 F a_0 b_1 x22_46 out_47) _ := h
 unfold aC4 at h
 refine fI h (fun hc h => ?_) fun hc h => ?_
 ·obtain ⟨g0, h⟩ := aP h
  repeat (refine ⟨by omega, ?_⟩)
  refine eP hF (D := Nat × qd) (fun d => sat (zB F x22_46 b_1 d.1 d.2) T3) [1, 6, 20, 21, 22] (fun d => [(5, .own 0), (8, .val qx d.1)]) (fun d => [.inr (.row 169 qx d.2)]) ?_ ?_
  ·simp only [go_sem]
   refine cG hF (D := Nat × Int × qd) [1, 6, 7, 20, 21, 22, 27, 28] (fun d => [(5, .own 0), (8, .val qx d.1), (29, .val qe d.2.1)]) (fun d => [.inr (.row 169 qx d.2.2)]) h rfl xAb ?_
   rintro ⟨carry_90, x29_91, out_92⟩ A7 T7 hA7 hE7 h
   simp only [go_sem]
   replace h : sat (aC3 F b_1 a_0 x22_46 carry_90 x29_91 out_92) _ := h
   unfold aC3 at h
   refine fI h (fun hc h => ?_) fun hc h => ?_
   ·obtain ⟨g0, h⟩ := aP h
    repeat (refine ⟨by omega, ?_⟩)
    obtain ⟨v_105, hv, h⟩ := aN h
    try simp only [hv, go_sem]
    obtain ⟨g0, h⟩ := aP h
    repeat (refine ⟨by omega, ?_⟩)
    obtain ⟨g0, h⟩ := aP h
    repeat (refine ⟨by omega, ?_⟩)
    obtain ⟨g0, h⟩ := aP h
    repeat (refine ⟨by omega, ?_⟩)
    obtain ⟨g0, h⟩ := aP h
    repeat (refine ⟨by omega, ?_⟩)
    obtain ⟨g0, h⟩ := aP h
    repeat (refine ⟨by omega, ?_⟩)
    obtain ⟨g0, h⟩ := aP h
    repeat (refine ⟨by omega, ?_⟩)
    obtain ⟨g0, h⟩ := aP h
    repeat (refine ⟨by omega, ?_⟩)
    replace h := hA7 _ (aE h)
    exact zaK
   ·replace h := yaF (hE7 _ (aE h))
    exact aZ (carry_90, out_92) h rfl xAb
  ·rintro ⟨carry_86, out_87⟩ h
   simp only [go_sem]
   replace h : sat (zB F x22_46 b_1 carry_86 out_87) _ := h
   unfold zB at h
   obtain ⟨g0, h⟩ := aP h
   repeat (refine ⟨by omega, ?_⟩)
   obtain ⟨g0, h⟩ := aP h
   repeat (refine ⟨by omega, ?_⟩)
   obtain ⟨g0, h⟩ := aP h
   try simp only [I64, I32] at g0
   repeat (refine ⟨zAA, ?_⟩)
   replace h := hA3 _ (aE h)
   exact zaK
 ·replace h := yaF (hE3 _ (aE h))
  obtain ⟨v_107, hv, h⟩ := aN h
  exact zaR
attribute [go_sem] gW
def aEf (F : Md) (a_0 : qd) (n_1 : Int) (x20_7 : Int) (out_8 : qd) : Option ((Int × qd) ⊕ qd) :=
 if x20_7 < (a_0.length : Int) then ck (0 ≤ x20_7 ∧ x20_7 < (a_0.length : Int)) (ck (I64 (Int.tdiv n_1 (64 : Int))) (ck (I64 ((Int.tdiv n_1 (64 : Int)) + x20_7)) (ck (0 ≤ ((Int.tdiv n_1 (64 : Int)) + x20_7) ∧ ((Int.tdiv n_1 (64 : Int)) + x20_7) < (out_8.length : Int)) (ck (0 ≤ ((Int.tdiv n_1 (64 : Int)) + x20_7) ∧ ((Int.tdiv n_1 (64 : Int)) + x20_7) < (out_8.length : Int)) (ck (I64 (Int.tdiv n_1 (64 : Int))) (ck (I64 ((Int.tdiv n_1 (64 : Int)) + x20_7)) (ck (I64 (((Int.tdiv n_1 (64 : Int)) + x20_7) + (1 : Int))) (ck (0 ≤ (((Int.tdiv n_1 (64 : Int)) + x20_7) + (1 : Int)) ∧ (((Int.tdiv n_1 (64 : Int)) + x20_7) + (1 : Int)) < (((out_8.set ((Int.tdiv n_1 (64 : Int)) + x20_7).toNat ((out_8.getD ((Int.tdiv n_1 (64 : Int)) + x20_7).toNat (0 : Nat)) ||| (((a_0.getD (x20_7.toNat) (0 : Nat)) * (2 ^ ((Int.tmod n_1 (64 : Int)) % (18446744073709551616 : Int)).toNat)) % 18446744073709551616))).length : Nat) : Int)) (ck (I64 ((63 : Int) - (Int.tmod n_1 (64 : Int)))) (ck (0 ≤ (((Int.tdiv n_1 (64 : Int)) + x20_7) + (1 : Int)) ∧ (((Int.tdiv n_1 (64 : Int)) + x20_7) + (1 : Int)) < (((out_8.set ((Int.tdiv n_1 (64 : Int)) + x20_7).toNat ((out_8.getD ((Int.tdiv n_1 (64 : Int)) + x20_7).toNat (0 : Nat)) ||| (((a_0.getD (x20_7.toNat) (0 : Nat)) * (2 ^ ((Int.tmod n_1 (64 : Int)) % (18446744073709551616 : Int)).toNat)) % 18446744073709551616))).length : Nat) : Int)) (ck (I64 (x20_7 + (1 : Int))) (some (.inl ((x20_7 + (1 : Int)), ((out_8.set ((Int.tdiv n_1 (64 : Int)) + x20_7).toNat ((out_8.getD ((Int.tdiv n_1 (64 : Int)) + x20_7).toNat (0 : Nat)) ||| (((a_0.getD (x20_7.toNat) (0 : Nat)) * (2 ^ ((Int.tmod n_1 (64 : Int)) % (18446744073709551616 : Int)).toNat)) % 18446744073709551616))).set (((Int.tdiv n_1 (64 : Int)) + x20_7) + (1 : Int)).toNat (((out_8.set ((Int.tdiv n_1 (64 : Int)) + x20_7).toNat ((out_8.getD ((Int.tdiv n_1 (64 : Int)) + x20_7).toNat (0 : Nat)) ||| (((a_0.getD (x20_7.toNat) (0 : Nat)) * (2 ^ ((Int.tmod n_1 (64 : Int)) % (18446744073709551616 : Int)).toNat)) % 18446744073709551616))).getD (((Int.tdiv n_1 (64 : Int)) + x20_7) + (1 : Int)).toNat (0 : Nat)) ||| (((a_0.getD (x20_7.toNat) (0 : Nat)) / (2 : Nat)) / (2 ^ (((63 : Int) - (Int.tmod n_1 (64 : Int))) % (18446744073709551616 : Int)).toNat)))))))))))))))))) else some (.inr out_8)
def lV (F : Md) (a_0 : qd) (n_1 : Int) : Option qd :=
 if (a_0.length : Int) = (0 : Int) then some ([] : List Nat) else ck (I64 (Int.tdiv n_1 (64 : Int))) (ck (I64 ((Int.tdiv n_1 (64 : Int)) + (a_0.length : Int))) (ck (I64 (((Int.tdiv n_1 (64 : Int)) + (a_0.length : Int)) + (1 : Int))) (ck (0 ≤ (((Int.tdiv n_1 (64 : Int)) + (a_0.length : Int)) + (1 : Int))) (ck ((8 : Int) * (((Int.tdiv n_1 (64 : Int)) + (a_0.length : Int)) + (1 : Int)) ≤ 281474976710656) ((eG F (fun d : Int × qd => aEf F a_0 n_1 d.1 d.2) ((0 : Int), (List.replicate (((Int.tdiv n_1 (64 : Int)) + (a_0.length : Int)) + (1 : Int)).toNat (0 : Nat)))).bind (fun e => (kA F e).bind (fun v_15 => some v_15)))))))
def aMq : PlR := ⟨[(0, .A [0, 1]), (1, .A [0, 1, 10]), (2, .A [4]), (3, .B [0, 1, 5]), (4, .A [1, 5, 18, 19, 20]), (5, .A [1, 5, 18, 19, 20, 21]), (6, .A [1, 5, 6, 7, 18, 19, 20]), (7, .B [1, 5, 6, 7, 18, 19, 20]), (8, .B [1, 5, 18, 19, 20]), (9, .A [1, 5, 18, 19, 20]), (10, .B [4])], []⟩
def aOM : Ty := .pair we q9
def yA (F : Md) : aI := mSpec aOM (.one we) (fun x => lV F x.1 x.2.1)
abbrev aON (F : Md) : List (FuncId × aI) := [(141, (gO F))]
theorem aTj [Mx] (F : Md) : bJ Tryz.prog GL (aON F) := .cons (tV F) xAa (.nil)
attribute [go_sem] aOM aMq
theorem aMr [Mx] (F : Md) : FOK Tryz.prog GL 139 (yA F) := by
 refine bT (aT (aTj F)) mix Tryz.func139 rfl xAa xAc aMq fun w0 S x Θ hw h hF => ?_
 obtain ⟨(a_0 : qd), (n_1 : Int), u⟩ := x
 simp only [bX, go_sem]
 replace h : sat (lV F a_0 n_1) _ := h
 unfold lV at h
 refine fC h (fun hc h => ?_) fun hc h => ?_
 ·exact aK hF [.tmp 4] rfl rfl rfl (aE h) xAd
 ·obtain ⟨g0, h⟩ := aP h
  try simp only [I64, I32] at g0
  repeat (refine ⟨zAA, ?_⟩)
  obtain ⟨g0, h⟩ := aP h
  try simp only [I64, I32] at g0
  repeat (refine ⟨zAA, ?_⟩)
  obtain ⟨g0, h⟩ := aP h
  try simp only [I64, I32] at g0
  repeat (refine ⟨zAA, ?_⟩)
  obtain ⟨g0, h⟩ := aP h
  obtain ⟨g1, h⟩ := aP h
  repeat (refine ⟨zAA, ?_⟩)
  refine cG hF (D := Int × qd) [1, 18, 19] (fun d => [(5, .own 0), (20, .val qe d.1)]) (fun d => [.inr (.row 169 qx d.2)]) h rfl xAb ?_
  rintro ⟨x20_7, out_8⟩ A5 T5 hA5 hE5 h
  simp only [go_sem]
  replace h : sat (aEf F a_0 n_1 x20_7 out_8) _ := h
  unfold aEf at h
  refine fI h (fun hc h => ?_) fun hc h => ?_
  ·obtain ⟨g0, h⟩ := aP h
   repeat (refine ⟨zAA, ?_⟩)
   obtain ⟨g0, h⟩ := aP h
   try simp only [I64, I32] at g0
   repeat (refine ⟨zAA, ?_⟩)
   obtain ⟨g0, h⟩ := aP h
   try simp only [I64, I32] at g0
   repeat (refine ⟨zAA, ?_⟩)
   obtain ⟨g0, h⟩ := aP h
   repeat (refine ⟨zAA, ?_⟩)
   obtain ⟨g0, h⟩ := aP h
   repeat (refine ⟨zAA, ?_⟩)
   obtain ⟨g0, h⟩ := aP h
   try simp only [I64, I32] at g0
   repeat (refine ⟨zAA, ?_⟩)
   obtain ⟨g0, h⟩ := aP h
   try simp only [I64, I32] at g0
   repeat (refine ⟨zAA, ?_⟩)
   obtain ⟨g0, h⟩ := aP h
   try simp only [I64, I32] at g0
   repeat (refine ⟨zAA, ?_⟩)
   obtain ⟨g0, h⟩ := aP h
   repeat (refine ⟨zAA, ?_⟩)
   obtain ⟨g0, h⟩ := aP h
   try simp only [I64, I32] at g0
   repeat (refine ⟨zAA, ?_⟩)
   obtain ⟨g0, h⟩ := aP h
   repeat (refine ⟨zAA, ?_⟩)
   obtain ⟨g0, h⟩ := aP h
   try simp only [I64, I32] at g0
   repeat (refine ⟨zAA, ?_⟩)
   replace h := hA5 _ (aE h)
   exact zav
  ·replace h := yaF (hE5 _ (aE h))
   obtain ⟨v_13, hv, h⟩ := aN h
   exact zaR
attribute [go_sem] yA
def aC5 (F : Md) (n_1 : Int) (a_0 : qd) (x22_10 : Int) (out_11 : qd) : Option ((Int × qd) ⊕ qd) :=
 if x22_10 < (((List.drop (Int.tdiv n_1 (64 : Int)).toNat a_0).length : Nat) : Int) then ck (0 ≤ x22_10 ∧ x22_10 < (((List.drop (Int.tdiv n_1 (64 : Int)).toNat a_0).length : Nat) : Int)) (ck (0 ≤ x22_10 ∧ x22_10 < (out_11.length : Int)) (ck (I64 (x22_10 + (1 : Int))) (if (x22_10 + (1 : Int)) < (((List.drop (Int.tdiv n_1 (64 : Int)).toNat a_0).length : Nat) : Int) then ck (0 ≤ x22_10 ∧ x22_10 < (((out_11.set (x22_10.toNat) (((List.drop (Int.tdiv n_1 (64 : Int)).toNat a_0).getD (x22_10.toNat) (0 : Nat)) / (2 ^ ((Int.tmod n_1 (64 : Int)) % (18446744073709551616 : Int)).toNat))).length : Nat) : Int)) (ck (I64 (x22_10 + (1 : Int))) (ck (0 ≤ (x22_10 + (1 : Int)) ∧ (x22_10 + (1 : Int)) < (((List.drop (Int.tdiv n_1 (64 : Int)).toNat a_0).length : Nat) : Int)) (ck (I64 ((63 : Int) - (Int.tmod n_1 (64 : Int)))) (ck (0 ≤ x22_10 ∧ x22_10 < (((out_11.set (x22_10.toNat) (((List.drop (Int.tdiv n_1 (64 : Int)).toNat a_0).getD (x22_10.toNat) (0 : Nat)) / (2 ^ ((Int.tmod n_1 (64 : Int)) % (18446744073709551616 : Int)).toNat))).length : Nat) : Int)) (ck (I64 (x22_10 + (1 : Int))) (some (.inl ((x22_10 + (1 : Int)), ((out_11.set (x22_10.toNat) (((List.drop (Int.tdiv n_1 (64 : Int)).toNat a_0).getD (x22_10.toNat) (0 : Nat)) / (2 ^ ((Int.tmod n_1 (64 : Int)) % (18446744073709551616 : Int)).toNat))).set (x22_10.toNat) (((out_11.set (x22_10.toNat) (((List.drop (Int.tdiv n_1 (64 : Int)).toNat a_0).getD (x22_10.toNat) (0 : Nat)) / (2 ^ ((Int.tmod n_1 (64 : Int)) % (18446744073709551616 : Int)).toNat))).getD (x22_10.toNat) (0 : Nat)) ||| ((((((List.drop (Int.tdiv n_1 (64 : Int)).toNat a_0).getD (x22_10 + (1 : Int)).toNat (0 : Nat)) * (2 : Nat)) % 18446744073709551616) * (2 ^ (((63 : Int) - (Int.tmod n_1 (64 : Int))) % (18446744073709551616 : Int)).toNat)) % 18446744073709551616))))))))))) else ck (I64 (x22_10 + (1 : Int))) (some (.inl ((x22_10 + (1 : Int)), (out_11.set (x22_10.toNat) (((List.drop (Int.tdiv n_1 (64 : Int)).toNat a_0).getD (x22_10.toNat) (0 : Nat)) / (2 ^ ((Int.tmod n_1 (64 : Int)) % (18446744073709551616 : Int)).toNat))))))))) else some (.inr out_11)
def oF (F : Md) (a_0 : qd) (n_1 : Int) : Option qd :=
 ck (I64 (Int.tdiv n_1 (64 : Int))) (if (a_0.length : Int) ≤ (Int.tdiv n_1 (64 : Int)) then some ([] : List Nat) else ck (I64 (Int.tdiv n_1 (64 : Int))) (ck (0 ≤ (Int.tdiv n_1 (64 : Int)) ∧ (Int.tdiv n_1 (64 : Int)) ≤ (a_0.length : Int)) (ck (0 ≤ (((List.drop (Int.tdiv n_1 (64 : Int)).toNat a_0).length : Nat) : Int)) (ck ((8 : Int) * (((List.drop (Int.tdiv n_1 (64 : Int)).toNat a_0).length : Nat) : Int) ≤ 281474976710656) ((eG F (fun d : Int × qd => aC5 F n_1 a_0 d.1 d.2) ((0 : Int), (List.replicate (List.drop (Int.tdiv n_1 (64 : Int)).toNat a_0).length (0 : Nat)))).bind (fun e => (kA F e).bind (fun v_19 => some v_19)))))))
def aJQ : PlR := ⟨[(0, .A [0, 1]), (1, .A [0, 1, 12]), (2, .A [4]), (3, .A [0, 1]), (4, .B [0, 1, 5]), (5, .A [0, 1, 5, 20, 21, 22]), (6, .A [0, 1, 5, 20, 21, 22, 23]), (7, .A [0, 1, 5, 6, 7, 20, 21, 22]), (8, .B [0, 1, 5, 6, 20, 21, 22]), (9, .A [0, 1, 5, 6, 20, 21, 22, 39]), (10, .C 17 [0, 1, 5, 20, 21, 22]), (11, .A [0, 1, 5, 20, 21, 22]), (12, .B [4])], []⟩
def aMs : Ty := .pair we q9
def uM (F : Md) : aI := mSpec aMs (.one we) (fun x => oF F x.1 x.2.1)
abbrev aMt (F : Md) : List (FuncId × aI) := [(141, (gO F))]
theorem aSq [Mx] (F : Md) : bJ Tryz.prog GL (aMt F) := .cons (tV F) xAa (.nil)
attribute [go_sem] aMs aJQ
theorem aJR [Mx] (F : Md) : FOK Tryz.prog GL 142 (uM F) := by
 refine bT (aT (aSq F)) mix Tryz.func142 rfl xAa xAc aJQ fun w0 S x Θ hw h hF => ?_
 obtain ⟨(a_0 : qd), (n_1 : Int), u⟩ := x
 simp only [bX, go_sem]
 replace h : sat (oF F a_0 n_1) _ := h
 unfold oF at h
 obtain ⟨g0, h⟩ := aP h
 try simp only [I64, I32] at g0
 repeat (refine ⟨zAA, ?_⟩)
 refine aS6 h (fun hc h => ?_) fun hc h => ?_
 ·exact aK hF [.tmp 4] rfl rfl rfl (aE h) xAd
 ·obtain ⟨g0, h⟩ := aP h
  obtain ⟨g1, h⟩ := aP h
  try simp only [I64, I32] at g0
  repeat (refine ⟨zAA, ?_⟩)
  obtain ⟨g0, h⟩ := aP h
  obtain ⟨g1, h⟩ := aP h
  repeat (refine ⟨zAA, ?_⟩)
  refine cG hF (D := Int × qd) [0, 1, 20, 21] (fun d => [(5, .own 0), (22, .val qe d.1)]) (fun d => [.inr (.row 169 qx d.2)]) h rfl xAb ?_
  rintro ⟨x22_10, out_11⟩ A6 T6 hA6 hE6 h
  simp only [go_sem]
  replace h : sat (aC5 F n_1 a_0 x22_10 out_11) _ := h
  unfold aC5 at h
  refine fI h (fun hc h => ?_) fun hc h => ?_
  ·obtain ⟨g0, h⟩ := aP h
   repeat (refine ⟨zAA, ?_⟩)
   obtain ⟨g0, h⟩ := aP h
   repeat (refine ⟨zAA, ?_⟩)
   obtain ⟨g0, h⟩ := aP h
   try simp only [I64, I32] at g0
   repeat (refine ⟨zAA, ?_⟩)
   refine ⟨fun hc => ?_, fun hc => ?_⟩
   ·replace h := jH hc h
    obtain ⟨g0, h⟩ := aP h
    obtain ⟨g1, h⟩ := aP h
    obtain ⟨g2, h⟩ := aP h
    obtain ⟨g3, h⟩ := aP h
    obtain ⟨g4, h⟩ := aP h
    try simp only [I64, I32] at g1
    try simp only [I64, I32] at g3
    repeat (refine ⟨zAA, ?_⟩)
    obtain ⟨g0, h⟩ := aP h
    try simp only [I64, I32] at g0
    repeat (refine ⟨zAA, ?_⟩)
    replace h := hA6 _ (aE h)
    exact zav
   ·replace h := jI (by first | exact hc | omega) h
    obtain ⟨g0, h⟩ := aP h
    try simp only [I64, I32] at g0
    repeat (refine ⟨zAA, ?_⟩)
    replace h := hA6 _ (aE h)
    exact zaK
  ·replace h := yaF (hE6 _ (aE h))
   obtain ⟨v_17, hv, h⟩ := aN h
   exact zaR
attribute [go_sem] uM
def zC (F : Md) (rest_11 : Nat) (q_12 : qd) : Option qv :=
 (kA F q_12).bind (fun v_15 => (kA F ([rest_11] : List Nat)).bind (fun v_16 => some (v_15, v_16, ())))
def aC6 (F : Md) (a_0 : qd) (b_1 : Nat) (rest_18 : Nat) (i_19 : Int) (q_20 : qd) : Option ((Nat × Int × qd) ⊕ (Nat × qd)) :=
 if (0 : Int) ≤ i_19 then ck (0 ≤ i_19 ∧ i_19 < (a_0.length : Int)) ((aCf F rest_18 (a_0.getD (i_19.toNat) (0 : Nat)) b_1).bind (fun v_28 => ck (0 ≤ i_19 ∧ i_19 < (q_20.length : Int)) (ck (I64 (i_19 - (1 : Int))) (some (.inl (v_28.2.1, (i_19 - (1 : Int)), (q_20.set (i_19.toNat) v_28.1))))))) else some (.inr (rest_18, q_20))
def yB (F : Md) (a_0 : qd) (b_1 : Nat) : Option qv :=
 ck (0 ≤ (a_0.length : Int)) (ck ((8 : Int) * (a_0.length : Int) ≤ 281474976710656) (ck (I64 ((a_0.length : Int) - (1 : Int))) ((eG F (fun d : Nat × Int × qd => aC6 F a_0 b_1 d.1 d.2.1 d.2.2) ((0 : Nat), ((a_0.length : Int) - (1 : Int)), (List.replicate (a_0.length) (0 : Nat)))).bind (fun e => zC F e.1 e.2))))
def aJS : PlR := ⟨[(0, .A [0, 1]), (1, .B [0, 1, 6]), (2, .A [0, 1, 6, 7]), (3, .A [0, 1, 6, 7, 8]), (4, .A [0, 1, 6, 7, 8, 16]), (5, .A [0, 1, 6, 7, 8]), (6, .B [0, 1, 6, 7, 8]), (7, .B [4, 5])], [(6, 10)]⟩
def aMu : Ty := .pair we (.pair qx .unit)
def aCh (F : Md) : aI := mSpec aMu (.tup (.pair we (.pair we .unit))) (fun x => yB F x.1 x.2.1)
abbrev aG5 (F : Md) : List (FuncId × aI) := [(141, (gO F)), (173, (aAW F))]
theorem aSr [Mx] (F : Md) : bJ Tryz.prog GL (aG5 F) := .cons (tV F) xAa (.cons (aPE F) xAa (.nil))
attribute [go_sem] aMu aJS
theorem aRc [Mx] (F : Md) : FOK Tryz.prog GL 136 (aCh F) := by
 refine bT (aT (aSr F)) mix Tryz.func136 rfl xAa xAc aJS fun w0 S x Θ hw h hF => ?_
 obtain ⟨(a_0 : qd), (b_1 : Nat), u⟩ := x
 simp only [bX, go_sem]
 replace h : sat (yB F a_0 b_1) _ := h
 unfold yB at h
 obtain ⟨g0, h⟩ := aP h
 obtain ⟨g1, h⟩ := aP h
 repeat (refine ⟨by omega, ?_⟩)
 refine eP hF (D := Nat × qd) (fun d => sat (zC F d.1 d.2) Θ) [] (fun d => [(6, .own 0), (7, .val qx d.1)]) (fun d => [.inr (.row 169 qx d.2)]) ?_ ?_
 ·simp only [go_sem]
  obtain ⟨g0, h⟩ := aP h
  repeat (refine ⟨by omega, ?_⟩)
  refine cG hF (D := Nat × Int × qd) [0, 1] (fun d => [(6, .own 0), (7, .val qx d.1), (8, .val qe d.2.1)]) (fun d => [.inr (.row 169 qx d.2.2)]) h rfl xAb ?_
  rintro ⟨rest_18, i_19, q_20⟩ A4 T4 hA4 hE4 h
  simp only [go_sem]
  replace h : sat (aC6 F a_0 b_1 rest_18 i_19 q_20) _ := h
  unfold aC6 at h
  refine aS6 h (fun hc h => ?_) fun hc h => ?_
  ·obtain ⟨g0, h⟩ := aP h
   repeat (refine ⟨by omega, ?_⟩)
   obtain ⟨v_28, hv, h⟩ := aN h
   try simp only [hv, go_sem]
   obtain ⟨g0, h⟩ := aP h
   repeat (refine ⟨by omega, ?_⟩)
   obtain ⟨g0, h⟩ := aP h
   repeat (refine ⟨by omega, ?_⟩)
   replace h := hA4 _ (aE h)
   exact zaK
  ·replace h := yaF (hE4 _ (aE h))
   exact aZ (rest_18, q_20) h rfl xAb
 ·rintro ⟨rest_11, q_12⟩ h
  simp only [go_sem]
  replace h : sat (zC F rest_11 q_12) _ := h
  unfold zC at h
  obtain ⟨v_15, hv, h⟩ := aN h
  try simp only [hv, go_sem]
  obtain ⟨v_16, hv, h⟩ := aN h
  try simp only [hv, go_sem]
  exact aK hF [.tmp 4, .tmp 5] rfl rfl rfl (aE h) xAd
attribute [go_sem] aCh
def nR (F : Md) (a_0 : qd) (n_1 : Int) : Option qd :=
 ck (aWg a_0) (ck (I64 (n_1 - (a_0.length : Int))) (ck (0 ≤ (n_1 - (a_0.length : Int))) (ck (((id a_0).length + (n_1 - (a_0.length : Int)).toNat) * 8 ≤ 140737488355328) (some ((id a_0) ++ (List.replicate (n_1 - (a_0.length : Int)).toNat (0 : Nat)))))))
def aIh : PlR := ⟨[(0, .A [0, 1]), (1, .B [4])], []⟩
def aJT : Ty := .pair we q9
def aAX (F : Md) : aI := mSpec aJT (.one we) (fun x => nR F x.1 x.2.1)
abbrev aJU (F : Md) : List (FuncId × aI) := [(135, dD)]
theorem aRd [Mx] (F : Md) : bJ Tryz.prog GL (aJU F) := .cons nP xAa (.nil)
attribute [go_sem] aJT aIh
theorem aPF [Mx] (F : Md) : FOK Tryz.prog GL 138 (aAX F) := by
 refine bT (aT (aRd F)) mix Tryz.func138 rfl xAa xAc aIh fun w0 S x Θ hw h hF => ?_
 obtain ⟨(a_0 : qd), (n_1 : Int), u⟩ := x
 simp only [bX, go_sem]
 replace h : sat (nR F a_0 n_1) _ := h
 unfold nR at h
 refine bD h fun g0 h => ?_
 refine bD h fun g0 h => ?_
 obtain ⟨g0, h⟩ := aP h
 obtain ⟨g1, h⟩ := aP h
 repeat (refine ⟨by omega, ?_⟩)
 exact zaD
attribute [go_sem] aAX
def aBz (F : Md) (a_0 : qd) (b_1 : qd) : Option qv :=
 ck ((kA F (List.replicate (((a_0.length : Int) - (b_1.length : Int)) + (1 : Int)).toNat (0 : Nat))).isSome = true) (ck (0 ≤ (b_1.length : Int) ∧ (b_1.length : Int) ≤ ((((nR F ((lV F a_0 ((cB F (b_1.getD ((b_1.length : Int) - (1 : Int)).toNat (0 : Nat))).getD (0 : Int))).getD ([] : List Nat)) ((a_0.length : Int) + (1 : Int))).getD ([] : List Nat)).length : Nat) : Int)) (ck ((kA F (List.take (b_1.length) ((nR F ((lV F a_0 ((cB F (b_1.getD ((b_1.length : Int) - (1 : Int)).toNat (0 : Nat))).getD (0 : Int))).getD ([] : List Nat)) ((a_0.length : Int) + (1 : Int))).getD ([] : List Nat)))).isSome = true) (ck ((oF F ((kA F (List.take (b_1.length) ((nR F ((lV F a_0 ((cB F (b_1.getD ((b_1.length : Int) - (1 : Int)).toNat (0 : Nat))).getD (0 : Int))).getD ([] : List Nat)) ((a_0.length : Int) + (1 : Int))).getD ([] : List Nat)))).getD ([] : List Nat)) ((cB F (b_1.getD ((b_1.length : Int) - (1 : Int)).toNat (0 : Nat))).getD (0 : Int))).isSome = true) (some (((kA F (List.replicate (((a_0.length : Int) - (b_1.length : Int)) + (1 : Int)).toNat (0 : Nat))).getD ([] : List Nat)), ((oF F ((kA F (List.take (b_1.length) ((nR F ((lV F a_0 ((cB F (b_1.getD ((b_1.length : Int) - (1 : Int)).toNat (0 : Nat))).getD (0 : Int))).getD ([] : List Nat)) ((a_0.length : Int) + (1 : Int))).getD ([] : List Nat)))).getD ([] : List Nat)) ((cB F (b_1.getD ((b_1.length : Int) - (1 : Int)).toNat (0 : Nat))).getD (0 : Int))).getD ([] : List Nat)), ())))))
def aF7 (F : Md) (a_0 : qd) (b_1 : qd) : Option ((Unit) ⊕ (Unit)) :=
 if (0 : Int) ≤ ((a_0.length : Int) - (b_1.length : Int)) then none else some (.inr ())
def aCi (F : Md) (a_0 : qd) (b_1 : qd) : Option qv :=
 ck ((tW F a_0 b_1).isSome = true) (if ((tW F a_0 b_1).getD (0 : Int)) < (0 : Int) then ck (aWg a_0) (some (([] : List Nat), (id a_0), ())) else if (b_1.length : Int) = (1 : Int) then ck ((0 : Int) < (b_1.length : Int)) (ck ((yB F a_0 (b_1.getD (0 : Nat) (0 : Nat))).isSome = true) (some (((yB F a_0 (b_1.getD (0 : Nat) (0 : Nat))).getD (([] : List Nat), ([] : List Nat), ())).1, ((yB F a_0 (b_1.getD (0 : Nat) (0 : Nat))).getD (([] : List Nat), ([] : List Nat), ())).2.1, ()))) else ck (I64 ((b_1.length : Int) - (1 : Int))) (ck (0 ≤ ((b_1.length : Int) - (1 : Int)) ∧ ((b_1.length : Int) - (1 : Int)) < (b_1.length : Int)) (ck ((cB F (b_1.getD ((b_1.length : Int) - (1 : Int)).toNat (0 : Nat))).isSome = true) (ck ((lV F b_1 ((cB F (b_1.getD ((b_1.length : Int) - (1 : Int)).toNat (0 : Nat))).getD (0 : Int))).isSome = true) (ck ((nR F ((lV F b_1 ((cB F (b_1.getD ((b_1.length : Int) - (1 : Int)).toNat (0 : Nat))).getD (0 : Int))).getD ([] : List Nat)) (b_1.length : Int)).isSome = true) (ck ((lV F a_0 ((cB F (b_1.getD ((b_1.length : Int) - (1 : Int)).toNat (0 : Nat))).getD (0 : Int))).isSome = true) (ck (I64 ((a_0.length : Int) + (1 : Int))) (ck ((nR F ((lV F a_0 ((cB F (b_1.getD ((b_1.length : Int) - (1 : Int)).toNat (0 : Nat))).getD (0 : Int))).getD ([] : List Nat)) ((a_0.length : Int) + (1 : Int))).isSome = true) (ck (I64 ((a_0.length : Int) - (b_1.length : Int))) (ck (I64 (((a_0.length : Int) - (b_1.length : Int)) + (1 : Int))) (ck (0 ≤ (((a_0.length : Int) - (b_1.length : Int)) + (1 : Int))) (ck ((8 : Int) * (((a_0.length : Int) - (b_1.length : Int)) + (1 : Int)) ≤ 281474976710656) (ck (I64 ((a_0.length : Int) - (b_1.length : Int))) ((eG F (fun d : Unit => aF7 F a_0 b_1) ()).bind (fun e => aBz F a_0 b_1)))))))))))))))
@[go_sem]def aCj : Ty := .pair we (.pair we .unit)
def aAY (F : Md) : aI := mSpec aCj (.tup (.pair we (.pair we .unit))) (fun x => aCi F x.1 x.2.1)
abbrev mA (F : Md) : List (FuncId × aI) := [(114, (pW F)), (135, dD), (136, (aCh F)), (137, (fJ F)), (138, (aAX F)), (139, (yA F)), (141, (gO F)), (142, (uM F))]
theorem aJV [Mx] (F : Md) : bJ Tryz.prog GL (mA F) := .cons (aFA F) xAa (.cons nP xAa (.cons (aRc F) xAa (.cons (rO F) xAa (.cons (aPF F) xAa (.cons (aMr F) xAa (.cons (tV F) xAa (.cons (aJR F) xAa (.nil))))))))
theorem aPG [Mx] (F : Md) : FOK Tryz.prog GL 103 (aAY F) := by
 refine sS (aT (aJV F)) Tryz.func103 rfl xAa xAc fun w0 S x r hw h => ?_
 have hF : fT (fr Tryz.prog (EM (mA F)) S w0 Tryz.f103.ntmps) := ⟨aT (aJV F), mix⟩
 obtain ⟨(a_0 : qd), (b_1 : qd), u⟩ := x
 simp only [aCj, Ty.wf, fF] at hw
 simp only [bX, aCj]
 try dsimp only at h
 replace h : aCi F a_0 b_1 = some r := h
 unfold aCi at h
 refine aB (aF hF [0, 1] (yaA ?_))
 refine aA (aB (aB (aF hF [0, 1, 15] (yaA ?_))))
 obtain ⟨g0, h⟩ := aQ h
 repeat (refine ⟨zAA, ?_⟩)
 refine aA (bG rfl (fun hc => ?_) (fun hc => ?_))
 ·try simp only [go_sem] at hc
  have h := eC zAB h
  refine aB (aR hF [4, 5] (yaA ?_))
  obtain ⟨g0, h⟩ := aQ h
  repeat (refine ⟨zAA, ?_⟩)
  obtain rfl := Option.some.inj h
  refine aA (cD (cS (jG hF [.tmp 4, .tmp 5] rfl rfl rfl ?_)))
  exact zAH
 ·try simp only [go_sem] at hc
  have h := eD zAB h
  refine cI (aA (aB (aB (aF hF [0, 1, 20] (yaA ?_)))))
  refine aA (bG rfl (fun hc => ?_) (fun hc => ?_))
  ·try simp only [go_sem] at hc
   have h := eC zAB h
   refine aB (aF hF [4, 5] (yaA ?_))
   obtain ⟨g0, h⟩ := aQ h
   obtain ⟨g1, h⟩ := aQ h
   repeat (refine ⟨zAA, ?_⟩)
   obtain rfl := Option.some.inj h
   refine aA (cD (cS (jG hF [.tmp 4, .tmp 5] rfl rfl rfl ?_)))
   exact zAH
  ·try simp only [go_sem] at hc
   have h := eD zAB h
   refine cI (aA (aB (aF hF [0, 1, 6, 7] (yaA ?_))))
   obtain ⟨g0, h⟩ := aQ h
   obtain ⟨g1, h⟩ := aQ h
   obtain ⟨g2, h⟩ := aQ h
   try simp only [I64, I32] at g0
   repeat (refine ⟨zAA, ?_⟩)
   refine aA (aB (aF hF [0, 6, 7, 8, 9] (yaA ?_)))
   obtain ⟨g0, h⟩ := aQ h
   obtain ⟨g1, h⟩ := aQ h
   obtain ⟨g2, h⟩ := aQ h
   obtain ⟨g3, h⟩ := aQ h
   obtain ⟨g4, h⟩ := aQ h
   try simp only [I64, I32] at g3
   repeat (refine ⟨zAA, ?_⟩)
   refine aA (aB (aR hF [0, 6, 7, 8, 9, 10] (yaA ?_)))
   obtain ⟨g0, h⟩ := aQ h
   try simp only [I64, I32] at g0
   repeat (refine ⟨zAA, ?_⟩)
   obtain ⟨g0, h⟩ := aQ h
   try simp only [I64, I32] at g0
   repeat (refine ⟨zAA, ?_⟩)
   obtain ⟨g0, h⟩ := aQ h
   obtain ⟨g1, h⟩ := aQ h
   repeat (refine ⟨zAA, ?_⟩)
   refine aA (qW (D := Unit) (fun d => aBz F a_0 b_1 = some r) [6, 7, 9] (fun d => [(10, .own 0)]) (fun d => [.inr (.row 169 qx (List.replicate (((a_0.length : Int) - (b_1.length : Int)) + (1 : Int)).toNat (0 : Nat)))]) ?_ ?_)
   ·refine aB (aF hF [6, 7, 8, 9, 10, 11] (yaA ?_))
    obtain ⟨g0, h⟩ := aQ h
    try simp only [I64, I32] at g0
    repeat (refine ⟨zAA, ?_⟩)
    refine aA (eB (pP (D := Unit) [6, 7, 8, 9, 11] (fun d => [(10, .own 0)]) (fun d => [.inr (.row 169 qx (List.replicate (((a_0.length : Int) - (b_1.length : Int)) + (1 : Int)).toNat (0 : Nat)))]) h ?_ ?_ ?_))
    ·first | rfl | (simp only [go_sem]; done)
    ·exact zAG
    rintro u s9 h hs9
    simp only [go_sem]
    try dsimp only at h
    unfold aF7 at h
    refine aB (aB (aF hF [6, 7, 8, 9, 10, 11, 60] (yaA ?_)))
    refine aA (bG rfl (fun hc => ?_) (fun hc => ?_))
    ·try simp only [go_sem] at hc
     have h := eC zAB h
     cases h
    ·try simp only [go_sem] at hc
     have h := eD zAB h
     obtain rfl := Option.some.inj h
     dsimp only [mY] at hs9
     have h := yaF (hs9)
     refine sG (dY (dY (gL (bY (aZ () h rfl ?_)))))
     ·exact zAG
   ·rintro u h
    try dsimp only at h
    simp only [go_sem]
    unfold aBz at h
    refine aB (aS0 0 (yaA ?_))
    refine aF hF [4, 5] (yaA ?_)
    obtain ⟨g0, h⟩ := aQ h
    obtain ⟨g1, h⟩ := aQ h
    obtain ⟨g2, h⟩ := aQ h
    obtain ⟨g3, h⟩ := aQ h
    repeat (refine ⟨zAA, ?_⟩)
    obtain rfl := Option.some.inj h
    refine aA (cD (jG hF [.tmp 4, .tmp 5] rfl rfl rfl ?_))
    exact zAH
attribute [go_sem] aAY
end
end Nu
end Go.Proofs
namespace Go.Proofs
open Go.Vc
set_option maxRecDepth 20000
namespace Nu
noncomputable section
set_option maxHeartbeats 4000000
theorem aAw [Mx] : bJ Tryz.prog GL [] := .nil
def pX (F : Md) (is_0 : Bool) (e_1 : Int) : Option (Unit ⊕ qp) :=
 if ¬ (is_0 = true) then some (.inr (e_1, ())) else some (.inl ())
def gG (F : Md) : fW where
 D := Bool × Int × (Unit ⊕ qp)
 av := fun d => [.val .bool d.1, .val qe d.2.1]
 hp := fun d => []
 m := 0
 pre := fun d => pX F d.1 d.2.1 = some d.2.2
 out := fun d => match d.2.2 with | .inl r => .ret (.tup []) [] | .inr p => .pan ⟨219, q9, p⟩ []
abbrev aMv (F : Md) : List (FuncId × aI) := []
theorem aMw [Mx] (F : Md) : bJ Tryz.prog GL (aMv F) := .nil
theorem jV [Mx] (F : Md) : GOK Tryz.prog GL 178 (gG F) := by
 refine eI (aT (aMw F)) Tryz.func178 rfl xAa (fun _ => Nat.le_of_ble_eq_true rfl) fun c0 w0 d hw1 hw2 h hn => ?_
 have hF : fT ⟨Tryz.prog, EM (aMv F), GM (gG F) c0 d, w0, Tryz.f178.ntmps, []⟩ := ⟨aT (aMw F), mix⟩
 obtain ⟨(is_0 : Bool), (e_1 : Int), r⟩ := d
 replace h : pX F is_0 e_1 = some r := h
 have hw1 : AV.wfL [.val .bool is_0, .val qe e_1] := hw1
 simp only [AV.wfL, AV.wfV, Ty.wf, fF] at hw1
 show Tri _ _ _ [(0, .val .bool is_0), (1, .val qe e_1)] []
 unfold pX at h
 refine aB (aF hF [1, 5] (yaA ?_))
 refine aA (bG rfl (fun hc => ?_) (fun hc => ?_))
 ·try simp only [go_sem] at hc
  have h := eC zAB h
  refine aC hF (aG (l := []) (.nil)) [] [] (yaB ?_)
  obtain rfl := Option.some.inj h
  refine aY rfl rfl rfl rfl
 ·try simp only [go_sem] at hc
  exact zaw
attribute [go_sem] gG
def aAZ (F : Md) (e_2 : Int) (m_1 : qd) (neg_0 : Bool) : Option (qt ⊕ qp) :=
 ck (I64 (e_2 + ((fK F m_1).getD (0 : Int)))) ((pX F (decide ((e_2 + ((fK F m_1).getD (0 : Int))) ≤ (1048576 : Int))) (3 : Int)).bind (fun e => match e with | .inl r_22 => ck (I64 (e_2 + ((fK F m_1).getD (0 : Int)))) (some (.inl (neg_0, ((oF F m_1 ((fK F m_1).getD (0 : Int))).getD ([] : List Nat)), (e_2 + ((fK F m_1).getD (0 : Int))), ()))) | .inr p_23 => some (.inr p_23)))
def aC7 (F : Md) (neg_0 : Bool) (m_1 : qd) (e_2 : Int) : Option (qt ⊕ qp) :=
 if (m_1.length : Int) = (0 : Int) then some (.inl (false, ([] : List Nat), (0 : Int), ())) else ck ((fK F m_1).isSome = true) (ck ((oF F m_1 ((fK F m_1).getD (0 : Int))).isSome = true) ((pX F (decide (((((oF F m_1 ((fK F m_1).getD (0 : Int))).getD ([] : List Nat)).length : Nat) : Int) ≤ (64 : Int))) (2 : Int)).bind (fun e => match e with | .inl r_8 => if e_2 ≤ (1048576 : Int) then ck (I64 ((-1048576 : Int) - ((fK F m_1).getD (0 : Int)))) ((pX F ((decide (e_2 ≤ (1048576 : Int))) && (decide (((-1048576 : Int) - ((fK F m_1).getD (0 : Int))) ≤ e_2))) (3 : Int)).bind (fun e => match e with | .inl r_24 => aAZ F e_2 m_1 neg_0 | .inr p_25 => some (.inr p_25))) else (pX F false (3 : Int)).bind (fun e => match e with | .inl r_26 => aAZ F e_2 m_1 neg_0 | .inr p_27 => some (.inr p_27)) | .inr p_9 => some (.inr p_9))))
def tX (F : Md) : fW where
 D := Bool × qd × Int × (qt ⊕ qp)
 av := fun d => [.val .bool d.1, .val we d.2.1, .val qe d.2.2.1]
 hp := fun d => []
 m := 0
 pre := fun d => aC7 F d.1 d.2.1 d.2.2.1 = some d.2.2.2
 out := fun d => match d.2.2.2 with | .inl r => .ret (.val ql r) [] | .inr p => .pan ⟨219, q9, p⟩ []
abbrev aFD (F : Md) : List (FuncId × aI) := [(142, (uM F)), (177, (aCg F))]
theorem aOP [Mx] (F : Md) : bJ Tryz.prog GL (aFD F) := .cons (aJR F) xAa (.cons (aRb F) xAa (.nil))
theorem aDI [Mx] (F : Md) : GOK Tryz.prog GL 149 (tX F) := by
 refine eI (aT (aOP F)) Tryz.func149 rfl xAa (fun _ => Nat.le_of_ble_eq_true rfl) fun c0 w0 d hw1 hw2 h hn => ?_
 have hF : fT ⟨Tryz.prog, EM (aFD F), GM (tX F) c0 d, w0, Tryz.f149.ntmps, []⟩ := ⟨aT (aOP F), mix⟩
 obtain ⟨(neg_0 : Bool), (m_1 : qd), (e_2 : Int), r⟩ := d
 replace h : aC7 F neg_0 m_1 e_2 = some r := h
 have hw1 : AV.wfL [.val .bool neg_0, .val we m_1, .val qe e_2] := hw1
 simp only [AV.wfL, AV.wfV, Ty.wf, fF] at hw1
 show Tri _ _ _ [(0, .val .bool neg_0), (1, .val we m_1), (2, .val qe e_2)] []
 unfold aC7 at h
 refine aB (aR hF [0, 1, 2, 6] (yaA ?_))
 refine aA (aB (aB (aF hF [0, 1, 2, 6, 10] (yaA ?_))))
 refine aA (bG rfl (fun hc => ?_) (fun hc => ?_))
 ·try simp only [go_sem] at hc
  have h := eC zAB h
  refine aB (aR hF [6] (yaA ?_))
  obtain rfl := Option.some.inj h
  refine aA (cD (cS (jP hF [.cell 6 128] [] rfl rfl rfl rfl rfl rfl rfl rfl rfl ?_)))
  exact zaB
 ·try simp only [go_sem] at hc
  have h := eD zAB h
  refine cI (aA (aB (aF hF [0, 1, 2, 6, 7] (yaA ?_))))
  obtain ⟨g0, h⟩ := aQ h
  repeat (refine ⟨zAA, ?_⟩)
  refine aA (aB (aF hF [0, 1, 2, 6, 7] (yaA ?_)))
  obtain ⟨g0, h⟩ := aQ h
  repeat (refine ⟨zAA, ?_⟩)
  obtain ⟨e, he1, h⟩ := bind_some h
  rcases e with r_8 | p_9
  ·try dsimp only at h
   refine aA (aB (aC hF (aG (l := [(178, ⟨gG F, [], ((decide (((((oF F m_1 ((fK F m_1).getD (0 : Int))).getD ([] : List Nat)).length : Nat) : Int) ≤ (64 : Int))), (2 : Int), .inl r_8)⟩)]) (.cons (jV F) xAa (.nil))) [0, 1, 2, 6, 7] [] (yaB ?_)))
   refine aA (qW (D := Unit) (fun d => aAZ F e_2 m_1 neg_0 = some r) [0, 1, 2, 7] (fun d => [(6, .ptr 0 [])]) (fun d => [.inr (.box 3 (.val ql (false, ([] : List Nat), (0 : Int), ())))]) ?_ ?_)
   ·by_cases hq : e_2 ≤ (1048576 : Int)
    ·have h := eC hq h
     obtain ⟨g0, h⟩ := aQ h
     try simp only [I64, I32] at g0
     obtain ⟨e, he3, h⟩ := bind_some h
     rcases e with r_24 | p_25
     ·try dsimp only at h
      refine aC hF (aG (l := [(178, ⟨gG F, [], (((decide (e_2 ≤ (1048576 : Int))) && (decide (((-1048576 : Int) - ((fK F m_1).getD (0 : Int))) ≤ e_2))), (3 : Int), .inl r_24)⟩)]) (.cons (jV F) xAa (.nil))) [0, 1, 2, 6, 7] [] (yaB ?_)
      refine ⟨fun _ => (yaD ?_), fun hx => by first | (exfalso; omega) | (exfalso; simp_all; done)⟩
      refine ⟨fun _ => (yaD ?_), fun hx => by first | (exfalso; omega) | (exfalso; simp_all; done)⟩
      refine ⟨fun _ => (yaD ?_), fun hx => by first | (exfalso; omega) | (exfalso; simp_all; done)⟩
      refine ⟨fun _ => (yaD ?_), fun hx => by first | (exfalso; omega) | (exfalso; simp_all; done)⟩
      refine bY (aZ () h rfl ?_)
      ·exact zAG
     ·try dsimp only at h
      refine aC hF (aG (l := [(178, ⟨gG F, [], (((decide (e_2 ≤ (1048576 : Int))) && (decide (((-1048576 : Int) - ((fK F m_1).getD (0 : Int))) ≤ e_2))), (3 : Int), .inr p_25)⟩)]) (.cons (jV F) xAa (.nil))) [0, 1, 2, 6, 7] [] (yaB ?_)
      refine ⟨fun _ => (yaD ?_), fun hx => by first | (exfalso; omega) | (exfalso; simp_all; done)⟩
      refine ⟨fun _ => (yaD ?_), fun hx => by first | (exfalso; omega) | (exfalso; simp_all; done)⟩
      exact za2
    ·have h := eD hq h
     obtain ⟨e, he4, h⟩ := bind_some h
     rcases e with r_26 | p_27
     ·try dsimp only at h
      refine aC hF (aG (l := [(178, ⟨gG F, [], (false, (3 : Int), .inl r_26)⟩)]) (.cons (jV F) xAa (.nil))) [0, 1, 2, 6, 7] [] (yaB ?_)
      first | (refine ⟨fun hx => by first | (exfalso; omega) | (exfalso; simp_all; done), fun _ => ?_⟩) | (with_reducible intro _) | skip
      repeat (refine ⟨zAA, ?_⟩)
      first | (refine ⟨fun hx => by first | (exfalso; omega) | (exfalso; simp_all; done), fun _ => ?_⟩) | (with_reducible intro _) | skip
      repeat (refine ⟨zAA, ?_⟩)
      first | (refine ⟨fun hx => by first | (exfalso; omega) | (exfalso; simp_all; done), fun _ => ?_⟩) | (with_reducible intro _) | skip
      repeat (refine ⟨zAA, ?_⟩)
      first | (refine ⟨fun hx => by first | (exfalso; omega) | (exfalso; simp_all; done), fun _ => ?_⟩) | (with_reducible intro _) | skip
      repeat (refine ⟨zAA, ?_⟩)
      refine bY (aZ () h rfl ?_)
      ·exact zAG
     ·try dsimp only at h
      refine aC hF (aG (l := [(178, ⟨gG F, [], (false, (3 : Int), .inr p_27)⟩)]) (.cons (jV F) xAa (.nil))) [0, 1, 2, 6, 7] [] (yaB ?_)
      first | (refine ⟨fun hx => by first | (exfalso; omega) | (exfalso; simp_all; done), fun _ => ?_⟩) | (with_reducible intro _) | skip
      repeat (refine ⟨zAA, ?_⟩)
      first | (refine ⟨fun hx => by first | (exfalso; omega) | (exfalso; simp_all; done), fun _ => ?_⟩) | (with_reducible intro _) | skip
      repeat (refine ⟨zAA, ?_⟩)
      exact zan
   ·rintro u h
    try dsimp only at h
    simp only [go_sem]
    unfold aAZ at h
    obtain ⟨g0, h⟩ := aQ h
    try simp only [I64, I32] at g0
    obtain ⟨e, he2, h⟩ := bind_some h
    rcases e with r_22 | p_23
    ·try dsimp only at h
     refine aB (aC hF (aG (l := [(178, ⟨gG F, [], ((decide ((e_2 + ((fK F m_1).getD (0 : Int))) ≤ (1048576 : Int))), (3 : Int), .inl r_22)⟩)]) (.cons (jV F) xAa (.nil))) [0, 1, 2, 6, 7] [] (yaB ?_))
     refine aA (aB (aR hF [6] (yaA ?_)))
     obtain ⟨g0, h⟩ := aQ h
     try simp only [I64, I32] at g0
     repeat (refine ⟨zAA, ?_⟩)
     obtain rfl := Option.some.inj h
     refine aA (cD (jP hF [.cell 6 128] [] rfl rfl rfl rfl rfl rfl rfl rfl rfl ?_))
     exact zaB
    ·try dsimp only at h
     refine aB (aC hF (aG (l := [(178, ⟨gG F, [], ((decide ((e_2 + ((fK F m_1).getD (0 : Int))) ≤ (1048576 : Int))), (3 : Int), .inr p_23)⟩)]) (.cons (jV F) xAa (.nil))) [0, 1, 2, 6, 7] [] (yaB ?_))
     exact zaN
  ·try dsimp only at h
   refine aA (aB (aC hF (aG (l := [(178, ⟨gG F, [], ((decide (((((oF F m_1 ((fK F m_1).getD (0 : Int))).getD ([] : List Nat)).length : Nat) : Int) ≤ (64 : Int))), (2 : Int), .inr p_9)⟩)]) (.cons (jV F) xAa (.nil))) [0, 1, 2, 6, 7] [] (yaB ?_)))
   exact zaN
attribute [go_sem] tX
def aCk (F : Md) (a0_0 : Bool) (a1_1 : qd) (a2_2 : Int) : Option (qt ⊕ qp) :=
 (aC7 F a0_0 a1_1 a2_2).bind (fun e => match e with | .inl r_8 => some (.inl r_8) | .inr p_9 => some (.inr p_9))
def wB (F : Md) : fW where
 D := Bool × qd × Int × (qt ⊕ qp)
 av := fun d => [.val (.rp .bool) d.1, .val (.rp we) d.2.1, .val (.rp qe) d.2.2.1]
 hp := fun d => []
 m := 0
 pre := fun d => aCk F d.1 d.2.1 d.2.2.1 = some d.2.2.2
 out := fun d => match d.2.2.2 with | .inl r => .ret (.val ql r) [] | .inr p => .pan ⟨219, q9, p⟩ []
abbrev aJW (F : Md) : List (FuncId × aI) := []
theorem aJX [Mx] (F : Md) : bJ Tryz.prog GL (aJW F) := .nil
theorem aIi [Mx] (F : Md) : GOK Tryz.prog GL 148 (wB F) := by
 refine eI (aT (aJX F)) Tryz.func148 rfl xAa (fun _ => Nat.le_of_ble_eq_true rfl) fun c0 w0 d hw1 hw2 h hn => ?_
 have hF : fT ⟨Tryz.prog, EM (aJW F), GM (wB F) c0 d, w0, Tryz.f148.ntmps, []⟩ := ⟨aT (aJX F), mix⟩
 obtain ⟨(a0_0 : Bool), (a1_1 : qd), (a2_2 : Int), r⟩ := d
 replace h : aCk F a0_0 a1_1 a2_2 = some r := h
 have hw1 : AV.wfL [.val (.rp .bool) a0_0, .val (.rp we) a1_1, .val (.rp qe) a2_2] := hw1
 simp only [AV.wfL, AV.wfV, Ty.wf, fF] at hw1
 show Tri _ _ _ [(0, .roa .bool a0_0), (1, .roa we a1_1), (2, .roa qe a2_2)] []
 unfold aCk at h
 refine aB (aR hF [0, 1, 2, 3] (yaA ?_))
 obtain ⟨e, he1, h⟩ := bind_some h
 rcases e with r_8 | p_9
 ·try dsimp only at h
  refine aA (aB (aC hF (aG (l := [(149, ⟨tX F, [], (a0_0, a1_1, a2_2, .inl r_8)⟩)]) (.cons (aDI F) xAa (.nil))) [3] [] (yaB ?_)))
  exact zax
 ·try dsimp only at h
  refine aA (aB (aC hF (aG (l := [(149, ⟨tX F, [], (a0_0, a1_1, a2_2, .inr p_9)⟩)]) (.cons (aDI F) xAa (.nil))) [3] [] (yaB ?_)))
  exact zaN
attribute [go_sem] wB
def oG : fW where
 D := qt × Int
 av := fun _ => [.ptr 0 [], .ptr 1 []]
 hp := fun d => [.box 3 (.val ql d.1), .box 1 (.val qe d.2)]
 m := 2
 pre := fun _ => True
 out := fun d => .ret (.tup []) [.box 3 (.val ql d.1), .box 1 (.val qe d.2)]
def oH (x : qp) : fW where
 D := qt × Int
 av := fun _ => [.ptr 0 [], .ptr 1 []]
 hp := fun d => [.box 3 (.val ql d.1), .box 1 (.val qe d.2)]
 m := 2
 pre := fun _ => True
 out := fun d => .ret (.tup []) [.box 3 (.val ql (false, ([] : List Nat), (0 : Int), ())), .box 1 (.val qe x.1)]
theorem aG6 [Mx] : DOK Tryz.prog GL 176 none oG := by
 refine aLb (aT aAw) Tryz.func176 rfl xAa (fun _ => Nat.le_of_ble_eq_true rfl) rfl fun c w d hw1 hw2 hp hn => ?_
 have hF : fT ⟨Tryz.prog, EM [], GM oG c d, w, Tryz.f176.ntmps, []⟩ := ⟨aT aAw, mix⟩
 obtain ⟨d, e⟩ := d
 show rM _ _ _ [(5, .val .nili ()), (0, .ptr 0 []), (1, .ptr 1 [])] [.box 3 (.val ql d), .box 1 (.val qe e)] _
 simp only [go_sem]
 refine aB (aF hF [0, 1, 2, 9] (yaA ?_))
 refine aA (bG rfl (fun hc => absurd hc xAc) (fun hc => ?_))
 refine cI ?_
 refine gT [0, 1] rfl rfl (yaC ?_)
 exact zaf
theorem aG7 [Mx] (x : qp) : DOK Tryz.prog GL 176 (some ⟨219, q9, x⟩) (oH x) := by
 refine aLb (aT aAw) Tryz.func176 rfl xAa (fun _ => Nat.le_of_ble_eq_true rfl) rfl fun c w d hw1 hw2 hp hn => ?_
 have hF : fT ⟨Tryz.prog, EM [], GM (oH x) c d, w, Tryz.f176.ntmps, []⟩ := ⟨aT aAw, mix⟩
 obtain ⟨d, e⟩ := d
 show rM _ _ _ [(5, .val (.ifc 219 q9) x), (0, .ptr 0 []), (1, .ptr 1 [])] [.box 3 (.val ql d), .box 1 (.val qe e)] _
 simp only [go_sem]
 refine aB (aF hF [0, 1, 2, 9] (yaA ?_))
 refine aA (bG rfl (fun hc => ?_) (fun hc => absurd hc xAc))
 refine aDC hF [] [] [.box 3 (.val ql (false, ([] : List Nat), (0 : Int), ())), .box 1 (.val qe x.1), .box 1 (.val q9 x)] xAc ?_ ?_
 ·simp only [go_sem]
  unfold anyS
  intro i hi
  have hi : i = 0 ∨ i = 1 := by revert hi; revert i; decide
  rcases hi with rfl | rfl
  ·simp only [go_sem]
   skip
   unfold anyS
   intro i hi
   have hi : i = 1 ∨ i = 3 := by revert hi; revert i; decide
   rcases hi with rfl | rfl
   ·simp only [go_sem]
    exact zai
   ·simp only [go_sem]
    skip
    unfold anyS
    intro i hi
    have hi : i = 1 := by revert hi; revert i; decide
    subst hi
    simp only [go_sem]
    skip
    unfold anyS
    intro i hi
    have hi : i = 2 := by revert hi; revert i; decide
    exact zaI
  ·simp only [go_sem]
   skip
   unfold anyS
   intro i hi
   have hi : i = 0 ∨ i = 2 := by revert hi; revert i; decide
   rcases hi with rfl | rfl
   ·simp only [go_sem]
    exact zai
   ·simp only [go_sem]
    skip
    unfold anyS
    intro i hi
    have hi : i = 0 := by revert hi; revert i; decide
    subst hi
    simp only [go_sem]
    skip
    unfold anyS
    intro i hi
    have hi : i = 3 := by revert hi; revert i; decide
    exact zaI
 refine gT [0, 1] rfl rfl (yaC ?_)
 exact zaf
def iC (F : Md) (c0 : Bool) (c1 : qd) (c2 : Int) : Option (qt × Int × Unit) :=
 (aCk F c0 c1 c2).bind fun q => some (match q with | .inl r => (r, 0, ()) | .inr p => ((false, ([] : List Nat), (0 : Int), ()), p.1, ()))
def yC : Ty := .pair (.clo 148 (.pair (.rp .bool) (.pair (.rp we) (.pair (.rp qe) .unit)))) .unit
def mB (F : Md) : aI := mSpec yC (.tup (.pair ql q9)) (fun x => iC F x.1.1 x.1.2.1 x.1.2.2.1)
theorem aEg [Mx] (F : Md) : FOK Tryz.prog GL 147 (mB F) := by
 refine aFt (aT aAw) Tryz.func147 rfl xAa xAc fun w0 S x r hw h => ?_
 have hF : fT (fr Tryz.prog (EM []) S w0 Tryz.f147.ntmps) := ⟨aT aAw, mix⟩
 obtain ⟨⟨(c0 : Bool), (c1 : qd), (c2 : Int), u1⟩, u⟩ := x
 replace h : iC F c0 c1 c2 = some r := h
 show Tri _ _ _ [(0, .val (.clo 148 (.pair (.rp .bool) (.pair (.rp we) (.pair (.rp qe) .unit)))) (c0, c1, c2, u1))] []
 unfold iC at h
 obtain ⟨q, hq, h⟩ := bind_some h
 obtain rfl := Option.some.inj h
 refine aB (aR hF [0, 2, 3] (yaA ?_))
 refine aA (aAT 2 [0, 1] rfl rfl (Nat.zero_le _) xAc fun roots hroots => ?_)
 have hF' : fT { fr Tryz.prog (EM []) S w0 Tryz.f147.ntmps with M := ⟨nothing, S, 2, roots⟩, ds := [⟨.fn (.func 176) ([0, 1].map roots).toArray, #[]⟩] } := ⟨aT aAw, mix⟩
 rcases q with q | q
 ·refine aB (aC hF' (aG (l := [(148, ⟨wB F, [], (c0, c1, c2, .inl q)⟩)]) (.cons (aIi F) xAa .nil)) [2, 3] [] (yaA ?_))
  exact zap
 ·refine aB (aC hF' (aG (l := [(148, ⟨wB F, [], (c0, c1, c2, .inr q)⟩)]) (.cons (aIi F) xAa .nil)) [2, 3] [] (yaA ?_))
  exact zal
attribute [go_sem] mB yC
def aC8 (F : Md) (neg_0 : Bool) (m_1 : qd) (e_2 : Int) : Option (qt × qp) :=
 ck ((iC F neg_0 m_1 e_2).isSome = true) (some (((iC F neg_0 m_1 e_2).getD ((false, ([] : List Nat), (0 : Int), ()), (0 : Int), ())).1, ((iC F neg_0 m_1 e_2).getD ((false, ([] : List Nat), (0 : Int), ()), (0 : Int), ())).2.1, ()))
@[go_sem]def aFE : Ty := .pair .bool (.pair we q9)
def yD (F : Md) : aI := mSpec aFE (.tup (.pair ql q9)) (fun x => aC8 F x.1 x.2.1 x.2.2.1)
abbrev aIU (F : Md) : List (FuncId × aI) := [(147, (mB F))]
theorem aOS [Mx] (F : Md) : bJ Tryz.prog GL (aIU F) := .cons (aEg F) xAa (.nil)
theorem aMx [Mx] (F : Md) : FOK Tryz.prog GL 107 (yD F) := by
 refine sS (aT (aOS F)) Tryz.func107 rfl xAa xAc fun w0 S x r hw h => ?_
 have hF : fT (fr Tryz.prog (EM (aIU F)) S w0 Tryz.f107.ntmps) := ⟨aT (aOS F), mix⟩
 obtain ⟨(neg_0 : Bool), (m_1 : qd), (e_2 : Int), u⟩ := x
 simp only [aFE, Ty.wf, fF] at hw
 simp only [bX, aFE]
 try dsimp only at h
 replace h : aC8 F neg_0 m_1 e_2 = some r := h
 unfold aC8 at h
 exact zam
attribute [go_sem] yD
def iH (F : Md) (d_0 : qt) : Option Bool :=
 if (d_0.2.1.length : Int) = (0 : Int) then some ((!d_0.1) && (decide (d_0.2.2.1 = (0 : Int)))) else (aHW F d_0.2.1).bind (fun v_5 => ck ((v_5 = true) → ((0 : Int) < (d_0.2.1.length : Int))) (some (((v_5 && (decide (((d_0.2.1.getD (0 : Nat) (0 : Nat)) &&& (1 : Nat)) = (1 : Nat)))) && (decide ((-1048576 : Int) ≤ d_0.2.2.1))) && (decide (d_0.2.2.1 ≤ (1048576 : Int))))))
def aMy : PlR := ⟨[(0, .B [1]), (1, .A [1, 6]), (2, .A [2]), (3, .A [2])], []⟩
def aOU : Ty := .pair ql .unit
def rI (F : Md) : aI := mSpec aOU (.one .bool) (fun x => iH F x.1)
abbrev aOV (F : Md) : List (FuncId × aI) := [(150, (aFz F))]
theorem aTk [Mx] (F : Md) : bJ Tryz.prog GL (aOV F) := .cons (aTb F) xAa (.nil)
attribute [go_sem] aOU aMy
theorem aG8 [Mx] (F : Md) : FOK Tryz.prog GL 108 (rI F) := by
 refine bT (aT (aTk F)) mix Tryz.func108 rfl xAa xAc aMy fun w0 S x Θ hw h hF => ?_
 obtain ⟨(d_0 : qt), u⟩ := x
 simp only [bX, go_sem]
 replace h : sat (iH F d_0) _ := h
 unfold iH at h
 refine fC h (fun hc h => ?_) fun hc h => ?_
 ·exact aK hF [.tmp 2] rfl rfl rfl (aE h) xAd
 ·obtain ⟨v_5, hv, h⟩ := aN h
  exact za0
attribute [go_sem] rI
def tY (F : Md) (d_0 : qt) : Option Int :=
 (iH F d_0).bind (fun v_7 => if (¬ (v_7 = true)) ∨ ((d_0.2.1.length : Int) = (0 : Int)) then some (0 : Int) else if d_0.1 = true then some (-1 : Int) else some (1 : Int))
def aJY : PlR := ⟨[(0, .B [1]), (1, .A [1, 3]), (2, .A [2]), (3, .A [13]), (4, .A [2]), (5, .A [2])], []⟩
def aMz : Ty := .pair ql .unit
def uN (F : Md) : aI := mSpec aMz (.one qe) (fun x => tY F x.1)
abbrev aMA (F : Md) : List (FuncId × aI) := [(108, (rI F))]
theorem aSs [Mx] (F : Md) : bJ Tryz.prog GL (aMA F) := .cons (aG8 F) xAa (.nil)
attribute [go_sem] aMz aJY
theorem aJZ [Mx] (F : Md) : FOK Tryz.prog GL 68 (uN F) := by
 refine bT (aT (aSs F)) mix Tryz.func68 rfl xAa xAc aJY fun w0 S x Θ hw h hF => ?_
 obtain ⟨(d_0 : qt), u⟩ := x
 simp only [bX, go_sem]
 replace h : sat (tY F d_0) _ := h
 unfold tY at h
 obtain ⟨v_7, hv, h⟩ := aN h
 try simp only [hv, go_sem]
 refine ⟨fun hc => ?_, fun hc => ?_⟩
 ·replace h := jH zAB h
  exact zaF
 ·replace h := jI zAB h
  exact za4
attribute [go_sem] uN
def aDJ (F : Md) (a_0 : qt) (b_1 : qt) : Option Int :=
 (aC0 F a_0.2.1).bind (fun v_13 => ck (I64 (v_13 + a_0.2.2.1)) ((aC0 F b_1.2.1).bind (fun v_14 => ck (I64 (v_14 + b_1.2.2.1)) (if (v_13 + a_0.2.2.1) < (v_14 + b_1.2.2.1) then some (-1 : Int) else if (v_14 + b_1.2.2.1) < (v_13 + a_0.2.2.1) then some (1 : Int) else ck (I64 (a_0.2.2.1 - (min a_0.2.2.1 b_1.2.2.1))) ((lV F a_0.2.1 (a_0.2.2.1 - (min a_0.2.2.1 b_1.2.2.1))).bind (fun v_30 => ck (I64 (b_1.2.2.1 - (min a_0.2.2.1 b_1.2.2.1))) ((lV F b_1.2.1 (b_1.2.2.1 - (min a_0.2.2.1 b_1.2.2.1))).bind (fun v_31 => (tW F v_30 v_31).bind (fun v_32 => some v_32)))))))))
def aJ0 : PlR := ⟨[(0, .B [2, 3]), (1, .A [2, 3, 5, 6]), (2, .A [2, 3, 5, 6, 20]), (3, .A [4]), (4, .A [2, 3, 24]), (5, .A [4]), (6, .A [2, 3, 7]), (7, .A [4])], []⟩
def aMB : Ty := .pair ql (.pair ql .unit)
def aCl (F : Md) : aI := mSpec aMB (.one qe) (fun x => aDJ F x.1 x.2.1)
abbrev aDK (F : Md) : List (FuncId × aI) := [(114, (pW F)), (139, (yA F)), (151, (aDF F))]
theorem aSt [Mx] (F : Md) : bJ Tryz.prog GL (aDK F) := .cons (aFA F) xAa (.cons (aMr F) xAa (.cons (aSm F) xAa (.nil)))
attribute [go_sem] aMB aJ0
theorem aRe [Mx] (F : Md) : FOK Tryz.prog GL 109 (aCl F) := by
 refine bT (aT (aSt F)) mix Tryz.func109 rfl xAa xAc aJ0 fun w0 S x Θ hw h hF => ?_
 obtain ⟨(a_0 : qt), (b_1 : qt), u⟩ := x
 simp only [bX, go_sem]
 replace h : sat (aDJ F a_0 b_1) _ := h
 unfold aDJ at h
 obtain ⟨v_13, hv, h⟩ := aN h
 try simp only [hv, go_sem]
 refine bD h fun g0 h => ?_
 obtain ⟨v_14, hv, h⟩ := aN h
 try simp only [hv, go_sem]
 refine bD h fun g0 h => ?_
 refine fI h (fun hc h => ?_) fun hc h => ?_
 ·exact aK hF [.tmp 4] rfl rfl rfl (aE h) xAd
 ·refine fI h (fun hc h => ?_) fun hc h => ?_
  ·exact aK hF [.tmp 4] rfl rfl rfl (aE h) xAd
  ·refine bD h fun g0 h => ?_
   obtain ⟨v_30, hv, h⟩ := aN h
   try simp only [hv, go_sem]
   refine bD h fun g0 h => ?_
   obtain ⟨v_31, hv, h⟩ := aN h
   try simp only [hv, go_sem]
   obtain ⟨v_32, hv, h⟩ := aN h
   exact zaR
attribute [go_sem] aCl
def aAN (F : Md) (a_0 : qt) (b_1 : qt) : Option Int :=
 (tY F a_0).bind (fun v_13 => (tY F b_1).bind (fun v_14 => (iH F a_0).bind (fun v_20 => ck (¬ (¬ (v_20 = true)) → ((iH F b_1).isSome = true)) (if (¬ (v_20 = true)) ∨ (¬ (((iH F b_1).getD false) = true)) then some (0 : Int) else if (¬ (v_13 = v_14)) ∧ (v_13 < v_14) then some (-1 : Int) else if ¬ (v_13 = v_14) then some (1 : Int) else if v_13 = (0 : Int) then some (0 : Int) else (aDJ F a_0 b_1).bind (fun v_24 => ck (I64 (v_13 * v_24)) (some (v_13 * v_24)))))))
def aMC : PlR := ⟨[(0, .B [2, 3]), (1, .A [2, 3, 5, 6]), (2, .A [2, 3, 5, 6, 11]), (3, .A [4]), (4, .A [2, 3, 5, 6, 20]), (5, .A [4]), (6, .A [2, 3, 5, 29]), (7, .A [4]), (8, .A [2, 3, 5, 33]), (9, .A [4]), (10, .A [4])], []⟩
def aOX : Ty := .pair ql (.pair ql .unit)
def yE (F : Md) : aI := mSpec aOX (.one qe) (fun x => aAN F x.1 x.2.1)
abbrev aFF (F : Md) : List (FuncId × aI) := [(108, (rI F)), (109, (aCl F)), (68, (uN F))]
theorem aTl [Mx] (F : Md) : bJ Tryz.prog GL (aFF F) := .cons (aG8 F) xAa (.cons (aRe F) xAa (.cons (aJZ F) xAa (.nil)))
attribute [go_sem] aOX aMC
theorem aMD [Mx] (F : Md) : FOK Tryz.prog GL 69 (yE F) := by
 refine bT (aT (aTl F)) mix Tryz.func69 rfl xAa xAc aMC fun w0 S x Θ hw h hF => ?_
 obtain ⟨(a_0 : qt), (b_1 : qt), u⟩ := x
 simp only [bX, go_sem]
 replace h : sat (aAN F a_0 b_1) _ := h
 unfold aAN at h
 obtain ⟨v_13, hv, h⟩ := aN h
 try simp only [hv, go_sem]
 obtain ⟨v_14, hv, h⟩ := aN h
 try simp only [hv, go_sem]
 obtain ⟨v_20, hv, h⟩ := aN h
 try simp only [hv, go_sem]
 obtain ⟨g0, h⟩ := aP h
 repeat (refine ⟨zAD, ?_⟩)
 refine ⟨fun hc => ?_, fun hc => ?_⟩
 ·replace h := jH zAB h
  exact zaD
 ·replace h := jI zAB h
  refine ⟨fun hc => ?_, fun hc => ?_⟩
  ·replace h := jH hc h
   exact zaD
  ·replace h := jI hc h
   refine fC h (fun hc h => ?_) fun hc h => ?_
   ·exact aK hF [.tmp 4] rfl rfl rfl (aE h) xAd
   ·refine fC h (fun hc h => ?_) fun hc h => ?_
    ·exact aK hF [.tmp 4] rfl rfl rfl (aE h) xAd
    ·obtain ⟨v_24, hv, h⟩ := aN h
     try simp only [hv, go_sem]
     obtain ⟨g0, h⟩ := aP h
     try simp only [I64, I32] at g0
     repeat (refine ⟨zAA, ?_⟩)
     exact zaD
attribute [go_sem] yE
def zD (F : Md) (n_0 : Int) (e_1 : Int) (m_3 : Nat) : Option (qt × qp) :=
 (aC2 F ([m_3] : List Nat)).bind (fun v_6 => (aC8 F (decide (n_0 < (0 : Int))) v_6 e_1).bind (fun v_7 => some (v_7.1, v_7.2.1, ())))
def aHX (F : Md) (n_0 : Int) (e_1 : Int) : Option (qt × qp) :=
 if n_0 < (0 : Int) then zD F n_0 e_1 (aS4 F .u64 (n_0 % (18446744073709551616 : Int)).toNat) else zD F n_0 e_1 (n_0 % (18446744073709551616 : Int)).toNat
def aO0 : PlR := ⟨[(0, .B [0, 1, 4]), (1, .A [0, 1, 4, 6]), (2, .A [0, 1, 4, 6, 10]), (3, .A [0, 1, 4, 6]), (4, .B [4, 5])], [(5, 7)]⟩
def aQz : Ty := .pair qe q9
def aFG (F : Md) : aI := mSpec aQz (.tup (.pair ql q9)) (fun x => aHX F x.1 x.2.1)
abbrev aLq (F : Md) : List (FuncId × aI) := [(107, (yD F)), (146, (xZ F))]
theorem aUK [Mx] (F : Md) : bJ Tryz.prog GL (aLq F) := .cons (aMx F) xAa (.cons (aMn F) xAa (.nil))
attribute [go_sem] aQz aO0
theorem aTm [Mx] (F : Md) : FOK Tryz.prog GL 110 (aFG F) := by
 refine bT (aT (aUK F)) mix Tryz.func110 rfl xAa xAc aO0 fun w0 S x Θ hw h hF => ?_
 obtain ⟨(n_0 : Int), (e_1 : Int), u⟩ := x
 simp only [bX, go_sem]
 replace h : sat (aHX F n_0 e_1) _ := h
 unfold aHX at h
 refine eP hF (D := Nat) (fun d => sat (zD F n_0 e_1 d) Θ) [0, 1] (fun d => [(4, .ptr 0 []), (6, .val qx d)]) (fun d => [.inr (.box 3 (.val ql (false, ([] : List Nat), (0 : Int), ())))]) ?_ ?_
 ·simp only [go_sem, dI F, dJ F, dK F]
  refine fI h (fun hc h => ?_) fun hc h => ?_
  ·exact aZ (aS4 F .u64 (n_0 % (18446744073709551616 : Int)).toNat) h rfl xAe
  ·exact aZ (n_0 % (18446744073709551616 : Int)).toNat h rfl xAe
 ·rintro m_3 h
  simp only [go_sem, dI F, dJ F, dK F]
  replace h : sat (zD F n_0 e_1 m_3) _ := h
  unfold zD at h
  obtain ⟨v_6, hv, h⟩ := aN h
  try simp only [hv, go_sem, dI F, dJ F, dK F]
  obtain ⟨v_7, hv, h⟩ := aN h
  try simp only [hv, go_sem, dI F, dJ F, dK F]
  exact aK hF [.cell 4 128, .tmp 5] rfl rfl rfl (aE h) xAf
attribute [go_sem] aFG
def zE (F : Md) (a_0 : qt) (b_1 : qt) : Option (qt ⊕ qp) :=
 ck ((kH F a_0.2.1 b_1.2.1).isSome = true) (ck (I64 (a_0.2.2.1 + b_1.2.2.1)) ((aC7 F (a_0.1 != b_1.1) ((kH F a_0.2.1 b_1.2.1).getD ([] : List Nat)) (a_0.2.2.1 + b_1.2.2.1)).bind (fun e => match e with | .inl r_7 => some (.inl r_7) | .inr p_8 => some (.inr p_8))))
def qK (F : Md) : fW where
 D := qt × qt × (qt ⊕ qp)
 av := fun d => [.val ql d.1, .val ql d.2.1]
 hp := fun d => []
 m := 0
 pre := fun d => zE F d.1 d.2.1 = some d.2.2
 out := fun d => match d.2.2 with | .inl r => .ret (.val ql r) [] | .inr p => .pan ⟨219, q9, p⟩ []
abbrev aFH (F : Md) : List (FuncId × aI) := [(104, (gW F))]
theorem aJ1 [Mx] (F : Md) : bJ Tryz.prog GL (aFH F) := .cons (uL F) xAa (.nil)
theorem aA0 [Mx] (F : Md) : GOK Tryz.prog GL 153 (qK F) := by
 refine eI (aT (aJ1 F)) Tryz.func153 rfl xAa (fun _ => Nat.le_of_ble_eq_true rfl) fun c0 w0 d hw1 hw2 h hn => ?_
 have hF : fT ⟨Tryz.prog, EM (aFH F), GM (qK F) c0 d, w0, Tryz.f153.ntmps, []⟩ := ⟨aT (aJ1 F), mix⟩
 obtain ⟨(a_0 : qt), (b_1 : qt), r⟩ := d
 replace h : zE F a_0 b_1 = some r := h
 have hw1 : AV.wfL [.val ql a_0, .val ql b_1] := hw1
 simp only [AV.wfL, AV.wfV, Ty.wf, fF] at hw1
 show Tri _ _ _ [(0, .val ql a_0), (1, .val ql b_1)] []
 unfold zE at h
 refine aB (aR hF [2, 3, 4] (yaA ?_))
 obtain ⟨g0, h⟩ := aQ h
 obtain ⟨g1, h⟩ := aQ h
 try simp only [I64, I32] at g1
 obtain ⟨e, he1, h⟩ := bind_some h
 rcases e with r_7 | p_8
 ·try dsimp only at h
  refine aA (aB (aFs hF (aG (l := [(149, ⟨tX F, [], ((a_0.1 != b_1.1), ((kH F a_0.2.1 b_1.2.1).getD ([] : List Nat)), (a_0.2.2.1 + b_1.2.2.1), .inl r_7)⟩)]) (.cons (aDI F) xAa (.nil))) 15 xAc [4] [] (yaB ?_)))
  simp only [aT6, go_sem]
  repeat (refine ⟨zAA, ?_⟩)
  obtain rfl := Option.some.inj h
  refine aA (cD (jP hF [.cell 4 128] [] rfl rfl rfl rfl rfl rfl rfl rfl rfl ?_))
  exact zaB
 ·try dsimp only at h
  refine aA (aB (aFs hF (aG (l := [(149, ⟨tX F, [], ((a_0.1 != b_1.1), ((kH F a_0.2.1 b_1.2.1).getD ([] : List Nat)), (a_0.2.2.1 + b_1.2.2.1), .inr p_8)⟩)]) (.cons (aDI F) xAa (.nil))) 15 xAc [4] [] (yaB ?_)))
  simp only [aT6, go_sem]
  repeat (refine ⟨zAA, ?_⟩)
  exact zaN
attribute [go_sem] qK
def nA (F : Md) (a0_0 : qt) (a1_1 : qt) (a2_2 : Unit) : Option (qt ⊕ qp) :=
 ck ((iH F a0_0).isSome = true) (if ((iH F a0_0).getD false) = true then ck ((iH F a1_1).isSome = true) ((pX F (((iH F a0_0).getD false) && ((iH F a1_1).getD false)) (1 : Int)).bind (fun e => match e with | .inl r_12 => (zE F a0_0 a1_1).bind (fun e => match e with | .inl r_20 => some (.inl r_20) | .inr p_21 => some (.inr p_21)) | .inr p_13 => some (.inr p_13))) else (pX F false (1 : Int)).bind (fun e => match e with | .inl r_14 => (zE F a0_0 a1_1).bind (fun e => match e with | .inl r_26 => some (.inl r_26) | .inr p_27 => some (.inr p_27)) | .inr p_15 => some (.inr p_15)))
def jQ (F : Md) : fW where
 D := qt × qt × Unit × (qt ⊕ qp)
 av := fun d => [.val (.rp ql) d.1, .val (.rp ql) d.2.1, .val (.rp (.clo 153 .unit)) d.2.2.1]
 hp := fun d => []
 m := 0
 pre := fun d => nA F d.1 d.2.1 d.2.2.1 = some d.2.2.2
 out := fun d => match d.2.2.2 with | .inl r => .ret (.val ql r) [] | .inr p => .pan ⟨219, q9, p⟩ []
abbrev qX (F : Md) : List (FuncId × aI) := [(108, (rI F))]
theorem yF [Mx] (F : Md) : bJ Tryz.prog GL (qX F) := .cons (aG8 F) xAa (.nil)
theorem wC [Mx] (F : Md) : GOK Tryz.prog GL 179 (jQ F) := by
 refine eI (aT (yF F)) Tryz.func179 rfl xAa (fun _ => Nat.le_of_ble_eq_true rfl) fun c0 w0 d hw1 hw2 h hn => ?_
 have hF : fT ⟨Tryz.prog, EM (qX F), GM (jQ F) c0 d, w0, Tryz.f179.ntmps, []⟩ := ⟨aT (yF F), mix⟩
 obtain ⟨(a0_0 : qt), (a1_1 : qt), (a2_2 : Unit), r⟩ := d
 replace h : nA F a0_0 a1_1 a2_2 = some r := h
 have hw1 : AV.wfL [.val (.rp ql) a0_0, .val (.rp ql) a1_1, .val (.rp (.clo 153 .unit)) a2_2] := hw1
 simp only [AV.wfL, AV.wfV, Ty.wf, fF] at hw1
 show Tri _ _ _ [(0, .roa ql a0_0), (1, .roa ql a1_1), (2, .roa (.clo 153 .unit) a2_2)] []
 unfold nA at h
 refine aB (aR hF [0, 1, 2, 3] (yaA ?_))
 obtain ⟨g0, h⟩ := aQ h
 by_cases hq : ((iH F a0_0).getD false) = true
 ·have h := eC hq h
  obtain ⟨g1, h⟩ := aQ h
  obtain ⟨e, he1, h⟩ := bind_some h
  rcases e with r_12 | p_13
  ·try dsimp only at h
   refine aA (aB (aC hF (aG (l := [(178, ⟨gG F, [], ((((iH F a0_0).getD false) && ((iH F a1_1).getD false)), (1 : Int), .inl r_12)⟩)]) (.cons (jV F) xAa (.nil))) [0, 1, 2, 3] [] (yaB ?_)))
   refine ⟨fun _ => (yaD ?_), fun hx => by first | (exfalso; omega) | (exfalso; simp_all; done)⟩
   refine ⟨fun _ => (yaD ?_), fun hx => by first | (exfalso; omega) | (exfalso; simp_all; done)⟩
   obtain ⟨e, he2, h⟩ := bind_some h
   rcases e with r_20 | p_21
   ·try dsimp only at h
    refine aA (aB (aC hF (aG (l := [(153, ⟨qK F, [], (a0_0, a1_1, .inl r_20)⟩)]) (.cons (aA0 F) xAa (.nil))) [3] [] (yaB ?_)))
    exact zax
   ·try dsimp only at h
    refine aA (aB (aC hF (aG (l := [(153, ⟨qK F, [], (a0_0, a1_1, .inr p_21)⟩)]) (.cons (aA0 F) xAa (.nil))) [3] [] (yaB ?_)))
    exact zaN
  ·try dsimp only at h
   refine aA (aB (aC hF (aG (l := [(178, ⟨gG F, [], ((((iH F a0_0).getD false) && ((iH F a1_1).getD false)), (1 : Int), .inr p_13)⟩)]) (.cons (jV F) xAa (.nil))) [0, 1, 2, 3] [] (yaB ?_)))
   exact za2
 ·have h := eD hq h
  obtain ⟨e, he3, h⟩ := bind_some h
  rcases e with r_14 | p_15
  ·try dsimp only at h
   refine aA (aB (aC hF (aG (l := [(178, ⟨gG F, [], (false, (1 : Int), .inl r_14)⟩)]) (.cons (jV F) xAa (.nil))) [0, 1, 2, 3] [] (yaB ?_)))
   first | (refine ⟨fun hx => by first | (exfalso; omega) | (exfalso; simp_all; done), fun _ => ?_⟩) | (with_reducible intro _) | skip
   repeat (refine ⟨zAA, ?_⟩)
   first | (refine ⟨fun hx => by first | (exfalso; omega) | (exfalso; simp_all; done), fun _ => ?_⟩) | (with_reducible intro _) | skip
   repeat (refine ⟨zAA, ?_⟩)
   obtain ⟨e, he4, h⟩ := bind_some h
   rcases e with r_26 | p_27
   ·try dsimp only at h
    refine aA (aB (aC hF (aG (l := [(153, ⟨qK F, [], (a0_0, a1_1, .inl r_26)⟩)]) (.cons (aA0 F) xAa (.nil))) [3] [] (yaB ?_)))
    exact zax
   ·try dsimp only at h
    refine aA (aB (aC hF (aG (l := [(153, ⟨qK F, [], (a0_0, a1_1, .inr p_27)⟩)]) (.cons (aA0 F) xAa (.nil))) [3] [] (yaB ?_)))
    exact zaN
  ·try dsimp only at h
   refine aA (aB (aC hF (aG (l := [(178, ⟨gG F, [], (false, (1 : Int), .inr p_15)⟩)]) (.cons (jV F) xAa (.nil))) [0, 1, 2, 3] [] (yaB ?_)))
   exact zan
attribute [go_sem] jQ
def dU (F : Md) (c0 : qt) (c1 : qt) (c2 : Unit) : Option (qt × Int × Unit) :=
 (nA F c0 c1 c2).bind fun q => some (match q with | .inl r => (r, 0, ()) | .inr p => ((false, ([] : List Nat), (0 : Int), ()), p.1, ()))
def oQ : Ty := .pair (.clo 179 (.pair (.rp ql) (.pair (.rp ql) (.pair (.rp (.clo 153 .unit)) .unit)))) .unit
def fZ (F : Md) : aI := mSpec oQ (.tup (.pair ql q9)) (fun x => dU F x.1.1 x.1.2.1 x.1.2.2.1)
theorem wD [Mx] (F : Md) : FOK Tryz.prog GL 147 (fZ F) := by
 refine aFt (aT aAw) Tryz.func147 rfl xAa xAc fun w0 S x r hw h => ?_
 have hF : fT (fr Tryz.prog (EM []) S w0 Tryz.f147.ntmps) := ⟨aT aAw, mix⟩
 obtain ⟨⟨(c0 : qt), (c1 : qt), (c2 : Unit), u1⟩, u⟩ := x
 replace h : dU F c0 c1 c2 = some r := h
 show Tri _ _ _ [(0, .val (.clo 179 (.pair (.rp ql) (.pair (.rp ql) (.pair (.rp (.clo 153 .unit)) .unit)))) (c0, c1, c2, u1))] []
 unfold dU at h
 obtain ⟨q, hq, h⟩ := bind_some h
 obtain rfl := Option.some.inj h
 refine aB (aR hF [0, 2, 3] (yaA ?_))
 refine aA (aAT 2 [0, 1] rfl rfl (Nat.zero_le _) xAc fun roots hroots => ?_)
 have hF' : fT { fr Tryz.prog (EM []) S w0 Tryz.f147.ntmps with M := ⟨nothing, S, 2, roots⟩, ds := [⟨.fn (.func 176) ([0, 1].map roots).toArray, #[]⟩] } := ⟨aT aAw, mix⟩
 rcases q with q | q
 ·refine aB (aC hF' (aG (l := [(179, ⟨jQ F, [], (c0, c1, c2, .inl q)⟩)]) (.cons (wC F) xAa .nil)) [2, 3] [] (yaA ?_))
  exact zap
 ·refine aB (aC hF' (aG (l := [(179, ⟨jQ F, [], (c0, c1, c2, .inr q)⟩)]) (.cons (wC F) xAa .nil)) [2, 3] [] (yaA ?_))
  exact zal
attribute [go_sem] fZ oQ
def pB (F : Md) (a_0 : qt) (b_1 : qt) (do_2 : Unit) : Option (qt × qp) :=
 ck ((dU F a_0 b_1 do_2).isSome = true) (some (((dU F a_0 b_1 do_2).getD ((false, ([] : List Nat), (0 : Int), ()), (0 : Int), ())).1, ((dU F a_0 b_1 do_2).getD ((false, ([] : List Nat), (0 : Int), ()), (0 : Int), ())).2.1, ()))
@[go_sem]def pC : Ty := .pair ql (.pair ql (.pair (.clo 153 .unit) .unit))
def nS (F : Md) : aI := mSpec pC (.tup (.pair ql q9)) (fun x => pB F x.1 x.2.1 x.2.2.1)
abbrev tB (F : Md) : List (FuncId × aI) := [(147, (fZ F))]
theorem aAx [Mx] (F : Md) : bJ Tryz.prog GL (tB F) := .cons (wD F) xAa (.nil)
theorem aFI [Mx] (F : Md) : FOK Tryz.prog GL 152 (nS F) := by
 refine sS (aT (aAx F)) Tryz.func152 rfl xAa xAc fun w0 S x r hw h => ?_
 have hF : fT (fr Tryz.prog (EM (tB F)) S w0 Tryz.f152.ntmps) := ⟨aT (aAx F), mix⟩
 obtain ⟨(a_0 : qt), (b_1 : qt), (do_2 : Unit), u⟩ := x
 simp only [pC, Ty.wf, fF] at hw
 simp only [bX, pC]
 try dsimp only at h
 replace h : pB F a_0 b_1 do_2 = some r := h
 unfold pB at h
 exact zam
attribute [go_sem] nS
def aFJ (F : Md) (a_0 : qt) (b_1 : qt) : Option (qt × qp) :=
 (pB F a_0 b_1 ()).bind (fun v_6 => some (v_6.1, v_6.2.1, ()))
def aME : PlR := ⟨[(0, .B [2, 3, 4]), (1, .B [4, 5])], []⟩
def aO1 : Ty := .pair ql (.pair ql .unit)
def aDL (F : Md) : aI := mSpec aO1 (.tup (.pair ql q9)) (fun x => aFJ F x.1 x.2.1)
abbrev aO2 (F : Md) : List (FuncId × aI) := [(152, (nS F))]
theorem aTn [Mx] (F : Md) : bJ Tryz.prog GL (aO2 F) := .cons (aFI F) xAa (.nil)
attribute [go_sem] aO1 aME
theorem aSu [Mx] (F : Md) : FOK Tryz.prog GL 111 (aDL F) := by
 refine bT (aT (aTn F)) mix Tryz.func111 rfl xAa xAc aME fun w0 S x Θ hw h hF => ?_
 obtain ⟨(a_0 : qt), (b_1 : qt), u⟩ := x
 simp only [bX, go_sem]
 replace h : sat (aFJ F a_0 b_1) _ := h
 unfold aFJ at h
 obtain ⟨v_6, hv, h⟩ := aN h
 try simp only [hv, go_sem]
 exact aK hF [.cell 4 128, .tmp 5] rfl rfl rfl (aE h) xAd
attribute [go_sem] aDL
end
end Nu
end Go.Proofs
namespace Go.Proofs
open Go.Vc
set_option maxRecDepth 20000
namespace Nu
noncomputable section
set_option maxHeartbeats 4000000
def aFK : ByteArray := ⟨⟨97 :: 98 :: 99 :: 100 :: 101 :: 102 :: 103 :: 104 :: 105 :: 106 :: 107 :: 108 :: 109 :: 110 :: 111 :: 112 :: 113 :: 114 :: 115 :: 116 :: 117 :: 118 :: 119 :: 120 :: 121 :: 122 :: 48 :: 49 :: 50 :: 51 :: 52 :: 53 :: 54 :: 55 :: 56 :: 57 :: 95 :: []⟩⟩
@[go_sem]theorem aPK : (⟨⟨97 :: 98 :: 99 :: 100 :: 101 :: 102 :: 103 :: 104 :: 105 :: 106 :: 107 :: 108 :: 109 :: 110 :: 111 :: 112 :: 113 :: 114 :: 115 :: 116 :: 117 :: 118 :: 119 :: 120 :: 121 :: 122 :: 48 :: 49 :: 50 :: 51 :: 52 :: 53 :: 54 :: 55 :: 56 :: 57 :: 95 :: []⟩⟩ : ByteArray) = aFK := rfl
def oR (F : Md) (c_1 : Nat) (s_5 : qd) : Option (qd ⊕ qd) :=
 ck (((0 : Int) < (s_5.length : Int)) → (I64 ((s_5.length : Int) - (1 : Int)))) (ck (((0 : Int) < (s_5.length : Int)) → (0 ≤ ((s_5.length : Int) - (1 : Int)) ∧ ((s_5.length : Int) - (1 : Int)) < (s_5.length : Int))) (if ((0 : Int) < (s_5.length : Int)) ∧ ((s_5.getD ((s_5.length : Int) - (1 : Int)).toNat (0 : Nat)) = c_1) then ck (I64 ((s_5.length : Int) - (1 : Int))) (ck (0 ≤ ((s_5.length : Int) - (1 : Int)) ∧ ((s_5.length : Int) - (1 : Int)) ≤ (s_5.length : Int)) (some (.inl (List.take ((s_5.length : Int) - (1 : Int)).toNat s_5)))) else some (.inr s_5)))
def kI (F : Md) (s_0 : qd) (c_1 : Nat) : Option qd :=
 (eG F (fun d : qd => oR F c_1 d) s_0).bind (fun e => some e)
def wE : PlR := ⟨[(0, .A [0, 1]), (1, .A [0, 1, 16]), (2, .A [0, 1]), (3, .A [4])], []⟩
def yG : Ty := .pair .str wk
def gM (F : Md) : aI := mSpec yG (.one .str) (fun x => kI F x.1 x.2.1)
abbrev aEH (F : Md) : List (FuncId × aI) := []
theorem aEI [Mx] (F : Md) : bJ Tryz.prog GL (aEH F) := .nil
attribute [go_sem] yG wE
theorem wF [Mx] (F : Md) : FOK Tryz.prog GL 45 (gM F) := by
 refine bT (aT (aEI F)) mix Tryz.func45 rfl xAa xAc wE fun w0 S x Θ hw h hF => ?_
 obtain ⟨(s_0 : qd), (c_1 : Nat), u⟩ := x
 simp only [bX, go_sem]
 replace h : sat (kI F s_0 c_1) _ := h
 unfold kI at h
 refine cG hF (D := qd) [1] (fun d => [(0, .val .str d)]) (fun d => []) h rfl xAb ?_
 rintro s_5 A1 T1 hA1 hE1 h
 simp only [go_sem]
 replace h : sat (oR F c_1 s_5) _ := h
 unfold oR at h
 refine bD h fun g0 h => bD h fun g1 h => ?_
 refine ⟨fun hc => ?_, fun hc => ?_⟩
 ·replace h := jH hc h
  refine bD h fun g0 h => bD h fun g1 h => ?_
  replace h := hA1 _ (aE h)
  exact zaK
 ·replace h := jI hc h
  replace h := yaF (hE1 _ (aE h))
  exact zaD
attribute [go_sem] gM
def pL (F : Md) (c_1 : Nat) (s_5 : qd) : Option (qd ⊕ qd) :=
 ck (((0 : Int) < (s_5.length : Int)) → ((0 : Int) < (s_5.length : Int))) (if ((0 : Int) < (s_5.length : Int)) ∧ ((s_5.getD (0 : Nat) (0 : Nat)) = c_1) then ck ((1 : Int) ≤ (s_5.length : Int)) (some (.inl (List.drop (1 : Nat) s_5))) else some (.inr s_5))
def kV (F : Md) (s_0 : qd) (c_1 : Nat) : Option qd :=
 (eG F (fun d : qd => pL F c_1 d) s_0).bind (fun e => some e)
def yH : PlR := ⟨[(0, .A [0, 1]), (1, .A [0, 1, 13]), (2, .A [0, 1]), (3, .A [4])], []⟩
def zF : Ty := .pair .str wk
def iD (F : Md) : aI := mSpec zF (.one .str) (fun x => kV F x.1 x.2.1)
abbrev aFL (F : Md) : List (FuncId × aI) := []
theorem aFM [Mx] (F : Md) : bJ Tryz.prog GL (aFL F) := .nil
attribute [go_sem] zF yH
theorem yI [Mx] (F : Md) : FOK Tryz.prog GL 93 (iD F) := by
 refine bT (aT (aFM F)) mix Tryz.func93 rfl xAa xAc yH fun w0 S x Θ hw h hF => ?_
 obtain ⟨(s_0 : qd), (c_1 : Nat), u⟩ := x
 simp only [bX, go_sem]
 replace h : sat (kV F s_0 c_1) _ := h
 unfold kV at h
 refine cG hF (D := qd) [1] (fun d => [(0, .val .str d)]) (fun d => []) h rfl xAb ?_
 rintro s_5 A1 T1 hA1 hE1 h
 simp only [go_sem]
 replace h : sat (pL F c_1 s_5) _ := h
 unfold pL at h
 refine bD h fun g0 h => ?_
 refine ⟨fun hc => ?_, fun hc => ?_⟩
 ·replace h := jH hc h
  refine bD h fun g0 h => ?_
  replace h := hA1 _ (aE h)
  exact zaK
 ·replace h := jI hc h
  replace h := yaF (hE1 _ (aE h))
  exact zaD
attribute [go_sem] iD
def gX (F : Md) (as_0 : wo) (c_1 : Nat) : Option Bool :=
 ck (0 ≤ ((c_1 : Nat) : Int) ∧ ((c_1 : Nat) : Int) < (256 : Int)) (some (as_0.getD c_1 false))
def sK : PlR := ⟨[(0, .A [0, 1]), (1, .A [4])], []⟩
def tF : Ty := .pair (.rp (.arr 256 .bool)) wk
def fG (F : Md) : aI := mSpec tF (.one .bool) (fun x => gX F x.1 x.2.1)
abbrev aCn (F : Md) : List (FuncId × aI) := []
theorem aCo [Mx] (F : Md) : bJ Tryz.prog GL (aCn F) := .nil
attribute [go_sem] tF sK
theorem sL [Mx] (F : Md) : FOK Tryz.prog GL 90 (fG F) := by
 refine bT (aT (aCo F)) mix Tryz.func90 rfl xAa xAc sK fun w0 S x Θ hw h hF => ?_
 obtain ⟨(as_0 : wo), (c_1 : Nat), u⟩ := x
 simp only [bX, go_sem]
 replace h : sat (gX F as_0 c_1) _ := h
 unfold gX at h
 refine bD h fun g0 h => ?_
 exact zaD
attribute [go_sem] fG
def pM (F : Md) (chars_0 : qd) (i_6 : Int) (as_7 : wo) : Option ((Int × wo) ⊕ (wo ⊕ (wo × wm))) :=
 if i_6 < (chars_0.length : Int) then ck (0 ≤ i_6 ∧ i_6 < (chars_0.length : Int)) (if (128 : Nat) ≤ (chars_0.getD (i_6.toNat) (0 : Nat)) then some (.inr (.inr (as_7, false, ()))) else ck (0 ≤ (((chars_0.getD (i_6.toNat) (0 : Nat)) : Nat) : Int) ∧ (((chars_0.getD (i_6.toNat) (0 : Nat)) : Nat) : Int) < (256 : Int)) (ck (I64 (i_6 + (1 : Int))) (some (.inl ((i_6 + (1 : Int)), (as_7.set (chars_0.getD (i_6.toNat) (0 : Nat)) true)))))) else some (.inr (.inl as_7))
def iY (F : Md) (chars_0 : qd) : Option (wo × wm) :=
 (eG F (fun d : Int × wo => pM F chars_0 d.1 d.2) ((0 : Int), (List.replicate 256 false))).bind (fun e => match e with | (.inl e) => some (e, true, ()) | (.inr e) => some e)
def yJ : PlR := ⟨[(0, .B [0, 2]), (1, .A [0, 2, 4]), (2, .A [0, 2, 4, 9]), (3, .A [0, 2, 4]), (4, .A [0, 2, 4, 5]), (5, .A [0, 2, 4, 5, 16]), (6, .B [2, 3]), (7, .B [0, 2, 4]), (8, .B [2, 3])], []⟩
def zG : Ty := .pair .str .unit
def eY (F : Md) : aI := mSpec zG (.tup (.pair (.arr 256 .bool) ws)) (fun x => iY F x.1)
abbrev aFN (F : Md) : List (FuncId × aI) := []
theorem aFO [Mx] (F : Md) : bJ Tryz.prog GL (aFN F) := .nil
attribute [go_sem] zG yJ
theorem qY [Mx] (F : Md) : FOK Tryz.prog GL 46 (eY F) := by
 refine bT (aT (aFO F)) mix Tryz.func46 rfl xAa xAc yJ fun w0 S x Θ hw h hF => ?_
 obtain ⟨(chars_0 : qd), u⟩ := x
 simp only [bX, go_sem]
 replace h : sat (iY F chars_0) _ := h
 unfold iY at h
 refine cG hF (D := Int × wo) [0] (fun d => [(2, .ptr 0 []), (4, .val qe d.1)]) (fun d => [.inr (.box 256 (.val (.arr 256 .bool) d.2))]) h rfl xAb ?_
 rintro ⟨i_6, as_7⟩ A2 T2 hA2 hE2 h
 simp only [go_sem]
 replace h : sat (pM F chars_0 i_6 as_7) _ := h
 unfold pM at h
 refine fI h (fun hc h => ?_) fun hc h => ?_
 ·obtain ⟨g0, h⟩ := aP h
  repeat (refine ⟨by omega, ?_⟩)
  refine fC h (fun hc h => ?_) fun hc h => ?_
  ·replace h := yaF (hE2 _ (aE h))
   exact aK hF [.cell 2 102, .tmp 3] rfl rfl rfl (aE h) xAd
  ·obtain ⟨g0, h⟩ := aP h
   repeat (refine ⟨by omega, ?_⟩)
   obtain ⟨g0, h⟩ := aP h
   repeat (refine ⟨by omega, ?_⟩)
   replace h := hA2 _ (aE h)
   exact zaK
 ·replace h := yaF (hE2 _ (aE h))
  exact aK hF [.cell 2 102, .tmp 3] rfl rfl rfl (aE h) xAd
attribute [go_sem] eY
def nT (F : Md) (as_1 : wo) (s_11 : qd) : Option (qd ⊕ qd) :=
 if (0 : Int) < (s_11.length : Int) then ck (I64 ((s_11.length : Int) - (1 : Int))) (ck (0 ≤ ((s_11.length : Int) - (1 : Int)) ∧ ((s_11.length : Int) - (1 : Int)) < (s_11.length : Int)) ((gX F as_1 (s_11.getD ((s_11.length : Int) - (1 : Int)).toNat (0 : Nat))).bind (fun v_21 => if ¬ (v_21 = true) then some (.inr s_11) else ck (I64 ((s_11.length : Int) - (1 : Int))) (ck (0 ≤ ((s_11.length : Int) - (1 : Int)) ∧ ((s_11.length : Int) - (1 : Int)) ≤ (s_11.length : Int)) (some (.inl (List.take ((s_11.length : Int) - (1 : Int)).toNat s_11))))))) else some (.inr s_11)
def jR (F : Md) (s_0 : qd) (as_1 : wo) : Option qd :=
 (eG F (fun d : qd => nT F as_1 d) s_0).bind (fun e => some e)
def vI : PlR := ⟨[(0, .A [0, 1]), (1, .A [0, 1, 7]), (2, .A [0, 1, 15]), (3, .A [0, 1]), (4, .A [4])], []⟩
def wG : Ty := .pair .str (.pair (.rp (.arr 256 .bool)) .unit)
def gB (F : Md) : aI := mSpec wG (.one .str) (fun x => jR F x.1 x.2.1)
abbrev wH (F : Md) : List (FuncId × aI) := [(90, (fG F))]
theorem aEh [Mx] (F : Md) : bJ Tryz.prog GL (wH F) := .cons (sL F) xAa (.nil)
attribute [go_sem] wG vI
theorem vJ [Mx] (F : Md) : FOK Tryz.prog GL 47 (gB F) := by
 refine bT (aT (aEh F)) mix Tryz.func47 rfl xAa xAc vI fun w0 S x Θ hw h hF => ?_
 obtain ⟨(s_0 : qd), (as_1 : wo), u⟩ := x
 simp only [bX, go_sem]
 replace h : sat (jR F s_0 as_1) _ := h
 unfold jR at h
 refine cG hF (D := qd) [1] (fun d => [(0, .val .str d)]) (fun d => []) h rfl xAb ?_
 rintro s_11 A1 T1 hA1 hE1 h
 simp only [go_sem]
 replace h : sat (nT F as_1 s_11) _ := h
 unfold nT at h
 refine fI h (fun hc h => ?_) fun hc h => ?_
 ·refine bD h fun g0 h => bD h fun g1 h => ?_
  obtain ⟨v_21, hv, h⟩ := aN h
  try simp only [hv, go_sem]
  refine aEc h (fun hc h => ?_) fun hc h => ?_
  ·replace h := yaF (hE1 _ (aE h))
   exact zaD
  ·refine bD h fun g0 h => bD h fun g1 h => ?_
   replace h := hA1 _ (aE h)
   exact zaK
 ·replace h := yaF (hE1 _ (aE h))
  exact zaD
attribute [go_sem] gB
def oS (F : Md) (as_1 : wo) (s_11 : qd) : Option (qd ⊕ qd) :=
 if (0 : Int) < (s_11.length : Int) then ck ((0 : Int) < (s_11.length : Int)) ((gX F as_1 (s_11.getD (0 : Nat) (0 : Nat))).bind (fun v_21 => if ¬ (v_21 = true) then some (.inr s_11) else ck ((1 : Int) ≤ (s_11.length : Int)) (some (.inl (List.drop (1 : Nat) s_11))))) else some (.inr s_11)
def kJ (F : Md) (s_0 : qd) (as_1 : wo) : Option qd :=
 (eG F (fun d : qd => oS F as_1 d) s_0).bind (fun e => some e)
def wI : PlR := ⟨[(0, .A [0, 1]), (1, .A [0, 1, 7]), (2, .A [0, 1, 12]), (3, .A [0, 1]), (4, .A [4])], []⟩
def yK : Ty := .pair .str (.pair (.rp (.arr 256 .bool)) .unit)
def gN (F : Md) : aI := mSpec yK (.one .str) (fun x => kJ F x.1 x.2.1)
abbrev yL (F : Md) : List (FuncId × aI) := [(90, (fG F))]
theorem aEJ [Mx] (F : Md) : bJ Tryz.prog GL (yL F) := .cons (sL F) xAa (.nil)
attribute [go_sem] yK wI
theorem wJ [Mx] (F : Md) : FOK Tryz.prog GL 94 (gN F) := by
 refine bT (aT (aEJ F)) mix Tryz.func94 rfl xAa xAc wI fun w0 S x Θ hw h hF => ?_
 obtain ⟨(s_0 : qd), (as_1 : wo), u⟩ := x
 simp only [bX, go_sem]
 replace h : sat (kJ F s_0 as_1) _ := h
 unfold kJ at h
 refine cG hF (D := qd) [1] (fun d => [(0, .val .str d)]) (fun d => []) h rfl xAb ?_
 rintro s_11 A1 T1 hA1 hE1 h
 simp only [go_sem]
 replace h : sat (oS F as_1 s_11) _ := h
 unfold oS at h
 refine fI h (fun hc h => ?_) fun hc h => ?_
 ·refine bD h fun g0 h => ?_
  obtain ⟨v_21, hv, h⟩ := aN h
  try simp only [hv, go_sem]
  refine aEc h (fun hc h => ?_) fun hc h => ?_
  ·replace h := yaF (hE1 _ (aE h))
   exact zaD
  ·refine bD h fun g0 h => ?_
   replace h := hA1 _ (aE h)
   exact zaK
 ·replace h := yaF (hE1 _ (aE h))
  exact zaD
attribute [go_sem] gN
def mJ (F : Md) (s_0 : qd) (cutset_1 : qd) : Option qd :=
 if (s_0 = (aU ⟨#[]⟩)) ∨ (cutset_1 = (aU ⟨#[]⟩)) then some s_0 else ck (((cutset_1.length : Int) = (1 : Int)) → ((0 : Int) < (cutset_1.length : Int))) (if ((cutset_1.length : Int) = (1 : Int)) ∧ ((cutset_1.getD (0 : Nat) (0 : Nat)) < (128 : Nat)) then ck ((0 : Int) < (cutset_1.length : Int)) ((kI F s_0 (cutset_1.getD (0 : Nat) (0 : Nat))).bind (fun v_19 => ck ((0 : Int) < (cutset_1.length : Int)) ((kV F v_19 (cutset_1.getD (0 : Nat) (0 : Nat))).bind (fun v_20 => some v_20)))) else (iY F cutset_1).bind (fun v_27 => if v_27.2.1 = true then (jR F s_0 v_27.1).bind (fun v_34 => (kJ F v_34 v_27.1).bind (fun v_35 => some v_35)) else none))
def aF8 : PlR := ⟨[(0, .A [0, 1]), (1, .A [0, 1, 12]), (2, .A [4]), (3, .A [0, 1, 21]), (4, .A [4]), (5, .B [0, 1, 5, 6]), (6, .A [0, 1, 5, 34]), (7, .A [4]), (8, .stop)], []⟩
def aG9 : Ty := .pair .str wg
def pQ (F : Md) : aI := mSpec aG9 (.one .str) (fun x => mJ F x.1 x.2.1)
abbrev qZ (F : Md) : List (FuncId × aI) := [(45, (gM F)), (46, (eY F)), (47, (gB F)), (93, (iD F)), (94, (gN F))]
theorem aO4 [Mx] (F : Md) : bJ Tryz.prog GL (qZ F) := .cons (wF F) xAa (.cons (qY F) xAa (.cons (vJ F) xAa (.cons (yI F) xAa (.cons (wJ F) xAa (.nil)))))
attribute [go_sem] aG9 aF8
theorem aF9 [Mx] (F : Md) : FOK Tryz.prog GL 96 (pQ F) := by
 refine bT (aT (aO4 F)) mix Tryz.func96 rfl xAa xAc aF8 fun w0 S x Θ hw h hF => ?_
 obtain ⟨(s_0 : qd), (cutset_1 : qd), u⟩ := x
 simp only [bX, go_sem]
 replace h : sat (mJ F s_0 cutset_1) _ := h
 unfold mJ at h
 refine ⟨fun hc => ?_, fun hc => ?_⟩
 ·replace h := jH hc h
  exact zaD
 ·replace h := jI hc h
  refine bD h fun g0 h => ?_
  refine ⟨fun hc => ?_, fun hc => ?_⟩
  ·replace h := jH hc h
   refine bD h fun g0 h => ?_
   obtain ⟨v_19, hv, h⟩ := aN h
   try simp only [hv, go_sem]
   refine bD h fun g0 h => ?_
   obtain ⟨v_20, hv, h⟩ := aN h
   exact zaR
  ·replace h := jI hc h
   obtain ⟨v_27, hv, h⟩ := aN h
   try simp only [hv, go_sem]
   refine aG3 h (fun hc h => ?_) fun hc h => ?_
   ·obtain ⟨v_34, hv, h⟩ := aN h
    try simp only [hv, go_sem]
    obtain ⟨v_35, hv, h⟩ := aN h
    exact zaR
   ·exact aBj h
attribute [go_sem] pQ
def oL (F : Md) : Option qw :=
 some ([(aU ⟨#[116]⟩), (aU ⟨#[115, 113, 114]⟩), (aU ⟨#[115, 113, 114, 116]⟩), (aU ⟨#[101, 120, 112]⟩), (aU ⟨#[112, 114, 101, 99]⟩), (aU ⟨#[101, 110, 100]⟩), (aU ⟨#[115, 116, 101, 112]⟩), (aU ⟨#[116, 111, 108]⟩), (aU ⟨#[116, 114, 105, 101, 115]⟩), (aU ⟨#[111, 114, 100, 101, 114]⟩), (aU ⟨#[106, 97, 99, 111, 98, 105]⟩), (aU ⟨#[115, 101, 105, 100, 101, 108]⟩), (aU ⟨#[115, 117, 98]⟩), (aU ⟨#[115, 116, 97, 116, 101]⟩), (aU ⟨#[112, 97, 114]⟩), (aU ⟨#[105, 110]⟩), (aU ⟨#[111, 117, 116]⟩), (aU ⟨#[100, 101, 114]⟩), (aU ⟨#[108, 105, 110, 107]⟩)] : List qd)
def aDM : PlR := ⟨[(0, .A []), (1, .A [0])], []⟩
def aEK : Ty := .unit
def tG (F : Md) : aI := mSpec aEK (.one wh) (fun x => oL F )
abbrev aLs (F : Md) : List (FuncId × aI) := []
theorem aLt [Mx] (F : Md) : bJ Tryz.prog GL (aLs F) := .nil
attribute [go_sem] aEK aDM
theorem aJ7 [Mx] (F : Md) : FOK Tryz.prog GL 118 (tG F) := by
 refine bT (aT (aLt F)) mix Tryz.func118 rfl xAa xAc aDM fun w0 S x Θ hw h hF => ?_
 simp only [bX, go_sem]
 replace h : sat (oL F) _ := h
 unfold oL at h
 exact aK hF [.tmp 0] rfl rfl rfl (aE h) (by (simp only [aS, go_sem]) <;> first | rfl | (simp; done))
attribute [go_sem] tG
def qL (F : Md) (s_0 : qw) (v_1 : qd) (x8_5 : Int) : Option ((Int) ⊕ ((Unit) ⊕ Int)) :=
 if x8_5 < (s_0.length : Int) then ck (0 ≤ x8_5 ∧ x8_5 < (s_0.length : Int)) (if v_1 = (s_0.getD (x8_5.toNat) ([] : List Nat)) then some (.inr (.inr x8_5)) else ck (I64 (x8_5 + (1 : Int))) (some (.inl (x8_5 + (1 : Int))))) else some (.inr (.inl ()))
def pD (F : Md) (s_0 : qw) (v_1 : qd) : Option Int :=
 (eG F (fun d : Int => qL F s_0 v_1 d) (0 : Int)).bind (fun e => match e with | (.inl e) => some (-1 : Int) | (.inr e) => some e)
def zH : PlR := ⟨[(0, .A [0, 1]), (1, .A [0, 1, 7, 8]), (2, .A [0, 1, 7, 8, 9]), (3, .A [0, 1, 5, 7, 8]), (4, .A [0, 1, 5, 7, 8, 16]), (5, .A [4]), (6, .A [0, 1, 7, 8]), (7, .A [4])], []⟩
def aAy : Ty := .pair wh wg
def nU (F : Md) : aI := mSpec aAy (.one qe) (fun x => pD F x.1 x.2.1)
abbrev aGv (F : Md) : List (FuncId × aI) := []
theorem aGw [Mx] (F : Md) : bJ Tryz.prog GL (aGv F) := .nil
attribute [go_sem] aAy zH
theorem aFP [Mx] (F : Md) : FOK Tryz.prog GL 160 (nU F) := by
 refine bT (aT (aGw F)) mix Tryz.func160 rfl xAa xAc zH fun w0 S x Θ hw h hF => ?_
 obtain ⟨(s_0 : qw), (v_1 : qd), u⟩ := x
 simp only [bX, go_sem]
 replace h : sat (pD F s_0 v_1) _ := h
 unfold pD at h
 refine cG hF (D := Int) [0, 1, 7] (fun d => [(8, .val qe d)]) (fun d => []) h rfl xAb ?_
 rintro x8_5 A2 T2 hA2 hE2 h
 simp only [go_sem]
 replace h : sat (qL F s_0 v_1 x8_5) _ := h
 unfold qL at h
 refine fI h (fun hc h => ?_) fun hc h => ?_
 ·refine bD h fun g0 h => ?_
  refine fC h (fun hc h => ?_) fun hc h => ?_
  ·replace h := yaF (hE2 _ (aE h))
   exact zaD
  ·refine bD h fun g0 h => ?_
   replace h := hA2 _ (aE h)
   exact zaK
 ·replace h := yaF (hE2 _ (aE h))
  exact zaD
attribute [go_sem] nU
def fP (F : Md) (s_0 : qw) (v_1 : qd) : Option Bool :=
 (pD F s_0 v_1).bind (fun v_6 => some (decide ((0 : Int) ≤ v_6)))
def vK : PlR := ⟨[(0, .A [0, 1]), (1, .A [4])], []⟩
def wK : Ty := .pair wh wg
def gC (F : Md) : aI := mSpec wK (.one .bool) (fun x => fP F x.1 x.2.1)
abbrev wL (F : Md) : List (FuncId × aI) := [(160, (nU F))]
theorem aEi [Mx] (F : Md) : bJ Tryz.prog GL (wL F) := .cons (aFP F) xAa (.nil)
attribute [go_sem] wK vK
theorem vL [Mx] (F : Md) : FOK Tryz.prog GL 117 (gC F) := by
 refine bT (aT (aEi F)) mix Tryz.func117 rfl xAa xAc vK fun w0 S x Θ hw h hF => ?_
 obtain ⟨(s_0 : qw), (v_1 : qd), u⟩ := x
 simp only [bX, go_sem]
 replace h : sat (fP F s_0 v_1) _ := h
 unfold fP at h
 obtain ⟨v_6, hv, h⟩ := aN h
 exact zaR
attribute [go_sem] gC
def eX (F : Md) (s_0 : qd) : Option Bool :=
 ck (¬ (((s_0.length : Int) < (1 : Int)) ∨ ((20 : Int) < (s_0.length : Int))) → ((0 : Int) < (s_0.length : Int))) (ck (¬ ((((s_0.length : Int) < (1 : Int)) ∨ ((20 : Int) < (s_0.length : Int))) ∨ ((s_0.getD (0 : Nat) (0 : Nat)) < (97 : Nat))) → ((0 : Int) < (s_0.length : Int))) (if ((((s_0.length : Int) < (1 : Int)) ∨ ((20 : Int) < (s_0.length : Int))) ∨ ((s_0.getD (0 : Nat) (0 : Nat)) < (97 : Nat))) ∨ ((122 : Nat) < (s_0.getD (0 : Nat) (0 : Nat))) then some false else (mJ F s_0 (aU aFK)).bind (fun v_5 => ck ((v_5 = (aU ⟨#[]⟩)) → ((oL F).isSome = true)) (ck ((v_5 = (aU ⟨#[]⟩)) → ((fP F ((oL F).getD ([] : List qd)) s_0).isSome = true)) (some ((decide (v_5 = (aU ⟨#[]⟩))) && (!((fP F ((oL F).getD ([] : List qd)) s_0).getD false))))))))
def aIj : PlR := ⟨[(0, .A [0]), (1, .A [0, 20]), (2, .A [2]), (3, .A [2])], []⟩
def aJ8 : Ty := .pair .str .unit
def oI (F : Md) : aI := mSpec aJ8 (.one .bool) (fun x => eX F x.1)
abbrev aCq (F : Md) : List (FuncId × aI) := [(117, (gC F)), (118, (tG F)), (96, (pQ F))]
theorem aRf [Mx] (F : Md) : bJ Tryz.prog GL (aCq F) := .cons (vL F) xAa (.cons (aJ7 F) xAa (.cons (aF9 F) xAa (.nil)))
attribute [go_sem] aJ8 aIj
theorem aEj [Mx] (F : Md) : FOK Tryz.prog GL 78 (oI F) := by
 refine bT (aT (aRf F)) mix Tryz.func78 rfl xAa xAc aIj fun w0 S x Θ hw h hF => ?_
 obtain ⟨(s_0 : qd), u⟩ := x
 simp only [bX, go_sem]
 replace h : sat (eX F s_0) _ := h
 unfold eX at h
 obtain ⟨g0, h⟩ := aP h
 obtain ⟨g1, h⟩ := aP h
 repeat (refine ⟨zAE, ?_⟩)
 refine ⟨fun hc => ?_, fun hc => ?_⟩
 ·replace h := jH hc h
  exact zaF
 ·replace h := jI hc h
  obtain ⟨v_5, hv, h⟩ := aN h
  try simp only [hv, go_sem]
  obtain ⟨g0, h⟩ := aP h
  obtain ⟨g1, h⟩ := aP h
  repeat (refine ⟨zAE, ?_⟩)
  exact zaF
attribute [go_sem] oI
end
end Nu
end Go.Proofs
namespace Go.Proofs
open Go.Vc
set_option maxRecDepth 20000
namespace Nu
noncomputable section
set_option maxHeartbeats 4000000
def rP (F : Md) : Option wv :=
 none
def rQ (F : Md) (s_0 : qd) (n_14 : Int) : Option wv :=
 ck ((0 : Int) < (s_0.length : Int)) (if (s_0.getD (0 : Nat) (0 : Nat)) = (45 : Nat) then ck (I64 (0 - n_14)) (some ((0 - n_14), (), ())) else some (n_14, (), ()))
def vU (F : Md) (s_9 : qd) (n_15 : Int) (x49_16 : Int) : Option (wj ⊕ ((Int) ⊕ wv)) :=
 if x49_16 < (s_9.length : Int) then ck (0 ≤ x49_16 ∧ x49_16 < (s_9.length : Int)) (if (9 : Nat) < (aBh F .u8 (s_9.getD (x49_16.toNat) (0 : Nat)) (48 : Nat)) then none else ck (I64 (n_15 * (10 : Int))) (ck (I64 ((n_15 * (10 : Int)) + (((aBh F .u8 (s_9.getD (x49_16.toNat) (0 : Nat)) (48 : Nat)) : Nat) : Int))) (ck (I64 (x49_16 + (1 : Int))) (some (.inl (((n_15 * (10 : Int)) + (((aBh F .u8 (s_9.getD (x49_16.toNat) (0 : Nat)) (48 : Nat)) : Nat) : Int)), (x49_16 + (1 : Int)))))))) else some (.inr (.inl n_15))
def oT (F : Md) (s_0 : qd) (s_9 : qd) : Option wv :=
 (eG F (fun d : Int × Int => vU F s_9 d.1 d.2) ((0 : Int), (0 : Int))).bind (fun e => match e with | (.inl e) => rQ F s_0 e | (.inr e) => some e)
def xD (F : Md) (s_0 : qd) : Option wv :=
 if ((False) ∧ (((0 : Int) < (s_0.length : Int)) ∧ ((s_0.length : Int) < (10 : Int)))) ∨ ((True) ∧ (((0 : Int) < (s_0.length : Int)) ∧ ((s_0.length : Int) < (19 : Int)))) then ck ((0 : Int) < (s_0.length : Int)) (ck (¬ ((s_0.getD (0 : Nat) (0 : Nat)) = (45 : Nat)) → ((0 : Int) < (s_0.length : Int))) (if ((s_0.getD (0 : Nat) (0 : Nat)) = (45 : Nat)) ∨ ((s_0.getD (0 : Nat) (0 : Nat)) = (43 : Nat)) then ck ((1 : Int) ≤ (s_0.length : Int)) (if (((List.drop (1 : Nat) s_0).length : Nat) : Int) < (1 : Int) then none else oT F s_0 (List.drop (1 : Nat) s_0)) else oT F s_0 s_0)) else rP F
def aEL : PlR := ⟨[(0, .A [0]), (1, .A [0, 4]), (2, .A [0, 30]), (3, .A [0, 5]), (4, .A [0, 5, 39]), (5, .A [0, 5]), (6, .A [0, 5, 44]), (7, .A [2, 3]), (8, .A [0, 5, 6]), (9, .A [5, 6, 47, 48, 49]), (10, .A [5, 6, 47, 48, 49, 50]), (11, .A [5, 6, 8, 47, 48, 49]), (12, .A [5, 6, 8, 47, 48, 49]), (13, .A [5, 6, 8, 47, 48, 49, 56]), (14, .A [2, 3]), (15, .A [5, 6, 47, 48, 49]), (16, .A [5, 6, 47, 48, 49]), (17, .A [6, 66]), (18, .A [6]), (19, .A [2, 3]), (20, .stop)], [(5, 23), (7, 11), (12, 20)]⟩
def aGa : Ty := .pair .str .unit
def uP (F : Md) : aI := mSpec aGa (.tup (.pair qe (.pair .nili .unit))) (fun x => xD F x.1)
abbrev aM7 (F : Md) : List (FuncId × aI) := []
theorem aM8 [Mx] (F : Md) : bJ Tryz.prog GL (aM7 F) := .nil
attribute [go_sem] aGa aEL
theorem aLw [Mx] (F : Md) : FOK Tryz.prog GL 131 (uP F) := by
 refine bT (aT (aM8 F)) mix Tryz.func131 rfl xAa xAc aEL fun w0 S x Θ hw h hF => ?_
 obtain ⟨(s_0 : qd), u⟩ := x
 simp only [bX, go_sem]
 replace h : sat (xD F s_0) _ := h
 unfold xD at h
 refine eP hF (D := Unit) (fun d => sat (rP F) Θ) [0] (fun d => []) (fun d => []) ?_ ?_
 ·simp only [go_sem, dI F, dJ F, dK F]
  refine ⟨fun hc => ?_, fun hc => ?_⟩
  ·replace h := jH zAB h
   refine eP hF (D := qd) (fun d => sat (oT F s_0 d) Θ) [5] (fun d => [(0, .val .str d)]) (fun d => []) ?_ ?_
   ·simp only [go_sem, dI F, dJ F, dK F]
    refine bD h fun g0 h => bD h fun g1 h => ?_
    refine ⟨fun hc => ?_, fun hc => ?_⟩
    ·replace h := jH hc h
     refine bD h fun g0 h => ?_
     refine fI h (fun hc h => ?_) fun hc h => ?_
     ·exact aBj h
     ·exact aZ (List.drop (1 : Nat) s_0) h rfl xAe
    ·replace h := jI hc h
     exact aZ (s_0) h rfl xAe
   ·rintro s_9 h
    simp only [go_sem, dI F, dJ F, dK F]
    replace h : sat (oT F s_0 s_9) _ := h
    unfold oT at h
    refine eP hF (D := Int) (fun d => sat (rQ F s_0 d) Θ) [5] (fun d => [(6, .val qe d)]) (fun d => []) ?_ ?_
    ·simp only [go_sem, dI F, dJ F, dK F]
     refine cG hF (D := Int × Int) [5, 47, 48] (fun d => [(6, .val qe d.1), (49, .val qe d.2)]) (fun d => []) h rfl xAe ?_
     rintro ⟨n_15, x49_16⟩ A10 T10 hA10 hE10 h
     simp only [go_sem, dI F, dJ F, dK F]
     replace h : sat (vU F s_9 n_15 x49_16) _ := h
     unfold vU at h
     refine fI h (fun hc h => ?_) fun hc h => ?_
     ·refine bD h fun g0 h => ?_
      refine fC h (fun hc h => ?_) fun hc h => ?_
      ·exact aBj h
      ·refine bD h fun g0 h => bD h fun g1 h => ?_
       refine bD h fun g0 h => ?_
       replace h := hA10 _ (aE h)
       exact aZ _ h rfl xAe
     ·replace h := yaF (hE10 _ (aE h))
      exact aZ (n_15) h rfl xAe
    ·rintro n_14 h
     simp only [go_sem, dI F, dJ F, dK F]
     replace h : sat (rQ F s_0 n_14) _ := h
     unfold rQ at h
     refine bD h fun g0 h => ?_
     refine fC h (fun hc h => ?_) fun hc h => ?_
     ·refine bD h fun g0 h => ?_
      exact aK hF [.tmp 2, .tmp 3] rfl rfl rfl (aE h) xAf
     ·exact aK hF [.tmp 2, .tmp 3] rfl rfl rfl (aE h) xAf
  ·replace h := jI zAB h
   exact aZ () h rfl xAe
 ·rintro u h
  simp only [go_sem, dI F, dJ F, dK F]
  replace h : sat (rP F) _ := h
  unfold rP at h
  exact aBj h
attribute [go_sem] uP
def oU (F : Md) (s_0 : qd) : Option wv :=
 (xD F s_0).bind (fun v_5 => some (v_5.1, (), ()))
def aGb : PlR := ⟨[(0, .A [0]), (1, .A [0, 4, 5]), (2, .A [0, 4, 5, 12]), (4, .A [2, 3])], []⟩
def aHa : Ty := .pair .str .unit
def lK (F : Md) : aI := mSpec aHa (.tup (.pair qe (.pair .nili .unit))) (fun x => oU F x.1)
abbrev aHb (F : Md) : List (FuncId × aI) := [(131, (uP F))]
theorem aO5 [Mx] (F : Md) : bJ Tryz.prog GL (aHb F) := .cons (aLw F) xAa (.nil)
attribute [go_sem] aHa aGb
theorem aBB [Mx] (F : Md) : FOK Tryz.prog GL 97 (lK F) := by
 refine bT (aT (aO5 F)) mix Tryz.func97 rfl xAa xAc aGb fun w0 S x Θ hw h hF => ?_
 obtain ⟨(s_0 : qd), u⟩ := x
 simp only [bX, go_sem]
 replace h : sat (oU F s_0) _ := h
 unfold oU at h
 obtain ⟨v_5, hv, h⟩ := aN h
 try simp only [hv, go_sem]
 exact aK hF [.tmp 2, .tmp 3] rfl rfl rfl (aE h) xAd
attribute [go_sem] lK
def aBC (F : Md) (at_1 : Int) (s_0 : qd) (n_5 : Int) : Option ((Int) ⊕ (Int)) :=
 ck (I64 (at_1 + n_5)) (ck (((at_1 + n_5) < (s_0.length : Int)) → (I64 (at_1 + n_5))) (ck (((at_1 + n_5) < (s_0.length : Int)) → (0 ≤ (at_1 + n_5) ∧ (at_1 + n_5) < (s_0.length : Int))) (ck ((((at_1 + n_5) < (s_0.length : Int)) ∧ ((48 : Nat) ≤ (s_0.getD (at_1 + n_5).toNat (0 : Nat)))) → (I64 (at_1 + n_5))) (ck ((((at_1 + n_5) < (s_0.length : Int)) ∧ ((48 : Nat) ≤ (s_0.getD (at_1 + n_5).toNat (0 : Nat)))) → (0 ≤ (at_1 + n_5) ∧ (at_1 + n_5) < (s_0.length : Int))) (if (((at_1 + n_5) < (s_0.length : Int)) ∧ ((48 : Nat) ≤ (s_0.getD (at_1 + n_5).toNat (0 : Nat)))) ∧ ((s_0.getD (at_1 + n_5).toNat (0 : Nat)) ≤ (57 : Nat)) then ck (I64 (n_5 + (1 : Int))) (some (.inl (n_5 + (1 : Int)))) else some (.inr n_5))))))
def nV (F : Md) (s_0 : qd) (at_1 : Int) : Option Int :=
 (eG F (fun d : Int => aBC F at_1 s_0 d) (0 : Int)).bind (fun e => some e)
def aIk : PlR := ⟨[(0, .A [0, 1]), (1, .A [0, 1, 5]), (2, .A [0, 1, 5, 27]), (3, .A [0, 1, 5]), (4, .A [4])], []⟩
def aJ9 : Ty := .pair .str q9
def sU (F : Md) : aI := mSpec aJ9 (.one qe) (fun x => nV F x.1 x.2.1)
abbrev aRg (F : Md) : List (FuncId × aI) := []
theorem aRh [Mx] (F : Md) : bJ Tryz.prog GL (aRg F) := .nil
attribute [go_sem] aJ9 aIk
theorem aIl [Mx] (F : Md) : FOK Tryz.prog GL 134 (sU F) := by
 refine bT (aT (aRh F)) mix Tryz.func134 rfl xAa xAc aIk fun w0 S x Θ hw h hF => ?_
 obtain ⟨(s_0 : qd), (at_1 : Int), u⟩ := x
 simp only [bX, go_sem]
 replace h : sat (nV F s_0 at_1) _ := h
 unfold nV at h
 refine cG hF (D := Int) [0, 1] (fun d => [(5, .val qe d)]) (fun d => []) h rfl xAb ?_
 rintro n_5 A2 T2 hA2 hE2 h
 simp only [go_sem]
 replace h : sat (aBC F at_1 s_0 n_5) _ := h
 unfold aBC at h
 refine bD h fun g0 h => bD h fun g1 h => bD h fun g2 h => bD h fun g3 h => bD h fun g4 h => ?_
 refine ⟨fun hc => ?_, fun hc => ?_⟩
 ·replace h := jH hc h
  refine bD h fun g0 h => ?_
  replace h := hA2 _ (aE h)
  exact zaK
 ·replace h := jI hc h
  replace h := yaF (hE2 _ (aE h))
  exact zaD
attribute [go_sem] sU
def rA (F : Md) (all_9 : qd) (s_0 : qd) (at_17 : Int) (pow_18 : Int) : Option (qd × (Int × wm)) :=
 some (all_9, pow_18, (decide (at_17 = (s_0.length : Int))), ())
def rB (F : Md) (pow_10 : Int) (at_19 : Int) (v_23 : Int) (all_9 : qd) (s_0 : qd) (x_28 : Int) : Option (qd × (Int × wm)) :=
 ck (I64 (pow_10 + x_28)) (ck (I64 (at_19 + v_23)) (rA F all_9 s_0 (at_19 + v_23) (pow_10 + x_28)))
def rC (F : Md) (s_0 : qd) (at_8 : Int) (pow_10 : Int) (all_9 : qd) (at_19 : Int) : Option (qd × (Int × wm)) :=
 (nV F s_0 at_19).bind (fun v_23 => if (v_23 < (1 : Int)) ∨ ((3 : Int) < v_23) then some ((aU ⟨#[]⟩), (0 : Int), false, ()) else ck (I64 (at_19 + v_23)) (ck (0 ≤ at_19 ∧ at_19 ≤ (at_19 + v_23) ∧ (at_19 + v_23) ≤ (s_0.length : Int)) ((oU F (List.drop (at_19.toNat) (List.take (at_19 + v_23).toNat s_0))).bind (fun v_27 => if (100 : Int) < v_27.1 then some ((aU ⟨#[]⟩), (0 : Int), false, ()) else if ((at_8 + (1 : Int)) < (s_0.length : Int)) ∧ ((s_0.getD (at_8 + (1 : Int)).toNat (0 : Nat)) = (45 : Nat)) then ck (I64 (0 - v_27.1)) (rB F pow_10 at_19 v_23 all_9 s_0 (0 - v_27.1)) else rB F pow_10 at_19 v_23 all_9 s_0 v_27.1))))
def rD (F : Md) (s_0 : qd) (at_8 : Int) (all_9 : qd) (pow_10 : Int) : Option (qd × (Int × wm)) :=
 ck ((at_8 < (s_0.length : Int)) → (0 ≤ at_8 ∧ at_8 < (s_0.length : Int))) (if (at_8 < (s_0.length : Int)) ∧ ((s_0.getD (at_8.toNat) (0 : Nat)) = (101 : Nat)) then ck (I64 (at_8 + (1 : Int))) (ck (((at_8 + (1 : Int)) < (s_0.length : Int)) → (0 ≤ (at_8 + (1 : Int)) ∧ (at_8 + (1 : Int)) < (s_0.length : Int))) (ck (¬ (((at_8 + (1 : Int)) < (s_0.length : Int)) ∧ ((s_0.getD (at_8 + (1 : Int)).toNat (0 : Nat)) = (45 : Nat))) → ((at_8 + (1 : Int)) < (s_0.length : Int)) → (0 ≤ (at_8 + (1 : Int)) ∧ (at_8 + (1 : Int)) < (s_0.length : Int))) (if (((at_8 + (1 : Int)) < (s_0.length : Int)) ∧ ((s_0.getD (at_8 + (1 : Int)).toNat (0 : Nat)) = (45 : Nat))) ∨ (((at_8 + (1 : Int)) < (s_0.length : Int)) ∧ ((s_0.getD (at_8 + (1 : Int)).toNat (0 : Nat)) = (43 : Nat))) then ck (I64 ((at_8 + (1 : Int)) + (1 : Int))) (rC F s_0 at_8 pow_10 all_9 ((at_8 + (1 : Int)) + (1 : Int))) else rC F s_0 at_8 pow_10 all_9 (at_8 + (1 : Int))))) else rA F all_9 s_0 at_8 pow_10)
def sV (F : Md) (s_0 : qd) : Option (qd × (Int × wm)) :=
 (nV F s_0 (0 : Int)).bind (fun v_5 => ck (0 ≤ v_5 ∧ v_5 ≤ (s_0.length : Int)) (if ((60 : Int) < (s_0.length : Int)) ∨ (v_5 = (0 : Int)) then some ((aU ⟨#[]⟩), (0 : Int), false, ()) else ck ((v_5 < (s_0.length : Int)) → (0 ≤ v_5 ∧ v_5 < (s_0.length : Int))) (if (v_5 < (s_0.length : Int)) ∧ ((s_0.getD (v_5.toNat) (0 : Nat)) = (46 : Nat)) then ck (I64 (v_5 + (1 : Int))) ((nV F s_0 (v_5 + (1 : Int))).bind (fun v_32 => if v_32 = (0 : Int) then some ((aU ⟨#[]⟩), (0 : Int), false, ()) else ck (I64 (v_5 + (1 : Int))) (ck (I64 (v_5 + (1 : Int))) (ck (I64 ((v_5 + (1 : Int)) + v_32)) (ck (0 ≤ (v_5 + (1 : Int)) ∧ (v_5 + (1 : Int)) ≤ ((v_5 + (1 : Int)) + v_32) ∧ ((v_5 + (1 : Int)) + v_32) ≤ (s_0.length : Int)) (ck ((List.take (v_5.toNat) s_0).length + (List.drop (v_5 + (1 : Int)).toNat (List.take ((v_5 + (1 : Int)) + v_32).toNat s_0)).length ≤ 9223372036854775807) (ck (I64 (0 - v_32)) (ck (I64 (v_5 + (1 : Int))) (ck (I64 ((v_5 + (1 : Int)) + v_32)) (rD F s_0 ((v_5 + (1 : Int)) + v_32) ((List.take (v_5.toNat) s_0) ++ (List.drop (v_5 + (1 : Int)).toNat (List.take ((v_5 + (1 : Int)) + v_32).toNat s_0))) (0 - v_32))))))))))) else rD F s_0 v_5 (List.take (v_5.toNat) s_0) (0 : Int))))
def aHc : PlR := ⟨[(0, .A [0]), (1, .A [0, 5]), (2, .A [0, 5, 6, 7]), (3, .A [0, 5, 6, 7, 24]), (4, .A [2, 3, 4]), (5, .A [0, 5, 6, 7, 34]), (6, .A [0, 5, 6, 8]), (7, .A [0, 5, 6, 8, 40]), (8, .A [2, 3, 4]), (9, .A [0, 5, 6, 7]), (10, .A [0, 5, 6, 7, 66]), (11, .A [0, 5, 6, 7]), (12, .A [0, 5, 6, 7, 9]), (13, .A [0, 5, 6, 7, 9, 91]), (14, .A [0, 5, 6, 7, 9]), (15, .A [0, 5, 6, 7, 9, 10]), (16, .A [0, 5, 6, 7, 9, 10, 102]), (17, .A [2, 3, 4]), (18, .A [0, 5, 6, 7, 9, 10, 11]), (19, .A [0, 5, 6, 7, 9, 10, 11, 114]), (20, .A [2, 3, 4]), (21, .A [0, 5, 6, 7, 10, 11, 115]), (22, .A [0, 5, 6, 7, 10, 11]), (23, .A [0, 5, 6, 7]), (24, .A [2, 3, 4])], [(8, 13), (13, 27), (16, 18), (24, 26)]⟩
def aIm : Ty := .pair .str .unit
def mK (F : Md) : aI := mSpec aIm (.tup (.pair .str (.pair qe ws))) (fun x => sV F x.1)
abbrev aEk (F : Md) : List (FuncId × aI) := [(134, (sU F)), (97, (lK F))]
theorem aPL [Mx] (F : Md) : bJ Tryz.prog GL (aEk F) := .cons (aIl F) xAa (.cons (aBB F) xAa (.nil))
attribute [go_sem] aIm aHc
theorem aDa [Mx] (F : Md) : FOK Tryz.prog GL 102 (mK F) := by
 refine bT (aT (aPL F)) mix Tryz.func102 rfl xAa xAc aHc fun w0 S x Θ hw h hF => ?_
 obtain ⟨(s_0 : qd), u⟩ := x
 simp only [bX, go_sem]
 replace h : sat (sV F s_0) _ := h
 unfold sV at h
 obtain ⟨v_5, hv, h⟩ := aN h
 try simp only [hv, go_sem]
 obtain ⟨g0, h⟩ := aP h
 repeat (refine ⟨by omega, ?_⟩)
 refine ⟨fun hc => ?_, fun hc => ?_⟩
 ·replace h := jH hc h
  exact zaq
 ·replace h := jI hc h
  refine eP hF (D := Int × qd × Int) (fun d => sat (rD F s_0 d.1 d.2.1 d.2.2) Θ) [0] (fun d => [(5, .val qe d.1), (6, .val .str d.2.1), (7, .val qe d.2.2)]) (fun d => []) ?_ ?_
  ·simp only [go_sem]
   obtain ⟨g0, h⟩ := aP h
   repeat (refine ⟨by omega, ?_⟩)
   refine ⟨fun hc => ?_, fun hc => ?_⟩
   ·replace h := jH hc h
    obtain ⟨g0, h⟩ := aP h
    repeat (refine ⟨by omega, ?_⟩)
    obtain ⟨v_32, hv, h⟩ := aN h
    try simp only [hv, go_sem]
    refine fC h (fun hc h => ?_) fun hc h => ?_
    ·exact aK hF [.tmp 2, .tmp 3, .tmp 4] rfl rfl rfl (aE h) xAd
    ·obtain ⟨g0, h⟩ := aP h
     obtain ⟨g1, h⟩ := aP h
     obtain ⟨g2, h⟩ := aP h
     obtain ⟨g3, h⟩ := aP h
     obtain ⟨g4, h⟩ := aP h
     obtain ⟨g5, h⟩ := aP h
     obtain ⟨g6, h⟩ := aP h
     obtain ⟨g7, h⟩ := aP h
     repeat (refine ⟨by omega, ?_⟩)
     exact aZ (((v_5 + (1 : Int)) + v_32), ((List.take (v_5.toNat) s_0) ++ (List.drop (v_5 + (1 : Int)).toNat (List.take ((v_5 + (1 : Int)) + v_32).toNat s_0))), (0 - v_32)) h rfl xAb
   ·replace h := jI hc h
    exact aZ (v_5, (List.take (v_5.toNat) s_0), (0 : Int)) h rfl xAb
  ·rintro ⟨at_8, all_9, pow_10⟩ h
   simp only [go_sem]
   replace h : sat (rD F s_0 at_8 all_9 pow_10) _ := h
   unfold rD at h
   refine eP hF (D := Int × Int) (fun d => sat (rA F all_9 s_0 d.1 d.2) Θ) [0, 6] (fun d => [(5, .val qe d.1), (7, .val qe d.2)]) (fun d => []) ?_ ?_
   ·simp only [go_sem]
    obtain ⟨g0, h⟩ := aP h
    repeat (refine ⟨by omega, ?_⟩)
    refine ⟨fun hc => ?_, fun hc => ?_⟩
    ·replace h := jH hc h
     obtain ⟨g0, h⟩ := aP h
     repeat (refine ⟨by omega, ?_⟩)
     obtain ⟨g0, h⟩ := aP h
     repeat (refine ⟨by omega, ?_⟩)
     refine eP hF (D := Int) (fun d => sat (rC F s_0 at_8 pow_10 all_9 d) Θ) [0, 6, 7, 9] (fun d => [(5, .val qe d)]) (fun d => []) ?_ ?_
     ·simp only [go_sem]
      obtain ⟨g0, h⟩ := aP h
      repeat (refine ⟨by omega, ?_⟩)
      refine ⟨fun hc => ?_, fun hc => ?_⟩
      ·replace h := jH hc h
       obtain ⟨g0, h⟩ := aP h
       repeat (refine ⟨by omega, ?_⟩)
       exact aZ ((at_8 + (1 : Int)) + (1 : Int)) h rfl xAb
      ·replace h := jI hc h
       exact aZ (at_8 + (1 : Int)) h rfl xAb
     ·rintro at_19 h
      simp only [go_sem]
      replace h : sat (rC F s_0 at_8 pow_10 all_9 at_19) _ := h
      unfold rC at h
      obtain ⟨v_23, hv, h⟩ := aN h
      try simp only [hv, go_sem]
      refine ⟨fun hc => ?_, fun hc => ?_⟩
      ·replace h := jH hc h
       exact zaq
      ·replace h := jI hc h
       obtain ⟨g0, h⟩ := aP h
       obtain ⟨g1, h⟩ := aP h
       repeat (refine ⟨by omega, ?_⟩)
       obtain ⟨v_27, hv, h⟩ := aN h
       try simp only [hv, go_sem]
       refine fI h (fun hc h => ?_) fun hc h => ?_
       ·exact aK hF [.tmp 2, .tmp 3, .tmp 4] rfl rfl rfl (aE h) xAd
       ·refine eP hF (D := Int) (fun d => sat (rB F pow_10 at_19 v_23 all_9 s_0 d) Θ) [0, 5, 6, 7, 10] (fun d => [(11, .val qe d)]) (fun d => []) ?_ ?_
        ·simp only [go_sem]
         refine ⟨fun hc => ?_, fun hc => ?_⟩
         ·replace h := jH hc h
          obtain ⟨g0, h⟩ := aP h
          repeat (refine ⟨by omega, ?_⟩)
          exact aZ (0 - v_27.1) h rfl xAb
         ·replace h := jI hc h
          exact aZ v_27.1 h rfl xAb
        ·rintro x_28 h
         simp only [go_sem]
         replace h : sat (rB F pow_10 at_19 v_23 all_9 s_0 x_28) _ := h
         unfold rB at h
         obtain ⟨g0, h⟩ := aP h
         obtain ⟨g1, h⟩ := aP h
         repeat (refine ⟨by omega, ?_⟩)
         exact aZ ((at_19 + v_23), (pow_10 + x_28)) h rfl xAb
    ·replace h := jI hc h
     exact aZ (at_8, pow_10) h rfl xAb
   ·rintro ⟨at_17, pow_18⟩ h
    simp only [go_sem]
    replace h : sat (rA F all_9 s_0 at_17 pow_18) _ := h
    unfold rA at h
    exact zaq
attribute [go_sem] mK
def aDb (F : Md) (n_1 : Int) (b_0 : Nat) (m_13 : qd) (x8_14 : Int) : Option (wz ⊕ qd) :=
 if x8_14 < n_1 then (kH F m_13 ([b_0] : List Nat)).bind (fun v_23 => ck (I64 (x8_14 + (1 : Int))) (some (.inl (v_23, (x8_14 + (1 : Int)))))) else some (.inr m_13)
def tZ (F : Md) (b_0 : Nat) (n_1 : Int) : Option qd :=
 (eG F (fun d : qd × Int => aDb F n_1 b_0 d.1 d.2) (([1] : List Nat), (0 : Int))).bind (fun e => some e)
def aKb : PlR := ⟨[], []⟩
def aMF : Ty := .pair qx q9
def uQ (F : Md) : aI := mSpec aMF (.one we) (fun x => tZ F x.1 x.2.1)
abbrev aMG (F : Md) : List (FuncId × aI) := [(104, (gW F))]
theorem aSv [Mx] (F : Md) : bJ Tryz.prog GL (aMG F) := .cons (uL F) xAa (.nil)
attribute [go_sem] aMF aKb
theorem aKc [Mx] (F : Md) : FOK Tryz.prog GL 106 (uQ F) := by
 refine bT (aT (aSv F)) mix Tryz.func106 rfl xAa xAc aKb fun w0 S x Θ hw h hF => ?_
 obtain ⟨(b_0 : Nat), (n_1 : Int), u⟩ := x
 simp only [bX, go_sem]
 replace h : sat (tZ F b_0 n_1) _ := h
 unfold tZ at h
 refine xR hF [0, 1] (yaA ?_)
 refine xR hF [0, 1, 5] (yaA ?_)
 refine xR hF [0, 5, 7, 8] (yaA ?_)
 refine cG hF (D := qd × Int) [0, 7] (fun d => [(5, .val we d.1), (8, .val qe d.2)]) (fun d => []) h rfl xAb ?_
 rintro ⟨m_13, x8_14⟩ A3 T3 hA3 hE3 h
 simp only [go_sem]
 replace h : sat (aDb F n_1 b_0 m_13 x8_14) _ := h
 unfold aDb at h
 refine xR hF [0, 5, 7, 8, 9] (yaA ?_)
 refine fI h (fun hc h => ?_) fun hc h => ?_
 ·refine xR hF [0, 5, 7, 8] (yaA ?_)
  obtain ⟨v_23, hv, h⟩ := aN h
  try simp only [hv, go_sem]
  refine xR hF [0, 5, 7, 8] (yaA ?_)
  refine bD h fun g0 h => ?_
  replace h := hA3 _ (aE h)
  exact zaK
 ·replace h := yaF (hE3 _ (aE h))
  refine xR hF [4] (yaA ?_)
  exact zaD
attribute [go_sem] uQ
def aBD (F : Md) (s_0 : qd) (m_24 : qd) (x9_25 : Int) : Option (wz ⊕ qd) :=
 if x9_25 < (s_0.length : Int) then ck (0 ≤ x9_25 ∧ x9_25 < (s_0.length : Int)) ((kH F m_24 ([10] : List Nat)).bind (fun v_44 => (aC2 F ([(aBh F .u8 (s_0.getD (x9_25.toNat) (0 : Nat)) (48 : Nat))] : List Nat)).bind (fun v_45 => (aFB F v_44 v_45).bind (fun v_46 => ck (I64 (x9_25 + (1 : Int))) (some (.inl (v_46, (x9_25 + (1 : Int))))))))) else some (.inr m_24)
def zI (F : Md) (s_0 : qd) : Option qd :=
 (eG F (fun d : qd × Int => aBD F s_0 d.1 d.2) (([] : List Nat), (0 : Int))).bind (fun e => some e)
def aIn : PlR := ⟨[], []⟩
def aKd : Ty := .pair .str .unit
def sW (F : Md) : aI := mSpec aKd (.one we) (fun x => zI F x.1)
abbrev aCr (F : Md) : List (FuncId × aI) := [(104, (gW F)), (145, (aDG F)), (146, (xZ F))]
theorem aRi [Mx] (F : Md) : bJ Tryz.prog GL (aCr F) := .cons (uL F) xAa (.cons (aSo F) xAa (.cons (aMn F) xAa (.nil)))
attribute [go_sem] aKd aIn
theorem aIo [Mx] (F : Md) : FOK Tryz.prog GL 105 (sW F) := by
 refine bT (aT (aRi F)) mix Tryz.func105 rfl xAa xAc aIn fun w0 S x Θ hw h hF => ?_
 obtain ⟨(s_0 : qd), u⟩ := x
 simp only [bX, go_sem]
 replace h : sat (zI F s_0) _ := h
 unfold zI at h
 refine xR hF [0] ?_
 simp only [go_sem, dI F, dJ F, dK F]
 refine xR hF [0, 3] ?_
 simp only [go_sem, dI F, dJ F, dK F]
 refine xR hF [3, 7, 8, 9] ?_
 simp only [go_sem, dI F, dJ F, dK F]
 refine cG hF (D := qd × Int) [7, 8] (fun d => [(3, .val we d.1), (9, .val qe d.2)]) (fun d => []) h rfl xAe ?_
 rintro ⟨m_24, x9_25⟩ A3 T3 hA3 hE3 h
 simp only [go_sem, dI F, dJ F, dK F]
 replace h : sat (aBD F s_0 m_24 x9_25) _ := h
 unfold aBD at h
 refine xR hF [3, 7, 8, 9, 10] ?_
 simp only [go_sem, dI F, dJ F, dK F]
 refine fI h (fun hc h => ?_) fun hc h => ?_
 ·refine xR hF [3, 5, 7, 8, 9] ?_
  simp only [go_sem, dI F, dJ F, dK F]
  refine bD h fun g0 h => ?_
  refine xR hF [3, 7, 8, 9] ?_
  simp only [go_sem, dI F, dJ F, dK F]
  obtain ⟨v_44, hv, h⟩ := aN h
  try simp only [hv, go_sem, dI F, dJ F, dK F]
  obtain ⟨v_45, hv, h⟩ := aN h
  try simp only [hv, go_sem, dI F, dJ F, dK F]
  obtain ⟨v_46, hv, h⟩ := aN h
  try simp only [hv, go_sem, dI F, dJ F, dK F]
  refine xR hF [3, 7, 8, 9] ?_
  simp only [go_sem, dI F, dJ F, dK F]
  refine bD h fun g0 h => ?_
  replace h := hA3 _ (aE h)
  exact aZ _ h rfl xAe
 ·replace h := yaF (hE3 _ (aE h))
  refine xR hF [2] ?_
  simp only [go_sem, dI F, dJ F, dK F]
  exact aK hF [.tmp 2] rfl rfl rfl (aE h) xAf
attribute [go_sem] sW
def qM (F : Md) (s_0 : qd) : Option Bool :=
 (sV F s_0).bind (fun v_5 => some v_5.2.2.1)
def aMH : PlR := ⟨[(0, .A [0]), (1, .A [5]), (2, .A [2])], []⟩
def aO6 : Ty := .pair .str .unit
def rJ (F : Md) : aI := mSpec aO6 (.one .bool) (fun x => qM F x.1)
abbrev aO7 (F : Md) : List (FuncId × aI) := [(102, (mK F))]
theorem aTo [Mx] (F : Md) : bJ Tryz.prog GL (aO7 F) := .cons (aDa F) xAa (.nil)
attribute [go_sem] aO6 aMH
theorem aHd [Mx] (F : Md) : FOK Tryz.prog GL 98 (rJ F) := by
 refine bT (aT (aTo F)) mix Tryz.func98 rfl xAa xAc aMH fun w0 S x Θ hw h hF => ?_
 obtain ⟨(s_0 : qd), u⟩ := x
 simp only [bX, go_sem]
 replace h : sat (qM F s_0) _ := h
 unfold qM at h
 obtain ⟨v_5, hv, h⟩ := aN h
 try simp only [hv, go_sem]
 exact zaF
attribute [go_sem] rJ
def aDN (F : Md) (s_0 : qd) : Option (qd × (qd × wm)) :=
 (sV F s_0).bind (fun v_5 => if ¬ (v_5.2.2.1 = true) then some (([] : List Nat), ([] : List Nat), false, ()) else (zI F v_5.1).bind (fun v_18 => (tZ F (10 : Nat) (max v_5.2.1 (0 : Int))).bind (fun v_19 => (kH F v_18 v_19).bind (fun v_20 => ck (I64 (0 - v_5.2.1)) ((tZ F (10 : Nat) (max (0 - v_5.2.1) (0 : Int))).bind (fun v_21 => some (v_20, v_21, true, ())))))))
def aKe : PlR := ⟨[(0, .A [0]), (1, .A [5, 6, 7]), (2, .A [5, 6, 15]), (3, .A [2, 3, 4]), (4, .A [2, 3, 4])], []⟩
def aMI : Ty := .pair .str .unit
def aCs (F : Md) : aI := mSpec aMI (.tup (.pair we (.pair we ws))) (fun x => aDN F x.1)
abbrev aBl (F : Md) : List (FuncId × aI) := [(102, (mK F)), (104, (gW F)), (105, (sW F)), (106, (uQ F))]
theorem aSw [Mx] (F : Md) : bJ Tryz.prog GL (aBl F) := .cons (aDa F) xAa (.cons (uL F) xAa (.cons (aIo F) xAa (.cons (aKc F) xAa (.nil))))
attribute [go_sem] aMI aKe
theorem aRj [Mx] (F : Md) : FOK Tryz.prog GL 155 (aCs F) := by
 refine bT (aT (aSw F)) mix Tryz.func155 rfl xAa xAc aKe fun w0 S x Θ hw h hF => ?_
 obtain ⟨(s_0 : qd), u⟩ := x
 simp only [bX, go_sem]
 replace h : sat (aDN F s_0) _ := h
 unfold aDN at h
 obtain ⟨v_5, hv, h⟩ := aN h
 try simp only [hv, go_sem]
 refine aEc h (fun hc h => ?_) fun hc h => ?_
 ·exact aK hF [.tmp 2, .tmp 3, .tmp 4] rfl rfl rfl (aE h) xAd
 ·obtain ⟨v_18, hv, h⟩ := aN h
  try simp only [hv, go_sem]
  obtain ⟨v_19, hv, h⟩ := aN h
  try simp only [hv, go_sem]
  obtain ⟨v_20, hv, h⟩ := aN h
  try simp only [hv, go_sem]
  refine bD h fun g0 h => ?_
  obtain ⟨v_21, hv, h⟩ := aN h
  try simp only [hv, go_sem]
  exact zaq
attribute [go_sem] aCs
def aDO (F : Md) (s_0 : qd) : Option (qt × qp) :=
 (sV F s_0).bind (fun v_5 => if ¬ (v_5.2.2.1 = true) then some ((false, ([] : List Nat), (0 : Int), ()), (6 : Int), ()) else (zI F v_5.1).bind (fun v_21 => (tZ F (5 : Nat) (max v_5.2.1 (0 : Int))).bind (fun v_22 => (kH F v_21 v_22).bind (fun v_23 => ck (I64 (0 - v_5.2.1)) ((tZ F (5 : Nat) (max (0 - v_5.2.1) (0 : Int))).bind (fun v_24 => (aCi F v_23 v_24).bind (fun v_25 => (aC8 F false v_25.1 v_5.2.1).bind (fun v_27 => if ((0 : Int) < (v_25.2.1.length : Int)) ∨ (¬ (v_27.2.1 = (0 : Int))) then some ((false, ([] : List Nat), (0 : Int), ()), (6 : Int), ()) else some (v_27.1, (0 : Int), ())))))))))
def aKf : PlR := ⟨[(0, .B [0, 2]), (1, .A [2, 4, 5, 6]), (2, .A [2, 4, 5, 18]), (3, .B [2, 3]), (4, .A [2, 5, 7, 8]), (5, .B [2, 8, 9, 10]), (6, .A [2, 9, 46]), (7, .B [2, 3]), (8, .B [2, 3])], []⟩
def aMJ : Ty := .pair .str .unit
def aCt (F : Md) : aI := mSpec aMJ (.tup (.pair ql q9)) (fun x => aDO F x.1)
abbrev uA (F : Md) : List (FuncId × aI) := [(102, (mK F)), (103, (aAY F)), (104, (gW F)), (105, (sW F)), (106, (uQ F)), (107, (yD F))]
theorem aSx [Mx] (F : Md) : bJ Tryz.prog GL (uA F) := .cons (aDa F) xAa (.cons (aPG F) xAa (.cons (uL F) xAa (.cons (aIo F) xAa (.cons (aKc F) xAa (.cons (aMx F) xAa (.nil))))))
attribute [go_sem] aMJ aKf
theorem aRk [Mx] (F : Md) : FOK Tryz.prog GL 67 (aCt F) := by
 refine bT (aT (aSx F)) mix Tryz.func67 rfl xAa xAc aKf fun w0 S x Θ hw h hF => ?_
 obtain ⟨(s_0 : qd), u⟩ := x
 simp only [bX, go_sem]
 replace h : sat (aDO F s_0) _ := h
 unfold aDO at h
 obtain ⟨v_5, hv, h⟩ := aN h
 try simp only [hv, go_sem]
 refine aEc h (fun hc h => ?_) fun hc h => ?_
 ·exact aK hF [.cell 2 128, .tmp 3] rfl rfl rfl (aE h) xAd
 ·obtain ⟨v_21, hv, h⟩ := aN h
  try simp only [hv, go_sem]
  obtain ⟨v_22, hv, h⟩ := aN h
  try simp only [hv, go_sem]
  obtain ⟨v_23, hv, h⟩ := aN h
  try simp only [hv, go_sem]
  refine bD h fun g0 h => ?_
  obtain ⟨v_24, hv, h⟩ := aN h
  try simp only [hv, go_sem]
  obtain ⟨v_25, hv, h⟩ := aN h
  try simp only [hv, go_sem]
  obtain ⟨v_27, hv, h⟩ := aN h
  try simp only [hv, go_sem]
  refine ⟨fun hc => ?_, fun hc => ?_⟩
  ·replace h := jH hc h
   exact aK hF [.cell 2 128, .tmp 3] rfl rfl rfl (aE h) xAd
  ·replace h := jI hc h
   exact aK hF [.cell 2 128, .tmp 3] rfl rfl rfl (aE h) xAd
attribute [go_sem] aCt
def mC (F : Md) (a_0 : qt) (b_1 : qt) (n_2 : Int) : Option Bool :=
 (aHX F n_2 (0 : Int)).bind (fun v_5 => (aFJ F b_1 v_5.1).bind (fun v_7 => ck ((v_7.2.1 = (0 : Int)) → ((aAN F a_0 v_7.1).isSome = true)) (some ((decide (v_7.2.1 = (0 : Int))) && (decide (((aAN F a_0 v_7.1).getD (0 : Int)) ≤ (0 : Int)))))))
def aIp : PlR := ⟨[(0, .B [2, 3, 4]), (1, .B [3, 4, 7]), (2, .B [3, 9, 10]), (3, .A [6])], []⟩
def aKg : Ty := .pair ql (.pair ql q9)
def aA1 (F : Md) : aI := mSpec aKg (.one .bool) (fun x => mC F x.1 x.2.1 x.2.2.1)
abbrev aCu (F : Md) : List (FuncId × aI) := [(110, (aFG F)), (111, (aDL F)), (69, (yE F))]
theorem aRl [Mx] (F : Md) : bJ Tryz.prog GL (aCu F) := .cons (aTm F) xAa (.cons (aSu F) xAa (.cons (aMD F) xAa (.nil)))
attribute [go_sem] aKg aIp
theorem aPM [Mx] (F : Md) : FOK Tryz.prog GL 70 (aA1 F) := by
 refine bT (aT (aRl F)) mix Tryz.func70 rfl xAa xAc aIp fun w0 S x Θ hw h hF => ?_
 obtain ⟨(a_0 : qt), (b_1 : qt), (n_2 : Int), u⟩ := x
 simp only [bX, go_sem]
 replace h : sat (mC F a_0 b_1 n_2) _ := h
 unfold mC at h
 obtain ⟨v_5, hv, h⟩ := aN h
 try simp only [hv, go_sem]
 obtain ⟨v_7, hv, h⟩ := aN h
 try simp only [hv, go_sem]
 refine bD h fun g0 h => ?_
 exact aK hF [.tmp 6] rfl rfl rfl (aE h) xAd
attribute [go_sem] aA1
end
end Nu
end Go.Proofs
