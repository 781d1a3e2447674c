import Derived.Test.YtcpnniahnmjnpaaGreatDoorZL6
import Derived.Test.YtcpnniahnmjnpaaGreatDoorProg
import Derived.KernelRfl
import Derived.Laws.Externs
set_option linter.unusedVariables false
set_option linter.unusedSimpArgs false
namespace Go.Proofs
open Go.Vc
set_option maxRecDepth 20000
namespace Nu
noncomputable section
theorem xAa {p : Prop} (h : p := by kernel_rfl) : p := h
theorem xAb {p : Prop} (h : p := by simp only [go_sem]) : p := h
theorem xAc {p : Prop} (h : p := by decide) : p := h
theorem xAd {p : Prop} (h : p := by simp only [aT, go_sem]) : p := h
theorem xAe {p : Prop} (h : p := by simp only [go_sem, dH F, dI F, dJ F]) : p := h
theorem xAf {p : Prop} (h : p := by simp only [aT, go_sem, dH F, dI F, dJ F]) : p := h
abbrev qd := List Nat
@[go_sem]abbrev qe : Ty := .i .i64
@[go_sem]abbrev qh : Mk := .pair .no (.pair (.sl 87 .no) (.pair (.sl 123 .no) (.pair (.sl 9 .no) (.pair (.sl 89 .no) .no))))
abbrev qo := Int × (Int × (qd × Unit))
abbrev qp := Int × Unit
@[go_sem]abbrev qr : Ty := .pair .str (.pair .expr .unit)
abbrev qt := Bool × (qd × qp)
abbrev qv := qd × (qd × Unit)
abbrev qw := List qd
@[go_sem]abbrev qx : Ty := .u .u64
abbrev qz := qd × (Ex × Unit)
@[go_sem]abbrev q9 : Ty := .pair qe .unit
abbrev wa := qd × (qv × (Ex × Unit))
abbrev wc := qd × (qv × Unit)
@[go_sem]abbrev we : Ty := .sl qx
@[go_sem]abbrev wg : Ty := .sl .str
@[go_sem]abbrev wh : Ty := .pair .str .unit
abbrev wj := Int × Int
@[go_sem]abbrev wl : Ty := .arr 2 qe
abbrev wm := Bool × Unit
@[go_sem]abbrev wn : Ty := .pair qx (.pair qx .unit)
abbrev wo := Int × qp
abbrev wq := List Bool
abbrev ws := qw × Unit
@[go_sem]abbrev wt : Ty := .pair .bool .unit
abbrev wu := List qz
abbrev ww := Int × (Unit × Unit)
@[go_sem]abbrev wx : Ty := .u .u8
abbrev wy := List Ex
@[go_sem]abbrev wz : Ty := .pair (.rp wg) .unit
abbrev qc := qd × ((List wa) × ((List wc) × (qw × (wu × Unit))))
@[go_sem]abbrev qg : Ty := .pair .str wh
abbrev qi := qd × wo
@[go_sem]abbrev qk : Ty := .pair qe (.pair qe wh)
@[go_sem]abbrev ql : Ty := .pair .bool (.pair we q9)
abbrev qm := qd × (qd × qv)
@[go_sem]abbrev qn : Ty := .pair qe q9
@[go_sem]abbrev qq : Ty := .pair .str (.pair qg (.pair .expr .unit))
@[go_sem]abbrev qs : Ty := .pair .str (.pair .str qg)
@[go_sem]abbrev qu : Ty := .pair .str (.pair qg .unit)
@[go_sem]abbrev qy : Ty := .pair .str qn
abbrev q8 := wo × Unit
abbrev wb := Ex × qi
abbrev wd := List qm
@[go_sem]abbrev wi : Ty := .pair qn .unit
@[go_sem]abbrev wk : Ty := .pair wx .unit
abbrev wv := List qc
@[go_sem]abbrev qa : Ty := .pair .str (.pair (.sl qq) (.pair (.sl qu) (.pair wg (.pair (.sl qr) .unit))))
abbrev qf := Int × (Int × (Int × (Int × (qd × (qd × (qd × (qd × (wv × (wd × Unit)))))))))
@[go_sem]abbrev qj : Ty := .pair qe (.pair qe (.pair qe (.pair qe (.pair .str (.pair .str (.pair .str (.pair .str (.pair (.sl qa) (.pair (.sl qs) .unit)))))))))
@[go_sem]theorem gam_in {a b : FuncId} {s : aI} {l : List (FuncId × aI)} : gam ((a, s) :: l) b = if a = b then some s else gam l b := rfl
structure Hq (p : Prop) : Prop where
 a : p
theorem yaA {p q : Prop} (a : q) (h : Hq q → p := by
 intro hq
 simp only [go_sem]
 exact hq.a) : p := h ⟨a⟩
theorem yaB {p q : Prop} (a : q) (h : Hq q → p := by
 intro hq
 simp only [go_sem]
 repeat (refine ⟨zAA, ?_⟩)
 exact hq.a) : p := h ⟨a⟩
theorem yaC {p q : Prop} (a : q) (h : Hq q → p := by
 intro hq
 simp only [ren, cQ, dB, posOf, bF, go_sem]
 exact hq.a) : p := h ⟨a⟩
theorem yaD {p q : Prop} (a : q) (h : Hq q → p := by
 intro hq
 repeat (refine ⟨zAA, ?_⟩)
 exact hq.a) : p := h ⟨a⟩
theorem yaE {p q : Prop} (a : q) (h : Hq q → p := by
 intro hq
 simp only [go_sem]
 repeat (refine ⟨zAD, ?_⟩)
 exact hq.a) : p := h ⟨a⟩
theorem yaF {p q : Prop} (h : p) (t : p → q := by
 intro h
 try dsimp only at h
 exact h) : q := t h
theorem zaA {p : Prop} (h : p := by
 subst hi
 simp only [go_sem]
 try (refine ⟨by decide, ?_⟩)
 unfold anyS
 intro i hi
 have hi : i = 4 := by revert hi; revert i; decide
 subst hi
 simp only [go_sem]
 try (refine ⟨by decide, ?_⟩)
 unfold anyS
 intro i hi
 have hi : i = 5 := by revert hi; revert i; decide
 subst hi
 simp only [go_sem]
 try (refine ⟨by decide, ?_⟩)
 (simp only [anyS, go_sem]) <;> first | exact ⟨rfl, rfl⟩ | trivial) : p := h
theorem zaB {p : Prop} (h : p := by
 (try simp only [aT, jE, jD, dP, cU, AV.isAgg, go_sem]) <;> first | trivial | rfl | (simp; done)) : p := h
theorem zaC {p : Prop} (h : p := by
 refine aL (aJ 1 rfl aH) (yaA ?_)
 refine bO [0, 1] rfl rfl (yaC ?_)
 refine aZ rfl rfl rfl rfl) : p := h
theorem zaD {p : Prop} (h : p := by
 exact aK hF [.tmp 4] rfl rfl rfl (aE h) xAd) : p := h
theorem zaE {p : Prop} (h : p := by
 refine fO h (fun hc h => ?_) fun hc h => ?_
 ·refine bD h fun g0 h => ?_
  refine bD h fun g0 h => ?_
  obtain ⟨v_28, hv, h⟩ := aO h
  try simp only [hv, go_sem]
  refine aEa h (fun hc h => ?_) fun hc h => ?_
  ·replace h := yaF (hE4 _ (aE h))
   exact aK hF [.tmp 6] rfl rfl rfl (aE h) xAd
  ·refine bD h fun g0 h => ?_
   replace h := hA4 _ (aE h)
   refine gT [] rfl rfl (yaA ?_)
   exact aY _ h rfl xAb
 ·replace h := yaF (hE4 _ (aE h))
  exact aK hF [.tmp 6] rfl rfl rfl (aE h) xAd) : p := h
theorem zaF {p : Prop} (h : p := by
 exact aK hF [.tmp 2] rfl rfl rfl (aE h) xAd) : p := h
theorem zaG {p : Prop} (h : p := by
 try (refine ⟨by decide, ?_⟩)
 unfold anyS
 intro i hi
 have hi : i = 2 ∨ i = 3 := by revert hi; revert i; decide
 rcases hi with rfl | rfl
 ·simp only [go_sem]
  try (refine ⟨by decide, ?_⟩)
  unfold anyS
  intro i hi
  have hi : i = 3 := by revert hi; revert i; decide
  exact zaA
 ·simp only [go_sem]
  try (refine ⟨by decide, ?_⟩)
  unfold anyS
  intro i hi
  have hi : i = 2 := by revert hi; revert i; decide
  exact zaA) : p := h
theorem zaH {p : Prop} (h : p := by
 obtain rfl := Option.some.inj h
 refine aN (bO [0] rfl rfl (yaC ?_))
 refine aL (aJ 0 rfl aH) ?_
 refine aZ rfl rfl rfl rfl) : p := h
theorem zaI {p : Prop} (h : p := by
 subst hi
 simp only [go_sem]
 skip
 unfold anyS
 intro i hi
 have hi : i = 4 := by revert hi; revert i; decide
 subst hi
 simp only [go_sem]
 skip
 (simp only [anyS, go_sem]) <;> first | exact ⟨rfl, rfl⟩ | trivial) : p := h
theorem zaJ {p : Prop} (h : p := by
 (repeat' apply And.intro) <;> first | trivial | rfl | with_reducible assumption | omega | (intros; first | with_reducible assumption | omega) | (simp; done) | (simp at *; omega)) : p := h
theorem zaK {p : Prop} (h : p := by
 exact aY _ h rfl xAb) : p := h
theorem zaL {p : Prop} (h : p := by
 obtain rfl := Option.some.inj h
 refine aN (aL (aJ 0 rfl aH) ?_)
 refine aZ rfl rfl rfl rfl) : p := h
theorem zaM {p : Prop} (h : p := by
 obtain rfl := Option.some.inj h
 refine aN (bW (aN (aL (kV 0 rfl aH) ?_)))
 exact zaC) : p := h
theorem zaN {p : Prop} (h : p := by
 obtain rfl := Option.some.inj h
 refine aN (bO [] rfl rfl (yaC ?_))
 refine aZ rfl rfl rfl rfl) : p := h
theorem zaO {p : Prop} (h : p := by
 obtain rfl := Option.some.inj h
 refine gF (dY hF [] rfl rfl rfl rfl rfl rfl ?_)
 exact zaB) : p := h
theorem zaP {p : Prop} (h : p := by
 refine fO h (fun hc h => ?_) fun hc h => ?_
 ·refine bD h fun g0 h => ?_
  obtain ⟨v_27, hv, h⟩ := aO h
  try simp only [hv, go_sem]
  refine aG4 h (fun hc h => ?_) fun hc h => ?_
  ·replace h := yaF (hE2 _ (aE h))
   exact zaD
  ·refine bD h fun g0 h => ?_
   replace h := hA2 _ (aE h)
   exact zaK
 ·replace h := yaF (hE2 _ (aE h))
  exact zaD) : p := h
theorem zaQ {p : Prop} (h : p := by
 first | (refine ⟨fun hx => by first | (exfalso; omega) | (exfalso; simp_all; done), fun _ => ?_⟩) | (with_reducible intro _) | skip
 repeat (refine ⟨zAA, ?_⟩)
 first | (refine ⟨fun hx => by first | (exfalso; omega) | (exfalso; simp_all; done), fun _ => ?_⟩) | (with_reducible intro _) | skip
 repeat (refine ⟨zAA, ?_⟩)
 exact zaL) : p := h
theorem zaR {p : Prop} (h : p := by
 try simp only [hv, go_sem]
 exact zaD) : p := h
theorem zaS {p : Prop} (h : p := by
 obtain rfl := Option.some.inj h
 refine aA (cD (jQ hF [.cell 2 27] [0] rfl rfl rfl rfl rfl rfl rfl rfl rfl ?_))
 exact zaB) : p := h
theorem zaT {p : Prop} (h : p := by
 obtain rfl := Option.some.inj h
 refine aN (bW (aN (aL (aJ 0 rfl aH) ?_)))
 exact zaC) : p := h
theorem zaU {p : Prop} (h : p := by
 subst hi
 simp only [go_sem]
 repeat (refine ⟨zAA, ?_⟩)
 unfold anyS
 intro i hi
 have hi : i = 3 := by revert hi; revert i; decide
 subst hi
 simp only [go_sem]
 repeat (refine ⟨zAA, ?_⟩)
 (simp only [anyS, go_sem]) <;> first | exact ⟨rfl, rfl⟩ | trivial) : p := h
theorem zaV {p : Prop} (h : p := by
 refine aA (aB (aF hF [2] (yaA ?_)))
 obtain rfl := Option.some.inj h
 refine aA (cD (dY hF [.tmp 2] rfl rfl rfl rfl rfl rfl ?_))
 exact zaB) : p := h
theorem zaW {p : Prop} (h : p := by
 try (refine ⟨by decide, ?_⟩)
 unfold anyS
 intro i hi
 have hi : i = 1 ∨ i = 3 := by revert hi; revert i; decide
 rcases hi with rfl | rfl
 ·simp only [go_sem]
  exact zaG
 ·simp only [go_sem]
  try (refine ⟨by decide, ?_⟩)
  unfold anyS
  intro i hi
  have hi : i = 1 := by revert hi; revert i; decide
  subst hi
  simp only [go_sem]
  try (refine ⟨by decide, ?_⟩)
  unfold anyS
  intro i hi
  have hi : i = 2 := by revert hi; revert i; decide
  exact zaA) : p := h
theorem zaX {p : Prop} (h : p := by
 unfold anyS
 intro i hi
 have hi : i = 0 ∨ i = 1 := by revert hi; revert i; decide
 rcases hi with rfl | rfl
 ·simp only [go_sem]
  exact zaW
 ·simp only [go_sem]
  try (refine ⟨by decide, ?_⟩)
  unfold anyS
  intro i hi
  have hi : i = 0 ∨ i = 2 := by revert hi; revert i; decide
  rcases hi with rfl | rfl
  ·simp only [go_sem]
   exact zaG
  ·simp only [go_sem]
   try (refine ⟨by decide, ?_⟩)
   unfold anyS
   intro i hi
   have hi : i = 0 := by revert hi; revert i; decide
   subst hi
   simp only [go_sem]
   try (refine ⟨by decide, ?_⟩)
   unfold anyS
   intro i hi
   have hi : i = 3 := by revert hi; revert i; decide
   exact zaA) : p := h
theorem zaY {p : Prop} (h : p := by
 obtain rfl := Option.some.inj h
 refine aN (aHY (aL (aJ 0 rfl aH) ?_))
 refine aL (aJ 1 rfl aH) ?_
 refine aL (aJ 2 rfl aH) (yaA ?_)
 refine aCb (fn := Tryz.f11) (k := 3) (l2 := [0, 1, 2]) hF rfl rfl xAc rfl (rM xAa) ⟨eR (((0 : Int), (0 : Int), ()), ()), [0, 1, 2], ()⟩ (vI (((0 : Int), (0 : Int), ()), ())) rfl [.cell 2 36, .cell 3 38, .cell 4 3] rfl ?_ ?_
 ·(simp only [eR, go_sem]) <;> first | decide | trivial
 ·(simp only [eR, aT, jC, go_sem]) <;> first | decide | trivial | rfl | (simp; done)) : p := h
theorem zaZ {p : Prop} (h : p := by
 refine ⟨fun hc => ?_, fun hc => ?_⟩
 ·replace h := iG hc h
  exact zaD
 ·replace h := iH hc h
  refine bD h fun g0 h => ?_
  refine ⟨fun hc => ?_, fun hc => ?_⟩
  ·replace h := iG hc h
   refine bD h fun g0 h => ?_
   obtain ⟨v_8, hv, h⟩ := aO h
   exact zaR
  ·replace h := iH hc h
   obtain ⟨v_13, hv, h⟩ := aO h
   try simp only [hv, go_sem]
   refine aG4 h (fun hc h => ?_) fun hc h => ?_
   ·obtain ⟨v_17, hv, h⟩ := aO h
    exact zaR
   ·exact aBi h) : p := h
theorem zaa {p : Prop} (h : p := by
 refine aL (aJ 0 rfl aH) ?_
 refine aZ rfl rfl rfl rfl) : p := h
theorem zab {p : Prop} (h : p := by
 refine aB (aF hF [0, 2] (yaA ?_))
 refine aA (aB (aB (aQw hF rfl rfl rfl fun b hb => ?_)))
 refine aA (bG rfl (fun hc => ?_) (fun hc => ?_))
 ·have hs := hb hc
  refine aB (aF hF [2] (yaA ?_))
  refine aA (cD (cR (jH hF [.tmp 2] rfl rfl rfl ?_)))
  simp only [jC, aT, go_sem, hs]
  try trivial
 ·refine cH (aA (aB (aS hF [2] (yaA ?_))))
  refine ⟨by omega, ?_⟩
  refine aA (cD (jH hF [.tmp 2] rfl rfl rfl ?_))
  simp only [jC, aT, go_sem]
  try trivial) : p := h
theorem zac {p : Prop} (h : p := by
 refine fO h (fun hc h => ?_) fun hc h => ?_
 ·obtain ⟨g0, h⟩ := aQ h
  obtain ⟨g1, h⟩ := aQ h
  repeat (refine ⟨zAA, ?_⟩)
  refine ⟨fun hc => ?_, fun hc => ?_⟩
  ·replace h := iG zAB h
   replace h := yaF (hE4 _ (aE h))
   exact zaD
  ·replace h := iH zAB h
   obtain ⟨g0, h⟩ := aQ h
   try simp only [I64, I32] at g0
   repeat (refine ⟨zAA, ?_⟩)
   replace h := hA4 _ (aE h)
   exact zaK
 ·replace h := yaF (hE4 _ (aE h))
  exact zaD) : p := h
theorem zad {p : Prop} (h : p := by
 obtain rfl := Option.some.inj h
 refine bW (aN (aL (aJ 0 rfl aH) ?_))
 exact zaC) : p := h
theorem zae {p : Prop} (h : p := by
 first | (refine ⟨fun hx => by first | (exfalso; omega) | (exfalso; simp_all; done), fun _ => ?_⟩) | (with_reducible intro _) | skip
 repeat (refine ⟨zAA, ?_⟩)
 first | (refine ⟨fun hx => by first | (exfalso; omega) | (exfalso; simp_all; done), fun _ => ?_⟩) | (with_reducible intro _) | skip
 repeat (refine ⟨zAA, ?_⟩)
 refine aA (aB (aF hF [2, 3] (yaA ?_)))
 obtain rfl := Option.some.inj h
 refine aA (cD (dY hF [.tmp 2, .tmp 3] rfl rfl rfl rfl rfl rfl ?_))
 exact zaB) : p := h
theorem zaf {p : Prop} (h : p := by
 refine gF (dY hF [] rfl rfl rfl rfl rfl rfl ?_)
 simp only [aT, jE, jD, go_sem]
 try decide) : p := h
theorem zag {p : Prop} (h : p := by
 simp only [go_sem]
 (repeat' apply And.intro) <;> try (first | trivial | rfl | with_reducible assumption | omega | (intros; first | with_reducible assumption | omega) | (simp; done) | (simp at *; omega))
 obtain rfl := Option.some.inj h
 dsimp only [mZ] at hs2
 have h := yaF (hs2)
 obtain rfl := Option.some.inj h
 refine bW (aN (bW (bO [0] rfl rfl (yaC ?_))))
 refine aL (aJ 0 rfl aH) ?_
 refine aZ rfl rfl rfl rfl) : p := h
theorem zah {p : Prop} (h : p := by
 obtain rfl := Option.some.inj h
 refine aL (aJ 0 rfl aH) ?_
 exact zaC) : p := h
theorem zai {p : Prop} (h : p := by
 skip
 unfold anyS
 intro i hi
 have hi : i = 2 ∨ i = 3 := by revert hi; revert i; decide
 rcases hi with rfl | rfl
 ·simp only [go_sem]
  skip
  unfold anyS
  intro i hi
  have hi : i = 3 := by revert hi; revert i; decide
  exact zaI
 ·simp only [go_sem]
  skip
  unfold anyS
  intro i hi
  have hi : i = 2 := by revert hi; revert i; decide
  exact zaI) : p := h
theorem zaj {p : Prop} (h : p := by
 obtain rfl := Option.some.inj h
 refine aN (bW (aL (aJ 0 rfl aH) ?_))
 exact zaC) : p := h
theorem zak {p : Prop} (h : p := by
 refine dY hF [] rfl rfl rfl rfl rfl rfl ?_
 exact zaB) : p := h
theorem zal {p : Prop} (h : p := by
 refine ⟨hq, ?_⟩
 refine aN ?_
 refine aCb (fn := Tryz.f147) (k := 2) (l2 := [0, 1]) hF' rfl rfl xAc rfl (rM xAa) ⟨oI q, [0, 1], ((false, ([] : List Nat), (0 : Int), ()), 0)⟩ (aG8 q) rfl [.cell 2 128, .cell 3 3] rfl ?_ ?_
 ·(simp only [oI, go_sem]) <;> first | decide | trivial
 ·(simp only [oI, aT, jC, go_sem]) <;> first | decide | trivial) : p := h
theorem zam {p : Prop} (h : p := by
 refine aB (aS hF [3, 4, 5, 6] (yaA ?_))
 refine aA (aB (aBh 0 rfl (yaA ?_)))
 refine aBh 1 rfl (yaA ?_)
 refine aBh 2 rfl (yaA ?_)
 refine aS hF [6, 7] (yaA ?_)
 obtain ⟨g0, h⟩ := aR h
 repeat (refine ⟨zAA, ?_⟩)
 obtain rfl := Option.some.inj h
 refine aA (cD (jH hF [.cell 6 128, .tmp 7] rfl rfl rfl ?_))
 exact zAG) : p := h
theorem zan {p : Prop} (h : p := by
 first | (refine ⟨fun hx => by first | (exfalso; omega) | (exfalso; simp_all; done), fun _ => ?_⟩) | (with_reducible intro _) | skip
 repeat (refine ⟨zAA, ?_⟩)
 first | (refine ⟨fun hx => by first | (exfalso; omega) | (exfalso; simp_all; done), fun _ => ?_⟩) | (with_reducible intro _) | skip
 repeat (refine ⟨zAA, ?_⟩)
 exact zaN) : p := h
theorem zao {p : Prop} (h : p := by
 have h := eB zAB h
 refine aB (aF hF [2] (yaA ?_))
 obtain rfl := Option.some.inj h
 refine aA (cD (gE (cR (jH hF [.tmp 2] rfl rfl rfl ?_))))
 exact zAG) : p := h
theorem zap {p : Prop} (h : p := by
 refine ⟨hq, ?_⟩
 refine aA (cD ?_)
 refine aNP (fn := Tryz.f147) (k := 2) (l2 := [0, 1]) hF' rfl rfl xAc rfl (rM xAa) ⟨oH, [0, 1], (q, 0)⟩ aG7 rfl [.cell 2 128, .cell 3 3] rfl ?_ ?_
 ·(simp only [oH, go_sem]) <;> first | decide | trivial
 ·(simp only [oH, aT, jC, go_sem]) <;> first | decide | trivial) : p := h
theorem zaq {p : Prop} (h : p := by
 exact aK hF [.tmp 2, .tmp 3, .tmp 4] rfl rfl rfl (aE h) xAd) : p := h
theorem zar {p : Prop} (h : p := by
 have h := eB zAB h
 refine aB (aS hF [8] (yaA ?_))
 obtain rfl := Option.some.inj h
 dsimp only [mZ] at hs2
 have h := yaF (hs2)
 obtain rfl := Option.some.inj h
 refine aA (cD (cR (gE (cR (gE (jQ hF [.cell 8 27] [0] rfl rfl rfl rfl rfl rfl rfl rfl rfl ?_))))))
 exact zaB) : p := h
theorem zas {p : Prop} (h : p := by
 refine ⟨fun _ => (yaD ?_), fun hx => by first | (exfalso; omega) | (exfalso; simp_all; done)⟩
 refine ⟨fun _ => (yaD ?_), fun hx => by first | (exfalso; omega) | (exfalso; simp_all; done)⟩
 refine ⟨fun _ => (yaD ?_), fun hx => by first | (exfalso; omega) | (exfalso; simp_all; done)⟩
 exact zaL) : p := h
theorem zat {p : Prop} (h : p := by
 obtain rfl := Option.some.inj h
 refine aL (kV 0 rfl aH) ?_
 exact zaC) : p := h
theorem zau {p : Prop} (h : p := by
 refine aA (aB (aC hF (aG (l := [(53, ⟨bM F, [0], (o0_1, .inr p_8)⟩)]) (.cons (bR F) xAa (.nil))) [0, 3] [] (yaB ?_)))
 exact zaL) : p := h
theorem zav {p : Prop} (h : p := by
 exact aY _ h rfl (by (try simp only [lY, dP, true_or, and_self, go_sem]) <;> (repeat' apply And.intro) <;> first | rfl | (left; rfl) | (right; rfl) | (left; simp only [go_sem]; done) | (right; simp only [go_sem]; done) | (simp; done) | (simp only [*]; done) | omega)) : p := h
theorem zaw {p : Prop} (h : p := by
 have h := eC zAB h
 obtain rfl := Option.some.inj h
 refine cH (gF (dY hF [] rfl rfl rfl rfl rfl rfl ?_))
 exact zaB) : p := h
theorem zax {p : Prop} (h : p := by
 obtain rfl := Option.some.inj h
 refine aA (cD (jQ hF [.cell 3 128] [] rfl rfl rfl rfl rfl rfl rfl rfl rfl ?_))
 exact zaB) : p := h
theorem zay {p : Prop} (h : p := by
 obtain rfl := Option.some.inj h
 refine bW (aL (aJ 0 rfl aH) ?_)
 exact zaC) : p := h
theorem zaz {p : Prop} (h : p := by
 obtain ⟨g0, h⟩ := aQ h
 obtain ⟨g1, h⟩ := aQ h
 repeat (refine ⟨zAA, ?_⟩)
 obtain ⟨g0, h⟩ := aQ h
 try simp only [I64, I32] at g0
 repeat (refine ⟨zAA, ?_⟩)
 replace h := hA7 _ (aE h)
 exact zaK) : p := h
theorem za0 {p : Prop} (h : p := by
 simp only [go_sem]
 refine aB (aF hF [0, 1, 2, 3, 10] (yaA ?_))
 refine aA (bG rfl (fun hc => absurd hc xAc) (fun hc => ?_))
 refine cH ?_
 refine gT [0, 1, 2] rfl rfl (yaC ?_)
 exact zaf) : p := h
theorem za1 {p : Prop} (h : p := by
 try simp only [hv, go_sem]
 refine bD h fun g0 h => ?_
 exact zaF) : p := h
theorem za2 {p : Prop} (h : p := by
 obtain rfl := Option.some.inj h
 exact zaa) : p := h
theorem za3 {p : Prop} (h : p := by
 refine ⟨fun _ => (yaD ?_), fun hx => by first | (exfalso; omega) | (exfalso; simp_all; done)⟩
 refine ⟨fun _ => (yaD ?_), fun hx => by first | (exfalso; omega) | (exfalso; simp_all; done)⟩
 exact zaN) : p := h
theorem za4 {p : Prop} (h : p := by
 obtain rfl := Option.some.inj h
 refine aA (cD (jH hF [.tmp 2] rfl rfl rfl ?_))
 exact zAG) : p := h
theorem za5 {p : Prop} (h : p := by
 refine aG4 h (fun hc h => ?_) fun hc h => ?_
 ·exact aK hF [.tmp 2] rfl rfl rfl (aE h) xAd
 ·exact aK hF [.tmp 2] rfl rfl rfl (aE h) xAd) : p := h
theorem zAA {p : Prop} (h : p := by first | with_reducible assumption | omega | (intros; first | with_reducible assumption | omega) | (simp only [go_sem] at *; first | with_reducible assumption | omega) | (intro _; exact ⟨rfl, by decide⟩) | (intro _; refine (?_ : _ = aD _); rfl) | (refine (?_ : _ = aD _); rfl) | exact ⟨rfl, rfl⟩ | decide) : p := h
theorem zAB {p : Prop} (h : p := by first | exact hc | omega | (simpa using hc) | (simp at hc ⊢; omega)) : p := h
theorem zAC {p : Prop} (h : p := by first | with_reducible assumption | omega | (intros; first | with_reducible assumption | omega) | (simp only [go_sem] at *; first | with_reducible assumption | omega) | (intro _; exact ⟨rfl, by decide⟩) | (intro _; refine (?_ : _ = aD _); rfl) | (refine (?_ : _ = aD _); rfl) | exact ⟨rfl, rfl⟩ | (intro q0; (try have e0 := g0 (by first | exact q0 | omega | (simpa using q0))); first | assumption | omega) | decide) : p := h
theorem zAD {p : Prop} (h : p := by first | with_reducible assumption | omega | (intros; first | with_reducible assumption | omega) | (simp only [go_sem] at *; first | with_reducible assumption | omega) | (intro _; exact ⟨rfl, by decide⟩) | (intro _; refine (?_ : _ = aD _); rfl) | (refine (?_ : _ = aD _); rfl) | exact ⟨rfl, rfl⟩ | decide | ((repeat' apply And.intro) <;> first | assumption | rfl | omega) | fail) : p := h
theorem zAE {p : Prop} (h : p := by first | with_reducible assumption | omega | (intros; first | with_reducible assumption | omega) | (simp only [go_sem] at *; first | with_reducible assumption | omega) | (intro _; exact ⟨rfl, by decide⟩) | (intro _; refine (?_ : _ = aD _); rfl) | (refine (?_ : _ = aD _); rfl) | exact ⟨rfl, rfl⟩ | (intro q0; (try have e0 := g0 (by first | exact q0 | omega | (simpa using q0))); (try have e1 := g1 (by first | exact q0 | omega | (simpa using q0))); first | assumption | omega) | decide) : p := h
theorem zAF {p : Prop} (h : p := by (try simp only [lY, dP, true_or, and_self, go_sem]) <;> (repeat' apply And.intro) <;> first | rfl | (left; rfl) | (right; rfl) | (left; simp only [go_sem]; done) | (right; simp only [go_sem]; done) | (simp; done) | (simp only [*]; done) | omega) : p := h
theorem zAG {p : Prop} (h : p := by (try simp only [jC, aT, go_sem]) <;> first | rfl | (simp; done)) : p := h
def aWa : List Nat := [0, 1, 56, 2, 57, 49, 28, 3, 61, 58, 42, 50, 38, 29, 17, 4, 62, 47, 59, 36, 45, 43, 51, 22, 53, 39, 33, 30, 24, 18, 12, 5, 63, 55, 48, 27, 60, 41, 37, 16, 46, 35, 44, 21, 52, 32, 23, 11, 54, 26, 40, 15, 34, 20, 31, 10, 25, 14, 19, 9, 13, 8, 7, 6]
theorem aW8 : aWa = [0, 1, 56, 2, 57, 49, 28, 3, 61, 58, 42, 50, 38, 29, 17, 4, 62, 47, 59, 36, 45, 43, 51, 22, 53, 39, 33, 30, 24, 18, 12, 5, 63, 55, 48, 27, 60, 41, 37, 16, 46, 35, 44, 21, 52, 32, 23, 11, 54, 26, 40, 15, 34, 20, 31, 10, 25, 14, 19, 9, 13, 8, 7, 6] := rfl
def p10 : List Nat := [1, 10, 100, 1000, 10000, 100000, 1000000, 10000000, 100000000, 1000000000, 10000000000, 100000000000, 1000000000000, 10000000000000, 100000000000000, 1000000000000000, 10000000000000000, 100000000000000000, 1000000000000000000, 10000000000000000000]
theorem aXM : p10 = [1, 10, 100, 1000, 10000, 100000, 1000000, 10000000, 100000000, 1000000000, 10000000000, 100000000000, 1000000000000, 10000000000000, 100000000000000, 1000000000000000, 10000000000000000, 100000000000000000, 1000000000000000000, 10000000000000000000] := rfl
class Mx where
 v : Int
def GL [Mx] : Nat → AV
 | 7 => .roa (.arr 64 wx) aWa
 | 8 => .roa (.arr 20 qx) p10
 | 0 => .roa qe Mx.v
 | _ => .junk
theorem GL0 [Mx] : GL 7 = .roa (.arr 64 wx) aWa := rfl
theorem GL3 [Mx] : GL 8 = .roa (.arr 20 qx) p10 := rfl
theorem GLm [Mx] : GL 0 = .roa qe Mx.v := rfl
attribute [go_sem] GLm GL0 GL3 mSpec
def tab : List (TypeId × Ty) := [(201, .clo 153 .unit), (2, .i .i64), (3, .i .i64), (4, .bool), (5, .u .u8), (9, .str), (21, .i .i32), (22, .sl qe), (24, .u .u64), (25, .sl .expr), (27, .expr), (32, .sl .str), (33, .sl qa), (34, .sl qs), (36, .pair qe (.pair qe (.pair qe (.pair qe (.pair .str (.pair .str (.pair .str (.pair .str (.pair (.sl qa) (.pair (.sl qs) .unit)))))))))), (38, .pair qe q9), (49, .sl qq), (50, .sl qu), (51, .sl qr), (53, .pair .str (.pair (.sl qq) (.pair (.sl qu) (.pair wg (.pair (.sl qr) .unit))))), (56, .pair qe .unit), (60, .pair .str qn), (65, .pair qn .unit), (73, .pair qe (.pair qe wh)), (83, .pair .str (.pair .str qg)), (85, .pair .str wh), (87, .pair .str (.pair qg (.pair .expr .unit))), (89, .pair .str (.pair .expr .unit)), (96, .arr 2 qe), (102, .arr 256 (.bool)), (123, .pair .str (.pair qg .unit)), (125, .sl ql), (126, .sl qx), (128, .pair .bool (.pair we q9)), (149, .nilf), (157, .nili), (169, .u .u64), (174, .sl wg), (194, .sl wx), (208, .u .u32), (212, .i .i64), (219, .pair qe .unit), (223, .arr 256 wx), (225, .pair wx wk), (226, .arr 16 (.pair wx wk)), (239, .pair .str .unit), (240, .arr 64 wx), (242, .arr 24 wx), (246, .arr 20 qx), (247, .arr 65 wx), (250, .arr 32 wx)]
def elT : TypeId → TypeId
 | 22 => 3
 | 25 => 27
 | 32 => 9
 | 33 => 53
 | 34 => 83
 | 49 => 87
 | 50 => 123
 | 51 => 89
 | 125 => 128
 | 126 => 169
 | 174 => 32
 | 194 => 5
 | _ => 0
def mpT : TypeId → Option (TypeId × TypeId)
 | 90 => some (9, 9)
 | 110 => some (9, 3)
 | 142 => some (9, 4)
 | _ => none
theorem aSi : kH Tryz.prog (aIb tab) := aUR xAa
theorem aXZ : ∀ t ct, aIb tab t = some (.sl ct) → Tryz.prog.underlying t = some (.slice (elT t)) := aWF xAa
theorem aX0 : ∀ t k e, mpT t = some (k, e) → Tryz.prog.underlying t = some (.map k e) := by
 intro t k e h
 unfold mpT at h
 split at h
 ·cases h; rfl
 ·cases h; rfl
 ·cases h; rfl
 ·cases h
def TM : Tab := aIb tab
def EM [Mx] (l : List (FuncId × aI)) : Env := ⟨TM, GL, fun f _ => gam l f, elT, mpT, fun _ => none, fun _ => false⟩
def dmT : TypeId → Option Mk
 | 32 => some .no
 | 33 => some qh
 | 34 => some .no
 | 49 => some .no
 | 50 => some .no
 | 51 => some .no
 | _ => none
def dzT : TypeId → Bool
 | 36 => true
 | 53 => true
 | _ => false
def EX [Mx] (l : List (FuncId × aI)) : Env := ⟨TM, GL, fun f _ => gam l f, elT, mpT, dmT, dzT⟩
theorem aYg [Mx] (l : List (FuncId × aI)) (t : TypeId) : (EM l).T t = TM t := rfl
theorem aYh [Mx] (l : List (FuncId × aI)) (t : Nat) : (EM l).G t = GL t := rfl
theorem aYi [Mx] (l : List (FuncId × aI)) (f : FuncId) (vs : List AV) : (EM l).Γ f vs = gam l f := rfl
theorem aX1 [Mx] (l : List (FuncId × aI)) (t : TypeId) : (EM l).el t = elT t := rfl
theorem aX2 [Mx] (l : List (FuncId × aI)) (t : TypeId) : (EM l).mp t = mpT t := rfl
theorem aU [Mx] {l : List (FuncId × aI)} (h : bJ Tryz.prog GL l) : gV Tryz.prog (EM l) := aR0 aSi aXZ aX0 h
theorem mix : Tryz.prog.follows .mixedOrders = true := by kernel_rfl
theorem aX3 [Mx] (l : List (FuncId × aI)) (t : TypeId) : (EM l).dm t = none := rfl
theorem aX4 [Mx] (l : List (FuncId × aI)) (t : TypeId) : (EM l).dz t = false := rfl
theorem aYj [Mx] (l : List (FuncId × aI)) (t : TypeId) : (EX l).T t = TM t := rfl
theorem aYk [Mx] (l : List (FuncId × aI)) (t : Nat) : (EX l).G t = GL t := rfl
theorem aYl [Mx] (l : List (FuncId × aI)) (f : FuncId) (vs : List AV) : (EX l).Γ f vs = gam l f := rfl
theorem aX5 [Mx] (l : List (FuncId × aI)) (t : TypeId) : (EX l).el t = elT t := rfl
theorem aX6 [Mx] (l : List (FuncId × aI)) (t : TypeId) : (EX l).mp t = mpT t := rfl
theorem aX7 [Mx] (l : List (FuncId × aI)) (t : TypeId) : (EX l).dm t = dmT t := rfl
theorem aX8 [Mx] (l : List (FuncId × aI)) (t : TypeId) : (EX l).dz t = dzT t := rfl
theorem aMh [Mx] {l : List (FuncId × aI)} (h : bJ Tryz.prog GL l) : gV Tryz.prog (EX l) := aR0 aSi aXZ aX0 h
attribute [go_sem] aX3 aX4 aYj aYk aYl aX5 aX6 aX7 aX8 dmT dzT
theorem T2 : TM 2 = some qe := rfl
theorem T3 : TM 3 = some qe := rfl
theorem T4 : TM 4 = some (.bool) := rfl
theorem T5 : TM 5 = some wx := rfl
theorem T9 : TM 9 = some (.str) := rfl
theorem T21 : TM 21 = some (.i .i32) := rfl
theorem T22 : TM 22 = some (.sl qe) := rfl
theorem T24 : TM 24 = some qx := rfl
theorem T25 : TM 25 = some (.sl .expr) := rfl
theorem T27 : TM 27 = some (.expr) := rfl
theorem T32 : TM 32 = some wg := rfl
theorem T33 : TM 33 = some (.sl qa) := rfl
theorem T34 : TM 34 = some (.sl qs) := rfl
theorem T36 : TM 36 = some qj := rfl
theorem T38 : TM 38 = some qn := rfl
theorem T49 : TM 49 = some (.sl qq) := rfl
theorem T50 : TM 50 = some (.sl qu) := rfl
theorem T51 : TM 51 = some (.sl qr) := rfl
theorem T53 : TM 53 = some qa := rfl
theorem T56 : TM 56 = some q9 := rfl
theorem T60 : TM 60 = some qy := rfl
theorem T65 : TM 65 = some wi := rfl
theorem T73 : TM 73 = some qk := rfl
theorem T83 : TM 83 = some qs := rfl
theorem T85 : TM 85 = some qg := rfl
theorem T87 : TM 87 = some qq := rfl
theorem T89 : TM 89 = some qr := rfl
theorem T96 : TM 96 = some wl := rfl
theorem aYm : TM 102 = some (.arr 256 (.bool)) := rfl
theorem aYn : TM 123 = some qu := rfl
theorem aYo : TM 125 = some (.sl ql) := rfl
theorem aYp : TM 126 = some we := rfl
theorem aYq : TM 128 = some ql := rfl
theorem aYr : TM 149 = some (.nilf) := rfl
theorem aYs : TM 157 = some (.nili) := rfl
theorem aYt : TM 169 = some qx := rfl
theorem aYu : TM 174 = some (.sl wg) := rfl
theorem aYv : TM 194 = some (.sl wx) := rfl
theorem aYw : TM 208 = some (.u .u32) := rfl
theorem aYx : TM 212 = some qe := rfl
theorem aYy : TM 219 = some q9 := rfl
theorem aYz : TM 223 = some (.arr 256 wx) := rfl
theorem aYA : TM 225 = some (.pair wx wk) := rfl
theorem aYB : TM 226 = some (.arr 16 (.pair wx wk)) := rfl
theorem aYC : TM 239 = some wh := rfl
theorem aYD : TM 240 = some (.arr 64 wx) := rfl
theorem aYE : TM 242 = some (.arr 24 wx) := rfl
theorem aYF : TM 246 = some (.arr 20 qx) := rfl
theorem aYG : TM 247 = some (.arr 65 wx) := rfl
theorem aYH : TM 250 = some (.arr 32 wx) := rfl
theorem aYI : TM 201 = some (.clo 153 .unit) := rfl
attribute [go_sem] aYg aYh aYi aX1 aX2 elT mpT aYI T2 T3 T4 T5 T9 T21 T22 T24 T25 T27 T32 T33 T34 T36 T38 T49 T50 T51 T53 T56 T60 T65 T73 T83 T85 T87 T89 T96 aYm aYn aYo aYp aYq aYr aYs aYt aYu aYv aYw aYx aYy aYz aYA aYB aYC aYD aYE aYF aYG aYH
end
end Nu
end Go.Proofs
namespace Go.Proofs
open Go.Vc
set_option maxRecDepth 20000
namespace Nu
noncomputable section
def aFt (x y c : Nat) : Nat × Nat × Unit := ((x + y + c) % 18446744073709551616, (x + y + c) / 18446744073709551616, ())
abbrev aQ7 (x y c : Nat) : Prop := c ≤ 1
def aJM : Ty := .pair qx wn
def sV : aI := ⟨aJM, .tup wn, fun x => aQ7 x.1 x.2.1 x.2.2.1, fun x => aFt x.1 x.2.1 x.2.2.1⟩
attribute [go_sem] sV aJM
theorem aQ8 {w : World} {S : Nat → Prop} {x : Nat} {v : Value} (h : dA w S qx x v) : v = .int .u64 (x : Int) := by
 unfold dA at h
 rw [if_neg (by simp [Ty.isAgg])] at h
 simp only [bC, List.cons.injEq, and_true] at h
 exact h.1
theorem aS7 {w : World} {S : Nat → Prop} {vs : List Value} {x : Nat × Nat × Nat × Unit} (h : oP w S (.pair qx wn) x vs) : vs = [.int .u64 (x.1 : Int), .int .u64 (x.2.1 : Int), .int .u64 (x.2.2.1 : Int)] := by
 obtain ⟨v1, r1, rfl, h1, v2, r2, rfl, h2, v3, r3, rfl, h3, h4⟩ := h
 rw [aQ8 h1, aQ8 h2, aQ8 h3]
 have h4 : r3 = [] := h4
 rw [h4]
theorem aWb {w : World} {S : Nat → Prop} {x : Nat} (h : x < 18446744073709551616) : dA w S qx x (.int .u64 (x : Int)) := by
 unfold dA
 rw [if_neg (by simp [Ty.isAgg])]
 refine ⟨rfl, rfl, ?_⟩
 simp [IntKind.max, IntKind.signed, IntKind.bits]; omega
theorem aWc {w : World} {S : Nat → Prop} {x y : Nat} (hx : x < 18446744073709551616) (hy : y < 18446744073709551616) : oP w S wn (x, y, ()) [.int .u64 (x : Int), .int .u64 (y : Int)] :=
 ⟨_, _, rfl, aWb hx, _, _, rfl, aWb hy, rfl⟩
theorem wf_u64 {x : Nat} (h : (Ty.u .u64).wf x) : x < 18446744073709551616 := by
 simp only [Ty.wf, IntKind.max, IntKind.signed, IntKind.bits] at h
 simp at h; omega
theorem aIf [Mx] : NOK Tryz.prog GL 144 sV := by
 refine aXA fun w S vs x ha hp => ?_
 have hp : x.2.2.1 ≤ 1 := hp
 have hw := aJG _ _ _ ha
 obtain ⟨h1, h2, h3, _⟩ := hw
 have h1 := wf_u64 h1
 have h2 := wf_u64 h2
 rw [aS7 ha]
 refine ⟨[.int .u64 (((x.1 + x.2.1 + x.2.2.1) % 18446744073709551616 : Nat) : Int), .int .u64 (((x.1 + x.2.1 + x.2.2.1) / 18446744073709551616 : Nat) : Int)], ?_, aWc (by omega) (by omega)⟩
 rw [run_callFunc_extern Tryz.func144 xAa xAa xAa (e := add64Entry) xAa, run_add64 x.1 x.2.1 x.2.2.1 (by omega) (by omega) (by omega) (by omega)]
 simp only [Result.andThen]
 congr 5 <;> omega
abbrev aWd (s : List Nat) : Prop := s.length * 8 ≤ 140737488355328
def tF : Ty := .pair we .unit
def dC : aI := ⟨tF, .own 169 qx, fun x => aWd x.1, fun x => id x.1⟩
attribute [go_sem] dC tF
abbrev aAs (F : Md) : List (FuncId × aI) := []
theorem aAt [Mx] (F : Md) : bJ Tryz.prog GL (aAs F) := .nil
theorem nQ [Mx] : FOK Tryz.prog GL 135 dC := by
 refine aSR (aU (aAt none)) Tryz.func135 rfl xAa xAc fun w0 S x hw hp => ?_
 have hF : fT (fr Tryz.prog (EM (aAs none)) S w0 Tryz.f135.ntmps) := ⟨aU (aAt none), mix⟩
 obtain ⟨(s : qd), u⟩ := x
 have hp : s.length * 8 ≤ 140737488355328 := hp
 simp only [bX, tF, dC]
 exact zab
end
end Nu
end Go.Proofs
namespace Go.Proofs
open Go.Vc
set_option maxRecDepth 20000
namespace Nu
noncomputable section
set_option maxHeartbeats 4000000
def aFu : ByteArray := ⟨⟨0 :: 1 :: 2 :: 2 :: 3 :: 3 :: 3 :: 3 :: 4 :: 4 :: 4 :: 4 :: 4 :: 4 :: 4 :: 4 :: 5 :: 5 :: 5 :: 5 :: 5 :: 5 :: 5 :: 5 :: 5 :: 5 :: 5 :: 5 :: 5 :: 5 :: 5 :: 5 :: 6 :: 6 :: 6 :: 6 :: 6 :: 6 :: 6 :: 6 :: 6 :: 6 :: 6 :: 6 :: 6 :: 6 :: 6 :: 6 :: 6 :: 6 :: 6 :: 6 :: 6 :: 6 :: 6 :: 6 :: 6 :: 6 :: 6 :: 6 :: 6 :: 6 :: 6 :: 6 :: 7 :: 7 :: 7 :: 7 :: 7 :: 7 :: 7 :: 7 :: 7 :: 7 :: 7 :: 7 :: 7 :: 7 :: 7 :: 7 :: 7 :: 7 :: 7 :: 7 :: 7 :: 7 :: 7 :: 7 :: 7 :: 7 :: 7 :: 7 :: 7 :: 7 :: 7 :: 7 :: 7 :: 7 :: 7 :: 7 :: 7 :: 7 :: 7 :: 7 :: 7 :: 7 :: 7 :: 7 :: 7 :: 7 :: 7 :: 7 :: 7 :: 7 :: 7 :: 7 :: 7 :: 7 :: 7 :: 7 :: 7 :: 7 :: 7 :: 7 :: 7 :: 7 :: 7 :: 7 :: 8 :: 8 :: 8 :: 8 :: 8 :: 8 :: 8 :: 8 :: 8 :: 8 :: 8 :: 8 :: 8 :: 8 :: 8 :: 8 :: 8 :: 8 :: 8 :: 8 :: 8 :: 8 :: 8 :: 8 :: 8 :: 8 :: 8 :: 8 :: 8 :: 8 :: 8 :: 8 :: 8 :: 8 :: 8 :: 8 :: 8 :: 8 :: 8 :: 8 :: 8 :: 8 :: 8 :: 8 :: 8 :: 8 :: 8 :: 8 :: 8 :: 8 :: 8 :: 8 :: 8 :: 8 :: 8 :: 8 :: 8 :: 8 :: 8 :: 8 :: 8 :: 8 :: 8 :: 8 :: 8 :: 8 :: 8 :: 8 :: 8 :: 8 :: 8 :: 8 :: 8 :: 8 :: 8 :: 8 :: 8 :: 8 :: 8 :: 8 :: 8 :: 8 :: 8 :: 8 :: 8 :: 8 :: 8 :: 8 :: 8 :: 8 :: 8 :: 8 :: 8 :: 8 :: 8 :: 8 :: 8 :: 8 :: 8 :: 8 :: 8 :: 8 :: 8 :: 8 :: 8 :: 8 :: 8 :: 8 :: 8 :: 8 :: 8 :: 8 :: 8 :: 8 :: 8 :: 8 :: 8 :: 8 :: 8 :: 8 :: 8 :: 8 :: 8 :: 8 :: 8 :: 8 :: 8 :: 8 :: []⟩⟩
@[go_sem]theorem aPE : (⟨⟨0 :: 1 :: 2 :: 2 :: 3 :: 3 :: 3 :: 3 :: 4 :: 4 :: 4 :: 4 :: 4 :: 4 :: 4 :: 4 :: 5 :: 5 :: 5 :: 5 :: 5 :: 5 :: 5 :: 5 :: 5 :: 5 :: 5 :: 5 :: 5 :: 5 :: 5 :: 5 :: 6 :: 6 :: 6 :: 6 :: 6 :: 6 :: 6 :: 6 :: 6 :: 6 :: 6 :: 6 :: 6 :: 6 :: 6 :: 6 :: 6 :: 6 :: 6 :: 6 :: 6 :: 6 :: 6 :: 6 :: 6 :: 6 :: 6 :: 6 :: 6 :: 6 :: 6 :: 6 :: 7 :: 7 :: 7 :: 7 :: 7 :: 7 :: 7 :: 7 :: 7 :: 7 :: 7 :: 7 :: 7 :: 7 :: 7 :: 7 :: 7 :: 7 :: 7 :: 7 :: 7 :: 7 :: 7 :: 7 :: 7 :: 7 :: 7 :: 7 :: 7 :: 7 :: 7 :: 7 :: 7 :: 7 :: 7 :: 7 :: 7 :: 7 :: 7 :: 7 :: 7 :: 7 :: 7 :: 7 :: 7 :: 7 :: 7 :: 7 :: 7 :: 7 :: 7 :: 7 :: 7 :: 7 :: 7 :: 7 :: 7 :: 7 :: 7 :: 7 :: 7 :: 7 :: 7 :: 7 :: 8 :: 8 :: 8 :: 8 :: 8 :: 8 :: 8 :: 8 :: 8 :: 8 :: 8 :: 8 :: 8 :: 8 :: 8 :: 8 :: 8 :: 8 :: 8 :: 8 :: 8 :: 8 :: 8 :: 8 :: 8 :: 8 :: 8 :: 8 :: 8 :: 8 :: 8 :: 8 :: 8 :: 8 :: 8 :: 8 :: 8 :: 8 :: 8 :: 8 :: 8 :: 8 :: 8 :: 8 :: 8 :: 8 :: 8 :: 8 :: 8 :: 8 :: 8 :: 8 :: 8 :: 8 :: 8 :: 8 :: 8 :: 8 :: 8 :: 8 :: 8 :: 8 :: 8 :: 8 :: 8 :: 8 :: 8 :: 8 :: 8 :: 8 :: 8 :: 8 :: 8 :: 8 :: 8 :: 8 :: 8 :: 8 :: 8 :: 8 :: 8 :: 8 :: 8 :: 8 :: 8 :: 8 :: 8 :: 8 :: 8 :: 8 :: 8 :: 8 :: 8 :: 8 :: 8 :: 8 :: 8 :: 8 :: 8 :: 8 :: 8 :: 8 :: 8 :: 8 :: 8 :: 8 :: 8 :: 8 :: 8 :: 8 :: 8 :: 8 :: 8 :: 8 :: 8 :: 8 :: 8 :: 8 :: 8 :: 8 :: 8 :: 8 :: 8 :: 8 :: 8 :: 8 :: 8 :: 8 :: []⟩⟩ : ByteArray) = aFu := rfl
def sJ (F : Md) (x_6 : Nat) (n_7 : Int) : Option (Int) :=
 ck (0 ≤ (((x_6 % 256) : Nat) : Int) ∧ (((x_6 % 256) : Nat) : Int) < (((aP aFu).length : Nat) : Int)) (ck (I64 (n_7 + ((((aP aFu).getD (x_6 % 256) (0 : Nat)) : Nat) : Int))) (some (n_7 + ((((aP aFu).getD (x_6 % 256) (0 : Nat)) : Nat) : Int))))
def sK (F : Md) (x_4 : Nat) (n_5 : Int) : Option (Int) :=
 if (256 : Nat) ≤ x_4 then ck (I64 (n_5 + (8 : Int))) (sJ F (x_4 / (256 : Nat)) (n_5 + (8 : Int))) else sJ F x_4 n_5
def sL (F : Md) (x_2 : Nat) (n_3 : Int) : Option (Int) :=
 if (65536 : Nat) ≤ x_2 then ck (I64 (n_3 + (16 : Int))) (sK F (x_2 / (65536 : Nat)) (n_3 + (16 : Int))) else sK F x_2 n_3
def aCd (F : Md) (x_0 : Nat) : Option Int :=
 if (4294967296 : Nat) ≤ x_0 then sL F (x_0 / (4294967296 : Nat)) (32 : Int) else sL F x_0 (0 : Int)
def aIg : PlR := ⟨[(0, .A [0, 2]), (1, .A [0, 2, 4]), (2, .A [0]), (3, .A [0, 2]), (4, .A [0, 2, 8]), (5, .A [0, 2]), (6, .A [0, 2]), (7, .A [0, 2, 14]), (8, .A [0, 2]), (9, .A [0, 2]), (10, .A [2])], [(4, 7), (7, 10), (10, 13)]⟩
def aJN : Ty := .pair qx .unit
def aAU (F : Md) : aI := mSpec aJN (.one qe) (fun x => aCd F x.1)
abbrev aQ9 (F : Md) : List (FuncId × aI) := []
theorem aRa [Mx] (F : Md) : bJ Tryz.prog GL (aQ9 F) := .nil
attribute [go_sem] aJN aIg
theorem aPF [Mx] (F : Md) : FOK Tryz.prog GL 174 (aAU F) := by
 refine bT (aU (aRa F)) mix Tryz.func174 rfl xAa xAc aIg fun w0 S x Θ hw h hF => ?_
 obtain ⟨(x_0 : Nat), u⟩ := x
 simp only [bX, go_sem]
 replace h : sat (aCd F x_0) _ := h
 unfold aCd at h
 refine eK hF (D := Nat × Int) (fun d => sat (sL F d.1 d.2) Θ) [] (fun d => [(0, .val qx d.1), (2, .val qe d.2)]) (fun d => []) ?_ ?_
 ·simp only [go_sem]
  refine fC h (fun hc h => ?_) fun hc h => ?_
  ·exact aY ((x_0 / (4294967296 : Nat)), (32 : Int)) h rfl xAb
  ·exact aY (x_0, (0 : Int)) h rfl xAb
 ·rintro ⟨x_2, n_3⟩ h
  simp only [go_sem]
  replace h : sat (sL F x_2 n_3) _ := h
  unfold sL at h
  refine eK hF (D := Nat × Int) (fun d => sat (sK F d.1 d.2) Θ) [] (fun d => [(0, .val qx d.1), (2, .val qe d.2)]) (fun d => []) ?_ ?_
  ·simp only [go_sem]
   refine fC h (fun hc h => ?_) fun hc h => ?_
   ·refine bD h fun g0 h => ?_
    exact aY ((x_2 / (65536 : Nat)), (n_3 + (16 : Int))) h rfl xAb
   ·exact aY (x_2, n_3) h rfl xAb
  ·rintro ⟨x_4, n_5⟩ h
   simp only [go_sem]
   replace h : sat (sK F x_4 n_5) _ := h
   unfold sK at h
   refine eK hF (D := Nat × Int) (fun d => sat (sJ F d.1 d.2) Θ) [] (fun d => [(0, .val qx d.1), (2, .val qe d.2)]) (fun d => []) ?_ ?_
   ·simp only [go_sem]
    refine fC h (fun hc h => ?_) fun hc h => ?_
    ·refine bD h fun g0 h => ?_
     exact aY ((x_4 / (256 : Nat)), (n_5 + (8 : Int))) h rfl xAb
    ·exact aY (x_4, n_5) h rfl xAb
   ·rintro ⟨x_6, n_7⟩ h
    simp only [go_sem]
    replace h : sat (sJ F x_6 n_7) _ := h
    unfold sJ at h
    refine bD h fun g0 h => bD h fun g1 h => ?_
    exact zaF
attribute [go_sem] aAU
def cB (F : Md) (x_0 : Nat) : Option Int :=
 (aCd F x_0).bind (fun v_5 => ck (I64 ((64 : Int) - v_5)) (some ((64 : Int) - v_5)))
def zC : PlR := ⟨[(0, .A [0]), (1, .A [2])], []⟩
def aAu : Ty := .pair qx .unit
def fI (F : Md) : aI := mSpec aAu (.one qe) (fun x => cB F x.1)
abbrev aAv (F : Md) : List (FuncId × aI) := [(174, (aAU F))]
theorem aGt [Mx] (F : Md) : bJ Tryz.prog GL (aAv F) := .cons (aPF F) xAa (.nil)
attribute [go_sem] aAu zC
theorem rN [Mx] (F : Md) : FOK Tryz.prog GL 137 (fI F) := by
 refine bT (aU (aGt F)) mix Tryz.func137 rfl xAa xAc zC fun w0 S x Θ hw h hF => ?_
 obtain ⟨(x_0 : Nat), u⟩ := x
 simp only [bX, go_sem]
 replace h : sat (cB F x_0) _ := h
 unfold cB at h
 obtain ⟨v_5, hv, h⟩ := aO h
 exact za1
attribute [go_sem] fI
def nR (F : Md) (x_0 : Nat) : Option Int :=
 if x_0 = (0 : Nat) then some (64 : Int) else ck (0 ≤ ((((mulM F .u64 (x_0 &&& (aS1 F .u64 x_0)) (285870213051353865 : Nat)) / (288230376151711744 : Nat)) : Nat) : Int) ∧ ((((mulM F .u64 (x_0 &&& (aS1 F .u64 x_0)) (285870213051353865 : Nat)) / (288230376151711744 : Nat)) : Nat) : Int) < (64 : Int)) (some (((aWa.getD ((mulM F .u64 (x_0 &&& (aS1 F .u64 x_0)) (285870213051353865 : Nat)) / (288230376151711744 : Nat)) (0 : Nat)) : Nat) : Int))
def yB : PlR := ⟨[(0, .A [0]), (1, .A [0, 4]), (2, .A [2]), (3, .A [2])], []⟩
def zD : Ty := .pair qx .unit
def nA (F : Md) : aI := mSpec zD (.one qe) (fun x => nR F x.1)
abbrev aFv (F : Md) : List (FuncId × aI) := []
theorem aFw [Mx] (F : Md) : bJ Tryz.prog GL (aFv F) := .nil
attribute [go_sem] zD yB
theorem aED [Mx] (F : Md) : FOK Tryz.prog GL 187 (nA F) := by
 refine bT (aU (aFw F)) mix Tryz.func187 rfl xAa xAc yB fun w0 S x Θ hw h hF => ?_
 obtain ⟨(x_0 : Nat), u⟩ := x
 simp only [bX, go_sem]
 replace h : sat (nR F x_0) _ := h
 unfold nR at h
 refine fC h (fun hc h => ?_) fun hc h => ?_
 ·exact aK hF [.tmp 2] rfl rfl rfl (aE h) xAf
 ·obtain ⟨g0, h⟩ := aQ h
  repeat (refine ⟨by first | with_reducible assumption | omega | (intros; first | with_reducible assumption | omega) | (simp only [go_sem, dH F, dI F, dJ F] at *; first | with_reducible assumption | omega) | (intro _; exact ⟨rfl, by decide⟩) | (intro _; refine (?_ : _ = aD _); rfl) | (refine (?_ : _ = aD _); rfl) | exact ⟨rfl, rfl⟩ | decide, ?_⟩)
  exact aK hF [.tmp 2] rfl rfl rfl (aE h) (by (simp only [aT, go_sem, dH F, dI F, dJ F]) <;> first | rfl | (simp; done))
attribute [go_sem] nA
def aCe (F : Md) (x_0 : Nat) (y_1 : Nat) : Option (Nat × (Nat × Unit)) :=
 some ((((((mulM F .u64 (x_0 / (4294967296 : Nat)) (y_1 / (4294967296 : Nat))) + ((((mulM F .u64 (x_0 / (4294967296 : Nat)) (y_1 &&& (4294967295 : Nat))) + ((mulM F .u64 (x_0 &&& (4294967295 : Nat)) (y_1 &&& (4294967295 : Nat))) / (4294967296 : Nat))) % 18446744073709551616) / (4294967296 : Nat))) % 18446744073709551616) + (((((((mulM F .u64 (x_0 / (4294967296 : Nat)) (y_1 &&& (4294967295 : Nat))) + ((mulM F .u64 (x_0 &&& (4294967295 : Nat)) (y_1 &&& (4294967295 : Nat))) / (4294967296 : Nat))) % 18446744073709551616) &&& (4294967295 : Nat)) + (mulM F .u64 (x_0 &&& (4294967295 : Nat)) (y_1 / (4294967296 : Nat)))) % 18446744073709551616) / (4294967296 : Nat))) % 18446744073709551616), (mulM F .u64 x_0 y_1), ())
def aIh : PlR := ⟨[(0, .A [0, 1]), (1, .A [0, 1, 6]), (2, .A [0, 1, 6, 7]), (3, .A [0, 1, 6, 7, 8]), (4, .A [0, 1, 6, 7, 8, 9]), (5, .A [0, 1, 6, 7, 8, 9, 10]), (6, .A [0, 1, 6, 7, 9, 11]), (7, .A [0, 1, 6, 7, 9, 11, 12]), (8, .A [0, 1, 6, 7, 9, 12, 13]), (9, .A [0, 1, 7, 9, 12, 13]), (10, .A [0, 1, 4]), (11, .A [4, 5])], []⟩
def aJO : Ty := .pair qx (.pair qx .unit)
def aAV (F : Md) : aI := mSpec aJO (.tup wn) (fun x => aCe F x.1 x.2.1)
abbrev aRb (F : Md) : List (FuncId × aI) := []
theorem aRc [Mx] (F : Md) : bJ Tryz.prog GL (aRb F) := .nil
attribute [go_sem] aJO aIh
theorem aPG [Mx] (F : Md) : FOK Tryz.prog GL 143 (aAV F) := by
 refine bT (aU (aRc F)) mix Tryz.func143 rfl xAa xAc aIh fun w0 S x Θ hw h hF => ?_
 obtain ⟨(x_0 : Nat), (y_1 : Nat), u⟩ := x
 simp only [bX, go_sem]
 replace h : sat (aCe F x_0 y_1) _ := h
 unfold aCe at h
 exact aK hF [.tmp 4, .tmp 5] rfl rfl rfl (aE h) xAf
attribute [go_sem] aAV
def xE (F : Md) (x15_12 : Nat) (hi_0 : Nat) (v_7 : Int) (lo_1 : Nat) (y_2 : Nat) (x18_17 : Nat) : Option (Nat × (Nat × Unit)) :=
 some ((((mulM F .u64 x15_12 (4294967296 : Nat)) + x18_17) % 18446744073709551616), ((aBg F .u64 (((mulM F .u64 (aBg F .u64 (((mulM F .u64 (((hi_0 * (2 ^ (v_7 % (18446744073709551616 : Int)).toNat)) % 18446744073709551616) ||| (lo_1 / (2 ^ (aBg F .u64 (64 : Nat) (v_7 % (18446744073709551616 : Int)).toNat)))) (4294967296 : Nat)) + (((lo_1 * (2 ^ (v_7 % (18446744073709551616 : Int)).toNat)) % 18446744073709551616) / (4294967296 : Nat))) % 18446744073709551616) (mulM F .u64 x15_12 ((y_2 * (2 ^ (v_7 % (18446744073709551616 : Int)).toNat)) % 18446744073709551616))) (4294967296 : Nat)) + (((lo_1 * (2 ^ (v_7 % (18446744073709551616 : Int)).toNat)) % 18446744073709551616) &&& (4294967295 : Nat))) % 18446744073709551616) (mulM F .u64 x18_17 ((y_2 * (2 ^ (v_7 % (18446744073709551616 : Int)).toNat)) % 18446744073709551616))) / (2 ^ (v_7 % (18446744073709551616 : Int)).toNat)), ())
def aAL (F : Md) (lo_1 : Nat) (v_7 : Int) (y_2 : Nat) (rhat_18 : Nat) (x18_19 : Nat) : Option ((Nat × Nat) ⊕ (Nat)) :=
 if ((4294967296 : Nat) ≤ x18_19) ∨ ((((mulM F .u64 (4294967296 : Nat) rhat_18) + (((lo_1 * (2 ^ (v_7 % (18446744073709551616 : Int)).toNat)) % 18446744073709551616) &&& (4294967295 : Nat))) % 18446744073709551616) < (mulM F .u64 x18_19 (((y_2 * (2 ^ (v_7 % (18446744073709551616 : Int)).toNat)) % 18446744073709551616) &&& (4294967295 : Nat)))) then if (4294967296 : Nat) ≤ ((rhat_18 + (((y_2 * (2 ^ (v_7 % (18446744073709551616 : Int)).toNat)) % 18446744073709551616) / (4294967296 : Nat))) % 18446744073709551616) then some (.inr (aBg F .u64 x18_19 (1 : Nat))) else some (.inl (((rhat_18 + (((y_2 * (2 ^ (v_7 % (18446744073709551616 : Int)).toNat)) % 18446744073709551616) / (4294967296 : Nat))) % 18446744073709551616), (aBg F .u64 x18_19 (1 : Nat)))) else some (.inr x18_19)
def xF (F : Md) (y_2 : Nat) (v_7 : Int) (lo_1 : Nat) (hi_0 : Nat) (x15_12 : Nat) : Option (Nat × (Nat × Unit)) :=
 ck ((((y_2 * (2 ^ (v_7 % (18446744073709551616 : Int)).toNat)) % 18446744073709551616) / (4294967296 : Nat)) ≠ 0) ((eH F (fun d : Nat × Nat => aAL F lo_1 v_7 y_2 d.1 d.2) ((aBg F .u64 (aBg F .u64 (((mulM F .u64 (((hi_0 * (2 ^ (v_7 % (18446744073709551616 : Int)).toNat)) % 18446744073709551616) ||| (lo_1 / (2 ^ (aBg F .u64 (64 : Nat) (v_7 % (18446744073709551616 : Int)).toNat)))) (4294967296 : Nat)) + (((lo_1 * (2 ^ (v_7 % (18446744073709551616 : Int)).toNat)) % 18446744073709551616) / (4294967296 : Nat))) % 18446744073709551616) (mulM F .u64 x15_12 ((y_2 * (2 ^ (v_7 % (18446744073709551616 : Int)).toNat)) % 18446744073709551616))) (mulM F .u64 ((aBg F .u64 (((mulM F .u64 (((hi_0 * (2 ^ (v_7 % (18446744073709551616 : Int)).toNat)) % 18446744073709551616) ||| (lo_1 / (2 ^ (aBg F .u64 (64 : Nat) (v_7 % (18446744073709551616 : Int)).toNat)))) (4294967296 : Nat)) + (((lo_1 * (2 ^ (v_7 % (18446744073709551616 : Int)).toNat)) % 18446744073709551616) / (4294967296 : Nat))) % 18446744073709551616) (mulM F .u64 x15_12 ((y_2 * (2 ^ (v_7 % (18446744073709551616 : Int)).toNat)) % 18446744073709551616))) / (((y_2 * (2 ^ (v_7 % (18446744073709551616 : Int)).toNat)) % 18446744073709551616) / (4294967296 : Nat))) (((y_2 * (2 ^ (v_7 % (18446744073709551616 : Int)).toNat)) % 18446744073709551616) / (4294967296 : Nat)))), ((aBg F .u64 (((mulM F .u64 (((hi_0 * (2 ^ (v_7 % (18446744073709551616 : Int)).toNat)) % 18446744073709551616) ||| (lo_1 / (2 ^ (aBg F .u64 (64 : Nat) (v_7 % (18446744073709551616 : Int)).toNat)))) (4294967296 : Nat)) + (((lo_1 * (2 ^ (v_7 % (18446744073709551616 : Int)).toNat)) % 18446744073709551616) / (4294967296 : Nat))) % 18446744073709551616) (mulM F .u64 x15_12 ((y_2 * (2 ^ (v_7 % (18446744073709551616 : Int)).toNat)) % 18446744073709551616))) / (((y_2 * (2 ^ (v_7 % (18446744073709551616 : Int)).toNat)) % 18446744073709551616) / (4294967296 : Nat))))).bind (fun e => xE F x15_12 hi_0 v_7 lo_1 y_2 e))
def aAM (F : Md) (lo_1 : Nat) (v_7 : Int) (y_2 : Nat) (x15_23 : Nat) (rhat_24 : Nat) : Option ((Nat × Nat) ⊕ (Nat)) :=
 if ((4294967296 : Nat) ≤ x15_23) ∨ ((((mulM F .u64 (4294967296 : Nat) rhat_24) + (((lo_1 * (2 ^ (v_7 % (18446744073709551616 : Int)).toNat)) % 18446744073709551616) / (4294967296 : Nat))) % 18446744073709551616) < (mulM F .u64 x15_23 (((y_2 * (2 ^ (v_7 % (18446744073709551616 : Int)).toNat)) % 18446744073709551616) &&& (4294967295 : Nat)))) then if (4294967296 : Nat) ≤ ((rhat_24 + (((y_2 * (2 ^ (v_7 % (18446744073709551616 : Int)).toNat)) % 18446744073709551616) / (4294967296 : Nat))) % 18446744073709551616) then some (.inr (aBg F .u64 x15_23 (1 : Nat))) else some (.inl ((aBg F .u64 x15_23 (1 : Nat)), ((rhat_24 + (((y_2 * (2 ^ (v_7 % (18446744073709551616 : Int)).toNat)) % 18446744073709551616) / (4294967296 : Nat))) % 18446744073709551616))) else some (.inr x15_23)
def aCf (F : Md) (hi_0 : Nat) (lo_1 : Nat) (y_2 : Nat) : Option (Nat × (Nat × Unit)) :=
 if y_2 = (0 : Nat) then none else if y_2 ≤ hi_0 then none else if hi_0 = (0 : Nat) then ck (y_2 ≠ 0) (ck (y_2 ≠ 0) (some ((lo_1 / y_2), (lo_1 % y_2), ()))) else (cB F y_2).bind (fun v_7 => ck ((((y_2 * (2 ^ (v_7 % (18446744073709551616 : Int)).toNat)) % 18446744073709551616) / (4294967296 : Nat)) ≠ 0) ((eH F (fun d : Nat × Nat => aAM F lo_1 v_7 y_2 d.1 d.2) (((((hi_0 * (2 ^ (v_7 % (18446744073709551616 : Int)).toNat)) % 18446744073709551616) ||| (lo_1 / (2 ^ (aBg F .u64 (64 : Nat) (v_7 % (18446744073709551616 : Int)).toNat)))) / (((y_2 * (2 ^ (v_7 % (18446744073709551616 : Int)).toNat)) % 18446744073709551616) / (4294967296 : Nat))), (aBg F .u64 (((hi_0 * (2 ^ (v_7 % (18446744073709551616 : Int)).toNat)) % 18446744073709551616) ||| (lo_1 / (2 ^ (aBg F .u64 (64 : Nat) (v_7 % (18446744073709551616 : Int)).toNat)))) (mulM F .u64 ((((hi_0 * (2 ^ (v_7 % (18446744073709551616 : Int)).toNat)) % 18446744073709551616) ||| (lo_1 / (2 ^ (aBg F .u64 (64 : Nat) (v_7 % (18446744073709551616 : Int)).toNat)))) / (((y_2 * (2 ^ (v_7 % (18446744073709551616 : Int)).toNat)) % 18446744073709551616) / (4294967296 : Nat))) (((y_2 * (2 ^ (v_7 % (18446744073709551616 : Int)).toNat)) % 18446744073709551616) / (4294967296 : Nat)))))).bind (fun e => xF F y_2 v_7 lo_1 hi_0 e)))
def aIi : PlR := ⟨[(0, .A [0, 1, 2]), (1, .A [0, 1, 2, 20]), (2, .stop), (3, .A [0, 1, 2, 24]), (4, .stop), (5, .A [0, 1, 2, 27]), (6, .A [6, 7]), (7, .A [0, 1, 2, 8]), (8, .A [0, 1, 2, 8]), (9, .A [0, 1, 2, 8, 9]), (10, .A [0, 1, 2, 8, 9, 10]), (11, .A [1, 2, 8, 9, 10, 11]), (12, .A [2, 8, 9, 10, 11, 12]), (13, .A [2, 8, 9, 10, 11, 12, 13]), (14, .A [2, 8, 9, 10, 11, 13, 14]), (15, .A [2, 8, 9, 10, 11, 13, 14, 15]), (16, .A [2, 8, 9, 10, 11, 13, 14, 15, 16]), (17, .A [2, 8, 9, 10, 11, 13, 14, 15, 16, 78]), (18, .A [2, 8, 9, 10, 11, 13, 14, 15, 16]), (19, .A [2, 8, 9, 10, 11, 13, 14, 15, 16]), (20, .A [2, 8, 9, 10, 11, 13, 14, 15, 16, 85]), (21, .A [2, 8, 9, 10, 14, 15, 17]), (22, .A [2, 8, 9, 10, 14, 15, 17, 18]), (23, .A [2, 8, 9, 10, 14, 15, 16, 17, 18]), (24, .A [2, 8, 9, 10, 14, 15, 16, 17, 18, 113]), (25, .A [2, 8, 9, 10, 14, 15, 16, 17, 18]), (26, .A [2, 8, 9, 10, 14, 15, 16, 17, 18]), (27, .A [2, 8, 9, 10, 14, 15, 16, 17, 18, 120]), (28, .A [6, 7])], [(20, 24), (27, 31)]⟩
def aJP : Ty := .pair qx wn
def aAW (F : Md) : aI := mSpec aJP (.tup wn) (fun x => aCf F x.1 x.2.1 x.2.2.1)
abbrev aJQ (F : Md) : List (FuncId × aI) := [(137, (fI F))]
theorem aRd [Mx] (F : Md) : bJ Tryz.prog GL (aJQ F) := .cons (rN F) xAa (.nil)
attribute [go_sem] aJP aIi
theorem aPH [Mx] (F : Md) : FOK Tryz.prog GL 173 (aAW F) := by
 refine bT (aU (aRd F)) mix Tryz.func173 rfl xAa xAc aIi fun w0 S x Θ hw h hF => ?_
 obtain ⟨(hi_0 : Nat), (lo_1 : Nat), (y_2 : Nat), u⟩ := x
 simp only [bX, go_sem]
 replace h : sat (aCf F hi_0 lo_1 y_2) _ := h
 unfold aCf at h
 refine fC h (fun hc h => ?_) fun hc h => ?_
 ·exact aBi h
 ·refine fC h (fun hc h => ?_) fun hc h => ?_
  ·exact aBi h
  ·refine fC h (fun hc h => ?_) fun hc h => ?_
   ·refine bD h fun g0 h => bD h fun g1 h => ?_
    exact aK hF [.tmp 6, .tmp 7] rfl rfl rfl (aE h) xAf
   ·obtain ⟨v_7, hv, h⟩ := aO h
    try simp only [hv, go_sem, dH F, dI F, dJ F]
    refine bD h fun g0 h => ?_
    refine eK hF (D := Nat) (fun d => sat (xF F y_2 v_7 lo_1 hi_0 d) Θ) [2, 8, 9, 10, 11, 13, 14] (fun d => [(15, .val qx d)]) (fun d => []) ?_ ?_
    ·simp only [go_sem, dH F, dI F, dJ F]
     refine cI hF (D := Nat × Nat) [2, 8, 9, 10, 11, 13, 14] (fun d => [(15, .val qx d.1), (16, .val qx d.2)]) (fun d => []) h rfl xAe ?_
     rintro ⟨x15_23, rhat_24⟩ A17 T17 hA17 hE17 h
     simp only [go_sem, dH F, dI F, dJ F]
     replace h : sat (aAM F lo_1 v_7 y_2 x15_23 rhat_24) _ := h
     unfold aAM at h
     refine ⟨fun hc => ?_, fun hc => ?_⟩
     ·replace h := iG hc h
      refine fC h (fun hc h => ?_) fun hc h => ?_
      ·replace h := yaF (hE17 _ (aE h))
       exact aY (aBg F .u64 x15_23 (1 : Nat)) h rfl xAe
      ·replace h := hA17 _ (aE h)
       exact aY _ h rfl xAe
     ·replace h := iH hc h
      replace h := yaF (hE17 _ (aE h))
      exact aY (x15_23) h rfl xAe
    ·rintro x15_12 h
     simp only [go_sem, dH F, dI F, dJ F]
     replace h : sat (xF F y_2 v_7 lo_1 hi_0 x15_12) _ := h
     unfold xF at h
     refine bD h fun g0 h => ?_
     refine eK hF (D := Nat) (fun d => sat (xE F x15_12 hi_0 v_7 lo_1 y_2 d) Θ) [2, 8, 14, 15, 17] (fun d => [(18, .val qx d)]) (fun d => []) ?_ ?_
     ·simp only [go_sem, dH F, dI F, dJ F]
      refine cI hF (D := Nat × Nat) [2, 8, 9, 10, 14, 15, 17] (fun d => [(16, .val qx d.1), (18, .val qx d.2)]) (fun d => []) h rfl xAe ?_
      rintro ⟨rhat_18, x18_19⟩ A24 T24 hA24 hE24 h
      simp only [go_sem, dH F, dI F, dJ F]
      replace h : sat (aAL F lo_1 v_7 y_2 rhat_18 x18_19) _ := h
      unfold aAL at h
      refine ⟨fun hc => ?_, fun hc => ?_⟩
      ·replace h := iG hc h
       refine fC h (fun hc h => ?_) fun hc h => ?_
       ·replace h := yaF (hE24 _ (aE h))
        exact aY (aBg F .u64 x18_19 (1 : Nat)) h rfl xAe
       ·replace h := hA24 _ (aE h)
        exact aY _ h rfl xAe
      ·replace h := iH hc h
       replace h := yaF (hE24 _ (aE h))
       exact aY (x18_19) h rfl xAe
     ·rintro x18_17 h
      simp only [go_sem, dH F, dI F, dJ F]
      replace h : sat (xE F x15_12 hi_0 v_7 lo_1 y_2 x18_17) _ := h
      unfold xE at h
      exact aK hF [.tmp 6, .tmp 7] rfl rfl rfl (aE h) xAf
attribute [go_sem] aAW
def aHZ (F : Md) (a_0 : qd) : Option Bool :=
 ck (¬ ((a_0.length : Int) = (0 : Int)) → ((a_0.length : Int) ≤ (64 : Int)) → (I64 ((a_0.length : Int) - (1 : Int)))) (ck (¬ ((a_0.length : Int) = (0 : Int)) → ((a_0.length : Int) ≤ (64 : Int)) → (0 ≤ ((a_0.length : Int) - (1 : Int)) ∧ ((a_0.length : Int) - (1 : Int)) < (a_0.length : Int))) (some ((decide ((a_0.length : Int) = (0 : Int))) || ((decide ((a_0.length : Int) ≤ (64 : Int))) && (!(decide ((a_0.getD ((a_0.length : Int) - (1 : Int)).toNat (0 : Nat)) = (0 : Nat))))))))
def aOD : PlR := ⟨[(0, .A [0]), (1, .A [2])], []⟩
def aQB : Ty := .pair we .unit
def aFx (F : Md) : aI := mSpec aQB (.one .bool) (fun x => aHZ F x.1)
abbrev aUF (F : Md) : List (FuncId × aI) := []
theorem aUG [Mx] (F : Md) : bJ Tryz.prog GL (aUF F) := .nil
attribute [go_sem] aQB aOD
theorem aS8 [Mx] (F : Md) : FOK Tryz.prog GL 150 (aFx F) := by
 refine bT (aU (aUG F)) mix Tryz.func150 rfl xAa xAc aOD fun w0 S x Θ hw h hF => ?_
 obtain ⟨(a_0 : qd), u⟩ := x
 simp only [bX, go_sem]
 replace h : sat (aHZ F a_0) _ := h
 unfold aHZ at h
 obtain ⟨g0, h⟩ := aQ h
 obtain ⟨g1, h⟩ := aQ h
 try simp only [I64, I32] at g0
 repeat (refine ⟨by first | with_reducible assumption | omega | (intros; first | with_reducible assumption | omega) | (simp only [go_sem] at *; first | with_reducible assumption | omega) | (intro _; exact ⟨rfl, by decide⟩) | (intro _; refine (?_ : _ = aD _); rfl) | (refine (?_ : _ = aD _); rfl) | exact ⟨rfl, rfl⟩ | (intro q0 q1; (try have e0 := g0 (by first | exact q0 | omega | (simpa using q0)) (by first | exact q1 | omega | (simpa using q1))); (try have e1 := g1 (by first | exact q0 | omega | (simpa using q0)) (by first | exact q1 | omega | (simpa using q1))); first | assumption | omega) | (rintro ⟨q0, q1⟩; (try have e0 := g0 (by first | exact q0 | omega | (simpa using q0)) (by first | exact q1 | omega | (simpa using q1))); (try have e1 := g1 (by first | exact q0 | omega | (simpa using q0)) (by first | exact q1 | omega | (simpa using q1))); first | assumption | omega) | decide, ?_⟩)
 exact zaF
attribute [go_sem] aFx
def aEb (F : Md) (a_4 : qd) : Option (qd ⊕ qd) :=
 ck (((0 : Int) < (a_4.length : Int)) → (I64 ((a_4.length : Int) - (1 : Int)))) (ck (((0 : Int) < (a_4.length : Int)) → (0 ≤ ((a_4.length : Int) - (1 : Int)) ∧ ((a_4.length : Int) - (1 : Int)) < (a_4.length : Int))) (if ((0 : Int) < (a_4.length : Int)) ∧ ((a_4.getD ((a_4.length : Int) - (1 : Int)).toNat (0 : Nat)) = (0 : Nat)) then ck (I64 ((a_4.length : Int) - (1 : Int))) (ck (0 ≤ ((a_4.length : Int) - (1 : Int)) ∧ ((a_4.length : Int) - (1 : Int)) ≤ (a_4.length : Int)) (some (.inl (List.take ((a_4.length : Int) - (1 : Int)).toNat a_4)))) else some (.inr a_4)))
def kB (F : Md) (a_0 : qd) : Option qd :=
 (eH F (fun d : qd => aEb F d) a_0).bind (fun e => some e)
def aMi : PlR := ⟨[(0, .A [0]), (1, .A [0, 14]), (2, .A [0]), (3, .A [2])], []⟩
def aOE : Ty := .pair we .unit
def gO (F : Md) : aI := mSpec aOE (.one we) (fun x => kB F x.1)
abbrev aS9 (F : Md) : List (FuncId × aI) := []
theorem aTa [Mx] (F : Md) : bJ Tryz.prog GL (aS9 F) := .nil
attribute [go_sem] aOE aMi
theorem tZ [Mx] (F : Md) : FOK Tryz.prog GL 141 (gO F) := by
 refine bT (aU (aTa F)) mix Tryz.func141 rfl xAa xAc aMi fun w0 S x Θ hw h hF => ?_
 obtain ⟨(a_0 : qd), u⟩ := x
 simp only [bX, go_sem]
 replace h : sat (kB F a_0) _ := h
 unfold kB at h
 refine cI hF (D := qd) [] (fun d => [(0, .val we d)]) (fun d => []) h rfl xAb ?_
 rintro a_4 A1 T1 hA1 hE1 h
 simp only [go_sem]
 replace h : sat (aEb F a_4) _ := h
 unfold aEb at h
 refine bD h fun g0 h => bD h fun g1 h => ?_
 refine ⟨fun hc => ?_, fun hc => ?_⟩
 ·replace h := iG hc h
  refine bD h fun g0 h => bD h fun g1 h => ?_
  replace h := hA1 _ (aE h)
  exact zaK
 ·replace h := iH hc h
  replace h := yaF (hE1 _ (aE h))
  exact zaF
attribute [go_sem] gO
def aCY (F : Md) (less_0 : Bool) : Option Int :=
 if less_0 = true then some (-1 : Int) else some (1 : Int)
def aMj : PlR := ⟨[(0, .A [0]), (1, .A [3]), (2, .A [2]), (3, .A [2])], []⟩
def aOF : Ty := .pair .bool .unit
def aDC (F : Md) : aI := mSpec aOF (.one qe) (fun x => aCY F x.1)
abbrev aTb (F : Md) : List (FuncId × aI) := []
theorem aTc [Mx] (F : Md) : bJ Tryz.prog GL (aTb F) := .nil
attribute [go_sem] aOF aMj
theorem aSj [Mx] (F : Md) : FOK Tryz.prog GL 156 (aDC F) := by
 refine bT (aU (aTc F)) mix Tryz.func156 rfl xAa xAc aMj fun w0 S x Θ hw h hF => ?_
 obtain ⟨(less_0 : Bool), u⟩ := x
 simp only [bX, go_sem]
 replace h : sat (aCY F less_0) _ := h
 unfold aCY at h
 exact za5
attribute [go_sem] aDC
def aCZ (F : Md) (a_0 : qd) (b_1 : qd) (i_20 : Int) : Option ((Int) ⊕ ((Unit) ⊕ Int)) :=
 if (0 : Int) ≤ i_20 then ck (0 ≤ i_20 ∧ i_20 < (a_0.length : Int)) (ck (0 ≤ i_20 ∧ i_20 < (b_1.length : Int)) (if ¬ ((a_0.getD (i_20.toNat) (0 : Nat)) = (b_1.getD (i_20.toNat) (0 : Nat))) then ck (0 ≤ i_20 ∧ i_20 < (a_0.length : Int)) (ck (0 ≤ i_20 ∧ i_20 < (b_1.length : Int)) ((aCY F (decide ((a_0.getD (i_20.toNat) (0 : Nat)) < (b_1.getD (i_20.toNat) (0 : Nat))))).bind (fun v_33 => some (.inr (.inr v_33))))) else ck (I64 (i_20 - (1 : Int))) (some (.inl (i_20 - (1 : Int)))))) else some (.inr (.inl ()))
def uA (F : Md) (a_0 : qd) (b_1 : qd) : Option Int :=
 if ¬ ((a_0.length : Int) = (b_1.length : Int)) then (aCY F (decide ((a_0.length : Int) < (b_1.length : Int)))).bind (fun v_8 => some v_8) else ck (I64 ((a_0.length : Int) - (1 : Int))) ((eH F (fun d : Int => aCZ F a_0 b_1 d) ((a_0.length : Int) - (1 : Int))).bind (fun e => match e with | (.inl e) => some (0 : Int) | (.inr e) => some e))
def aJR : PlR := ⟨[(0, .A [0, 1]), (1, .A [0, 1, 10]), (2, .A [4]), (3, .A [0, 1, 5]), (4, .A [0, 1, 5, 21]), (5, .A [0, 1, 5]), (6, .A [0, 1, 5, 32]), (7, .A [4]), (8, .A [4])], []⟩
def aMk : Ty := .pair we (.pair we .unit)
def pX (F : Md) : aI := mSpec aMk (.one qe) (fun x => uA F x.1 x.2.1)
abbrev aMl (F : Md) : List (FuncId × aI) := [(156, (aDC F))]
theorem aSk [Mx] (F : Md) : bJ Tryz.prog GL (aMl F) := .cons (aSj F) xAa (.nil)
attribute [go_sem] aMk aJR
theorem aFy [Mx] (F : Md) : FOK Tryz.prog GL 114 (pX F) := by
 refine bT (aU (aSk F)) mix Tryz.func114 rfl xAa xAc aJR fun w0 S x Θ hw h hF => ?_
 obtain ⟨(a_0 : qd), (b_1 : qd), u⟩ := x
 simp only [bX, go_sem]
 replace h : sat (uA F a_0 b_1) _ := h
 unfold uA at h
 refine fC h (fun hc h => ?_) fun hc h => ?_
 ·obtain ⟨v_8, hv, h⟩ := aO h
  exact zaR
 ·refine bD h fun g0 h => ?_
  refine cI hF (D := Int) [0, 1] (fun d => [(5, .val qe d)]) (fun d => []) h rfl xAb ?_
  rintro i_20 A4 T4 hA4 hE4 h
  simp only [go_sem]
  replace h : sat (aCZ F a_0 b_1 i_20) _ := h
  unfold aCZ at h
  refine aS3 h (fun hc h => ?_) fun hc h => ?_
  ·refine bD h fun g0 h => bD h fun g1 h => ?_
   refine fC h (fun hc h => ?_) fun hc h => ?_
   ·refine bD h fun g0 h => bD h fun g1 h => ?_
    obtain ⟨v_33, hv, h⟩ := aO h
    try simp only [hv, go_sem]
    replace h := yaF (hE4 _ (aE h))
    exact zaD
   ·refine bD h fun g0 h => ?_
    replace h := hA4 _ (aE h)
    exact zaK
  ·replace h := yaF (hE4 _ (aE h))
   exact zaD
attribute [go_sem] pX
def aC0 (F : Md) (a_0 : qd) : Option Int :=
 if (a_0.length : Int) = (0 : Int) then some (0 : Int) else ck (I64 ((64 : Int) * (a_0.length : Int))) (ck (I64 ((a_0.length : Int) - (1 : Int))) (ck (0 ≤ ((a_0.length : Int) - (1 : Int)) ∧ ((a_0.length : Int) - (1 : Int)) < (a_0.length : Int)) ((cB F (a_0.getD ((a_0.length : Int) - (1 : Int)).toNat (0 : Nat))).bind (fun v_5 => ck (I64 (((64 : Int) * (a_0.length : Int)) - v_5)) (some (((64 : Int) * (a_0.length : Int)) - v_5))))))
def aMm : PlR := ⟨[(0, .A [0]), (1, .A [0, 5]), (2, .A [2]), (3, .A [2])], []⟩
def aOG : Ty := .pair we .unit
def aDD (F : Md) : aI := mSpec aOG (.one qe) (fun x => aC0 F x.1)
abbrev aOH (F : Md) : List (FuncId × aI) := [(137, (fI F))]
theorem aTd [Mx] (F : Md) : bJ Tryz.prog GL (aOH F) := .cons (rN F) xAa (.nil)
attribute [go_sem] aOG aMm
theorem aSl [Mx] (F : Md) : FOK Tryz.prog GL 151 (aDD F) := by
 refine bT (aU (aTd F)) mix Tryz.func151 rfl xAa xAc aMm fun w0 S x Θ hw h hF => ?_
 obtain ⟨(a_0 : qd), u⟩ := x
 simp only [bX, go_sem]
 replace h : sat (aC0 F a_0) _ := h
 unfold aC0 at h
 refine fC h (fun hc h => ?_) fun hc h => ?_
 ·exact aK hF [.tmp 2] rfl rfl rfl (aE h) xAd
 ·refine bD h fun g0 h => bD h fun g1 h => bD h fun g2 h => ?_
  obtain ⟨v_5, hv, h⟩ := aO h
  exact za1
attribute [go_sem] aDD
def aC1 (F : Md) (a_0 : qd) (x7_10 : Int) : Option ((Int) ⊕ ((Unit) ⊕ Int)) :=
 if x7_10 < (a_0.length : Int) then ck (0 ≤ x7_10 ∧ x7_10 < (a_0.length : Int)) (if ¬ ((a_0.getD (x7_10.toNat) (0 : Nat)) = (0 : Nat)) then ck (I64 ((64 : Int) * x7_10)) ((nR F (a_0.getD (x7_10.toNat) (0 : Nat))).bind (fun v_19 => ck (I64 (((64 : Int) * x7_10) + v_19)) (some (.inr (.inr (((64 : Int) * x7_10) + v_19)))))) else ck (I64 (x7_10 + (1 : Int))) (some (.inl (x7_10 + (1 : Int))))) else some (.inr (.inl ()))
def fJ (F : Md) (a_0 : qd) : Option Int :=
 (eH F (fun d : Int => aC1 F a_0 d) (0 : Int)).bind (fun e => match e with | (.inl e) => some (-1 : Int) | (.inr e) => some e)
def aJS : PlR := ⟨[(0, .A [0]), (1, .A [5, 6, 7]), (2, .A [5, 6, 7, 8]), (3, .A [3, 4, 5, 6, 7]), (4, .A [3, 4, 5, 6, 7, 13]), (5, .A [2]), (6, .A [5, 6, 7]), (7, .A [2])], []⟩
def aMn : Ty := .pair we .unit
def aCg (F : Md) : aI := mSpec aMn (.one qe) (fun x => fJ F x.1)
abbrev aMo (F : Md) : List (FuncId × aI) := [(187, (nA F))]
theorem aSm [Mx] (F : Md) : bJ Tryz.prog GL (aMo F) := .cons (aED F) xAa (.nil)
attribute [go_sem] aMn aJS
theorem aRe [Mx] (F : Md) : FOK Tryz.prog GL 177 (aCg F) := by
 refine bT (aU (aSm F)) mix Tryz.func177 rfl xAa xAc aJS fun w0 S x Θ hw h hF => ?_
 obtain ⟨(a_0 : qd), u⟩ := x
 simp only [bX, go_sem]
 replace h : sat (fJ F a_0) _ := h
 unfold fJ at h
 refine cI hF (D := Int) [5, 6] (fun d => [(7, .val qe d)]) (fun d => []) h rfl xAb ?_
 rintro x7_10 A2 T2 hA2 hE2 h
 simp only [go_sem]
 replace h : sat (aC1 F a_0 x7_10) _ := h
 unfold aC1 at h
 refine fO h (fun hc h => ?_) fun hc h => ?_
 ·refine bD h fun g0 h => ?_
  refine fC h (fun hc h => ?_) fun hc h => ?_
  ·refine bD h fun g0 h => ?_
   obtain ⟨v_19, hv, h⟩ := aO h
   try simp only [hv, go_sem]
   refine bD h fun g0 h => ?_
   replace h := yaF (hE2 _ (aE h))
   exact zaF
  ·refine bD h fun g0 h => ?_
   replace h := hA2 _ (aE h)
   exact zaK
 ·replace h := yaF (hE2 _ (aE h))
  exact zaF
attribute [go_sem] aCg
def aC2 (F : Md) (a_0 : qd) : Option qd :=
 (kB F a_0).bind (fun v_3 => ck (aWd v_3) (some (id v_3)))
def aMp : PlR := ⟨[(0, .A [0]), (1, .B [2])], []⟩
def aOJ : Ty := .pair we .unit
def yC (F : Md) : aI := mSpec aOJ (.one we) (fun x => aC2 F x.1)
abbrev aIX (F : Md) : List (FuncId × aI) := [(135, dC), (141, (gO F))]
theorem aTe [Mx] (F : Md) : bJ Tryz.prog GL (aIX F) := .cons nQ xAa (.cons (tZ F) xAa (.nil))
attribute [go_sem] aOJ aMp
theorem aMq [Mx] (F : Md) : FOK Tryz.prog GL 146 (yC F) := by
 refine bT (aU (aTe F)) mix Tryz.func146 rfl xAa xAc aMp fun w0 S x Θ hw h hF => ?_
 obtain ⟨(a_0 : qd), u⟩ := x
 simp only [bX, go_sem]
 replace h : sat (aC2 F a_0) _ := h
 unfold aC2 at h
 obtain ⟨v_3, hv, h⟩ := aO h
 exact za1
attribute [go_sem] yC
def wD (F : Md) (x22_13 : Int) (out_14 : qd) (carry_12 : Nat) (x_21 : Nat) : Option ((Nat × Int × qd) ⊕ qd) :=
 ck (0 ≤ x22_13 ∧ x22_13 < (out_14.length : Int)) (ck (aQ7 (out_14.getD (x22_13.toNat) (0 : Nat)) x_21 carry_12) (ck (0 ≤ x22_13 ∧ x22_13 < (out_14.length : Int)) (ck (I64 (x22_13 + (1 : Int))) (some (.inl ((aFt (out_14.getD (x22_13.toNat) (0 : Nat)) x_21 carry_12).2.1, (x22_13 + (1 : Int)), (out_14.set (x22_13.toNat) (aFt (out_14.getD (x22_13.toNat) (0 : Nat)) x_21 carry_12).1)))))))
def aEc (F : Md) (a_3 : qd) (b_4 : qd) (carry_12 : Nat) (x22_13 : Int) (out_14 : qd) : Option ((Nat × Int × qd) ⊕ qd) :=
 if x22_13 < ((((id a_3) ++ ([0] : List Nat)).length : Nat) : Int) then if x22_13 < (b_4.length : Int) then ck (0 ≤ x22_13 ∧ x22_13 < (b_4.length : Int)) (wD F x22_13 out_14 carry_12 (b_4.getD (x22_13.toNat) (0 : Nat))) else if carry_12 = (0 : Nat) then some (.inr out_14) else wD F x22_13 out_14 carry_12 (0 : Nat) else some (.inr out_14)
def wE (F : Md) (a_3 : qd) (b_4 : qd) : Option qd :=
 ck (aWd a_3) (ck (((id a_3).length + (1 : Nat)) * 8 ≤ 140737488355328) ((eH F (fun d : Nat × Int × qd => aEc F a_3 b_4 d.1 d.2.1 d.2.2) ((0 : Nat), (0 : Int), ((id a_3) ++ ([0] : List Nat)))).bind (fun e => (kB F e).bind (fun v_27 => some v_27))))
def aFz (F : Md) (a_0 : qd) (b_1 : qd) : Option qd :=
 if (a_0.length : Int) < (b_1.length : Int) then wE F b_1 a_0 else wE F a_0 b_1
def aMr : PlR := ⟨[(0, .A [0, 1]), (1, .A [0, 1, 13]), (2, .A [0, 1]), (3, .B [1, 5]), (4, .A [1, 5, 6]), (5, .A [1, 5, 6, 21, 22]), (6, .A [1, 5, 6, 21, 22, 23]), (7, .A [1, 5, 6, 7, 21, 22]), (8, .A [1, 5, 6, 7, 8, 21, 22]), (9, .A [1, 5, 6, 7, 8, 21, 22, 25]), (10, .A [1, 5, 6, 7, 8, 21, 22]), (11, .A [1, 5, 6, 7, 8, 21, 22, 34]), (12, .B [1, 5, 6, 21, 22]), (13, .A [1, 5, 6, 21, 22]), (14, .B [4])], [(4, 6), (12, 15)]⟩
def aOM : Ty := .pair we (.pair we .unit)
def aDE (F : Md) : aI := mSpec aOM (.one we) (fun x => aFz F x.1 x.2.1)
abbrev aFA (F : Md) : List (FuncId × aI) := [(135, dC), (141, (gO F)), (144, sV)]
theorem aTf [Mx] (F : Md) : bJ Tryz.prog GL (aFA F) := .cons nQ xAa (.cons (tZ F) xAa (.nat aIf (.nil)))
attribute [go_sem] aOM aMr
theorem aSn [Mx] (F : Md) : FOK Tryz.prog GL 145 (aDE F) := by
 refine bT (aU (aTf F)) mix Tryz.func145 rfl xAa xAc aMr fun w0 S x Θ hw h hF => ?_
 obtain ⟨(a_0 : qd), (b_1 : qd), u⟩ := x
 simp only [bX, go_sem]
 replace h : sat (aFz F a_0 b_1) _ := h
 unfold aFz at h
 refine eK hF (D := qd × qd) (fun d => sat (wE F d.1 d.2) Θ) [] (fun d => [(0, .val we d.1), (1, .val we d.2)]) (fun d => []) ?_ ?_
 ·simp only [go_sem]
  refine fO h (fun hc h => ?_) fun hc h => ?_
  ·exact aY (b_1, a_0) h rfl xAb
  ·exact aY (a_0, b_1) h rfl xAb
 ·rintro ⟨a_3, b_4⟩ h
  simp only [go_sem]
  replace h : sat (wE F a_3 b_4) _ := h
  unfold wE at h
  refine bD h fun g0 h => ?_
  obtain ⟨g0, h⟩ := aQ h
  repeat (refine ⟨by omega, ?_⟩)
  refine aJK [1] rfl rfl (yaA ?_)
  refine cI hF (D := Nat × Int × qd) [1, 21] (fun d => [(5, .own 0), (6, .val qx d.1), (22, .val qe d.2.1)]) (fun d => [.inr (.row 169 qx d.2.2)]) h rfl xAb ?_
  rintro ⟨carry_12, x22_13, out_14⟩ A6 T6 hA6 hE6 h
  simp only [go_sem]
  replace h : sat (aEc F a_3 b_4 carry_12 x22_13 out_14) _ := h
  unfold aEc at h
  refine fO h (fun hc h => ?_) fun hc h => ?_
  ·refine eK hF (D := Nat) (fun d => sat (wD F x22_13 out_14 carry_12 d) T6) [1, 6, 7, 21, 22] (fun d => [(5, .own 0), (8, .val qx d)]) (fun d => [.inr (.row 169 qx out_14)]) ?_ ?_
   ·simp only [go_sem]
    refine fO h (fun hc h => ?_) fun hc h => ?_
    ·obtain ⟨g0, h⟩ := aQ h
     repeat (refine ⟨by omega, ?_⟩)
     exact aY (b_4.getD (x22_13.toNat) (0 : Nat)) h rfl xAb
    ·refine fC h (fun hc h => ?_) fun hc h => ?_
     ·replace h := yaF (hE6 _ (aE h))
      obtain ⟨v_23, hv, h⟩ := aO h
      exact zaR
     ·exact aY (0 : Nat) h rfl xAb
   ·rintro x_21 h
    simp only [go_sem]
    replace h : sat (wD F x22_13 out_14 carry_12 x_21) _ := h
    unfold wD at h
    obtain ⟨g0, h⟩ := aQ h
    repeat (refine ⟨by omega, ?_⟩)
    obtain ⟨g0, h⟩ := aQ h
    repeat (refine ⟨by omega, ?_⟩)
    obtain ⟨g0, h⟩ := aQ h
    repeat (refine ⟨by omega, ?_⟩)
    refine bD h fun g0 h => ?_
    replace h := hA6 _ (aE h)
    exact zaK
  ·replace h := yaF (hE6 _ (aE h))
   obtain ⟨v_25, hv, h⟩ := aO h
   exact zaR
attribute [go_sem] aDE
def zE (F : Md) (x22_46 : Int) (b_1 : qd) (carry_86 : Nat) (out_87 : qd) : Option ((Int × qd) ⊕ qd) :=
 ck (I64 (x22_46 + (b_1.length : Int))) (ck (0 ≤ (x22_46 + (b_1.length : Int)) ∧ (x22_46 + (b_1.length : Int)) < (out_87.length : Int)) (ck (I64 (x22_46 + (1 : Int))) (some (.inl ((x22_46 + (1 : Int)), (out_87.set (x22_46 + (b_1.length : Int)).toNat carry_86))))))
def aC3 (F : Md) (b_1 : qd) (a_0 : qd) (x22_46 : Int) (carry_90 : Nat) (x29_91 : Int) (out_92 : qd) : Option ((Nat × Int × qd) ⊕ (Nat × qd)) :=
 if x29_91 < (b_1.length : Int) then ck (0 ≤ x29_91 ∧ x29_91 < (b_1.length : Int)) ((aCe F (a_0.getD (x22_46.toNat) (0 : Nat)) (b_1.getD (x29_91.toNat) (0 : Nat))).bind (fun v_105 => ck (aQ7 v_105.2.1 carry_90 (0 : Nat)) (ck (I64 (x22_46 + x29_91)) (ck (I64 (x22_46 + x29_91)) (ck (0 ≤ (x22_46 + x29_91) ∧ (x22_46 + x29_91) < (out_92.length : Int)) (ck (aQ7 (out_92.getD (x22_46 + x29_91).toNat (0 : Nat)) (aFt v_105.2.1 carry_90 (0 : Nat)).1 (0 : Nat)) (ck (0 ≤ (x22_46 + x29_91) ∧ (x22_46 + x29_91) < (out_92.length : Int)) (ck (I64 (x29_91 + (1 : Int))) (some (.inl (((((v_105.1 + (aFt v_105.2.1 carry_90 (0 : Nat)).2.1) % 18446744073709551616) + (aFt (out_92.getD (x22_46 + x29_91).toNat (0 : Nat)) (aFt v_105.2.1 carry_90 (0 : Nat)).1 (0 : Nat)).2.1) % 18446744073709551616), (x29_91 + (1 : Int)), (out_92.set (x22_46 + x29_91).toNat (aFt (out_92.getD (x22_46 + x29_91).toNat (0 : Nat)) (aFt v_105.2.1 carry_90 (0 : Nat)).1 (0 : Nat)).1)))))))))))) else some (.inr (carry_90, out_92))
def aC4 (F : Md) (a_0 : qd) (b_1 : qd) (x22_46 : Int) (out_47 : qd) : Option ((Int × qd) ⊕ qd) :=
 if x22_46 < (a_0.length : Int) then ck (0 ≤ x22_46 ∧ x22_46 < (a_0.length : Int)) ((eH F (fun d : Nat × Int × qd => aC3 F b_1 a_0 x22_46 d.1 d.2.1 d.2.2) ((0 : Nat), (0 : Int), out_47)).bind (fun e => zE F x22_46 b_1 e.1 e.2)) else some (.inr out_47)
def kI (F : Md) (a_0 : qd) (b_1 : qd) : Option qd :=
 ck (I64 ((a_0.length : Int) + (b_1.length : Int))) (ck (0 ≤ ((a_0.length : Int) + (b_1.length : Int))) (ck ((8 : Int) * ((a_0.length : Int) + (b_1.length : Int)) ≤ 281474976710656) ((eH F (fun d : Int × qd => aC4 F a_0 b_1 d.1 d.2) ((0 : Int), (List.replicate ((a_0.length : Int) + (b_1.length : Int)).toNat (0 : Nat)))).bind (fun e => (kB F e).bind (fun v_109 => some v_109)))))
def aJT : PlR := ⟨[(0, .A [0, 1]), (1, .B [0, 1, 5]), (2, .A [1, 5, 20, 21, 22]), (3, .A [1, 5, 20, 21, 22, 23]), (4, .A [1, 5, 6, 7, 20, 21, 22]), (5, .A [1, 5, 6, 7, 8, 20, 21, 22]), (6, .A [1, 5, 6, 7, 8, 20, 21, 22, 27, 28, 29]), (7, .A [1, 5, 6, 7, 8, 20, 21, 22, 27, 28, 29, 30]), (8, .A [1, 5, 6, 7, 8, 9, 10, 20, 21, 22, 27, 28, 29]), (9, .A [1, 5, 6, 7, 8, 9, 11, 12, 20, 21, 22, 27, 28, 29]), (10, .A [1, 5, 6, 7, 8, 9, 11, 12, 20, 21, 22, 27, 28, 29]), (11, .A [1, 5, 6, 7, 9, 11, 12, 13, 20, 21, 22, 27, 28, 29]), (12, .A [1, 5, 6, 7, 9, 11, 12, 20, 21, 22, 27, 28, 29]), (13, .B [1, 5, 6, 7, 11, 13, 20, 21, 22, 27, 28, 29]), (14, .A [1, 5, 6, 7, 8, 20, 21, 22, 27, 28, 29]), (15, .A [1, 5, 6, 7, 8, 20, 21, 22, 27, 28, 29]), (16, .B [1, 5, 20, 21, 22]), (17, .A [1, 5, 20, 21, 22]), (18, .B [4])], [(9, 19)]⟩
def aMs : Ty := .pair we (.pair we .unit)
def gW (F : Md) : aI := mSpec aMs (.one we) (fun x => kI F x.1 x.2.1)
abbrev aDF (F : Md) : List (FuncId × aI) := [(141, (gO F)), (143, (aAV F)), (144, sV)]
theorem aSo [Mx] (F : Md) : bJ Tryz.prog GL (aDF F) := .cons (tZ F) xAa (.cons (aPG F) xAa (.nat aIf (.nil)))
attribute [go_sem] aMs aJT
theorem uQ [Mx] (F : Md) : FOK Tryz.prog GL 104 (gW F) := by
 refine bT (aU (aSo F)) mix Tryz.func104 rfl xAa xAc aJT fun w0 S x Θ hw h hF => ?_
 obtain ⟨(a_0 : qd), (b_1 : qd), u⟩ := x
 simp only [bX, go_sem]
 replace h : sat (kI F a_0 b_1) _ := h
 unfold kI at h
 obtain ⟨g0, h⟩ := aQ h
 repeat (refine ⟨by omega, ?_⟩)
 obtain ⟨g0, h⟩ := aQ h
 obtain ⟨g1, h⟩ := aQ h
 repeat (refine ⟨by omega, ?_⟩)
 refine cI hF (D := Int × qd) [1, 20, 21] (fun d => [(5, .own 0), (22, .val qe d.1)]) (fun d => [.inr (.row 169 qx d.2)]) h rfl xAb ?_
 rintro ⟨x22_46, out_47⟩ A3 T3 hA3 hE3 h
 simp only [go_sem]
 replace h : sat (aC4 F a_0 b_1 x22_46 out_47) _ := h
 unfold aC4 at h
 refine fO h (fun hc h => ?_) fun hc h => ?_
 ·obtain ⟨g0, h⟩ := aQ h
  repeat (refine ⟨by omega, ?_⟩)
  refine eK hF (D := Nat × qd) (fun d => sat (zE F x22_46 b_1 d.1 d.2) T3) [1, 6, 20, 21, 22] (fun d => [(5, .own 0), (8, .val qx d.1)]) (fun d => [.inr (.row 169 qx d.2)]) ?_ ?_
  ·simp only [go_sem]
   refine cI hF (D := Nat × Int × qd) [1, 6, 7, 20, 21, 22, 27, 28] (fun d => [(5, .own 0), (8, .val qx d.1), (29, .val qe d.2.1)]) (fun d => [.inr (.row 169 qx d.2.2)]) h rfl xAb ?_
   rintro ⟨carry_90, x29_91, out_92⟩ A7 T7 hA7 hE7 h
   simp only [go_sem]
   replace h : sat (aC3 F b_1 a_0 x22_46 carry_90 x29_91 out_92) _ := h
   unfold aC3 at h
   refine fO h (fun hc h => ?_) fun hc h => ?_
   ·obtain ⟨g0, h⟩ := aQ h
    repeat (refine ⟨by omega, ?_⟩)
    obtain ⟨v_105, hv, h⟩ := aO h
    try simp only [hv, go_sem]
    obtain ⟨g0, h⟩ := aQ h
    repeat (refine ⟨by omega, ?_⟩)
    obtain ⟨g0, h⟩ := aQ h
    repeat (refine ⟨by omega, ?_⟩)
    obtain ⟨g0, h⟩ := aQ h
    repeat (refine ⟨by omega, ?_⟩)
    obtain ⟨g0, h⟩ := aQ h
    repeat (refine ⟨by omega, ?_⟩)
    obtain ⟨g0, h⟩ := aQ h
    repeat (refine ⟨by omega, ?_⟩)
    obtain ⟨g0, h⟩ := aQ h
    repeat (refine ⟨by omega, ?_⟩)
    obtain ⟨g0, h⟩ := aQ h
    repeat (refine ⟨by omega, ?_⟩)
    replace h := hA7 _ (aE h)
    exact zaK
   ·replace h := yaF (hE7 _ (aE h))
    exact aY (carry_90, out_92) h rfl xAb
  ·rintro ⟨carry_86, out_87⟩ h
   simp only [go_sem]
   replace h : sat (zE F x22_46 b_1 carry_86 out_87) _ := h
   unfold zE at h
   obtain ⟨g0, h⟩ := aQ h
   repeat (refine ⟨by omega, ?_⟩)
   obtain ⟨g0, h⟩ := aQ h
   repeat (refine ⟨by omega, ?_⟩)
   obtain ⟨g0, h⟩ := aQ h
   try simp only [I64, I32] at g0
   repeat (refine ⟨zAA, ?_⟩)
   replace h := hA3 _ (aE h)
   exact zaK
 ·replace h := yaF (hE3 _ (aE h))
  obtain ⟨v_107, hv, h⟩ := aO h
  exact zaR
attribute [go_sem] gW
def aEd (F : Md) (a_0 : qd) (n_1 : Int) (x20_7 : Int) (out_8 : qd) : Option ((Int × qd) ⊕ qd) :=
 if x20_7 < (a_0.length : Int) then ck (0 ≤ x20_7 ∧ x20_7 < (a_0.length : Int)) (ck (I64 (Int.tdiv n_1 (64 : Int))) (ck (I64 ((Int.tdiv n_1 (64 : Int)) + x20_7)) (ck (0 ≤ ((Int.tdiv n_1 (64 : Int)) + x20_7) ∧ ((Int.tdiv n_1 (64 : Int)) + x20_7) < (out_8.length : Int)) (ck (0 ≤ ((Int.tdiv n_1 (64 : Int)) + x20_7) ∧ ((Int.tdiv n_1 (64 : Int)) + x20_7) < (out_8.length : Int)) (ck (I64 (Int.tdiv n_1 (64 : Int))) (ck (I64 ((Int.tdiv n_1 (64 : Int)) + x20_7)) (ck (I64 (((Int.tdiv n_1 (64 : Int)) + x20_7) + (1 : Int))) (ck (0 ≤ (((Int.tdiv n_1 (64 : Int)) + x20_7) + (1 : Int)) ∧ (((Int.tdiv n_1 (64 : Int)) + x20_7) + (1 : Int)) < (((out_8.set ((Int.tdiv n_1 (64 : Int)) + x20_7).toNat ((out_8.getD ((Int.tdiv n_1 (64 : Int)) + x20_7).toNat (0 : Nat)) ||| (((a_0.getD (x20_7.toNat) (0 : Nat)) * (2 ^ ((Int.tmod n_1 (64 : Int)) % (18446744073709551616 : Int)).toNat)) % 18446744073709551616))).length : Nat) : Int)) (ck (I64 ((63 : Int) - (Int.tmod n_1 (64 : Int)))) (ck (0 ≤ (((Int.tdiv n_1 (64 : Int)) + x20_7) + (1 : Int)) ∧ (((Int.tdiv n_1 (64 : Int)) + x20_7) + (1 : Int)) < (((out_8.set ((Int.tdiv n_1 (64 : Int)) + x20_7).toNat ((out_8.getD ((Int.tdiv n_1 (64 : Int)) + x20_7).toNat (0 : Nat)) ||| (((a_0.getD (x20_7.toNat) (0 : Nat)) * (2 ^ ((Int.tmod n_1 (64 : Int)) % (18446744073709551616 : Int)).toNat)) % 18446744073709551616))).length : Nat) : Int)) (ck (I64 (x20_7 + (1 : Int))) (some (.inl ((x20_7 + (1 : Int)), ((out_8.set ((Int.tdiv n_1 (64 : Int)) + x20_7).toNat ((out_8.getD ((Int.tdiv n_1 (64 : Int)) + x20_7).toNat (0 : Nat)) ||| (((a_0.getD (x20_7.toNat) (0 : Nat)) * (2 ^ ((Int.tmod n_1 (64 : Int)) % (18446744073709551616 : Int)).toNat)) % 18446744073709551616))).set (((Int.tdiv n_1 (64 : Int)) + x20_7) + (1 : Int)).toNat (((out_8.set ((Int.tdiv n_1 (64 : Int)) + x20_7).toNat ((out_8.getD ((Int.tdiv n_1 (64 : Int)) + x20_7).toNat (0 : Nat)) ||| (((a_0.getD (x20_7.toNat) (0 : Nat)) * (2 ^ ((Int.tmod n_1 (64 : Int)) % (18446744073709551616 : Int)).toNat)) % 18446744073709551616))).getD (((Int.tdiv n_1 (64 : Int)) + x20_7) + (1 : Int)).toNat (0 : Nat)) ||| (((a_0.getD (x20_7.toNat) (0 : Nat)) / (2 : Nat)) / (2 ^ (((63 : Int) - (Int.tmod n_1 (64 : Int))) % (18446744073709551616 : Int)).toNat)))))))))))))))))) else some (.inr out_8)
def lZ (F : Md) (a_0 : qd) (n_1 : Int) : Option qd :=
 if (a_0.length : Int) = (0 : Int) then some ([] : List Nat) else ck (I64 (Int.tdiv n_1 (64 : Int))) (ck (I64 ((Int.tdiv n_1 (64 : Int)) + (a_0.length : Int))) (ck (I64 (((Int.tdiv n_1 (64 : Int)) + (a_0.length : Int)) + (1 : Int))) (ck (0 ≤ (((Int.tdiv n_1 (64 : Int)) + (a_0.length : Int)) + (1 : Int))) (ck ((8 : Int) * (((Int.tdiv n_1 (64 : Int)) + (a_0.length : Int)) + (1 : Int)) ≤ 281474976710656) ((eH F (fun d : Int × qd => aEd F a_0 n_1 d.1 d.2) ((0 : Int), (List.replicate (((Int.tdiv n_1 (64 : Int)) + (a_0.length : Int)) + (1 : Int)).toNat (0 : Nat)))).bind (fun e => (kB F e).bind (fun v_15 => some v_15)))))))
def aMt : PlR := ⟨[(0, .A [0, 1]), (1, .A [0, 1, 10]), (2, .A [4]), (3, .B [0, 1, 5]), (4, .A [1, 5, 18, 19, 20]), (5, .A [1, 5, 18, 19, 20, 21]), (6, .A [1, 5, 6, 7, 18, 19, 20]), (7, .B [1, 5, 6, 7, 18, 19, 20]), (8, .B [1, 5, 18, 19, 20]), (9, .A [1, 5, 18, 19, 20]), (10, .B [4])], []⟩
def aOQ : Ty := .pair we q9
def yD (F : Md) : aI := mSpec aOQ (.one we) (fun x => lZ F x.1 x.2.1)
abbrev aOR (F : Md) : List (FuncId × aI) := [(141, (gO F))]
theorem aTg [Mx] (F : Md) : bJ Tryz.prog GL (aOR F) := .cons (tZ F) xAa (.nil)
attribute [go_sem] aOQ aMt
theorem aMu [Mx] (F : Md) : FOK Tryz.prog GL 139 (yD F) := by
 refine bT (aU (aTg F)) mix Tryz.func139 rfl xAa xAc aMt fun w0 S x Θ hw h hF => ?_
 obtain ⟨(a_0 : qd), (n_1 : Int), u⟩ := x
 simp only [bX, go_sem]
 replace h : sat (lZ F a_0 n_1) _ := h
 unfold lZ at h
 refine fC h (fun hc h => ?_) fun hc h => ?_
 ·exact aK hF [.tmp 4] rfl rfl rfl (aE h) xAd
 ·obtain ⟨g0, h⟩ := aQ h
  try simp only [I64, I32] at g0
  repeat (refine ⟨zAA, ?_⟩)
  obtain ⟨g0, h⟩ := aQ h
  try simp only [I64, I32] at g0
  repeat (refine ⟨zAA, ?_⟩)
  obtain ⟨g0, h⟩ := aQ h
  try simp only [I64, I32] at g0
  repeat (refine ⟨zAA, ?_⟩)
  obtain ⟨g0, h⟩ := aQ h
  obtain ⟨g1, h⟩ := aQ h
  repeat (refine ⟨zAA, ?_⟩)
  refine cI hF (D := Int × qd) [1, 18, 19] (fun d => [(5, .own 0), (20, .val qe d.1)]) (fun d => [.inr (.row 169 qx d.2)]) h rfl xAb ?_
  rintro ⟨x20_7, out_8⟩ A5 T5 hA5 hE5 h
  simp only [go_sem]
  replace h : sat (aEd F a_0 n_1 x20_7 out_8) _ := h
  unfold aEd at h
  refine fO h (fun hc h => ?_) fun hc h => ?_
  ·obtain ⟨g0, h⟩ := aQ h
   repeat (refine ⟨zAA, ?_⟩)
   obtain ⟨g0, h⟩ := aQ h
   try simp only [I64, I32] at g0
   repeat (refine ⟨zAA, ?_⟩)
   obtain ⟨g0, h⟩ := aQ h
   try simp only [I64, I32] at g0
   repeat (refine ⟨zAA, ?_⟩)
   obtain ⟨g0, h⟩ := aQ h
   repeat (refine ⟨zAA, ?_⟩)
   obtain ⟨g0, h⟩ := aQ h
   repeat (refine ⟨zAA, ?_⟩)
   obtain ⟨g0, h⟩ := aQ h
   try simp only [I64, I32] at g0
   repeat (refine ⟨zAA, ?_⟩)
   obtain ⟨g0, h⟩ := aQ h
   try simp only [I64, I32] at g0
   repeat (refine ⟨zAA, ?_⟩)
   obtain ⟨g0, h⟩ := aQ h
   try simp only [I64, I32] at g0
   repeat (refine ⟨zAA, ?_⟩)
   obtain ⟨g0, h⟩ := aQ h
   repeat (refine ⟨zAA, ?_⟩)
   obtain ⟨g0, h⟩ := aQ h
   try simp only [I64, I32] at g0
   repeat (refine ⟨zAA, ?_⟩)
   obtain ⟨g0, h⟩ := aQ h
   repeat (refine ⟨zAA, ?_⟩)
   obtain ⟨g0, h⟩ := aQ h
   try simp only [I64, I32] at g0
   repeat (refine ⟨zAA, ?_⟩)
   replace h := hA5 _ (aE h)
   exact zav
  ·replace h := yaF (hE5 _ (aE h))
   obtain ⟨v_13, hv, h⟩ := aO h
   exact zaR
attribute [go_sem] yD
def aC5 (F : Md) (n_1 : Int) (a_0 : qd) (x22_10 : Int) (out_11 : qd) : Option ((Int × qd) ⊕ qd) :=
 if x22_10 < (((List.drop (Int.tdiv n_1 (64 : Int)).toNat a_0).length : Nat) : Int) then ck (0 ≤ x22_10 ∧ x22_10 < (((List.drop (Int.tdiv n_1 (64 : Int)).toNat a_0).length : Nat) : Int)) (ck (0 ≤ x22_10 ∧ x22_10 < (out_11.length : Int)) (ck (I64 (x22_10 + (1 : Int))) (if (x22_10 + (1 : Int)) < (((List.drop (Int.tdiv n_1 (64 : Int)).toNat a_0).length : Nat) : Int) then ck (0 ≤ x22_10 ∧ x22_10 < (((out_11.set (x22_10.toNat) (((List.drop (Int.tdiv n_1 (64 : Int)).toNat a_0).getD (x22_10.toNat) (0 : Nat)) / (2 ^ ((Int.tmod n_1 (64 : Int)) % (18446744073709551616 : Int)).toNat))).length : Nat) : Int)) (ck (I64 (x22_10 + (1 : Int))) (ck (0 ≤ (x22_10 + (1 : Int)) ∧ (x22_10 + (1 : Int)) < (((List.drop (Int.tdiv n_1 (64 : Int)).toNat a_0).length : Nat) : Int)) (ck (I64 ((63 : Int) - (Int.tmod n_1 (64 : Int)))) (ck (0 ≤ x22_10 ∧ x22_10 < (((out_11.set (x22_10.toNat) (((List.drop (Int.tdiv n_1 (64 : Int)).toNat a_0).getD (x22_10.toNat) (0 : Nat)) / (2 ^ ((Int.tmod n_1 (64 : Int)) % (18446744073709551616 : Int)).toNat))).length : Nat) : Int)) (ck (I64 (x22_10 + (1 : Int))) (some (.inl ((x22_10 + (1 : Int)), ((out_11.set (x22_10.toNat) (((List.drop (Int.tdiv n_1 (64 : Int)).toNat a_0).getD (x22_10.toNat) (0 : Nat)) / (2 ^ ((Int.tmod n_1 (64 : Int)) % (18446744073709551616 : Int)).toNat))).set (x22_10.toNat) (((out_11.set (x22_10.toNat) (((List.drop (Int.tdiv n_1 (64 : Int)).toNat a_0).getD (x22_10.toNat) (0 : Nat)) / (2 ^ ((Int.tmod n_1 (64 : Int)) % (18446744073709551616 : Int)).toNat))).getD (x22_10.toNat) (0 : Nat)) ||| ((((((List.drop (Int.tdiv n_1 (64 : Int)).toNat a_0).getD (x22_10 + (1 : Int)).toNat (0 : Nat)) * (2 : Nat)) % 18446744073709551616) * (2 ^ (((63 : Int) - (Int.tmod n_1 (64 : Int))) % (18446744073709551616 : Int)).toNat)) % 18446744073709551616))))))))))) else ck (I64 (x22_10 + (1 : Int))) (some (.inl ((x22_10 + (1 : Int)), (out_11.set (x22_10.toNat) (((List.drop (Int.tdiv n_1 (64 : Int)).toNat a_0).getD (x22_10.toNat) (0 : Nat)) / (2 ^ ((Int.tmod n_1 (64 : Int)) % (18446744073709551616 : Int)).toNat))))))))) else some (.inr out_11)
def oG (F : Md) (a_0 : qd) (n_1 : Int) : Option qd :=
 ck (I64 (Int.tdiv n_1 (64 : Int))) (if (a_0.length : Int) ≤ (Int.tdiv n_1 (64 : Int)) then some ([] : List Nat) else ck (I64 (Int.tdiv n_1 (64 : Int))) (ck (0 ≤ (Int.tdiv n_1 (64 : Int)) ∧ (Int.tdiv n_1 (64 : Int)) ≤ (a_0.length : Int)) (ck (0 ≤ (((List.drop (Int.tdiv n_1 (64 : Int)).toNat a_0).length : Nat) : Int)) (ck ((8 : Int) * (((List.drop (Int.tdiv n_1 (64 : Int)).toNat a_0).length : Nat) : Int) ≤ 281474976710656) ((eH F (fun d : Int × qd => aC5 F n_1 a_0 d.1 d.2) ((0 : Int), (List.replicate (List.drop (Int.tdiv n_1 (64 : Int)).toNat a_0).length (0 : Nat)))).bind (fun e => (kB F e).bind (fun v_19 => some v_19)))))))
def aJU : PlR := ⟨[(0, .A [0, 1]), (1, .A [0, 1, 12]), (2, .A [4]), (3, .A [0, 1]), (4, .B [0, 1, 5]), (5, .A [0, 1, 5, 20, 21, 22]), (6, .A [0, 1, 5, 20, 21, 22, 23]), (7, .A [0, 1, 5, 6, 7, 20, 21, 22]), (8, .B [0, 1, 5, 6, 20, 21, 22]), (9, .A [0, 1, 5, 6, 20, 21, 22, 39]), (10, .C 17 [0, 1, 5, 20, 21, 22]), (11, .A [0, 1, 5, 20, 21, 22]), (12, .B [4])], []⟩
def aMv : Ty := .pair we q9
def uR (F : Md) : aI := mSpec aMv (.one we) (fun x => oG F x.1 x.2.1)
abbrev aMw (F : Md) : List (FuncId × aI) := [(141, (gO F))]
theorem aSp [Mx] (F : Md) : bJ Tryz.prog GL (aMw F) := .cons (tZ F) xAa (.nil)
attribute [go_sem] aMv aJU
theorem aJV [Mx] (F : Md) : FOK Tryz.prog GL 142 (uR F) := by
 refine bT (aU (aSp F)) mix Tryz.func142 rfl xAa xAc aJU fun w0 S x Θ hw h hF => ?_
 obtain ⟨(a_0 : qd), (n_1 : Int), u⟩ := x
 simp only [bX, go_sem]
 replace h : sat (oG F a_0 n_1) _ := h
 unfold oG at h
 obtain ⟨g0, h⟩ := aQ h
 try simp only [I64, I32] at g0
 repeat (refine ⟨zAA, ?_⟩)
 refine aS3 h (fun hc h => ?_) fun hc h => ?_
 ·exact aK hF [.tmp 4] rfl rfl rfl (aE h) xAd
 ·obtain ⟨g0, h⟩ := aQ h
  obtain ⟨g1, h⟩ := aQ h
  try simp only [I64, I32] at g0
  repeat (refine ⟨zAA, ?_⟩)
  obtain ⟨g0, h⟩ := aQ h
  obtain ⟨g1, h⟩ := aQ h
  repeat (refine ⟨zAA, ?_⟩)
  refine cI hF (D := Int × qd) [0, 1, 20, 21] (fun d => [(5, .own 0), (22, .val qe d.1)]) (fun d => [.inr (.row 169 qx d.2)]) h rfl xAb ?_
  rintro ⟨x22_10, out_11⟩ A6 T6 hA6 hE6 h
  simp only [go_sem]
  replace h : sat (aC5 F n_1 a_0 x22_10 out_11) _ := h
  unfold aC5 at h
  refine fO h (fun hc h => ?_) fun hc h => ?_
  ·obtain ⟨g0, h⟩ := aQ h
   repeat (refine ⟨zAA, ?_⟩)
   obtain ⟨g0, h⟩ := aQ h
   repeat (refine ⟨zAA, ?_⟩)
   obtain ⟨g0, h⟩ := aQ h
   try simp only [I64, I32] at g0
   repeat (refine ⟨zAA, ?_⟩)
   refine ⟨fun hc => ?_, fun hc => ?_⟩
   ·replace h := iG hc h
    obtain ⟨g0, h⟩ := aQ h
    obtain ⟨g1, h⟩ := aQ h
    obtain ⟨g2, h⟩ := aQ h
    obtain ⟨g3, h⟩ := aQ h
    obtain ⟨g4, h⟩ := aQ h
    try simp only [I64, I32] at g1
    try simp only [I64, I32] at g3
    repeat (refine ⟨zAA, ?_⟩)
    obtain ⟨g0, h⟩ := aQ h
    try simp only [I64, I32] at g0
    repeat (refine ⟨zAA, ?_⟩)
    replace h := hA6 _ (aE h)
    exact zav
   ·replace h := iH (by first | exact hc | omega) h
    obtain ⟨g0, h⟩ := aQ h
    try simp only [I64, I32] at g0
    repeat (refine ⟨zAA, ?_⟩)
    replace h := hA6 _ (aE h)
    exact zaK
  ·replace h := yaF (hE6 _ (aE h))
   obtain ⟨v_17, hv, h⟩ := aO h
   exact zaR
attribute [go_sem] uR
def zF (F : Md) (rest_11 : Nat) (q_12 : qd) : Option qv :=
 (kB F q_12).bind (fun v_15 => (kB F ([rest_11] : List Nat)).bind (fun v_16 => some (v_15, v_16, ())))
def aC6 (F : Md) (a_0 : qd) (b_1 : Nat) (rest_18 : Nat) (i_19 : Int) (q_20 : qd) : Option ((Nat × Int × qd) ⊕ (Nat × qd)) :=
 if (0 : Int) ≤ i_19 then ck (0 ≤ i_19 ∧ i_19 < (a_0.length : Int)) ((aCf F rest_18 (a_0.getD (i_19.toNat) (0 : Nat)) b_1).bind (fun v_28 => ck (0 ≤ i_19 ∧ i_19 < (q_20.length : Int)) (ck (I64 (i_19 - (1 : Int))) (some (.inl (v_28.2.1, (i_19 - (1 : Int)), (q_20.set (i_19.toNat) v_28.1))))))) else some (.inr (rest_18, q_20))
def yE (F : Md) (a_0 : qd) (b_1 : Nat) : Option qv :=
 ck (0 ≤ (a_0.length : Int)) (ck ((8 : Int) * (a_0.length : Int) ≤ 281474976710656) (ck (I64 ((a_0.length : Int) - (1 : Int))) ((eH F (fun d : Nat × Int × qd => aC6 F a_0 b_1 d.1 d.2.1 d.2.2) ((0 : Nat), ((a_0.length : Int) - (1 : Int)), (List.replicate (a_0.length) (0 : Nat)))).bind (fun e => zF F e.1 e.2))))
def aJW : PlR := ⟨[(0, .A [0, 1]), (1, .B [0, 1, 6]), (2, .A [0, 1, 6, 7]), (3, .A [0, 1, 6, 7, 8]), (4, .A [0, 1, 6, 7, 8, 16]), (5, .A [0, 1, 6, 7, 8]), (6, .B [0, 1, 6, 7, 8]), (7, .B [4, 5])], [(6, 10)]⟩
def aMx : Ty := .pair we (.pair qx .unit)
def aCh (F : Md) : aI := mSpec aMx (.tup (.pair we (.pair we .unit))) (fun x => yE F x.1 x.2.1)
abbrev aG6 (F : Md) : List (FuncId × aI) := [(141, (gO F)), (173, (aAW F))]
theorem aSq [Mx] (F : Md) : bJ Tryz.prog GL (aG6 F) := .cons (tZ F) xAa (.cons (aPH F) xAa (.nil))
attribute [go_sem] aMx aJW
theorem aRf [Mx] (F : Md) : FOK Tryz.prog GL 136 (aCh F) := by
 refine bT (aU (aSq F)) mix Tryz.func136 rfl xAa xAc aJW fun w0 S x Θ hw h hF => ?_
 obtain ⟨(a_0 : qd), (b_1 : Nat), u⟩ := x
 simp only [bX, go_sem]
 replace h : sat (yE F a_0 b_1) _ := h
 unfold yE at h
 obtain ⟨g0, h⟩ := aQ h
 obtain ⟨g1, h⟩ := aQ h
 repeat (refine ⟨by omega, ?_⟩)
 refine eK hF (D := Nat × qd) (fun d => sat (zF F d.1 d.2) Θ) [] (fun d => [(6, .own 0), (7, .val qx d.1)]) (fun d => [.inr (.row 169 qx d.2)]) ?_ ?_
 ·simp only [go_sem]
  obtain ⟨g0, h⟩ := aQ h
  repeat (refine ⟨by omega, ?_⟩)
  refine cI hF (D := Nat × Int × qd) [0, 1] (fun d => [(6, .own 0), (7, .val qx d.1), (8, .val qe d.2.1)]) (fun d => [.inr (.row 169 qx d.2.2)]) h rfl xAb ?_
  rintro ⟨rest_18, i_19, q_20⟩ A4 T4 hA4 hE4 h
  simp only [go_sem]
  replace h : sat (aC6 F a_0 b_1 rest_18 i_19 q_20) _ := h
  unfold aC6 at h
  refine aS3 h (fun hc h => ?_) fun hc h => ?_
  ·obtain ⟨g0, h⟩ := aQ h
   repeat (refine ⟨by omega, ?_⟩)
   obtain ⟨v_28, hv, h⟩ := aO h
   try simp only [hv, go_sem]
   obtain ⟨g0, h⟩ := aQ h
   repeat (refine ⟨by omega, ?_⟩)
   obtain ⟨g0, h⟩ := aQ h
   repeat (refine ⟨by omega, ?_⟩)
   replace h := hA4 _ (aE h)
   exact zaK
  ·replace h := yaF (hE4 _ (aE h))
   exact aY (rest_18, q_20) h rfl xAb
 ·rintro ⟨rest_11, q_12⟩ h
  simp only [go_sem]
  replace h : sat (zF F rest_11 q_12) _ := h
  unfold zF at h
  obtain ⟨v_15, hv, h⟩ := aO h
  try simp only [hv, go_sem]
  obtain ⟨v_16, hv, h⟩ := aO h
  try simp only [hv, go_sem]
  exact aK hF [.tmp 4, .tmp 5] rfl rfl rfl (aE h) xAd
attribute [go_sem] aCh
def nS (F : Md) (a_0 : qd) (n_1 : Int) : Option qd :=
 ck (aWd a_0) (ck (I64 (n_1 - (a_0.length : Int))) (ck (0 ≤ (n_1 - (a_0.length : Int))) (ck (((id a_0).length + (n_1 - (a_0.length : Int)).toNat) * 8 ≤ 140737488355328) (some ((id a_0) ++ (List.replicate (n_1 - (a_0.length : Int)).toNat (0 : Nat)))))))
def aIj : PlR := ⟨[(0, .A [0, 1]), (1, .B [4])], []⟩
def aJX : Ty := .pair we q9
def aAX (F : Md) : aI := mSpec aJX (.one we) (fun x => nS F x.1 x.2.1)
abbrev aJY (F : Md) : List (FuncId × aI) := [(135, dC)]
theorem aRg [Mx] (F : Md) : bJ Tryz.prog GL (aJY F) := .cons nQ xAa (.nil)
attribute [go_sem] aJX aIj
theorem aPI [Mx] (F : Md) : FOK Tryz.prog GL 138 (aAX F) := by
 refine bT (aU (aRg F)) mix Tryz.func138 rfl xAa xAc aIj fun w0 S x Θ hw h hF => ?_
 obtain ⟨(a_0 : qd), (n_1 : Int), u⟩ := x
 simp only [bX, go_sem]
 replace h : sat (nS F a_0 n_1) _ := h
 unfold nS at h
 refine bD h fun g0 h => ?_
 refine bD h fun g0 h => ?_
 obtain ⟨g0, h⟩ := aQ h
 obtain ⟨g1, h⟩ := aQ h
 repeat (refine ⟨by omega, ?_⟩)
 exact zaD
attribute [go_sem] aAX
def aBy (F : Md) (a_0 : qd) (b_1 : qd) : Option qv :=
 ck ((kB F (List.replicate (((a_0.length : Int) - (b_1.length : Int)) + (1 : Int)).toNat (0 : Nat))).isSome = true) (ck (0 ≤ (b_1.length : Int) ∧ (b_1.length : Int) ≤ ((((nS F ((lZ F a_0 ((cB F (b_1.getD ((b_1.length : Int) - (1 : Int)).toNat (0 : Nat))).getD (0 : Int))).getD ([] : List Nat)) ((a_0.length : Int) + (1 : Int))).getD ([] : List Nat)).length : Nat) : Int)) (ck ((kB F (List.take (b_1.length) ((nS F ((lZ F a_0 ((cB F (b_1.getD ((b_1.length : Int) - (1 : Int)).toNat (0 : Nat))).getD (0 : Int))).getD ([] : List Nat)) ((a_0.length : Int) + (1 : Int))).getD ([] : List Nat)))).isSome = true) (ck ((oG F ((kB F (List.take (b_1.length) ((nS F ((lZ F a_0 ((cB F (b_1.getD ((b_1.length : Int) - (1 : Int)).toNat (0 : Nat))).getD (0 : Int))).getD ([] : List Nat)) ((a_0.length : Int) + (1 : Int))).getD ([] : List Nat)))).getD ([] : List Nat)) ((cB F (b_1.getD ((b_1.length : Int) - (1 : Int)).toNat (0 : Nat))).getD (0 : Int))).isSome = true) (some (((kB F (List.replicate (((a_0.length : Int) - (b_1.length : Int)) + (1 : Int)).toNat (0 : Nat))).getD ([] : List Nat)), ((oG F ((kB F (List.take (b_1.length) ((nS F ((lZ F a_0 ((cB F (b_1.getD ((b_1.length : Int) - (1 : Int)).toNat (0 : Nat))).getD (0 : Int))).getD ([] : List Nat)) ((a_0.length : Int) + (1 : Int))).getD ([] : List Nat)))).getD ([] : List Nat)) ((cB F (b_1.getD ((b_1.length : Int) - (1 : Int)).toNat (0 : Nat))).getD (0 : Int))).getD ([] : List Nat)), ())))))
def aF6 (F : Md) (a_0 : qd) (b_1 : qd) : Option ((Unit) ⊕ (Unit)) :=
 if (0 : Int) ≤ ((a_0.length : Int) - (b_1.length : Int)) then none else some (.inr ())
def aCi (F : Md) (a_0 : qd) (b_1 : qd) : Option qv :=
 ck ((uA F a_0 b_1).isSome = true) (if ((uA F a_0 b_1).getD (0 : Int)) < (0 : Int) then ck (aWd a_0) (some (([] : List Nat), (id a_0), ())) else if (b_1.length : Int) = (1 : Int) then ck ((0 : Int) < (b_1.length : Int)) (ck ((yE F a_0 (b_1.getD (0 : Nat) (0 : Nat))).isSome = true) (some (((yE F a_0 (b_1.getD (0 : Nat) (0 : Nat))).getD (([] : List Nat), ([] : List Nat), ())).1, ((yE F a_0 (b_1.getD (0 : Nat) (0 : Nat))).getD (([] : List Nat), ([] : List Nat), ())).2.1, ()))) else ck (I64 ((b_1.length : Int) - (1 : Int))) (ck (0 ≤ ((b_1.length : Int) - (1 : Int)) ∧ ((b_1.length : Int) - (1 : Int)) < (b_1.length : Int)) (ck ((cB F (b_1.getD ((b_1.length : Int) - (1 : Int)).toNat (0 : Nat))).isSome = true) (ck ((lZ F b_1 ((cB F (b_1.getD ((b_1.length : Int) - (1 : Int)).toNat (0 : Nat))).getD (0 : Int))).isSome = true) (ck ((nS F ((lZ F b_1 ((cB F (b_1.getD ((b_1.length : Int) - (1 : Int)).toNat (0 : Nat))).getD (0 : Int))).getD ([] : List Nat)) (b_1.length : Int)).isSome = true) (ck ((lZ F a_0 ((cB F (b_1.getD ((b_1.length : Int) - (1 : Int)).toNat (0 : Nat))).getD (0 : Int))).isSome = true) (ck (I64 ((a_0.length : Int) + (1 : Int))) (ck ((nS F ((lZ F a_0 ((cB F (b_1.getD ((b_1.length : Int) - (1 : Int)).toNat (0 : Nat))).getD (0 : Int))).getD ([] : List Nat)) ((a_0.length : Int) + (1 : Int))).isSome = true) (ck (I64 ((a_0.length : Int) - (b_1.length : Int))) (ck (I64 (((a_0.length : Int) - (b_1.length : Int)) + (1 : Int))) (ck (0 ≤ (((a_0.length : Int) - (b_1.length : Int)) + (1 : Int))) (ck ((8 : Int) * (((a_0.length : Int) - (b_1.length : Int)) + (1 : Int)) ≤ 281474976710656) (ck (I64 ((a_0.length : Int) - (b_1.length : Int))) ((eH F (fun d : Unit => aF6 F a_0 b_1) ()).bind (fun e => aBy F a_0 b_1)))))))))))))))
@[go_sem]def aCj : Ty := .pair we (.pair we .unit)
def aAY (F : Md) : aI := mSpec aCj (.tup (.pair we (.pair we .unit))) (fun x => aCi F x.1 x.2.1)
abbrev mD (F : Md) : List (FuncId × aI) := [(114, (pX F)), (135, dC), (136, (aCh F)), (137, (fI F)), (138, (aAX F)), (139, (yD F)), (141, (gO F)), (142, (uR F))]
theorem aJZ [Mx] (F : Md) : bJ Tryz.prog GL (mD F) := .cons (aFy F) xAa (.cons nQ xAa (.cons (aRf F) xAa (.cons (rN F) xAa (.cons (aPI F) xAa (.cons (aMu F) xAa (.cons (tZ F) xAa (.cons (aJV F) xAa (.nil))))))))
theorem aPJ [Mx] (F : Md) : FOK Tryz.prog GL 103 (aAY F) := by
 refine sU (aU (aJZ F)) Tryz.func103 rfl xAa xAc fun w0 S x r hw h => ?_
 have hF : fT (fr Tryz.prog (EM (mD F)) S w0 Tryz.f103.ntmps) := ⟨aU (aJZ F), mix⟩
 obtain ⟨(a_0 : qd), (b_1 : qd), u⟩ := x
 simp only [aCj, Ty.wf, fF] at hw
 simp only [bX, aCj]
 try dsimp only at h
 replace h : aCi F a_0 b_1 = some r := h
 unfold aCi at h
 refine aB (aF hF [0, 1] (yaA ?_))
 refine aA (aB (aB (aF hF [0, 1, 15] (yaA ?_))))
 obtain ⟨g0, h⟩ := aR h
 repeat (refine ⟨zAA, ?_⟩)
 refine aA (bG rfl (fun hc => ?_) (fun hc => ?_))
 ·try simp only [go_sem] at hc
  have h := eB zAB h
  refine aB (aS hF [4, 5] (yaA ?_))
  obtain ⟨g0, h⟩ := aR h
  repeat (refine ⟨zAA, ?_⟩)
  obtain rfl := Option.some.inj h
  refine aA (cD (cR (jH hF [.tmp 4, .tmp 5] rfl rfl rfl ?_)))
  exact zAG
 ·try simp only [go_sem] at hc
  have h := eC zAB h
  refine cH (aA (aB (aB (aF hF [0, 1, 20] (yaA ?_)))))
  refine aA (bG rfl (fun hc => ?_) (fun hc => ?_))
  ·try simp only [go_sem] at hc
   have h := eB zAB h
   refine aB (aF hF [4, 5] (yaA ?_))
   obtain ⟨g0, h⟩ := aR h
   obtain ⟨g1, h⟩ := aR h
   repeat (refine ⟨zAA, ?_⟩)
   obtain rfl := Option.some.inj h
   refine aA (cD (cR (jH hF [.tmp 4, .tmp 5] rfl rfl rfl ?_)))
   exact zAG
  ·try simp only [go_sem] at hc
   have h := eC zAB h
   refine cH (aA (aB (aF hF [0, 1, 6, 7] (yaA ?_))))
   obtain ⟨g0, h⟩ := aR h
   obtain ⟨g1, h⟩ := aR h
   obtain ⟨g2, h⟩ := aR h
   try simp only [I64, I32] at g0
   repeat (refine ⟨zAA, ?_⟩)
   refine aA (aB (aF hF [0, 6, 7, 8, 9] (yaA ?_)))
   obtain ⟨g0, h⟩ := aR h
   obtain ⟨g1, h⟩ := aR h
   obtain ⟨g2, h⟩ := aR h
   obtain ⟨g3, h⟩ := aR h
   obtain ⟨g4, h⟩ := aR h
   try simp only [I64, I32] at g3
   repeat (refine ⟨zAA, ?_⟩)
   refine aA (aB (aS hF [0, 6, 7, 8, 9, 10] (yaA ?_)))
   obtain ⟨g0, h⟩ := aR h
   try simp only [I64, I32] at g0
   repeat (refine ⟨zAA, ?_⟩)
   obtain ⟨g0, h⟩ := aR h
   try simp only [I64, I32] at g0
   repeat (refine ⟨zAA, ?_⟩)
   obtain ⟨g0, h⟩ := aR h
   obtain ⟨g1, h⟩ := aR h
   repeat (refine ⟨zAA, ?_⟩)
   refine aA (qV (D := Unit) (fun d => aBy F a_0 b_1 = some r) [6, 7, 9] (fun d => [(10, .own 0)]) (fun d => [.inr (.row 169 qx (List.replicate (((a_0.length : Int) - (b_1.length : Int)) + (1 : Int)).toNat (0 : Nat)))]) ?_ ?_)
   ·refine aB (aF hF [6, 7, 8, 9, 10, 11] (yaA ?_))
    obtain ⟨g0, h⟩ := aR h
    try simp only [I64, I32] at g0
    repeat (refine ⟨zAA, ?_⟩)
    refine aA (eA (pQ (D := Unit) [6, 7, 8, 9, 11] (fun d => [(10, .own 0)]) (fun d => [.inr (.row 169 qx (List.replicate (((a_0.length : Int) - (b_1.length : Int)) + (1 : Int)).toNat (0 : Nat)))]) h ?_ ?_ ?_))
    ·first | rfl | (simp only [go_sem]; done)
    ·exact zAF
    rintro u s9 h hs9
    simp only [go_sem]
    try dsimp only at h
    unfold aF6 at h
    refine aB (aB (aF hF [6, 7, 8, 9, 10, 11, 60] (yaA ?_)))
    refine aA (bG rfl (fun hc => ?_) (fun hc => ?_))
    ·try simp only [go_sem] at hc
     have h := eB zAB h
     cases h
    ·try simp only [go_sem] at hc
     have h := eC zAB h
     obtain rfl := Option.some.inj h
     dsimp only [mZ] at hs9
     have h := yaF (hs9)
     refine sI (dX (dX (gL (bY (aY () h rfl ?_)))))
     ·exact zAF
   ·rintro u h
    try dsimp only at h
    simp only [go_sem]
    unfold aBy at h
    refine aB (aSX 0 (yaA ?_))
    refine aF hF [4, 5] (yaA ?_)
    obtain ⟨g0, h⟩ := aR h
    obtain ⟨g1, h⟩ := aR h
    obtain ⟨g2, h⟩ := aR h
    obtain ⟨g3, h⟩ := aR h
    repeat (refine ⟨zAA, ?_⟩)
    obtain rfl := Option.some.inj h
    refine aA (cD (jH hF [.tmp 4, .tmp 5] rfl rfl rfl ?_))
    exact zAG
attribute [go_sem] aAY
end
end Nu
end Go.Proofs
namespace Go.Proofs
open Go.Vc
set_option maxRecDepth 20000
namespace Nu
noncomputable section
set_option maxHeartbeats 4000000
theorem aAw [Mx] : bJ Tryz.prog GL [] := .nil
def pY (F : Md) (is_0 : Bool) (e_1 : Int) : Option (Unit ⊕ qp) :=
 if ¬ (is_0 = true) then some (.inr (e_1, ())) else some (.inl ())
def gG (F : Md) : fW where
 D := Bool × Int × (Unit ⊕ qp)
 av := fun d => [.val .bool d.1, .val qe d.2.1]
 hp := fun d => []
 m := 0
 pre := fun d => pY F d.1 d.2.1 = some d.2.2
 out := fun d => match d.2.2 with | .inl r => .ret (.tup []) [] | .inr p => .pan ⟨219, q9, p⟩ []
abbrev aMy (F : Md) : List (FuncId × aI) := []
theorem aMz [Mx] (F : Md) : bJ Tryz.prog GL (aMy F) := .nil
theorem jW [Mx] (F : Md) : GOK Tryz.prog GL 178 (gG F) := by
 refine eI (aU (aMz F)) Tryz.func178 rfl xAa (fun _ => Nat.le_of_ble_eq_true rfl) fun c0 w0 d hw1 hw2 h hn => ?_
 have hF : fT ⟨Tryz.prog, EM (aMy F), GM (gG F) c0 d, w0, Tryz.f178.ntmps, []⟩ := ⟨aU (aMz F), mix⟩
 obtain ⟨(is_0 : Bool), (e_1 : Int), r⟩ := d
 replace h : pY F is_0 e_1 = some r := h
 have hw1 : AV.wfL [.val .bool is_0, .val qe e_1] := hw1
 simp only [AV.wfL, AV.wfV, Ty.wf, fF] at hw1
 show Tri _ _ _ [(0, .val .bool is_0), (1, .val qe e_1)] []
 unfold pY at h
 refine aB (aF hF [1, 5] (yaA ?_))
 refine aA (bG rfl (fun hc => ?_) (fun hc => ?_))
 ·try simp only [go_sem] at hc
  have h := eB zAB h
  refine aC hF (aG (l := []) (.nil)) [] [] (yaB ?_)
  obtain rfl := Option.some.inj h
  refine aZ rfl rfl rfl rfl
 ·try simp only [go_sem] at hc
  exact zaw
attribute [go_sem] gG
def aAZ (F : Md) (e_2 : Int) (m_1 : qd) (neg_0 : Bool) : Option (qt ⊕ qp) :=
 ck (I64 (e_2 + ((fJ F m_1).getD (0 : Int)))) ((pY F (decide ((e_2 + ((fJ F m_1).getD (0 : Int))) ≤ (1048576 : Int))) (3 : Int)).bind (fun e => match e with | .inl r_22 => ck (I64 (e_2 + ((fJ F m_1).getD (0 : Int)))) (some (.inl (neg_0, ((oG F m_1 ((fJ F m_1).getD (0 : Int))).getD ([] : List Nat)), (e_2 + ((fJ F m_1).getD (0 : Int))), ()))) | .inr p_23 => some (.inr p_23)))
def aC7 (F : Md) (neg_0 : Bool) (m_1 : qd) (e_2 : Int) : Option (qt ⊕ qp) :=
 if (m_1.length : Int) = (0 : Int) then some (.inl (false, ([] : List Nat), (0 : Int), ())) else ck ((fJ F m_1).isSome = true) (ck ((oG F m_1 ((fJ F m_1).getD (0 : Int))).isSome = true) ((pY F (decide (((((oG F m_1 ((fJ F m_1).getD (0 : Int))).getD ([] : List Nat)).length : Nat) : Int) ≤ (64 : Int))) (2 : Int)).bind (fun e => match e with | .inl r_8 => if e_2 ≤ (1048576 : Int) then ck (I64 ((-1048576 : Int) - ((fJ F m_1).getD (0 : Int)))) ((pY F ((decide (e_2 ≤ (1048576 : Int))) && (decide (((-1048576 : Int) - ((fJ F m_1).getD (0 : Int))) ≤ e_2))) (3 : Int)).bind (fun e => match e with | .inl r_24 => aAZ F e_2 m_1 neg_0 | .inr p_25 => some (.inr p_25))) else (pY F false (3 : Int)).bind (fun e => match e with | .inl r_26 => aAZ F e_2 m_1 neg_0 | .inr p_27 => some (.inr p_27)) | .inr p_9 => some (.inr p_9))))
def uB (F : Md) : fW where
 D := Bool × qd × Int × (qt ⊕ qp)
 av := fun d => [.val .bool d.1, .val we d.2.1, .val qe d.2.2.1]
 hp := fun d => []
 m := 0
 pre := fun d => aC7 F d.1 d.2.1 d.2.2.1 = some d.2.2.2
 out := fun d => match d.2.2.2 with | .inl r => .ret (.val ql r) [] | .inr p => .pan ⟨219, q9, p⟩ []
abbrev aFB (F : Md) : List (FuncId × aI) := [(142, (uR F)), (177, (aCg F))]
theorem aOT [Mx] (F : Md) : bJ Tryz.prog GL (aFB F) := .cons (aJV F) xAa (.cons (aRe F) xAa (.nil))
theorem aDG [Mx] (F : Md) : GOK Tryz.prog GL 149 (uB F) := by
 refine eI (aU (aOT F)) Tryz.func149 rfl xAa (fun _ => Nat.le_of_ble_eq_true rfl) fun c0 w0 d hw1 hw2 h hn => ?_
 have hF : fT ⟨Tryz.prog, EM (aFB F), GM (uB F) c0 d, w0, Tryz.f149.ntmps, []⟩ := ⟨aU (aOT F), mix⟩
 obtain ⟨(neg_0 : Bool), (m_1 : qd), (e_2 : Int), r⟩ := d
 replace h : aC7 F neg_0 m_1 e_2 = some r := h
 have hw1 : AV.wfL [.val .bool neg_0, .val we m_1, .val qe e_2] := hw1
 simp only [AV.wfL, AV.wfV, Ty.wf, fF] at hw1
 show Tri _ _ _ [(0, .val .bool neg_0), (1, .val we m_1), (2, .val qe e_2)] []
 unfold aC7 at h
 refine aB (aS hF [0, 1, 2, 6] (yaA ?_))
 refine aA (aB (aB (aF hF [0, 1, 2, 6, 10] (yaA ?_))))
 refine aA (bG rfl (fun hc => ?_) (fun hc => ?_))
 ·try simp only [go_sem] at hc
  have h := eB zAB h
  refine aB (aS hF [6] (yaA ?_))
  obtain rfl := Option.some.inj h
  refine aA (cD (cR (jQ hF [.cell 6 128] [] rfl rfl rfl rfl rfl rfl rfl rfl rfl ?_)))
  exact zaB
 ·try simp only [go_sem] at hc
  have h := eC zAB h
  refine cH (aA (aB (aF hF [0, 1, 2, 6, 7] (yaA ?_))))
  obtain ⟨g0, h⟩ := aR h
  repeat (refine ⟨zAA, ?_⟩)
  refine aA (aB (aF hF [0, 1, 2, 6, 7] (yaA ?_)))
  obtain ⟨g0, h⟩ := aR h
  repeat (refine ⟨zAA, ?_⟩)
  obtain ⟨e, he1, h⟩ := bind_some h
  rcases e with r_8 | p_9
  ·try dsimp only at h
   refine aA (aB (aC hF (aG (l := [(178, ⟨gG F, [], ((decide (((((oG F m_1 ((fJ F m_1).getD (0 : Int))).getD ([] : List Nat)).length : Nat) : Int) ≤ (64 : Int))), (2 : Int), .inl r_8)⟩)]) (.cons (jW F) xAa (.nil))) [0, 1, 2, 6, 7] [] (yaB ?_)))
   refine aA (qV (D := Unit) (fun d => aAZ F e_2 m_1 neg_0 = some r) [0, 1, 2, 7] (fun d => [(6, .ptr 0 [])]) (fun d => [.inr (.box 3 (.val ql (false, ([] : List Nat), (0 : Int), ())))]) ?_ ?_)
   ·by_cases hq : e_2 ≤ (1048576 : Int)
    ·have h := eB hq h
     obtain ⟨g0, h⟩ := aR h
     try simp only [I64, I32] at g0
     obtain ⟨e, he3, h⟩ := bind_some h
     rcases e with r_24 | p_25
     ·try dsimp only at h
      refine aC hF (aG (l := [(178, ⟨gG F, [], (((decide (e_2 ≤ (1048576 : Int))) && (decide (((-1048576 : Int) - ((fJ F m_1).getD (0 : Int))) ≤ e_2))), (3 : Int), .inl r_24)⟩)]) (.cons (jW F) xAa (.nil))) [0, 1, 2, 6, 7] [] (yaB ?_)
      refine ⟨fun _ => (yaD ?_), fun hx => by first | (exfalso; omega) | (exfalso; simp_all; done)⟩
      refine ⟨fun _ => (yaD ?_), fun hx => by first | (exfalso; omega) | (exfalso; simp_all; done)⟩
      refine ⟨fun _ => (yaD ?_), fun hx => by first | (exfalso; omega) | (exfalso; simp_all; done)⟩
      refine ⟨fun _ => (yaD ?_), fun hx => by first | (exfalso; omega) | (exfalso; simp_all; done)⟩
      refine bY (aY () h rfl ?_)
      ·exact zAF
     ·try dsimp only at h
      refine aC hF (aG (l := [(178, ⟨gG F, [], (((decide (e_2 ≤ (1048576 : Int))) && (decide (((-1048576 : Int) - ((fJ F m_1).getD (0 : Int))) ≤ e_2))), (3 : Int), .inr p_25)⟩)]) (.cons (jW F) xAa (.nil))) [0, 1, 2, 6, 7] [] (yaB ?_)
      refine ⟨fun _ => (yaD ?_), fun hx => by first | (exfalso; omega) | (exfalso; simp_all; done)⟩
      refine ⟨fun _ => (yaD ?_), fun hx => by first | (exfalso; omega) | (exfalso; simp_all; done)⟩
      exact za3
    ·have h := eC hq h
     obtain ⟨e, he4, h⟩ := bind_some h
     rcases e with r_26 | p_27
     ·try dsimp only at h
      refine aC hF (aG (l := [(178, ⟨gG F, [], (false, (3 : Int), .inl r_26)⟩)]) (.cons (jW F) xAa (.nil))) [0, 1, 2, 6, 7] [] (yaB ?_)
      first | (refine ⟨fun hx => by first | (exfalso; omega) | (exfalso; simp_all; done), fun _ => ?_⟩) | (with_reducible intro _) | skip
      repeat (refine ⟨zAA, ?_⟩)
      first | (refine ⟨fun hx => by first | (exfalso; omega) | (exfalso; simp_all; done), fun _ => ?_⟩) | (with_reducible intro _) | skip
      repeat (refine ⟨zAA, ?_⟩)
      first | (refine ⟨fun hx => by first | (exfalso; omega) | (exfalso; simp_all; done), fun _ => ?_⟩) | (with_reducible intro _) | skip
      repeat (refine ⟨zAA, ?_⟩)
      first | (refine ⟨fun hx => by first | (exfalso; omega) | (exfalso; simp_all; done), fun _ => ?_⟩) | (with_reducible intro _) | skip
      repeat (refine ⟨zAA, ?_⟩)
      refine bY (aY () h rfl ?_)
      ·exact zAF
     ·try dsimp only at h
      refine aC hF (aG (l := [(178, ⟨gG F, [], (false, (3 : Int), .inr p_27)⟩)]) (.cons (jW F) xAa (.nil))) [0, 1, 2, 6, 7] [] (yaB ?_)
      first | (refine ⟨fun hx => by first | (exfalso; omega) | (exfalso; simp_all; done), fun _ => ?_⟩) | (with_reducible intro _) | skip
      repeat (refine ⟨zAA, ?_⟩)
      first | (refine ⟨fun hx => by first | (exfalso; omega) | (exfalso; simp_all; done), fun _ => ?_⟩) | (with_reducible intro _) | skip
      repeat (refine ⟨zAA, ?_⟩)
      exact zan
   ·rintro u h
    try dsimp only at h
    simp only [go_sem]
    unfold aAZ at h
    obtain ⟨g0, h⟩ := aR h
    try simp only [I64, I32] at g0
    obtain ⟨e, he2, h⟩ := bind_some h
    rcases e with r_22 | p_23
    ·try dsimp only at h
     refine aB (aC hF (aG (l := [(178, ⟨gG F, [], ((decide ((e_2 + ((fJ F m_1).getD (0 : Int))) ≤ (1048576 : Int))), (3 : Int), .inl r_22)⟩)]) (.cons (jW F) xAa (.nil))) [0, 1, 2, 6, 7] [] (yaB ?_))
     refine aA (aB (aS hF [6] (yaA ?_)))
     obtain ⟨g0, h⟩ := aR h
     try simp only [I64, I32] at g0
     repeat (refine ⟨zAA, ?_⟩)
     obtain rfl := Option.some.inj h
     refine aA (cD (jQ hF [.cell 6 128] [] rfl rfl rfl rfl rfl rfl rfl rfl rfl ?_))
     exact zaB
    ·try dsimp only at h
     refine aB (aC hF (aG (l := [(178, ⟨gG F, [], ((decide ((e_2 + ((fJ F m_1).getD (0 : Int))) ≤ (1048576 : Int))), (3 : Int), .inr p_23)⟩)]) (.cons (jW F) xAa (.nil))) [0, 1, 2, 6, 7] [] (yaB ?_))
     exact zaN
  ·try dsimp only at h
   refine aA (aB (aC hF (aG (l := [(178, ⟨gG F, [], ((decide (((((oG F m_1 ((fJ F m_1).getD (0 : Int))).getD ([] : List Nat)).length : Nat) : Int) ≤ (64 : Int))), (2 : Int), .inr p_9)⟩)]) (.cons (jW F) xAa (.nil))) [0, 1, 2, 6, 7] [] (yaB ?_)))
   exact zaN
attribute [go_sem] uB
def aCk (F : Md) (a0_0 : Bool) (a1_1 : qd) (a2_2 : Int) : Option (qt ⊕ qp) :=
 (aC7 F a0_0 a1_1 a2_2).bind (fun e => match e with | .inl r_8 => some (.inl r_8) | .inr p_9 => some (.inr p_9))
def wF (F : Md) : fW where
 D := Bool × qd × Int × (qt ⊕ qp)
 av := fun d => [.val (.rp .bool) d.1, .val (.rp we) d.2.1, .val (.rp qe) d.2.2.1]
 hp := fun d => []
 m := 0
 pre := fun d => aCk F d.1 d.2.1 d.2.2.1 = some d.2.2.2
 out := fun d => match d.2.2.2 with | .inl r => .ret (.val ql r) [] | .inr p => .pan ⟨219, q9, p⟩ []
abbrev aJ0 (F : Md) : List (FuncId × aI) := []
theorem aJ1 [Mx] (F : Md) : bJ Tryz.prog GL (aJ0 F) := .nil
theorem aIk [Mx] (F : Md) : GOK Tryz.prog GL 148 (wF F) := by
 refine eI (aU (aJ1 F)) Tryz.func148 rfl xAa (fun _ => Nat.le_of_ble_eq_true rfl) fun c0 w0 d hw1 hw2 h hn => ?_
 have hF : fT ⟨Tryz.prog, EM (aJ0 F), GM (wF F) c0 d, w0, Tryz.f148.ntmps, []⟩ := ⟨aU (aJ1 F), mix⟩
 obtain ⟨(a0_0 : Bool), (a1_1 : qd), (a2_2 : Int), r⟩ := d
 replace h : aCk F a0_0 a1_1 a2_2 = some r := h
 have hw1 : AV.wfL [.val (.rp .bool) a0_0, .val (.rp we) a1_1, .val (.rp qe) a2_2] := hw1
 simp only [AV.wfL, AV.wfV, Ty.wf, fF] at hw1
 show Tri _ _ _ [(0, .roa .bool a0_0), (1, .roa we a1_1), (2, .roa qe a2_2)] []
 unfold aCk at h
 refine aB (aS hF [0, 1, 2, 3] (yaA ?_))
 obtain ⟨e, he1, h⟩ := bind_some h
 rcases e with r_8 | p_9
 ·try dsimp only at h
  refine aA (aB (aC hF (aG (l := [(149, ⟨uB F, [], (a0_0, a1_1, a2_2, .inl r_8)⟩)]) (.cons (aDG F) xAa (.nil))) [3] [] (yaB ?_)))
  exact zax
 ·try dsimp only at h
  refine aA (aB (aC hF (aG (l := [(149, ⟨uB F, [], (a0_0, a1_1, a2_2, .inr p_9)⟩)]) (.cons (aDG F) xAa (.nil))) [3] [] (yaB ?_)))
  exact zaN
attribute [go_sem] wF
def oH : fW where
 D := qt × Int
 av := fun _ => [.ptr 0 [], .ptr 1 []]
 hp := fun d => [.box 3 (.val ql d.1), .box 1 (.val qe d.2)]
 m := 2
 pre := fun _ => True
 out := fun d => .ret (.tup []) [.box 3 (.val ql d.1), .box 1 (.val qe d.2)]
def oI (x : qp) : fW where
 D := qt × Int
 av := fun _ => [.ptr 0 [], .ptr 1 []]
 hp := fun d => [.box 3 (.val ql d.1), .box 1 (.val qe d.2)]
 m := 2
 pre := fun _ => True
 out := fun d => .ret (.tup []) [.box 3 (.val ql (false, ([] : List Nat), (0 : Int), ())), .box 1 (.val qe x.1)]
theorem aG7 [Mx] : DOK Tryz.prog GL 176 none oH := by
 refine aLd (aU aAw) Tryz.func176 rfl xAa (fun _ => Nat.le_of_ble_eq_true rfl) rfl fun c w d hw1 hw2 hp hn => ?_
 have hF : fT ⟨Tryz.prog, EM [], GM oH c d, w, Tryz.f176.ntmps, []⟩ := ⟨aU aAw, mix⟩
 obtain ⟨d, e⟩ := d
 show rL _ _ _ [(5, .val .nili ()), (0, .ptr 0 []), (1, .ptr 1 [])] [.box 3 (.val ql d), .box 1 (.val qe e)] _
 simp only [go_sem]
 refine aB (aF hF [0, 1, 2, 9] (yaA ?_))
 refine aA (bG rfl (fun hc => absurd hc xAc) (fun hc => ?_))
 refine cH ?_
 refine gT [0, 1] rfl rfl (yaC ?_)
 exact zaf
theorem aG8 [Mx] (x : qp) : DOK Tryz.prog GL 176 (some ⟨219, q9, x⟩) (oI x) := by
 refine aLd (aU aAw) Tryz.func176 rfl xAa (fun _ => Nat.le_of_ble_eq_true rfl) rfl fun c w d hw1 hw2 hp hn => ?_
 have hF : fT ⟨Tryz.prog, EM [], GM (oI x) c d, w, Tryz.f176.ntmps, []⟩ := ⟨aU aAw, mix⟩
 obtain ⟨d, e⟩ := d
 show rL _ _ _ [(5, .val (.ifc 219 q9) x), (0, .ptr 0 []), (1, .ptr 1 [])] [.box 3 (.val ql d), .box 1 (.val qe e)] _
 simp only [go_sem]
 refine aB (aF hF [0, 1, 2, 9] (yaA ?_))
 refine aA (bG rfl (fun hc => ?_) (fun hc => absurd hc xAc))
 refine aDA hF [] [] [.box 3 (.val ql (false, ([] : List Nat), (0 : Int), ())), .box 1 (.val qe x.1), .box 1 (.val q9 x)] xAc ?_ ?_
 ·simp only [go_sem]
  unfold anyS
  intro i hi
  have hi : i = 0 ∨ i = 1 := by revert hi; revert i; decide
  rcases hi with rfl | rfl
  ·simp only [go_sem]
   skip
   unfold anyS
   intro i hi
   have hi : i = 1 ∨ i = 3 := by revert hi; revert i; decide
   rcases hi with rfl | rfl
   ·simp only [go_sem]
    exact zai
   ·simp only [go_sem]
    skip
    unfold anyS
    intro i hi
    have hi : i = 1 := by revert hi; revert i; decide
    subst hi
    simp only [go_sem]
    skip
    unfold anyS
    intro i hi
    have hi : i = 2 := by revert hi; revert i; decide
    exact zaI
  ·simp only [go_sem]
   skip
   unfold anyS
   intro i hi
   have hi : i = 0 ∨ i = 2 := by revert hi; revert i; decide
   rcases hi with rfl | rfl
   ·simp only [go_sem]
    exact zai
   ·simp only [go_sem]
    skip
    unfold anyS
    intro i hi
    have hi : i = 0 := by revert hi; revert i; decide
    subst hi
    simp only [go_sem]
    skip
    unfold anyS
    intro i hi
    have hi : i = 3 := by revert hi; revert i; decide
    exact zaI
 refine gT [0, 1] rfl rfl (yaC ?_)
 exact zaf
def iB (F : Md) (c0 : Bool) (c1 : qd) (c2 : Int) : Option (qt × Int × Unit) :=
 (aCk F c0 c1 c2).bind fun q => some (match q with | .inl r => (r, 0, ()) | .inr p => ((false, ([] : List Nat), (0 : Int), ()), p.1, ()))
def yF : Ty := .pair (.clo 148 (.pair (.rp .bool) (.pair (.rp we) (.pair (.rp qe) .unit)))) .unit
def mE (F : Md) : aI := mSpec yF (.tup (.pair ql q9)) (fun x => iB F x.1.1 x.1.2.1 x.1.2.2.1)
theorem aEe [Mx] (F : Md) : FOK Tryz.prog GL 147 (mE F) := by
 refine aFr (aU aAw) Tryz.func147 rfl xAa xAc fun w0 S x r hw h => ?_
 have hF : fT (fr Tryz.prog (EM []) S w0 Tryz.f147.ntmps) := ⟨aU aAw, mix⟩
 obtain ⟨⟨(c0 : Bool), (c1 : qd), (c2 : Int), u1⟩, u⟩ := x
 replace h : iB F c0 c1 c2 = some r := h
 show Tri _ _ _ [(0, .val (.clo 148 (.pair (.rp .bool) (.pair (.rp we) (.pair (.rp qe) .unit)))) (c0, c1, c2, u1))] []
 unfold iB at h
 obtain ⟨q, hq, h⟩ := bind_some h
 obtain rfl := Option.some.inj h
 refine aB (aS hF [0, 2, 3] (yaA ?_))
 refine aA (aAT 2 [0, 1] rfl rfl (Nat.zero_le _) xAc fun roots hroots => ?_)
 have hF' : fT { fr Tryz.prog (EM []) S w0 Tryz.f147.ntmps with M := ⟨nothing, S, 2, roots⟩, ds := [⟨.fn (.func 176) ([0, 1].map roots).toArray, #[]⟩] } := ⟨aU aAw, mix⟩
 rcases q with q | q
 ·refine aB (aC hF' (aG (l := [(148, ⟨wF F, [], (c0, c1, c2, .inl q)⟩)]) (.cons (aIk F) xAa .nil)) [2, 3] [] (yaA ?_))
  exact zap
 ·refine aB (aC hF' (aG (l := [(148, ⟨wF F, [], (c0, c1, c2, .inr q)⟩)]) (.cons (aIk F) xAa .nil)) [2, 3] [] (yaA ?_))
  exact zal
attribute [go_sem] mE yF
def aC8 (F : Md) (neg_0 : Bool) (m_1 : qd) (e_2 : Int) : Option (qt × qp) :=
 ck ((iB F neg_0 m_1 e_2).isSome = true) (some (((iB F neg_0 m_1 e_2).getD ((false, ([] : List Nat), (0 : Int), ()), (0 : Int), ())).1, ((iB F neg_0 m_1 e_2).getD ((false, ([] : List Nat), (0 : Int), ()), (0 : Int), ())).2.1, ()))
@[go_sem]def aFC : Ty := .pair .bool (.pair we q9)
def yG (F : Md) : aI := mSpec aFC (.tup (.pair ql q9)) (fun x => aC8 F x.1 x.2.1 x.2.2.1)
abbrev aIY (F : Md) : List (FuncId × aI) := [(147, (mE F))]
theorem aOW [Mx] (F : Md) : bJ Tryz.prog GL (aIY F) := .cons (aEe F) xAa (.nil)
theorem aMA [Mx] (F : Md) : FOK Tryz.prog GL 107 (yG F) := by
 refine sU (aU (aOW F)) Tryz.func107 rfl xAa xAc fun w0 S x r hw h => ?_
 have hF : fT (fr Tryz.prog (EM (aIY F)) S w0 Tryz.f107.ntmps) := ⟨aU (aOW F), mix⟩
 obtain ⟨(neg_0 : Bool), (m_1 : qd), (e_2 : Int), u⟩ := x
 simp only [aFC, Ty.wf, fF] at hw
 simp only [bX, aFC]
 try dsimp only at h
 replace h : aC8 F neg_0 m_1 e_2 = some r := h
 unfold aC8 at h
 exact zam
attribute [go_sem] yG
def iI (F : Md) (d_0 : qt) : Option Bool :=
 if (d_0.2.1.length : Int) = (0 : Int) then some ((!d_0.1) && (decide (d_0.2.2.1 = (0 : Int)))) else (aHZ F d_0.2.1).bind (fun v_5 => ck ((v_5 = true) → ((0 : Int) < (d_0.2.1.length : Int))) (some (((v_5 && (decide (((d_0.2.1.getD (0 : Nat) (0 : Nat)) &&& (1 : Nat)) = (1 : Nat)))) && (decide ((-1048576 : Int) ≤ d_0.2.2.1))) && (decide (d_0.2.2.1 ≤ (1048576 : Int))))))
def aMB : PlR := ⟨[(0, .B [1]), (1, .A [1, 6]), (2, .A [2]), (3, .A [2])], []⟩
def aOY : Ty := .pair ql .unit
def rH (F : Md) : aI := mSpec aOY (.one .bool) (fun x => iI F x.1)
abbrev aOZ (F : Md) : List (FuncId × aI) := [(150, (aFx F))]
theorem aTh [Mx] (F : Md) : bJ Tryz.prog GL (aOZ F) := .cons (aS8 F) xAa (.nil)
attribute [go_sem] aOY aMB
theorem aG9 [Mx] (F : Md) : FOK Tryz.prog GL 108 (rH F) := by
 refine bT (aU (aTh F)) mix Tryz.func108 rfl xAa xAc aMB fun w0 S x Θ hw h hF => ?_
 obtain ⟨(d_0 : qt), u⟩ := x
 simp only [bX, go_sem]
 replace h : sat (iI F d_0) _ := h
 unfold iI at h
 refine fC h (fun hc h => ?_) fun hc h => ?_
 ·exact aK hF [.tmp 2] rfl rfl rfl (aE h) xAd
 ·obtain ⟨v_5, hv, h⟩ := aO h
  exact za1
attribute [go_sem] rH
def uC (F : Md) (d_0 : qt) : Option Int :=
 (iI F d_0).bind (fun v_7 => if (¬ (v_7 = true)) ∨ ((d_0.2.1.length : Int) = (0 : Int)) then some (0 : Int) else if d_0.1 = true then some (-1 : Int) else some (1 : Int))
def aJ2 : PlR := ⟨[(0, .B [1]), (1, .A [1, 3]), (2, .A [2]), (3, .A [13]), (4, .A [2]), (5, .A [2])], []⟩
def aMC : Ty := .pair ql .unit
def uS (F : Md) : aI := mSpec aMC (.one qe) (fun x => uC F x.1)
abbrev aMD (F : Md) : List (FuncId × aI) := [(108, (rH F))]
theorem aSr [Mx] (F : Md) : bJ Tryz.prog GL (aMD F) := .cons (aG9 F) xAa (.nil)
attribute [go_sem] aMC aJ2
theorem aJ3 [Mx] (F : Md) : FOK Tryz.prog GL 68 (uS F) := by
 refine bT (aU (aSr F)) mix Tryz.func68 rfl xAa xAc aJ2 fun w0 S x Θ hw h hF => ?_
 obtain ⟨(d_0 : qt), u⟩ := x
 simp only [bX, go_sem]
 replace h : sat (uC F d_0) _ := h
 unfold uC at h
 obtain ⟨v_7, hv, h⟩ := aO h
 try simp only [hv, go_sem]
 refine ⟨fun hc => ?_, fun hc => ?_⟩
 ·replace h := iG zAB h
  exact zaF
 ·replace h := iH zAB h
  exact za5
attribute [go_sem] uS
def aDH (F : Md) (a_0 : qt) (b_1 : qt) : Option Int :=
 (aC0 F a_0.2.1).bind (fun v_13 => ck (I64 (v_13 + a_0.2.2.1)) ((aC0 F b_1.2.1).bind (fun v_14 => ck (I64 (v_14 + b_1.2.2.1)) (if (v_13 + a_0.2.2.1) < (v_14 + b_1.2.2.1) then some (-1 : Int) else if (v_14 + b_1.2.2.1) < (v_13 + a_0.2.2.1) then some (1 : Int) else ck (I64 (a_0.2.2.1 - (min a_0.2.2.1 b_1.2.2.1))) ((lZ F a_0.2.1 (a_0.2.2.1 - (min a_0.2.2.1 b_1.2.2.1))).bind (fun v_30 => ck (I64 (b_1.2.2.1 - (min a_0.2.2.1 b_1.2.2.1))) ((lZ F b_1.2.1 (b_1.2.2.1 - (min a_0.2.2.1 b_1.2.2.1))).bind (fun v_31 => (uA F v_30 v_31).bind (fun v_32 => some v_32)))))))))
def aJ4 : PlR := ⟨[(0, .B [2, 3]), (1, .A [2, 3, 5, 6]), (2, .A [2, 3, 5, 6, 20]), (3, .A [4]), (4, .A [2, 3, 24]), (5, .A [4]), (6, .A [2, 3, 7]), (7, .A [4])], []⟩
def aME : Ty := .pair ql (.pair ql .unit)
def aCl (F : Md) : aI := mSpec aME (.one qe) (fun x => aDH F x.1 x.2.1)
abbrev aDI (F : Md) : List (FuncId × aI) := [(114, (pX F)), (139, (yD F)), (151, (aDD F))]
theorem aSs [Mx] (F : Md) : bJ Tryz.prog GL (aDI F) := .cons (aFy F) xAa (.cons (aMu F) xAa (.cons (aSl F) xAa (.nil)))
attribute [go_sem] aME aJ4
theorem aRh [Mx] (F : Md) : FOK Tryz.prog GL 109 (aCl F) := by
 refine bT (aU (aSs F)) mix Tryz.func109 rfl xAa xAc aJ4 fun w0 S x Θ hw h hF => ?_
 obtain ⟨(a_0 : qt), (b_1 : qt), u⟩ := x
 simp only [bX, go_sem]
 replace h : sat (aDH F a_0 b_1) _ := h
 unfold aDH at h
 obtain ⟨v_13, hv, h⟩ := aO h
 try simp only [hv, go_sem]
 refine bD h fun g0 h => ?_
 obtain ⟨v_14, hv, h⟩ := aO h
 try simp only [hv, go_sem]
 refine bD h fun g0 h => ?_
 refine fO h (fun hc h => ?_) fun hc h => ?_
 ·exact aK hF [.tmp 4] rfl rfl rfl (aE h) xAd
 ·refine fO h (fun hc h => ?_) fun hc h => ?_
  ·exact aK hF [.tmp 4] rfl rfl rfl (aE h) xAd
  ·refine bD h fun g0 h => ?_
   obtain ⟨v_30, hv, h⟩ := aO h
   try simp only [hv, go_sem]
   refine bD h fun g0 h => ?_
   obtain ⟨v_31, hv, h⟩ := aO h
   try simp only [hv, go_sem]
   obtain ⟨v_32, hv, h⟩ := aO h
   exact zaR
attribute [go_sem] aCl
def aAN (F : Md) (a_0 : qt) (b_1 : qt) : Option Int :=
 (uC F a_0).bind (fun v_13 => (uC F b_1).bind (fun v_14 => (iI F a_0).bind (fun v_20 => ck (¬ (¬ (v_20 = true)) → ((iI F b_1).isSome = true)) (if (¬ (v_20 = true)) ∨ (¬ (((iI F b_1).getD false) = true)) then some (0 : Int) else if (¬ (v_13 = v_14)) ∧ (v_13 < v_14) then some (-1 : Int) else if ¬ (v_13 = v_14) then some (1 : Int) else if v_13 = (0 : Int) then some (0 : Int) else (aDH F a_0 b_1).bind (fun v_24 => ck (I64 (v_13 * v_24)) (some (v_13 * v_24)))))))
def aMF : PlR := ⟨[(0, .B [2, 3]), (1, .A [2, 3, 5, 6]), (2, .A [2, 3, 5, 6, 11]), (3, .A [4]), (4, .A [2, 3, 5, 6, 20]), (5, .A [4]), (6, .A [2, 3, 5, 29]), (7, .A [4]), (8, .A [2, 3, 5, 33]), (9, .A [4]), (10, .A [4])], []⟩
def aO1 : Ty := .pair ql (.pair ql .unit)
def yH (F : Md) : aI := mSpec aO1 (.one qe) (fun x => aAN F x.1 x.2.1)
abbrev aFD (F : Md) : List (FuncId × aI) := [(108, (rH F)), (109, (aCl F)), (68, (uS F))]
theorem aTi [Mx] (F : Md) : bJ Tryz.prog GL (aFD F) := .cons (aG9 F) xAa (.cons (aRh F) xAa (.cons (aJ3 F) xAa (.nil)))
attribute [go_sem] aO1 aMF
theorem aMG [Mx] (F : Md) : FOK Tryz.prog GL 69 (yH F) := by
 refine bT (aU (aTi F)) mix Tryz.func69 rfl xAa xAc aMF fun w0 S x Θ hw h hF => ?_
 obtain ⟨(a_0 : qt), (b_1 : qt), u⟩ := x
 simp only [bX, go_sem]
 replace h : sat (aAN F a_0 b_1) _ := h
 unfold aAN at h
 obtain ⟨v_13, hv, h⟩ := aO h
 try simp only [hv, go_sem]
 obtain ⟨v_14, hv, h⟩ := aO h
 try simp only [hv, go_sem]
 obtain ⟨v_20, hv, h⟩ := aO h
 try simp only [hv, go_sem]
 obtain ⟨g0, h⟩ := aQ h
 repeat (refine ⟨zAC, ?_⟩)
 refine ⟨fun hc => ?_, fun hc => ?_⟩
 ·replace h := iG zAB h
  exact zaD
 ·replace h := iH zAB h
  refine ⟨fun hc => ?_, fun hc => ?_⟩
  ·replace h := iG hc h
   exact zaD
  ·replace h := iH hc h
   refine fC h (fun hc h => ?_) fun hc h => ?_
   ·exact aK hF [.tmp 4] rfl rfl rfl (aE h) xAd
   ·refine fC h (fun hc h => ?_) fun hc h => ?_
    ·exact aK hF [.tmp 4] rfl rfl rfl (aE h) xAd
    ·obtain ⟨v_24, hv, h⟩ := aO h
     try simp only [hv, go_sem]
     obtain ⟨g0, h⟩ := aQ h
     try simp only [I64, I32] at g0
     repeat (refine ⟨zAA, ?_⟩)
     exact zaD
attribute [go_sem] yH
def zG (F : Md) (n_0 : Int) (e_1 : Int) (m_3 : Nat) : Option (qt × qp) :=
 (aC2 F ([m_3] : List Nat)).bind (fun v_6 => (aC8 F (decide (n_0 < (0 : Int))) v_6 e_1).bind (fun v_7 => some (v_7.1, v_7.2.1, ())))
def aH0 (F : Md) (n_0 : Int) (e_1 : Int) : Option (qt × qp) :=
 if n_0 < (0 : Int) then zG F n_0 e_1 (aS1 F .u64 (n_0 % (18446744073709551616 : Int)).toNat) else zG F n_0 e_1 (n_0 % (18446744073709551616 : Int)).toNat
def aO4 : PlR := ⟨[(0, .B [0, 1, 4]), (1, .A [0, 1, 4, 6]), (2, .A [0, 1, 4, 6, 10]), (3, .A [0, 1, 4, 6]), (4, .B [4, 5])], [(5, 7)]⟩
def aQC : Ty := .pair qe q9
def aFE (F : Md) : aI := mSpec aQC (.tup (.pair ql q9)) (fun x => aH0 F x.1 x.2.1)
abbrev aLs (F : Md) : List (FuncId × aI) := [(107, (yG F)), (146, (yC F))]
theorem aUH [Mx] (F : Md) : bJ Tryz.prog GL (aLs F) := .cons (aMA F) xAa (.cons (aMq F) xAa (.nil))
attribute [go_sem] aQC aO4
theorem aTj [Mx] (F : Md) : FOK Tryz.prog GL 110 (aFE F) := by
 refine bT (aU (aUH F)) mix Tryz.func110 rfl xAa xAc aO4 fun w0 S x Θ hw h hF => ?_
 obtain ⟨(n_0 : Int), (e_1 : Int), u⟩ := x
 simp only [bX, go_sem]
 replace h : sat (aH0 F n_0 e_1) _ := h
 unfold aH0 at h
 refine eK hF (D := Nat) (fun d => sat (zG F n_0 e_1 d) Θ) [0, 1] (fun d => [(4, .ptr 0 []), (6, .val qx d)]) (fun d => [.inr (.box 3 (.val ql (false, ([] : List Nat), (0 : Int), ())))]) ?_ ?_
 ·simp only [go_sem, dH F, dI F, dJ F]
  refine fO h (fun hc h => ?_) fun hc h => ?_
  ·exact aY (aS1 F .u64 (n_0 % (18446744073709551616 : Int)).toNat) h rfl xAe
  ·exact aY (n_0 % (18446744073709551616 : Int)).toNat h rfl xAe
 ·rintro m_3 h
  simp only [go_sem, dH F, dI F, dJ F]
  replace h : sat (zG F n_0 e_1 m_3) _ := h
  unfold zG at h
  obtain ⟨v_6, hv, h⟩ := aO h
  try simp only [hv, go_sem, dH F, dI F, dJ F]
  obtain ⟨v_7, hv, h⟩ := aO h
  try simp only [hv, go_sem, dH F, dI F, dJ F]
  exact aK hF [.cell 4 128, .tmp 5] rfl rfl rfl (aE h) xAf
attribute [go_sem] aFE
def zH (F : Md) (a_0 : qt) (b_1 : qt) : Option (qt ⊕ qp) :=
 ck ((kI F a_0.2.1 b_1.2.1).isSome = true) (ck (I64 (a_0.2.2.1 + b_1.2.2.1)) ((aC7 F (a_0.1 != b_1.1) ((kI F a_0.2.1 b_1.2.1).getD ([] : List Nat)) (a_0.2.2.1 + b_1.2.2.1)).bind (fun e => match e with | .inl r_7 => some (.inl r_7) | .inr p_8 => some (.inr p_8))))
def qJ (F : Md) : fW where
 D := qt × qt × (qt ⊕ qp)
 av := fun d => [.val ql d.1, .val ql d.2.1]
 hp := fun d => []
 m := 0
 pre := fun d => zH F d.1 d.2.1 = some d.2.2
 out := fun d => match d.2.2 with | .inl r => .ret (.val ql r) [] | .inr p => .pan ⟨219, q9, p⟩ []
abbrev aFF (F : Md) : List (FuncId × aI) := [(104, (gW F))]
theorem aJ5 [Mx] (F : Md) : bJ Tryz.prog GL (aFF F) := .cons (uQ F) xAa (.nil)
theorem aA0 [Mx] (F : Md) : GOK Tryz.prog GL 153 (qJ F) := by
 refine eI (aU (aJ5 F)) Tryz.func153 rfl xAa (fun _ => Nat.le_of_ble_eq_true rfl) fun c0 w0 d hw1 hw2 h hn => ?_
 have hF : fT ⟨Tryz.prog, EM (aFF F), GM (qJ F) c0 d, w0, Tryz.f153.ntmps, []⟩ := ⟨aU (aJ5 F), mix⟩
 obtain ⟨(a_0 : qt), (b_1 : qt), r⟩ := d
 replace h : zH F a_0 b_1 = some r := h
 have hw1 : AV.wfL [.val ql a_0, .val ql b_1] := hw1
 simp only [AV.wfL, AV.wfV, Ty.wf, fF] at hw1
 show Tri _ _ _ [(0, .val ql a_0), (1, .val ql b_1)] []
 unfold zH at h
 refine aB (aS hF [2, 3, 4] (yaA ?_))
 obtain ⟨g0, h⟩ := aR h
 obtain ⟨g1, h⟩ := aR h
 try simp only [I64, I32] at g1
 obtain ⟨e, he1, h⟩ := bind_some h
 rcases e with r_7 | p_8
 ·try dsimp only at h
  refine aA (aB (aFq hF (aG (l := [(149, ⟨uB F, [], ((a_0.1 != b_1.1), ((kI F a_0.2.1 b_1.2.1).getD ([] : List Nat)), (a_0.2.2.1 + b_1.2.2.1), .inl r_7)⟩)]) (.cons (aDG F) xAa (.nil))) 15 xAc [4] [] (yaB ?_)))
  simp only [aT3, go_sem]
  repeat (refine ⟨zAA, ?_⟩)
  obtain rfl := Option.some.inj h
  refine aA (cD (jQ hF [.cell 4 128] [] rfl rfl rfl rfl rfl rfl rfl rfl rfl ?_))
  exact zaB
 ·try dsimp only at h
  refine aA (aB (aFq hF (aG (l := [(149, ⟨uB F, [], ((a_0.1 != b_1.1), ((kI F a_0.2.1 b_1.2.1).getD ([] : List Nat)), (a_0.2.2.1 + b_1.2.2.1), .inr p_8)⟩)]) (.cons (aDG F) xAa (.nil))) 15 xAc [4] [] (yaB ?_)))
  simp only [aT3, go_sem]
  repeat (refine ⟨zAA, ?_⟩)
  exact zaN
attribute [go_sem] qJ
def nB (F : Md) (a0_0 : qt) (a1_1 : qt) (a2_2 : Unit) : Option (qt ⊕ qp) :=
 ck ((iI F a0_0).isSome = true) (if ((iI F a0_0).getD false) = true then ck ((iI F a1_1).isSome = true) ((pY F (((iI F a0_0).getD false) && ((iI F a1_1).getD false)) (1 : Int)).bind (fun e => match e with | .inl r_12 => (zH F a0_0 a1_1).bind (fun e => match e with | .inl r_20 => some (.inl r_20) | .inr p_21 => some (.inr p_21)) | .inr p_13 => some (.inr p_13))) else (pY F false (1 : Int)).bind (fun e => match e with | .inl r_14 => (zH F a0_0 a1_1).bind (fun e => match e with | .inl r_26 => some (.inl r_26) | .inr p_27 => some (.inr p_27)) | .inr p_15 => some (.inr p_15)))
def jR (F : Md) : fW where
 D := qt × qt × Unit × (qt ⊕ qp)
 av := fun d => [.val (.rp ql) d.1, .val (.rp ql) d.2.1, .val (.rp (.clo 153 .unit)) d.2.2.1]
 hp := fun d => []
 m := 0
 pre := fun d => nB F d.1 d.2.1 d.2.2.1 = some d.2.2.2
 out := fun d => match d.2.2.2 with | .inl r => .ret (.val ql r) [] | .inr p => .pan ⟨219, q9, p⟩ []
abbrev qW (F : Md) : List (FuncId × aI) := [(108, (rH F))]
theorem yI [Mx] (F : Md) : bJ Tryz.prog GL (qW F) := .cons (aG9 F) xAa (.nil)
theorem wG [Mx] (F : Md) : GOK Tryz.prog GL 179 (jR F) := by
 refine eI (aU (yI F)) Tryz.func179 rfl xAa (fun _ => Nat.le_of_ble_eq_true rfl) fun c0 w0 d hw1 hw2 h hn => ?_
 have hF : fT ⟨Tryz.prog, EM (qW F), GM (jR F) c0 d, w0, Tryz.f179.ntmps, []⟩ := ⟨aU (yI F), mix⟩
 obtain ⟨(a0_0 : qt), (a1_1 : qt), (a2_2 : Unit), r⟩ := d
 replace h : nB F a0_0 a1_1 a2_2 = some r := h
 have hw1 : AV.wfL [.val (.rp ql) a0_0, .val (.rp ql) a1_1, .val (.rp (.clo 153 .unit)) a2_2] := hw1
 simp only [AV.wfL, AV.wfV, Ty.wf, fF] at hw1
 show Tri _ _ _ [(0, .roa ql a0_0), (1, .roa ql a1_1), (2, .roa (.clo 153 .unit) a2_2)] []
 unfold nB at h
 refine aB (aS hF [0, 1, 2, 3] (yaA ?_))
 obtain ⟨g0, h⟩ := aR h
 by_cases hq : ((iI F a0_0).getD false) = true
 ·have h := eB hq h
  obtain ⟨g1, h⟩ := aR h
  obtain ⟨e, he1, h⟩ := bind_some h
  rcases e with r_12 | p_13
  ·try dsimp only at h
   refine aA (aB (aC hF (aG (l := [(178, ⟨gG F, [], ((((iI F a0_0).getD false) && ((iI F a1_1).getD false)), (1 : Int), .inl r_12)⟩)]) (.cons (jW F) xAa (.nil))) [0, 1, 2, 3] [] (yaB ?_)))
   refine ⟨fun _ => (yaD ?_), fun hx => by first | (exfalso; omega) | (exfalso; simp_all; done)⟩
   refine ⟨fun _ => (yaD ?_), fun hx => by first | (exfalso; omega) | (exfalso; simp_all; done)⟩
   obtain ⟨e, he2, h⟩ := bind_some h
   rcases e with r_20 | p_21
   ·try dsimp only at h
    refine aA (aB (aC hF (aG (l := [(153, ⟨qJ F, [], (a0_0, a1_1, .inl r_20)⟩)]) (.cons (aA0 F) xAa (.nil))) [3] [] (yaB ?_)))
    exact zax
   ·try dsimp only at h
    refine aA (aB (aC hF (aG (l := [(153, ⟨qJ F, [], (a0_0, a1_1, .inr p_21)⟩)]) (.cons (aA0 F) xAa (.nil))) [3] [] (yaB ?_)))
    exact zaN
  ·try dsimp only at h
   refine aA (aB (aC hF (aG (l := [(178, ⟨gG F, [], ((((iI F a0_0).getD false) && ((iI F a1_1).getD false)), (1 : Int), .inr p_13)⟩)]) (.cons (jW F) xAa (.nil))) [0, 1, 2, 3] [] (yaB ?_)))
   exact za3
 ·have h := eC hq h
  obtain ⟨e, he3, h⟩ := bind_some h
  rcases e with r_14 | p_15
  ·try dsimp only at h
   refine aA (aB (aC hF (aG (l := [(178, ⟨gG F, [], (false, (1 : Int), .inl r_14)⟩)]) (.cons (jW F) xAa (.nil))) [0, 1, 2, 3] [] (yaB ?_)))
   first | (refine ⟨fun hx => by first | (exfalso; omega) | (exfalso; simp_all; done), fun _ => ?_⟩) | (with_reducible intro _) | skip
   repeat (refine ⟨zAA, ?_⟩)
   first | (refine ⟨fun hx => by first | (exfalso; omega) | (exfalso; simp_all; done), fun _ => ?_⟩) | (with_reducible intro _) | skip
   repeat (refine ⟨zAA, ?_⟩)
   obtain ⟨e, he4, h⟩ := bind_some h
   rcases e with r_26 | p_27
   ·try dsimp only at h
    refine aA (aB (aC hF (aG (l := [(153, ⟨qJ F, [], (a0_0, a1_1, .inl r_26)⟩)]) (.cons (aA0 F) xAa (.nil))) [3] [] (yaB ?_)))
    exact zax
   ·try dsimp only at h
    refine aA (aB (aC hF (aG (l := [(153, ⟨qJ F, [], (a0_0, a1_1, .inr p_27)⟩)]) (.cons (aA0 F) xAa (.nil))) [3] [] (yaB ?_)))
    exact zaN
  ·try dsimp only at h
   refine aA (aB (aC hF (aG (l := [(178, ⟨gG F, [], (false, (1 : Int), .inr p_15)⟩)]) (.cons (jW F) xAa (.nil))) [0, 1, 2, 3] [] (yaB ?_)))
   exact zan
attribute [go_sem] jR
def dT (F : Md) (c0 : qt) (c1 : qt) (c2 : Unit) : Option (qt × Int × Unit) :=
 (nB F c0 c1 c2).bind fun q => some (match q with | .inl r => (r, 0, ()) | .inr p => ((false, ([] : List Nat), (0 : Int), ()), p.1, ()))
def oQ : Ty := .pair (.clo 179 (.pair (.rp ql) (.pair (.rp ql) (.pair (.rp (.clo 153 .unit)) .unit)))) .unit
def fZ (F : Md) : aI := mSpec oQ (.tup (.pair ql q9)) (fun x => dT F x.1.1 x.1.2.1 x.1.2.2.1)
theorem wH [Mx] (F : Md) : FOK Tryz.prog GL 147 (fZ F) := by
 refine aFr (aU aAw) Tryz.func147 rfl xAa xAc fun w0 S x r hw h => ?_
 have hF : fT (fr Tryz.prog (EM []) S w0 Tryz.f147.ntmps) := ⟨aU aAw, mix⟩
 obtain ⟨⟨(c0 : qt), (c1 : qt), (c2 : Unit), u1⟩, u⟩ := x
 replace h : dT F c0 c1 c2 = some r := h
 show Tri _ _ _ [(0, .val (.clo 179 (.pair (.rp ql) (.pair (.rp ql) (.pair (.rp (.clo 153 .unit)) .unit)))) (c0, c1, c2, u1))] []
 unfold dT at h
 obtain ⟨q, hq, h⟩ := bind_some h
 obtain rfl := Option.some.inj h
 refine aB (aS hF [0, 2, 3] (yaA ?_))
 refine aA (aAT 2 [0, 1] rfl rfl (Nat.zero_le _) xAc fun roots hroots => ?_)
 have hF' : fT { fr Tryz.prog (EM []) S w0 Tryz.f147.ntmps with M := ⟨nothing, S, 2, roots⟩, ds := [⟨.fn (.func 176) ([0, 1].map roots).toArray, #[]⟩] } := ⟨aU aAw, mix⟩
 rcases q with q | q
 ·refine aB (aC hF' (aG (l := [(179, ⟨jR F, [], (c0, c1, c2, .inl q)⟩)]) (.cons (wG F) xAa .nil)) [2, 3] [] (yaA ?_))
  exact zap
 ·refine aB (aC hF' (aG (l := [(179, ⟨jR F, [], (c0, c1, c2, .inr q)⟩)]) (.cons (wG F) xAa .nil)) [2, 3] [] (yaA ?_))
  exact zal
attribute [go_sem] fZ oQ
def pB (F : Md) (a_0 : qt) (b_1 : qt) (do_2 : Unit) : Option (qt × qp) :=
 ck ((dT F a_0 b_1 do_2).isSome = true) (some (((dT F a_0 b_1 do_2).getD ((false, ([] : List Nat), (0 : Int), ()), (0 : Int), ())).1, ((dT F a_0 b_1 do_2).getD ((false, ([] : List Nat), (0 : Int), ()), (0 : Int), ())).2.1, ()))
@[go_sem]def pC : Ty := .pair ql (.pair ql (.pair (.clo 153 .unit) .unit))
def nT (F : Md) : aI := mSpec pC (.tup (.pair ql q9)) (fun x => pB F x.1 x.2.1 x.2.2.1)
abbrev tG (F : Md) : List (FuncId × aI) := [(147, (fZ F))]
theorem aAx [Mx] (F : Md) : bJ Tryz.prog GL (tG F) := .cons (wH F) xAa (.nil)
theorem aFG [Mx] (F : Md) : FOK Tryz.prog GL 152 (nT F) := by
 refine sU (aU (aAx F)) Tryz.func152 rfl xAa xAc fun w0 S x r hw h => ?_
 have hF : fT (fr Tryz.prog (EM (tG F)) S w0 Tryz.f152.ntmps) := ⟨aU (aAx F), mix⟩
 obtain ⟨(a_0 : qt), (b_1 : qt), (do_2 : Unit), u⟩ := x
 simp only [pC, Ty.wf, fF] at hw
 simp only [bX, pC]
 try dsimp only at h
 replace h : pB F a_0 b_1 do_2 = some r := h
 unfold pB at h
 exact zam
attribute [go_sem] nT
def aFH (F : Md) (a_0 : qt) (b_1 : qt) : Option (qt × qp) :=
 (pB F a_0 b_1 ()).bind (fun v_6 => some (v_6.1, v_6.2.1, ()))
def aMH : PlR := ⟨[(0, .B [2, 3, 4]), (1, .B [4, 5])], []⟩
def aO5 : Ty := .pair ql (.pair ql .unit)
def aDJ (F : Md) : aI := mSpec aO5 (.tup (.pair ql q9)) (fun x => aFH F x.1 x.2.1)
abbrev aO6 (F : Md) : List (FuncId × aI) := [(152, (nT F))]
theorem aTk [Mx] (F : Md) : bJ Tryz.prog GL (aO6 F) := .cons (aFG F) xAa (.nil)
attribute [go_sem] aO5 aMH
theorem aSt [Mx] (F : Md) : FOK Tryz.prog GL 111 (aDJ F) := by
 refine bT (aU (aTk F)) mix Tryz.func111 rfl xAa xAc aMH fun w0 S x Θ hw h hF => ?_
 obtain ⟨(a_0 : qt), (b_1 : qt), u⟩ := x
 simp only [bX, go_sem]
 replace h : sat (aFH F a_0 b_1) _ := h
 unfold aFH at h
 obtain ⟨v_6, hv, h⟩ := aO h
 try simp only [hv, go_sem]
 exact aK hF [.cell 4 128, .tmp 5] rfl rfl rfl (aE h) xAd
attribute [go_sem] aDJ
end
end Nu
end Go.Proofs
namespace Go.Proofs
open Go.Vc
set_option maxRecDepth 20000
namespace Nu
noncomputable section
set_option maxHeartbeats 4000000
def aFI : ByteArray := ⟨⟨97 :: 98 :: 99 :: 100 :: 101 :: 102 :: 103 :: 104 :: 105 :: 106 :: 107 :: 108 :: 109 :: 110 :: 111 :: 112 :: 113 :: 114 :: 115 :: 116 :: 117 :: 118 :: 119 :: 120 :: 121 :: 122 :: 48 :: 49 :: 50 :: 51 :: 52 :: 53 :: 54 :: 55 :: 56 :: 57 :: 95 :: []⟩⟩
@[go_sem]theorem aPN : (⟨⟨97 :: 98 :: 99 :: 100 :: 101 :: 102 :: 103 :: 104 :: 105 :: 106 :: 107 :: 108 :: 109 :: 110 :: 111 :: 112 :: 113 :: 114 :: 115 :: 116 :: 117 :: 118 :: 119 :: 120 :: 121 :: 122 :: 48 :: 49 :: 50 :: 51 :: 52 :: 53 :: 54 :: 55 :: 56 :: 57 :: 95 :: []⟩⟩ : ByteArray) = aFI := rfl
def oR (F : Md) (c_1 : Nat) (s_5 : qd) : Option (qd ⊕ qd) :=
 ck (((0 : Int) < (s_5.length : Int)) → (I64 ((s_5.length : Int) - (1 : Int)))) (ck (((0 : Int) < (s_5.length : Int)) → (0 ≤ ((s_5.length : Int) - (1 : Int)) ∧ ((s_5.length : Int) - (1 : Int)) < (s_5.length : Int))) (if ((0 : Int) < (s_5.length : Int)) ∧ ((s_5.getD ((s_5.length : Int) - (1 : Int)).toNat (0 : Nat)) = c_1) then ck (I64 ((s_5.length : Int) - (1 : Int))) (ck (0 ≤ ((s_5.length : Int) - (1 : Int)) ∧ ((s_5.length : Int) - (1 : Int)) ≤ (s_5.length : Int)) (some (.inl (List.take ((s_5.length : Int) - (1 : Int)).toNat s_5)))) else some (.inr s_5)))
def kJ (F : Md) (s_0 : qd) (c_1 : Nat) : Option qd :=
 (eH F (fun d : qd => oR F c_1 d) s_0).bind (fun e => some e)
def wI : PlR := ⟨[(0, .A [0, 1]), (1, .A [0, 1, 16]), (2, .A [0, 1]), (3, .A [4])], []⟩
def yJ : Ty := .pair .str wk
def gM (F : Md) : aI := mSpec yJ (.one .str) (fun x => kJ F x.1 x.2.1)
abbrev aEE (F : Md) : List (FuncId × aI) := []
theorem aEF [Mx] (F : Md) : bJ Tryz.prog GL (aEE F) := .nil
attribute [go_sem] yJ wI
theorem wJ [Mx] (F : Md) : FOK Tryz.prog GL 45 (gM F) := by
 refine bT (aU (aEF F)) mix Tryz.func45 rfl xAa xAc wI fun w0 S x Θ hw h hF => ?_
 obtain ⟨(s_0 : qd), (c_1 : Nat), u⟩ := x
 simp only [bX, go_sem]
 replace h : sat (kJ F s_0 c_1) _ := h
 unfold kJ at h
 refine cI hF (D := qd) [1] (fun d => [(0, .val .str d)]) (fun d => []) h rfl xAb ?_
 rintro s_5 A1 T1 hA1 hE1 h
 simp only [go_sem]
 replace h : sat (oR F c_1 s_5) _ := h
 unfold oR at h
 refine bD h fun g0 h => bD h fun g1 h => ?_
 refine ⟨fun hc => ?_, fun hc => ?_⟩
 ·replace h := iG hc h
  refine bD h fun g0 h => bD h fun g1 h => ?_
  replace h := hA1 _ (aE h)
  exact zaK
 ·replace h := iH hc h
  replace h := yaF (hE1 _ (aE h))
  exact zaD
attribute [go_sem] gM
def pM (F : Md) (c_1 : Nat) (s_5 : qd) : Option (qd ⊕ qd) :=
 ck (((0 : Int) < (s_5.length : Int)) → ((0 : Int) < (s_5.length : Int))) (if ((0 : Int) < (s_5.length : Int)) ∧ ((s_5.getD (0 : Nat) (0 : Nat)) = c_1) then ck ((1 : Int) ≤ (s_5.length : Int)) (some (.inl (List.drop (1 : Nat) s_5))) else some (.inr s_5))
def kW (F : Md) (s_0 : qd) (c_1 : Nat) : Option qd :=
 (eH F (fun d : qd => pM F c_1 d) s_0).bind (fun e => some e)
def yK : PlR := ⟨[(0, .A [0, 1]), (1, .A [0, 1, 13]), (2, .A [0, 1]), (3, .A [4])], []⟩
def zI : Ty := .pair .str wk
def iC (F : Md) : aI := mSpec zI (.one .str) (fun x => kW F x.1 x.2.1)
abbrev aFJ (F : Md) : List (FuncId × aI) := []
theorem aFK [Mx] (F : Md) : bJ Tryz.prog GL (aFJ F) := .nil
attribute [go_sem] zI yK
theorem yL [Mx] (F : Md) : FOK Tryz.prog GL 93 (iC F) := by
 refine bT (aU (aFK F)) mix Tryz.func93 rfl xAa xAc yK fun w0 S x Θ hw h hF => ?_
 obtain ⟨(s_0 : qd), (c_1 : Nat), u⟩ := x
 simp only [bX, go_sem]
 replace h : sat (kW F s_0 c_1) _ := h
 unfold kW at h
 refine cI hF (D := qd) [1] (fun d => [(0, .val .str d)]) (fun d => []) h rfl xAb ?_
 rintro s_5 A1 T1 hA1 hE1 h
 simp only [go_sem]
 replace h : sat (pM F c_1 s_5) _ := h
 unfold pM at h
 refine bD h fun g0 h => ?_
 refine ⟨fun hc => ?_, fun hc => ?_⟩
 ·replace h := iG hc h
  refine bD h fun g0 h => ?_
  replace h := hA1 _ (aE h)
  exact zaK
 ·replace h := iH hc h
  replace h := yaF (hE1 _ (aE h))
  exact zaD
attribute [go_sem] iC
def gX (F : Md) (as_0 : wq) (c_1 : Nat) : Option Bool :=
 ck (0 ≤ ((c_1 : Nat) : Int) ∧ ((c_1 : Nat) : Int) < (256 : Int)) (some (as_0.getD c_1 false))
def sM : PlR := ⟨[(0, .A [0, 1]), (1, .A [4])], []⟩
def tK : Ty := .pair (.rp (.arr 256 .bool)) wk
def fG (F : Md) : aI := mSpec tK (.one .bool) (fun x => gX F x.1 x.2.1)
abbrev aCn (F : Md) : List (FuncId × aI) := []
theorem aCo [Mx] (F : Md) : bJ Tryz.prog GL (aCn F) := .nil
attribute [go_sem] tK sM
theorem sN [Mx] (F : Md) : FOK Tryz.prog GL 90 (fG F) := by
 refine bT (aU (aCo F)) mix Tryz.func90 rfl xAa xAc sM fun w0 S x Θ hw h hF => ?_
 obtain ⟨(as_0 : wq), (c_1 : Nat), u⟩ := x
 simp only [bX, go_sem]
 replace h : sat (gX F as_0 c_1) _ := h
 unfold gX at h
 refine bD h fun g0 h => ?_
 exact zaD
attribute [go_sem] fG
def pN (F : Md) (chars_0 : qd) (i_6 : Int) (as_7 : wq) : Option ((Int × wq) ⊕ (wq ⊕ (wq × wm))) :=
 if i_6 < (chars_0.length : Int) then ck (0 ≤ i_6 ∧ i_6 < (chars_0.length : Int)) (if (128 : Nat) ≤ (chars_0.getD (i_6.toNat) (0 : Nat)) then some (.inr (.inr (as_7, false, ()))) else ck (0 ≤ (((chars_0.getD (i_6.toNat) (0 : Nat)) : Nat) : Int) ∧ (((chars_0.getD (i_6.toNat) (0 : Nat)) : Nat) : Int) < (256 : Int)) (ck (I64 (i_6 + (1 : Int))) (some (.inl ((i_6 + (1 : Int)), (as_7.set (chars_0.getD (i_6.toNat) (0 : Nat)) true)))))) else some (.inr (.inl as_7))
def iZ (F : Md) (chars_0 : qd) : Option (wq × wm) :=
 (eH F (fun d : Int × wq => pN F chars_0 d.1 d.2) ((0 : Int), (List.replicate 256 false))).bind (fun e => match e with | (.inl e) => some (e, true, ()) | (.inr e) => some e)
def yM : PlR := ⟨[(0, .B [0, 2]), (1, .A [0, 2, 4]), (2, .A [0, 2, 4, 9]), (3, .A [0, 2, 4]), (4, .A [0, 2, 4, 5]), (5, .A [0, 2, 4, 5, 16]), (6, .B [2, 3]), (7, .B [0, 2, 4]), (8, .B [2, 3])], []⟩
def zJ : Ty := .pair .str .unit
def eY (F : Md) : aI := mSpec zJ (.tup (.pair (.arr 256 .bool) wt)) (fun x => iZ F x.1)
abbrev aFL (F : Md) : List (FuncId × aI) := []
theorem aFM [Mx] (F : Md) : bJ Tryz.prog GL (aFL F) := .nil
attribute [go_sem] zJ yM
theorem qX [Mx] (F : Md) : FOK Tryz.prog GL 46 (eY F) := by
 refine bT (aU (aFM F)) mix Tryz.func46 rfl xAa xAc yM fun w0 S x Θ hw h hF => ?_
 obtain ⟨(chars_0 : qd), u⟩ := x
 simp only [bX, go_sem]
 replace h : sat (iZ F chars_0) _ := h
 unfold iZ at h
 refine cI hF (D := Int × wq) [0] (fun d => [(2, .ptr 0 []), (4, .val qe d.1)]) (fun d => [.inr (.box 256 (.val (.arr 256 .bool) d.2))]) h rfl xAb ?_
 rintro ⟨i_6, as_7⟩ A2 T2 hA2 hE2 h
 simp only [go_sem]
 replace h : sat (pN F chars_0 i_6 as_7) _ := h
 unfold pN at h
 refine fO h (fun hc h => ?_) fun hc h => ?_
 ·obtain ⟨g0, h⟩ := aQ h
  repeat (refine ⟨by omega, ?_⟩)
  refine fC h (fun hc h => ?_) fun hc h => ?_
  ·replace h := yaF (hE2 _ (aE h))
   exact aK hF [.cell 2 102, .tmp 3] rfl rfl rfl (aE h) xAd
  ·obtain ⟨g0, h⟩ := aQ h
   repeat (refine ⟨by omega, ?_⟩)
   obtain ⟨g0, h⟩ := aQ h
   repeat (refine ⟨by omega, ?_⟩)
   replace h := hA2 _ (aE h)
   exact zaK
 ·replace h := yaF (hE2 _ (aE h))
  exact aK hF [.cell 2 102, .tmp 3] rfl rfl rfl (aE h) xAd
attribute [go_sem] eY
def nU (F : Md) (as_1 : wq) (s_11 : qd) : Option (qd ⊕ qd) :=
 if (0 : Int) < (s_11.length : Int) then ck (I64 ((s_11.length : Int) - (1 : Int))) (ck (0 ≤ ((s_11.length : Int) - (1 : Int)) ∧ ((s_11.length : Int) - (1 : Int)) < (s_11.length : Int)) ((gX F as_1 (s_11.getD ((s_11.length : Int) - (1 : Int)).toNat (0 : Nat))).bind (fun v_21 => if ¬ (v_21 = true) then some (.inr s_11) else ck (I64 ((s_11.length : Int) - (1 : Int))) (ck (0 ≤ ((s_11.length : Int) - (1 : Int)) ∧ ((s_11.length : Int) - (1 : Int)) ≤ (s_11.length : Int)) (some (.inl (List.take ((s_11.length : Int) - (1 : Int)).toNat s_11))))))) else some (.inr s_11)
def jS (F : Md) (s_0 : qd) (as_1 : wq) : Option qd :=
 (eH F (fun d : qd => nU F as_1 d) s_0).bind (fun e => some e)
def vM : PlR := ⟨[(0, .A [0, 1]), (1, .A [0, 1, 7]), (2, .A [0, 1, 15]), (3, .A [0, 1]), (4, .A [4])], []⟩
def wK : Ty := .pair .str (.pair (.rp (.arr 256 .bool)) .unit)
def gB (F : Md) : aI := mSpec wK (.one .str) (fun x => jS F x.1 x.2.1)
abbrev wL (F : Md) : List (FuncId × aI) := [(90, (fG F))]
theorem aEf [Mx] (F : Md) : bJ Tryz.prog GL (wL F) := .cons (sN F) xAa (.nil)
attribute [go_sem] wK vM
theorem vN [Mx] (F : Md) : FOK Tryz.prog GL 47 (gB F) := by
 refine bT (aU (aEf F)) mix Tryz.func47 rfl xAa xAc vM fun w0 S x Θ hw h hF => ?_
 obtain ⟨(s_0 : qd), (as_1 : wq), u⟩ := x
 simp only [bX, go_sem]
 replace h : sat (jS F s_0 as_1) _ := h
 unfold jS at h
 refine cI hF (D := qd) [1] (fun d => [(0, .val .str d)]) (fun d => []) h rfl xAb ?_
 rintro s_11 A1 T1 hA1 hE1 h
 simp only [go_sem]
 replace h : sat (nU F as_1 s_11) _ := h
 unfold nU at h
 refine fO h (fun hc h => ?_) fun hc h => ?_
 ·refine bD h fun g0 h => bD h fun g1 h => ?_
  obtain ⟨v_21, hv, h⟩ := aO h
  try simp only [hv, go_sem]
  refine aEa h (fun hc h => ?_) fun hc h => ?_
  ·replace h := yaF (hE1 _ (aE h))
   exact zaD
  ·refine bD h fun g0 h => bD h fun g1 h => ?_
   replace h := hA1 _ (aE h)
   exact zaK
 ·replace h := yaF (hE1 _ (aE h))
  exact zaD
attribute [go_sem] gB
def oS (F : Md) (as_1 : wq) (s_11 : qd) : Option (qd ⊕ qd) :=
 if (0 : Int) < (s_11.length : Int) then ck ((0 : Int) < (s_11.length : Int)) ((gX F as_1 (s_11.getD (0 : Nat) (0 : Nat))).bind (fun v_21 => if ¬ (v_21 = true) then some (.inr s_11) else ck ((1 : Int) ≤ (s_11.length : Int)) (some (.inl (List.drop (1 : Nat) s_11))))) else some (.inr s_11)
def kK (F : Md) (s_0 : qd) (as_1 : wq) : Option qd :=
 (eH F (fun d : qd => oS F as_1 d) s_0).bind (fun e => some e)
def wM : PlR := ⟨[(0, .A [0, 1]), (1, .A [0, 1, 7]), (2, .A [0, 1, 12]), (3, .A [0, 1]), (4, .A [4])], []⟩
def yN : Ty := .pair .str (.pair (.rp (.arr 256 .bool)) .unit)
def gN (F : Md) : aI := mSpec yN (.one .str) (fun x => kK F x.1 x.2.1)
abbrev yO (F : Md) : List (FuncId × aI) := [(90, (fG F))]
theorem aEG [Mx] (F : Md) : bJ Tryz.prog GL (yO F) := .cons (sN F) xAa (.nil)
attribute [go_sem] yN wM
theorem wN [Mx] (F : Md) : FOK Tryz.prog GL 94 (gN F) := by
 refine bT (aU (aEG F)) mix Tryz.func94 rfl xAa xAc wM fun w0 S x Θ hw h hF => ?_
 obtain ⟨(s_0 : qd), (as_1 : wq), u⟩ := x
 simp only [bX, go_sem]
 replace h : sat (kK F s_0 as_1) _ := h
 unfold kK at h
 refine cI hF (D := qd) [1] (fun d => [(0, .val .str d)]) (fun d => []) h rfl xAb ?_
 rintro s_11 A1 T1 hA1 hE1 h
 simp only [go_sem]
 replace h : sat (oS F as_1 s_11) _ := h
 unfold oS at h
 refine fO h (fun hc h => ?_) fun hc h => ?_
 ·refine bD h fun g0 h => ?_
  obtain ⟨v_21, hv, h⟩ := aO h
  try simp only [hv, go_sem]
  refine aEa h (fun hc h => ?_) fun hc h => ?_
  ·replace h := yaF (hE1 _ (aE h))
   exact zaD
  ·refine bD h fun g0 h => ?_
   replace h := hA1 _ (aE h)
   exact zaK
 ·replace h := yaF (hE1 _ (aE h))
  exact zaD
attribute [go_sem] gN
def mM (F : Md) (s_0 : qd) (cutset_1 : qd) : Option qd :=
 if (s_0 = (aP ⟨#[]⟩)) ∨ (cutset_1 = (aP ⟨#[]⟩)) then some s_0 else ck (((cutset_1.length : Int) = (1 : Int)) → ((0 : Int) < (cutset_1.length : Int))) (if ((cutset_1.length : Int) = (1 : Int)) ∧ ((cutset_1.getD (0 : Nat) (0 : Nat)) < (128 : Nat)) then ck ((0 : Int) < (cutset_1.length : Int)) ((kJ F s_0 (cutset_1.getD (0 : Nat) (0 : Nat))).bind (fun v_19 => ck ((0 : Int) < (cutset_1.length : Int)) ((kW F v_19 (cutset_1.getD (0 : Nat) (0 : Nat))).bind (fun v_20 => some v_20)))) else (iZ F cutset_1).bind (fun v_27 => if v_27.2.1 = true then (jS F s_0 v_27.1).bind (fun v_34 => (kK F v_34 v_27.1).bind (fun v_35 => some v_35)) else none))
def aF7 : PlR := ⟨[(0, .A [0, 1]), (1, .A [0, 1, 12]), (2, .A [4]), (3, .A [0, 1, 21]), (4, .A [4]), (5, .B [0, 1, 5, 6]), (6, .A [0, 1, 5, 34]), (7, .A [4]), (8, .stop)], []⟩
def aHa : Ty := .pair .str wh
def pR (F : Md) : aI := mSpec aHa (.one .str) (fun x => mM F x.1 x.2.1)
abbrev qY (F : Md) : List (FuncId × aI) := [(45, (gM F)), (46, (eY F)), (47, (gB F)), (93, (iC F)), (94, (gN F))]
theorem aO8 [Mx] (F : Md) : bJ Tryz.prog GL (qY F) := .cons (wJ F) xAa (.cons (qX F) xAa (.cons (vN F) xAa (.cons (yL F) xAa (.cons (wN F) xAa (.nil)))))
attribute [go_sem] aHa aF7
theorem aF8 [Mx] (F : Md) : FOK Tryz.prog GL 96 (pR F) := by
 refine bT (aU (aO8 F)) mix Tryz.func96 rfl xAa xAc aF7 fun w0 S x Θ hw h hF => ?_
 obtain ⟨(s_0 : qd), (cutset_1 : qd), u⟩ := x
 simp only [bX, go_sem]
 replace h : sat (mM F s_0 cutset_1) _ := h
 unfold mM at h
 refine ⟨fun hc => ?_, fun hc => ?_⟩
 ·replace h := iG hc h
  exact zaD
 ·replace h := iH hc h
  refine bD h fun g0 h => ?_
  refine ⟨fun hc => ?_, fun hc => ?_⟩
  ·replace h := iG hc h
   refine bD h fun g0 h => ?_
   obtain ⟨v_19, hv, h⟩ := aO h
   try simp only [hv, go_sem]
   refine bD h fun g0 h => ?_
   obtain ⟨v_20, hv, h⟩ := aO h
   exact zaR
  ·replace h := iH hc h
   obtain ⟨v_27, hv, h⟩ := aO h
   try simp only [hv, go_sem]
   refine aG4 h (fun hc h => ?_) fun hc h => ?_
   ·obtain ⟨v_34, hv, h⟩ := aO h
    try simp only [hv, go_sem]
    obtain ⟨v_35, hv, h⟩ := aO h
    exact zaR
   ·exact aBi h
attribute [go_sem] pR
def oL (F : Md) : Option qw :=
 some ([(aP ⟨#[116]⟩), (aP ⟨#[115, 113, 114]⟩), (aP ⟨#[115, 113, 114, 116]⟩), (aP ⟨#[101, 120, 112]⟩), (aP ⟨#[112, 114, 101, 99]⟩), (aP ⟨#[101, 110, 100]⟩), (aP ⟨#[115, 116, 101, 112]⟩), (aP ⟨#[116, 111, 108]⟩), (aP ⟨#[116, 114, 105, 101, 115]⟩), (aP ⟨#[111, 114, 100, 101, 114]⟩), (aP ⟨#[106, 97, 99, 111, 98, 105]⟩), (aP ⟨#[115, 101, 105, 100, 101, 108]⟩), (aP ⟨#[115, 117, 98]⟩), (aP ⟨#[115, 116, 97, 116, 101]⟩), (aP ⟨#[112, 97, 114]⟩), (aP ⟨#[105, 110]⟩), (aP ⟨#[111, 117, 116]⟩), (aP ⟨#[100, 101, 114]⟩), (aP ⟨#[108, 105, 110, 107]⟩)] : List qd)
def aDK : PlR := ⟨[(0, .A []), (1, .A [0])], []⟩
def aEH : Ty := .unit
def tL (F : Md) : aI := mSpec aEH (.one wg) (fun x => oL F )
abbrev aLu (F : Md) : List (FuncId × aI) := []
theorem aLv [Mx] (F : Md) : bJ Tryz.prog GL (aLu F) := .nil
attribute [go_sem] aEH aDK
theorem aKb [Mx] (F : Md) : FOK Tryz.prog GL 118 (tL F) := by
 refine bT (aU (aLv F)) mix Tryz.func118 rfl xAa xAc aDK fun w0 S x Θ hw h hF => ?_
 simp only [bX, go_sem]
 replace h : sat (oL F) _ := h
 unfold oL at h
 exact aK hF [.tmp 0] rfl rfl rfl (aE h) (by (simp only [aT, go_sem]) <;> first | rfl | (simp; done))
attribute [go_sem] tL
def qK (F : Md) (s_0 : qw) (v_1 : qd) (x8_5 : Int) : Option ((Int) ⊕ ((Unit) ⊕ Int)) :=
 if x8_5 < (s_0.length : Int) then ck (0 ≤ x8_5 ∧ x8_5 < (s_0.length : Int)) (if v_1 = (s_0.getD (x8_5.toNat) ([] : List Nat)) then some (.inr (.inr x8_5)) else ck (I64 (x8_5 + (1 : Int))) (some (.inl (x8_5 + (1 : Int))))) else some (.inr (.inl ()))
def pD (F : Md) (s_0 : qw) (v_1 : qd) : Option Int :=
 (eH F (fun d : Int => qK F s_0 v_1 d) (0 : Int)).bind (fun e => match e with | (.inl e) => some (-1 : Int) | (.inr e) => some e)
def zK : PlR := ⟨[(0, .A [0, 1]), (1, .A [0, 1, 7, 8]), (2, .A [0, 1, 7, 8, 9]), (3, .A [0, 1, 5, 7, 8]), (4, .A [0, 1, 5, 7, 8, 16]), (5, .A [4]), (6, .A [0, 1, 7, 8]), (7, .A [4])], []⟩
def aAy : Ty := .pair wg wh
def nV (F : Md) : aI := mSpec aAy (.one qe) (fun x => pD F x.1 x.2.1)
abbrev aGu (F : Md) : List (FuncId × aI) := []
theorem aGv [Mx] (F : Md) : bJ Tryz.prog GL (aGu F) := .nil
attribute [go_sem] aAy zK
theorem aFN [Mx] (F : Md) : FOK Tryz.prog GL 160 (nV F) := by
 refine bT (aU (aGv F)) mix Tryz.func160 rfl xAa xAc zK fun w0 S x Θ hw h hF => ?_
 obtain ⟨(s_0 : qw), (v_1 : qd), u⟩ := x
 simp only [bX, go_sem]
 replace h : sat (pD F s_0 v_1) _ := h
 unfold pD at h
 refine cI hF (D := Int) [0, 1, 7] (fun d => [(8, .val qe d)]) (fun d => []) h rfl xAb ?_
 rintro x8_5 A2 T2 hA2 hE2 h
 simp only [go_sem]
 replace h : sat (qK F s_0 v_1 x8_5) _ := h
 unfold qK at h
 refine fO h (fun hc h => ?_) fun hc h => ?_
 ·refine bD h fun g0 h => ?_
  refine fC h (fun hc h => ?_) fun hc h => ?_
  ·replace h := yaF (hE2 _ (aE h))
   exact zaD
  ·refine bD h fun g0 h => ?_
   replace h := hA2 _ (aE h)
   exact zaK
 ·replace h := yaF (hE2 _ (aE h))
  exact zaD
attribute [go_sem] nV
def fP (F : Md) (s_0 : qw) (v_1 : qd) : Option Bool :=
 (pD F s_0 v_1).bind (fun v_6 => some (decide ((0 : Int) ≤ v_6)))
def vO : PlR := ⟨[(0, .A [0, 1]), (1, .A [4])], []⟩
def wO : Ty := .pair wg wh
def gC (F : Md) : aI := mSpec wO (.one .bool) (fun x => fP F x.1 x.2.1)
abbrev wP (F : Md) : List (FuncId × aI) := [(160, (nV F))]
theorem aEg [Mx] (F : Md) : bJ Tryz.prog GL (wP F) := .cons (aFN F) xAa (.nil)
attribute [go_sem] wO vO
theorem vP [Mx] (F : Md) : FOK Tryz.prog GL 117 (gC F) := by
 refine bT (aU (aEg F)) mix Tryz.func117 rfl xAa xAc vO fun w0 S x Θ hw h hF => ?_
 obtain ⟨(s_0 : qw), (v_1 : qd), u⟩ := x
 simp only [bX, go_sem]
 replace h : sat (fP F s_0 v_1) _ := h
 unfold fP at h
 obtain ⟨v_6, hv, h⟩ := aO h
 exact zaR
attribute [go_sem] gC
def eX (F : Md) (s_0 : qd) : Option Bool :=
 ck (¬ (((s_0.length : Int) < (1 : Int)) ∨ ((20 : Int) < (s_0.length : Int))) → ((0 : Int) < (s_0.length : Int))) (ck (¬ ((((s_0.length : Int) < (1 : Int)) ∨ ((20 : Int) < (s_0.length : Int))) ∨ ((s_0.getD (0 : Nat) (0 : Nat)) < (97 : Nat))) → ((0 : Int) < (s_0.length : Int))) (if ((((s_0.length : Int) < (1 : Int)) ∨ ((20 : Int) < (s_0.length : Int))) ∨ ((s_0.getD (0 : Nat) (0 : Nat)) < (97 : Nat))) ∨ ((122 : Nat) < (s_0.getD (0 : Nat) (0 : Nat))) then some false else (mM F s_0 (aP aFI)).bind (fun v_5 => ck ((v_5 = (aP ⟨#[]⟩)) → ((oL F).isSome = true)) (ck ((v_5 = (aP ⟨#[]⟩)) → ((fP F ((oL F).getD ([] : List qd)) s_0).isSome = true)) (some ((decide (v_5 = (aP ⟨#[]⟩))) && (!((fP F ((oL F).getD ([] : List qd)) s_0).getD false))))))))
def aIl : PlR := ⟨[(0, .A [0]), (1, .A [0, 20]), (2, .A [2]), (3, .A [2])], []⟩
def aKc : Ty := .pair .str .unit
def oJ (F : Md) : aI := mSpec aKc (.one .bool) (fun x => eX F x.1)
abbrev aCq (F : Md) : List (FuncId × aI) := [(117, (gC F)), (118, (tL F)), (96, (pR F))]
theorem aRi [Mx] (F : Md) : bJ Tryz.prog GL (aCq F) := .cons (vP F) xAa (.cons (aKb F) xAa (.cons (aF8 F) xAa (.nil)))
attribute [go_sem] aKc aIl
theorem aEh [Mx] (F : Md) : FOK Tryz.prog GL 78 (oJ F) := by
 refine bT (aU (aRi F)) mix Tryz.func78 rfl xAa xAc aIl fun w0 S x Θ hw h hF => ?_
 obtain ⟨(s_0 : qd), u⟩ := x
 simp only [bX, go_sem]
 replace h : sat (eX F s_0) _ := h
 unfold eX at h
 obtain ⟨g0, h⟩ := aQ h
 obtain ⟨g1, h⟩ := aQ h
 repeat (refine ⟨zAE, ?_⟩)
 refine ⟨fun hc => ?_, fun hc => ?_⟩
 ·replace h := iG hc h
  exact zaF
 ·replace h := iH hc h
  obtain ⟨v_5, hv, h⟩ := aO h
  try simp only [hv, go_sem]
  obtain ⟨g0, h⟩ := aQ h
  obtain ⟨g1, h⟩ := aQ h
  repeat (refine ⟨zAE, ?_⟩)
  exact zaF
attribute [go_sem] oJ
end
end Nu
end Go.Proofs
namespace Go.Proofs
open Go.Vc
set_option maxRecDepth 20000
namespace Nu
noncomputable section
set_option maxHeartbeats 4000000
def rO (F : Md) : Option ww :=
 none
def rP (F : Md) (s_0 : qd) (n_14 : Int) : Option ww :=
 ck ((0 : Int) < (s_0.length : Int)) (if (s_0.getD (0 : Nat) (0 : Nat)) = (45 : Nat) then ck (I64 (0 - n_14)) (some ((0 - n_14), (), ())) else some (n_14, (), ()))
def vY (F : Md) (s_9 : qd) (n_15 : Int) (x49_16 : Int) : Option (wj ⊕ ((Int) ⊕ ww)) :=
 if x49_16 < (s_9.length : Int) then ck (0 ≤ x49_16 ∧ x49_16 < (s_9.length : Int)) (if (9 : Nat) < (aBg F .u8 (s_9.getD (x49_16.toNat) (0 : Nat)) (48 : Nat)) then none else ck (I64 (n_15 * (10 : Int))) (ck (I64 ((n_15 * (10 : Int)) + (((aBg F .u8 (s_9.getD (x49_16.toNat) (0 : Nat)) (48 : Nat)) : Nat) : Int))) (ck (I64 (x49_16 + (1 : Int))) (some (.inl (((n_15 * (10 : Int)) + (((aBg F .u8 (s_9.getD (x49_16.toNat) (0 : Nat)) (48 : Nat)) : Nat) : Int)), (x49_16 + (1 : Int)))))))) else some (.inr (.inl n_15))
def oT (F : Md) (s_0 : qd) (s_9 : qd) : Option ww :=
 (eH F (fun d : Int × Int => vY F s_9 d.1 d.2) ((0 : Int), (0 : Int))).bind (fun e => match e with | (.inl e) => rP F s_0 e | (.inr e) => some e)
def xG (F : Md) (s_0 : qd) : Option ww :=
 if ((False) ∧ (((0 : Int) < (s_0.length : Int)) ∧ ((s_0.length : Int) < (10 : Int)))) ∨ ((True) ∧ (((0 : Int) < (s_0.length : Int)) ∧ ((s_0.length : Int) < (19 : Int)))) then ck ((0 : Int) < (s_0.length : Int)) (ck (¬ ((s_0.getD (0 : Nat) (0 : Nat)) = (45 : Nat)) → ((0 : Int) < (s_0.length : Int))) (if ((s_0.getD (0 : Nat) (0 : Nat)) = (45 : Nat)) ∨ ((s_0.getD (0 : Nat) (0 : Nat)) = (43 : Nat)) then ck ((1 : Int) ≤ (s_0.length : Int)) (if (((List.drop (1 : Nat) s_0).length : Nat) : Int) < (1 : Int) then none else oT F s_0 (List.drop (1 : Nat) s_0)) else oT F s_0 s_0)) else rO F
def aEI : PlR := ⟨[(0, .A [0]), (1, .A [0, 4]), (2, .A [0, 30]), (3, .A [0, 5]), (4, .A [0, 5, 39]), (5, .A [0, 5]), (6, .A [0, 5, 44]), (7, .A [2, 3]), (8, .A [0, 5, 6]), (9, .A [5, 6, 47, 48, 49]), (10, .A [5, 6, 47, 48, 49, 50]), (11, .A [5, 6, 8, 47, 48, 49]), (12, .A [5, 6, 8, 47, 48, 49]), (13, .A [5, 6, 8, 47, 48, 49, 56]), (14, .A [2, 3]), (15, .A [5, 6, 47, 48, 49]), (16, .A [5, 6, 47, 48, 49]), (17, .A [6, 66]), (18, .A [6]), (19, .A [2, 3]), (20, .stop)], [(5, 23), (7, 11), (12, 20)]⟩
def aF9 : Ty := .pair .str .unit
def uT (F : Md) : aI := mSpec aF9 (.tup (.pair qe (.pair .nili .unit))) (fun x => xG F x.1)
abbrev aNa (F : Md) : List (FuncId × aI) := []
theorem aNb [Mx] (F : Md) : bJ Tryz.prog GL (aNa F) := .nil
attribute [go_sem] aF9 aEI
theorem aLy [Mx] (F : Md) : FOK Tryz.prog GL 131 (uT F) := by
 refine bT (aU (aNb F)) mix Tryz.func131 rfl xAa xAc aEI fun w0 S x Θ hw h hF => ?_
 obtain ⟨(s_0 : qd), u⟩ := x
 simp only [bX, go_sem]
 replace h : sat (xG F s_0) _ := h
 unfold xG at h
 refine eK hF (D := Unit) (fun d => sat (rO F) Θ) [0] (fun d => []) (fun d => []) ?_ ?_
 ·simp only [go_sem, dH F, dI F, dJ F]
  refine ⟨fun hc => ?_, fun hc => ?_⟩
  ·replace h := iG zAB h
   refine eK hF (D := qd) (fun d => sat (oT F s_0 d) Θ) [5] (fun d => [(0, .val .str d)]) (fun d => []) ?_ ?_
   ·simp only [go_sem, dH F, dI F, dJ F]
    refine bD h fun g0 h => bD h fun g1 h => ?_
    refine ⟨fun hc => ?_, fun hc => ?_⟩
    ·replace h := iG hc h
     refine bD h fun g0 h => ?_
     refine fO h (fun hc h => ?_) fun hc h => ?_
     ·exact aBi h
     ·exact aY (List.drop (1 : Nat) s_0) h rfl xAe
    ·replace h := iH hc h
     exact aY (s_0) h rfl xAe
   ·rintro s_9 h
    simp only [go_sem, dH F, dI F, dJ F]
    replace h : sat (oT F s_0 s_9) _ := h
    unfold oT at h
    refine eK hF (D := Int) (fun d => sat (rP F s_0 d) Θ) [5] (fun d => [(6, .val qe d)]) (fun d => []) ?_ ?_
    ·simp only [go_sem, dH F, dI F, dJ F]
     refine cI hF (D := Int × Int) [5, 47, 48] (fun d => [(6, .val qe d.1), (49, .val qe d.2)]) (fun d => []) h rfl xAe ?_
     rintro ⟨n_15, x49_16⟩ A10 T10 hA10 hE10 h
     simp only [go_sem, dH F, dI F, dJ F]
     replace h : sat (vY F s_9 n_15 x49_16) _ := h
     unfold vY at h
     refine fO h (fun hc h => ?_) fun hc h => ?_
     ·refine bD h fun g0 h => ?_
      refine fC h (fun hc h => ?_) fun hc h => ?_
      ·exact aBi h
      ·refine bD h fun g0 h => bD h fun g1 h => ?_
       refine bD h fun g0 h => ?_
       replace h := hA10 _ (aE h)
       exact aY _ h rfl xAe
     ·replace h := yaF (hE10 _ (aE h))
      exact aY (n_15) h rfl xAe
    ·rintro n_14 h
     simp only [go_sem, dH F, dI F, dJ F]
     replace h : sat (rP F s_0 n_14) _ := h
     unfold rP at h
     refine bD h fun g0 h => ?_
     refine fC h (fun hc h => ?_) fun hc h => ?_
     ·refine bD h fun g0 h => ?_
      exact aK hF [.tmp 2, .tmp 3] rfl rfl rfl (aE h) xAf
     ·exact aK hF [.tmp 2, .tmp 3] rfl rfl rfl (aE h) xAf
  ·replace h := iH zAB h
   exact aY () h rfl xAe
 ·rintro u h
  simp only [go_sem, dH F, dI F, dJ F]
  replace h : sat (rO F) _ := h
  unfold rO at h
  exact aBi h
attribute [go_sem] uT
def oU (F : Md) (s_0 : qd) : Option ww :=
 (xG F s_0).bind (fun v_5 => some (v_5.1, (), ()))
def aGa : PlR := ⟨[(0, .A [0]), (1, .A [0, 4, 5]), (2, .A [0, 4, 5, 12]), (4, .A [2, 3])], []⟩
def aHb : Ty := .pair .str .unit
def lM (F : Md) : aI := mSpec aHb (.tup (.pair qe (.pair .nili .unit))) (fun x => oU F x.1)
abbrev aHc (F : Md) : List (FuncId × aI) := [(131, (uT F))]
theorem aO9 [Mx] (F : Md) : bJ Tryz.prog GL (aHc F) := .cons (aLy F) xAa (.nil)
attribute [go_sem] aHb aGa
theorem aBA [Mx] (F : Md) : FOK Tryz.prog GL 97 (lM F) := by
 refine bT (aU (aO9 F)) mix Tryz.func97 rfl xAa xAc aGa fun w0 S x Θ hw h hF => ?_
 obtain ⟨(s_0 : qd), u⟩ := x
 simp only [bX, go_sem]
 replace h : sat (oU F s_0) _ := h
 unfold oU at h
 obtain ⟨v_5, hv, h⟩ := aO h
 try simp only [hv, go_sem]
 exact aK hF [.tmp 2, .tmp 3] rfl rfl rfl (aE h) xAd
attribute [go_sem] lM
def aBB (F : Md) (at_1 : Int) (s_0 : qd) (n_5 : Int) : Option ((Int) ⊕ (Int)) :=
 ck (I64 (at_1 + n_5)) (ck (((at_1 + n_5) < (s_0.length : Int)) → (I64 (at_1 + n_5))) (ck (((at_1 + n_5) < (s_0.length : Int)) → (0 ≤ (at_1 + n_5) ∧ (at_1 + n_5) < (s_0.length : Int))) (ck ((((at_1 + n_5) < (s_0.length : Int)) ∧ ((48 : Nat) ≤ (s_0.getD (at_1 + n_5).toNat (0 : Nat)))) → (I64 (at_1 + n_5))) (ck ((((at_1 + n_5) < (s_0.length : Int)) ∧ ((48 : Nat) ≤ (s_0.getD (at_1 + n_5).toNat (0 : Nat)))) → (0 ≤ (at_1 + n_5) ∧ (at_1 + n_5) < (s_0.length : Int))) (if (((at_1 + n_5) < (s_0.length : Int)) ∧ ((48 : Nat) ≤ (s_0.getD (at_1 + n_5).toNat (0 : Nat)))) ∧ ((s_0.getD (at_1 + n_5).toNat (0 : Nat)) ≤ (57 : Nat)) then ck (I64 (n_5 + (1 : Int))) (some (.inl (n_5 + (1 : Int)))) else some (.inr n_5))))))
def nW (F : Md) (s_0 : qd) (at_1 : Int) : Option Int :=
 (eH F (fun d : Int => aBB F at_1 s_0 d) (0 : Int)).bind (fun e => some e)
def aIm : PlR := ⟨[(0, .A [0, 1]), (1, .A [0, 1, 5]), (2, .A [0, 1, 5, 27]), (3, .A [0, 1, 5]), (4, .A [4])], []⟩
def aKd : Ty := .pair .str q9
def sW (F : Md) : aI := mSpec aKd (.one qe) (fun x => nW F x.1 x.2.1)
abbrev aRj (F : Md) : List (FuncId × aI) := []
theorem aRk [Mx] (F : Md) : bJ Tryz.prog GL (aRj F) := .nil
attribute [go_sem] aKd aIm
theorem aIn [Mx] (F : Md) : FOK Tryz.prog GL 134 (sW F) := by
 refine bT (aU (aRk F)) mix Tryz.func134 rfl xAa xAc aIm fun w0 S x Θ hw h hF => ?_
 obtain ⟨(s_0 : qd), (at_1 : Int), u⟩ := x
 simp only [bX, go_sem]
 replace h : sat (nW F s_0 at_1) _ := h
 unfold nW at h
 refine cI hF (D := Int) [0, 1] (fun d => [(5, .val qe d)]) (fun d => []) h rfl xAb ?_
 rintro n_5 A2 T2 hA2 hE2 h
 simp only [go_sem]
 replace h : sat (aBB F at_1 s_0 n_5) _ := h
 unfold aBB at h
 refine bD h fun g0 h => bD h fun g1 h => bD h fun g2 h => bD h fun g3 h => bD h fun g4 h => ?_
 refine ⟨fun hc => ?_, fun hc => ?_⟩
 ·replace h := iG hc h
  refine bD h fun g0 h => ?_
  replace h := hA2 _ (aE h)
  exact zaK
 ·replace h := iH hc h
  replace h := yaF (hE2 _ (aE h))
  exact zaD
attribute [go_sem] sW
def qZ (F : Md) (all_9 : qd) (s_0 : qd) (at_17 : Int) (pow_18 : Int) : Option (qd × (Int × wm)) :=
 some (all_9, pow_18, (decide (at_17 = (s_0.length : Int))), ())
def rA (F : Md) (pow_10 : Int) (at_19 : Int) (v_23 : Int) (all_9 : qd) (s_0 : qd) (x_28 : Int) : Option (qd × (Int × wm)) :=
 ck (I64 (pow_10 + x_28)) (ck (I64 (at_19 + v_23)) (qZ F all_9 s_0 (at_19 + v_23) (pow_10 + x_28)))
def rB (F : Md) (s_0 : qd) (at_8 : Int) (pow_10 : Int) (all_9 : qd) (at_19 : Int) : Option (qd × (Int × wm)) :=
 (nW F s_0 at_19).bind (fun v_23 => if (v_23 < (1 : Int)) ∨ ((3 : Int) < v_23) then some ((aP ⟨#[]⟩), (0 : Int), false, ()) else ck (I64 (at_19 + v_23)) (ck (0 ≤ at_19 ∧ at_19 ≤ (at_19 + v_23) ∧ (at_19 + v_23) ≤ (s_0.length : Int)) ((oU F (List.drop (at_19.toNat) (List.take (at_19 + v_23).toNat s_0))).bind (fun v_27 => if (100 : Int) < v_27.1 then some ((aP ⟨#[]⟩), (0 : Int), false, ()) else if ((at_8 + (1 : Int)) < (s_0.length : Int)) ∧ ((s_0.getD (at_8 + (1 : Int)).toNat (0 : Nat)) = (45 : Nat)) then ck (I64 (0 - v_27.1)) (rA F pow_10 at_19 v_23 all_9 s_0 (0 - v_27.1)) else rA F pow_10 at_19 v_23 all_9 s_0 v_27.1))))
def rC (F : Md) (s_0 : qd) (at_8 : Int) (all_9 : qd) (pow_10 : Int) : Option (qd × (Int × wm)) :=
 ck ((at_8 < (s_0.length : Int)) → (0 ≤ at_8 ∧ at_8 < (s_0.length : Int))) (if (at_8 < (s_0.length : Int)) ∧ ((s_0.getD (at_8.toNat) (0 : Nat)) = (101 : Nat)) then ck (I64 (at_8 + (1 : Int))) (ck (((at_8 + (1 : Int)) < (s_0.length : Int)) → (0 ≤ (at_8 + (1 : Int)) ∧ (at_8 + (1 : Int)) < (s_0.length : Int))) (ck (¬ (((at_8 + (1 : Int)) < (s_0.length : Int)) ∧ ((s_0.getD (at_8 + (1 : Int)).toNat (0 : Nat)) = (45 : Nat))) → ((at_8 + (1 : Int)) < (s_0.length : Int)) → (0 ≤ (at_8 + (1 : Int)) ∧ (at_8 + (1 : Int)) < (s_0.length : Int))) (if (((at_8 + (1 : Int)) < (s_0.length : Int)) ∧ ((s_0.getD (at_8 + (1 : Int)).toNat (0 : Nat)) = (45 : Nat))) ∨ (((at_8 + (1 : Int)) < (s_0.length : Int)) ∧ ((s_0.getD (at_8 + (1 : Int)).toNat (0 : Nat)) = (43 : Nat))) then ck (I64 ((at_8 + (1 : Int)) + (1 : Int))) (rB F s_0 at_8 pow_10 all_9 ((at_8 + (1 : Int)) + (1 : Int))) else rB F s_0 at_8 pow_10 all_9 (at_8 + (1 : Int))))) else qZ F all_9 s_0 at_8 pow_10)
def sX (F : Md) (s_0 : qd) : Option (qd × (Int × wm)) :=
 (nW F s_0 (0 : Int)).bind (fun v_5 => ck (0 ≤ v_5 ∧ v_5 ≤ (s_0.length : Int)) (if ((60 : Int) < (s_0.length : Int)) ∨ (v_5 = (0 : Int)) then some ((aP ⟨#[]⟩), (0 : Int), false, ()) else ck ((v_5 < (s_0.length : Int)) → (0 ≤ v_5 ∧ v_5 < (s_0.length : Int))) (if (v_5 < (s_0.length : Int)) ∧ ((s_0.getD (v_5.toNat) (0 : Nat)) = (46 : Nat)) then ck (I64 (v_5 + (1 : Int))) ((nW F s_0 (v_5 + (1 : Int))).bind (fun v_32 => if v_32 = (0 : Int) then some ((aP ⟨#[]⟩), (0 : Int), false, ()) else ck (I64 (v_5 + (1 : Int))) (ck (I64 (v_5 + (1 : Int))) (ck (I64 ((v_5 + (1 : Int)) + v_32)) (ck (0 ≤ (v_5 + (1 : Int)) ∧ (v_5 + (1 : Int)) ≤ ((v_5 + (1 : Int)) + v_32) ∧ ((v_5 + (1 : Int)) + v_32) ≤ (s_0.length : Int)) (ck ((List.take (v_5.toNat) s_0).length + (List.drop (v_5 + (1 : Int)).toNat (List.take ((v_5 + (1 : Int)) + v_32).toNat s_0)).length ≤ 9223372036854775807) (ck (I64 (0 - v_32)) (ck (I64 (v_5 + (1 : Int))) (ck (I64 ((v_5 + (1 : Int)) + v_32)) (rC F s_0 ((v_5 + (1 : Int)) + v_32) ((List.take (v_5.toNat) s_0) ++ (List.drop (v_5 + (1 : Int)).toNat (List.take ((v_5 + (1 : Int)) + v_32).toNat s_0))) (0 - v_32))))))))))) else rC F s_0 v_5 (List.take (v_5.toNat) s_0) (0 : Int))))
def aHd : PlR := ⟨[(0, .A [0]), (1, .A [0, 5]), (2, .A [0, 5, 6, 7]), (3, .A [0, 5, 6, 7, 24]), (4, .A [2, 3, 4]), (5, .A [0, 5, 6, 7, 34]), (6, .A [0, 5, 6, 8]), (7, .A [0, 5, 6, 8, 40]), (8, .A [2, 3, 4]), (9, .A [0, 5, 6, 7]), (10, .A [0, 5, 6, 7, 66]), (11, .A [0, 5, 6, 7]), (12, .A [0, 5, 6, 7, 9]), (13, .A [0, 5, 6, 7, 9, 91]), (14, .A [0, 5, 6, 7, 9]), (15, .A [0, 5, 6, 7, 9, 10]), (16, .A [0, 5, 6, 7, 9, 10, 102]), (17, .A [2, 3, 4]), (18, .A [0, 5, 6, 7, 9, 10, 11]), (19, .A [0, 5, 6, 7, 9, 10, 11, 114]), (20, .A [2, 3, 4]), (21, .A [0, 5, 6, 7, 10, 11, 115]), (22, .A [0, 5, 6, 7, 10, 11]), (23, .A [0, 5, 6, 7]), (24, .A [2, 3, 4])], [(8, 13), (13, 27), (16, 18), (24, 26)]⟩
def aIo : Ty := .pair .str .unit
def mN (F : Md) : aI := mSpec aIo (.tup (.pair .str (.pair qe wt))) (fun x => sX F x.1)
abbrev aEi (F : Md) : List (FuncId × aI) := [(134, (sW F)), (97, (lM F))]
theorem aPO [Mx] (F : Md) : bJ Tryz.prog GL (aEi F) := .cons (aIn F) xAa (.cons (aBA F) xAa (.nil))
attribute [go_sem] aIo aHd
theorem aDa [Mx] (F : Md) : FOK Tryz.prog GL 102 (mN F) := by
 refine bT (aU (aPO F)) mix Tryz.func102 rfl xAa xAc aHd fun w0 S x Θ hw h hF => ?_
 obtain ⟨(s_0 : qd), u⟩ := x
 simp only [bX, go_sem]
 replace h : sat (sX F s_0) _ := h
 unfold sX at h
 obtain ⟨v_5, hv, h⟩ := aO h
 try simp only [hv, go_sem]
 obtain ⟨g0, h⟩ := aQ h
 repeat (refine ⟨by omega, ?_⟩)
 refine ⟨fun hc => ?_, fun hc => ?_⟩
 ·replace h := iG hc h
  exact zaq
 ·replace h := iH hc h
  refine eK hF (D := Int × qd × Int) (fun d => sat (rC F s_0 d.1 d.2.1 d.2.2) Θ) [0] (fun d => [(5, .val qe d.1), (6, .val .str d.2.1), (7, .val qe d.2.2)]) (fun d => []) ?_ ?_
  ·simp only [go_sem]
   obtain ⟨g0, h⟩ := aQ h
   repeat (refine ⟨by omega, ?_⟩)
   refine ⟨fun hc => ?_, fun hc => ?_⟩
   ·replace h := iG hc h
    obtain ⟨g0, h⟩ := aQ h
    repeat (refine ⟨by omega, ?_⟩)
    obtain ⟨v_32, hv, h⟩ := aO h
    try simp only [hv, go_sem]
    refine fC h (fun hc h => ?_) fun hc h => ?_
    ·exact aK hF [.tmp 2, .tmp 3, .tmp 4] rfl rfl rfl (aE h) xAd
    ·obtain ⟨g0, h⟩ := aQ h
     obtain ⟨g1, h⟩ := aQ h
     obtain ⟨g2, h⟩ := aQ h
     obtain ⟨g3, h⟩ := aQ h
     obtain ⟨g4, h⟩ := aQ h
     obtain ⟨g5, h⟩ := aQ h
     obtain ⟨g6, h⟩ := aQ h
     obtain ⟨g7, h⟩ := aQ h
     repeat (refine ⟨by omega, ?_⟩)
     exact aY (((v_5 + (1 : Int)) + v_32), ((List.take (v_5.toNat) s_0) ++ (List.drop (v_5 + (1 : Int)).toNat (List.take ((v_5 + (1 : Int)) + v_32).toNat s_0))), (0 - v_32)) h rfl xAb
   ·replace h := iH hc h
    exact aY (v_5, (List.take (v_5.toNat) s_0), (0 : Int)) h rfl xAb
  ·rintro ⟨at_8, all_9, pow_10⟩ h
   simp only [go_sem]
   replace h : sat (rC F s_0 at_8 all_9 pow_10) _ := h
   unfold rC at h
   refine eK hF (D := Int × Int) (fun d => sat (qZ F all_9 s_0 d.1 d.2) Θ) [0, 6] (fun d => [(5, .val qe d.1), (7, .val qe d.2)]) (fun d => []) ?_ ?_
   ·simp only [go_sem]
    obtain ⟨g0, h⟩ := aQ h
    repeat (refine ⟨by omega, ?_⟩)
    refine ⟨fun hc => ?_, fun hc => ?_⟩
    ·replace h := iG hc h
     obtain ⟨g0, h⟩ := aQ h
     repeat (refine ⟨by omega, ?_⟩)
     obtain ⟨g0, h⟩ := aQ h
     repeat (refine ⟨by omega, ?_⟩)
     refine eK hF (D := Int) (fun d => sat (rB F s_0 at_8 pow_10 all_9 d) Θ) [0, 6, 7, 9] (fun d => [(5, .val qe d)]) (fun d => []) ?_ ?_
     ·simp only [go_sem]
      obtain ⟨g0, h⟩ := aQ h
      repeat (refine ⟨by omega, ?_⟩)
      refine ⟨fun hc => ?_, fun hc => ?_⟩
      ·replace h := iG hc h
       obtain ⟨g0, h⟩ := aQ h
       repeat (refine ⟨by omega, ?_⟩)
       exact aY ((at_8 + (1 : Int)) + (1 : Int)) h rfl xAb
      ·replace h := iH hc h
       exact aY (at_8 + (1 : Int)) h rfl xAb
     ·rintro at_19 h
      simp only [go_sem]
      replace h : sat (rB F s_0 at_8 pow_10 all_9 at_19) _ := h
      unfold rB at h
      obtain ⟨v_23, hv, h⟩ := aO h
      try simp only [hv, go_sem]
      refine ⟨fun hc => ?_, fun hc => ?_⟩
      ·replace h := iG hc h
       exact zaq
      ·replace h := iH hc h
       obtain ⟨g0, h⟩ := aQ h
       obtain ⟨g1, h⟩ := aQ h
       repeat (refine ⟨by omega, ?_⟩)
       obtain ⟨v_27, hv, h⟩ := aO h
       try simp only [hv, go_sem]
       refine fO h (fun hc h => ?_) fun hc h => ?_
       ·exact aK hF [.tmp 2, .tmp 3, .tmp 4] rfl rfl rfl (aE h) xAd
       ·refine eK hF (D := Int) (fun d => sat (rA F pow_10 at_19 v_23 all_9 s_0 d) Θ) [0, 5, 6, 7, 10] (fun d => [(11, .val qe d)]) (fun d => []) ?_ ?_
        ·simp only [go_sem]
         refine ⟨fun hc => ?_, fun hc => ?_⟩
         ·replace h := iG hc h
          obtain ⟨g0, h⟩ := aQ h
          repeat (refine ⟨by omega, ?_⟩)
          exact aY (0 - v_27.1) h rfl xAb
         ·replace h := iH hc h
          exact aY v_27.1 h rfl xAb
        ·rintro x_28 h
         simp only [go_sem]
         replace h : sat (rA F pow_10 at_19 v_23 all_9 s_0 x_28) _ := h
         unfold rA at h
         obtain ⟨g0, h⟩ := aQ h
         obtain ⟨g1, h⟩ := aQ h
         repeat (refine ⟨by omega, ?_⟩)
         exact aY ((at_19 + v_23), (pow_10 + x_28)) h rfl xAb
    ·replace h := iH hc h
     exact aY (at_8, pow_10) h rfl xAb
   ·rintro ⟨at_17, pow_18⟩ h
    simp only [go_sem]
    replace h : sat (qZ F all_9 s_0 at_17 pow_18) _ := h
    unfold qZ at h
    exact zaq
attribute [go_sem] mN
def aDb (F : Md) (n_1 : Int) (b_0 : Nat) (m_13 : qd) (x8_14 : Int) : Option ((qd × Int) ⊕ qd) :=
 if x8_14 < n_1 then (kI F m_13 ([b_0] : List Nat)).bind (fun v_23 => ck (I64 (x8_14 + (1 : Int))) (some (.inl (v_23, (x8_14 + (1 : Int)))))) else some (.inr m_13)
def uD (F : Md) (b_0 : Nat) (n_1 : Int) : Option qd :=
 (eH F (fun d : qd × Int => aDb F n_1 b_0 d.1 d.2) (([1] : List Nat), (0 : Int))).bind (fun e => some e)
def aKf : PlR := ⟨[], []⟩
def aMI : Ty := .pair qx q9
def uU (F : Md) : aI := mSpec aMI (.one we) (fun x => uD F x.1 x.2.1)
abbrev aMJ (F : Md) : List (FuncId × aI) := [(104, (gW F))]
theorem aSu [Mx] (F : Md) : bJ Tryz.prog GL (aMJ F) := .cons (uQ F) xAa (.nil)
attribute [go_sem] aMI aKf
theorem aKg [Mx] (F : Md) : FOK Tryz.prog GL 106 (uU F) := by
 refine bT (aU (aSu F)) mix Tryz.func106 rfl xAa xAc aKf fun w0 S x Θ hw h hF => ?_
 obtain ⟨(b_0 : Nat), (n_1 : Int), u⟩ := x
 simp only [bX, go_sem]
 replace h : sat (uD F b_0 n_1) _ := h
 unfold uD at h
 refine xU hF [0, 1] (yaA ?_)
 refine xU hF [0, 1, 5] (yaA ?_)
 refine xU hF [0, 5, 7, 8] (yaA ?_)
 refine cI hF (D := qd × Int) [0, 7] (fun d => [(5, .val we d.1), (8, .val qe d.2)]) (fun d => []) h rfl xAb ?_
 rintro ⟨m_13, x8_14⟩ A3 T3 hA3 hE3 h
 simp only [go_sem]
 replace h : sat (aDb F n_1 b_0 m_13 x8_14) _ := h
 unfold aDb at h
 refine xU hF [0, 5, 7, 8, 9] (yaA ?_)
 refine fO h (fun hc h => ?_) fun hc h => ?_
 ·refine xU hF [0, 5, 7, 8] (yaA ?_)
  obtain ⟨v_23, hv, h⟩ := aO h
  try simp only [hv, go_sem]
  refine xU hF [0, 5, 7, 8] (yaA ?_)
  refine bD h fun g0 h => ?_
  replace h := hA3 _ (aE h)
  exact zaK
 ·replace h := yaF (hE3 _ (aE h))
  refine xU hF [4] (yaA ?_)
  exact zaD
attribute [go_sem] uU
def aBC (F : Md) (s_0 : qd) (m_24 : qd) (x9_25 : Int) : Option ((qd × Int) ⊕ qd) :=
 if x9_25 < (s_0.length : Int) then ck (0 ≤ x9_25 ∧ x9_25 < (s_0.length : Int)) ((kI F m_24 ([10] : List Nat)).bind (fun v_44 => (aC2 F ([(aBg F .u8 (s_0.getD (x9_25.toNat) (0 : Nat)) (48 : Nat))] : List Nat)).bind (fun v_45 => (aFz F v_44 v_45).bind (fun v_46 => ck (I64 (x9_25 + (1 : Int))) (some (.inl (v_46, (x9_25 + (1 : Int))))))))) else some (.inr m_24)
def zL (F : Md) (s_0 : qd) : Option qd :=
 (eH F (fun d : qd × Int => aBC F s_0 d.1 d.2) (([] : List Nat), (0 : Int))).bind (fun e => some e)
def aIp : PlR := ⟨[], []⟩
def aKh : Ty := .pair .str .unit
def sY (F : Md) : aI := mSpec aKh (.one we) (fun x => zL F x.1)
abbrev aCr (F : Md) : List (FuncId × aI) := [(104, (gW F)), (145, (aDE F)), (146, (yC F))]
theorem aRl [Mx] (F : Md) : bJ Tryz.prog GL (aCr F) := .cons (uQ F) xAa (.cons (aSn F) xAa (.cons (aMq F) xAa (.nil)))
attribute [go_sem] aKh aIp
theorem aIq [Mx] (F : Md) : FOK Tryz.prog GL 105 (sY F) := by
 refine bT (aU (aRl F)) mix Tryz.func105 rfl xAa xAc aIp fun w0 S x Θ hw h hF => ?_
 obtain ⟨(s_0 : qd), u⟩ := x
 simp only [bX, go_sem]
 replace h : sat (zL F s_0) _ := h
 unfold zL at h
 refine xU hF [0] ?_
 simp only [go_sem, dH F, dI F, dJ F]
 refine xU hF [0, 3] ?_
 simp only [go_sem, dH F, dI F, dJ F]
 refine xU hF [3, 7, 8, 9] ?_
 simp only [go_sem, dH F, dI F, dJ F]
 refine cI hF (D := qd × Int) [7, 8] (fun d => [(3, .val we d.1), (9, .val qe d.2)]) (fun d => []) h rfl xAe ?_
 rintro ⟨m_24, x9_25⟩ A3 T3 hA3 hE3 h
 simp only [go_sem, dH F, dI F, dJ F]
 replace h : sat (aBC F s_0 m_24 x9_25) _ := h
 unfold aBC at h
 refine xU hF [3, 7, 8, 9, 10] ?_
 simp only [go_sem, dH F, dI F, dJ F]
 refine fO h (fun hc h => ?_) fun hc h => ?_
 ·refine xU hF [3, 5, 7, 8, 9] ?_
  simp only [go_sem, dH F, dI F, dJ F]
  refine bD h fun g0 h => ?_
  refine xU hF [3, 7, 8, 9] ?_
  simp only [go_sem, dH F, dI F, dJ F]
  obtain ⟨v_44, hv, h⟩ := aO h
  try simp only [hv, go_sem, dH F, dI F, dJ F]
  obtain ⟨v_45, hv, h⟩ := aO h
  try simp only [hv, go_sem, dH F, dI F, dJ F]
  obtain ⟨v_46, hv, h⟩ := aO h
  try simp only [hv, go_sem, dH F, dI F, dJ F]
  refine xU hF [3, 7, 8, 9] ?_
  simp only [go_sem, dH F, dI F, dJ F]
  refine bD h fun g0 h => ?_
  replace h := hA3 _ (aE h)
  exact aY _ h rfl xAe
 ·replace h := yaF (hE3 _ (aE h))
  refine xU hF [2] ?_
  simp only [go_sem, dH F, dI F, dJ F]
  exact aK hF [.tmp 2] rfl rfl rfl (aE h) xAf
attribute [go_sem] sY
def qL (F : Md) (s_0 : qd) : Option Bool :=
 (sX F s_0).bind (fun v_5 => some v_5.2.2.1)
def aMK : PlR := ⟨[(0, .A [0]), (1, .A [5]), (2, .A [2])], []⟩
def aPa : Ty := .pair .str .unit
def rI (F : Md) : aI := mSpec aPa (.one .bool) (fun x => qL F x.1)
abbrev aPb (F : Md) : List (FuncId × aI) := [(102, (mN F))]
theorem aTl [Mx] (F : Md) : bJ Tryz.prog GL (aPb F) := .cons (aDa F) xAa (.nil)
attribute [go_sem] aPa aMK
theorem aHe [Mx] (F : Md) : FOK Tryz.prog GL 98 (rI F) := by
 refine bT (aU (aTl F)) mix Tryz.func98 rfl xAa xAc aMK fun w0 S x Θ hw h hF => ?_
 obtain ⟨(s_0 : qd), u⟩ := x
 simp only [bX, go_sem]
 replace h : sat (qL F s_0) _ := h
 unfold qL at h
 obtain ⟨v_5, hv, h⟩ := aO h
 try simp only [hv, go_sem]
 exact zaF
attribute [go_sem] rI
def aDL (F : Md) (s_0 : qd) : Option (qd × (qd × wm)) :=
 (sX F s_0).bind (fun v_5 => if ¬ (v_5.2.2.1 = true) then some (([] : List Nat), ([] : List Nat), false, ()) else (zL F v_5.1).bind (fun v_18 => (uD F (10 : Nat) (max v_5.2.1 (0 : Int))).bind (fun v_19 => (kI F v_18 v_19).bind (fun v_20 => ck (I64 (0 - v_5.2.1)) ((uD F (10 : Nat) (max (0 - v_5.2.1) (0 : Int))).bind (fun v_21 => some (v_20, v_21, true, ())))))))
def aKi : PlR := ⟨[(0, .A [0]), (1, .A [5, 6, 7]), (2, .A [5, 6, 15]), (3, .A [2, 3, 4]), (4, .A [2, 3, 4])], []⟩
def aML : Ty := .pair .str .unit
def aCs (F : Md) : aI := mSpec aML (.tup (.pair we (.pair we wt))) (fun x => aDL F x.1)
abbrev aBk (F : Md) : List (FuncId × aI) := [(102, (mN F)), (104, (gW F)), (105, (sY F)), (106, (uU F))]
theorem aSv [Mx] (F : Md) : bJ Tryz.prog GL (aBk F) := .cons (aDa F) xAa (.cons (uQ F) xAa (.cons (aIq F) xAa (.cons (aKg F) xAa (.nil))))
attribute [go_sem] aML aKi
theorem aRm [Mx] (F : Md) : FOK Tryz.prog GL 155 (aCs F) := by
 refine bT (aU (aSv F)) mix Tryz.func155 rfl xAa xAc aKi fun w0 S x Θ hw h hF => ?_
 obtain ⟨(s_0 : qd), u⟩ := x
 simp only [bX, go_sem]
 replace h : sat (aDL F s_0) _ := h
 unfold aDL at h
 obtain ⟨v_5, hv, h⟩ := aO h
 try simp only [hv, go_sem]
 refine aEa h (fun hc h => ?_) fun hc h => ?_
 ·exact aK hF [.tmp 2, .tmp 3, .tmp 4] rfl rfl rfl (aE h) xAd
 ·obtain ⟨v_18, hv, h⟩ := aO h
  try simp only [hv, go_sem]
  obtain ⟨v_19, hv, h⟩ := aO h
  try simp only [hv, go_sem]
  obtain ⟨v_20, hv, h⟩ := aO h
  try simp only [hv, go_sem]
  refine bD h fun g0 h => ?_
  obtain ⟨v_21, hv, h⟩ := aO h
  try simp only [hv, go_sem]
  exact zaq
attribute [go_sem] aCs
def aDM (F : Md) (s_0 : qd) : Option (qt × qp) :=
 (sX F s_0).bind (fun v_5 => if ¬ (v_5.2.2.1 = true) then some ((false, ([] : List Nat), (0 : Int), ()), (6 : Int), ()) else (zL F v_5.1).bind (fun v_21 => (uD F (5 : Nat) (max v_5.2.1 (0 : Int))).bind (fun v_22 => (kI F v_21 v_22).bind (fun v_23 => ck (I64 (0 - v_5.2.1)) ((uD F (5 : Nat) (max (0 - v_5.2.1) (0 : Int))).bind (fun v_24 => (aCi F v_23 v_24).bind (fun v_25 => (aC8 F false v_25.1 v_5.2.1).bind (fun v_27 => if ((0 : Int) < (v_25.2.1.length : Int)) ∨ (¬ (v_27.2.1 = (0 : Int))) then some ((false, ([] : List Nat), (0 : Int), ()), (6 : Int), ()) else some (v_27.1, (0 : Int), ())))))))))
def aKj : PlR := ⟨[(0, .B [0, 2]), (1, .A [2, 4, 5, 6]), (2, .A [2, 4, 5, 18]), (3, .B [2, 3]), (4, .A [2, 5, 7, 8]), (5, .B [2, 8, 9, 10]), (6, .A [2, 9, 46]), (7, .B [2, 3]), (8, .B [2, 3])], []⟩
def aMM : Ty := .pair .str .unit
def aCt (F : Md) : aI := mSpec aMM (.tup (.pair ql q9)) (fun x => aDM F x.1)
abbrev uF (F : Md) : List (FuncId × aI) := [(102, (mN F)), (103, (aAY F)), (104, (gW F)), (105, (sY F)), (106, (uU F)), (107, (yG F))]
theorem aSw [Mx] (F : Md) : bJ Tryz.prog GL (uF F) := .cons (aDa F) xAa (.cons (aPJ F) xAa (.cons (uQ F) xAa (.cons (aIq F) xAa (.cons (aKg F) xAa (.cons (aMA F) xAa (.nil))))))
attribute [go_sem] aMM aKj
theorem aRn [Mx] (F : Md) : FOK Tryz.prog GL 67 (aCt F) := by
 refine bT (aU (aSw F)) mix Tryz.func67 rfl xAa xAc aKj fun w0 S x Θ hw h hF => ?_
 obtain ⟨(s_0 : qd), u⟩ := x
 simp only [bX, go_sem]
 replace h : sat (aDM F s_0) _ := h
 unfold aDM at h
 obtain ⟨v_5, hv, h⟩ := aO h
 try simp only [hv, go_sem]
 refine aEa h (fun hc h => ?_) fun hc h => ?_
 ·exact aK hF [.cell 2 128, .tmp 3] rfl rfl rfl (aE h) xAd
 ·obtain ⟨v_21, hv, h⟩ := aO h
  try simp only [hv, go_sem]
  obtain ⟨v_22, hv, h⟩ := aO h
  try simp only [hv, go_sem]
  obtain ⟨v_23, hv, h⟩ := aO h
  try simp only [hv, go_sem]
  refine bD h fun g0 h => ?_
  obtain ⟨v_24, hv, h⟩ := aO h
  try simp only [hv, go_sem]
  obtain ⟨v_25, hv, h⟩ := aO h
  try simp only [hv, go_sem]
  obtain ⟨v_27, hv, h⟩ := aO h
  try simp only [hv, go_sem]
  refine ⟨fun hc => ?_, fun hc => ?_⟩
  ·replace h := iG hc h
   exact aK hF [.cell 2 128, .tmp 3] rfl rfl rfl (aE h) xAd
  ·replace h := iH hc h
   exact aK hF [.cell 2 128, .tmp 3] rfl rfl rfl (aE h) xAd
attribute [go_sem] aCt
def mF (F : Md) (a_0 : qt) (b_1 : qt) (n_2 : Int) : Option Bool :=
 (aH0 F n_2 (0 : Int)).bind (fun v_5 => (aFH F b_1 v_5.1).bind (fun v_7 => ck ((v_7.2.1 = (0 : Int)) → ((aAN F a_0 v_7.1).isSome = true)) (some ((decide (v_7.2.1 = (0 : Int))) && (decide (((aAN F a_0 v_7.1).getD (0 : Int)) ≤ (0 : Int)))))))
def aIr : PlR := ⟨[(0, .B [2, 3, 4]), (1, .B [3, 4, 7]), (2, .B [3, 9, 10]), (3, .A [6])], []⟩
def aKk : Ty := .pair ql (.pair ql q9)
def aA1 (F : Md) : aI := mSpec aKk (.one .bool) (fun x => mF F x.1 x.2.1 x.2.2.1)
abbrev aCu (F : Md) : List (FuncId × aI) := [(110, (aFE F)), (111, (aDJ F)), (69, (yH F))]
theorem aRo [Mx] (F : Md) : bJ Tryz.prog GL (aCu F) := .cons (aTj F) xAa (.cons (aSt F) xAa (.cons (aMG F) xAa (.nil)))
attribute [go_sem] aKk aIr
theorem aPP [Mx] (F : Md) : FOK Tryz.prog GL 70 (aA1 F) := by
 refine bT (aU (aRo F)) mix Tryz.func70 rfl xAa xAc aIr fun w0 S x Θ hw h hF => ?_
 obtain ⟨(a_0 : qt), (b_1 : qt), (n_2 : Int), u⟩ := x
 simp only [bX, go_sem]
 replace h : sat (mF F a_0 b_1 n_2) _ := h
 unfold mF at h
 obtain ⟨v_5, hv, h⟩ := aO h
 try simp only [hv, go_sem]
 obtain ⟨v_7, hv, h⟩ := aO h
 try simp only [hv, go_sem]
 refine bD h fun g0 h => ?_
 exact aK hF [.tmp 6] rfl rfl rfl (aE h) xAd
attribute [go_sem] aA1
end
end Nu
end Go.Proofs
