import Derived.Test.YtcpnniahnmjnpaaGreatDoorZL6
import Derived.Test.YtcpnniahnmjnpaaGreatDoorProg
import Derived.KernelRfl
import Derived.Laws.Externs
set_option linter.unusedVariables false
set_option linter.unusedSimpArgs false
namespace Go.Proofs
open Go.Vc
set_option maxRecDepth 20000
namespace Nu
noncomputable section
theorem xAa {p : Prop} (h : p := by kernel_rfl) : p := h
theorem xAb {p : Prop} (h : p := by simp only [go_sem]) : p := h
theorem xAc {p : Prop} (h : p := by decide) : p := h
theorem xAd {p : Prop} (h : p := by simp only [aT, go_sem]) : p := h
theorem xAe {p : Prop} (h : p := by simp only [go_sem, dR F, dS F, dT F]) : p := h
theorem xAf {p : Prop} (h : p := by simp only [aT, go_sem, dR F, dS F, dT F]) : p := h
abbrev qd := List Nat
@[go_sem]abbrev qe : Ty := .i .i64
@[go_sem]abbrev qh : Mk := .pair .no (.pair (.sl 87 .no) (.pair (.sl 123 .no) (.pair (.sl 9 .no) (.pair (.sl 89 .no) .no))))
abbrev qo := Int × (Int × (qd × Unit))
abbrev qp := Int × Unit
@[go_sem]abbrev qr : Ty := .pair .str (.pair .expr .unit)
abbrev qt := Bool × (qd × qp)
abbrev qv := qd × (qd × Unit)
abbrev qw := List qd
@[go_sem]abbrev qx : Ty := .u .u64
abbrev qz := qd × (Ex × Unit)
abbrev q8 := (Int × qp) × Unit
@[go_sem]abbrev q9 : Ty := .pair qe .unit
abbrev wa := qd × (qv × (Ex × Unit))
abbrev wc := qd × (qv × Unit)
@[go_sem]abbrev we : Ty := .sl qx
@[go_sem]abbrev wg : Ty := .pair .str .unit
@[go_sem]abbrev wh : Ty := .sl .str
abbrev wj := List Int
abbrev wk := Int × Int
@[go_sem]abbrev wm : Ty := .arr 2 qe
abbrev wn := Bool × Unit
@[go_sem]abbrev wo : Ty := .pair qx (.pair qx .unit)
abbrev wq := List Bool
abbrev ws := qw × Unit
abbrev wt := qd × Int
@[go_sem]abbrev wu : Ty := .pair .bool .unit
abbrev wv := List qz
abbrev wx := Int × (Unit × Unit)
@[go_sem]abbrev wy : Ty := .u .u8
abbrev wz := List Ex
@[go_sem]abbrev w4 : Ty := .pair (.rp wh) .unit
abbrev qc := qd × ((List wa) × ((List wc) × (qw × (wv × Unit))))
@[go_sem]abbrev qg : Ty := .pair .str wg
abbrev qi := qd × (Int × qp)
@[go_sem]abbrev qk : Ty := .pair qe (.pair qe wg)
@[go_sem]abbrev ql : Ty := .pair .bool (.pair we q9)
abbrev qm := qd × (qd × qv)
@[go_sem]abbrev qn : Ty := .pair qe q9
@[go_sem]abbrev qq : Ty := .pair .str (.pair qg (.pair .expr .unit))
@[go_sem]abbrev qs : Ty := .pair .str (.pair .str qg)
@[go_sem]abbrev qu : Ty := .pair .str (.pair qg .unit)
@[go_sem]abbrev qy : Ty := .pair .str qn
abbrev wb := Ex × qi
abbrev wd := List qm
@[go_sem]abbrev wi : Ty := .pair qn .unit
@[go_sem]abbrev wl : Ty := .pair wy .unit
abbrev ww := List qc
@[go_sem]abbrev qa : Ty := .pair .str (.pair (.sl qq) (.pair (.sl qu) (.pair wh (.pair (.sl qr) .unit))))
abbrev qf := Int × (Int × (Int × (Int × (qd × (qd × (qd × (qd × (ww × (wd × Unit)))))))))
@[go_sem]abbrev qj : Ty := .pair qe (.pair qe (.pair qe (.pair qe (.pair .str (.pair .str (.pair .str (.pair .str (.pair (.sl qa) (.pair (.sl qs) .unit)))))))))
@[go_sem]theorem gam_in {a b : FuncId} {s : aI} {l : List (FuncId × aI)} : gam ((a, s) :: l) b = if a = b then some s else gam l b := rfl
structure Hq (p : Prop) : Prop where
 a : p
theorem yaA {p q : Prop} (a : q) (h : Hq q → p := by
 intro hq
 simp only [go_sem]
 exact hq.a) : p := h ⟨a⟩
theorem yaB {p q : Prop} (a : q) (h : Hq q → p := by
 intro hq
 simp only [go_sem]
 repeat (refine ⟨zAA, ?_⟩)
 exact hq.a) : p := h ⟨a⟩
theorem yaC {p q : Prop} (a : q) (h : Hq q → p := by
 intro hq
 simp only [ren, cU, dI, posOf, bG, go_sem]
 exact hq.a) : p := h ⟨a⟩
theorem yaD {p q : Prop} (a : q) (h : Hq q → p := by
 intro hq
 repeat (refine ⟨zAA, ?_⟩)
 exact hq.a) : p := h ⟨a⟩
theorem yaE {p q : Prop} (a : q) (h : Hq q → p := by
 intro hq
 simp only [go_sem]
 repeat (refine ⟨zAD, ?_⟩)
 exact hq.a) : p := h ⟨a⟩
theorem yaF {p q : Prop} (h : p) (t : p → q := by
 intro h
 try dsimp only at h
 exact h) : q := t h
theorem zaA {p : Prop} (h : p := by
 subst hi
 simp only [go_sem]
 try (refine ⟨by decide, ?_⟩)
 unfold anyS
 intro i hi
 have hi : i = 4 := by revert hi; revert i; decide
 subst hi
 simp only [go_sem]
 try (refine ⟨by decide, ?_⟩)
 unfold anyS
 intro i hi
 have hi : i = 5 := by revert hi; revert i; decide
 subst hi
 simp only [go_sem]
 try (refine ⟨by decide, ?_⟩)
 (simp only [anyS, go_sem]) <;> first | exact ⟨rfl, rfl⟩ | trivial) : p := h
theorem zaB {p : Prop} (h : p := by
 (try simp only [aT, jX, jU, dG, cZ, AV.isAgg, go_sem]) <;> first | trivial | rfl | (simp; done)) : p := h
theorem zaC {p : Prop} (h : p := by
 refine aL (aJ 1 rfl aH) (yaA ?_)
 refine bP [0, 1] rfl rfl (yaC ?_)
 refine bA rfl rfl rfl rfl) : p := h
theorem zaD {p : Prop} (h : p := by
 exact aK hF [.tmp 4] rfl rfl rfl (aE h) xAd) : p := h
theorem zaE {p : Prop} (h : p := by
 refine fY h (fun hc h => ?_) fun hc h => ?_
 ·refine bB h fun g0 h => ?_
  refine bB h fun g0 h => ?_
  obtain ⟨v_28, hv, h⟩ := aP h
  try simp only [hv, go_sem]
  refine aEx h (fun hc h => ?_) fun hc h => ?_
  ·replace h := yaF (hE4 _ (aE h))
   exact aK hF [.tmp 6] rfl rfl rfl (aE h) xAd
  ·refine bB h fun g0 h => ?_
   replace h := hA4 _ (aE h)
   refine iB [] rfl rfl (yaA ?_)
   exact aY _ h rfl xAb
 ·replace h := yaF (hE4 _ (aE h))
  exact aK hF [.tmp 6] rfl rfl rfl (aE h) xAd) : p := h
theorem zaF {p : Prop} (h : p := by
 exact aK hF [.tmp 2] rfl rfl rfl (aE h) xAd) : p := h
theorem zaG {p : Prop} (h : p := by
 try (refine ⟨by decide, ?_⟩)
 unfold anyS
 intro i hi
 have hi : i = 2 ∨ i = 3 := by revert hi; revert i; decide
 rcases hi with rfl | rfl
 ·simp only [go_sem]
  try (refine ⟨by decide, ?_⟩)
  unfold anyS
  intro i hi
  have hi : i = 3 := by revert hi; revert i; decide
  exact zaA
 ·simp only [go_sem]
  try (refine ⟨by decide, ?_⟩)
  unfold anyS
  intro i hi
  have hi : i = 2 := by revert hi; revert i; decide
  exact zaA) : p := h
theorem zaH {p : Prop} (h : p := by
 obtain rfl := Option.some.inj h
 refine aO (bP [0] rfl rfl (yaC ?_))
 refine aL (aJ 0 rfl aH) ?_
 refine bA rfl rfl rfl rfl) : p := h
theorem zaI {p : Prop} (h : p := by
 subst hi
 simp only [go_sem]
 skip
 unfold anyS
 intro i hi
 have hi : i = 4 := by revert hi; revert i; decide
 subst hi
 simp only [go_sem]
 skip
 (simp only [anyS, go_sem]) <;> first | exact ⟨rfl, rfl⟩ | trivial) : p := h
theorem zaJ {p : Prop} (h : p := by
 (repeat' apply And.intro) <;> first | trivial | rfl | with_reducible assumption | omega | (intros; first | with_reducible assumption | omega) | (simp; done) | (simp at *; omega)) : p := h
theorem zaK {p : Prop} (h : p := by
 exact aY _ h rfl xAb) : p := h
theorem zaL {p : Prop} (h : p := by
 obtain rfl := Option.some.inj h
 refine aO (aL (aJ 0 rfl aH) ?_)
 refine bA rfl rfl rfl rfl) : p := h
theorem zaM {p : Prop} (h : p := by
 obtain rfl := Option.some.inj h
 refine aO (bX (aO (aL (lU 0 rfl aH) ?_)))
 exact zaC) : p := h
theorem zaN {p : Prop} (h : p := by
 obtain rfl := Option.some.inj h
 refine aO (bP [] rfl rfl (yaC ?_))
 refine bA rfl rfl rfl rfl) : p := h
theorem zaO {p : Prop} (h : p := by
 obtain rfl := Option.some.inj h
 refine gQ (eH hF [] rfl rfl rfl rfl rfl rfl ?_)
 exact zaB) : p := h
theorem zaP {p : Prop} (h : p := by
 refine fY h (fun hc h => ?_) fun hc h => ?_
 ·refine bB h fun g0 h => ?_
  obtain ⟨v_27, hv, h⟩ := aP h
  try simp only [hv, go_sem]
  refine aHy h (fun hc h => ?_) fun hc h => ?_
  ·replace h := yaF (hE2 _ (aE h))
   exact zaD
  ·refine bB h fun g0 h => ?_
   replace h := hA2 _ (aE h)
   exact zaK
 ·replace h := yaF (hE2 _ (aE h))
  exact zaD) : p := h
theorem zaQ {p : Prop} (h : p := by
 first | (refine ⟨fun hx => by first | (exfalso; omega) | (exfalso; simp_all; done), fun _ => ?_⟩) | (with_reducible intro _) | skip
 repeat (refine ⟨zAA, ?_⟩)
 first | (refine ⟨fun hx => by first | (exfalso; omega) | (exfalso; simp_all; done), fun _ => ?_⟩) | (with_reducible intro _) | skip
 repeat (refine ⟨zAA, ?_⟩)
 exact zaL) : p := h
theorem zaR {p : Prop} (h : p := by
 try simp only [hv, go_sem]
 exact zaD) : p := h
theorem zaS {p : Prop} (h : p := by
 obtain rfl := Option.some.inj h
 refine aA (cA (kK hF [.cell 2 27] [0] rfl rfl rfl rfl rfl rfl rfl rfl rfl ?_))
 exact zaB) : p := h
theorem zaT {p : Prop} (h : p := by
 obtain rfl := Option.some.inj h
 refine aO (bX (aO (aL (aJ 0 rfl aH) ?_)))
 exact zaC) : p := h
theorem zaU {p : Prop} (h : p := by
 subst hi
 simp only [go_sem]
 repeat (refine ⟨zAA, ?_⟩)
 unfold anyS
 intro i hi
 have hi : i = 3 := by revert hi; revert i; decide
 subst hi
 simp only [go_sem]
 repeat (refine ⟨zAA, ?_⟩)
 (simp only [anyS, go_sem]) <;> first | exact ⟨rfl, rfl⟩ | trivial) : p := h
theorem zaV {p : Prop} (h : p := by
 refine aA (aB (aF hF [2] (yaA ?_)))
 obtain rfl := Option.some.inj h
 refine aA (cA (eH hF [.tmp 2] rfl rfl rfl rfl rfl rfl ?_))
 exact zaB) : p := h
theorem zaW {p : Prop} (h : p := by
 try (refine ⟨by decide, ?_⟩)
 unfold anyS
 intro i hi
 have hi : i = 1 ∨ i = 3 := by revert hi; revert i; decide
 rcases hi with rfl | rfl
 ·simp only [go_sem]
  exact zaG
 ·simp only [go_sem]
  try (refine ⟨by decide, ?_⟩)
  unfold anyS
  intro i hi
  have hi : i = 1 := by revert hi; revert i; decide
  subst hi
  simp only [go_sem]
  try (refine ⟨by decide, ?_⟩)
  unfold anyS
  intro i hi
  have hi : i = 2 := by revert hi; revert i; decide
  exact zaA) : p := h
theorem zaX {p : Prop} (h : p := by
 unfold anyS
 intro i hi
 have hi : i = 0 ∨ i = 1 := by revert hi; revert i; decide
 rcases hi with rfl | rfl
 ·simp only [go_sem]
  exact zaW
 ·simp only [go_sem]
  try (refine ⟨by decide, ?_⟩)
  unfold anyS
  intro i hi
  have hi : i = 0 ∨ i = 2 := by revert hi; revert i; decide
  rcases hi with rfl | rfl
  ·simp only [go_sem]
   exact zaG
  ·simp only [go_sem]
   try (refine ⟨by decide, ?_⟩)
   unfold anyS
   intro i hi
   have hi : i = 0 := by revert hi; revert i; decide
   subst hi
   simp only [go_sem]
   try (refine ⟨by decide, ?_⟩)
   unfold anyS
   intro i hi
   have hi : i = 3 := by revert hi; revert i; decide
   exact zaA) : p := h
theorem zaY {p : Prop} (h : p := by
 obtain rfl := Option.some.inj h
 refine aO (aIv (aL (aJ 0 rfl aH) ?_))
 refine aL (aJ 1 rfl aH) ?_
 refine aL (aJ 2 rfl aH) (yaA ?_)
 refine aCv (fn := Tryz.f11) (k := 3) (l2 := [0, 1, 2]) hF rfl rfl xAc rfl (sO xAa) ⟨eX (((0 : Int), (0 : Int), ()), ()), [0, 1, 2], ()⟩ (vZ (((0 : Int), (0 : Int), ()), ())) rfl [.cell 2 36, .cell 3 38, .cell 4 3] rfl ?_ ?_
 ·(simp only [eX, go_sem]) <;> first | decide | trivial
 ·(simp only [eX, aT, iF, go_sem]) <;> first | decide | trivial | rfl | (simp; done)) : p := h
theorem zaZ {p : Prop} (h : p := by
 refine ⟨fun hc => ?_, fun hc => ?_⟩
 ·replace h := jV hc h
  exact zaD
 ·replace h := jW hc h
  refine bB h fun g0 h => ?_
  refine ⟨fun hc => ?_, fun hc => ?_⟩
  ·replace h := jV hc h
   refine bB h fun g0 h => ?_
   obtain ⟨v_8, hv, h⟩ := aP h
   exact zaR
  ·replace h := jW hc h
   obtain ⟨v_13, hv, h⟩ := aP h
   try simp only [hv, go_sem]
   refine aHy h (fun hc h => ?_) fun hc h => ?_
   ·obtain ⟨v_17, hv, h⟩ := aP h
    exact zaR
   ·exact aBH h) : p := h
theorem zaa {p : Prop} (h : p := by
 refine aL (aJ 0 rfl aH) ?_
 refine bA rfl rfl rfl rfl) : p := h
theorem zab {p : Prop} (h : p := by
 refine aB (aF hF [0, 2] (yaA ?_))
 refine aA (aB (aB (aRo hF rfl rfl rfl fun b hb => ?_)))
 refine aA (bC rfl (fun hc => ?_) (fun hc => ?_))
 ·have hs := hb hc
  refine aB (aF hF [2] (yaA ?_))
  refine aA (cA (cE (gX hF [.tmp 2] rfl rfl rfl ?_)))
  simp only [iF, aT, go_sem, hs]
  try trivial
 ·refine bY (aA (aB (aR hF [2] (yaA ?_))))
  refine ⟨by omega, ?_⟩
  refine aA (cA (gX hF [.tmp 2] rfl rfl rfl ?_))
  simp only [iF, aT, go_sem]
  try trivial) : p := h
theorem zac {p : Prop} (h : p := by
 refine fY h (fun hc h => ?_) fun hc h => ?_
 ·obtain ⟨g0, h⟩ := aQ h
  obtain ⟨g1, h⟩ := aQ h
  repeat (refine ⟨zAA, ?_⟩)
  refine ⟨fun hc => ?_, fun hc => ?_⟩
  ·replace h := jV zAB h
   replace h := yaF (hE4 _ (aE h))
   exact zaD
  ·replace h := jW zAB h
   obtain ⟨g0, h⟩ := aQ h
   try simp only [I64, I32] at g0
   repeat (refine ⟨zAA, ?_⟩)
   replace h := hA4 _ (aE h)
   exact zaK
 ·replace h := yaF (hE4 _ (aE h))
  exact zaD) : p := h
theorem zad {p : Prop} (h : p := by
 obtain rfl := Option.some.inj h
 refine bX (aO (aL (aJ 0 rfl aH) ?_))
 exact zaC) : p := h
theorem zae {p : Prop} (h : p := by
 first | (refine ⟨fun hx => by first | (exfalso; omega) | (exfalso; simp_all; done), fun _ => ?_⟩) | (with_reducible intro _) | skip
 repeat (refine ⟨zAA, ?_⟩)
 first | (refine ⟨fun hx => by first | (exfalso; omega) | (exfalso; simp_all; done), fun _ => ?_⟩) | (with_reducible intro _) | skip
 repeat (refine ⟨zAA, ?_⟩)
 refine aA (aB (aF hF [2, 3] (yaA ?_)))
 obtain rfl := Option.some.inj h
 refine aA (cA (eH hF [.tmp 2, .tmp 3] rfl rfl rfl rfl rfl rfl ?_))
 exact zaB) : p := h
theorem zaf {p : Prop} (h : p := by
 refine gQ (eH hF [] rfl rfl rfl rfl rfl rfl ?_)
 simp only [aT, jX, jU, go_sem]
 try decide) : p := h
theorem zag {p : Prop} (h : p := by
 simp only [go_sem]
 (repeat' apply And.intro) <;> try (first | trivial | rfl | with_reducible assumption | omega | (intros; first | with_reducible assumption | omega) | (simp; done) | (simp at *; omega))
 obtain rfl := Option.some.inj h
 dsimp only [lR] at hs2
 have h := yaF (hs2)
 obtain rfl := Option.some.inj h
 refine bX (aO (bX (bP [0] rfl rfl (yaC ?_))))
 refine aL (aJ 0 rfl aH) ?_
 refine bA rfl rfl rfl rfl) : p := h
theorem zah {p : Prop} (h : p := by
 obtain rfl := Option.some.inj h
 refine aL (aJ 0 rfl aH) ?_
 exact zaC) : p := h
theorem zai {p : Prop} (h : p := by
 skip
 unfold anyS
 intro i hi
 have hi : i = 2 ∨ i = 3 := by revert hi; revert i; decide
 rcases hi with rfl | rfl
 ·simp only [go_sem]
  skip
  unfold anyS
  intro i hi
  have hi : i = 3 := by revert hi; revert i; decide
  exact zaI
 ·simp only [go_sem]
  skip
  unfold anyS
  intro i hi
  have hi : i = 2 := by revert hi; revert i; decide
  exact zaI) : p := h
theorem zaj {p : Prop} (h : p := by
 obtain rfl := Option.some.inj h
 refine aO (bX (aL (aJ 0 rfl aH) ?_))
 exact zaC) : p := h
theorem zak {p : Prop} (h : p := by
 refine eH hF [] rfl rfl rfl rfl rfl rfl ?_
 exact zaB) : p := h
theorem zal {p : Prop} (h : p := by
 refine ⟨hq, ?_⟩
 refine aO ?_
 refine aCv (fn := Tryz.f147) (k := 2) (l2 := [0, 1]) hF' rfl rfl xAc rfl (sO xAa) ⟨pK q, [0, 1], ((false, ([] : List Nat), (0 : Int), ()), 0)⟩ (aHC q) rfl [.cell 2 128, .cell 3 3] rfl ?_ ?_
 ·(simp only [pK, go_sem]) <;> first | decide | trivial
 ·(simp only [pK, aT, iF, go_sem]) <;> first | decide | trivial) : p := h
theorem zam {p : Prop} (h : p := by
 refine aB (aR hF [3, 4, 5, 6] (yaA ?_))
 refine aA (aB (aBG 0 rfl (yaA ?_)))
 refine aBG 1 rfl (yaA ?_)
 refine aBG 2 rfl (yaA ?_)
 refine aR hF [6, 7] (yaA ?_)
 obtain ⟨g0, h⟩ := aM h
 repeat (refine ⟨zAA, ?_⟩)
 obtain rfl := Option.some.inj h
 refine aA (cA (gX hF [.cell 6 128, .tmp 7] rfl rfl rfl ?_))
 exact zAH) : p := h
theorem zan {p : Prop} (h : p := by
 first | (refine ⟨fun hx => by first | (exfalso; omega) | (exfalso; simp_all; done), fun _ => ?_⟩) | (with_reducible intro _) | skip
 repeat (refine ⟨zAA, ?_⟩)
 first | (refine ⟨fun hx => by first | (exfalso; omega) | (exfalso; simp_all; done), fun _ => ?_⟩) | (with_reducible intro _) | skip
 repeat (refine ⟨zAA, ?_⟩)
 exact zaN) : p := h
theorem zao {p : Prop} (h : p := by
 have h := dP zAB h
 refine aB (aF hF [2] (yaA ?_))
 obtain rfl := Option.some.inj h
 refine aA (cA (fQ (cE (gX hF [.tmp 2] rfl rfl rfl ?_))))
 exact zAH) : p := h
theorem zap {p : Prop} (h : p := by
 refine ⟨hq, ?_⟩
 refine aA (cA ?_)
 refine aOB (fn := Tryz.f147) (k := 2) (l2 := [0, 1]) hF' rfl rfl xAc rfl (sO xAa) ⟨pJ, [0, 1], (q, 0)⟩ aHB rfl [.cell 2 128, .cell 3 3] rfl ?_ ?_
 ·(simp only [pJ, go_sem]) <;> first | decide | trivial
 ·(simp only [pJ, aT, iF, go_sem]) <;> first | decide | trivial) : p := h
theorem zaq {p : Prop} (h : p := by
 have h := dP zAB h
 refine aB (aF hF [4] (yaA ?_))
 obtain rfl := Option.some.inj h
 refine aA (cA (cE (gX hF [.tmp 4] rfl rfl rfl ?_)))
 exact zAH) : p := h
theorem zar {p : Prop} (h : p := by
 obtain ⟨g0, h⟩ := aM h
 repeat (refine ⟨zAC, ?_⟩)
 obtain rfl := Option.some.inj h
 refine aA (cA (gX hF [.tmp 4] rfl rfl rfl ?_))
 exact zAH) : p := h
theorem zas {p : Prop} (h : p := by
 exact aK hF [.tmp 2, .tmp 3, .tmp 4] rfl rfl rfl (aE h) xAd) : p := h
theorem zat {p : Prop} (h : p := by
 have h := dP zAB h
 refine aB (aR hF [8] (yaA ?_))
 obtain rfl := Option.some.inj h
 dsimp only [lR] at hs2
 have h := yaF (hs2)
 obtain rfl := Option.some.inj h
 refine aA (cA (cE (fQ (cE (fQ (kK hF [.cell 8 27] [0] rfl rfl rfl rfl rfl rfl rfl rfl rfl ?_))))))
 exact zaB) : p := h
theorem zau {p : Prop} (h : p := by
 refine ⟨fun _ => (yaD ?_), fun hx => by first | (exfalso; omega) | (exfalso; simp_all; done)⟩
 refine ⟨fun _ => (yaD ?_), fun hx => by first | (exfalso; omega) | (exfalso; simp_all; done)⟩
 refine ⟨fun _ => (yaD ?_), fun hx => by first | (exfalso; omega) | (exfalso; simp_all; done)⟩
 exact zaL) : p := h
theorem zav {p : Prop} (h : p := by
 obtain rfl := Option.some.inj h
 refine aL (lU 0 rfl aH) ?_
 exact zaC) : p := h
theorem zaw {p : Prop} (h : p := by
 refine aA (aB (aC hF (aG (l := [(53, ⟨bM F, [0], (o0_1, .inr p_8)⟩)]) (.cons (bS F) xAa (.nil))) [0, 3] [] (yaB ?_)))
 exact zaL) : p := h
theorem zax {p : Prop} (h : p := by
 exact aY _ h rfl (by (try simp only [kU, dG, true_or, and_self, go_sem]) <;> (repeat' apply And.intro) <;> first | rfl | (left; rfl) | (right; rfl) | (left; simp only [go_sem]; done) | (right; simp only [go_sem]; done) | (simp; done) | (simp only [*]; done) | omega)) : p := h
theorem zay {p : Prop} (h : p := by
 have h := dQ zAB h
 obtain rfl := Option.some.inj h
 refine bY (gQ (eH hF [] rfl rfl rfl rfl rfl rfl ?_))
 exact zaB) : p := h
theorem zaz {p : Prop} (h : p := by
 obtain rfl := Option.some.inj h
 refine aA (cA (kK hF [.cell 3 128] [] rfl rfl rfl rfl rfl rfl rfl rfl rfl ?_))
 exact zaB) : p := h
theorem za0 {p : Prop} (h : p := by
 obtain rfl := Option.some.inj h
 refine bX (aL (aJ 0 rfl aH) ?_)
 exact zaC) : p := h
theorem za1 {p : Prop} (h : p := by
 simp only [go_sem]
 refine aB (aF hF [0, 1, 2, 3, 10] (yaA ?_))
 refine aA (bC rfl (fun hc => absurd hc xAc) (fun hc => ?_))
 refine bY ?_
 refine iB [0, 1, 2] rfl rfl (yaC ?_)
 exact zaf) : p := h
theorem za2 {p : Prop} (h : p := by
 try simp only [hv, go_sem]
 refine bB h fun g0 h => ?_
 exact zaF) : p := h
theorem za3 {p : Prop} (h : p := by
 obtain rfl := Option.some.inj h
 exact zaa) : p := h
theorem za4 {p : Prop} (h : p := by
 refine ⟨fun _ => (yaD ?_), fun hx => by first | (exfalso; omega) | (exfalso; simp_all; done)⟩
 refine ⟨fun _ => (yaD ?_), fun hx => by first | (exfalso; omega) | (exfalso; simp_all; done)⟩
 exact zaN) : p := h
theorem za5 {p : Prop} (h : p := by
 obtain rfl := Option.some.inj h
 refine aA (cA (gX hF [.tmp 2] rfl rfl rfl ?_))
 exact zAH) : p := h
theorem za6 {p : Prop} (h : p := by
 refine aHy h (fun hc h => ?_) fun hc h => ?_
 ·exact aK hF [.tmp 2] rfl rfl rfl (aE h) xAd
 ·exact aK hF [.tmp 2] rfl rfl rfl (aE h) xAd) : p := h
theorem zAA {p : Prop} (h : p := by first | with_reducible assumption | omega | (intros; first | with_reducible assumption | omega) | (simp only [go_sem] at *; first | with_reducible assumption | omega) | (intro _; exact ⟨rfl, by decide⟩) | (intro _; refine (?_ : _ = aD _); rfl) | (refine (?_ : _ = aD _); rfl) | exact ⟨rfl, rfl⟩ | decide) : p := h
theorem zAB {p : Prop} (h : p := by first | exact hc | omega | (simpa using hc) | (simp at hc ⊢; omega)) : p := h
theorem zAC {p : Prop} (h : p := by first | with_reducible assumption | omega | (intros; first | with_reducible assumption | omega) | (simp only [go_sem] at *; first | with_reducible assumption | omega) | (intro _; exact ⟨rfl, by decide⟩) | (intro _; refine (?_ : _ = aD _); rfl) | (refine (?_ : _ = aD _); rfl) | exact ⟨rfl, rfl⟩ | (intro q0; (try have e0 := g0 (by first | exact q0 | omega | (simpa using q0))); first | assumption | omega) | decide) : p := h
theorem zAD {p : Prop} (h : p := by first | with_reducible assumption | omega | (intros; first | with_reducible assumption | omega) | (simp only [go_sem] at *; first | with_reducible assumption | omega) | (intro _; exact ⟨rfl, by decide⟩) | (intro _; refine (?_ : _ = aD _); rfl) | (refine (?_ : _ = aD _); rfl) | exact ⟨rfl, rfl⟩ | decide | ((repeat' apply And.intro) <;> first | assumption | rfl | omega) | fail) : p := h
theorem zAE {p : Prop} (h : p := by first | with_reducible assumption | omega | (intros; first | with_reducible assumption | omega) | (simp only [go_sem] at *; first | with_reducible assumption | omega) | (intro _; exact ⟨rfl, by decide⟩) | (intro _; refine (?_ : _ = aD _); rfl) | (refine (?_ : _ = aD _); rfl) | exact ⟨rfl, rfl⟩ | (intro q0; (try have e0 := g0 (by first | exact q0 | omega | (simpa using q0))); (try have e1 := g1 (by first | exact q0 | omega | (simpa using q0))); first | assumption | omega) | decide) : p := h
theorem zAF {p : Prop} (h : p := by first | exact q0 | omega | (simpa using q0)) : p := h
theorem zAG {p : Prop} (h : p := by (try simp only [kU, dG, true_or, and_self, go_sem]) <;> (repeat' apply And.intro) <;> first | rfl | (left; rfl) | (right; rfl) | (left; simp only [go_sem]; done) | (right; simp only [go_sem]; done) | (simp; done) | (simp only [*]; done) | omega) : p := h
theorem zAH {p : Prop} (h : p := by (try simp only [iF, aT, go_sem]) <;> first | rfl | (simp; done)) : p := h
def aXv : List Nat := [0, 1, 56, 2, 57, 49, 28, 3, 61, 58, 42, 50, 38, 29, 17, 4, 62, 47, 59, 36, 45, 43, 51, 22, 53, 39, 33, 30, 24, 18, 12, 5, 63, 55, 48, 27, 60, 41, 37, 16, 46, 35, 44, 21, 52, 32, 23, 11, 54, 26, 40, 15, 34, 20, 31, 10, 25, 14, 19, 9, 13, 8, 7, 6]
theorem aYJ : aXv = [0, 1, 56, 2, 57, 49, 28, 3, 61, 58, 42, 50, 38, 29, 17, 4, 62, 47, 59, 36, 45, 43, 51, 22, 53, 39, 33, 30, 24, 18, 12, 5, 63, 55, 48, 27, 60, 41, 37, 16, 46, 35, 44, 21, 52, 32, 23, 11, 54, 26, 40, 15, 34, 20, 31, 10, 25, 14, 19, 9, 13, 8, 7, 6] := rfl
def p10 : List Nat := [1, 10, 100, 1000, 10000, 100000, 1000000, 10000000, 100000000, 1000000000, 10000000000, 100000000000, 1000000000000, 10000000000000, 100000000000000, 1000000000000000, 10000000000000000, 100000000000000000, 1000000000000000000, 10000000000000000000]
theorem aZG : p10 = [1, 10, 100, 1000, 10000, 100000, 1000000, 10000000, 100000000, 1000000000, 10000000000, 100000000000, 1000000000000, 10000000000000, 100000000000000, 1000000000000000, 10000000000000000, 100000000000000000, 1000000000000000000, 10000000000000000000] := rfl
class Mx where
 v : Int
def GL [Mx] : Nat → AV
 | 7 => .roa (.arr 64 wy) aXv
 | 8 => .roa (.arr 20 qx) p10
 | 0 => .roa qe Mx.v
 | _ => .junk
theorem GL0 [Mx] : GL 7 = .roa (.arr 64 wy) aXv := rfl
theorem GL3 [Mx] : GL 8 = .roa (.arr 20 qx) p10 := rfl
theorem GLm [Mx] : GL 0 = .roa qe Mx.v := rfl
attribute [go_sem] GLm GL0 GL3 mSpec
def tab : List (TypeId × Ty) := [(201, .clo 153 .unit), (2, .i .i64), (3, .i .i64), (4, .bool), (5, .u .u8), (9, .str), (21, .i .i32), (22, .sl qe), (24, .u .u64), (25, .sl .expr), (27, .expr), (32, .sl .str), (33, .sl qa), (34, .sl qs), (36, .pair qe (.pair qe (.pair qe (.pair qe (.pair .str (.pair .str (.pair .str (.pair .str (.pair (.sl qa) (.pair (.sl qs) .unit)))))))))), (38, .pair qe q9), (49, .sl qq), (50, .sl qu), (51, .sl qr), (53, .pair .str (.pair (.sl qq) (.pair (.sl qu) (.pair wh (.pair (.sl qr) .unit))))), (56, .pair qe .unit), (60, .pair .str qn), (65, .pair qn .unit), (73, .pair qe (.pair qe wg)), (83, .pair .str (.pair .str qg)), (85, .pair .str wg), (87, .pair .str (.pair qg (.pair .expr .unit))), (89, .pair .str (.pair .expr .unit)), (96, .arr 2 qe), (102, .arr 256 (.bool)), (123, .pair .str (.pair qg .unit)), (125, .sl ql), (126, .sl qx), (128, .pair .bool (.pair we q9)), (149, .nilf), (157, .nili), (169, .u .u64), (174, .sl wh), (194, .sl wy), (208, .u .u32), (212, .i .i64), (219, .pair qe .unit), (223, .arr 256 wy), (225, .pair wy wl), (226, .arr 16 (.pair wy wl)), (239, .pair .str .unit), (240, .arr 64 wy), (242, .arr 24 wy), (246, .arr 20 qx), (247, .arr 65 wy), (250, .arr 32 wy)]
def elT : TypeId → TypeId
 | 22 => 3
 | 25 => 27
 | 32 => 9
 | 33 => 53
 | 34 => 83
 | 49 => 87
 | 50 => 123
 | 51 => 89
 | 125 => 128
 | 126 => 169
 | 174 => 32
 | 194 => 5
 | _ => 0
def mpT : TypeId → Option (TypeId × TypeId)
 | 90 => some (9, 9)
 | 110 => some (9, 3)
 | 142 => some (9, 4)
 | _ => none
theorem aTb : lD Tryz.prog (aIK tab) := aWc xAa
theorem aZ0 : ∀ t ct, aIK tab t = some (.sl ct) → Tryz.prog.underlying t = some (.slice (elT t)) := aYh xAa
theorem aZ1 : ∀ t k e, mpT t = some (k, e) → Tryz.prog.underlying t = some (.map k e) := by
 intro t k e h
 unfold mpT at h
 split at h
 ·cases h; rfl
 ·cases h; rfl
 ·cases h; rfl
 ·cases h
def TM : Tab := aIK tab
def EM [Mx] (l : List (FuncId × aI)) : Env := ⟨TM, GL, fun f _ => gam l f, elT, mpT, fun _ => none, fun _ => false⟩
def dmT : TypeId → Option Mk
 | 32 => some .no
 | 33 => some qh
 | 34 => some .no
 | 49 => some .no
 | 50 => some .no
 | 51 => some .no
 | _ => none
def dzT : TypeId → Bool
 | 36 => true
 | 53 => true
 | _ => false
def EX [Mx] (l : List (FuncId × aI)) : Env := ⟨TM, GL, fun f _ => gam l f, elT, mpT, dmT, dzT⟩
theorem bAk [Mx] (l : List (FuncId × aI)) (t : TypeId) : (EM l).T t = TM t := rfl
theorem bAl [Mx] (l : List (FuncId × aI)) (t : Nat) : (EM l).G t = GL t := rfl
theorem bAm [Mx] (l : List (FuncId × aI)) (f : FuncId) (vs : List AV) : (EM l).Γ f vs = gam l f := rfl
theorem aZ2 [Mx] (l : List (FuncId × aI)) (t : TypeId) : (EM l).el t = elT t := rfl
theorem aZ3 [Mx] (l : List (FuncId × aI)) (t : TypeId) : (EM l).mp t = mpT t := rfl
theorem aU [Mx] {l : List (FuncId × aI)} (h : bH Tryz.prog GL l) : iE Tryz.prog (EM l) := aSS aTb aZ0 aZ1 h
theorem mix : Tryz.prog.follows .mixedOrders = true := by kernel_rfl
theorem aZ4 [Mx] (l : List (FuncId × aI)) (t : TypeId) : (EM l).dm t = none := rfl
theorem aZ5 [Mx] (l : List (FuncId × aI)) (t : TypeId) : (EM l).dz t = false := rfl
theorem bAn [Mx] (l : List (FuncId × aI)) (t : TypeId) : (EX l).T t = TM t := rfl
theorem bAo [Mx] (l : List (FuncId × aI)) (t : Nat) : (EX l).G t = GL t := rfl
theorem bAp [Mx] (l : List (FuncId × aI)) (f : FuncId) (vs : List AV) : (EX l).Γ f vs = gam l f := rfl
theorem aZ6 [Mx] (l : List (FuncId × aI)) (t : TypeId) : (EX l).el t = elT t := rfl
theorem aZ7 [Mx] (l : List (FuncId × aI)) (t : TypeId) : (EX l).mp t = mpT t := rfl
theorem aZ8 [Mx] (l : List (FuncId × aI)) (t : TypeId) : (EX l).dm t = dmT t := rfl
theorem aZ9 [Mx] (l : List (FuncId × aI)) (t : TypeId) : (EX l).dz t = dzT t := rfl
theorem aM0 [Mx] {l : List (FuncId × aI)} (h : bH Tryz.prog GL l) : iE Tryz.prog (EX l) := aSS aTb aZ0 aZ1 h
attribute [go_sem] aZ4 aZ5 bAn bAo bAp aZ6 aZ7 aZ8 aZ9 dmT dzT
theorem T2 : TM 2 = some qe := rfl
theorem T3 : TM 3 = some qe := rfl
theorem T4 : TM 4 = some (.bool) := rfl
theorem T5 : TM 5 = some wy := rfl
theorem T9 : TM 9 = some (.str) := rfl
theorem T21 : TM 21 = some (.i .i32) := rfl
theorem T22 : TM 22 = some (.sl qe) := rfl
theorem T24 : TM 24 = some qx := rfl
theorem T25 : TM 25 = some (.sl .expr) := rfl
theorem T27 : TM 27 = some (.expr) := rfl
theorem T32 : TM 32 = some wh := rfl
theorem T33 : TM 33 = some (.sl qa) := rfl
theorem T34 : TM 34 = some (.sl qs) := rfl
theorem T36 : TM 36 = some qj := rfl
theorem T38 : TM 38 = some qn := rfl
theorem T49 : TM 49 = some (.sl qq) := rfl
theorem T50 : TM 50 = some (.sl qu) := rfl
theorem T51 : TM 51 = some (.sl qr) := rfl
theorem T53 : TM 53 = some qa := rfl
theorem T56 : TM 56 = some q9 := rfl
theorem T60 : TM 60 = some qy := rfl
theorem T65 : TM 65 = some wi := rfl
theorem T73 : TM 73 = some qk := rfl
theorem T83 : TM 83 = some qs := rfl
theorem T85 : TM 85 = some qg := rfl
theorem T87 : TM 87 = some qq := rfl
theorem T89 : TM 89 = some qr := rfl
theorem T96 : TM 96 = some wm := rfl
theorem bAq : TM 102 = some (.arr 256 (.bool)) := rfl
theorem bAr : TM 123 = some qu := rfl
theorem bAs : TM 125 = some (.sl ql) := rfl
theorem bAt : TM 126 = some we := rfl
theorem bAu : TM 128 = some ql := rfl
theorem bAv : TM 149 = some (.nilf) := rfl
theorem bAw : TM 157 = some (.nili) := rfl
theorem bAx : TM 169 = some qx := rfl
theorem bAy : TM 174 = some (.sl wh) := rfl
theorem bAz : TM 194 = some (.sl wy) := rfl
theorem bAA : TM 208 = some (.u .u32) := rfl
theorem bAB : TM 212 = some qe := rfl
theorem bAC : TM 219 = some q9 := rfl
theorem bAD : TM 223 = some (.arr 256 wy) := rfl
theorem bAE : TM 225 = some (.pair wy wl) := rfl
theorem bAF : TM 226 = some (.arr 16 (.pair wy wl)) := rfl
theorem bAG : TM 239 = some wg := rfl
theorem bAH : TM 240 = some (.arr 64 wy) := rfl
theorem bAI : TM 242 = some (.arr 24 wy) := rfl
theorem bAJ : TM 246 = some (.arr 20 qx) := rfl
theorem bAK : TM 247 = some (.arr 65 wy) := rfl
theorem bAL : TM 250 = some (.arr 32 wy) := rfl
theorem bAM : TM 201 = some (.clo 153 .unit) := rfl
attribute [go_sem] bAk bAl bAm aZ2 aZ3 elT mpT bAM T2 T3 T4 T5 T9 T21 T22 T24 T25 T27 T32 T33 T34 T36 T38 T49 T50 T51 T53 T56 T60 T65 T73 T83 T85 T87 T89 T96 bAq bAr bAs bAt bAu bAv bAw bAx bAy bAz bAA bAB bAC bAD bAE bAF bAG bAH bAI bAJ bAK bAL
end
end Nu
end Go.Proofs
namespace Go.Proofs
open Go.Vc
set_option maxRecDepth 20000
namespace Nu
noncomputable section
def aFU (x y c : Nat) : Nat × Nat × Unit := ((x + y + c) % 18446744073709551616, (x + y + c) / 18446744073709551616, ())
abbrev aR1 (x y c : Nat) : Prop := c ≤ 1
def aKl : Ty := .pair qx wo
def tR : aI := ⟨aKl, .tup wo, fun x => aR1 x.1 x.2.1 x.2.2.1, fun x => aFU x.1 x.2.1 x.2.2.1⟩
attribute [go_sem] tR aKl
theorem aR2 {w : World} {S : Nat → Prop} {x : Nat} {v : Value} (h : dF w S qx x v) : v = .int .u64 (x : Int) := by
 unfold dF at h
 rw [if_neg (by simp [Ty.isAgg])] at h
 simp only [bE, List.cons.injEq, and_true] at h
 exact h.1
theorem aT6 {w : World} {S : Nat → Prop} {vs : List Value} {x : Nat × Nat × Nat × Unit} (h : pU w S (.pair qx wo) x vs) : vs = [.int .u64 (x.1 : Int), .int .u64 (x.2.1 : Int), .int .u64 (x.2.2.1 : Int)] := by
 obtain ⟨v1, r1, rfl, h1, v2, r2, rfl, h2, v3, r3, rfl, h3, h4⟩ := h
 rw [aR2 h1, aR2 h2, aR2 h3]
 have h4 : r3 = [] := h4
 rw [h4]
theorem aXw {w : World} {S : Nat → Prop} {x : Nat} (h : x < 18446744073709551616) : dF w S qx x (.int .u64 (x : Int)) := by
 unfold dF
 rw [if_neg (by simp [Ty.isAgg])]
 refine ⟨rfl, rfl, ?_⟩
 simp [IntKind.max, IntKind.signed, IntKind.bits]; omega
theorem aXx {w : World} {S : Nat → Prop} {x y : Nat} (hx : x < 18446744073709551616) (hy : y < 18446744073709551616) : pU w S wo (x, y, ()) [.int .u64 (x : Int), .int .u64 (y : Int)] :=
 ⟨_, _, rfl, aXw hx, _, _, rfl, aXw hy, rfl⟩
theorem wf_u64 {x : Nat} (h : (Ty.u .u64).wf x) : x < 18446744073709551616 := by
 simp only [Ty.wf, IntKind.max, IntKind.signed, IntKind.bits] at h
 simp at h; omega
theorem aIO [Mx] : NOK Tryz.prog GL 144 tR := by
 refine aZt fun w S vs x ha hp => ?_
 have hp : x.2.2.1 ≤ 1 := hp
 have hw := aKf _ _ _ ha
 obtain ⟨h1, h2, h3, _⟩ := hw
 have h1 := wf_u64 h1
 have h2 := wf_u64 h2
 rw [aT6 ha]
 refine ⟨[.int .u64 (((x.1 + x.2.1 + x.2.2.1) % 18446744073709551616 : Nat) : Int), .int .u64 (((x.1 + x.2.1 + x.2.2.1) / 18446744073709551616 : Nat) : Int)], ?_, aXx (by omega) (by omega)⟩
 rw [run_callFunc_extern Tryz.func144 xAa xAa xAa (e := add64Entry) xAa, run_add64 x.1 x.2.1 x.2.2.1 (by omega) (by omega) (by omega) (by omega)]
 simp only [Result.andThen]
 congr 5 <;> omega
abbrev aXy (s : List Nat) : Prop := s.length * 8 ≤ 140737488355328
def tX : Ty := .pair we .unit
def dJ : aI := ⟨tX, .own 169 qx, fun x => aXy x.1, fun x => id x.1⟩
attribute [go_sem] dJ tX
abbrev aAO (F : Md) : List (FuncId × aI) := []
theorem aAP [Mx] (F : Md) : bH Tryz.prog GL (aAO F) := .nil
theorem oS [Mx] : FOK Tryz.prog GL 135 dJ := by
 refine aTP (aU (aAP none)) Tryz.func135 rfl xAa xAc fun w0 S x hw hp => ?_
 have hF : gD (fr Tryz.prog (EM (aAO none)) S w0 Tryz.f135.ntmps) := ⟨aU (aAP none), mix⟩
 obtain ⟨(s : qd), u⟩ := x
 have hp : s.length * 8 ≤ 140737488355328 := hp
 simp only [bZ, tX, dJ]
 exact zab
end
end Nu
end Go.Proofs
namespace Go.Proofs
open Go.Vc
set_option maxRecDepth 20000
namespace Nu
noncomputable section
set_option maxHeartbeats 4000000
def aFV : ByteArray := ⟨⟨0 :: 1 :: 2 :: 2 :: 3 :: 3 :: 3 :: 3 :: 4 :: 4 :: 4 :: 4 :: 4 :: 4 :: 4 :: 4 :: 5 :: 5 :: 5 :: 5 :: 5 :: 5 :: 5 :: 5 :: 5 :: 5 :: 5 :: 5 :: 5 :: 5 :: 5 :: 5 :: 6 :: 6 :: 6 :: 6 :: 6 :: 6 :: 6 :: 6 :: 6 :: 6 :: 6 :: 6 :: 6 :: 6 :: 6 :: 6 :: 6 :: 6 :: 6 :: 6 :: 6 :: 6 :: 6 :: 6 :: 6 :: 6 :: 6 :: 6 :: 6 :: 6 :: 6 :: 6 :: 7 :: 7 :: 7 :: 7 :: 7 :: 7 :: 7 :: 7 :: 7 :: 7 :: 7 :: 7 :: 7 :: 7 :: 7 :: 7 :: 7 :: 7 :: 7 :: 7 :: 7 :: 7 :: 7 :: 7 :: 7 :: 7 :: 7 :: 7 :: 7 :: 7 :: 7 :: 7 :: 7 :: 7 :: 7 :: 7 :: 7 :: 7 :: 7 :: 7 :: 7 :: 7 :: 7 :: 7 :: 7 :: 7 :: 7 :: 7 :: 7 :: 7 :: 7 :: 7 :: 7 :: 7 :: 7 :: 7 :: 7 :: 7 :: 7 :: 7 :: 7 :: 7 :: 7 :: 7 :: 8 :: 8 :: 8 :: 8 :: 8 :: 8 :: 8 :: 8 :: 8 :: 8 :: 8 :: 8 :: 8 :: 8 :: 8 :: 8 :: 8 :: 8 :: 8 :: 8 :: 8 :: 8 :: 8 :: 8 :: 8 :: 8 :: 8 :: 8 :: 8 :: 8 :: 8 :: 8 :: 8 :: 8 :: 8 :: 8 :: 8 :: 8 :: 8 :: 8 :: 8 :: 8 :: 8 :: 8 :: 8 :: 8 :: 8 :: 8 :: 8 :: 8 :: 8 :: 8 :: 8 :: 8 :: 8 :: 8 :: 8 :: 8 :: 8 :: 8 :: 8 :: 8 :: 8 :: 8 :: 8 :: 8 :: 8 :: 8 :: 8 :: 8 :: 8 :: 8 :: 8 :: 8 :: 8 :: 8 :: 8 :: 8 :: 8 :: 8 :: 8 :: 8 :: 8 :: 8 :: 8 :: 8 :: 8 :: 8 :: 8 :: 8 :: 8 :: 8 :: 8 :: 8 :: 8 :: 8 :: 8 :: 8 :: 8 :: 8 :: 8 :: 8 :: 8 :: 8 :: 8 :: 8 :: 8 :: 8 :: 8 :: 8 :: 8 :: 8 :: 8 :: 8 :: 8 :: 8 :: 8 :: 8 :: 8 :: 8 :: 8 :: 8 :: 8 :: 8 :: 8 :: 8 :: 8 :: 8 :: []⟩⟩
@[go_sem]theorem aQu : (⟨⟨0 :: 1 :: 2 :: 2 :: 3 :: 3 :: 3 :: 3 :: 4 :: 4 :: 4 :: 4 :: 4 :: 4 :: 4 :: 4 :: 5 :: 5 :: 5 :: 5 :: 5 :: 5 :: 5 :: 5 :: 5 :: 5 :: 5 :: 5 :: 5 :: 5 :: 5 :: 5 :: 6 :: 6 :: 6 :: 6 :: 6 :: 6 :: 6 :: 6 :: 6 :: 6 :: 6 :: 6 :: 6 :: 6 :: 6 :: 6 :: 6 :: 6 :: 6 :: 6 :: 6 :: 6 :: 6 :: 6 :: 6 :: 6 :: 6 :: 6 :: 6 :: 6 :: 6 :: 6 :: 7 :: 7 :: 7 :: 7 :: 7 :: 7 :: 7 :: 7 :: 7 :: 7 :: 7 :: 7 :: 7 :: 7 :: 7 :: 7 :: 7 :: 7 :: 7 :: 7 :: 7 :: 7 :: 7 :: 7 :: 7 :: 7 :: 7 :: 7 :: 7 :: 7 :: 7 :: 7 :: 7 :: 7 :: 7 :: 7 :: 7 :: 7 :: 7 :: 7 :: 7 :: 7 :: 7 :: 7 :: 7 :: 7 :: 7 :: 7 :: 7 :: 7 :: 7 :: 7 :: 7 :: 7 :: 7 :: 7 :: 7 :: 7 :: 7 :: 7 :: 7 :: 7 :: 7 :: 7 :: 8 :: 8 :: 8 :: 8 :: 8 :: 8 :: 8 :: 8 :: 8 :: 8 :: 8 :: 8 :: 8 :: 8 :: 8 :: 8 :: 8 :: 8 :: 8 :: 8 :: 8 :: 8 :: 8 :: 8 :: 8 :: 8 :: 8 :: 8 :: 8 :: 8 :: 8 :: 8 :: 8 :: 8 :: 8 :: 8 :: 8 :: 8 :: 8 :: 8 :: 8 :: 8 :: 8 :: 8 :: 8 :: 8 :: 8 :: 8 :: 8 :: 8 :: 8 :: 8 :: 8 :: 8 :: 8 :: 8 :: 8 :: 8 :: 8 :: 8 :: 8 :: 8 :: 8 :: 8 :: 8 :: 8 :: 8 :: 8 :: 8 :: 8 :: 8 :: 8 :: 8 :: 8 :: 8 :: 8 :: 8 :: 8 :: 8 :: 8 :: 8 :: 8 :: 8 :: 8 :: 8 :: 8 :: 8 :: 8 :: 8 :: 8 :: 8 :: 8 :: 8 :: 8 :: 8 :: 8 :: 8 :: 8 :: 8 :: 8 :: 8 :: 8 :: 8 :: 8 :: 8 :: 8 :: 8 :: 8 :: 8 :: 8 :: 8 :: 8 :: 8 :: 8 :: 8 :: 8 :: 8 :: 8 :: 8 :: 8 :: 8 :: 8 :: 8 :: 8 :: 8 :: 8 :: 8 :: 8 :: []⟩⟩ : ByteArray) = aFV := rfl
def tG (F : Md) (x_6 : Nat) (n_7 : Int) : Option (Int) :=
 ck (0 ≤ (((x_6 % 256) : Nat) : Int) ∧ (((x_6 % 256) : Nat) : Int) < (((aS aFV).length : Nat) : Int)) (ck (I64 (n_7 + ((((aS aFV).getD (x_6 % 256) (0 : Nat)) : Nat) : Int))) (some (n_7 + ((((aS aFV).getD (x_6 % 256) (0 : Nat)) : Nat) : Int))))
def tH (F : Md) (x_4 : Nat) (n_5 : Int) : Option (Int) :=
 if (256 : Nat) ≤ x_4 then ck (I64 (n_5 + (8 : Int))) (tG F (x_4 / (256 : Nat)) (n_5 + (8 : Int))) else tG F x_4 n_5
def tI (F : Md) (x_2 : Nat) (n_3 : Int) : Option (Int) :=
 if (65536 : Nat) ≤ x_2 then ck (I64 (n_3 + (16 : Int))) (tH F (x_2 / (65536 : Nat)) (n_3 + (16 : Int))) else tH F x_2 n_3
def aCx (F : Md) (x_0 : Nat) : Option Int :=
 if (4294967296 : Nat) ≤ x_0 then tI F (x_0 / (4294967296 : Nat)) (32 : Int) else tI F x_0 (0 : Int)
def aIP : PlR := ⟨[(0, .A [0, 2]), (1, .A [0, 2, 4]), (2, .A [0]), (3, .A [0, 2]), (4, .A [0, 2, 8]), (5, .A [0, 2]), (6, .A [0, 2]), (7, .A [0, 2, 14]), (8, .A [0, 2]), (9, .A [0, 2]), (10, .A [2])], [(4, 7), (7, 10), (10, 13)]⟩
def aKm : Ty := .pair qx .unit
def aBi (F : Md) : aI := mSpec aKm (.one qe) (fun x => aCx F x.1)
abbrev aR3 (F : Md) : List (FuncId × aI) := []
theorem aR4 [Mx] (F : Md) : bH Tryz.prog GL (aR3 F) := .nil
attribute [go_sem] aKm aIP
theorem aQv [Mx] (F : Md) : FOK Tryz.prog GL 174 (aBi F) := by
 refine bT (aU (aR4 F)) mix Tryz.func174 rfl xAa xAc aIP fun w0 S x Θ hw h hF => ?_
 obtain ⟨(x_0 : Nat), u⟩ := x
 simp only [bZ, go_sem]
 replace h : sat (aCx F x_0) _ := h
 unfold aCx at h
 refine fD hF (D := Nat × Int) (fun d => sat (tI F d.1 d.2) Θ) [] (fun d => [(0, .val qx d.1), (2, .val qe d.2)]) (fun d => []) ?_ ?_
 ·simp only [go_sem]
  refine fL h (fun hc h => ?_) fun hc h => ?_
  ·exact aY ((x_0 / (4294967296 : Nat)), (32 : Int)) h rfl xAb
  ·exact aY (x_0, (0 : Int)) h rfl xAb
 ·rintro ⟨x_2, n_3⟩ h
  simp only [go_sem]
  replace h : sat (tI F x_2 n_3) _ := h
  unfold tI at h
  refine fD hF (D := Nat × Int) (fun d => sat (tH F d.1 d.2) Θ) [] (fun d => [(0, .val qx d.1), (2, .val qe d.2)]) (fun d => []) ?_ ?_
  ·simp only [go_sem]
   refine fL h (fun hc h => ?_) fun hc h => ?_
   ·refine bB h fun g0 h => ?_
    exact aY ((x_2 / (65536 : Nat)), (n_3 + (16 : Int))) h rfl xAb
   ·exact aY (x_2, n_3) h rfl xAb
  ·rintro ⟨x_4, n_5⟩ h
   simp only [go_sem]
   replace h : sat (tH F x_4 n_5) _ := h
   unfold tH at h
   refine fD hF (D := Nat × Int) (fun d => sat (tG F d.1 d.2) Θ) [] (fun d => [(0, .val qx d.1), (2, .val qe d.2)]) (fun d => []) ?_ ?_
   ·simp only [go_sem]
    refine fL h (fun hc h => ?_) fun hc h => ?_
    ·refine bB h fun g0 h => ?_
     exact aY ((x_4 / (256 : Nat)), (n_5 + (8 : Int))) h rfl xAb
    ·exact aY (x_4, n_5) h rfl xAb
   ·rintro ⟨x_6, n_7⟩ h
    simp only [go_sem]
    replace h : sat (tG F x_6 n_7) _ := h
    unfold tG at h
    refine bB h fun g0 h => bB h fun g1 h => ?_
    exact zaF
attribute [go_sem] aBi
def cF (F : Md) (x_0 : Nat) : Option Int :=
 (aCx F x_0).bind (fun v_5 => ck (I64 ((64 : Int) - v_5)) (some ((64 : Int) - v_5)))
def zS : PlR := ⟨[(0, .A [0]), (1, .A [2])], []⟩
def aAQ : Ty := .pair qx .unit
def fR (F : Md) : aI := mSpec aAQ (.one qe) (fun x => cF F x.1)
abbrev aAR (F : Md) : List (FuncId × aI) := [(174, (aBi F))]
theorem aGX [Mx] (F : Md) : bH Tryz.prog GL (aAR F) := .cons (aQv F) xAa (.nil)
attribute [go_sem] aAQ zS
theorem sP [Mx] (F : Md) : FOK Tryz.prog GL 137 (fR F) := by
 refine bT (aU (aGX F)) mix Tryz.func137 rfl xAa xAc zS fun w0 S x Θ hw h hF => ?_
 obtain ⟨(x_0 : Nat), u⟩ := x
 simp only [bZ, go_sem]
 replace h : sat (cF F x_0) _ := h
 unfold cF at h
 obtain ⟨v_5, hv, h⟩ := aP h
 exact za2
attribute [go_sem] fR
def oT (F : Md) (x_0 : Nat) : Option Int :=
 if x_0 = (0 : Nat) then some (64 : Int) else ck (0 ≤ ((((mulM F .u64 (x_0 &&& (aT0 F .u64 x_0)) (285870213051353865 : Nat)) / (288230376151711744 : Nat)) : Nat) : Int) ∧ ((((mulM F .u64 (x_0 &&& (aT0 F .u64 x_0)) (285870213051353865 : Nat)) / (288230376151711744 : Nat)) : Nat) : Int) < (64 : Int)) (some (((aXv.getD ((mulM F .u64 (x_0 &&& (aT0 F .u64 x_0)) (285870213051353865 : Nat)) / (288230376151711744 : Nat)) (0 : Nat)) : Nat) : Int))
def yS : PlR := ⟨[(0, .A [0]), (1, .A [0, 4]), (2, .A [2]), (3, .A [2])], []⟩
def zT : Ty := .pair qx .unit
def oD (F : Md) : aI := mSpec zT (.one qe) (fun x => oT F x.1)
abbrev aFW (F : Md) : List (FuncId × aI) := []
theorem aFX [Mx] (F : Md) : bH Tryz.prog GL (aFW F) := .nil
attribute [go_sem] zT yS
theorem aE2 [Mx] (F : Md) : FOK Tryz.prog GL 187 (oD F) := by
 refine bT (aU (aFX F)) mix Tryz.func187 rfl xAa xAc yS fun w0 S x Θ hw h hF => ?_
 obtain ⟨(x_0 : Nat), u⟩ := x
 simp only [bZ, go_sem]
 replace h : sat (oT F x_0) _ := h
 unfold oT at h
 refine fL h (fun hc h => ?_) fun hc h => ?_
 ·exact aK hF [.tmp 2] rfl rfl rfl (aE h) xAf
 ·obtain ⟨g0, h⟩ := aQ h
  repeat (refine ⟨by first | with_reducible assumption | omega | (intros; first | with_reducible assumption | omega) | (simp only [go_sem, dR F, dS F, dT F] at *; first | with_reducible assumption | omega) | (intro _; exact ⟨rfl, by decide⟩) | (intro _; refine (?_ : _ = aD _); rfl) | (refine (?_ : _ = aD _); rfl) | exact ⟨rfl, rfl⟩ | decide, ?_⟩)
  exact aK hF [.tmp 2] rfl rfl rfl (aE h) (by (simp only [aT, go_sem, dR F, dS F, dT F]) <;> first | rfl | (simp; done))
attribute [go_sem] oD
def aCy (F : Md) (x_0 : Nat) (y_1 : Nat) : Option (Nat × (Nat × Unit)) :=
 some ((((((mulM F .u64 (x_0 / (4294967296 : Nat)) (y_1 / (4294967296 : Nat))) + ((((mulM F .u64 (x_0 / (4294967296 : Nat)) (y_1 &&& (4294967295 : Nat))) + ((mulM F .u64 (x_0 &&& (4294967295 : Nat)) (y_1 &&& (4294967295 : Nat))) / (4294967296 : Nat))) % 18446744073709551616) / (4294967296 : Nat))) % 18446744073709551616) + (((((((mulM F .u64 (x_0 / (4294967296 : Nat)) (y_1 &&& (4294967295 : Nat))) + ((mulM F .u64 (x_0 &&& (4294967295 : Nat)) (y_1 &&& (4294967295 : Nat))) / (4294967296 : Nat))) % 18446744073709551616) &&& (4294967295 : Nat)) + (mulM F .u64 (x_0 &&& (4294967295 : Nat)) (y_1 / (4294967296 : Nat)))) % 18446744073709551616) / (4294967296 : Nat))) % 18446744073709551616), (mulM F .u64 x_0 y_1), ())
def aIQ : PlR := ⟨[(0, .A [0, 1]), (1, .A [0, 1, 6]), (2, .A [0, 1, 6, 7]), (3, .A [0, 1, 6, 7, 8]), (4, .A [0, 1, 6, 7, 8, 9]), (5, .A [0, 1, 6, 7, 8, 9, 10]), (6, .A [0, 1, 6, 7, 9, 11]), (7, .A [0, 1, 6, 7, 9, 11, 12]), (8, .A [0, 1, 6, 7, 9, 12, 13]), (9, .A [0, 1, 7, 9, 12, 13]), (10, .A [0, 1, 4]), (11, .A [4, 5])], []⟩
def aKn : Ty := .pair qx (.pair qx .unit)
def aBj (F : Md) : aI := mSpec aKn (.tup wo) (fun x => aCy F x.1 x.2.1)
abbrev aR5 (F : Md) : List (FuncId × aI) := []
theorem aR6 [Mx] (F : Md) : bH Tryz.prog GL (aR5 F) := .nil
attribute [go_sem] aKn aIQ
theorem aQw [Mx] (F : Md) : FOK Tryz.prog GL 143 (aBj F) := by
 refine bT (aU (aR6 F)) mix Tryz.func143 rfl xAa xAc aIQ fun w0 S x Θ hw h hF => ?_
 obtain ⟨(x_0 : Nat), (y_1 : Nat), u⟩ := x
 simp only [bZ, go_sem]
 replace h : sat (aCy F x_0 y_1) _ := h
 unfold aCy at h
 exact aK hF [.tmp 4, .tmp 5] rfl rfl rfl (aE h) xAf
attribute [go_sem] aBj
def xV (F : Md) (x15_12 : Nat) (hi_0 : Nat) (v_7 : Int) (lo_1 : Nat) (y_2 : Nat) (x18_17 : Nat) : Option (Nat × (Nat × Unit)) :=
 some ((((mulM F .u64 x15_12 (4294967296 : Nat)) + x18_17) % 18446744073709551616), ((aAN F .u64 (((mulM F .u64 (aAN F .u64 (((mulM F .u64 (((hi_0 * (2 ^ (v_7 % (18446744073709551616 : Int)).toNat)) % 18446744073709551616) ||| (lo_1 / (2 ^ (aAN F .u64 (64 : Nat) (v_7 % (18446744073709551616 : Int)).toNat)))) (4294967296 : Nat)) + (((lo_1 * (2 ^ (v_7 % (18446744073709551616 : Int)).toNat)) % 18446744073709551616) / (4294967296 : Nat))) % 18446744073709551616) (mulM F .u64 x15_12 ((y_2 * (2 ^ (v_7 % (18446744073709551616 : Int)).toNat)) % 18446744073709551616))) (4294967296 : Nat)) + (((lo_1 * (2 ^ (v_7 % (18446744073709551616 : Int)).toNat)) % 18446744073709551616) &&& (4294967295 : Nat))) % 18446744073709551616) (mulM F .u64 x18_17 ((y_2 * (2 ^ (v_7 % (18446744073709551616 : Int)).toNat)) % 18446744073709551616))) / (2 ^ (v_7 % (18446744073709551616 : Int)).toNat)), ())
def aA9 (F : Md) (lo_1 : Nat) (v_7 : Int) (y_2 : Nat) (rhat_18 : Nat) (x18_19 : Nat) : Option ((Nat × Nat) ⊕ (Nat)) :=
 if ((4294967296 : Nat) ≤ x18_19) ∨ ((((mulM F .u64 (4294967296 : Nat) rhat_18) + (((lo_1 * (2 ^ (v_7 % (18446744073709551616 : Int)).toNat)) % 18446744073709551616) &&& (4294967295 : Nat))) % 18446744073709551616) < (mulM F .u64 x18_19 (((y_2 * (2 ^ (v_7 % (18446744073709551616 : Int)).toNat)) % 18446744073709551616) &&& (4294967295 : Nat)))) then if (4294967296 : Nat) ≤ ((rhat_18 + (((y_2 * (2 ^ (v_7 % (18446744073709551616 : Int)).toNat)) % 18446744073709551616) / (4294967296 : Nat))) % 18446744073709551616) then some (.inr (aAN F .u64 x18_19 (1 : Nat))) else some (.inl (((rhat_18 + (((y_2 * (2 ^ (v_7 % (18446744073709551616 : Int)).toNat)) % 18446744073709551616) / (4294967296 : Nat))) % 18446744073709551616), (aAN F .u64 x18_19 (1 : Nat)))) else some (.inr x18_19)
def xW (F : Md) (y_2 : Nat) (v_7 : Int) (lo_1 : Nat) (hi_0 : Nat) (x15_12 : Nat) : Option (Nat × (Nat × Unit)) :=
 ck ((((y_2 * (2 ^ (v_7 % (18446744073709551616 : Int)).toNat)) % 18446744073709551616) / (4294967296 : Nat)) ≠ 0) ((eJ F (fun d : Nat × Nat => aA9 F lo_1 v_7 y_2 d.1 d.2) ((aAN F .u64 (aAN F .u64 (((mulM F .u64 (((hi_0 * (2 ^ (v_7 % (18446744073709551616 : Int)).toNat)) % 18446744073709551616) ||| (lo_1 / (2 ^ (aAN F .u64 (64 : Nat) (v_7 % (18446744073709551616 : Int)).toNat)))) (4294967296 : Nat)) + (((lo_1 * (2 ^ (v_7 % (18446744073709551616 : Int)).toNat)) % 18446744073709551616) / (4294967296 : Nat))) % 18446744073709551616) (mulM F .u64 x15_12 ((y_2 * (2 ^ (v_7 % (18446744073709551616 : Int)).toNat)) % 18446744073709551616))) (mulM F .u64 ((aAN F .u64 (((mulM F .u64 (((hi_0 * (2 ^ (v_7 % (18446744073709551616 : Int)).toNat)) % 18446744073709551616) ||| (lo_1 / (2 ^ (aAN F .u64 (64 : Nat) (v_7 % (18446744073709551616 : Int)).toNat)))) (4294967296 : Nat)) + (((lo_1 * (2 ^ (v_7 % (18446744073709551616 : Int)).toNat)) % 18446744073709551616) / (4294967296 : Nat))) % 18446744073709551616) (mulM F .u64 x15_12 ((y_2 * (2 ^ (v_7 % (18446744073709551616 : Int)).toNat)) % 18446744073709551616))) / (((y_2 * (2 ^ (v_7 % (18446744073709551616 : Int)).toNat)) % 18446744073709551616) / (4294967296 : Nat))) (((y_2 * (2 ^ (v_7 % (18446744073709551616 : Int)).toNat)) % 18446744073709551616) / (4294967296 : Nat)))), ((aAN F .u64 (((mulM F .u64 (((hi_0 * (2 ^ (v_7 % (18446744073709551616 : Int)).toNat)) % 18446744073709551616) ||| (lo_1 / (2 ^ (aAN F .u64 (64 : Nat) (v_7 % (18446744073709551616 : Int)).toNat)))) (4294967296 : Nat)) + (((lo_1 * (2 ^ (v_7 % (18446744073709551616 : Int)).toNat)) % 18446744073709551616) / (4294967296 : Nat))) % 18446744073709551616) (mulM F .u64 x15_12 ((y_2 * (2 ^ (v_7 % (18446744073709551616 : Int)).toNat)) % 18446744073709551616))) / (((y_2 * (2 ^ (v_7 % (18446744073709551616 : Int)).toNat)) % 18446744073709551616) / (4294967296 : Nat))))).bind (fun e => xV F x15_12 hi_0 v_7 lo_1 y_2 e))
def aBa (F : Md) (lo_1 : Nat) (v_7 : Int) (y_2 : Nat) (x15_23 : Nat) (rhat_24 : Nat) : Option ((Nat × Nat) ⊕ (Nat)) :=
 if ((4294967296 : Nat) ≤ x15_23) ∨ ((((mulM F .u64 (4294967296 : Nat) rhat_24) + (((lo_1 * (2 ^ (v_7 % (18446744073709551616 : Int)).toNat)) % 18446744073709551616) / (4294967296 : Nat))) % 18446744073709551616) < (mulM F .u64 x15_23 (((y_2 * (2 ^ (v_7 % (18446744073709551616 : Int)).toNat)) % 18446744073709551616) &&& (4294967295 : Nat)))) then if (4294967296 : Nat) ≤ ((rhat_24 + (((y_2 * (2 ^ (v_7 % (18446744073709551616 : Int)).toNat)) % 18446744073709551616) / (4294967296 : Nat))) % 18446744073709551616) then some (.inr (aAN F .u64 x15_23 (1 : Nat))) else some (.inl ((aAN F .u64 x15_23 (1 : Nat)), ((rhat_24 + (((y_2 * (2 ^ (v_7 % (18446744073709551616 : Int)).toNat)) % 18446744073709551616) / (4294967296 : Nat))) % 18446744073709551616))) else some (.inr x15_23)
def aCz (F : Md) (hi_0 : Nat) (lo_1 : Nat) (y_2 : Nat) : Option (Nat × (Nat × Unit)) :=
 if y_2 = (0 : Nat) then none else if y_2 ≤ hi_0 then none else if hi_0 = (0 : Nat) then ck (y_2 ≠ 0) (ck (y_2 ≠ 0) (some ((lo_1 / y_2), (lo_1 % y_2), ()))) else (cF F y_2).bind (fun v_7 => ck ((((y_2 * (2 ^ (v_7 % (18446744073709551616 : Int)).toNat)) % 18446744073709551616) / (4294967296 : Nat)) ≠ 0) ((eJ F (fun d : Nat × Nat => aBa F lo_1 v_7 y_2 d.1 d.2) (((((hi_0 * (2 ^ (v_7 % (18446744073709551616 : Int)).toNat)) % 18446744073709551616) ||| (lo_1 / (2 ^ (aAN F .u64 (64 : Nat) (v_7 % (18446744073709551616 : Int)).toNat)))) / (((y_2 * (2 ^ (v_7 % (18446744073709551616 : Int)).toNat)) % 18446744073709551616) / (4294967296 : Nat))), (aAN F .u64 (((hi_0 * (2 ^ (v_7 % (18446744073709551616 : Int)).toNat)) % 18446744073709551616) ||| (lo_1 / (2 ^ (aAN F .u64 (64 : Nat) (v_7 % (18446744073709551616 : Int)).toNat)))) (mulM F .u64 ((((hi_0 * (2 ^ (v_7 % (18446744073709551616 : Int)).toNat)) % 18446744073709551616) ||| (lo_1 / (2 ^ (aAN F .u64 (64 : Nat) (v_7 % (18446744073709551616 : Int)).toNat)))) / (((y_2 * (2 ^ (v_7 % (18446744073709551616 : Int)).toNat)) % 18446744073709551616) / (4294967296 : Nat))) (((y_2 * (2 ^ (v_7 % (18446744073709551616 : Int)).toNat)) % 18446744073709551616) / (4294967296 : Nat)))))).bind (fun e => xW F y_2 v_7 lo_1 hi_0 e)))
def aIR : PlR := ⟨[(0, .A [0, 1, 2]), (1, .A [0, 1, 2, 20]), (2, .stop), (3, .A [0, 1, 2, 24]), (4, .stop), (5, .A [0, 1, 2, 27]), (6, .A [6, 7]), (7, .A [0, 1, 2, 8]), (8, .A [0, 1, 2, 8]), (9, .A [0, 1, 2, 8, 9]), (10, .A [0, 1, 2, 8, 9, 10]), (11, .A [1, 2, 8, 9, 10, 11]), (12, .A [2, 8, 9, 10, 11, 12]), (13, .A [2, 8, 9, 10, 11, 12, 13]), (14, .A [2, 8, 9, 10, 11, 13, 14]), (15, .A [2, 8, 9, 10, 11, 13, 14, 15]), (16, .A [2, 8, 9, 10, 11, 13, 14, 15, 16]), (17, .A [2, 8, 9, 10, 11, 13, 14, 15, 16, 78]), (18, .A [2, 8, 9, 10, 11, 13, 14, 15, 16]), (19, .A [2, 8, 9, 10, 11, 13, 14, 15, 16]), (20, .A [2, 8, 9, 10, 11, 13, 14, 15, 16, 85]), (21, .A [2, 8, 9, 10, 14, 15, 17]), (22, .A [2, 8, 9, 10, 14, 15, 17, 18]), (23, .A [2, 8, 9, 10, 14, 15, 16, 17, 18]), (24, .A [2, 8, 9, 10, 14, 15, 16, 17, 18, 113]), (25, .A [2, 8, 9, 10, 14, 15, 16, 17, 18]), (26, .A [2, 8, 9, 10, 14, 15, 16, 17, 18]), (27, .A [2, 8, 9, 10, 14, 15, 16, 17, 18, 120]), (28, .A [6, 7])], [(20, 24), (27, 31)]⟩
def aKo : Ty := .pair qx wo
def aBk (F : Md) : aI := mSpec aKo (.tup wo) (fun x => aCz F x.1 x.2.1 x.2.2.1)
abbrev aKp (F : Md) : List (FuncId × aI) := [(137, (fR F))]
theorem aR7 [Mx] (F : Md) : bH Tryz.prog GL (aKp F) := .cons (sP F) xAa (.nil)
attribute [go_sem] aKo aIR
theorem aQx [Mx] (F : Md) : FOK Tryz.prog GL 173 (aBk F) := by
 refine bT (aU (aR7 F)) mix Tryz.func173 rfl xAa xAc aIR fun w0 S x Θ hw h hF => ?_
 obtain ⟨(hi_0 : Nat), (lo_1 : Nat), (y_2 : Nat), u⟩ := x
 simp only [bZ, go_sem]
 replace h : sat (aCz F hi_0 lo_1 y_2) _ := h
 unfold aCz at h
 refine fL h (fun hc h => ?_) fun hc h => ?_
 ·exact aBH h
 ·refine fL h (fun hc h => ?_) fun hc h => ?_
  ·exact aBH h
  ·refine fL h (fun hc h => ?_) fun hc h => ?_
   ·refine bB h fun g0 h => bB h fun g1 h => ?_
    exact aK hF [.tmp 6, .tmp 7] rfl rfl rfl (aE h) xAf
   ·obtain ⟨v_7, hv, h⟩ := aP h
    try simp only [hv, go_sem, dR F, dS F, dT F]
    refine bB h fun g0 h => ?_
    refine fD hF (D := Nat) (fun d => sat (xW F y_2 v_7 lo_1 hi_0 d) Θ) [2, 8, 9, 10, 11, 13, 14] (fun d => [(15, .val qx d)]) (fun d => []) ?_ ?_
    ·simp only [go_sem, dR F, dS F, dT F]
     refine cL hF (D := Nat × Nat) [2, 8, 9, 10, 11, 13, 14] (fun d => [(15, .val qx d.1), (16, .val qx d.2)]) (fun d => []) h rfl xAe ?_
     rintro ⟨x15_23, rhat_24⟩ A17 T17 hA17 hE17 h
     simp only [go_sem, dR F, dS F, dT F]
     replace h : sat (aBa F lo_1 v_7 y_2 x15_23 rhat_24) _ := h
     unfold aBa at h
     refine ⟨fun hc => ?_, fun hc => ?_⟩
     ·replace h := jV hc h
      refine fL h (fun hc h => ?_) fun hc h => ?_
      ·replace h := yaF (hE17 _ (aE h))
       exact aY (aAN F .u64 x15_23 (1 : Nat)) h rfl xAe
      ·replace h := hA17 _ (aE h)
       exact aY _ h rfl xAe
     ·replace h := jW hc h
      replace h := yaF (hE17 _ (aE h))
      exact aY (x15_23) h rfl xAe
    ·rintro x15_12 h
     simp only [go_sem, dR F, dS F, dT F]
     replace h : sat (xW F y_2 v_7 lo_1 hi_0 x15_12) _ := h
     unfold xW at h
     refine bB h fun g0 h => ?_
     refine fD hF (D := Nat) (fun d => sat (xV F x15_12 hi_0 v_7 lo_1 y_2 d) Θ) [2, 8, 14, 15, 17] (fun d => [(18, .val qx d)]) (fun d => []) ?_ ?_
     ·simp only [go_sem, dR F, dS F, dT F]
      refine cL hF (D := Nat × Nat) [2, 8, 9, 10, 14, 15, 17] (fun d => [(16, .val qx d.1), (18, .val qx d.2)]) (fun d => []) h rfl xAe ?_
      rintro ⟨rhat_18, x18_19⟩ A24 T24 hA24 hE24 h
      simp only [go_sem, dR F, dS F, dT F]
      replace h : sat (aA9 F lo_1 v_7 y_2 rhat_18 x18_19) _ := h
      unfold aA9 at h
      refine ⟨fun hc => ?_, fun hc => ?_⟩
      ·replace h := jV hc h
       refine fL h (fun hc h => ?_) fun hc h => ?_
       ·replace h := yaF (hE24 _ (aE h))
        exact aY (aAN F .u64 x18_19 (1 : Nat)) h rfl xAe
       ·replace h := hA24 _ (aE h)
        exact aY _ h rfl xAe
      ·replace h := jW hc h
       replace h := yaF (hE24 _ (aE h))
       exact aY (x18_19) h rfl xAe
     ·rintro x18_17 h
      simp only [go_sem, dR F, dS F, dT F]
      replace h : sat (xV F x15_12 hi_0 v_7 lo_1 y_2 x18_17) _ := h
      unfold xV at h
      exact aK hF [.tmp 6, .tmp 7] rfl rfl rfl (aE h) xAf
attribute [go_sem] aBk
def aIw (F : Md) (a_0 : qd) : Option Bool :=
 ck (¬ ((a_0.length : Int) = (0 : Int)) → ((a_0.length : Int) ≤ (64 : Int)) → (I64 ((a_0.length : Int) - (1 : Int)))) (ck (¬ ((a_0.length : Int) = (0 : Int)) → ((a_0.length : Int) ≤ (64 : Int)) → (0 ≤ ((a_0.length : Int) - (1 : Int)) ∧ ((a_0.length : Int) - (1 : Int)) < (a_0.length : Int))) (some ((decide ((a_0.length : Int) = (0 : Int))) || ((decide ((a_0.length : Int) ≤ (64 : Int))) && (!(decide ((a_0.getD ((a_0.length : Int) - (1 : Int)).toNat (0 : Nat)) = (0 : Nat))))))))
def aPp : PlR := ⟨[(0, .A [0]), (1, .A [2])], []⟩
def aRt : Ty := .pair we .unit
def aFY (F : Md) : aI := mSpec aRt (.one .bool) (fun x => aIw F x.1)
abbrev aVW (F : Md) : List (FuncId × aI) := []
theorem aVX [Mx] (F : Md) : bH Tryz.prog GL (aVW F) := .nil
attribute [go_sem] aRt aPp
theorem aT7 [Mx] (F : Md) : FOK Tryz.prog GL 150 (aFY F) := by
 refine bT (aU (aVX F)) mix Tryz.func150 rfl xAa xAc aPp fun w0 S x Θ hw h hF => ?_
 obtain ⟨(a_0 : qd), u⟩ := x
 simp only [bZ, go_sem]
 replace h : sat (aIw F a_0) _ := h
 unfold aIw at h
 obtain ⟨g0, h⟩ := aQ h
 obtain ⟨g1, h⟩ := aQ h
 try simp only [I64, I32] at g0
 repeat (refine ⟨by first | with_reducible assumption | omega | (intros; first | with_reducible assumption | omega) | (simp only [go_sem] at *; first | with_reducible assumption | omega) | (intro _; exact ⟨rfl, by decide⟩) | (intro _; refine (?_ : _ = aD _); rfl) | (refine (?_ : _ = aD _); rfl) | exact ⟨rfl, rfl⟩ | (intro q0 q1; (try have e0 := g0 zAF (by first | exact q1 | omega | (simpa using q1))); (try have e1 := g1 zAF (by first | exact q1 | omega | (simpa using q1))); first | assumption | omega) | (rintro ⟨q0, q1⟩; (try have e0 := g0 zAF (by first | exact q1 | omega | (simpa using q1))); (try have e1 := g1 zAF (by first | exact q1 | omega | (simpa using q1))); first | assumption | omega) | decide, ?_⟩)
 exact zaF
attribute [go_sem] aFY
def aEy (F : Md) (a_4 : qd) : Option (qd ⊕ qd) :=
 ck (((0 : Int) < (a_4.length : Int)) → (I64 ((a_4.length : Int) - (1 : Int)))) (ck (((0 : Int) < (a_4.length : Int)) → (0 ≤ ((a_4.length : Int) - (1 : Int)) ∧ ((a_4.length : Int) - (1 : Int)) < (a_4.length : Int))) (if ((0 : Int) < (a_4.length : Int)) ∧ ((a_4.getD ((a_4.length : Int) - (1 : Int)).toNat (0 : Nat)) = (0 : Nat)) then ck (I64 ((a_4.length : Int) - (1 : Int))) (ck (0 ≤ ((a_4.length : Int) - (1 : Int)) ∧ ((a_4.length : Int) - (1 : Int)) ≤ (a_4.length : Int)) (some (.inl (List.take ((a_4.length : Int) - (1 : Int)).toNat a_4)))) else some (.inr a_4)))
def kV (F : Md) (a_0 : qd) : Option qd :=
 (eJ F (fun d : qd => aEy F d) a_0).bind (fun e => some e)
def aM1 : PlR := ⟨[(0, .A [0]), (1, .A [0, 14]), (2, .A [0]), (3, .A [2])], []⟩
def aPq : Ty := .pair we .unit
def hO (F : Md) : aI := mSpec aPq (.one we) (fun x => kV F x.1)
abbrev aT8 (F : Md) : List (FuncId × aI) := []
theorem aT9 [Mx] (F : Md) : bH Tryz.prog GL (aT8 F) := .nil
attribute [go_sem] aPq aM1
theorem uT [Mx] (F : Md) : FOK Tryz.prog GL 141 (hO F) := by
 refine bT (aU (aT9 F)) mix Tryz.func141 rfl xAa xAc aM1 fun w0 S x Θ hw h hF => ?_
 obtain ⟨(a_0 : qd), u⟩ := x
 simp only [bZ, go_sem]
 replace h : sat (kV F a_0) _ := h
 unfold kV at h
 refine cL hF (D := qd) [] (fun d => [(0, .val we d)]) (fun d => []) h rfl xAb ?_
 rintro a_4 A1 T1 hA1 hE1 h
 simp only [go_sem]
 replace h : sat (aEy F a_4) _ := h
 unfold aEy at h
 refine bB h fun g0 h => bB h fun g1 h => ?_
 refine ⟨fun hc => ?_, fun hc => ?_⟩
 ·replace h := jV hc h
  refine bB h fun g0 h => bB h fun g1 h => ?_
  replace h := hA1 _ (aE h)
  exact zaK
 ·replace h := jW hc h
  replace h := yaF (hE1 _ (aE h))
  exact zaF
attribute [go_sem] hO
def aDj (F : Md) (less_0 : Bool) : Option Int :=
 if less_0 = true then some (-1 : Int) else some (1 : Int)
def aM2 : PlR := ⟨[(0, .A [0]), (1, .A [3]), (2, .A [2]), (3, .A [2])], []⟩
def aPr : Ty := .pair .bool .unit
def aDW (F : Md) : aI := mSpec aPr (.one qe) (fun x => aDj F x.1)
abbrev aUa (F : Md) : List (FuncId × aI) := []
theorem aUb [Mx] (F : Md) : bH Tryz.prog GL (aUa F) := .nil
attribute [go_sem] aPr aM2
theorem aTc [Mx] (F : Md) : FOK Tryz.prog GL 156 (aDW F) := by
 refine bT (aU (aUb F)) mix Tryz.func156 rfl xAa xAc aM2 fun w0 S x Θ hw h hF => ?_
 obtain ⟨(less_0 : Bool), u⟩ := x
 simp only [bZ, go_sem]
 replace h : sat (aDj F less_0) _ := h
 unfold aDj at h
 exact za6
attribute [go_sem] aDW
def aDk (F : Md) (a_0 : qd) (b_1 : qd) (i_20 : Int) : Option ((Int) ⊕ ((Unit) ⊕ Int)) :=
 if (0 : Int) ≤ i_20 then ck (0 ≤ i_20 ∧ i_20 < (a_0.length : Int)) (ck (0 ≤ i_20 ∧ i_20 < (b_1.length : Int)) (if ¬ ((a_0.getD (i_20.toNat) (0 : Nat)) = (b_1.getD (i_20.toNat) (0 : Nat))) then ck (0 ≤ i_20 ∧ i_20 < (a_0.length : Int)) (ck (0 ≤ i_20 ∧ i_20 < (b_1.length : Int)) ((aDj F (decide ((a_0.getD (i_20.toNat) (0 : Nat)) < (b_1.getD (i_20.toNat) (0 : Nat))))).bind (fun v_33 => some (.inr (.inr v_33))))) else ck (I64 (i_20 - (1 : Int))) (some (.inl (i_20 - (1 : Int)))))) else some (.inr (.inl ()))
def uU (F : Md) (a_0 : qd) (b_1 : qd) : Option Int :=
 if ¬ ((a_0.length : Int) = (b_1.length : Int)) then (aDj F (decide ((a_0.length : Int) < (b_1.length : Int)))).bind (fun v_8 => some v_8) else ck (I64 ((a_0.length : Int) - (1 : Int))) ((eJ F (fun d : Int => aDk F a_0 b_1 d) ((a_0.length : Int) - (1 : Int))).bind (fun e => match e with | (.inl e) => some (0 : Int) | (.inr e) => some e))
def aKq : PlR := ⟨[(0, .A [0, 1]), (1, .A [0, 1, 10]), (2, .A [4]), (3, .A [0, 1, 5]), (4, .A [0, 1, 5, 21]), (5, .A [0, 1, 5]), (6, .A [0, 1, 5, 32]), (7, .A [4]), (8, .A [4])], []⟩
def aM3 : Ty := .pair we (.pair we .unit)
def qZ (F : Md) : aI := mSpec aM3 (.one qe) (fun x => uU F x.1 x.2.1)
abbrev aM4 (F : Md) : List (FuncId × aI) := [(156, (aDW F))]
theorem aTd [Mx] (F : Md) : bH Tryz.prog GL (aM4 F) := .cons (aTc F) xAa (.nil)
attribute [go_sem] aM3 aKq
theorem aFZ [Mx] (F : Md) : FOK Tryz.prog GL 114 (qZ F) := by
 refine bT (aU (aTd F)) mix Tryz.func114 rfl xAa xAc aKq fun w0 S x Θ hw h hF => ?_
 obtain ⟨(a_0 : qd), (b_1 : qd), u⟩ := x
 simp only [bZ, go_sem]
 replace h : sat (uU F a_0 b_1) _ := h
 unfold uU at h
 refine fL h (fun hc h => ?_) fun hc h => ?_
 ·obtain ⟨v_8, hv, h⟩ := aP h
  exact zaR
 ·refine bB h fun g0 h => ?_
  refine cL hF (D := Int) [0, 1] (fun d => [(5, .val qe d)]) (fun d => []) h rfl xAb ?_
  rintro i_20 A4 T4 hA4 hE4 h
  simp only [go_sem]
  replace h : sat (aDk F a_0 b_1 i_20) _ := h
  unfold aDk at h
  refine aT2 h (fun hc h => ?_) fun hc h => ?_
  ·refine bB h fun g0 h => bB h fun g1 h => ?_
   refine fL h (fun hc h => ?_) fun hc h => ?_
   ·refine bB h fun g0 h => bB h fun g1 h => ?_
    obtain ⟨v_33, hv, h⟩ := aP h
    try simp only [hv, go_sem]
    replace h := yaF (hE4 _ (aE h))
    exact zaD
   ·refine bB h fun g0 h => ?_
    replace h := hA4 _ (aE h)
    exact zaK
  ·replace h := yaF (hE4 _ (aE h))
   exact zaD
attribute [go_sem] qZ
def aDl (F : Md) (a_0 : qd) : Option Int :=
 if (a_0.length : Int) = (0 : Int) then some (0 : Int) else ck (I64 ((64 : Int) * (a_0.length : Int))) (ck (I64 ((a_0.length : Int) - (1 : Int))) (ck (0 ≤ ((a_0.length : Int) - (1 : Int)) ∧ ((a_0.length : Int) - (1 : Int)) < (a_0.length : Int)) ((cF F (a_0.getD ((a_0.length : Int) - (1 : Int)).toNat (0 : Nat))).bind (fun v_5 => ck (I64 (((64 : Int) * (a_0.length : Int)) - v_5)) (some (((64 : Int) * (a_0.length : Int)) - v_5))))))
def aM5 : PlR := ⟨[(0, .A [0]), (1, .A [0, 5]), (2, .A [2]), (3, .A [2])], []⟩
def aPs : Ty := .pair we .unit
def aDX (F : Md) : aI := mSpec aPs (.one qe) (fun x => aDl F x.1)
abbrev aPt (F : Md) : List (FuncId × aI) := [(137, (fR F))]
theorem aUc [Mx] (F : Md) : bH Tryz.prog GL (aPt F) := .cons (sP F) xAa (.nil)
attribute [go_sem] aPs aM5
theorem aTe [Mx] (F : Md) : FOK Tryz.prog GL 151 (aDX F) := by
 refine bT (aU (aUc F)) mix Tryz.func151 rfl xAa xAc aM5 fun w0 S x Θ hw h hF => ?_
 obtain ⟨(a_0 : qd), u⟩ := x
 simp only [bZ, go_sem]
 replace h : sat (aDl F a_0) _ := h
 unfold aDl at h
 refine fL h (fun hc h => ?_) fun hc h => ?_
 ·exact aK hF [.tmp 2] rfl rfl rfl (aE h) xAd
 ·refine bB h fun g0 h => bB h fun g1 h => bB h fun g2 h => ?_
  obtain ⟨v_5, hv, h⟩ := aP h
  exact za2
attribute [go_sem] aDX
def aDm (F : Md) (a_0 : qd) (x7_10 : Int) : Option ((Int) ⊕ ((Unit) ⊕ Int)) :=
 if x7_10 < (a_0.length : Int) then ck (0 ≤ x7_10 ∧ x7_10 < (a_0.length : Int)) (if ¬ ((a_0.getD (x7_10.toNat) (0 : Nat)) = (0 : Nat)) then ck (I64 ((64 : Int) * x7_10)) ((oT F (a_0.getD (x7_10.toNat) (0 : Nat))).bind (fun v_19 => ck (I64 (((64 : Int) * x7_10) + v_19)) (some (.inr (.inr (((64 : Int) * x7_10) + v_19)))))) else ck (I64 (x7_10 + (1 : Int))) (some (.inl (x7_10 + (1 : Int))))) else some (.inr (.inl ()))
def fS (F : Md) (a_0 : qd) : Option Int :=
 (eJ F (fun d : Int => aDm F a_0 d) (0 : Int)).bind (fun e => match e with | (.inl e) => some (-1 : Int) | (.inr e) => some e)
def aKr : PlR := ⟨[(0, .A [0]), (1, .A [5, 6, 7]), (2, .A [5, 6, 7, 8]), (3, .A [3, 4, 5, 6, 7]), (4, .A [3, 4, 5, 6, 7, 13]), (5, .A [2]), (6, .A [5, 6, 7]), (7, .A [2])], []⟩
def aM6 : Ty := .pair we .unit
def aCA (F : Md) : aI := mSpec aM6 (.one qe) (fun x => fS F x.1)
abbrev aM7 (F : Md) : List (FuncId × aI) := [(187, (oD F))]
theorem aTf [Mx] (F : Md) : bH Tryz.prog GL (aM7 F) := .cons (aE2 F) xAa (.nil)
attribute [go_sem] aM6 aKr
theorem aR8 [Mx] (F : Md) : FOK Tryz.prog GL 177 (aCA F) := by
 refine bT (aU (aTf F)) mix Tryz.func177 rfl xAa xAc aKr fun w0 S x Θ hw h hF => ?_
 obtain ⟨(a_0 : qd), u⟩ := x
 simp only [bZ, go_sem]
 replace h : sat (fS F a_0) _ := h
 unfold fS at h
 refine cL hF (D := Int) [5, 6] (fun d => [(7, .val qe d)]) (fun d => []) h rfl xAb ?_
 rintro x7_10 A2 T2 hA2 hE2 h
 simp only [go_sem]
 replace h : sat (aDm F a_0 x7_10) _ := h
 unfold aDm at h
 refine fY h (fun hc h => ?_) fun hc h => ?_
 ·refine bB h fun g0 h => ?_
  refine fL h (fun hc h => ?_) fun hc h => ?_
  ·refine bB h fun g0 h => ?_
   obtain ⟨v_19, hv, h⟩ := aP h
   try simp only [hv, go_sem]
   refine bB h fun g0 h => ?_
   replace h := yaF (hE2 _ (aE h))
   exact zaF
  ·refine bB h fun g0 h => ?_
   replace h := hA2 _ (aE h)
   exact zaK
 ·replace h := yaF (hE2 _ (aE h))
  exact zaF
attribute [go_sem] aCA
def aDn (F : Md) (a_0 : qd) : Option qd :=
 (kV F a_0).bind (fun v_3 => ck (aXy v_3) (some (id v_3)))
def aM8 : PlR := ⟨[(0, .A [0]), (1, .B [2])], []⟩
def aPv : Ty := .pair we .unit
def yT (F : Md) : aI := mSpec aPv (.one we) (fun x => aDn F x.1)
abbrev aJw (F : Md) : List (FuncId × aI) := [(135, dJ), (141, (hO F))]
theorem aUd [Mx] (F : Md) : bH Tryz.prog GL (aJw F) := .cons oS xAa (.cons (uT F) xAa (.nil))
attribute [go_sem] aPv aM8
theorem aM9 [Mx] (F : Md) : FOK Tryz.prog GL 146 (yT F) := by
 refine bT (aU (aUd F)) mix Tryz.func146 rfl xAa xAc aM8 fun w0 S x Θ hw h hF => ?_
 obtain ⟨(a_0 : qd), u⟩ := x
 simp only [bZ, go_sem]
 replace h : sat (aDn F a_0) _ := h
 unfold aDn at h
 obtain ⟨v_3, hv, h⟩ := aP h
 exact za2
attribute [go_sem] yT
def wU (F : Md) (x22_13 : Int) (out_14 : qd) (carry_12 : Nat) (x_21 : Nat) : Option ((Nat × Int × qd) ⊕ qd) :=
 ck (0 ≤ x22_13 ∧ x22_13 < (out_14.length : Int)) (ck (aR1 (out_14.getD (x22_13.toNat) (0 : Nat)) x_21 carry_12) (ck (0 ≤ x22_13 ∧ x22_13 < (out_14.length : Int)) (ck (I64 (x22_13 + (1 : Int))) (some (.inl ((aFU (out_14.getD (x22_13.toNat) (0 : Nat)) x_21 carry_12).2.1, (x22_13 + (1 : Int)), (out_14.set (x22_13.toNat) (aFU (out_14.getD (x22_13.toNat) (0 : Nat)) x_21 carry_12).1)))))))
def aEz (F : Md) (a_3 : qd) (b_4 : qd) (carry_12 : Nat) (x22_13 : Int) (out_14 : qd) : Option ((Nat × Int × qd) ⊕ qd) :=
 if x22_13 < ((((id a_3) ++ ([0] : List Nat)).length : Nat) : Int) then if x22_13 < (b_4.length : Int) then ck (0 ≤ x22_13 ∧ x22_13 < (b_4.length : Int)) (wU F x22_13 out_14 carry_12 (b_4.getD (x22_13.toNat) (0 : Nat))) else if carry_12 = (0 : Nat) then some (.inr out_14) else wU F x22_13 out_14 carry_12 (0 : Nat) else some (.inr out_14)
def wV (F : Md) (a_3 : qd) (b_4 : qd) : Option qd :=
 ck (aXy a_3) (ck (((id a_3).length + (1 : Nat)) * 8 ≤ 140737488355328) ((eJ F (fun d : Nat × Int × qd => aEz F a_3 b_4 d.1 d.2.1 d.2.2) ((0 : Nat), (0 : Int), ((id a_3) ++ ([0] : List Nat)))).bind (fun e => (kV F e).bind (fun v_27 => some v_27))))
def aF0 (F : Md) (a_0 : qd) (b_1 : qd) : Option qd :=
 if (a_0.length : Int) < (b_1.length : Int) then wV F b_1 a_0 else wV F a_0 b_1
def aNa : PlR := ⟨[(0, .A [0, 1]), (1, .A [0, 1, 13]), (2, .A [0, 1]), (3, .B [1, 5]), (4, .A [1, 5, 6]), (5, .A [1, 5, 6, 21, 22]), (6, .A [1, 5, 6, 21, 22, 23]), (7, .A [1, 5, 6, 7, 21, 22]), (8, .A [1, 5, 6, 7, 8, 21, 22]), (9, .A [1, 5, 6, 7, 8, 21, 22, 25]), (10, .A [1, 5, 6, 7, 8, 21, 22]), (11, .A [1, 5, 6, 7, 8, 21, 22, 34]), (12, .B [1, 5, 6, 21, 22]), (13, .A [1, 5, 6, 21, 22]), (14, .B [4])], [(4, 6), (12, 15)]⟩
def aPy : Ty := .pair we (.pair we .unit)
def aDY (F : Md) : aI := mSpec aPy (.one we) (fun x => aF0 F x.1 x.2.1)
abbrev aF1 (F : Md) : List (FuncId × aI) := [(135, dJ), (141, (hO F)), (144, tR)]
theorem aUe [Mx] (F : Md) : bH Tryz.prog GL (aF1 F) := .cons oS xAa (.cons (uT F) xAa (.nat aIO (.nil)))
attribute [go_sem] aPy aNa
theorem aTg [Mx] (F : Md) : FOK Tryz.prog GL 145 (aDY F) := by
 refine bT (aU (aUe F)) mix Tryz.func145 rfl xAa xAc aNa fun w0 S x Θ hw h hF => ?_
 obtain ⟨(a_0 : qd), (b_1 : qd), u⟩ := x
 simp only [bZ, go_sem]
 replace h : sat (aF0 F a_0 b_1) _ := h
 unfold aF0 at h
 refine fD hF (D := qd × qd) (fun d => sat (wV F d.1 d.2) Θ) [] (fun d => [(0, .val we d.1), (1, .val we d.2)]) (fun d => []) ?_ ?_
 ·simp only [go_sem]
  refine fY h (fun hc h => ?_) fun hc h => ?_
  ·exact aY (b_1, a_0) h rfl xAb
  ·exact aY (a_0, b_1) h rfl xAb
 ·rintro ⟨a_3, b_4⟩ h
  simp only [go_sem]
  replace h : sat (wV F a_3 b_4) _ := h
  unfold wV at h
  refine bB h fun g0 h => ?_
  obtain ⟨g0, h⟩ := aQ h
  repeat (refine ⟨by omega, ?_⟩)
  refine aKj [1] rfl rfl (yaA ?_)
  refine cL hF (D := Nat × Int × qd) [1, 21] (fun d => [(5, .own 0), (6, .val qx d.1), (22, .val qe d.2.1)]) (fun d => [.inr (.row 169 qx d.2.2)]) h rfl xAb ?_
  rintro ⟨carry_12, x22_13, out_14⟩ A6 T6 hA6 hE6 h
  simp only [go_sem]
  replace h : sat (aEz F a_3 b_4 carry_12 x22_13 out_14) _ := h
  unfold aEz at h
  refine fY h (fun hc h => ?_) fun hc h => ?_
  ·refine fD hF (D := Nat) (fun d => sat (wU F x22_13 out_14 carry_12 d) T6) [1, 6, 7, 21, 22] (fun d => [(5, .own 0), (8, .val qx d)]) (fun d => [.inr (.row 169 qx out_14)]) ?_ ?_
   ·simp only [go_sem]
    refine fY h (fun hc h => ?_) fun hc h => ?_
    ·obtain ⟨g0, h⟩ := aQ h
     repeat (refine ⟨by omega, ?_⟩)
     exact aY (b_4.getD (x22_13.toNat) (0 : Nat)) h rfl xAb
    ·refine fL h (fun hc h => ?_) fun hc h => ?_
     ·replace h := yaF (hE6 _ (aE h))
      obtain ⟨v_23, hv, h⟩ := aP h
      exact zaR
     ·exact aY (0 : Nat) h rfl xAb
   ·rintro x_21 h
    simp only [go_sem]
    replace h : sat (wU F x22_13 out_14 carry_12 x_21) _ := h
    unfold wU at h
    obtain ⟨g0, h⟩ := aQ h
    repeat (refine ⟨by omega, ?_⟩)
    obtain ⟨g0, h⟩ := aQ h
    repeat (refine ⟨by omega, ?_⟩)
    obtain ⟨g0, h⟩ := aQ h
    repeat (refine ⟨by omega, ?_⟩)
    refine bB h fun g0 h => ?_
    replace h := hA6 _ (aE h)
    exact zaK
  ·replace h := yaF (hE6 _ (aE h))
   obtain ⟨v_25, hv, h⟩ := aP h
   exact zaR
attribute [go_sem] aDY
def zU (F : Md) (x22_46 : Int) (b_1 : qd) (carry_86 : Nat) (out_87 : qd) : Option ((Int × qd) ⊕ qd) :=
 ck (I64 (x22_46 + (b_1.length : Int))) (ck (0 ≤ (x22_46 + (b_1.length : Int)) ∧ (x22_46 + (b_1.length : Int)) < (out_87.length : Int)) (ck (I64 (x22_46 + (1 : Int))) (some (.inl ((x22_46 + (1 : Int)), (out_87.set (x22_46 + (b_1.length : Int)).toNat carry_86))))))
def aDo (F : Md) (b_1 : qd) (a_0 : qd) (x22_46 : Int) (carry_90 : Nat) (x29_91 : Int) (out_92 : qd) : Option ((Nat × Int × qd) ⊕ (Nat × qd)) :=
 if x29_91 < (b_1.length : Int) then ck (0 ≤ x29_91 ∧ x29_91 < (b_1.length : Int)) ((aCy F (a_0.getD (x22_46.toNat) (0 : Nat)) (b_1.getD (x29_91.toNat) (0 : Nat))).bind (fun v_105 => ck (aR1 v_105.2.1 carry_90 (0 : Nat)) (ck (I64 (x22_46 + x29_91)) (ck (I64 (x22_46 + x29_91)) (ck (0 ≤ (x22_46 + x29_91) ∧ (x22_46 + x29_91) < (out_92.length : Int)) (ck (aR1 (out_92.getD (x22_46 + x29_91).toNat (0 : Nat)) (aFU v_105.2.1 carry_90 (0 : Nat)).1 (0 : Nat)) (ck (0 ≤ (x22_46 + x29_91) ∧ (x22_46 + x29_91) < (out_92.length : Int)) (ck (I64 (x29_91 + (1 : Int))) (some (.inl (((((v_105.1 + (aFU v_105.2.1 carry_90 (0 : Nat)).2.1) % 18446744073709551616) + (aFU (out_92.getD (x22_46 + x29_91).toNat (0 : Nat)) (aFU v_105.2.1 carry_90 (0 : Nat)).1 (0 : Nat)).2.1) % 18446744073709551616), (x29_91 + (1 : Int)), (out_92.set (x22_46 + x29_91).toNat (aFU (out_92.getD (x22_46 + x29_91).toNat (0 : Nat)) (aFU v_105.2.1 carry_90 (0 : Nat)).1 (0 : Nat)).1)))))))))))) else some (.inr (carry_90, out_92))
def aDp (F : Md) (a_0 : qd) (b_1 : qd) (x22_46 : Int) (out_47 : qd) : Option ((Int × qd) ⊕ qd) :=
 if x22_46 < (a_0.length : Int) then ck (0 ≤ x22_46 ∧ x22_46 < (a_0.length : Int)) ((eJ F (fun d : Nat × Int × qd => aDo F b_1 a_0 x22_46 d.1 d.2.1 d.2.2) ((0 : Nat), (0 : Int), out_47)).bind (fun e => zU F x22_46 b_1 e.1 e.2)) else some (.inr out_47)
def lE (F : Md) (a_0 : qd) (b_1 : qd) : Option qd :=
 ck (I64 ((a_0.length : Int) + (b_1.length : Int))) (ck (0 ≤ ((a_0.length : Int) + (b_1.length : Int))) (ck ((8 : Int) * ((a_0.length : Int) + (b_1.length : Int)) ≤ 281474976710656) ((eJ F (fun d : Int × qd => aDp F a_0 b_1 d.1 d.2) ((0 : Int), (List.replicate ((a_0.length : Int) + (b_1.length : Int)).toNat (0 : Nat)))).bind (fun e => (kV F e).bind (fun v_109 => some v_109)))))
def aKs : PlR := ⟨[(0, .A [0, 1]), (1, .B [0, 1, 5]), (2, .A [1, 5, 20, 21, 22]), (3, .A [1, 5, 20, 21, 22, 23]), (4, .A [1, 5, 6, 7, 20, 21, 22]), (5, .A [1, 5, 6, 7, 8, 20, 21, 22]), (6, .A [1, 5, 6, 7, 8, 20, 21, 22, 27, 28, 29]), (7, .A [1, 5, 6, 7, 8, 20, 21, 22, 27, 28, 29, 30]), (8, .A [1, 5, 6, 7, 8, 9, 10, 20, 21, 22, 27, 28, 29]), (9, .A [1, 5, 6, 7, 8, 9, 11, 12, 20, 21, 22, 27, 28, 29]), (10, .A [1, 5, 6, 7, 8, 9, 11, 12, 20, 21, 22, 27, 28, 29]), (11, .A [1, 5, 6, 7, 9, 11, 12, 13, 20, 21, 22, 27, 28, 29]), (12, .A [1, 5, 6, 7, 9, 11, 12, 20, 21, 22, 27, 28, 29]), (13, .B [1, 5, 6, 7, 11, 13, 20, 21, 22, 27, 28, 29]), (14, .A [1, 5, 6, 7, 8, 20, 21, 22, 27, 28, 29]), (15, .A [1, 5, 6, 7, 8, 20, 21, 22, 27, 28, 29]), (16, .B [1, 5, 20, 21, 22]), (17, .A [1, 5, 20, 21, 22]), (18, .B [4])], [(9, 19)]⟩
def aNb : Ty := .pair we (.pair we .unit)
def iG (F : Md) : aI := mSpec aNb (.one we) (fun x => lE F x.1 x.2.1)
abbrev aDZ (F : Md) : List (FuncId × aI) := [(141, (hO F)), (143, (aBj F)), (144, tR)]
theorem aTh [Mx] (F : Md) : bH Tryz.prog GL (aDZ F) := .cons (uT F) xAa (.cons (aQw F) xAa (.nat aIO (.nil)))
attribute [go_sem] aNb aKs
theorem vI [Mx] (F : Md) : FOK Tryz.prog GL 104 (iG F) := by
 refine bT (aU (aTh F)) mix Tryz.func104 rfl xAa xAc aKs fun w0 S x Θ hw h hF => ?_
 obtain ⟨(a_0 : qd), (b_1 : qd), u⟩ := x
 simp only [bZ, go_sem]
 replace h : sat (lE F a_0 b_1) _ := h
 unfold lE at h
 obtain ⟨g0, h⟩ := aQ h
 repeat (refine ⟨by omega, ?_⟩)
 obtain ⟨g0, h⟩ := aQ h
 obtain ⟨g1, h⟩ := aQ h
 repeat (refine ⟨by omega, ?_⟩)
 refine cL hF (D := Int × qd) [1, 20, 21] (fun d => [(5, .own 0), (22, .val qe d.1)]) (fun d => [.inr (.row 169 qx d.2)]) h rfl xAb ?_
 rintro ⟨x22_46, out_47⟩ A3 T3 hA3 hE3 h
 simp only [go_sem]
 replace h : sat (aDp F a_0 b_1 x22_46 out_47) _ := h
 unfold aDp at h
 refine fY h (fun hc h => ?_) fun hc h => ?_
 ·obtain ⟨g0, h⟩ := aQ h
  repeat (refine ⟨by omega, ?_⟩)
  refine fD hF (D := Nat × qd) (fun d => sat (zU F x22_46 b_1 d.1 d.2) T3) [1, 6, 20, 21, 22] (fun d => [(5, .own 0), (8, .val qx d.1)]) (fun d => [.inr (.row 169 qx d.2)]) ?_ ?_
  ·simp only [go_sem]
   refine cL hF (D := Nat × Int × qd) [1, 6, 7, 20, 21, 22, 27, 28] (fun d => [(5, .own 0), (8, .val qx d.1), (29, .val qe d.2.1)]) (fun d => [.inr (.row 169 qx d.2.2)]) h rfl xAb ?_
   rintro ⟨carry_90, x29_91, out_92⟩ A7 T7 hA7 hE7 h
   simp only [go_sem]
   replace h : sat (aDo F b_1 a_0 x22_46 carry_90 x29_91 out_92) _ := h
   unfold aDo at h
   refine fY h (fun hc h => ?_) fun hc h => ?_
   ·obtain ⟨g0, h⟩ := aQ h
    repeat (refine ⟨by omega, ?_⟩)
    obtain ⟨v_105, hv, h⟩ := aP h
    try simp only [hv, go_sem]
    obtain ⟨g0, h⟩ := aQ h
    repeat (refine ⟨by omega, ?_⟩)
    obtain ⟨g0, h⟩ := aQ h
    repeat (refine ⟨by omega, ?_⟩)
    obtain ⟨g0, h⟩ := aQ h
    repeat (refine ⟨by omega, ?_⟩)
    obtain ⟨g0, h⟩ := aQ h
    repeat (refine ⟨by omega, ?_⟩)
    obtain ⟨g0, h⟩ := aQ h
    repeat (refine ⟨by omega, ?_⟩)
    obtain ⟨g0, h⟩ := aQ h
    repeat (refine ⟨by omega, ?_⟩)
    obtain ⟨g0, h⟩ := aQ h
    repeat (refine ⟨by omega, ?_⟩)
    replace h := hA7 _ (aE h)
    exact zaK
   ·replace h := yaF (hE7 _ (aE h))
    exact aY (carry_90, out_92) h rfl xAb
  ·rintro ⟨carry_86, out_87⟩ h
   simp only [go_sem]
   replace h : sat (zU F x22_46 b_1 carry_86 out_87) _ := h
   unfold zU at h
   obtain ⟨g0, h⟩ := aQ h
   repeat (refine ⟨by omega, ?_⟩)
   obtain ⟨g0, h⟩ := aQ h
   repeat (refine ⟨by omega, ?_⟩)
   obtain ⟨g0, h⟩ := aQ h
   try simp only [I64, I32] at g0
   repeat (refine ⟨zAA, ?_⟩)
   replace h := hA3 _ (aE h)
   exact zaK
 ·replace h := yaF (hE3 _ (aE h))
  obtain ⟨v_107, hv, h⟩ := aP h
  exact zaR
attribute [go_sem] iG
def aEA (F : Md) (a_0 : qd) (n_1 : Int) (x20_7 : Int) (out_8 : qd) : Option ((Int × qd) ⊕ qd) :=
 if x20_7 < (a_0.length : Int) then ck (0 ≤ x20_7 ∧ x20_7 < (a_0.length : Int)) (ck (I64 (Int.tdiv n_1 (64 : Int))) (ck (I64 ((Int.tdiv n_1 (64 : Int)) + x20_7)) (ck (0 ≤ ((Int.tdiv n_1 (64 : Int)) + x20_7) ∧ ((Int.tdiv n_1 (64 : Int)) + x20_7) < (out_8.length : Int)) (ck (0 ≤ ((Int.tdiv n_1 (64 : Int)) + x20_7) ∧ ((Int.tdiv n_1 (64 : Int)) + x20_7) < (out_8.length : Int)) (ck (I64 (Int.tdiv n_1 (64 : Int))) (ck (I64 ((Int.tdiv n_1 (64 : Int)) + x20_7)) (ck (I64 (((Int.tdiv n_1 (64 : Int)) + x20_7) + (1 : Int))) (ck (0 ≤ (((Int.tdiv n_1 (64 : Int)) + x20_7) + (1 : Int)) ∧ (((Int.tdiv n_1 (64 : Int)) + x20_7) + (1 : Int)) < (((out_8.set ((Int.tdiv n_1 (64 : Int)) + x20_7).toNat ((out_8.getD ((Int.tdiv n_1 (64 : Int)) + x20_7).toNat (0 : Nat)) ||| (((a_0.getD (x20_7.toNat) (0 : Nat)) * (2 ^ ((Int.tmod n_1 (64 : Int)) % (18446744073709551616 : Int)).toNat)) % 18446744073709551616))).length : Nat) : Int)) (ck (I64 ((63 : Int) - (Int.tmod n_1 (64 : Int)))) (ck (0 ≤ (((Int.tdiv n_1 (64 : Int)) + x20_7) + (1 : Int)) ∧ (((Int.tdiv n_1 (64 : Int)) + x20_7) + (1 : Int)) < (((out_8.set ((Int.tdiv n_1 (64 : Int)) + x20_7).toNat ((out_8.getD ((Int.tdiv n_1 (64 : Int)) + x20_7).toNat (0 : Nat)) ||| (((a_0.getD (x20_7.toNat) (0 : Nat)) * (2 ^ ((Int.tmod n_1 (64 : Int)) % (18446744073709551616 : Int)).toNat)) % 18446744073709551616))).length : Nat) : Int)) (ck (I64 (x20_7 + (1 : Int))) (some (.inl ((x20_7 + (1 : Int)), ((out_8.set ((Int.tdiv n_1 (64 : Int)) + x20_7).toNat ((out_8.getD ((Int.tdiv n_1 (64 : Int)) + x20_7).toNat (0 : Nat)) ||| (((a_0.getD (x20_7.toNat) (0 : Nat)) * (2 ^ ((Int.tmod n_1 (64 : Int)) % (18446744073709551616 : Int)).toNat)) % 18446744073709551616))).set (((Int.tdiv n_1 (64 : Int)) + x20_7) + (1 : Int)).toNat (((out_8.set ((Int.tdiv n_1 (64 : Int)) + x20_7).toNat ((out_8.getD ((Int.tdiv n_1 (64 : Int)) + x20_7).toNat (0 : Nat)) ||| (((a_0.getD (x20_7.toNat) (0 : Nat)) * (2 ^ ((Int.tmod n_1 (64 : Int)) % (18446744073709551616 : Int)).toNat)) % 18446744073709551616))).getD (((Int.tdiv n_1 (64 : Int)) + x20_7) + (1 : Int)).toNat (0 : Nat)) ||| (((a_0.getD (x20_7.toNat) (0 : Nat)) / (2 : Nat)) / (2 ^ (((63 : Int) - (Int.tmod n_1 (64 : Int))) % (18446744073709551616 : Int)).toNat)))))))))))))))))) else some (.inr out_8)
def mU (F : Md) (a_0 : qd) (n_1 : Int) : Option qd :=
 if (a_0.length : Int) = (0 : Int) then some ([] : List Nat) else ck (I64 (Int.tdiv n_1 (64 : Int))) (ck (I64 ((Int.tdiv n_1 (64 : Int)) + (a_0.length : Int))) (ck (I64 (((Int.tdiv n_1 (64 : Int)) + (a_0.length : Int)) + (1 : Int))) (ck (0 ≤ (((Int.tdiv n_1 (64 : Int)) + (a_0.length : Int)) + (1 : Int))) (ck ((8 : Int) * (((Int.tdiv n_1 (64 : Int)) + (a_0.length : Int)) + (1 : Int)) ≤ 281474976710656) ((eJ F (fun d : Int × qd => aEA F a_0 n_1 d.1 d.2) ((0 : Int), (List.replicate (((Int.tdiv n_1 (64 : Int)) + (a_0.length : Int)) + (1 : Int)).toNat (0 : Nat)))).bind (fun e => (kV F e).bind (fun v_15 => some v_15)))))))
def aNc : PlR := ⟨[(0, .A [0, 1]), (1, .A [0, 1, 10]), (2, .A [4]), (3, .B [0, 1, 5]), (4, .A [1, 5, 18, 19, 20]), (5, .A [1, 5, 18, 19, 20, 21]), (6, .A [1, 5, 6, 7, 18, 19, 20]), (7, .B [1, 5, 6, 7, 18, 19, 20]), (8, .B [1, 5, 18, 19, 20]), (9, .A [1, 5, 18, 19, 20]), (10, .B [4])], []⟩
def aPC : Ty := .pair we q9
def yU (F : Md) : aI := mSpec aPC (.one we) (fun x => mU F x.1 x.2.1)
abbrev aPD (F : Md) : List (FuncId × aI) := [(141, (hO F))]
theorem aUf [Mx] (F : Md) : bH Tryz.prog GL (aPD F) := .cons (uT F) xAa (.nil)
attribute [go_sem] aPC aNc
theorem aNd [Mx] (F : Md) : FOK Tryz.prog GL 139 (yU F) := by
 refine bT (aU (aUf F)) mix Tryz.func139 rfl xAa xAc aNc fun w0 S x Θ hw h hF => ?_
 obtain ⟨(a_0 : qd), (n_1 : Int), u⟩ := x
 simp only [bZ, go_sem]
 replace h : sat (mU F a_0 n_1) _ := h
 unfold mU at h
 refine fL h (fun hc h => ?_) fun hc h => ?_
 ·exact aK hF [.tmp 4] rfl rfl rfl (aE h) xAd
 ·obtain ⟨g0, h⟩ := aQ h
  try simp only [I64, I32] at g0
  repeat (refine ⟨zAA, ?_⟩)
  obtain ⟨g0, h⟩ := aQ h
  try simp only [I64, I32] at g0
  repeat (refine ⟨zAA, ?_⟩)
  obtain ⟨g0, h⟩ := aQ h
  try simp only [I64, I32] at g0
  repeat (refine ⟨zAA, ?_⟩)
  obtain ⟨g0, h⟩ := aQ h
  obtain ⟨g1, h⟩ := aQ h
  repeat (refine ⟨zAA, ?_⟩)
  refine cL hF (D := Int × qd) [1, 18, 19] (fun d => [(5, .own 0), (20, .val qe d.1)]) (fun d => [.inr (.row 169 qx d.2)]) h rfl xAb ?_
  rintro ⟨x20_7, out_8⟩ A5 T5 hA5 hE5 h
  simp only [go_sem]
  replace h : sat (aEA F a_0 n_1 x20_7 out_8) _ := h
  unfold aEA at h
  refine fY h (fun hc h => ?_) fun hc h => ?_
  ·obtain ⟨g0, h⟩ := aQ h
   repeat (refine ⟨zAA, ?_⟩)
   obtain ⟨g0, h⟩ := aQ h
   try simp only [I64, I32] at g0
   repeat (refine ⟨zAA, ?_⟩)
   obtain ⟨g0, h⟩ := aQ h
   try simp only [I64, I32] at g0
   repeat (refine ⟨zAA, ?_⟩)
   obtain ⟨g0, h⟩ := aQ h
   repeat (refine ⟨zAA, ?_⟩)
   obtain ⟨g0, h⟩ := aQ h
   repeat (refine ⟨zAA, ?_⟩)
   obtain ⟨g0, h⟩ := aQ h
   try simp only [I64, I32] at g0
   repeat (refine ⟨zAA, ?_⟩)
   obtain ⟨g0, h⟩ := aQ h
   try simp only [I64, I32] at g0
   repeat (refine ⟨zAA, ?_⟩)
   obtain ⟨g0, h⟩ := aQ h
   try simp only [I64, I32] at g0
   repeat (refine ⟨zAA, ?_⟩)
   obtain ⟨g0, h⟩ := aQ h
   repeat (refine ⟨zAA, ?_⟩)
   obtain ⟨g0, h⟩ := aQ h
   try simp only [I64, I32] at g0
   repeat (refine ⟨zAA, ?_⟩)
   obtain ⟨g0, h⟩ := aQ h
   repeat (refine ⟨zAA, ?_⟩)
   obtain ⟨g0, h⟩ := aQ h
   try simp only [I64, I32] at g0
   repeat (refine ⟨zAA, ?_⟩)
   replace h := hA5 _ (aE h)
   exact zax
  ·replace h := yaF (hE5 _ (aE h))
   obtain ⟨v_13, hv, h⟩ := aP h
   exact zaR
attribute [go_sem] yU
def aDq (F : Md) (n_1 : Int) (a_0 : qd) (x22_10 : Int) (out_11 : qd) : Option ((Int × qd) ⊕ qd) :=
 if x22_10 < (((List.drop (Int.tdiv n_1 (64 : Int)).toNat a_0).length : Nat) : Int) then ck (0 ≤ x22_10 ∧ x22_10 < (((List.drop (Int.tdiv n_1 (64 : Int)).toNat a_0).length : Nat) : Int)) (ck (0 ≤ x22_10 ∧ x22_10 < (out_11.length : Int)) (ck (I64 (x22_10 + (1 : Int))) (if (x22_10 + (1 : Int)) < (((List.drop (Int.tdiv n_1 (64 : Int)).toNat a_0).length : Nat) : Int) then ck (0 ≤ x22_10 ∧ x22_10 < (((out_11.set (x22_10.toNat) (((List.drop (Int.tdiv n_1 (64 : Int)).toNat a_0).getD (x22_10.toNat) (0 : Nat)) / (2 ^ ((Int.tmod n_1 (64 : Int)) % (18446744073709551616 : Int)).toNat))).length : Nat) : Int)) (ck (I64 (x22_10 + (1 : Int))) (ck (0 ≤ (x22_10 + (1 : Int)) ∧ (x22_10 + (1 : Int)) < (((List.drop (Int.tdiv n_1 (64 : Int)).toNat a_0).length : Nat) : Int)) (ck (I64 ((63 : Int) - (Int.tmod n_1 (64 : Int)))) (ck (0 ≤ x22_10 ∧ x22_10 < (((out_11.set (x22_10.toNat) (((List.drop (Int.tdiv n_1 (64 : Int)).toNat a_0).getD (x22_10.toNat) (0 : Nat)) / (2 ^ ((Int.tmod n_1 (64 : Int)) % (18446744073709551616 : Int)).toNat))).length : Nat) : Int)) (ck (I64 (x22_10 + (1 : Int))) (some (.inl ((x22_10 + (1 : Int)), ((out_11.set (x22_10.toNat) (((List.drop (Int.tdiv n_1 (64 : Int)).toNat a_0).getD (x22_10.toNat) (0 : Nat)) / (2 ^ ((Int.tmod n_1 (64 : Int)) % (18446744073709551616 : Int)).toNat))).set (x22_10.toNat) (((out_11.set (x22_10.toNat) (((List.drop (Int.tdiv n_1 (64 : Int)).toNat a_0).getD (x22_10.toNat) (0 : Nat)) / (2 ^ ((Int.tmod n_1 (64 : Int)) % (18446744073709551616 : Int)).toNat))).getD (x22_10.toNat) (0 : Nat)) ||| ((((((List.drop (Int.tdiv n_1 (64 : Int)).toNat a_0).getD (x22_10 + (1 : Int)).toNat (0 : Nat)) * (2 : Nat)) % 18446744073709551616) * (2 ^ (((63 : Int) - (Int.tmod n_1 (64 : Int))) % (18446744073709551616 : Int)).toNat)) % 18446744073709551616))))))))))) else ck (I64 (x22_10 + (1 : Int))) (some (.inl ((x22_10 + (1 : Int)), (out_11.set (x22_10.toNat) (((List.drop (Int.tdiv n_1 (64 : Int)).toNat a_0).getD (x22_10.toNat) (0 : Nat)) / (2 ^ ((Int.tmod n_1 (64 : Int)) % (18446744073709551616 : Int)).toNat))))))))) else some (.inr out_11)
def pI (F : Md) (a_0 : qd) (n_1 : Int) : Option qd :=
 ck (I64 (Int.tdiv n_1 (64 : Int))) (if (a_0.length : Int) ≤ (Int.tdiv n_1 (64 : Int)) then some ([] : List Nat) else ck (I64 (Int.tdiv n_1 (64 : Int))) (ck (0 ≤ (Int.tdiv n_1 (64 : Int)) ∧ (Int.tdiv n_1 (64 : Int)) ≤ (a_0.length : Int)) (ck (0 ≤ (((List.drop (Int.tdiv n_1 (64 : Int)).toNat a_0).length : Nat) : Int)) (ck ((8 : Int) * (((List.drop (Int.tdiv n_1 (64 : Int)).toNat a_0).length : Nat) : Int) ≤ 281474976710656) ((eJ F (fun d : Int × qd => aDq F n_1 a_0 d.1 d.2) ((0 : Int), (List.replicate (List.drop (Int.tdiv n_1 (64 : Int)).toNat a_0).length (0 : Nat)))).bind (fun e => (kV F e).bind (fun v_19 => some v_19)))))))
def aKt : PlR := ⟨[(0, .A [0, 1]), (1, .A [0, 1, 12]), (2, .A [4]), (3, .A [0, 1]), (4, .B [0, 1, 5]), (5, .A [0, 1, 5, 20, 21, 22]), (6, .A [0, 1, 5, 20, 21, 22, 23]), (7, .A [0, 1, 5, 6, 7, 20, 21, 22]), (8, .B [0, 1, 5, 6, 20, 21, 22]), (9, .A [0, 1, 5, 6, 20, 21, 22, 39]), (10, .C 17 [0, 1, 5, 20, 21, 22]), (11, .A [0, 1, 5, 20, 21, 22]), (12, .B [4])], []⟩
def aNe : Ty := .pair we q9
def vJ (F : Md) : aI := mSpec aNe (.one we) (fun x => pI F x.1 x.2.1)
abbrev aNf (F : Md) : List (FuncId × aI) := [(141, (hO F))]
theorem aTi [Mx] (F : Md) : bH Tryz.prog GL (aNf F) := .cons (uT F) xAa (.nil)
attribute [go_sem] aNe aKt
theorem aKu [Mx] (F : Md) : FOK Tryz.prog GL 142 (vJ F) := by
 refine bT (aU (aTi F)) mix Tryz.func142 rfl xAa xAc aKt fun w0 S x Θ hw h hF => ?_
 obtain ⟨(a_0 : qd), (n_1 : Int), u⟩ := x
 simp only [bZ, go_sem]
 replace h : sat (pI F a_0 n_1) _ := h
 unfold pI at h
 obtain ⟨g0, h⟩ := aQ h
 try simp only [I64, I32] at g0
 repeat (refine ⟨zAA, ?_⟩)
 refine aT2 h (fun hc h => ?_) fun hc h => ?_
 ·exact aK hF [.tmp 4] rfl rfl rfl (aE h) xAd
 ·obtain ⟨g0, h⟩ := aQ h
  obtain ⟨g1, h⟩ := aQ h
  try simp only [I64, I32] at g0
  repeat (refine ⟨zAA, ?_⟩)
  obtain ⟨g0, h⟩ := aQ h
  obtain ⟨g1, h⟩ := aQ h
  repeat (refine ⟨zAA, ?_⟩)
  refine cL hF (D := Int × qd) [0, 1, 20, 21] (fun d => [(5, .own 0), (22, .val qe d.1)]) (fun d => [.inr (.row 169 qx d.2)]) h rfl xAb ?_
  rintro ⟨x22_10, out_11⟩ A6 T6 hA6 hE6 h
  simp only [go_sem]
  replace h : sat (aDq F n_1 a_0 x22_10 out_11) _ := h
  unfold aDq at h
  refine fY h (fun hc h => ?_) fun hc h => ?_
  ·obtain ⟨g0, h⟩ := aQ h
   repeat (refine ⟨zAA, ?_⟩)
   obtain ⟨g0, h⟩ := aQ h
   repeat (refine ⟨zAA, ?_⟩)
   obtain ⟨g0, h⟩ := aQ h
   try simp only [I64, I32] at g0
   repeat (refine ⟨zAA, ?_⟩)
   refine ⟨fun hc => ?_, fun hc => ?_⟩
   ·replace h := jV hc h
    obtain ⟨g0, h⟩ := aQ h
    obtain ⟨g1, h⟩ := aQ h
    obtain ⟨g2, h⟩ := aQ h
    obtain ⟨g3, h⟩ := aQ h
    obtain ⟨g4, h⟩ := aQ h
    try simp only [I64, I32] at g1
    try simp only [I64, I32] at g3
    repeat (refine ⟨zAA, ?_⟩)
    obtain ⟨g0, h⟩ := aQ h
    try simp only [I64, I32] at g0
    repeat (refine ⟨zAA, ?_⟩)
    replace h := hA6 _ (aE h)
    exact zax
   ·replace h := jW (by first | exact hc | omega) h
    obtain ⟨g0, h⟩ := aQ h
    try simp only [I64, I32] at g0
    repeat (refine ⟨zAA, ?_⟩)
    replace h := hA6 _ (aE h)
    exact zaK
  ·replace h := yaF (hE6 _ (aE h))
   obtain ⟨v_17, hv, h⟩ := aP h
   exact zaR
attribute [go_sem] vJ
def zV (F : Md) (rest_11 : Nat) (q_12 : qd) : Option qv :=
 (kV F q_12).bind (fun v_15 => (kV F ([rest_11] : List Nat)).bind (fun v_16 => some (v_15, v_16, ())))
def aDr (F : Md) (a_0 : qd) (b_1 : Nat) (rest_18 : Nat) (i_19 : Int) (q_20 : qd) : Option ((Nat × Int × qd) ⊕ (Nat × qd)) :=
 if (0 : Int) ≤ i_19 then ck (0 ≤ i_19 ∧ i_19 < (a_0.length : Int)) ((aCz F rest_18 (a_0.getD (i_19.toNat) (0 : Nat)) b_1).bind (fun v_28 => ck (0 ≤ i_19 ∧ i_19 < (q_20.length : Int)) (ck (I64 (i_19 - (1 : Int))) (some (.inl (v_28.2.1, (i_19 - (1 : Int)), (q_20.set (i_19.toNat) v_28.1))))))) else some (.inr (rest_18, q_20))
def yV (F : Md) (a_0 : qd) (b_1 : Nat) : Option qv :=
 ck (0 ≤ (a_0.length : Int)) (ck ((8 : Int) * (a_0.length : Int) ≤ 281474976710656) (ck (I64 ((a_0.length : Int) - (1 : Int))) ((eJ F (fun d : Nat × Int × qd => aDr F a_0 b_1 d.1 d.2.1 d.2.2) ((0 : Nat), ((a_0.length : Int) - (1 : Int)), (List.replicate (a_0.length) (0 : Nat)))).bind (fun e => zV F e.1 e.2))))
def aKv : PlR := ⟨[(0, .A [0, 1]), (1, .B [0, 1, 6]), (2, .A [0, 1, 6, 7]), (3, .A [0, 1, 6, 7, 8]), (4, .A [0, 1, 6, 7, 8, 16]), (5, .A [0, 1, 6, 7, 8]), (6, .B [0, 1, 6, 7, 8]), (7, .B [4, 5])], [(6, 10)]⟩
def aNg : Ty := .pair we (.pair qx .unit)
def aCB (F : Md) : aI := mSpec aNg (.tup (.pair we (.pair we .unit))) (fun x => yV F x.1 x.2.1)
abbrev aHA (F : Md) : List (FuncId × aI) := [(141, (hO F)), (173, (aBk F))]
theorem aTj [Mx] (F : Md) : bH Tryz.prog GL (aHA F) := .cons (uT F) xAa (.cons (aQx F) xAa (.nil))
attribute [go_sem] aNg aKv
theorem aR9 [Mx] (F : Md) : FOK Tryz.prog GL 136 (aCB F) := by
 refine bT (aU (aTj F)) mix Tryz.func136 rfl xAa xAc aKv fun w0 S x Θ hw h hF => ?_
 obtain ⟨(a_0 : qd), (b_1 : Nat), u⟩ := x
 simp only [bZ, go_sem]
 replace h : sat (yV F a_0 b_1) _ := h
 unfold yV at h
 obtain ⟨g0, h⟩ := aQ h
 obtain ⟨g1, h⟩ := aQ h
 repeat (refine ⟨by omega, ?_⟩)
 refine fD hF (D := Nat × qd) (fun d => sat (zV F d.1 d.2) Θ) [] (fun d => [(6, .own 0), (7, .val qx d.1)]) (fun d => [.inr (.row 169 qx d.2)]) ?_ ?_
 ·simp only [go_sem]
  obtain ⟨g0, h⟩ := aQ h
  repeat (refine ⟨by omega, ?_⟩)
  refine cL hF (D := Nat × Int × qd) [0, 1] (fun d => [(6, .own 0), (7, .val qx d.1), (8, .val qe d.2.1)]) (fun d => [.inr (.row 169 qx d.2.2)]) h rfl xAb ?_
  rintro ⟨rest_18, i_19, q_20⟩ A4 T4 hA4 hE4 h
  simp only [go_sem]
  replace h : sat (aDr F a_0 b_1 rest_18 i_19 q_20) _ := h
  unfold aDr at h
  refine aT2 h (fun hc h => ?_) fun hc h => ?_
  ·obtain ⟨g0, h⟩ := aQ h
   repeat (refine ⟨by omega, ?_⟩)
   obtain ⟨v_28, hv, h⟩ := aP h
   try simp only [hv, go_sem]
   obtain ⟨g0, h⟩ := aQ h
   repeat (refine ⟨by omega, ?_⟩)
   obtain ⟨g0, h⟩ := aQ h
   repeat (refine ⟨by omega, ?_⟩)
   replace h := hA4 _ (aE h)
   exact zaK
  ·replace h := yaF (hE4 _ (aE h))
   exact aY (rest_18, q_20) h rfl xAb
 ·rintro ⟨rest_11, q_12⟩ h
  simp only [go_sem]
  replace h : sat (zV F rest_11 q_12) _ := h
  unfold zV at h
  obtain ⟨v_15, hv, h⟩ := aP h
  try simp only [hv, go_sem]
  obtain ⟨v_16, hv, h⟩ := aP h
  try simp only [hv, go_sem]
  exact aK hF [.tmp 4, .tmp 5] rfl rfl rfl (aE h) xAd
attribute [go_sem] aCB
def oU (F : Md) (a_0 : qd) (n_1 : Int) : Option qd :=
 ck (aXy a_0) (ck (I64 (n_1 - (a_0.length : Int))) (ck (0 ≤ (n_1 - (a_0.length : Int))) (ck (((id a_0).length + (n_1 - (a_0.length : Int)).toNat) * 8 ≤ 140737488355328) (some ((id a_0) ++ (List.replicate (n_1 - (a_0.length : Int)).toNat (0 : Nat)))))))
def aIS : PlR := ⟨[(0, .A [0, 1]), (1, .B [4])], []⟩
def aKw : Ty := .pair we q9
def aBl (F : Md) : aI := mSpec aKw (.one we) (fun x => oU F x.1 x.2.1)
abbrev aKx (F : Md) : List (FuncId × aI) := [(135, dJ)]
theorem aSa [Mx] (F : Md) : bH Tryz.prog GL (aKx F) := .cons oS xAa (.nil)
attribute [go_sem] aKw aIS
theorem aQy [Mx] (F : Md) : FOK Tryz.prog GL 138 (aBl F) := by
 refine bT (aU (aSa F)) mix Tryz.func138 rfl xAa xAc aIS fun w0 S x Θ hw h hF => ?_
 obtain ⟨(a_0 : qd), (n_1 : Int), u⟩ := x
 simp only [bZ, go_sem]
 replace h : sat (oU F a_0 n_1) _ := h
 unfold oU at h
 refine bB h fun g0 h => ?_
 refine bB h fun g0 h => ?_
 obtain ⟨g0, h⟩ := aQ h
 obtain ⟨g1, h⟩ := aQ h
 repeat (refine ⟨by omega, ?_⟩)
 exact zaD
attribute [go_sem] aBl
def aBY (F : Md) (a_0 : qd) (b_1 : qd) : Option qv :=
 ck ((kV F (List.replicate (((a_0.length : Int) - (b_1.length : Int)) + (1 : Int)).toNat (0 : Nat))).isSome = true) (ck (0 ≤ (b_1.length : Int) ∧ (b_1.length : Int) ≤ ((((oU F ((mU F a_0 ((cF F (b_1.getD ((b_1.length : Int) - (1 : Int)).toNat (0 : Nat))).getD (0 : Int))).getD ([] : List Nat)) ((a_0.length : Int) + (1 : Int))).getD ([] : List Nat)).length : Nat) : Int)) (ck ((kV F (List.take (b_1.length) ((oU F ((mU F a_0 ((cF F (b_1.getD ((b_1.length : Int) - (1 : Int)).toNat (0 : Nat))).getD (0 : Int))).getD ([] : List Nat)) ((a_0.length : Int) + (1 : Int))).getD ([] : List Nat)))).isSome = true) (ck ((pI F ((kV F (List.take (b_1.length) ((oU F ((mU F a_0 ((cF F (b_1.getD ((b_1.length : Int) - (1 : Int)).toNat (0 : Nat))).getD (0 : Int))).getD ([] : List Nat)) ((a_0.length : Int) + (1 : Int))).getD ([] : List Nat)))).getD ([] : List Nat)) ((cF F (b_1.getD ((b_1.length : Int) - (1 : Int)).toNat (0 : Nat))).getD (0 : Int))).isSome = true) (some (((kV F (List.replicate (((a_0.length : Int) - (b_1.length : Int)) + (1 : Int)).toNat (0 : Nat))).getD ([] : List Nat)), ((pI F ((kV F (List.take (b_1.length) ((oU F ((mU F a_0 ((cF F (b_1.getD ((b_1.length : Int) - (1 : Int)).toNat (0 : Nat))).getD (0 : Int))).getD ([] : List Nat)) ((a_0.length : Int) + (1 : Int))).getD ([] : List Nat)))).getD ([] : List Nat)) ((cF F (b_1.getD ((b_1.length : Int) - (1 : Int)).toNat (0 : Nat))).getD (0 : Int))).getD ([] : List Nat)), ())))))
def aGy (F : Md) (a_0 : qd) (b_1 : qd) : Option ((Unit) ⊕ (Unit)) :=
 if (0 : Int) ≤ ((a_0.length : Int) - (b_1.length : Int)) then none else some (.inr ())
def aCC (F : Md) (a_0 : qd) (b_1 : qd) : Option qv :=
 ck ((uU F a_0 b_1).isSome = true) (if ((uU F a_0 b_1).getD (0 : Int)) < (0 : Int) then ck (aXy a_0) (some (([] : List Nat), (id a_0), ())) else if (b_1.length : Int) = (1 : Int) then ck ((0 : Int) < (b_1.length : Int)) (ck ((yV F a_0 (b_1.getD (0 : Nat) (0 : Nat))).isSome = true) (some (((yV F a_0 (b_1.getD (0 : Nat) (0 : Nat))).getD (([] : List Nat), ([] : List Nat), ())).1, ((yV F a_0 (b_1.getD (0 : Nat) (0 : Nat))).getD (([] : List Nat), ([] : List Nat), ())).2.1, ()))) else ck (I64 ((b_1.length : Int) - (1 : Int))) (ck (0 ≤ ((b_1.length : Int) - (1 : Int)) ∧ ((b_1.length : Int) - (1 : Int)) < (b_1.length : Int)) (ck ((cF F (b_1.getD ((b_1.length : Int) - (1 : Int)).toNat (0 : Nat))).isSome = true) (ck ((mU F b_1 ((cF F (b_1.getD ((b_1.length : Int) - (1 : Int)).toNat (0 : Nat))).getD (0 : Int))).isSome = true) (ck ((oU F ((mU F b_1 ((cF F (b_1.getD ((b_1.length : Int) - (1 : Int)).toNat (0 : Nat))).getD (0 : Int))).getD ([] : List Nat)) (b_1.length : Int)).isSome = true) (ck ((mU F a_0 ((cF F (b_1.getD ((b_1.length : Int) - (1 : Int)).toNat (0 : Nat))).getD (0 : Int))).isSome = true) (ck (I64 ((a_0.length : Int) + (1 : Int))) (ck ((oU F ((mU F a_0 ((cF F (b_1.getD ((b_1.length : Int) - (1 : Int)).toNat (0 : Nat))).getD (0 : Int))).getD ([] : List Nat)) ((a_0.length : Int) + (1 : Int))).isSome = true) (ck (I64 ((a_0.length : Int) - (b_1.length : Int))) (ck (I64 (((a_0.length : Int) - (b_1.length : Int)) + (1 : Int))) (ck (0 ≤ (((a_0.length : Int) - (b_1.length : Int)) + (1 : Int))) (ck ((8 : Int) * (((a_0.length : Int) - (b_1.length : Int)) + (1 : Int)) ≤ 281474976710656) (ck (I64 ((a_0.length : Int) - (b_1.length : Int))) ((eJ F (fun d : Unit => aGy F a_0 b_1) ()).bind (fun e => aBY F a_0 b_1)))))))))))))))
@[go_sem]def aCD : Ty := .pair we (.pair we .unit)
def aBm (F : Md) : aI := mSpec aCD (.tup (.pair we (.pair we .unit))) (fun x => aCC F x.1 x.2.1)
abbrev mZ (F : Md) : List (FuncId × aI) := [(114, (qZ F)), (135, dJ), (136, (aCB F)), (137, (fR F)), (138, (aBl F)), (139, (yU F)), (141, (hO F)), (142, (vJ F))]
theorem aKy [Mx] (F : Md) : bH Tryz.prog GL (mZ F) := .cons (aFZ F) xAa (.cons oS xAa (.cons (aR9 F) xAa (.cons (sP F) xAa (.cons (aQy F) xAa (.cons (aNd F) xAa (.cons (uT F) xAa (.cons (aKu F) xAa (.nil))))))))
theorem aQz [Mx] (F : Md) : FOK Tryz.prog GL 103 (aBm F) := by
 refine rY (aU (aKy F)) Tryz.func103 rfl xAa xAc fun w0 S x r hw h => ?_
 have hF : gD (fr Tryz.prog (EM (mZ F)) S w0 Tryz.f103.ntmps) := ⟨aU (aKy F), mix⟩
 obtain ⟨(a_0 : qd), (b_1 : qd), u⟩ := x
 simp only [aCD, Ty.wf, fG] at hw
 simp only [bZ, aCD]
 try dsimp only at h
 replace h : aCC F a_0 b_1 = some r := h
 unfold aCC at h
 refine aB (aF hF [0, 1] (yaA ?_))
 refine aA (aB (aB (aF hF [0, 1, 15] (yaA ?_))))
 obtain ⟨g0, h⟩ := aM h
 repeat (refine ⟨zAA, ?_⟩)
 refine aA (bC rfl (fun hc => ?_) (fun hc => ?_))
 ·try simp only [go_sem] at hc
  have h := dP zAB h
  refine aB (aR hF [4, 5] (yaA ?_))
  obtain ⟨g0, h⟩ := aM h
  repeat (refine ⟨zAA, ?_⟩)
  obtain rfl := Option.some.inj h
  refine aA (cA (cE (gX hF [.tmp 4, .tmp 5] rfl rfl rfl ?_)))
  exact zAH
 ·try simp only [go_sem] at hc
  have h := dQ zAB h
  refine bY (aA (aB (aB (aF hF [0, 1, 20] (yaA ?_)))))
  refine aA (bC rfl (fun hc => ?_) (fun hc => ?_))
  ·try simp only [go_sem] at hc
   have h := dP zAB h
   refine aB (aF hF [4, 5] (yaA ?_))
   obtain ⟨g0, h⟩ := aM h
   obtain ⟨g1, h⟩ := aM h
   repeat (refine ⟨zAA, ?_⟩)
   obtain rfl := Option.some.inj h
   refine aA (cA (cE (gX hF [.tmp 4, .tmp 5] rfl rfl rfl ?_)))
   exact zAH
  ·try simp only [go_sem] at hc
   have h := dQ zAB h
   refine bY (aA (aB (aF hF [0, 1, 6, 7] (yaA ?_))))
   obtain ⟨g0, h⟩ := aM h
   obtain ⟨g1, h⟩ := aM h
   obtain ⟨g2, h⟩ := aM h
   try simp only [I64, I32] at g0
   repeat (refine ⟨zAA, ?_⟩)
   refine aA (aB (aF hF [0, 6, 7, 8, 9] (yaA ?_)))
   obtain ⟨g0, h⟩ := aM h
   obtain ⟨g1, h⟩ := aM h
   obtain ⟨g2, h⟩ := aM h
   obtain ⟨g3, h⟩ := aM h
   obtain ⟨g4, h⟩ := aM h
   try simp only [I64, I32] at g3
   repeat (refine ⟨zAA, ?_⟩)
   refine aA (aB (aR hF [0, 6, 7, 8, 9, 10] (yaA ?_)))
   obtain ⟨g0, h⟩ := aM h
   try simp only [I64, I32] at g0
   repeat (refine ⟨zAA, ?_⟩)
   obtain ⟨g0, h⟩ := aM h
   try simp only [I64, I32] at g0
   repeat (refine ⟨zAA, ?_⟩)
   obtain ⟨g0, h⟩ := aM h
   obtain ⟨g1, h⟩ := aM h
   repeat (refine ⟨zAA, ?_⟩)
   refine aA (oB (D := Unit) (fun d => aBY F a_0 b_1 = some r) [6, 7, 9] (fun d => [(10, .own 0)]) (fun d => [.inr (.row 169 qx (List.replicate (((a_0.length : Int) - (b_1.length : Int)) + (1 : Int)).toNat (0 : Nat)))]) ?_ ?_)
   ·refine aB (aF hF [6, 7, 8, 9, 10, 11] (yaA ?_))
    obtain ⟨g0, h⟩ := aM h
    try simp only [I64, I32] at g0
    repeat (refine ⟨zAA, ?_⟩)
    refine aA (dH (oC (D := Unit) [6, 7, 8, 9, 11] (fun d => [(10, .own 0)]) (fun d => [.inr (.row 169 qx (List.replicate (((a_0.length : Int) - (b_1.length : Int)) + (1 : Int)).toNat (0 : Nat)))]) h ?_ ?_ ?_))
    ·first | rfl | (simp only [go_sem]; done)
    ·exact zAG
    rintro u s9 h hs9
    simp only [go_sem]
    try dsimp only at h
    unfold aGy at h
    refine aB (aB (aF hF [6, 7, 8, 9, 10, 11, 60] (yaA ?_)))
    refine aA (bC rfl (fun hc => ?_) (fun hc => ?_))
    ·try simp only [go_sem] at hc
     have h := dP zAB h
     cases h
    ·try simp only [go_sem] at hc
     have h := dQ zAB h
     obtain rfl := Option.some.inj h
     dsimp only [lR] at hs9
     have h := yaF (hs9)
     refine pV (cV (cV (fH (bO (aY () h rfl ?_)))))
     ·exact zAG
   ·rintro u h
    try dsimp only at h
    simp only [go_sem]
    unfold aBY at h
    refine aB (aTV 0 (yaA ?_))
    refine aF hF [4, 5] (yaA ?_)
    obtain ⟨g0, h⟩ := aM h
    obtain ⟨g1, h⟩ := aM h
    obtain ⟨g2, h⟩ := aM h
    obtain ⟨g3, h⟩ := aM h
    repeat (refine ⟨zAA, ?_⟩)
    obtain rfl := Option.some.inj h
    refine aA (cA (gX hF [.tmp 4, .tmp 5] rfl rfl rfl ?_))
    exact zAH
attribute [go_sem] aBm
end
end Nu
end Go.Proofs
namespace Go.Proofs
open Go.Vc
set_option maxRecDepth 20000
namespace Nu
noncomputable section
set_option maxHeartbeats 4000000
theorem aAS [Mx] : bH Tryz.prog GL [] := .nil
def rA (F : Md) (is_0 : Bool) (e_1 : Int) : Option (Unit ⊕ qp) :=
 if ¬ (is_0 = true) then some (.inr (e_1, ())) else some (.inl ())
def gR (F : Md) : gH where
 D := Bool × Int × (Unit ⊕ qp)
 av := fun d => [.val .bool d.1, .val qe d.2.1]
 hp := fun d => []
 m := 0
 pre := fun d => rA F d.1 d.2.1 = some d.2.2
 out := fun d => match d.2.2 with | .inl r => .ret (.tup []) [] | .inr p => .pan ⟨219, q9, p⟩ []
abbrev aNh (F : Md) : List (FuncId × aI) := []
theorem aNi [Mx] (F : Md) : bH Tryz.prog GL (aNh F) := .nil
theorem kP [Mx] (F : Md) : GOK Tryz.prog GL 178 (gR F) := by
 refine eO (aU (aNi F)) Tryz.func178 rfl xAa (fun _ => Nat.le_of_ble_eq_true rfl) fun c0 w0 d hw1 hw2 h hn => ?_
 have hF : gD ⟨Tryz.prog, EM (aNh F), GM (gR F) c0 d, w0, Tryz.f178.ntmps, []⟩ := ⟨aU (aNi F), mix⟩
 obtain ⟨(is_0 : Bool), (e_1 : Int), r⟩ := d
 replace h : rA F is_0 e_1 = some r := h
 have hw1 : AV.wfL [.val .bool is_0, .val qe e_1] := hw1
 simp only [AV.wfL, AV.wfV, Ty.wf, fG] at hw1
 show Tri _ _ _ [(0, .val .bool is_0), (1, .val qe e_1)] []
 unfold rA at h
 refine aB (aF hF [1, 5] (yaA ?_))
 refine aA (bC rfl (fun hc => ?_) (fun hc => ?_))
 ·try simp only [go_sem] at hc
  have h := dP zAB h
  refine aC hF (aG (l := []) (.nil)) [] [] (yaB ?_)
  obtain rfl := Option.some.inj h
  refine bA rfl rfl rfl rfl
 ·try simp only [go_sem] at hc
  exact zay
attribute [go_sem] gR
def aBn (F : Md) (e_2 : Int) (m_1 : qd) (neg_0 : Bool) : Option (qt ⊕ qp) :=
 ck (I64 (e_2 + ((fS F m_1).getD (0 : Int)))) ((rA F (decide ((e_2 + ((fS F m_1).getD (0 : Int))) ≤ (1048576 : Int))) (3 : Int)).bind (fun e => match e with | .inl r_22 => ck (I64 (e_2 + ((fS F m_1).getD (0 : Int)))) (some (.inl (neg_0, ((pI F m_1 ((fS F m_1).getD (0 : Int))).getD ([] : List Nat)), (e_2 + ((fS F m_1).getD (0 : Int))), ()))) | .inr p_23 => some (.inr p_23)))
def aDs (F : Md) (neg_0 : Bool) (m_1 : qd) (e_2 : Int) : Option (qt ⊕ qp) :=
 if (m_1.length : Int) = (0 : Int) then some (.inl (false, ([] : List Nat), (0 : Int), ())) else ck ((fS F m_1).isSome = true) (ck ((pI F m_1 ((fS F m_1).getD (0 : Int))).isSome = true) ((rA F (decide (((((pI F m_1 ((fS F m_1).getD (0 : Int))).getD ([] : List Nat)).length : Nat) : Int) ≤ (64 : Int))) (2 : Int)).bind (fun e => match e with | .inl r_8 => if e_2 ≤ (1048576 : Int) then ck (I64 ((-1048576 : Int) - ((fS F m_1).getD (0 : Int)))) ((rA F ((decide (e_2 ≤ (1048576 : Int))) && (decide (((-1048576 : Int) - ((fS F m_1).getD (0 : Int))) ≤ e_2))) (3 : Int)).bind (fun e => match e with | .inl r_24 => aBn F e_2 m_1 neg_0 | .inr p_25 => some (.inr p_25))) else (rA F false (3 : Int)).bind (fun e => match e with | .inl r_26 => aBn F e_2 m_1 neg_0 | .inr p_27 => some (.inr p_27)) | .inr p_9 => some (.inr p_9))))
def uV (F : Md) : gH where
 D := Bool × qd × Int × (qt ⊕ qp)
 av := fun d => [.val .bool d.1, .val we d.2.1, .val qe d.2.2.1]
 hp := fun d => []
 m := 0
 pre := fun d => aDs F d.1 d.2.1 d.2.2.1 = some d.2.2.2
 out := fun d => match d.2.2.2 with | .inl r => .ret (.val ql r) [] | .inr p => .pan ⟨219, q9, p⟩ []
abbrev aF2 (F : Md) : List (FuncId × aI) := [(142, (vJ F)), (177, (aCA F))]
theorem aPF [Mx] (F : Md) : bH Tryz.prog GL (aF2 F) := .cons (aKu F) xAa (.cons (aR8 F) xAa (.nil))
theorem aD0 [Mx] (F : Md) : GOK Tryz.prog GL 149 (uV F) := by
 refine eO (aU (aPF F)) Tryz.func149 rfl xAa (fun _ => Nat.le_of_ble_eq_true rfl) fun c0 w0 d hw1 hw2 h hn => ?_
 have hF : gD ⟨Tryz.prog, EM (aF2 F), GM (uV F) c0 d, w0, Tryz.f149.ntmps, []⟩ := ⟨aU (aPF F), mix⟩
 obtain ⟨(neg_0 : Bool), (m_1 : qd), (e_2 : Int), r⟩ := d
 replace h : aDs F neg_0 m_1 e_2 = some r := h
 have hw1 : AV.wfL [.val .bool neg_0, .val we m_1, .val qe e_2] := hw1
 simp only [AV.wfL, AV.wfV, Ty.wf, fG] at hw1
 show Tri _ _ _ [(0, .val .bool neg_0), (1, .val we m_1), (2, .val qe e_2)] []
 unfold aDs at h
 refine aB (aR hF [0, 1, 2, 6] (yaA ?_))
 refine aA (aB (aB (aF hF [0, 1, 2, 6, 10] (yaA ?_))))
 refine aA (bC rfl (fun hc => ?_) (fun hc => ?_))
 ·try simp only [go_sem] at hc
  have h := dP zAB h
  refine aB (aR hF [6] (yaA ?_))
  obtain rfl := Option.some.inj h
  refine aA (cA (cE (kK hF [.cell 6 128] [] rfl rfl rfl rfl rfl rfl rfl rfl rfl ?_)))
  exact zaB
 ·try simp only [go_sem] at hc
  have h := dQ zAB h
  refine bY (aA (aB (aF hF [0, 1, 2, 6, 7] (yaA ?_))))
  obtain ⟨g0, h⟩ := aM h
  repeat (refine ⟨zAA, ?_⟩)
  refine aA (aB (aF hF [0, 1, 2, 6, 7] (yaA ?_)))
  obtain ⟨g0, h⟩ := aM h
  repeat (refine ⟨zAA, ?_⟩)
  obtain ⟨e, he1, h⟩ := bind_some h
  rcases e with r_8 | p_9
  ·try dsimp only at h
   refine aA (aB (aC hF (aG (l := [(178, ⟨gR F, [], ((decide (((((pI F m_1 ((fS F m_1).getD (0 : Int))).getD ([] : List Nat)).length : Nat) : Int) ≤ (64 : Int))), (2 : Int), .inl r_8)⟩)]) (.cons (kP F) xAa (.nil))) [0, 1, 2, 6, 7] [] (yaB ?_)))
   refine aA (oB (D := Unit) (fun d => aBn F e_2 m_1 neg_0 = some r) [0, 1, 2, 7] (fun d => [(6, .ptr 0 [])]) (fun d => [.inr (.box 3 (.val ql (false, ([] : List Nat), (0 : Int), ())))]) ?_ ?_)
   ·by_cases hq : e_2 ≤ (1048576 : Int)
    ·have h := dP hq h
     obtain ⟨g0, h⟩ := aM h
     try simp only [I64, I32] at g0
     obtain ⟨e, he3, h⟩ := bind_some h
     rcases e with r_24 | p_25
     ·try dsimp only at h
      refine aC hF (aG (l := [(178, ⟨gR F, [], (((decide (e_2 ≤ (1048576 : Int))) && (decide (((-1048576 : Int) - ((fS F m_1).getD (0 : Int))) ≤ e_2))), (3 : Int), .inl r_24)⟩)]) (.cons (kP F) xAa (.nil))) [0, 1, 2, 6, 7] [] (yaB ?_)
      refine ⟨fun _ => (yaD ?_), fun hx => by first | (exfalso; omega) | (exfalso; simp_all; done)⟩
      refine ⟨fun _ => (yaD ?_), fun hx => by first | (exfalso; omega) | (exfalso; simp_all; done)⟩
      refine ⟨fun _ => (yaD ?_), fun hx => by first | (exfalso; omega) | (exfalso; simp_all; done)⟩
      refine ⟨fun _ => (yaD ?_), fun hx => by first | (exfalso; omega) | (exfalso; simp_all; done)⟩
      refine bO (aY () h rfl ?_)
      ·exact zAG
     ·try dsimp only at h
      refine aC hF (aG (l := [(178, ⟨gR F, [], (((decide (e_2 ≤ (1048576 : Int))) && (decide (((-1048576 : Int) - ((fS F m_1).getD (0 : Int))) ≤ e_2))), (3 : Int), .inr p_25)⟩)]) (.cons (kP F) xAa (.nil))) [0, 1, 2, 6, 7] [] (yaB ?_)
      refine ⟨fun _ => (yaD ?_), fun hx => by first | (exfalso; omega) | (exfalso; simp_all; done)⟩
      refine ⟨fun _ => (yaD ?_), fun hx => by first | (exfalso; omega) | (exfalso; simp_all; done)⟩
      exact za4
    ·have h := dQ hq h
     obtain ⟨e, he4, h⟩ := bind_some h
     rcases e with r_26 | p_27
     ·try dsimp only at h
      refine aC hF (aG (l := [(178, ⟨gR F, [], (false, (3 : Int), .inl r_26)⟩)]) (.cons (kP F) xAa (.nil))) [0, 1, 2, 6, 7] [] (yaB ?_)
      first | (refine ⟨fun hx => by first | (exfalso; omega) | (exfalso; simp_all; done), fun _ => ?_⟩) | (with_reducible intro _) | skip
      repeat (refine ⟨zAA, ?_⟩)
      first | (refine ⟨fun hx => by first | (exfalso; omega) | (exfalso; simp_all; done), fun _ => ?_⟩) | (with_reducible intro _) | skip
      repeat (refine ⟨zAA, ?_⟩)
      first | (refine ⟨fun hx => by first | (exfalso; omega) | (exfalso; simp_all; done), fun _ => ?_⟩) | (with_reducible intro _) | skip
      repeat (refine ⟨zAA, ?_⟩)
      first | (refine ⟨fun hx => by first | (exfalso; omega) | (exfalso; simp_all; done), fun _ => ?_⟩) | (with_reducible intro _) | skip
      repeat (refine ⟨zAA, ?_⟩)
      refine bO (aY () h rfl ?_)
      ·exact zAG
     ·try dsimp only at h
      refine aC hF (aG (l := [(178, ⟨gR F, [], (false, (3 : Int), .inr p_27)⟩)]) (.cons (kP F) xAa (.nil))) [0, 1, 2, 6, 7] [] (yaB ?_)
      first | (refine ⟨fun hx => by first | (exfalso; omega) | (exfalso; simp_all; done), fun _ => ?_⟩) | (with_reducible intro _) | skip
      repeat (refine ⟨zAA, ?_⟩)
      first | (refine ⟨fun hx => by first | (exfalso; omega) | (exfalso; simp_all; done), fun _ => ?_⟩) | (with_reducible intro _) | skip
      repeat (refine ⟨zAA, ?_⟩)
      exact zan
   ·rintro u h
    try dsimp only at h
    simp only [go_sem]
    unfold aBn at h
    obtain ⟨g0, h⟩ := aM h
    try simp only [I64, I32] at g0
    obtain ⟨e, he2, h⟩ := bind_some h
    rcases e with r_22 | p_23
    ·try dsimp only at h
     refine aB (aC hF (aG (l := [(178, ⟨gR F, [], ((decide ((e_2 + ((fS F m_1).getD (0 : Int))) ≤ (1048576 : Int))), (3 : Int), .inl r_22)⟩)]) (.cons (kP F) xAa (.nil))) [0, 1, 2, 6, 7] [] (yaB ?_))
     refine aA (aB (aR hF [6] (yaA ?_)))
     obtain ⟨g0, h⟩ := aM h
     try simp only [I64, I32] at g0
     repeat (refine ⟨zAA, ?_⟩)
     obtain rfl := Option.some.inj h
     refine aA (cA (kK hF [.cell 6 128] [] rfl rfl rfl rfl rfl rfl rfl rfl rfl ?_))
     exact zaB
    ·try dsimp only at h
     refine aB (aC hF (aG (l := [(178, ⟨gR F, [], ((decide ((e_2 + ((fS F m_1).getD (0 : Int))) ≤ (1048576 : Int))), (3 : Int), .inr p_23)⟩)]) (.cons (kP F) xAa (.nil))) [0, 1, 2, 6, 7] [] (yaB ?_))
     exact zaN
  ·try dsimp only at h
   refine aA (aB (aC hF (aG (l := [(178, ⟨gR F, [], ((decide (((((pI F m_1 ((fS F m_1).getD (0 : Int))).getD ([] : List Nat)).length : Nat) : Int) ≤ (64 : Int))), (2 : Int), .inr p_9)⟩)]) (.cons (kP F) xAa (.nil))) [0, 1, 2, 6, 7] [] (yaB ?_)))
   exact zaN
attribute [go_sem] uV
def aCE (F : Md) (a0_0 : Bool) (a1_1 : qd) (a2_2 : Int) : Option (qt ⊕ qp) :=
 (aDs F a0_0 a1_1 a2_2).bind (fun e => match e with | .inl r_8 => some (.inl r_8) | .inr p_9 => some (.inr p_9))
def wW (F : Md) : gH where
 D := Bool × qd × Int × (qt ⊕ qp)
 av := fun d => [.val (.rp .bool) d.1, .val (.rp we) d.2.1, .val (.rp qe) d.2.2.1]
 hp := fun d => []
 m := 0
 pre := fun d => aCE F d.1 d.2.1 d.2.2.1 = some d.2.2.2
 out := fun d => match d.2.2.2 with | .inl r => .ret (.val ql r) [] | .inr p => .pan ⟨219, q9, p⟩ []
abbrev aKz (F : Md) : List (FuncId × aI) := []
theorem aKA [Mx] (F : Md) : bH Tryz.prog GL (aKz F) := .nil
theorem aIT [Mx] (F : Md) : GOK Tryz.prog GL 148 (wW F) := by
 refine eO (aU (aKA F)) Tryz.func148 rfl xAa (fun _ => Nat.le_of_ble_eq_true rfl) fun c0 w0 d hw1 hw2 h hn => ?_
 have hF : gD ⟨Tryz.prog, EM (aKz F), GM (wW F) c0 d, w0, Tryz.f148.ntmps, []⟩ := ⟨aU (aKA F), mix⟩
 obtain ⟨(a0_0 : Bool), (a1_1 : qd), (a2_2 : Int), r⟩ := d
 replace h : aCE F a0_0 a1_1 a2_2 = some r := h
 have hw1 : AV.wfL [.val (.rp .bool) a0_0, .val (.rp we) a1_1, .val (.rp qe) a2_2] := hw1
 simp only [AV.wfL, AV.wfV, Ty.wf, fG] at hw1
 show Tri _ _ _ [(0, .roa .bool a0_0), (1, .roa we a1_1), (2, .roa qe a2_2)] []
 unfold aCE at h
 refine aB (aR hF [0, 1, 2, 3] (yaA ?_))
 obtain ⟨e, he1, h⟩ := bind_some h
 rcases e with r_8 | p_9
 ·try dsimp only at h
  refine aA (aB (aC hF (aG (l := [(149, ⟨uV F, [], (a0_0, a1_1, a2_2, .inl r_8)⟩)]) (.cons (aD0 F) xAa (.nil))) [3] [] (yaB ?_)))
  exact zaz
 ·try dsimp only at h
  refine aA (aB (aC hF (aG (l := [(149, ⟨uV F, [], (a0_0, a1_1, a2_2, .inr p_9)⟩)]) (.cons (aD0 F) xAa (.nil))) [3] [] (yaB ?_)))
  exact zaN
attribute [go_sem] wW
def pJ : gH where
 D := qt × Int
 av := fun _ => [.ptr 0 [], .ptr 1 []]
 hp := fun d => [.box 3 (.val ql d.1), .box 1 (.val qe d.2)]
 m := 2
 pre := fun _ => True
 out := fun d => .ret (.tup []) [.box 3 (.val ql d.1), .box 1 (.val qe d.2)]
def pK (x : qp) : gH where
 D := qt × Int
 av := fun _ => [.ptr 0 [], .ptr 1 []]
 hp := fun d => [.box 3 (.val ql d.1), .box 1 (.val qe d.2)]
 m := 2
 pre := fun _ => True
 out := fun d => .ret (.tup []) [.box 3 (.val ql (false, ([] : List Nat), (0 : Int), ())), .box 1 (.val qe x.1)]
theorem aHB [Mx] : DOK Tryz.prog GL 176 none pJ := by
 refine aLR (aU aAS) Tryz.func176 rfl xAa (fun _ => Nat.le_of_ble_eq_true rfl) rfl fun c w d hw1 hw2 hp hn => ?_
 have hF : gD ⟨Tryz.prog, EM [], GM pJ c d, w, Tryz.f176.ntmps, []⟩ := ⟨aU aAS, mix⟩
 obtain ⟨d, e⟩ := d
 show sN _ _ _ [(5, .val .nili ()), (0, .ptr 0 []), (1, .ptr 1 [])] [.box 3 (.val ql d), .box 1 (.val qe e)] _
 simp only [go_sem]
 refine aB (aF hF [0, 1, 2, 9] (yaA ?_))
 refine aA (bC rfl (fun hc => absurd hc xAc) (fun hc => ?_))
 refine bY ?_
 refine iB [0, 1] rfl rfl (yaC ?_)
 exact zaf
theorem aHC [Mx] (x : qp) : DOK Tryz.prog GL 176 (some ⟨219, q9, x⟩) (pK x) := by
 refine aLR (aU aAS) Tryz.func176 rfl xAa (fun _ => Nat.le_of_ble_eq_true rfl) rfl fun c w d hw1 hw2 hp hn => ?_
 have hF : gD ⟨Tryz.prog, EM [], GM (pK x) c d, w, Tryz.f176.ntmps, []⟩ := ⟨aU aAS, mix⟩
 obtain ⟨d, e⟩ := d
 show sN _ _ _ [(5, .val (.ifc 219 q9) x), (0, .ptr 0 []), (1, .ptr 1 [])] [.box 3 (.val ql d), .box 1 (.val qe e)] _
 simp only [go_sem]
 refine aB (aF hF [0, 1, 2, 9] (yaA ?_))
 refine aA (bC rfl (fun hc => ?_) (fun hc => absurd hc xAc))
 refine aDU hF [] [] [.box 3 (.val ql (false, ([] : List Nat), (0 : Int), ())), .box 1 (.val qe x.1), .box 1 (.val q9 x)] xAc ?_ ?_
 ·simp only [go_sem]
  unfold anyS
  intro i hi
  have hi : i = 0 ∨ i = 1 := by revert hi; revert i; decide
  rcases hi with rfl | rfl
  ·simp only [go_sem]
   skip
   unfold anyS
   intro i hi
   have hi : i = 1 ∨ i = 3 := by revert hi; revert i; decide
   rcases hi with rfl | rfl
   ·simp only [go_sem]
    exact zai
   ·simp only [go_sem]
    skip
    unfold anyS
    intro i hi
    have hi : i = 1 := by revert hi; revert i; decide
    subst hi
    simp only [go_sem]
    skip
    unfold anyS
    intro i hi
    have hi : i = 2 := by revert hi; revert i; decide
    exact zaI
  ·simp only [go_sem]
   skip
   unfold anyS
   intro i hi
   have hi : i = 0 ∨ i = 2 := by revert hi; revert i; decide
   rcases hi with rfl | rfl
   ·simp only [go_sem]
    exact zai
   ·simp only [go_sem]
    skip
    unfold anyS
    intro i hi
    have hi : i = 0 := by revert hi; revert i; decide
    subst hi
    simp only [go_sem]
    skip
    unfold anyS
    intro i hi
    have hi : i = 3 := by revert hi; revert i; decide
    exact zaI
 refine iB [0, 1] rfl rfl (yaC ?_)
 exact zaf
def iS (F : Md) (c0 : Bool) (c1 : qd) (c2 : Int) : Option (qt × Int × Unit) :=
 (aCE F c0 c1 c2).bind fun q => some (match q with | .inl r => (r, 0, ()) | .inr p => ((false, ([] : List Nat), (0 : Int), ()), p.1, ()))
def yW : Ty := .pair (.clo 148 (.pair (.rp .bool) (.pair (.rp we) (.pair (.rp qe) .unit)))) .unit
def nA (F : Md) : aI := mSpec yW (.tup (.pair ql q9)) (fun x => iS F x.1.1 x.1.2.1 x.1.2.2.1)
theorem aEB [Mx] (F : Md) : FOK Tryz.prog GL 147 (nA F) := by
 refine aFS (aU aAS) Tryz.func147 rfl xAa xAc fun w0 S x r hw h => ?_
 have hF : gD (fr Tryz.prog (EM []) S w0 Tryz.f147.ntmps) := ⟨aU aAS, mix⟩
 obtain ⟨⟨(c0 : Bool), (c1 : qd), (c2 : Int), u1⟩, u⟩ := x
 replace h : iS F c0 c1 c2 = some r := h
 show Tri _ _ _ [(0, .val (.clo 148 (.pair (.rp .bool) (.pair (.rp we) (.pair (.rp qe) .unit)))) (c0, c1, c2, u1))] []
 unfold iS at h
 obtain ⟨q, hq, h⟩ := bind_some h
 obtain rfl := Option.some.inj h
 refine aB (aR hF [0, 2, 3] (yaA ?_))
 refine aA (aBh 2 [0, 1] rfl rfl (Nat.zero_le _) xAc fun roots hroots => ?_)
 have hF' : gD { fr Tryz.prog (EM []) S w0 Tryz.f147.ntmps with M := ⟨nothing, S, 2, roots⟩, ds := [⟨.fn (.func 176) ([0, 1].map roots).toArray, #[]⟩] } := ⟨aU aAS, mix⟩
 rcases q with q | q
 ·refine aB (aC hF' (aG (l := [(148, ⟨wW F, [], (c0, c1, c2, .inl q)⟩)]) (.cons (aIT F) xAa .nil)) [2, 3] [] (yaA ?_))
  exact zap
 ·refine aB (aC hF' (aG (l := [(148, ⟨wW F, [], (c0, c1, c2, .inr q)⟩)]) (.cons (aIT F) xAa .nil)) [2, 3] [] (yaA ?_))
  exact zal
attribute [go_sem] nA yW
def aDt (F : Md) (neg_0 : Bool) (m_1 : qd) (e_2 : Int) : Option (qt × qp) :=
 ck ((iS F neg_0 m_1 e_2).isSome = true) (some (((iS F neg_0 m_1 e_2).getD ((false, ([] : List Nat), (0 : Int), ()), (0 : Int), ())).1, ((iS F neg_0 m_1 e_2).getD ((false, ([] : List Nat), (0 : Int), ()), (0 : Int), ())).2.1, ()))
@[go_sem]def aF3 : Ty := .pair .bool (.pair we q9)
def yX (F : Md) : aI := mSpec aF3 (.tup (.pair ql q9)) (fun x => aDt F x.1 x.2.1 x.2.2.1)
abbrev aJx (F : Md) : List (FuncId × aI) := [(147, (nA F))]
theorem aPI [Mx] (F : Md) : bH Tryz.prog GL (aJx F) := .cons (aEB F) xAa (.nil)
theorem aNj [Mx] (F : Md) : FOK Tryz.prog GL 107 (yX F) := by
 refine rY (aU (aPI F)) Tryz.func107 rfl xAa xAc fun w0 S x r hw h => ?_
 have hF : gD (fr Tryz.prog (EM (aJx F)) S w0 Tryz.f107.ntmps) := ⟨aU (aPI F), mix⟩
 obtain ⟨(neg_0 : Bool), (m_1 : qd), (e_2 : Int), u⟩ := x
 simp only [aF3, Ty.wf, fG] at hw
 simp only [bZ, aF3]
 try dsimp only at h
 replace h : aDt F neg_0 m_1 e_2 = some r := h
 unfold aDt at h
 exact zam
attribute [go_sem] yX
def iZ (F : Md) (d_0 : qt) : Option Bool :=
 if (d_0.2.1.length : Int) = (0 : Int) then some ((!d_0.1) && (decide (d_0.2.2.1 = (0 : Int)))) else (aIw F d_0.2.1).bind (fun v_5 => ck ((v_5 = true) → ((0 : Int) < (d_0.2.1.length : Int))) (some (((v_5 && (decide (((d_0.2.1.getD (0 : Nat) (0 : Nat)) &&& (1 : Nat)) = (1 : Nat)))) && (decide ((-1048576 : Int) ≤ d_0.2.2.1))) && (decide (d_0.2.2.1 ≤ (1048576 : Int))))))
def aNk : PlR := ⟨[(0, .B [1]), (1, .A [1, 6]), (2, .A [2]), (3, .A [2])], []⟩
def aPK : Ty := .pair ql .unit
def sJ (F : Md) : aI := mSpec aPK (.one .bool) (fun x => iZ F x.1)
abbrev aPL (F : Md) : List (FuncId × aI) := [(150, (aFY F))]
theorem aUg [Mx] (F : Md) : bH Tryz.prog GL (aPL F) := .cons (aT7 F) xAa (.nil)
attribute [go_sem] aPK aNk
theorem aHD [Mx] (F : Md) : FOK Tryz.prog GL 108 (sJ F) := by
 refine bT (aU (aUg F)) mix Tryz.func108 rfl xAa xAc aNk fun w0 S x Θ hw h hF => ?_
 obtain ⟨(d_0 : qt), u⟩ := x
 simp only [bZ, go_sem]
 replace h : sat (iZ F d_0) _ := h
 unfold iZ at h
 refine fL h (fun hc h => ?_) fun hc h => ?_
 ·exact aK hF [.tmp 2] rfl rfl rfl (aE h) xAd
 ·obtain ⟨v_5, hv, h⟩ := aP h
  exact za2
attribute [go_sem] sJ
def uW (F : Md) (d_0 : qt) : Option Int :=
 (iZ F d_0).bind (fun v_7 => if (¬ (v_7 = true)) ∨ ((d_0.2.1.length : Int) = (0 : Int)) then some (0 : Int) else if d_0.1 = true then some (-1 : Int) else some (1 : Int))
def aKB : PlR := ⟨[(0, .B [1]), (1, .A [1, 3]), (2, .A [2]), (3, .A [13]), (4, .A [2]), (5, .A [2])], []⟩
def aNl : Ty := .pair ql .unit
def vK (F : Md) : aI := mSpec aNl (.one qe) (fun x => uW F x.1)
abbrev aNm (F : Md) : List (FuncId × aI) := [(108, (sJ F))]
theorem aTk [Mx] (F : Md) : bH Tryz.prog GL (aNm F) := .cons (aHD F) xAa (.nil)
attribute [go_sem] aNl aKB
theorem aKC [Mx] (F : Md) : FOK Tryz.prog GL 68 (vK F) := by
 refine bT (aU (aTk F)) mix Tryz.func68 rfl xAa xAc aKB fun w0 S x Θ hw h hF => ?_
 obtain ⟨(d_0 : qt), u⟩ := x
 simp only [bZ, go_sem]
 replace h : sat (uW F d_0) _ := h
 unfold uW at h
 obtain ⟨v_7, hv, h⟩ := aP h
 try simp only [hv, go_sem]
 refine ⟨fun hc => ?_, fun hc => ?_⟩
 ·replace h := jV zAB h
  exact zaF
 ·replace h := jW zAB h
  exact za6
attribute [go_sem] vK
def aD1 (F : Md) (a_0 : qt) (b_1 : qt) : Option Int :=
 (aDl F a_0.2.1).bind (fun v_13 => ck (I64 (v_13 + a_0.2.2.1)) ((aDl F b_1.2.1).bind (fun v_14 => ck (I64 (v_14 + b_1.2.2.1)) (if (v_13 + a_0.2.2.1) < (v_14 + b_1.2.2.1) then some (-1 : Int) else if (v_14 + b_1.2.2.1) < (v_13 + a_0.2.2.1) then some (1 : Int) else ck (I64 (a_0.2.2.1 - (min a_0.2.2.1 b_1.2.2.1))) ((mU F a_0.2.1 (a_0.2.2.1 - (min a_0.2.2.1 b_1.2.2.1))).bind (fun v_30 => ck (I64 (b_1.2.2.1 - (min a_0.2.2.1 b_1.2.2.1))) ((mU F b_1.2.1 (b_1.2.2.1 - (min a_0.2.2.1 b_1.2.2.1))).bind (fun v_31 => (uU F v_30 v_31).bind (fun v_32 => some v_32)))))))))
def aKD : PlR := ⟨[(0, .B [2, 3]), (1, .A [2, 3, 5, 6]), (2, .A [2, 3, 5, 6, 20]), (3, .A [4]), (4, .A [2, 3, 24]), (5, .A [4]), (6, .A [2, 3, 7]), (7, .A [4])], []⟩
def aNn : Ty := .pair ql (.pair ql .unit)
def aCF (F : Md) : aI := mSpec aNn (.one qe) (fun x => aD1 F x.1 x.2.1)
abbrev aD2 (F : Md) : List (FuncId × aI) := [(114, (qZ F)), (139, (yU F)), (151, (aDX F))]
theorem aTl [Mx] (F : Md) : bH Tryz.prog GL (aD2 F) := .cons (aFZ F) xAa (.cons (aNd F) xAa (.cons (aTe F) xAa (.nil)))
attribute [go_sem] aNn aKD
theorem aSb [Mx] (F : Md) : FOK Tryz.prog GL 109 (aCF F) := by
 refine bT (aU (aTl F)) mix Tryz.func109 rfl xAa xAc aKD fun w0 S x Θ hw h hF => ?_
 obtain ⟨(a_0 : qt), (b_1 : qt), u⟩ := x
 simp only [bZ, go_sem]
 replace h : sat (aD1 F a_0 b_1) _ := h
 unfold aD1 at h
 obtain ⟨v_13, hv, h⟩ := aP h
 try simp only [hv, go_sem]
 refine bB h fun g0 h => ?_
 obtain ⟨v_14, hv, h⟩ := aP h
 try simp only [hv, go_sem]
 refine bB h fun g0 h => ?_
 refine fY h (fun hc h => ?_) fun hc h => ?_
 ·exact aK hF [.tmp 4] rfl rfl rfl (aE h) xAd
 ·refine fY h (fun hc h => ?_) fun hc h => ?_
  ·exact aK hF [.tmp 4] rfl rfl rfl (aE h) xAd
  ·refine bB h fun g0 h => ?_
   obtain ⟨v_30, hv, h⟩ := aP h
   try simp only [hv, go_sem]
   refine bB h fun g0 h => ?_
   obtain ⟨v_31, hv, h⟩ := aP h
   try simp only [hv, go_sem]
   obtain ⟨v_32, hv, h⟩ := aP h
   exact zaR
attribute [go_sem] aCF
def aBb (F : Md) (a_0 : qt) (b_1 : qt) : Option Int :=
 (uW F a_0).bind (fun v_13 => (uW F b_1).bind (fun v_14 => (iZ F a_0).bind (fun v_20 => ck (¬ (¬ (v_20 = true)) → ((iZ F b_1).isSome = true)) (if (¬ (v_20 = true)) ∨ (¬ (((iZ F b_1).getD false) = true)) then some (0 : Int) else if (¬ (v_13 = v_14)) ∧ (v_13 < v_14) then some (-1 : Int) else if ¬ (v_13 = v_14) then some (1 : Int) else if v_13 = (0 : Int) then some (0 : Int) else (aD1 F a_0 b_1).bind (fun v_24 => ck (I64 (v_13 * v_24)) (some (v_13 * v_24)))))))
def aNo : PlR := ⟨[(0, .B [2, 3]), (1, .A [2, 3, 5, 6]), (2, .A [2, 3, 5, 6, 11]), (3, .A [4]), (4, .A [2, 3, 5, 6, 20]), (5, .A [4]), (6, .A [2, 3, 5, 29]), (7, .A [4]), (8, .A [2, 3, 5, 33]), (9, .A [4]), (10, .A [4])], []⟩
def aPN : Ty := .pair ql (.pair ql .unit)
def yY (F : Md) : aI := mSpec aPN (.one qe) (fun x => aBb F x.1 x.2.1)
abbrev aF4 (F : Md) : List (FuncId × aI) := [(108, (sJ F)), (109, (aCF F)), (68, (vK F))]
theorem aUh [Mx] (F : Md) : bH Tryz.prog GL (aF4 F) := .cons (aHD F) xAa (.cons (aSb F) xAa (.cons (aKC F) xAa (.nil)))
attribute [go_sem] aPN aNo
theorem aNp [Mx] (F : Md) : FOK Tryz.prog GL 69 (yY F) := by
 refine bT (aU (aUh F)) mix Tryz.func69 rfl xAa xAc aNo fun w0 S x Θ hw h hF => ?_
 obtain ⟨(a_0 : qt), (b_1 : qt), u⟩ := x
 simp only [bZ, go_sem]
 replace h : sat (aBb F a_0 b_1) _ := h
 unfold aBb at h
 obtain ⟨v_13, hv, h⟩ := aP h
 try simp only [hv, go_sem]
 obtain ⟨v_14, hv, h⟩ := aP h
 try simp only [hv, go_sem]
 obtain ⟨v_20, hv, h⟩ := aP h
 try simp only [hv, go_sem]
 obtain ⟨g0, h⟩ := aQ h
 repeat (refine ⟨zAC, ?_⟩)
 refine ⟨fun hc => ?_, fun hc => ?_⟩
 ·replace h := jV zAB h
  exact zaD
 ·replace h := jW zAB h
  refine ⟨fun hc => ?_, fun hc => ?_⟩
  ·replace h := jV hc h
   exact zaD
  ·replace h := jW hc h
   refine fL h (fun hc h => ?_) fun hc h => ?_
   ·exact aK hF [.tmp 4] rfl rfl rfl (aE h) xAd
   ·refine fL h (fun hc h => ?_) fun hc h => ?_
    ·exact aK hF [.tmp 4] rfl rfl rfl (aE h) xAd
    ·obtain ⟨v_24, hv, h⟩ := aP h
     try simp only [hv, go_sem]
     obtain ⟨g0, h⟩ := aQ h
     try simp only [I64, I32] at g0
     repeat (refine ⟨zAA, ?_⟩)
     exact zaD
attribute [go_sem] yY
def zW (F : Md) (n_0 : Int) (e_1 : Int) (m_3 : Nat) : Option (qt × qp) :=
 (aDn F ([m_3] : List Nat)).bind (fun v_6 => (aDt F (decide (n_0 < (0 : Int))) v_6 e_1).bind (fun v_7 => some (v_7.1, v_7.2.1, ())))
def aIx (F : Md) (n_0 : Int) (e_1 : Int) : Option (qt × qp) :=
 if n_0 < (0 : Int) then zW F n_0 e_1 (aT0 F .u64 (n_0 % (18446744073709551616 : Int)).toNat) else zW F n_0 e_1 (n_0 % (18446744073709551616 : Int)).toNat
def aPQ : PlR := ⟨[(0, .B [0, 1, 4]), (1, .A [0, 1, 4, 6]), (2, .A [0, 1, 4, 6, 10]), (3, .A [0, 1, 4, 6]), (4, .B [4, 5])], [(5, 7)]⟩
def aRu : Ty := .pair qe q9
def aF5 (F : Md) : aI := mSpec aRu (.tup (.pair ql q9)) (fun x => aIx F x.1 x.2.1)
abbrev aL7 (F : Md) : List (FuncId × aI) := [(107, (yX F)), (146, (yT F))]
theorem aVY [Mx] (F : Md) : bH Tryz.prog GL (aL7 F) := .cons (aNj F) xAa (.cons (aM9 F) xAa (.nil))
attribute [go_sem] aRu aPQ
theorem aUi [Mx] (F : Md) : FOK Tryz.prog GL 110 (aF5 F) := by
 refine bT (aU (aVY F)) mix Tryz.func110 rfl xAa xAc aPQ fun w0 S x Θ hw h hF => ?_
 obtain ⟨(n_0 : Int), (e_1 : Int), u⟩ := x
 simp only [bZ, go_sem]
 replace h : sat (aIx F n_0 e_1) _ := h
 unfold aIx at h
 refine fD hF (D := Nat) (fun d => sat (zW F n_0 e_1 d) Θ) [0, 1] (fun d => [(4, .ptr 0 []), (6, .val qx d)]) (fun d => [.inr (.box 3 (.val ql (false, ([] : List Nat), (0 : Int), ())))]) ?_ ?_
 ·simp only [go_sem, dR F, dS F, dT F]
  refine fY h (fun hc h => ?_) fun hc h => ?_
  ·exact aY (aT0 F .u64 (n_0 % (18446744073709551616 : Int)).toNat) h rfl xAe
  ·exact aY (n_0 % (18446744073709551616 : Int)).toNat h rfl xAe
 ·rintro m_3 h
  simp only [go_sem, dR F, dS F, dT F]
  replace h : sat (zW F n_0 e_1 m_3) _ := h
  unfold zW at h
  obtain ⟨v_6, hv, h⟩ := aP h
  try simp only [hv, go_sem, dR F, dS F, dT F]
  obtain ⟨v_7, hv, h⟩ := aP h
  try simp only [hv, go_sem, dR F, dS F, dT F]
  exact aK hF [.cell 4 128, .tmp 5] rfl rfl rfl (aE h) xAf
attribute [go_sem] aF5
def zX (F : Md) (a_0 : qt) (b_1 : qt) : Option (qt ⊕ qp) :=
 ck ((lE F a_0.2.1 b_1.2.1).isSome = true) (ck (I64 (a_0.2.2.1 + b_1.2.2.1)) ((aDs F (a_0.1 != b_1.1) ((lE F a_0.2.1 b_1.2.1).getD ([] : List Nat)) (a_0.2.2.1 + b_1.2.2.1)).bind (fun e => match e with | .inl r_7 => some (.inl r_7) | .inr p_8 => some (.inr p_8))))
def rL (F : Md) : gH where
 D := qt × qt × (qt ⊕ qp)
 av := fun d => [.val ql d.1, .val ql d.2.1]
 hp := fun d => []
 m := 0
 pre := fun d => zX F d.1 d.2.1 = some d.2.2
 out := fun d => match d.2.2 with | .inl r => .ret (.val ql r) [] | .inr p => .pan ⟨219, q9, p⟩ []
abbrev aF6 (F : Md) : List (FuncId × aI) := [(104, (iG F))]
theorem aKE [Mx] (F : Md) : bH Tryz.prog GL (aF6 F) := .cons (vI F) xAa (.nil)
theorem aBo [Mx] (F : Md) : GOK Tryz.prog GL 153 (rL F) := by
 refine eO (aU (aKE F)) Tryz.func153 rfl xAa (fun _ => Nat.le_of_ble_eq_true rfl) fun c0 w0 d hw1 hw2 h hn => ?_
 have hF : gD ⟨Tryz.prog, EM (aF6 F), GM (rL F) c0 d, w0, Tryz.f153.ntmps, []⟩ := ⟨aU (aKE F), mix⟩
 obtain ⟨(a_0 : qt), (b_1 : qt), r⟩ := d
 replace h : zX F a_0 b_1 = some r := h
 have hw1 : AV.wfL [.val ql a_0, .val ql b_1] := hw1
 simp only [AV.wfL, AV.wfV, Ty.wf, fG] at hw1
 show Tri _ _ _ [(0, .val ql a_0), (1, .val ql b_1)] []
 unfold zX at h
 refine aB (aR hF [2, 3, 4] (yaA ?_))
 obtain ⟨g0, h⟩ := aM h
 obtain ⟨g1, h⟩ := aM h
 try simp only [I64, I32] at g1
 obtain ⟨e, he1, h⟩ := bind_some h
 rcases e with r_7 | p_8
 ·try dsimp only at h
  refine aA (aB (aFR hF (aG (l := [(149, ⟨uV F, [], ((a_0.1 != b_1.1), ((lE F a_0.2.1 b_1.2.1).getD ([] : List Nat)), (a_0.2.2.1 + b_1.2.2.1), .inl r_7)⟩)]) (.cons (aD0 F) xAa (.nil))) 15 xAc [4] [] (yaB ?_)))
  simp only [aU7, go_sem]
  repeat (refine ⟨zAA, ?_⟩)
  obtain rfl := Option.some.inj h
  refine aA (cA (kK hF [.cell 4 128] [] rfl rfl rfl rfl rfl rfl rfl rfl rfl ?_))
  exact zaB
 ·try dsimp only at h
  refine aA (aB (aFR hF (aG (l := [(149, ⟨uV F, [], ((a_0.1 != b_1.1), ((lE F a_0.2.1 b_1.2.1).getD ([] : List Nat)), (a_0.2.2.1 + b_1.2.2.1), .inr p_8)⟩)]) (.cons (aD0 F) xAa (.nil))) 15 xAc [4] [] (yaB ?_)))
  simp only [aU7, go_sem]
  repeat (refine ⟨zAA, ?_⟩)
  exact zaN
attribute [go_sem] rL
def oE (F : Md) (a0_0 : qt) (a1_1 : qt) (a2_2 : Unit) : Option (qt ⊕ qp) :=
 ck ((iZ F a0_0).isSome = true) (if ((iZ F a0_0).getD false) = true then ck ((iZ F a1_1).isSome = true) ((rA F (((iZ F a0_0).getD false) && ((iZ F a1_1).getD false)) (1 : Int)).bind (fun e => match e with | .inl r_12 => (zX F a0_0 a1_1).bind (fun e => match e with | .inl r_20 => some (.inl r_20) | .inr p_21 => some (.inr p_21)) | .inr p_13 => some (.inr p_13))) else (rA F false (1 : Int)).bind (fun e => match e with | .inl r_14 => (zX F a0_0 a1_1).bind (fun e => match e with | .inl r_26 => some (.inl r_26) | .inr p_27 => some (.inr p_27)) | .inr p_15 => some (.inr p_15)))
def kL (F : Md) : gH where
 D := qt × qt × Unit × (qt ⊕ qp)
 av := fun d => [.val (.rp ql) d.1, .val (.rp ql) d.2.1, .val (.rp (.clo 153 .unit)) d.2.2.1]
 hp := fun d => []
 m := 0
 pre := fun d => oE F d.1 d.2.1 d.2.2.1 = some d.2.2.2
 out := fun d => match d.2.2.2 with | .inl r => .ret (.val ql r) [] | .inr p => .pan ⟨219, q9, p⟩ []
abbrev rZ (F : Md) : List (FuncId × aI) := [(108, (sJ F))]
theorem yZ [Mx] (F : Md) : bH Tryz.prog GL (rZ F) := .cons (aHD F) xAa (.nil)
theorem wX [Mx] (F : Md) : GOK Tryz.prog GL 179 (kL F) := by
 refine eO (aU (yZ F)) Tryz.func179 rfl xAa (fun _ => Nat.le_of_ble_eq_true rfl) fun c0 w0 d hw1 hw2 h hn => ?_
 have hF : gD ⟨Tryz.prog, EM (rZ F), GM (kL F) c0 d, w0, Tryz.f179.ntmps, []⟩ := ⟨aU (yZ F), mix⟩
 obtain ⟨(a0_0 : qt), (a1_1 : qt), (a2_2 : Unit), r⟩ := d
 replace h : oE F a0_0 a1_1 a2_2 = some r := h
 have hw1 : AV.wfL [.val (.rp ql) a0_0, .val (.rp ql) a1_1, .val (.rp (.clo 153 .unit)) a2_2] := hw1
 simp only [AV.wfL, AV.wfV, Ty.wf, fG] at hw1
 show Tri _ _ _ [(0, .roa ql a0_0), (1, .roa ql a1_1), (2, .roa (.clo 153 .unit) a2_2)] []
 unfold oE at h
 refine aB (aR hF [0, 1, 2, 3] (yaA ?_))
 obtain ⟨g0, h⟩ := aM h
 by_cases hq : ((iZ F a0_0).getD false) = true
 ·have h := dP hq h
  obtain ⟨g1, h⟩ := aM h
  obtain ⟨e, he1, h⟩ := bind_some h
  rcases e with r_12 | p_13
  ·try dsimp only at h
   refine aA (aB (aC hF (aG (l := [(178, ⟨gR F, [], ((((iZ F a0_0).getD false) && ((iZ F a1_1).getD false)), (1 : Int), .inl r_12)⟩)]) (.cons (kP F) xAa (.nil))) [0, 1, 2, 3] [] (yaB ?_)))
   refine ⟨fun _ => (yaD ?_), fun hx => by first | (exfalso; omega) | (exfalso; simp_all; done)⟩
   refine ⟨fun _ => (yaD ?_), fun hx => by first | (exfalso; omega) | (exfalso; simp_all; done)⟩
   obtain ⟨e, he2, h⟩ := bind_some h
   rcases e with r_20 | p_21
   ·try dsimp only at h
    refine aA (aB (aC hF (aG (l := [(153, ⟨rL F, [], (a0_0, a1_1, .inl r_20)⟩)]) (.cons (aBo F) xAa (.nil))) [3] [] (yaB ?_)))
    exact zaz
   ·try dsimp only at h
    refine aA (aB (aC hF (aG (l := [(153, ⟨rL F, [], (a0_0, a1_1, .inr p_21)⟩)]) (.cons (aBo F) xAa (.nil))) [3] [] (yaB ?_)))
    exact zaN
  ·try dsimp only at h
   refine aA (aB (aC hF (aG (l := [(178, ⟨gR F, [], ((((iZ F a0_0).getD false) && ((iZ F a1_1).getD false)), (1 : Int), .inr p_13)⟩)]) (.cons (kP F) xAa (.nil))) [0, 1, 2, 3] [] (yaB ?_)))
   exact za4
 ·have h := dQ hq h
  obtain ⟨e, he3, h⟩ := bind_some h
  rcases e with r_14 | p_15
  ·try dsimp only at h
   refine aA (aB (aC hF (aG (l := [(178, ⟨gR F, [], (false, (1 : Int), .inl r_14)⟩)]) (.cons (kP F) xAa (.nil))) [0, 1, 2, 3] [] (yaB ?_)))
   first | (refine ⟨fun hx => by first | (exfalso; omega) | (exfalso; simp_all; done), fun _ => ?_⟩) | (with_reducible intro _) | skip
   repeat (refine ⟨zAA, ?_⟩)
   first | (refine ⟨fun hx => by first | (exfalso; omega) | (exfalso; simp_all; done), fun _ => ?_⟩) | (with_reducible intro _) | skip
   repeat (refine ⟨zAA, ?_⟩)
   obtain ⟨e, he4, h⟩ := bind_some h
   rcases e with r_26 | p_27
   ·try dsimp only at h
    refine aA (aB (aC hF (aG (l := [(153, ⟨rL F, [], (a0_0, a1_1, .inl r_26)⟩)]) (.cons (aBo F) xAa (.nil))) [3] [] (yaB ?_)))
    exact zaz
   ·try dsimp only at h
    refine aA (aB (aC hF (aG (l := [(153, ⟨rL F, [], (a0_0, a1_1, .inr p_27)⟩)]) (.cons (aBo F) xAa (.nil))) [3] [] (yaB ?_)))
    exact zaN
  ·try dsimp only at h
   refine aA (aB (aC hF (aG (l := [(178, ⟨gR F, [], (false, (1 : Int), .inr p_15)⟩)]) (.cons (kP F) xAa (.nil))) [0, 1, 2, 3] [] (yaB ?_)))
   exact zan
attribute [go_sem] kL
def eC (F : Md) (c0 : qt) (c1 : qt) (c2 : Unit) : Option (qt × Int × Unit) :=
 (oE F c0 c1 c2).bind fun q => some (match q with | .inl r => (r, 0, ()) | .inr p => ((false, ([] : List Nat), (0 : Int), ()), p.1, ()))
def pW : Ty := .pair (.clo 179 (.pair (.rp ql) (.pair (.rp ql) (.pair (.rp (.clo 153 .unit)) .unit)))) .unit
def gL (F : Md) : aI := mSpec pW (.tup (.pair ql q9)) (fun x => eC F x.1.1 x.1.2.1 x.1.2.2.1)
theorem wY [Mx] (F : Md) : FOK Tryz.prog GL 147 (gL F) := by
 refine aFS (aU aAS) Tryz.func147 rfl xAa xAc fun w0 S x r hw h => ?_
 have hF : gD (fr Tryz.prog (EM []) S w0 Tryz.f147.ntmps) := ⟨aU aAS, mix⟩
 obtain ⟨⟨(c0 : qt), (c1 : qt), (c2 : Unit), u1⟩, u⟩ := x
 replace h : eC F c0 c1 c2 = some r := h
 show Tri _ _ _ [(0, .val (.clo 179 (.pair (.rp ql) (.pair (.rp ql) (.pair (.rp (.clo 153 .unit)) .unit)))) (c0, c1, c2, u1))] []
 unfold eC at h
 obtain ⟨q, hq, h⟩ := bind_some h
 obtain rfl := Option.some.inj h
 refine aB (aR hF [0, 2, 3] (yaA ?_))
 refine aA (aBh 2 [0, 1] rfl rfl (Nat.zero_le _) xAc fun roots hroots => ?_)
 have hF' : gD { fr Tryz.prog (EM []) S w0 Tryz.f147.ntmps with M := ⟨nothing, S, 2, roots⟩, ds := [⟨.fn (.func 176) ([0, 1].map roots).toArray, #[]⟩] } := ⟨aU aAS, mix⟩
 rcases q with q | q
 ·refine aB (aC hF' (aG (l := [(179, ⟨kL F, [], (c0, c1, c2, .inl q)⟩)]) (.cons (wX F) xAa .nil)) [2, 3] [] (yaA ?_))
  exact zap
 ·refine aB (aC hF' (aG (l := [(179, ⟨kL F, [], (c0, c1, c2, .inr q)⟩)]) (.cons (wX F) xAa .nil)) [2, 3] [] (yaA ?_))
  exact zal
attribute [go_sem] gL pW
def qF (F : Md) (a_0 : qt) (b_1 : qt) (do_2 : Unit) : Option (qt × qp) :=
 ck ((eC F a_0 b_1 do_2).isSome = true) (some (((eC F a_0 b_1 do_2).getD ((false, ([] : List Nat), (0 : Int), ()), (0 : Int), ())).1, ((eC F a_0 b_1 do_2).getD ((false, ([] : List Nat), (0 : Int), ()), (0 : Int), ())).2.1, ()))
@[go_sem]def qG : Ty := .pair ql (.pair ql (.pair (.clo 153 .unit) .unit))
def oV (F : Md) : aI := mSpec qG (.tup (.pair ql q9)) (fun x => qF F x.1 x.2.1 x.2.2.1)
abbrev tY (F : Md) : List (FuncId × aI) := [(147, (gL F))]
theorem aAT [Mx] (F : Md) : bH Tryz.prog GL (tY F) := .cons (wY F) xAa (.nil)
theorem aF7 [Mx] (F : Md) : FOK Tryz.prog GL 152 (oV F) := by
 refine rY (aU (aAT F)) Tryz.func152 rfl xAa xAc fun w0 S x r hw h => ?_
 have hF : gD (fr Tryz.prog (EM (tY F)) S w0 Tryz.f152.ntmps) := ⟨aU (aAT F), mix⟩
 obtain ⟨(a_0 : qt), (b_1 : qt), (do_2 : Unit), u⟩ := x
 simp only [qG, Ty.wf, fG] at hw
 simp only [bZ, qG]
 try dsimp only at h
 replace h : qF F a_0 b_1 do_2 = some r := h
 unfold qF at h
 exact zam
attribute [go_sem] oV
def aF8 (F : Md) (a_0 : qt) (b_1 : qt) : Option (qt × qp) :=
 (qF F a_0 b_1 ()).bind (fun v_6 => some (v_6.1, v_6.2.1, ()))
def aNq : PlR := ⟨[(0, .B [2, 3, 4]), (1, .B [4, 5])], []⟩
def aPR : Ty := .pair ql (.pair ql .unit)
def aD3 (F : Md) : aI := mSpec aPR (.tup (.pair ql q9)) (fun x => aF8 F x.1 x.2.1)
abbrev aPS (F : Md) : List (FuncId × aI) := [(152, (oV F))]
theorem aUj [Mx] (F : Md) : bH Tryz.prog GL (aPS F) := .cons (aF7 F) xAa (.nil)
attribute [go_sem] aPR aNq
theorem aTm [Mx] (F : Md) : FOK Tryz.prog GL 111 (aD3 F) := by
 refine bT (aU (aUj F)) mix Tryz.func111 rfl xAa xAc aNq fun w0 S x Θ hw h hF => ?_
 obtain ⟨(a_0 : qt), (b_1 : qt), u⟩ := x
 simp only [bZ, go_sem]
 replace h : sat (aF8 F a_0 b_1) _ := h
 unfold aF8 at h
 obtain ⟨v_6, hv, h⟩ := aP h
 try simp only [hv, go_sem]
 exact aK hF [.cell 4 128, .tmp 5] rfl rfl rfl (aE h) xAd
attribute [go_sem] aD3
end
end Nu
end Go.Proofs
namespace Go.Proofs
open Go.Vc
set_option maxRecDepth 20000
namespace Nu
noncomputable section
set_option maxHeartbeats 4000000
def sQ : ByteArray := ⟨⟨97 :: 98 :: 99 :: 100 :: 101 :: 102 :: 103 :: 104 :: 105 :: 106 :: 107 :: 108 :: 109 :: 110 :: 111 :: 112 :: 113 :: 114 :: 115 :: 116 :: 117 :: 118 :: 119 :: 120 :: 121 :: 122 :: 48 :: 49 :: 50 :: 51 :: 52 :: 53 :: 54 :: 55 :: 56 :: 57 :: 95 :: []⟩⟩
@[go_sem]theorem aQD : (⟨⟨97 :: 98 :: 99 :: 100 :: 101 :: 102 :: 103 :: 104 :: 105 :: 106 :: 107 :: 108 :: 109 :: 110 :: 111 :: 112 :: 113 :: 114 :: 115 :: 116 :: 117 :: 118 :: 119 :: 120 :: 121 :: 122 :: 48 :: 49 :: 50 :: 51 :: 52 :: 53 :: 54 :: 55 :: 56 :: 57 :: 95 :: []⟩⟩ : ByteArray) = sQ := rfl
def pX (F : Md) (c_1 : Nat) (s_5 : qd) : Option (qd ⊕ qd) :=
 ck (((0 : Int) < (s_5.length : Int)) → (I64 ((s_5.length : Int) - (1 : Int)))) (ck (((0 : Int) < (s_5.length : Int)) → (0 ≤ ((s_5.length : Int) - (1 : Int)) ∧ ((s_5.length : Int) - (1 : Int)) < (s_5.length : Int))) (if ((0 : Int) < (s_5.length : Int)) ∧ ((s_5.getD ((s_5.length : Int) - (1 : Int)).toNat (0 : Nat)) = c_1) then ck (I64 ((s_5.length : Int) - (1 : Int))) (ck (0 ≤ ((s_5.length : Int) - (1 : Int)) ∧ ((s_5.length : Int) - (1 : Int)) ≤ (s_5.length : Int)) (some (.inl (List.take ((s_5.length : Int) - (1 : Int)).toNat s_5)))) else some (.inr s_5)))
def lF (F : Md) (s_0 : qd) (c_1 : Nat) : Option qd :=
 (eJ F (fun d : qd => pX F c_1 d) s_0).bind (fun e => some e)
def wZ : PlR := ⟨[(0, .A [0, 1]), (1, .A [0, 1, 16]), (2, .A [0, 1]), (3, .A [4])], []⟩
def zA : Ty := .pair .str wl
def gZ (F : Md) : aI := mSpec zA (.one .str) (fun x => lF F x.1 x.2.1)
abbrev aE3 (F : Md) : List (FuncId × aI) := []
theorem aE4 [Mx] (F : Md) : bH Tryz.prog GL (aE3 F) := .nil
attribute [go_sem] zA wZ
theorem xA [Mx] (F : Md) : FOK Tryz.prog GL 45 (gZ F) := by
 refine bT (aU (aE4 F)) mix Tryz.func45 rfl xAa xAc wZ fun w0 S x Θ hw h hF => ?_
 obtain ⟨(s_0 : qd), (c_1 : Nat), u⟩ := x
 simp only [bZ, go_sem]
 replace h : sat (lF F s_0 c_1) _ := h
 unfold lF at h
 refine cL hF (D := qd) [1] (fun d => [(0, .val .str d)]) (fun d => []) h rfl xAb ?_
 rintro s_5 A1 T1 hA1 hE1 h
 simp only [go_sem]
 replace h : sat (pX F c_1 s_5) _ := h
 unfold pX at h
 refine bB h fun g0 h => bB h fun g1 h => ?_
 refine ⟨fun hc => ?_, fun hc => ?_⟩
 ·replace h := jV hc h
  refine bB h fun g0 h => bB h fun g1 h => ?_
  replace h := hA1 _ (aE h)
  exact zaK
 ·replace h := jW hc h
  replace h := yaF (hE1 _ (aE h))
  exact zaD
attribute [go_sem] gZ
def qO (F : Md) (c_1 : Nat) (s_5 : qd) : Option (qd ⊕ qd) :=
 ck (((0 : Int) < (s_5.length : Int)) → ((0 : Int) < (s_5.length : Int))) (if ((0 : Int) < (s_5.length : Int)) ∧ ((s_5.getD (0 : Nat) (0 : Nat)) = c_1) then ck ((1 : Int) ≤ (s_5.length : Int)) (some (.inl (List.drop (1 : Nat) s_5))) else some (.inr s_5))
def lV (F : Md) (s_0 : qd) (c_1 : Nat) : Option qd :=
 (eJ F (fun d : qd => qO F c_1 d) s_0).bind (fun e => some e)
def zB : PlR := ⟨[(0, .A [0, 1]), (1, .A [0, 1, 13]), (2, .A [0, 1]), (3, .A [4])], []⟩
def zY : Ty := .pair .str wl
def iT (F : Md) : aI := mSpec zY (.one .str) (fun x => lV F x.1 x.2.1)
abbrev aF9 (F : Md) : List (FuncId × aI) := []
theorem aGa [Mx] (F : Md) : bH Tryz.prog GL (aF9 F) := .nil
attribute [go_sem] zY zB
theorem zC [Mx] (F : Md) : FOK Tryz.prog GL 93 (iT F) := by
 refine bT (aU (aGa F)) mix Tryz.func93 rfl xAa xAc zB fun w0 S x Θ hw h hF => ?_
 obtain ⟨(s_0 : qd), (c_1 : Nat), u⟩ := x
 simp only [bZ, go_sem]
 replace h : sat (lV F s_0 c_1) _ := h
 unfold lV at h
 refine cL hF (D := qd) [1] (fun d => [(0, .val .str d)]) (fun d => []) h rfl xAb ?_
 rintro s_5 A1 T1 hA1 hE1 h
 simp only [go_sem]
 replace h : sat (qO F c_1 s_5) _ := h
 unfold qO at h
 refine bB h fun g0 h => ?_
 refine ⟨fun hc => ?_, fun hc => ?_⟩
 ·replace h := jV hc h
  refine bB h fun g0 h => ?_
  replace h := hA1 _ (aE h)
  exact zaK
 ·replace h := jW hc h
  replace h := yaF (hE1 _ (aE h))
  exact zaD
attribute [go_sem] iT
def iH (F : Md) (as_0 : wq) (c_1 : Nat) : Option Bool :=
 ck (0 ≤ ((c_1 : Nat) : Int) ∧ ((c_1 : Nat) : Int) < (256 : Int)) (some (as_0.getD c_1 false))
def tJ : PlR := ⟨[(0, .A [0, 1]), (1, .A [4])], []⟩
def uC : Ty := .pair (.rp (.arr 256 .bool)) wl
def fO (F : Md) : aI := mSpec uC (.one .bool) (fun x => iH F x.1 x.2.1)
abbrev aCH (F : Md) : List (FuncId × aI) := []
theorem aCI [Mx] (F : Md) : bH Tryz.prog GL (aCH F) := .nil
attribute [go_sem] uC tJ
theorem tK [Mx] (F : Md) : FOK Tryz.prog GL 90 (fO F) := by
 refine bT (aU (aCI F)) mix Tryz.func90 rfl xAa xAc tJ fun w0 S x Θ hw h hF => ?_
 obtain ⟨(as_0 : wq), (c_1 : Nat), u⟩ := x
 simp only [bZ, go_sem]
 replace h : sat (iH F as_0 c_1) _ := h
 unfold iH at h
 refine bB h fun g0 h => ?_
 exact zaD
attribute [go_sem] fO
def qP (F : Md) (chars_0 : qd) (i_6 : Int) (as_7 : wq) : Option ((Int × wq) ⊕ (wq ⊕ (wq × wn))) :=
 if i_6 < (chars_0.length : Int) then ck (0 ≤ i_6 ∧ i_6 < (chars_0.length : Int)) (if (128 : Nat) ≤ (chars_0.getD (i_6.toNat) (0 : Nat)) then some (.inr (.inr (as_7, false, ()))) else ck (0 ≤ (((chars_0.getD (i_6.toNat) (0 : Nat)) : Nat) : Int) ∧ (((chars_0.getD (i_6.toNat) (0 : Nat)) : Nat) : Int) < (256 : Int)) (ck (I64 (i_6 + (1 : Int))) (some (.inl ((i_6 + (1 : Int)), (as_7.set (chars_0.getD (i_6.toNat) (0 : Nat)) true)))))) else some (.inr (.inl as_7))
def jR (F : Md) (chars_0 : qd) : Option (wq × wn) :=
 (eJ F (fun d : Int × wq => qP F chars_0 d.1 d.2) ((0 : Int), (List.replicate 256 false))).bind (fun e => match e with | (.inl e) => some (e, true, ()) | (.inr e) => some e)
def zD : PlR := ⟨[(0, .B [0, 2]), (1, .A [0, 2, 4]), (2, .A [0, 2, 4, 9]), (3, .A [0, 2, 4]), (4, .A [0, 2, 4, 5]), (5, .A [0, 2, 4, 5, 16]), (6, .B [2, 3]), (7, .B [0, 2, 4]), (8, .B [2, 3])], []⟩
def zZ : Ty := .pair .str .unit
def fE (F : Md) : aI := mSpec zZ (.tup (.pair (.arr 256 .bool) wu)) (fun x => jR F x.1)
abbrev aGb (F : Md) : List (FuncId × aI) := []
theorem aGc [Mx] (F : Md) : bH Tryz.prog GL (aGb F) := .nil
attribute [go_sem] zZ zD
theorem sA [Mx] (F : Md) : FOK Tryz.prog GL 46 (fE F) := by
 refine bT (aU (aGc F)) mix Tryz.func46 rfl xAa xAc zD fun w0 S x Θ hw h hF => ?_
 obtain ⟨(chars_0 : qd), u⟩ := x
 simp only [bZ, go_sem]
 replace h : sat (jR F chars_0) _ := h
 unfold jR at h
 refine cL hF (D := Int × wq) [0] (fun d => [(2, .ptr 0 []), (4, .val qe d.1)]) (fun d => [.inr (.box 256 (.val (.arr 256 .bool) d.2))]) h rfl xAb ?_
 rintro ⟨i_6, as_7⟩ A2 T2 hA2 hE2 h
 simp only [go_sem]
 replace h : sat (qP F chars_0 i_6 as_7) _ := h
 unfold qP at h
 refine fY h (fun hc h => ?_) fun hc h => ?_
 ·obtain ⟨g0, h⟩ := aQ h
  repeat (refine ⟨by omega, ?_⟩)
  refine fL h (fun hc h => ?_) fun hc h => ?_
  ·replace h := yaF (hE2 _ (aE h))
   exact aK hF [.cell 2 102, .tmp 3] rfl rfl rfl (aE h) xAd
  ·obtain ⟨g0, h⟩ := aQ h
   repeat (refine ⟨by omega, ?_⟩)
   obtain ⟨g0, h⟩ := aQ h
   repeat (refine ⟨by omega, ?_⟩)
   replace h := hA2 _ (aE h)
   exact zaK
 ·replace h := yaF (hE2 _ (aE h))
  exact aK hF [.cell 2 102, .tmp 3] rfl rfl rfl (aE h) xAd
attribute [go_sem] fE
def oW (F : Md) (as_1 : wq) (s_11 : qd) : Option (qd ⊕ qd) :=
 if (0 : Int) < (s_11.length : Int) then ck (I64 ((s_11.length : Int) - (1 : Int))) (ck (0 ≤ ((s_11.length : Int) - (1 : Int)) ∧ ((s_11.length : Int) - (1 : Int)) < (s_11.length : Int)) ((iH F as_1 (s_11.getD ((s_11.length : Int) - (1 : Int)).toNat (0 : Nat))).bind (fun v_21 => if ¬ (v_21 = true) then some (.inr s_11) else ck (I64 ((s_11.length : Int) - (1 : Int))) (ck (0 ≤ ((s_11.length : Int) - (1 : Int)) ∧ ((s_11.length : Int) - (1 : Int)) ≤ (s_11.length : Int)) (some (.inl (List.take ((s_11.length : Int) - (1 : Int)).toNat s_11))))))) else some (.inr s_11)
def kM (F : Md) (s_0 : qd) (as_1 : wq) : Option qd :=
 (eJ F (fun d : qd => oW F as_1 d) s_0).bind (fun e => some e)
def wE : PlR := ⟨[(0, .A [0, 1]), (1, .A [0, 1, 7]), (2, .A [0, 1, 15]), (3, .A [0, 1]), (4, .A [4])], []⟩
def xB : Ty := .pair .str (.pair (.rp (.arr 256 .bool)) .unit)
def gN (F : Md) : aI := mSpec xB (.one .str) (fun x => kM F x.1 x.2.1)
abbrev xC (F : Md) : List (FuncId × aI) := [(90, (fO F))]
theorem aEC [Mx] (F : Md) : bH Tryz.prog GL (xC F) := .cons (tK F) xAa (.nil)
attribute [go_sem] xB wE
theorem wF [Mx] (F : Md) : FOK Tryz.prog GL 47 (gN F) := by
 refine bT (aU (aEC F)) mix Tryz.func47 rfl xAa xAc wE fun w0 S x Θ hw h hF => ?_
 obtain ⟨(s_0 : qd), (as_1 : wq), u⟩ := x
 simp only [bZ, go_sem]
 replace h : sat (kM F s_0 as_1) _ := h
 unfold kM at h
 refine cL hF (D := qd) [1] (fun d => [(0, .val .str d)]) (fun d => []) h rfl xAb ?_
 rintro s_11 A1 T1 hA1 hE1 h
 simp only [go_sem]
 replace h : sat (oW F as_1 s_11) _ := h
 unfold oW at h
 refine fY h (fun hc h => ?_) fun hc h => ?_
 ·refine bB h fun g0 h => bB h fun g1 h => ?_
  obtain ⟨v_21, hv, h⟩ := aP h
  try simp only [hv, go_sem]
  refine aEx h (fun hc h => ?_) fun hc h => ?_
  ·replace h := yaF (hE1 _ (aE h))
   exact zaD
  ·refine bB h fun g0 h => bB h fun g1 h => ?_
   replace h := hA1 _ (aE h)
   exact zaK
 ·replace h := yaF (hE1 _ (aE h))
  exact zaD
attribute [go_sem] gN
def pY (F : Md) (as_1 : wq) (s_11 : qd) : Option (qd ⊕ qd) :=
 if (0 : Int) < (s_11.length : Int) then ck ((0 : Int) < (s_11.length : Int)) ((iH F as_1 (s_11.getD (0 : Nat) (0 : Nat))).bind (fun v_21 => if ¬ (v_21 = true) then some (.inr s_11) else ck ((1 : Int) ≤ (s_11.length : Int)) (some (.inl (List.drop (1 : Nat) s_11))))) else some (.inr s_11)
def lG (F : Md) (s_0 : qd) (as_1 : wq) : Option qd :=
 (eJ F (fun d : qd => pY F as_1 d) s_0).bind (fun e => some e)
def xD : PlR := ⟨[(0, .A [0, 1]), (1, .A [0, 1, 7]), (2, .A [0, 1, 12]), (3, .A [0, 1]), (4, .A [4])], []⟩
def zE : Ty := .pair .str (.pair (.rp (.arr 256 .bool)) .unit)
def hN (F : Md) : aI := mSpec zE (.one .str) (fun x => lG F x.1 x.2.1)
abbrev zF (F : Md) : List (FuncId × aI) := [(90, (fO F))]
theorem aE5 [Mx] (F : Md) : bH Tryz.prog GL (zF F) := .cons (tK F) xAa (.nil)
attribute [go_sem] zE xD
theorem xE [Mx] (F : Md) : FOK Tryz.prog GL 94 (hN F) := by
 refine bT (aU (aE5 F)) mix Tryz.func94 rfl xAa xAc xD fun w0 S x Θ hw h hF => ?_
 obtain ⟨(s_0 : qd), (as_1 : wq), u⟩ := x
 simp only [bZ, go_sem]
 replace h : sat (lG F s_0 as_1) _ := h
 unfold lG at h
 refine cL hF (D := qd) [1] (fun d => [(0, .val .str d)]) (fun d => []) h rfl xAb ?_
 rintro s_11 A1 T1 hA1 hE1 h
 simp only [go_sem]
 replace h : sat (pY F as_1 s_11) _ := h
 unfold pY at h
 refine fY h (fun hc h => ?_) fun hc h => ?_
 ·refine bB h fun g0 h => ?_
  obtain ⟨v_21, hv, h⟩ := aP h
  try simp only [hv, go_sem]
  refine aEx h (fun hc h => ?_) fun hc h => ?_
  ·replace h := yaF (hE1 _ (aE h))
   exact zaD
  ·refine bB h fun g0 h => ?_
   replace h := hA1 _ (aE h)
   exact zaK
 ·replace h := yaF (hE1 _ (aE h))
  exact zaD
attribute [go_sem] hN
def nL (F : Md) (s_0 : qd) (cutset_1 : qd) : Option qd :=
 if (s_0 = (aS ⟨#[]⟩)) ∨ (cutset_1 = (aS ⟨#[]⟩)) then some s_0 else ck (((cutset_1.length : Int) = (1 : Int)) → ((0 : Int) < (cutset_1.length : Int))) (if ((cutset_1.length : Int) = (1 : Int)) ∧ ((cutset_1.getD (0 : Nat) (0 : Nat)) < (128 : Nat)) then ck ((0 : Int) < (cutset_1.length : Int)) ((lF F s_0 (cutset_1.getD (0 : Nat) (0 : Nat))).bind (fun v_19 => ck ((0 : Int) < (cutset_1.length : Int)) ((lV F v_19 (cutset_1.getD (0 : Nat) (0 : Nat))).bind (fun v_20 => some v_20)))) else (jR F cutset_1).bind (fun v_27 => if v_27.2.1 = true then (kM F s_0 v_27.1).bind (fun v_34 => (lG F v_34 v_27.1).bind (fun v_35 => some v_35)) else none))
def aGz : PlR := ⟨[(0, .A [0, 1]), (1, .A [0, 1, 12]), (2, .A [4]), (3, .A [0, 1, 21]), (4, .A [4]), (5, .B [0, 1, 5, 6]), (6, .A [0, 1, 5, 34]), (7, .A [4]), (8, .stop)], []⟩
def aHE : Ty := .pair .str wg
def qS (F : Md) : aI := mSpec aHE (.one .str) (fun x => nL F x.1 x.2.1)
abbrev sB (F : Md) : List (FuncId × aI) := [(45, (gZ F)), (46, (fE F)), (47, (gN F)), (93, (iT F)), (94, (hN F))]
theorem aPU [Mx] (F : Md) : bH Tryz.prog GL (sB F) := .cons (xA F) xAa (.cons (sA F) xAa (.cons (wF F) xAa (.cons (zC F) xAa (.cons (xE F) xAa (.nil)))))
attribute [go_sem] aHE aGz
theorem aGA [Mx] (F : Md) : FOK Tryz.prog GL 96 (qS F) := by
 refine bT (aU (aPU F)) mix Tryz.func96 rfl xAa xAc aGz fun w0 S x Θ hw h hF => ?_
 obtain ⟨(s_0 : qd), (cutset_1 : qd), u⟩ := x
 simp only [bZ, go_sem]
 replace h : sat (nL F s_0 cutset_1) _ := h
 unfold nL at h
 refine ⟨fun hc => ?_, fun hc => ?_⟩
 ·replace h := jV hc h
  exact zaD
 ·replace h := jW hc h
  refine bB h fun g0 h => ?_
  refine ⟨fun hc => ?_, fun hc => ?_⟩
  ·replace h := jV hc h
   refine bB h fun g0 h => ?_
   obtain ⟨v_19, hv, h⟩ := aP h
   try simp only [hv, go_sem]
   refine bB h fun g0 h => ?_
   obtain ⟨v_20, hv, h⟩ := aP h
   exact zaR
  ·replace h := jW hc h
   obtain ⟨v_27, hv, h⟩ := aP h
   try simp only [hv, go_sem]
   refine aHy h (fun hc h => ?_) fun hc h => ?_
   ·obtain ⟨v_34, hv, h⟩ := aP h
    try simp only [hv, go_sem]
    obtain ⟨v_35, hv, h⟩ := aP h
    exact zaR
   ·exact aBH h
attribute [go_sem] qS
def pP (F : Md) : Option qw :=
 some ([(aS ⟨#[116]⟩), (aS ⟨#[115, 113, 114]⟩), (aS ⟨#[115, 113, 114, 116]⟩), (aS ⟨#[101, 120, 112]⟩), (aS ⟨#[112, 114, 101, 99]⟩), (aS ⟨#[101, 110, 100]⟩), (aS ⟨#[115, 116, 101, 112]⟩), (aS ⟨#[116, 111, 108]⟩), (aS ⟨#[116, 114, 105, 101, 115]⟩), (aS ⟨#[111, 114, 100, 101, 114]⟩), (aS ⟨#[106, 97, 99, 111, 98, 105]⟩), (aS ⟨#[115, 101, 105, 100, 101, 108]⟩), (aS ⟨#[115, 117, 98]⟩), (aS ⟨#[115, 116, 97, 116, 101]⟩), (aS ⟨#[112, 97, 114]⟩), (aS ⟨#[105, 110]⟩), (aS ⟨#[111, 117, 116]⟩), (aS ⟨#[100, 101, 114]⟩), (aS ⟨#[108, 105, 110, 107]⟩)] : List qd)
def aD4 : PlR := ⟨[(0, .A []), (1, .A [0])], []⟩
def aE6 : Ty := .unit
def uD (F : Md) : aI := mSpec aE6 (.one wh) (fun x => pP F )
abbrev aL9 (F : Md) : List (FuncId × aI) := []
theorem aMa [Mx] (F : Md) : bH Tryz.prog GL (aL9 F) := .nil
attribute [go_sem] aE6 aD4
theorem aKK [Mx] (F : Md) : FOK Tryz.prog GL 118 (uD F) := by
 refine bT (aU (aMa F)) mix Tryz.func118 rfl xAa xAc aD4 fun w0 S x Θ hw h hF => ?_
 simp only [bZ, go_sem]
 replace h : sat (pP F) _ := h
 unfold pP at h
 exact aK hF [.tmp 0] rfl rfl rfl (aE h) (by (simp only [aT, go_sem]) <;> first | rfl | (simp; done))
attribute [go_sem] uD
def rM (F : Md) (s_0 : qw) (v_1 : qd) (x8_5 : Int) : Option ((Int) ⊕ ((Unit) ⊕ Int)) :=
 if x8_5 < (s_0.length : Int) then ck (0 ≤ x8_5 ∧ x8_5 < (s_0.length : Int)) (if v_1 = (s_0.getD (x8_5.toNat) ([] : List Nat)) then some (.inr (.inr x8_5)) else ck (I64 (x8_5 + (1 : Int))) (some (.inl (x8_5 + (1 : Int))))) else some (.inr (.inl ()))
def qH (F : Md) (s_0 : qw) (v_1 : qd) : Option Int :=
 (eJ F (fun d : Int => rM F s_0 v_1 d) (0 : Int)).bind (fun e => match e with | (.inl e) => some (-1 : Int) | (.inr e) => some e)
def aAa : PlR := ⟨[(0, .A [0, 1]), (1, .A [0, 1, 7, 8]), (2, .A [0, 1, 7, 8, 9]), (3, .A [0, 1, 5, 7, 8]), (4, .A [0, 1, 5, 7, 8, 16]), (5, .A [4]), (6, .A [0, 1, 7, 8]), (7, .A [4])], []⟩
def aAU : Ty := .pair wh wg
def oX (F : Md) : aI := mSpec aAU (.one qe) (fun x => qH F x.1 x.2.1)
abbrev aGY (F : Md) : List (FuncId × aI) := []
theorem aGZ [Mx] (F : Md) : bH Tryz.prog GL (aGY F) := .nil
attribute [go_sem] aAU aAa
theorem aGd [Mx] (F : Md) : FOK Tryz.prog GL 160 (oX F) := by
 refine bT (aU (aGZ F)) mix Tryz.func160 rfl xAa xAc aAa fun w0 S x Θ hw h hF => ?_
 obtain ⟨(s_0 : qw), (v_1 : qd), u⟩ := x
 simp only [bZ, go_sem]
 replace h : sat (qH F s_0 v_1) _ := h
 unfold qH at h
 refine cL hF (D := Int) [0, 1, 7] (fun d => [(8, .val qe d)]) (fun d => []) h rfl xAb ?_
 rintro x8_5 A2 T2 hA2 hE2 h
 simp only [go_sem]
 replace h : sat (rM F s_0 v_1 x8_5) _ := h
 unfold rM at h
 refine fY h (fun hc h => ?_) fun hc h => ?_
 ·refine bB h fun g0 h => ?_
  refine fL h (fun hc h => ?_) fun hc h => ?_
  ·replace h := yaF (hE2 _ (aE h))
   exact zaD
  ·refine bB h fun g0 h => ?_
   replace h := hA2 _ (aE h)
   exact zaK
 ·replace h := yaF (hE2 _ (aE h))
  exact zaD
attribute [go_sem] oX
def fZ (F : Md) (s_0 : qw) (v_1 : qd) : Option Bool :=
 (qH F s_0 v_1).bind (fun v_6 => some (decide ((0 : Int) ≤ v_6)))
def wG : PlR := ⟨[(0, .A [0, 1]), (1, .A [4])], []⟩
def xF : Ty := .pair wh wg
def gO (F : Md) : aI := mSpec xF (.one .bool) (fun x => fZ F x.1 x.2.1)
abbrev xG (F : Md) : List (FuncId × aI) := [(160, (oX F))]
theorem aED [Mx] (F : Md) : bH Tryz.prog GL (xG F) := .cons (aGd F) xAa (.nil)
attribute [go_sem] xF wG
theorem wH [Mx] (F : Md) : FOK Tryz.prog GL 117 (gO F) := by
 refine bT (aU (aED F)) mix Tryz.func117 rfl xAa xAc wG fun w0 S x Θ hw h hF => ?_
 obtain ⟨(s_0 : qw), (v_1 : qd), u⟩ := x
 simp only [bZ, go_sem]
 replace h : sat (fZ F s_0 v_1) _ := h
 unfold fZ at h
 obtain ⟨v_6, hv, h⟩ := aP h
 exact zaR
attribute [go_sem] gO
def fC (F : Md) (s_0 : qd) : Option Bool :=
 ck (¬ (((s_0.length : Int) < (1 : Int)) ∨ ((20 : Int) < (s_0.length : Int))) → ((0 : Int) < (s_0.length : Int))) (ck (¬ ((((s_0.length : Int) < (1 : Int)) ∨ ((20 : Int) < (s_0.length : Int))) ∨ ((s_0.getD (0 : Nat) (0 : Nat)) < (97 : Nat))) → ((0 : Int) < (s_0.length : Int))) (if ((((s_0.length : Int) < (1 : Int)) ∨ ((20 : Int) < (s_0.length : Int))) ∨ ((s_0.getD (0 : Nat) (0 : Nat)) < (97 : Nat))) ∨ ((122 : Nat) < (s_0.getD (0 : Nat) (0 : Nat))) then some false else (nL F s_0 (aS sQ)).bind (fun v_5 => ck ((v_5 = (aS ⟨#[]⟩)) → ((pP F).isSome = true)) (ck ((v_5 = (aS ⟨#[]⟩)) → ((fZ F ((pP F).getD ([] : List qd)) s_0).isSome = true)) (some ((decide (v_5 = (aS ⟨#[]⟩))) && (!((fZ F ((pP F).getD ([] : List qd)) s_0).getD false))))))))
def aIU : PlR := ⟨[(0, .A [0]), (1, .A [0, 20]), (2, .A [2]), (3, .A [2])], []⟩
def aKL : Ty := .pair .str .unit
def pL (F : Md) : aI := mSpec aKL (.one .bool) (fun x => fC F x.1)
abbrev aCK (F : Md) : List (FuncId × aI) := [(117, (gO F)), (118, (uD F)), (96, (qS F))]
theorem aSc [Mx] (F : Md) : bH Tryz.prog GL (aCK F) := .cons (wH F) xAa (.cons (aKK F) xAa (.cons (aGA F) xAa (.nil)))
attribute [go_sem] aKL aIU
theorem aEE [Mx] (F : Md) : FOK Tryz.prog GL 78 (pL F) := by
 refine bT (aU (aSc F)) mix Tryz.func78 rfl xAa xAc aIU fun w0 S x Θ hw h hF => ?_
 obtain ⟨(s_0 : qd), u⟩ := x
 simp only [bZ, go_sem]
 replace h : sat (fC F s_0) _ := h
 unfold fC at h
 obtain ⟨g0, h⟩ := aQ h
 obtain ⟨g1, h⟩ := aQ h
 repeat (refine ⟨zAE, ?_⟩)
 refine ⟨fun hc => ?_, fun hc => ?_⟩
 ·replace h := jV hc h
  exact zaF
 ·replace h := jW hc h
  obtain ⟨v_5, hv, h⟩ := aP h
  try simp only [hv, go_sem]
  obtain ⟨g0, h⟩ := aQ h
  obtain ⟨g1, h⟩ := aQ h
  repeat (refine ⟨zAE, ?_⟩)
  exact zaF
attribute [go_sem] pL
end
end Nu
end Go.Proofs
namespace Go.Proofs
open Go.Vc
set_option maxRecDepth 20000
namespace Nu
noncomputable section
set_option maxHeartbeats 4000000
def sR (F : Md) : Option wx :=
 none
def pZ (F : Md) (s_0 : qd) (n_14 : Int) : Option wx :=
 ck ((0 : Int) < (s_0.length : Int)) (if (s_0.getD (0 : Nat) (0 : Nat)) = (45 : Nat) then ck (I64 (0 - n_14)) (some ((0 - n_14), (), ())) else some (n_14, (), ()))
def jY (F : Md) (s_9 : qd) (n_15 : Int) (x49_16 : Int) : Option (wk ⊕ ((Int) ⊕ wx)) :=
 if x49_16 < (s_9.length : Int) then ck (0 ≤ x49_16 ∧ x49_16 < (s_9.length : Int)) (if (9 : Nat) < (aAN F .u8 (s_9.getD (x49_16.toNat) (0 : Nat)) (48 : Nat)) then none else ck (I64 (n_15 * (10 : Int))) (ck (I64 ((n_15 * (10 : Int)) + (((aAN F .u8 (s_9.getD (x49_16.toNat) (0 : Nat)) (48 : Nat)) : Nat) : Int))) (ck (I64 (x49_16 + (1 : Int))) (some (.inl (((n_15 * (10 : Int)) + (((aAN F .u8 (s_9.getD (x49_16.toNat) (0 : Nat)) (48 : Nat)) : Nat) : Int)), (x49_16 + (1 : Int)))))))) else some (.inr (.inl n_15))
def kW (F : Md) (s_0 : qd) (s_9 : qd) : Option wx :=
 (eJ F (fun d : Int × Int => jY F s_9 d.1 d.2) ((0 : Int), (0 : Int))).bind (fun e => match e with | (.inl e) => pZ F s_0 e | (.inr e) => some e)
def qT (F : Md) (s_0 : qd) : Option wx :=
 if ((False) ∧ (((0 : Int) < (s_0.length : Int)) ∧ ((s_0.length : Int) < (10 : Int)))) ∨ ((True) ∧ (((0 : Int) < (s_0.length : Int)) ∧ ((s_0.length : Int) < (19 : Int)))) then ck ((0 : Int) < (s_0.length : Int)) (ck (¬ ((s_0.getD (0 : Nat) (0 : Nat)) = (45 : Nat)) → ((0 : Int) < (s_0.length : Int))) (if ((s_0.getD (0 : Nat) (0 : Nat)) = (45 : Nat)) ∨ ((s_0.getD (0 : Nat) (0 : Nat)) = (43 : Nat)) then ck ((1 : Int) ≤ (s_0.length : Int)) (if (((List.drop (1 : Nat) s_0).length : Nat) : Int) < (1 : Int) then none else kW F s_0 (List.drop (1 : Nat) s_0)) else kW F s_0 s_0)) else sR F
def aE7 : PlR := ⟨[(0, .A [0]), (1, .A [0, 4]), (2, .A [0, 30]), (3, .A [0, 5]), (4, .A [0, 5, 39]), (5, .A [0, 5]), (6, .A [0, 5, 44]), (7, .A [2, 3]), (8, .A [0, 5, 6]), (9, .A [5, 6, 47, 48, 49]), (10, .A [5, 6, 47, 48, 49, 50]), (11, .A [5, 6, 8, 47, 48, 49]), (12, .A [5, 6, 8, 47, 48, 49]), (13, .A [5, 6, 8, 47, 48, 49, 56]), (14, .A [2, 3]), (15, .A [5, 6, 47, 48, 49]), (16, .A [5, 6, 47, 48, 49]), (17, .A [6, 66]), (18, .A [6]), (19, .A [2, 3]), (20, .stop)], [(5, 23), (7, 11), (12, 20)]⟩
def aGB : Ty := .pair .str .unit
def vL (F : Md) : aI := mSpec aGB (.tup (.pair qe (.pair .nili .unit))) (fun x => qT F x.1)
abbrev aNT (F : Md) : List (FuncId × aI) := []
theorem aNU [Mx] (F : Md) : bH Tryz.prog GL (aNT F) := .nil
attribute [go_sem] aGB aE7
theorem aMd [Mx] (F : Md) : FOK Tryz.prog GL 131 (vL F) := by
 refine bT (aU (aNU F)) mix Tryz.func131 rfl xAa xAc aE7 fun w0 S x Θ hw h hF => ?_
 obtain ⟨(s_0 : qd), u⟩ := x
 simp only [bZ, go_sem]
 replace h : sat (qT F s_0) _ := h
 unfold qT at h
 refine fD hF (D := Unit) (fun d => sat (sR F) Θ) [0] (fun d => []) (fun d => []) ?_ ?_
 ·simp only [go_sem, dR F, dS F, dT F]
  refine ⟨fun hc => ?_, fun hc => ?_⟩
  ·replace h := jV zAB h
   refine fD hF (D := qd) (fun d => sat (kW F s_0 d) Θ) [5] (fun d => [(0, .val .str d)]) (fun d => []) ?_ ?_
   ·simp only [go_sem, dR F, dS F, dT F]
    refine bB h fun g0 h => bB h fun g1 h => ?_
    refine ⟨fun hc => ?_, fun hc => ?_⟩
    ·replace h := jV hc h
     refine bB h fun g0 h => ?_
     refine fY h (fun hc h => ?_) fun hc h => ?_
     ·exact aBH h
     ·exact aY (List.drop (1 : Nat) s_0) h rfl xAe
    ·replace h := jW hc h
     exact aY (s_0) h rfl xAe
   ·rintro s_9 h
    simp only [go_sem, dR F, dS F, dT F]
    replace h : sat (kW F s_0 s_9) _ := h
    unfold kW at h
    refine fD hF (D := Int) (fun d => sat (pZ F s_0 d) Θ) [5] (fun d => [(6, .val qe d)]) (fun d => []) ?_ ?_
    ·simp only [go_sem, dR F, dS F, dT F]
     refine cL hF (D := Int × Int) [5, 47, 48] (fun d => [(6, .val qe d.1), (49, .val qe d.2)]) (fun d => []) h rfl xAe ?_
     rintro ⟨n_15, x49_16⟩ A10 T10 hA10 hE10 h
     simp only [go_sem, dR F, dS F, dT F]
     replace h : sat (jY F s_9 n_15 x49_16) _ := h
     unfold jY at h
     refine fY h (fun hc h => ?_) fun hc h => ?_
     ·refine bB h fun g0 h => ?_
      refine fL h (fun hc h => ?_) fun hc h => ?_
      ·exact aBH h
      ·refine bB h fun g0 h => bB h fun g1 h => ?_
       refine bB h fun g0 h => ?_
       replace h := hA10 _ (aE h)
       exact aY _ h rfl xAe
     ·replace h := yaF (hE10 _ (aE h))
      exact aY (n_15) h rfl xAe
    ·rintro n_14 h
     simp only [go_sem, dR F, dS F, dT F]
     replace h : sat (pZ F s_0 n_14) _ := h
     unfold pZ at h
     refine bB h fun g0 h => ?_
     refine fL h (fun hc h => ?_) fun hc h => ?_
     ·refine bB h fun g0 h => ?_
      exact aK hF [.tmp 2, .tmp 3] rfl rfl rfl (aE h) xAf
     ·exact aK hF [.tmp 2, .tmp 3] rfl rfl rfl (aE h) xAf
  ·replace h := jW zAB h
   exact aY () h rfl xAe
 ·rintro u h
  simp only [go_sem, dR F, dS F, dT F]
  replace h : sat (sR F) _ := h
  unfold sR at h
  exact aBH h
attribute [go_sem] vL
def lW (F : Md) (s_0 : qd) : Option wx :=
 (qT F s_0).bind (fun v_5 => some (v_5.1, (), ()))
def aGC : PlR := ⟨[(0, .A [0]), (1, .A [0, 4, 5]), (2, .A [0, 4, 5, 12]), (4, .A [2, 3])], []⟩
def aHF : Ty := .pair .str .unit
def mM (F : Md) : aI := mSpec aHF (.tup (.pair qe (.pair .nili .unit))) (fun x => lW F x.1)
abbrev aHG (F : Md) : List (FuncId × aI) := [(131, (vL F))]
theorem aPV [Mx] (F : Md) : bH Tryz.prog GL (aHG F) := .cons (aMd F) xAa (.nil)
attribute [go_sem] aHF aGC
theorem aB0 [Mx] (F : Md) : FOK Tryz.prog GL 97 (mM F) := by
 refine bT (aU (aPV F)) mix Tryz.func97 rfl xAa xAc aGC fun w0 S x Θ hw h hF => ?_
 obtain ⟨(s_0 : qd), u⟩ := x
 simp only [bZ, go_sem]
 replace h : sat (lW F s_0) _ := h
 unfold lW at h
 obtain ⟨v_5, hv, h⟩ := aP h
 try simp only [hv, go_sem]
 exact aK hF [.tmp 2, .tmp 3] rfl rfl rfl (aE h) xAd
attribute [go_sem] mM
def oM (F : Md) (at_1 : Int) (s_0 : qd) (n_5 : Int) : Option ((Int) ⊕ (Int)) :=
 ck (I64 (at_1 + n_5)) (ck (((at_1 + n_5) < (s_0.length : Int)) → (I64 (at_1 + n_5))) (ck (((at_1 + n_5) < (s_0.length : Int)) → (0 ≤ (at_1 + n_5) ∧ (at_1 + n_5) < (s_0.length : Int))) (ck ((((at_1 + n_5) < (s_0.length : Int)) ∧ ((48 : Nat) ≤ (s_0.getD (at_1 + n_5).toNat (0 : Nat)))) → (I64 (at_1 + n_5))) (ck ((((at_1 + n_5) < (s_0.length : Int)) ∧ ((48 : Nat) ≤ (s_0.getD (at_1 + n_5).toNat (0 : Nat)))) → (0 ≤ (at_1 + n_5) ∧ (at_1 + n_5) < (s_0.length : Int))) (if (((at_1 + n_5) < (s_0.length : Int)) ∧ ((48 : Nat) ≤ (s_0.getD (at_1 + n_5).toNat (0 : Nat)))) ∧ ((s_0.getD (at_1 + n_5).toNat (0 : Nat)) ≤ (57 : Nat)) then ck (I64 (n_5 + (1 : Int))) (some (.inl (n_5 + (1 : Int)))) else some (.inr n_5))))))
def lX (F : Md) (s_0 : qd) (at_1 : Int) : Option Int :=
 (eJ F (fun d : Int => oM F at_1 s_0 d) (0 : Int)).bind (fun e => some e)
def aIV : PlR := ⟨[(0, .A [0, 1]), (1, .A [0, 1, 5]), (2, .A [0, 1, 5, 27]), (3, .A [0, 1, 5]), (4, .A [4])], []⟩
def aKM : Ty := .pair .str q9
def tS (F : Md) : aI := mSpec aKM (.one qe) (fun x => lX F x.1 x.2.1)
abbrev aSd (F : Md) : List (FuncId × aI) := []
theorem aSe [Mx] (F : Md) : bH Tryz.prog GL (aSd F) := .nil
attribute [go_sem] aKM aIV
theorem aIW [Mx] (F : Md) : FOK Tryz.prog GL 134 (tS F) := by
 refine bT (aU (aSe F)) mix Tryz.func134 rfl xAa xAc aIV fun w0 S x Θ hw h hF => ?_
 obtain ⟨(s_0 : qd), (at_1 : Int), u⟩ := x
 simp only [bZ, go_sem]
 replace h : sat (lX F s_0 at_1) _ := h
 unfold lX at h
 refine cL hF (D := Int) [0, 1] (fun d => [(5, .val qe d)]) (fun d => []) h rfl xAb ?_
 rintro n_5 A2 T2 hA2 hE2 h
 simp only [go_sem]
 replace h : sat (oM F at_1 s_0 n_5) _ := h
 unfold oM at h
 refine bB h fun g0 h => bB h fun g1 h => bB h fun g2 h => bB h fun g3 h => bB h fun g4 h => ?_
 refine ⟨fun hc => ?_, fun hc => ?_⟩
 ·replace h := jV hc h
  refine bB h fun g0 h => ?_
  replace h := hA2 _ (aE h)
  exact zaK
 ·replace h := jW hc h
  replace h := yaF (hE2 _ (aE h))
  exact zaD
attribute [go_sem] tS
def sC (F : Md) (all_9 : qd) (s_0 : qd) (at_17 : Int) (pow_18 : Int) : Option (qd × (Int × wn)) :=
 some (all_9, pow_18, (decide (at_17 = (s_0.length : Int))), ())
def sD (F : Md) (pow_10 : Int) (at_19 : Int) (v_23 : Int) (all_9 : qd) (s_0 : qd) (x_28 : Int) : Option (qd × (Int × wn)) :=
 ck (I64 (pow_10 + x_28)) (ck (I64 (at_19 + v_23)) (sC F all_9 s_0 (at_19 + v_23) (pow_10 + x_28)))
def sE (F : Md) (s_0 : qd) (at_8 : Int) (pow_10 : Int) (all_9 : qd) (at_19 : Int) : Option (qd × (Int × wn)) :=
 (lX F s_0 at_19).bind (fun v_23 => if (v_23 < (1 : Int)) ∨ ((3 : Int) < v_23) then some ((aS ⟨#[]⟩), (0 : Int), false, ()) else ck (I64 (at_19 + v_23)) (ck (0 ≤ at_19 ∧ at_19 ≤ (at_19 + v_23) ∧ (at_19 + v_23) ≤ (s_0.length : Int)) ((lW F (List.drop (at_19.toNat) (List.take (at_19 + v_23).toNat s_0))).bind (fun v_27 => if (100 : Int) < v_27.1 then some ((aS ⟨#[]⟩), (0 : Int), false, ()) else if ((at_8 + (1 : Int)) < (s_0.length : Int)) ∧ ((s_0.getD (at_8 + (1 : Int)).toNat (0 : Nat)) = (45 : Nat)) then ck (I64 (0 - v_27.1)) (sD F pow_10 at_19 v_23 all_9 s_0 (0 - v_27.1)) else sD F pow_10 at_19 v_23 all_9 s_0 v_27.1))))
def sF (F : Md) (s_0 : qd) (at_8 : Int) (all_9 : qd) (pow_10 : Int) : Option (qd × (Int × wn)) :=
 ck ((at_8 < (s_0.length : Int)) → (0 ≤ at_8 ∧ at_8 < (s_0.length : Int))) (if (at_8 < (s_0.length : Int)) ∧ ((s_0.getD (at_8.toNat) (0 : Nat)) = (101 : Nat)) then ck (I64 (at_8 + (1 : Int))) (ck (((at_8 + (1 : Int)) < (s_0.length : Int)) → (0 ≤ (at_8 + (1 : Int)) ∧ (at_8 + (1 : Int)) < (s_0.length : Int))) (ck (¬ (((at_8 + (1 : Int)) < (s_0.length : Int)) ∧ ((s_0.getD (at_8 + (1 : Int)).toNat (0 : Nat)) = (45 : Nat))) → ((at_8 + (1 : Int)) < (s_0.length : Int)) → (0 ≤ (at_8 + (1 : Int)) ∧ (at_8 + (1 : Int)) < (s_0.length : Int))) (if (((at_8 + (1 : Int)) < (s_0.length : Int)) ∧ ((s_0.getD (at_8 + (1 : Int)).toNat (0 : Nat)) = (45 : Nat))) ∨ (((at_8 + (1 : Int)) < (s_0.length : Int)) ∧ ((s_0.getD (at_8 + (1 : Int)).toNat (0 : Nat)) = (43 : Nat))) then ck (I64 ((at_8 + (1 : Int)) + (1 : Int))) (sE F s_0 at_8 pow_10 all_9 ((at_8 + (1 : Int)) + (1 : Int))) else sE F s_0 at_8 pow_10 all_9 (at_8 + (1 : Int))))) else sC F all_9 s_0 at_8 pow_10)
def tT (F : Md) (s_0 : qd) : Option (qd × (Int × wn)) :=
 (lX F s_0 (0 : Int)).bind (fun v_5 => ck (0 ≤ v_5 ∧ v_5 ≤ (s_0.length : Int)) (if ((60 : Int) < (s_0.length : Int)) ∨ (v_5 = (0 : Int)) then some ((aS ⟨#[]⟩), (0 : Int), false, ()) else ck ((v_5 < (s_0.length : Int)) → (0 ≤ v_5 ∧ v_5 < (s_0.length : Int))) (if (v_5 < (s_0.length : Int)) ∧ ((s_0.getD (v_5.toNat) (0 : Nat)) = (46 : Nat)) then ck (I64 (v_5 + (1 : Int))) ((lX F s_0 (v_5 + (1 : Int))).bind (fun v_32 => if v_32 = (0 : Int) then some ((aS ⟨#[]⟩), (0 : Int), false, ()) else ck (I64 (v_5 + (1 : Int))) (ck (I64 (v_5 + (1 : Int))) (ck (I64 ((v_5 + (1 : Int)) + v_32)) (ck (0 ≤ (v_5 + (1 : Int)) ∧ (v_5 + (1 : Int)) ≤ ((v_5 + (1 : Int)) + v_32) ∧ ((v_5 + (1 : Int)) + v_32) ≤ (s_0.length : Int)) (ck ((List.take (v_5.toNat) s_0).length + (List.drop (v_5 + (1 : Int)).toNat (List.take ((v_5 + (1 : Int)) + v_32).toNat s_0)).length ≤ 9223372036854775807) (ck (I64 (0 - v_32)) (ck (I64 (v_5 + (1 : Int))) (ck (I64 ((v_5 + (1 : Int)) + v_32)) (sF F s_0 ((v_5 + (1 : Int)) + v_32) ((List.take (v_5.toNat) s_0) ++ (List.drop (v_5 + (1 : Int)).toNat (List.take ((v_5 + (1 : Int)) + v_32).toNat s_0))) (0 - v_32))))))))))) else sF F s_0 v_5 (List.take (v_5.toNat) s_0) (0 : Int))))
def aHH : PlR := ⟨[(0, .A [0]), (1, .A [0, 5]), (2, .A [0, 5, 6, 7]), (3, .A [0, 5, 6, 7, 24]), (4, .A [2, 3, 4]), (5, .A [0, 5, 6, 7, 34]), (6, .A [0, 5, 6, 8]), (7, .A [0, 5, 6, 8, 40]), (8, .A [2, 3, 4]), (9, .A [0, 5, 6, 7]), (10, .A [0, 5, 6, 7, 66]), (11, .A [0, 5, 6, 7]), (12, .A [0, 5, 6, 7, 9]), (13, .A [0, 5, 6, 7, 9, 91]), (14, .A [0, 5, 6, 7, 9]), (15, .A [0, 5, 6, 7, 9, 10]), (16, .A [0, 5, 6, 7, 9, 10, 102]), (17, .A [2, 3, 4]), (18, .A [0, 5, 6, 7, 9, 10, 11]), (19, .A [0, 5, 6, 7, 9, 10, 11, 114]), (20, .A [2, 3, 4]), (21, .A [0, 5, 6, 7, 10, 11, 115]), (22, .A [0, 5, 6, 7, 10, 11]), (23, .A [0, 5, 6, 7]), (24, .A [2, 3, 4])], [(8, 13), (13, 27), (16, 18), (24, 26)]⟩
def aIX : Ty := .pair .str .unit
def nM (F : Md) : aI := mSpec aIX (.tup (.pair .str (.pair qe wu))) (fun x => tT F x.1)
abbrev aEF (F : Md) : List (FuncId × aI) := [(134, (tS F)), (97, (mM F))]
theorem aQE [Mx] (F : Md) : bH Tryz.prog GL (aEF F) := .cons (aIW F) xAa (.cons (aB0 F) xAa (.nil))
attribute [go_sem] aIX aHH
theorem aDv [Mx] (F : Md) : FOK Tryz.prog GL 102 (nM F) := by
 refine bT (aU (aQE F)) mix Tryz.func102 rfl xAa xAc aHH fun w0 S x Θ hw h hF => ?_
 obtain ⟨(s_0 : qd), u⟩ := x
 simp only [bZ, go_sem]
 replace h : sat (tT F s_0) _ := h
 unfold tT at h
 obtain ⟨v_5, hv, h⟩ := aP h
 try simp only [hv, go_sem]
 obtain ⟨g0, h⟩ := aQ h
 repeat (refine ⟨by omega, ?_⟩)
 refine ⟨fun hc => ?_, fun hc => ?_⟩
 ·replace h := jV hc h
  exact zas
 ·replace h := jW hc h
  refine fD hF (D := Int × qd × Int) (fun d => sat (sF F s_0 d.1 d.2.1 d.2.2) Θ) [0] (fun d => [(5, .val qe d.1), (6, .val .str d.2.1), (7, .val qe d.2.2)]) (fun d => []) ?_ ?_
  ·simp only [go_sem]
   obtain ⟨g0, h⟩ := aQ h
   repeat (refine ⟨by omega, ?_⟩)
   refine ⟨fun hc => ?_, fun hc => ?_⟩
   ·replace h := jV hc h
    obtain ⟨g0, h⟩ := aQ h
    repeat (refine ⟨by omega, ?_⟩)
    obtain ⟨v_32, hv, h⟩ := aP h
    try simp only [hv, go_sem]
    refine fL h (fun hc h => ?_) fun hc h => ?_
    ·exact aK hF [.tmp 2, .tmp 3, .tmp 4] rfl rfl rfl (aE h) xAd
    ·obtain ⟨g0, h⟩ := aQ h
     obtain ⟨g1, h⟩ := aQ h
     obtain ⟨g2, h⟩ := aQ h
     obtain ⟨g3, h⟩ := aQ h
     obtain ⟨g4, h⟩ := aQ h
     obtain ⟨g5, h⟩ := aQ h
     obtain ⟨g6, h⟩ := aQ h
     obtain ⟨g7, h⟩ := aQ h
     repeat (refine ⟨by omega, ?_⟩)
     exact aY (((v_5 + (1 : Int)) + v_32), ((List.take (v_5.toNat) s_0) ++ (List.drop (v_5 + (1 : Int)).toNat (List.take ((v_5 + (1 : Int)) + v_32).toNat s_0))), (0 - v_32)) h rfl xAb
   ·replace h := jW hc h
    exact aY (v_5, (List.take (v_5.toNat) s_0), (0 : Int)) h rfl xAb
  ·rintro ⟨at_8, all_9, pow_10⟩ h
   simp only [go_sem]
   replace h : sat (sF F s_0 at_8 all_9 pow_10) _ := h
   unfold sF at h
   refine fD hF (D := Int × Int) (fun d => sat (sC F all_9 s_0 d.1 d.2) Θ) [0, 6] (fun d => [(5, .val qe d.1), (7, .val qe d.2)]) (fun d => []) ?_ ?_
   ·simp only [go_sem]
    obtain ⟨g0, h⟩ := aQ h
    repeat (refine ⟨by omega, ?_⟩)
    refine ⟨fun hc => ?_, fun hc => ?_⟩
    ·replace h := jV hc h
     obtain ⟨g0, h⟩ := aQ h
     repeat (refine ⟨by omega, ?_⟩)
     obtain ⟨g0, h⟩ := aQ h
     repeat (refine ⟨by omega, ?_⟩)
     refine fD hF (D := Int) (fun d => sat (sE F s_0 at_8 pow_10 all_9 d) Θ) [0, 6, 7, 9] (fun d => [(5, .val qe d)]) (fun d => []) ?_ ?_
     ·simp only [go_sem]
      obtain ⟨g0, h⟩ := aQ h
      repeat (refine ⟨by omega, ?_⟩)
      refine ⟨fun hc => ?_, fun hc => ?_⟩
      ·replace h := jV hc h
       obtain ⟨g0, h⟩ := aQ h
       repeat (refine ⟨by omega, ?_⟩)
       exact aY ((at_8 + (1 : Int)) + (1 : Int)) h rfl xAb
      ·replace h := jW hc h
       exact aY (at_8 + (1 : Int)) h rfl xAb
     ·rintro at_19 h
      simp only [go_sem]
      replace h : sat (sE F s_0 at_8 pow_10 all_9 at_19) _ := h
      unfold sE at h
      obtain ⟨v_23, hv, h⟩ := aP h
      try simp only [hv, go_sem]
      refine ⟨fun hc => ?_, fun hc => ?_⟩
      ·replace h := jV hc h
       exact zas
      ·replace h := jW hc h
       obtain ⟨g0, h⟩ := aQ h
       obtain ⟨g1, h⟩ := aQ h
       repeat (refine ⟨by omega, ?_⟩)
       obtain ⟨v_27, hv, h⟩ := aP h
       try simp only [hv, go_sem]
       refine fY h (fun hc h => ?_) fun hc h => ?_
       ·exact aK hF [.tmp 2, .tmp 3, .tmp 4] rfl rfl rfl (aE h) xAd
       ·refine fD hF (D := Int) (fun d => sat (sD F pow_10 at_19 v_23 all_9 s_0 d) Θ) [0, 5, 6, 7, 10] (fun d => [(11, .val qe d)]) (fun d => []) ?_ ?_
        ·simp only [go_sem]
         refine ⟨fun hc => ?_, fun hc => ?_⟩
         ·replace h := jV hc h
          obtain ⟨g0, h⟩ := aQ h
          repeat (refine ⟨by omega, ?_⟩)
          exact aY (0 - v_27.1) h rfl xAb
         ·replace h := jW hc h
          exact aY v_27.1 h rfl xAb
        ·rintro x_28 h
         simp only [go_sem]
         replace h : sat (sD F pow_10 at_19 v_23 all_9 s_0 x_28) _ := h
         unfold sD at h
         obtain ⟨g0, h⟩ := aQ h
         obtain ⟨g1, h⟩ := aQ h
         repeat (refine ⟨by omega, ?_⟩)
         exact aY ((at_19 + v_23), (pow_10 + x_28)) h rfl xAb
    ·replace h := jW hc h
     exact aY (at_8, pow_10) h rfl xAb
   ·rintro ⟨at_17, pow_18⟩ h
    simp only [go_sem]
    replace h : sat (sC F all_9 s_0 at_17 pow_18) _ := h
    unfold sC at h
    exact zas
attribute [go_sem] nM
def aDw (F : Md) (n_1 : Int) (b_0 : Nat) (m_13 : qd) (x8_14 : Int) : Option (wt ⊕ qd) :=
 if x8_14 < n_1 then (lE F m_13 ([b_0] : List Nat)).bind (fun v_23 => ck (I64 (x8_14 + (1 : Int))) (some (.inl (v_23, (x8_14 + (1 : Int)))))) else some (.inr m_13)
def uX (F : Md) (b_0 : Nat) (n_1 : Int) : Option qd :=
 (eJ F (fun d : qd × Int => aDw F n_1 b_0 d.1 d.2) (([1] : List Nat), (0 : Int))).bind (fun e => some e)
def aKO : PlR := ⟨[], []⟩
def aNr : Ty := .pair qx q9
def vM (F : Md) : aI := mSpec aNr (.one we) (fun x => uX F x.1 x.2.1)
abbrev aNs (F : Md) : List (FuncId × aI) := [(104, (iG F))]
theorem aTn [Mx] (F : Md) : bH Tryz.prog GL (aNs F) := .cons (vI F) xAa (.nil)
attribute [go_sem] aNr aKO
theorem aKP [Mx] (F : Md) : FOK Tryz.prog GL 106 (vM F) := by
 refine bT (aU (aTn F)) mix Tryz.func106 rfl xAa xAc aKO fun w0 S x Θ hw h hF => ?_
 obtain ⟨(b_0 : Nat), (n_1 : Int), u⟩ := x
 simp only [bZ, go_sem]
 replace h : sat (uX F b_0 n_1) _ := h
 unfold uX at h
 refine yK hF [0, 1] (yaA ?_)
 refine yK hF [0, 1, 5] (yaA ?_)
 refine yK hF [0, 5, 7, 8] (yaA ?_)
 refine cL hF (D := qd × Int) [0, 7] (fun d => [(5, .val we d.1), (8, .val qe d.2)]) (fun d => []) h rfl xAb ?_
 rintro ⟨m_13, x8_14⟩ A3 T3 hA3 hE3 h
 simp only [go_sem]
 replace h : sat (aDw F n_1 b_0 m_13 x8_14) _ := h
 unfold aDw at h
 refine yK hF [0, 5, 7, 8, 9] (yaA ?_)
 refine fY h (fun hc h => ?_) fun hc h => ?_
 ·refine yK hF [0, 5, 7, 8] (yaA ?_)
  obtain ⟨v_23, hv, h⟩ := aP h
  try simp only [hv, go_sem]
  refine yK hF [0, 5, 7, 8] (yaA ?_)
  refine bB h fun g0 h => ?_
  replace h := hA3 _ (aE h)
  exact zaK
 ·replace h := yaF (hE3 _ (aE h))
  refine yK hF [4] (yaA ?_)
  exact zaD
attribute [go_sem] vM
def aB1 (F : Md) (s_0 : qd) (m_24 : qd) (x9_25 : Int) : Option (wt ⊕ qd) :=
 if x9_25 < (s_0.length : Int) then ck (0 ≤ x9_25 ∧ x9_25 < (s_0.length : Int)) ((lE F m_24 ([10] : List Nat)).bind (fun v_44 => (aDn F ([(aAN F .u8 (s_0.getD (x9_25.toNat) (0 : Nat)) (48 : Nat))] : List Nat)).bind (fun v_45 => (aF0 F v_44 v_45).bind (fun v_46 => ck (I64 (x9_25 + (1 : Int))) (some (.inl (v_46, (x9_25 + (1 : Int))))))))) else some (.inr m_24)
def aAb (F : Md) (s_0 : qd) : Option qd :=
 (eJ F (fun d : qd × Int => aB1 F s_0 d.1 d.2) (([] : List Nat), (0 : Int))).bind (fun e => some e)
def aIY : PlR := ⟨[], []⟩
def aKQ : Ty := .pair .str .unit
def tU (F : Md) : aI := mSpec aKQ (.one we) (fun x => aAb F x.1)
abbrev aCL (F : Md) : List (FuncId × aI) := [(104, (iG F)), (145, (aDY F)), (146, (yT F))]
theorem aSf [Mx] (F : Md) : bH Tryz.prog GL (aCL F) := .cons (vI F) xAa (.cons (aTg F) xAa (.cons (aM9 F) xAa (.nil)))
attribute [go_sem] aKQ aIY
theorem aIZ [Mx] (F : Md) : FOK Tryz.prog GL 105 (tU F) := by
 refine bT (aU (aSf F)) mix Tryz.func105 rfl xAa xAc aIY fun w0 S x Θ hw h hF => ?_
 obtain ⟨(s_0 : qd), u⟩ := x
 simp only [bZ, go_sem]
 replace h : sat (aAb F s_0) _ := h
 unfold aAb at h
 refine yK hF [0] ?_
 simp only [go_sem, dR F, dS F, dT F]
 refine yK hF [0, 3] ?_
 simp only [go_sem, dR F, dS F, dT F]
 refine yK hF [3, 7, 8, 9] ?_
 simp only [go_sem, dR F, dS F, dT F]
 refine cL hF (D := qd × Int) [7, 8] (fun d => [(3, .val we d.1), (9, .val qe d.2)]) (fun d => []) h rfl xAe ?_
 rintro ⟨m_24, x9_25⟩ A3 T3 hA3 hE3 h
 simp only [go_sem, dR F, dS F, dT F]
 replace h : sat (aB1 F s_0 m_24 x9_25) _ := h
 unfold aB1 at h
 refine yK hF [3, 7, 8, 9, 10] ?_
 simp only [go_sem, dR F, dS F, dT F]
 refine fY h (fun hc h => ?_) fun hc h => ?_
 ·refine yK hF [3, 5, 7, 8, 9] ?_
  simp only [go_sem, dR F, dS F, dT F]
  refine bB h fun g0 h => ?_
  refine yK hF [3, 7, 8, 9] ?_
  simp only [go_sem, dR F, dS F, dT F]
  obtain ⟨v_44, hv, h⟩ := aP h
  try simp only [hv, go_sem, dR F, dS F, dT F]
  obtain ⟨v_45, hv, h⟩ := aP h
  try simp only [hv, go_sem, dR F, dS F, dT F]
  obtain ⟨v_46, hv, h⟩ := aP h
  try simp only [hv, go_sem, dR F, dS F, dT F]
  refine yK hF [3, 7, 8, 9] ?_
  simp only [go_sem, dR F, dS F, dT F]
  refine bB h fun g0 h => ?_
  replace h := hA3 _ (aE h)
  exact aY _ h rfl xAe
 ·replace h := yaF (hE3 _ (aE h))
  refine yK hF [2] ?_
  simp only [go_sem, dR F, dS F, dT F]
  exact aK hF [.tmp 2] rfl rfl rfl (aE h) xAf
attribute [go_sem] tU
def rN (F : Md) (s_0 : qd) : Option Bool :=
 (tT F s_0).bind (fun v_5 => some v_5.2.2.1)
def aNt : PlR := ⟨[(0, .A [0]), (1, .A [5]), (2, .A [2])], []⟩
def aPW : Ty := .pair .str .unit
def sK (F : Md) : aI := mSpec aPW (.one .bool) (fun x => rN F x.1)
abbrev aPX (F : Md) : List (FuncId × aI) := [(102, (nM F))]
theorem aUk [Mx] (F : Md) : bH Tryz.prog GL (aPX F) := .cons (aDv F) xAa (.nil)
attribute [go_sem] aPW aNt
theorem aHI [Mx] (F : Md) : FOK Tryz.prog GL 98 (sK F) := by
 refine bT (aU (aUk F)) mix Tryz.func98 rfl xAa xAc aNt fun w0 S x Θ hw h hF => ?_
 obtain ⟨(s_0 : qd), u⟩ := x
 simp only [bZ, go_sem]
 replace h : sat (rN F s_0) _ := h
 unfold rN at h
 obtain ⟨v_5, hv, h⟩ := aP h
 try simp only [hv, go_sem]
 exact zaF
attribute [go_sem] sK
def aD5 (F : Md) (s_0 : qd) : Option (qd × (qd × wn)) :=
 (tT F s_0).bind (fun v_5 => if ¬ (v_5.2.2.1 = true) then some (([] : List Nat), ([] : List Nat), false, ()) else (aAb F v_5.1).bind (fun v_18 => (uX F (10 : Nat) (max v_5.2.1 (0 : Int))).bind (fun v_19 => (lE F v_18 v_19).bind (fun v_20 => ck (I64 (0 - v_5.2.1)) ((uX F (10 : Nat) (max (0 - v_5.2.1) (0 : Int))).bind (fun v_21 => some (v_20, v_21, true, ())))))))
def aKR : PlR := ⟨[(0, .A [0]), (1, .A [5, 6, 7]), (2, .A [5, 6, 15]), (3, .A [2, 3, 4]), (4, .A [2, 3, 4])], []⟩
def aNu : Ty := .pair .str .unit
def aCM (F : Md) : aI := mSpec aNu (.tup (.pair we (.pair we wu))) (fun x => aD5 F x.1)
abbrev aBJ (F : Md) : List (FuncId × aI) := [(102, (nM F)), (104, (iG F)), (105, (tU F)), (106, (vM F))]
theorem aTo [Mx] (F : Md) : bH Tryz.prog GL (aBJ F) := .cons (aDv F) xAa (.cons (vI F) xAa (.cons (aIZ F) xAa (.cons (aKP F) xAa (.nil))))
attribute [go_sem] aNu aKR
theorem aSg [Mx] (F : Md) : FOK Tryz.prog GL 155 (aCM F) := by
 refine bT (aU (aTo F)) mix Tryz.func155 rfl xAa xAc aKR fun w0 S x Θ hw h hF => ?_
 obtain ⟨(s_0 : qd), u⟩ := x
 simp only [bZ, go_sem]
 replace h : sat (aD5 F s_0) _ := h
 unfold aD5 at h
 obtain ⟨v_5, hv, h⟩ := aP h
 try simp only [hv, go_sem]
 refine aEx h (fun hc h => ?_) fun hc h => ?_
 ·exact aK hF [.tmp 2, .tmp 3, .tmp 4] rfl rfl rfl (aE h) xAd
 ·obtain ⟨v_18, hv, h⟩ := aP h
  try simp only [hv, go_sem]
  obtain ⟨v_19, hv, h⟩ := aP h
  try simp only [hv, go_sem]
  obtain ⟨v_20, hv, h⟩ := aP h
  try simp only [hv, go_sem]
  refine bB h fun g0 h => ?_
  obtain ⟨v_21, hv, h⟩ := aP h
  try simp only [hv, go_sem]
  exact zas
attribute [go_sem] aCM
def aD6 (F : Md) (s_0 : qd) : Option (qt × qp) :=
 (tT F s_0).bind (fun v_5 => if ¬ (v_5.2.2.1 = true) then some ((false, ([] : List Nat), (0 : Int), ()), (6 : Int), ()) else (aAb F v_5.1).bind (fun v_21 => (uX F (5 : Nat) (max v_5.2.1 (0 : Int))).bind (fun v_22 => (lE F v_21 v_22).bind (fun v_23 => ck (I64 (0 - v_5.2.1)) ((uX F (5 : Nat) (max (0 - v_5.2.1) (0 : Int))).bind (fun v_24 => (aCC F v_23 v_24).bind (fun v_25 => (aDt F false v_25.1 v_5.2.1).bind (fun v_27 => if ((0 : Int) < (v_25.2.1.length : Int)) ∨ (¬ (v_27.2.1 = (0 : Int))) then some ((false, ([] : List Nat), (0 : Int), ()), (6 : Int), ()) else some (v_27.1, (0 : Int), ())))))))))
def aKS : PlR := ⟨[(0, .B [0, 2]), (1, .A [2, 4, 5, 6]), (2, .A [2, 4, 5, 18]), (3, .B [2, 3]), (4, .A [2, 5, 7, 8]), (5, .B [2, 8, 9, 10]), (6, .A [2, 9, 46]), (7, .B [2, 3]), (8, .B [2, 3])], []⟩
def aNv : Ty := .pair .str .unit
def aCN (F : Md) : aI := mSpec aNv (.tup (.pair ql q9)) (fun x => aD6 F x.1)
abbrev uY (F : Md) : List (FuncId × aI) := [(102, (nM F)), (103, (aBm F)), (104, (iG F)), (105, (tU F)), (106, (vM F)), (107, (yX F))]
theorem aTp [Mx] (F : Md) : bH Tryz.prog GL (uY F) := .cons (aDv F) xAa (.cons (aQz F) xAa (.cons (vI F) xAa (.cons (aIZ F) xAa (.cons (aKP F) xAa (.cons (aNj F) xAa (.nil))))))
attribute [go_sem] aNv aKS
theorem aSh [Mx] (F : Md) : FOK Tryz.prog GL 67 (aCN F) := by
 refine bT (aU (aTp F)) mix Tryz.func67 rfl xAa xAc aKS fun w0 S x Θ hw h hF => ?_
 obtain ⟨(s_0 : qd), u⟩ := x
 simp only [bZ, go_sem]
 replace h : sat (aD6 F s_0) _ := h
 unfold aD6 at h
 obtain ⟨v_5, hv, h⟩ := aP h
 try simp only [hv, go_sem]
 refine aEx h (fun hc h => ?_) fun hc h => ?_
 ·exact aK hF [.cell 2 128, .tmp 3] rfl rfl rfl (aE h) xAd
 ·obtain ⟨v_21, hv, h⟩ := aP h
  try simp only [hv, go_sem]
  obtain ⟨v_22, hv, h⟩ := aP h
  try simp only [hv, go_sem]
  obtain ⟨v_23, hv, h⟩ := aP h
  try simp only [hv, go_sem]
  refine bB h fun g0 h => ?_
  obtain ⟨v_24, hv, h⟩ := aP h
  try simp only [hv, go_sem]
  obtain ⟨v_25, hv, h⟩ := aP h
  try simp only [hv, go_sem]
  obtain ⟨v_27, hv, h⟩ := aP h
  try simp only [hv, go_sem]
  refine ⟨fun hc => ?_, fun hc => ?_⟩
  ·replace h := jV hc h
   exact aK hF [.cell 2 128, .tmp 3] rfl rfl rfl (aE h) xAd
  ·replace h := jW hc h
   exact aK hF [.cell 2 128, .tmp 3] rfl rfl rfl (aE h) xAd
attribute [go_sem] aCN
def nB (F : Md) (a_0 : qt) (b_1 : qt) (n_2 : Int) : Option Bool :=
 (aIx F n_2 (0 : Int)).bind (fun v_5 => (aF8 F b_1 v_5.1).bind (fun v_7 => ck ((v_7.2.1 = (0 : Int)) → ((aBb F a_0 v_7.1).isSome = true)) (some ((decide (v_7.2.1 = (0 : Int))) && (decide (((aBb F a_0 v_7.1).getD (0 : Int)) ≤ (0 : Int)))))))
def aI0 : PlR := ⟨[(0, .B [2, 3, 4]), (1, .B [3, 4, 7]), (2, .B [3, 9, 10]), (3, .A [6])], []⟩
def aKT : Ty := .pair ql (.pair ql q9)
def aBp (F : Md) : aI := mSpec aKT (.one .bool) (fun x => nB F x.1 x.2.1 x.2.2.1)
abbrev aCO (F : Md) : List (FuncId × aI) := [(110, (aF5 F)), (111, (aD3 F)), (69, (yY F))]
theorem aSi [Mx] (F : Md) : bH Tryz.prog GL (aCO F) := .cons (aUi F) xAa (.cons (aTm F) xAa (.cons (aNp F) xAa (.nil)))
attribute [go_sem] aKT aI0
theorem aQF [Mx] (F : Md) : FOK Tryz.prog GL 70 (aBp F) := by
 refine bT (aU (aSi F)) mix Tryz.func70 rfl xAa xAc aI0 fun w0 S x Θ hw h hF => ?_
 obtain ⟨(a_0 : qt), (b_1 : qt), (n_2 : Int), u⟩ := x
 simp only [bZ, go_sem]
 replace h : sat (nB F a_0 b_1 n_2) _ := h
 unfold nB at h
 obtain ⟨v_5, hv, h⟩ := aP h
 try simp only [hv, go_sem]
 obtain ⟨v_7, hv, h⟩ := aP h
 try simp only [hv, go_sem]
 refine bB h fun g0 h => ?_
 exact aK hF [.tmp 6] rfl rfl rfl (aE h) xAd
attribute [go_sem] aBp
end
end Nu
end Go.Proofs
