import Derived.Test.YtcpnniahnmjnpaaGreatDoorZL6
import Derived.Test.YtcpnniahnmjnpaaGreatDoorProg
import Derived.KernelRfl
import Derived.Laws.Externs
set_option linter.unusedVariables false
set_option linter.unusedSimpArgs false
namespace Go.Proofs
open Go.Vc
set_option maxRecDepth 20000
namespace Nu
abbrev qd := List Nat
@[go_sem]abbrev qe : Ty := .i .i64
@[go_sem]abbrev qh : Mk := .pair .no (.pair (.sl 87 .no) (.pair (.sl 123 .no) (.pair (.sl 9 .no) (.pair (.sl 89 .no) .no))))
abbrev qn := Int × (Int × (qd × Unit))
abbrev qp := Int × Unit
@[go_sem]abbrev qr : Ty := .pair .str (.pair .expr .unit)
abbrev qt := Bool × (qd × qp)
abbrev qv := List qd
abbrev qw := qd × (qd × Unit)
@[go_sem]abbrev qx : Ty := .u .u64
abbrev qz := qd × (Ex × Unit)
abbrev q8 := (Int × qp) × Unit
@[go_sem]abbrev q9 : Ty := .pair qe .unit
abbrev wa := qd × (qw × (Ex × Unit))
abbrev wd := qd × (qw × Unit)
@[go_sem]abbrev we : Ty := .sl qx
@[go_sem]abbrev wg : Ty := .sl .str
@[go_sem]abbrev wh : Ty := .pair .str .unit
abbrev wj := Int × Int
@[go_sem]abbrev wl : Ty := .arr 2 qe
abbrev wm := Bool × Unit
@[go_sem]abbrev wn : Ty := .pair qx (.pair qx .unit)
abbrev wo := List Bool
@[go_sem]abbrev wq : Ty := .pair .bool .unit
abbrev ws := qv × Unit
abbrev wt := List qz
abbrev wv := Int × (Unit × Unit)
@[go_sem]abbrev ww : Ty := .u .u8
abbrev wx := List Ex
@[go_sem]abbrev wy : Ty := .pair (.rp wg) .unit
abbrev qc := qd × ((List wa) × ((List wd) × (qv × (wt × Unit))))
@[go_sem]abbrev qg : Ty := .pair .str wh
abbrev qi := qd × (Int × qp)
@[go_sem]abbrev qk : Ty := .pair qe (.pair qe wh)
@[go_sem]abbrev ql : Ty := .pair .bool (.pair we q9)
abbrev qm := qd × (qd × qw)
@[go_sem]abbrev qo : Ty := .pair qe q9
@[go_sem]abbrev qq : Ty := .pair .str (.pair qg (.pair .expr .unit))
@[go_sem]abbrev qs : Ty := .pair .str (.pair .str qg)
@[go_sem]abbrev qu : Ty := .pair .str (.pair qg .unit)
@[go_sem]abbrev qy : Ty := .pair .str qo
abbrev wb := Ex × qi
abbrev wc := List qm
@[go_sem]abbrev wi : Ty := .pair qo .unit
@[go_sem]abbrev wk : Ty := .pair ww .unit
abbrev wu := List qc
@[go_sem]abbrev qa : Ty := .pair .str (.pair (.sl qq) (.pair (.sl qu) (.pair wg (.pair (.sl qr) .unit))))
abbrev qf := Int × (Int × (Int × (Int × (qd × (qd × (qd × (qd × (wu × (wc × Unit)))))))))
@[go_sem]abbrev qj : Ty := .pair qe (.pair qe (.pair qe (.pair qe (.pair .str (.pair .str (.pair .str (.pair .str (.pair (.sl qa) (.pair (.sl qs) .unit)))))))))
theorem zaA {p : Prop} (h : p := by
 refine aL (aJ 1 rfl aH) ?_
 simp only [go_sem]
 refine bO [0, 1] rfl rfl ?_
 simp only [ren, cQ, dB, posOf, bF, go_sem]
 refine aY rfl rfl rfl rfl) : p := h
theorem zaB {p : Prop} (h : p := by
 subst hi
 simp only [go_sem]
 try (refine ⟨by decide, ?_⟩)
 unfold anyS
 intro i hi
 have hi : i = 4 := by revert hi; revert i; decide
 subst hi
 simp only [go_sem]
 try (refine ⟨by decide, ?_⟩)
 unfold anyS
 intro i hi
 have hi : i = 5 := by revert hi; revert i; decide
 subst hi
 simp only [go_sem]
 try (refine ⟨by decide, ?_⟩)
 (simp only [anyS, go_sem]) <;> first | exact ⟨rfl, rfl⟩ | trivial) : p := h
theorem zaC {p : Prop} (h : p := by
 (try simp only [aS, jD, iY, dP, cT, AV.isAgg, go_sem]) <;> first | trivial | rfl | (simp; done)) : p := h
theorem zaD {p : Prop} (h : p := by
 exact aK hF [.tmp 4] rfl rfl rfl (aE h) (by simp only [aS, go_sem])) : p := h
theorem zaE {p : Prop} (h : p := by
 simp only [go_sem]
 repeat (refine ⟨zAA, ?_⟩)
 obtain rfl := Option.some.inj h
 refine aO (bO [0] rfl rfl ?_)
 simp only [ren, cQ, dB, posOf, bF, go_sem]
 refine aL (aJ 0 rfl aH) ?_
 refine aY rfl rfl rfl rfl) : p := h
theorem zaF {p : Prop} (h : p := by
 refine fN h (fun hc h => ?_) fun hc h => ?_
 ·refine aZ h fun g0 h => ?_
  refine aZ h fun g0 h => ?_
  obtain ⟨v_28, hv, h⟩ := aN h
  try simp only [hv, go_sem]
  refine aC3 h (fun hc h => ?_) fun hc h => ?_
  ·replace h := hE4 _ (aE h)
   try dsimp only at h
   exact aK hF [.tmp 6] rfl rfl rfl (aE h) (by simp only [aS, go_sem])
  ·refine aZ h fun g0 h => ?_
   replace h := hA4 _ (aE h)
   refine gT [] rfl rfl ?_
   simp only [go_sem]
   exact bB _ h rfl (by simp only [go_sem])
 ·replace h := hE4 _ (aE h)
  try dsimp only at h
  exact aK hF [.tmp 6] rfl rfl rfl (aE h) (by simp only [aS, go_sem])) : p := h
theorem zaG {p : Prop} (h : p := by
 exact aK hF [.tmp 2] rfl rfl rfl (aE h) (by simp only [aS, go_sem])) : p := h
theorem zaH {p : Prop} (h : p := by
 repeat (refine ⟨zAA, ?_⟩)
 obtain rfl := Option.some.inj h
 refine aO (bO [] rfl rfl ?_)
 simp only [ren, cQ, dB, posOf, bF, go_sem]
 refine aY rfl rfl rfl rfl) : p := h
theorem zaI {p : Prop} (h : p := by
 try (refine ⟨by decide, ?_⟩)
 unfold anyS
 intro i hi
 have hi : i = 2 ∨ i = 3 := by revert hi; revert i; decide
 rcases hi with rfl | rfl
 ·simp only [go_sem]
  try (refine ⟨by decide, ?_⟩)
  unfold anyS
  intro i hi
  have hi : i = 3 := by revert hi; revert i; decide
  exact zaB
 ·simp only [go_sem]
  try (refine ⟨by decide, ?_⟩)
  unfold anyS
  intro i hi
  have hi : i = 2 := by revert hi; revert i; decide
  exact zaB) : p := h
theorem zaJ {p : Prop} (h : p := by
 simp only [go_sem]
 repeat (refine ⟨zAA, ?_⟩)
 obtain rfl := Option.some.inj h
 refine aO (bW (aO (aL (kU 0 rfl aH) ?_)))
 exact zaA) : p := h
theorem zaK {p : Prop} (h : p := by
 repeat (refine ⟨zAA, ?_⟩)
 obtain rfl := Option.some.inj h
 refine aO (aL (aJ 0 rfl aH) ?_)
 refine aY rfl rfl rfl rfl) : p := h
theorem zaL {p : Prop} (h : p := by
 simp only [go_sem]
 repeat (refine ⟨zAA, ?_⟩)
 obtain rfl := Option.some.inj h
 refine gF (dS hF [] rfl rfl rfl rfl rfl rfl ?_)
 exact zaC) : p := h
theorem zaM {p : Prop} (h : p := by
 subst hi
 simp only [go_sem]
 skip
 unfold anyS
 intro i hi
 have hi : i = 4 := by revert hi; revert i; decide
 subst hi
 simp only [go_sem]
 skip
 (simp only [anyS, go_sem]) <;> first | exact ⟨rfl, rfl⟩ | trivial) : p := h
theorem zaN {p : Prop} (h : p := by
 (repeat' apply And.intro) <;> first | trivial | rfl | with_reducible assumption | omega | (intros; first | with_reducible assumption | omega) | (simp; done) | (simp at *; omega)) : p := h
theorem zaO {p : Prop} (h : p := by
 exact bB _ h rfl (by simp only [go_sem])) : p := h
theorem zaP {p : Prop} (h : p := by
 simp only [go_sem]
 repeat (refine ⟨zAA, ?_⟩)
 obtain rfl := Option.some.inj h
 refine aO (bW (aO (aL (aJ 0 rfl aH) ?_)))
 exact zaA) : p := h
theorem zaQ {p : Prop} (h : p := by
 refine fN h (fun hc h => ?_) fun hc h => ?_
 ·refine aZ h fun g0 h => ?_
  obtain ⟨v_27, hv, h⟩ := aN h
  try simp only [hv, go_sem]
  refine aHc h (fun hc h => ?_) fun hc h => ?_
  ·replace h := hE2 _ (aE h)
   try dsimp only at h
   exact zaD
  ·refine aZ h fun g0 h => ?_
   replace h := hA2 _ (aE h)
   exact zaO
 ·replace h := hE2 _ (aE h)
  try dsimp only at h
  exact zaD) : p := h
theorem zaR {p : Prop} (h : p := by
 simp only [ren, cQ, dB, posOf, bF, go_sem]
 refine dS hF [] rfl rfl rfl rfl rfl rfl ?_
 exact zaC) : p := h
theorem zaS {p : Prop} (h : p := by
 repeat (refine ⟨zAA, ?_⟩)
 refine aA (aB (aF hF [2] ?_))
 simp only [go_sem]
 obtain rfl := Option.some.inj h
 refine aA (cA (dS hF [.tmp 2] rfl rfl rfl rfl rfl rfl ?_))
 exact zaC) : p := h
theorem zaT {p : Prop} (h : p := by
 simp only [go_sem]
 repeat (refine ⟨zAA, ?_⟩)
 obtain rfl := Option.some.inj h
 refine aL (aJ 0 rfl aH) ?_
 exact zaA) : p := h
theorem zaU {p : Prop} (h : p := by
 simp only [go_sem]
 repeat (refine ⟨zAA, ?_⟩)
 obtain rfl := Option.some.inj h
 refine aL (aJ 0 rfl aH) ?_
 refine aY rfl rfl rfl rfl) : p := h
theorem zaV {p : Prop} (h : p := by
 simp only [ren, cQ, dB, posOf, bF, go_sem]
 refine gF (dS hF [] rfl rfl rfl rfl rfl rfl ?_)
 simp only [aS, jD, iY, go_sem]
 try decide) : p := h
theorem zaW {p : Prop} (h : p := by
 simp only [go_sem]
 repeat (refine ⟨zAA, ?_⟩)
 obtain rfl := Option.some.inj h
 refine bW (aO (aL (aJ 0 rfl aH) ?_))
 exact zaA) : p := h
theorem zaX {p : Prop} (h : p := by
 simp only [go_sem]
 repeat (refine ⟨zAA, ?_⟩)
 obtain rfl := Option.some.inj h
 refine aO (bW (aL (aJ 0 rfl aH) ?_))
 exact zaA) : p := h
theorem zaY {p : Prop} (h : p := by
 repeat (refine ⟨zAA, ?_⟩)
 first | (refine ⟨fun hx => by first | (exfalso; omega) | (exfalso; simp_all; done), fun _ => ?_⟩) | (with_reducible intro _) | skip
 repeat (refine ⟨zAA, ?_⟩)
 first | (refine ⟨fun hx => by first | (exfalso; omega) | (exfalso; simp_all; done), fun _ => ?_⟩) | (with_reducible intro _) | skip
 exact zaK) : p := h
theorem zaZ {p : Prop} (h : p := by
 try simp only [hv, go_sem]
 exact zaD) : p := h
theorem zaa {p : Prop} (h : p := by
 obtain rfl := Option.some.inj h
 refine aA (cA (jO hF [.cell 2 27] [0] rfl rfl rfl rfl rfl rfl rfl rfl rfl ?_))
 exact zaC) : p := h
theorem zab {p : Prop} (h : p := by
 simp only [go_sem]
 repeat (refine ⟨zAA, ?_⟩)
 obtain rfl := Option.some.inj h
 refine aO (aH8 (aL (aJ 0 rfl aH) ?_))
 refine aL (aJ 1 rfl aH) ?_
 refine aL (aJ 2 rfl aH) ?_
 simp only [go_sem]
 refine aCf (fn := Tryz.f11) (k := 3) (l2 := [0, 1, 2]) hF rfl rfl (by decide) rfl (rO (by kernel_rfl)) ⟨eP (((0 : Int), (0 : Int), ()), ()), [0, 1, 2], ()⟩ (vF (((0 : Int), (0 : Int), ()), ())) rfl [.cell 2 36, .cell 3 38, .cell 4 3] rfl ?_ ?_
 ·(simp only [eP, go_sem]) <;> first | decide | trivial
 ·(simp only [eP, aS, iQ, go_sem]) <;> first | decide | trivial | rfl | (simp; done)) : p := h
theorem zac {p : Prop} (h : p := by
 subst hi
 simp only [go_sem]
 repeat (refine ⟨zAA, ?_⟩)
 unfold anyS
 intro i hi
 have hi : i = 3 := by revert hi; revert i; decide
 subst hi
 simp only [go_sem]
 repeat (refine ⟨zAA, ?_⟩)
 (simp only [anyS, go_sem]) <;> first | exact ⟨rfl, rfl⟩ | trivial) : p := h
theorem zad {p : Prop} (h : p := by
 refine aB (aF hF [0, 2] ?_)
 simp only [go_sem]
 refine aA (aB (aB (aQN hF rfl rfl rfl fun b hb => ?_)))
 refine aA (bG rfl (fun hc => ?_) (fun hc => ?_))
 ·have hs := hb hc
  refine aB (aF hF [2] ?_)
  simp only [go_sem]
  refine aA (cA (cR (iZ hF [.tmp 2] rfl rfl rfl ?_)))
  simp only [iQ, aS, go_sem, hs]
  try trivial
 ·refine cH (aA (aB (aR hF [2] ?_)))
  simp only [go_sem]
  refine ⟨by omega, ?_⟩
  refine aA (cA (iZ hF [.tmp 2] rfl rfl rfl ?_))
  simp only [iQ, aS, go_sem]
  try trivial) : p := h
theorem zae {p : Prop} (h : p := by
 refine fN h (fun hc h => ?_) fun hc h => ?_
 ·obtain ⟨g0, h⟩ := aQ h
  obtain ⟨g1, h⟩ := aQ h
  repeat (refine ⟨zAA, ?_⟩)
  refine ⟨fun hc => ?_, fun hc => ?_⟩
  ·replace h := jE zAB h
   replace h := hE4 _ (aE h)
   try dsimp only at h
   exact zaD
  ·replace h := jF zAB h
   obtain ⟨g0, h⟩ := aQ h
   try simp only [I64, I32] at g0
   repeat (refine ⟨zAA, ?_⟩)
   replace h := hA4 _ (aE h)
   exact zaO
 ·replace h := hE4 _ (aE h)
  try dsimp only at h
  exact zaD) : p := h
theorem zaf {p : Prop} (h : p := by
 repeat (refine ⟨zAA, ?_⟩)
 first | (refine ⟨fun hx => by first | (exfalso; omega) | (exfalso; simp_all; done), fun _ => ?_⟩) | (with_reducible intro _) | skip
 repeat (refine ⟨zAA, ?_⟩)
 first | (refine ⟨fun hx => by first | (exfalso; omega) | (exfalso; simp_all; done), fun _ => ?_⟩) | (with_reducible intro _) | skip
 repeat (refine ⟨zAA, ?_⟩)
 refine aA (aB (aF hF [2, 3] ?_))
 simp only [go_sem]
 obtain rfl := Option.some.inj h
 refine aA (cA (dS hF [.tmp 2, .tmp 3] rfl rfl rfl rfl rfl rfl ?_))
 exact zaC) : p := h
theorem zag {p : Prop} (h : p := by
 try (refine ⟨by decide, ?_⟩)
 unfold anyS
 intro i hi
 have hi : i = 1 ∨ i = 3 := by revert hi; revert i; decide
 rcases hi with rfl | rfl
 ·simp only [go_sem]
  exact zaI
 ·simp only [go_sem]
  try (refine ⟨by decide, ?_⟩)
  unfold anyS
  intro i hi
  have hi : i = 1 := by revert hi; revert i; decide
  subst hi
  simp only [go_sem]
  try (refine ⟨by decide, ?_⟩)
  unfold anyS
  intro i hi
  have hi : i = 2 := by revert hi; revert i; decide
  exact zaB) : p := h
theorem zah {p : Prop} (h : p := by
 unfold anyS
 intro i hi
 have hi : i = 0 ∨ i = 1 := by revert hi; revert i; decide
 rcases hi with rfl | rfl
 ·simp only [go_sem]
  exact zag
 ·simp only [go_sem]
  try (refine ⟨by decide, ?_⟩)
  unfold anyS
  intro i hi
  have hi : i = 0 ∨ i = 2 := by revert hi; revert i; decide
  rcases hi with rfl | rfl
  ·simp only [go_sem]
   exact zaI
  ·simp only [go_sem]
   try (refine ⟨by decide, ?_⟩)
   unfold anyS
   intro i hi
   have hi : i = 0 := by revert hi; revert i; decide
   subst hi
   simp only [go_sem]
   try (refine ⟨by decide, ?_⟩)
   unfold anyS
   intro i hi
   have hi : i = 3 := by revert hi; revert i; decide
   exact zaB) : p := h
theorem zai {p : Prop} (h : p := by
 refine ⟨fun hc => ?_, fun hc => ?_⟩
 ·replace h := jE hc h
  exact zaD
 ·replace h := jF hc h
  refine aZ h fun g0 h => ?_
  refine ⟨fun hc => ?_, fun hc => ?_⟩
  ·replace h := jE hc h
   refine aZ h fun g0 h => ?_
   obtain ⟨v_8, hv, h⟩ := aN h
   exact zaZ
  ·replace h := jF hc h
   obtain ⟨v_13, hv, h⟩ := aN h
   try simp only [hv, go_sem]
   refine aHc h (fun hc h => ?_) fun hc h => ?_
   ·obtain ⟨v_17, hv, h⟩ := aN h
    exact zaZ
   ·exact aBp h) : p := h
theorem zaj {p : Prop} (h : p := by
 simp only [go_sem]
 repeat (refine ⟨zAA, ?_⟩)
 obtain rfl := Option.some.inj h
 refine aL (kU 0 rfl aH) ?_
 exact zaA) : p := h
theorem zak {p : Prop} (h : p := by
 simp only [go_sem]
 (repeat' apply And.intro) <;> try (first | trivial | rfl | with_reducible assumption | omega | (intros; first | with_reducible assumption | omega) | (simp; done) | (simp at *; omega))
 obtain rfl := Option.some.inj h
 dsimp only [mX] at hs2
 have h := hs2
 try dsimp only at h
 obtain rfl := Option.some.inj h
 refine bW (aO (bW (bO [0] rfl rfl ?_)))
 simp only [ren, cQ, dB, posOf, bF, go_sem]
 refine aL (aJ 0 rfl aH) ?_
 refine aY rfl rfl rfl rfl) : p := h
theorem zal {p : Prop} (h : p := by
 refine aB (aR hF [3, 4, 5, 6] ?_)
 simp only [go_sem]
 refine aA (aB (aBo 0 rfl ?_))
 simp only [go_sem]
 refine aBo 1 rfl ?_
 simp only [go_sem]
 refine aBo 2 rfl ?_
 simp only [go_sem]
 refine aR hF [6, 7] ?_
 simp only [go_sem]
 obtain ⟨g0, h⟩ := aP h
 repeat (refine ⟨zAA, ?_⟩)
 obtain rfl := Option.some.inj h
 refine aA (cA (iZ hF [.cell 6 128, .tmp 7] rfl rfl rfl ?_))
 exact zAG) : p := h
theorem zam {p : Prop} (h : p := by
 skip
 unfold anyS
 intro i hi
 have hi : i = 2 ∨ i = 3 := by revert hi; revert i; decide
 rcases hi with rfl | rfl
 ·simp only [go_sem]
  skip
  unfold anyS
  intro i hi
  have hi : i = 3 := by revert hi; revert i; decide
  exact zaM
 ·simp only [go_sem]
  skip
  unfold anyS
  intro i hi
  have hi : i = 2 := by revert hi; revert i; decide
  exact zaM) : p := h
theorem zan {p : Prop} (h : p := by
 try dsimp only at h
 exact zaD) : p := h
theorem zao {p : Prop} (h : p := by
 simp only [ren, cQ, dB, posOf, bF, go_sem]
 refine aL (aJ 0 rfl aH) ?_
 refine aY rfl rfl rfl rfl) : p := h
theorem zap {p : Prop} (h : p := by
 simp only [go_sem]
 refine ⟨hq, ?_⟩
 refine aO ?_
 refine aCf (fn := Tryz.f147) (k := 2) (l2 := [0, 1]) hF' rfl rfl (by decide) rfl (rO (by kernel_rfl)) ⟨oH q, [0, 1], ((false, ([] : List Nat), (0 : Int), ()), 0)⟩ (aHg q) rfl [.cell 2 128, .cell 3 3] rfl ?_ ?_
 ·(simp only [oH, go_sem]) <;> first | decide | trivial
 ·(simp only [oH, aS, iQ, go_sem]) <;> first | decide | trivial) : p := h
theorem zaq {p : Prop} (h : p := by
 repeat (refine ⟨zAA, ?_⟩)
 refine ⟨fun _ => ?_, fun hx => by first | (exfalso; omega) | (exfalso; simp_all; done)⟩
 repeat (refine ⟨zAA, ?_⟩)
 refine ⟨fun _ => ?_, fun hx => by first | (exfalso; omega) | (exfalso; simp_all; done)⟩
 repeat (refine ⟨zAA, ?_⟩)
 refine ⟨fun _ => ?_, fun hx => by first | (exfalso; omega) | (exfalso; simp_all; done)⟩
 exact zaK) : p := h
theorem zar {p : Prop} (h : p := by
 have h := eB zAB h
 refine aB (aF hF [2] ?_)
 simp only [go_sem]
 obtain rfl := Option.some.inj h
 refine aA (cA (gE (cR (iZ hF [.tmp 2] rfl rfl rfl ?_))))
 exact zAG) : p := h
theorem zas {p : Prop} (h : p := by
 simp only [go_sem]
 repeat (refine ⟨zAA, ?_⟩)
 obtain rfl := Option.some.inj h
 refine aA (cA (jO hF [.cell 3 128] [] rfl rfl rfl rfl rfl rfl rfl rfl rfl ?_))
 exact zaC) : p := h
theorem zat {p : Prop} (h : p := by
 simp only [go_sem]
 refine ⟨hq, ?_⟩
 refine aA (cA ?_)
 refine aN3 (fn := Tryz.f147) (k := 2) (l2 := [0, 1]) hF' rfl rfl (by decide) rfl (rO (by kernel_rfl)) ⟨oG, [0, 1], (q, 0)⟩ aHf rfl [.cell 2 128, .cell 3 3] rfl ?_ ?_
 ·(simp only [oG, go_sem]) <;> first | decide | trivial
 ·(simp only [oG, aS, iQ, go_sem]) <;> first | decide | trivial) : p := h
theorem zau {p : Prop} (h : p := by
 have h := eB zAB h
 refine aB (aR hF [8] ?_)
 simp only [go_sem]
 obtain rfl := Option.some.inj h
 dsimp only [mX] at hs2
 have h := hs2
 try dsimp only at h
 obtain rfl := Option.some.inj h
 refine aA (cA (cR (gE (cR (gE (jO hF [.cell 8 27] [0] rfl rfl rfl rfl rfl rfl rfl rfl rfl ?_))))))
 exact zaC) : p := h
theorem zav {p : Prop} (h : p := by
 repeat (refine ⟨zAA, ?_⟩)
 first | (refine ⟨fun hx => by first | (exfalso; omega) | (exfalso; simp_all; done), fun _ => ?_⟩) | (with_reducible intro _) | skip
 repeat (refine ⟨zAA, ?_⟩)
 first | (refine ⟨fun hx => by first | (exfalso; omega) | (exfalso; simp_all; done), fun _ => ?_⟩) | (with_reducible intro _) | skip
 exact zaH) : p := h
theorem zaw {p : Prop} (h : p := by
 refine aA (aB (aC hF (aG (l := [(53, ⟨bM F, [0], (o0_1, .inr p_8)⟩)]) (.cons (bR F) (by kernel_rfl) (.nil))) [0, 3] [] ?_))
 simp only [go_sem]
 exact zaK) : p := h
theorem zax {p : Prop} (h : p := by
 exact aK hF [.tmp 2, .tmp 3, .tmp 4] rfl rfl rfl (aE h) (by simp only [aS, go_sem])) : p := h
theorem zay {p : Prop} (h : p := by
 simp only [go_sem]
 repeat (refine ⟨zAA, ?_⟩)
 obtain rfl := Option.some.inj h
 refine bW (aL (aJ 0 rfl aH) ?_)
 exact zaA) : p := h
theorem zaz {p : Prop} (h : p := by
 try dsimp only at h
 exact zaG) : p := h
theorem za0 {p : Prop} (h : p := by
 exact bB _ h rfl (by (try simp only [mA, dP, true_or, and_self, go_sem]) <;> (repeat' apply And.intro) <;> first | rfl | (left; rfl) | (right; rfl) | (left; simp only [go_sem]; done) | (right; simp only [go_sem]; done) | (simp; done) | (simp only [*]; done) | omega)) : p := h
theorem za1 {p : Prop} (h : p := by
 repeat (refine ⟨zAA, ?_⟩)
 refine ⟨fun _ => ?_, fun hx => by first | (exfalso; omega) | (exfalso; simp_all; done)⟩
 repeat (refine ⟨zAA, ?_⟩)
 refine ⟨fun _ => ?_, fun hx => by first | (exfalso; omega) | (exfalso; simp_all; done)⟩
 exact zaH) : p := h
theorem za2 {p : Prop} (h : p := by
 have h := eC zAB h
 obtain rfl := Option.some.inj h
 refine cH (gF (dS hF [] rfl rfl rfl rfl rfl rfl ?_))
 exact zaC) : p := h
theorem za3 {p : Prop} (h : p := by
 simp only [go_sem]
 refine aB (aF hF [0, 1, 2, 3, 10] ?_)
 simp only [go_sem]
 refine aA (bG rfl (fun hc => absurd hc (by decide)) (fun hc => ?_))
 refine cH ?_
 refine gT [0, 1, 2] rfl rfl ?_
 exact zaV) : p := h
theorem za4 {p : Prop} (h : p := by
 simp only [go_sem]
 exact zaO) : p := h
theorem za5 {p : Prop} (h : p := by
 try simp only [hv, go_sem]
 refine aZ h fun g0 h => ?_
 exact zaG) : p := h
theorem za6 {p : Prop} (h : p := by
 simp only [go_sem]
 repeat (refine ⟨zAA, ?_⟩)
 obtain rfl := Option.some.inj h
 refine aA (cA (gE (cR (jO hF [.cell 2 27] [0] rfl rfl rfl rfl rfl rfl rfl rfl rfl ?_))))
 exact zaC) : p := h
theorem za7 {p : Prop} (h : p := by
 obtain rfl := Option.some.inj h
 refine aA (cA (iZ hF [.tmp 2] rfl rfl rfl ?_))
 exact zAG) : p := h
theorem za8 {p : Prop} (h : p := by
 simp only [go_sem]
 repeat (refine ⟨zAA, ?_⟩)
 obtain rfl := Option.some.inj h
 refine aA (cA (cR (jO hF [.cell 2 27] [0] rfl rfl rfl rfl rfl rfl rfl rfl rfl ?_)))
 exact zaC) : p := h
theorem za9 {p : Prop} (h : p := by
 refine aHc h (fun hc h => ?_) fun hc h => ?_
 ·exact aK hF [.tmp 2] rfl rfl rfl (aE h) (by simp only [aS, go_sem])
 ·exact aK hF [.tmp 2] rfl rfl rfl (aE h) (by simp only [aS, go_sem])) : p := h
theorem zbA {p : Prop} (h : p := by
 simp only [go_sem]
 obtain ⟨g0, h⟩ := aP h
 repeat (refine ⟨zAE, ?_⟩)
 obtain rfl := Option.some.inj h
 refine aA (cA (iZ hF [.tmp 4] rfl rfl rfl ?_))
 exact zAG) : p := h
theorem zbB {p : Prop} (h : p := by
 have h := eB zAB h
 refine aB (aF hF [2] ?_)
 simp only [go_sem]
 obtain rfl := Option.some.inj h
 refine aA (cA (cR (iZ hF [.tmp 2] rfl rfl rfl ?_)))
 exact zAG) : p := h
noncomputable section
theorem zAA {p : Prop} (h : p := by first | with_reducible assumption | omega | (intros; first | with_reducible assumption | omega) | (simp only [go_sem] at *; first | with_reducible assumption | omega) | (intro _; exact ⟨rfl, by decide⟩) | (intro _; refine (?_ : _ = aD _); rfl) | (refine (?_ : _ = aD _); rfl) | exact ⟨rfl, rfl⟩ | decide) : p := h
theorem zAB {p : Prop} (h : p := by first | exact hc | omega | (simpa using hc) | (simp at hc ⊢; omega)) : p := h
theorem zAC {p : Prop} (h : p := by first | with_reducible assumption | omega | (intros; first | with_reducible assumption | omega) | (simp only [go_sem] at *; first | with_reducible assumption | omega) | (intro _; exact ⟨rfl, by decide⟩) | (intro _; refine (?_ : _ = aD _); rfl) | (refine (?_ : _ = aD _); rfl) | exact ⟨rfl, rfl⟩ | (intro q0; (try have e0 := g0 (by first | exact q0 | omega | (simpa using q0))); (try have e1 := g1 (by first | exact q0 | omega | (simpa using q0))); first | assumption | omega) | decide) : p := h
theorem zAD {p : Prop} (h : p := by first | with_reducible assumption | omega | (intros; first | with_reducible assumption | omega) | (simp only [go_sem] at *; first | with_reducible assumption | omega) | (intro _; exact ⟨rfl, by decide⟩) | (intro _; refine (?_ : _ = aD _); rfl) | (refine (?_ : _ = aD _); rfl) | exact ⟨rfl, rfl⟩ | decide | ((repeat' apply And.intro) <;> first | assumption | rfl | omega) | fail) : p := h
theorem zAE {p : Prop} (h : p := by first | with_reducible assumption | omega | (intros; first | with_reducible assumption | omega) | (simp only [go_sem] at *; first | with_reducible assumption | omega) | (intro _; exact ⟨rfl, by decide⟩) | (intro _; refine (?_ : _ = aD _); rfl) | (refine (?_ : _ = aD _); rfl) | exact ⟨rfl, rfl⟩ | (intro q0; (try have e0 := g0 (by first | exact q0 | omega | (simpa using q0))); first | assumption | omega) | decide) : p := h
theorem zAF {p : Prop} (h : p := by (try simp only [mA, dP, true_or, and_self, go_sem]) <;> (repeat' apply And.intro) <;> first | rfl | (left; rfl) | (right; rfl) | (left; simp only [go_sem]; done) | (right; simp only [go_sem]; done) | (simp; done) | (simp only [*]; done) | omega) : p := h
theorem zAG {p : Prop} (h : p := by (try simp only [iQ, aS, go_sem]) <;> first | rfl | (simp; done)) : p := h
def aWo : List Nat := [0, 1, 56, 2, 57, 49, 28, 3, 61, 58, 42, 50, 38, 29, 17, 4, 62, 47, 59, 36, 45, 43, 51, 22, 53, 39, 33, 30, 24, 18, 12, 5, 63, 55, 48, 27, 60, 41, 37, 16, 46, 35, 44, 21, 52, 32, 23, 11, 54, 26, 40, 15, 34, 20, 31, 10, 25, 14, 19, 9, 13, 8, 7, 6]
theorem aXm : aWo = [0, 1, 56, 2, 57, 49, 28, 3, 61, 58, 42, 50, 38, 29, 17, 4, 62, 47, 59, 36, 45, 43, 51, 22, 53, 39, 33, 30, 24, 18, 12, 5, 63, 55, 48, 27, 60, 41, 37, 16, 46, 35, 44, 21, 52, 32, 23, 11, 54, 26, 40, 15, 34, 20, 31, 10, 25, 14, 19, 9, 13, 8, 7, 6] := rfl
def p10 : List Nat := [1, 10, 100, 1000, 10000, 100000, 1000000, 10000000, 100000000, 1000000000, 10000000000, 100000000000, 1000000000000, 10000000000000, 100000000000000, 1000000000000000, 10000000000000000, 100000000000000000, 1000000000000000000, 10000000000000000000]
theorem aX0 : p10 = [1, 10, 100, 1000, 10000, 100000, 1000000, 10000000, 100000000, 1000000000, 10000000000, 100000000000, 1000000000000, 10000000000000, 100000000000000, 1000000000000000, 10000000000000000, 100000000000000000, 1000000000000000000, 10000000000000000000] := rfl
class Mx where
 v : Int
def GL [Mx] : Nat → AV
 | 7 => .roa (.arr 64 ww) aWo
 | 8 => .roa (.arr 20 qx) p10
 | 0 => .roa qe Mx.v
 | _ => .junk
theorem GL0 [Mx] : GL 7 = .roa (.arr 64 ww) aWo := rfl
theorem GL3 [Mx] : GL 8 = .roa (.arr 20 qx) p10 := rfl
theorem GLm [Mx] : GL 0 = .roa qe Mx.v := rfl
attribute [go_sem] GLm GL0 GL3 mSpec
def tab : List (TypeId × Ty) := [(201, .clo 153 .unit), (2, .i .i64), (3, .i .i64), (4, .bool), (5, .u .u8), (9, .str), (21, .i .i32), (22, .sl qe), (24, .u .u64), (25, .sl .expr), (27, .expr), (32, .sl .str), (33, .sl qa), (34, .sl qs), (36, .pair qe (.pair qe (.pair qe (.pair qe (.pair .str (.pair .str (.pair .str (.pair .str (.pair (.sl qa) (.pair (.sl qs) .unit)))))))))), (38, .pair qe q9), (49, .sl qq), (50, .sl qu), (51, .sl qr), (53, .pair .str (.pair (.sl qq) (.pair (.sl qu) (.pair wg (.pair (.sl qr) .unit))))), (56, .pair qe .unit), (60, .pair .str qo), (65, .pair qo .unit), (73, .pair qe (.pair qe wh)), (83, .pair .str (.pair .str qg)), (85, .pair .str wh), (87, .pair .str (.pair qg (.pair .expr .unit))), (89, .pair .str (.pair .expr .unit)), (96, .arr 2 qe), (102, .arr 256 (.bool)), (123, .pair .str (.pair qg .unit)), (125, .sl ql), (126, .sl qx), (128, .pair .bool (.pair we q9)), (149, .nilf), (157, .nili), (169, .u .u64), (174, .sl wg), (194, .sl ww), (208, .u .u32), (212, .i .i64), (219, .pair qe .unit), (223, .arr 256 ww), (225, .pair ww wk), (226, .arr 16 (.pair ww wk)), (239, .pair .str .unit), (240, .arr 64 ww), (242, .arr 24 ww), (246, .arr 20 qx), (247, .arr 65 ww), (250, .arr 32 ww)]
def elT : TypeId → TypeId
 | 22 => 3
 | 25 => 27
 | 32 => 9
 | 33 => 53
 | 34 => 83
 | 49 => 87
 | 50 => 123
 | 51 => 89
 | 125 => 128
 | 126 => 169
 | 174 => 32
 | 194 => 5
 | _ => 0
def mpT : TypeId → Option (TypeId × TypeId)
 | 90 => some (9, 9)
 | 110 => some (9, 3)
 | 142 => some (9, 4)
 | _ => none
theorem aSv : kG Tryz.prog (aIl tab) := aU5 (by kernel_rfl)
theorem aYc : ∀ t ct, aIl tab t = some (.sl ct) → Tryz.prog.underlying t = some (.slice (elT t)) := aWT (by kernel_rfl)
theorem aYd : ∀ t k e, mpT t = some (k, e) → Tryz.prog.underlying t = some (.map k e) := by
 intro t k e h
 unfold mpT at h
 split at h
 ·cases h; rfl
 ·cases h; rfl
 ·cases h; rfl
 ·cases h
def TM : Tab := aIl tab
def EM [Mx] (l : List (FuncId × aI)) : Env := ⟨TM, GL, fun f _ => gam l f, elT, mpT, fun _ => none, fun _ => false⟩
def dmT : TypeId → Option Mk
 | 32 => some .no
 | 33 => some qh
 | 34 => some .no
 | 49 => some .no
 | 50 => some .no
 | 51 => some .no
 | _ => none
def dzT : TypeId → Bool
 | 36 => true
 | 53 => true
 | _ => false
def EX [Mx] (l : List (FuncId × aI)) : Env := ⟨TM, GL, fun f _ => gam l f, elT, mpT, dmT, dzT⟩
theorem aYt [Mx] (l : List (FuncId × aI)) (t : TypeId) : (EM l).T t = TM t := rfl
theorem aYu [Mx] (l : List (FuncId × aI)) (t : Nat) : (EM l).G t = GL t := rfl
theorem aYv [Mx] (l : List (FuncId × aI)) (f : FuncId) (vs : List AV) : (EM l).Γ f vs = gam l f := rfl
theorem aYe [Mx] (l : List (FuncId × aI)) (t : TypeId) : (EM l).el t = elT t := rfl
theorem aYf [Mx] (l : List (FuncId × aI)) (t : TypeId) : (EM l).mp t = mpT t := rfl
theorem aT [Mx] {l : List (FuncId × aI)} (h : bH Tryz.prog GL l) : gV Tryz.prog (EM l) := aSd aSv aYc aYd h
theorem mix : Tryz.prog.follows .mixedOrders = true := by kernel_rfl
theorem aYg [Mx] (l : List (FuncId × aI)) (t : TypeId) : (EM l).dm t = none := rfl
theorem aYh [Mx] (l : List (FuncId × aI)) (t : TypeId) : (EM l).dz t = false := rfl
theorem aYw [Mx] (l : List (FuncId × aI)) (t : TypeId) : (EX l).T t = TM t := rfl
theorem aYx [Mx] (l : List (FuncId × aI)) (t : Nat) : (EX l).G t = GL t := rfl
theorem aYy [Mx] (l : List (FuncId × aI)) (f : FuncId) (vs : List AV) : (EX l).Γ f vs = gam l f := rfl
theorem aYi [Mx] (l : List (FuncId × aI)) (t : TypeId) : (EX l).el t = elT t := rfl
theorem aYj [Mx] (l : List (FuncId × aI)) (t : TypeId) : (EX l).mp t = mpT t := rfl
theorem aYk [Mx] (l : List (FuncId × aI)) (t : TypeId) : (EX l).dm t = dmT t := rfl
theorem aYl [Mx] (l : List (FuncId × aI)) (t : TypeId) : (EX l).dz t = dzT t := rfl
theorem aMv [Mx] {l : List (FuncId × aI)} (h : bH Tryz.prog GL l) : gV Tryz.prog (EX l) := aSd aSv aYc aYd h
attribute [go_sem] aYg aYh aYw aYx aYy aYi aYj aYk aYl dmT dzT
theorem T2 : TM 2 = some qe := rfl
theorem T3 : TM 3 = some qe := rfl
theorem T4 : TM 4 = some (.bool) := rfl
theorem T5 : TM 5 = some ww := rfl
theorem T9 : TM 9 = some (.str) := rfl
theorem T21 : TM 21 = some (.i .i32) := rfl
theorem T22 : TM 22 = some (.sl qe) := rfl
theorem T24 : TM 24 = some qx := rfl
theorem T25 : TM 25 = some (.sl .expr) := rfl
theorem T27 : TM 27 = some (.expr) := rfl
theorem T32 : TM 32 = some wg := rfl
theorem T33 : TM 33 = some (.sl qa) := rfl
theorem T34 : TM 34 = some (.sl qs) := rfl
theorem T36 : TM 36 = some qj := rfl
theorem T38 : TM 38 = some qo := rfl
theorem T49 : TM 49 = some (.sl qq) := rfl
theorem T50 : TM 50 = some (.sl qu) := rfl
theorem T51 : TM 51 = some (.sl qr) := rfl
theorem T53 : TM 53 = some qa := rfl
theorem T56 : TM 56 = some q9 := rfl
theorem T60 : TM 60 = some qy := rfl
theorem T65 : TM 65 = some wi := rfl
theorem T73 : TM 73 = some qk := rfl
theorem T83 : TM 83 = some qs := rfl
theorem T85 : TM 85 = some qg := rfl
theorem T87 : TM 87 = some qq := rfl
theorem T89 : TM 89 = some qr := rfl
theorem T96 : TM 96 = some wl := rfl
theorem aYz : TM 102 = some (.arr 256 (.bool)) := rfl
theorem aYA : TM 123 = some qu := rfl
theorem aYB : TM 125 = some (.sl ql) := rfl
theorem aYC : TM 126 = some we := rfl
theorem aYD : TM 128 = some ql := rfl
theorem aYE : TM 149 = some (.nilf) := rfl
theorem aYF : TM 157 = some (.nili) := rfl
theorem aYG : TM 169 = some qx := rfl
theorem aYH : TM 174 = some (.sl wg) := rfl
theorem aYI : TM 194 = some (.sl ww) := rfl
theorem aYJ : TM 208 = some (.u .u32) := rfl
theorem aYK : TM 212 = some qe := rfl
theorem aYL : TM 219 = some q9 := rfl
theorem aYM : TM 223 = some (.arr 256 ww) := rfl
theorem aYN : TM 225 = some (.pair ww wk) := rfl
theorem aYO : TM 226 = some (.arr 16 (.pair ww wk)) := rfl
theorem aYP : TM 239 = some wh := rfl
theorem aYQ : TM 240 = some (.arr 64 ww) := rfl
theorem aYR : TM 242 = some (.arr 24 ww) := rfl
theorem aYS : TM 246 = some (.arr 20 qx) := rfl
theorem aYT : TM 247 = some (.arr 65 ww) := rfl
theorem aYU : TM 250 = some (.arr 32 ww) := rfl
theorem aYV : TM 201 = some (.clo 153 .unit) := rfl
attribute [go_sem] aYt aYu aYv aYe aYf elT mpT aYV T2 T3 T4 T5 T9 T21 T22 T24 T25 T27 T32 T33 T34 T36 T38 T49 T50 T51 T53 T56 T60 T65 T73 T83 T85 T87 T89 T96 aYz aYA aYB aYC aYD aYE aYF aYG aYH aYI aYJ aYK aYL aYM aYN aYO aYP aYQ aYR aYS aYT aYU
end
end Nu
end Go.Proofs
namespace Go.Proofs
open Go.Vc
set_option maxRecDepth 20000
namespace Nu
noncomputable section
def aFz (x y c : Nat) : Nat × Nat × Unit := ((x + y + c) % 18446744073709551616, (x + y + c) / 18446744073709551616, ())
abbrev aRn (x y c : Nat) : Prop := c ≤ 1
def aJV : Ty := .pair qx wn
def sU : aI := ⟨aJV, .tup wn, fun x => aRn x.1 x.2.1 x.2.2.1, fun x => aFz x.1 x.2.1 x.2.2.1⟩
attribute [go_sem] sU aJV
theorem aRo {w : World} {S : Nat → Prop} {x : Nat} {v : Value} (h : dA w S qx x v) : v = .int .u64 (x : Int) := by
 unfold dA at h
 rw [if_neg (by simp [Ty.isAgg])] at h
 simp only [bD, List.cons.injEq, and_true] at h
 exact h.1
theorem aTk {w : World} {S : Nat → Prop} {vs : List Value} {x : Nat × Nat × Nat × Unit} (h : oP w S (.pair qx wn) x vs) : vs = [.int .u64 (x.1 : Int), .int .u64 (x.2.1 : Int), .int .u64 (x.2.2.1 : Int)] := by
 obtain ⟨v1, r1, rfl, h1, v2, r2, rfl, h2, v3, r3, rfl, h3, h4⟩ := h
 rw [aRo h1, aRo h2, aRo h3]
 have h4 : r3 = [] := h4
 rw [h4]
theorem aWp {w : World} {S : Nat → Prop} {x : Nat} (h : x < 18446744073709551616) : dA w S qx x (.int .u64 (x : Int)) := by
 unfold dA
 rw [if_neg (by simp [Ty.isAgg])]
 refine ⟨rfl, rfl, ?_⟩
 simp [IntKind.max, IntKind.signed, IntKind.bits]; omega
theorem aWq {w : World} {S : Nat → Prop} {x y : Nat} (hx : x < 18446744073709551616) (hy : y < 18446744073709551616) : oP w S wn (x, y, ()) [.int .u64 (x : Int), .int .u64 (y : Int)] :=
 ⟨_, _, rfl, aWp hx, _, _, rfl, aWp hy, rfl⟩
theorem wf_u64 {x : Nat} (h : (Ty.u .u64).wf x) : x < 18446744073709551616 := by
 simp only [Ty.wf, IntKind.max, IntKind.signed, IntKind.bits] at h
 simp at h; omega
theorem aIp [Mx] : NOK Tryz.prog GL 144 sU := by
 refine aXO fun w S vs x ha hp => ?_
 have hp : x.2.2.1 ≤ 1 := hp
 have hw := aJQ _ _ _ ha
 obtain ⟨h1, h2, h3, _⟩ := hw
 have h1 := wf_u64 h1
 have h2 := wf_u64 h2
 rw [aTk ha]
 refine ⟨[.int .u64 (((x.1 + x.2.1 + x.2.2.1) % 18446744073709551616 : Nat) : Int), .int .u64 (((x.1 + x.2.1 + x.2.2.1) / 18446744073709551616 : Nat) : Int)], ?_, aWq (by omega) (by omega)⟩
 rw [run_callFunc_extern Tryz.func144 (by kernel_rfl) (by kernel_rfl) (by kernel_rfl) (e := add64Entry) (by kernel_rfl), run_add64 x.1 x.2.1 x.2.2.1 (by omega) (by omega) (by omega) (by omega)]
 simp only [Result.andThen]
 congr 5 <;> omega
abbrev aWr (s : List Nat) : Prop := s.length * 8 ≤ 140737488355328
def tA : Ty := .pair we .unit
def dC : aI := ⟨tA, .own 169 qx, fun x => aWr x.1, fun x => id x.1⟩
attribute [go_sem] dC tA
def aAt (F : Md) : List (FuncId × aI) := []
theorem aAu [Mx] (F : Md) : bH Tryz.prog GL (aAt F) := .nil
theorem nO [Mx] : FOK Tryz.prog GL 135 dC := by
 refine aS4 (aT (aAu none)) Tryz.func135 rfl (by kernel_rfl) (by decide) fun w0 S x hw hp => ?_
 have hF : fT (fr Tryz.prog (EM (aAt none)) S w0 Tryz.f135.ntmps) := ⟨aT (aAu none), mix⟩
 obtain ⟨(s : qd), u⟩ := x
 have hp : s.length * 8 ≤ 140737488355328 := hp
 simp only [bX, tA, dC]
 exact zad
end
end Nu
end Go.Proofs
namespace Go.Proofs
open Go.Vc
set_option maxRecDepth 20000
namespace Nu
noncomputable section
set_option maxHeartbeats 4000000
def aFA : ByteArray := ⟨⟨0 :: 1 :: 2 :: 2 :: 3 :: 3 :: 3 :: 3 :: 4 :: 4 :: 4 :: 4 :: 4 :: 4 :: 4 :: 4 :: 5 :: 5 :: 5 :: 5 :: 5 :: 5 :: 5 :: 5 :: 5 :: 5 :: 5 :: 5 :: 5 :: 5 :: 5 :: 5 :: 6 :: 6 :: 6 :: 6 :: 6 :: 6 :: 6 :: 6 :: 6 :: 6 :: 6 :: 6 :: 6 :: 6 :: 6 :: 6 :: 6 :: 6 :: 6 :: 6 :: 6 :: 6 :: 6 :: 6 :: 6 :: 6 :: 6 :: 6 :: 6 :: 6 :: 6 :: 6 :: 7 :: 7 :: 7 :: 7 :: 7 :: 7 :: 7 :: 7 :: 7 :: 7 :: 7 :: 7 :: 7 :: 7 :: 7 :: 7 :: 7 :: 7 :: 7 :: 7 :: 7 :: 7 :: 7 :: 7 :: 7 :: 7 :: 7 :: 7 :: 7 :: 7 :: 7 :: 7 :: 7 :: 7 :: 7 :: 7 :: 7 :: 7 :: 7 :: 7 :: 7 :: 7 :: 7 :: 7 :: 7 :: 7 :: 7 :: 7 :: 7 :: 7 :: 7 :: 7 :: 7 :: 7 :: 7 :: 7 :: 7 :: 7 :: 7 :: 7 :: 7 :: 7 :: 7 :: 7 :: 8 :: 8 :: 8 :: 8 :: 8 :: 8 :: 8 :: 8 :: 8 :: 8 :: 8 :: 8 :: 8 :: 8 :: 8 :: 8 :: 8 :: 8 :: 8 :: 8 :: 8 :: 8 :: 8 :: 8 :: 8 :: 8 :: 8 :: 8 :: 8 :: 8 :: 8 :: 8 :: 8 :: 8 :: 8 :: 8 :: 8 :: 8 :: 8 :: 8 :: 8 :: 8 :: 8 :: 8 :: 8 :: 8 :: 8 :: 8 :: 8 :: 8 :: 8 :: 8 :: 8 :: 8 :: 8 :: 8 :: 8 :: 8 :: 8 :: 8 :: 8 :: 8 :: 8 :: 8 :: 8 :: 8 :: 8 :: 8 :: 8 :: 8 :: 8 :: 8 :: 8 :: 8 :: 8 :: 8 :: 8 :: 8 :: 8 :: 8 :: 8 :: 8 :: 8 :: 8 :: 8 :: 8 :: 8 :: 8 :: 8 :: 8 :: 8 :: 8 :: 8 :: 8 :: 8 :: 8 :: 8 :: 8 :: 8 :: 8 :: 8 :: 8 :: 8 :: 8 :: 8 :: 8 :: 8 :: 8 :: 8 :: 8 :: 8 :: 8 :: 8 :: 8 :: 8 :: 8 :: 8 :: 8 :: 8 :: 8 :: 8 :: 8 :: 8 :: 8 :: 8 :: 8 :: 8 :: 8 :: []⟩⟩
@[go_sem]theorem aPS : (⟨⟨0 :: 1 :: 2 :: 2 :: 3 :: 3 :: 3 :: 3 :: 4 :: 4 :: 4 :: 4 :: 4 :: 4 :: 4 :: 4 :: 5 :: 5 :: 5 :: 5 :: 5 :: 5 :: 5 :: 5 :: 5 :: 5 :: 5 :: 5 :: 5 :: 5 :: 5 :: 5 :: 6 :: 6 :: 6 :: 6 :: 6 :: 6 :: 6 :: 6 :: 6 :: 6 :: 6 :: 6 :: 6 :: 6 :: 6 :: 6 :: 6 :: 6 :: 6 :: 6 :: 6 :: 6 :: 6 :: 6 :: 6 :: 6 :: 6 :: 6 :: 6 :: 6 :: 6 :: 6 :: 7 :: 7 :: 7 :: 7 :: 7 :: 7 :: 7 :: 7 :: 7 :: 7 :: 7 :: 7 :: 7 :: 7 :: 7 :: 7 :: 7 :: 7 :: 7 :: 7 :: 7 :: 7 :: 7 :: 7 :: 7 :: 7 :: 7 :: 7 :: 7 :: 7 :: 7 :: 7 :: 7 :: 7 :: 7 :: 7 :: 7 :: 7 :: 7 :: 7 :: 7 :: 7 :: 7 :: 7 :: 7 :: 7 :: 7 :: 7 :: 7 :: 7 :: 7 :: 7 :: 7 :: 7 :: 7 :: 7 :: 7 :: 7 :: 7 :: 7 :: 7 :: 7 :: 7 :: 7 :: 8 :: 8 :: 8 :: 8 :: 8 :: 8 :: 8 :: 8 :: 8 :: 8 :: 8 :: 8 :: 8 :: 8 :: 8 :: 8 :: 8 :: 8 :: 8 :: 8 :: 8 :: 8 :: 8 :: 8 :: 8 :: 8 :: 8 :: 8 :: 8 :: 8 :: 8 :: 8 :: 8 :: 8 :: 8 :: 8 :: 8 :: 8 :: 8 :: 8 :: 8 :: 8 :: 8 :: 8 :: 8 :: 8 :: 8 :: 8 :: 8 :: 8 :: 8 :: 8 :: 8 :: 8 :: 8 :: 8 :: 8 :: 8 :: 8 :: 8 :: 8 :: 8 :: 8 :: 8 :: 8 :: 8 :: 8 :: 8 :: 8 :: 8 :: 8 :: 8 :: 8 :: 8 :: 8 :: 8 :: 8 :: 8 :: 8 :: 8 :: 8 :: 8 :: 8 :: 8 :: 8 :: 8 :: 8 :: 8 :: 8 :: 8 :: 8 :: 8 :: 8 :: 8 :: 8 :: 8 :: 8 :: 8 :: 8 :: 8 :: 8 :: 8 :: 8 :: 8 :: 8 :: 8 :: 8 :: 8 :: 8 :: 8 :: 8 :: 8 :: 8 :: 8 :: 8 :: 8 :: 8 :: 8 :: 8 :: 8 :: 8 :: 8 :: 8 :: 8 :: 8 :: 8 :: 8 :: 8 :: []⟩⟩ : ByteArray) = aFA := rfl
def sJ (F : Md) (x_6 : Nat) (n_7 : Int) : Option (Int) :=
 ck (0 ≤ (((x_6 % 256) : Nat) : Int) ∧ (((x_6 % 256) : Nat) : Int) < (((aU aFA).length : Nat) : Int)) (ck (I64 (n_7 + ((((aU aFA).getD (x_6 % 256) (0 : Nat)) : Nat) : Int))) (some (n_7 + ((((aU aFA).getD (x_6 % 256) (0 : Nat)) : Nat) : Int))))
def sK (F : Md) (x_4 : Nat) (n_5 : Int) : Option (Int) :=
 if (256 : Nat) ≤ x_4 then ck (I64 (n_5 + (8 : Int))) (sJ F (x_4 / (256 : Nat)) (n_5 + (8 : Int))) else sJ F x_4 n_5
def sL (F : Md) (x_2 : Nat) (n_3 : Int) : Option (Int) :=
 if (65536 : Nat) ≤ x_2 then ck (I64 (n_3 + (16 : Int))) (sK F (x_2 / (65536 : Nat)) (n_3 + (16 : Int))) else sK F x_2 n_3
def aCh (F : Md) (x_0 : Nat) : Option Int :=
 if (4294967296 : Nat) ≤ x_0 then sL F (x_0 / (4294967296 : Nat)) (32 : Int) else sL F x_0 (0 : Int)
def aIq : PlR := ⟨[(0, .A [0, 2]), (1, .A [0, 2, 4]), (2, .A [0]), (3, .A [0, 2]), (4, .A [0, 2, 8]), (5, .A [0, 2]), (6, .A [0, 2]), (7, .A [0, 2, 14]), (8, .A [0, 2]), (9, .A [0, 2]), (10, .A [2])], [(4, 7), (7, 10), (10, 13)]⟩
def aJW : Ty := .pair qx .unit
def aAW (F : Md) : aI := mSpec aJW (.one qe) (fun x => aCh F x.1)
def aRp (F : Md) : List (FuncId × aI) := []
theorem aRq [Mx] (F : Md) : bH Tryz.prog GL (aRp F) := .nil
attribute [go_sem] aJW aIq
theorem aPT [Mx] (F : Md) : FOK Tryz.prog GL 174 (aAW F) := by
 refine bS (aT (aRq F)) mix Tryz.func174 rfl (by kernel_rfl) (by decide) aIq fun w0 S x Θ hw h hF => ?_
 obtain ⟨(x_0 : Nat), u⟩ := x
 simp only [bX, go_sem]
 replace h : sat (aCh F x_0) _ := h
 unfold aCh at h
 refine eX hF (D := Nat × Int) (fun d => sat (sL F d.1 d.2) Θ) [] (fun d => [(0, .val qx d.1), (2, .val qe d.2)]) (fun d => []) ?_ ?_
 ·simp only [go_sem]
  refine fC h (fun hc h => ?_) fun hc h => ?_
  ·exact bB ((x_0 / (4294967296 : Nat)), (32 : Int)) h rfl (by simp only [go_sem])
  ·exact bB (x_0, (0 : Int)) h rfl (by simp only [go_sem])
 ·rintro ⟨x_2, n_3⟩ h
  simp only [go_sem]
  replace h : sat (sL F x_2 n_3) _ := h
  unfold sL at h
  refine eX hF (D := Nat × Int) (fun d => sat (sK F d.1 d.2) Θ) [] (fun d => [(0, .val qx d.1), (2, .val qe d.2)]) (fun d => []) ?_ ?_
  ·simp only [go_sem]
   refine fC h (fun hc h => ?_) fun hc h => ?_
   ·refine aZ h fun g0 h => ?_
    exact bB ((x_2 / (65536 : Nat)), (n_3 + (16 : Int))) h rfl (by simp only [go_sem])
   ·exact bB (x_2, n_3) h rfl (by simp only [go_sem])
  ·rintro ⟨x_4, n_5⟩ h
   simp only [go_sem]
   replace h : sat (sK F x_4 n_5) _ := h
   unfold sK at h
   refine eX hF (D := Nat × Int) (fun d => sat (sJ F d.1 d.2) Θ) [] (fun d => [(0, .val qx d.1), (2, .val qe d.2)]) (fun d => []) ?_ ?_
   ·simp only [go_sem]
    refine fC h (fun hc h => ?_) fun hc h => ?_
    ·refine aZ h fun g0 h => ?_
     exact bB ((x_4 / (256 : Nat)), (n_5 + (8 : Int))) h rfl (by simp only [go_sem])
    ·exact bB (x_4, n_5) h rfl (by simp only [go_sem])
   ·rintro ⟨x_6, n_7⟩ h
    simp only [go_sem]
    replace h : sat (sJ F x_6 n_7) _ := h
    unfold sJ at h
    refine aZ h fun g0 h => aZ h fun g1 h => ?_
    exact zaG
attribute [go_sem] aAW
def cC (F : Md) (x_0 : Nat) : Option Int :=
 (aCh F x_0).bind (fun v_5 => ck (I64 ((64 : Int) - v_5)) (some ((64 : Int) - v_5)))
def zD : PlR := ⟨[(0, .A [0]), (1, .A [2])], []⟩
def aAv : Ty := .pair qx .unit
def fH (F : Md) : aI := mSpec aAv (.one qe) (fun x => cC F x.1)
def aAw (F : Md) : List (FuncId × aI) := [(174, (aAW F))]
theorem aGx [Mx] (F : Md) : bH Tryz.prog GL (aAw F) := .cons (aPT F) (by kernel_rfl) (.nil)
theorem aDu (F : Md) : gam (aAw F) 174 = some (aAW F) := rfl
attribute [go_sem] aAv zD aDu
theorem rP [Mx] (F : Md) : FOK Tryz.prog GL 137 (fH F) := by
 refine bS (aT (aGx F)) mix Tryz.func137 rfl (by kernel_rfl) (by decide) zD fun w0 S x Θ hw h hF => ?_
 obtain ⟨(x_0 : Nat), u⟩ := x
 simp only [bX, go_sem]
 replace h : sat (cC F x_0) _ := h
 unfold cC at h
 obtain ⟨v_5, hv, h⟩ := aN h
 exact za5
attribute [go_sem] fH
def nP (F : Md) (x_0 : Nat) : Option Int :=
 if x_0 = (0 : Nat) then some (64 : Int) else ck (0 ≤ ((((mulM F .u64 (x_0 &&& (aTe F .u64 x_0)) (285870213051353865 : Nat)) / (288230376151711744 : Nat)) : Nat) : Int) ∧ ((((mulM F .u64 (x_0 &&& (aTe F .u64 x_0)) (285870213051353865 : Nat)) / (288230376151711744 : Nat)) : Nat) : Int) < (64 : Int)) (some (((aWo.getD ((mulM F .u64 (x_0 &&& (aTe F .u64 x_0)) (285870213051353865 : Nat)) / (288230376151711744 : Nat)) (0 : Nat)) : Nat) : Int))
def yC : PlR := ⟨[(0, .A [0]), (1, .A [0, 4]), (2, .A [2]), (3, .A [2])], []⟩
def zE : Ty := .pair qx .unit
def mY (F : Md) : aI := mSpec zE (.one qe) (fun x => nP F x.1)
def aFB (F : Md) : List (FuncId × aI) := []
theorem aFC [Mx] (F : Md) : bH Tryz.prog GL (aFB F) := .nil
attribute [go_sem] zE yC
theorem aEK [Mx] (F : Md) : FOK Tryz.prog GL 187 (mY F) := by
 refine bS (aT (aFC F)) mix Tryz.func187 rfl (by kernel_rfl) (by decide) yC fun w0 S x Θ hw h hF => ?_
 obtain ⟨(x_0 : Nat), u⟩ := x
 simp only [bX, go_sem]
 replace h : sat (nP F x_0) _ := h
 unfold nP at h
 refine fC h (fun hc h => ?_) fun hc h => ?_
 ·exact aK hF [.tmp 2] rfl rfl rfl (aE h) (by simp only [aS, go_sem, dH F, dI F, dJ F])
 ·obtain ⟨g0, h⟩ := aQ h
  repeat (refine ⟨by first | with_reducible assumption | omega | (intros; first | with_reducible assumption | omega) | (simp only [go_sem, dH F, dI F, dJ F] at *; first | with_reducible assumption | omega) | (intro _; exact ⟨rfl, by decide⟩) | (intro _; refine (?_ : _ = aD _); rfl) | (refine (?_ : _ = aD _); rfl) | exact ⟨rfl, rfl⟩ | decide, ?_⟩)
  exact aK hF [.tmp 2] rfl rfl rfl (aE h) (by (simp only [aS, go_sem, dH F, dI F, dJ F]) <;> first | rfl | (simp; done))
attribute [go_sem] mY
def aCi (F : Md) (x_0 : Nat) (y_1 : Nat) : Option (Nat × (Nat × Unit)) :=
 some ((((((mulM F .u64 (x_0 / (4294967296 : Nat)) (y_1 / (4294967296 : Nat))) + ((((mulM F .u64 (x_0 / (4294967296 : Nat)) (y_1 &&& (4294967295 : Nat))) + ((mulM F .u64 (x_0 &&& (4294967295 : Nat)) (y_1 &&& (4294967295 : Nat))) / (4294967296 : Nat))) % 18446744073709551616) / (4294967296 : Nat))) % 18446744073709551616) + (((((((mulM F .u64 (x_0 / (4294967296 : Nat)) (y_1 &&& (4294967295 : Nat))) + ((mulM F .u64 (x_0 &&& (4294967295 : Nat)) (y_1 &&& (4294967295 : Nat))) / (4294967296 : Nat))) % 18446744073709551616) &&& (4294967295 : Nat)) + (mulM F .u64 (x_0 &&& (4294967295 : Nat)) (y_1 / (4294967296 : Nat)))) % 18446744073709551616) / (4294967296 : Nat))) % 18446744073709551616), (mulM F .u64 x_0 y_1), ())
def aIr : PlR := ⟨[(0, .A [0, 1]), (1, .A [0, 1, 6]), (2, .A [0, 1, 6, 7]), (3, .A [0, 1, 6, 7, 8]), (4, .A [0, 1, 6, 7, 8, 9]), (5, .A [0, 1, 6, 7, 8, 9, 10]), (6, .A [0, 1, 6, 7, 9, 11]), (7, .A [0, 1, 6, 7, 9, 11, 12]), (8, .A [0, 1, 6, 7, 9, 12, 13]), (9, .A [0, 1, 7, 9, 12, 13]), (10, .A [0, 1, 4]), (11, .A [4, 5])], []⟩
def aJX : Ty := .pair qx (.pair qx .unit)
def aAX (F : Md) : aI := mSpec aJX (.tup wn) (fun x => aCi F x.1 x.2.1)
def aRr (F : Md) : List (FuncId × aI) := []
theorem aRs [Mx] (F : Md) : bH Tryz.prog GL (aRr F) := .nil
attribute [go_sem] aJX aIr
theorem aPU [Mx] (F : Md) : FOK Tryz.prog GL 143 (aAX F) := by
 refine bS (aT (aRs F)) mix Tryz.func143 rfl (by kernel_rfl) (by decide) aIr fun w0 S x Θ hw h hF => ?_
 obtain ⟨(x_0 : Nat), (y_1 : Nat), u⟩ := x
 simp only [bX, go_sem]
 replace h : sat (aCi F x_0 y_1) _ := h
 unfold aCi at h
 exact aK hF [.tmp 4, .tmp 5] rfl rfl rfl (aE h) (by simp only [aS, go_sem, dH F, dI F, dJ F])
attribute [go_sem] aAX
def xF (F : Md) (x15_12 : Nat) (hi_0 : Nat) (v_7 : Int) (lo_1 : Nat) (y_2 : Nat) (x18_17 : Nat) : Option (Nat × (Nat × Unit)) :=
 some ((((mulM F .u64 x15_12 (4294967296 : Nat)) + x18_17) % 18446744073709551616), ((aBn F .u64 (((mulM F .u64 (aBn F .u64 (((mulM F .u64 (((hi_0 * (2 ^ (v_7 % (18446744073709551616 : Int)).toNat)) % 18446744073709551616) ||| (lo_1 / (2 ^ (aBn F .u64 (64 : Nat) (v_7 % (18446744073709551616 : Int)).toNat)))) (4294967296 : Nat)) + (((lo_1 * (2 ^ (v_7 % (18446744073709551616 : Int)).toNat)) % 18446744073709551616) / (4294967296 : Nat))) % 18446744073709551616) (mulM F .u64 x15_12 ((y_2 * (2 ^ (v_7 % (18446744073709551616 : Int)).toNat)) % 18446744073709551616))) (4294967296 : Nat)) + (((lo_1 * (2 ^ (v_7 % (18446744073709551616 : Int)).toNat)) % 18446744073709551616) &&& (4294967295 : Nat))) % 18446744073709551616) (mulM F .u64 x18_17 ((y_2 * (2 ^ (v_7 % (18446744073709551616 : Int)).toNat)) % 18446744073709551616))) / (2 ^ (v_7 % (18446744073709551616 : Int)).toNat)), ())
def aAN (F : Md) (lo_1 : Nat) (v_7 : Int) (y_2 : Nat) (rhat_18 : Nat) (x18_19 : Nat) : Option ((Nat × Nat) ⊕ (Nat)) :=
 if ((4294967296 : Nat) ≤ x18_19) ∨ ((((mulM F .u64 (4294967296 : Nat) rhat_18) + (((lo_1 * (2 ^ (v_7 % (18446744073709551616 : Int)).toNat)) % 18446744073709551616) &&& (4294967295 : Nat))) % 18446744073709551616) < (mulM F .u64 x18_19 (((y_2 * (2 ^ (v_7 % (18446744073709551616 : Int)).toNat)) % 18446744073709551616) &&& (4294967295 : Nat)))) then if (4294967296 : Nat) ≤ ((rhat_18 + (((y_2 * (2 ^ (v_7 % (18446744073709551616 : Int)).toNat)) % 18446744073709551616) / (4294967296 : Nat))) % 18446744073709551616) then some (.inr (aBn F .u64 x18_19 (1 : Nat))) else some (.inl (((rhat_18 + (((y_2 * (2 ^ (v_7 % (18446744073709551616 : Int)).toNat)) % 18446744073709551616) / (4294967296 : Nat))) % 18446744073709551616), (aBn F .u64 x18_19 (1 : Nat)))) else some (.inr x18_19)
def xG (F : Md) (y_2 : Nat) (v_7 : Int) (lo_1 : Nat) (hi_0 : Nat) (x15_12 : Nat) : Option (Nat × (Nat × Unit)) :=
 ck ((((y_2 * (2 ^ (v_7 % (18446744073709551616 : Int)).toNat)) % 18446744073709551616) / (4294967296 : Nat)) ≠ 0) ((eH F (fun d : Nat × Nat => aAN F lo_1 v_7 y_2 d.1 d.2) ((aBn F .u64 (aBn F .u64 (((mulM F .u64 (((hi_0 * (2 ^ (v_7 % (18446744073709551616 : Int)).toNat)) % 18446744073709551616) ||| (lo_1 / (2 ^ (aBn F .u64 (64 : Nat) (v_7 % (18446744073709551616 : Int)).toNat)))) (4294967296 : Nat)) + (((lo_1 * (2 ^ (v_7 % (18446744073709551616 : Int)).toNat)) % 18446744073709551616) / (4294967296 : Nat))) % 18446744073709551616) (mulM F .u64 x15_12 ((y_2 * (2 ^ (v_7 % (18446744073709551616 : Int)).toNat)) % 18446744073709551616))) (mulM F .u64 ((aBn F .u64 (((mulM F .u64 (((hi_0 * (2 ^ (v_7 % (18446744073709551616 : Int)).toNat)) % 18446744073709551616) ||| (lo_1 / (2 ^ (aBn F .u64 (64 : Nat) (v_7 % (18446744073709551616 : Int)).toNat)))) (4294967296 : Nat)) + (((lo_1 * (2 ^ (v_7 % (18446744073709551616 : Int)).toNat)) % 18446744073709551616) / (4294967296 : Nat))) % 18446744073709551616) (mulM F .u64 x15_12 ((y_2 * (2 ^ (v_7 % (18446744073709551616 : Int)).toNat)) % 18446744073709551616))) / (((y_2 * (2 ^ (v_7 % (18446744073709551616 : Int)).toNat)) % 18446744073709551616) / (4294967296 : Nat))) (((y_2 * (2 ^ (v_7 % (18446744073709551616 : Int)).toNat)) % 18446744073709551616) / (4294967296 : Nat)))), ((aBn F .u64 (((mulM F .u64 (((hi_0 * (2 ^ (v_7 % (18446744073709551616 : Int)).toNat)) % 18446744073709551616) ||| (lo_1 / (2 ^ (aBn F .u64 (64 : Nat) (v_7 % (18446744073709551616 : Int)).toNat)))) (4294967296 : Nat)) + (((lo_1 * (2 ^ (v_7 % (18446744073709551616 : Int)).toNat)) % 18446744073709551616) / (4294967296 : Nat))) % 18446744073709551616) (mulM F .u64 x15_12 ((y_2 * (2 ^ (v_7 % (18446744073709551616 : Int)).toNat)) % 18446744073709551616))) / (((y_2 * (2 ^ (v_7 % (18446744073709551616 : Int)).toNat)) % 18446744073709551616) / (4294967296 : Nat))))).bind (fun e => xF F x15_12 hi_0 v_7 lo_1 y_2 e))
def aAO (F : Md) (lo_1 : Nat) (v_7 : Int) (y_2 : Nat) (x15_23 : Nat) (rhat_24 : Nat) : Option ((Nat × Nat) ⊕ (Nat)) :=
 if ((4294967296 : Nat) ≤ x15_23) ∨ ((((mulM F .u64 (4294967296 : Nat) rhat_24) + (((lo_1 * (2 ^ (v_7 % (18446744073709551616 : Int)).toNat)) % 18446744073709551616) / (4294967296 : Nat))) % 18446744073709551616) < (mulM F .u64 x15_23 (((y_2 * (2 ^ (v_7 % (18446744073709551616 : Int)).toNat)) % 18446744073709551616) &&& (4294967295 : Nat)))) then if (4294967296 : Nat) ≤ ((rhat_24 + (((y_2 * (2 ^ (v_7 % (18446744073709551616 : Int)).toNat)) % 18446744073709551616) / (4294967296 : Nat))) % 18446744073709551616) then some (.inr (aBn F .u64 x15_23 (1 : Nat))) else some (.inl ((aBn F .u64 x15_23 (1 : Nat)), ((rhat_24 + (((y_2 * (2 ^ (v_7 % (18446744073709551616 : Int)).toNat)) % 18446744073709551616) / (4294967296 : Nat))) % 18446744073709551616))) else some (.inr x15_23)
def aCj (F : Md) (hi_0 : Nat) (lo_1 : Nat) (y_2 : Nat) : Option (Nat × (Nat × Unit)) :=
 if y_2 = (0 : Nat) then none else if y_2 ≤ hi_0 then none else if hi_0 = (0 : Nat) then ck (y_2 ≠ 0) (ck (y_2 ≠ 0) (some ((lo_1 / y_2), (lo_1 % y_2), ()))) else (cC F y_2).bind (fun v_7 => ck ((((y_2 * (2 ^ (v_7 % (18446744073709551616 : Int)).toNat)) % 18446744073709551616) / (4294967296 : Nat)) ≠ 0) ((eH F (fun d : Nat × Nat => aAO F lo_1 v_7 y_2 d.1 d.2) (((((hi_0 * (2 ^ (v_7 % (18446744073709551616 : Int)).toNat)) % 18446744073709551616) ||| (lo_1 / (2 ^ (aBn F .u64 (64 : Nat) (v_7 % (18446744073709551616 : Int)).toNat)))) / (((y_2 * (2 ^ (v_7 % (18446744073709551616 : Int)).toNat)) % 18446744073709551616) / (4294967296 : Nat))), (aBn F .u64 (((hi_0 * (2 ^ (v_7 % (18446744073709551616 : Int)).toNat)) % 18446744073709551616) ||| (lo_1 / (2 ^ (aBn F .u64 (64 : Nat) (v_7 % (18446744073709551616 : Int)).toNat)))) (mulM F .u64 ((((hi_0 * (2 ^ (v_7 % (18446744073709551616 : Int)).toNat)) % 18446744073709551616) ||| (lo_1 / (2 ^ (aBn F .u64 (64 : Nat) (v_7 % (18446744073709551616 : Int)).toNat)))) / (((y_2 * (2 ^ (v_7 % (18446744073709551616 : Int)).toNat)) % 18446744073709551616) / (4294967296 : Nat))) (((y_2 * (2 ^ (v_7 % (18446744073709551616 : Int)).toNat)) % 18446744073709551616) / (4294967296 : Nat)))))).bind (fun e => xG F y_2 v_7 lo_1 hi_0 e)))
def aIs : PlR := ⟨[(0, .A [0, 1, 2]), (1, .A [0, 1, 2, 20]), (2, .stop), (3, .A [0, 1, 2, 24]), (4, .stop), (5, .A [0, 1, 2, 27]), (6, .A [6, 7]), (7, .A [0, 1, 2, 8]), (8, .A [0, 1, 2, 8]), (9, .A [0, 1, 2, 8, 9]), (10, .A [0, 1, 2, 8, 9, 10]), (11, .A [1, 2, 8, 9, 10, 11]), (12, .A [2, 8, 9, 10, 11, 12]), (13, .A [2, 8, 9, 10, 11, 12, 13]), (14, .A [2, 8, 9, 10, 11, 13, 14]), (15, .A [2, 8, 9, 10, 11, 13, 14, 15]), (16, .A [2, 8, 9, 10, 11, 13, 14, 15, 16]), (17, .A [2, 8, 9, 10, 11, 13, 14, 15, 16, 78]), (18, .A [2, 8, 9, 10, 11, 13, 14, 15, 16]), (19, .A [2, 8, 9, 10, 11, 13, 14, 15, 16]), (20, .A [2, 8, 9, 10, 11, 13, 14, 15, 16, 85]), (21, .A [2, 8, 9, 10, 14, 15, 17]), (22, .A [2, 8, 9, 10, 14, 15, 17, 18]), (23, .A [2, 8, 9, 10, 14, 15, 16, 17, 18]), (24, .A [2, 8, 9, 10, 14, 15, 16, 17, 18, 113]), (25, .A [2, 8, 9, 10, 14, 15, 16, 17, 18]), (26, .A [2, 8, 9, 10, 14, 15, 16, 17, 18]), (27, .A [2, 8, 9, 10, 14, 15, 16, 17, 18, 120]), (28, .A [6, 7])], [(20, 24), (27, 31)]⟩
def aJY : Ty := .pair qx wn
def aAY (F : Md) : aI := mSpec aJY (.tup wn) (fun x => aCj F x.1 x.2.1 x.2.2.1)
def aJZ (F : Md) : List (FuncId × aI) := [(137, (fH F))]
theorem aRt [Mx] (F : Md) : bH Tryz.prog GL (aJZ F) := .cons (rP F) (by kernel_rfl) (.nil)
theorem aLv (F : Md) : gam (aJZ F) 137 = some (fH F) := rfl
attribute [go_sem] aJY aIs aLv
theorem aPV [Mx] (F : Md) : FOK Tryz.prog GL 173 (aAY F) := by
 refine bS (aT (aRt F)) mix Tryz.func173 rfl (by kernel_rfl) (by decide) aIs fun w0 S x Θ hw h hF => ?_
 obtain ⟨(hi_0 : Nat), (lo_1 : Nat), (y_2 : Nat), u⟩ := x
 simp only [bX, go_sem]
 replace h : sat (aCj F hi_0 lo_1 y_2) _ := h
 unfold aCj at h
 refine fC h (fun hc h => ?_) fun hc h => ?_
 ·exact aBp h
 ·refine fC h (fun hc h => ?_) fun hc h => ?_
  ·exact aBp h
  ·refine fC h (fun hc h => ?_) fun hc h => ?_
   ·refine aZ h fun g0 h => aZ h fun g1 h => ?_
    exact aK hF [.tmp 6, .tmp 7] rfl rfl rfl (aE h) (by simp only [aS, go_sem, dH F, dI F, dJ F])
   ·obtain ⟨v_7, hv, h⟩ := aN h
    try simp only [hv, go_sem, dH F, dI F, dJ F]
    refine aZ h fun g0 h => ?_
    refine eX hF (D := Nat) (fun d => sat (xG F y_2 v_7 lo_1 hi_0 d) Θ) [2, 8, 9, 10, 11, 13, 14] (fun d => [(15, .val qx d)]) (fun d => []) ?_ ?_
    ·simp only [go_sem, dH F, dI F, dJ F]
     refine cI hF (D := Nat × Nat) [2, 8, 9, 10, 11, 13, 14] (fun d => [(15, .val qx d.1), (16, .val qx d.2)]) (fun d => []) h rfl (by simp only [go_sem, dH F, dI F, dJ F]) ?_
     rintro ⟨x15_23, rhat_24⟩ A17 T17 hA17 hE17 h
     simp only [go_sem, dH F, dI F, dJ F]
     replace h : sat (aAO F lo_1 v_7 y_2 x15_23 rhat_24) _ := h
     unfold aAO at h
     refine ⟨fun hc => ?_, fun hc => ?_⟩
     ·replace h := jE hc h
      refine fC h (fun hc h => ?_) fun hc h => ?_
      ·replace h := hE17 _ (aE h)
       try dsimp only at h
       exact bB (aBn F .u64 x15_23 (1 : Nat)) h rfl (by simp only [go_sem, dH F, dI F, dJ F])
      ·replace h := hA17 _ (aE h)
       exact bB _ h rfl (by simp only [go_sem, dH F, dI F, dJ F])
     ·replace h := jF hc h
      replace h := hE17 _ (aE h)
      try dsimp only at h
      exact bB (x15_23) h rfl (by simp only [go_sem, dH F, dI F, dJ F])
    ·rintro x15_12 h
     simp only [go_sem, dH F, dI F, dJ F]
     replace h : sat (xG F y_2 v_7 lo_1 hi_0 x15_12) _ := h
     unfold xG at h
     refine aZ h fun g0 h => ?_
     refine eX hF (D := Nat) (fun d => sat (xF F x15_12 hi_0 v_7 lo_1 y_2 d) Θ) [2, 8, 14, 15, 17] (fun d => [(18, .val qx d)]) (fun d => []) ?_ ?_
     ·simp only [go_sem, dH F, dI F, dJ F]
      refine cI hF (D := Nat × Nat) [2, 8, 9, 10, 14, 15, 17] (fun d => [(16, .val qx d.1), (18, .val qx d.2)]) (fun d => []) h rfl (by simp only [go_sem, dH F, dI F, dJ F]) ?_
      rintro ⟨rhat_18, x18_19⟩ A24 T24 hA24 hE24 h
      simp only [go_sem, dH F, dI F, dJ F]
      replace h : sat (aAN F lo_1 v_7 y_2 rhat_18 x18_19) _ := h
      unfold aAN at h
      refine ⟨fun hc => ?_, fun hc => ?_⟩
      ·replace h := jE hc h
       refine fC h (fun hc h => ?_) fun hc h => ?_
       ·replace h := hE24 _ (aE h)
        try dsimp only at h
        exact bB (aBn F .u64 x18_19 (1 : Nat)) h rfl (by simp only [go_sem, dH F, dI F, dJ F])
       ·replace h := hA24 _ (aE h)
        exact bB _ h rfl (by simp only [go_sem, dH F, dI F, dJ F])
      ·replace h := jF hc h
       replace h := hE24 _ (aE h)
       try dsimp only at h
       exact bB (x18_19) h rfl (by simp only [go_sem, dH F, dI F, dJ F])
     ·rintro x18_17 h
      simp only [go_sem, dH F, dI F, dJ F]
      replace h : sat (xF F x15_12 hi_0 v_7 lo_1 y_2 x18_17) _ := h
      unfold xF at h
      exact aK hF [.tmp 6, .tmp 7] rfl rfl rfl (aE h) (by simp only [aS, go_sem, dH F, dI F, dJ F])
attribute [go_sem] aAY
def aH9 (F : Md) (a_0 : qd) : Option Bool :=
 ck (¬ ((a_0.length : Int) = (0 : Int)) → ((a_0.length : Int) ≤ (64 : Int)) → (I64 ((a_0.length : Int) - (1 : Int)))) (ck (¬ ((a_0.length : Int) = (0 : Int)) → ((a_0.length : Int) ≤ (64 : Int)) → (0 ≤ ((a_0.length : Int) - (1 : Int)) ∧ ((a_0.length : Int) - (1 : Int)) < (a_0.length : Int))) (some ((decide ((a_0.length : Int) = (0 : Int))) || ((decide ((a_0.length : Int) ≤ (64 : Int))) && (!(decide ((a_0.getD ((a_0.length : Int) - (1 : Int)).toNat (0 : Nat)) = (0 : Nat))))))))
def aOR : PlR := ⟨[(0, .A [0]), (1, .A [2])], []⟩
def aQR : Ty := .pair we .unit
def aFD (F : Md) : aI := mSpec aQR (.one .bool) (fun x => aH9 F x.1)
def aUT (F : Md) : List (FuncId × aI) := []
theorem aUU [Mx] (F : Md) : bH Tryz.prog GL (aUT F) := .nil
attribute [go_sem] aQR aOR
theorem aTl [Mx] (F : Md) : FOK Tryz.prog GL 150 (aFD F) := by
 refine bS (aT (aUU F)) mix Tryz.func150 rfl (by kernel_rfl) (by decide) aOR fun w0 S x Θ hw h hF => ?_
 obtain ⟨(a_0 : qd), u⟩ := x
 simp only [bX, go_sem]
 replace h : sat (aH9 F a_0) _ := h
 unfold aH9 at h
 obtain ⟨g0, h⟩ := aQ h
 obtain ⟨g1, h⟩ := aQ h
 try simp only [I64, I32] at g0
 repeat (refine ⟨by first | with_reducible assumption | omega | (intros; first | with_reducible assumption | omega) | (simp only [go_sem] at *; first | with_reducible assumption | omega) | (intro _; exact ⟨rfl, by decide⟩) | (intro _; refine (?_ : _ = aD _); rfl) | (refine (?_ : _ = aD _); rfl) | exact ⟨rfl, rfl⟩ | (intro q0 q1; (try have e0 := g0 (by first | exact q0 | omega | (simpa using q0)) (by first | exact q1 | omega | (simpa using q1))); (try have e1 := g1 (by first | exact q0 | omega | (simpa using q0)) (by first | exact q1 | omega | (simpa using q1))); first | assumption | omega) | (rintro ⟨q0, q1⟩; (try have e0 := g0 (by first | exact q0 | omega | (simpa using q0)) (by first | exact q1 | omega | (simpa using q1))); (try have e1 := g1 (by first | exact q0 | omega | (simpa using q0)) (by first | exact q1 | omega | (simpa using q1))); first | assumption | omega) | decide, ?_⟩)
 exact zaG
attribute [go_sem] aFD
def aEg (F : Md) (a_4 : qd) : Option (qd ⊕ qd) :=
 ck (((0 : Int) < (a_4.length : Int)) → (I64 ((a_4.length : Int) - (1 : Int)))) (ck (((0 : Int) < (a_4.length : Int)) → (0 ≤ ((a_4.length : Int) - (1 : Int)) ∧ ((a_4.length : Int) - (1 : Int)) < (a_4.length : Int))) (if ((0 : Int) < (a_4.length : Int)) ∧ ((a_4.getD ((a_4.length : Int) - (1 : Int)).toNat (0 : Nat)) = (0 : Nat)) then ck (I64 ((a_4.length : Int) - (1 : Int))) (ck (0 ≤ ((a_4.length : Int) - (1 : Int)) ∧ ((a_4.length : Int) - (1 : Int)) ≤ (a_4.length : Int)) (some (.inl (List.take ((a_4.length : Int) - (1 : Int)).toNat a_4)))) else some (.inr a_4)))
def jZ (F : Md) (a_0 : qd) : Option qd :=
 (eH F (fun d : qd => aEg F d) a_0).bind (fun e => some e)
def aMw : PlR := ⟨[(0, .A [0]), (1, .A [0, 14]), (2, .A [0]), (3, .A [2])], []⟩
def aOS : Ty := .pair we .unit
def gO (F : Md) : aI := mSpec aOS (.one we) (fun x => jZ F x.1)
def aTm (F : Md) : List (FuncId × aI) := []
theorem aTn [Mx] (F : Md) : bH Tryz.prog GL (aTm F) := .nil
attribute [go_sem] aOS aMw
theorem tU [Mx] (F : Md) : FOK Tryz.prog GL 141 (gO F) := by
 refine bS (aT (aTn F)) mix Tryz.func141 rfl (by kernel_rfl) (by decide) aMw fun w0 S x Θ hw h hF => ?_
 obtain ⟨(a_0 : qd), u⟩ := x
 simp only [bX, go_sem]
 replace h : sat (jZ F a_0) _ := h
 unfold jZ at h
 refine cI hF (D := qd) [] (fun d => [(0, .val we d)]) (fun d => []) h rfl (by simp only [go_sem]) ?_
 rintro a_4 A1 T1 hA1 hE1 h
 simp only [go_sem]
 replace h : sat (aEg F a_4) _ := h
 unfold aEg at h
 refine aZ h fun g0 h => aZ h fun g1 h => ?_
 refine ⟨fun hc => ?_, fun hc => ?_⟩
 ·replace h := jE hc h
  refine aZ h fun g0 h => aZ h fun g1 h => ?_
  replace h := hA1 _ (aE h)
  exact zaO
 ·replace h := jF hc h
  replace h := hE1 _ (aE h)
  exact zaz
attribute [go_sem] gO
def aC4 (F : Md) (less_0 : Bool) : Option Int :=
 if less_0 = true then some (-1 : Int) else some (1 : Int)
def aMx : PlR := ⟨[(0, .A [0]), (1, .A [3]), (2, .A [2]), (3, .A [2])], []⟩
def aOT : Ty := .pair .bool .unit
def aDI (F : Md) : aI := mSpec aOT (.one qe) (fun x => aC4 F x.1)
def aTo (F : Md) : List (FuncId × aI) := []
theorem aTp [Mx] (F : Md) : bH Tryz.prog GL (aTo F) := .nil
attribute [go_sem] aOT aMx
theorem aSw [Mx] (F : Md) : FOK Tryz.prog GL 156 (aDI F) := by
 refine bS (aT (aTp F)) mix Tryz.func156 rfl (by kernel_rfl) (by decide) aMx fun w0 S x Θ hw h hF => ?_
 obtain ⟨(less_0 : Bool), u⟩ := x
 simp only [bX, go_sem]
 replace h : sat (aC4 F less_0) _ := h
 unfold aC4 at h
 exact za9
attribute [go_sem] aDI
def aC5 (F : Md) (a_0 : qd) (b_1 : qd) (i_20 : Int) : Option ((Int) ⊕ ((Unit) ⊕ Int)) :=
 if (0 : Int) ≤ i_20 then ck (0 ≤ i_20 ∧ i_20 < (a_0.length : Int)) (ck (0 ≤ i_20 ∧ i_20 < (b_1.length : Int)) (if ¬ ((a_0.getD (i_20.toNat) (0 : Nat)) = (b_1.getD (i_20.toNat) (0 : Nat))) then ck (0 ≤ i_20 ∧ i_20 < (a_0.length : Int)) (ck (0 ≤ i_20 ∧ i_20 < (b_1.length : Int)) ((aC4 F (decide ((a_0.getD (i_20.toNat) (0 : Nat)) < (b_1.getD (i_20.toNat) (0 : Nat))))).bind (fun v_33 => some (.inr (.inr v_33))))) else ck (I64 (i_20 - (1 : Int))) (some (.inl (i_20 - (1 : Int)))))) else some (.inr (.inl ()))
def tV (F : Md) (a_0 : qd) (b_1 : qd) : Option Int :=
 if ¬ ((a_0.length : Int) = (b_1.length : Int)) then (aC4 F (decide ((a_0.length : Int) < (b_1.length : Int)))).bind (fun v_8 => some v_8) else ck (I64 ((a_0.length : Int) - (1 : Int))) ((eH F (fun d : Int => aC5 F a_0 b_1 d) ((a_0.length : Int) - (1 : Int))).bind (fun e => match e with | (.inl e) => some (0 : Int) | (.inr e) => some e))
def aJ0 : PlR := ⟨[(0, .A [0, 1]), (1, .A [0, 1, 10]), (2, .A [4]), (3, .A [0, 1, 5]), (4, .A [0, 1, 5, 21]), (5, .A [0, 1, 5]), (6, .A [0, 1, 5, 32]), (7, .A [4]), (8, .A [4])], []⟩
def aMy : Ty := .pair we (.pair we .unit)
def pX (F : Md) : aI := mSpec aMy (.one qe) (fun x => tV F x.1 x.2.1)
def aMz (F : Md) : List (FuncId × aI) := [(156, (aDI F))]
theorem aSx [Mx] (F : Md) : bH Tryz.prog GL (aMz F) := .cons (aSw F) (by kernel_rfl) (.nil)
theorem aNb (F : Md) : gam (aMz F) 156 = some (aDI F) := rfl
attribute [go_sem] aMy aJ0 aNb
theorem aFE [Mx] (F : Md) : FOK Tryz.prog GL 114 (pX F) := by
 refine bS (aT (aSx F)) mix Tryz.func114 rfl (by kernel_rfl) (by decide) aJ0 fun w0 S x Θ hw h hF => ?_
 obtain ⟨(a_0 : qd), (b_1 : qd), u⟩ := x
 simp only [bX, go_sem]
 replace h : sat (tV F a_0 b_1) _ := h
 unfold tV at h
 refine fC h (fun hc h => ?_) fun hc h => ?_
 ·obtain ⟨v_8, hv, h⟩ := aN h
  exact zaZ
 ·refine aZ h fun g0 h => ?_
  refine cI hF (D := Int) [0, 1] (fun d => [(5, .val qe d)]) (fun d => []) h rfl (by simp only [go_sem]) ?_
  rintro i_20 A4 T4 hA4 hE4 h
  simp only [go_sem]
  replace h : sat (aC5 F a_0 b_1 i_20) _ := h
  unfold aC5 at h
  refine aTg h (fun hc h => ?_) fun hc h => ?_
  ·refine aZ h fun g0 h => aZ h fun g1 h => ?_
   refine fC h (fun hc h => ?_) fun hc h => ?_
   ·refine aZ h fun g0 h => aZ h fun g1 h => ?_
    obtain ⟨v_33, hv, h⟩ := aN h
    try simp only [hv, go_sem]
    replace h := hE4 _ (aE h)
    exact zan
   ·refine aZ h fun g0 h => ?_
    replace h := hA4 _ (aE h)
    exact zaO
  ·replace h := hE4 _ (aE h)
   exact zan
attribute [go_sem] pX
def aC6 (F : Md) (a_0 : qd) : Option Int :=
 if (a_0.length : Int) = (0 : Int) then some (0 : Int) else ck (I64 ((64 : Int) * (a_0.length : Int))) (ck (I64 ((a_0.length : Int) - (1 : Int))) (ck (0 ≤ ((a_0.length : Int) - (1 : Int)) ∧ ((a_0.length : Int) - (1 : Int)) < (a_0.length : Int)) ((cC F (a_0.getD ((a_0.length : Int) - (1 : Int)).toNat (0 : Nat))).bind (fun v_5 => ck (I64 (((64 : Int) * (a_0.length : Int)) - v_5)) (some (((64 : Int) * (a_0.length : Int)) - v_5))))))
def aMA : PlR := ⟨[(0, .A [0]), (1, .A [0, 5]), (2, .A [2]), (3, .A [2])], []⟩
def aOU : Ty := .pair we .unit
def aDJ (F : Md) : aI := mSpec aOU (.one qe) (fun x => aC6 F x.1)
def aOV (F : Md) : List (FuncId × aI) := [(137, (fH F))]
theorem aTq [Mx] (F : Md) : bH Tryz.prog GL (aOV F) := .cons (rP F) (by kernel_rfl) (.nil)
theorem aOW (F : Md) : gam (aOV F) 137 = some (fH F) := rfl
attribute [go_sem] aOU aMA aOW
theorem aSy [Mx] (F : Md) : FOK Tryz.prog GL 151 (aDJ F) := by
 refine bS (aT (aTq F)) mix Tryz.func151 rfl (by kernel_rfl) (by decide) aMA fun w0 S x Θ hw h hF => ?_
 obtain ⟨(a_0 : qd), u⟩ := x
 simp only [bX, go_sem]
 replace h : sat (aC6 F a_0) _ := h
 unfold aC6 at h
 refine fC h (fun hc h => ?_) fun hc h => ?_
 ·exact aK hF [.tmp 2] rfl rfl rfl (aE h) (by simp only [aS, go_sem])
 ·refine aZ h fun g0 h => aZ h fun g1 h => aZ h fun g2 h => ?_
  obtain ⟨v_5, hv, h⟩ := aN h
  exact za5
attribute [go_sem] aDJ
def aC7 (F : Md) (a_0 : qd) (x7_10 : Int) : Option ((Int) ⊕ ((Unit) ⊕ Int)) :=
 if x7_10 < (a_0.length : Int) then ck (0 ≤ x7_10 ∧ x7_10 < (a_0.length : Int)) (if ¬ ((a_0.getD (x7_10.toNat) (0 : Nat)) = (0 : Nat)) then ck (I64 ((64 : Int) * x7_10)) ((nP F (a_0.getD (x7_10.toNat) (0 : Nat))).bind (fun v_19 => ck (I64 (((64 : Int) * x7_10) + v_19)) (some (.inr (.inr (((64 : Int) * x7_10) + v_19)))))) else ck (I64 (x7_10 + (1 : Int))) (some (.inl (x7_10 + (1 : Int))))) else some (.inr (.inl ()))
def fI (F : Md) (a_0 : qd) : Option Int :=
 (eH F (fun d : Int => aC7 F a_0 d) (0 : Int)).bind (fun e => match e with | (.inl e) => some (-1 : Int) | (.inr e) => some e)
def aJ1 : PlR := ⟨[(0, .A [0]), (1, .A [5, 6, 7]), (2, .A [5, 6, 7, 8]), (3, .A [3, 4, 5, 6, 7]), (4, .A [3, 4, 5, 6, 7, 13]), (5, .A [2]), (6, .A [5, 6, 7]), (7, .A [2])], []⟩
def aMB : Ty := .pair we .unit
def aCk (F : Md) : aI := mSpec aMB (.one qe) (fun x => fI F x.1)
def aMC (F : Md) : List (FuncId × aI) := [(187, (mY F))]
theorem aSz [Mx] (F : Md) : bH Tryz.prog GL (aMC F) := .cons (aEK F) (by kernel_rfl) (.nil)
theorem aNc (F : Md) : gam (aMC F) 187 = some (mY F) := rfl
attribute [go_sem] aMB aJ1 aNc
theorem aRu [Mx] (F : Md) : FOK Tryz.prog GL 177 (aCk F) := by
 refine bS (aT (aSz F)) mix Tryz.func177 rfl (by kernel_rfl) (by decide) aJ1 fun w0 S x Θ hw h hF => ?_
 obtain ⟨(a_0 : qd), u⟩ := x
 simp only [bX, go_sem]
 replace h : sat (fI F a_0) _ := h
 unfold fI at h
 refine cI hF (D := Int) [5, 6] (fun d => [(7, .val qe d)]) (fun d => []) h rfl (by simp only [go_sem]) ?_
 rintro x7_10 A2 T2 hA2 hE2 h
 simp only [go_sem]
 replace h : sat (aC7 F a_0 x7_10) _ := h
 unfold aC7 at h
 refine fN h (fun hc h => ?_) fun hc h => ?_
 ·refine aZ h fun g0 h => ?_
  refine fC h (fun hc h => ?_) fun hc h => ?_
  ·refine aZ h fun g0 h => ?_
   obtain ⟨v_19, hv, h⟩ := aN h
   try simp only [hv, go_sem]
   refine aZ h fun g0 h => ?_
   replace h := hE2 _ (aE h)
   exact zaz
  ·refine aZ h fun g0 h => ?_
   replace h := hA2 _ (aE h)
   exact zaO
 ·replace h := hE2 _ (aE h)
  exact zaz
attribute [go_sem] aCk
def aC8 (F : Md) (a_0 : qd) : Option qd :=
 (jZ F a_0).bind (fun v_3 => ck (aWr v_3) (some (id v_3)))
def aMD : PlR := ⟨[(0, .A [0]), (1, .B [2])], []⟩
def aOX : Ty := .pair we .unit
def yD (F : Md) : aI := mSpec aOX (.one we) (fun x => aC8 F x.1)
def aI7 (F : Md) : List (FuncId × aI) := [(135, dC), (141, (gO F))]
theorem aTr [Mx] (F : Md) : bH Tryz.prog GL (aI7 F) := .cons nO (by kernel_rfl) (.cons (tU F) (by kernel_rfl) (.nil))
theorem aOY (F : Md) : gam (aI7 F) 135 = some dC := rfl
theorem aOZ (F : Md) : gam (aI7 F) 141 = some (gO F) := rfl
attribute [go_sem] aOX aMD aOY aOZ
theorem aME [Mx] (F : Md) : FOK Tryz.prog GL 146 (yD F) := by
 refine bS (aT (aTr F)) mix Tryz.func146 rfl (by kernel_rfl) (by decide) aMD fun w0 S x Θ hw h hF => ?_
 obtain ⟨(a_0 : qd), u⟩ := x
 simp only [bX, go_sem]
 replace h : sat (aC8 F a_0) _ := h
 unfold aC8 at h
 obtain ⟨v_3, hv, h⟩ := aN h
 exact za5
attribute [go_sem] yD
def wC (F : Md) (x22_13 : Int) (out_14 : qd) (carry_12 : Nat) (x_21 : Nat) : Option ((Nat × Int × qd) ⊕ qd) :=
 ck (0 ≤ x22_13 ∧ x22_13 < (out_14.length : Int)) (ck (aRn (out_14.getD (x22_13.toNat) (0 : Nat)) x_21 carry_12) (ck (0 ≤ x22_13 ∧ x22_13 < (out_14.length : Int)) (ck (I64 (x22_13 + (1 : Int))) (some (.inl ((aFz (out_14.getD (x22_13.toNat) (0 : Nat)) x_21 carry_12).2.1, (x22_13 + (1 : Int)), (out_14.set (x22_13.toNat) (aFz (out_14.getD (x22_13.toNat) (0 : Nat)) x_21 carry_12).1)))))))
def aEh (F : Md) (a_3 : qd) (b_4 : qd) (carry_12 : Nat) (x22_13 : Int) (out_14 : qd) : Option ((Nat × Int × qd) ⊕ qd) :=
 if x22_13 < ((((id a_3) ++ ([0] : List Nat)).length : Nat) : Int) then if x22_13 < (b_4.length : Int) then ck (0 ≤ x22_13 ∧ x22_13 < (b_4.length : Int)) (wC F x22_13 out_14 carry_12 (b_4.getD (x22_13.toNat) (0 : Nat))) else if carry_12 = (0 : Nat) then some (.inr out_14) else wC F x22_13 out_14 carry_12 (0 : Nat) else some (.inr out_14)
def wD (F : Md) (a_3 : qd) (b_4 : qd) : Option qd :=
 ck (aWr a_3) (ck (((id a_3).length + (1 : Nat)) * 8 ≤ 140737488355328) ((eH F (fun d : Nat × Int × qd => aEh F a_3 b_4 d.1 d.2.1 d.2.2) ((0 : Nat), (0 : Int), ((id a_3) ++ ([0] : List Nat)))).bind (fun e => (jZ F e).bind (fun v_27 => some v_27))))
def aFF (F : Md) (a_0 : qd) (b_1 : qd) : Option qd :=
 if (a_0.length : Int) < (b_1.length : Int) then wD F b_1 a_0 else wD F a_0 b_1
def aMF : PlR := ⟨[(0, .A [0, 1]), (1, .A [0, 1, 13]), (2, .A [0, 1]), (3, .B [1, 5]), (4, .A [1, 5, 6]), (5, .A [1, 5, 6, 21, 22]), (6, .A [1, 5, 6, 21, 22, 23]), (7, .A [1, 5, 6, 7, 21, 22]), (8, .A [1, 5, 6, 7, 8, 21, 22]), (9, .A [1, 5, 6, 7, 8, 21, 22, 25]), (10, .A [1, 5, 6, 7, 8, 21, 22]), (11, .A [1, 5, 6, 7, 8, 21, 22, 34]), (12, .B [1, 5, 6, 21, 22]), (13, .A [1, 5, 6, 21, 22]), (14, .B [4])], [(4, 6), (12, 15)]⟩
def aO0 : Ty := .pair we (.pair we .unit)
def aDK (F : Md) : aI := mSpec aO0 (.one we) (fun x => aFF F x.1 x.2.1)
def aFG (F : Md) : List (FuncId × aI) := [(135, dC), (141, (gO F)), (144, sU)]
theorem aTs [Mx] (F : Md) : bH Tryz.prog GL (aFG F) := .cons nO (by kernel_rfl) (.cons (tU F) (by kernel_rfl) (.nat aIp (.nil)))
theorem aO1 (F : Md) : gam (aFG F) 135 = some dC := rfl
theorem aO2 (F : Md) : gam (aFG F) 141 = some (gO F) := rfl
theorem aO3 (F : Md) : gam (aFG F) 144 = some sU := rfl
attribute [go_sem] aO0 aMF aO1 aO2 aO3
theorem aSA [Mx] (F : Md) : FOK Tryz.prog GL 145 (aDK F) := by
 refine bS (aT (aTs F)) mix Tryz.func145 rfl (by kernel_rfl) (by decide) aMF fun w0 S x Θ hw h hF => ?_
 obtain ⟨(a_0 : qd), (b_1 : qd), u⟩ := x
 simp only [bX, go_sem]
 replace h : sat (aFF F a_0 b_1) _ := h
 unfold aFF at h
 refine eX hF (D := qd × qd) (fun d => sat (wD F d.1 d.2) Θ) [] (fun d => [(0, .val we d.1), (1, .val we d.2)]) (fun d => []) ?_ ?_
 ·simp only [go_sem]
  refine fN h (fun hc h => ?_) fun hc h => ?_
  ·exact bB (b_1, a_0) h rfl (by simp only [go_sem])
  ·exact bB (a_0, b_1) h rfl (by simp only [go_sem])
 ·rintro ⟨a_3, b_4⟩ h
  simp only [go_sem]
  replace h : sat (wD F a_3 b_4) _ := h
  unfold wD at h
  refine aZ h fun g0 h => ?_
  obtain ⟨g0, h⟩ := aQ h
  repeat (refine ⟨by omega, ?_⟩)
  refine aH7 [1] rfl rfl ?_
  simp only [go_sem]
  refine cI hF (D := Nat × Int × qd) [1, 21] (fun d => [(5, .own 0), (6, .val qx d.1), (22, .val qe d.2.1)]) (fun d => [.inr (.row 169 qx d.2.2)]) h rfl (by simp only [go_sem]) ?_
  rintro ⟨carry_12, x22_13, out_14⟩ A6 T6 hA6 hE6 h
  simp only [go_sem]
  replace h : sat (aEh F a_3 b_4 carry_12 x22_13 out_14) _ := h
  unfold aEh at h
  refine fN h (fun hc h => ?_) fun hc h => ?_
  ·refine eX hF (D := Nat) (fun d => sat (wC F x22_13 out_14 carry_12 d) T6) [1, 6, 7, 21, 22] (fun d => [(5, .own 0), (8, .val qx d)]) (fun d => [.inr (.row 169 qx out_14)]) ?_ ?_
   ·simp only [go_sem]
    refine fN h (fun hc h => ?_) fun hc h => ?_
    ·obtain ⟨g0, h⟩ := aQ h
     repeat (refine ⟨by omega, ?_⟩)
     exact bB (b_4.getD (x22_13.toNat) (0 : Nat)) h rfl (by simp only [go_sem])
    ·refine fC h (fun hc h => ?_) fun hc h => ?_
     ·replace h := hE6 _ (aE h)
      try dsimp only at h
      obtain ⟨v_23, hv, h⟩ := aN h
      exact zaZ
     ·exact bB (0 : Nat) h rfl (by simp only [go_sem])
   ·rintro x_21 h
    simp only [go_sem]
    replace h : sat (wC F x22_13 out_14 carry_12 x_21) _ := h
    unfold wC at h
    obtain ⟨g0, h⟩ := aQ h
    repeat (refine ⟨by omega, ?_⟩)
    obtain ⟨g0, h⟩ := aQ h
    repeat (refine ⟨by omega, ?_⟩)
    obtain ⟨g0, h⟩ := aQ h
    repeat (refine ⟨by omega, ?_⟩)
    refine aZ h fun g0 h => ?_
    replace h := hA6 _ (aE h)
    exact zaO
  ·replace h := hE6 _ (aE h)
   try dsimp only at h
   obtain ⟨v_25, hv, h⟩ := aN h
   exact zaZ
attribute [go_sem] aDK
def zF (F : Md) (x22_46 : Int) (b_1 : qd) (carry_86 : Nat) (out_87 : qd) : Option ((Int × qd) ⊕ qd) :=
 ck (I64 (x22_46 + (b_1.length : Int))) (ck (0 ≤ (x22_46 + (b_1.length : Int)) ∧ (x22_46 + (b_1.length : Int)) < (out_87.length : Int)) (ck (I64 (x22_46 + (1 : Int))) (some (.inl ((x22_46 + (1 : Int)), (out_87.set (x22_46 + (b_1.length : Int)).toNat carry_86))))))
def aC9 (F : Md) (b_1 : qd) (a_0 : qd) (x22_46 : Int) (carry_90 : Nat) (x29_91 : Int) (out_92 : qd) : Option ((Nat × Int × qd) ⊕ (Nat × qd)) :=
 if x29_91 < (b_1.length : Int) then ck (0 ≤ x29_91 ∧ x29_91 < (b_1.length : Int)) ((aCi F (a_0.getD (x22_46.toNat) (0 : Nat)) (b_1.getD (x29_91.toNat) (0 : Nat))).bind (fun v_105 => ck (aRn v_105.2.1 carry_90 (0 : Nat)) (ck (I64 (x22_46 + x29_91)) (ck (I64 (x22_46 + x29_91)) (ck (0 ≤ (x22_46 + x29_91) ∧ (x22_46 + x29_91) < (out_92.length : Int)) (ck (aRn (out_92.getD (x22_46 + x29_91).toNat (0 : Nat)) (aFz v_105.2.1 carry_90 (0 : Nat)).1 (0 : Nat)) (ck (0 ≤ (x22_46 + x29_91) ∧ (x22_46 + x29_91) < (out_92.length : Int)) (ck (I64 (x29_91 + (1 : Int))) (some (.inl (((((v_105.1 + (aFz v_105.2.1 carry_90 (0 : Nat)).2.1) % 18446744073709551616) + (aFz (out_92.getD (x22_46 + x29_91).toNat (0 : Nat)) (aFz v_105.2.1 carry_90 (0 : Nat)).1 (0 : Nat)).2.1) % 18446744073709551616), (x29_91 + (1 : Int)), (out_92.set (x22_46 + x29_91).toNat (aFz (out_92.getD (x22_46 + x29_91).toNat (0 : Nat)) (aFz v_105.2.1 carry_90 (0 : Nat)).1 (0 : Nat)).1)))))))))))) else some (.inr (carry_90, out_92))
def aDa (F : Md) (a_0 : qd) (b_1 : qd) (x22_46 : Int) (out_47 : qd) : Option ((Int × qd) ⊕ qd) :=
 if x22_46 < (a_0.length : Int) then ck (0 ≤ x22_46 ∧ x22_46 < (a_0.length : Int)) ((eH F (fun d : Nat × Int × qd => aC9 F b_1 a_0 x22_46 d.1 d.2.1 d.2.2) ((0 : Nat), (0 : Int), out_47)).bind (fun e => zF F x22_46 b_1 e.1 e.2)) else some (.inr out_47)
def kH (F : Md) (a_0 : qd) (b_1 : qd) : Option qd :=
 ck (I64 ((a_0.length : Int) + (b_1.length : Int))) (ck (0 ≤ ((a_0.length : Int) + (b_1.length : Int))) (ck ((8 : Int) * ((a_0.length : Int) + (b_1.length : Int)) ≤ 281474976710656) ((eH F (fun d : Int × qd => aDa F a_0 b_1 d.1 d.2) ((0 : Int), (List.replicate ((a_0.length : Int) + (b_1.length : Int)).toNat (0 : Nat)))).bind (fun e => (jZ F e).bind (fun v_109 => some v_109)))))
def aJ2 : PlR := ⟨[(0, .A [0, 1]), (1, .B [0, 1, 5]), (2, .A [1, 5, 20, 21, 22]), (3, .A [1, 5, 20, 21, 22, 23]), (4, .A [1, 5, 6, 7, 20, 21, 22]), (5, .A [1, 5, 6, 7, 8, 20, 21, 22]), (6, .A [1, 5, 6, 7, 8, 20, 21, 22, 27, 28, 29]), (7, .A [1, 5, 6, 7, 8, 20, 21, 22, 27, 28, 29, 30]), (8, .A [1, 5, 6, 7, 8, 9, 10, 20, 21, 22, 27, 28, 29]), (9, .A [1, 5, 6, 7, 8, 9, 11, 12, 20, 21, 22, 27, 28, 29]), (10, .A [1, 5, 6, 7, 8, 9, 11, 12, 20, 21, 22, 27, 28, 29]), (11, .A [1, 5, 6, 7, 9, 11, 12, 13, 20, 21, 22, 27, 28, 29]), (12, .A [1, 5, 6, 7, 9, 11, 12, 20, 21, 22, 27, 28, 29]), (13, .B [1, 5, 6, 7, 11, 13, 20, 21, 22, 27, 28, 29]), (14, .A [1, 5, 6, 7, 8, 20, 21, 22, 27, 28, 29]), (15, .A [1, 5, 6, 7, 8, 20, 21, 22, 27, 28, 29]), (16, .B [1, 5, 20, 21, 22]), (17, .A [1, 5, 20, 21, 22]), (18, .B [4])], [(9, 19)]⟩
def aMG : Ty := .pair we (.pair we .unit)
def gW (F : Md) : aI := mSpec aMG (.one we) (fun x => kH F x.1 x.2.1)
def aDL (F : Md) : List (FuncId × aI) := [(141, (gO F)), (143, (aAX F)), (144, sU)]
theorem aSB [Mx] (F : Md) : bH Tryz.prog GL (aDL F) := .cons (tU F) (by kernel_rfl) (.cons (aPU F) (by kernel_rfl) (.nat aIp (.nil)))
theorem aNd (F : Md) : gam (aDL F) 141 = some (gO F) := rfl
theorem aNe (F : Md) : gam (aDL F) 143 = some (aAX F) := rfl
theorem aNf (F : Md) : gam (aDL F) 144 = some sU := rfl
attribute [go_sem] aMG aJ2 aNd aNe aNf
theorem uL [Mx] (F : Md) : FOK Tryz.prog GL 104 (gW F) := by
 refine bS (aT (aSB F)) mix Tryz.func104 rfl (by kernel_rfl) (by decide) aJ2 fun w0 S x Θ hw h hF => ?_
 obtain ⟨(a_0 : qd), (b_1 : qd), u⟩ := x
 simp only [bX, go_sem]
 replace h : sat (kH F a_0 b_1) _ := h
 unfold kH at h
 obtain ⟨g0, h⟩ := aQ h
 repeat (refine ⟨by omega, ?_⟩)
 obtain ⟨g0, h⟩ := aQ h
 obtain ⟨g1, h⟩ := aQ h
 repeat (refine ⟨by omega, ?_⟩)
 refine cI hF (D := Int × qd) [1, 20, 21] (fun d => [(5, .own 0), (22, .val qe d.1)]) (fun d => [.inr (.row 169 qx d.2)]) h rfl (by simp only [go_sem]) ?_
 rintro ⟨x22_46, out_47⟩ A3 T3 hA3 hE3 h
 simp only [go_sem]
 replace h : sat (aDa F a_0 b_1 x22_46 out_47) _ := h
 unfold aDa at h
 refine fN h (fun hc h => ?_) fun hc h => ?_
 ·obtain ⟨g0, h⟩ := aQ h
  repeat (refine ⟨by omega, ?_⟩)
  refine eX hF (D := Nat × qd) (fun d => sat (zF F x22_46 b_1 d.1 d.2) T3) [1, 6, 20, 21, 22] (fun d => [(5, .own 0), (8, .val qx d.1)]) (fun d => [.inr (.row 169 qx d.2)]) ?_ ?_
  ·simp only [go_sem]
   refine cI hF (D := Nat × Int × qd) [1, 6, 7, 20, 21, 22, 27, 28] (fun d => [(5, .own 0), (8, .val qx d.1), (29, .val qe d.2.1)]) (fun d => [.inr (.row 169 qx d.2.2)]) h rfl (by simp only [go_sem]) ?_
   rintro ⟨carry_90, x29_91, out_92⟩ A7 T7 hA7 hE7 h
   simp only [go_sem]
   replace h : sat (aC9 F b_1 a_0 x22_46 carry_90 x29_91 out_92) _ := h
   unfold aC9 at h
   refine fN h (fun hc h => ?_) fun hc h => ?_
   ·obtain ⟨g0, h⟩ := aQ h
    repeat (refine ⟨by omega, ?_⟩)
    obtain ⟨v_105, hv, h⟩ := aN h
    try simp only [hv, go_sem]
    obtain ⟨g0, h⟩ := aQ h
    repeat (refine ⟨by omega, ?_⟩)
    obtain ⟨g0, h⟩ := aQ h
    repeat (refine ⟨by omega, ?_⟩)
    obtain ⟨g0, h⟩ := aQ h
    repeat (refine ⟨by omega, ?_⟩)
    obtain ⟨g0, h⟩ := aQ h
    repeat (refine ⟨by omega, ?_⟩)
    obtain ⟨g0, h⟩ := aQ h
    repeat (refine ⟨by omega, ?_⟩)
    obtain ⟨g0, h⟩ := aQ h
    repeat (refine ⟨by omega, ?_⟩)
    obtain ⟨g0, h⟩ := aQ h
    repeat (refine ⟨by omega, ?_⟩)
    replace h := hA7 _ (aE h)
    exact zaO
   ·replace h := hE7 _ (aE h)
    try dsimp only at h
    exact bB (carry_90, out_92) h rfl (by simp only [go_sem])
  ·rintro ⟨carry_86, out_87⟩ h
   simp only [go_sem]
   replace h : sat (zF F x22_46 b_1 carry_86 out_87) _ := h
   unfold zF at h
   obtain ⟨g0, h⟩ := aQ h
   repeat (refine ⟨by omega, ?_⟩)
   obtain ⟨g0, h⟩ := aQ h
   repeat (refine ⟨by omega, ?_⟩)
   obtain ⟨g0, h⟩ := aQ h
   try simp only [I64, I32] at g0
   repeat (refine ⟨zAA, ?_⟩)
   replace h := hA3 _ (aE h)
   exact zaO
 ·replace h := hE3 _ (aE h)
  try dsimp only at h
  obtain ⟨v_107, hv, h⟩ := aN h
  exact zaZ
attribute [go_sem] gW
def aEi (F : Md) (a_0 : qd) (n_1 : Int) (x20_7 : Int) (out_8 : qd) : Option ((Int × qd) ⊕ qd) :=
 if x20_7 < (a_0.length : Int) then ck (0 ≤ x20_7 ∧ x20_7 < (a_0.length : Int)) (ck (I64 (Int.tdiv n_1 (64 : Int))) (ck (I64 ((Int.tdiv n_1 (64 : Int)) + x20_7)) (ck (0 ≤ ((Int.tdiv n_1 (64 : Int)) + x20_7) ∧ ((Int.tdiv n_1 (64 : Int)) + x20_7) < (out_8.length : Int)) (ck (0 ≤ ((Int.tdiv n_1 (64 : Int)) + x20_7) ∧ ((Int.tdiv n_1 (64 : Int)) + x20_7) < (out_8.length : Int)) (ck (I64 (Int.tdiv n_1 (64 : Int))) (ck (I64 ((Int.tdiv n_1 (64 : Int)) + x20_7)) (ck (I64 (((Int.tdiv n_1 (64 : Int)) + x20_7) + (1 : Int))) (ck (0 ≤ (((Int.tdiv n_1 (64 : Int)) + x20_7) + (1 : Int)) ∧ (((Int.tdiv n_1 (64 : Int)) + x20_7) + (1 : Int)) < (((out_8.set ((Int.tdiv n_1 (64 : Int)) + x20_7).toNat ((out_8.getD ((Int.tdiv n_1 (64 : Int)) + x20_7).toNat (0 : Nat)) ||| (((a_0.getD (x20_7.toNat) (0 : Nat)) * (2 ^ ((Int.tmod n_1 (64 : Int)) % (18446744073709551616 : Int)).toNat)) % 18446744073709551616))).length : Nat) : Int)) (ck (I64 ((63 : Int) - (Int.tmod n_1 (64 : Int)))) (ck (0 ≤ (((Int.tdiv n_1 (64 : Int)) + x20_7) + (1 : Int)) ∧ (((Int.tdiv n_1 (64 : Int)) + x20_7) + (1 : Int)) < (((out_8.set ((Int.tdiv n_1 (64 : Int)) + x20_7).toNat ((out_8.getD ((Int.tdiv n_1 (64 : Int)) + x20_7).toNat (0 : Nat)) ||| (((a_0.getD (x20_7.toNat) (0 : Nat)) * (2 ^ ((Int.tmod n_1 (64 : Int)) % (18446744073709551616 : Int)).toNat)) % 18446744073709551616))).length : Nat) : Int)) (ck (I64 (x20_7 + (1 : Int))) (some (.inl ((x20_7 + (1 : Int)), ((out_8.set ((Int.tdiv n_1 (64 : Int)) + x20_7).toNat ((out_8.getD ((Int.tdiv n_1 (64 : Int)) + x20_7).toNat (0 : Nat)) ||| (((a_0.getD (x20_7.toNat) (0 : Nat)) * (2 ^ ((Int.tmod n_1 (64 : Int)) % (18446744073709551616 : Int)).toNat)) % 18446744073709551616))).set (((Int.tdiv n_1 (64 : Int)) + x20_7) + (1 : Int)).toNat (((out_8.set ((Int.tdiv n_1 (64 : Int)) + x20_7).toNat ((out_8.getD ((Int.tdiv n_1 (64 : Int)) + x20_7).toNat (0 : Nat)) ||| (((a_0.getD (x20_7.toNat) (0 : Nat)) * (2 ^ ((Int.tmod n_1 (64 : Int)) % (18446744073709551616 : Int)).toNat)) % 18446744073709551616))).getD (((Int.tdiv n_1 (64 : Int)) + x20_7) + (1 : Int)).toNat (0 : Nat)) ||| (((a_0.getD (x20_7.toNat) (0 : Nat)) / (2 : Nat)) / (2 ^ (((63 : Int) - (Int.tmod n_1 (64 : Int))) % (18446744073709551616 : Int)).toNat)))))))))))))))))) else some (.inr out_8)
def lW (F : Md) (a_0 : qd) (n_1 : Int) : Option qd :=
 if (a_0.length : Int) = (0 : Int) then some ([] : List Nat) else ck (I64 (Int.tdiv n_1 (64 : Int))) (ck (I64 ((Int.tdiv n_1 (64 : Int)) + (a_0.length : Int))) (ck (I64 (((Int.tdiv n_1 (64 : Int)) + (a_0.length : Int)) + (1 : Int))) (ck (0 ≤ (((Int.tdiv n_1 (64 : Int)) + (a_0.length : Int)) + (1 : Int))) (ck ((8 : Int) * (((Int.tdiv n_1 (64 : Int)) + (a_0.length : Int)) + (1 : Int)) ≤ 281474976710656) ((eH F (fun d : Int × qd => aEi F a_0 n_1 d.1 d.2) ((0 : Int), (List.replicate (((Int.tdiv n_1 (64 : Int)) + (a_0.length : Int)) + (1 : Int)).toNat (0 : Nat)))).bind (fun e => (jZ F e).bind (fun v_15 => some v_15)))))))
def aMH : PlR := ⟨[(0, .A [0, 1]), (1, .A [0, 1, 10]), (2, .A [4]), (3, .B [0, 1, 5]), (4, .A [1, 5, 18, 19, 20]), (5, .A [1, 5, 18, 19, 20, 21]), (6, .A [1, 5, 6, 7, 18, 19, 20]), (7, .B [1, 5, 6, 7, 18, 19, 20]), (8, .B [1, 5, 18, 19, 20]), (9, .A [1, 5, 18, 19, 20]), (10, .B [4])], []⟩
def aO4 : Ty := .pair we q9
def yE (F : Md) : aI := mSpec aO4 (.one we) (fun x => lW F x.1 x.2.1)
def aO5 (F : Md) : List (FuncId × aI) := [(141, (gO F))]
theorem aTt [Mx] (F : Md) : bH Tryz.prog GL (aO5 F) := .cons (tU F) (by kernel_rfl) (.nil)
theorem aO6 (F : Md) : gam (aO5 F) 141 = some (gO F) := rfl
attribute [go_sem] aO4 aMH aO6
theorem aMI [Mx] (F : Md) : FOK Tryz.prog GL 139 (yE F) := by
 refine bS (aT (aTt F)) mix Tryz.func139 rfl (by kernel_rfl) (by decide) aMH fun w0 S x Θ hw h hF => ?_
 obtain ⟨(a_0 : qd), (n_1 : Int), u⟩ := x
 simp only [bX, go_sem]
 replace h : sat (lW F a_0 n_1) _ := h
 unfold lW at h
 refine fC h (fun hc h => ?_) fun hc h => ?_
 ·exact aK hF [.tmp 4] rfl rfl rfl (aE h) (by simp only [aS, go_sem])
 ·obtain ⟨g0, h⟩ := aQ h
  try simp only [I64, I32] at g0
  repeat (refine ⟨zAA, ?_⟩)
  obtain ⟨g0, h⟩ := aQ h
  try simp only [I64, I32] at g0
  repeat (refine ⟨zAA, ?_⟩)
  obtain ⟨g0, h⟩ := aQ h
  try simp only [I64, I32] at g0
  repeat (refine ⟨zAA, ?_⟩)
  obtain ⟨g0, h⟩ := aQ h
  obtain ⟨g1, h⟩ := aQ h
  repeat (refine ⟨zAA, ?_⟩)
  refine cI hF (D := Int × qd) [1, 18, 19] (fun d => [(5, .own 0), (20, .val qe d.1)]) (fun d => [.inr (.row 169 qx d.2)]) h rfl (by simp only [go_sem]) ?_
  rintro ⟨x20_7, out_8⟩ A5 T5 hA5 hE5 h
  simp only [go_sem]
  replace h : sat (aEi F a_0 n_1 x20_7 out_8) _ := h
  unfold aEi at h
  refine fN h (fun hc h => ?_) fun hc h => ?_
  ·obtain ⟨g0, h⟩ := aQ h
   repeat (refine ⟨zAA, ?_⟩)
   obtain ⟨g0, h⟩ := aQ h
   try simp only [I64, I32] at g0
   repeat (refine ⟨zAA, ?_⟩)
   obtain ⟨g0, h⟩ := aQ h
   try simp only [I64, I32] at g0
   repeat (refine ⟨zAA, ?_⟩)
   obtain ⟨g0, h⟩ := aQ h
   repeat (refine ⟨zAA, ?_⟩)
   obtain ⟨g0, h⟩ := aQ h
   repeat (refine ⟨zAA, ?_⟩)
   obtain ⟨g0, h⟩ := aQ h
   try simp only [I64, I32] at g0
   repeat (refine ⟨zAA, ?_⟩)
   obtain ⟨g0, h⟩ := aQ h
   try simp only [I64, I32] at g0
   repeat (refine ⟨zAA, ?_⟩)
   obtain ⟨g0, h⟩ := aQ h
   try simp only [I64, I32] at g0
   repeat (refine ⟨zAA, ?_⟩)
   obtain ⟨g0, h⟩ := aQ h
   repeat (refine ⟨zAA, ?_⟩)
   obtain ⟨g0, h⟩ := aQ h
   try simp only [I64, I32] at g0
   repeat (refine ⟨zAA, ?_⟩)
   obtain ⟨g0, h⟩ := aQ h
   repeat (refine ⟨zAA, ?_⟩)
   obtain ⟨g0, h⟩ := aQ h
   try simp only [I64, I32] at g0
   repeat (refine ⟨zAA, ?_⟩)
   replace h := hA5 _ (aE h)
   exact za0
  ·replace h := hE5 _ (aE h)
   try dsimp only at h
   obtain ⟨v_13, hv, h⟩ := aN h
   exact zaZ
attribute [go_sem] yE
def aDb (F : Md) (n_1 : Int) (a_0 : qd) (x22_10 : Int) (out_11 : qd) : Option ((Int × qd) ⊕ qd) :=
 if x22_10 < (((List.drop (Int.tdiv n_1 (64 : Int)).toNat a_0).length : Nat) : Int) then ck (0 ≤ x22_10 ∧ x22_10 < (((List.drop (Int.tdiv n_1 (64 : Int)).toNat a_0).length : Nat) : Int)) (ck (0 ≤ x22_10 ∧ x22_10 < (out_11.length : Int)) (ck (I64 (x22_10 + (1 : Int))) (if (x22_10 + (1 : Int)) < (((List.drop (Int.tdiv n_1 (64 : Int)).toNat a_0).length : Nat) : Int) then ck (0 ≤ x22_10 ∧ x22_10 < (((out_11.set (x22_10.toNat) (((List.drop (Int.tdiv n_1 (64 : Int)).toNat a_0).getD (x22_10.toNat) (0 : Nat)) / (2 ^ ((Int.tmod n_1 (64 : Int)) % (18446744073709551616 : Int)).toNat))).length : Nat) : Int)) (ck (I64 (x22_10 + (1 : Int))) (ck (0 ≤ (x22_10 + (1 : Int)) ∧ (x22_10 + (1 : Int)) < (((List.drop (Int.tdiv n_1 (64 : Int)).toNat a_0).length : Nat) : Int)) (ck (I64 ((63 : Int) - (Int.tmod n_1 (64 : Int)))) (ck (0 ≤ x22_10 ∧ x22_10 < (((out_11.set (x22_10.toNat) (((List.drop (Int.tdiv n_1 (64 : Int)).toNat a_0).getD (x22_10.toNat) (0 : Nat)) / (2 ^ ((Int.tmod n_1 (64 : Int)) % (18446744073709551616 : Int)).toNat))).length : Nat) : Int)) (ck (I64 (x22_10 + (1 : Int))) (some (.inl ((x22_10 + (1 : Int)), ((out_11.set (x22_10.toNat) (((List.drop (Int.tdiv n_1 (64 : Int)).toNat a_0).getD (x22_10.toNat) (0 : Nat)) / (2 ^ ((Int.tmod n_1 (64 : Int)) % (18446744073709551616 : Int)).toNat))).set (x22_10.toNat) (((out_11.set (x22_10.toNat) (((List.drop (Int.tdiv n_1 (64 : Int)).toNat a_0).getD (x22_10.toNat) (0 : Nat)) / (2 ^ ((Int.tmod n_1 (64 : Int)) % (18446744073709551616 : Int)).toNat))).getD (x22_10.toNat) (0 : Nat)) ||| ((((((List.drop (Int.tdiv n_1 (64 : Int)).toNat a_0).getD (x22_10 + (1 : Int)).toNat (0 : Nat)) * (2 : Nat)) % 18446744073709551616) * (2 ^ (((63 : Int) - (Int.tmod n_1 (64 : Int))) % (18446744073709551616 : Int)).toNat)) % 18446744073709551616))))))))))) else ck (I64 (x22_10 + (1 : Int))) (some (.inl ((x22_10 + (1 : Int)), (out_11.set (x22_10.toNat) (((List.drop (Int.tdiv n_1 (64 : Int)).toNat a_0).getD (x22_10.toNat) (0 : Nat)) / (2 ^ ((Int.tmod n_1 (64 : Int)) % (18446744073709551616 : Int)).toNat))))))))) else some (.inr out_11)
def oF (F : Md) (a_0 : qd) (n_1 : Int) : Option qd :=
 ck (I64 (Int.tdiv n_1 (64 : Int))) (if (a_0.length : Int) ≤ (Int.tdiv n_1 (64 : Int)) then some ([] : List Nat) else ck (I64 (Int.tdiv n_1 (64 : Int))) (ck (0 ≤ (Int.tdiv n_1 (64 : Int)) ∧ (Int.tdiv n_1 (64 : Int)) ≤ (a_0.length : Int)) (ck (0 ≤ (((List.drop (Int.tdiv n_1 (64 : Int)).toNat a_0).length : Nat) : Int)) (ck ((8 : Int) * (((List.drop (Int.tdiv n_1 (64 : Int)).toNat a_0).length : Nat) : Int) ≤ 281474976710656) ((eH F (fun d : Int × qd => aDb F n_1 a_0 d.1 d.2) ((0 : Int), (List.replicate (List.drop (Int.tdiv n_1 (64 : Int)).toNat a_0).length (0 : Nat)))).bind (fun e => (jZ F e).bind (fun v_19 => some v_19)))))))
def aJ3 : PlR := ⟨[(0, .A [0, 1]), (1, .A [0, 1, 12]), (2, .A [4]), (3, .A [0, 1]), (4, .B [0, 1, 5]), (5, .A [0, 1, 5, 20, 21, 22]), (6, .A [0, 1, 5, 20, 21, 22, 23]), (7, .A [0, 1, 5, 6, 7, 20, 21, 22]), (8, .B [0, 1, 5, 6, 20, 21, 22]), (9, .A [0, 1, 5, 6, 20, 21, 22, 39]), (10, .C 17 [0, 1, 5, 20, 21, 22]), (11, .A [0, 1, 5, 20, 21, 22]), (12, .B [4])], []⟩
def aMJ : Ty := .pair we q9
def uM (F : Md) : aI := mSpec aMJ (.one we) (fun x => oF F x.1 x.2.1)
def aMK (F : Md) : List (FuncId × aI) := [(141, (gO F))]
theorem aSC [Mx] (F : Md) : bH Tryz.prog GL (aMK F) := .cons (tU F) (by kernel_rfl) (.nil)
theorem aNg (F : Md) : gam (aMK F) 141 = some (gO F) := rfl
attribute [go_sem] aMJ aJ3 aNg
theorem aJ4 [Mx] (F : Md) : FOK Tryz.prog GL 142 (uM F) := by
 refine bS (aT (aSC F)) mix Tryz.func142 rfl (by kernel_rfl) (by decide) aJ3 fun w0 S x Θ hw h hF => ?_
 obtain ⟨(a_0 : qd), (n_1 : Int), u⟩ := x
 simp only [bX, go_sem]
 replace h : sat (oF F a_0 n_1) _ := h
 unfold oF at h
 obtain ⟨g0, h⟩ := aQ h
 try simp only [I64, I32] at g0
 repeat (refine ⟨zAA, ?_⟩)
 refine aTg h (fun hc h => ?_) fun hc h => ?_
 ·exact aK hF [.tmp 4] rfl rfl rfl (aE h) (by simp only [aS, go_sem])
 ·obtain ⟨g0, h⟩ := aQ h
  obtain ⟨g1, h⟩ := aQ h
  try simp only [I64, I32] at g0
  repeat (refine ⟨zAA, ?_⟩)
  obtain ⟨g0, h⟩ := aQ h
  obtain ⟨g1, h⟩ := aQ h
  repeat (refine ⟨zAA, ?_⟩)
  refine cI hF (D := Int × qd) [0, 1, 20, 21] (fun d => [(5, .own 0), (22, .val qe d.1)]) (fun d => [.inr (.row 169 qx d.2)]) h rfl (by simp only [go_sem]) ?_
  rintro ⟨x22_10, out_11⟩ A6 T6 hA6 hE6 h
  simp only [go_sem]
  replace h : sat (aDb F n_1 a_0 x22_10 out_11) _ := h
  unfold aDb at h
  refine fN h (fun hc h => ?_) fun hc h => ?_
  ·obtain ⟨g0, h⟩ := aQ h
   repeat (refine ⟨zAA, ?_⟩)
   obtain ⟨g0, h⟩ := aQ h
   repeat (refine ⟨zAA, ?_⟩)
   obtain ⟨g0, h⟩ := aQ h
   try simp only [I64, I32] at g0
   repeat (refine ⟨zAA, ?_⟩)
   refine ⟨fun hc => ?_, fun hc => ?_⟩
   ·replace h := jE hc h
    obtain ⟨g0, h⟩ := aQ h
    obtain ⟨g1, h⟩ := aQ h
    obtain ⟨g2, h⟩ := aQ h
    obtain ⟨g3, h⟩ := aQ h
    obtain ⟨g4, h⟩ := aQ h
    try simp only [I64, I32] at g1
    try simp only [I64, I32] at g3
    repeat (refine ⟨zAA, ?_⟩)
    obtain ⟨g0, h⟩ := aQ h
    try simp only [I64, I32] at g0
    repeat (refine ⟨zAA, ?_⟩)
    replace h := hA6 _ (aE h)
    exact za0
   ·replace h := jF (by first | exact hc | omega) h
    obtain ⟨g0, h⟩ := aQ h
    try simp only [I64, I32] at g0
    repeat (refine ⟨zAA, ?_⟩)
    replace h := hA6 _ (aE h)
    exact zaO
  ·replace h := hE6 _ (aE h)
   try dsimp only at h
   obtain ⟨v_17, hv, h⟩ := aN h
   exact zaZ
attribute [go_sem] uM
def zG (F : Md) (rest_11 : Nat) (q_12 : qd) : Option qw :=
 (jZ F q_12).bind (fun v_15 => (jZ F ([rest_11] : List Nat)).bind (fun v_16 => some (v_15, v_16, ())))
def aDc (F : Md) (a_0 : qd) (b_1 : Nat) (rest_18 : Nat) (i_19 : Int) (q_20 : qd) : Option ((Nat × Int × qd) ⊕ (Nat × qd)) :=
 if (0 : Int) ≤ i_19 then ck (0 ≤ i_19 ∧ i_19 < (a_0.length : Int)) ((aCj F rest_18 (a_0.getD (i_19.toNat) (0 : Nat)) b_1).bind (fun v_28 => ck (0 ≤ i_19 ∧ i_19 < (q_20.length : Int)) (ck (I64 (i_19 - (1 : Int))) (some (.inl (v_28.2.1, (i_19 - (1 : Int)), (q_20.set (i_19.toNat) v_28.1))))))) else some (.inr (rest_18, q_20))
def yF (F : Md) (a_0 : qd) (b_1 : Nat) : Option qw :=
 ck (0 ≤ (a_0.length : Int)) (ck ((8 : Int) * (a_0.length : Int) ≤ 281474976710656) (ck (I64 ((a_0.length : Int) - (1 : Int))) ((eH F (fun d : Nat × Int × qd => aDc F a_0 b_1 d.1 d.2.1 d.2.2) ((0 : Nat), ((a_0.length : Int) - (1 : Int)), (List.replicate (a_0.length) (0 : Nat)))).bind (fun e => zG F e.1 e.2))))
def aJ5 : PlR := ⟨[(0, .A [0, 1]), (1, .B [0, 1, 6]), (2, .A [0, 1, 6, 7]), (3, .A [0, 1, 6, 7, 8]), (4, .A [0, 1, 6, 7, 8, 16]), (5, .A [0, 1, 6, 7, 8]), (6, .B [0, 1, 6, 7, 8]), (7, .B [4, 5])], [(6, 10)]⟩
def aML : Ty := .pair we (.pair qx .unit)
def aCl (F : Md) : aI := mSpec aML (.tup (.pair we (.pair we .unit))) (fun x => yF F x.1 x.2.1)
def aHe (F : Md) : List (FuncId × aI) := [(141, (gO F)), (173, (aAY F))]
theorem aSD [Mx] (F : Md) : bH Tryz.prog GL (aHe F) := .cons (tU F) (by kernel_rfl) (.cons (aPV F) (by kernel_rfl) (.nil))
theorem aNh (F : Md) : gam (aHe F) 141 = some (gO F) := rfl
theorem aNi (F : Md) : gam (aHe F) 173 = some (aAY F) := rfl
attribute [go_sem] aML aJ5 aNh aNi
theorem aRv [Mx] (F : Md) : FOK Tryz.prog GL 136 (aCl F) := by
 refine bS (aT (aSD F)) mix Tryz.func136 rfl (by kernel_rfl) (by decide) aJ5 fun w0 S x Θ hw h hF => ?_
 obtain ⟨(a_0 : qd), (b_1 : Nat), u⟩ := x
 simp only [bX, go_sem]
 replace h : sat (yF F a_0 b_1) _ := h
 unfold yF at h
 obtain ⟨g0, h⟩ := aQ h
 obtain ⟨g1, h⟩ := aQ h
 repeat (refine ⟨by omega, ?_⟩)
 refine eX hF (D := Nat × qd) (fun d => sat (zG F d.1 d.2) Θ) [] (fun d => [(6, .own 0), (7, .val qx d.1)]) (fun d => [.inr (.row 169 qx d.2)]) ?_ ?_
 ·simp only [go_sem]
  obtain ⟨g0, h⟩ := aQ h
  repeat (refine ⟨by omega, ?_⟩)
  refine cI hF (D := Nat × Int × qd) [0, 1] (fun d => [(6, .own 0), (7, .val qx d.1), (8, .val qe d.2.1)]) (fun d => [.inr (.row 169 qx d.2.2)]) h rfl (by simp only [go_sem]) ?_
  rintro ⟨rest_18, i_19, q_20⟩ A4 T4 hA4 hE4 h
  simp only [go_sem]
  replace h : sat (aDc F a_0 b_1 rest_18 i_19 q_20) _ := h
  unfold aDc at h
  refine aTg h (fun hc h => ?_) fun hc h => ?_
  ·obtain ⟨g0, h⟩ := aQ h
   repeat (refine ⟨by omega, ?_⟩)
   obtain ⟨v_28, hv, h⟩ := aN h
   try simp only [hv, go_sem]
   obtain ⟨g0, h⟩ := aQ h
   repeat (refine ⟨by omega, ?_⟩)
   obtain ⟨g0, h⟩ := aQ h
   repeat (refine ⟨by omega, ?_⟩)
   replace h := hA4 _ (aE h)
   exact zaO
  ·replace h := hE4 _ (aE h)
   try dsimp only at h
   exact bB (rest_18, q_20) h rfl (by simp only [go_sem])
 ·rintro ⟨rest_11, q_12⟩ h
  simp only [go_sem]
  replace h : sat (zG F rest_11 q_12) _ := h
  unfold zG at h
  obtain ⟨v_15, hv, h⟩ := aN h
  try simp only [hv, go_sem]
  obtain ⟨v_16, hv, h⟩ := aN h
  try simp only [hv, go_sem]
  exact aK hF [.tmp 4, .tmp 5] rfl rfl rfl (aE h) (by simp only [aS, go_sem])
attribute [go_sem] aCl
def nQ (F : Md) (a_0 : qd) (n_1 : Int) : Option qd :=
 ck (aWr a_0) (ck (I64 (n_1 - (a_0.length : Int))) (ck (0 ≤ (n_1 - (a_0.length : Int))) (ck (((id a_0).length + (n_1 - (a_0.length : Int)).toNat) * 8 ≤ 140737488355328) (some ((id a_0) ++ (List.replicate (n_1 - (a_0.length : Int)).toNat (0 : Nat)))))))
def aIt : PlR := ⟨[(0, .A [0, 1]), (1, .B [4])], []⟩
def aJ6 : Ty := .pair we q9
def aAZ (F : Md) : aI := mSpec aJ6 (.one we) (fun x => nQ F x.1 x.2.1)
def aJ7 (F : Md) : List (FuncId × aI) := [(135, dC)]
theorem aRw [Mx] (F : Md) : bH Tryz.prog GL (aJ7 F) := .cons nO (by kernel_rfl) (.nil)
theorem aLw (F : Md) : gam (aJ7 F) 135 = some dC := rfl
attribute [go_sem] aJ6 aIt aLw
theorem aPW [Mx] (F : Md) : FOK Tryz.prog GL 138 (aAZ F) := by
 refine bS (aT (aRw F)) mix Tryz.func138 rfl (by kernel_rfl) (by decide) aIt fun w0 S x Θ hw h hF => ?_
 obtain ⟨(a_0 : qd), (n_1 : Int), u⟩ := x
 simp only [bX, go_sem]
 replace h : sat (nQ F a_0 n_1) _ := h
 unfold nQ at h
 refine aZ h fun g0 h => ?_
 refine aZ h fun g0 h => ?_
 obtain ⟨g0, h⟩ := aQ h
 obtain ⟨g1, h⟩ := aQ h
 repeat (refine ⟨by omega, ?_⟩)
 exact zaD
attribute [go_sem] aAZ
def aBE (F : Md) (a_0 : qd) (b_1 : qd) : Option qw :=
 ck ((jZ F (List.replicate (((a_0.length : Int) - (b_1.length : Int)) + (1 : Int)).toNat (0 : Nat))).isSome = true) (ck (0 ≤ (b_1.length : Int) ∧ (b_1.length : Int) ≤ ((((nQ F ((lW F a_0 ((cC F (b_1.getD ((b_1.length : Int) - (1 : Int)).toNat (0 : Nat))).getD (0 : Int))).getD ([] : List Nat)) ((a_0.length : Int) + (1 : Int))).getD ([] : List Nat)).length : Nat) : Int)) (ck ((jZ F (List.take (b_1.length) ((nQ F ((lW F a_0 ((cC F (b_1.getD ((b_1.length : Int) - (1 : Int)).toNat (0 : Nat))).getD (0 : Int))).getD ([] : List Nat)) ((a_0.length : Int) + (1 : Int))).getD ([] : List Nat)))).isSome = true) (ck ((oF F ((jZ F (List.take (b_1.length) ((nQ F ((lW F a_0 ((cC F (b_1.getD ((b_1.length : Int) - (1 : Int)).toNat (0 : Nat))).getD (0 : Int))).getD ([] : List Nat)) ((a_0.length : Int) + (1 : Int))).getD ([] : List Nat)))).getD ([] : List Nat)) ((cC F (b_1.getD ((b_1.length : Int) - (1 : Int)).toNat (0 : Nat))).getD (0 : Int))).isSome = true) (some (((jZ F (List.replicate (((a_0.length : Int) - (b_1.length : Int)) + (1 : Int)).toNat (0 : Nat))).getD ([] : List Nat)), ((oF F ((jZ F (List.take (b_1.length) ((nQ F ((lW F a_0 ((cC F (b_1.getD ((b_1.length : Int) - (1 : Int)).toNat (0 : Nat))).getD (0 : Int))).getD ([] : List Nat)) ((a_0.length : Int) + (1 : Int))).getD ([] : List Nat)))).getD ([] : List Nat)) ((cC F (b_1.getD ((b_1.length : Int) - (1 : Int)).toNat (0 : Nat))).getD (0 : Int))).getD ([] : List Nat)), ())))))
def aGa (F : Md) (a_0 : qd) (b_1 : qd) : Option ((Unit) ⊕ (Unit)) :=
 if (0 : Int) ≤ ((a_0.length : Int) - (b_1.length : Int)) then none else some (.inr ())
def aCm (F : Md) (a_0 : qd) (b_1 : qd) : Option qw :=
 ck ((tV F a_0 b_1).isSome = true) (if ((tV F a_0 b_1).getD (0 : Int)) < (0 : Int) then ck (aWr a_0) (some (([] : List Nat), (id a_0), ())) else if (b_1.length : Int) = (1 : Int) then ck ((0 : Int) < (b_1.length : Int)) (ck ((yF F a_0 (b_1.getD (0 : Nat) (0 : Nat))).isSome = true) (some (((yF F a_0 (b_1.getD (0 : Nat) (0 : Nat))).getD (([] : List Nat), ([] : List Nat), ())).1, ((yF F a_0 (b_1.getD (0 : Nat) (0 : Nat))).getD (([] : List Nat), ([] : List Nat), ())).2.1, ()))) else ck (I64 ((b_1.length : Int) - (1 : Int))) (ck (0 ≤ ((b_1.length : Int) - (1 : Int)) ∧ ((b_1.length : Int) - (1 : Int)) < (b_1.length : Int)) (ck ((cC F (b_1.getD ((b_1.length : Int) - (1 : Int)).toNat (0 : Nat))).isSome = true) (ck ((lW F b_1 ((cC F (b_1.getD ((b_1.length : Int) - (1 : Int)).toNat (0 : Nat))).getD (0 : Int))).isSome = true) (ck ((nQ F ((lW F b_1 ((cC F (b_1.getD ((b_1.length : Int) - (1 : Int)).toNat (0 : Nat))).getD (0 : Int))).getD ([] : List Nat)) (b_1.length : Int)).isSome = true) (ck ((lW F a_0 ((cC F (b_1.getD ((b_1.length : Int) - (1 : Int)).toNat (0 : Nat))).getD (0 : Int))).isSome = true) (ck (I64 ((a_0.length : Int) + (1 : Int))) (ck ((nQ F ((lW F a_0 ((cC F (b_1.getD ((b_1.length : Int) - (1 : Int)).toNat (0 : Nat))).getD (0 : Int))).getD ([] : List Nat)) ((a_0.length : Int) + (1 : Int))).isSome = true) (ck (I64 ((a_0.length : Int) - (b_1.length : Int))) (ck (I64 (((a_0.length : Int) - (b_1.length : Int)) + (1 : Int))) (ck (0 ≤ (((a_0.length : Int) - (b_1.length : Int)) + (1 : Int))) (ck ((8 : Int) * (((a_0.length : Int) - (b_1.length : Int)) + (1 : Int)) ≤ 281474976710656) (ck (I64 ((a_0.length : Int) - (b_1.length : Int))) ((eH F (fun d : Unit => aGa F a_0 b_1) ()).bind (fun e => aBE F a_0 b_1)))))))))))))))
@[go_sem]def aCn : Ty := .pair we (.pair we .unit)
def aA0 (F : Md) : aI := mSpec aCn (.tup (.pair we (.pair we .unit))) (fun x => aCm F x.1 x.2.1)
def mB (F : Md) : List (FuncId × aI) := [(114, (pX F)), (135, dC), (136, (aCl F)), (137, (fH F)), (138, (aAZ F)), (139, (yE F)), (141, (gO F)), (142, (uM F))]
theorem aJ8 [Mx] (F : Md) : bH Tryz.prog GL (mB F) := .cons (aFE F) (by kernel_rfl) (.cons nO (by kernel_rfl) (.cons (aRv F) (by kernel_rfl) (.cons (rP F) (by kernel_rfl) (.cons (aPW F) (by kernel_rfl) (.cons (aMI F) (by kernel_rfl) (.cons (tU F) (by kernel_rfl) (.cons (aJ4 F) (by kernel_rfl) (.nil))))))))
@[go_sem]theorem aLx (F : Md) : gam (mB F) 114 = some (pX F) := rfl
@[go_sem]theorem aLy (F : Md) : gam (mB F) 135 = some dC := rfl
@[go_sem]theorem aLz (F : Md) : gam (mB F) 136 = some (aCl F) := rfl
@[go_sem]theorem aLA (F : Md) : gam (mB F) 137 = some (fH F) := rfl
@[go_sem]theorem aLB (F : Md) : gam (mB F) 138 = some (aAZ F) := rfl
@[go_sem]theorem aLC (F : Md) : gam (mB F) 139 = some (yE F) := rfl
@[go_sem]theorem aLD (F : Md) : gam (mB F) 141 = some (gO F) := rfl
@[go_sem]theorem aLE (F : Md) : gam (mB F) 142 = some (uM F) := rfl
theorem aPX [Mx] (F : Md) : FOK Tryz.prog GL 103 (aA0 F) := by
 refine qW (aT (aJ8 F)) Tryz.func103 rfl (by kernel_rfl) (by decide) fun w0 S x r hw h => ?_
 have hF : fT (fr Tryz.prog (EM (mB F)) S w0 Tryz.f103.ntmps) := ⟨aT (aJ8 F), mix⟩
 obtain ⟨(a_0 : qd), (b_1 : qd), u⟩ := x
 simp only [aCn, Ty.wf, eR] at hw
 simp only [bX, aCn]
 try dsimp only at h
 replace h : aCm F a_0 b_1 = some r := h
 unfold aCm at h
 refine aB (aF hF [0, 1] ?_)
 simp only [go_sem]
 refine aA (aB (aB (aF hF [0, 1, 15] ?_)))
 simp only [go_sem]
 obtain ⟨g0, h⟩ := aP h
 repeat (refine ⟨zAA, ?_⟩)
 refine aA (bG rfl (fun hc => ?_) (fun hc => ?_))
 ·try simp only [go_sem] at hc
  have h := eB zAB h
  refine aB (aR hF [4, 5] ?_)
  simp only [go_sem]
  obtain ⟨g0, h⟩ := aP h
  repeat (refine ⟨zAA, ?_⟩)
  obtain rfl := Option.some.inj h
  refine aA (cA (cR (iZ hF [.tmp 4, .tmp 5] rfl rfl rfl ?_)))
  exact zAG
 ·try simp only [go_sem] at hc
  have h := eC zAB h
  refine cH (aA (aB (aB (aF hF [0, 1, 20] ?_))))
  simp only [go_sem]
  refine aA (bG rfl (fun hc => ?_) (fun hc => ?_))
  ·try simp only [go_sem] at hc
   have h := eB zAB h
   refine aB (aF hF [4, 5] ?_)
   simp only [go_sem]
   obtain ⟨g0, h⟩ := aP h
   obtain ⟨g1, h⟩ := aP h
   repeat (refine ⟨zAA, ?_⟩)
   obtain rfl := Option.some.inj h
   refine aA (cA (cR (iZ hF [.tmp 4, .tmp 5] rfl rfl rfl ?_)))
   exact zAG
  ·try simp only [go_sem] at hc
   have h := eC zAB h
   refine cH (aA (aB (aF hF [0, 1, 6, 7] ?_)))
   simp only [go_sem]
   obtain ⟨g0, h⟩ := aP h
   obtain ⟨g1, h⟩ := aP h
   obtain ⟨g2, h⟩ := aP h
   try simp only [I64, I32] at g0
   repeat (refine ⟨zAA, ?_⟩)
   refine aA (aB (aF hF [0, 6, 7, 8, 9] ?_))
   simp only [go_sem]
   obtain ⟨g0, h⟩ := aP h
   obtain ⟨g1, h⟩ := aP h
   obtain ⟨g2, h⟩ := aP h
   obtain ⟨g3, h⟩ := aP h
   obtain ⟨g4, h⟩ := aP h
   try simp only [I64, I32] at g3
   repeat (refine ⟨zAA, ?_⟩)
   refine aA (aB (aR hF [0, 6, 7, 8, 9, 10] ?_))
   simp only [go_sem]
   obtain ⟨g0, h⟩ := aP h
   try simp only [I64, I32] at g0
   repeat (refine ⟨zAA, ?_⟩)
   obtain ⟨g0, h⟩ := aP h
   try simp only [I64, I32] at g0
   repeat (refine ⟨zAA, ?_⟩)
   obtain ⟨g0, h⟩ := aP h
   obtain ⟨g1, h⟩ := aP h
   repeat (refine ⟨zAA, ?_⟩)
   refine aA (qV (D := Unit) (fun d => aBE F a_0 b_1 = some r) [6, 7, 9] (fun d => [(10, .own 0)]) (fun d => [.inr (.row 169 qx (List.replicate (((a_0.length : Int) - (b_1.length : Int)) + (1 : Int)).toNat (0 : Nat)))]) ?_ ?_)
   ·refine aB (aF hF [6, 7, 8, 9, 10, 11] ?_)
    simp only [go_sem]
    obtain ⟨g0, h⟩ := aP h
    try simp only [I64, I32] at g0
    repeat (refine ⟨zAA, ?_⟩)
    refine aA (eA (pQ (D := Unit) [6, 7, 8, 9, 11] (fun d => [(10, .own 0)]) (fun d => [.inr (.row 169 qx (List.replicate (((a_0.length : Int) - (b_1.length : Int)) + (1 : Int)).toNat (0 : Nat)))]) h ?_ ?_ ?_))
    ·first | rfl | (simp only [go_sem]; done)
    ·exact zAF
    rintro u s9 h hs9
    simp only [go_sem]
    try dsimp only at h
    unfold aGa at h
    refine aB (aB (aF hF [6, 7, 8, 9, 10, 11, 60] ?_))
    simp only [go_sem]
    refine aA (bG rfl (fun hc => ?_) (fun hc => ?_))
    ·try simp only [go_sem] at hc
     have h := eB zAB h
     cases h
    ·try simp only [go_sem] at hc
     have h := eC zAB h
     obtain rfl := Option.some.inj h
     dsimp only [mX] at hs9
     have h := hs9
     try dsimp only at h
     refine sI (dY (dY (gL (bY (bB () h rfl ?_)))))
     ·exact zAF
   ·rintro u h
    try dsimp only at h
    simp only [go_sem]
    unfold aBE at h
    refine aB (aTa 0 ?_)
    simp only [go_sem]
    refine aF hF [4, 5] ?_
    simp only [go_sem]
    obtain ⟨g0, h⟩ := aP h
    obtain ⟨g1, h⟩ := aP h
    obtain ⟨g2, h⟩ := aP h
    obtain ⟨g3, h⟩ := aP h
    repeat (refine ⟨zAA, ?_⟩)
    obtain rfl := Option.some.inj h
    refine aA (cA (iZ hF [.tmp 4, .tmp 5] rfl rfl rfl ?_))
    exact zAG
attribute [go_sem] aA0
end
end Nu
end Go.Proofs
namespace Go.Proofs
open Go.Vc
set_option maxRecDepth 20000
namespace Nu
noncomputable section
set_option maxHeartbeats 4000000
theorem aAx [Mx] : bH Tryz.prog GL [] := .nil
def pY (F : Md) (is_0 : Bool) (e_1 : Int) : Option (Unit ⊕ qp) :=
 if ¬ (is_0 = true) then some (.inr (e_1, ())) else some (.inl ())
def gG (F : Md) : fU where
 D := Bool × Int × (Unit ⊕ qp)
 av := fun d => [.val .bool d.1, .val qe d.2.1]
 hp := fun d => []
 m := 0
 pre := fun d => pY F d.1 d.2.1 = some d.2.2
 out := fun d => match d.2.2 with | .inl r => .ret (.tup []) [] | .inr p => .pan ⟨219, q9, p⟩ []
def aMM (F : Md) : List (FuncId × aI) := []
theorem aMN [Mx] (F : Md) : bH Tryz.prog GL (aMM F) := .nil
theorem jU [Mx] (F : Md) : GOK Tryz.prog GL 178 (gG F) := by
 refine eF (aT (aMN F)) Tryz.func178 rfl (by kernel_rfl) (fun _ => Nat.le_of_ble_eq_true rfl) fun c0 w0 d hw1 hw2 h hn => ?_
 have hF : fT ⟨Tryz.prog, EM (aMM F), GM (gG F) c0 d, w0, Tryz.f178.ntmps, []⟩ := ⟨aT (aMN F), mix⟩
 obtain ⟨(is_0 : Bool), (e_1 : Int), r⟩ := d
 replace h : pY F is_0 e_1 = some r := h
 have hw1 : AV.wfL [.val .bool is_0, .val qe e_1] := hw1
 simp only [AV.wfL, AV.wfV, Ty.wf, eR] at hw1
 show Tri _ _ _ [(0, .val .bool is_0), (1, .val qe e_1)] []
 unfold pY at h
 refine aB (aF hF [1, 5] ?_)
 simp only [go_sem]
 refine aA (bG rfl (fun hc => ?_) (fun hc => ?_))
 ·try simp only [go_sem] at hc
  have h := eB zAB h
  refine aC hF (aG (l := []) (.nil)) [] [] ?_
  simp only [go_sem]
  repeat (refine ⟨zAA, ?_⟩)
  obtain rfl := Option.some.inj h
  refine aY rfl rfl rfl rfl
 ·try simp only [go_sem] at hc
  exact za2
attribute [go_sem] gG
def aA1 (F : Md) (e_2 : Int) (m_1 : qd) (neg_0 : Bool) : Option (qt ⊕ qp) :=
 ck (I64 (e_2 + ((fI F m_1).getD (0 : Int)))) ((pY F (decide ((e_2 + ((fI F m_1).getD (0 : Int))) ≤ (1048576 : Int))) (3 : Int)).bind (fun e => match e with | .inl r_22 => ck (I64 (e_2 + ((fI F m_1).getD (0 : Int)))) (some (.inl (neg_0, ((oF F m_1 ((fI F m_1).getD (0 : Int))).getD ([] : List Nat)), (e_2 + ((fI F m_1).getD (0 : Int))), ()))) | .inr p_23 => some (.inr p_23)))
def aDd (F : Md) (neg_0 : Bool) (m_1 : qd) (e_2 : Int) : Option (qt ⊕ qp) :=
 if (m_1.length : Int) = (0 : Int) then some (.inl (false, ([] : List Nat), (0 : Int), ())) else ck ((fI F m_1).isSome = true) (ck ((oF F m_1 ((fI F m_1).getD (0 : Int))).isSome = true) ((pY F (decide (((((oF F m_1 ((fI F m_1).getD (0 : Int))).getD ([] : List Nat)).length : Nat) : Int) ≤ (64 : Int))) (2 : Int)).bind (fun e => match e with | .inl r_8 => if e_2 ≤ (1048576 : Int) then ck (I64 ((-1048576 : Int) - ((fI F m_1).getD (0 : Int)))) ((pY F ((decide (e_2 ≤ (1048576 : Int))) && (decide (((-1048576 : Int) - ((fI F m_1).getD (0 : Int))) ≤ e_2))) (3 : Int)).bind (fun e => match e with | .inl r_24 => aA1 F e_2 m_1 neg_0 | .inr p_25 => some (.inr p_25))) else (pY F false (3 : Int)).bind (fun e => match e with | .inl r_26 => aA1 F e_2 m_1 neg_0 | .inr p_27 => some (.inr p_27)) | .inr p_9 => some (.inr p_9))))
def tW (F : Md) : fU where
 D := Bool × qd × Int × (qt ⊕ qp)
 av := fun d => [.val .bool d.1, .val we d.2.1, .val qe d.2.2.1]
 hp := fun d => []
 m := 0
 pre := fun d => aDd F d.1 d.2.1 d.2.2.1 = some d.2.2.2
 out := fun d => match d.2.2.2 with | .inl r => .ret (.val ql r) [] | .inr p => .pan ⟨219, q9, p⟩ []
def aFH (F : Md) : List (FuncId × aI) := [(142, (uM F)), (177, (aCk F))]
theorem aO7 [Mx] (F : Md) : bH Tryz.prog GL (aFH F) := .cons (aJ4 F) (by kernel_rfl) (.cons (aRu F) (by kernel_rfl) (.nil))
@[go_sem]theorem aO8 (F : Md) : gam (aFH F) 142 = some (uM F) := rfl
@[go_sem]theorem aO9 (F : Md) : gam (aFH F) 177 = some (aCk F) := rfl
theorem aDM [Mx] (F : Md) : GOK Tryz.prog GL 149 (tW F) := by
 refine eF (aT (aO7 F)) Tryz.func149 rfl (by kernel_rfl) (fun _ => Nat.le_of_ble_eq_true rfl) fun c0 w0 d hw1 hw2 h hn => ?_
 have hF : fT ⟨Tryz.prog, EM (aFH F), GM (tW F) c0 d, w0, Tryz.f149.ntmps, []⟩ := ⟨aT (aO7 F), mix⟩
 obtain ⟨(neg_0 : Bool), (m_1 : qd), (e_2 : Int), r⟩ := d
 replace h : aDd F neg_0 m_1 e_2 = some r := h
 have hw1 : AV.wfL [.val .bool neg_0, .val we m_1, .val qe e_2] := hw1
 simp only [AV.wfL, AV.wfV, Ty.wf, eR] at hw1
 show Tri _ _ _ [(0, .val .bool neg_0), (1, .val we m_1), (2, .val qe e_2)] []
 unfold aDd at h
 refine aB (aR hF [0, 1, 2, 6] ?_)
 simp only [go_sem]
 refine aA (aB (aB (aF hF [0, 1, 2, 6, 10] ?_)))
 simp only [go_sem]
 refine aA (bG rfl (fun hc => ?_) (fun hc => ?_))
 ·try simp only [go_sem] at hc
  have h := eB zAB h
  refine aB (aR hF [6] ?_)
  simp only [go_sem]
  obtain rfl := Option.some.inj h
  refine aA (cA (cR (jO hF [.cell 6 128] [] rfl rfl rfl rfl rfl rfl rfl rfl rfl ?_)))
  exact zaC
 ·try simp only [go_sem] at hc
  have h := eC zAB h
  refine cH (aA (aB (aF hF [0, 1, 2, 6, 7] ?_)))
  simp only [go_sem]
  obtain ⟨g0, h⟩ := aP h
  repeat (refine ⟨zAA, ?_⟩)
  refine aA (aB (aF hF [0, 1, 2, 6, 7] ?_))
  simp only [go_sem]
  obtain ⟨g0, h⟩ := aP h
  repeat (refine ⟨zAA, ?_⟩)
  obtain ⟨e, he1, h⟩ := bind_some h
  rcases e with r_8 | p_9
  ·try dsimp only at h
   refine aA (aB (aC hF (aG (l := [(178, ⟨gG F, [], ((decide (((((oF F m_1 ((fI F m_1).getD (0 : Int))).getD ([] : List Nat)).length : Nat) : Int) ≤ (64 : Int))), (2 : Int), .inl r_8)⟩)]) (.cons (jU F) (by kernel_rfl) (.nil))) [0, 1, 2, 6, 7] [] ?_))
   simp only [go_sem]
   repeat (refine ⟨zAA, ?_⟩)
   refine aA (qV (D := Unit) (fun d => aA1 F e_2 m_1 neg_0 = some r) [0, 1, 2, 7] (fun d => [(6, .ptr 0 [])]) (fun d => [.inr (.box 3 (.val ql (false, ([] : List Nat), (0 : Int), ())))]) ?_ ?_)
   ·by_cases hq : e_2 ≤ (1048576 : Int)
    ·have h := eB hq h
     obtain ⟨g0, h⟩ := aP h
     try simp only [I64, I32] at g0
     obtain ⟨e, he3, h⟩ := bind_some h
     rcases e with r_24 | p_25
     ·try dsimp only at h
      refine aC hF (aG (l := [(178, ⟨gG F, [], (((decide (e_2 ≤ (1048576 : Int))) && (decide (((-1048576 : Int) - ((fI F m_1).getD (0 : Int))) ≤ e_2))), (3 : Int), .inl r_24)⟩)]) (.cons (jU F) (by kernel_rfl) (.nil))) [0, 1, 2, 6, 7] [] ?_
      simp only [go_sem]
      repeat (refine ⟨zAA, ?_⟩)
      refine ⟨fun _ => ?_, fun hx => by first | (exfalso; omega) | (exfalso; simp_all; done)⟩
      repeat (refine ⟨zAA, ?_⟩)
      refine ⟨fun _ => ?_, fun hx => by first | (exfalso; omega) | (exfalso; simp_all; done)⟩
      repeat (refine ⟨zAA, ?_⟩)
      refine ⟨fun _ => ?_, fun hx => by first | (exfalso; omega) | (exfalso; simp_all; done)⟩
      repeat (refine ⟨zAA, ?_⟩)
      refine ⟨fun _ => ?_, fun hx => by first | (exfalso; omega) | (exfalso; simp_all; done)⟩
      repeat (refine ⟨zAA, ?_⟩)
      refine bY (bB () h rfl ?_)
      ·exact zAF
     ·try dsimp only at h
      refine aC hF (aG (l := [(178, ⟨gG F, [], (((decide (e_2 ≤ (1048576 : Int))) && (decide (((-1048576 : Int) - ((fI F m_1).getD (0 : Int))) ≤ e_2))), (3 : Int), .inr p_25)⟩)]) (.cons (jU F) (by kernel_rfl) (.nil))) [0, 1, 2, 6, 7] [] ?_
      simp only [go_sem]
      repeat (refine ⟨zAA, ?_⟩)
      refine ⟨fun _ => ?_, fun hx => by first | (exfalso; omega) | (exfalso; simp_all; done)⟩
      repeat (refine ⟨zAA, ?_⟩)
      refine ⟨fun _ => ?_, fun hx => by first | (exfalso; omega) | (exfalso; simp_all; done)⟩
      exact za1
    ·have h := eC hq h
     obtain ⟨e, he4, h⟩ := bind_some h
     rcases e with r_26 | p_27
     ·try dsimp only at h
      refine aC hF (aG (l := [(178, ⟨gG F, [], (false, (3 : Int), .inl r_26)⟩)]) (.cons (jU F) (by kernel_rfl) (.nil))) [0, 1, 2, 6, 7] [] ?_
      simp only [go_sem]
      repeat (refine ⟨zAA, ?_⟩)
      first | (refine ⟨fun hx => by first | (exfalso; omega) | (exfalso; simp_all; done), fun _ => ?_⟩) | (with_reducible intro _) | skip
      repeat (refine ⟨zAA, ?_⟩)
      first | (refine ⟨fun hx => by first | (exfalso; omega) | (exfalso; simp_all; done), fun _ => ?_⟩) | (with_reducible intro _) | skip
      repeat (refine ⟨zAA, ?_⟩)
      first | (refine ⟨fun hx => by first | (exfalso; omega) | (exfalso; simp_all; done), fun _ => ?_⟩) | (with_reducible intro _) | skip
      repeat (refine ⟨zAA, ?_⟩)
      first | (refine ⟨fun hx => by first | (exfalso; omega) | (exfalso; simp_all; done), fun _ => ?_⟩) | (with_reducible intro _) | skip
      repeat (refine ⟨zAA, ?_⟩)
      refine bY (bB () h rfl ?_)
      ·exact zAF
     ·try dsimp only at h
      refine aC hF (aG (l := [(178, ⟨gG F, [], (false, (3 : Int), .inr p_27)⟩)]) (.cons (jU F) (by kernel_rfl) (.nil))) [0, 1, 2, 6, 7] [] ?_
      simp only [go_sem]
      repeat (refine ⟨zAA, ?_⟩)
      first | (refine ⟨fun hx => by first | (exfalso; omega) | (exfalso; simp_all; done), fun _ => ?_⟩) | (with_reducible intro _) | skip
      repeat (refine ⟨zAA, ?_⟩)
      first | (refine ⟨fun hx => by first | (exfalso; omega) | (exfalso; simp_all; done), fun _ => ?_⟩) | (with_reducible intro _) | skip
      exact zav
   ·rintro u h
    try dsimp only at h
    simp only [go_sem]
    unfold aA1 at h
    obtain ⟨g0, h⟩ := aP h
    try simp only [I64, I32] at g0
    obtain ⟨e, he2, h⟩ := bind_some h
    rcases e with r_22 | p_23
    ·try dsimp only at h
     refine aB (aC hF (aG (l := [(178, ⟨gG F, [], ((decide ((e_2 + ((fI F m_1).getD (0 : Int))) ≤ (1048576 : Int))), (3 : Int), .inl r_22)⟩)]) (.cons (jU F) (by kernel_rfl) (.nil))) [0, 1, 2, 6, 7] [] ?_)
     simp only [go_sem]
     repeat (refine ⟨zAA, ?_⟩)
     refine aA (aB (aR hF [6] ?_))
     simp only [go_sem]
     obtain ⟨g0, h⟩ := aP h
     try simp only [I64, I32] at g0
     repeat (refine ⟨zAA, ?_⟩)
     obtain rfl := Option.some.inj h
     refine aA (cA (jO hF [.cell 6 128] [] rfl rfl rfl rfl rfl rfl rfl rfl rfl ?_))
     exact zaC
    ·try dsimp only at h
     refine aB (aC hF (aG (l := [(178, ⟨gG F, [], ((decide ((e_2 + ((fI F m_1).getD (0 : Int))) ≤ (1048576 : Int))), (3 : Int), .inr p_23)⟩)]) (.cons (jU F) (by kernel_rfl) (.nil))) [0, 1, 2, 6, 7] [] ?_)
     simp only [go_sem]
     exact zaH
  ·try dsimp only at h
   refine aA (aB (aC hF (aG (l := [(178, ⟨gG F, [], ((decide (((((oF F m_1 ((fI F m_1).getD (0 : Int))).getD ([] : List Nat)).length : Nat) : Int) ≤ (64 : Int))), (2 : Int), .inr p_9)⟩)]) (.cons (jU F) (by kernel_rfl) (.nil))) [0, 1, 2, 6, 7] [] ?_))
   simp only [go_sem]
   exact zaH
attribute [go_sem] tW
def aCo (F : Md) (a0_0 : Bool) (a1_1 : qd) (a2_2 : Int) : Option (qt ⊕ qp) :=
 (aDd F a0_0 a1_1 a2_2).bind (fun e => match e with | .inl r_8 => some (.inl r_8) | .inr p_9 => some (.inr p_9))
def wE (F : Md) : fU where
 D := Bool × qd × Int × (qt ⊕ qp)
 av := fun d => [.val (.rp .bool) d.1, .val (.rp we) d.2.1, .val (.rp qe) d.2.2.1]
 hp := fun d => []
 m := 0
 pre := fun d => aCo F d.1 d.2.1 d.2.2.1 = some d.2.2.2
 out := fun d => match d.2.2.2 with | .inl r => .ret (.val ql r) [] | .inr p => .pan ⟨219, q9, p⟩ []
def aJ9 (F : Md) : List (FuncId × aI) := []
theorem aKa [Mx] (F : Md) : bH Tryz.prog GL (aJ9 F) := .nil
theorem aIu [Mx] (F : Md) : GOK Tryz.prog GL 148 (wE F) := by
 refine eF (aT (aKa F)) Tryz.func148 rfl (by kernel_rfl) (fun _ => Nat.le_of_ble_eq_true rfl) fun c0 w0 d hw1 hw2 h hn => ?_
 have hF : fT ⟨Tryz.prog, EM (aJ9 F), GM (wE F) c0 d, w0, Tryz.f148.ntmps, []⟩ := ⟨aT (aKa F), mix⟩
 obtain ⟨(a0_0 : Bool), (a1_1 : qd), (a2_2 : Int), r⟩ := d
 replace h : aCo F a0_0 a1_1 a2_2 = some r := h
 have hw1 : AV.wfL [.val (.rp .bool) a0_0, .val (.rp we) a1_1, .val (.rp qe) a2_2] := hw1
 simp only [AV.wfL, AV.wfV, Ty.wf, eR] at hw1
 show Tri _ _ _ [(0, .roa .bool a0_0), (1, .roa we a1_1), (2, .roa qe a2_2)] []
 unfold aCo at h
 refine aB (aR hF [0, 1, 2, 3] ?_)
 simp only [go_sem]
 obtain ⟨e, he1, h⟩ := bind_some h
 rcases e with r_8 | p_9
 ·try dsimp only at h
  refine aA (aB (aC hF (aG (l := [(149, ⟨tW F, [], (a0_0, a1_1, a2_2, .inl r_8)⟩)]) (.cons (aDM F) (by kernel_rfl) (.nil))) [3] [] ?_))
  exact zas
 ·try dsimp only at h
  refine aA (aB (aC hF (aG (l := [(149, ⟨tW F, [], (a0_0, a1_1, a2_2, .inr p_9)⟩)]) (.cons (aDM F) (by kernel_rfl) (.nil))) [3] [] ?_))
  simp only [go_sem]
  exact zaH
attribute [go_sem] wE
def oG : fU where
 D := qt × Int
 av := fun _ => [.ptr 0 [], .ptr 1 []]
 hp := fun d => [.box 3 (.val ql d.1), .box 1 (.val qe d.2)]
 m := 2
 pre := fun _ => True
 out := fun d => .ret (.tup []) [.box 3 (.val ql d.1), .box 1 (.val qe d.2)]
def oH (x : qp) : fU where
 D := qt × Int
 av := fun _ => [.ptr 0 [], .ptr 1 []]
 hp := fun d => [.box 3 (.val ql d.1), .box 1 (.val qe d.2)]
 m := 2
 pre := fun _ => True
 out := fun d => .ret (.tup []) [.box 3 (.val ql (false, ([] : List Nat), (0 : Int), ())), .box 1 (.val qe x.1)]
theorem aHf [Mx] : DOK Tryz.prog GL 176 none oG := by
 refine aLq (aT aAx) Tryz.func176 rfl (by kernel_rfl) (fun _ => Nat.le_of_ble_eq_true rfl) rfl fun c w d hw1 hw2 hp hn => ?_
 have hF : fT ⟨Tryz.prog, EM [], GM oG c d, w, Tryz.f176.ntmps, []⟩ := ⟨aT aAx, mix⟩
 obtain ⟨d, e⟩ := d
 show rN _ _ _ [(5, .val .nili ()), (0, .ptr 0 []), (1, .ptr 1 [])] [.box 3 (.val ql d), .box 1 (.val qe e)] _
 simp only [go_sem]
 refine aB (aF hF [0, 1, 2, 9] ?_)
 simp only [go_sem]
 refine aA (bG rfl (fun hc => absurd hc (by decide)) (fun hc => ?_))
 refine cH ?_
 refine gT [0, 1] rfl rfl ?_
 exact zaV
theorem aHg [Mx] (x : qp) : DOK Tryz.prog GL 176 (some ⟨219, q9, x⟩) (oH x) := by
 refine aLq (aT aAx) Tryz.func176 rfl (by kernel_rfl) (fun _ => Nat.le_of_ble_eq_true rfl) rfl fun c w d hw1 hw2 hp hn => ?_
 have hF : fT ⟨Tryz.prog, EM [], GM (oH x) c d, w, Tryz.f176.ntmps, []⟩ := ⟨aT aAx, mix⟩
 obtain ⟨d, e⟩ := d
 show rN _ _ _ [(5, .val (.ifc 219 q9) x), (0, .ptr 0 []), (1, .ptr 1 [])] [.box 3 (.val ql d), .box 1 (.val qe e)] _
 simp only [go_sem]
 refine aB (aF hF [0, 1, 2, 9] ?_)
 simp only [go_sem]
 refine aA (bG rfl (fun hc => ?_) (fun hc => absurd hc (by decide)))
 refine aDG hF [] [] [.box 3 (.val ql (false, ([] : List Nat), (0 : Int), ())), .box 1 (.val qe x.1), .box 1 (.val q9 x)] (by decide) ?_ ?_
 ·simp only [go_sem]
  unfold anyS
  intro i hi
  have hi : i = 0 ∨ i = 1 := by revert hi; revert i; decide
  rcases hi with rfl | rfl
  ·simp only [go_sem]
   skip
   unfold anyS
   intro i hi
   have hi : i = 1 ∨ i = 3 := by revert hi; revert i; decide
   rcases hi with rfl | rfl
   ·simp only [go_sem]
    exact zam
   ·simp only [go_sem]
    skip
    unfold anyS
    intro i hi
    have hi : i = 1 := by revert hi; revert i; decide
    subst hi
    simp only [go_sem]
    skip
    unfold anyS
    intro i hi
    have hi : i = 2 := by revert hi; revert i; decide
    exact zaM
  ·simp only [go_sem]
   skip
   unfold anyS
   intro i hi
   have hi : i = 0 ∨ i = 2 := by revert hi; revert i; decide
   rcases hi with rfl | rfl
   ·simp only [go_sem]
    exact zam
   ·simp only [go_sem]
    skip
    unfold anyS
    intro i hi
    have hi : i = 0 := by revert hi; revert i; decide
    subst hi
    simp only [go_sem]
    skip
    unfold anyS
    intro i hi
    have hi : i = 3 := by revert hi; revert i; decide
    exact zaM
 refine gT [0, 1] rfl rfl ?_
 exact zaV
def iB (F : Md) (c0 : Bool) (c1 : qd) (c2 : Int) : Option (qt × Int × Unit) :=
 (aCo F c0 c1 c2).bind fun q => some (match q with | .inl r => (r, 0, ()) | .inr p => ((false, ([] : List Nat), (0 : Int), ()), p.1, ()))
def yG : Ty := .pair (.clo 148 (.pair (.rp .bool) (.pair (.rp we) (.pair (.rp qe) .unit)))) .unit
def mC (F : Md) : aI := mSpec yG (.tup (.pair ql q9)) (fun x => iB F x.1.1 x.1.2.1 x.1.2.2.1)
theorem aEj [Mx] (F : Md) : FOK Tryz.prog GL 147 (mC F) := by
 refine aFx (aT aAx) Tryz.func147 rfl (by kernel_rfl) (by decide) fun w0 S x r hw h => ?_
 have hF : fT (fr Tryz.prog (EM []) S w0 Tryz.f147.ntmps) := ⟨aT aAx, mix⟩
 obtain ⟨⟨(c0 : Bool), (c1 : qd), (c2 : Int), u1⟩, u⟩ := x
 replace h : iB F c0 c1 c2 = some r := h
 show Tri _ _ _ [(0, .val (.clo 148 (.pair (.rp .bool) (.pair (.rp we) (.pair (.rp qe) .unit)))) (c0, c1, c2, u1))] []
 unfold iB at h
 obtain ⟨q, hq, h⟩ := bind_some h
 obtain rfl := Option.some.inj h
 refine aB (aR hF [0, 2, 3] ?_)
 simp only [go_sem]
 refine aA (aAV 2 [0, 1] rfl rfl (Nat.zero_le _) (by decide) fun roots hroots => ?_)
 have hF' : fT { fr Tryz.prog (EM []) S w0 Tryz.f147.ntmps with M := ⟨nothing, S, 2, roots⟩, ds := [⟨.fn (.func 176) ([0, 1].map roots).toArray, #[]⟩] } := ⟨aT aAx, mix⟩
 rcases q with q | q
 ·refine aB (aC hF' (aG (l := [(148, ⟨wE F, [], (c0, c1, c2, .inl q)⟩)]) (.cons (aIu F) (by kernel_rfl) .nil)) [2, 3] [] ?_)
  exact zat
 ·refine aB (aC hF' (aG (l := [(148, ⟨wE F, [], (c0, c1, c2, .inr q)⟩)]) (.cons (aIu F) (by kernel_rfl) .nil)) [2, 3] [] ?_)
  exact zap
attribute [go_sem] mC yG
def aDe (F : Md) (neg_0 : Bool) (m_1 : qd) (e_2 : Int) : Option (qt × qp) :=
 ck ((iB F neg_0 m_1 e_2).isSome = true) (some (((iB F neg_0 m_1 e_2).getD ((false, ([] : List Nat), (0 : Int), ()), (0 : Int), ())).1, ((iB F neg_0 m_1 e_2).getD ((false, ([] : List Nat), (0 : Int), ()), (0 : Int), ())).2.1, ()))
@[go_sem]def aFI : Ty := .pair .bool (.pair we q9)
def yH (F : Md) : aI := mSpec aFI (.tup (.pair ql q9)) (fun x => aDe F x.1 x.2.1 x.2.2.1)
def aI8 (F : Md) : List (FuncId × aI) := [(147, (mC F))]
theorem aPa [Mx] (F : Md) : bH Tryz.prog GL (aI8 F) := .cons (aEj F) (by kernel_rfl) (.nil)
@[go_sem]theorem aPb (F : Md) : gam (aI8 F) 147 = some (mC F) := rfl
theorem aMO [Mx] (F : Md) : FOK Tryz.prog GL 107 (yH F) := by
 refine qW (aT (aPa F)) Tryz.func107 rfl (by kernel_rfl) (by decide) fun w0 S x r hw h => ?_
 have hF : fT (fr Tryz.prog (EM (aI8 F)) S w0 Tryz.f107.ntmps) := ⟨aT (aPa F), mix⟩
 obtain ⟨(neg_0 : Bool), (m_1 : qd), (e_2 : Int), u⟩ := x
 simp only [aFI, Ty.wf, eR] at hw
 simp only [bX, aFI]
 try dsimp only at h
 replace h : aDe F neg_0 m_1 e_2 = some r := h
 unfold aDe at h
 exact zal
attribute [go_sem] yH
def iG (F : Md) (d_0 : qt) : Option Bool :=
 if (d_0.2.1.length : Int) = (0 : Int) then some ((!d_0.1) && (decide (d_0.2.2.1 = (0 : Int)))) else (aH9 F d_0.2.1).bind (fun v_5 => ck ((v_5 = true) → ((0 : Int) < (d_0.2.1.length : Int))) (some (((v_5 && (decide (((d_0.2.1.getD (0 : Nat) (0 : Nat)) &&& (1 : Nat)) = (1 : Nat)))) && (decide ((-1048576 : Int) ≤ d_0.2.2.1))) && (decide (d_0.2.2.1 ≤ (1048576 : Int))))))
def aMP : PlR := ⟨[(0, .B [1]), (1, .A [1, 6]), (2, .A [2]), (3, .A [2])], []⟩
def aPc : Ty := .pair ql .unit
def rJ (F : Md) : aI := mSpec aPc (.one .bool) (fun x => iG F x.1)
def aPd (F : Md) : List (FuncId × aI) := [(150, (aFD F))]
theorem aTu [Mx] (F : Md) : bH Tryz.prog GL (aPd F) := .cons (aTl F) (by kernel_rfl) (.nil)
theorem aPe (F : Md) : gam (aPd F) 150 = some (aFD F) := rfl
attribute [go_sem] aPc aMP aPe
theorem aHh [Mx] (F : Md) : FOK Tryz.prog GL 108 (rJ F) := by
 refine bS (aT (aTu F)) mix Tryz.func108 rfl (by kernel_rfl) (by decide) aMP fun w0 S x Θ hw h hF => ?_
 obtain ⟨(d_0 : qt), u⟩ := x
 simp only [bX, go_sem]
 replace h : sat (iG F d_0) _ := h
 unfold iG at h
 refine fC h (fun hc h => ?_) fun hc h => ?_
 ·exact aK hF [.tmp 2] rfl rfl rfl (aE h) (by simp only [aS, go_sem])
 ·obtain ⟨v_5, hv, h⟩ := aN h
  exact za5
attribute [go_sem] rJ
def tX (F : Md) (d_0 : qt) : Option Int :=
 (iG F d_0).bind (fun v_7 => if (¬ (v_7 = true)) ∨ ((d_0.2.1.length : Int) = (0 : Int)) then some (0 : Int) else if d_0.1 = true then some (-1 : Int) else some (1 : Int))
def aKb : PlR := ⟨[(0, .B [1]), (1, .A [1, 3]), (2, .A [2]), (3, .A [13]), (4, .A [2]), (5, .A [2])], []⟩
def aMQ : Ty := .pair ql .unit
def uN (F : Md) : aI := mSpec aMQ (.one qe) (fun x => tX F x.1)
def aMR (F : Md) : List (FuncId × aI) := [(108, (rJ F))]
theorem aSE [Mx] (F : Md) : bH Tryz.prog GL (aMR F) := .cons (aHh F) (by kernel_rfl) (.nil)
theorem aNj (F : Md) : gam (aMR F) 108 = some (rJ F) := rfl
attribute [go_sem] aMQ aKb aNj
theorem aKc [Mx] (F : Md) : FOK Tryz.prog GL 68 (uN F) := by
 refine bS (aT (aSE F)) mix Tryz.func68 rfl (by kernel_rfl) (by decide) aKb fun w0 S x Θ hw h hF => ?_
 obtain ⟨(d_0 : qt), u⟩ := x
 simp only [bX, go_sem]
 replace h : sat (tX F d_0) _ := h
 unfold tX at h
 obtain ⟨v_7, hv, h⟩ := aN h
 try simp only [hv, go_sem]
 refine ⟨fun hc => ?_, fun hc => ?_⟩
 ·replace h := jE zAB h
  exact zaG
 ·replace h := jF zAB h
  exact za9
attribute [go_sem] uN
def aDN (F : Md) (a_0 : qt) (b_1 : qt) : Option Int :=
 (aC6 F a_0.2.1).bind (fun v_13 => ck (I64 (v_13 + a_0.2.2.1)) ((aC6 F b_1.2.1).bind (fun v_14 => ck (I64 (v_14 + b_1.2.2.1)) (if (v_13 + a_0.2.2.1) < (v_14 + b_1.2.2.1) then some (-1 : Int) else if (v_14 + b_1.2.2.1) < (v_13 + a_0.2.2.1) then some (1 : Int) else ck (I64 (a_0.2.2.1 - (min a_0.2.2.1 b_1.2.2.1))) ((lW F a_0.2.1 (a_0.2.2.1 - (min a_0.2.2.1 b_1.2.2.1))).bind (fun v_30 => ck (I64 (b_1.2.2.1 - (min a_0.2.2.1 b_1.2.2.1))) ((lW F b_1.2.1 (b_1.2.2.1 - (min a_0.2.2.1 b_1.2.2.1))).bind (fun v_31 => (tV F v_30 v_31).bind (fun v_32 => some v_32)))))))))
def aKd : PlR := ⟨[(0, .B [2, 3]), (1, .A [2, 3, 5, 6]), (2, .A [2, 3, 5, 6, 20]), (3, .A [4]), (4, .A [2, 3, 24]), (5, .A [4]), (6, .A [2, 3, 7]), (7, .A [4])], []⟩
def aMS : Ty := .pair ql (.pair ql .unit)
def aCp (F : Md) : aI := mSpec aMS (.one qe) (fun x => aDN F x.1 x.2.1)
def aDO (F : Md) : List (FuncId × aI) := [(114, (pX F)), (139, (yE F)), (151, (aDJ F))]
theorem aSF [Mx] (F : Md) : bH Tryz.prog GL (aDO F) := .cons (aFE F) (by kernel_rfl) (.cons (aMI F) (by kernel_rfl) (.cons (aSy F) (by kernel_rfl) (.nil)))
theorem aNk (F : Md) : gam (aDO F) 114 = some (pX F) := rfl
theorem aNl (F : Md) : gam (aDO F) 139 = some (yE F) := rfl
theorem aNm (F : Md) : gam (aDO F) 151 = some (aDJ F) := rfl
attribute [go_sem] aMS aKd aNk aNl aNm
theorem aRx [Mx] (F : Md) : FOK Tryz.prog GL 109 (aCp F) := by
 refine bS (aT (aSF F)) mix Tryz.func109 rfl (by kernel_rfl) (by decide) aKd fun w0 S x Θ hw h hF => ?_
 obtain ⟨(a_0 : qt), (b_1 : qt), u⟩ := x
 simp only [bX, go_sem]
 replace h : sat (aDN F a_0 b_1) _ := h
 unfold aDN at h
 obtain ⟨v_13, hv, h⟩ := aN h
 try simp only [hv, go_sem]
 refine aZ h fun g0 h => ?_
 obtain ⟨v_14, hv, h⟩ := aN h
 try simp only [hv, go_sem]
 refine aZ h fun g0 h => ?_
 refine fN h (fun hc h => ?_) fun hc h => ?_
 ·exact aK hF [.tmp 4] rfl rfl rfl (aE h) (by simp only [aS, go_sem])
 ·refine fN h (fun hc h => ?_) fun hc h => ?_
  ·exact aK hF [.tmp 4] rfl rfl rfl (aE h) (by simp only [aS, go_sem])
  ·refine aZ h fun g0 h => ?_
   obtain ⟨v_30, hv, h⟩ := aN h
   try simp only [hv, go_sem]
   refine aZ h fun g0 h => ?_
   obtain ⟨v_31, hv, h⟩ := aN h
   try simp only [hv, go_sem]
   obtain ⟨v_32, hv, h⟩ := aN h
   exact zaZ
attribute [go_sem] aCp
def aAP (F : Md) (a_0 : qt) (b_1 : qt) : Option Int :=
 (tX F a_0).bind (fun v_13 => (tX F b_1).bind (fun v_14 => (iG F a_0).bind (fun v_20 => ck (¬ (¬ (v_20 = true)) → ((iG F b_1).isSome = true)) (if (¬ (v_20 = true)) ∨ (¬ (((iG F b_1).getD false) = true)) then some (0 : Int) else if (¬ (v_13 = v_14)) ∧ (v_13 < v_14) then some (-1 : Int) else if ¬ (v_13 = v_14) then some (1 : Int) else if v_13 = (0 : Int) then some (0 : Int) else (aDN F a_0 b_1).bind (fun v_24 => ck (I64 (v_13 * v_24)) (some (v_13 * v_24)))))))
def aMT : PlR := ⟨[(0, .B [2, 3]), (1, .A [2, 3, 5, 6]), (2, .A [2, 3, 5, 6, 11]), (3, .A [4]), (4, .A [2, 3, 5, 6, 20]), (5, .A [4]), (6, .A [2, 3, 5, 29]), (7, .A [4]), (8, .A [2, 3, 5, 33]), (9, .A [4]), (10, .A [4])], []⟩
def aPf : Ty := .pair ql (.pair ql .unit)
def yI (F : Md) : aI := mSpec aPf (.one qe) (fun x => aAP F x.1 x.2.1)
def aFJ (F : Md) : List (FuncId × aI) := [(108, (rJ F)), (109, (aCp F)), (68, (uN F))]
theorem aTv [Mx] (F : Md) : bH Tryz.prog GL (aFJ F) := .cons (aHh F) (by kernel_rfl) (.cons (aRx F) (by kernel_rfl) (.cons (aKc F) (by kernel_rfl) (.nil)))
theorem aPg (F : Md) : gam (aFJ F) 108 = some (rJ F) := rfl
theorem aPh (F : Md) : gam (aFJ F) 109 = some (aCp F) := rfl
theorem aPY (F : Md) : gam (aFJ F) 68 = some (uN F) := rfl
attribute [go_sem] aPf aMT aPg aPh aPY
theorem aMU [Mx] (F : Md) : FOK Tryz.prog GL 69 (yI F) := by
 refine bS (aT (aTv F)) mix Tryz.func69 rfl (by kernel_rfl) (by decide) aMT fun w0 S x Θ hw h hF => ?_
 obtain ⟨(a_0 : qt), (b_1 : qt), u⟩ := x
 simp only [bX, go_sem]
 replace h : sat (aAP F a_0 b_1) _ := h
 unfold aAP at h
 obtain ⟨v_13, hv, h⟩ := aN h
 try simp only [hv, go_sem]
 obtain ⟨v_14, hv, h⟩ := aN h
 try simp only [hv, go_sem]
 obtain ⟨v_20, hv, h⟩ := aN h
 try simp only [hv, go_sem]
 obtain ⟨g0, h⟩ := aQ h
 repeat (refine ⟨zAE, ?_⟩)
 refine ⟨fun hc => ?_, fun hc => ?_⟩
 ·replace h := jE zAB h
  exact zaD
 ·replace h := jF zAB h
  refine ⟨fun hc => ?_, fun hc => ?_⟩
  ·replace h := jE hc h
   exact zaD
  ·replace h := jF hc h
   refine fC h (fun hc h => ?_) fun hc h => ?_
   ·exact aK hF [.tmp 4] rfl rfl rfl (aE h) (by simp only [aS, go_sem])
   ·refine fC h (fun hc h => ?_) fun hc h => ?_
    ·exact aK hF [.tmp 4] rfl rfl rfl (aE h) (by simp only [aS, go_sem])
    ·obtain ⟨v_24, hv, h⟩ := aN h
     try simp only [hv, go_sem]
     obtain ⟨g0, h⟩ := aQ h
     try simp only [I64, I32] at g0
     repeat (refine ⟨zAA, ?_⟩)
     exact zaD
attribute [go_sem] yI
def zH (F : Md) (n_0 : Int) (e_1 : Int) (m_3 : Nat) : Option (qt × qp) :=
 (aC8 F ([m_3] : List Nat)).bind (fun v_6 => (aDe F (decide (n_0 < (0 : Int))) v_6 e_1).bind (fun v_7 => some (v_7.1, v_7.2.1, ())))
def aIa (F : Md) (n_0 : Int) (e_1 : Int) : Option (qt × qp) :=
 if n_0 < (0 : Int) then zH F n_0 e_1 (aTe F .u64 (n_0 % (18446744073709551616 : Int)).toNat) else zH F n_0 e_1 (n_0 % (18446744073709551616 : Int)).toNat
def aPi : PlR := ⟨[(0, .B [0, 1, 4]), (1, .A [0, 1, 4, 6]), (2, .A [0, 1, 4, 6, 10]), (3, .A [0, 1, 4, 6]), (4, .B [4, 5])], [(5, 7)]⟩
def aQS : Ty := .pair qe q9
def aFK (F : Md) : aI := mSpec aQS (.tup (.pair ql q9)) (fun x => aIa F x.1 x.2.1)
def aLF (F : Md) : List (FuncId × aI) := [(107, (yH F)), (146, (yD F))]
theorem aUV [Mx] (F : Md) : bH Tryz.prog GL (aLF F) := .cons (aMO F) (by kernel_rfl) (.cons (aME F) (by kernel_rfl) (.nil))
theorem aPZ (F : Md) : gam (aLF F) 107 = some (yH F) := rfl
theorem aP0 (F : Md) : gam (aLF F) 146 = some (yD F) := rfl
attribute [go_sem] aQS aPi aPZ aP0
theorem aTw [Mx] (F : Md) : FOK Tryz.prog GL 110 (aFK F) := by
 refine bS (aT (aUV F)) mix Tryz.func110 rfl (by kernel_rfl) (by decide) aPi fun w0 S x Θ hw h hF => ?_
 obtain ⟨(n_0 : Int), (e_1 : Int), u⟩ := x
 simp only [bX, go_sem]
 replace h : sat (aIa F n_0 e_1) _ := h
 unfold aIa at h
 refine eX hF (D := Nat) (fun d => sat (zH F n_0 e_1 d) Θ) [0, 1] (fun d => [(4, .ptr 0 []), (6, .val qx d)]) (fun d => [.inr (.box 3 (.val ql (false, ([] : List Nat), (0 : Int), ())))]) ?_ ?_
 ·simp only [go_sem, dH F, dI F, dJ F]
  refine fN h (fun hc h => ?_) fun hc h => ?_
  ·exact bB (aTe F .u64 (n_0 % (18446744073709551616 : Int)).toNat) h rfl (by simp only [go_sem, dH F, dI F, dJ F])
  ·exact bB (n_0 % (18446744073709551616 : Int)).toNat h rfl (by simp only [go_sem, dH F, dI F, dJ F])
 ·rintro m_3 h
  simp only [go_sem, dH F, dI F, dJ F]
  replace h : sat (zH F n_0 e_1 m_3) _ := h
  unfold zH at h
  obtain ⟨v_6, hv, h⟩ := aN h
  try simp only [hv, go_sem, dH F, dI F, dJ F]
  obtain ⟨v_7, hv, h⟩ := aN h
  try simp only [hv, go_sem, dH F, dI F, dJ F]
  exact aK hF [.cell 4 128, .tmp 5] rfl rfl rfl (aE h) (by simp only [aS, go_sem, dH F, dI F, dJ F])
attribute [go_sem] aFK
def zI (F : Md) (a_0 : qt) (b_1 : qt) : Option (qt ⊕ qp) :=
 ck ((kH F a_0.2.1 b_1.2.1).isSome = true) (ck (I64 (a_0.2.2.1 + b_1.2.2.1)) ((aDd F (a_0.1 != b_1.1) ((kH F a_0.2.1 b_1.2.1).getD ([] : List Nat)) (a_0.2.2.1 + b_1.2.2.1)).bind (fun e => match e with | .inl r_7 => some (.inl r_7) | .inr p_8 => some (.inr p_8))))
def qJ (F : Md) : fU where
 D := qt × qt × (qt ⊕ qp)
 av := fun d => [.val ql d.1, .val ql d.2.1]
 hp := fun d => []
 m := 0
 pre := fun d => zI F d.1 d.2.1 = some d.2.2
 out := fun d => match d.2.2 with | .inl r => .ret (.val ql r) [] | .inr p => .pan ⟨219, q9, p⟩ []
def aFL (F : Md) : List (FuncId × aI) := [(104, (gW F))]
theorem aKe [Mx] (F : Md) : bH Tryz.prog GL (aFL F) := .cons (uL F) (by kernel_rfl) (.nil)
@[go_sem]theorem aLG (F : Md) : gam (aFL F) 104 = some (gW F) := rfl
theorem aA2 [Mx] (F : Md) : GOK Tryz.prog GL 153 (qJ F) := by
 refine eF (aT (aKe F)) Tryz.func153 rfl (by kernel_rfl) (fun _ => Nat.le_of_ble_eq_true rfl) fun c0 w0 d hw1 hw2 h hn => ?_
 have hF : fT ⟨Tryz.prog, EM (aFL F), GM (qJ F) c0 d, w0, Tryz.f153.ntmps, []⟩ := ⟨aT (aKe F), mix⟩
 obtain ⟨(a_0 : qt), (b_1 : qt), r⟩ := d
 replace h : zI F a_0 b_1 = some r := h
 have hw1 : AV.wfL [.val ql a_0, .val ql b_1] := hw1
 simp only [AV.wfL, AV.wfV, Ty.wf, eR] at hw1
 show Tri _ _ _ [(0, .val ql a_0), (1, .val ql b_1)] []
 unfold zI at h
 refine aB (aR hF [2, 3, 4] ?_)
 simp only [go_sem]
 obtain ⟨g0, h⟩ := aP h
 obtain ⟨g1, h⟩ := aP h
 try simp only [I64, I32] at g1
 obtain ⟨e, he1, h⟩ := bind_some h
 rcases e with r_7 | p_8
 ·try dsimp only at h
  refine aA (aB (aFw hF (aG (l := [(149, ⟨tW F, [], ((a_0.1 != b_1.1), ((kH F a_0.2.1 b_1.2.1).getD ([] : List Nat)), (a_0.2.2.1 + b_1.2.2.1), .inl r_7)⟩)]) (.cons (aDM F) (by kernel_rfl) (.nil))) 15 (by decide) [4] [] ?_))
  simp only [go_sem]
  repeat (refine ⟨zAA, ?_⟩)
  simp only [aUg, go_sem]
  repeat (refine ⟨zAA, ?_⟩)
  obtain rfl := Option.some.inj h
  refine aA (cA (jO hF [.cell 4 128] [] rfl rfl rfl rfl rfl rfl rfl rfl rfl ?_))
  exact zaC
 ·try dsimp only at h
  refine aA (aB (aFw hF (aG (l := [(149, ⟨tW F, [], ((a_0.1 != b_1.1), ((kH F a_0.2.1 b_1.2.1).getD ([] : List Nat)), (a_0.2.2.1 + b_1.2.2.1), .inr p_8)⟩)]) (.cons (aDM F) (by kernel_rfl) (.nil))) 15 (by decide) [4] [] ?_))
  simp only [go_sem]
  repeat (refine ⟨zAA, ?_⟩)
  simp only [aUg, go_sem]
  exact zaH
attribute [go_sem] qJ
def mZ (F : Md) (a0_0 : qt) (a1_1 : qt) (a2_2 : Unit) : Option (qt ⊕ qp) :=
 ck ((iG F a0_0).isSome = true) (if ((iG F a0_0).getD false) = true then ck ((iG F a1_1).isSome = true) ((pY F (((iG F a0_0).getD false) && ((iG F a1_1).getD false)) (1 : Int)).bind (fun e => match e with | .inl r_12 => (zI F a0_0 a1_1).bind (fun e => match e with | .inl r_20 => some (.inl r_20) | .inr p_21 => some (.inr p_21)) | .inr p_13 => some (.inr p_13))) else (pY F false (1 : Int)).bind (fun e => match e with | .inl r_14 => (zI F a0_0 a1_1).bind (fun e => match e with | .inl r_26 => some (.inl r_26) | .inr p_27 => some (.inr p_27)) | .inr p_15 => some (.inr p_15)))
def jP (F : Md) : fU where
 D := qt × qt × Unit × (qt ⊕ qp)
 av := fun d => [.val (.rp ql) d.1, .val (.rp ql) d.2.1, .val (.rp (.clo 153 .unit)) d.2.2.1]
 hp := fun d => []
 m := 0
 pre := fun d => mZ F d.1 d.2.1 d.2.2.1 = some d.2.2.2
 out := fun d => match d.2.2.2 with | .inl r => .ret (.val ql r) [] | .inr p => .pan ⟨219, q9, p⟩ []
def qX (F : Md) : List (FuncId × aI) := [(108, (rJ F))]
theorem yJ [Mx] (F : Md) : bH Tryz.prog GL (qX F) := .cons (aHh F) (by kernel_rfl) (.nil)
@[go_sem]theorem aCq (F : Md) : gam (qX F) 108 = some (rJ F) := rfl
theorem wF [Mx] (F : Md) : GOK Tryz.prog GL 179 (jP F) := by
 refine eF (aT (yJ F)) Tryz.func179 rfl (by kernel_rfl) (fun _ => Nat.le_of_ble_eq_true rfl) fun c0 w0 d hw1 hw2 h hn => ?_
 have hF : fT ⟨Tryz.prog, EM (qX F), GM (jP F) c0 d, w0, Tryz.f179.ntmps, []⟩ := ⟨aT (yJ F), mix⟩
 obtain ⟨(a0_0 : qt), (a1_1 : qt), (a2_2 : Unit), r⟩ := d
 replace h : mZ F a0_0 a1_1 a2_2 = some r := h
 have hw1 : AV.wfL [.val (.rp ql) a0_0, .val (.rp ql) a1_1, .val (.rp (.clo 153 .unit)) a2_2] := hw1
 simp only [AV.wfL, AV.wfV, Ty.wf, eR] at hw1
 show Tri _ _ _ [(0, .roa ql a0_0), (1, .roa ql a1_1), (2, .roa (.clo 153 .unit) a2_2)] []
 unfold mZ at h
 refine aB (aR hF [0, 1, 2, 3] ?_)
 simp only [go_sem]
 obtain ⟨g0, h⟩ := aP h
 by_cases hq : ((iG F a0_0).getD false) = true
 ·have h := eB hq h
  obtain ⟨g1, h⟩ := aP h
  obtain ⟨e, he1, h⟩ := bind_some h
  rcases e with r_12 | p_13
  ·try dsimp only at h
   refine aA (aB (aC hF (aG (l := [(178, ⟨gG F, [], ((((iG F a0_0).getD false) && ((iG F a1_1).getD false)), (1 : Int), .inl r_12)⟩)]) (.cons (jU F) (by kernel_rfl) (.nil))) [0, 1, 2, 3] [] ?_))
   simp only [go_sem]
   repeat (refine ⟨zAA, ?_⟩)
   refine ⟨fun _ => ?_, fun hx => by first | (exfalso; omega) | (exfalso; simp_all; done)⟩
   repeat (refine ⟨zAA, ?_⟩)
   refine ⟨fun _ => ?_, fun hx => by first | (exfalso; omega) | (exfalso; simp_all; done)⟩
   repeat (refine ⟨zAA, ?_⟩)
   obtain ⟨e, he2, h⟩ := bind_some h
   rcases e with r_20 | p_21
   ·try dsimp only at h
    refine aA (aB (aC hF (aG (l := [(153, ⟨qJ F, [], (a0_0, a1_1, .inl r_20)⟩)]) (.cons (aA2 F) (by kernel_rfl) (.nil))) [3] [] ?_))
    exact zas
   ·try dsimp only at h
    refine aA (aB (aC hF (aG (l := [(153, ⟨qJ F, [], (a0_0, a1_1, .inr p_21)⟩)]) (.cons (aA2 F) (by kernel_rfl) (.nil))) [3] [] ?_))
    simp only [go_sem]
    exact zaH
  ·try dsimp only at h
   refine aA (aB (aC hF (aG (l := [(178, ⟨gG F, [], ((((iG F a0_0).getD false) && ((iG F a1_1).getD false)), (1 : Int), .inr p_13)⟩)]) (.cons (jU F) (by kernel_rfl) (.nil))) [0, 1, 2, 3] [] ?_))
   simp only [go_sem]
   exact za1
 ·have h := eC hq h
  obtain ⟨e, he3, h⟩ := bind_some h
  rcases e with r_14 | p_15
  ·try dsimp only at h
   refine aA (aB (aC hF (aG (l := [(178, ⟨gG F, [], (false, (1 : Int), .inl r_14)⟩)]) (.cons (jU F) (by kernel_rfl) (.nil))) [0, 1, 2, 3] [] ?_))
   simp only [go_sem]
   repeat (refine ⟨zAA, ?_⟩)
   first | (refine ⟨fun hx => by first | (exfalso; omega) | (exfalso; simp_all; done), fun _ => ?_⟩) | (with_reducible intro _) | skip
   repeat (refine ⟨zAA, ?_⟩)
   first | (refine ⟨fun hx => by first | (exfalso; omega) | (exfalso; simp_all; done), fun _ => ?_⟩) | (with_reducible intro _) | skip
   repeat (refine ⟨zAA, ?_⟩)
   obtain ⟨e, he4, h⟩ := bind_some h
   rcases e with r_26 | p_27
   ·try dsimp only at h
    refine aA (aB (aC hF (aG (l := [(153, ⟨qJ F, [], (a0_0, a1_1, .inl r_26)⟩)]) (.cons (aA2 F) (by kernel_rfl) (.nil))) [3] [] ?_))
    exact zas
   ·try dsimp only at h
    refine aA (aB (aC hF (aG (l := [(153, ⟨qJ F, [], (a0_0, a1_1, .inr p_27)⟩)]) (.cons (aA2 F) (by kernel_rfl) (.nil))) [3] [] ?_))
    simp only [go_sem]
    exact zaH
  ·try dsimp only at h
   refine aA (aB (aC hF (aG (l := [(178, ⟨gG F, [], (false, (1 : Int), .inr p_15)⟩)]) (.cons (jU F) (by kernel_rfl) (.nil))) [0, 1, 2, 3] [] ?_))
   simp only [go_sem]
   exact zav
attribute [go_sem] jP
def dU (F : Md) (c0 : qt) (c1 : qt) (c2 : Unit) : Option (qt × Int × Unit) :=
 (mZ F c0 c1 c2).bind fun q => some (match q with | .inl r => (r, 0, ()) | .inr p => ((false, ([] : List Nat), (0 : Int), ()), p.1, ()))
def oQ : Ty := .pair (.clo 179 (.pair (.rp ql) (.pair (.rp ql) (.pair (.rp (.clo 153 .unit)) .unit)))) .unit
def fZ (F : Md) : aI := mSpec oQ (.tup (.pair ql q9)) (fun x => dU F x.1.1 x.1.2.1 x.1.2.2.1)
theorem wG [Mx] (F : Md) : FOK Tryz.prog GL 147 (fZ F) := by
 refine aFx (aT aAx) Tryz.func147 rfl (by kernel_rfl) (by decide) fun w0 S x r hw h => ?_
 have hF : fT (fr Tryz.prog (EM []) S w0 Tryz.f147.ntmps) := ⟨aT aAx, mix⟩
 obtain ⟨⟨(c0 : qt), (c1 : qt), (c2 : Unit), u1⟩, u⟩ := x
 replace h : dU F c0 c1 c2 = some r := h
 show Tri _ _ _ [(0, .val (.clo 179 (.pair (.rp ql) (.pair (.rp ql) (.pair (.rp (.clo 153 .unit)) .unit)))) (c0, c1, c2, u1))] []
 unfold dU at h
 obtain ⟨q, hq, h⟩ := bind_some h
 obtain rfl := Option.some.inj h
 refine aB (aR hF [0, 2, 3] ?_)
 simp only [go_sem]
 refine aA (aAV 2 [0, 1] rfl rfl (Nat.zero_le _) (by decide) fun roots hroots => ?_)
 have hF' : fT { fr Tryz.prog (EM []) S w0 Tryz.f147.ntmps with M := ⟨nothing, S, 2, roots⟩, ds := [⟨.fn (.func 176) ([0, 1].map roots).toArray, #[]⟩] } := ⟨aT aAx, mix⟩
 rcases q with q | q
 ·refine aB (aC hF' (aG (l := [(179, ⟨jP F, [], (c0, c1, c2, .inl q)⟩)]) (.cons (wF F) (by kernel_rfl) .nil)) [2, 3] [] ?_)
  exact zat
 ·refine aB (aC hF' (aG (l := [(179, ⟨jP F, [], (c0, c1, c2, .inr q)⟩)]) (.cons (wF F) (by kernel_rfl) .nil)) [2, 3] [] ?_)
  exact zap
attribute [go_sem] fZ oQ
def pB (F : Md) (a_0 : qt) (b_1 : qt) (do_2 : Unit) : Option (qt × qp) :=
 ck ((dU F a_0 b_1 do_2).isSome = true) (some (((dU F a_0 b_1 do_2).getD ((false, ([] : List Nat), (0 : Int), ()), (0 : Int), ())).1, ((dU F a_0 b_1 do_2).getD ((false, ([] : List Nat), (0 : Int), ()), (0 : Int), ())).2.1, ()))
@[go_sem]def pC : Ty := .pair ql (.pair ql (.pair (.clo 153 .unit) .unit))
def nR (F : Md) : aI := mSpec pC (.tup (.pair ql q9)) (fun x => pB F x.1 x.2.1 x.2.2.1)
def tB (F : Md) : List (FuncId × aI) := [(147, (fZ F))]
theorem aAy [Mx] (F : Md) : bH Tryz.prog GL (tB F) := .cons (wG F) (by kernel_rfl) (.nil)
@[go_sem]theorem aDv (F : Md) : gam (tB F) 147 = some (fZ F) := rfl
theorem aFM [Mx] (F : Md) : FOK Tryz.prog GL 152 (nR F) := by
 refine qW (aT (aAy F)) Tryz.func152 rfl (by kernel_rfl) (by decide) fun w0 S x r hw h => ?_
 have hF : fT (fr Tryz.prog (EM (tB F)) S w0 Tryz.f152.ntmps) := ⟨aT (aAy F), mix⟩
 obtain ⟨(a_0 : qt), (b_1 : qt), (do_2 : Unit), u⟩ := x
 simp only [pC, Ty.wf, eR] at hw
 simp only [bX, pC]
 try dsimp only at h
 replace h : pB F a_0 b_1 do_2 = some r := h
 unfold pB at h
 exact zal
attribute [go_sem] nR
def aFN (F : Md) (a_0 : qt) (b_1 : qt) : Option (qt × qp) :=
 (pB F a_0 b_1 ()).bind (fun v_6 => some (v_6.1, v_6.2.1, ()))
def aMV : PlR := ⟨[(0, .B [2, 3, 4]), (1, .B [4, 5])], []⟩
def aPj : Ty := .pair ql (.pair ql .unit)
def aDP (F : Md) : aI := mSpec aPj (.tup (.pair ql q9)) (fun x => aFN F x.1 x.2.1)
def aPk (F : Md) : List (FuncId × aI) := [(152, (nR F))]
theorem aTx [Mx] (F : Md) : bH Tryz.prog GL (aPk F) := .cons (aFM F) (by kernel_rfl) (.nil)
theorem aPl (F : Md) : gam (aPk F) 152 = some (nR F) := rfl
attribute [go_sem] aPj aMV aPl
theorem aSG [Mx] (F : Md) : FOK Tryz.prog GL 111 (aDP F) := by
 refine bS (aT (aTx F)) mix Tryz.func111 rfl (by kernel_rfl) (by decide) aMV fun w0 S x Θ hw h hF => ?_
 obtain ⟨(a_0 : qt), (b_1 : qt), u⟩ := x
 simp only [bX, go_sem]
 replace h : sat (aFN F a_0 b_1) _ := h
 unfold aFN at h
 obtain ⟨v_6, hv, h⟩ := aN h
 try simp only [hv, go_sem]
 exact aK hF [.cell 4 128, .tmp 5] rfl rfl rfl (aE h) (by simp only [aS, go_sem])
attribute [go_sem] aDP
end
end Nu
end Go.Proofs
namespace Go.Proofs
open Go.Vc
set_option maxRecDepth 20000
namespace Nu
noncomputable section
set_option maxHeartbeats 4000000
def aFO : ByteArray := ⟨⟨97 :: 98 :: 99 :: 100 :: 101 :: 102 :: 103 :: 104 :: 105 :: 106 :: 107 :: 108 :: 109 :: 110 :: 111 :: 112 :: 113 :: 114 :: 115 :: 116 :: 117 :: 118 :: 119 :: 120 :: 121 :: 122 :: 48 :: 49 :: 50 :: 51 :: 52 :: 53 :: 54 :: 55 :: 56 :: 57 :: 95 :: []⟩⟩
@[go_sem]theorem aP1 : (⟨⟨97 :: 98 :: 99 :: 100 :: 101 :: 102 :: 103 :: 104 :: 105 :: 106 :: 107 :: 108 :: 109 :: 110 :: 111 :: 112 :: 113 :: 114 :: 115 :: 116 :: 117 :: 118 :: 119 :: 120 :: 121 :: 122 :: 48 :: 49 :: 50 :: 51 :: 52 :: 53 :: 54 :: 55 :: 56 :: 57 :: 95 :: []⟩⟩ : ByteArray) = aFO := rfl
def oR (F : Md) (c_1 : Nat) (s_5 : qd) : Option (qd ⊕ qd) :=
 ck (((0 : Int) < (s_5.length : Int)) → (I64 ((s_5.length : Int) - (1 : Int)))) (ck (((0 : Int) < (s_5.length : Int)) → (0 ≤ ((s_5.length : Int) - (1 : Int)) ∧ ((s_5.length : Int) - (1 : Int)) < (s_5.length : Int))) (if ((0 : Int) < (s_5.length : Int)) ∧ ((s_5.getD ((s_5.length : Int) - (1 : Int)).toNat (0 : Nat)) = c_1) then ck (I64 ((s_5.length : Int) - (1 : Int))) (ck (0 ≤ ((s_5.length : Int) - (1 : Int)) ∧ ((s_5.length : Int) - (1 : Int)) ≤ (s_5.length : Int)) (some (.inl (List.take ((s_5.length : Int) - (1 : Int)).toNat s_5)))) else some (.inr s_5)))
def kI (F : Md) (s_0 : qd) (c_1 : Nat) : Option qd :=
 (eH F (fun d : qd => oR F c_1 d) s_0).bind (fun e => some e)
def wH : PlR := ⟨[(0, .A [0, 1]), (1, .A [0, 1, 16]), (2, .A [0, 1]), (3, .A [4])], []⟩
def yK : Ty := .pair .str wk
def gM (F : Md) : aI := mSpec yK (.one .str) (fun x => kI F x.1 x.2.1)
def aEL (F : Md) : List (FuncId × aI) := []
theorem aEM [Mx] (F : Md) : bH Tryz.prog GL (aEL F) := .nil
attribute [go_sem] yK wH
theorem wI [Mx] (F : Md) : FOK Tryz.prog GL 45 (gM F) := by
 refine bS (aT (aEM F)) mix Tryz.func45 rfl (by kernel_rfl) (by decide) wH fun w0 S x Θ hw h hF => ?_
 obtain ⟨(s_0 : qd), (c_1 : Nat), u⟩ := x
 simp only [bX, go_sem]
 replace h : sat (kI F s_0 c_1) _ := h
 unfold kI at h
 refine cI hF (D := qd) [1] (fun d => [(0, .val .str d)]) (fun d => []) h rfl (by simp only [go_sem]) ?_
 rintro s_5 A1 T1 hA1 hE1 h
 simp only [go_sem]
 replace h : sat (oR F c_1 s_5) _ := h
 unfold oR at h
 refine aZ h fun g0 h => aZ h fun g1 h => ?_
 refine ⟨fun hc => ?_, fun hc => ?_⟩
 ·replace h := jE hc h
  refine aZ h fun g0 h => aZ h fun g1 h => ?_
  replace h := hA1 _ (aE h)
  exact zaO
 ·replace h := jF hc h
  replace h := hE1 _ (aE h)
  exact zan
attribute [go_sem] gM
def pM (F : Md) (c_1 : Nat) (s_5 : qd) : Option (qd ⊕ qd) :=
 ck (((0 : Int) < (s_5.length : Int)) → ((0 : Int) < (s_5.length : Int))) (if ((0 : Int) < (s_5.length : Int)) ∧ ((s_5.getD (0 : Nat) (0 : Nat)) = c_1) then ck ((1 : Int) ≤ (s_5.length : Int)) (some (.inl (List.drop (1 : Nat) s_5))) else some (.inr s_5))
def kV (F : Md) (s_0 : qd) (c_1 : Nat) : Option qd :=
 (eH F (fun d : qd => pM F c_1 d) s_0).bind (fun e => some e)
def yL : PlR := ⟨[(0, .A [0, 1]), (1, .A [0, 1, 13]), (2, .A [0, 1]), (3, .A [4])], []⟩
def zJ : Ty := .pair .str wk
def iC (F : Md) : aI := mSpec zJ (.one .str) (fun x => kV F x.1 x.2.1)
def aFP (F : Md) : List (FuncId × aI) := []
theorem aFQ [Mx] (F : Md) : bH Tryz.prog GL (aFP F) := .nil
attribute [go_sem] zJ yL
theorem yM [Mx] (F : Md) : FOK Tryz.prog GL 93 (iC F) := by
 refine bS (aT (aFQ F)) mix Tryz.func93 rfl (by kernel_rfl) (by decide) yL fun w0 S x Θ hw h hF => ?_
 obtain ⟨(s_0 : qd), (c_1 : Nat), u⟩ := x
 simp only [bX, go_sem]
 replace h : sat (kV F s_0 c_1) _ := h
 unfold kV at h
 refine cI hF (D := qd) [1] (fun d => [(0, .val .str d)]) (fun d => []) h rfl (by simp only [go_sem]) ?_
 rintro s_5 A1 T1 hA1 hE1 h
 simp only [go_sem]
 replace h : sat (pM F c_1 s_5) _ := h
 unfold pM at h
 refine aZ h fun g0 h => ?_
 refine ⟨fun hc => ?_, fun hc => ?_⟩
 ·replace h := jE hc h
  refine aZ h fun g0 h => ?_
  replace h := hA1 _ (aE h)
  exact zaO
 ·replace h := jF hc h
  replace h := hE1 _ (aE h)
  exact zan
attribute [go_sem] iC
def gX (F : Md) (as_0 : wo) (c_1 : Nat) : Option Bool :=
 ck (0 ≤ ((c_1 : Nat) : Int) ∧ ((c_1 : Nat) : Int) < (256 : Int)) (some (as_0.getD c_1 false))
def sM : PlR := ⟨[(0, .A [0, 1]), (1, .A [4])], []⟩
def tF : Ty := .pair (.rp (.arr 256 .bool)) wk
def fF (F : Md) : aI := mSpec tF (.one .bool) (fun x => gX F x.1 x.2.1)
def aCr (F : Md) : List (FuncId × aI) := []
theorem aCs [Mx] (F : Md) : bH Tryz.prog GL (aCr F) := .nil
attribute [go_sem] tF sM
theorem sN [Mx] (F : Md) : FOK Tryz.prog GL 90 (fF F) := by
 refine bS (aT (aCs F)) mix Tryz.func90 rfl (by kernel_rfl) (by decide) sM fun w0 S x Θ hw h hF => ?_
 obtain ⟨(as_0 : wo), (c_1 : Nat), u⟩ := x
 simp only [bX, go_sem]
 replace h : sat (gX F as_0 c_1) _ := h
 unfold gX at h
 refine aZ h fun g0 h => ?_
 exact zaD
attribute [go_sem] fF
def pN (F : Md) (chars_0 : qd) (i_6 : Int) (as_7 : wo) : Option ((Int × wo) ⊕ (wo ⊕ (wo × wm))) :=
 if i_6 < (chars_0.length : Int) then ck (0 ≤ i_6 ∧ i_6 < (chars_0.length : Int)) (if (128 : Nat) ≤ (chars_0.getD (i_6.toNat) (0 : Nat)) then some (.inr (.inr (as_7, false, ()))) else ck (0 ≤ (((chars_0.getD (i_6.toNat) (0 : Nat)) : Nat) : Int) ∧ (((chars_0.getD (i_6.toNat) (0 : Nat)) : Nat) : Int) < (256 : Int)) (ck (I64 (i_6 + (1 : Int))) (some (.inl ((i_6 + (1 : Int)), (as_7.set (chars_0.getD (i_6.toNat) (0 : Nat)) true)))))) else some (.inr (.inl as_7))
def jA (F : Md) (chars_0 : qd) : Option (wo × wm) :=
 (eH F (fun d : Int × wo => pN F chars_0 d.1 d.2) ((0 : Int), (List.replicate 256 false))).bind (fun e => match e with | (.inl e) => some (e, true, ()) | (.inr e) => some e)
def yN : PlR := ⟨[(0, .B [0, 2]), (1, .A [0, 2, 4]), (2, .A [0, 2, 4, 9]), (3, .A [0, 2, 4]), (4, .A [0, 2, 4, 5]), (5, .A [0, 2, 4, 5, 16]), (6, .B [2, 3]), (7, .B [0, 2, 4]), (8, .B [2, 3])], []⟩
def zK : Ty := .pair .str .unit
def eY (F : Md) : aI := mSpec zK (.tup (.pair (.arr 256 .bool) wq)) (fun x => jA F x.1)
def aFR (F : Md) : List (FuncId × aI) := []
theorem aFS [Mx] (F : Md) : bH Tryz.prog GL (aFR F) := .nil
attribute [go_sem] zK yN
theorem qY [Mx] (F : Md) : FOK Tryz.prog GL 46 (eY F) := by
 refine bS (aT (aFS F)) mix Tryz.func46 rfl (by kernel_rfl) (by decide) yN fun w0 S x Θ hw h hF => ?_
 obtain ⟨(chars_0 : qd), u⟩ := x
 simp only [bX, go_sem]
 replace h : sat (jA F chars_0) _ := h
 unfold jA at h
 refine cI hF (D := Int × wo) [0] (fun d => [(2, .ptr 0 []), (4, .val qe d.1)]) (fun d => [.inr (.box 256 (.val (.arr 256 .bool) d.2))]) h rfl (by simp only [go_sem]) ?_
 rintro ⟨i_6, as_7⟩ A2 T2 hA2 hE2 h
 simp only [go_sem]
 replace h : sat (pN F chars_0 i_6 as_7) _ := h
 unfold pN at h
 refine fN h (fun hc h => ?_) fun hc h => ?_
 ·obtain ⟨g0, h⟩ := aQ h
  repeat (refine ⟨by omega, ?_⟩)
  refine fC h (fun hc h => ?_) fun hc h => ?_
  ·replace h := hE2 _ (aE h)
   try dsimp only at h
   exact aK hF [.cell 2 102, .tmp 3] rfl rfl rfl (aE h) (by simp only [aS, go_sem])
  ·obtain ⟨g0, h⟩ := aQ h
   repeat (refine ⟨by omega, ?_⟩)
   obtain ⟨g0, h⟩ := aQ h
   repeat (refine ⟨by omega, ?_⟩)
   replace h := hA2 _ (aE h)
   exact zaO
 ·replace h := hE2 _ (aE h)
  try dsimp only at h
  exact aK hF [.cell 2 102, .tmp 3] rfl rfl rfl (aE h) (by simp only [aS, go_sem])
attribute [go_sem] eY
def nS (F : Md) (as_1 : wo) (s_11 : qd) : Option (qd ⊕ qd) :=
 if (0 : Int) < (s_11.length : Int) then ck (I64 ((s_11.length : Int) - (1 : Int))) (ck (0 ≤ ((s_11.length : Int) - (1 : Int)) ∧ ((s_11.length : Int) - (1 : Int)) < (s_11.length : Int)) ((gX F as_1 (s_11.getD ((s_11.length : Int) - (1 : Int)).toNat (0 : Nat))).bind (fun v_21 => if ¬ (v_21 = true) then some (.inr s_11) else ck (I64 ((s_11.length : Int) - (1 : Int))) (ck (0 ≤ ((s_11.length : Int) - (1 : Int)) ∧ ((s_11.length : Int) - (1 : Int)) ≤ (s_11.length : Int)) (some (.inl (List.take ((s_11.length : Int) - (1 : Int)).toNat s_11))))))) else some (.inr s_11)
def jQ (F : Md) (s_0 : qd) (as_1 : wo) : Option qd :=
 (eH F (fun d : qd => nS F as_1 d) s_0).bind (fun e => some e)
def vL : PlR := ⟨[(0, .A [0, 1]), (1, .A [0, 1, 7]), (2, .A [0, 1, 15]), (3, .A [0, 1]), (4, .A [4])], []⟩
def wJ : Ty := .pair .str (.pair (.rp (.arr 256 .bool)) .unit)
def gB (F : Md) : aI := mSpec wJ (.one .str) (fun x => jQ F x.1 x.2.1)
def wK (F : Md) : List (FuncId × aI) := [(90, (fF F))]
theorem aEk [Mx] (F : Md) : bH Tryz.prog GL (wK F) := .cons (sN F) (by kernel_rfl) (.nil)
theorem aCt (F : Md) : gam (wK F) 90 = some (fF F) := rfl
attribute [go_sem] wJ vL aCt
theorem vM [Mx] (F : Md) : FOK Tryz.prog GL 47 (gB F) := by
 refine bS (aT (aEk F)) mix Tryz.func47 rfl (by kernel_rfl) (by decide) vL fun w0 S x Θ hw h hF => ?_
 obtain ⟨(s_0 : qd), (as_1 : wo), u⟩ := x
 simp only [bX, go_sem]
 replace h : sat (jQ F s_0 as_1) _ := h
 unfold jQ at h
 refine cI hF (D := qd) [1] (fun d => [(0, .val .str d)]) (fun d => []) h rfl (by simp only [go_sem]) ?_
 rintro s_11 A1 T1 hA1 hE1 h
 simp only [go_sem]
 replace h : sat (nS F as_1 s_11) _ := h
 unfold nS at h
 refine fN h (fun hc h => ?_) fun hc h => ?_
 ·refine aZ h fun g0 h => aZ h fun g1 h => ?_
  obtain ⟨v_21, hv, h⟩ := aN h
  try simp only [hv, go_sem]
  refine aC3 h (fun hc h => ?_) fun hc h => ?_
  ·replace h := hE1 _ (aE h)
   exact zan
  ·refine aZ h fun g0 h => aZ h fun g1 h => ?_
   replace h := hA1 _ (aE h)
   exact zaO
 ·replace h := hE1 _ (aE h)
  exact zan
attribute [go_sem] gB
def oS (F : Md) (as_1 : wo) (s_11 : qd) : Option (qd ⊕ qd) :=
 if (0 : Int) < (s_11.length : Int) then ck ((0 : Int) < (s_11.length : Int)) ((gX F as_1 (s_11.getD (0 : Nat) (0 : Nat))).bind (fun v_21 => if ¬ (v_21 = true) then some (.inr s_11) else ck ((1 : Int) ≤ (s_11.length : Int)) (some (.inl (List.drop (1 : Nat) s_11))))) else some (.inr s_11)
def kJ (F : Md) (s_0 : qd) (as_1 : wo) : Option qd :=
 (eH F (fun d : qd => oS F as_1 d) s_0).bind (fun e => some e)
def wL : PlR := ⟨[(0, .A [0, 1]), (1, .A [0, 1, 7]), (2, .A [0, 1, 12]), (3, .A [0, 1]), (4, .A [4])], []⟩
def yO : Ty := .pair .str (.pair (.rp (.arr 256 .bool)) .unit)
def gN (F : Md) : aI := mSpec yO (.one .str) (fun x => kJ F x.1 x.2.1)
def yP (F : Md) : List (FuncId × aI) := [(90, (fF F))]
theorem aEN [Mx] (F : Md) : bH Tryz.prog GL (yP F) := .cons (sN F) (by kernel_rfl) (.nil)
theorem aDf (F : Md) : gam (yP F) 90 = some (fF F) := rfl
attribute [go_sem] yO wL aDf
theorem wM [Mx] (F : Md) : FOK Tryz.prog GL 94 (gN F) := by
 refine bS (aT (aEN F)) mix Tryz.func94 rfl (by kernel_rfl) (by decide) wL fun w0 S x Θ hw h hF => ?_
 obtain ⟨(s_0 : qd), (as_1 : wo), u⟩ := x
 simp only [bX, go_sem]
 replace h : sat (kJ F s_0 as_1) _ := h
 unfold kJ at h
 refine cI hF (D := qd) [1] (fun d => [(0, .val .str d)]) (fun d => []) h rfl (by simp only [go_sem]) ?_
 rintro s_11 A1 T1 hA1 hE1 h
 simp only [go_sem]
 replace h : sat (oS F as_1 s_11) _ := h
 unfold oS at h
 refine fN h (fun hc h => ?_) fun hc h => ?_
 ·refine aZ h fun g0 h => ?_
  obtain ⟨v_21, hv, h⟩ := aN h
  try simp only [hv, go_sem]
  refine aC3 h (fun hc h => ?_) fun hc h => ?_
  ·replace h := hE1 _ (aE h)
   exact zan
  ·refine aZ h fun g0 h => ?_
   replace h := hA1 _ (aE h)
   exact zaO
 ·replace h := hE1 _ (aE h)
  exact zan
attribute [go_sem] gN
def mK (F : Md) (s_0 : qd) (cutset_1 : qd) : Option qd :=
 if (s_0 = (aU ⟨#[]⟩)) ∨ (cutset_1 = (aU ⟨#[]⟩)) then some s_0 else ck (((cutset_1.length : Int) = (1 : Int)) → ((0 : Int) < (cutset_1.length : Int))) (if ((cutset_1.length : Int) = (1 : Int)) ∧ ((cutset_1.getD (0 : Nat) (0 : Nat)) < (128 : Nat)) then ck ((0 : Int) < (cutset_1.length : Int)) ((kI F s_0 (cutset_1.getD (0 : Nat) (0 : Nat))).bind (fun v_19 => ck ((0 : Int) < (cutset_1.length : Int)) ((kV F v_19 (cutset_1.getD (0 : Nat) (0 : Nat))).bind (fun v_20 => some v_20)))) else (jA F cutset_1).bind (fun v_27 => if v_27.2.1 = true then (jQ F s_0 v_27.1).bind (fun v_34 => (kJ F v_34 v_27.1).bind (fun v_35 => some v_35)) else none))
def aGb : PlR := ⟨[(0, .A [0, 1]), (1, .A [0, 1, 12]), (2, .A [4]), (3, .A [0, 1, 21]), (4, .A [4]), (5, .B [0, 1, 5, 6]), (6, .A [0, 1, 5, 34]), (7, .A [4]), (8, .stop)], []⟩
def aHi : Ty := .pair .str wh
def pR (F : Md) : aI := mSpec aHi (.one .str) (fun x => mK F x.1 x.2.1)
def qZ (F : Md) : List (FuncId × aI) := [(45, (gM F)), (46, (eY F)), (47, (gB F)), (93, (iC F)), (94, (gN F))]
theorem aPm [Mx] (F : Md) : bH Tryz.prog GL (qZ F) := .cons (wI F) (by kernel_rfl) (.cons (qY F) (by kernel_rfl) (.cons (vM F) (by kernel_rfl) (.cons (yM F) (by kernel_rfl) (.cons (wM F) (by kernel_rfl) (.nil)))))
theorem aKf (F : Md) : gam (qZ F) 45 = some (gM F) := rfl
theorem aKg (F : Md) : gam (qZ F) 46 = some (eY F) := rfl
theorem aKh (F : Md) : gam (qZ F) 47 = some (gB F) := rfl
theorem aKi (F : Md) : gam (qZ F) 93 = some (iC F) := rfl
theorem aKj (F : Md) : gam (qZ F) 94 = some (gN F) := rfl
attribute [go_sem] aHi aGb aKf aKg aKh aKi aKj
theorem aGc [Mx] (F : Md) : FOK Tryz.prog GL 96 (pR F) := by
 refine bS (aT (aPm F)) mix Tryz.func96 rfl (by kernel_rfl) (by decide) aGb fun w0 S x Θ hw h hF => ?_
 obtain ⟨(s_0 : qd), (cutset_1 : qd), u⟩ := x
 simp only [bX, go_sem]
 replace h : sat (mK F s_0 cutset_1) _ := h
 unfold mK at h
 refine ⟨fun hc => ?_, fun hc => ?_⟩
 ·replace h := jE hc h
  exact zaD
 ·replace h := jF hc h
  refine aZ h fun g0 h => ?_
  refine ⟨fun hc => ?_, fun hc => ?_⟩
  ·replace h := jE hc h
   refine aZ h fun g0 h => ?_
   obtain ⟨v_19, hv, h⟩ := aN h
   try simp only [hv, go_sem]
   refine aZ h fun g0 h => ?_
   obtain ⟨v_20, hv, h⟩ := aN h
   exact zaZ
  ·replace h := jF hc h
   obtain ⟨v_27, hv, h⟩ := aN h
   try simp only [hv, go_sem]
   refine aHc h (fun hc h => ?_) fun hc h => ?_
   ·obtain ⟨v_34, hv, h⟩ := aN h
    try simp only [hv, go_sem]
    obtain ⟨v_35, hv, h⟩ := aN h
    exact zaZ
   ·exact aBp h
attribute [go_sem] pR
def oL (F : Md) : Option qv :=
 some ([(aU ⟨#[116]⟩), (aU ⟨#[115, 113, 114]⟩), (aU ⟨#[115, 113, 114, 116]⟩), (aU ⟨#[101, 120, 112]⟩), (aU ⟨#[112, 114, 101, 99]⟩), (aU ⟨#[101, 110, 100]⟩), (aU ⟨#[115, 116, 101, 112]⟩), (aU ⟨#[116, 111, 108]⟩), (aU ⟨#[116, 114, 105, 101, 115]⟩), (aU ⟨#[111, 114, 100, 101, 114]⟩), (aU ⟨#[106, 97, 99, 111, 98, 105]⟩), (aU ⟨#[115, 101, 105, 100, 101, 108]⟩), (aU ⟨#[115, 117, 98]⟩), (aU ⟨#[115, 116, 97, 116, 101]⟩), (aU ⟨#[112, 97, 114]⟩), (aU ⟨#[105, 110]⟩), (aU ⟨#[111, 117, 116]⟩), (aU ⟨#[100, 101, 114]⟩), (aU ⟨#[108, 105, 110, 107]⟩)] : List qd)
def aDQ : PlR := ⟨[(0, .A []), (1, .A [0])], []⟩
def aEO : Ty := .unit
def tG (F : Md) : aI := mSpec aEO (.one wg) (fun x => oL F )
def aLH (F : Md) : List (FuncId × aI) := []
theorem aLI [Mx] (F : Md) : bH Tryz.prog GL (aLH F) := .nil
attribute [go_sem] aEO aDQ
theorem aKk [Mx] (F : Md) : FOK Tryz.prog GL 118 (tG F) := by
 refine bS (aT (aLI F)) mix Tryz.func118 rfl (by kernel_rfl) (by decide) aDQ fun w0 S x Θ hw h hF => ?_
 simp only [bX, go_sem]
 replace h : sat (oL F) _ := h
 unfold oL at h
 exact aK hF [.tmp 0] rfl rfl rfl (aE h) (by (simp only [aS, go_sem]) <;> first | rfl | (simp; done))
attribute [go_sem] tG
def qK (F : Md) (s_0 : qv) (v_1 : qd) (x8_5 : Int) : Option ((Int) ⊕ ((Unit) ⊕ Int)) :=
 if x8_5 < (s_0.length : Int) then ck (0 ≤ x8_5 ∧ x8_5 < (s_0.length : Int)) (if v_1 = (s_0.getD (x8_5.toNat) ([] : List Nat)) then some (.inr (.inr x8_5)) else ck (I64 (x8_5 + (1 : Int))) (some (.inl (x8_5 + (1 : Int))))) else some (.inr (.inl ()))
def pD (F : Md) (s_0 : qv) (v_1 : qd) : Option Int :=
 (eH F (fun d : Int => qK F s_0 v_1 d) (0 : Int)).bind (fun e => match e with | (.inl e) => some (-1 : Int) | (.inr e) => some e)
def zL : PlR := ⟨[(0, .A [0, 1]), (1, .A [0, 1, 7, 8]), (2, .A [0, 1, 7, 8, 9]), (3, .A [0, 1, 5, 7, 8]), (4, .A [0, 1, 5, 7, 8, 16]), (5, .A [4]), (6, .A [0, 1, 7, 8]), (7, .A [4])], []⟩
def aAz : Ty := .pair wg wh
def nT (F : Md) : aI := mSpec aAz (.one qe) (fun x => pD F x.1 x.2.1)
def aGy (F : Md) : List (FuncId × aI) := []
theorem aGz [Mx] (F : Md) : bH Tryz.prog GL (aGy F) := .nil
attribute [go_sem] aAz zL
theorem aFT [Mx] (F : Md) : FOK Tryz.prog GL 160 (nT F) := by
 refine bS (aT (aGz F)) mix Tryz.func160 rfl (by kernel_rfl) (by decide) zL fun w0 S x Θ hw h hF => ?_
 obtain ⟨(s_0 : qv), (v_1 : qd), u⟩ := x
 simp only [bX, go_sem]
 replace h : sat (pD F s_0 v_1) _ := h
 unfold pD at h
 refine cI hF (D := Int) [0, 1, 7] (fun d => [(8, .val qe d)]) (fun d => []) h rfl (by simp only [go_sem]) ?_
 rintro x8_5 A2 T2 hA2 hE2 h
 simp only [go_sem]
 replace h : sat (qK F s_0 v_1 x8_5) _ := h
 unfold qK at h
 refine fN h (fun hc h => ?_) fun hc h => ?_
 ·refine aZ h fun g0 h => ?_
  refine fC h (fun hc h => ?_) fun hc h => ?_
  ·replace h := hE2 _ (aE h)
   exact zan
  ·refine aZ h fun g0 h => ?_
   replace h := hA2 _ (aE h)
   exact zaO
 ·replace h := hE2 _ (aE h)
  exact zan
attribute [go_sem] nT
def fO (F : Md) (s_0 : qv) (v_1 : qd) : Option Bool :=
 (pD F s_0 v_1).bind (fun v_6 => some (decide ((0 : Int) ≤ v_6)))
def vN : PlR := ⟨[(0, .A [0, 1]), (1, .A [4])], []⟩
def wN : Ty := .pair wg wh
def gC (F : Md) : aI := mSpec wN (.one .bool) (fun x => fO F x.1 x.2.1)
def wO (F : Md) : List (FuncId × aI) := [(160, (nT F))]
theorem aEl [Mx] (F : Md) : bH Tryz.prog GL (wO F) := .cons (aFT F) (by kernel_rfl) (.nil)
theorem aBF (F : Md) : gam (wO F) 160 = some (nT F) := rfl
attribute [go_sem] wN vN aBF
theorem vO [Mx] (F : Md) : FOK Tryz.prog GL 117 (gC F) := by
 refine bS (aT (aEl F)) mix Tryz.func117 rfl (by kernel_rfl) (by decide) vN fun w0 S x Θ hw h hF => ?_
 obtain ⟨(s_0 : qv), (v_1 : qd), u⟩ := x
 simp only [bX, go_sem]
 replace h : sat (fO F s_0 v_1) _ := h
 unfold fO at h
 obtain ⟨v_6, hv, h⟩ := aN h
 exact zaZ
attribute [go_sem] gC
def eW (F : Md) (s_0 : qd) : Option Bool :=
 ck (¬ (((s_0.length : Int) < (1 : Int)) ∨ ((20 : Int) < (s_0.length : Int))) → ((0 : Int) < (s_0.length : Int))) (ck (¬ ((((s_0.length : Int) < (1 : Int)) ∨ ((20 : Int) < (s_0.length : Int))) ∨ ((s_0.getD (0 : Nat) (0 : Nat)) < (97 : Nat))) → ((0 : Int) < (s_0.length : Int))) (if ((((s_0.length : Int) < (1 : Int)) ∨ ((20 : Int) < (s_0.length : Int))) ∨ ((s_0.getD (0 : Nat) (0 : Nat)) < (97 : Nat))) ∨ ((122 : Nat) < (s_0.getD (0 : Nat) (0 : Nat))) then some false else (mK F s_0 (aU aFO)).bind (fun v_5 => ck ((v_5 = (aU ⟨#[]⟩)) → ((oL F).isSome = true)) (ck ((v_5 = (aU ⟨#[]⟩)) → ((fO F ((oL F).getD ([] : List qd)) s_0).isSome = true)) (some ((decide (v_5 = (aU ⟨#[]⟩))) && (!((fO F ((oL F).getD ([] : List qd)) s_0).getD false))))))))
def aIv : PlR := ⟨[(0, .A [0]), (1, .A [0, 20]), (2, .A [2]), (3, .A [2])], []⟩
def aKl : Ty := .pair .str .unit
def oI (F : Md) : aI := mSpec aKl (.one .bool) (fun x => eW F x.1)
def aCu (F : Md) : List (FuncId × aI) := [(117, (gC F)), (118, (tG F)), (96, (pR F))]
theorem aRy [Mx] (F : Md) : bH Tryz.prog GL (aCu F) := .cons (vO F) (by kernel_rfl) (.cons (aKk F) (by kernel_rfl) (.cons (aGc F) (by kernel_rfl) (.nil)))
theorem aLJ (F : Md) : gam (aCu F) 117 = some (gC F) := rfl
theorem aLK (F : Md) : gam (aCu F) 118 = some (tG F) := rfl
theorem aNn (F : Md) : gam (aCu F) 96 = some (pR F) := rfl
attribute [go_sem] aKl aIv aLJ aLK aNn
theorem aEm [Mx] (F : Md) : FOK Tryz.prog GL 78 (oI F) := by
 refine bS (aT (aRy F)) mix Tryz.func78 rfl (by kernel_rfl) (by decide) aIv fun w0 S x Θ hw h hF => ?_
 obtain ⟨(s_0 : qd), u⟩ := x
 simp only [bX, go_sem]
 replace h : sat (eW F s_0) _ := h
 unfold eW at h
 obtain ⟨g0, h⟩ := aQ h
 obtain ⟨g1, h⟩ := aQ h
 repeat (refine ⟨zAC, ?_⟩)
 refine ⟨fun hc => ?_, fun hc => ?_⟩
 ·replace h := jE hc h
  exact zaG
 ·replace h := jF hc h
  obtain ⟨v_5, hv, h⟩ := aN h
  try simp only [hv, go_sem]
  obtain ⟨g0, h⟩ := aQ h
  obtain ⟨g1, h⟩ := aQ h
  repeat (refine ⟨zAC, ?_⟩)
  exact zaG
attribute [go_sem] oI
end
end Nu
end Go.Proofs
namespace Go.Proofs
open Go.Vc
set_option maxRecDepth 20000
namespace Nu
noncomputable section
set_option maxHeartbeats 4000000
def rQ (F : Md) : Option wv :=
 none
def rR (F : Md) (s_0 : qd) (n_14 : Int) : Option wv :=
 ck ((0 : Int) < (s_0.length : Int)) (if (s_0.getD (0 : Nat) (0 : Nat)) = (45 : Nat) then ck (I64 (0 - n_14)) (some ((0 - n_14), (), ())) else some (n_14, (), ()))
def vX (F : Md) (s_9 : qd) (n_15 : Int) (x49_16 : Int) : Option (wj ⊕ ((Int) ⊕ wv)) :=
 if x49_16 < (s_9.length : Int) then ck (0 ≤ x49_16 ∧ x49_16 < (s_9.length : Int)) (if (9 : Nat) < (aBn F .u8 (s_9.getD (x49_16.toNat) (0 : Nat)) (48 : Nat)) then none else ck (I64 (n_15 * (10 : Int))) (ck (I64 ((n_15 * (10 : Int)) + (((aBn F .u8 (s_9.getD (x49_16.toNat) (0 : Nat)) (48 : Nat)) : Nat) : Int))) (ck (I64 (x49_16 + (1 : Int))) (some (.inl (((n_15 * (10 : Int)) + (((aBn F .u8 (s_9.getD (x49_16.toNat) (0 : Nat)) (48 : Nat)) : Nat) : Int)), (x49_16 + (1 : Int)))))))) else some (.inr (.inl n_15))
def oT (F : Md) (s_0 : qd) (s_9 : qd) : Option wv :=
 (eH F (fun d : Int × Int => vX F s_9 d.1 d.2) ((0 : Int), (0 : Int))).bind (fun e => match e with | (.inl e) => rR F s_0 e | (.inr e) => some e)
def xH (F : Md) (s_0 : qd) : Option wv :=
 if ((False) ∧ (((0 : Int) < (s_0.length : Int)) ∧ ((s_0.length : Int) < (10 : Int)))) ∨ ((True) ∧ (((0 : Int) < (s_0.length : Int)) ∧ ((s_0.length : Int) < (19 : Int)))) then ck ((0 : Int) < (s_0.length : Int)) (ck (¬ ((s_0.getD (0 : Nat) (0 : Nat)) = (45 : Nat)) → ((0 : Int) < (s_0.length : Int))) (if ((s_0.getD (0 : Nat) (0 : Nat)) = (45 : Nat)) ∨ ((s_0.getD (0 : Nat) (0 : Nat)) = (43 : Nat)) then ck ((1 : Int) ≤ (s_0.length : Int)) (if (((List.drop (1 : Nat) s_0).length : Nat) : Int) < (1 : Int) then none else oT F s_0 (List.drop (1 : Nat) s_0)) else oT F s_0 s_0)) else rQ F
def aEP : PlR := ⟨[(0, .A [0]), (1, .A [0, 4]), (2, .A [0, 30]), (3, .A [0, 5]), (4, .A [0, 5, 39]), (5, .A [0, 5]), (6, .A [0, 5, 44]), (7, .A [2, 3]), (8, .A [0, 5, 6]), (9, .A [5, 6, 47, 48, 49]), (10, .A [5, 6, 47, 48, 49, 50]), (11, .A [5, 6, 8, 47, 48, 49]), (12, .A [5, 6, 8, 47, 48, 49]), (13, .A [5, 6, 8, 47, 48, 49, 56]), (14, .A [2, 3]), (15, .A [5, 6, 47, 48, 49]), (16, .A [5, 6, 47, 48, 49]), (17, .A [6, 66]), (18, .A [6]), (19, .A [2, 3]), (20, .stop)], [(5, 23), (7, 11), (12, 20)]⟩
def aGd : Ty := .pair .str .unit
def uP (F : Md) : aI := mSpec aGd (.tup (.pair qe (.pair .nili .unit))) (fun x => xH F x.1)
def aNo (F : Md) : List (FuncId × aI) := []
theorem aNp [Mx] (F : Md) : bH Tryz.prog GL (aNo F) := .nil
attribute [go_sem] aGd aEP
theorem aLL [Mx] (F : Md) : FOK Tryz.prog GL 131 (uP F) := by
 refine bS (aT (aNp F)) mix Tryz.func131 rfl (by kernel_rfl) (by decide) aEP fun w0 S x Θ hw h hF => ?_
 obtain ⟨(s_0 : qd), u⟩ := x
 simp only [bX, go_sem]
 replace h : sat (xH F s_0) _ := h
 unfold xH at h
 refine eX hF (D := Unit) (fun d => sat (rQ F) Θ) [0] (fun d => []) (fun d => []) ?_ ?_
 ·simp only [go_sem, dH F, dI F, dJ F]
  refine ⟨fun hc => ?_, fun hc => ?_⟩
  ·replace h := jE zAB h
   refine eX hF (D := qd) (fun d => sat (oT F s_0 d) Θ) [5] (fun d => [(0, .val .str d)]) (fun d => []) ?_ ?_
   ·simp only [go_sem, dH F, dI F, dJ F]
    refine aZ h fun g0 h => aZ h fun g1 h => ?_
    refine ⟨fun hc => ?_, fun hc => ?_⟩
    ·replace h := jE hc h
     refine aZ h fun g0 h => ?_
     refine fN h (fun hc h => ?_) fun hc h => ?_
     ·exact aBp h
     ·exact bB (List.drop (1 : Nat) s_0) h rfl (by simp only [go_sem, dH F, dI F, dJ F])
    ·replace h := jF hc h
     exact bB (s_0) h rfl (by simp only [go_sem, dH F, dI F, dJ F])
   ·rintro s_9 h
    simp only [go_sem, dH F, dI F, dJ F]
    replace h : sat (oT F s_0 s_9) _ := h
    unfold oT at h
    refine eX hF (D := Int) (fun d => sat (rR F s_0 d) Θ) [5] (fun d => [(6, .val qe d)]) (fun d => []) ?_ ?_
    ·simp only [go_sem, dH F, dI F, dJ F]
     refine cI hF (D := Int × Int) [5, 47, 48] (fun d => [(6, .val qe d.1), (49, .val qe d.2)]) (fun d => []) h rfl (by simp only [go_sem, dH F, dI F, dJ F]) ?_
     rintro ⟨n_15, x49_16⟩ A10 T10 hA10 hE10 h
     simp only [go_sem, dH F, dI F, dJ F]
     replace h : sat (vX F s_9 n_15 x49_16) _ := h
     unfold vX at h
     refine fN h (fun hc h => ?_) fun hc h => ?_
     ·refine aZ h fun g0 h => ?_
      refine fC h (fun hc h => ?_) fun hc h => ?_
      ·exact aBp h
      ·refine aZ h fun g0 h => aZ h fun g1 h => ?_
       refine aZ h fun g0 h => ?_
       replace h := hA10 _ (aE h)
       exact bB _ h rfl (by simp only [go_sem, dH F, dI F, dJ F])
     ·replace h := hE10 _ (aE h)
      try dsimp only at h
      exact bB (n_15) h rfl (by simp only [go_sem, dH F, dI F, dJ F])
    ·rintro n_14 h
     simp only [go_sem, dH F, dI F, dJ F]
     replace h : sat (rR F s_0 n_14) _ := h
     unfold rR at h
     refine aZ h fun g0 h => ?_
     refine fC h (fun hc h => ?_) fun hc h => ?_
     ·refine aZ h fun g0 h => ?_
      exact aK hF [.tmp 2, .tmp 3] rfl rfl rfl (aE h) (by simp only [aS, go_sem, dH F, dI F, dJ F])
     ·exact aK hF [.tmp 2, .tmp 3] rfl rfl rfl (aE h) (by simp only [aS, go_sem, dH F, dI F, dJ F])
  ·replace h := jF zAB h
   exact bB () h rfl (by simp only [go_sem, dH F, dI F, dJ F])
 ·rintro u h
  simp only [go_sem, dH F, dI F, dJ F]
  replace h : sat (rQ F) _ := h
  unfold rQ at h
  exact aBp h
attribute [go_sem] uP
def oU (F : Md) (s_0 : qd) : Option wv :=
 (xH F s_0).bind (fun v_5 => some (v_5.1, (), ()))
def aGe : PlR := ⟨[(0, .A [0]), (1, .A [0, 4, 5]), (2, .A [0, 4, 5, 12]), (4, .A [2, 3])], []⟩
def aHj : Ty := .pair .str .unit
def lK (F : Md) : aI := mSpec aHj (.tup (.pair qe (.pair .nili .unit))) (fun x => oU F x.1)
def aHk (F : Md) : List (FuncId × aI) := [(131, (uP F))]
theorem aPn [Mx] (F : Md) : bH Tryz.prog GL (aHk F) := .cons (aLL F) (by kernel_rfl) (.nil)
theorem aI9 (F : Md) : gam (aHk F) 131 = some (uP F) := rfl
attribute [go_sem] aHj aGe aI9
theorem aBG [Mx] (F : Md) : FOK Tryz.prog GL 97 (lK F) := by
 refine bS (aT (aPn F)) mix Tryz.func97 rfl (by kernel_rfl) (by decide) aGe fun w0 S x Θ hw h hF => ?_
 obtain ⟨(s_0 : qd), u⟩ := x
 simp only [bX, go_sem]
 replace h : sat (oU F s_0) _ := h
 unfold oU at h
 obtain ⟨v_5, hv, h⟩ := aN h
 try simp only [hv, go_sem]
 exact aK hF [.tmp 2, .tmp 3] rfl rfl rfl (aE h) (by simp only [aS, go_sem])
attribute [go_sem] lK
def aBH (F : Md) (at_1 : Int) (s_0 : qd) (n_5 : Int) : Option ((Int) ⊕ (Int)) :=
 ck (I64 (at_1 + n_5)) (ck (((at_1 + n_5) < (s_0.length : Int)) → (I64 (at_1 + n_5))) (ck (((at_1 + n_5) < (s_0.length : Int)) → (0 ≤ (at_1 + n_5) ∧ (at_1 + n_5) < (s_0.length : Int))) (ck ((((at_1 + n_5) < (s_0.length : Int)) ∧ ((48 : Nat) ≤ (s_0.getD (at_1 + n_5).toNat (0 : Nat)))) → (I64 (at_1 + n_5))) (ck ((((at_1 + n_5) < (s_0.length : Int)) ∧ ((48 : Nat) ≤ (s_0.getD (at_1 + n_5).toNat (0 : Nat)))) → (0 ≤ (at_1 + n_5) ∧ (at_1 + n_5) < (s_0.length : Int))) (if (((at_1 + n_5) < (s_0.length : Int)) ∧ ((48 : Nat) ≤ (s_0.getD (at_1 + n_5).toNat (0 : Nat)))) ∧ ((s_0.getD (at_1 + n_5).toNat (0 : Nat)) ≤ (57 : Nat)) then ck (I64 (n_5 + (1 : Int))) (some (.inl (n_5 + (1 : Int)))) else some (.inr n_5))))))
def nU (F : Md) (s_0 : qd) (at_1 : Int) : Option Int :=
 (eH F (fun d : Int => aBH F at_1 s_0 d) (0 : Int)).bind (fun e => some e)
def aIw : PlR := ⟨[(0, .A [0, 1]), (1, .A [0, 1, 5]), (2, .A [0, 1, 5, 27]), (3, .A [0, 1, 5]), (4, .A [4])], []⟩
def aKm : Ty := .pair .str q9
def sV (F : Md) : aI := mSpec aKm (.one qe) (fun x => nU F x.1 x.2.1)
def aRz (F : Md) : List (FuncId × aI) := []
theorem aRA [Mx] (F : Md) : bH Tryz.prog GL (aRz F) := .nil
attribute [go_sem] aKm aIw
theorem aIx [Mx] (F : Md) : FOK Tryz.prog GL 134 (sV F) := by
 refine bS (aT (aRA F)) mix Tryz.func134 rfl (by kernel_rfl) (by decide) aIw fun w0 S x Θ hw h hF => ?_
 obtain ⟨(s_0 : qd), (at_1 : Int), u⟩ := x
 simp only [bX, go_sem]
 replace h : sat (nU F s_0 at_1) _ := h
 unfold nU at h
 refine cI hF (D := Int) [0, 1] (fun d => [(5, .val qe d)]) (fun d => []) h rfl (by simp only [go_sem]) ?_
 rintro n_5 A2 T2 hA2 hE2 h
 simp only [go_sem]
 replace h : sat (aBH F at_1 s_0 n_5) _ := h
 unfold aBH at h
 refine aZ h fun g0 h => aZ h fun g1 h => aZ h fun g2 h => aZ h fun g3 h => aZ h fun g4 h => ?_
 refine ⟨fun hc => ?_, fun hc => ?_⟩
 ·replace h := jE hc h
  refine aZ h fun g0 h => ?_
  replace h := hA2 _ (aE h)
  exact zaO
 ·replace h := jF hc h
  replace h := hE2 _ (aE h)
  exact zan
attribute [go_sem] sV
def rA (F : Md) (all_9 : qd) (s_0 : qd) (at_17 : Int) (pow_18 : Int) : Option (qd × (Int × wm)) :=
 some (all_9, pow_18, (decide (at_17 = (s_0.length : Int))), ())
def rB (F : Md) (pow_10 : Int) (at_19 : Int) (v_23 : Int) (all_9 : qd) (s_0 : qd) (x_28 : Int) : Option (qd × (Int × wm)) :=
 ck (I64 (pow_10 + x_28)) (ck (I64 (at_19 + v_23)) (rA F all_9 s_0 (at_19 + v_23) (pow_10 + x_28)))
def rC (F : Md) (s_0 : qd) (at_8 : Int) (pow_10 : Int) (all_9 : qd) (at_19 : Int) : Option (qd × (Int × wm)) :=
 (nU F s_0 at_19).bind (fun v_23 => if (v_23 < (1 : Int)) ∨ ((3 : Int) < v_23) then some ((aU ⟨#[]⟩), (0 : Int), false, ()) else ck (I64 (at_19 + v_23)) (ck (0 ≤ at_19 ∧ at_19 ≤ (at_19 + v_23) ∧ (at_19 + v_23) ≤ (s_0.length : Int)) ((oU F (List.drop (at_19.toNat) (List.take (at_19 + v_23).toNat s_0))).bind (fun v_27 => if (100 : Int) < v_27.1 then some ((aU ⟨#[]⟩), (0 : Int), false, ()) else if ((at_8 + (1 : Int)) < (s_0.length : Int)) ∧ ((s_0.getD (at_8 + (1 : Int)).toNat (0 : Nat)) = (45 : Nat)) then ck (I64 (0 - v_27.1)) (rB F pow_10 at_19 v_23 all_9 s_0 (0 - v_27.1)) else rB F pow_10 at_19 v_23 all_9 s_0 v_27.1))))
def rD (F : Md) (s_0 : qd) (at_8 : Int) (all_9 : qd) (pow_10 : Int) : Option (qd × (Int × wm)) :=
 ck ((at_8 < (s_0.length : Int)) → (0 ≤ at_8 ∧ at_8 < (s_0.length : Int))) (if (at_8 < (s_0.length : Int)) ∧ ((s_0.getD (at_8.toNat) (0 : Nat)) = (101 : Nat)) then ck (I64 (at_8 + (1 : Int))) (ck (((at_8 + (1 : Int)) < (s_0.length : Int)) → (0 ≤ (at_8 + (1 : Int)) ∧ (at_8 + (1 : Int)) < (s_0.length : Int))) (ck (¬ (((at_8 + (1 : Int)) < (s_0.length : Int)) ∧ ((s_0.getD (at_8 + (1 : Int)).toNat (0 : Nat)) = (45 : Nat))) → ((at_8 + (1 : Int)) < (s_0.length : Int)) → (0 ≤ (at_8 + (1 : Int)) ∧ (at_8 + (1 : Int)) < (s_0.length : Int))) (if (((at_8 + (1 : Int)) < (s_0.length : Int)) ∧ ((s_0.getD (at_8 + (1 : Int)).toNat (0 : Nat)) = (45 : Nat))) ∨ (((at_8 + (1 : Int)) < (s_0.length : Int)) ∧ ((s_0.getD (at_8 + (1 : Int)).toNat (0 : Nat)) = (43 : Nat))) then ck (I64 ((at_8 + (1 : Int)) + (1 : Int))) (rC F s_0 at_8 pow_10 all_9 ((at_8 + (1 : Int)) + (1 : Int))) else rC F s_0 at_8 pow_10 all_9 (at_8 + (1 : Int))))) else rA F all_9 s_0 at_8 pow_10)
def sW (F : Md) (s_0 : qd) : Option (qd × (Int × wm)) :=
 (nU F s_0 (0 : Int)).bind (fun v_5 => ck (0 ≤ v_5 ∧ v_5 ≤ (s_0.length : Int)) (if ((60 : Int) < (s_0.length : Int)) ∨ (v_5 = (0 : Int)) then some ((aU ⟨#[]⟩), (0 : Int), false, ()) else ck ((v_5 < (s_0.length : Int)) → (0 ≤ v_5 ∧ v_5 < (s_0.length : Int))) (if (v_5 < (s_0.length : Int)) ∧ ((s_0.getD (v_5.toNat) (0 : Nat)) = (46 : Nat)) then ck (I64 (v_5 + (1 : Int))) ((nU F s_0 (v_5 + (1 : Int))).bind (fun v_32 => if v_32 = (0 : Int) then some ((aU ⟨#[]⟩), (0 : Int), false, ()) else ck (I64 (v_5 + (1 : Int))) (ck (I64 (v_5 + (1 : Int))) (ck (I64 ((v_5 + (1 : Int)) + v_32)) (ck (0 ≤ (v_5 + (1 : Int)) ∧ (v_5 + (1 : Int)) ≤ ((v_5 + (1 : Int)) + v_32) ∧ ((v_5 + (1 : Int)) + v_32) ≤ (s_0.length : Int)) (ck ((List.take (v_5.toNat) s_0).length + (List.drop (v_5 + (1 : Int)).toNat (List.take ((v_5 + (1 : Int)) + v_32).toNat s_0)).length ≤ 9223372036854775807) (ck (I64 (0 - v_32)) (ck (I64 (v_5 + (1 : Int))) (ck (I64 ((v_5 + (1 : Int)) + v_32)) (rD F s_0 ((v_5 + (1 : Int)) + v_32) ((List.take (v_5.toNat) s_0) ++ (List.drop (v_5 + (1 : Int)).toNat (List.take ((v_5 + (1 : Int)) + v_32).toNat s_0))) (0 - v_32))))))))))) else rD F s_0 v_5 (List.take (v_5.toNat) s_0) (0 : Int))))
def aHl : PlR := ⟨[(0, .A [0]), (1, .A [0, 5]), (2, .A [0, 5, 6, 7]), (3, .A [0, 5, 6, 7, 24]), (4, .A [2, 3, 4]), (5, .A [0, 5, 6, 7, 34]), (6, .A [0, 5, 6, 8]), (7, .A [0, 5, 6, 8, 40]), (8, .A [2, 3, 4]), (9, .A [0, 5, 6, 7]), (10, .A [0, 5, 6, 7, 66]), (11, .A [0, 5, 6, 7]), (12, .A [0, 5, 6, 7, 9]), (13, .A [0, 5, 6, 7, 9, 91]), (14, .A [0, 5, 6, 7, 9]), (15, .A [0, 5, 6, 7, 9, 10]), (16, .A [0, 5, 6, 7, 9, 10, 102]), (17, .A [2, 3, 4]), (18, .A [0, 5, 6, 7, 9, 10, 11]), (19, .A [0, 5, 6, 7, 9, 10, 11, 114]), (20, .A [2, 3, 4]), (21, .A [0, 5, 6, 7, 10, 11, 115]), (22, .A [0, 5, 6, 7, 10, 11]), (23, .A [0, 5, 6, 7]), (24, .A [2, 3, 4])], [(8, 13), (13, 27), (16, 18), (24, 26)]⟩
def aIy : Ty := .pair .str .unit
def mL (F : Md) : aI := mSpec aIy (.tup (.pair .str (.pair qe wq))) (fun x => sW F x.1)
def aEn (F : Md) : List (FuncId × aI) := [(134, (sV F)), (97, (lK F))]
theorem aP2 [Mx] (F : Md) : bH Tryz.prog GL (aEn F) := .cons (aIx F) (by kernel_rfl) (.cons (aBG F) (by kernel_rfl) (.nil))
theorem aKn (F : Md) : gam (aEn F) 134 = some (sV F) := rfl
theorem aLM (F : Md) : gam (aEn F) 97 = some (lK F) := rfl
attribute [go_sem] aIy aHl aKn aLM
theorem aDg [Mx] (F : Md) : FOK Tryz.prog GL 102 (mL F) := by
 refine bS (aT (aP2 F)) mix Tryz.func102 rfl (by kernel_rfl) (by decide) aHl fun w0 S x Θ hw h hF => ?_
 obtain ⟨(s_0 : qd), u⟩ := x
 simp only [bX, go_sem]
 replace h : sat (sW F s_0) _ := h
 unfold sW at h
 obtain ⟨v_5, hv, h⟩ := aN h
 try simp only [hv, go_sem]
 obtain ⟨g0, h⟩ := aQ h
 repeat (refine ⟨by omega, ?_⟩)
 refine ⟨fun hc => ?_, fun hc => ?_⟩
 ·replace h := jE hc h
  exact zax
 ·replace h := jF hc h
  refine eX hF (D := Int × qd × Int) (fun d => sat (rD F s_0 d.1 d.2.1 d.2.2) Θ) [0] (fun d => [(5, .val qe d.1), (6, .val .str d.2.1), (7, .val qe d.2.2)]) (fun d => []) ?_ ?_
  ·simp only [go_sem]
   obtain ⟨g0, h⟩ := aQ h
   repeat (refine ⟨by omega, ?_⟩)
   refine ⟨fun hc => ?_, fun hc => ?_⟩
   ·replace h := jE hc h
    obtain ⟨g0, h⟩ := aQ h
    repeat (refine ⟨by omega, ?_⟩)
    obtain ⟨v_32, hv, h⟩ := aN h
    try simp only [hv, go_sem]
    refine fC h (fun hc h => ?_) fun hc h => ?_
    ·exact aK hF [.tmp 2, .tmp 3, .tmp 4] rfl rfl rfl (aE h) (by simp only [aS, go_sem])
    ·obtain ⟨g0, h⟩ := aQ h
     obtain ⟨g1, h⟩ := aQ h
     obtain ⟨g2, h⟩ := aQ h
     obtain ⟨g3, h⟩ := aQ h
     obtain ⟨g4, h⟩ := aQ h
     obtain ⟨g5, h⟩ := aQ h
     obtain ⟨g6, h⟩ := aQ h
     obtain ⟨g7, h⟩ := aQ h
     repeat (refine ⟨by omega, ?_⟩)
     exact bB (((v_5 + (1 : Int)) + v_32), ((List.take (v_5.toNat) s_0) ++ (List.drop (v_5 + (1 : Int)).toNat (List.take ((v_5 + (1 : Int)) + v_32).toNat s_0))), (0 - v_32)) h rfl (by simp only [go_sem])
   ·replace h := jF hc h
    exact bB (v_5, (List.take (v_5.toNat) s_0), (0 : Int)) h rfl (by simp only [go_sem])
  ·rintro ⟨at_8, all_9, pow_10⟩ h
   simp only [go_sem]
   replace h : sat (rD F s_0 at_8 all_9 pow_10) _ := h
   unfold rD at h
   refine eX hF (D := Int × Int) (fun d => sat (rA F all_9 s_0 d.1 d.2) Θ) [0, 6] (fun d => [(5, .val qe d.1), (7, .val qe d.2)]) (fun d => []) ?_ ?_
   ·simp only [go_sem]
    obtain ⟨g0, h⟩ := aQ h
    repeat (refine ⟨by omega, ?_⟩)
    refine ⟨fun hc => ?_, fun hc => ?_⟩
    ·replace h := jE hc h
     obtain ⟨g0, h⟩ := aQ h
     repeat (refine ⟨by omega, ?_⟩)
     obtain ⟨g0, h⟩ := aQ h
     repeat (refine ⟨by omega, ?_⟩)
     refine eX hF (D := Int) (fun d => sat (rC F s_0 at_8 pow_10 all_9 d) Θ) [0, 6, 7, 9] (fun d => [(5, .val qe d)]) (fun d => []) ?_ ?_
     ·simp only [go_sem]
      obtain ⟨g0, h⟩ := aQ h
      repeat (refine ⟨by omega, ?_⟩)
      refine ⟨fun hc => ?_, fun hc => ?_⟩
      ·replace h := jE hc h
       obtain ⟨g0, h⟩ := aQ h
       repeat (refine ⟨by omega, ?_⟩)
       exact bB ((at_8 + (1 : Int)) + (1 : Int)) h rfl (by simp only [go_sem])
      ·replace h := jF hc h
       exact bB (at_8 + (1 : Int)) h rfl (by simp only [go_sem])
     ·rintro at_19 h
      simp only [go_sem]
      replace h : sat (rC F s_0 at_8 pow_10 all_9 at_19) _ := h
      unfold rC at h
      obtain ⟨v_23, hv, h⟩ := aN h
      try simp only [hv, go_sem]
      refine ⟨fun hc => ?_, fun hc => ?_⟩
      ·replace h := jE hc h
       exact zax
      ·replace h := jF hc h
       obtain ⟨g0, h⟩ := aQ h
       obtain ⟨g1, h⟩ := aQ h
       repeat (refine ⟨by omega, ?_⟩)
       obtain ⟨v_27, hv, h⟩ := aN h
       try simp only [hv, go_sem]
       refine fN h (fun hc h => ?_) fun hc h => ?_
       ·exact aK hF [.tmp 2, .tmp 3, .tmp 4] rfl rfl rfl (aE h) (by simp only [aS, go_sem])
       ·refine eX hF (D := Int) (fun d => sat (rB F pow_10 at_19 v_23 all_9 s_0 d) Θ) [0, 5, 6, 7, 10] (fun d => [(11, .val qe d)]) (fun d => []) ?_ ?_
        ·simp only [go_sem]
         refine ⟨fun hc => ?_, fun hc => ?_⟩
         ·replace h := jE hc h
          obtain ⟨g0, h⟩ := aQ h
          repeat (refine ⟨by omega, ?_⟩)
          exact bB (0 - v_27.1) h rfl (by simp only [go_sem])
         ·replace h := jF hc h
          exact bB v_27.1 h rfl (by simp only [go_sem])
        ·rintro x_28 h
         simp only [go_sem]
         replace h : sat (rB F pow_10 at_19 v_23 all_9 s_0 x_28) _ := h
         unfold rB at h
         obtain ⟨g0, h⟩ := aQ h
         obtain ⟨g1, h⟩ := aQ h
         repeat (refine ⟨by omega, ?_⟩)
         exact bB ((at_19 + v_23), (pow_10 + x_28)) h rfl (by simp only [go_sem])
    ·replace h := jF hc h
     exact bB (at_8, pow_10) h rfl (by simp only [go_sem])
   ·rintro ⟨at_17, pow_18⟩ h
    simp only [go_sem]
    replace h : sat (rA F all_9 s_0 at_17 pow_18) _ := h
    unfold rA at h
    exact zax
attribute [go_sem] mL
def aDh (F : Md) (n_1 : Int) (b_0 : Nat) (m_13 : qd) (x8_14 : Int) : Option ((qd × Int) ⊕ qd) :=
 if x8_14 < n_1 then (kH F m_13 ([b_0] : List Nat)).bind (fun v_23 => ck (I64 (x8_14 + (1 : Int))) (some (.inl (v_23, (x8_14 + (1 : Int)))))) else some (.inr m_13)
def tY (F : Md) (b_0 : Nat) (n_1 : Int) : Option qd :=
 (eH F (fun d : qd × Int => aDh F n_1 b_0 d.1 d.2) (([1] : List Nat), (0 : Int))).bind (fun e => some e)
def aKo : PlR := ⟨[], []⟩
def aMW : Ty := .pair qx q9
def uQ (F : Md) : aI := mSpec aMW (.one we) (fun x => tY F x.1 x.2.1)
def aMX (F : Md) : List (FuncId × aI) := [(104, (gW F))]
theorem aSH [Mx] (F : Md) : bH Tryz.prog GL (aMX F) := .cons (uL F) (by kernel_rfl) (.nil)
theorem aNq (F : Md) : gam (aMX F) 104 = some (gW F) := rfl
attribute [go_sem] aMW aKo aNq
theorem aKp [Mx] (F : Md) : FOK Tryz.prog GL 106 (uQ F) := by
 refine bS (aT (aSH F)) mix Tryz.func106 rfl (by kernel_rfl) (by decide) aKo fun w0 S x Θ hw h hF => ?_
 obtain ⟨(b_0 : Nat), (n_1 : Int), u⟩ := x
 simp only [bX, go_sem]
 replace h : sat (tY F b_0 n_1) _ := h
 unfold tY at h
 refine xV hF [0, 1] ?_
 simp only [go_sem]
 refine xV hF [0, 1, 5] ?_
 simp only [go_sem]
 refine xV hF [0, 5, 7, 8] ?_
 simp only [go_sem]
 refine cI hF (D := qd × Int) [0, 7] (fun d => [(5, .val we d.1), (8, .val qe d.2)]) (fun d => []) h rfl (by simp only [go_sem]) ?_
 rintro ⟨m_13, x8_14⟩ A3 T3 hA3 hE3 h
 simp only [go_sem]
 replace h : sat (aDh F n_1 b_0 m_13 x8_14) _ := h
 unfold aDh at h
 refine xV hF [0, 5, 7, 8, 9] ?_
 simp only [go_sem]
 refine fN h (fun hc h => ?_) fun hc h => ?_
 ·refine xV hF [0, 5, 7, 8] ?_
  simp only [go_sem]
  obtain ⟨v_23, hv, h⟩ := aN h
  try simp only [hv, go_sem]
  refine xV hF [0, 5, 7, 8] ?_
  simp only [go_sem]
  refine aZ h fun g0 h => ?_
  replace h := hA3 _ (aE h)
  exact zaO
 ·replace h := hE3 _ (aE h)
  try dsimp only at h
  refine xV hF [4] ?_
  simp only [go_sem]
  exact zaD
attribute [go_sem] uQ
def aBI (F : Md) (s_0 : qd) (m_24 : qd) (x9_25 : Int) : Option ((qd × Int) ⊕ qd) :=
 if x9_25 < (s_0.length : Int) then ck (0 ≤ x9_25 ∧ x9_25 < (s_0.length : Int)) ((kH F m_24 ([10] : List Nat)).bind (fun v_44 => (aC8 F ([(aBn F .u8 (s_0.getD (x9_25.toNat) (0 : Nat)) (48 : Nat))] : List Nat)).bind (fun v_45 => (aFF F v_44 v_45).bind (fun v_46 => ck (I64 (x9_25 + (1 : Int))) (some (.inl (v_46, (x9_25 + (1 : Int))))))))) else some (.inr m_24)
def zM (F : Md) (s_0 : qd) : Option qd :=
 (eH F (fun d : qd × Int => aBI F s_0 d.1 d.2) (([] : List Nat), (0 : Int))).bind (fun e => some e)
def aIz : PlR := ⟨[], []⟩
def aKq : Ty := .pair .str .unit
def sX (F : Md) : aI := mSpec aKq (.one we) (fun x => zM F x.1)
def aCv (F : Md) : List (FuncId × aI) := [(104, (gW F)), (145, (aDK F)), (146, (yD F))]
theorem aRB [Mx] (F : Md) : bH Tryz.prog GL (aCv F) := .cons (uL F) (by kernel_rfl) (.cons (aSA F) (by kernel_rfl) (.cons (aME F) (by kernel_rfl) (.nil)))
theorem aLN (F : Md) : gam (aCv F) 104 = some (gW F) := rfl
theorem aLO (F : Md) : gam (aCv F) 145 = some (aDK F) := rfl
theorem aLP (F : Md) : gam (aCv F) 146 = some (yD F) := rfl
attribute [go_sem] aKq aIz aLN aLO aLP
theorem aIA [Mx] (F : Md) : FOK Tryz.prog GL 105 (sX F) := by
 refine bS (aT (aRB F)) mix Tryz.func105 rfl (by kernel_rfl) (by decide) aIz fun w0 S x Θ hw h hF => ?_
 obtain ⟨(s_0 : qd), u⟩ := x
 simp only [bX, go_sem]
 replace h : sat (zM F s_0) _ := h
 unfold zM at h
 refine xV hF [0] ?_
 simp only [go_sem, dH F, dI F, dJ F]
 refine xV hF [0, 3] ?_
 simp only [go_sem, dH F, dI F, dJ F]
 refine xV hF [3, 7, 8, 9] ?_
 simp only [go_sem, dH F, dI F, dJ F]
 refine cI hF (D := qd × Int) [7, 8] (fun d => [(3, .val we d.1), (9, .val qe d.2)]) (fun d => []) h rfl (by simp only [go_sem, dH F, dI F, dJ F]) ?_
 rintro ⟨m_24, x9_25⟩ A3 T3 hA3 hE3 h
 simp only [go_sem, dH F, dI F, dJ F]
 replace h : sat (aBI F s_0 m_24 x9_25) _ := h
 unfold aBI at h
 refine xV hF [3, 7, 8, 9, 10] ?_
 simp only [go_sem, dH F, dI F, dJ F]
 refine fN h (fun hc h => ?_) fun hc h => ?_
 ·refine xV hF [3, 5, 7, 8, 9] ?_
  simp only [go_sem, dH F, dI F, dJ F]
  refine aZ h fun g0 h => ?_
  refine xV hF [3, 7, 8, 9] ?_
  simp only [go_sem, dH F, dI F, dJ F]
  obtain ⟨v_44, hv, h⟩ := aN h
  try simp only [hv, go_sem, dH F, dI F, dJ F]
  obtain ⟨v_45, hv, h⟩ := aN h
  try simp only [hv, go_sem, dH F, dI F, dJ F]
  obtain ⟨v_46, hv, h⟩ := aN h
  try simp only [hv, go_sem, dH F, dI F, dJ F]
  refine xV hF [3, 7, 8, 9] ?_
  simp only [go_sem, dH F, dI F, dJ F]
  refine aZ h fun g0 h => ?_
  replace h := hA3 _ (aE h)
  exact bB _ h rfl (by simp only [go_sem, dH F, dI F, dJ F])
 ·replace h := hE3 _ (aE h)
  try dsimp only at h
  refine xV hF [2] ?_
  simp only [go_sem, dH F, dI F, dJ F]
  exact aK hF [.tmp 2] rfl rfl rfl (aE h) (by simp only [aS, go_sem, dH F, dI F, dJ F])
attribute [go_sem] sX
def qL (F : Md) (s_0 : qd) : Option Bool :=
 (sW F s_0).bind (fun v_5 => some v_5.2.2.1)
def aMY : PlR := ⟨[(0, .A [0]), (1, .A [5]), (2, .A [2])], []⟩
def aPo : Ty := .pair .str .unit
def rK (F : Md) : aI := mSpec aPo (.one .bool) (fun x => qL F x.1)
def aPp (F : Md) : List (FuncId × aI) := [(102, (mL F))]
theorem aTy [Mx] (F : Md) : bH Tryz.prog GL (aPp F) := .cons (aDg F) (by kernel_rfl) (.nil)
theorem aPq (F : Md) : gam (aPp F) 102 = some (mL F) := rfl
attribute [go_sem] aPo aMY aPq
theorem aHm [Mx] (F : Md) : FOK Tryz.prog GL 98 (rK F) := by
 refine bS (aT (aTy F)) mix Tryz.func98 rfl (by kernel_rfl) (by decide) aMY fun w0 S x Θ hw h hF => ?_
 obtain ⟨(s_0 : qd), u⟩ := x
 simp only [bX, go_sem]
 replace h : sat (qL F s_0) _ := h
 unfold qL at h
 obtain ⟨v_5, hv, h⟩ := aN h
 try simp only [hv, go_sem]
 exact zaG
attribute [go_sem] rK
def aDR (F : Md) (s_0 : qd) : Option (qd × (qd × wm)) :=
 (sW F s_0).bind (fun v_5 => if ¬ (v_5.2.2.1 = true) then some (([] : List Nat), ([] : List Nat), false, ()) else (zM F v_5.1).bind (fun v_18 => (tY F (10 : Nat) (max v_5.2.1 (0 : Int))).bind (fun v_19 => (kH F v_18 v_19).bind (fun v_20 => ck (I64 (0 - v_5.2.1)) ((tY F (10 : Nat) (max (0 - v_5.2.1) (0 : Int))).bind (fun v_21 => some (v_20, v_21, true, ())))))))
def aKr : PlR := ⟨[(0, .A [0]), (1, .A [5, 6, 7]), (2, .A [5, 6, 15]), (3, .A [2, 3, 4]), (4, .A [2, 3, 4])], []⟩
def aMZ : Ty := .pair .str .unit
def aCw (F : Md) : aI := mSpec aMZ (.tup (.pair we (.pair we wq))) (fun x => aDR F x.1)
def aBr (F : Md) : List (FuncId × aI) := [(102, (mL F)), (104, (gW F)), (105, (sX F)), (106, (uQ F))]
theorem aSI [Mx] (F : Md) : bH Tryz.prog GL (aBr F) := .cons (aDg F) (by kernel_rfl) (.cons (uL F) (by kernel_rfl) (.cons (aIA F) (by kernel_rfl) (.cons (aKp F) (by kernel_rfl) (.nil))))
theorem aNr (F : Md) : gam (aBr F) 102 = some (mL F) := rfl
theorem aNs (F : Md) : gam (aBr F) 104 = some (gW F) := rfl
theorem aNt (F : Md) : gam (aBr F) 105 = some (sX F) := rfl
theorem aNu (F : Md) : gam (aBr F) 106 = some (uQ F) := rfl
attribute [go_sem] aMZ aKr aNr aNs aNt aNu
theorem aRC [Mx] (F : Md) : FOK Tryz.prog GL 155 (aCw F) := by
 refine bS (aT (aSI F)) mix Tryz.func155 rfl (by kernel_rfl) (by decide) aKr fun w0 S x Θ hw h hF => ?_
 obtain ⟨(s_0 : qd), u⟩ := x
 simp only [bX, go_sem]
 replace h : sat (aDR F s_0) _ := h
 unfold aDR at h
 obtain ⟨v_5, hv, h⟩ := aN h
 try simp only [hv, go_sem]
 refine aC3 h (fun hc h => ?_) fun hc h => ?_
 ·exact aK hF [.tmp 2, .tmp 3, .tmp 4] rfl rfl rfl (aE h) (by simp only [aS, go_sem])
 ·obtain ⟨v_18, hv, h⟩ := aN h
  try simp only [hv, go_sem]
  obtain ⟨v_19, hv, h⟩ := aN h
  try simp only [hv, go_sem]
  obtain ⟨v_20, hv, h⟩ := aN h
  try simp only [hv, go_sem]
  refine aZ h fun g0 h => ?_
  obtain ⟨v_21, hv, h⟩ := aN h
  try simp only [hv, go_sem]
  exact zax
attribute [go_sem] aCw
def aDS (F : Md) (s_0 : qd) : Option (qt × qp) :=
 (sW F s_0).bind (fun v_5 => if ¬ (v_5.2.2.1 = true) then some ((false, ([] : List Nat), (0 : Int), ()), (6 : Int), ()) else (zM F v_5.1).bind (fun v_21 => (tY F (5 : Nat) (max v_5.2.1 (0 : Int))).bind (fun v_22 => (kH F v_21 v_22).bind (fun v_23 => ck (I64 (0 - v_5.2.1)) ((tY F (5 : Nat) (max (0 - v_5.2.1) (0 : Int))).bind (fun v_24 => (aCm F v_23 v_24).bind (fun v_25 => (aDe F false v_25.1 v_5.2.1).bind (fun v_27 => if ((0 : Int) < (v_25.2.1.length : Int)) ∨ (¬ (v_27.2.1 = (0 : Int))) then some ((false, ([] : List Nat), (0 : Int), ()), (6 : Int), ()) else some (v_27.1, (0 : Int), ())))))))))
def aKs : PlR := ⟨[(0, .B [0, 2]), (1, .A [2, 4, 5, 6]), (2, .A [2, 4, 5, 18]), (3, .B [2, 3]), (4, .A [2, 5, 7, 8]), (5, .B [2, 8, 9, 10]), (6, .A [2, 9, 46]), (7, .B [2, 3]), (8, .B [2, 3])], []⟩
def aM0 : Ty := .pair .str .unit
def aCx (F : Md) : aI := mSpec aM0 (.tup (.pair ql q9)) (fun x => aDS F x.1)
def tZ (F : Md) : List (FuncId × aI) := [(102, (mL F)), (103, (aA0 F)), (104, (gW F)), (105, (sX F)), (106, (uQ F)), (107, (yH F))]
theorem aSJ [Mx] (F : Md) : bH Tryz.prog GL (tZ F) := .cons (aDg F) (by kernel_rfl) (.cons (aPX F) (by kernel_rfl) (.cons (uL F) (by kernel_rfl) (.cons (aIA F) (by kernel_rfl) (.cons (aKp F) (by kernel_rfl) (.cons (aMO F) (by kernel_rfl) (.nil))))))
theorem aNv (F : Md) : gam (tZ F) 102 = some (mL F) := rfl
theorem aNw (F : Md) : gam (tZ F) 103 = some (aA0 F) := rfl
theorem aNx (F : Md) : gam (tZ F) 104 = some (gW F) := rfl
theorem aNy (F : Md) : gam (tZ F) 105 = some (sX F) := rfl
theorem aNz (F : Md) : gam (tZ F) 106 = some (uQ F) := rfl
theorem aNA (F : Md) : gam (tZ F) 107 = some (yH F) := rfl
attribute [go_sem] aM0 aKs aNv aNw aNx aNy aNz aNA
theorem aRD [Mx] (F : Md) : FOK Tryz.prog GL 67 (aCx F) := by
 refine bS (aT (aSJ F)) mix Tryz.func67 rfl (by kernel_rfl) (by decide) aKs fun w0 S x Θ hw h hF => ?_
 obtain ⟨(s_0 : qd), u⟩ := x
 simp only [bX, go_sem]
 replace h : sat (aDS F s_0) _ := h
 unfold aDS at h
 obtain ⟨v_5, hv, h⟩ := aN h
 try simp only [hv, go_sem]
 refine aC3 h (fun hc h => ?_) fun hc h => ?_
 ·exact aK hF [.cell 2 128, .tmp 3] rfl rfl rfl (aE h) (by simp only [aS, go_sem])
 ·obtain ⟨v_21, hv, h⟩ := aN h
  try simp only [hv, go_sem]
  obtain ⟨v_22, hv, h⟩ := aN h
  try simp only [hv, go_sem]
  obtain ⟨v_23, hv, h⟩ := aN h
  try simp only [hv, go_sem]
  refine aZ h fun g0 h => ?_
  obtain ⟨v_24, hv, h⟩ := aN h
  try simp only [hv, go_sem]
  obtain ⟨v_25, hv, h⟩ := aN h
  try simp only [hv, go_sem]
  obtain ⟨v_27, hv, h⟩ := aN h
  try simp only [hv, go_sem]
  refine ⟨fun hc => ?_, fun hc => ?_⟩
  ·replace h := jE hc h
   exact aK hF [.cell 2 128, .tmp 3] rfl rfl rfl (aE h) (by simp only [aS, go_sem])
  ·replace h := jF hc h
   exact aK hF [.cell 2 128, .tmp 3] rfl rfl rfl (aE h) (by simp only [aS, go_sem])
attribute [go_sem] aCx
def mD (F : Md) (a_0 : qt) (b_1 : qt) (n_2 : Int) : Option Bool :=
 (aIa F n_2 (0 : Int)).bind (fun v_5 => (aFN F b_1 v_5.1).bind (fun v_7 => ck ((v_7.2.1 = (0 : Int)) → ((aAP F a_0 v_7.1).isSome = true)) (some ((decide (v_7.2.1 = (0 : Int))) && (decide (((aAP F a_0 v_7.1).getD (0 : Int)) ≤ (0 : Int)))))))
def aIB : PlR := ⟨[(0, .B [2, 3, 4]), (1, .B [3, 4, 7]), (2, .B [3, 9, 10]), (3, .A [6])], []⟩
def aKt : Ty := .pair ql (.pair ql q9)
def aA3 (F : Md) : aI := mSpec aKt (.one .bool) (fun x => mD F x.1 x.2.1 x.2.2.1)
def aCy (F : Md) : List (FuncId × aI) := [(110, (aFK F)), (111, (aDP F)), (69, (yI F))]
theorem aRE [Mx] (F : Md) : bH Tryz.prog GL (aCy F) := .cons (aTw F) (by kernel_rfl) (.cons (aSG F) (by kernel_rfl) (.cons (aMU F) (by kernel_rfl) (.nil)))
theorem aLQ (F : Md) : gam (aCy F) 110 = some (aFK F) := rfl
theorem aLR (F : Md) : gam (aCy F) 111 = some (aDP F) := rfl
theorem aNB (F : Md) : gam (aCy F) 69 = some (yI F) := rfl
attribute [go_sem] aKt aIB aLQ aLR aNB
theorem aP3 [Mx] (F : Md) : FOK Tryz.prog GL 70 (aA3 F) := by
 refine bS (aT (aRE F)) mix Tryz.func70 rfl (by kernel_rfl) (by decide) aIB fun w0 S x Θ hw h hF => ?_
 obtain ⟨(a_0 : qt), (b_1 : qt), (n_2 : Int), u⟩ := x
 simp only [bX, go_sem]
 replace h : sat (mD F a_0 b_1 n_2) _ := h
 unfold mD at h
 obtain ⟨v_5, hv, h⟩ := aN h
 try simp only [hv, go_sem]
 obtain ⟨v_7, hv, h⟩ := aN h
 try simp only [hv, go_sem]
 refine aZ h fun g0 h => ?_
 exact aK hF [.tmp 6] rfl rfl rfl (aE h) (by simp only [aS, go_sem])
attribute [go_sem] aA3
end
end Nu
end Go.Proofs
