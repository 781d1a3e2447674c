import Derived.Test.YtjfnadgkomdedaaGreatDoorZL6
import Derived.Test.YtjfnadgkomdedaaGreatDoorProg
import Derived.KernelRfl
import Derived.Laws.Externs
import Derived.Lib.AppendZeros
import Derived.Lib.SliceRun
import Derived.WalkKit
import Derived.Lib.Walk
import Derived.Shelf.RegionOpenPlain
set_option linter.unusedVariables false
set_option linter.unusedSimpArgs false
namespace Go.Proofs
open Go.Vc
set_option maxRecDepth 20000
namespace Nu
noncomputable section
theorem xAa {p : Prop} (h : p := by kernel_rfl) : p := h
theorem xAb {p : Prop} (h : p := by decide) : p := h
theorem xAc {p : Prop} (h : p := by simp only [go_sem]) : p := h
theorem xAd {p : Prop} (h : p := by simp only [aR, go_sem]) : p := h
theorem xAe {p : Prop} (h : p := by simp only [go_sem, bH F, bI F, bJ F]) : p := h
theorem xAf {p : Prop} (h : p := by simp only [aR, go_sem, bH F, bI F, bJ F]) : p := h
abbrev qI := List Nat
@[go_sem]abbrev qj : Ty := .i .i64
abbrev ql := Int × Unit
abbrev qm := List qI
@[go_sem]abbrev qn : Ty := .u .u64
@[go_sem]abbrev qr : Ty := .u .u8
@[go_sem]abbrev qs : Ty := .sl qn
@[go_sem]abbrev qt : Ty := .pair .expr .unit
@[go_sem]abbrev qu : Ty := .sl .str
abbrev qv := qI × (Ex × Unit)
abbrev qw := Bool × qI
abbrev qx := qI × (qI × Unit)
abbrev qz := Int × Int
@[go_sem]abbrev q8 : Ty := .arr 2 qj
abbrev q9 := Int × (Unit × Unit)
abbrev wa := Bool × Unit
@[go_sem]abbrev wb : Ty := .pair qn (.pair qn .unit)
abbrev wc := Int × Bool × qI
@[go_sem]abbrev wd : Ty := .pair .str .unit
abbrev we := List Bool
abbrev wg := qm × Unit
@[go_sem]abbrev wh : Ty := .pair qr .unit
@[go_sem]abbrev wi : Ty := .pair .str qt
@[go_sem]abbrev wj : Ty := .pair (.rp qu) .unit
abbrev qd := qI × (Int × ql)
@[go_sem]abbrev qf : Ty := .pair qj .unit
abbrev qg := qI × ((List (qI × (qx × (Ex × Unit)))) × ((List (qI × (qx × Unit))) × (qm × ((List qv) × Unit))))
@[go_sem]abbrev qh : Ty := .pair .bool (.pair qs qf)
abbrev qi := Bool × (qI × ql)
@[go_sem]abbrev qk : Ty := .pair .str (.pair qj qf)
abbrev qo := List (qI × (qI × qx))
@[go_sem]abbrev qp : Ty := .pair .str wd
abbrev qq := Ex × qd
@[go_sem]abbrev qy : Ty := .pair .str (.pair .str qp)
@[go_sem]abbrev qa : Ty := .pair .str (.pair (.sl (.pair .str (.pair qp qt))) (.pair (.sl (.pair .str (.pair qp .unit))) (.pair qu (.pair (.sl wi) .unit))))
abbrev qc := Int × (Int × (Int × (Int × (qI × (qI × (qI × (qI × ((List qg) × (qo × Unit)))))))))
@[go_sem]abbrev qe : Ty := .pair qj (.pair qj (.pair qj (.pair qj (.pair .str (.pair .str (.pair .str (.pair .str (.pair (.sl qa) (.pair (.sl qy) .unit)))))))))
@[go_sem]theorem gam_in {a b : FuncId} {s : aF} {l : List (FuncId × aF)} : gam ((a, s) :: l) b = if a = b then some s else gam l b := rfl
structure Hq (p : Prop) : Prop where
 a : p
theorem yaA {p q : Prop} (a : q) (h : Hq q → p := by
 intro hq
 simp only [go_sem]
 exact hq.a) : p := h ⟨a⟩
theorem yaB {p q : Prop} (a : q) (h : Hq q → p := by
 intro hq
 simp only [go_sem]
 repeat (refine ⟨zAA, ?_⟩)
 exact hq.a) : p := h ⟨a⟩
theorem yaC {p q : Prop} (a : q) (h : Hq q → p := by
 intro hq
 simp only [ren, eH, iN, posOf, cT, go_sem]
 exact hq.a) : p := h ⟨a⟩
theorem yaD {p q : Prop} (a : q) (h : Hq q → p := by
 intro hq
 simp only [go_sem]
 repeat (refine ⟨zAC, ?_⟩)
 exact hq.a) : p := h ⟨a⟩
theorem yaE {p q : Prop} (a : q) (h : Hq q → p := by
 intro hq
 repeat (refine ⟨zAA, ?_⟩)
 exact hq.a) : p := h ⟨a⟩
theorem yaF {p q : Prop} (h : p) (t : p → q := by
 intro h
 try dsimp only at h
 exact h) : q := t h
theorem zaA {p : Prop} (h : p := by
 exact aG hF [.tmp 4] rfl rfl rfl (aC h) xAd) : p := h
theorem zaB {p : Prop} (h : p := by
 exact aG hF [.tmp 2] rfl rfl rfl (aC h) xAd) : p := h
theorem zaC {p : Prop} (h : p := by
 subst hi
 simp only [go_sem]
 try (refine ⟨by decide, ?_⟩)
 unfold anyS
 intro i hi
 have hi : i = 4 := by revert hi; revert i; decide
 subst hi
 simp only [go_sem]
 try (refine ⟨by decide, ?_⟩)
 unfold anyS
 intro i hi
 have hi : i = 5 := by revert hi; revert i; decide
 subst hi
 simp only [go_sem]
 try (refine ⟨by decide, ?_⟩)
 (simp only [anyS, go_sem]) <;> first | exact ⟨rfl, rfl⟩ | trivial) : p := h
theorem zaD {p : Prop} (h : p := by
 (try simp only [aR, rM, rI, dM, gS, AV.isAgg, go_sem]) <;> first | trivial | rfl | (simp; done)) : p := h
theorem zaE {p : Prop} (h : p := by
 subst hi
 simp only [go_sem]
 skip
 unfold anyS
 intro i hi
 have hi : i = 4 := by revert hi; revert i; decide
 subst hi
 simp only [go_sem]
 skip
 (simp only [anyS, go_sem]) <;> first | exact ⟨rfl, rfl⟩ | trivial) : p := h
theorem zaF {p : Prop} (h : p := by
 exact aW _ h rfl xAc) : p := h
theorem zaG {p : Prop} (h : p := by
 obtain rfl := Option.some.inj h
 refine dF (iJ [0] rfl rfl (yaC ?_))
 refine iK (eX 0 rfl eW) ?_
 refine gT rfl rfl rfl rfl) : p := h
theorem zaH {p : Prop} (h : p := by
 obtain rfl := Option.some.inj h
 refine dF (iJ [] rfl rfl (yaC ?_))
 refine gT rfl rfl rfl rfl) : p := h
theorem zaI {p : Prop} (h : p := by
 refine fZ h (fun hc h => ?_) fun hc h => ?_
 ·refine aU h fun g0 h => ?_
  obtain ⟨v_27, hv, h⟩ := aJ h
  try simp only [hv, go_sem]
  refine aH0 h (fun hc h => ?_) fun hc h => ?_
  ·replace h := yaF (hE2 _ (aC h))
   exact zaA
  ·refine aU h fun g0 h => ?_
   replace h := hA2 _ (aC h)
   exact zaF
 ·replace h := yaF (hE2 _ (aC h))
  exact zaA) : p := h
theorem zaJ {p : Prop} (h : p := by
 try simp only [hv, go_sem]
 refine aU h fun g0 h => ?_
 exact zaB) : p := h
theorem zaK {p : Prop} (h : p := by
 subst hi
 simp only [go_sem]
 repeat (refine ⟨zAA, ?_⟩)
 unfold anyS
 intro i hi
 have hi : i = 3 := by revert hi; revert i; decide
 subst hi
 simp only [go_sem]
 repeat (refine ⟨zAA, ?_⟩)
 (simp only [anyS, go_sem]) <;> first | exact ⟨rfl, rfl⟩ | trivial) : p := h
theorem zaL {p : Prop} (h : p := by
 repeat (refine ⟨by first | with_reducible assumption | omega | (intros; first | with_reducible assumption | omega) | (simp only [go_sem, bH F, bI F, bJ F] at *; first | with_reducible assumption | omega) | (intro _; exact ⟨rfl, by decide⟩) | (intro _; refine (?_ : _ = aE _); rfl) | (refine (?_ : _ = aE _); rfl) | exact ⟨rfl, rfl⟩ | decide, ?_⟩)
 obtain rfl := Option.some.inj h
 refine aB (bX (bO (bO (eM hF [.tmp 4] rfl rfl rfl ?_))))
 (try simp only [gK, aR, go_sem, bH F, bI F, bJ F]) <;> first | rfl | (simp; done)) : p := h
theorem zaM {p : Prop} (h : p := by
 refine aA (aD hF [0, 2] (yaA ?_))
 refine aB (aA (aA (aO3 hF rfl rfl rfl fun b hb => ?_)))
 refine aB (bF rfl (fun hc => ?_) (fun hc => ?_))
 ·have hs := hb hc
  refine aA (aD hF [2] (yaA ?_))
  refine aB (bX (bO (eM hF [.tmp 2] rfl rfl rfl ?_)))
  simp only [gK, aR, go_sem, hs]
  try trivial
 ·refine bM (aB (aA (aM hF [2] (yaA ?_))))
  refine ⟨by omega, ?_⟩
  refine aB (bX (eM hF [.tmp 2] rfl rfl rfl ?_))
  simp only [gK, aR, go_sem]
  try trivial) : p := h
theorem zaN {p : Prop} (h : p := by
 try (refine ⟨by decide, ?_⟩)
 unfold anyS
 intro i hi
 have hi : i = 2 ∨ i = 3 := by revert hi; revert i; decide
 rcases hi with rfl | rfl
 ·simp only [go_sem]
  try (refine ⟨by decide, ?_⟩)
  unfold anyS
  intro i hi
  have hi : i = 3 := by revert hi; revert i; decide
  exact zaC
 ·simp only [go_sem]
  try (refine ⟨by decide, ?_⟩)
  unfold anyS
  intro i hi
  have hi : i = 2 := by revert hi; revert i; decide
  exact zaC) : p := h
theorem zaO {p : Prop} (h : p := by
 obtain rfl := Option.some.inj h
 refine aB (bX (jV hF [.cell 2 24] [0] rfl rfl rfl rfl rfl rfl rfl rfl rfl ?_))
 exact zaD) : p := h
theorem zaP {p : Prop} (h : p := by
 try simp only [hv, go_sem]
 exact zaA) : p := h
theorem zaQ {p : Prop} (h : p := by
 simp only [go_sem]
 (repeat' apply And.intro) <;> try (first | trivial | rfl | with_reducible assumption | omega | (intros; first | with_reducible assumption | omega) | (simp; done) | (simp at *; omega))
 obtain rfl := Option.some.inj h
 dsimp only [iM] at hs2
 have h := yaF (hs2)
 obtain rfl := Option.some.inj h
 refine yE (dF (yE (iJ [0] rfl rfl (yaC ?_))))
 refine iK (eX 0 rfl eW) ?_
 refine gT rfl rfl rfl rfl) : p := h
theorem zaR {p : Prop} (h : p := by
 skip
 unfold anyS
 intro i hi
 have hi : i = 2 ∨ i = 3 := by revert hi; revert i; decide
 rcases hi with rfl | rfl
 ·simp only [go_sem]
  skip
  unfold anyS
  intro i hi
  have hi : i = 3 := by revert hi; revert i; decide
  exact zaE
 ·simp only [go_sem]
  skip
  unfold anyS
  intro i hi
  have hi : i = 2 := by revert hi; revert i; decide
  exact zaE) : p := h
theorem zaS {p : Prop} (h : p := by
 refine aH0 h (fun hc h => ?_) fun hc h => ?_
 ·exact aG hF [.tmp 2] rfl rfl rfl (aC h) xAd
 ·exact aG hF [.tmp 2] rfl rfl rfl (aC h) xAd) : p := h
theorem zaT {p : Prop} (h : p := by
 refine ⟨hq, ?_⟩
 refine dF ?_
 refine aHY (fn := Tryz.f130) (k := 2) (l2 := [0, 1]) hF' rfl rfl xAb rfl (aAP xAa) ⟨mY q, [0, 1], ((false, ([] : List Nat), (0 : Int), ()), 0)⟩ (aFn q) rfl [.cell 2 117, .cell 3 3] rfl ?_ ?_
 ·(simp only [mY, go_sem]) <;> first | decide | trivial
 ·(simp only [mY, aR, gK, go_sem]) <;> first | decide | trivial) : p := h
theorem zaU {p : Prop} (h : p := by
 refine aA (aM hF [3, 4, 5, 6] (yaA ?_))
 refine aB (aA (zW 0 rfl (yaA ?_)))
 refine zW 1 rfl (yaA ?_)
 refine zW 2 rfl (yaA ?_)
 refine aM hF [6, 7] (yaA ?_)
 obtain ⟨g0, h⟩ := aI h
 repeat (refine ⟨zAA, ?_⟩)
 obtain rfl := Option.some.inj h
 refine aB (bX (eM hF [.cell 6 117, .tmp 7] rfl rfl rfl ?_))
 exact zAG) : p := h
theorem zaV {p : Prop} (h : p := by
 first | (refine ⟨fun hx => by first | (exfalso; omega) | (exfalso; simp_all; done), fun _ => ?_⟩) | (with_reducible intro _) | skip
 repeat (refine ⟨zAA, ?_⟩)
 first | (refine ⟨fun hx => by first | (exfalso; omega) | (exfalso; simp_all; done), fun _ => ?_⟩) | (with_reducible intro _) | skip
 repeat (refine ⟨zAA, ?_⟩)
 exact zaH) : p := h
theorem zaW {p : Prop} (h : p := by
 refine ⟨hq, ?_⟩
 refine aB (bX ?_)
 refine aPC (fn := Tryz.f130) (k := 2) (l2 := [0, 1]) hF' rfl rfl xAb rfl (aAP xAa) ⟨mX, [0, 1], (q, 0)⟩ aFm rfl [.cell 2 117, .cell 3 3] rfl ?_ ?_
 ·(simp only [mX, go_sem]) <;> first | decide | trivial
 ·(simp only [mX, aR, gK, go_sem]) <;> first | decide | trivial) : p := h
theorem zaX {p : Prop} (h : p := by
 have h := dT zAB h
 refine aA (aD hF [2] (yaA ?_))
 obtain rfl := Option.some.inj h
 refine aB (bX (eR (bO (eM hF [.tmp 2] rfl rfl rfl ?_))))
 exact zAG) : p := h
theorem zaY {p : Prop} (h : p := by
 exact aG hF [.tmp 2, .tmp 3, .tmp 4] rfl rfl rfl (aC h) xAd) : p := h
theorem zaZ {p : Prop} (h : p := by
 have h := dT zAB h
 refine aA (aM hF [8] (yaA ?_))
 obtain rfl := Option.some.inj h
 dsimp only [iM] at hs2
 have h := yaF (hs2)
 obtain rfl := Option.some.inj h
 refine aB (bX (bO (eR (bO (eR (jV hF [.cell 8 24] [0] rfl rfl rfl rfl rfl rfl rfl rfl rfl ?_))))))
 exact zaD) : p := h
theorem zaa {p : Prop} (h : p := by
 refine aAQ (qY hF [] rfl rfl rfl rfl rfl rfl ?_)
 simp only [aR, rM, rI, go_sem]
 try decide) : p := h
theorem zab {p : Prop} (h : p := by
 obtain ⟨v_5, hv, h⟩ := aJ h
 try simp only [hv, go_sem]
 exact zaB) : p := h
theorem zac {p : Prop} (h : p := by
 refine iK (eX 0 rfl eW) ?_
 refine gT rfl rfl rfl rfl) : p := h
theorem zad {p : Prop} (h : p := by
 exact aW _ h rfl (by (try simp only [gR, dM, true_or, and_self, go_sem]) <;> (repeat' apply And.intro) <;> first | rfl | (left; rfl) | (right; rfl) | (left; simp only [go_sem]; done) | (right; simp only [go_sem]; done) | (simp; done) | (simp only [*]; done) | omega)) : p := h
theorem zae {p : Prop} (h : p := by
 obtain rfl := Option.some.inj h
 refine aB (bX (jV hF [.cell 3 117] [] rfl rfl rfl rfl rfl rfl rfl rfl rfl ?_))
 exact zaD) : p := h
theorem zaf {p : Prop} (h : p := by
 refine ⟨fun _ => (yaE ?_), fun hx => by first | (exfalso; omega) | (exfalso; simp_all; done)⟩
 refine ⟨fun _ => (yaE ?_), fun hx => by first | (exfalso; omega) | (exfalso; simp_all; done)⟩
 exact zaH) : p := h
theorem zag {p : Prop} (h : p := by
 obtain rfl := Option.some.inj h
 refine aB (bX (eM hF [.tmp 2] rfl rfl rfl ?_))
 exact zAG) : p := h
theorem zah {p : Prop} (h : p := by
 rw [hq]
 rintro ⟨_, h⟩
 have := a2.2
 rw [show p0 + [40].length + (tx n e).length = p0 + 1 + (tx n e).length from rfl] at this
 rw [this] at h
 revert h; decide) : p := h
theorem zAA {p : Prop} (h : p := by first | with_reducible assumption | omega | (intros; first | with_reducible assumption | omega) | (simp only [go_sem] at *; first | with_reducible assumption | omega) | (intro _; exact ⟨rfl, by decide⟩) | (intro _; refine (?_ : _ = aE _); rfl) | (refine (?_ : _ = aE _); rfl) | exact ⟨rfl, rfl⟩ | decide) : p := h
theorem zAB {p : Prop} (h : p := by first | exact hc | omega | (simpa using hc) | (simp at hc ⊢; omega)) : p := h
theorem zAC {p : Prop} (h : p := by first | with_reducible assumption | omega | (intros; first | with_reducible assumption | omega) | (simp only [go_sem] at *; first | with_reducible assumption | omega) | (intro _; exact ⟨rfl, by decide⟩) | (intro _; refine (?_ : _ = aE _); rfl) | (refine (?_ : _ = aE _); rfl) | exact ⟨rfl, rfl⟩ | decide | ((repeat' apply And.intro) <;> first | assumption | rfl | omega) | fail) : p := h
theorem zAD {p : Prop} (h : p := by first | with_reducible assumption | omega | (intros; first | with_reducible assumption | omega) | (simp only [go_sem] at *; first | with_reducible assumption | omega) | (intro _; exact ⟨rfl, by decide⟩) | (intro _; refine (?_ : _ = aE _); rfl) | (refine (?_ : _ = aE _); rfl) | exact ⟨rfl, rfl⟩ | (intro q0; (try have e0 := g0 (by first | exact q0 | omega | (simpa using q0))); (try have e1 := g1 (by first | exact q0 | omega | (simpa using q0))); first | assumption | omega) | decide) : p := h
theorem zAE {p : Prop} (h : p := by first | with_reducible assumption | omega | (intros; first | with_reducible assumption | omega) | (simp only [go_sem] at *; first | with_reducible assumption | omega) | (intro _; exact ⟨rfl, by decide⟩) | (intro _; refine (?_ : _ = aE _); rfl) | (refine (?_ : _ = aE _); rfl) | exact ⟨rfl, rfl⟩ | (intro q0; (try have e0 := g0 (by first | exact q0 | omega | (simpa using q0))); first | assumption | omega) | decide) : p := h
theorem zAF {p : Prop} (h : p := by (try simp only [gR, dM, true_or, and_self, go_sem]) <;> (repeat' apply And.intro) <;> first | rfl | (left; rfl) | (right; rfl) | (left; simp only [go_sem]; done) | (right; simp only [go_sem]; done) | (simp; done) | (simp only [*]; done) | omega) : p := h
theorem zAG {p : Prop} (h : p := by (try simp only [gK, aR, go_sem]) <;> first | rfl | (simp; done)) : p := h
def aVy : List Nat := [0, 1, 56, 2, 57, 49, 28, 3, 61, 58, 42, 50, 38, 29, 17, 4, 62, 47, 59, 36, 45, 43, 51, 22, 53, 39, 33, 30, 24, 18, 12, 5, 63, 55, 48, 27, 60, 41, 37, 16, 46, 35, 44, 21, 52, 32, 23, 11, 54, 26, 40, 15, 34, 20, 31, 10, 25, 14, 19, 9, 13, 8, 7, 6]
theorem aWV : aVy = [0, 1, 56, 2, 57, 49, 28, 3, 61, 58, 42, 50, 38, 29, 17, 4, 62, 47, 59, 36, 45, 43, 51, 22, 53, 39, 33, 30, 24, 18, 12, 5, 63, 55, 48, 27, 60, 41, 37, 16, 46, 35, 44, 21, 52, 32, 23, 11, 54, 26, 40, 15, 34, 20, 31, 10, 25, 14, 19, 9, 13, 8, 7, 6] := rfl
def p10 : List Nat := [1, 10, 100, 1000, 10000, 100000, 1000000, 10000000, 100000000, 1000000000, 10000000000, 100000000000, 1000000000000, 10000000000000, 100000000000000, 1000000000000000, 10000000000000000, 100000000000000000, 1000000000000000000, 10000000000000000000]
theorem aXY : p10 = [1, 10, 100, 1000, 10000, 100000, 1000000, 10000000, 100000000, 1000000000, 10000000000, 100000000000, 1000000000000, 10000000000000, 100000000000000, 1000000000000000, 10000000000000000, 100000000000000000, 1000000000000000000, 10000000000000000000] := rfl
def GL : Nat → AV
 | 9 => .roa (.arr 64 qr) aVy
 | 3 => .roa (.arr 20 qn) p10
 | _ => .junk
theorem GL0 : GL 9 = .roa (.arr 64 qr) aVy := rfl
theorem GL3 : GL 3 = .roa (.arr 20 qn) p10 := rfl
attribute [go_sem] GL0 GL3 mSpec
def tab : List (TypeId × Ty) := [(187, .clo 136 .unit), (2, .i .i64), (3, .i .i64), (4, .bool), (5, .u .u8), (9, .str), (21, .i .i32), (22, .sl .expr), (24, .expr), (25, .sl .str), (37, .sl qa), (38, .sl qy), (40, .pair qj (.pair qj (.pair qj (.pair qj (.pair .str (.pair .str (.pair .str (.pair .str (.pair (.sl qa) (.pair (.sl qy) .unit)))))))))), (47, .pair qj .unit), (51, .pair .str (.pair qj qf)), (58, .nilp), (59, .sl qr), (61, .pair .nilp (.pair (.sl qr) .unit)), (63, .nili), (69, .sl (.pair .str (.pair qp qt))), (70, .sl (.pair .str (.pair qp .unit))), (71, .sl wi), (73, .pair .str (.pair (.sl (.pair .str (.pair qp qt))) (.pair (.sl (.pair .str (.pair qp .unit))) (.pair qu (.pair (.sl wi) .unit))))), (75, .pair .str wd), (77, .pair .str (.pair qp qt)), (80, .pair .str (.pair qp .unit)), (82, .pair .str qt), (84, .pair .str (.pair .str qp)), (88, .arr 256 (.bool)), (94, .u .u64), (96, .arr 2 qj), (97, .nilf), (114, .sl qh), (115, .sl qn), (117, .pair .bool (.pair qs qf)), (144, .u .u64), (149, .sl qu), (156, .arr 24 qr), (161, .arr 256 qr), (163, .pair qr wh), (164, .arr 16 (.pair qr wh)), (168, .i .i64), (193, .arr 20 qn), (194, .u .u32), (195, .arr 65 qr), (205, .pair qj .unit), (212, .pair .str .unit), (214, .arr 32 qr), (215, .arr 64 qr)]
def elT : TypeId → TypeId
 | 22 => 24
 | 25 => 9
 | 37 => 73
 | 38 => 84
 | 59 => 5
 | 69 => 77
 | 70 => 80
 | 71 => 82
 | 114 => 117
 | 115 => 144
 | 149 => 25
 | _ => 0
def mpT : TypeId → Option (TypeId × TypeId)
 | 130 => some (9, 4)
 | 137 => some (9, 3)
 | _ => none
theorem aS4 : iS Tryz.prog (aGp tab) := aUf xAa
theorem aYA : ∀ t ct, aGp tab t = some (.sl ct) → Tryz.prog.underlying t = some (.slice (elT t)) := aWv xAa
theorem aYB : ∀ t k e, mpT t = some (k, e) → Tryz.prog.underlying t = some (.map k e) := by
 intro t k e h
 unfold mpT at h
 split at h
 ·cases h; rfl
 ·cases h; rfl
 ·cases h
def TM : Tab := aGp tab
def EM (l : List (FuncId × aF)) : Env := ⟨TM, GL, fun f _ => gam l f, elT, mpT, fun _ => none, fun _ => false⟩
theorem aYC (l : List (FuncId × aF)) (t : TypeId) : (EM l).T t = TM t := rfl
theorem aYD (l : List (FuncId × aF)) (t : Nat) : (EM l).G t = GL t := rfl
theorem aYE (l : List (FuncId × aF)) (f : FuncId) (vs : List AV) : (EM l).Γ f vs = gam l f := rfl
theorem aYi (l : List (FuncId × aF)) (t : TypeId) : (EM l).el t = elT t := rfl
theorem aYj (l : List (FuncId × aF)) (t : TypeId) : (EM l).mp t = mpT t := rfl
theorem aS {l : List (FuncId × aF)} (h : bG Tryz.prog GL l) : fU Tryz.prog (EM l) := aUL aS4 aYA aYB h
theorem mix : Tryz.prog.follows .mixedOrders = true := by kernel_rfl
theorem aYk (l : List (FuncId × aF)) (t : TypeId) : (EM l).dm t = none := rfl
theorem aYl (l : List (FuncId × aF)) (t : TypeId) : (EM l).dz t = false := rfl
attribute [go_sem] aYk aYl
theorem T2 : TM 2 = some qj := rfl
theorem T3 : TM 3 = some qj := rfl
theorem T4 : TM 4 = some (.bool) := rfl
theorem T5 : TM 5 = some qr := rfl
theorem T9 : TM 9 = some (.str) := rfl
theorem T21 : TM 21 = some (.i .i32) := rfl
theorem T22 : TM 22 = some (.sl .expr) := rfl
theorem T24 : TM 24 = some (.expr) := rfl
theorem T25 : TM 25 = some qu := rfl
theorem T37 : TM 37 = some (.sl qa) := rfl
theorem T38 : TM 38 = some (.sl qy) := rfl
theorem T40 : TM 40 = some qe := rfl
theorem T47 : TM 47 = some qf := rfl
theorem T51 : TM 51 = some qk := rfl
theorem T58 : TM 58 = some (.nilp) := rfl
theorem T59 : TM 59 = some (.sl qr) := rfl
theorem T61 : TM 61 = some (.pair .nilp (.pair (.sl qr) .unit)) := rfl
theorem T63 : TM 63 = some (.nili) := rfl
theorem T69 : TM 69 = some (.sl (.pair .str (.pair qp qt))) := rfl
theorem T70 : TM 70 = some (.sl (.pair .str (.pair qp .unit))) := rfl
theorem T71 : TM 71 = some (.sl wi) := rfl
theorem T73 : TM 73 = some qa := rfl
theorem T75 : TM 75 = some qp := rfl
theorem T77 : TM 77 = some (.pair .str (.pair qp qt)) := rfl
theorem T80 : TM 80 = some (.pair .str (.pair qp .unit)) := rfl
theorem T82 : TM 82 = some wi := rfl
theorem T84 : TM 84 = some qy := rfl
theorem T88 : TM 88 = some (.arr 256 (.bool)) := rfl
theorem T94 : TM 94 = some qn := rfl
theorem T96 : TM 96 = some q8 := rfl
theorem T97 : TM 97 = some (.nilf) := rfl
theorem aYF : TM 114 = some (.sl qh) := rfl
theorem aYG : TM 115 = some qs := rfl
theorem aYH : TM 117 = some qh := rfl
theorem aYI : TM 144 = some qn := rfl
theorem aYJ : TM 149 = some (.sl qu) := rfl
theorem aYK : TM 156 = some (.arr 24 qr) := rfl
theorem aYL : TM 161 = some (.arr 256 qr) := rfl
theorem aYM : TM 163 = some (.pair qr wh) := rfl
theorem aYN : TM 164 = some (.arr 16 (.pair qr wh)) := rfl
theorem aYO : TM 168 = some qj := rfl
theorem aYP : TM 193 = some (.arr 20 qn) := rfl
theorem aYQ : TM 194 = some (.u .u32) := rfl
theorem aYR : TM 195 = some (.arr 65 qr) := rfl
theorem aYS : TM 205 = some qf := rfl
theorem aYT : TM 212 = some wd := rfl
theorem aYU : TM 214 = some (.arr 32 qr) := rfl
theorem aYV : TM 215 = some (.arr 64 qr) := rfl
theorem aYW : TM 187 = some (.clo 136 .unit) := rfl
attribute [go_sem] aYC aYD aYE aYi aYj elT mpT aYW T2 T3 T4 T5 T9 T21 T22 T24 T25 T37 T38 T40 T47 T51 T58 T59 T61 T63 T69 T70 T71 T73 T75 T77 T80 T82 T84 T88 T94 T96 T97 aYF aYG aYH aYI aYJ aYK aYL aYM aYN aYO aYP aYQ aYR aYS aYT aYU aYV
end
end Nu
end Go.Proofs
namespace Go.Proofs
open Go.Vc
set_option maxRecDepth 20000
namespace Nu
noncomputable section
def aDY (x y c : Nat) : Nat × Nat × Unit := ((x + y + c) % 18446744073709551616, (x + y + c) / 18446744073709551616, ())
abbrev aPJ (x y c : Nat) : Prop := c ≤ 1
def aH1 : Ty := .pair qn wb
def qL : aF := ⟨aH1, .tup wb, fun x => aPJ x.1 x.2.1 x.2.2.1, fun x => aDY x.1 x.2.1 x.2.2.1⟩
attribute [go_sem] qL aH1
theorem aPK {w : World} {S : Nat → Prop} {x : Nat} {v : Value} (h : cR w S qn x v) : v = .int .u64 (x : Int) := by
 unfold cR at h
 rw [if_neg (by simp [Ty.isAgg])] at h
 simp only [aT, List.cons.injEq, and_true] at h
 exact h.1
theorem aRW {w : World} {S : Nat → Prop} {vs : List Value} {x : Nat × Nat × Nat × Unit} (h : nT w S (.pair qn wb) x vs) : vs = [.int .u64 (x.1 : Int), .int .u64 (x.2.1 : Int), .int .u64 (x.2.2.1 : Int)] := by
 obtain ⟨v1, r1, rfl, h1, v2, r2, rfl, h2, v3, r3, rfl, h3, h4⟩ := h
 rw [aPK h1, aPK h2, aPK h3]
 have h4 : r3 = [] := h4
 rw [h4]
theorem aVz {w : World} {S : Nat → Prop} {x : Nat} (h : x < 18446744073709551616) : cR w S qn x (.int .u64 (x : Int)) := by
 unfold cR
 rw [if_neg (by simp [Ty.isAgg])]
 refine ⟨rfl, rfl, ?_⟩
 simp [IntKind.max, IntKind.signed, IntKind.bits]; omega
theorem aVA {w : World} {S : Nat → Prop} {x y : Nat} (hx : x < 18446744073709551616) (hy : y < 18446744073709551616) : nT w S wb (x, y, ()) [.int .u64 (x : Int), .int .u64 (y : Int)] :=
 ⟨_, _, rfl, aVz hx, _, _, rfl, aVz hy, rfl⟩
theorem wf_u64 {x : Nat} (h : (Ty.u .u64).wf x) : x < 18446744073709551616 := by
 simp only [Ty.wf, IntKind.max, IntKind.signed, IntKind.bits] at h
 simp at h; omega
theorem aGu : NOK Tryz.prog GL 127 qL := by
 refine aXJ fun w S vs x ha hp => ?_
 have hp : x.2.2.1 ≤ 1 := hp
 have hw := aF7 _ _ _ ha
 obtain ⟨h1, h2, h3, _⟩ := hw
 have h1 := wf_u64 h1
 have h2 := wf_u64 h2
 rw [aRW ha]
 refine ⟨[.int .u64 (((x.1 + x.2.1 + x.2.2.1) % 18446744073709551616 : Nat) : Int), .int .u64 (((x.1 + x.2.1 + x.2.2.1) / 18446744073709551616 : Nat) : Int)], ?_, aVA (by omega) (by omega)⟩
 rw [run_callFunc_extern Tryz.func127 xAa xAa xAa (e := add64Entry) xAa, run_add64 x.1 x.2.1 x.2.2.1 (by omega) (by omega) (by omega) (by omega)]
 simp only [Result.andThen]
 congr 5 <;> omega
abbrev aVB (s : List Nat) : Prop := s.length * 8 ≤ 140737488355328
def qT : Ty := .pair qs .unit
def cJ : aF := ⟨qT, .own 144 qn, fun x => aVB x.1, fun x => id x.1⟩
attribute [go_sem] cJ qT
abbrev xM (F : Md) : List (FuncId × aF) := []
theorem xN (F : Md) : bG Tryz.prog GL (xM F) := .nil
theorem mE : FOK Tryz.prog GL 118 cJ := by
 refine aRH (aS (xN none)) Tryz.func118 rfl xAa xAb fun w0 S x hw hp => ?_
 have hF : hU (fr Tryz.prog (EM (xM none)) S w0 Tryz.f118.ntmps) := ⟨aS (xN none), mix⟩
 obtain ⟨(s : qI), u⟩ := x
 have hp : s.length * 8 ≤ 140737488355328 := hp
 simp only [bQ, qT, cJ]
 exact zaM
end
end Nu
end Go.Proofs
namespace Go.Proofs
open Go.Vc
set_option maxRecDepth 20000
namespace Nu
noncomputable section
set_option maxHeartbeats 4000000
def aDZ : ByteArray := ⟨⟨0 :: 1 :: 2 :: 2 :: 3 :: 3 :: 3 :: 3 :: 4 :: 4 :: 4 :: 4 :: 4 :: 4 :: 4 :: 4 :: 5 :: 5 :: 5 :: 5 :: 5 :: 5 :: 5 :: 5 :: 5 :: 5 :: 5 :: 5 :: 5 :: 5 :: 5 :: 5 :: 6 :: 6 :: 6 :: 6 :: 6 :: 6 :: 6 :: 6 :: 6 :: 6 :: 6 :: 6 :: 6 :: 6 :: 6 :: 6 :: 6 :: 6 :: 6 :: 6 :: 6 :: 6 :: 6 :: 6 :: 6 :: 6 :: 6 :: 6 :: 6 :: 6 :: 6 :: 6 :: 7 :: 7 :: 7 :: 7 :: 7 :: 7 :: 7 :: 7 :: 7 :: 7 :: 7 :: 7 :: 7 :: 7 :: 7 :: 7 :: 7 :: 7 :: 7 :: 7 :: 7 :: 7 :: 7 :: 7 :: 7 :: 7 :: 7 :: 7 :: 7 :: 7 :: 7 :: 7 :: 7 :: 7 :: 7 :: 7 :: 7 :: 7 :: 7 :: 7 :: 7 :: 7 :: 7 :: 7 :: 7 :: 7 :: 7 :: 7 :: 7 :: 7 :: 7 :: 7 :: 7 :: 7 :: 7 :: 7 :: 7 :: 7 :: 7 :: 7 :: 7 :: 7 :: 7 :: 7 :: 8 :: 8 :: 8 :: 8 :: 8 :: 8 :: 8 :: 8 :: 8 :: 8 :: 8 :: 8 :: 8 :: 8 :: 8 :: 8 :: 8 :: 8 :: 8 :: 8 :: 8 :: 8 :: 8 :: 8 :: 8 :: 8 :: 8 :: 8 :: 8 :: 8 :: 8 :: 8 :: 8 :: 8 :: 8 :: 8 :: 8 :: 8 :: 8 :: 8 :: 8 :: 8 :: 8 :: 8 :: 8 :: 8 :: 8 :: 8 :: 8 :: 8 :: 8 :: 8 :: 8 :: 8 :: 8 :: 8 :: 8 :: 8 :: 8 :: 8 :: 8 :: 8 :: 8 :: 8 :: 8 :: 8 :: 8 :: 8 :: 8 :: 8 :: 8 :: 8 :: 8 :: 8 :: 8 :: 8 :: 8 :: 8 :: 8 :: 8 :: 8 :: 8 :: 8 :: 8 :: 8 :: 8 :: 8 :: 8 :: 8 :: 8 :: 8 :: 8 :: 8 :: 8 :: 8 :: 8 :: 8 :: 8 :: 8 :: 8 :: 8 :: 8 :: 8 :: 8 :: 8 :: 8 :: 8 :: 8 :: 8 :: 8 :: 8 :: 8 :: 8 :: 8 :: 8 :: 8 :: 8 :: 8 :: 8 :: 8 :: 8 :: 8 :: 8 :: 8 :: 8 :: 8 :: 8 :: 8 :: []⟩⟩
@[go_sem]theorem aOa : (⟨⟨0 :: 1 :: 2 :: 2 :: 3 :: 3 :: 3 :: 3 :: 4 :: 4 :: 4 :: 4 :: 4 :: 4 :: 4 :: 4 :: 5 :: 5 :: 5 :: 5 :: 5 :: 5 :: 5 :: 5 :: 5 :: 5 :: 5 :: 5 :: 5 :: 5 :: 5 :: 5 :: 6 :: 6 :: 6 :: 6 :: 6 :: 6 :: 6 :: 6 :: 6 :: 6 :: 6 :: 6 :: 6 :: 6 :: 6 :: 6 :: 6 :: 6 :: 6 :: 6 :: 6 :: 6 :: 6 :: 6 :: 6 :: 6 :: 6 :: 6 :: 6 :: 6 :: 6 :: 6 :: 7 :: 7 :: 7 :: 7 :: 7 :: 7 :: 7 :: 7 :: 7 :: 7 :: 7 :: 7 :: 7 :: 7 :: 7 :: 7 :: 7 :: 7 :: 7 :: 7 :: 7 :: 7 :: 7 :: 7 :: 7 :: 7 :: 7 :: 7 :: 7 :: 7 :: 7 :: 7 :: 7 :: 7 :: 7 :: 7 :: 7 :: 7 :: 7 :: 7 :: 7 :: 7 :: 7 :: 7 :: 7 :: 7 :: 7 :: 7 :: 7 :: 7 :: 7 :: 7 :: 7 :: 7 :: 7 :: 7 :: 7 :: 7 :: 7 :: 7 :: 7 :: 7 :: 7 :: 7 :: 8 :: 8 :: 8 :: 8 :: 8 :: 8 :: 8 :: 8 :: 8 :: 8 :: 8 :: 8 :: 8 :: 8 :: 8 :: 8 :: 8 :: 8 :: 8 :: 8 :: 8 :: 8 :: 8 :: 8 :: 8 :: 8 :: 8 :: 8 :: 8 :: 8 :: 8 :: 8 :: 8 :: 8 :: 8 :: 8 :: 8 :: 8 :: 8 :: 8 :: 8 :: 8 :: 8 :: 8 :: 8 :: 8 :: 8 :: 8 :: 8 :: 8 :: 8 :: 8 :: 8 :: 8 :: 8 :: 8 :: 8 :: 8 :: 8 :: 8 :: 8 :: 8 :: 8 :: 8 :: 8 :: 8 :: 8 :: 8 :: 8 :: 8 :: 8 :: 8 :: 8 :: 8 :: 8 :: 8 :: 8 :: 8 :: 8 :: 8 :: 8 :: 8 :: 8 :: 8 :: 8 :: 8 :: 8 :: 8 :: 8 :: 8 :: 8 :: 8 :: 8 :: 8 :: 8 :: 8 :: 8 :: 8 :: 8 :: 8 :: 8 :: 8 :: 8 :: 8 :: 8 :: 8 :: 8 :: 8 :: 8 :: 8 :: 8 :: 8 :: 8 :: 8 :: 8 :: 8 :: 8 :: 8 :: 8 :: 8 :: 8 :: 8 :: 8 :: 8 :: 8 :: 8 :: 8 :: 8 :: []⟩⟩ : ByteArray) = aDZ := rfl
def qB (F : Md) (x_6 : Nat) (n_7 : Int) : Option (Int) :=
 ck (0 ≤ (((x_6 % 256) : Nat) : Int) ∧ (((x_6 % 256) : Nat) : Int) < (((aP aDZ).length : Nat) : Int)) (ck (I64 (n_7 + ((((aP aDZ).getD (x_6 % 256) (0 : Nat)) : Nat) : Int))) (some (n_7 + ((((aP aDZ).getD (x_6 % 256) (0 : Nat)) : Nat) : Int))))
def qC (F : Md) (x_4 : Nat) (n_5 : Int) : Option (Int) :=
 if (256 : Nat) ≤ x_4 then ck (I64 (n_5 + (8 : Int))) (qB F (x_4 / (256 : Nat)) (n_5 + (8 : Int))) else qB F x_4 n_5
def qD (F : Md) (x_2 : Nat) (n_3 : Int) : Option (Int) :=
 if (65536 : Nat) ≤ x_2 then ck (I64 (n_3 + (16 : Int))) (qC F (x_2 / (65536 : Nat)) (n_3 + (16 : Int))) else qC F x_2 n_3
def wE (F : Md) (x_0 : Nat) : Option Int :=
 if (4294967296 : Nat) ≤ x_0 then qD F (x_0 / (4294967296 : Nat)) (32 : Int) else qD F x_0 (0 : Int)
def aGv : PlR := ⟨[(0, .A [0, 2]), (1, .A [0, 2, 4]), (2, .A [0]), (3, .A [0, 2]), (4, .A [0, 2, 8]), (5, .A [0, 2]), (6, .A [0, 2]), (7, .A [0, 2, 14]), (8, .A [0, 2]), (9, .A [0, 2]), (10, .A [2])], [(4, 7), (7, 10), (10, 13)]⟩
def aH2 : Ty := .pair qn .unit
def qM (F : Md) : aF := mSpec aH2 (.one qj) (fun x => wE F x.1)
abbrev aPL (F : Md) : List (FuncId × aF) := []
theorem aPM (F : Md) : bG Tryz.prog GL (aPL F) := .nil
attribute [go_sem] aH2 aGv
theorem aGw (F : Md) : FOK Tryz.prog GL 141 (qM F) := by
 refine bN (aS (aPM F)) mix Tryz.func141 rfl xAa xAb aGv fun w0 S x Θ hw h hF => ?_
 obtain ⟨(x_0 : Nat), u⟩ := x
 simp only [bQ, go_sem]
 replace h : sat (wE F x_0) _ := h
 unfold wE at h
 refine dU hF (D := Nat × Int) (fun d => sat (qD F d.1 d.2) Θ) [] (fun d => [(0, .val qn d.1), (2, .val qj d.2)]) (fun d => []) ?_ ?_
 ·simp only [go_sem]
  refine dR h (fun hc h => ?_) fun hc h => ?_
  ·exact aW ((x_0 / (4294967296 : Nat)), (32 : Int)) h rfl xAc
  ·exact aW (x_0, (0 : Int)) h rfl xAc
 ·rintro ⟨x_2, n_3⟩ h
  simp only [go_sem]
  replace h : sat (qD F x_2 n_3) _ := h
  unfold qD at h
  refine dU hF (D := Nat × Int) (fun d => sat (qC F d.1 d.2) Θ) [] (fun d => [(0, .val qn d.1), (2, .val qj d.2)]) (fun d => []) ?_ ?_
  ·simp only [go_sem]
   refine dR h (fun hc h => ?_) fun hc h => ?_
   ·refine aU h fun g0 h => ?_
    exact aW ((x_2 / (65536 : Nat)), (n_3 + (16 : Int))) h rfl xAc
   ·exact aW (x_2, n_3) h rfl xAc
  ·rintro ⟨x_4, n_5⟩ h
   simp only [go_sem]
   replace h : sat (qC F x_4 n_5) _ := h
   unfold qC at h
   refine dU hF (D := Nat × Int) (fun d => sat (qB F d.1 d.2) Θ) [] (fun d => [(0, .val qn d.1), (2, .val qj d.2)]) (fun d => []) ?_ ?_
   ·simp only [go_sem]
    refine dR h (fun hc h => ?_) fun hc h => ?_
    ·refine aU h fun g0 h => ?_
     exact aW ((x_4 / (256 : Nat)), (n_5 + (8 : Int))) h rfl xAc
    ·exact aW (x_4, n_5) h rfl xAc
   ·rintro ⟨x_6, n_7⟩ h
    simp only [go_sem]
    replace h : sat (qB F x_6 n_7) _ := h
    unfold qB at h
    refine aU h fun g0 h => aU h fun g1 h => ?_
    exact zaB
attribute [go_sem] qM
def bR (F : Md) (x_0 : Nat) : Option Int :=
 (wE F x_0).bind (fun v_5 => ck (I64 ((64 : Int) - v_5)) (some ((64 : Int) - v_5)))
def wF : PlR := ⟨[(0, .A [0]), (1, .A [2])], []⟩
def xO : Ty := .pair qn .unit
def dX (F : Md) : aF := mSpec xO (.one qj) (fun x => bR F x.1)
abbrev xP (F : Md) : List (FuncId × aF) := [(141, (qM F))]
theorem aEM (F : Md) : bG Tryz.prog GL (xP F) := .cons (aGw F) xAa (.nil)
attribute [go_sem] xO wF
theorem pQ (F : Md) : FOK Tryz.prog GL 120 (dX F) := by
 refine bN (aS (aEM F)) mix Tryz.func120 rfl xAa xAb wF fun w0 S x Θ hw h hF => ?_
 obtain ⟨(x_0 : Nat), u⟩ := x
 simp only [bQ, go_sem]
 replace h : sat (bR F x_0) _ := h
 unfold bR at h
 obtain ⟨v_5, hv, h⟩ := aJ h
 exact zaJ
attribute [go_sem] dX
def mF (F : Md) (x_0 : Nat) : Option Int :=
 if x_0 = (0 : Nat) then some (64 : Int) else ck (0 ≤ ((((mulM F .u64 (x_0 &&& (aPE F .u64 x_0)) (285870213051353865 : Nat)) / (288230376151711744 : Nat)) : Nat) : Int) ∧ ((((mulM F .u64 (x_0 &&& (aPE F .u64 x_0)) (285870213051353865 : Nat)) / (288230376151711744 : Nat)) : Nat) : Int) < (64 : Int)) (some (((aVy.getD ((mulM F .u64 (x_0 &&& (aPE F .u64 x_0)) (285870213051353865 : Nat)) / (288230376151711744 : Nat)) (0 : Nat)) : Nat) : Int))
def vE : PlR := ⟨[(0, .A [0]), (1, .A [0, 4]), (2, .A [2]), (3, .A [2])], []⟩
def wG : Ty := .pair qn .unit
def lI (F : Md) : aF := mSpec wG (.one qj) (fun x => mF F x.1)
abbrev aD0 (F : Md) : List (FuncId × aF) := []
theorem aD1 (F : Md) : bG Tryz.prog GL (aD0 F) := .nil
attribute [go_sem] wG vE
theorem aDf (F : Md) : FOK Tryz.prog GL 156 (lI F) := by
 refine bN (aS (aD1 F)) mix Tryz.func156 rfl xAa xAb vE fun w0 S x Θ hw h hF => ?_
 obtain ⟨(x_0 : Nat), u⟩ := x
 simp only [bQ, go_sem]
 replace h : sat (mF F x_0) _ := h
 unfold mF at h
 refine dR h (fun hc h => ?_) fun hc h => ?_
 ·exact aG hF [.tmp 2] rfl rfl rfl (aC h) xAf
 ·obtain ⟨g0, h⟩ := aL h
  repeat (refine ⟨by first | with_reducible assumption | omega | (intros; first | with_reducible assumption | omega) | (simp only [go_sem, bH F, bI F, bJ F] at *; first | with_reducible assumption | omega) | (intro _; exact ⟨rfl, by decide⟩) | (intro _; refine (?_ : _ = aE _); rfl) | (refine (?_ : _ = aE _); rfl) | exact ⟨rfl, rfl⟩ | decide, ?_⟩)
  exact aG hF [.tmp 2] rfl rfl rfl (aC h) (by (simp only [aR, go_sem, bH F, bI F, bJ F]) <;> first | rfl | (simp; done))
attribute [go_sem] lI
def aAS (F : Md) (x_0 : Nat) (y_1 : Nat) : Option (Nat × (Nat × Unit)) :=
 some ((((((mulM F .u64 (x_0 / (4294967296 : Nat)) (y_1 / (4294967296 : Nat))) + ((((mulM F .u64 (x_0 / (4294967296 : Nat)) (y_1 &&& (4294967295 : Nat))) + ((mulM F .u64 (x_0 &&& (4294967295 : Nat)) (y_1 &&& (4294967295 : Nat))) / (4294967296 : Nat))) % 18446744073709551616) / (4294967296 : Nat))) % 18446744073709551616) + (((((((mulM F .u64 (x_0 / (4294967296 : Nat)) (y_1 &&& (4294967295 : Nat))) + ((mulM F .u64 (x_0 &&& (4294967295 : Nat)) (y_1 &&& (4294967295 : Nat))) / (4294967296 : Nat))) % 18446744073709551616) &&& (4294967295 : Nat)) + (mulM F .u64 (x_0 &&& (4294967295 : Nat)) (y_1 / (4294967296 : Nat)))) % 18446744073709551616) / (4294967296 : Nat))) % 18446744073709551616), (mulM F .u64 x_0 y_1), ())
def aGx : PlR := ⟨[(0, .A [0, 1]), (1, .A [0, 1, 6]), (2, .A [0, 1, 6, 7]), (3, .A [0, 1, 6, 7, 8]), (4, .A [0, 1, 6, 7, 8, 9]), (5, .A [0, 1, 6, 7, 8, 9, 10]), (6, .A [0, 1, 6, 7, 9, 11]), (7, .A [0, 1, 6, 7, 9, 11, 12]), (8, .A [0, 1, 6, 7, 9, 12, 13]), (9, .A [0, 1, 7, 9, 12, 13]), (10, .A [0, 1, 4]), (11, .A [4, 5])], []⟩
def aH3 : Ty := .pair qn (.pair qn .unit)
def yW (F : Md) : aF := mSpec aH3 (.tup wb) (fun x => aAS F x.1 x.2.1)
abbrev aPN (F : Md) : List (FuncId × aF) := []
theorem aPO (F : Md) : bG Tryz.prog GL (aPN F) := .nil
attribute [go_sem] aH3 aGx
theorem aOb (F : Md) : FOK Tryz.prog GL 126 (yW F) := by
 refine bN (aS (aPO F)) mix Tryz.func126 rfl xAa xAb aGx fun w0 S x Θ hw h hF => ?_
 obtain ⟨(x_0 : Nat), (y_1 : Nat), u⟩ := x
 simp only [bQ, go_sem]
 replace h : sat (aAS F x_0 y_1) _ := h
 unfold aAS at h
 exact aG hF [.tmp 4, .tmp 5] rfl rfl rfl (aC h) xAf
attribute [go_sem] yW
def uG (F : Md) (x15_12 : Nat) (hi_0 : Nat) (v_7 : Int) (lo_1 : Nat) (y_2 : Nat) (x18_17 : Nat) : Option (Nat × (Nat × Unit)) :=
 some ((((mulM F .u64 x15_12 (4294967296 : Nat)) + x18_17) % 18446744073709551616), ((xL F .u64 (((mulM F .u64 (xL F .u64 (((mulM F .u64 (((hi_0 * (2 ^ (v_7 % (18446744073709551616 : Int)).toNat)) % 18446744073709551616) ||| (lo_1 / (2 ^ (xL F .u64 (64 : Nat) (v_7 % (18446744073709551616 : Int)).toNat)))) (4294967296 : Nat)) + (((lo_1 * (2 ^ (v_7 % (18446744073709551616 : Int)).toNat)) % 18446744073709551616) / (4294967296 : Nat))) % 18446744073709551616) (mulM F .u64 x15_12 ((y_2 * (2 ^ (v_7 % (18446744073709551616 : Int)).toNat)) % 18446744073709551616))) (4294967296 : Nat)) + (((lo_1 * (2 ^ (v_7 % (18446744073709551616 : Int)).toNat)) % 18446744073709551616) &&& (4294967295 : Nat))) % 18446744073709551616) (mulM F .u64 x18_17 ((y_2 * (2 ^ (v_7 % (18446744073709551616 : Int)).toNat)) % 18446744073709551616))) / (2 ^ (v_7 % (18446744073709551616 : Int)).toNat)), ())
def yH (F : Md) (lo_1 : Nat) (v_7 : Int) (y_2 : Nat) (rhat_18 : Nat) (x18_19 : Nat) : Option ((Nat × Nat) ⊕ (Nat)) :=
 if ((4294967296 : Nat) ≤ x18_19) ∨ ((((mulM F .u64 (4294967296 : Nat) rhat_18) + (((lo_1 * (2 ^ (v_7 % (18446744073709551616 : Int)).toNat)) % 18446744073709551616) &&& (4294967295 : Nat))) % 18446744073709551616) < (mulM F .u64 x18_19 (((y_2 * (2 ^ (v_7 % (18446744073709551616 : Int)).toNat)) % 18446744073709551616) &&& (4294967295 : Nat)))) then if (4294967296 : Nat) ≤ ((rhat_18 + (((y_2 * (2 ^ (v_7 % (18446744073709551616 : Int)).toNat)) % 18446744073709551616) / (4294967296 : Nat))) % 18446744073709551616) then some (.inr (xL F .u64 x18_19 (1 : Nat))) else some (.inl (((rhat_18 + (((y_2 * (2 ^ (v_7 % (18446744073709551616 : Int)).toNat)) % 18446744073709551616) / (4294967296 : Nat))) % 18446744073709551616), (xL F .u64 x18_19 (1 : Nat)))) else some (.inr x18_19)
def uH (F : Md) (y_2 : Nat) (v_7 : Int) (lo_1 : Nat) (hi_0 : Nat) (x15_12 : Nat) : Option (Nat × (Nat × Unit)) :=
 ck ((((y_2 * (2 ^ (v_7 % (18446744073709551616 : Int)).toNat)) % 18446744073709551616) / (4294967296 : Nat)) ≠ 0) ((dI F (fun d : Nat × Nat => yH F lo_1 v_7 y_2 d.1 d.2) ((xL F .u64 (xL F .u64 (((mulM F .u64 (((hi_0 * (2 ^ (v_7 % (18446744073709551616 : Int)).toNat)) % 18446744073709551616) ||| (lo_1 / (2 ^ (xL F .u64 (64 : Nat) (v_7 % (18446744073709551616 : Int)).toNat)))) (4294967296 : Nat)) + (((lo_1 * (2 ^ (v_7 % (18446744073709551616 : Int)).toNat)) % 18446744073709551616) / (4294967296 : Nat))) % 18446744073709551616) (mulM F .u64 x15_12 ((y_2 * (2 ^ (v_7 % (18446744073709551616 : Int)).toNat)) % 18446744073709551616))) (mulM F .u64 ((xL F .u64 (((mulM F .u64 (((hi_0 * (2 ^ (v_7 % (18446744073709551616 : Int)).toNat)) % 18446744073709551616) ||| (lo_1 / (2 ^ (xL F .u64 (64 : Nat) (v_7 % (18446744073709551616 : Int)).toNat)))) (4294967296 : Nat)) + (((lo_1 * (2 ^ (v_7 % (18446744073709551616 : Int)).toNat)) % 18446744073709551616) / (4294967296 : Nat))) % 18446744073709551616) (mulM F .u64 x15_12 ((y_2 * (2 ^ (v_7 % (18446744073709551616 : Int)).toNat)) % 18446744073709551616))) / (((y_2 * (2 ^ (v_7 % (18446744073709551616 : Int)).toNat)) % 18446744073709551616) / (4294967296 : Nat))) (((y_2 * (2 ^ (v_7 % (18446744073709551616 : Int)).toNat)) % 18446744073709551616) / (4294967296 : Nat)))), ((xL F .u64 (((mulM F .u64 (((hi_0 * (2 ^ (v_7 % (18446744073709551616 : Int)).toNat)) % 18446744073709551616) ||| (lo_1 / (2 ^ (xL F .u64 (64 : Nat) (v_7 % (18446744073709551616 : Int)).toNat)))) (4294967296 : Nat)) + (((lo_1 * (2 ^ (v_7 % (18446744073709551616 : Int)).toNat)) % 18446744073709551616) / (4294967296 : Nat))) % 18446744073709551616) (mulM F .u64 x15_12 ((y_2 * (2 ^ (v_7 % (18446744073709551616 : Int)).toNat)) % 18446744073709551616))) / (((y_2 * (2 ^ (v_7 % (18446744073709551616 : Int)).toNat)) % 18446744073709551616) / (4294967296 : Nat))))).bind (fun e => uG F x15_12 hi_0 v_7 lo_1 y_2 e))
def yI (F : Md) (lo_1 : Nat) (v_7 : Int) (y_2 : Nat) (x15_23 : Nat) (rhat_24 : Nat) : Option ((Nat × Nat) ⊕ (Nat)) :=
 if ((4294967296 : Nat) ≤ x15_23) ∨ ((((mulM F .u64 (4294967296 : Nat) rhat_24) + (((lo_1 * (2 ^ (v_7 % (18446744073709551616 : Int)).toNat)) % 18446744073709551616) / (4294967296 : Nat))) % 18446744073709551616) < (mulM F .u64 x15_23 (((y_2 * (2 ^ (v_7 % (18446744073709551616 : Int)).toNat)) % 18446744073709551616) &&& (4294967295 : Nat)))) then if (4294967296 : Nat) ≤ ((rhat_24 + (((y_2 * (2 ^ (v_7 % (18446744073709551616 : Int)).toNat)) % 18446744073709551616) / (4294967296 : Nat))) % 18446744073709551616) then some (.inr (xL F .u64 x15_23 (1 : Nat))) else some (.inl ((xL F .u64 x15_23 (1 : Nat)), ((rhat_24 + (((y_2 * (2 ^ (v_7 % (18446744073709551616 : Int)).toNat)) % 18446744073709551616) / (4294967296 : Nat))) % 18446744073709551616))) else some (.inr x15_23)
def aAT (F : Md) (hi_0 : Nat) (lo_1 : Nat) (y_2 : Nat) : Option (Nat × (Nat × Unit)) :=
 if y_2 = (0 : Nat) then none else if y_2 ≤ hi_0 then none else if hi_0 = (0 : Nat) then ck (y_2 ≠ 0) (ck (y_2 ≠ 0) (some ((lo_1 / y_2), (lo_1 % y_2), ()))) else (bR F y_2).bind (fun v_7 => ck ((((y_2 * (2 ^ (v_7 % (18446744073709551616 : Int)).toNat)) % 18446744073709551616) / (4294967296 : Nat)) ≠ 0) ((dI F (fun d : Nat × Nat => yI F lo_1 v_7 y_2 d.1 d.2) (((((hi_0 * (2 ^ (v_7 % (18446744073709551616 : Int)).toNat)) % 18446744073709551616) ||| (lo_1 / (2 ^ (xL F .u64 (64 : Nat) (v_7 % (18446744073709551616 : Int)).toNat)))) / (((y_2 * (2 ^ (v_7 % (18446744073709551616 : Int)).toNat)) % 18446744073709551616) / (4294967296 : Nat))), (xL F .u64 (((hi_0 * (2 ^ (v_7 % (18446744073709551616 : Int)).toNat)) % 18446744073709551616) ||| (lo_1 / (2 ^ (xL F .u64 (64 : Nat) (v_7 % (18446744073709551616 : Int)).toNat)))) (mulM F .u64 ((((hi_0 * (2 ^ (v_7 % (18446744073709551616 : Int)).toNat)) % 18446744073709551616) ||| (lo_1 / (2 ^ (xL F .u64 (64 : Nat) (v_7 % (18446744073709551616 : Int)).toNat)))) / (((y_2 * (2 ^ (v_7 % (18446744073709551616 : Int)).toNat)) % 18446744073709551616) / (4294967296 : Nat))) (((y_2 * (2 ^ (v_7 % (18446744073709551616 : Int)).toNat)) % 18446744073709551616) / (4294967296 : Nat)))))).bind (fun e => uH F y_2 v_7 lo_1 hi_0 e)))
def aGy : PlR := ⟨[(0, .A [0, 1, 2]), (1, .A [0, 1, 2, 20]), (2, .stop), (3, .A [0, 1, 2, 24]), (4, .stop), (5, .A [0, 1, 2, 27]), (6, .A [6, 7]), (7, .A [0, 1, 2, 8]), (8, .A [0, 1, 2, 8]), (9, .A [0, 1, 2, 8, 9]), (10, .A [0, 1, 2, 8, 9, 10]), (11, .A [1, 2, 8, 9, 10, 11]), (12, .A [2, 8, 9, 10, 11, 12]), (13, .A [2, 8, 9, 10, 11, 12, 13]), (14, .A [2, 8, 9, 10, 11, 13, 14]), (15, .A [2, 8, 9, 10, 11, 13, 14, 15]), (16, .A [2, 8, 9, 10, 11, 13, 14, 15, 16]), (17, .A [2, 8, 9, 10, 11, 13, 14, 15, 16, 78]), (18, .A [2, 8, 9, 10, 11, 13, 14, 15, 16]), (19, .A [2, 8, 9, 10, 11, 13, 14, 15, 16]), (20, .A [2, 8, 9, 10, 11, 13, 14, 15, 16, 85]), (21, .A [2, 8, 9, 10, 14, 15, 17]), (22, .A [2, 8, 9, 10, 14, 15, 17, 18]), (23, .A [2, 8, 9, 10, 14, 15, 16, 17, 18]), (24, .A [2, 8, 9, 10, 14, 15, 16, 17, 18, 113]), (25, .A [2, 8, 9, 10, 14, 15, 16, 17, 18]), (26, .A [2, 8, 9, 10, 14, 15, 16, 17, 18]), (27, .A [2, 8, 9, 10, 14, 15, 16, 17, 18, 120]), (28, .A [6, 7])], [(20, 24), (27, 31)]⟩
def aH4 : Ty := .pair qn wb
def yX (F : Md) : aF := mSpec aH4 (.tup wb) (fun x => aAT F x.1 x.2.1 x.2.2.1)
abbrev aH5 (F : Md) : List (FuncId × aF) := [(120, (dX F))]
theorem aPP (F : Md) : bG Tryz.prog GL (aH5 F) := .cons (pQ F) xAa (.nil)
attribute [go_sem] aH4 aGy
theorem aOc (F : Md) : FOK Tryz.prog GL 148 (yX F) := by
 refine bN (aS (aPP F)) mix Tryz.func148 rfl xAa xAb aGy fun w0 S x Θ hw h hF => ?_
 obtain ⟨(hi_0 : Nat), (lo_1 : Nat), (y_2 : Nat), u⟩ := x
 simp only [bQ, go_sem]
 replace h : sat (aAT F hi_0 lo_1 y_2) _ := h
 unfold aAT at h
 refine dR h (fun hc h => ?_) fun hc h => ?_
 ·exact aDe h
 ·refine dR h (fun hc h => ?_) fun hc h => ?_
  ·exact aDe h
  ·refine dR h (fun hc h => ?_) fun hc h => ?_
   ·refine aU h fun g0 h => aU h fun g1 h => ?_
    exact aG hF [.tmp 6, .tmp 7] rfl rfl rfl (aC h) xAf
   ·obtain ⟨v_7, hv, h⟩ := aJ h
    try simp only [hv, go_sem, bH F, bI F, bJ F]
    refine aU h fun g0 h => ?_
    refine dU hF (D := Nat) (fun d => sat (uH F y_2 v_7 lo_1 hi_0 d) Θ) [2, 8, 9, 10, 11, 13, 14] (fun d => [(15, .val qn d)]) (fun d => []) ?_ ?_
    ·simp only [go_sem, bH F, bI F, bJ F]
     refine cI hF (D := Nat × Nat) [2, 8, 9, 10, 11, 13, 14] (fun d => [(15, .val qn d.1), (16, .val qn d.2)]) (fun d => []) h rfl xAe ?_
     rintro ⟨x15_23, rhat_24⟩ A17 T17 hA17 hE17 h
     simp only [go_sem, bH F, bI F, bJ F]
     replace h : sat (yI F lo_1 v_7 y_2 x15_23 rhat_24) _ := h
     unfold yI at h
     refine ⟨fun hc => ?_, fun hc => ?_⟩
     ·replace h := jA hc h
      refine dR h (fun hc h => ?_) fun hc h => ?_
      ·replace h := yaF (hE17 _ (aC h))
       exact aW (xL F .u64 x15_23 (1 : Nat)) h rfl xAe
      ·replace h := hA17 _ (aC h)
       exact aW _ h rfl xAe
     ·replace h := jB hc h
      replace h := yaF (hE17 _ (aC h))
      exact aW (x15_23) h rfl xAe
    ·rintro x15_12 h
     simp only [go_sem, bH F, bI F, bJ F]
     replace h : sat (uH F y_2 v_7 lo_1 hi_0 x15_12) _ := h
     unfold uH at h
     refine aU h fun g0 h => ?_
     refine dU hF (D := Nat) (fun d => sat (uG F x15_12 hi_0 v_7 lo_1 y_2 d) Θ) [2, 8, 14, 15, 17] (fun d => [(18, .val qn d)]) (fun d => []) ?_ ?_
     ·simp only [go_sem, bH F, bI F, bJ F]
      refine cI hF (D := Nat × Nat) [2, 8, 9, 10, 14, 15, 17] (fun d => [(16, .val qn d.1), (18, .val qn d.2)]) (fun d => []) h rfl xAe ?_
      rintro ⟨rhat_18, x18_19⟩ A24 T24 hA24 hE24 h
      simp only [go_sem, bH F, bI F, bJ F]
      replace h : sat (yH F lo_1 v_7 y_2 rhat_18 x18_19) _ := h
      unfold yH at h
      refine ⟨fun hc => ?_, fun hc => ?_⟩
      ·replace h := jA hc h
       refine dR h (fun hc h => ?_) fun hc h => ?_
       ·replace h := yaF (hE24 _ (aC h))
        exact aW (xL F .u64 x18_19 (1 : Nat)) h rfl xAe
       ·replace h := hA24 _ (aC h)
        exact aW _ h rfl xAe
      ·replace h := jB hc h
       replace h := yaF (hE24 _ (aC h))
       exact aW (x18_19) h rfl xAe
     ·rintro x18_17 h
      simp only [go_sem, bH F, bI F, bJ F]
      replace h : sat (uG F x15_12 hi_0 v_7 lo_1 y_2 x18_17) _ := h
      unfold uG at h
      exact aG hF [.tmp 6, .tmp 7] rfl rfl rfl (aC h) xAf
attribute [go_sem] yX
def aF9 (F : Md) (a_0 : qI) : Option Bool :=
 ck (¬ ((a_0.length : Int) = (0 : Int)) → ((a_0.length : Int) ≤ (64 : Int)) → (I64 ((a_0.length : Int) - (1 : Int)))) (ck (¬ ((a_0.length : Int) = (0 : Int)) → ((a_0.length : Int) ≤ (64 : Int)) → (0 ≤ ((a_0.length : Int) - (1 : Int)) ∧ ((a_0.length : Int) - (1 : Int)) < (a_0.length : Int))) (some ((decide ((a_0.length : Int) = (0 : Int))) || ((decide ((a_0.length : Int) ≤ (64 : Int))) && (!(decide ((a_0.getD ((a_0.length : Int) - (1 : Int)).toNat (0 : Nat)) = (0 : Nat))))))))
def aMR : PlR := ⟨[(0, .A [0]), (1, .A [2])], []⟩
def aO7 : Ty := .pair qs .unit
def aD2 (F : Md) : aF := mSpec aO7 (.one .bool) (fun x => aF9 F x.1)
abbrev aTZ (F : Md) : List (FuncId × aF) := []
theorem aT0 (F : Md) : bG Tryz.prog GL (aTZ F) := .nil
attribute [go_sem] aO7 aMR
theorem aRX (F : Md) : FOK Tryz.prog GL 133 (aD2 F) := by
 refine bN (aS (aT0 F)) mix Tryz.func133 rfl xAa xAb aMR fun w0 S x Θ hw h hF => ?_
 obtain ⟨(a_0 : qI), u⟩ := x
 simp only [bQ, go_sem]
 replace h : sat (aF9 F a_0) _ := h
 unfold aF9 at h
 obtain ⟨g0, h⟩ := aL h
 obtain ⟨g1, h⟩ := aL h
 try simp only [I64, I32] at g0
 repeat (refine ⟨by first | with_reducible assumption | omega | (intros; first | with_reducible assumption | omega) | (simp only [go_sem] at *; first | with_reducible assumption | omega) | (intro _; exact ⟨rfl, by decide⟩) | (intro _; refine (?_ : _ = aE _); rfl) | (refine (?_ : _ = aE _); rfl) | exact ⟨rfl, rfl⟩ | (intro q0 q1; (try have e0 := g0 (by first | exact q0 | omega | (simpa using q0)) (by first | exact q1 | omega | (simpa using q1))); (try have e1 := g1 (by first | exact q0 | omega | (simpa using q0)) (by first | exact q1 | omega | (simpa using q1))); first | assumption | omega) | (rintro ⟨q0, q1⟩; (try have e0 := g0 (by first | exact q0 | omega | (simpa using q0)) (by first | exact q1 | omega | (simpa using q1))); (try have e1 := g1 (by first | exact q0 | omega | (simpa using q0)) (by first | exact q1 | omega | (simpa using q1))); first | assumption | omega) | decide, ?_⟩)
 exact zaB
attribute [go_sem] aD2
def aCJ (F : Md) (a_4 : qI) : Option (qI ⊕ qI) :=
 ck (((0 : Int) < (a_4.length : Int)) → (I64 ((a_4.length : Int) - (1 : Int)))) (ck (((0 : Int) < (a_4.length : Int)) → (0 ≤ ((a_4.length : Int) - (1 : Int)) ∧ ((a_4.length : Int) - (1 : Int)) < (a_4.length : Int))) (if ((0 : Int) < (a_4.length : Int)) ∧ ((a_4.getD ((a_4.length : Int) - (1 : Int)).toNat (0 : Nat)) = (0 : Nat)) then ck (I64 ((a_4.length : Int) - (1 : Int))) (ck (0 ≤ ((a_4.length : Int) - (1 : Int)) ∧ ((a_4.length : Int) - (1 : Int)) ≤ (a_4.length : Int)) (some (.inl (List.take ((a_4.length : Int) - (1 : Int)).toNat a_4)))) else some (.inr a_4)))
def iO (F : Md) (a_0 : qI) : Option qI :=
 (dI F (fun d : qI => aCJ F d) a_0).bind (fun e => some e)
def aKm : PlR := ⟨[(0, .A [0]), (1, .A [0, 14]), (2, .A [0]), (3, .A [2])], []⟩
def aMS : Ty := .pair qs .unit
def fC (F : Md) : aF := mSpec aMS (.one qs) (fun x => iO F x.1)
abbrev aRY (F : Md) : List (FuncId × aF) := []
theorem aRZ (F : Md) : bG Tryz.prog GL (aRY F) := .nil
attribute [go_sem] aMS aKm
theorem rO (F : Md) : FOK Tryz.prog GL 124 (fC F) := by
 refine bN (aS (aRZ F)) mix Tryz.func124 rfl xAa xAb aKm fun w0 S x Θ hw h hF => ?_
 obtain ⟨(a_0 : qI), u⟩ := x
 simp only [bQ, go_sem]
 replace h : sat (iO F a_0) _ := h
 unfold iO at h
 refine cI hF (D := qI) [] (fun d => [(0, .val qs d)]) (fun d => []) h rfl xAc ?_
 rintro a_4 A1 T1 hA1 hE1 h
 simp only [go_sem]
 replace h : sat (aCJ F a_4) _ := h
 unfold aCJ at h
 refine aU h fun g0 h => aU h fun g1 h => ?_
 refine ⟨fun hc => ?_, fun hc => ?_⟩
 ·replace h := jA hc h
  refine aU h fun g0 h => aU h fun g1 h => ?_
  replace h := hA1 _ (aC h)
  exact zaF
 ·replace h := jB hc h
  replace h := yaF (hE1 _ (aC h))
  exact zaB
attribute [go_sem] fC
def aBy (F : Md) (less_0 : Bool) : Option Int :=
 if less_0 = true then some (-1 : Int) else some (1 : Int)
def aKn : PlR := ⟨[(0, .A [0]), (1, .A [3]), (2, .A [2]), (3, .A [2])], []⟩
def aMT : Ty := .pair .bool .unit
def aCe (F : Md) : aF := mSpec aMT (.one qj) (fun x => aBy F x.1)
abbrev aR0 (F : Md) : List (FuncId × aF) := []
theorem aR1 (F : Md) : bG Tryz.prog GL (aR0 F) := .nil
attribute [go_sem] aMT aKn
theorem aQW (F : Md) : FOK Tryz.prog GL 139 (aCe F) := by
 refine bN (aS (aR1 F)) mix Tryz.func139 rfl xAa xAb aKn fun w0 S x Θ hw h hF => ?_
 obtain ⟨(less_0 : Bool), u⟩ := x
 simp only [bQ, go_sem]
 replace h : sat (aBy F less_0) _ := h
 unfold aBy at h
 exact zaS
attribute [go_sem] aCe
def aBz (F : Md) (a_0 : qI) (b_1 : qI) (i_20 : Int) : Option ((Int) ⊕ ((Unit) ⊕ Int)) :=
 if (0 : Int) ≤ i_20 then ck (0 ≤ i_20 ∧ i_20 < (a_0.length : Int)) (ck (0 ≤ i_20 ∧ i_20 < (b_1.length : Int)) (if ¬ ((a_0.getD (i_20.toNat) (0 : Nat)) = (b_1.getD (i_20.toNat) (0 : Nat))) then ck (0 ≤ i_20 ∧ i_20 < (a_0.length : Int)) (ck (0 ≤ i_20 ∧ i_20 < (b_1.length : Int)) ((aBy F (decide ((a_0.getD (i_20.toNat) (0 : Nat)) < (b_1.getD (i_20.toNat) (0 : Nat))))).bind (fun v_33 => some (.inr (.inr v_33))))) else ck (I64 (i_20 - (1 : Int))) (some (.inl (i_20 - (1 : Int)))))) else some (.inr (.inl ()))
def rP (F : Md) (a_0 : qI) (b_1 : qI) : Option Int :=
 if ¬ ((a_0.length : Int) = (b_1.length : Int)) then (aBy F (decide ((a_0.length : Int) < (b_1.length : Int)))).bind (fun v_8 => some v_8) else ck (I64 ((a_0.length : Int) - (1 : Int))) ((dI F (fun d : Int => aBz F a_0 b_1 d) ((a_0.length : Int) - (1 : Int))).bind (fun e => match e with | (.inl e) => some (0 : Int) | (.inr e) => some e))
def aH6 : PlR := ⟨[(0, .A [0, 1]), (1, .A [0, 1, 10]), (2, .A [4]), (3, .A [0, 1, 5]), (4, .A [0, 1, 5, 21]), (5, .A [0, 1, 5]), (6, .A [0, 1, 5, 32]), (7, .A [4]), (8, .A [4])], []⟩
def aKo : Ty := .pair qs (.pair qs .unit)
def oC (F : Md) : aF := mSpec aKo (.one qj) (fun x => rP F x.1 x.2.1)
abbrev aKp (F : Md) : List (FuncId × aF) := [(139, (aCe F))]
theorem aQX (F : Md) : bG Tryz.prog GL (aKp F) := .cons (aQW F) xAa (.nil)
attribute [go_sem] aKo aH6
theorem aD3 (F : Md) : FOK Tryz.prog GL 100 (oC F) := by
 refine bN (aS (aQX F)) mix Tryz.func100 rfl xAa xAb aH6 fun w0 S x Θ hw h hF => ?_
 obtain ⟨(a_0 : qI), (b_1 : qI), u⟩ := x
 simp only [bQ, go_sem]
 replace h : sat (rP F a_0 b_1) _ := h
 unfold rP at h
 refine dR h (fun hc h => ?_) fun hc h => ?_
 ·obtain ⟨v_8, hv, h⟩ := aJ h
  exact zaP
 ·refine aU h fun g0 h => ?_
  refine cI hF (D := Int) [0, 1] (fun d => [(5, .val qj d)]) (fun d => []) h rfl xAc ?_
  rintro i_20 A4 T4 hA4 hE4 h
  simp only [go_sem]
  replace h : sat (aBz F a_0 b_1 i_20) _ := h
  unfold aBz at h
  refine aPF h (fun hc h => ?_) fun hc h => ?_
  ·refine aU h fun g0 h => aU h fun g1 h => ?_
   refine dR h (fun hc h => ?_) fun hc h => ?_
   ·refine aU h fun g0 h => aU h fun g1 h => ?_
    obtain ⟨v_33, hv, h⟩ := aJ h
    try simp only [hv, go_sem]
    replace h := yaF (hE4 _ (aC h))
    exact zaA
   ·refine aU h fun g0 h => ?_
    replace h := hA4 _ (aC h)
    exact zaF
  ·replace h := yaF (hE4 _ (aC h))
   exact zaA
attribute [go_sem] oC
def aBA (F : Md) (a_0 : qI) : Option Int :=
 if (a_0.length : Int) = (0 : Int) then some (0 : Int) else ck (I64 ((64 : Int) * (a_0.length : Int))) (ck (I64 ((a_0.length : Int) - (1 : Int))) (ck (0 ≤ ((a_0.length : Int) - (1 : Int)) ∧ ((a_0.length : Int) - (1 : Int)) < (a_0.length : Int)) ((bR F (a_0.getD ((a_0.length : Int) - (1 : Int)).toNat (0 : Nat))).bind (fun v_5 => ck (I64 (((64 : Int) * (a_0.length : Int)) - v_5)) (some (((64 : Int) * (a_0.length : Int)) - v_5))))))
def aKq : PlR := ⟨[(0, .A [0]), (1, .A [0, 5]), (2, .A [2]), (3, .A [2])], []⟩
def aMU : Ty := .pair qs .unit
def aCf (F : Md) : aF := mSpec aMU (.one qj) (fun x => aBA F x.1)
abbrev aMV (F : Md) : List (FuncId × aF) := [(120, (dX F))]
theorem aR2 (F : Md) : bG Tryz.prog GL (aMV F) := .cons (pQ F) xAa (.nil)
attribute [go_sem] aMU aKq
theorem aQY (F : Md) : FOK Tryz.prog GL 134 (aCf F) := by
 refine bN (aS (aR2 F)) mix Tryz.func134 rfl xAa xAb aKq fun w0 S x Θ hw h hF => ?_
 obtain ⟨(a_0 : qI), u⟩ := x
 simp only [bQ, go_sem]
 replace h : sat (aBA F a_0) _ := h
 unfold aBA at h
 refine dR h (fun hc h => ?_) fun hc h => ?_
 ·exact aG hF [.tmp 2] rfl rfl rfl (aC h) xAd
 ·refine aU h fun g0 h => aU h fun g1 h => aU h fun g2 h => ?_
  obtain ⟨v_5, hv, h⟩ := aJ h
  exact zaJ
attribute [go_sem] aCf
def aBB (F : Md) (a_0 : qI) (x7_10 : Int) : Option ((Int) ⊕ ((Unit) ⊕ Int)) :=
 if x7_10 < (a_0.length : Int) then ck (0 ≤ x7_10 ∧ x7_10 < (a_0.length : Int)) (if ¬ ((a_0.getD (x7_10.toNat) (0 : Nat)) = (0 : Nat)) then ck (I64 ((64 : Int) * x7_10)) ((mF F (a_0.getD (x7_10.toNat) (0 : Nat))).bind (fun v_19 => ck (I64 (((64 : Int) * x7_10) + v_19)) (some (.inr (.inr (((64 : Int) * x7_10) + v_19)))))) else ck (I64 (x7_10 + (1 : Int))) (some (.inl (x7_10 + (1 : Int))))) else some (.inr (.inl ()))
def dY (F : Md) (a_0 : qI) : Option Int :=
 (dI F (fun d : Int => aBB F a_0 d) (0 : Int)).bind (fun e => match e with | (.inl e) => some (-1 : Int) | (.inr e) => some e)
def aH7 : PlR := ⟨[(0, .A [0]), (1, .A [5, 6, 7]), (2, .A [5, 6, 7, 8]), (3, .A [3, 4, 5, 6, 7]), (4, .A [3, 4, 5, 6, 7, 13]), (5, .A [2]), (6, .A [5, 6, 7]), (7, .A [2])], []⟩
def aKr : Ty := .pair qs .unit
def aAU (F : Md) : aF := mSpec aKr (.one qj) (fun x => dY F x.1)
abbrev aKs (F : Md) : List (FuncId × aF) := [(156, (lI F))]
theorem aQZ (F : Md) : bG Tryz.prog GL (aKs F) := .cons (aDf F) xAa (.nil)
attribute [go_sem] aKr aH7
theorem aPQ (F : Md) : FOK Tryz.prog GL 151 (aAU F) := by
 refine bN (aS (aQZ F)) mix Tryz.func151 rfl xAa xAb aH7 fun w0 S x Θ hw h hF => ?_
 obtain ⟨(a_0 : qI), u⟩ := x
 simp only [bQ, go_sem]
 replace h : sat (dY F a_0) _ := h
 unfold dY at h
 refine cI hF (D := Int) [5, 6] (fun d => [(7, .val qj d)]) (fun d => []) h rfl xAc ?_
 rintro x7_10 A2 T2 hA2 hE2 h
 simp only [go_sem]
 replace h : sat (aBB F a_0 x7_10) _ := h
 unfold aBB at h
 refine fZ h (fun hc h => ?_) fun hc h => ?_
 ·refine aU h fun g0 h => ?_
  refine dR h (fun hc h => ?_) fun hc h => ?_
  ·refine aU h fun g0 h => ?_
   obtain ⟨v_19, hv, h⟩ := aJ h
   try simp only [hv, go_sem]
   refine aU h fun g0 h => ?_
   replace h := yaF (hE2 _ (aC h))
   exact zaB
  ·refine aU h fun g0 h => ?_
   replace h := hA2 _ (aC h)
   exact zaF
 ·replace h := yaF (hE2 _ (aC h))
  exact zaB
attribute [go_sem] aAU
def aBC (F : Md) (a_0 : qI) : Option qI :=
 (iO F a_0).bind (fun v_3 => ck (aVB v_3) (some (id v_3)))
def aKt : PlR := ⟨[(0, .A [0]), (1, .B [2])], []⟩
def aMX : Ty := .pair qs .unit
def vF (F : Md) : aF := mSpec aMX (.one qs) (fun x => aBC F x.1)
abbrev aHf (F : Md) : List (FuncId × aF) := [(118, cJ), (124, (fC F))]
theorem aR3 (F : Md) : bG Tryz.prog GL (aHf F) := .cons mE xAa (.cons (rO F) xAa (.nil))
attribute [go_sem] aMX aKt
theorem aKu (F : Md) : FOK Tryz.prog GL 129 (vF F) := by
 refine bN (aS (aR3 F)) mix Tryz.func129 rfl xAa xAb aKt fun w0 S x Θ hw h hF => ?_
 obtain ⟨(a_0 : qI), u⟩ := x
 simp only [bQ, go_sem]
 replace h : sat (aBC F a_0) _ := h
 unfold aBC at h
 obtain ⟨v_3, hv, h⟩ := aJ h
 exact zaJ
attribute [go_sem] vF
def tI (F : Md) (x22_13 : Int) (out_14 : qI) (carry_12 : Nat) (x_21 : Nat) : Option ((Nat × Int × qI) ⊕ qI) :=
 ck (0 ≤ x22_13 ∧ x22_13 < (out_14.length : Int)) (ck (aPJ (out_14.getD (x22_13.toNat) (0 : Nat)) x_21 carry_12) (ck (0 ≤ x22_13 ∧ x22_13 < (out_14.length : Int)) (ck (I64 (x22_13 + (1 : Int))) (some (.inl ((aDY (out_14.getD (x22_13.toNat) (0 : Nat)) x_21 carry_12).2.1, (x22_13 + (1 : Int)), (out_14.set (x22_13.toNat) (aDY (out_14.getD (x22_13.toNat) (0 : Nat)) x_21 carry_12).1)))))))
def aCK (F : Md) (a_3 : qI) (b_4 : qI) (carry_12 : Nat) (x22_13 : Int) (out_14 : qI) : Option ((Nat × Int × qI) ⊕ qI) :=
 if x22_13 < ((((id a_3) ++ ([0] : List Nat)).length : Nat) : Int) then if x22_13 < (b_4.length : Int) then ck (0 ≤ x22_13 ∧ x22_13 < (b_4.length : Int)) (tI F x22_13 out_14 carry_12 (b_4.getD (x22_13.toNat) (0 : Nat))) else if carry_12 = (0 : Nat) then some (.inr out_14) else tI F x22_13 out_14 carry_12 (0 : Nat) else some (.inr out_14)
def tJ (F : Md) (a_3 : qI) (b_4 : qI) : Option qI :=
 ck (aVB a_3) (ck (((id a_3).length + (1 : Nat)) * 8 ≤ 140737488355328) ((dI F (fun d : Nat × Int × qI => aCK F a_3 b_4 d.1 d.2.1 d.2.2) ((0 : Nat), (0 : Int), ((id a_3) ++ ([0] : List Nat)))).bind (fun e => (iO F e).bind (fun v_27 => some v_27))))
def aD4 (F : Md) (a_0 : qI) (b_1 : qI) : Option qI :=
 if (a_0.length : Int) < (b_1.length : Int) then tJ F b_1 a_0 else tJ F a_0 b_1
def aKv : PlR := ⟨[(0, .A [0, 1]), (1, .A [0, 1, 13]), (2, .A [0, 1]), (3, .B [1, 5]), (4, .A [1, 5, 6]), (5, .A [1, 5, 6, 21, 22]), (6, .A [1, 5, 6, 21, 22, 23]), (7, .A [1, 5, 6, 7, 21, 22]), (8, .A [1, 5, 6, 7, 8, 21, 22]), (9, .A [1, 5, 6, 7, 8, 21, 22, 25]), (10, .A [1, 5, 6, 7, 8, 21, 22]), (11, .A [1, 5, 6, 7, 8, 21, 22, 34]), (12, .B [1, 5, 6, 21, 22]), (13, .A [1, 5, 6, 21, 22]), (14, .B [4])], [(4, 6), (12, 15)]⟩
def aM0 : Ty := .pair qs (.pair qs .unit)
def aCg (F : Md) : aF := mSpec aM0 (.one qs) (fun x => aD4 F x.1 x.2.1)
abbrev aD5 (F : Md) : List (FuncId × aF) := [(118, cJ), (124, (fC F)), (127, qL)]
theorem aR4 (F : Md) : bG Tryz.prog GL (aD5 F) := .cons mE xAa (.cons (rO F) xAa (.nat aGu (.nil)))
attribute [go_sem] aM0 aKv
theorem aQ0 (F : Md) : FOK Tryz.prog GL 128 (aCg F) := by
 refine bN (aS (aR4 F)) mix Tryz.func128 rfl xAa xAb aKv fun w0 S x Θ hw h hF => ?_
 obtain ⟨(a_0 : qI), (b_1 : qI), u⟩ := x
 simp only [bQ, go_sem]
 replace h : sat (aD4 F a_0 b_1) _ := h
 unfold aD4 at h
 refine dU hF (D := qI × qI) (fun d => sat (tJ F d.1 d.2) Θ) [] (fun d => [(0, .val qs d.1), (1, .val qs d.2)]) (fun d => []) ?_ ?_
 ·simp only [go_sem]
  refine fZ h (fun hc h => ?_) fun hc h => ?_
  ·exact aW (b_1, a_0) h rfl xAc
  ·exact aW (a_0, b_1) h rfl xAc
 ·rintro ⟨a_3, b_4⟩ h
  simp only [go_sem]
  replace h : sat (tJ F a_3 b_4) _ := h
  unfold tJ at h
  refine aU h fun g0 h => ?_
  obtain ⟨g0, h⟩ := aL h
  repeat (refine ⟨by omega, ?_⟩)
  refine aAO [1] rfl rfl (yaA ?_)
  refine cI hF (D := Nat × Int × qI) [1, 21] (fun d => [(5, .own 0), (6, .val qn d.1), (22, .val qj d.2.1)]) (fun d => [.inr (.row 144 qn d.2.2)]) h rfl xAc ?_
  rintro ⟨carry_12, x22_13, out_14⟩ A6 T6 hA6 hE6 h
  simp only [go_sem]
  replace h : sat (aCK F a_3 b_4 carry_12 x22_13 out_14) _ := h
  unfold aCK at h
  refine fZ h (fun hc h => ?_) fun hc h => ?_
  ·refine dU hF (D := Nat) (fun d => sat (tI F x22_13 out_14 carry_12 d) T6) [1, 6, 7, 21, 22] (fun d => [(5, .own 0), (8, .val qn d)]) (fun d => [.inr (.row 144 qn out_14)]) ?_ ?_
   ·simp only [go_sem]
    refine fZ h (fun hc h => ?_) fun hc h => ?_
    ·obtain ⟨g0, h⟩ := aL h
     repeat (refine ⟨by omega, ?_⟩)
     exact aW (b_4.getD (x22_13.toNat) (0 : Nat)) h rfl xAc
    ·refine dR h (fun hc h => ?_) fun hc h => ?_
     ·replace h := yaF (hE6 _ (aC h))
      obtain ⟨v_23, hv, h⟩ := aJ h
      exact zaP
     ·exact aW (0 : Nat) h rfl xAc
   ·rintro x_21 h
    simp only [go_sem]
    replace h : sat (tI F x22_13 out_14 carry_12 x_21) _ := h
    unfold tI at h
    obtain ⟨g0, h⟩ := aL h
    repeat (refine ⟨by omega, ?_⟩)
    obtain ⟨g0, h⟩ := aL h
    repeat (refine ⟨by omega, ?_⟩)
    obtain ⟨g0, h⟩ := aL h
    repeat (refine ⟨by omega, ?_⟩)
    refine aU h fun g0 h => ?_
    replace h := hA6 _ (aC h)
    exact zaF
  ·replace h := yaF (hE6 _ (aC h))
   obtain ⟨v_25, hv, h⟩ := aJ h
   exact zaP
attribute [go_sem] aCg
def wH (F : Md) (x22_46 : Int) (b_1 : qI) (carry_86 : Nat) (out_87 : qI) : Option ((Int × qI) ⊕ qI) :=
 ck (I64 (x22_46 + (b_1.length : Int))) (ck (0 ≤ (x22_46 + (b_1.length : Int)) ∧ (x22_46 + (b_1.length : Int)) < (out_87.length : Int)) (ck (I64 (x22_46 + (1 : Int))) (some (.inl ((x22_46 + (1 : Int)), (out_87.set (x22_46 + (b_1.length : Int)).toNat carry_86))))))
def aBD (F : Md) (b_1 : qI) (a_0 : qI) (x22_46 : Int) (carry_90 : Nat) (x29_91 : Int) (out_92 : qI) : Option ((Nat × Int × qI) ⊕ (Nat × qI)) :=
 if x29_91 < (b_1.length : Int) then ck (0 ≤ x29_91 ∧ x29_91 < (b_1.length : Int)) ((aAS F (a_0.getD (x22_46.toNat) (0 : Nat)) (b_1.getD (x29_91.toNat) (0 : Nat))).bind (fun v_105 => ck (aPJ v_105.2.1 carry_90 (0 : Nat)) (ck (I64 (x22_46 + x29_91)) (ck (I64 (x22_46 + x29_91)) (ck (0 ≤ (x22_46 + x29_91) ∧ (x22_46 + x29_91) < (out_92.length : Int)) (ck (aPJ (out_92.getD (x22_46 + x29_91).toNat (0 : Nat)) (aDY v_105.2.1 carry_90 (0 : Nat)).1 (0 : Nat)) (ck (0 ≤ (x22_46 + x29_91) ∧ (x22_46 + x29_91) < (out_92.length : Int)) (ck (I64 (x29_91 + (1 : Int))) (some (.inl (((((v_105.1 + (aDY v_105.2.1 carry_90 (0 : Nat)).2.1) % 18446744073709551616) + (aDY (out_92.getD (x22_46 + x29_91).toNat (0 : Nat)) (aDY v_105.2.1 carry_90 (0 : Nat)).1 (0 : Nat)).2.1) % 18446744073709551616), (x29_91 + (1 : Int)), (out_92.set (x22_46 + x29_91).toNat (aDY (out_92.getD (x22_46 + x29_91).toNat (0 : Nat)) (aDY v_105.2.1 carry_90 (0 : Nat)).1 (0 : Nat)).1)))))))))))) else some (.inr (carry_90, out_92))
def aBE (F : Md) (a_0 : qI) (b_1 : qI) (x22_46 : Int) (out_47 : qI) : Option ((Int × qI) ⊕ qI) :=
 if x22_46 < (a_0.length : Int) then ck (0 ≤ x22_46 ∧ x22_46 < (a_0.length : Int)) ((dI F (fun d : Nat × Int × qI => aBD F b_1 a_0 x22_46 d.1 d.2.1 d.2.2) ((0 : Nat), (0 : Int), out_47)).bind (fun e => wH F x22_46 b_1 e.1 e.2)) else some (.inr out_47)
def iU (F : Md) (a_0 : qI) (b_1 : qI) : Option qI :=
 ck (I64 ((a_0.length : Int) + (b_1.length : Int))) (ck (0 ≤ ((a_0.length : Int) + (b_1.length : Int))) (ck ((8 : Int) * ((a_0.length : Int) + (b_1.length : Int)) ≤ 281474976710656) ((dI F (fun d : Int × qI => aBE F a_0 b_1 d.1 d.2) ((0 : Int), (List.replicate ((a_0.length : Int) + (b_1.length : Int)).toNat (0 : Nat)))).bind (fun e => (iO F e).bind (fun v_109 => some v_109)))))
def aH8 : PlR := ⟨[(0, .A [0, 1]), (1, .B [0, 1, 5]), (2, .A [1, 5, 20, 21, 22]), (3, .A [1, 5, 20, 21, 22, 23]), (4, .A [1, 5, 6, 7, 20, 21, 22]), (5, .A [1, 5, 6, 7, 8, 20, 21, 22]), (6, .A [1, 5, 6, 7, 8, 20, 21, 22, 27, 28, 29]), (7, .A [1, 5, 6, 7, 8, 20, 21, 22, 27, 28, 29, 30]), (8, .A [1, 5, 6, 7, 8, 9, 10, 20, 21, 22, 27, 28, 29]), (9, .A [1, 5, 6, 7, 8, 9, 11, 12, 20, 21, 22, 27, 28, 29]), (10, .A [1, 5, 6, 7, 8, 9, 11, 12, 20, 21, 22, 27, 28, 29]), (11, .A [1, 5, 6, 7, 9, 11, 12, 13, 20, 21, 22, 27, 28, 29]), (12, .A [1, 5, 6, 7, 9, 11, 12, 20, 21, 22, 27, 28, 29]), (13, .B [1, 5, 6, 7, 11, 13, 20, 21, 22, 27, 28, 29]), (14, .A [1, 5, 6, 7, 8, 20, 21, 22, 27, 28, 29]), (15, .A [1, 5, 6, 7, 8, 20, 21, 22, 27, 28, 29]), (16, .B [1, 5, 20, 21, 22]), (17, .A [1, 5, 20, 21, 22]), (18, .B [4])], [(9, 19)]⟩
def aKw : Ty := .pair qs (.pair qs .unit)
def fL (F : Md) : aF := mSpec aKw (.one qs) (fun x => iU F x.1 x.2.1)
abbrev aCh (F : Md) : List (FuncId × aF) := [(124, (fC F)), (126, (yW F)), (127, qL)]
theorem aQ1 (F : Md) : bG Tryz.prog GL (aCh F) := .cons (rO F) xAa (.cons (aOb F) xAa (.nat aGu (.nil)))
attribute [go_sem] aKw aH8
theorem sC (F : Md) : FOK Tryz.prog GL 90 (fL F) := by
 refine bN (aS (aQ1 F)) mix Tryz.func90 rfl xAa xAb aH8 fun w0 S x Θ hw h hF => ?_
 obtain ⟨(a_0 : qI), (b_1 : qI), u⟩ := x
 simp only [bQ, go_sem]
 replace h : sat (iU F a_0 b_1) _ := h
 unfold iU at h
 obtain ⟨g0, h⟩ := aL h
 repeat (refine ⟨by omega, ?_⟩)
 obtain ⟨g0, h⟩ := aL h
 obtain ⟨g1, h⟩ := aL h
 repeat (refine ⟨by omega, ?_⟩)
 refine cI hF (D := Int × qI) [1, 20, 21] (fun d => [(5, .own 0), (22, .val qj d.1)]) (fun d => [.inr (.row 144 qn d.2)]) h rfl xAc ?_
 rintro ⟨x22_46, out_47⟩ A3 T3 hA3 hE3 h
 simp only [go_sem]
 replace h : sat (aBE F a_0 b_1 x22_46 out_47) _ := h
 unfold aBE at h
 refine fZ h (fun hc h => ?_) fun hc h => ?_
 ·obtain ⟨g0, h⟩ := aL h
  repeat (refine ⟨by omega, ?_⟩)
  refine dU hF (D := Nat × qI) (fun d => sat (wH F x22_46 b_1 d.1 d.2) T3) [1, 6, 20, 21, 22] (fun d => [(5, .own 0), (8, .val qn d.1)]) (fun d => [.inr (.row 144 qn d.2)]) ?_ ?_
  ·simp only [go_sem]
   refine cI hF (D := Nat × Int × qI) [1, 6, 7, 20, 21, 22, 27, 28] (fun d => [(5, .own 0), (8, .val qn d.1), (29, .val qj d.2.1)]) (fun d => [.inr (.row 144 qn d.2.2)]) h rfl xAc ?_
   rintro ⟨carry_90, x29_91, out_92⟩ A7 T7 hA7 hE7 h
   simp only [go_sem]
   replace h : sat (aBD F b_1 a_0 x22_46 carry_90 x29_91 out_92) _ := h
   unfold aBD at h
   refine fZ h (fun hc h => ?_) fun hc h => ?_
   ·obtain ⟨g0, h⟩ := aL h
    repeat (refine ⟨by omega, ?_⟩)
    obtain ⟨v_105, hv, h⟩ := aJ h
    try simp only [hv, go_sem]
    obtain ⟨g0, h⟩ := aL h
    repeat (refine ⟨by omega, ?_⟩)
    obtain ⟨g0, h⟩ := aL h
    repeat (refine ⟨by omega, ?_⟩)
    obtain ⟨g0, h⟩ := aL h
    repeat (refine ⟨by omega, ?_⟩)
    obtain ⟨g0, h⟩ := aL h
    repeat (refine ⟨by omega, ?_⟩)
    obtain ⟨g0, h⟩ := aL h
    repeat (refine ⟨by omega, ?_⟩)
    obtain ⟨g0, h⟩ := aL h
    repeat (refine ⟨by omega, ?_⟩)
    obtain ⟨g0, h⟩ := aL h
    repeat (refine ⟨by omega, ?_⟩)
    replace h := hA7 _ (aC h)
    exact zaF
   ·replace h := yaF (hE7 _ (aC h))
    exact aW (carry_90, out_92) h rfl xAc
  ·rintro ⟨carry_86, out_87⟩ h
   simp only [go_sem]
   replace h : sat (wH F x22_46 b_1 carry_86 out_87) _ := h
   unfold wH at h
   obtain ⟨g0, h⟩ := aL h
   repeat (refine ⟨by omega, ?_⟩)
   obtain ⟨g0, h⟩ := aL h
   repeat (refine ⟨by omega, ?_⟩)
   obtain ⟨g0, h⟩ := aL h
   try simp only [I64, I32] at g0
   repeat (refine ⟨zAA, ?_⟩)
   replace h := hA3 _ (aC h)
   exact zaF
 ·replace h := yaF (hE3 _ (aC h))
  obtain ⟨v_107, hv, h⟩ := aJ h
  exact zaP
attribute [go_sem] fL
def aCL (F : Md) (a_0 : qI) (n_1 : Int) (x20_7 : Int) (out_8 : qI) : Option ((Int × qI) ⊕ qI) :=
 if x20_7 < (a_0.length : Int) then ck (0 ≤ x20_7 ∧ x20_7 < (a_0.length : Int)) (ck (I64 (Int.tdiv n_1 (64 : Int))) (ck (I64 ((Int.tdiv n_1 (64 : Int)) + x20_7)) (ck (0 ≤ ((Int.tdiv n_1 (64 : Int)) + x20_7) ∧ ((Int.tdiv n_1 (64 : Int)) + x20_7) < (out_8.length : Int)) (ck (0 ≤ ((Int.tdiv n_1 (64 : Int)) + x20_7) ∧ ((Int.tdiv n_1 (64 : Int)) + x20_7) < (out_8.length : Int)) (ck (I64 (Int.tdiv n_1 (64 : Int))) (ck (I64 ((Int.tdiv n_1 (64 : Int)) + x20_7)) (ck (I64 (((Int.tdiv n_1 (64 : Int)) + x20_7) + (1 : Int))) (ck (0 ≤ (((Int.tdiv n_1 (64 : Int)) + x20_7) + (1 : Int)) ∧ (((Int.tdiv n_1 (64 : Int)) + x20_7) + (1 : Int)) < (((out_8.set ((Int.tdiv n_1 (64 : Int)) + x20_7).toNat ((out_8.getD ((Int.tdiv n_1 (64 : Int)) + x20_7).toNat (0 : Nat)) ||| (((a_0.getD (x20_7.toNat) (0 : Nat)) * (2 ^ ((Int.tmod n_1 (64 : Int)) % (18446744073709551616 : Int)).toNat)) % 18446744073709551616))).length : Nat) : Int)) (ck (I64 ((63 : Int) - (Int.tmod n_1 (64 : Int)))) (ck (0 ≤ (((Int.tdiv n_1 (64 : Int)) + x20_7) + (1 : Int)) ∧ (((Int.tdiv n_1 (64 : Int)) + x20_7) + (1 : Int)) < (((out_8.set ((Int.tdiv n_1 (64 : Int)) + x20_7).toNat ((out_8.getD ((Int.tdiv n_1 (64 : Int)) + x20_7).toNat (0 : Nat)) ||| (((a_0.getD (x20_7.toNat) (0 : Nat)) * (2 ^ ((Int.tmod n_1 (64 : Int)) % (18446744073709551616 : Int)).toNat)) % 18446744073709551616))).length : Nat) : Int)) (ck (I64 (x20_7 + (1 : Int))) (some (.inl ((x20_7 + (1 : Int)), ((out_8.set ((Int.tdiv n_1 (64 : Int)) + x20_7).toNat ((out_8.getD ((Int.tdiv n_1 (64 : Int)) + x20_7).toNat (0 : Nat)) ||| (((a_0.getD (x20_7.toNat) (0 : Nat)) * (2 ^ ((Int.tmod n_1 (64 : Int)) % (18446744073709551616 : Int)).toNat)) % 18446744073709551616))).set (((Int.tdiv n_1 (64 : Int)) + x20_7) + (1 : Int)).toNat (((out_8.set ((Int.tdiv n_1 (64 : Int)) + x20_7).toNat ((out_8.getD ((Int.tdiv n_1 (64 : Int)) + x20_7).toNat (0 : Nat)) ||| (((a_0.getD (x20_7.toNat) (0 : Nat)) * (2 ^ ((Int.tmod n_1 (64 : Int)) % (18446744073709551616 : Int)).toNat)) % 18446744073709551616))).getD (((Int.tdiv n_1 (64 : Int)) + x20_7) + (1 : Int)).toNat (0 : Nat)) ||| (((a_0.getD (x20_7.toNat) (0 : Nat)) / (2 : Nat)) / (2 ^ (((63 : Int) - (Int.tmod n_1 (64 : Int))) % (18446744073709551616 : Int)).toNat)))))))))))))))))) else some (.inr out_8)
def kA (F : Md) (a_0 : qI) (n_1 : Int) : Option qI :=
 if (a_0.length : Int) = (0 : Int) then some ([] : List Nat) else ck (I64 (Int.tdiv n_1 (64 : Int))) (ck (I64 ((Int.tdiv n_1 (64 : Int)) + (a_0.length : Int))) (ck (I64 (((Int.tdiv n_1 (64 : Int)) + (a_0.length : Int)) + (1 : Int))) (ck (0 ≤ (((Int.tdiv n_1 (64 : Int)) + (a_0.length : Int)) + (1 : Int))) (ck ((8 : Int) * (((Int.tdiv n_1 (64 : Int)) + (a_0.length : Int)) + (1 : Int)) ≤ 281474976710656) ((dI F (fun d : Int × qI => aCL F a_0 n_1 d.1 d.2) ((0 : Int), (List.replicate (((Int.tdiv n_1 (64 : Int)) + (a_0.length : Int)) + (1 : Int)).toNat (0 : Nat)))).bind (fun e => (iO F e).bind (fun v_15 => some v_15)))))))
def aKx : PlR := ⟨[(0, .A [0, 1]), (1, .A [0, 1, 10]), (2, .A [4]), (3, .B [0, 1, 5]), (4, .A [1, 5, 18, 19, 20]), (5, .A [1, 5, 18, 19, 20, 21]), (6, .A [1, 5, 6, 7, 18, 19, 20]), (7, .B [1, 5, 6, 7, 18, 19, 20]), (8, .B [1, 5, 18, 19, 20]), (9, .A [1, 5, 18, 19, 20]), (10, .B [4])], []⟩
def aM4 : Ty := .pair qs qf
def vG (F : Md) : aF := mSpec aM4 (.one qs) (fun x => kA F x.1 x.2.1)
abbrev aM5 (F : Md) : List (FuncId × aF) := [(124, (fC F))]
theorem aR5 (F : Md) : bG Tryz.prog GL (aM5 F) := .cons (rO F) xAa (.nil)
attribute [go_sem] aM4 aKx
theorem aKy (F : Md) : FOK Tryz.prog GL 122 (vG F) := by
 refine bN (aS (aR5 F)) mix Tryz.func122 rfl xAa xAb aKx fun w0 S x Θ hw h hF => ?_
 obtain ⟨(a_0 : qI), (n_1 : Int), u⟩ := x
 simp only [bQ, go_sem]
 replace h : sat (kA F a_0 n_1) _ := h
 unfold kA at h
 refine dR h (fun hc h => ?_) fun hc h => ?_
 ·exact aG hF [.tmp 4] rfl rfl rfl (aC h) xAd
 ·obtain ⟨g0, h⟩ := aL h
  try simp only [I64, I32] at g0
  repeat (refine ⟨zAA, ?_⟩)
  obtain ⟨g0, h⟩ := aL h
  try simp only [I64, I32] at g0
  repeat (refine ⟨zAA, ?_⟩)
  obtain ⟨g0, h⟩ := aL h
  try simp only [I64, I32] at g0
  repeat (refine ⟨zAA, ?_⟩)
  obtain ⟨g0, h⟩ := aL h
  obtain ⟨g1, h⟩ := aL h
  repeat (refine ⟨zAA, ?_⟩)
  refine cI hF (D := Int × qI) [1, 18, 19] (fun d => [(5, .own 0), (20, .val qj d.1)]) (fun d => [.inr (.row 144 qn d.2)]) h rfl xAc ?_
  rintro ⟨x20_7, out_8⟩ A5 T5 hA5 hE5 h
  simp only [go_sem]
  replace h : sat (aCL F a_0 n_1 x20_7 out_8) _ := h
  unfold aCL at h
  refine fZ h (fun hc h => ?_) fun hc h => ?_
  ·obtain ⟨g0, h⟩ := aL h
   repeat (refine ⟨zAA, ?_⟩)
   obtain ⟨g0, h⟩ := aL h
   try simp only [I64, I32] at g0
   repeat (refine ⟨zAA, ?_⟩)
   obtain ⟨g0, h⟩ := aL h
   try simp only [I64, I32] at g0
   repeat (refine ⟨zAA, ?_⟩)
   obtain ⟨g0, h⟩ := aL h
   repeat (refine ⟨zAA, ?_⟩)
   obtain ⟨g0, h⟩ := aL h
   repeat (refine ⟨zAA, ?_⟩)
   obtain ⟨g0, h⟩ := aL h
   try simp only [I64, I32] at g0
   repeat (refine ⟨zAA, ?_⟩)
   obtain ⟨g0, h⟩ := aL h
   try simp only [I64, I32] at g0
   repeat (refine ⟨zAA, ?_⟩)
   obtain ⟨g0, h⟩ := aL h
   try simp only [I64, I32] at g0
   repeat (refine ⟨zAA, ?_⟩)
   obtain ⟨g0, h⟩ := aL h
   repeat (refine ⟨zAA, ?_⟩)
   obtain ⟨g0, h⟩ := aL h
   try simp only [I64, I32] at g0
   repeat (refine ⟨zAA, ?_⟩)
   obtain ⟨g0, h⟩ := aL h
   repeat (refine ⟨zAA, ?_⟩)
   obtain ⟨g0, h⟩ := aL h
   try simp only [I64, I32] at g0
   repeat (refine ⟨zAA, ?_⟩)
   replace h := hA5 _ (aC h)
   exact zad
  ·replace h := yaF (hE5 _ (aC h))
   obtain ⟨v_13, hv, h⟩ := aJ h
   exact zaP
attribute [go_sem] vG
def aBF (F : Md) (n_1 : Int) (a_0 : qI) (x22_10 : Int) (out_11 : qI) : Option ((Int × qI) ⊕ qI) :=
 if x22_10 < (((List.drop (Int.tdiv n_1 (64 : Int)).toNat a_0).length : Nat) : Int) then ck (0 ≤ x22_10 ∧ x22_10 < (((List.drop (Int.tdiv n_1 (64 : Int)).toNat a_0).length : Nat) : Int)) (ck (0 ≤ x22_10 ∧ x22_10 < (out_11.length : Int)) (ck (I64 (x22_10 + (1 : Int))) (if (x22_10 + (1 : Int)) < (((List.drop (Int.tdiv n_1 (64 : Int)).toNat a_0).length : Nat) : Int) then ck (0 ≤ x22_10 ∧ x22_10 < (((out_11.set (x22_10.toNat) (((List.drop (Int.tdiv n_1 (64 : Int)).toNat a_0).getD (x22_10.toNat) (0 : Nat)) / (2 ^ ((Int.tmod n_1 (64 : Int)) % (18446744073709551616 : Int)).toNat))).length : Nat) : Int)) (ck (I64 (x22_10 + (1 : Int))) (ck (0 ≤ (x22_10 + (1 : Int)) ∧ (x22_10 + (1 : Int)) < (((List.drop (Int.tdiv n_1 (64 : Int)).toNat a_0).length : Nat) : Int)) (ck (I64 ((63 : Int) - (Int.tmod n_1 (64 : Int)))) (ck (0 ≤ x22_10 ∧ x22_10 < (((out_11.set (x22_10.toNat) (((List.drop (Int.tdiv n_1 (64 : Int)).toNat a_0).getD (x22_10.toNat) (0 : Nat)) / (2 ^ ((Int.tmod n_1 (64 : Int)) % (18446744073709551616 : Int)).toNat))).length : Nat) : Int)) (ck (I64 (x22_10 + (1 : Int))) (some (.inl ((x22_10 + (1 : Int)), ((out_11.set (x22_10.toNat) (((List.drop (Int.tdiv n_1 (64 : Int)).toNat a_0).getD (x22_10.toNat) (0 : Nat)) / (2 ^ ((Int.tmod n_1 (64 : Int)) % (18446744073709551616 : Int)).toNat))).set (x22_10.toNat) (((out_11.set (x22_10.toNat) (((List.drop (Int.tdiv n_1 (64 : Int)).toNat a_0).getD (x22_10.toNat) (0 : Nat)) / (2 ^ ((Int.tmod n_1 (64 : Int)) % (18446744073709551616 : Int)).toNat))).getD (x22_10.toNat) (0 : Nat)) ||| ((((((List.drop (Int.tdiv n_1 (64 : Int)).toNat a_0).getD (x22_10 + (1 : Int)).toNat (0 : Nat)) * (2 : Nat)) % 18446744073709551616) * (2 ^ (((63 : Int) - (Int.tmod n_1 (64 : Int))) % (18446744073709551616 : Int)).toNat)) % 18446744073709551616))))))))))) else ck (I64 (x22_10 + (1 : Int))) (some (.inl ((x22_10 + (1 : Int)), (out_11.set (x22_10.toNat) (((List.drop (Int.tdiv n_1 (64 : Int)).toNat a_0).getD (x22_10.toNat) (0 : Nat)) / (2 ^ ((Int.tmod n_1 (64 : Int)) % (18446744073709551616 : Int)).toNat))))))))) else some (.inr out_11)
def mW (F : Md) (a_0 : qI) (n_1 : Int) : Option qI :=
 ck (I64 (Int.tdiv n_1 (64 : Int))) (if (a_0.length : Int) ≤ (Int.tdiv n_1 (64 : Int)) then some ([] : List Nat) else ck (I64 (Int.tdiv n_1 (64 : Int))) (ck (0 ≤ (Int.tdiv n_1 (64 : Int)) ∧ (Int.tdiv n_1 (64 : Int)) ≤ (a_0.length : Int)) (ck (0 ≤ (((List.drop (Int.tdiv n_1 (64 : Int)).toNat a_0).length : Nat) : Int)) (ck ((8 : Int) * (((List.drop (Int.tdiv n_1 (64 : Int)).toNat a_0).length : Nat) : Int) ≤ 281474976710656) ((dI F (fun d : Int × qI => aBF F n_1 a_0 d.1 d.2) ((0 : Int), (List.replicate (List.drop (Int.tdiv n_1 (64 : Int)).toNat a_0).length (0 : Nat)))).bind (fun e => (iO F e).bind (fun v_19 => some v_19)))))))
def aH9 : PlR := ⟨[(0, .A [0, 1]), (1, .A [0, 1, 12]), (2, .A [4]), (3, .A [0, 1]), (4, .B [0, 1, 5]), (5, .A [0, 1, 5, 20, 21, 22]), (6, .A [0, 1, 5, 20, 21, 22, 23]), (7, .A [0, 1, 5, 6, 7, 20, 21, 22]), (8, .B [0, 1, 5, 6, 20, 21, 22]), (9, .A [0, 1, 5, 6, 20, 21, 22, 39]), (10, .C 17 [0, 1, 5, 20, 21, 22]), (11, .A [0, 1, 5, 20, 21, 22]), (12, .B [4])], []⟩
def aKz : Ty := .pair qs qf
def sD (F : Md) : aF := mSpec aKz (.one qs) (fun x => mW F x.1 x.2.1)
abbrev aKA (F : Md) : List (FuncId × aF) := [(124, (fC F))]
theorem aQ2 (F : Md) : bG Tryz.prog GL (aKA F) := .cons (rO F) xAa (.nil)
attribute [go_sem] aKz aH9
theorem aIa (F : Md) : FOK Tryz.prog GL 125 (sD F) := by
 refine bN (aS (aQ2 F)) mix Tryz.func125 rfl xAa xAb aH9 fun w0 S x Θ hw h hF => ?_
 obtain ⟨(a_0 : qI), (n_1 : Int), u⟩ := x
 simp only [bQ, go_sem]
 replace h : sat (mW F a_0 n_1) _ := h
 unfold mW at h
 obtain ⟨g0, h⟩ := aL h
 try simp only [I64, I32] at g0
 repeat (refine ⟨zAA, ?_⟩)
 refine aPF h (fun hc h => ?_) fun hc h => ?_
 ·exact aG hF [.tmp 4] rfl rfl rfl (aC h) xAd
 ·obtain ⟨g0, h⟩ := aL h
  obtain ⟨g1, h⟩ := aL h
  try simp only [I64, I32] at g0
  repeat (refine ⟨zAA, ?_⟩)
  obtain ⟨g0, h⟩ := aL h
  obtain ⟨g1, h⟩ := aL h
  repeat (refine ⟨zAA, ?_⟩)
  refine cI hF (D := Int × qI) [0, 1, 20, 21] (fun d => [(5, .own 0), (22, .val qj d.1)]) (fun d => [.inr (.row 144 qn d.2)]) h rfl xAc ?_
  rintro ⟨x22_10, out_11⟩ A6 T6 hA6 hE6 h
  simp only [go_sem]
  replace h : sat (aBF F n_1 a_0 x22_10 out_11) _ := h
  unfold aBF at h
  refine fZ h (fun hc h => ?_) fun hc h => ?_
  ·obtain ⟨g0, h⟩ := aL h
   repeat (refine ⟨zAA, ?_⟩)
   obtain ⟨g0, h⟩ := aL h
   repeat (refine ⟨zAA, ?_⟩)
   obtain ⟨g0, h⟩ := aL h
   try simp only [I64, I32] at g0
   repeat (refine ⟨zAA, ?_⟩)
   refine ⟨fun hc => ?_, fun hc => ?_⟩
   ·replace h := jA hc h
    obtain ⟨g0, h⟩ := aL h
    obtain ⟨g1, h⟩ := aL h
    obtain ⟨g2, h⟩ := aL h
    obtain ⟨g3, h⟩ := aL h
    obtain ⟨g4, h⟩ := aL h
    try simp only [I64, I32] at g1
    try simp only [I64, I32] at g3
    repeat (refine ⟨zAA, ?_⟩)
    obtain ⟨g0, h⟩ := aL h
    try simp only [I64, I32] at g0
    repeat (refine ⟨zAA, ?_⟩)
    replace h := hA6 _ (aC h)
    exact zad
   ·replace h := jB (by first | exact hc | omega) h
    obtain ⟨g0, h⟩ := aL h
    try simp only [I64, I32] at g0
    repeat (refine ⟨zAA, ?_⟩)
    replace h := hA6 _ (aC h)
    exact zaF
  ·replace h := yaF (hE6 _ (aC h))
   obtain ⟨v_17, hv, h⟩ := aJ h
   exact zaP
attribute [go_sem] sD
def wI (F : Md) (rest_11 : Nat) (q_12 : qI) : Option qx :=
 (iO F q_12).bind (fun v_15 => (iO F ([rest_11] : List Nat)).bind (fun v_16 => some (v_15, v_16, ())))
def aBG (F : Md) (a_0 : qI) (b_1 : Nat) (rest_18 : Nat) (i_19 : Int) (q_20 : qI) : Option ((Nat × Int × qI) ⊕ (Nat × qI)) :=
 if (0 : Int) ≤ i_19 then ck (0 ≤ i_19 ∧ i_19 < (a_0.length : Int)) ((aAT F rest_18 (a_0.getD (i_19.toNat) (0 : Nat)) b_1).bind (fun v_28 => ck (0 ≤ i_19 ∧ i_19 < (q_20.length : Int)) (ck (I64 (i_19 - (1 : Int))) (some (.inl (v_28.2.1, (i_19 - (1 : Int)), (q_20.set (i_19.toNat) v_28.1))))))) else some (.inr (rest_18, q_20))
def vH (F : Md) (a_0 : qI) (b_1 : Nat) : Option qx :=
 ck (0 ≤ (a_0.length : Int)) (ck ((8 : Int) * (a_0.length : Int) ≤ 281474976710656) (ck (I64 ((a_0.length : Int) - (1 : Int))) ((dI F (fun d : Nat × Int × qI => aBG F a_0 b_1 d.1 d.2.1 d.2.2) ((0 : Nat), ((a_0.length : Int) - (1 : Int)), (List.replicate (a_0.length) (0 : Nat)))).bind (fun e => wI F e.1 e.2))))
def aIb : PlR := ⟨[], [(6, 10)]⟩
def aKB : Ty := .pair qs (.pair qn .unit)
def aAV (F : Md) : aF := mSpec aKB (.tup (.pair qs (.pair qs .unit))) (fun x => vH F x.1 x.2.1)
abbrev aFl (F : Md) : List (FuncId × aF) := [(124, (fC F)), (148, (yX F))]
theorem aQ3 (F : Md) : bG Tryz.prog GL (aFl F) := .cons (rO F) xAa (.cons (aOc F) xAa (.nil))
attribute [go_sem] aKB aIb
theorem aPR (F : Md) : FOK Tryz.prog GL 119 (aAV F) := by
 refine bN (aS (aQ3 F)) mix Tryz.func119 rfl xAa xAb aIb fun w0 S x Θ hw h hF => ?_
 obtain ⟨(a_0 : qI), (b_1 : Nat), u⟩ := x
 simp only [bQ, go_sem]
 replace h : sat (vH F a_0 b_1) _ := h
 unfold vH at h
 refine pD hF [0, 1] (yaA ?_)
 refine aRT hF [0, 1, 6] (yaA ?_)
 obtain ⟨g0, h⟩ := aL h
 obtain ⟨g1, h⟩ := aL h
 repeat (refine ⟨by omega, ?_⟩)
 refine pD hF [0, 1, 6, 7] (yaA ?_)
 refine dU hF (D := Nat × qI) (fun d => sat (wI F d.1 d.2) Θ) [] (fun d => [(6, .own 0), (7, .val qn d.1)]) (fun d => [.inr (.row 144 qn d.2)]) ?_ ?_
 ·simp only [go_sem]
  refine pD hF [0, 1, 6, 7, 8] (yaA ?_)
  obtain ⟨g0, h⟩ := aL h
  repeat (refine ⟨by omega, ?_⟩)
  refine cI hF (D := Nat × Int × qI) [0, 1] (fun d => [(6, .own 0), (7, .val qn d.1), (8, .val qj d.2.1)]) (fun d => [.inr (.row 144 qn d.2.2)]) h rfl xAc ?_
  rintro ⟨rest_18, i_19, q_20⟩ A4 T4 hA4 hE4 h
  simp only [go_sem]
  replace h : sat (aBG F a_0 b_1 rest_18 i_19 q_20) _ := h
  unfold aBG at h
  refine pD hF [0, 1, 6, 7, 8, 16] (yaA ?_)
  refine aPF h (fun hc h => ?_) fun hc h => ?_
  ·refine aRT hF [0, 1, 6, 7, 8] (yaA ?_)
   obtain ⟨g0, h⟩ := aL h
   repeat (refine ⟨by omega, ?_⟩)
   obtain ⟨v_28, hv, h⟩ := aJ h
   try simp only [hv, go_sem]
   obtain ⟨g0, h⟩ := aL h
   repeat (refine ⟨by omega, ?_⟩)
   refine pD hF [0, 1, 6, 7, 8] (yaA ?_)
   obtain ⟨g0, h⟩ := aL h
   repeat (refine ⟨by omega, ?_⟩)
   replace h := hA4 _ (aC h)
   exact zaF
  ·replace h := yaF (hE4 _ (aC h))
   exact aW (rest_18, q_20) h rfl xAc
 ·rintro ⟨rest_11, q_12⟩ h
  simp only [go_sem]
  replace h : sat (wI F rest_11 q_12) _ := h
  unfold wI at h
  refine aRT hF [4, 5] (yaA ?_)
  obtain ⟨v_15, hv, h⟩ := aJ h
  try simp only [hv, go_sem]
  obtain ⟨v_16, hv, h⟩ := aJ h
  try simp only [hv, go_sem]
  exact aG hF [.tmp 4, .tmp 5] rfl rfl rfl (aC h) xAd
attribute [go_sem] aAV
def mG (F : Md) (a_0 : qI) (n_1 : Int) : Option qI :=
 ck (aVB a_0) (ck (I64 (n_1 - (a_0.length : Int))) (ck (0 ≤ (n_1 - (a_0.length : Int))) (ck (((id a_0).length + (n_1 - (a_0.length : Int)).toNat) * 8 ≤ 140737488355328) (some ((id a_0) ++ (List.replicate (n_1 - (a_0.length : Int)).toNat (0 : Nat)))))))
def aGz : PlR := ⟨[(0, .A [0, 1]), (1, .B [4])], []⟩
def aIc : Ty := .pair qs qf
def yY (F : Md) : aF := mSpec aIc (.one qs) (fun x => mG F x.1 x.2.1)
abbrev aId (F : Md) : List (FuncId × aF) := [(118, cJ)]
theorem aPS (F : Md) : bG Tryz.prog GL (aId F) := .cons mE xAa (.nil)
attribute [go_sem] aIc aGz
theorem aOd (F : Md) : FOK Tryz.prog GL 121 (yY F) := by
 refine bN (aS (aPS F)) mix Tryz.func121 rfl xAa xAb aGz fun w0 S x Θ hw h hF => ?_
 obtain ⟨(a_0 : qI), (n_1 : Int), u⟩ := x
 simp only [bQ, go_sem]
 replace h : sat (mG F a_0 n_1) _ := h
 unfold mG at h
 refine aU h fun g0 h => ?_
 refine aU h fun g0 h => ?_
 obtain ⟨g0, h⟩ := aL h
 obtain ⟨g1, h⟩ := aL h
 repeat (refine ⟨by omega, ?_⟩)
 exact zaA
attribute [go_sem] yY
def aAl (F : Md) (a_0 : qI) (b_1 : qI) : Option qx :=
 ck ((iO F (List.replicate (((a_0.length : Int) - (b_1.length : Int)) + (1 : Int)).toNat (0 : Nat))).isSome = true) (ck (0 ≤ (b_1.length : Int) ∧ (b_1.length : Int) ≤ ((((mG F ((kA F a_0 ((bR F (b_1.getD ((b_1.length : Int) - (1 : Int)).toNat (0 : Nat))).getD (0 : Int))).getD ([] : List Nat)) ((a_0.length : Int) + (1 : Int))).getD ([] : List Nat)).length : Nat) : Int)) (ck ((iO F (List.take (b_1.length) ((mG F ((kA F a_0 ((bR F (b_1.getD ((b_1.length : Int) - (1 : Int)).toNat (0 : Nat))).getD (0 : Int))).getD ([] : List Nat)) ((a_0.length : Int) + (1 : Int))).getD ([] : List Nat)))).isSome = true) (ck ((mW F ((iO F (List.take (b_1.length) ((mG F ((kA F a_0 ((bR F (b_1.getD ((b_1.length : Int) - (1 : Int)).toNat (0 : Nat))).getD (0 : Int))).getD ([] : List Nat)) ((a_0.length : Int) + (1 : Int))).getD ([] : List Nat)))).getD ([] : List Nat)) ((bR F (b_1.getD ((b_1.length : Int) - (1 : Int)).toNat (0 : Nat))).getD (0 : Int))).isSome = true) (some (((iO F (List.replicate (((a_0.length : Int) - (b_1.length : Int)) + (1 : Int)).toNat (0 : Nat))).getD ([] : List Nat)), ((mW F ((iO F (List.take (b_1.length) ((mG F ((kA F a_0 ((bR F (b_1.getD ((b_1.length : Int) - (1 : Int)).toNat (0 : Nat))).getD (0 : Int))).getD ([] : List Nat)) ((a_0.length : Int) + (1 : Int))).getD ([] : List Nat)))).getD ([] : List Nat)) ((bR F (b_1.getD ((b_1.length : Int) - (1 : Int)).toNat (0 : Nat))).getD (0 : Int))).getD ([] : List Nat)), ())))))
def aEr (F : Md) (a_0 : qI) (b_1 : qI) : Option ((Unit) ⊕ (Unit)) :=
 if (0 : Int) ≤ ((a_0.length : Int) - (b_1.length : Int)) then none else some (.inr ())
def aAW (F : Md) (a_0 : qI) (b_1 : qI) : Option qx :=
 ck ((rP F a_0 b_1).isSome = true) (if ((rP F a_0 b_1).getD (0 : Int)) < (0 : Int) then ck (aVB a_0) (some (([] : List Nat), (id a_0), ())) else if (b_1.length : Int) = (1 : Int) then ck ((0 : Int) < (b_1.length : Int)) (ck ((vH F a_0 (b_1.getD (0 : Nat) (0 : Nat))).isSome = true) (some (((vH F a_0 (b_1.getD (0 : Nat) (0 : Nat))).getD (([] : List Nat), ([] : List Nat), ())).1, ((vH F a_0 (b_1.getD (0 : Nat) (0 : Nat))).getD (([] : List Nat), ([] : List Nat), ())).2.1, ()))) else ck (I64 ((b_1.length : Int) - (1 : Int))) (ck (0 ≤ ((b_1.length : Int) - (1 : Int)) ∧ ((b_1.length : Int) - (1 : Int)) < (b_1.length : Int)) (ck ((bR F (b_1.getD ((b_1.length : Int) - (1 : Int)).toNat (0 : Nat))).isSome = true) (ck ((kA F b_1 ((bR F (b_1.getD ((b_1.length : Int) - (1 : Int)).toNat (0 : Nat))).getD (0 : Int))).isSome = true) (ck ((mG F ((kA F b_1 ((bR F (b_1.getD ((b_1.length : Int) - (1 : Int)).toNat (0 : Nat))).getD (0 : Int))).getD ([] : List Nat)) (b_1.length : Int)).isSome = true) (ck ((kA F a_0 ((bR F (b_1.getD ((b_1.length : Int) - (1 : Int)).toNat (0 : Nat))).getD (0 : Int))).isSome = true) (ck (I64 ((a_0.length : Int) + (1 : Int))) (ck ((mG F ((kA F a_0 ((bR F (b_1.getD ((b_1.length : Int) - (1 : Int)).toNat (0 : Nat))).getD (0 : Int))).getD ([] : List Nat)) ((a_0.length : Int) + (1 : Int))).isSome = true) (ck (I64 ((a_0.length : Int) - (b_1.length : Int))) (ck (I64 (((a_0.length : Int) - (b_1.length : Int)) + (1 : Int))) (ck (0 ≤ (((a_0.length : Int) - (b_1.length : Int)) + (1 : Int))) (ck ((8 : Int) * (((a_0.length : Int) - (b_1.length : Int)) + (1 : Int)) ≤ 281474976710656) (ck (I64 ((a_0.length : Int) - (b_1.length : Int))) ((dI F (fun d : Unit => aEr F a_0 b_1) ()).bind (fun e => aAl F a_0 b_1)))))))))))))))
@[go_sem]def aAX : Ty := .pair qs (.pair qs .unit)
def yZ (F : Md) : aF := mSpec aAX (.tup (.pair qs (.pair qs .unit))) (fun x => aAW F x.1 x.2.1)
abbrev kJ (F : Md) : List (FuncId × aF) := [(100, (oC F)), (118, cJ), (119, (aAV F)), (120, (dX F)), (121, (yY F)), (122, (vG F)), (124, (fC F)), (125, (sD F))]
theorem aIe (F : Md) : bG Tryz.prog GL (kJ F) := .cons (aD3 F) xAa (.cons mE xAa (.cons (aPR F) xAa (.cons (pQ F) xAa (.cons (aOd F) xAa (.cons (aKy F) xAa (.cons (rO F) xAa (.cons (aIa F) xAa (.nil))))))))
theorem aOe (F : Md) : FOK Tryz.prog GL 89 (yZ F) := by
 refine nY (aS (aIe F)) Tryz.func89 rfl xAa xAb fun w0 S x r hw h => ?_
 have hF : hU (fr Tryz.prog (EM (kJ F)) S w0 Tryz.f89.ntmps) := ⟨aS (aIe F), mix⟩
 obtain ⟨(a_0 : qI), (b_1 : qI), u⟩ := x
 simp only [aAX, Ty.wf, gW] at hw
 simp only [bQ, aAX]
 try dsimp only at h
 replace h : aAW F a_0 b_1 = some r := h
 unfold aAW at h
 refine aA (aD hF [0, 1] (yaA ?_))
 refine aB (aA (aA (aD hF [0, 1, 15] (yaA ?_))))
 obtain ⟨g0, h⟩ := aI h
 repeat (refine ⟨zAA, ?_⟩)
 refine aB (bF rfl (fun hc => ?_) (fun hc => ?_))
 ·try simp only [go_sem] at hc
  have h := dT zAB h
  refine aA (aM hF [4, 5] (yaA ?_))
  obtain ⟨g0, h⟩ := aI h
  repeat (refine ⟨zAA, ?_⟩)
  obtain rfl := Option.some.inj h
  refine aB (bX (bO (eM hF [.tmp 4, .tmp 5] rfl rfl rfl ?_)))
  exact zAG
 ·try simp only [go_sem] at hc
  have h := dP zAB h
  refine bM (aB (aA (aA (aD hF [0, 1, 20] (yaA ?_)))))
  refine aB (bF rfl (fun hc => ?_) (fun hc => ?_))
  ·try simp only [go_sem] at hc
   have h := dT zAB h
   refine aA (aD hF [4, 5] (yaA ?_))
   obtain ⟨g0, h⟩ := aI h
   obtain ⟨g1, h⟩ := aI h
   repeat (refine ⟨zAA, ?_⟩)
   obtain rfl := Option.some.inj h
   refine aB (bX (bO (eM hF [.tmp 4, .tmp 5] rfl rfl rfl ?_)))
   exact zAG
  ·try simp only [go_sem] at hc
   have h := dP zAB h
   refine bM (aB (aA (aD hF [0, 1, 6, 7] (yaA ?_))))
   obtain ⟨g0, h⟩ := aI h
   obtain ⟨g1, h⟩ := aI h
   obtain ⟨g2, h⟩ := aI h
   try simp only [I64, I32] at g0
   repeat (refine ⟨zAA, ?_⟩)
   refine aB (aA (aD hF [0, 6, 7, 8, 9] (yaA ?_)))
   obtain ⟨g0, h⟩ := aI h
   obtain ⟨g1, h⟩ := aI h
   obtain ⟨g2, h⟩ := aI h
   obtain ⟨g3, h⟩ := aI h
   obtain ⟨g4, h⟩ := aI h
   try simp only [I64, I32] at g3
   repeat (refine ⟨zAA, ?_⟩)
   refine aB (aA (aM hF [0, 6, 7, 8, 9, 10] (yaA ?_)))
   obtain ⟨g0, h⟩ := aI h
   try simp only [I64, I32] at g0
   repeat (refine ⟨zAA, ?_⟩)
   obtain ⟨g0, h⟩ := aI h
   try simp only [I64, I32] at g0
   repeat (refine ⟨zAA, ?_⟩)
   obtain ⟨g0, h⟩ := aI h
   obtain ⟨g1, h⟩ := aI h
   repeat (refine ⟨zAA, ?_⟩)
   refine aB (jZ (D := Unit) (fun d => aAl F a_0 b_1 = some r) [6, 7, 9] (fun d => [(10, .own 0)]) (fun d => [.inr (.row 144 qn (List.replicate (((a_0.length : Int) - (b_1.length : Int)) + (1 : Int)).toNat (0 : Nat)))]) ?_ ?_)
   ·refine aA (aD hF [6, 7, 8, 9, 10, 11] (yaA ?_))
    obtain ⟨g0, h⟩ := aI h
    try simp only [I64, I32] at g0
    repeat (refine ⟨zAA, ?_⟩)
    refine aB (cB (hZ (D := Unit) [6, 7, 8, 9, 11] (fun d => [(10, .own 0)]) (fun d => [.inr (.row 144 qn (List.replicate (((a_0.length : Int) - (b_1.length : Int)) + (1 : Int)).toNat (0 : Nat)))]) h ?_ ?_ ?_))
    ·first | rfl | (simp only [go_sem]; done)
    ·exact zAF
    rintro u s9 h hs9
    simp only [go_sem]
    try dsimp only at h
    unfold aEr at h
    refine aA (aA (aD hF [6, 7, 8, 9, 10, 11, 60] (yaA ?_)))
    refine aB (bF rfl (fun hc => ?_) (fun hc => ?_))
    ·try simp only [go_sem] at hc
     have h := dT zAB h
     cases h
    ·try simp only [go_sem] at hc
     have h := dP zAB h
     obtain rfl := Option.some.inj h
     dsimp only [iM] at hs9
     have h := yaF (hs9)
     refine kT (bP (bP (dG (bB (aW () h rfl ?_)))))
     ·exact zAF
   ·rintro u h
    try dsimp only at h
    simp only [go_sem]
    unfold aAl at h
    refine aA (aRN 0 (yaA ?_))
    refine aD hF [4, 5] (yaA ?_)
    obtain ⟨g0, h⟩ := aI h
    obtain ⟨g1, h⟩ := aI h
    obtain ⟨g2, h⟩ := aI h
    obtain ⟨g3, h⟩ := aI h
    repeat (refine ⟨zAA, ?_⟩)
    obtain rfl := Option.some.inj h
    refine aB (bX (eM hF [.tmp 4, .tmp 5] rfl rfl rfl ?_))
    exact zAG
attribute [go_sem] yZ
end
end Nu
end Go.Proofs
namespace Go.Proofs
open Go.Vc
set_option maxRecDepth 20000
namespace Nu
noncomputable section
set_option maxHeartbeats 4000000
theorem aCi : bG Tryz.prog GL [] := .nil
def oD (F : Md) (is_0 : Bool) (e_1 : Int) : Option (Unit ⊕ ql) :=
 if ¬ (is_0 = true) then some (.inr (e_1, ())) else some (.inl ())
def eS (F : Md) : iE where
 D := Bool × Int × (Unit ⊕ ql)
 av := fun d => [.val .bool d.1, .val qj d.2.1]
 hp := fun d => []
 m := 0
 pre := fun d => oD F d.1 d.2.1 = some d.2.2
 out := fun d => match d.2.2 with | .inl r => .ret (.tup []) [] | .inr p => .pan ⟨205, qf, p⟩ []
abbrev aKC (F : Md) : List (FuncId × aF) := []
theorem aKD (F : Md) : bG Tryz.prog GL (aKC F) := .nil
theorem iL (F : Md) : GOK Tryz.prog GL 152 (eS F) := by
 refine iT (aS (aKD F)) Tryz.func152 rfl xAa (fun _ => Nat.le_of_ble_eq_true rfl) fun c0 w0 d hw1 hw2 h hn => ?_
 have hF : hU ⟨Tryz.prog, EM (aKC F), GM (eS F) c0 d, w0, Tryz.f152.ntmps, []⟩ := ⟨aS (aKD F), mix⟩
 obtain ⟨(is_0 : Bool), (e_1 : Int), r⟩ := d
 replace h : oD F is_0 e_1 = some r := h
 have hw1 : AV.wfL [.val .bool is_0, .val qj e_1] := hw1
 simp only [AV.wfL, AV.wfV, Ty.wf, gW] at hw1
 show Tri _ _ _ [(0, .val .bool is_0), (1, .val qj e_1)] []
 unfold oD at h
 refine aA (aD hF [1, 5] (yaA ?_))
 refine aB (bF rfl (fun hc => ?_) (fun hc => ?_))
 ·try simp only [go_sem] at hc
  have h := dT zAB h
  refine aK hF (aY (l := []) (.nil)) [] [] (yaB ?_)
  obtain rfl := Option.some.inj h
  refine gT rfl rfl rfl rfl
 ·try simp only [go_sem] at hc
  have h := dP zAB h
  obtain rfl := Option.some.inj h
  refine bM (aAQ (qY hF [] rfl rfl rfl rfl rfl rfl ?_))
  exact zaD
attribute [go_sem] eS
def zA (F : Md) (e_2 : Int) (m_1 : qI) (neg_0 : Bool) : Option (qi ⊕ ql) :=
 ck (I64 (e_2 + ((dY F m_1).getD (0 : Int)))) ((oD F (decide ((e_2 + ((dY F m_1).getD (0 : Int))) ≤ (1048576 : Int))) (3 : Int)).bind (fun e => match e with | .inl r_22 => ck (I64 (e_2 + ((dY F m_1).getD (0 : Int)))) (some (.inl (neg_0, ((mW F m_1 ((dY F m_1).getD (0 : Int))).getD ([] : List Nat)), (e_2 + ((dY F m_1).getD (0 : Int))), ()))) | .inr p_23 => some (.inr p_23)))
def aBH (F : Md) (neg_0 : Bool) (m_1 : qI) (e_2 : Int) : Option (qi ⊕ ql) :=
 if (m_1.length : Int) = (0 : Int) then some (.inl (false, ([] : List Nat), (0 : Int), ())) else ck ((dY F m_1).isSome = true) (ck ((mW F m_1 ((dY F m_1).getD (0 : Int))).isSome = true) ((oD F (decide (((((mW F m_1 ((dY F m_1).getD (0 : Int))).getD ([] : List Nat)).length : Nat) : Int) ≤ (64 : Int))) (2 : Int)).bind (fun e => match e with | .inl r_8 => if e_2 ≤ (1048576 : Int) then ck (I64 ((-1048576 : Int) - ((dY F m_1).getD (0 : Int)))) ((oD F ((decide (e_2 ≤ (1048576 : Int))) && (decide (((-1048576 : Int) - ((dY F m_1).getD (0 : Int))) ≤ e_2))) (3 : Int)).bind (fun e => match e with | .inl r_24 => zA F e_2 m_1 neg_0 | .inr p_25 => some (.inr p_25))) else (oD F false (3 : Int)).bind (fun e => match e with | .inl r_26 => zA F e_2 m_1 neg_0 | .inr p_27 => some (.inr p_27)) | .inr p_9 => some (.inr p_9))))
def rQ (F : Md) : iE where
 D := Bool × qI × Int × (qi ⊕ ql)
 av := fun d => [.val .bool d.1, .val qs d.2.1, .val qj d.2.2.1]
 hp := fun d => []
 m := 0
 pre := fun d => aBH F d.1 d.2.1 d.2.2.1 = some d.2.2.2
 out := fun d => match d.2.2.2 with | .inl r => .ret (.val qh r) [] | .inr p => .pan ⟨205, qf, p⟩ []
abbrev aD6 (F : Md) : List (FuncId × aF) := [(125, (sD F)), (151, (aAU F))]
theorem aM7 (F : Md) : bG Tryz.prog GL (aD6 F) := .cons (aIa F) xAa (.cons (aPQ F) xAa (.nil))
theorem aCj (F : Md) : GOK Tryz.prog GL 132 (rQ F) := by
 refine iT (aS (aM7 F)) Tryz.func132 rfl xAa (fun _ => Nat.le_of_ble_eq_true rfl) fun c0 w0 d hw1 hw2 h hn => ?_
 have hF : hU ⟨Tryz.prog, EM (aD6 F), GM (rQ F) c0 d, w0, Tryz.f132.ntmps, []⟩ := ⟨aS (aM7 F), mix⟩
 obtain ⟨(neg_0 : Bool), (m_1 : qI), (e_2 : Int), r⟩ := d
 replace h : aBH F neg_0 m_1 e_2 = some r := h
 have hw1 : AV.wfL [.val .bool neg_0, .val qs m_1, .val qj e_2] := hw1
 simp only [AV.wfL, AV.wfV, Ty.wf, gW] at hw1
 show Tri _ _ _ [(0, .val .bool neg_0), (1, .val qs m_1), (2, .val qj e_2)] []
 unfold aBH at h
 refine aA (aM hF [0, 1, 2, 6] (yaA ?_))
 refine aB (aA (aA (aD hF [0, 1, 2, 6, 10] (yaA ?_))))
 refine aB (bF rfl (fun hc => ?_) (fun hc => ?_))
 ·try simp only [go_sem] at hc
  have h := dT zAB h
  refine aA (aM hF [6] (yaA ?_))
  obtain rfl := Option.some.inj h
  refine aB (bX (bO (jV hF [.cell 6 117] [] rfl rfl rfl rfl rfl rfl rfl rfl rfl ?_)))
  exact zaD
 ·try simp only [go_sem] at hc
  have h := dP zAB h
  refine bM (aB (aA (aD hF [0, 1, 2, 6, 7] (yaA ?_))))
  obtain ⟨g0, h⟩ := aI h
  repeat (refine ⟨zAA, ?_⟩)
  refine aB (aA (aD hF [0, 1, 2, 6, 7] (yaA ?_)))
  obtain ⟨g0, h⟩ := aI h
  repeat (refine ⟨zAA, ?_⟩)
  obtain ⟨e, he1, h⟩ := bind_some h
  rcases e with r_8 | p_9
  ·try dsimp only at h
   refine aB (aA (aK hF (aY (l := [(152, ⟨eS F, [], ((decide (((((mW F m_1 ((dY F m_1).getD (0 : Int))).getD ([] : List Nat)).length : Nat) : Int) ≤ (64 : Int))), (2 : Int), .inl r_8)⟩)]) (.cons (iL F) xAa (.nil))) [0, 1, 2, 6, 7] [] (yaB ?_)))
   refine aB (jZ (D := Unit) (fun d => zA F e_2 m_1 neg_0 = some r) [0, 1, 2, 7] (fun d => [(6, .ptr 0 [])]) (fun d => [.inr (.box 3 (.val qh (false, ([] : List Nat), (0 : Int), ())))]) ?_ ?_)
   ·by_cases hq : e_2 ≤ (1048576 : Int)
    ·have h := dT hq h
     obtain ⟨g0, h⟩ := aI h
     try simp only [I64, I32] at g0
     obtain ⟨e, he3, h⟩ := bind_some h
     rcases e with r_24 | p_25
     ·try dsimp only at h
      refine aK hF (aY (l := [(152, ⟨eS F, [], (((decide (e_2 ≤ (1048576 : Int))) && (decide (((-1048576 : Int) - ((dY F m_1).getD (0 : Int))) ≤ e_2))), (3 : Int), .inl r_24)⟩)]) (.cons (iL F) xAa (.nil))) [0, 1, 2, 6, 7] [] (yaB ?_)
      refine ⟨fun _ => (yaE ?_), fun hx => by first | (exfalso; omega) | (exfalso; simp_all; done)⟩
      refine ⟨fun _ => (yaE ?_), fun hx => by first | (exfalso; omega) | (exfalso; simp_all; done)⟩
      refine ⟨fun _ => (yaE ?_), fun hx => by first | (exfalso; omega) | (exfalso; simp_all; done)⟩
      refine ⟨fun _ => (yaE ?_), fun hx => by first | (exfalso; omega) | (exfalso; simp_all; done)⟩
      refine bB (aW () h rfl ?_)
      ·exact zAF
     ·try dsimp only at h
      refine aK hF (aY (l := [(152, ⟨eS F, [], (((decide (e_2 ≤ (1048576 : Int))) && (decide (((-1048576 : Int) - ((dY F m_1).getD (0 : Int))) ≤ e_2))), (3 : Int), .inr p_25)⟩)]) (.cons (iL F) xAa (.nil))) [0, 1, 2, 6, 7] [] (yaB ?_)
      refine ⟨fun _ => (yaE ?_), fun hx => by first | (exfalso; omega) | (exfalso; simp_all; done)⟩
      refine ⟨fun _ => (yaE ?_), fun hx => by first | (exfalso; omega) | (exfalso; simp_all; done)⟩
      exact zaf
    ·have h := dP hq h
     obtain ⟨e, he4, h⟩ := bind_some h
     rcases e with r_26 | p_27
     ·try dsimp only at h
      refine aK hF (aY (l := [(152, ⟨eS F, [], (false, (3 : Int), .inl r_26)⟩)]) (.cons (iL F) xAa (.nil))) [0, 1, 2, 6, 7] [] (yaB ?_)
      first | (refine ⟨fun hx => by first | (exfalso; omega) | (exfalso; simp_all; done), fun _ => ?_⟩) | (with_reducible intro _) | skip
      repeat (refine ⟨zAA, ?_⟩)
      first | (refine ⟨fun hx => by first | (exfalso; omega) | (exfalso; simp_all; done), fun _ => ?_⟩) | (with_reducible intro _) | skip
      repeat (refine ⟨zAA, ?_⟩)
      first | (refine ⟨fun hx => by first | (exfalso; omega) | (exfalso; simp_all; done), fun _ => ?_⟩) | (with_reducible intro _) | skip
      repeat (refine ⟨zAA, ?_⟩)
      first | (refine ⟨fun hx => by first | (exfalso; omega) | (exfalso; simp_all; done), fun _ => ?_⟩) | (with_reducible intro _) | skip
      repeat (refine ⟨zAA, ?_⟩)
      refine bB (aW () h rfl ?_)
      ·exact zAF
     ·try dsimp only at h
      refine aK hF (aY (l := [(152, ⟨eS F, [], (false, (3 : Int), .inr p_27)⟩)]) (.cons (iL F) xAa (.nil))) [0, 1, 2, 6, 7] [] (yaB ?_)
      first | (refine ⟨fun hx => by first | (exfalso; omega) | (exfalso; simp_all; done), fun _ => ?_⟩) | (with_reducible intro _) | skip
      repeat (refine ⟨zAA, ?_⟩)
      first | (refine ⟨fun hx => by first | (exfalso; omega) | (exfalso; simp_all; done), fun _ => ?_⟩) | (with_reducible intro _) | skip
      repeat (refine ⟨zAA, ?_⟩)
      exact zaV
   ·rintro u h
    try dsimp only at h
    simp only [go_sem]
    unfold zA at h
    obtain ⟨g0, h⟩ := aI h
    try simp only [I64, I32] at g0
    obtain ⟨e, he2, h⟩ := bind_some h
    rcases e with r_22 | p_23
    ·try dsimp only at h
     refine aA (aK hF (aY (l := [(152, ⟨eS F, [], ((decide ((e_2 + ((dY F m_1).getD (0 : Int))) ≤ (1048576 : Int))), (3 : Int), .inl r_22)⟩)]) (.cons (iL F) xAa (.nil))) [0, 1, 2, 6, 7] [] (yaB ?_))
     refine aB (aA (aM hF [6] (yaA ?_)))
     obtain ⟨g0, h⟩ := aI h
     try simp only [I64, I32] at g0
     repeat (refine ⟨zAA, ?_⟩)
     obtain rfl := Option.some.inj h
     refine aB (bX (jV hF [.cell 6 117] [] rfl rfl rfl rfl rfl rfl rfl rfl rfl ?_))
     exact zaD
    ·try dsimp only at h
     refine aA (aK hF (aY (l := [(152, ⟨eS F, [], ((decide ((e_2 + ((dY F m_1).getD (0 : Int))) ≤ (1048576 : Int))), (3 : Int), .inr p_23)⟩)]) (.cons (iL F) xAa (.nil))) [0, 1, 2, 6, 7] [] (yaB ?_))
     exact zaH
  ·try dsimp only at h
   refine aB (aA (aK hF (aY (l := [(152, ⟨eS F, [], ((decide (((((mW F m_1 ((dY F m_1).getD (0 : Int))).getD ([] : List Nat)).length : Nat) : Int) ≤ (64 : Int))), (2 : Int), .inr p_9)⟩)]) (.cons (iL F) xAa (.nil))) [0, 1, 2, 6, 7] [] (yaB ?_)))
   exact zaH
attribute [go_sem] rQ
def aAY (F : Md) (a0_0 : Bool) (a1_1 : qI) (a2_2 : Int) : Option (qi ⊕ ql) :=
 (aBH F a0_0 a1_1 a2_2).bind (fun e => match e with | .inl r_8 => some (.inl r_8) | .inr p_9 => some (.inr p_9))
def tK (F : Md) : iE where
 D := Bool × qI × Int × (qi ⊕ ql)
 av := fun d => [.val (.rp .bool) d.1, .val (.rp qs) d.2.1, .val (.rp qj) d.2.2.1]
 hp := fun d => []
 m := 0
 pre := fun d => aAY F d.1 d.2.1 d.2.2.1 = some d.2.2.2
 out := fun d => match d.2.2.2 with | .inl r => .ret (.val qh r) [] | .inr p => .pan ⟨205, qf, p⟩ []
abbrev aIf (F : Md) : List (FuncId × aF) := []
theorem aIg (F : Md) : bG Tryz.prog GL (aIf F) := .nil
theorem aGA (F : Md) : GOK Tryz.prog GL 131 (tK F) := by
 refine iT (aS (aIg F)) Tryz.func131 rfl xAa (fun _ => Nat.le_of_ble_eq_true rfl) fun c0 w0 d hw1 hw2 h hn => ?_
 have hF : hU ⟨Tryz.prog, EM (aIf F), GM (tK F) c0 d, w0, Tryz.f131.ntmps, []⟩ := ⟨aS (aIg F), mix⟩
 obtain ⟨(a0_0 : Bool), (a1_1 : qI), (a2_2 : Int), r⟩ := d
 replace h : aAY F a0_0 a1_1 a2_2 = some r := h
 have hw1 : AV.wfL [.val (.rp .bool) a0_0, .val (.rp qs) a1_1, .val (.rp qj) a2_2] := hw1
 simp only [AV.wfL, AV.wfV, Ty.wf, gW] at hw1
 show Tri _ _ _ [(0, .roa .bool a0_0), (1, .roa qs a1_1), (2, .roa qj a2_2)] []
 unfold aAY at h
 refine aA (aM hF [0, 1, 2, 3] (yaA ?_))
 obtain ⟨e, he1, h⟩ := bind_some h
 rcases e with r_8 | p_9
 ·try dsimp only at h
  refine aB (aA (aK hF (aY (l := [(132, ⟨rQ F, [], (a0_0, a1_1, a2_2, .inl r_8)⟩)]) (.cons (aCj F) xAa (.nil))) [3] [] (yaB ?_)))
  exact zae
 ·try dsimp only at h
  refine aB (aA (aK hF (aY (l := [(132, ⟨rQ F, [], (a0_0, a1_1, a2_2, .inr p_9)⟩)]) (.cons (aCj F) xAa (.nil))) [3] [] (yaB ?_)))
  exact zaH
attribute [go_sem] tK
def mX : iE where
 D := qi × Int
 av := fun _ => [.ptr 0 [], .ptr 1 []]
 hp := fun d => [.box 3 (.val qh d.1), .box 1 (.val qj d.2)]
 m := 2
 pre := fun _ => True
 out := fun d => .ret (.tup []) [.box 3 (.val qh d.1), .box 1 (.val qj d.2)]
def mY (x : ql) : iE where
 D := qi × Int
 av := fun _ => [.ptr 0 [], .ptr 1 []]
 hp := fun d => [.box 3 (.val qh d.1), .box 1 (.val qj d.2)]
 m := 2
 pre := fun _ => True
 out := fun d => .ret (.tup []) [.box 3 (.val qh (false, ([] : List Nat), (0 : Int), ())), .box 1 (.val qj x.1)]
theorem aFm : DOK Tryz.prog GL 150 none mX := by
 refine aPD (aS aCi) Tryz.func150 rfl xAa (fun _ => Nat.le_of_ble_eq_true rfl) rfl fun c w d hw1 hw2 hp hn => ?_
 have hF : hU ⟨Tryz.prog, EM [], GM mX c d, w, Tryz.f150.ntmps, []⟩ := ⟨aS aCi, mix⟩
 obtain ⟨d, e⟩ := d
 show qS _ _ _ [(5, .val .nili ()), (0, .ptr 0 []), (1, .ptr 1 [])] [.box 3 (.val qh d), .box 1 (.val qj e)] _
 simp only [go_sem]
 refine aA (aD hF [0, 1, 2, 9] (yaA ?_))
 refine aB (bF rfl (fun hc => absurd hc xAb) (fun hc => ?_))
 refine bM ?_
 refine mD [0, 1] rfl rfl (yaC ?_)
 exact zaa
theorem aFn (x : ql) : DOK Tryz.prog GL 150 (some ⟨205, qf, x⟩) (mY x) := by
 refine aPD (aS aCi) Tryz.func150 rfl xAa (fun _ => Nat.le_of_ble_eq_true rfl) rfl fun c w d hw1 hw2 hp hn => ?_
 have hF : hU ⟨Tryz.prog, EM [], GM (mY x) c d, w, Tryz.f150.ntmps, []⟩ := ⟨aS aCi, mix⟩
 obtain ⟨d, e⟩ := d
 show qS _ _ _ [(5, .val (.ifc 205 qf) x), (0, .ptr 0 []), (1, .ptr 1 [])] [.box 3 (.val qh d), .box 1 (.val qj e)] _
 simp only [go_sem]
 refine aA (aD hF [0, 1, 2, 9] (yaA ?_))
 refine aB (bF rfl (fun hc => ?_) (fun hc => absurd hc xAb))
 refine aFi hF [] [] [.box 3 (.val qh (false, ([] : List Nat), (0 : Int), ())), .box 1 (.val qj x.1), .box 1 (.val qf x)] xAb ?_ ?_
 ·simp only [go_sem]
  unfold anyS
  intro i hi
  have hi : i = 0 ∨ i = 1 := by revert hi; revert i; decide
  rcases hi with rfl | rfl
  ·simp only [go_sem]
   skip
   unfold anyS
   intro i hi
   have hi : i = 1 ∨ i = 3 := by revert hi; revert i; decide
   rcases hi with rfl | rfl
   ·simp only [go_sem]
    exact zaR
   ·simp only [go_sem]
    skip
    unfold anyS
    intro i hi
    have hi : i = 1 := by revert hi; revert i; decide
    subst hi
    simp only [go_sem]
    skip
    unfold anyS
    intro i hi
    have hi : i = 2 := by revert hi; revert i; decide
    exact zaE
  ·simp only [go_sem]
   skip
   unfold anyS
   intro i hi
   have hi : i = 0 ∨ i = 2 := by revert hi; revert i; decide
   rcases hi with rfl | rfl
   ·simp only [go_sem]
    exact zaR
   ·simp only [go_sem]
    skip
    unfold anyS
    intro i hi
    have hi : i = 0 := by revert hi; revert i; decide
    subst hi
    simp only [go_sem]
    skip
    unfold anyS
    intro i hi
    have hi : i = 3 := by revert hi; revert i; decide
    exact zaE
 refine mD [0, 1] rfl rfl (yaC ?_)
 exact zaa
def fV (F : Md) (c0 : Bool) (c1 : qI) (c2 : Int) : Option (qi × Int × Unit) :=
 (aAY F c0 c1 c2).bind fun q => some (match q with | .inl r => (r, 0, ()) | .inr p => ((false, ([] : List Nat), (0 : Int), ()), p.1, ()))
def vI : Ty := .pair (.clo 131 (.pair (.rp .bool) (.pair (.rp qs) (.pair (.rp qj) .unit)))) .unit
def kK (F : Md) : aF := mSpec vI (.tup (.pair qh qf)) (fun x => fV F x.1.1 x.1.2.1 x.1.2.2.1)
theorem aCM (F : Md) : FOK Tryz.prog GL 130 (kK F) := by
 refine aHd (aS aCi) Tryz.func130 rfl xAa xAb fun w0 S x r hw h => ?_
 have hF : hU (fr Tryz.prog (EM []) S w0 Tryz.f130.ntmps) := ⟨aS aCi, mix⟩
 obtain ⟨⟨(c0 : Bool), (c1 : qI), (c2 : Int), u1⟩, u⟩ := x
 replace h : fV F c0 c1 c2 = some r := h
 show Tri _ _ _ [(0, .val (.clo 131 (.pair (.rp .bool) (.pair (.rp qs) (.pair (.rp qj) .unit)))) (c0, c1, c2, u1))] []
 unfold fV at h
 obtain ⟨q, hq, h⟩ := bind_some h
 obtain rfl := Option.some.inj h
 refine aA (aM hF [0, 2, 3] (yaA ?_))
 refine aB (aCI 2 [0, 1] rfl rfl (Nat.zero_le _) xAb fun roots hroots => ?_)
 have hF' : hU { fr Tryz.prog (EM []) S w0 Tryz.f130.ntmps with M := ⟨nothing, S, 2, roots⟩, ds := [⟨.fn (.func 150) ([0, 1].map roots).toArray, #[]⟩] } := ⟨aS aCi, mix⟩
 rcases q with q | q
 ·refine aA (aK hF' (aY (l := [(131, ⟨tK F, [], (c0, c1, c2, .inl q)⟩)]) (.cons (aGA F) xAa .nil)) [2, 3] [] (yaA ?_))
  exact zaW
 ·refine aA (aK hF' (aY (l := [(131, ⟨tK F, [], (c0, c1, c2, .inr q)⟩)]) (.cons (aGA F) xAa .nil)) [2, 3] [] (yaA ?_))
  exact zaT
attribute [go_sem] kK vI
def aBI (F : Md) (neg_0 : Bool) (m_1 : qI) (e_2 : Int) : Option (qi × ql) :=
 ck ((fV F neg_0 m_1 e_2).isSome = true) (some (((fV F neg_0 m_1 e_2).getD ((false, ([] : List Nat), (0 : Int), ()), (0 : Int), ())).1, ((fV F neg_0 m_1 e_2).getD ((false, ([] : List Nat), (0 : Int), ()), (0 : Int), ())).2.1, ()))
@[go_sem]def aD7 : Ty := .pair .bool (.pair qs qf)
def vJ (F : Md) : aF := mSpec aD7 (.tup (.pair qh qf)) (fun x => aBI F x.1 x.2.1 x.2.2.1)
abbrev aHg (F : Md) : List (FuncId × aF) := [(130, (kK F))]
theorem aNa (F : Md) : bG Tryz.prog GL (aHg F) := .cons (aCM F) xAa (.nil)
theorem aKE (F : Md) : FOK Tryz.prog GL 93 (vJ F) := by
 refine nY (aS (aNa F)) Tryz.func93 rfl xAa xAb fun w0 S x r hw h => ?_
 have hF : hU (fr Tryz.prog (EM (aHg F)) S w0 Tryz.f93.ntmps) := ⟨aS (aNa F), mix⟩
 obtain ⟨(neg_0 : Bool), (m_1 : qI), (e_2 : Int), u⟩ := x
 simp only [aD7, Ty.wf, gW] at hw
 simp only [bQ, aD7]
 try dsimp only at h
 replace h : aBI F neg_0 m_1 e_2 = some r := h
 unfold aBI at h
 exact zaU
attribute [go_sem] vJ
def gA (F : Md) (d_0 : qi) : Option Bool :=
 if (d_0.2.1.length : Int) = (0 : Int) then some ((!d_0.1) && (decide (d_0.2.2.1 = (0 : Int)))) else (aF9 F d_0.2.1).bind (fun v_5 => ck ((v_5 = true) → ((0 : Int) < (d_0.2.1.length : Int))) (some (((v_5 && (decide (((d_0.2.1.getD (0 : Nat) (0 : Nat)) &&& (1 : Nat)) = (1 : Nat)))) && (decide ((-1048576 : Int) ≤ d_0.2.2.1))) && (decide (d_0.2.2.1 ≤ (1048576 : Int))))))
def aKF : PlR := ⟨[(0, .B [1]), (1, .A [1, 6]), (2, .A [2]), (3, .A [2])], []⟩
def aNc : Ty := .pair qh .unit
def pL (F : Md) : aF := mSpec aNc (.one .bool) (fun x => gA F x.1)
abbrev aNd (F : Md) : List (FuncId × aF) := [(133, (aD2 F))]
theorem aR6 (F : Md) : bG Tryz.prog GL (aNd F) := .cons (aRX F) xAa (.nil)
attribute [go_sem] aNc aKF
theorem aFo (F : Md) : FOK Tryz.prog GL 94 (pL F) := by
 refine bN (aS (aR6 F)) mix Tryz.func94 rfl xAa xAb aKF fun w0 S x Θ hw h hF => ?_
 obtain ⟨(d_0 : qi), u⟩ := x
 simp only [bQ, go_sem]
 replace h : sat (gA F d_0) _ := h
 unfold gA at h
 refine dR h (fun hc h => ?_) fun hc h => ?_
 ·exact aG hF [.tmp 2] rfl rfl rfl (aC h) xAd
 ·obtain ⟨v_5, hv, h⟩ := aJ h
  exact zaJ
attribute [go_sem] pL
def rR (F : Md) (d_0 : qi) : Option Int :=
 (gA F d_0).bind (fun v_7 => if (¬ (v_7 = true)) ∨ ((d_0.2.1.length : Int) = (0 : Int)) then some (0 : Int) else if d_0.1 = true then some (-1 : Int) else some (1 : Int))
def aIh : PlR := ⟨[(0, .B [1]), (1, .A [1, 3]), (2, .A [2]), (3, .A [13]), (4, .A [2]), (5, .A [2])], []⟩
def aKG : Ty := .pair qh .unit
def sE (F : Md) : aF := mSpec aKG (.one qj) (fun x => rR F x.1)
abbrev aKH (F : Md) : List (FuncId × aF) := [(94, (pL F))]
theorem aQ4 (F : Md) : bG Tryz.prog GL (aKH F) := .cons (aFo F) xAa (.nil)
attribute [go_sem] aKG aIh
theorem aIi (F : Md) : FOK Tryz.prog GL 66 (sE F) := by
 refine bN (aS (aQ4 F)) mix Tryz.func66 rfl xAa xAb aIh fun w0 S x Θ hw h hF => ?_
 obtain ⟨(d_0 : qi), u⟩ := x
 simp only [bQ, go_sem]
 replace h : sat (rR F d_0) _ := h
 unfold rR at h
 obtain ⟨v_7, hv, h⟩ := aJ h
 try simp only [hv, go_sem]
 refine ⟨fun hc => ?_, fun hc => ?_⟩
 ·replace h := jA zAB h
  exact zaB
 ·replace h := jB zAB h
  exact zaS
attribute [go_sem] sE
def aCk (F : Md) (a_0 : qi) (b_1 : qi) : Option Int :=
 (aBA F a_0.2.1).bind (fun v_13 => ck (I64 (v_13 + a_0.2.2.1)) ((aBA F b_1.2.1).bind (fun v_14 => ck (I64 (v_14 + b_1.2.2.1)) (if (v_13 + a_0.2.2.1) < (v_14 + b_1.2.2.1) then some (-1 : Int) else if (v_14 + b_1.2.2.1) < (v_13 + a_0.2.2.1) then some (1 : Int) else ck (I64 (a_0.2.2.1 - (min a_0.2.2.1 b_1.2.2.1))) ((kA F a_0.2.1 (a_0.2.2.1 - (min a_0.2.2.1 b_1.2.2.1))).bind (fun v_30 => ck (I64 (b_1.2.2.1 - (min a_0.2.2.1 b_1.2.2.1))) ((kA F b_1.2.1 (b_1.2.2.1 - (min a_0.2.2.1 b_1.2.2.1))).bind (fun v_31 => (rP F v_30 v_31).bind (fun v_32 => some v_32)))))))))
def aIj : PlR := ⟨[(0, .B [2, 3]), (1, .A [2, 3, 5, 6]), (2, .A [2, 3, 5, 6, 20]), (3, .A [4]), (4, .A [2, 3, 24]), (5, .A [4]), (6, .A [2, 3, 7]), (7, .A [4])], []⟩
def aKI : Ty := .pair qh (.pair qh .unit)
def aAZ (F : Md) : aF := mSpec aKI (.one qj) (fun x => aCk F x.1 x.2.1)
abbrev aCl (F : Md) : List (FuncId × aF) := [(100, (oC F)), (122, (vG F)), (134, (aCf F))]
theorem aQ5 (F : Md) : bG Tryz.prog GL (aCl F) := .cons (aD3 F) xAa (.cons (aKy F) xAa (.cons (aQY F) xAa (.nil)))
attribute [go_sem] aKI aIj
theorem aPT (F : Md) : FOK Tryz.prog GL 95 (aAZ F) := by
 refine bN (aS (aQ5 F)) mix Tryz.func95 rfl xAa xAb aIj fun w0 S x Θ hw h hF => ?_
 obtain ⟨(a_0 : qi), (b_1 : qi), u⟩ := x
 simp only [bQ, go_sem]
 replace h : sat (aCk F a_0 b_1) _ := h
 unfold aCk at h
 obtain ⟨v_13, hv, h⟩ := aJ h
 try simp only [hv, go_sem]
 refine aU h fun g0 h => ?_
 obtain ⟨v_14, hv, h⟩ := aJ h
 try simp only [hv, go_sem]
 refine aU h fun g0 h => ?_
 refine fZ h (fun hc h => ?_) fun hc h => ?_
 ·exact aG hF [.tmp 4] rfl rfl rfl (aC h) xAd
 ·refine fZ h (fun hc h => ?_) fun hc h => ?_
  ·exact aG hF [.tmp 4] rfl rfl rfl (aC h) xAd
  ·refine aU h fun g0 h => ?_
   obtain ⟨v_30, hv, h⟩ := aJ h
   try simp only [hv, go_sem]
   refine aU h fun g0 h => ?_
   obtain ⟨v_31, hv, h⟩ := aJ h
   try simp only [hv, go_sem]
   obtain ⟨v_32, hv, h⟩ := aJ h
   exact zaP
attribute [go_sem] aAZ
def yJ (F : Md) (a_0 : qi) (b_1 : qi) : Option Int :=
 (rR F a_0).bind (fun v_13 => (rR F b_1).bind (fun v_14 => (gA F a_0).bind (fun v_20 => ck (¬ (¬ (v_20 = true)) → ((gA F b_1).isSome = true)) (if (¬ (v_20 = true)) ∨ (¬ (((gA F b_1).getD false) = true)) then some (0 : Int) else if (¬ (v_13 = v_14)) ∧ (v_13 < v_14) then some (-1 : Int) else if ¬ (v_13 = v_14) then some (1 : Int) else if v_13 = (0 : Int) then some (0 : Int) else (aCk F a_0 b_1).bind (fun v_24 => ck (I64 (v_13 * v_24)) (some (v_13 * v_24)))))))
def aKJ : PlR := ⟨[(0, .B [2, 3]), (1, .A [2, 3, 5, 6]), (2, .A [2, 3, 5, 6, 11]), (3, .A [4]), (4, .A [2, 3, 5, 6, 20]), (5, .A [4]), (6, .A [2, 3, 5, 29]), (7, .A [4]), (8, .A [2, 3, 5, 33]), (9, .A [4]), (10, .A [4])], []⟩
def aNg : Ty := .pair qh (.pair qh .unit)
def vK (F : Md) : aF := mSpec aNg (.one qj) (fun x => yJ F x.1 x.2.1)
abbrev aD8 (F : Md) : List (FuncId × aF) := [(66, (sE F)), (94, (pL F)), (95, (aAZ F))]
theorem aR7 (F : Md) : bG Tryz.prog GL (aD8 F) := .cons (aIi F) xAa (.cons (aFo F) xAa (.cons (aPT F) xAa (.nil)))
attribute [go_sem] aNg aKJ
theorem aKK (F : Md) : FOK Tryz.prog GL 67 (vK F) := by
 refine bN (aS (aR7 F)) mix Tryz.func67 rfl xAa xAb aKJ fun w0 S x Θ hw h hF => ?_
 obtain ⟨(a_0 : qi), (b_1 : qi), u⟩ := x
 simp only [bQ, go_sem]
 replace h : sat (yJ F a_0 b_1) _ := h
 unfold yJ at h
 obtain ⟨v_13, hv, h⟩ := aJ h
 try simp only [hv, go_sem]
 obtain ⟨v_14, hv, h⟩ := aJ h
 try simp only [hv, go_sem]
 obtain ⟨v_20, hv, h⟩ := aJ h
 try simp only [hv, go_sem]
 obtain ⟨g0, h⟩ := aL h
 repeat (refine ⟨zAE, ?_⟩)
 refine ⟨fun hc => ?_, fun hc => ?_⟩
 ·replace h := jA zAB h
  exact zaA
 ·replace h := jB zAB h
  refine ⟨fun hc => ?_, fun hc => ?_⟩
  ·replace h := jA hc h
   exact zaA
  ·replace h := jB hc h
   refine dR h (fun hc h => ?_) fun hc h => ?_
   ·exact aG hF [.tmp 4] rfl rfl rfl (aC h) xAd
   ·refine dR h (fun hc h => ?_) fun hc h => ?_
    ·exact aG hF [.tmp 4] rfl rfl rfl (aC h) xAd
    ·obtain ⟨v_24, hv, h⟩ := aJ h
     try simp only [hv, go_sem]
     obtain ⟨g0, h⟩ := aL h
     try simp only [I64, I32] at g0
     repeat (refine ⟨zAA, ?_⟩)
     exact zaA
attribute [go_sem] vK
def wJ (F : Md) (n_0 : Int) (e_1 : Int) (m_3 : Nat) : Option (qi × ql) :=
 (aBC F ([m_3] : List Nat)).bind (fun v_6 => (aBI F (decide (n_0 < (0 : Int))) v_6 e_1).bind (fun v_7 => some (v_7.1, v_7.2.1, ())))
def aGa (F : Md) (n_0 : Int) (e_1 : Int) : Option (qi × ql) :=
 if n_0 < (0 : Int) then wJ F n_0 e_1 (aPE F .u64 (n_0 % (18446744073709551616 : Int)).toNat) else wJ F n_0 e_1 (n_0 % (18446744073709551616 : Int)).toNat
def aNh : PlR := ⟨[(0, .B [0, 1, 4]), (1, .A [0, 1, 4, 6]), (2, .A [0, 1, 4, 6, 10]), (3, .A [0, 1, 4, 6]), (4, .B [4, 5])], [(5, 7)]⟩
def aO8 : Ty := .pair qj qf
def aD9 (F : Md) : aF := mSpec aO8 (.tup (.pair qh qf)) (fun x => aGa F x.1 x.2.1)
abbrev aJK (F : Md) : List (FuncId × aF) := [(129, (vF F)), (93, (vJ F))]
theorem aT1 (F : Md) : bG Tryz.prog GL (aJK F) := .cons (aKu F) xAa (.cons (aKE F) xAa (.nil))
attribute [go_sem] aO8 aNh
theorem aR8 (F : Md) : FOK Tryz.prog GL 96 (aD9 F) := by
 refine bN (aS (aT1 F)) mix Tryz.func96 rfl xAa xAb aNh fun w0 S x Θ hw h hF => ?_
 obtain ⟨(n_0 : Int), (e_1 : Int), u⟩ := x
 simp only [bQ, go_sem]
 replace h : sat (aGa F n_0 e_1) _ := h
 unfold aGa at h
 refine dU hF (D := Nat) (fun d => sat (wJ F n_0 e_1 d) Θ) [0, 1] (fun d => [(4, .ptr 0 []), (6, .val qn d)]) (fun d => [.inr (.box 3 (.val qh (false, ([] : List Nat), (0 : Int), ())))]) ?_ ?_
 ·simp only [go_sem, bH F, bI F, bJ F]
  refine fZ h (fun hc h => ?_) fun hc h => ?_
  ·exact aW (aPE F .u64 (n_0 % (18446744073709551616 : Int)).toNat) h rfl xAe
  ·exact aW (n_0 % (18446744073709551616 : Int)).toNat h rfl xAe
 ·rintro m_3 h
  simp only [go_sem, bH F, bI F, bJ F]
  replace h : sat (wJ F n_0 e_1 m_3) _ := h
  unfold wJ at h
  obtain ⟨v_6, hv, h⟩ := aJ h
  try simp only [hv, go_sem, bH F, bI F, bJ F]
  obtain ⟨v_7, hv, h⟩ := aJ h
  try simp only [hv, go_sem, bH F, bI F, bJ F]
  exact aG hF [.cell 4 117, .tmp 5] rfl rfl rfl (aC h) xAf
attribute [go_sem] aD9
def wK (F : Md) (a_0 : qi) (b_1 : qi) : Option (qi ⊕ ql) :=
 ck ((iU F a_0.2.1 b_1.2.1).isSome = true) (ck (I64 (a_0.2.2.1 + b_1.2.2.1)) ((aBH F (a_0.1 != b_1.1) ((iU F a_0.2.1 b_1.2.1).getD ([] : List Nat)) (a_0.2.2.1 + b_1.2.2.1)).bind (fun e => match e with | .inl r_7 => some (.inl r_7) | .inr p_8 => some (.inr p_8))))
def oS (F : Md) : iE where
 D := qi × qi × (qi ⊕ ql)
 av := fun d => [.val qh d.1, .val qh d.2.1]
 hp := fun d => []
 m := 0
 pre := fun d => wK F d.1 d.2.1 = some d.2.2
 out := fun d => match d.2.2 with | .inl r => .ret (.val qh r) [] | .inr p => .pan ⟨205, qf, p⟩ []
abbrev aEa (F : Md) : List (FuncId × aF) := [(90, (fL F))]
theorem aIk (F : Md) : bG Tryz.prog GL (aEa F) := .cons (sC F) xAa (.nil)
theorem zB (F : Md) : GOK Tryz.prog GL 136 (oS F) := by
 refine iT (aS (aIk F)) Tryz.func136 rfl xAa (fun _ => Nat.le_of_ble_eq_true rfl) fun c0 w0 d hw1 hw2 h hn => ?_
 have hF : hU ⟨Tryz.prog, EM (aEa F), GM (oS F) c0 d, w0, Tryz.f136.ntmps, []⟩ := ⟨aS (aIk F), mix⟩
 obtain ⟨(a_0 : qi), (b_1 : qi), r⟩ := d
 replace h : wK F a_0 b_1 = some r := h
 have hw1 : AV.wfL [.val qh a_0, .val qh b_1] := hw1
 simp only [AV.wfL, AV.wfV, Ty.wf, gW] at hw1
 show Tri _ _ _ [(0, .val qh a_0), (1, .val qh b_1)] []
 unfold wK at h
 refine aA (aM hF [2, 3, 4] (yaA ?_))
 obtain ⟨g0, h⟩ := aI h
 obtain ⟨g1, h⟩ := aI h
 try simp only [I64, I32] at g1
 obtain ⟨e, he1, h⟩ := bind_some h
 rcases e with r_7 | p_8
 ·try dsimp only at h
  refine aB (aA (sB hF (aY (l := [(132, ⟨rQ F, [], ((a_0.1 != b_1.1), ((iU F a_0.2.1 b_1.2.1).getD ([] : List Nat)), (a_0.2.2.1 + b_1.2.2.1), .inl r_7)⟩)]) (.cons (aCj F) xAa (.nil))) 15 xAb [4] [] (yaB ?_)))
  simp only [aML, go_sem]
  repeat (refine ⟨zAA, ?_⟩)
  obtain rfl := Option.some.inj h
  refine aB (bX (jV hF [.cell 4 117] [] rfl rfl rfl rfl rfl rfl rfl rfl rfl ?_))
  exact zaD
 ·try dsimp only at h
  refine aB (aA (sB hF (aY (l := [(132, ⟨rQ F, [], ((a_0.1 != b_1.1), ((iU F a_0.2.1 b_1.2.1).getD ([] : List Nat)), (a_0.2.2.1 + b_1.2.2.1), .inr p_8)⟩)]) (.cons (aCj F) xAa (.nil))) 15 xAb [4] [] (yaB ?_)))
  simp only [aML, go_sem]
  repeat (refine ⟨zAA, ?_⟩)
  exact zaH
attribute [go_sem] oS
def lJ (F : Md) (a0_0 : qi) (a1_1 : qi) (a2_2 : Unit) : Option (qi ⊕ ql) :=
 ck ((gA F a0_0).isSome = true) (if ((gA F a0_0).getD false) = true then ck ((gA F a1_1).isSome = true) ((oD F (((gA F a0_0).getD false) && ((gA F a1_1).getD false)) (1 : Int)).bind (fun e => match e with | .inl r_12 => (wK F a0_0 a1_1).bind (fun e => match e with | .inl r_20 => some (.inl r_20) | .inr p_21 => some (.inr p_21)) | .inr p_13 => some (.inr p_13))) else (oD F false (1 : Int)).bind (fun e => match e with | .inl r_14 => (wK F a0_0 a1_1).bind (fun e => match e with | .inl r_26 => some (.inl r_26) | .inr p_27 => some (.inr p_27)) | .inr p_15 => some (.inr p_15)))
def iF (F : Md) : iE where
 D := qi × qi × Unit × (qi ⊕ ql)
 av := fun d => [.val (.rp qh) d.1, .val (.rp qh) d.2.1, .val (.rp (.clo 136 .unit)) d.2.2.1]
 hp := fun d => []
 m := 0
 pre := fun d => lJ F d.1 d.2.1 d.2.2.1 = some d.2.2.2
 out := fun d => match d.2.2.2 with | .inl r => .ret (.val qh r) [] | .inr p => .pan ⟨205, qf, p⟩ []
abbrev pE (F : Md) : List (FuncId × aF) := [(94, (pL F))]
theorem vL (F : Md) : bG Tryz.prog GL (pE F) := .cons (aFo F) xAa (.nil)
theorem tL (F : Md) : GOK Tryz.prog GL 153 (iF F) := by
 refine iT (aS (vL F)) Tryz.func153 rfl xAa (fun _ => Nat.le_of_ble_eq_true rfl) fun c0 w0 d hw1 hw2 h hn => ?_
 have hF : hU ⟨Tryz.prog, EM (pE F), GM (iF F) c0 d, w0, Tryz.f153.ntmps, []⟩ := ⟨aS (vL F), mix⟩
 obtain ⟨(a0_0 : qi), (a1_1 : qi), (a2_2 : Unit), r⟩ := d
 replace h : lJ F a0_0 a1_1 a2_2 = some r := h
 have hw1 : AV.wfL [.val (.rp qh) a0_0, .val (.rp qh) a1_1, .val (.rp (.clo 136 .unit)) a2_2] := hw1
 simp only [AV.wfL, AV.wfV, Ty.wf, gW] at hw1
 show Tri _ _ _ [(0, .roa qh a0_0), (1, .roa qh a1_1), (2, .roa (.clo 136 .unit) a2_2)] []
 unfold lJ at h
 refine aA (aM hF [0, 1, 2, 3] (yaA ?_))
 obtain ⟨g0, h⟩ := aI h
 by_cases hq : ((gA F a0_0).getD false) = true
 ·have h := dT hq h
  obtain ⟨g1, h⟩ := aI h
  obtain ⟨e, he1, h⟩ := bind_some h
  rcases e with r_12 | p_13
  ·try dsimp only at h
   refine aB (aA (aK hF (aY (l := [(152, ⟨eS F, [], ((((gA F a0_0).getD false) && ((gA F a1_1).getD false)), (1 : Int), .inl r_12)⟩)]) (.cons (iL F) xAa (.nil))) [0, 1, 2, 3] [] (yaB ?_)))
   refine ⟨fun _ => (yaE ?_), fun hx => by first | (exfalso; omega) | (exfalso; simp_all; done)⟩
   refine ⟨fun _ => (yaE ?_), fun hx => by first | (exfalso; omega) | (exfalso; simp_all; done)⟩
   obtain ⟨e, he2, h⟩ := bind_some h
   rcases e with r_20 | p_21
   ·try dsimp only at h
    refine aB (aA (aK hF (aY (l := [(136, ⟨oS F, [], (a0_0, a1_1, .inl r_20)⟩)]) (.cons (zB F) xAa (.nil))) [3] [] (yaB ?_)))
    exact zae
   ·try dsimp only at h
    refine aB (aA (aK hF (aY (l := [(136, ⟨oS F, [], (a0_0, a1_1, .inr p_21)⟩)]) (.cons (zB F) xAa (.nil))) [3] [] (yaB ?_)))
    exact zaH
  ·try dsimp only at h
   refine aB (aA (aK hF (aY (l := [(152, ⟨eS F, [], ((((gA F a0_0).getD false) && ((gA F a1_1).getD false)), (1 : Int), .inr p_13)⟩)]) (.cons (iL F) xAa (.nil))) [0, 1, 2, 3] [] (yaB ?_)))
   exact zaf
 ·have h := dP hq h
  obtain ⟨e, he3, h⟩ := bind_some h
  rcases e with r_14 | p_15
  ·try dsimp only at h
   refine aB (aA (aK hF (aY (l := [(152, ⟨eS F, [], (false, (1 : Int), .inl r_14)⟩)]) (.cons (iL F) xAa (.nil))) [0, 1, 2, 3] [] (yaB ?_)))
   first | (refine ⟨fun hx => by first | (exfalso; omega) | (exfalso; simp_all; done), fun _ => ?_⟩) | (with_reducible intro _) | skip
   repeat (refine ⟨zAA, ?_⟩)
   first | (refine ⟨fun hx => by first | (exfalso; omega) | (exfalso; simp_all; done), fun _ => ?_⟩) | (with_reducible intro _) | skip
   repeat (refine ⟨zAA, ?_⟩)
   obtain ⟨e, he4, h⟩ := bind_some h
   rcases e with r_26 | p_27
   ·try dsimp only at h
    refine aB (aA (aK hF (aY (l := [(136, ⟨oS F, [], (a0_0, a1_1, .inl r_26)⟩)]) (.cons (zB F) xAa (.nil))) [3] [] (yaB ?_)))
    exact zae
   ·try dsimp only at h
    refine aB (aA (aK hF (aY (l := [(136, ⟨oS F, [], (a0_0, a1_1, .inr p_27)⟩)]) (.cons (zB F) xAa (.nil))) [3] [] (yaB ?_)))
    exact zaH
  ·try dsimp only at h
   refine aB (aA (aK hF (aY (l := [(152, ⟨eS F, [], (false, (1 : Int), .inr p_15)⟩)]) (.cons (iL F) xAa (.nil))) [0, 1, 2, 3] [] (yaB ?_)))
   exact zaV
attribute [go_sem] iF
def cX (F : Md) (c0 : qi) (c1 : qi) (c2 : Unit) : Option (qi × Int × Unit) :=
 (lJ F c0 c1 c2).bind fun q => some (match q with | .inl r => (r, 0, ()) | .inr p => ((false, ([] : List Nat), (0 : Int), ()), p.1, ()))
def nD : Ty := .pair (.clo 153 (.pair (.rp qh) (.pair (.rp qh) (.pair (.rp (.clo 136 .unit)) .unit)))) .unit
def eN (F : Md) : aF := mSpec nD (.tup (.pair qh qf)) (fun x => cX F x.1.1 x.1.2.1 x.1.2.2.1)
theorem tM (F : Md) : FOK Tryz.prog GL 130 (eN F) := by
 refine aHd (aS aCi) Tryz.func130 rfl xAa xAb fun w0 S x r hw h => ?_
 have hF : hU (fr Tryz.prog (EM []) S w0 Tryz.f130.ntmps) := ⟨aS aCi, mix⟩
 obtain ⟨⟨(c0 : qi), (c1 : qi), (c2 : Unit), u1⟩, u⟩ := x
 replace h : cX F c0 c1 c2 = some r := h
 show Tri _ _ _ [(0, .val (.clo 153 (.pair (.rp qh) (.pair (.rp qh) (.pair (.rp (.clo 136 .unit)) .unit)))) (c0, c1, c2, u1))] []
 unfold cX at h
 obtain ⟨q, hq, h⟩ := bind_some h
 obtain rfl := Option.some.inj h
 refine aA (aM hF [0, 2, 3] (yaA ?_))
 refine aB (aCI 2 [0, 1] rfl rfl (Nat.zero_le _) xAb fun roots hroots => ?_)
 have hF' : hU { fr Tryz.prog (EM []) S w0 Tryz.f130.ntmps with M := ⟨nothing, S, 2, roots⟩, ds := [⟨.fn (.func 150) ([0, 1].map roots).toArray, #[]⟩] } := ⟨aS aCi, mix⟩
 rcases q with q | q
 ·refine aA (aK hF' (aY (l := [(153, ⟨iF F, [], (c0, c1, c2, .inl q)⟩)]) (.cons (tL F) xAa .nil)) [2, 3] [] (yaA ?_))
  exact zaW
 ·refine aA (aK hF' (aY (l := [(153, ⟨iF F, [], (c0, c1, c2, .inr q)⟩)]) (.cons (tL F) xAa .nil)) [2, 3] [] (yaA ?_))
  exact zaT
attribute [go_sem] eN nD
def nK (F : Md) (a_0 : qi) (b_1 : qi) (do_2 : Unit) : Option (qi × ql) :=
 ck ((cX F a_0 b_1 do_2).isSome = true) (some (((cX F a_0 b_1 do_2).getD ((false, ([] : List Nat), (0 : Int), ()), (0 : Int), ())).1, ((cX F a_0 b_1 do_2).getD ((false, ([] : List Nat), (0 : Int), ()), (0 : Int), ())).2.1, ()))
@[go_sem]def nL : Ty := .pair qh (.pair qh (.pair (.clo 136 .unit) .unit))
def mH (F : Md) : aF := mSpec nL (.tup (.pair qh qf)) (fun x => nK F x.1 x.2.1 x.2.2.1)
abbrev qU (F : Md) : List (FuncId × aF) := [(130, (eN F))]
theorem xQ (F : Md) : bG Tryz.prog GL (qU F) := .cons (tM F) xAa (.nil)
theorem aEb (F : Md) : FOK Tryz.prog GL 135 (mH F) := by
 refine nY (aS (xQ F)) Tryz.func135 rfl xAa xAb fun w0 S x r hw h => ?_
 have hF : hU (fr Tryz.prog (EM (qU F)) S w0 Tryz.f135.ntmps) := ⟨aS (xQ F), mix⟩
 obtain ⟨(a_0 : qi), (b_1 : qi), (do_2 : Unit), u⟩ := x
 simp only [nL, Ty.wf, gW] at hw
 simp only [bQ, nL]
 try dsimp only at h
 replace h : nK F a_0 b_1 do_2 = some r := h
 unfold nK at h
 exact zaU
attribute [go_sem] mH
def aEc (F : Md) (a_0 : qi) (b_1 : qi) : Option (qi × ql) :=
 (nK F a_0 b_1 ()).bind (fun v_6 => some (v_6.1, v_6.2.1, ()))
def aKL : PlR := ⟨[(0, .B [2, 3, 4]), (1, .B [4, 5])], []⟩
def aNi : Ty := .pair qh (.pair qh .unit)
def aCm (F : Md) : aF := mSpec aNi (.tup (.pair qh qf)) (fun x => aEc F x.1 x.2.1)
abbrev aNj (F : Md) : List (FuncId × aF) := [(135, (mH F))]
theorem aR9 (F : Md) : bG Tryz.prog GL (aNj F) := .cons (aEb F) xAa (.nil)
attribute [go_sem] aNi aKL
theorem aQ6 (F : Md) : FOK Tryz.prog GL 97 (aCm F) := by
 refine bN (aS (aR9 F)) mix Tryz.func97 rfl xAa xAb aKL fun w0 S x Θ hw h hF => ?_
 obtain ⟨(a_0 : qi), (b_1 : qi), u⟩ := x
 simp only [bQ, go_sem]
 replace h : sat (aEc F a_0 b_1) _ := h
 unfold aEc at h
 obtain ⟨v_6, hv, h⟩ := aJ h
 try simp only [hv, go_sem]
 exact aG hF [.cell 4 117, .tmp 5] rfl rfl rfl (aC h) xAd
attribute [go_sem] aCm
end
end Nu
end Go.Proofs
namespace Go.Proofs
open Go.Vc
set_option maxRecDepth 20000
namespace Nu
noncomputable section
set_option maxHeartbeats 4000000
def kB : ByteArray := ⟨⟨97 :: 98 :: 99 :: 100 :: 101 :: 102 :: 103 :: 104 :: 105 :: 106 :: 107 :: 108 :: 109 :: 110 :: 111 :: 112 :: 113 :: 114 :: 115 :: 116 :: 117 :: 118 :: 119 :: 120 :: 121 :: 122 :: 48 :: 49 :: 50 :: 51 :: 52 :: 53 :: 54 :: 55 :: 56 :: 57 :: 95 :: []⟩⟩
@[go_sem]theorem aOj : (⟨⟨97 :: 98 :: 99 :: 100 :: 101 :: 102 :: 103 :: 104 :: 105 :: 106 :: 107 :: 108 :: 109 :: 110 :: 111 :: 112 :: 113 :: 114 :: 115 :: 116 :: 117 :: 118 :: 119 :: 120 :: 121 :: 122 :: 48 :: 49 :: 50 :: 51 :: 52 :: 53 :: 54 :: 55 :: 56 :: 57 :: 95 :: []⟩⟩ : ByteArray) = kB := rfl
def nE (F : Md) (c_1 : Nat) (s_5 : qI) : Option (qI ⊕ qI) :=
 ck (((0 : Int) < (s_5.length : Int)) → (I64 ((s_5.length : Int) - (1 : Int)))) (ck (((0 : Int) < (s_5.length : Int)) → (0 ≤ ((s_5.length : Int) - (1 : Int)) ∧ ((s_5.length : Int) - (1 : Int)) < (s_5.length : Int))) (if ((0 : Int) < (s_5.length : Int)) ∧ ((s_5.getD ((s_5.length : Int) - (1 : Int)).toNat (0 : Nat)) = c_1) then ck (I64 ((s_5.length : Int) - (1 : Int))) (ck (0 ≤ ((s_5.length : Int) - (1 : Int)) ∧ ((s_5.length : Int) - (1 : Int)) ≤ (s_5.length : Int)) (some (.inl (List.take ((s_5.length : Int) - (1 : Int)).toNat s_5)))) else some (.inr s_5)))
def lK (F : Md) (s_0 : qI) (c_1 : Nat) : Option qI :=
 (dI F (fun d : qI => nE F c_1 d) s_0).bind (fun e => some e)
def tN : PlR := ⟨[(0, .A [0, 1]), (1, .A [0, 1, 16]), (2, .A [0, 1]), (3, .A [4])], []⟩
def vM : Ty := .pair .str wh
def kL (F : Md) : aF := mSpec vM (.one .str) (fun x => lK F x.1 x.2.1)
abbrev aDg (F : Md) : List (FuncId × aF) := []
theorem aDh (F : Md) : bG Tryz.prog GL (aDg F) := .nil
attribute [go_sem] vM tN
theorem aCN (F : Md) : FOK Tryz.prog GL 36 (kL F) := by
 refine bN (aS (aDh F)) mix Tryz.func36 rfl xAa xAb tN fun w0 S x Θ hw h hF => ?_
 obtain ⟨(s_0 : qI), (c_1 : Nat), u⟩ := x
 simp only [bQ, go_sem]
 replace h : sat (lK F s_0 c_1) _ := h
 unfold lK at h
 refine cI hF (D := qI) [1] (fun d => [(0, .val .str d)]) (fun d => []) h rfl xAc ?_
 rintro s_5 A1 T1 hA1 hE1 h
 simp only [go_sem]
 replace h : sat (nE F c_1 s_5) _ := h
 unfold nE at h
 refine aU h fun g0 h => aU h fun g1 h => ?_
 refine ⟨fun hc => ?_, fun hc => ?_⟩
 ·replace h := jA hc h
  refine aU h fun g0 h => aU h fun g1 h => ?_
  replace h := hA1 _ (aC h)
  exact zaF
 ·replace h := jB hc h
  replace h := yaF (hE1 _ (aC h))
  exact zaA
attribute [go_sem] kL
def nV (F : Md) (c_1 : Nat) (s_5 : qI) : Option (qI ⊕ qI) :=
 ck (((0 : Int) < (s_5.length : Int)) → ((0 : Int) < (s_5.length : Int))) (if ((0 : Int) < (s_5.length : Int)) ∧ ((s_5.getD (0 : Nat) (0 : Nat)) = c_1) then ck ((1 : Int) ≤ (s_5.length : Int)) (some (.inl (List.drop (1 : Nat) s_5))) else some (.inr s_5))
def mI (F : Md) (s_0 : qI) (c_1 : Nat) : Option qI :=
 (dI F (fun d : qI => nV F c_1 d) s_0).bind (fun e => some e)
def vN : PlR := ⟨[(0, .A [0, 1]), (1, .A [0, 1, 13]), (2, .A [0, 1]), (3, .A [4])], []⟩
def wL : Ty := .pair .str wh
def lL (F : Md) : aF := mSpec wL (.one .str) (fun x => mI F x.1 x.2.1)
abbrev aEd (F : Md) : List (FuncId × aF) := []
theorem aEe (F : Md) : bG Tryz.prog GL (aEd F) := .nil
attribute [go_sem] wL vN
theorem aDi (F : Md) : FOK Tryz.prog GL 35 (lL F) := by
 refine bN (aS (aEe F)) mix Tryz.func35 rfl xAa xAb vN fun w0 S x Θ hw h hF => ?_
 obtain ⟨(s_0 : qI), (c_1 : Nat), u⟩ := x
 simp only [bQ, go_sem]
 replace h : sat (mI F s_0 c_1) _ := h
 unfold mI at h
 refine cI hF (D := qI) [1] (fun d => [(0, .val .str d)]) (fun d => []) h rfl xAc ?_
 rintro s_5 A1 T1 hA1 hE1 h
 simp only [go_sem]
 replace h : sat (nV F c_1 s_5) _ := h
 unfold nV at h
 refine aU h fun g0 h => ?_
 refine ⟨fun hc => ?_, fun hc => ?_⟩
 ·replace h := jA hc h
  refine aU h fun g0 h => ?_
  replace h := hA1 _ (aC h)
  exact zaF
 ·replace h := jB hc h
  replace h := yaF (hE1 _ (aC h))
  exact zaA
attribute [go_sem] lL
def cW (F : Md) (as_0 : we) (c_1 : Nat) : Option Bool :=
 ck (0 ≤ ((c_1 : Nat) : Int) ∧ ((c_1 : Nat) : Int) < (256 : Int)) (some (as_0.getD c_1 false))
def qE : PlR := ⟨[(0, .A [0, 1]), (1, .A [4])], []⟩
def qZ : Ty := .pair (.rp (.arr 256 .bool)) wh
def dV (F : Md) : aF := mSpec qZ (.one .bool) (fun x => cW F x.1 x.2.1)
abbrev aA0 (F : Md) : List (FuncId × aF) := []
theorem aA1 (F : Md) : bG Tryz.prog GL (aA0 F) := .nil
attribute [go_sem] qZ qE
theorem qF (F : Md) : FOK Tryz.prog GL 55 (dV F) := by
 refine bN (aS (aA1 F)) mix Tryz.func55 rfl xAa xAb qE fun w0 S x Θ hw h hF => ?_
 obtain ⟨(as_0 : we), (c_1 : Nat), u⟩ := x
 simp only [bQ, go_sem]
 replace h : sat (cW F as_0 c_1) _ := h
 unfold cW at h
 refine aU h fun g0 h => ?_
 exact zaA
attribute [go_sem] dV
def nW (F : Md) (chars_0 : qI) (i_6 : Int) (as_7 : we) : Option ((Int × we) ⊕ (we ⊕ (we × wa))) :=
 if i_6 < (chars_0.length : Int) then ck (0 ≤ i_6 ∧ i_6 < (chars_0.length : Int)) (if (128 : Nat) ≤ (chars_0.getD (i_6.toNat) (0 : Nat)) then some (.inr (.inr (as_7, false, ()))) else ck (0 ≤ (((chars_0.getD (i_6.toNat) (0 : Nat)) : Nat) : Int) ∧ (((chars_0.getD (i_6.toNat) (0 : Nat)) : Nat) : Int) < (256 : Int)) (ck (I64 (i_6 + (1 : Int))) (some (.inl ((i_6 + (1 : Int)), (as_7.set (chars_0.getD (i_6.toNat) (0 : Nat)) true)))))) else some (.inr (.inl as_7))
def gU (F : Md) (chars_0 : qI) : Option (we × wa) :=
 (dI F (fun d : Int × we => nW F chars_0 d.1 d.2) ((0 : Int), (List.replicate 256 false))).bind (fun e => match e with | (.inl e) => some (e, true, ()) | (.inr e) => some e)
def vO : PlR := ⟨[(0, .B [0, 2]), (1, .A [0, 2, 4]), (2, .A [0, 2, 4, 9]), (3, .A [0, 2, 4]), (4, .A [0, 2, 4, 5]), (5, .A [0, 2, 4, 5, 16]), (6, .B [2, 3]), (7, .B [0, 2, 4]), (8, .B [2, 3])], []⟩
def wM : Ty := .pair .str .unit
def lM (F : Md) : aF := mSpec wM (.tup (.pair (.arr 256 .bool) (.pair .bool .unit))) (fun x => gU F x.1)
abbrev aEf (F : Md) : List (FuncId × aF) := []
theorem aEg (F : Md) : bG Tryz.prog GL (aEf F) := .nil
attribute [go_sem] wM vO
theorem aDj (F : Md) : FOK Tryz.prog GL 37 (lM F) := by
 refine bN (aS (aEg F)) mix Tryz.func37 rfl xAa xAb vO fun w0 S x Θ hw h hF => ?_
 obtain ⟨(chars_0 : qI), u⟩ := x
 simp only [bQ, go_sem]
 replace h : sat (gU F chars_0) _ := h
 unfold gU at h
 refine cI hF (D := Int × we) [0] (fun d => [(2, .ptr 0 []), (4, .val qj d.1)]) (fun d => [.inr (.box 256 (.val (.arr 256 .bool) d.2))]) h rfl xAc ?_
 rintro ⟨i_6, as_7⟩ A2 T2 hA2 hE2 h
 simp only [go_sem]
 replace h : sat (nW F chars_0 i_6 as_7) _ := h
 unfold nW at h
 refine fZ h (fun hc h => ?_) fun hc h => ?_
 ·obtain ⟨g0, h⟩ := aL h
  repeat (refine ⟨by omega, ?_⟩)
  refine dR h (fun hc h => ?_) fun hc h => ?_
  ·replace h := yaF (hE2 _ (aC h))
   exact aG hF [.cell 2 88, .tmp 3] rfl rfl rfl (aC h) xAd
  ·obtain ⟨g0, h⟩ := aL h
   repeat (refine ⟨by omega, ?_⟩)
   obtain ⟨g0, h⟩ := aL h
   repeat (refine ⟨by omega, ?_⟩)
   replace h := hA2 _ (aC h)
   exact zaF
 ·replace h := yaF (hE2 _ (aC h))
  exact aG hF [.cell 2 88, .tmp 3] rfl rfl rfl (aC h) xAd
attribute [go_sem] lM
def bU (F : Md) (as_1 : we) (s_11 : qI) : Option (qI ⊕ qI) :=
 if (0 : Int) < (s_11.length : Int) then ck (I64 ((s_11.length : Int) - (1 : Int))) (ck (0 ≤ ((s_11.length : Int) - (1 : Int)) ∧ ((s_11.length : Int) - (1 : Int)) < (s_11.length : Int)) ((cW F as_1 (s_11.getD ((s_11.length : Int) - (1 : Int)).toNat (0 : Nat))).bind (fun v_21 => if ¬ (v_21 = true) then some (.inr s_11) else ck (I64 ((s_11.length : Int) - (1 : Int))) (ck (0 ≤ ((s_11.length : Int) - (1 : Int)) ∧ ((s_11.length : Int) - (1 : Int)) ≤ (s_11.length : Int)) (some (.inl (List.take ((s_11.length : Int) - (1 : Int)).toNat s_11))))))) else some (.inr s_11)
def eC (F : Md) (s_0 : qI) (as_1 : we) : Option qI :=
 (dI F (fun d : qI => bU F as_1 d) s_0).bind (fun e => some e)
def sW : PlR := ⟨[(0, .A [0, 1]), (1, .A [0, 1, 7]), (2, .A [0, 1, 15]), (3, .A [0, 1]), (4, .A [4])], []⟩
def tO : Ty := .pair .str (.pair (.rp (.arr 256 .bool)) .unit)
def jP (F : Md) : aF := mSpec tO (.one .str) (fun x => eC F x.1 x.2.1)
abbrev tP (F : Md) : List (FuncId × aF) := [(55, (dV F))]
theorem aCO (F : Md) : bG Tryz.prog GL (tP F) := .cons (qF F) xAa (.nil)
attribute [go_sem] tO sW
theorem aB1 (F : Md) : FOK Tryz.prog GL 39 (jP F) := by
 refine bN (aS (aCO F)) mix Tryz.func39 rfl xAa xAb sW fun w0 S x Θ hw h hF => ?_
 obtain ⟨(s_0 : qI), (as_1 : we), u⟩ := x
 simp only [bQ, go_sem]
 replace h : sat (eC F s_0 as_1) _ := h
 unfold eC at h
 refine cI hF (D := qI) [1] (fun d => [(0, .val .str d)]) (fun d => []) h rfl xAc ?_
 rintro s_11 A1 T1 hA1 hE1 h
 simp only [go_sem]
 replace h : sat (bU F as_1 s_11) _ := h
 unfold bU at h
 refine fZ h (fun hc h => ?_) fun hc h => ?_
 ·refine aU h fun g0 h => aU h fun g1 h => ?_
  obtain ⟨v_21, hv, h⟩ := aJ h
  try simp only [hv, go_sem]
  refine aFj h (fun hc h => ?_) fun hc h => ?_
  ·replace h := yaF (hE1 _ (aC h))
   exact zaA
  ·refine aU h fun g0 h => aU h fun g1 h => ?_
   replace h := hA1 _ (aC h)
   exact zaF
 ·replace h := yaF (hE1 _ (aC h))
  exact zaA
attribute [go_sem] jP
def bY (F : Md) (as_1 : we) (s_11 : qI) : Option (qI ⊕ qI) :=
 if (0 : Int) < (s_11.length : Int) then ck ((0 : Int) < (s_11.length : Int)) ((cW F as_1 (s_11.getD (0 : Nat) (0 : Nat))).bind (fun v_21 => if ¬ (v_21 = true) then some (.inr s_11) else ck ((1 : Int) ≤ (s_11.length : Int)) (some (.inl (List.drop (1 : Nat) s_11))))) else some (.inr s_11)
def eJ (F : Md) (s_0 : qI) (as_1 : we) : Option qI :=
 (dI F (fun d : qI => bY F as_1 d) s_0).bind (fun e => some e)
def tQ : PlR := ⟨[(0, .A [0, 1]), (1, .A [0, 1, 7]), (2, .A [0, 1, 12]), (3, .A [0, 1]), (4, .A [4])], []⟩
def vP : Ty := .pair .str (.pair (.rp (.arr 256 .bool)) .unit)
def kM (F : Md) : aF := mSpec vP (.one .str) (fun x => eJ F x.1 x.2.1)
abbrev vQ (F : Md) : List (FuncId × aF) := [(55, (dV F))]
theorem aDk (F : Md) : bG Tryz.prog GL (vQ F) := .cons (qF F) xAa (.nil)
attribute [go_sem] vP tQ
theorem aCP (F : Md) : FOK Tryz.prog GL 38 (kM F) := by
 refine bN (aS (aDk F)) mix Tryz.func38 rfl xAa xAb tQ fun w0 S x Θ hw h hF => ?_
 obtain ⟨(s_0 : qI), (as_1 : we), u⟩ := x
 simp only [bQ, go_sem]
 replace h : sat (eJ F s_0 as_1) _ := h
 unfold eJ at h
 refine cI hF (D := qI) [1] (fun d => [(0, .val .str d)]) (fun d => []) h rfl xAc ?_
 rintro s_11 A1 T1 hA1 hE1 h
 simp only [go_sem]
 replace h : sat (bY F as_1 s_11) _ := h
 unfold bY at h
 refine fZ h (fun hc h => ?_) fun hc h => ?_
 ·refine aU h fun g0 h => ?_
  obtain ⟨v_21, hv, h⟩ := aJ h
  try simp only [hv, go_sem]
  refine aFj h (fun hc h => ?_) fun hc h => ?_
  ·replace h := yaF (hE1 _ (aC h))
   exact zaA
  ·refine aU h fun g0 h => ?_
   replace h := hA1 _ (aC h)
   exact zaF
 ·replace h := yaF (hE1 _ (aC h))
  exact zaA
attribute [go_sem] kM
def kV (F : Md) (s_0 : qI) (cutset_1 : qI) : Option qI :=
 if (s_0 = (aP ⟨#[]⟩)) ∨ (cutset_1 = (aP ⟨#[]⟩)) then some s_0 else ck (((cutset_1.length : Int) = (1 : Int)) → ((0 : Int) < (cutset_1.length : Int))) (if ((cutset_1.length : Int) = (1 : Int)) ∧ ((cutset_1.getD (0 : Nat) (0 : Nat)) < (128 : Nat)) then ck ((0 : Int) < (cutset_1.length : Int)) ((lK F s_0 (cutset_1.getD (0 : Nat) (0 : Nat))).bind (fun v_19 => ck ((0 : Int) < (cutset_1.length : Int)) ((mI F v_19 (cutset_1.getD (0 : Nat) (0 : Nat))).bind (fun v_20 => some v_20)))) else (gU F cutset_1).bind (fun v_27 => if v_27.2.1 = true then (eC F s_0 v_27.1).bind (fun v_34 => (eJ F v_34 v_27.1).bind (fun v_35 => some v_35)) else none))
def aEs : PlR := ⟨[(0, .A [0, 1]), (1, .A [0, 1, 12]), (2, .A [4]), (3, .A [0, 1, 21]), (4, .A [4]), (5, .B [0, 1, 5, 6]), (6, .A [0, 1, 5, 34]), (7, .A [4]), (8, .stop)], []⟩
def aFp : Ty := .pair .str wd
def uI (F : Md) : aF := mSpec aFp (.one .str) (fun x => kV F x.1 x.2.1)
abbrev pF (F : Md) : List (FuncId × aF) := [(35, (lL F)), (36, (kL F)), (37, (lM F)), (38, (kM F)), (39, (jP F))]
theorem aNl (F : Md) : bG Tryz.prog GL (pF F) := .cons (aDi F) xAa (.cons (aCN F) xAa (.cons (aDj F) xAa (.cons (aCP F) xAa (.cons (aB1 F) xAa (.nil)))))
attribute [go_sem] aFp aEs
theorem aLf (F : Md) : FOK Tryz.prog GL 16 (uI F) := by
 refine bN (aS (aNl F)) mix Tryz.func16 rfl xAa xAb aEs fun w0 S x Θ hw h hF => ?_
 obtain ⟨(s_0 : qI), (cutset_1 : qI), u⟩ := x
 simp only [bQ, go_sem]
 replace h : sat (kV F s_0 cutset_1) _ := h
 unfold kV at h
 refine ⟨fun hc => ?_, fun hc => ?_⟩
 ·replace h := jA hc h
  exact zaA
 ·replace h := jB hc h
  refine aU h fun g0 h => ?_
  refine ⟨fun hc => ?_, fun hc => ?_⟩
  ·replace h := jA hc h
   refine aU h fun g0 h => ?_
   obtain ⟨v_19, hv, h⟩ := aJ h
   try simp only [hv, go_sem]
   refine aU h fun g0 h => ?_
   obtain ⟨v_20, hv, h⟩ := aJ h
   exact zaP
  ·replace h := jB hc h
   obtain ⟨v_27, hv, h⟩ := aJ h
   try simp only [hv, go_sem]
   refine aH0 h (fun hc h => ?_) fun hc h => ?_
   ·obtain ⟨v_34, hv, h⟩ := aJ h
    try simp only [hv, go_sem]
    obtain ⟨v_35, hv, h⟩ := aJ h
    exact zaP
   ·exact aDe h
attribute [go_sem] uI
def fA (F : Md) : Option qm :=
 some ([(aP ⟨#[116]⟩), (aP ⟨#[115, 113, 114]⟩), (aP ⟨#[115, 113, 114, 116]⟩), (aP ⟨#[101, 120, 112]⟩), (aP ⟨#[112, 114, 101, 99]⟩), (aP ⟨#[101, 110, 100]⟩), (aP ⟨#[115, 116, 101, 112]⟩), (aP ⟨#[116, 111, 108]⟩), (aP ⟨#[116, 114, 105, 101, 115]⟩), (aP ⟨#[111, 114, 100, 101, 114]⟩), (aP ⟨#[106, 97, 99, 111, 98, 105]⟩), (aP ⟨#[115, 101, 105, 100, 101, 108]⟩), (aP ⟨#[115, 117, 98]⟩), (aP ⟨#[115, 116, 97, 116, 101]⟩), (aP ⟨#[112, 97, 114]⟩), (aP ⟨#[105, 110]⟩), (aP ⟨#[111, 117, 116]⟩), (aP ⟨#[100, 101, 114]⟩), (aP ⟨#[108, 105, 110, 107]⟩)] : List qI)
def aCn : PlR := ⟨[(0, .A []), (1, .A [0])], []⟩
def aDl : Ty := .unit
def rA (F : Md) : aF := mSpec aDl (.one qu) (fun x => fA F )
abbrev aJL (F : Md) : List (FuncId × aF) := []
theorem aJM (F : Md) : bG Tryz.prog GL (aJL F) := .nil
attribute [go_sem] aDl aCn
theorem aIq (F : Md) : FOK Tryz.prog GL 18 (rA F) := by
 refine bN (aS (aJM F)) mix Tryz.func18 rfl xAa xAb aCn fun w0 S x Θ hw h hF => ?_
 simp only [bQ, go_sem]
 replace h : sat (fA F) _ := h
 unfold fA at h
 exact aG hF [.tmp 0] rfl rfl rfl (aC h) (by (simp only [aR, go_sem]) <;> first | rfl | (simp; done))
attribute [go_sem] rA
def eD (F : Md) (s_0 : qm) (v_1 : qI) (x8_5 : Int) : Option ((Int) ⊕ ((Unit) ⊕ Int)) :=
 if x8_5 < (s_0.length : Int) then ck (0 ≤ x8_5 ∧ x8_5 < (s_0.length : Int)) (if v_1 = (s_0.getD (x8_5.toNat) ([] : List Nat)) then some (.inr (.inr x8_5)) else ck (I64 (x8_5 + (1 : Int))) (some (.inl (x8_5 + (1 : Int))))) else some (.inr (.inl ()))
def iA (F : Md) (s_0 : qm) (v_1 : qI) : Option Int :=
 (dI F (fun d : Int => eD F s_0 v_1 d) (0 : Int)).bind (fun e => match e with | (.inl e) => some (-1 : Int) | (.inr e) => some e)
def wN : PlR := ⟨[(0, .A [0, 1]), (1, .A [0, 1, 7, 8]), (2, .A [0, 1, 7, 8, 9]), (3, .A [0, 1, 5, 7, 8]), (4, .A [0, 1, 5, 7, 8, 16]), (5, .A [4]), (6, .A [0, 1, 7, 8]), (7, .A [4])], []⟩
def xR : Ty := .pair qu wd
def mJ (F : Md) : aF := mSpec xR (.one qj) (fun x => iA F x.1 x.2.1)
abbrev aEN (F : Md) : List (FuncId × aF) := []
theorem aEO (F : Md) : bG Tryz.prog GL (aEN F) := .nil
attribute [go_sem] xR wN
theorem aEh (F : Md) : FOK Tryz.prog GL 42 (mJ F) := by
 refine bN (aS (aEO F)) mix Tryz.func42 rfl xAa xAb wN fun w0 S x Θ hw h hF => ?_
 obtain ⟨(s_0 : qm), (v_1 : qI), u⟩ := x
 simp only [bQ, go_sem]
 replace h : sat (iA F s_0 v_1) _ := h
 unfold iA at h
 refine cI hF (D := Int) [0, 1, 7] (fun d => [(8, .val qj d)]) (fun d => []) h rfl xAc ?_
 rintro x8_5 A2 T2 hA2 hE2 h
 simp only [go_sem]
 replace h : sat (eD F s_0 v_1 x8_5) _ := h
 unfold eD at h
 refine fZ h (fun hc h => ?_) fun hc h => ?_
 ·refine aU h fun g0 h => ?_
  refine dR h (fun hc h => ?_) fun hc h => ?_
  ·replace h := yaF (hE2 _ (aC h))
   exact zaA
  ·refine aU h fun g0 h => ?_
   replace h := hA2 _ (aC h)
   exact zaF
 ·replace h := yaF (hE2 _ (aC h))
  exact zaA
attribute [go_sem] mJ
def dD (F : Md) (s_0 : qm) (v_1 : qI) : Option Bool :=
 (iA F s_0 v_1).bind (fun v_6 => some (decide ((0 : Int) ≤ v_6)))
def sX : PlR := ⟨[(0, .A [0, 1]), (1, .A [4])], []⟩
def tR : Ty := .pair qu wd
def eP (F : Md) : aF := mSpec tR (.one .bool) (fun x => dD F x.1 x.2.1)
abbrev tS (F : Md) : List (FuncId × aF) := [(42, (mJ F))]
theorem aCQ (F : Md) : bG Tryz.prog GL (tS F) := .cons (aEh F) xAa (.nil)
attribute [go_sem] tR sX
theorem sY (F : Md) : FOK Tryz.prog GL 17 (eP F) := by
 refine bN (aS (aCQ F)) mix Tryz.func17 rfl xAa xAb sX fun w0 S x Θ hw h hF => ?_
 obtain ⟨(s_0 : qm), (v_1 : qI), u⟩ := x
 simp only [bQ, go_sem]
 replace h : sat (dD F s_0 v_1) _ := h
 unfold dD at h
 obtain ⟨v_6, hv, h⟩ := aJ h
 exact zaP
attribute [go_sem] eP
def mK (F : Md) (s_0 : qI) : Option Bool :=
 ck (¬ (((s_0.length : Int) < (1 : Int)) ∨ ((20 : Int) < (s_0.length : Int))) → ((0 : Int) < (s_0.length : Int))) (ck (¬ ((((s_0.length : Int) < (1 : Int)) ∨ ((20 : Int) < (s_0.length : Int))) ∨ ((s_0.getD (0 : Nat) (0 : Nat)) < (97 : Nat))) → ((0 : Int) < (s_0.length : Int))) (if ((((s_0.length : Int) < (1 : Int)) ∨ ((20 : Int) < (s_0.length : Int))) ∨ ((s_0.getD (0 : Nat) (0 : Nat)) < (97 : Nat))) ∨ ((122 : Nat) < (s_0.getD (0 : Nat) (0 : Nat))) then some false else (kV F s_0 (aP kB)).bind (fun v_5 => ck ((v_5 = (aP ⟨#[]⟩)) → ((fA F).isSome = true)) (ck ((v_5 = (aP ⟨#[]⟩)) → ((dD F ((fA F).getD ([] : List qI)) s_0).isSome = true)) (some ((decide (v_5 = (aP ⟨#[]⟩))) && (!((dD F ((fA F).getD ([] : List qI)) s_0).getD false))))))))
def aGB : PlR := ⟨[(0, .A [0]), (1, .A [0, 20]), (2, .A [2]), (3, .A [2])], []⟩
def aIr : Ty := .pair .str .unit
def qN (F : Md) : aF := mSpec aIr (.one .bool) (fun x => mK F x.1)
abbrev aA4 (F : Md) : List (FuncId × aF) := [(16, (uI F)), (17, (eP F)), (18, (rA F))]
theorem aPV (F : Md) : bG Tryz.prog GL (aA4 F) := .cons (aLf F) xAa (.cons (sY F) xAa (.cons (aIq F) xAa (.nil)))
attribute [go_sem] aIr aGB
theorem aGC (F : Md) : FOK Tryz.prog GL 7 (qN F) := by
 refine bN (aS (aPV F)) mix Tryz.func7 rfl xAa xAb aGB fun w0 S x Θ hw h hF => ?_
 obtain ⟨(s_0 : qI), u⟩ := x
 simp only [bQ, go_sem]
 replace h : sat (mK F s_0) _ := h
 unfold mK at h
 obtain ⟨g0, h⟩ := aL h
 obtain ⟨g1, h⟩ := aL h
 repeat (refine ⟨zAD, ?_⟩)
 refine ⟨fun hc => ?_, fun hc => ?_⟩
 ·replace h := jA hc h
  exact zaB
 ·replace h := jB hc h
  obtain ⟨v_5, hv, h⟩ := aJ h
  try simp only [hv, go_sem]
  obtain ⟨g0, h⟩ := aL h
  obtain ⟨g1, h⟩ := aL h
  repeat (refine ⟨zAD, ?_⟩)
  exact zaB
attribute [go_sem] qN
end
end Nu
end Go.Proofs
namespace Go.Proofs
open Go.Vc
set_option maxRecDepth 20000
namespace Nu
noncomputable section
set_option maxHeartbeats 4000000
def pR (F : Md) : Option q9 :=
 none
def nF (F : Md) (s_0 : qI) (n_14 : Int) : Option q9 :=
 ck ((0 : Int) < (s_0.length : Int)) (if (s_0.getD (0 : Nat) (0 : Nat)) = (45 : Nat) then ck (I64 (0 - n_14)) (some ((0 - n_14), (), ())) else some (n_14, (), ()))
def gX (F : Md) (s_9 : qI) (n_15 : Int) (x49_16 : Int) : Option (qz ⊕ ((Int) ⊕ q9)) :=
 if x49_16 < (s_9.length : Int) then ck (0 ≤ x49_16 ∧ x49_16 < (s_9.length : Int)) (if (9 : Nat) < (xL F .u8 (s_9.getD (x49_16.toNat) (0 : Nat)) (48 : Nat)) then none else ck (I64 (n_15 * (10 : Int))) (ck (I64 ((n_15 * (10 : Int)) + (((xL F .u8 (s_9.getD (x49_16.toNat) (0 : Nat)) (48 : Nat)) : Nat) : Int))) (ck (I64 (x49_16 + (1 : Int))) (some (.inl (((n_15 * (10 : Int)) + (((xL F .u8 (s_9.getD (x49_16.toNat) (0 : Nat)) (48 : Nat)) : Nat) : Int)), (x49_16 + (1 : Int)))))))) else some (.inr (.inl n_15))
def iP (F : Md) (s_0 : qI) (s_9 : qI) : Option q9 :=
 (dI F (fun d : Int × Int => gX F s_9 d.1 d.2) ((0 : Int), (0 : Int))).bind (fun e => match e with | (.inl e) => nF F s_0 e | (.inr e) => some e)
def nZ (F : Md) (s_0 : qI) : Option q9 :=
 if ((False) ∧ (((0 : Int) < (s_0.length : Int)) ∧ ((s_0.length : Int) < (10 : Int)))) ∨ ((True) ∧ (((0 : Int) < (s_0.length : Int)) ∧ ((s_0.length : Int) < (19 : Int)))) then ck ((0 : Int) < (s_0.length : Int)) (ck (¬ ((s_0.getD (0 : Nat) (0 : Nat)) = (45 : Nat)) → ((0 : Int) < (s_0.length : Int))) (if ((s_0.getD (0 : Nat) (0 : Nat)) = (45 : Nat)) ∨ ((s_0.getD (0 : Nat) (0 : Nat)) = (43 : Nat)) then ck ((1 : Int) ≤ (s_0.length : Int)) (if (((List.drop (1 : Nat) s_0).length : Nat) : Int) < (1 : Int) then none else iP F s_0 (List.drop (1 : Nat) s_0)) else iP F s_0 s_0)) else pR F
def aDm : PlR := ⟨[(0, .A [0]), (1, .A [0, 4]), (2, .A [0, 30]), (3, .A [0, 5]), (4, .A [0, 5, 39]), (5, .A [0, 5]), (6, .A [0, 5, 44]), (7, .A [2, 3]), (8, .A [0, 5, 6]), (9, .A [5, 6, 47, 48, 49]), (10, .A [5, 6, 47, 48, 49, 50]), (11, .A [5, 6, 8, 47, 48, 49]), (12, .A [5, 6, 8, 47, 48, 49]), (13, .A [5, 6, 8, 47, 48, 49, 56]), (14, .A [2, 3]), (15, .A [5, 6, 47, 48, 49]), (16, .A [5, 6, 47, 48, 49]), (17, .A [6, 66]), (18, .A [6]), (19, .A [2, 3]), (20, .stop)], [(5, 23), (7, 11), (12, 20)]⟩
def aEt : Ty := .pair .str .unit
def sF (F : Md) : aF := mSpec aEt (.tup (.pair qj (.pair .nili .unit))) (fun x => nZ F x.1)
abbrev aLj (F : Md) : List (FuncId × aF) := []
theorem aLk (F : Md) : bG Tryz.prog GL (aLj F) := .nil
attribute [go_sem] aEt aDm
theorem aJN (F : Md) : FOK Tryz.prog GL 87 (sF F) := by
 refine bN (aS (aLk F)) mix Tryz.func87 rfl xAa xAb aDm fun w0 S x Θ hw h hF => ?_
 obtain ⟨(s_0 : qI), u⟩ := x
 simp only [bQ, go_sem]
 replace h : sat (nZ F s_0) _ := h
 unfold nZ at h
 refine dU hF (D := Unit) (fun d => sat (pR F) Θ) [0] (fun d => []) (fun d => []) ?_ ?_
 ·simp only [go_sem, bH F, bI F, bJ F]
  refine ⟨fun hc => ?_, fun hc => ?_⟩
  ·replace h := jA zAB h
   refine dU hF (D := qI) (fun d => sat (iP F s_0 d) Θ) [5] (fun d => [(0, .val .str d)]) (fun d => []) ?_ ?_
   ·simp only [go_sem, bH F, bI F, bJ F]
    refine aU h fun g0 h => aU h fun g1 h => ?_
    refine ⟨fun hc => ?_, fun hc => ?_⟩
    ·replace h := jA hc h
     refine aU h fun g0 h => ?_
     refine fZ h (fun hc h => ?_) fun hc h => ?_
     ·exact aDe h
     ·exact aW (List.drop (1 : Nat) s_0) h rfl xAe
    ·replace h := jB hc h
     exact aW (s_0) h rfl xAe
   ·rintro s_9 h
    simp only [go_sem, bH F, bI F, bJ F]
    replace h : sat (iP F s_0 s_9) _ := h
    unfold iP at h
    refine dU hF (D := Int) (fun d => sat (nF F s_0 d) Θ) [5] (fun d => [(6, .val qj d)]) (fun d => []) ?_ ?_
    ·simp only [go_sem, bH F, bI F, bJ F]
     refine cI hF (D := Int × Int) [5, 47, 48] (fun d => [(6, .val qj d.1), (49, .val qj d.2)]) (fun d => []) h rfl xAe ?_
     rintro ⟨n_15, x49_16⟩ A10 T10 hA10 hE10 h
     simp only [go_sem, bH F, bI F, bJ F]
     replace h : sat (gX F s_9 n_15 x49_16) _ := h
     unfold gX at h
     refine fZ h (fun hc h => ?_) fun hc h => ?_
     ·refine aU h fun g0 h => ?_
      refine dR h (fun hc h => ?_) fun hc h => ?_
      ·exact aDe h
      ·refine aU h fun g0 h => aU h fun g1 h => ?_
       refine aU h fun g0 h => ?_
       replace h := hA10 _ (aC h)
       exact aW _ h rfl xAe
     ·replace h := yaF (hE10 _ (aC h))
      exact aW (n_15) h rfl xAe
    ·rintro n_14 h
     simp only [go_sem, bH F, bI F, bJ F]
     replace h : sat (nF F s_0 n_14) _ := h
     unfold nF at h
     refine aU h fun g0 h => ?_
     refine dR h (fun hc h => ?_) fun hc h => ?_
     ·refine aU h fun g0 h => ?_
      exact aG hF [.tmp 2, .tmp 3] rfl rfl rfl (aC h) xAf
     ·exact aG hF [.tmp 2, .tmp 3] rfl rfl rfl (aC h) xAf
  ·replace h := jB zAB h
   exact aW () h rfl xAe
 ·rintro u h
  simp only [go_sem, bH F, bI F, bJ F]
  replace h : sat (pR F) _ := h
  unfold pR at h
  exact aDe h
attribute [go_sem] sF
def nG (F : Md) (s_0 : qI) : Option q9 :=
 (nZ F s_0).bind (fun v_5 => some (v_5.1, (), ()))
def aEu : PlR := ⟨[(0, .A [0]), (1, .A [0, 4, 5]), (2, .A [0, 4, 5, 12]), (4, .A [2, 3])], []⟩
def aFq : Ty := .pair .str .unit
def oA (F : Md) : aF := mSpec aFq (.tup (.pair qj (.pair .nili .unit))) (fun x => nG F x.1)
abbrev aFr (F : Md) : List (FuncId × aF) := [(87, (sF F))]
theorem aNm (F : Md) : bG Tryz.prog GL (aFr F) := .cons (aJN F) xAa (.nil)
attribute [go_sem] aFq aEu
theorem aEv (F : Md) : FOK Tryz.prog GL 64 (oA F) := by
 refine bN (aS (aNm F)) mix Tryz.func64 rfl xAa xAb aEu fun w0 S x Θ hw h hF => ?_
 obtain ⟨(s_0 : qI), u⟩ := x
 simp only [bQ, go_sem]
 replace h : sat (nG F s_0) _ := h
 unfold nG at h
 obtain ⟨v_5, hv, h⟩ := aJ h
 try simp only [hv, go_sem]
 exact aG hF [.tmp 2, .tmp 3] rfl rfl rfl (aC h) xAd
attribute [go_sem] oA
def lT (F : Md) (at_1 : Int) (s_0 : qI) (n_5 : Int) : Option ((Int) ⊕ (Int)) :=
 ck (I64 (at_1 + n_5)) (ck (((at_1 + n_5) < (s_0.length : Int)) → (I64 (at_1 + n_5))) (ck (((at_1 + n_5) < (s_0.length : Int)) → (0 ≤ (at_1 + n_5) ∧ (at_1 + n_5) < (s_0.length : Int))) (ck ((((at_1 + n_5) < (s_0.length : Int)) ∧ ((48 : Nat) ≤ (s_0.getD (at_1 + n_5).toNat (0 : Nat)))) → (I64 (at_1 + n_5))) (ck ((((at_1 + n_5) < (s_0.length : Int)) ∧ ((48 : Nat) ≤ (s_0.getD (at_1 + n_5).toNat (0 : Nat)))) → (0 ≤ (at_1 + n_5) ∧ (at_1 + n_5) < (s_0.length : Int))) (if (((at_1 + n_5) < (s_0.length : Int)) ∧ ((48 : Nat) ≤ (s_0.getD (at_1 + n_5).toNat (0 : Nat)))) ∧ ((s_0.getD (at_1 + n_5).toNat (0 : Nat)) ≤ (57 : Nat)) then ck (I64 (n_5 + (1 : Int))) (some (.inl (n_5 + (1 : Int)))) else some (.inr n_5))))))
def jF (F : Md) (s_0 : qI) (at_1 : Int) : Option Int :=
 (dI F (fun d : Int => lT F at_1 s_0 d) (0 : Int)).bind (fun e => some e)
def aGD : PlR := ⟨[(0, .A [0, 1]), (1, .A [0, 1, 5]), (2, .A [0, 1, 5, 27]), (3, .A [0, 1, 5]), (4, .A [4])], []⟩
def aIt : Ty := .pair .str qf
def qO (F : Md) : aF := mSpec aIt (.one qj) (fun x => jF F x.1 x.2.1)
abbrev aPW (F : Md) : List (FuncId × aF) := []
theorem aPX (F : Md) : bG Tryz.prog GL (aPW F) := .nil
attribute [go_sem] aIt aGD
theorem aGE (F : Md) : FOK Tryz.prog GL 63 (qO F) := by
 refine bN (aS (aPX F)) mix Tryz.func63 rfl xAa xAb aGD fun w0 S x Θ hw h hF => ?_
 obtain ⟨(s_0 : qI), (at_1 : Int), u⟩ := x
 simp only [bQ, go_sem]
 replace h : sat (jF F s_0 at_1) _ := h
 unfold jF at h
 refine cI hF (D := Int) [0, 1] (fun d => [(5, .val qj d)]) (fun d => []) h rfl xAc ?_
 rintro n_5 A2 T2 hA2 hE2 h
 simp only [go_sem]
 replace h : sat (lT F at_1 s_0 n_5) _ := h
 unfold lT at h
 refine aU h fun g0 h => aU h fun g1 h => aU h fun g2 h => aU h fun g3 h => aU h fun g4 h => ?_
 refine ⟨fun hc => ?_, fun hc => ?_⟩
 ·replace h := jA hc h
  refine aU h fun g0 h => ?_
  replace h := hA2 _ (aC h)
  exact zaF
 ·replace h := jB hc h
  replace h := yaF (hE2 _ (aC h))
  exact zaA
attribute [go_sem] qO
def kC (F : Md) (all_9 : qI) (s_0 : qI) (at_17 : Int) (pow_18 : Int) : Option (qI × (Int × wa)) :=
 some (all_9, pow_18, (decide (at_17 = (s_0.length : Int))), ())
def kD (F : Md) (pow_10 : Int) (at_19 : Int) (v_23 : Int) (all_9 : qI) (s_0 : qI) (x_28 : Int) : Option (qI × (Int × wa)) :=
 ck (I64 (pow_10 + x_28)) (ck (I64 (at_19 + v_23)) (kC F all_9 s_0 (at_19 + v_23) (pow_10 + x_28)))
def kE (F : Md) (s_0 : qI) (at_8 : Int) (pow_10 : Int) (all_9 : qI) (at_19 : Int) : Option (qI × (Int × wa)) :=
 (jF F s_0 at_19).bind (fun v_23 => if (v_23 < (1 : Int)) ∨ ((3 : Int) < v_23) then some ((aP ⟨#[]⟩), (0 : Int), false, ()) else ck (I64 (at_19 + v_23)) (ck (0 ≤ at_19 ∧ at_19 ≤ (at_19 + v_23) ∧ (at_19 + v_23) ≤ (s_0.length : Int)) ((nG F (List.drop (at_19.toNat) (List.take (at_19 + v_23).toNat s_0))).bind (fun v_27 => if (100 : Int) < v_27.1 then some ((aP ⟨#[]⟩), (0 : Int), false, ()) else if ((at_8 + (1 : Int)) < (s_0.length : Int)) ∧ ((s_0.getD (at_8 + (1 : Int)).toNat (0 : Nat)) = (45 : Nat)) then ck (I64 (0 - v_27.1)) (kD F pow_10 at_19 v_23 all_9 s_0 (0 - v_27.1)) else kD F pow_10 at_19 v_23 all_9 s_0 v_27.1))))
def kF (F : Md) (s_0 : qI) (at_8 : Int) (all_9 : qI) (pow_10 : Int) : Option (qI × (Int × wa)) :=
 ck ((at_8 < (s_0.length : Int)) → (0 ≤ at_8 ∧ at_8 < (s_0.length : Int))) (if (at_8 < (s_0.length : Int)) ∧ ((s_0.getD (at_8.toNat) (0 : Nat)) = (101 : Nat)) then ck (I64 (at_8 + (1 : Int))) (ck (((at_8 + (1 : Int)) < (s_0.length : Int)) → (0 ≤ (at_8 + (1 : Int)) ∧ (at_8 + (1 : Int)) < (s_0.length : Int))) (ck (¬ (((at_8 + (1 : Int)) < (s_0.length : Int)) ∧ ((s_0.getD (at_8 + (1 : Int)).toNat (0 : Nat)) = (45 : Nat))) → ((at_8 + (1 : Int)) < (s_0.length : Int)) → (0 ≤ (at_8 + (1 : Int)) ∧ (at_8 + (1 : Int)) < (s_0.length : Int))) (if (((at_8 + (1 : Int)) < (s_0.length : Int)) ∧ ((s_0.getD (at_8 + (1 : Int)).toNat (0 : Nat)) = (45 : Nat))) ∨ (((at_8 + (1 : Int)) < (s_0.length : Int)) ∧ ((s_0.getD (at_8 + (1 : Int)).toNat (0 : Nat)) = (43 : Nat))) then ck (I64 ((at_8 + (1 : Int)) + (1 : Int))) (kE F s_0 at_8 pow_10 all_9 ((at_8 + (1 : Int)) + (1 : Int))) else kE F s_0 at_8 pow_10 all_9 (at_8 + (1 : Int))))) else kC F all_9 s_0 at_8 pow_10)
def mZ (F : Md) (s_0 : qI) : Option (qI × (Int × wa)) :=
 (jF F s_0 (0 : Int)).bind (fun v_5 => ck (0 ≤ v_5 ∧ v_5 ≤ (s_0.length : Int)) (if ((60 : Int) < (s_0.length : Int)) ∨ (v_5 = (0 : Int)) then some ((aP ⟨#[]⟩), (0 : Int), false, ()) else ck ((v_5 < (s_0.length : Int)) → (0 ≤ v_5 ∧ v_5 < (s_0.length : Int))) (if (v_5 < (s_0.length : Int)) ∧ ((s_0.getD (v_5.toNat) (0 : Nat)) = (46 : Nat)) then ck (I64 (v_5 + (1 : Int))) ((jF F s_0 (v_5 + (1 : Int))).bind (fun v_32 => if v_32 = (0 : Int) then some ((aP ⟨#[]⟩), (0 : Int), false, ()) else ck (I64 (v_5 + (1 : Int))) (ck (I64 (v_5 + (1 : Int))) (ck (I64 ((v_5 + (1 : Int)) + v_32)) (ck (0 ≤ (v_5 + (1 : Int)) ∧ (v_5 + (1 : Int)) ≤ ((v_5 + (1 : Int)) + v_32) ∧ ((v_5 + (1 : Int)) + v_32) ≤ (s_0.length : Int)) (ck ((List.take (v_5.toNat) s_0).length + (List.drop (v_5 + (1 : Int)).toNat (List.take ((v_5 + (1 : Int)) + v_32).toNat s_0)).length ≤ 9223372036854775807) (ck (I64 (0 - v_32)) (ck (I64 (v_5 + (1 : Int))) (ck (I64 ((v_5 + (1 : Int)) + v_32)) (kF F s_0 ((v_5 + (1 : Int)) + v_32) ((List.take (v_5.toNat) s_0) ++ (List.drop (v_5 + (1 : Int)).toNat (List.take ((v_5 + (1 : Int)) + v_32).toNat s_0))) (0 - v_32))))))))))) else kF F s_0 v_5 (List.take (v_5.toNat) s_0) (0 : Int))))
def aFs : PlR := ⟨[(0, .A [0]), (1, .A [0, 5]), (2, .A [0, 5, 6, 7]), (3, .A [0, 5, 6, 7, 24]), (4, .A [2, 3, 4]), (5, .A [0, 5, 6, 7, 34]), (6, .A [0, 5, 6, 8]), (7, .A [0, 5, 6, 8, 40]), (8, .A [2, 3, 4]), (9, .A [0, 5, 6, 7]), (10, .A [0, 5, 6, 7, 66]), (11, .A [0, 5, 6, 7]), (12, .A [0, 5, 6, 7, 9]), (13, .A [0, 5, 6, 7, 9, 91]), (14, .A [0, 5, 6, 7, 9]), (15, .A [0, 5, 6, 7, 9, 10]), (16, .A [0, 5, 6, 7, 9, 10, 102]), (17, .A [2, 3, 4]), (18, .A [0, 5, 6, 7, 9, 10, 11]), (19, .A [0, 5, 6, 7, 9, 10, 11, 114]), (20, .A [2, 3, 4]), (21, .A [0, 5, 6, 7, 10, 11, 115]), (22, .A [0, 5, 6, 7, 10, 11]), (23, .A [0, 5, 6, 7]), (24, .A [2, 3, 4])], [(8, 13), (13, 27), (16, 18), (24, 26)]⟩
def aGF : Ty := .pair .str .unit
def kW (F : Md) : aF := mSpec aGF (.tup (.pair .str (.pair qj (.pair .bool .unit)))) (fun x => mZ F x.1)
abbrev aCR (F : Md) : List (FuncId × aF) := [(63, (qO F)), (64, (oA F))]
theorem aOk (F : Md) : bG Tryz.prog GL (aCR F) := .cons (aGE F) xAa (.cons (aEv F) xAa (.nil))
attribute [go_sem] aGF aFs
theorem aBL (F : Md) : FOK Tryz.prog GL 46 (kW F) := by
 refine bN (aS (aOk F)) mix Tryz.func46 rfl xAa xAb aFs fun w0 S x Θ hw h hF => ?_
 obtain ⟨(s_0 : qI), u⟩ := x
 simp only [bQ, go_sem]
 replace h : sat (mZ F s_0) _ := h
 unfold mZ at h
 obtain ⟨v_5, hv, h⟩ := aJ h
 try simp only [hv, go_sem]
 obtain ⟨g0, h⟩ := aL h
 repeat (refine ⟨by omega, ?_⟩)
 refine ⟨fun hc => ?_, fun hc => ?_⟩
 ·replace h := jA hc h
  exact zaY
 ·replace h := jB hc h
  refine dU hF (D := Int × qI × Int) (fun d => sat (kF F s_0 d.1 d.2.1 d.2.2) Θ) [0] (fun d => [(5, .val qj d.1), (6, .val .str d.2.1), (7, .val qj d.2.2)]) (fun d => []) ?_ ?_
  ·simp only [go_sem]
   obtain ⟨g0, h⟩ := aL h
   repeat (refine ⟨by omega, ?_⟩)
   refine ⟨fun hc => ?_, fun hc => ?_⟩
   ·replace h := jA hc h
    obtain ⟨g0, h⟩ := aL h
    repeat (refine ⟨by omega, ?_⟩)
    obtain ⟨v_32, hv, h⟩ := aJ h
    try simp only [hv, go_sem]
    refine dR h (fun hc h => ?_) fun hc h => ?_
    ·exact aG hF [.tmp 2, .tmp 3, .tmp 4] rfl rfl rfl (aC h) xAd
    ·obtain ⟨g0, h⟩ := aL h
     obtain ⟨g1, h⟩ := aL h
     obtain ⟨g2, h⟩ := aL h
     obtain ⟨g3, h⟩ := aL h
     obtain ⟨g4, h⟩ := aL h
     obtain ⟨g5, h⟩ := aL h
     obtain ⟨g6, h⟩ := aL h
     obtain ⟨g7, h⟩ := aL h
     repeat (refine ⟨by omega, ?_⟩)
     exact aW (((v_5 + (1 : Int)) + v_32), ((List.take (v_5.toNat) s_0) ++ (List.drop (v_5 + (1 : Int)).toNat (List.take ((v_5 + (1 : Int)) + v_32).toNat s_0))), (0 - v_32)) h rfl xAc
   ·replace h := jB hc h
    exact aW (v_5, (List.take (v_5.toNat) s_0), (0 : Int)) h rfl xAc
  ·rintro ⟨at_8, all_9, pow_10⟩ h
   simp only [go_sem]
   replace h : sat (kF F s_0 at_8 all_9 pow_10) _ := h
   unfold kF at h
   refine dU hF (D := Int × Int) (fun d => sat (kC F all_9 s_0 d.1 d.2) Θ) [0, 6] (fun d => [(5, .val qj d.1), (7, .val qj d.2)]) (fun d => []) ?_ ?_
   ·simp only [go_sem]
    obtain ⟨g0, h⟩ := aL h
    repeat (refine ⟨by omega, ?_⟩)
    refine ⟨fun hc => ?_, fun hc => ?_⟩
    ·replace h := jA hc h
     obtain ⟨g0, h⟩ := aL h
     repeat (refine ⟨by omega, ?_⟩)
     obtain ⟨g0, h⟩ := aL h
     repeat (refine ⟨by omega, ?_⟩)
     refine dU hF (D := Int) (fun d => sat (kE F s_0 at_8 pow_10 all_9 d) Θ) [0, 6, 7, 9] (fun d => [(5, .val qj d)]) (fun d => []) ?_ ?_
     ·simp only [go_sem]
      obtain ⟨g0, h⟩ := aL h
      repeat (refine ⟨by omega, ?_⟩)
      refine ⟨fun hc => ?_, fun hc => ?_⟩
      ·replace h := jA hc h
       obtain ⟨g0, h⟩ := aL h
       repeat (refine ⟨by omega, ?_⟩)
       exact aW ((at_8 + (1 : Int)) + (1 : Int)) h rfl xAc
      ·replace h := jB hc h
       exact aW (at_8 + (1 : Int)) h rfl xAc
     ·rintro at_19 h
      simp only [go_sem]
      replace h : sat (kE F s_0 at_8 pow_10 all_9 at_19) _ := h
      unfold kE at h
      obtain ⟨v_23, hv, h⟩ := aJ h
      try simp only [hv, go_sem]
      refine ⟨fun hc => ?_, fun hc => ?_⟩
      ·replace h := jA hc h
       exact zaY
      ·replace h := jB hc h
       obtain ⟨g0, h⟩ := aL h
       obtain ⟨g1, h⟩ := aL h
       repeat (refine ⟨by omega, ?_⟩)
       obtain ⟨v_27, hv, h⟩ := aJ h
       try simp only [hv, go_sem]
       refine fZ h (fun hc h => ?_) fun hc h => ?_
       ·exact aG hF [.tmp 2, .tmp 3, .tmp 4] rfl rfl rfl (aC h) xAd
       ·refine dU hF (D := Int) (fun d => sat (kD F pow_10 at_19 v_23 all_9 s_0 d) Θ) [0, 5, 6, 7, 10] (fun d => [(11, .val qj d)]) (fun d => []) ?_ ?_
        ·simp only [go_sem]
         refine ⟨fun hc => ?_, fun hc => ?_⟩
         ·replace h := jA hc h
          obtain ⟨g0, h⟩ := aL h
          repeat (refine ⟨by omega, ?_⟩)
          exact aW (0 - v_27.1) h rfl xAc
         ·replace h := jB hc h
          exact aW v_27.1 h rfl xAc
        ·rintro x_28 h
         simp only [go_sem]
         replace h : sat (kD F pow_10 at_19 v_23 all_9 s_0 x_28) _ := h
         unfold kD at h
         obtain ⟨g0, h⟩ := aL h
         obtain ⟨g1, h⟩ := aL h
         repeat (refine ⟨by omega, ?_⟩)
         exact aW ((at_19 + v_23), (pow_10 + x_28)) h rfl xAc
    ·replace h := jB hc h
     exact aW (at_8, pow_10) h rfl xAc
   ·rintro ⟨at_17, pow_18⟩ h
    simp only [go_sem]
    replace h : sat (kC F all_9 s_0 at_17 pow_18) _ := h
    unfold kC at h
    exact zaY
attribute [go_sem] kW
def aBM (F : Md) (n_1 : Int) (b_0 : Nat) (m_13 : qI) (x8_14 : Int) : Option ((qI × Int) ⊕ qI) :=
 if x8_14 < n_1 then (iU F m_13 ([b_0] : List Nat)).bind (fun v_23 => ck (I64 (x8_14 + (1 : Int))) (some (.inl (v_23, (x8_14 + (1 : Int)))))) else some (.inr m_13)
def rS (F : Md) (b_0 : Nat) (n_1 : Int) : Option qI :=
 (dI F (fun d : qI × Int => aBM F n_1 b_0 d.1 d.2) (([1] : List Nat), (0 : Int))).bind (fun e => some e)
def aIu : PlR := ⟨[], []⟩
def aKM : Ty := .pair qn qf
def sG (F : Md) : aF := mSpec aKM (.one qs) (fun x => rS F x.1 x.2.1)
abbrev aKN (F : Md) : List (FuncId × aF) := [(90, (fL F))]
theorem aQ7 (F : Md) : bG Tryz.prog GL (aKN F) := .cons (sC F) xAa (.nil)
attribute [go_sem] aKM aIu
theorem aIv (F : Md) : FOK Tryz.prog GL 92 (sG F) := by
 refine bN (aS (aQ7 F)) mix Tryz.func92 rfl xAa xAb aIu fun w0 S x Θ hw h hF => ?_
 obtain ⟨(b_0 : Nat), (n_1 : Int), u⟩ := x
 simp only [bQ, go_sem]
 replace h : sat (rS F b_0 n_1) _ := h
 unfold rS at h
 refine pD hF [0, 1] (yaA ?_)
 refine pD hF [0, 1, 5] (yaA ?_)
 refine pD hF [0, 5, 7, 8] (yaA ?_)
 refine cI hF (D := qI × Int) [0, 7] (fun d => [(5, .val qs d.1), (8, .val qj d.2)]) (fun d => []) h rfl xAc ?_
 rintro ⟨m_13, x8_14⟩ A3 T3 hA3 hE3 h
 simp only [go_sem]
 replace h : sat (aBM F n_1 b_0 m_13 x8_14) _ := h
 unfold aBM at h
 refine pD hF [0, 5, 7, 8, 9] (yaA ?_)
 refine fZ h (fun hc h => ?_) fun hc h => ?_
 ·refine pD hF [0, 5, 7, 8] (yaA ?_)
  obtain ⟨v_23, hv, h⟩ := aJ h
  try simp only [hv, go_sem]
  refine pD hF [0, 5, 7, 8] (yaA ?_)
  refine aU h fun g0 h => ?_
  replace h := hA3 _ (aC h)
  exact zaF
 ·replace h := yaF (hE3 _ (aC h))
  refine pD hF [4] (yaA ?_)
  exact zaA
attribute [go_sem] sG
def aAm (F : Md) (s_0 : qI) (m_24 : qI) (x9_25 : Int) : Option ((qI × Int) ⊕ qI) :=
 if x9_25 < (s_0.length : Int) then ck (0 ≤ x9_25 ∧ x9_25 < (s_0.length : Int)) ((iU F m_24 ([10] : List Nat)).bind (fun v_44 => (aBC F ([(xL F .u8 (s_0.getD (x9_25.toNat) (0 : Nat)) (48 : Nat))] : List Nat)).bind (fun v_45 => (aD4 F v_44 v_45).bind (fun v_46 => ck (I64 (x9_25 + (1 : Int))) (some (.inl (v_46, (x9_25 + (1 : Int))))))))) else some (.inr m_24)
def wO (F : Md) (s_0 : qI) : Option qI :=
 (dI F (fun d : qI × Int => aAm F s_0 d.1 d.2) (([] : List Nat), (0 : Int))).bind (fun e => some e)
def aGG : PlR := ⟨[], []⟩
def aIw : Ty := .pair .str .unit
def qP (F : Md) : aF := mSpec aIw (.one qs) (fun x => wO F x.1)
abbrev aA5 (F : Md) : List (FuncId × aF) := [(128, (aCg F)), (129, (vF F)), (90, (fL F))]
theorem aPY (F : Md) : bG Tryz.prog GL (aA5 F) := .cons (aQ0 F) xAa (.cons (aKu F) xAa (.cons (sC F) xAa (.nil)))
attribute [go_sem] aIw aGG
theorem aGH (F : Md) : FOK Tryz.prog GL 91 (qP F) := by
 refine bN (aS (aPY F)) mix Tryz.func91 rfl xAa xAb aGG fun w0 S x Θ hw h hF => ?_
 obtain ⟨(s_0 : qI), u⟩ := x
 simp only [bQ, go_sem]
 replace h : sat (wO F s_0) _ := h
 unfold wO at h
 refine pD hF [0] ?_
 simp only [go_sem, bH F, bI F, bJ F]
 refine pD hF [0, 3] ?_
 simp only [go_sem, bH F, bI F, bJ F]
 refine pD hF [3, 7, 8, 9] ?_
 simp only [go_sem, bH F, bI F, bJ F]
 refine cI hF (D := qI × Int) [7, 8] (fun d => [(3, .val qs d.1), (9, .val qj d.2)]) (fun d => []) h rfl xAe ?_
 rintro ⟨m_24, x9_25⟩ A3 T3 hA3 hE3 h
 simp only [go_sem, bH F, bI F, bJ F]
 replace h : sat (aAm F s_0 m_24 x9_25) _ := h
 unfold aAm at h
 refine pD hF [3, 7, 8, 9, 10] ?_
 simp only [go_sem, bH F, bI F, bJ F]
 refine fZ h (fun hc h => ?_) fun hc h => ?_
 ·refine pD hF [3, 5, 7, 8, 9] ?_
  simp only [go_sem, bH F, bI F, bJ F]
  refine aU h fun g0 h => ?_
  refine pD hF [3, 7, 8, 9] ?_
  simp only [go_sem, bH F, bI F, bJ F]
  obtain ⟨v_44, hv, h⟩ := aJ h
  try simp only [hv, go_sem, bH F, bI F, bJ F]
  obtain ⟨v_45, hv, h⟩ := aJ h
  try simp only [hv, go_sem, bH F, bI F, bJ F]
  obtain ⟨v_46, hv, h⟩ := aJ h
  try simp only [hv, go_sem, bH F, bI F, bJ F]
  refine pD hF [3, 7, 8, 9] ?_
  simp only [go_sem, bH F, bI F, bJ F]
  refine aU h fun g0 h => ?_
  replace h := hA3 _ (aC h)
  exact aW _ h rfl xAe
 ·replace h := yaF (hE3 _ (aC h))
  refine pD hF [2] ?_
  simp only [go_sem, bH F, bI F, bJ F]
  exact aG hF [.tmp 2] rfl rfl rfl (aC h) xAf
attribute [go_sem] qP
def uY (F : Md) (s_0 : qI) : Option Bool :=
 (mZ F s_0).bind (fun v_5 => some v_5.2.2.1)
def aKO : PlR := ⟨[(0, .A [0]), (1, .A [5]), (2, .A [2])], []⟩
def aNo : Ty := .pair .str .unit
def aCo (F : Md) : aF := mSpec aNo (.one .bool) (fun x => uY F x.1)
abbrev aNp (F : Md) : List (FuncId × aF) := [(46, (kW F))]
theorem aSa (F : Md) : bG Tryz.prog GL (aNp F) := .cons (aBL F) xAa (.nil)
attribute [go_sem] aNo aKO
theorem aQ8 (F : Md) : FOK Tryz.prog GL 25 (aCo F) := by
 refine bN (aS (aSa F)) mix Tryz.func25 rfl xAa xAb aKO fun w0 S x Θ hw h hF => ?_
 obtain ⟨(s_0 : qI), u⟩ := x
 simp only [bQ, go_sem]
 replace h : sat (uY F s_0) _ := h
 unfold uY at h
 exact zab
attribute [go_sem] aCo
def aCp (F : Md) (s_0 : qI) : Option (qI × (qI × wa)) :=
 (mZ F s_0).bind (fun v_5 => if ¬ (v_5.2.2.1 = true) then some (([] : List Nat), ([] : List Nat), false, ()) else (wO F v_5.1).bind (fun v_18 => (rS F (10 : Nat) (max v_5.2.1 (0 : Int))).bind (fun v_19 => (iU F v_18 v_19).bind (fun v_20 => ck (I64 (0 - v_5.2.1)) ((rS F (10 : Nat) (max (0 - v_5.2.1) (0 : Int))).bind (fun v_21 => some (v_20, v_21, true, ())))))))
def aIx : PlR := ⟨[(0, .A [0]), (1, .A [5, 6, 7]), (2, .A [5, 6, 15]), (3, .A [2, 3, 4]), (4, .A [2, 3, 4])], []⟩
def aKP : Ty := .pair .str .unit
def aA6 (F : Md) : aF := mSpec aKP (.tup (.pair qs (.pair qs (.pair .bool .unit)))) (fun x => aCp F x.1)
abbrev zY (F : Md) : List (FuncId × aF) := [(46, (kW F)), (90, (fL F)), (91, (qP F)), (92, (sG F))]
theorem aQ9 (F : Md) : bG Tryz.prog GL (zY F) := .cons (aBL F) xAa (.cons (sC F) xAa (.cons (aGH F) xAa (.cons (aIv F) xAa (.nil))))
attribute [go_sem] aKP aIx
theorem aPZ (F : Md) : FOK Tryz.prog GL 138 (aA6 F) := by
 refine bN (aS (aQ9 F)) mix Tryz.func138 rfl xAa xAb aIx fun w0 S x Θ hw h hF => ?_
 obtain ⟨(s_0 : qI), u⟩ := x
 simp only [bQ, go_sem]
 replace h : sat (aCp F s_0) _ := h
 unfold aCp at h
 obtain ⟨v_5, hv, h⟩ := aJ h
 try simp only [hv, go_sem]
 refine aFj h (fun hc h => ?_) fun hc h => ?_
 ·exact aG hF [.tmp 2, .tmp 3, .tmp 4] rfl rfl rfl (aC h) xAd
 ·obtain ⟨v_18, hv, h⟩ := aJ h
  try simp only [hv, go_sem]
  obtain ⟨v_19, hv, h⟩ := aJ h
  try simp only [hv, go_sem]
  obtain ⟨v_20, hv, h⟩ := aJ h
  try simp only [hv, go_sem]
  refine aU h fun g0 h => ?_
  obtain ⟨v_21, hv, h⟩ := aJ h
  try simp only [hv, go_sem]
  exact zaY
attribute [go_sem] aA6
def aCq (F : Md) (s_0 : qI) : Option (qi × ql) :=
 (mZ F s_0).bind (fun v_5 => if ¬ (v_5.2.2.1 = true) then some ((false, ([] : List Nat), (0 : Int), ()), (6 : Int), ()) else (wO F v_5.1).bind (fun v_21 => (rS F (5 : Nat) (max v_5.2.1 (0 : Int))).bind (fun v_22 => (iU F v_21 v_22).bind (fun v_23 => ck (I64 (0 - v_5.2.1)) ((rS F (5 : Nat) (max (0 - v_5.2.1) (0 : Int))).bind (fun v_24 => (aAW F v_23 v_24).bind (fun v_25 => (aBI F false v_25.1 v_5.2.1).bind (fun v_27 => if ((0 : Int) < (v_25.2.1.length : Int)) ∨ (¬ (v_27.2.1 = (0 : Int))) then some ((false, ([] : List Nat), (0 : Int), ()), (6 : Int), ()) else some (v_27.1, (0 : Int), ())))))))))
def aIy : PlR := ⟨[(0, .B [0, 2]), (1, .A [2, 4, 5, 6]), (2, .A [2, 4, 5, 18]), (3, .B [2, 3]), (4, .A [2, 5, 7, 8]), (5, .B [2, 8, 9, 10]), (6, .A [2, 9, 46]), (7, .B [2, 3]), (8, .B [2, 3])], []⟩
def aKQ : Ty := .pair .str .unit
def aA7 (F : Md) : aF := mSpec aKQ (.tup (.pair qh qf)) (fun x => aCq F x.1)
abbrev rT (F : Md) : List (FuncId × aF) := [(46, (kW F)), (89, (yZ F)), (90, (fL F)), (91, (qP F)), (92, (sG F)), (93, (vJ F))]
theorem aRa (F : Md) : bG Tryz.prog GL (rT F) := .cons (aBL F) xAa (.cons (aOe F) xAa (.cons (sC F) xAa (.cons (aGH F) xAa (.cons (aIv F) xAa (.cons (aKE F) xAa (.nil))))))
attribute [go_sem] aKQ aIy
theorem aP0 (F : Md) : FOK Tryz.prog GL 65 (aA7 F) := by
 refine bN (aS (aRa F)) mix Tryz.func65 rfl xAa xAb aIy fun w0 S x Θ hw h hF => ?_
 obtain ⟨(s_0 : qI), u⟩ := x
 simp only [bQ, go_sem]
 replace h : sat (aCq F s_0) _ := h
 unfold aCq at h
 obtain ⟨v_5, hv, h⟩ := aJ h
 try simp only [hv, go_sem]
 refine aFj h (fun hc h => ?_) fun hc h => ?_
 ·exact aG hF [.cell 2 117, .tmp 3] rfl rfl rfl (aC h) xAd
 ·obtain ⟨v_21, hv, h⟩ := aJ h
  try simp only [hv, go_sem]
  obtain ⟨v_22, hv, h⟩ := aJ h
  try simp only [hv, go_sem]
  obtain ⟨v_23, hv, h⟩ := aJ h
  try simp only [hv, go_sem]
  refine aU h fun g0 h => ?_
  obtain ⟨v_24, hv, h⟩ := aJ h
  try simp only [hv, go_sem]
  obtain ⟨v_25, hv, h⟩ := aJ h
  try simp only [hv, go_sem]
  obtain ⟨v_27, hv, h⟩ := aJ h
  try simp only [hv, go_sem]
  refine ⟨fun hc => ?_, fun hc => ?_⟩
  ·replace h := jA hc h
   exact aG hF [.cell 2 117, .tmp 3] rfl rfl rfl (aC h) xAd
  ·replace h := jB hc h
   exact aG hF [.cell 2 117, .tmp 3] rfl rfl rfl (aC h) xAd
attribute [go_sem] aA7
def kN (F : Md) (a_0 : qi) (b_1 : qi) (n_2 : Int) : Option Bool :=
 (aGa F n_2 (0 : Int)).bind (fun v_5 => (aEc F b_1 v_5.1).bind (fun v_7 => ck ((v_7.2.1 = (0 : Int)) → ((yJ F a_0 v_7.1).isSome = true)) (some ((decide (v_7.2.1 = (0 : Int))) && (decide (((yJ F a_0 v_7.1).getD (0 : Int)) ≤ (0 : Int)))))))
def aGI : PlR := ⟨[(0, .B [2, 3, 4]), (1, .B [3, 4, 7]), (2, .B [3, 9, 10]), (3, .A [6])], []⟩
def aIz : Ty := .pair qh (.pair qh qf)
def zC (F : Md) : aF := mSpec aIz (.one .bool) (fun x => kN F x.1 x.2.1 x.2.2.1)
abbrev aA8 (F : Md) : List (FuncId × aF) := [(67, (vK F)), (96, (aD9 F)), (97, (aCm F))]
theorem aP1 (F : Md) : bG Tryz.prog GL (aA8 F) := .cons (aKK F) xAa (.cons (aR8 F) xAa (.cons (aQ6 F) xAa (.nil)))
attribute [go_sem] aIz aGI
theorem aOm (F : Md) : FOK Tryz.prog GL 68 (zC F) := by
 refine bN (aS (aP1 F)) mix Tryz.func68 rfl xAa xAb aGI fun w0 S x Θ hw h hF => ?_
 obtain ⟨(a_0 : qi), (b_1 : qi), (n_2 : Int), u⟩ := x
 simp only [bQ, go_sem]
 replace h : sat (kN F a_0 b_1 n_2) _ := h
 unfold kN at h
 obtain ⟨v_5, hv, h⟩ := aJ h
 try simp only [hv, go_sem]
 obtain ⟨v_7, hv, h⟩ := aJ h
 try simp only [hv, go_sem]
 refine aU h fun g0 h => ?_
 exact aG hF [.tmp 6] rfl rfl rfl (aC h) xAd
attribute [go_sem] zC
end
end Nu
end Go.Proofs
namespace Go.Proofs
open Go.Vc
set_option maxRecDepth 100000
namespace Nu
noncomputable section
set_option maxHeartbeats 4000000
section
open Go.Shelf Go.RowKit Go.Lib
theorem aVC (n : Nat) (w : World) (hn : n ≤ 1073741824) :
  Calls Tryz.prog 98 #[.slice none 0 0, .int .i64 n] w fun e w' => (n = 0 ∧ e = .returned (.slice none 0 0) ∧ w' = w) ∨
   (0 < n ∧ e = .returned (.slice (some ⟨w.heap.size, 0, none⟩) 0 (grownCap w n 0 9)) ∧ w' = w.drew.alloc (.cells (Builtin.zeroCells #[Value.string ⟨#[]⟩] n ++ Builtin.zeroCells #[Value.string ⟨#[]⟩] (grownCap w n 0 9 - n)) 9)) := by
 have h1 : ¬ ((n : Int) < 0) := by omega
 have h3 : wrap64 ((n : Int) - wrap64 (0 - 0)) = (n : Int) := by unfold wrap64; omega
 have h5 : wrap64 (n : Int) = (n : Int) := by unfold wrap64; omega
 obtain ⟨i, hi, hz, hs, hb⟩ : ∃ i, Tryz.prog.info? 9 = some i ∧ i.zero = some (.string ⟨#[]⟩) ∧ i.size = 1 ∧ i.bytes = 16 := ⟨_, rfl, rfl, rfl, rfl⟩
 go_enter Tryz.func98, Tryz.ntmps98
 rcases Nat.eq_zero_or_pos n with rfl | hp
 ·go_wp2
  go_ret
  exact ⟨rfl, rfl⟩
 ·have h4 : (n : Int) > 0 := by omega
  have hrz : ∀ ty, (Builtin.append_ #[25, 3] ty #[.slice none 0 0, .int .i64 (n : Int)]).run Tryz.prog w = .ok (.slice (some ⟨w.heap.size, 0, none⟩) n (grownCap w n 0 9)) (w.drew.alloc (.cells (Builtin.zeroCells #[Value.string ⟨#[]⟩] n ++ Builtin.zeroCells #[Value.string ⟨#[]⟩] (grownCap w n 0 9 - n)) 9)) :=
   fun ty => Lib.run_append_nil_zeros w 25 3 ty 9 i (.string ⟨#[]⟩) .i64 .i64 rfl rfl hi hz n hp (by omega) (by omega) (by rw [hb]; omega)
  have hG := grownCap_ge w n 0 9
  have hG2 := grownCap_le_maxLen w n 0 9 (by unfold maxLen; omega)
  unfold maxLen at hG2
  generalize grownCap w n 0 9 = G at *
  go_wp2_with (at_builtin; refine Lib.wpList_append_run _ rfl _ _ _ _ rfl _ _ rfl rfl _ _ (hrz _) ?_)
  go_ret
  exact .inr ⟨rfl, rfl⟩
end
def oE (F : Md) (n : Int) : Option qm := ck (0 ≤ n ∧ n ≤ 1073741824) (some [])
def iB (F : Md) : iE where
 D := Int × qm
 av := fun d => [.nilS, .val qj d.1]
 hp := fun d => []
 m := 0
 pre := fun d => oE F d.1 = some d.2
 out := fun d => (fun r : qm => .ret (.own 0) [.row 9 .str (r)]) d.2
attribute [go_sem] iB
theorem aRb {F : Md} {c : Ctx} {w w' : World} {d : (iB F).D} (hd : d.2 = []) (good : Go.Vc.Good (GM (iB F) c d) w c [] w) (hk : fJ nothing w w') (v : Value) (hv : ∃ a n m, v = .slice a n m) (hr : w'.ownsRow 0 9 1 v 0 []) (hb : ∀ b, aN v = some b → w.heap.size ≤ b ∧ b < w'.heap.size) :
  aHW (iB F) c w d (.returned v) w' := by
 have e1 : (c.push v).hd c.n = v := by simp [Ctx.push]
 have h0 : c.n = 0 := good.n
 have := good.push hk (o := .row 9 .str []) (hv := v) (by
  show vU _ _ _ _ _ _
  rw [e1]
  exact ⟨[], hr, ⟨rfl, [], rfl, rfl, fun i h => by simp at h⟩⟩) (fun b h => hb b (by simpa [dO, e1] using h))
 refine ⟨c.push v, ?_⟩
 show ∃ u, _ ∧ Go.Vc.Good _ _ _ [.row 9 .str d.2] _ ∧ aQ _ _ (.own 0) u
 rw [hd]
 refine ⟨v, rfl, this.1, ?_⟩
 have := aBu (c := c) (v' := v) hv (w' := w') (S' := c.S)
 rw [h0] at this
 exact this
theorem aEP (F : Md) : GOK Tryz.prog GL 98 (iB F) := by
 rintro c w ⟨n, r⟩ vs hpre ⟨good, glob, len, val⟩
 have hpre : oE F n = some r := hpre
 unfold oE at hpre
 obtain ⟨⟨h1, h2⟩, hpre⟩ := aI hpre
 have hr : [] = r := Option.some.inj hpre
 have hv0 := val 0 (by show 0 < 2; decide) (by rw [len]; show 0 < 2; decide)
 have hv1 := val 1 (by show 1 < 2; decide) (by rw [len]; show 1 < 2; decide)
 have e0 : vs.toList[0]'(by rw [len]; show 0 < 2; decide) = .slice none 0 0 := by
  obtain ⟨q1, _, q3⟩ := hv0
  have q3 := q3 rfl
  revert q1 q3
  generalize vs.toList[0]'(by rw [len]; show 0 < 2; decide) = sv
  intro q1 q3
  have q1 : sv.cells.toList = [.slice none 0 0] := q1
  cases sv <;> simp [Value.cells] at q1 q3 <;> simp [q1]
 obtain ⟨e1, _, _⟩ := aEY (k := .i64) (n := n) hv1
 have hvs : vs = #[.slice none 0 0, .int .i64 (n.toNat : Int)] := by
  have hlen : vs.toList.length = 2 := len
  rw [← Array.toList_inj]
  apply List.ext_getElem
  ·exact hlen
  ·intro i a1 a2
   match i, a2 with
   | 0, _ => exact e0
   | 1, _ => show _ = Value.int .i64 (n.toNat : Int); rw [Int.toNat_of_nonneg h1]; exact e1
 rw [hvs]
 refine Calls.mono (f := 98) (aVC n.toNat w (by omega)) ?_
 rintro e w' (⟨_, rfl, rfl⟩ | ⟨hp, rfl, rfl⟩)
 ·exact aRb (d := (n, r)) hr.symm good (.refl nothing _) _ ⟨_, _, _, rfl⟩ ⟨rfl, .inl ⟨rfl, rfl⟩⟩ (fun b h => by simp [aN] at h)
 ·have hG := grownCap_ge w n.toNat 0 9
  have hG2 := grownCap_le_maxLen w n.toNat 0 9 (by unfold maxLen; omega)
  have hk : ∀ o, fJ nothing w (w.drew.alloc o) := fun o => have k := fJ.alloc nothing w.drew o; ⟨rfl, rfl, rfl, k.size, k.block⟩
  refine aRb (d := (n, r)) hr.symm good (hk _) _ ⟨_, _, _, rfl⟩ ⟨rfl, .inr ⟨w.heap.size, _, Builtin.zeroCells #[Value.string ⟨#[]⟩] n.toNat ++ Builtin.zeroCells #[Value.string ⟨#[]⟩] (grownCap w n.toNat 0 9 - n.toNat), rfl, Nat.zero_le _, ?_, Nat.zero_le _, hG2, ?_, rfl⟩⟩ ?_
  ·show (w.heap.push _)[w.heap.size]? = _
   simp
  ·simp [Builtin.zeroCells]
   omega
  ·intro b h
   simp only [aN, Option.some.injEq] at h
   subst h
   refine ⟨Nat.le_refl _, ?_⟩
   show w.heap.size < (w.heap.push _).size
   simp
end
end Nu
end Go.Proofs
