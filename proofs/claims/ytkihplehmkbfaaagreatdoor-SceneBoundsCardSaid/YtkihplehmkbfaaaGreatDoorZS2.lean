import Derived.Test.YtkihplehmkbfaaaGreatDoorZS1
import Derived.Test.YtkihplehmkbfaaaGreatDoorZL6
import Derived.Lib.AppendZeros
import Derived.Lib.SliceRun
import Derived.WalkKit
import Derived.Lib.Walk
import Derived.Shelf.RegionOpenPlain
set_option linter.unusedVariables false
set_option linter.unusedSimpArgs false
namespace Go.Proofs
open Go.Vc
set_option maxRecDepth 100000
namespace Nu
section
open Go.Shelf Go.RowKit Go.Lib
set_option maxHeartbeats 4000000 in
theorem aQO (n : Nat) (w : World) (hn : n ≤ 1073741824) :
  Calls Tryz.prog 202 #[.slice none 0 0, .int .i64 n] w fun e w' => (n = 0 ∧ e = .returned (.slice none 0 0) ∧ w' = w) ∨
   (0 < n ∧ e = .returned (.slice (some ⟨w.heap.size, 0, none⟩) 0 (grownCap w n 0 9)) ∧ w' = w.drew.alloc (.cells (Builtin.zeroCells #[Value.string ⟨#[]⟩] n ++ Builtin.zeroCells #[Value.string ⟨#[]⟩] (grownCap w n 0 9 - n)) 9)) := by
 have h1 : ¬ ((n : Int) < 0) := by omega
 have h3 : wrap64 ((n : Int) - wrap64 (0 - 0)) = (n : Int) := by unfold wrap64; omega
 have h5 : wrap64 (n : Int) = (n : Int) := by unfold wrap64; omega
 obtain ⟨i, hi, hz, hs, hb⟩ : ∃ i, Tryz.prog.info? 9 = some i ∧ i.zero = some (.string ⟨#[]⟩) ∧ i.size = 1 ∧ i.bytes = 16 := ⟨_, rfl, rfl, rfl, rfl⟩
 go_enter Tryz.func202, Tryz.ntmps202
 rcases Nat.eq_zero_or_pos n with rfl | hp
 ·go_wp2
  go_ret
  exact ⟨rfl, rfl⟩
 ·have h4 : (n : Int) > 0 := by omega
  have hrz : ∀ ty, (Builtin.append_ #[48, 3] ty #[.slice none 0 0, .int .i64 (n : Int)]).run Tryz.prog w = .ok (.slice (some ⟨w.heap.size, 0, none⟩) n (grownCap w n 0 9)) (w.drew.alloc (.cells (Builtin.zeroCells #[Value.string ⟨#[]⟩] n ++ Builtin.zeroCells #[Value.string ⟨#[]⟩] (grownCap w n 0 9 - n)) 9)) :=
   fun ty => Lib.run_append_nil_zeros w 48 3 ty 9 i (.string ⟨#[]⟩) .i64 .i64 rfl rfl hi hz n hp (by omega) (by omega) (by rw [hb]; omega)
  have hG := grownCap_ge w n 0 9
  have hG2 := grownCap_le_maxLen w n 0 9 (by unfold maxLen; omega)
  unfold maxLen at hG2
  generalize grownCap w n 0 9 = G at *
  go_wp2_with (at_builtin; refine Lib.wpList_append_run _ rfl _ _ _ _ rfl _ _ rfl rfl _ _ (hrz _) ?_)
  go_ret
  exact .inr ⟨rfl, rfl⟩
end
def lY (F : Md) (n : Int) : Option (List (List Nat)) := ck (0 ≤ n ∧ n ≤ 1073741824) (some [])
noncomputable def fY (F : Md) : oD where
 D := Int × (List (List Nat))
 av := fun d => [.nilS, .val (.i .i64) d.1]
 hp := fun d => []
 m := 0
 pre := fun d => lY F d.1 = some d.2
 out := fun d => (fun r : (List (List Nat)) => .ret (.own 0) [.row 9 .str (r)]) d.2
attribute [go_sem] fY
theorem aNb {F : Md} {c : Ctx} {w w' : World} {d : (fY F).D} (hd : d.2 = []) (good : Go.Vc.Good (GM (fY F) c d) w c [] w) (hk : fM nothing w w') (v : Value) (hv : ∃ a n m, v = .slice a n m) (hr : w'.ownsRow 0 9 1 v 0 []) (hb : ∀ b, aL v = some b → w.heap.size ≤ b ∧ b < w'.heap.size) :
  aFm (fY F) c w d (.returned v) w' := by
 have e1 : (c.push v).hd c.n = v := by simp [Ctx.push]
 have h0 : c.n = 0 := good.n
 have := good.push hk (o := .row 9 .str []) (hv := v) (by
  show wH _ _ _ _ _ _
  rw [e1]
  exact ⟨[], hr, ⟨rfl, [], rfl, rfl, fun i h => by simp at h⟩⟩) (fun b h => hb b (by simpa [dU, e1] using h))
 refine ⟨c.push v, ?_⟩
 show ∃ u, _ ∧ Go.Vc.Good _ _ _ [.row 9 .str d.2] _ ∧ aM _ _ (.own 0) u
 rw [hd]
 refine ⟨v, rfl, this.1, ?_⟩
 have := yN (c := c) (v' := v) hv (w' := w') (S' := c.S)
 rw [h0] at this
 exact this
theorem aCx (F : Md) : GOK Tryz.prog GL 202 (fY F) := by
 rintro c w ⟨n, r⟩ vs hpre ⟨good, glob, len, val⟩
 have hpre : lY F n = some r := hpre
 unfold lY at hpre
 obtain ⟨⟨h1, h2⟩, hpre⟩ := aI hpre
 have hr : [] = r := Option.some.inj hpre
 have hv0 := val 0 (by show 0 < 2; decide) (by rw [len]; show 0 < 2; decide)
 have hv1 := val 1 (by show 1 < 2; decide) (by rw [len]; show 1 < 2; decide)
 have e0 : vs.toList[0]'(by rw [len]; show 0 < 2; decide) = .slice none 0 0 := by
  obtain ⟨q1, _, q3⟩ := hv0
  have q3 := q3 rfl
  revert q1 q3
  generalize vs.toList[0]'(by rw [len]; show 0 < 2; decide) = sv
  intro q1 q3
  have q1 : sv.cells.toList = [.slice none 0 0] := q1
  cases sv <;> simp [Value.cells] at q1 q3 <;> simp [q1]
 obtain ⟨e1, _, _⟩ := aCE (k := .i64) (n := n) hv1
 have hvs : vs = #[.slice none 0 0, .int .i64 (n.toNat : Int)] := by
  have hlen : vs.toList.length = 2 := len
  rw [← Array.toList_inj]
  apply List.ext_getElem
  ·exact hlen
  ·intro i a1 a2
   match i, a2 with
   | 0, _ => exact e0
   | 1, _ => show _ = Value.int .i64 (n.toNat : Int); rw [Int.toNat_of_nonneg h1]; exact e1
 rw [hvs]
 refine Calls.mono (f := 202) (aQO n.toNat w (by omega)) ?_
 rintro e w' (⟨_, rfl, rfl⟩ | ⟨hp, rfl, rfl⟩)
 ·exact aNb (d := (n, r)) hr.symm good (.refl nothing _) _ ⟨_, _, _, rfl⟩ ⟨rfl, .inl ⟨rfl, rfl⟩⟩ (fun b h => by simp [aL] at h)
 ·have hG := grownCap_ge w n.toNat 0 9
  have hG2 := grownCap_le_maxLen w n.toNat 0 9 (by unfold maxLen; omega)
  have hk : ∀ o, fM nothing w (w.drew.alloc o) := fun o => have k := fM.alloc nothing w.drew o; ⟨rfl, rfl, rfl, k.size, k.block⟩
  refine aNb (d := (n, r)) hr.symm good (hk _) _ ⟨_, _, _, rfl⟩ ⟨rfl, .inr ⟨w.heap.size, _, Builtin.zeroCells #[Value.string ⟨#[]⟩] n.toNat ++ Builtin.zeroCells #[Value.string ⟨#[]⟩] (grownCap w n.toNat 0 9 - n.toNat), rfl, Nat.zero_le _, ?_, Nat.zero_le _, hG2, ?_, rfl⟩⟩ ?_
  ·show (w.heap.push _)[w.heap.size]? = _
   simp
  ·simp [Builtin.zeroCells]
   omega
  ·intro b h
   simp only [aL, Option.some.injEq] at h
   subst h
   refine ⟨Nat.le_refl _, ?_⟩
   show w.heap.size < (w.heap.push _).size
   simp
end Nu
end Go.Proofs
namespace Go.Proofs
open Go.Vc
set_option maxRecDepth 20000
namespace Nu
noncomputable def nE (F : Md) (l_8 : (List (Bool × ((List Nat) × (Int × Unit))))) : Option (Bool) :=
 ck ((2 : Int) < (((l_8.length) : Nat) : Int)) (ck ((1 : Int) < (((l_8.length) : Nat) : Int)) ((uW F (l_8.getD (2 : Nat) (false, [], 0, ())) (l_8.getD (1 : Nat) (false, [], 0, ()))).bind (fun v_14 => ck ((v_14 ≤ (0 : Int)) → ((0 : Int) < (((l_8.length) : Nat) : Int))) (ck ((v_14 ≤ (0 : Int)) → ((1 : Int) < (((l_8.length) : Nat) : Int))) (ck ((v_14 ≤ (0 : Int)) → ((iQ F (l_8.getD (0 : Nat) (false, [], 0, ())) (l_8.getD (1 : Nat) (false, [], 0, ())) (256 : Int)).isSome = true)) (ck (((v_14 ≤ (0 : Int)) ∧ (((iQ F (l_8.getD (0 : Nat) (false, [], 0, ())) (l_8.getD (1 : Nat) (false, [], 0, ())) (256 : Int)).getD false) = true)) → ((1 : Int) < (((l_8.length) : Nat) : Int))) (ck (((v_14 ≤ (0 : Int)) ∧ (((iQ F (l_8.getD (0 : Nat) (false, [], 0, ())) (l_8.getD (1 : Nat) (false, [], 0, ())) (256 : Int)).getD false) = true)) → ((2 : Int) < (((l_8.length) : Nat) : Int))) (ck (((v_14 ≤ (0 : Int)) ∧ (((iQ F (l_8.getD (0 : Nat) (false, [], 0, ())) (l_8.getD (1 : Nat) (false, [], 0, ())) (256 : Int)).getD false) = true)) → ((iQ F (l_8.getD (1 : Nat) (false, [], 0, ())) (l_8.getD (2 : Nat) (false, [], 0, ())) (4096 : Int)).isSome = true)) (some (((decide (v_14 ≤ (0 : Int))) && ((iQ F (l_8.getD (0 : Nat) (false, [], 0, ())) (l_8.getD (1 : Nat) (false, [], 0, ())) (256 : Int)).getD false)) && ((iQ F (l_8.getD (1 : Nat) (false, [], 0, ())) (l_8.getD (2 : Nat) (false, [], 0, ())) (4096 : Int)).getD false)))))))))))
noncomputable def rT (F : Md) (s_0 : (Int × (Int × (Int × (Int × ((List Nat) × ((List Nat) × ((List Nat) × ((List Nat) × ((List ((List Nat) × ((List ((List Nat) × (((List Nat) × ((List Nat) × Unit)) × (Ex × Unit)))) × ((List ((List Nat) × (((List Nat) × ((List Nat) × Unit)) × Unit))) × ((List (List Nat)) × ((List ((List Nat) × (Ex × Unit))) × Unit)))))) × ((List ((List Nat) × ((List Nat) × ((List Nat) × ((List Nat) × Unit))))) × Unit))))))))))) (x56_16 : Int) (l_17 : (List (Bool × ((List Nat) × (Int × Unit))))) : Option ((Int × (List (Bool × ((List Nat) × (Int × Unit))))) ⊕ ((List (Bool × ((List Nat) × (Int × Unit)))) ⊕ Bool)) :=
 if x56_16 < (4 : Int) then ck (0 ≤ x56_16 ∧ x56_16 < (4 : Int)) ((aAl F (([s_0.2.2.2.2.1, s_0.2.2.2.2.2.1, s_0.2.2.2.2.2.2.1, s_0.2.2.2.2.2.2.2.1] : List (List Nat)).getD (x56_16.toNat) ([] : List Nat))).bind (fun v_24 => ck (¬ (¬ (v_24.2.1 = (0 : Int))) → ((oS F v_24.1).isSome = true)) (if (¬ (v_24.2.1 = (0 : Int))) ∨ (((oS F v_24.1).getD (0 : Int)) ≤ (0 : Int)) then some (.inr (.inr false)) else ck (((l_17.length) + (1 : Nat)) * 73 ≤ 140737488355328) (ck (I64 (x56_16 + (1 : Int))) (some (.inl ((x56_16 + (1 : Int)), (l_17 ++ ([v_24.1] : List (Bool × ((List Nat) × (Int × Unit)))))))))))) else some (.inr (.inl l_17))
noncomputable def rG (F : Md) (s_0 : (Int × (Int × (Int × (Int × ((List Nat) × ((List Nat) × ((List Nat) × ((List Nat) × ((List ((List Nat) × ((List ((List Nat) × (((List Nat) × ((List Nat) × Unit)) × (Ex × Unit)))) × ((List ((List Nat) × (((List Nat) × ((List Nat) × Unit)) × Unit))) × ((List (List Nat)) × ((List ((List Nat) × (Ex × Unit))) × Unit)))))) × ((List ((List Nat) × ((List Nat) × ((List Nat) × ((List Nat) × Unit))))) × Unit))))))))))) : Option Bool :=
 if ((((((s_0.1 < (8 : Int)) ∨ ((200 : Int) < s_0.1)) ∨ (s_0.2.1 < (1 : Int))) ∨ ((20 : Int) < s_0.2.1)) ∨ (s_0.2.2.1 < (0 : Int))) ∨ ((3 : Int) < s_0.2.2.1)) ∨ ((¬ (s_0.2.2.2.1 = (1 : Int))) ∧ (¬ (s_0.2.2.2.1 = (2 : Int)))) then some false else (dF F (fun d : Int × (List (Bool × ((List Nat) × (Int × Unit)))) => rT F s_0 d.1 d.2) ((0 : Int), ([] : List (Bool × ((List Nat) × (Int × Unit)))))).bind (fun e => match e with | (.inl e) => nE F e | (.inr e) => some e)
def aA6 : PlR := ⟨[(0, .B [1]), (1, .A [1, 45]), (2, .A [2]), (3, .A [1, 3]), (4, .A [3, 54, 55, 56]), (5, .A [3, 54, 55, 56, 57]), (6, .A [3, 5, 54, 55, 56]), (7, .B [3, 6, 7, 54, 55, 56]), (8, .A [3, 6, 54, 55, 56, 71]), (9, .A [2]), (10, .B [3, 54, 55, 56]), (11, .A [3, 54, 55, 56]), (12, .A [2])], [(7, 15)]⟩
def aCj : Ty := .pair (.pair (.i .i64) (.pair (.i .i64) (.pair (.i .i64) (.pair (.i .i64) (.pair .str (.pair .str (.pair .str (.pair .str (.pair (.sl (.pair .str (.pair (.sl (.pair .str (.pair (.pair .str (.pair .str .unit)) (.pair .expr .unit)))) (.pair (.sl (.pair .str (.pair (.pair .str (.pair .str .unit)) .unit))) (.pair (.sl .str) (.pair (.sl (.pair .str (.pair .expr .unit))) .unit)))))) (.pair (.sl (.pair .str (.pair .str (.pair .str (.pair .str .unit))))) .unit)))))))))) .unit
noncomputable def pH (F : Md) : aH := mSpec aCj (.one .bool) (fun x => rG F x.1)
noncomputable def nQ (F : Md) : List (FuncId × aH) := [(133, (xU F)), (134, (vM F)), (22, (sD F)), (57, (pD F))]
theorem aIu (F : Md) : bD Tryz.prog GL (nQ F) := .cons (aMa F) (by kernel_rfl) (.cons (aKN F) (by kernel_rfl) (.cons (aHN F) (by kernel_rfl) (.cons (aFJ F) (by kernel_rfl) (.nil))))
theorem aDG (F : Md) : gam (nQ F) 133 = some (xU F) := rfl
theorem aDH (F : Md) : gam (nQ F) 134 = some (vM F) := rfl
theorem aEG (F : Md) : gam (nQ F) 22 = some (sD F) := rfl
theorem aEH (F : Md) : gam (nQ F) 57 = some (pD F) := rfl
attribute [go_sem] aCj aA6 aDG aDH aEG aEH
set_option maxHeartbeats 4000000 in
theorem aGW (F : Md) : FOK Tryz.prog GL 66 (pH F) := by
 refine bG (aY (aIu F)) mix Tryz.func66 rfl (by kernel_rfl) (by decide) aA6 fun w0 S x Θ hw h hF => ?_
 obtain ⟨(s_0 : (Int × (Int × (Int × (Int × ((List Nat) × ((List Nat) × ((List Nat) × ((List Nat) × ((List ((List Nat) × ((List ((List Nat) × (((List Nat) × ((List Nat) × Unit)) × (Ex × Unit)))) × ((List ((List Nat) × (((List Nat) × ((List Nat) × Unit)) × Unit))) × ((List (List Nat)) × ((List ((List Nat) × (Ex × Unit))) × Unit)))))) × ((List ((List Nat) × ((List Nat) × ((List Nat) × ((List Nat) × Unit))))) × Unit))))))))))), u⟩ := x
 simp only [bK, go_sem]
 replace h : sat (rG F s_0) _ := h
 unfold rG at h
 refine ⟨fun hc => ?_, fun hc => ?_⟩
 ·replace h := iW hc h
  exact aG hF [.tmp 2] rfl rfl rfl (aB h) (by simp only [aS, go_sem])
 ·replace h := iX hc h
  refine eB hF (D := (List (Bool × ((List Nat) × (Int × Unit))))) (fun d => sat (nE F d) Θ) [] (fun d => [(3, .own 0)]) (fun d => [.inr (.row 25 (.pair .bool (.pair (.sl (.u .u64)) (.pair (.i .i64) .unit))) d)]) ?_ ?_
  ·simp only [go_sem]
   refine aBC 3 25 (.pair .bool (.pair (.sl (.u .u64)) (.pair (.i .i64) .unit))) rfl ?_
   simp only [go_sem]
   refine vC [1] rfl rfl ?_
   simp only [go_sem]
   refine bQ hF (D := Int × (List (Bool × ((List Nat) × (Int × Unit))))) [55] (fun d => [(3, .own 0), (54, .val (.sl .str) ([s_0.2.2.2.2.1, s_0.2.2.2.2.2.1, s_0.2.2.2.2.2.2.1, s_0.2.2.2.2.2.2.2.1] : List (List Nat))), (56, .val (.i .i64) d.1)]) (fun d => [.inr (.row 25 (.pair .bool (.pair (.sl (.u .u64)) (.pair (.i .i64) .unit))) d.2)]) h rfl (by (try simp only [iI, gA, true_or, and_self, go_sem]) <;> (repeat' apply And.intro) <;> first | rfl | (left; rfl) | (right; rfl) | (left; simp only [go_sem]; done) | (right; simp only [go_sem]; done) | (simp; done) | (simp only [*]; done) | omega) ?_
   rintro ⟨x56_16, l_17⟩ A5 T5 hA5 hE5 h
   simp only [go_sem]
   replace h : sat (rT F s_0 x56_16 l_17) _ := h
   unfold rT at h
   refine eG h (fun hc h => ?_) fun hc h => ?_
   ·obtain ⟨g0, h⟩ := aK h
    repeat (refine ⟨zAA, ?_⟩)
    obtain ⟨v_24, hv, h⟩ := aJ h
    try simp only [hv, go_sem]
    obtain ⟨g0, h⟩ := aK h
    repeat (refine ⟨zAD, ?_⟩)
    refine ⟨fun hc => ?_, fun hc => ?_⟩
    ·replace h := iW zAB h
     replace h := hE5 _ (aB h)
     try dsimp only at h
     exact aG hF [.tmp 2] rfl rfl rfl (aB h) (by simp only [aS, go_sem])
    ·replace h := iX zAB h
     obtain ⟨g0, h⟩ := aK h
     repeat (refine ⟨zAA, ?_⟩)
     obtain ⟨g0, h⟩ := aK h
     try simp only [I64, I32] at g0
     repeat (refine ⟨zAA, ?_⟩)
     replace h := hA5 _ (aB h)
     refine gL [2] rfl rfl ?_
     simp only [go_sem]
     exact aQ _ h rfl (by simp only [go_sem])
   ·replace h := hE5 _ (aB h)
    try dsimp only at h
    exact aQ (l_17) h rfl (by simp only [go_sem])
  ·rintro l_8 h
   simp only [go_sem]
   replace h : sat (nE F l_8) _ := h
   unfold nE at h
   obtain ⟨g0, h⟩ := aK h
   obtain ⟨g1, h⟩ := aK h
   repeat (refine ⟨zAA, ?_⟩)
   obtain ⟨v_14, hv, h⟩ := aJ h
   try simp only [hv, go_sem]
   obtain ⟨g0, h⟩ := aK h
   obtain ⟨g1, h⟩ := aK h
   obtain ⟨g2, h⟩ := aK h
   obtain ⟨g3, h⟩ := aK h
   obtain ⟨g4, h⟩ := aK h
   obtain ⟨g5, h⟩ := aK h
   repeat (refine ⟨by first | with_reducible assumption | omega | (intros; first | with_reducible assumption | omega) | (simp only [go_sem] at *; first | with_reducible assumption | omega) | (intro _; exact ⟨rfl, by decide⟩) | (intro _; refine (?_ : _ = aV _); rfl) | exact ⟨rfl, rfl⟩ | (intro q0; (try have e0 := g0 zAC); (try have e1 := g1 zAC); (try have e2 := g2 zAC); (try have e3 := g3 zAC); (try have e4 := g4 zAC); (try have e5 := g5 zAC); first | assumption | omega) | decide, ?_⟩)
   exact aG hF [.tmp 2] rfl rfl rfl (aB h) (by simp only [aS, go_sem])
attribute [go_sem] pH
noncomputable def pI (F : Md) (x_6 : (List (List Nat))) (s_0 : ((List Nat) × ((List ((List Nat) × (((List Nat) × ((List Nat) × Unit)) × (Ex × Unit)))) × ((List ((List Nat) × (((List Nat) × ((List Nat) × Unit)) × Unit))) × ((List (List Nat)) × ((List ((List Nat) × (Ex × Unit))) × Unit)))))) (p_11 : (List (List Nat))) : Option ((List (List Nat)) × ((List (List Nat)) × ((List (List Nat)) × Unit))) :=
 some (x_6, p_11, s_0.2.2.2.1, ())
noncomputable def uX (F : Md) (s_0 : ((List Nat) × ((List ((List Nat) × (((List Nat) × ((List Nat) × Unit)) × (Ex × Unit)))) × ((List ((List Nat) × (((List Nat) × ((List Nat) × Unit)) × Unit))) × ((List (List Nat)) × ((List ((List Nat) × (Ex × Unit))) × Unit)))))) (x25_12 : Int) (p_13 : (List (List Nat))) : Option ((Int × (List (List Nat))) ⊕ (List (List Nat))) :=
 if x25_12 < (((s_0.2.2.1.length) : Nat) : Int) then ck (0 ≤ x25_12 ∧ x25_12 < (((s_0.2.2.1.length) : Nat) : Int)) (ck (((p_13.length) + (1 : Nat)) * 16 ≤ 140737488355328) (ck (I64 (x25_12 + (1 : Int))) (some (.inl ((x25_12 + (1 : Int)), (p_13 ++ ([(s_0.2.2.1.getD (x25_12.toNat) ([], ([], [], ()), ())).1] : List (List Nat)))))))) else some (.inr p_13)
noncomputable def pJ (F : Md) (s_0 : ((List Nat) × ((List ((List Nat) × (((List Nat) × ((List Nat) × Unit)) × (Ex × Unit)))) × ((List ((List Nat) × (((List Nat) × ((List Nat) × Unit)) × Unit))) × ((List (List Nat)) × ((List ((List Nat) × (Ex × Unit))) × Unit)))))) (x_6 : (List (List Nat))) : Option ((List (List Nat)) × ((List (List Nat)) × ((List (List Nat)) × Unit))) :=
 (dF F (fun d : Int × (List (List Nat)) => uX F s_0 d.1 d.2) ((0 : Int), ([] : List (List Nat)))).bind (fun e => pI F x_6 s_0 e)
noncomputable def uY (F : Md) (s_0 : ((List Nat) × ((List ((List Nat) × (((List Nat) × ((List Nat) × Unit)) × (Ex × Unit)))) × ((List ((List Nat) × (((List Nat) × ((List Nat) × Unit)) × Unit))) × ((List (List Nat)) × ((List ((List Nat) × (Ex × Unit))) × Unit)))))) (x12_17 : Int) (x_18 : (List (List Nat))) : Option ((Int × (List (List Nat))) ⊕ (List (List Nat))) :=
 if x12_17 < (((s_0.2.1.length) : Nat) : Int) then ck (0 ≤ x12_17 ∧ x12_17 < (((s_0.2.1.length) : Nat) : Int)) (ck (((x_18.length) + (1 : Nat)) * 16 ≤ 140737488355328) (ck (I64 (x12_17 + (1 : Int))) (some (.inl ((x12_17 + (1 : Int)), (x_18 ++ ([(s_0.2.1.getD (x12_17.toNat) ([], ([], [], ()), (Ex.mk 0 [] []), ())).1] : List (List Nat)))))))) else some (.inr x_18)
noncomputable def aR (F : Md) (s_0 : ((List Nat) × ((List ((List Nat) × (((List Nat) × ((List Nat) × Unit)) × (Ex × Unit)))) × ((List ((List Nat) × (((List Nat) × ((List Nat) × Unit)) × Unit))) × ((List (List Nat)) × ((List ((List Nat) × (Ex × Unit))) × Unit)))))) : Option ((List (List Nat)) × ((List (List Nat)) × ((List (List Nat)) × Unit))) :=
 (dF F (fun d : Int × (List (List Nat)) => uY F s_0 d.1 d.2) ((0 : Int), ([] : List (List Nat)))).bind (fun e => pJ F s_0 e)
def aDb : PlR := ⟨[(0, .B [1, 2, 3]), (1, .A [1, 2, 3, 10, 11, 12]), (2, .A [1, 2, 3, 10, 11, 12, 13]), (3, .B [1, 2, 3, 6, 10, 11, 12]), (4, .B [1, 2, 3, 10, 11, 12]), (5, .A [1, 2, 3, 10, 11, 12]), (6, .A [1, 2, 3, 23, 24, 25]), (7, .A [1, 2, 3, 23, 24, 25, 26]), (8, .B [1, 2, 3, 8, 23, 24, 25]), (9, .B [1, 2, 3, 23, 24, 25]), (10, .A [1, 2, 3, 23, 24, 25]), (11, .A [2, 3, 4])], [(4, 9), (9, 14)]⟩
def aD9 : Ty := .pair (.pair .str (.pair (.sl (.pair .str (.pair (.pair .str (.pair .str .unit)) (.pair .expr .unit)))) (.pair (.sl (.pair .str (.pair (.pair .str (.pair .str .unit)) .unit))) (.pair (.sl .str) (.pair (.sl (.pair .str (.pair .expr .unit))) .unit))))) .unit
noncomputable def tL (F : Md) : aH := mSpec aD9 (.tup (.pair (.sl .str) (.pair (.sl .str) (.pair (.sl .str) .unit)))) (fun x => aR F x.1)
noncomputable def aKO (F : Md) : List (FuncId × aH) := []
theorem aKP (F : Md) : bD Tryz.prog GL (aKO F) := .nil
attribute [go_sem] aD9 aDb
set_option maxHeartbeats 4000000 in
theorem aKg (F : Md) : FOK Tryz.prog GL 135 (tL F) := by
 refine bG (aY (aKP F)) mix Tryz.func135 rfl (by kernel_rfl) (by decide) aDb fun w0 S x Θ hw h hF => ?_
 obtain ⟨(s_0 : ((List Nat) × ((List ((List Nat) × (((List Nat) × ((List Nat) × Unit)) × (Ex × Unit)))) × ((List ((List Nat) × (((List Nat) × ((List Nat) × Unit)) × Unit))) × ((List (List Nat)) × ((List ((List Nat) × (Ex × Unit))) × Unit)))))), u⟩ := x
 simp only [bK, go_sem]
 replace h : sat (aR F s_0) _ := h
 unfold aR at h
 refine eB hF (D := (List (List Nat))) (fun d => sat (pJ F s_0 d) Θ) [3] (fun d => [(1, .ptr 0 []), (2, .own 1)]) (fun d => [.inr (.box 5 (.val (.pair .str (.pair (.sl (.pair .str (.pair (.pair .str (.pair .str .unit)) (.pair .expr .unit)))) (.pair (.sl (.pair .str (.pair (.pair .str (.pair .str .unit)) .unit))) (.pair (.sl .str) (.pair (.sl (.pair .str (.pair .expr .unit))) .unit))))) s_0)), .inr (.row 9 .str d)]) ?_ ?_
 ·simp only [go_sem]
  refine aBC 2 9 .str rfl ?_
  simp only [go_sem]
  refine bQ hF (D := Int × (List (List Nat))) [3, 10, 11] (fun d => [(1, .ptr 0 []), (2, .own 1), (12, .val (.i .i64) d.1)]) (fun d => [.inr (.box 5 (.val (.pair .str (.pair (.sl (.pair .str (.pair (.pair .str (.pair .str .unit)) (.pair .expr .unit)))) (.pair (.sl (.pair .str (.pair (.pair .str (.pair .str .unit)) .unit))) (.pair (.sl .str) (.pair (.sl (.pair .str (.pair .expr .unit))) .unit))))) s_0)), .inr (.row 9 .str d.2)]) h rfl (by simp only [go_sem]) ?_
  rintro ⟨x12_17, x_18⟩ A2 T2 hA2 hE2 h
  simp only [go_sem]
  replace h : sat (uY F s_0 x12_17 x_18) _ := h
  unfold uY at h
  refine eG h (fun hc h => ?_) fun hc h => ?_
  ·obtain ⟨g0, h⟩ := aK h
   repeat (refine ⟨by omega, ?_⟩)
   obtain ⟨g0, h⟩ := aK h
   repeat (refine ⟨by omega, ?_⟩)
   refine aP h fun g0 h => ?_
   replace h := hA2 _ (aB h)
   refine gL [0, 3] rfl rfl ?_
   simp only [go_sem]
   exact aQ _ h rfl (by simp only [go_sem])
  ·replace h := hE2 _ (aB h)
   try dsimp only at h
   exact aQ (x_18) h rfl (by simp only [go_sem])
 ·rintro x_6 h
  simp only [go_sem]
  replace h : sat (pJ F s_0 x_6) _ := h
  unfold pJ at h
  refine eB hF (D := (List (List Nat))) (fun d => sat (pI F x_6 s_0 d) Θ) [] (fun d => [(1, .ptr 0 []), (2, .own 1), (3, .own 2)]) (fun d => [.inr (.box 5 (.val (.pair .str (.pair (.sl (.pair .str (.pair (.pair .str (.pair .str .unit)) (.pair .expr .unit)))) (.pair (.sl (.pair .str (.pair (.pair .str (.pair .str .unit)) .unit))) (.pair (.sl .str) (.pair (.sl (.pair .str (.pair .expr .unit))) .unit))))) s_0)), .inr (.row 9 .str x_6), .inr (.row 9 .str d)]) ?_ ?_
  ·simp only [go_sem]
   refine aBC 3 9 .str rfl ?_
   simp only [go_sem]
   refine bQ hF (D := Int × (List (List Nat))) [23, 24] (fun d => [(1, .ptr 0 []), (2, .own 1), (3, .own 2), (25, .val (.i .i64) d.1)]) (fun d => [.inr (.box 5 (.val (.pair .str (.pair (.sl (.pair .str (.pair (.pair .str (.pair .str .unit)) (.pair .expr .unit)))) (.pair (.sl (.pair .str (.pair (.pair .str (.pair .str .unit)) .unit))) (.pair (.sl .str) (.pair (.sl (.pair .str (.pair .expr .unit))) .unit))))) s_0)), .inr (.row 9 .str x_6), .inr (.row 9 .str d.2)]) h rfl (by simp only [go_sem]) ?_
   rintro ⟨x25_12, p_13⟩ A7 T7 hA7 hE7 h
   simp only [go_sem]
   replace h : sat (uX F s_0 x25_12 p_13) _ := h
   unfold uX at h
   refine eG h (fun hc h => ?_) fun hc h => ?_
   ·obtain ⟨g0, h⟩ := aK h
    repeat (refine ⟨by omega, ?_⟩)
    obtain ⟨g0, h⟩ := aK h
    repeat (refine ⟨by omega, ?_⟩)
    refine aP h fun g0 h => ?_
    replace h := hA7 _ (aB h)
    refine gL [0, 1, 4] rfl rfl ?_
    simp only [go_sem]
    exact aQ _ h rfl (by simp only [go_sem])
   ·replace h := hE7 _ (aB h)
    try dsimp only at h
    exact aQ (p_13) h rfl (by simp only [go_sem])
  ·rintro p_11 h
   simp only [go_sem]
   replace h : sat (pI F x_6 s_0 p_11) _ := h
   unfold pI at h
   exact aG hF [.tmp 2, .tmp 3, .tmp 4] rfl rfl rfl (aB h) (by simp only [aS, go_sem])
attribute [go_sem] tL
noncomputable def oV (F : Md) (slices_0 : (List (List (List Nat)))) (x27_13 : Int) (newslice_14 : (List (List Nat))) : Option ((Int × (List (List Nat))) ⊕ (List (List Nat))) :=
 if x27_13 < (((slices_0.length) : Nat) : Int) then ck (0 ≤ x27_13 ∧ x27_13 < (((slices_0.length) : Nat) : Int)) (ck (((newslice_14.length) + (slices_0.getD (x27_13.toNat) ([] : List (List Nat))).length) * 16 ≤ 140737488355328) (ck (I64 (x27_13 + (1 : Int))) (some (.inl ((x27_13 + (1 : Int)), (newslice_14 ++ (slices_0.getD (x27_13.toNat) ([] : List (List Nat))))))))) else some (.inr newslice_14)
noncomputable def lO (F : Md) (slices_0 : (List (List (List Nat)))) (size_6 : Int) : Option (List (List Nat)) :=
 (lY F size_6).bind (fun r_8 => (dF F (fun d : Int × (List (List Nat)) => oV F slices_0 d.1 d.2) ((0 : Int), r_8)).bind (fun e => some e))
noncomputable def pZ (F : Md) (slices_0 : (List (List (List Nat)))) (size_18 : Int) (x11_19 : Int) : Option ((Int × Int) ⊕ (Int)) :=
 if x11_19 < (((slices_0.length) : Nat) : Int) then ck (0 ≤ x11_19 ∧ x11_19 < (((slices_0.length) : Nat) : Int)) (ck (I64 (size_18 + (((slices_0.getD (x11_19.toNat) ([] : List (List Nat))).length : Nat) : Int))) (if (size_18 + (((slices_0.getD (x11_19.toNat) ([] : List (List Nat))).length : Nat) : Int)) < (0 : Int) then none else ck (I64 (x11_19 + (1 : Int))) (some (.inl ((size_18 + (((slices_0.getD (x11_19.toNat) ([] : List (List Nat))).length : Nat) : Int)), (x11_19 + (1 : Int))))))) else some (.inr size_18)
noncomputable def bH (F : Md) (slices_0 : (List (List (List Nat)))) : Option (List (List Nat)) :=
 (dF F (fun d : Int × Int => pZ F slices_0 d.1 d.2) ((0 : Int), (0 : Int))).bind (fun e => lO F slices_0 e)
def kM : Ty := .pair (.sl (.sl .str)) .unit
attribute [go_sem] kM
noncomputable def jN (F : Md) : aH := mSpec kM (.one (.sl .str)) (fun x => bH F x.1)
noncomputable def tM (F : Md) : List (FuncId × aH) := []
theorem tN (F : Md) : bD Tryz.prog GL (tM F) := .nil
set_option maxHeartbeats 4000000 in
theorem aA7 (F : Md) : FOK Tryz.prog GL 136 (jN F) := by
 refine lR (aY (tN F)) Tryz.func136 rfl (by kernel_rfl) (by decide) fun w0 S x r hw h => ?_
 have hF : jS (fr Tryz.prog (EM (tM F)) S w0 Tryz.f136.ntmps) := ⟨aY (tN F), mix⟩
 obtain ⟨(slices_0 : (List (List (List Nat)))), u⟩ := x
 simp only [kM, Ty.wf, mZ] at hw
 simp only [bK, kM]
 try dsimp only at h
 replace h : bH F slices_0 = some r := h
 unfold bH at h
 refine aC (aE hF [0] ?_)
 simp only [go_sem]
 refine aD (aC (aE hF [0, 3] ?_))
 simp only [go_sem]
 refine aD (nT (D := Int) (fun d => lO F slices_0 d = some r) [0] (fun d => [(3, .val (.i .i64) d)]) (fun d => []) ?_ ?_)
 ·refine aC (aE hF [0, 3, 9, 10, 11] ?_)
  simp only [go_sem]
  refine aD (dD (lQ (D := Int × Int) [0, 9, 10] (fun d => [(3, .val (.i .i64) d.1), (11, .val (.i .i64) d.2)]) (fun d => []) h ?_ ?_ ?_))
  ·first | rfl | (simp only [go_sem]; done)
  ·exact zAF
  rintro ⟨size_18, x11_19⟩ s3 h hs3
  simp only [go_sem]
  try dsimp only at h
  unfold pZ at h
  refine aC (aE hF [0, 3, 9, 10, 11, 12] ?_)
  simp only [go_sem]
  refine aD (aC (bS rfl (fun hc => ?_) (fun hc => ?_)))
  ·try simp only [go_sem] at hc
   have h := gJ zAB h
   refine cR (aD (aC (dD (aC (aE hF [0, 3, 5, 9, 10, 11] ?_)))))
   simp only [go_sem]
   obtain ⟨g0, h⟩ := aI h
   repeat (refine ⟨zAA, ?_⟩)
   refine aD (aC (aE hF [0, 3, 9, 10, 11] ?_))
   simp only [go_sem]
   obtain ⟨g0, h⟩ := aI h
   try simp only [I64, I32] at g0
   repeat (refine ⟨zAA, ?_⟩)
   refine aD (aC (aE hF [0, 3, 9, 10, 11, 20] ?_))
   simp only [go_sem]
   refine aD (bS rfl (fun hc => ?_) (fun hc => ?_))
   ·try simp only [go_sem] at hc
    have h := gJ zAB h
    cases h
   ·try simp only [go_sem] at hc
    have h := gK zAB h
    refine cR (cW (aD (aE hF [0, 3, 9, 10, 11] ?_)))
    simp only [go_sem]
    obtain ⟨g0, h⟩ := aI h
    try simp only [I64, I32] at g0
    repeat (refine ⟨zAA, ?_⟩)
    obtain rfl := Option.some.inj h
    dsimp only [mG] at hs3
    refine bB (aQ ((size_18 + (((slices_0.getD (x11_19.toNat) ([] : List (List Nat))).length : Nat) : Int)), (x11_19 + (1 : Int))) hs3 rfl ?_)
    ·exact zAF
  ·try simp only [go_sem] at hc
   have h := gK zAB h
   obtain rfl := Option.some.inj h
   dsimp only [mG] at hs3
   have h := hs3
   try dsimp only at h
   refine mM (cA (cA (dZ (bB (aQ (size_18) h rfl ?_)))))
   ·exact zAF
 ·rintro size_6 h
  try dsimp only at h
  simp only [go_sem]
  unfold lO at h
  obtain ⟨r_8, he1, h⟩ := bind_some h
  try dsimp only at h
  refine aC (bT hF (eD (l := [(202, ⟨fY F, [], (size_6, r_8)⟩)]) (.cons (aCx F) (by kernel_rfl) (.nil))) [0, 6] [] ?_)
  simp only [go_sem]
  repeat (refine ⟨zAA, ?_⟩)
  refine aD (aC (aC (aE hF [6, 25, 26, 27] ?_)))
  simp only [go_sem]
  refine aD (dD (lQ (D := Int × (List (List Nat))) [25, 26] (fun d => [(6, .own 0), (27, .val (.i .i64) d.1)]) (fun d => [.inr (.row 9 .str d.2)]) h ?_ ?_ ?_))
  ·first | rfl | (simp only [go_sem]; done)
  ·exact zAF
  rintro ⟨x27_13, newslice_14⟩ s11 h hs11
  simp only [go_sem]
  try dsimp only at h
  unfold oV at h
  refine aC (aE hF [6, 25, 26, 27, 28] ?_)
  simp only [go_sem]
  refine aD (aC (bS rfl (fun hc => ?_) (fun hc => ?_)))
  ·try simp only [go_sem] at hc
   have h := gJ zAB h
   refine cR (aD (aC (dD (aC (aE hF [6, 8, 25, 26, 27] ?_)))))
   simp only [go_sem]
   obtain ⟨g0, h⟩ := aI h
   repeat (refine ⟨zAA, ?_⟩)
   refine aD (aX hF [6, 25, 26, 27] ?_)
   simp only [go_sem]
   obtain ⟨g0, h⟩ := aI h
   repeat (refine ⟨zAA, ?_⟩)
   refine cW (aD (aE hF [6, 25, 26, 27] ?_))
   simp only [go_sem]
   obtain ⟨g0, h⟩ := aI h
   try simp only [I64, I32] at g0
   repeat (refine ⟨zAA, ?_⟩)
   obtain rfl := Option.some.inj h
   dsimp only [mG] at hs11
   refine bB (gL [1] rfl rfl ?_)
   simp only [ren, fU, iV, posOf, dL, go_sem]
   refine aQ ((x27_13 + (1 : Int)), (newslice_14 ++ (slices_0.getD (x27_13.toNat) ([] : List (List Nat))))) hs11 rfl ?_
   ·exact zAF
  ·try simp only [go_sem] at hc
   have h := gK zAB h
   obtain rfl := Option.some.inj h
   dsimp only [mG] at hs11
   have h := hs11
   try dsimp only at h
   refine mM (cA (cA (dZ (aD (aC (aE hF [2] ?_))))))
   simp only [go_sem]
   obtain rfl := Option.some.inj h
   refine aD (dE (fD hF [.tmp 2] rfl rfl rfl ?_))
   exact zAG
attribute [go_sem] jN
noncomputable def uZ (F : Md) (l_0 : (List (List Nat))) (x9_12 : Int) (seen_13 : (List ((List Nat) × Bool))) : Option ((Int × (List ((List Nat) × Bool))) ⊕ ((Unit) ⊕ Bool)) :=
 if x9_12 < (((l_0.length) : Nat) : Int) then ck (0 ≤ x9_12 ∧ x9_12 < (((l_0.length) : Nat) : Int)) ((aU F (l_0.getD (x9_12.toNat) ([] : List Nat))).bind (fun v_25 => if (¬ (v_25 = true)) ∨ (((aCN .str seen_13 (l_0.getD (x9_12.toNat) ([] : List Nat))).getD false) = true) then some (.inr (.inr false)) else ck (I64 (x9_12 + (1 : Int))) (some (.inl ((x9_12 + (1 : Int)), (aNp .str seen_13 (l_0.getD (x9_12.toNat) ([] : List Nat)) true)))))) else some (.inr (.inl ()))
noncomputable def nY (F : Md) (l_0 : (List (List Nat))) : Option Bool :=
 (dF F (fun d : Int × (List ((List Nat) × Bool)) => uZ F l_0 d.1 d.2) ((0 : Int), ([] : List ((List Nat) × Bool)))).bind (fun e => match e with | (.inl e) => some true | (.inr e) => some e)
def aDc : PlR := ⟨[(0, .A [0]), (1, .B [0, 3]), (2, .A [3, 7, 8, 9]), (3, .A [3, 7, 8, 9, 10]), (4, .A [3, 5, 7, 8, 9]), (5, .A [3, 5, 7, 8, 9, 20]), (6, .A [2]), (7, .B [3, 7, 8, 9]), (8, .A [3, 7, 8, 9]), (9, .A [2])], []⟩
def aEa : Ty := .pair (.sl .str) .unit
noncomputable def mT (F : Md) : aH := mSpec aEa (.one .bool) (fun x => nY F x.1)
noncomputable def aEb (F : Md) : List (FuncId × aH) := [(29, (nV F))]
theorem aKQ (F : Md) : bD Tryz.prog GL (aEb F) := .cons (aD3 F) (by kernel_rfl) (.nil)
theorem aGX (F : Md) : gam (aEb F) 29 = some (nV F) := rfl
attribute [go_sem] aEa aDc aGX
set_option maxHeartbeats 4000000 in
theorem aDd (F : Md) : FOK Tryz.prog GL 68 (mT F) := by
 refine bG (aY (aKQ F)) mix Tryz.func68 rfl (by kernel_rfl) (by decide) aDc fun w0 S x Θ hw h hF => ?_
 obtain ⟨(l_0 : (List (List Nat))), u⟩ := x
 simp only [bK, go_sem]
 replace h : sat (nY F l_0) _ := h
 unfold nY at h
 refine bQ hF (D := Int × (List ((List Nat) × Bool))) [7, 8] (fun d => [(3, .mp 0), (9, .val (.i .i64) d.1)]) (fun d => [.inr (.map .str .bool d.2)]) h rfl (by simp only [go_sem]) ?_
 rintro ⟨x9_12, seen_13⟩ A3 T3 hA3 hE3 h
 simp only [go_sem]
 replace h : sat (uZ F l_0 x9_12 seen_13) _ := h
 unfold uZ at h
 refine eG h (fun hc h => ?_) fun hc h => ?_
 ·refine aP h fun g0 h => ?_
  obtain ⟨v_25, hv, h⟩ := aJ h
  try simp only [hv, go_sem]
  refine ⟨fun hc => ?_, fun hc => ?_⟩
  ·replace h := iW zAB h
   replace h := hE3 _ (aB h)
   try dsimp only at h
   exact aG hF [.tmp 2] rfl rfl rfl (aB h) (by simp only [aS, go_sem])
  ·replace h := iX zAB h
   refine aP h fun g0 h => ?_
   replace h := hA3 _ (aB h)
   exact aQ _ h rfl (by simp only [go_sem])
 ·replace h := hE3 _ (aB h)
  try dsimp only at h
  exact aG hF [.tmp 2] rfl rfl rfl (aB h) (by simp only [aS, go_sem])
attribute [go_sem] mT
noncomputable def iR (F : Md) (s_0 : (List Nat)) (prefix_1 : (List Nat)) : Option Bool :=
 ck (((((prefix_1.length) : Nat) : Int) ≤ (((s_0.length) : Nat) : Int)) → (0 ≤ (((prefix_1.length) : Nat) : Int) ∧ (((prefix_1.length) : Nat) : Int) ≤ (((s_0.length) : Nat) : Int))) (some ((decide ((((prefix_1.length) : Nat) : Int) ≤ (((s_0.length) : Nat) : Int))) && (decide ((List.take (prefix_1.length) s_0) = prefix_1))))
def qA : PlR := ⟨[(0, .A [0, 1]), (1, .A [4])], []⟩
def qT : Ty := .pair .str (.pair .str .unit)
noncomputable def iE (F : Md) : aH := mSpec qT (.one .bool) (fun x => iR F x.1 x.2.1)
noncomputable def aAG (F : Md) : List (FuncId × aH) := []
theorem aAH (F : Md) : bD Tryz.prog GL (aAG F) := .nil
attribute [go_sem] qT qA
set_option maxHeartbeats 4000000 in
theorem zT (F : Md) : FOK Tryz.prog GL 224 (iE F) := by
 refine bG (aY (aAH F)) mix Tryz.func224 rfl (by kernel_rfl) (by decide) qA fun w0 S x Θ hw h hF => ?_
 obtain ⟨(s_0 : (List Nat)), (prefix_1 : (List Nat)), u⟩ := x
 simp only [bK, go_sem]
 replace h : sat (iR F s_0 prefix_1) _ := h
 unfold iR at h
 refine aP h fun g0 h => ?_
 exact aG hF [.tmp 4] rfl rfl rfl (aB h) (by simp only [aS, go_sem])
attribute [go_sem] iE
noncomputable def iS (F : Md) (s_0 : (List Nat)) (prefix_1 : (List Nat)) : Option ((List Nat) × (Bool × Unit)) :=
 (iR F s_0 prefix_1).bind (fun v_8 => if ¬ (v_8 = true) then some (s_0, false, ()) else ck (0 ≤ (((prefix_1.length) : Nat) : Int) ∧ (((prefix_1.length) : Nat) : Int) ≤ (((s_0.length) : Nat) : Int)) (some ((List.drop (prefix_1.length) s_0), true, ())))
def qB : PlR := ⟨[(0, .A [0, 1]), (1, .A [0, 1, 9]), (2, .A [4, 5]), (3, .A [4, 5])], []⟩
def qU : Ty := .pair .str (.pair .str .unit)
noncomputable def iF (F : Md) : aH := mSpec qU (.tup (.pair .str (.pair .bool .unit))) (fun x => iS F x.1 x.2.1)
noncomputable def qV (F : Md) : List (FuncId × aH) := [(224, (iE F))]
theorem aAI (F : Md) : bD Tryz.prog GL (qV F) := .cons (zT F) (by kernel_rfl) (.nil)
theorem wP (F : Md) : gam (qV F) 224 = some (iE F) := rfl
attribute [go_sem] qU qB wP
set_option maxHeartbeats 4000000 in
theorem zU (F : Md) : FOK Tryz.prog GL 257 (iF F) := by
 refine bG (aY (aAI F)) mix Tryz.func257 rfl (by kernel_rfl) (by decide) qB fun w0 S x Θ hw h hF => ?_
 obtain ⟨(s_0 : (List Nat)), (prefix_1 : (List Nat)), u⟩ := x
 simp only [bK, go_sem]
 replace h : sat (iS F s_0 prefix_1) _ := h
 unfold iS at h
 obtain ⟨v_8, hv, h⟩ := aJ h
 try simp only [hv, go_sem]
 refine aAw h (fun hc h => ?_) fun hc h => ?_
 ·exact aG hF [.tmp 4, .tmp 5] rfl rfl rfl (aB h) (by simp only [aS, go_sem])
 ·refine aP h fun g0 h => ?_
  exact aG hF [.tmp 4, .tmp 5] rfl rfl rfl (aB h) (by simp only [aS, go_sem])
attribute [go_sem] iF
noncomputable def mI (F : Md) (s_0 : (List Nat)) (prefix_1 : (List Nat)) : Option ((List Nat) × (Bool × Unit)) :=
 (iS F s_0 prefix_1).bind (fun v_6 => some (v_6.1, v_6.2.1, ()))
def wE : PlR := ⟨[(0, .A [0, 1]), (1, .A [4, 5])], []⟩
def wV : Ty := .pair .str (.pair .str .unit)
noncomputable def lZ (F : Md) : aH := mSpec wV (.tup (.pair .str (.pair .bool .unit))) (fun x => mI F x.1 x.2.1)
noncomputable def wW (F : Md) : List (FuncId × aH) := [(257, (iF F))]
theorem aDI (F : Md) : bD Tryz.prog GL (wW F) := .cons (zU F) (by kernel_rfl) (.nil)
theorem aA8 (F : Md) : gam (wW F) 257 = some (iF F) := rfl
attribute [go_sem] wV wE aA8
set_option maxHeartbeats 4000000 in
theorem aDe (F : Md) : FOK Tryz.prog GL 240 (lZ F) := by
 refine bG (aY (aDI F)) mix Tryz.func240 rfl (by kernel_rfl) (by decide) wE fun w0 S x Θ hw h hF => ?_
 obtain ⟨(s_0 : (List Nat)), (prefix_1 : (List Nat)), u⟩ := x
 simp only [bK, go_sem]
 replace h : sat (mI F s_0 prefix_1) _ := h
 unfold mI at h
 obtain ⟨v_6, hv, h⟩ := aJ h
 try simp only [hv, go_sem]
 exact aG hF [.tmp 4, .tmp 5] rfl rfl rfl (aB h) (by simp only [aS, go_sem])
attribute [go_sem] lZ
noncomputable def qW (F : Md) (s_0 : (List Nat)) : Option (Bool × ((List Nat) × ((List Nat) × (Bool × Unit)))) :=
 (mI F s_0 (aA ⟨#[45]⟩)).bind (fun v_5 => (aAk F v_5.1).bind (fun v_9 => some ((v_5.2.1 && (decide ((0 : Int) < (((v_9.1.length) : Nat) : Int)))), v_9.1, v_9.2.1, v_9.2.2.1, ())))
def aDf : PlR := ⟨[(0, .A [0]), (1, .A [6, 7]), (2, .A [7, 8, 9, 10]), (3, .A [2, 3, 4, 5])], []⟩
def aEc : Ty := .pair .str .unit
noncomputable def tO (F : Md) : aH := mSpec aEc (.tup (.pair .bool (.pair (.sl (.u .u64)) (.pair (.sl (.u .u64)) (.pair .bool .unit))))) (fun x => qW F x.1)
noncomputable def aAJ (F : Md) : List (FuncId × aH) := [(116, (xT F)), (240, (lZ F))]
theorem aKR (F : Md) : bD Tryz.prog GL (aAJ F) := .cons (aL9 F) (by kernel_rfl) (.cons (aDe F) (by kernel_rfl) (.nil))
theorem aFX (F : Md) : gam (aAJ F) 116 = some (xT F) := rfl
theorem aFY (F : Md) : gam (aAJ F) 240 = some (lZ F) := rfl
attribute [go_sem] aEc aDf aFX aFY
set_option maxHeartbeats 4000000 in
theorem aKh (F : Md) : FOK Tryz.prog GL 203 (tO F) := by
 refine bG (aY (aKR F)) mix Tryz.func203 rfl (by kernel_rfl) (by decide) aDf fun w0 S x Θ hw h hF => ?_
 obtain ⟨(s_0 : (List Nat)), u⟩ := x
 simp only [bK, go_sem]
 replace h : sat (qW F s_0) _ := h
 unfold qW at h
 obtain ⟨v_5, hv, h⟩ := aJ h
 try simp only [hv, go_sem]
 obtain ⟨v_9, hv, h⟩ := aJ h
 try simp only [hv, go_sem]
 exact aG hF [.tmp 2, .tmp 3, .tmp 4, .tmp 5] rfl rfl rfl (aB h) (by simp only [aS, go_sem])
attribute [go_sem] tO
noncomputable def mA (F : Md) (r_0 : ((List Nat) × ((List Nat) × Unit))) (hi_2 : (List Nat)) : Option (Bool) :=
 (qW F r_0.1).bind (fun v_6 => (qW F hi_2).bind (fun v_10 => (gP F v_6.2.1 v_10.2.2.1).bind (fun v_20 => (gP F v_10.2.1 v_6.2.2.1).bind (fun v_21 => (oQ F v_20 v_21).bind (fun v_22 => if (¬ (v_6.2.2.2.1 = true)) ∨ (¬ (v_10.2.2.2.1 = true)) then some false else if (v_6.1 != v_10.1) = true then some v_6.1 else if v_6.1 = true then some (decide ((0 : Int) ≤ v_22)) else some (decide (v_22 ≤ (0 : Int))))))))
noncomputable def iZ (F : Md) (r_0 : ((List Nat) × ((List Nat) × Unit))) : Option Bool :=
 if r_0.2.1 = (aA ⟨#[]⟩) then mA F r_0 r_0.1 else mA F r_0 r_0.2.1
def aCk : PlR := ⟨[(0, .B [1]), (1, .A [1, 3]), (2, .A [1, 3, 16]), (3, .A [1, 3]), (4, .A [3, 4, 5, 6, 7]), (5, .A [4, 5, 6, 7, 8, 9, 10, 11]), (6, .A [4, 7, 8, 11, 12]), (7, .A [2]), (8, .A [4, 8, 12, 43]), (9, .A [2]), (10, .A [4, 12, 50]), (11, .A [2]), (12, .A [12, 55]), (13, .A [2])], [(5, 7)]⟩
def aDg : Ty := .pair (.pair .str (.pair .str .unit)) .unit
noncomputable def rH (F : Md) : aH := mSpec aDg (.one .bool) (fun x => iZ F x.1)
noncomputable def tP (F : Md) : List (FuncId × aH) := [(122, (lW F)), (203, (tO F)), (94, (eQ F))]
theorem aKi (F : Md) : bD Tryz.prog GL (tP F) := .cons (aBN F) (by kernel_rfl) (.cons (aKh F) (by kernel_rfl) (.cons (pB F) (by kernel_rfl) (.nil)))
theorem aEI (F : Md) : gam (tP F) 122 = some (lW F) := rfl
theorem aEJ (F : Md) : gam (tP F) 203 = some (tO F) := rfl
theorem aFZ (F : Md) : gam (tP F) 94 = some (eQ F) := rfl
attribute [go_sem] aDg aCk aEI aEJ aFZ
set_option maxHeartbeats 4000000 in
theorem aIv (F : Md) : FOK Tryz.prog GL 138 (rH F) := by
 refine bG (aY (aKi F)) mix Tryz.func138 rfl (by kernel_rfl) (by decide) aCk fun w0 S x Θ hw h hF => ?_
 obtain ⟨(r_0 : ((List Nat) × ((List Nat) × Unit))), u⟩ := x
 simp only [bK, go_sem]
 replace h : sat (iZ F r_0) _ := h
 unfold iZ at h
 refine eB hF (D := (List Nat)) (fun d => sat (mA F r_0 d) Θ) [] (fun d => [(1, .ptr 0 []), (3, .val .str d)]) (fun d => [.inr (.box 2 (.val (.pair .str (.pair .str .unit)) r_0))]) ?_ ?_
 ·simp only [go_sem]
  refine dT h (fun hc h => ?_) fun hc h => ?_
  ·exact aQ r_0.1 h rfl (by simp only [go_sem])
  ·exact aQ r_0.2.1 h rfl (by simp only [go_sem])
 ·rintro hi_2 h
  simp only [go_sem]
  replace h : sat (mA F r_0 hi_2) _ := h
  unfold mA at h
  obtain ⟨v_6, hv, h⟩ := aJ h
  try simp only [hv, go_sem]
  obtain ⟨v_10, hv, h⟩ := aJ h
  try simp only [hv, go_sem]
  obtain ⟨v_20, hv, h⟩ := aJ h
  try simp only [hv, go_sem]
  obtain ⟨v_21, hv, h⟩ := aJ h
  try simp only [hv, go_sem]
  obtain ⟨v_22, hv, h⟩ := aJ h
  try simp only [hv, go_sem]
  refine ⟨fun hc => ?_, fun hc => ?_⟩
  ·replace h := iW zAB h
   exact aG hF [.tmp 2] rfl rfl rfl (aB h) (by simp only [aS, go_sem])
  ·replace h := iX zAB h
   refine aHo h (fun hc h => ?_) fun hc h => ?_
   ·exact aG hF [.tmp 2] rfl rfl rfl (aB h) (by simp only [aS, go_sem])
   ·refine aHo h (fun hc h => ?_) fun hc h => ?_
    ·exact aG hF [.tmp 2] rfl rfl rfl (aB h) (by simp only [aS, go_sem])
    ·exact aG hF [.tmp 2] rfl rfl rfl (aB h) (by simp only [aS, go_sem])
attribute [go_sem] rH
end Nu
end Go.Proofs
namespace Go.Proofs
open Go.Vc
set_option maxRecDepth 20000
namespace Nu
attribute [-go_sem] Ex.kind Ex.text Ex.l
@[go_sem] theorem aTc (k : Int) (t : List Nat) (l : List Ex) : Ex.l (.mk k t l) = l := rfl
@[go_sem] theorem aTd (k : Int) (t : List Nat) (l : List Ex) : Ex.kind (.mk k t l) = k := rfl
@[go_sem] theorem aTe (k : Int) (t : List Nat) (l : List Ex) : Ex.text (.mk k t l) = t := rfl
noncomputable def wX (F : Md) (g : Ex → Int → Int → Int → Option (Int × Int)) (e_0 : Ex) (at_1 : Int) (x23_10 : Int) (x_11 : Int) (x_12 : Int) : Option ((Int × Int × Int) ⊕ (Int × Int)) :=
 if x23_10 < (((e_0.l).length : Nat) : Int) then ck (0 ≤ x23_10 ∧ x23_10 < (((e_0.l).length : Nat) : Int)) (ck (I64 (at_1 + (1 : Int))) ((g ((e_0.l).getD (x23_10.toNat) (Ex.mk 0 [] [])) (at_1 + (1 : Int)) x_11 x_12).bind (fun r_20 => ck (I64 (x23_10 + (1 : Int))) (some (.inl ((x23_10 + (1 : Int)), r_20.1, r_20.2)))))) else some (.inr (x_11, x_12))
noncomputable def pK (F : Md) (g : Ex → Int → Int → Int → Option (Int × Int)) (e_0 : Ex) (at_1 : Int) (o0_5 : Int) (o1_6 : Int) : Option (Int × Int) :=
 ck (I64 (o0_5 + (1 : Int))) (if ((60 : Int) < (o0_5 + (1 : Int))) ∨ ((30 : Int) < at_1) then some ((o0_5 + (1 : Int)), (max o1_6 at_1)) else (dF F (fun d : Int × Int × Int => wX F g e_0 at_1 d.1 d.2.1 d.2.2) ((0 : Int), (o0_5 + (1 : Int)), (max o1_6 at_1))).bind (fun e => some (e.1, e.2)))
noncomputable def pL (g : Ex → Int → Int → Int → Option (Int × Int)) : oD where
 D := Ex × Int × Int × Int × (Int × Int)
 av := fun d => [.val .expr d.1, .val (.i .i64) d.2.1, .ptr 0 [], .ptr 1 [], .ptr 2 []]
 hp := fun d => [.box 1 (.val (.i .i64) d.2.2.1), .box 1 (.val (.i .i64) d.2.2.2.1), .box 1 (.fn 197 [] [0, 1, 2])]
 m := 3
 pre := fun d => g d.1 d.2.1 d.2.2.1 d.2.2.2.1 = some d.2.2.2.2
 out := fun d => (fun r : (Int × Int) => .ret (.tup []) [.box 1 (.val (.i .i64) r.1), .box 1 (.val (.i .i64) r.2), .box 1 (.fn 197 [] [0, 1, 2])]) d.2.2.2.2
attribute [go_sem] pL
noncomputable def aA9 (F : Md) (g : Ex → Int → Int → Int → Option (Int × Int)) : oD where
 D := Ex × Int × Int × Int × (Int × Int)
 av := fun d => [.val .expr d.1, .val (.i .i64) d.2.1, .ptr 0 [], .ptr 1 [], .ptr 2 []]
 hp := fun d => [.box 1 (.val (.i .i64) d.2.2.1), .box 1 (.val (.i .i64) d.2.2.2.1), .box 1 (.fn 197 [] [0, 1, 2])]
 m := 3
 pre := fun d => pK F g d.1 d.2.1 d.2.2.1 d.2.2.2.1 = some d.2.2.2.2
 out := fun d => (fun r : (Int × Int) => .ret (.tup []) [.box 1 (.val (.i .i64) r.1), .box 1 (.val (.i .i64) r.2), .box 1 (.fn 197 [] [0, 1, 2])]) d.2.2.2.2
noncomputable def aDh (F : Md) (g : Ex → Int → Int → Int → Option (Int × Int)) : List (FuncId × aH) := []
theorem aDi (F : Md) (g : Ex → Int → Int → Int → Option (Int × Int)) (hg : GOK Tryz.prog GL 197 (pL g)) : bD Tryz.prog GL (aDh F g) := .nil
set_option maxHeartbeats 4000000 in
theorem aGY (F : Md) (g : Ex → Int → Int → Int → Option (Int × Int)) (hg : GOK Tryz.prog GL 197 (pL g)) : GOK Tryz.prog GL 197 (aA9 F g) := by
 refine yR (aY (aDi F g hg)) Tryz.func197 rfl (by kernel_rfl) (fun _ => Nat.le_of_ble_eq_true rfl) fun c0 w0 d hw1 hw2 h hn => ?_
 have hF : jS ⟨Tryz.prog, EM (aDh F g), GM (aA9 F g) c0 d, w0, Tryz.f197.ntmps, []⟩ := ⟨aY (aDi F g hg), mix⟩
 obtain ⟨(e_0 : Ex), (at_1 : Int), (o0_5 : Int), (o1_6 : Int), r⟩ := d
 replace h : pK F g e_0 at_1 o0_5 o1_6 = some r := h
 have hw1 : AV.wfL [.val .expr e_0, .val (.i .i64) at_1, .ptr 0 [], .ptr 1 [], .ptr 2 []] := hw1
 simp only [AV.wfL, AV.wfV, Ty.wf, mZ] at hw1
 show Tri _ _ _ [(0, .val .expr e_0), (1, .val (.i .i64) at_1), (2, .ptr 0 []), (3, .ptr 1 []), (4, .ptr 2 [])] [.box 1 (.val (.i .i64) o0_5), .box 1 (.val (.i .i64) o1_6), .box 1 (.fn 197 [] [0, 1, 2])]
 unfold pK at h
 refine aC (aX hF [1, 2, 3, 4, 5] ?_)
 simp only [go_sem]
 refine aD (aC (aX hF [1, 2, 3, 4, 5] ?_))
 simp only [go_sem]
 obtain ⟨g0, h⟩ := aI h
 try simp only [I64, I32] at g0
 repeat (refine ⟨zAA, ?_⟩)
 refine aD (aC (aX hF [1, 2, 4, 5] ?_))
 simp only [go_sem]
 refine aD (aC (aC (aE hF [1, 4, 5, 19] ?_)))
 simp only [go_sem]
 refine aD (bS rfl (fun hc => ?_) (fun hc => ?_))
 ·try simp only [go_sem] at hc
  have h := gJ zAB h
  obtain rfl := Option.some.inj h
  refine dE (dJ (gL [0, 1, 2] rfl rfl ?_))
  simp only [ren, fU, iV, posOf, dL, go_sem]
  refine aFo hF [] rfl rfl rfl rfl rfl rfl ?_
  (try simp only [aS, aFn, aEw, gA, rR, AV.isAgg, go_sem]) <;> first | trivial | rfl | (simp; done)
 ·try simp only [go_sem] at hc
  have h := gK zAB h
  refine cR (aD (aC (aE hF [1, 4, 21, 22, 23] ?_)))
  simp only [go_sem]
  refine aD (dD (vC [0, 1, 2] rfl rfl ?_))
  simp only [ren, fU, iV, posOf, dL, go_sem]
  refine lQ (D := Int × Int × Int) [1, 21, 22] (fun d => [(4, .ptr 2 []), (23, .val (.i .i64) d.1)]) (fun d => [.inr (.box 1 (.val (.i .i64) d.2.1)), .inr (.box 1 (.val (.i .i64) d.2.2)), .inr (.box 1 (.fn 197 [] [0, 1, 2]))]) h ?_ ?_ ?_
  ·first | rfl | (simp only [go_sem]; done)
  ·exact zAF
  rintro ⟨x23_10, x_11, x_12⟩ s5 h hs5
  simp only [go_sem]
  try dsimp only at h
  unfold wX at h
  refine aC (aE hF [1, 4, 21, 22, 23, 24] ?_)
  simp only [go_sem]
  refine aD (aC (bS rfl (fun hc => ?_) (fun hc => ?_)))
  ·try simp only [go_sem] at hc
   have h := gJ zAB h
   refine cR (aD (aC (dD (aC (aX hF [1, 4, 8, 21, 22, 23] ?_)))))
   simp only [go_sem]
   obtain ⟨g0, h⟩ := aI h
   repeat (refine ⟨zAA, ?_⟩)
   obtain ⟨g0, h⟩ := aI h
   try simp only [I64, I32] at g0
   obtain ⟨r_20, he1, h⟩ := bind_some h
   try dsimp only at h
   refine aD (bT hF (eD (l := [(197, ⟨(pL g), [0, 1, 2], (((e_0.l).getD (x23_10.toNat) (Ex.mk 0 [] [])), (at_1 + (1 : Int)), x_11, x_12, r_20)⟩)]) (.cons hg (by kernel_rfl) (.nil))) [1, 4, 21, 22, 23] [] ?_)
   simp only [go_sem]
   repeat (refine ⟨by first | with_reducible assumption | omega | (intros; first | with_reducible assumption | omega) | (simp only [go_sem] at *; first | with_reducible assumption | omega) | (intro _; exact ⟨rfl, by decide⟩) | (intro _; refine (?_ : _ = aV _); rfl) | exact ⟨rfl, rfl⟩ | decide | ((repeat' apply And.intro) <;> first | assumption | rfl | omega) | fail, ?_⟩)
   refine cW (aD (aE hF [1, 4, 21, 22, 23] ?_))
   simp only [go_sem]
   obtain ⟨g0, h⟩ := aI h
   try simp only [I64, I32] at g0
   repeat (refine ⟨zAA, ?_⟩)
   obtain rfl := Option.some.inj h
   dsimp only [mG] at hs5
   refine bB (gL [0, 1, 2] rfl rfl ?_)
   simp only [ren, fU, iV, posOf, dL, go_sem]
   refine aQ ((x23_10 + (1 : Int)), r_20.1, r_20.2) hs5 rfl ?_
   ·exact zAF
  ·try simp only [go_sem] at hc
   have h := gK zAB h
   obtain rfl := Option.some.inj h
   dsimp only [mG] at hs5
   have h := hs5
   try dsimp only at h
   obtain rfl := Option.some.inj h
   refine mM (cA (cA (dZ (aIO (aFo hF [] rfl rfl rfl rfl rfl rfl ?_)))))
   (try simp only [aS, aFn, aEw, gA, rR, AV.isAgg, go_sem]) <;> first | trivial | rfl | (simp; done)
noncomputable def zH (F : Md) : Nat → Ex → Int → Int → Int → Option (Int × Int)
 | 0 => fun _ _ _ _ => none
 | n + 1 => pK F (zH F n)
noncomputable def wQ (F : Md) (n : Nat) : oD where
 D := Ex × Int × Int × Int × (Int × Int)
 av := fun d => [.val .expr d.1, .val (.i .i64) d.2.1, .ptr 0 [], .ptr 1 [], .ptr 2 []]
 hp := fun d => [.box 1 (.val (.i .i64) d.2.2.1), .box 1 (.val (.i .i64) d.2.2.2.1), .box 1 (.fn 197 [] [0, 1, 2])]
 m := 3
 pre := fun d => zH F n d.1 d.2.1 d.2.2.1 d.2.2.2.1 = some d.2.2.2.2
 out := fun d => (fun r : (Int × Int) => .ret (.tup []) [.box 1 (.val (.i .i64) r.1), .box 1 (.val (.i .i64) r.2), .box 1 (.fn 197 [] [0, 1, 2])]) d.2.2.2.2
theorem aCl (F : Md) : ∀ n, GOK Tryz.prog GL 197 (wQ F n)
 | 0 => fun _ _ _ _ hp _ => absurd (show none = some _ from hp) (by simp)
 | n + 1 => aGY F _ (aCl F n)
attribute [go_sem] wQ
noncomputable def xW (F : Md) (e_0 : Ex) : Option (Int × (Int × Unit)) :=
 (zH F 64 e_0 (1 : Int) (0 : Int) (0 : Int)).bind (fun r_3 => some (r_3.1, r_3.2, ()))
def xX : Ty := .pair .expr .unit
attribute [go_sem] xX
noncomputable def vN (F : Md) : aH := mSpec xX (.tup (.pair (.i .i64) (.pair (.i .i64) .unit))) (fun x => xW F x.1)
noncomputable def aF0 (F : Md) : List (FuncId × aH) := []
theorem aF1 (F : Md) : bD Tryz.prog GL (aF0 F) := .nil
set_option maxHeartbeats 4000000 in
theorem aKS (F : Md) : FOK Tryz.prog GL 126 (vN F) := by
 refine lR (aY (aF1 F)) Tryz.func126 rfl (by kernel_rfl) (by decide) fun w0 S x r hw h => ?_
 have hF : jS (fr Tryz.prog (EM (aF0 F)) S w0 Tryz.f126.ntmps) := ⟨aY (aF1 F), mix⟩
 obtain ⟨(e_0 : Ex), u⟩ := x
 simp only [xX, Ty.wf, mZ] at hw
 simp only [bK, xX]
 try dsimp only at h
 replace h : xW F e_0 = some r := h
 unfold xW at h
 refine aC (aX hF [1, 2, 3] ?_)
 simp only [go_sem]
 refine aD (aC (aX hF [1, 2, 3, 4] ?_))
 simp only [go_sem]
 refine aD (aC (aX hF [1, 2, 3, 4] ?_))
 simp only [go_sem]
 obtain ⟨r_3, he1, h⟩ := bind_some h
 try dsimp only at h
 refine aD (aC (bT hF (eD (l := [(197, ⟨(wQ F 64), [1, 2, 3], (e_0, (1 : Int), (0 : Int), (0 : Int), r_3)⟩)]) (.cons (aCl F 64) (by kernel_rfl) (.nil))) [2, 3] [] ?_))
 simp only [go_sem]
 repeat (refine ⟨by first | with_reducible assumption | omega | (intros; first | with_reducible assumption | omega) | (simp only [go_sem] at *; first | with_reducible assumption | omega) | (intro _; exact ⟨rfl, by decide⟩) | (intro _; refine (?_ : _ = aV _); rfl) | exact ⟨rfl, rfl⟩ | decide | ((repeat' apply And.intro) <;> first | assumption | rfl | omega) | fail, ?_⟩)
 refine aD (aC (aHn hF [2, 3] [(2, .ptr 1 []), (3, .ptr 2 [])] [.box 3 (.val .expr e_0), .box 1 (.val (.i .i64) r_3.1), .box 1 (.val (.i .i64) r_3.2), .box 1 (.fn 197 [] [1, 2, 3])] (by decide) ?_ ?_))
 ·simp only [go_sem]
  unfold anyS
  intro i hi
  have hi : i = 0 ∨ i = 1 := by revert hi; revert i; decide
  rcases hi with rfl | rfl
  ·simp only [go_sem]
   repeat (refine ⟨zAA, ?_⟩)
   unfold anyS
   intro i hi
   have hi : i = 1 ∨ i = 2 := by revert hi; revert i; decide
   rcases hi with rfl | rfl
   ·simp only [go_sem]
    repeat (refine ⟨zAA, ?_⟩)
    unfold anyS
    intro i hi
    have hi : i = 2 := by revert hi; revert i; decide
    subst hi
    simp only [go_sem]
    repeat (refine ⟨zAA, ?_⟩)
    unfold anyS
    intro i hi
    have hi : i = 3 := by revert hi; revert i; decide
    subst hi
    simp only [go_sem]
    repeat (refine ⟨zAA, ?_⟩)
    (simp only [anyS, go_sem]) <;> first | exact ⟨rfl, rfl⟩ | trivial
   ·simp only [go_sem]
    repeat (refine ⟨zAA, ?_⟩)
    unfold anyS
    intro i hi
    have hi : i = 1 := by revert hi; revert i; decide
    subst hi
    simp only [go_sem]
    repeat (refine ⟨zAA, ?_⟩)
    unfold anyS
    intro i hi
    have hi : i = 3 := by revert hi; revert i; decide
    subst hi
    simp only [go_sem]
    repeat (refine ⟨zAA, ?_⟩)
    (simp only [anyS, go_sem]) <;> first | exact ⟨rfl, rfl⟩ | trivial
  ·simp only [go_sem]
   repeat (refine ⟨zAA, ?_⟩)
   unfold anyS
   intro i hi
   have hi : i = 0 := by revert hi; revert i; decide
   subst hi
   simp only [go_sem]
   repeat (refine ⟨zAA, ?_⟩)
   unfold anyS
   intro i hi
   have hi : i = 2 := by revert hi; revert i; decide
   subst hi
   simp only [go_sem]
   repeat (refine ⟨zAA, ?_⟩)
   unfold anyS
   intro i hi
   have hi : i = 3 := by revert hi; revert i; decide
   subst hi
   simp only [go_sem]
   repeat (refine ⟨zAA, ?_⟩)
   (simp only [anyS, go_sem]) <;> first | exact ⟨rfl, rfl⟩ | trivial
 obtain rfl := Option.some.inj h
 refine aD (dE (fD hF [.cell 2 3, .cell 3 3] rfl rfl rfl ?_))
 exact zAG
attribute [go_sem] vN
noncomputable def aAm (F : Md) (e_0 : Ex) : Option Bool :=
 (xW F e_0).bind (fun v_5 => some ((decide (v_5.1 ≤ (60 : Int))) && (decide (v_5.2.1 ≤ (30 : Int)))))
def aF2 : PlR := ⟨[(0, .B [1]), (1, .A [3, 4]), (2, .A [2])], []⟩
def aHU : Ty := .pair .expr .unit
noncomputable def xY (F : Md) : aH := mSpec aHU (.one .bool) (fun x => aAm F x.1)
noncomputable def aHV (F : Md) : List (FuncId × aH) := [(126, (vN F))]
theorem aNc (F : Md) : bD Tryz.prog GL (aHV F) := .cons (aKS F) (by kernel_rfl) (.nil)
theorem aIw (F : Md) : gam (aHV F) 126 = some (vN F) := rfl
attribute [go_sem] aHU aF2 aIw
set_option maxHeartbeats 4000000 in
theorem aMc (F : Md) : FOK Tryz.prog GL 63 (xY F) := by
 refine bG (aY (aNc F)) mix Tryz.func63 rfl (by kernel_rfl) (by decide) aF2 fun w0 S x Θ hw h hF => ?_
 obtain ⟨(e_0 : Ex), u⟩ := x
 simp only [bK, go_sem]
 replace h : sat (aAm F e_0) _ := h
 unfold aAm at h
 obtain ⟨v_5, hv, h⟩ := aJ h
 try simp only [hv, go_sem]
 exact aG hF [.tmp 2] rfl rfl rfl (aB h) (by simp only [aS, go_sem])
attribute [go_sem] xY
noncomputable def lS (F : Md) (x12_7 : Bool) : Option (Int) :=
 if x12_7 = true then some (1 : Int) else some (-1 : Int)
noncomputable def lT (F : Md) (kind_0 : Int) (x7_6 : Bool) : Option (Int) :=
 if x7_6 = true then some (2 : Int) else if kind_0 = (10 : Int) then lS F (decide (kind_0 = (10 : Int))) else if kind_0 = (11 : Int) then lS F (decide (kind_0 = (11 : Int))) else if kind_0 = (12 : Int) then lS F (decide (kind_0 = (12 : Int))) else lS F (decide (kind_0 = (13 : Int)))
noncomputable def rI (F : Md) (kind_0 : Int) (x4_5 : Bool) : Option (Int) :=
 if x4_5 = true then some (0 : Int) else if kind_0 = (6 : Int) then lT F kind_0 (decide (kind_0 = (6 : Int))) else if kind_0 = (7 : Int) then lT F kind_0 (decide (kind_0 = (7 : Int))) else if kind_0 = (8 : Int) then lT F kind_0 (decide (kind_0 = (8 : Int))) else lT F kind_0 (decide (kind_0 = (9 : Int)))
noncomputable def tQ (F : Md) (kind_0 : Int) : Option Int :=
 if kind_0 = (1 : Int) then rI F kind_0 (decide (kind_0 = (1 : Int))) else rI F kind_0 (decide (kind_0 = (2 : Int)))
def xZ : Ty := .pair (.i .i64) .unit
attribute [go_sem] xZ
noncomputable def vO (F : Md) : aH := mSpec xZ (.one (.i .i64)) (fun x => tQ F x.1)
noncomputable def aF3 (F : Md) : List (FuncId × aH) := []
theorem aF4 (F : Md) : bD Tryz.prog GL (aF3 F) := .nil
set_option maxHeartbeats 4000000 in
theorem aKT (F : Md) : FOK Tryz.prog GL 127 (vO F) := by
 refine lR (aY (aF4 F)) Tryz.func127 rfl (by kernel_rfl) (by decide) fun w0 S x r hw h => ?_
 have hF : jS (fr Tryz.prog (EM (aF3 F)) S w0 Tryz.f127.ntmps) := ⟨aY (aF4 F), mix⟩
 obtain ⟨(kind_0 : Int), u⟩ := x
 simp only [xZ, Ty.wf, mZ] at hw
 simp only [bK, xZ]
 try dsimp only at h
 replace h : tQ F kind_0 = some r := h
 unfold tQ at h
 refine aC (aE hF [0] ?_)
 simp only [go_sem]
 refine aD (aC (aC (aE hF [3] ?_)))
 simp only [go_sem]
 refine aD (dD (nT (D := Bool) (fun d => rI F kind_0 d = some r) [3] (fun d => [(4, .val .bool d)]) (fun d => []) ?_ ?_))
 ·refine aC (aE hF [3, 4] ?_)
  simp only [go_sem]
  refine aD (bS rfl (fun hc => ?_) (fun hc => ?_))
  ·try simp only [go_sem] at hc
   have h := gJ zAB h
   refine cR (bB (aQ (decide (kind_0 = (1 : Int))) h rfl ?_))
   ·exact zAF
  ·try simp only [go_sem] at hc
   have h := gK zAB h
   refine aE hF [3, 4] ?_
   simp only [go_sem]
   refine bB (aQ (decide (kind_0 = (2 : Int))) h rfl ?_)
   ·exact zAF
 ·rintro x4_5 h
  try dsimp only at h
  simp only [go_sem]
  unfold rI at h
  refine bS rfl (fun hc => ?_) (fun hc => ?_)
  ·try simp only [go_sem] at hc
   have h := gJ zAB h
   refine aC (aE hF [2] ?_)
   simp only [go_sem]
   obtain rfl := Option.some.inj h
   refine aD (dE (kC (dJ (fD hF [.tmp 2] rfl rfl rfl ?_))))
   exact zAG
  ·try simp only [go_sem] at hc
   have h := gK zAB h
   refine nT (D := Bool) (fun d => lT F kind_0 d = some r) [3] (fun d => [(7, .val .bool d)]) (fun d => []) ?_ ?_
   ·refine aC (aE hF [3, 7] ?_)
    simp only [go_sem]
    refine aD (bS rfl (fun hc => ?_) (fun hc => ?_))
    ·try simp only [go_sem] at hc
     have h := gJ zAB h
     refine cR (bB (aQ (decide (kind_0 = (6 : Int))) h rfl ?_))
     ·exact zAF
    ·try simp only [go_sem] at hc
     have h := gK zAB h
     refine aC (aE hF [3, 7] ?_)
     simp only [go_sem]
     refine aD (bS rfl (fun hc => ?_) (fun hc => ?_))
     ·try simp only [go_sem] at hc
      have h := gJ zAB h
      refine cR (bB (aQ (decide (kind_0 = (7 : Int))) h rfl ?_))
      ·exact zAF
     ·try simp only [go_sem] at hc
      have h := gK zAB h
      refine aC (aE hF [3, 7] ?_)
      simp only [go_sem]
      refine aD (bS rfl (fun hc => ?_) (fun hc => ?_))
      ·try simp only [go_sem] at hc
       have h := gJ zAB h
       refine cR (bB (aQ (decide (kind_0 = (8 : Int))) h rfl ?_))
       ·exact zAF
      ·try simp only [go_sem] at hc
       have h := gK zAB h
       refine aE hF [3, 7] ?_
       simp only [go_sem]
       refine bB (aQ (decide (kind_0 = (9 : Int))) h rfl ?_)
       ·exact zAF
   ·rintro x7_6 h
    try dsimp only at h
    simp only [go_sem]
    unfold lT at h
    refine bS rfl (fun hc => ?_) (fun hc => ?_)
    ·try simp only [go_sem] at hc
     have h := gJ zAB h
     refine aC (aE hF [2] ?_)
     simp only [go_sem]
     obtain rfl := Option.some.inj h
     refine aD (dE (kC (dJ (fD hF [.tmp 2] rfl rfl rfl ?_))))
     exact zAG
    ·try simp only [go_sem] at hc
     have h := gK zAB h
     refine nT (D := Bool) (fun d => lS F d = some r) [] (fun d => [(12, .val .bool d)]) (fun d => []) ?_ ?_
     ·refine aC (aE hF [3, 12] ?_)
      simp only [go_sem]
      refine aD (bS rfl (fun hc => ?_) (fun hc => ?_))
      ·try simp only [go_sem] at hc
       have h := gJ zAB h
       refine cR (bB (aQ (decide (kind_0 = (10 : Int))) h rfl ?_))
       ·exact zAF
      ·try simp only [go_sem] at hc
       have h := gK zAB h
       refine aC (aE hF [3, 12] ?_)
       simp only [go_sem]
       refine aD (bS rfl (fun hc => ?_) (fun hc => ?_))
       ·try simp only [go_sem] at hc
        have h := gJ zAB h
        refine cR (bB (aQ (decide (kind_0 = (11 : Int))) h rfl ?_))
        ·exact zAF
       ·try simp only [go_sem] at hc
        have h := gK zAB h
        refine aC (aE hF [3, 12] ?_)
        simp only [go_sem]
        refine aD (bS rfl (fun hc => ?_) (fun hc => ?_))
        ·try simp only [go_sem] at hc
         have h := gJ zAB h
         refine cR (bB (aQ (decide (kind_0 = (12 : Int))) h rfl ?_))
         ·exact zAF
        ·try simp only [go_sem] at hc
         have h := gK zAB h
         refine aE hF [12] ?_
         simp only [go_sem]
         refine bB (aQ (decide (kind_0 = (13 : Int))) h rfl ?_)
         ·exact zAF
     ·rintro x12_7 h
      try dsimp only at h
      simp only [go_sem]
      unfold lS at h
      refine bS rfl (fun hc => ?_) (fun hc => ?_)
      ·try simp only [go_sem] at hc
       have h := gJ zAB h
       refine aC (aE hF [2] ?_)
       simp only [go_sem]
       obtain rfl := Option.some.inj h
       refine aD (dE (kC (dJ (fD hF [.tmp 2] rfl rfl rfl ?_))))
       exact zAG
      ·try simp only [go_sem] at hc
       have h := gK zAB h
       refine cR (cW (aD (aC (aE hF [2] ?_))))
       simp only [go_sem]
       obtain rfl := Option.some.inj h
       refine aD (dE (fD hF [.tmp 2] rfl rfl rfl ?_))
       exact zAG
attribute [go_sem] vO
def pM : Ty := .pair .expr (.pair (.sl .str) .unit)
attribute [go_sem] pM
noncomputable def gC (g : Ex → (List (List Nat)) → Option (Bool)) : aH := mSpec pM (.one .bool) (fun x => g x.1 x.2.1)
attribute [go_sem] gC
noncomputable def tR (F : Md) (g : Ex → (List (List Nat)) → Option (Bool)) (x_0 : Ex) (a1_1 : (List (List Nat))) : Option Bool :=
 (g x_0 a1_1).bind (fun v_6 => some (!v_6))
def aCm : PlR := ⟨[(0, .B [1, 2]), (1, .A [3])], []⟩
def aDj : Ty := .pair .expr (.pair (.rp (.sl .str)) .unit)
noncomputable def rJ (F : Md) (g : Ex → (List (List Nat)) → Option (Bool)) : aH := mSpec aDj (.one .bool) (fun x => tR F g x.1 x.2.1)
noncomputable def aDk (F : Md) (g : Ex → (List (List Nat)) → Option (Bool)) : List (FuncId × aH) := [(64, (gC g))]
theorem aKj (F : Md) (g : Ex → (List (List Nat)) → Option (Bool)) (hg : FOK Tryz.prog GL 64 (gC g)) : bD Tryz.prog GL (aDk F g) := .cons hg (by kernel_rfl) (.nil)
theorem aF5 (F : Md) (g : Ex → (List (List Nat)) → Option (Bool)) : gam (aDk F g) 64 = some (gC g) := rfl
attribute [go_sem] aDj aCm aF5
set_option maxHeartbeats 4000000 in
theorem aIx (F : Md) (g : Ex → (List (List Nat)) → Option (Bool)) (hg : FOK Tryz.prog GL 64 (gC g)) : FOK Tryz.prog GL 130 (rJ F g) := by
 refine bG (aY (aKj F g hg)) mix Tryz.func130 rfl (by kernel_rfl) (by decide) aCm fun w0 S x Θ hw h hF => ?_
 obtain ⟨(x_0 : Ex), (a1_1 : (List (List Nat))), u⟩ := x
 simp only [bK, go_sem]
 replace h : sat (tR F g x_0 a1_1) _ := h
 unfold tR at h
 obtain ⟨v_6, hv, h⟩ := aJ h
 try simp only [hv, go_sem]
 exact aG hF [.tmp 3] rfl rfl rfl (aB h) (by simp only [aS, go_sem])
attribute [go_sem] rJ
noncomputable def dA (F : Md) (g : Ex → (List (List Nat)) → Option (Bool)) (s_0 : (List Ex)) (f_1 : ((List (List Nat)) × Unit)) (x8_14 : Int) : Option ((Int) ⊕ ((Unit) ⊕ Int)) :=
 if x8_14 < (((s_0.length) : Nat) : Int) then ck (0 ≤ x8_14 ∧ x8_14 < (((s_0.length) : Nat) : Int)) ((tR F g (s_0.getD (x8_14.toNat) (Ex.mk 0 [] [])) f_1.1).bind (fun v_27 => if v_27 = true then some (.inr (.inr x8_14)) else ck (I64 (x8_14 + (1 : Int))) (some (.inl (x8_14 + (1 : Int)))))) else some (.inr (.inl ()))
noncomputable def cI (F : Md) (g : Ex → (List (List Nat)) → Option (Bool)) (s_0 : (List Ex)) (f_1 : ((List (List Nat)) × Unit)) : Option Int :=
 (dF F (fun d : Int => dA F g s_0 f_1 d) (0 : Int)).bind (fun e => match e with | (.inl e) => some (-1 : Int) | (.inr e) => some e)
def fG : PlR := ⟨[(0, .A [0, 1]), (1, .A [0, 1, 7, 8]), (2, .A [0, 1, 7, 8, 9]), (3, .A [0, 1, 5, 7, 8]), (4, .A [0, 1, 5, 7, 8, 16]), (5, .A [4]), (6, .A [0, 1, 7, 8]), (7, .A [4])], []⟩
def fN : Ty := .pair (.sl .expr) (.pair (.clo 130 (.pair (.rp (.sl .str)) .unit)) .unit)
noncomputable def cC (F : Md) (g : Ex → (List (List Nat)) → Option (Bool)) : aH := mSpec fN (.one (.i .i64)) (fun x => cI F g x.1 x.2.1)
noncomputable def fO (F : Md) (g : Ex → (List (List Nat)) → Option (Bool)) : List (FuncId × aH) := [(130, (rJ F g))]
theorem lI (F : Md) (g : Ex → (List (List Nat)) → Option (Bool)) (hg : FOK Tryz.prog GL 64 (gC g)) : bD Tryz.prog GL (fO F g) := .cons (aIx F g hg) (by kernel_rfl) (.nil)
theorem jT (F : Md) (g : Ex → (List (List Nat)) → Option (Bool)) : gam (fO F g) 130 = some (rJ F g) := rfl
attribute [go_sem] fN fG jT
set_option maxHeartbeats 4000000 in
theorem lB (F : Md) (g : Ex → (List (List Nat)) → Option (Bool)) (hg : FOK Tryz.prog GL 64 (gC g)) : FOK Tryz.prog GL 198 (cC F g) := by
 refine bG (aY (lI F g hg)) mix Tryz.func198 rfl (by kernel_rfl) (by decide) fG fun w0 S x Θ hw h hF => ?_
 obtain ⟨(s_0 : (List Ex)), (f_1 : ((List (List Nat)) × Unit)), u⟩ := x
 simp only [bK, go_sem]
 replace h : sat (cI F g s_0 f_1) _ := h
 unfold cI at h
 refine bQ hF (D := Int) [0, 1, 7] (fun d => [(8, .val (.i .i64) d)]) (fun d => []) h rfl (by simp only [go_sem]) ?_
 rintro x8_14 A2 T2 hA2 hE2 h
 simp only [go_sem]
 replace h : sat (dA F g s_0 f_1 x8_14) _ := h
 unfold dA at h
 refine eG h (fun hc h => ?_) fun hc h => ?_
 ·refine aP h fun g0 h => ?_
  obtain ⟨v_27, hv, h⟩ := aJ h
  try simp only [hv, go_sem]
  refine aHo h (fun hc h => ?_) fun hc h => ?_
  ·replace h := hE2 _ (aB h)
   try dsimp only at h
   exact aG hF [.tmp 4] rfl rfl rfl (aB h) (by simp only [aS, go_sem])
  ·refine aP h fun g0 h => ?_
   replace h := hA2 _ (aB h)
   exact aQ _ h rfl (by simp only [go_sem])
 ·replace h := hE2 _ (aB h)
  try dsimp only at h
  exact aG hF [.tmp 4] rfl rfl rfl (aB h) (by simp only [aS, go_sem])
attribute [go_sem] cC
noncomputable def bL (F : Md) (g : Ex → (List (List Nat)) → Option (Bool)) (s_0 : (List Ex)) (f_1 : ((List (List Nat)) × Unit)) : Option Bool :=
 (cI F g s_0 f_1).bind (fun v_6 => some (decide ((0 : Int) ≤ v_6)))
def eJ : PlR := ⟨[(0, .A [0, 1]), (1, .A [4])], []⟩
def eS : Ty := .pair (.sl .expr) (.pair (.clo 130 (.pair (.rp (.sl .str)) .unit)) .unit)
noncomputable def bX (F : Md) (g : Ex → (List (List Nat)) → Option (Bool)) : aH := mSpec eS (.one .bool) (fun x => bL F g x.1 x.2.1)
noncomputable def eT (F : Md) (g : Ex → (List (List Nat)) → Option (Bool)) : List (FuncId × aH) := [(198, (cC F g))]
theorem kN (F : Md) (g : Ex → (List (List Nat)) → Option (Bool)) (hg : FOK Tryz.prog GL 64 (gC g)) : bD Tryz.prog GL (eT F g) := .cons (lB F g hg) (by kernel_rfl) (.nil)
theorem jA (F : Md) (g : Ex → (List (List Nat)) → Option (Bool)) : gam (eT F g) 198 = some (cC F g) := rfl
attribute [go_sem] eS eJ jA
set_option maxHeartbeats 4000000 in
theorem jU (F : Md) (g : Ex → (List (List Nat)) → Option (Bool)) (hg : FOK Tryz.prog GL 64 (gC g)) : FOK Tryz.prog GL 129 (bX F g) := by
 refine bG (aY (kN F g hg)) mix Tryz.func129 rfl (by kernel_rfl) (by decide) eJ fun w0 S x Θ hw h hF => ?_
 obtain ⟨(s_0 : (List Ex)), (f_1 : ((List (List Nat)) × Unit)), u⟩ := x
 simp only [bK, go_sem]
 replace h : sat (bL F g s_0 f_1) _ := h
 unfold bL at h
 obtain ⟨v_6, hv, h⟩ := aJ h
 try simp only [hv, go_sem]
 exact aG hF [.tmp 4] rfl rfl rfl (aB h) (by simp only [aS, go_sem])
attribute [go_sem] bX
noncomputable def tS (F : Md) (g : Ex → (List (List Nat)) → Option (Bool)) (e_0 : Ex) (names_1 : (List (List Nat))) : Option Bool :=
 ck ((tQ F (e_0.kind)).isSome = true) (if ¬ (((tQ F (e_0.kind)).getD (0 : Int)) = (((e_0.l).length : Nat) : Int)) then some false else if (e_0.kind) = (1 : Int) then ck ((zG F (e_0.text)).isSome = true) (some ((zG F (e_0.text)).getD false)) else if (e_0.kind) = (2 : Int) then ck (¬ ((e_0.text) = (aA ⟨#[116]⟩)) → ((dS F names_1 (e_0.text)).isSome = true)) (some ((decide ((e_0.text) = (aA ⟨#[116]⟩))) || ((dS F names_1 (e_0.text)).getD false))) else ck (((e_0.text) = (aA ⟨#[]⟩)) → ((bL F g (e_0.l) (names_1, ())).isSome = true)) (some ((decide ((e_0.text) = (aA ⟨#[]⟩))) && (!((bL F g (e_0.l) (names_1, ())).getD false)))))
noncomputable def pN (F : Md) (g : Ex → (List (List Nat)) → Option (Bool)) : List (FuncId × aH) := [(129, (bX F g)), (127, (vO F)), (128, (aAj F)), (71, (eC F))]
theorem aF6 (F : Md) (g : Ex → (List (List Nat)) → Option (Bool)) (hg : FOK Tryz.prog GL 64 (gC g)) : bD Tryz.prog GL (pN F g) := .cons (jU F g hg) (by kernel_rfl) (.cons (aKT F) (by kernel_rfl) (.cons (aM8 F) (by kernel_rfl) (.cons (pY F) (by kernel_rfl) (.nil))))
theorem aGZ (F : Md) (g : Ex → (List (List Nat)) → Option (Bool)) : gam (pN F g) 129 = some (bX F g) := rfl
attribute [go_sem] aGZ
theorem aG0 (F : Md) (g : Ex → (List (List Nat)) → Option (Bool)) : gam (pN F g) 127 = some (vO F) := rfl
attribute [go_sem] aG0
theorem aG1 (F : Md) (g : Ex → (List (List Nat)) → Option (Bool)) : gam (pN F g) 128 = some (aAj F) := rfl
attribute [go_sem] aG1
theorem aIy (F : Md) (g : Ex → (List (List Nat)) → Option (Bool)) : gam (pN F g) 71 = some (eC F) := rfl
attribute [go_sem] aIy
set_option maxHeartbeats 4000000 in
theorem aKk (F : Md) (g : Ex → (List (List Nat)) → Option (Bool)) (hg : FOK Tryz.prog GL 64 (gC g)) : FOK Tryz.prog GL 64 (mSpec pM (.one .bool) (fun x => tS F g x.1 x.2.1)) := by
 refine lR (aY (aF6 F g hg)) Tryz.func64 rfl (by kernel_rfl) (by decide) fun w0 S x r hw h => ?_
 have hF : jS (fr Tryz.prog (EM (pN F g)) S w0 Tryz.f64.ntmps) := ⟨aY (aF6 F g hg), mix⟩
 obtain ⟨(e_0 : Ex), (names_1 : (List (List Nat))), u⟩ := x
 simp only [pM, Ty.wf, mZ] at hw
 simp only [bK, pM]
 try dsimp only at h
 replace h : tS F g e_0 names_1 = some r := h
 unfold tS at h
 refine aC (aX hF [2, 3] ?_)
 simp only [go_sem]
 refine aD (aC (aC (aE hF [2, 3, 11] ?_)))
 simp only [go_sem]
 obtain ⟨g0, h⟩ := aI h
 repeat (refine ⟨zAA, ?_⟩)
 refine aD (bS rfl (fun hc => ?_) (fun hc => ?_))
 ·try simp only [go_sem] at hc
  have h := gJ zAB h
  refine aC (aE hF [4] ?_)
  simp only [go_sem]
  obtain rfl := Option.some.inj h
  refine aD (dE (dJ (fD hF [.tmp 4] rfl rfl rfl ?_)))
  exact zAG
 ·try simp only [go_sem] at hc
  have h := gK zAB h
  refine cR (aD (aC (aC (aE hF [2, 3, 13] ?_))))
  simp only [go_sem]
  refine aD (dD (aC (aE hF [2, 3, 13, 14] ?_)))
  simp only [go_sem]
  refine aD (bS rfl (fun hc => ?_) (fun hc => ?_))
  ·try simp only [go_sem] at hc
   have h := gJ zAB h
   refine aC (aE hF [4] ?_)
   simp only [go_sem]
   obtain ⟨g0, h⟩ := aI h
   repeat (refine ⟨zAA, ?_⟩)
   obtain rfl := Option.some.inj h
   refine aD (dE (kC (dJ (fD hF [.tmp 4] rfl rfl rfl ?_))))
   exact zAG
  ·try simp only [go_sem] at hc
   have h := gK zAB h
   refine aC (aE hF [2, 3, 19] ?_)
   simp only [go_sem]
   refine aD (bS rfl (fun hc => ?_) (fun hc => ?_))
   ·try simp only [go_sem] at hc
    have h := gJ zAB h
    refine aC (aE hF [4] ?_)
    simp only [go_sem]
    obtain ⟨g0, h⟩ := aI h
    repeat (refine ⟨zAD, ?_⟩)
    obtain rfl := Option.some.inj h
    refine aD (dE (kC (dJ (fD hF [.tmp 4] rfl rfl rfl ?_))))
    exact zAG
   ·try simp only [go_sem] at hc
    have h := gK zAB h
    refine cR (cW (aD (aC (wB 1 rfl ?_))))
    simp only [go_sem]
    refine aE hF [4] ?_
    simp only [go_sem]
    obtain ⟨g0, h⟩ := aI h
    repeat (refine ⟨zAD, ?_⟩)
    obtain rfl := Option.some.inj h
    refine aD (dE (fD hF [.tmp 4] rfl rfl rfl ?_))
    exact zAG
noncomputable def yA (F : Md) : Nat → Ex → (List (List Nat)) → Option (Bool)
 | 0 => fun _ _ => none
 | n + 1 => tS F (yA F n)
noncomputable def vP (F : Md) (n : Nat) : aH := mSpec pM (.one .bool) (fun x => yA F n x.1 x.2.1)
theorem aEd (F : Md) : ∀ n, FOK Tryz.prog GL 64 (vP F n)
 | 0 => fun _ _ _ _ _ _ _ hp => Bool.noConfusion (show false = true from hp)
 | n + 1 => aKk F _ (aEd F n)
attribute [go_sem] vP
end Nu
end Go.Proofs
namespace Go.Proofs
open Go.Vc
set_option maxRecDepth 20000
namespace Nu
attribute [-go_sem] Ex.kind Ex.text Ex.l
@[reducible] def aRO (xs : List (List Nat)) : Prop := xs.length * 16 ≤ 140737488355328
def oC : Ty := .pair (.sl .str) .unit
noncomputable def gY : aH := ⟨oC, .own 9 .str, fun x => aRO x.1, fun x => id x.1⟩
attribute [go_sem] gY oC
noncomputable def uM (F : Md) : List (FuncId × aH) := []
theorem uN (F : Md) : bD Tryz.prog GL (uM F) := .nil
theorem aB2 : FOK Tryz.prog GL 137 gY := by
 refine aNv (aY (uN none)) Tryz.func137 rfl (by kernel_rfl) (by decide) fun w0 S x hw hp => ?_
 have hF : jS (fr Tryz.prog (EM (uM none)) S w0 Tryz.f137.ntmps) := ⟨aY (uN none), mix⟩
 obtain ⟨(s : (List (List Nat))), u⟩ := x
 have hp : s.length * 16 ≤ 140737488355328 := hp
 simp only [bK, oC, gY]
 refine aC (aE hF [0, 2] ?_)
 simp only [go_sem]
 refine aD (aC (aC (aLm hF rfl rfl rfl fun b hb => ?_)))
 refine aD (bS rfl (fun hc => ?_) (fun hc => ?_))
 ·have hs := hb hc
  refine aC (aE hF [2] ?_)
  simp only [go_sem]
  refine aD (dE (dJ (fD hF [.tmp 2] rfl rfl rfl ?_)))
  simp only [iA, aS, go_sem, hs]
  try trivial
 ·refine cR (aD (aC (aX hF [2] ?_)))
  simp only [go_sem]
  refine ⟨by omega, ?_⟩
  refine aD (dE (fD hF [.tmp 2] rfl rfl rfl ?_))
  simp only [iA, aS, go_sem]
  try trivial
noncomputable def iB (F : Md) (e_0 : Ex) (names_1 : (List (List Nat))) : Option Bool :=
 (aAm F e_0).bind (fun v_6 => ck ((v_6 = true) → ((yA F 64 e_0 names_1).isSome = true)) (some (v_6 && ((yA F 64 e_0 names_1).getD false))))
def aBa : PlR := ⟨[(0, .B [1, 2]), (1, .A [4])], []⟩
def aCn : Ty := .pair .expr (.pair (.sl .str) .unit)
noncomputable def gQ (F : Md) : aH := mSpec aCn (.one .bool) (fun x => iB F x.1 x.2.1)
noncomputable def wR (F : Md) : List (FuncId × aH) := [(63, (xY F)), (64, (vP F 64))]
theorem aIz (F : Md) : bD Tryz.prog GL (wR F) := .cons (aMc F) (by kernel_rfl) (.cons (aEd F 64) (by kernel_rfl) (.nil))
theorem aEK (F : Md) : gam (wR F) 63 = some (xY F) := rfl
theorem aEL (F : Md) : gam (wR F) 64 = some (vP F 64) := rfl
attribute [go_sem] aCn aBa aEK aEL
set_option maxHeartbeats 4000000 in
theorem vA (F : Md) : FOK Tryz.prog GL 25 (gQ F) := by
 refine bG (aY (aIz F)) mix Tryz.func25 rfl (by kernel_rfl) (by decide) aBa fun w0 S x Θ hw h hF => ?_
 obtain ⟨(e_0 : Ex), (names_1 : (List (List Nat))), u⟩ := x
 simp only [bK, go_sem]
 replace h : sat (iB F e_0 names_1) _ := h
 unfold iB at h
 obtain ⟨v_6, hv, h⟩ := aJ h
 try simp only [hv, go_sem]
 refine aP h fun g0 h => ?_
 exact aG hF [.tmp 4] rfl rfl rfl (aB h) (by simp only [aS, go_sem])
attribute [go_sem] gQ
noncomputable def pO (F : Md) (a_0 : ((List Nat) × (Ex × Unit))) (a1_1 : (List (List Nat))) : Option Bool :=
 (iB F a_0.2.1 a1_1).bind (fun v_6 => some (!v_6))
def aAn : PlR := ⟨[(0, .B [1, 2]), (1, .A [3])], []⟩
def aBb : Ty := .pair (.pair .str (.pair .expr .unit)) (.pair (.rp (.sl .str)) .unit)
noncomputable def oG (F : Md) : aH := mSpec aBb (.one .bool) (fun x => pO F x.1 x.2.1)
noncomputable def aBc (F : Md) : List (FuncId × aH) := [(25, (gQ F))]
theorem aG2 (F : Md) : bD Tryz.prog GL (aBc F) := .cons (vA F) (by kernel_rfl) (.nil)
theorem aDJ (F : Md) : gam (aBc F) 25 = some (gQ F) := rfl
attribute [go_sem] aBb aAn aDJ
set_option maxHeartbeats 4000000 in
theorem aF7 (F : Md) : FOK Tryz.prog GL 140 (oG F) := by
 refine bG (aY (aG2 F)) mix Tryz.func140 rfl (by kernel_rfl) (by decide) aAn fun w0 S x Θ hw h hF => ?_
 obtain ⟨(a_0 : ((List Nat) × (Ex × Unit))), (a1_1 : (List (List Nat))), u⟩ := x
 simp only [bK, go_sem]
 replace h : sat (pO F a_0 a1_1) _ := h
 unfold pO at h
 obtain ⟨v_6, hv, h⟩ := aJ h
 try simp only [hv, go_sem]
 exact aG hF [.tmp 3] rfl rfl rfl (aB h) (by simp only [aS, go_sem])
attribute [go_sem] oG
noncomputable def dB (F : Md) (s_0 : (List ((List Nat) × (Ex × Unit)))) (f_1 : ((List (List Nat)) × Unit)) (x8_14 : Int) : Option ((Int) ⊕ ((Unit) ⊕ Int)) :=
 if x8_14 < (((s_0.length) : Nat) : Int) then ck (0 ≤ x8_14 ∧ x8_14 < (((s_0.length) : Nat) : Int)) ((pO F (s_0.getD (x8_14.toNat) ([], (Ex.mk 0 [] []), ())) f_1.1).bind (fun v_27 => if v_27 = true then some (.inr (.inr x8_14)) else ck (I64 (x8_14 + (1 : Int))) (some (.inl (x8_14 + (1 : Int)))))) else some (.inr (.inl ()))
noncomputable def cJ (F : Md) (s_0 : (List ((List Nat) × (Ex × Unit)))) (f_1 : ((List (List Nat)) × Unit)) : Option Int :=
 (dF F (fun d : Int => dB F s_0 f_1 d) (0 : Int)).bind (fun e => match e with | (.inl e) => some (-1 : Int) | (.inr e) => some e)
def fH : PlR := ⟨[(0, .A [0, 1]), (1, .A [0, 1, 7, 8]), (2, .A [0, 1, 7, 8, 9]), (3, .A [0, 1, 5, 7, 8]), (4, .A [0, 1, 5, 7, 8, 16]), (5, .A [4]), (6, .A [0, 1, 7, 8]), (7, .A [4])], []⟩
def fP : Ty := .pair (.sl (.pair .str (.pair .expr .unit))) (.pair (.clo 140 (.pair (.rp (.sl .str)) .unit)) .unit)
noncomputable def cD (F : Md) : aH := mSpec fP (.one (.i .i64)) (fun x => cJ F x.1 x.2.1)
noncomputable def fQ (F : Md) : List (FuncId × aH) := [(140, (oG F))]
theorem lJ (F : Md) : bD Tryz.prog GL (fQ F) := .cons (aF7 F) (by kernel_rfl) (.nil)
theorem jV (F : Md) : gam (fQ F) 140 = some (oG F) := rfl
attribute [go_sem] fP fH jV
set_option maxHeartbeats 4000000 in
theorem lC (F : Md) : FOK Tryz.prog GL 204 (cD F) := by
 refine bG (aY (lJ F)) mix Tryz.func204 rfl (by kernel_rfl) (by decide) fH fun w0 S x Θ hw h hF => ?_
 obtain ⟨(s_0 : (List ((List Nat) × (Ex × Unit)))), (f_1 : ((List (List Nat)) × Unit)), u⟩ := x
 simp only [bK, go_sem]
 replace h : sat (cJ F s_0 f_1) _ := h
 unfold cJ at h
 refine bQ hF (D := Int) [0, 1, 7] (fun d => [(8, .val (.i .i64) d)]) (fun d => []) h rfl (by simp only [go_sem]) ?_
 rintro x8_14 A2 T2 hA2 hE2 h
 simp only [go_sem]
 replace h : sat (dB F s_0 f_1 x8_14) _ := h
 unfold dB at h
 refine eG h (fun hc h => ?_) fun hc h => ?_
 ·refine aP h fun g0 h => ?_
  obtain ⟨v_27, hv, h⟩ := aJ h
  try simp only [hv, go_sem]
  refine aHo h (fun hc h => ?_) fun hc h => ?_
  ·replace h := hE2 _ (aB h)
   try dsimp only at h
   exact aG hF [.tmp 4] rfl rfl rfl (aB h) (by simp only [aS, go_sem])
  ·refine aP h fun g0 h => ?_
   replace h := hA2 _ (aB h)
   exact aQ _ h rfl (by simp only [go_sem])
 ·replace h := hE2 _ (aB h)
  try dsimp only at h
  exact aG hF [.tmp 4] rfl rfl rfl (aB h) (by simp only [aS, go_sem])
attribute [go_sem] cD
noncomputable def bM (F : Md) (s_0 : (List ((List Nat) × (Ex × Unit)))) (f_1 : ((List (List Nat)) × Unit)) : Option Bool :=
 (cJ F s_0 f_1).bind (fun v_6 => some (decide ((0 : Int) ≤ v_6)))
def eK : PlR := ⟨[(0, .A [0, 1]), (1, .A [4])], []⟩
def eU : Ty := .pair (.sl (.pair .str (.pair .expr .unit))) (.pair (.clo 140 (.pair (.rp (.sl .str)) .unit)) .unit)
noncomputable def bY (F : Md) : aH := mSpec eU (.one .bool) (fun x => bM F x.1 x.2.1)
noncomputable def eV (F : Md) : List (FuncId × aH) := [(204, (cD F))]
theorem kO (F : Md) : bD Tryz.prog GL (eV F) := .cons (lC F) (by kernel_rfl) (.nil)
theorem jB (F : Md) : gam (eV F) 204 = some (cD F) := rfl
attribute [go_sem] eU eK jB
set_option maxHeartbeats 4000000 in
theorem jW (F : Md) : FOK Tryz.prog GL 139 (bY F) := by
 refine bG (aY (kO F)) mix Tryz.func139 rfl (by kernel_rfl) (by decide) eK fun w0 S x Θ hw h hF => ?_
 obtain ⟨(s_0 : (List ((List Nat) × (Ex × Unit)))), (f_1 : ((List (List Nat)) × Unit)), u⟩ := x
 simp only [bK, go_sem]
 replace h : sat (bM F s_0 f_1) _ := h
 unfold bM at h
 obtain ⟨v_6, hv, h⟩ := aJ h
 try simp only [hv, go_sem]
 exact aG hF [.tmp 4] rfl rfl rfl (aB h) (by simp only [aS, go_sem])
attribute [go_sem] bY
noncomputable def zI (F : Md) (s_0 : ((List Nat) × ((List ((List Nat) × (((List Nat) × ((List Nat) × Unit)) × (Ex × Unit)))) × ((List ((List Nat) × (((List Nat) × ((List Nat) × Unit)) × Unit))) × ((List (List Nat)) × ((List ((List Nat) × (Ex × Unit))) × Unit)))))) (x93_11 : Int) : Option ((Int) ⊕ ((Unit) ⊕ Bool)) :=
 if x93_11 < (((s_0.2.2.1.length) : Nat) : Int) then ck (0 ≤ x93_11 ∧ x93_11 < (((s_0.2.2.1.length) : Nat) : Int)) (ck ((iZ F (s_0.2.2.1.getD (x93_11.toNat) ([], ([], [], ()), ())).2.1).isSome = true) (if ¬ (((iZ F (s_0.2.2.1.getD (x93_11.toNat) ([], ([], [], ()), ())).2.1).getD false) = true) then some (.inr (.inr false)) else ck (I64 (x93_11 + (1 : Int))) (some (.inl (x93_11 + (1 : Int)))))) else some (.inr (.inl ()))
noncomputable def tT (F : Md) (s_0 : ((List Nat) × ((List ((List Nat) × (((List Nat) × ((List Nat) × Unit)) × (Ex × Unit)))) × ((List ((List Nat) × (((List Nat) × ((List Nat) × Unit)) × Unit))) × ((List (List Nat)) × ((List ((List Nat) × (Ex × Unit))) × Unit)))))) : Option (Bool) :=
 (dF F (fun d : Int => zI F s_0 d) (0 : Int)).bind (fun e => match e with | (.inl e) => ck ((bM F s_0.2.2.2.2.1 (((bH F ([((aR F s_0).getD (([] : List (List Nat)), ([] : List (List Nat)), ([] : List (List Nat)), ())).1, ((aR F s_0).getD (([] : List (List Nat)), ([] : List (List Nat)), ([] : List (List Nat)), ())).2.1, ((aR F s_0).getD (([] : List (List Nat)), ([] : List (List Nat)), ([] : List (List Nat)), ())).2.2.1] : List (List (List Nat)))).getD ([] : List (List Nat))), ())).isSome = true) (some (!((bM F s_0.2.2.2.2.1 (((bH F ([((aR F s_0).getD (([] : List (List Nat)), ([] : List (List Nat)), ([] : List (List Nat)), ())).1, ((aR F s_0).getD (([] : List (List Nat)), ([] : List (List Nat)), ([] : List (List Nat)), ())).2.1, ((aR F s_0).getD (([] : List (List Nat)), ([] : List (List Nat)), ([] : List (List Nat)), ())).2.2.1] : List (List (List Nat)))).getD ([] : List (List Nat))), ())).getD false))) | (.inr e) => some e)
noncomputable def zJ (F : Md) (s_0 : ((List Nat) × ((List ((List Nat) × (((List Nat) × ((List Nat) × Unit)) × (Ex × Unit)))) × ((List ((List Nat) × (((List Nat) × ((List Nat) × Unit)) × Unit))) × ((List (List Nat)) × ((List ((List Nat) × (Ex × Unit))) × Unit)))))) (x74_14 : Int) : Option ((Int) ⊕ ((Unit) ⊕ Bool)) :=
 if x74_14 < (((s_0.2.1.length) : Nat) : Int) then ck (0 ≤ x74_14 ∧ x74_14 < (((s_0.2.1.length) : Nat) : Int)) (ck ((iZ F (s_0.2.1.getD (x74_14.toNat) ([], ([], [], ()), (Ex.mk 0 [] []), ())).2.1).isSome = true) (ck (¬ (¬ (((iZ F (s_0.2.1.getD (x74_14.toNat) ([], ([], [], ()), (Ex.mk 0 [] []), ())).2.1).getD false) = true)) → ((iB F (s_0.2.1.getD (x74_14.toNat) ([], ([], [], ()), (Ex.mk 0 [] []), ())).2.2.1 ((bH F ([((aR F s_0).getD (([] : List (List Nat)), ([] : List (List Nat)), ([] : List (List Nat)), ())).1, ((aR F s_0).getD (([] : List (List Nat)), ([] : List (List Nat)), ([] : List (List Nat)), ())).2.1, ((aR F s_0).getD (([] : List (List Nat)), ([] : List (List Nat)), ([] : List (List Nat)), ())).2.2.1] : List (List (List Nat)))).getD ([] : List (List Nat)))).isSome = true)) (if (¬ (((iZ F (s_0.2.1.getD (x74_14.toNat) ([], ([], [], ()), (Ex.mk 0 [] []), ())).2.1).getD false) = true)) ∨ (¬ (((iB F (s_0.2.1.getD (x74_14.toNat) ([], ([], [], ()), (Ex.mk 0 [] []), ())).2.2.1 ((bH F ([((aR F s_0).getD (([] : List (List Nat)), ([] : List (List Nat)), ([] : List (List Nat)), ())).1, ((aR F s_0).getD (([] : List (List Nat)), ([] : List (List Nat)), ([] : List (List Nat)), ())).2.1, ((aR F s_0).getD (([] : List (List Nat)), ([] : List (List Nat)), ([] : List (List Nat)), ())).2.2.1] : List (List (List Nat)))).getD ([] : List (List Nat)))).getD false) = true)) then some (.inr (.inr false)) else ck (I64 (x74_14 + (1 : Int))) (some (.inl (x74_14 + (1 : Int))))))) else some (.inr (.inl ()))
noncomputable def tU (F : Md) (s_0 : ((List Nat) × ((List ((List Nat) × (((List Nat) × ((List Nat) × Unit)) × (Ex × Unit)))) × ((List ((List Nat) × (((List Nat) × ((List Nat) × Unit)) × Unit))) × ((List (List Nat)) × ((List ((List Nat) × (Ex × Unit))) × Unit)))))) (all_6 : (List (List Nat))) : Option (Bool) :=
 ck ((nY F all_6).isSome = true) (if ¬ (((nY F all_6).getD false) = true) then some false else (dF F (fun d : Int => zJ F s_0 d) (0 : Int)).bind (fun e => match e with | (.inl e) => tT F s_0 | (.inr e) => some e))
noncomputable def aAo (F : Md) (s_0 : ((List Nat) × ((List ((List Nat) × (((List Nat) × ((List Nat) × Unit)) × (Ex × Unit)))) × ((List ((List Nat) × (((List Nat) × ((List Nat) × Unit)) × Unit))) × ((List (List Nat)) × ((List ((List Nat) × (Ex × Unit))) × Unit)))))) (x58_17 : Int) (all_18 : (List (List Nat))) : Option ((Int × (List (List Nat))) ⊕ (List (List Nat))) :=
 if x58_17 < (((s_0.2.2.2.2.1.length) : Nat) : Int) then ck (0 ≤ x58_17 ∧ x58_17 < (((s_0.2.2.2.2.1.length) : Nat) : Int)) (ck (((all_18.length) + (1 : Nat)) * 16 ≤ 140737488355328) (ck (I64 (x58_17 + (1 : Int))) (some (.inl ((x58_17 + (1 : Int)), (all_18 ++ ([(s_0.2.2.2.2.1.getD (x58_17.toNat) ([], (Ex.mk 0 [] []), ())).1] : List (List Nat)))))))) else some (.inr all_18)
noncomputable def tV (F : Md) (s_0 : ((List Nat) × ((List ((List Nat) × (((List Nat) × ((List Nat) × Unit)) × (Ex × Unit)))) × ((List ((List Nat) × (((List Nat) × ((List Nat) × Unit)) × Unit))) × ((List (List Nat)) × ((List ((List Nat) × (Ex × Unit))) × Unit)))))) : Option Bool :=
 if (((((((s_0.2.1.length) : Nat) : Int) < (1 : Int)) ∨ ((6 : Int) < (((s_0.2.1.length) : Nat) : Int))) ∨ ((6 : Int) < (((s_0.2.2.1.length) : Nat) : Int))) ∨ ((4 : Int) < (((s_0.2.2.2.1.length) : Nat) : Int))) ∨ ((4 : Int) < (((s_0.2.2.2.2.1.length) : Nat) : Int)) then some false else ck ((aR F s_0).isSome = true) (ck ((bH F ([((aR F s_0).getD (([] : List (List Nat)), ([] : List (List Nat)), ([] : List (List Nat)), ())).1, ((aR F s_0).getD (([] : List (List Nat)), ([] : List (List Nat)), ([] : List (List Nat)), ())).2.1, ((aR F s_0).getD (([] : List (List Nat)), ([] : List (List Nat)), ([] : List (List Nat)), ())).2.2.1] : List (List (List Nat)))).isSome = true) (ck (aRO ((bH F ([((aR F s_0).getD (([] : List (List Nat)), ([] : List (List Nat)), ([] : List (List Nat)), ())).1, ((aR F s_0).getD (([] : List (List Nat)), ([] : List (List Nat)), ([] : List (List Nat)), ())).2.1, ((aR F s_0).getD (([] : List (List Nat)), ([] : List (List Nat)), ([] : List (List Nat)), ())).2.2.1] : List (List (List Nat)))).getD ([] : List (List Nat)))) ((dF F (fun d : Int × (List (List Nat)) => aAo F s_0 d.1 d.2) ((0 : Int), (id ((bH F ([((aR F s_0).getD (([] : List (List Nat)), ([] : List (List Nat)), ([] : List (List Nat)), ())).1, ((aR F s_0).getD (([] : List (List Nat)), ([] : List (List Nat)), ([] : List (List Nat)), ())).2.1, ((aR F s_0).getD (([] : List (List Nat)), ([] : List (List Nat)), ([] : List (List Nat)), ())).2.2.1] : List (List (List Nat)))).getD ([] : List (List Nat)))))).bind (fun e => tU F s_0 e))))
def tW : Ty := .pair (.pair .str (.pair (.sl (.pair .str (.pair (.pair .str (.pair .str .unit)) (.pair .expr .unit)))) (.pair (.sl (.pair .str (.pair (.pair .str (.pair .str .unit)) .unit))) (.pair (.sl .str) (.pair (.sl (.pair .str (.pair .expr .unit))) .unit))))) .unit
attribute [go_sem] tW
noncomputable def rK (F : Md) : aH := mSpec tW (.one .bool) (fun x => tV F x.1)
noncomputable def gZ (F : Md) : List (FuncId × aH) := [(139, (bY F)), (135, (tL F)), (136, (jN F)), (137, gY), (138, (rH F)), (25, (gQ F)), (68, (mT F))]
theorem aDl (F : Md) : bD Tryz.prog GL (gZ F) := .cons (jW F) (by kernel_rfl) (.cons (aKg F) (by kernel_rfl) (.cons (aA7 F) (by kernel_rfl) (.cons aB2 (by kernel_rfl) (.cons (aIv F) (by kernel_rfl) (.cons (vA F) (by kernel_rfl) (.cons (aDd F) (by kernel_rfl) (.nil)))))))
theorem aEM (F : Md) : gam (gZ F) 139 = some (bY F) := rfl
attribute [go_sem] aEM
theorem aEN (F : Md) : gam (gZ F) 135 = some (tL F) := rfl
attribute [go_sem] aEN
theorem aEO (F : Md) : gam (gZ F) 136 = some (jN F) := rfl
attribute [go_sem] aEO
theorem aEP (F : Md) : gam (gZ F) 137 = some gY := rfl
attribute [go_sem] aEP
theorem aEQ (F : Md) : gam (gZ F) 138 = some (rH F) := rfl
attribute [go_sem] aEQ
theorem aF8 (F : Md) : gam (gZ F) 25 = some (gQ F) := rfl
attribute [go_sem] aF8
theorem aF9 (F : Md) : gam (gZ F) 68 = some (mT F) := rfl
attribute [go_sem] aF9
set_option maxHeartbeats 4000000 in
theorem aIA (F : Md) : FOK Tryz.prog GL 67 (rK F) := by
 refine lR (aY (aDl F)) Tryz.func67 rfl (by kernel_rfl) (by decide) fun w0 S x r hw h => ?_
 have hF : jS (fr Tryz.prog (EM (gZ F)) S w0 Tryz.f67.ntmps) := ⟨aY (aDl F), mix⟩
 obtain ⟨(s_0 : ((List Nat) × ((List ((List Nat) × (((List Nat) × ((List Nat) × Unit)) × (Ex × Unit)))) × ((List ((List Nat) × (((List Nat) × ((List Nat) × Unit)) × Unit))) × ((List (List Nat)) × ((List ((List Nat) × (Ex × Unit))) × Unit)))))), u⟩ := x
 simp only [tW, Ty.wf, mZ] at hw
 simp only [bK, tW]
 try dsimp only at h
 replace h : tV F s_0 = some r := h
 unfold tV at h
 refine aC (aX hF [1] ?_)
 simp only [go_sem]
 refine aD (aC (aC (aE hF [1, 41] ?_)))
 simp only [go_sem]
 refine aD (bS rfl (fun hc => ?_) (fun hc => ?_))
 ·try simp only [go_sem] at hc
  have h := gJ zAB h
  refine aC (aE hF [2] ?_)
  simp only [go_sem]
  obtain rfl := Option.some.inj h
  refine aD (dE (dJ (fD hF [.tmp 2] rfl rfl rfl ?_)))
  exact zAG
 ·try simp only [go_sem] at hc
  have h := gK zAB h
  refine cR (aD (aC (aE hF [1, 3, 4, 5] ?_)))
  simp only [go_sem]
  obtain ⟨g0, h⟩ := aI h
  repeat (refine ⟨zAA, ?_⟩)
  refine aD (aC (aX hF [1, 6] ?_))
  simp only [go_sem]
  obtain ⟨g0, h⟩ := aI h
  repeat (refine ⟨zAA, ?_⟩)
  refine aD (aC (aX hF [1, 6, 7] ?_))
  simp only [go_sem]
  obtain ⟨g0, h⟩ := aI h
  repeat (refine ⟨zAA, ?_⟩)
  refine aD (nT (D := (List (List Nat))) (fun d => tU F s_0 d = some r) [] (fun d => [(1, .ptr 0 []), (6, .ptr 1 []), (7, .own 2)]) (fun d => [.inr (.box 5 (.val (.pair .str (.pair (.sl (.pair .str (.pair (.pair .str (.pair .str .unit)) (.pair .expr .unit)))) (.pair (.sl (.pair .str (.pair (.pair .str (.pair .str .unit)) .unit))) (.pair (.sl .str) (.pair (.sl (.pair .str (.pair .expr .unit))) .unit))))) s_0)), .inr (.box 1 (.val (.sl .str) ((bH F ([((aR F s_0).getD (([] : List (List Nat)), ([] : List (List Nat)), ([] : List (List Nat)), ())).1, ((aR F s_0).getD (([] : List (List Nat)), ([] : List (List Nat)), ([] : List (List Nat)), ())).2.1, ((aR F s_0).getD (([] : List (List Nat)), ([] : List (List Nat)), ([] : List (List Nat)), ())).2.2.1] : List (List (List Nat)))).getD ([] : List (List Nat))))), .inr (.row 9 .str d)]) ?_ ?_)
  ·refine aC (aE hF [1, 6, 7, 56, 57, 58] ?_)
   simp only [go_sem]
   refine aD (dD (lQ (D := Int × (List (List Nat))) [56, 57] (fun d => [(1, .ptr 0 []), (6, .ptr 1 []), (7, .own 2), (58, .val (.i .i64) d.1)]) (fun d => [.inr (.box 5 (.val (.pair .str (.pair (.sl (.pair .str (.pair (.pair .str (.pair .str .unit)) (.pair .expr .unit)))) (.pair (.sl (.pair .str (.pair (.pair .str (.pair .str .unit)) .unit))) (.pair (.sl .str) (.pair (.sl (.pair .str (.pair .expr .unit))) .unit))))) s_0)), .inr (.box 1 (.val (.sl .str) ((bH F ([((aR F s_0).getD (([] : List (List Nat)), ([] : List (List Nat)), ([] : List (List Nat)), ())).1, ((aR F s_0).getD (([] : List (List Nat)), ([] : List (List Nat)), ([] : List (List Nat)), ())).2.1, ((aR F s_0).getD (([] : List (List Nat)), ([] : List (List Nat)), ([] : List (List Nat)), ())).2.2.1] : List (List (List Nat)))).getD ([] : List (List Nat))))), .inr (.row 9 .str d.2)]) h ?_ ?_ ?_))
   ·first | rfl | (simp only [go_sem]; done)
   ·exact zAF
   rintro ⟨x58_17, all_18⟩ s7 h hs7
   simp only [go_sem]
   try dsimp only at h
   unfold aAo at h
   refine aC (aE hF [1, 6, 7, 56, 57, 58, 59] ?_)
   simp only [go_sem]
   refine aD (aC (bS rfl (fun hc => ?_) (fun hc => ?_)))
   ·try simp only [go_sem] at hc
    have h := gJ zAB h
    refine cR (aD (aC (dD (aC (aX hF [1, 6, 7, 9, 56, 57, 58] ?_)))))
    simp only [go_sem]
    obtain ⟨g0, h⟩ := aI h
    repeat (refine ⟨zAA, ?_⟩)
    refine aD (aX hF [1, 6, 7, 56, 57, 58] ?_)
    simp only [go_sem]
    obtain ⟨g0, h⟩ := aI h
    repeat (refine ⟨zAA, ?_⟩)
    refine cW (aD (aE hF [1, 6, 7, 56, 57, 58] ?_))
    simp only [go_sem]
    obtain ⟨g0, h⟩ := aI h
    try simp only [I64, I32] at g0
    repeat (refine ⟨zAA, ?_⟩)
    obtain rfl := Option.some.inj h
    dsimp only [mG] at hs7
    refine bB (gL [0, 1, 4] rfl rfl ?_)
    simp only [ren, fU, iV, posOf, dL, go_sem]
    refine aQ ((x58_17 + (1 : Int)), (all_18 ++ ([(s_0.2.2.2.2.1.getD (x58_17.toNat) ([], (Ex.mk 0 [] []), ())).1] : List (List Nat)))) hs7 rfl ?_
    ·exact zAF
   ·try simp only [go_sem] at hc
    have h := gK zAB h
    obtain rfl := Option.some.inj h
    dsimp only [mG] at hs7
    have h := hs7
    try dsimp only at h
    refine mM (cA (cA (dZ (bB (aQ (all_18) h rfl ?_)))))
    ·exact zAF
  ·rintro all_6 h
   try dsimp only at h
   simp only [go_sem]
   unfold tU at h
   refine aC (aC (aE hF [1, 6, 70] ?_))
   simp only [go_sem]
   obtain ⟨g0, h⟩ := aI h
   repeat (refine ⟨zAA, ?_⟩)
   refine aD (bS rfl (fun hc => ?_) (fun hc => ?_))
   ·try simp only [go_sem] at hc
    have h := gJ zAB h
    refine aC (aE hF [2] ?_)
    simp only [go_sem]
    obtain rfl := Option.some.inj h
    refine aD (dE (dJ (fD hF [.tmp 2] rfl rfl rfl ?_)))
    exact zAG
   ·try simp only [go_sem] at hc
    have h := gK zAB h
    refine cR (aD (nT (D := Unit) (fun d => tT F s_0 = some r) [] (fun d => [(1, .ptr 0 []), (6, .ptr 1 [])]) (fun d => [.inr (.box 5 (.val (.pair .str (.pair (.sl (.pair .str (.pair (.pair .str (.pair .str .unit)) (.pair .expr .unit)))) (.pair (.sl (.pair .str (.pair (.pair .str (.pair .str .unit)) .unit))) (.pair (.sl .str) (.pair (.sl (.pair .str (.pair .expr .unit))) .unit))))) s_0)), .inr (.box 1 (.val (.sl .str) ((bH F ([((aR F s_0).getD (([] : List (List Nat)), ([] : List (List Nat)), ([] : List (List Nat)), ())).1, ((aR F s_0).getD (([] : List (List Nat)), ([] : List (List Nat)), ([] : List (List Nat)), ())).2.1, ((aR F s_0).getD (([] : List (List Nat)), ([] : List (List Nat)), ([] : List (List Nat)), ())).2.2.1] : List (List (List Nat)))).getD ([] : List (List Nat)))))]) ?_ ?_))
    ·refine aC (aE hF [1, 6, 72, 73, 74] ?_)
     simp only [go_sem]
     refine aD (dD (vC [0, 1] rfl rfl ?_))
     simp only [ren, fU, iV, posOf, dL, go_sem]
     refine lQ (D := Int) [72, 73] (fun d => [(1, .ptr 0 []), (6, .ptr 1 []), (74, .val (.i .i64) d)]) (fun d => [.inr (.box 5 (.val (.pair .str (.pair (.sl (.pair .str (.pair (.pair .str (.pair .str .unit)) (.pair .expr .unit)))) (.pair (.sl (.pair .str (.pair (.pair .str (.pair .str .unit)) .unit))) (.pair (.sl .str) (.pair (.sl (.pair .str (.pair .expr .unit))) .unit))))) s_0)), .inr (.box 1 (.val (.sl .str) ((bH F ([((aR F s_0).getD (([] : List (List Nat)), ([] : List (List Nat)), ([] : List (List Nat)), ())).1, ((aR F s_0).getD (([] : List (List Nat)), ([] : List (List Nat)), ([] : List (List Nat)), ())).2.1, ((aR F s_0).getD (([] : List (List Nat)), ([] : List (List Nat)), ([] : List (List Nat)), ())).2.2.1] : List (List (List Nat)))).getD ([] : List (List Nat)))))]) h ?_ ?_ ?_
     ·first | rfl | (simp only [go_sem]; done)
     ·exact zAF
     rintro x74_14 s14 h hs14
     simp only [go_sem]
     try dsimp only at h
     unfold zJ at h
     refine aC (aE hF [1, 6, 72, 73, 74, 75] ?_)
     simp only [go_sem]
     refine aD (aC (bS rfl (fun hc => ?_) (fun hc => ?_)))
     ·try simp only [go_sem] at hc
      have h := gJ zAB h
      refine cR (aD (aC (dD (aC (aX hF [1, 6, 11, 72, 73, 74] ?_)))))
      simp only [go_sem]
      obtain ⟨g0, h⟩ := aI h
      repeat (refine ⟨zAA, ?_⟩)
      refine aD (aC (aE hF [1, 6, 72, 73, 74, 88] ?_))
      simp only [go_sem]
      obtain ⟨g0, h⟩ := aI h
      obtain ⟨g1, h⟩ := aI h
      repeat (refine ⟨by first | with_reducible assumption | omega | (intros; first | with_reducible assumption | omega) | (simp only [go_sem] at *; first | with_reducible assumption | omega) | (intro _; exact ⟨rfl, by decide⟩) | (intro _; refine (?_ : _ = aV _); rfl) | exact ⟨rfl, rfl⟩ | (intro q0; (try have e1 := g1 zAC); first | assumption | omega) | decide, ?_⟩)
      refine aD (bS rfl (fun hc => ?_) (fun hc => ?_))
      ·try simp only [go_sem] at hc
       have h := gJ zAB h
       refine aC (aE hF [2] ?_)
       simp only [go_sem]
       obtain rfl := Option.some.inj h
       dsimp only [mG] at hs14
       have h := hs14
       try dsimp only at h
       obtain rfl := Option.some.inj h
       refine aD (dE (kC (dJ (dJ (kC (dJ (fD hF [.tmp 2] rfl rfl rfl ?_)))))))
       exact zAG
      ·try simp only [go_sem] at hc
       have h := gK zAB h
       refine cR (cW (aD (aE hF [1, 6, 72, 73, 74] ?_)))
       simp only [go_sem]
       obtain ⟨g0, h⟩ := aI h
       try simp only [I64, I32] at g0
       repeat (refine ⟨zAA, ?_⟩)
       obtain rfl := Option.some.inj h
       dsimp only [mG] at hs14
       refine bB (gL [0, 1] rfl rfl ?_)
       simp only [ren, fU, iV, posOf, dL, go_sem]
       refine aQ (x74_14 + (1 : Int)) hs14 rfl ?_
       ·exact zAF
     ·try simp only [go_sem] at hc
      have h := gK zAB h
      obtain rfl := Option.some.inj h
      dsimp only [mG] at hs14
      have h := hs14
      try dsimp only at h
      refine mM (cA (cA (dZ (bB (aQ () h rfl ?_)))))
      ·exact zAF
    ·rintro u h
     try dsimp only at h
     simp only [go_sem]
     unfold tT at h
     refine aC (aC (aE hF [1, 6, 91, 92, 93] ?_))
     simp only [go_sem]
     refine aD (dD (lQ (D := Int) [91, 92] (fun d => [(1, .ptr 0 []), (6, .ptr 1 []), (93, .val (.i .i64) d)]) (fun d => [.inr (.box 5 (.val (.pair .str (.pair (.sl (.pair .str (.pair (.pair .str (.pair .str .unit)) (.pair .expr .unit)))) (.pair (.sl (.pair .str (.pair (.pair .str (.pair .str .unit)) .unit))) (.pair (.sl .str) (.pair (.sl (.pair .str (.pair .expr .unit))) .unit))))) s_0)), .inr (.box 1 (.val (.sl .str) ((bH F ([((aR F s_0).getD (([] : List (List Nat)), ([] : List (List Nat)), ([] : List (List Nat)), ())).1, ((aR F s_0).getD (([] : List (List Nat)), ([] : List (List Nat)), ([] : List (List Nat)), ())).2.1, ((aR F s_0).getD (([] : List (List Nat)), ([] : List (List Nat)), ([] : List (List Nat)), ())).2.2.1] : List (List (List Nat)))).getD ([] : List (List Nat)))))]) h ?_ ?_ ?_))
     ·first | rfl | (simp only [go_sem]; done)
     ·exact zAF
     rintro x93_11 s20 h hs20
     simp only [go_sem]
     try dsimp only at h
     unfold zI at h
     refine aC (aE hF [1, 6, 91, 92, 93, 94] ?_)
     simp only [go_sem]
     refine aD (aC (bS rfl (fun hc => ?_) (fun hc => ?_)))
     ·try simp only [go_sem] at hc
      have h := gJ zAB h
      refine cR (aD (aC (dD (aC (aX hF [1, 6, 13, 91, 92, 93] ?_)))))
      simp only [go_sem]
      obtain ⟨g0, h⟩ := aI h
      repeat (refine ⟨zAA, ?_⟩)
      refine aD (aC (aE hF [1, 6, 91, 92, 93, 100] ?_))
      simp only [go_sem]
      obtain ⟨g0, h⟩ := aI h
      repeat (refine ⟨zAA, ?_⟩)
      refine aD (bS rfl (fun hc => ?_) (fun hc => ?_))
      ·try simp only [go_sem] at hc
       have h := gJ zAB h
       refine aC (aE hF [2] ?_)
       simp only [go_sem]
       obtain rfl := Option.some.inj h
       dsimp only [mG] at hs20
       have h := hs20
       try dsimp only at h
       obtain rfl := Option.some.inj h
       refine aD (dE (kC (dJ (dJ (kC (dJ (fD hF [.tmp 2] rfl rfl rfl ?_)))))))
       exact zAG
      ·try simp only [go_sem] at hc
       have h := gK zAB h
       refine cR (cW (aD (aE hF [1, 6, 91, 92, 93] ?_)))
       simp only [go_sem]
       obtain ⟨g0, h⟩ := aI h
       try simp only [I64, I32] at g0
       repeat (refine ⟨zAA, ?_⟩)
       obtain rfl := Option.some.inj h
       dsimp only [mG] at hs20
       refine bB (gL [0, 1] rfl rfl ?_)
       simp only [ren, fU, iV, posOf, dL, go_sem]
       refine aQ (x93_11 + (1 : Int)) hs20 rfl ?_
       ·exact zAF
     ·try simp only [go_sem] at hc
      have h := gK zAB h
      obtain rfl := Option.some.inj h
      dsimp only [mG] at hs20
      have h := hs20
      try dsimp only at h
      refine mM (cA (cA (dZ (aD (aC (wB 1 rfl ?_))))))
      simp only [go_sem]
      refine aE hF [2] ?_
      simp only [go_sem]
      obtain ⟨g0, h⟩ := aI h
      repeat (refine ⟨zAA, ?_⟩)
      obtain rfl := Option.some.inj h
      refine aD (dE (fD hF [.tmp 2] rfl rfl rfl ?_))
      exact zAG
attribute [go_sem] rK
noncomputable def wS (F : Md) (s_0 : (Int × (Int × (Int × (Int × ((List Nat) × ((List Nat) × ((List Nat) × ((List Nat) × ((List ((List Nat) × ((List ((List Nat) × (((List Nat) × ((List Nat) × Unit)) × (Ex × Unit)))) × ((List ((List Nat) × (((List Nat) × ((List Nat) × Unit)) × Unit))) × ((List (List Nat)) × ((List ((List Nat) × (Ex × Unit))) × Unit)))))) × ((List ((List Nat) × ((List Nat) × ((List Nat) × ((List Nat) × Unit))))) × Unit))))))))))) (sub_1 : (List Nat)) (x10_5 : Int) : Option ((Int) ⊕ ((Unit) ⊕ Int)) :=
 if x10_5 < (((s_0.2.2.2.2.2.2.2.2.1.length) : Nat) : Int) then ck (0 ≤ x10_5 ∧ x10_5 < (((s_0.2.2.2.2.2.2.2.2.1.length) : Nat) : Int)) (if (s_0.2.2.2.2.2.2.2.2.1.getD (x10_5.toNat) ([], [], [], [], [], ())).1 = sub_1 then some (.inr (.inr x10_5)) else ck (I64 (x10_5 + (1 : Int))) (some (.inl (x10_5 + (1 : Int))))) else some (.inr (.inl ()))
noncomputable def hD (F : Md) (s_0 : (Int × (Int × (Int × (Int × ((List Nat) × ((List Nat) × ((List Nat) × ((List Nat) × ((List ((List Nat) × ((List ((List Nat) × (((List Nat) × ((List Nat) × Unit)) × (Ex × Unit)))) × ((List ((List Nat) × (((List Nat) × ((List Nat) × Unit)) × Unit))) × ((List (List Nat)) × ((List ((List Nat) × (Ex × Unit))) × Unit)))))) × ((List ((List Nat) × ((List Nat) × ((List Nat) × ((List Nat) × Unit))))) × Unit))))))))))) (sub_1 : (List Nat)) : Option Int :=
 (dF F (fun d : Int => wS F s_0 sub_1 d) (0 : Int)).bind (fun e => match e with | (.inl e) => some (-1 : Int) | (.inr e) => some e)
def aEe : PlR := ⟨[(0, .B [1, 2]), (1, .A [1, 8, 9, 10]), (2, .A [1, 8, 9, 10, 11]), (3, .B [1, 5, 6, 8, 9, 10]), (4, .A [1, 5, 8, 9, 10, 18]), (5, .A [4]), (6, .A [1, 8, 9, 10]), (7, .A [4])], []⟩
def aGa : Ty := .pair (.pair (.i .i64) (.pair (.i .i64) (.pair (.i .i64) (.pair (.i .i64) (.pair .str (.pair .str (.pair .str (.pair .str (.pair (.sl (.pair .str (.pair (.sl (.pair .str (.pair (.pair .str (.pair .str .unit)) (.pair .expr .unit)))) (.pair (.sl (.pair .str (.pair (.pair .str (.pair .str .unit)) .unit))) (.pair (.sl .str) (.pair (.sl (.pair .str (.pair .expr .unit))) .unit)))))) (.pair (.sl (.pair .str (.pair .str (.pair .str (.pair .str .unit))))) .unit)))))))))) (.pair .str .unit)
noncomputable def nZ (F : Md) : aH := mSpec aGa (.one (.i .i64)) (fun x => hD F x.1 x.2.1)
noncomputable def aMd (F : Md) : List (FuncId × aH) := []
theorem aMe (F : Md) : bD Tryz.prog GL (aMd F) := .nil
attribute [go_sem] aGa aEe
set_option maxHeartbeats 4000000 in
theorem aEf (F : Md) : FOK Tryz.prog GL 62 (nZ F) := by
 refine bG (aY (aMe F)) mix Tryz.func62 rfl (by kernel_rfl) (by decide) aEe fun w0 S x Θ hw h hF => ?_
 obtain ⟨(s_0 : (Int × (Int × (Int × (Int × ((List Nat) × ((List Nat) × ((List Nat) × ((List Nat) × ((List ((List Nat) × ((List ((List Nat) × (((List Nat) × ((List Nat) × Unit)) × (Ex × Unit)))) × ((List ((List Nat) × (((List Nat) × ((List Nat) × Unit)) × Unit))) × ((List (List Nat)) × ((List ((List Nat) × (Ex × Unit))) × Unit)))))) × ((List ((List Nat) × ((List Nat) × ((List Nat) × ((List Nat) × Unit))))) × Unit))))))))))), (sub_1 : (List Nat)), u⟩ := x
 simp only [bK, go_sem]
 replace h : sat (hD F s_0 sub_1) _ := h
 unfold hD at h
 refine vC [] rfl rfl ?_
 simp only [go_sem]
 refine bQ hF (D := Int) [1, 8, 9] (fun d => [(10, .val (.i .i64) d)]) (fun d => []) h rfl (by simp only [go_sem]) ?_
 rintro x10_5 A2 T2 hA2 hE2 h
 simp only [go_sem]
 replace h : sat (wS F s_0 sub_1 x10_5) _ := h
 unfold wS at h
 refine eG h (fun hc h => ?_) fun hc h => ?_
 ·refine aP h fun g0 h => ?_
  refine dT h (fun hc h => ?_) fun hc h => ?_
  ·replace h := hE2 _ (aB h)
   try dsimp only at h
   exact aG hF [.tmp 4] rfl rfl rfl (aB h) (by simp only [aS, go_sem])
  ·refine aP h fun g0 h => ?_
   replace h := hA2 _ (aB h)
   refine gL [] rfl rfl ?_
   simp only [go_sem]
   exact aQ _ h rfl (by simp only [go_sem])
 ·replace h := hE2 _ (aB h)
  try dsimp only at h
  exact aG hF [.tmp 4] rfl rfl rfl (aB h) (by simp only [aS, go_sem])
attribute [go_sem] nZ
noncomputable def pP (F : Md) (o_0 : ((List Nat) × (Ex × Unit))) (a1_1 : (List ((List Nat) × ((List Nat) × ((List Nat) × ((List Nat) × Unit)))))) : Option Bool :=
 ck ((0 : Int) < (((a1_1.length) : Nat) : Int)) (some (decide (o_0.1 = (a1_1.getD (0 : Nat) ([], [], [], [], ())).2.2.2.1)))
def aAp : PlR := ⟨[(0, .B [1, 2]), (1, .A [3])], []⟩
def aBd : Ty := .pair (.pair .str (.pair .expr .unit)) (.pair (.rp (.sl (.pair .str (.pair .str (.pair .str (.pair .str .unit)))))) .unit)
noncomputable def oH (F : Md) : aH := mSpec aBd (.one .bool) (fun x => pP F x.1 x.2.1)
noncomputable def aG3 (F : Md) : List (FuncId × aH) := []
theorem aG4 (F : Md) : bD Tryz.prog GL (aG3 F) := .nil
attribute [go_sem] aBd aAp
set_option maxHeartbeats 4000000 in
theorem aGb (F : Md) : FOK Tryz.prog GL 141 (oH F) := by
 refine bG (aY (aG4 F)) mix Tryz.func141 rfl (by kernel_rfl) (by decide) aAp fun w0 S x Θ hw h hF => ?_
 obtain ⟨(o_0 : ((List Nat) × (Ex × Unit))), (a1_1 : (List ((List Nat) × ((List Nat) × ((List Nat) × ((List Nat) × Unit)))))), u⟩ := x
 simp only [bK, go_sem]
 replace h : sat (pP F o_0 a1_1) _ := h
 unfold pP at h
 refine aP h fun g0 h => ?_
 exact aG hF [.tmp 3] rfl rfl rfl (aB h) (by simp only [aS, go_sem])
attribute [go_sem] oH
noncomputable def dC (F : Md) (s_0 : (List ((List Nat) × (Ex × Unit)))) (f_1 : ((List ((List Nat) × ((List Nat) × ((List Nat) × ((List Nat) × Unit))))) × Unit)) (x8_14 : Int) : Option ((Int) ⊕ ((Unit) ⊕ Int)) :=
 if x8_14 < (((s_0.length) : Nat) : Int) then ck (0 ≤ x8_14 ∧ x8_14 < (((s_0.length) : Nat) : Int)) ((pP F (s_0.getD (x8_14.toNat) ([], (Ex.mk 0 [] []), ())) f_1.1).bind (fun v_27 => if v_27 = true then some (.inr (.inr x8_14)) else ck (I64 (x8_14 + (1 : Int))) (some (.inl (x8_14 + (1 : Int)))))) else some (.inr (.inl ()))
noncomputable def cK (F : Md) (s_0 : (List ((List Nat) × (Ex × Unit)))) (f_1 : ((List ((List Nat) × ((List Nat) × ((List Nat) × ((List Nat) × Unit))))) × Unit)) : Option Int :=
 (dF F (fun d : Int => dC F s_0 f_1 d) (0 : Int)).bind (fun e => match e with | (.inl e) => some (-1 : Int) | (.inr e) => some e)
def fI : PlR := ⟨[(0, .A [0, 1]), (1, .A [0, 1, 7, 8]), (2, .A [0, 1, 7, 8, 9]), (3, .A [0, 1, 5, 7, 8]), (4, .A [0, 1, 5, 7, 8, 16]), (5, .A [4]), (6, .A [0, 1, 7, 8]), (7, .A [4])], []⟩
def fR : Ty := .pair (.sl (.pair .str (.pair .expr .unit))) (.pair (.clo 141 (.pair (.rp (.sl (.pair .str (.pair .str (.pair .str (.pair .str .unit)))))) .unit)) .unit)
noncomputable def cE (F : Md) : aH := mSpec fR (.one (.i .i64)) (fun x => cK F x.1 x.2.1)
noncomputable def fS (F : Md) : List (FuncId × aH) := [(141, (oH F))]
theorem lK (F : Md) : bD Tryz.prog GL (fS F) := .cons (aGb F) (by kernel_rfl) (.nil)
theorem jX (F : Md) : gam (fS F) 141 = some (oH F) := rfl
attribute [go_sem] fR fI jX
set_option maxHeartbeats 4000000 in
theorem lD (F : Md) : FOK Tryz.prog GL 204 (cE F) := by
 refine bG (aY (lK F)) mix Tryz.func204 rfl (by kernel_rfl) (by decide) fI fun w0 S x Θ hw h hF => ?_
 obtain ⟨(s_0 : (List ((List Nat) × (Ex × Unit)))), (f_1 : ((List ((List Nat) × ((List Nat) × ((List Nat) × ((List Nat) × Unit))))) × Unit)), u⟩ := x
 simp only [bK, go_sem]
 replace h : sat (cK F s_0 f_1) _ := h
 unfold cK at h
 refine bQ hF (D := Int) [0, 1, 7] (fun d => [(8, .val (.i .i64) d)]) (fun d => []) h rfl (by simp only [go_sem]) ?_
 rintro x8_14 A2 T2 hA2 hE2 h
 simp only [go_sem]
 replace h : sat (dC F s_0 f_1 x8_14) _ := h
 unfold dC at h
 refine eG h (fun hc h => ?_) fun hc h => ?_
 ·refine aP h fun g0 h => ?_
  obtain ⟨v_27, hv, h⟩ := aJ h
  try simp only [hv, go_sem]
  refine aHo h (fun hc h => ?_) fun hc h => ?_
  ·replace h := hE2 _ (aB h)
   try dsimp only at h
   exact aG hF [.tmp 4] rfl rfl rfl (aB h) (by simp only [aS, go_sem])
  ·refine aP h fun g0 h => ?_
   replace h := hA2 _ (aB h)
   exact aQ _ h rfl (by simp only [go_sem])
 ·replace h := hE2 _ (aB h)
  try dsimp only at h
  exact aG hF [.tmp 4] rfl rfl rfl (aB h) (by simp only [aS, go_sem])
attribute [go_sem] cE
noncomputable def bN (F : Md) (s_0 : (List ((List Nat) × (Ex × Unit)))) (f_1 : ((List ((List Nat) × ((List Nat) × ((List Nat) × ((List Nat) × Unit))))) × Unit)) : Option Bool :=
 (cK F s_0 f_1).bind (fun v_6 => some (decide ((0 : Int) ≤ v_6)))
def eL : PlR := ⟨[(0, .A [0, 1]), (1, .A [4])], []⟩
def eW : Ty := .pair (.sl (.pair .str (.pair .expr .unit))) (.pair (.clo 141 (.pair (.rp (.sl (.pair .str (.pair .str (.pair .str (.pair .str .unit)))))) .unit)) .unit)
noncomputable def bZ (F : Md) : aH := mSpec eW (.one .bool) (fun x => bN F x.1 x.2.1)
noncomputable def eX (F : Md) : List (FuncId × aH) := [(204, (cE F))]
theorem kP (F : Md) : bD Tryz.prog GL (eX F) := .cons (lD F) (by kernel_rfl) (.nil)
theorem jC (F : Md) : gam (eX F) 204 = some (cE F) := rfl
attribute [go_sem] eW eL jC
set_option maxHeartbeats 4000000 in
theorem jY (F : Md) : FOK Tryz.prog GL 139 (bZ F) := by
 refine bG (aY (kP F)) mix Tryz.func139 rfl (by kernel_rfl) (by decide) eL fun w0 S x Θ hw h hF => ?_
 obtain ⟨(s_0 : (List ((List Nat) × (Ex × Unit)))), (f_1 : ((List ((List Nat) × ((List Nat) × ((List Nat) × ((List Nat) × Unit))))) × Unit)), u⟩ := x
 simp only [bK, go_sem]
 replace h : sat (bN F s_0 f_1) _ := h
 unfold bN at h
 obtain ⟨v_6, hv, h⟩ := aJ h
 try simp only [hv, go_sem]
 exact aG hF [.tmp 4] rfl rfl rfl (aB h) (by simp only [aS, go_sem])
attribute [go_sem] bZ
noncomputable def tX (F : Md) (s_0 : (Int × (Int × (Int × (Int × ((List Nat) × ((List Nat) × ((List Nat) × ((List Nat) × ((List ((List Nat) × ((List ((List Nat) × (((List Nat) × ((List Nat) × Unit)) × (Ex × Unit)))) × ((List ((List Nat) × (((List Nat) × ((List Nat) × Unit)) × Unit))) × ((List (List Nat)) × ((List ((List Nat) × (Ex × Unit))) × Unit)))))) × ((List ((List Nat) × ((List Nat) × ((List Nat) × ((List Nat) × Unit))))) × Unit))))))))))) (x14_42 : Int) (x21_83 : Int) (l_84 : (List ((List Nat) × ((List Nat) × ((List Nat) × ((List Nat) × Unit)))))) : Option ((Int × (List ((List Nat) × ((List Nat) × ((List Nat) × ((List Nat) × Unit)))))) ⊕ ((List ((List Nat) × ((List Nat) × ((List Nat) × ((List Nat) × Unit))))) ⊕ Bool)) :=
 if x21_83 < (((s_0.2.2.2.2.2.2.2.2.1.getD (x14_42.toNat) ([], [], [], [], [], ())).2.2.2.1.length : Nat) : Int) then ck (0 ≤ x21_83 ∧ x21_83 < (((s_0.2.2.2.2.2.2.2.2.1.getD (x14_42.toNat) ([], [], [], [], [], ())).2.2.2.1.length : Nat) : Int)) (ck (¬ ((((l_84.length) : Nat) : Int) = (0 : Int)) → ((0 : Int) < (((l_84.length) : Nat) : Int))) (ck (¬ (((((l_84.length) : Nat) : Int) = (0 : Int)) ∨ (¬ ((l_84.getD (0 : Nat) ([], [], [], [], ())).1 = (s_0.2.2.2.2.2.2.2.2.1.getD (x14_42.toNat) ([], [], [], [], [], ())).1))) → ((0 : Int) < (((l_84.length) : Nat) : Int))) (if (((((l_84.length) : Nat) : Int) = (0 : Int)) ∨ (¬ ((l_84.getD (0 : Nat) ([], [], [], [], ())).1 = (s_0.2.2.2.2.2.2.2.2.1.getD (x14_42.toNat) ([], [], [], [], [], ())).1))) ∨ (¬ ((l_84.getD (0 : Nat) ([], [], [], [], ())).2.1 = ((s_0.2.2.2.2.2.2.2.2.1.getD (x14_42.toNat) ([], [], [], [], [], ())).2.2.2.1.getD (x21_83.toNat) ([] : List Nat)))) then some (.inr (.inr false)) else ck ((0 : Int) < (((l_84.length) : Nat) : Int)) ((hD F s_0 (l_84.getD (0 : Nat) ([], [], [], [], ())).2.2.1).bind (fun v_99 => ck (¬ (v_99 < (0 : Int)) → (0 ≤ v_99 ∧ v_99 < (((s_0.2.2.2.2.2.2.2.2.1.length) : Nat) : Int))) (ck (¬ (v_99 < (0 : Int)) → ((bN F (s_0.2.2.2.2.2.2.2.2.1.getD (v_99.toNat) ([], [], [], [], [], ())).2.2.2.2.1 (l_84, ())).isSome = true)) (if (v_99 < (0 : Int)) ∨ (¬ (((bN F (s_0.2.2.2.2.2.2.2.2.1.getD (v_99.toNat) ([], [], [], [], [], ())).2.2.2.2.1 (l_84, ())).getD false) = true)) then some (.inr (.inr false)) else ck ((1 : Int) ≤ (((l_84.length) : Nat) : Int)) (ck (I64 (x21_83 + (1 : Int))) (some (.inl ((x21_83 + (1 : Int)), (List.drop (1 : Nat) l_84)))))))))))) else some (.inr (.inl l_84))
noncomputable def tY (F : Md) (s_0 : (Int × (Int × (Int × (Int × ((List Nat) × ((List Nat) × ((List Nat) × ((List Nat) × ((List ((List Nat) × ((List ((List Nat) × (((List Nat) × ((List Nat) × Unit)) × (Ex × Unit)))) × ((List ((List Nat) × (((List Nat) × ((List Nat) × Unit)) × Unit))) × ((List (List Nat)) × ((List ((List Nat) × (Ex × Unit))) × Unit)))))) × ((List ((List Nat) × ((List Nat) × ((List Nat) × ((List Nat) × Unit))))) × Unit))))))))))) (x14_42 : Int) (l_43 : (List ((List Nat) × ((List Nat) × ((List Nat) × ((List Nat) × Unit)))))) : Option ((Int × (List ((List Nat) × ((List Nat) × ((List Nat) × ((List Nat) × Unit)))))) ⊕ ((List ((List Nat) × ((List Nat) × ((List Nat) × ((List Nat) × Unit))))) ⊕ Bool)) :=
 if x14_42 < (((s_0.2.2.2.2.2.2.2.2.1.length) : Nat) : Int) then ck (0 ≤ x14_42 ∧ x14_42 < (((s_0.2.2.2.2.2.2.2.2.1.length) : Nat) : Int)) ((dF F (fun d : Int × (List ((List Nat) × ((List Nat) × ((List Nat) × ((List Nat) × Unit))))) => tX F s_0 x14_42 d.1 d.2) ((0 : Int), l_43)).bind (fun e => match e with | (.inl e) => ck (I64 (x14_42 + (1 : Int))) (some (.inl ((x14_42 + (1 : Int)), e))) | (.inr e) => some (.inr (.inr e)))) else some (.inr (.inl l_43))
noncomputable def oW (F : Md) (s_0 : (Int × (Int × (Int × (Int × ((List Nat) × ((List Nat) × ((List Nat) × ((List Nat) × ((List ((List Nat) × ((List ((List Nat) × (((List Nat) × ((List Nat) × Unit)) × (Ex × Unit)))) × ((List ((List Nat) × (((List Nat) × ((List Nat) × Unit)) × Unit))) × ((List (List Nat)) × ((List ((List Nat) × (Ex × Unit))) × Unit)))))) × ((List ((List Nat) × ((List Nat) × ((List Nat) × ((List Nat) × Unit))))) × Unit))))))))))) : Option Bool :=
 (dF F (fun d : Int × (List ((List Nat) × ((List Nat) × ((List Nat) × ((List Nat) × Unit))))) => tY F s_0 d.1 d.2) ((0 : Int), s_0.2.2.2.2.2.2.2.2.2.1)).bind (fun e => match e with | (.inl e) => some (decide ((((e.length) : Nat) : Int) = (0 : Int))) | (.inr e) => some e)
def aCo : PlR := ⟨[(0, .B [1]), (1, .B [1, 3]), (2, .A [1, 3, 12, 13, 14]), (3, .A [1, 3, 12, 13, 14, 15]), (4, .B [1, 3, 5, 12, 13, 14]), (5, .A [1, 3, 5, 12, 13, 14, 19, 20, 21]), (6, .A [1, 3, 5, 12, 13, 14, 19, 20, 21, 22]), (7, .A [1, 3, 5, 7, 12, 13, 14, 19, 20, 21]), (8, .A [1, 3, 5, 12, 13, 14, 19, 20, 21, 44]), (9, .A [2]), (10, .A [1, 3, 5, 8, 12, 13, 14, 19, 20, 21]), (11, .A [1, 3, 5, 12, 13, 14, 19, 20, 21, 63]), (12, .A [2]), (13, .B [1, 3, 5, 12, 13, 14, 19, 20, 21]), (14, .A [1, 3, 5, 12, 13, 14, 19, 20, 21]), (15, .A [1, 3, 12, 13, 14]), (16, .A [2])], []⟩
def aDm : Ty := .pair (.pair (.i .i64) (.pair (.i .i64) (.pair (.i .i64) (.pair (.i .i64) (.pair .str (.pair .str (.pair .str (.pair .str (.pair (.sl (.pair .str (.pair (.sl (.pair .str (.pair (.pair .str (.pair .str .unit)) (.pair .expr .unit)))) (.pair (.sl (.pair .str (.pair (.pair .str (.pair .str .unit)) .unit))) (.pair (.sl .str) (.pair (.sl (.pair .str (.pair .expr .unit))) .unit)))))) (.pair (.sl (.pair .str (.pair .str (.pair .str (.pair .str .unit))))) .unit)))))))))) .unit
noncomputable def rL (F : Md) : aH := mSpec aDm (.one .bool) (fun x => oW F x.1)
noncomputable def zK (F : Md) : List (FuncId × aH) := [(139, (bZ F)), (62, (nZ F))]
theorem aKl (F : Md) : bD Tryz.prog GL (zK F) := .cons (jY F) (by kernel_rfl) (.cons (aEf F) (by kernel_rfl) (.nil))
theorem aER (F : Md) : gam (zK F) 139 = some (bZ F) := rfl
theorem aGc (F : Md) : gam (zK F) 62 = some (nZ F) := rfl
attribute [go_sem] aDm aCo aER aGc
set_option maxHeartbeats 4000000 in
theorem aIB (F : Md) : FOK Tryz.prog GL 69 (rL F) := by
 refine bG (aY (aKl F)) mix Tryz.func69 rfl (by kernel_rfl) (by decide) aCo fun w0 S x Θ hw h hF => ?_
 obtain ⟨(s_0 : (Int × (Int × (Int × (Int × ((List Nat) × ((List Nat) × ((List Nat) × ((List Nat) × ((List ((List Nat) × ((List ((List Nat) × (((List Nat) × ((List Nat) × Unit)) × (Ex × Unit)))) × ((List ((List Nat) × (((List Nat) × ((List Nat) × Unit)) × Unit))) × ((List (List Nat)) × ((List ((List Nat) × (Ex × Unit))) × Unit)))))) × ((List ((List Nat) × ((List Nat) × ((List Nat) × ((List Nat) × Unit))))) × Unit))))))))))), u⟩ := x
 simp only [bK, go_sem]
 replace h : sat (oW F s_0) _ := h
 unfold oW at h
 refine bQ hF (D := Int × (List ((List Nat) × ((List Nat) × ((List Nat) × ((List Nat) × Unit)))))) [12, 13] (fun d => [(1, .ptr 0 []), (3, .ptr 1 []), (14, .val (.i .i64) d.1)]) (fun d => [.inr (.box 10 (.val (.pair (.i .i64) (.pair (.i .i64) (.pair (.i .i64) (.pair (.i .i64) (.pair .str (.pair .str (.pair .str (.pair .str (.pair (.sl (.pair .str (.pair (.sl (.pair .str (.pair (.pair .str (.pair .str .unit)) (.pair .expr .unit)))) (.pair (.sl (.pair .str (.pair (.pair .str (.pair .str .unit)) .unit))) (.pair (.sl .str) (.pair (.sl (.pair .str (.pair .expr .unit))) .unit)))))) (.pair (.sl (.pair .str (.pair .str (.pair .str (.pair .str .unit))))) .unit)))))))))) s_0)), .inr (.box 1 (.val (.sl (.pair .str (.pair .str (.pair .str (.pair .str .unit))))) d.2))]) h rfl (by simp only [go_sem]) ?_
 rintro ⟨x14_42, l_43⟩ A3 T3 hA3 hE3 h
 simp only [go_sem]
 replace h : sat (tY F s_0 x14_42 l_43) _ := h
 unfold tY at h
 refine eG h (fun hc h => ?_) fun hc h => ?_
 ·obtain ⟨g0, h⟩ := aK h
  repeat (refine ⟨zAA, ?_⟩)
  refine bQ hF (D := Int × (List ((List Nat) × ((List Nat) × ((List Nat) × ((List Nat) × Unit)))))) [12, 13, 14, 19, 20] (fun d => [(1, .ptr 0 []), (3, .ptr 1 []), (5, .ptr 2 []), (21, .val (.i .i64) d.1)]) (fun d => [.inr (.box 10 (.val (.pair (.i .i64) (.pair (.i .i64) (.pair (.i .i64) (.pair (.i .i64) (.pair .str (.pair .str (.pair .str (.pair .str (.pair (.sl (.pair .str (.pair (.sl (.pair .str (.pair (.pair .str (.pair .str .unit)) (.pair .expr .unit)))) (.pair (.sl (.pair .str (.pair (.pair .str (.pair .str .unit)) .unit))) (.pair (.sl .str) (.pair (.sl (.pair .str (.pair .expr .unit))) .unit)))))) (.pair (.sl (.pair .str (.pair .str (.pair .str (.pair .str .unit))))) .unit)))))))))) s_0)), .inr (.box 1 (.val (.sl (.pair .str (.pair .str (.pair .str (.pair .str .unit))))) d.2)), .inr (.box 5 (.val (.pair .str (.pair (.sl (.pair .str (.pair (.pair .str (.pair .str .unit)) (.pair .expr .unit)))) (.pair (.sl (.pair .str (.pair (.pair .str (.pair .str .unit)) .unit))) (.pair (.sl .str) (.pair (.sl (.pair .str (.pair .expr .unit))) .unit))))) (s_0.2.2.2.2.2.2.2.2.1.getD (x14_42.toNat) ([], [], [], [], [], ()))))]) h rfl (by simp only [go_sem]) ?_
  rintro ⟨x21_83, l_84⟩ A6 T6 hA6 hE6 h
  simp only [go_sem]
  replace h : sat (tX F s_0 x14_42 x21_83 l_84) _ := h
  unfold tX at h
  refine eG h (fun hc h => ?_) fun hc h => ?_
  ·obtain ⟨g0, h⟩ := aK h
   repeat (refine ⟨zAA, ?_⟩)
   obtain ⟨g0, h⟩ := aK h
   obtain ⟨g1, h⟩ := aK h
   repeat (refine ⟨zAE, ?_⟩)
   refine ⟨fun hc => ?_, fun hc => ?_⟩
   ·replace h := iW hc h
    replace h := hE6 _ (aB h)
    try dsimp only at h
    replace h := hE3 _ (aB h)
    try dsimp only at h
    exact aG hF [.tmp 2] rfl rfl rfl (aB h) (by simp only [aS, go_sem])
   ·replace h := iX hc h
    obtain ⟨g0, h⟩ := aK h
    repeat (refine ⟨zAA, ?_⟩)
    obtain ⟨v_99, hv, h⟩ := aJ h
    try simp only [hv, go_sem]
    obtain ⟨g0, h⟩ := aK h
    obtain ⟨g1, h⟩ := aK h
    repeat (refine ⟨zAE, ?_⟩)
    refine ⟨fun hc => ?_, fun hc => ?_⟩
    ·replace h := iW zAB h
     replace h := hE6 _ (aB h)
     try dsimp only at h
     replace h := hE3 _ (aB h)
     try dsimp only at h
     exact aG hF [.tmp 2] rfl rfl rfl (aB h) (by simp only [aS, go_sem])
    ·replace h := iX zAB h
     obtain ⟨g0, h⟩ := aK h
     repeat (refine ⟨zAA, ?_⟩)
     obtain ⟨g0, h⟩ := aK h
     try simp only [I64, I32] at g0
     repeat (refine ⟨zAA, ?_⟩)
     replace h := hA6 _ (aB h)
     exact aQ _ h rfl (by simp only [go_sem])
  ·replace h := hE6 _ (aB h)
   try dsimp only at h
   obtain ⟨g0, h⟩ := aK h
   try simp only [I64, I32] at g0
   repeat (refine ⟨zAA, ?_⟩)
   replace h := hA3 _ (aB h)
   refine gL [0, 1] rfl rfl ?_
   simp only [go_sem]
   exact aQ _ h rfl (by simp only [go_sem])
 ·replace h := hE3 _ (aB h)
  try dsimp only at h
  exact aG hF [.tmp 2] rfl rfl rfl (aB h) (by simp only [aS, go_sem])
attribute [go_sem] rL
noncomputable def tZ (F : Md) (s_0 : (Int × (Int × (Int × (Int × ((List Nat) × ((List Nat) × ((List Nat) × ((List Nat) × ((List ((List Nat) × ((List ((List Nat) × (((List Nat) × ((List Nat) × Unit)) × (Ex × Unit)))) × ((List ((List Nat) × (((List Nat) × ((List Nat) × Unit)) × Unit))) × ((List (List Nat)) × ((List ((List Nat) × (Ex × Unit))) × Unit)))))) × ((List ((List Nat) × ((List Nat) × ((List Nat) × ((List Nat) × Unit))))) × Unit))))))))))) (names_16 : (List (List Nat))) : Option (Bool) :=
 (nY F names_16).bind (fun v_20 => ck ((v_20 = true) → ((oW F s_0).isSome = true)) (some (v_20 && ((oW F s_0).getD false))))
noncomputable def zL (F : Md) (s_0 : (Int × (Int × (Int × (Int × ((List Nat) × ((List Nat) × ((List Nat) × ((List Nat) × ((List ((List Nat) × ((List ((List Nat) × (((List Nat) × ((List Nat) × Unit)) × (Ex × Unit)))) × ((List ((List Nat) × (((List Nat) × ((List Nat) × Unit)) × Unit))) × ((List (List Nat)) × ((List ((List Nat) × (Ex × Unit))) × Unit)))))) × ((List ((List Nat) × ((List Nat) × ((List Nat) × ((List Nat) × Unit))))) × Unit))))))))))) (x24_23 : Int) (names_24 : (List (List Nat))) : Option ((Int × (List (List Nat))) ⊕ ((List (List Nat)) ⊕ Bool)) :=
 if x24_23 < (((s_0.2.2.2.2.2.2.2.2.1.length) : Nat) : Int) then ck (0 ≤ x24_23 ∧ x24_23 < (((s_0.2.2.2.2.2.2.2.2.1.length) : Nat) : Int)) ((tV F (s_0.2.2.2.2.2.2.2.2.1.getD (x24_23.toNat) ([], [], [], [], [], ()))).bind (fun v_37 => if ¬ (v_37 = true) then some (.inr (.inr false)) else ck (((names_24.length) + (1 : Nat)) * 16 ≤ 140737488355328) (ck (I64 (x24_23 + (1 : Int))) (some (.inl ((x24_23 + (1 : Int)), (names_24 ++ ([(s_0.2.2.2.2.2.2.2.2.1.getD (x24_23.toNat) ([], [], [], [], [], ())).1] : List (List Nat))))))))) else some (.inr (.inl names_24))
noncomputable def bP (F : Md) (s_0 : (Int × (Int × (Int × (Int × ((List Nat) × ((List Nat) × ((List Nat) × ((List Nat) × ((List ((List Nat) × ((List ((List Nat) × (((List Nat) × ((List Nat) × Unit)) × (Ex × Unit)))) × ((List ((List Nat) × (((List Nat) × ((List Nat) × Unit)) × Unit))) × ((List (List Nat)) × ((List ((List Nat) × (Ex × Unit))) × Unit)))))) × ((List ((List Nat) × ((List Nat) × ((List Nat) × ((List Nat) × Unit))))) × Unit))))))))))) : Option Bool :=
 (rG F s_0).bind (fun v_7 => if ((¬ (v_7 = true)) ∨ ((((s_0.2.2.2.2.2.2.2.2.1.length) : Nat) : Int) < (1 : Int))) ∨ ((4 : Int) < (((s_0.2.2.2.2.2.2.2.2.1.length) : Nat) : Int)) then some false else (dF F (fun d : Int × (List (List Nat)) => zL F s_0 d.1 d.2) ((0 : Int), ([] : List (List Nat)))).bind (fun e => match e with | (.inl e) => tZ F s_0 e | (.inr e) => some e))
def aGd : PlR := ⟨[(0, .B [1]), (1, .A [1, 20]), (2, .A [2]), (3, .A [1, 3]), (4, .A [1, 3, 22, 23, 24]), (5, .A [1, 3, 22, 23, 24, 25]), (6, .B [1, 3, 5, 22, 23, 24]), (7, .A [1, 3, 5, 22, 23, 24, 30]), (8, .A [2]), (9, .B [1, 3, 22, 23, 24]), (10, .A [1, 3, 22, 23, 24]), (11, .A [2])], [(7, 14)]⟩
def aHW : Ty := .pair (.pair (.i .i64) (.pair (.i .i64) (.pair (.i .i64) (.pair (.i .i64) (.pair .str (.pair .str (.pair .str (.pair .str (.pair (.sl (.pair .str (.pair (.sl (.pair .str (.pair (.pair .str (.pair .str .unit)) (.pair .expr .unit)))) (.pair (.sl (.pair .str (.pair (.pair .str (.pair .str .unit)) .unit))) (.pair (.sl .str) (.pair (.sl (.pair .str (.pair .expr .unit))) .unit)))))) (.pair (.sl (.pair .str (.pair .str (.pair .str (.pair .str .unit))))) .unit)))))))))) .unit
noncomputable def pQ (F : Md) : aH := mSpec aHW (.one .bool) (fun x => bP F x.1)
noncomputable def wF (F : Md) : List (FuncId × aH) := [(66, (pH F)), (67, (rK F)), (68, (mT F)), (69, (rL F))]
theorem aNd (F : Md) : bD Tryz.prog GL (wF F) := .cons (aGW F) (by kernel_rfl) (.cons (aIA F) (by kernel_rfl) (.cons (aDd F) (by kernel_rfl) (.cons (aIB F) (by kernel_rfl) (.nil))))
theorem aKm (F : Md) : gam (wF F) 66 = some (pH F) := rfl
theorem aKn (F : Md) : gam (wF F) 67 = some (rK F) := rfl
theorem aKo (F : Md) : gam (wF F) 68 = some (mT F) := rfl
theorem aKp (F : Md) : gam (wF F) 69 = some (rL F) := rfl
attribute [go_sem] aHW aGd aKm aKn aKo aKp
set_option maxHeartbeats 4000000 in
theorem aGe (F : Md) : FOK Tryz.prog GL 28 (pQ F) := by
 refine bG (aY (aNd F)) mix Tryz.func28 rfl (by kernel_rfl) (by decide) aGd fun w0 S x Θ hw h hF => ?_
 obtain ⟨(s_0 : (Int × (Int × (Int × (Int × ((List Nat) × ((List Nat) × ((List Nat) × ((List Nat) × ((List ((List Nat) × ((List ((List Nat) × (((List Nat) × ((List Nat) × Unit)) × (Ex × Unit)))) × ((List ((List Nat) × (((List Nat) × ((List Nat) × Unit)) × Unit))) × ((List (List Nat)) × ((List ((List Nat) × (Ex × Unit))) × Unit)))))) × ((List ((List Nat) × ((List Nat) × ((List Nat) × ((List Nat) × Unit))))) × Unit))))))))))), u⟩ := x
 simp only [bK, go_sem]
 replace h : sat (bP F s_0) _ := h
 unfold bP at h
 obtain ⟨v_7, hv, h⟩ := aJ h
 try simp only [hv, go_sem]
 refine ⟨fun hc => ?_, fun hc => ?_⟩
 ·replace h := iW zAB h
  exact aG hF [.tmp 2] rfl rfl rfl (aB h) (by simp only [aS, go_sem])
 ·replace h := iX zAB h
  refine eB hF (D := (List (List Nat))) (fun d => sat (tZ F s_0 d) Θ) [] (fun d => [(1, .ptr 0 []), (3, .own 1)]) (fun d => [.inr (.box 10 (.val (.pair (.i .i64) (.pair (.i .i64) (.pair (.i .i64) (.pair (.i .i64) (.pair .str (.pair .str (.pair .str (.pair .str (.pair (.sl (.pair .str (.pair (.sl (.pair .str (.pair (.pair .str (.pair .str .unit)) (.pair .expr .unit)))) (.pair (.sl (.pair .str (.pair (.pair .str (.pair .str .unit)) .unit))) (.pair (.sl .str) (.pair (.sl (.pair .str (.pair .expr .unit))) .unit)))))) (.pair (.sl (.pair .str (.pair .str (.pair .str (.pair .str .unit))))) .unit)))))))))) s_0)), .inr (.row 9 .str d)]) ?_ ?_
  ·simp only [go_sem]
   refine aBC 3 9 .str rfl ?_
   simp only [go_sem]
   refine bQ hF (D := Int × (List (List Nat))) [22, 23] (fun d => [(1, .ptr 0 []), (3, .own 1), (24, .val (.i .i64) d.1)]) (fun d => [.inr (.box 10 (.val (.pair (.i .i64) (.pair (.i .i64) (.pair (.i .i64) (.pair (.i .i64) (.pair .str (.pair .str (.pair .str (.pair .str (.pair (.sl (.pair .str (.pair (.sl (.pair .str (.pair (.pair .str (.pair .str .unit)) (.pair .expr .unit)))) (.pair (.sl (.pair .str (.pair (.pair .str (.pair .str .unit)) .unit))) (.pair (.sl .str) (.pair (.sl (.pair .str (.pair .expr .unit))) .unit)))))) (.pair (.sl (.pair .str (.pair .str (.pair .str (.pair .str .unit))))) .unit)))))))))) s_0)), .inr (.row 9 .str d.2)]) h rfl (by simp only [go_sem]) ?_
   rintro ⟨x24_23, names_24⟩ A5 T5 hA5 hE5 h
   simp only [go_sem]
   replace h : sat (zL F s_0 x24_23 names_24) _ := h
   unfold zL at h
   refine eG h (fun hc h => ?_) fun hc h => ?_
   ·obtain ⟨g0, h⟩ := aK h
    repeat (refine ⟨by omega, ?_⟩)
    obtain ⟨v_37, hv, h⟩ := aJ h
    try simp only [hv, go_sem]
    refine aAw h (fun hc h => ?_) fun hc h => ?_
    ·replace h := hE5 _ (aB h)
     try dsimp only at h
     exact aG hF [.tmp 2] rfl rfl rfl (aB h) (by simp only [aS, go_sem])
    ·obtain ⟨g0, h⟩ := aK h
     repeat (refine ⟨by omega, ?_⟩)
     obtain ⟨g0, h⟩ := aK h
     repeat (refine ⟨by omega, ?_⟩)
     replace h := hA5 _ (aB h)
     refine gL [0, 3] rfl rfl ?_
     simp only [go_sem]
     exact aQ _ h rfl (by simp only [go_sem])
   ·replace h := hE5 _ (aB h)
    try dsimp only at h
    exact aQ (names_24) h rfl (by simp only [go_sem])
  ·rintro names_16 h
   simp only [go_sem]
   replace h : sat (tZ F s_0 names_16) _ := h
   unfold tZ at h
   obtain ⟨v_20, hv, h⟩ := aJ h
   try simp only [hv, go_sem]
   obtain ⟨g0, h⟩ := aK h
   repeat (refine ⟨by omega, ?_⟩)
   exact aG hF [.tmp 2] rfl rfl rfl (aB h) (by simp only [aS, go_sem])
attribute [go_sem] pQ
end Nu
end Go.Proofs
namespace Go.Proofs
open Go.Vc
set_option maxRecDepth 20000
namespace Nu
attribute [-go_sem] Ex.kind Ex.text Ex.l
noncomputable def lP (F : Md) (a0_0 : (List ((List Nat) × (((List Nat) × ((List Nat) × Unit)) × Unit)))) (a1_1 : (List ((List Nat) × (((List Nat) × ((List Nat) × Unit)) × Unit)))) (x13_5 : Int) : Option ((Int) ⊕ ((Unit) ⊕ Bool)) :=
 if x13_5 < (((a0_0.length) : Nat) : Int) then ck (0 ≤ x13_5 ∧ x13_5 < (((a0_0.length) : Nat) : Int)) (ck (0 ≤ x13_5 ∧ x13_5 < (((a1_1.length) : Nat) : Int)) (if ¬ ((Ty.eqb (.pair .str (.pair (.pair .str (.pair .str .unit)) .unit)) (a0_0.getD (x13_5.toNat) ([], ([], [], ()), ())) (a1_1.getD (x13_5.toNat) ([], ([], [], ()), ()))) = true) then some (.inr (.inr false)) else ck (I64 (x13_5 + (1 : Int))) (some (.inl (x13_5 + (1 : Int)))))) else some (.inr (.inl ()))
noncomputable def fT (F : Md) (a0_0 : (List ((List Nat) × (((List Nat) × ((List Nat) × Unit)) × Unit)))) (a1_1 : (List ((List Nat) × (((List Nat) × ((List Nat) × Unit)) × Unit)))) : Option Bool :=
 if ¬ ((((a0_0.length) : Nat) : Int) = (((a1_1.length) : Nat) : Int)) then some false else (dF F (fun d : Int => lP F a0_0 a1_1 d) (0 : Int)).bind (fun e => match e with | (.inl e) => some true | (.inr e) => some e)
def sK : PlR := ⟨[(0, .A [0, 1]), (1, .A [0, 1, 10]), (2, .A [4]), (3, .A [0, 1, 12, 13]), (4, .A [0, 1, 12, 13, 14]), (5, .A [0, 1, 5, 12, 13]), (6, .A [0, 1, 12, 13, 24]), (7, .A [4]), (8, .A [0, 1, 12, 13]), (9, .A [4])], []⟩
def uA : Ty := .pair (.sl (.pair .str (.pair (.pair .str (.pair .str .unit)) .unit))) (.pair (.sl (.pair .str (.pair (.pair .str (.pair .str .unit)) .unit))) .unit)
noncomputable def jO (F : Md) : aH := mSpec uA (.one .bool) (fun x => fT F x.1 x.2.1)
noncomputable def aB3 (F : Md) : List (FuncId × aH) := []
theorem aB4 (F : Md) : bD Tryz.prog GL (aB3 F) := .nil
attribute [go_sem] uA sK
set_option maxHeartbeats 4000000 in
theorem aBe (F : Md) : FOK Tryz.prog GL 195 (jO F) := by
 refine bG (aY (aB4 F)) mix Tryz.func195 rfl (by kernel_rfl) (by decide) sK fun w0 S x Θ hw h hF => ?_
 obtain ⟨(a0_0 : (List ((List Nat) × (((List Nat) × ((List Nat) × Unit)) × Unit)))), (a1_1 : (List ((List Nat) × (((List Nat) × ((List Nat) × Unit)) × Unit)))), u⟩ := x
 simp only [bK, go_sem]
 replace h : sat (fT F a0_0 a1_1) _ := h
 unfold fT at h
 refine dT h (fun hc h => ?_) fun hc h => ?_
 ·exact aG hF [.tmp 4] rfl rfl rfl (aB h) (by simp only [aS, go_sem])
 ·refine bQ hF (D := Int) [0, 1, 12] (fun d => [(13, .val (.i .i64) d)]) (fun d => []) h rfl (by simp only [go_sem]) ?_
  rintro x13_5 A4 T4 hA4 hE4 h
  simp only [go_sem]
  replace h : sat (lP F a0_0 a1_1 x13_5) _ := h
  unfold lP at h
  refine eG h (fun hc h => ?_) fun hc h => ?_
  ·obtain ⟨g0, h⟩ := aK h
   obtain ⟨g1, h⟩ := aK h
   repeat (refine ⟨zAA, ?_⟩)
   refine ⟨fun hc => ?_, fun hc => ?_⟩
   ·replace h := iW zAB h
    replace h := hE4 _ (aB h)
    try dsimp only at h
    exact aG hF [.tmp 4] rfl rfl rfl (aB h) (by simp only [aS, go_sem])
   ·replace h := iX zAB h
    obtain ⟨g0, h⟩ := aK h
    try simp only [I64, I32] at g0
    repeat (refine ⟨zAA, ?_⟩)
    replace h := hA4 _ (aB h)
    exact aQ _ h rfl (by simp only [go_sem])
  ·replace h := hE4 _ (aB h)
   try dsimp only at h
   exact aG hF [.tmp 4] rfl rfl rfl (aB h) (by simp only [aS, go_sem])
attribute [go_sem] jO
noncomputable def mE (F : Md) (a0_0 : (List (List Nat))) (a1_1 : (List (List Nat))) (x13_5 : Int) : Option ((Int) ⊕ ((Unit) ⊕ Bool)) :=
 if x13_5 < (((a0_0.length) : Nat) : Int) then ck (0 ≤ x13_5 ∧ x13_5 < (((a0_0.length) : Nat) : Int)) (ck (0 ≤ x13_5 ∧ x13_5 < (((a1_1.length) : Nat) : Int)) (if ¬ ((a0_0.getD (x13_5.toNat) ([] : List Nat)) = (a1_1.getD (x13_5.toNat) ([] : List Nat))) then some (.inr (.inr false)) else ck (I64 (x13_5 + (1 : Int))) (some (.inl (x13_5 + (1 : Int)))))) else some (.inr (.inl ()))
noncomputable def iG (F : Md) (a0_0 : (List (List Nat))) (a1_1 : (List (List Nat))) : Option Bool :=
 if ¬ ((((a0_0.length) : Nat) : Int) = (((a1_1.length) : Nat) : Int)) then some false else (dF F (fun d : Int => mE F a0_0 a1_1 d) (0 : Int)).bind (fun e => match e with | (.inl e) => some true | (.inr e) => some e)
def uB : PlR := ⟨[(0, .A [0, 1]), (1, .A [0, 1, 10]), (2, .A [4]), (3, .A [0, 1, 12, 13]), (4, .A [0, 1, 12, 13, 14]), (5, .A [0, 1, 5, 12, 13]), (6, .A [0, 1, 12, 13, 24]), (7, .A [4]), (8, .A [0, 1, 12, 13]), (9, .A [4])], []⟩
def uP : Ty := .pair (.sl .str) (.pair (.sl .str) .unit)
noncomputable def kQ (F : Md) : aH := mSpec uP (.one .bool) (fun x => iG F x.1 x.2.1)
noncomputable def aCy (F : Md) : List (FuncId × aH) := []
theorem aCz (F : Md) : bD Tryz.prog GL (aCy F) := .nil
attribute [go_sem] uP uB
set_option maxHeartbeats 4000000 in
theorem aB5 (F : Md) : FOK Tryz.prog GL 196 (kQ F) := by
 refine bG (aY (aCz F)) mix Tryz.func196 rfl (by kernel_rfl) (by decide) uB fun w0 S x Θ hw h hF => ?_
 obtain ⟨(a0_0 : (List (List Nat))), (a1_1 : (List (List Nat))), u⟩ := x
 simp only [bK, go_sem]
 replace h : sat (iG F a0_0 a1_1) _ := h
 unfold iG at h
 refine dT h (fun hc h => ?_) fun hc h => ?_
 ·exact aG hF [.tmp 4] rfl rfl rfl (aB h) (by simp only [aS, go_sem])
 ·refine bQ hF (D := Int) [0, 1, 12] (fun d => [(13, .val (.i .i64) d)]) (fun d => []) h rfl (by simp only [go_sem]) ?_
  rintro x13_5 A4 T4 hA4 hE4 h
  simp only [go_sem]
  replace h : sat (mE F a0_0 a1_1 x13_5) _ := h
  unfold mE at h
  refine eG h (fun hc h => ?_) fun hc h => ?_
  ·refine aP h fun g0 h => aP h fun g1 h => ?_
   refine dT h (fun hc h => ?_) fun hc h => ?_
   ·replace h := hE4 _ (aB h)
    try dsimp only at h
    exact aG hF [.tmp 4] rfl rfl rfl (aB h) (by simp only [aS, go_sem])
   ·refine aP h fun g0 h => ?_
    replace h := hA4 _ (aB h)
    exact aQ _ h rfl (by simp only [go_sem])
  ·replace h := hE4 _ (aB h)
   try dsimp only at h
   exact aG hF [.tmp 4] rfl rfl rfl (aB h) (by simp only [aS, go_sem])
attribute [go_sem] kQ
noncomputable def lE (F : Md) (a0_0 : (List ((List Nat) × ((List Nat) × ((List Nat) × ((List Nat) × Unit)))))) (a1_1 : (List ((List Nat) × ((List Nat) × ((List Nat) × ((List Nat) × Unit)))))) (x13_5 : Int) : Option ((Int) ⊕ ((Unit) ⊕ Bool)) :=
 if x13_5 < (((a0_0.length) : Nat) : Int) then ck (0 ≤ x13_5 ∧ x13_5 < (((a0_0.length) : Nat) : Int)) (ck (0 ≤ x13_5 ∧ x13_5 < (((a1_1.length) : Nat) : Int)) (if ¬ ((Ty.eqb (.pair .str (.pair .str (.pair .str (.pair .str .unit)))) (a0_0.getD (x13_5.toNat) ([], [], [], [], ())) (a1_1.getD (x13_5.toNat) ([], [], [], [], ()))) = true) then some (.inr (.inr false)) else ck (I64 (x13_5 + (1 : Int))) (some (.inl (x13_5 + (1 : Int)))))) else some (.inr (.inl ()))
noncomputable def gR (F : Md) (a0_0 : (List ((List Nat) × ((List Nat) × ((List Nat) × ((List Nat) × Unit)))))) (a1_1 : (List ((List Nat) × ((List Nat) × ((List Nat) × ((List Nat) × Unit)))))) : Option Bool :=
 if ¬ ((((a0_0.length) : Nat) : Int) = (((a1_1.length) : Nat) : Int)) then some false else (dF F (fun d : Int => lE F a0_0 a1_1 d) (0 : Int)).bind (fun e => match e with | (.inl e) => some true | (.inr e) => some e)
def qX : PlR := ⟨[(0, .A [0, 1]), (1, .A [0, 1, 10]), (2, .A [4]), (3, .A [0, 1, 12, 13]), (4, .A [0, 1, 12, 13, 14]), (5, .A [0, 1, 5, 12, 13]), (6, .A [0, 1, 12, 13, 24]), (7, .A [4]), (8, .A [0, 1, 12, 13]), (9, .A [4])], []⟩
def sL : Ty := .pair (.sl (.pair .str (.pair .str (.pair .str (.pair .str .unit))))) (.pair (.sl (.pair .str (.pair .str (.pair .str (.pair .str .unit))))) .unit)
noncomputable def iT (F : Md) : aH := mSpec sL (.one .bool) (fun x => gR F x.1 x.2.1)
noncomputable def aBf (F : Md) : List (FuncId × aH) := []
theorem aBg (F : Md) : bD Tryz.prog GL (aBf F) := .nil
attribute [go_sem] sL qX
set_option maxHeartbeats 4000000 in
theorem aAK (F : Md) : FOK Tryz.prog GL 125 (iT F) := by
 refine bG (aY (aBg F)) mix Tryz.func125 rfl (by kernel_rfl) (by decide) qX fun w0 S x Θ hw h hF => ?_
 obtain ⟨(a0_0 : (List ((List Nat) × ((List Nat) × ((List Nat) × ((List Nat) × Unit)))))), (a1_1 : (List ((List Nat) × ((List Nat) × ((List Nat) × ((List Nat) × Unit)))))), u⟩ := x
 simp only [bK, go_sem]
 replace h : sat (gR F a0_0 a1_1) _ := h
 unfold gR at h
 refine dT h (fun hc h => ?_) fun hc h => ?_
 ·exact aG hF [.tmp 4] rfl rfl rfl (aB h) (by simp only [aS, go_sem])
 ·refine bQ hF (D := Int) [0, 1, 12] (fun d => [(13, .val (.i .i64) d)]) (fun d => []) h rfl (by simp only [go_sem]) ?_
  rintro x13_5 A4 T4 hA4 hE4 h
  simp only [go_sem]
  replace h : sat (lE F a0_0 a1_1 x13_5) _ := h
  unfold lE at h
  refine eG h (fun hc h => ?_) fun hc h => ?_
  ·obtain ⟨g0, h⟩ := aK h
   obtain ⟨g1, h⟩ := aK h
   repeat (refine ⟨zAA, ?_⟩)
   refine ⟨fun hc => ?_, fun hc => ?_⟩
   ·replace h := iW zAB h
    replace h := hE4 _ (aB h)
    try dsimp only at h
    exact aG hF [.tmp 4] rfl rfl rfl (aB h) (by simp only [aS, go_sem])
   ·replace h := iX zAB h
    obtain ⟨g0, h⟩ := aK h
    try simp only [I64, I32] at g0
    repeat (refine ⟨zAA, ?_⟩)
    replace h := hA4 _ (aB h)
    exact aQ _ h rfl (by simp only [go_sem])
  ·replace h := hE4 _ (aB h)
   try dsimp only at h
   exact aG hF [.tmp 4] rfl rfl rfl (aB h) (by simp only [aS, go_sem])
attribute [go_sem] iT
def pR : Ty := .pair .expr (.pair .expr .unit)
attribute [go_sem] pR
noncomputable def hN (g : Ex → Ex → Option (Bool)) : aH := mSpec pR (.one .bool) (fun x => g x.1 x.2.1)
attribute [go_sem] hN
noncomputable def bR (F : Md) (g : Ex → Ex → Option (Bool)) (a0_0 : (List Ex)) (a1_1 : (List Ex)) (x17_15 : Int) : Option ((Int) ⊕ ((Unit) ⊕ Bool)) :=
 if x17_15 < (((a0_0.length) : Nat) : Int) then ck (0 ≤ x17_15 ∧ x17_15 < (((a0_0.length) : Nat) : Int)) (ck (0 ≤ x17_15 ∧ x17_15 < (((a1_1.length) : Nat) : Int)) ((g (a0_0.getD (x17_15.toNat) (Ex.mk 0 [] [])) (a1_1.getD (x17_15.toNat) (Ex.mk 0 [] []))).bind (fun v_28 => if ¬ (v_28 = true) then some (.inr (.inr false)) else ck (I64 (x17_15 + (1 : Int))) (some (.inl (x17_15 + (1 : Int))))))) else some (.inr (.inl ()))
noncomputable def aW (F : Md) (g : Ex → Ex → Option (Bool)) (a0_0 : (List Ex)) (a1_1 : (List Ex)) (eq_2 : Unit) : Option Bool :=
 if ¬ ((((a0_0.length) : Nat) : Int) = (((a1_1.length) : Nat) : Int)) then some false else (dF F (fun d : Int => bR F g a0_0 a1_1 d) (0 : Int)).bind (fun e => match e with | (.inl e) => some true | (.inr e) => some e)
def cX : PlR := ⟨[(0, .A [0, 1, 2]), (1, .A [0, 1, 2, 14]), (2, .A [6]), (3, .A [1, 2, 15, 16, 17]), (4, .A [1, 2, 15, 16, 17, 18]), (5, .B [1, 2, 7, 8, 15, 16, 17]), (6, .B [1, 2, 8, 9, 15, 16, 17]), (7, .A [1, 2, 15, 16, 17, 30]), (8, .A [6]), (9, .A [1, 2, 15, 16, 17]), (10, .A [6])], []⟩
def cY : Ty := .pair (.sl .expr) (.pair (.sl .expr) (.pair (.clo 192 .unit) .unit))
noncomputable def bC (F : Md) (g : Ex → Ex → Option (Bool)) : aH := mSpec cY (.one .bool) (fun x => aW F g x.1 x.2.1 x.2.2.1)
noncomputable def cZ (F : Md) (g : Ex → Ex → Option (Bool)) : List (FuncId × aH) := [(192, (hN g))]
theorem fX (F : Md) (g : Ex → Ex → Option (Bool)) (hg : FOK Tryz.prog GL 192 (hN g)) : bD Tryz.prog GL (cZ F g) := .cons hg (by kernel_rfl) (.nil)
theorem fL (F : Md) (g : Ex → Ex → Option (Bool)) : gam (cZ F g) 192 = some (hN g) := rfl
attribute [go_sem] cY cX fL
set_option maxHeartbeats 4000000 in
theorem fV (F : Md) (g : Ex → Ex → Option (Bool)) (hg : FOK Tryz.prog GL 192 (hN g)) : FOK Tryz.prog GL 236 (bC F g) := by
 refine bG (aY (fX F g hg)) mix Tryz.func236 rfl (by kernel_rfl) (by decide) cX fun w0 S x Θ hw h hF => ?_
 obtain ⟨(a0_0 : (List Ex)), (a1_1 : (List Ex)), (eq_2 : Unit), u⟩ := x
 simp only [bK, go_sem]
 replace h : sat (aW F g a0_0 a1_1 eq_2) _ := h
 unfold aW at h
 refine dT h (fun hc h => ?_) fun hc h => ?_
 ·exact aG hF [.tmp 6] rfl rfl rfl (aB h) (by simp only [aS, go_sem])
 ·refine bQ hF (D := Int) [1, 2, 15, 16] (fun d => [(17, .val (.i .i64) d)]) (fun d => []) h rfl (by simp only [go_sem]) ?_
  rintro x17_15 A4 T4 hA4 hE4 h
  simp only [go_sem]
  replace h : sat (bR F g a0_0 a1_1 x17_15) _ := h
  unfold bR at h
  refine eG h (fun hc h => ?_) fun hc h => ?_
  ·refine aP h fun g0 h => ?_
   refine aP h fun g0 h => ?_
   obtain ⟨v_28, hv, h⟩ := aJ h
   try simp only [hv, go_sem]
   refine aAw h (fun hc h => ?_) fun hc h => ?_
   ·replace h := hE4 _ (aB h)
    try dsimp only at h
    exact aG hF [.tmp 6] rfl rfl rfl (aB h) (by simp only [aS, go_sem])
   ·refine aP h fun g0 h => ?_
    replace h := hA4 _ (aB h)
    refine gL [] rfl rfl ?_
    simp only [go_sem]
    exact aQ _ h rfl (by simp only [go_sem])
  ·replace h := hE4 _ (aB h)
   try dsimp only at h
   exact aG hF [.tmp 6] rfl rfl rfl (aB h) (by simp only [aS, go_sem])
attribute [go_sem] bC
noncomputable def nF (F : Md) (g : Ex → Ex → Option (Bool)) (a_0 : Ex) (b_1 : Ex) : Option Bool :=
 ck ((((a_0.kind) = (b_1.kind)) ∧ ((a_0.text) = (b_1.text))) → ((aW F g (a_0.l) (b_1.l) ()).isSome = true)) (some (((decide ((a_0.kind) = (b_1.kind))) && (decide ((a_0.text) = (b_1.text)))) && ((aW F g (a_0.l) (b_1.l) ()).getD false)))
def aAq : PlR := ⟨[(0, .B [2, 3]), (1, .A [4])], []⟩
noncomputable def aBh (F : Md) (g : Ex → Ex → Option (Bool)) : List (FuncId × aH) := [(236, (bC F g))]
theorem aG5 (F : Md) (g : Ex → Ex → Option (Bool)) (hg : FOK Tryz.prog GL 192 (hN g)) : bD Tryz.prog GL (aBh F g) := .cons (fV F g hg) (by kernel_rfl) (.nil)
theorem aDn (F : Md) (g : Ex → Ex → Option (Bool)) : gam (aBh F g) 236 = some (bC F g) := rfl
attribute [go_sem] aAq aDn
set_option maxHeartbeats 4000000 in
theorem aES (F : Md) (g : Ex → Ex → Option (Bool)) (hg : FOK Tryz.prog GL 192 (hN g)) : FOK Tryz.prog GL 192 (mSpec pR (.one .bool) (fun x => nF F g x.1 x.2.1)) := by
 refine bG (aY (aG5 F g hg)) mix Tryz.func192 rfl (by kernel_rfl) (by decide) aAq fun w0 S x Θ hw h hF => ?_
 obtain ⟨(a_0 : Ex), (b_1 : Ex), u⟩ := x
 simp only [bK, go_sem]
 replace h : sat (nF F g a_0 b_1) _ := h
 unfold nF at h
 refine aP h fun g0 h => ?_
 exact aG hF [.tmp 4] rfl rfl rfl (aB h) (by simp only [aS, go_sem])
noncomputable def kV (F : Md) : Nat → Ex → Ex → Option (Bool)
 | 0 => fun _ _ => none
 | n + 1 => nF F (kV F n)
noncomputable def jP (F : Md) (n : Nat) : aH := mSpec pR (.one .bool) (fun x => kV F n x.1 x.2.1)
theorem uC (F : Md) : ∀ n, FOK Tryz.prog GL 192 (jP F n)
 | 0 => fun _ _ _ _ _ _ _ hp => Bool.noConfusion (show false = true from hp)
 | n + 1 => aES F _ (uC F n)
attribute [go_sem] jP
end Nu
end Go.Proofs
namespace Go.Proofs
open Go.Vc
set_option maxRecDepth 20000
namespace Nu
attribute [-go_sem] Ex.kind Ex.text Ex.l
noncomputable def oI (F : Md) (x_0 : ((List Nat) × (((List Nat) × ((List Nat) × Unit)) × (Ex × Unit)))) (y_1 : ((List Nat) × (((List Nat) × ((List Nat) × Unit)) × (Ex × Unit)))) : Option Bool :=
 ck (((x_0.1 = y_1.1) ∧ ((Ty.eqb (.pair .str (.pair .str .unit)) x_0.2.1 y_1.2.1) = true)) → ((kV F 64 x_0.2.2.1 y_1.2.2.1).isSome = true)) (some (((decide (x_0.1 = y_1.1)) && (Ty.eqb (.pair .str (.pair .str .unit)) x_0.2.1 y_1.2.1)) && ((kV F 64 x_0.2.2.1 y_1.2.2.1).getD false)))
def oJ : Ty := .pair (.pair .str (.pair (.pair .str (.pair .str .unit)) (.pair .expr .unit))) (.pair (.pair .str (.pair (.pair .str (.pair .str .unit)) (.pair .expr .unit))) .unit)
attribute [go_sem] oJ
noncomputable def nG (F : Md) : aH := mSpec oJ (.one .bool) (fun x => oI F x.1 x.2.1)
noncomputable def uD (F : Md) : List (FuncId × aH) := [(192, (jP F 64))]
theorem aAr (F : Md) : bD Tryz.prog GL (uD F) := .cons (uC F 64) (by kernel_rfl) (.nil)
theorem aCA (F : Md) : gam (uD F) 192 = some (jP F 64) := rfl
attribute [go_sem] aCA
set_option maxHeartbeats 4000000 in
theorem aET (F : Md) : FOK Tryz.prog GL 191 (nG F) := by
 refine lR (aY (aAr F)) Tryz.func191 rfl (by kernel_rfl) (by decide) fun w0 S x r hw h => ?_
 have hF : jS (fr Tryz.prog (EM (uD F)) S w0 Tryz.f191.ntmps) := ⟨aY (aAr F), mix⟩
 obtain ⟨(x_0 : ((List Nat) × (((List Nat) × ((List Nat) × Unit)) × (Ex × Unit)))), (y_1 : ((List Nat) × (((List Nat) × ((List Nat) × Unit)) × (Ex × Unit)))), u⟩ := x
 simp only [oJ, Ty.wf, mZ] at hw
 simp only [bK, oJ]
 try dsimp only at h
 replace h : oI F x_0 y_1 = some r := h
 unfold oI at h
 refine aC (aX hF [2, 3] ?_)
 simp only [go_sem]
 refine aD (aC (aE hF [4] ?_))
 simp only [go_sem]
 obtain ⟨g0, h⟩ := aI h
 repeat (refine ⟨zAD, ?_⟩)
 obtain rfl := Option.some.inj h
 refine aD (dE (fD hF [.tmp 4] rfl rfl rfl ?_))
 exact zAG
attribute [go_sem] nG
noncomputable def bO (F : Md) (a0_0 : (List ((List Nat) × (((List Nat) × ((List Nat) × Unit)) × (Ex × Unit))))) (a1_1 : (List ((List Nat) × (((List Nat) × ((List Nat) × Unit)) × (Ex × Unit))))) (x17_15 : Int) : Option ((Int) ⊕ ((Unit) ⊕ Bool)) :=
 if x17_15 < (((a0_0.length) : Nat) : Int) then ck (0 ≤ x17_15 ∧ x17_15 < (((a0_0.length) : Nat) : Int)) (ck (0 ≤ x17_15 ∧ x17_15 < (((a1_1.length) : Nat) : Int)) ((oI F (a0_0.getD (x17_15.toNat) ([], ([], [], ()), (Ex.mk 0 [] []), ())) (a1_1.getD (x17_15.toNat) ([], ([], [], ()), (Ex.mk 0 [] []), ()))).bind (fun v_28 => if ¬ (v_28 = true) then some (.inr (.inr false)) else ck (I64 (x17_15 + (1 : Int))) (some (.inl (x17_15 + (1 : Int))))))) else some (.inr (.inl ()))
noncomputable def bA (F : Md) (a0_0 : (List ((List Nat) × (((List Nat) × ((List Nat) × Unit)) × (Ex × Unit))))) (a1_1 : (List ((List Nat) × (((List Nat) × ((List Nat) × Unit)) × (Ex × Unit))))) (eq_2 : Unit) : Option Bool :=
 if ¬ ((((a0_0.length) : Nat) : Int) = (((a1_1.length) : Nat) : Int)) then some false else (dF F (fun d : Int => bO F a0_0 a1_1 d) (0 : Int)).bind (fun e => match e with | (.inl e) => some true | (.inr e) => some e)
def cT : PlR := ⟨[(0, .A [0, 1, 2]), (1, .A [0, 1, 2, 14]), (2, .A [6]), (3, .A [1, 2, 15, 16, 17]), (4, .A [1, 2, 15, 16, 17, 18]), (5, .B [1, 2, 7, 8, 15, 16, 17]), (6, .B [1, 2, 8, 9, 15, 16, 17]), (7, .A [1, 2, 15, 16, 17, 30]), (8, .A [6]), (9, .A [1, 2, 15, 16, 17]), (10, .A [6])], []⟩
def cU : Ty := .pair (.sl (.pair .str (.pair (.pair .str (.pair .str .unit)) (.pair .expr .unit)))) (.pair (.sl (.pair .str (.pair (.pair .str (.pair .str .unit)) (.pair .expr .unit)))) (.pair (.clo 191 .unit) .unit))
noncomputable def aZ (F : Md) : aH := mSpec cU (.one .bool) (fun x => bA F x.1 x.2.1 x.2.2.1)
noncomputable def cV (F : Md) : List (FuncId × aH) := [(191, (nG F))]
theorem fJ (F : Md) : bD Tryz.prog GL (cV F) := .cons (aET F) (by kernel_rfl) (.nil)
theorem eN (F : Md) : gam (cV F) 191 = some (nG F) := rfl
attribute [go_sem] cU cT eN
set_option maxHeartbeats 4000000 in
theorem fB (F : Md) : FOK Tryz.prog GL 190 (aZ F) := by
 refine bG (aY (fJ F)) mix Tryz.func190 rfl (by kernel_rfl) (by decide) cT fun w0 S x Θ hw h hF => ?_
 obtain ⟨(a0_0 : (List ((List Nat) × (((List Nat) × ((List Nat) × Unit)) × (Ex × Unit))))), (a1_1 : (List ((List Nat) × (((List Nat) × ((List Nat) × Unit)) × (Ex × Unit))))), (eq_2 : Unit), u⟩ := x
 simp only [bK, go_sem]
 replace h : sat (bA F a0_0 a1_1 eq_2) _ := h
 unfold bA at h
 refine dT h (fun hc h => ?_) fun hc h => ?_
 ·exact aG hF [.tmp 6] rfl rfl rfl (aB h) (by simp only [aS, go_sem])
 ·refine bQ hF (D := Int) [1, 2, 15, 16] (fun d => [(17, .val (.i .i64) d)]) (fun d => []) h rfl (by simp only [go_sem]) ?_
  rintro x17_15 A4 T4 hA4 hE4 h
  simp only [go_sem]
  replace h : sat (bO F a0_0 a1_1 x17_15) _ := h
  unfold bO at h
  refine eG h (fun hc h => ?_) fun hc h => ?_
  ·refine aP h fun g0 h => ?_
   refine aP h fun g0 h => ?_
   obtain ⟨v_28, hv, h⟩ := aJ h
   try simp only [hv, go_sem]
   refine aAw h (fun hc h => ?_) fun hc h => ?_
   ·replace h := hE4 _ (aB h)
    try dsimp only at h
    exact aG hF [.tmp 6] rfl rfl rfl (aB h) (by simp only [aS, go_sem])
   ·refine aP h fun g0 h => ?_
    replace h := hA4 _ (aB h)
    refine gL [] rfl rfl ?_
    simp only [go_sem]
    exact aQ _ h rfl (by simp only [go_sem])
  ·replace h := hE4 _ (aB h)
   try dsimp only at h
   exact aG hF [.tmp 6] rfl rfl rfl (aB h) (by simp only [aS, go_sem])
attribute [go_sem] aZ
noncomputable def oK (F : Md) (x_0 : ((List Nat) × (Ex × Unit))) (y_1 : ((List Nat) × (Ex × Unit))) : Option Bool :=
 ck ((x_0.1 = y_1.1) → ((kV F 64 x_0.2.1 y_1.2.1).isSome = true)) (some ((decide (x_0.1 = y_1.1)) && ((kV F 64 x_0.2.1 y_1.2.1).getD false)))
def zM : PlR := ⟨[(0, .B [2, 3]), (1, .A [4])], []⟩
def aAs : Ty := .pair (.pair .str (.pair .expr .unit)) (.pair (.pair .str (.pair .expr .unit)) .unit)
noncomputable def nH (F : Md) : aH := mSpec aAs (.one .bool) (fun x => oK F x.1 x.2.1)
noncomputable def aAt (F : Md) : List (FuncId × aH) := [(192, (jP F 64))]
theorem aGf (F : Md) : bD Tryz.prog GL (aAt F) := .cons (uC F 64) (by kernel_rfl) (.nil)
theorem aCB (F : Md) : gam (aAt F) 192 = some (jP F 64) := rfl
attribute [go_sem] aAs zM aCB
set_option maxHeartbeats 4000000 in
theorem aEU (F : Md) : FOK Tryz.prog GL 194 (nH F) := by
 refine bG (aY (aGf F)) mix Tryz.func194 rfl (by kernel_rfl) (by decide) zM fun w0 S x Θ hw h hF => ?_
 obtain ⟨(x_0 : ((List Nat) × (Ex × Unit))), (y_1 : ((List Nat) × (Ex × Unit))), u⟩ := x
 simp only [bK, go_sem]
 replace h : sat (oK F x_0 y_1) _ := h
 unfold oK at h
 refine aP h fun g0 h => ?_
 exact aG hF [.tmp 4] rfl rfl rfl (aB h) (by simp only [aS, go_sem])
attribute [go_sem] nH
noncomputable def bU (F : Md) (a0_0 : (List ((List Nat) × (Ex × Unit)))) (a1_1 : (List ((List Nat) × (Ex × Unit)))) (x17_15 : Int) : Option ((Int) ⊕ ((Unit) ⊕ Bool)) :=
 if x17_15 < (((a0_0.length) : Nat) : Int) then ck (0 ≤ x17_15 ∧ x17_15 < (((a0_0.length) : Nat) : Int)) (ck (0 ≤ x17_15 ∧ x17_15 < (((a1_1.length) : Nat) : Int)) ((oK F (a0_0.getD (x17_15.toNat) ([], (Ex.mk 0 [] []), ())) (a1_1.getD (x17_15.toNat) ([], (Ex.mk 0 [] []), ()))).bind (fun v_28 => if ¬ (v_28 = true) then some (.inr (.inr false)) else ck (I64 (x17_15 + (1 : Int))) (some (.inl (x17_15 + (1 : Int))))))) else some (.inr (.inl ()))
noncomputable def bI (F : Md) (a0_0 : (List ((List Nat) × (Ex × Unit)))) (a1_1 : (List ((List Nat) × (Ex × Unit)))) (eq_2 : Unit) : Option Bool :=
 if ¬ ((((a0_0.length) : Nat) : Int) = (((a1_1.length) : Nat) : Int)) then some false else (dF F (fun d : Int => bU F a0_0 a1_1 d) (0 : Int)).bind (fun e => match e with | (.inl e) => some true | (.inr e) => some e)
def dG : PlR := ⟨[(0, .A [0, 1, 2]), (1, .A [0, 1, 2, 14]), (2, .A [6]), (3, .A [1, 2, 15, 16, 17]), (4, .A [1, 2, 15, 16, 17, 18]), (5, .B [1, 2, 7, 8, 15, 16, 17]), (6, .B [1, 2, 8, 9, 15, 16, 17]), (7, .A [1, 2, 15, 16, 17, 30]), (8, .A [6]), (9, .A [1, 2, 15, 16, 17]), (10, .A [6])], []⟩
def dH : Ty := .pair (.sl (.pair .str (.pair .expr .unit))) (.pair (.sl (.pair .str (.pair .expr .unit))) (.pair (.clo 194 .unit) .unit))
noncomputable def bE (F : Md) : aH := mSpec dH (.one .bool) (fun x => bI F x.1 x.2.1 x.2.2.1)
noncomputable def dI (F : Md) : List (FuncId × aH) := [(194, (nH F))]
theorem gN (F : Md) : bD Tryz.prog GL (dI F) := .cons (aEU F) (by kernel_rfl) (.nil)
theorem fW (F : Md) : gam (dI F) 194 = some (nH F) := rfl
attribute [go_sem] dH dG fW
set_option maxHeartbeats 4000000 in
theorem gI (F : Md) : FOK Tryz.prog GL 193 (bE F) := by
 refine bG (aY (gN F)) mix Tryz.func193 rfl (by kernel_rfl) (by decide) dG fun w0 S x Θ hw h hF => ?_
 obtain ⟨(a0_0 : (List ((List Nat) × (Ex × Unit)))), (a1_1 : (List ((List Nat) × (Ex × Unit)))), (eq_2 : Unit), u⟩ := x
 simp only [bK, go_sem]
 replace h : sat (bI F a0_0 a1_1 eq_2) _ := h
 unfold bI at h
 refine dT h (fun hc h => ?_) fun hc h => ?_
 ·exact aG hF [.tmp 6] rfl rfl rfl (aB h) (by simp only [aS, go_sem])
 ·refine bQ hF (D := Int) [1, 2, 15, 16] (fun d => [(17, .val (.i .i64) d)]) (fun d => []) h rfl (by simp only [go_sem]) ?_
  rintro x17_15 A4 T4 hA4 hE4 h
  simp only [go_sem]
  replace h : sat (bU F a0_0 a1_1 x17_15) _ := h
  unfold bU at h
  refine eG h (fun hc h => ?_) fun hc h => ?_
  ·refine aP h fun g0 h => ?_
   refine aP h fun g0 h => ?_
   obtain ⟨v_28, hv, h⟩ := aJ h
   try simp only [hv, go_sem]
   refine aAw h (fun hc h => ?_) fun hc h => ?_
   ·replace h := hE4 _ (aB h)
    try dsimp only at h
    exact aG hF [.tmp 6] rfl rfl rfl (aB h) (by simp only [aS, go_sem])
   ·refine aP h fun g0 h => ?_
    replace h := hA4 _ (aB h)
    refine gL [] rfl rfl ?_
    simp only [go_sem]
    exact aQ _ h rfl (by simp only [go_sem])
  ·replace h := hE4 _ (aB h)
   try dsimp only at h
   exact aG hF [.tmp 6] rfl rfl rfl (aB h) (by simp only [aS, go_sem])
attribute [go_sem] bE
noncomputable def rM (F : Md) (a_0 : ((List Nat) × ((List ((List Nat) × (((List Nat) × ((List Nat) × Unit)) × (Ex × Unit)))) × ((List ((List Nat) × (((List Nat) × ((List Nat) × Unit)) × Unit))) × ((List (List Nat)) × ((List ((List Nat) × (Ex × Unit))) × Unit)))))) (b_1 : ((List Nat) × ((List ((List Nat) × (((List Nat) × ((List Nat) × Unit)) × (Ex × Unit)))) × ((List ((List Nat) × (((List Nat) × ((List Nat) × Unit)) × Unit))) × ((List (List Nat)) × ((List ((List Nat) × (Ex × Unit))) × Unit)))))) : Option Bool :=
 (bA F a_0.2.1 b_1.2.1 ()).bind (fun v_6 => (bI F a_0.2.2.2.2.1 b_1.2.2.2.2.1 ()).bind (fun v_10 => ck ((((v_6 = true) ∧ (v_10 = true)) ∧ (a_0.1 = b_1.1)) → ((fT F a_0.2.2.1 b_1.2.2.1).isSome = true)) (ck (((((v_6 = true) ∧ (v_10 = true)) ∧ (a_0.1 = b_1.1)) ∧ (((fT F a_0.2.2.1 b_1.2.2.1).getD false) = true)) → ((iG F a_0.2.2.2.1 b_1.2.2.2.1).isSome = true)) (some ((((v_6 && v_10) && (decide (a_0.1 = b_1.1))) && ((fT F a_0.2.2.1 b_1.2.2.1).getD false)) && ((iG F a_0.2.2.2.1 b_1.2.2.2.1).getD false))))))
def aBi : PlR := ⟨[(0, .B [2, 3]), (1, .A [2, 3, 5]), (2, .A [2, 3, 5, 6]), (3, .A [4])], []⟩
def aCp : Ty := .pair (.pair .str (.pair (.sl (.pair .str (.pair (.pair .str (.pair .str .unit)) (.pair .expr .unit)))) (.pair (.sl (.pair .str (.pair (.pair .str (.pair .str .unit)) .unit))) (.pair (.sl .str) (.pair (.sl (.pair .str (.pair .expr .unit))) .unit))))) (.pair (.pair .str (.pair (.sl (.pair .str (.pair (.pair .str (.pair .str .unit)) (.pair .expr .unit)))) (.pair (.sl (.pair .str (.pair (.pair .str (.pair .str .unit)) .unit))) (.pair (.sl .str) (.pair (.sl (.pair .str (.pair .expr .unit))) .unit))))) .unit)
noncomputable def pS (F : Md) : aH := mSpec aCp (.one .bool) (fun x => rM F x.1 x.2.1)
noncomputable def nR (F : Md) : List (FuncId × aH) := [(190, (aZ F)), (193, (bE F)), (195, (jO F)), (196, (kQ F))]
theorem aIC (F : Md) : bD Tryz.prog GL (nR F) := .cons (fB F) (by kernel_rfl) (.cons (gI F) (by kernel_rfl) (.cons (aBe F) (by kernel_rfl) (.cons (aB5 F) (by kernel_rfl) (.nil))))
theorem aDK (F : Md) : gam (nR F) 190 = some (aZ F) := rfl
theorem aDL (F : Md) : gam (nR F) 193 = some (bE F) := rfl
theorem aDM (F : Md) : gam (nR F) 195 = some (jO F) := rfl
theorem aDN (F : Md) : gam (nR F) 196 = some (kQ F) := rfl
attribute [go_sem] aCp aBi aDK aDL aDM aDN
set_option maxHeartbeats 4000000 in
theorem aG6 (F : Md) : FOK Tryz.prog GL 124 (pS F) := by
 refine bG (aY (aIC F)) mix Tryz.func124 rfl (by kernel_rfl) (by decide) aBi fun w0 S x Θ hw h hF => ?_
 obtain ⟨(a_0 : ((List Nat) × ((List ((List Nat) × (((List Nat) × ((List Nat) × Unit)) × (Ex × Unit)))) × ((List ((List Nat) × (((List Nat) × ((List Nat) × Unit)) × Unit))) × ((List (List Nat)) × ((List ((List Nat) × (Ex × Unit))) × Unit)))))), (b_1 : ((List Nat) × ((List ((List Nat) × (((List Nat) × ((List Nat) × Unit)) × (Ex × Unit)))) × ((List ((List Nat) × (((List Nat) × ((List Nat) × Unit)) × Unit))) × ((List (List Nat)) × ((List ((List Nat) × (Ex × Unit))) × Unit)))))), u⟩ := x
 simp only [bK, go_sem]
 replace h : sat (rM F a_0 b_1) _ := h
 unfold rM at h
 obtain ⟨v_6, hv, h⟩ := aJ h
 try simp only [hv, go_sem]
 obtain ⟨v_10, hv, h⟩ := aJ h
 try simp only [hv, go_sem]
 refine aP h fun g0 h => aP h fun g1 h => ?_
 exact aG hF [.tmp 4] rfl rfl rfl (aB h) (by simp only [aS, go_sem])
attribute [go_sem] pS
noncomputable def bW (F : Md) (a0_0 : (List ((List Nat) × ((List ((List Nat) × (((List Nat) × ((List Nat) × Unit)) × (Ex × Unit)))) × ((List ((List Nat) × (((List Nat) × ((List Nat) × Unit)) × Unit))) × ((List (List Nat)) × ((List ((List Nat) × (Ex × Unit))) × Unit))))))) (a1_1 : (List ((List Nat) × ((List ((List Nat) × (((List Nat) × ((List Nat) × Unit)) × (Ex × Unit)))) × ((List ((List Nat) × (((List Nat) × ((List Nat) × Unit)) × Unit))) × ((List (List Nat)) × ((List ((List Nat) × (Ex × Unit))) × Unit))))))) (x17_15 : Int) : Option ((Int) ⊕ ((Unit) ⊕ Bool)) :=
 if x17_15 < (((a0_0.length) : Nat) : Int) then ck (0 ≤ x17_15 ∧ x17_15 < (((a0_0.length) : Nat) : Int)) (ck (0 ≤ x17_15 ∧ x17_15 < (((a1_1.length) : Nat) : Int)) ((rM F (a0_0.getD (x17_15.toNat) ([], [], [], [], [], ())) (a1_1.getD (x17_15.toNat) ([], [], [], [], [], ()))).bind (fun v_28 => if ¬ (v_28 = true) then some (.inr (.inr false)) else ck (I64 (x17_15 + (1 : Int))) (some (.inl (x17_15 + (1 : Int))))))) else some (.inr (.inl ()))
noncomputable def aT (F : Md) (a0_0 : (List ((List Nat) × ((List ((List Nat) × (((List Nat) × ((List Nat) × Unit)) × (Ex × Unit)))) × ((List ((List Nat) × (((List Nat) × ((List Nat) × Unit)) × Unit))) × ((List (List Nat)) × ((List ((List Nat) × (Ex × Unit))) × Unit))))))) (a1_1 : (List ((List Nat) × ((List ((List Nat) × (((List Nat) × ((List Nat) × Unit)) × (Ex × Unit)))) × ((List ((List Nat) × (((List Nat) × ((List Nat) × Unit)) × Unit))) × ((List (List Nat)) × ((List ((List Nat) × (Ex × Unit))) × Unit))))))) (eq_2 : Unit) : Option Bool :=
 if ¬ ((((a0_0.length) : Nat) : Int) = (((a1_1.length) : Nat) : Int)) then some false else (dF F (fun d : Int => bW F a0_0 a1_1 d) (0 : Int)).bind (fun e => match e with | (.inl e) => some true | (.inr e) => some e)
def dK : PlR := ⟨[(0, .A [0, 1, 2]), (1, .A [0, 1, 2, 14]), (2, .A [6]), (3, .A [1, 2, 15, 16, 17]), (4, .A [1, 2, 15, 16, 17, 18]), (5, .B [1, 2, 7, 8, 15, 16, 17]), (6, .B [1, 2, 8, 9, 15, 16, 17]), (7, .A [1, 2, 15, 16, 17, 30]), (8, .A [6]), (9, .A [1, 2, 15, 16, 17]), (10, .A [6])], []⟩
def dM : Ty := .pair (.sl (.pair .str (.pair (.sl (.pair .str (.pair (.pair .str (.pair .str .unit)) (.pair .expr .unit)))) (.pair (.sl (.pair .str (.pair (.pair .str (.pair .str .unit)) .unit))) (.pair (.sl .str) (.pair (.sl (.pair .str (.pair .expr .unit))) .unit)))))) (.pair (.sl (.pair .str (.pair (.sl (.pair .str (.pair (.pair .str (.pair .str .unit)) (.pair .expr .unit)))) (.pair (.sl (.pair .str (.pair (.pair .str (.pair .str .unit)) .unit))) (.pair (.sl .str) (.pair (.sl (.pair .str (.pair .expr .unit))) .unit)))))) (.pair (.clo 124 .unit) .unit))
noncomputable def bJ (F : Md) : aH := mSpec dM (.one .bool) (fun x => aT F x.1 x.2.1 x.2.2.1)
noncomputable def dN (F : Md) : List (FuncId × aH) := [(124, (pS F))]
theorem gU (F : Md) : bD Tryz.prog GL (dN F) := .cons (aG6 F) (by kernel_rfl) (.nil)
theorem gD (F : Md) : gam (dN F) 124 = some (pS F) := rfl
attribute [go_sem] dM dK gD
set_option maxHeartbeats 4000000 in
theorem gS (F : Md) : FOK Tryz.prog GL 123 (bJ F) := by
 refine bG (aY (gU F)) mix Tryz.func123 rfl (by kernel_rfl) (by decide) dK fun w0 S x Θ hw h hF => ?_
 obtain ⟨(a0_0 : (List ((List Nat) × ((List ((List Nat) × (((List Nat) × ((List Nat) × Unit)) × (Ex × Unit)))) × ((List ((List Nat) × (((List Nat) × ((List Nat) × Unit)) × Unit))) × ((List (List Nat)) × ((List ((List Nat) × (Ex × Unit))) × Unit))))))), (a1_1 : (List ((List Nat) × ((List ((List Nat) × (((List Nat) × ((List Nat) × Unit)) × (Ex × Unit)))) × ((List ((List Nat) × (((List Nat) × ((List Nat) × Unit)) × Unit))) × ((List (List Nat)) × ((List ((List Nat) × (Ex × Unit))) × Unit))))))), (eq_2 : Unit), u⟩ := x
 simp only [bK, go_sem]
 replace h : sat (aT F a0_0 a1_1 eq_2) _ := h
 unfold aT at h
 refine dT h (fun hc h => ?_) fun hc h => ?_
 ·exact aG hF [.tmp 6] rfl rfl rfl (aB h) (by simp only [aS, go_sem])
 ·refine bQ hF (D := Int) [1, 2, 15, 16] (fun d => [(17, .val (.i .i64) d)]) (fun d => []) h rfl (by simp only [go_sem]) ?_
  rintro x17_15 A4 T4 hA4 hE4 h
  simp only [go_sem]
  replace h : sat (bW F a0_0 a1_1 x17_15) _ := h
  unfold bW at h
  refine eG h (fun hc h => ?_) fun hc h => ?_
  ·refine aP h fun g0 h => ?_
   refine aP h fun g0 h => ?_
   obtain ⟨v_28, hv, h⟩ := aJ h
   try simp only [hv, go_sem]
   refine aAw h (fun hc h => ?_) fun hc h => ?_
   ·replace h := hE4 _ (aB h)
    try dsimp only at h
    exact aG hF [.tmp 6] rfl rfl rfl (aB h) (by simp only [aS, go_sem])
   ·refine aP h fun g0 h => ?_
    replace h := hA4 _ (aB h)
    refine gL [] rfl rfl ?_
    simp only [go_sem]
    exact aQ _ h rfl (by simp only [go_sem])
  ·replace h := hE4 _ (aB h)
   try dsimp only at h
   exact aG hF [.tmp 6] rfl rfl rfl (aB h) (by simp only [aS, go_sem])
attribute [go_sem] bJ
noncomputable def eY (F : Md) (a_0 : (Int × (Int × (Int × (Int × ((List Nat) × ((List Nat) × ((List Nat) × ((List Nat) × ((List ((List Nat) × ((List ((List Nat) × (((List Nat) × ((List Nat) × Unit)) × (Ex × Unit)))) × ((List ((List Nat) × (((List Nat) × ((List Nat) × Unit)) × Unit))) × ((List (List Nat)) × ((List ((List Nat) × (Ex × Unit))) × Unit)))))) × ((List ((List Nat) × ((List Nat) × ((List Nat) × ((List Nat) × Unit))))) × Unit))))))))))) (b_1 : (Int × (Int × (Int × (Int × ((List Nat) × ((List Nat) × ((List Nat) × ((List Nat) × ((List ((List Nat) × ((List ((List Nat) × (((List Nat) × ((List Nat) × Unit)) × (Ex × Unit)))) × ((List ((List Nat) × (((List Nat) × ((List Nat) × Unit)) × Unit))) × ((List (List Nat)) × ((List ((List Nat) × (Ex × Unit))) × Unit)))))) × ((List ((List Nat) × ((List Nat) × ((List Nat) × ((List Nat) × Unit))))) × Unit))))))))))) : Option Bool :=
 ck (((((((((a_0.1 = b_1.1) ∧ (a_0.2.1 = b_1.2.1)) ∧ (a_0.2.2.1 = b_1.2.2.1)) ∧ (a_0.2.2.2.1 = b_1.2.2.2.1)) ∧ (a_0.2.2.2.2.1 = b_1.2.2.2.2.1)) ∧ (a_0.2.2.2.2.2.1 = b_1.2.2.2.2.2.1)) ∧ (a_0.2.2.2.2.2.2.1 = b_1.2.2.2.2.2.2.1)) ∧ (a_0.2.2.2.2.2.2.2.1 = b_1.2.2.2.2.2.2.2.1)) → ((aT F a_0.2.2.2.2.2.2.2.2.1 b_1.2.2.2.2.2.2.2.2.1 ()).isSome = true)) (ck ((((((((((a_0.1 = b_1.1) ∧ (a_0.2.1 = b_1.2.1)) ∧ (a_0.2.2.1 = b_1.2.2.1)) ∧ (a_0.2.2.2.1 = b_1.2.2.2.1)) ∧ (a_0.2.2.2.2.1 = b_1.2.2.2.2.1)) ∧ (a_0.2.2.2.2.2.1 = b_1.2.2.2.2.2.1)) ∧ (a_0.2.2.2.2.2.2.1 = b_1.2.2.2.2.2.2.1)) ∧ (a_0.2.2.2.2.2.2.2.1 = b_1.2.2.2.2.2.2.2.1)) ∧ (((aT F a_0.2.2.2.2.2.2.2.2.1 b_1.2.2.2.2.2.2.2.2.1 ()).getD false) = true)) → ((gR F a_0.2.2.2.2.2.2.2.2.2.1 b_1.2.2.2.2.2.2.2.2.2.1).isSome = true)) (some ((((((((((decide (a_0.1 = b_1.1)) && (decide (a_0.2.1 = b_1.2.1))) && (decide (a_0.2.2.1 = b_1.2.2.1))) && (decide (a_0.2.2.2.1 = b_1.2.2.2.1))) && (decide (a_0.2.2.2.2.1 = b_1.2.2.2.2.1))) && (decide (a_0.2.2.2.2.2.1 = b_1.2.2.2.2.2.1))) && (decide (a_0.2.2.2.2.2.2.1 = b_1.2.2.2.2.2.2.1))) && (decide (a_0.2.2.2.2.2.2.2.1 = b_1.2.2.2.2.2.2.2.1))) && ((aT F a_0.2.2.2.2.2.2.2.2.1 b_1.2.2.2.2.2.2.2.2.1 ()).getD false)) && ((gR F a_0.2.2.2.2.2.2.2.2.2.1 b_1.2.2.2.2.2.2.2.2.2.1).getD false))))
def aEg : PlR := ⟨[(0, .B [2, 3]), (1, .A [2, 3, 5]), (2, .A [4])], []⟩
def aGg : Ty := .pair (.pair (.i .i64) (.pair (.i .i64) (.pair (.i .i64) (.pair (.i .i64) (.pair .str (.pair .str (.pair .str (.pair .str (.pair (.sl (.pair .str (.pair (.sl (.pair .str (.pair (.pair .str (.pair .str .unit)) (.pair .expr .unit)))) (.pair (.sl (.pair .str (.pair (.pair .str (.pair .str .unit)) .unit))) (.pair (.sl .str) (.pair (.sl (.pair .str (.pair .expr .unit))) .unit)))))) (.pair (.sl (.pair .str (.pair .str (.pair .str (.pair .str .unit))))) .unit)))))))))) (.pair (.pair (.i .i64) (.pair (.i .i64) (.pair (.i .i64) (.pair (.i .i64) (.pair .str (.pair .str (.pair .str (.pair .str (.pair (.sl (.pair .str (.pair (.sl (.pair .str (.pair (.pair .str (.pair .str .unit)) (.pair .expr .unit)))) (.pair (.sl (.pair .str (.pair (.pair .str (.pair .str .unit)) .unit))) (.pair (.sl .str) (.pair (.sl (.pair .str (.pair .expr .unit))) .unit)))))) (.pair (.sl (.pair .str (.pair .str (.pair .str (.pair .str .unit))))) .unit)))))))))) .unit)
noncomputable def vQ (F : Md) : aH := mSpec aGg (.one .bool) (fun x => eY F x.1 x.2.1)
noncomputable def aB6 (F : Md) : List (FuncId × aH) := [(123, (bJ F)), (125, (iT F))]
theorem aMf (F : Md) : bD Tryz.prog GL (aB6 F) := .cons (gS F) (by kernel_rfl) (.cons (aAK F) (by kernel_rfl) (.nil))
theorem aG7 (F : Md) : gam (aB6 F) 123 = some (bJ F) := rfl
theorem aG8 (F : Md) : gam (aB6 F) 125 = some (iT F) := rfl
attribute [go_sem] aGg aEg aG7 aG8
set_option maxHeartbeats 4000000 in
theorem aKU (F : Md) : FOK Tryz.prog GL 61 (vQ F) := by
 refine bG (aY (aMf F)) mix Tryz.func61 rfl (by kernel_rfl) (by decide) aEg fun w0 S x Θ hw h hF => ?_
 obtain ⟨(a_0 : (Int × (Int × (Int × (Int × ((List Nat) × ((List Nat) × ((List Nat) × ((List Nat) × ((List ((List Nat) × ((List ((List Nat) × (((List Nat) × ((List Nat) × Unit)) × (Ex × Unit)))) × ((List ((List Nat) × (((List Nat) × ((List Nat) × Unit)) × Unit))) × ((List (List Nat)) × ((List ((List Nat) × (Ex × Unit))) × Unit)))))) × ((List ((List Nat) × ((List Nat) × ((List Nat) × ((List Nat) × Unit))))) × Unit))))))))))), (b_1 : (Int × (Int × (Int × (Int × ((List Nat) × ((List Nat) × ((List Nat) × ((List Nat) × ((List ((List Nat) × ((List ((List Nat) × (((List Nat) × ((List Nat) × Unit)) × (Ex × Unit)))) × ((List ((List Nat) × (((List Nat) × ((List Nat) × Unit)) × Unit))) × ((List (List Nat)) × ((List ((List Nat) × (Ex × Unit))) × Unit)))))) × ((List ((List Nat) × ((List Nat) × ((List Nat) × ((List Nat) × Unit))))) × Unit))))))))))), u⟩ := x
 simp only [bK, go_sem]
 replace h : sat (eY F a_0 b_1) _ := h
 unfold eY at h
 refine aP h fun g0 h => aP h fun g1 h => ?_
 exact aG hF [.tmp 4] rfl rfl rfl (aB h) (by simp only [aS, go_sem])
attribute [go_sem] vQ
end Nu
end Go.Proofs
namespace Go.Proofs
open Go.Vc
set_option maxRecDepth 20000
namespace Nu
attribute [-go_sem] Ex.kind Ex.text Ex.l
noncomputable def cL (F : Md) : Option (Int × (Int × (Int × (Int × ((List Nat) × ((List Nat) × ((List Nat) × ((List Nat) × ((List ((List Nat) × ((List ((List Nat) × (((List Nat) × ((List Nat) × Unit)) × (Ex × Unit)))) × ((List ((List Nat) × (((List Nat) × ((List Nat) × Unit)) × Unit))) × ((List (List Nat)) × ((List ((List Nat) × (Ex × Unit))) × Unit)))))) × ((List ((List Nat) × ((List Nat) × ((List Nat) × ((List Nat) × Unit))))) × Unit)))))))))) :=
 some ((40 : Int), (4 : Int), (0 : Int), (1 : Int), (aA ⟨#[49]⟩), (aA ⟨#[48, 46, 53]⟩), (aA ⟨#[48, 46, 49, 50, 53]⟩), (aA ⟨#[49]⟩), ([((aA ⟨#[97]⟩), ([((aA ⟨#[120]⟩), ((aA ⟨#[49]⟩), ([] : List Nat), ()), (Ex.mk (2 : Int) (aA ⟨#[120]⟩) ([] : List Ex)), ())] : List ((List Nat) × (((List Nat) × ((List Nat) × Unit)) × (Ex × Unit)))), ([] : List ((List Nat) × (((List Nat) × ((List Nat) × Unit)) × Unit))), ([] : List (List Nat)), ([((aA ⟨#[121]⟩), (Ex.mk (2 : Int) (aA ⟨#[120]⟩) ([] : List Ex)), ())] : List ((List Nat) × (Ex × Unit))), ())] : List ((List Nat) × ((List ((List Nat) × (((List Nat) × ((List Nat) × Unit)) × (Ex × Unit)))) × ((List ((List Nat) × (((List Nat) × ((List Nat) × Unit)) × Unit))) × ((List (List Nat)) × ((List ((List Nat) × (Ex × Unit))) × Unit)))))), ([] : List ((List Nat) × ((List Nat) × ((List Nat) × ((List Nat) × Unit))))), ())
def aDo : PlR := ⟨[(0, .B [0]), (1, .B [0, 1]), (2, .B [0])], []⟩
def aEh : Ty := .unit
noncomputable def mU (F : Md) : aH := mSpec aEh (.one (.pair (.i .i64) (.pair (.i .i64) (.pair (.i .i64) (.pair (.i .i64) (.pair .str (.pair .str (.pair .str (.pair .str (.pair (.sl (.pair .str (.pair (.sl (.pair .str (.pair (.pair .str (.pair .str .unit)) (.pair .expr .unit)))) (.pair (.sl (.pair .str (.pair (.pair .str (.pair .str .unit)) .unit))) (.pair (.sl .str) (.pair (.sl (.pair .str (.pair .expr .unit))) .unit)))))) (.pair (.sl (.pair .str (.pair .str (.pair .str (.pair .str .unit))))) .unit))))))))))) (fun x => cL F )
noncomputable def aKV (F : Md) : List (FuncId × aH) := []
theorem aKW (F : Md) : bD Tryz.prog GL (aKV F) := .nil
attribute [go_sem] aEh aDo
set_option maxHeartbeats 4000000 in
theorem aDp (F : Md) : FOK Tryz.prog GL 27 (mU F) := by
 refine bG (aY (aKW F)) mix Tryz.func27 rfl (by kernel_rfl) (by decide) aDo fun w0 S x Θ hw h hF => ?_
 simp only [bK, go_sem]
 replace h : sat (cL F) _ := h
 unfold cL at h
 exact aG hF [.cell 0 54] rfl rfl rfl (aB h) (by simp only [aS, go_sem])
attribute [go_sem] mU
noncomputable def iK (F : Md) : Option (Int × (Int × (Int × (Int × ((List Nat) × ((List Nat) × ((List Nat) × ((List Nat) × ((List ((List Nat) × ((List ((List Nat) × (((List Nat) × ((List Nat) × Unit)) × (Ex × Unit)))) × ((List ((List Nat) × (((List Nat) × ((List Nat) × Unit)) × Unit))) × ((List (List Nat)) × ((List ((List Nat) × (Ex × Unit))) × Unit)))))) × ((List ((List Nat) × ((List Nat) × ((List Nat) × ((List Nat) × Unit))))) × Unit)))))))))) :=
 some ((40 : Int), (4 : Int), (0 : Int), (1 : Int), (aA ⟨#[49]⟩), (aA ⟨#[48, 46, 53]⟩), (aA ⟨#[48, 46, 49, 50, 53]⟩), (aA ⟨#[49]⟩), ([((aA ⟨#[97]⟩), ([((aA ⟨#[120]⟩), ((aA ⟨#[49]⟩), ([] : List Nat), ()), (Ex.mk (2 : Int) (aA ⟨#[120]⟩) ([] : List Ex)), ())] : List ((List Nat) × (((List Nat) × ((List Nat) × Unit)) × (Ex × Unit)))), ([] : List ((List Nat) × (((List Nat) × ((List Nat) × Unit)) × Unit))), ([] : List (List Nat)), ([((aA ⟨#[121]⟩), (Ex.mk (2 : Int) (aA ⟨#[120]⟩) ([] : List Ex)), ())] : List ((List Nat) × (Ex × Unit))), ())] : List ((List Nat) × ((List ((List Nat) × (((List Nat) × ((List Nat) × Unit)) × (Ex × Unit)))) × ((List ((List Nat) × (((List Nat) × ((List Nat) × Unit)) × Unit))) × ((List (List Nat)) × ((List ((List Nat) × (Ex × Unit))) × Unit)))))), ([] : List ((List Nat) × ((List Nat) × ((List Nat) × ((List Nat) × Unit))))), ())
noncomputable def hP (F : Md) : oD where
 D := (Int × (Int × (Int × (Int × ((List Nat) × ((List Nat) × ((List Nat) × ((List Nat) × ((List ((List Nat) × ((List ((List Nat) × (((List Nat) × ((List Nat) × Unit)) × (Ex × Unit)))) × ((List ((List Nat) × (((List Nat) × ((List Nat) × Unit)) × Unit))) × ((List (List Nat)) × ((List ((List Nat) × (Ex × Unit))) × Unit)))))) × ((List ((List Nat) × ((List Nat) × ((List Nat) × ((List Nat) × Unit))))) × Unit))))))))))
 av := fun d => []
 hp := fun d => []
 m := 0
 pre := fun d => iK F = some d
 out := fun d => (fun r : (Int × (Int × (Int × (Int × ((List Nat) × ((List Nat) × ((List Nat) × ((List Nat) × ((List ((List Nat) × ((List ((List Nat) × (((List Nat) × ((List Nat) × Unit)) × (Ex × Unit)))) × ((List ((List Nat) × (((List Nat) × ((List Nat) × Unit)) × Unit))) × ((List (List Nat)) × ((List ((List Nat) × (Ex × Unit))) × Unit)))))) × ((List ((List Nat) × ((List Nat) × ((List Nat) × ((List Nat) × Unit))))) × Unit)))))))))) => .ret (.agg [.val (.i .i64) r.1, .val (.i .i64) r.2.1, .val (.i .i64) r.2.2.1, .val (.i .i64) r.2.2.2.1, .val .str r.2.2.2.2.1, .val .str r.2.2.2.2.2.1, .val .str r.2.2.2.2.2.2.1, .val .str r.2.2.2.2.2.2.2.1, .own 0, .own 1]) [.tre 60 (.pair .no (.pair (.sl 64 .no) (.pair (.sl 71 .no) (.pair (.sl 9 .no) (.pair (.sl 73 .no) .no))))) (.pair .str (.pair (.sl (.pair .str (.pair (.pair .str (.pair .str .unit)) (.pair .expr .unit)))) (.pair (.sl (.pair .str (.pair (.pair .str (.pair .str .unit)) .unit))) (.pair (.sl .str) (.pair (.sl (.pair .str (.pair .expr .unit))) .unit))))) r.2.2.2.2.2.2.2.2.1, .row 68 (.pair .str (.pair .str (.pair .str (.pair .str .unit)))) r.2.2.2.2.2.2.2.2.2.1]) d
noncomputable def zN (F : Md) : List (FuncId × aH) := []
theorem zO (F : Md) : bD Tryz.prog GL (zN F) := .nil
set_option maxHeartbeats 4000000 in
theorem qE (F : Md) : GOK Tryz.prog GL 27 (hP F) := by
 refine yR (aLp (zO F)) Tryz.func27 rfl (by kernel_rfl) (fun _ => Nat.le_of_ble_eq_true rfl) fun c0 w0 r hw1 hw2 h hn => ?_
 have hF : jS ⟨Tryz.prog, EX (zN F), GM (hP F) c0 r, w0, Tryz.f27.ntmps, []⟩ := ⟨aLp (zO F), mix⟩
 replace h : iK F = some r := h
 have hw1 : AV.wfL [] := hw1
 simp only [AV.wfL, AV.wfV, Ty.wf, mZ] at hw1
 show Tri _ _ _ [] []
 unfold iK at h
 refine aC (aX hF [0] ?_)
 simp only [go_sem]
 repeat (refine ⟨zAA, ?_⟩)
 refine aD (aC (aX hF [0, 1] ?_))
 simp only [go_sem]
 repeat (refine ⟨zAA, ?_⟩)
 refine aD (aC (aX hF [0] ?_))
 simp only [go_sem]
 repeat (refine ⟨zAA, ?_⟩)
 obtain rfl := Option.some.inj h
 refine aD (dE (aPh 0 9 68 .no (.pair .str (.pair .str (.pair .str (.pair .str .unit)))) rfl rfl rfl ?_))
 simp only [go_sem]
 refine aQE hF [.cell 0 54] [4, 5] (.agg [.val (.i .i64) (40 : Int), .val (.i .i64) (4 : Int), .val (.i .i64) (0 : Int), .val (.i .i64) (1 : Int), .val .str (aA ⟨#[49]⟩), .val .str (aA ⟨#[48, 46, 53]⟩), .val .str (aA ⟨#[48, 46, 49, 50, 53]⟩), .val .str (aA ⟨#[49]⟩), .own 4, .own 5]) rfl rfl rfl rfl rfl rfl rfl ?_ ?_
 ·(simp only [aS, go_sem]) <;> first | trivial | rfl | (simp; done)
 ·first | rfl | (simp only [aS, go_sem]; done)
attribute [go_sem] hP
end Nu
end Go.Proofs
namespace Go.Proofs
open Go.Vc
set_option maxRecDepth 20000
namespace Nu
attribute [-go_sem] Ex.kind Ex.text Ex.l
noncomputable def pT (F : Md) : Option Bool :=
 (iK F).bind (fun r_3 => (iK F).bind (fun r_5 => ck ((0 : Nat) < (r_5.2.2.2.2.2.2.2.2.1.length)) (ck ((0 : Int) < (((r_5.2.2.2.2.2.2.2.2.1.length) : Nat) : Int)) (ck ((0 : Int) < (((r_5.2.2.2.2.2.2.2.2.1.getD (0 : Nat) ([], [], [], [], [], ())).2.1.length : Nat) : Int)) (ck ((aU F (aA ⟨#[120, 95, 49]⟩)).isSome = true) (ck ((((aU F (aA ⟨#[120, 95, 49]⟩)).getD false) = true) → ((aU F (aA ⟨#[116]⟩)).isSome = true)) (ck (((((aU F (aA ⟨#[120, 95, 49]⟩)).getD false) = true) ∧ (¬ (((aU F (aA ⟨#[116]⟩)).getD false) = true))) → ((aU F (aA ⟨#[]⟩)).isSome = true)) (ck ((((((aU F (aA ⟨#[120, 95, 49]⟩)).getD false) = true) ∧ (¬ (((aU F (aA ⟨#[116]⟩)).getD false) = true))) ∧ (¬ (((aU F (aA ⟨#[]⟩)).getD false) = true))) → ((bP F (r_3.1, r_3.2.1, r_3.2.2.1, r_3.2.2.2.1, r_3.2.2.2.2.1, r_3.2.2.2.2.2.1, r_3.2.2.2.2.2.2.1, r_3.2.2.2.2.2.2.2.1, r_3.2.2.2.2.2.2.2.2.1, r_3.2.2.2.2.2.2.2.2.2.1, ())).isSome = true)) (ck (((((((aU F (aA ⟨#[120, 95, 49]⟩)).getD false) = true) ∧ (¬ (((aU F (aA ⟨#[116]⟩)).getD false) = true))) ∧ (¬ (((aU F (aA ⟨#[]⟩)).getD false) = true))) ∧ (((bP F (r_3.1, r_3.2.1, r_3.2.2.1, r_3.2.2.2.1, r_3.2.2.2.2.1, r_3.2.2.2.2.2.1, r_3.2.2.2.2.2.2.1, r_3.2.2.2.2.2.2.2.1, r_3.2.2.2.2.2.2.2.2.1, r_3.2.2.2.2.2.2.2.2.2.1, ())).getD false) = true)) → ((bP F (r_5.1, r_5.2.1, r_5.2.2.1, r_5.2.2.2.1, r_5.2.2.2.2.1, r_5.2.2.2.2.2.1, r_5.2.2.2.2.2.2.1, r_5.2.2.2.2.2.2.2.1, (r_5.2.2.2.2.2.2.2.2.1.set (0 : Nat) ((r_5.2.2.2.2.2.2.2.2.1.getD (0 : Nat) ([], [], [], [], [], ())).1, ((r_5.2.2.2.2.2.2.2.2.1.getD (0 : Nat) ([], [], [], [], [], ())).2.1.set (0 : Nat) (((r_5.2.2.2.2.2.2.2.2.1.getD (0 : Nat) ([], [], [], [], [], ())).2.1.getD (0 : Nat) ([], ([], [], ()), (Ex.mk 0 [] []), ())).1, ((r_5.2.2.2.2.2.2.2.2.1.getD (0 : Nat) ([], [], [], [], [], ())).2.1.getD (0 : Nat) ([], ([], [], ()), (Ex.mk 0 [] []), ())).2.1, (Ex.mk ((r_5.2.2.2.2.2.2.2.2.1.getD (0 : Nat) ([], [], [], [], [], ())).2.1.getD (0 : Nat) ([], ([], [], ()), (Ex.mk 0 [] []), ())).2.2.1.kind (aA ⟨#[122]⟩) ((r_5.2.2.2.2.2.2.2.2.1.getD (0 : Nat) ([], [], [], [], [], ())).2.1.getD (0 : Nat) ([], ([], [], ()), (Ex.mk 0 [] []), ())).2.2.1.l), ())), (r_5.2.2.2.2.2.2.2.2.1.getD (0 : Nat) ([], [], [], [], [], ())).2.2.1, (r_5.2.2.2.2.2.2.2.2.1.getD (0 : Nat) ([], [], [], [], [], ())).2.2.2.1, (r_5.2.2.2.2.2.2.2.2.1.getD (0 : Nat) ([], [], [], [], [], ())).2.2.2.2.1, ())), r_5.2.2.2.2.2.2.2.2.2.1, ())).isSome = true)) (ck ((((((((aU F (aA ⟨#[120, 95, 49]⟩)).getD false) = true) ∧ (¬ (((aU F (aA ⟨#[116]⟩)).getD false) = true))) ∧ (¬ (((aU F (aA ⟨#[]⟩)).getD false) = true))) ∧ (((bP F (r_3.1, r_3.2.1, r_3.2.2.1, r_3.2.2.2.1, r_3.2.2.2.2.1, r_3.2.2.2.2.2.1, r_3.2.2.2.2.2.2.1, r_3.2.2.2.2.2.2.2.1, r_3.2.2.2.2.2.2.2.2.1, r_3.2.2.2.2.2.2.2.2.2.1, ())).getD false) = true)) ∧ (¬ (((bP F (r_5.1, r_5.2.1, r_5.2.2.1, r_5.2.2.2.1, r_5.2.2.2.2.1, r_5.2.2.2.2.2.1, r_5.2.2.2.2.2.2.1, r_5.2.2.2.2.2.2.2.1, (r_5.2.2.2.2.2.2.2.2.1.set (0 : Nat) ((r_5.2.2.2.2.2.2.2.2.1.getD (0 : Nat) ([], [], [], [], [], ())).1, ((r_5.2.2.2.2.2.2.2.2.1.getD (0 : Nat) ([], [], [], [], [], ())).2.1.set (0 : Nat) (((r_5.2.2.2.2.2.2.2.2.1.getD (0 : Nat) ([], [], [], [], [], ())).2.1.getD (0 : Nat) ([], ([], [], ()), (Ex.mk 0 [] []), ())).1, ((r_5.2.2.2.2.2.2.2.2.1.getD (0 : Nat) ([], [], [], [], [], ())).2.1.getD (0 : Nat) ([], ([], [], ()), (Ex.mk 0 [] []), ())).2.1, (Ex.mk ((r_5.2.2.2.2.2.2.2.2.1.getD (0 : Nat) ([], [], [], [], [], ())).2.1.getD (0 : Nat) ([], ([], [], ()), (Ex.mk 0 [] []), ())).2.2.1.kind (aA ⟨#[122]⟩) ((r_5.2.2.2.2.2.2.2.2.1.getD (0 : Nat) ([], [], [], [], [], ())).2.1.getD (0 : Nat) ([], ([], [], ()), (Ex.mk 0 [] []), ())).2.2.1.l), ())), (r_5.2.2.2.2.2.2.2.2.1.getD (0 : Nat) ([], [], [], [], [], ())).2.2.1, (r_5.2.2.2.2.2.2.2.2.1.getD (0 : Nat) ([], [], [], [], [], ())).2.2.2.1, (r_5.2.2.2.2.2.2.2.2.1.getD (0 : Nat) ([], [], [], [], [], ())).2.2.2.2.1, ())), r_5.2.2.2.2.2.2.2.2.2.1, ())).getD false) = true))) → ((bP F ((0 : Int), (0 : Int), (0 : Int), (0 : Int), ([] : List Nat), ([] : List Nat), ([] : List Nat), ([] : List Nat), ([] : List ((List Nat) × ((List ((List Nat) × (((List Nat) × ((List Nat) × Unit)) × (Ex × Unit)))) × ((List ((List Nat) × (((List Nat) × ((List Nat) × Unit)) × Unit))) × ((List (List Nat)) × ((List ((List Nat) × (Ex × Unit))) × Unit)))))), ([] : List ((List Nat) × ((List Nat) × ((List Nat) × ((List Nat) × Unit))))), ())).isSome = true)) (ck (((((((((aU F (aA ⟨#[120, 95, 49]⟩)).getD false) = true) ∧ (¬ (((aU F (aA ⟨#[116]⟩)).getD false) = true))) ∧ (¬ (((aU F (aA ⟨#[]⟩)).getD false) = true))) ∧ (((bP F (r_3.1, r_3.2.1, r_3.2.2.1, r_3.2.2.2.1, r_3.2.2.2.2.1, r_3.2.2.2.2.2.1, r_3.2.2.2.2.2.2.1, r_3.2.2.2.2.2.2.2.1, r_3.2.2.2.2.2.2.2.2.1, r_3.2.2.2.2.2.2.2.2.2.1, ())).getD false) = true)) ∧ (¬ (((bP F (r_5.1, r_5.2.1, r_5.2.2.1, r_5.2.2.2.1, r_5.2.2.2.2.1, r_5.2.2.2.2.2.1, r_5.2.2.2.2.2.2.1, r_5.2.2.2.2.2.2.2.1, (r_5.2.2.2.2.2.2.2.2.1.set (0 : Nat) ((r_5.2.2.2.2.2.2.2.2.1.getD (0 : Nat) ([], [], [], [], [], ())).1, ((r_5.2.2.2.2.2.2.2.2.1.getD (0 : Nat) ([], [], [], [], [], ())).2.1.set (0 : Nat) (((r_5.2.2.2.2.2.2.2.2.1.getD (0 : Nat) ([], [], [], [], [], ())).2.1.getD (0 : Nat) ([], ([], [], ()), (Ex.mk 0 [] []), ())).1, ((r_5.2.2.2.2.2.2.2.2.1.getD (0 : Nat) ([], [], [], [], [], ())).2.1.getD (0 : Nat) ([], ([], [], ()), (Ex.mk 0 [] []), ())).2.1, (Ex.mk ((r_5.2.2.2.2.2.2.2.2.1.getD (0 : Nat) ([], [], [], [], [], ())).2.1.getD (0 : Nat) ([], ([], [], ()), (Ex.mk 0 [] []), ())).2.2.1.kind (aA ⟨#[122]⟩) ((r_5.2.2.2.2.2.2.2.2.1.getD (0 : Nat) ([], [], [], [], [], ())).2.1.getD (0 : Nat) ([], ([], [], ()), (Ex.mk 0 [] []), ())).2.2.1.l), ())), (r_5.2.2.2.2.2.2.2.2.1.getD (0 : Nat) ([], [], [], [], [], ())).2.2.1, (r_5.2.2.2.2.2.2.2.2.1.getD (0 : Nat) ([], [], [], [], [], ())).2.2.2.1, (r_5.2.2.2.2.2.2.2.2.1.getD (0 : Nat) ([], [], [], [], [], ())).2.2.2.2.1, ())), r_5.2.2.2.2.2.2.2.2.2.1, ())).getD false) = true))) ∧ (¬ (((bP F ((0 : Int), (0 : Int), (0 : Int), (0 : Int), ([] : List Nat), ([] : List Nat), ([] : List Nat), ([] : List Nat), ([] : List ((List Nat) × ((List ((List Nat) × (((List Nat) × ((List Nat) × Unit)) × (Ex × Unit)))) × ((List ((List Nat) × (((List Nat) × ((List Nat) × Unit)) × Unit))) × ((List (List Nat)) × ((List ((List Nat) × (Ex × Unit))) × Unit)))))), ([] : List ((List Nat) × ((List Nat) × ((List Nat) × ((List Nat) × Unit))))), ())).getD false) = true))) → ((cL F).isSome = true)) (ck (((((((((aU F (aA ⟨#[120, 95, 49]⟩)).getD false) = true) ∧ (¬ (((aU F (aA ⟨#[116]⟩)).getD false) = true))) ∧ (¬ (((aU F (aA ⟨#[]⟩)).getD false) = true))) ∧ (((bP F (r_3.1, r_3.2.1, r_3.2.2.1, r_3.2.2.2.1, r_3.2.2.2.2.1, r_3.2.2.2.2.2.1, r_3.2.2.2.2.2.2.1, r_3.2.2.2.2.2.2.2.1, r_3.2.2.2.2.2.2.2.2.1, r_3.2.2.2.2.2.2.2.2.2.1, ())).getD false) = true)) ∧ (¬ (((bP F (r_5.1, r_5.2.1, r_5.2.2.1, r_5.2.2.2.1, r_5.2.2.2.2.1, r_5.2.2.2.2.2.1, r_5.2.2.2.2.2.2.1, r_5.2.2.2.2.2.2.2.1, (r_5.2.2.2.2.2.2.2.2.1.set (0 : Nat) ((r_5.2.2.2.2.2.2.2.2.1.getD (0 : Nat) ([], [], [], [], [], ())).1, ((r_5.2.2.2.2.2.2.2.2.1.getD (0 : Nat) ([], [], [], [], [], ())).2.1.set (0 : Nat) (((r_5.2.2.2.2.2.2.2.2.1.getD (0 : Nat) ([], [], [], [], [], ())).2.1.getD (0 : Nat) ([], ([], [], ()), (Ex.mk 0 [] []), ())).1, ((r_5.2.2.2.2.2.2.2.2.1.getD (0 : Nat) ([], [], [], [], [], ())).2.1.getD (0 : Nat) ([], ([], [], ()), (Ex.mk 0 [] []), ())).2.1, (Ex.mk ((r_5.2.2.2.2.2.2.2.2.1.getD (0 : Nat) ([], [], [], [], [], ())).2.1.getD (0 : Nat) ([], ([], [], ()), (Ex.mk 0 [] []), ())).2.2.1.kind (aA ⟨#[122]⟩) ((r_5.2.2.2.2.2.2.2.2.1.getD (0 : Nat) ([], [], [], [], [], ())).2.1.getD (0 : Nat) ([], ([], [], ()), (Ex.mk 0 [] []), ())).2.2.1.l), ())), (r_5.2.2.2.2.2.2.2.2.1.getD (0 : Nat) ([], [], [], [], [], ())).2.2.1, (r_5.2.2.2.2.2.2.2.2.1.getD (0 : Nat) ([], [], [], [], [], ())).2.2.2.1, (r_5.2.2.2.2.2.2.2.2.1.getD (0 : Nat) ([], [], [], [], [], ())).2.2.2.2.1, ())), r_5.2.2.2.2.2.2.2.2.2.1, ())).getD false) = true))) ∧ (¬ (((bP F ((0 : Int), (0 : Int), (0 : Int), (0 : Int), ([] : List Nat), ([] : List Nat), ([] : List Nat), ([] : List Nat), ([] : List ((List Nat) × ((List ((List Nat) × (((List Nat) × ((List Nat) × Unit)) × (Ex × Unit)))) × ((List ((List Nat) × (((List Nat) × ((List Nat) × Unit)) × Unit))) × ((List (List Nat)) × ((List ((List Nat) × (Ex × Unit))) × Unit)))))), ([] : List ((List Nat) × ((List Nat) × ((List Nat) × ((List Nat) × Unit))))), ())).getD false) = true))) → ((eY F (r_3.1, r_3.2.1, r_3.2.2.1, r_3.2.2.2.1, r_3.2.2.2.2.1, r_3.2.2.2.2.2.1, r_3.2.2.2.2.2.2.1, r_3.2.2.2.2.2.2.2.1, r_3.2.2.2.2.2.2.2.2.1, r_3.2.2.2.2.2.2.2.2.2.1, ()) ((cL F).getD ((0 : Int), (0 : Int), (0 : Int), (0 : Int), ([] : List Nat), ([] : List Nat), ([] : List Nat), ([] : List Nat), ([] : List ((List Nat) × ((List ((List Nat) × (((List Nat) × ((List Nat) × Unit)) × (Ex × Unit)))) × ((List ((List Nat) × (((List Nat) × ((List Nat) × Unit)) × Unit))) × ((List (List Nat)) × ((List ((List Nat) × (Ex × Unit))) × Unit)))))), ([] : List ((List Nat) × ((List Nat) × ((List Nat) × ((List Nat) × Unit))))), ()))).isSome = true)) (ck ((((((((((aU F (aA ⟨#[120, 95, 49]⟩)).getD false) = true) ∧ (¬ (((aU F (aA ⟨#[116]⟩)).getD false) = true))) ∧ (¬ (((aU F (aA ⟨#[]⟩)).getD false) = true))) ∧ (((bP F (r_3.1, r_3.2.1, r_3.2.2.1, r_3.2.2.2.1, r_3.2.2.2.2.1, r_3.2.2.2.2.2.1, r_3.2.2.2.2.2.2.1, r_3.2.2.2.2.2.2.2.1, r_3.2.2.2.2.2.2.2.2.1, r_3.2.2.2.2.2.2.2.2.2.1, ())).getD false) = true)) ∧ (¬ (((bP F (r_5.1, r_5.2.1, r_5.2.2.1, r_5.2.2.2.1, r_5.2.2.2.2.1, r_5.2.2.2.2.2.1, r_5.2.2.2.2.2.2.1, r_5.2.2.2.2.2.2.2.1, (r_5.2.2.2.2.2.2.2.2.1.set (0 : Nat) ((r_5.2.2.2.2.2.2.2.2.1.getD (0 : Nat) ([], [], [], [], [], ())).1, ((r_5.2.2.2.2.2.2.2.2.1.getD (0 : Nat) ([], [], [], [], [], ())).2.1.set (0 : Nat) (((r_5.2.2.2.2.2.2.2.2.1.getD (0 : Nat) ([], [], [], [], [], ())).2.1.getD (0 : Nat) ([], ([], [], ()), (Ex.mk 0 [] []), ())).1, ((r_5.2.2.2.2.2.2.2.2.1.getD (0 : Nat) ([], [], [], [], [], ())).2.1.getD (0 : Nat) ([], ([], [], ()), (Ex.mk 0 [] []), ())).2.1, (Ex.mk ((r_5.2.2.2.2.2.2.2.2.1.getD (0 : Nat) ([], [], [], [], [], ())).2.1.getD (0 : Nat) ([], ([], [], ()), (Ex.mk 0 [] []), ())).2.2.1.kind (aA ⟨#[122]⟩) ((r_5.2.2.2.2.2.2.2.2.1.getD (0 : Nat) ([], [], [], [], [], ())).2.1.getD (0 : Nat) ([], ([], [], ()), (Ex.mk 0 [] []), ())).2.2.1.l), ())), (r_5.2.2.2.2.2.2.2.2.1.getD (0 : Nat) ([], [], [], [], [], ())).2.2.1, (r_5.2.2.2.2.2.2.2.2.1.getD (0 : Nat) ([], [], [], [], [], ())).2.2.2.1, (r_5.2.2.2.2.2.2.2.2.1.getD (0 : Nat) ([], [], [], [], [], ())).2.2.2.2.1, ())), r_5.2.2.2.2.2.2.2.2.2.1, ())).getD false) = true))) ∧ (¬ (((bP F ((0 : Int), (0 : Int), (0 : Int), (0 : Int), ([] : List Nat), ([] : List Nat), ([] : List Nat), ([] : List Nat), ([] : List ((List Nat) × ((List ((List Nat) × (((List Nat) × ((List Nat) × Unit)) × (Ex × Unit)))) × ((List ((List Nat) × (((List Nat) × ((List Nat) × Unit)) × Unit))) × ((List (List Nat)) × ((List ((List Nat) × (Ex × Unit))) × Unit)))))), ([] : List ((List Nat) × ((List Nat) × ((List Nat) × ((List Nat) × Unit))))), ())).getD false) = true))) ∧ (((eY F (r_3.1, r_3.2.1, r_3.2.2.1, r_3.2.2.2.1, r_3.2.2.2.2.1, r_3.2.2.2.2.2.1, r_3.2.2.2.2.2.2.1, r_3.2.2.2.2.2.2.2.1, r_3.2.2.2.2.2.2.2.2.1, r_3.2.2.2.2.2.2.2.2.2.1, ()) ((cL F).getD ((0 : Int), (0 : Int), (0 : Int), (0 : Int), ([] : List Nat), ([] : List Nat), ([] : List Nat), ([] : List Nat), ([] : List ((List Nat) × ((List ((List Nat) × (((List Nat) × ((List Nat) × Unit)) × (Ex × Unit)))) × ((List ((List Nat) × (((List Nat) × ((List Nat) × Unit)) × Unit))) × ((List (List Nat)) × ((List ((List Nat) × (Ex × Unit))) × Unit)))))), ([] : List ((List Nat) × ((List Nat) × ((List Nat) × ((List Nat) × Unit))))), ()))).getD false) = true)) → ((eY F (r_3.1, r_3.2.1, r_3.2.2.1, r_3.2.2.2.1, r_3.2.2.2.2.1, r_3.2.2.2.2.2.1, r_3.2.2.2.2.2.2.1, r_3.2.2.2.2.2.2.2.1, r_3.2.2.2.2.2.2.2.2.1, r_3.2.2.2.2.2.2.2.2.2.1, ()) (r_5.1, r_5.2.1, r_5.2.2.1, r_5.2.2.2.1, r_5.2.2.2.2.1, r_5.2.2.2.2.2.1, r_5.2.2.2.2.2.2.1, r_5.2.2.2.2.2.2.2.1, (r_5.2.2.2.2.2.2.2.2.1.set (0 : Nat) ((r_5.2.2.2.2.2.2.2.2.1.getD (0 : Nat) ([], [], [], [], [], ())).1, ((r_5.2.2.2.2.2.2.2.2.1.getD (0 : Nat) ([], [], [], [], [], ())).2.1.set (0 : Nat) (((r_5.2.2.2.2.2.2.2.2.1.getD (0 : Nat) ([], [], [], [], [], ())).2.1.getD (0 : Nat) ([], ([], [], ()), (Ex.mk 0 [] []), ())).1, ((r_5.2.2.2.2.2.2.2.2.1.getD (0 : Nat) ([], [], [], [], [], ())).2.1.getD (0 : Nat) ([], ([], [], ()), (Ex.mk 0 [] []), ())).2.1, (Ex.mk ((r_5.2.2.2.2.2.2.2.2.1.getD (0 : Nat) ([], [], [], [], [], ())).2.1.getD (0 : Nat) ([], ([], [], ()), (Ex.mk 0 [] []), ())).2.2.1.kind (aA ⟨#[122]⟩) ((r_5.2.2.2.2.2.2.2.2.1.getD (0 : Nat) ([], [], [], [], [], ())).2.1.getD (0 : Nat) ([], ([], [], ()), (Ex.mk 0 [] []), ())).2.2.1.l), ())), (r_5.2.2.2.2.2.2.2.2.1.getD (0 : Nat) ([], [], [], [], [], ())).2.2.1, (r_5.2.2.2.2.2.2.2.2.1.getD (0 : Nat) ([], [], [], [], [], ())).2.2.2.1, (r_5.2.2.2.2.2.2.2.2.1.getD (0 : Nat) ([], [], [], [], [], ())).2.2.2.2.1, ())), r_5.2.2.2.2.2.2.2.2.2.1, ())).isSome = true)) (ck (((((((((((aU F (aA ⟨#[120, 95, 49]⟩)).getD false) = true) ∧ (¬ (((aU F (aA ⟨#[116]⟩)).getD false) = true))) ∧ (¬ (((aU F (aA ⟨#[]⟩)).getD false) = true))) ∧ (((bP F (r_3.1, r_3.2.1, r_3.2.2.1, r_3.2.2.2.1, r_3.2.2.2.2.1, r_3.2.2.2.2.2.1, r_3.2.2.2.2.2.2.1, r_3.2.2.2.2.2.2.2.1, r_3.2.2.2.2.2.2.2.2.1, r_3.2.2.2.2.2.2.2.2.2.1, ())).getD false) = true)) ∧ (¬ (((bP F (r_5.1, r_5.2.1, r_5.2.2.1, r_5.2.2.2.1, r_5.2.2.2.2.1, r_5.2.2.2.2.2.1, r_5.2.2.2.2.2.2.1, r_5.2.2.2.2.2.2.2.1, (r_5.2.2.2.2.2.2.2.2.1.set (0 : Nat) ((r_5.2.2.2.2.2.2.2.2.1.getD (0 : Nat) ([], [], [], [], [], ())).1, ((r_5.2.2.2.2.2.2.2.2.1.getD (0 : Nat) ([], [], [], [], [], ())).2.1.set (0 : Nat) (((r_5.2.2.2.2.2.2.2.2.1.getD (0 : Nat) ([], [], [], [], [], ())).2.1.getD (0 : Nat) ([], ([], [], ()), (Ex.mk 0 [] []), ())).1, ((r_5.2.2.2.2.2.2.2.2.1.getD (0 : Nat) ([], [], [], [], [], ())).2.1.getD (0 : Nat) ([], ([], [], ()), (Ex.mk 0 [] []), ())).2.1, (Ex.mk ((r_5.2.2.2.2.2.2.2.2.1.getD (0 : Nat) ([], [], [], [], [], ())).2.1.getD (0 : Nat) ([], ([], [], ()), (Ex.mk 0 [] []), ())).2.2.1.kind (aA ⟨#[122]⟩) ((r_5.2.2.2.2.2.2.2.2.1.getD (0 : Nat) ([], [], [], [], [], ())).2.1.getD (0 : Nat) ([], ([], [], ()), (Ex.mk 0 [] []), ())).2.2.1.l), ())), (r_5.2.2.2.2.2.2.2.2.1.getD (0 : Nat) ([], [], [], [], [], ())).2.2.1, (r_5.2.2.2.2.2.2.2.2.1.getD (0 : Nat) ([], [], [], [], [], ())).2.2.2.1, (r_5.2.2.2.2.2.2.2.2.1.getD (0 : Nat) ([], [], [], [], [], ())).2.2.2.2.1, ())), r_5.2.2.2.2.2.2.2.2.2.1, ())).getD false) = true))) ∧ (¬ (((bP F ((0 : Int), (0 : Int), (0 : Int), (0 : Int), ([] : List Nat), ([] : List Nat), ([] : List Nat), ([] : List Nat), ([] : List ((List Nat) × ((List ((List Nat) × (((List Nat) × ((List Nat) × Unit)) × (Ex × Unit)))) × ((List ((List Nat) × (((List Nat) × ((List Nat) × Unit)) × Unit))) × ((List (List Nat)) × ((List ((List Nat) × (Ex × Unit))) × Unit)))))), ([] : List ((List Nat) × ((List Nat) × ((List Nat) × ((List Nat) × Unit))))), ())).getD false) = true))) ∧ (((eY F (r_3.1, r_3.2.1, r_3.2.2.1, r_3.2.2.2.1, r_3.2.2.2.2.1, r_3.2.2.2.2.2.1, r_3.2.2.2.2.2.2.1, r_3.2.2.2.2.2.2.2.1, r_3.2.2.2.2.2.2.2.2.1, r_3.2.2.2.2.2.2.2.2.2.1, ()) ((cL F).getD ((0 : Int), (0 : Int), (0 : Int), (0 : Int), ([] : List Nat), ([] : List Nat), ([] : List Nat), ([] : List Nat), ([] : List ((List Nat) × ((List ((List Nat) × (((List Nat) × ((List Nat) × Unit)) × (Ex × Unit)))) × ((List ((List Nat) × (((List Nat) × ((List Nat) × Unit)) × Unit))) × ((List (List Nat)) × ((List ((List Nat) × (Ex × Unit))) × Unit)))))), ([] : List ((List Nat) × ((List Nat) × ((List Nat) × ((List Nat) × Unit))))), ()))).getD false) = true)) ∧ (¬ (((eY F (r_3.1, r_3.2.1, r_3.2.2.1, r_3.2.2.2.1, r_3.2.2.2.2.1, r_3.2.2.2.2.2.1, r_3.2.2.2.2.2.2.1, r_3.2.2.2.2.2.2.2.1, r_3.2.2.2.2.2.2.2.2.1, r_3.2.2.2.2.2.2.2.2.2.1, ()) (r_5.1, r_5.2.1, r_5.2.2.1, r_5.2.2.2.1, r_5.2.2.2.2.1, r_5.2.2.2.2.2.1, r_5.2.2.2.2.2.2.1, r_5.2.2.2.2.2.2.2.1, (r_5.2.2.2.2.2.2.2.2.1.set (0 : Nat) ((r_5.2.2.2.2.2.2.2.2.1.getD (0 : Nat) ([], [], [], [], [], ())).1, ((r_5.2.2.2.2.2.2.2.2.1.getD (0 : Nat) ([], [], [], [], [], ())).2.1.set (0 : Nat) (((r_5.2.2.2.2.2.2.2.2.1.getD (0 : Nat) ([], [], [], [], [], ())).2.1.getD (0 : Nat) ([], ([], [], ()), (Ex.mk 0 [] []), ())).1, ((r_5.2.2.2.2.2.2.2.2.1.getD (0 : Nat) ([], [], [], [], [], ())).2.1.getD (0 : Nat) ([], ([], [], ()), (Ex.mk 0 [] []), ())).2.1, (Ex.mk ((r_5.2.2.2.2.2.2.2.2.1.getD (0 : Nat) ([], [], [], [], [], ())).2.1.getD (0 : Nat) ([], ([], [], ()), (Ex.mk 0 [] []), ())).2.2.1.kind (aA ⟨#[122]⟩) ((r_5.2.2.2.2.2.2.2.2.1.getD (0 : Nat) ([], [], [], [], [], ())).2.1.getD (0 : Nat) ([], ([], [], ()), (Ex.mk 0 [] []), ())).2.2.1.l), ())), (r_5.2.2.2.2.2.2.2.2.1.getD (0 : Nat) ([], [], [], [], [], ())).2.2.1, (r_5.2.2.2.2.2.2.2.2.1.getD (0 : Nat) ([], [], [], [], [], ())).2.2.2.1, (r_5.2.2.2.2.2.2.2.2.1.getD (0 : Nat) ([], [], [], [], [], ())).2.2.2.2.1, ())), r_5.2.2.2.2.2.2.2.2.2.1, ())).getD false) = true))) → ((hD F (r_3.1, r_3.2.1, r_3.2.2.1, r_3.2.2.2.1, r_3.2.2.2.2.1, r_3.2.2.2.2.2.1, r_3.2.2.2.2.2.2.1, r_3.2.2.2.2.2.2.2.1, r_3.2.2.2.2.2.2.2.2.1, r_3.2.2.2.2.2.2.2.2.2.1, ()) (aA ⟨#[97]⟩)).isSome = true)) (ck ((((((((((((aU F (aA ⟨#[120, 95, 49]⟩)).getD false) = true) ∧ (¬ (((aU F (aA ⟨#[116]⟩)).getD false) = true))) ∧ (¬ (((aU F (aA ⟨#[]⟩)).getD false) = true))) ∧ (((bP F (r_3.1, r_3.2.1, r_3.2.2.1, r_3.2.2.2.1, r_3.2.2.2.2.1, r_3.2.2.2.2.2.1, r_3.2.2.2.2.2.2.1, r_3.2.2.2.2.2.2.2.1, r_3.2.2.2.2.2.2.2.2.1, r_3.2.2.2.2.2.2.2.2.2.1, ())).getD false) = true)) ∧ (¬ (((bP F (r_5.1, r_5.2.1, r_5.2.2.1, r_5.2.2.2.1, r_5.2.2.2.2.1, r_5.2.2.2.2.2.1, r_5.2.2.2.2.2.2.1, r_5.2.2.2.2.2.2.2.1, (r_5.2.2.2.2.2.2.2.2.1.set (0 : Nat) ((r_5.2.2.2.2.2.2.2.2.1.getD (0 : Nat) ([], [], [], [], [], ())).1, ((r_5.2.2.2.2.2.2.2.2.1.getD (0 : Nat) ([], [], [], [], [], ())).2.1.set (0 : Nat) (((r_5.2.2.2.2.2.2.2.2.1.getD (0 : Nat) ([], [], [], [], [], ())).2.1.getD (0 : Nat) ([], ([], [], ()), (Ex.mk 0 [] []), ())).1, ((r_5.2.2.2.2.2.2.2.2.1.getD (0 : Nat) ([], [], [], [], [], ())).2.1.getD (0 : Nat) ([], ([], [], ()), (Ex.mk 0 [] []), ())).2.1, (Ex.mk ((r_5.2.2.2.2.2.2.2.2.1.getD (0 : Nat) ([], [], [], [], [], ())).2.1.getD (0 : Nat) ([], ([], [], ()), (Ex.mk 0 [] []), ())).2.2.1.kind (aA ⟨#[122]⟩) ((r_5.2.2.2.2.2.2.2.2.1.getD (0 : Nat) ([], [], [], [], [], ())).2.1.getD (0 : Nat) ([], ([], [], ()), (Ex.mk 0 [] []), ())).2.2.1.l), ())), (r_5.2.2.2.2.2.2.2.2.1.getD (0 : Nat) ([], [], [], [], [], ())).2.2.1, (r_5.2.2.2.2.2.2.2.2.1.getD (0 : Nat) ([], [], [], [], [], ())).2.2.2.1, (r_5.2.2.2.2.2.2.2.2.1.getD (0 : Nat) ([], [], [], [], [], ())).2.2.2.2.1, ())), r_5.2.2.2.2.2.2.2.2.2.1, ())).getD false) = true))) ∧ (¬ (((bP F ((0 : Int), (0 : Int), (0 : Int), (0 : Int), ([] : List Nat), ([] : List Nat), ([] : List Nat), ([] : List Nat), ([] : List ((List Nat) × ((List ((List Nat) × (((List Nat) × ((List Nat) × Unit)) × (Ex × Unit)))) × ((List ((List Nat) × (((List Nat) × ((List Nat) × Unit)) × Unit))) × ((List (List Nat)) × ((List ((List Nat) × (Ex × Unit))) × Unit)))))), ([] : List ((List Nat) × ((List Nat) × ((List Nat) × ((List Nat) × Unit))))), ())).getD false) = true))) ∧ (((eY F (r_3.1, r_3.2.1, r_3.2.2.1, r_3.2.2.2.1, r_3.2.2.2.2.1, r_3.2.2.2.2.2.1, r_3.2.2.2.2.2.2.1, r_3.2.2.2.2.2.2.2.1, r_3.2.2.2.2.2.2.2.2.1, r_3.2.2.2.2.2.2.2.2.2.1, ()) ((cL F).getD ((0 : Int), (0 : Int), (0 : Int), (0 : Int), ([] : List Nat), ([] : List Nat), ([] : List Nat), ([] : List Nat), ([] : List ((List Nat) × ((List ((List Nat) × (((List Nat) × ((List Nat) × Unit)) × (Ex × Unit)))) × ((List ((List Nat) × (((List Nat) × ((List Nat) × Unit)) × Unit))) × ((List (List Nat)) × ((List ((List Nat) × (Ex × Unit))) × Unit)))))), ([] : List ((List Nat) × ((List Nat) × ((List Nat) × ((List Nat) × Unit))))), ()))).getD false) = true)) ∧ (¬ (((eY F (r_3.1, r_3.2.1, r_3.2.2.1, r_3.2.2.2.1, r_3.2.2.2.2.1, r_3.2.2.2.2.2.1, r_3.2.2.2.2.2.2.1, r_3.2.2.2.2.2.2.2.1, r_3.2.2.2.2.2.2.2.2.1, r_3.2.2.2.2.2.2.2.2.2.1, ()) (r_5.1, r_5.2.1, r_5.2.2.1, r_5.2.2.2.1, r_5.2.2.2.2.1, r_5.2.2.2.2.2.1, r_5.2.2.2.2.2.2.1, r_5.2.2.2.2.2.2.2.1, (r_5.2.2.2.2.2.2.2.2.1.set (0 : Nat) ((r_5.2.2.2.2.2.2.2.2.1.getD (0 : Nat) ([], [], [], [], [], ())).1, ((r_5.2.2.2.2.2.2.2.2.1.getD (0 : Nat) ([], [], [], [], [], ())).2.1.set (0 : Nat) (((r_5.2.2.2.2.2.2.2.2.1.getD (0 : Nat) ([], [], [], [], [], ())).2.1.getD (0 : Nat) ([], ([], [], ()), (Ex.mk 0 [] []), ())).1, ((r_5.2.2.2.2.2.2.2.2.1.getD (0 : Nat) ([], [], [], [], [], ())).2.1.getD (0 : Nat) ([], ([], [], ()), (Ex.mk 0 [] []), ())).2.1, (Ex.mk ((r_5.2.2.2.2.2.2.2.2.1.getD (0 : Nat) ([], [], [], [], [], ())).2.1.getD (0 : Nat) ([], ([], [], ()), (Ex.mk 0 [] []), ())).2.2.1.kind (aA ⟨#[122]⟩) ((r_5.2.2.2.2.2.2.2.2.1.getD (0 : Nat) ([], [], [], [], [], ())).2.1.getD (0 : Nat) ([], ([], [], ()), (Ex.mk 0 [] []), ())).2.2.1.l), ())), (r_5.2.2.2.2.2.2.2.2.1.getD (0 : Nat) ([], [], [], [], [], ())).2.2.1, (r_5.2.2.2.2.2.2.2.2.1.getD (0 : Nat) ([], [], [], [], [], ())).2.2.2.1, (r_5.2.2.2.2.2.2.2.2.1.getD (0 : Nat) ([], [], [], [], [], ())).2.2.2.2.1, ())), r_5.2.2.2.2.2.2.2.2.2.1, ())).getD false) = true))) ∧ (((hD F (r_3.1, r_3.2.1, r_3.2.2.1, r_3.2.2.2.1, r_3.2.2.2.2.1, r_3.2.2.2.2.2.1, r_3.2.2.2.2.2.2.1, r_3.2.2.2.2.2.2.2.1, r_3.2.2.2.2.2.2.2.2.1, r_3.2.2.2.2.2.2.2.2.2.1, ()) (aA ⟨#[97]⟩)).getD (0 : Int)) = (0 : Int))) → ((hD F (r_3.1, r_3.2.1, r_3.2.2.1, r_3.2.2.2.1, r_3.2.2.2.2.1, r_3.2.2.2.2.2.1, r_3.2.2.2.2.2.2.1, r_3.2.2.2.2.2.2.2.1, r_3.2.2.2.2.2.2.2.2.1, r_3.2.2.2.2.2.2.2.2.2.1, ()) (aA ⟨#[98]⟩)).isSome = true)) (ck (((((((((((((aU F (aA ⟨#[120, 95, 49]⟩)).getD false) = true) ∧ (¬ (((aU F (aA ⟨#[116]⟩)).getD false) = true))) ∧ (¬ (((aU F (aA ⟨#[]⟩)).getD false) = true))) ∧ (((bP F (r_3.1, r_3.2.1, r_3.2.2.1, r_3.2.2.2.1, r_3.2.2.2.2.1, r_3.2.2.2.2.2.1, r_3.2.2.2.2.2.2.1, r_3.2.2.2.2.2.2.2.1, r_3.2.2.2.2.2.2.2.2.1, r_3.2.2.2.2.2.2.2.2.2.1, ())).getD false) = true)) ∧ (¬ (((bP F (r_5.1, r_5.2.1, r_5.2.2.1, r_5.2.2.2.1, r_5.2.2.2.2.1, r_5.2.2.2.2.2.1, r_5.2.2.2.2.2.2.1, r_5.2.2.2.2.2.2.2.1, (r_5.2.2.2.2.2.2.2.2.1.set (0 : Nat) ((r_5.2.2.2.2.2.2.2.2.1.getD (0 : Nat) ([], [], [], [], [], ())).1, ((r_5.2.2.2.2.2.2.2.2.1.getD (0 : Nat) ([], [], [], [], [], ())).2.1.set (0 : Nat) (((r_5.2.2.2.2.2.2.2.2.1.getD (0 : Nat) ([], [], [], [], [], ())).2.1.getD (0 : Nat) ([], ([], [], ()), (Ex.mk 0 [] []), ())).1, ((r_5.2.2.2.2.2.2.2.2.1.getD (0 : Nat) ([], [], [], [], [], ())).2.1.getD (0 : Nat) ([], ([], [], ()), (Ex.mk 0 [] []), ())).2.1, (Ex.mk ((r_5.2.2.2.2.2.2.2.2.1.getD (0 : Nat) ([], [], [], [], [], ())).2.1.getD (0 : Nat) ([], ([], [], ()), (Ex.mk 0 [] []), ())).2.2.1.kind (aA ⟨#[122]⟩) ((r_5.2.2.2.2.2.2.2.2.1.getD (0 : Nat) ([], [], [], [], [], ())).2.1.getD (0 : Nat) ([], ([], [], ()), (Ex.mk 0 [] []), ())).2.2.1.l), ())), (r_5.2.2.2.2.2.2.2.2.1.getD (0 : Nat) ([], [], [], [], [], ())).2.2.1, (r_5.2.2.2.2.2.2.2.2.1.getD (0 : Nat) ([], [], [], [], [], ())).2.2.2.1, (r_5.2.2.2.2.2.2.2.2.1.getD (0 : Nat) ([], [], [], [], [], ())).2.2.2.2.1, ())), r_5.2.2.2.2.2.2.2.2.2.1, ())).getD false) = true))) ∧ (¬ (((bP F ((0 : Int), (0 : Int), (0 : Int), (0 : Int), ([] : List Nat), ([] : List Nat), ([] : List Nat), ([] : List Nat), ([] : List ((List Nat) × ((List ((List Nat) × (((List Nat) × ((List Nat) × Unit)) × (Ex × Unit)))) × ((List ((List Nat) × (((List Nat) × ((List Nat) × Unit)) × Unit))) × ((List (List Nat)) × ((List ((List Nat) × (Ex × Unit))) × Unit)))))), ([] : List ((List Nat) × ((List Nat) × ((List Nat) × ((List Nat) × Unit))))), ())).getD false) = true))) ∧ (((eY F (r_3.1, r_3.2.1, r_3.2.2.1, r_3.2.2.2.1, r_3.2.2.2.2.1, r_3.2.2.2.2.2.1, r_3.2.2.2.2.2.2.1, r_3.2.2.2.2.2.2.2.1, r_3.2.2.2.2.2.2.2.2.1, r_3.2.2.2.2.2.2.2.2.2.1, ()) ((cL F).getD ((0 : Int), (0 : Int), (0 : Int), (0 : Int), ([] : List Nat), ([] : List Nat), ([] : List Nat), ([] : List Nat), ([] : List ((List Nat) × ((List ((List Nat) × (((List Nat) × ((List Nat) × Unit)) × (Ex × Unit)))) × ((List ((List Nat) × (((List Nat) × ((List Nat) × Unit)) × Unit))) × ((List (List Nat)) × ((List ((List Nat) × (Ex × Unit))) × Unit)))))), ([] : List ((List Nat) × ((List Nat) × ((List Nat) × ((List Nat) × Unit))))), ()))).getD false) = true)) ∧ (¬ (((eY F (r_3.1, r_3.2.1, r_3.2.2.1, r_3.2.2.2.1, r_3.2.2.2.2.1, r_3.2.2.2.2.2.1, r_3.2.2.2.2.2.2.1, r_3.2.2.2.2.2.2.2.1, r_3.2.2.2.2.2.2.2.2.1, r_3.2.2.2.2.2.2.2.2.2.1, ()) (r_5.1, r_5.2.1, r_5.2.2.1, r_5.2.2.2.1, r_5.2.2.2.2.1, r_5.2.2.2.2.2.1, r_5.2.2.2.2.2.2.1, r_5.2.2.2.2.2.2.2.1, (r_5.2.2.2.2.2.2.2.2.1.set (0 : Nat) ((r_5.2.2.2.2.2.2.2.2.1.getD (0 : Nat) ([], [], [], [], [], ())).1, ((r_5.2.2.2.2.2.2.2.2.1.getD (0 : Nat) ([], [], [], [], [], ())).2.1.set (0 : Nat) (((r_5.2.2.2.2.2.2.2.2.1.getD (0 : Nat) ([], [], [], [], [], ())).2.1.getD (0 : Nat) ([], ([], [], ()), (Ex.mk 0 [] []), ())).1, ((r_5.2.2.2.2.2.2.2.2.1.getD (0 : Nat) ([], [], [], [], [], ())).2.1.getD (0 : Nat) ([], ([], [], ()), (Ex.mk 0 [] []), ())).2.1, (Ex.mk ((r_5.2.2.2.2.2.2.2.2.1.getD (0 : Nat) ([], [], [], [], [], ())).2.1.getD (0 : Nat) ([], ([], [], ()), (Ex.mk 0 [] []), ())).2.2.1.kind (aA ⟨#[122]⟩) ((r_5.2.2.2.2.2.2.2.2.1.getD (0 : Nat) ([], [], [], [], [], ())).2.1.getD (0 : Nat) ([], ([], [], ()), (Ex.mk 0 [] []), ())).2.2.1.l), ())), (r_5.2.2.2.2.2.2.2.2.1.getD (0 : Nat) ([], [], [], [], [], ())).2.2.1, (r_5.2.2.2.2.2.2.2.2.1.getD (0 : Nat) ([], [], [], [], [], ())).2.2.2.1, (r_5.2.2.2.2.2.2.2.2.1.getD (0 : Nat) ([], [], [], [], [], ())).2.2.2.2.1, ())), r_5.2.2.2.2.2.2.2.2.2.1, ())).getD false) = true))) ∧ (((hD F (r_3.1, r_3.2.1, r_3.2.2.1, r_3.2.2.2.1, r_3.2.2.2.2.1, r_3.2.2.2.2.2.1, r_3.2.2.2.2.2.2.1, r_3.2.2.2.2.2.2.2.1, r_3.2.2.2.2.2.2.2.2.1, r_3.2.2.2.2.2.2.2.2.2.1, ()) (aA ⟨#[97]⟩)).getD (0 : Int)) = (0 : Int))) ∧ (((hD F (r_3.1, r_3.2.1, r_3.2.2.1, r_3.2.2.2.1, r_3.2.2.2.2.1, r_3.2.2.2.2.2.1, r_3.2.2.2.2.2.2.1, r_3.2.2.2.2.2.2.2.1, r_3.2.2.2.2.2.2.2.2.1, r_3.2.2.2.2.2.2.2.2.2.1, ()) (aA ⟨#[98]⟩)).getD (0 : Int)) = (-1 : Int))) → ((iB F (Ex.mk (2 : Int) (aA ⟨#[120]⟩) ([] : List Ex)) ([(aA ⟨#[120]⟩)] : List (List Nat))).isSome = true)) (some ((((((((((((aU F (aA ⟨#[120, 95, 49]⟩)).getD false) && (!((aU F (aA ⟨#[116]⟩)).getD false))) && (!((aU F (aA ⟨#[]⟩)).getD false))) && ((bP F (r_3.1, r_3.2.1, r_3.2.2.1, r_3.2.2.2.1, r_3.2.2.2.2.1, r_3.2.2.2.2.2.1, r_3.2.2.2.2.2.2.1, r_3.2.2.2.2.2.2.2.1, r_3.2.2.2.2.2.2.2.2.1, r_3.2.2.2.2.2.2.2.2.2.1, ())).getD false)) && (!((bP F (r_5.1, r_5.2.1, r_5.2.2.1, r_5.2.2.2.1, r_5.2.2.2.2.1, r_5.2.2.2.2.2.1, r_5.2.2.2.2.2.2.1, r_5.2.2.2.2.2.2.2.1, (r_5.2.2.2.2.2.2.2.2.1.set (0 : Nat) ((r_5.2.2.2.2.2.2.2.2.1.getD (0 : Nat) ([], [], [], [], [], ())).1, ((r_5.2.2.2.2.2.2.2.2.1.getD (0 : Nat) ([], [], [], [], [], ())).2.1.set (0 : Nat) (((r_5.2.2.2.2.2.2.2.2.1.getD (0 : Nat) ([], [], [], [], [], ())).2.1.getD (0 : Nat) ([], ([], [], ()), (Ex.mk 0 [] []), ())).1, ((r_5.2.2.2.2.2.2.2.2.1.getD (0 : Nat) ([], [], [], [], [], ())).2.1.getD (0 : Nat) ([], ([], [], ()), (Ex.mk 0 [] []), ())).2.1, (Ex.mk ((r_5.2.2.2.2.2.2.2.2.1.getD (0 : Nat) ([], [], [], [], [], ())).2.1.getD (0 : Nat) ([], ([], [], ()), (Ex.mk 0 [] []), ())).2.2.1.kind (aA ⟨#[122]⟩) ((r_5.2.2.2.2.2.2.2.2.1.getD (0 : Nat) ([], [], [], [], [], ())).2.1.getD (0 : Nat) ([], ([], [], ()), (Ex.mk 0 [] []), ())).2.2.1.l), ())), (r_5.2.2.2.2.2.2.2.2.1.getD (0 : Nat) ([], [], [], [], [], ())).2.2.1, (r_5.2.2.2.2.2.2.2.2.1.getD (0 : Nat) ([], [], [], [], [], ())).2.2.2.1, (r_5.2.2.2.2.2.2.2.2.1.getD (0 : Nat) ([], [], [], [], [], ())).2.2.2.2.1, ())), r_5.2.2.2.2.2.2.2.2.2.1, ())).getD false))) && (!((bP F ((0 : Int), (0 : Int), (0 : Int), (0 : Int), ([] : List Nat), ([] : List Nat), ([] : List Nat), ([] : List Nat), ([] : List ((List Nat) × ((List ((List Nat) × (((List Nat) × ((List Nat) × Unit)) × (Ex × Unit)))) × ((List ((List Nat) × (((List Nat) × ((List Nat) × Unit)) × Unit))) × ((List (List Nat)) × ((List ((List Nat) × (Ex × Unit))) × Unit)))))), ([] : List ((List Nat) × ((List Nat) × ((List Nat) × ((List Nat) × Unit))))), ())).getD false))) && ((eY F (r_3.1, r_3.2.1, r_3.2.2.1, r_3.2.2.2.1, r_3.2.2.2.2.1, r_3.2.2.2.2.2.1, r_3.2.2.2.2.2.2.1, r_3.2.2.2.2.2.2.2.1, r_3.2.2.2.2.2.2.2.2.1, r_3.2.2.2.2.2.2.2.2.2.1, ()) ((cL F).getD ((0 : Int), (0 : Int), (0 : Int), (0 : Int), ([] : List Nat), ([] : List Nat), ([] : List Nat), ([] : List Nat), ([] : List ((List Nat) × ((List ((List Nat) × (((List Nat) × ((List Nat) × Unit)) × (Ex × Unit)))) × ((List ((List Nat) × (((List Nat) × ((List Nat) × Unit)) × Unit))) × ((List (List Nat)) × ((List ((List Nat) × (Ex × Unit))) × Unit)))))), ([] : List ((List Nat) × ((List Nat) × ((List Nat) × ((List Nat) × Unit))))), ()))).getD false)) && (!((eY F (r_3.1, r_3.2.1, r_3.2.2.1, r_3.2.2.2.1, r_3.2.2.2.2.1, r_3.2.2.2.2.2.1, r_3.2.2.2.2.2.2.1, r_3.2.2.2.2.2.2.2.1, r_3.2.2.2.2.2.2.2.2.1, r_3.2.2.2.2.2.2.2.2.2.1, ()) (r_5.1, r_5.2.1, r_5.2.2.1, r_5.2.2.2.1, r_5.2.2.2.2.1, r_5.2.2.2.2.2.1, r_5.2.2.2.2.2.2.1, r_5.2.2.2.2.2.2.2.1, (r_5.2.2.2.2.2.2.2.2.1.set (0 : Nat) ((r_5.2.2.2.2.2.2.2.2.1.getD (0 : Nat) ([], [], [], [], [], ())).1, ((r_5.2.2.2.2.2.2.2.2.1.getD (0 : Nat) ([], [], [], [], [], ())).2.1.set (0 : Nat) (((r_5.2.2.2.2.2.2.2.2.1.getD (0 : Nat) ([], [], [], [], [], ())).2.1.getD (0 : Nat) ([], ([], [], ()), (Ex.mk 0 [] []), ())).1, ((r_5.2.2.2.2.2.2.2.2.1.getD (0 : Nat) ([], [], [], [], [], ())).2.1.getD (0 : Nat) ([], ([], [], ()), (Ex.mk 0 [] []), ())).2.1, (Ex.mk ((r_5.2.2.2.2.2.2.2.2.1.getD (0 : Nat) ([], [], [], [], [], ())).2.1.getD (0 : Nat) ([], ([], [], ()), (Ex.mk 0 [] []), ())).2.2.1.kind (aA ⟨#[122]⟩) ((r_5.2.2.2.2.2.2.2.2.1.getD (0 : Nat) ([], [], [], [], [], ())).2.1.getD (0 : Nat) ([], ([], [], ()), (Ex.mk 0 [] []), ())).2.2.1.l), ())), (r_5.2.2.2.2.2.2.2.2.1.getD (0 : Nat) ([], [], [], [], [], ())).2.2.1, (r_5.2.2.2.2.2.2.2.2.1.getD (0 : Nat) ([], [], [], [], [], ())).2.2.2.1, (r_5.2.2.2.2.2.2.2.2.1.getD (0 : Nat) ([], [], [], [], [], ())).2.2.2.2.1, ())), r_5.2.2.2.2.2.2.2.2.2.1, ())).getD false))) && (decide (((hD F (r_3.1, r_3.2.1, r_3.2.2.1, r_3.2.2.2.1, r_3.2.2.2.2.1, r_3.2.2.2.2.2.1, r_3.2.2.2.2.2.2.1, r_3.2.2.2.2.2.2.2.1, r_3.2.2.2.2.2.2.2.2.1, r_3.2.2.2.2.2.2.2.2.2.1, ()) (aA ⟨#[97]⟩)).getD (0 : Int)) = (0 : Int)))) && (decide (((hD F (r_3.1, r_3.2.1, r_3.2.2.1, r_3.2.2.2.1, r_3.2.2.2.2.1, r_3.2.2.2.2.2.1, r_3.2.2.2.2.2.2.1, r_3.2.2.2.2.2.2.2.1, r_3.2.2.2.2.2.2.2.2.1, r_3.2.2.2.2.2.2.2.2.2.1, ()) (aA ⟨#[98]⟩)).getD (0 : Int)) = (-1 : Int)))) && ((iB F (Ex.mk (2 : Int) (aA ⟨#[120]⟩) ([] : List Ex)) ([(aA ⟨#[120]⟩)] : List (List Nat))).getD false)))))))))))))))))))
def yB : Ty := .unit
attribute [go_sem] yB
noncomputable def vR (F : Md) : aH := mSpec yB (.one .bool) (fun x => pT F )
noncomputable def mB (F : Md) : List (FuncId × aH) := [(25, (gQ F)), (27, (mU F)), (28, (pQ F)), (29, (nV F)), (61, (vQ F)), (62, (nZ F))]
theorem aGh (F : Md) : bD Tryz.prog GL (mB F) := .cons (vA F) (by kernel_rfl) (.cons (aDp F) (by kernel_rfl) (.cons (aGe F) (by kernel_rfl) (.cons (aD3 F) (by kernel_rfl) (.cons (aKU F) (by kernel_rfl) (.cons (aEf F) (by kernel_rfl) (.nil))))))
theorem aID (F : Md) : gam (mB F) 25 = some (gQ F) := rfl
attribute [go_sem] aID
theorem aIE (F : Md) : gam (mB F) 27 = some (mU F) := rfl
attribute [go_sem] aIE
theorem aIF (F : Md) : gam (mB F) 28 = some (pQ F) := rfl
attribute [go_sem] aIF
theorem aIG (F : Md) : gam (mB F) 29 = some (nV F) := rfl
attribute [go_sem] aIG
theorem aIH (F : Md) : gam (mB F) 61 = some (vQ F) := rfl
attribute [go_sem] aIH
theorem aII (F : Md) : gam (mB F) 62 = some (nZ F) := rfl
attribute [go_sem] aII
set_option maxHeartbeats 4000000 in
theorem aKX (F : Md) : FOK Tryz.prog GL 24 (vR F) := by
 refine lR (aLp (aGh F)) Tryz.func24 rfl (by kernel_rfl) (by decide) fun w0 S x r hw h => ?_
 have hF : jS (fr Tryz.prog (EX (mB F)) S w0 Tryz.f24.ntmps) := ⟨aLp (aGh F), mix⟩
 simp only [yB, Ty.wf, mZ] at hw
 simp only [bK, yB]
 try dsimp only at h
 replace h : pT F = some r := h
 unfold pT at h
 refine aC (aE hF [] ?_)
 simp only [go_sem]
 repeat (refine ⟨zAA, ?_⟩)
 obtain ⟨r_3, he1, h⟩ := bind_some h
 try dsimp only at h
 refine aD (aC (bT hF (eD (l := [(27, ⟨hP F, [], r_3⟩)]) (.cons (qE F) (by kernel_rfl) (.nil))) [1] [] ?_))
 simp only [go_sem]
 repeat (refine ⟨zAA, ?_⟩)
 obtain ⟨r_5, he2, h⟩ := bind_some h
 try dsimp only at h
 refine aD (aC (bT hF (eD (l := [(27, ⟨hP F, [], r_5⟩)]) (.cons (qE F) (by kernel_rfl) (.nil))) [1, 2] [] ?_))
 simp only [go_sem]
 repeat (refine ⟨zAA, ?_⟩)
 obtain ⟨go, h⟩ := aI h
 refine aD (aC (aAT 3 (0 : Nat) rfl go rfl ?_))
 simp only [go_sem]
 refine aX hF [1, 2] ?_
 simp only [go_sem]
 obtain ⟨g0, h⟩ := aI h
 repeat (refine ⟨zAA, ?_⟩)
 obtain ⟨g0, h⟩ := aI h
 repeat (refine ⟨zAA, ?_⟩)
 refine aAS 3 ((r_5.2.2.2.2.2.2.2.2.1.getD (0 : Nat) ([], [], [], [], [], ())).1, ((r_5.2.2.2.2.2.2.2.2.1.getD (0 : Nat) ([], [], [], [], [], ())).2.1.set (0 : Nat) (((r_5.2.2.2.2.2.2.2.2.1.getD (0 : Nat) ([], [], [], [], [], ())).2.1.getD (0 : Nat) ([], ([], [], ()), (Ex.mk 0 [] []), ())).1, ((r_5.2.2.2.2.2.2.2.2.1.getD (0 : Nat) ([], [], [], [], [], ())).2.1.getD (0 : Nat) ([], ([], [], ()), (Ex.mk 0 [] []), ())).2.1, (Ex.mk ((r_5.2.2.2.2.2.2.2.2.1.getD (0 : Nat) ([], [], [], [], [], ())).2.1.getD (0 : Nat) ([], ([], [], ()), (Ex.mk 0 [] []), ())).2.2.1.kind (aA ⟨#[122]⟩) ((r_5.2.2.2.2.2.2.2.2.1.getD (0 : Nat) ([], [], [], [], [], ())).2.1.getD (0 : Nat) ([], ([], [], ()), (Ex.mk 0 [] []), ())).2.2.1.l), ())), (r_5.2.2.2.2.2.2.2.2.1.getD (0 : Nat) ([], [], [], [], [], ())).2.2.1, (r_5.2.2.2.2.2.2.2.2.1.getD (0 : Nat) ([], [], [], [], [], ())).2.2.2.1, (r_5.2.2.2.2.2.2.2.2.1.getD (0 : Nat) ([], [], [], [], [], ())).2.2.2.2.1, ()) [6, 7, 8, 9] rfl (by first | rfl | (simp only [go_sem]; done)) rfl rfl ?_
 simp only [go_sem]
 refine aD (aC (aE hF [0] ?_))
 simp only [go_sem]
 obtain ⟨g0, h⟩ := aI h
 obtain ⟨g1, h⟩ := aI h
 obtain ⟨g2, h⟩ := aI h
 obtain ⟨g3, h⟩ := aI h
 obtain ⟨g4, h⟩ := aI h
 obtain ⟨g5, h⟩ := aI h
 obtain ⟨g6, h⟩ := aI h
 obtain ⟨g7, h⟩ := aI h
 obtain ⟨g8, h⟩ := aI h
 obtain ⟨g9, h⟩ := aI h
 obtain ⟨g10, h⟩ := aI h
 obtain ⟨g11, h⟩ := aI h
 repeat (refine ⟨by first | with_reducible assumption | omega | (intros; first | with_reducible assumption | omega) | (simp only [go_sem] at *; first | with_reducible assumption | omega) | (intro _; exact ⟨rfl, by decide⟩) | (intro _; refine (?_ : _ = aV _); rfl) | exact ⟨rfl, rfl⟩ | (intro q0; (try have e1 := g1 zAC); (try have e2 := g2 zAC); (try have e3 := g3 zAC); (try have e4 := g4 zAC); (try have e5 := g5 zAC); (try have e6 := g6 zAC); (try have e7 := g7 zAC); (try have e8 := g8 zAC); (try have e9 := g9 zAC); (try have e10 := g10 zAC); (try have e11 := g11 zAC); first | assumption | omega) | decide, ?_⟩)
 obtain rfl := Option.some.inj h
 refine aD (dE (fD hF [.tmp 0] rfl rfl rfl ?_))
 exact zAG
attribute [go_sem] vR
end Nu
end Go.Proofs
