import Derived.Test.YtlijgfkkmamanaaGreatDoorZL5
import Derived.Test.YtlijgfkkmamanaaGreatDoorZL4
import Derived.LaidMore
import Derived.LaidHandle
import Derived.MakeChecks
import Derived.Handed
set_option linter.unusedVariables false
set_option linter.unusedSimpArgs false
namespace Go.Vc
open Go.RowKit
theorem bCH (n : Nat) : ((no_index (OfNat.ofNat n) : Nat) : Int) = OfNat.ofNat n := rfl
def sat {α : Type} (o : Option α) (Θ : α → Prop) : Prop := ∃ x, o = some x ∧ Θ x
section
variable {α β : Type} {p : Prop} [Decidable p] {k x y : Option α} {Θ : α → Prop} {a : α}
theorem aR8 (h : sat (ck p k) Θ) : p ∧ sat k Θ := by
 obtain ⟨z, g, f⟩ := h
 obtain ⟨hp, b⟩ := bV g
 exact ⟨hp, z, b, f⟩
theorem gB (hp : p) (h : sat (if p then x else y) Θ) : sat x Θ := by simp_all
theorem gC (hp : ¬ p) (h : sat (if p then x else y) Θ) : sat y Θ := by simp_all
theorem aN {G : Prop} (h : sat (ck p k) Θ) (b : p → sat k Θ → G) : p ∧ G := ⟨(aR8 h).1, b (aR8 h).1 (aR8 h).2⟩
theorem cI {f b : Prop} (h : sat (if p then x else y) Θ) (j : p → sat x Θ → f) (g : ¬ p → sat y Θ → b) : (p → f) ∧ (¬ p → b) := ⟨fun c => j c (gB c h), fun c => g c (gC c h)⟩
theorem dY {f b : Prop} {m n : Int} (h : sat (if m < n then x else y) Θ) (j : m < n → sat x Θ → f) (g : n ≤ m → sat y Θ → b) : (m < n → f) ∧ (n ≤ m → b) := ⟨fun c => j c (gB c h), fun c => g c (gC (Int.not_lt.2 c) h)⟩
theorem aYW {f b : Prop} {m n : Int} (h : sat (if m ≤ n then x else y) Θ) (j : m ≤ n → sat x Θ → f) (g : n < m → sat y Θ → b) : (m ≤ n → f) ∧ (n < m → b) := ⟨fun c => j c (gB c h), fun c => g c (gC (Int.not_le.2 c) h)⟩
theorem aGq {g f : Prop} {b : Bool} (h : sat (if b = true then x else y) Θ) (q : b = true → sat x Θ → g) (j : ¬ b = true → sat y Θ → f) : (b = true → g) ∧ (¬ b = true → f) := cI h q j
theorem aAF {g f : Prop} {b : Bool} (h : sat (if ¬ b = true then x else y) Θ) (q : b = false → sat x Θ → g) (j : ¬ b = false → sat y Θ → f) : (b = false → g) ∧ (¬ b = false → f) :=
 ⟨fun c => q c (gB (by simp_all) h), fun c => j c (gC (fun n => c (by simp_all)) h)⟩
theorem aA (h : sat (some a) Θ) : Θ a := by
 obtain ⟨z, f, b⟩ := h
 simp_all
theorem aBr {P : Prop} (h : sat none Θ) : P := by
 obtain ⟨z, b, f⟩ := h
 cases b
theorem aC {o : Option β} {f : β → Option α} (h : sat (o.bind f) Θ) {G : Prop} (j : ∀ z, o = some z → sat (f z) Θ → G) : G := by
 obtain ⟨r, b, g⟩ := h
 cases o with
 | none => cases b
 | some z => exact j z rfl ⟨r, b, g⟩
theorem aD (h : sat (ck p k) Θ) {G : Prop} (b : p → sat k Θ → G) : G := b (aR8 h).1 (aR8 h).2
end
def bBi (n : Nat) (ops : List Oper) : Bool := aVi (ops.take n) && aH5 (ops.take n) && aPE (ops.take n).length ops
inductive Pl where
 | A (keep : List Nat)
 | B (keep : List Nat)
 | C (n : Nat) (keep : List Nat)
 | P (keep sb : List Nat)
 | Q (n : Nat) (keep sb : List Nat)
 | stop
def aVx : List (FuncId × (List AV → List Obj → Hit)) → FuncId → List AV → List Obj → Option Hit
 | [], _, _, _ => none
 | (k, t) :: r, f, b, h => match decide (k = f) with
  | true => some (t b h)
  | false => aVx r f b h
structure aHn (P : Program) (G : Nat → AV) (l : List (FuncId × (List AV → List Obj → Hit))) : Prop where
 ok : ∀ p ∈ l, (∀ vs h, GOK P G p.1 (p.2 vs h).sp) ∧ fnB P p.1 = true
theorem aHn.nil {P : Program} {G : Nat → AV} : aHn P G [] := ⟨fun p hp => by cases hp⟩
theorem aHn.cons {P : Program} {G : Nat → AV} {l : List (FuncId × (List AV → List Obj → Hit))} {f : FuncId} {t : List AV → List Obj → Hit} (h : ∀ vs x, GOK P G f (t vs x).sp) (b : fnB P f = true) (g : aHn P G l) : aHn P G ((f, t) :: l) := by
 refine ⟨fun p hp => ?_⟩
 rcases List.mem_cons.1 hp with rfl | hp
 ·exact ⟨h, b⟩
 ·exact g.ok p hp
theorem aXl : ∀ {l : List (FuncId × (List AV → List Obj → Hit))} {f : FuncId} {vs : List AV} {h : List Obj} {t : Hit}, aVx l f vs h = some t → ∃ s, (f, s) ∈ l ∧ t = s vs h
 | (k, s) :: r, f, vs, h, t, e => by
  simp only [aVx] at e
  split at e
  ·simp_all
  ·obtain ⟨u, g, b⟩ := aXl e
   grind
theorem aXm {P : Program} {G : Nat → AV} {l : List (FuncId × (List AV → List Obj → Hit))} (h : aHn P G l) : aEG P G (aVx l) := by
 refine ⟨fun f b g t e => ?_, fun f b g t e => ?_⟩ <;> obtain ⟨s, j, rfl⟩ := aXl e
 ·exact (h.ok _ j).1 b g
 ·exact uR (h.ok _ j).2
def dU : List Obj → Nat → (t : Ty) → t.den
 | .box _ (.val s x) :: _, 0, t => if e : s = t then e ▸ x else t.zero
 | _ :: h, i + 1, t => dU h i t
 | _, _, t => t.zero
@[go_sem] theorem bGJ {n : Nat} {t : Ty} {x : t.den} {h : List Obj} : dU (.box n (.val t x) :: h) 0 t = x := by simp [dU]
@[go_sem] theorem bGb {o : Obj} {h : List Obj} {i : Nat} {t : Ty} : dU (o :: h) (i + 1) t = dU h i t := by
 cases o <;> try rfl
 rename_i n v
 cases v <;> rfl
def rD (h : List Obj) (vs : List AV) (i : Nat) (t : Ty) : t.den := match AV.as (h.map fL) t (vs.getD i .junk) with
 | some x => x
 | none => t.zero
def mkH {R : Type} (o : Option R) (z : R) (f : R → Hit) : Hit := f (o.getD z)
theorem bCI {R : Type} {r z : R} {f : R → Hit} : mkH (some r) z f = f r := rfl
structure PlR where
 reg : List (Nat × Pl)
 stops : List (Nat × Nat)
 dl : List (FuncId × (List AV → List Obj → Hit))
def bEU : List (Nat × Pl) → Nat → Pl
 | [], _ => .stop
 | (i, p) :: r, b => match decide (i = b) with
  | true => p
  | false => bEU r b
def first : Code → Nat
 | .region b _ _ => b + 3
 | .seq x _ => first x
 | .block _ x => first x
 | .loop x => first x
 | .scope x => first x
 | .skip => 1
 | .label _ => 1
 | .ret => 0
 | _ => 2
def aXn : List (Nat × Nat) → Code → Code → Bool
 | [], _, _ => false
 | (a, b) :: r, x, y => match decide (a = first x) with
  | true => match decide (b = first y) with
   | true => true
   | false => aXn r x y
  | false => aXn r x y
def bGK (V : St → List Obj → Prop) (K : Exit → St → List Obj → Prop) : Exit → St → List Obj → Prop := fun e env h => match e with
 | .normal => V env h
 | e => K e env h
def bEV (id : Nat) (K : Exit → St → List Obj → Prop) : Exit → St → List Obj → Prop := fun e env h => match e with
 | .normal => K .normal env h
 | .exit j => match decide (j = id) with
  | true => K .normal env h
  | false => K (.exit j) env h
 | .ret => K .ret env h
 | _ => False
def bHk (K : Exit → St → List Obj → Prop) : Exit → St → List Obj → Prop := fun e env h => match e with
 | .normal => K .normal env h
 | .exit j => K (.exit j) env h
 | .ret => K .ret env h
 | _ => False
def vcC (F : Fr) (p : PlR) : Code → (Exit → St → List Obj → Prop) → (Exit → Act → World → Prop) → St → List Obj → Prop
 | .skip, K, _, env, h => K .normal env h
 | .label _, K, _, env, h => K .normal env h
 | .exit j, K, _, env, h => K (.exit j) env h
 | .ret, K, _, env, h => K .ret env h
 | .seq x y, K, Q, env, h => match aXn p.stops x y with
  | true => Tri F (.seq x y) Q env h
  | false => vcC F p x (bGK (vcC F p y K Q) K) (Exit.then (Next F y Q) Q) env h
 | .cond o x y, K, Q, env, h => match evA F.E.G env o with
  | .val .bool b => (b = true → vcC F p x K Q env h) ∧ (¬ b = true → vcC F p y K Q env h)
  | _ => False
 | .block j x, K, Q, env, h => vcC F p x (bEV j K) (Exit.inBlock j Q) env h
 | .scope x, K, Q, env, h => vcC F p x (bHk K) (Exit.noGoto Q) env h
 | .region j ops f, K, Q, env, h => match bEU p.reg j with
  | .A keep => vcA F.E h env ops.toList 0 [] (fun g => K .normal (aTs keep g env) h)
  | .B keep => f = false ∧ vR F.E ops.toList ops.toList env h (fun env h => K .normal (keep.map fun t => (t, look env t)) h)
  | .C n keep => (f = true ∧ bBi n ops.toList = true) ∧
    vcA F.E h env (ops.toList.take n) 0 [] (fun g => vR F.E ops.toList (ops.toList.drop n) (oT F.E.T (gA (ops.toList.take n) 0) (nE g env) h).1 (oT F.E.T (gA (ops.toList.take n) 0) (nE g env) h).2 (fun env h => K .normal (keep.map fun t => (t, look env t)) h))
  | .P keep sb => f = false ∧ aBo F.E (aVx p.dl) sb ops.toList ops.toList env h (fun env h => K .normal (keep.map fun t => (t, look env t)) h) (fun e env h => AtP F Q e env h)
  | .Q n keep sb => (f = true ∧ bBi n ops.toList = true) ∧
    vcA F.E h env (ops.toList.take n) 0 [] (fun g => aBo F.E (aVx p.dl) sb ops.toList (ops.toList.drop n) (oT F.E.T (gA (ops.toList.take n) 0) (nE g env) h).1 (oT F.E.T (gA (ops.toList.take n) 0) (nE g env) h).2 (fun env h => K .normal (keep.map fun t => (t, look env t)) h) (fun e env h => AtP F Q e env h))
  | .stop => Tri F (.region j ops f) Q env h
 | c, _, Q, env, h => Tri F c Q env h
structure VOK (F : Fr) (p : PlR) : Prop where
 fr : tI F
 hits : aHn F.P F.E.G p.dl
section
variable {F : Fr} {p : PlR}
theorem bAk (hF : tI F) {K : Exit → St → List Obj → Prop} {Q : Exit → Act → World → Prop} (L : ∀ e env h, K e env h → At F (Q e) env h) {id : Nat} {ops : Array Oper} {f : Bool} {keep : List Nat} {env : St} {h : List Obj}
  (hv : vcA F.E h env ops.toList 0 [] (fun b => K .normal (aTs keep b env) h)) : Tri F (.region id ops f) Q env h := fun j c a w hs => by
 simp only [iH, Bool.and_eq_true, Bool.or_eq_true, Bool.not_eq_true'] at j
 obtain ⟨⟨z, s⟩, I⟩ := j
 have g : ∀ b c' q w', K .normal (aTs keep b env) h → dS c w c' w' → c'.n = c.n → Sim F.E F.M F.w0 F.nt F.ds c' (nE b env) h q w' → Q .normal q w' := fun b c' q w' J _ _ r => by
  have := r.keep keep
  refine L _ _ _ J c' q w' ?_
  grind [aTs, look, nE, aWZ]
 cases f with
 | false => exact aWW (ops := ops.toList) hF.env (List.all_eq_true.1 z) s hs hv g
 | true => exact aMA (ops := ops.toList) hF.env hF.mix (List.all_eq_true.1 z) s (I.resolve_left (by simp)) hs hv g
theorem bAl (hF : tI F) {K : Exit → St → List Obj → Prop} {Q : Exit → Act → World → Prop} (j : ∀ e env h, K e env h → At F (Q e) env h) {id : Nat} {ops : Array Oper} {keep : List Nat} {env : St} {h : List Obj}
  (hv : vR F.E ops.toList ops.toList env h (fun env h => K .normal (keep.map fun t => (t, look env t)) h)) : Tri F (.region id ops false) Q env h := fun b c a w hs => by
 simp only [iH, Bool.and_eq_true, Bool.or_eq_true, Bool.not_eq_true'] at b
 obtain ⟨⟨f, r⟩, q⟩ := b
 refine wp_region ?_
 have := aMF (Q := Q) hF.env (List.all_eq_true.1 f) (K := fun env h => K .normal (keep.map fun t => (t, look env t)) h) (fun env h c a w g hs => j _ _ _ g c a w (hs.keep keep)) ops.toList.length 0 (by simp) env h c a w (by simp_all) hs
 simp_all [List.range_eq_range']
theorem bEW (hF : tI F) {K : Exit → St → List Obj → Prop} {Q : Exit → Act → World → Prop} (s : ∀ e env h, K e env h → At F (Q e) env h) {id : Nat} {ops : Array Oper} (n : Nat) (b : bBi n ops.toList = true) {keep : List Nat} {env : St} {h : List Obj}
  (hv : vcA F.E h env (ops.toList.take n) 0 [] (fun g => vR F.E ops.toList (ops.toList.drop n) (oT F.E.T (gA (ops.toList.take n) 0) (nE g env) h).1 (oT F.E.T (gA (ops.toList.take n) 0) (nE g env) h).2 (fun env h => K .normal (keep.map fun t => (t, look env t)) h))) :
  Tri F (.region id ops true) Q env h := fun f c a w hs => by
 simp only [iH, Bool.and_eq_true, Bool.or_eq_true, Bool.not_eq_true'] at f
 obtain ⟨⟨J, I⟩, z⟩ := f
 simp only [bBi, Bool.and_eq_true] at b
 obtain ⟨⟨j, q⟩, L⟩ := b
 have e : ops.toList.take n ++ ops.toList.drop n = ops.toList := List.take_append_drop n ops.toList
 have := bCr (id := id) (pre := ops.toList.take n) (tail := ops.toList.drop n) (Q := Q) hF.env hF.mix (by grind) q j (by simp_all) hs (K' := fun env h => K .normal (keep.map fun t => (t, look env t)) h) (by simp_all) (fun env h c a w r hs => s _ _ _ r c a w (hs.keep keep))
 simp_all
theorem aJf (hF : VOK F p) : ∀ (c : Code) (K : Exit → St → List Obj → Prop) (Q : Exit → Act → World → Prop), (∀ e env h, K e env h → At F (Q e) env h) → ∀ env h, vcC F p c K Q env h → Tri F c Q env h
 | .skip, K, Q, f, env, h, hv => eJ (f _ _ _ hv)
 | .label _, K, Q, f, env, h, hv => aUq (f _ _ _ hv)
 | .exit _, K, Q, f, env, h, hv => aEB (f _ _ _ hv)
 | .ret, K, Q, f, env, h, hv => jS (f _ _ _ hv)
 | .seq x y, K, Q, f, env, h, hv => by
  unfold vcC at hv
  split at hv
  ·exact hv
  ·refine aO (aJf hF x _ _ (fun e env h g => ?_) env h hv)
   cases e with
   | normal => exact aQ (aJf hF y K Q f env h g)
   | _ => exact f _ env h g
 | .cond o x y, K, Q, f, env, h, hv => by
  unfold vcC at hv
  split at hv
  ·rename_i b hb
   exact dC hb (fun e => aJf hF x K Q f env h (hv.1 e)) (fun e => aJf hF y K Q f env h (hv.2 (by simp_all)))
  simp_all
 | .block s x, K, Q, f, env, h, hv => by
  refine qW (aJf hF x _ _ (fun e env h g => ?_) env h hv)
  cases e with
  | normal => exact f .normal env h g
  | ret => exact f .ret env h g
  | exit j =>
   simp only [bEV] at g
   split at g
   ·rename_i hd
    obtain rfl := of_decide_eq_true hd
    grind [qK]
   grind [aI8, of_decide_eq_false]
  | _ => exact g.elim
 | .scope x, K, Q, f, env, h, hv => by
  refine aUx (aJf hF x _ _ (fun e env h g => ?_) env h hv)
  cases e with
  | normal => exact f .normal env h g
  | ret => exact f .ret env h g
  | exit j => exact f (.exit j) env h g
  | _ => exact g.elim
 | .region s ops r, K, Q, f, env, h, hv => by
  unfold vcC at hv
  split at hv
  ·exact bAk hF.fr f hv
  ·obtain ⟨rfl, hv⟩ := hv; exact bAl hF.fr f hv
  ·obtain ⟨⟨rfl, q⟩, hv⟩ := hv; exact bEW hF.fr f _ q hv
  ·obtain ⟨rfl, hv⟩ := hv; exact bAb hF.fr f (aXm hF.hits) _ _ hv
  ·obtain ⟨⟨rfl, q⟩, hv⟩ := hv; exact bET hF.fr f (aXm hF.hits) _ q _ _ hv
  omega
 | .loop x, K, Q, f, env, h, hv => hv
 | .rangeFunc _ _ _ _, K, Q, f, env, h, hv => hv
 | .goto _, K, Q, f, env, h, hv => hv
 | .refuse _, K, Q, f, env, h, hv => hv
end
inductive Kt where
 | fin (Q : Exit → Act → World → Prop)
 | seq (y : Code) (k : Kt)
 | blk (id : Nat) (k : Kt)
 | scp (k : Kt)
 | stp (K : Act → World → Prop) (k : Kt)
def aB3 (F : Fr) : Kt → Exit → Act → World → Prop
 | .fin Q => Q
 | .seq y k => Exit.then (Next F y (aB3 F k)) (aB3 F k)
 | .blk b k => Exit.inBlock b (aB3 F k)
 | .scp k => Exit.noGoto (aB3 F k)
 | .stp K k => Exit.then K (aB3 F k)
def den (F : Fr) (p : PlR) : Kt → Exit → St → List Obj → Prop
 | .fin Q => fun e env h => At F (Q e) env h
 | .seq y k => bGK (vcC F p y (den F p k) (aB3 F k)) (den F p k)
 | .blk b k => bEV b (den F p k)
 | .scp k => bHk (den F p k)
 | .stp K k => bGK (fun env h => At F K env h) (den F p k)
def vcT (F : Fr) (p : PlR) (c : Code) (k : Kt) (env : St) (h : List Obj) : Prop := vcC F p c (den F p k) (aB3 F k) env h
section
variable {F : Fr} {p : PlR} {k : Kt} {env : St} {h : List Obj}
theorem aBs (hF : VOK F p) : ∀ (k : Kt) (e : Exit) (env : St) (h : List Obj), den F p k e env h → At F (aB3 F k e) env h
 | .fin Q, e, env, h, b => b
 | .seq y k, e, env, h, b => by
  cases e with
  | normal => exact aQ (aJf hF y _ _ (aBs hF k) env h b)
  | _ => exact aBs hF k _ env h b
 | .blk f k, e, env, h, b => by
  cases e with
  | normal => exact aBs hF k .normal env h b
  | ret => exact aBs hF k .ret env h b
  | exit j =>
   simp only [den, bEV] at b
   split at b
   ·rename_i hd
    obtain rfl := of_decide_eq_true hd
    exact qK (aBs hF k .normal env h b)
   ·rename_i hd
    exact aI8 (of_decide_eq_false hd) (aBs hF k (.exit j) env h b)
  | _ => exact b.elim
 | .scp k, e, env, h, b => by
  cases e with
  | normal => exact aBs hF k .normal env h b
  | ret => exact aBs hF k .ret env h b
  | exit j => exact aBs hF k (.exit j) env h b
  | _ => exact b.elim
 | .stp K k, e, env, h, b => by
  cases e with
  | normal => exact b
  | _ => exact aBs hF k _ env h b
theorem aR9 (hF : VOK F p) {c : Code} (hv : vcT F p c k env h) : Tri F c (aB3 F k) env h := aJf hF c _ _ (aBs hF k) env h hv
theorem aFV (hF : VOK F p) {e : Exit} (hv : den F p k e env h) : At F (aB3 F k e) env h := aBs hF k e env h hv
theorem bCJ : vcT F p .skip k env h = den F p k .normal env h := propext Iff.rfl
theorem bBj {l : Nat} : vcT F p (.label l) k env h = den F p k .normal env h := propext Iff.rfl
theorem bCK {id : Nat} : vcT F p (.exit id) k env h = den F p k (.exit id) env h := propext Iff.rfl
theorem bEX : vcT F p .ret k env h = den F p k .ret env h := propext Iff.rfl
theorem bEY {x y : Code} : vcT F p (.seq x y) k env h = match aXn p.stops x y with
  | true => Tri F (.seq x y) (aB3 F k) env h
  | false => vcT F p x (.seq y k) env h := propext Iff.rfl
theorem bCL {o : Operand} {x y : Code} : vcT F p (.cond o x y) k env h = match evA F.E.G env o with
  | .val .bool b => (b = true → vcT F p x k env h) ∧ (¬ b = true → vcT F p y k env h)
  | _ => False := propext Iff.rfl
theorem bBk {id : Nat} {x : Code} : vcT F p (.block id x) k env h = vcT F p x (.blk id k) env h := propext Iff.rfl
theorem bBl {x : Code} : vcT F p (.scope x) k env h = vcT F p x (.scp k) env h := propext Iff.rfl
theorem bCM {x : Code} : vcT F p (.loop x) k env h = Tri F (.loop x) (aB3 F k) env h := propext Iff.rfl
theorem aYX {id : Nat} {ops : Array Oper} {b : Bool} : vcT F p (.region id ops b) k env h = match bEU p.reg id with
  | .A keep => vcA F.E h env ops.toList 0 [] (fun f => den F p k .normal (aTs keep f env) h)
  | .B keep => b = false ∧ vR F.E ops.toList ops.toList env h (fun env h => den F p k .normal (keep.map fun t => (t, look env t)) h)
  | .C n keep => (b = true ∧ bBi n ops.toList = true) ∧
    vcA F.E h env (ops.toList.take n) 0 [] (fun f => vR F.E ops.toList (ops.toList.drop n) (oT F.E.T (gA (ops.toList.take n) 0) (nE f env) h).1 (oT F.E.T (gA (ops.toList.take n) 0) (nE f env) h).2 (fun env h => den F p k .normal (keep.map fun t => (t, look env t)) h))
  | .P keep sb => b = false ∧ aBo F.E (aVx p.dl) sb ops.toList ops.toList env h (fun env h => den F p k .normal (keep.map fun t => (t, look env t)) h) (fun e env h => AtP F (aB3 F k) e env h)
  | .Q n keep sb => (b = true ∧ bBi n ops.toList = true) ∧
    vcA F.E h env (ops.toList.take n) 0 [] (fun f => aBo F.E (aVx p.dl) sb ops.toList (ops.toList.drop n) (oT F.E.T (gA (ops.toList.take n) 0) (nE f env) h).1 (oT F.E.T (gA (ops.toList.take n) 0) (nE f env) h).2 (fun env h => den F p k .normal (keep.map fun t => (t, look env t)) h) (fun e env h => AtP F (aB3 F k) e env h))
  | .stop => Tri F (.region id ops b) (aB3 F k) env h := propext Iff.rfl
theorem bEZ {Q : Exit → Act → World → Prop} {e : Exit} : den F p (.fin Q) e env h = At F (Q e) env h := propext Iff.rfl
theorem bCN {y : Code} : den F p (.seq y k) .normal env h = vcT F p y k env h := propext Iff.rfl
theorem bCO {y : Code} {id : Nat} : den F p (.seq y k) (.exit id) env h = den F p k (.exit id) env h := propext Iff.rfl
theorem bCP {y : Code} : den F p (.seq y k) .ret env h = den F p k .ret env h := propext Iff.rfl
theorem bCQ {id : Nat} : den F p (.blk id k) .normal env h = den F p k .normal env h := propext Iff.rfl
theorem bCR {id j : Nat} : den F p (.blk id k) (.exit j) env h = match decide (j = id) with
  | true => den F p k .normal env h
  | false => den F p k (.exit j) env h := propext Iff.rfl
theorem bCS {id : Nat} : den F p (.blk id k) .ret env h = den F p k .ret env h := propext Iff.rfl
theorem bCT : den F p (.scp k) .normal env h = den F p k .normal env h := propext Iff.rfl
theorem bCU {j : Nat} : den F p (.scp k) (.exit j) env h = den F p k (.exit j) env h := propext Iff.rfl
theorem bCV : den F p (.scp k) .ret env h = den F p k .ret env h := propext Iff.rfl
theorem bCW {K : Act → World → Prop} : den F p (.stp K k) .normal env h = At F K env h := propext Iff.rfl
theorem bCX {K : Act → World → Prop} {j : Nat} : den F p (.stp K k) (.exit j) env h = den F p k (.exit j) env h := propext Iff.rfl
theorem bCY {K : Act → World → Prop} : den F p (.stp K k) .ret env h = den F p k .ret env h := propext Iff.rfl
theorem bE0 {E : Env} {i : Nat} {b : List Ent} {K : List Ent → Prop} : vcA E h env [] i b K = K b := propext Iff.rfl
theorem bCZ {E : Env} {o : Oper} {r : List Oper} {i : Nat} {b : List Ent} {K : List Ent → Prop} : vcA E h env (o :: r) i b K = match o.dst, opA E h env b o with
  | some d, (p, v) => aFp b o.guard ∧ (jB b (aFe b o.guard) → p) ∧ vcA E h env r (i + 1) (⟨i, d, aFe b o.guard, v⟩ :: b) K
  | none, _ => False := propext (by rfl)
theorem bC0 {E : Env} {all : List Oper} {K : St → List Obj → Prop} : vR E all [] env h K = K env h := propext Iff.rfl
theorem bBm {E : Env} {all : List Oper} {o : Oper} {r : List Oper} {K : St → List Obj → Prop} : vR E all (o :: r) env h K = match o.guard with
  | none => match zH E env h o with
   | (p, v, h') => p ∧ vR E all r (xH o.dst v env) h' K
  | some (j, f) => match aJc all j with
   | some g => match look env g with
    | .val .bool b => (b = f → match zH E env h o with
      | (p, v, h') => p ∧ vR E all r (xH o.dst v env) h' K) ∧ (b = !f → vR E all r (xH o.dst .undef env) h K)
    | .undef => vR E all r (xH o.dst .undef env) h K
    | _ => False
   | none => False := propext (by rfl)
theorem cX (hF : VOK F p) {x y : Code} {D : Type} (J : D → Prop) (keep : List Nat) (f : D → St) (b : D → List (Nat ⊕ Obj))
  (g : vcT F p x (.stp (fun j w' => ∃ d' c', J d' ∧ Sim F.E F.M F.w0 F.nt F.ds c' (aLy env keep (f d')) (xI h (b d')) j w') k) env h)
  (q : ∀ d, J d → vcT F p y k (aLy env keep (f d)) (xI h (b d))) : Tri F (.seq x y) (aB3 F k) env h :=
 aW1 J (fun d => aLy env keep (f d)) (fun d => xI h (b d)) (aR9 hF g) (fun d hd => aR9 hF (q d hd))
theorem bM (hF : VOK F p) {x : Code} {D E R : Type} {G : Md} {step : D → Option (D ⊕ E)} {b : E → Option R} {Θ : R → Prop} {d0 : D} (keep : List Nat) (g : D → St) (f : D → List (Nat ⊕ Obj))
  (hd : sat ((dG G step d0).bind b) Θ) (L : h = xI h (f d0)) (I : xA h env (aLy env keep (g d0)))
  (round : ∀ d (A : D → Prop) (B : D ⊕ E → Prop), (∀ x, B (.inl x) → A x) → (∀ e, B (.inr e) → sat (b e) Θ) → sat (step d) B → vcT F p x (.stp (fun N w' => ∃ d' c', A d' ∧ Sim F.E F.M F.w0 F.nt F.ds c' (aLy env keep (g d')) (xI h (f d')) N w') k) (aLy env keep (g d)) (xI h (f d))) : Tri F (.loop x) (aB3 F k) env h := by
 obtain ⟨r, q, j⟩ := hd
 refine aW0 (fun d => (dG G step d).bind b = some r) (aHj step) (fun d => aLy env keep (g d)) (fun d => xI h (f d)) (aU d0 q L I) fun d hi => ?_
 obtain ⟨s, O, J⟩ := aR5 hi
 refine aR9 hF (k := .stp _ k) (round d (fun d' => (dG G step d').bind b = some r ∧ aHj step d' < aHj step d) (aBp (fun d' => (dG G step d').bind b = some r ∧ aHj step d' < aHj step d) (fun e => b e = some r)) (fun _ z => z) (fun e U => ⟨r, U, j⟩) ⟨s, O, J⟩)
theorem sZ (hF : VOK F p) {id : Nat} {ops : Array Oper} {b : Bool} (keep : List Nat) (hv : vcA F.E h env ops.toList 0 [] (fun f => den F p k .normal (aTs keep f env) h)) : Tri F (.region id ops b) (aB3 F k) env h :=
 bAk hF.fr (aBs hF k) hv
theorem aSa (hF : VOK F p) {id : Nat} {ops : Array Oper} (keep : List Nat) (hv : vR F.E ops.toList ops.toList env h (fun env h => den F p k .normal (keep.map fun t => (t, look env t)) h)) : Tri F (.region id ops false) (aB3 F k) env h :=
 bAl hF.fr (aBs hF k) hv
def bGc (P : Program) (fn : Func) (S : Nat → Prop) (w0 : World) (r : RK) (Θ : r.ty.den → Prop) : Exit → Act → World → Prop := fun e a w => ∃ y, Θ y ∧ post P fn S w0 r y e a w
theorem aH {F : Fr} {fn : Func} {S : Nat → Prop} {r : RK} {Θ : r.ty.den → Prop} {env : St} {h : List Obj} {p : PlR} (hF : VOK F p) (l : List ResultVar) (j : F.M = top S) (b : F.ds = []) (g : fn.results = l.toArray) {y : r.ty.den} (f : Θ y) (hq : (aR F.E.T h env l).1 ∧ nH h r y (aR F.E.T h env l).2) : At F (bGc F.P fn S F.w0 r Θ .ret) env h :=
 fun c a w hs => ⟨y, f, sA hF.fr l j b g hq c a w hs⟩
theorem bN {P : Program} {E : Env} {f : FuncId} {fn : Func} {b : Code} {a : Ty} {r : RK} {m : a.den → Option r.ty.den} (j : iA P E) (hm : P.follows .mixedOrders = true) (J : P.funcs[f]? = some fn) (hb : fn.body = some b) (g : iH fn.ntmps b = true) (q : aPC a ≤ fn.ntmps) (p : PlR)
  (ht : ∀ (w0 : World) (S : Nat → Prop) (x : a.den) (Θ : r.ty.den → Prop), a.wf x → sat (m x) Θ → VOK (fr P E S w0 fn.ntmps) p → vcT (fr P E S w0 fn.ntmps) p b (.fin (bGc P fn S w0 r Θ)) (bT a x 0) []) (hd : aHn P E.G p.dl := by exact .nil) : FOK P E.G f (mSpec a r m) :=
 aGp j J hb g q fun w0 S x y L I => by
  have hF : VOK (fr P E S w0 fn.ntmps) p := ⟨⟨j, hm⟩, hd⟩
  have := aR9 hF (ht w0 S x (fun z => z = y) L ⟨y, I, rfl⟩ hF)
  intro g c a w hs
  refine wp_mono (this g c a w hs) fun e N w' hq => ?_
  obtain ⟨z, rfl, s⟩ := hq
  exact s
theorem kE {P : Program} {E : Env} {f : FuncId} {fn : Func} {b : Code} {sp : fT} (j : iA P E) (hm : P.follows .mixedOrders = true) (s : P.funcs[f]? = some fn) (hb : fn.body = some b) (g : iH fn.ntmps b = true) (q : ∀ d, (sp.av d).length ≤ fn.ntmps) (p : PlR)
  (ht : ∀ (c : Ctx) (w : World) (d : sp.D), AV.wfL (sp.av d) → Obj.wfL (sp.hp d) → sp.pre d → VOK ⟨P, E, GM sp c d, w, fn.ntmps, []⟩ p → vcT ⟨P, E, GM sp c d, w, fn.ntmps, []⟩ p b (.fin (bodyPost P fn (aMH sp c w d))) (tP ((sp.av d).map rpV) 0) (sp.hp d)) (hd : aHn P E.G p.dl := by exact .nil) : GOK P E.G f sp :=
 aXj j s hb g q fun c w d I z r _ =>
  have hF : VOK ⟨P, E, GM sp c d, w, fn.ntmps, []⟩ p := ⟨⟨j, hm⟩, hd⟩
  aR9 hF (ht c w d I z r hF)
theorem kF {α : Type} {o : Option α} {r : α} (h : o = some r) : sat o (fun z => z = r) := ⟨r, h, rfl⟩
theorem aL {α : Type} {a r : α} (h : sat (some a) (fun z => z = r)) : a = r := by
 obtain ⟨x, f, b⟩ := h
 cases f
 exact b
theorem pD {α : Type} {o : Option α} {Θ : α → Prop} {x : α} (h : o = some x) (hq : Θ x) : sat o Θ := ⟨x, h, hq⟩
def gX (vs : List AV) (i : Nat) : Nat := match vs.getD i .junk with | .ptr j _ => j | _ => 0
def bHL (vs : List AV) (i j : Nat) : Nat := match vs.getD i .junk with | .fn _ l _ => l.getD j 0 | _ => 0
def bHM (h : List Obj) (i j : Nat) : Nat := match h.getD i .dead with | .box _ (.fn _ _ l) => l.getD j 0 | _ => 0
end
section
variable {F : Fr} {p : PlR} {k : Kt} {env : St} {h : List Obj} {e : Pan}
theorem bE1 {Q : Exit → Act → World → Prop} : AtP F (aB3 F (.fin Q)) e env h = AtP F Q e env h := rfl
theorem bE2 {y : Code} : AtP F (aB3 F (.seq y k)) e env h = AtP F (aB3 F k) e env h := rfl
theorem bE3 {id : Nat} : AtP F (aB3 F (.blk id k)) e env h = AtP F (aB3 F k) e env h := rfl
theorem bE4 : AtP F (aB3 F (.scp k)) e env h = AtP F (aB3 F k) e env h := rfl
theorem bE5 {K : Act → World → Prop} : AtP F (aB3 F (.stp K k)) e env h = AtP F (aB3 F k) e env h := rfl
variable {E : Env} {Δ : FuncId → List AV → List Obj → Option Hit} {sb : List Nat} {all : List Oper} {K : St → List Obj → Prop} {Kp : Pan → St → List Obj → Prop}
theorem bC1 : aBo E Δ sb all [] env h K Kp = K env h := rfl
theorem bBn {o : Oper} {r : List Oper} : aBo E Δ sb all (o :: r) env h K Kp = match o.guard with
  | none => aJe E Δ sb env h o (fun v h' => aBo E Δ sb all r (xH o.dst v env) h' K Kp) (fun p h' => Kp p env h')
  | some (j, f) => match aJc all j with
   | some g => match look env g with
    | .val .bool b => (b = f → aJe E Δ sb env h o (fun v h' => aBo E Δ sb all r (xH o.dst v env) h' K Kp) (fun p h' => Kp p env h')) ∧ (b = !f → aBo E Δ sb all r (xH o.dst .undef env) h K Kp)
    | .undef => aBo E Δ sb all r (xH o.dst .undef env) h K Kp
    | _ => False
   | none => False := propext (by rfl)
class KGo where
 k : AV → List Obj → Prop
 kp : Pan → List Obj → Prop
def goH (h : List Obj) (vs : List AV) (t : Hit) [w : KGo] : Prop :=
 aMI h vs t ∧ aXc (t.sp.out t.d) (fun v h' => bCw (sC t.σ t.sp.m h.length h'.length) v = true ∧ w.k (emb (sC t.σ t.sp.m h.length h'.length) v) (aEF t.σ t.sp.m h h')) (fun p h' => w.kp p (aEF t.σ t.sp.m h h'))
theorem bGL {vs : List AV} {sp : fT} {σ : List Nat} {d : sp.D} {k : AV → List Obj → Prop} {kp : Pan → List Obj → Prop} : @goH h vs ⟨sp, σ, d⟩ ⟨k, kp⟩ = (aMI h vs ⟨sp, σ, d⟩ ∧ aXc (sp.out d) (fun v h' => bCw (sC σ sp.m h.length h'.length) v = true ∧ k (emb (sC σ sp.m h.length h'.length) v) (aEF σ sp.m h h')) (fun p h' => kp p (aEF σ sp.m h h'))) := rfl
theorem bC2 {o : Oper} {k : AV → List Obj → Prop} {kp : Pan → List Obj → Prop} : aJe E Δ sb env h o k kp = match aXf Δ h (aCZ E.G env h o) with
  | some t => @goH h (aVr (aCZ E.G env h o)) t ⟨k, kp⟩
  | none => match aRZ E.G env o with
   | some p => kp p h
   | none => match aR0 E sb env h o with
    | (p, v, h') => p ∧ k v h' := propext (by rfl)
end
attribute [go_sem ↓] bE1 bE2 bE3 bE4 bE5 bC1 bBn bC2 aXd aXe
attribute [go_sem] aVx rD gX bHM bHL bCI bGL
attribute [go_sem ↓] bCJ bBj bCK bEX bEY bCL bBk bBl bCM aYX
attribute [go_sem ↓] bEZ bCN bCO bCP bCQ bCR bCS bCT bCU bCV bCW bCX bCY
attribute [go_sem ↓] bE0 bCZ bC0 bBm
attribute [go_sem] bEU first aXn xA eV nH eq_self bCH
end Go.Vc
namespace Go.Vc
open Go.RowKit
section
variable {F : Fr} {K : Act → World → Prop} {env : St} {h : List Obj}
theorem bBo (i q : Nat) (e : TypeId) (m : Mk) (t : Ty) {n : Nat} {vs : List AV} (ho : h[i]? = some (.box n (.agg vs))) (hq : vs[q]? = some .nilS) (Z : vs.all AV.solid1 = true) (hk : At F K env (h.set i (.box n (.agg (vs.set q (.own h.length)))) ++ [aGk e m t []])) : At F K env h := fun c a w hs => by
 have U : i < h.length := aAC ho
 have hin : i < c.n := by rw [hs.good.n]; exact U
 have N : lH w c.S (.sl t) (.sl e m) [] [.slice none 0 0] [] := ⟨.slice none 0 0, [], [], rfl, World.ownsRow_nil w 0 e t.cells, rfl, rfl, rfl, fun i h => by simp at h⟩
 obtain ⟨c', hl, O, hv⟩ := hs.good.taken [] (w' := w) rfl rfl rfl (Nat.le_refl _) (fun _ _ _ => rfl) N List.nodup_nil (fun b hb => by cases hb) ⟨_, _, _, rfl⟩
 have O : Good F.M F.w0 c' (h ++ [aGk e m t []]) w := O
 have f : (h ++ [aGk e m t []])[i]? = some (.box n (.agg vs)) := by grind
 obtain ⟨b, cells, e', q1, q2, q3, q4⟩ := O.objs i _ f
 simp only [aM] at q4
 obtain ⟨I, hqe⟩ := List.getElem?_eq_some_iff.1 hq
 obtain ⟨pre, ds, post, e1, hp, hd, z⟩ := aRc q4 (fun v hv => List.all_eq_true.1 Z v hv) I
 have hfo : ∀ (vs : List AV) (q : Nat) (hq : q < vs.length), (dO (.agg vs) q).1 = vs[q] := by
  intro vs
  induction vs with
  | nil => simp_all
  | cons v r ih => intro q hq; cases q with
   | zero => rfl
   | succ q => simp only [dO, List.getElem_cons_succ]; exact ih q (by simpa using hq)
 rw [hfo vs q I, hqe] at hd
 have hd : ds = [.slice none 0 0] := hd
 subst hd
 have J : aM c' w (.own h.length) [.slice none 0 0] := by
  obtain ⟨hh, _⟩ := hv
  exact hh
 have W := z (.own h.length) _ J
 rw [← e1] at W
 have Y := O.retell f (o' := .box n (.agg (vs.set q (.own h.length)))) (S' := c'.S) (B' := c'.bl i) (fun b hb => .inl hb) (fun b hb => hb) ⟨b, cells, e', q1, q2, q3, by
  have hle : c'.le ⟨c'.S, c'.hd, c'.n, fun j => if j = i then c'.bl i else c'.bl j⟩ := ⟨fun _ h => h, Nat.le_refl _, fun _ _ => rfl⟩
  have : aM c' w (.agg (vs.set q (.own h.length))) cells.toList := by grind [aM]
  exact aM.keep hle (.refl _ _) _ _ this⟩ (fun b hb => ⟨hb, (O.own i _ b f hb).2.2⟩)
 obtain ⟨c2, hl2, L⟩ := Y
 rw [List.set_append_left _ _ U] at L
 have g := hl.trans hl2
 exact hk c2 a w ⟨L, hs.glob.mono g.le.S g.same, fun s => g.val (hs.env s), hs.size, hs.defers⟩
theorem aSb {x : Code} {Q : Exit → Act → World → Prop} (i q : Nat) (e : TypeId) (m : Mk) (t : Ty) {n : Nat} {vs : List AV} (j : h[i]? = some (.box n (.agg vs))) (hq : vs[q]? = some .nilS) (f : vs.all AV.solid1 = true) (g : Tri F x Q env (h.set i (.box n (.agg (vs.set q (.own h.length)))) ++ [aGk e m t []])) : Tri F x Q env h := fun b => bBo i q e m t j hq f (g b)
end
end Go.Vc
namespace Go.Vc
open Go.RowKit
end Go.Vc
namespace Go.Vc
open Go.RowKit
def bitsOf (n : Nat) (done : List Nat) : List Bool := (List.range n).map fun i => done.contains i
def bHl (F : Fr) (f : List Bool → St × List Obj) (downs : List (List Bool)) (b : List Bool) (d : Option Nat) (env : St) (r : Prop × AV × List Obj) : Prop := match r with
 | (p, v, h') => p ∧ b ∈ downs ∧ ∃ σ, nodupB σ = true ∧ preB F.M.m σ = true ∧ ((f b).1.map fun q => (q.1, ren σ (look (xH d v env) q.1))) = (f b).1 ∧ (σ.map fun j => dF σ (h'.getD j .dead)) = (f b).2
def stT (F : Fr) (ops : List Oper) (b : List Bool → St × List Obj) (downs : List (List Bool)) (f : List Bool) (i : Nat) : Prop :=
 match ops[i]? with
 | some o => o.guard = none ∧ bHl F b downs (f.set i true) o.dst (b f).1 (zH F.E (b f).1 (b f).2 o)
 | none => False
inductive Dk where
 | v (t : Nat) (x : AV)
 | mk (t : Nat) (o : Obj)
 | cp (t j : Nat)
 | st (i : Nat) (o : Obj)
def bC3 : List Dk → List Bool → Nat → Nat
 | _, _, 0 => 0
 | .mk _ _ :: r, true :: bs, j + 1 => bC3 r bs j + 1
 | _ :: r, _ :: bs, j + 1 => bC3 r bs j
 | _, _, _ + 1 => 0
def bHm (ds : List Dk) (b : List Bool) (n i : Nat) : Dk → Nat × AV
 | .v t x => (t, x)
 | .mk t _ => (t, .own (n + bC3 ds b i))
 | .cp t j => (t, .own (n + bC3 ds b j))
 | .st _ _ => (0, .junk)
def bC4 (ds : List Dk) (f : List Bool) (n : Nat) : List Dk → List Bool → Nat → St
 | _, [], _ => []
 | [], _ :: _, _ => []
 | .st _ _ :: r, true :: b, i => bC4 ds f n r b (i + 1)
 | d :: r, true :: b, i => bHm ds f n i d :: bC4 ds f n r b (i + 1)
 | _ :: r, false :: b, i => bC4 ds f n r b (i + 1)
def bE6 : List Dk → List Bool → List Obj
 | .mk _ o :: r, true :: b => o :: bE6 r b
 | _ :: r, _ :: b => bE6 r b
 | _, _ => []
def bE7 : List Dk → List Bool → List Obj → List Obj
 | .st i o :: r, true :: b, h => bE7 r b (h.set i o)
 | _ :: r, _ :: b, h => bE7 r b h
 | _, _, h => h
def bHN (env : St) (h : List Obj) (ds : List Dk) (b : List Bool) : St × List Obj := (bC4 ds b h.length ds b 0 ++ env, bE7 ds b h ++ bE6 ds b)
def stL (F : Fr) (ops : List Oper) (b : List Bool → St × List Obj) (downs : List (List Bool)) (f : List Bool) : List Nat → Prop
 | [] => True
 | i :: r => stT F ops b downs f i ∧ stL F ops b downs f r
def stM (F : Fr) (ops : List Oper) (b : List Bool → St × List Obj) (downs : List (List Bool)) : List (List Bool × List Nat) → Prop
 | [] => True
 | p :: r => stL F ops b downs p.1 p.2 ∧ stM F ops b downs r
attribute [go_sem] stM stL stT bHl bHN bC4 bHm bE6 bE7 bC3 bitsOf
end Go.Vc
namespace Go.Vc
open Go.RowKit
def aC1 (ops : List Oper) (a b : Nat) : Bool := match ops[a]? with
 | some o => o.after.toList.any fun e => Region.binds .any e && e.on == b
 | none => false
def aEI (ops : List Oper) (i : Nat) : Option Nat := match ops[i]? with
 | some o => o.dst
 | none => none
def okK (ops : List Oper) (b : List Nat) (i k : Nat) : Bool := (List.range b.length).all fun m => bif m < k then !aC1 ops (b.getD m 0) i && !(b.getD m 0 == i) else !aC1 ops i (b.getD m 0)
def bC5 (ops : List Oper) (b : List Nat) : Bool := (List.range b.length).all fun m => m == 0 || aC1 ops (b.getD m 0) (b.getD (m - 1) 0)
def bHn (ops : List Oper) (us : List (List Nat)) : Bool := (List.range ops.length).all fun j => (us.getD j []).all fun u => (List.range ops.length).all fun i => !(aEI ops i == some u) || aC1 ops j i
def bHo (ops : List Oper) : Bool := (List.range ops.length).all fun i => (List.range ops.length).all fun j => i == j || (aEI ops i).isNone || !(aEI ops i == aEI ops j)
def aLC (ops : List Oper) (xs : List AV) (env : St) (t : Nat) : AV := match (List.range ops.length).find? fun i => aEI ops i == some t with
 | some i => xs.getD i .junk
 | none => look env t
def stW (F : Fr) (ops : List Oper) (f : List St) (xs : List AV) (hs : List (List Obj)) (b : List Nat) (i k : Nat) : Prop :=
 match ops[i]? with
 | some o => o.guard = none ∧ match zH F.E (f.getD i []) (hs.getD k []) o with
  | (p, v, h') => p ∧ v = xs.getD i .junk ∧ h' = hs.getD (bif b.contains i then k + 1 else k) []
 | none => False
def bE8 (F : Fr) (ops : List Oper) (f : List St) (xs : List AV) (hs : List (List Obj)) (b : List Nat) : List (Nat × Nat) → Prop
 | [] => True
 | p :: r => stW F ops f xs hs b p.1 p.2 ∧ bE8 F ops f xs hs b r
theorem aXo {F : Fr} {ops : List Oper} {f : List St} {xs : List AV} {hs : List (List Obj)} {b : List Nat} : ∀ {l : List (Nat × Nat)}, bE8 F ops f xs hs b l → ∀ p ∈ l, stW F ops f xs hs b p.1 p.2
 | p :: r, h, q, hq => by
  rcases List.mem_cons.1 hq with rfl | hq
  ·exact h.1
  ·exact aXo h.2 q hq
structure aYY (ops : List Oper) (eff : List Nat) (us : List (List Nat)) : Prop where
 back : aXk ops = true
 chain : ∀ m, m < eff.length → m ≠ 0 → aC1 ops (eff.getD m 0) (eff.getD (m - 1) 0) = true
 effn : eff.Nodup
 effl : ∀ m, m < eff.length → eff.getD m 0 < ops.length
 use : ∀ j, j < ops.length → ∀ u ∈ us.getD j [], ∀ i, i < ops.length → aEI ops i = some u → aC1 ops j i = true
 dst : ∀ i j t, i < ops.length → j < ops.length → aEI ops i = some t → aEI ops j = some t → i = j
theorem bE9 {ops : List Oper} {b : List Nat} {us : List (List Nat)} (hc : aYY ops b us) {xs : List AV} {env : St} {t i : Nat} (hi : i < ops.length) (hd : aEI ops i = some t) : aLC ops xs env t = xs.getD i .junk := by
 unfold aLC
 cases f : (List.range ops.length).find? fun i => aEI ops i == some t with
 | none =>
  simp_all
 | some k =>
  have j := List.find?_some f
  have g := List.mem_range.1 (List.mem_of_find?_eq_some f)
  obtain rfl := hc.dst k i t g hi (by simp_all) hd
  rfl
theorem bFa {ops : List Oper} {xs : List AV} {env : St} {t : Nat} (h : ∀ i, i < ops.length → aEI ops i ≠ some t) : aLC ops xs env t = look env t := by
 unfold aLC
 grind
structure aMK (ops : List Oper) (eff : List Nat) (xs : List AV) (env0 : St) (done : List Nat) (k : Nat) (env : St) : Prop where
 kle : k ≤ eff.length
 kd : ∀ m, m < eff.length → (eff.getD m 0 ∈ done ↔ m < k)
 cl : ∀ i ∈ done, ∀ b, aC1 ops i b = true → b ∈ done
 hit : ∀ i ∈ done, ∀ t, aEI ops i = some t → look env t = xs.getD i .junk
 miss : ∀ t, (∀ i ∈ done, aEI ops i ≠ some t) → look env t = look env0 t
theorem aMK.val {ops : List Oper} {f : List Nat} {us : List (List Nat)} (hc : aYY ops f us) {xs : List AV} {b env : St} {done : List Nat} {k : Nat} (hv : aMK ops f xs b done k env) (t : Nat) (h : ∀ i, i < ops.length → aEI ops i = some t → i ∈ done) : aLC ops xs b t = look env t := by
 by_cases g : ∃ i, i < ops.length ∧ aEI ops i = some t
 ·obtain ⟨i, hi, hd⟩ := g
  rw [bE9 hc hi hd, hv.hit i (h i hi hd) t hd]
 ·have j : ∀ i, i < ops.length → aEI ops i ≠ some t := fun i hi hd => g ⟨i, hi, hd⟩
  rw [bFa j, hv.miss t fun i _ hd => ?_]
  grind [Nat.lt_or_ge, aEI, List.getElem?_eq_none]
theorem aCs {ops : List Oper} {done : List Nat} {j : Nat} (f : j ∈ aEH ops done) : ∀ b, aC1 ops j b = true → b ∈ done := fun b hb => by
 simp only [aEH, List.mem_filter, List.mem_range, Bool.and_eq_true] at f
 obtain ⟨r, g, q⟩ := f
 unfold aC1 at hb
 grind
theorem aXp {l : List Nat} {x : Nat} (h : x ∈ l) : ∃ m, m < l.length ∧ l.getD m 0 = x := by
 obtain ⟨m, hm, rfl⟩ := List.getElem_of_mem h
 exact ⟨m, hm, by simp_all⟩
theorem aMK.okk {ops : List Oper} {b : List Nat} {us : List (List Nat)} {xs : List AV} {g env : St} {done : List Nat} {k j : Nat} (hv : aMK ops b xs g done k env) (q : j ∈ aEH ops done) (f : j ∉ done) : okK ops b j k = true := by
 simp only [okK, List.all_eq_true, List.mem_range]
 intro m hm
 by_cases h : m < k
 ·rw [decide_eq_true h]
  simp only [cond_true, Bool.and_eq_true, Bool.not_eq_true', beq_eq_false_iff_ne, ne_eq]
  refine ⟨?_, fun e => f (e ▸ (hv.kd m hm).2 h)⟩
  cases hb : aC1 ops (b.getD m 0) j with
  | false => rfl
  | true => exact absurd (hv.cl _ ((hv.kd m hm).2 h) j hb) f
 ·rw [decide_eq_false h]
  simp only [cond_false, Bool.not_eq_true']
  cases hb : aC1 ops j (b.getD m 0) with
  | false => rfl
  | true => exact absurd ((hv.kd m hm).1 (aCs q _ hb)) h
theorem aUG {d : Option Nat} {v : AV} {env : St} {t : Nat} : look (xH d v env) t = if d = some t then v else look env t := by
 cases d with
 | none => rfl
 | some d =>
  simp only [xH, look, Option.some.injEq]
theorem aMK.step {ops : List Oper} {f : List Nat} {us : List (List Nat)} (hc : aYY ops f us) {xs : List AV} {g env : St} {done : List Nat} {k j : Nat} (hv : aMK ops f xs g done k env) (I : j ∈ aEH ops done) (q : j ∉ done) (s : j < ops.length) (z : ∀ i ∈ done, i < ops.length) :
  aMK ops f xs g (j :: done) (bif f.contains j then k + 1 else k) (xH (aEI ops j) (xs.getD j .junk) env) := by
 have r : ∀ m, m < f.length → f.getD m 0 = j → m = k := fun m hm e => by
  have N : ¬ m < k := fun h => q (e ▸ (hv.kd m hm).2 h)
  rcases Nat.eq_zero_or_pos m with h0 | h0
  ·omega
  ·have := aCs I _ (by rw [← e]; exact hc.chain m hm (by omega))
   have := (hv.kd (m - 1) (by omega)).1 this
   omega
 refine ⟨?_, fun m hm => ?_, fun i hi b hb => ?_, fun i hi t ht => ?_, fun t ht => ?_⟩
 ·cases hb : f.contains j with
  | false => exact hv.kle
  | true =>
   grind [aXp, List.contains_iff_mem]
 ·cases hb : f.contains j with
  | false =>
   have L : f.getD m 0 ≠ j := fun e => by
    grind
   show _ ↔ m < k
   rw [← hv.kd m hm]
   simp_all
  | true =>
   obtain ⟨n, J, e⟩ := aXp (List.contains_iff_mem.1 hb)
   have O := r n J e
   show _ ↔ m < k + 1
   constructor
   ·intro h
    rcases List.mem_cons.1 h with h | h
    ·simp_all
    ·have := (hv.kd m hm).1 h; omega
   ·intro h
    rcases Nat.lt_or_ge m k with h' | h'
    ·exact List.mem_cons_of_mem _ ((hv.kd m hm).2 h')
    grind
 ·rcases List.mem_cons.1 hi with rfl | hi
  ·exact List.mem_cons_of_mem _ (aCs I b hb)
  ·exact List.mem_cons_of_mem _ (hv.cl i hi b hb)
 ·rw [aUG]
  rcases List.mem_cons.1 hi with rfl | hi
  ·simp_all
  ·by_cases e : aEI ops j = some t
   ·exact absurd (hc.dst i j t (z i hi) s ht e) (fun e => q (e ▸ hi))
   ·rw [if_neg e]; exact hv.hit i hi t ht
 ·rw [aUG, if_neg (ht j List.mem_cons_self)]
  exact hv.miss t fun i hi => ht i (List.mem_cons_of_mem _ hi)
theorem bAm {F : Fr} {Q : Exit → Act → World → Prop} (hF : tI F) {ops : List Oper} {b : List Nat} {us : List (List Nat)} (hc : aYY ops b us) (hok : ∀ o ∈ ops, gY F.nt o = true) (xs : List AV) (f : St) (hs : List (List Obj)) (g : List St)
  (hue : ∀ j, j < ops.length → g.getD j [] = (us.getD j []).map fun t => (t, aLC ops xs f t)) (Z : ∀ i k, i < ops.length → k ≤ b.length → okK ops b i k = true → stW F ops g xs hs b i k)
  (keep : List Nat) (hK : At F (Q .normal) (keep.map fun t => (t, aLC ops xs f t)) (hs.getD b.length [])) :
  ∀ (n : Nat) (done : List Nat) (listed : Array Bool), listed.size = ops.length → (∀ k, k < ops.length → (listed.getD k false = true ↔ k ∈ done)) → done.length + n = ops.length → done.Nodup → (∀ k ∈ done, k < ops.length) → ∀ (k : Nat) (env : St), aMK ops b xs f done k env → ∀ (c : Ctx) (a : Act) (w : World), Sim F.E F.M F.w0 F.nt F.ds c env (hs.getD k []) a w → wpAny F.P .any ops.toArray Q n listed a w
 | 0, done, listed, hsz, hl, hn, hd, O, k, env, hv, c, a, w, q => by
  have I : ∀ j, j < ops.length → j ∈ done := fun j N => (aHl hd (m := List.range ops.length) (fun k r => List.mem_range.2 (O k r))).2 (by grind) j (List.mem_range.2 N)
  refine ⟨?_, ?_⟩
  ·rw [List.eq_nil_iff_forall_not_mem]
   grind [mem_ready, lD.get_lt']
  ·have r : k = b.length := by
    rcases Nat.lt_or_ge k b.length with h | h
    ·have := (hv.kd k h).1 (I _ (hc.effl k h)); omega
    ·have := hv.kle; omega
   subst r
   refine hK c a w ?_
   have e : (keep.map fun t => (t, aLC ops xs f t)) = keep.map fun t => (t, look env t) := by
    grind [List.map_congr_left, aMK.val]
   rw [e]
   exact q.keep keep
 | n + 1, done, listed, hsz, hl, hn, hd, O, k, env, hv, c, a, w, q => by
  have hrd : ∀ j, j ∈ Region.ready .any ops.toArray listed → j ∈ aEH ops done ∧ j ∉ done ∧ j < ops.length := fun j hj => by
   obtain ⟨h1, o, ho, hall⟩ := mem_ready.1 hj
   have ho : ops[j]? = some o := by simp_all
   have N := lD.get_lt' ho
   have hlt' : j < listed.size := by omega
   have hnd : j ∉ done := fun hm => by
    grind
   refine ⟨?_, hnd, N⟩
   simp only [aEH, List.mem_filter, List.mem_range, ho, Bool.and_eq_true, Bool.not_eq_true', List.contains_eq_mem, decide_eq_false_iff_not, List.all_eq_true, Bool.or_eq_true, decide_eq_true_eq]
   grind
  refine ⟨fun hr => ?_, fun j hj => ?_⟩
  ·exfalso
   have U : ∃ k, (k < ops.length ∧ k ∉ done) ∧ ∀ j, j < k → ¬ (j < ops.length ∧ j ∉ done) := by
    have U : ∃ k, k < ops.length ∧ k ∉ done := by
     apply Classical.byContradiction
     intro hc
     have I : List.range ops.length ⊆ done := fun k r => Classical.byContradiction fun hk2 => hc ⟨k, List.mem_range.1 r, hk2⟩
     have := (aHl (List.nodup_range (n := ops.length)) (fun k r => I r)).1
     grind
    obtain ⟨n, h1, h2⟩ := aGm U
    grind
   obtain ⟨k, ⟨r, hkd⟩, hlow⟩ := U
   have hmem : k ∈ Region.ready .any ops.toArray listed := by
    rw [mem_ready]
    have hlt' : k < listed.size := by omega
    have hun : ¬ listed.getD k false = true := fun h => hkd ((hl k r).1 h)
    refine ⟨by grind, ops[k], by simp [r], fun e he hbe => ?_⟩
    have hbk := List.all_eq_true.1 hc.back (ops[k], k) (by grind)
    grind
   simp_all
  ·obtain ⟨r1, r2, W⟩ := hrd j hj
   have z := Z j k W hv.kle (hv.okk (us := us) r1 r2)
   have L : ops[j]? = some ops[j] := List.getElem?_eq_getElem W
   have hdo : aEI ops j = ops[j].dst := by simp [aEI, L]
   unfold stW at z
   rw [L] at z
   obtain ⟨hg, z⟩ := z
   have hs2 : (zH F.E (g.getD j []) (hs.getD k []) ops[j]).1 ∧ (zH F.E (g.getD j []) (hs.getD k []) ops[j]).2.1 = xs.getD j .junk ∧ (zH F.E (g.getD j []) (hs.getD k []) ops[j]).2.2 = hs.getD (bif b.contains j then k + 1 else k) [] := z
   obtain ⟨hp, hx, hh⟩ := hs2
   have J := hok ops[j] (List.getElem_mem W)
   have hw : Region.wanted ops[j] (yielded ops.toArray a.tmps) = true := by simp [Region.wanted, hg]
   have eu : g.getD j [] = (us.getD j []).map fun t => (t, look env t) := by
    rw [hue j W]
    refine List.map_congr_left fun t ht => ?_
    rw [aMK.val hc hv t (fun i hi hdi => aCs r1 i (hc.use j W t ht i hi hdi))]
   have hsimU := q.keep (us.getD j [])
   rw [← eu] at hsimU
   unfold wpOp
   simp only [List.getElem?_toArray, L]
   rw [if_pos hw]
   left
   refine (aKl hF.env hsimU J hp).wp fun v w' c' ha => ?_
   have s := q.after J ha
   rw [hx, hh] at s
   have Y := hv.step hc r1 r2 W O
   rw [hdo] at Y
   refine bAm hF hc hok xs f hs g hue Z keep hK n (j :: done) (listed.setIfInBounds j true) (by grind) (fun k r => ?_) (by grind) (List.nodup_cons.2 ⟨r2, hd⟩) (fun k r => ?_) _ _ Y c' _ w' s
   ·by_cases e : j = k
    ·simp_all
    ·rw [getD_set_ne false e, hl k r]
     grind
   grind
def bGM (ops : List Oper) (b : List Nat) (us : List (List Nat)) (f : List (Nat × Nat)) : Bool :=
 aXk ops && bC5 ops b && nodupB b && bHn ops us && bHo ops && b.all (fun e => decide (e < ops.length)) && (List.range ops.length).all fun i => (List.range (b.length + 1)).all fun k => !okK ops b i k || f.contains (i, k)
theorem bFb {ops : List Oper} {b : List Nat} {us : List (List Nat)} {g : List (Nat × Nat)} (h : bGM ops b us g = true) : aYY ops b us ∧ ∀ i k, i < ops.length → k ≤ b.length → okK ops b i k = true → (i, k) ∈ g := by
 simp only [bGM, Bool.and_eq_true] at h
 obtain ⟨⟨⟨⟨⟨⟨N, s⟩, q⟩, z⟩, L⟩, O⟩, r⟩ := h
 refine ⟨⟨N, fun m hm h0 => ?_, aRg q, fun m hm => ?_, fun j f u I i hi hd => ?_, fun i j t hi f hd J => ?_⟩, fun i k hi W U => ?_⟩
 ·have := List.all_eq_true.1 s m (List.mem_range.2 hm)
  simp_all
 ·simp_all
 ·have := List.all_eq_true.1 (List.all_eq_true.1 (List.all_eq_true.1 z j (List.mem_range.2 f)) u I) i (List.mem_range.2 hi)
  simp_all
 ·have := List.all_eq_true.1 (List.all_eq_true.1 L i (List.mem_range.2 hi)) j (List.mem_range.2 f)
  simp_all
 ·have := List.all_eq_true.1 (List.all_eq_true.1 r i (List.mem_range.2 hi)) k (List.mem_range.2 (by omega))
  simp_all
theorem aFu {F : Fr} {Q : Exit → Act → World → Prop} {env : St} {h : List Obj} (hF : tI F) {id : Nat} {ops : Array Oper} (keep : List Nat) (q : List Nat) (us : List (List Nat)) (L : List (Nat × Nat)) (xs : List AV) (hs : List (List Obj)) (r : List St)
  (hb : bGM ops.toList q us L = true) (U : (List.range ops.toList.length).map (fun j => (us.getD j []).map fun t => (t, aLC ops.toList xs env t)) = r) (h0 : hs.getD 0 [] = h)
  (I : bE8 F ops.toList r xs hs q L) (s : At F (Q .normal) (keep.map fun t => (t, aLC ops.toList xs env t)) (hs.getD q.length [])) : Tri F (.region id ops true) Q env h := fun z c a w f => by
 simp only [iH, Bool.and_eq_true, Bool.or_eq_true, Bool.not_eq_true'] at z
 obtain ⟨⟨O, Y⟩, W⟩ := z
 obtain ⟨hc, hp⟩ := bFb hb
 refine wp_region_any hF.mix ?_
 have g : dS c w c { w with drawn := w.drawn + 1 } := ⟨.refl _, fun b hb => rfl⟩
 have J : Sim F.E F.M F.w0 F.nt F.ds c env h a { w with drawn := w.drawn + 1 } :=
  ⟨f.good.step g rfl rfl ⟨rfl, rfl, rfl, Nat.le_refl _, fun _ _ _ => rfl⟩ (fun _ _ _ _ _ => rfl) f.good.sfin (fun _ hb => .inl hb), sG.mono (w := w) (w' := { w with drawn := w.drawn + 1 }) (fun _ hb => hb) g.same f.glob, f.env.keep g, f.size, f.defers⟩
 have := bAm (Q := Q) hF hc (List.all_eq_true.1 O) xs env hs r (fun j Z => by grind) (fun i k hi s N => aXo I (i, k) (hp i k hi s N)) keep s ops.toList.length [] (Array.replicate ops.size false) (by simp) (fun k s => by simp_all) (by simp) List.nodup_nil (fun k s => by cases s) 0 env
  ⟨Nat.zero_le _, fun m hm => by simp, fun i hi => (by cases hi), fun i hi => (by cases hi), fun t _ => rfl⟩ c a _ (by rw [h0]; exact J)
 omega
attribute [go_sem] bE8 stW
end Go.Vc
namespace Go.Vc
open Go.RowKit
def Ret (h h' : List Obj) : Prop := ∀ (M : Perm) (w0 : World) (c : Ctx) (w : World), Good M w0 c h w → ∃ c', dS c w c' w ∧ Good M w0 c' h' w
theorem aE {h : List Obj} : Ret h h := fun M w0 c w b => ⟨c, .refl _ _, b⟩
theorem aOt {a b d : List Obj} (q : Ret a b) (j : Ret b d) : Ret a d := fun M w0 c w f => by
 obtain ⟨c1, g, g1⟩ := q M w0 c w f
 obtain ⟨r, l2, s⟩ := j M w0 c1 w g1
 exact ⟨r, g.trans l2, s⟩
section
variable {P : Program} {E : Env} {M : Perm} {w0 : World} {nt : Nat} {ds : List Deferred}
theorem Sim.ret {c : Ctx} {env : St} {h h' : List Obj} {a : Act} {w : World} (hs : Sim E M w0 nt ds c env h a w) (f : Ret h h') : ∃ c', Sim E M w0 nt ds c' env h' a w := by
 obtain ⟨c', b, g⟩ := f _ _ _ _ hs.good
 exact ⟨c', g, hs.glob.mono b.le.S b.same, fun s => b.val (hs.env s), hs.size, hs.defers⟩
end
end Go.Vc
namespace Go.Vc
open Go.RowKit
section
variable {h : List Obj}
theorem aI (i : Nat) {n : Nat} {v : AV} {h' : List Obj} (j : h[i]? = some (.box n v)) (q : Ret (h.set i (.box n .junk)) h') : Ret h h' :=
 aOt (fun M w0 c w g => by
  refine g.retell j (o' := .box n .junk) (S' := c.S) (B' := c.bl i) (fun b hb => .inl hb) (fun b hb => hb) ?_ (fun b hb => ?_)
  ·obtain ⟨b, cells, e, r, z, s, I⟩ := g.objs i _ j
   exact ⟨b, cells, e, r, z, s, trivial⟩
  ·have hb : aX (c.hd i) = some b := hb
   have f : fI c i (.box n v) b := hb
   exact ⟨f, (g.own i _ b j f).2.2⟩) q
theorem mG (i : Nat) {o : Obj} {h' : List Obj} (g : h[i]? = some o) (f : Ret (h.set i .dead) h') : Ret h h' :=
 aOt (fun M w0 c w j => by
  refine j.retell g (o' := .dead) (S' := c.S) (B' := c.bl i) (fun b hb => .inl hb) (fun b hb => hb) trivial (fun b hb => ?_)
  exact False.elim hb) f
theorem bFc (i : Nat) {n : Nat} {v : AV} {t : Ty} (x : t.den) {h' : List Obj} (j : h[i]? = some (.box n v)) (z : AV.as (h.map fL) t v = some x) (q : Ret (h.set i (.box n (.val t x))) h') : Ret h h' :=
 aOt (fun M w0 c w g => by
  refine g.retell j (o' := .box n (.val t x)) (S' := c.S) (B' := c.bl i) (fun b hb => .inl hb) (fun b hb => hb) ?_ (fun b hb => ?_)
  ·obtain ⟨b, cells, e, r, J, I, s⟩ := g.objs i _ j
   exact ⟨b, cells, e, r, J, I, aYP g z s⟩
  ·have hb : aX (c.hd i) = some b := hb
   have f : fI c i (.box n v) b := hb
   exact ⟨f, (g.own i _ b j f).2.2⟩) q
end
theorem aJ {F : Fr} {Q : Exit → Act → World → Prop} {p : Pan} {env : St} {h h' : List Obj} (f : Ret h h') (q : AtP F Q p env h') : AtP F Q p env h := fun c a w u hs g => by
 obtain ⟨c', b, j⟩ := f _ _ _ _ hs.good
 refine q c' a w u ⟨j, hs.glob.mono b.le.S b.same, fun s => b.val (hs.env s), hs.size, hs.defers⟩ ?_
 exact g.keep b.le.S b.same
theorem bBp {F : Fr} {K : Act → World → Prop} {env : St} {h h' : List Obj} (g : Ret h h') (f : At F K env h') : At F K env h := fun c a w hs => by
 obtain ⟨c', b, j⟩ := g _ _ _ _ hs.good
 exact f c' a w ⟨j, hs.glob.mono b.le.S b.same, fun s => b.val (hs.env s), hs.size, hs.defers⟩
end Go.Vc
namespace Go.Vc
open Go.RowKit
def bC6 (F : Fr) (Q : Exit → Act → World → Prop) (Δ : FuncId → List AV → List Obj → Option Hit) (sb : List Nat) (ops : List Oper) (f : List St) (xs : List AV) (hs : List (List Obj)) (b : List Nat) (stop : Bool) (i k : Nat) : Prop :=
 match ops[i]? with
 | some o => o.guard = none ∧ aJe F.E Δ sb (f.getD i []) (hs.getD k []) o (fun v h' => (stop && k + 1 == b.length && b.contains i) = false ∧ v = xs.getD i .junk ∧ h' = hs.getD (bif b.contains i then k + 1 else k) []) (fun p h' => AtP F Q p [] h')
 | none => False
def bAn (F : Fr) (Q : Exit → Act → World → Prop) (Δ : FuncId → List AV → List Obj → Option Hit) (sb : List Nat) (ops : List Oper) (f : List St) (xs : List AV) (hs : List (List Obj)) (b : List Nat) (stop : Bool) : List (Nat × Nat) → Prop
 | [] => True
 | p :: r => bC6 F Q Δ sb ops f xs hs b stop p.1 p.2 ∧ bAn F Q Δ sb ops f xs hs b stop r
theorem aUH {F : Fr} {Q : Exit → Act → World → Prop} {Δ : FuncId → List AV → List Obj → Option Hit} {sb : List Nat} {ops : List Oper} {f : List St} {xs : List AV} {hs : List (List Obj)} {b : List Nat} {stop : Bool} : ∀ {l : List (Nat × Nat)}, bAn F Q Δ sb ops f xs hs b stop l → ∀ p ∈ l, bC6 F Q Δ sb ops f xs hs b stop p.1 p.2
 | p :: r, h, q, hq => by
  rcases List.mem_cons.1 hq with rfl | hq
  ·exact h.1
  ·exact aUH h.2 q hq
def reach (ops : List Oper) : Nat → Nat → Nat → Bool
 | 0, i, b => aC1 ops i b
 | n + 1, i, b => aC1 ops i b || (List.range ops.length).any fun x => aC1 ops i x && reach ops n x b
theorem aSc {ops : List Oper} {done : List Nat} (cl : ∀ i ∈ done, ∀ b, aC1 ops i b = true → b ∈ done) : ∀ (n i b : Nat), (∀ x, aC1 ops i x = true → x ∈ done) → reach ops n i b = true → b ∈ done
 | 0, i, b, h, f => h b f
 | n + 1, i, b, h, f => by
  simp only [reach, Bool.or_eq_true, List.any_eq_true, Bool.and_eq_true] at f
  rcases f with f | ⟨x, _, g, f⟩
  ·grind
  ·exact aSc cl n x b (cl x (h x g)) f
def bC7 (ops : List Oper) (b : List Nat) (i k : Nat) : Bool := okK ops b i k && (List.range b.length).all fun m => bif m < k then true else !reach ops 2 i (b.getD m 0)
theorem bFd {ops : List Oper} {b : List Nat} {xs : List AV} {f env : St} {done : List Nat} {k i : Nat} (hv : aMK ops b xs f done k env) (j : ∀ x, aC1 ops i x = true → x ∈ done) (r : okK ops b i k = true) : bC7 ops b i k = true := by
 simp only [bC7, r, Bool.true_and, List.all_eq_true, List.mem_range]
 intro m hm
 by_cases g : m < k
 ·simp [g]
 ·simp only [g, decide_false, cond_false, Bool.not_eq_true']
  cases q : reach ops 2 i (b.getD m 0) with
  | false => rfl
  | true => exact absurd ((hv.kd m hm).1 (aSc hv.cl 2 i _ j q)) g
theorem aXq {F : Fr} {Q : Exit → Act → World → Prop} (hF : tI F) {Δ : FuncId → List AV → List Obj → Option Hit} (hΔ : aEG F.P F.E.G Δ) (sb : List Nat) {ops : List Oper} {b : List Nat} {us : List (List Nat)} (hc : aYY ops b us) (hok : ∀ o ∈ ops, gY F.nt o = true) (xs : List AV) (f : St) (hs : List (List Obj)) (I : List St)
  (hue : ∀ j, j < ops.length → I.getD j [] = (us.getD j []).map fun t => (t, aLC ops xs f t)) (stop : Bool) (L : ∀ i k, i < ops.length → k ≤ b.length → (stop = true → k < b.length) → bC7 ops b i k = true → bC6 F Q Δ sb ops I xs hs b stop i k)
  (keep : List Nat) (hK : stop = false → At F (Q .normal) (keep.map fun t => (t, aLC ops xs f t)) (hs.getD b.length [])) :
  ∀ (n : Nat) (done : List Nat) (listed : Array Bool), listed.size = ops.length → (∀ k, k < ops.length → (listed.getD k false = true ↔ k ∈ done)) → done.length + n = ops.length → done.Nodup → (∀ k ∈ done, k < ops.length) → ∀ (k : Nat) (env : St), aMK ops b xs f done k env → (stop = true → k < b.length) → ∀ (c : Ctx) (a : Act) (w : World), Sim F.E F.M F.w0 F.nt F.ds c env (hs.getD k []) a w → wpAny F.P .any ops.toArray Q n listed a w
 | 0, done, listed, hsz, hl, hn, hd, U, k, env, hv, hsk, c, a, w, q => by
  have z : ∀ j, j < ops.length → j ∈ done := fun j O => (aHl hd (m := List.range ops.length) (fun k g => List.mem_range.2 (U k g))).2 (by grind) j (List.mem_range.2 O)
  refine ⟨?_, ?_⟩
  ·rw [List.eq_nil_iff_forall_not_mem]
   grind [mem_ready, lD.get_lt']
  ·have g : k = b.length := by
    rcases Nat.lt_or_ge k b.length with h | h
    ·have := (hv.kd k h).1 (z _ (hc.effl k h)); omega
    ·have := hv.kle; omega
   subst g
   have hsf : stop = false := by
    simp_all
   refine hK hsf c a w ?_
   have e : (keep.map fun t => (t, aLC ops xs f t)) = keep.map fun t => (t, look env t) := by
    grind [List.map_congr_left, aMK.val]
   rw [e]
   exact q.keep keep
 | n + 1, done, listed, hsz, hl, hn, hd, U, k, env, hv, hsk, c, a, w, q => by
  have hrd : ∀ j, j ∈ Region.ready .any ops.toArray listed → j ∈ aEH ops done ∧ j ∉ done ∧ j < ops.length := fun j hj => by
   obtain ⟨h1, o, ho, hall⟩ := mem_ready.1 hj
   have ho : ops[j]? = some o := by simp_all
   have O := lD.get_lt' ho
   have hlt' : j < listed.size := by omega
   have hnd : j ∉ done := fun hm => by
    grind
   refine ⟨?_, hnd, O⟩
   simp only [aEH, List.mem_filter, List.mem_range, ho, Bool.and_eq_true, Bool.not_eq_true', List.contains_eq_mem, decide_eq_false_iff_not, List.all_eq_true, Bool.or_eq_true, decide_eq_true_eq]
   grind
  refine ⟨fun hr => ?_, fun j hj => ?_⟩
  ·exfalso
   have W : ∃ k, (k < ops.length ∧ k ∉ done) ∧ ∀ j, j < k → ¬ (j < ops.length ∧ j ∉ done) := by
    have W : ∃ k, k < ops.length ∧ k ∉ done := by
     apply Classical.byContradiction
     intro hc
     have z : List.range ops.length ⊆ done := fun k g => Classical.byContradiction fun hk2 => hc ⟨k, List.mem_range.1 g, hk2⟩
     have := (aHl (List.nodup_range (n := ops.length)) (fun k g => z g)).1
     grind
    obtain ⟨n, h1, h2⟩ := aGm W
    grind
   obtain ⟨k, ⟨g, hkd⟩, hlow⟩ := W
   have hmem : k ∈ Region.ready .any ops.toArray listed := by
    rw [mem_ready]
    have hlt' : k < listed.size := by omega
    have hun : ¬ listed.getD k false = true := fun h => hkd ((hl k g).1 h)
    refine ⟨by grind, ops[k], by simp [g], fun e he hbe => ?_⟩
    have hbk := List.all_eq_true.1 hc.back (ops[k], k) (by grind)
    grind
   simp_all
  ·obtain ⟨r1, r2, Y⟩ := hrd j hj
   have s := L j k Y hv.kle hsk (bFd hv (fun x hx => aCs r1 x hx) (hv.okk (us := us) r1 r2))
   have N : ops[j]? = some ops[j] := List.getElem?_eq_getElem Y
   have hdo : aEI ops j = ops[j].dst := by simp [aEI, N]
   unfold bC6 at s
   rw [N] at s
   obtain ⟨hg, s⟩ := s
   have J := hok ops[j] (List.getElem_mem Y)
   have hw : Region.wanted ops[j] (yielded ops.toArray a.tmps) = true := by simp [Region.wanted, hg]
   have eu : I.getD j [] = (us.getD j []).map fun t => (t, look env t) := by
    rw [hue j Y]
    refine List.map_congr_left fun t ht => ?_
    rw [aMK.val hc hv t (fun i hi hdi => aCs r1 i (hc.use j Y t ht i hi hdi))]
   have hsimU := q.keep (us.getD j [])
   rw [← eu] at hsimU
   unfold wpOp
   simp only [List.getElem?_toArray, N]
   rw [if_pos hw]
   left
   refine aR1 hF.env hΔ hsimU J s (fun v h' c' u w' hvh ha => ?_) (fun p h' c' u w' g hl hgd hr => g c' a w' u ((hsimU.step hl hgd).keep []) hr)
   obtain ⟨hnl, hx, hh⟩ := hvh
   have r := q.after J ha
   rw [hx, hh] at r
   have Z := hv.step hc r1 r2 Y U
   rw [hdo] at Z
   refine aXq hF hΔ sb hc hok xs f hs I hue stop L keep hK n (j :: done) (listed.setIfInBounds j true) (by grind) (fun k g => ?_) (by grind) (List.nodup_cons.2 ⟨r2, hd⟩) (fun k g => ?_) _ _ Z (fun L => ?_) c' _ w' r
   ·by_cases e : j = k
    ·simp_all
    ·rw [getD_set_ne false e, hl k g]
     grind
   all_goals grind
def bC8 (ops : List Oper) (b : List Nat) (us : List (List Nat)) (f : List (Nat × Nat)) (stop : Bool) : Bool :=
 aXk ops && bC5 ops b && nodupB b && bHn ops us && bHo ops && b.all (fun e => decide (e < ops.length)) && ((List.range ops.length).all fun i => (List.range (bif stop then b.length else b.length + 1)).all fun k => !bC7 ops b i k || f.contains (i, k)) && (!stop || decide (0 < b.length))
theorem bC9 {ops : List Oper} {b : List Nat} {us : List (List Nat)} {q : List (Nat × Nat)} {stop : Bool} (h : bC8 ops b us q stop = true) : aYY ops b us ∧ (∀ i k, i < ops.length → k ≤ b.length → (stop = true → k < b.length) → bC7 ops b i k = true → (i, k) ∈ q) ∧ (stop = true → 0 < b.length) := by
 simp only [bC8, Bool.and_eq_true] at h
 obtain ⟨⟨⟨⟨⟨⟨⟨O, z⟩, r⟩, I⟩, N⟩, U⟩, s⟩, Y⟩ := h
 refine ⟨⟨O, fun m hm h0 => ?_, aRg r, fun m hm => ?_, fun j g u J i hi hd => ?_, fun i j t hi g hd L => ?_⟩, fun i k hi Z hs W => ?_, fun hs => by simp_all⟩
 ·have := List.all_eq_true.1 z m (List.mem_range.2 hm)
  simp_all
 ·simp_all
 ·have := List.all_eq_true.1 (List.all_eq_true.1 (List.all_eq_true.1 I j (List.mem_range.2 g)) u J) i (List.mem_range.2 hi)
  simp_all
 ·have := List.all_eq_true.1 (List.all_eq_true.1 N i (List.mem_range.2 hi)) j (List.mem_range.2 g)
  simp_all
 ·have f : k < (bif stop then b.length else b.length + 1) := by
   grind
  have := List.all_eq_true.1 (List.all_eq_true.1 s i (List.mem_range.2 hi)) k (List.mem_range.2 f)
  simp_all
theorem sQ {F : Fr} {Q : Exit → Act → World → Prop} {env : St} {h : List Obj} (hF : tI F) {Δ : FuncId → List AV → List Obj → Option Hit} (I : aEG F.P F.E.G Δ) (sb : List Nat) {id : Nat} {ops : Array Oper} (keep : List Nat) (q : List Nat) (us : List (List Nat)) (U : List (Nat × Nat)) (xs : List AV) (hs : List (List Obj)) (r : List St) (stop : Bool)
  (hb : bC8 ops.toList q us U stop = true) (Z : (List.range ops.toList.length).map (fun j => (us.getD j []).map fun t => (t, aLC ops.toList xs env t)) = r) (h0 : hs.getD 0 [] = h)
  (J : bAn F Q Δ sb ops.toList r xs hs q stop U) (s : stop = false → At F (Q .normal) (keep.map fun t => (t, aLC ops.toList xs env t)) (hs.getD q.length [])) : Tri F (.region id ops true) Q env h := fun z c a w f => by
 simp only [iH, Bool.and_eq_true, Bool.or_eq_true, Bool.not_eq_true'] at z
 obtain ⟨⟨Y, h2⟩, h3⟩ := z
 obtain ⟨hc, hp, N⟩ := bC9 hb
 refine wp_region_any hF.mix ?_
 have g : dS c w c { w with drawn := w.drawn + 1 } := ⟨.refl _, fun b hb => rfl⟩
 have O : Sim F.E F.M F.w0 F.nt F.ds c env h a { w with drawn := w.drawn + 1 } :=
  ⟨f.good.step g rfl rfl ⟨rfl, rfl, rfl, Nat.le_refl _, fun _ _ _ => rfl⟩ (fun _ _ _ _ _ => rfl) f.good.sfin (fun _ hb => .inl hb), sG.mono (w := w) (w' := { w with drawn := w.drawn + 1 }) (fun _ hb => hb) g.same f.glob, f.env.keep g, f.size, f.defers⟩
 have := aXq (Q := Q) hF I sb hc (List.all_eq_true.1 Y) xs env hs r (fun j hj => by grind) stop (fun i k hi s L W => aUH J (i, k) (hp i k hi s L W)) keep s ops.toList.length [] (Array.replicate ops.size false) (by simp) (fun k s => by simp_all) (by simp) List.nodup_nil (fun k s => by cases s) 0 env
  ⟨Nat.zero_le _, fun m hm => by simp, fun i hi => (by cases hi), fun i hi => (by cases hi), fun t _ => rfl⟩ N c a _ (by rw [h0]; exact O)
 omega
attribute [go_sem] bAn bC6
def bHp : List (FuncId × (List Obj → Hit)) → FuncId → List AV → List Obj → Option Hit
 | [], _, _, _ => none
 | (k, t) :: r, f, b, h => if k = f then some (t h) else bHp r f b h
structure aSd (P : Program) (G : Nat → AV) (l : List (FuncId × (List Obj → Hit))) : Prop where
 ok : ∀ p ∈ l, (∀ h, GOK P G p.1 (p.2 h).sp) ∧ fnB P p.1 = true
theorem aSd.nil {P : Program} {G : Nat → AV} : aSd P G [] := ⟨fun p hp => by cases hp⟩
theorem aSd.cons {P : Program} {G : Nat → AV} {l : List (FuncId × (List Obj → Hit))} {f : FuncId} {t : List Obj → Hit} (h : ∀ x, GOK P G f (t x).sp) (g : fnB P f = true) (b : aSd P G l) : aSd P G ((f, t) :: l) := by
 refine ⟨fun p hp => ?_⟩
 rcases List.mem_cons.1 hp with rfl | hp
 ·simp_all
 ·exact b.ok p hp
attribute [go_sem] bHp
end Go.Vc
namespace Go.Vc
open Go.RowKit
section
variable {P : Program} {T : Tab} {H : Type} {enc : TypeId × Value → H} {w : World} {spare : Nat → Bool} {held : Bool}
def bDa (k : IntKind) (ys : List Nat) : DataW H := .agg (ys.map fun (y : Nat) => .lit (.int k (y : Int)))
theorem aVy : ∀ (cs : List Value), ((List.range cs.length).map fun i => (cs.drop i).take 1).flatten = cs := by
 intro cs
 have e : ((List.range cs.length).map fun i => (cs.drop i).take 1) = cs.map fun c => [c] := by
  apply List.ext_getElem
  ·simp
  ·intro i b g
   simp only [List.length_map, List.length_range] at b
   simp only [List.getElem_map, List.getElem_range]
   rw [List.drop_eq_getElem_cons b]
   rfl
 rw [e]
 clear e
 induction cs with
 | nil => rfl
 | cons c cs f => simp [f]
theorem bFe {S : Nat → Prop} (j : lP P T) {n : Nat} {t : TypeId} {m : Nat} {k : IntKind} {cs : List Value} {p : List MemPlace} {ys : List Nat} (ht : T t = some (.arr m (.u k)))
  (h : DataW.trod enc P w 0 spare held n t cs = some (bDa k ys, p)) : bB w S (.arr m (.u k)) ys cs := by
 obtain ⟨d, hd, hb⟩ := (j _ _ ht).desc
 cases d <;> simp [iV] at hb
 obtain ⟨⟨⟨rfl, f⟩, W⟩, _⟩ := hb
 obtain ⟨xs, q, hq, r, b, Z, I⟩ := DataW.trod_array hd h
 simp only [bDa, Prod.mk.injEq, DataW.agg.injEq] at r
 rw [pC (j _ _ ht)] at b
 rw [pC (j _ _ f)] at I
 have e1 : (Ty.u k).cells = 1 := rfl
 have O : (Ty.arr m (.u k)).cells = m := by show m * 1 = m; omega
 rw [e1] at I
 rw [O] at b
 have z : ys.length = m := by
  have := congrArg List.length r.1
  grind
 obtain ⟨U, J, g⟩ := (j _ _ f).desc
 cases U <;> simp [iV] at g
 obtain ⟨rfl, hs⟩ := g
 refine ⟨z, (List.range cs.length).map (fun i => (cs.drop i).take 1), (aVy cs).symm, by grind, fun i Y h2 => ?_⟩
 have hi : i < m := by omega
 have N := I i hi
 rw [Nat.mul_one, List.getElem?_eq_getElem (by omega)] at N
 obtain ⟨v, g1, g2, L⟩ := DataW.trod_int J N
 simp only [List.getElem_map, List.getElem_range]
 have s : (xs.map (·.1))[i]? = (ys.map fun (y : Nat) => (DataW.lit (.int k (y : Int)) : DataW H))[i]? := by rw [r.1]
 rw [List.getElem?_map, List.getElem?_map, List.getElem?_eq_getElem (by omega), List.getElem?_eq_getElem Y, g2] at s
 simp only [Option.map_some, Option.some.injEq, DataW.lit.injEq, Lit.int.injEq, true_and] at s
 rw [s] at g1 L
 simp only [Lit.wf, Bool.and_eq_true, decide_eq_true_eq] at L
 exact ⟨g1, hs, L.2⟩
theorem bDb {l : List (String × DataW Unit)} {n : String} {d : DataW Unit} (hm : (n, d) ∈ l) {ps : List MemPlace} (h : DataW.LaidVars P w l ps) :
  ∃ g t cs b p, P.globalNamed n = some g ∧ (P.globals[g]?).map (·.type) = some t ∧ w.var? P n = some cs ∧ DataW.trod (fun _ => ()) P w 0 (fun _ => true) false b t cs.toList = some (d, p) := by
 induction l generalizing ps with
 | nil => cases hm
 | cons x r f =>
  obtain ⟨L, I⟩ := x
  obtain ⟨g, t, cs, b, p, q, N, s, j, z, J, _⟩ := h
  grind
theorem aXr (N : lP P T) {l : List (String × DataW Unit)} (h : laidMet P l w) (n : String) (g : Nat) (t : TypeId) (m : Nat) (k : IntKind) (ys : List Nat) (hm : (n, bDa k ys) ∈ l) (r : P.globalNamed n = some g)
  (ht : (P.globals[g]?).map (·.type) = some t) (f : T t = some (.arr m (.u k))) (U : 0 < m) : aW ⟨aAE w, fun _ => Go.undef, 0, fun _ _ => False⟩ w (.roa (.arr m (.u k)) ys) (.pointer (some ⟨g, 0, none⟩)) := by
 obtain ⟨ps, hv, _⟩ := h
 obtain ⟨Y, W, b, s, p, O, J, I, L⟩ := bDb hm hv
 obtain rfl := Option.some.inj (r.symm.trans O)
 obtain rfl := Option.some.inj (ht.symm.trans J)
 have q : bB w (aAE w) (.arr m (.u k)) ys b.toList := bFe N f L
 have hc : lY w g 0 b.toList := fun j v Z => by
  have := World.var?_cell r I j
  simp_all
 refine aFo ?_ q hc
 have z := bB.length _ _ _ q
 have z : b.toList.length = m * 1 := z
 have h0 : 0 < b.toList.length := by omega
 exact aVw (hc 0 (b.toList[0]'h0) (List.getElem?_eq_getElem h0))
end
end Go.Vc
namespace Go.Vc
open Go.RowKit
variable {H : Type} {enc : TypeId × Value → H}
theorem aTv {a : Assume} {C : Checked} {os : Os} {f : FuncId} {fn : Func} {s : ChangeSpec} {conds : List PathCond} {apart fresh handsOn again : Bool} {X : World → Array Value → Prop}
  (hX : ∀ (w w' : World) (args : Array Value), w.heap = w'.heap → X w args → X w' args)
  (own : ownKnob C.prog.godebug = none) (started : os.Started) (noInit : C.prog.inits.idxOf? f = none) (r : C.prog.funcs[f]? = some fn)
  (witness : ∃ (w : World) (tape : Tape) (i : Input), w.os = os ∧ (w.forCall tape i).Shaped C.prog ∧ i.vars = [] ∧ Input.okWide C.prog (w.forCall tape i) .any w.heap.size f i ∧
   ((s.pre enc C.prog fn conds apart (w.forCall tape i).memory i.args ∧ X (w.forCall tape i).memory i.args) ∧ sizedMet enc C.prog fn (OpenSpec.ofChange s) apart (w.forCall tape i).memory i.args) ∧ a.holds C.prog (lone (Frame.enter C.prog f i.args .normal) [] (w.forCall tape i)))
  (contract : ∀ (W : World) (base : Nat) (args : Array Value) (ds L : List (DataW H)) (before : List MemPlace),
   (∀ (j : Nat) t v, fn.params[j]? = some t → args[j]? = some v → Value.okWide C.prog W .any base t v) →
   DataW.Whole enc C.prog fn.params.toList s.vars apart W args.toList ds L before → X W args → W.ShapedOpen C.prog →
   Calls C.prog f args W fun e O => ∃ v, e = .returned v ∧ s.post enc C.prog fn apart fresh handsOn again W args v O) :
  ReturnsInHanded a C os f .any (fun w args => (s.pre enc C.prog fn conds apart w args ∧ X w args) ∧ sizedMet enc C.prog fn (OpenSpec.ofChange s) apart w args) (s.post enc C.prog fn apart fresh handsOn again) := by
 refine returnsInHanded_of_calls own started noInit witness ?_
 intro w tape i _ z _ J q hholds
 obtain ⟨_, _, _, N, b, _, _, _, _, g⟩ := J
 obtain rfl : N = fn := Option.some.inj (b.symm.trans r)
 obtain ⟨⟨⟨ds, L, before, Y, hc⟩, U⟩, hz⟩ := q
 have I := DataW.Whole.of_heap (w' := w.forCall tape i) (by rfl) Y
 refine (contract (w.forCall tape i) w.heap.size i.args ds L before g I (hX _ _ _ (by rfl) U) z).mono fun e O ⟨v, Z, hp⟩ => ?_
 subst Z
 exact ChangeSpec.post_blind hp
theorem aYZ {P : Program} {w : World} {g : Nat} {t : TypeId} {zero : Array Value} {k : IntKind}
  (h : w.ShapedOpen P) (U : g < P.globals.size)
  (h0 : ((begin P (fun _ _ => 0) default).world.heap[g]?).bind Obj.row? = some (zero, t)) (hz : zero.size = 1)
  (hb : P.buildable t = true) (hc : P.cellTypes P.depth t = some [t]) (Z : P.underlying t = some (.int k)) (hs : k.signed = true) :
  ∃ m, aW ⟨aAE w, fun _ => Go.undef, 0, fun _ _ => False⟩ w (.roa (.i k) m) (.pointer (some ⟨g, 0, none⟩)) := by
 obtain ⟨s, Y, W, O⟩ := h.1 g zero t U h0
 obtain ⟨ts, f, _, q⟩ := O hb
 rw [hc] at f
 cases f
 have N : 0 < s.size := by omega
 obtain ⟨u, I, b⟩ := q 0 s[0] (by simp [N])
 obtain rfl : u = t := by simpa using I.symm
 have hcell : w.cell? ⟨g, 0, none⟩ = some s[0] := by simp [World.cell?, Y, N]
 unfold Cell.ok at b
 rw [Z] at b
 cases hv : s[0] <;> rw [hv] at b <;> simp at b
 case int k' n =>
  rw [hv] at hcell
  obtain ⟨rfl, z, L⟩ := b
  have r : lY w g 0 [.int k' n] := fun j v J => by
   cases j with
   | zero => simp at J; subst J; exact hcell
   | succ j => simp at J
  exact ⟨n, aFo (aVw (r 0 _ rfl)) ⟨rfl, hs, z, L⟩ r⟩
end Go.Vc

