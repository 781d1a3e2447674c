import Derived.Test.YtlijgfkkmamanaaGreatDoorZL2
import Derived.Maps.AppendAt
import Derived.Lib.AppendStr
set_option linter.unusedVariables false
set_option linter.unusedSimpArgs false
namespace Go.Vc
open Go.RowKit
structure Ent where
 i : Nat
 d : Nat
 gp : List (Nat × Bool)
 av : AV
def zX : List Ent → Nat → Option Ent
 | [], _ => none
 | e :: r, j => if e.i = j then some e else zX r j
def aDG : List Ent → Nat → Option Ent
 | [], _ => none
 | e :: r, t => if e.d = t then some e else aDG r t
def aRG : AV → Bool
 | .val .bool b => b
 | _ => false
def aGj : AV → Bool
 | .val .bool _ => true
 | _ => false
def aFe (b : List Ent) : Option (Nat × Bool) → List (Nat × Bool)
 | none => []
 | some (j, p) => match zX b j with
  | some e => e.gp ++ [(j, p)]
  | none => [(j, p)]
def jB (b : List Ent) : List (Nat × Bool) → Prop
 | [] => True
 | (j, p) :: r => (match zX b j with | some e => aRG e.av = p | none => False) ∧ jB b r
def aFp (b : List Ent) : Option (Nat × Bool) → Prop
 | none => True
 | some (j, _) => match zX b j with
  | some e => aGj e.av = true
  | none => False
def aPx : List (Nat × Bool) → List (Nat × Bool) → Bool
 | [], _ => true
 | _ :: _, [] => false
 | (j, p) :: r, (k, q) :: s => decide (j = k) && (p == q) && aPx r s
def aRH (G : Nat → AV) (b : List Ent) (env : List (Nat × AV)) (gp : List (Nat × Bool)) : Operand → AV
 | .tmp t => match aDG b t with
  | some e => if aPx e.gp gp = true then e.av else .junk
  | none => look env t
 | x => evA G env x
def bCc (G : Nat → AV) (f : List Ent) (env : List (Nat × AV)) (gp : List (Nat × Bool)) (c a b : Operand) : Prop × AV :=
 match c with
 | .tmp t => match aDG f t with
  | some e => match (if aPx e.gp gp = true then e.av else .junk), aRH G f env (gp ++ [(e.i, true)]) a, aRH G f env (gp ++ [(e.i, false)]) b with
   | .val .bool q, .val .bool x, .val .bool y => (True, .val .bool (bif q then x else y))
   | _, _, _ => (False, .junk)
  | none => (False, .junk)
 | _ => (False, .junk)
noncomputable def opA (E : Env) (h : List Obj) (env : List (Nat × AV)) (f : List Ent) (o : Oper) : Prop × AV :=
 match o.op with
 | .pick c a b => bCc E.G f env (aFe f o.guard) c a b
 | _ => pv E h (aRH E.G f env (aFe f o.guard)) o
def vcA (E : Env) (h : List Obj) (env : List (Nat × AV)) : List Oper → Nat → List Ent → (List Ent → Prop) → Prop
 | [], _, b, K => K b
 | o :: r, i, b, K => match o.dst, opA E h env b o with
  | some d, (p, v) => aFp b o.guard ∧ (jB b (aFe b o.guard) → p) ∧ vcA E h env r (i + 1) (⟨i, d, aFe b o.guard, v⟩ :: b) K
  | none, _ => False
def nE : List Ent → List (Nat × AV) → List (Nat × AV)
 | [], env => env
 | e :: r, env => (e.d, match e.gp with | [] => e.av | _ :: _ => .junk) :: nE r env
structure zT (E : Env) (h : List Obj) (env : List (Nat × AV)) (ops : List Oper) (F : Nat → List Ent) : Prop where
 zero : F 0 = []
 step : ∀ i o, ops[i]? = some o → ∃ d, o.dst = some d ∧ aFp (F i) o.guard ∧ (jB (F i) (aFe (F i) o.guard) → (opA E h env (F i) o).1) ∧ F (i + 1) = ⟨i, d, aFe (F i) o.guard, (opA E h env (F i) o).2⟩ :: F i
theorem aG9 {E : Env} {h : List Obj} {env : List (Nat × AV)} : ∀ (l : List Oper) (i : Nat) (b : List Ent) (K : List Ent → Prop), vcA E h env l i b K →
  ∃ F : Nat → List Ent, F i = b ∧ (∀ k o, l[k]? = some o → ∃ d, o.dst = some d ∧ aFp (F (i + k)) o.guard ∧ (jB (F (i + k)) (aFe (F (i + k)) o.guard) → (opA E h env (F (i + k)) o).1) ∧ F (i + k + 1) = ⟨i + k, d, aFe (F (i + k)) o.guard, (opA E h env (F (i + k)) o).2⟩ :: F (i + k)) ∧ K (F (i + l.length))
 | [], i, b, K, hv => ⟨fun _ => b, rfl, fun k o I => by grind, hv⟩
 | o :: r, i, b, K, hv => by
  simp only [vcA] at hv
  split at hv
  ·rename_i d p v hd g
   obtain ⟨O, z, f⟩ := hv
   obtain ⟨F, N, s, L⟩ := aG9 r (i + 1) _ K f
   refine ⟨fun j => if j ≤ i then b else F j, by simp, fun k J q => ?_, ?_⟩
   all_goals grind
  simp_all
section
variable {E : Env} {h : List Obj} {env : List (Nat × AV)} {ops : List Oper} {F : Nat → List Ent}
theorem nO (hF : zT E h env ops F) : ∀ (i : Nat), i ≤ ops.length → ∀ j, (j < i → ∃ o d, ops[j]? = some o ∧ o.dst = some d ∧ zX (F i) j = some ⟨j, d, aFe (F j) o.guard, (opA E h env (F j) o).2⟩) ∧ (i ≤ j → zX (F i) j = none)
 | 0, _, j => ⟨fun h => absurd h (Nat.not_lt_zero j), fun _ => by rw [hF.zero]; rfl⟩
 | i + 1, hi, j => by
  have r : ops[i]? = some ops[i] := List.getElem?_eq_getElem (by omega)
  obtain ⟨d, O, N, L, s⟩ := hF.step i _ r
  obtain ⟨f, U⟩ := nO hF i (by omega) j
  rw [s]
  refine ⟨fun J => ?_, fun J => ?_⟩
  ·by_cases e : j = i
   ·grind [zX]
   ·obtain ⟨o, z, I, g, q⟩ := f (by omega)
    exact ⟨o, z, I, g, by rw [zX, if_neg (fun b => e b.symm)]; exact q⟩
  ·rw [zX, if_neg (by grind)]
   grind
theorem aHa (hF : zT E h env ops F) : ∀ (i : Nat), i ≤ ops.length → ∀ t e, aDG (F i) t = some e → e.i < i ∧ e.d = t ∧ zX (F i) e.i = some e ∧ ∃ o, ops[e.i]? = some o ∧ o.dst = some t
 | 0, _, t, e, b => by rw [hF.zero] at b; cases b
 | i + 1, hi, t, e, b => by
  have f : ops[i]? = some ops[i] := List.getElem?_eq_getElem (by omega)
  obtain ⟨d, r, I, z, q⟩ := hF.step i _ f
  rw [q] at b ⊢
  simp only [aDG] at b
  split at b
  ·rename_i hd
   cases b
   subst hd
   exact ⟨Nat.lt_succ_self _, rfl, by simp [zX], _, f, r⟩
  ·obtain ⟨J, g, j, s⟩ := aHa hF i (by omega) t e b
   exact ⟨by omega, g, by rw [zX, if_neg (by grind)]; exact j, s⟩
theorem aLr (hF : zT E h env ops F) : ∀ (i : Nat), i ≤ ops.length → ∀ t, aDG (F i) t = none → ∀ k o, k < i → ops[k]? = some o → o.dst ≠ some t
 | 0, _, t, _, k, o, g, _ => absurd g (Nat.not_lt_zero k)
 | i + 1, hi, t, b, k, o, g, f => by
  have j : ops[i]? = some ops[i] := List.getElem?_eq_getElem (by omega)
  obtain ⟨d, z, s, r, q⟩ := hF.step i _ j
  rw [q] at b
  simp only [aDG] at b
  split at b
  ·cases b
  ·rename_i hd
   by_cases e : k = i
   ·simp_all
   ·exact aLr hF i (by omega) t b k o (by omega) f
theorem aCV (hF : zT E h env ops F) {i j k : Nat} {e : Ent} (hi : i ≤ ops.length) (s : k ≤ ops.length) (r : i ≤ k) (b : zX (F i) j = some e) : zX (F k) j = some e := by
 have q : j < i := by
  rcases Nat.lt_or_ge j i with h | h
  ·exact h
  ·rw [(nO hF i hi j).2 h] at b; cases b
 obtain ⟨o, d, O, J, I⟩ := (nO hF i hi j).1 q
 obtain ⟨N, L, z, f, g⟩ := (nO hF k s j).1 (by omega)
 simp_all
def aQi (F : List Ent) : List (Nat × Bool) → Prop
 | [] => True
 | (j, _) :: r => (∃ e, zX F j = some e ∧ aGj e.av = true) ∧ aQi F r
theorem aH4 (hF : zT E h env ops F) {i k : Nat} (hi : i ≤ ops.length) (q : k ≤ ops.length) (f : i ≤ k) : ∀ {gp : List (Nat × Bool)}, aQi (F i) gp → jB (F k) gp → jB (F i) gp
 | [], _, _ => trivial
 | (j, p) :: r, b, g => by
  simp only [jB, aQi] at g b ⊢
  obtain ⟨⟨e, s, _⟩, b⟩ := b
  refine ⟨?_, aH4 hF hi q f b g.2⟩
  grind [aCV]
theorem aEx {F : List Ent} : ∀ {g1 b : List (Nat × Bool)}, jB F (g1 ++ b) ↔ jB F g1 ∧ jB F b
 | [], b => by simp [jB]
 | (j, p) :: r, b => by simp only [List.cons_append, jB, aEx (g1 := r), and_assoc]
theorem aPy {F : List Ent} : ∀ {g1 b : List (Nat × Bool)}, aQi F (g1 ++ b) ↔ aQi F g1 ∧ aQi F b
 | [], b => by simp [aQi]
 | (j, p) :: r, b => by simp only [List.cons_append, aQi, aPy (g1 := r), and_assoc]
theorem aRI (hF : zT E h env ops F) {i k : Nat} (hi : i ≤ ops.length) (g : k ≤ ops.length) (b : i ≤ k) : ∀ {gp : List (Nat × Bool)}, aQi (F i) gp → aQi (F k) gp
 | [], _ => trivial
 | (j, p) :: r, f => by
  simp only [aQi] at f ⊢
  obtain ⟨⟨e, s, hb⟩, q⟩ := f
  exact ⟨⟨e, aCV hF hi g b s, hb⟩, aRI hF hi g b q⟩
theorem bEx (hF : zT E h env ops F) : ∀ (i : Nat) {o : Oper}, ops[i]? = some o → aQi (F i) (aFe (F i) o.guard) := by
 intro i
 induction i using Nat.strongRecOn with
 | _ i r =>
  intro o z
  have hi : i < ops.length := by
   grind
  obtain ⟨d, Y, g, N, O⟩ := hF.step i o z
  cases s : o.guard with
  | none => trivial
  | some I =>
   obtain ⟨j, p⟩ := I
   rw [s] at g
   simp only [aFp] at g
   simp only [aFe]
   cases f : zX (F i) j with
   | none => simp_all
   | some e =>
    rw [f] at g
    have b : j < i := by
     rcases Nat.lt_or_ge j i with h | h
     ·exact h
     ·rw [(nO hF i (by omega) j).2 h] at f; cases f
    obtain ⟨W, U, J, L, q⟩ := (nO hF i (by omega) j).1 b
    rw [q] at f
    cases f
    rw [aPy]
    exact ⟨aRI hF (by omega) (by omega) (by omega) (r j b J), ⟨_, q, g⟩, trivial⟩
theorem aI6 {F : List Ent} : ∀ {g1 f : List (Nat × Bool)}, aPx g1 f = true → jB F f → jB F g1
 | [], _, _, _ => trivial
 | (j, p) :: r, [], hp, _ => by grind [aPx]
 | (j, p) :: r, (k, q) :: s, hp, b => by
  simp only [aPx, Bool.and_eq_true, decide_eq_true_eq, beq_iff_eq] at hp
  obtain ⟨⟨rfl, rfl⟩, hp⟩ := hp
  simp only [jB] at b ⊢
  exact ⟨b.1, aI6 hp b.2⟩
end
end Go.Vc
namespace Go.Vc
open Go.RowKit
structure Sim (E : Env) (M : Perm) (w0 : World) (nt : Nat) (ds : List Deferred) (c : Ctx) (env : List (Nat × AV)) (h : List Obj) (a : Act) (w : World) : Prop where
 good : Good M w0 c h w
 glob : sG E.G c.S w
 env : aIu c w env a.tmps
 size : a.tmps.size = nt
 defers : a.defers = ds
def gY (nt : Nat) (o : Oper) : Bool :=
 o.op.operands.all qV && (match o.dst with | some d => decide (d < nt) | none => true)
section
variable {P : Program} {E : Env} {M : Perm} {w0 : World} {nt : Nat} {ds : List Deferred} {h : List Obj} {env : List (Nat × AV)} {ops : List Oper} {F : Nat → List Ent} {Q : Exit → Act → World → Prop}
theorem Did.wp {c : Ctx} {o : Oper} {a : Act} {w : World} {av : AV} {next : Act → World → Prop} (hd : Did P M w0 h c o a w av) (g : ∀ v w' c', aIY P M w0 h c w av v w' c' → next (a.put o.dst v) w') : o.wp P a w next Q := by
 rcases hd with ⟨v, w', c', b, j⟩ | ⟨f, args, b, hc⟩
 ·unfold Oper.wp; rw [b]; exact g v w' c' j
 ·unfold Oper.wp
  rw [b]
  refine Calls.mono hc ?_
  grind
theorem Did.wp' {c : Ctx} {o : Oper} {a : Act} {w : World} {av : AV} {next : Act → World → Prop} (hd : Did P M w0 h c o a w av) (j : ∀ v w' c', aIY P M w0 h c w av v w' c' → ((execOp a.eval o).run P w = .ok (.value v) w' ∨ ∃ f args, (execOp a.eval o).run P w = .ok (.enter f args) w) → next (a.put o.dst v) w') : o.wp P a w next Q := by
 rcases hd with ⟨v, w', c', b, g⟩ | ⟨f, args, b, hc⟩
 ·have := j v w' c' g (.inl b)
  unfold Oper.wp; rw [b]; exact this
 ·have q := fun v w' c' g => j v w' c' g (.inr ⟨f, args, b⟩)
  unfold Oper.wp
  rw [b]
  refine Calls.mono hc ?_
  grind
structure bF7 (T : Tab) (o : Oper) (a : Act) (c' : Ctx) (w' : World) (c'' : Ctx) (a'' : Act) (w'' : World) : Prop where
 keeps : jC nothing w' w''
 new : ∀ b, c''.S b → c'.S b ∨ w'.heap.size ≤ b
 put : ∃ v, a'' = a.put o.dst v ∧ ∀ t, o.op = .alloc t → o.guard = none → ∃ ct, T t = some ct ∧ v = .pointer (some ⟨w'.heap.size, 0, none⟩) ∧ w'' = w'.alloc (.cells (nN ct).cells t (0, 0)) ∧ c'' = c'
structure Mid (E : Env) (M : Perm) (w0 : World) (nt : Nat) (ds : List Deferred) (h : List Obj) (env : List (Nat × AV)) (ops : List Oper) (F : Nat → List Ent) (c : Ctx) (w : World) (listed : Nat → Prop) (c' : Ctx) (a : Act) (w' : World) : Prop where
 later : dS c w c' w'
 n : c'.n = c.n ∧ c'.bl = c.bl
 good : Good M w0 c' h w'
 size : a.tmps.size = nt
 defers : a.defers = ds
 base : ∀ t, (∀ k o, listed k → ops[k]? = some o → o.dst ≠ some t) → aW c' w' (look env t) (a.tmps.getD t Go.undef)
 ent : ∀ i e, listed i → zX (F ops.length) i = some e → (jB (F ops.length) e.gp → aW c' w' e.av (a.tmps.getD e.d Go.undef)) ∧ (¬ jB (F ops.length) e.gp → a.tmps.getD e.d Go.undef = Go.undef)
theorem aZZ {a : Act} {d t : Nat} {v : Value} (hd : d < a.tmps.size) : (a.put (some d) v).tmps.getD t Go.undef = if d = t then v else a.tmps.getD t Go.undef := by
 simp only [Act.put]
 by_cases e : d = t
 all_goals simp_all
theorem aZ0 (hF : zT E h env ops F) {c c' b : Ctx} {w w' f : World} {listed : Nat → Prop} {a : Act} (hm : Mid E M w0 nt ds h env ops F c w listed c' a w') {i : Nat} {o : Oper} (ho : ops[i]? = some o) {d : Nat} (hd : o.dst = some d) (J : d < nt)
  (huniq : ∀ k ok, ops[k]? = some ok → ok.dst = some d → k = i) (W : ¬ listed i) (z : dS c' w' b f) (O : b.n = c'.n ∧ b.bl = c'.bl) (Y : Good M w0 b h f) {v : Value}
  (hv : ∀ e, zX (F ops.length) i = some e → (jB (F ops.length) e.gp → aW b f e.av v) ∧ (¬ jB (F ops.length) e.gp → v = Go.undef)) :
  Mid E M w0 nt ds h env ops F c w (fun k => listed k ∨ k = i) b (a.put o.dst v) f := by
 have r : d < a.tmps.size := by rw [hm.size]; exact J
 rw [hd]
 refine ⟨hm.later.trans z, ⟨O.1.trans hm.n.1, O.2.trans hm.n.2⟩, Y, by simp [Act.put, hm.size], hm.defers, fun t ht => ?_, fun k e U s => ?_⟩
 ·rw [aZZ r]
  have g : d ≠ t := fun e => ht i o (.inr rfl) ho (by grind)
  rw [if_neg g]
  exact z.val (hm.base t fun k ok U I => ht k ok (.inl U) I)
 ·have L : k < ops.length := by
   rcases Nat.lt_or_ge k ops.length with h | h
   ·exact h
   ·rw [(nO hF ops.length (Nat.le_refl _) k).2 h] at s; cases s
  obtain ⟨ok, dk, k1, k2, k3⟩ := (nO hF ops.length (Nat.le_refl _) k).1 L
  have Z : e.d = dk := by grind
  rw [aZZ r]
  by_cases N : k = i
  ·grind
  ·have g : d ≠ e.d := fun e' => N (huniq k ok k1 (by simp_all))
   rw [if_neg g]
   have q : listed k := by
    simp_all
   exact ⟨fun j => z.val ((hm.ent k e q s).1 j), fun j => (hm.ent k e q s).2 j⟩
theorem bEy {c : Ctx} {w : World} {v : AV} {x : Value} (hb : aGj v = true) (hv : aW c w v x) : x = .bool (aRG v) := by
 cases v with
 | val t y =>
  cases t <;> simp [aGj] at hb
  exact aGf hv
 | _ => grind [aGj]
theorem aRJ (hE : iA P E) (hF : zT E h env ops F) (hok : ∀ o ∈ ops, gY nt o = true) {c c' : Ctx} {w w' : World} (hglob : sG E.G c.S w) {listed : Nat → Prop} {a : Act} (hm : Mid E M w0 nt ds h env ops F c w listed c' a w') {i : Nat} {o : Oper} (ho : ops[i]? = some o)
  (hni : ¬ listed i) (hop : ∀ t, Operand.tmp t ∈ o.op.operands → ∀ k ok, ops[k]? = some ok → ok.dst = some t → (k < i → listed k) ∧ (i < k → ¬ listed k)) (hgd : ∀ j p, o.guard = some (j, p) → listed j)
  (huniq : ∀ k ok, ops[k]? = some ok → ok.dst = o.dst → k = i) {K : Act → World → Prop} (hK : ∀ I a'' s, Mid E M w0 nt ds h env ops F c w (fun k => listed k ∨ k = i) I a'' s → bF7 E.T o a c' w' I a'' s → K a'' s) : wpOp P ops.toArray Q i K a w' := by
 have hil : i < ops.length := by
  grind
 have Z := hok o (List.mem_of_getElem? ho)
 simp only [gY, Bool.and_eq_true] at Z
 obtain ⟨d, s1, s2, s3, s4⟩ := hF.step i o ho
 have hdn : d < nt := by simp_all
 obtain ⟨o', d', k1, k2, k3⟩ := (nO hF ops.length (Nat.le_refl _) i).1 hil
 rw [ho] at k1; cases k1
 rw [s1] at k2; cases k2
 have hu : ∀ k ok, ops[k]? = some ok → ok.dst = some d → k = i := fun k ok Y h2 => huniq k ok Y (by grind)
 have hglob' : sG E.G c'.S w' := hglob.mono hm.later.le.S hm.later.same
 have hin := bEx hF i ho
 have hwant : Region.wanted o (yielded ops.toArray a.tmps) = true ↔ jB (F ops.length) (aFe (F i) o.guard) := by
  cases W : o.guard with
  | none => simp [Region.wanted, W, aFe, jB]
  | some jp =>
   obtain ⟨j, p⟩ := jp
   have hjl := hgd j p W
   rw [W] at s2 hin
   simp only [aFp] at s2
   cases J : zX (F i) j with
   | none => grind
   | some e =>
    rw [J] at s2
    have heF := aCV hF (by omega) (Nat.le_refl _) (by omega) J
    have hji : j < i := by
     grind [Nat.lt_or_ge, nO]
    obtain ⟨oj, dj, j1, j2, j3⟩ := (nO hF i (by omega) j).1 hji
    rw [j3] at J
    cases J
    have hokJ := hok oj (List.mem_of_getElem? j1)
    simp only [gY, Bool.and_eq_true, j2, decide_eq_true_eq] at hokJ
    have hdj : dj < a.tmps.size := by rw [hm.size]; grind
    have hy : ∀ v, a.tmps.getD dj Go.undef = v → yielded ops.toArray a.tmps j = (match v with | .bool b => some b | _ => none) := by
     intro v hv
     have Y : a.tmps[dj]? = some v := by
      rw [Array.getElem?_eq_getElem hdj]
      have : a.tmps[dj] = v := by simpa [hdj] using hv
      rw [this]
     simp only [yielded, List.getElem?_toArray, j1, Option.bind_some, j2, Y]
     cases v <;> rfl
    have hent := hm.ent j _ hjl heF
    have hgpe : aFe (F i) (some (j, p)) = aFe (F j) oj.guard ++ [(j, p)] := by
     show (match zX (F i) j with | some e => e.gp ++ [(j, p)] | none => [(j, p)]) = _
     rw [j3]
    simp only [Region.wanted, W]
    rw [hgpe, aEx]
    by_cases z : jB (F ops.length) (aFe (F j) oj.guard)
    ·have hb := bEy s2 (hent.1 z)
     rw [hy _ hb]
     have hone : jB (F ops.length) [(j, p)] ↔ aRG (opA E h env (F j) oj).2 = p := by simp only [jB, heF, and_true]
     grind
    grind [undef]
 unfold wpOp
 simp only [List.getElem?_toArray, ho]
 by_cases hw : Region.wanted o (yielded ops.toArray a.tmps) = true
 ·rw [if_pos hw]
  left
  have z := hwant.1 hw
  have hgpi := aH4 hF (by omega) (Nat.le_refl _) (by omega) hin z
  have hcond := s3 hgpi
  have hlook : ∀ gp, jB (F ops.length) gp → ∀ x, qV x = true → x ∈ o.op.operands → aW c' w' (aRH E.G (F i) env gp x) (a.eval x) := by
   intro gp z x N hxo
   cases x with
   | tmp t =>
    simp only [aRH]
    cases J : aDG (F i) t with
    | none =>
     refine hm.base t fun k ok hk hko hdk => ?_
     rcases Nat.lt_trichotomy k i with hlt | heq | hgt
     ·exact aLr hF i (by omega) t J k ok hlt hko hdk
     all_goals grind
    | some e =>
     simp only
     split
     ·rename_i hp
      obtain ⟨e1, e2, e3, oe, e4, e5⟩ := aHa hF i (by omega) t e J
      have hle := (hop t hxo e.i oe e4 e5).1 e1
      have := (hm.ent e.i e hle (aCV hF (by omega) (Nat.le_refl _) (by omega) e3)).1 (aI6 hp z)
      rw [e2] at this
      exact this
     ·trivial
   | const v => exact aEw (env := []) (a := a) (c := c') (w := w') (G := E.G) (fun t => trivial) hglob' N
   | global g => exact aEw (env := []) (a := a) (c := c') (w := w') (G := E.G) (fun t => trivial) hglob' N
   | func f => exact aEw (env := []) (a := a) (c := c') (w := w') (G := E.G) (fun t => trivial) hglob' N
  have U : ∀ x ∈ o.op.operands, qV x = true := Array.all_eq_true_iff_forall_mem.1 Z.1
  have hdid : Did P M w0 h c' o a w' (opA E h env (F i) o).2 := by
   by_cases O : ∃ p q r, o.op = .pick p q r
   ·obtain ⟨p, q, r, O⟩ := O
    simp only [opA, O] at hcond ⊢
    unfold bCc at hcond ⊢
    cases p with
    | tmp t =>
     simp only at hcond ⊢
     cases J : aDG (F i) t with
     | none => grind
     | some e =>
      simp only [J] at hcond ⊢
      split at hcond
      ·rename_i qb xb yb Y h2 h3
       have hp : aPx e.gp (aFe (F i) o.guard) = true := by
        grind
       rw [if_pos hp] at Y
       obtain ⟨e1, e2, e3, oe, e4, e5⟩ := aHa hF i (by omega) t e J
       have e3F := aCV hF (by omega) (Nat.le_refl _) (by omega) e3
       have hle := (hop t (by grind [Op.operands]) e.i oe e4 e5).1 e1
       have hc := (hm.ent e.i e hle e3F).1 (aI6 hp z)
       rw [e2, Y] at hc
       have hcv := aGf hc
       simp only [Y, if_pos hp, h2, h3]
       have hcb : aRG e.av = qb := by rw [Y]; rfl
       have hq : ∀ pol, qb = pol → jB (F ops.length) (aFe (F i) o.guard ++ [(e.i, pol)]) := fun pol hpol => by
        rw [aEx]
        refine ⟨z, ?_, trivial⟩
        grind
       cases qb with
       | true =>
        have N := hlook _ (hq true rfl) q (U q (by grind [Op.operands])) (by grind [Op.operands])
        rw [h2] at N
        refine Did.of_value (v := a.eval q) hm.good ?_ N
        have : a.eval (.tmp t) = .bool true := hcv
        simp [execOp, O, this, asBool]
       | false =>
        have N := hlook _ (hq false rfl) r (U r (by grind [Op.operands])) (by grind [Op.operands])
        rw [h3] at N
        refine Did.of_value (v := a.eval r) hm.good ?_ N
        have : a.eval (.tmp t) = .bool false := hcv
        simp [execOp, O, this, asBool]
      grind
    | _ => grind
   ·have e : opA E h env (F i) o = pv E h (aRH E.G (F i) env (aFe (F i) o.guard)) o := by
     grind [opA, absurd]
    rw [e] at hcond ⊢
    exact bF6 hE hm.good hglob' (fun x N => hlook _ z x (U x N) N) hcond
  have hput : ∀ v s I, aIY P M w0 h c' w' (opA E h env (F i) o).2 v s I → Mid E M w0 nt ds h env ops F c w (fun k => listed k ∨ k = i) I (a.put o.dst v) s := fun v s I L => by
   refine aZ0 hF hm ho s1 hdn hu hni L.later L.n L.good fun e J => ?_
   rw [k3] at J
   cases J
   exact ⟨fun _ => L.val, fun hn => absurd z hn⟩
  by_cases hal : ∃ t, o.op = .alloc t
  ·obtain ⟨t, ht⟩ := hal
   simp only [opA, pv, ht] at hcond
   split at hcond
   ·rename_i ct hT
    have hrun := aUp (w := w') hE.T hT hcond (o := o) (a := a) ht
    have hav : (opA E h env (F i) o).2 = .junk := by grind [opA, pv]
    have L : aIY P M w0 h c' w' (opA E h env (F i) o).2 _ _ c' := hav ▸ aPw (P := P) (ob := .cells (nN ct).cells t (0, 0)) hm.good
    unfold Oper.wp
    rw [hrun]
    refine hK c' _ _ (hput _ _ _ L) ⟨L.keeps, L.new, _, rfl, fun t' ht' _ => ?_⟩
    grind
   grind
  ·exact Did.wp' hdid fun v s I L _ => hK I _ s (hput v s I L) ⟨L.keeps, L.new, v, rfl, fun t ht => absurd ⟨t, ht⟩ hal⟩
 ·rw [if_neg hw]
  refine hK c' _ w' ?_ ⟨.refl _ _, fun b hb => .inl hb, Go.undef, rfl, fun t ht hgn => absurd (by simp [Region.wanted, hgn]) hw⟩
  refine aZ0 hF hm ho s1 hdn hu hni (.refl _ _) ⟨rfl, rfl⟩ hm.good fun e J => ?_
  grind
end
end Go.Vc
namespace Go.Vc
open Go.RowKit
theorem aI7 : ∀ (b : List Ent) (env : List (Nat × AV)) (t : Nat), look (nE b env) t = match aDG b t with | some e => (match e.gp with | [] => e.av | _ :: _ => .junk) | none => look env t
 | [], env, t => rfl
 | e :: r, env, t => by
  simp only [nE, look, aDG]
  split
  ·rfl
  ·exact aI7 r env t
def aH5 (ops : List Oper) : Bool :=
 (List.range ops.length).all fun i => (List.range ops.length).all fun k => decide (i = k) || (match ops[i]?, ops[k]? with | some o, some ok => decide (o.dst ≠ ok.dst) || o.dst.isNone | _, _ => true)
def aVi (ops : List Oper) : Bool :=
 (List.range ops.length).all fun i => match ops[i]? with
  | none => true
  | some o =>
   (o.after.toList.all fun e => !Region.binds .any e || decide (e.on < i)) &&
   (match o.guard with | none => true | some (j, _) => o.after.toList.any fun e => Region.binds .any e && decide (e.on = j)) &&
   (o.op.operands.toList.all fun x => match x with
    | .tmp t => (List.range ops.length).all fun k => match ops[k]? with
     | none => true
     | some ok => decide (ok.dst ≠ some t) || decide (k = i) || (decide (k < i) && o.after.toList.any fun e => Region.binds .any e && decide (e.on = k)) || (decide (i < k) && ok.after.toList.any fun e => Region.binds .any e && decide (e.on = i))
    | _ => true)
theorem aRb {ops : List Oper} (h : aH5 ops = true) {i k : Nat} {o ok : Oper} (g : ops[i]? = some o) (f : ops[k]? = some ok) (hd : ok.dst = o.dst) (hs : o.dst ≠ none) : k = i := by
 simp only [aH5, List.all_eq_true, List.mem_range] at h
 have hi : i < ops.length := by
  grind
 have b : k < ops.length := by
  grind
 have := h i hi k b
 simp_all
section
variable {P : Program} {E : Env} {M : Perm} {w0 : World} {nt : Nat} {ds : List Deferred} {h : List Obj} {env : List (Nat × AV)} {ops : List Oper} {F : Nat → List Ent} {Q : Exit → Act → World → Prop}
theorem aCW {c c' : Ctx} {w w' : World} {q l2 : Nat → Prop} (r : ∀ k, k < ops.length → (q k ↔ l2 k)) (hF : zT E h env ops F) {a : Act} (hm : Mid E M w0 nt ds h env ops F c w q c' a w') : Mid E M w0 nt ds h env ops F c w l2 c' a w' := by
 have f : ∀ k o, ops[k]? = some o → k < ops.length := fun k o g => by
  grind
 refine ⟨hm.later, hm.n, hm.good, hm.size, hm.defers, fun t ht => hm.base t fun k o s g => ht k o ((r k (f k o g)).1 s) g, fun i e hi b => ?_⟩
 have j : i < ops.length := by
  rcases Nat.lt_or_ge i ops.length with h | h
  ·exact h
  ·rw [(nO hF ops.length (Nat.le_refl _) i).2 h] at b; cases b
 exact hm.ent i e ((r i j).2 hi) b
theorem aOb {c : Ctx} {a : Act} {w : World} (hs : Sim E M w0 nt ds c env h a w) : Mid E M w0 nt ds h env ops F c w (fun _ => False) c a w :=
 ⟨.refl _ _, ⟨rfl, rfl⟩, hs.good, hs.size, hs.defers, fun t _ => hs.env t, fun i e hi => hi.elim⟩
theorem aVj (hF : zT E h env ops F) {c c' : Ctx} {a : Act} {w w' : World} (g : sG E.G c.S w) (hm : Mid E M w0 nt ds h env ops F c w (fun k => k < ops.length) c' a w') : Sim E M w0 nt ds c' (nE (F ops.length) env) h a w' := by
 refine ⟨hm.good, g.mono hm.later.le.S hm.later.same, fun t => ?_, hm.size, hm.defers⟩
 rw [aI7]
 cases f : aDG (F ops.length) t with
 | none => exact hm.base t fun k o r j => aLr hF _ (Nat.le_refl _) t f k o r j
 | some e =>
  obtain ⟨e1, s, q, _⟩ := aHa hF _ (Nat.le_refl _) t e f
  simp only
  split
  ·rename_i b
   have := (hm.ent e.i e e1 q).1 (by rw [b]; trivial)
   simp_all
  ·trivial
theorem aMz (L : iA P E) (hF : zT E h env ops F) (b : ∀ o ∈ ops, gY nt o = true) (I : aH5 ops = true) {c : Ctx} {w : World} (hglob : sG E.G c.S w)
  (O : ∀ c' J w', Mid E M w0 nt ds h env ops F c w (fun k => k < ops.length) c' J w' → Q .normal J w') : ∀ (m i : Nat), i + m = ops.length → ∀ (c' : Ctx) (a : Act) (w' : World), Mid E M w0 nt ds h env ops F c w (fun k => k < i) c' a w' → wpOps P ops.toArray Q (List.range' i m) a w'
 | 0, i, hi, c', a, w', hm => by
  simp only [List.range'_zero, wpOps]
  have : i = ops.length := by omega
  subst this
  grind
 | m + 1, i, hi, c', a, w', hm => by
  rw [List.range'_succ, wpOps_cons]
  have r : ops[i]? = some ops[i] := List.getElem?_eq_getElem (by omega)
  obtain ⟨d, Z, s, _, _⟩ := hF.step i _ r
  refine aRJ L hF b hglob hm r (Nat.lt_irrefl i) (fun t _ k ok _ _ => ⟨fun h => h, fun Y W => by omega⟩) (fun j p N => ?_) (fun k ok U hd => aRb I r U hd (by simp_all)) fun f z g q _ => ?_
  ·rw [N] at s
   simp only [aFp] at s
   rcases Nat.lt_or_ge j i with h | h
   ·exact h
   ·rw [(nO hF i (by omega) j).2 h] at s; simp_all
  ·exact aMz L hF b I hglob O m (i + 1) (by omega) f z g (aCW (fun k _ => by omega) hF q)
theorem aWW (z : iA P E) (g : ∀ o ∈ ops, gY nt o = true) (q : aH5 ops = true) {c : Ctx} {a : Act} {w : World} (hs : Sim E M w0 nt ds c env h a w) {K : List Ent → Prop} (hv : vcA E h env ops 0 [] K) {id : Nat}
  (r : ∀ b c' f w', K b → dS c w c' w' → c'.n = c.n → Sim E M w0 nt ds c' (nE b env) h f w' → Q .normal f w') : (Code.region id ops.toArray false).wp P Q a w := by
 obtain ⟨F, s, I, j⟩ := aG9 ops 0 [] K hv
 have hF : zT E h env ops F := ⟨s, fun i o J => by simp_all⟩
 simp only [Nat.zero_add] at j
 refine wp_region ?_
 have := aMz (Q := Q) z hF g q hs.glob (fun c' f w' hm => r _ c' f w' j hm.later hm.n.1 (aVj hF hs.glob hm)) ops.length 0 (by omega) c a w (aCW (fun k _ => by simp) hF (aOb hs))
 grind [List.range_eq_range']
theorem aVk (hE : iA P E) (hF : zT E h env ops F) (hok : ∀ o ∈ ops, gY nt o = true) (hu : aH5 ops = true) (q : aVi ops = true) {c : Ctx} {w : World} (hglob : sG E.G c.S w)
  (hQ : ∀ c' a' w', Mid E M w0 nt ds h env ops F c w (fun k => k < ops.length) c' a' w' → Q .normal a' w') : ∀ (b : Nat) (listed : Array Bool), listed.size = ops.length → ((List.range ops.length).filter fun k => !listed.getD k false).length = b →
   (∀ k o, ops[k]? = some o → listed.getD k false = true → ∀ e ∈ o.after, Region.binds .any e = true → listed.getD e.on false = true) →
   ∀ (c' : Ctx) (a : Act) (w' : World), Mid E M w0 nt ds h env ops F c w (fun k => listed.getD k false = true) c' a w' → wpAny P .any ops.toArray Q b listed a w' := by
 have hanyI : ∀ i o, ops[i]? = some o → (∀ e ∈ o.after, Region.binds .any e = true → e.on < i) ∧ (∀ j p, o.guard = some (j, p) → ∃ e ∈ o.after, Region.binds .any e = true ∧ e.on = j) ∧
   (∀ t, Operand.tmp t ∈ o.op.operands → ∀ k ok, ops[k]? = some ok → ok.dst = some t → k = i ∨ (k < i ∧ ∃ e ∈ o.after, Region.binds .any e = true ∧ e.on = k) ∨ (i < k ∧ ∃ e ∈ ok.after, Region.binds .any e = true ∧ e.on = i)) := by
  intro i o r
  have hi : i < ops.length := by
   grind
  simp only [aVi, List.all_eq_true, List.mem_range] at q
  have := q i hi
  rw [r] at this
  simp only [Bool.and_eq_true, List.all_eq_true, Array.mem_toList_iff] at this
  obtain ⟨⟨h1, h2⟩, h3⟩ := this
  refine ⟨fun e U hb => ?_, fun j p hg => ?_, fun t ht k ok f hd => ?_⟩
  ·grind
  ·grind
  ·have := h3 _ ht
   simp only [List.all_eq_true, List.mem_range] at this
   have L : k < ops.length := by
    grind
   have := this k L
   rw [f] at this
   simp only [hd, ne_eq, not_true_eq_false, decide_false, Bool.false_or, Bool.or_eq_true, decide_eq_true_eq, Bool.and_eq_true, List.any_eq_true, Array.mem_toList_iff] at this
   rcases this with (h | h) | h
   all_goals simp_all
 intro b
 induction b with
 | zero =>
  intro listed hsz J hcl c' a w' hm
  have g : ∀ k, k < ops.length → listed.getD k false = true := fun k f => by
   simp_all
  refine ⟨?_, hQ c' a w' (aCW (fun k f => ⟨fun _ => f, fun _ => g k f⟩) hF hm)⟩
  rw [List.eq_nil_iff_forall_not_mem]
  grind [mem_ready, Nat.lt_or_ge, List.getElem?_eq_none]
 | succ b ih =>
  intro listed hsz J hcl c' a w' hm
  refine ⟨fun hr => ?_, fun i hi => ?_⟩
  ·exfalso
   have hex : ∃ k, k < ops.length ∧ listed.getD k false = false := by
    have Z : ((List.range ops.length).filter fun k => !listed.getD k false) ≠ [] := fun e => by grind
    obtain ⟨k, f⟩ := List.exists_mem_of_ne_nil _ Z
    grind
   have N : ∃ k, (k < ops.length ∧ listed.getD k false = false) ∧ ∀ j, j < k → ¬ (j < ops.length ∧ listed.getD j false = false) := by
    obtain ⟨k, f⟩ := hex
    induction k using Nat.strongRecOn with
    | _ k ihk =>
     grind
   obtain ⟨k, ⟨f, hun⟩, hlow⟩ := N
   have z : k ∈ Region.ready .any ops.toArray listed := by
    rw [mem_ready]
    have O : k < listed.size := by omega
    refine ⟨by grind, ops[k], by simp [f], fun e U hb => ?_⟩
    grind
   grind
  ·obtain ⟨h1, o, r, g⟩ := mem_ready.1 hi
   have r : ops[i]? = some o := by grind
   have hil : i < ops.length := by
    grind
   have O : i < listed.size := by omega
   have hni : ¬ listed.getD i false = true := by grind
   obtain ⟨a1, a2, a3⟩ := hanyI i o r
   obtain ⟨d, s1, _, _, _⟩ := hF.step i _ r
   refine aRJ hE hF hok hglob hm r hni (fun t ht k ok f hd => ?_) (fun j p hg => ?_) (fun k ok f hd => aRb hu r f hd (by grind)) fun c'' a'' w'' W _ => ?_
   ·rcases a3 t ht k ok f hd with h | ⟨h, e, U, hb, Y⟩ | ⟨h, e, U, hb, Y⟩
    all_goals grind
   ·grind
   ·have I : ∀ k, (listed.setIfInBounds i true).getD k false = true ↔ (listed.getD k false = true ∨ k = i) := fun k => by
     by_cases e : i = k
     ·subst e; simp [O]
     ·rw [getD_set_ne false e]
      grind
    refine ih (listed.setIfInBounds i true) (by grind) ?_ (fun k o' f L e U hb => ?_) c'' a'' w'' (aCW (fun k _ => (I k).symm) hF W)
    ·have s : ((List.range ops.length).filter fun k => !(listed.setIfInBounds i true).getD k false) = ((List.range ops.length).filter fun k => !listed.getD k false).filter (fun k => decide (k ≠ i)) := by
      rw [List.filter_filter]
      grind
     rw [s]
     have hnd : ((List.range ops.length).filter fun k => !listed.getD k false).Nodup := List.nodup_range.filter _
     have z : i ∈ ((List.range ops.length).filter fun k => !listed.getD k false) := by
      grind
     have := hnd.erase_eq_filter i
     grind
    grind
theorem aMA (W : iA P E) (q : P.follows .mixedOrders = true) (I : ∀ o ∈ ops, gY nt o = true) (N : aH5 ops = true) (j : aVi ops = true) {c : Ctx} {a : Act} {w : World} (hs : Sim E M w0 nt ds c env h a w) {K : List Ent → Prop} (hv : vcA E h env ops 0 [] K) {id : Nat}
  (O : ∀ r c' s w', K r → dS c w c' w' → c'.n = c.n → Sim E M w0 nt ds c' (nE r env) h s w' → Q .normal s w') : (Code.region id ops.toArray true).wp P Q a w := by
 obtain ⟨F, U, Z, J⟩ := aG9 ops 0 [] K hv
 have hF : zT E h env ops F := ⟨U, fun i o L => by simp_all⟩
 simp only [Nat.zero_add] at J
 refine wp_region_any q ?_
 have f : dS c w c { w with drawn := w.drawn + 1 } := ⟨.refl _, fun b hb => rfl⟩
 have g : Sim E M w0 nt ds c env h a { w with drawn := w.drawn + 1 } :=
  ⟨hs.good.step f rfl rfl ⟨rfl, rfl, rfl, Nat.le_refl _, fun _ _ _ => rfl⟩ (fun _ _ _ _ _ => rfl) hs.good.sfin (fun _ hb => .inl hb), sG.mono (w := w) (w' := { w with drawn := w.drawn + 1 }) (fun _ hb => hb) f.same hs.glob, hs.env.keep f, hs.size, hs.defers⟩
 refine aVk (Q := Q) W hF I N j g.glob (fun c' s w' hm => O _ c' s w' J (f.trans hm.later) hm.n.1 (aVj hF g.glob hm)) _ _ (by simp) ?_ (fun k o L Y => ?_) c a _ (aCW (fun k z => ?_) hF (aOb g))
 ·rw [List.filter_eq_self.2 (fun k z => by simp_all)]; simp
 ·exfalso
  by_cases z : k < ops.length <;> simp [z] at Y
 ·simp [z]
end
end Go.Vc
namespace Go.Vc
open Go.RowKit
def Ctx.push (c : Ctx) (v : Value) : Ctx := ⟨c.S, fun i => if i = c.n then v else c.hd i, c.n + 1, c.bl⟩
theorem Ctx.le_push (c : Ctx) (v : Value) : c.le (c.push v) := ⟨fun _ h => h, Nat.le_succ _, fun i hi => by grind [push, Nat.ne_of_lt]⟩
section
variable {P : Program} {T : Tab} {M : Perm} {w0 : World} {c : Ctx} {h : List Obj} {w : World}
theorem Good.push (g : Good M w0 c h w) {w' : World} (O : jC nothing w w') {o : Obj} {hv : Value} (hob : aG0 (c.push hv) w' c.n o) (hb : ∀ b, fI (c.push hv) c.n o b → w.heap.size ≤ b ∧ b < w'.heap.size) :
  Good M w0 (c.push hv) (h ++ [o]) w' ∧ dS c w (c.push hv) w' := by
 have I : dS c w (c.push hv) w' := ⟨c.le_push hv, fun b J => O.block b (g.sfin b J) (fun f => f)⟩
 have hcase : ∀ i o', (h ++ [o])[i]? = some o' → (h[i]? = some o' ∧ i < c.n) ∨ (i = c.n ∧ o' = o) := fun i o' z => by
  rw [g.n]
  grind
 refine ⟨⟨by simp [Ctx.push, g.n], g.keeps.trans O.any, fun b J => Nat.lt_of_lt_of_le (g.sfin b J) O.size, g.src, fun i o' z => ?_, fun i o' b z q => ?_, fun i j oi oj b hi hj s r => ?_, aBj g.root I.le⟩, I⟩
 ·rcases hcase i o' z with ⟨z, hi⟩ | ⟨rfl, rfl⟩
  ·exact (g.objs i o' z).keep I hi rfl (fun b q => O.block b (g.own i o' b z q).2.1 (fun f => f))
  omega
 ·rcases hcase i o' z with ⟨z, hi⟩ | ⟨rfl, rfl⟩
  ·rw [gK I.le rfl hi] at q
   obtain ⟨h1, Z, h3⟩ := g.own i o' b z q
   exact ⟨h1, Nat.lt_of_lt_of_le Z O.size, h3⟩
  ·obtain ⟨h1, Z⟩ := hb b q
   exact ⟨.inl (Nat.le_trans g.keeps.size h1), Z, fun hS => by have := g.sfin b hS; omega⟩
 ·rcases hcase i oi hi with ⟨U, L⟩ | ⟨ei, eo⟩ <;> rcases hcase j oj hj with ⟨N, W⟩ | ⟨ej, Y⟩
  ·rw [gK I.le rfl L] at s
   rw [gK I.le rfl W] at r
   exact g.sep i j oi oj b U N s r
  ·subst ej; subst Y
   rw [gK I.le rfl L] at s
   have := (g.own i oi b U s).2.1
   grind
  ·subst ei; subst eo
   rw [gK I.le rfl W] at r
   have := (g.own j oj b N r).2.1
   grind
  omega
theorem Good.modifyG (f : Good M w0 c h w) {i : Nat} {o o' : Obj} {b : Nat} (N : h[i]? = some o) (hb : fI c i o b) {w' : World} (hos : w'.os = w.os) (htp : w'.tape = w.tape) (W : w'.output = w.output) (J : w'.heap.size = w.heap.size)
  (hsame : ∀ k, k ≠ b → w'.heap[k]? = w.heap[k]?) (hob : aG0 c w' i o') (z : ∀ b', fI c i o' b' → fI c i o b') :
  Good M w0 c (h.set i o') w' ∧ dS c w c w' := by
 obtain ⟨hB, hblt, hnS⟩ := f.own i o b N hb
 have hl : dS c w c w' := ⟨.refl _, fun k I => hsame k (fun e => hnS (e ▸ I))⟩
 have hil : i < h.length := aAC N
 have hcase : ∀ j g, (h.set i o')[j]? = some g → (j ≠ i ∧ h[j]? = some g) ∨ (j = i ∧ g = o') := fun j g r => by
  grind
 refine ⟨⟨by simp [f.n], ⟨hos.trans f.keeps.os, htp.trans f.keeps.tape, W.trans f.keeps.output, by rw [J]; exact f.keeps.size, fun k I hM => ?_⟩, fun k I => by rw [J]; exact f.sfin k I, f.src, fun j g r => ?_, fun j g b' r q => ?_, fun j k g ok b' r I q L => ?_, f.root⟩, hl⟩
 ·have s : k ≠ b := by
   grind
  rw [hsame k s]; exact f.keeps.block k I hM
 ·rcases hcase j g r with ⟨s, r⟩ | ⟨rfl, rfl⟩
  ·refine (f.objs j g r).keep hl (by rw [f.n]; grind) rfl (fun b' U => hsame b' (fun e => s ?_))
   subst e
   exact f.sep j i g o b' r N U hb
  omega
 ·rw [J]
  rcases hcase j g r with ⟨s, r⟩ | ⟨rfl, rfl⟩
  ·exact f.own j g b' r q
  ·exact f.own _ _ b' N (z b' q)
 ·rcases hcase j g r with ⟨hnj, O⟩ | ⟨ej, eo⟩ <;> rcases hcase k ok I with ⟨hnk, Y⟩ | ⟨ek, Z⟩
  ·exact f.sep j k g ok b' O Y q L
  ·subst ek; subst Z
   exact absurd (f.sep j k g o b' O N q (z b' L)) hnj
  ·subst ej; subst eo
   exact absurd (f.sep k j ok o b' Y N L (z b' q)) hnk
  omega
theorem Good.modify (z : Good M w0 c h w) {i : Nat} {o o' : Obj} {b : Nat} (I : h[i]? = some o) (hb : fI c i o b) {w' : World} (r : w'.os = w.os) (j : w'.tape = w.tape) (f : w'.output = w.output) (g : w'.heap.size = w.heap.size)
  (hsame : ∀ k, k ≠ b → w'.heap[k]? = w.heap[k]?) (q : aG0 c w' i o') (s : ∀ b', fI c i o' b' → b' = b) :
  Good M w0 c (h.set i o') w' ∧ dS c w c w' :=
 z.modifyG I hb r j f g hsame q fun b' h' => by grind
def freeze (i : Nat) (h : List Obj) : List Obj :=
 match h[i]? with
 | some (.row _ t b) => h.set i (.frz t b)
 | some (.tre _ _ t b) => h.set i (.frz t b)
 | _ => h
def Ctx.moreP (c : Ctx) (p : Nat → Prop) : Ctx := ⟨fun b => c.S b ∨ p b, c.hd, c.n, c.bl⟩
theorem Good.giveP (q : Good M w0 c h w) {i : Nat} {o : Obj} (N : h[i]? = some o) {t : Ty} {xs : List t.den} (O : bB w (c.moreP (fI c i o)).S (.sl t) xs [c.hd i]) : ∃ c', dS c w c' w ∧ c'.n = c.n ∧ Good M w0 c' (h.set i (.frz t xs)) w := by
 have J : c.le (c.moreP (fI c i o)) := ⟨fun b hb => .inl hb, Nat.le_refl _, fun _ _ => rfl⟩
 have Z : dS c w (c.moreP (fI c i o)) w := ⟨J, .refl _ _⟩
 have hil : i < h.length := aAC N
 have hcase : ∀ j f, (h.set i (.frz t xs))[j]? = some f → (j ≠ i ∧ h[j]? = some f) ∨ (j = i ∧ f = .frz t xs) := fun j f g => by
  grind
 have z : ∀ j f, fI (c.moreP (fI c i o)) j f = fI c j f := fun j f => by rfl
 refine ⟨_, Z, rfl, by simp [Ctx.moreP, q.n], q.keeps, fun b hb => ?_, fun b hb Y => ?_, fun j f g => ?_, fun j f b g hb => ?_, fun j k f ok b g W r s => ?_, aBj q.root J⟩
 ·rcases hb with hb | hb
  ·exact q.sfin b hb
  ·exact (q.own i _ b N hb).2.1
 ·rcases hb with hb | hb
  ·exact q.src b hb Y
  ·rcases (q.own i _ b N hb).1 with U | U
   all_goals grind
 ·rcases hcase j f g with ⟨I, g⟩ | ⟨rfl, rfl⟩
  ·exact (q.objs j f g).keep Z (by rw [q.n]; grind) rfl (fun _ _ => rfl)
  ·exact O
 ·rcases hcase j f g with ⟨I, g⟩ | ⟨rfl, rfl⟩
  ·rw [z] at hb
   obtain ⟨U, h2, h3⟩ := q.own j f b g hb
   refine ⟨U, h2, fun L => ?_⟩
   rcases L with L | L
   ·grind
   ·exact I (q.sep j i f _ b g N hb L)
  ·cases hb
 ·rcases hcase j f g with ⟨hnj, g⟩ | ⟨rfl, rfl⟩
  ·rcases hcase k ok W with ⟨hnk, W⟩ | ⟨rfl, rfl⟩
   ·rw [z] at r s
    exact q.sep j k f ok b g W r s
   ·cases s
  ·cases r
def Ctx.more (c : Ctx) (b? : Option Nat) : Ctx := ⟨fun b => c.S b ∨ b? = some b, c.hd, c.n, c.bl⟩
theorem Good.freeze (f : Good M w0 c h w) (i : Nat) : ∃ c', dS c w c' w ∧ c'.n = c.n ∧ Good M w0 c' (freeze i h) w := by
 unfold Vc.freeze
 split
 ·rename_i e t q g
  exact f.giveP g (aDt.toC (f.objs i _ g) (fun b hb => .inl hb) (fun b hb => .inr hb))
 ·rename_i e m t q g
  obtain ⟨B, r, _, j⟩ := f.objs i _ g
  exact f.giveP g (lH.toC (fun b hb => .inl hb) _ _ _ _ _ (fun b hb => .inr (j b hb)) r)
 ·exact ⟨c, .refl _ _, rfl, f⟩
def freezeAll : List Nat → List Obj → List Obj
 | [], h => h
 | i :: r, h => freezeAll r (freeze i h)
theorem Good.freezeAll : ∀ (J : List Nat) {c : Ctx} {h : List Obj}, Good M w0 c h w → ∃ c', dS c w c' w ∧ c'.n = c.n ∧ Good M w0 c' (freezeAll J h) w
 | [], c, h, b => ⟨c, .refl _ _, rfl, b⟩
 | i :: r, c, h, b => by
  obtain ⟨c1, z, q, f⟩ := b.freeze i
  obtain ⟨I, s, g, j⟩ := Good.freezeAll r f
  exact ⟨I, z.trans s, g.trans q, j⟩
def uP : (t : Ty) → t.den → List AV
 | .pair a r, x => .val a x.1 :: uP r x.2
 | .expr, x => [.val (.i .i64) x.kind, .val .str x.text, .val (.sl .expr) x.l]
 | _, _ => []
def aOc (v : AV) (k : Nat) (u : AV) : AV :=
 match v with
 | .val t x => aIW t ((uP t x).set k u)
 | .agg b => .agg (b.set k u)
 | _ => .junk
def aFq (v : AV) (i : Nat) (u : AV) : AV :=
 match v with
 | .val (.arr n t) b => match AV.as [] t u with
  | some x => .val (.arr n t) (b.set i x)
  | none => .junk
 | _ => .junk
def aCX : AV → List Step → AV → Prop × AV
 | v, [], u => (v.solid = true ∧ u.solid = true ∧ v.nc = u.nc, u)
 | v, .fld off k :: p, u => (v.solid = true ∧ off = (dO v k).2 ∧ (aCX (dO v k).1 p u).1 ∧ (aCX (dO v k).1 p u).2.solid1 = true ∧ aOc v k (aCX (dO v k).1 p u).2 ≠ .junk, aOc v k (aCX (dO v k).1 p u).2)
 | v, .idx s i :: p, u => ((elemOf v i).1 ∧ s = aUk v ∧ (aCX (elemOf v i).2 p u).1 ∧ aFq v i (aCX (elemOf v i).2 p u).2 ≠ .junk, aFq v i (aCX (elemOf v i).2 p u).2)
def Ty.strB : Ty → Bool
 | .unit => true
 | .pair _ r => r.strB
 | .expr => true
 | _ => false
theorem aPz : ∀ (t : Ty) (x : t.den) (cs : List Value), t.strB = true → bB w c.S t x cs → mE c w (uP t x) cs ∧ (∀ v ∈ uP t x, v.solid1 = true)
 | .unit, _, cs, _, f => ⟨f, fun v hv => by cases hv⟩
 | .pair a r, x, cs, hs, ⟨c1, z, e, N, J⟩ => by
  obtain ⟨I, U⟩ := aPz r x.2 z hs J
  refine ⟨⟨c1, z, e, N, I⟩, fun v hv => ?_⟩
  rcases List.mem_cons.1 hv with rfl | hv
  ·rfl
  simp_all
 | .bool, _, _, hs, _ => by grind [Ty.strB]
 | .u _, _, _, hs, _ => by grind [Ty.strB]
 | .i _, _, _, hs, _ => by grind [Ty.strB]
 | .str, _, _, hs, _ => by grind [Ty.strB]
 | .sl _, _, _, hs, _ => by grind [Ty.strB]
 | .arr _ _, _, _, hs, _ => by grind [Ty.strB]
 | .expr, x, cs, _, f => by
  have h0 := aMm (c := c) .expr x 0 cs f (by simp [aIw])
  refine ⟨?_, fun v hv => by simp [uP] at hv; rcases hv with rfl | rfl | rfl <;> rfl⟩
  cases f with
  | mk k s l a len g j q hs O hc hm f L =>
   exact ⟨[_], [_, _], rfl, ⟨rfl, rfl, q.1, q.2⟩, [_], [_], rfl, ⟨s, rfl, rfl, hs⟩, [_], [], rfl, ⟨a, len, g, rfl, O, hc, hm, L.imp id fun ⟨b, off, e, hb, hcell⟩ => ⟨b, off, e, hb, fun i hi => ⟨j i, f i hi, hcell i hi⟩⟩⟩, rfl⟩
 | .rp _, _, _, hs, _ => by grind [Ty.strB]
 | .clo _ _, _, _, hs, _ => by grind [Ty.strB]
theorem aH6 : ∀ (t : Ty) (x : t.den) (k : Nat), aIw t x k ≠ .junk → t.strB = true → k < (uP t x).length ∧ (dO (.agg (uP t x)) k) = (aIw t x k, t.fieldOff k)
 | .pair a r, x, 0, _, _ => ⟨by simp [uP], rfl⟩
 | .pair a r, x, k + 1, b, hs => by
  obtain ⟨g, f⟩ := aH6 r x.2 k b hs
  refine ⟨by simp [uP, g], ?_⟩
  simp only [uP, dO, f]
  rfl
 | .unit, x, k, b, _ => absurd rfl b
 | .expr, x, k, b, _ => by
  match k, b with
  | 0, _ => exact ⟨by simp [uP], rfl⟩
  | 1, _ => exact ⟨by simp [uP], rfl⟩
  | 2, _ => exact ⟨by simp [uP], rfl⟩
  | k + 3, b => exact absurd rfl b
 | .bool, x, k, b, hs => absurd rfl b
 | .u _, x, k, b, hs => absurd rfl b
 | .i _, x, k, b, hs => absurd rfl b
 | .str, x, k, b, hs => absurd rfl b
 | .sl _, x, k, b, hs => absurd rfl b
 | .arr _ _, x, k, b, hs => absurd rfl b
 | .rp _, x, k, b, hs => absurd rfl b
 | .clo _ _, x, k, b, hs => absurd rfl b
theorem aRc : ∀ {vs : List AV} {cs : List Value} {k : Nat}, mE c w vs cs → (∀ v ∈ vs, v.solid1 = true) → k < vs.length → ∃ pre ds post, cs = pre ++ ds ++ post ∧ pre.length = (dO (.agg vs) k).2 ∧ aM c w (dO (.agg vs) k).1 ds ∧ ∀ (u : AV) (b : List Value), aM c w u b → mE c w (vs.set k u) (pre ++ b ++ post)
 | [], _, _, _, _, I => by grind
 | v :: r, cs, 0, q, hs, _ => by
  obtain ⟨c1, z, e, j, s⟩ := q
  exact ⟨[], c1, z, by simp_all, rfl, j, fun u b g => by simp only [List.set_cons_zero, mE, List.nil_append]; grind⟩
 | v :: r, cs, k + 1, q, hs, I => by
  obtain ⟨c1, z, e, j, s⟩ := q
  obtain ⟨pre, ds, post, J, hp, hd, f⟩ := aRc (k := k) s (fun u g => hs u (by simp [g])) (by simp_all)
  refine ⟨c1 ++ pre, ds, post, by simp_all, ?_, hd, fun u b g => ?_⟩
  ·rw [List.length_append, aLn (hs v (by simp)) j, hp]; rfl
  ·simp only [List.set_cons_succ, mE]
   exact ⟨c1, pre ++ b ++ post, by simp, j, f u b g⟩
theorem bA4 {v u : AV} {k : Nat} {cs : List Value} (hs : v.solid = true) (q : aM c w v cs) (g : ∀ t x, v = .val t x → t.strB = true) (z : (dO v k).1 ≠ .junk) :
  ∃ pre ds post, cs = pre ++ ds ++ post ∧ pre.length = (dO v k).2 ∧ aM c w (dO v k).1 ds ∧ ∀ b, aM c w u b → aM c w (aOc v k u) (pre ++ b ++ post) := by
 cases v with
 | val t x =>
  have f := g t x rfl
  obtain ⟨I, U⟩ := aPz (c := c) (w := w) t x cs f q
  obtain ⟨N, J⟩ := aH6 t x k (by grind [dO]) f
  obtain ⟨pre, ds, post, e, hp, hd, j⟩ := aRc I U N
  rw [J] at hp hd
  refine ⟨pre, ds, post, e, by grind [dO], by grind [dO], fun b L => ?_⟩
  simp only [aOc]
  have := aMt (t := t) (c := c) (w := w) (cells := (pre ++ b ++ post).toArray) (by simpa using j u b L)
  have O : xD c w (aIW t ((uP t x).set k u)) (.agg (pre ++ b ++ post).toArray) := by
   revert this
   unfold aIW
   split <;> exact fun h => h
  simpa [Value.cells] using O.1
 | agg s =>
  simp only [aM] at q
  simp only [AV.solid, List.all_eq_true] at hs
  have Y : k < s.length := by
   rcases Nat.lt_or_ge k s.length with h | h
   ·exact h
   ·exfalso; apply z
    clear hs q z g
    induction s generalizing k with
    | nil => simp [dO]
    | cons v r W => cases k with
     | zero => simp at h
     | succ k => grind [dO]
  grind [aRc, aOc, aM]
 | _ => grind [dO]
theorem aYJ {v u : AV} {i : Nat} {cs : List Value} (Y : aM c w v cs) (h : (elemOf v i).1) (q : aFq v i u ≠ .junk) :
  ∃ pre ds post, cs = pre ++ ds ++ post ∧ pre.length = i * aUk v ∧ aM c w (elemOf v i).2 ds ∧ ∀ f, f.length = ds.length → aM c w u f → aM c w (aFq v i u) (pre ++ f ++ post) := by
 cases v with
 | val t x =>
  cases t with
  | arr n t =>
   simp only [elemOf] at h ⊢
   obtain ⟨hn, b, e, hl, g⟩ := Y
   have r : i < b.length := by omega
   obtain ⟨pre, post, z, hp⟩ := pB (t := t) (css := b) (fun j q => bB.length _ _ _ (g j (by omega) q)) i r
   refine ⟨pre, b[i], post, by grind, hp, ?_, fun f hdl N => ?_⟩
   ·have := g i (by omega) (by omega)
    simp only [aM]
    rw [List.getD_eq_getElem?_getD, List.getElem?_eq_getElem (by omega)]
    exact this
   ·simp only [aFq] at q ⊢
    split at q
    ·rename_i y Z
     have J := (aMt.as_nil t u y f Z N).1
     have s : ((b.take i).flatten).length = i * t.cells := by
      rw [mD (n := t.cells) (fun j q => ?_)]
      ·rw [List.length_take, Nat.min_eq_left (by omega)]
      ·simp at q; simp only [List.getElem_take]; exact bB.length _ _ _ (g j (by omega) (by omega))
     have W : b = b.take i ++ [b[i]] ++ b.drop (i + 1) := by simp
     have I : b.flatten = (b.take i).flatten ++ b[i] ++ (b.drop (i + 1)).flatten := by
      grind
     rw [I, List.append_assoc, List.append_assoc] at z
     obtain ⟨U, O⟩ := List.append_inj z (by omega)
     obtain ⟨q3, L⟩ := List.append_inj O rfl
     refine ⟨by grind, b.set i f, ?_, by grind, fun j h1 h2 => ?_⟩
     ·rw [← U, ← L, List.set_eq_take_append_cons_drop, if_pos r]
      simp
     grind [List.getElem_set_self, List.getElem_set_ne]
    simp_all
  | _ => exact h.elim
 | _ => exact h.elim
def aEy : AV → List Step → Bool
 | _, [] => true
 | .val t x, .fld _ k :: p => t.strB && aEy (dO (.val t x) k).1 p
 | v, .fld _ k :: p => aEy (dO v k).1 p
 | v, .idx _ i :: p => aEy (elemOf v i).2 p
theorem aMB : ∀ (p : List Step) (v u : AV) (cs : List Value), aM c w v cs → (aCX v p u).1 → aEy v p = true → ∃ pre ds post, cs = pre ++ ds ++ post ∧ pre.length = oF p ∧ (∀ f, aM c w u f → f.length = ds.length ∧ aM c w (aCX v p u).2 (pre ++ f ++ post))
 | [], v, u, cs, L, h, _ => by
  obtain ⟨h1, j, Z⟩ := h
  exact ⟨[], cs, [], by simp, rfl, fun f W => ⟨by grind [aRt], by grind [aCX]⟩⟩
 | .fld off k :: p, v, u, cs, L, h, hb => by
  simp only [aCX] at h ⊢
  obtain ⟨hs, ho, j, Z, U⟩ := h
  have hj : (dO v k).1 ≠ .junk := by
   intro e
   rw [e] at j
   cases p with
   | nil => obtain ⟨q, _⟩ := j; simp [AV.solid, AV.solid1] at q
   | cons s p => cases s with
    | fld _ _ => obtain ⟨q, _⟩ := j; simp [AV.solid, AV.solid1] at q
    | idx _ _ => exact j.1.elim
  have N : ∀ t x, v = .val t x → t.strB = true := fun t x e => by simp_all [aEy, Bool.and_eq_true]
  have z : aEy (dO v k).1 p = true := by
   cases v <;> first | simp_all [aEy, Bool.and_eq_true] | grind [aEy]
  obtain ⟨pre, ds, post, e, hp, hd, J⟩ := bA4 (u := (aCX (dO v k).1 p u).2) hs L N hj
  obtain ⟨g, I, b, Y, O, r⟩ := aMB p _ u ds hd j z
  refine ⟨pre ++ g, I, b ++ post, by simp_all, by grind [List.length_append, oF, Step.off], fun f W => ?_⟩
  grind
 | .idx s i :: p, v, u, cs, L, h, hb => by
  simp only [aCX] at h ⊢
  obtain ⟨hs, ho, j, U⟩ := h
  have z : aEy (elemOf v i).2 p = true := by grind [aEy]
  obtain ⟨pre, ds, post, e, hp, hd, J⟩ := aYJ (u := (aCX (elemOf v i).2 p u).2) L hs U
  obtain ⟨g, I, b, Y, O, r⟩ := aMB p _ u ds hd j z
  refine ⟨pre ++ g, I, b ++ post, by simp_all, by grind [List.length_append, oF, Step.off], fun f W => ?_⟩
  grind
end
end Go.Vc
namespace Go.Vc
open Go.RowKit
def Ctx.pushS (c : Ctx) (S' : Nat → Prop) (v : Value) : Ctx := ⟨S', fun i => if i = c.n then v else c.hd i, c.n + 1, c.bl⟩
section
variable {P : Program} {T : Tab} {M : Perm} {w0 : World} {c : Ctx} {h : List Obj} {w : World}
theorem Good.pushS (q : Good M w0 c h w) {w' : World} (W : jC nothing w w') {S' : Nat → Prop} (hS : ∀ b, c.S b → S' b) (N : ∀ b, S' b → c.S b ∨ (w.heap.size ≤ b ∧ b < w'.heap.size)) {o : Obj} {hv : Value} (hob : aG0 (c.pushS S' hv) w' c.n o)
  (hb : ∀ b, fI (c.pushS S' hv) c.n o b → w.heap.size ≤ b ∧ b < w'.heap.size ∧ ¬ S' b) :
  Good M w0 (c.pushS S' hv) (h ++ [o]) w' ∧ dS c w (c.pushS S' hv) w' := by
 have J : dS c w (c.pushS S' hv) w' := ⟨⟨hS, Nat.le_succ _, fun i hi => by simp [Ctx.pushS, Nat.ne_of_lt hi]⟩, fun b g => W.block b (q.sfin b g) (fun f => f)⟩
 have hcase : ∀ i o', (h ++ [o])[i]? = some o' → (h[i]? = some o' ∧ i < c.n) ∨ (i = c.n ∧ o' = o) := fun i o' I => by
  rw [q.n]
  grind
 refine ⟨⟨by simp [Ctx.pushS, q.n], q.keeps.trans W.any, fun b g => ?_, fun b g hlt => ?_, fun i o' I => ?_, fun i o' b I r => ?_, fun i j oi oj b hi hj z s => ?_, aBj q.root J.le⟩, J⟩
 ·rcases N b g with g | g
  ·exact Nat.lt_of_lt_of_le (q.sfin b g) W.size
  omega
 ·rcases N b g with g | g
  ·exact q.src b g hlt
  ·have := q.keeps.size; omega
 ·rcases hcase i o' I with ⟨I, hi⟩ | ⟨rfl, rfl⟩
  ·exact (q.objs i o' I).keep J hi rfl (fun b r => W.block b (q.own i o' b I r).2.1 (fun f => f))
  omega
 ·rcases hcase i o' I with ⟨I, hi⟩ | ⟨rfl, rfl⟩
  ·rw [gK J.le rfl hi] at r
   obtain ⟨h1, h2, h3⟩ := q.own i o' b I r
   refine ⟨h1, Nat.lt_of_lt_of_le h2 W.size, fun L => ?_⟩
   rcases N b L with L | L
   all_goals grind
  ·obtain ⟨h1, h2, h3⟩ := hb b r
   exact ⟨.inl (Nat.le_trans q.keeps.size h1), h2, h3⟩
 ·rcases hcase i oi hi with ⟨Y, O⟩ | ⟨ei, eo⟩ <;> rcases hcase j oj hj with ⟨U, Z⟩ | ⟨ej, eo'⟩
  ·rw [gK J.le rfl O] at z
   rw [gK J.le rfl Z] at s
   exact q.sep i j oi oj b Y U z s
  ·subst ej; subst eo'
   rw [gK J.le rfl O] at z
   have := (q.own i oi b Y z).2.1
   grind
  ·subst ei; subst eo
   rw [gK J.le rfl Z] at s
   have := (q.own j oj b U s).2.1
   grind
  omega
theorem Good.regrow (f : Good M w0 c h w) {i : Nat} {e : TypeId} {t : Ty} {xs : List t.den} (ho : h[i]? = some (.row e t xs)) {w' : World} (Y : w.grownBy w' (aX (c.hd i))) {v' : Value} {ys : List t.den} (hrow : aDt c w' e t ys v')
  (hb : ∀ b, aX v' = some b → aX (c.hd i) = some b ∨ (w.heap.size ≤ b ∧ b < w'.heap.size)) : Good M w0 (c.push v') (h.set i .dead ++ [.row e t ys]) w' ∧ dS c w (c.push v') w' := by
 have hil : i < h.length := aAC ho
 have hother : ∀ b, b < w.heap.size → aX (c.hd i) ≠ some b → w'.heap[b]? = w.heap[b]? := fun b W z => Y.block b W (fun e => z e.symm)
 have hiS : ∀ b, c.S b → aX (c.hd i) ≠ some b := fun b hS e => (f.own i _ b ho e).2.2 hS
 have hl : dS c w (c.push v') w' := ⟨c.le_push v', fun b U => hother b (f.sfin b U) (hiS b U)⟩
 have hcase : ∀ j o', (h.set i Obj.dead ++ [Obj.row e t ys])[j]? = some o' → (h[j]? = some o' ∧ j < c.n ∧ j ≠ i) ∨ (j = c.n ∧ o' = Obj.row e t ys) ∨ o' = Obj.dead := fun j o' hj => by
  rw [f.n]
  grind
 have hpush : (c.push v').hd c.n = v' := by simp [Ctx.push]
 refine ⟨⟨by simp [Ctx.push, f.n], ⟨Y.os.trans f.keeps.os, Y.tape.trans f.keeps.tape, Y.output.trans f.keeps.output, Nat.le_trans f.keeps.size Y.size, fun b W hM => ?_⟩, fun b U => Nat.lt_of_lt_of_le (f.sfin b U) Y.size, f.src, fun j o' hj => ?_, fun j o' b hj q => ?_, fun j k oj ok b hj hk' s g => ?_, aBj f.root hl.le⟩, hl⟩
 ·have z : aX (c.hd i) ≠ some b := fun e' => by
   rcases (f.own i _ b ho e').1 with I | I
   all_goals grind
  rw [hother b (Nat.lt_of_lt_of_le W f.keeps.size) z]
  exact f.keeps.block b W hM
 ·rcases hcase j o' hj with ⟨r, O, z⟩ | ⟨ej, N⟩ | N
  ·exact (f.objs j o' r).keep hl O rfl (fun b q => hother b (f.own j o' b r q).2.1 (fun e' => z (f.sep j i o' _ b r ho q e')))
  ·subst ej; subst N
   obtain ⟨vals, I, h2⟩ := hrow
   exact ⟨vals, by simp_all, h2⟩
  ·subst N; trivial
 ·rcases hcase j o' hj with ⟨r, O, z⟩ | ⟨ej, N⟩ | N
  ·rw [gK hl.le rfl O] at q
   obtain ⟨I, h2, h3⟩ := f.own j o' b r q
   exact ⟨I, Nat.lt_of_lt_of_le h2 Y.size, h3⟩
  ·subst ej; subst N
   have q : aX v' = some b := by rw [← hpush]; exact q
   rcases hb b q with I | I
   ·obtain ⟨q1, q2, q3⟩ := f.own i _ b ho I
    exact ⟨q1, Nat.lt_of_lt_of_le q2 Y.size, q3⟩
   ·exact ⟨.inl (Nat.le_trans f.keeps.size I.1), I.2, fun hS => by have := f.sfin b hS; omega⟩
  ·subst N; cases q
 ·rcases hcase j oj hj with ⟨r, O, z⟩ | ⟨ej, N⟩ | N
  ·rw [gK hl.le rfl O] at s
   rcases hcase k ok hk' with ⟨J, hkn, Z⟩ | ⟨ek, L⟩ | L
   ·rw [gK hl.le rfl hkn] at g
    exact f.sep j k oj ok b r J s g
   ·subst ek; subst L
    have g : aX v' = some b := by rw [← hpush]; exact g
    rcases hb b g with I | I
    ·exact absurd (f.sep j i oj _ b r ho s I) z
    ·have := (f.own j oj b r s).2.1
     omega
   ·subst L; cases g
  ·subst ej; subst N
   have s : aX v' = some b := by rw [← hpush]; exact s
   rcases hcase k ok hk' with ⟨J, hkn, Z⟩ | ⟨ek, L⟩ | L
   ·rw [gK hl.le rfl hkn] at g
    rcases hb b s with I | I
    ·exact absurd (f.sep k i ok _ b J ho g I) Z
    ·have := (f.own k ok b J g).2.1
     omega
   ·omega
   ·subst L; cases g
  ·subst N; cases s
def aRK (h : List Obj) : AV → AV
 | .own i => match h[i]? with
  | some (.frz t b) => .val (.sl t) b
  | _ => .own i
 | v => v
def aVl (h : List Obj) : AV → AV
 | .agg b => .agg (b.map (aRK h))
 | v => aRK h v
theorem aWX (g : Good M w0 c h w) {v : AV} {cs : List Value} (b : aM c w v cs) : aM c w (aRK h v) cs := by
 unfold aRK
 split
 ·rename_i i
  split
  ·rename_i t j f
   have := g.objs i _ f
   simp only [aM] at b
   rw [b.2.1]
   exact this
  omega
 omega
theorem aWY (b : Good M w0 c h w) : ∀ {vs : List AV} {cs : List Value}, mE c w vs cs → mE c w (vs.map (aRK h)) cs
 | [], _, f => f
 | v :: r, _, ⟨c1, q, e, j, g⟩ => ⟨c1, q, e, aWX b j, aWY b g⟩
theorem aZ1 (q : Good M w0 c h w) {v : AV} {x : Value} (b : aW c w v x) : aW c w (aVl h v) x := by
 cases v with
 | agg I =>
  obtain ⟨j, r, f⟩ := b
  exact ⟨aWY q (by grind [aM]), r, f⟩
 | own i =>
  simp only [aVl, aRK]
  split
  ·rename_i t J s
   have := q.objs i _ s
   have g := b
   obtain ⟨j, r, f⟩ := b
   simp only [aM] at j
   have z := (aCy g).2
   refine ⟨?_, fun h => by simp [AV.isAgg, Ty.isAgg] at h, fun _ => f rfl⟩
   simp only [aM]
   rw [j.2.1]
   exact this
  omega
 | _ => exact b
def aHb (T : Tab) (h : List Obj) (t : TypeId) (a x : AV) : Prop × AV × List Obj :=
 match a with
 | .ptr i p => match h[i]? with
  | some (.box n .junk) => match p with
   | [] => (n = x.nc ∧ n < 4294967296 ∧ x.solid = true ∧ ∃ b, T t = some b ∧ b.cells = x.nc, .junk, h.set i (.box n x))
   | _ => (False, .junk, h)
  | some (.box n v) => ((aCX v p x).1 ∧ aEy v p = true ∧ x.solid = true ∧ ∃ b, T t = some b ∧ b.cells = x.nc, .junk, h.set i (.box n (aCX v p x).2))
  | some (.row e b f) => match p with
   | .idx s k :: p => match AV.as [] b (aCX (.val b (f.getD k b.zero)) p x).2 with
    | some y => (k < f.length ∧ s = b.cells ∧ (aCX (.val b (f.getD k b.zero)) p x).1 ∧ aEy (.val b (f.getD k b.zero)) p = true ∧ x.solid = true ∧ ∃ c', T t = some c' ∧ c'.cells = x.nc, .junk, h.set i (.row e b (f.set k y)))
    | none => (False, .junk, h)
   | _ => (False, .junk, h)
  | some (.trh e m b f g v) => match p with
   | .idx s k :: p => (k = g ∧ s = b.cells ∧ (aCX v p x).1 ∧ aEy v p = true ∧ x.solid = true ∧ ∃ c', T t = some c' ∧ c'.cells = x.nc, .junk, h.set i (.trh e m b f g (aCX v p x).2))
   | _ => (False, .junk, h)
  | _ => (False, .junk, h)
 | _ => (False, .junk, h)
def aDH (b t : Ty) (xs : List b.den) : Option (List t.den) := if e : b = t then some (e ▸ xs) else none
@[simp] theorem aYK {t : Ty} {xs : List t.den} : aDH t t xs = some xs := by simp [aDH]
theorem aEz {b t : Ty} {xs : List b.den} {ys : List t.den} (h : aDH b t xs = some ys) : ∃ e : b = t, ys = e ▸ xs := by
 unfold aDH at h
 grind
theorem bCd (h : List Obj) (i : Nat) (t : Ty) : rowOf h i t = match h[i]? with
  | some (.row _ f b) => aDH f t b
  | some (.frz f b) => aDH f t b
  | some (.tre _ _ f b) => aDH f t b
  | _ => none := by
 rfl
def bound (b : Ty) (n : Nat) : Prop := n ≤ maxLen ∧ n * b.byt ≤ 140737488355328
def xF (E : Env) (h : List Obj) (t : TypeId) (s x : AV) : Prop × AV × List Obj :=
 match E.T t with
 | some (.sl b) => match AV.as (if b.scalar then h else h.map fL) (.sl b) x with
  | some f => match s with
   | .nilS => (bound b f.length ∧ b.okB = true, .own h.length, h ++ [.row (E.el t) b f])
   | .own i => match h[i]? with
    | some (.row e c' g) => match aDH c' b g with
     | some g => (e = E.el t ∧ bound b (g.length + f.length) ∧ b.okB = true, .own h.length, h.set i .dead ++ [.row (E.el t) b (g ++ f)])
     | none => (False, .junk, h)
    | _ => (False, .junk, h)
   | _ => (False, .junk, h)
  | none => (False, .junk, h)
 | _ => (False, .junk, h)
def aOd (E : Env) (h : List Obj) (t : TypeId) (l cp : AV) : Prop × AV × List Obj :=
 match E.T t with
 | some (.sl b) => match aCS l, aCS cp with
  | some n, some m => (b.okB = true ∧ 0 ≤ n ∧ n ≤ m ∧ (b.byt : Int) * m ≤ 281474976710656 ∧ m ≤ maxLen, .own h.length, h ++ [.row (E.el t) b (List.replicate n.toNat b.zero)])
  | _, _ => (False, .junk, h)
 | _ => (False, .junk, h)
def aKi (Γ : FuncId → List AV → Option aG) (h : List Obj) (f : FuncId) (vs : List AV) : Prop × AV × List Obj :=
 match Γ f vs with
 | some sp => match sp with
  | ⟨a, .own e t, pre, fn⟩ => match aCn (if t.scalar then h else h.map fL) a vs with
   | some x => (pre x, .own h.length, h ++ [.row e t (fn x)])
   | none => (False, .junk, h)
  | _ => (False, .junk, h)
 | none => (False, .junk, h)
theorem bCe {t : Ty} {css : List (List Value)} (J : ∀ j (s : j < css.length), (css[j]).length = t.cells) {k : Nat} (f : k < css.length) {pre post ds : List Value} (q : css.flatten = pre ++ css[k] ++ post) (hp : pre.length = k * t.cells) : (css.set k ds).flatten = pre ++ ds ++ post := by
 have I : css = css.take k ++ css[k] :: css.drop (k + 1) := by simp_all
 have r : (css.take k).flatten.length = k * t.cells := by
  rw [mD (n := t.cells) (fun i hi => by grind), List.length_take, Nat.min_eq_left (Nat.le_of_lt f)]
 have g : css.flatten = (css.take k).flatten ++ css[k] ++ (css.drop (k + 1)).flatten := by
  grind
 have b : pre = (css.take k).flatten ∧ css[k] ++ post = css[k] ++ (css.drop (k + 1)).flatten := by
  grind [List.append_assoc, List.append_inj]
 have z : post = (css.drop (k + 1)).flatten := List.append_cancel_left b.2
 grind
theorem aFr {t : TypeId} {q : Ty} (s : aDU P T t q) {x : AV} {u : Value} (hs : x.solid = true) (J : aW c w x u) (N : q.cells = x.nc) {b off : Nat} {cells : Array Value} {e : TypeId} (hb : w.heap[b]? = some (.cells cells e (0, 0)))
  {pre ds post : List Value} (hc : cells.toList = pre ++ ds ++ post) (hp : pre.length = off) (O : ds.length = x.nc) :
  aM c w x u.cells.toList ∧ u.cells.toList.length = ds.length ∧ (storeVar t ⟨b, off, none⟩ u).run P w = .ok () (w.setRow b (pre ++ u.cells.toList ++ post).toArray) := by
 have f : xD c w x u := by cases x <;> first | exact J | grind [AV.solid, AV.solid1]
 have I := aRt hs f.1
 refine ⟨f.1, by omega, ?_⟩
 have g := aN5 hs f.1
 have L : cells.size = (pre ++ ds ++ post).length := by grind
 have r := run_storeCells_at P b off e u.cells.toList 0 cells w hb (by
  simp_all) (fun v hv => by
   have := g v hv
   cases v <;> first | rfl | exact this.elim)
 have e1 : cells.toList.take (off + 0) = pre := by simp_all
 have z : cells.toList.drop (off + 0 + u.cells.toList.length) = post := by
  grind
 rw [e1, z] at r
 have j : u.cells.size = q.cells := by simp_all
 simp only [storeVar, Sem.run_bind, fK s, Result.andThen_ok, j, ne_eq, not_true_eq_false, if_false, Sem.run_ite]
 omega
theorem bCf (hT : lP P T) (hg : Good M w0 c h w) {t : TypeId} {a x : AV} {av u : Value} (ha : aW c w a av) (hx : aW c w x u) (hc : (aHb T h t a x).1) :
  ∃ w', (Instr.storeAt t av u).run P w = .ok () w' ∧ dS c w c w' ∧ Good M w0 c (aHb T h t a x).2.2 w' := by
 cases a with
 | ptr i p =>
  obtain ⟨hi, b, hb, rfl⟩ := aG6 ha
  simp only [aHb] at hc ⊢
  split at hc
  ·rename_i n Y
   cases p with
   | cons _ _ => simp_all
   | nil =>
   obtain ⟨h1, hbn, h3, r, h4, h5⟩ := hc
   obtain ⟨b', cells, e, q1, q2, q3, q4⟩ := hg.objs i _ Y
   have U : b = b' := by grind [aX]
   subst U
   have L : xD c w x u := by cases x <;> first | exact hx | grind [AV.solid, AV.solid1]
   obtain ⟨s1, s2, s3⟩ := aFr (P := P) (hT _ _ h4) h3 hx h5 q2 (pre := []) (ds := cells.toList) (post := []) (by simp) (off := 0) rfl (by rcases q3 with q3 | ⟨_, q3⟩ <;> (simp only [Array.length_toList]; omega))
   simp only [List.nil_append, List.append_nil] at s3
   refine ⟨w.setRow b u.cells.toList.toArray, by simp [Instr.storeAt, Instr.sureAddr, oF, s3], ?_⟩
   have hsame : ∀ k, k ≠ b → (w.setRow b u.cells.toList.toArray).heap[k]? = w.heap[k]? := fun k O => setRow_other w b k _ O
   have I : fI c i (.box n .junk) b := by simp [fI, q1, aX]
   have Z := (hg.own i _ b Y I).2.2
   have := hg.modify (o' := .box n x) Y I (w' := w.setRow b u.cells.toList.toArray) rfl rfl rfl (by simp_all) hsame ?_ ?_
   ·simp_all
   ·refine ⟨b, _, e, q1, setRow_heap w b cells _ e _ q2, ?_, ?_⟩
    ·simp_all
    ·have := aM.keep (c' := c) (.refl c) (fun k O => hsame k (fun e => Z (e ▸ O))) _ _ s1
     omega
   grind [fI, aX]
  ·rename_i n v _ Y
   obtain ⟨h1, h2, h3, r, h4, h5⟩ := hc
   obtain ⟨b', cells, e, q1, q2, q3, q4⟩ := hg.objs i _ Y
   have U : b = b' := by grind [aX]
   subst U
   obtain ⟨pre, ds, post, r1, r2, r3⟩ := aMB p v x cells.toList q4 h1 h2
   have hul := r3 u.cells.toList
   have L : xD c w x u := by cases x <;> first | exact hx | grind [AV.solid, AV.solid1]
   obtain ⟨k1, k2⟩ := r3 _ L.1
   obtain ⟨s1, s2, s3⟩ := aFr (P := P) (hT _ _ h4) h3 hx h5 q2 r1 r2 (by rw [← k1, aRt h3 L.1])
   refine ⟨w.setRow b (pre ++ u.cells.toList ++ post).toArray, by simp [Instr.storeAt, Instr.sureAddr, s3], ?_⟩
   have hsame : ∀ k, k ≠ b → (w.setRow b (pre ++ u.cells.toList ++ post).toArray).heap[k]? = w.heap[k]? := fun k O => setRow_other w b k _ O
   have I : fI c i (.box n v) b := by simp [fI, q1, aX]
   have Z := (hg.own i _ b Y I).2.2
   have := hg.modify (o' := .box n (aCX v p x).2) Y I (w' := w.setRow b (pre ++ u.cells.toList ++ post).toArray) rfl rfl rfl (by simp_all) hsame ?_ ?_
   ·simp_all
   ·refine ⟨b, _, e, q1, setRow_heap w b cells _ e _ q2, ?_, ?_⟩
    ·have : cells.size = (pre ++ ds ++ post).length := by grind
     simp_all
    ·have := aM.keep (c' := c) (.refl c) (fun k O => hsame k (fun e => Z (e ▸ O))) _ _ k2
     omega
   grind [fI, aX]
  ·rename_i e r z Y
   cases p with
   | nil => simp_all
   | cons st p =>
    cases st with
    | fld _ _ => simp_all
    | idx s k =>
     simp only at hc ⊢
     split at hc
     ·rename_i y hy
      obtain ⟨h1, h2, h3, h4, h5, c', h6, h7⟩ := hc
      simp only [hy]
      obtain ⟨vals, hown, hrep⟩ := hg.objs i _ Y
      obtain ⟨hvl, hv⟩ := hown
      rcases hv with ⟨_, h0⟩ | ⟨g, cap, f, hhd, _, hheap, hle, hcap, hsz, htake⟩
      ·omega
      have U : b = g := by grind [aX]
      subst U
      have hset : aFq (.val (.arr z.length r) z) k (aCX (.val r (z.getD k r.zero)) p x).2 = .val (.arr z.length r) (z.set k y) := by
       grind [aFq]
      obtain ⟨pre, ds, post, r1, r2, r3⟩ := aMB (.idx s k :: p) (.val (.arr z.length r) z) x vals (show bB w c.S _ _ _ from hrep) (by
       simp only [aCX]
       refine ⟨h1, h2, h3, ?_⟩
       grind [elemOf]) (by grind [aEy, elemOf])
      have hcur : f.toList = pre ++ ds ++ (post ++ f.toList.drop (z.length * r.cells)) := by
       grind [List.append_assoc, List.take_append_drop]
      have L : xD c w x u := by cases x <;> first | exact hx | grind [AV.solid, AV.solid1]
      obtain ⟨k1, k2⟩ := r3 _ L.1
      obtain ⟨s1, s2, s3⟩ := aFr (P := P) (hT _ _ h6) h5 hx h7 hheap hcur r2 (by rw [← k1, aRt h5 L.1])
      refine ⟨_, by simp only [Instr.storeAt, Instr.sureAddr, Sem.run_bind, Sem.run_pure, Result.andThen_ok]; exact s3, ?_⟩
      have hsame : ∀ k', k' ≠ b → (w.setRow b (pre ++ u.cells.toList ++ (post ++ f.toList.drop (z.length * r.cells))).toArray).heap[k']? = w.heap[k']? := fun k' O => setRow_other w b k' _ O
      have I : fI c i (.row e r z) b := by simp [fI, hhd, aX]
      have Z := (hg.own i _ b Y I).2.2
      have hS : aBi c.S w (w.setRow b (pre ++ u.cells.toList ++ (post ++ f.toList.drop (z.length * r.cells))).toArray) := fun k' O => hsame k' (fun e => Z (e ▸ O))
      have hnew : bB w c.S (.arr z.length r) (z.set k y) (pre ++ u.cells.toList ++ post) := by
       have := k2
       simp only [aCX, elemOf] at this
       rw [hset] at this
       exact this
      have hlen : (pre ++ u.cells.toList ++ post).length = vals.length := by grind
      have := hg.modify (o' := .row e r (z.set k y)) Y I (w' := w.setRow b (pre ++ u.cells.toList ++ (post ++ f.toList.drop (z.length * r.cells))).toArray) rfl rfl rfl (by simp [World.setRow]) hsame ?_ ?_
      ·grind
      ·have hl' : (z.set k y).length = z.length := by simp
       refine ⟨pre ++ u.cells.toList ++ post, ⟨by grind, .inr ⟨b, cap, _, by grind, Nat.zero_le _, setRow_heap w b f _ e _ hheap, by omega, hcap, ?_, ?_⟩⟩, ?_⟩
       all_goals grind [List.append_assoc, List.take_left, bB.keep]
      grind [fI, aX]
     simp_all
  ·rename_i e m r z kk v Y
   cases p with
   | nil => simp_all
   | cons st p =>
    cases st with
    | fld _ _ => simp_all
    | idx s k =>
     simp only at hc ⊢
     obtain ⟨rfl, h2, h3, h4, h5, c', h6, h7⟩ := hc
     obtain ⟨W, Bs, q⟩ := hg.objs i _ Y
     have O := q.kl
     have hlc := q.lc
     have hlb := q.lb
     obtain ⟨hvl, hv⟩ := q.row
     rcases hv with ⟨_, h0⟩ | ⟨g, cap, f, hhd, _, hheap, hle, hcap, hsz, htake⟩
     ·omega
     have U : b = g := by grind [aX]
     subst U
     obtain ⟨hv1, hv2⟩ := q.hv (by omega)
     have hcl : ∀ j (hj : j < W.length), (W[j]).length = r.cells := fun j hj => by
      by_cases e : j = k
      ·simp_all
      ·exact lH.length _ _ _ _ _ (q.el j (by omega) hj (by omega) e)
     obtain ⟨N, J, hf, hp0⟩ := pB (t := r) (css := W) hcl k (by omega)
     obtain ⟨pre, ds, post, r1, r2, r3⟩ := aMB p v x W[k] hv1 h3 h4
     have L : xD c w x u := by cases x <;> first | exact hx | grind [AV.solid, AV.solid1]
     obtain ⟨k1, k2⟩ := r3 _ L.1
     have hcur : f.toList = (N ++ pre) ++ ds ++ (post ++ J ++ f.toList.drop (z.length * r.cells)) := by
      grind [List.take_append_drop, List.append_assoc]
     obtain ⟨s1, s2, s3⟩ := aFr (P := P) (off := k * r.cells + oF p) (hT _ _ h6) h5 hx h7 hheap hcur (by grind) (by rw [← k1, aRt h5 L.1])
     refine ⟨_, by simp only [Instr.storeAt, Instr.sureAddr, Sem.run_bind, Sem.run_pure, Result.andThen_ok, oF, Step.off, h2]; exact s3, ?_⟩
     have hsame : ∀ k', k' ≠ b → (w.setRow b ((N ++ pre) ++ u.cells.toList ++ (post ++ J ++ f.toList.drop (z.length * r.cells))).toArray).heap[k']? = w.heap[k']? := fun k' O => setRow_other w b k' _ O
     have hbl : c.bl i b := q.bl b (by simp [hdB, hhd, aX])
     have I : fI c i (.trh e m r z k v) b := hbl
     have Z := (hg.own i _ b Y I).2.2
     have hS : aBi c.S w (w.setRow b ((N ++ pre) ++ u.cells.toList ++ (post ++ J ++ f.toList.drop (z.length * r.cells))).toArray) := fun k' O => hsame k' (fun e => Z (e ▸ O))
     have hset : (W.set k (pre ++ u.cells.toList ++ post)).flatten = N ++ (pre ++ u.cells.toList ++ post) ++ J := bCe hcl (by omega) hf hp0
     have hlen : (pre ++ u.cells.toList ++ post).length = r.cells := by grind
     have := hg.modifyG (o' := .trh e m r z k (aCX v p x).2) Y I (w' := w.setRow b ((N ++ pre) ++ u.cells.toList ++ (post ++ J ++ f.toList.drop (z.length * r.cells))).toArray) rfl rfl rfl (by simp [World.setRow]) hsame ?_ (fun _ h => h)
     ·grind
     ·refine ⟨W.set k (pre ++ u.cells.toList ++ post), Bs, ⟨?_, by grind, hlb, O, fun j hj h1 h2 hne => ?_, q.hb, fun h1 => ?_, q.nd, q.bl⟩⟩
      ·refine ⟨by grind, .inr ⟨b, cap, _, hhd, Nat.zero_le _, setRow_heap w b f _ e _ hheap, hle, hcap, ?_, ?_⟩⟩
       all_goals grind [List.append_assoc, List.length_append, List.take_left]
      ·rw [List.getElem_set_ne (fun e => hne e.symm)]
       simp only [List.length_set] at h1
       exact lH.keep (fun _ h => h) hS _ _ _ _ _ (fun b' hb' => hsame b' (fun e => by
        subst e
        have := q.nd
        rw [hhd] at this
        simp only [hdB, aX, List.singleton_append, List.nodup_cons] at this
        grind [List.mem_flatten, List.getElem_mem])) (q.el j hj h1 h2 hne)
      ·rw [List.getElem_set_self]
       exact ⟨aM.keep (c' := c) (.refl c) hS _ _ k2, hlen⟩
  simp_all
 | _ => exact hc.elim
theorem SlR.flat {S : Nat → Prop} {t : Ty} {xs : List t.den} {a : Option Addr} {len cap : Nat} (hs : SlR w S (bB w S t) t.cells xs a len cap) : ∃ css : List (List Value), css.length = xs.length ∧ css.flatten.length = xs.length * t.cells ∧ bB w S (.arr xs.length t) xs css.flatten ∧ (xs = [] ∨ ∃ b off, a = some ⟨b, off, none⟩ ∧ lY w b off css.flatten) := by
 obtain ⟨h1, h2, Z, N⟩ := hs
 rcases N with rfl | ⟨b, off, rfl, hb, I⟩
 ·exact ⟨[], rfl, by simp, ⟨rfl, [], rfl, rfl, fun i h => by simp at h⟩, .inl rfl⟩
 ·have g : ∃ css : List (List Value), css.length = xs.length ∧ ∀ i (h : i < xs.length) (h' : i < css.length), bB w S t xs[i] css[i] ∧ lY w b (off + i * t.cells) css[i] := by
   have : ∀ n, n ≤ xs.length → ∃ css : List (List Value), css.length = n ∧ ∀ i (h : i < xs.length) (h' : i < css.length), bB w S t xs[i] css[i] ∧ lY w b (off + i * t.cells) css[i] := by
    intro n
    induction n with
    | zero => simp_all
    | succ n J =>
     intro Y
     obtain ⟨css, q, hc⟩ := J (by omega)
     obtain ⟨ds, hd, hcell⟩ := I n (by omega)
     refine ⟨css ++ [ds], by simp [q], fun i hi L => ?_⟩
     grind
   simp_all
  obtain ⟨css, q, hc⟩ := g
  have f : ∀ j (s : j < css.length), (css[j]).length = t.cells := fun j s => bB.length _ _ _ (hc j (by omega) s).1
  have z : css.flatten.length = xs.length * t.cells := by rw [mD f, q]
  refine ⟨css, q, z, ⟨rfl, css, rfl, q, fun i h h' => (hc i h h').1⟩, .inr ⟨b, off, rfl, ?_⟩⟩
  intro j v s
  have O : j < css.length * t.cells := by
   grind
  have r : 0 < t.cells := by
   grind
  have hi : j / t.cells < css.length := Nat.div_lt_of_lt_mul (by grind)
  obtain ⟨pre, post, hf, hp⟩ := pB (t := t) (css := css) f (j / t.cells) hi
  have U := Nat.div_add_mod j t.cells
  have W := Nat.mod_lt j r
  have : (css[j / t.cells])[j % t.cells]? = some v := by
   grind
  have := (hc (j / t.cells) (by omega) hi).2 _ _ this
  grind
end
end Go.Vc
namespace Go.Vc
open Go.RowKit
section
variable {P : Program} {E : Env} {T : Tab} {M : Perm} {w0 : World} {c : Ctx} {h : List Obj} {w : World}
theorem aCp (w : World) (o : Go.Obj) : (w.alloc o).heap[w.heap.size]? = some o := by
 show (w.heap.push o)[w.heap.size]? = some o
 simp
theorem aAD {b : Ty} (g : b.okB = true) : (nN b).cells = (cV b).toArray := by
 have w : World := default
 have j : (nN b).cells.toList = cV b := by
  unfold nN
  split
  ·rfl
  ·have q : (cV b).length = 1 := by
    rw [bB.length _ _ _ (gG w (fun _ => False) b g)]
    rename_i s
    cases b <;> simp_all [Ty.isAgg, Ty.cells]
   match r : cV b, q with
   | [v], _ =>
    have f := bB.one b _ _ (gG w (fun _ => False) b g) v (by simp_all)
    simp only [List.headD_cons]
    cases v <;> first | rfl | exact f.elim
 grind
theorem mC {b : Ty} (f : b.okB = true) : (cV b).length = b.cells := bB.length _ _ _ (gG (default : World) (fun _ => False) b f)
theorem aLs {S : Nat → Prop} {t : Ty} {xs ys : List t.den} {vs us : List Value} (q : bB w S (.arr xs.length t) xs vs) (f : bB w S (.arr ys.length t) ys us) : bB w S (.arr (xs ++ ys).length t) (xs ++ ys) (vs ++ us) := by
 obtain ⟨_, b, rfl, z, s⟩ := q
 obtain ⟨_, ds, rfl, g, j⟩ := f
 refine ⟨rfl, b ++ ds, by simp, by simp_all, fun i hi r => ?_⟩
 grind
theorem bGz (N : Good M w0 c h w) {j : Ty} {x : AV} {O : Value} {ys : List j.den} (L : aW c w x O) (I : AV.as (if j.scalar then h else h.map fL) (.sl j) x = some ys) :
  ∃ a cap g, O = .slice a ys.length cap ∧ ys.length ≤ cap ∧ g.length = ys.length * j.cells ∧ bB w c.S (.arr ys.length j) ys g ∧ (ys = [] ∨ ∃ b off, a = some ⟨b, off, none⟩ ∧ lY w b off g) := by
 by_cases hs : j.scalar = true
 ·rw [if_pos hs] at I
  have hv := aKf N L I
  obtain ⟨a, len, cap, rfl, f⟩ := aEk (c := ⟨aFn c h, c.hd, c.n, c.bl⟩) hv
  obtain ⟨q, _, s, J, r⟩ := f.flat
  obtain ⟨rfl, z, _, _⟩ := f
  exact ⟨a, cap, q.flatten, rfl, z, s, bB.scalar _ _ _ (by grind [Ty.scalar]) J, r⟩
 ·rw [if_neg hs] at I
  have hv := yD N L I
  obtain ⟨a, len, cap, rfl, f⟩ := aEk (c := c) hv
  obtain ⟨q, _, s, J, r⟩ := f.flat
  obtain ⟨rfl, z, _, _⟩ := f
  grind
theorem aH7 {t ty e : TypeId} {i : TypeInfo} (ht : P.underlying t = some (.slice e)) (hi : P.info? e = some i) {v : Value} {n : Nat} {xs : List Value} (b : w.ownsRow 0 e i.size v n xs) {a : Option Addr} {cap : Nat} (j : 0 ≤ cap) :
  (Builtin.append_ #[t, t] ty #[v, .slice a 0 cap]).run P w = .ok v w := by
 rcases b.2 with ⟨rfl, rfl⟩ | ⟨g, cp, r, rfl, _, z, f, q, s, htake⟩
 ·cases a <;> simp [Builtin.append_, run_underlying ht, sizeOf, typeInfo, hi, Builtin.lenOf, Builtin.firstCells, loadCells, loadCellsFrom]
 ·cases a <;> simp [Builtin.append_, run_underlying ht, sizeOf, typeInfo, hi, Builtin.lenOf, Builtin.firstCells, loadCells, loadCellsFrom, f, storeCells]
theorem uK {v : Value} (h : ∃ a n m, v = .slice a n m) : aX v = v.ownBlock := by
 obtain ⟨a, n, m, rfl⟩ := h
 cases a <;> rfl
theorem kU {B : Nat} {e : TypeId} {sz : Nat} {v : Value} {n : Nat} {xs : List Value} (h : w.ownsRow B e sz v n xs) : ∃ a n m, v = .slice a n m := by
 rcases h.2 with ⟨rfl, _⟩ | ⟨g, f, b, rfl, _⟩
 all_goals simp_all
theorem aRL (hE : iA P E) {t ty : TypeId} {z : Ty} (ht : E.T t = some (.sl z)) (hok : z.okB = true) {sv xv : Value} {xs ys : List z.den} (hS : True)
  (hrow : aDt c w (E.el t) z xs sv) {a : Option Addr} {cap : Nat} {f : List Value} (hxv : xv = .slice a ys.length cap) (hnl : f.length = ys.length * z.cells) (hnr : bB w c.S (.arr ys.length z) ys f) (hor : ys = [] ∨ ∃ b off, a = some ⟨b, off, none⟩ ∧ lY w b off f)
  (hb : bound z (xs.length + ys.length)) (W : ∀ b, c.S b → b < w.heap.size ∧ aX sv ≠ some b) :
  ∃ v' w', (Builtin.append_ #[t, t] ty #[sv, xv]).run P w = .ok v' w' ∧ w.grownBy w' (aX sv) ∧ aDt c w' (E.el t) z (xs ++ ys) v' ∧ (∀ b, aX v' = some b → aX sv = some b ∨ (w.heap.size ≤ b ∧ b < w'.heap.size)) ∧ ∃ a n m, v' = .slice a n m := by
 have hd := hE.el t z ht
 obtain ⟨e', hd', U, Z⟩ := fZ (hE.T _ _ ht)
 have : e' = E.el t := by simp_all
 subst this
 have hTe := hE.T _ _ U
 obtain ⟨i, hi, hsz, hz, hby⟩ := hTe.info
 obtain ⟨I, q, N⟩ := hrow
 rw [← hsz] at q
 subst hxv
 rcases hor with rfl | ⟨b, off, rfl, hcell⟩
 ·have s := aH7 (P := P) (ty := ty) hd hi q (a := a) (cap := cap) (Nat.zero_le _)
  refine ⟨sv, w, s, ⟨rfl, rfl, rfl, Nat.le_refl _, fun _ _ _ => rfl⟩, ?_, fun b hb => .inl hb, kU q⟩
  rw [List.append_nil]
  exact ⟨I, by simp_all, N⟩
 ·have Y : ∀ u ∈ f, u.oneCell' = true := fun u hu => by
   have := bB.one _ _ _ hnr u hu
   cases u <;> first | rfl | exact this.elim
  obtain ⟨v', w', s, J, O, _, r⟩ := run_append_own_at (P := P) w 0 t ty (E.el t) i (nN z) z.cells i.bytes hd hi (hz hok) hsz rfl (by grind [aAD, mC]) Z sv xs.length I (by simp_all)
   ⟨b, off, none⟩ ys.length cap f hnl (fun j u hj => by rw [vP]; exact hcell j u hj) Y hb.1 (Nat.le_trans (Nat.mul_le_mul_left _ hby) hb.2) (Nat.zero_le _)
  have hsl := kU q
  have L := kU J
  rw [← uK hsl] at O r
  rw [← uK L] at r
  have hsame : aBi c.S w w' := fun b hb => O.block b (W b hb).1 (fun e => (W b hb).2 e.symm)
  refine ⟨v', w', s, O, ?_, fun b hb => ?_, L⟩
  ·have := aLs N hnr
   exact ⟨I ++ f, by simp_all, bB.keep (fun _ h => h) hsame _ _ _ this⟩
  ·rcases r with r | r
   ·simp_all
   ·right
    rw [r] at hb
    cases hb
    refine ⟨Nat.le_refl _, ?_⟩
    rcases J.2 with ⟨rfl, _⟩ | ⟨g, cp, cur, rfl, _, hheap, _⟩
    all_goals grind [aX, Array.getElem?_eq_some_iff]
theorem aEA {v' : Value} (h : ∃ a n m, v' = .slice a n m) {w' : World} {S' : Nat → Prop} : aW (c.pushS S' v') w' (.own c.n) v' := by
 obtain ⟨a, n, m, rfl⟩ := h
 refine ⟨⟨Nat.lt_succ_self c.n, ?_, ?_⟩, (fun h => by cases h), (fun _ b => by simp)⟩
 ·show [Value.slice a n m] = [if c.n = c.n then Value.slice a n m else c.hd c.n]
  simp_all
 ·show one (if c.n = c.n then Value.slice a n m else c.hd c.n)
  rw [if_pos rfl]; trivial
theorem bA5 (hE : iA P E) (q : Good M w0 c h w) {t ty : TypeId} {s x : AV} {sv xv : Value} (hs : aW c w s sv) (hx : aW c w x xv) (hc : (xF E h t s x).1) :
  ∃ v' w' c', (Builtin.append_ #[t, t] ty #[sv, xv]).run P w = .ok v' w' ∧ dS c w c' w' ∧ Good M w0 c' (xF E h t s x).2.2 w' ∧ aW c' w' (xF E h t s x).2.1 v' := by
 unfold xF at hc ⊢
 split at hc
 ·rename_i ct ht
  split at hc
  ·rename_i ys N
   try simp only [N]
   obtain ⟨a, cap, news, U, hcap, Y, O, W⟩ := bGz q hx N
   split at hc
   ·
    obtain ⟨hb, J⟩ := hc
    have I : sv = .slice none 0 0 := by
     obtain ⟨h1, _, h3⟩ := hs
     have h3 := h3 rfl
     simp_all [aM, Value.cells]
    subst I
    obtain ⟨v', w', g, f, j, L, z⟩ := aRL (c := c) (w := w) (P := P) (ty := ty) (xs := []) hE ht J trivial (sv := .slice none 0 0) ⟨[], ⟨by simp, .inl ⟨rfl, rfl⟩⟩, ⟨rfl, [], rfl, rfl, fun i h => by simp at h⟩⟩ U Y O W (by simp_all) (fun b hb => ⟨q.sfin b hb, by simp [aX]⟩)
    have hk : jC nothing w w' := ⟨f.os, f.tape, f.output, f.size, fun b hb _ => f.block b hb (by simp [aX])⟩
    have := q.push hk (o := .row (E.el t) ct ys) (hv := v') (by
     show aDt _ _ _ _ _ _
     have e : (c.push v').hd c.n = v' := by simp [Ctx.push]
     rw [e]
     exact j) (fun b hb => by
     simp_all [Ctx.push, fI, aX])
    refine ⟨v', w', _, g, this.2, this.1, ?_⟩
    have := aEA (c := c) z (w' := w') (S' := c.S)
    rw [← q.n]
    exact this
   ·rename_i i
    split at hc
    ·rename_i e c' xs Z
     split at hc
     ·rename_i xs' hcast
      obtain ⟨rfl, rfl⟩ := aEz hcast
      obtain ⟨rfl, hb, J⟩ := hc
      have I := (aCy hs).2
      have r : aDt c w (E.el t) _ _ (c.hd i) := q.objs i _ Z
      subst I
      obtain ⟨v', w', g, f, j, L, z⟩ := aRL (c := c) (w := w) (P := P) (ty := ty) hE ht J trivial r U Y O W hb (fun b hb => ⟨q.sfin b hb, fun e => (q.own i _ b Z e).2.2 hb⟩)
      have := q.regrow Z f j L
      refine ⟨v', w', _, g, this.2, this.1, ?_⟩
      have := aEA (c := c) z (w' := w') (S' := c.S)
      rw [← q.n]
      exact this
     simp_all
    simp_all
   simp_all
  simp_all
 simp_all
theorem bEz (z : iA P E) (O : Good M w0 c h w) {t : TypeId} {l cp : AV} {J U : Value} (Y : aW c w l J) (I : aW c w cp U) (hc : (aOd E h t l cp).1) :
  ∃ v' w' c', (Instr.makeSlice t J U).run P w = .ok v' w' ∧ dS c w c' w' ∧ Good M w0 c' (aOd E h t l cp).2.2 w' ∧ aW c' w' (aOd E h t l cp).2.1 v' := by
 unfold aOd at hc ⊢
 split at hc
 ·rename_i f ht
  split at hc
  ·rename_i n m Z hm
   obtain ⟨g, h0, h1, h2, h3⟩ := hc
   obtain ⟨k1, rfl⟩ := aBm Y Z
   obtain ⟨k2, rfl⟩ := aBm I hm
   have hd := z.el t f ht
   obtain ⟨W, hd', j, N⟩ := fZ (z.T _ _ ht)
   have : W = E.el t := by simp_all
   subst this
   obtain ⟨i, hi, s, hz, hby⟩ := (z.T _ _ j).info
   have hbytes : (i.bytes : Int) * m ≤ 281474976710656 := by
    have : (i.bytes : Int) * m ≤ (f.byt : Int) * m := Int.mul_le_mul_of_nonneg_right (by omega) (by omega)
    omega
   have q := run_make (P := P) w t (E.el t) i (nN f) hd hi (hz g) k1 k2 n m h0 h1 hbytes (by grind [maxLen])
   have hk : jC nothing w (w.alloc (.cells (madeCells (nN f).cells (m.toNat * i.size)) (E.el t) (0, 0))) := jC.alloc nothing w _
   have r : aDt c (w.alloc (.cells (madeCells (nN f).cells (m.toNat * i.size)) (E.el t) (0, 0))) (E.el t) f (List.replicate n.toNat f.zero) (.slice (some ⟨w.heap.size, 0, none⟩) n.toNat m.toNat) := by
    have hcells : (madeCells (nN f).cells (m.toNat * i.size)).toList = (List.replicate m.toNat (cV f)).flatten := by
     rw [s, aAD g, ← mC g]
     exact aAq _ _ (by grind [mC])
    have hsplit : (List.replicate m.toNat (cV f)).flatten = (List.replicate n.toNat (cV f)).flatten ++ (List.replicate (m.toNat - n.toNat) (cV f)).flatten := by
     grind [List.flatten_append, List.replicate_append_replicate]
    have L : (List.replicate n.toNat (cV f)).flatten.length = n.toNat * f.cells := by simp [mC g]
    refine ⟨(List.replicate n.toNat (cV f)).flatten, ⟨by simp_all, .inr ⟨w.heap.size, m.toNat, _, by simp, Nat.zero_le _, aCp w _, by grind, by omega, by rw [size_madeCells, s], ?_⟩⟩, ?_⟩
    ·simp_all
    ·have := gG (w.alloc (.cells (madeCells (nN f).cells (m.toNat * i.size)) (E.el t) (0, 0))) c.S (.arr n.toNat f) g
     rw [List.length_replicate]
     exact this
   have := O.push hk (o := .row (E.el t) f (List.replicate n.toNat f.zero)) (hv := .slice (some ⟨w.heap.size, 0, none⟩) n.toNat m.toNat) (by
    show aDt _ _ _ _ _ _
    have e : (c.push (.slice (some ⟨w.heap.size, 0, none⟩) n.toNat m.toNat)).hd c.n = .slice (some ⟨w.heap.size, 0, none⟩) n.toNat m.toNat := by simp [Ctx.push]
    rw [e]
    exact r) (fun b hb => by
    have e : (c.push (.slice (some ⟨w.heap.size, 0, none⟩) n.toNat m.toNat)).hd c.n = .slice (some ⟨w.heap.size, 0, none⟩) n.toNat m.toNat := by simp [Ctx.push]
    simp_all [fI, aX, Option.some.injEq, Nat.le_refl])
   refine ⟨_, _, _, q, this.2, this.1, ?_⟩
   have := aEA (c := c) (v' := .slice (some ⟨w.heap.size, 0, none⟩) n.toNat m.toNat) ⟨_, _, _, rfl⟩ (w' := w.alloc (.cells (madeCells (nN f).cells (m.toNat * i.size)) (E.el t) (0, 0))) (S' := c.S)
   rw [← O.n]
   exact this
  simp_all
 simp_all
theorem aMC {c : Ctx} {w : World} {f : Ty} (g : f.okB = true) : aM c w (aIP f) (nN f).cells.toList ∧ (aIP f).solid = true ∧ (aIP f).nc = f.cells ∧ aW c w (aIP f) (nN f) := by
 unfold aIP
 cases h : aRp f with
 | false =>
  cases hs : aRo f with
  | true =>
   obtain ⟨b, rfl⟩ := bBK hs
   have hc : aM c w .nilS (nN (.sl b)).cells.toList := rfl
   exact ⟨hc, rfl, rfl, hc, (fun h => by cases h), fun _ j => by simp [nN, cV, Ty.isAgg]⟩
  | false =>
   have := aW.ofV (aIS w c.S f g)
   exact ⟨this.1, rfl, rfl, this⟩
 | true =>
  obtain ⟨b, rfl⟩ := aWE h
  have hc : aM c w (.agg [.nilP, .nilS]) (nN (.pair .nilp (.pair (.sl b) .unit))).cells.toList := by
   simp only [aM]
   exact ⟨[.pointer none], [.slice none 0 0], rfl, rfl, [.slice none 0 0], [], rfl, rfl, rfl⟩
  refine ⟨hc, rfl, rfl, hc, fun _ => ⟨_, rfl⟩, (fun h => by cases h)⟩
theorem aOe (j : Good M w0 c h w) {t : TypeId} {x : AV} {v : Value} {n : Nat} (z : bEk n x.nc t) (hs : x.solid = true) (r : aW c w x v) :
  ∃ w' c', (newVar t v).run P w = .ok ⟨w.heap.size, 0, none⟩ w' ∧ dS c w c' w' ∧ Good M w0 c' (h ++ [.box n x]) w' ∧ aW c' w' (.ptr h.length []) (.pointer (some ⟨w.heap.size, 0, none⟩)) := by
 have g : xD c w x v := by cases x <;> first | exact r | grind [AV.solid, AV.solid1]
 have s := aRt hs g.1
 have q : jC nothing w (w.alloc (.cells v.cells t (0, 0))) := jC.alloc nothing w _
 have e : (c.push (.pointer (some ⟨w.heap.size, 0, none⟩))).hd c.n = .pointer (some ⟨w.heap.size, 0, none⟩) := by simp [Ctx.push]
 have := j.push q (o := .box n x) (hv := .pointer (some ⟨w.heap.size, 0, none⟩)) (by
  refine ⟨w.heap.size, v.cells, t, e, aCp w _, by simp_all, ?_⟩
  exact aM.keep (c.le_push _) (fun b hb => q.block b (j.sfin b hb) (fun f => f)) _ _ g.1) (fun b hb => by
  simp_all [fI, aX, Option.some.injEq, Nat.le_refl])
 refine ⟨_, _, by rfl, this.2, this.1, ?_⟩
 rw [← j.n]
 refine ⟨⟨Nat.lt_succ_self c.n, w.heap.size, by rw [e]; rfl, rfl⟩, (fun h => by cases h), (fun _ I => by simp)⟩
theorem aYL {G : Nat → AV} {Γ : FuncId → List AV → Option aG} {f : FuncId} {vs : List AV} {xs : Array Value} (hΓ : ∀ sp, Γ f vs = some sp → FOK P G f sp) (r : Good M w0 c h w) (hG : sG G c.S w) (hl : xs.size = vs.length)
  (hv : ∀ i (U : i < vs.length) (Z : i < xs.size), aW c w vs[i] xs[i]) (hc : (aKi Γ h f vs).1) :
  Calls P f xs w fun e w' => ∃ v c', e = .returned v ∧ dS c w c' w' ∧ Good M w0 c' (aKi Γ h f vs).2.2 w' ∧ aW c' w' (aKi Γ h f vs).2.1 v := by
 unfold aKi at hc ⊢
 split at hc
 ·rename_i sp hf
  split at hc
  ·rename_i a e t pre fn
   split at hc
   ·rename_i x W
    have L : xs.toList.length = vs.length := by omega
    have z : ∀ i (U : i < vs.length) (Z : i < xs.toList.length), aW c w vs[i] xs.toList[i] := fun i U Z => by
     simp_all
    have Y : ∃ s : Nat → Prop, (∀ b, s b → b < w.heap.size) ∧ sG G s w ∧ qI w s a x xs.toList ∧ (t.scalar = true ∨ ∀ b, s b → c.S b) := by
     by_cases hs : t.scalar = true
     ·rw [if_pos hs] at W
      exact ⟨aFn c h, aWO r, hG.mono (fun b hb => .inl hb) (.refl _ _), aVe r _ _ _ _ W L z, .inl hs⟩
     ·rw [if_neg hs] at W
      exact ⟨c.S, r.sfin, hG, aIZ r W L z, .inr fun b hb => hb⟩
    obtain ⟨s, k1, k2, k3, k4⟩ := Y
    refine (hΓ _ hf w s xs x k1 k2 k3 hc).mono ?_
    rintro ex w' ⟨v, rfl, hk, O, j, J⟩
    have hsl := kU j
    have e1 : (c.pushS (fun b => c.S b ∨ (w.heap.size ≤ b ∧ b < w'.heap.size ∧ aX v ≠ some b)) v).hd c.n = v := by simp [Ctx.pushS]
    have := r.pushS hk (S' := fun b => c.S b ∨ (w.heap.size ≤ b ∧ b < w'.heap.size ∧ aX v ≠ some b)) (fun b hb => .inl hb) (fun b hb => hb.imp id fun hb => ⟨hb.1, hb.2.1⟩) (o := .row e t (fn x)) (hv := v) (by
     show aDt _ _ _ _ _ _
     rw [e1]
     refine ⟨O, ?_, ?_⟩
     ·exact ⟨j.1, j.2.imp id fun ⟨g, N, I, U, Z, h3⟩ => ⟨g, N, I, U, Nat.zero_le _, h3⟩⟩
     ·rcases k4 with hs | q
      ·grind [bB.scalar, Ty.scalar]
      ·exact bB.keep (fun b hb => hb.imp (q b) id) (.refl _ _) _ _ _ J) (fun b hb => by
     simp only [fI, e1] at hb
     rcases j.2 with ⟨rfl, _⟩ | ⟨g, N, I, rfl, hBg, hheap, _⟩
     ·cases hb
     ·simp [aX] at hb
      subst hb
      have hlt := (Array.getElem?_eq_some_iff.1 hheap).1
      refine ⟨hBg, hlt, fun q => ?_⟩
      rcases q with q | q
      ·have := r.sfin _ q; omega
      ·exact q.2.2 rfl)
    refine ⟨v, _, rfl, this.2, this.1, ?_⟩
    have := aEA (c := c) hsl (w' := w') (S' := fun b => c.S b ∨ (w.heap.size ≤ b ∧ b < w'.heap.size ∧ aX v ≠ some b))
    rw [← r.n]
    omega
   simp_all
  simp_all
 simp_all
end
end Go.Vc
namespace Go.Vc
open Go.RowKit
section
variable {P : Program} {E : Env} {T : Tab} {M : Perm} {w0 : World} {c : Ctx} {h : List Obj} {w : World}
theorem aRM (b : List Value) (n : Nat) (f : 0 < b.length) : (Builtin.zeroCells b.toArray n).toList = (List.replicate n b).flatten := by
 grind [aAq, Builtin.zeroCells]
theorem aQj (w : World) (base : Nat) (t tx ty e : TypeId) (k : IntKind) (i : TypeInfo) (z : Value) (size bytes : Nat) (ht : P.underlying t = some (.slice e)) (hx : P.underlying tx = some (.int k)) (hi : P.info? e = some i) (hz : i.zero = some z)
  (hsize : i.size = size) (hby : i.bytes = bytes) (hzs : z.cells.size = size) (hsz : 0 < size)
  (v : Value) (n : Nat) (xs : List Value) (r : w.ownsRow base e size v n xs)
  (k' : IntKind) (m : Nat) (b : List Value) (hnews : b = (Builtin.zeroCells z.cells m).toList) (h1 : ∀ u ∈ b, u.oneCell' = true)
  (h63 : n + m ≤ maxLen) (hbytes : (n + m) * bytes ≤ 140737488355328) (hbase : base ≤ w.heap.size) :
  ∃ v' w', (Builtin.append_ #[t, tx] ty #[v, .int k' (m : Int)]).run P w = .ok v' w' ∧ w'.ownsRow base e size v' (n + m) (xs ++ b) ∧ w.grownBy w' v.ownBlock ∧
   (v'.ownBlock = v.ownBlock ∨ v'.ownBlock = some w.heap.size) := by
 subst hsize
 subst hby
 have hl : b.length = m * i.size := by
  grind [Array.length_toList, size_zeroCells]
 have Z : (Builtin.zeroCells z.cells m) = b.toArray := by grind
 have hsmall : n + m ≤ 9223372036854775807 := by grind [maxLen]
 have hwrap : IntKind.i64.wrap (m : Int) = m := by
  grind [IntKind.wrap, IntKind.signed, IntKind.bits]
 have s : ¬ ((m : Int) < 0) := by omega
 have hmb : m * i.bytes ≤ (n + m) * i.bytes := Nat.mul_le_mul_right _ (by omega)
 have f : ¬ (281474976710656 < (m : Int) * (i.bytes : Int)) := by
  omega
 have U : (xs ++ b).length = (n + m) * i.size := by rw [List.length_append, r.1, hl, Nat.add_mul]
 have grown : ∀ (old : Nat), old < n + m → ∀ (row : Option Nat),
   (w.drew.alloc (.cells (xs.toArray ++ b.toArray ++ Builtin.zeroCells z.cells (grownCap w (n + m) old e - (n + m))) e)).ownsRow base e i.size
    (.slice (some ⟨w.heap.size, 0, none⟩) (n + m) (grownCap w (n + m) old e)) (n + m) (xs ++ b) ∧
   w.grownBy (w.drew.alloc (.cells (xs.toArray ++ b.toArray ++ Builtin.zeroCells z.cells (grownCap w (n + m) old e - (n + m))) e)) row := by
  intro old ho row
  have hge := grownCap_ge w (n + m) old e
  have Y : grownCap w (n + m) old e ≤ maxLen := grownCap_le_maxLen w (n + m) old e h63
  refine ⟨⟨U, .inr ⟨w.heap.size, _, _, rfl, hbase, heap_alloc_new w.drew _, hge, Y, ?_, ?_⟩⟩, ⟨rfl, rfl, rfl, by simp, fun k hk _ => Go.heap_alloc_old w.drew _ hk⟩⟩
  ·simp only [Array.size_append, List.size_toArray, size_zeroCells, hzs, r.1, hl, ← Nat.add_mul]
   simp_all
  grind
 rcases r.2 with ⟨rfl, rfl⟩ | ⟨g, q, J, rfl, hbg, hg, hnc, Y, hcs, htake⟩
 ·have hx0 : xs = [] := List.eq_nil_of_length_eq_zero (by simp_all)
  subst hx0
  by_cases hm : m = 0
  ·subst hm
   have hn : b = [] := List.eq_nil_of_length_eq_zero (by omega)
   subst hn
   refine ⟨.slice none 0 0, w, ?_, World.ownsRow_nil w base e i.size, ⟨rfl, rfl, rfl, Nat.le_refl _, fun _ _ _ => rfl⟩, Or.inl rfl⟩
   have hw0 : IntKind.i64.wrap 0 = 0 := by decide
   simp [Builtin.append_, run_underlying ht, run_underlying hx, sizeOf, typeInfo, hi, asInt, asIntOf, hw0]
  ·have L : ¬ (281474976710656 < Builtin.nextslicecap m 0 * i.bytes) := by rw [nextslicecap_zero (by omega)]; omega
   have hms : ¬ (m * i.size = 0) := by
    grind [Nat.mul_eq_zero]
   have N : ¬ (9223372036854775807 < (m : Int)) := by omega
   have I := grown 0 (by omega) (Value.ownBlock (.slice none 0 0))
   simp only [Nat.zero_add, List.nil_append, Array.empty_append] at I ⊢
   refine ⟨_, _, ?_, I.1, I.2, Or.inr rfl⟩
   have hsz0 : i.size ≠ 0 := by omega
   simp [Builtin.append_, run_underlying ht, run_underlying hx, sizeOf, typeInfo, zeroValue, hi, hz, asInt, asIntOf, hwrap, s, f, hm, N, L, hsz0, hms, Question.forced, run_firstCells_none, newRow, grownCap, Z]
 ·by_cases hroom : n + m ≤ q
  ·have hfit : n * i.size + b.length ≤ J.size := by rw [hl, hcs, ← Nat.add_mul]; exact Nat.mul_le_mul_right _ hroom
   have O := run_storeCells_at P g (n * i.size) e b 0 J w hg (by omega) h1
   simp only [Nat.add_zero] at O
   refine ⟨.slice (some ⟨g, 0, none⟩) (n + m) q, w.setRow g (J.toList.take (n * i.size) ++ b ++ J.toList.drop (n * i.size + b.length)).toArray, ?_, ⟨U, .inr ⟨g, q, _, rfl, hbg, setRow_heap w g J _ e _ hg, hroom, Y, ?_, ?_⟩⟩, ⟨rfl, rfl, rfl, by simp, fun k _ hk => setRow_other w g k _ (fun e => hk (by simp [Value.ownBlock, e]))⟩, Or.inl rfl⟩
   ·by_cases hm : m * i.size = 0
    ·have hn : b = [] := List.eq_nil_of_length_eq_zero (by omega)
     subst hn
     simp [Builtin.append_, run_underlying ht, run_underlying hx, sizeOf, typeInfo, zeroValue, hi, hz, asInt, asIntOf, hwrap, s, f, hroom, hm, Addr.add_lit] at O ⊢
     simp [O]
    ·have W : ¬ (m = 0 ∨ i.size = 0) := fun h => hm (Nat.mul_eq_zero.2 h)
     simp [Builtin.append_, run_underlying ht, run_underlying hx, sizeOf, typeInfo, zeroValue, hi, hz, asInt, asIntOf, hwrap, s, f, hroom, hm, W, Addr.add_lit, Z, O]
   all_goals grind
  ·have holds : ∀ j u, xs[j]? = some u → w.cell? ((⟨g, 0, none⟩ : Addr).add j) = some u := r.cells (g := g) rfl
   have hfo := run_firstCells_some (P := P) w.drew i.size n ⟨g, 0, none⟩ n q xs r.1 (by simp_all)
   have hm : ¬ (m * i.size = 0) := by
    grind [Nat.mul_eq_zero]
   have W : ¬ (m = 0 ∨ i.size = 0) := fun h => hm (Nat.mul_eq_zero.2 h)
   have N : ¬ (9223372036854775807 < ((n : Int) + (m : Int))) := by omega
   have hgs := growslice_fits (old := q) (by omega : q < n + m) hbytes
   have L : ¬ (281474976710656 < Builtin.nextslicecap (n + m) q * i.bytes) := by omega
   have I := grown q (by omega) (Value.ownBlock (.slice (some ⟨g, 0, none⟩) n q))
   refine ⟨_, _, ?_, I.1, I.2, Or.inr rfl⟩
   simp [Builtin.append_, run_underlying ht, run_underlying hx, sizeOf, typeInfo, zeroValue, hi, hz, asInt, asIntOf, hwrap, s, f, hroom, hm, W, N, L, Question.forced, hfo, newRow, grownCap, Z]
   grind
theorem bEA {t : TypeId} {k : IntKind} (b : aDU P E.T t (.i k)) : P.underlying t = some (.int k) := by
 obtain ⟨d, hd, hb⟩ := b.desc
 cases d <;> simp [iV] at hb
 simp_all
def aKj (E : Env) (h : List Obj) (t : TypeId) (s x : AV) : Prop × AV × List Obj :=
 match E.T t with
 | some (.sl b) => match aCS x with
  | some n => match s with
   | .nilS => (0 ≤ n ∧ bound b n.toNat ∧ b.okB = true, .own h.length, h ++ [.row (E.el t) b (List.replicate n.toNat b.zero)])
   | .own i => match h[i]? with
    | some (.row e c' f) => match aDH c' b f with
     | some f => (e = E.el t ∧ 0 ≤ n ∧ bound b (f.length + n.toNat) ∧ b.okB = true, .own h.length, h.set i .dead ++ [.row (E.el t) b (f ++ List.replicate n.toNat b.zero)])
     | none => (False, .junk, h)
    | _ => (False, .junk, h)
   | _ => (False, .junk, h)
  | none => (False, .junk, h)
 | _ => (False, .junk, h)
theorem aPA (hE : iA P E) {t tx ty : TypeId} {f : Ty} (ht : E.T t = some (.sl f)) {k : IntKind} (htx : P.underlying tx = some (.int k)) (J : f.okB = true) {sv : Value} {xs : List f.den}
  (Z : aDt c w (E.el t) f xs sv) {k' : IntKind} {m : Nat}
  (hb : bound f (xs.length + m)) (N : ∀ b, c.S b → b < w.heap.size ∧ aX sv ≠ some b) :
  ∃ v' w', (Builtin.append_ #[t, tx] ty #[sv, .int k' (m : Int)]).run P w = .ok v' w' ∧ w.grownBy w' (aX sv) ∧ aDt c w' (E.el t) f (xs ++ List.replicate m f.zero) v' ∧ (∀ b, aX v' = some b → aX sv = some b ∨ (w.heap.size ≤ b ∧ b < w'.heap.size)) ∧ ∃ a n m, v' = .slice a n m := by
 have hd := hE.el t f ht
 obtain ⟨e', hd', L, W⟩ := fZ (hE.T _ _ ht)
 have : e' = E.el t := by simp_all
 subst this
 have hTe := hE.T _ _ L
 obtain ⟨i, hi, hsz, hz, hby⟩ := hTe.info
 obtain ⟨z, s, Y⟩ := Z
 rw [← hsz] at s
 have hzl := mC J
 have hnews : (List.replicate m (cV f)).flatten = (Builtin.zeroCells (nN f).cells m).toList := by
  grind [aAD, aRM]
 have hnr : bB w c.S (.arr m f) (List.replicate m f.zero) (List.replicate m (cV f)).flatten := gG w c.S (.arr m f) J
 have U : ∀ u ∈ (List.replicate m (cV f)).flatten, u.oneCell' = true := fun u hu => by
  have := bB.one _ _ _ hnr u hu
  cases u <;> first | rfl | exact this.elim
 obtain ⟨v', w', O, j, I, q⟩ := aQj (P := P) w 0 t tx ty (E.el t) k i (nN f) f.cells i.bytes hd htx hi (hz J) hsz rfl (by grind [aAD]) W sv xs.length z (by simp_all)
  k' m _ hnews U hb.1 (Nat.le_trans (Nat.mul_le_mul_left _ hby) hb.2) (Nat.zero_le _)
 have hsl := kU s
 have r := kU j
 rw [← uK hsl] at I q
 rw [← uK r] at q
 have hsame : aBi c.S w w' := fun b hb => I.block b (N b hb).1 (fun e => (N b hb).2 e.symm)
 refine ⟨v', w', O, I, ?_, fun b hb => ?_, r⟩
 ·have hnr' : bB w c.S (.arr (List.replicate m f.zero).length f) (List.replicate m f.zero) (List.replicate m (cV f)).flatten := by
   grind
  have := aLs Y hnr'
  exact ⟨z ++ _, by simpa using j, bB.keep (fun _ h => h) hsame _ _ _ (by omega)⟩
 ·rcases q with q | q
  ·simp_all
  ·right
   rw [q] at hb
   cases hb
   refine ⟨Nat.le_refl _, ?_⟩
   rcases j.2 with ⟨rfl, _⟩ | ⟨g, cp, cur, rfl, _, hheap, _⟩
   all_goals grind [aX, Array.getElem?_eq_some_iff]
theorem aYM (hE : iA P E) (q : Good M w0 c h w) {t Z ty : TypeId} {k : IntKind} (L : P.underlying Z = some (.int k)) {s x : AV} {sv Y : Value} (hs : aW c w s sv) (hx : aW c w x Y) (hc : (aKj E h t s x).1) :
  ∃ v' w' c', (Builtin.append_ #[t, Z] ty #[sv, Y]).run P w = .ok v' w' ∧ dS c w c' w' ∧ Good M w0 c' (aKj E h t s x).2.2 w' ∧ aW c' w' (aKj E h t s x).2.1 v' := by
 unfold aKj at hc ⊢
 split at hc
 ·rename_i ct ht
  split at hc
  ·rename_i n hn
   obtain ⟨O, rfl⟩ := aBm hx hn
   split at hc
   ·
    obtain ⟨h0, hb, J⟩ := hc
    obtain ⟨m, rfl⟩ := Int.eq_ofNat_of_zero_le h0
    have I : sv = .slice none 0 0 := by
     obtain ⟨h1, _, W⟩ := hs
     have W := W rfl
     simp_all [aM, Value.cells]
    subst I
    simp only [Int.toNat_natCast] at hb ⊢
    obtain ⟨v', w', j, f, g, N, z⟩ := aPA (c := c) (w := w) (P := P) (ty := ty) (xs := []) (k' := O) (m := m) hE ht L J (sv := .slice none 0 0) ⟨[], ⟨by simp, .inl ⟨rfl, rfl⟩⟩, ⟨rfl, [], rfl, rfl, fun i h => by simp at h⟩⟩ (by simp_all) (fun b hb => ⟨q.sfin b hb, by simp [aX]⟩)
    rw [List.nil_append] at g
    have hk : jC nothing w w' := ⟨f.os, f.tape, f.output, f.size, fun b hb _ => f.block b hb (by simp [aX])⟩
    have := q.push hk (o := .row (E.el t) ct (List.replicate m ct.zero)) (hv := v') (by
     show aDt _ _ _ _ _ _
     have e : (c.push v').hd c.n = v' := by simp [Ctx.push]
     rw [e]
     exact g) (fun b hb => by
     simp_all [Ctx.push, fI, aX])
    refine ⟨v', w', _, j, this.2, this.1, ?_⟩
    have := aEA (c := c) z (w' := w') (S' := c.S)
    rw [← q.n]
    exact this
   ·rename_i i
    split at hc
    ·rename_i e c' xs U
     split at hc
     ·rename_i xs' hcast
      obtain ⟨rfl, rfl⟩ := aEz hcast
      obtain ⟨rfl, h0, hb, J⟩ := hc
      obtain ⟨m, rfl⟩ := Int.eq_ofNat_of_zero_le h0
      simp only [Int.toNat_natCast] at hb ⊢
      have I := (aCy hs).2
      have r : aDt c w (E.el t) _ _ (c.hd i) := q.objs i _ U
      subst I
      obtain ⟨v', w', j, f, g, N, z⟩ := aPA (c := c) (w := w) (P := P) (ty := ty) (k' := O) (m := m) hE ht L J r hb (fun b hb => ⟨q.sfin b hb, fun e => (q.own i _ b U e).2.2 hb⟩)
      have := q.regrow U f g N
      refine ⟨v', w', _, j, this.2, this.1, ?_⟩
      have := aEA (c := c) z (w' := w') (S' := c.S)
      rw [← q.n]
      exact this
     simp_all
    simp_all
   simp_all
  simp_all
 simp_all
end
end Go.Vc
namespace Go.Vc
open Go.RowKit
section
variable {P : Program} {E : Env} {T : Tab} {M : Perm} {w0 : World} {c : Ctx} {h : List Obj} {w : World}
theorem aMD (w : World) (t u ty e : TypeId) (i : TypeInfo) (ht : P.underlying t = some (.slice e)) (J : P.underlying u = some .string) (hi : P.info? e = some i) (L : i.zero = some (.int .u8 0))
  (hsize : i.size = 1) (r : i.bytes = 1) (v : Value) (n : Nat) (xs : List Value) (f : w.ownsRow 0 e 1 v n xs) (s : ByteArray)
  (N : n + s.size ≤ maxLen) (hbytes : n + s.size ≤ 140737488355328) :
  ∃ v' w', (Builtin.append_ #[t, u] ty #[v, .string s]).run P w = .ok v' w' ∧ w'.ownsRow 0 e 1 v' (n + s.size) (xs ++ Lib.strCells s) ∧ w.grownBy w' v.ownBlock ∧ (v'.ownBlock = v.ownBlock ∨ v'.ownBlock = some w.heap.size) := by
 obtain ⟨v', w', I, Z, W, _⟩ := Lib.run_append_own_string (P := P) w 0 t u ty e i ht J hi L hsize r v n xs f s N hbytes (Nat.zero_le _)
 refine ⟨v', w', I, Z, W, ?_⟩
 have hsmall : n + s.size ≤ 9223372036854775807 := by omega
 have hxl : xs.length = n := by simpa using f.1
 rcases f.2 with ⟨rfl, rfl⟩ | ⟨g, q, z, rfl, U, Y, hnc, hcm, hcs, htake⟩
 ·by_cases hm : s.size = 0
  ·simp_all
  ·have b := run_append_nil_string (P := P) w t u ty e i (.int .u8 0) ht J hi L s (by omega) (by omega) (by grind)
   rw [I] at b
   injection b with q1 q2
   rw [q1]; exact .inr rfl
 ·by_cases hroom : n + s.size ≤ q
  ·have O : z.size = q := by omega
   have b := Lib.run_append_room_string (P := P) w t u ty e i ht J hi hsize g n q z Y s hroom (by omega)
   rw [I] at b
   injection b with q1 q2
   rw [q1]; exact .inl rfl
  ·have holds : ∀ j u, xs[j]? = some u → w.cell? ((⟨g, 0, none⟩ : Addr).add j) = some u := f.cells (g := g) rfl
   have b := Lib.run_append_grow_string (P := P) w t u ty e i (.int .u8 0) ht J hi L ⟨g, 0, none⟩ n q xs (by simp_all) holds s (by omega) (by omega) (by rw [r]; exact growslice_fits (by omega) (by omega))
   rw [I] at b
   injection b with q1 q2
   rw [q1]; exact .inr rfl
def isStr : Option Ty → Bool
 | some .str => true
 | _ => false
def aKk (E : Env) (h : List Obj) (t : TypeId) (s x : AV) : Prop × AV × List Obj :=
 match E.T t with
 | some (.sl (.u .u8)) => match x with
  | .val .str b => match s with
   | .nilS => (bound (.u .u8) b.length, .own h.length, h ++ [.row (E.el t) (.u .u8) b])
   | .own i => match h[i]? with
    | some (.row e c' f) => match aDH c' (.u .u8) f with
     | some f => (e = E.el t ∧ bound (.u .u8) (f.length + b.length), .own h.length, h.set i .dead ++ [.row (E.el t) (.u .u8) (f ++ b)])
     | none => (False, .junk, h)
    | _ => (False, .junk, h)
   | _ => (False, .junk, h)
  | _ => (False, .junk, h)
 | _ => (False, .junk, h)
theorem aVm {S : Nat → Prop} (s : ByteArray) : bB w S (.arr (aV s).length (.u .u8)) (aV s) (Lib.strCells s) := by
 refine ⟨rfl, (aV s).map (fun (x : Nat) => [Value.int .u8 (x : Int)]), ?_, by simp, fun i z j => ?_⟩
 ·have f : ∀ l : List UInt8, (l.map fun b => Value.int .u8 (b.toNat : Int)) = ((l.map (·.toNat)).map (fun (x : Nat) => [Value.int .u8 (x : Int)])).flatten := by
   intro l
   induction l with
   | nil => rfl
   | cons a r g => simp [g]
  exact f s.data.toList
 ·simp only [List.getElem_map]
  refine ⟨rfl, rfl, ?_⟩
  have : (aV s)[i] = (s.data.toList[i]'(by grind [aV])).toNat := by simp [aV]
  rw [this]
  generalize (s.data.toList[i]'(by grind)) = q
  have := q.toNat_lt
  grind [IntKind.max, IntKind.signed, IntKind.bits]
theorem aPB (hE : iA P E) {t Z ty : TypeId} (ht : E.T t = some (.sl (.u .u8))) (htx : P.underlying Z = some .string) {sv : Value} {xs : List Nat}
  (Y : aDt c w (E.el t) (.u .u8) xs sv) {s : ByteArray} (hb : bound (.u .u8) (xs.length + (aV s).length)) (N : ∀ b, c.S b → b < w.heap.size ∧ aX sv ≠ some b) :
  ∃ v' w', (Builtin.append_ #[t, Z] ty #[sv, .string s]).run P w = .ok v' w' ∧ w.grownBy w' (aX sv) ∧ aDt c w' (E.el t) (.u .u8) (xs ++ aV s) v' ∧ (∀ b, aX v' = some b → aX sv = some b ∨ (w.heap.size ≤ b ∧ b < w'.heap.size)) ∧ ∃ a n m, v' = .slice a n m := by
 have hd := hE.el t _ ht
 obtain ⟨e', hd', L, hpos⟩ := fZ (hE.T _ _ ht)
 have : e' = E.el t := by simp_all
 subst this
 have W := hE.T _ _ L
 obtain ⟨i, hi, hsz, hz, hby⟩ := W.info
 obtain ⟨z, r, U⟩ := Y
 have I : (aV s).length = s.size := sP s
 rw [I] at hb
 have hb1 : i.bytes = 1 := W.byte rfl i hi
 obtain ⟨v', w', O, f, J, j⟩ := aMD (P := P) w t Z ty (E.el t) i hd htx hi (hz rfl) hsz hb1 sv xs.length z r s hb.1 (by have := hb.2; grind [Ty.byt, IntKind.bits])
 have hsl := kU r
 have q := kU f
 rw [← uK hsl] at J j
 rw [← uK q] at j
 have hsame : aBi c.S w w' := fun b hb => J.block b (N b hb).1 (fun e => (N b hb).2 e.symm)
 refine ⟨v', w', O, J, ?_, fun b hb => ?_, q⟩
 ·have := aLs (t := .u .u8) U (aVm (w := w) (S := c.S) s)
  exact ⟨z ++ _, by simpa [I, Ty.cells] using f, bB.keep (fun _ h => h) hsame _ _ _ (by omega)⟩
 ·rcases j with j | j
  ·simp_all
  ·right
   rw [j] at hb
   cases hb
   refine ⟨Nat.le_refl _, ?_⟩
   rcases f.2 with ⟨rfl, _⟩ | ⟨g, cp, cur, rfl, _, hheap, _⟩
   all_goals grind [aX, Array.getElem?_eq_some_iff]
theorem aYN (Y : iA P E) (q : Good M w0 c h w) {t W ty : TypeId} (J : P.underlying W = some .string) {s x : AV} {sv U : Value} (hs : aW c w s sv) (Z : aW c w x U) (hc : (aKk E h t s x).1) :
  ∃ v' w' c', (Builtin.append_ #[t, W] ty #[sv, U]).run P w = .ok v' w' ∧ dS c w c' w' ∧ Good M w0 c' (aKk E h t s x).2.2 w' ∧ aW c' w' (aKk E h t s x).2.1 v' := by
 unfold aKk at hc ⊢
 split at hc
 ·rename_i ht
  split at hc
  ·rename_i b
   obtain ⟨st, rfl, rfl, hm⟩ := aPt Z
   split at hc
   ·
    have I : sv = .slice none 0 0 := by
     obtain ⟨h1, _, O⟩ := hs
     have O := O rfl
     simp_all [aM, Value.cells]
    subst I
    obtain ⟨v', w', j, f, g, L, z⟩ := aPB (c := c) (w := w) (P := P) (ty := ty) (xs := []) (s := st) Y ht J (sv := .slice none 0 0) ⟨[], ⟨by simp, .inl ⟨rfl, rfl⟩⟩, ⟨rfl, [], rfl, rfl, fun i h => by simp at h⟩⟩ (by simp_all) (fun b hb => ⟨q.sfin b hb, by simp [aX]⟩)
    rw [List.nil_append] at g
    have hk : jC nothing w w' := ⟨f.os, f.tape, f.output, f.size, fun b hb _ => f.block b hb (by simp [aX])⟩
    have := q.push hk (o := .row (E.el t) (.u .u8) (aV st)) (hv := v') (by
     show aDt _ _ _ _ _ _
     have e : (c.push v').hd c.n = v' := by simp [Ctx.push]
     rw [e]
     exact g) (fun b hb => by
     simp_all [Ctx.push, fI, aX])
    refine ⟨v', w', _, j, this.2, this.1, ?_⟩
    have := aEA (c := c) z (w' := w') (S' := c.S)
    rw [← q.n]
    exact this
   ·rename_i i
    split at hc
    ·rename_i e c' xs N
     split at hc
     ·rename_i xs' hcast
      obtain ⟨rfl, rfl⟩ := aEz hcast
      obtain ⟨rfl, hb⟩ := hc
      have I := (aCy hs).2
      have r : aDt c w (E.el t) _ _ (c.hd i) := q.objs i _ N
      subst I
      obtain ⟨v', w', j, f, g, L, z⟩ := aPB (c := c) (w := w) (P := P) (ty := ty) (s := st) Y ht J r hb (fun b hb => ⟨q.sfin b hb, fun e => (q.own i _ b N e).2.2 hb⟩)
      have := q.regrow N f g L
      refine ⟨v', w', _, j, this.2, this.1, ?_⟩
      have := aEA (c := c) z (w' := w') (S' := c.S)
      rw [← q.n]
      exact this
     simp_all
    simp_all
   simp_all
  simp_all
 simp_all
end
end Go.Vc
namespace Go.Vc
open Go.RowKit
structure Fr where
 P : Program
 E : Env
 M : Perm
 w0 : World
 nt : Nat
 ds : List Deferred
@[reducible] def fr (P : Program) (E : Env) (S : Nat → Prop) (w0 : World) (nt : Nat) : Fr := ⟨P, E, top S, w0, nt, []⟩
structure tI (F : Fr) : Prop where
 env : iA F.P F.E
 mix : F.P.follows .mixedOrders = true
def iH (nt : Nat) : Code → Bool
 | .region _ ops f => ops.toList.all (gY nt) && aH5 ops.toList && (!f || aVi ops.toList)
 | .seq a b => iH nt a && iH nt b
 | .cond c a b => qV c && iH nt a && iH nt b
 | .block _ a => iH nt a
 | .loop a => iH nt a
 | .scope a => iH nt a
 | .rangeFunc _ _ _ _ => false
 | _ => true
abbrev St := List (Nat × AV)
def At (F : Fr) (K : Act → World → Prop) (env : St) (h : List Obj) : Prop := ∀ c a w, Sim F.E F.M F.w0 F.nt F.ds c env h a w → K a w
def Tri (F : Fr) (c : Code) (Q : Exit → Act → World → Prop) (env : St) (h : List Obj) : Prop := iH F.nt c = true → At F (c.wp F.P Q) env h
section
variable {F : Fr} {Q : Exit → Act → World → Prop} {env : St} {h : List Obj}
theorem eJ (hq : At F (Q .normal) env h) : Tri F .skip Q env h := fun _ c a w hs => wp_skip (hq c a w hs)
theorem aUq {l : Nat} (hq : At F (Q .normal) env h) : Tri F (.label l) Q env h := fun _ c a w hs => wp_label (hq c a w hs)
theorem aEB {id : Nat} (hq : At F (Q (.exit id)) env h) : Tri F (.exit id) Q env h := fun _ c a w hs => wp_exit (hq c a w hs)
theorem jS (hq : At F (Q .ret) env h) : Tri F .ret Q env h := fun _ c a w hs => wp_ret (hq c a w hs)
def Next (F : Fr) (y : Code) (Q : Exit → Act → World → Prop) (a : Act) (w : World) : Prop := iH F.nt y = true → y.wp F.P Q a w
theorem aO {x y : Code} (f : Tri F x (Exit.then (Next F y Q) Q) env h) : Tri F (.seq x y) Q env h := fun b c a w hs => by
 simp only [iH, Bool.and_eq_true] at b
 refine wp_seq (wp_mono (f b.1 c a w hs) fun e g w' hq => ?_)
 cases e <;> first | exact hq | exact hq b.2
theorem aQ {y : Code} (f : Tri F y Q env h) : At F (Exit.then (Next F y Q) Q .normal) env h := fun c a w hs b => f b c a w hs
theorem dX {K : Act → World → Prop} (b : At F K env h) : At F (Exit.then K Q .normal) env h := b
theorem mF {K : Act → World → Prop} {id : Nat} (hq : At F (Q (.exit id)) env h) : At F (Exit.then K Q (.exit id)) env h := hq
theorem fM {K : Act → World → Prop} (hq : At F (Q .ret) env h) : At F (Exit.then K Q .ret) env h := hq
theorem qJ {id : Nat} (hq : At F (Q .normal) env h) : At F (Exit.inBlock id Q .normal) env h := hq
theorem pS {id : Nat} (hq : At F (Q .ret) env h) : At F (Exit.inBlock id Q .ret) env h := hq
theorem qK {id : Nat} (hq : At F (Q .normal) env h) : At F (Exit.inBlock id Q (.exit id)) env h := fun c a w hs => by
 simp only [Exit.inBlock, if_true]; exact hq c a w hs
theorem aI8 {id b : Nat} (f : b ≠ id) (hq : At F (Q (.exit b)) env h) : At F (Exit.inBlock id Q (.exit b)) env h := fun c a w hs => by
 simp only [Exit.inBlock, f, if_false]; exact hq c a w hs
theorem qW {id : Nat} {x : Code} (f : Tri F x (Exit.inBlock id Q) env h) : Tri F (.block id x) Q env h := fun b c a w hs =>
 wp_block (f (by grind [iH]) c a w hs)
theorem dC {x y : Code} {o : Operand} {b : Bool} (hb : evA F.E.G env o = .val .bool b) (ht : b = true → Tri F x Q env h) (g : b = false → Tri F y Q env h) : Tri F (.cond o x y) Q env h := fun f c a w hs => by
 simp only [iH, Bool.and_eq_true] at f
 have hv := aEw (a := a) hs.env hs.glob f.1.1
 rw [hb] at hv
 have hv := aGf hv
 exact wp_cond_split hv (fun e => ht e f.1.2 c a w hs) (fun e => g e f.2 c a w hs)
def bGA (v : AV) : Option Ent → AV
 | none => v
 | some ⟨_, _, [], av⟩ => av
 | some _ => .junk
theorem aWZ (b : List Ent) (env : St) (t : Nat) : look (nE b env) t = bGA (look env t) (aDG b t) := by
 rw [aI7]
 cases aDG b t with
 | none => rfl
 | some e => obtain ⟨i, d, gp, av⟩ := e; cases gp <;> rfl
def aTs (keep : List Nat) (b : List Ent) (env : St) : St := keep.map fun t => (t, bGA (look env t) (aDG b t))
theorem bA6 {c : Ctx} {w : World} {a : Act} (b : aIu c w env a.tmps) (keep : List Nat) : aIu c w (keep.map fun t => (t, look env t)) a.tmps := fun t => by
 have : look (keep.map fun t => (t, look env t)) t = look env t ∨ look (keep.map fun t => (t, look env t)) t = .junk := by
  induction keep with
  | nil => right; rfl
  | cons k r f =>
   simp only [List.map_cons, look]
   grind
 rcases this with e | e
 ·rw [e]; exact b t
 ·rw [e]; trivial
theorem Sim.keep {E : Env} {M : Perm} {w0 : World} {nt : Nat} {ds : List Deferred} {c : Ctx} {a : Act} {w : World} (hs : Sim E M w0 nt ds c env h a w) (keep : List Nat) : Sim E M w0 nt ds c (keep.map fun t => (t, look env t)) h a w :=
 ⟨hs.good, hs.glob, bA6 hs.env keep, hs.size, hs.defers⟩
theorem aS (hF : tI F) {id : Nat} {ops : Array Oper} {f : Bool} (keep : List Nat) (hv : vcA F.E h env ops.toList 0 [] (fun b => At F (Q .normal) (aTs keep b env) h)) : Tri F (.region id ops f) Q env h := fun j c a w hs => by
 simp only [iH, Bool.and_eq_true, Bool.or_eq_true, Bool.not_eq_true'] at j
 obtain ⟨⟨z, s⟩, I⟩ := j
 have g : ∀ b c' q w', At F (Q .normal) (aTs keep b env) h → dS c w c' w' → c'.n = c.n → Sim F.E F.M F.w0 F.nt F.ds c' (nE b env) h q w' → Q .normal q w' := fun b c' q w' J _ _ r => by
  have := r.keep keep
  refine J c' q w' ?_
  grind [aTs, look, nE, aWZ]
 cases f with
 | false => exact aWW (ops := ops.toList) hF.env (List.all_eq_true.1 z) s hs hv g
 | true => exact aMA (ops := ops.toList) hF.env hF.mix (List.all_eq_true.1 z) s (I.resolve_left (by simp)) hs hv g
theorem aW0 {x : Code} {D : Type} (I : D → Prop) (q : D → Nat) (b : D → St) (f : D → List Obj) (h0 : At F (fun a w => ∃ d c, I d ∧ Sim F.E F.M F.w0 F.nt F.ds c (b d) (f d) a w) env h)
  (round : ∀ d, I d → Tri F x (Exit.then (fun L w' => ∃ d' c', (I d' ∧ q d' < q d) ∧ Sim F.E F.M F.w0 F.nt F.ds c' (b d') (f d') L w') Q) (b d) (f d)) : Tri F (.loop x) Q env h := fun z c a w hs => by
 classical
 have z : iH F.nt x = true := by grind [iH]
 let good : Act → World → Nat → Prop := fun a w n => ∃ d c, I d ∧ Sim F.E F.M F.w0 F.nt F.ds c (b d) (f d) a w ∧ q d = n
 have hleast : ∀ a w, (∃ d c, I d ∧ Sim F.E F.M F.w0 F.nt F.ds c (b d) (f d) a w) → ∃ n, good a w n ∧ ∀ m, good a w m → n ≤ m := fun a w ⟨d, c, hi, hs⟩ => by
  have O : ∃ n, good a w n := ⟨q d, d, c, hi, hs, rfl⟩
  obtain ⟨n, hn⟩ := O
  induction n using Nat.strongRecOn with
  | _ n ih =>
   by_cases Y : ∃ m, m < n ∧ good a w m
   ·obtain ⟨m, hm, hg⟩ := Y; grind
   grind
 let N : Act → World → Nat := fun a w => if g : ∃ d c, I d ∧ Sim F.E F.M F.w0 F.nt F.ds c (b d) (f d) a w then Classical.choose (hleast a w g) else 0
 have s : ∀ a w (g : ∃ d c, I d ∧ Sim F.E F.M F.w0 F.nt F.ds c (b d) (f d) a w), good a w (N a w) ∧ ∀ m, good a w m → N a w ≤ m := fun a w g => by
  grind
 refine wp_loop (fun a w => ∃ d c, I d ∧ Sim F.E F.M F.w0 F.nt F.ds c (b d) (f d) a w) N (h0 c a w hs) fun a w g => ?_
 obtain ⟨⟨d, c, hi, hs, W⟩, U⟩ := s a w g
 refine wp_mono (round d hi z c a w hs) fun e L w' hq => ?_
 cases e with
 | normal =>
  obtain ⟨d', c', ⟨J, Z⟩, j⟩ := hq
  have r : ∃ d c, I d ∧ Sim F.E F.M F.w0 F.nt F.ds c (b d) (f d) L w' := ⟨d', c', J, j⟩
  refine ⟨r, ?_⟩
  have := (s L w' r).2 (q d') ⟨d', c', J, j, rfl⟩
  omega
 | _ => exact hq
theorem aW1 {x y : Code} {D : Type} (J : D → Prop) (b : D → St) (q : D → List Obj) (r : Tri F x (Exit.then (fun j w' => ∃ d' c', J d' ∧ Sim F.E F.M F.w0 F.nt F.ds c' (b d') (q d') j w') Q) env h)
  (s : ∀ d, J d → Tri F y Q (b d) (q d)) : Tri F (.seq x y) Q env h := fun f c a w hs => by
 simp only [iH, Bool.and_eq_true] at f
 refine wp_seq (wp_mono (r f.1 c a w hs) fun e j w' hq => ?_)
 cases e with
 | normal =>
  obtain ⟨d', c', z, g⟩ := hq
  exact s d' z f.2 c' j w' g
 | _ => exact hq
def eV (h : List Obj) (v : AV) : AV → Prop
 | .val t x => AV.as (h.map fL) t v = some x ∨ v = .val t x
 | .junk => True
 | u => v = u
def xA (h : List Obj) (env : St) : St → Prop
 | [] => True
 | (t, u) :: r => eV h (look env t) u ∧ xA h env r
theorem aRd {M : Perm} {w0 : World} {c : Ctx} {w : World} (f : Good M w0 c h w) {v u : AV} {x : Value} (b : eV h v u) (hv : aW c w v x) : aW c w u x := by
 cases u <;> simp only [eV] at b
 case val t y =>
  rcases b with b | rfl
  all_goals grind [aW.ofV, yD]
 case junk => trivial
 all_goals simp_all
theorem aZ2 {M : Perm} {w0 : World} {c : Ctx} {w : World} {a : Act} (g : Good M w0 c h w) (j : aIu c w env a.tmps) : ∀ {b : St}, xA h env b → aIu c w b a.tmps
 | [], _, t => trivial
 | (k, u) :: r, f, t => by
  simp only [look]
  split
  ·rename_i e; subst e; exact aRd g f.1 (j k)
  ·exact aZ2 g j f.2 t
theorem aU {D : Type} {J : D → Prop} {b : D → St} {f : D → List Obj} (d : D) (q : J d) (j : h = f d) (g : xA h env (b d)) : At F (fun a w => ∃ d' c', J d' ∧ Sim F.E F.M F.w0 F.nt F.ds c' (b d') (f d') a w) env h := fun c a w hs =>
 ⟨d, c, q, ⟨by rw [← j]; exact hs.good, hs.glob, aZ2 hs.good hs.env g, hs.size, hs.defers⟩⟩
def bT : (t : Ty) → t.den → Nat → St
 | .pair (.rp a) r, x, k => (k, .roa a x.1) :: bT r x.2 (k + 1)
 | .pair a r, x, k => (k, .val a x.1) :: bT r x.2 (k + 1)
 | _, _, _ => []
end
end Go.Vc
namespace Go.Vc
open Go.RowKit
def bA7 : Obj → Obj
 | .row _ t b => .frz t b
 | .tre _ _ t b => .frz t b
 | o => o
def frzAll : Obj → Obj
 | .row _ t b => .frz t b
 | .tre _ _ t b => .frz t b
 | .frz t b => .frz t b
 | _ => .dead
def aPC : Ty → Nat
 | .pair _ r => aPC r + 1
 | _ => 0
def nH (h : List Obj) : (r : RK) → r.ty.den → List AV → Prop
 | .none, _, [] => True
 | .one t, y, [v] => AV.as (h.map frzAll) t v = some y
 | .own e t, b, [.own i] => h[i]? = some (.row e t b)
 | .own e t, b, [.nilS] => b = []
 | .tup t, y, f => f.length ≠ 1 ∧ aCn (h.map frzAll) t f = some y
 | _, _, _ => False
section
variable {P : Program} {E : Env} {M : Perm} {w0 : World} {c : Ctx} {h : List Obj} {w : World}
theorem aTt : ∀ (n : Nat) (h : List Obj) (i : Nat), (freezeAll (List.range n) h)[i]? = if i < n then (h[i]?).map bA7 else h[i]? := by
 have g : ∀ (l r : List Nat) (h : List Obj), freezeAll (l ++ r) h = freezeAll r (freezeAll l h) := fun l => by
  induction l with
  | nil => intro r h; rfl
  | cons a l q => intro r h; simp only [List.cons_append, freezeAll]; exact q r _
 intro n
 induction n with
 | zero => grind [freezeAll]
 | succ n q =>
  intro h i
  rw [List.range_succ, g]
  simp only [freezeAll, Vc.freeze]
  have j := q h n
  simp only [Nat.lt_irrefl, if_false] at j
  split
  ·rename_i e t I b
   rw [j] at b
   by_cases f : n = i
   ·subst f
    have s : n < h.length := aAC b
    have L : n < (freezeAll (List.range n) h).length := by
     grind
    grind [bA7]
   grind
  ·rename_i e m t I b
   rw [j] at b
   by_cases f : n = i
   ·subst f
    have s : n < h.length := aAC b
    have L : n < (freezeAll (List.range n) h).length := by
     grind
    grind [bA7]
   grind
  ·rename_i J z
   rw [q h i]
   by_cases hi : i < n
   ·grind
   ·by_cases f : i = n
    ·subst f
     simp only [Nat.lt_irrefl, if_false, Nat.lt_succ_self, if_true]
     cases b : h[i]? with
     | none => rfl
     | some o =>
      rw [b] at j
      cases o <;> first | rfl | grind | grind
    grind
theorem Good.frzAll (b : Good M w0 c h w) : ∃ c', dS c w c' w ∧ Good M w0 c' (h.map bA7) w := by
 obtain ⟨c', j, f, g⟩ := b.freezeAll (List.range h.length)
 have e : Vc.freezeAll (List.range h.length) h = h.map bA7 := by
  apply List.ext_getElem?
  intro i
  rw [aTt, List.getElem?_map]
  by_cases hi : i < h.length
  ·simp [hi]
  ·simp [hi]
 grind
theorem aZ3 : (h.map bA7).map fL = h.map frzAll := by
 rw [List.map_map]
 apply List.map_congr_left
 intro o _
 cases o <;> rfl
theorem aRN {S : Nat → Prop} : ∀ (t : Ty) (x : t.den) (k : Nat) (vs : List Value) (f : Array Value), qI w S t x vs → c.S = S → (∀ i v, vs[i]? = some v → f.getD (k + i) Go.undef = v) → aIu c w (bT t x k) f
 | .pair a r, x, k, vs, f, ⟨v, q, e, j, s⟩, I, ht => by
  subst e
  have g := aRN r x.2 (k + 1) q f s I (fun i u z => by
   have := ht (i + 1) u (by simp_all)
   grind)
  have hv := ht 0 v (by simp)
  simp only [Nat.add_zero] at hv
  intro t
  have hcase : ∀ u : AV, aW c w u v → aW c w (look ((k, u) :: bT r x.2 (k + 1)) t) (f.getD t Go.undef) := fun u z => by
   simp only [look]
   split
   ·simp_all
   ·exact g t
  cases a with
  | rp a =>
   simp only [bT]
   refine hcase _ ?_
   unfold dE at j
   rw [if_neg (by simp [Ty.isAgg])] at j
   obtain ⟨b, off, ds, e, hb, hd, hcell⟩ := j
   grind [aFo]
  | _ =>
   grind [bT, aW.ofV]
 | .unit, _, _, _, _, _, _, _ => fun t => trivial
 | .bool, _, _, _, _, h, _, _ => h.elim
 | .u _, _, _, _, _, h, _, _ => h.elim
 | .i _, _, _, _, _, h, _, _ => h.elim
 | .str, _, _, _, _, h, _, _ => h.elim
 | .sl _, _, _, _, _, h, _, _ => h.elim
 | .arr _ _, _, _, _, _, h, _, _ => h.elim
 | .expr, _, _, _, _, h, _, _ => h.elim
 | .rp _, _, _, _, _, h, _, _ => h.elim
 | .clo _ _, _, _, _, _, h, _, _ => h.elim
theorem aRO {S : Nat → Prop} : ∀ (t : Ty) (x : t.den) (vs : List Value), qI w S t x vs → vs.length = aPC t
 | .pair a r, x, vs, ⟨v, b, e, g, f⟩ => by subst e; simp [aPC, aRO r x.2 b f]
 | .unit, _, _, h => by simp only [qI] at h; subst h; rfl
 | .bool, _, _, h => h.elim
 | .u _, _, _, h => h.elim
 | .i _, _, _, h => h.elim
 | .str, _, _, h => h.elim
 | .sl _, _, _, h => h.elim
 | .arr _ _, _, _, h => h.elim
 | .expr, _, _, h => h.elim
 | .rp _, _, _, h => h.elim
 | .clo _ _, _, _, h => h.elim
 | .ifc _ _, _, _, h => h.elim
 | .nili, _, _, h => h.elim
 | .nilp, _, _, h => h.elim
 | .nilf, _, _, h => h.elim
theorem bA8 {S S' : Nat → Prop} (hs : ∀ b, S b → S' b) : ∀ {t : Ty} {x : t.den} {vs : List Value}, qI w S t x vs → qI w S' t x vs := by
 intro t
 induction t with
 | unit => intro x vs h; exact h
 | pair a r _ j => intro x vs ⟨v, f, e, q, g⟩; exact ⟨v, f, e, q.keep hs (.refl _ _), j g⟩
 | _ => intro x vs h; exact h.elim
def Ty.wf : (t : Ty) → t.den → Prop
 | .u k, n => (n : Int) ≤ k.max
 | .i k, n => fits k n
 | .str, s => s.length ≤ maxLen
 | .sl t, f => f.length ≤ maxLen ∧ ∀ x ∈ f, t.wf x
 | .pair a b, x => a.wf x.1 ∧ b.wf x.2
 | .arr n t, f => f.length = n ∧ ∀ x ∈ f, t.wf x
 | .rp t, x => t.wf x
 | .clo _ t, x => t.wf x
 | .ifc _ t, x => t.wf x
 | _, _ => True
theorem bB.wf {S : Nat → Prop} : ∀ (t : Ty) (x : t.den) (cs : List Value), bB w S t x cs → t.wf x
 | .bool, _, _, _ => trivial
 | .u k, _, _, f => f.2.2
 | .i k, _, _, f => f.2.2
 | .str, _, _, ⟨s, _, W, hs⟩ => by grind [Ty.wf, sP]
 | .sl t, N, _, ⟨a, len, L, _, r, q, O, J⟩ => by
  refine ⟨by omega, fun x g => ?_⟩
  rcases J with rfl | ⟨b, off, _, _, j⟩
  ·cases g
  ·obtain ⟨i, hi, rfl⟩ := List.mem_iff_getElem.1 g
   obtain ⟨ds, hd, _⟩ := j i hi
   exact bB.wf t _ _ hd
 | .unit, _, _, _ => trivial
 | .pair a b, _, _, ⟨c1, U, _, r, q⟩ => ⟨bB.wf a _ _ r, bB.wf b _ _ q⟩
 | .arr n t, N, _, ⟨z, I, _, Y, f⟩ => ⟨z, fun x g => by
  obtain ⟨i, hi, rfl⟩ := List.mem_iff_getElem.1 g
  exact bB.wf t _ _ (f i hi (by omega))⟩
 | .expr, _, _, _ => trivial
 | .rp t, _, _, ⟨_, _, ds, _, _, hd, _⟩ => bB.wf t _ _ hd
 | .clo _ t, _, _, ⟨_, _, hd⟩ => bB.wf t _ _ hd
 | .ifc _ t, _, _, ⟨_, _, _, _, _, hd⟩ => bB.wf t _ _ hd
 | .nili, _, _, _ => trivial
 | .nilp, _, _, _ => trivial
 | .nilf, _, _, _ => trivial
theorem aHc {S : Nat → Prop} : ∀ (t : Ty) (x : t.den) (vs : List Value), qI w S t x vs → t.wf x
 | .pair a r, x, vs, ⟨v, g, e, f, b⟩ => ⟨bB.wf a _ _ f.cells, aHc r _ _ b⟩
 | .unit, _, _, _ => trivial
 | .bool, _, _, h => h.elim
 | .u _, _, _, h => h.elim
 | .i _, _, _, h => h.elim
 | .str, _, _, h => h.elim
 | .sl _, _, _, h => h.elim
 | .arr _ _, _, _, h => h.elim
 | .expr, _, _, h => h.elim
 | .rp _, _, _, h => h.elim
 | .clo _ _, _, _, h => h.elim
 | .ifc _ _, _, _, h => h.elim
 | .nili, _, _, h => h.elim
 | .nilp, _, _, h => h.elim
 | .nilf, _, _, h => h.elim
theorem aHd {n : Int} : fits .i64 n ↔ -9223372036854775808 ≤ n ∧ n ≤ 9223372036854775807 := by
 rfl
theorem bA9 : maxLen = 9223372036854775807 := rfl
def post (P : Program) (fn : Func) (S : Nat → Prop) (w0 : World) (r : RK) (y : r.ty.den) : Exit → Act → World → Prop :=
 bodyPost P fn fun e w' => ∃ v, e = .returned v ∧ jC nothing w0 w' ∧ bAU w' S w0.heap.size r y v
theorem aYO {f : FuncId} {fn : Func} {g : Code} {sp : aG} (Y : iA P E) (z : P.funcs[f]? = some fn) (hb : fn.body = some g) (q : iH fn.ntmps g = true) (O : aPC sp.args ≤ fn.ntmps)
  (ht : ∀ (w0 : World) (S : Nat → Prop) (x : sp.args.den), sp.args.wf x → sp.pre x → Tri (fr P E S w0 fn.ntmps) g (post P fn S w0 sp.res (sp.fn x)) (bT sp.args x 0) []) : FOK P E.G f sp := by
 intro w S s x N L r hp
 refine calls_of_wp z hb ?_
 refine ht w S x (aHc _ _ _ r) hp q ⟨S, fun _ => Go.undef, 0, fun _ _ => False⟩ _ w ⟨⟨rfl, .refl _ _, N, fun b hb _ => .inl hb, fun i o I => by grind, fun i o b I => by grind, fun i j U W b hi => by grind, ⟨Nat.le_refl _, fun i hi => absurd hi (Nat.not_lt_zero i)⟩⟩, L, ?_, ?_, rfl⟩
 ·refine aRN _ x 0 s.toList _ r rfl fun i v hv => ?_
  have J : i < s.size := by
   grind
  simp_all [Nat.zero_add, Array.getElem?_toList, Array.getElem?_append, Array.getElem?_eq_getElem]
 ·have := aRO _ _ _ r
  simp_all
def aKJ : List Value → Value
 | [v] => v
 | vs => .tuple vs.toArray
end
end Go.Vc

