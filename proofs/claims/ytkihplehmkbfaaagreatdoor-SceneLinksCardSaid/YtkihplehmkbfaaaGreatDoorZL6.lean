import Derived.Test.YtkihplehmkbfaaaGreatDoorZL5
import Derived.Recover
import Derived.LaidMore
import Derived.LaidHandle
import Derived.MakeChecks
set_option linter.unusedVariables false
set_option linter.unusedSimpArgs false
namespace Go.Vc
open Go.RowKit
section
variable {P : Program} {E : Env} {M : Perm} {w0 : World} {c : Ctx} {h : List Obj} {w : World}
def aOB (P : Program) (fn : Func) (S : Nat → Prop) (w0 : World) (r : RK) (y : r.ty.den) : Exit → Act → World → Prop :=
 bodyPostD P fn fun e w' => ∃ v, e = .returned v ∧ fL nothing w0 w' ∧ aOM w' S w0.heap.size r y v
theorem aRu {f : FuncId} {fn : Func} {body : Code} {sp : aG} (hE : eM P E) (hf : P.funcs[f]? = some fn) (hb : fn.body = some body) (hok : fD fn.ntmps body = true) (hn : aHd sp.args ≤ fn.ntmps)
  (ht : ∀ (w0 : World) (S : Nat → Prop) (x : sp.args.den), sp.args.wf x → sp.pre x → Tri (fr P E S w0 fn.ntmps) body (aOB P fn S w0 sp.res (sp.fn x)) (bL sp.args x 0) []) : FOK P E.G f sp := by
 intro w S vs x hS hG ha hp
 refine calls_of_wp_defers hf hb ?_
 refine ht w S x (aE9 _ _ _ ha) hp hok ⟨S, fun _ => Go.undef, 0, fun _ _ => False⟩ _ w ⟨⟨rfl, .refl _ _, hS, fun b hb _ => .inl hb, fun i o ho => by simp at ho, fun i o b ho => by simp at ho, fun i j oi oj b hi => by simp at hi, ⟨Nat.le_refl _, fun i hi => absurd hi (Nat.not_lt_zero i)⟩⟩, hG, ?_, ?_, rfl⟩
 ·refine aI9 _ x 0 vs.toList _ ha rfl fun i v hv => ?_
  have hlt : i < vs.size := by
   rcases Nat.lt_or_ge i vs.size with hh | hh
   ·exact hh
   ·rw [List.getElem?_eq_none (by simpa using hh)] at hv; cases hv
  simp only [Nat.zero_add]
  have : vs[i]? = some v := by rw [← Array.getElem?_toList]; exact hv
  simp [Array.getElem?_append, hlt]
  rw [Array.getElem?_eq_getElem hlt] at this
  simpa using this
 ·have := aJa _ _ _ ha
  simp at this
  simp
  omega
theorem aQo {S : Nat → Prop} (hwr : M.wr = nothing) (hrd : M.rd = S) (hg : Good M w0 c h w) {r : RK} {y : r.ty.den} {avs : List AV} {xs : List Value} (hl : xs.length = avs.length) (hv : ∀ i (h1 : i < avs.length) (h2 : i < xs.length), aL c w avs[i] xs[i]) (hy : hO h r y avs) : aOM w S w0.heap.size r y (aB3 xs) := by
 have hsrc : ∀ {c' : Ctx} {h' : List Obj}, Good M w0 c' h' w → ∀ b, c'.S b → S b ∨ (w0.heap.size ≤ b ∧ b < w.heap.size) := fun hg b hb => by
  rcases Nat.lt_or_ge b w0.heap.size with hlt | hge
  ·have := hg.src b hb hlt
   rw [hwr, hrd] at this
   exact .inl (this.resolve_right (fun f => f))
  ·exact .inr ⟨hge, hg.sfin b hb⟩
 obtain ⟨c', hll, hg'⟩ := hg.frzAll
 have hval : ∀ i (h1 : i < avs.length) (h2 : i < xs.length), aL c' w avs[i] xs[i] := fun i h1 h2 => hll.val (hv i h1 h2)
 cases r with
 | none =>
  match avs, xs, hl, hy with
  | [], [], _, _ => rfl
 | one t =>
  match avs, xs, hl, hy, hval with
  | [v], [x], _, hy, hval =>
   have hy : AV.as (h.map Vc.frzAll) t v = some y := hy
   rw [← aOo] at hy
   have := oX hg' (hval 0 (by simp) (by simp)) hy
   exact cM.keep (hsrc hg') (.refl _ _) this
 | own e t =>
  match avs, xs, hl, hy, hv with
  | [.own i], [x], _, hy, hv =>
   have hvs := hv 0 (by simp) (by simp)
   simp only [List.getElem_cons_zero] at hvs
   have ho : h[i]? = some (.row e t y) := hy
   obtain ⟨hin, rfl⟩ := vA hvs
   obtain ⟨vals, hown, hrep⟩ := hg.objs i _ ho
   refine ⟨vals, ⟨hown.1, hown.2.imp id ?_⟩, aN.keep (fun b hb => ?_) (.refl _ _) _ _ _ hrep⟩
   ·rintro ⟨g, cap, cur, h1, h2, h3⟩
    refine ⟨g, cap, cur, h1, ?_, h3⟩
    have := (hg.own i _ g ho (by simp [dS, h1, aK])).1
    rw [hwr] at this
    exact this.resolve_right (fun f => f)
   ·rcases hsrc hg b hb with h1 | h1
    ·exact .inl h1
    ·exact .inr ⟨h1.1, h1.2, fun e' => (hg.own i _ b ho e').2.2 hb⟩
  | [.nilS], [x], _, hy, hv =>
   have hvs := hv 0 (by simp) (by simp)
   simp only [List.getElem_cons_zero] at hvs
   have hy : y = [] := hy
   subst hy
   have hsv : x = .slice none 0 0 := by
    obtain ⟨h1, _, h3⟩ := hvs
    have h3 := h3 rfl
    simp only [aE] at h1
    cases x <;> simp [Value.cells] at h1 h3 <;> simp [h1]
   subst hsv
   exact ⟨[], ⟨by simp, .inl ⟨rfl, rfl⟩⟩, ⟨rfl, [], rfl, rfl, fun i h => by simp at h⟩⟩
 | tup t =>
  have hy : avs.length ≠ 1 ∧ uN (h.map Vc.frzAll) t avs = some y := hy
  obtain ⟨hne, hy⟩ := hy
  rw [← aOo] at hy
  have hargs := aCF hg' hy (xs := xs) hl hval
  refine ⟨xs, ?_, aO1 (hsrc hg') hargs⟩
  match xs, hl ▸ hne with
  | [], _ => rfl
  | [s], hne => exact absurd rfl hne
  | s :: s' :: l, _ => rfl
def m0 : Option Pan → Value → FrameMode
 | none, _ => .returning
 | some p, u => .panicking (aKo p.k u)
def m1 : Option Pan → Value → FrameMode
 | none, _ => .returning
 | some p, u => .panicking [{ v := .iface p.k u, recovered := true, goexit := false }]
theorem aPa (m : Option Pan) (u : Value) : settle (m1 m u) = .returning := by cases m <;> rfl
def aRV (P : Program) (g : FuncId) (vs : Array Value) (u0 u1 : FrameMode) (w : World) (R : Ending → World → Prop) : Prop := CallsD P g vs u0 w fun e u' w' => u' = u1 ∧ R e w'
def DOK (P : Program) (G : Nat → AV) (g : FuncId) (mode : Option Pan) (sp : oD) : Prop :=
 ∀ (c : Ctx) (w : World) (d : sp.D) (vs : Array Value) (u : Value), sp.pre d → GIn G sp c w d vs.toList → (∀ p, mode = some p → cM w c.S p.t p.x u) → aRV P g vs (m0 mode u) (m1 mode u) w (aFf sp c w d)
theorem aMM {F : Fr} {fn : Func} {S : Nat → Prop} {r : RK} {y : r.ty.den} {env : St} {h : List Obj} {k : Nat} {roots : Nat → Value} {g : FuncId} {l2 : List Nat} {mode : Option Pan} (hF : jP F) (hM : F.M = ⟨nothing, S, k, roots⟩) (hds : F.ds = [⟨.fn (.func g) (l2.map roots).toArray, #[]⟩]) (hk : ∀ i ∈ l2, i < k) (hbx : aCJ h l2 = true)
  (hfn : ∃ fn, F.P.funcs[g]? = some fn ∧ fn.name ≠ "runtime.NumGoroutine" ∧ fn.body.isSome = true) (t : Hit) (hok : DOK F.P F.E.G g mode t.sp) (hh : aJl h (l2.map fun i => .ptr i []) t) {v : AV} {h' : List Obj} (hout : t.sp.out t.d = .ret v h')
  (l : List ResultVar) (hr : fn.results = l.toArray) (hy : (aR F.E.T (aBy t.σ t.sp.m h h') env l).1 ∧ hO (aBy t.σ t.sp.m h h') r y (aR F.E.T (aBy t.σ t.sp.m h h') env l).2) {c : Ctx} {a : Act} {w : World} {u : Value} (hs : Sim F.E F.M F.w0 F.nt F.ds c env h a w) (hu : ∀ p, mode = some p → cM w c.S p.t p.x u) :
  Leaves F.P fn a.tmps (fun e w' => ∃ v, e = .returned v ∧ fL nothing F.w0 w' ∧ aOM w' S F.w0.heap.size r y v) a.defers (m0 mode u) w := by
 have hroot := hs.good.root
 rw [hM] at hroot
 have hhd : ∀ i ∈ l2, c.hd i = roots i ∧ i < c.n := fun i hi => ⟨hroot.2 i (hk i hi), Nat.lt_of_lt_of_le (hk i hi) hroot.1⟩
 have hl2 : l2.map roots = l2.map c.hd := List.map_congr_left fun i hi => (hhd i hi).1.symm
 have hvb : ∀ i (h1 : i < (l2.map fun i => AV.ptr i []).length) (h2 : i < (l2.map roots).toArray.toList.length), aL c w (l2.map fun i => AV.ptr i [])[i] (l2.map roots).toArray.toList[i] := fun i h1 h2 => by
  have := aIX hs.good hbx (fun i hi => (hhd i hi).2) i h1 (by simpa using h2)
  simpa [hl2] using this
 rw [hs.defers, hds]
 refine leaves_cons (f := g) (args := (l2.map roots).toArray) ?_ ?_ ?_
 ·cases mode <;> simp [m0]
 ·have := xA (w := w) (args := (l2.map roots).toArray) hfn
  simpa [invoke] using this
 ·have hcall := aLa (C := aRV F.P g (l2.map roots).toArray (m0 mode u) (m1 mode u) w) (fun R R' h k => CallsD.mono h fun e u' w' q => ⟨q.1, k _ _ q.2⟩) (fun hp hin => hok _ _ _ _ _ hp hin hu) hs.good hs.glob (vs := l2.map fun i => AV.ptr i []) (xs := (l2.map roots).toArray) (by simp) hvb hh
  refine CallsD.mono hcall ?_
  rintro e u' w' ⟨rfl, cN, hl, hend⟩
  rw [hout] at hend
  obtain ⟨uv, rfl, hg, _⟩ := hend
  show Leaves F.P fn a.tmps _ [] (settle (m1 mode u)) w'
  rw [aPa]
  obtain ⟨us, q1, q2, q3⟩ := yN (P := F.P) hF.env.T hg (hs.env.keep hl) hr hy.1
  refine ⟨aB3 us, q1, aB3 us, rfl, by have := hg.keeps; rw [hM] at this; exact this, ?_⟩
  exact aQo (by rw [hM]) (by rw [hM]) hg q2 (fun i h1 h2 => q3 i h1 h2) hy.2
theorem aOC {F : Fr} {fn : Func} {S : Nat → Prop} {r : RK} {y : r.ty.den} {env : St} {h : List Obj} {k : Nat} {roots : Nat → Value} {g : FuncId} {l2 : List Nat} (hF : jP F) (hM : F.M = ⟨nothing, S, k, roots⟩) (hds : F.ds = [⟨.fn (.func g) (l2.map roots).toArray, #[]⟩]) (hk : ∀ i ∈ l2, i < k) (hbx : aCJ h l2 = true)
  (hfn : ∃ fn, F.P.funcs[g]? = some fn ∧ fn.name ≠ "runtime.NumGoroutine" ∧ fn.body.isSome = true) (t : Hit) (hok : DOK F.P F.E.G g none t.sp) {v : AV} {h' : List Obj} (hout : t.sp.out t.d = .ret v h')
  (l : List ResultVar) (hr : fn.results = l.toArray) (hh : aJl h (l2.map fun i => .ptr i []) t) (hy : (aR F.E.T (aBy t.σ t.sp.m h h') env l).1 ∧ hO (aBy t.σ t.sp.m h h') r y (aR F.E.T (aBy t.σ t.sp.m h h') env l).2) :
  At F (aOB F.P fn S F.w0 r y .ret) env h := fun c a w hs =>
 aMM (u := Go.undef) hF hM hds hk hbx hfn t hok hh hout l hr hy hs (fun p hp => by cases hp)
theorem aOD {F : Fr} {fn : Func} {S : Nat → Prop} {r : RK} {y : r.ty.den} {env : St} {h : List Obj} {k : Nat} {roots : Nat → Value} {g : FuncId} {l2 : List Nat} {p : Pan} (hF : jP F) (hM : F.M = ⟨nothing, S, k, roots⟩) (hds : F.ds = [⟨.fn (.func g) (l2.map roots).toArray, #[]⟩]) (hk : ∀ i ∈ l2, i < k) (hbx : aCJ h l2 = true)
  (hfn : ∃ fn, F.P.funcs[g]? = some fn ∧ fn.name ≠ "runtime.NumGoroutine" ∧ fn.body.isSome = true) (t : Hit) (hok : DOK F.P F.E.G g (some p) t.sp) {v : AV} {h' : List Obj} (hout : t.sp.out t.d = .ret v h')
  (l : List ResultVar) (hr : fn.results = l.toArray) (hh : aJl h (l2.map fun i => .ptr i []) t) (hy : (aR F.E.T (aBy t.σ t.sp.m h h') env l).1 ∧ hO (aBy t.σ t.sp.m h h') r y (aR F.E.T (aBy t.σ t.sp.m h h') env l).2) :
  AtP F (aOB F.P fn S F.w0 r y) p env h := fun c a w u hs hu =>
 aMM hF hM hds hk hbx hfn t hok hh hout l hr hy hs (fun q hq => by cases hq; exact hu)
theorem aDM {F : Fr} {Q : Exit → Act → World → Prop} {env : St} {h : List Obj} {id : Nat} {ops : Array Oper} {y : Code} {g : FuncId} {t : Nat} {caps : Array Operand} {ty1 ty2 : TypeId} {pos1 pos2 : String} {aft1 aft2 : Array Edge} (k : Nat) (l2 : List Nat)
  (hops : ops = #[⟨some t, .makeFunc (.func g) #[] caps, ty1, pos1, aft1, none⟩, ⟨none, .defer ⟨.value (.tmp t), #[], #[]⟩, ty2, pos2, aft2, none⟩])
  (htags : allTags h (caps.toList.map (evA F.E.G env)) = some l2) (hm : F.M.m ≤ k) (hk : k ≤ h.length)
  (hy : ∀ roots : Nat → Value, (∀ i, i < F.M.m → roots i = F.M.roots i) → Tri { F with M := ⟨F.M.wr, F.M.rd, k, roots⟩, ds := ⟨.fn (.func g) (l2.map roots).toArray, #[]⟩ :: F.ds } y Q ((t, .junk) :: env) h) : Tri F (.seq (.region id ops false) y) Q env h := fun hok c a w hs => by
 simp only [fD, Bool.and_eq_true] at hok
 obtain ⟨⟨⟨hok1, _⟩, _⟩, hok2⟩ := hok
 subst hops
 have hall := List.all_eq_true.1 hok1
 have hk1 := hall ⟨some t, .makeFunc (.func g) #[] caps, ty1, pos1, aft1, none⟩ (by simp)
 simp only [eK, Bool.and_eq_true] at hk1
 have hops1 : ∀ x ∈ (Op.makeFunc (.func g) #[] caps).operands, jC x = true := Array.all_eq_true_iff_forall_mem.1 hk1.1
 have htn : t < a.tmps.size := by
  have := hk1.2
  rw [hs.size]
  simpa using this
 obtain ⟨hlt, hcv⟩ := aE2 hs.good htags (vs := caps.toList.map a.eval) (by simp) (fun i h1 h2 => by
  simp only [List.getElem_map]
  exact yF hs.env hs.glob (hops1 _ (by simp [Op.operands])))
 have hcv' : caps.map a.eval = (l2.map c.hd).toArray := by rw [← Array.toList_inj]; simpa using hcv
 refine wp_seq (wp_region ?_)
 have hy' := hy c.hd (fun i hi => hs.good.root.2 i hi)
 have hgood : Good ⟨F.M.wr, F.M.rd, k, c.hd⟩ F.w0 c h w := ⟨hs.good.n, hs.good.keeps, hs.good.sfin, hs.good.src, hs.good.objs, hs.good.own, hs.good.sep, by rw [hs.good.n]; exact hk, fun _ _ => rfl⟩
 have hfin := hy' hok2 c { (a.put (some t) (.func (.func g) #[] (l2.map c.hd).toArray)) with defers := ⟨.fn (.func g) (l2.map c.hd).toArray, #[]⟩ :: a.defers } w ⟨hgood, hs.glob, by
  have := hs.env.put (d := t) (v := .junk) (x := .func (.func g) #[] (l2.map c.hd).toArray) htn trivial
  exact this, by simpa [Act.put] using hs.size, by simp [hs.defers]⟩
 have run1 : (execOp a.eval ⟨some t, .makeFunc (.func g) #[] caps, ty1, pos1, aft1, none⟩).run F.P w = .ok (.value (.func (.func g) #[] (l2.map c.hd).toArray)) w := by
  simp [execOp, Instr.makeFunc, hcv']
 have hget : (a.put (some t) (.func (.func g) #[] (l2.map c.hd).toArray)).eval (.tmp t) = .func (.func g) #[] (l2.map c.hd).toArray := by
  simp [Act.eval, Act.put, htn]
 have run2 : (execOp (a.put (some t) (.func (.func g) #[] (l2.map c.hd).toArray)).eval ⟨none, .defer ⟨.value (.tmp t), #[], #[]⟩, ty2, pos2, aft2, none⟩).run F.P w = .ok (.defer ⟨.fn (.func g) (l2.map c.hd).toArray, #[]⟩) w := by
  simp [execOp, resolve, Deferred.ofValue, hget]
 show wpOps F.P _ _ [0, 1] a w
 have w1 : ∀ (o : Oper) (y : Nat → Option Bool), o.guard = none → Region.wanted o y = true := fun o y h => by simp [Region.wanted, h]
 unfold wpOps
 simp only [List.getElem?_toArray, List.getElem?_cons_zero]
 rw [if_pos (w1 _ _ rfl)]
 refine .inl ?_
 unfold Oper.wp
 rw [run1, Oper.upon_value]
 unfold wpOps
 simp only [List.getElem?_toArray, List.getElem?_cons_succ, List.getElem?_cons_zero]
 rw [if_pos (w1 _ _ rfl)]
 refine .inl ?_
 unfold Oper.wp
 rw [run2, Oper.upon_defer]
 exact hfin
theorem aBz {ops : Array Oper} {cs : List Frame} {Q : Exit → Act → List Frame → World → Prop} (hQ : ¬ LetsOut fun e a w => Q e a cs w) : ∀ (l : List Nat) (a : Act) (w : World), wpOps P ops (fun e a w => Q e a cs w) l a w → wpOpsS P ops Q l a cs w
 | [], a, w, hh => hh
 | i :: rest, a, w, hh => by
  unfold wpOps at hh
  unfold wpOpsS
  cases ho : ops[i]? with
  | none => simp only [ho] at hh ⊢; exact aBz hQ rest a w hh
  | some o =>
   simp only [ho] at hh ⊢
   split
   ·rename_i hw
    simp only [hw, if_true] at hh
    have hh := Oper.wp_mono (fun a w => aBz hQ rest a w) (hh.resolve_right fun q => hQ q.2)
    unfold Oper.wp at hh
    revert hh
    generalize (execOp a.eval o).run P w = r
    intro hh
    split
    ·exact hh.elim
    ·exact hh
   ·rename_i hw
    simp only [hw, if_false] at hh
    exact aBz hQ rest _ w hh
def aQp : Option Pan → AV
 | none => .val .nili ()
 | some p => .val (.ifc p.k p.t) p.x
theorem aQq {g : FuncId} {fn : Func} {rest : Code} {id : Nat} {ops : Array Oper} {sp : oD} {mode : Option Pan} {t5 : Nat} {ty : TypeId} {pos : String} {aft : Array Edge} (hE : eM P E) (hf : P.funcs[g]? = some fn) (hb : fn.body = some (.seq (.region id ops false) rest)) (hok : fD fn.ntmps (.seq (.region id ops false) rest) = true) (hn : ∀ d, (sp.av d).length ≤ fn.ntmps)
  (h0 : ops[0]? = some ⟨some t5, .call ⟨.builtin .recover, #[], #[]⟩, ty, pos, aft, none⟩)
  (ht : ∀ (c : Ctx) (w : World) (d : sp.D), AV.wfL (sp.av d) → Obj.wfL (sp.hp d) → sp.pre d → c.n = (sp.hp d).length →
   oZ E ops.toList (ops.toList.drop 1) ((t5, aQp mode) :: aNB (sp.av d) 0) (sp.hp d) (fun env h => Tri ⟨P, E, GM sp c d, w, fn.ntmps, []⟩ rest (bodyPost P fn (aFf sp c w d)) env h)) : DOK P E.G g mode sp := by
 intro c w d vs u hp hin hu
 refine callsD_of_wpS hf hb fun c₀ cs hc₀ => ?_
 have hok' := hok
 simp only [fD, Bool.and_eq_true] at hok'
 obtain ⟨⟨⟨hok1, _⟩, _⟩, hok2⟩ := hok'
 refine wpS_seq (wpS_region ?_)
 have hsz : 0 < ops.size := by
  rcases Nat.lt_or_ge 0 ops.size with h | h
  ·exact h
  ·rw [Array.getElem?_eq_none h] at h0; cases h0
 obtain ⟨n, hn'⟩ : ∃ n, ops.size = n + 1 := ⟨ops.size - 1, by omega⟩
 have hrange : List.range ops.size = 0 :: List.range' 1 n := by rw [hn', List.range_eq_range', List.range'_succ]
 rw [hrange]
 unfold wpOpsS
 have w1 : ∀ (o : Oper) (y : Nat → Option Bool), o.guard = none → Region.wanted o y = true := fun o y h => by simp [Region.wanted, h]
 simp only [h0]
 rw [if_pos (w1 _ _ rfl)]
 have hrun : ∀ ρ, (execOp ρ ⟨some t5, .call ⟨.builtin .recover, #[], #[]⟩, ty, pos, aft, none⟩).run P w = .ok .recover w := fun ρ => by
  simp [execOp, resolve, invoke, builtin]
 rw [hrun]
 have key : ∀ v, aL c w (aQp mode) v → wpOpsS P ops (Exit.thenS (rest.wpS P (bodyPostS P fn c₀ cs fun e u' w' => u' = m1 mode u ∧ aFf sp c w d e w')) (bodyPostS P fn c₀ cs fun e u' w' => u' = m1 mode u ∧ aFf sp c w d e w')) (List.range' 1 n) (({ tmps := vs ++ Array.replicate (fn.ntmps - vs.size) undef, defers := [] } : Act).put (some t5) v) ({ c₀ with mode := m1 mode u } :: cs) w := fun v hv => by
  refine aBz ?_ _ _ _ ?_
  ·rintro ⟨a', w', u', _, e⟩
   obtain ⟨c', e⟩ := e
   split at e <;> (obtain ⟨_, e, _⟩ := e; cases e)
  ·have hsim : Sim E (GM sp c d) w fn.ntmps [] c ((t5, aQp mode) :: aNB (sp.av d) 0) (sp.hp d) (({ tmps := vs ++ Array.replicate (fn.ntmps - vs.size) undef, defers := [] } : Act).put (some t5) v) w := by
    have hlen := hin.len
    have hnn := hn d
    simp at hlen
    have hsz2 : (vs ++ Array.replicate (fn.ntmps - vs.size) undef).size = fn.ntmps := by simp; omega
    have ht5 : t5 < fn.ntmps := by
     have h0' : ops.toList[0]? = some ⟨some t5, .call ⟨.builtin .recover, #[], #[]⟩, ty, pos, aft, none⟩ := by simpa using h0
     have := List.all_eq_true.1 hok1 _ (List.mem_of_getElem? h0')
     simp only [eK, Bool.and_eq_true] at this
     simpa using this.2
    refine ⟨hin.good, hin.glob, ?_, by simpa [Act.put] using hsz2, rfl⟩
    refine aCg.put (a := { tmps := vs ++ Array.replicate (fn.ntmps - vs.size) undef, defers := [] }) ?_ (by rw [hsz2]; exact ht5) hv
    refine aLK _ vs.toList 0 hin.len hin.val fun i v hv => ?_
    have hlt : i < vs.size := by
     rcases Nat.lt_or_ge i vs.size with hh | hh
     ·exact hh
     ·rw [List.getElem?_eq_none (by simpa using hh)] at hv; cases hv
    simp only [Nat.zero_add]
    have : vs[i]? = some v := by rw [← Array.getElem?_toList]; exact hv
    simp [Array.getElem?_append, hlt]
    rw [Array.getElem?_eq_getElem hlt] at this
    simpa using this
   have := aFb (P := P) (ops := ops.toList) (Q := fun e a w' => Exit.thenS (rest.wpS P (bodyPostS P fn c₀ cs fun e u' w' => u' = m1 mode u ∧ aFf sp c w d e w')) (bodyPostS P fn c₀ cs fun e u' w' => u' = m1 mode u ∧ aFf sp c w d e w') e a ({ c₀ with mode := m1 mode u } :: cs) w') hE (List.all_eq_true.1 hok1) (fun env h c' a w' hk hs => by
    refine wpS_of_wp (wp_mono (hk hok2 c' a w' hs) fun e a w' hq => ?_)
    cases e with
    | normal => obtain ⟨q1, v, q2, q3⟩ := hq; exact ⟨q1, _, rfl, v, q2, rfl, q3⟩
    | ret => obtain ⟨q1, v, q2, q3⟩ := hq; exact ⟨q1, _, rfl, v, q2, rfl, q3⟩
    | panic ch => obtain ⟨q1, q3⟩ := hq; exact ⟨q1, _, rfl, rfl, q3⟩
    | outgrown => exact ⟨_, rfl, hq⟩
    | exit id => exact hq.elim
    | goto l => exact hq.elim) n 1 (by simp; omega) _ _ c _ w (ht c w d (aLL hin.len hin.val) (aOx hin.good) hp hin.good.n) hsim
   simpa using this
 cases mode with
 | none =>
  have e : c₀.mode = .returning := hc₀
  have e2 : ({ c₀ with mode := .returning } : Frame) = c₀ := by rw [← e]
  have := key .nilIface (aL.ofV (by unfold cM; rw [if_neg (by simp [Ty.isAgg])]; exact rfl))
  simp only [m1, e2] at this
  simpa [recoverD, e, m1] using this
 | some p =>
  have e : c₀.mode = .panicking (aKo p.k u) := hc₀
  have := key (.iface p.k u) (aL.ofV (by
   unfold cM
   rw [if_neg (by simp [Ty.isAgg])]
   have hr := hu p rfl
   unfold cM at hr
   split at hr
   ·rename_i ha
    obtain ⟨ds, e1, e2⟩ := hr
    exact ⟨u, ds.toList, rfl, fun _ => by simpa using e1, (fun h => by rw [ha] at h; cases h), e2⟩
   ·rename_i ha
    exact ⟨u, [u], rfl, fun h => absurd h ha, fun _ => rfl, hr⟩))
  simp only [m1] at this
  simpa [recoverD, e, aKo, m1] using this
end
end Go.Vc
namespace Go.Vc
open Go.RowKit
def ck {α : Type} (p : Prop) [Decidable p] (k : Option α) : Option α := if p then k else none
theorem aT {α : Type} {p : Prop} [Decidable p] {k : Option α} {r : α} (h : ck p k = some r) : p ∧ k = some r := by
 unfold ck at h
 split at h
 ·rename_i hp; exact ⟨hp, h⟩
 ·cases h
theorem hP {α : Type} {p : Prop} [Decidable p] {x y : α} {r : α} (hp : p) (h : (if p then x else y) = r) : x = r := by rwa [if_pos hp] at h
theorem hU {α : Type} {p : Prop} [Decidable p] {x y : α} {r : α} (hp : ¬ p) (h : (if p then x else y) = r) : y = r := by rwa [if_neg hp] at h
abbrev I64 (x : Int) : Prop := -9223372036854775808 ≤ x ∧ x ≤ 9223372036854775807
abbrev I32 (x : Int) : Prop := -2147483648 ≤ x ∧ x ≤ 2147483647
section
variable {D E R : Type} {step : D → Option (D ⊕ E)}
def iter (step : D → Option (D ⊕ E)) : Nat → D → Option E
 | 0, _ => none
 | n + 1, d => match step d with
  | none => none
  | some (.inl d') => iter step n d'
  | some (.inr e) => some e
theorem aGy : ∀ {n : Nat} {d : D} {e : E}, iter step n d = some e → iter step (n + 1) d = some e
 | 0, d, e, h => by cases h
 | n + 1, d, e, h => by
  unfold iter at h ⊢
  cases hs : step d with
  | none => rw [hs] at h; cases h
  | some s =>
   rw [hs] at h
   cases s with
   | inl d' => exact aGy (n := n) h
   | inr e' => exact h
theorem aOE {n m : Nat} (hm : n ≤ m) {d : D} {e : E} (h : iter step n d = some e) : iter step m d = some e := by
 induction hm with
 | refl => exact h
 | step _ ih => exact aGy ih
theorem aLb {n m : Nat} {d : D} {e e' : E} (h : iter step n d = some e) (h' : iter step m d = some e') : e = e' := by
 have h1 := aOE (Nat.le_max_left n m) h
 have h2 := aOE (Nat.le_max_right n m) h'
 rw [h1] at h2; exact Option.some.inj h2
open Classical in
noncomputable def aLc (step : D → Option (D ⊕ E)) (d : D) : Option E := if h : ∃ e, ∃ n, iter step n d = some e then some (Classical.choose h) else none
theorem aLd {d : D} {e : E} : aLc step d = some e ↔ ∃ n, iter step n d = some e := by
 unfold aLc
 constructor
 ·intro h
  split at h
  ·rename_i hx
   have := Classical.choose_spec hx
   rw [Option.some.inj h] at this; exact this
  ·cases h
 ·rintro ⟨n, h⟩
  have hx : ∃ e, ∃ n, iter step n d = some e := ⟨e, n, h⟩
  rw [dif_pos hx]
  obtain ⟨m, hm⟩ := Classical.choose_spec hx
  rw [aLb hm h]
theorem aJq {n : Nat} {d : D} {e : E} (h : iter step n d = some e) : aLc step d = some e := aLd.2 ⟨n, h⟩
theorem aCT {p : Nat → Prop} (h : ∃ n, p n) : ∃ n, p n ∧ ∀ m, p m → n ≤ m := by
 classical
 obtain ⟨n, hn⟩ := h
 induction n using Nat.strongRecOn with
 | _ n ih =>
  by_cases hh : ∃ m, m < n ∧ p m
  ·obtain ⟨m, hm, hp⟩ := hh; exact ih m hm hp
  ·exact ⟨n, hn, fun m hm => Nat.le_of_not_lt fun hlt => hh ⟨m, hlt, hm⟩⟩
open Classical in
noncomputable def aBA (step : D → Option (D ⊕ E)) (d : D) : Nat := if h : ∃ n, (iter step n d).isSome = true then Classical.choose (aCT h) else 0
theorem aOF {d : D} {e : E} (h : aLc step d = some e) : iter step (aBA step d) d = some e ∧ ∀ m e', iter step m d = some e' → aBA step d ≤ m := by
 obtain ⟨n, hn⟩ := aLd.1 h
 have hx : ∃ n, (iter step n d).isSome = true := ⟨n, by rw [hn]; rfl⟩
 have hs := Classical.choose_spec (aCT hx)
 have e1 : aBA step d = Classical.choose (aCT hx) := by unfold aBA; rw [dif_pos hx]
 rw [← e1] at hs
 refine ⟨?_, fun m e' hm => hs.2 m (by rw [hm]; rfl)⟩
 cases hi : iter step (aBA step d) d with
 | none => have := hs.1; rw [hi] at this; cases this
 | some e' => rw [aLb hi hn]
abbrev Md := Option Nat
noncomputable def dM (F : Md) (step : D → Option (D ⊕ E)) (d : D) : Option E := match F with
 | none => aLc step d
 | some n => iter step n d
theorem aRv {F : Md} {d : D} {e : E} (h : dM F step d = some e) : aLc step d = some e := by
 cases F with
 | none => exact h
 | some n => exact aJq h
def uC (A : D → Prop) (B : E → Prop) : D ⊕ E → Prop
 | .inl d => A d
 | .inr e => B e
theorem aJr {k : E → Option R} {r : R} {F : Md} {d : D} (hd : (dM F step d).bind k = some r) : ∃ s, step d = some s ∧ uC (fun d' => (dM F step d').bind k = some r ∧ aBA step d' < aBA step d) (fun e => k e = some r) s := by
 cases hl : dM F step d with
 | none => rw [hl] at hd; cases hd
 | some e =>
  rw [hl] at hd
  have hk : k e = some r := hd
  obtain ⟨hi, hmin⟩ := aOF (aRv hl)
  cases hn : aBA step d with
  | zero => rw [hn] at hi; cases hi
  | succ n =>
   rw [hn, iter] at hi
   split at hi
   ·cases hi
   ·rename_i d' hs
    have hz := aJq hi
    have hl' : dM F step d' = some e := by
     cases F with
     | none => exact hz
     | some m =>
      have hm : iter step m d = some e := hl
      cases m with
      | zero => cases hm
      | succ m =>
       rw [iter, hs] at hm
       exact aGy hm
    refine ⟨_, hs, ?_⟩
    refine ⟨by rw [hl']; exact hk, ?_⟩
    have := (aOF hz).2 n e hi
    show aBA step d' < n + 1
    omega
   ·rename_i e' hs
    refine ⟨_, hs, ?_⟩
    rw [Option.some.inj hi]; exact hk
end
noncomputable def vZ (F : Md) (k : IntKind) (a b : Nat) : Nat := match F with
 | none => aPu k a b
 | some _ => (a + (gC k - b)) % gC k
noncomputable def mulM (F : Md) (k : IntKind) (a b : Nat) : Nat := match F with
 | none => aPv k a b
 | some _ => (a * b) % gC k
noncomputable def aNC (F : Md) (k : IntKind) (a : Nat) : Nat := match F with
 | none => aPw k a
 | some _ => (0 + (gC k - a)) % gC k
theorem aRw {F : Md} {k : IntKind} {a b : Nat} : vZ F k a b = aPu k a b := by
 cases F with
 | none => rfl
 | some _ => exact (aLp k a b).symm
theorem aRx {F : Md} {k : IntKind} {a b : Nat} : mulM F k a b = aPv k a b := by
 cases F with
 | none => rfl
 | some _ => exact (aN0 k a b).symm
theorem aRy {F : Md} {k : IntKind} {a : Nat} : aNC F k a = aPw k a := by
 cases F with
 | none => rfl
 | some _ => exact (aN2 k a).symm
theorem cF (F : Md) {k : IntKind} {a b : Nat} : aPu k a b = vZ F k a b := aRw.symm
theorem cG (F : Md) {k : IntKind} {a b : Nat} : aPv k a b = mulM F k a b := aRx.symm
theorem cH (F : Md) {k : IntKind} {a : Nat} : aPw k a = aNC F k a := aRy.symm
def oO (h : List Obj) : List (Nat ⊕ Obj) → List Obj
 | [] => []
 | .inl i :: r => h.getD i .dead :: oO h r
 | .inr o :: r => o :: oO h r
section
variable {F : Fr} {Q : Exit → Act → World → Prop} {env : St} {h : List Obj}
theorem lT {x y : Code} {D : Type} (J : D → Prop) (keep : List Nat) (uE : D → St) (uO : D → List (Nat ⊕ Obj))
  (hx : Tri F x (Exit.then (fun a' w' => ∃ d' c', J d' ∧ Sim F.E F.M F.w0 F.nt F.ds c' (aEk env keep (uE d')) (oO h (uO d')) a' w') Q) env h)
  (hy : ∀ d, J d → Tri F y Q (aEk env keep (uE d)) (oO h (uO d))) : Tri F (.seq x y) Q env h :=
 aMy J (fun d => aEk env keep (uE d)) (fun d => oO h (uO d)) hx hy
theorem uS {x : Code} {D E R : Type} {G : Md} {step : D → Option (D ⊕ E)} {k : E → Option R} {r : R} {d0 : D} (keep : List Nat) (uE : D → St) (uO : D → List (Nat ⊕ Obj))
  (hd : (dM G step d0).bind k = some r) (hh : h = oO h (uO d0)) (hf : kR h env (aEk env keep (uE d0)))
  (round : ∀ d s, step d = some s → uC (fun d' => (dM G step d').bind k = some r ∧ aBA step d' < aBA step d) (fun e => k e = some r) s → Tri F x (Exit.then (fun a' w' => ∃ d' c', ((dM G step d').bind k = some r ∧ aBA step d' < aBA step d) ∧ Sim F.E F.M F.w0 F.nt F.ds c' (aEk env keep (uE d')) (oO h (uO d')) a' w') Q) (aEk env keep (uE d)) (oO h (uO d))) : Tri F (.loop x) Q env h :=
 aMx (fun d => (dM G step d).bind k = some r) (aBA step) (fun d => aEk env keep (uE d)) (fun d => oO h (uO d)) (aS d0 hd hh hf) fun d hi => by
  obtain ⟨s, h1, h2⟩ := aJr hi
  exact round d s h1 h2
end
theorem aLe {F : Fr} {Q : Exit → Act → World → Prop} {env : St} {h : List Obj} {id : Nat} {ops : Array Oper} {t0 t3 t4 : Nat} {tt ty0 ty1 ty2 : TypeId} {pos1 pos2 : String} {aft1 aft2 : Array Edge} {ct : Ty} {xs : List ct.den} (hF : jP F)
  (hops : ops = #[⟨some t3, .move (.tmp t0), ty1, pos1, aft1, none⟩, ⟨some t4, .binOp .eql tt (.tmp t3) (.const (.slice none 0 0)) ty0, ty2, pos2, aft2, none⟩])
  (hT : F.E.T tt = some (.sl ct)) (hv : look env t0 = .val (.sl ct) xs)
  (hq : ∀ b : Bool, (b = true → xs = []) → At F (Q .normal) ((t4, .val .bool b) :: (t3, .val (.sl ct) xs) :: env) h) : Tri F (.region id ops false) Q env h := fun hok c a w hs => by
 simp only [fD, Bool.and_eq_true] at hok
 obtain ⟨⟨hok1, _⟩, _⟩ := hok
 subst hops
 have hall := List.all_eq_true.1 hok1
 have hk1 := hall ⟨some t3, .move (.tmp t0), ty1, pos1, aft1, none⟩ (by simp)
 have hk2 := hall ⟨some t4, .binOp .eql tt (.tmp t3) (.const (.slice none 0 0)) ty0, ty2, pos2, aft2, none⟩ (by simp)
 have h0 := hs.env t0
 rw [hv] at h0
 obtain ⟨⟨ad, len, cap, e1, e2⟩, _, e3⟩ := h0
 have hval : a.tmps.getD t0 Go.undef = .slice ad len cap := by
  have e3 := e3 rfl
  revert e1 e3
  generalize a.tmps.getD t0 Go.undef = sv
  intro e1 e3
  cases sv <;> simp [Value.cells] at e1 e3 <;> simp [e1]
 have h0 := hs.env t0
 rw [hv] at h0
 have s1 := hs.after hk1 (v := a.tmps.getD t0 Go.undef) (av := .val (.sl ct) xs) ⟨.refl _ _, hs.good, h0⟩
 have ht3 : t3 < a.tmps.size := by
  simp only [eK, Bool.and_eq_true] at hk1
  rw [hs.size]; simpa using hk1.2
 have s2 := s1.after hk2 (v := .bool ad.isNone) (av := .val .bool ad.isNone) ⟨.refl _ _, s1.good, sQ _⟩
 refine wp_region ?_
 have run1 : (execOp a.eval ⟨some t3, .move (.tmp t0), ty1, pos1, aft1, none⟩).run F.P w = .ok (.value (a.tmps.getD t0 Go.undef)) w := by
  simp [execOp, Act.eval]
 have hget : (a.put (some t3) (a.tmps.getD t0 Go.undef)).eval (.tmp t3) = .slice ad len cap := by
  rw [hval]; simp [Act.eval, Act.put, ht3]
 obtain ⟨_, hd, _⟩ := dT (hF.env.T _ _ hT)
 have run2 : (execOp (a.put (some t3) (a.tmps.getD t0 Go.undef)).eval ⟨some t4, .binOp .eql tt (.tmp t3) (.const (.slice none 0 0)) ty0, ty2, pos2, aft2, none⟩).run F.P w = .ok (.value (.bool ad.isNone)) w := by
  have hc : (a.put (some t3) (a.tmps.getD t0 Go.undef)).eval (.const (.slice none 0 0)) = .slice none 0 0 := rfl
  have hq : ∀ d, (Op.equalIn (d + 1) tt (.slice ad len cap) (.slice none 0 0)).run F.P w = .ok ad.isNone w := fun d => by
   unfold Op.equalIn
   rw [Sem.run_bind, aM hd]
   cases ad <;> rfl
  have hb : (binOp .eql tt (.slice ad len cap) (.slice none 0 0)).run F.P w = .ok (.bool ad.isNone) w := by
   have e : binOp .eql tt (.slice ad len cap) (.slice none 0 0) = (do pure (.bool (← Op.equal tt (.slice ad len cap) (.slice none 0 0)))) := by unfold binOp; rfl
   rw [e, Sem.run_bind, Op.equal, show Op.maxDepth = (Op.maxDepth - 1) + 1 from rfl, hq]
   rfl
  have hg : (eqGuard .eql tt (.tmp t3) (.const (.slice none 0 0)) (.slice ad len cap) (.slice none 0 0)).run F.P w = .ok () w := by
   unfold eqGuard; rfl
  generalize hρ : (a.put (some t3) (a.tmps.getD t0 Go.undef)).eval = ρ at hget hc ⊢
  simp only [execOp, hget, hc]
  simp [hb, hg]
 have w1 : ∀ (o : Oper) (y : Nat → Option Bool), o.guard = none → Region.wanted o y = true := fun o y h => by simp [Region.wanted, h]
 show wpOps F.P _ _ [0, 1] a w
 unfold wpOps
 simp only [List.getElem?_toArray, List.getElem?_cons_zero]
 rw [if_pos (w1 _ _ rfl)]
 refine .inl ?_
 unfold Oper.wp
 rw [run1, Oper.upon_value]
 unfold wpOps
 simp only [List.getElem?_toArray, List.getElem?_cons_succ, List.getElem?_cons_zero]
 rw [if_pos (w1 _ _ rfl)]
 refine .inl ?_
 unfold Oper.wp
 rw [run2, Oper.upon_value]
 refine hq ad.isNone (fun hn => ?_) c _ w s2
 obtain ⟨_, _, _, e4⟩ := e2
 rcases e4 with e4 | ⟨b, off, e4, _⟩
 ·exact e4
 ·rw [e4] at hn; cases hn
theorem fC {F : Fr} {fn : Func} {S : Nat → Prop} {r : RK} {y : r.ty.den} {env : St} {h : List Obj} (hF : jP F) (l : List ResultVar) (hM : F.M = top S) (hds : F.ds = []) (hr : fn.results = l.toArray) (hy : (aR F.E.T h env l).1 ∧ hO h r y (aR F.E.T h env l).2) : At F (post F.P fn S F.w0 r y .ret) env h := fun c a w hs => by
 obtain ⟨us, q1, q2, q3⟩ := yN (P := F.P) hF.env.T hs.good hs.env hr hy.1
 refine ⟨hs.defers.trans hds, aB3 us, q1, aB3 us, rfl, by have := hs.good.keeps; rw [hM] at this; exact this, ?_⟩
 exact aQo (by rw [hM]) (by rw [hM]) hs.good q2 (fun i h1 h2 => q3 i h1 h2) hy.2
def aJs (i : Nat) (t : Ty) (x : t.den) : AV → AV
 | .ptr j [] => if j = i then .roa t x else .ptr j []
 | .ptr j p => if j = i then .junk else .ptr j p
 | .agg _ => .junk
 | .tup _ => .junk
 | .fn f l1 l2 => if l1.contains i || l2.contains i then .junk else .fn f l1 l2
 | v => v
theorem Good.shut {M : Perm} {w0 : World} {c : Ctx} {h : List Obj} {w : World} (hg : Good M w0 c h w) {i n : Nat} {t : Ty} {x : t.den} (ho : h[i]? = some (.box n (.val t x))) :
  ∃ c', cO c w c' w ∧ c'.n = c.n ∧ Good M w0 c' (h.set i .dead) w ∧ ∀ v, aL c w (.ptr i []) v → aL c' w (.roa t x) v := by
 have hob := hg.objs i _ ho
 have hle : c.le (c.more (aK (c.hd i))) := ⟨fun b hb => .inl hb, Nat.le_refl _, fun _ _ => rfl⟩
 have hl : cO c w (c.more (aK (c.hd i))) w := ⟨hle, .refl _ _⟩
 have hil : i < h.length := iA ho
 have hcase : ∀ j oj, (h.set i .dead)[j]? = some oj → (j ≠ i ∧ h[j]? = some oj) ∨ (j = i ∧ oj = .dead) := fun j oj hj => by
  by_cases e : i = j
  ·subst e; simp [hil] at hj; exact .inr ⟨rfl, hj.symm⟩
  ·rw [List.getElem?_set_ne e] at hj; exact .inl ⟨fun h => e h.symm, hj⟩
 refine ⟨_, hl, rfl, ⟨by simp [Ctx.more, hg.n], hg.keeps, fun b hb => ?_, fun b hb hlt => ?_, fun j oj hj => ?_, fun j oj b hj hb => ?_, fun j k oj ok b hj hk hbj hbk => ?_, sO hg.root hle⟩, fun v hv => ?_⟩
 ·rcases hb with hb | hb
  ·exact hg.sfin b hb
  ·exact (hg.own i _ b ho hb).2.1
 ·rcases hb with hb | hb
  ·exact hg.src b hb hlt
  ·rcases (hg.own i _ b ho hb).1 with h1 | h1
   ·omega
   ·exact .inr h1
 ·rcases hcase j oj hj with ⟨hne, hj⟩ | ⟨rfl, rfl⟩
  ·exact (hg.objs j oj hj).keep hl (by rw [hg.n]; exact iA hj) rfl (fun _ _ => rfl)
  ·trivial
 ·rcases hcase j oj hj with ⟨hne, hj⟩ | ⟨rfl, rfl⟩
  ·obtain ⟨h1, h2, h3⟩ := hg.own j oj b hj (by cases oj <;> exact hb)
   refine ⟨h1, h2, fun hS => ?_⟩
   rcases hS with hS | hS
   ·exact h3 hS
   ·exact hne (hg.sep j i oj _ b hj ho (by cases oj <;> exact hb) hS)
  ·cases hb
 ·rcases hcase j oj hj with ⟨hnj, hj⟩ | ⟨rfl, rfl⟩
  ·rcases hcase k ok hk with ⟨hnk, hk⟩ | ⟨rfl, rfl⟩
   ·exact hg.sep j k oj ok b hj hk (by cases oj <;> exact hbj) (by cases ok <;> exact hbk)
   ·cases hbk
  ·cases hbj
 ·obtain ⟨b, cells, e, h1, h2, h3, h4⟩ := hob
  obtain ⟨⟨_, b', hb', e1⟩, _, e3⟩ := hv
  have e3 := e3 rfl
  rw [h1] at hb'
  simp only [aK, Option.some.injEq] at hb'
  subst hb'
  have ev : v = .pointer (some ⟨b, 0, none⟩) := by
   cases v <;> simp [Value.cells, jB] at e1 e3 <;> simp [e1]
  rw [ev]
  have h4 : aN w c.S t x cells.toList := h4
  refine aBl (ds := cells.toList) (.inr (by rw [h1]; rfl)) (aN.keep (fun b hb => .inl hb) (.refl _ _) _ _ _ h4) fun j u hj => ?_
  simp only [Nat.zero_add]
  unfold World.cell?
  simp only [h2]
  simpa using hj
theorem aRz {F : Fr} {K : Act → World → Prop} {env : St} {h : List Obj} (i : Nat) {n : Nat} {t : Ty} {x : t.den} (ho : h[i]? = some (.box n (.val t x))) (hk : At F K (env.map fun p => (p.1, aJs i t x p.2)) (h.set i .dead)) : At F K env h := fun c a w hs => by
 obtain ⟨c', hl, hn, hg, hv⟩ := hs.good.shut ho
 refine hk c' a w ⟨hg, hs.glob.mono hl.le.S hl.same, fun s => ?_, hs.size, hs.defers⟩
 rw [aCS (aJs i t x) rfl]
 have h0 := hs.env s
 generalize look env s = v at h0
 generalize a.tmps.getD s Go.undef = u at h0
 cases v with
 | ptr j p =>
  cases p with
  | nil =>
   simp only [aJs]
   split
   ·rename_i e; subst e; exact hv u h0
   ·exact hl.val h0
  | cons _ _ =>
   simp only [aJs]
   split
   ·trivial
   ·exact hl.val h0
 | fn f l1 l2 =>
  simp only [aJs]
  split
  ·trivial
  ·exact hl.val h0
 | agg vs => trivial
 | tup vs => trivial
 | _ => exact hl.val h0
theorem wA {F : Fr} {x : Code} {Q : Exit → Act → World → Prop} {env : St} {h : List Obj} (i : Nat) {n : Nat} {t : Ty} {y : t.den} (ho : h[i]? = some (.box n (.val t y))) (hk : Tri F x Q (env.map fun p => (p.1, aJs i t y p.2)) (h.set i .dead)) : Tri F x Q env h := fun hok => aRz i ho (hk hok)
def mSpec (a : Ty) (r : RK) (m : a.den → Option r.ty.den) : aG := ⟨a, r, fun x => (m x).isSome = true, fun x => (m x).getD r.ty.zero⟩
section
variable {P : Program} {E : Env}
theorem lU {f : FuncId} {fn : Func} {body : Code} {a : Ty} {r : RK} {m : a.den → Option r.ty.den} (hE : eM P E) (hf : P.funcs[f]? = some fn) (hb : fn.body = some body) (hok : fD fn.ntmps body = true) (hn : aHd a ≤ fn.ntmps)
  (ht : ∀ (w0 : World) (S : Nat → Prop) (x : a.den) (y : r.ty.den), a.wf x → m x = some y → Tri (fr P E S w0 fn.ntmps) body (post P fn S w0 r y) (bL a x 0) []) : FOK P E.G f (mSpec a r m) :=
 aNt hE hf hb hok hn fun w0 S x hw hp => by
  have hp : (m x).isSome = true := hp
  obtain ⟨y, hy⟩ := Option.isSome_iff_exists.1 hp
  have e : (mSpec a r m).fn x = y := by show (m x).getD r.ty.zero = y; rw [hy]; rfl
  rw [e]
  exact ht w0 S x y hw hy
theorem aPb {G : Nat → AV} {f : FuncId} {a : Ty} {r : RK} {m : a.den → Option r.ty.den} {pre : a.den → Prop} {fn : a.den → r.ty.den} (h : FOK P G f (mSpec a r m)) (hc : ∀ x, a.wf x → pre x → m x = some (fn x)) : FOK P G f ⟨a, r, pre, fn⟩ := fun w S vs x hS hG ha hp => by
 have hm := hc x (aE9 _ _ _ ha) hp
 have := h w S vs x hS hG ha (by show (m x).isSome = true; rw [hm]; rfl)
 have e : (mSpec a r m).fn x = fn x := by show (m x).getD r.ty.zero = fn x; rw [hm]; rfl
 rw [e] at this
 exact this
end
attribute [go_sem] oO aJs
end Go.Vc
namespace Go.Vc
open Go.RowKit
def aQr : List (FuncId × Hit) → FuncId → List AV → List Obj → Option Hit
 | [], _, _, _ => none
 | (k, t) :: r, f, vs, h => if k = f then some t else aQr r f vs h
structure aGz (P : Program) (G : Nat → AV) (l : List (FuncId × Hit)) : Prop where
 ok : ∀ p ∈ l, GOK P G p.1 p.2.sp ∧ fnB P p.1 = true
theorem aGz.nil {P : Program} {G : Nat → AV} : aGz P G [] := ⟨fun p hp => by cases hp⟩
theorem aGz.cons {P : Program} {G : Nat → AV} {l : List (FuncId × Hit)} {f : FuncId} {t : Hit} (h : GOK P G f t.sp) (hf : fnB P f = true) (hl : aGz P G l) : aGz P G ((f, t) :: l) := by
 refine ⟨fun p hp => ?_⟩
 rcases List.mem_cons.1 hp with rfl | hp
 ·exact ⟨h, hf⟩
 ·exact hl.ok p hp
theorem aJt : ∀ {l : List (FuncId × Hit)} {f : FuncId} {vs : List AV} {h : List Obj} {t : Hit}, aQr l f vs h = some t → (f, t) ∈ l
 | (k, s) :: r, f, vs, h, t, e => by
  simp only [aQr] at e
  split at e
  ·rename_i ek; subst ek; cases e; exact List.mem_cons_self
  ·exact List.mem_cons_of_mem _ (aJt e)
theorem aFi {P : Program} {f : FuncId} (h : fnB P f = true) : ∃ fn, P.funcs[f]? = some fn ∧ fn.name ≠ "runtime.NumGoroutine" ∧ fn.body.isSome = true := by
 unfold fnB at h
 split at h
 ·rename_i fn hf
  simp only [Bool.and_eq_true, decide_eq_true_eq] at h
  exact ⟨fn, hf, h⟩
 ·cases h
theorem eC {P : Program} {G : Nat → AV} {l : List (FuncId × Hit)} (h : aGz P G l) : aEn P G (aQr l) :=
 ⟨fun f vs hh t e => (h.ok _ (aJt e)).1, fun f vs hh t e => aFi (h.ok _ (aJt e)).2⟩
theorem bind_some {α β : Type} {x : Option α} {k : α → Option β} {r : β} (h : x.bind k = some r) : ∃ e, x = some e ∧ k e = some r := by
 cases x with
 | none => cases h
 | some e => exact ⟨e, rfl, h⟩
def rpV : AV → AV
 | .val (.rp t) x => .roa t x
 | v => v
theorem aSl {c : Ctx} {w : World} {v : AV} {x : Value} (hv : aL c w v x) : aL c w (rpV v) x := by
 cases v with
 | val t y =>
  cases t with
  | rp t =>
   obtain ⟨⟨b, off, ds, e, hb, hd, hc⟩, _, h3⟩ := hv
   have h3 := h3 rfl
   have ex : x = .pointer (some ⟨b, off, none⟩) := by
    cases x <;> simp [Value.cells] at e h3 <;> simp [e]
   rw [ex]
   exact aBl hb hd hc
  | _ => exact hv
 | _ => exact hv
section
variable {P : Program} {E : Env}
theorem yO {f : FuncId} {fn : Func} {body : Code} {sp : oD} (hE : eM P E) (hf : P.funcs[f]? = some fn) (hb : fn.body = some body) (hok : fD fn.ntmps body = true) (hn : ∀ d, (sp.av d).length ≤ fn.ntmps)
  (ht : ∀ (c : Ctx) (w : World) (d : sp.D), AV.wfL (sp.av d) → Obj.wfL (sp.hp d) → sp.pre d → c.n = (sp.hp d).length → Tri ⟨P, E, GM sp c d, w, fn.ntmps, []⟩ body (bodyPost P fn (aFf sp c w d)) (aNB ((sp.av d).map rpV) 0) (sp.hp d)) : GOK P E.G f sp := by
 intro c w d vs hp hin
 refine calls_of_wp hf hb ?_
 refine ht c w d (aLL hin.len hin.val) (aOx hin.good) hp hin.good.n hok c _ w ⟨hin.good, hin.glob, ?_, ?_, rfl⟩
 ·refine aLK _ vs.toList 0 (by rw [List.length_map]; exact hin.len) (fun i h1 h2 => ?_) fun i v hv => ?_
  ·rw [List.getElem_map]; exact aSl (hin.val i (by simpa using h1) h2)
  ·have hlt : i < vs.size := by
    rcases Nat.lt_or_ge i vs.size with hh | hh
    ·exact hh
    ·rw [List.getElem?_eq_none (by simpa using hh)] at hv; cases hv
   simp only [Nat.zero_add]
   have : vs[i]? = some v := by rw [← Array.getElem?_toList]; exact hv
   simp [Array.getElem?_append, hlt]
   rw [Array.getElem?_eq_getElem hlt] at this
   simpa using this
 ·have h1 := hin.len
  have h2 := hn d
  simp at h1
  simp
  omega
end
section
variable {P : Program} {E : Env} {M : Perm} {w0 : World} {nt : Nat} {ds : List Deferred} {h : List Obj} {env : St}
theorem aRA (hE : eM P E) {sb : List Nat} {Δ : FuncId → List AV → List Obj → Option Hit} (hΔ : aEn P E.G Δ) {ops : List Oper} {Q : Exit → Act → World → Prop} (hok : ∀ o ∈ ops, eK nt o = true) {K : St → List Obj → Prop} {Kp : Pan → St → List Obj → Prop}
  (hKp : ∀ p env h c a w u, Kp p env h → Sim E M w0 nt ds c env h a w → cM w c.S p.t p.x u → Q (.panic (aKo p.k u)) a w) {i : Nat} (hil : i < ops.length) {env : St} {h : List Obj} {c : Ctx} {a : Act} {w : World} (hs : aCj E Δ sb ops (ops.drop i) env h K Kp) (hsim : Sim E M w0 nt ds c env h a w)
  {Kn : Act → World → Prop} (hn : ∀ env' h' c' a' w', aCj E Δ sb ops (ops.drop (i + 1)) env' h' K Kp → Sim E M w0 nt ds c' env' h' a' w' → Kn a' w') : wpOp P ops.toArray Q i Kn a w := by
 rw [List.drop_eq_getElem_cons hil] at hs
 have hokO := hok ops[i] (List.getElem_mem hil)
 have hput : ∀ (v : Value) (av : AV), aL c w av v → Sim E M w0 nt ds c (qH ops[i].dst av env) h (a.put ops[i].dst v) w := fun v av hv => hsim.after hokO ⟨.refl _ _, hsim.good, hv⟩
 unfold wpOp
 simp only [List.getElem?_toArray, List.getElem?_eq_getElem hil]
 have hrun : aJm E Δ sb env h ops[i] (fun v h' => aCj E Δ sb ops (ops.drop (i + 1)) (qH ops[i].dst v env) h' K Kp) (fun p h' => Kp p env h') → Region.wanted ops[i] (yielded ops.toArray a.tmps) = true → (if Region.wanted ops[i] (yielded ops.toArray a.tmps) = true then Oper.wp P ops[i] a w Kn Q ∨ (ops[i].asks P a w ∧ LetsOut Q) else Kn (a.put ops[i].dst Go.undef) w) := fun h1 hw => by
  rw [if_pos hw]
  left
  refine aMK hE hΔ hsim hokO h1 (fun v h' c' u w' hk ha => hn _ _ c' _ w' hk (hsim.after hokO ha)) (fun p h' c' u w' hk hl hg hr => hKp p env h' c' a w' u hk (hsim.step hl hg) hr)
 have hskip : aCj E Δ sb ops (ops.drop (i + 1)) (qH ops[i].dst .undef env) h K Kp → Region.wanted ops[i] (yielded ops.toArray a.tmps) = false → (if Region.wanted ops[i] (yielded ops.toArray a.tmps) = true then Oper.wp P ops[i] a w Kn Q ∨ (ops[i].asks P a w ∧ LetsOut Q) else Kn (a.put ops[i].dst Go.undef) w) := fun h2 hw => by
  rw [if_neg (by rw [hw]; simp)]
  exact hn _ _ c _ w h2 (hput _ _ rfl)
 simp only [aCj] at hs
 cases hgd : ops[i].guard with
 | none =>
  rw [hgd] at hs
  exact hrun hs (by simp [Region.wanted, hgd])
 | some jp =>
  obtain ⟨j, pol⟩ := jp
  rw [hgd] at hs
  simp only at hs
  cases hdj : aDK ops j with
  | none => rw [hdj] at hs; exact hs.elim
  | some dj =>
   rw [hdj] at hs
   simp only at hs
   have hv := hsim.env dj
   split at hs
   ·rename_i b hb
    rw [hb] at hv
    have hb' := aAJ hv
    have hy := rW hok hsim.size hdj hb'
    simp only [yb] at hy
    by_cases e : b = pol
    ·exact hrun (hs.1 e) (by simp [Region.wanted, hgd, hy, e])
    ·have e' : b = !pol := by cases b <;> cases pol <;> simp_all
     exact hskip (hs.2 e') (by simp [Region.wanted, hgd, hy, e])
   ·rename_i hb
    rw [hb] at hv
    have hy := rW hok hsim.size hdj (v := Go.undef) hv
    exact hskip hs (by simp [Region.wanted, hgd, hy, Go.undef, yb])
   ·exact hs.elim
theorem aLf (hE : eM P E) {sb : List Nat} {Δ : FuncId → List AV → List Obj → Option Hit} (hΔ : aEn P E.G Δ) {ops : List Oper} {Q : Exit → Act → World → Prop} (hok : ∀ o ∈ ops, eK nt o = true) {K : St → List Obj → Prop} {Kp : Pan → St → List Obj → Prop} (hK : ∀ env h c a w, K env h → Sim E M w0 nt ds c env h a w → Q .normal a w)
  (hKp : ∀ p env h c a w u, Kp p env h → Sim E M w0 nt ds c env h a w → cM w c.S p.t p.x u → Q (.panic (aKo p.k u)) a w) {n : Nat} (ht : aDL n ops = true) :
  ∀ (m i : Nat), i + m = ops.length → n ≤ i → ∀ (listed : Array Bool), listed.size = ops.length → (∀ k, k < ops.length → (listed.getD k false = true ↔ k < i)) → ∀ (env : St) (h : List Obj) (c : Ctx) (a : Act) (w : World), aCj E Δ sb ops (ops.drop i) env h K Kp → Sim E M w0 nt ds c env h a w → wpAny P .any ops.toArray Q m listed a w
 | 0, i, hi, hni, listed, hsz, hl, env, h, c, a, w, hs, hsim => by
  rw [List.drop_eq_nil_of_le (by omega)] at hs
  refine ⟨?_, hK env h c a w hs hsim⟩
  rw [List.eq_nil_iff_forall_not_mem]
  intro j hj
  obtain ⟨h1, o, ho, _⟩ := mem_ready.1 hj
  have ho : ops[j]? = some o := by simpa using ho
  have hjl := gD.get_lt' ho
  have := (hl j hjl).2 (by omega)
  have hlt : j < listed.size := by omega
  simp [hlt] at h1 this
  rw [this] at h1; cases h1
 | m + 1, i, hi, hni, listed, hsz, hl, env, h, c, a, w, hs, hsim => by
  have hil : i < ops.length := by omega
  have hio : ops[i]? = some ops[i] := List.getElem?_eq_getElem hil
  refine ⟨fun hr => ?_, fun j hj => ?_⟩
  ·exfalso
   have hmem : i ∈ Region.ready .any ops.toArray listed := by
    rw [mem_ready]
    have hlt : i < listed.size := by omega
    have hun : ¬ listed.getD i false = true := fun h => by have := (hl i hil).1 h; omega
    refine ⟨by simp [hlt] at hun ⊢; exact hun, ops[i], by simp [hil], fun e he hb => ?_⟩
    exact (hl _ (by have := (gD ht hio).1 e he hb; omega)).2 ((gD ht hio).1 e he hb)
   rw [hr] at hmem; cases hmem
  ·obtain ⟨h1, o, ho, hall⟩ := mem_ready.1 hj
   have ho : ops[j]? = some o := by simpa using ho
   have hjl := gD.get_lt' ho
   have hji : j = i := by
    rcases Nat.lt_trichotomy j i with hlt | heq | hgt
    ·have := (hl j hjl).2 hlt
     have hlt : j < listed.size := by omega
     simp [hlt] at h1 this
     rw [this] at h1; cases h1
    ·exact heq
    ·have := (gD ht ho).2 (by omega) (fun k => k < ops.length → listed.getD k false = true) (fun k o' ho' hk e he hb => fun hlt => by
      have hkl := gD.get_lt' ho'
      have h3 := (gD ht ho').1 e he hb
      have := (hl k hkl).1 (hk hkl)
      exact (hl _ hlt).2 (by omega)) (fun e he hb _ => hall e he hb) i hgt hil
     have := (hl i hil).1 this
     omega
   subst hji
   refine aRA hE hΔ hok hKp hil hs hsim fun env' h' c' a' w' hs' hsim' => ?_
   refine aLf hE hΔ hok hK hKp ht m (j + 1) (by omega) (by omega) (listed.setIfInBounds j true) (by simp [hsz]) (fun k hk => ?_) env' h' c' a' w' hs' hsim'
   by_cases e : j = k
   ·subst e
    have : j < listed.size := by omega
    simp [this]
   ·rw [getD_set_ne false e, hl k hk]
    omega
def aEp (ops : List Oper) (done : List Nat) : List Nat := (List.range ops.length).filter fun i => !done.contains i && (match ops[i]? with
 | some o => o.after.toList.all fun e => !Region.binds .any e || done.contains e.on
 | none => false)
def anyS (E : Env) (ops : List Oper) (K : St → List Obj → Prop) : Nat → List Nat → St → List Obj → Prop
 | 0, _, env, h => K env h
 | n + 1, done, env, h => ∀ i, i ∈ aEp ops done → match ops[i]? with
  | some o => o.guard = none ∧ (match qG E env h o with
   | (p, v, h') => p ∧ anyS E ops K n (i :: done) (qH o.dst v env) h')
  | none => False
def aLg (ops : List Oper) : Bool := ops.zipIdx.all fun p => p.1.after.toList.all fun e => !Region.binds .any e || decide (e.on < p.2)
theorem aFj : ∀ {l m : List Nat}, l.Nodup → (∀ x ∈ l, x ∈ m) → l.length ≤ m.length ∧ (l.length = m.length → ∀ x ∈ m, x ∈ l)
 | [], m, _, _ => ⟨by simp, fun h x hx => by
  have : m = [] := List.eq_nil_of_length_eq_zero (by simpa using h.symm)
  rw [this] at hx; cases hx⟩
 | a :: l, m, hn, hs => by
  have ha : a ∈ m := hs a (by simp)
  have hn' := List.nodup_cons.1 hn
  have hlen := List.length_erase_of_mem ha
  have hpos : 0 < m.length := List.length_pos_of_mem ha
  have rec_ := aFj (l := l) (m := m.erase a) hn'.2 (fun x hx => by
   have hne : x ≠ a := fun e => hn'.1 (e ▸ hx)
   exact (List.mem_erase_of_ne hne).2 (hs x (by simp [hx])))
  refine ⟨by simp only [List.length_cons]; omega, fun h x hx => ?_⟩
  by_cases e : x = a
  ·subst e; simp
  ·have := rec_.2 (by simp only [List.length_cons] at h; omega) x ((List.mem_erase_of_ne e).2 hx)
   simp [this]
theorem aOG (hE : eM P E) {ops : List Oper} {Q : Exit → Act → World → Prop} (hok : ∀ o ∈ ops, eK nt o = true) {K : St → List Obj → Prop} (hK : ∀ env h c a w, K env h → Sim E M w0 nt ds c env h a w → Q .normal a w) (hb : aLg ops = true) :
  ∀ (n : Nat) (done : List Nat) (listed : Array Bool), listed.size = ops.length → (∀ k, k < ops.length → (listed.getD k false = true ↔ k ∈ done)) → done.length + n = ops.length → done.Nodup → (∀ k ∈ done, k < ops.length) → ∀ (env : St) (h : List Obj) (c : Ctx) (a : Act) (w : World), anyS E ops K n done env h → Sim E M w0 nt ds c env h a w → wpAny P .any ops.toArray Q n listed a w
 | 0, done, listed, hsz, hl, hn, hd, hlt, env, h, c, a, w, hs, hsim => by
  refine ⟨?_, hK env h c a w hs hsim⟩
  rw [List.eq_nil_iff_forall_not_mem]
  intro j hj
  obtain ⟨h1, o, ho, _⟩ := mem_ready.1 hj
  have ho : ops[j]? = some o := by simpa using ho
  have hjl := gD.get_lt' ho
  have hall : j ∈ done := by
   exact (aFj hd (m := List.range ops.length) (fun k hk => List.mem_range.2 (hlt k hk))).2 (by simp; omega) j (List.mem_range.2 hjl)
  have := (hl j hjl).2 hall
  have hlt' : j < listed.size := by omega
  simp [hlt'] at h1 this
  rw [this] at h1; cases h1
 | n + 1, done, listed, hsz, hl, hn, hd, hlt, env, h, c, a, w, hs, hsim => by
  have hrd : ∀ j, j ∈ Region.ready .any ops.toArray listed → j ∈ aEp ops done ∧ j ∉ done ∧ j < ops.length := fun j hj => by
   obtain ⟨h1, o, ho, hall⟩ := mem_ready.1 hj
   have ho : ops[j]? = some o := by simpa using ho
   have hjl := gD.get_lt' ho
   have hlt' : j < listed.size := by omega
   have hnd : j ∉ done := fun hm => by
    have := (hl j hjl).2 hm
    simp [hlt'] at h1 this
    rw [this] at h1; cases h1
   refine ⟨?_, hnd, hjl⟩
   simp only [aEp, List.mem_filter, List.mem_range, ho, Bool.and_eq_true, Bool.not_eq_true', List.contains_eq_mem, decide_eq_false_iff_not, List.all_eq_true, Bool.or_eq_true, decide_eq_true_eq]
   refine ⟨hjl, hnd, fun e he => ?_⟩
   cases hbe : Region.binds .any e with
   | false => exact .inl rfl
   | true =>
    right
    have h5 := hall e (by simpa using he) hbe
    rcases Nat.lt_or_ge e.on ops.length with hh | hh
    ·exact (hl _ hh).1 h5
    ·simp [show ¬ e.on < listed.size by omega] at h5
  refine ⟨fun hr => ?_, fun j hj => ?_⟩
  ·exfalso
   have hex : ∃ k, (k < ops.length ∧ k ∉ done) ∧ ∀ j, j < k → ¬ (j < ops.length ∧ j ∉ done) := by
    have hex : ∃ k, k < ops.length ∧ k ∉ done := by
     apply Classical.byContradiction
     intro hc
     have hsub : List.range ops.length ⊆ done := fun k hk => Classical.byContradiction fun hk2 => hc ⟨k, List.mem_range.1 hk, hk2⟩
     have := (aFj (List.nodup_range (n := ops.length)) (fun k hk => hsub hk)).1
     simp at this
     omega
    obtain ⟨n, h1, h2⟩ := aCT hex
    exact ⟨n, h1, fun j hj hp => by have := h2 j hp; omega⟩
   obtain ⟨k, ⟨hk, hkd⟩, hlow⟩ := hex
   have hmem : k ∈ Region.ready .any ops.toArray listed := by
    rw [mem_ready]
    have hlt' : k < listed.size := by omega
    have hun : ¬ listed.getD k false = true := fun h => hkd ((hl k hk).1 h)
    refine ⟨by simp [hlt'] at hun ⊢; exact hun, ops[k], by simp [hk], fun e he hbe => ?_⟩
    have hbk := List.all_eq_true.1 hb (ops[k], k) (by rw [List.mem_zipIdx_iff_getElem?]; exact List.getElem?_eq_getElem hk)
    have hbk := List.all_eq_true.1 hbk e (Array.mem_toList_iff.2 he)
    rw [hbe] at hbk
    simp at hbk
    have hne := hlow e.on hbk
    exact (hl _ (by omega)).2 (Classical.byContradiction fun hd => hne ⟨by omega, hd⟩)
   rw [hr] at hmem; cases hmem
  ·obtain ⟨r1, r2, r3⟩ := hrd j hj
   have hs := hs j r1
   have hjo : ops[j]? = some ops[j] := List.getElem?_eq_getElem r3
   rw [hjo] at hs
   obtain ⟨hg, hp, hrest⟩ := hs
   have hokO := hok ops[j] (List.getElem_mem r3)
   have hw : Region.wanted ops[j] (yielded ops.toArray a.tmps) = true := by simp [Region.wanted, hg]
   unfold wpOp
   simp only [List.getElem?_toArray, hjo]
   rw [if_pos hw]
   left
   refine (aDu hE hsim hokO hp).wp fun v w' c' ha => ?_
   refine aOG hE hok hK hb n (j :: done) (listed.setIfInBounds j true) (by simp [hsz]) (fun k hk => ?_) (by simp; omega) (List.nodup_cons.2 ⟨r2, hd⟩) (fun k hk => ?_) _ _ c' _ w' hrest (hsim.after hokO ha)
   ·by_cases e : j = k
    ·subst e
     have : j < listed.size := by omega
     simp [this]
    ·rw [getD_set_ne false e, hl k hk]
     constructor
     ·intro h; exact List.mem_cons_of_mem _ h
     ·intro h; exact (List.mem_cons.1 h).resolve_left (fun e' => e e'.symm)
   ·rcases List.mem_cons.1 hk with rfl | hk
    ·exact r3
    ·exact hlt k hk
theorem aHf {F : Fr} {Q : Exit → Act → World → Prop} {env : St} {h : List Obj} (hF : jP F) {id : Nat} {ops : Array Oper} (keep : List Nat) (env' : St) (h' : List Obj) (hb : aLg ops.toList = true)
  (hv : anyS F.E ops.toList (fun e o => keep.map (fun t => (t, look e t)) = env' ∧ o = h') ops.toList.length [] env h) (hk : At F (Q .normal) env' h') : Tri F (.region id ops true) Q env h := fun hok c a w hs => by
 simp only [fD, Bool.and_eq_true, Bool.or_eq_true, Bool.not_eq_true'] at hok
 obtain ⟨⟨h1, h2⟩, h3⟩ := hok
 refine wp_region_any hF.mix ?_
 have hlat : cO c w c { w with drawn := w.drawn + 1 } := ⟨.refl _, fun b hb => rfl⟩
 have hdr : Sim F.E F.M F.w0 F.nt F.ds c env h a { w with drawn := w.drawn + 1 } :=
  ⟨hs.good.step hlat rfl rfl ⟨rfl, rfl, rfl, Nat.le_refl _, fun _ _ _ => rfl⟩ (fun _ _ _ _ _ => rfl) hs.good.sfin (fun _ hb => .inl hb), mI.mono (w := w) (w' := { w with drawn := w.drawn + 1 }) (fun _ hb => hb) hlat.same hs.glob, hs.env.keep hlat, hs.size, hs.defers⟩
 have := aOG (Q := Q) hF.env (List.all_eq_true.1 h1) (K := fun e o => keep.map (fun t => (t, look e t)) = env' ∧ o = h') (fun e o c a w hkk hs => by
  obtain ⟨rfl, rfl⟩ := hkk
  exact hk c a w (hs.keep keep)) hb ops.toList.length [] (Array.replicate ops.size false) (by simp) (fun k hk => by rw [rX]; simp) (by simp) List.nodup_nil (fun k hk => by cases hk) env h c a _ hv hdr
 simpa using this
def aQs (F : Fr) (Δ : FuncId → List AV → List Obj → Option Hit) (Q : Exit → Act → World → Prop) (keep sb : List Nat) (all pre tail : List Oper) (env : St) (h : List Obj) (acc : List Ent) : Prop :=
 aCj F.E Δ sb all tail (mJ F.E.T (eO pre 0) (jX acc env) h).1 (mJ F.E.T (eO pre 0) (jX acc env) h).2 (fun env h => At F (Q .normal) (keep.map fun t => (t, look env t)) h) (fun p env h => AtP F Q p env h)
theorem aFk {F : Fr} {Q : Exit → Act → World → Prop} {env : St} {h : List Obj} (hF : jP F) {Δ : FuncId → List AV → List Obj → Option Hit} (hΔ : aEn F.P F.E.G Δ) {id : Nat} {ops : Array Oper} (n : Nat) (hst : (aI5 (ops.toList.take n) && zU (ops.toList.take n) && aDL (ops.toList.take n).length ops.toList) = true) (keep sb : List Nat)
  (hv : vcA F.E h env (ops.toList.take n) 0 [] (aQs F Δ Q keep sb ops.toList (ops.toList.take n) (ops.toList.drop n) env h)) : Tri F (.region id ops true) Q env h := fun hok c a w hs => by
 simp only [fD, Bool.and_eq_true, Bool.or_eq_true, Bool.not_eq_true'] at hok
 obtain ⟨⟨h1, h2⟩, h3⟩ := hok
 simp only [Bool.and_eq_true] at hst
 obtain ⟨⟨t1, t2⟩, t3⟩ := hst
 have e : ops.toList.take n ++ ops.toList.drop n = ops.toList := List.take_append_drop n ops.toList
 have := aK4 (id := id) (pre := ops.toList.take n) (tail := ops.toList.drop n) (Q := Q) hF.env hF.mix (by rw [e]; exact List.all_eq_true.1 h1) t2 t1 (by rw [e]; exact t3) hs (K' := fun env h => aCj F.E Δ sb ops.toList (ops.toList.drop n) env h (fun env h => At F (Q .normal) (keep.map fun t => (t, look env t)) h) (fun p env h => AtP F Q p env h)) hv
  (fun env h c a w listed hsz hl hk hsim => by
   rw [e] at hsz hl ⊢
   exact aLf (K := fun env h => At F (Q .normal) (keep.map fun t => (t, look env t)) h) (Kp := fun p env h => AtP F Q p env h) hF.env hΔ (List.all_eq_true.1 h1) (fun env h c a w hk hs => hk c a w (hs.keep keep)) (fun p env h c a w u hk hs hr => hk c a w u hs hr) t3 (ops.toList.drop n).length (ops.toList.take n).length (by rw [← List.length_append, e]) (Nat.le_refl _) listed hsz hl env h c a w (by
    have e2 : ops.toList.drop (ops.toList.take n).length = ops.toList.drop n := by
     rw [List.length_take]
     rcases Nat.lt_or_ge n ops.toList.length with hh | hh
     ·rw [Nat.min_eq_left (Nat.le_of_lt hh)]
     ·rw [Nat.min_eq_right hh, List.drop_eq_nil_of_le (Nat.le_refl _), List.drop_eq_nil_of_le hh]
    rw [e2]; exact hk) hsim)
 rw [e] at this
 simpa using this
theorem aJu {f : FuncId} {fn : Func} {body : Code} {a : Ty} {r : RK} {m : a.den → Option r.ty.den} (hE : eM P E) (hf : P.funcs[f]? = some fn) (hb : fn.body = some body) (hok : fD fn.ntmps body = true) (hn : aHd a ≤ fn.ntmps)
  (ht : ∀ (w0 : World) (S : Nat → Prop) (x : a.den) (y : r.ty.den), a.wf x → m x = some y → Tri (fr P E S w0 fn.ntmps) body (aOB P fn S w0 r y) (bL a x 0) []) : FOK P E.G f (mSpec a r m) :=
 aRu hE hf hb hok hn fun w0 S x hw hp => by
  have hp : (m x).isSome = true := hp
  obtain ⟨y, hy⟩ := Option.isSome_iff_exists.1 hp
  have e : (mSpec a r m).fn x = y := by show (m x).getD r.ty.zero = y; rw [hy]; rfl
  rw [e]
  exact ht w0 S x y hw hy
def aND : AV → Bool
 | .val _ _ => true
 | .tup vs => vs.all fun v => match v with | .val _ _ => true | _ => false
 | _ => false
theorem aPc {c : Ctx} {w : World} {σ : List Nat} {v : AV} {x : Value} (hp : aND v = true) (hv : aL c w v x) : aL (c.ren σ) w v x := by
 cases v with
 | val t y => exact aFc (σ := σ) hv
 | tup vs =>
  obtain ⟨xs, e, hl, hi⟩ := hv
  refine ⟨xs, e, hl, fun i h1 h2 => ?_⟩
  have hq := List.all_eq_true.1 hp vs[i] (List.getElem_mem h1)
  have := hi i h1 h2
  revert hq this
  generalize vs[i] = u
  intro hq this
  cases u <;> first | exact this | (simp at hq; done)
 | _ => simp [aND] at hp
theorem aAR {F : Fr} {fn : Func} {sp : oD} {c0 : Ctx} {d : sp.D} {env : St} {h h' : List Obj} {v : AV} (hF : jP F) (l : List ResultVar) (σ : List Nat) (hM : F.M = GM sp c0 d) (hds : F.ds = []) (hr : fn.results = l.toArray) (hnd : nodupB σ = true) (hpr : preB F.M.m σ = true) (hout : sp.out d = .ret v h') (hh : (σ.map fun i => kA σ (h.getD i .dead)) = h') (hfl : (match v with | .tup vs => vs.all aQm | _ => true) = true) (hpl : aND v = true) (hy : (aR F.E.T h env l).1 ∧ aFg h v (aR F.E.T h env l).2) :
  At F (bodyPost F.P fn (aFf sp c0 F.w0 d) .ret) env h := fun c a w hs => by
 subst hh
 obtain ⟨us, q1, q2, q3⟩ := yN (P := F.P) hF.env.T hs.good hs.env hr hy.1
 refine ⟨hs.defers.trans hds, aB3 us, q1, c.ren σ, ?_⟩
 rw [hout]
 refine ⟨aB3 us, rfl, by rw [← hM]; exact hs.good.ren hnd hpr, aPc hpl ?_⟩
 have hy2 := hy.2
 generalize (aR F.E.T h env l).2 = rs at q2 q3 hy2
 cases v with
 | tup vs =>
  obtain ⟨h1, h2⟩ := hy2
  obtain ⟨k1, k2⟩ := aLM hs.good h2 q2 q3
  refine ⟨us, ?_, k1, fun i p1 p2 => ?_⟩
  ·match us, q2 with
   | [], _ => rfl
   | [x], q2 => exact absurd q2.symm h1
   | a :: b :: r, _ => rfl
  ·have hfi := List.all_eq_true.1 hfl vs[i] (List.getElem_mem p1)
   exact aOy (k2 i p1 p2).1 (k2 i p1 p2).2 (fun l e => by rw [e] at hfi; cases hfi) (fun e => by rw [e] at hfi; cases hfi)
 | _ =>
  match rs, hy2 with
  | [u], hy2 =>
   match us, q2 with
   | [x], _ => exact aIF hs.good hy2 (q3 0 (by simp) (by simp))
theorem aIH {F : Fr} {fn : Func} {R : Ending → World → Prop} {env : St} {h : List Obj} (hk : At F (bodyPost F.P fn R .ret) env h) : At F (bodyPost F.P fn R .normal) env h := hk
end
attribute [go_sem] aQr rpV
end Go.Vc
namespace Go.Vc
open Go.RowKit
theorem aQt (n : Nat) : ((no_index (OfNat.ofNat n) : Nat) : Int) = OfNat.ofNat n := rfl
def sat {α : Type} (o : Option α) (Θ : α → Prop) : Prop := ∃ x, o = some x ∧ Θ x
section
variable {α β : Type} {p : Prop} [Decidable p] {k x y : Option α} {Θ : α → Prop} {a : α}
theorem aJ (h : sat (ck p k) Θ) : p ∧ sat k Θ := by
 obtain ⟨z, h1, h2⟩ := h
 obtain ⟨hp, hk⟩ := aT h1
 exact ⟨hp, z, hk, h2⟩
theorem iU (hp : p) (h : sat (if p then x else y) Θ) : sat x Θ := by rwa [if_pos hp] at h
theorem iV (hp : ¬ p) (h : sat (if p then x else y) Θ) : sat y Θ := by rwa [if_neg hp] at h
theorem aP {G : Prop} (h : sat (ck p k) Θ) (hg : p → sat k Θ → G) : p ∧ G := ⟨(aJ h).1, hg (aJ h).1 (aJ h).2⟩
theorem dR {G1 G2 : Prop} (h : sat (if p then x else y) Θ) (h1 : p → sat x Θ → G1) (h2 : ¬ p → sat y Θ → G2) : (p → G1) ∧ (¬ p → G2) := ⟨fun c => h1 c (iU c h), fun c => h2 c (iV c h)⟩
theorem eE {G1 G2 : Prop} {m n : Int} (h : sat (if m < n then x else y) Θ) (h1 : m < n → sat x Θ → G1) (h2 : n ≤ m → sat y Θ → G2) : (m < n → G1) ∧ (n ≤ m → G2) := ⟨fun c => h1 c (iU c h), fun c => h2 c (iV (Int.not_lt.2 c) h)⟩
theorem aNE {G1 G2 : Prop} {m n : Int} (h : sat (if m ≤ n then x else y) Θ) (h1 : m ≤ n → sat x Θ → G1) (h2 : n < m → sat y Θ → G2) : (m ≤ n → G1) ∧ (n < m → G2) := ⟨fun c => h1 c (iU c h), fun c => h2 c (iV (Int.not_le.2 c) h)⟩
theorem aHg {G1 G2 : Prop} {b : Bool} (h : sat (if b = true then x else y) Θ) (h1 : b = true → sat x Θ → G1) (h2 : ¬ b = true → sat y Θ → G2) : (b = true → G1) ∧ (¬ b = true → G2) := dR h h1 h2
theorem aAt {G1 G2 : Prop} {b : Bool} (h : sat (if ¬ b = true then x else y) Θ) (h1 : b = false → sat x Θ → G1) (h2 : ¬ b = false → sat y Θ → G2) : (b = false → G1) ∧ (¬ b = false → G2) :=
 ⟨fun c => h1 c (iU (by rw [c]; decide) h), fun c => h2 c (iV (fun n => c (by simpa using n)) h)⟩
theorem aA (h : sat (some a) Θ) : Θ a := by
 obtain ⟨z, h1, h2⟩ := h
 cases h1; exact h2
theorem aAS {P : Prop} (h : sat none Θ) : P := by
 obtain ⟨z, h1, h2⟩ := h
 cases h1
theorem aI {o : Option β} {f : β → Option α} (h : sat (o.bind f) Θ) : ∃ z, o = some z ∧ sat (f z) Θ := by
 obtain ⟨r, h1, h2⟩ := h
 cases o with
 | none => cases h1
 | some z => exact ⟨z, rfl, r, h1, h2⟩
end
inductive Pl where
 | A (keep : List Nat)
 | B (keep : List Nat)
 | C (n : Nat) (keep : List Nat)
 | stop
structure PlR where
 reg : List (Nat × Pl)
 stops : List (Nat × Nat)
def aRB : List (Nat × Pl) → Nat → Pl
 | [], _ => .stop
 | (i, p) :: r, id => match decide (i = id) with
  | true => p
  | false => aRB r id
def first : Code → Nat
 | .region id _ _ => id + 3
 | .seq x _ => first x
 | .block _ x => first x
 | .loop x => first x
 | .scope x => first x
 | .skip => 1
 | .label _ => 1
 | .ret => 0
 | _ => 2
def aMN : List (Nat × Nat) → Code → Code → Bool
 | [], _, _ => false
 | (a, b) :: r, x, y => match decide (a = first x) with
  | true => match decide (b = first y) with
   | true => true
   | false => aMN r x y
  | false => aMN r x y
def aSm (V : St → List Obj → Prop) (K : Exit → St → List Obj → Prop) : Exit → St → List Obj → Prop := fun e env h => match e with
 | .normal => V env h
 | e => K e env h
def aRC (id : Nat) (K : Exit → St → List Obj → Prop) : Exit → St → List Obj → Prop := fun e env h => match e with
 | .normal => K .normal env h
 | .exit j => match decide (j = id) with
  | true => K .normal env h
  | false => K (.exit j) env h
 | .ret => K .ret env h
 | _ => False
def aSv (K : Exit → St → List Obj → Prop) : Exit → St → List Obj → Prop := fun e env h => match e with
 | .normal => K .normal env h
 | .exit j => K (.exit j) env h
 | .ret => K .ret env h
 | _ => False
def vcC (F : Fr) (p : PlR) : Code → (Exit → St → List Obj → Prop) → (Exit → Act → World → Prop) → St → List Obj → Prop
 | .skip, K, _, env, h => K .normal env h
 | .label _, K, _, env, h => K .normal env h
 | .exit id, K, _, env, h => K (.exit id) env h
 | .ret, K, _, env, h => K .ret env h
 | .seq x y, K, Q, env, h => match aMN p.stops x y with
  | true => Tri F (.seq x y) Q env h
  | false => vcC F p x (aSm (vcC F p y K Q) K) (Exit.then (Next F y Q) Q) env h
 | .cond o x y, K, Q, env, h => match evA F.E.G env o with
  | .val .bool b => (b = true → vcC F p x K Q env h) ∧ (¬ b = true → vcC F p y K Q env h)
  | _ => False
 | .block id x, K, Q, env, h => vcC F p x (aRC id K) (Exit.inBlock id Q) env h
 | .scope x, K, Q, env, h => vcC F p x (aSv K) (Exit.noGoto Q) env h
 | .region id ops draw, K, Q, env, h => match aRB p.reg id with
  | .A keep => vcA F.E h env ops.toList 0 [] (fun acc => K .normal (aHS keep acc env) h)
  | .B keep => draw = false ∧ oZ F.E ops.toList ops.toList env h (fun env h => K .normal (keep.map fun t => (t, look env t)) h)
  | .C n keep => (draw = true ∧ (aI5 (ops.toList.take n) && zU (ops.toList.take n) && aDL (ops.toList.take n).length ops.toList) = true) ∧
    vcA F.E h env (ops.toList.take n) 0 [] (fun acc => oZ F.E ops.toList (ops.toList.drop n) (mJ F.E.T (eO (ops.toList.take n) 0) (jX acc env) h).1 (mJ F.E.T (eO (ops.toList.take n) 0) (jX acc env) h).2 (fun env h => K .normal (keep.map fun t => (t, look env t)) h))
  | .stop => Tri F (.region id ops draw) Q env h
 | c, _, Q, env, h => Tri F c Q env h
section
variable {F : Fr} {p : PlR}
theorem aOH (hF : jP F) {K : Exit → St → List Obj → Prop} {Q : Exit → Act → World → Prop} (hK : ∀ e env h, K e env h → At F (Q e) env h) {id : Nat} {ops : Array Oper} {draw : Bool} {keep : List Nat} {env : St} {h : List Obj}
  (hv : vcA F.E h env ops.toList 0 [] (fun acc => K .normal (aHS keep acc env) h)) : Tri F (.region id ops draw) Q env h := fun hok c a w hs => by
 simp only [fD, Bool.and_eq_true, Bool.or_eq_true, Bool.not_eq_true'] at hok
 obtain ⟨⟨h1, h2⟩, h3⟩ := hok
 have hfin : ∀ acc c' a' w', K .normal (aHS keep acc env) h → cO c w c' w' → c'.n = c.n → Sim F.E F.M F.w0 F.nt F.ds c' (jX acc env) h a' w' → Q .normal a' w' := fun acc c' a' w' hk _ _ hs' => by
  have := hs'.keep keep
  refine hK _ _ _ hk c' a' w' ?_
  have e : aHS keep acc env = keep.map fun t => (t, look (jX acc env) t) := by
   simp only [aHS, aMw]
  rw [e]; exact this
 cases draw with
 | false => exact aMt (ops := ops.toList) hF.env (List.all_eq_true.1 h1) h2 hs hv hfin
 | true => exact aE5 (ops := ops.toList) hF.env hF.mix (List.all_eq_true.1 h1) h2 (h3.resolve_left (by simp)) hs hv hfin
theorem aRD (hF : jP F) {K : Exit → St → List Obj → Prop} {Q : Exit → Act → World → Prop} (hK : ∀ e env h, K e env h → At F (Q e) env h) {id : Nat} {ops : Array Oper} {keep : List Nat} {env : St} {h : List Obj}
  (hv : oZ F.E ops.toList ops.toList env h (fun env h => K .normal (keep.map fun t => (t, look env t)) h)) : Tri F (.region id ops false) Q env h := fun hok c a w hs => by
 simp only [fD, Bool.and_eq_true, Bool.or_eq_true, Bool.not_eq_true'] at hok
 obtain ⟨⟨h1, h2⟩, h3⟩ := hok
 refine wp_region ?_
 have := aFb (Q := Q) hF.env (List.all_eq_true.1 h1) (K := fun env h => K .normal (keep.map fun t => (t, look env t)) h) (fun env h c a w hk hs => hK _ _ _ hk c a w (hs.keep keep)) ops.toList.length 0 (by simp) env h c a w (by simpa using hv) hs
 simpa [List.range_eq_range'] using this
theorem aRE (hF : jP F) {K : Exit → St → List Obj → Prop} {Q : Exit → Act → World → Prop} (hK : ∀ e env h, K e env h → At F (Q e) env h) {id : Nat} {ops : Array Oper} (n : Nat) (hst : (aI5 (ops.toList.take n) && zU (ops.toList.take n) && aDL (ops.toList.take n).length ops.toList) = true) {keep : List Nat} {env : St} {h : List Obj}
  (hv : vcA F.E h env (ops.toList.take n) 0 [] (fun acc => oZ F.E ops.toList (ops.toList.drop n) (mJ F.E.T (eO (ops.toList.take n) 0) (jX acc env) h).1 (mJ F.E.T (eO (ops.toList.take n) 0) (jX acc env) h).2 (fun env h => K .normal (keep.map fun t => (t, look env t)) h))) :
  Tri F (.region id ops true) Q env h := fun hok c a w hs => by
 simp only [fD, Bool.and_eq_true, Bool.or_eq_true, Bool.not_eq_true'] at hok
 obtain ⟨⟨h1, h2⟩, h3⟩ := hok
 simp only [Bool.and_eq_true] at hst
 obtain ⟨⟨t1, t2⟩, t3⟩ := hst
 have e : ops.toList.take n ++ ops.toList.drop n = ops.toList := List.take_append_drop n ops.toList
 have := aQc (id := id) (pre := ops.toList.take n) (tail := ops.toList.drop n) (Q := Q) hF.env hF.mix (by rw [e]; exact List.all_eq_true.1 h1) t2 t1 (by rw [e]; exact t3) hs (K' := fun env h => K .normal (keep.map fun t => (t, look env t)) h) (by rw [e]; exact hv) (fun env h c a w hk hs => hK _ _ _ hk c a w (hs.keep keep))
 rw [e] at this
 simpa using this
theorem aCU (hF : jP F) : ∀ (c : Code) (K : Exit → St → List Obj → Prop) (Q : Exit → Act → World → Prop), (∀ e env h, K e env h → At F (Q e) env h) → ∀ env h, vcC F p c K Q env h → Tri F c Q env h
 | .skip, K, Q, hK, env, h, hv => dH (hK _ _ _ hv)
 | .label _, K, Q, hK, env, h, hv => aOY (hK _ _ _ hv)
 | .exit _, K, Q, hK, env, h, hv => vX (hK _ _ _ hv)
 | .ret, K, Q, hK, env, h, hv => dB (hK _ _ _ hv)
 | .seq x y, K, Q, hK, env, h, hv => by
  unfold vcC at hv
  split at hv
  ·exact hv
  ·refine aB (aCU hF x _ _ (fun e env h hk => ?_) env h hv)
   cases e with
   | normal => exact aC (aCU hF y K Q hK env h hk)
   | _ => exact hK _ env h hk
 | .cond o x y, K, Q, hK, env, h, hv => by
  unfold vcC at hv
  split at hv
  ·rename_i b hb
   exact cA hb (fun e => aCU hF x K Q hK env h (hv.1 e)) (fun e => aCU hF y K Q hK env h (hv.2 (by rw [e]; decide)))
  ·exact hv.elim
 | .block id x, K, Q, hK, env, h, hv => by
  refine gJ (aCU hF x _ _ (fun e env h hk => ?_) env h hv)
  cases e with
  | normal => exact hK .normal env h hk
  | ret => exact hK .ret env h hk
  | exit j =>
   simp only [aRC] at hk
   split at hk
   ·rename_i hd
    obtain rfl := of_decide_eq_true hd
    exact iJ (hK .normal env h hk)
   ·rename_i hd
    exact aCP (of_decide_eq_false hd) (hK (.exit j) env h hk)
  | _ => exact hk.elim
 | .scope x, K, Q, hK, env, h, hv => by
  refine aO7 (aCU hF x _ _ (fun e env h hk => ?_) env h hv)
  cases e with
  | normal => exact hK .normal env h hk
  | ret => exact hK .ret env h hk
  | exit j => exact hK (.exit j) env h hk
  | _ => exact hk.elim
 | .region id ops draw, K, Q, hK, env, h, hv => by
  unfold vcC at hv
  split at hv
  ·exact aOH hF hK hv
  ·obtain ⟨rfl, hv⟩ := hv; exact aRD hF hK hv
  ·obtain ⟨⟨rfl, hst⟩, hv⟩ := hv; exact aRE hF hK _ hst hv
  ·exact hv
 | .loop x, K, Q, hK, env, h, hv => hv
 | .rangeFunc _ _ _ _, K, Q, hK, env, h, hv => hv
 | .goto _, K, Q, hK, env, h, hv => hv
 | .refuse _, K, Q, hK, env, h, hv => hv
end
inductive Kt where
 | fin (Q : Exit → Act → World → Prop)
 | seq (y : Code) (k : Kt)
 | blk (id : Nat) (k : Kt)
 | scp (k : Kt)
 | stp (K : Act → World → Prop) (k : Kt)
def aEq (F : Fr) : Kt → Exit → Act → World → Prop
 | .fin Q => Q
 | .seq y k => Exit.then (Next F y (aEq F k)) (aEq F k)
 | .blk id k => Exit.inBlock id (aEq F k)
 | .scp k => Exit.noGoto (aEq F k)
 | .stp K k => Exit.then K (aEq F k)
def den (F : Fr) (p : PlR) : Kt → Exit → St → List Obj → Prop
 | .fin Q => fun e env h => At F (Q e) env h
 | .seq y k => aSm (vcC F p y (den F p k) (aEq F k)) (den F p k)
 | .blk id k => aRC id (den F p k)
 | .scp k => aSv (den F p k)
 | .stp K k => aSm (fun env h => At F K env h) (den F p k)
def vcT (F : Fr) (p : PlR) (c : Code) (k : Kt) (env : St) (h : List Obj) : Prop := vcC F p c (den F p k) (aEq F k) env h
section
variable {F : Fr} {p : PlR} {k : Kt} {env : St} {h : List Obj}
theorem wG (hF : jP F) : ∀ (k : Kt) (e : Exit) (env : St) (h : List Obj), den F p k e env h → At F (aEq F k e) env h
 | .fin Q, e, env, h, hk => hk
 | .seq y k, e, env, h, hk => by
  cases e with
  | normal => exact aC (aCU hF y _ _ (wG hF k) env h hk)
  | _ => exact wG hF k _ env h hk
 | .blk id k, e, env, h, hk => by
  cases e with
  | normal => exact wG hF k .normal env h hk
  | ret => exact wG hF k .ret env h hk
  | exit j =>
   simp only [den, aRC] at hk
   split at hk
   ·rename_i hd
    obtain rfl := of_decide_eq_true hd
    exact iJ (wG hF k .normal env h hk)
   ·rename_i hd
    exact aCP (of_decide_eq_false hd) (wG hF k (.exit j) env h hk)
  | _ => exact hk.elim
 | .scp k, e, env, h, hk => by
  cases e with
  | normal => exact wG hF k .normal env h hk
  | ret => exact wG hF k .ret env h hk
  | exit j => exact wG hF k (.exit j) env h hk
  | _ => exact hk.elim
 | .stp K k, e, env, h, hk => by
  cases e with
  | normal => exact hk
  | _ => exact wG hF k _ env h hk
theorem aLN (hF : jP F) {c : Code} (hv : vcT F p c k env h) : Tri F c (aEq F k) env h := aCU hF c _ _ (wG hF k) env h hv
theorem aQu : vcT F p .skip k env h = den F p k .normal env h := propext Iff.rfl
theorem aPd {l : Nat} : vcT F p (.label l) k env h = den F p k .normal env h := propext Iff.rfl
theorem aQv {id : Nat} : vcT F p (.exit id) k env h = den F p k (.exit id) env h := propext Iff.rfl
theorem aRF : vcT F p .ret k env h = den F p k .ret env h := propext Iff.rfl
theorem aRG {x y : Code} : vcT F p (.seq x y) k env h = match aMN p.stops x y with
  | true => Tri F (.seq x y) (aEq F k) env h
  | false => vcT F p x (.seq y k) env h := propext Iff.rfl
theorem aQw {o : Operand} {x y : Code} : vcT F p (.cond o x y) k env h = match evA F.E.G env o with
  | .val .bool b => (b = true → vcT F p x k env h) ∧ (¬ b = true → vcT F p y k env h)
  | _ => False := propext Iff.rfl
theorem aPe {id : Nat} {x : Code} : vcT F p (.block id x) k env h = vcT F p x (.blk id k) env h := propext Iff.rfl
theorem aPf {x : Code} : vcT F p (.scope x) k env h = vcT F p x (.scp k) env h := propext Iff.rfl
theorem aQx {x : Code} : vcT F p (.loop x) k env h = Tri F (.loop x) (aEq F k) env h := propext Iff.rfl
theorem aNF {id : Nat} {ops : Array Oper} {draw : Bool} : vcT F p (.region id ops draw) k env h = match aRB p.reg id with
  | .A keep => vcA F.E h env ops.toList 0 [] (fun acc => den F p k .normal (aHS keep acc env) h)
  | .B keep => draw = false ∧ oZ F.E ops.toList ops.toList env h (fun env h => den F p k .normal (keep.map fun t => (t, look env t)) h)
  | .C n keep => (draw = true ∧ (aI5 (ops.toList.take n) && zU (ops.toList.take n) && aDL (ops.toList.take n).length ops.toList) = true) ∧
    vcA F.E h env (ops.toList.take n) 0 [] (fun acc => oZ F.E ops.toList (ops.toList.drop n) (mJ F.E.T (eO (ops.toList.take n) 0) (jX acc env) h).1 (mJ F.E.T (eO (ops.toList.take n) 0) (jX acc env) h).2 (fun env h => den F p k .normal (keep.map fun t => (t, look env t)) h))
  | .stop => Tri F (.region id ops draw) (aEq F k) env h := propext Iff.rfl
theorem aRH {Q : Exit → Act → World → Prop} {e : Exit} : den F p (.fin Q) e env h = At F (Q e) env h := propext Iff.rfl
theorem aQy {y : Code} : den F p (.seq y k) .normal env h = vcT F p y k env h := propext Iff.rfl
theorem aQz {y : Code} {id : Nat} : den F p (.seq y k) (.exit id) env h = den F p k (.exit id) env h := propext Iff.rfl
theorem aQA {y : Code} : den F p (.seq y k) .ret env h = den F p k .ret env h := propext Iff.rfl
theorem aQB {id : Nat} : den F p (.blk id k) .normal env h = den F p k .normal env h := propext Iff.rfl
theorem aQC {id j : Nat} : den F p (.blk id k) (.exit j) env h = match decide (j = id) with
  | true => den F p k .normal env h
  | false => den F p k (.exit j) env h := propext Iff.rfl
theorem aQD {id : Nat} : den F p (.blk id k) .ret env h = den F p k .ret env h := propext Iff.rfl
theorem aQE : den F p (.scp k) .normal env h = den F p k .normal env h := propext Iff.rfl
theorem aQF {j : Nat} : den F p (.scp k) (.exit j) env h = den F p k (.exit j) env h := propext Iff.rfl
theorem aQG : den F p (.scp k) .ret env h = den F p k .ret env h := propext Iff.rfl
theorem aQH {K : Act → World → Prop} : den F p (.stp K k) .normal env h = At F K env h := propext Iff.rfl
theorem aQI {K : Act → World → Prop} {j : Nat} : den F p (.stp K k) (.exit j) env h = den F p k (.exit j) env h := propext Iff.rfl
theorem aQJ {K : Act → World → Prop} : den F p (.stp K k) .ret env h = den F p k .ret env h := propext Iff.rfl
theorem aRI {E : Env} {i : Nat} {acc : List Ent} {K : List Ent → Prop} : vcA E h env [] i acc K = K acc := propext Iff.rfl
theorem aQK {E : Env} {o : Oper} {r : List Oper} {i : Nat} {acc : List Ent} {K : List Ent → Prop} : vcA E h env (o :: r) i acc K = match o.dst, opA E h env acc o with
  | some d, (p, v) => zT acc o.guard ∧ (fB acc (yG acc o.guard) → p) ∧ vcA E h env r (i + 1) (⟨i, d, yG acc o.guard, v⟩ :: acc) K
  | none, _ => False := propext (by rw [vcA]; exact Iff.rfl)
theorem aQL {E : Env} {all : List Oper} {K : St → List Obj → Prop} : oZ E all [] env h K = K env h := propext Iff.rfl
theorem aPg {E : Env} {all : List Oper} {o : Oper} {r : List Oper} {K : St → List Obj → Prop} : oZ E all (o :: r) env h K = match o.guard with
  | none => match qG E env h o with
   | (p, v, h') => p ∧ oZ E all r (qH o.dst v env) h' K
  | some (j, pol) => match aDK all j with
   | some dj => match look env dj with
    | .val .bool b => (b = pol → match qG E env h o with
      | (p, v, h') => p ∧ oZ E all r (qH o.dst v env) h' K) ∧ (b = !pol → oZ E all r (qH o.dst .undef env) h K)
    | .undef => oZ E all r (qH o.dst .undef env) h K
    | _ => False
   | none => False := propext (by rw [oZ] <;> exact Iff.rfl)
def VOK (F : Fr) (p : PlR) : Prop := jP F
theorem dZ (hF : VOK F p) {x y : Code} {D : Type} (J : D → Prop) (keep : List Nat) (uE : D → St) (uO : D → List (Nat ⊕ Obj))
  (hx : vcT F p x (.stp (fun a' w' => ∃ d' c', J d' ∧ Sim F.E F.M F.w0 F.nt F.ds c' (aEk env keep (uE d')) (oO h (uO d')) a' w') k) env h)
  (hy : ∀ d, J d → vcT F p y k (aEk env keep (uE d)) (oO h (uO d))) : Tri F (.seq x y) (aEq F k) env h :=
 aMy J (fun d => aEk env keep (uE d)) (fun d => oO h (uO d)) (aLN hF hx) (fun d hd => aLN hF (hy d hd))
theorem bR (hF : VOK F p) {x : Code} {D E R : Type} {G : Md} {step : D → Option (D ⊕ E)} {kk : E → Option R} {Θ : R → Prop} {d0 : D} (keep : List Nat) (uE : D → St) (uO : D → List (Nat ⊕ Obj))
  (hd : sat ((dM G step d0).bind kk) Θ) (hh : h = oO h (uO d0)) (hf : kR h env (aEk env keep (uE d0)))
  (round : ∀ d (A : D → Prop) (B : D ⊕ E → Prop), (∀ x, B (.inl x) → A x) → (∀ e, B (.inr e) → sat (kk e) Θ) → sat (step d) B → vcT F p x (.stp (fun a' w' => ∃ d' c', A d' ∧ Sim F.E F.M F.w0 F.nt F.ds c' (aEk env keep (uE d')) (oO h (uO d')) a' w') k) (aEk env keep (uE d)) (oO h (uO d))) : Tri F (.loop x) (aEq F k) env h := by
 obtain ⟨r, hr, hΘ⟩ := hd
 refine aMx (fun d => (dM G step d).bind kk = some r) (aBA step) (fun d => aEk env keep (uE d)) (fun d => oO h (uO d)) (aS d0 hr hh hf) fun d hi => ?_
 obtain ⟨s, h1, h2⟩ := aJr hi
 refine aLN hF (k := .stp _ k) (round d (fun d' => (dM G step d').bind kk = some r ∧ aBA step d' < aBA step d) (uC (fun d' => (dM G step d').bind kk = some r ∧ aBA step d' < aBA step d) (fun e => kk e = some r)) (fun _ hx => hx) (fun e he => ⟨r, he, hΘ⟩) ⟨s, h1, h2⟩)
theorem rS (hF : VOK F p) {id : Nat} {ops : Array Oper} {draw : Bool} (keep : List Nat) (hv : vcA F.E h env ops.toList 0 [] (fun acc => den F p k .normal (aHS keep acc env) h)) : Tri F (.region id ops draw) (aEq F k) env h :=
 aOH hF (wG hF k) hv
def aRW (P : Program) (fn : Func) (S : Nat → Prop) (w0 : World) (r : RK) (Θ : r.ty.den → Prop) : Exit → Act → World → Prop := fun e a w => ∃ y, Θ y ∧ post P fn S w0 r y e a w
theorem aF {F : Fr} {fn : Func} {S : Nat → Prop} {r : RK} {Θ : r.ty.den → Prop} {env : St} {h : List Obj} (hF : jP F) (l : List ResultVar) (hM : F.M = top S) (hds : F.ds = []) (hr : fn.results = l.toArray) {y : r.ty.den} (hy : Θ y) (hq : (aR F.E.T h env l).1 ∧ hO h r y (aR F.E.T h env l).2) : At F (aRW F.P fn S F.w0 r Θ .ret) env h :=
 fun c a w hs => ⟨y, hy, fC hF l hM hds hr hq c a w hs⟩
theorem bH {P : Program} {E : Env} {f : FuncId} {fn : Func} {body : Code} {a : Ty} {r : RK} {m : a.den → Option r.ty.den} (hE : eM P E) (hm : P.follows .mixedOrders = true) (hf : P.funcs[f]? = some fn) (hb : fn.body = some body) (hok : fD fn.ntmps body = true) (hn : aHd a ≤ fn.ntmps) (p : PlR)
  (ht : ∀ (w0 : World) (S : Nat → Prop) (x : a.den) (Θ : r.ty.den → Prop), a.wf x → sat (m x) Θ → VOK (fr P E S w0 fn.ntmps) p → vcT (fr P E S w0 fn.ntmps) p body (.fin (aRW P fn S w0 r Θ)) (bL a x 0) []) : FOK P E.G f (mSpec a r m) :=
 lU hE hf hb hok hn fun w0 S x y hw hx => by
  have hF : jP (fr P E S w0 fn.ntmps) := ⟨hE, hm⟩
  have := aLN hF (ht w0 S x (fun z => z = y) hw ⟨y, hx, rfl⟩ hF)
  intro hok c a w hs
  refine wp_mono (this hok c a w hs) fun e a' w' hq => ?_
  obtain ⟨z, rfl, hz⟩ := hq
  exact hz
end
attribute [go_sem ↓] aQu aPd aQv aRF aRG aQw aPe aPf aQx aNF
attribute [go_sem ↓] aRH aQy aQz aQA aQB aQC aQD aQE aQF aQG aQH aQI aQJ
attribute [go_sem ↓] aRI aQK aQL aPg
attribute [go_sem] aRB first aMN kR hN hO eq_self aQt
end Go.Vc
namespace Go.Vc
open Go.RowKit
section
variable {F : Fr} {K : Act → World → Prop} {env : St} {h : List Obj}
theorem aPh (i q : Nat) (e : TypeId) (m : Mk) (t : Ty) {n : Nat} {vs : List AV} (ho : h[i]? = some (.box n (.agg vs))) (hq : vs[q]? = some .nilS) (hs1 : vs.all AV.solid1 = true) (hk : At F K env (h.set i (.box n (.agg (vs.set q (.own h.length)))) ++ [aBs e m t []])) : At F K env h := fun c a w hs => by
 have hil : i < h.length := iA ho
 have hin : i < c.n := by rw [hs.good.n]; exact hil
 have hrep : gB w c.S (.sl t) (.sl e m) [] [.slice none 0 0] [] := ⟨.slice none 0 0, [], [], rfl, World.ownsRow_nil w 0 e t.cells, rfl, rfl, rfl, fun i h => by simp at h⟩
 obtain ⟨c', hl, hg, hv⟩ := hs.good.taken [] (w' := w) rfl rfl rfl (Nat.le_refl _) (fun _ _ _ => rfl) hrep List.nodup_nil (fun b hb => by cases hb) ⟨_, _, _, rfl⟩
 have hg : Good F.M F.w0 c' (h ++ [aBs e m t []]) w := hg
 have ho' : (h ++ [aBs e m t []])[i]? = some (.box n (.agg vs)) := by rw [List.getElem?_append_left hil]; exact ho
 obtain ⟨b, cells, e', q1, q2, q3, q4⟩ := hg.objs i _ ho'
 simp only [aE] at q4
 obtain ⟨hql, hqe⟩ := List.getElem?_eq_some_iff.1 hq
 obtain ⟨pre, ds, post, e1, hp, hd, hset⟩ := aIE q4 (fun v hv => List.all_eq_true.1 hs1 v hv) hql
 have hfo : ∀ (vs : List AV) (q : Nat) (hq : q < vs.length), (cL (.agg vs) q).1 = vs[q] := by
  intro vs
  induction vs with
  | nil => intro q hq; simp at hq
  | cons v r ih => intro q hq; cases q with
   | zero => rfl
   | succ q => simp only [cL, List.getElem_cons_succ]; exact ih q (by simpa using hq)
 rw [hfo vs q hql, hqe] at hd
 have hd : ds = [.slice none 0 0] := hd
 subst hd
 have hown : aE c' w (.own h.length) [.slice none 0 0] := by
  obtain ⟨hh, _⟩ := hv
  exact hh
 have hnew := hset (.own h.length) _ hown
 rw [← e1] at hnew
 have key := hg.retell ho' (o' := .box n (.agg (vs.set q (.own h.length)))) (S' := c'.S) (B' := c'.bl i) (fun b hb => .inl hb) (fun b hb => hb) ⟨b, cells, e', q1, q2, q3, by
  have hle : c'.le ⟨c'.S, c'.hd, c'.n, fun j => if j = i then c'.bl i else c'.bl j⟩ := ⟨fun _ h => h, Nat.le_refl _, fun _ _ => rfl⟩
  have : aE c' w (.agg (vs.set q (.own h.length))) cells.toList := by simp only [aE]; exact hnew
  exact aE.keep hle (.refl _ _) _ _ this⟩ (fun b hb => ⟨hb, (hg.own i _ b ho' hb).2.2⟩)
 obtain ⟨c2, hl2, hg2⟩ := key
 rw [List.set_append_left _ _ hil] at hg2
 have hlt := hl.trans hl2
 exact hk c2 a w ⟨hg2, hs.glob.mono hlt.le.S hlt.same, fun s => hlt.val (hs.env s), hs.size, hs.defers⟩
theorem aQM {fn : Func} {sp : oD} {c0 : Ctx} {d : sp.D} {h' : List Obj} (hF : jP F) (l : List ResultVar) (σ : List Nat) (u : AV) (hM : F.M = GM sp c0 d) (hds : F.ds = []) (hr : fn.results = l.toArray) (hnd : nodupB σ = true) (hpr : preB F.M.m σ = true) (hout : sp.out d = .ret (ren σ u) h') (hh : (σ.map fun i => kA σ (h.getD i .dead)) = h') (hy : (aR F.E.T h env l).1) (hy2 : (aR F.E.T h env l).2 = [u]) :
  At F (bodyPost F.P fn (aFf sp c0 F.w0 d) .ret) env h := fun c a w hs => by
 subst hh
 obtain ⟨us, q1, q2, q3⟩ := yN (P := F.P) hF.env.T hs.good hs.env hr hy
 refine ⟨hs.defers.trans hds, aB3 us, q1, c.ren σ, ?_⟩
 rw [hout]
 refine ⟨aB3 us, rfl, by rw [← hM]; exact hs.good.ren hnd hpr, ?_⟩
 have hl1 : us.length = 1 := by rw [q2, hy2]; rfl
 match us, hl1 with
 | [x], _ =>
  have := q3 0 (by rw [hy2]; simp) (by simp)
  simp only [hy2, List.getElem_cons_zero] at this
  exact aFc this
end
end Go.Vc
namespace Go.Vc
open Go.RowKit
def Ret (h h' : List Obj) : Prop := ∀ (M : Perm) (w0 : World) (c : Ctx) (w : World), Good M w0 c h w → ∃ c', cO c w c' w ∧ Good M w0 c' h' w
theorem sW {h : List Obj} : Ret h h := fun M w0 c w hg => ⟨c, .refl _ _, hg⟩
section
variable {P : Program} {E : Env} {M : Perm} {w0 : World} {nt : Nat} {ds : List Deferred}
theorem Sim.ret {c : Ctx} {env : St} {h h' : List Obj} {a : Act} {w : World} (hs : Sim E M w0 nt ds c env h a w) (hR : Ret h h') : ∃ c', Sim E M w0 nt ds c' env h' a w := by
 obtain ⟨c', hl, hg⟩ := hR _ _ _ _ hs.good
 exact ⟨c', hg, hs.glob.mono hl.le.S hl.same, fun s => hl.val (hs.env s), hs.size, hs.defers⟩
end
end Go.Vc
namespace Go.Vc
open Go.RowKit
end Go.Vc
namespace Go.Vc
open Go.RowKit
def bitsOf (n : Nat) (done : List Nat) : List Bool := (List.range n).map fun i => done.contains i
def aPi (ops : List Oper) (bs : List Bool) : List Nat := (List.range ops.length).filter fun i => !bs.getD i false && (match ops[i]? with
 | some o => o.after.toList.all fun e => !Region.binds .any e || bs.getD e.on false
 | none => false)
theorem aLh {n : Nat} {done : List Nat} {i : Nat} (hi : i < n) : (bitsOf n done).getD i false = done.contains i := by
 simp [bitsOf, List.getD_eq_getElem?_getD, hi]
theorem aQN {n : Nat} {done : List Nat} {i : Nat} (hi : i < n) : (bitsOf n done).set i true = bitsOf n (i :: done) := by
 apply List.ext_getElem
 ·simp [bitsOf]
 ·intro k h1 h2
  simp only [bitsOf, List.length_set, List.length_map, List.length_range] at h1
  rw [List.getElem_set]
  by_cases e : i = k
  ·subst e; simp [bitsOf]
  ·simp only [e, if_false, bitsOf, List.getElem_map, List.getElem_range, List.contains_cons]
   have : (k == i) = false := by simpa using fun h => e h.symm
   rw [this, Bool.false_or]
theorem aQO {ops : List Oper} (hb : aLg ops = true) {done : List Nat} {i : Nat} (hi : i ∈ aEp ops done) : i ∈ aPi ops (bitsOf ops.length done) := by
 simp only [aEp, List.mem_filter, List.mem_range, Bool.and_eq_true] at hi
 obtain ⟨h1, h2, h3⟩ := hi
 simp only [aPi, List.mem_filter, List.mem_range, Bool.and_eq_true]
 refine ⟨h1, by rw [aLh h1]; exact h2, ?_⟩
 rw [List.getElem?_eq_getElem h1] at h3 ⊢
 simp only [List.all_eq_true, Bool.or_eq_true] at h3 ⊢
 intro e he
 rcases h3 e he with h | h
 ·exact .inl h
 ·rcases Bool.eq_false_or_eq_true (Region.binds .any e) with hbe | hbe
  ·right
   have hbk := List.all_eq_true.1 hb (ops[i], i) (by rw [List.mem_zipIdx_iff_getElem?]; exact List.getElem?_eq_getElem h1)
   have hbk := List.all_eq_true.1 hbk e he
   rw [hbe] at hbk
   simp at hbk
   rw [aLh (by omega)]; exact h
  ·left; rw [hbe]; rfl
def aSn (F : Fr) (inv : List Bool → St × List Obj) (downs : List (List Bool)) (bs' : List Bool) (d : Option Nat) (env : St) (r : Prop × AV × List Obj) : Prop := match r with
 | (p, v, h') => p ∧ bs' ∈ downs ∧ ∃ σ, nodupB σ = true ∧ preB F.M.m σ = true ∧ ((inv bs').1.map fun q => (q.1, ren σ (look (qH d v env) q.1))) = (inv bs').1 ∧ (σ.map fun j => kA σ (h'.getD j .dead)) = (inv bs').2
theorem aQP {F : Fr} {inv : List Bool → St × List Obj} {downs : List (List Bool)} {bs' : List Bool} {d : Option Nat} {env : St} {r : Prop × AV × List Obj} (h : aSn F inv downs bs' d env r) :
  r.1 ∧ bs' ∈ downs ∧ ∃ σ, nodupB σ = true ∧ preB F.M.m σ = true ∧ ((inv bs').1.map fun q => (q.1, ren σ (look (qH d r.2.1 env) q.1))) = (inv bs').1 ∧ (σ.map fun j => kA σ (r.2.2.getD j .dead)) = (inv bs').2 := h
def stT (F : Fr) (ops : List Oper) (inv : List Bool → St × List Obj) (downs : List (List Bool)) (bs : List Bool) (i : Nat) : Prop :=
 match ops[i]? with
 | some o => o.guard = none ∧ aSn F inv downs (bs.set i true) o.dst (inv bs).1 (qG F.E (inv bs).1 (inv bs).2 o)
 | none => False
inductive Dk where
 | v (t : Nat) (x : AV)
 | mk (t : Nat) (o : Obj)
 | cp (t j : Nat)
 | st (i : Nat) (o : Obj)
def aPj : List Dk → List Bool → Nat → Nat
 | _, _, 0 => 0
 | .mk _ _ :: r, true :: bs, j + 1 => aPj r bs j + 1
 | _ :: r, _ :: bs, j + 1 => aPj r bs j
 | _, _, _ + 1 => 0
def aSw (ds : List Dk) (bs : List Bool) (n i : Nat) : Dk → Nat × AV
 | .v t x => (t, x)
 | .mk t _ => (t, .own (n + aPj ds bs i))
 | .cp t j => (t, .own (n + aPj ds bs j))
 | .st _ _ => (0, .junk)
def aNG (ds : List Dk) (bs : List Bool) (n : Nat) : List Dk → List Bool → Nat → St
 | _, [], _ => []
 | [], _ :: _, _ => []
 | .st _ _ :: r, true :: b, i => aNG ds bs n r b (i + 1)
 | d :: r, true :: b, i => aSw ds bs n i d :: aNG ds bs n r b (i + 1)
 | _ :: r, false :: b, i => aNG ds bs n r b (i + 1)
def aPk : List Dk → List Bool → List Obj
 | .mk _ o :: r, true :: b => o :: aPk r b
 | _ :: r, _ :: b => aPk r b
 | _, _ => []
def aPl : List Dk → List Bool → List Obj → List Obj
 | .st i o :: r, true :: b, h => aPl r b (h.set i o)
 | _ :: r, _ :: b, h => aPl r b h
 | _, _, h => h
def aRJ (env : St) (h : List Obj) (ds : List Dk) (bs : List Bool) : St × List Obj := (aNG ds bs h.length ds bs 0 ++ env, aPl ds bs h ++ aPk ds bs)
theorem aLi {ds : List Dk} {bs : List Bool} {n : Nat} : ∀ (r : List Dk) (k i : Nat), aNG ds bs n r (List.replicate k false) i = []
 | [], 0, _ => rfl
 | [], k + 1, _ => rfl
 | _ :: r, 0, _ => rfl
 | d :: r, k + 1, i => by rw [List.replicate_succ]; cases d <;> (simp only [aNG]; exact aLi r k (i + 1))
theorem aLj : ∀ (r : List Dk) (k : Nat), aPk r (List.replicate k false) = []
 | [], 0 => rfl
 | [], k + 1 => rfl
 | d :: r, 0 => by cases d <;> rfl
 | d :: r, k + 1 => by rw [List.replicate_succ]; cases d <;> (simp only [aPk]; exact aLj r k)
theorem aLk : ∀ (r : List Dk) (k : Nat) (h : List Obj), aPl r (List.replicate k false) h = h
 | [], 0, _ => rfl
 | [], k + 1, _ => rfl
 | d :: r, 0, _ => by cases d <;> rfl
 | d :: r, k + 1, h => by rw [List.replicate_succ]; cases d <;> (simp only [aPl]; exact aLk r k h)
def stL (F : Fr) (ops : List Oper) (inv : List Bool → St × List Obj) (downs : List (List Bool)) (bs : List Bool) : List Nat → Prop
 | [] => True
 | i :: r => stT F ops inv downs bs i ∧ stL F ops inv downs bs r
def stM (F : Fr) (ops : List Oper) (inv : List Bool → St × List Obj) (downs : List (List Bool)) : List (List Bool × List Nat) → Prop
 | [] => True
 | p :: r => stL F ops inv downs p.1 p.2 ∧ stM F ops inv downs r
attribute [go_sem] stM stL stT aSn aRJ aNG aSw aPk aPl aPj bitsOf
end Go.Vc
namespace Go.Vc
open Go.RowKit
theorem rT (l : List Nat) {h : List Obj} : Ret h (freezeAll l h) := fun M w0 c w hg => by
 obtain ⟨c1, hl, _, hg1⟩ := hg.freezeAll l
 exact ⟨c1, hl, hg1⟩
def aRK (F : Fr) (inv : List Bool → St × List Obj) (downs : List (List Bool)) (bs' : List Bool) (d : Option Nat) (env : St) (r : Prop × AV × List Obj) : Prop := match r with
 | (p, v, h') => p ∧ bs' ∈ downs ∧ ∃ h2, Ret h' h2 ∧ ∃ σ, nodupB σ = true ∧ preB F.M.m σ = true ∧ ((inv bs').1.map fun q => (q.1, ren σ (look (qH d v env) q.1))) = (inv bs').1 ∧ (σ.map fun j => kA σ (h2.getD j .dead)) = (inv bs').2
theorem aQQ {F : Fr} {inv : List Bool → St × List Obj} {downs : List (List Bool)} {bs' : List Bool} {d : Option Nat} {env : St} {r : Prop × AV × List Obj} (h : aRK F inv downs bs' d env r) :
  r.1 ∧ bs' ∈ downs ∧ ∃ h2, Ret r.2.2 h2 ∧ ∃ σ, nodupB σ = true ∧ preB F.M.m σ = true ∧ ((inv bs').1.map fun q => (q.1, ren σ (look (qH d r.2.1 env) q.1))) = (inv bs').1 ∧ (σ.map fun j => kA σ (h2.getD j .dead)) = (inv bs').2 := h
def stX (F : Fr) (ops : List Oper) (inv : List Bool → St × List Obj) (downs : List (List Bool)) (bs : List Bool) (i : Nat) : Prop :=
 match ops[i]? with
 | some o => o.guard = none ∧ ∃ h1, Ret (inv bs).2 h1 ∧ aRK F inv downs (bs.set i true) o.dst (inv bs).1 (qG F.E (inv bs).1 h1 o)
 | none => False
theorem bA {F : Fr} {ops : List Oper} {inv : List Bool → St × List Obj} {downs : List (List Bool)} {bs : List Bool} {i : Nat} (h : stT F ops inv downs bs i) : stX F ops inv downs bs i := by
 unfold stT at h
 unfold stX
 cases ho : ops[i]? with
 | none => rw [ho] at h; exact h
 | some o =>
  rw [ho] at h
  obtain ⟨hg, h⟩ := h
  obtain ⟨h1, h2, h3⟩ := aQP h
  exact ⟨hg, _, sW, h1, h2, _, sW, h3⟩
theorem aJv {F : Fr} {ops : List Oper} {inv : List Bool → St × List Obj} {downs : List (List Bool)} {bs : List Bool} {i : Nat} {o : Oper} {h1 : List Obj} (ho : ops[i]? = some o) (hg : o.guard = none) (hR : Ret (inv bs).2 h1) (hx : aRK F inv downs (bs.set i true) o.dst (inv bs).1 (qG F.E (inv bs).1 h1 o)) : stX F ops inv downs bs i := by
 unfold stX
 rw [ho]
 exact ⟨hg, h1, hR, hx⟩
theorem aOI {F : Fr} {Q : Exit → Act → World → Prop} (hF : jP F) {ops : List Oper} (hok : ∀ o ∈ ops, eK F.nt o = true) (hb : aLg ops = true) (inv : List Bool → St × List Obj) (downs : List (List Bool))
  (hst : ∀ bs ∈ downs, ∀ i ∈ aPi ops bs, stX F ops inv downs bs i) (hK : At F (Q .normal) (inv (bitsOf ops.length (List.range ops.length))).1 (inv (bitsOf ops.length (List.range ops.length))).2) :
  ∀ (n : Nat) (done : List Nat) (listed : Array Bool), listed.size = ops.length → (∀ k, k < ops.length → (listed.getD k false = true ↔ k ∈ done)) → done.length + n = ops.length → done.Nodup → (∀ k ∈ done, k < ops.length) → bitsOf ops.length done ∈ downs → ∀ (c : Ctx) (a : Act) (w : World), Sim F.E F.M F.w0 F.nt F.ds c (inv (bitsOf ops.length done)).1 (inv (bitsOf ops.length done)).2 a w → wpAny F.P .any ops.toArray Q n listed a w
 | 0, done, listed, hsz, hl, hn, hd, hlt, hdn, c, a, w, hsim => by
  have hsub : ∀ j, j < ops.length → j ∈ done := fun j hjl => (aFj hd (m := List.range ops.length) (fun k hk => List.mem_range.2 (hlt k hk))).2 (by simp; omega) j (List.mem_range.2 hjl)
  have e : bitsOf ops.length done = bitsOf ops.length (List.range ops.length) := by
   unfold bitsOf
   apply List.map_congr_left
   intro k hk
   have := hsub k (List.mem_range.1 hk)
   rw [Bool.eq_iff_iff]
   simpa [List.contains_iff_mem, this] using List.mem_range.1 hk
  refine ⟨?_, hK c a w (e ▸ hsim)⟩
  rw [List.eq_nil_iff_forall_not_mem]
  intro j hj
  obtain ⟨h1, o, ho, _⟩ := mem_ready.1 hj
  have ho : ops[j]? = some o := by simpa using ho
  have hjl := gD.get_lt' ho
  have := (hl j hjl).2 (hsub j hjl)
  have hlt' : j < listed.size := by omega
  simp [hlt'] at h1 this
  rw [this] at h1; cases h1
 | n + 1, done, listed, hsz, hl, hn, hd, hlt, hdn, c, a, w, hsim => by
  have hrd : ∀ j, j ∈ Region.ready .any ops.toArray listed → j ∈ aEp ops done ∧ j ∉ done ∧ j < ops.length := fun j hj => by
   obtain ⟨h1, o, ho, hall⟩ := mem_ready.1 hj
   have ho : ops[j]? = some o := by simpa using ho
   have hjl := gD.get_lt' ho
   have hlt' : j < listed.size := by omega
   have hnd : j ∉ done := fun hm => by
    have := (hl j hjl).2 hm
    simp [hlt'] at h1 this
    rw [this] at h1; cases h1
   refine ⟨?_, hnd, hjl⟩
   simp only [aEp, List.mem_filter, List.mem_range, ho, Bool.and_eq_true, Bool.not_eq_true', List.contains_eq_mem, decide_eq_false_iff_not, List.all_eq_true, Bool.or_eq_true, decide_eq_true_eq]
   refine ⟨hjl, hnd, fun e he => ?_⟩
   cases hbe : Region.binds .any e with
   | false => exact .inl rfl
   | true =>
    right
    have h5 := hall e (by simpa using he) hbe
    rcases Nat.lt_or_ge e.on ops.length with hh | hh
    ·exact (hl _ hh).1 h5
    ·simp [show ¬ e.on < listed.size by omega] at h5
  refine ⟨fun hr => ?_, fun j hj => ?_⟩
  ·exfalso
   have hex : ∃ k, (k < ops.length ∧ k ∉ done) ∧ ∀ j, j < k → ¬ (j < ops.length ∧ j ∉ done) := by
    have hex : ∃ k, k < ops.length ∧ k ∉ done := by
     apply Classical.byContradiction
     intro hc
     have hsub : List.range ops.length ⊆ done := fun k hk => Classical.byContradiction fun hk2 => hc ⟨k, List.mem_range.1 hk, hk2⟩
     have := (aFj (List.nodup_range (n := ops.length)) (fun k hk => hsub hk)).1
     simp at this
     omega
    obtain ⟨n, h1, h2⟩ := aCT hex
    exact ⟨n, h1, fun j hj hp => by have := h2 j hp; omega⟩
   obtain ⟨k, ⟨hk, hkd⟩, hlow⟩ := hex
   have hmem : k ∈ Region.ready .any ops.toArray listed := by
    rw [mem_ready]
    have hlt' : k < listed.size := by omega
    have hun : ¬ listed.getD k false = true := fun h => hkd ((hl k hk).1 h)
    refine ⟨by simp [hlt'] at hun ⊢; exact hun, ops[k], by simp [hk], fun e he hbe => ?_⟩
    have hbk := List.all_eq_true.1 hb (ops[k], k) (by rw [List.mem_zipIdx_iff_getElem?]; exact List.getElem?_eq_getElem hk)
    have hbk := List.all_eq_true.1 hbk e (Array.mem_toList_iff.2 he)
    rw [hbe] at hbk
    simp at hbk
    have hne := hlow e.on hbk
    exact (hl _ (by omega)).2 (Classical.byContradiction fun hd => hne ⟨by omega, hd⟩)
   rw [hr] at hmem; cases hmem
  ·obtain ⟨r1, r2, r3⟩ := hrd j hj
   have hs := hst _ hdn j (aQO hb r1)
   have hjo : ops[j]? = some ops[j] := List.getElem?_eq_getElem r3
   unfold stX at hs
   rw [hjo] at hs
   obtain ⟨hg, h1, hR, hs⟩ := hs
   obtain ⟨hp, hin, h2, hR2, σ, s1, s2, s3, s4⟩ := aQQ hs
   rw [aQN r3] at hin s3 s4
   have hokO := hok ops[j] (List.getElem_mem r3)
   have hw : Region.wanted ops[j] (yielded ops.toArray a.tmps) = true := by simp [Region.wanted, hg]
   unfold wpOp
   simp only [List.getElem?_toArray, hjo]
   rw [if_pos hw]
   left
   obtain ⟨c1, hsim⟩ := hsim.ret hR
   refine (aDu hF.env hsim hokO hp).wp fun v w' c' ha => ?_
   obtain ⟨c', hsim'⟩ := (hsim.after hokO ha).ret hR2
   refine gQ (F := F) (K := fun a w => wpAny F.P .any ops.toArray Q n (listed.setIfInBounds j true) a w) σ s1 s2 ?_ c' _ w' (hsim'.keep ((inv (bitsOf ops.length (j :: done))).1.map Prod.fst))
   rw [List.map_map, List.map_map, s4]
   have e2 : ((inv (bitsOf ops.length (j :: done))).1.map (((fun p : Nat × AV => (p.1, ren σ p.2)) ∘ fun t => (t, look (qH ops[j].dst (qG F.E (inv (bitsOf ops.length done)).1 h1 ops[j]).2.1 (inv (bitsOf ops.length done)).1) t)) ∘ Prod.fst)) = (inv (bitsOf ops.length (j :: done))).1 := s3
   rw [e2]
   intro c a w hsim
   refine aOI hF hok hb inv downs hst hK n (j :: done) (listed.setIfInBounds j true) (by simp [hsz]) (fun k hk => ?_) (by simp; omega) (List.nodup_cons.2 ⟨r2, hd⟩) (fun k hk => ?_) hin c a w hsim
   ·by_cases e : j = k
    ·subst e
     have : j < listed.size := by omega
     simp [this]
    ·rw [getD_set_ne false e, hl k hk]
     constructor
     ·intro h; exact List.mem_cons_of_mem _ h
     ·intro h; exact (List.mem_cons.1 h).resolve_left (fun e' => e e'.symm)
   ·rcases List.mem_cons.1 hk with rfl | hk
    ·exact r3
    ·exact hlt k hk
theorem aLO {F : Fr} {Q : Exit → Act → World → Prop} {env : St} {h : List Obj} (hF : jP F) {id : Nat} {ops : Array Oper} (inv : List Bool → St × List Obj) (downs : List (List Bool)) (hb : aLg ops.toList = true) (h0 : bitsOf ops.toList.length [] ∈ downs)
  (hi : inv (bitsOf ops.toList.length []) = (env, h)) (hst : ∀ bs ∈ downs, ∀ i ∈ aPi ops.toList bs, stX F ops.toList inv downs bs i) (hk : At F (Q .normal) (inv (bitsOf ops.toList.length (List.range ops.toList.length))).1 (inv (bitsOf ops.toList.length (List.range ops.toList.length))).2) : Tri F (.region id ops true) Q env h := fun hok c a w hs => by
 simp only [fD, Bool.and_eq_true, Bool.or_eq_true, Bool.not_eq_true'] at hok
 obtain ⟨⟨h1, h2⟩, h3⟩ := hok
 refine wp_region_any hF.mix ?_
 have hlat : cO c w c { w with drawn := w.drawn + 1 } := ⟨.refl _, fun b hb => rfl⟩
 have hdr : Sim F.E F.M F.w0 F.nt F.ds c env h a { w with drawn := w.drawn + 1 } :=
  ⟨hs.good.step hlat rfl rfl ⟨rfl, rfl, rfl, Nat.le_refl _, fun _ _ _ => rfl⟩ (fun _ _ _ _ _ => rfl) hs.good.sfin (fun _ hb => .inl hb), mI.mono (w := w) (w' := { w with drawn := w.drawn + 1 }) (fun _ hb => hb) hlat.same hs.glob, hs.env.keep hlat, hs.size, hs.defers⟩
 have := aOI (Q := Q) hF (List.all_eq_true.1 h1) hb inv downs hst hk ops.toList.length [] (Array.replicate ops.size false) (by simp) (fun k hk => by rw [rX]; simp) (by simp) List.nodup_nil (fun k hk => by cases hk) h0 c a _ (by rw [hi]; exact hdr)
 simpa using this
def aPm (ds : List Dk) (bs : List Bool) (n : Nat) : List (Nat × Nat × Obj) → List (Nat × Obj)
 | [] => []
 | p :: r => match bs.getD p.1 false with
  | true => (n + aPj ds bs p.2.1, p.2.2) :: aPm ds bs n r
  | false => aPm ds bs n r
def aRL : List (Nat × Obj) → List Obj → List Obj
 | [], h => h
 | p :: r, h => aRL r (h.set p.1 p.2)
theorem aMO {ds : List Dk} {n k : Nat} : ∀ es : List (Nat × Nat × Obj), aPm ds (List.replicate k false) n es = []
 | [] => rfl
 | p :: r => by
  have : (List.replicate k false).getD p.1 false = false := by
   rw [List.getD_eq_getElem?_getD, List.getElem?_replicate]; split <;> rfl
  rw [aPm, this]
  exact aMO r
def aPn (es : List (Nat × Nat × Obj)) (env : St) (h : List Obj) (ds : List Dk) (bs : List Bool) : St × List Obj := ((aRJ env h ds bs).1, aRL (aPm ds bs h.length es) (aRJ env h ds bs).2)
def aQR (F : Fr) (ops : List Oper) (inv : List Bool → St × List Obj) (downs : List (List Bool)) (bs : List Bool) : List Nat → Prop
 | [] => True
 | i :: r => stX F ops inv downs bs i ∧ aQR F ops inv downs bs r
def aRM (F : Fr) (ops : List Oper) (inv : List Bool → St × List Obj) (downs : List (List Bool)) : List (List Bool × List Nat) → Prop
 | [] => True
 | p :: r => aQR F ops inv downs p.1 p.2 ∧ aRM F ops inv downs r
theorem aMP {F : Fr} {ops : List Oper} {inv : List Bool → St × List Obj} {downs : List (List Bool)} {bs : List Bool} : ∀ {l : List Nat}, aQR F ops inv downs bs l → ∀ i ∈ l, stX F ops inv downs bs i
 | i :: r, h, j, hj => by
  rcases List.mem_cons.1 hj with rfl | hj
  ·exact h.1
  ·exact aMP h.2 j hj
theorem aMQ {F : Fr} {ops : List Oper} {inv : List Bool → St × List Obj} {downs : List (List Bool)} : ∀ {l : List (List Bool × List Nat)}, aRM F ops inv downs l → ∀ p ∈ l, aQR F ops inv downs p.1 p.2
 | p :: r, h, q, hq => by
  rcases List.mem_cons.1 hq with rfl | hq
  ·exact h.1
  ·exact aMQ h.2 q hq
theorem aMR {F : Fr} {Q : Exit → Act → World → Prop} {env : St} {h : List Obj} (hF : jP F) {id : Nat} {ops : Array Oper} (keep0 keep : List Nat) (ds : List Dk) (es : List (Nat × Nat × Obj)) (pl : List (List Bool × List Nat)) (full : List Bool)
  (hb : (decide (bitsOf ops.toList.length (List.range ops.toList.length) = full) && aLg ops.toList && pl.all (fun p => decide (aPi ops.toList p.1 = p.2)) && (pl.map Prod.fst).contains (bitsOf ops.toList.length [])) = true)
  (hst : aRM F ops.toList (aPn es (keep0.map fun t => (t, look env t)) h ds) (pl.map Prod.fst) pl)
  (hk : At F (Q .normal) (keep.map fun t => (t, look (aPn es (keep0.map fun t => (t, look env t)) h ds full).1 t)) (aPn es (keep0.map fun t => (t, look env t)) h ds full).2) : Tri F (.region id ops true) Q env h := by
 simp only [Bool.and_eq_true] at hb
 obtain ⟨⟨⟨hfu, hb⟩, hp⟩, h0⟩ := hb
 have hfu : bitsOf ops.toList.length (List.range ops.toList.length) = full := by simpa using hfu
 subst hfu
 intro hok
 refine aOm keep0 ?_
 refine aLO hF (aPn es (keep0.map fun t => (t, look env t)) h ds) (pl.map Prod.fst) hb (by simpa using h0) ?_ (fun bs hbs i hi => ?_) (aOm keep hk) hok
 ·have e : bitsOf ops.toList.length [] = List.replicate ops.toList.length false := by
   apply List.ext_getElem <;> simp [bitsOf]
  rw [e]
  simp only [aPn, aRJ, aMO, aLi, aLj, aLk, aRL]
  simp
 ·obtain ⟨p, hp1, rfl⟩ := List.mem_map.1 hbs
  have := List.all_eq_true.1 hp p hp1
  have e : aPi ops.toList p.1 = p.2 := by simpa using this
  exact aMP (aMQ hst p hp1) i (e ▸ hi)
attribute [go_sem] aRM aQR aRK aPn aPm aRL
end Go.Vc
namespace Go.Vc
open Go.RowKit
section
variable {P : Program} {T : Tab} {H : Type} {enc : TypeId × Value → H} {w : World} {spare : Nat → Bool} {held : Bool}
def aQS (k : IntKind) (ys : List Nat) : DataW H := .agg (ys.map fun (y : Nat) => .lit (.int k (y : Int)))
theorem aLP : ∀ (cs : List Value), ((List.range cs.length).map fun i => (cs.drop i).take 1).flatten = cs := by
 intro cs
 have e : ((List.range cs.length).map fun i => (cs.drop i).take 1) = cs.map fun c => [c] := by
  apply List.ext_getElem
  ·simp
  ·intro i h1 h2
   simp only [List.length_map, List.length_range] at h1
   simp only [List.getElem_map, List.getElem_range]
   rw [List.drop_eq_getElem_cons h1]
   rfl
 rw [e]
 clear e
 induction cs with
 | nil => rfl
 | cons c cs ih => simp [ih]
theorem aRN {S : Nat → Prop} (hT : gI P T) {n : Nat} {t : TypeId} {m : Nat} {k : IntKind} {cs : List Value} {p : List MemPlace} {ys : List Nat} (ht : T t = some (.arr m (.u k)))
  (h : DataW.trod enc P w 0 spare held n t cs = some (aQS k ys, p)) : aN w S (.arr m (.u k)) ys cs := by
 obtain ⟨d, hd, hb⟩ := (hT _ _ ht).desc
 cases d <;> simp [eY] at hb
 obtain ⟨⟨⟨rfl, hb1⟩, hb2⟩, _⟩ := hb
 obtain ⟨xs, q, hq, hx, hlen, hxl, hf⟩ := DataW.trod_array hd h
 simp only [aQS, Prod.mk.injEq, DataW.agg.injEq] at hx
 rw [jQ (hT _ _ ht)] at hlen
 rw [jQ (hT _ _ hb1)] at hf
 have e1 : (Ty.u k).cells = 1 := rfl
 have e2 : (Ty.arr m (.u k)).cells = m := by show m * 1 = m; omega
 rw [e1] at hf
 rw [e2] at hlen
 have hyl : ys.length = m := by
  have := congrArg List.length hx.1
  simp only [List.length_map] at this
  omega
 obtain ⟨du, hdu, hbu⟩ := (hT _ _ hb1).desc
 cases du <;> simp [eY] at hbu
 obtain ⟨rfl, hs⟩ := hbu
 refine ⟨hyl, (List.range cs.length).map (fun i => (cs.drop i).take 1), (aLP cs).symm, by simp; omega, fun i h1 h2 => ?_⟩
 have hi : i < m := by omega
 have h3 := hf i hi
 rw [Nat.mul_one, List.getElem?_eq_getElem (by omega)] at h3
 obtain ⟨v, g1, g2, g3⟩ := DataW.trod_int hdu h3
 simp only [List.getElem_map, List.getElem_range]
 have h4 : (xs.map (·.1))[i]? = (ys.map fun (y : Nat) => (DataW.lit (.int k (y : Int)) : DataW H))[i]? := by rw [hx.1]
 rw [List.getElem?_map, List.getElem?_map, List.getElem?_eq_getElem (by omega), List.getElem?_eq_getElem h1, g2] at h4
 simp only [Option.map_some, Option.some.injEq, DataW.lit.injEq, Lit.int.injEq, true_and] at h4
 rw [h4] at g1 g3
 simp only [Lit.wf, Bool.and_eq_true, decide_eq_true_eq] at g3
 exact ⟨g1, hs, g3.2⟩
theorem aQT {l : List (String × DataW Unit)} {n : String} {d : DataW Unit} (hm : (n, d) ∈ l) {ps : List MemPlace} (h : DataW.LaidVars P w l ps) :
  ∃ g t cs fuel p, P.globalNamed n = some g ∧ (P.globals[g]?).map (·.type) = some t ∧ w.var? P n = some cs ∧ DataW.trod (fun _ => ()) P w 0 (fun _ => true) false fuel t cs.toList = some (d, p) := by
 induction l generalizing ps with
 | nil => cases hm
 | cons x r ih =>
  obtain ⟨n', d'⟩ := x
  obtain ⟨g, t, cs, fuel, p, q, h1, h2, h3, h4, h5, _⟩ := h
  rcases List.mem_cons.1 hm with e | e
  ·cases e
   exact ⟨g, t, cs, fuel, p, h1, h2, h3, h4⟩
  ·exact ih e h5
theorem aMS (hT : gI P T) {l : List (String × DataW Unit)} (h : laidMet P l w) (n : String) (g : Nat) (t : TypeId) (m : Nat) (k : IntKind) (ys : List Nat) (hm : (n, aQS k ys) ∈ l) (hg : P.globalNamed n = some g)
  (ht : (P.globals[g]?).map (·.type) = some t) (hty : T t = some (.arr m (.u k))) (hm0 : 0 < m) : aL ⟨uR w, fun _ => Go.undef, 0, fun _ _ => False⟩ w (.roa (.arr m (.u k)) ys) (.pointer (some ⟨g, 0, none⟩)) := by
 obtain ⟨ps, hv, _⟩ := h
 obtain ⟨g', t', cs, fuel, p, h1, h2, h3, h4⟩ := aQT hm hv
 obtain rfl := Option.some.inj (hg.symm.trans h1)
 obtain rfl := Option.some.inj (ht.symm.trans h2)
 have hr : aN w (uR w) (.arr m (.u k)) ys cs.toList := aRN hT hty h4
 have hc : gS w g 0 cs.toList := fun j v hj => by
  have := World.var?_cell hg h3 j
  rw [Nat.zero_add, this]
  simpa using hj
 refine aBl ?_ hr hc
 have hl := aN.length _ _ _ hr
 have hl : cs.toList.length = m * 1 := hl
 have h0 : 0 < cs.toList.length := by omega
 exact aOz (hc 0 (cs.toList[0]'h0) (List.getElem?_eq_getElem h0))
end
end Go.Vc
