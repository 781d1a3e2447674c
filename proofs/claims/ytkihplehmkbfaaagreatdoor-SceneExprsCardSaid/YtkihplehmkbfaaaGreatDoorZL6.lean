import Derived.Test.YtkihplehmkbfaaaGreatDoorZL5
import Derived.Recover
import Derived.LaidMore
import Derived.LaidHandle
import Derived.MakeChecks
set_option linter.unusedVariables false
set_option linter.unusedSimpArgs false
namespace Go.Vc
open Go.RowKit
section
variable {P : Program} {E : Env} {M : Perm} {w0 : World} {c : Ctx} {h : List Obj} {w : World}
def aQv (P : Program) (fn : Func) (S : Nat → Prop) (w0 : World) (r : RK) (y : r.ty.den) : Exit → Act → World → Prop :=
 bodyPostD P fn fun e w' => ∃ v, e = .returned v ∧ fU nothing w0 w' ∧ aQQ w' S w0.heap.size r y v
theorem aTA {f : FuncId} {fn : Func} {body : Code} {sp : aF} (hE : eT P E) (hf : P.funcs[f]? = some fn) (hb : fn.body = some body) (hok : gD fn.ntmps body = true) (hn : aIB sp.args ≤ fn.ntmps)
  (ht : ∀ (w0 : World) (S : Nat → Prop) (x : sp.args.den), sp.args.wf x → sp.pre x → Tri (fr P E S w0 fn.ntmps) body (aQv P fn S w0 sp.res (sp.fn x)) (bJ sp.args x 0) []) : FOK P E.G f sp := by
 intro w S vs x hS hG ha hp
 refine calls_of_wp_defers hf hb ?_
 refine ht w S x (aGk _ _ _ ha) hp hok ⟨S, fun _ => Go.undef, 0, fun _ _ => False⟩ _ w ⟨⟨rfl, .refl _ _, hS, fun b hb _ => .inl hb, fun i o ho => by simp at ho, fun i o b ho => by simp at ho, fun i j oi oj b hi => by simp at hi, ⟨Nat.le_refl _, fun i hi => absurd hi (Nat.not_lt_zero i)⟩⟩, hG, ?_, ?_, rfl⟩
 ·refine aKG _ x 0 vs.toList _ ha rfl fun i v hv => ?_
  have hlt : i < vs.size := by
   rcases Nat.lt_or_ge i vs.size with hh | hh
   ·exact hh
   ·rw [List.getElem?_eq_none (by simpa using hh)] at hv; cases hv
  simp only [Nat.zero_add]
  have : vs[i]? = some v := by rw [← Array.getElem?_toList]; exact hv
  simp [Array.getElem?_append, hlt]
  rw [Array.getElem?_eq_getElem hlt] at this
  simpa using this
 ·have := aKH _ _ _ ha
  simp at this
  simp
  omega
theorem aSl {S : Nat → Prop} (hwr : M.wr = nothing) (hrd : M.rd = S) (hg : Good M w0 c h w) {r : RK} {y : r.ty.den} {avs : List AV} {xs : List Value} (hl : xs.length = avs.length) (hv : ∀ i (h1 : i < avs.length) (h2 : i < xs.length), aJ c w avs[i] xs[i]) (hy : fJ h r y avs) : aQQ w S w0.heap.size r y (aCP xs) := by
 have hsrc : ∀ {c' : Ctx} {h' : List Obj}, Good M w0 c' h' w → ∀ b, c'.S b → S b ∨ (w0.heap.size ≤ b ∧ b < w.heap.size) := fun hg b hb => by
  rcases Nat.lt_or_ge b w0.heap.size with hlt | hge
  ·have := hg.src b hb hlt
   rw [hwr, hrd] at this
   exact .inl (this.resolve_right (fun f => f))
  ·exact .inr ⟨hge, hg.sfin b hb⟩
 obtain ⟨c', hll, hg'⟩ := hg.frzAll
 have hval : ∀ i (h1 : i < avs.length) (h2 : i < xs.length), aJ c' w avs[i] xs[i] := fun i h1 h2 => hll.val (hv i h1 h2)
 cases r with
 | none =>
  match avs, xs, hl, hy with
  | [], [], _, _ => rfl
 | one t =>
  match avs, xs, hl, hy, hval with
  | [v], [x], _, hy, hval =>
   have hy : AV.as (h.map Vc.frzAll) t v = some y := hy
   rw [← aQi] at hy
   have := qM hg' (hval 0 (by simp) (by simp)) hy
   exact cS.keep (hsrc hg') (.refl _ _) this
 | own e t =>
  match avs, xs, hl, hy, hv with
  | [.own i], [x], _, hy, hv =>
   have hvs := hv 0 (by simp) (by simp)
   simp only [List.getElem_cons_zero] at hvs
   have ho : h[i]? = some (.row e t y) := hy
   obtain ⟨hin, rfl⟩ := wU hvs
   obtain ⟨vals, hown, hrep⟩ := hg.objs i _ ho
   refine ⟨vals, ⟨hown.1, hown.2.imp id ?_⟩, aO.keep (fun b hb => ?_) (.refl _ _) _ _ _ hrep⟩
   ·rintro ⟨g, cap, cur, h1, h2, h3⟩
    refine ⟨g, cap, cur, h1, ?_, h3⟩
    have := (hg.own i _ g ho (by simp [dY, h1, aK])).1
    rw [hwr] at this
    exact this.resolve_right (fun f => f)
   ·rcases hsrc hg b hb with h1 | h1
    ·exact .inl h1
    ·exact .inr ⟨h1.1, h1.2, fun e' => (hg.own i _ b ho e').2.2 hb⟩
  | [.nilS], [x], _, hy, hv =>
   have hvs := hv 0 (by simp) (by simp)
   simp only [List.getElem_cons_zero] at hvs
   have hy : y = [] := hy
   subst hy
   have hsv : x = .slice none 0 0 := by
    obtain ⟨h1, _, h3⟩ := hvs
    have h3 := h3 rfl
    simp only [aG] at h1
    cases x <;> simp [Value.cells] at h1 h3 <;> simp [h1]
   subst hsv
   exact ⟨[], ⟨by simp, .inl ⟨rfl, rfl⟩⟩, ⟨rfl, [], rfl, rfl, fun i h => by simp at h⟩⟩
 | tup t =>
  have hy : avs.length ≠ 1 ∧ wI (h.map Vc.frzAll) t avs = some y := hy
  obtain ⟨hne, hy⟩ := hy
  rw [← aQi] at hy
  have hargs := aDv hg' hy (xs := xs) hl hval
  refine ⟨xs, ?_, aQ5 (hsrc hg') hargs⟩
  match xs, hl ▸ hne with
  | [], _ => rfl
  | [s], hne => exact absurd rfl hne
  | s :: s' :: l, _ => rfl
def m0 : Option Pan → Value → FrameMode
 | none, _ => .returning
 | some p, u => .panicking (aL3 p.k u)
def m1 : Option Pan → Value → FrameMode
 | none, _ => .returning
 | some p, u => .panicking [{ v := .iface p.k u, recovered := true, goexit := false }]
theorem aRe (m : Option Pan) (u : Value) : settle (m1 m u) = .returning := by cases m <;> rfl
def aT1 (P : Program) (g : FuncId) (vs : Array Value) (u0 u1 : FrameMode) (w : World) (R : Ending → World → Prop) : Prop := CallsD P g vs u0 w fun e u' w' => u' = u1 ∧ R e w'
def DOK (P : Program) (G : Nat → AV) (g : FuncId) (mode : Option Pan) (sp : pL) : Prop :=
 ∀ (c : Ctx) (w : World) (d : sp.D) (vs : Array Value) (u : Value), sp.pre d → GIn G sp c w d vs.toList → (∀ p, mode = some p → cS w c.S p.t p.x u) → aT1 P g vs (m0 mode u) (m1 mode u) w (aGr sp c w d)
theorem aOB {F : Fr} {fn : Func} {S : Nat → Prop} {r : RK} {y : r.ty.den} {env : St} {h : List Obj} {k : Nat} {roots : Nat → Value} {g : FuncId} {l2 : List Nat} {mode : Option Pan} (hF : kP F) (hM : F.M = ⟨nothing, S, k, roots⟩) (hds : F.ds = [⟨.fn (.func g) (l2.map roots).toArray, #[]⟩]) (hk : ∀ i ∈ l2, i < k) (hbx : aDz h l2 = true)
  (hfn : ∃ fn, F.P.funcs[g]? = some fn ∧ fn.name ≠ "runtime.NumGoroutine" ∧ fn.body.isSome = true) (t : Hit) (hok : DOK F.P F.E.G g mode t.sp) (hh : aKS h (l2.map fun i => .ptr i []) t) {v : AV} {h' : List Obj} (hout : t.sp.out t.d = .ret v h')
  (l : List ResultVar) (hr : fn.results = l.toArray) (hy : (aM F.E.T (aCj t.σ t.sp.m h h') env l).1 ∧ fJ (aCj t.σ t.sp.m h h') r y (aM F.E.T (aCj t.σ t.sp.m h h') env l).2) {c : Ctx} {a : Act} {w : World} {u : Value} (hs : Sim F.E F.M F.w0 F.nt F.ds c env h a w) (hu : ∀ p, mode = some p → cS w c.S p.t p.x u) :
  Leaves F.P fn a.tmps (fun e w' => ∃ v, e = .returned v ∧ fU nothing F.w0 w' ∧ aQQ w' S F.w0.heap.size r y v) a.defers (m0 mode u) w := by
 have hroot := hs.good.root
 rw [hM] at hroot
 have hhd : ∀ i ∈ l2, c.hd i = roots i ∧ i < c.n := fun i hi => ⟨hroot.2 i (hk i hi), Nat.lt_of_lt_of_le (hk i hi) hroot.1⟩
 have hl2 : l2.map roots = l2.map c.hd := List.map_congr_left fun i hi => (hhd i hi).1.symm
 have hvb : ∀ i (h1 : i < (l2.map fun i => AV.ptr i []).length) (h2 : i < (l2.map roots).toArray.toList.length), aJ c w (l2.map fun i => AV.ptr i [])[i] (l2.map roots).toArray.toList[i] := fun i h1 h2 => by
  have := aKu hs.good hbx (fun i hi => (hhd i hi).2) i h1 (by simpa using h2)
  simpa [hl2] using this
 rw [hs.defers, hds]
 refine leaves_cons (f := g) (args := (l2.map roots).toArray) ?_ ?_ ?_
 ·cases mode <;> simp [m0]
 ·have := yX (w := w) (args := (l2.map roots).toArray) hfn
  simpa [invoke] using this
 ·have hcall := aMW (C := aT1 F.P g (l2.map roots).toArray (m0 mode u) (m1 mode u) w) (fun R R' h k => CallsD.mono h fun e u' w' q => ⟨q.1, k _ _ q.2⟩) (fun hp hin => hok _ _ _ _ _ hp hin hu) hs.good hs.glob (vs := l2.map fun i => AV.ptr i []) (xs := (l2.map roots).toArray) (by simp) hvb hh
  refine CallsD.mono hcall ?_
  rintro e u' w' ⟨rfl, cN, hl, hend⟩
  rw [hout] at hend
  obtain ⟨uv, rfl, hg, _⟩ := hend
  show Leaves F.P fn a.tmps _ [] (settle (m1 mode u)) w'
  rw [aRe]
  obtain ⟨us, q1, q2, q3⟩ := aAk (P := F.P) hF.env.T hg (hs.env.keep hl) hr hy.1
  refine ⟨aCP us, q1, aCP us, rfl, by have := hg.keeps; rw [hM] at this; exact this, ?_⟩
  exact aSl (by rw [hM]) (by rw [hM]) hg q2 (fun i h1 h2 => q3 i h1 h2) hy.2
theorem aQw {F : Fr} {fn : Func} {S : Nat → Prop} {r : RK} {y : r.ty.den} {env : St} {h : List Obj} {k : Nat} {roots : Nat → Value} {g : FuncId} {l2 : List Nat} (hF : kP F) (hM : F.M = ⟨nothing, S, k, roots⟩) (hds : F.ds = [⟨.fn (.func g) (l2.map roots).toArray, #[]⟩]) (hk : ∀ i ∈ l2, i < k) (hbx : aDz h l2 = true)
  (hfn : ∃ fn, F.P.funcs[g]? = some fn ∧ fn.name ≠ "runtime.NumGoroutine" ∧ fn.body.isSome = true) (t : Hit) (hok : DOK F.P F.E.G g none t.sp) {v : AV} {h' : List Obj} (hout : t.sp.out t.d = .ret v h')
  (l : List ResultVar) (hr : fn.results = l.toArray) (hh : aKS h (l2.map fun i => .ptr i []) t) (hy : (aM F.E.T (aCj t.σ t.sp.m h h') env l).1 ∧ fJ (aCj t.σ t.sp.m h h') r y (aM F.E.T (aCj t.σ t.sp.m h h') env l).2) :
  At F (aQv F.P fn S F.w0 r y .ret) env h := fun c a w hs =>
 aOB (u := Go.undef) hF hM hds hk hbx hfn t hok hh hout l hr hy hs (fun p hp => by cases hp)
theorem aQx {F : Fr} {fn : Func} {S : Nat → Prop} {r : RK} {y : r.ty.den} {env : St} {h : List Obj} {k : Nat} {roots : Nat → Value} {g : FuncId} {l2 : List Nat} {p : Pan} (hF : kP F) (hM : F.M = ⟨nothing, S, k, roots⟩) (hds : F.ds = [⟨.fn (.func g) (l2.map roots).toArray, #[]⟩]) (hk : ∀ i ∈ l2, i < k) (hbx : aDz h l2 = true)
  (hfn : ∃ fn, F.P.funcs[g]? = some fn ∧ fn.name ≠ "runtime.NumGoroutine" ∧ fn.body.isSome = true) (t : Hit) (hok : DOK F.P F.E.G g (some p) t.sp) {v : AV} {h' : List Obj} (hout : t.sp.out t.d = .ret v h')
  (l : List ResultVar) (hr : fn.results = l.toArray) (hh : aKS h (l2.map fun i => .ptr i []) t) (hy : (aM F.E.T (aCj t.σ t.sp.m h h') env l).1 ∧ fJ (aCj t.σ t.sp.m h h') r y (aM F.E.T (aCj t.σ t.sp.m h h') env l).2) :
  AtP F (aQv F.P fn S F.w0 r y) p env h := fun c a w u hs hu =>
 aOB hF hM hds hk hbx hfn t hok hh hout l hr hy hs (fun q hq => by cases hq; exact hu)
theorem aEJ {F : Fr} {Q : Exit → Act → World → Prop} {env : St} {h : List Obj} {id : Nat} {ops : Array Oper} {y : Code} {g : FuncId} {t : Nat} {caps : Array Operand} {ty1 ty2 : TypeId} {pos1 pos2 : String} {aft1 aft2 : Array Edge} (k : Nat) (l2 : List Nat)
  (hops : ops = #[⟨some t, .makeFunc (.func g) #[] caps, ty1, pos1, aft1, none⟩, ⟨none, .defer ⟨.value (.tmp t), #[], #[]⟩, ty2, pos2, aft2, none⟩])
  (htags : allTags h (caps.toList.map (evA F.E.G env)) = some l2) (hm : F.M.m ≤ k) (hk : k ≤ h.length)
  (hy : ∀ roots : Nat → Value, (∀ i, i < F.M.m → roots i = F.M.roots i) → Tri { F with M := ⟨F.M.wr, F.M.rd, k, roots⟩, ds := ⟨.fn (.func g) (l2.map roots).toArray, #[]⟩ :: F.ds } y Q ((t, .junk) :: env) h) : Tri F (.seq (.region id ops false) y) Q env h := fun hok c a w hs => by
 simp only [gD, Bool.and_eq_true] at hok
 obtain ⟨⟨⟨hok1, _⟩, _⟩, hok2⟩ := hok
 subst hops
 have hall := List.all_eq_true.1 hok1
 have hk1 := hall ⟨some t, .makeFunc (.func g) #[] caps, ty1, pos1, aft1, none⟩ (by simp)
 simp only [fE, Bool.and_eq_true] at hk1
 have hops1 : ∀ x ∈ (Op.makeFunc (.func g) #[] caps).operands, jU x = true := Array.all_eq_true_iff_forall_mem.1 hk1.1
 have htn : t < a.tmps.size := by
  have := hk1.2
  rw [hs.size]
  simpa using this
 obtain ⟨hlt, hcv⟩ := aGd hs.good htags (vs := caps.toList.map a.eval) (by simp) (fun i h1 h2 => by
  simp only [List.getElem_map]
  exact aAc hs.env hs.glob (hops1 _ (by simp [Op.operands])))
 have hcv' : caps.map a.eval = (l2.map c.hd).toArray := by rw [← Array.toList_inj]; simpa using hcv
 refine wp_seq (wp_region ?_)
 have hy' := hy c.hd (fun i hi => hs.good.root.2 i hi)
 have hgood : Good ⟨F.M.wr, F.M.rd, k, c.hd⟩ F.w0 c h w := ⟨hs.good.n, hs.good.keeps, hs.good.sfin, hs.good.src, hs.good.objs, hs.good.own, hs.good.sep, by rw [hs.good.n]; exact hk, fun _ _ => rfl⟩
 have hfin := hy' hok2 c { (a.put (some t) (.func (.func g) #[] (l2.map c.hd).toArray)) with defers := ⟨.fn (.func g) (l2.map c.hd).toArray, #[]⟩ :: a.defers } w ⟨hgood, hs.glob, by
  have := hs.env.put (d := t) (v := .junk) (x := .func (.func g) #[] (l2.map c.hd).toArray) htn trivial
  exact this, by simpa [Act.put] using hs.size, by simp [hs.defers]⟩
 have run1 : (execOp a.eval ⟨some t, .makeFunc (.func g) #[] caps, ty1, pos1, aft1, none⟩).run F.P w = .ok (.value (.func (.func g) #[] (l2.map c.hd).toArray)) w := by
  simp [execOp, Instr.makeFunc, hcv']
 have hget : (a.put (some t) (.func (.func g) #[] (l2.map c.hd).toArray)).eval (.tmp t) = .func (.func g) #[] (l2.map c.hd).toArray := by
  simp [Act.eval, Act.put, htn]
 have run2 : (execOp (a.put (some t) (.func (.func g) #[] (l2.map c.hd).toArray)).eval ⟨none, .defer ⟨.value (.tmp t), #[], #[]⟩, ty2, pos2, aft2, none⟩).run F.P w = .ok (.defer ⟨.fn (.func g) (l2.map c.hd).toArray, #[]⟩) w := by
  simp [execOp, resolve, Deferred.ofValue, hget]
 show wpOps F.P _ _ [0, 1] a w
 have w1 : ∀ (o : Oper) (y : Nat → Option Bool), o.guard = none → Region.wanted o y = true := fun o y h => by simp [Region.wanted, h]
 unfold wpOps
 simp only [List.getElem?_toArray, List.getElem?_cons_zero]
 rw [if_pos (w1 _ _ rfl)]
 refine .inl ?_
 unfold Oper.wp
 rw [run1, Oper.upon_value]
 unfold wpOps
 simp only [List.getElem?_toArray, List.getElem?_cons_succ, List.getElem?_cons_zero]
 rw [if_pos (w1 _ _ rfl)]
 refine .inl ?_
 unfold Oper.wp
 rw [run2, Oper.upon_defer]
 exact hfin
theorem aCk {ops : Array Oper} {cs : List Frame} {Q : Exit → Act → List Frame → World → Prop} (hQ : ¬ LetsOut fun e a w => Q e a cs w) : ∀ (l : List Nat) (a : Act) (w : World), wpOps P ops (fun e a w => Q e a cs w) l a w → wpOpsS P ops Q l a cs w
 | [], a, w, hh => hh
 | i :: rest, a, w, hh => by
  unfold wpOps at hh
  unfold wpOpsS
  cases ho : ops[i]? with
  | none => simp only [ho] at hh ⊢; exact aCk hQ rest a w hh
  | some o =>
   simp only [ho] at hh ⊢
   split
   ·rename_i hw
    simp only [hw, if_true] at hh
    have hh := Oper.wp_mono (fun a w => aCk hQ rest a w) (hh.resolve_right fun q => hQ q.2)
    unfold Oper.wp at hh
    revert hh
    generalize (execOp a.eval o).run P w = r
    intro hh
    split
    ·exact hh.elim
    ·exact hh
   ·rename_i hw
    simp only [hw, if_false] at hh
    exact aCk hQ rest _ w hh
def aSm : Option Pan → AV
 | none => .val .nili ()
 | some p => .val (.ifc p.k p.t) p.x
theorem aSn {g : FuncId} {fn : Func} {rest : Code} {id : Nat} {ops : Array Oper} {sp : pL} {mode : Option Pan} {t5 : Nat} {ty : TypeId} {pos : String} {aft : Array Edge} (hE : eT P E) (hf : P.funcs[g]? = some fn) (hb : fn.body = some (.seq (.region id ops false) rest)) (hok : gD fn.ntmps (.seq (.region id ops false) rest) = true) (hn : ∀ d, (sp.av d).length ≤ fn.ntmps)
  (h0 : ops[0]? = some ⟨some t5, .call ⟨.builtin .recover, #[], #[]⟩, ty, pos, aft, none⟩)
  (ht : ∀ (c : Ctx) (w : World) (d : sp.D), AV.wfL (sp.av d) → Obj.wfL (sp.hp d) → sp.pre d → c.n = (sp.hp d).length →
   qN E ops.toList (ops.toList.drop 1) ((t5, aSm mode) :: aPs (sp.av d) 0) (sp.hp d) (fun env h => Tri ⟨P, E, GM sp c d, w, fn.ntmps, []⟩ rest (bodyPost P fn (aGr sp c w d)) env h)) : DOK P E.G g mode sp := by
 intro c w d vs u hp hin hu
 refine callsD_of_wpS hf hb fun c₀ cs hc₀ => ?_
 have hok' := hok
 simp only [gD, Bool.and_eq_true] at hok'
 obtain ⟨⟨⟨hok1, _⟩, _⟩, hok2⟩ := hok'
 refine wpS_seq (wpS_region ?_)
 have hsz : 0 < ops.size := by
  rcases Nat.lt_or_ge 0 ops.size with h | h
  ·exact h
  ·rw [Array.getElem?_eq_none h] at h0; cases h0
 obtain ⟨n, hn'⟩ : ∃ n, ops.size = n + 1 := ⟨ops.size - 1, by omega⟩
 have hrange : List.range ops.size = 0 :: List.range' 1 n := by rw [hn', List.range_eq_range', List.range'_succ]
 rw [hrange]
 unfold wpOpsS
 have w1 : ∀ (o : Oper) (y : Nat → Option Bool), o.guard = none → Region.wanted o y = true := fun o y h => by simp [Region.wanted, h]
 simp only [h0]
 rw [if_pos (w1 _ _ rfl)]
 have hrun : ∀ ρ, (execOp ρ ⟨some t5, .call ⟨.builtin .recover, #[], #[]⟩, ty, pos, aft, none⟩).run P w = .ok .recover w := fun ρ => by
  simp [execOp, resolve, invoke, builtin]
 rw [hrun]
 have key : ∀ v, aJ c w (aSm mode) v → wpOpsS P ops (Exit.thenS (rest.wpS P (bodyPostS P fn c₀ cs fun e u' w' => u' = m1 mode u ∧ aGr sp c w d e w')) (bodyPostS P fn c₀ cs fun e u' w' => u' = m1 mode u ∧ aGr sp c w d e w')) (List.range' 1 n) (({ tmps := vs ++ Array.replicate (fn.ntmps - vs.size) undef, defers := [] } : Act).put (some t5) v) ({ c₀ with mode := m1 mode u } :: cs) w := fun v hv => by
  refine aCk ?_ _ _ _ ?_
  ·rintro ⟨a', w', u', _, e⟩
   obtain ⟨c', e⟩ := e
   split at e <;> (obtain ⟨_, e, _⟩ := e; cases e)
  ·have hsim : Sim E (GM sp c d) w fn.ntmps [] c ((t5, aSm mode) :: aPs (sp.av d) 0) (sp.hp d) (({ tmps := vs ++ Array.replicate (fn.ntmps - vs.size) undef, defers := [] } : Act).put (some t5) v) w := by
    have hlen := hin.len
    have hnn := hn d
    simp at hlen
    have hsz2 : (vs ++ Array.replicate (fn.ntmps - vs.size) undef).size = fn.ntmps := by simp; omega
    have ht5 : t5 < fn.ntmps := by
     have h0' : ops.toList[0]? = some ⟨some t5, .call ⟨.builtin .recover, #[], #[]⟩, ty, pos, aft, none⟩ := by simpa using h0
     have := List.all_eq_true.1 hok1 _ (List.mem_of_getElem? h0')
     simp only [fE, Bool.and_eq_true] at this
     simpa using this.2
    refine ⟨hin.good, hin.glob, ?_, by simpa [Act.put] using hsz2, rfl⟩
    refine aC5.put (a := { tmps := vs ++ Array.replicate (fn.ntmps - vs.size) undef, defers := [] }) ?_ (by rw [hsz2]; exact ht5) hv
    refine aNt _ vs.toList 0 hin.len hin.val fun i v hv => ?_
    have hlt : i < vs.size := by
     rcases Nat.lt_or_ge i vs.size with hh | hh
     ·exact hh
     ·rw [List.getElem?_eq_none (by simpa using hh)] at hv; cases hv
    simp only [Nat.zero_add]
    have : vs[i]? = some v := by rw [← Array.getElem?_toList]; exact hv
    simp [Array.getElem?_append, hlt]
    rw [Array.getElem?_eq_getElem hlt] at this
    simpa using this
   have := aGn (P := P) (ops := ops.toList) (Q := fun e a w' => Exit.thenS (rest.wpS P (bodyPostS P fn c₀ cs fun e u' w' => u' = m1 mode u ∧ aGr sp c w d e w')) (bodyPostS P fn c₀ cs fun e u' w' => u' = m1 mode u ∧ aGr sp c w d e w') e a ({ c₀ with mode := m1 mode u } :: cs) w') hE (List.all_eq_true.1 hok1) (fun env h c' a w' hk hs => by
    refine wpS_of_wp (wp_mono (hk hok2 c' a w' hs) fun e a w' hq => ?_)
    cases e with
    | normal => obtain ⟨q1, v, q2, q3⟩ := hq; exact ⟨q1, _, rfl, v, q2, rfl, q3⟩
    | ret => obtain ⟨q1, v, q2, q3⟩ := hq; exact ⟨q1, _, rfl, v, q2, rfl, q3⟩
    | panic ch => obtain ⟨q1, q3⟩ := hq; exact ⟨q1, _, rfl, rfl, q3⟩
    | outgrown => exact ⟨_, rfl, hq⟩
    | exit id => exact hq.elim
    | goto l => exact hq.elim) n 1 (by simp; omega) _ _ c _ w (ht c w d (aNu hin.len hin.val) (aQr hin.good) hp hin.good.n) hsim
   simpa using this
 cases mode with
 | none =>
  have e : c₀.mode = .returning := hc₀
  have e2 : ({ c₀ with mode := .returning } : Frame) = c₀ := by rw [← e]
  have := key .nilIface (aJ.ofV (by unfold cS; rw [if_neg (by simp [Ty.isAgg])]; exact rfl))
  simp only [m1, e2] at this
  simpa [recoverD, e, m1] using this
 | some p =>
  have e : c₀.mode = .panicking (aL3 p.k u) := hc₀
  have := key (.iface p.k u) (aJ.ofV (by
   unfold cS
   rw [if_neg (by simp [Ty.isAgg])]
   have hr := hu p rfl
   unfold cS at hr
   split at hr
   ·rename_i ha
    obtain ⟨ds, e1, e2⟩ := hr
    exact ⟨u, ds.toList, rfl, fun _ => by simpa using e1, (fun h => by rw [ha] at h; cases h), e2⟩
   ·rename_i ha
    exact ⟨u, [u], rfl, fun h => absurd h ha, fun _ => rfl, hr⟩))
  simp only [m1] at this
  simpa [recoverD, e, aL3, m1] using this
end
end Go.Vc
namespace Go.Vc
open Go.RowKit
def ck {α : Type} (p : Prop) [Decidable p] (k : Option α) : Option α := if p then k else none
theorem aL {α : Type} {p : Prop} [Decidable p] {k : Option α} {r : α} (h : ck p k = some r) : p ∧ k = some r := by
 unfold ck at h
 split at h
 ·rename_i hp; exact ⟨hp, h⟩
 ·cases h
theorem aUs {α : Type} {p : Prop} [Decidable p] {k : Option α} (hp : p) : ck p k = k := if_pos hp
theorem gS {α : Type} {p : Prop} [Decidable p] {x y : α} {r : α} (hp : p) (h : (if p then x else y) = r) : x = r := by rwa [if_pos hp] at h
theorem gT {α : Type} {p : Prop} [Decidable p] {x y : α} {r : α} (hp : ¬ p) (h : (if p then x else y) = r) : y = r := by rwa [if_neg hp] at h
abbrev I64 (x : Int) : Prop := -9223372036854775808 ≤ x ∧ x ≤ 9223372036854775807
abbrev I32 (x : Int) : Prop := -2147483648 ≤ x ∧ x ≤ 2147483647
section
variable {D E R : Type} {step : D → Option (D ⊕ E)}
def iter (step : D → Option (D ⊕ E)) : Nat → D → Option E
 | 0, _ => none
 | n + 1, d => match step d with
  | none => none
  | some (.inl d') => iter step n d'
  | some (.inr e) => some e
theorem aHP : ∀ {n : Nat} {d : D} {e : E}, iter step n d = some e → iter step (n + 1) d = some e
 | 0, d, e, h => by cases h
 | n + 1, d, e, h => by
  unfold iter at h ⊢
  cases hs : step d with
  | none => rw [hs] at h; cases h
  | some s =>
   rw [hs] at h
   cases s with
   | inl d' => exact aHP (n := n) h
   | inr e' => exact h
theorem aQy {n m : Nat} (hm : n ≤ m) {d : D} {e : E} (h : iter step n d = some e) : iter step m d = some e := by
 induction hm with
 | refl => exact h
 | step _ ih => exact aHP ih
theorem aMX {n m : Nat} {d : D} {e e' : E} (h : iter step n d = some e) (h' : iter step m d = some e') : e = e' := by
 have h1 := aQy (Nat.le_max_left n m) h
 have h2 := aQy (Nat.le_max_right n m) h'
 rw [h1] at h2; exact Option.some.inj h2
open Classical in
noncomputable def aMY (step : D → Option (D ⊕ E)) (d : D) : Option E := if h : ∃ e, ∃ n, iter step n d = some e then some (Classical.choose h) else none
theorem aMZ {d : D} {e : E} : aMY step d = some e ↔ ∃ n, iter step n d = some e := by
 unfold aMY
 constructor
 ·intro h
  split at h
  ·rename_i hx
   have := Classical.choose_spec hx
   rw [Option.some.inj h] at this; exact this
  ·cases h
 ·rintro ⟨n, h⟩
  have hx : ∃ e, ∃ n, iter step n d = some e := ⟨e, n, h⟩
  rw [dif_pos hx]
  obtain ⟨m, hm⟩ := Classical.choose_spec hx
  rw [aMX hm h]
theorem aFu {n : Nat} {d : D} {e : E} (h : iter step n d = some e) : aMY step d = some e := aMZ.2 ⟨n, h⟩
theorem aGu {p : Nat → Prop} (h : ∃ n, p n) : ∃ n, p n ∧ ∀ m, p m → n ≤ m := by
 classical
 obtain ⟨n, hn⟩ := h
 induction n using Nat.strongRecOn with
 | _ n ih =>
  by_cases hh : ∃ m, m < n ∧ p m
  ·obtain ⟨m, hm, hp⟩ := hh; exact ih m hm hp
  ·exact ⟨n, hn, fun m hm => Nat.le_of_not_lt fun hlt => hh ⟨m, hlt, hm⟩⟩
open Classical in
noncomputable def aCl (step : D → Option (D ⊕ E)) (d : D) : Nat := if h : ∃ n, (iter step n d).isSome = true then Classical.choose (aGu h) else 0
theorem aQz {d : D} {e : E} (h : aMY step d = some e) : iter step (aCl step d) d = some e ∧ ∀ m e', iter step m d = some e' → aCl step d ≤ m := by
 obtain ⟨n, hn⟩ := aMZ.1 h
 have hx : ∃ n, (iter step n d).isSome = true := ⟨n, by rw [hn]; rfl⟩
 have hs := Classical.choose_spec (aGu hx)
 have e1 : aCl step d = Classical.choose (aGu hx) := by unfold aCl; rw [dif_pos hx]
 rw [← e1] at hs
 refine ⟨?_, fun m e' hm => hs.2 m (by rw [hm]; rfl)⟩
 cases hi : iter step (aCl step d) d with
 | none => have := hs.1; rw [hi] at this; cases this
 | some e' => rw [aMX hi hn]
abbrev Md := Option Nat
noncomputable def dB (F : Md) (step : D → Option (D ⊕ E)) (d : D) : Option E := match F with
 | none => aMY step d
 | some n => iter step n d
noncomputable abbrev aOC (step : D → Option (D ⊕ E)) (d : D) : Option E := dB none step d
theorem aKX {n : Nat} {d : D} {e : E} (h : iter step n d = some e) : aOC step d = some e := aFu h
theorem aTB {F : Md} {d : D} {e : E} (h : dB F step d = some e) : aMY step d = some e := by
 cases F with
 | none => exact h
 | some n => exact aFu h
def nZ (A : D → Prop) (B : E → Prop) : D ⊕ E → Prop
 | .inl d => A d
 | .inr e => B e
theorem aKY {k : E → Option R} {r : R} {F : Md} {d : D} (hd : (dB F step d).bind k = some r) : ∃ s, step d = some s ∧ nZ (fun d' => (dB F step d').bind k = some r ∧ aCl step d' < aCl step d) (fun e => k e = some r) s := by
 cases hl : dB F step d with
 | none => rw [hl] at hd; cases hd
 | some e =>
  rw [hl] at hd
  have hk : k e = some r := hd
  obtain ⟨hi, hmin⟩ := aQz (aTB hl)
  cases hn : aCl step d with
  | zero => rw [hn] at hi; cases hi
  | succ n =>
   rw [hn, iter] at hi
   split at hi
   ·cases hi
   ·rename_i d' hs
    have hz := aFu hi
    have hl' : dB F step d' = some e := by
     cases F with
     | none => exact hz
     | some m =>
      have hm : iter step m d = some e := hl
      cases m with
      | zero => cases hm
      | succ m =>
       rw [iter, hs] at hm
       exact aHP hm
    refine ⟨_, hs, ?_⟩
    refine ⟨by rw [hl']; exact hk, ?_⟩
    have := (aQz hz).2 n e hi
    show aCl step d' < n + 1
    omega
   ·rename_i e' hs
    refine ⟨_, hs, ?_⟩
    rw [Option.some.inj hi]; exact hk
theorem aGv {I : D → Prop} (μ : D → Nat) (f : D → E) (h : ∀ d, I d → (∃ d', step d = some (.inl d') ∧ I d' ∧ μ d' < μ d ∧ f d' = f d) ∨ step d = some (.inr (f d))) : ∀ d, I d → aOC step d = some (f d) := by
 have main : ∀ n d, μ d ≤ n → I d → ∃ m, iter step m d = some (f d) := by
  intro n
  induction n with
  | zero =>
   intro d hn hi
   rcases h d hi with ⟨d', _, _, hlt, _⟩ | hs
   ·omega
   ·exact ⟨1, by rw [iter, hs]⟩
  | succ n ih =>
   intro d hn hi
   rcases h d hi with ⟨d', hs, hi', hlt, hf⟩ | hs
   ·obtain ⟨m, hm⟩ := ih d' (by omega) hi'
    exact ⟨m + 1, by rw [iter, hs]; simp only; rw [hm, hf]⟩
   ·exact ⟨1, by rw [iter, hs]⟩
 intro d hi
 obtain ⟨m, hm⟩ := main (μ d) d (Nat.le_refl _) hi
 exact aKX hm
theorem tE {I : D → Prop} (μ : D → Nat) (Q : E → Prop) (h : ∀ d, I d → (∃ d', step d = some (.inl d') ∧ I d' ∧ μ d' < μ d) ∨ ∃ e, step d = some (.inr e) ∧ Q e) : ∀ d, I d → ∃ e, aOC step d = some e ∧ Q e := by
 have main : ∀ n d, μ d ≤ n → I d → ∃ m e, iter step m d = some e ∧ Q e := by
  intro n
  induction n with
  | zero =>
   intro d hn hi
   rcases h d hi with ⟨d', _, _, hlt⟩ | ⟨e, hs, hq⟩
   ·omega
   ·exact ⟨1, e, by rw [iter, hs], hq⟩
  | succ n ih =>
   intro d hn hi
   rcases h d hi with ⟨d', hs, hi', hlt⟩ | ⟨e, hs, hq⟩
   ·obtain ⟨m, e, hm, hq⟩ := ih d' (by omega) hi'
    exact ⟨m + 1, e, by rw [iter, hs]; exact hm, hq⟩
   ·exact ⟨1, e, by rw [iter, hs], hq⟩
 intro d hi
 obtain ⟨m, e, hm, hq⟩ := main (μ d) d (Nat.le_refl _) hi
 exact ⟨e, aKX hm, hq⟩
end
noncomputable def tF (F : Md) (k : IntKind) (a b : Nat) : Nat := match F with
 | none => aRs k a b
 | some _ => (a + (gL k - b)) % gL k
noncomputable def mulM (F : Md) (k : IntKind) (a b : Nat) : Nat := match F with
 | none => aRt k a b
 | some _ => (a * b) % gL k
noncomputable def aPt (F : Md) (k : IntKind) (a : Nat) : Nat := match F with
 | none => aRu k a
 | some _ => (0 + (gL k - a)) % gL k
theorem aQA {F : Md} {k : IntKind} {a b : Nat} : tF F k a b = aRs k a b := by
 cases F with
 | none => rfl
 | some _ => exact (aJ7 k a b).symm
theorem aTC {F : Md} {k : IntKind} {a b : Nat} : mulM F k a b = aRt k a b := by
 cases F with
 | none => rfl
 | some _ => exact (aPV k a b).symm
theorem aTD {F : Md} {k : IntKind} {a : Nat} : aPt F k a = aRu k a := by
 cases F with
 | none => rfl
 | some _ => exact (aPX k a).symm
theorem bG (F : Md) {k : IntKind} {a b : Nat} : aRs k a b = tF F k a b := aQA.symm
theorem bH (F : Md) {k : IntKind} {a b : Nat} : aRt k a b = mulM F k a b := aTC.symm
theorem bI (F : Md) {k : IntKind} {a : Nat} : aRu k a = aPt F k a := aTD.symm
def qA (h : List Obj) : List (Nat ⊕ Obj) → List Obj
 | [] => []
 | .inl i :: r => h.getD i .dead :: qA h r
 | .inr o :: r => o :: qA h r
section
variable {F : Fr} {Q : Exit → Act → World → Prop} {env : St} {h : List Obj}
theorem tL {x y : Code} {D : Type} (J : D → Prop) (keep : List Nat) (uE : D → St) (uO : D → List (Nat ⊕ Obj))
  (hx : Tri F x (Exit.then (fun a' w' => ∃ d' c', J d' ∧ Sim F.E F.M F.w0 F.nt F.ds c' (aFp env keep (uE d')) (qA h (uO d')) a' w') Q) env h)
  (hy : ∀ d, J d → Tri F y Q (aFp env keep (uE d)) (qA h (uO d))) : Tri F (.seq x y) Q env h :=
 aOn J (fun d => aFp env keep (uE d)) (fun d => qA h (uO d)) hx hy
theorem pB {x : Code} {D E R : Type} {G : Md} {step : D → Option (D ⊕ E)} {k : E → Option R} {r : R} {d0 : D} (keep : List Nat) (uE : D → St) (uO : D → List (Nat ⊕ Obj))
  (hd : (dB G step d0).bind k = some r) (hh : h = qA h (uO d0)) (hf : mX h env (aFp env keep (uE d0)))
  (round : ∀ d s, step d = some s → nZ (fun d' => (dB G step d').bind k = some r ∧ aCl step d' < aCl step d) (fun e => k e = some r) s → Tri F x (Exit.then (fun a' w' => ∃ d' c', ((dB G step d').bind k = some r ∧ aCl step d' < aCl step d) ∧ Sim F.E F.M F.w0 F.nt F.ds c' (aFp env keep (uE d')) (qA h (uO d')) a' w') Q) (aFp env keep (uE d)) (qA h (uO d))) : Tri F (.loop x) Q env h :=
 aOm (fun d => (dB G step d).bind k = some r) (aCl step) (fun d => aFp env keep (uE d)) (fun d => qA h (uO d)) (aQ d0 hd hh hf) fun d hi => by
  obtain ⟨s, h1, h2⟩ := aKY hi
  exact round d s h1 h2
end
theorem aM0 {F : Fr} {Q : Exit → Act → World → Prop} {env : St} {h : List Obj} {id : Nat} {ops : Array Oper} {t0 t3 t4 : Nat} {tt ty0 ty1 ty2 : TypeId} {pos1 pos2 : String} {aft1 aft2 : Array Edge} {ct : Ty} {xs : List ct.den} (hF : kP F)
  (hops : ops = #[⟨some t3, .move (.tmp t0), ty1, pos1, aft1, none⟩, ⟨some t4, .binOp .eql tt (.tmp t3) (.const (.slice none 0 0)) ty0, ty2, pos2, aft2, none⟩])
  (hT : F.E.T tt = some (.sl ct)) (hv : look env t0 = .val (.sl ct) xs)
  (hq : ∀ b : Bool, (b = true → xs = []) → At F (Q .normal) ((t4, .val .bool b) :: (t3, .val (.sl ct) xs) :: env) h) : Tri F (.region id ops false) Q env h := fun hok c a w hs => by
 simp only [gD, Bool.and_eq_true] at hok
 obtain ⟨⟨hok1, _⟩, _⟩ := hok
 subst hops
 have hall := List.all_eq_true.1 hok1
 have hk1 := hall ⟨some t3, .move (.tmp t0), ty1, pos1, aft1, none⟩ (by simp)
 have hk2 := hall ⟨some t4, .binOp .eql tt (.tmp t3) (.const (.slice none 0 0)) ty0, ty2, pos2, aft2, none⟩ (by simp)
 have h0 := hs.env t0
 rw [hv] at h0
 obtain ⟨⟨ad, len, cap, e1, e2⟩, _, e3⟩ := h0
 have hval : a.tmps.getD t0 Go.undef = .slice ad len cap := by
  have e3 := e3 rfl
  revert e1 e3
  generalize a.tmps.getD t0 Go.undef = sv
  intro e1 e3
  cases sv <;> simp [Value.cells] at e1 e3 <;> simp [e1]
 have h0 := hs.env t0
 rw [hv] at h0
 have s1 := hs.after hk1 (v := a.tmps.getD t0 Go.undef) (av := .val (.sl ct) xs) ⟨.refl _ _, hs.good, h0⟩
 have ht3 : t3 < a.tmps.size := by
  simp only [fE, Bool.and_eq_true] at hk1
  rw [hs.size]; simpa using hk1.2
 have s2 := s1.after hk2 (v := .bool ad.isNone) (av := .val .bool ad.isNone) ⟨.refl _ _, s1.good, uG _⟩
 refine wp_region ?_
 have run1 : (execOp a.eval ⟨some t3, .move (.tmp t0), ty1, pos1, aft1, none⟩).run F.P w = .ok (.value (a.tmps.getD t0 Go.undef)) w := by
  simp [execOp, Act.eval]
 have hget : (a.put (some t3) (a.tmps.getD t0 Go.undef)).eval (.tmp t3) = .slice ad len cap := by
  rw [hval]; simp [Act.eval, Act.put, ht3]
 obtain ⟨_, hd, _⟩ := dZ (hF.env.T _ _ hT)
 have run2 : (execOp (a.put (some t3) (a.tmps.getD t0 Go.undef)).eval ⟨some t4, .binOp .eql tt (.tmp t3) (.const (.slice none 0 0)) ty0, ty2, pos2, aft2, none⟩).run F.P w = .ok (.value (.bool ad.isNone)) w := by
  have hc : (a.put (some t3) (a.tmps.getD t0 Go.undef)).eval (.const (.slice none 0 0)) = .slice none 0 0 := rfl
  have hq : ∀ d, (Op.equalIn (d + 1) tt (.slice ad len cap) (.slice none 0 0)).run F.P w = .ok ad.isNone w := fun d => by
   unfold Op.equalIn
   rw [Sem.run_bind, aN hd]
   cases ad <;> rfl
  have hb : (binOp .eql tt (.slice ad len cap) (.slice none 0 0)).run F.P w = .ok (.bool ad.isNone) w := by
   have e : binOp .eql tt (.slice ad len cap) (.slice none 0 0) = (do pure (.bool (← Op.equal tt (.slice ad len cap) (.slice none 0 0)))) := by unfold binOp; rfl
   rw [e, Sem.run_bind, Op.equal, show Op.maxDepth = (Op.maxDepth - 1) + 1 from rfl, hq]
   rfl
  have hg : (eqGuard .eql tt (.tmp t3) (.const (.slice none 0 0)) (.slice ad len cap) (.slice none 0 0)).run F.P w = .ok () w := by
   unfold eqGuard; rfl
  generalize hρ : (a.put (some t3) (a.tmps.getD t0 Go.undef)).eval = ρ at hget hc ⊢
  simp only [execOp, hget, hc]
  simp [hb, hg]
 have w1 : ∀ (o : Oper) (y : Nat → Option Bool), o.guard = none → Region.wanted o y = true := fun o y h => by simp [Region.wanted, h]
 show wpOps F.P _ _ [0, 1] a w
 unfold wpOps
 simp only [List.getElem?_toArray, List.getElem?_cons_zero]
 rw [if_pos (w1 _ _ rfl)]
 refine .inl ?_
 unfold Oper.wp
 rw [run1, Oper.upon_value]
 unfold wpOps
 simp only [List.getElem?_toArray, List.getElem?_cons_succ, List.getElem?_cons_zero]
 rw [if_pos (w1 _ _ rfl)]
 refine .inl ?_
 unfold Oper.wp
 rw [run2, Oper.upon_value]
 refine hq ad.isNone (fun hn => ?_) c _ w s2
 obtain ⟨_, _, _, e4⟩ := e2
 rcases e4 with e4 | ⟨b, off, e4, _⟩
 ·exact e4
 ·rw [e4] at hn; cases hn
theorem dK {F : Fr} {fn : Func} {S : Nat → Prop} {r : RK} {y : r.ty.den} {env : St} {h : List Obj} (hF : kP F) (l : List ResultVar) (hM : F.M = top S) (hds : F.ds = []) (hr : fn.results = l.toArray) (hy : (aM F.E.T h env l).1 ∧ fJ h r y (aM F.E.T h env l).2) : At F (post F.P fn S F.w0 r y .ret) env h := fun c a w hs => by
 obtain ⟨us, q1, q2, q3⟩ := aAk (P := F.P) hF.env.T hs.good hs.env hr hy.1
 refine ⟨hs.defers.trans hds, aCP us, q1, aCP us, rfl, by have := hs.good.keeps; rw [hM] at this; exact this, ?_⟩
 exact aSl (by rw [hM]) (by rw [hM]) hs.good q2 (fun i h1 h2 => q3 i h1 h2) hy.2
def aKZ (i : Nat) (t : Ty) (x : t.den) : AV → AV
 | .ptr j [] => if j = i then .roa t x else .ptr j []
 | .ptr j p => if j = i then .junk else .ptr j p
 | .agg _ => .junk
 | .tup _ => .junk
 | .fn f l1 l2 => if l1.contains i || l2.contains i then .junk else .fn f l1 l2
 | v => v
theorem Good.shut {M : Perm} {w0 : World} {c : Ctx} {h : List Obj} {w : World} (hg : Good M w0 c h w) {i n : Nat} {t : Ty} {x : t.den} (ho : h[i]? = some (.box n (.val t x))) :
  ∃ c', cW c w c' w ∧ c'.n = c.n ∧ Good M w0 c' (h.set i .dead) w ∧ ∀ v, aJ c w (.ptr i []) v → aJ c' w (.roa t x) v := by
 have hob := hg.objs i _ ho
 have hle : c.le (c.more (aK (c.hd i))) := ⟨fun b hb => .inl hb, Nat.le_refl _, fun _ _ => rfl⟩
 have hl : cW c w (c.more (aK (c.hd i))) w := ⟨hle, .refl _ _⟩
 have hil : i < h.length := iO ho
 have hcase : ∀ j oj, (h.set i .dead)[j]? = some oj → (j ≠ i ∧ h[j]? = some oj) ∨ (j = i ∧ oj = .dead) := fun j oj hj => by
  by_cases e : i = j
  ·subst e; simp [hil] at hj; exact .inr ⟨rfl, hj.symm⟩
  ·rw [List.getElem?_set_ne e] at hj; exact .inl ⟨fun h => e h.symm, hj⟩
 refine ⟨_, hl, rfl, ⟨by simp [Ctx.more, hg.n], hg.keeps, fun b hb => ?_, fun b hb hlt => ?_, fun j oj hj => ?_, fun j oj b hj hb => ?_, fun j k oj ok b hj hk hbj hbk => ?_, uD hg.root hle⟩, fun v hv => ?_⟩
 ·rcases hb with hb | hb
  ·exact hg.sfin b hb
  ·exact (hg.own i _ b ho hb).2.1
 ·rcases hb with hb | hb
  ·exact hg.src b hb hlt
  ·rcases (hg.own i _ b ho hb).1 with h1 | h1
   ·omega
   ·exact .inr h1
 ·rcases hcase j oj hj with ⟨hne, hj⟩ | ⟨rfl, rfl⟩
  ·exact (hg.objs j oj hj).keep hl (by rw [hg.n]; exact iO hj) rfl (fun _ _ => rfl)
  ·trivial
 ·rcases hcase j oj hj with ⟨hne, hj⟩ | ⟨rfl, rfl⟩
  ·obtain ⟨h1, h2, h3⟩ := hg.own j oj b hj (by cases oj <;> exact hb)
   refine ⟨h1, h2, fun hS => ?_⟩
   rcases hS with hS | hS
   ·exact h3 hS
   ·exact hne (hg.sep j i oj _ b hj ho (by cases oj <;> exact hb) hS)
  ·cases hb
 ·rcases hcase j oj hj with ⟨hnj, hj⟩ | ⟨rfl, rfl⟩
  ·rcases hcase k ok hk with ⟨hnk, hk⟩ | ⟨rfl, rfl⟩
   ·exact hg.sep j k oj ok b hj hk (by cases oj <;> exact hbj) (by cases ok <;> exact hbk)
   ·cases hbk
  ·cases hbj
 ·obtain ⟨b, cells, e, h1, h2, h3, h4⟩ := hob
  obtain ⟨⟨_, b', hb', e1⟩, _, e3⟩ := hv
  have e3 := e3 rfl
  rw [h1] at hb'
  simp only [aK, Option.some.injEq] at hb'
  subst hb'
  have ev : v = .pointer (some ⟨b, 0, none⟩) := by
   cases v <;> simp [Value.cells, jT] at e1 e3 <;> simp [e1]
  rw [ev]
  have h4 : aO w c.S t x cells.toList := h4
  refine aB7 (ds := cells.toList) (.inr (by rw [h1]; rfl)) (aO.keep (fun b hb => .inl hb) (.refl _ _) _ _ _ h4) fun j u hj => ?_
  simp only [Nat.zero_add]
  unfold World.cell?
  simp only [h2]
  simpa using hj
theorem aTE {F : Fr} {K : Act → World → Prop} {env : St} {h : List Obj} (i : Nat) {n : Nat} {t : Ty} {x : t.den} (ho : h[i]? = some (.box n (.val t x))) (hk : At F K (env.map fun p => (p.1, aKZ i t x p.2)) (h.set i .dead)) : At F K env h := fun c a w hs => by
 obtain ⟨c', hl, hn, hg, hv⟩ := hs.good.shut ho
 refine hk c' a w ⟨hg, hs.glob.mono hl.le.S hl.same, fun s => ?_, hs.size, hs.defers⟩
 rw [aDJ (aKZ i t x) rfl]
 have h0 := hs.env s
 generalize look env s = v at h0
 generalize a.tmps.getD s Go.undef = u at h0
 cases v with
 | ptr j p =>
  cases p with
  | nil =>
   simp only [aKZ]
   split
   ·rename_i e; subst e; exact hv u h0
   ·exact hl.val h0
  | cons _ _ =>
   simp only [aKZ]
   split
   ·trivial
   ·exact hl.val h0
 | fn f l1 l2 =>
  simp only [aKZ]
  split
  ·trivial
  ·exact hl.val h0
 | agg vs => trivial
 | tup vs => trivial
 | _ => exact hl.val h0
theorem xW {F : Fr} {x : Code} {Q : Exit → Act → World → Prop} {env : St} {h : List Obj} (i : Nat) {n : Nat} {t : Ty} {y : t.den} (ho : h[i]? = some (.box n (.val t y))) (hk : Tri F x Q (env.map fun p => (p.1, aKZ i t y p.2)) (h.set i .dead)) : Tri F x Q env h := fun hok => aTE i ho (hk hok)
def mSpec (a : Ty) (r : RK) (m : a.den → Option r.ty.den) : aF := ⟨a, r, fun x => (m x).isSome = true, fun x => (m x).getD r.ty.zero⟩
section
variable {P : Program} {E : Env}
theorem jX {f : FuncId} {fn : Func} {body : Code} {a : Ty} {r : RK} {m : a.den → Option r.ty.den} (hE : eT P E) (hf : P.funcs[f]? = some fn) (hb : fn.body = some body) (hok : gD fn.ntmps body = true) (hn : aIB a ≤ fn.ntmps)
  (ht : ∀ (w0 : World) (S : Nat → Prop) (x : a.den) (y : r.ty.den), a.wf x → m x = some y → Tri (fr P E S w0 fn.ntmps) body (post P fn S w0 r y) (bJ a x 0) []) : FOK P E.G f (mSpec a r m) :=
 aPk hE hf hb hok hn fun w0 S x hw hp => by
  have hp : (m x).isSome = true := hp
  obtain ⟨y, hy⟩ := Option.isSome_iff_exists.1 hp
  have e : (mSpec a r m).fn x = y := by show (m x).getD r.ty.zero = y; rw [hy]; rfl
  rw [e]
  exact ht w0 S x y hw hy
theorem aM1 {G : Nat → AV} {f : FuncId} {a : Ty} {r : RK} {m : a.den → Option r.ty.den} {pre : a.den → Prop} {fn : a.den → r.ty.den} (h : FOK P G f (mSpec a r m)) (hc : ∀ x, a.wf x → pre x → m x = some (fn x)) : FOK P G f ⟨a, r, pre, fn⟩ := fun w S vs x hS hG ha hp => by
 have hm := hc x (aGk _ _ _ ha) hp
 have := h w S vs x hS hG ha (by show (m x).isSome = true; rw [hm]; rfl)
 have e : (mSpec a r m).fn x = fn x := by show (m x).getD r.ty.zero = fn x; rw [hm]; rfl
 rw [e] at this
 exact this
end
attribute [go_sem] qA aKZ
end Go.Vc
namespace Go.Vc
open Go.RowKit
def aSo : List (FuncId × Hit) → FuncId → List AV → List Obj → Option Hit
 | [], _, _, _ => none
 | (k, t) :: r, f, vs, h => if k = f then some t else aSo r f vs h
structure aHQ (P : Program) (G : Nat → AV) (l : List (FuncId × Hit)) : Prop where
 ok : ∀ p ∈ l, GOK P G p.1 p.2.sp ∧ fnB P p.1 = true
theorem aHQ.nil {P : Program} {G : Nat → AV} : aHQ P G [] := ⟨fun p hp => by cases hp⟩
theorem aHQ.cons {P : Program} {G : Nat → AV} {l : List (FuncId × Hit)} {f : FuncId} {t : Hit} (h : GOK P G f t.sp) (hf : fnB P f = true) (hl : aHQ P G l) : aHQ P G ((f, t) :: l) := by
 refine ⟨fun p hp => ?_⟩
 rcases List.mem_cons.1 hp with rfl | hp
 ·exact ⟨h, hf⟩
 ·exact hl.ok p hp
theorem aK0 : ∀ {l : List (FuncId × Hit)} {f : FuncId} {vs : List AV} {h : List Obj} {t : Hit}, aSo l f vs h = some t → (f, t) ∈ l
 | (k, s) :: r, f, vs, h, t, e => by
  simp only [aSo] at e
  split at e
  ·rename_i ek; subst ek; cases e; exact List.mem_cons_self
  ·exact List.mem_cons_of_mem _ (aK0 e)
theorem aGw {P : Program} {f : FuncId} (h : fnB P f = true) : ∃ fn, P.funcs[f]? = some fn ∧ fn.name ≠ "runtime.NumGoroutine" ∧ fn.body.isSome = true := by
 unfold fnB at h
 split at h
 ·rename_i fn hf
  simp only [Bool.and_eq_true, decide_eq_true_eq] at h
  exact ⟨fn, hf, h⟩
 ·cases h
theorem eL {P : Program} {G : Nat → AV} {l : List (FuncId × Hit)} (h : aHQ P G l) : aFs P G (aSo l) :=
 ⟨fun f vs hh t e => (h.ok _ (aK0 e)).1, fun f vs hh t e => aGw (h.ok _ (aK0 e)).2⟩
theorem bind_some {α β : Type} {x : Option α} {k : α → Option β} {r : β} (h : x.bind k = some r) : ∃ e, x = some e ∧ k e = some r := by
 cases x with
 | none => cases h
 | some e => exact ⟨e, rfl, h⟩
def rpV : AV → AV
 | .val (.rp t) x => .roa t x
 | v => v
theorem aUt {c : Ctx} {w : World} {v : AV} {x : Value} (hv : aJ c w v x) : aJ c w (rpV v) x := by
 cases v with
 | val t y =>
  cases t with
  | rp t =>
   obtain ⟨⟨b, off, ds, e, hb, hd, hc⟩, _, h3⟩ := hv
   have h3 := h3 rfl
   have ex : x = .pointer (some ⟨b, off, none⟩) := by
    cases x <;> simp [Value.cells] at e h3 <;> simp [e]
   rw [ex]
   exact aB7 hb hd hc
  | _ => exact hv
 | _ => exact hv
section
variable {P : Program} {E : Env}
theorem aAl {f : FuncId} {fn : Func} {body : Code} {sp : pL} (hE : eT P E) (hf : P.funcs[f]? = some fn) (hb : fn.body = some body) (hok : gD fn.ntmps body = true) (hn : ∀ d, (sp.av d).length ≤ fn.ntmps)
  (ht : ∀ (c : Ctx) (w : World) (d : sp.D), AV.wfL (sp.av d) → Obj.wfL (sp.hp d) → sp.pre d → c.n = (sp.hp d).length → Tri ⟨P, E, GM sp c d, w, fn.ntmps, []⟩ body (bodyPost P fn (aGr sp c w d)) (aPs ((sp.av d).map rpV) 0) (sp.hp d)) : GOK P E.G f sp := by
 intro c w d vs hp hin
 refine calls_of_wp hf hb ?_
 refine ht c w d (aNu hin.len hin.val) (aQr hin.good) hp hin.good.n hok c _ w ⟨hin.good, hin.glob, ?_, ?_, rfl⟩
 ·refine aNt _ vs.toList 0 (by rw [List.length_map]; exact hin.len) (fun i h1 h2 => ?_) fun i v hv => ?_
  ·rw [List.getElem_map]; exact aUt (hin.val i (by simpa using h1) h2)
  ·have hlt : i < vs.size := by
    rcases Nat.lt_or_ge i vs.size with hh | hh
    ·exact hh
    ·rw [List.getElem?_eq_none (by simpa using hh)] at hv; cases hv
   simp only [Nat.zero_add]
   have : vs[i]? = some v := by rw [← Array.getElem?_toList]; exact hv
   simp [Array.getElem?_append, hlt]
   rw [Array.getElem?_eq_getElem hlt] at this
   simpa using this
 ·have h1 := hin.len
  have h2 := hn d
  simp at h1
  simp
  omega
end
section
variable {P : Program} {E : Env} {M : Perm} {w0 : World} {nt : Nat} {ds : List Deferred} {h : List Obj} {env : St}
theorem aTF (hE : eT P E) {sb : List Nat} {Δ : FuncId → List AV → List Obj → Option Hit} (hΔ : aFs P E.G Δ) {ops : List Oper} {Q : Exit → Act → World → Prop} (hok : ∀ o ∈ ops, fE nt o = true) {K : St → List Obj → Prop} {Kp : Pan → St → List Obj → Prop}
  (hKp : ∀ p env h c a w u, Kp p env h → Sim E M w0 nt ds c env h a w → cS w c.S p.t p.x u → Q (.panic (aL3 p.k u)) a w) {i : Nat} (hil : i < ops.length) {env : St} {h : List Obj} {c : Ctx} {a : Act} {w : World} (hs : aC8 E Δ sb ops (ops.drop i) env h K Kp) (hsim : Sim E M w0 nt ds c env h a w)
  {Kn : Act → World → Prop} (hn : ∀ env' h' c' a' w', aC8 E Δ sb ops (ops.drop (i + 1)) env' h' K Kp → Sim E M w0 nt ds c' env' h' a' w' → Kn a' w') : wpOp P ops.toArray Q i Kn a w := by
 rw [List.drop_eq_getElem_cons hil] at hs
 have hokO := hok ops[i] (List.getElem_mem hil)
 have hput : ∀ (v : Value) (av : AV), aJ c w av v → Sim E M w0 nt ds c (wL ops[i].dst av env) h (a.put ops[i].dst v) w := fun v av hv => hsim.after hokO ⟨.refl _ _, hsim.good, hv⟩
 unfold wpOp
 simp only [List.getElem?_toArray, List.getElem?_eq_getElem hil]
 have hrun : aKT E Δ sb env h ops[i] (fun v h' => aC8 E Δ sb ops (ops.drop (i + 1)) (wL ops[i].dst v env) h' K Kp) (fun p h' => Kp p env h') → Region.wanted ops[i] (yielded ops.toArray a.tmps) = true → (if Region.wanted ops[i] (yielded ops.toArray a.tmps) = true then Oper.wp P ops[i] a w Kn Q ∨ (ops[i].asks P a w ∧ LetsOut Q) else Kn (a.put ops[i].dst Go.undef) w) := fun h1 hw => by
  rw [if_pos hw]
  left
  refine aOz hE hΔ hsim hokO h1 (fun v h' c' u w' hk ha => hn _ _ c' _ w' hk (hsim.after hokO ha)) (fun p h' c' u w' hk hl hg hr => hKp p env h' c' a w' u hk (hsim.step hl hg) hr)
 have hskip : aC8 E Δ sb ops (ops.drop (i + 1)) (wL ops[i].dst .undef env) h K Kp → Region.wanted ops[i] (yielded ops.toArray a.tmps) = false → (if Region.wanted ops[i] (yielded ops.toArray a.tmps) = true then Oper.wp P ops[i] a w Kn Q ∨ (ops[i].asks P a w ∧ LetsOut Q) else Kn (a.put ops[i].dst Go.undef) w) := fun h2 hw => by
  rw [if_neg (by rw [hw]; simp)]
  exact hn _ _ c _ w h2 (hput _ _ rfl)
 simp only [aC8] at hs
 cases hgd : ops[i].guard with
 | none =>
  rw [hgd] at hs
  exact hrun hs (by simp [Region.wanted, hgd])
 | some jp =>
  obtain ⟨j, pol⟩ := jp
  rw [hgd] at hs
  simp only at hs
  cases hdj : aEH ops j with
  | none => rw [hdj] at hs; exact hs.elim
  | some dj =>
   rw [hdj] at hs
   simp only at hs
   have hv := hsim.env dj
   split at hs
   ·rename_i b hb
    rw [hb] at hv
    have hb' := aBs hv
    have hy := tK hok hsim.size hdj hb'
    simp only [yb] at hy
    by_cases e : b = pol
    ·exact hrun (hs.1 e) (by simp [Region.wanted, hgd, hy, e])
    ·have e' : b = !pol := by cases b <;> cases pol <;> simp_all
     exact hskip (hs.2 e') (by simp [Region.wanted, hgd, hy, e])
   ·rename_i hb
    rw [hb] at hv
    have hy := tK hok hsim.size hdj (v := Go.undef) hv
    exact hskip hs (by simp [Region.wanted, hgd, hy, Go.undef, yb])
   ·exact hs.elim
theorem aM2 (hE : eT P E) {sb : List Nat} {Δ : FuncId → List AV → List Obj → Option Hit} (hΔ : aFs P E.G Δ) {ops : List Oper} {Q : Exit → Act → World → Prop} (hok : ∀ o ∈ ops, fE nt o = true) {K : St → List Obj → Prop} {Kp : Pan → St → List Obj → Prop} (hK : ∀ env h c a w, K env h → Sim E M w0 nt ds c env h a w → Q .normal a w)
  (hKp : ∀ p env h c a w u, Kp p env h → Sim E M w0 nt ds c env h a w → cS w c.S p.t p.x u → Q (.panic (aL3 p.k u)) a w) {n : Nat} (ht : aEI n ops = true) :
  ∀ (m i : Nat), i + m = ops.length → n ≤ i → ∀ (listed : Array Bool), listed.size = ops.length → (∀ k, k < ops.length → (listed.getD k false = true ↔ k < i)) → ∀ (env : St) (h : List Obj) (c : Ctx) (a : Act) (w : World), aC8 E Δ sb ops (ops.drop i) env h K Kp → Sim E M w0 nt ds c env h a w → wpAny P .any ops.toArray Q m listed a w
 | 0, i, hi, hni, listed, hsz, hl, env, h, c, a, w, hs, hsim => by
  rw [List.drop_eq_nil_of_le (by omega)] at hs
  refine ⟨?_, hK env h c a w hs hsim⟩
  rw [List.eq_nil_iff_forall_not_mem]
  intro j hj
  obtain ⟨h1, o, ho, _⟩ := mem_ready.1 hj
  have ho : ops[j]? = some o := by simpa using ho
  have hjl := iD.get_lt' ho
  have := (hl j hjl).2 (by omega)
  have hlt : j < listed.size := by omega
  simp [hlt] at h1 this
  rw [this] at h1; cases h1
 | m + 1, i, hi, hni, listed, hsz, hl, env, h, c, a, w, hs, hsim => by
  have hil : i < ops.length := by omega
  have hio : ops[i]? = some ops[i] := List.getElem?_eq_getElem hil
  refine ⟨fun hr => ?_, fun j hj => ?_⟩
  ·exfalso
   have hmem : i ∈ Region.ready .any ops.toArray listed := by
    rw [mem_ready]
    have hlt : i < listed.size := by omega
    have hun : ¬ listed.getD i false = true := fun h => by have := (hl i hil).1 h; omega
    refine ⟨by simp [hlt] at hun ⊢; exact hun, ops[i], by simp [hil], fun e he hb => ?_⟩
    exact (hl _ (by have := (iD ht hio).1 e he hb; omega)).2 ((iD ht hio).1 e he hb)
   rw [hr] at hmem; cases hmem
  ·obtain ⟨h1, o, ho, hall⟩ := mem_ready.1 hj
   have ho : ops[j]? = some o := by simpa using ho
   have hjl := iD.get_lt' ho
   have hji : j = i := by
    rcases Nat.lt_trichotomy j i with hlt | heq | hgt
    ·have := (hl j hjl).2 hlt
     have hlt : j < listed.size := by omega
     simp [hlt] at h1 this
     rw [this] at h1; cases h1
    ·exact heq
    ·have := (iD ht ho).2 (by omega) (fun k => k < ops.length → listed.getD k false = true) (fun k o' ho' hk e he hb => fun hlt => by
      have hkl := iD.get_lt' ho'
      have h3 := (iD ht ho').1 e he hb
      have := (hl k hkl).1 (hk hkl)
      exact (hl _ hlt).2 (by omega)) (fun e he hb _ => hall e he hb) i hgt hil
     have := (hl i hil).1 this
     omega
   subst hji
   refine aTF hE hΔ hok hKp hil hs hsim fun env' h' c' a' w' hs' hsim' => ?_
   refine aM2 hE hΔ hok hK hKp ht m (j + 1) (by omega) (by omega) (listed.setIfInBounds j true) (by simp [hsz]) (fun k hk => ?_) env' h' c' a' w' hs' hsim'
   by_cases e : j = k
   ·subst e
    have : j < listed.size := by omega
    simp [this]
   ·rw [getD_set_ne false e, hl k hk]
    omega
def aPu (ops : List Oper) (done : List Nat) : List Nat := (List.range ops.length).filter fun i => !done.contains i && (match ops[i]? with
 | some o => o.after.toList.all fun e => !Region.binds .any e || done.contains e.on
 | none => false)
def anyS (E : Env) (ops : List Oper) (K : St → List Obj → Prop) : Nat → List Nat → St → List Obj → Prop
 | 0, _, env, h => K env h
 | n + 1, done, env, h => ∀ i, i ∈ aPu ops done → match ops[i]? with
  | some o => o.guard = none ∧ (match xV E env h o with
   | (p, v, h') => p ∧ anyS E ops K n (i :: done) (wL o.dst v env) h')
  | none => False
def aT2 (ops : List Oper) : Bool := ops.zipIdx.all fun p => p.1.after.toList.all fun e => !Region.binds .any e || decide (e.on < p.2)
theorem aNw : ∀ {l m : List Nat}, l.Nodup → (∀ x ∈ l, x ∈ m) → l.length ≤ m.length ∧ (l.length = m.length → ∀ x ∈ m, x ∈ l)
 | [], m, _, _ => ⟨by simp, fun h x hx => by
  have : m = [] := List.eq_nil_of_length_eq_zero (by simpa using h.symm)
  rw [this] at hx; cases hx⟩
 | a :: l, m, hn, hs => by
  have ha : a ∈ m := hs a (by simp)
  have hn' := List.nodup_cons.1 hn
  have hlen := List.length_erase_of_mem ha
  have hpos : 0 < m.length := List.length_pos_of_mem ha
  have rec_ := aNw (l := l) (m := m.erase a) hn'.2 (fun x hx => by
   have hne : x ≠ a := fun e => hn'.1 (e ▸ hx)
   exact (List.mem_erase_of_ne hne).2 (hs x (by simp [hx])))
  refine ⟨by simp only [List.length_cons]; omega, fun h x hx => ?_⟩
  by_cases e : x = a
  ·subst e; simp
  ·have := rec_.2 (by simp only [List.length_cons] at h; omega) x ((List.mem_erase_of_ne e).2 hx)
   simp [this]
theorem aQB (hE : eT P E) {ops : List Oper} {Q : Exit → Act → World → Prop} (hok : ∀ o ∈ ops, fE nt o = true) {K : St → List Obj → Prop} (hK : ∀ env h c a w, K env h → Sim E M w0 nt ds c env h a w → Q .normal a w) (hb : aT2 ops = true) :
  ∀ (n : Nat) (done : List Nat) (listed : Array Bool), listed.size = ops.length → (∀ k, k < ops.length → (listed.getD k false = true ↔ k ∈ done)) → done.length + n = ops.length → done.Nodup → (∀ k ∈ done, k < ops.length) → ∀ (env : St) (h : List Obj) (c : Ctx) (a : Act) (w : World), anyS E ops K n done env h → Sim E M w0 nt ds c env h a w → wpAny P .any ops.toArray Q n listed a w
 | 0, done, listed, hsz, hl, hn, hd, hlt, env, h, c, a, w, hs, hsim => by
  refine ⟨?_, hK env h c a w hs hsim⟩
  rw [List.eq_nil_iff_forall_not_mem]
  intro j hj
  obtain ⟨h1, o, ho, _⟩ := mem_ready.1 hj
  have ho : ops[j]? = some o := by simpa using ho
  have hjl := iD.get_lt' ho
  have hall : j ∈ done := by
   exact (aNw hd (m := List.range ops.length) (fun k hk => List.mem_range.2 (hlt k hk))).2 (by simp; omega) j (List.mem_range.2 hjl)
  have := (hl j hjl).2 hall
  have hlt' : j < listed.size := by omega
  simp [hlt'] at h1 this
  rw [this] at h1; cases h1
 | n + 1, done, listed, hsz, hl, hn, hd, hlt, env, h, c, a, w, hs, hsim => by
  have hrd : ∀ j, j ∈ Region.ready .any ops.toArray listed → j ∈ aPu ops done ∧ j ∉ done ∧ j < ops.length := fun j hj => by
   obtain ⟨h1, o, ho, hall⟩ := mem_ready.1 hj
   have ho : ops[j]? = some o := by simpa using ho
   have hjl := iD.get_lt' ho
   have hlt' : j < listed.size := by omega
   have hnd : j ∉ done := fun hm => by
    have := (hl j hjl).2 hm
    simp [hlt'] at h1 this
    rw [this] at h1; cases h1
   refine ⟨?_, hnd, hjl⟩
   simp only [aPu, List.mem_filter, List.mem_range, ho, Bool.and_eq_true, Bool.not_eq_true', List.contains_eq_mem, decide_eq_false_iff_not, List.all_eq_true, Bool.or_eq_true, decide_eq_true_eq]
   refine ⟨hjl, hnd, fun e he => ?_⟩
   cases hbe : Region.binds .any e with
   | false => exact .inl rfl
   | true =>
    right
    have h5 := hall e (by simpa using he) hbe
    rcases Nat.lt_or_ge e.on ops.length with hh | hh
    ·exact (hl _ hh).1 h5
    ·simp [show ¬ e.on < listed.size by omega] at h5
  refine ⟨fun hr => ?_, fun j hj => ?_⟩
  ·exfalso
   have hex : ∃ k, (k < ops.length ∧ k ∉ done) ∧ ∀ j, j < k → ¬ (j < ops.length ∧ j ∉ done) := by
    have hex : ∃ k, k < ops.length ∧ k ∉ done := by
     apply Classical.byContradiction
     intro hc
     have hsub : List.range ops.length ⊆ done := fun k hk => Classical.byContradiction fun hk2 => hc ⟨k, List.mem_range.1 hk, hk2⟩
     have := (aNw (List.nodup_range (n := ops.length)) (fun k hk => hsub hk)).1
     simp at this
     omega
    obtain ⟨n, h1, h2⟩ := aGu hex
    exact ⟨n, h1, fun j hj hp => by have := h2 j hp; omega⟩
   obtain ⟨k, ⟨hk, hkd⟩, hlow⟩ := hex
   have hmem : k ∈ Region.ready .any ops.toArray listed := by
    rw [mem_ready]
    have hlt' : k < listed.size := by omega
    have hun : ¬ listed.getD k false = true := fun h => hkd ((hl k hk).1 h)
    refine ⟨by simp [hlt'] at hun ⊢; exact hun, ops[k], by simp [hk], fun e he hbe => ?_⟩
    have hbk := List.all_eq_true.1 hb (ops[k], k) (by rw [List.mem_zipIdx_iff_getElem?]; exact List.getElem?_eq_getElem hk)
    have hbk := List.all_eq_true.1 hbk e (Array.mem_toList_iff.2 he)
    rw [hbe] at hbk
    simp at hbk
    have hne := hlow e.on hbk
    exact (hl _ (by omega)).2 (Classical.byContradiction fun hd => hne ⟨by omega, hd⟩)
   rw [hr] at hmem; cases hmem
  ·obtain ⟨r1, r2, r3⟩ := hrd j hj
   have hs := hs j r1
   have hjo : ops[j]? = some ops[j] := List.getElem?_eq_getElem r3
   rw [hjo] at hs
   obtain ⟨hg, hp, hrest⟩ := hs
   have hokO := hok ops[j] (List.getElem_mem r3)
   have hw : Region.wanted ops[j] (yielded ops.toArray a.tmps) = true := by simp [Region.wanted, hg]
   unfold wpOp
   simp only [List.getElem?_toArray, hjo]
   rw [if_pos hw]
   left
   refine (aGm hE hsim hokO hp).wp fun v w' c' ha => ?_
   refine aQB hE hok hK hb n (j :: done) (listed.setIfInBounds j true) (by simp [hsz]) (fun k hk => ?_) (by simp; omega) (List.nodup_cons.2 ⟨r2, hd⟩) (fun k hk => ?_) _ _ c' _ w' hrest (hsim.after hokO ha)
   ·by_cases e : j = k
    ·subst e
     have : j < listed.size := by omega
     simp [this]
    ·rw [getD_set_ne false e, hl k hk]
     constructor
     ·intro h; exact List.mem_cons_of_mem _ h
     ·intro h; exact (List.mem_cons.1 h).resolve_left (fun e' => e e'.symm)
   ·rcases List.mem_cons.1 hk with rfl | hk
    ·exact r3
    ·exact hlt k hk
theorem aID {F : Fr} {Q : Exit → Act → World → Prop} {env : St} {h : List Obj} (hF : kP F) {id : Nat} {ops : Array Oper} (keep : List Nat) (env' : St) (h' : List Obj) (hb : aT2 ops.toList = true)
  (hv : anyS F.E ops.toList (fun e o => keep.map (fun t => (t, look e t)) = env' ∧ o = h') ops.toList.length [] env h) (hk : At F (Q .normal) env' h') : Tri F (.region id ops true) Q env h := fun hok c a w hs => by
 simp only [gD, Bool.and_eq_true, Bool.or_eq_true, Bool.not_eq_true'] at hok
 obtain ⟨⟨h1, h2⟩, h3⟩ := hok
 refine wp_region_any hF.mix ?_
 have hlat : cW c w c { w with drawn := w.drawn + 1 } := ⟨.refl _, fun b hb => rfl⟩
 have hdr : Sim F.E F.M F.w0 F.nt F.ds c env h a { w with drawn := w.drawn + 1 } :=
  ⟨hs.good.step hlat rfl rfl ⟨rfl, rfl, rfl, Nat.le_refl _, fun _ _ _ => rfl⟩ (fun _ _ _ _ _ => rfl) hs.good.sfin (fun _ hb => .inl hb), nO.mono (w := w) (w' := { w with drawn := w.drawn + 1 }) (fun _ hb => hb) hlat.same hs.glob, hs.env.keep hlat, hs.size, hs.defers⟩
 have := aQB (Q := Q) hF.env (List.all_eq_true.1 h1) (K := fun e o => keep.map (fun t => (t, look e t)) = env' ∧ o = h') (fun e o c a w hkk hs => by
  obtain ⟨rfl, rfl⟩ := hkk
  exact hk c a w (hs.keep keep)) hb ops.toList.length [] (Array.replicate ops.size false) (by simp) (fun k hk => by rw [wM]; simp) (by simp) List.nodup_nil (fun k hk => by cases hk) env h c a _ hv hdr
 simpa using this
def aSp (F : Fr) (Δ : FuncId → List AV → List Obj → Option Hit) (Q : Exit → Act → World → Prop) (keep sb : List Nat) (all pre tail : List Oper) (env : St) (h : List Obj) (acc : List Ent) : Prop :=
 aC8 F.E Δ sb all tail (nL F.E.T (eU pre 0) (kX acc env) h).1 (nL F.E.T (eU pre 0) (kX acc env) h).2 (fun env h => At F (Q .normal) (keep.map fun t => (t, look env t)) h) (fun p env h => AtP F Q p env h)
theorem aGx {F : Fr} {Q : Exit → Act → World → Prop} {env : St} {h : List Obj} (hF : kP F) {Δ : FuncId → List AV → List Obj → Option Hit} (hΔ : aFs F.P F.E.G Δ) {id : Nat} {ops : Array Oper} (n : Nat) (hst : (aKC (ops.toList.take n) && aAO (ops.toList.take n) && aEI (ops.toList.take n).length ops.toList) = true) (keep sb : List Nat)
  (hv : vcA F.E h env (ops.toList.take n) 0 [] (aSp F Δ Q keep sb ops.toList (ops.toList.take n) (ops.toList.drop n) env h)) : Tri F (.region id ops true) Q env h := fun hok c a w hs => by
 simp only [gD, Bool.and_eq_true, Bool.or_eq_true, Bool.not_eq_true'] at hok
 obtain ⟨⟨h1, h2⟩, h3⟩ := hok
 simp only [Bool.and_eq_true] at hst
 obtain ⟨⟨t1, t2⟩, t3⟩ := hst
 have e : ops.toList.take n ++ ops.toList.drop n = ops.toList := List.take_append_drop n ops.toList
 have := aMQ (id := id) (pre := ops.toList.take n) (tail := ops.toList.drop n) (Q := Q) hF.env hF.mix (by rw [e]; exact List.all_eq_true.1 h1) t2 t1 (by rw [e]; exact t3) hs (K' := fun env h => aC8 F.E Δ sb ops.toList (ops.toList.drop n) env h (fun env h => At F (Q .normal) (keep.map fun t => (t, look env t)) h) (fun p env h => AtP F Q p env h)) hv
  (fun env h c a w listed hsz hl hk hsim => by
   rw [e] at hsz hl ⊢
   exact aM2 (K := fun env h => At F (Q .normal) (keep.map fun t => (t, look env t)) h) (Kp := fun p env h => AtP F Q p env h) hF.env hΔ (List.all_eq_true.1 h1) (fun env h c a w hk hs => hk c a w (hs.keep keep)) (fun p env h c a w u hk hs hr => hk c a w u hs hr) t3 (ops.toList.drop n).length (ops.toList.take n).length (by rw [← List.length_append, e]) (Nat.le_refl _) listed hsz hl env h c a w (by
    have e2 : ops.toList.drop (ops.toList.take n).length = ops.toList.drop n := by
     rw [List.length_take]
     rcases Nat.lt_or_ge n ops.toList.length with hh | hh
     ·rw [Nat.min_eq_left (Nat.le_of_lt hh)]
     ·rw [Nat.min_eq_right hh, List.drop_eq_nil_of_le (Nat.le_refl _), List.drop_eq_nil_of_le hh]
    rw [e2]; exact hk) hsim)
 rw [e] at this
 simpa using this
theorem aK1 {f : FuncId} {fn : Func} {body : Code} {a : Ty} {r : RK} {m : a.den → Option r.ty.den} (hE : eT P E) (hf : P.funcs[f]? = some fn) (hb : fn.body = some body) (hok : gD fn.ntmps body = true) (hn : aIB a ≤ fn.ntmps)
  (ht : ∀ (w0 : World) (S : Nat → Prop) (x : a.den) (y : r.ty.den), a.wf x → m x = some y → Tri (fr P E S w0 fn.ntmps) body (aQv P fn S w0 r y) (bJ a x 0) []) : FOK P E.G f (mSpec a r m) :=
 aTA hE hf hb hok hn fun w0 S x hw hp => by
  have hp : (m x).isSome = true := hp
  obtain ⟨y, hy⟩ := Option.isSome_iff_exists.1 hp
  have e : (mSpec a r m).fn x = y := by show (m x).getD r.ty.zero = y; rw [hy]; rfl
  rw [e]
  exact ht w0 S x y hw hy
def aPv : AV → Bool
 | .val _ _ => true
 | .tup vs => vs.all fun v => match v with | .val _ _ => true | _ => false
 | _ => false
theorem aRf {c : Ctx} {w : World} {σ : List Nat} {v : AV} {x : Value} (hp : aPv v = true) (hv : aJ c w v x) : aJ (c.ren σ) w v x := by
 cases v with
 | val t y => exact aGo (σ := σ) hv
 | tup vs =>
  obtain ⟨xs, e, hl, hi⟩ := hv
  refine ⟨xs, e, hl, fun i h1 h2 => ?_⟩
  have hq := List.all_eq_true.1 hp vs[i] (List.getElem_mem h1)
  have := hi i h1 h2
  revert hq this
  generalize vs[i] = u
  intro hq this
  cases u <;> first | exact this | (simp at hq; done)
 | _ => simp [aPv] at hp
theorem aBA {F : Fr} {fn : Func} {sp : pL} {c0 : Ctx} {d : sp.D} {env : St} {h h' : List Obj} {v : AV} (hF : kP F) (l : List ResultVar) (σ : List Nat) (hM : F.M = GM sp c0 d) (hds : F.ds = []) (hr : fn.results = l.toArray) (hnd : nodupB σ = true) (hpr : preB F.M.m σ = true) (hout : sp.out d = .ret v h') (hh : (σ.map fun i => pZ σ (h.getD i .dead)) = h') (hfl : (match v with | .tup vs => vs.all aSj | _ => true) = true) (hpl : aPv v = true) (hy : (aM F.E.T h env l).1 ∧ aGs h v (aM F.E.T h env l).2) :
  At F (bodyPost F.P fn (aGr sp c0 F.w0 d) .ret) env h := fun c a w hs => by
 subst hh
 obtain ⟨us, q1, q2, q3⟩ := aAk (P := F.P) hF.env.T hs.good hs.env hr hy.1
 refine ⟨hs.defers.trans hds, aCP us, q1, c.ren σ, ?_⟩
 rw [hout]
 refine ⟨aCP us, rfl, by rw [← hM]; exact hs.good.ren hnd hpr, aRf hpl ?_⟩
 have hy2 := hy.2
 generalize (aM F.E.T h env l).2 = rs at q2 q3 hy2
 cases v with
 | tup vs =>
  obtain ⟨h1, h2⟩ := hy2
  obtain ⟨k1, k2⟩ := aNv hs.good h2 q2 q3
  refine ⟨us, ?_, k1, fun i p1 p2 => ?_⟩
  ·match us, q2 with
   | [], _ => rfl
   | [x], q2 => exact absurd q2.symm h1
   | a :: b :: r, _ => rfl
  ·have hfi := List.all_eq_true.1 hfl vs[i] (List.getElem_mem p1)
   exact aQs (k2 i p1 p2).1 (k2 i p1 p2).2 (fun l e => by rw [e] at hfi; cases hfi) (fun e => by rw [e] at hfi; cases hfi)
 | _ =>
  match rs, hy2 with
  | [u], hy2 =>
   match us, q2 with
   | [x], _ => exact aKb hs.good hy2 (q3 0 (by simp) (by simp))
theorem aKd {F : Fr} {fn : Func} {R : Ending → World → Prop} {env : St} {h : List Obj} (hk : At F (bodyPost F.P fn R .ret) env h) : At F (bodyPost F.P fn R .normal) env h := hk
end
attribute [go_sem] aSo rpV
end Go.Vc
namespace Go.Vc
open Go.RowKit
theorem aSq (n : Nat) : ((no_index (OfNat.ofNat n) : Nat) : Int) = OfNat.ofNat n := rfl
def sat {α : Type} (o : Option α) (Θ : α → Prop) : Prop := ∃ x, o = some x ∧ Θ x
section
variable {α β : Type} {p : Prop} [Decidable p] {k x y : Option α} {Θ : α → Prop} {a : α}
theorem aH (h : sat (ck p k) Θ) : p ∧ sat k Θ := by
 obtain ⟨z, h1, h2⟩ := h
 obtain ⟨hp, hk⟩ := aL h1
 exact ⟨hp, z, hk, h2⟩
theorem fV (hp : p) (h : sat (if p then x else y) Θ) : sat x Θ := by rwa [if_pos hp] at h
theorem fW (hp : ¬ p) (h : sat (if p then x else y) Θ) : sat y Θ := by rwa [if_neg hp] at h
theorem aP {G : Prop} (h : sat (ck p k) Θ) (hg : p → sat k Θ → G) : p ∧ G := ⟨(aH h).1, hg (aH h).1 (aH h).2⟩
theorem dQ {G1 G2 : Prop} (h : sat (if p then x else y) Θ) (h1 : p → sat x Θ → G1) (h2 : ¬ p → sat y Θ → G2) : (p → G1) ∧ (¬ p → G2) := ⟨fun c => h1 c (fV c h), fun c => h2 c (fW c h)⟩
theorem eI {G1 G2 : Prop} {m n : Int} (h : sat (if m < n then x else y) Θ) (h1 : m < n → sat x Θ → G1) (h2 : n ≤ m → sat y Θ → G2) : (m < n → G1) ∧ (n ≤ m → G2) := ⟨fun c => h1 c (fV c h), fun c => h2 c (fW (Int.not_lt.2 c) h)⟩
theorem aPw {G1 G2 : Prop} {m n : Int} (h : sat (if m ≤ n then x else y) Θ) (h1 : m ≤ n → sat x Θ → G1) (h2 : n < m → sat y Θ → G2) : (m ≤ n → G1) ∧ (n < m → G2) := ⟨fun c => h1 c (fV c h), fun c => h2 c (fW (Int.not_le.2 c) h)⟩
theorem aIE {G1 G2 : Prop} {b : Bool} (h : sat (if b = true then x else y) Θ) (h1 : b = true → sat x Θ → G1) (h2 : ¬ b = true → sat y Θ → G2) : (b = true → G1) ∧ (¬ b = true → G2) := dQ h h1 h2
theorem aBc {G1 G2 : Prop} {b : Bool} (h : sat (if ¬ b = true then x else y) Θ) (h1 : b = false → sat x Θ → G1) (h2 : ¬ b = false → sat y Θ → G2) : (b = false → G1) ∧ (¬ b = false → G2) :=
 ⟨fun c => h1 c (fV (by rw [c]; decide) h), fun c => h2 c (fW (fun n => c (by simpa using n)) h)⟩
theorem aA (h : sat (some a) Θ) : Θ a := by
 obtain ⟨z, h1, h2⟩ := h
 cases h1; exact h2
theorem aBB {P : Prop} (h : sat none Θ) : P := by
 obtain ⟨z, h1, h2⟩ := h
 cases h1
theorem aI {o : Option β} {f : β → Option α} (h : sat (o.bind f) Θ) : ∃ z, o = some z ∧ sat (f z) Θ := by
 obtain ⟨r, h1, h2⟩ := h
 cases o with
 | none => cases h1
 | some z => exact ⟨z, rfl, r, h1, h2⟩
end
inductive Pl where
 | A (keep : List Nat)
 | B (keep : List Nat)
 | C (n : Nat) (keep : List Nat)
 | stop
structure PlR where
 reg : List (Nat × Pl)
 stops : List (Nat × Nat)
def aTG : List (Nat × Pl) → Nat → Pl
 | [], _ => .stop
 | (i, p) :: r, id => match decide (i = id) with
  | true => p
  | false => aTG r id
def first : Code → Nat
 | .region id _ _ => id + 3
 | .seq x _ => first x
 | .block _ x => first x
 | .loop x => first x
 | .scope x => first x
 | .skip => 1
 | .label _ => 1
 | .ret => 0
 | _ => 2
def aOD : List (Nat × Nat) → Code → Code → Bool
 | [], _, _ => false
 | (a, b) :: r, x, y => match decide (a = first x) with
  | true => match decide (b = first y) with
   | true => true
   | false => aOD r x y
  | false => aOD r x y
def aUu (V : St → List Obj → Prop) (K : Exit → St → List Obj → Prop) : Exit → St → List Obj → Prop := fun e env h => match e with
 | .normal => V env h
 | e => K e env h
def aTH (id : Nat) (K : Exit → St → List Obj → Prop) : Exit → St → List Obj → Prop := fun e env h => match e with
 | .normal => K .normal env h
 | .exit j => match decide (j = id) with
  | true => K .normal env h
  | false => K (.exit j) env h
 | .ret => K .ret env h
 | _ => False
def aUH (K : Exit → St → List Obj → Prop) : Exit → St → List Obj → Prop := fun e env h => match e with
 | .normal => K .normal env h
 | .exit j => K (.exit j) env h
 | .ret => K .ret env h
 | _ => False
def vcC (F : Fr) (p : PlR) : Code → (Exit → St → List Obj → Prop) → (Exit → Act → World → Prop) → St → List Obj → Prop
 | .skip, K, _, env, h => K .normal env h
 | .label _, K, _, env, h => K .normal env h
 | .exit id, K, _, env, h => K (.exit id) env h
 | .ret, K, _, env, h => K .ret env h
 | .seq x y, K, Q, env, h => match aOD p.stops x y with
  | true => Tri F (.seq x y) Q env h
  | false => vcC F p x (aUu (vcC F p y K Q) K) (Exit.then (Next F y Q) Q) env h
 | .cond o x y, K, Q, env, h => match evA F.E.G env o with
  | .val .bool b => (b = true → vcC F p x K Q env h) ∧ (¬ b = true → vcC F p y K Q env h)
  | _ => False
 | .block id x, K, Q, env, h => vcC F p x (aTH id K) (Exit.inBlock id Q) env h
 | .scope x, K, Q, env, h => vcC F p x (aUH K) (Exit.noGoto Q) env h
 | .region id ops draw, K, Q, env, h => match aTG p.reg id with
  | .A keep => vcA F.E h env ops.toList 0 [] (fun acc => K .normal (aJi keep acc env) h)
  | .B keep => draw = false ∧ qN F.E ops.toList ops.toList env h (fun env h => K .normal (keep.map fun t => (t, look env t)) h)
  | .C n keep => (draw = true ∧ (aKC (ops.toList.take n) && aAO (ops.toList.take n) && aEI (ops.toList.take n).length ops.toList) = true) ∧
    vcA F.E h env (ops.toList.take n) 0 [] (fun acc => qN F.E ops.toList (ops.toList.drop n) (nL F.E.T (eU (ops.toList.take n) 0) (kX acc env) h).1 (nL F.E.T (eU (ops.toList.take n) 0) (kX acc env) h).2 (fun env h => K .normal (keep.map fun t => (t, look env t)) h))
  | .stop => Tri F (.region id ops draw) Q env h
 | c, _, Q, env, h => Tri F c Q env h
section
variable {F : Fr} {p : PlR}
theorem aQC (hF : kP F) {K : Exit → St → List Obj → Prop} {Q : Exit → Act → World → Prop} (hK : ∀ e env h, K e env h → At F (Q e) env h) {id : Nat} {ops : Array Oper} {draw : Bool} {keep : List Nat} {env : St} {h : List Obj}
  (hv : vcA F.E h env ops.toList 0 [] (fun acc => K .normal (aJi keep acc env) h)) : Tri F (.region id ops draw) Q env h := fun hok c a w hs => by
 simp only [gD, Bool.and_eq_true, Bool.or_eq_true, Bool.not_eq_true'] at hok
 obtain ⟨⟨h1, h2⟩, h3⟩ := hok
 have hfin : ∀ acc c' a' w', K .normal (aJi keep acc env) h → cW c w c' w' → c'.n = c.n → Sim F.E F.M F.w0 F.nt F.ds c' (kX acc env) h a' w' → Q .normal a' w' := fun acc c' a' w' hk _ _ hs' => by
  have := hs'.keep keep
  refine hK _ _ _ hk c' a' w' ?_
  have e : aJi keep acc env = keep.map fun t => (t, look (kX acc env) t) := by
   simp only [aJi, aOl]
  rw [e]; exact this
 cases draw with
 | false => exact aOi (ops := ops.toList) hF.env (List.all_eq_true.1 h1) h2 hs hv hfin
 | true => exact aGg (ops := ops.toList) hF.env hF.mix (List.all_eq_true.1 h1) h2 (h3.resolve_left (by simp)) hs hv hfin
theorem aTI (hF : kP F) {K : Exit → St → List Obj → Prop} {Q : Exit → Act → World → Prop} (hK : ∀ e env h, K e env h → At F (Q e) env h) {id : Nat} {ops : Array Oper} {keep : List Nat} {env : St} {h : List Obj}
  (hv : qN F.E ops.toList ops.toList env h (fun env h => K .normal (keep.map fun t => (t, look env t)) h)) : Tri F (.region id ops false) Q env h := fun hok c a w hs => by
 simp only [gD, Bool.and_eq_true, Bool.or_eq_true, Bool.not_eq_true'] at hok
 obtain ⟨⟨h1, h2⟩, h3⟩ := hok
 refine wp_region ?_
 have := aGn (Q := Q) hF.env (List.all_eq_true.1 h1) (K := fun env h => K .normal (keep.map fun t => (t, look env t)) h) (fun env h c a w hk hs => hK _ _ _ hk c a w (hs.keep keep)) ops.toList.length 0 (by simp) env h c a w (by simpa using hv) hs
 simpa [List.range_eq_range'] using this
theorem aTJ (hF : kP F) {K : Exit → St → List Obj → Prop} {Q : Exit → Act → World → Prop} (hK : ∀ e env h, K e env h → At F (Q e) env h) {id : Nat} {ops : Array Oper} (n : Nat) (hst : (aKC (ops.toList.take n) && aAO (ops.toList.take n) && aEI (ops.toList.take n).length ops.toList) = true) {keep : List Nat} {env : St} {h : List Obj}
  (hv : vcA F.E h env (ops.toList.take n) 0 [] (fun acc => qN F.E ops.toList (ops.toList.drop n) (nL F.E.T (eU (ops.toList.take n) 0) (kX acc env) h).1 (nL F.E.T (eU (ops.toList.take n) 0) (kX acc env) h).2 (fun env h => K .normal (keep.map fun t => (t, look env t)) h))) :
  Tri F (.region id ops true) Q env h := fun hok c a w hs => by
 simp only [gD, Bool.and_eq_true, Bool.or_eq_true, Bool.not_eq_true'] at hok
 obtain ⟨⟨h1, h2⟩, h3⟩ := hok
 simp only [Bool.and_eq_true] at hst
 obtain ⟨⟨t1, t2⟩, t3⟩ := hst
 have e : ops.toList.take n ++ ops.toList.drop n = ops.toList := List.take_append_drop n ops.toList
 have := aR9 (id := id) (pre := ops.toList.take n) (tail := ops.toList.drop n) (Q := Q) hF.env hF.mix (by rw [e]; exact List.all_eq_true.1 h1) t2 t1 (by rw [e]; exact t3) hs (K' := fun env h => K .normal (keep.map fun t => (t, look env t)) h) (by rw [e]; exact hv) (fun env h c a w hk hs => hK _ _ _ hk c a w (hs.keep keep))
 rw [e] at this
 simpa using this
theorem aDK (hF : kP F) : ∀ (c : Code) (K : Exit → St → List Obj → Prop) (Q : Exit → Act → World → Prop), (∀ e env h, K e env h → At F (Q e) env h) → ∀ env h, vcC F p c K Q env h → Tri F c Q env h
 | .skip, K, Q, hK, env, h, hv => cQ (hK _ _ _ hv)
 | .label _, K, Q, hK, env, h, hv => aQ2 (hK _ _ _ hv)
 | .exit _, K, Q, hK, env, h, hv => pX (hK _ _ _ hv)
 | .ret, K, Q, hK, env, h, hv => cI (hK _ _ _ hv)
 | .seq x y, K, Q, hK, env, h, hv => by
  unfold vcC at hv
  split at hv
  ·exact hv
  ·refine aB (aDK hF x _ _ (fun e env h hk => ?_) env h hv)
   cases e with
   | normal => exact aC (aDK hF y K Q hK env h hk)
   | _ => exact hK _ env h hk
 | .cond o x y, K, Q, hK, env, h, hv => by
  unfold vcC at hv
  split at hv
  ·rename_i b hb
   exact bZ hb (fun e => aDK hF x K Q hK env h (hv.1 e)) (fun e => aDK hF y K Q hK env h (hv.2 (by rw [e]; decide)))
  ·exact hv.elim
 | .block id x, K, Q, hK, env, h, hv => by
  refine eE (aDK hF x _ _ (fun e env h hk => ?_) env h hv)
  cases e with
  | normal => exact hK .normal env h hk
  | ret => exact hK .ret env h hk
  | exit j =>
   simp only [aTH] at hk
   split at hk
   ·rename_i hd
    obtain rfl := of_decide_eq_true hd
    exact fS (hK .normal env h hk)
   ·rename_i hd
    exact aDF (of_decide_eq_false hd) (hK (.exit j) env h hk)
  | _ => exact hk.elim
 | .scope x, K, Q, hK, env, h, hv => by
  refine aRb (aDK hF x _ _ (fun e env h hk => ?_) env h hv)
  cases e with
  | normal => exact hK .normal env h hk
  | ret => exact hK .ret env h hk
  | exit j => exact hK (.exit j) env h hk
  | _ => exact hk.elim
 | .region id ops draw, K, Q, hK, env, h, hv => by
  unfold vcC at hv
  split at hv
  ·exact aQC hF hK hv
  ·obtain ⟨rfl, hv⟩ := hv; exact aTI hF hK hv
  ·obtain ⟨⟨rfl, hst⟩, hv⟩ := hv; exact aTJ hF hK _ hst hv
  ·exact hv
 | .loop x, K, Q, hK, env, h, hv => hv
 | .rangeFunc _ _ _ _, K, Q, hK, env, h, hv => hv
 | .goto _, K, Q, hK, env, h, hv => hv
 | .refuse _, K, Q, hK, env, h, hv => hv
end
inductive Kt where
 | fin (Q : Exit → Act → World → Prop)
 | seq (y : Code) (k : Kt)
 | blk (id : Nat) (k : Kt)
 | scp (k : Kt)
 | stp (K : Act → World → Prop) (k : Kt)
def aFv (F : Fr) : Kt → Exit → Act → World → Prop
 | .fin Q => Q
 | .seq y k => Exit.then (Next F y (aFv F k)) (aFv F k)
 | .blk id k => Exit.inBlock id (aFv F k)
 | .scp k => Exit.noGoto (aFv F k)
 | .stp K k => Exit.then K (aFv F k)
def den (F : Fr) (p : PlR) : Kt → Exit → St → List Obj → Prop
 | .fin Q => fun e env h => At F (Q e) env h
 | .seq y k => aUu (vcC F p y (den F p k) (aFv F k)) (den F p k)
 | .blk id k => aTH id (den F p k)
 | .scp k => aUH (den F p k)
 | .stp K k => aUu (fun env h => At F K env h) (den F p k)
def vcT (F : Fr) (p : PlR) (c : Code) (k : Kt) (env : St) (h : List Obj) : Prop := vcC F p c (den F p k) (aFv F k) env h
section
variable {F : Fr} {p : PlR} {k : Kt} {env : St} {h : List Obj}
theorem yC (hF : kP F) : ∀ (k : Kt) (e : Exit) (env : St) (h : List Obj), den F p k e env h → At F (aFv F k e) env h
 | .fin Q, e, env, h, hk => hk
 | .seq y k, e, env, h, hk => by
  cases e with
  | normal => exact aC (aDK hF y _ _ (yC hF k) env h hk)
  | _ => exact yC hF k _ env h hk
 | .blk id k, e, env, h, hk => by
  cases e with
  | normal => exact yC hF k .normal env h hk
  | ret => exact yC hF k .ret env h hk
  | exit j =>
   simp only [den, aTH] at hk
   split at hk
   ·rename_i hd
    obtain rfl := of_decide_eq_true hd
    exact fS (yC hF k .normal env h hk)
   ·rename_i hd
    exact aDF (of_decide_eq_false hd) (yC hF k (.exit j) env h hk)
  | _ => exact hk.elim
 | .scp k, e, env, h, hk => by
  cases e with
  | normal => exact yC hF k .normal env h hk
  | ret => exact yC hF k .ret env h hk
  | exit j => exact yC hF k (.exit j) env h hk
  | _ => exact hk.elim
 | .stp K k, e, env, h, hk => by
  cases e with
  | normal => exact hk
  | _ => exact yC hF k _ env h hk
theorem aNx (hF : kP F) {c : Code} (hv : vcT F p c k env h) : Tri F c (aFv F k) env h := aDK hF c _ _ (yC hF k) env h hv
theorem aSr : vcT F p .skip k env h = den F p k .normal env h := propext Iff.rfl
theorem aRg {l : Nat} : vcT F p (.label l) k env h = den F p k .normal env h := propext Iff.rfl
theorem aSs {id : Nat} : vcT F p (.exit id) k env h = den F p k (.exit id) env h := propext Iff.rfl
theorem aTK : vcT F p .ret k env h = den F p k .ret env h := propext Iff.rfl
theorem aTL {x y : Code} : vcT F p (.seq x y) k env h = match aOD p.stops x y with
  | true => Tri F (.seq x y) (aFv F k) env h
  | false => vcT F p x (.seq y k) env h := propext Iff.rfl
theorem aSt {o : Operand} {x y : Code} : vcT F p (.cond o x y) k env h = match evA F.E.G env o with
  | .val .bool b => (b = true → vcT F p x k env h) ∧ (¬ b = true → vcT F p y k env h)
  | _ => False := propext Iff.rfl
theorem aRh {id : Nat} {x : Code} : vcT F p (.block id x) k env h = vcT F p x (.blk id k) env h := propext Iff.rfl
theorem aRi {x : Code} : vcT F p (.scope x) k env h = vcT F p x (.scp k) env h := propext Iff.rfl
theorem aSu {x : Code} : vcT F p (.loop x) k env h = Tri F (.loop x) (aFv F k) env h := propext Iff.rfl
theorem aPx {id : Nat} {ops : Array Oper} {draw : Bool} : vcT F p (.region id ops draw) k env h = match aTG p.reg id with
  | .A keep => vcA F.E h env ops.toList 0 [] (fun acc => den F p k .normal (aJi keep acc env) h)
  | .B keep => draw = false ∧ qN F.E ops.toList ops.toList env h (fun env h => den F p k .normal (keep.map fun t => (t, look env t)) h)
  | .C n keep => (draw = true ∧ (aKC (ops.toList.take n) && aAO (ops.toList.take n) && aEI (ops.toList.take n).length ops.toList) = true) ∧
    vcA F.E h env (ops.toList.take n) 0 [] (fun acc => qN F.E ops.toList (ops.toList.drop n) (nL F.E.T (eU (ops.toList.take n) 0) (kX acc env) h).1 (nL F.E.T (eU (ops.toList.take n) 0) (kX acc env) h).2 (fun env h => den F p k .normal (keep.map fun t => (t, look env t)) h))
  | .stop => Tri F (.region id ops draw) (aFv F k) env h := propext Iff.rfl
theorem aTM {Q : Exit → Act → World → Prop} {e : Exit} : den F p (.fin Q) e env h = At F (Q e) env h := propext Iff.rfl
theorem aSv {y : Code} : den F p (.seq y k) .normal env h = vcT F p y k env h := propext Iff.rfl
theorem aSw {y : Code} {id : Nat} : den F p (.seq y k) (.exit id) env h = den F p k (.exit id) env h := propext Iff.rfl
theorem aSx {y : Code} : den F p (.seq y k) .ret env h = den F p k .ret env h := propext Iff.rfl
theorem aSy {id : Nat} : den F p (.blk id k) .normal env h = den F p k .normal env h := propext Iff.rfl
theorem aSz {id j : Nat} : den F p (.blk id k) (.exit j) env h = match decide (j = id) with
  | true => den F p k .normal env h
  | false => den F p k (.exit j) env h := propext Iff.rfl
theorem aSA {id : Nat} : den F p (.blk id k) .ret env h = den F p k .ret env h := propext Iff.rfl
theorem aSB : den F p (.scp k) .normal env h = den F p k .normal env h := propext Iff.rfl
theorem aSC {j : Nat} : den F p (.scp k) (.exit j) env h = den F p k (.exit j) env h := propext Iff.rfl
theorem aSD : den F p (.scp k) .ret env h = den F p k .ret env h := propext Iff.rfl
theorem aSE {K : Act → World → Prop} : den F p (.stp K k) .normal env h = At F K env h := propext Iff.rfl
theorem aSF {K : Act → World → Prop} {j : Nat} : den F p (.stp K k) (.exit j) env h = den F p k (.exit j) env h := propext Iff.rfl
theorem aSG {K : Act → World → Prop} : den F p (.stp K k) .ret env h = den F p k .ret env h := propext Iff.rfl
theorem aTN {E : Env} {i : Nat} {acc : List Ent} {K : List Ent → Prop} : vcA E h env [] i acc K = K acc := propext Iff.rfl
theorem aSH {E : Env} {o : Oper} {r : List Oper} {i : Nat} {acc : List Ent} {K : List Ent → Prop} : vcA E h env (o :: r) i acc K = match o.dst, opA E h env acc o with
  | some d, (p, v) => aAN acc o.guard ∧ (fI acc (aAd acc o.guard) → p) ∧ vcA E h env r (i + 1) (⟨i, d, aAd acc o.guard, v⟩ :: acc) K
  | none, _ => False := propext (by rw [vcA]; exact Iff.rfl)
theorem aSI {E : Env} {all : List Oper} {K : St → List Obj → Prop} : qN E all [] env h K = K env h := propext Iff.rfl
theorem aRj {E : Env} {all : List Oper} {o : Oper} {r : List Oper} {K : St → List Obj → Prop} : qN E all (o :: r) env h K = match o.guard with
  | none => match xV E env h o with
   | (p, v, h') => p ∧ qN E all r (wL o.dst v env) h' K
  | some (j, pol) => match aEH all j with
   | some dj => match look env dj with
    | .val .bool b => (b = pol → match xV E env h o with
      | (p, v, h') => p ∧ qN E all r (wL o.dst v env) h' K) ∧ (b = !pol → qN E all r (wL o.dst .undef env) h K)
    | .undef => qN E all r (wL o.dst .undef env) h K
    | _ => False
   | none => False := propext (by rw [qN] <;> exact Iff.rfl)
def VOK (F : Fr) (p : PlR) : Prop := kP F
theorem dM (hF : VOK F p) {x y : Code} {D : Type} (J : D → Prop) (keep : List Nat) (uE : D → St) (uO : D → List (Nat ⊕ Obj))
  (hx : vcT F p x (.stp (fun a' w' => ∃ d' c', J d' ∧ Sim F.E F.M F.w0 F.nt F.ds c' (aFp env keep (uE d')) (qA h (uO d')) a' w') k) env h)
  (hy : ∀ d, J d → vcT F p y k (aFp env keep (uE d)) (qA h (uO d))) : Tri F (.seq x y) (aFv F k) env h :=
 aOn J (fun d => aFp env keep (uE d)) (fun d => qA h (uO d)) (aNx hF hx) (fun d hd => aNx hF (hy d hd))
theorem bQ (hF : VOK F p) {x : Code} {D E R : Type} {G : Md} {step : D → Option (D ⊕ E)} {kk : E → Option R} {Θ : R → Prop} {d0 : D} (keep : List Nat) (uE : D → St) (uO : D → List (Nat ⊕ Obj))
  (hd : sat ((dB G step d0).bind kk) Θ) (hh : h = qA h (uO d0)) (hf : mX h env (aFp env keep (uE d0)))
  (round : ∀ d (A : D → Prop) (B : D ⊕ E → Prop), (∀ x, B (.inl x) → A x) → (∀ e, B (.inr e) → sat (kk e) Θ) → sat (step d) B → vcT F p x (.stp (fun a' w' => ∃ d' c', A d' ∧ Sim F.E F.M F.w0 F.nt F.ds c' (aFp env keep (uE d')) (qA h (uO d')) a' w') k) (aFp env keep (uE d)) (qA h (uO d))) : Tri F (.loop x) (aFv F k) env h := by
 obtain ⟨r, hr, hΘ⟩ := hd
 refine aOm (fun d => (dB G step d).bind kk = some r) (aCl step) (fun d => aFp env keep (uE d)) (fun d => qA h (uO d)) (aQ d0 hr hh hf) fun d hi => ?_
 obtain ⟨s, h1, h2⟩ := aKY hi
 refine aNx hF (k := .stp _ k) (round d (fun d' => (dB G step d').bind kk = some r ∧ aCl step d' < aCl step d) (nZ (fun d' => (dB G step d').bind kk = some r ∧ aCl step d' < aCl step d) (fun e => kk e = some r)) (fun _ hx => hx) (fun e he => ⟨r, he, hΘ⟩) ⟨s, h1, h2⟩)
theorem tG (hF : VOK F p) {id : Nat} {ops : Array Oper} {draw : Bool} (keep : List Nat) (hv : vcA F.E h env ops.toList 0 [] (fun acc => den F p k .normal (aJi keep acc env) h)) : Tri F (.region id ops draw) (aFv F k) env h :=
 aQC hF (yC hF k) hv
def aT3 (P : Program) (fn : Func) (S : Nat → Prop) (w0 : World) (r : RK) (Θ : r.ty.den → Prop) : Exit → Act → World → Prop := fun e a w => ∃ y, Θ y ∧ post P fn S w0 r y e a w
theorem aE {F : Fr} {fn : Func} {S : Nat → Prop} {r : RK} {Θ : r.ty.den → Prop} {env : St} {h : List Obj} (hF : kP F) (l : List ResultVar) (hM : F.M = top S) (hds : F.ds = []) (hr : fn.results = l.toArray) {y : r.ty.den} (hy : Θ y) (hq : (aM F.E.T h env l).1 ∧ fJ h r y (aM F.E.T h env l).2) : At F (aT3 F.P fn S F.w0 r Θ .ret) env h :=
 fun c a w hs => ⟨y, hy, dK hF l hM hds hr hq c a w hs⟩
theorem bF {P : Program} {E : Env} {f : FuncId} {fn : Func} {body : Code} {a : Ty} {r : RK} {m : a.den → Option r.ty.den} (hE : eT P E) (hm : P.follows .mixedOrders = true) (hf : P.funcs[f]? = some fn) (hb : fn.body = some body) (hok : gD fn.ntmps body = true) (hn : aIB a ≤ fn.ntmps) (p : PlR)
  (ht : ∀ (w0 : World) (S : Nat → Prop) (x : a.den) (Θ : r.ty.den → Prop), a.wf x → sat (m x) Θ → VOK (fr P E S w0 fn.ntmps) p → vcT (fr P E S w0 fn.ntmps) p body (.fin (aT3 P fn S w0 r Θ)) (bJ a x 0) []) : FOK P E.G f (mSpec a r m) :=
 jX hE hf hb hok hn fun w0 S x y hw hx => by
  have hF : kP (fr P E S w0 fn.ntmps) := ⟨hE, hm⟩
  have := aNx hF (ht w0 S x (fun z => z = y) hw ⟨y, hx, rfl⟩ hF)
  intro hok c a w hs
  refine wp_mono (this hok c a w hs) fun e a' w' hq => ?_
  obtain ⟨z, rfl, hz⟩ := hq
  exact hz
end
attribute [go_sem ↓] aSr aRg aSs aTK aTL aSt aRh aRi aSu aPx
attribute [go_sem ↓] aTM aSv aSw aSx aSy aSz aSA aSB aSC aSD aSE aSF aSG
attribute [go_sem ↓] aTN aSH aSI aRj
attribute [go_sem] aTG first aOD mX jB fJ eq_self aSq
end Go.Vc
namespace Go.Vc
open Go.RowKit
section
variable {F : Fr} {K : Act → World → Prop} {env : St} {h : List Obj}
theorem aRk (i q : Nat) (e : TypeId) (m : Mk) (t : Ty) {n : Nat} {vs : List AV} (ho : h[i]? = some (.box n (.agg vs))) (hq : vs[q]? = some .nilS) (hs1 : vs.all AV.solid1 = true) (hk : At F K env (h.set i (.box n (.agg (vs.set q (.own h.length)))) ++ [aCe e m t []])) : At F K env h := fun c a w hs => by
 have hil : i < h.length := iO ho
 have hin : i < c.n := by rw [hs.good.n]; exact hil
 have hrep : gU w c.S (.sl t) (.sl e m) [] [.slice none 0 0] [] := ⟨.slice none 0 0, [], [], rfl, World.ownsRow_nil w 0 e t.cells, rfl, rfl, rfl, fun i h => by simp at h⟩
 obtain ⟨c', hl, hg, hv⟩ := hs.good.taken [] (w' := w) rfl rfl rfl (Nat.le_refl _) (fun _ _ _ => rfl) hrep List.nodup_nil (fun b hb => by cases hb) ⟨_, _, _, rfl⟩
 have hg : Good F.M F.w0 c' (h ++ [aCe e m t []]) w := hg
 have ho' : (h ++ [aCe e m t []])[i]? = some (.box n (.agg vs)) := by rw [List.getElem?_append_left hil]; exact ho
 obtain ⟨b, cells, e', q1, q2, q3, q4⟩ := hg.objs i _ ho'
 simp only [aG] at q4
 obtain ⟨hql, hqe⟩ := List.getElem?_eq_some_iff.1 hq
 obtain ⟨pre, ds, post, e1, hp, hd, hset⟩ := aKa q4 (fun v hv => List.all_eq_true.1 hs1 v hv) hql
 have hfo : ∀ (vs : List AV) (q : Nat) (hq : q < vs.length), (cR (.agg vs) q).1 = vs[q] := by
  intro vs
  induction vs with
  | nil => intro q hq; simp at hq
  | cons v r ih => intro q hq; cases q with
   | zero => rfl
   | succ q => simp only [cR, List.getElem_cons_succ]; exact ih q (by simpa using hq)
 rw [hfo vs q hql, hqe] at hd
 have hd : ds = [.slice none 0 0] := hd
 subst hd
 have hown : aG c' w (.own h.length) [.slice none 0 0] := by
  obtain ⟨hh, _⟩ := hv
  exact hh
 have hnew := hset (.own h.length) _ hown
 rw [← e1] at hnew
 have key := hg.retell ho' (o' := .box n (.agg (vs.set q (.own h.length)))) (S' := c'.S) (B' := c'.bl i) (fun b hb => .inl hb) (fun b hb => hb) ⟨b, cells, e', q1, q2, q3, by
  have hle : c'.le ⟨c'.S, c'.hd, c'.n, fun j => if j = i then c'.bl i else c'.bl j⟩ := ⟨fun _ h => h, Nat.le_refl _, fun _ _ => rfl⟩
  have : aG c' w (.agg (vs.set q (.own h.length))) cells.toList := by simp only [aG]; exact hnew
  exact aG.keep hle (.refl _ _) _ _ this⟩ (fun b hb => ⟨hb, (hg.own i _ b ho' hb).2.2⟩)
 obtain ⟨c2, hl2, hg2⟩ := key
 rw [List.set_append_left _ _ hil] at hg2
 have hlt := hl.trans hl2
 exact hk c2 a w ⟨hg2, hs.glob.mono hlt.le.S hlt.same, fun s => hlt.val (hs.env s), hs.size, hs.defers⟩
theorem aSJ {fn : Func} {sp : pL} {c0 : Ctx} {d : sp.D} {h' : List Obj} (hF : kP F) (l : List ResultVar) (σ : List Nat) (u : AV) (hM : F.M = GM sp c0 d) (hds : F.ds = []) (hr : fn.results = l.toArray) (hnd : nodupB σ = true) (hpr : preB F.M.m σ = true) (hout : sp.out d = .ret (ren σ u) h') (hh : (σ.map fun i => pZ σ (h.getD i .dead)) = h') (hy : (aM F.E.T h env l).1) (hy2 : (aM F.E.T h env l).2 = [u]) :
  At F (bodyPost F.P fn (aGr sp c0 F.w0 d) .ret) env h := fun c a w hs => by
 subst hh
 obtain ⟨us, q1, q2, q3⟩ := aAk (P := F.P) hF.env.T hs.good hs.env hr hy
 refine ⟨hs.defers.trans hds, aCP us, q1, c.ren σ, ?_⟩
 rw [hout]
 refine ⟨aCP us, rfl, by rw [← hM]; exact hs.good.ren hnd hpr, ?_⟩
 have hl1 : us.length = 1 := by rw [q2, hy2]; rfl
 match us, hl1 with
 | [x], _ =>
  have := q3 0 (by rw [hy2]; simp) (by simp)
  simp only [hy2, List.getElem_cons_zero] at this
  exact aGo this
end
end Go.Vc
namespace Go.Vc
open Go.RowKit
section
variable {P : Program} {T : Tab} {H : Type} {enc : TypeId × Value → H} {w : World} {spare : Nat → Bool} {held : Bool}
def aSK (k : IntKind) (ys : List Nat) : DataW H := .agg (ys.map fun (y : Nat) => .lit (.int k (y : Int)))
theorem aNy : ∀ (cs : List Value), ((List.range cs.length).map fun i => (cs.drop i).take 1).flatten = cs := by
 intro cs
 have e : ((List.range cs.length).map fun i => (cs.drop i).take 1) = cs.map fun c => [c] := by
  apply List.ext_getElem
  ·simp
  ·intro i h1 h2
   simp only [List.length_map, List.length_range] at h1
   simp only [List.getElem_map, List.getElem_range]
   rw [List.drop_eq_getElem_cons h1]
   rfl
 rw [e]
 clear e
 induction cs with
 | nil => rfl
 | cons c cs ih => simp [ih]
theorem aTO {S : Nat → Prop} (hT : gY P T) {n : Nat} {t : TypeId} {m : Nat} {k : IntKind} {cs : List Value} {p : List MemPlace} {ys : List Nat} (ht : T t = some (.arr m (.u k)))
  (h : DataW.trod enc P w 0 spare held n t cs = some (aSK k ys, p)) : aO w S (.arr m (.u k)) ys cs := by
 obtain ⟨d, hd, hb⟩ := (hT _ _ ht).desc
 cases d <;> simp [fF] at hb
 obtain ⟨⟨⟨rfl, hb1⟩, hb2⟩, _⟩ := hb
 obtain ⟨xs, q, hq, hx, hlen, hxl, hf⟩ := DataW.trod_array hd h
 simp only [aSK, Prod.mk.injEq, DataW.agg.injEq] at hx
 rw [kK (hT _ _ ht)] at hlen
 rw [kK (hT _ _ hb1)] at hf
 have e1 : (Ty.u k).cells = 1 := rfl
 have e2 : (Ty.arr m (.u k)).cells = m := by show m * 1 = m; omega
 rw [e1] at hf
 rw [e2] at hlen
 have hyl : ys.length = m := by
  have := congrArg List.length hx.1
  simp only [List.length_map] at this
  omega
 obtain ⟨du, hdu, hbu⟩ := (hT _ _ hb1).desc
 cases du <;> simp [fF] at hbu
 obtain ⟨rfl, hs⟩ := hbu
 refine ⟨hyl, (List.range cs.length).map (fun i => (cs.drop i).take 1), (aNy cs).symm, by simp; omega, fun i h1 h2 => ?_⟩
 have hi : i < m := by omega
 have h3 := hf i hi
 rw [Nat.mul_one, List.getElem?_eq_getElem (by omega)] at h3
 obtain ⟨v, g1, g2, g3⟩ := DataW.trod_int hdu h3
 simp only [List.getElem_map, List.getElem_range]
 have h4 : (xs.map (·.1))[i]? = (ys.map fun (y : Nat) => (DataW.lit (.int k (y : Int)) : DataW H))[i]? := by rw [hx.1]
 rw [List.getElem?_map, List.getElem?_map, List.getElem?_eq_getElem (by omega), List.getElem?_eq_getElem h1, g2] at h4
 simp only [Option.map_some, Option.some.injEq, DataW.lit.injEq, Lit.int.injEq, true_and] at h4
 rw [h4] at g1 g3
 simp only [Lit.wf, Bool.and_eq_true, decide_eq_true_eq] at g3
 exact ⟨g1, hs, g3.2⟩
theorem aSL {l : List (String × DataW Unit)} {n : String} {d : DataW Unit} (hm : (n, d) ∈ l) {ps : List MemPlace} (h : DataW.LaidVars P w l ps) :
  ∃ g t cs fuel p, P.globalNamed n = some g ∧ (P.globals[g]?).map (·.type) = some t ∧ w.var? P n = some cs ∧ DataW.trod (fun _ => ()) P w 0 (fun _ => true) false fuel t cs.toList = some (d, p) := by
 induction l generalizing ps with
 | nil => cases hm
 | cons x r ih =>
  obtain ⟨n', d'⟩ := x
  obtain ⟨g, t, cs, fuel, p, q, h1, h2, h3, h4, h5, _⟩ := h
  rcases List.mem_cons.1 hm with e | e
  ·cases e
   exact ⟨g, t, cs, fuel, p, h1, h2, h3, h4⟩
  ·exact ih e h5
theorem aOE (hT : gY P T) {l : List (String × DataW Unit)} (h : laidMet P l w) (n : String) (g : Nat) (t : TypeId) (m : Nat) (k : IntKind) (ys : List Nat) (hm : (n, aSK k ys) ∈ l) (hg : P.globalNamed n = some g)
  (ht : (P.globals[g]?).map (·.type) = some t) (hty : T t = some (.arr m (.u k))) (hm0 : 0 < m) : aJ ⟨wN w, fun _ => Go.undef, 0, fun _ _ => False⟩ w (.roa (.arr m (.u k)) ys) (.pointer (some ⟨g, 0, none⟩)) := by
 obtain ⟨ps, hv, _⟩ := h
 obtain ⟨g', t', cs, fuel, p, h1, h2, h3, h4⟩ := aSL hm hv
 obtain rfl := Option.some.inj (hg.symm.trans h1)
 obtain rfl := Option.some.inj (ht.symm.trans h2)
 have hr : aO w (wN w) (.arr m (.u k)) ys cs.toList := aTO hT hty h4
 have hc : hZ w g 0 cs.toList := fun j v hj => by
  have := World.var?_cell hg h3 j
  rw [Nat.zero_add, this]
  simpa using hj
 refine aB7 ?_ hr hc
 have hl := aO.length _ _ _ hr
 have hl : cs.toList.length = m * 1 := hl
 have h0 : 0 < cs.toList.length := by omega
 exact aQt (hc 0 (cs.toList[0]'h0) (List.getElem?_eq_getElem h0))
end
end Go.Vc
