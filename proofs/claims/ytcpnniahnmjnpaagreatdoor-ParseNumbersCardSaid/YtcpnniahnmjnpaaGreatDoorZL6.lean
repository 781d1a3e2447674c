import Derived.Test.YtcpnniahnmjnpaaGreatDoorZL5
import Derived.Recover
import Derived.LaidMore
import Derived.LaidHandle
import Derived.MakeChecks
import Derived.Handed
set_option linter.unusedVariables false
set_option linter.unusedSimpArgs false
namespace Go.Vc
open Go.RowKit
section
variable {P : Program} {E : Env} {M : Perm} {w0 : World} {c : Ctx} {h : List Obj} {w : World}
def aU2 (P : Program) (fn : Func) (S : Nat → Prop) (w0 : World) (r : RK) (y : r.ty.den) : Exit → Act → World → Prop :=
 bodyPostD P fn fun e w' => ∃ v, e = .returned v ∧ iY nothing w0 w' ∧ aVr w' S w0.heap.size r y v
theorem aYm {f : FuncId} {fn : Func} {body : Code} {sp : aI} (hE : iE P E) (hf : P.funcs[f]? = some fn) (hb : fn.body = some body) (hok : iA fn.ntmps body = true) (hn : aMX sp.args ≤ fn.ntmps)
  (ht : ∀ (w0 : World) (S : Nat → Prop) (x : sp.args.den), sp.args.wf x → sp.pre x → Tri (fr P E S w0 fn.ntmps) body (aU2 P fn S w0 sp.res (sp.fn x)) (bZ sp.args x 0) []) : FOK P E.G f sp := by
 intro w S vs x hS hG ha hp
 refine calls_of_wp_defers hf hb ?_
 refine ht w S x (aKf _ _ _ ha) hp hok ⟨S, fun _ => Go.undef, 0, fun _ _ => False⟩ _ w ⟨⟨rfl, .refl _ _, hS, fun b hb _ => .inl hb, fun i o ho => by simp at ho, fun i o b ho => by simp at ho, fun i j oi oj b hi => by simp at hi, ⟨Nat.le_refl _, fun i hi => absurd hi (Nat.not_lt_zero i)⟩⟩, hG, ?_, ?_, rfl⟩
 ·refine aO2 _ x 0 vs.toList _ ha rfl fun i v hv => ?_
  have hlt : i < vs.size := by
   rcases Nat.lt_or_ge i vs.size with hh | hh
   ·exact hh
   ·rw [List.getElem?_eq_none (by simpa using hh)] at hv; cases hv
  simp only [Nat.zero_add]
  have : vs[i]? = some v := by rw [← Array.getElem?_toList]; exact hv
  simp [Array.getElem?_append, hlt]
  rw [Array.getElem?_eq_getElem hlt] at this
  simpa using this
 ·have := aO3 _ _ _ ha
  simp at this
  simp
  omega
theorem aWZ {S : Nat → Prop} (hwr : M.wr = nothing) (hrd : M.rd = S) (hg : Good M w0 c h w) {r : RK} {y : r.ty.den} {avs : List AV} {xs : List Value} (hl : xs.length = avs.length) (hv : ∀ i (h1 : i < avs.length) (h2 : i < xs.length), aX c w avs[i] xs[i]) (hy : iF h r y avs) : aVr w S w0.heap.size r y (aIM xs) := by
 have hsrc : ∀ {c' : Ctx} {h' : List Obj}, Good M w0 c' h' w → ∀ b, c'.S b → S b ∨ (w0.heap.size ≤ b ∧ b < w.heap.size) := fun hg b hb => by
  rcases Nat.lt_or_ge b w0.heap.size with hlt | hge
  ·have := hg.src b hb hlt
   rw [hwr, hrd] at this
   exact .inl (this.resolve_right (fun f => f))
  ·exact .inr ⟨hge, hg.sfin b hb⟩
 obtain ⟨c', hll, hg'⟩ := hg.frzAll
 have hval : ∀ i (h1 : i < avs.length) (h2 : i < xs.length), aX c' w avs[i] xs[i] := fun i h1 h2 => hll.val (hv i h1 h2)
 cases r with
 | none =>
  match avs, xs, hl, hy with
  | [], [], _, _ => rfl
 | one t =>
  match avs, xs, hl, hy, hval with
  | [v], [x], _, hy, hval =>
   have hy : AV.as (h.map Vc.frzAll) t v = some y := hy
   rw [← aUR] at hy
   have := vF hg' (hval 0 (by simp) (by simp)) hy
   exact dF.keep (hsrc hg') (.refl _ _) this
 | own e t =>
  match avs, xs, hl, hy, hv with
  | [.own i], [x], _, hy, hv =>
   have hvs := hv 0 (by simp) (by simp)
   simp only [List.getElem_cons_zero] at hvs
   have ho : h[i]? = some (.row e t y) := hy
   obtain ⟨hin, rfl⟩ := aBg hvs
   obtain ⟨vals, hown, hrep⟩ := hg.objs i _ ho
   refine ⟨vals, ⟨hown.1, hown.2.imp id ?_⟩, bE.keep (fun b hb => ?_) (.refl _ _) _ _ _ hrep⟩
   ·rintro ⟨g, cap, cur, h1, h2, h3⟩
    refine ⟨g, cap, cur, h1, ?_, h3⟩
    have := (hg.own i _ g ho (by simp [fN, h1, aW])).1
    rw [hwr] at this
    exact this.resolve_right (fun f => f)
   ·rcases hsrc hg b hb with h1 | h1
    ·exact .inl h1
    ·exact .inr ⟨h1.1, h1.2, fun e' => (hg.own i _ b ho e').2.2 hb⟩
  | [.nilS], [x], _, hy, hv =>
   have hvs := hv 0 (by simp) (by simp)
   simp only [List.getElem_cons_zero] at hvs
   have hy : y = [] := hy
   subst hy
   have hsv : x = .slice none 0 0 := by
    obtain ⟨h1, _, h3⟩ := hvs
    have h3 := h3 rfl
    simp only [aN] at h1
    cases x <;> simp [Value.cells] at h1 h3 <;> simp [h1]
   subst hsv
   exact ⟨[], ⟨by simp, .inl ⟨rfl, rfl⟩⟩, ⟨rfl, [], rfl, rfl, fun i h => by simp at h⟩⟩
 | tup t =>
  have hy : avs.length ≠ 1 ∧ aA5 (h.map Vc.frzAll) t avs = some y := hy
  obtain ⟨hne, hy⟩ := hy
  rw [← aUR] at hy
  have hargs := aHk hg' hy (xs := xs) hl hval
  refine ⟨xs, ?_, aVF (hsrc hg') hargs⟩
  match xs, hl ▸ hne with
  | [], _ => rfl
  | [s], hne => exact absurd rfl hne
  | s :: s' :: l, _ => rfl
def m0 : Option Pan → Value → FrameMode
 | none, _ => .returning
 | some p, u => .panicking (aQs p.k u)
def m1 : Option Pan → Value → FrameMode
 | none, _ => .returning
 | some p, u => .panicking [{ v := .iface p.k u, recovered := true, goexit := false }]
theorem aVN (m : Option Pan) (u : Value) : settle (m1 m u) = .returning := by cases m <;> rfl
def aY3 (P : Program) (g : FuncId) (vs : Array Value) (u0 u1 : FrameMode) (w : World) (R : Ending → World → Prop) : Prop := CallsD P g vs u0 w fun e u' w' => u' = u1 ∧ R e w'
def DOK (P : Program) (G : Nat → AV) (g : FuncId) (mode : Option Pan) (sp : gH) : Prop :=
 ∀ (c : Ctx) (w : World) (d : sp.D) (vs : Array Value) (u : Value), sp.pre d → GIn G sp c w d vs.toList → (∀ p, mode = some p → dF w c.S p.t p.x u) → aY3 P g vs (m0 mode u) (m1 mode u) w (aLN sp c w d)
theorem aS2 {F : Fr} {fn : Func} {S : Nat → Prop} {r : RK} {y : r.ty.den} {env : St} {h : List Obj} {k : Nat} {roots : Nat → Value} {g : FuncId} {l2 : List Nat} {mode : Option Pan} (hF : gD F) (hM : F.M = ⟨nothing, S, k, roots⟩) (hds : F.ds = [⟨.fn (.func g) (l2.map roots).toArray, #[]⟩]) (hk : ∀ i ∈ l2, i < k) (hbx : aEt h l2 = true)
  (hfn : ∃ fn, F.P.funcs[g]? = some fn ∧ fn.name ≠ "runtime.NumGoroutine" ∧ fn.body.isSome = true) (t : Hit) (hok : DOK F.P F.E.G g mode t.sp) (hh : aPe h (l2.map fun i => .ptr i []) t) {v : AV} {h' : List Obj} (hout : t.sp.out t.d = .ret v h')
  (l : List ResultVar) (hr : fn.results = l.toArray) (hy : (aT F.E.T (aFL t.σ t.sp.m h h') env l).1 ∧ iF (aFL t.σ t.sp.m h h') r y (aT F.E.T (aFL t.σ t.sp.m h h') env l).2) {c : Ctx} {a : Act} {w : World} {u : Value} (hs : Sim F.E F.M F.w0 F.nt F.ds c env h a w) (hu : ∀ p, mode = some p → dF w c.S p.t p.x u) :
  Leaves F.P fn a.tmps (fun e w' => ∃ v, e = .returned v ∧ iY nothing F.w0 w' ∧ aVr w' S F.w0.heap.size r y v) a.defers (m0 mode u) w := by
 have hroot := hs.good.root
 rw [hM] at hroot
 have hhd : ∀ i ∈ l2, c.hd i = roots i ∧ i < c.n := fun i hi => ⟨hroot.2 i (hk i hi), Nat.lt_of_lt_of_le (hk i hi) hroot.1⟩
 have hl2 : l2.map roots = l2.map c.hd := List.map_congr_left fun i hi => (hhd i hi).1.symm
 have hvb : ∀ i (h1 : i < (l2.map fun i => AV.ptr i []).length) (h2 : i < (l2.map roots).toArray.toList.length), aX c w (l2.map fun i => AV.ptr i [])[i] (l2.map roots).toArray.toList[i] := fun i h1 h2 => by
  have := aHp hs.good hbx (fun i hi => (hhd i hi).2) i h1 (by simpa using h2)
  simpa [hl2] using this
 rw [hs.defers, hds]
 refine leaves_cons (f := g) (args := (l2.map roots).toArray) ?_ ?_ ?_
 ·cases mode <;> simp [m0]
 ·have := aCt (w := w) (args := (l2.map roots).toArray) hfn
  simpa [invoke] using this
 ·have hcall := aRl (C := aY3 F.P g (l2.map roots).toArray (m0 mode u) (m1 mode u) w) (fun R R' h k => CallsD.mono h fun e u' w' q => ⟨q.1, k _ _ q.2⟩) (fun hp hin => hok _ _ _ _ _ hp hin hu) hs.good hs.glob (vs := l2.map fun i => AV.ptr i []) (xs := (l2.map roots).toArray) (by simp) hvb hh
  refine CallsD.mono hcall ?_
  rintro e u' w' ⟨rfl, cN, hl, hend⟩
  rw [hout] at hend
  obtain ⟨uv, rfl, hg, _⟩ := hend
  show Leaves F.P fn a.tmps _ [] (settle (m1 mode u)) w'
  rw [aVN]
  obtain ⟨us, q1, q2, q3⟩ := aFM (P := F.P) hF.env.T hg (hs.env.keep hl) hr hy.1
  refine ⟨aIM us, q1, aIM us, rfl, by have := hg.keeps; rw [hM] at this; exact this, ?_⟩
  exact aWZ (by rw [hM]) (by rw [hM]) hg q2 (fun i h1 h2 => q3 i h1 h2) hy.2
theorem aOB {F : Fr} {fn : Func} {S : Nat → Prop} {r : RK} {y : r.ty.den} {env : St} {h : List Obj} {k : Nat} {roots : Nat → Value} {g : FuncId} {l2 : List Nat} (hF : gD F) (hM : F.M = ⟨nothing, S, k, roots⟩) (hds : F.ds = [⟨.fn (.func g) (l2.map roots).toArray, #[]⟩]) (hk : ∀ i ∈ l2, i < k) (hbx : aEt h l2 = true)
  (hfn : ∃ fn, F.P.funcs[g]? = some fn ∧ fn.name ≠ "runtime.NumGoroutine" ∧ fn.body.isSome = true) (t : Hit) (hok : DOK F.P F.E.G g none t.sp) {v : AV} {h' : List Obj} (hout : t.sp.out t.d = .ret v h')
  (l : List ResultVar) (hr : fn.results = l.toArray) (hh : aPe h (l2.map fun i => .ptr i []) t) (hy : (aT F.E.T (aFL t.σ t.sp.m h h') env l).1 ∧ iF (aFL t.σ t.sp.m h h') r y (aT F.E.T (aFL t.σ t.sp.m h h') env l).2) :
  At F (aU2 F.P fn S F.w0 r y .ret) env h := fun c a w hs =>
 aS2 (u := Go.undef) hF hM hds hk hbx hfn t hok hh hout l hr hy hs (fun p hp => by cases hp)
theorem aCv {F : Fr} {fn : Func} {S : Nat → Prop} {r : RK} {y : r.ty.den} {env : St} {h : List Obj} {k : Nat} {roots : Nat → Value} {g : FuncId} {l2 : List Nat} {p : Pan} (hF : gD F) (hM : F.M = ⟨nothing, S, k, roots⟩) (hds : F.ds = [⟨.fn (.func g) (l2.map roots).toArray, #[]⟩]) (hk : ∀ i ∈ l2, i < k) (hbx : aEt h l2 = true)
  (hfn : ∃ fn, F.P.funcs[g]? = some fn ∧ fn.name ≠ "runtime.NumGoroutine" ∧ fn.body.isSome = true) (t : Hit) (hok : DOK F.P F.E.G g (some p) t.sp) {v : AV} {h' : List Obj} (hout : t.sp.out t.d = .ret v h')
  (l : List ResultVar) (hr : fn.results = l.toArray) (hh : aPe h (l2.map fun i => .ptr i []) t) (hy : (aT F.E.T (aFL t.σ t.sp.m h h') env l).1 ∧ iF (aFL t.σ t.sp.m h h') r y (aT F.E.T (aFL t.σ t.sp.m h h') env l).2) :
  AtP F (aU2 F.P fn S F.w0 r y) p env h := fun c a w u hs hu =>
 aS2 hF hM hds hk hbx hfn t hok hh hout l hr hy hs (fun q hq => by cases hq; exact hu)
theorem aBh {F : Fr} {Q : Exit → Act → World → Prop} {env : St} {h : List Obj} {id : Nat} {ops : Array Oper} {y : Code} {g : FuncId} {t : Nat} {caps : Array Operand} {ty1 ty2 : TypeId} {pos1 pos2 : String} {aft1 aft2 : Array Edge} (k : Nat) (l2 : List Nat)
  (hops : ops = #[⟨some t, .makeFunc (.func g) #[] caps, ty1, pos1, aft1, none⟩, ⟨none, .defer ⟨.value (.tmp t), #[], #[]⟩, ty2, pos2, aft2, none⟩])
  (htags : allTags h (caps.toList.map (evA F.E.G env)) = some l2) (hm : F.M.m ≤ k) (hk : k ≤ h.length)
  (hy : ∀ roots : Nat → Value, (∀ i, i < F.M.m → roots i = F.M.roots i) → Tri { F with M := ⟨F.M.wr, F.M.rd, k, roots⟩, ds := ⟨.fn (.func g) (l2.map roots).toArray, #[]⟩ :: F.ds } y Q ((t, .junk) :: env) h) : Tri F (.seq (.region id ops false) y) Q env h := fun hok c a w hs => by
 simp only [iA, Bool.and_eq_true] at hok
 obtain ⟨⟨⟨hok1, _⟩, _⟩, hok2⟩ := hok
 subst hops
 have hall := List.all_eq_true.1 hok1
 have hk1 := hall ⟨some t, .makeFunc (.func g) #[] caps, ty1, pos1, aft1, none⟩ (by simp)
 simp only [gV, Bool.and_eq_true] at hk1
 have hops1 : ∀ x ∈ (Op.makeFunc (.func g) #[] caps).operands, nY x = true := Array.all_eq_true_iff_forall_mem.1 hk1.1
 have htn : t < a.tmps.size := by
  have := hk1.2
  rw [hs.size]
  simpa using this
 obtain ⟨hlt, hcv⟩ := aJ8 hs.good htags (vs := caps.toList.map a.eval) (by simp) (fun i h1 h2 => by
  simp only [List.getElem_map]
  exact aC7 hs.env hs.glob (hops1 _ (by simp [Op.operands])))
 have hcv' : caps.map a.eval = (l2.map c.hd).toArray := by rw [← Array.toList_inj]; simpa using hcv
 refine wp_seq (wp_region ?_)
 have hy' := hy c.hd (fun i hi => hs.good.root.2 i hi)
 have hgood : Good ⟨F.M.wr, F.M.rd, k, c.hd⟩ F.w0 c h w := ⟨hs.good.n, hs.good.keeps, hs.good.sfin, hs.good.src, hs.good.objs, hs.good.own, hs.good.sep, by rw [hs.good.n]; exact hk, fun _ _ => rfl⟩
 have hfin := hy' hok2 c { (a.put (some t) (.func (.func g) #[] (l2.map c.hd).toArray)) with defers := ⟨.fn (.func g) (l2.map c.hd).toArray, #[]⟩ :: a.defers } w ⟨hgood, hs.glob, by
  have := hs.env.put (d := t) (v := .junk) (x := .func (.func g) #[] (l2.map c.hd).toArray) htn trivial
  exact this, by simpa [Act.put] using hs.size, by simp [hs.defers]⟩
 have run1 : (execOp a.eval ⟨some t, .makeFunc (.func g) #[] caps, ty1, pos1, aft1, none⟩).run F.P w = .ok (.value (.func (.func g) #[] (l2.map c.hd).toArray)) w := by
  simp [execOp, Instr.makeFunc, hcv']
 have hget : (a.put (some t) (.func (.func g) #[] (l2.map c.hd).toArray)).eval (.tmp t) = .func (.func g) #[] (l2.map c.hd).toArray := by
  simp [Act.eval, Act.put, htn]
 have run2 : (execOp (a.put (some t) (.func (.func g) #[] (l2.map c.hd).toArray)).eval ⟨none, .defer ⟨.value (.tmp t), #[], #[]⟩, ty2, pos2, aft2, none⟩).run F.P w = .ok (.defer ⟨.fn (.func g) (l2.map c.hd).toArray, #[]⟩) w := by
  simp [execOp, resolve, Deferred.ofValue, hget]
 show wpOps F.P _ _ [0, 1] a w
 have w1 : ∀ (o : Oper) (y : Nat → Option Bool), o.guard = none → Region.wanted o y = true := fun o y h => by simp [Region.wanted, h]
 unfold wpOps
 simp only [List.getElem?_toArray, List.getElem?_cons_zero]
 rw [if_pos (w1 _ _ rfl)]
 refine .inl ?_
 unfold Oper.wp
 rw [run1, Oper.upon_value]
 unfold wpOps
 simp only [List.getElem?_toArray, List.getElem?_cons_succ, List.getElem?_cons_zero]
 rw [if_pos (w1 _ _ rfl)]
 refine .inl ?_
 unfold Oper.wp
 rw [run2, Oper.upon_defer]
 exact hfin
theorem aFN {ops : Array Oper} {cs : List Frame} {Q : Exit → Act → List Frame → World → Prop} (hQ : ¬ LetsOut fun e a w => Q e a cs w) : ∀ (l : List Nat) (a : Act) (w : World), wpOps P ops (fun e a w => Q e a cs w) l a w → wpOpsS P ops Q l a cs w
 | [], a, w, hh => hh
 | i :: rest, a, w, hh => by
  unfold wpOps at hh
  unfold wpOpsS
  cases ho : ops[i]? with
  | none => simp only [ho] at hh ⊢; exact aFN hQ rest a w hh
  | some o =>
   simp only [ho] at hh ⊢
   split
   ·rename_i hw
    simp only [hw, if_true] at hh
    have hh := Oper.wp_mono (fun a w => aFN hQ rest a w) (hh.resolve_right fun q => hQ q.2)
    unfold Oper.wp at hh
    revert hh
    generalize (execOp a.eval o).run P w = r
    intro hh
    split
    ·exact hh.elim
    ·exact hh
   ·rename_i hw
    simp only [hw, if_false] at hh
    exact aFN hQ rest _ w hh
def aW0 : Option Pan → AV
 | none => .val .nili ()
 | some p => .val (.ifc p.k p.t) p.x
theorem aLR {g : FuncId} {fn : Func} {rest : Code} {id : Nat} {ops : Array Oper} {sp : gH} {mode : Option Pan} {t5 : Nat} {ty : TypeId} {pos : String} {aft : Array Edge} (hE : iE P E) (hf : P.funcs[g]? = some fn) (hb : fn.body = some (.seq (.region id ops false) rest)) (hok : iA fn.ntmps (.seq (.region id ops false) rest) = true) (hn : ∀ d, (sp.av d).length ≤ fn.ntmps)
  (h0 : ops[0]? = some ⟨some t5, .call ⟨.builtin .recover, #[], #[]⟩, ty, pos, aft, none⟩)
  (ht : ∀ (c : Ctx) (w : World) (d : sp.D), AV.wfL (sp.av d) → Obj.wfL (sp.hp d) → sp.pre d → c.n = (sp.hp d).length →
   sN E ops.toList (ops.toList.drop 1) ((t5, aW0 mode) :: aTY (sp.av d) 0) (sp.hp d) (fun env h => Tri ⟨P, E, GM sp c d, w, fn.ntmps, []⟩ rest (bodyPost P fn (aLN sp c w d)) env h)) : DOK P E.G g mode sp := by
 intro c w d vs u hp hin hu
 refine callsD_of_wpS hf hb fun c₀ cs hc₀ => ?_
 have hok' := hok
 simp only [iA, Bool.and_eq_true] at hok'
 obtain ⟨⟨⟨hok1, _⟩, _⟩, hok2⟩ := hok'
 refine wpS_seq (wpS_region ?_)
 have hsz : 0 < ops.size := by
  rcases Nat.lt_or_ge 0 ops.size with h | h
  ·exact h
  ·rw [Array.getElem?_eq_none h] at h0; cases h0
 obtain ⟨n, hn'⟩ : ∃ n, ops.size = n + 1 := ⟨ops.size - 1, by omega⟩
 have hrange : List.range ops.size = 0 :: List.range' 1 n := by rw [hn', List.range_eq_range', List.range'_succ]
 rw [hrange]
 unfold wpOpsS
 have w1 : ∀ (o : Oper) (y : Nat → Option Bool), o.guard = none → Region.wanted o y = true := fun o y h => by simp [Region.wanted, h]
 simp only [h0]
 rw [if_pos (w1 _ _ rfl)]
 have hrun : ∀ ρ, (execOp ρ ⟨some t5, .call ⟨.builtin .recover, #[], #[]⟩, ty, pos, aft, none⟩).run P w = .ok .recover w := fun ρ => by
  simp [execOp, resolve, invoke, builtin]
 rw [hrun]
 have key : ∀ v, aX c w (aW0 mode) v → wpOpsS P ops (Exit.thenS (rest.wpS P (bodyPostS P fn c₀ cs fun e u' w' => u' = m1 mode u ∧ aLN sp c w d e w')) (bodyPostS P fn c₀ cs fun e u' w' => u' = m1 mode u ∧ aLN sp c w d e w')) (List.range' 1 n) (({ tmps := vs ++ Array.replicate (fn.ntmps - vs.size) undef, defers := [] } : Act).put (some t5) v) ({ c₀ with mode := m1 mode u } :: cs) w := fun v hv => by
  refine aFN ?_ _ _ _ ?_
  ·rintro ⟨a', w', u', _, e⟩
   obtain ⟨c', e⟩ := e
   split at e <;> (obtain ⟨_, e, _⟩ := e; cases e)
  ·have hsim : Sim E (GM sp c d) w fn.ntmps [] c ((t5, aW0 mode) :: aTY (sp.av d) 0) (sp.hp d) (({ tmps := vs ++ Array.replicate (fn.ntmps - vs.size) undef, defers := [] } : Act).put (some t5) v) w := by
    have hlen := hin.len
    have hnn := hn d
    simp at hlen
    have hsz2 : (vs ++ Array.replicate (fn.ntmps - vs.size) undef).size = fn.ntmps := by simp; omega
    have ht5 : t5 < fn.ntmps := by
     have h0' : ops.toList[0]? = some ⟨some t5, .call ⟨.builtin .recover, #[], #[]⟩, ty, pos, aft, none⟩ := by simpa using h0
     have := List.all_eq_true.1 hok1 _ (List.mem_of_getElem? h0')
     simp only [gV, Bool.and_eq_true] at this
     simpa using this.2
    refine ⟨hin.good, hin.glob, ?_, by simpa [Act.put] using hsz2, rfl⟩
    refine aGT.put (a := { tmps := vs ++ Array.replicate (fn.ntmps - vs.size) undef, defers := [] }) ?_ (by rw [hsz2]; exact ht5) hv
    refine aRV _ vs.toList 0 hin.len hin.val fun i v hv => ?_
    have hlt : i < vs.size := by
     rcases Nat.lt_or_ge i vs.size with hh | hh
     ·exact hh
     ·rw [List.getElem?_eq_none (by simpa using hh)] at hv; cases hv
    simp only [Nat.zero_add]
    have : vs[i]? = some v := by rw [← Array.getElem?_toList]; exact hv
    simp [Array.getElem?_append, hlt]
    rw [Array.getElem?_eq_getElem hlt] at this
    simpa using this
   have := aKh (P := P) (ops := ops.toList) (Q := fun e a w' => Exit.thenS (rest.wpS P (bodyPostS P fn c₀ cs fun e u' w' => u' = m1 mode u ∧ aLN sp c w d e w')) (bodyPostS P fn c₀ cs fun e u' w' => u' = m1 mode u ∧ aLN sp c w d e w') e a ({ c₀ with mode := m1 mode u } :: cs) w') hE (List.all_eq_true.1 hok1) (fun env h c' a w' hk hs => by
    refine wpS_of_wp (wp_mono (hk hok2 c' a w' hs) fun e a w' hq => ?_)
    cases e with
    | normal => obtain ⟨q1, v, q2, q3⟩ := hq; exact ⟨q1, _, rfl, v, q2, rfl, q3⟩
    | ret => obtain ⟨q1, v, q2, q3⟩ := hq; exact ⟨q1, _, rfl, v, q2, rfl, q3⟩
    | panic ch => obtain ⟨q1, q3⟩ := hq; exact ⟨q1, _, rfl, rfl, q3⟩
    | outgrown => exact ⟨_, rfl, hq⟩
    | exit id => exact hq.elim
    | goto l => exact hq.elim) n 1 (by simp; omega) _ _ c _ w (ht c w d (aRW hin.len hin.val) (aUZ hin.good) hp hin.good.n) hsim
   simpa using this
 cases mode with
 | none =>
  have e : c₀.mode = .returning := hc₀
  have e2 : ({ c₀ with mode := .returning } : Frame) = c₀ := by rw [← e]
  have := key .nilIface (aX.ofV (by unfold dF; rw [if_neg (by simp [Ty.isAgg])]; exact rfl))
  simp only [m1, e2] at this
  simpa [recoverD, e, m1] using this
 | some p =>
  have e : c₀.mode = .panicking (aQs p.k u) := hc₀
  have := key (.iface p.k u) (aX.ofV (by
   unfold dF
   rw [if_neg (by simp [Ty.isAgg])]
   have hr := hu p rfl
   unfold dF at hr
   split at hr
   ·rename_i ha
    obtain ⟨ds, e1, e2⟩ := hr
    exact ⟨u, ds.toList, rfl, fun _ => by simpa using e1, (fun h => by rw [ha] at h; cases h), e2⟩
   ·rename_i ha
    exact ⟨u, [u], rfl, fun h => absurd h ha, fun _ => rfl, hr⟩))
  simp only [m1] at this
  simpa [recoverD, e, aQs, m1] using this
end
end Go.Vc
namespace Go.Vc
open Go.RowKit
def ck {α : Type} (p : Prop) [Decidable p] (k : Option α) : Option α := if p then k else none
theorem aM {α : Type} {p : Prop} [Decidable p] {k : Option α} {r : α} (h : ck p k = some r) : p ∧ k = some r := by
 unfold ck at h
 split at h
 ·rename_i hp; exact ⟨hp, h⟩
 ·cases h
theorem aZB {α : Type} {p : Prop} [Decidable p] {k : Option α} (hp : p) : ck p k = k := if_pos hp
theorem dP {α : Type} {p : Prop} [Decidable p] {x y : α} {r : α} (hp : p) (h : (if p then x else y) = r) : x = r := by rwa [if_pos hp] at h
theorem dQ {α : Type} {p : Prop} [Decidable p] {x y : α} {r : α} (hp : ¬ p) (h : (if p then x else y) = r) : y = r := by rwa [if_neg hp] at h
abbrev I64 (x : Int) : Prop := -9223372036854775808 ≤ x ∧ x ≤ 9223372036854775807
abbrev I32 (x : Int) : Prop := -2147483648 ≤ x ∧ x ≤ 2147483647
section
variable {D E R : Type} {step : D → Option (D ⊕ E)}
def iter (step : D → Option (D ⊕ E)) : Nat → D → Option E
 | 0, _ => none
 | n + 1, d => match step d with
  | none => none
  | some (.inl d') => iter step n d'
  | some (.inr e) => some e
theorem aLS : ∀ {n : Nat} {d : D} {e : E}, iter step n d = some e → iter step (n + 1) d = some e
 | 0, d, e, h => by cases h
 | n + 1, d, e, h => by
  unfold iter at h ⊢
  cases hs : step d with
  | none => rw [hs] at h; cases h
  | some s =>
   rw [hs] at h
   cases s with
   | inl d' => exact aLS (n := n) h
   | inr e' => exact h
theorem aU3 {n m : Nat} (hm : n ≤ m) {d : D} {e : E} (h : iter step n d = some e) : iter step m d = some e := by
 induction hm with
 | refl => exact h
 | step _ ih => exact aLS ih
theorem aRm {n m : Nat} {d : D} {e e' : E} (h : iter step n d = some e) (h' : iter step m d = some e') : e = e' := by
 have h1 := aU3 (Nat.le_max_left n m) h
 have h2 := aU3 (Nat.le_max_right n m) h'
 rw [h1] at h2; exact Option.some.inj h2
open Classical in
noncomputable def aRn (step : D → Option (D ⊕ E)) (d : D) : Option E := if h : ∃ e, ∃ n, iter step n d = some e then some (Classical.choose h) else none
theorem aLT {d : D} {e : E} : aRn step d = some e ↔ ∃ n, iter step n d = some e := by
 unfold aRn
 constructor
 ·intro h
  split at h
  ·rename_i hx
   have := Classical.choose_spec hx
   rw [Option.some.inj h] at this; exact this
  ·cases h
 ·rintro ⟨n, h⟩
  have hx : ∃ e, ∃ n, iter step n d = some e := ⟨e, n, h⟩
  rw [dif_pos hx]
  obtain ⟨m, hm⟩ := Classical.choose_spec hx
  rw [aRm hm h]
theorem aJt {n : Nat} {d : D} {e : E} (h : iter step n d = some e) : aRn step d = some e := aLT.2 ⟨n, h⟩
theorem aE1 {p : Nat → Prop} (h : ∃ n, p n) : ∃ n, p n ∧ ∀ m, p m → n ≤ m := by
 classical
 obtain ⟨n, hn⟩ := h
 induction n using Nat.strongRecOn with
 | _ n ih =>
  by_cases hh : ∃ m, m < n ∧ p m
  ·obtain ⟨m, hm, hp⟩ := hh; exact ih m hm hp
  ·exact ⟨n, hn, fun m hm => Nat.le_of_not_lt fun hlt => hh ⟨m, hlt, hm⟩⟩
open Classical in
noncomputable def aFO (step : D → Option (D ⊕ E)) (d : D) : Nat := if h : ∃ n, (iter step n d).isSome = true then Classical.choose (aE1 h) else 0
theorem aU4 {d : D} {e : E} (h : aRn step d = some e) : iter step (aFO step d) d = some e ∧ ∀ m e', iter step m d = some e' → aFO step d ≤ m := by
 obtain ⟨n, hn⟩ := aLT.1 h
 have hx : ∃ n, (iter step n d).isSome = true := ⟨n, by rw [hn]; rfl⟩
 have hs := Classical.choose_spec (aE1 hx)
 have e1 : aFO step d = Classical.choose (aE1 hx) := by unfold aFO; rw [dif_pos hx]
 rw [← e1] at hs
 refine ⟨?_, fun m e' hm => hs.2 m (by rw [hm]; rfl)⟩
 cases hi : iter step (aFO step d) d with
 | none => have := hs.1; rw [hi] at this; cases this
 | some e' => rw [aRm hi hn]
abbrev Md := Option Nat
noncomputable def eJ (F : Md) (step : D → Option (D ⊕ E)) (d : D) : Option E := match F with
 | none => aRn step d
 | some n => iter step n d
noncomputable abbrev aDh (step : D → Option (D ⊕ E)) (d : D) : Option E := eJ none step d
theorem aVO {d : D} {e : E} : aDh step d = some e ↔ ∃ n, iter step n d = some e := aLT
theorem aFP {n : Nat} {d : D} {e : E} (h : iter step n d = some e) : aDh step d = some e := aJt h
theorem aYn {F : Md} {d : D} {e : E} (h : eJ F step d = some e) : aRn step d = some e := by
 cases F with
 | none => exact h
 | some n => exact aJt h
def lR (A : D → Prop) (B : E → Prop) : D ⊕ E → Prop
 | .inl d => A d
 | .inr e => B e
theorem aPj {k : E → Option R} {r : R} {F : Md} {d : D} (hd : (eJ F step d).bind k = some r) : ∃ s, step d = some s ∧ lR (fun d' => (eJ F step d').bind k = some r ∧ aFO step d' < aFO step d) (fun e => k e = some r) s := by
 cases hl : eJ F step d with
 | none => rw [hl] at hd; cases hd
 | some e =>
  rw [hl] at hd
  have hk : k e = some r := hd
  obtain ⟨hi, hmin⟩ := aU4 (aYn hl)
  cases hn : aFO step d with
  | zero => rw [hn] at hi; cases hi
  | succ n =>
   rw [hn, iter] at hi
   split at hi
   ·cases hi
   ·rename_i d' hs
    have hz := aJt hi
    have hl' : eJ F step d' = some e := by
     cases F with
     | none => exact hz
     | some m =>
      have hm : iter step m d = some e := hl
      cases m with
      | zero => cases hm
      | succ m =>
       rw [iter, hs] at hm
       exact aLS hm
    refine ⟨_, hs, ?_⟩
    refine ⟨by rw [hl']; exact hk, ?_⟩
    have := (aU4 hz).2 n e hi
    show aFO step d' < n + 1
    omega
   ·rename_i e' hs
    refine ⟨_, hs, ?_⟩
    rw [Option.some.inj hi]; exact hk
theorem aS3 {I : D → Prop} (μ : D → Nat) (f : D → E) (h : ∀ d, I d → (∃ d', step d = some (.inl d') ∧ I d' ∧ μ d' < μ d ∧ f d' = f d) ∨ step d = some (.inr (f d))) : ∀ d, I d → aDh step d = some (f d) := by
 have main : ∀ n d, μ d ≤ n → I d → ∃ m, iter step m d = some (f d) := by
  intro n
  induction n with
  | zero =>
   intro d hn hi
   rcases h d hi with ⟨d', _, _, hlt, _⟩ | hs
   ·omega
   ·exact ⟨1, by rw [iter, hs]⟩
  | succ n ih =>
   intro d hn hi
   rcases h d hi with ⟨d', hs, hi', hlt, hf⟩ | hs
   ·obtain ⟨m, hm⟩ := ih d' (by omega) hi'
    exact ⟨m + 1, by rw [iter, hs]; simp only; rw [hm, hf]⟩
   ·exact ⟨1, by rw [iter, hs]⟩
 intro d hi
 obtain ⟨m, hm⟩ := main (μ d) d (Nat.le_refl _) hi
 exact aFP hm
theorem aTZ {I : D → Prop} (μ : D → Nat) (Q : E → Prop) (h : ∀ d, I d → (∃ d', step d = some (.inl d') ∧ I d' ∧ μ d' < μ d) ∨ ∃ e, step d = some (.inr e) ∧ Q e) : ∀ d, I d → ∃ e, aDh step d = some e ∧ Q e := by
 have main : ∀ n d, μ d ≤ n → I d → ∃ m e, iter step m d = some e ∧ Q e := by
  intro n
  induction n with
  | zero =>
   intro d hn hi
   rcases h d hi with ⟨d', _, _, hlt⟩ | ⟨e, hs, hq⟩
   ·omega
   ·exact ⟨1, e, by rw [iter, hs], hq⟩
  | succ n ih =>
   intro d hn hi
   rcases h d hi with ⟨d', hs, hi', hlt⟩ | ⟨e, hs, hq⟩
   ·obtain ⟨m, e, hm, hq⟩ := ih d' (by omega) hi'
    exact ⟨m + 1, e, by rw [iter, hs]; exact hm, hq⟩
   ·exact ⟨1, e, by rw [iter, hs], hq⟩
 intro d hi
 obtain ⟨m, e, hm, hq⟩ := main (μ d) d (Nat.le_refl _) hi
 exact ⟨e, aFP hm, hq⟩
end
noncomputable def aAN (F : Md) (k : IntKind) (a b : Nat) : Nat := match F with
 | none => aV7 k a b
 | some _ => (a + (kI k - b)) % kI k
noncomputable def mulM (F : Md) (k : IntKind) (a b : Nat) : Nat := match F with
 | none => aV8 k a b
 | some _ => (a * b) % kI k
noncomputable def aT0 (F : Md) (k : IntKind) (a : Nat) : Nat := match F with
 | none => aV9 k a
 | some _ => (0 + (kI k - a)) % kI k
theorem aU5 {F : Md} {k : IntKind} {a b : Nat} : aAN F k a b = aV7 k a b := by
 cases F with
 | none => rfl
 | some _ => exact (aOs k a b).symm
theorem aYo {F : Md} {k : IntKind} {a b : Nat} : mulM F k a b = aV8 k a b := by
 cases F with
 | none => rfl
 | some _ => exact (aUu k a b).symm
theorem aYp {F : Md} {k : IntKind} {a : Nat} : aT0 F k a = aV9 k a := by
 cases F with
 | none => rfl
 | some _ => exact (aUw k a).symm
theorem dR (F : Md) {k : IntKind} {a b : Nat} : aV7 k a b = aAN F k a b := aU5.symm
theorem dS (F : Md) {k : IntKind} {a b : Nat} : aV8 k a b = mulM F k a b := aYo.symm
theorem dT (F : Md) {k : IntKind} {a : Nat} : aV9 k a = aT0 F k a := aYp.symm
def uS (h : List Obj) : List (Nat ⊕ Obj) → List Obj
 | [] => []
 | .inl i :: r => h.getD i .dead :: uS h r
 | .inr o :: r => o :: uS h r
section
variable {F : Fr} {Q : Exit → Act → World → Prop} {env : St} {h : List Obj}
theorem oB {x y : Code} {D : Type} (J : D → Prop) (keep : List Nat) (uE : D → St) (uO : D → List (Nat ⊕ Obj))
  (hx : Tri F x (Exit.then (fun a' w' => ∃ d' c', J d' ∧ Sim F.E F.M F.w0 F.nt F.ds c' (aJq env keep (uE d')) (uS h (uO d')) a' w') Q) env h)
  (hy : ∀ d, J d → Tri F y Q (aJq env keep (uE d)) (uS h (uO d))) : Tri F (.seq x y) Q env h :=
 aSN J (fun d => aJq env keep (uE d)) (fun d => uS h (uO d)) hx hy
theorem oC {x : Code} {D E R : Type} {G : Md} {step : D → Option (D ⊕ E)} {k : E → Option R} {r : R} {d0 : D} (keep : List Nat) (uE : D → St) (uO : D → List (Nat ⊕ Obj))
  (hd : (eJ G step d0).bind k = some r) (hh : h = uS h (uO d0)) (hf : kU h env (aJq env keep (uE d0)))
  (round : ∀ d s, step d = some s → lR (fun d' => (eJ G step d').bind k = some r ∧ aFO step d' < aFO step d) (fun e => k e = some r) s → Tri F x (Exit.then (fun a' w' => ∃ d' c', ((eJ G step d').bind k = some r ∧ aFO step d' < aFO step d) ∧ Sim F.E F.M F.w0 F.nt F.ds c' (aJq env keep (uE d')) (uS h (uO d')) a' w') Q) (aJq env keep (uE d)) (uS h (uO d))) : Tri F (.loop x) Q env h :=
 aSM (fun d => (eJ G step d).bind k = some r) (aFO step) (fun d => aJq env keep (uE d)) (fun d => uS h (uO d)) (aY d0 hd hh hf) fun d hi => by
  obtain ⟨s, h1, h2⟩ := aPj hi
  exact round d s h1 h2
end
theorem aRo {F : Fr} {Q : Exit → Act → World → Prop} {env : St} {h : List Obj} {id : Nat} {ops : Array Oper} {t0 t3 t4 : Nat} {tt ty0 ty1 ty2 : TypeId} {pos1 pos2 : String} {aft1 aft2 : Array Edge} {ct : Ty} {xs : List ct.den} (hF : gD F)
  (hops : ops = #[⟨some t3, .move (.tmp t0), ty1, pos1, aft1, none⟩, ⟨some t4, .binOp .eql tt (.tmp t3) (.const (.slice none 0 0)) ty0, ty2, pos2, aft2, none⟩])
  (hT : F.E.T tt = some (.sl ct)) (hv : look env t0 = .val (.sl ct) xs)
  (hq : ∀ b : Bool, (b = true → xs = []) → At F (Q .normal) ((t4, .val .bool b) :: (t3, .val (.sl ct) xs) :: env) h) : Tri F (.region id ops false) Q env h := fun hok c a w hs => by
 simp only [iA, Bool.and_eq_true] at hok
 obtain ⟨⟨hok1, _⟩, _⟩ := hok
 subst hops
 have hall := List.all_eq_true.1 hok1
 have hk1 := hall ⟨some t3, .move (.tmp t0), ty1, pos1, aft1, none⟩ (by simp)
 have hk2 := hall ⟨some t4, .binOp .eql tt (.tmp t3) (.const (.slice none 0 0)) ty0, ty2, pos2, aft2, none⟩ (by simp)
 have h0 := hs.env t0
 rw [hv] at h0
 obtain ⟨⟨ad, len, cap, e1, e2⟩, _, e3⟩ := h0
 have hval : a.tmps.getD t0 Go.undef = .slice ad len cap := by
  have e3 := e3 rfl
  revert e1 e3
  generalize a.tmps.getD t0 Go.undef = sv
  intro e1 e3
  cases sv <;> simp [Value.cells] at e1 e3 <;> simp [e1]
 have h0 := hs.env t0
 rw [hv] at h0
 have s1 := hs.after hk1 (v := a.tmps.getD t0 Go.undef) (av := .val (.sl ct) xs) ⟨.refl _ _, hs.good, h0⟩
 have ht3 : t3 < a.tmps.size := by
  simp only [gV, Bool.and_eq_true] at hk1
  rw [hs.size]; simpa using hk1.2
 have s2 := s1.after hk2 (v := .bool ad.isNone) (av := .val .bool ad.isNone) ⟨.refl _ _, s1.good, zM _⟩
 refine wp_region ?_
 have run1 : (execOp a.eval ⟨some t3, .move (.tmp t0), ty1, pos1, aft1, none⟩).run F.P w = .ok (.value (a.tmps.getD t0 Go.undef)) w := by
  simp [execOp, Act.eval]
 have hget : (a.put (some t3) (a.tmps.getD t0 Go.undef)).eval (.tmp t3) = .slice ad len cap := by
  rw [hval]; simp [Act.eval, Act.put, ht3]
 obtain ⟨_, hd, _⟩ := gC (hF.env.T _ _ hT)
 have run2 : (execOp (a.put (some t3) (a.tmps.getD t0 Go.undef)).eval ⟨some t4, .binOp .eql tt (.tmp t3) (.const (.slice none 0 0)) ty0, ty2, pos2, aft2, none⟩).run F.P w = .ok (.value (.bool ad.isNone)) w := by
  have hc : (a.put (some t3) (a.tmps.getD t0 Go.undef)).eval (.const (.slice none 0 0)) = .slice none 0 0 := rfl
  have hq : ∀ d, (Op.equalIn (d + 1) tt (.slice ad len cap) (.slice none 0 0)).run F.P w = .ok ad.isNone w := fun d => by
   unfold Op.equalIn
   rw [Sem.run_bind, bD hd]
   cases ad <;> rfl
  have hb : (binOp .eql tt (.slice ad len cap) (.slice none 0 0)).run F.P w = .ok (.bool ad.isNone) w := by
   have e : binOp .eql tt (.slice ad len cap) (.slice none 0 0) = (do pure (.bool (← Op.equal tt (.slice ad len cap) (.slice none 0 0)))) := by unfold binOp; rfl
   rw [e, Sem.run_bind, Op.equal, show Op.maxDepth = (Op.maxDepth - 1) + 1 from rfl, hq]
   rfl
  have hg : (eqGuard .eql tt (.tmp t3) (.const (.slice none 0 0)) (.slice ad len cap) (.slice none 0 0)).run F.P w = .ok () w := by
   unfold eqGuard; rfl
  generalize hρ : (a.put (some t3) (a.tmps.getD t0 Go.undef)).eval = ρ at hget hc ⊢
  simp only [execOp, hget, hc]
  simp [hb, hg]
 have w1 : ∀ (o : Oper) (y : Nat → Option Bool), o.guard = none → Region.wanted o y = true := fun o y h => by simp [Region.wanted, h]
 show wpOps F.P _ _ [0, 1] a w
 unfold wpOps
 simp only [List.getElem?_toArray, List.getElem?_cons_zero]
 rw [if_pos (w1 _ _ rfl)]
 refine .inl ?_
 unfold Oper.wp
 rw [run1, Oper.upon_value]
 unfold wpOps
 simp only [List.getElem?_toArray, List.getElem?_cons_succ, List.getElem?_cons_zero]
 rw [if_pos (w1 _ _ rfl)]
 refine .inl ?_
 unfold Oper.wp
 rw [run2, Oper.upon_value]
 refine hq ad.isNone (fun hn => ?_) c _ w s2
 obtain ⟨_, _, _, e4⟩ := e2
 rcases e4 with e4 | ⟨b, off, e4, _⟩
 ·exact e4
 ·rw [e4] at hn; cases hn
theorem gX {F : Fr} {fn : Func} {S : Nat → Prop} {r : RK} {y : r.ty.den} {env : St} {h : List Obj} (hF : gD F) (l : List ResultVar) (hM : F.M = top S) (hds : F.ds = []) (hr : fn.results = l.toArray) (hy : (aT F.E.T h env l).1 ∧ iF h r y (aT F.E.T h env l).2) : At F (post F.P fn S F.w0 r y .ret) env h := fun c a w hs => by
 obtain ⟨us, q1, q2, q3⟩ := aFM (P := F.P) hF.env.T hs.good hs.env hr hy.1
 refine ⟨hs.defers.trans hds, aIM us, q1, aIM us, rfl, by have := hs.good.keeps; rw [hM] at this; exact this, ?_⟩
 exact aWZ (by rw [hM]) (by rw [hM]) hs.good q2 (fun i h1 h2 => q3 i h1 h2) hy.2
def aPk (i : Nat) (t : Ty) (x : t.den) : AV → AV
 | .ptr j [] => if j = i then .roa t x else .ptr j []
 | .ptr j p => if j = i then .junk else .ptr j p
 | .agg _ => .junk
 | .tup _ => .junk
 | .fn f l1 l2 => if l1.contains i || l2.contains i then .junk else .fn f l1 l2
 | v => v
theorem Good.shut {M : Perm} {w0 : World} {c : Ctx} {h : List Obj} {w : World} (hg : Good M w0 c h w) {i n : Nat} {t : Ty} {x : t.den} (ho : h[i]? = some (.box n (.val t x))) :
  ∃ c', dZ c w c' w ∧ c'.n = c.n ∧ Good M w0 c' (h.set i .dead) w ∧ ∀ v, aX c w (.ptr i []) v → aX c' w (.roa t x) v := by
 have hob := hg.objs i _ ho
 have hle : c.le (c.more (aW (c.hd i))) := ⟨fun b hb => .inl hb, Nat.le_refl _, fun _ _ => rfl⟩
 have hl : dZ c w (c.more (aW (c.hd i))) w := ⟨hle, .refl _ _⟩
 have hil : i < h.length := mN ho
 have hcase : ∀ j oj, (h.set i .dead)[j]? = some oj → (j ≠ i ∧ h[j]? = some oj) ∨ (j = i ∧ oj = .dead) := fun j oj hj => by
  by_cases e : i = j
  ·subst e; simp [hil] at hj; exact .inr ⟨rfl, hj.symm⟩
  ·rw [List.getElem?_set_ne e] at hj; exact .inl ⟨fun h => e h.symm, hj⟩
 refine ⟨_, hl, rfl, ⟨by simp [Ctx.more, hg.n], hg.keeps, fun b hb => ?_, fun b hb hlt => ?_, fun j oj hj => ?_, fun j oj b hj hb => ?_, fun j k oj ok b hj hk hbj hbk => ?_, zL hg.root hle⟩, fun v hv => ?_⟩
 ·rcases hb with hb | hb
  ·exact hg.sfin b hb
  ·exact (hg.own i _ b ho hb).2.1
 ·rcases hb with hb | hb
  ·exact hg.src b hb hlt
  ·rcases (hg.own i _ b ho hb).1 with h1 | h1
   ·omega
   ·exact .inr h1
 ·rcases hcase j oj hj with ⟨hne, hj⟩ | ⟨rfl, rfl⟩
  ·exact (hg.objs j oj hj).keep hl (by rw [hg.n]; exact mN hj) rfl (fun _ _ => rfl)
  ·trivial
 ·rcases hcase j oj hj with ⟨hne, hj⟩ | ⟨rfl, rfl⟩
  ·obtain ⟨h1, h2, h3⟩ := hg.own j oj b hj (by cases oj <;> exact hb)
   refine ⟨h1, h2, fun hS => ?_⟩
   rcases hS with hS | hS
   ·exact h3 hS
   ·exact hne (hg.sep j i oj _ b hj ho (by cases oj <;> exact hb) hS)
  ·cases hb
 ·rcases hcase j oj hj with ⟨hnj, hj⟩ | ⟨rfl, rfl⟩
  ·rcases hcase k ok hk with ⟨hnk, hk⟩ | ⟨rfl, rfl⟩
   ·exact hg.sep j k oj ok b hj hk (by cases oj <;> exact hbj) (by cases ok <;> exact hbk)
   ·cases hbk
  ·cases hbj
 ·obtain ⟨b, cells, e, h1, h2, h3, h4⟩ := hob
  obtain ⟨⟨_, b', hb', e1⟩, _, e3⟩ := hv
  have e3 := e3 rfl
  rw [h1] at hb'
  simp only [aW, Option.some.injEq] at hb'
  subst hb'
  have ev : v = .pointer (some ⟨b, 0, none⟩) := by
   cases v <;> simp [Value.cells, nH] at e1 e3 <;> simp [e1]
  rw [ev]
  have h4 : bE w c.S t x cells.toList := h4
  refine aDP (ds := cells.toList) (.inr (by rw [h1]; rfl)) (bE.keep (fun b hb => .inl hb) (.refl _ _) _ _ _ h4) fun j u hj => ?_
  simp only [Nat.zero_add]
  unfold World.cell?
  simp only [h2]
  simpa using hj
theorem aYq {F : Fr} {K : Act → World → Prop} {env : St} {h : List Obj} (i : Nat) {n : Nat} {t : Ty} {x : t.den} (ho : h[i]? = some (.box n (.val t x))) (hk : At F K (env.map fun p => (p.1, aPk i t x p.2)) (h.set i .dead)) : At F K env h := fun c a w hs => by
 obtain ⟨c', hl, hn, hg, hv⟩ := hs.good.shut ho
 refine hk c' a w ⟨hg, hs.glob.mono hl.le.S hl.same, fun s => ?_, hs.size, hs.defers⟩
 rw [aHw (aPk i t x) rfl]
 have h0 := hs.env s
 generalize look env s = v at h0
 generalize a.tmps.getD s Go.undef = u at h0
 cases v with
 | ptr j p =>
  cases p with
  | nil =>
   simp only [aPk]
   split
   ·rename_i e; subst e; exact hv u h0
   ·exact hl.val h0
  | cons _ _ =>
   simp only [aPk]
   split
   ·trivial
   ·exact hl.val h0
 | fn f l1 l2 =>
  simp only [aPk]
  split
  ·trivial
  ·exact hl.val h0
 | agg vs => trivial
 | tup vs => trivial
 | _ => exact hl.val h0
theorem aBG {F : Fr} {x : Code} {Q : Exit → Act → World → Prop} {env : St} {h : List Obj} (i : Nat) {n : Nat} {t : Ty} {y : t.den} (ho : h[i]? = some (.box n (.val t y))) (hk : Tri F x Q (env.map fun p => (p.1, aPk i t y p.2)) (h.set i .dead)) : Tri F x Q env h := fun hok => aYq i ho (hk hok)
def mSpec (a : Ty) (r : RK) (m : a.den → Option r.ty.den) : aI := ⟨a, r, fun x => (m x).isSome = true, fun x => (m x).getD r.ty.zero⟩
section
variable {P : Program} {E : Env}
theorem rY {f : FuncId} {fn : Func} {body : Code} {a : Ty} {r : RK} {m : a.den → Option r.ty.den} (hE : iE P E) (hf : P.funcs[f]? = some fn) (hb : fn.body = some body) (hok : iA fn.ntmps body = true) (hn : aMX a ≤ fn.ntmps)
  (ht : ∀ (w0 : World) (S : Nat → Prop) (x : a.den) (y : r.ty.den), a.wf x → m x = some y → Tri (fr P E S w0 fn.ntmps) body (post P fn S w0 r y) (bZ a x 0) []) : FOK P E.G f (mSpec a r m) :=
 aTP hE hf hb hok hn fun w0 S x hw hp => by
  have hp : (m x).isSome = true := hp
  obtain ⟨y, hy⟩ := Option.isSome_iff_exists.1 hp
  have e : (mSpec a r m).fn x = y := by show (m x).getD r.ty.zero = y; rw [hy]; rfl
  rw [e]
  exact ht w0 S x y hw hy
theorem aRp {G : Nat → AV} {f : FuncId} {a : Ty} {r : RK} {m : a.den → Option r.ty.den} {pre : a.den → Prop} {fn : a.den → r.ty.den} (h : FOK P G f (mSpec a r m)) (hc : ∀ x, a.wf x → pre x → m x = some (fn x)) : FOK P G f ⟨a, r, pre, fn⟩ := fun w S vs x hS hG ha hp => by
 have hm := hc x (aKf _ _ _ ha) hp
 have := h w S vs x hS hG ha (by show (m x).isSome = true; rw [hm]; rfl)
 have e : (mSpec a r m).fn x = fn x := by show (m x).getD r.ty.zero = fn x; rw [hm]; rfl
 rw [e] at this
 exact this
end
attribute [go_sem] uS aPk
end Go.Vc
namespace Go.Vc
open Go.RowKit
def aW1 : List (FuncId × Hit) → FuncId → List AV → List Obj → Option Hit
 | [], _, _, _ => none
 | (k, t) :: r, f, vs, h => if k = f then some t else aW1 r f vs h
structure aLU (P : Program) (G : Nat → AV) (l : List (FuncId × Hit)) : Prop where
 ok : ∀ p ∈ l, GOK P G p.1 p.2.sp ∧ fnB P p.1 = true
theorem aLU.nil {P : Program} {G : Nat → AV} : aLU P G [] := ⟨fun p hp => by cases hp⟩
theorem aLU.cons {P : Program} {G : Nat → AV} {l : List (FuncId × Hit)} {f : FuncId} {t : Hit} (h : GOK P G f t.sp) (hf : fnB P f = true) (hl : aLU P G l) : aLU P G ((f, t) :: l) := by
 refine ⟨fun p hp => ?_⟩
 rcases List.mem_cons.1 hp with rfl | hp
 ·exact ⟨h, hf⟩
 ·exact hl.ok p hp
theorem aPl : ∀ {l : List (FuncId × Hit)} {f : FuncId} {vs : List AV} {h : List Obj} {t : Hit}, aW1 l f vs h = some t → (f, t) ∈ l
 | (k, s) :: r, f, vs, h, t, e => by
  simp only [aW1] at e
  split at e
  ·rename_i ek; subst ek; cases e; exact List.mem_cons_self
  ·exact List.mem_cons_of_mem _ (aPl e)
theorem sO {P : Program} {f : FuncId} (h : fnB P f = true) : ∃ fn, P.funcs[f]? = some fn ∧ fn.name ≠ "runtime.NumGoroutine" ∧ fn.body.isSome = true := by
 unfold fnB at h
 split at h
 ·rename_i fn hf
  simp only [Bool.and_eq_true, decide_eq_true_eq] at h
  exact ⟨fn, hf, h⟩
 ·cases h
theorem aG {P : Program} {G : Nat → AV} {l : List (FuncId × Hit)} (h : aLU P G l) : aEw P G (aW1 l) :=
 ⟨fun f vs hh t e => (h.ok _ (aPl e)).1, fun f vs hh t e => sO (h.ok _ (aPl e)).2⟩
theorem bind_some {α β : Type} {x : Option α} {k : α → Option β} {r : β} (h : x.bind k = some r) : ∃ e, x = some e ∧ k e = some r := by
 cases x with
 | none => cases h
 | some e => exact ⟨e, rfl, h⟩
def rpV : AV → AV
 | .val (.rp t) x => .roa t x
 | v => v
theorem aZC {c : Ctx} {w : World} {v : AV} {x : Value} (hv : aX c w v x) : aX c w (rpV v) x := by
 cases v with
 | val t y =>
  cases t with
  | rp t =>
   obtain ⟨⟨b, off, ds, e, hb, hd, hc⟩, _, h3⟩ := hv
   have h3 := h3 rfl
   have ex : x = .pointer (some ⟨b, off, none⟩) := by
    cases x <;> simp [Value.cells] at e h3 <;> simp [e]
   rw [ex]
   exact aDP hb hd hc
  | _ => exact hv
 | _ => exact hv
section
variable {P : Program} {E : Env}
theorem eO {f : FuncId} {fn : Func} {body : Code} {sp : gH} (hE : iE P E) (hf : P.funcs[f]? = some fn) (hb : fn.body = some body) (hok : iA fn.ntmps body = true) (hn : ∀ d, (sp.av d).length ≤ fn.ntmps)
  (ht : ∀ (c : Ctx) (w : World) (d : sp.D), AV.wfL (sp.av d) → Obj.wfL (sp.hp d) → sp.pre d → c.n = (sp.hp d).length → Tri ⟨P, E, GM sp c d, w, fn.ntmps, []⟩ body (bodyPost P fn (aLN sp c w d)) (aTY ((sp.av d).map rpV) 0) (sp.hp d)) : GOK P E.G f sp := by
 intro c w d vs hp hin
 refine calls_of_wp hf hb ?_
 refine ht c w d (aRW hin.len hin.val) (aUZ hin.good) hp hin.good.n hok c _ w ⟨hin.good, hin.glob, ?_, ?_, rfl⟩
 ·refine aRV _ vs.toList 0 (by rw [List.length_map]; exact hin.len) (fun i h1 h2 => ?_) fun i v hv => ?_
  ·rw [List.getElem_map]; exact aZC (hin.val i (by simpa using h1) h2)
  ·have hlt : i < vs.size := by
    rcases Nat.lt_or_ge i vs.size with hh | hh
    ·exact hh
    ·rw [List.getElem?_eq_none (by simpa using hh)] at hv; cases hv
   simp only [Nat.zero_add]
   have : vs[i]? = some v := by rw [← Array.getElem?_toList]; exact hv
   simp [Array.getElem?_append, hlt]
   rw [Array.getElem?_eq_getElem hlt] at this
   simpa using this
 ·have h1 := hin.len
  have h2 := hn d
  simp at h1
  simp
  omega
end
section
variable {P : Program} {E : Env} {M : Perm} {w0 : World} {nt : Nat} {ds : List Deferred} {h : List Obj} {env : St}
theorem aYr (hE : iE P E) {sb : List Nat} {Δ : FuncId → List AV → List Obj → Option Hit} (hΔ : aEw P E.G Δ) {ops : List Oper} {Q : Exit → Act → World → Prop} (hok : ∀ o ∈ ops, gV nt o = true) {K : St → List Obj → Prop} {Kp : Pan → St → List Obj → Prop}
  (hKp : ∀ p env h c a w u, Kp p env h → Sim E M w0 nt ds c env h a w → dF w c.S p.t p.x u → Q (.panic (aQs p.k u)) a w) {i : Nat} (hil : i < ops.length) {env : St} {h : List Obj} {c : Ctx} {a : Act} {w : World} (hs : aGW E Δ sb ops (ops.drop i) env h K Kp) (hsim : Sim E M w0 nt ds c env h a w)
  {Kn : Act → World → Prop} (hn : ∀ env' h' c' a' w', aGW E Δ sb ops (ops.drop (i + 1)) env' h' K Kp → Sim E M w0 nt ds c' env' h' a' w' → Kn a' w') : wpOp P ops.toArray Q i Kn a w := by
 rw [List.drop_eq_getElem_cons hil] at hs
 have hokO := hok ops[i] (List.getElem_mem hil)
 have hput : ∀ (v : Value) (av : AV), aX c w av v → Sim E M w0 nt ds c (wT ops[i].dst av env) h (a.put ops[i].dst v) w := fun v av hv => hsim.after hokO ⟨.refl _ _, hsim.good, hv⟩
 unfold wpOp
 simp only [List.getElem?_toArray, List.getElem?_eq_getElem hil]
 have hrun : aMZ E Δ sb env h ops[i] (fun v h' => aGW E Δ sb ops (ops.drop (i + 1)) (wT ops[i].dst v env) h' K Kp) (fun p h' => Kp p env h') → Region.wanted ops[i] (yielded ops.toArray a.tmps) = true → (if Region.wanted ops[i] (yielded ops.toArray a.tmps) = true then Oper.wp P ops[i] a w Kn Q ∨ (ops[i].asks P a w ∧ LetsOut Q) else Kn (a.put ops[i].dst Go.undef) w) := fun h1 hw => by
  rw [if_pos hw]
  left
  refine aPf hE hΔ hsim hokO h1 (fun v h' c' u w' hk ha => hn _ _ c' _ w' hk (hsim.after hokO ha)) (fun p h' c' u w' hk hl hg hr => hKp p env h' c' a w' u hk (hsim.step hl hg) hr)
 have hskip : aGW E Δ sb ops (ops.drop (i + 1)) (wT ops[i].dst .undef env) h K Kp → Region.wanted ops[i] (yielded ops.toArray a.tmps) = false → (if Region.wanted ops[i] (yielded ops.toArray a.tmps) = true then Oper.wp P ops[i] a w Kn Q ∨ (ops[i].asks P a w ∧ LetsOut Q) else Kn (a.put ops[i].dst Go.undef) w) := fun h2 hw => by
  rw [if_neg (by rw [hw]; simp)]
  exact hn _ _ c _ w h2 (hput _ _ rfl)
 simp only [aGW] at hs
 cases hgd : ops[i].guard with
 | none =>
  rw [hgd] at hs
  exact hrun hs (by simp [Region.wanted, hgd])
 | some jp =>
  obtain ⟨j, pol⟩ := jp
  rw [hgd] at hs
  simp only at hs
  cases hdj : aIN ops j with
  | none => rw [hdj] at hs; exact hs.elim
  | some dj =>
   rw [hdj] at hs
   simp only at hs
   have hv := hsim.env dj
   split at hs
   ·rename_i b hb
    rw [hb] at hv
    have hb' := aES hv
    have hy := yR hok hsim.size hdj hb'
    simp only [yb] at hy
    by_cases e : b = pol
    ·exact hrun (hs.1 e) (by simp [Region.wanted, hgd, hy, e])
    ·have e' : b = !pol := by cases b <;> cases pol <;> simp_all
     exact hskip (hs.2 e') (by simp [Region.wanted, hgd, hy, e])
   ·rename_i hb
    rw [hb] at hv
    have hy := yR hok hsim.size hdj (v := Go.undef) hv
    exact hskip hs (by simp [Region.wanted, hgd, hy, Go.undef, yb])
   ·exact hs.elim
theorem aRq (hE : iE P E) {sb : List Nat} {Δ : FuncId → List AV → List Obj → Option Hit} (hΔ : aEw P E.G Δ) {ops : List Oper} {Q : Exit → Act → World → Prop} (hok : ∀ o ∈ ops, gV nt o = true) {K : St → List Obj → Prop} {Kp : Pan → St → List Obj → Prop} (hK : ∀ env h c a w, K env h → Sim E M w0 nt ds c env h a w → Q .normal a w)
  (hKp : ∀ p env h c a w u, Kp p env h → Sim E M w0 nt ds c env h a w → dF w c.S p.t p.x u → Q (.panic (aQs p.k u)) a w) {n : Nat} (ht : aHx n ops = true) :
  ∀ (m i : Nat), i + m = ops.length → n ≤ i → ∀ (listed : Array Bool), listed.size = ops.length → (∀ k, k < ops.length → (listed.getD k false = true ↔ k < i)) → ∀ (env : St) (h : List Obj) (c : Ctx) (a : Act) (w : World), aGW E Δ sb ops (ops.drop i) env h K Kp → Sim E M w0 nt ds c env h a w → wpAny P .any ops.toArray Q m listed a w
 | 0, i, hi, hni, listed, hsz, hl, env, h, c, a, w, hs, hsim => by
  rw [List.drop_eq_nil_of_le (by omega)] at hs
  refine ⟨?_, hK env h c a w hs hsim⟩
  rw [List.eq_nil_iff_forall_not_mem]
  intro j hj
  obtain ⟨h1, o, ho, _⟩ := mem_ready.1 hj
  have ho : ops[j]? = some o := by simpa using ho
  have hjl := jQ.get_lt' ho
  have := (hl j hjl).2 (by omega)
  have hlt : j < listed.size := by omega
  simp [hlt] at h1 this
  rw [this] at h1; cases h1
 | m + 1, i, hi, hni, listed, hsz, hl, env, h, c, a, w, hs, hsim => by
  have hil : i < ops.length := by omega
  have hio : ops[i]? = some ops[i] := List.getElem?_eq_getElem hil
  refine ⟨fun hr => ?_, fun j hj => ?_⟩
  ·exfalso
   have hmem : i ∈ Region.ready .any ops.toArray listed := by
    rw [mem_ready]
    have hlt : i < listed.size := by omega
    have hun : ¬ listed.getD i false = true := fun h => by have := (hl i hil).1 h; omega
    refine ⟨by simp [hlt] at hun ⊢; exact hun, ops[i], by simp [hil], fun e he hb => ?_⟩
    exact (hl _ (by have := (jQ ht hio).1 e he hb; omega)).2 ((jQ ht hio).1 e he hb)
   rw [hr] at hmem; cases hmem
  ·obtain ⟨h1, o, ho, hall⟩ := mem_ready.1 hj
   have ho : ops[j]? = some o := by simpa using ho
   have hjl := jQ.get_lt' ho
   have hji : j = i := by
    rcases Nat.lt_trichotomy j i with hlt | heq | hgt
    ·have := (hl j hjl).2 hlt
     have hlt : j < listed.size := by omega
     simp [hlt] at h1 this
     rw [this] at h1; cases h1
    ·exact heq
    ·have := (jQ ht ho).2 (by omega) (fun k => k < ops.length → listed.getD k false = true) (fun k o' ho' hk e he hb => fun hlt => by
      have hkl := jQ.get_lt' ho'
      have h3 := (jQ ht ho').1 e he hb
      have := (hl k hkl).1 (hk hkl)
      exact (hl _ hlt).2 (by omega)) (fun e he hb _ => hall e he hb) i hgt hil
     have := (hl i hil).1 this
     omega
   subst hji
   refine aYr hE hΔ hok hKp hil hs hsim fun env' h' c' a' w' hs' hsim' => ?_
   refine aRq hE hΔ hok hK hKp ht m (j + 1) (by omega) (by omega) (listed.setIfInBounds j true) (by simp [hsz]) (fun k hk => ?_) env' h' c' a' w' hs' hsim'
   by_cases e : j = k
   ·subst e
    have : j < listed.size := by omega
    simp [this]
   ·rw [getD_set_ne false e, hl k hk]
    omega
def aDi (ops : List Oper) (done : List Nat) : List Nat := (List.range ops.length).filter fun i => !done.contains i && (match ops[i]? with
 | some o => o.after.toList.all fun e => !Region.binds .any e || done.contains e.on
 | none => false)
def anyS (E : Env) (ops : List Oper) (K : St → List Obj → Prop) : Nat → List Nat → St → List Obj → Prop
 | 0, _, env, h => K env h
 | n + 1, done, env, h => ∀ i, i ∈ aDi ops done → match ops[i]? with
  | some o => o.guard = none ∧ (match wD E env h o with
   | (p, v, h') => p ∧ anyS E ops K n (i :: done) (wT o.dst v env) h')
  | none => False
def aS4 (ops : List Oper) : Bool := ops.zipIdx.all fun p => p.1.after.toList.all fun e => !Region.binds .any e || decide (e.on < p.2)
theorem aFQ : ∀ {l m : List Nat}, l.Nodup → (∀ x ∈ l, x ∈ m) → l.length ≤ m.length ∧ (l.length = m.length → ∀ x ∈ m, x ∈ l)
 | [], m, _, _ => ⟨by simp, fun h x hx => by
  have : m = [] := List.eq_nil_of_length_eq_zero (by simpa using h.symm)
  rw [this] at hx; cases hx⟩
 | a :: l, m, hn, hs => by
  have ha : a ∈ m := hs a (by simp)
  have hn' := List.nodup_cons.1 hn
  have hlen := List.length_erase_of_mem ha
  have hpos : 0 < m.length := List.length_pos_of_mem ha
  have rec_ := aFQ (l := l) (m := m.erase a) hn'.2 (fun x hx => by
   have hne : x ≠ a := fun e => hn'.1 (e ▸ hx)
   exact (List.mem_erase_of_ne hne).2 (hs x (by simp [hx])))
  refine ⟨by simp only [List.length_cons]; omega, fun h x hx => ?_⟩
  by_cases e : x = a
  ·subst e; simp
  ·have := rec_.2 (by simp only [List.length_cons] at h; omega) x ((List.mem_erase_of_ne e).2 hx)
   simp [this]
theorem aU6 (hE : iE P E) {ops : List Oper} {Q : Exit → Act → World → Prop} (hok : ∀ o ∈ ops, gV nt o = true) {K : St → List Obj → Prop} (hK : ∀ env h c a w, K env h → Sim E M w0 nt ds c env h a w → Q .normal a w) (hb : aS4 ops = true) :
  ∀ (n : Nat) (done : List Nat) (listed : Array Bool), listed.size = ops.length → (∀ k, k < ops.length → (listed.getD k false = true ↔ k ∈ done)) → done.length + n = ops.length → done.Nodup → (∀ k ∈ done, k < ops.length) → ∀ (env : St) (h : List Obj) (c : Ctx) (a : Act) (w : World), anyS E ops K n done env h → Sim E M w0 nt ds c env h a w → wpAny P .any ops.toArray Q n listed a w
 | 0, done, listed, hsz, hl, hn, hd, hlt, env, h, c, a, w, hs, hsim => by
  refine ⟨?_, hK env h c a w hs hsim⟩
  rw [List.eq_nil_iff_forall_not_mem]
  intro j hj
  obtain ⟨h1, o, ho, _⟩ := mem_ready.1 hj
  have ho : ops[j]? = some o := by simpa using ho
  have hjl := jQ.get_lt' ho
  have hall : j ∈ done := by
   exact (aFQ hd (m := List.range ops.length) (fun k hk => List.mem_range.2 (hlt k hk))).2 (by simp; omega) j (List.mem_range.2 hjl)
  have := (hl j hjl).2 hall
  have hlt' : j < listed.size := by omega
  simp [hlt'] at h1 this
  rw [this] at h1; cases h1
 | n + 1, done, listed, hsz, hl, hn, hd, hlt, env, h, c, a, w, hs, hsim => by
  have hrd : ∀ j, j ∈ Region.ready .any ops.toArray listed → j ∈ aDi ops done ∧ j ∉ done ∧ j < ops.length := fun j hj => by
   obtain ⟨h1, o, ho, hall⟩ := mem_ready.1 hj
   have ho : ops[j]? = some o := by simpa using ho
   have hjl := jQ.get_lt' ho
   have hlt' : j < listed.size := by omega
   have hnd : j ∉ done := fun hm => by
    have := (hl j hjl).2 hm
    simp [hlt'] at h1 this
    rw [this] at h1; cases h1
   refine ⟨?_, hnd, hjl⟩
   simp only [aDi, List.mem_filter, List.mem_range, ho, Bool.and_eq_true, Bool.not_eq_true', List.contains_eq_mem, decide_eq_false_iff_not, List.all_eq_true, Bool.or_eq_true, decide_eq_true_eq]
   refine ⟨hjl, hnd, fun e he => ?_⟩
   cases hbe : Region.binds .any e with
   | false => exact .inl rfl
   | true =>
    right
    have h5 := hall e (by simpa using he) hbe
    rcases Nat.lt_or_ge e.on ops.length with hh | hh
    ·exact (hl _ hh).1 h5
    ·simp [show ¬ e.on < listed.size by omega] at h5
  refine ⟨fun hr => ?_, fun j hj => ?_⟩
  ·exfalso
   have hex : ∃ k, (k < ops.length ∧ k ∉ done) ∧ ∀ j, j < k → ¬ (j < ops.length ∧ j ∉ done) := by
    have hex : ∃ k, k < ops.length ∧ k ∉ done := by
     apply Classical.byContradiction
     intro hc
     have hsub : List.range ops.length ⊆ done := fun k hk => Classical.byContradiction fun hk2 => hc ⟨k, List.mem_range.1 hk, hk2⟩
     have := (aFQ (List.nodup_range (n := ops.length)) (fun k hk => hsub hk)).1
     simp at this
     omega
    obtain ⟨n, h1, h2⟩ := aE1 hex
    exact ⟨n, h1, fun j hj hp => by have := h2 j hp; omega⟩
   obtain ⟨k, ⟨hk, hkd⟩, hlow⟩ := hex
   have hmem : k ∈ Region.ready .any ops.toArray listed := by
    rw [mem_ready]
    have hlt' : k < listed.size := by omega
    have hun : ¬ listed.getD k false = true := fun h => hkd ((hl k hk).1 h)
    refine ⟨by simp [hlt'] at hun ⊢; exact hun, ops[k], by simp [hk], fun e he hbe => ?_⟩
    have hbk := List.all_eq_true.1 hb (ops[k], k) (by rw [List.mem_zipIdx_iff_getElem?]; exact List.getElem?_eq_getElem hk)
    have hbk := List.all_eq_true.1 hbk e (Array.mem_toList_iff.2 he)
    rw [hbe] at hbk
    simp at hbk
    have hne := hlow e.on hbk
    exact (hl _ (by omega)).2 (Classical.byContradiction fun hd => hne ⟨by omega, hd⟩)
   rw [hr] at hmem; cases hmem
  ·obtain ⟨r1, r2, r3⟩ := hrd j hj
   have hs := hs j r1
   have hjo : ops[j]? = some ops[j] := List.getElem?_eq_getElem r3
   rw [hjo] at hs
   obtain ⟨hg, hp, hrest⟩ := hs
   have hokO := hok ops[j] (List.getElem_mem r3)
   have hw : Region.wanted ops[j] (yielded ops.toArray a.tmps) = true := by simp [Region.wanted, hg]
   unfold wpOp
   simp only [List.getElem?_toArray, hjo]
   rw [if_pos hw]
   left
   refine (aIu hE hsim hokO hp).wp fun v w' c' ha => ?_
   refine aU6 hE hok hK hb n (j :: done) (listed.setIfInBounds j true) (by simp [hsz]) (fun k hk => ?_) (by simp; omega) (List.nodup_cons.2 ⟨r2, hd⟩) (fun k hk => ?_) _ _ c' _ w' hrest (hsim.after hokO ha)
   ·by_cases e : j = k
    ·subst e
     have : j < listed.size := by omega
     simp [this]
    ·rw [getD_set_ne false e, hl k hk]
     constructor
     ·intro h; exact List.mem_cons_of_mem _ h
     ·intro h; exact (List.mem_cons.1 h).resolve_left (fun e' => e e'.symm)
   ·rcases List.mem_cons.1 hk with rfl | hk
    ·exact r3
    ·exact hlt k hk
theorem aDU {F : Fr} {Q : Exit → Act → World → Prop} {env : St} {h : List Obj} (hF : gD F) {id : Nat} {ops : Array Oper} (keep : List Nat) (env' : St) (h' : List Obj) (hb : aS4 ops.toList = true)
  (hv : anyS F.E ops.toList (fun e o => keep.map (fun t => (t, look e t)) = env' ∧ o = h') ops.toList.length [] env h) (hk : At F (Q .normal) env' h') : Tri F (.region id ops true) Q env h := fun hok c a w hs => by
 simp only [iA, Bool.and_eq_true, Bool.or_eq_true, Bool.not_eq_true'] at hok
 obtain ⟨⟨h1, h2⟩, h3⟩ := hok
 refine wp_region_any hF.mix ?_
 have hlat : dZ c w c { w with drawn := w.drawn + 1 } := ⟨.refl _, fun b hb => rfl⟩
 have hdr : Sim F.E F.M F.w0 F.nt F.ds c env h a { w with drawn := w.drawn + 1 } :=
  ⟨hs.good.step hlat rfl rfl ⟨rfl, rfl, rfl, Nat.le_refl _, fun _ _ _ => rfl⟩ (fun _ _ _ _ _ => rfl) hs.good.sfin (fun _ hb => .inl hb), qM.mono (w := w) (w' := { w with drawn := w.drawn + 1 }) (fun _ hb => hb) hlat.same hs.glob, hs.env.keep hlat, hs.size, hs.defers⟩
 have := aU6 (Q := Q) hF.env (List.all_eq_true.1 h1) (K := fun e o => keep.map (fun t => (t, look e t)) = env' ∧ o = h') (fun e o c a w hkk hs => by
  obtain ⟨rfl, rfl⟩ := hkk
  exact hk c a w (hs.keep keep)) hb ops.toList.length [] (Array.replicate ops.size false) (by simp) (fun k hk => by rw [vH]; simp) (by simp) List.nodup_nil (fun k hk => by cases hk) env h c a _ hv hdr
 simpa using this
def aU7 (F : Fr) (Δ : FuncId → List AV → List Obj → Option Hit) (Q : Exit → Act → World → Prop) (keep sb : List Nat) (all pre tail : List Oper) (env : St) (h : List Obj) (acc : List Ent) : Prop :=
 aGW F.E Δ sb all tail (qE F.E.T (gM pre 0) (nJ acc env) h).1 (qE F.E.T (gM pre 0) (nJ acc env) h).2 (fun env h => At F (Q .normal) (keep.map fun t => (t, look env t)) h) (fun p env h => AtP F Q p env h)
theorem aFR {F : Fr} {Q : Exit → Act → World → Prop} {env : St} {h : List Obj} (hF : gD F) {Δ : FuncId → List AV → List Obj → Option Hit} (hΔ : aEw F.P F.E.G Δ) {id : Nat} {ops : Array Oper} (n : Nat) (hst : (aND (ops.toList.take n) && aDa (ops.toList.take n) && aHx (ops.toList.take n).length ops.toList) = true) (keep sb : List Nat)
  (hv : vcA F.E h env (ops.toList.take n) 0 [] (aU7 F Δ Q keep sb ops.toList (ops.toList.take n) (ops.toList.drop n) env h)) : Tri F (.region id ops true) Q env h := fun hok c a w hs => by
 simp only [iA, Bool.and_eq_true, Bool.or_eq_true, Bool.not_eq_true'] at hok
 obtain ⟨⟨h1, h2⟩, h3⟩ := hok
 simp only [Bool.and_eq_true] at hst
 obtain ⟨⟨t1, t2⟩, t3⟩ := hst
 have e : ops.toList.take n ++ ops.toList.drop n = ops.toList := List.take_append_drop n ops.toList
 have := aRe (id := id) (pre := ops.toList.take n) (tail := ops.toList.drop n) (Q := Q) hF.env hF.mix (by rw [e]; exact List.all_eq_true.1 h1) t2 t1 (by rw [e]; exact t3) hs (K' := fun env h => aGW F.E Δ sb ops.toList (ops.toList.drop n) env h (fun env h => At F (Q .normal) (keep.map fun t => (t, look env t)) h) (fun p env h => AtP F Q p env h)) hv
  (fun env h c a w listed hsz hl hk hsim => by
   rw [e] at hsz hl ⊢
   exact aRq (K := fun env h => At F (Q .normal) (keep.map fun t => (t, look env t)) h) (Kp := fun p env h => AtP F Q p env h) hF.env hΔ (List.all_eq_true.1 h1) (fun env h c a w hk hs => hk c a w (hs.keep keep)) (fun p env h c a w u hk hs hr => hk c a w u hs hr) t3 (ops.toList.drop n).length (ops.toList.take n).length (by rw [← List.length_append, e]) (Nat.le_refl _) listed hsz hl env h c a w (by
    have e2 : ops.toList.drop (ops.toList.take n).length = ops.toList.drop n := by
     rw [List.length_take]
     rcases Nat.lt_or_ge n ops.toList.length with hh | hh
     ·rw [Nat.min_eq_left (Nat.le_of_lt hh)]
     ·rw [Nat.min_eq_right hh, List.drop_eq_nil_of_le (Nat.le_refl _), List.drop_eq_nil_of_le hh]
    rw [e2]; exact hk) hsim)
 rw [e] at this
 simpa using this
theorem aFS {f : FuncId} {fn : Func} {body : Code} {a : Ty} {r : RK} {m : a.den → Option r.ty.den} (hE : iE P E) (hf : P.funcs[f]? = some fn) (hb : fn.body = some body) (hok : iA fn.ntmps body = true) (hn : aMX a ≤ fn.ntmps)
  (ht : ∀ (w0 : World) (S : Nat → Prop) (x : a.den) (y : r.ty.den), a.wf x → m x = some y → Tri (fr P E S w0 fn.ntmps) body (aU2 P fn S w0 r y) (bZ a x 0) []) : FOK P E.G f (mSpec a r m) :=
 aYm hE hf hb hok hn fun w0 S x hw hp => by
  have hp : (m x).isSome = true := hp
  obtain ⟨y, hy⟩ := Option.isSome_iff_exists.1 hp
  have e : (mSpec a r m).fn x = y := by show (m x).getD r.ty.zero = y; rw [hy]; rfl
  rw [e]
  exact ht w0 S x y hw hy
def aT1 : AV → Bool
 | .val _ _ => true
 | .tup vs => vs.all fun v => match v with | .val _ _ => true | _ => false
 | _ => false
theorem aVP {c : Ctx} {w : World} {σ : List Nat} {v : AV} {x : Value} (hp : aT1 v = true) (hv : aX c w v x) : aX (c.ren σ) w v x := by
 cases v with
 | val t y => exact aOz (σ := σ) hv
 | tup vs =>
  obtain ⟨xs, e, hl, hi⟩ := hv
  refine ⟨xs, e, hl, fun i h1 h2 => ?_⟩
  have hq := List.all_eq_true.1 hp vs[i] (List.getElem_mem h1)
  have := hi i h1 h2
  revert hq this
  generalize vs[i] = u
  intro hq this
  cases u <;> first | exact this | (simp at hq; done)
 | _ => simp [aT1] at hp
theorem kK {F : Fr} {fn : Func} {sp : gH} {c0 : Ctx} {d : sp.D} {env : St} {h h' : List Obj} {v : AV} (hF : gD F) (l : List ResultVar) (σ : List Nat) (hM : F.M = GM sp c0 d) (hds : F.ds = []) (hr : fn.results = l.toArray) (hnd : nodupB σ = true) (hpr : preB F.M.m σ = true) (hout : sp.out d = .ret v h') (hh : (σ.map fun i => dI σ (h.getD i .dead)) = h') (hfl : (match v with | .tup vs => vs.all aWX | _ => true) = true) (hpl : aT1 v = true) (hy : (aT F.E.T h env l).1 ∧ jX h v (aT F.E.T h env l).2) :
  At F (bodyPost F.P fn (aLN sp c0 F.w0 d) .ret) env h := fun c a w hs => by
 subst hh
 obtain ⟨us, q1, q2, q3⟩ := aFM (P := F.P) hF.env.T hs.good hs.env hr hy.1
 refine ⟨hs.defers.trans hds, aIM us, q1, c.ren σ, ?_⟩
 rw [hout]
 refine ⟨aIM us, rfl, by rw [← hM]; exact hs.good.ren hnd hpr, aVP hpl ?_⟩
 have hy2 := hy.2
 generalize (aT F.E.T h env l).2 = rs at q2 q3 hy2
 cases v with
 | tup vs =>
  obtain ⟨h1, h2⟩ := hy2
  obtain ⟨k1, k2⟩ := aRX hs.good h2 q2 q3
  refine ⟨us, ?_, k1, fun i p1 p2 => ?_⟩
  ·match us, q2 with
   | [], _ => rfl
   | [x], q2 => exact absurd q2.symm h1
   | a :: b :: r, _ => rfl
  ·have hfi := List.all_eq_true.1 hfl vs[i] (List.getElem_mem p1)
   exact aU0 (k2 i p1 p2).1 (k2 i p1 p2).2 (fun l e => by rw [e] at hfi; cases hfi) (fun e => by rw [e] at hfi; cases hfi)
 | _ =>
  match rs, hy2 with
  | [u], hy2 =>
   match us, q2 with
   | [x], _ => exact aOw hs.good hy2 (q3 0 (by simp) (by simp))
theorem gQ {F : Fr} {fn : Func} {R : Ending → World → Prop} {env : St} {h : List Obj} (hk : At F (bodyPost F.P fn R .ret) env h) : At F (bodyPost F.P fn R .normal) env h := hk
end
attribute [go_sem] aW1 rpV
end Go.Vc
namespace Go.Vc
open Go.RowKit
theorem aW2 (n : Nat) : ((no_index (OfNat.ofNat n) : Nat) : Int) = OfNat.ofNat n := rfl
def sat {α : Type} (o : Option α) (Θ : α → Prop) : Prop := ∃ x, o = some x ∧ Θ x
section
variable {α β : Type} {p : Prop} [Decidable p] {k x y : Option α} {Θ : α → Prop} {a : α}
theorem aQ (h : sat (ck p k) Θ) : p ∧ sat k Θ := by
 obtain ⟨z, h1, h2⟩ := h
 obtain ⟨hp, hk⟩ := aM h1
 exact ⟨hp, z, hk, h2⟩
theorem jV (hp : p) (h : sat (if p then x else y) Θ) : sat x Θ := by rwa [if_pos hp] at h
theorem jW (hp : ¬ p) (h : sat (if p then x else y) Θ) : sat y Θ := by rwa [if_neg hp] at h
theorem bB {G : Prop} (h : sat (ck p k) Θ) (hg : p → sat k Θ → G) : p ∧ G := ⟨(aQ h).1, hg (aQ h).1 (aQ h).2⟩
theorem fL {G1 G2 : Prop} (h : sat (if p then x else y) Θ) (h1 : p → sat x Θ → G1) (h2 : ¬ p → sat y Θ → G2) : (p → G1) ∧ (¬ p → G2) := ⟨fun c => h1 c (jV c h), fun c => h2 c (jW c h)⟩
theorem fY {G1 G2 : Prop} {m n : Int} (h : sat (if m < n then x else y) Θ) (h1 : m < n → sat x Θ → G1) (h2 : n ≤ m → sat y Θ → G2) : (m < n → G1) ∧ (n ≤ m → G2) := ⟨fun c => h1 c (jV c h), fun c => h2 c (jW (Int.not_lt.2 c) h)⟩
theorem aT2 {G1 G2 : Prop} {m n : Int} (h : sat (if m ≤ n then x else y) Θ) (h1 : m ≤ n → sat x Θ → G1) (h2 : n < m → sat y Θ → G2) : (m ≤ n → G1) ∧ (n < m → G2) := ⟨fun c => h1 c (jV c h), fun c => h2 c (jW (Int.not_le.2 c) h)⟩
theorem aHy {G1 G2 : Prop} {b : Bool} (h : sat (if b = true then x else y) Θ) (h1 : b = true → sat x Θ → G1) (h2 : ¬ b = true → sat y Θ → G2) : (b = true → G1) ∧ (¬ b = true → G2) := fL h h1 h2
theorem aEx {G1 G2 : Prop} {b : Bool} (h : sat (if ¬ b = true then x else y) Θ) (h1 : b = false → sat x Θ → G1) (h2 : ¬ b = false → sat y Θ → G2) : (b = false → G1) ∧ (¬ b = false → G2) :=
 ⟨fun c => h1 c (jV (by rw [c]; decide) h), fun c => h2 c (jW (fun n => c (by simpa using n)) h)⟩
theorem aE (h : sat (some a) Θ) : Θ a := by
 obtain ⟨z, h1, h2⟩ := h
 cases h1; exact h2
theorem aBH {P : Prop} (h : sat none Θ) : P := by
 obtain ⟨z, h1, h2⟩ := h
 cases h1
theorem aP {o : Option β} {f : β → Option α} (h : sat (o.bind f) Θ) : ∃ z, o = some z ∧ sat (f z) Θ := by
 obtain ⟨r, h1, h2⟩ := h
 cases o with
 | none => cases h1
 | some z => exact ⟨z, rfl, r, h1, h2⟩
end
inductive Pl where
 | A (keep : List Nat)
 | B (keep : List Nat)
 | C (n : Nat) (keep : List Nat)
 | stop
structure PlR where
 reg : List (Nat × Pl)
 stops : List (Nat × Nat)
def aYs : List (Nat × Pl) → Nat → Pl
 | [], _ => .stop
 | (i, p) :: r, id => match decide (i = id) with
  | true => p
  | false => aYs r id
def first : Code → Nat
 | .region id _ _ => id + 3
 | .seq x _ => first x
 | .block _ x => first x
 | .loop x => first x
 | .scope x => first x
 | .skip => 1
 | .label _ => 1
 | .ret => 0
 | _ => 2
def aS5 : List (Nat × Nat) → Code → Code → Bool
 | [], _, _ => false
 | (a, b) :: r, x, y => match decide (a = first x) with
  | true => match decide (b = first y) with
   | true => true
   | false => aS5 r x y
  | false => aS5 r x y
def aZD (V : St → List Obj → Prop) (K : Exit → St → List Obj → Prop) : Exit → St → List Obj → Prop := fun e env h => match e with
 | .normal => V env h
 | e => K e env h
def aYt (id : Nat) (K : Exit → St → List Obj → Prop) : Exit → St → List Obj → Prop := fun e env h => match e with
 | .normal => K .normal env h
 | .exit j => match decide (j = id) with
  | true => K .normal env h
  | false => K (.exit j) env h
 | .ret => K .ret env h
 | _ => False
def aZV (K : Exit → St → List Obj → Prop) : Exit → St → List Obj → Prop := fun e env h => match e with
 | .normal => K .normal env h
 | .exit j => K (.exit j) env h
 | .ret => K .ret env h
 | _ => False
def vcC (F : Fr) (p : PlR) : Code → (Exit → St → List Obj → Prop) → (Exit → Act → World → Prop) → St → List Obj → Prop
 | .skip, K, _, env, h => K .normal env h
 | .label _, K, _, env, h => K .normal env h
 | .exit id, K, _, env, h => K (.exit id) env h
 | .ret, K, _, env, h => K .ret env h
 | .seq x y, K, Q, env, h => match aS5 p.stops x y with
  | true => Tri F (.seq x y) Q env h
  | false => vcC F p x (aZD (vcC F p y K Q) K) (Exit.then (Next F y Q) Q) env h
 | .cond o x y, K, Q, env, h => match evA F.E.G env o with
  | .val .bool b => (b = true → vcC F p x K Q env h) ∧ (¬ b = true → vcC F p y K Q env h)
  | _ => False
 | .block id x, K, Q, env, h => vcC F p x (aYt id K) (Exit.inBlock id Q) env h
 | .scope x, K, Q, env, h => vcC F p x (aZV K) (Exit.noGoto Q) env h
 | .region id ops draw, K, Q, env, h => match aYs p.reg id with
  | .A keep => vcA F.E h env ops.toList 0 [] (fun acc => K .normal (aNF keep acc env) h)
  | .B keep => draw = false ∧ sN F.E ops.toList ops.toList env h (fun env h => K .normal (keep.map fun t => (t, look env t)) h)
  | .C n keep => (draw = true ∧ (aND (ops.toList.take n) && aDa (ops.toList.take n) && aHx (ops.toList.take n).length ops.toList) = true) ∧
    vcA F.E h env (ops.toList.take n) 0 [] (fun acc => sN F.E ops.toList (ops.toList.drop n) (qE F.E.T (gM (ops.toList.take n) 0) (nJ acc env) h).1 (qE F.E.T (gM (ops.toList.take n) 0) (nJ acc env) h).2 (fun env h => K .normal (keep.map fun t => (t, look env t)) h))
  | .stop => Tri F (.region id ops draw) Q env h
 | c, _, Q, env, h => Tri F c Q env h
section
variable {F : Fr} {p : PlR}
theorem aU8 (hF : gD F) {K : Exit → St → List Obj → Prop} {Q : Exit → Act → World → Prop} (hK : ∀ e env h, K e env h → At F (Q e) env h) {id : Nat} {ops : Array Oper} {draw : Bool} {keep : List Nat} {env : St} {h : List Obj}
  (hv : vcA F.E h env ops.toList 0 [] (fun acc => K .normal (aNF keep acc env) h)) : Tri F (.region id ops draw) Q env h := fun hok c a w hs => by
 simp only [iA, Bool.and_eq_true, Bool.or_eq_true, Bool.not_eq_true'] at hok
 obtain ⟨⟨h1, h2⟩, h3⟩ := hok
 have hfin : ∀ acc c' a' w', K .normal (aNF keep acc env) h → dZ c w c' w' → c'.n = c.n → Sim F.E F.M F.w0 F.nt F.ds c' (nJ acc env) h a' w' → Q .normal a' w' := fun acc c' a' w' hk _ _ hs' => by
  have := hs'.keep keep
  refine hK _ _ _ hk c' a' w' ?_
  have e : aNF keep acc env = keep.map fun t => (t, look (nJ acc env) t) := by
   simp only [aNF, aSL]
  rw [e]; exact this
 cases draw with
 | false => exact aSI (ops := ops.toList) hF.env (List.all_eq_true.1 h1) h2 hs hv hfin
 | true => exact aKb (ops := ops.toList) hF.env hF.mix (List.all_eq_true.1 h1) h2 (h3.resolve_left (by simp)) hs hv hfin
theorem aYu (hF : gD F) {K : Exit → St → List Obj → Prop} {Q : Exit → Act → World → Prop} (hK : ∀ e env h, K e env h → At F (Q e) env h) {id : Nat} {ops : Array Oper} {keep : List Nat} {env : St} {h : List Obj}
  (hv : sN F.E ops.toList ops.toList env h (fun env h => K .normal (keep.map fun t => (t, look env t)) h)) : Tri F (.region id ops false) Q env h := fun hok c a w hs => by
 simp only [iA, Bool.and_eq_true, Bool.or_eq_true, Bool.not_eq_true'] at hok
 obtain ⟨⟨h1, h2⟩, h3⟩ := hok
 refine wp_region ?_
 have := aKh (Q := Q) hF.env (List.all_eq_true.1 h1) (K := fun env h => K .normal (keep.map fun t => (t, look env t)) h) (fun env h c a w hk hs => hK _ _ _ hk c a w (hs.keep keep)) ops.toList.length 0 (by simp) env h c a w (by simpa using hv) hs
 simpa [List.range_eq_range'] using this
theorem aYv (hF : gD F) {K : Exit → St → List Obj → Prop} {Q : Exit → Act → World → Prop} (hK : ∀ e env h, K e env h → At F (Q e) env h) {id : Nat} {ops : Array Oper} (n : Nat) (hst : (aND (ops.toList.take n) && aDa (ops.toList.take n) && aHx (ops.toList.take n).length ops.toList) = true) {keep : List Nat} {env : St} {h : List Obj}
  (hv : vcA F.E h env (ops.toList.take n) 0 [] (fun acc => sN F.E ops.toList (ops.toList.drop n) (qE F.E.T (gM (ops.toList.take n) 0) (nJ acc env) h).1 (qE F.E.T (gM (ops.toList.take n) 0) (nJ acc env) h).2 (fun env h => K .normal (keep.map fun t => (t, look env t)) h))) :
  Tri F (.region id ops true) Q env h := fun hok c a w hs => by
 simp only [iA, Bool.and_eq_true, Bool.or_eq_true, Bool.not_eq_true'] at hok
 obtain ⟨⟨h1, h2⟩, h3⟩ := hok
 simp only [Bool.and_eq_true] at hst
 obtain ⟨⟨t1, t2⟩, t3⟩ := hst
 have e : ops.toList.take n ++ ops.toList.drop n = ops.toList := List.take_append_drop n ops.toList
 have := aSX (id := id) (pre := ops.toList.take n) (tail := ops.toList.drop n) (Q := Q) hF.env hF.mix (by rw [e]; exact List.all_eq_true.1 h1) t2 t1 (by rw [e]; exact t3) hs (K' := fun env h => K .normal (keep.map fun t => (t, look env t)) h) (by rw [e]; exact hv) (fun env h c a w hk hs => hK _ _ _ hk c a w (hs.keep keep))
 rw [e] at this
 simpa using this
theorem aHz (hF : gD F) : ∀ (c : Code) (K : Exit → St → List Obj → Prop) (Q : Exit → Act → World → Prop), (∀ e env h, K e env h → At F (Q e) env h) → ∀ env h, vcC F p c K Q env h → Tri F c Q env h
 | .skip, K, Q, hK, env, h, hv => bY (hK _ _ _ hv)
 | .label _, K, Q, hK, env, h, hv => aQ8 (hK _ _ _ hv)
 | .exit _, K, Q, hK, env, h, hv => pV (hK _ _ _ hv)
 | .ret, K, Q, hK, env, h, hv => cA (hK _ _ _ hv)
 | .seq x y, K, Q, hK, env, h, hv => by
  unfold vcC at hv
  split at hv
  ·exact hv
  ·refine aB (aHz hF x _ _ (fun e env h hk => ?_) env h hv)
   cases e with
   | normal => exact aA (aHz hF y K Q hK env h hk)
   | _ => exact hK _ env h hk
 | .cond o x y, K, Q, hK, env, h, hv => by
  unfold vcC at hv
  split at hv
  ·rename_i b hb
   exact bC hb (fun e => aHz hF x K Q hK env h (hv.1 e)) (fun e => aHz hF y K Q hK env h (hv.2 (by rw [e]; decide)))
  ·exact hv.elim
 | .block id x, K, Q, hK, env, h, hv => by
  refine dH (aHz hF x _ _ (fun e env h hk => ?_) env h hv)
  cases e with
  | normal => exact hK .normal env h hk
  | ret => exact hK .ret env h hk
  | exit j =>
   simp only [aYt] at hk
   split at hk
   ·rename_i hd
    obtain rfl := of_decide_eq_true hd
    exact fH (hK .normal env h hk)
   ·rename_i hd
    exact aHs (of_decide_eq_false hd) (hK (.exit j) env h hk)
  | _ => exact hk.elim
 | .scope x, K, Q, hK, env, h, hv => by
  refine aRf (aHz hF x _ _ (fun e env h hk => ?_) env h hv)
  cases e with
  | normal => exact hK .normal env h hk
  | ret => exact hK .ret env h hk
  | exit j => exact hK (.exit j) env h hk
  | _ => exact hk.elim
 | .region id ops draw, K, Q, hK, env, h, hv => by
  unfold vcC at hv
  split at hv
  ·exact aU8 hF hK hv
  ·obtain ⟨rfl, hv⟩ := hv; exact aYu hF hK hv
  ·obtain ⟨⟨rfl, hst⟩, hv⟩ := hv; exact aYv hF hK _ hst hv
  ·exact hv
 | .loop x, K, Q, hK, env, h, hv => hv
 | .rangeFunc _ _ _ _, K, Q, hK, env, h, hv => hv
 | .goto _, K, Q, hK, env, h, hv => hv
 | .refuse _, K, Q, hK, env, h, hv => hv
end
inductive Kt where
 | fin (Q : Exit → Act → World → Prop)
 | seq (y : Code) (k : Kt)
 | blk (id : Nat) (k : Kt)
 | scp (k : Kt)
 | stp (K : Act → World → Prop) (k : Kt)
def aJu (F : Fr) : Kt → Exit → Act → World → Prop
 | .fin Q => Q
 | .seq y k => Exit.then (Next F y (aJu F k)) (aJu F k)
 | .blk id k => Exit.inBlock id (aJu F k)
 | .scp k => Exit.noGoto (aJu F k)
 | .stp K k => Exit.then K (aJu F k)
def den (F : Fr) (p : PlR) : Kt → Exit → St → List Obj → Prop
 | .fin Q => fun e env h => At F (Q e) env h
 | .seq y k => aZD (vcC F p y (den F p k) (aJu F k)) (den F p k)
 | .blk id k => aYt id (den F p k)
 | .scp k => aZV (den F p k)
 | .stp K k => aZD (fun env h => At F K env h) (den F p k)
def vcT (F : Fr) (p : PlR) (c : Code) (k : Kt) (env : St) (h : List Obj) : Prop := vcC F p c (den F p k) (aJu F k) env h
section
variable {F : Fr} {p : PlR} {k : Kt} {env : St} {h : List Obj}
theorem aBX (hF : gD F) : ∀ (k : Kt) (e : Exit) (env : St) (h : List Obj), den F p k e env h → At F (aJu F k e) env h
 | .fin Q, e, env, h, hk => hk
 | .seq y k, e, env, h, hk => by
  cases e with
  | normal => exact aA (aHz hF y _ _ (aBX hF k) env h hk)
  | _ => exact aBX hF k _ env h hk
 | .blk id k, e, env, h, hk => by
  cases e with
  | normal => exact aBX hF k .normal env h hk
  | ret => exact aBX hF k .ret env h hk
  | exit j =>
   simp only [den, aYt] at hk
   split at hk
   ·rename_i hd
    obtain rfl := of_decide_eq_true hd
    exact fH (aBX hF k .normal env h hk)
   ·rename_i hd
    exact aHs (of_decide_eq_false hd) (aBX hF k (.exit j) env h hk)
  | _ => exact hk.elim
 | .scp k, e, env, h, hk => by
  cases e with
  | normal => exact aBX hF k .normal env h hk
  | ret => exact aBX hF k .ret env h hk
  | exit j => exact aBX hF k (.exit j) env h hk
  | _ => exact hk.elim
 | .stp K k, e, env, h, hk => by
  cases e with
  | normal => exact hk
  | _ => exact aBX hF k _ env h hk
theorem aRZ (hF : gD F) {c : Code} (hv : vcT F p c k env h) : Tri F c (aJu F k) env h := aHz hF c _ _ (aBX hF k) env h hv
theorem aW3 : vcT F p .skip k env h = den F p k .normal env h := propext Iff.rfl
theorem aVQ {l : Nat} : vcT F p (.label l) k env h = den F p k .normal env h := propext Iff.rfl
theorem aW4 {id : Nat} : vcT F p (.exit id) k env h = den F p k (.exit id) env h := propext Iff.rfl
theorem aYw : vcT F p .ret k env h = den F p k .ret env h := propext Iff.rfl
theorem aYx {x y : Code} : vcT F p (.seq x y) k env h = match aS5 p.stops x y with
  | true => Tri F (.seq x y) (aJu F k) env h
  | false => vcT F p x (.seq y k) env h := propext Iff.rfl
theorem aW5 {o : Operand} {x y : Code} : vcT F p (.cond o x y) k env h = match evA F.E.G env o with
  | .val .bool b => (b = true → vcT F p x k env h) ∧ (¬ b = true → vcT F p y k env h)
  | _ => False := propext Iff.rfl
theorem aVR {id : Nat} {x : Code} : vcT F p (.block id x) k env h = vcT F p x (.blk id k) env h := propext Iff.rfl
theorem aVS {x : Code} : vcT F p (.scope x) k env h = vcT F p x (.scp k) env h := propext Iff.rfl
theorem aW6 {x : Code} : vcT F p (.loop x) k env h = Tri F (.loop x) (aJu F k) env h := propext Iff.rfl
theorem aT3 {id : Nat} {ops : Array Oper} {draw : Bool} : vcT F p (.region id ops draw) k env h = match aYs p.reg id with
  | .A keep => vcA F.E h env ops.toList 0 [] (fun acc => den F p k .normal (aNF keep acc env) h)
  | .B keep => draw = false ∧ sN F.E ops.toList ops.toList env h (fun env h => den F p k .normal (keep.map fun t => (t, look env t)) h)
  | .C n keep => (draw = true ∧ (aND (ops.toList.take n) && aDa (ops.toList.take n) && aHx (ops.toList.take n).length ops.toList) = true) ∧
    vcA F.E h env (ops.toList.take n) 0 [] (fun acc => sN F.E ops.toList (ops.toList.drop n) (qE F.E.T (gM (ops.toList.take n) 0) (nJ acc env) h).1 (qE F.E.T (gM (ops.toList.take n) 0) (nJ acc env) h).2 (fun env h => den F p k .normal (keep.map fun t => (t, look env t)) h))
  | .stop => Tri F (.region id ops draw) (aJu F k) env h := propext Iff.rfl
theorem aYy {Q : Exit → Act → World → Prop} {e : Exit} : den F p (.fin Q) e env h = At F (Q e) env h := propext Iff.rfl
theorem aW7 {y : Code} : den F p (.seq y k) .normal env h = vcT F p y k env h := propext Iff.rfl
theorem aW8 {y : Code} {id : Nat} : den F p (.seq y k) (.exit id) env h = den F p k (.exit id) env h := propext Iff.rfl
theorem aW9 {y : Code} : den F p (.seq y k) .ret env h = den F p k .ret env h := propext Iff.rfl
theorem aXa {id : Nat} : den F p (.blk id k) .normal env h = den F p k .normal env h := propext Iff.rfl
theorem aXb {id j : Nat} : den F p (.blk id k) (.exit j) env h = match decide (j = id) with
  | true => den F p k .normal env h
  | false => den F p k (.exit j) env h := propext Iff.rfl
theorem aXc {id : Nat} : den F p (.blk id k) .ret env h = den F p k .ret env h := propext Iff.rfl
theorem aXd : den F p (.scp k) .normal env h = den F p k .normal env h := propext Iff.rfl
theorem aXe {j : Nat} : den F p (.scp k) (.exit j) env h = den F p k (.exit j) env h := propext Iff.rfl
theorem aXf : den F p (.scp k) .ret env h = den F p k .ret env h := propext Iff.rfl
theorem aXg {K : Act → World → Prop} : den F p (.stp K k) .normal env h = At F K env h := propext Iff.rfl
theorem aXh {K : Act → World → Prop} {j : Nat} : den F p (.stp K k) (.exit j) env h = den F p k (.exit j) env h := propext Iff.rfl
theorem aXi {K : Act → World → Prop} : den F p (.stp K k) .ret env h = den F p k .ret env h := propext Iff.rfl
theorem aYz {E : Env} {i : Nat} {acc : List Ent} {K : List Ent → Prop} : vcA E h env [] i acc K = K acc := propext Iff.rfl
theorem aXj {E : Env} {o : Oper} {r : List Oper} {i : Nat} {acc : List Ent} {K : List Ent → Prop} : vcA E h env (o :: r) i acc K = match o.dst, opA E h env acc o with
  | some d, (p, v) => aDQ acc o.guard ∧ (iX acc (aC8 acc o.guard) → p) ∧ vcA E h env r (i + 1) (⟨i, d, aC8 acc o.guard, v⟩ :: acc) K
  | none, _ => False := propext (by rw [vcA]; exact Iff.rfl)
theorem aXk {E : Env} {all : List Oper} {K : St → List Obj → Prop} : sN E all [] env h K = K env h := propext Iff.rfl
theorem aVT {E : Env} {all : List Oper} {o : Oper} {r : List Oper} {K : St → List Obj → Prop} : sN E all (o :: r) env h K = match o.guard with
  | none => match wD E env h o with
   | (p, v, h') => p ∧ sN E all r (wT o.dst v env) h' K
  | some (j, pol) => match aIN all j with
   | some dj => match look env dj with
    | .val .bool b => (b = pol → match wD E env h o with
      | (p, v, h') => p ∧ sN E all r (wT o.dst v env) h' K) ∧ (b = !pol → sN E all r (wT o.dst .undef env) h K)
    | .undef => sN E all r (wT o.dst .undef env) h K
    | _ => False
   | none => False := propext (by rw [sN] <;> exact Iff.rfl)
def VOK (F : Fr) (p : PlR) : Prop := gD F
theorem fD (hF : VOK F p) {x y : Code} {D : Type} (J : D → Prop) (keep : List Nat) (uE : D → St) (uO : D → List (Nat ⊕ Obj))
  (hx : vcT F p x (.stp (fun a' w' => ∃ d' c', J d' ∧ Sim F.E F.M F.w0 F.nt F.ds c' (aJq env keep (uE d')) (uS h (uO d')) a' w') k) env h)
  (hy : ∀ d, J d → vcT F p y k (aJq env keep (uE d)) (uS h (uO d))) : Tri F (.seq x y) (aJu F k) env h :=
 aSN J (fun d => aJq env keep (uE d)) (fun d => uS h (uO d)) (aRZ hF hx) (fun d hd => aRZ hF (hy d hd))
theorem cL (hF : VOK F p) {x : Code} {D E R : Type} {G : Md} {step : D → Option (D ⊕ E)} {kk : E → Option R} {Θ : R → Prop} {d0 : D} (keep : List Nat) (uE : D → St) (uO : D → List (Nat ⊕ Obj))
  (hd : sat ((eJ G step d0).bind kk) Θ) (hh : h = uS h (uO d0)) (hf : kU h env (aJq env keep (uE d0)))
  (round : ∀ d (A : D → Prop) (B : D ⊕ E → Prop), (∀ x, B (.inl x) → A x) → (∀ e, B (.inr e) → sat (kk e) Θ) → sat (step d) B → vcT F p x (.stp (fun a' w' => ∃ d' c', A d' ∧ Sim F.E F.M F.w0 F.nt F.ds c' (aJq env keep (uE d')) (uS h (uO d')) a' w') k) (aJq env keep (uE d)) (uS h (uO d))) : Tri F (.loop x) (aJu F k) env h := by
 obtain ⟨r, hr, hΘ⟩ := hd
 refine aSM (fun d => (eJ G step d).bind kk = some r) (aFO step) (fun d => aJq env keep (uE d)) (fun d => uS h (uO d)) (aY d0 hr hh hf) fun d hi => ?_
 obtain ⟨s, h1, h2⟩ := aPj hi
 refine aRZ hF (k := .stp _ k) (round d (fun d' => (eJ G step d').bind kk = some r ∧ aFO step d' < aFO step d) (lR (fun d' => (eJ G step d').bind kk = some r ∧ aFO step d' < aFO step d) (fun e => kk e = some r)) (fun _ hx => hx) (fun e he => ⟨r, he, hΘ⟩) ⟨s, h1, h2⟩)
theorem yK (hF : VOK F p) {id : Nat} {ops : Array Oper} {draw : Bool} (keep : List Nat) (hv : vcA F.E h env ops.toList 0 [] (fun acc => den F p k .normal (aNF keep acc env) h)) : Tri F (.region id ops draw) (aJu F k) env h :=
 aU8 hF (aBX hF k) hv
def aY4 (P : Program) (fn : Func) (S : Nat → Prop) (w0 : World) (r : RK) (Θ : r.ty.den → Prop) : Exit → Act → World → Prop := fun e a w => ∃ y, Θ y ∧ post P fn S w0 r y e a w
theorem aK {F : Fr} {fn : Func} {S : Nat → Prop} {r : RK} {Θ : r.ty.den → Prop} {env : St} {h : List Obj} (hF : gD F) (l : List ResultVar) (hM : F.M = top S) (hds : F.ds = []) (hr : fn.results = l.toArray) {y : r.ty.den} (hy : Θ y) (hq : (aT F.E.T h env l).1 ∧ iF h r y (aT F.E.T h env l).2) : At F (aY4 F.P fn S F.w0 r Θ .ret) env h :=
 fun c a w hs => ⟨y, hy, gX hF l hM hds hr hq c a w hs⟩
theorem bT {P : Program} {E : Env} {f : FuncId} {fn : Func} {body : Code} {a : Ty} {r : RK} {m : a.den → Option r.ty.den} (hE : iE P E) (hm : P.follows .mixedOrders = true) (hf : P.funcs[f]? = some fn) (hb : fn.body = some body) (hok : iA fn.ntmps body = true) (hn : aMX a ≤ fn.ntmps) (p : PlR)
  (ht : ∀ (w0 : World) (S : Nat → Prop) (x : a.den) (Θ : r.ty.den → Prop), a.wf x → sat (m x) Θ → VOK (fr P E S w0 fn.ntmps) p → vcT (fr P E S w0 fn.ntmps) p body (.fin (aY4 P fn S w0 r Θ)) (bZ a x 0) []) : FOK P E.G f (mSpec a r m) :=
 rY hE hf hb hok hn fun w0 S x y hw hx => by
  have hF : gD (fr P E S w0 fn.ntmps) := ⟨hE, hm⟩
  have := aRZ hF (ht w0 S x (fun z => z = y) hw ⟨y, hx, rfl⟩ hF)
  intro hok c a w hs
  refine wp_mono (this hok c a w hs) fun e a' w' hq => ?_
  obtain ⟨z, rfl, hz⟩ := hq
  exact hz
end
attribute [go_sem ↓] aW3 aVQ aW4 aYw aYx aW5 aVR aVS aW6 aT3
attribute [go_sem ↓] aYy aW7 aW8 aW9 aXa aXb aXc aXd aXe aXf aXg aXh aXi
attribute [go_sem ↓] aYz aXj aXk aVT
attribute [go_sem] aYs first aS5 kU dG iF eq_self aW2
end Go.Vc
namespace Go.Vc
open Go.RowKit
section
variable {F : Fr} {K : Act → World → Prop} {env : St} {h : List Obj}
theorem aVU (i q : Nat) (e : TypeId) (m : Mk) (t : Ty) {n : Nat} {vs : List AV} (ho : h[i]? = some (.box n (.agg vs))) (hq : vs[q]? = some .nilS) (hs1 : vs.all AV.solid1 = true) (hk : At F K env (h.set i (.box n (.agg (vs.set q (.own h.length)))) ++ [aEY e m t []])) : At F K env h := fun c a w hs => by
 have hil : i < h.length := mN ho
 have hin : i < c.n := by rw [hs.good.n]; exact hil
 have hrep : kT w c.S (.sl t) (.sl e m) [] [.slice none 0 0] [] := ⟨.slice none 0 0, [], [], rfl, World.ownsRow_nil w 0 e t.cells, rfl, rfl, rfl, fun i h => by simp at h⟩
 obtain ⟨c', hl, hg, hv⟩ := hs.good.taken [] (w' := w) rfl rfl rfl (Nat.le_refl _) (fun _ _ _ => rfl) hrep List.nodup_nil (fun b hb => by cases hb) ⟨_, _, _, rfl⟩
 have hg : Good F.M F.w0 c' (h ++ [aEY e m t []]) w := hg
 have ho' : (h ++ [aEY e m t []])[i]? = some (.box n (.agg vs)) := by rw [List.getElem?_append_left hil]; exact ho
 obtain ⟨b, cells, e', q1, q2, q3, q4⟩ := hg.objs i _ ho'
 simp only [aN] at q4
 obtain ⟨hql, hqe⟩ := List.getElem?_eq_some_iff.1 hq
 obtain ⟨pre, ds, post, e1, hp, hd, hset⟩ := aOv q4 (fun v hv => List.all_eq_true.1 hs1 v hv) hql
 have hfo : ∀ (vs : List AV) (q : Nat) (hq : q < vs.length), (dY (.agg vs) q).1 = vs[q] := by
  intro vs
  induction vs with
  | nil => intro q hq; simp at hq
  | cons v r ih => intro q hq; cases q with
   | zero => rfl
   | succ q => simp only [dY, List.getElem_cons_succ]; exact ih q (by simpa using hq)
 rw [hfo vs q hql, hqe] at hd
 have hd : ds = [.slice none 0 0] := hd
 subst hd
 have hown : aN c' w (.own h.length) [.slice none 0 0] := by
  obtain ⟨hh, _⟩ := hv
  exact hh
 have hnew := hset (.own h.length) _ hown
 rw [← e1] at hnew
 have key := hg.retell ho' (o' := .box n (.agg (vs.set q (.own h.length)))) (S' := c'.S) (B' := c'.bl i) (fun b hb => .inl hb) (fun b hb => hb) ⟨b, cells, e', q1, q2, q3, by
  have hle : c'.le ⟨c'.S, c'.hd, c'.n, fun j => if j = i then c'.bl i else c'.bl j⟩ := ⟨fun _ h => h, Nat.le_refl _, fun _ _ => rfl⟩
  have : aN c' w (.agg (vs.set q (.own h.length))) cells.toList := by simp only [aN]; exact hnew
  exact aN.keep hle (.refl _ _) _ _ this⟩ (fun b hb => ⟨hb, (hg.own i _ b ho' hb).2.2⟩)
 obtain ⟨c2, hl2, hg2⟩ := key
 rw [List.set_append_left _ _ hil] at hg2
 have hlt := hl.trans hl2
 exact hk c2 a w ⟨hg2, hs.glob.mono hlt.le.S hlt.same, fun s => hlt.val (hs.env s), hs.size, hs.defers⟩
theorem aPm {x : Code} {Q : Exit → Act → World → Prop} (i q : Nat) (e : TypeId) (m : Mk) (t : Ty) {n : Nat} {vs : List AV} (ho : h[i]? = some (.box n (.agg vs))) (hq : vs[q]? = some .nilS) (hs1 : vs.all AV.solid1 = true) (hk : Tri F x Q env (h.set i (.box n (.agg (vs.set q (.own h.length)))) ++ [aEY e m t []])) : Tri F x Q env h := fun hok => aVU i q e m t ho hq hs1 (hk hok)
end
end Go.Vc
namespace Go.Vc
open Go.RowKit
end Go.Vc
namespace Go.Vc
open Go.RowKit
def bitsOf (n : Nat) (done : List Nat) : List Bool := (List.range n).map fun i => done.contains i
def aZW (F : Fr) (inv : List Bool → St × List Obj) (downs : List (List Bool)) (bs' : List Bool) (d : Option Nat) (env : St) (r : Prop × AV × List Obj) : Prop := match r with
 | (p, v, h') => p ∧ bs' ∈ downs ∧ ∃ σ, nodupB σ = true ∧ preB F.M.m σ = true ∧ ((inv bs').1.map fun q => (q.1, ren σ (look (wT d v env) q.1))) = (inv bs').1 ∧ (σ.map fun j => dI σ (h'.getD j .dead)) = (inv bs').2
def stT (F : Fr) (ops : List Oper) (inv : List Bool → St × List Obj) (downs : List (List Bool)) (bs : List Bool) (i : Nat) : Prop :=
 match ops[i]? with
 | some o => o.guard = none ∧ aZW F inv downs (bs.set i true) o.dst (inv bs).1 (wD F.E (inv bs).1 (inv bs).2 o)
 | none => False
inductive Dk where
 | v (t : Nat) (x : AV)
 | mk (t : Nat) (o : Obj)
 | cp (t j : Nat)
 | st (i : Nat) (o : Obj)
def aXl : List Dk → List Bool → Nat → Nat
 | _, _, 0 => 0
 | .mk _ _ :: r, true :: bs, j + 1 => aXl r bs j + 1
 | _ :: r, _ :: bs, j + 1 => aXl r bs j
 | _, _, _ + 1 => 0
def aZX (ds : List Dk) (bs : List Bool) (n i : Nat) : Dk → Nat × AV
 | .v t x => (t, x)
 | .mk t _ => (t, .own (n + aXl ds bs i))
 | .cp t j => (t, .own (n + aXl ds bs j))
 | .st _ _ => (0, .junk)
def aXm (ds : List Dk) (bs : List Bool) (n : Nat) : List Dk → List Bool → Nat → St
 | _, [], _ => []
 | [], _ :: _, _ => []
 | .st _ _ :: r, true :: b, i => aXm ds bs n r b (i + 1)
 | d :: r, true :: b, i => aZX ds bs n i d :: aXm ds bs n r b (i + 1)
 | _ :: r, false :: b, i => aXm ds bs n r b (i + 1)
def aYA : List Dk → List Bool → List Obj
 | .mk _ o :: r, true :: b => o :: aYA r b
 | _ :: r, _ :: b => aYA r b
 | _, _ => []
def aYB : List Dk → List Bool → List Obj → List Obj
 | .st i o :: r, true :: b, h => aYB r b (h.set i o)
 | _ :: r, _ :: b, h => aYB r b h
 | _, _, h => h
def bAj (env : St) (h : List Obj) (ds : List Dk) (bs : List Bool) : St × List Obj := (aXm ds bs h.length ds bs 0 ++ env, aYB ds bs h ++ aYA ds bs)
def stL (F : Fr) (ops : List Oper) (inv : List Bool → St × List Obj) (downs : List (List Bool)) (bs : List Bool) : List Nat → Prop
 | [] => True
 | i :: r => stT F ops inv downs bs i ∧ stL F ops inv downs bs r
def stM (F : Fr) (ops : List Oper) (inv : List Bool → St × List Obj) (downs : List (List Bool)) : List (List Bool × List Nat) → Prop
 | [] => True
 | p :: r => stL F ops inv downs p.1 p.2 ∧ stM F ops inv downs r
attribute [go_sem] stM stL stT aZW bAj aXm aZX aYA aYB aXl bitsOf
end Go.Vc
namespace Go.Vc
open Go.RowKit
def aBI (ops : List Oper) (a b : Nat) : Bool := match ops[a]? with
 | some o => o.after.toList.any fun e => Region.binds .any e && e.on == b
 | none => false
def aCw (ops : List Oper) (i : Nat) : Option Nat := match ops[i]? with
 | some o => o.dst
 | none => none
def okK (ops : List Oper) (eff : List Nat) (i k : Nat) : Bool := (List.range eff.length).all fun m => bif m < k then !aBI ops (eff.getD m 0) i && !(eff.getD m 0 == i) else !aBI ops i (eff.getD m 0)
def aXn (ops : List Oper) (eff : List Nat) : Bool := (List.range eff.length).all fun m => m == 0 || aBI ops (eff.getD m 0) (eff.getD (m - 1) 0)
def aZY (ops : List Oper) (us : List (List Nat)) : Bool := (List.range ops.length).all fun j => (us.getD j []).all fun u => (List.range ops.length).all fun i => !(aCw ops i == some u) || aBI ops j i
def aZZ (ops : List Oper) : Bool := (List.range ops.length).all fun i => (List.range ops.length).all fun j => i == j || (aCw ops i).isNone || !(aCw ops i == aCw ops j)
def aJv (ops : List Oper) (xs : List AV) (env : St) (t : Nat) : AV := match (List.range ops.length).find? fun i => aCw ops i == some t with
 | some i => xs.getD i .junk
 | none => look env t
def stW (F : Fr) (ops : List Oper) (ues : List St) (xs : List AV) (hs : List (List Obj)) (eff : List Nat) (i k : Nat) : Prop :=
 match ops[i]? with
 | some o => o.guard = none ∧ match wD F.E (ues.getD i []) (hs.getD k []) o with
  | (p, v, h') => p ∧ v = xs.getD i .junk ∧ h' = hs.getD (bif eff.contains i then k + 1 else k) []
 | none => False
def aYC (F : Fr) (ops : List Oper) (ues : List St) (xs : List AV) (hs : List (List Obj)) (eff : List Nat) : List (Nat × Nat) → Prop
 | [] => True
 | p :: r => stW F ops ues xs hs eff p.1 p.2 ∧ aYC F ops ues xs hs eff r
theorem aS6 {F : Fr} {ops : List Oper} {ues : List St} {xs : List AV} {hs : List (List Obj)} {eff : List Nat} : ∀ {l : List (Nat × Nat)}, aYC F ops ues xs hs eff l → ∀ p ∈ l, stW F ops ues xs hs eff p.1 p.2
 | p :: r, h, q, hq => by
  rcases List.mem_cons.1 hq with rfl | hq
  ·exact h.1
  ·exact aS6 h.2 q hq
structure aT4 (ops : List Oper) (eff : List Nat) (us : List (List Nat)) : Prop where
 back : aS4 ops = true
 chain : ∀ m, m < eff.length → m ≠ 0 → aBI ops (eff.getD m 0) (eff.getD (m - 1) 0) = true
 effn : eff.Nodup
 effl : ∀ m, m < eff.length → eff.getD m 0 < ops.length
 use : ∀ j, j < ops.length → ∀ u ∈ us.getD j [], ∀ i, i < ops.length → aCw ops i = some u → aBI ops j i = true
 dst : ∀ i j t, i < ops.length → j < ops.length → aCw ops i = some t → aCw ops j = some t → i = j
theorem aYD {ops : List Oper} {eff : List Nat} {us : List (List Nat)} (hc : aT4 ops eff us) {xs : List AV} {env : St} {t i : Nat} (hi : i < ops.length) (hd : aCw ops i = some t) : aJv ops xs env t = xs.getD i .junk := by
 unfold aJv
 cases hf : (List.range ops.length).find? fun i => aCw ops i == some t with
 | none =>
  have := List.find?_eq_none.1 hf i (List.mem_range.2 hi)
  simp [hd] at this
 | some k =>
  have h1 := List.find?_some hf
  have h2 := List.mem_range.1 (List.mem_of_find?_eq_some hf)
  obtain rfl := hc.dst k i t h2 hi (by simpa using h1) hd
  rfl
theorem aYE {ops : List Oper} {xs : List AV} {env : St} {t : Nat} (h : ∀ i, i < ops.length → aCw ops i ≠ some t) : aJv ops xs env t = look env t := by
 unfold aJv
 cases hf : (List.range ops.length).find? fun i => aCw ops i == some t with
 | none => rfl
 | some k =>
  have h1 := List.find?_some hf
  exact absurd (by simpa using h1) (h k (List.mem_range.1 (List.mem_of_find?_eq_some hf)))
structure aKk (ops : List Oper) (eff : List Nat) (xs : List AV) (env0 : St) (done : List Nat) (k : Nat) (env : St) : Prop where
 kle : k ≤ eff.length
 kd : ∀ m, m < eff.length → (eff.getD m 0 ∈ done ↔ m < k)
 cl : ∀ i ∈ done, ∀ b, aBI ops i b = true → b ∈ done
 hit : ∀ i ∈ done, ∀ t, aCw ops i = some t → look env t = xs.getD i .junk
 miss : ∀ t, (∀ i ∈ done, aCw ops i ≠ some t) → look env t = look env0 t
theorem aKk.val {ops : List Oper} {eff : List Nat} {us : List (List Nat)} (hc : aT4 ops eff us) {xs : List AV} {env0 env : St} {done : List Nat} {k : Nat} (hv : aKk ops eff xs env0 done k env) (t : Nat) (h : ∀ i, i < ops.length → aCw ops i = some t → i ∈ done) : aJv ops xs env0 t = look env t := by
 by_cases hex : ∃ i, i < ops.length ∧ aCw ops i = some t
 ·obtain ⟨i, hi, hd⟩ := hex
  rw [aYD hc hi hd, hv.hit i (h i hi hd) t hd]
 ·have hno : ∀ i, i < ops.length → aCw ops i ≠ some t := fun i hi hd => hex ⟨i, hi, hd⟩
  rw [aYE hno, hv.miss t fun i _ hd => ?_]
  rcases Nat.lt_or_ge i ops.length with hi | hi
  ·exact hno i hi hd
  ·simp [aCw, List.getElem?_eq_none hi] at hd
theorem aA8 {ops : List Oper} {done : List Nat} {j : Nat} (hr : j ∈ aDi ops done) : ∀ b, aBI ops j b = true → b ∈ done := fun b hb => by
 simp only [aDi, List.mem_filter, List.mem_range, Bool.and_eq_true] at hr
 obtain ⟨h1, h2, h3⟩ := hr
 unfold aBI at hb
 rw [List.getElem?_eq_getElem h1] at h3 hb
 simp only [List.all_eq_true, Bool.or_eq_true, List.any_eq_true, Bool.and_eq_true, beq_iff_eq] at h3 hb
 obtain ⟨e, he, hbe, rfl⟩ := hb
 rcases h3 e he with h | h
 ·rw [hbe] at h; simp at h
 ·simpa using h
theorem aS7 {l : List Nat} {x : Nat} (h : x ∈ l) : ∃ m, m < l.length ∧ l.getD m 0 = x := by
 obtain ⟨m, hm, rfl⟩ := List.getElem_of_mem h
 exact ⟨m, hm, by simp [List.getD_eq_getElem?_getD, hm]⟩
theorem aKk.okk {ops : List Oper} {eff : List Nat} {us : List (List Nat)} {xs : List AV} {env0 env : St} {done : List Nat} {k j : Nat} (hv : aKk ops eff xs env0 done k env) (hr : j ∈ aDi ops done) (hnd : j ∉ done) : okK ops eff j k = true := by
 simp only [okK, List.all_eq_true, List.mem_range]
 intro m hm
 by_cases h : m < k
 ·rw [decide_eq_true h]
  simp only [cond_true, Bool.and_eq_true, Bool.not_eq_true', beq_eq_false_iff_ne, ne_eq]
  refine ⟨?_, fun e => hnd (e ▸ (hv.kd m hm).2 h)⟩
  cases hb : aBI ops (eff.getD m 0) j with
  | false => rfl
  | true => exact absurd (hv.cl _ ((hv.kd m hm).2 h) j hb) hnd
 ·rw [decide_eq_false h]
  simp only [cond_false, Bool.not_eq_true']
  cases hb : aBI ops j (eff.getD m 0) with
  | false => rfl
  | true => exact absurd ((hv.kd m hm).1 (aA8 hr _ hb)) h
theorem aRr {d : Option Nat} {v : AV} {env : St} {t : Nat} : look (wT d v env) t = if d = some t then v else look env t := by
 cases d with
 | none => simp [wT]
 | some d =>
  simp only [wT, look, Option.some.injEq]
theorem aKk.step {ops : List Oper} {eff : List Nat} {us : List (List Nat)} (hc : aT4 ops eff us) {xs : List AV} {env0 env : St} {done : List Nat} {k j : Nat} (hv : aKk ops eff xs env0 done k env) (hr : j ∈ aDi ops done) (hnd : j ∉ done) (hjl : j < ops.length) (hlt : ∀ i ∈ done, i < ops.length) :
  aKk ops eff xs env0 (j :: done) (bif eff.contains j then k + 1 else k) (wT (aCw ops j) (xs.getD j .junk) env) := by
 have hnew : ∀ m, m < eff.length → eff.getD m 0 = j → m = k := fun m hm e => by
  have h1 : ¬ m < k := fun h => hnd (e ▸ (hv.kd m hm).2 h)
  rcases Nat.eq_zero_or_pos m with h0 | h0
  ·omega
  ·have := aA8 hr _ (by rw [← e]; exact hc.chain m hm (by omega))
   have := (hv.kd (m - 1) (by omega)).1 this
   omega
 refine ⟨?_, fun m hm => ?_, fun i hi b hb => ?_, fun i hi t ht => ?_, fun t ht => ?_⟩
 ·cases hb : eff.contains j with
  | false => exact hv.kle
  | true =>
   obtain ⟨m, hm, e⟩ := aS7 (List.contains_iff_mem.1 hb)
   have := hnew m hm e
   show k + 1 ≤ _
   omega
 ·cases hb : eff.contains j with
  | false =>
   have hne : eff.getD m 0 ≠ j := fun e => by
    have : j ∈ eff := by rw [← e]; simp only [List.getD_eq_getElem?_getD, List.getElem?_eq_getElem hm, Option.getD_some]; exact List.getElem_mem hm
    rw [List.contains_iff_mem.2 this] at hb; cases hb
   show _ ↔ m < k
   rw [← hv.kd m hm]
   simp only [List.mem_cons, hne, false_or]
  | true =>
   obtain ⟨n, hn, e⟩ := aS7 (List.contains_iff_mem.1 hb)
   have hk := hnew n hn e
   show _ ↔ m < k + 1
   constructor
   ·intro h
    rcases List.mem_cons.1 h with h | h
    ·have := hnew m hm h; omega
    ·have := (hv.kd m hm).1 h; omega
   ·intro h
    rcases Nat.lt_or_ge m k with h' | h'
    ·exact List.mem_cons_of_mem _ ((hv.kd m hm).2 h')
    ·have : m = n := by omega
     subst this
     rw [e]; exact List.mem_cons_self
 ·rcases List.mem_cons.1 hi with rfl | hi
  ·exact List.mem_cons_of_mem _ (aA8 hr b hb)
  ·exact List.mem_cons_of_mem _ (hv.cl i hi b hb)
 ·rw [aRr]
  rcases List.mem_cons.1 hi with rfl | hi
  ·rw [if_pos ht]
  ·by_cases e : aCw ops j = some t
   ·exact absurd (hc.dst i j t (hlt i hi) hjl ht e) (fun e => hnd (e ▸ hi))
   ·rw [if_neg e]; exact hv.hit i hi t ht
 ·rw [aRr, if_neg (ht j List.mem_cons_self)]
  exact hv.miss t fun i hi => ht i (List.mem_cons_of_mem _ hi)
theorem aU9 {F : Fr} {Q : Exit → Act → World → Prop} (hF : gD F) {ops : List Oper} {eff : List Nat} {us : List (List Nat)} (hc : aT4 ops eff us) (hok : ∀ o ∈ ops, gV F.nt o = true) (xs : List AV) (env0 : St) (hs : List (List Obj)) (ues : List St)
  (hue : ∀ j, j < ops.length → ues.getD j [] = (us.getD j []).map fun t => (t, aJv ops xs env0 t)) (hst : ∀ i k, i < ops.length → k ≤ eff.length → okK ops eff i k = true → stW F ops ues xs hs eff i k)
  (keep : List Nat) (hK : At F (Q .normal) (keep.map fun t => (t, aJv ops xs env0 t)) (hs.getD eff.length [])) :
  ∀ (n : Nat) (done : List Nat) (listed : Array Bool), listed.size = ops.length → (∀ k, k < ops.length → (listed.getD k false = true ↔ k ∈ done)) → done.length + n = ops.length → done.Nodup → (∀ k ∈ done, k < ops.length) → ∀ (k : Nat) (env : St), aKk ops eff xs env0 done k env → ∀ (c : Ctx) (a : Act) (w : World), Sim F.E F.M F.w0 F.nt F.ds c env (hs.getD k []) a w → wpAny F.P .any ops.toArray Q n listed a w
 | 0, done, listed, hsz, hl, hn, hd, hlt, k, env, hv, c, a, w, hsim => by
  have hsub : ∀ j, j < ops.length → j ∈ done := fun j hjl => (aFQ hd (m := List.range ops.length) (fun k hk => List.mem_range.2 (hlt k hk))).2 (by simp; omega) j (List.mem_range.2 hjl)
  refine ⟨?_, ?_⟩
  ·rw [List.eq_nil_iff_forall_not_mem]
   intro j hj
   obtain ⟨h1, o, ho, _⟩ := mem_ready.1 hj
   have ho : ops[j]? = some o := by simpa using ho
   have hjl := jQ.get_lt' ho
   have := (hl j hjl).2 (hsub j hjl)
   have hlt' : j < listed.size := by omega
   simp [hlt'] at h1 this
   rw [this] at h1; cases h1
  ·have hk : k = eff.length := by
    rcases Nat.lt_or_ge k eff.length with h | h
    ·have := (hv.kd k h).1 (hsub _ (hc.effl k h)); omega
    ·have := hv.kle; omega
   subst hk
   refine hK c a w ?_
   have e : (keep.map fun t => (t, aJv ops xs env0 t)) = keep.map fun t => (t, look env t) := by
    refine List.map_congr_left fun t _ => ?_
    rw [aKk.val hc hv t (fun i hi _ => hsub i hi)]
   rw [e]
   exact hsim.keep keep
 | n + 1, done, listed, hsz, hl, hn, hd, hlt, k, env, hv, c, a, w, hsim => by
  have hrd : ∀ j, j ∈ Region.ready .any ops.toArray listed → j ∈ aDi ops done ∧ j ∉ done ∧ j < ops.length := fun j hj => by
   obtain ⟨h1, o, ho, hall⟩ := mem_ready.1 hj
   have ho : ops[j]? = some o := by simpa using ho
   have hjl := jQ.get_lt' ho
   have hlt' : j < listed.size := by omega
   have hnd : j ∉ done := fun hm => by
    have := (hl j hjl).2 hm
    simp [hlt'] at h1 this
    rw [this] at h1; cases h1
   refine ⟨?_, hnd, hjl⟩
   simp only [aDi, List.mem_filter, List.mem_range, ho, Bool.and_eq_true, Bool.not_eq_true', List.contains_eq_mem, decide_eq_false_iff_not, List.all_eq_true, Bool.or_eq_true, decide_eq_true_eq]
   refine ⟨hjl, hnd, fun e he => ?_⟩
   cases hbe : Region.binds .any e with
   | false => exact .inl rfl
   | true =>
    right
    have h5 := hall e (by simpa using he) hbe
    rcases Nat.lt_or_ge e.on ops.length with hh | hh
    ·exact (hl _ hh).1 h5
    ·simp [show ¬ e.on < listed.size by omega] at h5
  refine ⟨fun hr => ?_, fun j hj => ?_⟩
  ·exfalso
   have hex : ∃ k, (k < ops.length ∧ k ∉ done) ∧ ∀ j, j < k → ¬ (j < ops.length ∧ j ∉ done) := by
    have hex : ∃ k, k < ops.length ∧ k ∉ done := by
     apply Classical.byContradiction
     intro hc
     have hsub : List.range ops.length ⊆ done := fun k hk => Classical.byContradiction fun hk2 => hc ⟨k, List.mem_range.1 hk, hk2⟩
     have := (aFQ (List.nodup_range (n := ops.length)) (fun k hk => hsub hk)).1
     simp at this
     omega
    obtain ⟨n, h1, h2⟩ := aE1 hex
    exact ⟨n, h1, fun j hj hp => by have := h2 j hp; omega⟩
   obtain ⟨k, ⟨hk, hkd⟩, hlow⟩ := hex
   have hmem : k ∈ Region.ready .any ops.toArray listed := by
    rw [mem_ready]
    have hlt' : k < listed.size := by omega
    have hun : ¬ listed.getD k false = true := fun h => hkd ((hl k hk).1 h)
    refine ⟨by simp [hlt'] at hun ⊢; exact hun, ops[k], by simp [hk], fun e he hbe => ?_⟩
    have hbk := List.all_eq_true.1 hc.back (ops[k], k) (by rw [List.mem_zipIdx_iff_getElem?]; exact List.getElem?_eq_getElem hk)
    have hbk := List.all_eq_true.1 hbk e (Array.mem_toList_iff.2 he)
    rw [hbe] at hbk
    simp at hbk
    have hne := hlow e.on hbk
    exact (hl _ (by omega)).2 (Classical.byContradiction fun hd => hne ⟨by omega, hd⟩)
   rw [hr] at hmem; cases hmem
  ·obtain ⟨r1, r2, r3⟩ := hrd j hj
   have hs1 := hst j k r3 hv.kle (hv.okk (us := us) r1 r2)
   have hjo : ops[j]? = some ops[j] := List.getElem?_eq_getElem r3
   have hdo : aCw ops j = ops[j].dst := by simp [aCw, hjo]
   unfold stW at hs1
   rw [hjo] at hs1
   obtain ⟨hg, hs1⟩ := hs1
   have hs2 : (wD F.E (ues.getD j []) (hs.getD k []) ops[j]).1 ∧ (wD F.E (ues.getD j []) (hs.getD k []) ops[j]).2.1 = xs.getD j .junk ∧ (wD F.E (ues.getD j []) (hs.getD k []) ops[j]).2.2 = hs.getD (bif eff.contains j then k + 1 else k) [] := hs1
   obtain ⟨hp, hx, hh⟩ := hs2
   have hokO := hok ops[j] (List.getElem_mem r3)
   have hw : Region.wanted ops[j] (yielded ops.toArray a.tmps) = true := by simp [Region.wanted, hg]
   have eu : ues.getD j [] = (us.getD j []).map fun t => (t, look env t) := by
    rw [hue j r3]
    refine List.map_congr_left fun t ht => ?_
    rw [aKk.val hc hv t (fun i hi hdi => aA8 r1 i (hc.use j r3 t ht i hi hdi))]
   have hsimU := hsim.keep (us.getD j [])
   rw [← eu] at hsimU
   unfold wpOp
   simp only [List.getElem?_toArray, hjo]
   rw [if_pos hw]
   left
   refine (aIu hF.env hsimU hokO hp).wp fun v w' c' ha => ?_
   have hsim' := hsim.after hokO ha
   rw [hx, hh] at hsim'
   have hv' := hv.step hc r1 r2 r3 hlt
   rw [hdo] at hv'
   refine aU9 hF hc hok xs env0 hs ues hue hst keep hK n (j :: done) (listed.setIfInBounds j true) (by simp [hsz]) (fun k hk => ?_) (by simp; omega) (List.nodup_cons.2 ⟨r2, hd⟩) (fun k hk => ?_) _ _ hv' c' _ w' hsim'
   ·by_cases e : j = k
    ·subst e
     have : j < listed.size := by omega
     simp [this]
    ·rw [getD_set_ne false e, hl k hk]
     constructor
     ·intro h; exact List.mem_cons_of_mem _ h
     ·intro h; exact (List.mem_cons.1 h).resolve_left (fun e' => e e'.symm)
   ·rcases List.mem_cons.1 hk with rfl | hk
    ·exact r3
    ·exact hlt k hk
def aZE (ops : List Oper) (eff : List Nat) (us : List (List Nat)) (pl : List (Nat × Nat)) : Bool :=
 aS4 ops && aXn ops eff && nodupB eff && aZY ops us && aZZ ops && eff.all (fun e => decide (e < ops.length)) && (List.range ops.length).all fun i => (List.range (eff.length + 1)).all fun k => !okK ops eff i k || pl.contains (i, k)
theorem aYF {ops : List Oper} {eff : List Nat} {us : List (List Nat)} {pl : List (Nat × Nat)} (h : aZE ops eff us pl = true) : aT4 ops eff us ∧ ∀ i k, i < ops.length → k ≤ eff.length → okK ops eff i k = true → (i, k) ∈ pl := by
 simp only [aZE, Bool.and_eq_true] at h
 obtain ⟨⟨⟨⟨⟨⟨h1, h2⟩, h3⟩, h4⟩, h5⟩, h6⟩, h7⟩ := h
 refine ⟨⟨h1, fun m hm h0 => ?_, aOA h3, fun m hm => ?_, fun j hj u hu i hi hd => ?_, fun i j t hi hj hd hd' => ?_⟩, fun i k hi hk ho => ?_⟩
 ·have := List.all_eq_true.1 h2 m (List.mem_range.2 hm)
  simpa [h0] using this
 ·have := List.all_eq_true.1 h6 (eff.getD m 0) (by simp only [List.getD_eq_getElem?_getD, List.getElem?_eq_getElem hm, Option.getD_some]; exact List.getElem_mem hm)
  simpa using this
 ·have := List.all_eq_true.1 (List.all_eq_true.1 (List.all_eq_true.1 h4 j (List.mem_range.2 hj)) u hu) i (List.mem_range.2 hi)
  simpa [hd] using this
 ·have := List.all_eq_true.1 (List.all_eq_true.1 h5 i (List.mem_range.2 hi)) j (List.mem_range.2 hj)
  simpa [hd, hd'] using this
 ·have := List.all_eq_true.1 (List.all_eq_true.1 h7 i (List.mem_range.2 hi)) k (List.mem_range.2 (by omega))
  simpa [ho] using this
theorem aDV {F : Fr} {Q : Exit → Act → World → Prop} {env : St} {h : List Obj} (hF : gD F) {id : Nat} {ops : Array Oper} (keep : List Nat) (eff : List Nat) (us : List (List Nat)) (pl : List (Nat × Nat)) (xs : List AV) (hs : List (List Obj)) (ues : List St)
  (hb : aZE ops.toList eff us pl = true) (hue : (List.range ops.toList.length).map (fun j => (us.getD j []).map fun t => (t, aJv ops.toList xs env t)) = ues) (h0 : hs.getD 0 [] = h)
  (hst : aYC F ops.toList ues xs hs eff pl) (hk : At F (Q .normal) (keep.map fun t => (t, aJv ops.toList xs env t)) (hs.getD eff.length [])) : Tri F (.region id ops true) Q env h := fun hok c a w hsim => by
 simp only [iA, Bool.and_eq_true, Bool.or_eq_true, Bool.not_eq_true'] at hok
 obtain ⟨⟨h1, h2⟩, h3⟩ := hok
 obtain ⟨hc, hp⟩ := aYF hb
 refine wp_region_any hF.mix ?_
 have hlat : dZ c w c { w with drawn := w.drawn + 1 } := ⟨.refl _, fun b hb => rfl⟩
 have hdr : Sim F.E F.M F.w0 F.nt F.ds c env h a { w with drawn := w.drawn + 1 } :=
  ⟨hsim.good.step hlat rfl rfl ⟨rfl, rfl, rfl, Nat.le_refl _, fun _ _ _ => rfl⟩ (fun _ _ _ _ _ => rfl) hsim.good.sfin (fun _ hb => .inl hb), qM.mono (w := w) (w' := { w with drawn := w.drawn + 1 }) (fun _ hb => hb) hlat.same hsim.glob, hsim.env.keep hlat, hsim.size, hsim.defers⟩
 have := aU9 (Q := Q) hF hc (List.all_eq_true.1 h1) xs env hs ues (fun j hj => by rw [← hue, List.getD_eq_getElem?_getD, List.getElem?_map, List.getElem?_range hj]; rfl) (fun i k hi hk ho => aS6 hst (i, k) (hp i k hi hk ho)) keep hk ops.toList.length [] (Array.replicate ops.size false) (by simp) (fun k hk => by rw [vH]; simp) (by simp) List.nodup_nil (fun k hk => by cases hk) 0 env
  ⟨Nat.zero_le _, fun m hm => by simp, fun i hi => (by cases hi), fun i hi => (by cases hi), fun t _ => rfl⟩ c a _ (by rw [h0]; exact hdr)
 simpa using this
attribute [go_sem] aYC stW
end Go.Vc
namespace Go.Vc
open Go.RowKit
def Ret (h h' : List Obj) : Prop := ∀ (M : Perm) (w0 : World) (c : Ctx) (w : World), Good M w0 c h w → ∃ c', dZ c w c' w ∧ Good M w0 c' h' w
theorem aH {h : List Obj} : Ret h h := fun M w0 c w hg => ⟨c, .refl _ _, hg⟩
theorem aLV {a b d : List Obj} (h1 : Ret a b) (h2 : Ret b d) : Ret a d := fun M w0 c w hg => by
 obtain ⟨c1, l1, g1⟩ := h1 M w0 c w hg
 obtain ⟨c2, l2, g2⟩ := h2 M w0 c1 w g1
 exact ⟨c2, l1.trans l2, g2⟩
section
variable {P : Program} {E : Env} {M : Perm} {w0 : World} {nt : Nat} {ds : List Deferred}
theorem Sim.ret {c : Ctx} {env : St} {h h' : List Obj} {a : Act} {w : World} (hs : Sim E M w0 nt ds c env h a w) (hR : Ret h h') : ∃ c', Sim E M w0 nt ds c' env h' a w := by
 obtain ⟨c', hl, hg⟩ := hR _ _ _ _ hs.good
 exact ⟨c', hg, hs.glob.mono hl.le.S hl.same, fun s => hl.val (hs.env s), hs.size, hs.defers⟩
end
end Go.Vc
namespace Go.Vc
open Go.RowKit
section
variable {h : List Obj}
theorem aJ (i : Nat) {n : Nat} {v : AV} {h' : List Obj} (ho : h[i]? = some (.box n v)) (hR : Ret (h.set i (.box n .junk)) h') : Ret h h' :=
 aLV (fun M w0 c w hg => by
  refine hg.retell ho (o' := .box n .junk) (S' := c.S) (B' := c.bl i) (fun b hb => .inl hb) (fun b hb => hb) ?_ (fun b hb => ?_)
  ·obtain ⟨b, cells, e, q1, q2, q3, q4⟩ := hg.objs i _ ho
   exact ⟨b, cells, e, q1, q2, q3, trivial⟩
  ·have hb : aW (c.hd i) = some b := hb
   have ho' : fN c i (.box n v) b := hb
   exact ⟨ho', (hg.own i _ b ho ho').2.2⟩) hR
theorem lU (i : Nat) {o : Obj} {h' : List Obj} (ho : h[i]? = some o) (hR : Ret (h.set i .dead) h') : Ret h h' :=
 aLV (fun M w0 c w hg => by
  refine hg.retell ho (o' := .dead) (S' := c.S) (B' := c.bl i) (fun b hb => .inl hb) (fun b hb => hb) trivial (fun b hb => ?_)
  exact False.elim hb) hR
theorem aYG (i : Nat) {n : Nat} {v : AV} {t : Ty} (x : t.den) {h' : List Obj} (ho : h[i]? = some (.box n v)) (ha : AV.as (h.map gB) t v = some x) (hR : Ret (h.set i (.box n (.val t x))) h') : Ret h h' :=
 aLV (fun M w0 c w hg => by
  refine hg.retell ho (o' := .box n (.val t x)) (S' := c.S) (B' := c.bl i) (fun b hb => .inl hb) (fun b hb => hb) ?_ (fun b hb => ?_)
  ·obtain ⟨b, cells, e, q1, q2, q3, q4⟩ := hg.objs i _ ho
   exact ⟨b, cells, e, q1, q2, q3, aTQ hg ha q4⟩
  ·have hb : aW (c.hd i) = some b := hb
   have ho' : fN c i (.box n v) b := hb
   exact ⟨ho', (hg.own i _ b ho ho').2.2⟩) hR
end
theorem aL {F : Fr} {Q : Exit → Act → World → Prop} {p : Pan} {env : St} {h h' : List Obj} (hR : Ret h h') (hk : AtP F Q p env h') : AtP F Q p env h := fun c a w u hs hr => by
 obtain ⟨c', hl, hg⟩ := hR _ _ _ _ hs.good
 refine hk c' a w u ⟨hg, hs.glob.mono hl.le.S hl.same, fun s => hl.val (hs.env s), hs.size, hs.defers⟩ ?_
 exact hr.keep hl.le.S hl.same
theorem aVV {F : Fr} {K : Act → World → Prop} {env : St} {h h' : List Obj} (hR : Ret h h') (hk : At F K env h') : At F K env h := fun c a w hs => by
 obtain ⟨c', hl, hg⟩ := hR _ _ _ _ hs.good
 exact hk c' a w ⟨hg, hs.glob.mono hl.le.S hl.same, fun s => hl.val (hs.env s), hs.size, hs.defers⟩
end Go.Vc
namespace Go.Vc
open Go.RowKit
def aXo (F : Fr) (Q : Exit → Act → World → Prop) (Δ : FuncId → List AV → List Obj → Option Hit) (sb : List Nat) (ops : List Oper) (ues : List St) (xs : List AV) (hs : List (List Obj)) (eff : List Nat) (stop : Bool) (i k : Nat) : Prop :=
 match ops[i]? with
 | some o => o.guard = none ∧ aMZ F.E Δ sb (ues.getD i []) (hs.getD k []) o (fun v h' => (stop && k + 1 == eff.length && eff.contains i) = false ∧ v = xs.getD i .junk ∧ h' = hs.getD (bif eff.contains i then k + 1 else k) []) (fun p h' => AtP F Q p [] h')
 | none => False
def aVa (F : Fr) (Q : Exit → Act → World → Prop) (Δ : FuncId → List AV → List Obj → Option Hit) (sb : List Nat) (ops : List Oper) (ues : List St) (xs : List AV) (hs : List (List Obj)) (eff : List Nat) (stop : Bool) : List (Nat × Nat) → Prop
 | [] => True
 | p :: r => aXo F Q Δ sb ops ues xs hs eff stop p.1 p.2 ∧ aVa F Q Δ sb ops ues xs hs eff stop r
theorem aRs {F : Fr} {Q : Exit → Act → World → Prop} {Δ : FuncId → List AV → List Obj → Option Hit} {sb : List Nat} {ops : List Oper} {ues : List St} {xs : List AV} {hs : List (List Obj)} {eff : List Nat} {stop : Bool} : ∀ {l : List (Nat × Nat)}, aVa F Q Δ sb ops ues xs hs eff stop l → ∀ p ∈ l, aXo F Q Δ sb ops ues xs hs eff stop p.1 p.2
 | p :: r, h, q, hq => by
  rcases List.mem_cons.1 hq with rfl | hq
  ·exact h.1
  ·exact aRs h.2 q hq
def reach (ops : List Oper) : Nat → Nat → Nat → Bool
 | 0, i, b => aBI ops i b
 | n + 1, i, b => aBI ops i b || (List.range ops.length).any fun x => aBI ops i x && reach ops n x b
theorem aPn {ops : List Oper} {done : List Nat} (cl : ∀ i ∈ done, ∀ b, aBI ops i b = true → b ∈ done) : ∀ (n i b : Nat), (∀ x, aBI ops i x = true → x ∈ done) → reach ops n i b = true → b ∈ done
 | 0, i, b, h, hr => h b hr
 | n + 1, i, b, h, hr => by
  simp only [reach, Bool.or_eq_true, List.any_eq_true, Bool.and_eq_true] at hr
  rcases hr with hr | ⟨x, _, hx, hr⟩
  ·exact h b hr
  ·exact aPn cl n x b (cl x (h x hx)) hr
def aXp (ops : List Oper) (eff : List Nat) (i k : Nat) : Bool := okK ops eff i k && (List.range eff.length).all fun m => bif m < k then true else !reach ops 2 i (eff.getD m 0)
theorem aYH {ops : List Oper} {eff : List Nat} {xs : List AV} {env0 env : St} {done : List Nat} {k i : Nat} (hv : aKk ops eff xs env0 done k env) (hn : ∀ x, aBI ops i x = true → x ∈ done) (ho : okK ops eff i k = true) : aXp ops eff i k = true := by
 simp only [aXp, ho, Bool.true_and, List.all_eq_true, List.mem_range]
 intro m hm
 by_cases hk : m < k
 ·simp [hk]
 ·simp only [hk, decide_false, cond_false, Bool.not_eq_true']
  cases hr : reach ops 2 i (eff.getD m 0) with
  | false => rfl
  | true => exact absurd ((hv.kd m hm).1 (aPn hv.cl 2 i _ hn hr)) hk
theorem aS8 {F : Fr} {Q : Exit → Act → World → Prop} (hF : gD F) {Δ : FuncId → List AV → List Obj → Option Hit} (hΔ : aEw F.P F.E.G Δ) (sb : List Nat) {ops : List Oper} {eff : List Nat} {us : List (List Nat)} (hc : aT4 ops eff us) (hok : ∀ o ∈ ops, gV F.nt o = true) (xs : List AV) (env0 : St) (hs : List (List Obj)) (ues : List St)
  (hue : ∀ j, j < ops.length → ues.getD j [] = (us.getD j []).map fun t => (t, aJv ops xs env0 t)) (stop : Bool) (hst : ∀ i k, i < ops.length → k ≤ eff.length → (stop = true → k < eff.length) → aXp ops eff i k = true → aXo F Q Δ sb ops ues xs hs eff stop i k)
  (keep : List Nat) (hK : stop = false → At F (Q .normal) (keep.map fun t => (t, aJv ops xs env0 t)) (hs.getD eff.length [])) :
  ∀ (n : Nat) (done : List Nat) (listed : Array Bool), listed.size = ops.length → (∀ k, k < ops.length → (listed.getD k false = true ↔ k ∈ done)) → done.length + n = ops.length → done.Nodup → (∀ k ∈ done, k < ops.length) → ∀ (k : Nat) (env : St), aKk ops eff xs env0 done k env → (stop = true → k < eff.length) → ∀ (c : Ctx) (a : Act) (w : World), Sim F.E F.M F.w0 F.nt F.ds c env (hs.getD k []) a w → wpAny F.P .any ops.toArray Q n listed a w
 | 0, done, listed, hsz, hl, hn, hd, hlt, k, env, hv, hsk, c, a, w, hsim => by
  have hsub : ∀ j, j < ops.length → j ∈ done := fun j hjl => (aFQ hd (m := List.range ops.length) (fun k hk => List.mem_range.2 (hlt k hk))).2 (by simp; omega) j (List.mem_range.2 hjl)
  refine ⟨?_, ?_⟩
  ·rw [List.eq_nil_iff_forall_not_mem]
   intro j hj
   obtain ⟨h1, o, ho, _⟩ := mem_ready.1 hj
   have ho : ops[j]? = some o := by simpa using ho
   have hjl := jQ.get_lt' ho
   have := (hl j hjl).2 (hsub j hjl)
   have hlt' : j < listed.size := by omega
   simp [hlt'] at h1 this
   rw [this] at h1; cases h1
  ·have hk : k = eff.length := by
    rcases Nat.lt_or_ge k eff.length with h | h
    ·have := (hv.kd k h).1 (hsub _ (hc.effl k h)); omega
    ·have := hv.kle; omega
   subst hk
   have hsf : stop = false := by
    cases hx : stop with
    | false => rfl
    | true => exact absurd (hsk hx) (Nat.lt_irrefl _)
   refine hK hsf c a w ?_
   have e : (keep.map fun t => (t, aJv ops xs env0 t)) = keep.map fun t => (t, look env t) := by
    refine List.map_congr_left fun t _ => ?_
    rw [aKk.val hc hv t (fun i hi _ => hsub i hi)]
   rw [e]
   exact hsim.keep keep
 | n + 1, done, listed, hsz, hl, hn, hd, hlt, k, env, hv, hsk, c, a, w, hsim => by
  have hrd : ∀ j, j ∈ Region.ready .any ops.toArray listed → j ∈ aDi ops done ∧ j ∉ done ∧ j < ops.length := fun j hj => by
   obtain ⟨h1, o, ho, hall⟩ := mem_ready.1 hj
   have ho : ops[j]? = some o := by simpa using ho
   have hjl := jQ.get_lt' ho
   have hlt' : j < listed.size := by omega
   have hnd : j ∉ done := fun hm => by
    have := (hl j hjl).2 hm
    simp [hlt'] at h1 this
    rw [this] at h1; cases h1
   refine ⟨?_, hnd, hjl⟩
   simp only [aDi, List.mem_filter, List.mem_range, ho, Bool.and_eq_true, Bool.not_eq_true', List.contains_eq_mem, decide_eq_false_iff_not, List.all_eq_true, Bool.or_eq_true, decide_eq_true_eq]
   refine ⟨hjl, hnd, fun e he => ?_⟩
   cases hbe : Region.binds .any e with
   | false => exact .inl rfl
   | true =>
    right
    have h5 := hall e (by simpa using he) hbe
    rcases Nat.lt_or_ge e.on ops.length with hh | hh
    ·exact (hl _ hh).1 h5
    ·simp [show ¬ e.on < listed.size by omega] at h5
  refine ⟨fun hr => ?_, fun j hj => ?_⟩
  ·exfalso
   have hex : ∃ k, (k < ops.length ∧ k ∉ done) ∧ ∀ j, j < k → ¬ (j < ops.length ∧ j ∉ done) := by
    have hex : ∃ k, k < ops.length ∧ k ∉ done := by
     apply Classical.byContradiction
     intro hc
     have hsub : List.range ops.length ⊆ done := fun k hk => Classical.byContradiction fun hk2 => hc ⟨k, List.mem_range.1 hk, hk2⟩
     have := (aFQ (List.nodup_range (n := ops.length)) (fun k hk => hsub hk)).1
     simp at this
     omega
    obtain ⟨n, h1, h2⟩ := aE1 hex
    exact ⟨n, h1, fun j hj hp => by have := h2 j hp; omega⟩
   obtain ⟨k, ⟨hk, hkd⟩, hlow⟩ := hex
   have hmem : k ∈ Region.ready .any ops.toArray listed := by
    rw [mem_ready]
    have hlt' : k < listed.size := by omega
    have hun : ¬ listed.getD k false = true := fun h => hkd ((hl k hk).1 h)
    refine ⟨by simp [hlt'] at hun ⊢; exact hun, ops[k], by simp [hk], fun e he hbe => ?_⟩
    have hbk := List.all_eq_true.1 hc.back (ops[k], k) (by rw [List.mem_zipIdx_iff_getElem?]; exact List.getElem?_eq_getElem hk)
    have hbk := List.all_eq_true.1 hbk e (Array.mem_toList_iff.2 he)
    rw [hbe] at hbk
    simp at hbk
    have hne := hlow e.on hbk
    exact (hl _ (by omega)).2 (Classical.byContradiction fun hd => hne ⟨by omega, hd⟩)
   rw [hr] at hmem; cases hmem
  ·obtain ⟨r1, r2, r3⟩ := hrd j hj
   have hs1 := hst j k r3 hv.kle hsk (aYH hv (fun x hx => aA8 r1 x hx) (hv.okk (us := us) r1 r2))
   have hjo : ops[j]? = some ops[j] := List.getElem?_eq_getElem r3
   have hdo : aCw ops j = ops[j].dst := by simp [aCw, hjo]
   unfold aXo at hs1
   rw [hjo] at hs1
   obtain ⟨hg, hs1⟩ := hs1
   have hokO := hok ops[j] (List.getElem_mem r3)
   have hw : Region.wanted ops[j] (yielded ops.toArray a.tmps) = true := by simp [Region.wanted, hg]
   have eu : ues.getD j [] = (us.getD j []).map fun t => (t, look env t) := by
    rw [hue j r3]
    refine List.map_congr_left fun t ht => ?_
    rw [aKk.val hc hv t (fun i hi hdi => aA8 r1 i (hc.use j r3 t ht i hi hdi))]
   have hsimU := hsim.keep (us.getD j [])
   rw [← eu] at hsimU
   unfold wpOp
   simp only [List.getElem?_toArray, hjo]
   rw [if_pos hw]
   left
   refine aPf hF.env hΔ hsimU hokO hs1 (fun v h' c' u w' hvh ha => ?_) (fun p h' c' u w' hk hl hgd hr => hk c' a w' u ((hsimU.step hl hgd).keep []) hr)
   obtain ⟨hnl, hx, hh⟩ := hvh
   have hsim' := hsim.after hokO ha
   rw [hx, hh] at hsim'
   have hv' := hv.step hc r1 r2 r3 hlt
   rw [hdo] at hv'
   refine aS8 hF hΔ sb hc hok xs env0 hs ues hue stop hst keep hK n (j :: done) (listed.setIfInBounds j true) (by simp [hsz]) (fun k hk => ?_) (by simp; omega) (List.nodup_cons.2 ⟨r2, hd⟩) (fun k hk => ?_) _ _ hv' (fun hst => ?_) c' _ w' hsim'
   ·by_cases e : j = k
    ·subst e
     have : j < listed.size := by omega
     simp [this]
    ·rw [getD_set_ne false e, hl k hk]
     constructor
     ·intro h; exact List.mem_cons_of_mem _ h
     ·intro h; exact (List.mem_cons.1 h).resolve_left (fun e' => e e'.symm)
   ·rcases List.mem_cons.1 hk with rfl | hk
    ·exact r3
    ·exact hlt k hk
   ·have h1 := hsk hst
    cases he : eff.contains j with
    | false => exact h1
    | true =>
     show k + 1 < eff.length
     rw [hst, he] at hnl
     have : ¬ k + 1 = eff.length := fun e => by rw [e] at hnl; simp at hnl
     omega
def aXq (ops : List Oper) (eff : List Nat) (us : List (List Nat)) (pl : List (Nat × Nat)) (stop : Bool) : Bool :=
 aS4 ops && aXn ops eff && nodupB eff && aZY ops us && aZZ ops && eff.all (fun e => decide (e < ops.length)) && ((List.range ops.length).all fun i => (List.range (bif stop then eff.length else eff.length + 1)).all fun k => !aXp ops eff i k || pl.contains (i, k)) && (!stop || decide (0 < eff.length))
theorem aXr {ops : List Oper} {eff : List Nat} {us : List (List Nat)} {pl : List (Nat × Nat)} {stop : Bool} (h : aXq ops eff us pl stop = true) : aT4 ops eff us ∧ (∀ i k, i < ops.length → k ≤ eff.length → (stop = true → k < eff.length) → aXp ops eff i k = true → (i, k) ∈ pl) ∧ (stop = true → 0 < eff.length) := by
 simp only [aXq, Bool.and_eq_true] at h
 obtain ⟨⟨⟨⟨⟨⟨⟨h1, h2⟩, h3⟩, h4⟩, h5⟩, h6⟩, h7⟩, h8⟩ := h
 refine ⟨⟨h1, fun m hm h0 => ?_, aOA h3, fun m hm => ?_, fun j hj u hu i hi hd => ?_, fun i j t hi hj hd hd' => ?_⟩, fun i k hi hk hs ho => ?_, fun hs => by rw [hs] at h8; simpa using h8⟩
 ·have := List.all_eq_true.1 h2 m (List.mem_range.2 hm)
  simpa [h0] using this
 ·have := List.all_eq_true.1 h6 (eff.getD m 0) (by simp only [List.getD_eq_getElem?_getD, List.getElem?_eq_getElem hm, Option.getD_some]; exact List.getElem_mem hm)
  simpa using this
 ·have := List.all_eq_true.1 (List.all_eq_true.1 (List.all_eq_true.1 h4 j (List.mem_range.2 hj)) u hu) i (List.mem_range.2 hi)
  simpa [hd] using this
 ·have := List.all_eq_true.1 (List.all_eq_true.1 h5 i (List.mem_range.2 hi)) j (List.mem_range.2 hj)
  simpa [hd, hd'] using this
 ·have hkr : k < (bif stop then eff.length else eff.length + 1) := by
   cases hx : stop with
   | true => exact hs hx
   | false => exact Nat.lt_succ_of_le hk
  have := List.all_eq_true.1 (List.all_eq_true.1 h7 i (List.mem_range.2 hi)) k (List.mem_range.2 hkr)
  simpa [ho] using this
theorem qY {F : Fr} {Q : Exit → Act → World → Prop} {env : St} {h : List Obj} (hF : gD F) {Δ : FuncId → List AV → List Obj → Option Hit} (hΔ : aEw F.P F.E.G Δ) (sb : List Nat) {id : Nat} {ops : Array Oper} (keep : List Nat) (eff : List Nat) (us : List (List Nat)) (pl : List (Nat × Nat)) (xs : List AV) (hs : List (List Obj)) (ues : List St) (stop : Bool)
  (hb : aXq ops.toList eff us pl stop = true) (hue : (List.range ops.toList.length).map (fun j => (us.getD j []).map fun t => (t, aJv ops.toList xs env t)) = ues) (h0 : hs.getD 0 [] = h)
  (hst : aVa F Q Δ sb ops.toList ues xs hs eff stop pl) (hk : stop = false → At F (Q .normal) (keep.map fun t => (t, aJv ops.toList xs env t)) (hs.getD eff.length [])) : Tri F (.region id ops true) Q env h := fun hok c a w hsim => by
 simp only [iA, Bool.and_eq_true, Bool.or_eq_true, Bool.not_eq_true'] at hok
 obtain ⟨⟨h1, h2⟩, h3⟩ := hok
 obtain ⟨hc, hp, hs0⟩ := aXr hb
 refine wp_region_any hF.mix ?_
 have hlat : dZ c w c { w with drawn := w.drawn + 1 } := ⟨.refl _, fun b hb => rfl⟩
 have hdr : Sim F.E F.M F.w0 F.nt F.ds c env h a { w with drawn := w.drawn + 1 } :=
  ⟨hsim.good.step hlat rfl rfl ⟨rfl, rfl, rfl, Nat.le_refl _, fun _ _ _ => rfl⟩ (fun _ _ _ _ _ => rfl) hsim.good.sfin (fun _ hb => .inl hb), qM.mono (w := w) (w' := { w with drawn := w.drawn + 1 }) (fun _ hb => hb) hlat.same hsim.glob, hsim.env.keep hlat, hsim.size, hsim.defers⟩
 have := aS8 (Q := Q) hF hΔ sb hc (List.all_eq_true.1 h1) xs env hs ues (fun j hj => by rw [← hue, List.getD_eq_getElem?_getD, List.getElem?_map, List.getElem?_range hj]; rfl) stop (fun i k hi hk hs1 ho => aRs hst (i, k) (hp i k hi hk hs1 ho)) keep hk ops.toList.length [] (Array.replicate ops.size false) (by simp) (fun k hk => by rw [vH]; simp) (by simp) List.nodup_nil (fun k hk => by cases hk) 0 env
  ⟨Nat.zero_le _, fun m hm => by simp, fun i hi => (by cases hi), fun i hi => (by cases hi), fun t _ => rfl⟩ hs0 c a _ (by rw [h0]; exact hdr)
 simpa using this
attribute [go_sem] aVa aXo
def aFT : List Obj → Nat → (t : Ty) → t.den
 | .box _ (.val s x) :: _, 0, t => if e : s = t then e ▸ x else t.zero
 | _ :: h, i + 1, t => aFT h i t
 | _, _, t => t.zero
@[go_sem] theorem aZF {n : Nat} {t : Ty} {x : t.den} {h : List Obj} : aFT (.box n (.val t x) :: h) 0 t = x := by simp [aFT]
@[go_sem] theorem aY5 {o : Obj} {h : List Obj} {i : Nat} {t : Ty} : aFT (o :: h) (i + 1) t = aFT h i t := by
 cases o <;> try rfl
 rename_i n v
 cases v <;> rfl
def aXs : List (FuncId × (List Obj → Hit)) → FuncId → List AV → List Obj → Option Hit
 | [], _, _, _ => none
 | (k, t) :: r, f, vs, h => if k = f then some (t h) else aXs r f vs h
structure aLW (P : Program) (G : Nat → AV) (l : List (FuncId × (List Obj → Hit))) : Prop where
 ok : ∀ p ∈ l, (∀ h, GOK P G p.1 (p.2 h).sp) ∧ fnB P p.1 = true
theorem aLW.nil {P : Program} {G : Nat → AV} : aLW P G [] := ⟨fun p hp => by cases hp⟩
theorem aLW.cons {P : Program} {G : Nat → AV} {l : List (FuncId × (List Obj → Hit))} {f : FuncId} {t : List Obj → Hit} (h : ∀ x, GOK P G f (t x).sp) (hf : fnB P f = true) (hl : aLW P G l) : aLW P G ((f, t) :: l) := by
 refine ⟨fun p hp => ?_⟩
 rcases List.mem_cons.1 hp with rfl | hp
 ·exact ⟨h, hf⟩
 ·exact hl.ok p hp
theorem aPo : ∀ {l : List (FuncId × (List Obj → Hit))} {f : FuncId} {vs : List AV} {h : List Obj} {t : Hit}, aXs l f vs h = some t → ∃ s, (f, s) ∈ l ∧ t = s h
 | (k, s) :: r, f, vs, h, t, e => by
  simp only [aXs] at e
  split at e
  ·rename_i ek; subst ek; cases e; exact ⟨s, List.mem_cons_self, rfl⟩
  ·obtain ⟨u, h1, h2⟩ := aPo e
   exact ⟨u, List.mem_cons_of_mem _ h1, h2⟩
theorem aS9 {P : Program} {G : Nat → AV} {l : List (FuncId × (List Obj → Hit))} (h : aLW P G l) : aEw P G (aXs l) := by
 refine ⟨fun f vs hh t e => ?_, fun f vs hh t e => ?_⟩
 ·obtain ⟨s, h1, rfl⟩ := aPo e
  exact (h.ok _ h1).1 hh
 ·obtain ⟨s, h1, rfl⟩ := aPo e
  exact sO (h.ok _ h1).2
attribute [go_sem] aXs
end Go.Vc
namespace Go.Vc
open Go.RowKit
section
variable {P : Program} {T : Tab} {H : Type} {enc : TypeId × Value → H} {w : World} {spare : Nat → Bool} {held : Bool}
def aXt (k : IntKind) (ys : List Nat) : DataW H := .agg (ys.map fun (y : Nat) => .lit (.int k (y : Int)))
theorem aR0 : ∀ (cs : List Value), ((List.range cs.length).map fun i => (cs.drop i).take 1).flatten = cs := by
 intro cs
 have e : ((List.range cs.length).map fun i => (cs.drop i).take 1) = cs.map fun c => [c] := by
  apply List.ext_getElem
  ·simp
  ·intro i h1 h2
   simp only [List.length_map, List.length_range] at h1
   simp only [List.getElem_map, List.getElem_range]
   rw [List.drop_eq_getElem_cons h1]
   rfl
 rw [e]
 clear e
 induction cs with
 | nil => rfl
 | cons c cs ih => simp [ih]
theorem aYI {S : Nat → Prop} (hT : lD P T) {n : Nat} {t : TypeId} {m : Nat} {k : IntKind} {cs : List Value} {p : List MemPlace} {ys : List Nat} (ht : T t = some (.arr m (.u k)))
  (h : DataW.trod enc P w 0 spare held n t cs = some (aXt k ys, p)) : bE w S (.arr m (.u k)) ys cs := by
 obtain ⟨d, hd, hb⟩ := (hT _ _ ht).desc
 cases d <;> simp [iR] at hb
 obtain ⟨⟨⟨rfl, hb1⟩, hb2⟩, _⟩ := hb
 obtain ⟨xs, q, hq, hx, hlen, hxl, hf⟩ := DataW.trod_array hd h
 simp only [aXt, Prod.mk.injEq, DataW.agg.injEq] at hx
 rw [oL (hT _ _ ht)] at hlen
 rw [oL (hT _ _ hb1)] at hf
 have e1 : (Ty.u k).cells = 1 := rfl
 have e2 : (Ty.arr m (.u k)).cells = m := by show m * 1 = m; omega
 rw [e1] at hf
 rw [e2] at hlen
 have hyl : ys.length = m := by
  have := congrArg List.length hx.1
  simp only [List.length_map] at this
  omega
 obtain ⟨du, hdu, hbu⟩ := (hT _ _ hb1).desc
 cases du <;> simp [iR] at hbu
 obtain ⟨rfl, hs⟩ := hbu
 refine ⟨hyl, (List.range cs.length).map (fun i => (cs.drop i).take 1), (aR0 cs).symm, by simp; omega, fun i h1 h2 => ?_⟩
 have hi : i < m := by omega
 have h3 := hf i hi
 rw [Nat.mul_one, List.getElem?_eq_getElem (by omega)] at h3
 obtain ⟨v, g1, g2, g3⟩ := DataW.trod_int hdu h3
 simp only [List.getElem_map, List.getElem_range]
 have h4 : (xs.map (·.1))[i]? = (ys.map fun (y : Nat) => (DataW.lit (.int k (y : Int)) : DataW H))[i]? := by rw [hx.1]
 rw [List.getElem?_map, List.getElem?_map, List.getElem?_eq_getElem (by omega), List.getElem?_eq_getElem h1, g2] at h4
 simp only [Option.map_some, Option.some.injEq, DataW.lit.injEq, Lit.int.injEq, true_and] at h4
 rw [h4] at g1 g3
 simp only [Lit.wf, Bool.and_eq_true, decide_eq_true_eq] at g3
 exact ⟨g1, hs, g3.2⟩
theorem aXu {l : List (String × DataW Unit)} {n : String} {d : DataW Unit} (hm : (n, d) ∈ l) {ps : List MemPlace} (h : DataW.LaidVars P w l ps) :
  ∃ g t cs fuel p, P.globalNamed n = some g ∧ (P.globals[g]?).map (·.type) = some t ∧ w.var? P n = some cs ∧ DataW.trod (fun _ => ()) P w 0 (fun _ => true) false fuel t cs.toList = some (d, p) := by
 induction l generalizing ps with
 | nil => cases hm
 | cons x r ih =>
  obtain ⟨n', d'⟩ := x
  obtain ⟨g, t, cs, fuel, p, q, h1, h2, h3, h4, h5, _⟩ := h
  rcases List.mem_cons.1 hm with e | e
  ·cases e
   exact ⟨g, t, cs, fuel, p, h1, h2, h3, h4⟩
  ·exact ih e h5
theorem aTa (hT : lD P T) {l : List (String × DataW Unit)} (h : laidMet P l w) (n : String) (g : Nat) (t : TypeId) (m : Nat) (k : IntKind) (ys : List Nat) (hm : (n, aXt k ys) ∈ l) (hg : P.globalNamed n = some g)
  (ht : (P.globals[g]?).map (·.type) = some t) (hty : T t = some (.arr m (.u k))) (hm0 : 0 < m) : aX ⟨yJ w, fun _ => Go.undef, 0, fun _ _ => False⟩ w (.roa (.arr m (.u k)) ys) (.pointer (some ⟨g, 0, none⟩)) := by
 obtain ⟨ps, hv, _⟩ := h
 obtain ⟨g', t', cs, fuel, p, h1, h2, h3, h4⟩ := aXu hm hv
 obtain rfl := Option.some.inj (hg.symm.trans h1)
 obtain rfl := Option.some.inj (ht.symm.trans h2)
 have hr : bE w (yJ w) (.arr m (.u k)) ys cs.toList := aYI hT hty h4
 have hc : lN w g 0 cs.toList := fun j v hj => by
  have := World.var?_cell hg h3 j
  rw [Nat.zero_add, this]
  simpa using hj
 refine aDP ?_ hr hc
 have hl := bE.length _ _ _ hr
 have hl : cs.toList.length = m * 1 := hl
 have h0 : 0 < cs.toList.length := by omega
 exact aRY (hc 0 (cs.toList[0]'h0) (List.getElem?_eq_getElem h0))
end
end Go.Vc
namespace Go.Vc
open Go.RowKit
variable {H : Type} {enc : TypeId × Value → H}
theorem aQt {a : Assume} {C : Checked} {os : Os} {f : FuncId} {fn : Func} {s : ChangeSpec} {conds : List PathCond} {apart fresh handsOn again : Bool} {X : World → Array Value → Prop}
  (hX : ∀ (w w' : World) (args : Array Value), w.heap = w'.heap → X w args → X w' args)
  (own : ownKnob C.prog.godebug = none) (started : os.Started) (noInit : C.prog.inits.idxOf? f = none) (hfn : C.prog.funcs[f]? = some fn)
  (witness : ∃ (w : World) (tape : Tape) (i : Input), w.os = os ∧ (w.forCall tape i).Shaped C.prog ∧ i.vars = [] ∧ Input.okWide C.prog (w.forCall tape i) .any w.heap.size f i ∧
   ((s.pre enc C.prog fn conds apart (w.forCall tape i).memory i.args ∧ X (w.forCall tape i).memory i.args) ∧ sizedMet enc C.prog fn (OpenSpec.ofChange s) apart (w.forCall tape i).memory i.args) ∧ a.holds C.prog (lone (Frame.enter C.prog f i.args .normal) [] (w.forCall tape i)))
  (contract : ∀ (W : World) (base : Nat) (args : Array Value) (ds gs : List (DataW H)) (before : List MemPlace),
   (∀ (j : Nat) t v, fn.params[j]? = some t → args[j]? = some v → Value.okWide C.prog W .any base t v) →
   DataW.Whole enc C.prog fn.params.toList s.vars apart W args.toList ds gs before → X W args → W.ShapedOpen C.prog →
   Calls C.prog f args W fun e W' => ∃ v, e = .returned v ∧ s.post enc C.prog fn apart fresh handsOn again W args v W') :
  ReturnsInHanded a C os f .any (fun w args => (s.pre enc C.prog fn conds apart w args ∧ X w args) ∧ sizedMet enc C.prog fn (OpenSpec.ofChange s) apart w args) (s.post enc C.prog fn apart fresh handsOn again) := by
 refine returnsInHanded_of_calls own started noInit witness ?_
 intro w tape i _ hsh _ hok hpre hholds
 obtain ⟨_, _, _, fn', hfn', _, _, _, _, hval⟩ := hok
 obtain rfl : fn' = fn := Option.some.inj (hfn'.symm.trans hfn)
 obtain ⟨⟨⟨ds, gs, before, hw, hc⟩, hx⟩, hz⟩ := hpre
 have hw' := DataW.Whole.of_heap (w' := w.forCall tape i) (by rfl) hw
 refine (contract (w.forCall tape i) w.heap.size i.args ds gs before hval hw' (hX _ _ _ (by rfl) hx) hsh).mono fun e W' ⟨v, he, hp⟩ => ?_
 subst he
 exact ChangeSpec.post_blind hp
theorem aT5 {P : Program} {w : World} {g : Nat} {t : TypeId} {zero : Array Value} {k : IntKind}
  (h : w.ShapedOpen P) (hg : g < P.globals.size)
  (h0 : ((begin P (fun _ _ => 0) default).world.heap[g]?).bind Obj.row? = some (zero, t)) (hz : zero.size = 1)
  (hb : P.buildable t = true) (hc : P.cellTypes P.depth t = some [t]) (hu : P.underlying t = some (.int k)) (hs : k.signed = true) :
  ∃ m, aX ⟨yJ w, fun _ => Go.undef, 0, fun _ _ => False⟩ w (.roa (.i k) m) (.pointer (some ⟨g, 0, none⟩)) := by
 obtain ⟨cs, hh, hs', hr⟩ := h.1 g zero t hg h0
 obtain ⟨ts, hts, _, hall⟩ := hr hb
 rw [hc] at hts
 cases hts
 have h1 : 0 < cs.size := by omega
 obtain ⟨u, hu', hok⟩ := hall 0 cs[0] (by simp [h1])
 obtain rfl : u = t := by simpa using hu'.symm
 have hcell : w.cell? ⟨g, 0, none⟩ = some cs[0] := by simp [World.cell?, hh, h1]
 unfold Cell.ok at hok
 rw [hu] at hok
 cases hv : cs[0] <;> rw [hv] at hok <;> simp at hok
 case int k' n =>
  rw [hv] at hcell
  obtain ⟨rfl, hlo, hhi⟩ := hok
  have hc1 : lN w g 0 [.int k' n] := fun j v hj => by
   cases j with
   | zero => simp at hj; subst hj; exact hcell
   | succ j => simp at hj
  exact ⟨n, aDP (aRY (hc1 0 _ rfl)) ⟨rfl, hs, hlo, hhi⟩ hc1⟩
end Go.Vc
