import Derived.Test.YtabdejmolnikaaaDoorZL4
import Derived.ProofKit
import Derived.OpenShut
import Derived.Below
import Derived.Recover
import Derived.LaidMore
import Derived.LaidHandle
import Derived.MakeChecks
set_option linter.unusedVariables false
set_option linter.unusedSimpArgs false
namespace Go.Vc
open Go.RowKit
section
variable {P : Program} {E : Env} {M : Perm} {w0 : World} {c : Ctx} {h : List Obj} {w : World}
theorem Sim.step {nt : Nat} {ds : List Deferred} {env : St} {a : Act} (hs : Sim E M w0 nt ds c env h a w) {h' : List Obj} {c' : Ctx} {w' : World} (hl : Later c w c' w') (hg : Good M w0 c' h' w') : Sim E M w0 nt ds c' env h' a w' :=
  ⟨hg, hs.glob.mono hl.le.S hl.same, hs.env.keep hl, hs.size, hs.defers⟩
theorem view_ok (hT : TabOK P E.T) (hg : Good M w0 c h w) {t : TypeId} {x : AV} {v : Value} {lo hi : Option AV} {lv hv : Option Value} (hx : ValR c w x v) (hlo : OptR c w lo lv) (hhi : OptR c w hi hv) (hc : (viewAV E.T h t x lo hi).1) :
    ∃ u, (Instr.sliceAt t v lv hv none).run P w = .ok u w ∧ ValR c w (viewAV E.T h t x lo hi).2 u := by
  unfold viewAV at hc ⊢
  split at hc
  · rename_i i
    split at hc
    · rename_i e ct xs ho
      split at hc
      · rename_i l u hl hu
        obtain ⟨ht, h0, h1, h2⟩ := hc
        obtain ⟨hi', rfl⟩ := own_val hx
        obtain ⟨vals, ⟨_, hv'⟩, _⟩ := hg.objs i _ ho
        obtain ⟨e', hd, he, hpos⟩ := under_sl (hT _ _ ht)
        rcases hv' with ⟨_, hz⟩ | ⟨g, cap, cur, hv0, _, _, hle, hcap, _⟩
        · omega
        have hb : (Instr.sliceBounds true xs.length cap lv hv none).run P w = .ok (l.toNat, u.toNat, cap) w := by
          cases lo with
          | none =>
            cases lv with
            | some _ => cases hlo
            | none =>
              simp at hl
              subst hl
              cases hi with
              | none =>
                cases hv with
                | some _ => cases hhi
                | none =>
                  simp at hu
                  subst hu
                  simp [Instr.sliceBounds]
              | some ha =>
                cases hv with
                | none => cases hhi
                | some hv =>
                  simp at hu
                  obtain ⟨k, rfl⟩ := (by cases hhi with | some hh => exact ix_val hh hu : ∃ k, hv = Value.int k u)
                  simp [Instr.sliceBounds, run_bound (P := P) (w := w) (i := u) (y := cap) (by omega) (by omega)]
          | some la =>
            cases lv with
            | none => cases hlo
            | some lv =>
              simp at hl
              obtain ⟨k, rfl⟩ := (by cases hlo with | some hh => exact ix_val hh hl : ∃ k, lv = Value.int k l)
              cases hi with
              | none =>
                cases hv with
                | some _ => cases hhi
                | none =>
                  simp at hu
                  subst hu
                  simp [Instr.sliceBounds, run_bound (P := P) (w := w) (i := l) (y := xs.length) (by omega) (by omega)]
              | some ha =>
                cases hv with
                | none => cases hhi
                | some hv =>
                  simp at hu
                  obtain ⟨k', rfl⟩ := (by cases hhi with | some hh => exact ix_val hh hu : ∃ k, hv = Value.int k u)
                  simp [Instr.sliceBounds, run_bound (P := P) (w := w) (i := u) (y := cap) (by omega) (by omega), run_bound (P := P) (w := w) (i := l) (y := u.toNat) h0 (by omega)]
        have hne : ¬ cap = l.toNat := by omega
        refine ⟨.slice (some ⟨g, l.toNat * ct.cells, none⟩) (u.toNat - l.toNat) (cap - l.toNat), ?_, ?_⟩
        · rw [hv0]
          simp [Instr.sliceAt, Instr.slice, run_under hd, hb, run_size (hT _ _ he), hne, Addr.add]
          exact Eq.symm
        · refine ⟨?_, (fun h => by simp [AV.isAgg] at h), (fun _ cs => by simp)⟩
          simp only [CellsR]
          refine ⟨hi', by omega, g, cap - l.toNat, by rw [hv0]; rfl, ?_⟩
          simp [Value.cells]
          omega
      · exact hc.elim
    · exact hc.elim
  · rename_i i
    split at hc
    · rename_i m n ct xs ho
      split at hc
      · rename_i l u hl hu
        obtain ⟨ht, h0, h1, h2⟩ := hc
        obtain ⟨hi', b, hb', rfl⟩ := ptr_val hx
        obtain ⟨e', hd, he, hpos, hn1, hn2⟩ := under_arr (hT _ _ ht)
        have hb : (Instr.sliceBounds false n n lv hv none).run P w = .ok (l.toNat, u.toNat, n) w := by
          cases lo with
          | none =>
            cases lv with
            | some _ => cases hlo
            | none =>
              simp at hl
              subst hl
              cases hi with
              | none =>
                cases hv with
                | some _ => cases hhi
                | none =>
                  simp at hu
                  subst hu
                  simp [Instr.sliceBounds]
              | some ha =>
                cases hv with
                | none => cases hhi
                | some hv =>
                  simp at hu
                  obtain ⟨k, rfl⟩ := (by cases hhi with | some hh => exact ix_val hh hu : ∃ k, hv = Value.int k u)
                  simp [Instr.sliceBounds, run_bound (P := P) (w := w) (i := u) (y := n) (by omega) (by omega)]
          | some la =>
            cases lv with
            | none => cases hlo
            | some lv =>
              simp at hl
              obtain ⟨k, rfl⟩ := (by cases hlo with | some hh => exact ix_val hh hl : ∃ k, lv = Value.int k l)
              cases hi with
              | none =>
                cases hv with
                | some _ => cases hhi
                | none =>
                  simp at hu
                  subst hu
                  simp [Instr.sliceBounds, run_bound (P := P) (w := w) (i := l) (y := n) (by omega) (by omega)]
              | some ha =>
                cases hv with
                | none => cases hhi
                | some hv =>
                  simp at hu
                  obtain ⟨k', rfl⟩ := (by cases hhi with | some hh => exact ix_val hh hu : ∃ k, hv = Value.int k u)
                  simp [Instr.sliceBounds, run_bound (P := P) (w := w) (i := u) (y := n) (by omega) (by omega), run_bound (P := P) (w := w) (i := l) (y := u.toNat) h0 (by omega)]
        have hne : ¬ n = l.toNat := by omega
        refine ⟨.slice (some ⟨b, l.toNat * ct.cells, none⟩) (u.toNat - l.toNat) (n - l.toNat), ?_, ?_⟩
        · simp [Instr.sliceAt, Instr.sureAddr, run_under hd, hb, run_size (hT _ _ he), hne, Addr.add, offOf]
          exact Eq.symm
        · refine ⟨?_, (fun h => by simp [AV.isAgg] at h), (fun _ cs => by simp)⟩
          simp only [CellsR]
          refine ⟨hi', by simp only [maxLen]; omega, b, n - l.toNat, hb', ?_⟩
          simp [Value.cells]
          omega
      · exact hc.elim
    · exact hc.elim
  · exact hc.elim
theorem stepV_ok (hE : EnvOK P E) {sb : List Nat} {nt : Nat} {ds : List Deferred} {env : St} {a : Act} {o : Oper} (hs : Sim E M w0 nt ds c env h a w) (hok : okOper nt o = true) (hc : (stepV E sb env h o).1) : DidE P M w0 c o a w (stepV E sb env h o).2.2 (stepV E sb env h o).2.1 := by
  unfold stepV at hc ⊢
  split at hc
  · rename_i t x lo hi d hop hdst
    cases hsb : sb.contains d with
    | false =>
      simp only [hsb, cond_false] at hc ⊢
      exact step_ok hE hs hok hc
    | true =>
      simp only [hsb, cond_true] at hc ⊢
      simp only [okOper, Bool.and_eq_true] at hok
      have hall : ∀ x ∈ o.op.operands, okOperand x = true := Array.all_eq_true_iff_forall_mem.1 hok.1
      have hev : ∀ y ∈ o.op.operands, ValR c w (evA E.G env y) (a.eval y) := fun y hy => evA_ok hs.env hs.glob (hall y hy)
      rw [hop] at hev
      obtain ⟨u, hu, hr⟩ := view_ok (P := P) hE.T hs.good (hev x (by simp [Op.operands])) (opt_ok (o := lo) fun y hy => hev y (by simp [Op.operands, hy])) (opt_ok (o := hi) fun y hy => hev y (by simp [Op.operands, hy])) hc
      refine (Did.of_value (v := u) (h := h) hs.good ?_ hr).toE
      simp [execOp, hop, hu]
  · exact step_ok hE hs hok hc
theorem stepP_ok (hE : EnvOK P E) {sb : List Nat} {Δ : FuncId → List AV → List Obj → Option Hit} (hΔ : HitsOK P E.G Δ) {nt : Nat} {ds : List Deferred} {env : St} {a : Act} {o : Oper} (hs : Sim E M w0 nt ds c env h a w) (hok : okOper nt o = true) {k : AV → List Obj → Prop} {kp : Pan → List Obj → Prop} (hc : stepP E Δ sb env h o k kp)
    {next : Act → World → Prop} {Q : Exit → Act → World → Prop} (hn : ∀ v h' c' u w', k v h' → AfterE M w0 c w h' v u w' c' → next (a.put o.dst u) w') (hp : ∀ p h' c' u w', kp p h' → Later c w c' w' → Good M w0 c' h' w' → RepV w' c'.S p.t p.x u → Q (.panic (panE p.k u)) a w') : o.wp P a w next Q := by
  unfold stepP at hc
  cases hcal : calleeOf E.G env h o with
  | some fv =>
    obtain ⟨f, vs⟩ := fv
    simp only [hcal, hitOf, argsOf] at hc
    cases hd : Δ f vs h with
    | some t =>
      simp only [hd] at hc
      obtain ⟨h1, h2⟩ := hc
      obtain ⟨xs, q1, q2, q3⟩ := callee_ok hE hs hok hcal (hΔ.fn f vs h t hd)
      unfold Oper.wp
      rw [q1]
      refine Calls.mono (call_gok (hΔ.ok f vs h t hd) hs.good hs.glob q2 q3 h1) ?_
      rintro e w' ⟨cN, hl, hend⟩
      cases hout : t.sp.out t.d with
      | ret v h' =>
        rw [hout] at hend h2
        obtain ⟨u, rfl, hg, hv⟩ := hend
        exact hn _ _ cN u w' h2.2 ⟨hl, hg, hv h2.1⟩
      | pan p h' =>
        rw [hout] at hend h2
        obtain ⟨u, rfl, hg, hv⟩ := hend
        exact hp p _ cN u w' h2 hl hg hv
    | none =>
      simp only [hd] at hc
      cases hpo : panOf E.G env o with
      | some p =>
        simp only [hpo] at hc
        obtain ⟨u, q1, q2⟩ := pan_run (P := P) hs hok hpo
        unfold Oper.wp
        rw [q1]
        exact hp p h c u w hc (.refl _ _) hs.good q2
      | none =>
        simp only [hpo] at hc
        exact (stepV_ok hE hs hok hc.1).wp fun v w' c' ha => hn _ _ c' v w' hc.2 ha
  | none =>
    simp only [hcal, hitOf] at hc
    cases hpo : panOf E.G env o with
    | some p =>
      simp only [hpo] at hc
      obtain ⟨u, q1, q2⟩ := pan_run (P := P) hs hok hpo
      unfold Oper.wp
      rw [q1]
      exact hp p h c u w hc (.refl _ _) hs.good q2
    | none =>
      simp only [hpo] at hc
      exact (stepV_ok hE hs hok hc.1).wp fun v w' c' ha => hn _ _ c' v w' hc.2 ha
theorem seqP_ok (hE : EnvOK P E) {sb : List Nat} {Δ : FuncId → List AV → List Obj → Option Hit} (hΔ : HitsOK P E.G Δ) {ops : List Oper} {Q : Exit → Act → World → Prop} {nt : Nat} {ds : List Deferred} (hok : ∀ o ∈ ops, okOper nt o = true) {K : St → List Obj → Prop} {Kp : Pan → St → List Obj → Prop}
    (hK : ∀ env h c a w, K env h → Sim E M w0 nt ds c env h a w → Q .normal a w) (hKp : ∀ p env h c a w u, Kp p env h → Sim E M w0 nt ds c env h a w → RepV w c.S p.t p.x u → Q (.panic (panE p.k u)) a w) :
    ∀ (m i : Nat), i + m = ops.length → ∀ (env : St) (h : List Obj) (c : Ctx) (a : Act) (w : World), seqP E Δ sb ops (ops.drop i) env h K Kp → Sim E M w0 nt ds c env h a w → wpOps P ops.toArray Q (List.range' i m) a w
  | 0, i, hi, env, h, c, a, w, hs, hsim => by
    rw [List.drop_eq_nil_of_le (by omega)] at hs
    simp only [List.range'_zero, wpOps]
    exact hK env h c a w hs hsim
  | m + 1, i, hi, env, h, c, a, w, hs, hsim => by
    have hil : i < ops.length := by omega
    rw [List.drop_eq_getElem_cons hil] at hs
    have hokO := hok ops[i] (List.getElem_mem hil)
    have hput : ∀ (v : Value) (av : AV), ValR c w av v → Sim E M w0 nt ds c (putE ops[i].dst av env) h (a.put ops[i].dst v) w := fun v av hv => hsim.after hokO ⟨.refl _ _, hsim.good, hv⟩
    have hrun : stepP E Δ sb env h ops[i] (fun v h' => seqP E Δ sb ops (ops.drop (i + 1)) (putE ops[i].dst v env) h' K Kp) (fun p h' => Kp p env h') → Region.wanted ops[i] (yielded ops.toArray a.tmps) = true → wpOps P ops.toArray Q (List.range' i (m + 1)) a w := fun h1 hw => by
      rw [List.range'_succ]
      simp only [wpOps, List.getElem?_toArray, List.getElem?_eq_getElem hil, hw, if_true]
      left
      refine stepP_ok hE hΔ hsim hokO h1 (fun v h' c' u w' hk ha => ?_) (fun p h' c' u w' hk hl hg hr => hKp p env h' c' a w' u hk (hsim.step hl hg) hr)
      exact seqP_ok hE hΔ hok hK hKp m (i + 1) (by omega) _ _ c' _ w' hk (hsim.after hokO ha)
    have hskip : seqP E Δ sb ops (ops.drop (i + 1)) (putE ops[i].dst .undef env) h K Kp → Region.wanted ops[i] (yielded ops.toArray a.tmps) = false → wpOps P ops.toArray Q (List.range' i (m + 1)) a w := fun h2 hw => by
      rw [List.range'_succ]
      simp only [wpOps, List.getElem?_toArray, List.getElem?_eq_getElem hil, hw, Bool.false_eq_true, if_false]
      exact seqP_ok hE hΔ hok hK hKp m (i + 1) (by omega) _ _ c _ w h2 (hput _ _ rfl)
    simp only [seqP] at hs
    cases hgd : ops[i].guard with
    | none =>
      rw [hgd] at hs
      exact hrun hs (by simp [Region.wanted, hgd])
    | some jp =>
      obtain ⟨j, pol⟩ := jp
      rw [hgd] at hs
      simp only at hs
      cases hdj : dstAt ops j with
      | none => rw [hdj] at hs; exact hs.elim
      | some dj =>
        rw [hdj] at hs
        simp only at hs
        have hv := hsim.env dj
        split at hs
        · rename_i b hb
          rw [hb] at hv
          have hb' := openB hv
          have hy := dst_yield hok hsim.size hdj hb'
          simp only [yb] at hy
          by_cases e : b = pol
          · exact hrun (hs.1 e) (by simp [Region.wanted, hgd, hy, e])
          · have e' : b = !pol := by cases b <;> cases pol <;> simp_all
            exact hskip (hs.2 e') (by simp [Region.wanted, hgd, hy, e])
        · rename_i hb
          rw [hb] at hv
          have hy := dst_yield hok hsim.size hdj (v := Go.undef) hv
          exact hskip hs (by simp [Region.wanted, hgd, hy, Go.undef, yb])
        · exact hs.elim
theorem tri_regionP {F : Fr} {Q : Exit → Act → World → Prop} {env : St} {h : List Obj} (hF : FrOK F) {Δ : FuncId → List AV → List Obj → Option Hit} (hΔ : HitsOK F.P F.E.G Δ) {id : Nat} {ops : Array Oper} (keep sb : List Nat)
    (hv : seqP F.E Δ sb ops.toList ops.toList env h (fun env h => At F (Q .normal) (keep.map fun t => (t, look env t)) h) (fun p env h => AtP F Q p env h)) : Tri F (.region id ops false) Q env h := fun hok c a w hs => by
  simp only [okCode, Bool.and_eq_true, Bool.or_eq_true, Bool.not_eq_true'] at hok
  obtain ⟨⟨h1, h2⟩, h3⟩ := hok
  refine wp_region ?_
  have := seqP_ok (Q := Q) hF.env hΔ (List.all_eq_true.1 h1) (K := fun env h => At F (Q .normal) (keep.map fun t => (t, look env t)) h) (Kp := fun p env h => AtP F Q p env h) (fun env h c a w hk hs => hk c a w (hs.keep keep)) (fun p env h c a w u hk hs hr => hk c a w u hs hr) ops.toList.length 0 (by simp) env h c a w (by simpa using hv) hs
  simpa [List.range_eq_range'] using this
theorem atP_then {F : Fr} {K : Act → World → Prop} {Q : Exit → Act → World → Prop} {p : Pan} {env : St} {h : List Obj} (hq : AtP F Q p env h) : AtP F (Exit.then K Q) p env h := hq
theorem atP_block {F : Fr} {id : Nat} {Q : Exit → Act → World → Prop} {p : Pan} {env : St} {h : List Obj} (hq : AtP F Q p env h) : AtP F (Exit.inBlock id Q) p env h := hq
def argE : List AV → Nat → St
  | [], _ => []
  | v :: r, k => (k, v) :: argE r (k + 1)
theorem argE_ok {tmps : Array Value} : ∀ (us : List AV) (vs : List Value) (k : Nat), vs.length = us.length → (∀ i (h1 : i < us.length) (h2 : i < vs.length), ValR c w us[i] vs[i]) → (∀ i v, vs[i]? = some v → tmps.getD (k + i) Go.undef = v) → EnvR c w (argE us k) tmps
  | [], _, k, _, _, _ => fun t => trivial
  | u :: us, v :: vs, k, hl, hv, ht => by
    have h0 := hv 0 (by simp) (by simp)
    have t0 := ht 0 v (by simp)
    have rec_ := argE_ok us vs (k + 1) (by simpa using hl) (fun i h1 h2 => by have := hv (i + 1) (by simpa using h1) (by simpa using h2); simpa using this) (fun i x hx => by
      have := ht (i + 1) x (by simpa using hx)
      rw [show k + 1 + i = k + (i + 1) from by omega]; exact this)
    intro t
    simp only [argE, look]
    split
    · rename_i e
      subst e
      simp only [Nat.add_zero] at t0
      rw [t0]; exact h0
    · exact rec_ t
def AV.wfV : AV → Prop
  | .val t x => t.wf x
  | .full t xs => (Ty.sl t).wf xs
  | _ => True
def AV.wfL : List AV → Prop
  | [] => True
  | v :: r => v.wfV ∧ AV.wfL r
def Obj.wfV : Obj → Prop
  | .box _ (.agg vs) => AV.wfL vs
  | .box _ v => v.wfV
  | .row _ t xs => (Ty.arr xs.length t).wf xs ∧ xs.length ≤ maxLen
  | .frz t xs => (Ty.sl t).wf xs
  | _ => True
def Obj.wfL : List Obj → Prop
  | [] => True
  | o :: r => o.wfV ∧ Obj.wfL r
theorem cells_wf {v : AV} {cs : List Value} (hr : CellsR c w v cs) : v.wfV := by
  cases v <;> first | trivial | skip
  case val t x => exact RepC.wf t x cs hr
  case full t xs =>
    simp only [CellsR] at hr
    obtain ⟨a, n, e, hs⟩ := hr
    exact RepC.wf (.sl t) xs cs ⟨a, n, n, e, hs⟩
theorem agg_wf : ∀ {vs : List AV} {cs : List Value}, AggR c w vs cs → AV.wfL vs
  | [], _, _ => trivial
  | v :: r, _, ⟨c1, c2, e, h1, h2⟩ => ⟨cells_wf h1, agg_wf h2⟩
theorem val_wf {v : AV} {x : Value} (hr : ValR c w v x) : v.wfV := by
  cases v <;> first | trivial | exact cells_wf hr.1
theorem vals_wf : ∀ {us : List AV} {vs : List Value}, vs.length = us.length → (∀ i (h1 : i < us.length) (h2 : i < vs.length), ValR c w us[i] vs[i]) → AV.wfL us
  | [], _, _, _ => trivial
  | u :: us, v :: vs, hl, hv => ⟨val_wf (hv 0 (by simp) (by simp)), vals_wf (vs := vs) (by simpa using hl) (fun i h1 h2 => by have := hv (i + 1) (by simpa using h1) (by simpa using h2); simpa using this)⟩
theorem obj_wf {i : Nat} {o : Obj} (hr : ObjR c w i o) : o.wfV := by
  cases o with
  | dead => trivial
  | box n v =>
    obtain ⟨b, cells, e, _, _, _, h4⟩ := hr
    cases v <;> first | exact agg_wf h4 | exact cells_wf h4 | trivial
  | row e t xs =>
    obtain ⟨vals, h1, h2⟩ := hr
    refine ⟨RepC.wf _ _ _ h2, ?_⟩
    rcases h1.2 with ⟨_, h0⟩ | ⟨g, cap, cur, _, _, _, h3, h4, _⟩
    · rw [h0]; exact Nat.zero_le _
    · exact Nat.le_trans h3 h4
  | frz t xs => exact RepC.wf (.sl t) xs _ hr
  | map k v m => trivial
theorem objs_wf (hg : Good M w0 c h w) : Obj.wfL h := by
  have : ∀ (l : List Obj), (∀ o ∈ l, o.wfV) → Obj.wfL l := fun l => by
    induction l with
    | nil => intro _; trivial
    | cons o r ih => intro hl; exact ⟨hl o (by simp), ih fun x hx => hl x (by simp [hx])⟩
  refine this h fun o ho => ?_
  obtain ⟨i, hi, rfl⟩ := List.mem_iff_getElem.1 ho
  exact obj_wf (hg.objs i _ (List.getElem?_eq_getElem hi))
def resE (T : Tab) (h : List Obj) (env : St) : List ResultVar → Prop × List AV
  | [] => (True, [])
  | .tmp t :: r => ((resE T h env r).1, look env t :: (resE T h env r).2)
  | .cell a t :: r => ((loadAV T h t (look env a)).1 ∧ (resE T h env r).1, (loadAV T h t (look env a)).2 :: (resE T h env r).2)
theorem mapM_res (hT : TabOK P E.T) (hg : Good M w0 c h w) {env : St} {tmps : Array Value} (he : EnvR c w env tmps) {g : ResultVar → Sem Value} (hg1 : ∀ t, g (.tmp t) = pure (tmps.getD t Go.undef)) (hg2 : ∀ a t, g (.cell a t) = (do loadVar t (← asAddr (tmps.getD a Go.undef)))) : ∀ (l : List ResultVar), (resE E.T h env l).1 →
    ∃ us : List Value, (l.mapM g).run P w = .ok us w ∧ us.length = (resE E.T h env l).2.length ∧ ∀ i (h1 : i < (resE E.T h env l).2.length) (h2 : i < us.length), ValR c w (resE E.T h env l).2[i] us[i]
  | [], _ => ⟨[], by simp, rfl, fun i h1 => by simp [resE] at h1⟩
  | .tmp t :: r, hc => by
    simp only [resE] at hc ⊢
    obtain ⟨us, q1, q2, q3⟩ := mapM_res hT hg he hg1 hg2 r hc
    refine ⟨tmps.getD t Go.undef :: us, by simp only [List.mapM_cons, Sem.run_bind, hg1, Sem.run_pure, Result.andThen_ok, q1], by simp [q2], fun i h1 h2 => ?_⟩
    cases i with
    | zero => exact he t
    | succ i => exact q3 i (by simpa using h1) (by simpa using h2)
  | .cell a t :: r, hc => by
    simp only [resE] at hc ⊢
    obtain ⟨us, q1, q2, q3⟩ := mapM_res hT hg he hg1 hg2 r hc.2
    obtain ⟨u, hu, hr⟩ := load_ok (P := P) hT hg (he a) hc.1
    have hrun : (g (.cell a t)).run P w = .ok u w := by
      rw [hg2]
      have hv := he a
      generalize tmps.getD a Go.undef = v at hu hv
      simp only [Instr.loadAt, Sem.run_bind] at hu
      simp only [Sem.run_bind]
      have : ∃ ad, v = .pointer (some ad) := by
        cases v with
        | pointer p =>
          cases p with
          | some ad => exact ⟨ad, rfl⟩
          | none => simp [Instr.sureAddr, Result.andThen] at hu
        | _ => simp [Instr.sureAddr, Result.andThen] at hu
      obtain ⟨ad, rfl⟩ := this
      simpa [Instr.sureAddr, asAddr] using hu
    refine ⟨u :: us, by simp only [List.mapM_cons, Sem.run_bind, hrun, Sem.run_pure, Result.andThen_ok, q1], by simp [q2], fun i h1 h2 => ?_⟩
    cases i with
    | zero => exact hr
    | succ i => exact q3 i (by simpa using h1) (by simpa using h2)
theorem results_ok (hT : TabOK P E.T) (hg : Good M w0 c h w) {env : St} {tmps : Array Value} (he : EnvR c w env tmps) {fn : Func} {l : List ResultVar} (hr : fn.results = l.toArray) (hc : (resE E.T h env l).1) :
    ∃ us : List Value, (results fn tmps).run P w = .ok (packV us) w ∧ us.length = (resE E.T h env l).2.length ∧ ∀ i (h1 : i < (resE E.T h env l).2.length) (h2 : i < us.length), ValR c w (resE E.T h env l).2[i] us[i] := by
  unfold results
  rw [hr]
  simp only [Sem.run_bind]
  rw [List.mapM_toArray, Sem.run_map]
  generalize hm : (List.mapM _ l : Sem (List Value)) = mm
  have key : ∀ (g : ResultVar → Sem Value), (∀ t, g (.tmp t) = pure (tmps.getD t Go.undef)) → (∀ a t, g (.cell a t) = (do loadVar t (← asAddr (tmps.getD a Go.undef)))) → List.mapM g l = mm →
      ∃ us : List Value, mm.run P w = .ok us w ∧ us.length = (resE E.T h env l).2.length ∧ ∀ i (h1 : i < (resE E.T h env l).2.length) (h2 : i < us.length), ValR c w (resE E.T h env l).2[i] us[i] := fun g hg1 hg2 e => by
    subst e; exact mapM_res (P := P) hT hg he hg1 hg2 l hc
  obtain ⟨us, q1, q2, q3⟩ := key _ (fun t => rfl) (fun a t => rfl) hm
  refine ⟨us, ?_, q2, q3⟩
  rw [q1]
  simp only [Result.andThen_ok, Sem.run_pure]
  congr 1
  match us with
  | [] => rfl
  | [v] => rfl
  | a :: b :: r =>
    rw [dif_neg (by simp)]
    rfl
def fitT (h : List Obj) : List AV → List AV → Prop
  | [], [] => True
  | v :: r, u :: r' => (fitV h v u ∧ noJunk u = true) ∧ fitT h r r'
  | _, _ => False
def retV (h : List Obj) : AV → List AV → Prop
  | .tup vs, us => us.length ≠ 1 ∧ fitT h us vs
  | v, [u] => fitV h u v
  | _, _ => False
theorem fitT_ok (hg : Good M w0 c h w) : ∀ {us vs : List AV} {xs : List Value}, fitT h us vs → xs.length = us.length → (∀ i (h1 : i < us.length) (h2 : i < xs.length), ValR c w us[i] xs[i]) → xs.length = vs.length ∧ ∀ i (h1 : i < vs.length) (h2 : i < xs.length), ValR c w vs[i] xs[i] ∧ noJunk vs[i] = true
  | [], [], [], _, _, _ => ⟨rfl, fun i h1 => by simp at h1⟩
  | u :: us, v :: vs, x :: xs, hf, hl, hv => by
    obtain ⟨⟨h1, hj⟩, h2⟩ := hf
    obtain ⟨q1, q2⟩ := fitT_ok hg h2 (xs := xs) (by simpa using hl) (fun i h1 h2 => by have := hv (i + 1) (by simpa using h1) (by simpa using h2); simpa using this)
    refine ⟨by simp [q1], fun i k1 k2 => ?_⟩
    cases i with
    | zero => exact ⟨fitV_ok hg h1 (hv 0 (by simp) (by simp)), hj⟩
    | succ i => exact q2 i (by simpa using k1) (by simpa using k2)
theorem val1_of {v : AV} {x : Value} (hv : ValR c w v x) (hj : noJunk v = true) (ht : ∀ vs, v ≠ .tup vs) (hu : v ≠ .undef) : ValR1 c w v x := by
  cases v <;> first | exact hv | (simp [noJunk] at hj; done) | exact absurd rfl (ht _) | exact absurd rfl hu
def flatB : AV → Bool
  | .tup _ => false
  | .undef => false
  | _ => true
theorem at_retG {F : Fr} {fn : Func} {sp : GSpec} {c0 : Ctx} {d : sp.D} {env : St} {h h' : List Obj} {v : AV} (hF : FrOK F) (l : List ResultVar) (hM : F.M = GM sp c0 d) (hds : F.ds = []) (hr : fn.results = l.toArray) (hout : sp.out d = .ret v h') (hh : h = h') (hfl : (match v with | .tup vs => vs.all flatB | _ => true) = true) (hy : (resE F.E.T h env l).1 ∧ retV h v (resE F.E.T h env l).2) :
    At F (bodyPost F.P fn (GEnd sp c0 F.w0 d) .ret) env h := fun c a w hs => by
  subst hh
  obtain ⟨us, q1, q2, q3⟩ := results_ok (P := F.P) hF.env.T hs.good hs.env hr hy.1
  refine ⟨hs.defers.trans hds, packV us, q1, c, ?_⟩
  rw [hout]
  refine ⟨packV us, rfl, by rw [← hM]; exact hs.good, ?_⟩
  have hy2 := hy.2
  generalize (resE F.E.T h env l).2 = rs at q2 q3 hy2
  cases v with
  | tup vs =>
    obtain ⟨h1, h2⟩ := hy2
    obtain ⟨k1, k2⟩ := fitT_ok hs.good h2 q2 q3
    refine ⟨us, ?_, k1, fun i p1 p2 => ?_⟩
    · match us, q2 with
      | [], _ => rfl
      | [x], q2 => exact absurd q2.symm h1
      | a :: b :: r, _ => rfl
    · have hfi := List.all_eq_true.1 hfl vs[i] (List.getElem_mem p1)
      exact val1_of (k2 i p1 p2).1 (k2 i p1 p2).2 (fun l e => by rw [e] at hfi; cases hfi) (fun e => by rw [e] at hfi; cases hfi)
  | _ =>
    match rs, hy2 with
    | [u], hy2 =>
      match us, q2 with
      | [x], _ => exact fitV_ok hs.good hy2 (q3 0 (by simp) (by simp))
theorem at_panG {F : Fr} {fn : Func} {sp : GSpec} {c0 : Ctx} {d : sp.D} {env : St} {h h' : List Obj} {p : Pan} (hM : F.M = GM sp c0 d) (hds : F.ds = []) (hout : sp.out d = .pan p h') (hh : h = h') :
    AtP F (bodyPost F.P fn (GEnd sp c0 F.w0 d)) p env h := fun c a w u hs hr => by
  subst hh
  refine ⟨hs.defers.trans hds, c, ?_⟩
  rw [hout]
  exact ⟨u, rfl, by rw [← hM]; exact hs.good, hr⟩
theorem atP_ren {F : Fr} {Q : Exit → Act → World → Prop} {p : Pan} {env : St} {h : List Obj} (σ : List Nat) (hd : nodupB σ = true) (hp : preB F.M.m σ = true) (hk : AtP F Q p (env.map fun q => (q.1, ren σ q.2)) (σ.map fun i => renO σ (h.getD i .dead))) : AtP F Q p env h := fun c a w u hs hr =>
  hk (c.ren σ) a w u ⟨hs.good.ren hd hp, hs.glob, fun t => by rw [look_map (ren σ) rfl]; exact ren_val (hs.env t), hs.size, hs.defers⟩ hr
end
end Go.Vc
namespace Go.Vc
attribute [go_sem] Int.toNat_natCast vcA opA pv lookA pickA evA entAt entOf gpOf gpHolds guardOK
attribute [go_sem] prefB isBoolAV boolAV constAV constAV1 normT outK outV Go.Vc.look loadAV binAV binI
attribute [go_sem] binU shU shI modK binB binS unAV convAV ixAV faddrAV faddrAV.fldT fieldAV
attribute [go_sem] iaddrAV indexAV lenAV sliceAV extractAV nilCheckAV makeFuncAV callOpAV callAV buildAV buildSliceAV mmAV
attribute [go_sem] mm2 getP fieldOf Go.Vc.elemOf elemC List.all_cons List.all_nil Int.le_refl Nat.le_refl AV.solid AV.solid1 AV.nc
attribute [go_sem] AV.nc1 AV.isAgg Ty.isAgg Ty.cells Ty.zero fits64 List.map List.append List.length Option.map decide_true decide_false
attribute [go_sem] Bool.and_true Bool.true_and true_and and_true implies_true forall_const if_true if_false IntKind.signed Ty.den Nat.succ_ne_self ne_eq
attribute [go_sem] not_false_eq_true not_true_eq_false List.getElem?_nil look2 List.nil_append List.cons_append beq_self_eq_true Bool.and_self cond_true cond_false Bool.cond_true_left Bool.cond_false_right
attribute [go_sem] seqB stepB effAV effCall frzFor freezeAll freeze thaw thaw1 storeAV appendAV appendZ
attribute [go_sem] isI64 nilAV convB Ty.isNil makeAV callOwn isOwn pickB putE dstAt setP setFld
attribute [go_sem] setElem explode pathB Ty.strB castL_self bound argsAV as_val as_nilS as_full as_own rowOf_eq
attribute [go_sem] frzAll Ty.scalar frzOnly resAV RK.ty AV.tags AV.tags1 List.flatMap_cons List.flatMap_nil List.getElem?_cons_zero List.getElem?_cons_succ List.set_cons_zero
attribute [go_sem] List.set_cons_succ List.length_cons List.length_nil Nat.zero_add tupAV List.getD_cons_zero List.getD_cons_succ dite_true Ty.okB Ty.byt IntKind.bits capsB
attribute [go_sem] allBox as_fn as_ptr as_roa as_agg as_unit tagOf allTags roaAll gt_iff_lt ge_iff_le List.length_replicate
attribute [go_sem] List.replicate_zero List.length_set rep_set1 rep_set2 rep_set3 maxLen_eq updO updE lookupAV mapT makeMapAV buildNone
attribute [go_sem] putAV Ty.keyB Ty.key1 Option.some.injEq exists_eq_left' List.append_nil decide_eq_true_eq decide_eq_false_iff_not Bool.or_eq_true Bool.or_eq_false_iff Bool.and_eq_true Int.not_lt
attribute [go_sem] Int.not_le Bool.not_eq_true' Bool.not_eq_false' allocsOf boxOf envOut pushAll List.take_succ_cons List.take_zero List.drop_succ_cons List.drop_zero zeroAV
attribute [go_sem] zerosF setF setE partsOK Ty.flds packAV fldV Ty.fieldOff listAV parse parse0 as_flat
attribute [go_sem] as_flat0 Option.getD_some Option.getD_none Bool.not_true Bool.not_false Bool.false_eq_true Bool.true_eq_false false_implies and_false false_and or_true true_or
attribute [go_sem] or_false false_or Bool.or_true Bool.or_false Bool.true_or Bool.false_or Bool.and_false Bool.false_and Option.isSome_some Option.isSome_none Int.reduceToNat Int.reduceLE
attribute [go_sem] Int.reduceLT Nat.reduceEqDiff Nat.reduceAdd Nat.reduceMul Nat.reduceLT Nat.reduceSub Nat.reduceLeDiff Nat.reduceDiv Nat.reduceMod Nat.reducePow Nat.reduceGT Int.reduceEq
attribute [go_sem] Int.reduceNe Int.reduceAdd Int.reduceSub Int.reduceNeg Int.reduceMul reduceIte reduceCtorEq
end Go.Vc
namespace Go.Vc
open Go.RowKit
def Ty.argB : Ty → Bool
  | .bool => true
  | .u _ => true
  | .i _ => true
  | .str => true
  | .sl t => t.argB
  | .unit => true
  | .pair a b => a.argB && b.argB
  | .arr _ t => t.argB
  | .expr => true
  | _ => false
section
variable {P : Program} {T : Tab} {H : Type} {enc : TypeId × Value → H} {w : World} {spare : Nat → Bool} {held : Bool}
theorem cellsOf_eq {t : TypeId} {c : Ty} (h : TyOK P T t c) : P.cellsOf t = c.cells := by
  obtain ⟨i, hi, hs, _⟩ := h.info
  simp [Program.cellsOf, hi, hs]
def Inside (w : World) : Nat → Prop := fun b => b < w.heap.size
theorem cells_get {a : Addr} {n : Nat} {ds : List Value} (h : w.cells? 0 a n = some ds) : ds.length = n ∧ ∀ j, j < n → w.cell? (a.add j) = ds[j]? := by
  unfold World.cells? at h
  rw [if_pos (Nat.zero_le _)] at h
  have hl := mapM_some_length h
  have hg := mapM_some_get h
  simp only [List.length_range] at hl
  exact ⟨hl, fun j hj => hg j j (by simp [hj])⟩
theorem cell_lt {b off : Nat} {v : Value} (h : w.cell? ⟨b, off, none⟩ = some v) : b < w.heap.size := by
  rcases Nat.lt_or_ge b w.heap.size with hl | hl
  · exact hl
  · simp [World.cell?, Array.getElem?_eq_none hl] at h
theorem add_at (a : Addr) (i j : Nat) (h : a.spot = none) : (a.add i).add j = ⟨a.block, a.off + i + j, none⟩ := by
  obtain ⟨b, o, s⟩ := a
  simp only at h
  subst h
  unfold Addr.add
  by_cases hi : i = 0 <;> by_cases hj : j = 0 <;> simp [hi, hj] <;> omega
theorem elems_of {sz : Nat} (hsz : 0 < sz) {α : Type} {R : α → List Value → Prop} {a : Addr} {len : Nat} (hel : ∀ i, i < len → ∃ ds x, w.cells? 0 (a.add (i * sz)) sz = some ds ∧ R x ds) :
    ∃ xs : List α, xs.length = len ∧ (xs = [] ∨ ∃ b off, some a = some ⟨b, off, none⟩ ∧ Inside w b ∧ ∀ i (h : i < xs.length), ∃ ds, R xs[i] ds ∧ cellsAt w b (off + i * sz) ds) := by
  classical
  by_cases h0 : len = 0
  · exact ⟨[], by simp [h0], .inl rfl⟩
  have hpos : 0 < len := by omega
  obtain ⟨ds0, x0, e0, _⟩ := hel 0 hpos
  have hsp : a.spot = none := by
    obtain ⟨hl, hg⟩ := cells_get e0
    have := hg 0 hsz
    have hd : (ds0)[0]? = some (ds0[0]'(by omega)) := List.getElem?_eq_getElem (by omega)
    rw [hd] at this
    have := World.cell?_spot this
    simpa [Addr.add] using this
  have hf : ∃ f : Nat → α, ∀ i, i < len → ∃ ds, w.cells? 0 (a.add (i * sz)) sz = some ds ∧ R (f i) ds := by
    refine ⟨fun i => if h : i < len then Classical.choose (Classical.choose_spec (hel i h)) else x0, fun i hi => ?_⟩
    simp only [dif_pos hi]
    exact ⟨Classical.choose (hel i hi), Classical.choose_spec (Classical.choose_spec (hel i hi))⟩
  obtain ⟨f, hf⟩ := hf
  have hcell : ∀ i, i < len → ∀ ds, w.cells? 0 (a.add (i * sz)) sz = some ds → cellsAt w a.block (a.off + i * sz) ds := fun i hi ds hds j v hj => by
    obtain ⟨hl, hg⟩ := cells_get hds
    have hjl : j < sz := by
      rcases Nat.lt_or_ge j sz with h | h
      · exact h
      · rw [List.getElem?_eq_none (by omega)] at hj; cases hj
    have := hg j hjl
    rw [add_at a _ j hsp, hj] at this
    exact this
  refine ⟨(List.range len).map f, by simp, .inr ⟨a.block, a.off, ?_, ?_, fun i hi => ?_⟩⟩
  · obtain ⟨b, o, s⟩ := a; simp only at hsp; subst hsp; rfl
  · obtain ⟨ds, hds, _⟩ := hf 0 hpos
    have := hcell 0 hpos ds hds 0 (ds[0]'(by rw [(cells_get hds).1]; exact hsz)) (List.getElem?_eq_getElem _)
    exact cell_lt this
  · simp only [List.length_map, List.length_range] at hi
    obtain ⟨ds, hds, hR⟩ := hf i hi
    exact ⟨ds, by simpa using hR, hcell i hi ds hds⟩
theorem rep_fields {n : Nat} (ih : ∀ (t : TypeId) (c : Ty) (cs : List Value) (x : DataW H × List MemPlace), T t = some c → c.argB = true → DataW.trod enc P w 0 spare held n t cs = some x → ∃ y, RepC w (Inside w) c y cs) (hT : TabOK P T) (cs : List Value) :
    ∀ (fs : List Field) (off : Nat) (c : Ty), fieldsB T fs off c = true → c.argB = true → (cs.drop off).length = c.cells → (∀ f ∈ fs, ∃ x, DataW.trod enc P w 0 spare held n f.type ((cs.drop f.offset).take (P.cellsOf f.type)) = some x) → ∃ y, RepC w (Inside w) c y (cs.drop off)
  | [], off, c, hf, ha, hl, _ => by
    cases c <;> simp [fieldsB] at hf
    exact ⟨(), List.eq_nil_of_length_eq_zero hl⟩
  | f :: fs, off, c, hf, ha, hl, hx => by
    cases c <;> simp only [fieldsB, Bool.false_eq_true] at hf
    case pair a b =>
      simp only [Bool.and_eq_true, decide_eq_true_eq] at hf
      obtain ⟨⟨⟨⟨h1, h2⟩, h3⟩, h4⟩, h5⟩ := hf
      simp only [Ty.argB, Bool.and_eq_true] at ha
      obtain ⟨x, hx0⟩ := hx f (by simp)
      rw [cellsOf_eq (hT _ _ h1), h2] at hx0
      obtain ⟨y1, r1⟩ := ih _ _ _ _ h1 ha.1 hx0
      simp only [Ty.cells] at hl
      obtain ⟨y2, r2⟩ := rep_fields ih hT cs fs (off + a.cells) b h5 ha.2 (by simp only [List.length_drop] at hl ⊢; omega) (fun g hg => hx g (by simp [hg]))
      refine ⟨(y1, y2), (cs.drop off).take a.cells, cs.drop (off + a.cells), ?_, r1, r2⟩
      rw [← List.drop_drop, List.take_append_drop]
theorem rep_of_trod (hT : TabOK P T) : ∀ (n : Nat) (t : TypeId) (c : Ty) (cs : List Value) (x : DataW H × List MemPlace), T t = some c → c.argB = true → DataW.trod enc P w 0 spare held n t cs = some x → ∃ y, RepC w (Inside w) c y cs := by
  intro n
  induction n with
  | zero => intro t c cs x _ _ h; simp [DataW.trod] at h
  | succ n ih =>
    intro t c cs x ht ha h
    obtain ⟨d, hd, hb⟩ := (hT _ _ ht).desc
    cases c with
    | bool =>
      cases d <;> simp [descB] at hb
      obtain ⟨b, e, _⟩ := DataW.trod_bool hd h
      exact ⟨b, e⟩
    | u k =>
      cases d <;> simp [descB] at hb
      rename_i k'
      obtain ⟨rfl, hb⟩ := hb
      obtain ⟨m, e, _, hw⟩ := DataW.trod_int hd h
      simp only [Lit.wf, Bool.and_eq_true, decide_eq_true_eq] at hw
      have hmin : IntKind.min k = 0 := by cases k <;> first | rfl | (simp [IntKind.signed] at hb; done)
      have hm : ((m.toNat : Nat) : Int) = m := Int.toNat_of_nonneg (by omega)
      exact ⟨m.toNat, by rw [hm]; exact e, hb, by rw [hm]; exact hw.2⟩
    | i k =>
      cases d <;> simp [descB] at hb
      rename_i k'
      obtain ⟨rfl, hb⟩ := hb
      obtain ⟨m, e, _, hw⟩ := DataW.trod_int hd h
      simp only [Lit.wf, Bool.and_eq_true, decide_eq_true_eq] at hw
      exact ⟨m, e, hb, hw.1, hw.2⟩
    | str =>
      cases d <;> simp [descB] at hb
      obtain ⟨s, e, _, hs⟩ := DataW.trod_string hd h
      exact ⟨strL s, s, e, rfl, hs⟩
    | sl t1 =>
      cases d <;> simp [descB] at hb
      obtain ⟨hb1, hb2⟩ := hb
      rcases DataW.trod_slice hd h with ⟨rfl, _⟩ | ⟨a, len, cap, elems, rest, m, hm, rfl, _, _, hl, hc, hlen, hel, _⟩
      · exact ⟨[], none, 0, 0, rfl, rfl, Nat.le_refl _, Nat.zero_le _, .inl rfl⟩
      · cases hm
        rw [cellsOf_eq (hT _ _ hb1)] at hel
        obtain ⟨xs, h1, h2⟩ := elems_of (w := w) hb2 (R := RepC w (Inside w) t1) (a := a) (len := len) (fun i hi => by
          have := hel i hi
          rw [List.getElem?_eq_getElem (by omega)] at this
          obtain ⟨ds, hds, hx⟩ := Option.bind_eq_some_iff.1 this
          obtain ⟨y, hy⟩ := ih _ _ _ _ hb1 ha hx
          exact ⟨ds, y, hds, hy⟩)
        exact ⟨xs, some a, len, cap, rfl, h1, hl, hc, h2⟩
    | unit =>
      cases d <;> simp [descB] at hb
      rename_i fs
      obtain ⟨xs, m, _, _, hlen, _⟩ := DataW.trod_struct hd h
      rw [cellsOf_eq (hT _ _ ht)] at hlen
      exact ⟨(), List.eq_nil_of_length_eq_zero hlen⟩
    | pair a b =>
      cases d <;> simp [descB] at hb
      rename_i fs
      obtain ⟨xs, m, hm, _, hlen, hxl, hf⟩ := DataW.trod_struct hd h
      cases hm
      rw [cellsOf_eq (hT _ _ ht)] at hlen
      have := rep_fields ih hT cs fs.toList 0 (.pair a b) hb ha (by simpa using hlen) (fun f hf' => by
        obtain ⟨i, hi, rfl⟩ := List.mem_iff_getElem.1 hf'
        have hi' : i < fs.size := by simpa using hi
        have := hf i fs[i] (Array.getElem?_eq_getElem hi')
        rw [List.getElem?_eq_getElem (by omega)] at this
        exact ⟨_, by simpa using this⟩)
      simpa using this
    | arr m t1 =>
      cases d <;> simp [descB] at hb
      obtain ⟨⟨⟨rfl, hb1⟩, hb2⟩, _⟩ := hb
      obtain ⟨xs, q, hq, _, hlen, hxl, hf⟩ := DataW.trod_array hd h
      cases hq
      rw [cellsOf_eq (hT _ _ ht)] at hlen
      rw [cellsOf_eq (hT _ _ hb1)] at hf
      have hall : ∀ i, i < m → ∃ y, RepC w (Inside w) t1 y ((cs.drop (i * t1.cells)).take t1.cells) := fun i hi => by
        have := hf i hi
        rw [List.getElem?_eq_getElem (by omega)] at this
        exact ih _ _ _ _ hb1 ha this
      classical
      have hfun : ∃ f : Nat → t1.den, ∀ i, i < m → RepC w (Inside w) t1 (f i) ((cs.drop (i * t1.cells)).take t1.cells) := by
        refine ⟨fun i => if h : i < m then Classical.choose (hall i h) else t1.zero, fun i hi => ?_⟩
        simp only [dif_pos hi]
        exact Classical.choose_spec (hall i hi)
      obtain ⟨f, hfun⟩ := hfun
      refine ⟨(List.range m).map f, by simp, (List.range m).map fun i => (cs.drop (i * t1.cells)).take t1.cells, ?_, by simp, fun i h1 h2 => ?_⟩
      · have : ∀ (k : Nat) (l : List Value), l.length = k * t1.cells → l = ((List.range k).map fun i => (l.drop (i * t1.cells)).take t1.cells).flatten := by
          intro k
          induction k with
          | zero => intro l hl; simp at hl; simp [hl]
          | succ k ihk =>
            intro l hl
            rw [List.range_succ, List.map_append, List.flatten_append]
            have h1 := ihk (l.take (k * t1.cells)) (by simp [hl, Nat.add_mul])
            have h2 : ((List.range k).map fun i => ((l.take (k * t1.cells)).drop (i * t1.cells)).take t1.cells) = ((List.range k).map fun i => (l.drop (i * t1.cells)).take t1.cells) := by
              apply List.map_congr_left
              intro i hi
              have hik : i < k := List.mem_range.1 hi
              rw [List.drop_take, List.take_take]
              congr 1
              have : (i + 1) * t1.cells ≤ k * t1.cells := Nat.mul_le_mul_right _ hik
              rw [Nat.add_mul] at this
              omega
            rw [h2] at h1
            rw [← h1]
            simp only [List.map_cons, List.map_nil, List.flatten_cons, List.flatten_nil, List.append_nil]
            rw [List.take_of_length_le (l := l.drop (k * t1.cells)) (by simp [hl, Nat.add_mul]), List.take_append_drop]
        exact this m cs hlen
      · simp only [List.length_map, List.length_range] at h1
        simpa using hfun i h1
    | expr =>
      cases d <;> simp [descB] at hb
      rename_i fs
      obtain ⟨xs, m, hm, _, hlen, hxl, hf⟩ := DataW.trod_struct hd h
      cases hm
      rw [cellsOf_eq (hT _ _ ht)] at hlen
      have hfs : ∃ f0 f1 f2, fs.toList = [f0, f1, f2] ∧ (T f0.type = some (.i .i64) ∧ f0.offset = 0 ∧ T f1.type = some .str ∧ f1.offset = 1 ∧ T f2.type = some (.sl .expr) ∧ f2.offset = 2) := by
        unfold exprB at hb
        split at hb
        · rename_i f0 f1 f2 hfs
          simp only [Bool.and_eq_true, decide_eq_true_eq] at hb
          exact ⟨f0, f1, f2, hfs, hb.1.1.1.1.1, hb.1.1.1.1.2, hb.1.1.1.2, hb.1.1.2, hb.1.2, hb.2⟩
        · cases hb
      obtain ⟨f0, f1, f2, hfs, t0, o0, t1, o1, t2, o2⟩ := hfs
      have hget : ∀ (i : Nat) (f : Field), fs.toList[i]? = some f → ∃ x, DataW.trod enc P w 0 spare held n f.type ((cs.drop f.offset).take (P.cellsOf f.type)) = some x := fun i f hi => by
        have hi' : fs[i]? = some f := by simpa using hi
        have := hf i f hi'
        have hil : i < fs.size := by
          rcases Nat.lt_or_ge i fs.size with h | h
          · exact h
          · rw [Array.getElem?_eq_none h] at hi'; cases hi'
        rw [List.getElem?_eq_getElem (by omega)] at this
        exact ⟨_, this⟩
      obtain ⟨x0, h0⟩ := hget 0 f0 (by rw [hfs]; rfl)
      obtain ⟨x1, h1⟩ := hget 1 f1 (by rw [hfs]; rfl)
      obtain ⟨x2, h2⟩ := hget 2 f2 (by rw [hfs]; rfl)
      rw [cellsOf_eq (hT _ _ t0), o0] at h0
      rw [cellsOf_eq (hT _ _ t1), o1] at h1
      rw [cellsOf_eq (hT _ _ t2), o2] at h2
      obtain ⟨y0, r0⟩ := ih _ _ _ _ t0 rfl h0
      obtain ⟨y1, r1⟩ := ih _ _ _ _ t1 rfl h1
      obtain ⟨y2, r2⟩ := ih _ _ _ _ t2 rfl h2
      match cs, hlen with
      | [c0, c1, c2], _ =>
        simp only [Ty.cells, List.drop_zero, List.drop_succ_cons, List.take_succ_cons, List.take_zero] at r0 r1 r2
        obtain ⟨e0, _, b1, b2⟩ := r0
        obtain ⟨s, e1, rfl, hs⟩ := r1
        obtain ⟨a, len, cap, e2, hl1, hl2, hl3, hl4⟩ := r2
        simp only [List.cons.injEq, and_true] at e0 e1 e2
        subst e0; subst e1; subst e2
        classical
        refine ⟨.mk y0 (strL s) y2, ?_⟩
        rcases hl4 with rfl | ⟨b, off, ha, hb, hel⟩
        · exact RepEx.mk y0 s [] a len cap (fun _ => []) ⟨b1, b2⟩ hs hl1 hl2 hl3 (fun i h => by simp at h) (.inl rfl)
        · refine RepEx.mk y0 s y2 a len cap (fun i => if h : i < List.length y2 then Classical.choose (hel i h) else []) ⟨b1, b2⟩ hs hl1 hl2 hl3 (fun i h => ?_) (.inr ⟨b, off, ha, hb, fun i h => ?_⟩)
          · simp only [dif_pos h]; exact (Classical.choose_spec (hel i h)).1
          · simp only [dif_pos h]; exact (Classical.choose_spec (hel i h)).2
    | rp t1 => simp [Ty.argB] at ha
    | clo g t1 => simp [Ty.argB] at ha
    | ifc k t1 => simp [Ty.argB] at ha
    | nili => simp [Ty.argB] at ha
theorem repV_of (hT : TabOK P T) {t : TypeId} {c : Ty} {r : Reach} {base : Nat} {v : Value} {d : DataW H} {ps : List MemPlace} (ht : T t = some c) (ha : c.argB = true) (hw : Value.okWide P w r base t v) (h : DataW.Trod enc P w 0 spare held t v d ps) : ∃ y, RepV w (Inside w) c y v := by
  obtain ⟨n, hn⟩ := h
  obtain ⟨y, hy⟩ := rep_of_trod hT n t c _ _ ht ha hn
  refine ⟨y, RepV.of_cells (fun hag => ?_) (fun hna => ?_) hy⟩
  · obtain ⟨d, hd, hb⟩ := (hT _ _ ht).desc
    unfold Value.okWide at hw
    rw [hd] at hw
    cases c <;> simp [Ty.isAgg] at hag
    all_goals (cases d <;> first | (simp [descB] at hb; done) | skip)
    all_goals (obtain ⟨cs, rfl, _⟩ := hw; exact ⟨cs, rfl⟩)
  · intro cs e
    subst e
    obtain ⟨d, hd, hb⟩ := (hT _ _ ht).desc
    unfold Value.okWide at hw
    rw [hd] at hw
    cases c <;> simp [Ty.isAgg] at hna
    all_goals (cases d <;> first | (simp [descB] at hb; done) | skip)
    all_goals (simp [Cell.okWide, Cell.ok, hd] at hw)
def tysB (T : Tab) : Ty → List TypeId → Bool
  | .unit, [] => true
  | .pair a r, t :: ts => decide (T t = some a) && a.argB && tysB T r ts
  | _, _ => false
theorem args_of (hT : TabOK P T) {r : Reach} {base : Nat} : ∀ (c : Ty) (ts : List TypeId) (vs : List Value) (ds : List (DataW H)) (ps : List MemPlace), tysB T c ts = true → DataW.TrodAll enc P w 0 spare held ts vs ds ps → (∀ (j : Nat) t v, ts[j]? = some t → vs[j]? = some v → Value.okWide P w r base t v) → ∃ x, ArgsR w (Inside w) c x vs
  | .unit, [], vs, ds, ps, _, h, _ => by
    cases vs <;> cases ds <;> simp [DataW.TrodAll] at h
    exact ⟨(), rfl⟩
  | .pair a c, t :: ts, vs, ds, ps, hb, h, hw => by
    simp only [tysB, Bool.and_eq_true, decide_eq_true_eq] at hb
    cases vs <;> cases ds <;> simp only [DataW.TrodAll] at h
    rename_i v vs d ds
    obtain ⟨p, q, h1, h2, _⟩ := h
    obtain ⟨y, hy⟩ := repV_of hT hb.1.1 hb.1.2 (hw 0 t v rfl rfl) h1
    obtain ⟨x, hx⟩ := args_of hT c ts vs ds q hb.2 h2 (fun j t' v' e1 e2 => hw (j + 1) t' v' (by simpa using e1) (by simpa using e2))
    exact ⟨(y, x), v, vs, rfl, hy, hx⟩
end
end Go.Vc
namespace Go.Vc
attribute [go_sem] stepV viewAV List.contains_cons List.contains_nil seqP stepP hitOf argsOf calleeOf panOf outG_ret outG_pan
attribute [go_sem] outG_ite hitOK argFit ltAll nodupB embB noJunk emb emb0 emb1 embL embO
attribute [go_sem] embH muOf killAll putAll ren ren1 renO posOf posAll resE fitT fitV
attribute [go_sem] retV flatB argE AV.wfL AV.wfV Obj.wfL Obj.wfV List.all_cons List.all_nil List.range'_zero List.range'_succ List.zip_cons_cons
attribute [go_sem] List.zip_nil_left List.zip_nil_right List.drop_nil List.take_nil List.map_cons List.map_nil ifcAV assertAV
end Go.Vc
namespace Go.Vc
open Go.RowKit
section
variable {P : Program} {E : Env} {M : Perm} {w0 : World} {c : Ctx} {h : List Obj} {w : World}
def postD (P : Program) (fn : Func) (S : Nat → Prop) (w0 : World) (r : RK) (y : r.ty.den) : Exit → Act → World → Prop :=
  bodyPostD P fn fun e w' => ∃ v, e = .returned v ∧ Keeps nothing w0 w' ∧ ResR w' S w0.heap.size r y v
theorem fokD_of {f : FuncId} {fn : Func} {body : Code} {sp : FSpec} (hE : EnvOK P E) (hf : P.funcs[f]? = some fn) (hb : fn.body = some body) (hok : okCode fn.ntmps body = true) (hn : nargs sp.args ≤ fn.ntmps)
    (ht : ∀ (w0 : World) (S : Nat → Prop) (x : sp.args.den), sp.args.wf x → sp.pre x → Tri (fr P E S w0 fn.ntmps) body (postD P fn S w0 sp.res (sp.fn x)) (args0 sp.args x 0) []) : FOK P E.G f sp := by
  intro w S vs x hS hG ha hp
  refine calls_of_wp_defers hf hb ?_
  refine ht w S x (args_wf _ _ _ ha) hp hok ⟨S, fun _ => Go.undef, 0⟩ _ w ⟨⟨rfl, .refl _ _, hS, fun b hb _ => .inl hb, fun i o ho => by simp at ho, fun i o b ho => by simp at ho, fun i j oi oj b hi => by simp at hi, ⟨Nat.le_refl _, fun i hi => absurd hi (Nat.not_lt_zero i)⟩⟩, hG, ?_, ?_, rfl⟩
  · refine args0_ok _ x 0 vs.toList _ ha rfl fun i v hv => ?_
    have hlt : i < vs.size := by
      rcases Nat.lt_or_ge i vs.size with hh | hh
      · exact hh
      · rw [List.getElem?_eq_none (by simpa using hh)] at hv; cases hv
    simp only [Nat.zero_add]
    have : vs[i]? = some v := by rw [← Array.getElem?_toList]; exact hv
    simp [Array.getElem?_append, hlt]
    rw [Array.getElem?_eq_getElem hlt] at this
    simpa using this
  · have := args_len _ _ _ ha
    simp at this
    simp
    omega
theorem res_ok {S : Nat → Prop} (hwr : M.wr = nothing) (hrd : M.rd = S) (hg : Good M w0 c h w) {r : RK} {y : r.ty.den} {avs : List AV} {xs : List Value} (hl : xs.length = avs.length) (hv : ∀ i (h1 : i < avs.length) (h2 : i < xs.length), ValR c w avs[i] xs[i]) (hy : retOK h r y avs) : ResR w S w0.heap.size r y (packV xs) := by
  have hsrc : ∀ {c' : Ctx} {h' : List Obj}, Good M w0 c' h' w → ∀ b, c'.S b → S b ∨ (w0.heap.size ≤ b ∧ b < w.heap.size) := fun hg b hb => by
    rcases Nat.lt_or_ge b w0.heap.size with hlt | hge
    · have := hg.src b hb hlt
      rw [hwr, hrd] at this
      exact .inl (this.resolve_right (fun f => f))
    · exact .inr ⟨hge, hg.sfin b hb⟩
  obtain ⟨c', hll, hg'⟩ := hg.frzAll
  have hval : ∀ i (h1 : i < avs.length) (h2 : i < xs.length), ValR c' w avs[i] xs[i] := fun i h1 h2 => hll.val (hv i h1 h2)
  cases r with
  | none =>
    match avs, xs, hl, hy with
    | [], [], _, _ => rfl
  | one t =>
    match avs, xs, hl, hy, hval with
    | [v], [x], _, hy, hval =>
      have hy : AV.as (h.map Vc.frzAll) t v = some y := hy
      rw [← map_frz] at hy
      have := as_frz_ok hg' (hval 0 (by simp) (by simp)) hy
      exact RepV.keep (hsrc hg') (.refl _ _) this
  | own e t =>
    match avs, xs, hl, hy, hv with
    | [.own i], [x], _, hy, hv =>
      have hvs := hv 0 (by simp) (by simp)
      simp only [List.getElem_cons_zero] at hvs
      have ho : h[i]? = some (.row e t y) := hy
      obtain ⟨hin, rfl⟩ := own_val hvs
      obtain ⟨vals, hown, hrep⟩ := hg.objs i _ ho
      refine ⟨vals, ⟨hown.1, hown.2.imp id ?_⟩, RepC.keep (fun b hb => ?_) (.refl _ _) _ _ _ hrep⟩
      · rintro ⟨g, cap, cur, h1, h2, h3⟩
        refine ⟨g, cap, cur, h1, ?_, h3⟩
        have := (hg.own i _ g ho (by simp [ownBlock, h1, blockOf])).1
        rw [hwr] at this
        exact this.resolve_right (fun f => f)
      · rcases hsrc hg b hb with h1 | h1
        · exact .inl h1
        · exact .inr ⟨h1.1, h1.2, fun e' => (hg.own i _ b ho e').2.2 hb⟩
    | [.nilS], [x], _, hy, hv =>
      have hvs := hv 0 (by simp) (by simp)
      simp only [List.getElem_cons_zero] at hvs
      have hy : y = [] := hy
      subst hy
      have hsv : x = .slice none 0 0 := by
        obtain ⟨h1, _, h3⟩ := hvs
        have h3 := h3 rfl
        simp only [CellsR] at h1
        cases x <;> simp [Value.cells] at h1 h3 <;> simp [h1]
      subst hsv
      exact ⟨[], ⟨by simp, .inl ⟨rfl, rfl⟩⟩, ⟨rfl, [], rfl, rfl, fun i h => by simp at h⟩⟩
  | tup t =>
    have hy : avs.length ≠ 1 ∧ argsAV (h.map Vc.frzAll) t avs = some y := hy
    obtain ⟨hne, hy⟩ := hy
    rw [← map_frz] at hy
    have hargs := args_frz_ok hg' hy (xs := xs) hl hval
    refine ⟨xs, ?_, args_keep (hsrc hg') hargs⟩
    match xs, hl ▸ hne with
    | [], _ => rfl
    | [s], hne => exact absurd rfl hne
    | s :: s' :: l, _ => rfl
def m0 : Option Pan → Value → FrameMode
  | none, _ => .returning
  | some p, u => .panicking (panE p.k u)
def m1 : Option Pan → Value → FrameMode
  | none, _ => .returning
  | some p, u => .panicking [{ v := .iface p.k u, recovered := true, goexit := false }]
theorem settle_m1 (m : Option Pan) (u : Value) : settle (m1 m u) = .returning := by cases m <;> rfl
def RunsD (P : Program) (g : FuncId) (vs : Array Value) (u0 u1 : FrameMode) (w : World) (R : Ending → World → Prop) : Prop := CallsD P g vs u0 w fun e u' w' => u' = u1 ∧ R e w'
def DOK (P : Program) (G : Nat → AV) (g : FuncId) (mode : Option Pan) (sp : GSpec) : Prop :=
  ∀ (c : Ctx) (w : World) (d : sp.D) (vs : Array Value) (u : Value), sp.pre d → GIn G sp c w d vs.toList → (∀ p, mode = some p → RepV w c.S p.t p.x u) → RunsD P g vs (m0 mode u) (m1 mode u) w (GEnd sp c w d)
theorem leave_ok {F : Fr} {fn : Func} {S : Nat → Prop} {r : RK} {y : r.ty.den} {env : St} {h : List Obj} {k : Nat} {roots : Nat → Value} {g : FuncId} {l2 : List Nat} {mode : Option Pan} (hF : FrOK F) (hM : F.M = ⟨nothing, S, k, roots⟩) (hds : F.ds = [⟨.fn (.func g) (l2.map roots).toArray, #[]⟩]) (hk : ∀ i ∈ l2, i < k) (hbx : allBox h l2 = true)
    (hfn : ∃ fn, F.P.funcs[g]? = some fn ∧ fn.name ≠ "runtime.NumGoroutine" ∧ fn.body.isSome = true) (t : Hit) (hok : DOK F.P F.E.G g mode t.sp) (hh : hitOK h (l2.map fun i => .ptr i []) t) {v : AV} {h' : List Obj} (hout : t.sp.out t.d = .ret v h')
    (l : List ResultVar) (hr : fn.results = l.toArray) (hy : (resE F.E.T (embH t.σ t.sp.m h h') env l).1 ∧ retOK (embH t.σ t.sp.m h h') r y (resE F.E.T (embH t.σ t.sp.m h h') env l).2) {c : Ctx} {a : Act} {w : World} {u : Value} (hs : Sim F.E F.M F.w0 F.nt F.ds c env h a w) (hu : ∀ p, mode = some p → RepV w c.S p.t p.x u) :
    Leaves F.P fn a.tmps (fun e w' => ∃ v, e = .returned v ∧ Keeps nothing F.w0 w' ∧ ResR w' S F.w0.heap.size r y v) a.defers (m0 mode u) w := by
  have hroot := hs.good.root
  rw [hM] at hroot
  have hhd : ∀ i ∈ l2, c.hd i = roots i ∧ i < c.n := fun i hi => ⟨hroot.2 i (hk i hi), Nat.lt_of_lt_of_le (hk i hi) hroot.1⟩
  have hl2 : l2.map roots = l2.map c.hd := List.map_congr_left fun i hi => (hhd i hi).1.symm
  have hvb : ∀ i (h1 : i < (l2.map fun i => AV.ptr i []).length) (h2 : i < (l2.map roots).toArray.toList.length), ValR c w (l2.map fun i => AV.ptr i [])[i] (l2.map roots).toArray.toList[i] := fun i h1 h2 => by
    have := caps_val hs.good hbx (fun i hi => (hhd i hi).2) i h1 (by simpa using h2)
    simpa [hl2] using this
  rw [hs.defers, hds]
  refine leaves_cons (f := g) (args := (l2.map roots).toArray) ?_ ?_ ?_
  · cases mode <;> simp [m0]
  · have := run_callFunc (w := w) (args := (l2.map roots).toArray) hfn
    simpa [invoke] using this
  · have hcall := call_gokC (C := RunsD F.P g (l2.map roots).toArray (m0 mode u) (m1 mode u) w) (fun R R' h k => CallsD.mono h fun e u' w' q => ⟨q.1, k _ _ q.2⟩) (fun hp hin => hok _ _ _ _ _ hp hin hu) hs.good hs.glob (vs := l2.map fun i => AV.ptr i []) (xs := (l2.map roots).toArray) (by simp) hvb hh
    refine CallsD.mono hcall ?_
    rintro e u' w' ⟨rfl, cN, hl, hend⟩
    rw [hout] at hend
    obtain ⟨uv, rfl, hg, _⟩ := hend
    show Leaves F.P fn a.tmps _ [] (settle (m1 mode u)) w'
    rw [settle_m1]
    obtain ⟨us, q1, q2, q3⟩ := results_ok (P := F.P) hF.env.T hg (hs.env.keep hl) hr hy.1
    refine ⟨packV us, q1, packV us, rfl, by have := hg.keeps; rw [hM] at this; exact this, ?_⟩
    exact res_ok (by rw [hM]) (by rw [hM]) hg q2 (fun i h1 h2 => q3 i h1 h2) hy.2
theorem at_retD {F : Fr} {fn : Func} {S : Nat → Prop} {r : RK} {y : r.ty.den} {env : St} {h : List Obj} {k : Nat} {roots : Nat → Value} {g : FuncId} {l2 : List Nat} (hF : FrOK F) (hM : F.M = ⟨nothing, S, k, roots⟩) (hds : F.ds = [⟨.fn (.func g) (l2.map roots).toArray, #[]⟩]) (hk : ∀ i ∈ l2, i < k) (hbx : allBox h l2 = true)
    (hfn : ∃ fn, F.P.funcs[g]? = some fn ∧ fn.name ≠ "runtime.NumGoroutine" ∧ fn.body.isSome = true) (t : Hit) (hok : DOK F.P F.E.G g none t.sp) {v : AV} {h' : List Obj} (hout : t.sp.out t.d = .ret v h')
    (l : List ResultVar) (hr : fn.results = l.toArray) (hh : hitOK h (l2.map fun i => .ptr i []) t) (hy : (resE F.E.T (embH t.σ t.sp.m h h') env l).1 ∧ retOK (embH t.σ t.sp.m h h') r y (resE F.E.T (embH t.σ t.sp.m h h') env l).2) :
    At F (postD F.P fn S F.w0 r y .ret) env h := fun c a w hs =>
  leave_ok (u := Go.undef) hF hM hds hk hbx hfn t hok hh hout l hr hy hs (fun p hp => by cases hp)
theorem at_panD {F : Fr} {fn : Func} {S : Nat → Prop} {r : RK} {y : r.ty.den} {env : St} {h : List Obj} {k : Nat} {roots : Nat → Value} {g : FuncId} {l2 : List Nat} {p : Pan} (hF : FrOK F) (hM : F.M = ⟨nothing, S, k, roots⟩) (hds : F.ds = [⟨.fn (.func g) (l2.map roots).toArray, #[]⟩]) (hk : ∀ i ∈ l2, i < k) (hbx : allBox h l2 = true)
    (hfn : ∃ fn, F.P.funcs[g]? = some fn ∧ fn.name ≠ "runtime.NumGoroutine" ∧ fn.body.isSome = true) (t : Hit) (hok : DOK F.P F.E.G g (some p) t.sp) {v : AV} {h' : List Obj} (hout : t.sp.out t.d = .ret v h')
    (l : List ResultVar) (hr : fn.results = l.toArray) (hh : hitOK h (l2.map fun i => .ptr i []) t) (hy : (resE F.E.T (embH t.σ t.sp.m h h') env l).1 ∧ retOK (embH t.σ t.sp.m h h') r y (resE F.E.T (embH t.σ t.sp.m h h') env l).2) :
    AtP F (postD F.P fn S F.w0 r y) p env h := fun c a w u hs hu =>
  leave_ok hF hM hds hk hbx hfn t hok hh hout l hr hy hs (fun q hq => by cases hq; exact hu)
theorem tri_seq_defer {F : Fr} {Q : Exit → Act → World → Prop} {env : St} {h : List Obj} {id : Nat} {ops : Array Oper} {y : Code} {g : FuncId} {t : Nat} {caps : Array Operand} {ty1 ty2 : TypeId} {pos1 pos2 : String} {aft1 aft2 : Array Edge} (k : Nat) (l2 : List Nat)
    (hops : ops = #[⟨some t, .makeFunc (.func g) #[] caps, ty1, pos1, aft1, none⟩, ⟨none, .defer ⟨.value (.tmp t), #[], #[]⟩, ty2, pos2, aft2, none⟩])
    (htags : allTags h (caps.toList.map (evA F.E.G env)) = some l2) (hm : F.M.m ≤ k) (hk : k ≤ h.length)
    (hy : ∀ roots : Nat → Value, (∀ i, i < F.M.m → roots i = F.M.roots i) → Tri { F with M := ⟨F.M.wr, F.M.rd, k, roots⟩, ds := ⟨.fn (.func g) (l2.map roots).toArray, #[]⟩ :: F.ds } y Q ((t, .junk) :: env) h) : Tri F (.seq (.region id ops false) y) Q env h := fun hok c a w hs => by
  simp only [okCode, Bool.and_eq_true] at hok
  obtain ⟨⟨⟨hok1, _⟩, _⟩, hok2⟩ := hok
  subst hops
  have hall := List.all_eq_true.1 hok1
  have hk1 := hall ⟨some t, .makeFunc (.func g) #[] caps, ty1, pos1, aft1, none⟩ (by simp)
  simp only [okOper, Bool.and_eq_true] at hk1
  have hops1 : ∀ x ∈ (Op.makeFunc (.func g) #[] caps).operands, okOperand x = true := Array.all_eq_true_iff_forall_mem.1 hk1.1
  have htn : t < a.tmps.size := by
    have := hk1.2
    rw [hs.size]
    simpa using this
  obtain ⟨hlt, hcv⟩ := tags_ok hs.good htags (vs := caps.toList.map a.eval) (by simp) (fun i h1 h2 => by
    simp only [List.getElem_map]
    exact evA_ok hs.env hs.glob (hops1 _ (by simp [Op.operands])))
  have hcv' : caps.map a.eval = (l2.map c.hd).toArray := by rw [← Array.toList_inj]; simpa using hcv
  refine wp_seq (wp_region ?_)
  have hy' := hy c.hd (fun i hi => hs.good.root.2 i hi)
  have hgood : Good ⟨F.M.wr, F.M.rd, k, c.hd⟩ F.w0 c h w := ⟨hs.good.n, hs.good.keeps, hs.good.sfin, hs.good.src, hs.good.objs, hs.good.own, hs.good.sep, by rw [hs.good.n]; exact hk, fun _ _ => rfl⟩
  have hfin := hy' hok2 c { (a.put (some t) (.func (.func g) #[] (l2.map c.hd).toArray)) with defers := ⟨.fn (.func g) (l2.map c.hd).toArray, #[]⟩ :: a.defers } w ⟨hgood, hs.glob, by
    have := hs.env.put (d := t) (v := .junk) (x := .func (.func g) #[] (l2.map c.hd).toArray) htn trivial
    exact this, by simpa [Act.put] using hs.size, by simp [hs.defers]⟩
  have run1 : (execOp a.eval ⟨some t, .makeFunc (.func g) #[] caps, ty1, pos1, aft1, none⟩).run F.P w = .ok (.value (.func (.func g) #[] (l2.map c.hd).toArray)) w := by
    simp [execOp, Instr.makeFunc, hcv']
  have hget : (a.put (some t) (.func (.func g) #[] (l2.map c.hd).toArray)).eval (.tmp t) = .func (.func g) #[] (l2.map c.hd).toArray := by
    simp [Act.eval, Act.put, htn]
  have run2 : (execOp (a.put (some t) (.func (.func g) #[] (l2.map c.hd).toArray)).eval ⟨none, .defer ⟨.value (.tmp t), #[], #[]⟩, ty2, pos2, aft2, none⟩).run F.P w = .ok (.defer ⟨.fn (.func g) (l2.map c.hd).toArray, #[]⟩) w := by
    simp [execOp, resolve, Deferred.ofValue, hget]
  show wpOps F.P _ _ [0, 1] a w
  have w1 : ∀ (o : Oper) (y : Nat → Option Bool), o.guard = none → Region.wanted o y = true := fun o y h => by simp [Region.wanted, h]
  unfold wpOps
  simp only [List.getElem?_toArray, List.getElem?_cons_zero]
  rw [if_pos (w1 _ _ rfl)]
  refine .inl ?_
  unfold Oper.wp
  rw [run1, Oper.upon_value]
  unfold wpOps
  simp only [List.getElem?_toArray, List.getElem?_cons_succ, List.getElem?_cons_zero]
  rw [if_pos (w1 _ _ rfl)]
  refine .inl ?_
  unfold Oper.wp
  rw [run2, Oper.upon_defer]
  exact hfin
theorem opsS_of_wp {ops : Array Oper} {cs : List Frame} {Q : Exit → Act → List Frame → World → Prop} (hQ : ¬ LetsOut fun e a w => Q e a cs w) : ∀ (l : List Nat) (a : Act) (w : World), wpOps P ops (fun e a w => Q e a cs w) l a w → wpOpsS P ops Q l a cs w
  | [], a, w, hh => hh
  | i :: rest, a, w, hh => by
    unfold wpOps at hh
    unfold wpOpsS
    cases ho : ops[i]? with
    | none => simp only [ho] at hh ⊢; exact opsS_of_wp hQ rest a w hh
    | some o =>
      simp only [ho] at hh ⊢
      split
      · rename_i hw
        simp only [hw, if_true] at hh
        have hh := Oper.wp_mono (fun a w => opsS_of_wp hQ rest a w) (hh.resolve_right fun q => hQ q.2)
        unfold Oper.wp at hh
        revert hh
        generalize (execOp a.eval o).run P w = r
        intro hh
        split
        · exact hh.elim
        · exact hh
      · rename_i hw
        simp only [hw, if_false] at hh
        exact opsS_of_wp hQ rest _ w hh
def recAV : Option Pan → AV
  | none => .val .nili ()
  | some p => .val (.ifc p.k p.t) p.x
theorem dok_of {g : FuncId} {fn : Func} {rest : Code} {id : Nat} {ops : Array Oper} {sp : GSpec} {mode : Option Pan} {t5 : Nat} {ty : TypeId} {pos : String} {aft : Array Edge} (hE : EnvOK P E) (hf : P.funcs[g]? = some fn) (hb : fn.body = some (.seq (.region id ops false) rest)) (hok : okCode fn.ntmps (.seq (.region id ops false) rest) = true) (hn : ∀ d, (sp.av d).length ≤ fn.ntmps)
    (h0 : ops[0]? = some ⟨some t5, .call ⟨.builtin .recover, #[], #[]⟩, ty, pos, aft, none⟩)
    (ht : ∀ (c : Ctx) (w : World) (d : sp.D), AV.wfL (sp.av d) → Obj.wfL (sp.hp d) → sp.pre d → c.n = (sp.hp d).length →
      seqB E ops.toList (ops.toList.drop 1) ((t5, recAV mode) :: argE (sp.av d) 0) (sp.hp d) (fun env h => Tri ⟨P, E, GM sp c d, w, fn.ntmps, []⟩ rest (bodyPost P fn (GEnd sp c w d)) env h)) : DOK P E.G g mode sp := by
  intro c w d vs u hp hin hu
  refine callsD_of_wpS hf hb fun c₀ cs hc₀ => ?_
  have hok' := hok
  simp only [okCode, Bool.and_eq_true] at hok'
  obtain ⟨⟨⟨hok1, _⟩, _⟩, hok2⟩ := hok'
  refine wpS_seq (wpS_region ?_)
  have hsz : 0 < ops.size := by
    rcases Nat.lt_or_ge 0 ops.size with h | h
    · exact h
    · rw [Array.getElem?_eq_none h] at h0; cases h0
  obtain ⟨n, hn'⟩ : ∃ n, ops.size = n + 1 := ⟨ops.size - 1, by omega⟩
  have hrange : List.range ops.size = 0 :: List.range' 1 n := by rw [hn', List.range_eq_range', List.range'_succ]
  rw [hrange]
  unfold wpOpsS
  have w1 : ∀ (o : Oper) (y : Nat → Option Bool), o.guard = none → Region.wanted o y = true := fun o y h => by simp [Region.wanted, h]
  simp only [h0]
  rw [if_pos (w1 _ _ rfl)]
  have hrun : ∀ ρ, (execOp ρ ⟨some t5, .call ⟨.builtin .recover, #[], #[]⟩, ty, pos, aft, none⟩).run P w = .ok .recover w := fun ρ => by
    simp [execOp, resolve, invoke, builtin]
  rw [hrun]
  have key : ∀ v, ValR c w (recAV mode) v → wpOpsS P ops (Exit.thenS (rest.wpS P (bodyPostS P fn c₀ cs fun e u' w' => u' = m1 mode u ∧ GEnd sp c w d e w')) (bodyPostS P fn c₀ cs fun e u' w' => u' = m1 mode u ∧ GEnd sp c w d e w')) (List.range' 1 n) (({ tmps := vs ++ Array.replicate (fn.ntmps - vs.size) undef, defers := [] } : Act).put (some t5) v) ({ c₀ with mode := m1 mode u } :: cs) w := fun v hv => by
    refine opsS_of_wp ?_ _ _ _ ?_
    · rintro ⟨a', w', u', _, e⟩
      obtain ⟨c', e⟩ := e
      split at e <;> (obtain ⟨_, e, _⟩ := e; cases e)
    · have hsim : Sim E (GM sp c d) w fn.ntmps [] c ((t5, recAV mode) :: argE (sp.av d) 0) (sp.hp d) (({ tmps := vs ++ Array.replicate (fn.ntmps - vs.size) undef, defers := [] } : Act).put (some t5) v) w := by
        have hlen := hin.len
        have hnn := hn d
        simp at hlen
        have hsz2 : (vs ++ Array.replicate (fn.ntmps - vs.size) undef).size = fn.ntmps := by simp; omega
        have ht5 : t5 < fn.ntmps := by
          have h0' : ops.toList[0]? = some ⟨some t5, .call ⟨.builtin .recover, #[], #[]⟩, ty, pos, aft, none⟩ := by simpa using h0
          have := List.all_eq_true.1 hok1 _ (List.mem_of_getElem? h0')
          simp only [okOper, Bool.and_eq_true] at this
          simpa using this.2
        refine ⟨hin.good, hin.glob, ?_, by simpa [Act.put] using hsz2, rfl⟩
        refine EnvR.put (a := { tmps := vs ++ Array.replicate (fn.ntmps - vs.size) undef, defers := [] }) ?_ (by rw [hsz2]; exact ht5) hv
        refine argE_ok _ vs.toList 0 hin.len hin.val fun i v hv => ?_
        have hlt : i < vs.size := by
          rcases Nat.lt_or_ge i vs.size with hh | hh
          · exact hh
          · rw [List.getElem?_eq_none (by simpa using hh)] at hv; cases hv
        simp only [Nat.zero_add]
        have : vs[i]? = some v := by rw [← Array.getElem?_toList]; exact hv
        simp [Array.getElem?_append, hlt]
        rw [Array.getElem?_eq_getElem hlt] at this
        simpa using this
      have := seqB_ok (P := P) (ops := ops.toList) (Q := fun e a w' => Exit.thenS (rest.wpS P (bodyPostS P fn c₀ cs fun e u' w' => u' = m1 mode u ∧ GEnd sp c w d e w')) (bodyPostS P fn c₀ cs fun e u' w' => u' = m1 mode u ∧ GEnd sp c w d e w') e a ({ c₀ with mode := m1 mode u } :: cs) w') hE (List.all_eq_true.1 hok1) (fun env h c' a w' hk hs => by
        refine wpS_of_wp (wp_mono (hk hok2 c' a w' hs) fun e a w' hq => ?_)
        cases e with
        | normal => obtain ⟨q1, v, q2, q3⟩ := hq; exact ⟨q1, _, rfl, v, q2, rfl, q3⟩
        | ret => obtain ⟨q1, v, q2, q3⟩ := hq; exact ⟨q1, _, rfl, v, q2, rfl, q3⟩
        | panic ch => obtain ⟨q1, q3⟩ := hq; exact ⟨q1, _, rfl, rfl, q3⟩
        | outgrown => exact ⟨_, rfl, hq⟩
        | exit id => exact hq.elim
        | goto l => exact hq.elim) n 1 (by simp; omega) _ _ c _ w (ht c w d (vals_wf hin.len hin.val) (objs_wf hin.good) hp hin.good.n) hsim
      simpa using this
  cases mode with
  | none =>
    have e : c₀.mode = .returning := hc₀
    have e2 : ({ c₀ with mode := .returning } : Frame) = c₀ := by rw [← e]
    have := key .nilIface (ValR.ofV (by unfold RepV; rw [if_neg (by simp [Ty.isAgg])]; exact rfl))
    simp only [m1, e2] at this
    simpa [recoverD, e, m1] using this
  | some p =>
    have e : c₀.mode = .panicking (panE p.k u) := hc₀
    have := key (.iface p.k u) (ValR.ofV (by
      unfold RepV
      rw [if_neg (by simp [Ty.isAgg])]
      have hr := hu p rfl
      unfold RepV at hr
      split at hr
      · rename_i ha
        obtain ⟨ds, e1, e2⟩ := hr
        exact ⟨u, ds.toList, rfl, fun _ => by simpa using e1, (fun h => by rw [ha] at h; cases h), e2⟩
      · rename_i ha
        exact ⟨u, [u], rfl, fun h => absurd h ha, fun _ => rfl, hr⟩))
    simp only [m1] at this
    simpa [recoverD, e, panE, m1] using this
end
end Go.Vc
namespace Go.Vc
open Go.RowKit
def ck {α : Type} (p : Prop) [Decidable p] (k : Option α) : Option α := if p then k else none
theorem ck_some {α : Type} {p : Prop} [Decidable p] {k : Option α} {r : α} (h : ck p k = some r) : p ∧ k = some r := by
  unfold ck at h
  split at h
  · rename_i hp; exact ⟨hp, h⟩
  · cases h
theorem ck_pos {α : Type} {p : Prop} [Decidable p] {k : Option α} (hp : p) : ck p k = k := if_pos hp
theorem ite_T {α : Type} {p : Prop} [Decidable p] {x y : α} {r : α} (hp : p) (h : (if p then x else y) = r) : x = r := by rwa [if_pos hp] at h
theorem ite_F {α : Type} {p : Prop} [Decidable p] {x y : α} {r : α} (hp : ¬ p) (h : (if p then x else y) = r) : y = r := by rwa [if_neg hp] at h
abbrev I64 (x : Int) : Prop := -9223372036854775808 ≤ x ∧ x ≤ 9223372036854775807
abbrev I32 (x : Int) : Prop := -2147483648 ≤ x ∧ x ≤ 2147483647
section
variable {D E R : Type} {step : D → Option (D ⊕ E)}
def iter (step : D → Option (D ⊕ E)) : Nat → D → Option E
  | 0, _ => none
  | n + 1, d => match step d with
    | none => none
    | some (.inl d') => iter step n d'
    | some (.inr e) => some e
theorem iter_succ : ∀ {n : Nat} {d : D} {e : E}, iter step n d = some e → iter step (n + 1) d = some e
  | 0, d, e, h => by cases h
  | n + 1, d, e, h => by
    unfold iter at h ⊢
    cases hs : step d with
    | none => rw [hs] at h; cases h
    | some s =>
      rw [hs] at h
      cases s with
      | inl d' => exact iter_succ (n := n) h
      | inr e' => exact h
theorem iter_le {n m : Nat} (hm : n ≤ m) {d : D} {e : E} (h : iter step n d = some e) : iter step m d = some e := by
  induction hm with
  | refl => exact h
  | step _ ih => exact iter_succ ih
theorem iter_uniq {n m : Nat} {d : D} {e e' : E} (h : iter step n d = some e) (h' : iter step m d = some e') : e = e' := by
  have h1 := iter_le (Nat.le_max_left n m) h
  have h2 := iter_le (Nat.le_max_right n m) h'
  rw [h1] at h2; exact Option.some.inj h2
open Classical in
noncomputable def loopO (step : D → Option (D ⊕ E)) (d : D) : Option E := if h : ∃ e, ∃ n, iter step n d = some e then some (Classical.choose h) else none
theorem loopO_iff {d : D} {e : E} : loopO step d = some e ↔ ∃ n, iter step n d = some e := by
  unfold loopO
  constructor
  · intro h
    split at h
    · rename_i hx
      have := Classical.choose_spec hx
      rw [Option.some.inj h] at this; exact this
    · cases h
  · rintro ⟨n, h⟩
    have hx : ∃ e, ∃ n, iter step n d = some e := ⟨e, n, h⟩
    rw [dif_pos hx]
    obtain ⟨m, hm⟩ := Classical.choose_spec hx
    rw [iter_uniq hm h]
theorem loopO_iter {n : Nat} {d : D} {e : E} (h : iter step n d = some e) : loopO step d = some e := loopO_iff.2 ⟨n, h⟩
theorem least_of {p : Nat → Prop} (h : ∃ n, p n) : ∃ n, p n ∧ ∀ m, p m → n ≤ m := by
  classical
  obtain ⟨n, hn⟩ := h
  induction n using Nat.strongRecOn with
  | _ n ih =>
    by_cases hh : ∃ m, m < n ∧ p m
    · obtain ⟨m, hm, hp⟩ := hh; exact ih m hm hp
    · exact ⟨n, hn, fun m hm => Nat.le_of_not_lt fun hlt => hh ⟨m, hlt, hm⟩⟩
open Classical in
noncomputable def rank (step : D → Option (D ⊕ E)) (d : D) : Nat := if h : ∃ n, (iter step n d).isSome = true then Classical.choose (least_of h) else 0
theorem rank_is {d : D} {e : E} (h : loopO step d = some e) : iter step (rank step d) d = some e ∧ ∀ m e', iter step m d = some e' → rank step d ≤ m := by
  obtain ⟨n, hn⟩ := loopO_iff.1 h
  have hx : ∃ n, (iter step n d).isSome = true := ⟨n, by rw [hn]; rfl⟩
  have hs := Classical.choose_spec (least_of hx)
  have e1 : rank step d = Classical.choose (least_of hx) := by unfold rank; rw [dif_pos hx]
  rw [← e1] at hs
  refine ⟨?_, fun m e' hm => hs.2 m (by rw [hm]; rfl)⟩
  cases hi : iter step (rank step d) d with
  | none => have := hs.1; rw [hi] at this; cases this
  | some e' => rw [iter_uniq hi hn]
def stepQ (A : D → Prop) (B : E → Prop) : D ⊕ E → Prop
  | .inl d => A d
  | .inr e => B e
theorem loop_round {k : E → Option R} {r : R} {d : D} (hd : (loopO step d).bind k = some r) : ∃ s, step d = some s ∧ stepQ (fun d' => (loopO step d').bind k = some r ∧ rank step d' < rank step d) (fun e => k e = some r) s := by
  cases hl : loopO step d with
  | none => rw [hl] at hd; cases hd
  | some e =>
    rw [hl] at hd
    have hk : k e = some r := hd
    obtain ⟨hi, hmin⟩ := rank_is hl
    cases hn : rank step d with
    | zero => rw [hn] at hi; cases hi
    | succ n =>
      rw [hn, iter] at hi
      split at hi
      · cases hi
      · rename_i d' hs
        refine ⟨_, hs, ?_⟩
        have hl' := loopO_iter hi
        refine ⟨by rw [hl']; exact hk, ?_⟩
        have := (rank_is hl').2 n e hi
        show rank step d' < n + 1
        omega
      · rename_i e' hs
        refine ⟨_, hs, ?_⟩
        rw [Option.some.inj hi]; exact hk
theorem loopO_of {I : D → Prop} (μ : D → Nat) (f : D → E) (h : ∀ d, I d → (∃ d', step d = some (.inl d') ∧ I d' ∧ μ d' < μ d ∧ f d' = f d) ∨ step d = some (.inr (f d))) : ∀ d, I d → loopO step d = some (f d) := by
  have main : ∀ n d, μ d ≤ n → I d → ∃ m, iter step m d = some (f d) := by
    intro n
    induction n with
    | zero =>
      intro d hn hi
      rcases h d hi with ⟨d', _, _, hlt, _⟩ | hs
      · omega
      · exact ⟨1, by rw [iter, hs]⟩
    | succ n ih =>
      intro d hn hi
      rcases h d hi with ⟨d', hs, hi', hlt, hf⟩ | hs
      · obtain ⟨m, hm⟩ := ih d' (by omega) hi'
        exact ⟨m + 1, by rw [iter, hs]; simp only; rw [hm, hf]⟩
      · exact ⟨1, by rw [iter, hs]⟩
  intro d hi
  obtain ⟨m, hm⟩ := main (μ d) d (Nat.le_refl _) hi
  exact loopO_iter hm
theorem loopO_post {I : D → Prop} (μ : D → Nat) (Q : E → Prop) (h : ∀ d, I d → (∃ d', step d = some (.inl d') ∧ I d' ∧ μ d' < μ d) ∨ ∃ e, step d = some (.inr e) ∧ Q e) : ∀ d, I d → ∃ e, loopO step d = some e ∧ Q e := by
  have main : ∀ n d, μ d ≤ n → I d → ∃ m e, iter step m d = some e ∧ Q e := by
    intro n
    induction n with
    | zero =>
      intro d hn hi
      rcases h d hi with ⟨d', _, _, hlt⟩ | ⟨e, hs, hq⟩
      · omega
      · exact ⟨1, e, by rw [iter, hs], hq⟩
    | succ n ih =>
      intro d hn hi
      rcases h d hi with ⟨d', hs, hi', hlt⟩ | ⟨e, hs, hq⟩
      · obtain ⟨m, e, hm, hq⟩ := ih d' (by omega) hi'
        exact ⟨m + 1, e, by rw [iter, hs]; exact hm, hq⟩
      · exact ⟨1, e, by rw [iter, hs], hq⟩
  intro d hi
  obtain ⟨m, e, hm, hq⟩ := main (μ d) d (Nat.le_refl _) hi
  exact ⟨e, loopO_iter hm, hq⟩
end
def objsOf (h : List Obj) : List (Nat ⊕ Obj) → List Obj
  | [] => []
  | .inl i :: r => h.getD i .dead :: objsOf h r
  | .inr o :: r => o :: objsOf h r
section
variable {F : Fr} {Q : Exit → Act → World → Prop} {env : St} {h : List Obj}
theorem tri_joinM {x y : Code} {D : Type} (J : D → Prop) (keep : List Nat) (uE : D → St) (uO : D → List (Nat ⊕ Obj))
    (hx : Tri F x (Exit.then (fun a' w' => ∃ d' c', J d' ∧ Sim F.E F.M F.w0 F.nt F.ds c' (updE env keep (uE d')) (objsOf h (uO d')) a' w') Q) env h)
    (hy : ∀ d, J d → Tri F y Q (updE env keep (uE d)) (objsOf h (uO d))) : Tri F (.seq x y) Q env h :=
  tri_join J (fun d => updE env keep (uE d)) (fun d => objsOf h (uO d)) hx hy
theorem tri_loopM {x : Code} {D E R : Type} {step : D → Option (D ⊕ E)} {k : E → Option R} {r : R} {d0 : D} (keep : List Nat) (uE : D → St) (uO : D → List (Nat ⊕ Obj))
    (hd : (loopO step d0).bind k = some r) (hh : h = objsOf h (uO d0)) (hf : fitE h env (updE env keep (uE d0)))
    (round : ∀ d s, step d = some s → stepQ (fun d' => (loopO step d').bind k = some r ∧ rank step d' < rank step d) (fun e => k e = some r) s → Tri F x (Exit.then (fun a' w' => ∃ d' c', ((loopO step d').bind k = some r ∧ rank step d' < rank step d) ∧ Sim F.E F.M F.w0 F.nt F.ds c' (updE env keep (uE d')) (objsOf h (uO d')) a' w') Q) (updE env keep (uE d)) (objsOf h (uO d))) : Tri F (.loop x) Q env h :=
  tri_loop (fun d => (loopO step d).bind k = some r) (rank step) (fun d => updE env keep (uE d)) (fun d => objsOf h (uO d)) (at_fit d0 hd hh hf) fun d hi => by
    obtain ⟨s, h1, h2⟩ := loop_round hi
    exact round d s h1 h2
end
theorem tri_eqnil {F : Fr} {Q : Exit → Act → World → Prop} {env : St} {h : List Obj} {id : Nat} {ops : Array Oper} {t0 t3 t4 : Nat} {tt ty0 ty1 ty2 : TypeId} {pos1 pos2 : String} {aft1 aft2 : Array Edge} {ct : Ty} {xs : List ct.den} (hF : FrOK F)
    (hops : ops = #[⟨some t3, .move (.tmp t0), ty1, pos1, aft1, none⟩, ⟨some t4, .binOp .eql tt (.tmp t3) (.const (.slice none 0 0)) ty0, ty2, pos2, aft2, none⟩])
    (hT : F.E.T tt = some (.sl ct)) (hv : look env t0 = .val (.sl ct) xs)
    (hq : ∀ b : Bool, (b = true → xs = []) → At F (Q .normal) ((t4, .val .bool b) :: (t3, .val (.sl ct) xs) :: env) h) : Tri F (.region id ops false) Q env h := fun hok c a w hs => by
  simp only [okCode, Bool.and_eq_true] at hok
  obtain ⟨⟨hok1, _⟩, _⟩ := hok
  subst hops
  have hall := List.all_eq_true.1 hok1
  have hk1 := hall ⟨some t3, .move (.tmp t0), ty1, pos1, aft1, none⟩ (by simp)
  have hk2 := hall ⟨some t4, .binOp .eql tt (.tmp t3) (.const (.slice none 0 0)) ty0, ty2, pos2, aft2, none⟩ (by simp)
  have h0 := hs.env t0
  rw [hv] at h0
  obtain ⟨⟨ad, len, cap, e1, e2⟩, _, e3⟩ := h0
  have hval : a.tmps.getD t0 Go.undef = .slice ad len cap := by
    have e3 := e3 rfl
    revert e1 e3
    generalize a.tmps.getD t0 Go.undef = sv
    intro e1 e3
    cases sv <;> simp [Value.cells] at e1 e3 <;> simp [e1]
  have h0 := hs.env t0
  rw [hv] at h0
  have s1 := hs.after hk1 (v := a.tmps.getD t0 Go.undef) (av := .val (.sl ct) xs) ⟨.refl _ _, hs.good, h0⟩
  have ht3 : t3 < a.tmps.size := by
    simp only [okOper, Bool.and_eq_true] at hk1
    rw [hs.size]; simpa using hk1.2
  have s2 := s1.after hk2 (v := .bool ad.isNone) (av := .val .bool ad.isNone) ⟨.refl _ _, s1.good, valB _⟩
  refine wp_region ?_
  have run1 : (execOp a.eval ⟨some t3, .move (.tmp t0), ty1, pos1, aft1, none⟩).run F.P w = .ok (.value (a.tmps.getD t0 Go.undef)) w := by
    simp [execOp, Act.eval]
  have hget : (a.put (some t3) (a.tmps.getD t0 Go.undef)).eval (.tmp t3) = .slice ad len cap := by
    rw [hval]; simp [Act.eval, Act.put, ht3]
  obtain ⟨_, hd, _⟩ := under_sl (hF.env.T _ _ hT)
  have run2 : (execOp (a.put (some t3) (a.tmps.getD t0 Go.undef)).eval ⟨some t4, .binOp .eql tt (.tmp t3) (.const (.slice none 0 0)) ty0, ty2, pos2, aft2, none⟩).run F.P w = .ok (.value (.bool ad.isNone)) w := by
    have hc : (a.put (some t3) (a.tmps.getD t0 Go.undef)).eval (.const (.slice none 0 0)) = .slice none 0 0 := rfl
    have hq : ∀ d, (Op.equalIn (d + 1) tt (.slice ad len cap) (.slice none 0 0)).run F.P w = .ok ad.isNone w := fun d => by
      unfold Op.equalIn
      rw [Sem.run_bind, run_under hd]
      cases ad <;> rfl
    have hb : (binOp .eql tt (.slice ad len cap) (.slice none 0 0)).run F.P w = .ok (.bool ad.isNone) w := by
      have e : binOp .eql tt (.slice ad len cap) (.slice none 0 0) = (do pure (.bool (← Op.equal tt (.slice ad len cap) (.slice none 0 0)))) := by unfold binOp; rfl
      rw [e, Sem.run_bind, Op.equal, show Op.maxDepth = (Op.maxDepth - 1) + 1 from rfl, hq]
      rfl
    have hg : (eqGuard .eql tt (.tmp t3) (.const (.slice none 0 0)) (.slice ad len cap) (.slice none 0 0)).run F.P w = .ok () w := by
      unfold eqGuard; rfl
    generalize hρ : (a.put (some t3) (a.tmps.getD t0 Go.undef)).eval = ρ at hget hc ⊢
    simp only [execOp, hget, hc]
    simp [hb, hg]
  have w1 : ∀ (o : Oper) (y : Nat → Option Bool), o.guard = none → Region.wanted o y = true := fun o y h => by simp [Region.wanted, h]
  show wpOps F.P _ _ [0, 1] a w
  unfold wpOps
  simp only [List.getElem?_toArray, List.getElem?_cons_zero]
  rw [if_pos (w1 _ _ rfl)]
  refine .inl ?_
  unfold Oper.wp
  rw [run1, Oper.upon_value]
  unfold wpOps
  simp only [List.getElem?_toArray, List.getElem?_cons_succ, List.getElem?_cons_zero]
  rw [if_pos (w1 _ _ rfl)]
  refine .inl ?_
  unfold Oper.wp
  rw [run2, Oper.upon_value]
  refine hq ad.isNone (fun hn => ?_) c _ w s2
  obtain ⟨_, _, _, e4⟩ := e2
  rcases e4 with e4 | ⟨b, off, e4, _⟩
  · exact e4
  · rw [e4] at hn; cases hn
theorem at_retC {F : Fr} {fn : Func} {S : Nat → Prop} {r : RK} {y : r.ty.den} {env : St} {h : List Obj} (hF : FrOK F) (l : List ResultVar) (hM : F.M = top S) (hds : F.ds = []) (hr : fn.results = l.toArray) (hy : (resE F.E.T h env l).1 ∧ retOK h r y (resE F.E.T h env l).2) : At F (post F.P fn S F.w0 r y .ret) env h := fun c a w hs => by
  obtain ⟨us, q1, q2, q3⟩ := results_ok (P := F.P) hF.env.T hs.good hs.env hr hy.1
  refine ⟨hs.defers.trans hds, packV us, q1, packV us, rfl, by have := hs.good.keeps; rw [hM] at this; exact this, ?_⟩
  exact res_ok (by rw [hM]) (by rw [hM]) hs.good q2 (fun i h1 h2 => q3 i h1 h2) hy.2
def thawB (i : Nat) (t : Ty) (x : t.den) : AV → AV
  | .ptr j [] => if j = i then .roa t x else .ptr j []
  | .ptr j p => if j = i then .junk else .ptr j p
  | .agg _ => .junk
  | .tup _ => .junk
  | .fn f l1 l2 => if l1.contains i || l2.contains i then .junk else .fn f l1 l2
  | v => v
theorem Good.shut {M : Perm} {w0 : World} {c : Ctx} {h : List Obj} {w : World} (hg : Good M w0 c h w) {i n : Nat} {t : Ty} {x : t.den} (ho : h[i]? = some (.box n (.val t x))) :
    ∃ c', Later c w c' w ∧ c'.n = c.n ∧ Good M w0 c' (h.set i .dead) w ∧ ∀ v, ValR c w (.ptr i []) v → ValR c' w (.roa t x) v := by
  have hob := hg.objs i _ ho
  have hle : c.le (c.more (blockOf (c.hd i))) := ⟨fun b hb => .inl hb, Nat.le_refl _, fun _ _ => rfl⟩
  have hl : Later c w (c.more (blockOf (c.hd i))) w := ⟨hle, .refl _ _⟩
  have hil : i < h.length := get_lt ho
  have hcase : ∀ j oj, (h.set i .dead)[j]? = some oj → (j ≠ i ∧ h[j]? = some oj) ∨ (j = i ∧ oj = .dead) := fun j oj hj => by
    by_cases e : i = j
    · subst e; simp [hil] at hj; exact .inr ⟨rfl, hj.symm⟩
    · rw [List.getElem?_set_ne e] at hj; exact .inl ⟨fun h => e h.symm, hj⟩
  refine ⟨_, hl, rfl, ⟨by simp [Ctx.more, hg.n], hg.keeps, fun b hb => ?_, fun b hb hlt => ?_, fun j oj hj => ?_, fun j oj b hj hb => ?_, fun j k oj ok b hj hk hbj hbk => ?_, root_le hg.root hle⟩, fun v hv => ?_⟩
  · rcases hb with hb | hb
    · exact hg.sfin b hb
    · exact (hg.own i _ b ho hb).2.1
  · rcases hb with hb | hb
    · exact hg.src b hb hlt
    · rcases (hg.own i _ b ho hb).1 with h1 | h1
      · omega
      · exact .inr h1
  · rcases hcase j oj hj with ⟨hne, hj⟩ | ⟨rfl, rfl⟩
    · exact (hg.objs j oj hj).keep hl (by rw [hg.n]; exact get_lt hj) (fun _ _ => rfl)
    · trivial
  · rcases hcase j oj hj with ⟨hne, hj⟩ | ⟨rfl, rfl⟩
    · obtain ⟨h1, h2, h3⟩ := hg.own j oj b hj (by cases oj <;> exact hb)
      refine ⟨h1, h2, fun hS => ?_⟩
      rcases hS with hS | hS
      · exact h3 hS
      · exact hne (hg.sep j i oj _ b hj ho (by cases oj <;> exact hb) hS)
    · cases hb
  · rcases hcase j oj hj with ⟨hnj, hj⟩ | ⟨rfl, rfl⟩
    · rcases hcase k ok hk with ⟨hnk, hk⟩ | ⟨rfl, rfl⟩
      · exact hg.sep j k oj ok b hj hk (by cases oj <;> exact hbj) (by cases ok <;> exact hbk)
      · cases hbk
    · cases hbj
  · obtain ⟨b, cells, e, h1, h2, h3, h4⟩ := hob
    obtain ⟨⟨_, b', hb', e1⟩, _, e3⟩ := hv
    have e3 := e3 rfl
    rw [h1] at hb'
    simp only [blockOf, Option.some.injEq] at hb'
    subst hb'
    have ev : v = .pointer (some ⟨b, 0, none⟩) := by
      cases v <;> simp [Value.cells, offOf] at e1 e3 <;> simp [e1]
    rw [ev]
    have h4 : RepC w c.S t x cells.toList := h4
    refine val_roa (ds := cells.toList) (.inr (by rw [h1]; rfl)) (RepC.keep (fun b hb => .inl hb) (.refl _ _) _ _ _ h4) fun j u hj => ?_
    simp only [Nat.zero_add]
    unfold World.cell?
    simp only [h2]
    simpa using hj
theorem at_shut {F : Fr} {K : Act → World → Prop} {env : St} {h : List Obj} (i : Nat) {n : Nat} {t : Ty} {x : t.den} (ho : h[i]? = some (.box n (.val t x))) (hk : At F K (env.map fun p => (p.1, thawB i t x p.2)) (h.set i .dead)) : At F K env h := fun c a w hs => by
  obtain ⟨c', hl, hn, hg, hv⟩ := hs.good.shut ho
  refine hk c' a w ⟨hg, hs.glob.mono hl.le.S hl.same, fun s => ?_, hs.size, hs.defers⟩
  rw [look_map (thawB i t x) rfl]
  have h0 := hs.env s
  generalize look env s = v at h0
  generalize a.tmps.getD s Go.undef = u at h0
  cases v with
  | ptr j p =>
    cases p with
    | nil =>
      simp only [thawB]
      split
      · rename_i e; subst e; exact hv u h0
      · exact hl.val h0
    | cons _ _ =>
      simp only [thawB]
      split
      · trivial
      · exact hl.val h0
  | fn f l1 l2 =>
    simp only [thawB]
    split
    · trivial
    · exact hl.val h0
  | agg vs => trivial
  | tup vs => trivial
  | _ => exact hl.val h0
theorem tri_shut {F : Fr} {x : Code} {Q : Exit → Act → World → Prop} {env : St} {h : List Obj} (i : Nat) {n : Nat} {t : Ty} {y : t.den} (ho : h[i]? = some (.box n (.val t y))) (hk : Tri F x Q (env.map fun p => (p.1, thawB i t y p.2)) (h.set i .dead)) : Tri F x Q env h := fun hok => at_shut i ho (hk hok)
def mSpec (a : Ty) (r : RK) (m : a.den → Option r.ty.den) : FSpec := ⟨a, r, fun x => (m x).isSome = true, fun x => (m x).getD r.ty.zero⟩
section
variable {P : Program} {E : Env}
theorem fok_model {f : FuncId} {fn : Func} {body : Code} {a : Ty} {r : RK} {m : a.den → Option r.ty.den} (hE : EnvOK P E) (hf : P.funcs[f]? = some fn) (hb : fn.body = some body) (hok : okCode fn.ntmps body = true) (hn : nargs a ≤ fn.ntmps)
    (ht : ∀ (w0 : World) (S : Nat → Prop) (x : a.den) (y : r.ty.den), a.wf x → m x = some y → Tri (fr P E S w0 fn.ntmps) body (post P fn S w0 r y) (args0 a x 0) []) : FOK P E.G f (mSpec a r m) :=
  fok_of hE hf hb hok hn fun w0 S x hw hp => by
    have hp : (m x).isSome = true := hp
    obtain ⟨y, hy⟩ := Option.isSome_iff_exists.1 hp
    have e : (mSpec a r m).fn x = y := by show (m x).getD r.ty.zero = y; rw [hy]; rfl
    rw [e]
    exact ht w0 S x y hw hy
theorem fok_clean {G : Nat → AV} {f : FuncId} {a : Ty} {r : RK} {m : a.den → Option r.ty.den} {pre : a.den → Prop} {fn : a.den → r.ty.den} (h : FOK P G f (mSpec a r m)) (hc : ∀ x, a.wf x → pre x → m x = some (fn x)) : FOK P G f ⟨a, r, pre, fn⟩ := fun w S vs x hS hG ha hp => by
  have hm := hc x (args_wf _ _ _ ha) hp
  have := h w S vs x hS hG ha (by show (m x).isSome = true; rw [hm]; rfl)
  have e : (mSpec a r m).fn x = fn x := by show (m x).getD r.ty.zero = fn x; rw [hm]; rfl
  rw [e] at this
  exact this
end
attribute [go_sem] objsOf thawB
end Go.Vc
namespace Go.Vc
open Go.RowKit
def hitL : List (FuncId × Hit) → FuncId → List AV → List Obj → Option Hit
  | [], _, _, _ => none
  | (k, t) :: r, f, vs, h => if k = f then some t else hitL r f vs h
structure KnownG (P : Program) (G : Nat → AV) (l : List (FuncId × Hit)) : Prop where
  ok : ∀ p ∈ l, GOK P G p.1 p.2.sp ∧ fnB P p.1 = true
theorem KnownG.nil {P : Program} {G : Nat → AV} : KnownG P G [] := ⟨fun p hp => by cases hp⟩
theorem KnownG.cons {P : Program} {G : Nat → AV} {l : List (FuncId × Hit)} {f : FuncId} {t : Hit} (h : GOK P G f t.sp) (hf : fnB P f = true) (hl : KnownG P G l) : KnownG P G ((f, t) :: l) := by
  refine ⟨fun p hp => ?_⟩
  rcases List.mem_cons.1 hp with rfl | hp
  · exact ⟨h, hf⟩
  · exact hl.ok p hp
theorem hitL_mem : ∀ {l : List (FuncId × Hit)} {f : FuncId} {vs : List AV} {h : List Obj} {t : Hit}, hitL l f vs h = some t → (f, t) ∈ l
  | (k, s) :: r, f, vs, h, t, e => by
    simp only [hitL] at e
    split at e
    · rename_i ek; subst ek; cases e; exact List.mem_cons_self
    · exact List.mem_cons_of_mem _ (hitL_mem e)
theorem fn_of_B {P : Program} {f : FuncId} (h : fnB P f = true) : ∃ fn, P.funcs[f]? = some fn ∧ fn.name ≠ "runtime.NumGoroutine" ∧ fn.body.isSome = true := by
  unfold fnB at h
  split at h
  · rename_i fn hf
    simp only [Bool.and_eq_true, decide_eq_true_eq] at h
    exact ⟨fn, hf, h⟩
  · cases h
theorem hits_of {P : Program} {G : Nat → AV} {l : List (FuncId × Hit)} (h : KnownG P G l) : HitsOK P G (hitL l) :=
  ⟨fun f vs hh t e => (h.ok _ (hitL_mem e)).1, fun f vs hh t e => fn_of_B (h.ok _ (hitL_mem e)).2⟩
theorem bind_some {α β : Type} {x : Option α} {k : α → Option β} {r : β} (h : x.bind k = some r) : ∃ e, x = some e ∧ k e = some r := by
  cases x with
  | none => cases h
  | some e => exact ⟨e, rfl, h⟩
def rpV : AV → AV
  | .val (.rp t) x => .roa t x
  | v => v
theorem rpV_ok {c : Ctx} {w : World} {v : AV} {x : Value} (hv : ValR c w v x) : ValR c w (rpV v) x := by
  cases v with
  | val t y =>
    cases t with
    | rp t =>
      obtain ⟨⟨b, off, ds, e, hb, hd, hc⟩, _, h3⟩ := hv
      have h3 := h3 rfl
      have ex : x = .pointer (some ⟨b, off, none⟩) := by
        cases x <;> simp [Value.cells] at e h3 <;> simp [e]
      rw [ex]
      exact val_roa hb hd hc
    | _ => exact hv
  | _ => exact hv
section
variable {P : Program} {E : Env}
theorem gok_lift {f : FuncId} {fn : Func} {body : Code} {sp : GSpec} (hE : EnvOK P E) (hf : P.funcs[f]? = some fn) (hb : fn.body = some body) (hok : okCode fn.ntmps body = true) (hn : ∀ d, (sp.av d).length ≤ fn.ntmps)
    (ht : ∀ (c : Ctx) (w : World) (d : sp.D), AV.wfL (sp.av d) → Obj.wfL (sp.hp d) → sp.pre d → c.n = (sp.hp d).length → Tri ⟨P, E, GM sp c d, w, fn.ntmps, []⟩ body (bodyPost P fn (GEnd sp c w d)) (argE ((sp.av d).map rpV) 0) (sp.hp d)) : GOK P E.G f sp := by
  intro c w d vs hp hin
  refine calls_of_wp hf hb ?_
  refine ht c w d (vals_wf hin.len hin.val) (objs_wf hin.good) hp hin.good.n hok c _ w ⟨hin.good, hin.glob, ?_, ?_, rfl⟩
  · refine argE_ok _ vs.toList 0 (by rw [List.length_map]; exact hin.len) (fun i h1 h2 => ?_) fun i v hv => ?_
    · rw [List.getElem_map]; exact rpV_ok (hin.val i (by simpa using h1) h2)
    · have hlt : i < vs.size := by
        rcases Nat.lt_or_ge i vs.size with hh | hh
        · exact hh
        · rw [List.getElem?_eq_none (by simpa using hh)] at hv; cases hv
      simp only [Nat.zero_add]
      have : vs[i]? = some v := by rw [← Array.getElem?_toList]; exact hv
      simp [Array.getElem?_append, hlt]
      rw [Array.getElem?_eq_getElem hlt] at this
      simpa using this
  · have h1 := hin.len
    have h2 := hn d
    simp at h1
    simp
    omega
end
section
variable {P : Program} {E : Env} {M : Perm} {w0 : World} {nt : Nat} {ds : List Deferred} {h : List Obj} {env : St}
def readyN (ops : List Oper) (done : List Nat) : List Nat := (List.range ops.length).filter fun i => !done.contains i && (match ops[i]? with
  | some o => o.after.toList.all fun e => !Region.binds .any e || done.contains e.on
  | none => false)
def anyS (E : Env) (ops : List Oper) (K : St → List Obj → Prop) : Nat → List Nat → St → List Obj → Prop
  | 0, _, env, h => K env h
  | n + 1, done, env, h => ∀ i, i ∈ readyN ops done → match ops[i]? with
    | some o => o.guard = none ∧ (match stepB E env h o with
      | (p, v, h') => p ∧ anyS E ops K n (i :: done) (putE o.dst v env) h')
    | none => False
def backB (ops : List Oper) : Bool := ops.zipIdx.all fun p => p.1.after.toList.all fun e => !Region.binds .any e || decide (e.on < p.2)
theorem pigeonN : ∀ {l m : List Nat}, l.Nodup → (∀ x ∈ l, x ∈ m) → l.length ≤ m.length ∧ (l.length = m.length → ∀ x ∈ m, x ∈ l)
  | [], m, _, _ => ⟨by simp, fun h x hx => by
    have : m = [] := List.eq_nil_of_length_eq_zero (by simpa using h.symm)
    rw [this] at hx; cases hx⟩
  | a :: l, m, hn, hs => by
    have ha : a ∈ m := hs a (by simp)
    have hn' := List.nodup_cons.1 hn
    have hlen := List.length_erase_of_mem ha
    have hpos : 0 < m.length := List.length_pos_of_mem ha
    have rec_ := pigeonN (l := l) (m := m.erase a) hn'.2 (fun x hx => by
      have hne : x ≠ a := fun e => hn'.1 (e ▸ hx)
      exact (List.mem_erase_of_ne hne).2 (hs x (by simp [hx])))
    refine ⟨by simp only [List.length_cons]; omega, fun h x hx => ?_⟩
    by_cases e : x = a
    · subst e; simp
    · have := rec_.2 (by simp only [List.length_cons] at h; omega) x ((List.mem_erase_of_ne e).2 hx)
      simp [this]
theorem anyS_ok (hE : EnvOK P E) {ops : List Oper} {Q : Exit → Act → World → Prop} (hok : ∀ o ∈ ops, okOper nt o = true) {K : St → List Obj → Prop} (hK : ∀ env h c a w, K env h → Sim E M w0 nt ds c env h a w → Q .normal a w) (hb : backB ops = true) :
    ∀ (n : Nat) (done : List Nat) (listed : Array Bool), listed.size = ops.length → (∀ k, k < ops.length → (listed.getD k false = true ↔ k ∈ done)) → done.length + n = ops.length → done.Nodup → (∀ k ∈ done, k < ops.length) → ∀ (env : St) (h : List Obj) (c : Ctx) (a : Act) (w : World), anyS E ops K n done env h → Sim E M w0 nt ds c env h a w → wpAny P .any ops.toArray Q n listed a w
  | 0, done, listed, hsz, hl, hn, hd, hlt, env, h, c, a, w, hs, hsim => by
    refine ⟨?_, hK env h c a w hs hsim⟩
    rw [List.eq_nil_iff_forall_not_mem]
    intro j hj
    obtain ⟨h1, o, ho, _⟩ := mem_ready.1 hj
    have ho : ops[j]? = some o := by simpa using ho
    have hjl := tail_of.get_lt' ho
    have hall : j ∈ done := by
      exact (pigeonN hd (m := List.range ops.length) (fun k hk => List.mem_range.2 (hlt k hk))).2 (by simp; omega) j (List.mem_range.2 hjl)
    have := (hl j hjl).2 hall
    have hlt' : j < listed.size := by omega
    simp [hlt'] at h1 this
    rw [this] at h1; cases h1
  | n + 1, done, listed, hsz, hl, hn, hd, hlt, env, h, c, a, w, hs, hsim => by
    have hrd : ∀ j, j ∈ Region.ready .any ops.toArray listed → j ∈ readyN ops done ∧ j ∉ done ∧ j < ops.length := fun j hj => by
      obtain ⟨h1, o, ho, hall⟩ := mem_ready.1 hj
      have ho : ops[j]? = some o := by simpa using ho
      have hjl := tail_of.get_lt' ho
      have hlt' : j < listed.size := by omega
      have hnd : j ∉ done := fun hm => by
        have := (hl j hjl).2 hm
        simp [hlt'] at h1 this
        rw [this] at h1; cases h1
      refine ⟨?_, hnd, hjl⟩
      simp only [readyN, List.mem_filter, List.mem_range, ho, Bool.and_eq_true, Bool.not_eq_true', List.contains_eq_mem, decide_eq_false_iff_not, List.all_eq_true, Bool.or_eq_true, decide_eq_true_eq]
      refine ⟨hjl, hnd, fun e he => ?_⟩
      cases hbe : Region.binds .any e with
      | false => exact .inl rfl
      | true =>
        right
        have h5 := hall e (by simpa using he) hbe
        rcases Nat.lt_or_ge e.on ops.length with hh | hh
        · exact (hl _ hh).1 h5
        · simp [show ¬ e.on < listed.size by omega] at h5
    refine ⟨fun hr => ?_, fun j hj => ?_⟩
    · exfalso
      have hex : ∃ k, (k < ops.length ∧ k ∉ done) ∧ ∀ j, j < k → ¬ (j < ops.length ∧ j ∉ done) := by
        have hex : ∃ k, k < ops.length ∧ k ∉ done := by
          apply Classical.byContradiction
          intro hc
          have hsub : List.range ops.length ⊆ done := fun k hk => Classical.byContradiction fun hk2 => hc ⟨k, List.mem_range.1 hk, hk2⟩
          have := (pigeonN (List.nodup_range (n := ops.length)) (fun k hk => hsub hk)).1
          simp at this
          omega
        obtain ⟨n, h1, h2⟩ := least_of hex
        exact ⟨n, h1, fun j hj hp => by have := h2 j hp; omega⟩
      obtain ⟨k, ⟨hk, hkd⟩, hlow⟩ := hex
      have hmem : k ∈ Region.ready .any ops.toArray listed := by
        rw [mem_ready]
        have hlt' : k < listed.size := by omega
        have hun : ¬ listed.getD k false = true := fun h => hkd ((hl k hk).1 h)
        refine ⟨by simp [hlt'] at hun ⊢; exact hun, ops[k], by simp [hk], fun e he hbe => ?_⟩
        have hbk := List.all_eq_true.1 hb (ops[k], k) (by rw [List.mem_zipIdx_iff_getElem?]; exact List.getElem?_eq_getElem hk)
        have hbk := List.all_eq_true.1 hbk e (Array.mem_toList_iff.2 he)
        rw [hbe] at hbk
        simp at hbk
        have hne := hlow e.on hbk
        exact (hl _ (by omega)).2 (Classical.byContradiction fun hd => hne ⟨by omega, hd⟩)
      rw [hr] at hmem; cases hmem
    · obtain ⟨r1, r2, r3⟩ := hrd j hj
      have hs := hs j r1
      have hjo : ops[j]? = some ops[j] := List.getElem?_eq_getElem r3
      rw [hjo] at hs
      obtain ⟨hg, hp, hrest⟩ := hs
      have hokO := hok ops[j] (List.getElem_mem r3)
      have hw : Region.wanted ops[j] (yielded ops.toArray a.tmps) = true := by simp [Region.wanted, hg]
      unfold wpOp
      simp only [List.getElem?_toArray, hjo]
      rw [if_pos hw]
      left
      refine (step_ok hE hsim hokO hp).wp fun v w' c' ha => ?_
      refine anyS_ok hE hok hK hb n (j :: done) (listed.setIfInBounds j true) (by simp [hsz]) (fun k hk => ?_) (by simp; omega) (List.nodup_cons.2 ⟨r2, hd⟩) (fun k hk => ?_) _ _ c' _ w' hrest (hsim.after hokO ha)
      · by_cases e : j = k
        · subst e
          have : j < listed.size := by omega
          simp [this]
        · rw [getD_set_ne false e, hl k hk]
          constructor
          · intro h; exact List.mem_cons_of_mem _ h
          · intro h; exact (List.mem_cons.1 h).resolve_left (fun e' => e e'.symm)
      · rcases List.mem_cons.1 hk with rfl | hk
        · exact r3
        · exact hlt k hk
theorem tri_regionN {F : Fr} {Q : Exit → Act → World → Prop} {env : St} {h : List Obj} (hF : FrOK F) {id : Nat} {ops : Array Oper} (keep : List Nat) (env' : St) (h' : List Obj) (hb : backB ops.toList = true)
    (hv : anyS F.E ops.toList (fun e o => keep.map (fun t => (t, look e t)) = env' ∧ o = h') ops.toList.length [] env h) (hk : At F (Q .normal) env' h') : Tri F (.region id ops true) Q env h := fun hok c a w hs => by
  simp only [okCode, Bool.and_eq_true, Bool.or_eq_true, Bool.not_eq_true'] at hok
  obtain ⟨⟨h1, h2⟩, h3⟩ := hok
  refine wp_region_any hF.mix ?_
  have hlat : Later c w c { w with drawn := w.drawn + 1 } := ⟨.refl _, fun b hb => rfl⟩
  have hdr : Sim F.E F.M F.w0 F.nt F.ds c env h a { w with drawn := w.drawn + 1 } :=
    ⟨hs.good.step hlat rfl ⟨rfl, rfl, rfl, Nat.le_refl _, fun _ _ _ => rfl⟩ (fun _ _ _ _ _ => rfl) hs.good.sfin (fun _ hb => .inl hb), GlobR.mono (w := w) (w' := { w with drawn := w.drawn + 1 }) (fun _ hb => hb) hlat.same hs.glob, hs.env.keep hlat, hs.size, hs.defers⟩
  have := anyS_ok (Q := Q) hF.env (List.all_eq_true.1 h1) (K := fun e o => keep.map (fun t => (t, look e t)) = env' ∧ o = h') (fun e o c a w hkk hs => by
    obtain ⟨rfl, rfl⟩ := hkk
    exact hk c a w (hs.keep keep)) hb ops.toList.length [] (Array.replicate ops.size false) (by simp) (fun k hk => by rw [rep_false]; simp) (by simp) List.nodup_nil (fun k hk => by cases hk) env h c a _ hv hdr
  simpa using this
theorem fokD_model {f : FuncId} {fn : Func} {body : Code} {a : Ty} {r : RK} {m : a.den → Option r.ty.den} (hE : EnvOK P E) (hf : P.funcs[f]? = some fn) (hb : fn.body = some body) (hok : okCode fn.ntmps body = true) (hn : nargs a ≤ fn.ntmps)
    (ht : ∀ (w0 : World) (S : Nat → Prop) (x : a.den) (y : r.ty.den), a.wf x → m x = some y → Tri (fr P E S w0 fn.ntmps) body (postD P fn S w0 r y) (args0 a x 0) []) : FOK P E.G f (mSpec a r m) :=
  fokD_of hE hf hb hok hn fun w0 S x hw hp => by
    have hp : (m x).isSome = true := hp
    obtain ⟨y, hy⟩ := Option.isSome_iff_exists.1 hp
    have e : (mSpec a r m).fn x = y := by show (m x).getD r.ty.zero = y; rw [hy]; rfl
    rw [e]
    exact ht w0 S x y hw hy
def plainV : AV → Bool
  | .val _ _ => true
  | .tup vs => vs.all fun v => match v with | .val _ _ => true | _ => false
  | _ => false
theorem plain_ren {c : Ctx} {w : World} {σ : List Nat} {v : AV} {x : Value} (hp : plainV v = true) (hv : ValR c w v x) : ValR (c.ren σ) w v x := by
  cases v with
  | val t y => exact ren_val (σ := σ) hv
  | tup vs =>
    obtain ⟨xs, e, hl, hi⟩ := hv
    refine ⟨xs, e, hl, fun i h1 h2 => ?_⟩
    have hq := List.all_eq_true.1 hp vs[i] (List.getElem_mem h1)
    have := hi i h1 h2
    revert hq this
    generalize vs[i] = u
    intro hq this
    cases u <;> first | exact this | (simp at hq; done)
  | _ => simp [plainV] at hp
theorem at_retG2 {F : Fr} {fn : Func} {sp : GSpec} {c0 : Ctx} {d : sp.D} {env : St} {h h' : List Obj} {v : AV} (hF : FrOK F) (l : List ResultVar) (σ : List Nat) (hM : F.M = GM sp c0 d) (hds : F.ds = []) (hr : fn.results = l.toArray) (hnd : nodupB σ = true) (hpr : preB F.M.m σ = true) (hout : sp.out d = .ret v h') (hh : (σ.map fun i => renO σ (h.getD i .dead)) = h') (hfl : (match v with | .tup vs => vs.all flatB | _ => true) = true) (hpl : plainV v = true) (hy : (resE F.E.T h env l).1 ∧ retV h v (resE F.E.T h env l).2) :
    At F (bodyPost F.P fn (GEnd sp c0 F.w0 d) .ret) env h := fun c a w hs => by
  subst hh
  obtain ⟨us, q1, q2, q3⟩ := results_ok (P := F.P) hF.env.T hs.good hs.env hr hy.1
  refine ⟨hs.defers.trans hds, packV us, q1, c.ren σ, ?_⟩
  rw [hout]
  refine ⟨packV us, rfl, by rw [← hM]; exact hs.good.ren hnd hpr, plain_ren hpl ?_⟩
  have hy2 := hy.2
  generalize (resE F.E.T h env l).2 = rs at q2 q3 hy2
  cases v with
  | tup vs =>
    obtain ⟨h1, h2⟩ := hy2
    obtain ⟨k1, k2⟩ := fitT_ok hs.good h2 q2 q3
    refine ⟨us, ?_, k1, fun i p1 p2 => ?_⟩
    · match us, q2 with
      | [], _ => rfl
      | [x], q2 => exact absurd q2.symm h1
      | a :: b :: r, _ => rfl
    · have hfi := List.all_eq_true.1 hfl vs[i] (List.getElem_mem p1)
      exact val1_of (k2 i p1 p2).1 (k2 i p1 p2).2 (fun l e => by rw [e] at hfi; cases hfi) (fun e => by rw [e] at hfi; cases hfi)
  | _ =>
    match rs, hy2 with
    | [u], hy2 =>
      match us, q2 with
      | [x], _ => exact fitV_ok hs.good hy2 (q3 0 (by simp) (by simp))
theorem at_endN {F : Fr} {fn : Func} {R : Ending → World → Prop} {env : St} {h : List Obj} (hk : At F (bodyPost F.P fn R .ret) env h) : At F (bodyPost F.P fn R .normal) env h := hk
end
attribute [go_sem] hitL rpV
end Go.Vc
namespace Go.Vc
open Go.RowKit
section
variable {P : Program} {T : Tab} {H : Type} {enc : TypeId × Value → H} {w : World} {spare : Nat → Bool} {held : Bool}
def tabD (k : IntKind) (ys : List Nat) : DataW H := .agg (ys.map fun (y : Nat) => .lit (.int k (y : Int)))
theorem ones_flatten : ∀ (cs : List Value), ((List.range cs.length).map fun i => (cs.drop i).take 1).flatten = cs := by
  intro cs
  have e : ((List.range cs.length).map fun i => (cs.drop i).take 1) = cs.map fun c => [c] := by
    apply List.ext_getElem
    · simp
    · intro i h1 h2
      simp only [List.length_map, List.length_range] at h1
      simp only [List.getElem_map, List.getElem_range]
      rw [List.drop_eq_getElem_cons h1]
      rfl
  rw [e]
  clear e
  induction cs with
  | nil => rfl
  | cons c cs ih => simp [ih]
theorem tab_rep {S : Nat → Prop} (hT : TabOK P T) {n : Nat} {t : TypeId} {m : Nat} {k : IntKind} {cs : List Value} {p : List MemPlace} {ys : List Nat} (ht : T t = some (.arr m (.u k)))
    (h : DataW.trod enc P w 0 spare held n t cs = some (tabD k ys, p)) : RepC w S (.arr m (.u k)) ys cs := by
  obtain ⟨d, hd, hb⟩ := (hT _ _ ht).desc
  cases d <;> simp [descB] at hb
  obtain ⟨⟨⟨rfl, hb1⟩, hb2⟩, _⟩ := hb
  obtain ⟨xs, q, hq, hx, hlen, hxl, hf⟩ := DataW.trod_array hd h
  simp only [tabD, Prod.mk.injEq, DataW.agg.injEq] at hx
  rw [cellsOf_eq (hT _ _ ht)] at hlen
  rw [cellsOf_eq (hT _ _ hb1)] at hf
  have e1 : (Ty.u k).cells = 1 := rfl
  have e2 : (Ty.arr m (.u k)).cells = m := by show m * 1 = m; omega
  rw [e1] at hf
  rw [e2] at hlen
  have hyl : ys.length = m := by
    have := congrArg List.length hx.1
    simp only [List.length_map] at this
    omega
  obtain ⟨du, hdu, hbu⟩ := (hT _ _ hb1).desc
  cases du <;> simp [descB] at hbu
  obtain ⟨rfl, hs⟩ := hbu
  refine ⟨hyl, (List.range cs.length).map (fun i => (cs.drop i).take 1), (ones_flatten cs).symm, by simp; omega, fun i h1 h2 => ?_⟩
  have hi : i < m := by omega
  have h3 := hf i hi
  rw [Nat.mul_one, List.getElem?_eq_getElem (by omega)] at h3
  obtain ⟨v, g1, g2, g3⟩ := DataW.trod_int hdu h3
  simp only [List.getElem_map, List.getElem_range]
  have h4 : (xs.map (·.1))[i]? = (ys.map fun (y : Nat) => (DataW.lit (.int k (y : Int)) : DataW H))[i]? := by rw [hx.1]
  rw [List.getElem?_map, List.getElem?_map, List.getElem?_eq_getElem (by omega), List.getElem?_eq_getElem h1, g2] at h4
  simp only [Option.map_some, Option.some.injEq, DataW.lit.injEq, Lit.int.injEq, true_and] at h4
  rw [h4] at g1 g3
  simp only [Lit.wf, Bool.and_eq_true, decide_eq_true_eq] at g3
  exact ⟨g1, hs, g3.2⟩
theorem laid_mem {l : List (String × DataW Unit)} {n : String} {d : DataW Unit} (hm : (n, d) ∈ l) {ps : List MemPlace} (h : DataW.LaidVars P w l ps) :
    ∃ g t cs fuel p, P.globalNamed n = some g ∧ (P.globals[g]?).map (·.type) = some t ∧ w.var? P n = some cs ∧ DataW.trod (fun _ => ()) P w 0 (fun _ => true) false fuel t cs.toList = some (d, p) := by
  induction l generalizing ps with
  | nil => cases hm
  | cons x r ih =>
    obtain ⟨n', d'⟩ := x
    obtain ⟨g, t, cs, fuel, p, q, h1, h2, h3, h4, h5, _⟩ := h
    rcases List.mem_cons.1 hm with e | e
    · cases e
      exact ⟨g, t, cs, fuel, p, h1, h2, h3, h4⟩
    · exact ih e h5
theorem glob_tab (hT : TabOK P T) {l : List (String × DataW Unit)} (h : laidMet P l w) (n : String) (g : Nat) (t : TypeId) (m : Nat) (k : IntKind) (ys : List Nat) (hm : (n, tabD k ys) ∈ l) (hg : P.globalNamed n = some g)
    (ht : (P.globals[g]?).map (·.type) = some t) (hty : T t = some (.arr m (.u k))) (hm0 : 0 < m) : ValR ⟨Inside w, fun _ => Go.undef, 0⟩ w (.roa (.arr m (.u k)) ys) (.pointer (some ⟨g, 0, none⟩)) := by
  obtain ⟨ps, hv, _⟩ := h
  obtain ⟨g', t', cs, fuel, p, h1, h2, h3, h4⟩ := laid_mem hm hv
  obtain rfl := Option.some.inj (hg.symm.trans h1)
  obtain rfl := Option.some.inj (ht.symm.trans h2)
  have hr : RepC w (Inside w) (.arr m (.u k)) ys cs.toList := tab_rep hT hty h4
  have hc : cellsAt w g 0 cs.toList := fun j v hj => by
    have := World.var?_cell hg h3 j
    rw [Nat.zero_add, this]
    simpa using hj
  refine val_roa ?_ hr hc
  have hl := RepC.length _ _ _ hr
  have hl : cs.toList.length = m * 1 := hl
  have h0 : 0 < cs.toList.length := by omega
  exact cell_lt (hc 0 (cs.toList[0]'h0) (List.getElem?_eq_getElem h0))
end
end Go.Vc
