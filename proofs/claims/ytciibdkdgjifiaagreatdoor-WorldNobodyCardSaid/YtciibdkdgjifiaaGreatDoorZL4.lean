/-
  An interpreter of the model's code, proved sound (part 4 of 4): no program text.
-/
import Derived.Test.YtciibdkdgjifiaaGreatDoorZL3
import Derived.Test.YtciibdkdgjifiaaGreatDoorZL1
import Derived.OpenShut
import Derived.ChangeArms
import Derived.FnData
import Derived.LaidMore
import Derived.Laws.Externs
import Derived.LaidHandle
import Derived.MakeChecks
import Derived.ChangeShapes
import Derived.ChangeSame
set_option linter.unusedVariables false
set_option linter.unusedSimpArgs false
namespace Go.It
open Go.RowKit
open Go.Vc (Keeps cellsAt)
set_option linter.unusedVariables false
set_option linter.constructorNameAsVariable false
section
variable {P : Program} {x : Fx} {nt : Nat} {ops : Array Oper} {L0 L' L1 : Nat → V} {m0 m' m1 : M} {T T1 T2 : List Stp} {ix : List Nat} {ρ0 ρ ρ' : Rho} {a0 a : Act} {w0 w w' : World} {S : Nat → Prop}
theorem IV.disj (p : Pl P x nt ops L0 L' m0 m' T ix ρ0 a0) (iv : IV x nt ops L0 L' m0 m' T w0 ρ0 a0 S a w ρ T1 T2 L1 m1) {s : Stp} (h1 : s ∈ T1) (h2 : s ∈ T2) : False := by
  have := p.nd
  rw [iv.eq, List.map_append, List.nodup_append] at this
  exact this.2.2 s.i (List.mem_map.2 ⟨s, h1, rfl⟩) s.i (List.mem_map.2 ⟨s, h2, rfl⟩) rfl
theorem IV.stay (p : Pl P x nt ops L0 L' m0 m' T ix ρ0 a0) (iv : IV x nt ops L0 L' m0 m' T w0 ρ0 a0 S a w ρ T1 T2 L1 m1) {s : Stp} (hs : s ∈ T) (hni : ¬ S s.i) (h2 : s ∈ T2 → cls x.cx s.o < 2) (hρ : ρ.le ρ') (hw : W w0 ρ' m1 w') (hex : Ext m0 ρ0 ρ') {u : Value} (hv : VR ρ' s.v u)
    (hno : ∀ s' ∈ T, ¬ S s'.i → s' ≠ s → cls x.cx s'.o = 2 → s'.wt = true → ρ' s'.m.nx = none) : IVx x nt ops L0 L' m0 m' T w0 ρ0 a0 (fun k => S k ∨ k = s.i) (a.put s.o.dst u) w' := by
  refine ⟨ρ', T1, T2, L1, m1, iv.eq, iv.c1, iv.c2, fun s' hs' hS => ?_, iv.la.imp id ?_, hw, hex, fun s' hs' hS => ?_, iv.ia.put p hρ hs hni hv⟩
  · rcases hS with hS | hS
    · exact iv.fr s' hs' hS
    · have := nd_inj p.nd (by rw [iv.eq]; exact List.mem_append_right _ hs') hs hS
      subst this
      exact h2 hs'
  · rintro ⟨T0, sl, h1, h2, h3⟩
    exact ⟨T0, sl, h1, .inl h2, h3⟩
  · exact hno s' hs' (fun h => hS (.inl h)) fun h => hS (.inr (by rw [h]))
theorem IV.adv (p : Pl P x nt ops L0 L' m0 m' T ix ρ0 a0) (iv : IV x nt ops L0 L' m0 m' T w0 ρ0 a0 S a w ρ T1 T2 L1 m1) {s : Stp} {A2 B : List Stp} (hT : T2 = A2 ++ s :: B) (hni : ¬ S s.i) (h2 : 2 ≤ cls x.cx s.o) (hρ : ρ.le ρ') (hw : W w0 ρ' s.m' w') (hex : Ext m0 ρ0 ρ') {u : Value} (hv : VR ρ' s.v u)
    (hno : ∀ s' ∈ T, ¬ S s'.i → s' ≠ s → cls x.cx s'.o = 2 → s'.wt = true → ρ' s'.m.nx = none) : IVx x nt ops L0 L' m0 m' T w0 ρ0 a0 (fun k => S k ∨ k = s.i) (a.put s.o.dst u) w' := by
  have hs2 : s ∈ T2 := by rw [hT]; simp
  have hs : s ∈ T := by rw [iv.eq]; exact List.mem_append_right _ hs2
  have hc2 := iv.c2
  rw [hT] at hc2
  obtain ⟨LA, mA, q1, q2⟩ := hc2.split
  obtain ⟨rfl, rfl, q3⟩ := q2.head
  refine ⟨ρ', T1 ++ A2 ++ [s], B, _, _, by rw [iv.eq, hT]; simp, (iv.c1.join q1).join (.cons s (.nil _ _)), q3, fun s' hs' hS => ?_, .inr ⟨T1 ++ A2, s, rfl, .inr rfl, h2⟩, hw, hex, fun s' hs' hS => ?_, iv.ia.put p hρ hs hni hv⟩
  · have hsB : s' ∈ T2 := by rw [hT]; exact List.mem_append_right _ (.tail _ hs')
    rcases hS with hS | hS
    · exact iv.fr s' hsB hS
    · exfalso
      have := p.nd
      rw [iv.eq, hT, List.map_append, List.map_append, List.map_cons, List.nodup_append] at this
      have := (List.nodup_append.1 this.2.1).2.1
      rw [List.nodup_cons] at this
      exact this.1 (List.mem_map.2 ⟨s', hs', hS⟩)
  · exact hno s' hs' (fun h => hS (.inl h)) fun h => hS (.inr (by rw [h]))
theorem nx_pos (p : Pl P x nt ops L0 L' m0 m' T ix ρ0 a0) {A B : List Stp} {s : Stp} (hT : T = A ++ s :: B) : m0.nx ≤ s.m.nx ∧ (∀ s' ∈ A, s'.m'.nx ≤ s.m.nx) ∧ ∀ s' ∈ B, s.m'.nx ≤ s'.m.nx := by
  have hc := p.ch
  rw [hT] at hc
  obtain ⟨LA, mA, q1, q2⟩ := hc.split
  obtain ⟨rfl, rfl, q3⟩ := q2.head
  have stA : ∀ s' ∈ A, StOK P x ops s' := fun s' h => p.st s' (by rw [hT]; exact List.mem_append_left _ h)
  have stB : ∀ s' ∈ B, StOK P x ops s' := fun s' h => p.st s' (by rw [hT]; exact List.mem_append_right _ (.tail _ h))
  refine ⟨q1.nx stA, fun s' h => ?_, fun s' h => ?_⟩
  · obtain ⟨A1, A2, rfl⟩ := List.append_of_mem h
    obtain ⟨_, _, _, r2⟩ := q1.split
    obtain ⟨_, _, r3⟩ := r2.head
    exact r3.nx fun t ht => stA t (List.mem_append_right _ (.tail _ ht))
  · obtain ⟨B1, B2, rfl⟩ := List.append_of_mem h
    obtain ⟨_, _, r1, r2⟩ := q3.split
    obtain ⟨_, rfl, _⟩ := r2.head
    exact r1.nx fun t ht => stB t (List.mem_append_left _ ht)
theorem nx_ne (p : Pl P x nt ops L0 L' m0 m' T ix ρ0 a0) {s s' : Stp} (hs : s ∈ T) (hs' : s' ∈ T) (hne : s' ≠ s) (h1 : cls x.cx s.o = 2) (h2 : s.wt = true) (h3 : cls x.cx s'.o = 2) (h4 : s'.wt = true) : s'.m.nx ≠ s.m.nx := by
  obtain ⟨A, B, hT⟩ := List.append_of_mem hs
  obtain ⟨_, q1, q2⟩ := nx_pos p hT
  have e1 := nx_of (p.st s hs) h1 h2
  have e2 := nx_of (p.st s' hs') h3 h4
  rw [hT] at hs'
  rcases List.mem_append.1 hs' with h | h
  · have := q1 s' h; omega
  · rcases List.mem_cons.1 h with h | h
    · exact absurd h hne
    · have := q2 s' h; omega
theorem Chain.nil_eq {L L' : Nat → V} {m m' : M} (h : Chain L m [] L' m') : m' = m := by cases h; rfl
theorem IV.last (p : Pl P x nt ops L0 L' m0 m' T ix ρ0 a0) (iv : IV x nt ops L0 L' m0 m' T w0 ρ0 a0 S a w ρ T1 T2 L1 m1) (hcl : Cl ops S) {s : Stp} (hs : s ∈ T1) (hni : ¬ S s.i) : cls x.cx s.o < 3 ∧ (0 < cls x.cx s.o → RkOK P x s m1) := by
  rcases iv.la with h | ⟨T0, sl, h1, h2, h3⟩
  · rw [h] at hs; cases hs
  · have hs0 : s ∈ T0 := by
      rw [h1] at hs
      rcases List.mem_append.1 hs with h | h
      · exact h
      · rw [List.mem_singleton.1 h] at hni; exact absurd h2 hni
    have hT : T = T0 ++ sl :: T2 := by rw [iv.eq, h1]; simp
    have hsT : s ∈ T := by rw [hT]; exact List.mem_append_left _ hs0
    have hlT : sl ∈ T := by rw [hT]; simp
    have hso := get_list.1 (p.st s hsT).1
    have hlo := get_list.1 (p.st sl hlT).1
    obtain ⟨rc, hO, hrc⟩ := p.ord hT
    have hm : s.i ∈ T0.map (·.i) := List.mem_map.2 ⟨s, hs0, rfl⟩
    have nah : ¬ hasB ((aheadL ops.toList []).getD sl.i 0) s.i = true := fun h => hni (hcl.ah p.ok sl.i sl.o hlo h2 s.i h)
    have h3' : cls x.cx s.o < 3 := by
      have hle : cls x.cx s.o ≤ 3 := by
        have := p.st s hsT
        cases hwt : s.wt with
        | true =>
          cases this.2.2.2 hwt with
          | a0 hk _ _ => omega
          | a1 hk _ _ => omega
          | b _ _ hk _ _ _ _ _ => omega
          | c hk _ => omega
        | false =>
          rcases Nat.lt_or_ge (cls x.cx s.o) 3 with h | h
          · omega
          · exact cls_le _
      rcases Nat.lt_or_ge (cls x.cx s.o) 3 with h | h
      · exact h
      · exact absurd (hO.eff s.i s.o hm hso (by omega)) nah
    refine ⟨h3', fun h0 => ?_⟩
    rcases hO.rck sl.o hlo h3 s.i s.o hm hso h0 h3' with h | h
    · exact absurd h nah
    · obtain ⟨sp, q1, q2, q3⟩ := hrc s.i h
      have hsp : sp ∈ T := by
        rw [hT]
        rcases List.mem_append.1 q1 with q1 | q1
        · exact List.mem_append_left _ q1
        · rw [List.mem_singleton.1 q1]; simp
      have := nd_inj p.nd hsp hsT q2
      subst this
      have hc := iv.c1
      rw [h1] at hc
      obtain ⟨_, _, _, r2⟩ := hc.split
      obtain ⟨_, _, r3⟩ := r2.head
      rw [r3.nil_eq]
      exact q3
theorem draw_step (p : Pl P x nt ops L0 L' m0 m' T ix ρ0 a0) (iv : IV x nt ops L0 L' m0 m' T w0 ρ0 a0 S a w ρ T1 T2 L1 m1) (hcl : Cl ops S) {s : Stp} (hs : s ∈ T) (hni : ¬ S s.i) (hrd : ∀ e ∈ s.o.after, Region.binds .any e = true → S e.on) {Q : Exit → Act → World → Prop} {K : Act → World → Prop}
    (hK : ∀ a' w', IVx x nt ops L0 L' m0 m' T w0 ρ0 a0 (fun k => S k ∨ k = s.i) a' w' → K a' w') : wpOp P ops Q s.i K a w := by
  have hst := p.st s hs
  have hso := get_list.1 hst.1
  have hgl : GR x.E ρ := fun g => (p.gl g).mono iv.ex.1
  obtain ⟨A, B, hT⟩ := List.append_of_mem hs
  obtain ⟨rc, hO, hrc⟩ := p.ord hT
  have hcT := p.ch
  rw [hT] at hcT
  obtain ⟨LA, mA, hcA, hcs⟩ := hcT.split
  obtain ⟨eL, em, hcB⟩ := hcs.head
  rw [eL, em] at hcA
  have hiA : s.i ∉ A.map (·.i) := fun h => by
    have := p.nd
    rw [hT, List.map_append, List.map_cons, List.nodup_append] at this
    exact this.2.2 s.i h s.i (.head _) rfl
  have look : ∀ {t : Nat}, (Operand.tmp t ∈ s.o.op.operands ∨ ∃ g pp, s.o.guard = some (g, pp) ∧ (ops[g]?).bind (·.dst) = some t) → VR ρ (s.L t) (a.tmps.getD t Go.undef) := fun ht => look_ok p iv.ia iv.ex.1 hcl hso hni hrd hT hcA hO hiA ht
  have svg : ∀ {mm : M}, W w0 ρ mm w → SvG x.E s.L w0 ρ mm a w s.o.op.operands := fun hw => ⟨hw, hgl, fun y hy => evG_ok hgl y fun t e => look (.inl (e ▸ hy))⟩
  have hwt := wt_ok hst.2.1 (a := a) (ρ := ρ) fun g pp d hg hd => look (.inr ⟨g, pp, hg, hd⟩)
  have ahead : s ∈ T2 → ∃ A2 B2, T2 = A2 ++ s :: B2 ∧ W w0 ρ s.m w := fun h2 => by
    obtain ⟨A2, B2, hT2⟩ := List.append_of_mem h2
    refine ⟨A2, B2, hT2, ?_⟩
    have hc2 := iv.c2
    rw [hT2] at hc2
    obtain ⟨_, _, r1, r2⟩ := hc2.split
    obtain ⟨rfl, rfl, _⟩ := r2.head
    have hT' : T = (T1 ++ A2) ++ s :: B2 := by rw [iv.eq, hT2]; simp
    obtain ⟨rc', hO', _⟩ := p.ord hT'
    exact iv.ahead p hcl hso hrd hT2 r1 hO'
  have where_ : s ∈ T1 ∨ s ∈ T2 := by
    have := hs
    rw [iv.eq] at this
    exact List.mem_append.1 this
  have same : ∀ s' ∈ T, ¬ S s'.i → s' ≠ s → cls x.cx s'.o = 2 → s'.wt = true → ρ s'.m.nx = none := fun s' h1 h2 _ h4 h5 => iv.no s' h1 h2 h4 h5
  have m0le : m0.nx ≤ s.m.nx := (nx_pos p hT).1
  have newb : ∀ {N : Nat}, cls x.cx s.o = 2 → s.wt = true → ρ s.m.nx = none → Ext m0 ρ0 (ext ρ s.m.nx (w.heap.size, 0, N)) ∧ ∀ s' ∈ T, ¬ S s'.i → s' ≠ s → cls x.cx s'.o = 2 → s'.wt = true → ext ρ s.m.nx (w.heap.size, 0, N) s'.m.nx = none := fun {N} h2 hw hn => by
    refine ⟨⟨iv.ex.1.trans (ext_le hn), fun k hk hlt => ?_⟩, fun s' h1 h2' h3 h4 h5 => ?_⟩
    · simp only [ext, if_neg (Nat.ne_of_lt (Nat.lt_of_lt_of_le hlt m0le))]
      exact iv.ex.2 k hk hlt
    · simp only [ext, if_neg (nx_ne p hs h1 h3 h2 hw h4 h5)]
      exact iv.no s' h1 h2' h4 h5
  unfold wpOp
  simp only [hst.1]
  rw [hwt]
  cases hw : s.wt with
  | false =>
    rw [if_neg (by simp)]
    have hv : VR ρ s.v Go.undef := by rw [(hst.2.2.1 hw).1]; simp only [VR, zR]; rfl
    refine hK _ _ ?_
    by_cases h : s ∈ T2 ∧ 2 ≤ cls x.cx s.o
    · obtain ⟨A2, B2, hT2, hW⟩ := ahead h.1
      exact iv.adv p hT2 hni h.2 (.refl _) (by rw [(hst.2.2.1 hw).2]; exact hW) iv.ex hv same
    · exact iv.stay p hs hni (fun h2 => by
        rcases Nat.lt_or_ge (cls x.cx s.o) 2 with h3 | h3
        · exact h3
        · exact absurd ⟨h2, h3⟩ h) (.refl _) iv.w iv.ex hv same
  | true =>
    rw [if_pos rfl]
    refine .inl ?_
    have plain : ∀ {mm : M}, cls x.cx s.o < 2 → W w0 ρ mm w → A1 P x s.o s.L mm s.v → s.o.wp P a w K Q := fun hk hW hA => by
      obtain ⟨u, h1, h2⟩ := hA w0 ρ a w (svg hW)
      unfold Oper.wp
      rw [h1, Oper.upon_value]
      exact hK _ _ (iv.stay p hs hni (fun _ => hk) (.refl _) iv.w iv.ex h2 same)
    cases hst.2.2.2 hw with
    | a0 hk hm hA => exact plain (by omega) iv.w (hA m1)
    | a1 hk hm hA =>
      rcases where_ with h | h
      · rcases (iv.last p hcl h hni).2 (by omega) with r | ⟨_, r⟩ | ⟨r, _⟩
        · rw [hw] at r; cases r
        · exact plain (by omega) iv.w r
        · omega
      · obtain ⟨A2, B2, hT2, hW⟩ := ahead h
        exact plain (by omega) hW hA
    | b mkv b hk hn hv hm hmk hB =>
      rcases where_ with h | h
      · rcases (iv.last p hcl h hni).2 (by omega) with r | ⟨r, _⟩ | ⟨_, mkv', b', hv', hob', hB'⟩
        · rw [hw] at r; cases r
        · omega
        · obtain ⟨u, w', N, h1, h2, h3⟩ := hB' w0 ρ m1 a w (svg iv.w)
          have hnone := iv.no s hs hni hk hw
          obtain ⟨h4, h5⟩ := h3 (ext ρ s.m.nx (w.heap.size, 0, N)) s.m.nx (ext_le hnone) ext_at
          obtain ⟨n1, n2⟩ := newb (N := N) hk hw hnone
          have hlt : s.m.nx < m1.nx := by
            obtain ⟨A1, B1', hT1⟩ := List.append_of_mem h
            have hc1 := iv.c1
            rw [hT1] at hc1
            obtain ⟨_, _, _, r2⟩ := hc1.split
            obtain ⟨_, _, r3⟩ := r2.head
            have := r3.nx fun t ht => p.st t (by rw [iv.eq, hT1]; exact List.mem_append_left _ (List.mem_append_right _ (.tail _ ht)))
            have := nx_of hst hk hw
            omega
          unfold Oper.wp
          rw [h1, Oper.upon_value]
          exact hK _ _ (iv.stay p hs hni (fun h' => (iv.disj p h h').elim) (ext_le hnone) (iv.w.told h2 hnone hlt (Nat.le_refl _) (by rw [hob']; exact h5)) n1 (by rw [hv']; exact h4) n2)
      · obtain ⟨A2, B2, hT2, hW⟩ := ahead h
        obtain ⟨u, w', N, h1, h2, h3⟩ := hB w0 ρ s.m a w (svg hW)
        obtain ⟨hf, hnone⟩ := hW.fresh hn b
        obtain ⟨h4, h5⟩ := h3 (ext ρ s.m.nx (w.heap.size, 0, N)) s.m.nx (ext_le hnone) ext_at
        obtain ⟨n1, n2⟩ := newb (N := N) hk hw hnone
        unfold Oper.wp
        rw [h1, Oper.upon_value]
        exact hK _ _ (iv.adv p hT2 hni (by omega) (ext_le hnone) (by rw [hm]; exact hf.told h2 hnone (Nat.lt_succ_self _) (Nat.le_refl _) (by rw [ob_nw]; exact h5)) n1 (by rw [hv]; exact h4) n2)
    | c hk hC =>
      rcases where_ with h | h
      · have := (iv.last p hcl h hni).1; omega
      · obtain ⟨A2, B2, hT2, hW⟩ := ahead h
        refine hC.2 w0 ρ a w K Q (svg hW) fun ρ' u w' hE hW' hV => hK _ _ (iv.adv p hT2 hni (by omega) hE.1 hW' (iv.ex.trans m0le hE) hV fun s' h1 h2 h3 h4 h5 => ?_)
        have hno := iv.no s' h1 h2 h4 h5
        rcases Nat.lt_or_ge s'.m.nx s.m.nx with hlt | hge
        · exact hE.2 _ hno hlt
        · cases hr : ρ' s'.m.nx with
          | none => rfl
          | some y =>
            have hd := hW'.dom _ _ hr
            obtain ⟨_, q1, q2⟩ := nx_pos p hT
            have e2 := nx_of (p.st s' h1) h4 h5
            rw [hT] at h1
            rcases List.mem_append.1 h1 with g | g
            · have := q1 s' g; omega
            · rcases List.mem_cons.1 g with g | g
              · exact absurd g h3
              · have := q2 s' g; omega
theorem IV.cong {S' : Nat → Prop} (p : Pl P x nt ops L0 L' m0 m' T ix ρ0 a0) (h : ∀ k, k < ops.toList.length → (S k ↔ S' k)) (iv : IV x nt ops L0 L' m0 m' T w0 ρ0 a0 S a w ρ T1 T2 L1 m1) : IV x nt ops L0 L' m0 m' T w0 ρ0 a0 S' a w ρ T1 T2 L1 m1 := by
  have hlt : ∀ s ∈ T, s.i < ops.toList.length := fun s hs => lt_of_some (get_list.1 (p.st s hs).1)
  refine ⟨iv.eq, iv.c1, iv.c2, fun s hs hS => iv.fr s hs ((h _ (hlt s (by rw [iv.eq]; exact List.mem_append_right _ hs))).2 hS), ?_, iv.w, iv.ex, fun s hs hS => iv.no s hs fun h' => hS ((h _ (hlt s hs)).1 h'), iv.ia.cong h p⟩
  rcases iv.la with h0 | ⟨T0, sl, h1, h2, h3⟩
  · exact .inl h0
  · exact .inr ⟨T0, sl, h1, (h _ (hlt sl (by rw [iv.eq, h1]; simp))).1 h2, h3⟩
end
theorem draw_ok {P : Program} (hmix : P.follows .mixedOrders = true) (w00 : World) : DrawOK P := by
  intro x nt id ops f hx hE hd hf e m κ hcf h
  unfold trDraw at hf
  simp only at hf
  generalize hpl : planOf x.cx ops.toList = pl at hf
  generalize setOf _ = es at hf
  cases hok : (planOK x ops.toList pl && planOrd x.cx ops.toList (aheadL ops.toList []) es pl 0)
  · rw [hok] at hf
    simp only [cond_false, noR] at hf
    cases hf
    cases h
  · rw [hok] at hf
    simp only [cond_true] at hf
    rw [Bool.and_eq_true] at hok
    obtain ⟨k1, k2⟩ := hok
    have hP := plan_ok k1
    obtain ⟨T, L', m', hch, hst, hrc, hend⟩ := plan_tr (nt := nt) hx hE w00 pl x.cx (fun e => e) [] [] f (cx_ok x) rfl (fun d hd => by cases hd) hf [] e m κ hcf (fun p hp => by cases hp) h
    have hordp : ∀ {A B : List (Nat × List Nat)} {i : Nat} {rc : List Nat}, pl = A ++ (i, rc) :: B → Ord x.cx ops.toList (A.map (·.1)) i rc := fun e => by
      have := ord_ok (S := []) k2 (fun k hk => by rw [hasB_zero] at hk; cases hk) (fun k hk => by cases hk) (fun k ok hk => by cases hk) e
      simpa using this
    have hord : ∀ {A B : List Stp} {s : Stp}, T = A ++ s :: B → ∃ rc, Ord x.cx ops.toList (A.map (·.i)) s.i rc ∧ ∀ k ∈ rc, ∃ sp ∈ A ++ [s], sp.i = k ∧ RkOK P x sp s.m' := fun e => by
      obtain ⟨A', rc, B', h1, h2, h3⟩ := hrc.split e
      refine ⟨rc, ?_, by simpa using h3⟩
      rw [← h2]; exact hordp h1
    have hnd : (T.map (·.i)).Nodup := by
      have := hP.nd
      rcases hend with ⟨q1, _⟩ | ⟨p, l2, _, _, _, _, q1, _⟩
      · rwa [q1] at this
      · rw [q1] at this; exact (List.nodup_append.1 this).1
    have hpl : ∀ {w0 : World} {ρ : Rho} {a : Act} {w : World}, Sx x nt w0 ρ e m a w → Pl P x nt ops (fun t => x.cx.look t e) L' m m' T (pl.map (·.1)) ρ a := fun hs => ⟨hP, hch, hst, hnd, hord, hd, hs.env, hs.gl⟩
    have hnx := hch.nx hst
    have walk : ∀ {w0 : World} {ρ : Rho} {a : Act} {w : World} {Q : Exit → Act → World → Prop}, Sx x nt w0 ρ e m a w →
        (∀ a' w', IVx x nt ops (fun t => x.cx.look t e) L' m m' T w0 ρ a (fun k => k < ops.toList.length) a' w' → Q .normal a' w') →
        (∀ (S : Nat → Prop) (i : Nat) (o : Oper) a' w', ops.toList[i]? = some o → i ∉ T.map (·.i) → Cl ops S → (∀ e ∈ o.after, Region.binds .any e = true → S e.on) → ¬ S i → IVx x nt ops (fun t => x.cx.look t e) L' m m' T w0 ρ a S a' w' → ∀ K, wpOp P ops Q i K a' w') →
        (Code.region id ops true).wp P Q a w := fun {w0 ρ a w Q} hs hfin hpan => by
      have p := hpl hs
      refine wp_region_any hmix ?_
      have hbut : But w.heap.size w { w with drawn := w.drawn + 1 } := ⟨rfl, rfl, rfl, Nat.le_refl _, fun _ _ _ => rfl⟩
      have := any_inv (P := P) (ops := ops.toList) (Q := Q) (IVx x nt ops (fun t => x.cx.look t e) L' m m' T w0 ρ a) (fun S S' a w hc ⟨ρ', T1, T2, L1, m1, iv⟩ => ⟨ρ', T1, T2, L1, m1, iv.cong p hc⟩) hP.back hfin
        (fun S i o a' w' ho hni hcl hrd hinv K hK => by
          rw [Array.toArray_toList]
          by_cases hi : i ∈ T.map (·.i)
          · obtain ⟨s, hsT, rfl⟩ := List.mem_map.1 hi
            have hso := get_list.1 (hst s hsT).1
            rw [ho] at hso
            cases hso
            obtain ⟨ρ', T1, T2, L1, m1, iv⟩ := hinv
            exact draw_step p iv ⟨hcl⟩ hsT hni hrd hK
          · exact hpan S i o a' w' ho hi ⟨hcl⟩ hrd hni hinv K)
        ops.size (Array.replicate ops.size false) (by simp) (by
          rw [List.filter_eq_self.2 (fun k hk => by simp at hk; simp [hk])]; simp) (fun k o ho hl => by
          exfalso
          by_cases hk : k < ops.size <;> simp [hk] at hl) a { w with drawn := w.drawn + 1 } ⟨ρ, [], T, _, _, rfl, .nil _ _, hch, fun s hs' hl => by
            exfalso
            by_cases hk : s.i < ops.size <;> simp [hk] at hl, .inl rfl, hs.w.same hbut, .refl _ _, fun s hs' _ h2 hw => by
            obtain ⟨A, B, hT⟩ := List.append_of_mem hs'
            have := (nx_pos p hT).1
            cases hr : ρ s.m.nx with
            | none => rfl
            | some y => have := hs.w.dom _ _ hr; omega, ⟨fun s hs' hl => by
            exfalso
            by_cases hk : s.i < ops.size <;> simp [hk] at hl, fun t _ => rfl, hs.sz, rfl, fun k hk hl => by
            exfalso
            by_cases hk : k < ops.size <;> simp [hk] at hl⟩⟩
      rwa [Array.toArray_toList] at this
    rcases hend with ⟨q1, e', q2, q3⟩ | ⟨pp, l2, o, u, e', m2, q1, q2, q3, q4, q5⟩
    · refine ⟨none, e', m', q2, hnx, fun w0 ρ a w Q hs hQ => walk hs (fun a' w' hinv => ?_) fun S i o a' w' ho hi => ?_⟩
      · obtain ⟨ρ', T1, T2, L1, m1, iv⟩ := hinv
        have p := hpl hs
        have hlt : ∀ s ∈ T, s.i < ops.toList.length := fun s hs => lt_of_some (get_list.1 (hst s hs).1)
        have sub2 : ∀ s ∈ T2, s ∈ T := fun s h => by rw [iv.eq]; exact List.mem_append_right _ h
        have em : m' = m1 := iv.c2.still (fun s h => hst s (sub2 s h)) fun s h => iv.fr s h (hlt s (sub2 s h))
        refine hQ .normal a' w' ⟨ρ', iv.ex, trivial, q3 w0 ρ' a' w' (by rw [em]; exact iv.w) (fun g => (hs.gl g).mono iv.ex.1) (fun t => ?_) (fun t t1 t2 t3 => ?_) iv.ia.sz (by rw [iv.ia.df]; exact hs.df.mono iv.ex.1)⟩
        · by_cases ht : ∃ s ∈ T, s.o.dst = some t
          · obtain ⟨s, hsT, hd⟩ := ht
            rw [hch.at hsT hd fun s' hs' hd' => nd_inj hnd hs' hsT (hP.uniq _ _ _ _ _ (get_list.1 (hst s hsT).1) (get_list.1 (hst s' hs').1) hd hd')]
            exact iv.ia.v s hsT (hlt s hsT) t hd
          · rw [hch.ne fun s hsT hd => ht ⟨s, hsT, hd⟩, iv.ia.o t fun k ok hS hok hd => ?_]
            · exact (hs.env t).mono iv.ex.1
            · obtain ⟨s, hsT, rfl⟩ := iv.ia.in_ k hS hS
              have := get_list.1 (hst s hsT).1
              rw [hok] at this
              cases this
              exact ht ⟨s, hsT, hd⟩
        · rw [iv.ia.o t fun k ok hS hok hd => ?_]
          · have := (hs.env t).mono iv.ex.1
            rwa [look_cx t1] at this
          · obtain ⟨s, hsT, rfl⟩ := iv.ia.in_ k hS hS
            have := get_list.1 (hst s hsT).1
            rw [hok] at this
            cases this
            exact t3 s hsT hd
      · exact absurd (q1 ▸ hP.all i (lt_of_some ho)) hi
    · have q2' := get_list.1 q2
      have hpT : pp ∉ T.map (·.i) := fun hm => by
        have := hP.nd
        rw [q1, List.nodup_append] at this
        exact this.2.2 pp hm pp (.head _) rfl
      obtain ⟨A', B', e1, e2, e3⟩ := List.map_eq_append_iff.1 q1
      obtain ⟨⟨p', rc⟩, B2, rfl, e4, e5⟩ := List.map_eq_cons_iff.1 e3
      have e4 : p' = pp := e4
      subst e4
      refine ⟨some (.pan u), e', m2, q3, Nat.le_trans hnx q5.2.1, fun w0 ρ a w Q hs hQ => walk hs (fun a' w' hinv => ?_) fun S i o' a' w' ho hi hcl hrd hni hinv K => ?_⟩
      · obtain ⟨ρ', T1, T2, L1, m1, iv⟩ := hinv
        obtain ⟨s, hsT, hsi⟩ := iv.ia.in_ p' (lt_of_some q2') (lt_of_some q2')
        exact absurd (List.mem_map.2 ⟨s, hsT, hsi⟩) hpT
      · obtain ⟨ρ', T1, T2, L1, m1, iv⟩ := hinv
        have p := hpl hs
        have hmem := hP.all i (lt_of_some ho)
        rw [q1] at hmem
        rcases List.mem_append.1 hmem with hm | hm
        · exact absurd hm hi
        · rcases List.mem_cons.1 hm with rfl | hm
          · rw [ho] at q2'
            cases q2'
            have hO := hordp e1
            rw [e2] at hO
            have hgl : GR x.E ρ' := fun g => (hs.gl g).mono iv.ex.1
            have look : ∀ {t : Nat}, (Operand.tmp t ∈ o.op.operands ∨ ∃ g pp, o.guard = some (g, pp) ∧ (ops[g]?).bind (·.dst) = some t) → VR ρ' (L' t) (a'.tmps.getD t Go.undef) := fun ht => look_ok (R := []) p iv.ia iv.ex.1 hcl ho hni hrd (by simp) hch hO hi ht
            have hW : W w0 ρ' m' w' := iv.ahead (A2 := T2) (R := []) p hcl ho hrd (by simp) iv.c2 (by rw [← iv.eq]; exact hO)
            have hwt := wt_ok q4 (a := a') (ρ := ρ') fun g pp d hg hd => look (.inr ⟨g, pp, hg, hd⟩)
            unfold wpOp
            simp only [q2]
            rw [hwt, if_pos rfl]
            refine .inl (q5.2.2 w0 ρ' a' w' K Q ⟨hW, hgl, fun y hy => evG_ok hgl y fun t e => look (.inl (e ▸ hy))⟩ (fun t ht h0 => ?_) iv.ia.sz (by rw [iv.ia.df]; exact hs.df.mono iv.ex.1) fun ex a2 w2 hp => hQ ex a2 w2 (hp.back iv.ex hnx))
            rw [hch.ne fun s hsT hd => hP.ks _ _ _ (get_list.1 (hst s hsT).1) hd ht, iv.ia.o t fun k ok hS hok hd => hP.ks _ _ _ hok hd ht]
            exact (hs.env t).mono iv.ex.1
          · exfalso
            rw [← e5] at hm
            obtain ⟨⟨i', rci⟩, hmB, rfl⟩ := List.mem_map.1 hm
            obtain ⟨B3, B4, rfl⟩ := List.append_of_mem hmB
            have hO := hordp (A := A' ++ (p', rc) :: B3) (B := B4) (i := i') (rc := rci) (by rw [e1]; simp)
            have hS := hcl.rd hP ho hrd (hO.eff p' o (by simp) q2' q5.1)
            obtain ⟨s, hsT, hsi⟩ := iv.ia.in_ p' (lt_of_some q2') hS
            exact hpT (List.mem_map.2 ⟨s, hsT, hsi⟩)
end Go.It
namespace Go.It
open Go.RowKit
open Go.Vc (Keeps cellsAt)
set_option linter.unusedVariables false
set_option linter.constructorNameAsVariable false
theorem mkT_get {α : Type} (z : α) : ∀ (l : List (Nat × α)) (k : Nat), (∀ p ∈ l, p.1 < 4096) → k < 4096 → get 4 k (mkT z l) = z ∨ ∃ p ∈ l, p.1 = k ∧ p.2 = get 4 k (mkT z l)
  | [], k, _, _ => .inl (get_all z 4 k)
  | (n, x) :: l, k, hl, hk => by
    by_cases e : n = k
    · subst e
      exact .inr ⟨(n, x), .head _, rfl, by rw [mkT, get_upd]⟩
    · rw [mkT, get_upd_ne 4 n k x _ (hl _ (.head _)) hk e]
      exact (mkT_get z l k (fun p hp => hl p (.tail _ hp)) hk).imp id fun ⟨p, h1, h2⟩ => ⟨p, .tail _ h1, h2⟩
def ttB (P : Program) (tt : List (TypeId × TI)) : Bool := tt.all fun p => Nat.blt p.1 4096 && tiB P p.1 p.2
theorem en_ok {P : Program} {tt : List (TypeId × TI)} {nl : List (FuncId × (List V → M → (V → Bool) → Bool))} {fs : List FuncId} {gl : Nat → V} (h : ttB P tt = true) : EnOK P (mkE P tt nl fs gl) := ⟨fun t ht => by
  have hall : ∀ p ∈ tt, p.1 < 4096 ∧ tiB P p.1 p.2 = true := fun p hp => by
    have := List.all_eq_true.1 h p hp
    simp only [Bool.and_eq_true] at this
    exact ⟨by simpa using this.1, this.2⟩
  have hlt : t < 4096 ∨ ¬ t < 4096 := Classical.em _
  unfold kn at ht
  unfold ti at ht ⊢
  rcases hlt with hlt | hlt
  · have hb : Nat.blt t 4096 = true := by simpa using hlt
    rw [hb] at ht ⊢
    simp only [cond_true] at ht ⊢
    rcases mkT_get noTI tt t (fun p hp => (hall p hp).1) hlt with e | ⟨p, h1, h2, h3⟩
    · have e : get 4 t (mkE P tt nl fs gl).tt = noTI := e
      rw [e] at ht
      cases ht
    · have h3 : p.2 = get 4 t (mkE P tt nl fs gl).tt := h3
      rw [← h3, ← h2]
      exact tiOK_of (hall p h1).2
  · have hb : Nat.blt t 4096 = false := by
      cases hb : Nat.blt t 4096 with
      | false => rfl
      | true => exact absurd (by simpa using hb) hlt
    rw [hb] at ht
    cases ht⟩
def ftB (P : Program) (fs : List FuncId) : Bool := fs.all fun f => Nat.blt f 4096 && match P.funcs[f]? with
  | some fn => (match fn.body with | some c => dstB fn.ntmps c && Nat.ble fn.ntmps 511 && fn.name != "runtime.NumGoroutine" | none => true)
  | none => true
theorem fn_ok {P : Program} {tt : List (TypeId × TI)} {nl : List (FuncId × (List V → M → (V → Bool) → Bool))} {fs : List FuncId} {gl : Nat → V} (h : ftB P fs = true) (hn : ∀ p ∈ nl, p.1 < 4096 ∧ NatOK P (mkE P tt nl fs gl) p.1 p.2) : FnOK P (mkE P tt nl fs gl) := by
  have hall : ∀ f ∈ fs, f < 4096 ∧ ∀ fn c, P.funcs[f]? = some fn → fn.body = some c → dstB fn.ntmps c = true ∧ fn.ntmps ≤ 511 ∧ fn.name ≠ "runtime.NumGoroutine" := fun f hf => by
    have := List.all_eq_true.1 h f hf
    simp only [Bool.and_eq_true] at this
    refine ⟨by simpa using this.1, fun fn c h1 h2 => ?_⟩
    have h3 := this.2
    rw [h1] at h3
    simp only [h2, Bool.and_eq_true] at h3
    exact ⟨h3.1.1, Nat.le_of_ble_eq_true h3.1.2, by simpa using h3.2⟩
  have hlt : ∀ p ∈ fnL P nl fs, p.1 < 4096 := fun p hp => by
    rcases List.mem_append.1 hp with hp | hp
    · obtain ⟨q, hq, rfl⟩ := List.mem_map.1 hp
      exact (hn q hq).1
    · obtain ⟨f, hf, he⟩ := List.mem_filterMap.1 hp
      cases hP : P.funcs[f]? with
      | none => rw [hP] at he; cases he
      | some fn => rw [hP] at he; cases he; exact (hall f hf).1
  have key : ∀ f fe, f < 4096 → get 4 f (mkE P tt nl fs gl).ft = fe → fe ≠ .no → (f, fe) ∈ fnL P nl fs := fun f fe hf he hno => by
    rcases mkT_get .no (fnL P nl fs) f hlt hf with e | ⟨p, h1, h2, h3⟩
    · exact absurd (he.symm.trans e) hno
    · have h3 : p.2 = fe := h3.trans he
      rw [← h2, ← h3]
      exact h1
  refine ⟨fun f cd nt res hf he => ?_, fun f g hf he => ?_, fun f g hf he => ?_⟩
  · rcases List.mem_append.1 (key f _ hf he (by simp)) with hp | hp
    · obtain ⟨q, hq, e⟩ := List.mem_map.1 hp
      cases e
    · obtain ⟨f', hf', e⟩ := List.mem_filterMap.1 hp
      cases hP : P.funcs[f']? with
      | none => rw [hP] at e; cases e
      | some fn =>
        rw [hP] at e
        simp only [Option.map_some, Option.some.injEq, Prod.mk.injEq] at e
        obtain ⟨rfl, e⟩ := e
        unfold fiOf at e
        cases hb : fn.body with
        | none => rw [hb] at e; cases e
        | some c =>
          rw [hb] at e
          cases e
          obtain ⟨h1, h2, h3⟩ := (hall f' hf').2 fn _ hP hb
          exact ⟨fn, hP, hb, rfl, rfl, h3, h1, h2⟩
  · rcases List.mem_append.1 (key f _ hf he (by simp)) with hp | hp
    · obtain ⟨q, hq, e⟩ := List.mem_map.1 hp
      cases e
      exact (hn q hq).2
    · obtain ⟨f', hf', e⟩ := List.mem_filterMap.1 hp
      cases hP : P.funcs[f']? with
      | none => rw [hP] at e; cases e
      | some fn =>
        rw [hP] at e
        simp only [Option.map_some, Option.some.injEq, Prod.mk.injEq] at e
        obtain ⟨rfl, e⟩ := e
        unfold fiOf at e
        cases hb : fn.body <;> rw [hb] at e <;> cases e
  · rcases List.mem_append.1 (key f _ hf he (by simp)) with hp | hp
    · obtain ⟨q, hq, e⟩ := List.mem_map.1 hp
      cases e
    · obtain ⟨f', hf', e⟩ := List.mem_filterMap.1 hp
      cases hP : P.funcs[f']? with
      | none => rw [hP] at e; cases e
      | some fn =>
        rw [hP] at e
        simp only [Option.map_some, Option.some.injEq, Prod.mk.injEq] at e
        obtain ⟨rfl, e⟩ := e
        unfold fiOf at e
        cases hb : fn.body <;> rw [hb] at e <;> cases e
structure Gt where
  g : Nat
  k : IntKind
  l : List Nat
def Gt.o (t : Gt) : O := .row false (t.l.map fun n => unb (mkK t.k) fun mk => mk n)
def mem0 (ts : List Gt) : M := ⟨mkT0 ts 0, ts.length⟩
where mkT0 : List Gt → Nat → QN HN O
  | [], _ => qall .no HN
  | t :: l, i => upd HN i t.o (mkT0 l (i + 1))
def gl0 : List Gt → Nat → Nat → V
  | [], _, _ => .z .j
  | t :: l, i, g => bif Nat.beq g t.g then .p i 0 else gl0 l (i + 1) g
def gtB (ts : List Gt) : Bool := Nat.ble ts.length 1000 && ts.all fun t => t.l.all fun n => Nat.blt n (2 ^ (t.k.bits - 1)) || (!t.k.signed && Nat.blt n (2 ^ t.k.bits))
def GtR (w : World) (t : Gt) : Prop := ∃ cs e fz, w.heap[t.g]? = some (.cells cs e fz) ∧ ∀ (i n : Nat), t.l[i]? = some n → cs[i]? = some (Value.int t.k (n : Int))
def rho0 (ts : List Gt) : Rho := fun a => (ts[a]?).map fun t => (t.g, 0, t.l.length)
theorem mem0_ob : ∀ (ts : List Gt) (i a : Nat) (t : Gt), i + ts.length ≤ 262144 → ts[a]? = some t → get HN (i + a) (mem0.mkT0 ts i) = t.o
  | t0 :: ts, i, 0, t, hl, h => by
    simp only [List.getElem?_cons_zero, Option.some.injEq] at h
    subst h
    exact get_upd HN i t0.o _
  | t0 :: ts, i, a + 1, t, hl, h => by
    have hlt := (List.getElem?_eq_some_iff.1 (by simpa using h : ts[a]? = some t)).1
    simp only [List.length_cons] at hl
    have := mem0_ob ts (i + 1) a t (by omega) (by simpa using h)
    rw [show i + 1 + a = i + (a + 1) from by omega] at this
    rw [← this]
    exact get_upd_ne HN i (i + (a + 1)) t0.o _ (by show i < 262144; omega) (by show i + (a + 1) < 262144; omega) (by omega)
theorem start_at {ts : List Gt} {w0 w : World} (hb : gtB ts = true) (hk : Keeps (fun _ => False) w0 w) (hg : ∀ t ∈ ts, GtR w t) : W w0 (rho0 ts) (mem0 ts) w := by
  simp only [gtB, Bool.and_eq_true, List.all_eq_true] at hb
  obtain ⟨hl, hn⟩ := hb
  have hl : ts.length ≤ 1000 := Nat.le_of_ble_eq_true hl
  have hob : ∀ a t, ts[a]? = some t → ob (mem0 ts) a = t.o := fun a t h => by
    have := mem0_ob ts 0 a t (by omega) h
    rwa [Nat.zero_add] at this
  have hat : ∀ a r b N, rho0 ts a = some (r, b, N) → ∃ t, ts[a]? = some t ∧ r = t.g ∧ b = 0 ∧ N = t.l.length := fun a r b N h => by
    unfold rho0 at h
    cases ht : ts[a]? with
    | none => rw [ht] at h; cases h
    | some t => rw [ht] at h; cases h; exact ⟨t, rfl, rfl, rfl, rfl⟩
  refine ⟨hk, fun a r b N h => ?_, fun a x h => ?_, by show ts.length ≤ 262144; omega, fun a a' r b N b' N' h1 h2 hs _ => ?_⟩
  · obtain ⟨t, ht, rfl, rfl, rfl⟩ := hat a r b N h
    rw [hob a t ht]
    obtain ⟨cs, e, fz, h1, h2⟩ := hg t (List.mem_of_getElem? ht)
    obtain ⟨mk, hmk, hmv⟩ := mk_ok t.k
    have ho : t.o = .row false (t.l.map mk) := by simp only [Gt.o, hmk, unb_mk]
    rw [ho]
    have hcell : ∀ j, w.cell? ⟨t.g, 0 + j, none⟩ = cs[j]? := fun j => by simp [World.cell?, h1]
    refine ⟨by simp [List.all_map, one_mk hmk], by simp, ⟨t.l.map fun (n : Nat) => Value.int t.k (n : Int), ?_, fun j v hj => ?_⟩, fun j hj => ?_, ⟨_, _, _, h1⟩, fun h => by cases h⟩
    rotate_left
    · rw [hcell]
      rw [List.getElem?_map] at hj
      cases hi : t.l[j]? with
      | none => rw [hi] at hj; cases hj
      | some n => rw [hi] at hj; cases hj; exact h2 j n hi
    · rw [hcell, h2 j _ (List.getElem?_eq_getElem hj)]
      rfl
    refine VRL.of (by simp) fun i v x hv hx => ?_
    rw [List.getElem?_map] at hv hx
    cases hi : t.l[i]? with
    | none => rw [hi] at hv; cases hv
    | some n =>
      rw [hi] at hv hx
      simp only [Option.map_some, Option.some.injEq] at hv hx
      subst hv hx
      have := hn t (List.mem_of_getElem? ht) n (List.mem_of_getElem? hi)
      rw [Bool.or_eq_true] at this
      have h2h := two_half t.k
      have hhp := half_pos t.k
      rcases this with h3 | h3
      · have h3 : n < 2 ^ (t.k.bits - 1) := by simpa using h3
        exact (hmv _ _ _).2 ⟨by rw [dec_small (.inr h3)], by omega⟩
      · rw [Bool.and_eq_true, Bool.not_eq_true'] at h3
        exact (hmv _ _ _).2 ⟨by rw [dec_small (.inl h3.1)], by simpa using h3.2⟩
  · obtain ⟨t, ht, _⟩ := hat a x.1 x.2.1 x.2.2 h
    exact (List.getElem?_eq_some_iff.1 ht).1
  · obtain ⟨t, ht, _⟩ := hat a _ _ _ h1
    rw [hob a t ht] at hs
    cases hs
theorem start_ok {ts : List Gt} {w : World} (hb : gtB ts = true) (hg : ∀ t ∈ ts, GtR w t) : W w (rho0 ts) (mem0 ts) w := start_at hb (.refl _ _) hg
theorem gl_ok {tt : QN 4 TI} {ft : QN 4 FE} (ts : List Gt) : GR ⟨tt, ft, gl0 ts 0⟩ (rho0 ts) := by
  have key : ∀ (l : List Gt) (i g : Nat), (∀ j t, l[j]? = some t → ts[i + j]? = some t) → VR (rho0 ts) (gl0 l i g) (.pointer (some ⟨g, 0, none⟩)) := by
    intro l
    induction l with
    | nil => intro i g _; exact VR.junk _ _
    | cons t l ih =>
      intro i g hl
      unfold gl0
      cases hb : Nat.beq g t.g
      · exact ih (i + 1) g fun j t' h => by
          have := hl (j + 1) t' (by simpa using h)
          rwa [show i + (j + 1) = i + 1 + j from by omega] at this
      · have hb := Nat.eq_of_beq_eq_true hb
        subst hb
        simp only [cond_true, VR]
        have := hl 0 t rfl
        rw [Nat.add_zero] at this
        exact ⟨t.g, 0, t.l.length, by simp only [rho0, this, Option.map_some], by simp⟩
  exact fun g => key ts 0 g fun j t h => by rwa [Nat.zero_add]
def isTrue (v : V) (_ : M) : Bool := match v with | .b true => true | _ => false
def noPan (_ : V) (_ : M) : Bool := false
theorem run_ok {P : Program} {E : En} (hmix : P.follows .mixedOrders = true) (hE : EnOK P E) (hF : FnOK P E) {f : FuncId} {fn : Func} {cd : Code} (h1 : P.funcs[f]? = some fn) (h2 : fn.body = some cd) (h3 : fn.name ≠ "runtime.NumGoroutine") {n : Nat} {vs : List V} {m : M} (h : callN E n f vs m isTrue noPan = true)
    {w : World} {ρ : Rho} (hw : W w ρ m w) (hg : GR E ρ) {xs : List Value} (hv : VRL ρ vs xs) : Calls P f xs.toArray w fun e w' => e = .returned (.bool true) ∧ Keeps (fun _ => False) w w' := by
  obtain ⟨p, u, m', k1, _, k2⟩ := callN_ok (draw_ok hmix w) w hE hF n f vs m isTrue noPan h
  cases p
  · have hu : u = .b true := by
      simp only [cond_false, isTrue] at k1
      split at k1
      · rfl
      · cases k1
    subst hu
    have fin : ∀ e w', CEnd w ρ m false (.b true) m' e w' → e = .returned (.bool true) ∧ Keeps (fun _ => False) w w' := fun e w' ⟨ρ', v, q1, q2, q3, q4⟩ => by
      simp only [VR] at q3
      subst q3
      exact ⟨q4, q2.keeps⟩
    rcases k2 w ρ w xs hw hg hv with ⟨v, w', r1, r2⟩ | ⟨r1, r2⟩
    · rw [run_enter h1 h2 h3] at r1
      cases r1
    · exact r2.mono fin
  · cases k1
end Go.It
namespace Go.It
open Go.RowKit
open Go.Vc (Keeps cellsAt)
set_option linter.unusedVariables false
set_option linter.constructorNameAsVariable false
def sub64Entry : Array Value → Sem Value := fun args => do
  let (x, y, b) ← Extern.MathBitsCarry.three "Sub64" args
  pure (Extern.MathBitsCarry.pair ((x + Extern.MathBitsCarry.m64 - y - b) % Extern.MathBitsCarry.m64) (if x < y + b then 1 else 0))
theorem run_sub64 {P : Program} (x y b : Nat) (hb : b ≤ 1) (w : World) :
    (sub64Entry #[.int .u64 x, .int .u64 y, .int .u64 b]).run P w =
      .ok (.tuple #[.int .u64 (((x + 18446744073709551616 - y - b) % 18446744073709551616 : Nat) : Int), .int .u64 ((if x < y + b then 1 else 0 : Nat) : Int)]) w := by
  have : b = 0 ∨ b = 1 := by omega
  rcases this with rfl | rfl <;> rfl
theorem vr3 {ρ : Rho} {a b d : Nat} {xs : List Value} (hv : VRL ρ [.w a, .w b, .w d] xs) : xs = [.int .u64 (a : Int), .int .u64 (b : Int), .int .u64 (d : Int)] ∧ a < 2 ^ 64 ∧ b < 2 ^ 64 := by
  simp only [VRL, VR] at hv
  obtain ⟨y1, r1, rfl, ⟨rfl, h1⟩, y2, r2, rfl, ⟨rfl, h2⟩, y3, r3, rfl, ⟨rfl, h3⟩, rfl⟩ := hv
  exact ⟨rfl, h1, h2⟩
section
variable {P : Program} {E : En} {f : FuncId} {fn : Func}
theorem nat_add (hf : P.funcs[f]? = some fn) (hname : (fn.name == "runtime.NumGoroutine") = false) (hb : fn.body.isNone = true) (hn : Extern.findNext fn = none) (he : Extern.find fn = some add64Entry) : NatOK P E f nAdd64 := fun vs m c h => by
  unfold nAdd64 n3 at h
  split at h
  · rename_i a b d
    obtain ⟨hd, h⟩ := bif_t h
    have hd := Nat.le_of_ble_eq_true hd
    refine ⟨_, h, fun w0 ρ w xs hw hg hv => .inl ?_⟩
    obtain ⟨rfl, ha, hb'⟩ := vr3 hv
    refine ⟨_, _, by rw [run_callFunc_extern hf hname hb hn he, run_add64 a b d (by omega) (by omega) (by omega) (by omega)]; rfl, _, rfl, ?_, ⟨rfl, rfl, rfl, Nat.le_refl _, fun _ _ _ => rfl⟩⟩
    simp only [VR, VRL]
    refine ⟨[.int .u64 (((a : Int) + b + d) % 18446744073709551616), .int .u64 (((a : Int) + b + d) / 18446744073709551616)], rfl, _, _, rfl, ⟨?_, ?_⟩, _, _, rfl, ⟨?_, ?_⟩, rfl⟩
    · congr 1
    · exact Nat.mod_lt _ (by decide)
    · congr 1
    · have : (a + b + d) / 18446744073709551616 ≤ 2 := by omega
      exact Nat.lt_of_le_of_lt this (by decide)
  · cases h
theorem nat_sub (hf : P.funcs[f]? = some fn) (hname : (fn.name == "runtime.NumGoroutine") = false) (hb : fn.body.isNone = true) (hn : Extern.findNext fn = none) (he : Extern.find fn = some sub64Entry) : NatOK P E f nSub64 := fun vs m c h => by
  unfold nSub64 n3 at h
  split at h
  · rename_i a b d
    obtain ⟨hd, h⟩ := bif_t h
    have hd := Nat.le_of_ble_eq_true hd
    refine ⟨_, h, fun w0 ρ w xs hw hg hv => .inl ?_⟩
    obtain ⟨rfl, ha, hb'⟩ := vr3 hv
    refine ⟨_, _, by rw [run_callFunc_extern hf hname hb hn he, run_sub64 a b d hd]; rfl, _, rfl, ?_, ⟨rfl, rfl, rfl, Nat.le_refl _, fun _ _ _ => rfl⟩⟩
    simp only [VR, VRL]
    have e1 : Nat.mod (Nat.add a (Nat.sub 36893488147419103232 (Nat.add b d))) 18446744073709551616 = (a + 18446744073709551616 - b - d) % 18446744073709551616 := by
      show (a + (36893488147419103232 - (b + d))) % 18446744073709551616 = _
      omega
    have e2 : (bif Nat.blt a (Nat.add b d) then 1 else 0) = if a < b + d then 1 else 0 := by
      by_cases hh : a < b + d
      · rw [if_pos hh, show Nat.blt a (Nat.add b d) = true from by simpa using hh]; rfl
      · rw [if_neg hh, show Nat.blt a (Nat.add b d) = false from by
          cases hq : Nat.blt a (Nat.add b d) with
          | false => rfl
          | true => exact absurd (by simpa using hq) hh]; rfl
    rw [e1, e2]
    refine ⟨_, rfl, _, _, rfl, ⟨rfl, Nat.mod_lt _ (by decide)⟩, _, _, rfl, ⟨rfl, ?_⟩, rfl⟩
    split <;> decide
  · cases h
end
def numE : V → V → Bool
  | .w a, .w b => Nat.beq a b
  | .i a, .i b => Nat.beq a b
  | .k k a, .k k' b => keq k k' && Nat.beq a b
  | _, _ => false
theorem numE_eq {u v : V} (h : numE u v = true) : u = v := by
  unfold numE at h
  split at h
  · rw [Nat.eq_of_beq_eq_true h]
  · rw [Nat.eq_of_beq_eq_true h]
  · rw [Bool.and_eq_true] at h; rw [keq_eq h.1, Nat.eq_of_beq_eq_true h.2]
  · cases h
def rowB (f : Nat → V) : List Nat → List V → Bool
  | [], _ => true
  | n :: ns, v :: vs => numE (f n) v && rowB f ns vs
  | _, _ => false
theorem rowB_get {f : Nat → V} : ∀ {ns : List Nat} {vs : List V}, rowB f ns vs = true → ∀ {i n : Nat}, ns[i]? = some n → vs[i]? = some (f n)
  | [], _, _, i, n, hi => by cases hi
  | n :: ns, [], h, _, _, _ => by cases h
  | n :: ns, v :: vs, h, i, k, hi => by
    simp only [rowB, Bool.and_eq_true] at h
    cases i with
    | zero => cases hi; rw [numE_eq h.1]; rfl
    | succ i => exact rowB_get h.2 (by simpa using hi)
def tabB (gl : Nat → V) (m : M) (t : Gt) : Bool := match gl t.g with
  | .p a o => bif Nat.beq o 0 then (match ob m a with | .row _ l => unb (mkK t.k) fun f => rowB f t.l l | _ => false) else false
  | _ => false
def tabsB (ts : List Gt) (m : M) : Bool := ts.all (tabB (gl0 ts 0) m)
theorem gt_of {ts : List Gt} {E : En} (hb : gtB ts = true) (he : E.gl = gl0 ts 0) {w0 : World} {ρ : Rho} {m : M} {w : World} (hw : W w0 ρ m w) (hg : GR E ρ) (ht : tabsB ts m = true) : ∀ t ∈ ts, GtR w t := fun t hm => by
  have h := List.all_eq_true.1 ht t hm
  unfold tabB at h
  have hv := hg t.g
  rw [he] at hv
  split at h
  · rename_i a o hgl
    obtain ⟨ho, h⟩ := bif_t h
    have ho := Nat.eq_of_beq_eq_true ho
    subst ho
    rw [hgl] at hv
    simp only [VR] at hv
    obtain ⟨r, b, N, h1, h2⟩ := hv
    have h2 : t.g = r ∧ b = 0 := by
      simp only [Value.pointer.injEq, Option.some.injEq, Addr.mk.injEq] at h2
      exact ⟨h2.1, by omega⟩
    obtain ⟨rfl, rfl⟩ := h2
    have hor := hw.obj a _ _ _ h1
    split at h
    · rename_i wr l hob
      rw [hob] at hor
      obtain ⟨q1, q2, ⟨xs, q3, q4⟩, q5, ⟨cs, e, fz, q6⟩, q7⟩ := hor
      obtain ⟨mk, hmk, hmv⟩ := mk_ok t.k
      rw [hmk, unb_mk] at h
      refine ⟨cs, e, fz, q6, fun i n hi => ?_⟩
      obtain ⟨x, hx, hvx⟩ := q3.get (rowB_get h hi)
      have hc := q4 i x hx
      have hcell : w.cell? ⟨t.g, 0 + i, none⟩ = cs[i]? := by simp [World.cell?, q6]
      rw [hcell] at hc
      rw [hc]
      obtain ⟨rfl, _⟩ := (hmv _ _ _).1 hvx
      simp only [gtB, Bool.and_eq_true, List.all_eq_true] at hb
      have := hb.2 t hm n (List.mem_of_getElem? hi)
      rw [Bool.or_eq_true] at this
      rcases this with h3 | h3
      · rw [dec_small (.inr (by simpa using h3))]
      · rw [Bool.and_eq_true, Bool.not_eq_true'] at h3
        rw [dec_small (.inl h3.1)]
    · cases h
  · cases h
def nTrue (ts : List Gt) (vs : List V) (m : M) (c : V → Bool) : Bool := match vs with
  | [] => bif tabsB ts m then c (.b true) else false
  | _ => false
theorem nat_true {P : Program} (hmix : P.follows .mixedOrders = true) {ts : List Gt} {tt : List (TypeId × TI)} {nl : List (FuncId × (List V → M → (V → Bool) → Bool))} {fs : List FuncId} (hE : EnOK P (mkE P tt nl fs (gl0 ts 0))) (hF : FnOK P (mkE P tt nl fs (gl0 ts 0))) {f : FuncId} {fn : Func} {cd : Code} (h1 : P.funcs[f]? = some fn) (h2 : fn.body = some cd) (h3 : fn.name ≠ "runtime.NumGoroutine")
    (hb : gtB ts = true) {n : Nat} (h : callN (mkE P tt nl fs (gl0 ts 0)) n f [] (mem0 ts) isTrue noPan = true) {E : En} (he : E.gl = gl0 ts 0) : NatOK P E f (nTrue ts) := fun vs m c hh => by
  unfold nTrue at hh
  split at hh
  · obtain ⟨ht, hh⟩ := bif_t hh
    refine ⟨_, hh, fun w0 ρ w xs hw hg hv => .inr ⟨run_enter h1 h2 h3, ?_⟩⟩
    have hx : xs = [] := by simpa only [VRL] using hv
    subst hx
    refine (run_ok hmix hE hF h1 h2 h3 h (start_ok hb (gt_of hb he hw hg ht)) (gl_ok ts) (xs := []) (by simp only [VRL])).mono fun e w' ⟨e1, hk⟩ => ⟨_, e1, by simp only [VR], hk.os, hk.tape, hk.output, hk.size, fun b hlt _ => hk.block b hlt (fun h => h)⟩
  · cases hh
def peel : Nat → Code → Code × Code
  | n + 1, .seq a b => (.seq a (peel n b).1, (peel n b).2)
  | _, c => (.skip, c)
theorem peel_or (n : Nat) (c : Code) : (∃ k a b, n = k + 1 ∧ c = .seq a b) ∨ peel n c = (.skip, c) := by
  cases n with
  | zero => exact .inr rfl
  | succ k => cases c <;> first | exact .inl ⟨_, _, _, rfl, rfl⟩ | exact .inr rfl
theorem peel_dst {nt : Nat} : ∀ (n : Nat) (c : Code), dstB nt c = true → dstB nt (peel n c).1 = true ∧ dstB nt (peel n c).2 = true := fun n => by
  induction n with
  | zero => exact fun c h => ⟨rfl, h⟩
  | succ k ih =>
    intro c h
    rcases peel_or (k + 1) c with ⟨_, a, b, _, rfl⟩ | e
    · simp only [dstB, Bool.and_eq_true] at h
      have := ih b h.2
      exact ⟨by simp only [peel, dstB, Bool.and_eq_true]; exact ⟨h.1, this.1⟩, this.2⟩
    · rw [e]; exact ⟨rfl, h⟩
def PW (P : Program) (n : Nat) (c : Code) (Q' : Exit → Act → World → Prop) (a : Act) (w : World) : Prop := ∀ Q, (∀ ex a w, Q' ex a w → Exit.then ((peel n c).2.wp P Q) Q ex a w) → c.wp P Q a w
theorem ExR.thru {ρ : Rho} {y : X} {ex : Exit} {K : Act → World → Prop} {Q : Exit → Act → World → Prop} {a : Act} {w : World} (h : ExR ρ (some y) ex) (hq : Exit.then K Q ex a w) : Q ex a w := by
  cases ex <;> first | exact hq | skip
  cases y <;> exact h.elim
theorem front_ok {P : Program} (hD : DrawOK P) (w00 : World) {x : Fx} {nt : Nat} (hx : XOK x) (hE : EnOK P x.E) : ∀ (n : Nat) (c : Code) (f : F x), dstB nt c = true → trC x (peel n c).1 = .mk f → CR P x nt (PW P n c) f := by
  have base : ∀ (n : Nat) (c : Code) (f : F x), peel n c = (.skip, c) → trC x (peel n c).1 = .mk f → CR P x nt (PW P n c) f := fun n c f e hf => by
    rw [e] at hf
    simp only [trC, Box.mk.injEq] at hf
    subst hf
    exact skip_ok fun Q a w h Q2 hq => by have := hq _ _ _ h; rw [e] at this; exact this
  intro n
  induction n with
  | zero => exact fun c f _ hf => base 0 c f rfl hf
  | succ k ih =>
    intro c f hd hf
    rcases peel_or (k + 1) c with ⟨_, a, b, _, rfl⟩ | e
    · simp only [dstB, Bool.and_eq_true] at hd
      have hf : trC x (.seq a (peel k b).1) = .mk f := hf
      cases ha : trC x a with
      | mk fa =>
        cases hb : trC x (peel k b).1 with
        | mk fb =>
          simp only [trC, ha, hb, unb_mk, Box.mk.injEq] at hf
          subst hf
          intro e m κ hcf h
          obtain ⟨y, e1, m1, h1, h2, h3⟩ := code_ok hD w00 hx hE a fa hd.1 ha e m ⟨κ.cf, fun e m => fb e m κ, κ.kx⟩ hcf h
          cases y with
          | none =>
            obtain ⟨y, e2, m2, k1, k2, k3⟩ := ih b fb hd.2 hb e1 m1 κ hcf h1
            refine ⟨y, e2, m2, k1, Nat.le_trans h2 k2, fun w0 ρ a w Q hs hQ Q2 hq2 => wp_seq (h3 w0 ρ a w _ hs fun ex a' w' hp => ?_)⟩
            obtain ⟨ρ', p1, p2, p3⟩ := hp
            obtain rfl := p2.norm
            exact k3 w0 ρ' a' w' Q p3 (fun ex a2 w2 hp2 => hQ ex a2 w2 (hp2.back p1 h2)) Q2 hq2
          | some y =>
            refine ⟨some y, e1, m1, h1, h2, fun w0 ρ a w Q hs hQ Q2 hq2 => wp_seq (h3 w0 ρ a w _ hs fun ex a' w' hp => ?_)⟩
            have := hq2 _ _ _ (hQ ex a' w' hp)
            obtain ⟨ρ', p1, p2, p3⟩ := hp
            exact p2.other (p2.thru this)
    · exact base _ c f e hf
def mask (x : Fx) : List (Nat × V) → x.ε
  | [] => upd x.n 0 (.z .u) (qall (.z .j) x.n)
  | (t, v) :: l => bif Nat.blt 0 (x.ix t) then upd x.n (x.ix t) v (mask x l) else mask x l
theorem mask_0 {x : Fx} (hx : XOK x) : ∀ l : List (Nat × V), get x.n 0 (mask x l) = .z .u
  | [] => get_upd _ _ _ _
  | (t, v) :: l => by
    unfold mask
    cases h : Nat.blt 0 (x.ix t)
    · exact mask_0 hx l
    · have h : 0 < x.ix t := by simpa using h
      rw [cond_true, get_upd_ne _ _ _ _ _ (hx.lt t) (Nat.pos_of_ne_zero (by simp)) (by omega)]
      exact mask_0 hx l
theorem mask_look {x : Fx} (hx : XOK x) (t : Nat) : ∀ l : List (Nat × V), x.cx.look t (mask x l) = .z .j ∨ (t, x.cx.look t (mask x l)) ∈ l := fun l => by
  by_cases hz : x.ix t = 0
  · exact .inl (look_cx0 hz)
  rw [look_cx hz]
  induction l with
  | nil =>
    refine .inl ?_
    unfold mask
    rw [get_upd_ne _ _ _ _ _ (Nat.pos_of_ne_zero (by simp)) (hx.lt t) (fun h => hz h.symm), get_all]
  | cons p l ih =>
    obtain ⟨s, v⟩ := p
    unfold mask
    cases h : Nat.blt 0 (x.ix s)
    · exact ih.imp id fun h => .tail _ h
    · have h : 0 < x.ix s := by simpa using h
      rw [cond_true]
      by_cases e : s = t
      · subst e
        rw [get_upd]
        exact .inr (.head _)
      · rw [get_upd_ne _ _ _ _ _ (hx.lt s) (hx.lt t) (fun h' => e (hx.inj s t (by omega) h'))]
        exact ih.imp id fun h => .tail _ h
def sameV : V → V → Bool
  | .s n x, .s n' x' => Nat.beq n n' && Nat.beq x x'
  | .b true, .b true => true
  | .b false, .b false => true
  | .i a, .i b => Nat.beq a b
  | _, _ => false
theorem sameV_eq {u v : V} (h : sameV u v = true) : u = v ∧ ∀ (ρ ρ' : Rho) (x : Value), VR ρ u x → VR ρ' u x := by
  unfold sameV at h
  split at h
  · rw [Bool.and_eq_true] at h
    exact ⟨by rw [Nat.eq_of_beq_eq_true h.1, Nat.eq_of_beq_eq_true h.2], fun ρ ρ' x hv => by simpa only [VR] using hv⟩
  · exact ⟨rfl, fun ρ ρ' x hv => by simpa only [VR] using hv⟩
  · exact ⟨rfl, fun ρ ρ' x hv => by simpa only [VR] using hv⟩
  · exact ⟨by rw [Nat.eq_of_beq_eq_true h], fun ρ ρ' x hv => by simpa only [VR] using hv⟩
  · cases h
def cutK (x : Fx) (ls : List (List (Nat × V))) (e : x.ε) : Bool := (match get x.n 0 e with | .z .u => true | _ => false) && ls.any fun l => l.all fun p => sameV (x.cx.look p.1 e) p.2
noncomputable def frontB (E : En) (n k : Nat) (ts : List Gt) (ls : List (List (Nat × V))) (vs : List V) : FE → Bool
  | .fi cd nt res => argsE (fxOf E cd nt res) vs 0 (qall (.z .u) _) fun e => unb (trC (fxOf E cd nt res) (peel k cd).1) fun code => code e (mem0 ts) ⟨callN E n, fun e _ => cutK (fxOf E cd nt res) ls e, fun _ _ _ => false⟩
  | _ => false
noncomputable def backB (E : En) (n k : Nat) (ts : List Gt) (l : List (Nat × V)) : FE → Bool
  | .fi cd nt res => unb (trC (fxOf E cd nt res) (peel k cd).2) fun code => code (mask (fxOf E cd nt res) l) (mem0 ts) ⟨callN E n, fun e m => finC (fxOf E cd nt res) (callN E n) res isTrue noPan none e m, kxF (fxOf E cd nt res) (callN E n) res isTrue noPan⟩
  | _ => false
theorem cut_ok {P : Program} (hmix : P.follows .mixedOrders = true) {ts : List Gt} {tt : List (TypeId × TI)} {nl : List (FuncId × (List V → M → (V → Bool) → Bool))} {fs : List FuncId} (hE : EnOK P (mkE P tt nl fs (gl0 ts 0))) (hF : FnOK P (mkE P tt nl fs (gl0 ts 0))) {f : FuncId} {fn : Func} {cd : Code} (h1 : P.funcs[f]? = some fn) (h2 : fn.body = some cd) (hd : dstB fn.ntmps cd = true) (hn : fn.ntmps ≤ 511)
    (hb : gtB ts = true) {n k : Nat} {ls : List (List (Nat × V))} {vs : List V} (hA : frontB (mkE P tt nl fs (gl0 ts 0)) n k ts ls vs (fiOf fn) = true) (hB : ∀ l ∈ ls, backB (mkE P tt nl fs (gl0 ts 0)) n k ts l (fiOf fn) = true)
    {w : World} (hg : ∀ t ∈ ts, GtR w t) {xs : List Value} (hv : VRL (rho0 ts) vs xs) : Calls P f xs.toArray w fun e w' => e = .returned (.bool true) ∧ Keeps (fun _ => False) w w' := by
  have hD := draw_ok hmix w
  have hcf := callN_ok hD w hE hF n
  generalize hEe : mkE P tt nl fs (gl0 ts 0) = E at *
  have hgl : GR E (rho0 ts) := hEe ▸ gl_ok ts
  have hfi : fiOf fn = .fi cd fn.ntmps fn.results.toList := by unfold fiOf; rw [h2]
  rw [hfi] at hA
  have hx := fx_ok E cd fn.results.toList hn
  generalize hxe : fxOf E cd fn.ntmps fn.results.toList = x at *
  have hxE : x.E = E := by rw [← hxe]; rfl
  have hA : (argsE (fxOf E cd fn.ntmps fn.results.toList) vs 0 (qall (.z .u) _) fun e => unb (trC (fxOf E cd fn.ntmps fn.results.toList) (peel k cd).1) fun code => code e (mem0 ts) ⟨callN E n, fun e _ => cutK (fxOf E cd fn.ntmps fn.results.toList) ls e, fun _ _ _ => false⟩) = true := hA
  rw [hxe, argsE_eq] at hA
  cases hc1 : trC x (peel k cd).1 with
  | mk code1 =>
    rw [hc1, unb_mk] at hA
    subst hxE
    obtain ⟨y, e1, m1, a1, a2, a3⟩ := front_ok hD w (nt := fn.ntmps) hx hE k cd code1 hd hc1 _ (mem0 ts) ⟨callN x.E n, fun e _ => cutK x ls e, fun _ _ _ => false⟩ hcf hA
    cases y with
    | some y => cases a1
    | none =>
      have a1 : cutK x ls e1 = true := a1
      unfold cutK at a1
      rw [Bool.and_eq_true, List.any_eq_true] at a1
      obtain ⟨az, l, hl, al⟩ := a1
      have az : get x.n 0 e1 = .z .u := by
        split at az
        · assumption
        · cases az
      rw [List.all_eq_true] at al
      have hB := hB l hl
      rw [hfi] at hB
      have hB : (unb (trC (fxOf x.E cd fn.ntmps fn.results.toList) (peel k cd).2) fun code => code (mask (fxOf x.E cd fn.ntmps fn.results.toList) l) (mem0 ts) ⟨callN x.E n, fun e m => finC (fxOf x.E cd fn.ntmps fn.results.toList) (callN x.E n) fn.results.toList isTrue noPan none e m, kxF (fxOf x.E cd fn.ntmps fn.results.toList) (callN x.E n) fn.results.toList isTrue noPan⟩) = true := hB
      rw [hxe] at hB
      cases hc2 : trC x (peel k cd).2 with
      | mk code2 =>
        rw [hc2, unb_mk] at hB
        obtain ⟨y, e2, m2, b1, b2, b3⟩ := code_ok hD w (nt := fn.ntmps) hx hE _ code2 (peel_dst k cd hd).2 hc2 _ (mem0 ts) ⟨callN x.E n, fun e m => finC x (callN x.E n) fn.results.toList isTrue noPan none e m, kxF x (callN x.E n) fn.results.toList isTrue noPan⟩ hcf hB
        have fin : ∃ p, finC x (callN x.E n) fn.results.toList isTrue noPan p e2 m2 = true ∧ ∀ (ρ' : Rho) (ex : Exit), ExR ρ' y ex → ∃ md, ModeR ρ' p md ∧ ∀ (R : Ending → World → Prop) (a : Act) (w : World), Leaves P fn a.tmps R a.defers md w → bodyPostD P fn R ex a w := by
          cases y with
          | none => exact ⟨none, b1, fun ρ' ex hex => ⟨.returning, rfl, fun R a w hl => by obtain rfl := hex.norm; exact hl⟩⟩
          | some y =>
            cases y with
            | ex i => cases b1
            | rt => exact ⟨none, b1, fun ρ' ex hex => ⟨.returning, rfl, fun R a w hl => by cases ex <;> first | exact hex.elim | exact hl⟩⟩
            | pan v =>
              refine ⟨some v, b1, fun ρ' ex hex => ?_⟩
              cases ex <;> first | exact hex.elim | skip
              obtain ⟨y, rfl, hv⟩ := hex
              exact ⟨_, ⟨y, rfl, hv⟩, fun R a w hl => hl⟩
        obtain ⟨p, hp, hex⟩ := fin
        obtain ⟨b, u, m3, c1, c2, c3⟩ := fin_ok hD w (x := x) hE hF rfl hcf hp
        cases b with
        | true => cases c1
        | false =>
          have hu : u = .b true := by
            simp only [cond_false, isTrue] at c1
            split at c1
            · rfl
            · cases c1
          subst hu
          refine calls_of_wp_defers h1 h2 ?_
          refine a3 w (rho0 ts) _ w _ (enter_sx hx (start_ok hb hg) hgl hv) (fun ex a' w' hpo => hpo) _ fun ex a' w' hpo => ?_
          obtain ⟨ρ', p1, p2, p3⟩ := hpo
          obtain rfl := p2.norm
          have hk := p3.w.keeps
          have hg' : ∀ t ∈ ts, GtR w' t := fun t ht => by
            obtain ⟨cs, e, fz, q1, q2⟩ := hg t ht
            exact ⟨cs, e, fz, by rw [hk.block t.g (Array.getElem?_eq_some_iff.1 q1).1 (fun h => h)]; exact q1, q2⟩
          have hdf : a'.defers = [] := by have := p3.df; rw [az] at this; exact this.nil
          have hs : Sx x fn.ntmps w (rho0 ts) (mask x l) (mem0 ts) a' w' := ⟨start_at hb hk hg', hgl, fun t => by
            rcases mask_look hx t l with e | e
            · rw [e]; exact VR.junk _ _
            · obtain ⟨h1, h2⟩ := sameV_eq (al _ e)
              have h1 : x.cx.look t e1 = x.cx.look t (mask x l) := h1
              rw [← h1]
              exact h2 _ _ _ (p3.env t), p3.sz, by rw [mask_0 hx, hdf]; rfl⟩
          refine b3 w (rho0 ts) a' w' _ hs fun ex a2 w2 hpo => ?_
          obtain ⟨ρ2, q1, q2, q3⟩ := hpo
          obtain ⟨md, r1, r2⟩ := hex ρ2 ex q2
          refine r2 _ a2 w2 (leaves_mono (fun e w3 h => ?_) (c3 fn.ntmps w ρ2 a2 w2 md q3 r1))
          obtain ⟨ρ4, v, s1, s2, s3, s4⟩ := h
          simp only [VR] at s3
          subst s3
          exact ⟨s4, s2.keeps⟩
end Go.It
namespace Go.It
open Go.RowKit
set_option linter.unusedVariables false
section
variable {P : Program} {H : Type} {w : World}
def tabD (k : IntKind) (ys : List Nat) : DataW H := .agg (ys.map fun (y : Nat) => .lit (.int k (y : Int)))
theorem laid_mem {l : List (String × DataW Unit)} {n : String} {d : DataW Unit} (hm : (n, d) ∈ l) {ps : List MemPlace} (h : DataW.LaidVars P w l ps) :
    ∃ g t cs fuel p, P.globalNamed n = some g ∧ (P.globals[g]?).map (·.type) = some t ∧ w.var? P n = some cs ∧ DataW.trod (fun _ => ()) P w 0 (fun _ => true) false fuel t cs.toList = some (d, p) := by
  induction l generalizing ps with
  | nil => cases hm
  | cons x r ih =>
    obtain ⟨n', d'⟩ := x
    obtain ⟨g, t, cs, fuel, p, q, h1, h2, h3, h4, h5, _⟩ := h
    rcases List.mem_cons.1 hm with e | e
    · cases e
      exact ⟨g, t, cs, fuel, p, h1, h2, h3, h4⟩
    · exact ih e h5
theorem gtr_laid {l : List (String × DataW Unit)} (h : laidMet P l w) (t : Gt) (n : String) {ty u : TypeId} (hm : (n, tabD t.k t.l) ∈ l) (hg : P.globalNamed n = some t.g)
    (ht : (P.globals[t.g]?).map (·.type) = some ty) (hd : P.underlying ty = some (.array t.l.length u)) (hu : P.underlying u = some (.int t.k)) (hc : P.cellsOf u = 1) : GtR w t := by
  obtain ⟨ps, hv, _⟩ := h
  obtain ⟨g', t', cs, fuel, p, h1, h2, h3, h4⟩ := laid_mem hm hv
  have e1 := Option.some.inj (hg.symm.trans h1)
  rw [← e1] at h2
  obtain rfl := Option.some.inj (ht.symm.trans h2)
  obtain ⟨xs, q, hq, hx, hlen, hxl, hf⟩ := DataW.trod_array hd h4
  simp only [tabD, Prod.mk.injEq, DataW.agg.injEq] at hx
  have hcell : ∀ (i m : Nat), t.l[i]? = some m → cs[i]? = some (Value.int t.k (m : Int)) := fun i m hi => by
    have hlt : i < t.l.length := (List.getElem?_eq_some_iff.1 hi).1
    have h5 := hf i hlt
    have hxi : xs[i]? = some (xs[i]'(by omega)) := List.getElem?_eq_getElem (by omega)
    rw [hc, Nat.mul_one, hxi] at h5
    obtain ⟨z, g1, g2, g3⟩ := DataW.trod_int hu h5
    have h6 : (xs.map (·.1))[i]? = (t.l.map fun (y : Nat) => (DataW.lit (.int t.k (y : Int)) : DataW Unit))[i]? := by rw [hx.1]
    rw [List.getElem?_map, List.getElem?_map, hxi, hi, g2] at h6
    simp only [Option.map_some, Option.some.injEq, DataW.lit.injEq, Lit.int.injEq, true_and] at h6
    subst h6
    have h7 : (cs.toList.drop i)[0]? = some (.int t.k (m : Int)) := by
      have : ((cs.toList.drop i).take 1)[0]? = (cs.toList.drop i)[0]? := by rw [List.getElem?_take]; simp
      rw [← this, g1]; rfl
    rw [List.getElem?_drop, Nat.add_zero] at h7
    simpa using h7
  simp only [World.var?, hg, Option.bind_some] at h3
  split at h3
  · rename_i c e f hb
    cases h3
    exact ⟨_, _, _, hb, hcell⟩
  · cases h3
theorem ft_of {fs : List FuncId} (h : ftB P fs = true) {f : FuncId} (hf : fs.elem f = true) {fn : Func} {cd : Code} (h1 : P.funcs[f]? = some fn) (h2 : fn.body = some cd) : dstB fn.ntmps cd = true ∧ fn.ntmps ≤ 511 ∧ fn.name ≠ "runtime.NumGoroutine" := by
  have := List.all_eq_true.1 h f (List.elem_iff.1 hf)
  simp only [Bool.and_eq_true] at this
  have h3 := this.2
  rw [h1] at h3
  simp only [h2, Bool.and_eq_true] at h3
  exact ⟨h3.1.1, Nat.le_of_ble_eq_true h3.1.2, by simpa using h3.2⟩
theorem vr_rem {ρ : Rho} (c : Nat) {z : Int} (hw : (Lit.int .i64 z).wf = true) : VR ρ (.q .i64 c (enc .i64 z % c)) (.int .i64 z) := by
  simp only [Lit.wf, Bool.and_eq_true, decide_eq_true_eq] at hw
  simp only [VR]
  exact ⟨enc .i64 z, by rw [dec_enc hw.1 hw.2], enc_lt _ _, rfl⟩
end
end Go.It
namespace Go.It
open Go.RowKit
open Go.Vc (Keeps cellsAt)
set_option linter.unusedVariables false
set_option linter.constructorNameAsVariable false
noncomputable section
def sm2 : V → V → Bool
  | .fn f a b, .fn g c d => Nat.beq f g && (smL a c && smL b d)
  | .ifc t v, .ifc u w => Nat.beq t u && sm1 v w
  | .z .j, .z .j => true
  | v, u => smV v u
def sm2L : List V → List V → Bool
  | [], [] => true
  | a :: l, b :: r => bif sm2 a b then sm2L l r else false
  | _, _ => false
def sm3 : V → V → Bool
  | .tup l, .tup r => sm2L l r
  | v, u => sm2 v u
def smP : List (V × V) → List (V × V) → Bool
  | [], [] => true
  | (a, b) :: l, (c, d) :: r => bif sm2 a c then (bif sm2 b d then smP l r else false) else false
  | _, _ => false
def smO2 : O → O → Bool
  | .row w l, .row w' r => bif w == w' then sm2L l r else false
  | .map l, .map r => smP l r
  | .dead, .dead => true
  | _, _ => false
theorem sm2_ok {v u : V} (h : sm2 v u = true) : v = u := by
  unfold sm2 at h
  split at h
  · simp only [Bool.and_eq_true] at h
    rw [Nat.eq_of_beq_eq_true h.1, smL_ok h.2.1, smL_ok h.2.2]
  · simp only [Bool.and_eq_true] at h
    rw [Nat.eq_of_beq_eq_true h.1, sm1_ok h.2]
  · rfl
  · exact smV_ok h
theorem sm2L_ok : ∀ {l r : List V}, sm2L l r = true → l = r
  | [], [], _ => rfl
  | [], _ :: _, h => by cases h
  | _ :: _, [], h => by cases h
  | a :: l, b :: r, h => by
    obtain ⟨h1, h2⟩ := bif_t (show (bif sm2 a b then sm2L l r else false) = true from h)
    rw [sm2_ok h1, sm2L_ok h2]
theorem sm3_ok {v u : V} (h : sm3 v u = true) : v = u := by
  unfold sm3 at h
  split at h
  · rw [sm2L_ok h]
  · exact sm2_ok h
theorem smP_ok : ∀ {l r : List (V × V)}, smP l r = true → l = r
  | [], [], _ => rfl
  | [], _ :: _, h => by cases h
  | _ :: _, [], h => by cases h
  | (a, b) :: l, (c, d) :: r, h => by
    obtain ⟨h1, h2⟩ := bif_t (show (bif sm2 a c then (bif sm2 b d then smP l r else false) else false) = true from h)
    obtain ⟨h2, h3⟩ := bif_t h2
    rw [sm2_ok h1, sm2_ok h2, smP_ok h3]
theorem smO2_ok {a b : O} (h : smO2 a b = true) : a = b := by
  unfold smO2 at h
  split at h
  · obtain ⟨h1, h2⟩ := bif_t h
    rw [eq_of_beq h1, sm2L_ok h2]
  · rw [smP_ok h]
  · rfl
  · cases h
def layC : List (Nat × O) → M → (M → Bool) → Bool
  | [], m, k => k m
  | (a, o) :: l, m, k => wrO a o m fun m => layC l m k
def layM : List (Nat × O) → M → M
  | [], m => m
  | (a, o) :: l, m => layM l (wr m a o)
theorem layC_eq : ∀ (l : List (Nat × O)) (m : M) (k : M → Bool), layC l m k = k (layM l m)
  | [], m, k => rfl
  | (a, o) :: l, m, k => by unfold layC layM; rw [wrO_eq]; exact layC_eq l _ k
def deadM (n : Nat) : M := ⟨qall .dead HN, n⟩
def subB : List (Nat × O) → M → Bool
  | [], _ => true
  | (a, o) :: l, m => bif Nat.blt a 262144 then (rdO a m fun o' => bif smO2 o' o then subB l m else false) else false
theorem subB_ok {m : M} : ∀ {l : List (Nat × O)}, subB l m = true → ∀ p ∈ l, p.1 < 262144 ∧ ob m p.1 = p.2
  | [], _, p, hp => by cases hp
  | (a, o) :: l, h, p, hp => by
    unfold subB at h
    obtain ⟨h1, h2⟩ := bif_t h
    rw [rdO_eq] at h2
    obtain ⟨h2, h3⟩ := bif_t h2
    rcases List.mem_cons.1 hp with rfl | hp
    · exact ⟨by simpa using h1, smO2_ok h2⟩
    · exact subB_ok h3 p hp
theorem layM_nx : ∀ (l : List (Nat × O)) (m : M), (layM l m).nx = m.nx
  | [], _ => rfl
  | (a, o) :: l, m => layM_nx l (wr m a o)
theorem layM_ob : ∀ (l : List (Nat × O)) (m : M), (∀ p ∈ l, p.1 < 262144) → ∀ a, a < 262144 → ob (layM l m) a = ob m a ∨ (a, ob (layM l m) a) ∈ l
  | [], m, _, a, _ => .inl rfl
  | (b, o) :: l, m, hl, a, ha => by
    unfold layM
    rcases layM_ob l (wr m b o) (fun p hp => hl p (.tail _ hp)) a ha with h | h
    · by_cases e : b = a
      · subst e
        rw [h, ob_wr]
        exact .inr (.head _)
      · rw [h, ob_wr_ne m o (hl _ (.head _)) ha e]
        exact .inl rfl
    · exact .inr (.tail _ h)
theorem W.sub {w0 : World} {ρ : Rho} {m : M} {w : World} (h : W w0 ρ m w) {l : List (Nat × O)} (hl : subB l m = true) {n : Nat} (hn : m.nx = n) : W w0 ρ (layM l (deadM n)) w := by
  subst hn
  have hs := subB_ok hl
  have key : ∀ a, a < 262144 → ob (layM l (deadM m.nx)) a = .dead ∨ ob (layM l (deadM m.nx)) a = ob m a := fun a ha => by
    rcases layM_ob l (deadM m.nx) (fun p hp => (hs p hp).1) a ha with e | e
    · exact .inl (e.trans (get_all _ _ _))
    · exact .inr (hs _ e).2.symm
  have lt : ∀ {a : Nat} {x : Nat × Nat × Nat}, ρ a = some x → a < 262144 := fun {a x} ha => Nat.lt_of_lt_of_le (h.dom a x ha) h.nx
  refine ⟨h.keeps, fun a r b N ha => ?_, fun a x ha => by rw [layM_nx]; exact h.dom a x ha, by rw [layM_nx]; exact h.nx, fun a a' r b N b' N' h1 h2 hs1 hd => ?_⟩
  · rcases key a (lt ha) with e | e
    · rw [e]; trivial
    · rw [e]; exact h.obj a r b N ha
  · rcases key a (lt h1) with e | e
    · rw [e] at hs1; cases hs1
    · rw [e] at hs1
      rcases key a' (lt h2) with e' | e'
      · exact absurd e' hd
      · rw [e'] at hd
        exact h.inj a a' r b N b' N' h1 h2 hs1 hd
abbrev R (l : List V) : O := .row true l
abbrev Rw (l : List Nat) : O := .row true (l.map .w)
abbrev Ri (l : List Nat) : O := .row true (l.map .i)
structure Me where
  nx : Nat
  vs : List V
  m1 : List (Nat × O)
  v : V
  nx' : Nat
  m2 : List (Nat × O)
def factB (E : En) (n : Nat) (f : FuncId) (e : Me) : Bool := layC e.m1 (deadM e.nx) fun m => callN E n f e.vs m (fun v m => bif sm3 v e.v then (bif Nat.beq m.nx e.nx' then subB e.m2 m else false) else false) noPan
def findE (n : Nat) : List Me → (Me → Bool) → Bool
  | [], _ => false
  | e :: l, k => bif Nat.beq n e.nx then k e else findE n l k
def memF (es : List Me) (vs : List V) (m : M) (k : V → M → Bool) : Bool := ms m fun _ nx => findE nx es fun e => bif sm2L vs e.vs then (bif subB e.m1 m then layC e.m2 (deadM e.nx') fun m => k e.v m else false) else false
theorem findE_ok {n : Nat} {k : Me → Bool} : ∀ {l : List Me}, findE n l k = true → ∃ e ∈ l, n = e.nx ∧ k e = true
  | [], h => by cases h
  | e :: l, h => by
    unfold findE at h
    cases hb : Nat.beq n e.nx
    · rw [hb] at h
      obtain ⟨e', h1, h2⟩ := findE_ok h
      exact ⟨e', .tail _ h1, h2⟩
    · rw [hb] at h
      exact ⟨e, .head _, Nat.eq_of_beq_eq_true hb, h⟩
theorem mem_ok {P : Program} (hmix : P.follows .mixedOrders = true) {E E' : En} (hE : EnOK P E) (hF : FnOK P E) (he : E'.gl = E.gl) {n : Nat} {f : FuncId} {es : List Me} (hf : ∀ e ∈ es, factB E n f e = true) : MemOK P E' f (memF es) := fun vs m kr h => by
  unfold memF ms at h
  obtain ⟨e, hm, h1, h2⟩ := findE_ok (show findE m.nx es _ = true from h)
  obtain ⟨h2, h3⟩ := bif_t h2
  obtain ⟨h3, h4⟩ := bif_t h3
  rw [layC_eq] at h4
  obtain rfl := sm2L_ok h2
  have hfe := hf e hm
  unfold factB at hfe
  rw [layC_eq] at hfe
  refine ⟨e.v, _, h4, ?_, fun w0 ρ w xs hw hg hv => ?_⟩
  · obtain ⟨p, u, m', k1, k2, -⟩ := callN_ok (draw_ok hmix default) default hE hF n f e.vs _ _ _ hfe
    cases p
    · obtain ⟨-, k1⟩ := bif_t k1
      obtain ⟨k1, -⟩ := bif_t k1
      rw [layM_nx] at k2 ⊢
      rw [h1]
      exact Nat.le_trans k2 (Nat.le_of_eq (Nat.eq_of_beq_eq_true k1))
    · cases k1
  · obtain ⟨p, u, m', k1, k2, k3⟩ := callN_ok (draw_ok hmix w) w hE hF n f e.vs _ _ _ hfe
    cases p
    · obtain ⟨q1, k1⟩ := bif_t k1
      obtain ⟨q2, q3⟩ := bif_t k1
      obtain rfl := sm3_ok q1
      refine (k3 w0 ρ w xs (hw.sub h3 h1) (fun g => by have := hg g; rwa [he] at this) hv).mono fun ed w' ⟨ρ', v, r1, r2, r3, r4⟩ => ⟨ρ', v, ⟨r1.1, fun a ha hn => r1.2 a ha (by rw [layM_nx]; exact h1 ▸ hn)⟩, r2.sub q3 (Nat.eq_of_beq_eq_true q2), r3, r4⟩
    · cases k1
def withM (ml : List (FuncId × List Me)) (E : En) : En := ⟨E.tt, ml.foldr (fun p t => upd 4 p.1 (.mem (memF p.2)) t) E.ft, E.gl⟩
theorem withM_en {P : Program} {ml : List (FuncId × List Me)} {E : En} (h : EnOK P E) : EnOK P (withM ml E) := ⟨fun t ht => h.1 t ht⟩
theorem withM_fn {P : Program} {E : En} (hF : FnOK P E) : ∀ (ml : List (FuncId × List Me)), (∀ p ∈ ml, p.1 < 4096 ∧ ∀ E' : En, E'.gl = E.gl → MemOK P E' p.1 (memF p.2)) → FnOK P (withM ml E)
  | [], _ => hF
  | p :: ml, h => by
    have ih := withM_fn hF ml fun q hq => h q (.tail _ hq)
    have hp := h p (.head _)
    have at_ : ∀ f fe, f < 4096 → get 4 f (withM (p :: ml) E).ft = fe → (f = p.1 ∧ fe = .mem (memF p.2)) ∨ get 4 f (withM ml E).ft = fe := fun f fe hf he => by
      by_cases e : p.1 = f
      · subst e
        refine .inl ⟨rfl, ?_⟩
        rw [← he]
        exact get_upd 4 _ _ _
      · refine .inr ?_
        rw [← he]
        exact (get_upd_ne 4 p.1 f _ _ hp.1 hf e).symm
    refine ⟨fun f cd nt res hf he => ?_, fun f g hf he => ?_, fun f g hf he => ?_⟩
    · rcases at_ f _ hf he with ⟨_, e⟩ | e
      · cases e
      · exact ih.fi f cd nt res hf e
    · rcases at_ f _ hf he with ⟨_, e⟩ | e
      · cases e
      · exact ih.nat f g hf e
    · rcases at_ f _ hf he with ⟨rfl, e⟩ | e
      · cases e
        exact hp.2 _ rfl
      · exact ih.mem f g hf e
theorem nat_true2 {P : Program} (hmix : P.follows .mixedOrders = true) {ts : List Gt} {E0 : En} (hE : EnOK P E0) (hF : FnOK P E0) (h0 : E0.gl = gl0 ts 0) {f : FuncId} {fn : Func} {cd : Code} (h1 : P.funcs[f]? = some fn) (h2 : fn.body = some cd) (h3 : fn.name ≠ "runtime.NumGoroutine")
    (hb : gtB ts = true) {n : Nat} (h : callN E0 n f [] (mem0 ts) isTrue noPan = true) {E : En} (he : E.gl = gl0 ts 0) : NatOK P E f (nTrue ts) := fun vs m c hh => by
  unfold nTrue at hh
  split at hh
  · obtain ⟨ht, hh⟩ := bif_t hh
    refine ⟨_, hh, fun w0 ρ w xs hw hg hv => .inr ⟨run_enter h1 h2 h3, ?_⟩⟩
    have hx : xs = [] := by simpa only [VRL] using hv
    subst hx
    have hgl : GR E0 (rho0 ts) := fun g => by rw [h0]; exact gl_ok (tt := E0.tt) (ft := E0.ft) ts g
    refine (run_ok hmix hE hF h1 h2 h3 h (start_ok hb (gt_of hb he hw hg ht)) hgl (xs := []) (by simp only [VRL])).mono fun e w' ⟨e1, hk⟩ => ⟨_, e1, by simp only [VR], hk.os, hk.tape, hk.output, hk.size, fun b hlt _ => hk.block b hlt (fun h => h)⟩
  · cases hh
theorem vr_any {ρ : Rho} {z : Int} (hw : (Lit.int .i64 z).wf = true) : VR ρ (.q .i64 1 0) (.int .i64 z) := by
  have := vr_rem (ρ := ρ) 1 hw
  rwa [Nat.mod_one] at this
section
open Go.ChangeShapes
variable {P : Program} {H : Type} {enc : TypeId × Value → H} {w : World} {base : Nat} {spare : Nat → Bool} {held : Bool}
theorem open_int2 {r : Reach} {b0 : Nat} {t : TypeId} {k : IntKind} {f0 f1 : Field} {v : Value} {d : DataW H} {ps : List MemPlace} (ht : P.underlying t = some (.struct #[f0, f1])) (h0 : P.underlying f0.type = some (.int k)) (h1 : P.underlying f1.type = some (.int k))
    (o0 : f0.offset = 0) (o1 : f1.offset = 1) (c0 : P.cellsOf f0.type = 1) (c1 : P.cellsOf f1.type = 1) (c : P.cellsOf t = 2) (hval : Value.okWide P w r b0 t v) (hd : DataW.Trod enc P w base spare held t v d ps) :
    ∃ a b, v = .agg #[.int k a, .int k b] ∧ (Lit.int k a).wf = true ∧ (Lit.int k b).wf = true := by
  obtain ⟨fuel, hf⟩ := hd
  obtain ⟨y0, y1, n, hx, hl, g0, g1⟩ := trod_struct2 ht hf
  unfold Value.okWide at hval
  rw [ht] at hval
  obtain ⟨cs, rfl, hs, -⟩ := hval
  obtain ⟨a, q0, q1, q2⟩ := DataW.trod_int h0 g0
  obtain ⟨b, r0, r1, r2⟩ := DataW.trod_int h1 g1
  rw [o0, c0] at q0
  rw [o1, c1] at r0
  have hc : (Value.agg cs).cells = cs := rfl
  rw [hc] at q0 r0
  refine ⟨a, b, ?_, q2, r2⟩
  congr 1
  apply Array.ext'
  have hlen : cs.toList.length = 2 := by simp [hs, c]
  match hcs : cs.toList, hlen with
  | [x, y], _ =>
    rw [hcs] at q0 r0
    simp at q0 r0
    rw [q0, r0]
end
end
end Go.It
