import Derived.Test.YtabdejmolnikaaaGreatDoorZS4
import Derived.Test.YtabdejmolnikaaaGreatDoorZS3
set_option linter.unusedVariables false
set_option linter.unusedSimpArgs false
namespace Go.Proofs
open Go.Vc
set_option maxRecDepth 20000
namespace Nu
abbrev VS : Type := Nat × Int × Nat × Bool × Bool × Bool
def cK (t : VS) (c : Nat) : VS :=
 if c = 46 then (t.1, t.2.1, t.2.2.1, t.2.2.2.1, true, t.2.2.2.2.2)
 else if c = 101 then (t.1, t.2.1, t.2.2.1, t.2.2.2.1, t.2.2.2.2.1, true)
 else if c = 45 then (t.1, t.2.1, t.2.2.1, true, t.2.2.2.2.1, t.2.2.2.2.2)
 else if c = 43 then t
 else if t.2.2.2.2.2 = true then (t.1, t.2.1, t.2.2.1 * 10 + (c - 48), t.2.2.2.1, t.2.2.2.2.1, t.2.2.2.2.2)
 else (t.1 * 10 + (c - 48), (if t.2.2.2.2.1 = true then t.2.1 - 1 else t.2.1), t.2.2.1, t.2.2.2.1, t.2.2.2.2.1, t.2.2.2.2.2)
def v0 : VS := (0, 0, 0, false, false, false)
def vOK (c : Nat) : Prop := mM c = true ∨ c = 46 ∨ c = 101 ∨ c = 45 ∨ c = 43
theorem aSg (t : VS) (c : Nat) : t.1 ≤ (cK t c).1 ∧ t.2.2.1 ≤ (cK t c).2.2.1 ∧ t.2.1 - 1 ≤ (cK t c).2.1 ∧ (cK t c).2.1 ≤ t.2.1 := by
 unfold cK
 split
 ·simp only; omega
 ·split
  ·simp only; omega
  ·split
   ·simp only; omega
   ·split
    ·omega
    ·split
     ·simp only; omega
     ·simp only; split <;> omega
theorem aBy : ∀ (l : List Nat) (t : VS), t.1 ≤ (l.foldl cK t).1 ∧ t.2.2.1 ≤ (l.foldl cK t).2.2.1 ∧ t.2.1 - l.length ≤ (l.foldl cK t).2.1 ∧ (l.foldl cK t).2.1 ≤ t.2.1
 | [], t => by simp
 | c :: l, t => by
  obtain ⟨a1, a2, a3, a4⟩ := aSg t c
  obtain ⟨b1, b2, b3, b4⟩ := aBy l (cK t c)
  rw [List.foldl_cons, List.length_cons]
  exact ⟨by omega, by omega, by omega, by omega⟩
theorem aUq (s : List Nat) (i : Int) (t : VS) (hs : s.length ≤ 60) (i0 : 0 ≤ i) (hi : i < s.length) (hok : vOK (s.getD i.toNat 0)) (hm : (cK t (s.getD i.toNat 0)).1 < 2 ^ 900) (he : (cK t (s.getD i.toNat 0)).2.2.1 ≤ 10000) (hk : -100 ≤ t.2.1 ∧ t.2.1 ≤ 100) :
  dX s (hb t.1) t.2.1 (t.2.2.1 : Int) t.2.2.2.1 t.2.2.2.2.1 t.2.2.2.2.2 i = some (.inl (hb (cK t (s.getD i.toNat 0)).1, (cK t (s.getD i.toNat 0)).2.1, ((cK t (s.getD i.toNat 0)).2.2.1 : Int), (cK t (s.getD i.toNat 0)).2.2.2.1, (cK t (s.getD i.toNat 0)).2.2.2.2.1, (cK t (s.getD i.toNat 0)).2.2.2.2.2, i + 1)) := by
 obtain ⟨m, k, e, ng, pt, pw⟩ := t
 have hk : -100 ≤ k ∧ k ≤ 100 := hk
 have hi1 : I64 (i + 1) := by constructor <;> omega
 show dX s (hb m) k (e : Int) ng pt pw i = _
 unfold dX
 generalize hc : s.getD i.toNat 0 = c at *
 rw [if_pos hi]
 refine aA ⟨i0, hi⟩ ?_
 unfold cK at hm he ⊢
 by_cases h1 : c = 46
 ·rw [if_pos h1, if_pos h1]; exact aA hi1 rfl
 ·rw [if_neg h1] at hm he
  rw [if_neg h1, if_neg h1]
  refine aA ⟨i0, hi⟩ ?_
  by_cases h2 : c = 101
  ·rw [if_pos h2, if_pos h2]; exact aA hi1 rfl
  ·rw [if_neg h2] at hm he
   rw [if_neg h2, if_neg h2]
   refine aA ⟨i0, hi⟩ ?_
   by_cases h3 : c = 45
   ·rw [if_pos h3, if_pos h3]; exact aA hi1 rfl
   ·rw [if_neg h3] at hm he
    rw [if_neg h3, if_neg h3]
    refine aA ⟨i0, hi⟩ ?_
    by_cases h4 : c = 43
    ·rw [if_pos h4, if_pos h4]; exact aA hi1 rfl
    ·rw [if_neg h4] at hm he
     rw [if_neg h4, if_neg h4]
     have hdg : 48 ≤ c ∧ c ≤ 57 := by
      rcases hok with h | h | h | h | h
      ·simpa only [mM, decide_eq_true_iff] using h
      ·exact absurd h h1
      ·exact absurd h h2
      ·exact absurd h h3
      ·exact absurd h h4
     have hsub : gQ .u8 c 48 = c - 48 := aXx (by omega) hdg.1
     rw [hsub]
     by_cases h5 : pw = true
     ·rw [if_pos h5] at he
      rw [if_pos h5, if_pos h5]
      have he : e * 10 + (c - 48) ≤ 10000 := he
      refine aA (by constructor <;> omega) (aA ⟨i0, hi⟩ (aA (by constructor <;> omega) (aA hi1 ?_)))
      simp only [Option.some.injEq, Sum.inl.injEq, Prod.mk.injEq, true_and, and_true]
      omega
     ·rw [if_neg h5] at hm
      rw [if_neg h5, if_neg h5]
      have hm : m * 10 + (c - 48) < 2 ^ 900 := hm
      have l1 : (hb m).length ≤ 60 := fV 60 (Nat.lt_of_le_of_lt (show m ≤ m * 10 + (c - 48) by omega) hm) (by decide)
      have l2 : (hb (m * 10)).length ≤ 60 := fV 60 (Nat.lt_of_le_of_lt (show m * 10 ≤ m * 10 + (c - 48) by omega) hm) (by decide)
      have hM := aIK m 10 (by omega) (by rw [aWx]; decide)
      rw [aWx] at hM
      have hS := aWm (c - 48) (by omega)
      have l3 : (hb (c - 48)).length ≤ 1 := fV 1 (m := 4) (by omega) (by decide)
      have hA := aIJ (m * 10) (c - 48) (by omega) (by omega)
      refine aM hM (aA ⟨i0, hi⟩ (aM hS (aM hA ?_)))
      by_cases h6 : pt = true
      ·rw [if_pos h6]
       simp only [h6, if_true]
       exact aA (by constructor <;> omega) (aA hi1 rfl)
      ·rw [if_neg h6]
       simp only [h6, if_false, Bool.false_eq_true]
       exact aA hi1 rfl
theorem aQS (s : List Nat) (hs : s.length ≤ 60) (hok : ∀ c ∈ s, vOK c) (hm : (s.foldl cK v0).1 < 2 ^ 900) (he : (s.foldl cK v0).2.2.1 ≤ 10000) :
  kT s = some (hb (s.foldl cK v0).1, (s.foldl cK v0).2.1 + (if (s.foldl cK v0).2.2.2.1 = true then -((s.foldl cK v0).2.2.1 : Int) else ((s.foldl cK v0).2.2.1 : Int)), ()) := by
 have kr := aBy s v0
 have kr3 : (0 : Int) - s.length ≤ (s.foldl cK v0).2.1 := kr.2.2.1
 have kr4 : (s.foldl cK v0).2.1 ≤ 0 := kr.2.2.2
 unfold kT
 refine aM (a := (hb (s.foldl cK v0).1, (s.foldl cK v0).2.1, ((s.foldl cK v0).2.2.1 : Int), (s.foldl cK v0).2.2.2.1)) (eL (step := fun d : (List Nat) × Int × Int × Bool × Bool × Bool × Int => dX s d.1 d.2.1 d.2.2.1 d.2.2.2.1 d.2.2.2.2.1 d.2.2.2.2.2.1 d.2.2.2.2.2.2)
  (I := fun d => ∃ (i : Nat) (t : VS), i ≤ s.length ∧ t = (s.take i).foldl cK v0 ∧ d = (hb t.1, t.2.1, (t.2.2.1 : Int), t.2.2.2.1, t.2.2.2.2.1, t.2.2.2.2.2, (i : Int))) (fun d => ((s.length : Int) - d.2.2.2.2.2.2).toNat) (fun _ => (hb (s.foldl cK v0).1, (s.foldl cK v0).2.1, ((s.foldl cK v0).2.2.1 : Int), (s.foldl cK v0).2.2.2.1)) ?_ ([], 0, 0, false, false, false, 0) ⟨0, v0, Nat.zero_le _, rfl, by simp [v0, gX]⟩) ?_
 ·rintro d ⟨i, t, i0, i1, rfl⟩
  show (∃ d', dX s (hb t.1) t.2.1 (t.2.2.1 : Int) t.2.2.2.1 t.2.2.2.2.1 t.2.2.2.2.2 (i : Int) = _ ∧ _) ∨ dX s (hb t.1) t.2.1 (t.2.2.1 : Int) t.2.2.2.1 t.2.2.2.2.1 t.2.2.2.2.2 (i : Int) = _
  by_cases hi : i < s.length
  ·left
   have hnext : cK t (s.getD i 0) = (s.take (i + 1)).foldl cK v0 := by
    rw [take_succ hi, List.foldl_append, ← i1]; rfl
   have hsplit : s.foldl cK v0 = (s.drop (i + 1)).foldl cK (cK t (s.getD i 0)) := by
    rw [hnext, ← List.foldl_append, List.take_append_drop]
   have mono := aBy (s.drop (i + 1)) (cK t (s.getD i 0))
   rw [← hsplit] at mono
   have kt := aBy (s.take i) v0
   rw [← i1] at kt
   have kt3 : (0 : Int) - (s.take i).length ≤ t.2.1 := kt.2.2.1
   have kt4 : t.2.1 ≤ 0 := kt.2.2.2
   rw [List.length_take] at kt3
   have hst := aUq s (i : Int) t hs (by omega) (by omega) (by rw [Int.toNat_natCast]; exact hok _ (by rw [List.getD_eq_getElem?_getD, List.getElem?_eq_getElem hi]; exact List.getElem_mem hi)) (by rw [Int.toNat_natCast]; exact Nat.lt_of_le_of_lt mono.1 hm) (by rw [Int.toNat_natCast]; omega) (by constructor <;> omega)
   rw [Int.toNat_natCast] at hst
   refine ⟨_, hst, ⟨i + 1, cK t (s.getD i 0), hi, hnext, ?_⟩, ?_, rfl⟩
   ·rfl
   ·simp only; omega
  ·right
   have e : i = s.length := by omega
   rw [e, List.take_length] at i1
   unfold dX
   rw [if_neg (by omega), i1]
 ·unfold nQ
  simp only
  by_cases hn : (s.foldl cK v0).2.2.2.1 = true
  ·rw [if_pos hn, if_pos hn]
   refine aA (by constructor <;> omega) (aA (by constructor <;> omega) ?_)
   rw [show (0 : Int) - ((s.foldl cK v0).2.2.1 : Int) = -((s.foldl cK v0).2.2.1 : Int) from by omega]
  ·rw [if_neg hn, if_neg hn]
   exact aA (by constructor <;> omega) rfl
theorem aX4 : ∀ (l : List Nat) (t : VS), (∀ c ∈ l, mM c = true) → l.foldl cK t = if t.2.2.2.2.2 = true then (t.1, t.2.1, l.foldl (fun m c => m * 10 + (c - 48)) t.2.2.1, t.2.2.2.1, t.2.2.2.2.1, t.2.2.2.2.2) else (l.foldl (fun m c => m * 10 + (c - 48)) t.1, (if t.2.2.2.2.1 = true then t.2.1 - l.length else t.2.1), t.2.2.1, t.2.2.2.1, t.2.2.2.2.1, t.2.2.2.2.2)
 | [], t, _ => by
  obtain ⟨m, k, e, ng, pt, pw⟩ := t
  cases pw <;> cases pt <;> simp
 | c :: l, t, h => by
  have hc := h c (by simp)
  simp only [mM, decide_eq_true_iff] at hc
  have ih := aX4 l (cK t c) (fun x hx => h x (by simp [hx]))
  rw [List.foldl_cons, ih]
  obtain ⟨m, k, e, ng, pt, pw⟩ := t
  have hs : cK (m, k, e, ng, pt, pw) c = if pw = true then (m, k, e * 10 + (c - 48), ng, pt, pw) else (m * 10 + (c - 48), (if pt = true then k - 1 else k), e, ng, pt, pw) := by
   unfold cK
   rw [if_neg (by omega), if_neg (by omega), if_neg (by omega), if_neg (by omega)]
  rw [hs]
  cases pw <;> cases pt <;> simp <;> omega
theorem aC6 (s : List Nat) (i : Nat) : s.drop i = (s.drop i).take (aV s i) ++ s.drop (i + aV s i) := by
 conv => lhs; rw [← List.take_append_drop (aV s i) (s.drop i)]
 rw [List.drop_drop]
theorem uM {s : List Nat} {i c : Nat} (h : cB s i c) : s.drop i = c :: s.drop (i + 1) := by
 have h1 : i < s.length := h.1
 have h2 : s.getD i 0 = c := h.2
 rw [List.drop_eq_getElem_cons h1, ← h2, List.getD_eq_getElem?_getD, List.getElem?_eq_getElem h1]; rfl
theorem aLu {s : List Nat} {i : Nat} (h : ∀ c ∈ s.drop (i + aV s i), vOK c) : ∀ c ∈ s.drop i, vOK c := by
 rw [aC6]
 intro c hc
 rcases List.mem_append.1 hc with hc | hc
 ·exact .inl (vW s i c hc)
 ·exact h c hc
theorem aAN {s : List Nat} {i c : Nat} (hs : cB s i c) (hc : vOK c) (h : ∀ c ∈ s.drop (i + 1), vOK c) : ∀ c ∈ s.drop i, vOK c := by
 rw [uM hs]
 intro x hx
 rcases List.mem_cons.1 hx with rfl | hx
 ·exact hc
 ·exact h x hx
theorem aO6 {s : List Nat} {i : Nat} {all : List Nat} {pow : Int} {neg : Bool} {m : Nat} {k : Int} {pt : Bool} (h : (aBu s i all pow neg).2.2.1 = true) :
  (∀ c ∈ s.drop i, vOK c) ∧ (s.drop i).foldl cK (m, k, 0, neg, pt, true) = (m, k, cU ((s.drop i).take (aV s i)), neg, pt, true) ∧ cU ((s.drop i).take (aV s i)) ≤ 10000 ∧ aBu s i all pow neg = (all, pow + (if neg then -(cU ((s.drop i).take (aV s i)) : Int) else cU ((s.drop i).take (aV s i))), true, ()) := by
 unfold aBu at h ⊢
 by_cases h1 : aV s i < 1 ∨ 3 < aV s i
 ·rw [if_pos h1] at h; cases h
 ·rw [if_neg h1] at h ⊢
  by_cases h2 : 100 < cU ((s.drop i).take (aV s i))
  ·rw [if_pos h2] at h; cases h
  ·rw [if_neg h2] at h ⊢
   have h : decide (i + aV s i = s.length) = true := h
   have hl := of_decide_eq_true h
   have hnil : s.drop (i + aV s i) = [] := List.drop_eq_nil_of_le (by omega)
   have hall := vW s i
   refine ⟨aLu (by rw [hnil]; intro c hc; cases hc), ?_, by omega, by rw [h]⟩
   have hd := aC6 s i
   rw [hnil, List.append_nil] at hd
   have hv := aX4 ((s.drop i).take (aV s i)) (m, k, 0, neg, pt, true) hall
   rw [← hd] at hv ⊢
   rw [hv]; rfl
theorem aYj {s : List Nat} {i : Nat} {all : List Nat} {pow : Int} {m : Nat} {pt : Bool} (h : (aLi s i all pow).2.2.1 = true) :
  (∀ c ∈ s.drop i, vOK c) ∧ ∃ e ng pw, (s.drop i).foldl cK (m, pow, 0, false, pt, false) = (m, pow, e, ng, pt, pw) ∧ e ≤ 10000 ∧ aLi s i all pow = (all, pow + (if ng = true then -(e : Int) else (e : Int)), true, ()) := by
 unfold aLi at h ⊢
 by_cases h1 : cB s i 101
 ·rw [if_pos h1] at h ⊢
  have e101 : cK (m, pow, 0, false, pt, false) 101 = (m, pow, 0, false, pt, true) := by unfold cK; rw [if_neg (by decide), if_pos rfl]
  by_cases h2 : cB s (i + 1) 45
  ·have hor : cB s (i + 1) 45 ∨ cB s (i + 1) 43 := .inl h2
   rw [if_pos hor, decide_eq_true h2] at h ⊢
   obtain ⟨p1, p2, p3, p4⟩ := aO6 (m := m) (k := pow) (pt := pt) h
   refine ⟨aAN h1 (.inr (.inr (.inl rfl))) (aAN h2 (.inr (.inr (.inr (.inl rfl)))) p1), cU ((s.drop (i + 2)).take (aV s (i + 2))), true, true, ?_, p3, p4⟩
   rw [uM h1, uM h2, List.foldl_cons, List.foldl_cons, e101]
   have e45 : cK (m, pow, 0, false, pt, true) 45 = (m, pow, 0, true, pt, true) := by unfold cK; rw [if_neg (by decide), if_neg (by decide), if_pos rfl]
   rw [e45]; exact p2
  ·rw [decide_eq_false h2] at h ⊢
   by_cases h3 : cB s (i + 1) 43
   ·have hor : cB s (i + 1) 45 ∨ cB s (i + 1) 43 := .inr h3
    rw [if_pos hor] at h ⊢
    obtain ⟨p1, p2, p3, p4⟩ := aO6 (m := m) (k := pow) (pt := pt) h
    refine ⟨aAN h1 (.inr (.inr (.inl rfl))) (aAN h3 (.inr (.inr (.inr (.inr rfl)))) p1), cU ((s.drop (i + 2)).take (aV s (i + 2))), false, true, ?_, p3, p4⟩
    rw [uM h1, uM h3, List.foldl_cons, List.foldl_cons, e101]
    have e43 : cK (m, pow, 0, false, pt, true) 43 = (m, pow, 0, false, pt, true) := by unfold cK; rw [if_neg (by decide), if_neg (by decide), if_neg (by decide), if_pos rfl]
    rw [e43]; exact p2
   ·have hor : ¬ (cB s (i + 1) 45 ∨ cB s (i + 1) 43) := by rintro (h | h); exact h2 h; exact h3 h
    rw [if_neg hor] at h ⊢
    obtain ⟨p1, p2, p3, p4⟩ := aO6 (m := m) (k := pow) (pt := pt) h
    refine ⟨aAN h1 (.inr (.inr (.inl rfl))) p1, cU ((s.drop (i + 1)).take (aV s (i + 1))), false, true, ?_, p3, p4⟩
    rw [uM h1, List.foldl_cons, e101]; exact p2
 ·rw [if_neg h1] at h ⊢
  have h : decide (i = s.length) = true := h
  have hl := of_decide_eq_true h
  have hnil : s.drop i = [] := List.drop_eq_nil_of_le (by omega)
  refine ⟨(by rw [hnil]; intro c hc; cases hc), 0, false, false, (by rw [hnil]; rfl), by decide, ?_⟩
  rw [h]; simp
theorem aWz (a b : List Nat) : cU (a ++ b) = b.foldl (fun m c => m * 10 + (c - 48)) (cU a) := by unfold cU; rw [List.foldl_append]
theorem aNu (s : List Nat) (h : (bU s).2.2.1 = true) : kT s = some (hb (cU (bU s).1), (bU s).2.1, ()) := by
 obtain ⟨g1, g2, g3, g4⟩ := pI s
 have hmS : cU (bU s).1 < 2 ^ 900 := by
  have a := vA g1
  have b := kW (bU s).1.length
  exact aHB 900 (Nat.lt_of_lt_of_le a b) (by omega)
 have key : s.length ≤ 60 ∧ (∀ c ∈ s, vOK c) ∧ ∃ e ng pt pw k, s.foldl cK v0 = (cU (bU s).1, k, e, ng, pt, pw) ∧ e ≤ 10000 ∧ (bU s).2.1 = k + (if ng = true then -(e : Int) else (e : Int)) := by
  unfold bU at h ⊢
  by_cases h0 : 60 < s.length ∨ aV s 0 = 0
  ·rw [if_pos h0] at h; cases h
  ·rw [if_neg h0] at h ⊢
   have hd0 := aC6 s 0
   rw [List.drop_zero, Nat.zero_add] at hd0
   have hall0 := vW s 0
   rw [List.drop_zero] at hall0
   have hv0 := aX4 (s.take (aV s 0)) v0 hall0
   have hv0' : (s.take (aV s 0)).foldl cK v0 = (cU (s.take (aV s 0)), 0, 0, false, false, false) := by rw [hv0]; rfl
   have hok0 : (∀ c ∈ s.drop (aV s 0), vOK c) → ∀ c ∈ s, vOK c := fun hh => by
    have := aLu (s := s) (i := 0) (by rw [Nat.zero_add]; exact hh)
    rwa [List.drop_zero] at this
   have hf : s.foldl cK v0 = (s.drop (aV s 0)).foldl cK (cU (s.take (aV s 0)), 0, 0, false, false, false) := by
    conv => lhs; rw [hd0]
    rw [List.foldl_append, hv0']
   by_cases h1 : cB s (aV s 0) 46
   ·rw [if_pos h1] at h ⊢
    by_cases h2 : aV s (aV s 0 + 1) = 0
    ·rw [if_pos h2] at h; cases h
    ·rw [if_neg h2] at h ⊢
     have hall1 := vW s (aV s 0 + 1)
     have hd1 := aC6 s (aV s 0 + 1)
     have hle := oO s (aV s 0 + 1)
     obtain ⟨p1, e, ng, pw, p2, p3, p4⟩ := aYj (m := cU (s.take (aV s 0) ++ (s.drop (aV s 0 + 1)).take (aV s (aV s 0 + 1)))) (pt := true) h
     refine ⟨by omega, hok0 (aAN h1 (.inr (.inl rfl)) (aLu p1)), e, ng, true, pw, -(aV s (aV s 0 + 1) : Int), ?_, p3, by rw [p4]⟩
     have e46 : cK (cU (s.take (aV s 0)), 0, 0, false, false, false) 46 = (cU (s.take (aV s 0)), 0, 0, false, true, false) := by unfold cK; rw [if_pos rfl]
     rw [p4, hf, uM h1, List.foldl_cons, e46]
     have hv1 := aX4 ((s.drop (aV s 0 + 1)).take (aV s (aV s 0 + 1))) (cU (s.take (aV s 0)), 0, 0, false, true, false) hall1
     have hlen : ((s.drop (aV s 0 + 1)).take (aV s (aV s 0 + 1))).length = aV s (aV s 0 + 1) := by rw [List.length_take, List.length_drop]; omega
     have hv1' : ((s.drop (aV s 0 + 1)).take (aV s (aV s 0 + 1))).foldl cK (cU (s.take (aV s 0)), 0, 0, false, true, false) = (cU (s.take (aV s 0) ++ (s.drop (aV s 0 + 1)).take (aV s (aV s 0 + 1))), -(aV s (aV s 0 + 1) : Int), 0, false, true, false) := by
      rw [hv1, aWz, hlen]
      simp
     conv => lhs; rw [hd1, List.foldl_append, hv1', p2]
   ·rw [if_neg h1] at h ⊢
    obtain ⟨p1, e, ng, pw, p2, p3, p4⟩ := aYj (m := cU (s.take (aV s 0))) (pt := false) h
    refine ⟨by omega, hok0 p1, e, ng, false, pw, _, ?_, p3, by rw [p4]⟩
    rw [hf, p2, p4]
 obtain ⟨k1, k2, e, ng, pt, pw, k, k3, k4, k5⟩ := key
 have hV := aQS s k1 k2 (by rw [k3]; exact hmS) (by rw [k3]; exact k4)
 rw [k3] at hV
 rw [hV, k5]
theorem aX5 (s : List Nat) (p : Int) (hs : s.length ≤ 1099511627776) : uK s p = some (aQI s p) := by
 unfold uK aQI
 refine aM (aLt s hs) ?_
 by_cases h : (bU s).2.2.1 = true
 ·have hnn : ¬ ¬ (bU s).2.2.1 = true := fun hn => hn h
  rw [if_neg hnn, if_neg hnn]
  by_cases h2 : p < 1 ∨ 2000 < p
  ·rw [if_pos h2, if_pos h2]; rfl
  ·rw [if_neg h2, if_neg h2]
   obtain ⟨q, rfl⟩ : ∃ q : Nat, p = (q : Int) := ⟨p.toNat, by omega⟩
   rw [Int.toNat_natCast]
   obtain ⟨g1, g2, g3, g4⟩ := pI s
   have hj : lU (q : Int) (false, hb (qF s), 0, ()) (false, hb (tF s), 0, ()) = some ((uL s q false, uL s q true, ()), 0, ()) := by
    have e1 := aTx s q false (by omega) (by omega)
    have e2 := aTx s q true (by omega) (by omega)
    unfold lU
    cases hP1 : dY (false, hb (qF s), 0, ()) (false, hb (tF s), 0, ()) (q : Int) false with
    | none => rw [hP1] at e1; cases e1
    | some v1 =>
     cases hP2 : dY (false, hb (qF s), 0, ()) (false, hb (tF s), 0, ()) (q : Int) true with
     | none => rw [hP2] at e2; cases e2
     | some v2 =>
      rw [hP1] at e1; rw [hP2] at e2
      have e1 : fY v1 = _ := e1
      have e2 : fY v2 = _ := e2
      exact aM rfl (aM e1 (aM rfl (aM e2 rfl)))
   refine aM (aNu s h) ?_
   simp only
   have hmS : cU (bU s).1 < 2 ^ 900 := by
    have a := vA g1
    have b := kW (bU s).1.length
    exact aHB 900 (Nat.lt_of_lt_of_le a b) (by omega)
   have lm := fV 60 hmS (by decide)
   by_cases h3 : 0 ≤ (bU s).2.1
   ·rw [if_pos h3]
    have lT := fV 60 (yQ 900 (kW (bU s).2.1.toNat) (by omega)) (by decide)
    have eA : cU (bU s).1 * 10 ^ (bU s).2.1.toNat = qF s := by unfold qF; rw [show (max (bU s).2.1 0).toNat = (bU s).2.1.toNat from by omega]
    have eB : tF s = 1 := by unfold tF; rw [show (max (-(bU s).2.1) 0).toNat = 0 from by omega, Nat.pow_zero]
    have hM := aIK (cU (bU s).1) (10 ^ (bU s).2.1.toNat) (by omega) (by omega)
    rw [eA] at hM
    rw [eB, aBx] at hj
    exact aM (aO3 _ h3 (by omega)) (aM hM hj)
   ·rw [if_neg h3]
    have eA : cU (bU s).1 = qF s := by unfold qF; rw [show (max (bU s).2.1 0).toNat = 0 from by omega, Nat.pow_zero, Nat.mul_one]
    have eB : 10 ^ (0 - (bU s).2.1).toNat = tF s := by unfold tF; rw [show (max (-(bU s).2.1) 0).toNat = (0 - (bU s).2.1).toNat from by omega]
    have hT := aO3 (0 - (bU s).2.1) (by omega) (by omega)
    rw [eB] at hT
    rw [eA]
    exact aA (by constructor <;> omega) (aM hT hj)
 ·rw [if_pos h, if_pos h]; rfl
theorem aUr (s : List Nat) (hs : s.length ≤ 1099511627776) : pX s = some (aCT s) := by
 unfold pX aCT
 refine aM (aLt s hs) ?_
 by_cases h : (bU s).2.2.1 = true
 ·have hnn : ¬ ¬ (bU s).2.2.1 = true := fun hn => hn h
  rw [if_neg hnn, if_neg hnn]
  obtain ⟨g1, g2, g3, g4⟩ := pI s
  refine aM (aNu s h) ?_
  simp only
  have hmS : cU (bU s).1 < 2 ^ 900 := by
   have a := vA g1
   have b := kW (bU s).1.length
   exact aHB 900 (Nat.lt_of_lt_of_le a b) (by omega)
  have lm := fV 60 hmS (by decide)
  by_cases h3 : 0 ≤ (bU s).2.1
  ·rw [if_pos h3]
   have lT := fV 60 (yQ 900 (kW (bU s).2.1.toNat) (by omega)) (by decide)
   have hM := aIK (cU (bU s).1) (10 ^ (bU s).2.1.toNat) (by omega) (by omega)
   have eA : cU (bU s).1 * 10 ^ (bU s).2.1.toNat = qF s := by unfold qF; rw [show (max (bU s).2.1 0).toNat = (bU s).2.1.toNat from by omega]
   rw [eA] at hM
   have hW := aFn false (qF s) 900 0 (aFi s) (by decide) (by decide)
   refine aM (aO3 _ h3 (by omega)) (aM hM (aM hW ?_))
   have eD : exD s = 1 := by unfold exD; rw [show (max (-(bU s).2.1) 0).toNat = 0 from by omega, Nat.pow_zero]
   have eN : qF s = exN s * 2 ^ (bU s).2.1.toNat := by
    rw [← eA]; unfold exN
    rw [show (max (bU s).2.1 0).toNat = (bU s).2.1.toNat from by omega, Nat.mul_assoc, ← Nat.mul_pow]
   rw [if_neg (show ¬ exN s % exD s ≠ 0 by rw [eD, Nat.mod_one]; simp), eD, Nat.div_one]
   simp only [Option.some.injEq, Prod.mk.injEq, and_true]
   unfold gD
   by_cases hz : exN s = 0
   ·rw [if_pos hz, eN, hz, Nat.zero_mul, if_pos rfl]
   ·have hA0 : qF s ≠ 0 := by rw [eN]; exact Nat.mul_ne_zero hz (Nat.pos_iff_ne_zero.1 (Nat.two_pow_pos _))
    rw [if_neg hz, if_neg hA0]
    have ht : tzn (qF s) = (bU s).2.1.toNat + tzn (exN s) := by rw [eN, Nat.mul_comm]; exact aS7 _ hz
    have hq : qF s / 2 ^ tzn (qF s) = exN s / 2 ^ tzn (exN s) := by
     rw [ht, Nat.pow_add, eN, Nat.mul_comm (exN s), Nat.mul_div_mul_left _ _ (Nat.two_pow_pos _)]
    rw [hq, ht]
    simp only [Prod.mk.injEq, true_and, and_true]
    omega
  ·rw [if_neg h3]
   have eN : exN s = cU (bU s).1 := by unfold exN; rw [show (max (bU s).2.1 0).toNat = 0 from by omega, Nat.pow_zero, Nat.mul_one]
   have eD : exD s = 5 ^ (0 - (bU s).2.1).toNat := by unfold exD; rw [show (max (-(bU s).2.1) 0).toNat = (0 - (bU s).2.1).toNat from by omega]
   have hloop : cE (fun d : List Nat × Int => fZ (hb (cU (bU s).1), (bU s).2.1, ()) d.1 d.2) ([1], 0) = some (hb (exD s)) := by
    refine eL (step := fun d : List Nat × Int => fZ (hb (cU (bU s).1), (bU s).2.1, ()) d.1 d.2) (I := fun d => 0 ≤ d.2 ∧ d.2 ≤ 0 - (bU s).2.1 ∧ d.1 = hb (5 ^ d.2.toNat)) (fun d => (0 - (bU s).2.1 - d.2).toNat) (fun _ => hb (exD s)) ?_ ([1], 0) ⟨by simp, by simp only; omega, by simp [aBx]⟩
    rintro ⟨f, i⟩ ⟨i0, i1, i2⟩
    have i0 : 0 ≤ i := i0
    have i1 : i ≤ 0 - (bU s).2.1 := i1
    have i2 : f = hb (5 ^ i.toNat) := i2
    show (∃ d', fZ (hb (cU (bU s).1), (bU s).2.1, ()) f i = _ ∧ _) ∨ fZ (hb (cU (bU s).1), (bU s).2.1, ()) f i = _
    unfold fZ
    simp only
    by_cases hi : i < 0 - (bU s).2.1
    ·left
     have hp := aWt (b := 5) (by decide) (by decide) i.toNat (by omega)
     rw [← i2] at hp
     refine ⟨(hb (5 ^ (i.toNat + 1)), i + 1), aA (by constructor <;> omega) ?_, ⟨by simp only; omega, by simp only; omega, ?_⟩, by simp only; omega, trivial⟩
     ·rw [if_pos hi]
      exact aM hp (aA (by constructor <;> omega) rfl)
     ·simp only; rw [show (i + 1).toNat = i.toNat + 1 from by omega]
    ·right
     refine aA (by constructor <;> omega) ?_
     rw [if_neg hi, i2, eD, show i = 0 - (bU s).2.1 from by omega]
   refine aM hloop ?_
   have lD : (hb (exD s)).length ≤ 60 := fV 60 (yQ 900 (aLk (max (-(bU s).2.1) 0).toNat) (by omega)) (by decide)
   have hDv := aTw (cU (bU s).1) (exD s) (aTi s) (by omega) (by omega)
   have hq : cU (bU s).1 / exD s < 2 ^ 900 := Nat.lt_of_le_of_lt (Nat.div_le_self _ _) hmS
   have hW := aFn false (cU (bU s).1 / exD s) 900 (bU s).2.1 hq (by decide) (by constructor <;> omega)
   unfold nR
   refine aM hDv ?_
   rw [eN]
   by_cases hr : cU (bU s).1 % exD s = 0
   ·rw [if_neg (by simp only [hr, gX]; simp), if_neg (fun h => h hr)]
    refine aM hW ?_
    unfold gD; rfl
   ·have : (hb (cU (bU s).1 % exD s)).length ≠ 0 := fun e => hr (aFm.1 e)
    rw [if_pos (by simp only; omega), if_pos hr]; rfl
 ·rw [if_pos h, if_pos h]; rfl
theorem aWA (a b : Dy) (ha : a.2.1.length ≤ 4611686018427387904) : dJ a b = some ((a.1 == b.1) && decide (a.2.2.1 = b.2.2.1) && decide (a.2.1 = b.2.1)) := by
 unfold dJ
 by_cases h : ((a.1 != b.1) = true ∨ ¬ (a.2.2.1 = b.2.2.1)) ∨ ¬ ((a.2.1.length : Int) = (b.2.1.length : Int))
 ·rw [if_pos h]
  rcases h with (h | h) | h
  ·have : (a.1 == b.1) = false := by revert h; cases a.1 <;> cases b.1 <;> decide
   rw [this]; rfl
  ·rw [decide_eq_false h, Bool.and_false]; rfl
  ·rw [decide_eq_false (show ¬ a.2.1 = b.2.1 from fun e => h (by rw [e])), Bool.and_false]
 ·rw [if_neg h]
  have h1 : (a.1 == b.1) = true := by
   cases hh : (a.1 == b.1) with
   | true => rfl
   | false => exact absurd (.inl (.inl (by rw [bne, hh]; rfl))) h
  have h2 : a.2.2.1 = b.2.2.1 := by
   by_cases hh : a.2.2.1 = b.2.2.1
   ·exact hh
   ·exact absurd (.inl (.inr hh)) h
  have hl : a.2.1.length = b.2.1.length := by omega
  rw [h1, decide_eq_true h2]
  have key := eL (step := fun d : Int => fD a b d) (I := fun i => 0 ≤ i ∧ i ≤ a.2.1.length) (fun i => (a.2.1.length - i).toNat) (fun i => if a.2.1.drop i.toNat = b.2.1.drop i.toNat then (.inl () : Unit ⊕ Bool) else .inr false) ?_ 0 ⟨by omega, by omega⟩
  ·have e1 : a.2.1.drop ((0 : Int).toNat) = a.2.1 := rfl
   have e2 : b.2.1.drop ((0 : Int).toNat) = b.2.1 := rfl
   rw [e1, e2] at key
   refine aM key ?_
   by_cases hh : a.2.1 = b.2.1
   ·rw [if_pos hh, decide_eq_true hh]; rfl
   ·rw [if_neg hh, decide_eq_false hh]; rfl
  ·rintro i ⟨i0, i1⟩
   show (∃ d', fD a b i = _ ∧ _) ∨ fD a b i = _
   unfold fD
   by_cases hi : i < a.2.1.length
   ·have hk : i.toNat < a.2.1.length := by omega
    have hk2 : i.toNat < b.2.1.length := by omega
    have ea : a.2.1.drop i.toNat = a.2.1.getD i.toNat 0 :: a.2.1.drop (i.toNat + 1) := by
     rw [List.drop_eq_getElem_cons hk, List.getD_eq_getElem?_getD, List.getElem?_eq_getElem hk]; rfl
    have eb : b.2.1.drop i.toNat = b.2.1.getD i.toNat 0 :: b.2.1.drop (i.toNat + 1) := by
     rw [List.drop_eq_getElem_cons hk2, List.getD_eq_getElem?_getD, List.getElem?_eq_getElem hk2]; rfl
    by_cases hx : a.2.1.getD i.toNat 0 = b.2.1.getD i.toNat 0
    ·left
     refine ⟨i + 1, ?_, ⟨by omega, by omega⟩, by omega, ?_⟩
     ·rw [if_pos hi]
      refine aA (by constructor <;> omega) (aA (by constructor <;> omega) ?_)
      rw [if_neg (fun h => h hx)]
      exact aA (by constructor <;> omega) rfl
     ·rw [ea, eb, hx, show (i + 1).toNat = i.toNat + 1 from by omega]
      simp
    ·right
     rw [if_pos hi]
     refine aA (by constructor <;> omega) (aA (by constructor <;> omega) ?_)
     rw [if_pos hx, if_neg (by rw [ea, eb]; intro h; exact hx (List.cons.inj h).1)]
   ·right
    rw [if_neg hi, List.drop_eq_nil_of_le (by omega), List.drop_eq_nil_of_le (by omega), if_pos rfl]
theorem aD3 (a : Dy) (ha : a.2.1.length ≤ 4611686018427387904) : dJ a a = some true := by
 rw [aWA a a ha]; simp
theorem aQT (a : Dy × Dy × Unit) (h1 : a.1.2.1.length ≤ 4611686018427387904) (h2 : a.2.1.2.1.length ≤ 4611686018427387904) : mX a a = some true := by
 unfold mX
 rw [aD3 _ h1]
 refine aM rfl ?_
 rw [aD3 _ h2]
 rfl
end Nu
end Go.Proofs
namespace Go.Proofs
open Go.Vc
set_option maxRecDepth 20000
namespace Nu
noncomputable def pK (s_0 : (List Nat)) (p_1 : Int) : Option Bool :=
 if ((80 : Int) < (((s_0.length) : Nat) : Int)) ∨ (((300 : Int) < p_1) ∧ (p_1 ≤ (2000 : Int))) then (pH).bind (fun v_8 => some v_8) else (cG s_0 p_1).bind (fun v_10 => (uK s_0 p_1).bind (fun v_12 => (bF s_0).bind (fun v_14 => (pX s_0).bind (fun v_16 => (pH).bind (fun v_20 => ck (((v_20 = true) → (((bT s_0).isSome = true)))) (ck (((v_20 = true) → (((gZ s_0).isSome = true)))) (ck (((((v_20 = true) ∧ ((((bT s_0).getD false) == ((gZ s_0).getD false)) = true)) ∧ (((v_10.2).1) = ((v_12.2).1))) → (((mX (v_10.1) (v_12.1)).isSome = true)))) (ck (((((((v_20 = true) ∧ ((((bT s_0).getD false) == ((gZ s_0).getD false)) = true)) ∧ (((v_10.2).1) = ((v_12.2).1))) ∧ (((mX (v_10.1) (v_12.1)).getD false) = true)) ∧ (((v_14.2).1) = ((v_16.2).1))) → (((dJ (v_14.1) (v_16.1)).isSome = true)))) (some (((((v_20 && (((bT s_0).getD false) == ((gZ s_0).getD false))) && (decide (((v_10.2).1) = ((v_12.2).1)))) && ((mX (v_10.1) (v_12.1)).getD false)) && (decide (((v_14.2).1) = ((v_16.2).1)))) && ((dJ (v_14.1) (v_16.1)).getD false)))))))))))
def aBI : PlR := ⟨[(0, .A [0, 1]), (1, .A [0, 1, 23]), (2, .A [4]), (3, .B [0, 1, 5, 6]), (4, .B [0, 5, 6, 7, 8]), (5, .B [0, 5, 6, 7, 8, 9, 10]), (6, .B [0, 5, 6, 7, 8, 9, 10, 11, 12]), (7, .A [4])], []⟩
def tE : Ty := .pair .str (.pair (.i .i64) .unit)
noncomputable def aBJ : aK := mSpec tE (.one .bool) (fun x => pK x.1 x.2.1)
noncomputable def eU : List (FuncId × aK) := [(18, xE), (19, uF), (20, zS), (21, pR), (22, uZ), (23, rQ), (24, kS), (25, xC), (26, jI)]
theorem aLv : bL Tryz.prog GL eU := .cons aON (by kernel_rfl) (.cons aKk (by kernel_rfl) (.cons aQy (by kernel_rfl) (.cons aEW (by kernel_rfl) (.cons aMx (by kernel_rfl) (.cons aG0 (by kernel_rfl) (.cons aBp (by kernel_rfl) (.cons aOL (by kernel_rfl) (.cons aAK (by kernel_rfl) (.nil)))))))))
theorem aFo : gam eU 18 = some xE := rfl
theorem aFp : gam eU 19 = some uF := rfl
theorem aFq : gam eU 20 = some zS := rfl
theorem aFr : gam eU 21 = some pR := rfl
theorem aFs : gam eU 22 = some uZ := rfl
theorem aFt : gam eU 23 = some rQ := rfl
theorem aFu : gam eU 24 = some kS := rfl
theorem aFv : gam eU 25 = some xC := rfl
theorem aFw : gam eU 26 = some jI := rfl
attribute [go_sem] tE aBI aFo aFp aFq aFr aFs aFt aFu aFv aFw
set_option maxHeartbeats 4000000 in
theorem aIt : FOK Tryz.prog GL 4 aBJ := by
 refine bK (bC aLv) mix Tryz.func4 rfl (by kernel_rfl) (by decide) aBI fun w0 S x Θ hw h hF => ?_
 obtain ⟨(s_0 : (List Nat)), (p_1 : Int), u⟩ := x
 simp only [bR, go_sem]
 replace h : sat (pK s_0 p_1) _ := h
 unfold pK at h
 refine ⟨fun hc => ?_, fun hc => ?_⟩
 ·replace h := eC hc h
  obtain ⟨v_8, hv, h⟩ := bB h
  try simp only [hv, go_sem]
  exact aJ hF [.tmp 4] rfl rfl rfl (aB h) (by simp only [aW, go_sem])
 ·replace h := eE hc h
  obtain ⟨v_10, hv, h⟩ := bB h
  try simp only [hv, go_sem]
  obtain ⟨v_12, hv, h⟩ := bB h
  try simp only [hv, go_sem]
  obtain ⟨v_14, hv, h⟩ := bB h
  try simp only [hv, go_sem]
  obtain ⟨v_16, hv, h⟩ := bB h
  try simp only [hv, go_sem]
  obtain ⟨v_20, hv, h⟩ := bB h
  try simp only [hv, go_sem]
  refine aF h fun g0 h => aF h fun g1 h => aF h fun g2 h => aF h fun g3 h => ?_
  exact aJ hF [.tmp 4] rfl rfl rfl (aB h) (by simp only [aW, go_sem])
attribute [go_sem] aBJ
end Nu
end Go.Proofs
namespace Go.Proofs
open Go.Vc
set_option maxRecDepth 20000
namespace Nu
theorem aTA {M K : Nat} {e : Int} (h : M < 2 ^ K) : (gD M e).2.1.length ≤ K := by
 rw [aGc]
 refine kY.2 (Nat.lt_of_le_of_lt (Nat.div_le_self _ _) (Nat.lt_of_lt_of_le h ?_))
 rw [oF]
 exact p2m _ _ (by omega)
theorem aQU (s : List Nat) (p : Nat) (up : Bool) (hp : p ≤ 2000) : (uL s p up).2.1.length ≤ 4611686018427387904 := by
 unfold uL
 split
 ·exact Nat.zero_le _
 ·unfold aQH
  exact Nat.le_trans (aTA aR0) (by omega)
theorem aWB (s : List Nat) : (aCT s).1.2.1.length ≤ 4611686018427387904 := by
 unfold aCT
 split
 ·exact Nat.zero_le _
 ·split
  ·exact Nat.zero_le _
  ·exact Nat.le_trans (aTA (K := 900) (Nat.lt_of_le_of_lt (Nat.div_le_self _ _) (aWd s))) (by decide)
theorem aZn (s : List Nat) (p : Int) : (aQI s p).1.1.2.1.length ≤ 4611686018427387904 ∧ (aQI s p).1.2.1.2.1.length ≤ 4611686018427387904 := by
 unfold aQI
 split
 ·exact ⟨Nat.zero_le _, Nat.zero_le _⟩
 ·split
  ·exact ⟨Nat.zero_le _, Nat.zero_le _⟩
  ·exact ⟨aQU s _ _ (by omega), aQU s _ _ (by omega)⟩
theorem aO7 (s : List Nat) (p : Int) : pK s p = some true := by
 unfold pK
 by_cases h : ((80 : Int) < (s.length : Int)) ∨ (((300 : Int) < p) ∧ (p ≤ (2000 : Int)))
 ·rw [if_pos h]; exact aM aTn rfl
 ·rw [if_neg h]
  have hs : s.length ≤ 80 := by omega
  obtain ⟨l1, l2⟩ := aZn s p
  have hF := aC4 s (by omega)
  have hR := aLt s (by omega)
  have h5 := aQT _ l1 l2
  have h6 := aD3 _ (aWB s)
  refine aM (aWc s p (by omega)) (aM (aX5 s p (by omega)) (aM (aLl s (by omega)) (aM (aUr s (by omega)) (aM aTn ?_))))
  simp only [hF, hR, h5, h6, Option.getD_some, Option.isSome_some]
  exact aA (fun _ => trivial) (aA (fun _ => trivial) (aA (fun _ => trivial) (aA (fun _ => trivial) (by simp))))
end Nu
end Go.Proofs
