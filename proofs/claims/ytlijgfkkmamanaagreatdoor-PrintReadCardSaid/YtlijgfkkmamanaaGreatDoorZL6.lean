import Derived.Test.YtlijgfkkmamanaaGreatDoorZL5
import Derived.Shelf.Strings.Builder1
import Derived.Test.YtlijgfkkmamanaaGreatDoorZL4
import Derived.LaidMore
import Derived.LaidHandle
import Derived.MakeChecks
import Derived.Handed
set_option linter.unusedVariables false
set_option linter.unusedSimpArgs false
namespace Go.Vc
open Go.RowKit
theorem bGU(n:Nat):((no_index (OfNat.ofNat n):Nat):Int)=OfNat.ofNat n:=rfl
def sat{α:Type}(o:Option α)(Θ:α→Prop):Prop:=∃x,o=some x∧Θ x
section
variable {α β:Type} {p:Prop} [Decidable p] {k x y:Option α} {Θ:α→Prop} {a:α}
theorem aU1(h:sat (ck p k) Θ):p∧sat k Θ:=by
 obtain⟨z,q,g⟩:=h;obtain⟨hp,f⟩:=bG q;exact⟨hp,z,f,g⟩
theorem gZ(hp:p)(h:sat (if p then x else y) Θ):sat x Θ:=by simp_all
theorem hO(hp:¬p)(h:sat (if p then x else y) Θ):sat y Θ:=by simp_all
theorem aK{G:Prop}(h:sat (ck p k) Θ)(f:p→sat k Θ→G):p∧G:=⟨(aU1 h).1,f (aU1 h).1 (aU1 h).2⟩
theorem cH{g f:Prop}(h:sat (if p then x else y) Θ)(q:p→sat x Θ→g)(z:¬p→sat y Θ→f):(p→g)∧(¬p→f):=⟨fun c=>q c (gZ c h),fun c=>z c (hO c h)⟩
theorem dU{g f:Prop}{m n:Int}(h:sat (if m<n then x else y) Θ)(q:m<n→sat x Θ→g)(z:n≤m→sat y Θ→f):(m<n→g)∧(n≤m→f):=⟨fun c=>q c (gZ c h),fun c=>z c (hO (Int.not_lt.2 c) h)⟩
theorem aYP{g f:Prop}{m n:Int}(h:sat (if m≤n then x else y) Θ)(q:m≤n→sat x Θ→g)(z:n<m→sat y Θ→f):(m≤n→g)∧(n<m→f):=⟨fun c=>q c (gZ c h),fun c=>z c (hO (Int.not_le.2 c) h)⟩
theorem aH2{f g:Prop}{b:Bool}(h:sat (if b=true then x else y) Θ)(q:b=true→sat x Θ→f)(z:¬b=true→sat y Θ→g):(b=true→f)∧(¬b=true→g):=cH h q z
theorem aA1{g f:Prop}{b:Bool}(h:sat (if ¬b=true then x else y) Θ)(q:b=false→sat x Θ→g)(z:¬b=false→sat y Θ→f):(b=false→g)∧(¬b=false→f) :=
 ⟨fun c=>q c (gZ (by simp_all) h),fun c=>z c (hO (fun n=>c (by simp_all)) h)⟩
theorem aA(h:sat (some a) Θ):Θ a:=by
 obtain⟨z,g,f⟩:=h;simp_all
theorem aCv{P:Prop}(h:sat none Θ):P:=by
 obtain⟨z,f,g⟩:=h;cases f
theorem aB{o:Option β}{f:β→Option α}(h:sat (o.bind f) Θ){G:Prop}(I:∀z,o=some z→sat (f z) Θ→G):G:=by
 obtain⟨r,g,q⟩:=h;cases o with
 | none=>cases g
 | some z=>exact I z rfl ⟨r,g,q⟩
theorem aD(h:sat (ck p k) Θ){G:Prop}(f:p→sat k Θ→G):G:=f (aU1 h).1 (aU1 h).2
end
def aYQ(n:Nat)(ops:List Oper):Bool:=aYB (ops.take n)&&aJM (ops.take n)&&aSd (ops.take n).length ops
inductive Pl where
 | A (keep:List Nat)
 | B (keep:List Nat)
 | C (n:Nat) (keep:List Nat)
 | P (keep sb:List Nat)
 | Q (n:Nat) (keep sb:List Nat)
 | stop
def aYR:List (FuncId×(List AV→List Obj→Hit))→FuncId→List AV→List Obj→Option Hit
 | [],_,_,_=>none
 | (k,t)::r,f,g,h=>match decide (k=f) with
  | true=>some (t g h)
  | false=>aYR r f g h
structure aI2(P:Program)(G:Nat→AV)(l:List (FuncId×(List AV→List Obj→Hit))):Prop where
 ok:∀p∈l,(∀vs h,GOK P G p.1 (p.2 vs h).sp)∧fnB P p.1=true
theorem aI2.nil{P:Program}{G:Nat→AV}:aI2 P G []:=⟨fun p hp=>by cases hp⟩
theorem aI2.cons{P:Program}{G:Nat→AV}{l:List (FuncId×(List AV→List Obj→Hit))}{f:FuncId}{t:List AV→List Obj→Hit}(h:∀vs x,GOK P G f (t vs x).sp)(q:fnB P f=true)(g:aI2 P G l):aI2 P G ((f,t)::l):=by
 refine⟨fun p hp=>?_⟩;rcases List.mem_cons.1 hp with rfl|hp
 ·exact⟨h,q⟩
 ·exact g.ok p hp
theorem bAP:∀ {l:List (FuncId×(List AV→List Obj→Hit))} {f:FuncId} {vs:List AV} {h:List Obj} {t:Hit},aYR l f vs h=some t→ ∃s,(f,s)∈l∧t=s vs h
 | (k,s)::r,f,vs,h,t,e=>by
  simp only[aYR] at e;split at e
  ·simp_all
  ·obtain⟨u,q,g⟩:=bAP e;grind
theorem bAQ{P:Program}{G:Nat→AV}{l:List (FuncId×(List AV→List Obj→Hit))}(h:aI2 P G l):aF2 P G (aYR l):=by
 refine⟨fun f g z t e=>?_,fun f g z t e=>?_⟩<;>obtain⟨s,q,rfl⟩:=bAP e
 ·exact(h.ok _ q).1 g z
 ·exact xA (h.ok _ q).2
def eM:List Obj→Nat→(t:Ty)→t.den
 | .box _ (.val s x)::_,0,t=>if e:s=t then e▸x else t.zero
 | _::h,i+1,t=>eM h i t
 | _,_,t=>t.zero
@[go_sem] theorem bLW{n:Nat}{t:Ty}{x:t.den}{h:List Obj}:eM (.box n (.val t x)::h) 0 t=x:=by simp[eM]
@[go_sem] theorem bLg{o:Obj}{h:List Obj}{i:Nat}{t:Ty}:eM (o::h) (i+1) t=eM h i t:=by
 cases o<;>try rfl
 rename_i n v;cases v<;>rfl
def qV(h:List Obj)(vs:List AV)(i:Nat)(t:Ty):t.den:=match AV.as (h.map gJ) t (vs.getD i .junk) with
 | some x=>x
 | none=>t.zero
def mkH{R:Type}(o:Option R)(z:R)(f:R→Hit):Hit:=f (o.getD z)
theorem bGV{R:Type}{r z:R}{f:R→Hit}:mkH (some r) z f=f r:=rfl
structure PlR where
 reg:List (Nat×Pl)
 stops:List (Nat×Nat)
 dl:List (FuncId×(List AV→List Obj→Hit))
def bJJ:List (Nat×Pl)→Nat→Pl
 | [],_=>.stop
 | (i,p)::r,f=>match decide (i=f) with
  | true=>p
  | false=>bJJ r f
def first:Code→Nat
 | .region f _ _=>f+3
 | .seq x _=>first x
 | .block _ x=>first x
 | .loop x=>first x
 | .scope x=>first x
 | .skip=>1
 | .label _=>1
 | .ret=>0
 | _=>2
def bAR:List (Nat×Nat)→Code→Code→Bool
 | [],_,_=>false
 | (a,b)::r,x,y=>match decide (a=first x) with
  | true=>match decide (b=first y) with
   | true=>true
   | false=>bAR r x y
  | false=>bAR r x y
def bLX(V:St→List Obj→Prop)(K:Exit→St→List Obj→Prop):Exit→St→List Obj→Prop:=fun e env h=>match e with
 | .normal=>V env h
 | e=>K e env h
def bJK(id:Nat)(K:Exit→St→List Obj→Prop):Exit→St→List Obj→Prop:=fun e env h=>match e with
 | .normal=>K .normal env h
 | .exit j=>match decide (j=id) with
  | true=>K .normal env h
  | false=>K (.exit j) env h
 | .ret=>K .ret env h
 | _=>False
def bMM(K:Exit→St→List Obj→Prop):Exit→St→List Obj→Prop:=fun e env h=>match e with
 | .normal=>K .normal env h
 | .exit j=>K (.exit j) env h
 | .ret=>K .ret env h
 | _=>False
def vcC(F:Fr)(p:PlR):Code→(Exit→St→List Obj→Prop)→(Exit→Act→World→Prop)→St→List Obj→Prop
 | .skip,K,_,env,h=>K .normal env h
 | .label _,K,_,env,h=>K .normal env h
 | .exit q,K,_,env,h=>K (.exit q) env h
 | .ret,K,_,env,h=>K .ret env h
 | .seq x y,K,Q,env,h=>match bAR p.stops x y with
  | true=>Tri F (.seq x y) Q env h
  | false=>vcC F p x (bLX (vcC F p y K Q) K) (Exit.then (Next F y Q) Q) env h
 | .cond o x y,K,Q,env,h=>match evA F.E.G env o with
  | .val .bool b=>(b=true→vcC F p x K Q env h)∧(¬b=true→vcC F p y K Q env h)
  | _=>False
 | .block q x,K,Q,env,h=>vcC F p x (bJK q K) (Exit.inBlock q Q) env h
 | .scope x,K,Q,env,h=>vcC F p x (bMM K) (Exit.noGoto Q) env h
 | .region q ops f,K,Q,env,h=>match bJJ p.reg q with
  | .A keep=>vcA F.E h env ops.toList 0 [] (fun g=>K .normal (aWC keep g env) h)
  | .B keep=>f=false∧xV F.E ops.toList ops.toList env h (fun env h=>K .normal (keep.map fun t=>(t,look env t)) h)
  | .C n keep=>(f=true∧aYQ n ops.toList=true) ∧
    vcA F.E h env (ops.toList.take n) 0 [] (fun g=>xV F.E ops.toList (ops.toList.drop n) (qL F.E.T (gY (ops.toList.take n) 0) (oK g env) h).1 (qL F.E.T (gY (ops.toList.take n) 0) (oK g env) h).2 (fun env h=>K .normal (keep.map fun t=>(t,look env t)) h))
  | .P keep sb=>f=false∧aCs F.E (aYR p.dl) sb ops.toList ops.toList env h (fun env h=>K .normal (keep.map fun t=>(t,look env t)) h) (fun e env h=>AtP F Q e env h)
  | .Q n keep sb=>(f=true∧aYQ n ops.toList=true) ∧
    vcA F.E h env (ops.toList.take n) 0 [] (fun g=>aCs F.E (aYR p.dl) sb ops.toList (ops.toList.drop n) (qL F.E.T (gY (ops.toList.take n) 0) (oK g env) h).1 (qL F.E.T (gY (ops.toList.take n) 0) (oK g env) h).2 (fun env h=>K .normal (keep.map fun t=>(t,look env t)) h) (fun e env h=>AtP F Q e env h))
  | .stop=>Tri F (.region q ops f) Q env h
 | c,_,Q,env,h=>Tri F c Q env h
structure VOK(F:Fr)(p:PlR):Prop where
 fr:vG F
 hits:aI2 F.P F.E.G p.dl
section
variable {F:Fr} {p:PlR}
theorem bEj(hF:vG F){K:Exit→St→List Obj→Prop}{Q:Exit→Act→World→Prop}(U:∀e env h,K e env h→At F (Q e) env h){id:Nat}{ops:Array Oper}{q:Bool}{keep:List Nat}{env:St}{h:List Obj}
  (hv:vcA F.E h env ops.toList 0 [] (fun f=>K .normal (aWC keep f env) h)):Tri F (.region id ops q) Q env h:=fun z c a w hs=>by
 simp only[jI,Bool.and_eq_true,Bool.or_eq_true,Bool.not_eq_true'] at z;obtain⟨⟨L,N⟩,O⟩:=z;have g:∀f c' I w',K .normal (aWC keep f env) h→eK c w c' w'→c'.n=c.n→Sim F.E F.M F.w0 F.nt F.ds c' (oK f env) h I w'→Q .normal I w':=fun f c' I w' Y _ _ J=>by
  have:=J.keep keep;refine U _ _ _ Y c' I w' ?_;grind[aWC,look,oK,bAt]
 cases q with
 | false=>exact bAq (ops:=ops.toList) hF.env (List.all_eq_true.1 L) N hs hv g
 | true=>exact aOO (ops:=ops.toList) hF.env hF.mix (List.all_eq_true.1 L) N (O.resolve_left (by simp)) hs hv g
theorem bEk(hF:vG F){K:Exit→St→List Obj→Prop}{Q:Exit→Act→World→Prop}(g:∀e env h,K e env h→At F (Q e) env h){id:Nat}{ops:Array Oper}{keep:List Nat}{env:St}{h:List Obj}
  (hv:xV F.E ops.toList ops.toList env h (fun env h=>K .normal (keep.map fun t=>(t,look env t)) h)):Tri F (.region id ops false) Q env h:=fun f c a w hs=>by
 simp only[jI,Bool.and_eq_true,Bool.or_eq_true,Bool.not_eq_true'] at f;obtain⟨⟨z,J⟩,I⟩:=f;refine wp_region ?_;have:=aOT (Q:=Q) hF.env (List.all_eq_true.1 z) (K:=fun env h=>K .normal (keep.map fun t=>(t,look env t)) h) (fun env h c a w q hs=>g _ _ _ q c a w (hs.keep keep)) ops.toList.length 0 (by simp) env h c a w (by simp_all) hs;simp_all[List.range_eq_range']
theorem bJL(hF:vG F){K:Exit→St→List Obj→Prop}{Q:Exit→Act→World→Prop}(z:∀e env h,K e env h→At F (Q e) env h){id:Nat}{ops:Array Oper}(n:Nat)(g:aYQ n ops.toList=true){keep:List Nat}{env:St}{h:List Obj}
  (hv:vcA F.E h env (ops.toList.take n) 0 [] (fun q=>xV F.E ops.toList (ops.toList.drop n) (qL F.E.T (gY (ops.toList.take n) 0) (oK q env) h).1 (qL F.E.T (gY (ops.toList.take n) 0) (oK q env) h).2 (fun env h=>K .normal (keep.map fun t=>(t,look env t)) h))) :
  Tri F (.region id ops true) Q env h:=fun f c a w hs=>by
 simp only[jI,Bool.and_eq_true,Bool.or_eq_true,Bool.not_eq_true'] at f;obtain⟨⟨Y,U⟩,N⟩:=f;simp only[aYQ,Bool.and_eq_true] at g;obtain⟨⟨L,J⟩,O⟩:=g;have e:ops.toList.take n++ops.toList.drop n=ops.toList:=List.take_append_drop n ops.toList;have:=bGE (id:=id) (pre:=ops.toList.take n) (tail:=ops.toList.drop n) (Q:=Q) hF.env hF.mix (by grind) J L (by simp_all) hs (K':=fun env h=>K .normal (keep.map fun t=>(t,look env t)) h) (by simp_all) (fun env h c a w I hs=>z _ _ _ I c a w (hs.keep keep));simp_all
theorem aK6(hF:VOK F p):∀(c:Code) (K:Exit→St→List Obj→Prop) (Q:Exit→Act→World→Prop),(∀e env h,K e env h→At F (Q e) env h)→ ∀env h,vcC F p c K Q env h→Tri F c Q env h
 | .skip,K,Q,f,env,h,hv=>eO (f _ _ _ hv)
 | .label _,K,Q,f,env,h,hv=>aXG (f _ _ _ hv)
 | .exit _,K,Q,f,env,h,hv=>aFX (f _ _ _ hv)
 | .ret,K,Q,f,env,h,hv=>iW (f _ _ _ hv)
 | .seq x y,K,Q,f,env,h,hv=>by
  unfold vcC at hv;split at hv
  ·exact hv
  ·refine aN (aK6 hF x _ _ (fun e env h g=>?_) env h hv);cases e with
   | normal=>exact aP (aK6 hF y K Q f env h g)
   | _=>exact f _ env h g
 | .cond o x y,K,Q,f,env,h,hv=>by
  unfold vcC at hv;split at hv
  ·rename_i b hb;exact dF hb (fun e=>aK6 hF x K Q f env h (hv.1 e)) (fun e=>aK6 hF y K Q f env h (hv.2 (by simp_all)))
  simp_all
 | .block I x,K,Q,f,env,h,hv=>by
  refine sP (aK6 hF x _ _ (fun e env h g=>?_) env h hv);cases e with
  | normal=>exact f .normal env h g
  | ret=>exact f .ret env h g
  | exit j =>
   simp only[bJK] at g;split at g
   ·rename_i hd;obtain rfl:=of_decide_eq_true hd;grind[sE]
   grind[aKZ,of_decide_eq_false]
  | _=>exact g.elim
 | .scope x,K,Q,f,env,h,hv=>by
  refine aXN (aK6 hF x _ _ (fun e env h g=>?_) env h hv);cases e with
  | normal=>exact f .normal env h g
  | ret=>exact f .ret env h g
  | exit j=>exact f (.exit j) env h g
  | _=>exact g.elim
 | .region I ops z,K,Q,f,env,h,hv=>by
  unfold vcC at hv;split at hv
  ·exact bEj hF.fr f hv
  ·obtain⟨rfl,hv⟩:=hv; exact bEk hF.fr f hv
  ·obtain⟨⟨rfl,q⟩,hv⟩:=hv; exact bJL hF.fr f _ q hv
  ·obtain⟨rfl,hv⟩:=hv; exact bEa hF.fr f (bAQ hF.hits) _ _ hv
  ·obtain⟨⟨rfl,q⟩,hv⟩:=hv; exact bJI hF.fr f (bAQ hF.hits) _ q _ _ hv
  omega
 | .loop x,K,Q,f,env,h,hv=>hv
 | .rangeFunc _ _ _ _,K,Q,f,env,h,hv=>hv
 | .goto _,K,Q,f,env,h,hv=>hv
 | .refuse _,K,Q,f,env,h,hv=>hv
end
inductive Kt where
 | fin (Q:Exit→Act→World→Prop)
 | seq (y:Code) (k:Kt)
 | blk (id:Nat) (k:Kt)
 | scp (k:Kt)
 | stp (K:Act→World→Prop) (k:Kt)
def aC5(F:Fr):Kt→Exit→Act→World→Prop
 | .fin Q=>Q
 | .seq y k=>Exit.then (Next F y (aC5 F k)) (aC5 F k)
 | .blk f k=>Exit.inBlock f (aC5 F k)
 | .scp k=>Exit.noGoto (aC5 F k)
 | .stp K k=>Exit.then K (aC5 F k)
def den(F:Fr)(p:PlR):Kt→Exit→St→List Obj→Prop
 | .fin Q=>fun e env h=>At F (Q e) env h
 | .seq y k=>bLX (vcC F p y (den F p k) (aC5 F k)) (den F p k)
 | .blk f k=>bJK f (den F p k)
 | .scp k=>bMM (den F p k)
 | .stp K k=>bLX (fun env h=>At F K env h) (den F p k)
def vcT(F:Fr)(p:PlR)(c:Code)(k:Kt)(env:St)(h:List Obj):Prop:=vcC F p c (den F p k) (aC5 F k) env h
section
variable {F:Fr} {p:PlR} {k:Kt} {env:St} {h:List Obj}
theorem aCw(hF:VOK F p):∀(k:Kt) (e:Exit) (env:St) (h:List Obj),den F p k e env h→At F (aC5 F k e) env h
 | .fin Q,e,env,h,f=>f
 | .seq y k,e,env,h,f=>by
  cases e with
  | normal=>exact aP (aK6 hF y _ _ (aCw hF k) env h f)
  | _=>exact aCw hF k _ env h f
 | .blk g k,e,env,h,f=>by
  cases e with
  | normal=>exact aCw hF k .normal env h f
  | ret=>exact aCw hF k .ret env h f
  | exit j =>
   simp only[den,bJK] at f;split at f
   ·rename_i hd;obtain rfl:=of_decide_eq_true hd;exact sE (aCw hF k .normal env h f)
   ·rename_i hd;exact aKZ (of_decide_eq_false hd) (aCw hF k (.exit j) env h f)
  | _=>exact f.elim
 | .scp k,e,env,h,f=>by
  cases e with
  | normal=>exact aCw hF k .normal env h f
  | ret=>exact aCw hF k .ret env h f
  | exit j=>exact aCw hF k (.exit j) env h f
  | _=>exact f.elim
 | .stp K k,e,env,h,f=>by
  cases e with
  | normal=>exact f
  | _=>exact aCw hF k _ env h f
theorem aU2(hF:VOK F p){c:Code}(hv:vcT F p c k env h):Tri F c (aC5 F k) env h:=aK6 hF c _ _ (aCw hF k) env h hv
theorem aF4(hF:VOK F p){e:Exit}(hv:den F p k e env h):At F (aC5 F k e) env h:=aCw hF k e env h hv
theorem bGW:vcT F p .skip k env h=den F p k .normal env h:=propext Iff.rfl
theorem bFp{l:Nat}:vcT F p (.label l) k env h=den F p k .normal env h:=propext Iff.rfl
theorem bGX{id:Nat}:vcT F p (.exit id) k env h=den F p k (.exit id) env h:=propext Iff.rfl
theorem bJM:vcT F p .ret k env h=den F p k .ret env h:=propext Iff.rfl
theorem bJN{x y:Code}:vcT F p (.seq x y) k env h=match bAR p.stops x y with
  | true=>Tri F (.seq x y) (aC5 F k) env h
  | false=>vcT F p x (.seq y k) env h:=propext Iff.rfl
theorem bGY{o:Operand}{x y:Code}:vcT F p (.cond o x y) k env h=match evA F.E.G env o with
  | .val .bool b=>(b=true→vcT F p x k env h)∧(¬b=true→vcT F p y k env h)
  | _=>False:=propext Iff.rfl
theorem bFq{id:Nat}{x:Code}:vcT F p (.block id x) k env h=vcT F p x (.blk id k) env h:=propext Iff.rfl
theorem bFr{x:Code}:vcT F p (.scope x) k env h=vcT F p x (.scp k) env h:=propext Iff.rfl
theorem bGZ{x:Code}:vcT F p (.loop x) k env h=Tri F (.loop x) (aC5 F k) env h:=propext Iff.rfl
theorem bCI{id:Nat}{ops:Array Oper}{f:Bool}:vcT F p (.region id ops f) k env h=match bJJ p.reg id with
  | .A keep=>vcA F.E h env ops.toList 0 [] (fun g=>den F p k .normal (aWC keep g env) h)
  | .B keep=>f=false∧xV F.E ops.toList ops.toList env h (fun env h=>den F p k .normal (keep.map fun t=>(t,look env t)) h)
  | .C n keep=>(f=true∧aYQ n ops.toList=true) ∧
    vcA F.E h env (ops.toList.take n) 0 [] (fun g=>xV F.E ops.toList (ops.toList.drop n) (qL F.E.T (gY (ops.toList.take n) 0) (oK g env) h).1 (qL F.E.T (gY (ops.toList.take n) 0) (oK g env) h).2 (fun env h=>den F p k .normal (keep.map fun t=>(t,look env t)) h))
  | .P keep sb=>f=false∧aCs F.E (aYR p.dl) sb ops.toList ops.toList env h (fun env h=>den F p k .normal (keep.map fun t=>(t,look env t)) h) (fun e env h=>AtP F (aC5 F k) e env h)
  | .Q n keep sb=>(f=true∧aYQ n ops.toList=true) ∧
    vcA F.E h env (ops.toList.take n) 0 [] (fun g=>aCs F.E (aYR p.dl) sb ops.toList (ops.toList.drop n) (qL F.E.T (gY (ops.toList.take n) 0) (oK g env) h).1 (qL F.E.T (gY (ops.toList.take n) 0) (oK g env) h).2 (fun env h=>den F p k .normal (keep.map fun t=>(t,look env t)) h) (fun e env h=>AtP F (aC5 F k) e env h))
  | .stop=>Tri F (.region id ops f) (aC5 F k) env h:=propext Iff.rfl
theorem bJO{Q:Exit→Act→World→Prop}{e:Exit}:den F p (.fin Q) e env h=At F (Q e) env h:=propext Iff.rfl
theorem bG0{y:Code}:den F p (.seq y k) .normal env h=vcT F p y k env h:=propext Iff.rfl
theorem bG1{y:Code}{id:Nat}:den F p (.seq y k) (.exit id) env h=den F p k (.exit id) env h:=propext Iff.rfl
theorem bG2{y:Code}:den F p (.seq y k) .ret env h=den F p k .ret env h:=propext Iff.rfl
theorem bG3{id:Nat}:den F p (.blk id k) .normal env h=den F p k .normal env h:=propext Iff.rfl
theorem bG4{id j:Nat}:den F p (.blk id k) (.exit j) env h=match decide (j=id) with
  | true=>den F p k .normal env h
  | false=>den F p k (.exit j) env h:=propext Iff.rfl
theorem bG5{id:Nat}:den F p (.blk id k) .ret env h=den F p k .ret env h:=propext Iff.rfl
theorem bG6:den F p (.scp k) .normal env h=den F p k .normal env h:=propext Iff.rfl
theorem bG7{j:Nat}:den F p (.scp k) (.exit j) env h=den F p k (.exit j) env h:=propext Iff.rfl
theorem bG8:den F p (.scp k) .ret env h=den F p k .ret env h:=propext Iff.rfl
theorem bG9{K:Act→World→Prop}:den F p (.stp K k) .normal env h=At F K env h:=propext Iff.rfl
theorem bHa{K:Act→World→Prop}{j:Nat}:den F p (.stp K k) (.exit j) env h=den F p k (.exit j) env h:=propext Iff.rfl
theorem bHb{K:Act→World→Prop}:den F p (.stp K k) .ret env h=den F p k .ret env h:=propext Iff.rfl
theorem bJP{E:Env}{i:Nat}{f:List Ent}{K:List Ent→Prop}:vcA E h env [] i f K=K f:=propext Iff.rfl
theorem bHc{E:Env}{o:Oper}{r:List Oper}{i:Nat}{f:List Ent}{K:List Ent→Prop}:vcA E h env (o::r) i f K=match o.dst,opA E h env f o with
  | some d,(p,v)=>aGT f o.guard∧(kE f (aGG f o.guard)→p)∧vcA E h env r (i+1) (⟨i,d,aGG f o.guard,v⟩::f) K
  | none,_=>False:=propext (by rfl)
theorem bHd{E:Env}{all:List Oper}{K:St→List Obj→Prop}:xV E all [] env h K=K env h:=propext Iff.rfl
theorem bFs{E:Env}{all:List Oper}{o:Oper}{r:List Oper}{K:St→List Obj→Prop}:xV E all (o::r) env h K=match o.guard with
  | none=>match aAO E env h o with
   | (p,v,h')=>p∧xV E all r (zO o.dst v env) h' K
  | some (j,f)=>match aK3 all j with
   | some g=>match look env g with
    | .val .bool b=>(b=f→match aAO E env h o with
      | (p,v,h')=>p∧xV E all r (zO o.dst v env) h' K)∧(b= !f→xV E all r (zO o.dst .undef env) h K)
    | .undef=>xV E all r (zO o.dst .undef env) h K
    | _=>False
   | none=>False:=propext (by rfl)
theorem dD(hF:VOK F p){x y:Code}{D:Type}(J:D→Prop)(keep:List Nat)(f:D→St)(g:D→List (Nat⊕Obj))
  (z:vcT F p x (.stp (fun q w'=>∃d' c',J d'∧Sim F.E F.M F.w0 F.nt F.ds c' (aNH env keep (f d')) (zP h (g d')) q w') k) env h)
  (hy:∀d,J d→vcT F p y k (aNH env keep (f d)) (zP h (g d))):Tri F (.seq x y) (aC5 F k) env h :=
 bAv J (fun d=>aNH env keep (f d)) (fun d=>zP h (g d)) (aU2 hF z) (fun d hd=>aU2 hF (hy d hd))
theorem bQ(hF:VOK F p){x:Code}{D E R:Type}{G:Md}{step:D→Option (D⊕E)}{f:E→Option R}{Θ:R→Prop}{d0:D}(keep:List Nat)(g:D→St)(q:D→List (Nat⊕Obj))
  (hd:sat ((dK G step d0).bind f) Θ) (Z:h=zP h (q d0)) (L:xU h env (aNH env keep (g d0)))
  (round:∀d (A:D→Prop) (B:D⊕E→Prop),(∀x,B (.inl x)→A x)→(∀e,B (.inr e)→sat (f e) Θ)→sat (step d) B→vcT F p x (.stp (fun N w'=>∃d' c',A d'∧Sim F.E F.M F.w0 F.nt F.ds c' (aNH env keep (g d')) (zP h (q d')) N w') k) (aNH env keep (g d)) (zP h (q d))):Tri F (.loop x) (aC5 F k) env h:=by
 obtain⟨r,I,z⟩:=hd;refine bAu (fun d=>(dK G step d).bind f=some r) (aIZ step) (fun d=>aNH env keep (g d)) (fun d=>zP h (q d)) (aT d0 I Z L) fun d hi=>?_;obtain⟨s,U,Y⟩:=aUY hi;refine aU2 hF (k:=.stp _ k) (round d (fun d'=>(dK G step d').bind f=some r∧aIZ step d'<aIZ step d) (aCt (fun d'=>(dK G step d').bind f=some r∧aIZ step d'<aIZ step d) (fun e=>f e=some r)) (fun _ J=>J) (fun e O=>⟨r,O,z⟩) ⟨s,U,Y⟩)
theorem vI(hF:VOK F p){id:Nat}{ops:Array Oper}{f:Bool}(keep:List Nat)(hv:vcA F.E h env ops.toList 0 [] (fun g=>den F p k .normal (aWC keep g env) h)):Tri F (.region id ops f) (aC5 F k) env h :=
 bEj hF.fr (aCw hF k) hv
theorem aU3(hF:VOK F p){id:Nat}{ops:Array Oper}(keep:List Nat)(hv:xV F.E ops.toList ops.toList env h (fun env h=>den F p k .normal (keep.map fun t=>(t,look env t)) h)):Tri F (.region id ops false) (aC5 F k) env h :=
 bEk hF.fr (aCw hF k) hv
def bLh(P:Program)(fn:Func)(S:Nat→Prop)(w0:World)(r:RK)(Θ:r.ty.den→Prop):Exit→Act→World→Prop:=fun e a w=>∃y,Θ y∧post P fn S w0 r y e a w
theorem aG{F:Fr}{fn:Func}{S:Nat→Prop}{r:RK}{Θ:r.ty.den→Prop}{env:St}{h:List Obj}{p:PlR}(hF:VOK F p)(l:List ResultVar)(g:F.M=top S)(f:F.ds= [])(q:fn.results=l.toArray){y:r.ty.den}(hy:Θ y)(hq:(aS F.E.T h env l).1∧nD h r y (aS F.E.T h env l).2):At F (bLh F.P fn S F.w0 r Θ .ret) env h :=
 fun c a w hs=>⟨y,hy,pM hF.fr l g f q hq c a w hs⟩
theorem bP{P:Program}{E:Env}{f:FuncId}{fn:Func}{g:Code}{a:Ty}{r:RK}{m:a.den→Option r.ty.den}(I:jC P E)(hm:P.follows .mixedOrders=true)(J:P.funcs[f]? = some fn)(hb:fn.body=some g)(q:jI fn.ntmps g=true)(L:aSb a≤fn.ntmps)(p:PlR)
  (ht:∀(w0:World) (S:Nat→Prop) (x:a.den) (Θ:r.ty.den→Prop),a.wf x→sat (m x) Θ→VOK (fr P E S w0 fn.ntmps) p→vcT (fr P E S w0 fn.ntmps) p g (.fin (bLh P fn S w0 r Θ)) (cA a x 0) []) (hd:aI2 P E.G p.dl:=by exact .nil):FOK P E.G f (mSpec a r m) :=
 aFK I J hb q L fun w0 S x y N O=>by
  have hF:VOK (fr P E S w0 fn.ntmps) p:=⟨⟨I,hm⟩,hd⟩;have:=aU2 hF (ht w0 S x (fun z=>z=y) N ⟨y,O,rfl⟩ hF);intro q c a w hs;refine wp_mono (this q c a w hs) fun e Y w' hq=>?_;obtain⟨z,rfl,U⟩:=hq;exact U
theorem kG{P:Program}{E:Env}{f:FuncId}{fn:Func}{g:Code}{sp:fQ}(z:jC P E)(hm:P.follows .mixedOrders=true)(J:P.funcs[f]? = some fn)(hb:fn.body=some g)(q:jI fn.ntmps g=true)(L:∀d,(sp.av d).length≤fn.ntmps)(p:PlR)
  (ht:∀(c:Ctx) (w:World) (d:sp.D),AV.wfL (sp.av d)→Obj.wfL (sp.hp d)→sp.pre d→VOK ⟨P,E,GM sp c d,w,fn.ntmps,[]⟩ p→vcT ⟨P,E,GM sp c d,w,fn.ntmps,[]⟩ p g (.fin (bodyPost P fn (aNI sp c w d))) (vH ((sp.av d).map rpV) 0) (sp.hp d)) (hd:aI2 P E.G p.dl:=by exact .nil):GOK P E.G f sp :=
 bAN z J hb q L fun c w d O N I _ =>
  have hF:VOK ⟨P,E,GM sp c d,w,fn.ntmps,[]⟩ p:=⟨⟨z,hm⟩,hd⟩
  aU2 hF (ht c w d O N I hF)
theorem kH{α:Type}{o:Option α}{r:α}(h:o=some r):sat o (fun z=>z=r):=⟨r,h,rfl⟩
theorem aO{α:Type}{a r:α}(h:sat (some a) (fun z=>z=r)):a=r:=by
 obtain⟨x,g,f⟩:=h;cases g;exact f
theorem oV{α:Type}{o:Option α}{Θ:α→Prop}{x:α}(h:o=some x)(hq:Θ x):sat o Θ:=⟨x,h,hq⟩
def fY(vs:List AV)(i:Nat):Nat:=match vs.getD i .junk with| .ptr j _=>j|_=>0
def bNj(vs:List AV)(i j:Nat):Nat:=match vs.getD i .junk with| .fn _ l _=>l.getD j 0|_=>0
def bNk(h:List Obj)(i j:Nat):Nat:=match h.getD i .dead with| .box _ (.fn _ _ l)=>l.getD j 0|_=>0
end
section
variable {F:Fr} {p:PlR} {k:Kt} {env:St} {h:List Obj} {e:Pan}
theorem bJQ{Q:Exit→Act→World→Prop}:AtP F (aC5 F (.fin Q)) e env h=AtP F Q e env h:=rfl
theorem bJR{y:Code}:AtP F (aC5 F (.seq y k)) e env h=AtP F (aC5 F k) e env h:=rfl
theorem bJS{id:Nat}:AtP F (aC5 F (.blk id k)) e env h=AtP F (aC5 F k) e env h:=rfl
theorem bJT:AtP F (aC5 F (.scp k)) e env h=AtP F (aC5 F k) e env h:=rfl
theorem bJU{K:Act→World→Prop}:AtP F (aC5 F (.stp K k)) e env h=AtP F (aC5 F k) e env h:=rfl
variable {E:Env} {Δ:FuncId→List AV→List Obj→Option Hit} {sb:List Nat} {all:List Oper} {K:St→List Obj→Prop} {Kp:Pan→St→List Obj→Prop}
theorem bHe:aCs E Δ sb all [] env h K Kp=K env h:=rfl
theorem bFt{o:Oper}{r:List Oper}:aCs E Δ sb all (o::r) env h K Kp=match o.guard with
  | none=>aK5 E Δ sb env h o (fun v h'=>aCs E Δ sb all r (zO o.dst v env) h' K Kp) (fun p h'=>Kp p env h')
  | some (j,f)=>match aK3 all j with
   | some g=>match look env g with
    | .val .bool b=>(b=f→aK5 E Δ sb env h o (fun v h'=>aCs E Δ sb all r (zO o.dst v env) h' K Kp) (fun p h'=>Kp p env h'))∧(b= !f→aCs E Δ sb all r (zO o.dst .undef env) h K Kp)
    | .undef=>aCs E Δ sb all r (zO o.dst .undef env) h K Kp
    | _=>False
   | none=>False:=propext (by rfl)
class KGo where
 k:AV→List Obj→Prop
 kp:Pan→List Obj→Prop
def goH(h:List Obj)(vs:List AV)(t:Hit)[w:KGo]:Prop :=
 aOV h vs t∧bAG (t.sp.out t.d) (fun v h'=>bGJ (tX t.σ t.sp.m h.length h'.length) v=true∧w.k (emb (tX t.σ t.sp.m h.length h'.length) v) (aF1 t.σ t.sp.m h h')) (fun p h'=>w.kp p (aF1 t.σ t.sp.m h h'))
theorem bLY{vs:List AV}{sp:fQ}{σ:List Nat}{d:sp.D}{k:AV→List Obj→Prop}{kp:Pan→List Obj→Prop}: @goH h vs ⟨sp,σ,d⟩ ⟨k,kp⟩=(aOV h vs ⟨sp,σ,d⟩∧bAG (sp.out d) (fun v h'=>bGJ (tX σ sp.m h.length h'.length) v=true∧k (emb (tX σ sp.m h.length h'.length) v) (aF1 σ sp.m h h')) (fun p h'=>kp p (aF1 σ sp.m h h'))):=rfl
theorem bHf{o:Oper}{k:AV→List Obj→Prop}{kp:Pan→List Obj→Prop}:aK5 E Δ sb env h o k kp=match bAJ Δ h (aEd E.G env h o) with
  | some t=> @goH h (aYJ (aEd E.G env h o)) t ⟨k,kp⟩
  | none=>match aUS E.G env o with
   | some p=>kp p h
   | none=>match aUT E sb env h o with
    | (p,v,h')=>p∧k v h':=propext (by rfl)
end
attribute [go_sem ↓] bJQ bJR bJS bJT bJU bHe bFt bHf bAH bAI
attribute [go_sem] aYR qV fY bNk bNj bGV bLY
attribute [go_sem ↓] bGW bFp bGX bJM bJN bGY bFq bFr bGZ bCI
attribute [go_sem ↓] bJO bG0 bG1 bG2 bG3 bG4 bG5 bG6 bG7 bG8 bG9 bHa bHb
attribute [go_sem ↓] bJP bHc bHd bFs
attribute [go_sem] bJJ first bAR xU fB nD eq_self bGU
end Go.Vc
namespace Go.Vc
open Go.RowKit
section
variable {F:Fr} {K:Act→World→Prop} {env:St} {h:List Obj}
theorem bFu(i q:Nat)(e:TypeId)(m:Mk)(t:Ty){n:Nat}{vs:List AV}(ho:h[i]? = some (.box n (.agg vs)))(hq:vs[q]? = some .nilS)(hs1:vs.all AV.solid1=true)(hk:At F K env (h.set i (.box n (.agg (vs.set q (.own h.length))))++ [aHY e m t []])):At F K env h:=fun c a w hs=>by
 have U:i<h.length:=yP ho;have hin:i<c.n:=by rw[hs.good.n]; exact U
 have I:mD w c.S (.sl t) (.sl e m) [] [.slice none 0 0] []:=⟨.slice none 0 0,[],[],rfl,World.ownsRow_nil w 0 e t.cells,rfl,rfl,rfl,fun i h=>by simp at h⟩;obtain⟨c',hl,O,hv⟩:=hs.good.taken [] (w':=w) rfl rfl rfl (Nat.le_refl _) (fun _ _ _=>rfl) I List.nodup_nil (fun b hb=>by cases hb) ⟨_,_,_,rfl⟩;have O:Good F.M F.w0 c' (h++ [aHY e m t []]) w:=O;have g:(h++ [aHY e m t []])[i]? = some (.box n (.agg vs)):=by grind
 obtain⟨b,cells,e',q1,q2,q3,q4⟩:=O.objs i _ g;simp only[aM] at q4;obtain⟨Y,hqe⟩:=List.getElem?_eq_some_iff.1 hq;obtain⟨pre,ds,post,e1,hp,hd,L⟩:=aTW q4 (fun v hv=>List.all_eq_true.1 hs1 v hv) Y;have hfo:∀(vs:List AV) (q:Nat) (hq:q<vs.length),(eH (.agg vs) q).1=vs[q]:=by
  intro vs
  induction vs with
  | nil=>simp_all
  | cons v r ih=>intro q hq; cases q with
   | zero=>rfl
   | succ q=>simp only[eH,List.getElem_cons_succ]; exact ih q (by simpa using hq)
 rw[hfo vs q Y,hqe] at hd;have hd:ds= [.slice none 0 0]:=hd;subst hd;have z:aM c' w (.own h.length) [.slice none 0 0]:=by
  obtain⟨hh,_⟩:=hv;exact hh
 have N:=L (.own h.length) _ z;rw[← e1] at N;have key:=O.retell g (o':=.box n (.agg (vs.set q (.own h.length)))) (S':=c'.S) (B':=c'.bl i) (fun b hb=>.inl hb) (fun b hb=>hb) ⟨b,cells,e',q1,q2,q3,by
  have hle:c'.le ⟨c'.S,c'.hd,c'.n,fun j=>if j=i then c'.bl i else c'.bl j⟩:=⟨fun _ h=>h,Nat.le_refl _,fun _ _=>rfl⟩;have:aM c' w (.agg (vs.set q (.own h.length))) cells.toList:=by grind[aM]
  exact aM.keep hle (.refl _ _) _ _ this⟩ (fun b hb=>⟨hb,(O.own i _ b g hb).2.2⟩)
 obtain⟨c2,Z,J⟩:=key;rw[List.set_append_left _ _ U] at J;have f:=hl.trans Z;exact hk c2 a w ⟨J,hs.glob.mono f.le.S f.same,fun s=>f.val (hs.env s),hs.size,hs.defers⟩
theorem aU4{x:Code}{Q:Exit→Act→World→Prop}(i q:Nat)(e:TypeId)(m:Mk)(t:Ty){n:Nat}{vs:List AV}(z:h[i]? = some (.box n (.agg vs)))(hq:vs[q]? = some .nilS)(g:vs.all AV.solid1=true)(I:Tri F x Q env (h.set i (.box n (.agg (vs.set q (.own h.length))))++ [aHY e m t []])):Tri F x Q env h:=fun f=>bFu i q e m t z hq g (I f)
end
end Go.Vc
namespace Go.Vc
open Go.RowKit
end Go.Vc
namespace Go.Vc
open Go.RowKit
def bitsOf(n:Nat)(done:List Nat):List Bool:=(List.range n).map fun i=>done.contains i
def bMN(F:Fr)(g:List Bool→St×List Obj)(downs:List (List Bool))(f:List Bool)(d:Option Nat)(env:St)(r:Prop×AV×List Obj):Prop:=match r with
 | (p,v,h')=>p∧f∈downs∧ ∃σ,nodupB σ=true∧preB F.M.m σ=true∧((g f).1.map fun q=>(q.1,ren σ (look (zO d v env) q.1)))=(g f).1∧(σ.map fun j=>dT σ (h'.getD j .dead))=(g f).2
def stT(F:Fr)(ops:List Oper)(f:List Bool→St×List Obj)(downs:List (List Bool))(g:List Bool)(i:Nat):Prop :=
 match ops[i]? with
 | some o=>o.guard=none∧bMN F f downs (g.set i true) o.dst (f g).1 (aAO F.E (f g).1 (f g).2 o)
 | none=>False
inductive Dk where
 | v (t:Nat) (x:AV)
 | mk (t:Nat) (o:Obj)
 | cp (t j:Nat)
 | st (i:Nat) (o:Obj)
def bHg:List Dk→List Bool→Nat→Nat
 | _,_,0=>0
 | .mk _ _::r,true::bs,j+1=>bHg r bs j+1
 | _::r,_::bs,j+1=>bHg r bs j
 | _,_,_+1=>0
def bMO(ds:List Dk)(f:List Bool)(n i:Nat):Dk→Nat×AV
 | .v t x=>(t,x)
 | .mk t _=>(t,.own (n+bHg ds f i))
 | .cp t j=>(t,.own (n+bHg ds f j))
 | .st _ _=>(0,.junk)
def bHh(ds:List Dk)(f:List Bool)(n:Nat):List Dk→List Bool→Nat→St
 | _,[],_=>[]
 | [],_::_,_=>[]
 | .st _ _::r,true::b,i=>bHh ds f n r b (i+1)
 | d::r,true::b,i=>bMO ds f n i d::bHh ds f n r b (i+1)
 | _::r,false::b,i=>bHh ds f n r b (i+1)
def bJV:List Dk→List Bool→List Obj
 | .mk _ o::r,true::b=>o::bJV r b
 | _::r,_::b=>bJV r b
 | _,_=>[]
def bJW:List Dk→List Bool→List Obj→List Obj
 | .st i o::r,true::b,h=>bJW r b (h.set i o)
 | _::r,_::b,h=>bJW r b h
 | _,_,h=>h
def bNl(env:St)(h:List Obj)(ds:List Dk)(f:List Bool):St×List Obj:=(bHh ds f h.length ds f 0++env,bJW ds f h++bJV ds f)
def stL(F:Fr)(ops:List Oper)(f:List Bool→St×List Obj)(downs:List (List Bool))(g:List Bool):List Nat→Prop
 | []=>True
 | i::r=>stT F ops f downs g i∧stL F ops f downs g r
def stM(F:Fr)(ops:List Oper)(f:List Bool→St×List Obj)(downs:List (List Bool)):List (List Bool×List Nat)→Prop
 | []=>True
 | p::r=>stL F ops f downs p.1 p.2∧stM F ops f downs r
attribute [go_sem] stM stL stT bMN bNl bHh bMO bJV bJW bHg bitsOf
end Go.Vc
namespace Go.Vc
open Go.RowKit
def pk(b:Bool)(i:Nat):AV:=bif b then .nilP else .ptr i []
theorem bJX{σ:List Nat}{b:Bool}{i:Nat}:cZ σ (pk b i)=match posOf i σ with
 | some j=>pk b j
 | none=>bif b then .nilP else .junk:=by
 cases b
 ·rfl
 ·show cZ σ .nilP=_;simp only[cZ];cases posOf i σ<;>rfl
theorem bJY{f:List Nat}{b:Bool}{i:Nat}:aSV f (pk b i)=match f[i]? with
 | some j=>pk b j
 | none=>bif b then .nilP else .junk:=by
 cases b
 ·rfl
 ·show aSV f .nilP=_;simp only[aSV];cases f[i]? <;> rfl
theorem bFv{b:Bool}{i:Nat}:AV.solid1 (pk b i)=true:=by cases b<;>rfl
theorem bLZ{b:Bool}{i:Nat}:AV.nc1 (pk b i)=1:=by cases b<;>rfl
section
variable {F:Fr} {K:Act→World→Prop} {env:St} {h:List Obj}
theorem bL0(i n:Nat)(e:TypeId)(ho:h[i]? = some (.box n (.agg [.nilP,.nilS])))(Y:At F K env (h.set i (.box n (.agg [pk true i,.own h.length]))++ [.row e (.u .u8) []])):At F K env h:=fun c a w hs=>by
 have e1:(c.push (.slice none 0 0)).hd c.n= .slice none 0 0:=by simp[Ctx.push]
 have I:i<h.length:=yP ho;obtain⟨g1,g2⟩:=hs.good.push (.refl nothing w) (o:=.row e (.u .u8) []) (hv:=.slice none 0 0) (by
  show aCl _ _ _ _ _ _;rw[e1];exact⟨[],⟨by simp,.inl ⟨rfl,rfl⟩⟩,⟨rfl,[],rfl,rfl,fun i h=>by simp at h⟩⟩) (fun b hb=>by grind[fI,aU])
 have g:(h++ [Obj.row e (.u .u8) []])[i]? = some (.box n (.agg [.nilP,.nilS])):=by grind
 obtain⟨b,cells,N,L,q2,q3,J⟩:=g1.objs i _ g;have hcells:aM (c.push (.slice none 0 0)) w (.agg [pk true i,.own h.length]) cells.toList:=by
  simp only[aM] at J ⊢;obtain⟨c1,O,hc,Z,c3,c4,q,h2,U⟩:=J;refine⟨c1,O,hc,Z,c3,c4,q,?_,U⟩;simp only[aM] at h2 ⊢;rw[← hs.good.n];exact⟨Nat.lt_succ_self _,by grind,by rw[e1]; trivial⟩
 have z:fI (c.push (.slice none 0 0)) i (.box n (.agg [.nilP,.nilS])) b:=by simp[fI,L,aU]
 have f:=g1.modify (o':=.box n (.agg [pk true i,.own h.length])) g z (w':=w) rfl rfl rfl rfl (fun _ _=>rfl) ⟨b,cells,N,L,q2,q3,hcells⟩ (fun b' hb'=>by
  grind[fI,aU,Option.some.injEq])
 rw[List.set_append_left _ _ I] at f;exact Y _ a w ⟨f.1,hs.glob.mono (fun _ h=>h) (.refl _ _),fun t=>g2.val (hs.env t),hs.size,hs.defers⟩
end
attribute [go_sem ↓] bJX bJY bFv bLZ
end Go.Vc
namespace Go.Proofs
open Go Go.Shelf
section
variable {P:Program} {ρ:Ren}
theorem aNM(w:World)(r:Option Nat):w.grownBy w.drew r:=⟨rfl,rfl,rfl,Nat.le_refl _,fun _ _ _=>rfl⟩
theorem aYS(w:World)(g n:Nat):w.grownBy (w.drew.freeze ⟨g,0,none⟩ n) (some g):=by
 unfold World.freeze;split
 ·exact aNM w _
 ·refine⟨rfl,rfl,rfl,by simp,fun k q f=>?_⟩;show (w.drew.heap.modify g _)[k]? = _;rw[Array.getElem?_modify,if_neg (fun e=>f (by rw[e]))];rfl
theorem bCJ(w:World)(o:Obj)(r:Option Nat):w.grownBy (w.drew.alloc o) r:=⟨rfl,rfl,rfl,by simp_all,fun k f _=>Lib.alloc_old w.drew o k f⟩
set_option maxHeartbeats 4000000 in
set_option maxRecDepth 100000 in
theorem bAS(L:Lays.n169 P ρ)(X:Builder.Extra P ρ)(b g cap:Nat)(p:Value)(q:Array Value)(l:List UInt8)(w:World)(h0:l≠ [])(I:w.heap[b]? = some (.cells #[p,.slice (some ⟨g,0,none⟩) l.length cap] (ρ.t 72) (0,0)))
  (hg:w.heap[g]? = some (.cells q (ρ.t 5) (0,0))) (hnc:l.length≤cap) (hcm:cap≤maxLen) (hcs:q.size=cap) (hcell:∀j x,l[j]? = some x→w.cell? ((⟨g,0,none⟩:Addr).add j)=some (.int .u8 x.toNat)) :
  Calls P (ρ.f 169) #[.pointer (some ⟨b,0,none⟩)] w fun e w'=>e= .returned (.string ⟨l.toArray⟩)∧w.grownBy w' (some g):=by
 have hl0:l.length≠0:=by simp_all
 have c1:w.drew.cell? ⟨b,1,none⟩=some (.slice (some ⟨g,0,none⟩) l.length cap):=by
  have:w.drew.heap[b]? = some (.cells #[p,.slice (some ⟨g,0,none⟩) l.length cap] (ρ.t 72) (0,0)):=I;rw[Lib.cell_of_heap this]; rfl
 have hSD:(Builtin.unsafeSliceData_ #[(ρ.t 37)] (ρ.t 127) #[.slice (some ⟨g,0,none⟩) l.length cap]).run P w.drew= .ok (.pointer (some ⟨g,0,none⟩)) w.drew :=
  Lib.run_unsafeSliceData_row _ _ _ _ _ _ (by omega)
 have hUS:(Builtin.unsafeString_ #[(ρ.t 127),(ρ.t 3)] (ρ.t 9) #[.pointer (some ⟨g,0,none⟩),.int .i64 l.length]).run P w.drew= .ok (.string ⟨l.toArray⟩) (w.drew.freeze ⟨g,0,none⟩ l.length):=by
  refine Lib.run_unsafeString_row w.drew (ρ.t 127) (ρ.t 3) (ρ.t 9) (ρ.t 5) L.t127 X.cellsByte g q.size (by have z:w.drew.heap[g]? = some (.cells q (ρ.t 5) (0,0)):=hg; simp[World.shape?,z]) l h0 (by omega) (by grind[maxLen]) ?_;exact hcell
 have mixed:=L.mixed;have t72:=L.t72; have a72:=L.a72; have z72:=L.z72; have v72:=L.v72; have u72:=run_underlying L.t72;have t70:=L.t70; have Z:=L.a70; have z70:=L.z70; have v70:=L.v70; have u70:=run_underlying L.t70;have t37:=L.t37; have a37:=L.a37; have z37:=L.z37; have v37:=L.v37; have u37:=run_underlying L.t37;have O:=L.t127; have N:=L.a127; have Y:=L.z127; have U:=L.v127; have J:=run_underlying L.t127;have t3:=L.t3; have a3:=L.a3; have z3:=L.z3; have v3:=L.v3; have u3:=run_underlying L.t3;have t9:=L.t9; have a9:=L.a9; have z9:=L.z9; have v9:=L.v9; have u9:=run_underlying L.t9;have t5:=X.t5; have a5:=X.a5; have z5:=X.z5; have v5:=X.v5; have u5:=run_underlying X.t5
 go_enter L.f169,Body.n169_ntmps ρ
 go_wp2
 go_region_o
 all_goals (go_wp2; go_ret; exact⟨rfl,aYS w g _⟩)
set_option maxHeartbeats 4000000 in
set_option maxRecDepth 100000 in
theorem bCK(L:Lays.n169 P ρ)(X:Builder.Extra P ρ)(b:Nat)(p:Value)(w:World)(g:w.heap[b]? = some (.cells #[p,.slice none 0 0] (ρ.t 72) (0,0))) :
  Calls P (ρ.f 169) #[.pointer (some ⟨b,0,none⟩)] w fun e w'=>e= .returned (.string ⟨#[]⟩)∧w.grownBy w' none:=by
 have hUS:=Any.unsafeString_none L X;have c1:w.drew.cell? ⟨b,1,none⟩=some (.slice none 0 0):=by
  have:w.drew.heap[b]? = some (.cells #[p,.slice none 0 0] (ρ.t 72) (0,0)):=g;rw[Lib.cell_of_heap this]; rfl
 have hSD:(Builtin.unsafeSliceData_ #[(ρ.t 37)] (ρ.t 127) #[.slice none 0 0]).run P w.drew= .ok (.pointer none) w.drew:=rfl;have mixed:=L.mixed;have t72:=L.t72; have a72:=L.a72; have z72:=L.z72; have v72:=L.v72; have u72:=run_underlying L.t72;have t70:=L.t70; have O:=L.a70; have U:=L.z70; have v70:=L.v70; have Y:=run_underlying L.t70;have Z:=L.t37; have a37:=L.a37; have z37:=L.z37; have v37:=L.v37; have u37:=run_underlying L.t37;have I:=L.t127; have z:=L.a127; have N:=L.z127; have J:=L.v127; have q:=run_underlying L.t127;have t3:=L.t3; have a3:=L.a3; have z3:=L.z3; have v3:=L.v3; have u3:=run_underlying L.t3;have t9:=L.t9; have a9:=L.a9; have z9:=L.z9; have v9:=L.v9; have u9:=run_underlying L.t9;have t5:=X.t5; have a5:=X.a5; have z5:=X.z5; have v5:=X.v5; have u5:=run_underlying X.t5
 go_enter L.f169,Body.n169_ntmps ρ
 go_wp2
 go_region_o
 all_goals (go_wp2; go_ret; exact⟨rfl,aNM w _⟩)
set_option maxHeartbeats 4000000 in
set_option maxRecDepth 100000 in
theorem aWF(L:Lays.n169 P ρ)(X:Builder.Extra P ρ)(b g:Nat)(p:Value)(q:Array Value)(w:World)(z:w.heap[b]? = some (.cells #[p,.slice (some ⟨g,0,none⟩) 0 0] (ρ.t 72) (0,0)))(hg:w.heap[g]? = some (.cells q (ρ.t 5) (0,0))) :
  Calls P (ρ.f 169) #[.pointer (some ⟨b,0,none⟩)] w fun e w'=>e= .returned (.string ⟨#[]⟩)∧w.grownBy w' none:=by
 have hUS:=Any.unsafeString_none L X;have I:b<w.heap.size:=(Array.getElem?_eq_some_iff.1 z).1;have c1:w.drew.cell? ⟨b,1,none⟩=some (.slice (some ⟨g,0,none⟩) 0 0):=by
  have:w.drew.heap[b]? = some (.cells #[p,.slice (some ⟨g,0,none⟩) 0 0] (ρ.t 72) (0,0)):=z;rw[Lib.cell_of_heap this]; rfl
 have hSD:(Builtin.unsafeSliceData_ #[(ρ.t 37)] (ρ.t 127) #[.slice (some ⟨g,0,none⟩) 0 0]).run P w.drew= .ok (.pointer (some ⟨w.drew.heap.size,0,none⟩)) (w.drew.alloc (.view ⟨g,0,none⟩ (ρ.t 5))) :=
  Lib.run_unsafeSliceData_zero w.drew _ _ (ρ.t 5) L.t127 ⟨g,0,none⟩ 0 ((ρ.t 5),q.size) (by have J:w.drew.heap[g]? = some (.cells q (ρ.t 5) (0,0)):=hg; simp[World.shape?,J])
 have c2:(w.drew.alloc (.view ⟨g,0,none⟩ (ρ.t 5))).cell? ⟨b,1,none⟩=some (.slice (some ⟨g,0,none⟩) 0 0):=by
  have:(w.drew.alloc (.view ⟨g,0,none⟩ (ρ.t 5))).heap[b]? = _:=(Lib.alloc_old w.drew _ b I).trans z;rw[Lib.cell_of_heap this]; rfl
 have c3:(w.alloc (.view ⟨g,0,none⟩ (ρ.t 5))).drew.cell? ⟨b,1,none⟩=some (.slice (some ⟨g,0,none⟩) 0 0):=c2;have c0:w.cell? ⟨b,1,none⟩=some (.slice (some ⟨g,0,none⟩) 0 0):=c1;have mixed:=L.mixed;have t72:=L.t72; have a72:=L.a72; have z72:=L.z72; have v72:=L.v72; have u72:=run_underlying L.t72;have t70:=L.t70; have a70:=L.a70; have z70:=L.z70; have v70:=L.v70; have u70:=run_underlying L.t70;have t37:=L.t37; have a37:=L.a37; have z37:=L.z37; have v37:=L.v37; have u37:=run_underlying L.t37;have U:=L.t127; have O:=L.a127; have Z:=L.z127; have Y:=L.v127; have N:=run_underlying L.t127;have t3:=L.t3; have a3:=L.a3; have z3:=L.z3; have v3:=L.v3; have u3:=run_underlying L.t3;have t9:=L.t9; have a9:=L.a9; have z9:=L.z9; have v9:=L.v9; have u9:=run_underlying L.t9;have t5:=X.t5; have a5:=X.a5; have z5:=X.z5; have v5:=X.v5; have u5:=run_underlying X.t5
 go_enter L.f169,Body.n169_ntmps ρ
 go_wp2
 go_region_o
 all_goals (go_wp2; go_ret; exact⟨rfl,bCJ w _ _⟩)
set_option maxHeartbeats 4000000 in
set_option maxRecDepth 100000 in
theorem bAT(L:Lays.n169 P ρ)(X:Builder.Extra P ρ)(b g cap:Nat)(p:Value)(w:World)(q:cap≠0)(z:w.heap[b]? = some (.cells #[p,.slice (some ⟨g,0,none⟩) 0 cap] (ρ.t 72) (0,0))) :
  Calls P (ρ.f 169) #[.pointer (some ⟨b,0,none⟩)] w fun e w'=>e= .returned (.string ⟨#[]⟩)∧w.grownBy w' none:=by
 have hUS:=Any.unsafeString_none L X;have c1:w.drew.cell? ⟨b,1,none⟩=some (.slice (some ⟨g,0,none⟩) 0 cap):=by
  have:w.drew.heap[b]? = some (.cells #[p,.slice (some ⟨g,0,none⟩) 0 cap] (ρ.t 72) (0,0)):=z;rw[Lib.cell_of_heap this]; rfl
 have hSD:(Builtin.unsafeSliceData_ #[(ρ.t 37)] (ρ.t 127) #[.slice (some ⟨g,0,none⟩) 0 cap]).run P w.drew= .ok (.pointer (some ⟨g,0,none⟩)) w.drew :=
  Lib.run_unsafeSliceData_row _ _ _ _ _ _ q
 clear q;have mixed:=L.mixed;have t72:=L.t72; have a72:=L.a72; have z72:=L.z72; have v72:=L.v72; have u72:=run_underlying L.t72;have t70:=L.t70; have Y:=L.a70; have Z:=L.z70; have v70:=L.v70; have u70:=run_underlying L.t70;have t37:=L.t37; have a37:=L.a37; have z37:=L.z37; have v37:=L.v37; have u37:=run_underlying L.t37;have N:=L.t127; have J:=L.a127; have U:=L.z127; have O:=L.v127; have I:=run_underlying L.t127;have t3:=L.t3; have a3:=L.a3; have z3:=L.z3; have v3:=L.v3; have u3:=run_underlying L.t3;have t9:=L.t9; have a9:=L.a9; have z9:=L.z9; have v9:=L.v9; have u9:=run_underlying L.t9;have t5:=X.t5; have a5:=X.a5; have z5:=X.z5; have v5:=X.v5; have u5:=run_underlying X.t5
 go_enter L.f169,Body.n169_ntmps ρ
 go_wp2
 go_region_o
 all_goals (go_wp2; go_ret; exact⟨rfl,aNM w _⟩)
end
end Go.Proofs
namespace Go.Vc
open Go.RowKit
section
variable {M:Perm} {w0:World} {c:Ctx} {h:List Obj} {w:World}
def bHi(b:Bool)(B:Nat):Value:=bif b then .pointer none else .pointer (some ⟨B,0,none⟩)
theorem aU5(I:Good M w0 c h w){tb e:TypeId}{b:Bool}{i j:Nat}{xs:List Nat}(hi:h[i]? = some (.box (4294967296+tb) (.agg [pk b i,.own j])))(N:h[j]? = some (.row e (.u .u8) xs)) :
  ∃B,c.hd i= .pointer (some ⟨B,0,none⟩)∧w.heap[B]? = some (.cells #[bHi b B,c.hd j] tb (0,0))∧aCl c w e (.u .u8) xs (c.hd j):=by
 obtain⟨B,cells,O,q1,q2,g,J⟩:=I.objs i _ hi;have hr:aCl c w e (.u .u8) xs (c.hd j):=I.objs j _ N;simp only[aM] at J;obtain⟨c1,U,hc,f,c3,Z,Y,h2,z⟩:=J;have z:Z= []:=z;simp only[aM] at h2;have e2:U= [c.hd j]:=by simp_all
 have e1:c1= [bHi b B]:=by
  cases b with
  | true=>exact f
  | false =>
   have f:aM c w (.ptr i []) c1:=f;simp only[aM] at f;obtain⟨_,B',L,q⟩:=f;rw[q1] at L;cases L;exact q
 have e3:cells= #[bHi b B,c.hd j]:=by
  grind
 subst e3;have et:tb=O:=by
  rcases g with g|⟨_,g⟩
  all_goals grind
 simp_all
theorem bHj(z:Good M w0 c h w){tb e:TypeId}{b:Bool}{i j:Nat}{xs:List Nat}(hi:h[i]? = some (.box (4294967296+tb) (.agg [pk b i,.own j])))(U:h[j]? = some (.row e (.u .u8) xs)){B:Nat}(q:c.hd i= .pointer (some ⟨B,0,none⟩)) :
  Good M w0 c (h.set i (.box (4294967296+tb) (.agg [pk false i,.own j]))) (w.setCell ⟨B,0,none⟩ (.pointer (some ⟨B,0,none⟩))):=by
 obtain⟨Z,q1,Y,q3⟩:=aU5 z hi U;rw[q] at q1;obtain rfl:B=Z:=by simp_all
 have I:fI c i (.box (4294967296+tb) (.agg [pk b i,.own j])) B:=by simp[fI,q,aU]
 have hheap:(w.setCell ⟨B,0,none⟩ (.pointer (some ⟨B,0,none⟩))).heap[B]? = some (.cells #[.pointer (some ⟨B,0,none⟩),c.hd j] tb (0,0)):=by
  simp[World.setCell,Array.getElem?_modify,Y]
 have L:=yP U;have J:=yP hi;have f:one (c.hd j):=by
  obtain⟨O,g,_⟩:=q3;obtain⟨a,n,m,N⟩:=kR g;rw[N]; trivial
 exact(z.modify (o':=.box (4294967296+tb) (.agg [pk false i,.own j])) hi I (w':=w.setCell ⟨B,0,none⟩ (.pointer (some ⟨B,0,none⟩))) rfl rfl rfl (by simp_all) (fun k hk=>by simp[World.setCell,Array.getElem?_modify,Ne.symm hk])
  ⟨B,_,tb,q,hheap,.inr ⟨rfl,rfl⟩,by
   have key:nF c (w.setCell ⟨B,0,none⟩ (.pointer (some ⟨B,0,none⟩))) [pk false i,.own j] [.pointer (some ⟨B,0,none⟩),c.hd j]:=?_
   ·grind[aM]
   refine⟨[.pointer (some ⟨B,0,none⟩)],[c.hd j],rfl,?_,[c.hd j],[],rfl,?_,rfl⟩
   ·show aM c _ (.ptr i []) _;simp only[aM];refine⟨by rw[z.n]; exact J,B,by rw[q]; rfl,?_⟩;rfl
   ·simp only[aM];refine⟨by rw[z.n]; exact L,?_,f⟩;simp_all⟩ (fun b' hb'=>by grind[fI,aU,Option.some.injEq])).1
theorem bFw{e:TypeId}{xs:List Nat}{v:Value}(h:aCl c w e (.u .u8) xs v):∃l:List UInt8,xs=l.map (·.toNat)∧((v= .slice none 0 0∧l= [])∨ ∃g cap z,v= .slice (some ⟨g,0,none⟩) l.length cap∧w.heap[g]? = some (.cells z e (0,0))∧l.length≤cap∧cap≤maxLen∧z.size=cap∧ ∀j x,l[j]? = some x→w.cell? ((⟨g,0,none⟩:Addr).add j)=some (.int .u8 x.toNat)):=by
 obtain⟨O,I,hl,f,hc,hcl,hr⟩:=h;have L:∀i (h:i<xs.length) (h':i<f.length),f[i]= [Value.int .u8 (xs[i]:Int)]∧xs[i]<256:=fun i h h'=>by
  obtain⟨U,_,h3⟩:=hr i h h';grind[IntKind.max,IntKind.signed,IntKind.bits]
 refine⟨xs.map UInt8.ofNat,?_,?_⟩
 ·rw[List.map_map];apply List.ext_getElem
  ·simp
  ·intro i U h2;have:=(L i U (by omega)).2;simp only[List.getElem_map,Function.comp];rw[UInt8.toNat_ofNat'];omega
 ·have Z:(xs.map UInt8.ofNat).length=xs.length:=by simp
  rcases I.2 with⟨U,h2⟩|⟨g,cap,z,hv,hbg,hg,hnc,Y,hcs,htake⟩
  ·simp_all
  ·right
   refine⟨g,cap,z,by simp_all,hg,by omega,Y,by grind[Ty.cells],fun j x hx=>?_⟩;have hj:j<xs.length:=by
    grind
   have N:j<f.length:=(by omega);have hx':x=UInt8.ofNat xs[j]:=by
    simp_all
   have hk:=L j hj N;have J:O[j]? = some (.int .u8 (xs[j]:Int)):=by
    obtain⟨pre,post,hf,hpl⟩:=oT (t:=.u .u8) (css:=f) (fun q hq=>bB.length _ _ _ (hr q (by omega) hq)) j N;simp_all[List.append_assoc,List.getElem?_append_right,Ty.cells]
   subst hv;have:=I.cells (g:=g) rfl j _ J;grind[UInt8.toNat_ofNat',Nat.mod_eq_of_lt]
theorem bHk(z:Good M w0 c h w){i j:Nat}(hm:M.m=1)(hi:i=0){U J:Obj}(Y:h= [U,J]){w':World}{g:Option Nat}(f:w.grownBy w' g)(I:∀b,g=some b→fI c 1 J b) :
  Good M w0 ⟨c.S,c.hd,1,c.bl⟩ [.dead] w':=by
 subst Y;refine⟨rfl,⟨f.os.trans z.keeps.os,f.tape.trans z.keeps.tape,f.output.trans z.keeps.output,Nat.le_trans z.keeps.size f.size,fun b hb O=>?_⟩,fun b hb=>Nat.lt_of_lt_of_le (z.sfin b hb) f.size,z.src,fun k o q=>?_,fun k o b q hb=>?_,fun k l ok ol b L hl N Z=>?_,⟨by simp_all,fun k L=>z.root.2 k L⟩⟩
 ·rw[f.block b (Nat.lt_of_lt_of_le hb z.keeps.size) (fun e=>?_)]
  ·exact z.keeps.block b hb O
  ·have:=z.own 1 J b rfl (I b e.symm);grind
 ·match k,q with
  | 0,q=>cases q; trivial
  | k+1,q=>cases q
 ·match k,q with
  | 0,q=>cases q; cases hb
  | k+1,q=>cases q
 grind
end
end Go.Vc
namespace Go.Vc
def bJZ:AV→Bool
 | .nilP=>true
 | _=>false
theorem bJ0{b:Bool}{i:Nat}:bJZ (pk b i)=b:=by cases b<;>rfl
theorem bHl:bJZ .nilP=true:=rfl
theorem bHm{i:Nat}{p:List Step}:bJZ (.ptr i p)=false:=rfl
def bFx(h:List Obj)(i j:Nat):Nat:=match h.getD i .dead with
 | .box _ (.agg l)=>match l.getD j .junk with
  | .own k=>k
  | _=>0
 | _=>0
def aOW(h:List Obj)(i:Nat):Bool×List Nat:=(match h.getD i .dead with
 | .box _ (.agg l)=>bJZ (l.getD 0 .junk)
 | _=>true,match h.getD (bFx h i 1) .dead with
 | .row _ (.u .u8) f=>f
 | _=>[])
attribute [go_sem] bJ0 bHl bHm bFx aOW
end Go.Vc
namespace Go.Vc
open Go.RowKit
def aEf(ops:List Oper)(a b:Nat):Bool:=match ops[a]? with
 | some o=>o.after.toList.any fun e=>Region.binds .any e&&e.on == b
 | none=>false
def aF5(ops:List Oper)(i:Nat):Option Nat:=match ops[i]? with
 | some o=>o.dst
 | none=>none
def okK(ops:List Oper)(f:List Nat)(i k:Nat):Bool:=(List.range f.length).all fun m=>bif m<k then !aEf ops (f.getD m 0) i&& !(f.getD m 0 == i) else !aEf ops i (f.getD m 0)
def bHn(ops:List Oper)(f:List Nat):Bool:=(List.range f.length).all fun m=>m == 0||aEf ops (f.getD m 0) (f.getD (m-1) 0)
def bMP(ops:List Oper)(us:List (List Nat)):Bool:=(List.range ops.length).all fun j=>(us.getD j []).all fun u=>(List.range ops.length).all fun i=> !(aF5 ops i == some u)||aEf ops j i
def bMQ(ops:List Oper):Bool:=(List.range ops.length).all fun i=>(List.range ops.length).all fun j=>i == j||(aF5 ops i).isNone|| !(aF5 ops i == aF5 ops j)
def aNN(ops:List Oper)(xs:List AV)(env:St)(t:Nat):AV:=match (List.range ops.length).find? fun i=>aF5 ops i == some t with
 | some i=>xs.getD i .junk
 | none=>look env t
def stW(F:Fr)(ops:List Oper)(f:List St)(xs:List AV)(hs:List (List Obj))(g:List Nat)(i k:Nat):Prop :=
 match ops[i]? with
 | some o=>o.guard=none∧match aAO F.E (f.getD i []) (hs.getD k []) o with
  | (p,v,h')=>p∧v=xs.getD i .junk∧h'=hs.getD (bif g.contains i then k+1 else k) []
 | none=>False
def bJ1(F:Fr)(ops:List Oper)(f:List St)(xs:List AV)(hs:List (List Obj))(g:List Nat):List (Nat×Nat)→Prop
 | []=>True
 | p::r=>stW F ops f xs hs g p.1 p.2∧bJ1 F ops f xs hs g r
theorem bAU{F:Fr}{ops:List Oper}{f:List St}{xs:List AV}{hs:List (List Obj)}{g:List Nat}:∀ {l:List (Nat×Nat)},bJ1 F ops f xs hs g l→ ∀p∈l,stW F ops f xs hs g p.1 p.2
 | p::r,h,q,hq=>by
  rcases List.mem_cons.1 hq with rfl|hq
  ·exact h.1
  ·exact bAU h.2 q hq
structure bCL(ops:List Oper)(eff:List Nat)(us:List (List Nat)):Prop where
 back:bAO ops=true
 chain:∀m,m<eff.length→m≠0→aEf ops (eff.getD m 0) (eff.getD (m-1) 0)=true
 effn:eff.Nodup
 effl:∀m,m<eff.length→eff.getD m 0<ops.length
 use:∀j,j<ops.length→ ∀u∈us.getD j [],∀i,i<ops.length→aF5 ops i=some u→aEf ops j i=true
 dst:∀i j t,i<ops.length→j<ops.length→aF5 ops i=some t→aF5 ops j=some t→i=j
theorem bJ2{ops:List Oper}{f:List Nat}{us:List (List Nat)}(hc:bCL ops f us){xs:List AV}{env:St}{t i:Nat}(hi:i<ops.length)(hd:aF5 ops i=some t):aNN ops xs env t=xs.getD i .junk:=by
 unfold aNN;cases g:(List.range ops.length).find? fun i=>aF5 ops i == some t with
 | none =>
  simp_all
 | some k =>
  have z:=List.find?_some g;have q:=List.mem_range.1 (List.mem_of_find?_eq_some g);obtain rfl:=hc.dst k i t q hi (by simp_all) hd;rfl
theorem bJ3{ops:List Oper}{xs:List AV}{env:St}{t:Nat}(h:∀i,i<ops.length→aF5 ops i≠some t):aNN ops xs env t=look env t:=by
 unfold aNN;grind
structure aOX(ops:List Oper)(eff:List Nat)(xs:List AV)(env0:St)(done:List Nat)(k:Nat)(env:St):Prop where
 kle:k≤eff.length
 kd:∀m,m<eff.length→(eff.getD m 0∈done↔m<k)
 cl:∀i∈done,∀b,aEf ops i b=true→b∈done
 hit:∀i∈done,∀t,aF5 ops i=some t→look env t=xs.getD i .junk
 miss:∀t,(∀i∈done,aF5 ops i≠some t)→look env t=look env0 t
theorem aOX.val{ops:List Oper}{g:List Nat}{us:List (List Nat)}(hc:bCL ops g us){xs:List AV}{f env:St}{done:List Nat}{k:Nat}(hv:aOX ops g xs f done k env)(t:Nat)(h:∀i,i<ops.length→aF5 ops i=some t→i∈done):aNN ops xs f t=look env t:=by
 by_cases q:∃i,i<ops.length∧aF5 ops i=some t
 ·obtain⟨i,hi,hd⟩:=q;rw[bJ2 hc hi hd,hv.hit i (h i hi hd) t hd]
 ·have z:∀i,i<ops.length→aF5 ops i≠some t:=fun i hi hd=>q ⟨i,hi,hd⟩;rw[bJ3 z,hv.miss t fun i _ hd=>?_];grind[Nat.lt_or_ge,aF5,List.getElem?_eq_none]
theorem aDy{ops:List Oper}{done:List Nat}{j:Nat}(f:j∈aF3 ops done):∀b,aEf ops j b=true→b∈done:=fun b hb=>by
 simp only[aF3,List.mem_filter,List.mem_range,Bool.and_eq_true] at f;obtain⟨z,q,g⟩:=f;unfold aEf at hb;grind
theorem bAV{l:List Nat}{x:Nat}(h:x∈l):∃m,m<l.length∧l.getD m 0=x:=by
 obtain⟨m,hm,rfl⟩:=List.getElem_of_mem h;exact⟨m,hm,by simp_all⟩
theorem aOX.okk{ops:List Oper}{f:List Nat}{us:List (List Nat)}{xs:List AV}{q env:St}{done:List Nat}{k j:Nat}(hv:aOX ops f xs q done k env)(z:j∈aF3 ops done)(g:j∉done):okK ops f j k=true:=by
 simp only[okK,List.all_eq_true,List.mem_range];intro m hm;by_cases h:m<k
 ·rw[decide_eq_true h];simp only[cond_true,Bool.and_eq_true,Bool.not_eq_true',beq_eq_false_iff_ne,ne_eq];refine⟨?_,fun e=>g (e▸(hv.kd m hm).2 h)⟩;cases hb:aEf ops (f.getD m 0) j with
  | false=>rfl
  | true=>exact absurd (hv.cl _ ((hv.kd m hm).2 h) j hb) g
 ·rw[decide_eq_false h];simp only[cond_false,Bool.not_eq_true'];cases hb:aEf ops j (f.getD m 0) with
  | false=>rfl
  | true=>exact absurd ((hv.kd m hm).1 (aDy z _ hb)) h
theorem aXX{d:Option Nat}{v:AV}{env:St}{t:Nat}:look (zO d v env) t=if d=some t then v else look env t:=by
 cases d with
 | none=>rfl
 | some d =>
  simp only[zO,look,Option.some.injEq]
theorem aOX.step{ops:List Oper}{f:List Nat}{us:List (List Nat)}(hc:bCL ops f us){xs:List AV}{g env:St}{done:List Nat}{k j:Nat}(hv:aOX ops f xs g done k env)(L:j∈aF3 ops done)(z:j∉done)(J:j<ops.length)(I:∀i∈done,i<ops.length) :
  aOX ops f xs g (j::done) (bif f.contains j then k+1 else k) (zO (aF5 ops j) (xs.getD j .junk) env):=by
 have q:∀m,m<f.length→f.getD m 0=j→m=k:=fun m hm e=>by
  have Y:¬m<k:=fun h=>z (e▸(hv.kd m hm).2 h);rcases Nat.eq_zero_or_pos m with h0|h0
  ·omega
  ·have:=aDy L _ (by rw[← e]; exact hc.chain m hm (by omega));have:=(hv.kd (m-1) (by omega)).1 this;omega
 refine⟨?_,fun m hm=>?_,fun i hi b hb=>?_,fun i hi t ht=>?_,fun t ht=>?_⟩
 ·cases hb:f.contains j with
  | false=>exact hv.kle
  | true =>
   grind[bAV,List.contains_iff_mem]
 ·cases hb:f.contains j with
  | false =>
   have N:f.getD m 0≠j:=fun e=>by
    grind
   show _↔m<k;rw[← hv.kd m hm];simp_all
  | true =>
   obtain⟨n,O,e⟩:=bAV (List.contains_iff_mem.1 hb);have U:=q n O e;show _↔m<k+1;constructor
   ·intro h;rcases List.mem_cons.1 h with h|h
    ·simp_all
    ·have:=(hv.kd m hm).1 h; omega
   ·intro h;rcases Nat.lt_or_ge m k with h'|h'
    ·exact List.mem_cons_of_mem _ ((hv.kd m hm).2 h')
    grind
 ·rcases List.mem_cons.1 hi with rfl|hi
  ·exact List.mem_cons_of_mem _ (aDy L b hb)
  ·exact List.mem_cons_of_mem _ (hv.cl i hi b hb)
 ·rw[aXX];rcases List.mem_cons.1 hi with rfl|hi
  ·simp_all
  ·by_cases e:aF5 ops j=some t
   ·exact absurd (hc.dst i j t (I i hi) J ht e) (fun e=>z (e▸hi))
   ·rw[if_neg e]; exact hv.hit i hi t ht
 ·rw[aXX,if_neg (ht j List.mem_cons_self)];exact hv.miss t fun i hi=>ht i (List.mem_cons_of_mem _ hi)
theorem bEl{F:Fr}{Q:Exit→Act→World→Prop}(hF:vG F){ops:List Oper}{f:List Nat}{us:List (List Nat)}(hc:bCL ops f us)(hok:∀o∈ops,iU F.nt o=true)(xs:List AV)(g:St)(hs:List (List Obj))(q:List St)
  (hue:∀j,j<ops.length→q.getD j []=(us.getD j []).map fun t=>(t,aNN ops xs g t)) (hst:∀i k,i<ops.length→k≤f.length→okK ops f i k=true→stW F ops q xs hs f i k)
  (keep:List Nat) (hK:At F (Q .normal) (keep.map fun t=>(t,aNN ops xs g t)) (hs.getD f.length [])) :
  ∀(n:Nat) (done:List Nat) (listed:Array Bool),listed.size=ops.length→(∀k,k<ops.length→(listed.getD k false=true↔k∈done))→done.length+n=ops.length→done.Nodup→(∀k∈done,k<ops.length)→ ∀(k:Nat) (env:St),aOX ops f xs g done k env→ ∀(c:Ctx) (a:Act) (w:World),Sim F.E F.M F.w0 F.nt F.ds c env (hs.getD k []) a w→wpAny F.P .any ops.toArray Q n listed a w
 | 0,done,listed,hsz,hl,hn,hd,U,k,env,hv,c,a,w,z=>by
  have L:∀j,j<ops.length→j∈done:=fun j Z=>(aI0 hd (m:=List.range ops.length) (fun k I=>List.mem_range.2 (U k I))).2 (by grind) j (List.mem_range.2 Z);refine⟨?_,?_⟩
  ·rw[List.eq_nil_iff_forall_not_mem];grind[mem_ready,lZ.get_lt']
  ·have I:k=f.length:=by
    rcases Nat.lt_or_ge k f.length with h|h
    ·have:=(hv.kd k h).1 (L _ (hc.effl k h)); omega
    ·have:=hv.kle; omega
   subst I;refine hK c a w ?_;have e:(keep.map fun t=>(t,aNN ops xs g t))=keep.map fun t=>(t,look env t):=by
    grind[List.map_congr_left,aOX.val]
   rw[e];exact z.keep keep
 | n+1,done,listed,hsz,hl,hn,hd,U,k,env,hv,c,a,w,z=>by
  have hrd:∀j,j∈Region.ready .any ops.toArray listed→j∈aF3 ops done∧j∉done∧j<ops.length:=fun j hj=>by
   obtain⟨h1,o,ho,hall⟩:=mem_ready.1 hj;have ho:ops[j]? = some o:=(by simp_all);have Z:=lZ.get_lt' ho;have hlt':j<listed.size:=(by omega);have hnd:j∉done:=fun hm=>by
    grind
   refine⟨?_,hnd,Z⟩;simp only[aF3,List.mem_filter,List.mem_range,ho,Bool.and_eq_true,Bool.not_eq_true',List.contains_eq_mem,decide_eq_false_iff_not,List.all_eq_true,Bool.or_eq_true,decide_eq_true_eq];grind
  refine⟨fun hr=>?_,fun j hj=>?_⟩
  ·exfalso;have Y:∃k,(k<ops.length∧k∉done)∧ ∀j,j<k→ ¬(j<ops.length∧j∉done):=by
    have Y:∃k,k<ops.length∧k∉done:=by
     apply Classical.byContradiction;intro hc;have L:List.range ops.length ⊆ done:=fun k I=>Classical.byContradiction fun hk2=>hc ⟨k,List.mem_range.1 I,hk2⟩;have:=(aI0 (List.nodup_range (n:=ops.length)) (fun k I=>L I)).1;grind
    obtain⟨n,h1,h2⟩:=aH0 Y;grind
   obtain⟨k,⟨I,hkd⟩,hlow⟩:=Y;have hmem:k∈Region.ready .any ops.toArray listed:=by
    rw[mem_ready];have hlt':k<listed.size:=(by omega);have hun:¬listed.getD k false=true:=fun h=>hkd ((hl k I).1 h);refine⟨by grind,ops[k],by simp[I],fun e he hbe=>?_⟩;have hbk:=List.all_eq_true.1 hc.back (ops[k],k) (by grind);grind
   simp_all
  ·obtain⟨r1,r2,r3⟩:=hrd j hj;have N:=hst j k r3 hv.kle (hv.okk (us:=us) r1 r2);have hjo:ops[j]? = some ops[j]:=List.getElem?_eq_getElem r3;have hdo:aF5 ops j=ops[j].dst:=(by simp[aF5,hjo]);unfold stW at N;rw[hjo] at N;obtain⟨hg,N⟩:=N;have hs2:(aAO F.E (q.getD j []) (hs.getD k []) ops[j]).1∧(aAO F.E (q.getD j []) (hs.getD k []) ops[j]).2.1=xs.getD j .junk∧(aAO F.E (q.getD j []) (hs.getD k []) ops[j]).2.2=hs.getD (bif f.contains j then k+1 else k) []:=N;obtain⟨hp,hx,hh⟩:=hs2;have O:=hok ops[j] (List.getElem_mem r3);have hw:Region.wanted ops[j] (yielded ops.toArray a.tmps)=true:=(by simp[Region.wanted,hg]);have eu:q.getD j []=(us.getD j []).map fun t=>(t,look env t):=by
    rw[hue j r3];refine List.map_congr_left fun t ht=>?_;rw[aOX.val hc hv t (fun i hi hdi=>aDy r1 i (hc.use j r3 t ht i hi hdi))]
   have hsimU:=z.keep (us.getD j []);rw[← eu] at hsimU;unfold wpOp;simp only[List.getElem?_toArray,hjo];rw[if_pos hw]
   left
   refine(aMo hF.env hsimU O hp).wp fun v w' c' ha=>?_;have J:=z.after O ha;rw[hx,hh] at J;have hv':=hv.step hc r1 r2 r3 U;rw[hdo] at hv';refine bEl hF hc hok xs g hs q hue hst keep hK n (j::done) (listed.setIfInBounds j true) (by grind) (fun k I=>?_) (by grind) (List.nodup_cons.2 ⟨r2,hd⟩) (fun k I=>?_) _ _ hv' c' _ w' J
   ·by_cases e:j=k
    ·simp_all
    ·rw[getD_set_ne false e,hl k I];grind
   grind
def bL1(ops:List Oper)(f:List Nat)(us:List (List Nat))(g:List (Nat×Nat)):Bool :=
 bAO ops&&bHn ops f&&nodupB f&&bMP ops us&&bMQ ops&&f.all (fun e=>decide (e<ops.length))&&(List.range ops.length).all fun i=>(List.range (f.length+1)).all fun k=> !okK ops f i k||g.contains (i,k)
theorem bJ4{ops:List Oper}{f:List Nat}{us:List (List Nat)}{q:List (Nat×Nat)}(h:bL1 ops f us q=true):bCL ops f us∧ ∀i k,i<ops.length→k≤f.length→okK ops f i k=true→(i,k)∈q:=by
 simp only[bL1,Bool.and_eq_true] at h;obtain⟨⟨⟨⟨⟨⟨U,O⟩,z⟩,N⟩,J⟩,h6⟩,L⟩:=h;refine⟨⟨U,fun m hm h0=>?_,aT0 z,fun m hm=>?_,fun j g u I i hi hd=>?_,fun i j t hi g hd Y=>?_⟩,fun i k hi hk Z=>?_⟩
 ·have:=List.all_eq_true.1 O m (List.mem_range.2 hm);simp_all
 ·simp_all
 ·have:=List.all_eq_true.1 (List.all_eq_true.1 (List.all_eq_true.1 N j (List.mem_range.2 g)) u I) i (List.mem_range.2 hi);simp_all
 ·have:=List.all_eq_true.1 (List.all_eq_true.1 J i (List.mem_range.2 hi)) j (List.mem_range.2 g);simp_all
 ·have:=List.all_eq_true.1 (List.all_eq_true.1 L i (List.mem_range.2 hi)) k (List.mem_range.2 (by omega));simp_all
theorem aGZ{F:Fr}{Q:Exit→Act→World→Prop}{env:St}{h:List Obj}(hF:vG F){id:Nat}{ops:Array Oper}(keep:List Nat)(z:List Nat)(us:List (List Nat))(O:List (Nat×Nat))(xs:List AV)(hs:List (List Obj))(q:List St)
  (hb:bL1 ops.toList z us O=true) (Y:(List.range ops.toList.length).map (fun j=>(us.getD j []).map fun t=>(t,aNN ops.toList xs env t))=q) (h0:hs.getD 0 []=h)
  (N:bJ1 F ops.toList q xs hs z O) (I:At F (Q .normal) (keep.map fun t=>(t,aNN ops.toList xs env t)) (hs.getD z.length [])):Tri F (.region id ops true) Q env h:=fun J c a w f=>by
 simp only[jI,Bool.and_eq_true,Bool.or_eq_true,Bool.not_eq_true'] at J;obtain⟨⟨Z,h2⟩,h3⟩:=J;obtain⟨hc,hp⟩:=bJ4 hb;refine wp_region_any hF.mix ?_;have g:eK c w c { w with drawn:=w.drawn+1 }:=⟨.refl _,fun b hb=>rfl⟩;have L:Sim F.E F.M F.w0 F.nt F.ds c env h a { w with drawn:=w.drawn+1 } :=
  ⟨f.good.step g rfl rfl ⟨rfl,rfl,rfl,Nat.le_refl _,fun _ _ _=>rfl⟩ (fun _ _ _ _ _=>rfl) f.good.sfin (fun _ hb=>.inl hb),uB.mono (w:=w) (w':={ w with drawn:=w.drawn+1 }) (fun _ hb=>hb) g.same f.glob,f.env.keep g,f.size,f.defers⟩
 have:=bEl (Q:=Q) hF hc (List.all_eq_true.1 Z) xs env hs q (fun j hj=>by grind) (fun i k hi I U=>bAU N (i,k) (hp i k hi I U)) keep I ops.toList.length [] (Array.replicate ops.size false) (by simp) (fun k I=>by simp_all) (by simp) List.nodup_nil (fun k I=>by cases I) 0 env
  ⟨Nat.zero_le _,fun m hm=>by simp,fun i hi=>(by cases hi),fun i hi=>(by cases hi),fun t _=>rfl⟩ c a _ (by rw[h0]; exact L)
 omega
attribute [go_sem] bJ1 stW
end Go.Vc
namespace Go.Vc
open Go.RowKit
def Ret(h h':List Obj):Prop:=∀(M:Perm) (w0:World) (c:Ctx) (w:World),Good M w0 c h w→ ∃c',eK c w c' w∧Good M w0 c' h' w
theorem aH{h:List Obj}:Ret h h:=fun M w0 c w f=>⟨c,.refl _ _,f⟩
theorem aQT{a b d:List Obj}(q:Ret a b)(g:Ret b d):Ret a d:=fun M w0 c w J=>by
 obtain⟨c1,f,g1⟩:=q M w0 c w J;obtain⟨z,l2,I⟩:=g M w0 c1 w g1;exact⟨z,f.trans l2,I⟩
section
variable {P:Program} {E:Env} {M:Perm} {w0:World} {nt:Nat} {ds:List Deferred}
theorem Sim.ret{c:Ctx}{env:St}{h h':List Obj}{a:Act}{w:World}(hs:Sim E M w0 nt ds c env h a w)(q:Ret h h'):∃c',Sim E M w0 nt ds c' env h' a w:=by
 obtain⟨c',f,g⟩:=q _ _ _ _ hs.good;exact⟨c',g,hs.glob.mono f.le.S f.same,fun s=>f.val (hs.env s),hs.size,hs.defers⟩
end
end Go.Vc
namespace Go.Vc
open Go.RowKit
section
variable {h:List Obj}
theorem aJ(i:Nat){n:Nat}{v:AV}{h':List Obj}(g:h[i]? = some (.box n v))(z:Ret (h.set i (.box n .junk)) h'):Ret h h' :=
 aQT (fun M w0 c w q=>by
  refine q.retell g (o':=.box n .junk) (S':=c.S) (B':=c.bl i) (fun b hb=>.inl hb) (fun b hb=>hb) ?_ (fun b hb=>?_)
  ·obtain⟨b,cells,e,J,I,L,N⟩:=q.objs i _ g;exact⟨b,cells,e,J,I,L,trivial⟩
  ·have hb:aU (c.hd i)=some b:=hb;have f:fI c i (.box n v) b:=hb;exact⟨f,(q.own i _ b g f).2.2⟩) z
theorem nK(i:Nat){o:Obj}{h':List Obj}(f:h[i]? = some o)(q:Ret (h.set i .dead) h'):Ret h h' :=
 aQT (fun M w0 c w g=>by
  refine g.retell f (o':=.dead) (S':=c.S) (B':=c.bl i) (fun b hb=>.inl hb) (fun b hb=>hb) trivial (fun b hb=>?_);exact False.elim hb) q
theorem bJ5(i:Nat){n:Nat}{v:AV}{t:Ty}(x:t.den){h':List Obj}(q:h[i]? = some (.box n v))(N:AV.as (h.map gJ) t v=some x)(z:Ret (h.set i (.box n (.val t x))) h'):Ret h h' :=
 aQT (fun M w0 c w g=>by
  refine g.retell q (o':=.box n (.val t x)) (S':=c.S) (B':=c.bl i) (fun b hb=>.inl hb) (fun b hb=>hb) ?_ (fun b hb=>?_)
  ·obtain⟨b,cells,e,L,I,O,J⟩:=g.objs i _ q;exact⟨b,cells,e,L,I,O,bCB g N J⟩
  ·have hb:aU (c.hd i)=some b:=hb;have f:fI c i (.box n v) b:=hb;exact⟨f,(g.own i _ b q f).2.2⟩) z
end
theorem aL{F:Fr}{Q:Exit→Act→World→Prop}{p:Pan}{env:St}{h h':List Obj}(q:Ret h h')(z:AtP F Q p env h'):AtP F Q p env h:=fun c a w u hs g=>by
 obtain⟨c',f,I⟩:=q _ _ _ _ hs.good;refine z c' a w u ⟨I,hs.glob.mono f.le.S f.same,fun s=>f.val (hs.env s),hs.size,hs.defers⟩ ?_;exact g.keep f.le.S f.same
theorem bFy{F:Fr}{K:Act→World→Prop}{env:St}{h h':List Obj}(z:Ret h h')(g:At F K env h'):At F K env h:=fun c a w hs=>by
 obtain⟨c',f,q⟩:=z _ _ _ _ hs.good;exact g c' a w ⟨q,hs.glob.mono f.le.S f.same,fun s=>f.val (hs.env s),hs.size,hs.defers⟩
end Go.Vc
namespace Go.Vc
open Go.RowKit
def bHo(F:Fr)(Q:Exit→Act→World→Prop)(Δ:FuncId→List AV→List Obj→Option Hit)(sb:List Nat)(ops:List Oper)(g:List St)(xs:List AV)(hs:List (List Obj))(f:List Nat)(stop:Bool)(i k:Nat):Prop :=
 match ops[i]? with
 | some o=>o.guard=none∧aK5 F.E Δ sb (g.getD i []) (hs.getD k []) o (fun v h'=>(stop&&k+1 == f.length&&f.contains i)=false∧v=xs.getD i .junk∧h'=hs.getD (bif f.contains i then k+1 else k) []) (fun p h'=>AtP F Q p [] h')
 | none=>False
def bEm(F:Fr)(Q:Exit→Act→World→Prop)(Δ:FuncId→List AV→List Obj→Option Hit)(sb:List Nat)(ops:List Oper)(f:List St)(xs:List AV)(hs:List (List Obj))(g:List Nat)(stop:Bool):List (Nat×Nat)→Prop
 | []=>True
 | p::r=>bHo F Q Δ sb ops f xs hs g stop p.1 p.2∧bEm F Q Δ sb ops f xs hs g stop r
theorem aXY{F:Fr}{Q:Exit→Act→World→Prop}{Δ:FuncId→List AV→List Obj→Option Hit}{sb:List Nat}{ops:List Oper}{f:List St}{xs:List AV}{hs:List (List Obj)}{g:List Nat}{stop:Bool}:∀ {l:List (Nat×Nat)},bEm F Q Δ sb ops f xs hs g stop l→ ∀p∈l,bHo F Q Δ sb ops f xs hs g stop p.1 p.2
 | p::r,h,q,hq=>by
  rcases List.mem_cons.1 hq with rfl|hq
  ·exact h.1
  ·exact aXY h.2 q hq
def reach(ops:List Oper):Nat→Nat→Nat→Bool
 | 0,i,b=>aEf ops i b
 | n+1,i,b=>aEf ops i b||(List.range ops.length).any fun x=>aEf ops i x&&reach ops n x b
theorem aU6{ops:List Oper}{done:List Nat}(cl:∀i∈done,∀b,aEf ops i b=true→b∈done):∀(n i b:Nat),(∀x,aEf ops i x=true→x∈done)→reach ops n i b=true→b∈done
 | 0,i,b,h,f=>h b f
 | n+1,i,b,h,f=>by
  simp only[reach,Bool.or_eq_true,List.any_eq_true,Bool.and_eq_true] at f;rcases f with f|⟨x,_,g,f⟩
  ·grind
  ·exact aU6 cl n x b (cl x (h x g)) f
def bHp(ops:List Oper)(f:List Nat)(i k:Nat):Bool:=okK ops f i k&&(List.range f.length).all fun m=>bif m<k then true else !reach ops 2 i (f.getD m 0)
theorem bJ6{ops:List Oper}{f:List Nat}{xs:List AV}{g env:St}{done:List Nat}{k i:Nat}(hv:aOX ops f xs g done k env)(J:∀x,aEf ops i x=true→x∈done)(z:okK ops f i k=true):bHp ops f i k=true:=by
 simp only[bHp,z,Bool.true_and,List.all_eq_true,List.mem_range];intro m hm;by_cases q:m<k
 ·simp[q]
 ·simp only[q,decide_false,cond_false,Bool.not_eq_true'];cases I:reach ops 2 i (f.getD m 0) with
  | false=>rfl
  | true=>exact absurd ((hv.kd m hm).1 (aU6 hv.cl 2 i _ J I)) q
theorem bAW{F:Fr}{Q:Exit→Act→World→Prop}(hF:vG F){Δ:FuncId→List AV→List Obj→Option Hit}(hΔ:aF2 F.P F.E.G Δ)(sb:List Nat){ops:List Oper}{f:List Nat}{us:List (List Nat)}(hc:bCL ops f us)(hok:∀o∈ops,iU F.nt o=true)(xs:List AV)(g:St)(hs:List (List Obj))(N:List St)
  (hue:∀j,j<ops.length→N.getD j []=(us.getD j []).map fun t=>(t,aNN ops xs g t)) (stop:Bool) (Y:∀i k,i<ops.length→k≤f.length→(stop=true→k<f.length)→bHp ops f i k=true→bHo F Q Δ sb ops N xs hs f stop i k)
  (keep:List Nat) (hK:stop=false→At F (Q .normal) (keep.map fun t=>(t,aNN ops xs g t)) (hs.getD f.length [])) :
  ∀(n:Nat) (done:List Nat) (listed:Array Bool),listed.size=ops.length→(∀k,k<ops.length→(listed.getD k false=true↔k∈done))→done.length+n=ops.length→done.Nodup→(∀k∈done,k<ops.length)→ ∀(k:Nat) (env:St),aOX ops f xs g done k env→(stop=true→k<f.length)→ ∀(c:Ctx) (a:Act) (w:World),Sim F.E F.M F.w0 F.nt F.ds c env (hs.getD k []) a w→wpAny F.P .any ops.toArray Q n listed a w
 | 0,done,listed,hsz,hl,hn,hd,U,k,env,hv,hsk,c,a,w,z=>by
  have J:∀j,j<ops.length→j∈done:=fun j hjl=>(aI0 hd (m:=List.range ops.length) (fun k q=>List.mem_range.2 (U k q))).2 (by grind) j (List.mem_range.2 hjl);refine⟨?_,?_⟩
  ·rw[List.eq_nil_iff_forall_not_mem];grind[mem_ready,lZ.get_lt']
  ·have q:k=f.length:=by
    rcases Nat.lt_or_ge k f.length with h|h
    ·have:=(hv.kd k h).1 (J _ (hc.effl k h)); omega
    ·have:=hv.kle; omega
   subst q;have hsf:stop=false:=by
    simp_all
   refine hK hsf c a w ?_;have e:(keep.map fun t=>(t,aNN ops xs g t))=keep.map fun t=>(t,look env t):=by
    grind[List.map_congr_left,aOX.val]
   rw[e];exact z.keep keep
 | n+1,done,listed,hsz,hl,hn,hd,U,k,env,hv,hsk,c,a,w,z=>by
  have hrd:∀j,j∈Region.ready .any ops.toArray listed→j∈aF3 ops done∧j∉done∧j<ops.length:=fun j hj=>by
   obtain⟨h1,o,ho,hall⟩:=mem_ready.1 hj;have ho:ops[j]? = some o:=(by simp_all);have hjl:=lZ.get_lt' ho;have hlt':j<listed.size:=(by omega);have hnd:j∉done:=fun hm=>by
    grind
   refine⟨?_,hnd,hjl⟩;simp only[aF3,List.mem_filter,List.mem_range,ho,Bool.and_eq_true,Bool.not_eq_true',List.contains_eq_mem,decide_eq_false_iff_not,List.all_eq_true,Bool.or_eq_true,decide_eq_true_eq];grind
  refine⟨fun hr=>?_,fun j hj=>?_⟩
  ·exfalso;have Z:∃k,(k<ops.length∧k∉done)∧ ∀j,j<k→ ¬(j<ops.length∧j∉done):=by
    have Z:∃k,k<ops.length∧k∉done:=by
     apply Classical.byContradiction;intro hc;have J:List.range ops.length ⊆ done:=fun k q=>Classical.byContradiction fun hk2=>hc ⟨k,List.mem_range.1 q,hk2⟩;have:=(aI0 (List.nodup_range (n:=ops.length)) (fun k q=>J q)).1;grind
    obtain⟨n,h1,h2⟩:=aH0 Z;grind
   obtain⟨k,⟨q,hkd⟩,hlow⟩:=Z;have hmem:k∈Region.ready .any ops.toArray listed:=by
    rw[mem_ready];have hlt':k<listed.size:=(by omega);have hun:¬listed.getD k false=true:=fun h=>hkd ((hl k q).1 h);refine⟨by grind,ops[k],by simp[q],fun e he hbe=>?_⟩;have hbk:=List.all_eq_true.1 hc.back (ops[k],k) (by grind);grind
   simp_all
  ·obtain⟨r1,r2,r3⟩:=hrd j hj;have L:=Y j k r3 hv.kle hsk (bJ6 hv (fun x hx=>aDy r1 x hx) (hv.okk (us:=us) r1 r2));have hjo:ops[j]? = some ops[j]:=List.getElem?_eq_getElem r3;have hdo:aF5 ops j=ops[j].dst:=(by simp[aF5,hjo]);unfold bHo at L;rw[hjo] at L;obtain⟨hg,L⟩:=L;have O:=hok ops[j] (List.getElem_mem r3);have hw:Region.wanted ops[j] (yielded ops.toArray a.tmps)=true:=(by simp[Region.wanted,hg]);have eu:N.getD j []=(us.getD j []).map fun t=>(t,look env t):=by
    rw[hue j r3];refine List.map_congr_left fun t ht=>?_;rw[aOX.val hc hv t (fun i hi hdi=>aDy r1 i (hc.use j r3 t ht i hi hdi))]
   have hsimU:=z.keep (us.getD j []);rw[← eu] at hsimU;unfold wpOp;simp only[List.getElem?_toArray,hjo];rw[if_pos hw]
   left
   refine aUU hF.env hΔ hsimU O L (fun v h' c' u w' hvh ha=>?_) (fun p h' c' u w' q hl hgd hr=>q c' a w' u ((hsimU.step hl hgd).keep []) hr);obtain⟨hnl,hx,hh⟩:=hvh;have I:=z.after O ha;rw[hx,hh] at I;have hv':=hv.step hc r1 r2 r3 U;rw[hdo] at hv';refine bAW hF hΔ sb hc hok xs g hs N hue stop Y keep hK n (j::done) (listed.setIfInBounds j true) (by grind) (fun k q=>?_) (by grind) (List.nodup_cons.2 ⟨r2,hd⟩) (fun k q=>?_) _ _ hv' (fun Y=>?_) c' _ w' I
   ·by_cases e:j=k
    ·simp_all
    ·rw[getD_set_ne false e,hl k q];grind
   all_goals grind
def bHq(ops:List Oper)(f:List Nat)(us:List (List Nat))(g:List (Nat×Nat))(stop:Bool):Bool :=
 bAO ops&&bHn ops f&&nodupB f&&bMP ops us&&bMQ ops&&f.all (fun e=>decide (e<ops.length))&&((List.range ops.length).all fun i=>(List.range (bif stop then f.length else f.length+1)).all fun k=> !bHp ops f i k||g.contains (i,k))&&(!stop||decide (0<f.length))
theorem bHr{ops:List Oper}{f:List Nat}{us:List (List Nat)}{z:List (Nat×Nat)}{stop:Bool}(h:bHq ops f us z stop=true):bCL ops f us∧(∀i k,i<ops.length→k≤f.length→(stop=true→k<f.length)→bHp ops f i k=true→(i,k)∈z)∧(stop=true→0<f.length):=by
 simp only[bHq,Bool.and_eq_true] at h;obtain⟨⟨⟨⟨⟨⟨⟨Y,U⟩,I⟩,O⟩,L⟩,h6⟩,N⟩,h8⟩:=h;refine⟨⟨Y,fun m hm h0=>?_,aT0 I,fun m hm=>?_,fun j g u J i hi hd=>?_,fun i j t hi g hd Z=>?_⟩,fun i k hi hk hs ho=>?_,fun hs=>by simp_all⟩
 ·have:=List.all_eq_true.1 U m (List.mem_range.2 hm);simp_all
 ·simp_all
 ·have:=List.all_eq_true.1 (List.all_eq_true.1 (List.all_eq_true.1 O j (List.mem_range.2 g)) u J) i (List.mem_range.2 hi);simp_all
 ·have:=List.all_eq_true.1 (List.all_eq_true.1 L i (List.mem_range.2 hi)) j (List.mem_range.2 g);simp_all
 ·have q:k<(bif stop then f.length else f.length+1):=by
   grind
  have:=List.all_eq_true.1 (List.all_eq_true.1 N i (List.mem_range.2 hi)) k (List.mem_range.2 q);simp_all
theorem uM{F:Fr}{Q:Exit→Act→World→Prop}{env:St}{h:List Obj}(hF:vG F){Δ:FuncId→List AV→List Obj→Option Hit}(N:aF2 F.P F.E.G Δ)(sb:List Nat){id:Nat}{ops:Array Oper}(keep:List Nat)(z:List Nat)(us:List (List Nat))(Z:List (Nat×Nat))(xs:List AV)(hs:List (List Obj))(q:List St)(stop:Bool)
  (hb:bHq ops.toList z us Z stop=true) (hue:(List.range ops.toList.length).map (fun j=>(us.getD j []).map fun t=>(t,aNN ops.toList xs env t))=q) (h0:hs.getD 0 []=h)
  (U:bEm F Q Δ sb ops.toList q xs hs z stop Z) (I:stop=false→At F (Q .normal) (keep.map fun t=>(t,aNN ops.toList xs env t)) (hs.getD z.length [])):Tri F (.region id ops true) Q env h:=fun J c a w f=>by
 simp only[jI,Bool.and_eq_true,Bool.or_eq_true,Bool.not_eq_true'] at J;obtain⟨⟨h1,h2⟩,h3⟩:=J;obtain⟨hc,hp,L⟩:=bHr hb;refine wp_region_any hF.mix ?_;have g:eK c w c { w with drawn:=w.drawn+1 }:=⟨.refl _,fun b hb=>rfl⟩;have O:Sim F.E F.M F.w0 F.nt F.ds c env h a { w with drawn:=w.drawn+1 } :=
  ⟨f.good.step g rfl rfl ⟨rfl,rfl,rfl,Nat.le_refl _,fun _ _ _=>rfl⟩ (fun _ _ _ _ _=>rfl) f.good.sfin (fun _ hb=>.inl hb),uB.mono (w:=w) (w':={ w with drawn:=w.drawn+1 }) (fun _ hb=>hb) g.same f.glob,f.env.keep g,f.size,f.defers⟩
 have:=bAW (Q:=Q) hF N sb hc (List.all_eq_true.1 h1) xs env hs q (fun j hj=>by grind) stop (fun i k hi I Y ho=>aXY U (i,k) (hp i k hi I Y ho)) keep I ops.toList.length [] (Array.replicate ops.size false) (by simp) (fun k I=>by simp_all) (by simp) List.nodup_nil (fun k I=>by cases I) 0 env
  ⟨Nat.zero_le _,fun m hm=>by simp,fun i hi=>(by cases hi),fun i hi=>(by cases hi),fun t _=>rfl⟩ L c a _ (by rw[h0]; exact O)
 omega
attribute [go_sem] bEm bHo
def bMR:List (FuncId×(List Obj→Hit))→FuncId→List AV→List Obj→Option Hit
 | [],_,_,_=>none
 | (k,t)::r,f,g,h=>if k=f then some (t h) else bMR r f g h
structure aU7(P:Program)(G:Nat→AV)(l:List (FuncId×(List Obj→Hit))):Prop where
 ok:∀p∈l,(∀h,GOK P G p.1 (p.2 h).sp)∧fnB P p.1=true
theorem aU7.nil{P:Program}{G:Nat→AV}:aU7 P G []:=⟨fun p hp=>by cases hp⟩
theorem aU7.cons{P:Program}{G:Nat→AV}{l:List (FuncId×(List Obj→Hit))}{f:FuncId}{t:List Obj→Hit}(h:∀x,GOK P G f (t x).sp)(q:fnB P f=true)(g:aU7 P G l):aU7 P G ((f,t)::l):=by
 refine⟨fun p hp=>?_⟩;rcases List.mem_cons.1 hp with rfl|hp
 ·simp_all
 ·exact g.ok p hp
attribute [go_sem] bMR
end Go.Vc
namespace Go.Vc
open Go.RowKit
section
variable {P:Program} {T:Tab} {H:Type} {enc:TypeId×Value→H} {w:World} {spare:Nat→Bool} {held:Bool}
def bHs(k:IntKind)(ys:List Nat):DataW H:=.agg (ys.map fun (y:Nat)=>.lit (.int k (y:Int)))
theorem aYT:∀(cs:List Value),((List.range cs.length).map fun i=>(cs.drop i).take 1).flatten=cs:=by
 intro cs;have e:((List.range cs.length).map fun i=>(cs.drop i).take 1)=cs.map fun c=>[c]:=by
  apply List.ext_getElem
  ·simp
  ·intro i f q;simp only[List.length_map,List.length_range] at f;simp only[List.getElem_map,List.getElem_range];rw[List.drop_eq_getElem_cons f];rfl
 rw[e];clear e
 induction cs with
 | nil=>rfl
 | cons c cs g=>simp[g]
theorem bJ7{S:Nat→Prop}(I:mJ P T){n:Nat}{t:TypeId}{m:Nat}{k:IntKind}{cs:List Value}{p:List MemPlace}{ys:List Nat}(ht:T t=some (.arr m (.u k)))
  (h:DataW.trod enc P w 0 spare held n t cs=some (bHs k ys,p)):bB w S (.arr m (.u k)) ys cs:=by
 obtain⟨d,hd,hb⟩:=(I _ _ ht).desc;cases d<;>simp[jX] at hb
 obtain⟨⟨⟨rfl,g⟩,hb2⟩,_⟩:=hb;obtain⟨xs,q,hq,N,f,hxl,O⟩:=DataW.trod_array hd h;simp only[bHs,Prod.mk.injEq,DataW.agg.injEq] at N;rw[qU (I _ _ ht)] at f;rw[qU (I _ _ g)] at O;have e1:(Ty.u k).cells=1:=rfl;have e2:(Ty.arr m (.u k)).cells=m:=by show m*1=m; omega
 rw[e1] at O;rw[e2] at f;have U:ys.length=m:=by
  have:=congrArg List.length N.1;grind
 obtain⟨du,Y,z⟩:=(I _ _ g).desc;cases du<;>simp[jX] at z
 obtain⟨rfl,hs⟩:=z;refine⟨U,(List.range cs.length).map (fun i=>(cs.drop i).take 1),(aYT cs).symm,by grind,fun i h1 h2=>?_⟩;have hi:i<m:=by omega
 have Z:=O i hi;rw[Nat.mul_one,List.getElem?_eq_getElem (by omega)] at Z;obtain⟨v,g1,g2,L⟩:=DataW.trod_int Y Z;simp only[List.getElem_map,List.getElem_range];have J:(xs.map (·.1))[i]? = (ys.map fun (y:Nat)=>(DataW.lit (.int k (y:Int)):DataW H))[i]? := by rw[N.1]
 rw[List.getElem?_map,List.getElem?_map,List.getElem?_eq_getElem (by omega),List.getElem?_eq_getElem h1,g2] at J;simp only[Option.map_some,Option.some.injEq,DataW.lit.injEq,Lit.int.injEq,true_and] at J;rw[J] at g1 L;simp only[Lit.wf,Bool.and_eq_true,decide_eq_true_eq] at L;exact⟨g1,hs,L.2⟩
theorem bHt{l:List (String×DataW Unit)}{n:String}{d:DataW Unit}(hm:(n,d)∈l){ps:List MemPlace}(h:DataW.LaidVars P w l ps) :
  ∃g t cs f p,P.globalNamed n=some g∧(P.globals[g]?).map (·.type)=some t∧w.var? P n=some cs∧DataW.trod (fun _=>()) P w 0 (fun _=>true) false f t cs.toList=some (d,p):=by
 induction l generalizing ps with
 | nil=>cases hm
 | cons x r Y =>
  obtain⟨J,U⟩:=x;obtain⟨g,t,cs,f,p,q,O,N,z,L,I,_⟩:=h;grind
theorem bAX(hT:mJ P T){l:List (String×DataW Unit)}(h:laidMet P l w)(n:String)(g:Nat)(t:TypeId)(m:Nat)(k:IntKind)(ys:List Nat)(hm:(n,bHs k ys)∈l)(J:P.globalNamed n=some g)
  (ht:(P.globals[g]?).map (·.type)=some t) (q:T t=some (.arr m (.u k))) (N:0<m):aY ⟨aBF w,fun _=>Go.undef,0,fun _ _=>False⟩ w (.roa (.arr m (.u k)) ys) (.pointer (some ⟨g,0,none⟩)):=by
 obtain⟨ps,hv,_⟩:=h;obtain⟨g',t',f,L,p,Z,Y,O,U⟩:=bHt hm hv;obtain rfl:=Option.some.inj (J.symm.trans Z);obtain rfl:=Option.some.inj (ht.symm.trans Y);have z:bB w (aBF w) (.arr m (.u k)) ys f.toList:=bJ7 hT q U;have hc:mY w g 0 f.toList:=fun j v hj=>by
  have:=World.var?_cell J O j;simp_all
 refine aGS ?_ z hc;have I:=bB.length _ _ _ z;have I:f.toList.length=m*1:=I;have h0:0<f.toList.length:=by omega
 exact aYO (hc 0 (f.toList[0]'h0) (List.getElem?_eq_getElem h0))
end
end Go.Vc
namespace Go.Vc
open Go.RowKit
variable {H:Type} {enc:TypeId×Value→H}
theorem aWG{a:Assume}{C:Checked}{os:Os}{f:FuncId}{fn:Func}{s:ChangeSpec}{conds:List PathCond}{apart fresh handsOn again:Bool}{X:World→Array Value→Prop}
  (hX:∀(w w':World) (args:Array Value),w.heap=w'.heap→X w args→X w' args)
  (own:ownKnob C.prog.godebug=none) (started:os.Started) (noInit:C.prog.inits.idxOf? f=none) (I:C.prog.funcs[f]? = some fn)
  (witness:∃(w:World) (tape:Tape) (i:Input),w.os=os∧(w.forCall tape i).Shaped C.prog∧i.vars= []∧Input.okWide C.prog (w.forCall tape i) .any w.heap.size f i ∧
   ((s.pre enc C.prog fn conds apart (w.forCall tape i).memory i.args∧X (w.forCall tape i).memory i.args)∧sizedMet enc C.prog fn (OpenSpec.ofChange s) apart (w.forCall tape i).memory i.args)∧a.holds C.prog (lone (Frame.enter C.prog f i.args .normal) [] (w.forCall tape i)))
  (contract:∀(W:World) (base:Nat) (args:Array Value) (ds N:List (DataW H)) (before:List MemPlace),
   (∀(j:Nat) t v,fn.params[j]? = some t→args[j]? = some v→Value.okWide C.prog W .any base t v) →
   DataW.Whole enc C.prog fn.params.toList s.vars apart W args.toList ds N before→X W args→W.ShapedOpen C.prog →
   Calls C.prog f args W fun e Y=>∃v,e= .returned v∧s.post enc C.prog fn apart fresh handsOn again W args v Y) :
  ReturnsInHanded a C os f .any (fun w args=>(s.pre enc C.prog fn conds apart w args∧X w args)∧sizedMet enc C.prog fn (OpenSpec.ofChange s) apart w args) (s.post enc C.prog fn apart fresh handsOn again):=by
 refine returnsInHanded_of_calls own started noInit witness ?_;intro w tape i _ J _ L q hholds;obtain⟨_,_,_,O,z,_,_,_,_,g⟩:=L;obtain rfl:O=fn:=Option.some.inj (z.symm.trans I);obtain⟨⟨⟨ds,N,before,hw,hc⟩,hx⟩,hz⟩:=q;have U:=DataW.Whole.of_heap (w':=w.forCall tape i) (by rfl) hw;refine(contract (w.forCall tape i) w.heap.size i.args ds N before g U (hX _ _ _ (by rfl) hx) J).mono fun e Y ⟨v,Z,hp⟩=>?_;subst Z;exact ChangeSpec.post_blind hp
theorem bCM{P:Program}{w:World}{g:Nat}{t:TypeId}{zero:Array Value}{k:IntKind}
  (h:w.ShapedOpen P) (hg:g<P.globals.size)
  (h0:((begin P (fun _ _=>0) default).world.heap[g]?).bind Obj.row? = some (zero,t)) (hz:zero.size=1)
  (hb:P.buildable t=true) (hc:P.cellTypes P.depth t=some [t]) (Z:P.underlying t=some (.int k)) (hs:k.signed=true) :
  ∃m,aY ⟨aBF w,fun _=>Go.undef,0,fun _ _=>False⟩ w (.roa (.i k) m) (.pointer (some ⟨g,0,none⟩)):=by
 obtain⟨J,hh,hs',hr⟩:=h.1 g zero t hg h0;obtain⟨ts,z,_,q⟩:=hr hb;rw[hc] at z;cases z;have Y:0<J.size:=by omega
 obtain⟨u,U,f⟩:=q 0 J[0] (by simp[Y]);obtain rfl:u=t:=by simpa using U.symm
 have hcell:w.cell? ⟨g,0,none⟩=some J[0]:=by simp[World.cell?,hh,Y]
 unfold Cell.ok at f;rw[Z] at f;cases hv:J[0]<;>rw[hv] at f<;>simp at f
 case int k' n =>
  rw[hv] at hcell;obtain⟨rfl,O,L⟩:=f;have I:mY w g 0 [.int k' n]:=fun j v N=>by
   cases j with
   | zero=>simp at N; subst N; exact hcell
   | succ j=>simp at N
  exact⟨n,aGS (aYO (I 0 _ rfl)) ⟨rfl,hs,O,L⟩ I⟩
end Go.Vc

