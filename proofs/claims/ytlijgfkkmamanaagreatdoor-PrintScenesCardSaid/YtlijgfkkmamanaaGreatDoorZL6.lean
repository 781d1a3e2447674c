import Derived.Test.YtlijgfkkmamanaaGreatDoorZL5
import Derived.Shelf.Strings.Builder1
import Derived.Test.YtlijgfkkmamanaaGreatDoorZL4
import Derived.LaidMore
import Derived.LaidHandle
import Derived.MakeChecks
import Derived.Handed
set_option linter.unusedVariables false
set_option linter.unusedSimpArgs false
namespace Go.Vc
open Go.RowKit
theorem bGR(n:Nat):((no_index (OfNat.ofNat n):Nat):Int)=OfNat.ofNat n:=rfl
def sat{α:Type}(o:Option α)(Θ:α→Prop):Prop:=∃x,o=some x∧Θ x
section
variable {α β:Type} {p:Prop} [Decidable p] {k x y:Option α} {Θ:α→Prop} {a:α}
theorem aU9(h:sat (ck p k) Θ):p∧sat k Θ:=by
 obtain⟨z,q,f⟩:=h;obtain⟨hp,g⟩:=bD q;exact⟨hp,z,g,f⟩
theorem fQ(hp:p)(h:sat (if p then x else y) Θ):sat x Θ:=by simp_all
theorem fR(hp:¬p)(h:sat (if p then x else y) Θ):sat y Θ:=by simp_all
theorem aK{G:Prop}(h:sat (ck p k) Θ)(f:p→sat k Θ→G):p∧G:=⟨(aU9 h).1,f (aU9 h).1 (aU9 h).2⟩
theorem cE{f g:Prop}(h:sat (if p then x else y) Θ)(z:p→sat x Θ→f)(q:¬p→sat y Θ→g):(p→f)∧(¬p→g):=⟨fun c=>z c (fQ c h),fun c=>q c (fR c h)⟩
theorem dS{f g:Prop}{m n:Int}(h:sat (if m<n then x else y) Θ)(z:m<n→sat x Θ→f)(q:n≤m→sat y Θ→g):(m<n→f)∧(n≤m→g):=⟨fun c=>z c (fQ c h),fun c=>q c (fR (Int.not_lt.2 c) h)⟩
theorem aYY{f g:Prop}{m n:Int}(h:sat (if m≤n then x else y) Θ)(z:m≤n→sat x Θ→f)(q:n<m→sat y Θ→g):(m≤n→f)∧(n<m→g):=⟨fun c=>z c (fQ c h),fun c=>q c (fR (Int.not_le.2 c) h)⟩
theorem aH6{g f:Prop}{b:Bool}(h:sat (if b=true then x else y) Θ)(z:b=true→sat x Θ→g)(q:¬b=true→sat y Θ→f):(b=true→g)∧(¬b=true→f):=cE h z q
theorem zT{f g:Prop}{b:Bool}(h:sat (if ¬b=true then x else y) Θ)(z:b=false→sat x Θ→f)(q:¬b=false→sat y Θ→g):(b=false→f)∧(¬b=false→g) :=
 ⟨fun c=>z c (fQ (by simp_all) h),fun c=>q c (fR (fun n=>c (by simp_all)) h)⟩
theorem aA(h:sat (some a) Θ):Θ a:=by
 obtain⟨z,g,f⟩:=h;simp_all
theorem aCA{P:Prop}(h:sat none Θ):P:=by
 obtain⟨z,f,g⟩:=h;cases f
theorem aB{o:Option β}{f:β→Option α}(h:sat (o.bind f) Θ){G:Prop}(I:∀z,o=some z→sat (f z) Θ→G):G:=by
 obtain⟨r,g,q⟩:=h;cases o with
 | none=>cases g
 | some z=>exact I z rfl ⟨r,g,q⟩
theorem aD(h:sat (ck p k) Θ){G:Prop}(f:p→sat k Θ→G):G:=f (aU9 h).1 (aU9 h).2
end
def aYZ(n:Nat)(ops:List Oper):Bool:=aYK (ops.take n)&&aJW (ops.take n)&&aSl (ops.take n).length ops
inductive Pl where
 | A (keep:List Nat)
 | B (keep:List Nat)
 | C (n:Nat) (keep:List Nat)
 | P (keep sb:List Nat)
 | Q (n:Nat) (keep sb:List Nat)
 | stop
def aY0:List (FuncId×(List AV→List Obj→Hit))→FuncId→List AV→List Obj→Option Hit
 | [],_,_,_=>none
 | (k,t)::r,f,g,h=>match decide (k=f) with
  | true=>some (t g h)
  | false=>aY0 r f g h
structure aI7(P:Program)(G:Nat→AV)(l:List (FuncId×(List AV→List Obj→Hit))):Prop where
 ok:∀p∈l,(∀vs h,GOK P G p.1 (p.2 vs h).sp)∧fnB P p.1=true
theorem aI7.nil{P:Program}{G:Nat→AV}:aI7 P G []:=⟨fun p hp=>by cases hp⟩
theorem aI7.cons{P:Program}{G:Nat→AV}{l:List (FuncId×(List AV→List Obj→Hit))}{f:FuncId}{t:List AV→List Obj→Hit}(h:∀vs x,GOK P G f (t vs x).sp)(g:fnB P f=true)(q:aI7 P G l):aI7 P G ((f,t)::l):=by
 refine⟨fun p hp=>?_⟩;rcases List.mem_cons.1 hp with rfl|hp
 ·exact⟨h,g⟩
 ·exact q.ok p hp
theorem bAZ:∀ {l:List (FuncId×(List AV→List Obj→Hit))} {f:FuncId} {vs:List AV} {h:List Obj} {t:Hit},aY0 l f vs h=some t→ ∃s,(f,s)∈l∧t=s vs h
 | (k,s)::r,f,vs,h,t,e=>by
  simp only[aY0] at e;split at e
  ·simp_all
  ·obtain⟨u,q,g⟩:=bAZ e;grind
theorem bA0{P:Program}{G:Nat→AV}{l:List (FuncId×(List AV→List Obj→Hit))}(h:aI7 P G l):aGd P G (aY0 l):=by
 refine⟨fun f q g t e=>?_,fun f q g t e=>?_⟩<;>obtain⟨s,z,rfl⟩:=bAZ e
 ·exact(h.ok _ z).1 q g
 ·exact xC (h.ok _ z).2
def eK:List Obj→Nat→(t:Ty)→t.den
 | .box _ (.val s x)::_,0,t=>if e:s=t then e▸x else t.zero
 | _::h,i+1,t=>eK h i t
 | _,_,t=>t.zero
@[go_sem] theorem bLF{n:Nat}{t:Ty}{x:t.den}{h:List Obj}:eK (.box n (.val t x)::h) 0 t=x:=by simp[eK]
@[go_sem] theorem bK1{o:Obj}{h:List Obj}{i:Nat}{t:Ty}:eK (o::h) (i+1) t=eK h i t:=by
 cases o<;>try rfl
 rename_i n v;cases v<;>rfl
def qT(h:List Obj)(vs:List AV)(i:Nat)(t:Ty):t.den:=match AV.as (h.map fX) t (vs.getD i .junk) with
 | some x=>x
 | none=>t.zero
def mkH{R:Type}(o:Option R)(z:R)(f:R→Hit):Hit:=f (o.getD z)
theorem bGS{R:Type}{r z:R}{f:R→Hit}:mkH (some r) z f=f r:=rfl
structure PlR where
 reg:List (Nat×Pl)
 stops:List (Nat×Nat)
 dl:List (FuncId×(List AV→List Obj→Hit))
def bJy:List (Nat×Pl)→Nat→Pl
 | [],_=>.stop
 | (i,p)::r,f=>match decide (i=f) with
  | true=>p
  | false=>bJy r f
def first:Code→Nat
 | .region f _ _=>f+3
 | .seq x _=>first x
 | .block _ x=>first x
 | .loop x=>first x
 | .scope x=>first x
 | .skip=>1
 | .label _=>1
 | .ret=>0
 | _=>2
def bA1:List (Nat×Nat)→Code→Code→Bool
 | [],_,_=>false
 | (a,b)::r,x,y=>match decide (a=first x) with
  | true=>match decide (b=first y) with
   | true=>true
   | false=>bA1 r x y
  | false=>bA1 r x y
def bLG(V:St→List Obj→Prop)(K:Exit→St→List Obj→Prop):Exit→St→List Obj→Prop:=fun e env h=>match e with
 | .normal=>V env h
 | e=>K e env h
def bJz(id:Nat)(K:Exit→St→List Obj→Prop):Exit→St→List Obj→Prop:=fun e env h=>match e with
 | .normal=>K .normal env h
 | .exit j=>match decide (j=id) with
  | true=>K .normal env h
  | false=>K (.exit j) env h
 | .ret=>K .ret env h
 | _=>False
def bMv(K:Exit→St→List Obj→Prop):Exit→St→List Obj→Prop:=fun e env h=>match e with
 | .normal=>K .normal env h
 | .exit j=>K (.exit j) env h
 | .ret=>K .ret env h
 | _=>False
def vcC(F:Fr)(p:PlR):Code→(Exit→St→List Obj→Prop)→(Exit→Act→World→Prop)→St→List Obj→Prop
 | .skip,K,_,env,h=>K .normal env h
 | .label _,K,_,env,h=>K .normal env h
 | .exit q,K,_,env,h=>K (.exit q) env h
 | .ret,K,_,env,h=>K .ret env h
 | .seq x y,K,Q,env,h=>match bA1 p.stops x y with
  | true=>Tri F (.seq x y) Q env h
  | false=>vcC F p x (bLG (vcC F p y K Q) K) (Exit.then (Next F y Q) Q) env h
 | .cond o x y,K,Q,env,h=>match evA F.E.G env o with
  | .val .bool b=>(b=true→vcC F p x K Q env h)∧(¬b=true→vcC F p y K Q env h)
  | _=>False
 | .block q x,K,Q,env,h=>vcC F p x (bJz q K) (Exit.inBlock q Q) env h
 | .scope x,K,Q,env,h=>vcC F p x (bMv K) (Exit.noGoto Q) env h
 | .region q ops f,K,Q,env,h=>match bJy p.reg q with
  | .A keep=>vcA F.E h env ops.toList 0 [] (fun g=>K .normal (aWJ keep g env) h)
  | .B keep=>f=false∧xX F.E ops.toList ops.toList env h (fun env h=>K .normal (keep.map fun t=>(t,look env t)) h)
  | .C n keep=>(f=true∧aYZ n ops.toList=true) ∧
    vcA F.E h env (ops.toList.take n) 0 [] (fun g=>xX F.E ops.toList (ops.toList.drop n) (qK F.E.T (gK (ops.toList.take n) 0) (oJ g env) h).1 (qK F.E.T (gK (ops.toList.take n) 0) (oJ g env) h).2 (fun env h=>K .normal (keep.map fun t=>(t,look env t)) h))
  | .P keep sb=>f=false∧aCy F.E (aY0 p.dl) sb ops.toList ops.toList env h (fun env h=>K .normal (keep.map fun t=>(t,look env t)) h) (fun e env h=>AtP F Q e env h)
  | .Q n keep sb=>(f=true∧aYZ n ops.toList=true) ∧
    vcA F.E h env (ops.toList.take n) 0 [] (fun g=>aCy F.E (aY0 p.dl) sb ops.toList (ops.toList.drop n) (qK F.E.T (gK (ops.toList.take n) 0) (oJ g env) h).1 (qK F.E.T (gK (ops.toList.take n) 0) (oJ g env) h).2 (fun env h=>K .normal (keep.map fun t=>(t,look env t)) h) (fun e env h=>AtP F Q e env h))
  | .stop=>Tri F (.region q ops f) Q env h
 | c,_,Q,env,h=>Tri F c Q env h
structure VOK(F:Fr)(p:PlR):Prop where
 fr:uP F
 hits:aI7 F.P F.E.G p.dl
section
variable {F:Fr} {p:PlR}
theorem bEi(hF:uP F){K:Exit→St→List Obj→Prop}{Q:Exit→Act→World→Prop}(U:∀e env h,K e env h→At F (Q e) env h){id:Nat}{ops:Array Oper}{q:Bool}{keep:List Nat}{env:St}{h:List Obj}
  (hv:vcA F.E h env ops.toList 0 [] (fun f=>K .normal (aWJ keep f env) h)):Tri F (.region id ops q) Q env h:=fun z c a w hs=>by
 simp only[iT,Bool.and_eq_true,Bool.or_eq_true,Bool.not_eq_true'] at z;obtain⟨⟨N,L⟩,Y⟩:=z;have g:∀f c' I w',K .normal (aWJ keep f env) h→eI c w c' w'→c'.n=c.n→Sim F.E F.M F.w0 F.nt F.ds c' (oJ f env) h I w'→Q .normal I w':=fun f c' I w' O _ _ J=>by
  have:=J.keep keep;refine U _ _ _ O c' I w' ?_;grind[aWJ,look,oJ,bAE]
 cases q with
 | false=>exact bAB (ops:=ops.toList) hF.env (List.all_eq_true.1 N) L hs hv g
 | true=>exact aOX (ops:=ops.toList) hF.env hF.mix (List.all_eq_true.1 N) L (Y.resolve_left (by simp)) hs hv g
theorem bEj(hF:uP F){K:Exit→St→List Obj→Prop}{Q:Exit→Act→World→Prop}(z:∀e env h,K e env h→At F (Q e) env h){id:Nat}{ops:Array Oper}{keep:List Nat}{env:St}{h:List Obj}
  (hv:xX F.E ops.toList ops.toList env h (fun env h=>K .normal (keep.map fun t=>(t,look env t)) h)):Tri F (.region id ops false) Q env h:=fun f c a w hs=>by
 simp only[iT,Bool.and_eq_true,Bool.or_eq_true,Bool.not_eq_true'] at f;obtain⟨⟨q,J⟩,I⟩:=f;refine wp_region ?_;have:=aO2 (Q:=Q) hF.env (List.all_eq_true.1 q) (K:=fun env h=>K .normal (keep.map fun t=>(t,look env t)) h) (fun env h c a w g hs=>z _ _ _ g c a w (hs.keep keep)) ops.toList.length 0 (by simp) env h c a w (by simp_all) hs;simp_all[List.range_eq_range']
theorem bJA(hF:uP F){K:Exit→St→List Obj→Prop}{Q:Exit→Act→World→Prop}(J:∀e env h,K e env h→At F (Q e) env h){id:Nat}{ops:Array Oper}(n:Nat)(f:aYZ n ops.toList=true){keep:List Nat}{env:St}{h:List Obj}
  (hv:vcA F.E h env (ops.toList.take n) 0 [] (fun q=>xX F.E ops.toList (ops.toList.drop n) (qK F.E.T (gK (ops.toList.take n) 0) (oJ q env) h).1 (qK F.E.T (gK (ops.toList.take n) 0) (oJ q env) h).2 (fun env h=>K .normal (keep.map fun t=>(t,look env t)) h))) :
  Tri F (.region id ops true) Q env h:=fun g c a w hs=>by
 simp only[iT,Bool.and_eq_true,Bool.or_eq_true,Bool.not_eq_true'] at g;obtain⟨⟨Y,O⟩,N⟩:=g;simp only[aYZ,Bool.and_eq_true] at f;obtain⟨⟨z,L⟩,U⟩:=f;have e:ops.toList.take n++ops.toList.drop n=ops.toList:=List.take_append_drop n ops.toList;have:=bGB (id:=id) (pre:=ops.toList.take n) (tail:=ops.toList.drop n) (Q:=Q) hF.env hF.mix (by grind) L z (by simp_all) hs (K':=fun env h=>K .normal (keep.map fun t=>(t,look env t)) h) (by simp_all) (fun env h c a w I hs=>J _ _ _ I c a w (hs.keep keep));simp_all
theorem aLf(hF:VOK F p):∀(c:Code) (K:Exit→St→List Obj→Prop) (Q:Exit→Act→World→Prop),(∀e env h,K e env h→At F (Q e) env h)→ ∀env h,vcC F p c K Q env h→Tri F c Q env h
 | .skip,K,Q,f,env,h,hv=>eC (f _ _ _ hv)
 | .label _,K,Q,f,env,h,hv=>aXN (f _ _ _ hv)
 | .exit _,K,Q,f,env,h,hv=>aEh (f _ _ _ hv)
 | .ret,K,Q,f,env,h,hv=>gU (f _ _ _ hv)
 | .seq x y,K,Q,f,env,h,hv=>by
  unfold vcC at hv;split at hv
  ·exact hv
  ·refine aL (aLf hF x _ _ (fun e env h g=>?_) env h hv);cases e with
   | normal=>exact aN (aLf hF y K Q f env h g)
   | _=>exact f _ env h g
 | .cond o x y,K,Q,f,env,h,hv=>by
  unfold vcC at hv;split at hv
  ·rename_i b hb;exact cS hb (fun e=>aLf hF x K Q f env h (hv.1 e)) (fun e=>aLf hF y K Q f env h (hv.2 (by simp_all)))
  simp_all
 | .block I x,K,Q,f,env,h,hv=>by
  refine oV (aLf hF x _ _ (fun e env h g=>?_) env h hv);cases e with
  | normal=>exact f .normal env h g
  | ret=>exact f .ret env h g
  | exit j =>
   simp only[bJz] at g;split at g
   ·rename_i hd;obtain rfl:=of_decide_eq_true hd;grind[pK]
   grind[aK8,of_decide_eq_false]
  | _=>exact g.elim
 | .scope x,K,Q,f,env,h,hv=>by
  refine aXU (aLf hF x _ _ (fun e env h g=>?_) env h hv);cases e with
  | normal=>exact f .normal env h g
  | ret=>exact f .ret env h g
  | exit j=>exact f (.exit j) env h g
  | _=>exact g.elim
 | .region I ops z,K,Q,f,env,h,hv=>by
  unfold vcC at hv;split at hv
  ·exact bEi hF.fr f hv
  ·obtain⟨rfl,hv⟩:=hv; exact bEj hF.fr f hv
  ·obtain⟨⟨rfl,q⟩,hv⟩:=hv; exact bJA hF.fr f _ q hv
  ·obtain⟨rfl,hv⟩:=hv; exact bD9 hF.fr f (bA0 hF.hits) _ _ hv
  ·obtain⟨⟨rfl,q⟩,hv⟩:=hv; exact bJx hF.fr f (bA0 hF.hits) _ q _ _ hv
  omega
 | .loop x,K,Q,f,env,h,hv=>hv
 | .rangeFunc _ _ _ _,K,Q,f,env,h,hv=>hv
 | .goto _,K,Q,f,env,h,hv=>hv
 | .refuse _,K,Q,f,env,h,hv=>hv
end
inductive Kt where
 | fin (Q:Exit→Act→World→Prop)
 | seq (y:Code) (k:Kt)
 | blk (id:Nat) (k:Kt)
 | scp (k:Kt)
 | stp (K:Act→World→Prop) (k:Kt)
def aDd(F:Fr):Kt→Exit→Act→World→Prop
 | .fin Q=>Q
 | .seq y k=>Exit.then (Next F y (aDd F k)) (aDd F k)
 | .blk f k=>Exit.inBlock f (aDd F k)
 | .scp k=>Exit.noGoto (aDd F k)
 | .stp K k=>Exit.then K (aDd F k)
def den(F:Fr)(p:PlR):Kt→Exit→St→List Obj→Prop
 | .fin Q=>fun e env h=>At F (Q e) env h
 | .seq y k=>bLG (vcC F p y (den F p k) (aDd F k)) (den F p k)
 | .blk f k=>bJz f (den F p k)
 | .scp k=>bMv (den F p k)
 | .stp K k=>bLG (fun env h=>At F K env h) (den F p k)
def vcT(F:Fr)(p:PlR)(c:Code)(k:Kt)(env:St)(h:List Obj):Prop:=vcC F p c (den F p k) (aDd F k) env h
section
variable {F:Fr} {p:PlR} {k:Kt} {env:St} {h:List Obj}
theorem aCB(hF:VOK F p):∀(k:Kt) (e:Exit) (env:St) (h:List Obj),den F p k e env h→At F (aDd F k e) env h
 | .fin Q,e,env,h,f=>f
 | .seq y k,e,env,h,f=>by
  cases e with
  | normal=>exact aN (aLf hF y _ _ (aCB hF k) env h f)
  | _=>exact aCB hF k _ env h f
 | .blk g k,e,env,h,f=>by
  cases e with
  | normal=>exact aCB hF k .normal env h f
  | ret=>exact aCB hF k .ret env h f
  | exit j =>
   simp only[den,bJz] at f;split at f
   ·rename_i hd;obtain rfl:=of_decide_eq_true hd;exact pK (aCB hF k .normal env h f)
   ·rename_i hd;exact aK8 (of_decide_eq_false hd) (aCB hF k (.exit j) env h f)
  | _=>exact f.elim
 | .scp k,e,env,h,f=>by
  cases e with
  | normal=>exact aCB hF k .normal env h f
  | ret=>exact aCB hF k .ret env h f
  | exit j=>exact aCB hF k (.exit j) env h f
  | _=>exact f.elim
 | .stp K k,e,env,h,f=>by
  cases e with
  | normal=>exact f
  | _=>exact aCB hF k _ env h f
theorem aVa(hF:VOK F p){c:Code}(hv:vcT F p c k env h):Tri F c (aDd F k) env h:=aLf hF c _ _ (aCB hF k) env h hv
theorem aGf(hF:VOK F p){e:Exit}(hv:den F p k e env h):At F (aDd F k e) env h:=aCB hF k e env h hv
theorem bGT:vcT F p .skip k env h=den F p k .normal env h:=propext Iff.rfl
theorem bFl{l:Nat}:vcT F p (.label l) k env h=den F p k .normal env h:=propext Iff.rfl
theorem bGU{id:Nat}:vcT F p (.exit id) k env h=den F p k (.exit id) env h:=propext Iff.rfl
theorem bJB:vcT F p .ret k env h=den F p k .ret env h:=propext Iff.rfl
theorem bJC{x y:Code}:vcT F p (.seq x y) k env h=match bA1 p.stops x y with
  | true=>Tri F (.seq x y) (aDd F k) env h
  | false=>vcT F p x (.seq y k) env h:=propext Iff.rfl
theorem bGV{o:Operand}{x y:Code}:vcT F p (.cond o x y) k env h=match evA F.E.G env o with
  | .val .bool b=>(b=true→vcT F p x k env h)∧(¬b=true→vcT F p y k env h)
  | _=>False:=propext Iff.rfl
theorem bFm{id:Nat}{x:Code}:vcT F p (.block id x) k env h=vcT F p x (.blk id k) env h:=propext Iff.rfl
theorem bFn{x:Code}:vcT F p (.scope x) k env h=vcT F p x (.scp k) env h:=propext Iff.rfl
theorem bGW{x:Code}:vcT F p (.loop x) k env h=Tri F (.loop x) (aDd F k) env h:=propext Iff.rfl
theorem bCJ{id:Nat}{ops:Array Oper}{f:Bool}:vcT F p (.region id ops f) k env h=match bJy p.reg id with
  | .A keep=>vcA F.E h env ops.toList 0 [] (fun g=>den F p k .normal (aWJ keep g env) h)
  | .B keep=>f=false∧xX F.E ops.toList ops.toList env h (fun env h=>den F p k .normal (keep.map fun t=>(t,look env t)) h)
  | .C n keep=>(f=true∧aYZ n ops.toList=true) ∧
    vcA F.E h env (ops.toList.take n) 0 [] (fun g=>xX F.E ops.toList (ops.toList.drop n) (qK F.E.T (gK (ops.toList.take n) 0) (oJ g env) h).1 (qK F.E.T (gK (ops.toList.take n) 0) (oJ g env) h).2 (fun env h=>den F p k .normal (keep.map fun t=>(t,look env t)) h))
  | .P keep sb=>f=false∧aCy F.E (aY0 p.dl) sb ops.toList ops.toList env h (fun env h=>den F p k .normal (keep.map fun t=>(t,look env t)) h) (fun e env h=>AtP F (aDd F k) e env h)
  | .Q n keep sb=>(f=true∧aYZ n ops.toList=true) ∧
    vcA F.E h env (ops.toList.take n) 0 [] (fun g=>aCy F.E (aY0 p.dl) sb ops.toList (ops.toList.drop n) (qK F.E.T (gK (ops.toList.take n) 0) (oJ g env) h).1 (qK F.E.T (gK (ops.toList.take n) 0) (oJ g env) h).2 (fun env h=>den F p k .normal (keep.map fun t=>(t,look env t)) h) (fun e env h=>AtP F (aDd F k) e env h))
  | .stop=>Tri F (.region id ops f) (aDd F k) env h:=propext Iff.rfl
theorem bJD{Q:Exit→Act→World→Prop}{e:Exit}:den F p (.fin Q) e env h=At F (Q e) env h:=propext Iff.rfl
theorem bGX{y:Code}:den F p (.seq y k) .normal env h=vcT F p y k env h:=propext Iff.rfl
theorem bGY{y:Code}{id:Nat}:den F p (.seq y k) (.exit id) env h=den F p k (.exit id) env h:=propext Iff.rfl
theorem bGZ{y:Code}:den F p (.seq y k) .ret env h=den F p k .ret env h:=propext Iff.rfl
theorem bG0{id:Nat}:den F p (.blk id k) .normal env h=den F p k .normal env h:=propext Iff.rfl
theorem bG1{id j:Nat}:den F p (.blk id k) (.exit j) env h=match decide (j=id) with
  | true=>den F p k .normal env h
  | false=>den F p k (.exit j) env h:=propext Iff.rfl
theorem bG2{id:Nat}:den F p (.blk id k) .ret env h=den F p k .ret env h:=propext Iff.rfl
theorem bG3:den F p (.scp k) .normal env h=den F p k .normal env h:=propext Iff.rfl
theorem bG4{j:Nat}:den F p (.scp k) (.exit j) env h=den F p k (.exit j) env h:=propext Iff.rfl
theorem bG5:den F p (.scp k) .ret env h=den F p k .ret env h:=propext Iff.rfl
theorem bG6{K:Act→World→Prop}:den F p (.stp K k) .normal env h=At F K env h:=propext Iff.rfl
theorem bG7{K:Act→World→Prop}{j:Nat}:den F p (.stp K k) (.exit j) env h=den F p k (.exit j) env h:=propext Iff.rfl
theorem bG8{K:Act→World→Prop}:den F p (.stp K k) .ret env h=den F p k .ret env h:=propext Iff.rfl
theorem bJE{E:Env}{i:Nat}{f:List Ent}{K:List Ent→Prop}:vcA E h env [] i f K=K f:=propext Iff.rfl
theorem bG9{E:Env}{o:Oper}{r:List Oper}{i:Nat}{f:List Ent}{K:List Ent→Prop}:vcA E h env (o::r) i f K=match o.dst,opA E h env f o with
  | some d,(p,v)=>aG0 f o.guard∧(jP f (aGN f o.guard)→p)∧vcA E h env r (i+1) (⟨i,d,aGN f o.guard,v⟩::f) K
  | none,_=>False:=propext (by rfl)
theorem bHa{E:Env}{all:List Oper}{K:St→List Obj→Prop}:xX E all [] env h K=K env h:=propext Iff.rfl
theorem bFo{E:Env}{all:List Oper}{o:Oper}{r:List Oper}{K:St→List Obj→Prop}:xX E all (o::r) env h K=match o.guard with
  | none=>match aAR E env h o with
   | (p,v,h')=>p∧xX E all r (zQ o.dst v env) h' K
  | some (j,f)=>match aLc all j with
   | some g=>match look env g with
    | .val .bool b=>(b=f→match aAR E env h o with
      | (p,v,h')=>p∧xX E all r (zQ o.dst v env) h' K)∧(b= !f→xX E all r (zQ o.dst .undef env) h K)
    | .undef=>xX E all r (zQ o.dst .undef env) h K
    | _=>False
   | none=>False:=propext (by rfl)
theorem dB(hF:VOK F p){x y:Code}{D:Type}(J:D→Prop)(keep:List Nat)(f:D→St)(g:D→List (Nat⊕Obj))
  (z:vcT F p x (.stp (fun q w'=>∃d' c',J d'∧Sim F.E F.M F.w0 F.nt F.ds c' (aNS env keep (f d')) (zR h (g d')) q w') k) env h)
  (hy:∀d,J d→vcT F p y k (aNS env keep (f d)) (zR h (g d))):Tri F (.seq x y) (aDd F k) env h :=
 bAG J (fun d=>aNS env keep (f d)) (fun d=>zR h (g d)) (aVa hF z) (fun d hd=>aVa hF (hy d hd))
theorem bP(hF:VOK F p){x:Code}{D E R:Type}{G:Md}{step:D→Option (D⊕E)}{f:E→Option R}{Θ:R→Prop}{d0:D}(keep:List Nat)(g:D→St)(q:D→List (Nat⊕Obj))
  (hd:sat ((dE G step d0).bind f) Θ) (Y:h=zR h (q d0)) (Z:wT h env (aNS env keep (g d0)))
  (round:∀d (A:D→Prop) (B:D⊕E→Prop),(∀x,B (.inl x)→A x)→(∀e,B (.inr e)→sat (f e) Θ)→sat (step d) B→vcT F p x (.stp (fun I w'=>∃d' c',A d'∧Sim F.E F.M F.w0 F.nt F.ds c' (aNS env keep (g d')) (zR h (q d')) I w') k) (aNS env keep (g d)) (zR h (q d))):Tri F (.loop x) (aDd F k) env h:=by
 obtain⟨r,O,z⟩:=hd;refine bAF (fun d=>(dE G step d).bind f=some r) (aI4 step) (fun d=>aNS env keep (g d)) (fun d=>zR h (q d)) (aT d0 O Y Z) fun d hi=>?_;obtain⟨s,U,L⟩:=aU6 hi;refine aVa hF (k:=.stp _ k) (round d (fun d'=>(dE G step d').bind f=some r∧aI4 step d'<aI4 step d) (aA9 (fun d'=>(dE G step d').bind f=some r∧aI4 step d'<aI4 step d) (fun e=>f e=some r)) (fun _ N=>N) (fun e J=>⟨r,J,z⟩) ⟨s,U,L⟩)
theorem vI(hF:VOK F p){id:Nat}{ops:Array Oper}{f:Bool}(keep:List Nat)(hv:vcA F.E h env ops.toList 0 [] (fun g=>den F p k .normal (aWJ keep g env) h)):Tri F (.region id ops f) (aDd F k) env h :=
 bEi hF.fr (aCB hF k) hv
theorem aVb(hF:VOK F p){id:Nat}{ops:Array Oper}(keep:List Nat)(hv:xX F.E ops.toList ops.toList env h (fun env h=>den F p k .normal (keep.map fun t=>(t,look env t)) h)):Tri F (.region id ops false) (aDd F k) env h :=
 bEj hF.fr (aCB hF k) hv
def bK2(P:Program)(fn:Func)(S:Nat→Prop)(w0:World)(r:RK)(Θ:r.ty.den→Prop):Exit→Act→World→Prop:=fun e a w=>∃y,Θ y∧post P fn S w0 r y e a w
theorem aG{F:Fr}{fn:Func}{S:Nat→Prop}{r:RK}{Θ:r.ty.den→Prop}{env:St}{h:List Obj}{p:PlR}(hF:VOK F p)(l:List ResultVar)(q:F.M=top S)(f:F.ds= [])(g:fn.results=l.toArray){y:r.ty.den}(hy:Θ y)(hq:(aS F.E.T h env l).1∧mA h r y (aS F.E.T h env l).2):At F (bK2 F.P fn S F.w0 r Θ .ret) env h :=
 fun c a w hs=>⟨y,hy,nG hF.fr l q f g hq c a w hs⟩
theorem bQ{P:Program}{E:Env}{f:FuncId}{fn:Func}{g:Code}{a:Ty}{r:RK}{m:a.den→Option r.ty.den}(I:iF P E)(hm:P.follows .mixedOrders=true)(O:P.funcs[f]? = some fn)(hb:fn.body=some g)(q:iT fn.ntmps g=true)(J:aSj a≤fn.ntmps)(p:PlR)
  (ht:∀(w0:World) (S:Nat→Prop) (x:a.den) (Θ:r.ty.den→Prop),a.wf x→sat (m x) Θ→VOK (fr P E S w0 fn.ntmps) p→vcT (fr P E S w0 fn.ntmps) p g (.fin (bK2 P fn S w0 r Θ)) (cA a x 0) []) (hd:aI7 P E.G p.dl:=by exact .nil):FOK P E.G f (mSpec a r m) :=
 aDD I O hb q J fun w0 S x y L N=>by
  have hF:VOK (fr P E S w0 fn.ntmps) p:=⟨⟨I,hm⟩,hd⟩;have:=aVa hF (ht w0 S x (fun z=>z=y) L ⟨y,N,rfl⟩ hF);intro q c a w hs;refine wp_mono (this q c a w hs) fun e Y w' hq=>?_;obtain⟨z,rfl,U⟩:=hq;exact U
theorem jR{P:Program}{E:Env}{f:FuncId}{fn:Func}{g:Code}{sp:fH}(z:iF P E)(hm:P.follows .mixedOrders=true)(O:P.funcs[f]? = some fn)(hb:fn.body=some g)(q:iT fn.ntmps g=true)(I:∀d,(sp.av d).length≤fn.ntmps)(p:PlR)
  (ht:∀(c:Ctx) (w:World) (d:sp.D),AV.wfL (sp.av d)→Obj.wfL (sp.hp d)→sp.pre d→VOK ⟨P,E,GM sp c d,w,fn.ntmps,[]⟩ p→vcT ⟨P,E,GM sp c d,w,fn.ntmps,[]⟩ p g (.fin (bodyPost P fn (aNT sp c w d))) (vH ((sp.av d).map rpV) 0) (sp.hp d)) (hd:aI7 P E.G p.dl:=by exact .nil):GOK P E.G f sp :=
 bAX z O hb q I fun c w d N L J _ =>
  have hF:VOK ⟨P,E,GM sp c d,w,fn.ntmps,[]⟩ p:=⟨⟨z,hm⟩,hd⟩
  aVa hF (ht c w d N L J hF)
theorem jS{α:Type}{o:Option α}{r:α}(h:o=some r):sat o (fun z=>z=r):=⟨r,h,rfl⟩
theorem aP{α:Type}{a r:α}(h:sat (some a) (fun z=>z=r)):a=r:=by
 obtain⟨x,g,f⟩:=h;cases g;exact f
theorem lO{α:Type}{o:Option α}{Θ:α→Prop}{x:α}(h:o=some x)(hq:Θ x):sat o Θ:=⟨x,h,hq⟩
def fL(vs:List AV)(i:Nat):Nat:=match vs.getD i .junk with| .ptr j _=>j|_=>0
def bM8(vs:List AV)(i j:Nat):Nat:=match vs.getD i .junk with| .fn _ l _=>l.getD j 0|_=>0
def bM9(h:List Obj)(i j:Nat):Nat:=match h.getD i .dead with| .box _ (.fn _ _ l)=>l.getD j 0|_=>0
end
section
variable {F:Fr} {p:PlR} {k:Kt} {env:St} {h:List Obj} {e:Pan}
theorem bJF{Q:Exit→Act→World→Prop}:AtP F (aDd F (.fin Q)) e env h=AtP F Q e env h:=rfl
theorem bJG{y:Code}:AtP F (aDd F (.seq y k)) e env h=AtP F (aDd F k) e env h:=rfl
theorem bJH{id:Nat}:AtP F (aDd F (.blk id k)) e env h=AtP F (aDd F k) e env h:=rfl
theorem bJI:AtP F (aDd F (.scp k)) e env h=AtP F (aDd F k) e env h:=rfl
theorem bJJ{K:Act→World→Prop}:AtP F (aDd F (.stp K k)) e env h=AtP F (aDd F k) e env h:=rfl
variable {E:Env} {Δ:FuncId→List AV→List Obj→Option Hit} {sb:List Nat} {all:List Oper} {K:St→List Obj→Prop} {Kp:Pan→St→List Obj→Prop}
theorem bHb:aCy E Δ sb all [] env h K Kp=K env h:=rfl
theorem bFp{o:Oper}{r:List Oper}:aCy E Δ sb all (o::r) env h K Kp=match o.guard with
  | none=>aLe E Δ sb env h o (fun v h'=>aCy E Δ sb all r (zQ o.dst v env) h' K Kp) (fun p h'=>Kp p env h')
  | some (j,f)=>match aLc all j with
   | some g=>match look env g with
    | .val .bool b=>(b=f→aLe E Δ sb env h o (fun v h'=>aCy E Δ sb all r (zQ o.dst v env) h' K Kp) (fun p h'=>Kp p env h'))∧(b= !f→aCy E Δ sb all r (zQ o.dst .undef env) h K Kp)
    | .undef=>aCy E Δ sb all r (zQ o.dst .undef env) h K Kp
    | _=>False
   | none=>False:=propext (by rfl)
class KGo where
 k:AV→List Obj→Prop
 kp:Pan→List Obj→Prop
def goH(h:List Obj)(vs:List AV)(t:Hit)[w:KGo]:Prop :=
 aO4 h vs t∧bAQ (t.sp.out t.d) (fun v h'=>bGG (tZ t.σ t.sp.m h.length h'.length) v=true∧w.k (emb (tZ t.σ t.sp.m h.length h'.length) v) (aGc t.σ t.sp.m h h')) (fun p h'=>w.kp p (aGc t.σ t.sp.m h h'))
theorem bLH{vs:List AV}{sp:fH}{σ:List Nat}{d:sp.D}{k:AV→List Obj→Prop}{kp:Pan→List Obj→Prop}: @goH h vs ⟨sp,σ,d⟩ ⟨k,kp⟩=(aO4 h vs ⟨sp,σ,d⟩∧bAQ (sp.out d) (fun v h'=>bGG (tZ σ sp.m h.length h'.length) v=true∧k (emb (tZ σ sp.m h.length h'.length) v) (aGc σ sp.m h h')) (fun p h'=>kp p (aGc σ sp.m h h'))):=rfl
theorem bHc{o:Oper}{k:AV→List Obj→Prop}{kp:Pan→List Obj→Prop}:aLe E Δ sb env h o k kp=match bAT Δ h (aEj E.G env h o) with
  | some t=> @goH h (aYS (aEj E.G env h o)) t ⟨k,kp⟩
  | none=>match aU0 E.G env o with
   | some p=>kp p h
   | none=>match aU1 E sb env h o with
    | (p,v,h')=>p∧k v h':=propext (by rfl)
end
attribute [go_sem ↓] bJF bJG bJH bJI bJJ bHb bFp bHc bAR bAS
attribute [go_sem] aY0 qT fL bM9 bM8 bGS bLH
attribute [go_sem ↓] bGT bFl bGU bJB bJC bGV bFm bFn bGW bCJ
attribute [go_sem ↓] bJD bGX bGY bGZ bG0 bG1 bG2 bG3 bG4 bG5 bG6 bG7 bG8
attribute [go_sem ↓] bJE bG9 bHa bFo
attribute [go_sem] bJy first bA1 wT eU mA eq_self bGR
end Go.Vc
namespace Go.Vc
open Go.RowKit
section
variable {F:Fr} {K:Act→World→Prop} {env:St} {h:List Obj}
theorem bFq(i q:Nat)(e:TypeId)(m:Mk)(t:Ty){n:Nat}{vs:List AV}(ho:h[i]? = some (.box n (.agg vs)))(hq:vs[q]? = some .nilS)(hs1:vs.all AV.solid1=true)(hk:At F K env (h.set i (.box n (.agg (vs.set q (.own h.length))))++ [aH3 e m t []])):At F K env h:=fun c a w hs=>by
 have J:i<h.length:=yS ho;have hin:i<c.n:=by rw[hs.good.n]; exact J
 have z:mB w c.S (.sl t) (.sl e m) [] [.slice none 0 0] []:=⟨.slice none 0 0,[],[],rfl,World.ownsRow_nil w 0 e t.cells,rfl,rfl,rfl,fun i h=>by simp at h⟩;obtain⟨c',hl,I,hv⟩:=hs.good.taken [] (w':=w) rfl rfl rfl (Nat.le_refl _) (fun _ _ _=>rfl) z List.nodup_nil (fun b hb=>by cases hb) ⟨_,_,_,rfl⟩;have I:Good F.M F.w0 c' (h++ [aH3 e m t []]) w:=I;have g:(h++ [aH3 e m t []])[i]? = some (.box n (.agg vs)):=by grind
 obtain⟨b,cells,e',q1,q2,q3,q4⟩:=I.objs i _ g;simp only[aO] at q4;obtain⟨O,hqe⟩:=List.getElem?_eq_some_iff.1 hq;obtain⟨pre,ds,post,e1,hp,hd,L⟩:=aT6 q4 (fun v hv=>List.all_eq_true.1 hs1 v hv) O;have hfo:∀(vs:List AV) (q:Nat) (hq:q<vs.length),(eG (.agg vs) q).1=vs[q]:=by
  intro vs
  induction vs with
  | nil=>simp_all
  | cons v r ih=>intro q hq; cases q with
   | zero=>rfl
   | succ q=>simp only[eG,List.getElem_cons_succ]; exact ih q (by simpa using hq)
 rw[hfo vs q O,hqe] at hd;have hd:ds= [.slice none 0 0]:=hd;subst hd;have N:aO c' w (.own h.length) [.slice none 0 0]:=by
  obtain⟨hh,_⟩:=hv;exact hh
 have U:=L (.own h.length) _ N;rw[← e1] at U;have Z:=I.retell g (o':=.box n (.agg (vs.set q (.own h.length)))) (S':=c'.S) (B':=c'.bl i) (fun b hb=>.inl hb) (fun b hb=>hb) ⟨b,cells,e',q1,q2,q3,by
  have hle:c'.le ⟨c'.S,c'.hd,c'.n,fun j=>if j=i then c'.bl i else c'.bl j⟩:=⟨fun _ h=>h,Nat.le_refl _,fun _ _=>rfl⟩;have:aO c' w (.agg (vs.set q (.own h.length))) cells.toList:=by grind[aO]
  exact aO.keep hle (.refl _ _) _ _ this⟩ (fun b hb=>⟨hb,(I.own i _ b g hb).2.2⟩)
 obtain⟨c2,hl2,Y⟩:=Z;rw[List.set_append_left _ _ J] at Y;have f:=hl.trans hl2;exact hk c2 a w ⟨Y,hs.glob.mono f.le.S f.same,fun s=>f.val (hs.env s),hs.size,hs.defers⟩
theorem aVc{x:Code}{Q:Exit→Act→World→Prop}(i q:Nat)(e:TypeId)(m:Mk)(t:Ty){n:Nat}{vs:List AV}(I:h[i]? = some (.box n (.agg vs)))(hq:vs[q]? = some .nilS)(f:vs.all AV.solid1=true)(z:Tri F x Q env (h.set i (.box n (.agg (vs.set q (.own h.length))))++ [aH3 e m t []])):Tri F x Q env h:=fun g=>bFq i q e m t I hq f (z g)
end
end Go.Vc
namespace Go.Vc
open Go.RowKit
end Go.Vc
namespace Go.Vc
open Go.RowKit
def bitsOf(n:Nat)(done:List Nat):List Bool:=(List.range n).map fun i=>done.contains i
def bMw(F:Fr)(g:List Bool→St×List Obj)(downs:List (List Bool))(f:List Bool)(d:Option Nat)(env:St)(r:Prop×AV×List Obj):Prop:=match r with
 | (p,v,h')=>p∧f∈downs∧ ∃σ,nodupB σ=true∧preB F.M.m σ=true∧((g f).1.map fun q=>(q.1,ren σ (look (zQ d v env) q.1)))=(g f).1∧(σ.map fun j=>dT σ (h'.getD j .dead))=(g f).2
def stT(F:Fr)(ops:List Oper)(f:List Bool→St×List Obj)(downs:List (List Bool))(g:List Bool)(i:Nat):Prop :=
 match ops[i]? with
 | some o=>o.guard=none∧bMw F f downs (g.set i true) o.dst (f g).1 (aAR F.E (f g).1 (f g).2 o)
 | none=>False
inductive Dk where
 | v (t:Nat) (x:AV)
 | mk (t:Nat) (o:Obj)
 | cp (t j:Nat)
 | st (i:Nat) (o:Obj)
def bHd:List Dk→List Bool→Nat→Nat
 | _,_,0=>0
 | .mk _ _::r,true::bs,j+1=>bHd r bs j+1
 | _::r,_::bs,j+1=>bHd r bs j
 | _,_,_+1=>0
def bMx(ds:List Dk)(f:List Bool)(n i:Nat):Dk→Nat×AV
 | .v t x=>(t,x)
 | .mk t _=>(t,.own (n+bHd ds f i))
 | .cp t j=>(t,.own (n+bHd ds f j))
 | .st _ _=>(0,.junk)
def bHe(ds:List Dk)(f:List Bool)(n:Nat):List Dk→List Bool→Nat→St
 | _,[],_=>[]
 | [],_::_,_=>[]
 | .st _ _::r,true::b,i=>bHe ds f n r b (i+1)
 | d::r,true::b,i=>bMx ds f n i d::bHe ds f n r b (i+1)
 | _::r,false::b,i=>bHe ds f n r b (i+1)
def bJK:List Dk→List Bool→List Obj
 | .mk _ o::r,true::b=>o::bJK r b
 | _::r,_::b=>bJK r b
 | _,_=>[]
def bJL:List Dk→List Bool→List Obj→List Obj
 | .st i o::r,true::b,h=>bJL r b (h.set i o)
 | _::r,_::b,h=>bJL r b h
 | _,_,h=>h
def bNa(env:St)(h:List Obj)(ds:List Dk)(f:List Bool):St×List Obj:=(bHe ds f h.length ds f 0++env,bJL ds f h++bJK ds f)
def stL(F:Fr)(ops:List Oper)(f:List Bool→St×List Obj)(downs:List (List Bool))(g:List Bool):List Nat→Prop
 | []=>True
 | i::r=>stT F ops f downs g i∧stL F ops f downs g r
def stM(F:Fr)(ops:List Oper)(f:List Bool→St×List Obj)(downs:List (List Bool)):List (List Bool×List Nat)→Prop
 | []=>True
 | p::r=>stL F ops f downs p.1 p.2∧stM F ops f downs r
attribute [go_sem] stM stL stT bMw bNa bHe bMx bJK bJL bHd bitsOf
end Go.Vc
namespace Go.Vc
open Go.RowKit
def pk(b:Bool)(i:Nat):AV:=bif b then .nilP else .ptr i []
theorem bJM{σ:List Nat}{b:Bool}{i:Nat}:cX σ (pk b i)=match posOf i σ with
 | some j=>pk b j
 | none=>bif b then .nilP else .junk:=by
 cases b
 ·rfl
 ·show cX σ .nilP=_;simp only[cX];cases posOf i σ<;>rfl
theorem bJN{f:List Nat}{b:Bool}{i:Nat}:aS4 f (pk b i)=match f[i]? with
 | some j=>pk b j
 | none=>bif b then .nilP else .junk:=by
 cases b
 ·rfl
 ·show aS4 f .nilP=_;simp only[aS4];cases f[i]? <;> rfl
theorem bFr{b:Bool}{i:Nat}:AV.solid1 (pk b i)=true:=by cases b<;>rfl
theorem bLI{b:Bool}{i:Nat}:AV.nc1 (pk b i)=1:=by cases b<;>rfl
section
variable {F:Fr} {K:Act→World→Prop} {env:St} {h:List Obj}
theorem bLJ(i n:Nat)(e:TypeId)(ho:h[i]? = some (.box n (.agg [.nilP,.nilS])))(hk:At F K env (h.set i (.box n (.agg [pk true i,.own h.length]))++ [.row e (.u .u8) []])):At F K env h:=fun c a w hs=>by
 have e1:(c.push (.slice none 0 0)).hd c.n= .slice none 0 0:=by simp[Ctx.push]
 have z:i<h.length:=yS ho;obtain⟨g1,U⟩:=hs.good.push (.refl nothing w) (o:=.row e (.u .u8) []) (hv:=.slice none 0 0) (by
  show aCr _ _ _ _ _ _;rw[e1];exact⟨[],⟨by simp,.inl ⟨rfl,rfl⟩⟩,⟨rfl,[],rfl,rfl,fun i h=>by simp at h⟩⟩) (fun b hb=>by grind[fA,aU])
 have g:(h++ [Obj.row e (.u .u8) []])[i]? = some (.box n (.agg [.nilP,.nilS])):=by grind
 obtain⟨b,cells,e',J,Y,q3,L⟩:=g1.objs i _ g;have hcells:aO (c.push (.slice none 0 0)) w (.agg [pk true i,.own h.length]) cells.toList:=by
  simp only[aO] at L ⊢;obtain⟨c1,c2,hc,Z,c3,c4,I,h2,O⟩:=L;refine⟨c1,c2,hc,Z,c3,c4,I,?_,O⟩;simp only[aO] at h2 ⊢;rw[← hs.good.n];exact⟨Nat.lt_succ_self _,by grind,by rw[e1]; trivial⟩
 have q:fA (c.push (.slice none 0 0)) i (.box n (.agg [.nilP,.nilS])) b:=by simp[fA,J,aU]
 have f:=g1.modify (o':=.box n (.agg [pk true i,.own h.length])) g q (w':=w) rfl rfl rfl rfl (fun _ _=>rfl) ⟨b,cells,e',J,Y,q3,hcells⟩ (fun b' N=>by
  grind[fA,aU,Option.some.injEq])
 rw[List.set_append_left _ _ z] at f;exact hk _ a w ⟨f.1,hs.glob.mono (fun _ h=>h) (.refl _ _),fun t=>U.val (hs.env t),hs.size,hs.defers⟩
end
attribute [go_sem ↓] bJM bJN bFr bLI
end Go.Vc
namespace Go.Proofs
open Go Go.Shelf
section
variable {P:Program} {ρ:Ren}
theorem aNX(w:World)(r:Option Nat):w.grownBy w.drew r:=⟨rfl,rfl,rfl,Nat.le_refl _,fun _ _ _=>rfl⟩
theorem aY1(w:World)(g n:Nat):w.grownBy (w.drew.freeze ⟨g,0,none⟩ n) (some g):=by
 unfold World.freeze;split
 ·exact aNX w _
 ·refine⟨rfl,rfl,rfl,by simp,fun k q f=>?_⟩;show (w.drew.heap.modify g _)[k]? = _;rw[Array.getElem?_modify,if_neg (fun e=>f (by rw[e]))];rfl
theorem bCK(w:World)(o:Obj)(r:Option Nat):w.grownBy (w.drew.alloc o) r:=⟨rfl,rfl,rfl,by simp_all,fun k f _=>Lib.alloc_old w.drew o k f⟩
set_option maxHeartbeats 4000000 in
set_option maxRecDepth 100000 in
theorem bA2(L:Lays.n169 P ρ)(X:Builder.Extra P ρ)(b g cap:Nat)(p:Value)(q:Array Value)(l:List UInt8)(w:World)(h0:l≠ [])(z:w.heap[b]? = some (.cells #[p,.slice (some ⟨g,0,none⟩) l.length cap] (ρ.t 72) (0,0)))
  (hg:w.heap[g]? = some (.cells q (ρ.t 5) (0,0))) (hnc:l.length≤cap) (hcm:cap≤maxLen) (hcs:q.size=cap) (hcell:∀j x,l[j]? = some x→w.cell? ((⟨g,0,none⟩:Addr).add j)=some (.int .u8 x.toNat)) :
  Calls P (ρ.f 169) #[.pointer (some ⟨b,0,none⟩)] w fun e w'=>e= .returned (.string ⟨l.toArray⟩)∧w.grownBy w' (some g):=by
 have hl0:l.length≠0:=by simp_all
 have c1:w.drew.cell? ⟨b,1,none⟩=some (.slice (some ⟨g,0,none⟩) l.length cap):=by
  have:w.drew.heap[b]? = some (.cells #[p,.slice (some ⟨g,0,none⟩) l.length cap] (ρ.t 72) (0,0)):=z;rw[Lib.cell_of_heap this]; rfl
 have hSD:(Builtin.unsafeSliceData_ #[(ρ.t 37)] (ρ.t 127) #[.slice (some ⟨g,0,none⟩) l.length cap]).run P w.drew= .ok (.pointer (some ⟨g,0,none⟩)) w.drew :=
  Lib.run_unsafeSliceData_row _ _ _ _ _ _ (by omega)
 have hUS:(Builtin.unsafeString_ #[(ρ.t 127),(ρ.t 3)] (ρ.t 9) #[.pointer (some ⟨g,0,none⟩),.int .i64 l.length]).run P w.drew= .ok (.string ⟨l.toArray⟩) (w.drew.freeze ⟨g,0,none⟩ l.length):=by
  refine Lib.run_unsafeString_row w.drew (ρ.t 127) (ρ.t 3) (ρ.t 9) (ρ.t 5) L.t127 X.cellsByte g q.size (by have I:w.drew.heap[g]? = some (.cells q (ρ.t 5) (0,0)):=hg; simp[World.shape?,I]) l h0 (by omega) (by grind[maxLen]) ?_;exact hcell
 have mixed:=L.mixed;have t72:=L.t72; have a72:=L.a72; have Z:=L.z72; have v72:=L.v72; have u72:=run_underlying L.t72;have t70:=L.t70; have a70:=L.a70; have z70:=L.z70; have v70:=L.v70; have u70:=run_underlying L.t70;have t37:=L.t37; have a37:=L.a37; have z37:=L.z37; have v37:=L.v37; have u37:=run_underlying L.t37;have O:=L.t127; have Y:=L.a127; have U:=L.z127; have J:=L.v127; have N:=run_underlying L.t127;have t3:=L.t3; have a3:=L.a3; have z3:=L.z3; have v3:=L.v3; have u3:=run_underlying L.t3;have t9:=L.t9; have a9:=L.a9; have z9:=L.z9; have v9:=L.v9; have u9:=run_underlying L.t9;have t5:=X.t5; have a5:=X.a5; have z5:=X.z5; have v5:=X.v5; have u5:=run_underlying X.t5
 go_enter L.f169,Body.n169_ntmps ρ
 go_wp2
 go_region_o
 all_goals (go_wp2; go_ret; exact⟨rfl,aY1 w g _⟩)
set_option maxHeartbeats 4000000 in
set_option maxRecDepth 100000 in
theorem bCL(L:Lays.n169 P ρ)(X:Builder.Extra P ρ)(b:Nat)(p:Value)(w:World)(g:w.heap[b]? = some (.cells #[p,.slice none 0 0] (ρ.t 72) (0,0))) :
  Calls P (ρ.f 169) #[.pointer (some ⟨b,0,none⟩)] w fun e w'=>e= .returned (.string ⟨#[]⟩)∧w.grownBy w' none:=by
 have Y:=Any.unsafeString_none L X;have c1:w.drew.cell? ⟨b,1,none⟩=some (.slice none 0 0):=by
  have:w.drew.heap[b]? = some (.cells #[p,.slice none 0 0] (ρ.t 72) (0,0)):=g;rw[Lib.cell_of_heap this]; rfl
 have hSD:(Builtin.unsafeSliceData_ #[(ρ.t 37)] (ρ.t 127) #[.slice none 0 0]).run P w.drew= .ok (.pointer none) w.drew:=rfl;have mixed:=L.mixed;have t72:=L.t72; have a72:=L.a72; have O:=L.z72; have v72:=L.v72; have Z:=run_underlying L.t72;have t70:=L.t70; have a70:=L.a70; have z70:=L.z70; have v70:=L.v70; have u70:=run_underlying L.t70;have t37:=L.t37; have a37:=L.a37; have U:=L.z37; have v37:=L.v37; have u37:=run_underlying L.t37;have I:=L.t127; have N:=L.a127; have J:=L.z127; have q:=L.v127; have z:=run_underlying L.t127;have t3:=L.t3; have a3:=L.a3; have z3:=L.z3; have v3:=L.v3; have u3:=run_underlying L.t3;have t9:=L.t9; have a9:=L.a9; have z9:=L.z9; have v9:=L.v9; have u9:=run_underlying L.t9;have t5:=X.t5; have a5:=X.a5; have z5:=X.z5; have v5:=X.v5; have u5:=run_underlying X.t5
 go_enter L.f169,Body.n169_ntmps ρ
 go_wp2
 go_region_o
 all_goals (go_wp2; go_ret; exact⟨rfl,aNX w _⟩)
set_option maxHeartbeats 4000000 in
set_option maxRecDepth 100000 in
theorem aWM(L:Lays.n169 P ρ)(X:Builder.Extra P ρ)(b g:Nat)(p:Value)(q:Array Value)(w:World)(z:w.heap[b]? = some (.cells #[p,.slice (some ⟨g,0,none⟩) 0 0] (ρ.t 72) (0,0)))(hg:w.heap[g]? = some (.cells q (ρ.t 5) (0,0))) :
  Calls P (ρ.f 169) #[.pointer (some ⟨b,0,none⟩)] w fun e w'=>e= .returned (.string ⟨#[]⟩)∧w.grownBy w' none:=by
 have hUS:=Any.unsafeString_none L X;have I:b<w.heap.size:=(Array.getElem?_eq_some_iff.1 z).1;have c1:w.drew.cell? ⟨b,1,none⟩=some (.slice (some ⟨g,0,none⟩) 0 0):=by
  have:w.drew.heap[b]? = some (.cells #[p,.slice (some ⟨g,0,none⟩) 0 0] (ρ.t 72) (0,0)):=z;rw[Lib.cell_of_heap this]; rfl
 have hSD:(Builtin.unsafeSliceData_ #[(ρ.t 37)] (ρ.t 127) #[.slice (some ⟨g,0,none⟩) 0 0]).run P w.drew= .ok (.pointer (some ⟨w.drew.heap.size,0,none⟩)) (w.drew.alloc (.view ⟨g,0,none⟩ (ρ.t 5))) :=
  Lib.run_unsafeSliceData_zero w.drew _ _ (ρ.t 5) L.t127 ⟨g,0,none⟩ 0 ((ρ.t 5),q.size) (by have J:w.drew.heap[g]? = some (.cells q (ρ.t 5) (0,0)):=hg; simp[World.shape?,J])
 have c2:(w.drew.alloc (.view ⟨g,0,none⟩ (ρ.t 5))).cell? ⟨b,1,none⟩=some (.slice (some ⟨g,0,none⟩) 0 0):=by
  have:(w.drew.alloc (.view ⟨g,0,none⟩ (ρ.t 5))).heap[b]? = _:=(Lib.alloc_old w.drew _ b I).trans z;rw[Lib.cell_of_heap this]; rfl
 have c3:(w.alloc (.view ⟨g,0,none⟩ (ρ.t 5))).drew.cell? ⟨b,1,none⟩=some (.slice (some ⟨g,0,none⟩) 0 0):=c2;have c0:w.cell? ⟨b,1,none⟩=some (.slice (some ⟨g,0,none⟩) 0 0):=c1;have mixed:=L.mixed;have t72:=L.t72; have a72:=L.a72; have z72:=L.z72; have v72:=L.v72; have u72:=run_underlying L.t72;have t70:=L.t70; have a70:=L.a70; have z70:=L.z70; have v70:=L.v70; have u70:=run_underlying L.t70;have t37:=L.t37; have a37:=L.a37; have z37:=L.z37; have v37:=L.v37; have u37:=run_underlying L.t37;have U:=L.t127; have Z:=L.a127; have Y:=L.z127; have N:=L.v127; have O:=run_underlying L.t127;have t3:=L.t3; have a3:=L.a3; have z3:=L.z3; have v3:=L.v3; have u3:=run_underlying L.t3;have t9:=L.t9; have a9:=L.a9; have z9:=L.z9; have v9:=L.v9; have u9:=run_underlying L.t9;have t5:=X.t5; have a5:=X.a5; have z5:=X.z5; have v5:=X.v5; have u5:=run_underlying X.t5
 go_enter L.f169,Body.n169_ntmps ρ
 go_wp2
 go_region_o
 all_goals (go_wp2; go_ret; exact⟨rfl,bCK w _ _⟩)
set_option maxHeartbeats 4000000 in
set_option maxRecDepth 100000 in
theorem bA3(L:Lays.n169 P ρ)(X:Builder.Extra P ρ)(b g cap:Nat)(p:Value)(w:World)(q:cap≠0)(z:w.heap[b]? = some (.cells #[p,.slice (some ⟨g,0,none⟩) 0 cap] (ρ.t 72) (0,0))) :
  Calls P (ρ.f 169) #[.pointer (some ⟨b,0,none⟩)] w fun e w'=>e= .returned (.string ⟨#[]⟩)∧w.grownBy w' none:=by
 have hUS:=Any.unsafeString_none L X;have c1:w.drew.cell? ⟨b,1,none⟩=some (.slice (some ⟨g,0,none⟩) 0 cap):=by
  have:w.drew.heap[b]? = some (.cells #[p,.slice (some ⟨g,0,none⟩) 0 cap] (ρ.t 72) (0,0)):=z;rw[Lib.cell_of_heap this]; rfl
 have hSD:(Builtin.unsafeSliceData_ #[(ρ.t 37)] (ρ.t 127) #[.slice (some ⟨g,0,none⟩) 0 cap]).run P w.drew= .ok (.pointer (some ⟨g,0,none⟩)) w.drew :=
  Lib.run_unsafeSliceData_row _ _ _ _ _ _ q
 clear q;have mixed:=L.mixed;have t72:=L.t72; have a72:=L.a72; have Y:=L.z72; have v72:=L.v72; have u72:=run_underlying L.t72;have t70:=L.t70; have a70:=L.a70; have z70:=L.z70; have v70:=L.v70; have u70:=run_underlying L.t70;have t37:=L.t37; have a37:=L.a37; have Z:=L.z37; have v37:=L.v37; have u37:=run_underlying L.t37;have N:=L.t127; have U:=L.a127; have O:=L.z127; have I:=L.v127; have J:=run_underlying L.t127;have t3:=L.t3; have a3:=L.a3; have z3:=L.z3; have v3:=L.v3; have u3:=run_underlying L.t3;have t9:=L.t9; have a9:=L.a9; have z9:=L.z9; have v9:=L.v9; have u9:=run_underlying L.t9;have t5:=X.t5; have a5:=X.a5; have z5:=X.z5; have v5:=X.v5; have u5:=run_underlying X.t5
 go_enter L.f169,Body.n169_ntmps ρ
 go_wp2
 go_region_o
 all_goals (go_wp2; go_ret; exact⟨rfl,aNX w _⟩)
end
end Go.Proofs
namespace Go.Vc
open Go.RowKit
section
variable {M:Perm} {w0:World} {c:Ctx} {h:List Obj} {w:World}
def bHf(b:Bool)(B:Nat):Value:=bif b then .pointer none else .pointer (some ⟨B,0,none⟩)
theorem aVd(z:Good M w0 c h w){tb e:TypeId}{b:Bool}{i j:Nat}{xs:List Nat}(hi:h[i]? = some (.box (4294967296+tb) (.agg [pk b i,.own j])))(hj:h[j]? = some (.row e (.u .u8) xs)) :
  ∃B,c.hd i= .pointer (some ⟨B,0,none⟩)∧w.heap[B]? = some (.cells #[bHf b B,c.hd j] tb (0,0))∧aCr c w e (.u .u8) xs (c.hd j):=by
 obtain⟨B,cells,e',O,q2,q,L⟩:=z.objs i _ hi;have hr:aCr c w e (.u .u8) xs (c.hd j):=z.objs j _ hj;simp only[aO] at L;obtain⟨c1,U,hc,f,c3,c4,Z,Y,I⟩:=L;have I:c4= []:=I;simp only[aO] at Y;have e2:U= [c.hd j]:=by simp_all
 have e1:c1= [bHf b B]:=by
  cases b with
  | true=>exact f
  | false =>
   have f:aO c w (.ptr i []) c1:=f;simp only[aO] at f;obtain⟨_,B',J,g⟩:=f;rw[O] at J;cases J;exact g
 have N:cells= #[bHf b B,c.hd j]:=by
  grind
 subst N;have et:tb=e':=by
  rcases q with q|⟨_,q⟩
  all_goals grind
 simp_all
theorem bHg(z:Good M w0 c h w){tb e:TypeId}{b:Bool}{i j:Nat}{xs:List Nat}(hi:h[i]? = some (.box (4294967296+tb) (.agg [pk b i,.own j])))(O:h[j]? = some (.row e (.u .u8) xs)){B:Nat}(q:c.hd i= .pointer (some ⟨B,0,none⟩)) :
  Good M w0 c (h.set i (.box (4294967296+tb) (.agg [pk false i,.own j]))) (w.setCell ⟨B,0,none⟩ (.pointer (some ⟨B,0,none⟩))):=by
 obtain⟨B',q1,q2,q3⟩:=aVd z hi O;rw[q] at q1;obtain rfl:B=B':=by simp_all
 have I:fA c i (.box (4294967296+tb) (.agg [pk b i,.own j])) B:=by simp[fA,q,aU]
 have hheap:(w.setCell ⟨B,0,none⟩ (.pointer (some ⟨B,0,none⟩))).heap[B]? = some (.cells #[.pointer (some ⟨B,0,none⟩),c.hd j] tb (0,0)):=by
  simp[World.setCell,Array.getElem?_modify,q2]
 have J:=yS O;have L:=yS hi;have f:one (c.hd j):=by
  obtain⟨U,g,_⟩:=q3;obtain⟨a,n,m,N⟩:=kC g;rw[N]; trivial
 exact(z.modify (o':=.box (4294967296+tb) (.agg [pk false i,.own j])) hi I (w':=w.setCell ⟨B,0,none⟩ (.pointer (some ⟨B,0,none⟩))) rfl rfl rfl (by simp_all) (fun k hk=>by simp[World.setCell,Array.getElem?_modify,Ne.symm hk])
  ⟨B,_,tb,q,hheap,.inr ⟨rfl,rfl⟩,by
   have Z:nD c (w.setCell ⟨B,0,none⟩ (.pointer (some ⟨B,0,none⟩))) [pk false i,.own j] [.pointer (some ⟨B,0,none⟩),c.hd j]:=?_
   ·grind[aO]
   refine⟨[.pointer (some ⟨B,0,none⟩)],[c.hd j],rfl,?_,[c.hd j],[],rfl,?_,rfl⟩
   ·show aO c _ (.ptr i []) _;simp only[aO];refine⟨by rw[z.n]; exact L,B,by rw[q]; rfl,?_⟩;rfl
   ·simp only[aO];refine⟨by rw[z.n]; exact J,?_,f⟩;simp_all⟩ (fun b' Y=>by grind[fA,aU,Option.some.injEq])).1
theorem bFs{e:TypeId}{xs:List Nat}{v:Value}(h:aCr c w e (.u .u8) xs v):∃l:List UInt8,xs=l.map (·.toNat)∧((v= .slice none 0 0∧l= [])∨ ∃g cap z,v= .slice (some ⟨g,0,none⟩) l.length cap∧w.heap[g]? = some (.cells z e (0,0))∧l.length≤cap∧cap≤maxLen∧z.size=cap∧ ∀j x,l[j]? = some x→w.cell? ((⟨g,0,none⟩:Addr).add j)=some (.int .u8 x.toNat)):=by
 obtain⟨N,I,hl,f,hc,hcl,hr⟩:=h;have J:∀i (h:i<xs.length) (h':i<f.length),f[i]= [Value.int .u8 (xs[i]:Int)]∧xs[i]<256:=fun i h h'=>by
  obtain⟨U,_,h3⟩:=hr i h h';grind[IntKind.max,IntKind.signed,IntKind.bits]
 refine⟨xs.map UInt8.ofNat,?_,?_⟩
 ·rw[List.map_map];apply List.ext_getElem
  ·simp
  ·intro i U h2;have:=(J i U (by omega)).2;simp only[List.getElem_map,Function.comp];rw[UInt8.toNat_ofNat'];omega
 ·have Z:(xs.map UInt8.ofNat).length=xs.length:=by simp
  rcases I.2 with⟨U,h2⟩|⟨g,cap,z,hv,hbg,hg,hnc,Y,hcs,htake⟩
  ·simp_all
  ·right
   refine⟨g,cap,z,by simp_all,hg,by omega,Y,by grind[Ty.cells],fun j x hx=>?_⟩;have hj:j<xs.length:=by
    grind
   have L:j<f.length:=(by omega);have hx':x=UInt8.ofNat xs[j]:=by
    simp_all
   have hk:=J j hj L;have O:N[j]? = some (.int .u8 (xs[j]:Int)):=by
    obtain⟨pre,post,hf,hpl⟩:=oT (t:=.u .u8) (css:=f) (fun q hq=>bB.length _ _ _ (hr q (by omega) hq)) j L;simp_all[List.append_assoc,List.getElem?_append_right,Ty.cells]
   subst hv;have:=I.cells (g:=g) rfl j _ O;grind[UInt8.toNat_ofNat',Nat.mod_eq_of_lt]
theorem bHh(z:Good M w0 c h w){i j:Nat}(hm:M.m=1)(hi:i=0){U I:Obj}(Y:h= [U,I]){w':World}{g:Option Nat}(f:w.grownBy w' g)(J:∀b,g=some b→fA c 1 I b) :
  Good M w0 ⟨c.S,c.hd,1,c.bl⟩ [.dead] w':=by
 subst Y;refine⟨rfl,⟨f.os.trans z.keeps.os,f.tape.trans z.keeps.tape,f.output.trans z.keeps.output,Nat.le_trans z.keeps.size f.size,fun b hb O=>?_⟩,fun b hb=>Nat.lt_of_lt_of_le (z.sfin b hb) f.size,z.src,fun k o q=>?_,fun k o b q hb=>?_,fun k l ok ol b L hl N Z=>?_,⟨by simp_all,fun k L=>z.root.2 k L⟩⟩
 ·rw[f.block b (Nat.lt_of_lt_of_le hb z.keeps.size) (fun e=>?_)]
  ·exact z.keeps.block b hb O
  ·have:=z.own 1 I b rfl (J b e.symm);grind
 ·match k,q with
  | 0,q=>cases q; trivial
  | k+1,q=>cases q
 ·match k,q with
  | 0,q=>cases q; cases hb
  | k+1,q=>cases q
 grind
end
end Go.Vc
namespace Go.Vc
def bJO:AV→Bool
 | .nilP=>true
 | _=>false
theorem bJP{b:Bool}{i:Nat}:bJO (pk b i)=b:=by cases b<;>rfl
theorem bHi:bJO .nilP=true:=rfl
theorem bHj{i:Nat}{p:List Step}:bJO (.ptr i p)=false:=rfl
def bFt(h:List Obj)(i j:Nat):Nat:=match h.getD i .dead with
 | .box _ (.agg l)=>match l.getD j .junk with
  | .own k=>k
  | _=>0
 | _=>0
def aO5(h:List Obj)(i:Nat):Bool×List Nat:=(match h.getD i .dead with
 | .box _ (.agg l)=>bJO (l.getD 0 .junk)
 | _=>true,match h.getD (bFt h i 1) .dead with
 | .row _ (.u .u8) f=>f
 | _=>[])
attribute [go_sem] bJP bHi bHj bFt aO5
end Go.Vc
namespace Go.Vc
open Go.RowKit
def aEl(ops:List Oper)(a b:Nat):Bool:=match ops[a]? with
 | some o=>o.after.toList.any fun e=>Region.binds .any e&&e.on == b
 | none=>false
def aGg(ops:List Oper)(i:Nat):Option Nat:=match ops[i]? with
 | some o=>o.dst
 | none=>none
def okK(ops:List Oper)(f:List Nat)(i k:Nat):Bool:=(List.range f.length).all fun m=>bif m<k then !aEl ops (f.getD m 0) i&& !(f.getD m 0 == i) else !aEl ops i (f.getD m 0)
def bHk(ops:List Oper)(f:List Nat):Bool:=(List.range f.length).all fun m=>m == 0||aEl ops (f.getD m 0) (f.getD (m-1) 0)
def bMy(ops:List Oper)(us:List (List Nat)):Bool:=(List.range ops.length).all fun j=>(us.getD j []).all fun u=>(List.range ops.length).all fun i=> !(aGg ops i == some u)||aEl ops j i
def bMz(ops:List Oper):Bool:=(List.range ops.length).all fun i=>(List.range ops.length).all fun j=>i == j||(aGg ops i).isNone|| !(aGg ops i == aGg ops j)
def aNY(ops:List Oper)(xs:List AV)(env:St)(t:Nat):AV:=match (List.range ops.length).find? fun i=>aGg ops i == some t with
 | some i=>xs.getD i .junk
 | none=>look env t
def stW(F:Fr)(ops:List Oper)(f:List St)(xs:List AV)(hs:List (List Obj))(g:List Nat)(i k:Nat):Prop :=
 match ops[i]? with
 | some o=>o.guard=none∧match aAR F.E (f.getD i []) (hs.getD k []) o with
  | (p,v,h')=>p∧v=xs.getD i .junk∧h'=hs.getD (bif g.contains i then k+1 else k) []
 | none=>False
def bJQ(F:Fr)(ops:List Oper)(f:List St)(xs:List AV)(hs:List (List Obj))(g:List Nat):List (Nat×Nat)→Prop
 | []=>True
 | p::r=>stW F ops f xs hs g p.1 p.2∧bJQ F ops f xs hs g r
theorem bA4{F:Fr}{ops:List Oper}{f:List St}{xs:List AV}{hs:List (List Obj)}{g:List Nat}:∀ {l:List (Nat×Nat)},bJQ F ops f xs hs g l→ ∀p∈l,stW F ops f xs hs g p.1 p.2
 | p::r,h,q,hq=>by
  rcases List.mem_cons.1 hq with rfl|hq
  ·exact h.1
  ·exact bA4 h.2 q hq
structure bCM(ops:List Oper)(eff:List Nat)(us:List (List Nat)):Prop where
 back:bAY ops=true
 chain:∀m,m<eff.length→m≠0→aEl ops (eff.getD m 0) (eff.getD (m-1) 0)=true
 effn:eff.Nodup
 effl:∀m,m<eff.length→eff.getD m 0<ops.length
 use:∀j,j<ops.length→ ∀u∈us.getD j [],∀i,i<ops.length→aGg ops i=some u→aEl ops j i=true
 dst:∀i j t,i<ops.length→j<ops.length→aGg ops i=some t→aGg ops j=some t→i=j
theorem bJR{ops:List Oper}{f:List Nat}{us:List (List Nat)}(hc:bCM ops f us){xs:List AV}{env:St}{t i:Nat}(hi:i<ops.length)(hd:aGg ops i=some t):aNY ops xs env t=xs.getD i .junk:=by
 unfold aNY;cases g:(List.range ops.length).find? fun i=>aGg ops i == some t with
 | none =>
  simp_all
 | some k =>
  have z:=List.find?_some g;have q:=List.mem_range.1 (List.mem_of_find?_eq_some g);obtain rfl:=hc.dst k i t q hi (by simp_all) hd;rfl
theorem bJS{ops:List Oper}{xs:List AV}{env:St}{t:Nat}(h:∀i,i<ops.length→aGg ops i≠some t):aNY ops xs env t=look env t:=by
 unfold aNY;grind
structure aO6(ops:List Oper)(eff:List Nat)(xs:List AV)(env0:St)(done:List Nat)(k:Nat)(env:St):Prop where
 kle:k≤eff.length
 kd:∀m,m<eff.length→(eff.getD m 0∈done↔m<k)
 cl:∀i∈done,∀b,aEl ops i b=true→b∈done
 hit:∀i∈done,∀t,aGg ops i=some t→look env t=xs.getD i .junk
 miss:∀t,(∀i∈done,aGg ops i≠some t)→look env t=look env0 t
theorem aO6.val{ops:List Oper}{q:List Nat}{us:List (List Nat)}(hc:bCM ops q us){xs:List AV}{f env:St}{done:List Nat}{k:Nat}(hv:aO6 ops q xs f done k env)(t:Nat)(h:∀i,i<ops.length→aGg ops i=some t→i∈done):aNY ops xs f t=look env t:=by
 by_cases g:∃i,i<ops.length∧aGg ops i=some t
 ·obtain⟨i,hi,hd⟩:=g;rw[bJR hc hi hd,hv.hit i (h i hi hd) t hd]
 ·have z:∀i,i<ops.length→aGg ops i≠some t:=fun i hi hd=>g ⟨i,hi,hd⟩;rw[bJS z,hv.miss t fun i _ hd=>?_];grind[Nat.lt_or_ge,aGg,List.getElem?_eq_none]
theorem aDE{ops:List Oper}{done:List Nat}{j:Nat}(f:j∈aGe ops done):∀b,aEl ops j b=true→b∈done:=fun b hb=>by
 simp only[aGe,List.mem_filter,List.mem_range,Bool.and_eq_true] at f;obtain⟨z,q,g⟩:=f;unfold aEl at hb;grind
theorem bA5{l:List Nat}{x:Nat}(h:x∈l):∃m,m<l.length∧l.getD m 0=x:=by
 obtain⟨m,hm,rfl⟩:=List.getElem_of_mem h;exact⟨m,hm,by simp_all⟩
theorem aO6.okk{ops:List Oper}{f:List Nat}{us:List (List Nat)}{xs:List AV}{q env:St}{done:List Nat}{k j:Nat}(hv:aO6 ops f xs q done k env)(z:j∈aGe ops done)(g:j∉done):okK ops f j k=true:=by
 simp only[okK,List.all_eq_true,List.mem_range];intro m hm;by_cases h:m<k
 ·rw[decide_eq_true h];simp only[cond_true,Bool.and_eq_true,Bool.not_eq_true',beq_eq_false_iff_ne,ne_eq];refine⟨?_,fun e=>g (e▸(hv.kd m hm).2 h)⟩;cases hb:aEl ops (f.getD m 0) j with
  | false=>rfl
  | true=>exact absurd (hv.cl _ ((hv.kd m hm).2 h) j hb) g
 ·rw[decide_eq_false h];simp only[cond_false,Bool.not_eq_true'];cases hb:aEl ops j (f.getD m 0) with
  | false=>rfl
  | true=>exact absurd ((hv.kd m hm).1 (aDE z _ hb)) h
theorem aX4{d:Option Nat}{v:AV}{env:St}{t:Nat}:look (zQ d v env) t=if d=some t then v else look env t:=by
 cases d with
 | none=>rfl
 | some d =>
  simp only[zQ,look,Option.some.injEq]
theorem aO6.step{ops:List Oper}{f:List Nat}{us:List (List Nat)}(hc:bCM ops f us){xs:List AV}{g env:St}{done:List Nat}{k j:Nat}(hv:aO6 ops f xs g done k env)(L:j∈aGe ops done)(q:j∉done)(J:j<ops.length)(I:∀i∈done,i<ops.length) :
  aO6 ops f xs g (j::done) (bif f.contains j then k+1 else k) (zQ (aGg ops j) (xs.getD j .junk) env):=by
 have z:∀m,m<f.length→f.getD m 0=j→m=k:=fun m hm e=>by
  have Y:¬m<k:=fun h=>q (e▸(hv.kd m hm).2 h);rcases Nat.eq_zero_or_pos m with h0|h0
  ·omega
  ·have:=aDE L _ (by rw[← e]; exact hc.chain m hm (by omega));have:=(hv.kd (m-1) (by omega)).1 this;omega
 refine⟨?_,fun m hm=>?_,fun i hi b hb=>?_,fun i hi t ht=>?_,fun t ht=>?_⟩
 ·cases hb:f.contains j with
  | false=>exact hv.kle
  | true =>
   grind[bA5,List.contains_iff_mem]
 ·cases hb:f.contains j with
  | false =>
   have O:f.getD m 0≠j:=fun e=>by
    grind
   show _↔m<k;rw[← hv.kd m hm];simp_all
  | true =>
   obtain⟨n,N,e⟩:=bA5 (List.contains_iff_mem.1 hb);have U:=z n N e;show _↔m<k+1;constructor
   ·intro h;rcases List.mem_cons.1 h with h|h
    ·simp_all
    ·have:=(hv.kd m hm).1 h; omega
   ·intro h;rcases Nat.lt_or_ge m k with h'|h'
    ·exact List.mem_cons_of_mem _ ((hv.kd m hm).2 h')
    grind
 ·rcases List.mem_cons.1 hi with rfl|hi
  ·exact List.mem_cons_of_mem _ (aDE L b hb)
  ·exact List.mem_cons_of_mem _ (hv.cl i hi b hb)
 ·rw[aX4];rcases List.mem_cons.1 hi with rfl|hi
  ·simp_all
  ·by_cases e:aGg ops j=some t
   ·exact absurd (hc.dst i j t (I i hi) J ht e) (fun e=>q (e▸hi))
   ·rw[if_neg e]; exact hv.hit i hi t ht
 ·rw[aX4,if_neg (ht j List.mem_cons_self)];exact hv.miss t fun i hi=>ht i (List.mem_cons_of_mem _ hi)
theorem bEk{F:Fr}{Q:Exit→Act→World→Prop}(hF:uP F){ops:List Oper}{f:List Nat}{us:List (List Nat)}(hc:bCM ops f us)(hok:∀o∈ops,iG F.nt o=true)(xs:List AV)(g:St)(hs:List (List Obj))(q:List St)
  (hue:∀j,j<ops.length→q.getD j []=(us.getD j []).map fun t=>(t,aNY ops xs g t)) (hst:∀i k,i<ops.length→k≤f.length→okK ops f i k=true→stW F ops q xs hs f i k)
  (keep:List Nat) (hK:At F (Q .normal) (keep.map fun t=>(t,aNY ops xs g t)) (hs.getD f.length [])) :
  ∀(n:Nat) (done:List Nat) (listed:Array Bool),listed.size=ops.length→(∀k,k<ops.length→(listed.getD k false=true↔k∈done))→done.length+n=ops.length→done.Nodup→(∀k∈done,k<ops.length)→ ∀(k:Nat) (env:St),aO6 ops f xs g done k env→ ∀(c:Ctx) (a:Act) (w:World),Sim F.E F.M F.w0 F.nt F.ds c env (hs.getD k []) a w→wpAny F.P .any ops.toArray Q n listed a w
 | 0,done,listed,hsz,hl,hn,hd,Y,k,env,hv,c,a,w,z=>by
  have L:∀j,j<ops.length→j∈done:=fun j U=>(aI5 hd (m:=List.range ops.length) (fun k I=>List.mem_range.2 (Y k I))).2 (by grind) j (List.mem_range.2 U);refine⟨?_,?_⟩
  ·rw[List.eq_nil_iff_forall_not_mem];grind[mem_ready,lV.get_lt']
  ·have I:k=f.length:=by
    rcases Nat.lt_or_ge k f.length with h|h
    ·have:=(hv.kd k h).1 (L _ (hc.effl k h)); omega
    ·have:=hv.kle; omega
   subst I;refine hK c a w ?_;have e:(keep.map fun t=>(t,aNY ops xs g t))=keep.map fun t=>(t,look env t):=by
    grind[List.map_congr_left,aO6.val]
   rw[e];exact z.keep keep
 | n+1,done,listed,hsz,hl,hn,hd,Y,k,env,hv,c,a,w,z=>by
  have hrd:∀j,j∈Region.ready .any ops.toArray listed→j∈aGe ops done∧j∉done∧j<ops.length:=fun j hj=>by
   obtain⟨h1,o,ho,hall⟩:=mem_ready.1 hj;have ho:ops[j]? = some o:=(by simp_all);have U:=lV.get_lt' ho;have hlt':j<listed.size:=(by omega);have hnd:j∉done:=fun hm=>by
    grind
   refine⟨?_,hnd,U⟩;simp only[aGe,List.mem_filter,List.mem_range,ho,Bool.and_eq_true,Bool.not_eq_true',List.contains_eq_mem,decide_eq_false_iff_not,List.all_eq_true,Bool.or_eq_true,decide_eq_true_eq];grind
  refine⟨fun hr=>?_,fun j hj=>?_⟩
  ·exfalso;have Z:∃k,(k<ops.length∧k∉done)∧ ∀j,j<k→ ¬(j<ops.length∧j∉done):=by
    have Z:∃k,k<ops.length∧k∉done:=by
     apply Classical.byContradiction;intro hc;have L:List.range ops.length ⊆ done:=fun k I=>Classical.byContradiction fun hk2=>hc ⟨k,List.mem_range.1 I,hk2⟩;have:=(aI5 (List.nodup_range (n:=ops.length)) (fun k I=>L I)).1;grind
    obtain⟨n,h1,h2⟩:=aH5 Z;grind
   obtain⟨k,⟨I,hkd⟩,hlow⟩:=Z;have hmem:k∈Region.ready .any ops.toArray listed:=by
    rw[mem_ready];have hlt':k<listed.size:=(by omega);have hun:¬listed.getD k false=true:=fun h=>hkd ((hl k I).1 h);refine⟨by grind,ops[k],by simp[I],fun e he hbe=>?_⟩;have hbk:=List.all_eq_true.1 hc.back (ops[k],k) (by grind);grind
   simp_all
  ·obtain⟨r1,r2,r3⟩:=hrd j hj;have J:=hst j k r3 hv.kle (hv.okk (us:=us) r1 r2);have hjo:ops[j]? = some ops[j]:=List.getElem?_eq_getElem r3;have hdo:aGg ops j=ops[j].dst:=(by simp[aGg,hjo]);unfold stW at J;rw[hjo] at J;obtain⟨hg,J⟩:=J;have hs2:(aAR F.E (q.getD j []) (hs.getD k []) ops[j]).1∧(aAR F.E (q.getD j []) (hs.getD k []) ops[j]).2.1=xs.getD j .junk∧(aAR F.E (q.getD j []) (hs.getD k []) ops[j]).2.2=hs.getD (bif f.contains j then k+1 else k) []:=J;obtain⟨hp,hx,hh⟩:=hs2;have O:=hok ops[j] (List.getElem_mem r3);have hw:Region.wanted ops[j] (yielded ops.toArray a.tmps)=true:=(by simp[Region.wanted,hg]);have eu:q.getD j []=(us.getD j []).map fun t=>(t,look env t):=by
    rw[hue j r3];refine List.map_congr_left fun t ht=>?_;rw[aO6.val hc hv t (fun i hi hdi=>aDE r1 i (hc.use j r3 t ht i hi hdi))]
   have hsimU:=z.keep (us.getD j []);rw[← eu] at hsimU;unfold wpOp;simp only[List.getElem?_toArray,hjo];rw[if_pos hw]
   left
   refine(aMx hF.env hsimU O hp).wp fun v w' c' ha=>?_;have N:=z.after O ha;rw[hx,hh] at N;have hv':=hv.step hc r1 r2 r3 Y;rw[hdo] at hv';refine bEk hF hc hok xs g hs q hue hst keep hK n (j::done) (listed.setIfInBounds j true) (by grind) (fun k I=>?_) (by grind) (List.nodup_cons.2 ⟨r2,hd⟩) (fun k I=>?_) _ _ hv' c' _ w' N
   ·by_cases e:j=k
    ·simp_all
    ·rw[getD_set_ne false e,hl k I];grind
   grind
def bLK(ops:List Oper)(f:List Nat)(us:List (List Nat))(g:List (Nat×Nat)):Bool :=
 bAY ops&&bHk ops f&&nodupB f&&bMy ops us&&bMz ops&&f.all (fun e=>decide (e<ops.length))&&(List.range ops.length).all fun i=>(List.range (f.length+1)).all fun k=> !okK ops f i k||g.contains (i,k)
theorem bJT{ops:List Oper}{f:List Nat}{us:List (List Nat)}{q:List (Nat×Nat)}(h:bLK ops f us q=true):bCM ops f us∧ ∀i k,i<ops.length→k≤f.length→okK ops f i k=true→(i,k)∈q:=by
 simp only[bLK,Bool.and_eq_true] at h;obtain⟨⟨⟨⟨⟨⟨z,O⟩,N⟩,U⟩,I⟩,h6⟩,J⟩:=h;refine⟨⟨z,fun m hm h0=>?_,aUa N,fun m hm=>?_,fun j g u L i hi hd=>?_,fun i j t hi g hd Y=>?_⟩,fun i k hi Z ho=>?_⟩
 ·have:=List.all_eq_true.1 O m (List.mem_range.2 hm);simp_all
 ·simp_all
 ·have:=List.all_eq_true.1 (List.all_eq_true.1 (List.all_eq_true.1 U j (List.mem_range.2 g)) u L) i (List.mem_range.2 hi);simp_all
 ·have:=List.all_eq_true.1 (List.all_eq_true.1 I i (List.mem_range.2 hi)) j (List.mem_range.2 g);simp_all
 ·have:=List.all_eq_true.1 (List.all_eq_true.1 J i (List.mem_range.2 hi)) k (List.mem_range.2 (by omega));simp_all
theorem aG6{F:Fr}{Q:Exit→Act→World→Prop}{env:St}{h:List Obj}(hF:uP F){id:Nat}{ops:Array Oper}(keep:List Nat)(z:List Nat)(us:List (List Nat))(O:List (Nat×Nat))(xs:List AV)(hs:List (List Obj))(q:List St)
  (hb:bLK ops.toList z us O=true) (U:(List.range ops.toList.length).map (fun j=>(us.getD j []).map fun t=>(t,aNY ops.toList xs env t))=q) (h0:hs.getD 0 []=h)
  (L:bJQ F ops.toList q xs hs z O) (I:At F (Q .normal) (keep.map fun t=>(t,aNY ops.toList xs env t)) (hs.getD z.length [])):Tri F (.region id ops true) Q env h:=fun J c a w f=>by
 simp only[iT,Bool.and_eq_true,Bool.or_eq_true,Bool.not_eq_true'] at J;obtain⟨⟨Z,h2⟩,h3⟩:=J;obtain⟨hc,hp⟩:=bJT hb;refine wp_region_any hF.mix ?_;have g:eI c w c { w with drawn:=w.drawn+1 }:=⟨.refl _,fun b hb=>rfl⟩;have N:Sim F.E F.M F.w0 F.nt F.ds c env h a { w with drawn:=w.drawn+1 } :=
  ⟨f.good.step g rfl rfl ⟨rfl,rfl,rfl,Nat.le_refl _,fun _ _ _=>rfl⟩ (fun _ _ _ _ _=>rfl) f.good.sfin (fun _ hb=>.inl hb),uD.mono (w:=w) (w':={ w with drawn:=w.drawn+1 }) (fun _ hb=>hb) g.same f.glob,f.env.keep g,f.size,f.defers⟩
 have:=bEk (Q:=Q) hF hc (List.all_eq_true.1 Z) xs env hs q (fun j hj=>by grind) (fun i k hi I Y=>bA4 L (i,k) (hp i k hi I Y)) keep I ops.toList.length [] (Array.replicate ops.size false) (by simp) (fun k I=>by simp_all) (by simp) List.nodup_nil (fun k I=>by cases I) 0 env
  ⟨Nat.zero_le _,fun m hm=>by simp,fun i hi=>(by cases hi),fun i hi=>(by cases hi),fun t _=>rfl⟩ c a _ (by rw[h0]; exact N)
 omega
attribute [go_sem] bJQ stW
end Go.Vc
namespace Go.Vc
open Go.RowKit
def Ret(h h':List Obj):Prop:=∀(M:Perm) (w0:World) (c:Ctx) (w:World),Good M w0 c h w→ ∃c',eI c w c' w∧Good M w0 c' h' w
theorem aH{h:List Obj}:Ret h h:=fun M w0 c w f=>⟨c,.refl _ _,f⟩
theorem aQ0{a b d:List Obj}(I:Ret a b)(z:Ret b d):Ret a d:=fun M w0 c w g=>by
 obtain⟨c1,f,g1⟩:=I M w0 c w g;obtain⟨q,l2,J⟩:=z M w0 c1 w g1;exact⟨q,f.trans l2,J⟩
section
variable {P:Program} {E:Env} {M:Perm} {w0:World} {nt:Nat} {ds:List Deferred}
theorem Sim.ret{c:Ctx}{env:St}{h h':List Obj}{a:Act}{w:World}(hs:Sim E M w0 nt ds c env h a w)(q:Ret h h'):∃c',Sim E M w0 nt ds c' env h' a w:=by
 obtain⟨c',f,g⟩:=q _ _ _ _ hs.good;exact⟨c',g,hs.glob.mono f.le.S f.same,fun s=>f.val (hs.env s),hs.size,hs.defers⟩
end
end Go.Vc
namespace Go.Vc
open Go.RowKit
section
variable {h:List Obj}
theorem aJ(i:Nat){n:Nat}{v:AV}{h':List Obj}(q:h[i]? = some (.box n v))(J:Ret (h.set i (.box n .junk)) h'):Ret h h' :=
 aQ0 (fun M w0 c w g=>by
  refine g.retell q (o':=.box n .junk) (S':=c.S) (B':=c.bl i) (fun b hb=>.inl hb) (fun b hb=>hb) ?_ (fun b hb=>?_)
  ·obtain⟨b,cells,e,L,I,z,N⟩:=g.objs i _ q;exact⟨b,cells,e,L,I,z,trivial⟩
  ·have hb:aU (c.hd i)=some b:=hb;have f:fA c i (.box n v) b:=hb;exact⟨f,(g.own i _ b q f).2.2⟩) J
theorem nH(i:Nat){o:Obj}{h':List Obj}(q:h[i]? = some o)(g:Ret (h.set i .dead) h'):Ret h h' :=
 aQ0 (fun M w0 c w f=>by
  refine f.retell q (o':=.dead) (S':=c.S) (B':=c.bl i) (fun b hb=>.inl hb) (fun b hb=>hb) trivial (fun b hb=>?_);exact False.elim hb) g
theorem bJU(i:Nat){n:Nat}{v:AV}{t:Ty}(x:t.den){h':List Obj}(q:h[i]? = some (.box n v))(z:AV.as (h.map fX) t v=some x)(L:Ret (h.set i (.box n (.val t x))) h'):Ret h h' :=
 aQ0 (fun M w0 c w g=>by
  refine g.retell q (o':=.box n (.val t x)) (S':=c.S) (B':=c.bl i) (fun b hb=>.inl hb) (fun b hb=>hb) ?_ (fun b hb=>?_)
  ·obtain⟨b,cells,e,N,J,I,O⟩:=g.objs i _ q;exact⟨b,cells,e,N,J,I,bCC g z O⟩
  ·have hb:aU (c.hd i)=some b:=hb;have f:fA c i (.box n v) b:=hb;exact⟨f,(g.own i _ b q f).2.2⟩) L
end
theorem aM{F:Fr}{Q:Exit→Act→World→Prop}{p:Pan}{env:St}{h h':List Obj}(I:Ret h h')(g:AtP F Q p env h'):AtP F Q p env h:=fun c a w u hs z=>by
 obtain⟨c',f,q⟩:=I _ _ _ _ hs.good;refine g c' a w u ⟨q,hs.glob.mono f.le.S f.same,fun s=>f.val (hs.env s),hs.size,hs.defers⟩ ?_;exact z.keep f.le.S f.same
theorem bFu{F:Fr}{K:Act→World→Prop}{env:St}{h h':List Obj}(q:Ret h h')(z:At F K env h'):At F K env h:=fun c a w hs=>by
 obtain⟨c',f,g⟩:=q _ _ _ _ hs.good;exact z c' a w ⟨g,hs.glob.mono f.le.S f.same,fun s=>f.val (hs.env s),hs.size,hs.defers⟩
end Go.Vc
namespace Go.Vc
open Go.RowKit
def bHl(F:Fr)(Q:Exit→Act→World→Prop)(Δ:FuncId→List AV→List Obj→Option Hit)(sb:List Nat)(ops:List Oper)(g:List St)(xs:List AV)(hs:List (List Obj))(f:List Nat)(stop:Bool)(i k:Nat):Prop :=
 match ops[i]? with
 | some o=>o.guard=none∧aLe F.E Δ sb (g.getD i []) (hs.getD k []) o (fun v h'=>(stop&&k+1 == f.length&&f.contains i)=false∧v=xs.getD i .junk∧h'=hs.getD (bif f.contains i then k+1 else k) []) (fun p h'=>AtP F Q p [] h')
 | none=>False
def bEl(F:Fr)(Q:Exit→Act→World→Prop)(Δ:FuncId→List AV→List Obj→Option Hit)(sb:List Nat)(ops:List Oper)(f:List St)(xs:List AV)(hs:List (List Obj))(g:List Nat)(stop:Bool):List (Nat×Nat)→Prop
 | []=>True
 | p::r=>bHl F Q Δ sb ops f xs hs g stop p.1 p.2∧bEl F Q Δ sb ops f xs hs g stop r
theorem aX5{F:Fr}{Q:Exit→Act→World→Prop}{Δ:FuncId→List AV→List Obj→Option Hit}{sb:List Nat}{ops:List Oper}{f:List St}{xs:List AV}{hs:List (List Obj)}{g:List Nat}{stop:Bool}:∀ {l:List (Nat×Nat)},bEl F Q Δ sb ops f xs hs g stop l→ ∀p∈l,bHl F Q Δ sb ops f xs hs g stop p.1 p.2
 | p::r,h,q,hq=>by
  rcases List.mem_cons.1 hq with rfl|hq
  ·exact h.1
  ·exact aX5 h.2 q hq
def reach(ops:List Oper):Nat→Nat→Nat→Bool
 | 0,i,b=>aEl ops i b
 | n+1,i,b=>aEl ops i b||(List.range ops.length).any fun x=>aEl ops i x&&reach ops n x b
theorem aVe{ops:List Oper}{done:List Nat}(cl:∀i∈done,∀b,aEl ops i b=true→b∈done):∀(n i b:Nat),(∀x,aEl ops i x=true→x∈done)→reach ops n i b=true→b∈done
 | 0,i,b,h,f=>h b f
 | n+1,i,b,h,f=>by
  simp only[reach,Bool.or_eq_true,List.any_eq_true,Bool.and_eq_true] at f;rcases f with f|⟨x,_,g,f⟩
  ·grind
  ·exact aVe cl n x b (cl x (h x g)) f
def bHm(ops:List Oper)(f:List Nat)(i k:Nat):Bool:=okK ops f i k&&(List.range f.length).all fun m=>bif m<k then true else !reach ops 2 i (f.getD m 0)
theorem bJV{ops:List Oper}{f:List Nat}{xs:List AV}{g env:St}{done:List Nat}{k i:Nat}(hv:aO6 ops f xs g done k env)(z:∀x,aEl ops i x=true→x∈done)(J:okK ops f i k=true):bHm ops f i k=true:=by
 simp only[bHm,J,Bool.true_and,List.all_eq_true,List.mem_range];intro m hm;by_cases q:m<k
 ·simp[q]
 ·simp only[q,decide_false,cond_false,Bool.not_eq_true'];cases I:reach ops 2 i (f.getD m 0) with
  | false=>rfl
  | true=>exact absurd ((hv.kd m hm).1 (aVe hv.cl 2 i _ z I)) q
theorem bA6{F:Fr}{Q:Exit→Act→World→Prop}(hF:uP F){Δ:FuncId→List AV→List Obj→Option Hit}(hΔ:aGd F.P F.E.G Δ)(sb:List Nat){ops:List Oper}{f:List Nat}{us:List (List Nat)}(hc:bCM ops f us)(hok:∀o∈ops,iG F.nt o=true)(xs:List AV)(g:St)(hs:List (List Obj))(N:List St)
  (hue:∀j,j<ops.length→N.getD j []=(us.getD j []).map fun t=>(t,aNY ops xs g t)) (stop:Bool) (hst:∀i k,i<ops.length→k≤f.length→(stop=true→k<f.length)→bHm ops f i k=true→bHl F Q Δ sb ops N xs hs f stop i k)
  (keep:List Nat) (hK:stop=false→At F (Q .normal) (keep.map fun t=>(t,aNY ops xs g t)) (hs.getD f.length [])) :
  ∀(n:Nat) (done:List Nat) (listed:Array Bool),listed.size=ops.length→(∀k,k<ops.length→(listed.getD k false=true↔k∈done))→done.length+n=ops.length→done.Nodup→(∀k∈done,k<ops.length)→ ∀(k:Nat) (env:St),aO6 ops f xs g done k env→(stop=true→k<f.length)→ ∀(c:Ctx) (a:Act) (w:World),Sim F.E F.M F.w0 F.nt F.ds c env (hs.getD k []) a w→wpAny F.P .any ops.toArray Q n listed a w
 | 0,done,listed,hsz,hl,hn,hd,Y,k,env,hv,hsk,c,a,w,z=>by
  have J:∀j,j<ops.length→j∈done:=fun j U=>(aI5 hd (m:=List.range ops.length) (fun k q=>List.mem_range.2 (Y k q))).2 (by grind) j (List.mem_range.2 U);refine⟨?_,?_⟩
  ·rw[List.eq_nil_iff_forall_not_mem];grind[mem_ready,lV.get_lt']
  ·have q:k=f.length:=by
    rcases Nat.lt_or_ge k f.length with h|h
    ·have:=(hv.kd k h).1 (J _ (hc.effl k h)); omega
    ·have:=hv.kle; omega
   subst q;have hsf:stop=false:=by
    simp_all
   refine hK hsf c a w ?_;have e:(keep.map fun t=>(t,aNY ops xs g t))=keep.map fun t=>(t,look env t):=by
    grind[List.map_congr_left,aO6.val]
   rw[e];exact z.keep keep
 | n+1,done,listed,hsz,hl,hn,hd,Y,k,env,hv,hsk,c,a,w,z=>by
  have hrd:∀j,j∈Region.ready .any ops.toArray listed→j∈aGe ops done∧j∉done∧j<ops.length:=fun j hj=>by
   obtain⟨h1,o,ho,hall⟩:=mem_ready.1 hj;have ho:ops[j]? = some o:=(by simp_all);have U:=lV.get_lt' ho;have hlt':j<listed.size:=(by omega);have hnd:j∉done:=fun hm=>by
    grind
   refine⟨?_,hnd,U⟩;simp only[aGe,List.mem_filter,List.mem_range,ho,Bool.and_eq_true,Bool.not_eq_true',List.contains_eq_mem,decide_eq_false_iff_not,List.all_eq_true,Bool.or_eq_true,decide_eq_true_eq];grind
  refine⟨fun hr=>?_,fun j hj=>?_⟩
  ·exfalso;have Z:∃k,(k<ops.length∧k∉done)∧ ∀j,j<k→ ¬(j<ops.length∧j∉done):=by
    have Z:∃k,k<ops.length∧k∉done:=by
     apply Classical.byContradiction;intro hc;have J:List.range ops.length ⊆ done:=fun k q=>Classical.byContradiction fun hk2=>hc ⟨k,List.mem_range.1 q,hk2⟩;have:=(aI5 (List.nodup_range (n:=ops.length)) (fun k q=>J q)).1;grind
    obtain⟨n,h1,h2⟩:=aH5 Z;grind
   obtain⟨k,⟨q,hkd⟩,hlow⟩:=Z;have hmem:k∈Region.ready .any ops.toArray listed:=by
    rw[mem_ready];have hlt':k<listed.size:=(by omega);have hun:¬listed.getD k false=true:=fun h=>hkd ((hl k q).1 h);refine⟨by grind,ops[k],by simp[q],fun e he hbe=>?_⟩;have hbk:=List.all_eq_true.1 hc.back (ops[k],k) (by grind);grind
   simp_all
  ·obtain⟨r1,r2,r3⟩:=hrd j hj;have I:=hst j k r3 hv.kle hsk (bJV hv (fun x hx=>aDE r1 x hx) (hv.okk (us:=us) r1 r2));have hjo:ops[j]? = some ops[j]:=List.getElem?_eq_getElem r3;have hdo:aGg ops j=ops[j].dst:=(by simp[aGg,hjo]);unfold bHl at I;rw[hjo] at I;obtain⟨hg,I⟩:=I;have O:=hok ops[j] (List.getElem_mem r3);have hw:Region.wanted ops[j] (yielded ops.toArray a.tmps)=true:=(by simp[Region.wanted,hg]);have eu:N.getD j []=(us.getD j []).map fun t=>(t,look env t):=by
    rw[hue j r3];refine List.map_congr_left fun t ht=>?_;rw[aO6.val hc hv t (fun i hi hdi=>aDE r1 i (hc.use j r3 t ht i hi hdi))]
   have hsimU:=z.keep (us.getD j []);rw[← eu] at hsimU;unfold wpOp;simp only[List.getElem?_toArray,hjo];rw[if_pos hw]
   left
   refine aU2 hF.env hΔ hsimU O I (fun v h' c' u w' hvh ha=>?_) (fun p h' c' u w' q hl hgd hr=>q c' a w' u ((hsimU.step hl hgd).keep []) hr);obtain⟨hnl,hx,hh⟩:=hvh;have L:=z.after O ha;rw[hx,hh] at L;have hv':=hv.step hc r1 r2 r3 Y;rw[hdo] at hv';refine bA6 hF hΔ sb hc hok xs g hs N hue stop hst keep hK n (j::done) (listed.setIfInBounds j true) (by grind) (fun k q=>?_) (by grind) (List.nodup_cons.2 ⟨r2,hd⟩) (fun k q=>?_) _ _ hv' (fun hst=>?_) c' _ w' L
   ·by_cases e:j=k
    ·simp_all
    ·rw[getD_set_ne false e,hl k q];grind
   all_goals grind
def bHn(ops:List Oper)(f:List Nat)(us:List (List Nat))(g:List (Nat×Nat))(stop:Bool):Bool :=
 bAY ops&&bHk ops f&&nodupB f&&bMy ops us&&bMz ops&&f.all (fun e=>decide (e<ops.length))&&((List.range ops.length).all fun i=>(List.range (bif stop then f.length else f.length+1)).all fun k=> !bHm ops f i k||g.contains (i,k))&&(!stop||decide (0<f.length))
theorem bHo{ops:List Oper}{f:List Nat}{us:List (List Nat)}{z:List (Nat×Nat)}{stop:Bool}(h:bHn ops f us z stop=true):bCM ops f us∧(∀i k,i<ops.length→k≤f.length→(stop=true→k<f.length)→bHm ops f i k=true→(i,k)∈z)∧(stop=true→0<f.length):=by
 simp only[bHn,Bool.and_eq_true] at h;obtain⟨⟨⟨⟨⟨⟨⟨I,U⟩,O⟩,Y⟩,J⟩,h6⟩,L⟩,h8⟩:=h;refine⟨⟨I,fun m hm h0=>?_,aUa O,fun m hm=>?_,fun j q u N i hi hd=>?_,fun i j t hi q hd Z=>?_⟩,fun i k hi hk hs ho=>?_,fun hs=>by simp_all⟩
 ·have:=List.all_eq_true.1 U m (List.mem_range.2 hm);simp_all
 ·simp_all
 ·have:=List.all_eq_true.1 (List.all_eq_true.1 (List.all_eq_true.1 Y j (List.mem_range.2 q)) u N) i (List.mem_range.2 hi);simp_all
 ·have:=List.all_eq_true.1 (List.all_eq_true.1 J i (List.mem_range.2 hi)) j (List.mem_range.2 q);simp_all
 ·have g:k<(bif stop then f.length else f.length+1):=by
   grind
  have:=List.all_eq_true.1 (List.all_eq_true.1 L i (List.mem_range.2 hi)) k (List.mem_range.2 g);simp_all
theorem uQ{F:Fr}{Q:Exit→Act→World→Prop}{env:St}{h:List Obj}(hF:uP F){Δ:FuncId→List AV→List Obj→Option Hit}(O:aGd F.P F.E.G Δ)(sb:List Nat){id:Nat}{ops:Array Oper}(keep:List Nat)(z:List Nat)(us:List (List Nat))(Z:List (Nat×Nat))(xs:List AV)(hs:List (List Obj))(q:List St)(stop:Bool)
  (hb:bHn ops.toList z us Z stop=true) (hue:(List.range ops.toList.length).map (fun j=>(us.getD j []).map fun t=>(t,aNY ops.toList xs env t))=q) (h0:hs.getD 0 []=h)
  (N:bEl F Q Δ sb ops.toList q xs hs z stop Z) (I:stop=false→At F (Q .normal) (keep.map fun t=>(t,aNY ops.toList xs env t)) (hs.getD z.length [])):Tri F (.region id ops true) Q env h:=fun J c a w f=>by
 simp only[iT,Bool.and_eq_true,Bool.or_eq_true,Bool.not_eq_true'] at J;obtain⟨⟨h1,h2⟩,h3⟩:=J;obtain⟨hc,hp,Y⟩:=bHo hb;refine wp_region_any hF.mix ?_;have g:eI c w c { w with drawn:=w.drawn+1 }:=⟨.refl _,fun b hb=>rfl⟩;have U:Sim F.E F.M F.w0 F.nt F.ds c env h a { w with drawn:=w.drawn+1 } :=
  ⟨f.good.step g rfl rfl ⟨rfl,rfl,rfl,Nat.le_refl _,fun _ _ _=>rfl⟩ (fun _ _ _ _ _=>rfl) f.good.sfin (fun _ hb=>.inl hb),uD.mono (w:=w) (w':={ w with drawn:=w.drawn+1 }) (fun _ hb=>hb) g.same f.glob,f.env.keep g,f.size,f.defers⟩
 have:=bA6 (Q:=Q) hF O sb hc (List.all_eq_true.1 h1) xs env hs q (fun j hj=>by grind) stop (fun i k hi I L ho=>aX5 N (i,k) (hp i k hi I L ho)) keep I ops.toList.length [] (Array.replicate ops.size false) (by simp) (fun k I=>by simp_all) (by simp) List.nodup_nil (fun k I=>by cases I) 0 env
  ⟨Nat.zero_le _,fun m hm=>by simp,fun i hi=>(by cases hi),fun i hi=>(by cases hi),fun t _=>rfl⟩ Y c a _ (by rw[h0]; exact U)
 omega
attribute [go_sem] bEl bHl
def bMA:List (FuncId×(List Obj→Hit))→FuncId→List AV→List Obj→Option Hit
 | [],_,_,_=>none
 | (k,t)::r,f,g,h=>if k=f then some (t h) else bMA r f g h
structure aVf(P:Program)(G:Nat→AV)(l:List (FuncId×(List Obj→Hit))):Prop where
 ok:∀p∈l,(∀h,GOK P G p.1 (p.2 h).sp)∧fnB P p.1=true
theorem aVf.nil{P:Program}{G:Nat→AV}:aVf P G []:=⟨fun p hp=>by cases hp⟩
theorem aVf.cons{P:Program}{G:Nat→AV}{l:List (FuncId×(List Obj→Hit))}{f:FuncId}{t:List Obj→Hit}(h:∀x,GOK P G f (t x).sp)(q:fnB P f=true)(g:aVf P G l):aVf P G ((f,t)::l):=by
 refine⟨fun p hp=>?_⟩;rcases List.mem_cons.1 hp with rfl|hp
 ·simp_all
 ·exact g.ok p hp
attribute [go_sem] bMA
end Go.Vc
namespace Go.Vc
open Go.RowKit
section
variable {P:Program} {T:Tab} {H:Type} {enc:TypeId×Value→H} {w:World} {spare:Nat→Bool} {held:Bool}
def bHp(k:IntKind)(ys:List Nat):DataW H:=.agg (ys.map fun (y:Nat)=>.lit (.int k (y:Int)))
theorem aY2:∀(cs:List Value),((List.range cs.length).map fun i=>(cs.drop i).take 1).flatten=cs:=by
 intro cs;have e:((List.range cs.length).map fun i=>(cs.drop i).take 1)=cs.map fun c=>[c]:=by
  apply List.ext_getElem
  ·simp
  ·intro i f q;simp only[List.length_map,List.length_range] at f;simp only[List.getElem_map,List.getElem_range];rw[List.drop_eq_getElem_cons f];rfl
 rw[e];clear e
 induction cs with
 | nil=>rfl
 | cons c cs g=>simp[g]
theorem bJW{S:Nat→Prop}(I:lZ P T){n:Nat}{t:TypeId}{m:Nat}{k:IntKind}{cs:List Value}{p:List MemPlace}{ys:List Nat}(ht:T t=some (.arr m (.u k)))
  (h:DataW.trod enc P w 0 spare held n t cs=some (bHp k ys,p)):bB w S (.arr m (.u k)) ys cs:=by
 obtain⟨d,hd,hb⟩:=(I _ _ ht).desc;cases d<;>simp[jI] at hb
 obtain⟨⟨⟨rfl,g⟩,hb2⟩,_⟩:=hb;obtain⟨xs,q,hq,U,f,hxl,J⟩:=DataW.trod_array hd h;simp only[bHp,Prod.mk.injEq,DataW.agg.injEq] at U;rw[qS (I _ _ ht)] at f;rw[qS (I _ _ g)] at J;have e1:(Ty.u k).cells=1:=rfl;have e2:(Ty.arr m (.u k)).cells=m:=by show m*1=m; omega
 rw[e1] at J;rw[e2] at f;have L:ys.length=m:=by
  have:=congrArg List.length U.1;grind
 obtain⟨du,Y,z⟩:=(I _ _ g).desc;cases du<;>simp[jI] at z
 obtain⟨rfl,hs⟩:=z;refine⟨L,(List.range cs.length).map (fun i=>(cs.drop i).take 1),(aY2 cs).symm,by grind,fun i h1 h2=>?_⟩;have hi:i<m:=by omega
 have Z:=J i hi;rw[Nat.mul_one,List.getElem?_eq_getElem (by omega)] at Z;obtain⟨v,g1,g2,N⟩:=DataW.trod_int Y Z;simp only[List.getElem_map,List.getElem_range];have O:(xs.map (·.1))[i]? = (ys.map fun (y:Nat)=>(DataW.lit (.int k (y:Int)):DataW H))[i]? := by rw[U.1]
 rw[List.getElem?_map,List.getElem?_map,List.getElem?_eq_getElem (by omega),List.getElem?_eq_getElem h1,g2] at O;simp only[Option.map_some,Option.some.injEq,DataW.lit.injEq,Lit.int.injEq,true_and] at O;rw[O] at g1 N;simp only[Lit.wf,Bool.and_eq_true,decide_eq_true_eq] at N;exact⟨g1,hs,N.2⟩
theorem bHq{l:List (String×DataW Unit)}{n:String}{d:DataW Unit}(hm:(n,d)∈l){ps:List MemPlace}(h:DataW.LaidVars P w l ps) :
  ∃g t cs f p,P.globalNamed n=some g∧(P.globals[g]?).map (·.type)=some t∧w.var? P n=some cs∧DataW.trod (fun _=>()) P w 0 (fun _=>true) false f t cs.toList=some (d,p):=by
 induction l generalizing ps with
 | nil=>cases hm
 | cons x r z =>
  obtain⟨J,U⟩:=x;obtain⟨g,t,cs,f,p,q,Y,N,L,O,I,_⟩:=h;grind
theorem bA7(N:lZ P T){l:List (String×DataW Unit)}(h:laidMet P l w)(n:String)(g:Nat)(t:TypeId)(m:Nat)(k:IntKind)(ys:List Nat)(hm:(n,bHp k ys)∈l)(I:P.globalNamed n=some g)
  (ht:(P.globals[g]?).map (·.type)=some t) (q:T t=some (.arr m (.u k))) (hm0:0<m):aX ⟨aBK w,fun _=>Go.undef,0,fun _ _=>False⟩ w (.roa (.arr m (.u k)) ys) (.pointer (some ⟨g,0,none⟩)):=by
 obtain⟨ps,hv,_⟩:=h;obtain⟨g',t',f,z,p,Z,U,O,Y⟩:=bHq hm hv;obtain rfl:=Option.some.inj (I.symm.trans Z);obtain rfl:=Option.some.inj (ht.symm.trans U);have J:bB w (aBK w) (.arr m (.u k)) ys f.toList:=bJW N q Y;have hc:mW w g 0 f.toList:=fun j v hj=>by
  have:=World.var?_cell I O j;simp_all
 refine aGZ ?_ J hc;have L:=bB.length _ _ _ J;have L:f.toList.length=m*1:=L;have h0:0<f.toList.length:=by omega
 exact aYX (hc 0 (f.toList[0]'h0) (List.getElem?_eq_getElem h0))
end
end Go.Vc
namespace Go.Vc
open Go.RowKit
variable {H:Type} {enc:TypeId×Value→H}
theorem aWN{a:Assume}{C:Checked}{os:Os}{f:FuncId}{fn:Func}{s:ChangeSpec}{conds:List PathCond}{apart fresh handsOn again:Bool}{X:World→Array Value→Prop}
  (hX:∀(w w':World) (args:Array Value),w.heap=w'.heap→X w args→X w' args)
  (own:ownKnob C.prog.godebug=none) (started:os.Started) (noInit:C.prog.inits.idxOf? f=none) (I:C.prog.funcs[f]? = some fn)
  (witness:∃(w:World) (tape:Tape) (i:Input),w.os=os∧(w.forCall tape i).Shaped C.prog∧i.vars= []∧Input.okWide C.prog (w.forCall tape i) .any w.heap.size f i ∧
   ((s.pre enc C.prog fn conds apart (w.forCall tape i).memory i.args∧X (w.forCall tape i).memory i.args)∧sizedMet enc C.prog fn (OpenSpec.ofChange s) apart (w.forCall tape i).memory i.args)∧a.holds C.prog (lone (Frame.enter C.prog f i.args .normal) [] (w.forCall tape i)))
  (contract:∀(W:World) (base:Nat) (args:Array Value) (ds L:List (DataW H)) (before:List MemPlace),
   (∀(j:Nat) t v,fn.params[j]? = some t→args[j]? = some v→Value.okWide C.prog W .any base t v) →
   DataW.Whole enc C.prog fn.params.toList s.vars apart W args.toList ds L before→X W args→W.ShapedOpen C.prog →
   Calls C.prog f args W fun e Y=>∃v,e= .returned v∧s.post enc C.prog fn apart fresh handsOn again W args v Y) :
  ReturnsInHanded a C os f .any (fun w args=>(s.pre enc C.prog fn conds apart w args∧X w args)∧sizedMet enc C.prog fn (OpenSpec.ofChange s) apart w args) (s.post enc C.prog fn apart fresh handsOn again):=by
 refine returnsInHanded_of_calls own started noInit witness ?_;intro w tape i _ N _ O z hholds;obtain⟨_,_,_,J,g,_,_,_,_,q⟩:=O;obtain rfl:J=fn:=Option.some.inj (g.symm.trans I);obtain⟨⟨⟨ds,L,before,Z,hc⟩,hx⟩,hz⟩:=z;have U:=DataW.Whole.of_heap (w':=w.forCall tape i) (by rfl) Z;refine(contract (w.forCall tape i) w.heap.size i.args ds L before q U (hX _ _ _ (by rfl) hx) N).mono fun e Y ⟨v,he,hp⟩=>?_;subst he;exact ChangeSpec.post_blind hp
theorem bCN{P:Program}{w:World}{g:Nat}{t:TypeId}{zero:Array Value}{k:IntKind}
  (h:w.ShapedOpen P) (hg:g<P.globals.size)
  (h0:((begin P (fun _ _=>0) default).world.heap[g]?).bind Obj.row? = some (zero,t)) (hz:zero.size=1)
  (hb:P.buildable t=true) (hc:P.cellTypes P.depth t=some [t]) (hu:P.underlying t=some (.int k)) (hs:k.signed=true) :
  ∃m,aX ⟨aBK w,fun _=>Go.undef,0,fun _ _=>False⟩ w (.roa (.i k) m) (.pointer (some ⟨g,0,none⟩)):=by
 obtain⟨J,hh,Z,hr⟩:=h.1 g zero t hg h0;obtain⟨ts,z,_,I⟩:=hr hb;rw[hc] at z;cases z;have Y:0<J.size:=by omega
 obtain⟨u,U,f⟩:=I 0 J[0] (by simp[Y]);obtain rfl:u=t:=by simpa using U.symm
 have hcell:w.cell? ⟨g,0,none⟩=some J[0]:=by simp[World.cell?,hh,Y]
 unfold Cell.ok at f;rw[hu] at f;cases hv:J[0]<;>rw[hv] at f<;>simp at f
 case int k' n =>
  rw[hv] at hcell;obtain⟨rfl,L,N⟩:=f;have q:mW w g 0 [.int k' n]:=fun j v O=>by
   cases j with
   | zero=>simp at O; subst O; exact hcell
   | succ j=>simp at O
  exact⟨n,aGZ (aYX (q 0 _ rfl)) ⟨rfl,hs,L,N⟩ q⟩
end Go.Vc

