import Derived.Test.YtmhjkbdicaelbaaGreatDoorZS4
import Derived.Test.YtmhjkbdicaelbaaGreatDoorZS3
import Derived.Test.YtmhjkbdicaelbaaGreatDoorZS2
set_option linter.unusedVariables false
set_option linter.unusedSimpArgs false
namespace Go.Proofs
open Go.Vc
set_option maxRecDepth 20000
namespace Nu
abbrev TRg:Type:=List Nat×List Nat×Unit
abbrev TSt:Type:=List Nat×TRg×Ex×Unit
abbrev TPa:Type:=List Nat×TRg×Unit
abbrev TOu:Type:=List Nat×Ex×Unit
inductive PL
 | prec (n:Nat)|fin (t:List Nat)|step (a b:List Nat)|tol (t:List Nat)|tries (n:Nat)|order (n:Nat)|mode (m:Int)
 | sub (t:List Nat)|state (a:TSt)|par (a:TPa)|inn (t:List Nat)|out (a:TOu)|link (a:TLk)
def dg(n:Nat):List Nat:=if n<10 then [48+n] else if n<100 then [48+n/10,48+n%10] else [48+n/100,48+n/10%10,48+n%10]
theorem bAU:∀n,n<1000→(dg n).all oX=true∧0<(dg n).length∧(dg n).length≤4∧dW (dg n)=n:=by decide +kernel
def rgW(r:TRg):List qd:=if r.2.1= [] then [r.1] else [r.1,r.2.1]
def wds:PL→List qd
 | .prec n=>[[112,114,101,99],dg n]
 | .fin t=>[[101,110,100],t]
 | .step a b=>[[115,116,101,112],a,b]
 | .tol t=>[[116,111,108],t]
 | .tries n=>[[116,114,105,101,115],dg n]
 | .order n=>[[111,114,100,101,114],dg n]
 | .mode m=>[if m=2 then [115,101,105,100,101,108] else [106,97,99,111,98,105]]
 | .sub t=>[[115,117,98],t]
 | .state a=>[115,116,97,116,101]::a.1:: [61]::(rgW a.2.1++ [[100,101,114],tx 30 a.2.2.1])
 | .par a=>[112,97,114]::a.1:: [61]::rgW a.2.1
 | .inn t=>[[105,110],t]
 | .out a=>[[111,117,116],a.1,[61],tx 30 a.2.1]
 | .link a=>[[108,105,110,107],a.1++46::a.2.1,[61],a.2.2.1++46::a.2.2.2.1]
def zS:aDS:=([],[],[],[],[],())
def tl(f:List qd):List Nat:=f.flatMap (32:: ·)
theorem xM(w:List Nat)(f:List qd):tl (w::f)=32::(w++tl f):=by simp[tl]
def jn(f:List qd):List Nat:=f.flatMap (· ++ [10])
def jw:List qd→List Nat
 | []=>[]
 | w::ws=>w++tl ws
def ln(p:PL):List Nat:=jw (wds p)
def aFF(x:aDS):List PL:=.sub x.1::(x.2.1.map .state++(x.2.2.1.map .par++(x.2.2.2.1.map .inn++x.2.2.2.2.1.map .out)))
def heP(s:TSc):List PL:=[.prec s.1.toNat,.fin s.2.2.2.2.1,.step s.2.2.2.2.2.1 s.2.2.2.2.2.2.1,.tol s.2.2.2.2.2.2.2.1,.tries s.2.1.toNat,.order s.2.2.1.toNat,.mode s.2.2.2.1]
def scP(s:TSc):List PL:=heP s++(s.2.2.2.2.2.2.2.2.1.flatMap aFF++s.2.2.2.2.2.2.2.2.2.1.map .link)
def NmK(t:List Nat):Prop:=t.length≤20
def RgK(r:TRg):Prop:=r.1.length≤100∧r.2.1.length≤100
def ExK(e:Ex):Prop:=KE 30 e∧fits 30 e
def LiK(t:List Nat):Prop:=t.length≤100
structure bMi(s:aDS):Prop where
 n:NmK s.1
 x:∀a∈s.2.1,NmK a.1∧RgK a.2.1∧ExK a.2.2.1
 p:∀a∈s.2.2.1,NmK a.1∧RgK a.2.1
 u:∀a∈s.2.2.2.1,NmK a
 o:∀a∈s.2.2.2.2.1,NmK a.1∧ExK a.2.1
 b:s.2.1.length≤10∧s.2.2.1.length≤10∧s.2.2.2.1.length≤10∧s.2.2.2.2.1.length≤10
structure ScM(s:TSc):Prop where
 n:(0≤s.1∧s.1<1000)∧(0≤s.2.1∧s.2.1<1000)∧(0≤s.2.2.1∧s.2.2.1<1000)∧(s.2.2.2.1=1∨s.2.2.2.1=2)
 t:LiK s.2.2.2.2.1∧LiK s.2.2.2.2.2.1∧LiK s.2.2.2.2.2.2.1∧LiK s.2.2.2.2.2.2.2.1
 sb:s.2.2.2.2.2.2.2.2.1.length≤8∧ ∀a∈s.2.2.2.2.2.2.2.2.1,bMi a
 l:s.2.2.2.2.2.2.2.2.2.1.length≤100∧ ∀a∈s.2.2.2.2.2.2.2.2.2.1,NmK a.1∧NmK a.2.1∧NmK a.2.2.1∧NmK a.2.2.2.1
def okL:PL→Prop
 | .prec n=>n<1000
 | .fin t=>LiK t
 | .step a b=>LiK a∧LiK b
 | .tol t=>LiK t
 | .tries n=>n<1000
 | .order n=>n<1000
 | .mode _=>True
 | .sub t=>NmK t
 | .link a=>NmK a.1∧NmK a.2.1∧NmK a.2.2.1∧NmK a.2.2.2.1
 | .state a=>NmK a.1∧RgK a.2.1∧ExK a.2.2.1
 | .par a=>NmK a.1∧RgK a.2.1
 | .inn a=>NmK a
 | .out a=>NmK a.1∧ExK a.2.1
theorem NmK.len{t:List Nat}(h:NmK t):t.length≤20:=h
theorem join_cons(w:List Nat):∀f:List qd,aFt (w::f) [32]=w++tl f
 | []=>by rfl
 | v::f=>by
  have g:=join_cons v f;simp_all[aFt,List.intercalate,xM]
theorem bKm:∀n:Nat,n<100→pG none (n:Int)=some (dg n):=by decide +kernel
theorem bOB:∀n:Nat,100≤n→n<1000→bM none n=some 3:=by
 unfold bM;rw[bJl];intro n g q;have:∀n:Nat,n<1000→(100≤n→(mR none (oC n)).bind (fun v_5=>ck (0≤v_5∧v_5<(20:Int)) ((mQ none (decide ((([1,10,100,1000,10000,100000,1000000,10000000,100000000,1000000000,10000000000,100000000000,1000000000000,10000000000000,100000000000000,1000000000000000,10000000000000000,100000000000000000,1000000000000000000,10000000000000000000]:List Nat).getD (v_5.toNat) (0:Nat))≤n))).bind (fun f=>ck (I64 (v_5+f)) (some (v_5+f)))))=some 3):=by decide +kernel
 simp_all
theorem bOC:∀n:Nat,n<1000→100≤n→dgs 3 n=dg n:=by decide +kernel
theorem bAV(n:Nat)(h:n<1000):mT none (n:Int)=some (dg n):=by
 unfold mT wC mS;refine aJ (aJ (ify rfl ?_) rfl) rfl;rcases Nat.lt_or_ge n 100 with f|f
 ·rw[if_pos (by omega),bKm n f];rfl
 ·rw[if_neg (by omega),if_neg (by omega),show ((n:Int)%18446744073709551616).toNat=n from by omega];unfold iS iR;rw[bOB n f h];simp only[Option.getD_some];refine aC rfl (aC xAb (aC xAb (aJ (aC xAb (aC (show n<10^3 by omega) rfl)) (ifn (by omega) (aC xAb (aC xAb (aC xAb ?_)))))));rw[show (((1:Int)+3)-1).toNat=3 from rfl,bOC n h f];have hl:(dgs 3 n).length=3:=aIc 3 n;rw[bOC n h f] at hl;simp_all
theorem pr1{f:List qd}{t:List Nat}(b:Bool)(x:List Nat)(h:aFt f [32]=t)(hl:f.length≤100)(ht:t.length≤137438953472)(hx:x.length≤70368744177664):cA none f (b,x)=some (false,x++(t++ [10])):=by
 unfold cA dM iU;rw[show aI ⟨#[32]⟩= [32] from rfl,show aI ⟨#[10]⟩= [10] from rfl,h];exact aC ⟨by omega,by grind⟩ (aC (by grind) (aJ (aJ rfl (aC (by grind) rfl)) rfl))
def jnP(ps:List PL):List Nat:=jn (ps.map ln)
theorem bNU(a b:List qd):jn (a++b)=jn a++jn b:=List.flatMap_append
theorem aOJ(a b:List PL):jnP (a++b)=jnP a++jnP b:=by rw[jnP,List.map_append,bNU]; rfl
theorem aOK(p:PL):jnP [p]=ln p++ [10]:=by simp[jnP,jn]
theorem bKn(p:PL)(ps:List PL):jnP (p::ps)=(ln p++ [10])++jnP ps:=by rfl
def LnB(ps:List PL):Prop:=∀p∈ps,(ln p).length≤137438953000
theorem aId:∀ {ps:List PL},LnB ps→(jnP ps).length≤ps.length*137438953472
 | [],_=>Nat.le_refl 0
 | p::ps,h=>by
  have f:=aId fun q hq=>h q (.tail _ hq);have:=h p (.head _);grind[bKn,List.length_append,List.length_cons,List.length_nil]
theorem aV7{α:Type}(L:List α)(z:α)(c:α→PL){step:Int×Bool×List Nat→Option ((Int×Bool×List Nat)⊕(Bool×List Nat))}(pre:List PL)(f:Bool)(hp:LnB (pre++L.map c))(g:(pre++L.map c).length≤500)
  (hs:∀(i:Nat) (b:Bool) (x:List Nat),i<L.length→x.length≤70368744177664→ ∃b',step ((i:Int),b,x)=some (.inl ((i:Int)+1,b',x++(ln (c (L.getD i z))++ [10]))))
  (he:∀(b:Bool) (x:List Nat),step ((L.length:Int),b,x)=some (.inr (b,x))):Tot (bO none step ((0:Int),f,jnP pre)) (fun e=>e.2=jnP (pre++L.map c)):=by
 rw[List.length_append,List.length_map] at g;refine Tot.idx (X:=Bool×List Nat) L.length (fun x i=>x.2=jnP (pre++(L.take i).map c)) (by omega) (fun i x i0 hi h64 hI=>?_) (fun x hI=>?_) xAg
 ·obtain⟨i,rfl⟩:∃j:Nat,i=j:=⟨i.toNat,by omega⟩;have hi:i<L.length:=by omega
  rw[Int.toNat_natCast] at hI ⊢;obtain⟨b,x⟩:=x;have hI:x=jnP (pre++(L.take i).map c):=hI;have hb:LnB (pre++(L.take i).map c):=fun p q=>hp p (by
   grind)
  have hx:=aId hb;rw[← hI,List.length_append,List.length_map,List.length_take] at hx;obtain⟨b',h⟩:=hs i b x hi (by omega);refine .of h ⟨rfl,?_⟩;show x++(ln (c (L.getD i z))++ [10])=jnP (pre++(L.take (i+1)).map c);rw[eP z hi,List.map_append,show pre++((L.take i).map c++ [L.getD i z].map c)=(pre++(L.take i).map c)++ [L.getD i z].map c from (List.append_assoc _ _ _).symm,aOJ,← hI,List.map_cons,List.map_nil,aOK]
 ·obtain⟨b,x⟩:=x;refine .of (he b x) ?_;simp_all
theorem aCR(w:List Nat)(f:List qd):(jw (w::f)).length=w.length+(tl f).length:=List.length_append
theorem wZ(w:List Nat)(f:List qd):(tl (w::f)).length=1+w.length+(tl f).length:=by
 grind[xM]
theorem bEV(a b:List qd):tl (a++b)=tl a++tl b:=List.flatMap_append
theorem ExK.pr{e:Ex}(h:ExK e):dF none 64 e=some (tx 30 e)∧(tx 30 e).length≤137438950000:=by
 obtain⟨a,b⟩:=aHg h.1 xAb h.2;grind
theorem bKo{r:TRg}(h:RgK r):(tl (rgW r)).length≤202:=by
 obtain⟨lo,hi,u⟩:=r;obtain⟨g,f⟩:=h;have g:lo.length≤100:=g;have f:hi.length≤100:=f;unfold rgW;split
 ·rw[wZ];show 1+lo.length+0≤202;omega
 ·rw[wZ,wZ];show 1+lo.length+(1+hi.length+0)≤202;omega
theorem bNV{p:PL}(h:okL p):(ln p).length≤137438953000:=by
 have z:(tl []).length=0:=rfl;have f:∀m,m<1000→(dg m).length≤4:=fun m hm=>(bAU m hm).2.2.1;unfold ln;cases p with
 | prec m=>have:=f m h; simp only[wds,aCR,wZ,List.length_cons,List.length_nil,List.length_append,z]; omega
 | fin t=>have h:t.length≤100:=h; simp only[wds,aCR,wZ,List.length_cons,List.length_nil,List.length_append,z]; omega
 | step a b=>have:a.length≤100:=h.1; have:b.length≤100:=h.2; simp only[wds,aCR,wZ,List.length_cons,List.length_nil,List.length_append,z]; omega
 | tol t=>have h:t.length≤100:=h; simp only[wds,aCR,wZ,List.length_cons,List.length_nil,List.length_append,z]; omega
 | tries m=>have:=f m h; simp only[wds,aCR,wZ,List.length_cons,List.length_nil,List.length_append,z]; omega
 | order m=>have:=f m h; simp only[wds,aCR,wZ,List.length_cons,List.length_nil,List.length_append,z]; omega
 | mode m=>rw[wds,aCR,z]; split<;>simp
 | sub t=>have h:t.length≤20:=h; simp only[wds,aCR,wZ,List.length_cons,List.length_nil,List.length_append,z]; omega
 | link a =>
  obtain⟨q,J,h3,I⟩:=h;have:=q.len; have:=J.len; have:=h3.len; have:=I.len;simp only[wds,aCR,wZ,List.length_cons,List.length_nil,List.length_append,z]; omega
 | state a =>
  obtain⟨ha,g,he⟩:=h;have:=ha.len; have:=bKo g; have:=he.pr.2;rw[wds,aCR,wZ,wZ,bEV,List.length_append,wZ,wZ,z]; simp only[List.length_cons,List.length_nil]; omega
 | par a =>
  obtain⟨ha,g⟩:=h;have:=ha.len; have:=bKo g; simp only[wds,aCR,wZ,List.length_cons,List.length_nil,List.length_append,z]; omega
 | inn a =>
  have h:a.length≤20:=h;simp only[wds,aCR,wZ,List.length_cons,List.length_nil,List.length_append,z]; omega
 | out a =>
  obtain⟨ha,he⟩:=h;have:=ha.len; have:=he.pr.2;simp only[wds,aCR,wZ,List.length_cons,List.length_nil,List.length_append,z]; omega
theorem LnB.app{a b:List PL}(ha:LnB a)(hb:LnB b):LnB (a++b):=fun p hp=>(List.mem_append.1 hp).elim (ha p) (hb p)
theorem bNW{s:TSc}(h:ScM s):∀p∈scP s,okL p:=by
 obtain⟨⟨O,W,h3,U⟩,⟨z,q,N,I⟩,⟨_,hs⟩,⟨_,hl⟩⟩:=h;intro p hp;rcases List.mem_append.1 hp with hp|hp
 ·simp only[heP,List.mem_cons,List.not_mem_nil,or_false] at hp;rcases hp with rfl|rfl|rfl|rfl|rfl|rfl|rfl
  ·show _<_; omega
  ·exact z
  ·exact⟨q,N⟩
  ·exact I
  ·show _<_; omega
  ·show _<_; omega
  ·trivial
 ·rcases List.mem_append.1 hp with hp|hp
  ·obtain⟨x,hx,hp⟩:=List.mem_flatMap.1 hp;obtain⟨m1,g,L,J,f,_⟩:=hs x hx;rcases List.mem_cons.1 hp with rfl|hp
   ·exact m1
   ·rcases List.mem_append.1 hp with hp|hp
    ·obtain⟨a,ha,rfl⟩:=List.mem_map.1 hp; exact g a ha
    ·rcases List.mem_append.1 hp with hp|hp
     ·obtain⟨a,ha,rfl⟩:=List.mem_map.1 hp; exact L a ha
     ·rcases List.mem_append.1 hp with hp|hp
      ·obtain⟨a,ha,rfl⟩:=List.mem_map.1 hp; exact J a ha
      ·obtain⟨a,ha,rfl⟩:=List.mem_map.1 hp; exact f a ha
  ·obtain⟨a,ha,rfl⟩:=List.mem_map.1 hp; exact hl a ha
theorem bAW{s:TSc}(h:ScM s):LnB (scP s):=fun p hp=>bNV (bNW h p hp)
theorem spn(r:TRg)(h:RgK r):∃t,vI none r=some t∧tl [t]=tl (rgW r):=by
 obtain⟨lo,hi,u⟩:=r;obtain⟨g,f⟩:=h;have g:lo.length≤100:=g;have f:hi.length≤100:=f;unfold vI rgW;by_cases hh:hi= []
 ·exact⟨lo,ify hh rfl,by simp_all⟩
 ·refine⟨lo++ [32]++hi,ifn hh (aC (by show lo.length+1≤_; omega) (aC ?_ rfl)),?_⟩
  ·show (lo++ [32]).length+hi.length≤_;grind
  simp_all[if_neg,tl]
theorem bM2{w:List Nat}{a b:List qd}(h:tl a=tl b):w++tl a=jw (w::b):=by
 rw[h];rfl
theorem bKp(x:aDS)(h:x.2.1.length≤10∧x.2.2.1.length≤10∧x.2.2.2.1.length≤10∧x.2.2.2.2.1.length≤10):(aFF x).length≤41:=by
 grind[aFF]
theorem aKc:∀L:List aDS,(∀a∈L,a.2.1.length≤10∧a.2.2.1.length≤10∧a.2.2.2.1.length≤10∧a.2.2.2.2.1.length≤10)→(L.flatMap aFF).length≤L.length*41
 | [],_=>Nat.le_refl 0
 | x::L,h=>by
  have:=aKc L fun a ha=>h a (.tail _ ha);have:=bKp x (h x (.head _));rw[List.flatMap_cons,List.length_append,List.length_cons];omega
section
variable {s:TSc} {i j:Nat} {b:Bool} {y:List Nat} {x:aDS} (hX:s.2.2.2.2.2.2.2.2.1.getD i ([],[],[],[],[],())=x) (hy:y.length≤70368744177664)
include hX hy
theorem bKq{a:TSt}(z:j<x.2.1.length)(q:j<1000)(ha:x.2.1.getD j ([],([],[],()),(Ex.mk 0 [] []),())=a)(g:RgK a.2.1)(he:ExK a.2.2.1)(hl:(ln (.state a)).length≤137438953000):jU none s (i:Int) (j:Int) b y=some (.inl ((j:Int)+1,false,y++(ln (.state a)++ [10]))):=by
 obtain⟨t,ht,f⟩:=spn _ g;unfold jU;simp only[Int.toNat_natCast,hX,ha,ht,he.pr.1,Option.bind_some];refine ify (by omega) (aC ⟨by omega,by omega⟩ (aJ (pr1 b y ?_ xAg (Nat.le_trans hl xAb) hy) (aC (by omega) rfl)));rw[join_cons];refine bM2 ?_;have e:tl ([t]++ [[100,101,114],tx 30 a.2.2.1])=tl (rgW a.2.1++ [[100,101,114],tx 30 a.2.2.1]):=by grind[bEV]
 rw[xM,xM,xM a.1,xM [61],← e];rfl
theorem bNX{a:TPa}(z:j<x.2.2.1.length)(q:j<1000)(ha:x.2.2.1.getD j ([],([],[],()),())=a)(g:RgK a.2.1)(hl:(ln (.par a)).length≤137438953000):jT none s (i:Int) (j:Int) b y=some (.inl ((j:Int)+1,false,y++(ln (.par a)++ [10]))):=by
 obtain⟨t,ht,f⟩:=spn _ g;unfold jT;simp only[Int.toNat_natCast,hX,ha,ht,Option.bind_some];refine ify (by omega) (aC ⟨by omega,by omega⟩ (aJ (pr1 b y ?_ xAg (Nat.le_trans hl xAb) hy) (aC (by omega) rfl)));rw[join_cons];refine bM2 ?_;rw[xM,xM,xM a.1,xM [61],← f];rfl
theorem bNY{a:List Nat}(g:j<x.2.2.2.1.length)(f:j<1000)(ha:x.2.2.2.1.getD j []=a)(hl:(ln (.inn a)).length≤137438953000):jS none s (i:Int) (j:Int) b y=some (.inl ((j:Int)+1,false,y++(ln (.inn a)++ [10]))):=by
 unfold jS;simp only[Int.toNat_natCast,hX,ha];exact ify (by omega) (aC ⟨by omega,by omega⟩ (aJ (pr1 b y (join_cons _ _) xAg (Nat.le_trans hl xAb) hy) (aC (by omega) rfl)))
theorem bNZ{a:TOu}(g:j<x.2.2.2.2.1.length)(f:j<1000)(ha:x.2.2.2.2.1.getD j ([],(Ex.mk 0 [] []),())=a)(he:ExK a.2.1)(hl:(ln (.out a)).length≤137438953000):jR none s (i:Int) (j:Int) b y=some (.inl ((j:Int)+1,false,y++(ln (.out a)++ [10]))):=by
 unfold jR;simp only[Int.toNat_natCast,hX,ha,he.pr.1,Option.bind_some];exact ify (by omega) (aC ⟨by omega,by omega⟩ (aJ (pr1 b y (join_cons _ _) xAg (Nat.le_trans hl xAb) hy) (aC (by omega) rfl)))
end
theorem aOL{α:Type}{L:List α}{c:α→PL}(h:LnB (L.map c)){j:Nat}(z:α)(f:j<L.length):(ln (c (L.getD j z))).length≤137438953000:=h _ (List.mem_map_of_mem (mF z f))
theorem bMj{s:TSc}{a:TLk}{j:Nat}{b:Bool}{y:List Nat}(ha:s.2.2.2.2.2.2.2.2.2.1.getD j ([],[],[],[],())=a)(J:NmK a.1∧NmK a.2.1∧NmK a.2.2.1∧NmK a.2.2.2.1)(O:j<s.2.2.2.2.2.2.2.2.2.1.length)(L:j<1000)(hy:y.length≤70368744177664)(f:(ln (.link a)).length≤137438953000):jQ none s (j:Int) b y=some (.inl ((j:Int)+1,false,y++(ln (.link a)++ [10]))):=by
 obtain⟨z,g,I,q⟩:=J;have m1:=z.len;have N:=g.len;have W:=I.len;have U:=q.len;have e1:∀u:List Nat,(u++aI ⟨#[46]⟩).length=u.length+1:=fun u=>by rw[List.length_append]; rfl
 unfold jQ;simp only[Int.toNat_natCast,ha];refine ify (by omega) (aC ⟨by omega,by omega⟩ (aC (by grind) (aC (by grind) (aC (by grind) (aC (by grind) (aJ (pr1 b y ?_ xAg (Nat.le_trans f xAb) hy) (aC (by omega) rfl)))))));rw[join_cons];show _=jw _;rw[wds,show a.1++46::a.2.1=a.1++aI ⟨#[46]⟩++a.2.1 from by rw[List.append_assoc]; rfl,show a.2.2.1++46::a.2.2.2.1=a.2.2.1++aI ⟨#[46]⟩++a.2.2.2.1 from by rw[List.append_assoc]; rfl];rfl
theorem bN0(s:TSc)(hM:ScM s)(i:Nat)(hi:i<s.2.2.2.2.2.2.2.2.1.length)(pre:List PL)(b:Bool)(hp:LnB pre)(Z:pre.length≤335) :
  Tot (nH none s (i:Int) b (jnP pre)) (fun q=>match q with| .inl d=>d.1=(i:Int)+1∧d.2.2=jnP (pre++aFF (s.2.2.2.2.2.2.2.2.1.getD i zS))| .inr _=>False):=by
 have hx:=hM.sb.2 _ (mF zS hi);have hb:=(hM.sb.2 _ (mF zS hi)).b;have hs8:=hM.sb.1;have z:LnB (aFF (s.2.2.2.2.2.2.2.2.1.getD i zS)):=fun p hq=>bAW hM p (List.mem_append_right _ (List.mem_append_left _ (List.mem_flatMap.2 ⟨_,mF zS hi,hq⟩)));have jl:∀U:List PL,LnB U→U.length≤376→(jnP U).length≤70368744177664:=fun U h1 h2=>by
  grind[aId]
 generalize hX:s.2.2.2.2.2.2.2.2.1.getD i zS=x at hx hb z;obtain⟨b1,b2,b3,b4⟩:=hb;have L:LnB [PL.sub x.1]:=fun p hq=>z p (by rw[List.mem_singleton.1 hq]; exact .head _);have O:LnB (x.2.1.map PL.state):=fun p hq=>z p (.tail _ (List.mem_append_left _ hq));have l2:LnB (x.2.2.1.map PL.par):=fun p hq=>z p (.tail _ (List.mem_append_right _ (List.mem_append_left _ hq)));have W:LnB (x.2.2.2.1.map PL.inn):=fun p hq=>z p (.tail _ (List.mem_append_right _ (List.mem_append_right _ (List.mem_append_left _ hq))));have Y:LnB (x.2.2.2.2.1.map PL.out):=fun p hq=>z p (.tail _ (List.mem_append_right _ (List.mem_append_right _ (List.mem_append_right _ hq))));unfold nH;refine .ite (fun _=>.ck (by omega) ?_) fun Z=>absurd (by omega) Z;rw[Int.toNat_natCast];show Tot (Option.bind (cA none [[115,117,98],(s.2.2.2.2.2.2.2.2.1.getD i zS).1] (b,jnP pre)) _) _;rw[hX,pr1 (t:=ln (.sub x.1)) b (jnP pre) (join_cons _ _) xAg (Nat.le_trans (L _ (.head _)) xAb) (jl _ hp (by omega)),← aOK,← aOJ,Option.bind_some];refine Tot.bind (aV7 x.2.1 (([]:List Nat),(([]:List Nat),([]:List Nat),()),(Ex.mk 0 [] []),()) .state (pre++ [PL.sub x.1]) false ((hp.app L).app O) (by grind) (fun j g y f hy=>⟨_,bKq hX hy f (by omega) rfl (hx.x _ (mF _ f)).2.1 (hx.x _ (mF _ f)).2.2 (aOL O _ f)⟩) (fun g y=>?_)) fun e he=>?_
 ·show jU none s (i:Int) (x.2.1.length:Int) g y=_;unfold jU;simp_all
 obtain⟨I,y⟩:=e;have he:y=_:=he;subst he;show Tot (pK none s (i:Int) I _) _;unfold pK;refine Tot.bind (aV7 x.2.2.1 (([]:List Nat),(([]:List Nat),([]:List Nat),()),()) .par _ I (((hp.app L).app O).app l2) (by grind) (fun j g y f hy=>⟨_,bNX hX hy f (by omega) rfl (hx.p _ (mF _ f)).2 (aOL l2 _ f)⟩) (fun g y=>?_)) fun e he=>?_
 ·show jT none s (i:Int) (x.2.2.1.length:Int) g y=_;unfold jT;simp_all
 obtain⟨J,y⟩:=e;have he:y=_:=he;subst he;show Tot (pJ none s (i:Int) J _) _;unfold pJ;refine Tot.bind (aV7 x.2.2.2.1 ([]:List Nat) .inn _ J ((((hp.app L).app O).app l2).app W) (by grind) (fun j g y f hy=>⟨_,bNY hX hy f (by omega) rfl (aOL W _ f)⟩) (fun g y=>?_)) fun e he=>?_
 ·show jS none s (i:Int) (x.2.2.2.1.length:Int) g y=_;unfold jS;simp_all
 obtain⟨N,y⟩:=e;have he:y=_:=he;subst he;show Tot (pI none s (i:Int) N _) _;unfold pI;refine Tot.bind (aV7 x.2.2.2.2.1 (([]:List Nat),(Ex.mk 0 [] []),()) .out _ N (((((hp.app L).app O).app l2).app W).app Y) (by grind) (fun j g y f hy=>⟨_,bNZ hX hy f (by omega) rfl (hx.o _ (mF _ f)).2 (aOL Y _ f)⟩) (fun g y=>?_)) fun e he=>?_
 ·show jR none s (i:Int) (x.2.2.2.2.1.length:Int) g y=_;unfold jR;simp_all
 obtain⟨b4',y⟩:=e;have he:y=_:=he;subst he;refine .ck (by omega) (.ret ⟨rfl,?_⟩);show jnP _=jnP _;simp only[aFF,List.append_assoc,List.singleton_append,List.cons_append,List.nil_append]
theorem prT{β:Type}{f:Bool×List Nat→Option β}{P:β→Prop}{g:List qd}{p:PL}{ps:List PL}{b:Bool}(h:aFt g [32]=ln p)(hl:g.length≤100)(hp:LnB (ps++ [p]))(I:ps.length≤476)(z:Tot (f (false,jnP (ps++ [p]))) P):Tot ((cA none g (b,jnP ps)).bind f) P:=by
 have a:=aId fun q hq=>hp q (List.mem_append_left _ hq);have c:=hp p (List.mem_append_right _ (.head _));rw[pr1 b (jnP ps) h hl (Nat.le_trans c xAb) (by omega),← aOK,← aOJ];exact z
theorem bKr(s:TSc)(hM:ScM s)(hm:yO none s=some true):jA none s=some (jnP (scP s),0,()):=by
 obtain⟨⟨h1,h2,h3,h4⟩,_,_,_⟩:=id hM;have L:=bAW hM;have lh:LnB (heP s):=fun p hp=>L p (List.mem_append_left _ hp);have W:LnB (s.2.2.2.2.2.2.2.2.1.flatMap aFF):=fun p hp=>L p (List.mem_append_right _ (List.mem_append_left _ hp));have ll:LnB (s.2.2.2.2.2.2.2.2.2.1.map PL.link):=fun p hp=>L p (List.mem_append_right _ (List.mem_append_right _ hp));have hs8:=hM.sb.1;have fl:=aKc _ fun a ha=>(hM.sb.2 a ha).b;have i1:=bAV s.1.toNat (by omega);have U:=bAV s.2.1.toNat (by omega);have Y:=bAV s.2.2.1.toNat (by omega);rw[Int.toNat_of_nonneg (by omega)] at i1 U Y;have jl:∀I:List PL,LnB I→I.length≤476→(jnP I).length≤70368744177664:=fun I h1 h2=>by
  grind[aId]
 have B:∀p∈heP s,(ln p).length≤137438953472:=fun p hp=>Nat.le_trans (lh p hp) xAb;have g:∀z:List Nat,jw (wds (.mode s.2.2.2.1))=z→Tot (lR none s z) (fun r=>r=(jnP (scP s),0,())):=fun z O=>by
  unfold lR;simp only[i1,U,Y,Option.bind_some];have f:∀k,LnB ((heP s).take k):=fun k p hp=>lh p (List.mem_of_mem_take hp);refine(prT (ps:=[]) (p:=.prec s.1.toNat) (join_cons _ _) xAg (f 1) xAg (prT (p:=.fin s.2.2.2.2.1) (join_cons _ _) xAg (f 2) xAg (prT (p:=.step s.2.2.2.2.2.1 s.2.2.2.2.2.2.1) (join_cons _ _) xAg (f 3) xAg (prT (p:=.tol s.2.2.2.2.2.2.2.1) (join_cons _ _) xAg (f 4) xAg (prT (p:=.tries s.2.1.toNat) (join_cons _ _) xAg (f 5) xAg (prT (p:=.order s.2.2.1.toNat) (join_cons _ _) xAg (f 6) xAg (prT (p:=.mode s.2.2.2.1) (by rw[join_cons]; show z++ []=_; rw[List.append_nil]; exact O.symm) xAg (f 7) xAg ?_)))))));refine Tot.bind (P:=fun e=>e.2=jnP (heP s++s.2.2.2.2.2.2.2.2.1.flatMap aFF)) (Tot.idx (X:=Bool×List Nat) s.2.2.2.2.2.2.2.2.1.length (fun x i=>x.2=jnP (heP s++(s.2.2.2.2.2.2.2.2.1.take i).flatMap aFF)) (by omega) (fun i x i0 hi h64 hI=>?_) (fun x hI=>?_) ?_) fun e he=>?_
  ·obtain⟨i,rfl⟩:∃j:Nat,i=j:=⟨i.toNat,by omega⟩;have hi:i<s.2.2.2.2.2.2.2.2.1.length:=(by omega);rw[Int.toNat_natCast] at hI ⊢;obtain⟨b,x⟩:=x;have hI:x=_:=hI;subst hI;have hl:((s.2.2.2.2.2.2.2.2.1.take i).flatMap aFF).length≤328:=by
    have:=aKc (s.2.2.2.2.2.2.2.2.1.take i) fun a ha=>(hM.sb.2 a (List.mem_of_mem_take ha)).b;grind
   have hp:LnB (heP s++(s.2.2.2.2.2.2.2.2.1.take i).flatMap aFF):=lh.app fun p hp=>by
    obtain⟨a,ha,J⟩:=List.mem_flatMap.1 hp;exact W p (List.mem_flatMap.2 ⟨a,List.mem_of_mem_take ha,J⟩)
   refine(bN0 s hM i hi _ b hp (by rw[List.length_append]; show 7+_≤335; omega)).mono fun q hq=>?_;cases q with
   | inr _=>simp_all
   | inl d =>
    refine⟨hq.1,hq.2.trans ?_⟩;rw[eP zS hi,List.flatMap_append,List.flatMap_singleton,List.append_assoc]
  ·obtain⟨b,x⟩:=x;have hI:x=_:=hI;rw[List.take_length] at hI;simp_all[Tot,nH,ite,absurd]
  ·rfl
  ·obtain⟨b,x⟩:=e;have he:x=_:=he;subst he;show Tot (pH none s b _) _;unfold pH;refine Tot.bind (aV7 s.2.2.2.2.2.2.2.2.2.1 (([]:List Nat),([]:List Nat),([]:List Nat),([]:List Nat),()) .link _ b ((lh.app W).app ll) ?_ (fun j Z y N hy=>?_) (fun Z y=>?_)) fun e he=>?_
   ·have:=hM.l.1;rw[List.length_append,List.length_append,List.length_map];show 7+_+_≤500;omega
   ·have:=hM.l.1;exact⟨false,bMj rfl (hM.l.2 _ (mF (([]:List Nat),([]:List Nat),([]:List Nat),([]:List Nat),()) N)) N (by omega) hy (aOL ll (([]:List Nat),([]:List Nat),([]:List Nat),([]:List Nat),()) N)⟩
   ·show jQ none s _ Z y=_;unfold jQ;simp_all
   ·obtain⟨b4,y⟩:=e;have he:y=_:=he;subst he;refine .ret ?_;rfl
 refine Tot.eq ?_;unfold jA;rw[hm,Option.bind_some];refine(.ite (fun h=>absurd rfl h) fun _=>.ite (fun h=>g _ ?_) fun h=>g _ ?_)
 ·have h:s.2.2.2.1=2:=h;rw[h];rfl
 ·have h:¬s.2.2.2.1=2:=h;show (if s.2.2.2.1=2 then _ else _)++tl []=_;rw[if_neg h];rfl
end Nu
end Go.Proofs
namespace Go.Proofs
open Go.Vc
set_option maxRecDepth 20000
namespace Nu
def bMk:List qd:=[[116],[115,113,114],[115,113,114,116],[101,120,112],[112,114,101,99],[101,110,100],[115,116,101,112],[116,111,108],[116,114,105,101,115],[111,114,100,101,114],[106,97,99,111,98,105],[115,101,105,100,101,108],[115,117,98],[115,116,97,116,101],[112,97,114],[105,110],[111,117,116],[100,101,114],[108,105,110,107]]
def bN1(w:List Nat):Prop:=(1≤w.length∧w.length≤20)∧(97≤w.getD 0 0∧w.getD 0 0≤122)∧(∀c∈w,mP c=true)∧w∉bMk
theorem bGy{c:Nat}(h:mP c=true):c<256:=by
 unfold mP at h;grind[aYP,oX]
theorem bN2{A:List Bool}{c:Nat}(hc:c<256):Tot (bV none A c) (fun v=>v=A.getD c false):=by
 unfold bV;exact .ck (by omega) (.ret rfl)
theorem bN3{A:List Bool}(f:∀c,mP c=true→A.getD c false=true){s:List Nat}(h:∀c∈s,mP c=true)(hl:s.length≤20):Tot (cM none s A) (fun v=>v= []):=by
 unfold cM;refine Tot.bind (P:=fun v=>v= []) (Tot.loop (fun d=>(∀c∈d,mP c=true)∧d.length≤20) (fun d=>d.length) ?_ ⟨h,hl⟩) fun e he=>.ret he;rintro d ⟨hd,g⟩;show Tot (bW none A d) _;unfold bW;refine .ite (fun hp=>?_) fun q=>.ret (List.eq_nil_of_length_eq_zero (by omega));have hm:=hd _ (fK 0 (l:=d) (k:=((d.length:Int)-1).toNat) (by omega));refine .ck (by omega) (.ck (by omega) ((bN2 (bGy hm)).bind fun v hv=>.ite (fun hh=>absurd (hv.trans (f _ hm)) hh) fun _=>.ck (by omega) (.ck (by omega) (.ret ⟨⟨fun c hc=>hd c (List.mem_of_mem_take hc),?_⟩,?_⟩))))
 ·show (List.take _ d).length≤20;rw[List.length_take];omega
 ·show (List.take _ d).length<d.length;rw[List.length_take];omega
theorem bMl:∃A:List Bool,dD none (aI aA8)=some (A,true,())∧ ∀c,mP c=true→A.getD c false=true:=by
 refine⟨(List.range 256).map mP,?_,fun c hc=>?_⟩
 ·unfold dD;refine aJ (a:=.inl ((List.range 256).map mP)) (aA5 (n:=100) (by rfl)) rfl
 ·have:=bGy hc;grind
theorem bMm{s:List Nat}(h:∀c∈s,mP c=true)(hl:s.length≤20):gY none s (aI aA8)=some []:=by
 obtain⟨A,f,hm⟩:=bMl;obtain⟨v1,e1,rfl⟩:=bN3 hm h hl;unfold gY;by_cases h0:s=aI ⟨#[]⟩∨aI aA8=aI ⟨#[]⟩
 ·refine ify h0 (congrArg some ?_);rcases h0 with h0|h0
  ·exact h0
  ·exact absurd h0 xAb
 ·refine ifn h0 (aC xAb (ifn xAb (aJ f (ify rfl (aJ e1 (aJ ?_ rfl))))));unfold dH;exact aJ (aA5 (n:=1) (by rfl)) rfl
theorem bDm(w:List Nat)(q:T8 w):Tot (cR none w) (fun b=>b=true↔bN1 w):=by
 obtain⟨b,hb,_⟩:=bDb w q;have f:gI none=some bMk:=by rfl
 refine⟨b,hb,fun h=>?_,fun h=>?_⟩
 ·subst h;obtain⟨⟨c,u,rfl,hc⟩,g,h3⟩:=bMb hb;unfold cR at hb;obtain⟨_,hb⟩:=bE hb;obtain⟨_,hb⟩:=bE hb;split at hb
  ·cases hb
  ·rename_i N;obtain⟨v,hv,hb⟩:=bind_some hb;obtain⟨_,hb⟩:=bE hb;obtain⟨_,hb⟩:=bE hb;have hb:=Option.some.inj hb;rw[Bool.and_eq_true,f,Option.getD_some,contains_eq _ _ xAb,Option.getD_some,Bool.not_eq_true',decide_eq_false_iff_not] at hb;exact⟨⟨by omega,by omega⟩,⟨by omega,by omega⟩,g,hb.2⟩
 ·obtain⟨⟨J,g⟩,⟨h3,L⟩,z,I⟩:=h;have e:cR none w=some true:=by
   unfold cR;refine aC (by omega) (aC (by omega) (ifn (by omega) (aJ (bMm z g) (aC (fun _=>by rw[f]; rfl) (aC (fun _=>by rw[f,Option.getD_some,contains_eq _ _ xAb]; rfl) ?_)))));rw[f,Option.getD_some,contains_eq _ _ xAb,Option.getD_some,decide_eq_false I];rfl
  rw[e] at hb;exact(Option.some.inj hb).symm
theorem bM3:∀ {n:Nat} {e:Ex},KE n e→ ∀ {m:Nat},ht n e≤m→KE m e:=by
 intro n e I
 induction I with
 | leaf n k t h=>intro m hm; obtain⟨m,rfl⟩:∃j,m=j+1:=⟨m-1,by have:ht (n+1) (Ex.mk k t [])=1+0:=rfl; omega⟩; exact .leaf m k t h
 | two n k t a b g q ha hb f z =>
  intro m hm;have e1:ht (n+1) (Ex.mk k t [a,b])=1+max (ht n a) (max (ht n b) 0):=rfl;obtain⟨m,rfl⟩:∃j,m=j+1:=⟨m-1,by omega⟩;exact .two m k t a b g q (f (by omega)) (z (by omega))
 | neg n t a ha f =>
  intro m hm;have e1:ht (n+1) (Ex.mk 10 t [a])=1+max (ht n a) 0:=rfl;obtain⟨m,rfl⟩:∃j,m=j+1:=⟨m-1,by omega⟩;exact .neg m t a (f (by omega))
 | fn n k t a g q ha f =>
  intro m hm;have e1:ht (n+1) (Ex.mk k t [a])=1+max (ht n a) 0:=rfl;obtain⟨m,rfl⟩:∃j,m=j+1:=⟨m-1,by omega⟩;exact .fn m k t a g q (f (by omega))
theorem bKs{s:List Nat}(h:fm s=true):s.length≤60:=by
 unfold fm cK at h;split at h
 ·cases h
 omega
theorem bGz{s:List Nat}(h:fm (sg s)=true):s.length≤100:=by
 have:=bKs h;unfold sg at this;split at this
 ·rw[List.length_drop] at this;omega
 ·omega
theorem bM4(e:Ex)(names:List qd){n:Nat}(f:n≤64)(g:fits n e)(h3:nd n e≤1000)(hl:names.length≤1000):bQ none e names=some (decide (nd n e≤60∧ht n e≤30)&&(gk n e&&lvs names n e)):=by
 unfold bQ;rw[bAG names hl n 64 e f g];exact aJ (bJ7 g f h3) (aC (fun _=>rfl) rfl)
theorem ExK.of{e:Ex}{names:List qd}(he:OkE e)(hl:names.length≤1000)(hm:bQ none e names=some true):ExK e:=by
 obtain⟨n,q,f,h3⟩:=he;rw[bM4 e names q f h3 hl] at hm;have hm:=Option.some.inj hm;rw[Bool.and_eq_true,Bool.and_eq_true] at hm;obtain⟨m1,g,z⟩:=hm;have m1:=of_decide_eq_true m1;exact⟨bM3 (bKl n e f g) m1.2,(bAI n 30 e f m1.2).1⟩
theorem RgK.of{r:TRg}(h:aMH r):RgK r:=by
 obtain⟨f,g,_⟩:=h;have a:=bGz f;have b:=bGz g;unfold bKh at b;refine⟨a,?_⟩;split at b
 ·rename_i h;rw[h];exact Nat.zero_le _
 ·exact b
theorem NmK.of{t:List Nat}(h:cR none t=some true)(f:T8 t):NmK t:=by
 obtain⟨b,hb,hi⟩:=bDm t f;rw[h] at hb;have:=hi.1 (Option.some.inj hb).symm;exact this.1.2
theorem bMn{s:aDS}(h:aXV s):(nmS s).length≤16:=by
 obtain⟨b1,q,f,g⟩:=h.b;grind[nmS]
theorem bMi.of{s:aDS}(g:cR none s.1=some true)(ok:bDc s)(h:aXV s):bMi s:=by
 obtain⟨b1,I,q,J⟩:=h.b;have f:∀x∈nmS s,cR none x=some true:=fun x hx=>h.n.1 x (List.mem_append_left _ hx);have z:=bMn h;exact⟨.of g ok.n,
  fun a ha=>⟨.of (f _ (List.mem_append_left _ (List.mem_map_of_mem ha))) (ok.x.2 a ha).1,.of (h.x a ha).1,.of (ok.x.2 a ha).2.2.2 (by omega) (h.x a ha).2⟩,
  fun a ha=>⟨.of (f _ (List.mem_append_right _ (List.mem_append_left _ (List.mem_map_of_mem ha)))) (ok.p.2 a ha).1,.of (h.p a ha)⟩,
  fun a ha=>.of (f _ (List.mem_append_right _ (List.mem_append_right _ ha))) (ok.u.2 a ha),
  fun a ha=>⟨.of (h.n.1 _ (List.mem_append_right _ (List.mem_map_of_mem ha))) (ok.o.2 a ha).1,.of (ok.o.2 a ha).2 (by omega) (h.o a ha)⟩,by omega⟩
theorem bDn:∀L:List aDS,(∀x∈L,x.2.2.2.1.length≤4)→(L.flatMap kS).length≤L.length*4
 | [],_=>Nat.le_refl 0
 | x::L,h=>by
  have:=bDn L fun y hy=>h y (.tail _ hy);have:=h x (.head _);rw[List.flatMap_cons,List.length_append,List.length_cons,kS,List.length_map];omega
theorem bHH{s:TSc}(h:ScX s):s.2.2.2.2.2.2.2.2.2.1.length≤16:=by
 have:=bDn _ fun x hx=>(h.r.2 x hx).b.2.2.1;rw[← h.l.1,List.length_map] at this;have:=h.r.1;omega
theorem ScM.of{s:TSc}(ok:bAH s)(h:ScX s):ScM s:=by
 obtain⟨⟨n1,n2,n3,O⟩,⟨U,J,L,W⟩,_⟩:=h.n;have g:∀ {w:List Nat},aKS w→LiK w:=fun h=>Nat.le_trans (bKs h.1) xAb;have sb:∀x∈s.2.2.2.2.2.2.2.2.1,bMi x:=fun x hx=>.of (h.w.1 x.1 (List.mem_map_of_mem hx)) (ok.sb.2 x hx) (h.r.2 x hx);refine⟨⟨by omega,by omega,by omega,O⟩,⟨g U,g J,g L,g W⟩,⟨by have:=h.r.1; omega,sb⟩,⟨by have:=bHH h; omega,fun a ha=>?_⟩⟩;have hk:kL a∈s.2.2.2.2.2.2.2.2.1.flatMap kS:=by
  rw[← h.l.1];grind
 obtain⟨x,hx,q⟩:=List.mem_flatMap.1 hk;obtain⟨u,Y,f⟩:=List.mem_map.1 q;obtain⟨y,hy,e1,o,Z,I⟩:=h.l.2 a ha;have z:x.1=a.1:=congrArg Prod.fst f;have N:u=a.2.1:=congrArg Prod.snd f;exact⟨z▸(sb x hx).n,N▸(sb x hx).u u Y,e1.symm▸(sb y hy).n,I▸((sb y hy).o o Z).1⟩
theorem aQD(c:Nat):eO none c=some (oX c):=by
 unfold eO oX;rw[Bool.decide_and]
theorem aV8{s:List Nat}{i k:Nat}(h:k≤bN s i):k<bN s i↔i+k<s.length∧oX (s.getD (i+k) 0)=true:=by
 have hx:s.getD (i+k) 0=(s.drop i).getD k 0:=by simp[List.getD_eq_getElem?_getD,List.getElem?_drop]
 have ht:=bJO (p:=oX) (s.drop i) k h;rw[hx];refine ht.trans ?_;rw[List.length_drop];constructor
 ·rintro⟨g,f⟩; exact⟨by omega,f⟩
 ·rintro⟨g,f⟩; exact⟨by omega,f⟩
theorem aV9{f:Int→Option (Int⊕Int)}(s:List Nat)(hs:s.length≤1099511627776)(i:Nat)(hi:i≤s.length)
  (q:∀n:Int,f n=ck ((n<(s.length:Int))→(0≤n∧n<(s.length:Int))) (ck ((n<(s.length:Int))→(eO none (s.getD n.toNat 0)).isSome=true) (if n<(s.length:Int)∧(eO none (s.getD n.toNat 0)).getD false=true then ck (I64 (n+1)) (some (.inl (n+1))) else some (.inr n)))) :
  aGG f (i:Int)=some ((i+bN s i:Nat):Int):=by
 have hd:=xK s i;refine kU (step:=f) (I:=fun n=>(i:Int)≤n∧n≤((i+bN s i:Nat):Int)) (fun n=>(((i+bN s i:Nat):Int)-n).toNat) (fun _=>((i+bN s i:Nat):Int)) ?_ (i:Int) ⟨by omega,by omega⟩;intro n ⟨J,L⟩;obtain⟨k,rfl⟩:∃k:Nat,n=((i+k:Nat):Int):=⟨(n-i).toNat,by omega⟩;have ht:=aV8 (s:=s) (i:=i) (k:=k) (by omega);rw[q,aQD,Int.toNat_natCast,Option.getD_some];by_cases hk:k<bN s i
 ·left
  obtain⟨z,g⟩:=ht.1 hk;refine⟨((i+k:Nat):Int)+1,?_,⟨by omega,by omega⟩,by omega,rfl⟩;refine aC (fun _=>by constructor<;>omega) (aC (fun _=>rfl) ?_);rw[if_pos ⟨by omega,g⟩];exact aC (by constructor<;>omega) rfl
 ·right
  refine aC (fun _=>by constructor<;>omega) (aC (fun _=>rfl) ?_);rw[if_neg (fun h=>hk (ht.2 ⟨by omega,h.2⟩))]
  congr 2; omega
theorem bKt(s:List Nat)(hs:s.length≤1099511627776)(k:Nat)(hk:k≤s.length+2) :
  aGG (fun d:Int×Int=>fT none s (k:Int) d.1 d.2) ((k:Int),0)=some (((k+min (bN s k) 4:Nat):Int),(dW ((s.drop k).take (min (bN s k) 4)):Int)):=by
 have hd:=xK s k;refine kU (step:=fun d:Int×Int=>fT none s (k:Int) d.1 d.2) (I:=fun d=>(k:Int)≤d.1∧d.1≤((k+min (bN s k) 4:Nat):Int)∧d.2=(dW ((s.drop k).take (d.1-k).toNat):Int)) (fun d=>(((k+min (bN s k) 4:Nat):Int)-d.1).toNat) (fun _=>(((k+min (bN s k) 4:Nat):Int),(dW ((s.drop k).take (min (bN s k) 4)):Int))) ?_ ((k:Int),0) ⟨by simp,by simp only; omega,by simp[dW]⟩;rintro⟨n,v⟩ ⟨N,O,f⟩;have N:(k:Int)≤n:=N;have O:n≤((k+min (bN s k) 4:Nat):Int):=O;have f:v=(dW ((s.drop k).take (n-k).toNat):Int):=f;obtain⟨j,rfl⟩:∃j:Nat,n=((k+j:Nat):Int):=⟨(n-k).toNat,by omega⟩;rw[show (((k+j:Nat):Int)-(k:Int)).toNat=j from by omega] at f;show (∃Z,fT none s (k:Int) ((k+j:Nat):Int) v=_∧_)∨fT none s (k:Int) ((k+j:Nat):Int) v=_;have ht:=aV8 (s:=s) (i:=k) (k:=j) (by omega);unfold fT;rw[aQD,Int.toNat_natCast,Option.getD_some];by_cases Y:j<min (bN s k) 4
 ·left
  obtain⟨W,J⟩:=ht.1 (by omega);have L:48≤s.getD (k+j) 0∧s.getD (k+j) 0≤57:=by simpa only[oX,decide_eq_true_iff] using J
  have q:pN none .u8 (s.getD (k+j) 0) 48=s.getD (k+j) 0-48:=bL0 (by omega) L.1;have hx:(s.drop k).getD j 0=s.getD (k+j) 0:=by simp[List.getD_eq_getElem?_getD,List.getElem?_drop]
  have z:dW ((s.drop k).take (j+1))=dW ((s.drop k).take j)*10+(s.getD (k+j) 0-48):=by
   rw[take_succ (by rw[List.length_drop]; omega),aQu,hx]
  have U:dW ((s.drop k).take j)<10^4:=by
   have g:=aDQ s k;have hp:∀c∈(s.drop k).take j,oX c=true:=fun c hc=>g c (by
    have:(s.drop k).take j=((s.drop k).take (bN s k)).take j:=(by rw[List.take_take,Nat.min_eq_left (by omega)]);rw[this] at hc; exact List.mem_of_mem_take hc)
   refine Nat.lt_of_lt_of_le (aDk hp) (Nat.pow_le_pow_right xAb ?_);rw[List.length_take]; omega
  refine⟨(((k+j:Nat):Int)+1,(dW ((s.drop k).take (j+1)):Int)),?_,⟨by simp only; omega,by simp only; omega,?_⟩,by simp only; omega,rfl⟩
  ·refine aC (fun _=>by constructor<;>omega) (aC (fun _=>by constructor<;>omega) (aC (fun _=>rfl) ?_));rw[if_pos ⟨⟨by omega,by omega⟩,J⟩,q,f,z];refine aC (by constructor<;>omega) (aC (by constructor<;>omega) (aC (by constructor<;>omega) (aC (by constructor<;>omega) ?_)))
   congr 3
  ·simp only;rw[show (((k+j:Nat):Int)+1-(k:Int)).toNat=j+1 from by omega]
 ·right
  have e:j=min (bN s k) 4:=by omega
  refine aC (fun _=>by constructor<;>omega) (aC (fun _=>by constructor<;>omega) (aC (fun _=>rfl) ?_));rw[if_neg ?_,f,e];rintro⟨⟨W,J⟩,h3⟩;have:=ht.2 ⟨by omega,h3⟩;omega
def bEW(s:List Nat)(i:Nat):Nat :=
 if cV s i 101 then
  if 1≤bN s (if cV s (i+1) 45∨cV s (i+1) 43 then i+2 else i+1)∧bN s (if cV s (i+1) 45∨cV s (i+1) 43 then i+2 else i+1)≤3∧dW ((s.drop (if cV s (i+1) 45∨cV s (i+1) 43 then i+2 else i+1)).take (bN s (if cV s (i+1) 45∨cV s (i+1) 43 then i+2 else i+1)))≤100
  then (if cV s (i+1) 45∨cV s (i+1) 43 then i+2 else i+1)+bN s (if cV s (i+1) 45∨cV s (i+1) 43 then i+2 else i+1) else i
 else i
def bEX(s:List Nat):Nat :=
 if bN s 0=0 then 0
 else if cV s (bN s 0) 46∧bN s (bN s 0+1)≠0 then bEW s (bN s 0+1+bN s (bN s 0+1))
 else bEW s (bN s 0)
theorem bGA(s:List Nat)(hs:s.length≤1099511627776)(i k:Nat)(hi:i≤s.length)(hk:k≤s.length+2) :
  jI none s 0 (i:Int) (k:Int)=some ((if 1≤bN s k∧bN s k≤3∧dW ((s.drop k).take (bN s k))≤100 then k+bN s k else i:Nat):Int):=by
 have hd:=xK s k;unfold jI rL;refine aJ (bKt s hs k hk) ?_;simp only;refine aC (fun _=>by constructor<;>omega) ?_;by_cases h:1≤bN s k∧bN s k≤3∧dW ((s.drop k).take (bN s k))≤100
 ·have e:min (bN s k) 4=bN s k:=by omega
  rw[if_pos h,e,if_pos ⟨⟨by omega,by omega⟩,by omega⟩];refine aC (by constructor<;>omega) ?_
  congr 1
 ·rw[if_neg h,if_neg ?_]
  ·refine aC (by constructor<;>omega) ?_
   congr 1
  ·rintro⟨⟨f,g⟩,h3⟩;have e:min (bN s k) 4=bN s k:=(by omega);rw[e] at h3;exact h ⟨by omega,by omega,by omega⟩
theorem bGB(s:List Nat)(hs:s.length≤1099511627776)(i:Nat)(hi:i≤s.length):jJ none s 0 (i:Int)=some ((bEW s i:Nat):Int):=by
 have e:((i:Int)+1).toNat=i+1:=by omega
 unfold jJ bEW;rw[Int.toNat_natCast,e];refine aC (fun _=>by constructor<;>omega) ?_;by_cases h:cV s i 101
 ·have h':i<s.length∧s.getD i 0=101:=h;rw[if_pos ⟨by omega,h'.2⟩,if_pos h];refine aC (by constructor<;>omega) (aC (fun _=>by constructor<;>omega) (aC (fun _ _=>by constructor<;>omega) ?_));by_cases g:cV s (i+1) 45∨cV s (i+1) 43
  ·have f:(i+1<s.length∧s.getD (i+1) 0=45)∨(i+1<s.length∧s.getD (i+1) 0=43):=g;rw[if_pos (by rcases f with h|h; exact⟨by omega,.inr h.2⟩; exact⟨by omega,.inl h.2⟩)];refine aC (by constructor<;>omega) ?_;have:=bGA s hs i (i+2) hi (by omega);rw[show ((i+2:Nat):Int)=(i:Int)+1+1 from by omega] at this;rw[this];simp only[g,if_true]
  ·have f:¬((i+1<s.length∧s.getD (i+1) 0=45)∨(i+1<s.length∧s.getD (i+1) 0=43)):=g;rw[if_neg (fun h=>f (by rcases h with⟨h3,q|q⟩; exact .inr ⟨by omega,q⟩; exact .inl ⟨by omega,q⟩))];have:=bGA s hs i (i+1) hi (by omega);rw[show ((i+1:Nat):Int)=(i:Int)+1 from by omega] at this;rw[this];simp only[g,if_false]
 ·have h':¬(i<s.length∧s.getD i 0=101):=h;rw[if_neg (fun h=>h' ⟨by omega,h.2⟩),if_neg h];refine aC (by constructor<;>omega) ?_
  congr 1
theorem bDo(s:List Nat)(hs:s.length≤1099511627776):pZ none s 0=some ((bEX s:Nat):Int):=by
 have hd:=xK s 0;have I:=xK s (bN s 0+1);unfold pZ;have z:=aV9 (f:=fun d:Int=>xE none s d) s hs 0 (by omega) (fun n=>rfl);rw[Nat.zero_add] at z;refine aJ z ?_;unfold rM bEX;have e:((bN s 0:Int)+1).toNat=bN s 0+1:=by omega
 by_cases h0:bN s 0=0
 ·rw[if_pos (by omega),if_pos h0]; rfl
 ·rw[if_neg (by omega),if_neg h0,Int.toNat_natCast,e,aQD,Option.getD_some];refine aC (by constructor<;>omega) (aC (fun _=>by constructor<;>omega) (aC (fun _=>by constructor<;>omega) (aC (fun _=>by constructor<;>omega) (aC (fun _=>rfl) ?_))));have hi:=aV8 (s:=s) (i:=bN s 0+1) (k:=0) (Nat.zero_le _);rw[Nat.add_zero] at hi;by_cases g:cV s (bN s 0) 46∧bN s (bN s 0+1)≠0
  ·have q:bN s 0<s.length∧s.getD (bN s 0) 0=46:=g.1;obtain⟨q1,L⟩:=hi.1 (by omega);rw[if_pos ⟨⟨by omega,q.2⟩,L⟩,if_pos g];have h3:=aV9 (f:=fun d:Int=>xD none s d) s hs (bN s 0+1) (by omega) (fun n=>rfl);rw[show ((bN s 0+1:Nat):Int)=(bN s 0:Int)+1 from by omega] at h3;exact aC (by constructor<;>omega) (aJ h3 (bGB s hs _ (by omega)))
  ·rw[if_neg ?_,if_neg g]
   ·exact bGB s hs _ (by omega)
   ·rintro⟨⟨O,N⟩,J⟩;have:=hi.2 ⟨by omega,J⟩;exact g ⟨⟨by omega,N⟩,by omega⟩
theorem bDp(s:List Nat)(i:Nat)(all:List Nat)(f:Int):decide (bEW s i=s.length)=(aVV s i all f).2.2.1:=by
 unfold bEW aVV;by_cases h:cV s i 101
 ·have h':i<s.length:=h.1;rw[if_pos h,if_pos h];generalize (if cV s (i+1) 45∨cV s (i+1) 43 then i+2 else i+1)=k;unfold aH9;by_cases g:bN s k<1∨3<bN s k
  ·rw[if_pos g,if_neg (by omega),decide_eq_false (by omega)]; rfl
  ·rw[if_neg g];by_cases q:100<dW ((s.drop k).take (bN s k))
   ·rw[if_pos q,if_neg (by omega),decide_eq_false (by omega)]; rfl
   ·rw[if_neg q,if_pos (by omega)]
 ·rw[if_neg h,if_neg h]
theorem bDq(s:List Nat)(hs:s.length≤1099511627776):iL none s=some (cK s).2.2.1:=by
 have hd:=xK s 0;unfold iL;rw[bDo s hs,Option.getD_some];refine aC (fun _=>rfl) ?_
 congr 1
 have J:aI ⟨#[]⟩= []:=rfl;rw[J];have f:decide (((bEX s:Nat):Int)=(s.length:Int))=decide (bEX s=s.length):=decide_eq_decide.2 (by omega);rw[f];by_cases h0:bN s 0=0
 ·have e1:cK s=litNo:=by unfold cK; exact if_pos (.inr h0)
  have L:bEX s=0:=by unfold bEX; exact if_pos h0
  rw[e1,L];by_cases he:s= []
  ·subst he; rfl
  ·have:=List.length_pos_iff.2 he;rw[decide_eq_false (show ¬0=s.length by omega),Bool.and_false]; rfl
 ·have z:s≠ []:=by intro e; rw[e] at h0; exact h0 rfl
  rw[decide_eq_false z];by_cases hl:60<s.length
  ·have e1:cK s=litNo:=(by unfold cK; exact if_pos (.inl hl));rw[e1,decide_eq_false (show ¬(s.length:Int)≤60 by omega)]; rfl
  ·unfold cK;rw[if_neg (by rintro (h|h); exact hl h; exact h0 h),decide_eq_true (show (s.length:Int)≤60 by omega)];unfold bEX;rw[if_neg h0];simp only[Bool.not_false,Bool.true_and];by_cases g:cV s (bN s 0) 46
   ·have I:bN s 0<s.length∧s.getD (bN s 0) 0=46:=g;rw[if_pos g];by_cases q:bN s (bN s 0+1)=0
    ·rw[if_pos q,if_neg (fun h=>h.2 q)];have:¬cV s (bN s 0) 101:=fun h=>(by have:=h.2; rw[I.2] at this; cases this);unfold bEW;rw[if_neg this,decide_eq_false (by omega)]; rfl
    ·rw[if_neg q,if_pos ⟨g,q⟩];exact bDp s _ _ _
   ·rw[if_neg g,if_neg (fun h=>g h.1)];exact bDp s _ _ _
theorem parts_eq(k:Int):dN none k=some (prt k):=by
 unfold dN prt;split
 ·rfl
 ·split
  ·rfl
  ·split<;>rfl
theorem count_eq:∀(n k:Nat) (e:Ex) (a:Nat),n≤k→fits n e→1≤a→a+n≤1000 →
  ∃(c d:Nat) (ok:Bool),iZ none k e (a:Int)=some ((c:Int),(d:Int),ok,())∧1≤c∧c≤61∧1≤d∧d≤31+n∧((gk n e=true∧a+ht n e≤31)→c=min (nd n e) 61∧d=ht n e∧ok=true)∧(¬(gk n e=true∧a+ht n e≤31)→ok=false∨c=61)
 | 0,k,e,a,hk,J,U,ha=>J.elim
 | n+1,0,e,a,hk,J,U,ha=>absurd hk (by omega)
 | n+1,k+1,e,a,hk,J,U,ha=>by
  have hp:=bAF J;obtain⟨hf1,hf2,Y⟩:=J;have hnd:nd (n+1) e=1+aAE (nd n) e.l:=rfl;have hht:ht (n+1) e=1+mxN (ht n) e.l:=rfl;have g:gk (n+1) e=(decide (prt e.kind=(e.l.length:Int))&&e.l.all (gk n)):=rfl;show ∃(c d:Nat) (ok:Bool),rC none (iZ none k) e (a:Int)=_∧_;unfold rC;rw[parts_eq];simp only[Option.getD_some,Option.isSome_some];by_cases hc:((30:Int)<(a:Int)∨prt e.kind<0)∨ ¬prt e.kind=(e.l.length:Int)
  ·refine⟨61,31,(decide ((0:Int)≤prt e.kind)&&decide (prt e.kind=(e.l.length:Int))),?_,by omega,by omega,by omega,by omega,fun⟨c1,L⟩=>?_,fun _=>.inr rfl⟩
   ·refine aC xAg (aC xAg ?_);rw[if_pos hc];exact aC trivial (aC xAg rfl)
   ·exfalso;rw[g,Bool.and_eq_true,decide_eq_true_iff] at c1;omega
  ·have W:prt e.kind=(e.l.length:Int):=(by omega);have g:gk (n+1) e=e.l.all (gk n):=(by rw[g,decide_eq_true W]; rfl);obtain⟨r,hr,hQ⟩:=cO (step:=fun d:Int×Int×Int=>lK none (iZ none k) e (a:Int) d.1 d.2.1 d.2.2)
    (I:=fun d=>∃i x y:Nat,d=((x:Int),(y:Int),(i:Int))∧i≤e.l.length∧1≤x∧x≤61∧1≤y∧y≤32+n ∧
     (((e.l.take i).all (gk n)=true∧a+1+mxN (ht n) (e.l.take i)≤31)→x=min (1+aAE (nd n) (e.l.take i)) 61∧y=1+mxN (ht n) (e.l.take i)) ∧
     (¬((e.l.take i).all (gk n)=true∧a+1+mxN (ht n) (e.l.take i)≤31)→x=61))
    (fun d=>((e.l.length:Int)-d.2.2).toNat)
    (fun r=>(∃x y:Nat,r= .inl ((x:Int),(y:Int))∧1≤x∧x≤61∧1≤y∧y≤32+n∧((e.l.all (gk n)=true∧a+1+mxN (ht n) e.l≤31)→x=min (1+aAE (nd n) e.l) 61∧y=1+mxN (ht n) e.l) ∧
     (¬(e.l.all (gk n)=true∧a+1+mxN (ht n) e.l≤31)→x=61))∨(r= .inr ((61:Int),(31:Int),false,())∧ ¬(e.l.all (gk n)=true∧a+1+mxN (ht n) e.l≤31)))
    (by
     rintro d ⟨i,x,y,rfl,U,h2,h3,h4,h5,N,O⟩;show (∃d',lK none (iZ none k) e (a:Int) (x:Int) (y:Int) (i:Int)=_∧_)∨ ∃r,lK none (iZ none k) e (a:Int) (x:Int) (y:Int) (i:Int)=_∧_;unfold lK;by_cases hi:i<e.l.length
     ·have s2:=aKH (nd n) hi;have s3:=bDa (ht n) hi;have Z:=aVY (f:=gk n) hi;have z:=Y _ (aJ1 hi);have hpos:=bNQ z;have hsub:aAE (nd n) (e.l.take (i+1))≤aAE (nd n) e.l:=bGm _ _ _;obtain⟨c,d,ok,p1,p2,p3,p4,p5,p6,p7⟩:=count_eq n k (e.l.getD i (Ex.mk 0 [] [])) (a+1) (by omega) z (by omega) (by omega);rw[show ((a+1:Nat):Int)=(a:Int)+1 from by omega] at p1;rw[if_pos (by omega),Int.toNat_natCast,p1];simp only[Option.isSome_some,Option.getD_some];cases ok with
      | false =>
       right
       refine⟨_,aC (by constructor<;>omega) (aC (by constructor<;>omega) (aC xAg (if_pos xAb))),.inr ⟨rfl,fun⟨c1,L⟩=>?_⟩⟩;have hmx:mxN (ht n) (e.l.take (i+1))≤mxN (ht n) e.l:=by
        have:mxN (ht n) e.l=max (mxN (ht n) (e.l.take (i+1))) (mxN (ht n) (e.l.drop (i+1))):=by
         rw[mxN,mxN,mxN,← bNP,← List.map_append,List.take_append_drop]
        omega
       have hg:gk n (e.l.getD i (Ex.mk 0 [] []))=true:=List.all_eq_true.1 c1 _ (aJ1 hi);have:=(p6 ⟨hg,by omega⟩).2.2;cases this
      | true =>
       left
       refine⟨(((min (x+c) 61:Nat):Int),((max y (d+1):Nat):Int),((i+1:Nat):Int)),?_,⟨i+1,min (x+c) 61,max y (d+1),rfl,by omega,by omega,by omega,by omega,by omega,fun⟨c1,L⟩=>?_,fun c1=>?_⟩,by simp only; omega⟩
       ·refine aC (by constructor<;>omega) (aC (by constructor<;>omega) (aC xAg ?_));rw[if_neg xAg];refine aC (by constructor<;>omega) (aC (by constructor<;>omega) (aC (by constructor<;>omega) ?_))
        congr 3
        ·omega
        ·congr 1; omega
       ·rw[Z,Bool.and_eq_true] at c1;obtain⟨u1,u2⟩:=N ⟨c1.1,by omega⟩;obtain⟨v1,v2,_⟩:=p6 ⟨c1.2,by omega⟩;omega
       ·by_cases hb:(e.l.take i).all (gk n)=true∧a+1+mxN (ht n) (e.l.take i)≤31
        ·have:¬(gk n (e.l.getD i (Ex.mk 0 [] []))=true∧a+1+ht n (e.l.getD i (Ex.mk 0 [] []))≤31):=fun hx=>c1 ⟨by rw[Z,hb.1,hx.1]; rfl,by omega⟩;rcases p7 this with q|q
         ·cases q
         ·omega
        ·have:=O hb;omega
     ·right
      have e1:e.l.take i=e.l:=aKI (by omega);rw[e1] at N O;refine⟨.inl ((x:Int),(y:Int)),?_,.inl ⟨x,y,rfl,h2,h3,h4,h5,N,O⟩⟩;rw[if_neg (by omega)])
    ((1:Int),(1:Int),(0:Int)) ⟨0,1,1,rfl,by omega,by omega,by omega,by omega,by omega,fun _=>by rw[bEQ,bJ5]; omega,fun c1=>absurd ⟨by simp,by rw[bJ5]; omega⟩ c1⟩
   have hm:=bAE (bJ6 n) e.l;rcases hQ with⟨x,y,rfl,q1,q2,q3,q4,q5,q6⟩|⟨rfl,q1⟩
   ·refine⟨x,y,true,?_,by omega,by omega,by omega,by omega,fun⟨c1,L⟩=>?_,fun c1=>.inr (q6 fun⟨z1,z2⟩=>c1 ⟨by rw[g]; exact z1,by omega⟩)⟩
    ·refine aC xAg (aC xAg ?_);rw[if_neg hc];exact aJ hr rfl
    ·obtain⟨z1,z2⟩:=q5 ⟨by rw[← g]; exact c1,by omega⟩;exact⟨by omega,by omega,rfl⟩
   ·refine⟨61,31,false,?_,by omega,by omega,by omega,by omega,fun⟨c1,L⟩=>absurd ⟨by rw[← g]; exact c1,by omega⟩ q1,fun _=>.inl rfl⟩;refine aC xAg (aC xAg ?_);rw[if_neg hc];exact aJ hr rfl
theorem aWa(l:List qd)(v:List Nat)(hl:l.length≤1000):∃r:Int,hZ none l v=some r∧((0:Int)≤r↔v∈l):=by
 obtain⟨e,he,q⟩:=cO (step:=fun d:Int=>lJ none l v d) (I:=fun d=>∃j:Nat,d=(j:Int)∧j≤l.length∧v∉l.take j) (fun d=>((l.length:Int)-d).toNat)
  (fun e=>(e= .inl ()∧v∉l)∨ ∃j:Nat,e= .inr (j:Int)∧v∈l)
  (by
   rintro d ⟨j,rfl,z,g⟩;show (∃J,lJ none l v (j:Int)=_∧_)∨ ∃e,lJ none l v (j:Int)=_∧_;unfold lJ;by_cases f:j<l.length
   ·rw[if_pos (by omega),Int.toNat_natCast];by_cases hv:l.getD j []=v
    ·right
     exact⟨_,aC (by constructor<;>omega) (if_pos hv),.inr ⟨j,rfl,by rw[← hv]; exact mF [] f⟩⟩
    ·left
     refine⟨((j+1:Nat):Int),aC (by constructor<;>omega) ((if_neg hv).trans (aC (by constructor<;>omega) rfl)),⟨j+1,rfl,by omega,?_⟩,by omega⟩;rw[eP [] f,List.mem_append];rintro (h|h)
     ·exact g h
     ·exact hv (List.mem_singleton.1 h).symm
   ·right
    rw[if_neg (by omega)];exact⟨_,rfl,.inl ⟨rfl,by rwa [List.take_of_length_le (by omega)] at g⟩⟩) (0:Int) ⟨0,rfl,by omega,by simp⟩
 unfold hZ;rcases q with⟨rfl,h⟩|⟨j,rfl,h⟩
 ·exact⟨-1,aJ he rfl,fun h0=>absurd h0 xAb,fun h0=>absurd h0 h⟩
 ·exact⟨j,aJ he rfl,fun _=>h,fun _=>by omega⟩
theorem bKu(s:List Nat)(hs:s.length≤1000):iL none s=some (fm s):=bDq s (by omega)
theorem aYT(names:List qd)(f:names.length≤1000):∀(n k:Nat) (e:Ex),n≤k→fits n e→jK none k e names=some (lvs names n e)
 | 0,k,e,hk,J=>J.elim
 | n+1,0,e,hk,J=>absurd hk (by omega)
 | n+1,k+1,e,hk,J=>by
  obtain⟨hf1,hf2,W⟩:=J;have O:lvs names (n+1) e=if e.kind=1 then fm e.text else if e.kind=2 then (decide (e.text=aI ⟨#[116]⟩)||decide (e.text∈names)) else (decide (e.text=aI ⟨#[]⟩)&&e.l.all (lvs names n)):=rfl
  show pC none (jK none k) e names=_;unfold pC;obtain⟨r,N,L⟩:=aWa names e.text f;rw[O,bKu _ (by omega),N];simp only[Option.isSome_some,Option.getD_some];by_cases g:e.kind=1
  ·rw[if_pos g,if_pos g];exact aC trivial rfl
  ·rw[if_neg g,if_neg g];by_cases z:e.kind=2
   ·rw[if_pos z,if_pos z];refine aC xAg ?_;rw[decide_eq_decide.2 L]
   ·rw[if_neg z,if_neg z];by_cases h3:e.text=aI ⟨#[]⟩
    ·rw[if_neg (fun h=>h h3),decide_eq_true h3,Bool.true_and];obtain⟨q,he,Z⟩:=cO (step:=fun d:Int=>jW none (jK none k) e names d) (I:=fun d=>∃j:Nat,d=(j:Int)∧j≤e.l.length∧(e.l.take j).all (lvs names n)=true) (fun d=>((e.l.length:Int)-d).toNat)
      (fun q=>(q= .inl ()∧e.l.all (lvs names n)=true)∨(q= .inr false∧e.l.all (lvs names n)=false))
      (by
       rintro d ⟨j,rfl,u1,Y⟩;show (∃d',jW none (jK none k) e names (j:Int)=_∧_)∨ ∃q,jW none (jK none k) e names (j:Int)=_∧_;unfold jW;by_cases U:j<e.l.length
       ·have hx:=aYT names f n k _ (by omega) (W _ (aJ1 U));rw[if_pos (by omega),Int.toNat_natCast,hx];simp only[Option.isSome_some,Option.getD_some];cases hb:lvs names n (e.l.getD j (Ex.mk 0 [] [])) with
        | false =>
         right
         exact⟨_,aC (by constructor<;>omega) (aC trivial (if_pos xAb)),.inr ⟨rfl,aOC U hb⟩⟩
        | true =>
         left
         refine⟨((j+1:Nat):Int),aC (by constructor<;>omega) (aC trivial ((if_neg xAb).trans (aC (by constructor<;>omega) rfl))),⟨j+1,rfl,by omega,?_⟩,by omega⟩;rw[aVY U,Y,hb]; rfl
       ·right
        rw[if_neg (by omega)];exact⟨_,rfl,.inl ⟨rfl,by rwa [aKI (by omega)] at Y⟩⟩) (0:Int) ⟨0,rfl,by omega,by simp⟩
     rcases Z with⟨rfl,h⟩|⟨rfl,h⟩
     ·exact aJ he (by rw[h])
     ·exact aJ he (by rw[h])
    ·rw[if_pos h3,decide_eq_false h3]; rfl
noncomputable section
set_option maxHeartbeats 4000000
attribute [-go_sem] Ex.kind Ex.text Ex.l
@[go_sem] theorem bPs{n:Int}:Go.Vc.fits .i32 n↔ -2147483648≤n∧n≤2147483647:=by
 simp[Go.Vc.fits,IntKind.min,IntKind.max,IntKind.signed,IntKind.bits]
def qG(F:Md)(f:Int)(g:Nat):Option ((Int×Nat)⊕(Int)) :=
 if (0:Nat)<g then ck (I64 (f+(1:Int))) (some (.inl ((f+(1:Int)),(g/(2:Nat))))) else some (.inr f)
def uN(F:Md)(f:qd):Option Int :=
 if (f.length:Int)=(0:Int) then some (0:Int) else ck (I64 ((f.length:Int)-(1:Int))) (ck (I64 ((16:Int)*((f.length:Int)-(1:Int)))) (ck (I64 ((f.length:Int)-(1:Int))) (ck (0≤((f.length:Int)-(1:Int))∧((f.length:Int)-(1:Int))<(f.length:Int)) ((bO F (fun d:Int×Nat=>qG F d.1 d.2) (((16:Int)*((f.length:Int)-(1:Int))),(f.getD ((f.length:Int)-(1:Int)).toNat (0:Nat)))).bind (fun e=>some e)))))
def aOM:PlR:=⟨[(0,.A [0]),(1,.A [0,7]),(2,.A [2]),(3,.A [0,3]),(4,.A [3,4]),(5,.A [3,4,19]),(6,.A [3,4]),(7,.A [3,4]),(8,.A [2])],[],[]⟩
def aRP:Ty:=.pair qp .unit
def aAa(F:Md):aH:=mSpec aRP (.one qi) (fun x=>uN F x.1)
abbrev bDr(F:Md):List (FuncId×aH):=[]
theorem bDs(F:Md):bA Tryz.prog GL (bDr F):=.nil
attribute [go_sem] aRP aOM
theorem aON(F:Md):FOK Tryz.prog GL 112 (aAa F):=by
 refine aX (aY (bDs F)) mix Tryz.func112 rfl xAa xAb aOM (fun w0 S x Θ I h hV=>?_);obtain⟨(f:qd),u⟩:=x;simp only[bD,go_sem];replace h:sat (uN F f) _:=h;unfold uN at h;refine bS h (fun hc h=>?_) fun hc h=>?_
 ·exact aE hV [.tmp 2] rfl rfl rfl (aA h) xAd
 ·refine aG h fun g0 h=>aG h fun g1 h=>?_;refine aG h fun g0 h=>aG h fun g1 h=>?_;refine aU hV (D:=Int×Nat) [] (fun d=>[(3,.val qi d.1),(4,.val wg d.2)]) (fun d=>[]) h rfl xAc ?_;rintro⟨g,z⟩ J T5 hA5 q h;simp only[go_sem];replace h:sat (qG F g z) _:=h;unfold qG at h;refine bS h (fun hc h=>?_) fun hc h=>?_
  ·refine aG h fun g0 h=>?_;replace h:=hA5 _ (aA h);exact zaF
  ·replace h:=yaH (q _ (aA h));exact zaB
attribute [go_sem] aAa
def sR(F:Md)(q:qd)(I:Int)(z:Nat)(f:Int)(g:qd):Option (wm⊕vg) :=
 if f<(q.length:Int) then ck (0≤f∧f<(q.length:Int)) (ck (((g.length)+(1:Nat))*4≤140737488355328) (ck (I64 (f+(1:Int))) (some (.inl ((((((q.getD (f.toNat) (0:Nat))*(2^((Int.tmod I (16:Int))%(18446744073709551616:Int)).toNat))%4294967296)|||z)/(65536:Nat)),(f+(1:Int)),(g++([(((((q.getD (f.toNat) (0:Nat))*(2^((Int.tmod I (16:Int))%(18446744073709551616:Int)).toNat))%4294967296)|||z)&&&(65535:Nat))]:List Nat))))))) else some (.inr (z,g))
def vJ(F:Md)(g:qd)(f:Int):Option qd :=
 if (g.length:Int)=(0:Int) then some g else ck (I64 (Int.tdiv f (16:Int))) (ck (0≤(Int.tdiv f (16:Int))) (ck ((4:Int)*(Int.tdiv f (16:Int))≤281474976710656) ((bO F (fun d:Nat×Int×qd=>sR F g f d.1 d.2.1 d.2.2) ((0:Nat),(0:Int),(List.replicate (Int.tdiv f (16:Int)).toNat (0:Nat)))).bind (fun e=>ck (((e.2.length)+(1:Nat))*4≤140737488355328) ((kC F (e.2++([e.1]:List Nat))).bind (fun q=>some q))))))
def aRQ:PlR:=⟨[(0,.A [0,1]),(1,.A [0,1,11]),(2,.A [4]),(3,.B [0,1,5]),(4,.A [0,1,5,6]),(5,.A [0,1,5,6,7]),(6,.A [0,1,5,6,7,19]),(7,.A [0,1,5,6,7]),(8,.A [0,1,5,7,8]),(9,.B [0,1,5,7,8]),(10,.A [0,1,5,6,7]),(11,.B [4])],[],[]⟩
def aWb:Ty:=.pair qp qo
def aBA(F:Md):aH:=mSpec aWb (.one qp) (fun x=>vJ F x.1 x.2.1)
abbrev aWc(F:Md):List (FuncId×aH):=[(111,(eF F))]
theorem bEY(F:Md):bA Tryz.prog GL (aWc F):=.cons (vC F) xAa (.nil)
attribute [go_sem] aWb aRQ
theorem aRR(F:Md):FOK Tryz.prog GL 113 (aBA F):=by
 refine aX (aY (bEY F)) mix Tryz.func113 rfl xAa xAb aRQ (fun w0 S x Θ O h hV=>?_);obtain⟨(g:qd),(q:Int),u⟩:=x;simp only[bD,go_sem];replace h:sat (vJ F g q) _:=h;unfold vJ at h;refine bS h (fun hc h=>?_) fun hc h=>?_
 ·exact aE hV [.tmp 4] rfl rfl rfl (aA h) xAd
 ·refine aG h fun g0 h=>?_;refine aB h fun g0 h=>?_;refine aB h fun g1 h=>(yaB ?_);refine aU hV (D:=Nat×Int×qd) [0,1] (fun d=>[(5,.own 0),(6,.val wg d.1),(7,.val qi d.2.1)]) (fun d=>[.inr (.row 115 wg d.2.2)]) h rfl xAc ?_;rintro⟨L,z,f⟩ W U J I h;simp only[go_sem];replace h:sat (sR F g q L z f) _:=h;unfold sR at h;refine bP h (fun hc h=>?_) fun hc h=>?_
  ·refine aB h fun g0 h=>(yaB ?_);refine aB h fun g0 h=>(yaB ?_);refine aG h fun g0 h=>?_;replace h:=J _ (aA h);refine fA [1] rfl rfl (yaA ?_);exact zaF
  ·replace h:=yaH (I _ (aA h));refine aB h fun g0 h=>(yaB ?_);refine aD h fun N hv h=>?_;exact zaW
attribute [go_sem] aBA
def aA9(F:Md)(g:qd)(f:Int):Option Nat :=
 ck (I64 (Int.tdiv f (16:Int))) (if (g.length:Int)≤(Int.tdiv f (16:Int)) then some (0:Nat) else ck (I64 (Int.tdiv f (16:Int))) (ck (0≤(Int.tdiv f (16:Int))∧(Int.tdiv f (16:Int))<(g.length:Int)) (some (((g.getD (Int.tdiv f (16:Int)).toNat (0:Nat))/(2^((Int.tmod f (16:Int))%(18446744073709551616:Int)).toNat))&&&(1:Nat)))))
def aRS:PlR:=⟨[(0,.A [0,1]),(1,.A [0,1,9]),(2,.A [4]),(3,.A [4])],[],[]⟩
def aWe:Ty:=.pair qp qo
def aBB(F:Md):aH:=mSpec aWe (.one wg) (fun x=>aA9 F x.1 x.2.1)
abbrev bEZ(F:Md):List (FuncId×aH):=[]
theorem bE0(F:Md):bA Tryz.prog GL (bEZ F):=.nil
attribute [go_sem] aWe aRS
theorem aRT(F:Md):FOK Tryz.prog GL 114 (aBB F):=by
 refine aX (aY (bE0 F)) mix Tryz.func114 rfl xAa xAb aRS (fun w0 S x Θ q h hV=>?_);obtain⟨(g:qd),(f:Int),u⟩:=x;simp only[bD,go_sem];replace h:sat (aA9 F g f) _:=h;unfold aA9 at h;refine aG h fun g0 h=>?_;refine aGc h (fun hc h=>?_) fun hc h=>?_
 ·exact aE hV [.tmp 4] rfl rfl rfl (aA h) xAd
 ·refine aG h fun g0 h=>aG h fun g1 h=>?_;exact zaE
attribute [go_sem] aBB
def sS(F:Md)(f:qd)(q:Int)(g:Int):Option ((Int×Int×qd)⊕qd) :=
 if g<(0:Int) then ck (I32 (g+(65536:Int))) (ck (((f.length)+(1:Nat))*4≤140737488355328) (ck (I64 (q+(1:Int))) (some (.inl ((1:Int),(q+(1:Int)),(f++([((g+(65536:Int))%(4294967296:Int)).toNat]:List Nat))))))) else ck (((f.length)+(1:Nat))*4≤140737488355328) (ck (I64 (q+(1:Int))) (some (.inl ((0:Int),(q+(1:Int)),(f++([(g%(4294967296:Int)).toNat]:List Nat))))))
def sT(F:Md)(z:qd)(I:qd)(q:Int)(f:Int)(g:qd):Option ((Int×Int×qd)⊕qd) :=
 if f<(z.length:Int) then ck (0≤f∧f<(z.length:Int)) (ck (I32 ((IntKind.i32.wrap (((z.getD (f.toNat) (0:Nat)):Nat):Int))-q)) (if f<(I.length:Int) then ck (0≤f∧f<(I.length:Int)) (ck (I32 (((IntKind.i32.wrap (((z.getD (f.toNat) (0:Nat)):Nat):Int))-q)-(IntKind.i32.wrap (((I.getD (f.toNat) (0:Nat)):Nat):Int)))) (sS F g f (((IntKind.i32.wrap (((z.getD (f.toNat) (0:Nat)):Nat):Int))-q)-(IntKind.i32.wrap (((I.getD (f.toNat) (0:Nat)):Nat):Int))))) else sS F g f ((IntKind.i32.wrap (((z.getD (f.toNat) (0:Nat)):Nat):Int))-q))) else some (.inr g)
def aBa(F:Md)(q:qd)(g:qd):Option qd :=
 (bO F (fun d:Int×Int×qd=>sT F q g d.1 d.2.1 d.2.2) ((0:Int),(0:Int),([]:List Nat))).bind (fun e=>(kC F e).bind (fun f=>some f))
def aRU:PlR:=⟨[(0,.A [0,1]),(1,.A [0,1,5]),(2,.A [0,1,5,6]),(3,.A [0,1,5,6,7]),(4,.A [0,1,5,6,7,12]),(5,.A [0,1,5,6,7]),(6,.A [0,1,5,7,8]),(7,.A [0,1,5,7,8,25]),(8,.A [0,1,5,7,8]),(9,.A [0,1,5,6,7,8]),(10,.A [0,1,5,6,7,8,34]),(11,.A [0,1,5,7,8]),(12,.A [0,1,5,6,7,8]),(13,.B [0,1,5,6,7]),(14,.B [4])],[(10,12)],[]⟩
def aWf:Ty:=.pair qp (.pair qp .unit)
def aF4(F:Md):aH:=mSpec aWf (.one qp) (fun x=>aBa F x.1 x.2.1)
abbrev aWg(F:Md):List (FuncId×aH):=[(111,(eF F))]
theorem bE1(F:Md):bA Tryz.prog GL (aWg F):=.cons (vC F) xAa (.nil)
attribute [go_sem] aWf aRU
theorem bDt(F:Md):FOK Tryz.prog GL 116 (aF4 F):=by
 refine aX (aY (bE1 F)) mix Tryz.func116 rfl xAa xAb aRU (fun w0 S x Θ O h hV=>?_);obtain⟨(z:qd),(I:qd),u⟩:=x;simp only[bD,go_sem];replace h:sat (aBa F z I) _:=h;unfold aBa at h;refine pM 5 115 wg rfl (yaA ?_);refine aU hV (D:=Int×Int×qd) [0,1] (fun d=>[(5,.own 0),(6,.val (.i .i32) d.1),(7,.val qi d.2.1)]) (fun d=>[.inr (.row 115 wg d.2.2)]) h rfl xAc ?_;rintro⟨q,g,f⟩ U T4 hA4 L h;simp only[go_sem];replace h:sat (sT F z I q g f) _:=h;unfold sT at h;refine bP h (fun hc h=>?_) fun hc h=>?_
 ·refine aB h fun g0 h=>?_;refine aB h fun g1 h=>(yaB ?_);refine bH hV (D:=Int) (fun d=>sat (sS F f g d) T4) [0,1,7] (fun d=>[(5,.own 0),(8,.val (.i .i32) d)]) (fun d=>[.inr (.row 115 wg f)]) ?_ ?_
  ·simp only[go_sem];refine bP h (fun hc h=>?_) fun hc h=>?_
   ·refine aB h fun g0 h=>?_;refine aB h fun g1 h=>(yaB ?_);exact aK (((IntKind.i32.wrap (((z.getD (g.toNat) (0:Nat)):Nat):Int))-q)-(IntKind.i32.wrap (((I.getD (g.toNat) (0:Nat)):Nat):Int))) h rfl xAc
   ·exact aK ((IntKind.i32.wrap (((z.getD (g.toNat) (0:Nat)):Nat):Int))-q) h rfl xAc
  ·rintro J h;simp only[go_sem];replace h:sat (sS F f g J) _:=h;unfold sS at h;refine bP h (fun hc h=>?_) fun hc h=>?_
   ·refine aG h fun g0 h=>?_;refine aB h fun g0 h=>(yaB ?_);exact zah
   ·refine aB h fun g0 h=>(yaB ?_);exact zah
 ·replace h:=yaH (L _ (aA h));refine aD h fun N hv h=>?_;exact zaW
attribute [go_sem] aF4
def sU(F:Md)(I:qd)(f:Int)(g:qd)(q:qd):Option ((qd×Int×qd)⊕(qd×qd)) :=
 (sK F q I).bind (fun J=>if (0:Int)≤J then (aBa F q I).bind (fun z=>ck (I64 (Int.tdiv f (16:Int))) (ck (I64 (Int.tdiv f (16:Int))) (ck (0≤(Int.tdiv f (16:Int))∧(Int.tdiv f (16:Int))<(g.length:Int)) (ck (0≤(Int.tdiv f (16:Int))∧(Int.tdiv f (16:Int))<(g.length:Int)) (ck (I64 (f-(1:Int))) (some (.inl (z,(f-(1:Int)),(g.set (Int.tdiv f (16:Int)).toNat ((g.getD (Int.tdiv f (16:Int)).toNat (0:Nat))|||(((1:Nat)*(2^((Int.tmod f (16:Int))%(18446744073709551616:Int)).toNat))%4294967296))))))))))) else ck (I64 (f-(1:Int))) (some (.inl (q,(f-(1:Int)),g))))
def sV(F:Md)(N:qd)(L:qd)(q:qd)(f:Int)(g:qd):Option ((qd×Int×qd)⊕(qd×qd)) :=
 if (0:Int)≤f then (vJ F q (1:Int)).bind (fun z=>(aA9 F N f).bind (fun J=>if J=(1:Nat) then (yK F z ([1]:List Nat)).bind (fun I=>sU F L f g I) else sU F L f g z)) else some (.inr (q,g))
def aCS(F:Md)(f:qd)(z:qd):Option qm :=
 (uN F f).bind (fun q=>ck (0≤(f.length:Int)) (ck ((4:Int)*(f.length:Int)≤281474976710656) (ck (I64 (q-(1:Int))) ((bO F (fun d:qd×Int×qd=>sV F f z d.1 d.2.1 d.2.2) (([]:List Nat),(q-(1:Int)),(List.replicate (f.length) (0:Nat)))).bind (fun e=>(kC F e.2).bind (fun g=>some (g,e.1,())))))))
def aRV:PlR:=⟨[(0,.A [0,1]),(1,.A [0,1,6]),(2,.B [0,1,6,7]),(3,.A [0,1,6,7,8]),(4,.A [0,1,7,8,9]),(5,.A [0,1,7,8,9,18]),(6,.A [0,1,7,8,9]),(7,.A [0,1,7,8,9]),(8,.A [0,1,7,8,9,26]),(9,.A [0,1,7,8,9]),(10,.A [0,1,7,8,9,33]),(11,.A [0,1,7,8,9]),(12,.B [0,1,7,8,9]),(13,.B [4,5])],[(11,13)],[]⟩
def aWi:Ty:=.pair qp (.pair qp .unit)
def aF5(F:Md):aH:=mSpec aWi (.tup (.pair qp (.pair qp .unit))) (fun x=>aCS F x.1 x.2.1)
abbrev yR(F:Md):List (FuncId×aH):=[(106,(aBx F)),(111,(eF F)),(112,(aAa F)),(113,(aBA F)),(114,(aBB F)),(115,(uL F)),(116,(aF4 F))]
theorem bE2(F:Md):bA Tryz.prog GL (yR F):=.cons (aRG F) xAa (.cons (vC F) xAa (.cons (aON F) xAa (.cons (aRR F) xAa (.cons (aRT F) xAa (.cons (aJH F) xAa (.cons (bDt F) xAa (.nil)))))))
attribute [go_sem] aWi aRV
theorem bDu(F:Md):FOK Tryz.prog GL 71 (aF5 F):=by
 refine aX (aY (bE2 F)) mix Tryz.func71 rfl xAa xAb aRV (fun w0 S x Θ hw h hV=>?_);obtain⟨(I:qd),(q:qd),u⟩:=x;simp only[bD,go_sem];replace h:sat (aCS F I q) _:=h;unfold aCS at h;refine aD h fun v_6 hv h=>?_;try simp only[hv,go_sem]
 refine aB h fun g0 h=>?_;refine aB h fun g1 h=>(yaB ?_);refine aG h fun g0 h=>?_;refine aU hV (D:=qd×Int×qd) [0,1] (fun d=>[(7,.own 0),(8,.val qp d.1),(9,.val qi d.2.1)]) (fun d=>[.inr (.row 115 wg d.2.2)]) h rfl xAc ?_;rintro⟨J,g,f⟩ A5 T5 hA5 W h;simp only[go_sem];replace h:sat (sV F I q J g f) _:=h;unfold sV at h;refine aGc h (fun hc h=>?_) fun hc h=>?_
 ·refine aD h fun N hv h=>?_;try simp only[hv,go_sem]
  refine bH hV (D:=qd) (fun d=>sat (sU F q g f d) T5) [0,1,9] (fun d=>[(7,.own 0),(8,.val qp d)]) (fun d=>[.inr (.row 115 wg f)]) ?_ ?_
  ·simp only[go_sem];refine aD h fun Y hv h=>?_;(try simp only[hv,go_sem]);refine bS h (fun hc h=>?_) fun hc h=>?_
   ·refine aD h fun z hv h=>?_;(try simp only[hv,go_sem]);exact aK (z) h rfl xAc
   ·exact aK (N) h rfl xAc
  ·rintro L h;simp only[go_sem];replace h:sat (sU F q g f L) _:=h;unfold sU at h;refine aD h fun Z hv h=>?_;(try simp only[hv,go_sem]);refine aGc h (fun hc h=>?_) fun hc h=>?_
   ·refine aD h fun U hv h=>?_;(try simp only[hv,go_sem]);refine aB h fun g0 h=>(yaB ?_);refine aB h fun g0 h=>(yaB ?_);refine aB h fun g0 h=>(yaB ?_);refine aB h fun g0 h=>(yaB ?_);refine aG h fun g0 h=>?_;replace h:=hA5 _ (aA h);exact zaF
   ·refine aG h fun g0 h=>?_;replace h:=hA5 _ (aA h);exact zaF
 ·replace h:=yaH (W _ (aA h));refine aD h fun O hv h=>?_;try simp only[hv,go_sem]
  exact zax
attribute [go_sem] aF5
def wS(F:Md)(f:qd)(g:Int)(z:Int)(q:Nat):Option (ww⊕qd) :=
 ck (((f.length)+(1:Nat))*4≤140737488355328) (ck (I64 (g+(1:Int))) (some (.inl ((g+(1:Int)),(f++([((q/(2^((Int.tmod z (16:Int))%(18446744073709551616:Int)).toNat))&&&(65535:Nat))]:List Nat))))))
def sW(F:Md)(q:qd)(z:Int)(f:Int)(g:qd):Option (ww⊕qd) :=
 if f<(q.length:Int) then ck (0≤f∧f<(q.length:Int)) (ck (I64 (f+(1:Int))) (if (f+(1:Int))<(q.length:Int) then ck (I64 (f+(1:Int))) (ck (0≤(f+(1:Int))∧(f+(1:Int))<(q.length:Int)) (wS F g f z ((q.getD (f.toNat) (0:Nat))|||(((q.getD (f+(1:Int)).toNat (0:Nat))*(65536:Nat))%4294967296)))) else wS F g f z (q.getD (f.toNat) (0:Nat)))) else some (.inr g)
def yS(F:Md)(q:qd)(f:Int):Option qd :=
 ck (I64 (Int.tdiv f (16:Int))) (if (q.length:Int)≤(Int.tdiv f (16:Int)) then some ([]:List Nat) else ck (I64 (Int.tdiv f (16:Int))) ((bO F (fun d:Int×qd=>sW F q f d.1 d.2) ((Int.tdiv f (16:Int)),([]:List Nat))).bind (fun e=>(kC F e).bind (fun g=>some g))))
def aRW:PlR:=⟨[(0,.A [0,1]),(1,.A [0,1,12]),(2,.A [4]),(3,.A [0,1,5]),(4,.A [0,1,5,6]),(5,.A [0,1,5,6,18]),(6,.A [0,1,5,6]),(7,.A [0,1,5,6,7]),(8,.A [0,1,5,6,7,29]),(9,.A [0,1,5,6,7]),(10,.B [0,1,5,6]),(11,.B [4])],[(11,13)],[]⟩
def aWq:Ty:=.pair qp qo
def aBC(F:Md):aH:=mSpec aWq (.one qp) (fun x=>yS F x.1 x.2.1)
abbrev aWr(F:Md):List (FuncId×aH):=[(111,(eF F))]
theorem bE3(F:Md):bA Tryz.prog GL (aWr F):=.cons (vC F) xAa (.nil)
attribute [go_sem] aWq aRW
theorem aRX(F:Md):FOK Tryz.prog GL 110 (aBC F):=by
 refine aX (aY (bE3 F)) mix Tryz.func110 rfl xAa xAb aRW (fun w0 S x Θ N h hV=>?_);obtain⟨(q:qd),(z:Int),u⟩:=x;simp only[bD,go_sem];replace h:sat (yS F q z) _:=h;unfold yS at h;refine aG h fun g0 h=>?_;refine aGc h (fun hc h=>?_) fun hc h=>?_
 ·exact aE hV [.tmp 4] rfl rfl rfl (aA h) xAd
 ·refine aG h fun g0 h=>?_;refine pM 5 115 wg rfl (yaA ?_);refine aU hV (D:=Int×qd) [0,1] (fun d=>[(5,.own 0),(6,.val qi d.1)]) (fun d=>[.inr (.row 115 wg d.2)]) h rfl xAc ?_;rintro⟨g,f⟩ O T5 hA5 J h;simp only[go_sem];replace h:sat (sW F q z g f) _:=h;unfold sW at h;refine bP h (fun hc h=>?_) fun hc h=>?_
  ·refine aB h fun g0 h=>(yaB ?_);refine bH hV (D:=Nat) (fun d=>sat (wS F f g z d) T5) [0,1,6] (fun d=>[(5,.own 0),(7,.val wg d)]) (fun d=>[.inr (.row 115 wg f)]) ?_ ?_
   ·simp only[go_sem];refine aG h fun g0 h=>?_;refine bP h (fun hc h=>?_) fun hc h=>?_
    ·refine aB h fun g0 h=>?_;refine aB h fun g1 h=>(yaB ?_);exact aK ((q.getD (g.toNat) (0:Nat))|||(((q.getD (g+(1:Int)).toNat (0:Nat))*(65536:Nat))%4294967296)) h rfl xAc
    ·exact aK (q.getD (g.toNat) (0:Nat)) h rfl xAc
   ·rintro I h;simp only[go_sem];replace h:sat (wS F f g z I) _:=h;unfold wS at h;refine aB h fun g0 h=>(yaB ?_);refine aG h fun g0 h=>?_;replace h:=hA5 _ (aA h);refine fA [1] rfl rfl (yaA ?_);exact zaF
  ·replace h:=yaH (J _ (aA h));refine aD h fun L hv h=>?_;exact zaW
attribute [go_sem] aBC
def sX(F:Md)(q:qd)(f:Int):Option ((Int)⊕(Int)) :=
 (aA9 F q f).bind (fun g=>if g=(0:Nat) then ck (I64 (f+(1:Int))) (some (.inl (f+(1:Int)))) else some (.inr f))
def aBb(F:Md)(f:qd):Option Int :=
 (bO F (fun d:Int=>sX F f d) (0:Int)).bind (fun e=>some e)
def aRY:PlR:=⟨[(0,.A [0]),(1,.A [0,3]),(2,.A [0,3,7]),(3,.A [0,3]),(4,.A [2])],[],[]⟩
def aWt:Ty:=.pair qp .unit
def aBD(F:Md):aH:=mSpec aWt (.one qi) (fun x=>aBb F x.1)
abbrev aWu(F:Md):List (FuncId×aH):=[(114,(aBB F))]
theorem bE4(F:Md):bA Tryz.prog GL (aWu F):=.cons (aRT F) xAa (.nil)
attribute [go_sem] aWt aRY
theorem aRZ(F:Md):FOK Tryz.prog GL 108 (aBD F):=by
 refine aX (aY (bE4 F)) mix Tryz.func108 rfl xAa xAb aRY (fun w0 S x Θ z h hV=>?_);obtain⟨(f:qd),u⟩:=x;simp only[bD,go_sem];replace h:sat (aBb F f) _:=h;unfold aBb at h;refine aU hV (D:=Int) [0] (fun d=>[(3,.val qi d)]) (fun d=>[]) h rfl xAc ?_;rintro g I T2 hA2 hE2 h;simp only[go_sem];replace h:sat (sX F f g) _:=h;unfold sX at h;refine aD h fun q hv h=>?_;try simp only[hv,go_sem]
 refine bS h (fun hc h=>?_) fun hc h=>?_
 ·refine aG h fun g0 h=>?_;exact zar
 ·replace h:=yaH (hE2 _ (aA h));exact zaB
attribute [go_sem] aBD
def aCg(F:Md)(f:qd):Option Bool :=
 some (decide ((256:Int)<(f.length:Int)))
def aLO:PlR:=⟨[(0,.A [0]),(1,.A [2])],[],[]⟩
def aOO:Ty:=.pair qp .unit
def aDn(F:Md):aH:=mSpec aOO (.one .bool) (fun x=>aCg F x.1)
abbrev bAX(F:Md):List (FuncId×aH):=[]
theorem bAY(F:Md):bA Tryz.prog GL (bAX F):=.nil
attribute [go_sem] aOO aLO
theorem aX0(F:Md):FOK Tryz.prog GL 162 (aDn F):=by
 refine aX (aY (bAY F)) mix Tryz.func162 rfl xAa xAb aLO (fun w0 S x Θ g h hV=>?_);obtain⟨(f:qd),u⟩:=x;simp only[bD,go_sem];replace h:sat (aCg F f) _:=h;unfold aCg at h;exact zaB
attribute [go_sem] aDn
def nU(F:Md)(f:Int)(q:qd)(g:qd):Option (ww⊕qd) :=
 ck (I64 (Int.tdiv f (4:Int))) (ck (I64 (Int.tdiv f (4:Int))) (ck (0≤(Int.tdiv f (4:Int))∧(Int.tdiv f (4:Int))<(g.length:Int)) (ck (0≤f∧f<(q.length:Int)) (ck (I64 ((16:Int)*(Int.tmod f (4:Int)))) (ck (0≤(Int.tdiv f (4:Int))∧(Int.tdiv f (4:Int))<(g.length:Int)) (ck (I64 (f+(1:Int))) (some (.inl ((f+(1:Int)),(g.set (Int.tdiv f (4:Int)).toNat ((g.getD (Int.tdiv f (4:Int)).toNat (0:Nat))|||(((q.getD (f.toNat) (0:Nat))*(2^(((16:Int)*(Int.tmod f (4:Int)))%(18446744073709551616:Int)).toNat))%18446744073709551616))))))))))))
def nV(F:Md)(q:qd)(g:Int)(f:qd):Option (ww⊕qd) :=
 if g<(q.length:Int) then if (Int.tmod g (4:Int))=(0:Int) then ck (((f.length)+(1:Nat))*8≤140737488355328) (nU F g q (f++([0]:List Nat))) else nU F g q f else some (.inr f)
def aAb(F:Md)(f:qd):Option qd :=
 (bO F (fun d:Int×qd=>nV F f d.1 d.2) ((0:Int),([]:List Nat))).bind (fun e=>some e)
def aLP:PlR:=⟨[(0,.A [0]),(1,.A [0,3]),(2,.A [0,3,4]),(3,.A [0,3,4,8]),(4,.A [0,3,4]),(5,.A [0,3,4,13]),(6,.B [0,3,4]),(7,.C 20 [0,3,4]),(8,.A [2])],[(8,10)],[]⟩
def aOP:Ty:=.pair qp .unit
def aDo(F:Md):aH:=mSpec aOP (.one qu) (fun x=>aAb F x.1)
abbrev bAZ(F:Md):List (FuncId×aH):=[]
theorem bA0(F:Md):bA Tryz.prog GL (bAZ F):=.nil
attribute [go_sem] aOP aLP
theorem aX1(F:Md):FOK Tryz.prog GL 163 (aDo F):=by
 refine aX (aY (bA0 F)) mix Tryz.func163 rfl xAa xAb aLP (fun w0 S x Θ N h hV=>?_);obtain⟨(g:qd),u⟩:=x;simp only[bD,go_sem];replace h:sat (aAb F g) _:=h;unfold aAb at h;refine pM 3 119 qk rfl (yaA ?_);refine aU hV (D:=Int×qd) [0] (fun d=>[(3,.own 0),(4,.val qi d.1)]) (fun d=>[.inr (.row 119 qk d.2)]) h rfl xAc ?_;rintro⟨z,f⟩ W T3 hA3 I h;simp only[go_sem];replace h:sat (nV F g z f) _:=h;unfold nV at h;refine bP h (fun hc h=>?_) fun hc h=>?_
 ·refine bH hV (D:=qd) (fun d=>sat (nU F z g d) T3) [0,4] (fun d=>[(3,.own 0)]) (fun d=>[.inr (.row 119 qk d)]) ?_ ?_
  ·simp only[go_sem];refine bS h (fun hc h=>?_) fun hc h=>?_
   ·refine aB h fun g0 h=>(yaB ?_);refine fA [1] rfl rfl (yaA ?_);exact aK (f++([0]:List Nat)) h rfl xAc
   ·exact aK (f) h rfl xAc
  ·rintro q h;simp only[go_sem];replace h:sat (nU F z g q) _:=h;unfold nU at h;refine⟨by kernel_rfl,?_⟩;refine aB h fun g0 h=>?_;refine aB h fun g1 h=>?_;refine aB h fun J h=>?_;refine aB h fun U h=>?_;refine aB h fun O h=>?_;refine aB h fun L h=>(yaB ?_);refine aG h fun g0 h=>?_;exact zas
 ·replace h:=yaH (I _ (aA h));exact zaB
attribute [go_sem] aDo
def aBE(F:Md)(f:qh):Option vm :=
 if (f.2.1.length:Int)=(0:Int) then some ((false,([]:List Nat),(0:Int),()),(0:Int),()) else (aBb F f.2.1).bind (fun v_5=>(yS F f.2.1 v_5).bind (fun z=>(aCg F z).bind (fun g=>if g=true then some ((false,([]:List Nat),(0:Int),()),(2:Int),()) else ck (¬(((1048576:Int)<f.2.2.1)∨(f.2.2.1<(-1053576:Int)))→(I64 (f.2.2.1+v_5))) (ck (¬((((1048576:Int)<f.2.2.1)∨(f.2.2.1<(-1053576:Int)))∨((1048576:Int)<(f.2.2.1+v_5)))→(I64 (f.2.2.1+v_5))) (if ((((1048576:Int)<f.2.2.1)∨(f.2.2.1<(-1053576:Int)))∨((1048576:Int)<(f.2.2.1+v_5)))∨((f.2.2.1+v_5)<(-1048576:Int)) then some ((false,([]:List Nat),(0:Int),()),(3:Int),()) else (aAb F z).bind (fun q=>ck (I64 (f.2.2.1+v_5)) (some ((f.1,q,(f.2.2.1+v_5),()),(0:Int),()))))))))
def aOQ:PlR:=⟨[(0,.B [1,2]),(1,.A [1,2,9]),(2,.B [2,3]),(3,.A [1,2,4]),(4,.A [1,2,4,5]),(5,.A [1,2,4,5,19]),(6,.B [2,3]),(7,.A [1,2,4,5,42]),(8,.B [2,3]),(9,.C 9 [2,3])],[],[]⟩
def aR0:Ty:=.pair wz .unit
def aEJ(F:Md):aH:=mSpec aR0 (.tup ve) (fun x=>aBE F x.1)
abbrev aDZ(F:Md):List (FuncId×aH):=[(108,(aBD F)),(110,(aBC F)),(162,(aDn F)),(163,(aDo F))]
theorem bDv(F:Md):bA Tryz.prog GL (aDZ F):=.cons (aRZ F) xAa (.cons (aRX F) xAa (.cons (aX0 F) xAa (.cons (aX1 F) xAa (.nil))))
attribute [go_sem] aR0 aOQ
theorem bA1(F:Md):FOK Tryz.prog GL 109 (aEJ F):=by
 refine aX (aY (bDv F)) mix Tryz.func109 rfl xAa xAb aOQ (fun w0 S x Θ I h hV=>?_);obtain⟨(f:qh),u⟩:=x;simp only[bD,go_sem];replace h:sat (aBE F f) _:=h;unfold aBE at h;refine bS h (fun hc h=>?_) fun hc h=>?_
 ·exact aE hV [.cell 2 74,.tmp 3] rfl rfl rfl (aA h) xAd
 ·refine aD h fun v_5 hv h=>?_;try simp only[hv,go_sem]
  refine aD h fun z hv h=>?_;try simp only[hv,go_sem]
  refine aD h fun g hv h=>?_;try simp only[hv,go_sem]
  refine aFb h (fun hc h=>?_) fun hc h=>?_
  ·exact aE hV [.cell 2 74,.tmp 3] rfl rfl rfl (aA h) xAd
  ·refine aB h fun g0 h=>?_;refine aB h fun g1 h=>(yaB ?_);refine⟨fun hc=>?_,fun hc=>?_⟩
   ·replace h:=cW hc h;exact zaS
   ·replace h:=cX hc h;refine⟨by kernel_rfl,?_⟩;refine aD h fun q hv h=>?_;(try simp only[hv,go_sem]);refine aB h fun g0 h=>(yaB ?_);exact zaS
attribute [go_sem] aEJ
def yT(F:Md)(f:qh):Option vm :=
 if (f.2.1.length:Int)=(0:Int) then some ((false,([]:List Nat),(0:Int),()),(0:Int),()) else (aBb F f.2.1).bind (fun v_5=>(yS F f.2.1 v_5).bind (fun q=>ck (I64 (f.2.2.1+v_5)) ((aBE F (f.1,q,(f.2.2.1+v_5),())).bind (fun g=>some (g.1,g.2.1,())))))
def aOR:PlR:=⟨[(0,.B [1,2]),(1,.A [1,2,8]),(2,.B [2,3]),(3,.A [1,2,4]),(4,.C 14 [2,3])],[],[]⟩
def aR1:Ty:=.pair wz .unit
def aEK(F:Md):aH:=mSpec aR1 (.tup ve) (fun x=>yT F x.1)
abbrev aF6(F:Md):List (FuncId×aH):=[(108,(aBD F)),(109,(aEJ F)),(110,(aBC F))]
theorem bDw(F:Md):bA Tryz.prog GL (aF6 F):=.cons (aRZ F) xAa (.cons (bA1 F) xAa (.cons (aRX F) xAa (.nil)))
attribute [go_sem] aR1 aOR
theorem bA2(F:Md):FOK Tryz.prog GL 68 (aEK F):=by
 refine aX (aY (bDw F)) mix Tryz.func68 rfl xAa xAb aOR (fun w0 S x Θ z h hV=>?_);obtain⟨(f:qh),u⟩:=x;simp only[bD,go_sem];replace h:sat (yT F f) _:=h;unfold yT at h;refine bS h (fun hc h=>?_) fun hc h=>?_
 ·exact aE hV [.cell 2 74,.tmp 3] rfl rfl rfl (aA h) xAd
 ·refine aD h fun v_5 hv h=>?_;try simp only[hv,go_sem]
  refine⟨by kernel_rfl,?_⟩;refine aD h fun g hv h=>?_;try simp only[hv,go_sem]
  refine aG h fun g0 h=>?_;refine aD h fun q hv h=>?_;try simp only[hv,go_sem]
  exact zaS
attribute [go_sem] aEK
def wE(F:Md)(f:(qd×qt))(z:qd):Option vm :=
 (aCS F f.1 z).bind (fun q=>if (0:Int)<(q.2.1.length:Int) then some ((false,([]:List Nat),(0:Int),()),(6:Int),()) else (yT F (false,q.1,f.2.1,())).bind (fun g=>some (g.1,g.2.1,())))
def kG(F:Md)(g:(qd×qt))(q:qd)(f:Int):Option (vf⊕qd) :=
 ck (I64 (0-g.2.1)) (if f<(0-g.2.1) then (lI F q ([5]:List Nat)).bind (fun z=>ck (I64 (f+(1:Int))) (some (.inl (z,(f+(1:Int)))))) else some (.inr q))
def iE(F:Md)(I:qd):Option vm :=
 (iL F I).bind (fun v_7=>if ¬(v_7=true) then some ((false,([]:List Nat),(0:Int),()),(6:Int),()) else (oJ F I).bind (fun f=>if (0:Int)≤f.2.1 then (yL F f.2.1).bind (fun z=>(lI F f.1 z).bind (fun q=>(yT F (false,q,(0:Int),())).bind (fun g=>some (g.1,g.2.1,())))) else (bO F (fun d:qd×Int=>kG F f d.1 d.2) (([1]:List Nat),(0:Int))).bind (fun e=>wE F f e)))
def aLQ:PlR:=⟨[(0,.stop),(1,.stop),(2,.stop),(3,.stop),(4,.stop),(5,.stop),(6,.stop),(7,.stop),(8,.stop),(9,.stop),(10,.stop),(11,.stop),(12,.stop),(13,.stop),(14,.stop)],[(10,14)],[]⟩
def aOS:Ty:=.pair .str .unit
def aDp(F:Md):aH:=mSpec aOS (.tup ve) (fun x=>iE F x.1)
abbrev vK(F:Md):List (FuncId×aH):=[(66,(rN F)),(67,(wO F)),(68,(aEK F)),(69,(oV F)),(70,(aBy F)),(71,(aF5 F))]
theorem bA3(F:Md):bA Tryz.prog GL (vK F):=.cons (aH5 F) xAa (.cons (aLu F) xAa (.cons (bA2 F) xAa (.cons (aFW F) xAa (.cons (aRI F) xAa (.cons (bDu F) xAa (.nil))))))
attribute [go_sem] aOS aLQ
theorem aX2(F:Md):FOK Tryz.prog GL 40 (aDp F):=by
 refine aX (aY (bA3 F)) mix Tryz.func40 rfl xAa xAb aLQ (fun w0 S x Θ hw h hV=>?_);obtain⟨(J:qd),u⟩:=x;simp only[bD,go_sem];replace h:sat (iE F J) _:=h;unfold iE at h;refine xX hV [0,2] (yaA ?_);refine bZ hV [0,2,12] (yaA ?_);refine aD h fun v_7 hv h=>?_;try simp only[hv,go_sem]
 refine aAn h (fun hc h=>?_) fun hc h=>?_
 ·refine xX hV [2,3] (yaA ?_);exact zaS
 ·refine bZ hV [2,4,5] (yaA ?_);refine aD h fun f hv h=>?_;try simp only[hv,go_sem]
  refine bZ hV [2,4,5,20] (yaA ?_);refine aGc h (fun hc h=>?_) fun hc h=>?_
  ·refine xX hV [2,3] (yaA ?_);refine aD h fun U hv h=>?_;(try simp only[hv,go_sem]);refine aD h fun N hv h=>?_;(try simp only[hv,go_sem]);refine aD h fun Y hv h=>?_;(try simp only[hv,go_sem]);exact zaS
  ·refine bZ hV [2,4,5,6] (yaA ?_);refine bH hV (D:=qd) (fun d=>sat (wE F f d) Θ) [4,5] (fun d=>[(2,.ptr 0 []),(6,.val qp d)]) (fun d=>[.inr (.box 3 (.val qg (false,([]:List Nat),(0:Int),())))]) ?_ ?_
   ·simp only[go_sem];refine bZ hV [2,4,5,6,7] (yaA ?_);refine aU hV (D:=qd×Int) [4,5] (fun d=>[(2,.ptr 0 []),(6,.val qp d.1),(7,.val qi d.2)]) (fun d=>[.inr (.box 3 (.val qg (false,([]:List Nat),(0:Int),())))]) h rfl xAc ?_;rintro⟨g,z⟩ A8 T8 I L h;simp only[go_sem];replace h:sat (kG F f g z) _:=h;unfold kG at h;refine bZ hV [2,4,5,6,7,33] (yaA ?_);refine aG h fun g0 h=>?_;refine bP h (fun hc h=>?_) fun hc h=>?_
    ·refine bZ hV [2,4,5,6,7] (yaA ?_);refine aD h fun O hv h=>?_;(try simp only[hv,go_sem]);refine bZ hV [2,4,5,6,7] (yaA ?_);refine aG h fun g0 h=>?_;replace h:=I _ (aA h);exact zaF
    ·replace h:=yaH (L _ (aA h));exact aK (g) h rfl xAc
   ·rintro q h;simp only[go_sem];replace h:sat (wE F f q) _:=h;unfold wE at h;refine bZ hV [2,5,8,9] (yaA ?_);refine aD h fun W hv h=>?_;(try simp only[hv,go_sem]);refine bZ hV [2,5,8,47] (yaA ?_);refine bP h (fun hc h=>?_) fun hc h=>?_
    ·refine xX hV [2,3] (yaA ?_);exact zaS
    ·refine xX hV [2,3] (yaA ?_);refine aD h fun Z hv h=>?_;(try simp only[hv,go_sem]);exact zaS
attribute [go_sem] aDp
def hv:List Nat→Nat
 | []=>0
 | x::r=>x+65536*hv r
def hb(n:Nat):List Nat:=if h:n=0 then [] else n%65536::hb (n/65536)
termination_by n
decreasing_by exact Nat.div_lt_self (by omega) xAb
def Hm(a:List Nat):Prop:=∀x∈a,x<65536
theorem bA4:hv []=0:=rfl
theorem xN(x:Nat)(r:List Nat):hv (x::r)=x+65536*hv r:=rfl
theorem qQ:hb 0= []:=by rw[hb]; simp
theorem aMM{n:Nat}(h:n≠0):hb n=n%65536::hb (n/65536):=by rw[hb,dif_neg h]
theorem aAG(n:Nat):hv (hb n)=n:=by
 induction n using Nat.strongRecOn with
 | _ n f =>
  by_cases h:n=0
  ·subst h; rw[qQ]; rfl
  ·rw[aMM h,xN,f (n/65536) (Nat.div_lt_self (by omega) xAb)];exact Nat.mod_add_div n 65536
theorem aCB(n:Nat):Hm (hb n):=by
 induction n using Nat.strongRecOn with
 | _ n f =>
  by_cases h:n=0
  ·subst h; rw[qQ]; intro x hx; cases hx
  ·rw[aMM h];intro x hx;rcases List.mem_cons.1 hx with rfl|hx
   ·exact Nat.mod_lt _ xAb
   ·exact f (n/65536) (Nat.div_lt_self (by omega) xAb) x hx
theorem bE5{n:Nat}:hb n= []↔n=0:=by
 constructor
 ·intro h;rcases Nat.eq_zero_or_pos n with h0|h0
  ·exact h0
  ·rw[aMM (by omega)] at h; cases h
 ·rintro rfl; exact qQ
theorem aQE(n:Nat):Nrm (hb n):=by
 induction n using Nat.strongRecOn with
 | _ n f =>
  by_cases h:n=0
  ·subst h; rw[qQ]; exact aZD
  ·rw[aMM h];refine bCh (f _ (Nat.div_lt_self (by omega) xAb)) fun e=>?_;have:=bE5.1 e;intro h0;have:=Nat.div_add_mod n 65536;omega
theorem bGC{x:Nat}{r:List Nat}(h:Hm (x::r)):x<65536∧Hm r:=⟨h x xAg,fun y hy=>h y (by simp[hy])⟩
theorem aQF{a b:List Nat}(ha:Hm a)(hb:Hm b):Hm (a++b):=fun x hx=>(List.mem_append.1 hx).elim (ha x) (hb x)
theorem aYU{a:List Nat}(h:Nrm a)(f:a≠ []):0<hv a:=by
  induction a with
  | nil=>exact absurd rfl f
  | cons x r g =>
    rw[xN];cases r with
    | nil=>
      have:x≠0:=by simpa [Nrm] using h
      rw[bA4]; omega
    | cons y r =>
      have:=g (aGI h) xAg;have:65536*1≤65536*hv (y::r):=Nat.mul_le_mul_left _ this;omega
theorem bOD{a:List Nat}(hl:Hm a)(g:Nrm a):hb (hv a)=a:=by
 induction a with
 | nil=>rw[bA4,qQ]
 | cons x r z =>
  have hx:=bGC hl;have f:hv (x::r)≠0:=by have:=aYU g xAg; omega
  have q:hv (x::r)%65536=x:=by rw[xN,Nat.add_mul_mod_self_left]; exact Nat.mod_eq_of_lt hx.1
  have I:hv (x::r)/65536=hv r:=by rw[xN,Nat.add_mul_div_left _ _ xAb,Nat.div_eq_of_lt hx.1,Nat.zero_add]
  rw[aMM f,q,I];cases r with
  | nil=>rw[bA4,qQ]
  | cons y r=>rw[z hx.2 (aGI g)]
theorem aWw(a b:List Nat):hv (a++b)=hv a+65536^a.length*hv b:=by
 induction a with
 | nil=>simp[hv]
 | cons x r f =>
  rw[List.cons_append,xN,xN,f,List.length_cons,Nat.pow_succ,Nat.mul_add];have:65536*(65536^r.length*hv b)=65536^r.length*65536*hv b:=by rw[← Nat.mul_assoc,Nat.mul_comm 65536]
  omega
theorem aCh{a:List Nat}(hl:Hm a):hv a<65536^a.length:=by
 induction a with
 | nil=>simp[hv]
 | cons x r f =>
  have hx:=bGC hl;have:=f hx.2;rw[xN,List.length_cons,Nat.pow_succ];have g:65536*(hv r+1)≤65536*65536^r.length:=Nat.mul_le_mul_left _ this;rw[Nat.mul_add] at g;rw[Nat.mul_comm (65536^r.length)];omega
theorem bKv{a:List Nat}(g:Nrm a)(f:a≠ []):65536^(a.length-1)≤hv a:=by
 induction a with
 | nil=>exact absurd rfl f
 | cons x r q =>
  cases r with
  | nil=>have:=aYU g f; simp only[List.length_cons,List.length_nil,Nat.zero_add,Nat.sub_self,Nat.pow_zero]; omega
  | cons y r =>
   have:=q (aGI g) xAg;rw[xN];simp only[List.length_cons,Nat.add_sub_cancel] at this ⊢;rw[Nat.pow_succ,Nat.mul_comm];have:=Nat.mul_le_mul_left 65536 this;omega
theorem bE6{n k:Nat}:(hb n).length≤k↔n<65536^k:=by
 constructor
 ·intro h;have:=aCh (aCB n);rw[aAG] at this;exact Nat.lt_of_lt_of_le this (Nat.pow_le_pow_right xAb h)
 ·intro h;by_cases h0:n=0
  ·subst h0; rw[qQ]; exact Nat.zero_le _
  ·have f:hb n≠ []:=fun e=>h0 (bE5.1 e);have:=bKv (aQE n) f;rw[aAG] at this;have g:65536^((hb n).length-1)<65536^k:=Nat.lt_of_le_of_lt this h;have:=(Nat.pow_lt_pow_iff_right xAb).1 g;omega
theorem bE7(n:Nat):hv (List.replicate n 0)=0:=by
 induction n with
 | zero=>rfl
 | succ n f=>rw[List.replicate_succ,xN,f]
theorem bA5(a:List Nat)(k:Nat):hv a=hv (a.take k)+65536^(min k a.length)*hv (a.drop k):=by
 have:=aWw (a.take k) (a.drop k);rw[List.take_append_drop,List.length_take] at this;exact this
theorem aIe{a:List Nat}(h:Hm a)(k:Nat):Hm (a.take k):=fun x hx=>h x (List.mem_of_mem_take hx)
theorem bGD{a:List Nat}(h:Hm a)(k:Nat):hv (a.drop k)=hv a/65536^k:=by
 rcases Nat.lt_or_ge k a.length with hk|hk
 ·rw[bA5 a k,Nat.min_eq_left (Nat.le_of_lt hk),Nat.add_mul_div_left _ _ (Nat.pow_pos xAb),Nat.div_eq_of_lt,Nat.zero_add];have:=aCh (aIe h k);rw[List.length_take,Nat.min_eq_left (Nat.le_of_lt hk)] at this;exact this
 ·rw[List.drop_eq_nil_of_le hk,bA4,Nat.div_eq_of_lt];exact Nat.lt_of_lt_of_le (aCh h) (Nat.pow_le_pow_right xAb hk)
theorem kX{a:List Nat}(h:Hm a)(i:Nat):a.getD i 0<65536:=by
 rw[List.getD_eq_getElem?_getD];cases e:a[i]? with
 | none=>exact(by decide:(0:Nat)<65536)
 | some x=>exact h x (List.mem_of_getElem? e)
theorem vL{a:List Nat}{k:Nat}(h:k<a.length):hv (a.take (k+1))=hv (a.take k)+65536^k*a.getD k 0:=by
 rw[take_succ h,aWw,List.length_take,Nat.min_eq_left (Nat.le_of_lt h)];simp[hv]
theorem bE8{a:List Nat}{k v:Nat}(h:k<a.length):hv (a.set k v)+65536^k*a.getD k 0=hv a+65536^k*v:=by
 induction a generalizing k with
 | nil=>simp at h
 | cons x r g =>
  cases k with
  | zero=>simp[hv]; omega
  | succ k =>
   have:=g (k:=k) (by simpa using h);simp only[List.set_cons_succ,xN,List.getD_cons_succ,Nat.pow_succ];have f:65536^k*65536*r.getD k 0=65536*(65536^k*r.getD k 0):=(by rw[Nat.mul_comm (65536^k) 65536,Nat.mul_assoc]);have q:65536^k*65536*v=65536*(65536^k*v):=(by rw[Nat.mul_comm (65536^k) 65536,Nat.mul_assoc]);rw[f,q];have:=congrArg (65536* ·) this;simp only[Nat.mul_add] at this;omega
theorem bE9{a:List Nat}(h:Hm a)(k:Nat){v:Nat}(hv:v<65536):Hm (a.set k v):=fun x hx=>by
 rcases List.mem_or_eq_of_mem_set hx with hx|rfl
 ·exact h x hx
 ·exact hv
theorem bFa(n:Nat):Hm (List.replicate n 0):=fun x hx=>by
 rw[List.eq_of_mem_replicate hx]; decide
theorem h16:(65536:Nat)^4=18446744073709551616:=by decide
theorem bA6(k:Nat):65536^(4*k)=18446744073709551616^k:=by rw[Nat.pow_mul,h16]
theorem aAX(k:Nat):(65536:Nat)^k=2^(16*k):=by rw[Nat.pow_mul]
theorem aR2(x:Nat):x&&&65535=x%65536:=Nat.and_two_pow_sub_one_eq_mod x 16
theorem aFu(a:List Nat)(ha:Hm a)(hl:a.length≤4611686018427387904):kC none a=some (hb (hv a)):=by
 unfold kC;have q:=cO (step:=fun d:Int=>qA none a d) (I:=fun n=>0≤n∧n≤a.length∧hv (a.take n.toNat)=hv a) (fun n=>n.toNat)
  (fun e=>0≤e∧e≤a.length∧a.take e.toNat=hb (hv a)) ?_ (a.length:Int) ⟨by omega,by omega,by rw[Int.toNat_natCast,List.take_length]⟩
 ·obtain⟨e,J,N,h3,L⟩:=q;refine aJ J (aC ⟨N,h3⟩ ?_);rw[L]
 ·intro n ⟨O,U,z⟩;show (∃W,qA none a n=_∧_)∨ ∃e,qA none a n=_∧_;unfold qA;by_cases h0:0<n
  ·have hk:n.toNat-1<a.length:=(by omega);have e1:(n-1).toNat=n.toNat-1:=(by omega);have hs:=vL hk;rw[show n.toNat-1+1=n.toNat from by omega] at hs;by_cases f:a.getD (n.toNat-1) 0=0
   ·left
    refine⟨n-1,aC (fun _=>by constructor<;>omega) (aC (fun _=>by constructor<;>omega) ?_),⟨by omega,by omega,?_⟩,by omega⟩
    ·rw[e1,if_pos ⟨h0,f⟩]; exact aC (by constructor<;>omega) rfl
    ·rw[e1,← z,hs,f]; omega
   ·right
    refine⟨n,aC (fun _=>by constructor<;>omega) (aC (fun _=>by constructor<;>omega) ?_),O,U,?_⟩
    ·rw[e1,if_neg (fun h=>f h.2)]
    ·rw[← z,bOD (aIe ha _)];have g:(a.take n.toNat).length=n.toNat:=(by rw[List.length_take]; omega);refine(aHG (by omega)).2 ?_;rw[g,List.getD_eq_getElem?_getD,List.getElem?_take_of_lt (by omega),← List.getD_eq_getElem?_getD];exact f
  ·right
   have e0:n=0:=(by omega);subst e0;refine⟨0,aC (fun h=>absurd h h0) (aC (fun h=>absurd h h0) ?_),by omega,by omega,?_⟩
   ·rw[if_neg (fun h=>h0 h.1)]
   ·rw[← z]; simp[hv,qQ]
def aMN(x k:Nat):List Nat:=(List.range k).map fun j=>x/65536^j%65536
theorem aYV(x k:Nat):aMN x (k+1)=aMN x k++ [x/65536^k%65536]:=by simp[aMN,List.range_succ]
theorem aWx(x k:Nat):(aMN x k).length=k:=by simp[aMN]
theorem bMo(x k:Nat):Hm (aMN x k):=fun y hy=>by
 obtain⟨j,_,rfl⟩:=List.mem_map.1 hy;exact Nat.mod_lt _ xAb
theorem bMp(x k:Nat):hv (aMN x k)=x%65536^k:=by
 induction k with
 | zero=>simp[aMN,hv,Nat.mod_one]
 | succ k f =>
  rw[aYV,aWw,aWx,f,Nat.pow_succ,Nat.mod_mul];simp[hv]
theorem bMq(a:List Nat)(i:Int)(h0:0≤i)(J:i<a.length)(out:List Nat)(hs:out.length≤1099511627776) :
  bO none (fun d:Int×List Nat=>mL none i a d.1 d.2) (0,out)=some (out++aMN (a.getD i.toNat 0) 4):=by
 refine kU (step:=fun d:Int×List Nat=>mL none i a d.1 d.2) (I:=fun d=>0≤d.1∧d.1≤4∧d.2=out++aMN (a.getD i.toNat 0) d.1.toNat) (fun d=>(4-d.1).toNat) (fun _=>out++aMN (a.getD i.toNat 0) 4) ?_ (0,out) ⟨by simp,by simp,by simp[aMN]⟩;rintro⟨k,o⟩ ⟨q,g,f⟩;have q:0≤k:=q;have g:k≤4:=g;have f:o=out++aMN (a.getD i.toNat 0) k.toNat:=f;show (∃O,mL none i a k o=_∧_)∨mL none i a k o=_;unfold mL;by_cases hk:k<4
 ·left
  have e1:(k+1).toNat=k.toNat+1:=by omega
  have z:((16*k)%(18446744073709551616:Int)).toNat=16*k.toNat:=by omega
  have L:(a.getD i.toNat 0/2^(16*k.toNat))%4294967296%65536=a.getD i.toNat 0/65536^k.toNat%65536:=by
   rw[aAX]; omega
  have N:o.length≤1099511627780:=by rw[f,List.length_append,aWx]; omega
  refine⟨(k+1,out++aMN (a.getD i.toNat 0) (k+1).toNat),?_,⟨by (try simp only); omega,by (try simp only); omega,rfl⟩,by (try simp only); omega,rfl⟩;rw[if_pos hk,aR2,z,L];refine aC ⟨h0,J⟩ (aC (by constructor<;>omega) (aC (by omega) (aC (by constructor<;>omega) ?_)));rw[e1,aYV,f,List.append_assoc]
 ·right
  rw[if_neg hk,f,show k.toNat=4 from by omega]
theorem bA7(a:List Nat)(ha:Lm a)(hl:a.length≤68719476736):yJ none a=some (hb (nv a)):=by
 unfold yJ;have z:=cO (step:=fun d:Int×List Nat=>qB none a d.1 d.2) (I:=fun d=>0≤d.1∧d.1≤a.length∧d.2.length=4*d.1.toNat∧Hm d.2∧hv d.2=nv (a.take d.1.toNat)) (fun d=>(a.length-d.1).toNat)
  (fun e=>e.length=4*a.length∧Hm e∧hv e=nv a) ?_ (0,[]) ⟨by simp,by simp,by simp,(fun x hx=>by cases hx),by simp[hv,nv]⟩
 ·obtain⟨e,J,N,h3,L⟩:=z;refine aJ J (aJ (aFu e h3 (by omega)) ?_);rw[L]
 ·rintro⟨i,o⟩ ⟨i0,i1,g,q,f⟩;have i0:0≤i:=i0;have i1:i≤a.length:=i1;have g:o.length=4*i.toNat:=g;have q:Hm o:=q;have f:hv o=nv (a.take i.toNat):=f;show (∃O,qB none a i o=_∧_)∨ ∃e,qB none a i o=_∧_;unfold qB;by_cases hi:i<a.length
  ·left
   have hk:i.toNat<a.length:=(by omega);refine⟨(i+1,o++aMN (a.getD i.toNat 0) 4),?_,⟨by (try simp only); omega,by (try simp only); omega,?_,?_,?_⟩,by (try simp only); omega⟩
   ·rw[if_pos hi];exact aJ (bMq a i i0 hi o (by omega)) (aC (by constructor<;>omega) rfl)
   ·simp only; rw[List.length_append,aWx]; omega
   ·exact aQF q (bMo _ _)
   ·simp only;rw[show (i+1).toNat=i.toNat+1 from by omega,uT hk,aWw,bMp,g,f,bA6,h16,Nat.mod_eq_of_lt (gG ha _)]
  ·right
   have e:i.toNat=a.length:=(by omega);rw[e,List.take_length] at f;exact⟨o,by rw[if_neg hi],by rw[g,e],q,f⟩
theorem bKw(n:Nat)(f:n<18446744073709551616):zR none n=some (hb n):=by
 unfold zR;rw[bA7 [n] (by intro x hx; simp at hx; subst hx; exact f) xAg];simp[nv]
theorem bOE{o:List Nat}(f:Lm o)(hl:o= []∨18446744073709551616^(o.length-1)≤nv o):o=lb (nv o):=by
 rcases hl with rfl|hl
 ·simp[nv,zE]
 ·by_cases h0:o.length=0
  ·rw[List.eq_nil_of_length_eq_zero h0]; simp[nv,zE]
  ·refine(bJo f ?_).symm;refine(aHG (by omega)).2 fun q=>?_;have g:=bGb (a:=o) (by omega);rw[q,Nat.mul_zero,Nat.add_zero] at g;have z:=qX (aEn f (o.length-1));rw[List.length_take,Nat.min_eq_left (by omega)] at z;omega
theorem bM5{n:Int}(h:0≤n):Int.tdiv n 4=((n.toNat/4:Nat):Int)∧Int.tmod n 4=((n.toNat%4:Nat):Int):=by
 obtain⟨k,rfl⟩:∃k:Nat,n=(k:Int):=⟨n.toNat,by omega⟩;rw[Int.toNat_natCast];exact⟨rfl,rfl⟩
theorem bA8{n:Int}(h:0≤n):Int.tdiv n 16=((n.toNat/16:Nat):Int)∧Int.tmod n 16=((n.toNat%16:Nat):Int):=by
 obtain⟨k,rfl⟩:∃k:Nat,n=(k:Int):=⟨n.toNat,by omega⟩;rw[Int.toNat_natCast];exact⟨rfl,rfl⟩
theorem aTM(x y k:Nat)(h:x<2^k):x|||(y*2^k)=x+y*2^k:=by
 have:=Nat.two_pow_add_eq_or_of_lt h y;rw[Nat.or_comm,Nat.mul_comm y,← this,Nat.add_comm]
structure bMr(a:List Nat)(i:Int)(o:List Nat):Prop where
 i0:0≤i
 i1:i≤a.length
 len:o.length=(i.toNat+3)/4
 lm:Lm o
 sum:nv o=hv (a.take i.toNat)
theorem bDx{a:List Nat}{i:Int}{o:List Nat}(ha:Hm a)(i0:0≤i)(hi:i<a.length)(hl:a.length≤1099511627776)(len:o.length=i.toNat/4+1)(lm:Lm o)(sum:nv o=hv (a.take i.toNat)) :
  ∃o',nU none i a o=some (.inl (i+1,o'))∧bMr a (i+1) o':=by
 obtain⟨N,J⟩:=bM5 i0;have hk:i.toNat<a.length:=by omega
 have hx:=kX ha i.toNat;have e1:(i+1).toNat=i.toNat+1:=by omega
 have L:i.toNat%4<4:=Nat.mod_lt _ xAb;have I:((16*((i.toNat%4:Nat):Int))%(18446744073709551616:Int)).toNat=16*(i.toNat%4):=by omega
 have q:=Nat.div_add_mod i.toNat 4;have ht:=aCh (aIe ha i.toNat);rw[List.length_take,Nat.min_eq_left (by omega)] at ht;have hP:(65536:Nat)^i.toNat=18446744073709551616^(i.toNat/4)*2^(16*(i.toNat%4)):=by
  conv=>lhs; rw[← q]
  rw[Nat.pow_add,bA6,aAX]
 have f:o.getD (i.toNat/4) 0<2^(16*(i.toNat%4)):=by
  rw[xA lm,sum];refine Nat.lt_of_le_of_lt (Nat.mod_le _ _) ?_;refine(Nat.div_lt_iff_lt_mul (Nat.pow_pos xAb)).2 ?_;rw[Nat.mul_comm,← hP]; exact ht
 have g:a.getD i.toNat 0*2^(16*(i.toNat%4))<18446744073709551616∧o.getD (i.toNat/4) 0+a.getD i.toNat 0*2^(16*(i.toNat%4))<18446744073709551616:=by
  have z:∀x y r:Nat,x<65536→r<4→y<2^(16*r)→x*2^(16*r)<18446744073709551616∧y+x*2^(16*r)<18446744073709551616:=by
   intro x y r U W h3;have O:r=0∨r=1∨r=2∨r=3:=(by omega);rcases O with rfl|rfl|rfl|rfl<;>simp at h3 ⊢ <;> omega
  exact z _ _ _ hx L f
 refine⟨o.set (i.toNat/4) (o.getD (i.toNat/4) 0+a.getD i.toNat 0*2^(16*(i.toNat%4))),?_,⟨by omega,by omega,?_,aCI lm _ g.2,?_⟩⟩
 ·unfold nU;rw[N,J,Int.toNat_natCast,I,Nat.mod_eq_of_lt g.1,aTM _ _ _ f];exact aC (by constructor<;>omega) (aC (by constructor<;>omega) (aC (by constructor<;>omega) (aC ⟨i0,hi⟩ (aC (by constructor<;>omega) (aC (by constructor<;>omega) (aC (by constructor<;>omega) rfl))))))
 ·rw[List.length_set,len,e1]; omega
 ·have hs:=aFf (a:=o) (k:=i.toNat/4) (v:=o.getD (i.toNat/4) 0+a.getD i.toNat 0*2^(16*(i.toNat%4))) (by omega);rw[Nat.mul_add,sum] at hs;rw[e1,vL hk,hP,Nat.mul_assoc,Nat.mul_comm (2^(16*(i.toNat%4)))];omega
theorem bKx(n:Nat)(hl:(hb n).length≤1099511627776):aAb none (hb n)=some (lb n):=by
 have ha:=aCB n;have W:=aQE n;have g:=aAG n;generalize hb n=a at *;unfold aAb;have z:=cO (step:=fun d:Int×List Nat=>nV none a d.1 d.2) (I:=fun d=>bMr a d.1 d.2) (fun d=>(a.length-d.1).toNat) (fun e=>bMr a a.length e) ?_ (0,[]) ⟨by simp,by simp,by simp,(fun x hx=>by cases hx),by simp[hv,nv]⟩
 ·obtain⟨e,U,J⟩:=z;refine aJ U ?_;have hs:=J.sum;rw[Int.toNat_natCast,List.take_length,g] at hs;have f:=J.len;rw[Int.toNat_natCast] at f;rw[← hs]
  congr 1
  refine bOE J.lm ?_;by_cases h0:a.length=0
  ·left; exact List.eq_nil_of_length_eq_zero (by omega)
  ·right
   have N:=bKv W (by intro h; rw[h] at h0; exact h0 rfl);rw[g,← hs] at N;refine Nat.le_trans ?_ N;rw[← bA6];exact Nat.pow_le_pow_right xAb (by omega)
 ·rintro⟨i,o⟩ h;have h:bMr a i o:=h;have i0:=h.i0;have i1:=h.i1;show (∃d',nV none a i o=_∧_)∨ ∃e,nV none a i o=_∧_;unfold nV;obtain⟨Y,O⟩:=bM5 i0;by_cases hi:i<a.length
  ·left
   rw[if_pos hi,O];by_cases Z:i.toNat%4=0
   ·have f:=h.len;obtain⟨q,q1,L⟩:=bDx (o:=o++ [0]) ha i0 hi hl (by rw[List.length_append,f]; simp; omega) (bEl h.lm (by intro x hx; simp at hx; subst hx; decide)) (by rw[aMi]; simp[nv]; exact h.sum);refine⟨(i+1,q),?_,L,by (try simp only); omega⟩;rw[if_pos (by omega)];exact aC (by omega) q1
   ·obtain⟨q,q1,L⟩:=bDx (o:=o) ha i0 hi hl (by rw[h.len]; omega) h.lm h.sum;refine⟨(i+1,q),?_,L,by (try simp only); omega⟩;rw[if_neg (by omega)];exact q1
  ·right
   have e:i=a.length:=(by omega);rw[if_neg hi];exact⟨o,rfl,by rw[← e]; exact h⟩
def grp(k:Int):Int:=if k=6∨k=7 then 1 else if k=8∨k=9 then 2 else 0
theorem aD0(k:Int):mE none k=some (grp k):=by
 unfold mE tS tR grp;grind
theorem aTN(e:Ex):grp e.kind=1↔aCe e:=by unfold grp; grind
theorem bDy(e:Ex):(grp e.kind=1∨grp e.kind=2)↔wY e:=by unfold grp; grind
theorem bGE(e:Ex):0<grp e.kind↔wY e:=by unfold grp; grind
theorem rj2(g:Ex→Option qd){kd:Int}{e:Ex}(he:e.kind=kd)(hk:kd=6∨kd=7∨kd=8∨kd=9)(A B:List Nat)(z:A.length≤1099511627776)(q:B.length≤1099511627776):iH none g e A B=some (A++([32,sgT kd,32]++B)):=by
 have f:∀(sg:List Nat),sg.length=3→ck (A.length+sg.length≤9223372036854775807) (ck ((A++sg).length+B.length≤9223372036854775807) (some ((A++sg)++B)))=some (A++(sg++B)):=fun sg hs=>aC (by omega) (aC (by rw[List.length_append]; omega) (by rw[List.append_assoc]));unfold iH;rw[he];refine aC (by omega) (aC (by omega) ?_);rcases hk with rfl|rfl|rfl|rfl
 ·exact f [32,43,32] rfl
 ·exact f [32,45,32] rfl
 ·exact f [32,42,32] rfl
 ·exact f [32,47,32] rfl
theorem rj1(g:Ex→Option qd){kd:Int}{e:Ex}(he:e.kind=kd)(hk:kd=6∨kd=7∨kd=8∨kd=9)(A B:List Nat)(f:A.length≤1099511627776)(z:B.length≤1099511627000){v w:Int}{p:Prop}[Decidable p](hp:(v=1∨(w=2∧v=2))↔p):fW none g v w B e A=some (A++([32,sgT kd,32]++par p B)):=by
 unfold fW par;by_cases h:p
 ·rw[if_pos h];refine ify (hp.2 h) (aC (by show 1+_≤_; omega) (aC (by show ([40]++B).length+1≤_; rw[List.length_append]; show 1+_+1≤_; omega) ?_));have:=rj2 g he hk A (([40]++B)++ [41]) f (by simp only[List.length_append,List.length_cons,List.length_nil]; omega);rw[List.append_assoc [40] B [41]] at this;rw[← this];rfl
 ·rw[if_neg h];exact ifn (fun q=>h (hp.1 q)) (rj2 g he hk A B f (by omega))
theorem aQG:∀ {n:Nat} {e:Ex},KE n e→n≤30→fits n e→ ∀k,n≤k→fZ none k e=some (tx n e):=by
 intro n e hw;have pw:∀n,n≤30→2^n*64≤68719476736:=fun n hn=>by
  have:2^n≤2^30:=Nat.pow_le_pow_right xAb hn;omega
 induction hw with
 | leaf n f t h =>
  intro hn O k hk;cases k with
  | zero=>omega
  | succ k=>rw[bAS h]; rcases h with rfl|rfl<;>rfl
 | two n f t0 a b h1 h2 ha hb g ihb =>
  intro hn O k hk;obtain⟨k,rfl⟩:∃j,k=j+1:=⟨k-1,by omega⟩;obtain⟨_,_,Z⟩:=O;have I:=Z a (.head _);have fb:=Z b (.tail _ (.head _));have L:=g (by omega) I k (by omega);have pb:=ihb (by omega) fb k (by omega);have la:=(aHg ha (by omega) I).1;have lb':=(aHg hb (by omega) fb).1;have q:=pw n (by omega);have Y:f=6∨f=7∨f=8∨f=9:=by omega
  have l1:=zZ (p:=aCe a) (tx n a);show fY none (fZ none k) _=_;unfold fY;have hgt:0<grp f:=by unfold grp; grind
  have U:prt f=2:=by unfold prt; grind
  refine aJ (aD0 f) (aJ (parts_eq f) (ifn (by rw[U]; decide) (ify hgt (aC (show (0:Int)<2 by decide) (aJ (a:=tx n a) L (aC (show (1:Int)<2 by decide) (aJ (a:=tx n b) pb (aC (show (0:Int)<2 by decide) (aJ (a:=grp a.kind) (aD0 _) (aC (show (1:Int)<2 by decide) (aJ (a:=grp b.kind) (aD0 _) ?_)))))))))));by_cases hs:f=6∨f=7
  ·have hg1:grp f=1:=if_pos hs;rw[bAT hs,hg1];exact ifn (fun z=>absurd z.1 xAb) (rj1 _ (kd:=f) rfl Y _ _ (by omega) (by omega) ⟨fun z=>(aTN b).1 (z.elim id fun z=>absurd z.1 xAb),fun z=>.inl ((aTN b).2 z)⟩)
  ·have W:f=8∨f=9:=(by omega);have hg2:grp f=2:=(by unfold grp; rw[if_neg hs,if_pos W]);have hj:∀A:List Nat,A.length≤1099511627776→fW none (fZ none k) (grp b.kind) 2 (tx n b) (Ex.mk f t0 [a,b]) A=some (A++([32,sgT f,32]++par (wY b) (tx n b))):=fun A N =>
    rj1 _ (kd:=f) rfl Y _ _ N (by omega) ⟨fun z=>(bDy b).1 (z.imp id And.right),fun z=>((bDy b).2 z).imp id fun z=>⟨rfl,z⟩⟩
   rw[aV6 W,hg2];by_cases N:aCe a
   ·rw[show par (aCe a) (tx n a)=([40]++tx n a)++ [41] from (if_pos N).trans (List.append_assoc _ _ _).symm];refine ify ⟨rfl,(aTN a).2 N⟩ (aC (by show 1+_≤_; omega) (aC (by show ([40]++tx n a).length+1≤_; rw[List.length_append]; show 1+_+1≤_; omega) (hj _ (by show (([40]++tx n a)++ [41]).length≤_; simp only[List.length_append,List.length_cons,List.length_nil]; omega))))
   ·rw[show par (aCe a) (tx n a)=tx n a from if_neg N];exact ifn (fun z=>N ((aTN a).1 z.2)) (hj _ (by omega))
 | neg n t0 a ha g =>
  intro hn O k hk;obtain⟨k,rfl⟩:∃j,k=j+1:=⟨k-1,by omega⟩;have I:=O.2.2 a (.head _);have L:=g (by omega) I k (by omega);have la:=(aHg ha (by omega) I).1;have q:=pw n (by omega);rw[bGx];show fY none (fZ none k) _=_;unfold fY;refine aJ (aD0 10) (aJ (parts_eq 10) (ifn xAb (ifn xAb (ify rfl (aC (show (0:Int)<1 by decide) (aJ (a:=tx n a) L (aC (show (0:Int)<1 by decide) (aJ (a:=grp a.kind) (aD0 _) ?_))))))));by_cases h:wY a
  ·rw[show par (wY a) (tx n a)=([40]++tx n a)++ [41] from (if_pos h).trans (List.append_assoc _ _ _).symm];refine ify ((bGE a).2 h) (aC (by show 1+_≤_; omega) (aC (by show ([40]++tx n a).length+1≤_; rw[List.length_append]; show 1+_+1≤_; omega) (aC (by show 1+(([40]++tx n a)++ [41]).length≤_; simp only[List.length_append,List.length_cons,List.length_nil]; omega) rfl)))
  ·rw[show par (wY a) (tx n a)=tx n a from if_neg h];exact ifn (fun z=>h ((bGE a).1 z)) (aC (by show 1+_≤_; omega) rfl)
 | fn n f t0 a h1 h2 ha g =>
  intro hn O k hk;obtain⟨k,rfl⟩:∃j,k=j+1:=⟨k-1,by omega⟩;have I:=O.2.2 a (.head _);have L:=g (by omega) I k (by omega);have la:=(aHg ha (by omega) I).1;have q:=pw n (by omega);have J:∀(hd:List Nat),hd.length≤5→ck (hd.length+(tx n a).length≤9223372036854775807) (ck ((hd++tx n a).length+(aI ⟨#[41]⟩).length≤9223372036854775807) (some ((hd++tx n a)++aI ⟨#[41]⟩)))=some (hd++(tx n a++ [41])):=fun hd hs=>aC (by omega) (aC (by rw[List.length_append]; show _+1≤_; omega) (by rw[List.append_assoc]; rfl));rw[bKk h1 h2];show fY none (fZ none k) _=_;unfold fY;rcases (by omega:f=11∨f=12∨f=13) with rfl|rfl|rfl
  ·exact aJ (aD0 11) (aJ (parts_eq 11) (ifn xAb (ifn xAb (ifn (show ¬(11:Int)=10 by decide) (aC (show I64 ((11:Int)-11) by decide) (aC (show (0:Int)≤(11:Int)-11∧(11:Int)-11<3 by decide) (aC (show (0:Int)<1 by decide) (aJ (a:=tx n a) L (J [115,113,114,40] xAb)))))))))
  ·exact aJ (aD0 12) (aJ (parts_eq 12) (ifn xAb (ifn xAb (ifn (show ¬(12:Int)=10 by decide) (aC (show I64 ((12:Int)-11) by decide) (aC (show (0:Int)≤(12:Int)-11∧(12:Int)-11<3 by decide) (aC (show (0:Int)<1 by decide) (aJ (a:=tx n a) L (J [115,113,114,116,40] xAb)))))))))
  ·exact aJ (aD0 13) (aJ (parts_eq 13) (ifn xAb (ifn xAb (ifn (show ¬(13:Int)=10 by decide) (aC (show I64 ((13:Int)-11) by decide) (aC (show (0:Int)≤(13:Int)-11∧(13:Int)-11<3 by decide) (aC (show (0:Int)<1 by decide) (aJ (a:=tx n a) L (J [101,120,112,40] xAb)))))))))
theorem bOF:∀k:Nat,k<10→List.drop k (List.take (k+1) (aI ⟨#[48,49,50,51,52,53,54,55,56,57]⟩))= [48+k]:=by decide +kernel
theorem bDz(n:Nat)(s:List Nat)(q:9<n)(z:n<1000)(hs:s.length≤5):jP none (n:Int) s=some (.inl (((n/10:Nat):Int),[48+n%10]++s)):=by
 have f:Int.tmod (n:Int) 10=((n%10:Nat):Int):=rfl;have g:Int.tdiv (n:Int) 10=((n/10:Nat):Int):=rfl;have hk:n%10<10:=Nat.mod_lt _ xAb;unfold jP;rw[f,g,Int.toNat_natCast,show (((n%10:Nat):Int)+1).toNat=n%10+1 from by omega,bOF _ hk];exact ify (by omega) (aC (by omega) (aC ⟨by omega,by omega,by show _≤(10:Int); omega⟩ (aC (by show 1+_≤_; omega) (aC (by omega) rfl))))
theorem bA9(n:Nat)(s:List Nat)(f:n<10)(hs:s.length≤5):jP none (n:Int) s=some (.inr ((n:Int),s))∧nG none (n:Int) s=some ([48+n]++s):=by
 unfold jP nG;rw[Int.toNat_natCast,show ((n:Int)+1).toNat=n+1 from by omega,bOF _ f];exact⟨ifn (by omega) rfl,aC (by omega) (aC ⟨by omega,by omega,by show _≤(10:Int); omega⟩ (aC (by show 1+_≤_; omega) rfl))⟩
theorem aMO(n:Nat)(h:n<1000):mO none (n:Int)=some (dg n):=by
 unfold mO dg;by_cases f:n<10
 ·rw[if_pos f];obtain⟨a,b⟩:=bA9 n [] f xAb;exact aJ (a:=((n:Int),[])) (aVZ a) b
 ·rw[if_neg f];have g:=bDz n [] (by omega) h xAb;by_cases z:n<100
  ·rw[if_pos z];obtain⟨a,b⟩:=bA9 (n/10) [48+n%10] (by omega) xAg;exact aJ (a:=(((n/10:Nat):Int),[48+n%10])) (bAJ g (aVZ a)) b
  ·rw[if_neg z];have q:=bDz (n/10) [48+n%10] (by omega) (by omega) xAg;obtain⟨a,b⟩:=bA9 (n/10/10) [48+n/10%10,48+n%10] (by omega) xAg;have e:n/10/10=n/100:=(by omega);rw[e] at a b q;exact aJ (a:=(((n/100:Nat):Int),[48+n/10%10,48+n%10])) (bAJ g (bAJ q (aVZ a))) b
theorem bM6(r:TRg)(h:RgK r):∃t,vG none r=some t∧t.length≤201∧32::t=tl (rgW r):=by
 obtain⟨lo,hi,u⟩:=r;obtain⟨g,f⟩:=h;have g:lo.length≤100:=g;have f:hi.length≤100:=f;unfold vG rgW;by_cases hh:hi= []
 ·exact⟨lo,ify hh rfl,by omega,by rw[if_pos hh]; simp[tl]⟩
 ·refine⟨(lo++ [32])++hi,ifn hh (aC (by show lo.length+1≤_; omega) (aC ?_ rfl)),?_,?_⟩
  ·show (lo++ [32]).length+hi.length≤_;rw[List.length_append];show lo.length+1+_≤_;omega
  ·simp only[List.length_append,List.length_cons,List.length_nil];omega
  ·rw[if_neg hh];simp[tl]
theorem bOG:aI ⟨#[115,117,98,32]⟩= [115,117,98,32]:=rfl
theorem bMs:aI ⟨#[115,116,97,116,101,32]⟩= [115,116,97,116,101,32]:=rfl
theorem bOH:aI ⟨#[112,97,114,32]⟩= [112,97,114,32]:=rfl
theorem bPt:aI ⟨#[105,110,32]⟩= [105,110,32]:=rfl
theorem bOI:aI ⟨#[111,117,116,32]⟩= [111,117,116,32]:=rfl
theorem bN4:aI ⟨#[108,105,110,107,32]⟩= [108,105,110,107,32]:=rfl
theorem bMt:aI ⟨#[32,61,32]⟩= [32,61,32]:=rfl
theorem bOJ:aI ⟨#[32,100,101,114,32]⟩= [32,100,101,114,32]:=rfl
theorem bOK:aI ⟨#[46]⟩= [46]:=rfl
theorem bFb:aI ⟨#[10]⟩= [10]:=rfl
theorem aWy{α:Type}(L:List α)(z:α)(c:α→PL){step:List Nat×Int→Option ((List Nat×Int)⊕List Nat)}(pre:List PL)(hp:LnB (pre++L.map c))(f:(pre++L.map c).length≤500)
  (hs:∀(i:Nat) (x:List Nat),i<L.length→x.length≤70368744177664→step (x,(i:Int))=some (.inl (x++(ln (c (L.getD i z))++ [10]),(i:Int)+1)))
  (he:∀(x:List Nat),step (x,(L.length:Int))=some (.inr x)):bO none step (jnP pre,(0:Int))=some (jnP (pre++L.map c)):=by
 rw[List.length_append,List.length_map] at f;refine Tot.eq (Tot.loop (fun d:List Nat×Int=>∃i:Nat,d=(jnP (pre++(L.take i).map c),(i:Int))∧i≤L.length) (fun d=>((L.length:Int)-d.2).toNat) ?_ ⟨0,by simp,Nat.zero_le _⟩);rintro d ⟨i,rfl,hi⟩;by_cases h:i<L.length
 ·have hb:LnB (pre++(L.take i).map c):=fun p g=>hp p (by grind);have hx:=aId hb;rw[List.length_append,List.length_map,List.length_take] at hx;refine .of (hs i _ h (by omega)) ⟨⟨i+1,?_,h⟩,by simp only; omega⟩;rw[eP z h,List.map_append,show pre++((L.take i).map c++ [L.getD i z].map c)=(pre++(L.take i).map c)++ [L.getD i z].map c from (List.append_assoc _ _ _).symm,aOJ _ ([L.getD i z].map c),List.map_cons,List.map_nil,aOK];rfl
 ·obtain rfl:i=L.length:=by omega
  refine .of (he _) ?_;rw[List.take_length]
section
variable {s:TSc} {i j:Nat} {y:List Nat} {x:aDS} (hX:s.2.2.2.2.2.2.2.2.1.getD i ([],[],[],[],[],())=x) (hy:y.length≤70368744177664)
include hX hy
theorem bHI{a:TSt}(J:j<x.2.1.length)(I:j<1000)(ha:x.2.1.getD j ([],([],[],()),(Ex.mk 0 [] []),())=a)(q:NmK a.1)(g:RgK a.2.1)(he:ExK a.2.2.1):kE none s (i:Int) y (j:Int)=some (.inl (y++(ln (.state a)++ [10]),(j:Int)+1)):=by
 obtain⟨t,ht,z,f⟩:=bM6 _ g;have L:=q.len;have N:=he.pr.2;have hp:=aQG he.1 xAb he.2 64 xAb;unfold kE;simp only[Int.toNat_natCast,hX,ha,ht,hp,Option.bind_some,bMs,bMt,bOJ,bFb];refine ify (by omega) (aC ⟨by omega,by omega⟩ (aC (by simp only[List.length_append,List.length_cons,List.length_nil]; omega) (aC (by simp only[List.length_append,List.length_cons,List.length_nil]; omega) (aC (by simp only[List.length_append,List.length_cons,List.length_nil]; omega) (aC (by simp only[List.length_append,List.length_cons,List.length_nil]; omega) (aC (by simp only[List.length_append,List.length_cons,List.length_nil]; omega) (aC (by simp only[List.length_append,List.length_cons,List.length_nil]; omega) (aC (by simp only[List.length_append,List.length_cons,List.length_nil]; omega) (aC (by omega) ?_)))))))));have e:ln (.state a)= [115,116,97,116,101]++tl (a.1:: [61]::(rgW a.2.1++ [[100,101,114],tx 30 a.2.2.1])):=rfl;rw[e,xM,xM,bEV,← f];simp[tl]
theorem bMu{a:TPa}(J:j<x.2.2.1.length)(I:j<1000)(ha:x.2.2.1.getD j ([],([],[],()),())=a)(q:NmK a.1)(g:RgK a.2.1):iQ none s (i:Int) y (j:Int)=some (.inl (y++(ln (.par a)++ [10]),(j:Int)+1)):=by
 obtain⟨t,ht,z,f⟩:=bM6 _ g;have L:=q.len;unfold iQ;simp only[Int.toNat_natCast,hX,ha,ht,Option.bind_some,bOH,bMt,bFb];refine ify (by omega) (aC (by simp only[List.length_append,List.length_cons,List.length_nil]; omega) (aC ⟨by omega,by omega⟩ (aC (by simp only[List.length_append,List.length_cons,List.length_nil]; omega) (aC (by simp only[List.length_append,List.length_cons,List.length_nil]; omega) (aC ⟨by omega,by omega⟩ (aC (by simp only[List.length_append,List.length_cons,List.length_nil]; omega) (aC (by simp only[List.length_append,List.length_cons,List.length_nil]; omega) (aC (by omega) ?_))))))));have e:ln (.par a)= [112,97,114]++tl (a.1:: [61]::rgW a.2.1):=rfl;rw[e,xM,xM,← f];simp
theorem bMv{a:List Nat}(z:j<x.2.2.2.1.length)(q:j<1000)(ha:x.2.2.2.1.getD j []=a)(f:NmK a):iP none s (i:Int) y (j:Int)=some (.inl (y++(ln (.inn a)++ [10]),(j:Int)+1)):=by
 have g:=f.len;unfold iP;simp only[Int.toNat_natCast,hX,ha,bPt,bFb];refine ify (by omega) (aC (by simp only[List.length_append,List.length_cons,List.length_nil]; omega) (aC ⟨by omega,by omega⟩ (aC (by simp only[List.length_append,List.length_cons,List.length_nil]; omega) (aC (by simp only[List.length_append,List.length_cons,List.length_nil]; omega) (aC (by omega) ?_)))));simp[ln,wds,jw,tl]
theorem bMw{a:TOu}(q:j<x.2.2.2.2.1.length)(g:j<1000)(ha:x.2.2.2.2.1.getD j ([],(Ex.mk 0 [] []),())=a)(f:NmK a.1)(he:ExK a.2.1):iO none s (i:Int) y (j:Int)=some (.inl (y++(ln (.out a)++ [10]),(j:Int)+1)):=by
 have z:=f.len;have I:=he.pr.2;have hp:=aQG he.1 xAb he.2 64 xAb;unfold iO;simp only[Int.toNat_natCast,hX,ha,hp,Option.bind_some,bOI,bMt,bFb];refine ify (by omega) (aC (by simp only[List.length_append,List.length_cons,List.length_nil]; omega) (aC ⟨by omega,by omega⟩ (aC (by simp only[List.length_append,List.length_cons,List.length_nil]; omega) (aC (by simp only[List.length_append,List.length_cons,List.length_nil]; omega) (aC ⟨by omega,by omega⟩ (aC (by simp only[List.length_append,List.length_cons,List.length_nil]; omega) (aC (by simp only[List.length_append,List.length_cons,List.length_nil]; omega) (aC (by omega) ?_))))))));simp[ln,wds,jw,tl]
end
theorem bKy{s:TSc}{a:TLk}{j:Nat}{y:List Nat}(ha:s.2.2.2.2.2.2.2.2.2.1.getD j ([],[],[],[],())=a)(I:NmK a.1∧NmK a.2.1∧NmK a.2.2.1∧NmK a.2.2.2.1)(N:j<s.2.2.2.2.2.2.2.2.2.1.length)(J:j<1000)(hy:y.length≤70368744177664):iN none s y (j:Int)=some (.inl (y++(ln (.link a)++ [10]),(j:Int)+1)):=by
 obtain⟨q,f,z,g⟩:=I;have m1:=q.len;have L:=f.len;have U:=z.len;have O:=g.len;unfold iN;simp only[Int.toNat_natCast,ha,bN4,bMt,bFb,bOK];refine ify (by omega) (aC ⟨by omega,by omega⟩ (aC (by simp only[List.length_append,List.length_cons,List.length_nil]; omega) (aC (by simp only[List.length_append,List.length_cons,List.length_nil]; omega) (aC (by simp only[List.length_append,List.length_cons,List.length_nil]; omega) (aC (by simp only[List.length_append,List.length_cons,List.length_nil]; omega) (aC (by simp only[List.length_append,List.length_cons,List.length_nil]; omega) (aC (by simp only[List.length_append,List.length_cons,List.length_nil]; omega) (aC (by simp only[List.length_append,List.length_cons,List.length_nil]; omega) (aC (by simp only[List.length_append,List.length_cons,List.length_nil]; omega) (aC (by simp only[List.length_append,List.length_cons,List.length_nil]; omega) (aC (by omega) ?_)))))))))));simp[ln,wds,jw,tl]
end
end Nu
end Go.Proofs
namespace Go.Proofs
open Go.Vc
set_option maxRecDepth 20000
namespace Nu
theorem bMx(s:TSc)(hM:ScM s)(i:Nat)(hi:i<s.2.2.2.2.2.2.2.2.1.length)(pre:List PL)(hp:LnB pre)(hn:pre.length≤335) :
  kF none s (jnP pre) (i:Int)=some (.inl (jnP (pre++aFF (s.2.2.2.2.2.2.2.2.1.getD i zS)),(i:Int)+1)):=by
 have hx:=hM.sb.2 _ (mF zS hi);have hs8:=hM.sb.1;have g:LnB (aFF (s.2.2.2.2.2.2.2.2.1.getD i zS)):=fun p hq=>bAW hM p (List.mem_append_right _ (List.mem_append_left _ (List.mem_flatMap.2 ⟨_,mF zS hi,hq⟩)));have U:∀z:List PL,LnB z→z.length≤376→(jnP z).length≤70368744177664:=fun z O h2=>by
  grind[aId]
 generalize hX:s.2.2.2.2.2.2.2.2.1.getD i zS=x at hx g;obtain⟨b1,b2,b3,b4⟩:=hx.b;have q:LnB [PL.sub x.1]:=fun p hq=>g p (by rw[List.mem_singleton.1 hq]; exact .head _);have I:LnB (x.2.1.map PL.state):=fun p hq=>g p (.tail _ (List.mem_append_left _ hq));have l2:LnB (x.2.2.1.map PL.par):=fun p hq=>g p (.tail _ (List.mem_append_right _ (List.mem_append_left _ hq)));have J:LnB (x.2.2.2.1.map PL.inn):=fun p hq=>g p (.tail _ (List.mem_append_right _ (List.mem_append_right _ (List.mem_append_left _ hq))));have Y:LnB (x.2.2.2.2.1.map PL.out):=fun p hq=>g p (.tail _ (List.mem_append_right _ (List.mem_append_right _ (List.mem_append_right _ hq))));have hX:s.2.2.2.2.2.2.2.2.1.getD i ([],[],[],[],[],())=x:=hX;have jp:=U _ hp (by omega);have O:=hx.n.len;have e1:((jnP pre++ [115,117,98,32])++x.1)++ [10]=jnP (pre++ [PL.sub x.1]):=by
  rw[aOJ,aOK];simp[ln,wds,jw,tl]
 have N:=aWy (step:=fun d:List Nat×Int=>kE none s (i:Int) d.1 d.2) x.2.1 (([]:List Nat),(([]:List Nat),([]:List Nat),()),(Ex.mk 0 [] []),()) .state (pre++ [PL.sub x.1]) ((hp.app q).app I) (by grind) (fun j y f hy=>bHI hX hy f (by omega) rfl (hx.x _ (mF _ f)).1 (hx.x _ (mF _ f)).2.1 (hx.x _ (mF _ f)).2.2) (fun y=>by
  show kE none s (i:Int) y (x.2.1.length:Int)=_;unfold kE;simp only[Int.toNat_natCast,hX];exact ifn (by omega) rfl)
 have L:=aWy (step:=fun d:List Nat×Int=>iQ none s (i:Int) d.1 d.2) x.2.2.1 (([]:List Nat),(([]:List Nat),([]:List Nat),()),()) .par (pre++ [PL.sub x.1]++x.2.1.map PL.state) (((hp.app q).app I).app l2) (by grind) (fun j y f hy=>bMu hX hy f (by omega) rfl (hx.p _ (mF _ f)).1 (hx.p _ (mF _ f)).2) (fun y=>by
  show iQ none s (i:Int) y (x.2.2.1.length:Int)=_;unfold iQ;simp only[Int.toNat_natCast,hX];exact ifn (by omega) rfl)
 have Z:=aWy (step:=fun d:List Nat×Int=>iP none s (i:Int) d.1 d.2) x.2.2.2.1 ([]:List Nat) .inn (pre++ [PL.sub x.1]++x.2.1.map PL.state++x.2.2.1.map PL.par) ((((hp.app q).app I).app l2).app J) (by grind) (fun j y f hy=>bMv hX hy f (by omega) rfl (hx.u _ (mF _ f))) (fun y=>by
  show iP none s (i:Int) y (x.2.2.2.1.length:Int)=_;unfold iP;simp only[Int.toNat_natCast,hX];exact ifn (by omega) rfl)
 have W:=aWy (step:=fun d:List Nat×Int=>iO none s (i:Int) d.1 d.2) x.2.2.2.2.1 (([]:List Nat),(Ex.mk 0 [] []),()) .out (pre++ [PL.sub x.1]++x.2.1.map PL.state++x.2.2.1.map PL.par++x.2.2.2.1.map PL.inn) (((((hp.app q).app I).app l2).app J).app Y) (by grind) (fun j y f hy=>bMw hX hy f (by omega) rfl (hx.o _ (mF _ f)).1 (hx.o _ (mF _ f)).2) (fun y=>by
  show iO none s (i:Int) y (x.2.2.2.2.1.length:Int)=_;unfold iO;simp only[Int.toNat_natCast,hX];exact ifn (by omega) rfl)
 unfold kF;simp only[Int.toNat_natCast,hX,bOG,bFb];rw[e1];refine ify (by omega) (aC ⟨by omega,by omega⟩ (aC (by simp only[List.length_cons,List.length_nil]; omega) (aC (by simp only[List.length_append,List.length_cons,List.length_nil]; omega) (aC (by simp only[List.length_append,List.length_cons,List.length_nil]; omega) (aJ N ?_)))));unfold wB;refine aJ L ?_;unfold wA;refine aJ Z ?_;unfold vZ;refine aJ W (aC (by omega) (congrArg some (congrArg Sum.inl ?_)));simp only[aFF,List.append_assoc,List.singleton_append,List.cons_append,List.nil_append]
theorem bN5:aI ⟨#[112,114,101,99,32]⟩= [112,114,101,99,32]:=rfl
theorem bOL:aI ⟨#[10,101,110,100,32]⟩= [10,101,110,100,32]:=rfl
theorem bN6:aI ⟨#[10,115,116,101,112,32]⟩= [10,115,116,101,112,32]:=rfl
theorem bPu:aI ⟨#[32]⟩= [32]:=rfl
theorem bOM:aI ⟨#[10,116,111,108,32]⟩= [10,116,111,108,32]:=rfl
theorem bMy:aI ⟨#[10,116,114,105,101,115,32]⟩= [10,116,114,105,101,115,32]:=rfl
theorem bMz:aI ⟨#[10,111,114,100,101,114,32]⟩= [10,111,114,100,101,114,32]:=rfl
theorem bDA(s:TSc)(hM:ScM s):vH none s=some (jnP (scP s)):=by
 obtain⟨⟨h1,h2,h3,Z⟩,⟨N,W,J,O⟩,_,_⟩:=id hM;have g:=bAW hM;have lh:LnB (heP s):=fun p hp=>g p (List.mem_append_left _ hp);have z:LnB (s.2.2.2.2.2.2.2.2.1.flatMap aFF):=fun p hp=>g p (List.mem_append_right _ (List.mem_append_left _ hp));have ll:LnB (s.2.2.2.2.2.2.2.2.2.1.map PL.link):=fun p hp=>g p (List.mem_append_right _ (List.mem_append_right _ hp));have hs8:=hM.sb.1;have fl:=aKc _ fun a ha=>(hM.sb.2 a ha).b;have i1:=aMO s.1.toNat (by omega);have q:=aMO s.2.1.toNat (by omega);have I:=aMO s.2.2.1.toNat (by omega);rw[Int.toNat_of_nonneg (by omega)] at i1 q I;have d1:=(bAU s.1.toNat (by omega)).2.2.1;have Y:=(bAU s.2.1.toNat (by omega)).2.2.1;have d3:=(bAU s.2.2.1.toNat (by omega)).2.2.1;have N:s.2.2.2.2.1.length≤100:=N;have W:s.2.2.2.2.2.1.length≤100:=W;have J:s.2.2.2.2.2.2.1.length≤100:=J;have O:s.2.2.2.2.2.2.2.1.length≤100:=O;have md:∃m:List Nat,([aI ⟨#[]⟩,aI ⟨#[106,97,99,111,98,105,10]⟩,aI ⟨#[115,101,105,100,101,108,10]⟩]:List qd).getD s.2.2.2.1.toNat ([]:List Nat)=m++ [10]∧m.length≤6∧ln (.mode s.2.2.2.1)=m:=by
  rcases Z with h|h
  ·rw[h];exact⟨[106,97,99,111,98,105],rfl,by decide,rfl⟩
  ·rw[h];exact⟨[115,101,105,100,101,108],rfl,by decide,rfl⟩
 obtain⟨m,m1,m2,m3⟩:=md;have eh:∀a b c:List Nat,dg s.1.toNat=a→dg s.2.1.toNat=b→dg s.2.2.1.toNat=c→(((((((((((((([112,114,101,99,32]++a)++ [10,101,110,100,32])++s.2.2.2.2.1)++ [10,115,116,101,112,32])++s.2.2.2.2.2.1)++ [32])++s.2.2.2.2.2.2.1)++ [10,116,111,108,32])++s.2.2.2.2.2.2.2.1)++ [10,116,114,105,101,115,32])++b)++ [10,111,114,100,101,114,32])++c)++ [10])++(m++ [10])=jnP (heP s):=fun a b c ha hb hc=>by
  have e:jnP (heP s)=(ln (.prec s.1.toNat)++ [10])++((ln (.fin s.2.2.2.2.1)++ [10])++((ln (.step s.2.2.2.2.2.1 s.2.2.2.2.2.2.1)++ [10])++((ln (.tol s.2.2.2.2.2.2.2.1)++ [10])++((ln (.tries s.2.1.toNat)++ [10])++((ln (.order s.2.2.1.toNat)++ [10])++(ln (.mode s.2.2.2.1)++ [10])))))):=by
   simp[heP,jnP,jn]
  rw[e,m3];simp[ln,wds,jw,tl,ha,hb,hc]
 have o1:bO none (fun d:List Nat×Int=>kF none s d.1 d.2) (jnP (heP s),(0:Int))=some (jnP (heP s++s.2.2.2.2.2.2.2.2.1.flatMap aFF)):=by
  refine Tot.eq (Tot.loop (fun d:List Nat×Int=>∃i:Nat,d=(jnP (heP s++(s.2.2.2.2.2.2.2.2.1.take i).flatMap aFF),(i:Int))∧i≤s.2.2.2.2.2.2.2.2.1.length) (fun d=>((s.2.2.2.2.2.2.2.2.1.length:Int)-d.2).toNat) ?_ ⟨0,by simp,Nat.zero_le _⟩);rintro d ⟨i,rfl,hi⟩;by_cases h:i<s.2.2.2.2.2.2.2.2.1.length
  ·have hl:((s.2.2.2.2.2.2.2.2.1.take i).flatMap aFF).length≤328:=by
    have:=aKc (s.2.2.2.2.2.2.2.2.1.take i) fun a ha=>(hM.sb.2 a (List.mem_of_mem_take ha)).b;grind
   have hp:LnB (heP s++(s.2.2.2.2.2.2.2.2.1.take i).flatMap aFF):=lh.app fun p hp=>by
    obtain⟨a,ha,f⟩:=List.mem_flatMap.1 hp;exact z p (List.mem_flatMap.2 ⟨a,List.mem_of_mem_take ha,f⟩)
   refine .of (bMx s hM i h _ hp (by rw[List.length_append]; show 7+_≤335; omega)) ⟨⟨i+1,?_,h⟩,by simp only; omega⟩;rw[eP zS h,List.flatMap_append,List.flatMap_singleton,List.append_assoc];rfl
  ·obtain rfl:i=s.2.2.2.2.2.2.2.2.1.length:=(by omega);rw[List.take_length];refine .of (r:=.inr _) ?_ rfl;show kF none s _ _=_;unfold kF;exact ifn (by omega) rfl
 have hl1:=hM.l.1;have U:=aWy (step:=fun d:List Nat×Int=>iN none s d.1 d.2) s.2.2.2.2.2.2.2.2.2.1 (([]:List Nat),([]:List Nat),([]:List Nat),([]:List Nat),()) .link (heP s++s.2.2.2.2.2.2.2.2.1.flatMap aFF) ((lh.app z).app ll) (by
  rw[List.length_append,List.length_append,List.length_map];show 7+_+_≤500;omega) (fun j y L hy=>bKy rfl (hM.l.2 _ (mF (([]:List Nat),([]:List Nat),([]:List Nat),([]:List Nat),()) L)) L (by omega) hy) (fun y=>by
  show iN none s y _=_;unfold iN;exact ifn (by omega) rfl)
 have fin:heP s++s.2.2.2.2.2.2.2.2.1.flatMap aFF++s.2.2.2.2.2.2.2.2.2.1.map PL.link=scP s:=List.append_assoc _ _ _;rw[fin] at U;unfold vH;simp only[i1,q,I,Option.bind_some,m1,bN5,bOL,bN6,bPu,bOM,bMy,bMz,bFb];rw[eh _ _ _ rfl rfl rfl];have c1:=d1;generalize dg s.1.toNat=a at c1;generalize dg s.2.1.toNat=b at Y;generalize dg s.2.2.1.toNat=c at d3;refine aC (by simp only[List.length_cons,List.length_nil]; omega) ?_
 iterate 9 refine aC (by simp only[List.length_append,List.length_cons,List.length_nil]; omega) ?_
 iterate 4 refine aC (by simp only[List.length_append,List.length_cons,List.length_nil]; omega) ?_
 refine aC (by omega) (aC (by simp only[List.length_append,List.length_cons,List.length_nil]; omega) (aJ o1 ?_));unfold vY;exact aJ U rfl
theorem aYW{a b:List Nat}(ha:Hm a)(f:Nrm b)(h:a.length<b.length):hv a<hv b:=by
 have g:=aCh ha;have q:=bKv f (by intro e; subst e; simp at h);exact Nat.lt_of_lt_of_le g (Nat.le_trans (Nat.pow_le_pow_right xAb (by omega)) q)
theorem bMA(a b:List Nat)(U:Hm a)(L:Hm b)(ha:Nrm a)(O:Nrm b)(na:a.length≤4611686018427387904):sK none a b=some (xP (hv a) (hv b)):=by
 unfold sK;refine aGJ (fun h=>?_) (fun h=>?_)
 ·unfold xP;rcases Nat.lt_or_ge a.length b.length with hl|hl
  ·have:=aYW U O hl;rw[if_pos (by omega),if_pos this]
  ·have N:b.length<a.length:=(by omega);have:=aYW L ha N;rw[if_neg (by omega),if_neg (by omega),if_neg (by omega)]
 ·have f:a.length=b.length:=by omega
  refine aC (by constructor<;>omega) ?_;have z:=kU (step:=fun d:Int=>sJ none a b d) (I:=fun i=> -1≤i∧i<a.length∧hv (a.drop (i+1).toNat)=hv (b.drop (i+1).toNat)) (fun i=>(i+1).toNat)
   (fun i=>if hv (a.take (i+1).toNat)=hv (b.take (i+1).toNat) then (.inl ():Unit⊕Int) else .inr (if hv (a.take (i+1).toNat)<hv (b.take (i+1).toNat) then -1 else 1)) ?_ ((a.length:Int)-1) ⟨by omega,by omega,by rw[List.drop_eq_nil_of_le (by omega),List.drop_eq_nil_of_le (by omega)]⟩
  ·rw[show ((a.length:Int)-1+1).toNat=a.length from by omega,List.take_length] at z;rw[f,List.take_length] at z;rw[f];refine aJ z ?_;unfold xP;by_cases e:hv a=hv b
   ·simp[e]
   ·by_cases W:hv a<hv b<;>simp[e,W]
  ·intro i ⟨h1,h2,h3⟩;show (∃d',sJ none a b i=_∧_)∨sJ none a b i=_;unfold sJ;by_cases hi:0≤i
   ·have hk:(i+1).toNat=i.toNat+1:=(by omega);have hia:i.toNat<a.length:=(by omega);have hib:i.toNat<b.length:=(by omega);rw[if_pos hi,hk,vL hia,vL hib];have Y:=aCh (aIe U i.toNat);have Z:=aCh (aIe L i.toNat);rw[List.length_take,Nat.min_eq_left (by omega)] at Y Z;by_cases he:a.getD i.toNat 0=b.getD i.toNat 0
    ·left
     refine⟨i-1,aC (by constructor<;>omega) (aC (by constructor<;>omega) ?_),⟨by omega,by omega,?_⟩,by omega,?_⟩
     ·rw[if_neg (by omega)];refine aC (by constructor<;>omega) (aC (by constructor<;>omega) ?_);rw[if_neg (by omega)];exact aC (by constructor<;>omega) rfl
     ·rw[show (i-1+1).toNat=i.toNat from by omega,List.drop_eq_getElem_cons hia,List.drop_eq_getElem_cons hib,xN,xN];exact zaq
     ·rw[show (i-1+1).toNat=i.toNat from by omega,he];simp only[Nat.add_right_cancel_iff,Nat.add_lt_add_iff_right]
    ·right
     refine aC (by constructor<;>omega) (aC (by constructor<;>omega) ?_);generalize a.getD i.toNat 0=x at *;generalize b.getD i.toNat 0=y at *;generalize hv (a.take i.toNat)=p at *;generalize hv (b.take i.toNat)=q at *;generalize 65536^i.toNat=P at *;rcases Nat.lt_or_ge x y with J|J
     ·have:P*(x+1)≤P*y:=Nat.mul_le_mul_left _ J;rw[Nat.mul_add] at this;rw[if_pos J,if_neg (by omega),if_pos (by omega)]
     ·have g:y<x:=(by omega);have:P*(y+1)≤P*x:=Nat.mul_le_mul_left _ g;rw[Nat.mul_add] at this;rw[if_neg (by omega)];refine aC (by constructor<;>omega) (aC (by constructor<;>omega) ?_);rw[if_pos g,if_neg (by omega),if_neg (by omega)]
   ·right
    have e:i= -1:=(by omega);subst e;rw[if_neg hi];simp[hv]
theorem aTO(a b:Nat)(h:(hb a).length≤4611686018427387904):sK none (hb a) (hb b)=some (xP a b):=by
 rw[bMA _ _ (aCB a) (aCB b) (aQE a) (aQE b) h,aAG,aAG]
theorem bMB{x:Nat}(h:x≠0):bl x=bl (x/2)+1:=by
 by_cases f:x=1
 ·subst f; rfl
 ·have:=aJm (x:=x) (k:=1) (by omega);rw[Nat.pow_one] at this;omega
theorem bMC{a:List Nat}(h:0<a.length):hv a=hv (a.take (a.length-1))+65536^(a.length-1)*a.getD (a.length-1) 0:=by
 have:=vL (a:=a) (k:=a.length-1) (by omega)
 rwa [show a.length-1+1=a.length from by omega,List.take_length] at this
theorem bKz{a:List Nat}(hl:Hm a)(f:Nrm a)(h:0<a.length):bl (hv a)=16*(a.length-1)+bl (a.getD (a.length-1) 0):=by
 rw[bMC h,aAX];refine bJs ((aHG h).1 f) ?_;have:=aCh (aIe hl (a.length-1));rw[List.length_take,Nat.min_eq_left (by omega),aAX] at this;exact this
theorem aWz(n:Nat)(hs:(hb n).length≤1099511627776):uN none (hb n)=some (bl n:Int):=by
 have ha:=aCB n;have L:=aQE n;have f:=aAG n;generalize hb n=a at *;unfold uN;by_cases h0:a.length=0
 ·have e:a= []:=List.eq_nil_of_length_eq_zero h0;subst e;rw[if_pos xAg,← f]; rfl
 ·have hx:=kX ha (a.length-1);have J:bl (a.getD (a.length-1) 0)≤16:=aK5 (by omega);have e1:((a.length:Int)-1).toNat=a.length-1:=by omega
  rw[if_neg (by omega),e1];refine aC (by constructor<;>omega) (aC (by constructor<;>omega) (aC (by constructor<;>omega) (aC (by constructor<;>omega) ?_)));have g:=kU (step:=fun d:Int×Nat=>qG none d.1 d.2) (I:=fun d=> -1000≤d.1∧d.1+bl d.2≤1099511627776000) (fun d=>bl d.2) (fun d=>d.1+(bl d.2:Int)) ?_ (16*((a.length:Int)-1),a.getD (a.length-1) 0) ⟨by (try simp only); omega,by (try simp only); omega⟩
  ·refine aJ g ?_;rw[← f,bKz ha L (by omega)]
   congr 1; simp only; omega
  ·rintro⟨k,x⟩ ⟨z,q⟩;have z: -1000≤k:=z;have q:k+bl x≤1099511627776000:=q;show (∃N,qG none k x=_∧_)∨qG none k x=_;unfold qG;by_cases hx:0<x
   ·left
    have hh:=bMB (x:=x) (by omega);refine⟨(k+1,x/2),?_,⟨by (try simp only); omega,by (try simp only); omega⟩,by (try simp only); omega,?_⟩
    ·rw[if_pos hx]; exact aC (by constructor<;>omega) rfl
    ·simp only; omega
   ·right
    have:x=0:=(by omega);subst this;rw[if_neg hx]; simp[bLM]
theorem bON(y:Nat){s:Nat}(h:s<16):y%65536/2^s%2=y/2^s%2:=by
 have h16s:(65536:Nat)=2^s*2^(16-s):=by rw[← Nat.pow_add,show s+(16-s)=16 from by omega]
 rw[h16s,Nat.mod_mul_right_div_self];refine Nat.mod_mod_of_dvd _ ⟨2^(15-s),?_⟩;rw[← Nat.pow_succ']; congr 1; omega
theorem bGF(n:Nat)(i:Int)(h0:0≤i)(O:i≤4611686018427387904)(hs:(hb n).length≤1099511627776):aA9 none (hb n) i=some (n/2^i.toNat%2):=by
 have ha:=aCB n;have g:=aAG n;generalize hb n=a at *;obtain⟨L,I⟩:=bA8 h0;have q:=Nat.div_add_mod i.toNat 16;have J:=Nat.mod_lt i.toNat (show 0<16 by decide);have hP:(2:Nat)^i.toNat=65536^(i.toNat/16)*2^(i.toNat%16):=by
  conv=>lhs; rw[← q]
  rw[Nat.pow_add,aAX]
 unfold aA9;rw[L,I];refine aC (by constructor<;>omega) ?_;by_cases h:a.length≤i.toNat/16
 ·rw[if_pos (by omega)];have f:=aCh ha;rw[g] at f;have:n<2^i.toNat:=by
   rw[hP];refine Nat.lt_of_lt_of_le f (Nat.le_trans (Nat.pow_le_pow_right xAb h) ?_);exact Nat.le_mul_of_pos_right _ (Nat.two_pow_pos _)
  rw[Nat.div_eq_of_lt this]
 ·rw[if_neg (by omega),Int.toNat_natCast];refine aC (by constructor<;>omega) (aC (by constructor<;>omega) ?_);have z:(((i.toNat%16:Nat):Int)%(18446744073709551616:Int)).toNat=i.toNat%16:=by omega
  have N:a.getD (i.toNat/16) 0=hv a/65536^(i.toNat/16)%65536:=by
   have:=bGD ha (i.toNat/16);rw[List.drop_eq_getElem_cons (by omega),xN] at this;rw[← this,Nat.add_mul_mod_self_left,List.getD_eq_getElem?_getD,List.getElem?_eq_getElem (by omega)];exact(Nat.mod_eq_of_lt (ha _ (List.getElem_mem _))).symm
  rw[z,bAA,N,g,hP,← Nat.div_div_eq_div_mul];exact congrArg some (bON _ J)
theorem bGG(n:Nat)(q:n≠0)(hs:(hb n).length≤1099511627776):aBb none (hb n)=some (tzn n:Int):=by
 obtain⟨m,hm⟩:=aDH q;have J:tzn n≤1099511627776000:=by
  have z:=bEn q;have g:=aCh (aCB n);rw[aAG,aAX] at g;have:=(Nat.pow_lt_pow_iff_right (show 1<2 by decide)).1 (Nat.lt_of_le_of_lt z g);omega
 unfold aBb;refine aJ (kU (step:=fun d:Int=>sX none (hb n) d) (I:=fun i=>0≤i∧i≤tzn n) (fun i=>(tzn n-i).toNat) (fun _=>(tzn n:Int)) ?_ 0 ⟨by omega,by omega⟩) rfl;intro i ⟨i0,i1⟩;show (∃L,sX none (hb n) i=_∧_)∨sX none (hb n) i=_;unfold sX;have f:=bGF n i i0 (by omega) hs;by_cases hi:i<tzn n
 ·left
  have e0:n/2^i.toNat%2=0:=by
   have:2^tzn n=2^i.toNat*(2*2^(tzn n-i.toNat-1)):=by
    rw[← Nat.mul_assoc,Nat.mul_comm _ 2,← Nat.pow_succ',← Nat.pow_add]; congr 1; omega
   rw[hm,this,Nat.mul_assoc,Nat.mul_div_cancel_left _ (Nat.two_pow_pos _),Nat.mul_assoc];exact Nat.mul_mod_right 2 _
  refine⟨i+1,aJ f ?_,⟨by omega,by omega⟩,by omega,rfl⟩;rw[if_pos e0];exact aC (by constructor<;>omega) rfl
 ·right
  have e:i.toNat=tzn n:=by omega
  have e1:n/2^i.toNat%2=1:=by
   rw[e]
   conv=>lhs; rw[hm]
   rw[aUJ rfl,Nat.mul_div_cancel_left _ (Nat.two_pow_pos _)]; omega
  refine aJ f ?_;rw[if_neg (by omega)]
  congr 2; omega
structure bMD(a b:List Nat)(c:Nat)(i:Int)(o:List Nat):Prop where
 i0:0≤i
 i1:i≤max a.length b.length+1
 c1:c≤1
 len:o.length=i.toNat
 lm:Hm o
 sum:hv o+65536^i.toNat*c=hv (a.take i.toNat)+hv (b.take i.toNat)
theorem aAc(b:List Nat)(i:Nat):hv (b.take (i+1))=hv (b.take i)+65536^i*b.getD i 0:=by
 rcases Nat.lt_or_ge i b.length with h|h
 ·exact vL h
 ·rw[List.take_of_length_le (by omega),List.take_of_length_le h,List.getD_eq_getElem?_getD,List.getElem?_eq_none h];simp
theorem aWA(a:List Nat)(x:Nat):hv (a++ [x])=hv a+65536^a.length*x:=by rw[aWw]; simp[hv]
theorem bHJ{a b:List Nat}{c:Nat}{i:Int}{o:List Nat}(z:Hm a)(f:Hm b)(h:bMD a b c i o)(hi:i≤max a.length b.length) :
  bMD a b ((c+a.getD i.toNat 0+b.getD i.toNat 0)/65536) (i+1) (o++ [(c+a.getD i.toNat 0+b.getD i.toNat 0)%65536]):=by
 have hx:=kX z i.toNat;have hy:=kX f i.toNat;have hc:=h.c1;have h0:=h.i0;have hl:=h.len;have hs:=h.sum;have e1:(i+1).toNat=i.toNat+1:=by omega
 refine⟨by omega,by omega,by omega,by rw[List.length_append,hl,e1]; rfl,aQF h.lm (by intro x hx; simp at hx; subst hx; exact Nat.mod_lt _ xAb),?_⟩;have g:=Nat.mod_add_div (c+a.getD i.toNat 0+b.getD i.toNat 0) 65536;have q:=congrArg (65536^i.toNat* ·) g;simp only[Nat.mul_add] at q;rw[e1,aWA,hl,aAc,aAc,Nat.pow_succ,Nat.mul_assoc];omega
theorem bGH{a b:List Nat}{i:Int}{o:List Nat}(f:Hm b)(i0:0≤i)(hs:o.length≤1099511627778)(hi:i≤1099511627776)(c:Nat)(hc:c≤65536) :
  sF none i b o c=some (.inl ((c+b.getD i.toNat 0)/65536,i+1,o++ [(c+b.getD i.toNat 0)%65536])):=by
 have hy:=kX f i.toNat;unfold sF;by_cases h:i<b.length
 ·rw[if_pos h,aR2,Nat.mod_eq_of_lt (show c+b.getD i.toNat 0<4294967296 by omega)];exact aC ⟨i0,h⟩ (aC (by omega) (aC (by constructor<;>omega) rfl))
 ·have:b.getD i.toNat 0=0:=by rw[List.getD_eq_getElem?_getD,List.getElem?_eq_none (by omega)]; rfl
  rw[if_neg h,aR2,this,Nat.add_zero];exact aC (by omega) (aC (by constructor<;>omega) rfl)
theorem bME(a b:List Nat)(g:Hm a)(f:Hm b)(ha:a.length≤1099511627775)(U:b.length≤1099511627775):yK none a b=some (hb (hv a+hv b)):=by
 unfold yK;have J:=cO (step:=fun d:Nat×Int×List Nat=>sG none a b d.1 d.2.1 d.2.2) (I:=fun d=>bMD a b d.1 d.2.1 d.2.2) (fun d=>2*(max a.length b.length-d.2.1).toNat+d.1) (fun e=>Hm e∧e.length≤1099511627777∧hv e=hv a+hv b) ?_ (0,0,[]) ⟨by simp,by simp; omega,by simp,by simp,(fun x hx=>by cases hx),by simp[hv]⟩
 ·obtain⟨e,W,h2,h3,Z⟩:=J;refine aJ W (aJ (aFu e h2 (by omega)) ?_);rw[Z]
 ·rintro⟨c,i,o⟩ h;have h:bMD a b c i o:=h;have i0:=h.i0;have i1:=h.i1;have hc:=h.c1;have hl:=h.len;show (∃d',sG none a b c i o=_∧_)∨ ∃e,sG none a b c i o=_∧_;unfold sG;have hx:=kX g i.toNat;by_cases L:(i<a.length∨i<b.length)∨0<c
  ·left
   have hi:i≤max a.length b.length:=by
    by_cases q:i≤max a.length b.length
    ·exact q
    ·exfalso;have hs:=h.sum;rw[List.take_of_length_le (by omega),List.take_of_length_le (by omega)] at hs;have p1:=aCh g;have p2:=aCh f;have q1:65536^a.length≤65536^(i.toNat-1):=Nat.pow_le_pow_right xAb (by omega);have q2:65536^b.length≤65536^(i.toNat-1):=Nat.pow_le_pow_right xAb (by omega);have N:65536^i.toNat=65536^(i.toNat-1)*65536:=(by rw[← Nat.pow_succ]; congr 1; omega);rw[N] at hs;have:65536^(i.toNat-1)*65536*1≤65536^(i.toNat-1)*65536*c:=Nat.mul_le_mul_left _ (by omega);omega
   have z:=bHJ g f h hi;refine⟨(_,_,_),?_,z,?_⟩
   ·rw[if_pos L];by_cases hia:i<a.length
    ·rw[if_pos hia,Nat.mod_eq_of_lt (show c+a.getD i.toNat 0<4294967296 by omega)];exact aC ⟨i0,hia⟩ (bGH (a:=a) f i0 (by omega) (by omega) _ (by omega))
    ·have:a.getD i.toNat 0=0:=(by rw[List.getD_eq_getElem?_getD,List.getElem?_eq_none (by omega)]; rfl);rw[if_neg hia,this,Nat.add_zero];exact bGH (a:=a) f i0 (by omega) (by omega) _ (by omega)
   ·simp only;have hy:=kX f i.toNat;by_cases O:i<max a.length b.length
    ·have:(c+a.getD i.toNat 0+b.getD i.toNat 0)/65536≤1:=(by omega);omega
    ·have z1:a.getD i.toNat 0=0:=(by rw[List.getD_eq_getElem?_getD,List.getElem?_eq_none (by omega)]; rfl);have Y:b.getD i.toNat 0=0:=(by rw[List.getD_eq_getElem?_getD,List.getElem?_eq_none (by omega)]; rfl);rw[z1,Y];omega
  ·right
   have hs:=h.sum;have c0:c=0:=(by omega);rw[c0,Nat.mul_zero,Nat.add_zero,List.take_of_length_le (by omega),List.take_of_length_le (by omega)] at hs;exact⟨o,by rw[if_neg L],h.lm,by omega,hs⟩
theorem bGI(a b:Nat)(ha:(hb a).length≤1099511627775)(f:(hb b).length≤1099511627775):yK none (hb a) (hb b)=some (hb (a+b)):=by
 rw[bME _ _ (aCB a) (aCB b) ha f,aAG,aAG]
theorem bBa:hb 1= [1]:=by rw[aMM xAb]; simp[qQ]
structure bHK(a b:List Nat)(c:Int)(i:Int)(o:List Nat):Prop where
 i0:0≤i
 i1:i≤a.length
 c0:0≤c
 c1:c≤1
 len:o.length=i.toNat
 lm:Hm o
 sum:hv (a.take i.toNat)+65536^i.toNat*c.toNat=hv o+hv (b.take i.toNat)
theorem aYX{a b:List Nat}{c c':Int}{i:Int}{o:List Nat}{d:Nat}(h:bHK a b c i o)(hi:i<a.length)(hd:d<65536)(f:0≤c')(g:c'≤1)(e:a.getD i.toNat 0+65536*c'.toNat=c.toNat+d+b.getD i.toNat 0):bHK a b c' (i+1) (o++ [d]):=by
 have h0:=h.i0;have hs:=h.sum;have hl:=h.len;have e1:(i+1).toNat=i.toNat+1:=by omega
 refine⟨by omega,by omega,f,g,by rw[List.length_append,hl,e1]; rfl,aQF h.lm (by intro x hx; simp at hx; subst hx; exact hd),?_⟩;have q:=congrArg (65536^i.toNat* ·) e;simp only[Nat.mul_add] at q;rw[e1,aWA,hl,aAc,aAc,Nat.pow_succ,Nat.mul_assoc];omega
theorem w32{x:Nat}(h:x<65536):IntKind.i32.wrap (x:Int)=(x:Int):=by
 simp only[IntKind.wrap,IntKind.signed,IntKind.bits]; simp; omega
theorem bMF{a b:List Nat}{c:Int}{i:Int}{o:List Nat}(q:Hm a)(f:Hm b)(hs:a.length≤1099511627776)(h:bHK a b c i o)(hi:i<a.length) :
  ∃c' o',sS none o i ((a.getD i.toNat 0:Int)-c-(b.getD i.toNat 0:Int))=some (.inl (c',i+1,o'))∧bHK a b c' (i+1) o':=by
 have hx:=kX q i.toNat;have hy:=kX f i.toNat;have h0:=h.i0;have z:=h.c0;have I:=h.c1;have hl:=h.len;unfold sS;by_cases g:(a.getD i.toNat 0:Int)-c-(b.getD i.toNat 0:Int)<0
 ·refine⟨1,o++ [a.getD i.toNat 0+65536-c.toNat-b.getD i.toNat 0],?_,aYX h hi (by omega) xAb xAb (by omega)⟩;rw[if_pos g,show (((a.getD i.toNat 0:Int)-c-(b.getD i.toNat 0:Int)+65536)%4294967296).toNat=a.getD i.toNat 0+65536-c.toNat-b.getD i.toNat 0 from by omega];exact aC (by constructor<;>omega) (aC (by omega) (aC (by constructor<;>omega) rfl))
 ·refine⟨0,o++ [a.getD i.toNat 0-c.toNat-b.getD i.toNat 0],?_,aYX h hi (by omega) xAb xAb (by omega)⟩;rw[if_neg g,show (((a.getD i.toNat 0:Int)-c-(b.getD i.toNat 0:Int))%4294967296).toNat=a.getD i.toNat 0-c.toNat-b.getD i.toNat 0 from by omega];exact aC (by omega) (aC (by constructor<;>omega) rfl)
theorem bMG(a b:List Nat)(L:Hm a)(g:Hm b)(ha:a.length≤1099511627775)(U:b.length≤a.length)(O:hv b≤hv a):aBa none a b=some (hb (hv a-hv b)):=by
 unfold aBa;have J:=cO (step:=fun d:Int×Int×List Nat=>sT none a b d.1 d.2.1 d.2.2) (I:=fun d=>bHK a b d.1 d.2.1 d.2.2) (fun d=>(a.length-d.2.1).toNat) (fun e=>Hm e∧e.length=a.length∧hv e=hv a-hv b) ?_ (0,0,[]) ⟨by simp,by simp,by simp,by simp,by simp,(fun x hx=>by cases hx),by simp[hv]⟩
 ·obtain⟨e,W,Z,h3,Y⟩:=J;refine aJ W (aJ (aFu e Z (by omega)) ?_);rw[Y]
 ·rintro⟨c,i,o⟩ h;have h:bHK a b c i o:=h;have i0:=h.i0;have i1:=h.i1;have c0:=h.c0;have c1:=h.c1;show (∃d',sT none a b c i o=_∧_)∨ ∃e,sT none a b c i o=_∧_;unfold sT;have hx:=kX L i.toNat;have hy:=kX g i.toNat;by_cases hi:i<a.length
  ·left
   obtain⟨c',N,q1,q2⟩:=bMF L g (by omega) h hi;refine⟨(c',i+1,N),?_,q2,by (try simp only); omega⟩;rw[if_pos hi,w32 hx,w32 hy];refine aC ⟨i0,hi⟩ (aC (by constructor<;>omega) ?_);by_cases hib:i<b.length
   ·rw[if_pos hib];exact aC ⟨i0,hib⟩ (aC (by constructor<;>omega) q1)
   ·have f:b.getD i.toNat 0=0:=(by rw[List.getD_eq_getElem?_getD,List.getElem?_eq_none (by omega)]; rfl);rw[f] at q1;rw[if_neg hib]
    simpa using q1
  ·right
   have hl:=h.len;have hs:=h.sum;rw[List.take_of_length_le (by omega),List.take_of_length_le (l:=b) (by omega)] at hs;have z:=aCh h.lm;rw[hl] at z;refine⟨o,by rw[if_neg hi],h.lm,by omega,?_⟩;have q:c.toNat=0:=by
    rcases Nat.eq_zero_or_pos c.toNat with f|f
    ·exact f
    ·have:65536^i.toNat*1≤65536^i.toNat*c.toNat:=Nat.mul_le_mul_left _ f;omega
   rw[q,Nat.mul_zero] at hs;omega
theorem bDB{a b:Nat}(h:a≤b):(hb a).length≤(hb b).length:=by
 have:=aCh (aCB b);rw[aAG] at this;exact bE6.2 (Nat.lt_of_le_of_lt h this)
theorem bMH(a b:Nat)(ha:(hb a).length≤1099511627775)(f:b≤a):aBa none (hb a) (hb b)=some (hb (a-b)):=by
 rw[bMG _ _ (aCB a) (aCB b) ha (bDB f) (by rw[aAG,aAG]; exact f),aAG,aAG]
theorem bOO:gT .u32=4294967296:=by decide +kernel
theorem bOP(a b:Nat):mulM none .u32 a b=a*b%4294967296:=by show aGz .u32 a b=_; rw[aTA,bOO]
theorem aOT{a:List Nat}(h:Hm a)(k:Nat):a.getD k 0=hv a/65536^k%65536:=by
 rw[← bGD h];rcases Nat.lt_or_ge k a.length with hk|hk
 ·rw[List.drop_eq_getElem_cons hk,xN,Nat.add_mul_mod_self_left,List.getD_eq_getElem?_getD,List.getElem?_eq_getElem hk];exact(Nat.mod_eq_of_lt (h _ (List.getElem_mem hk))).symm
 ·rw[List.drop_eq_nil_of_le hk,List.getD_eq_getElem?_getD,List.getElem?_eq_none hk]; rfl
theorem bFc{a:List Nat}(h:Hm a){k:Nat}(hk:hv a<65536^k):a.getD k 0=0:=by
 rw[aOT h,Nat.div_eq_of_lt hk]
structure RMJ(b:List Nat)(x:Nat)(i:Int)(o0:List Nat)(c:Nat)(j:Int)(o:List Nat):Prop where
 j0:0≤j
 j1:j≤b.length
 len:o.length=o0.length
 lm:Hm o
 c1:c<65536
 rest:o.drop (i+j).toNat=o0.drop (i+j).toNat
 sum:hv o+65536^(i+j).toNat*c=hv o0+65536^i.toNat*x*hv (b.take j.toNat)
theorem bKA{N g f Q R P o v c c' x y t:Nat}(hP:P=Q*R)(z:g+P*o=N+P*v)(I:N+P*c=f+Q*x*t)(h3:v+65536*c'=o+x*y+c):g+P*65536*c'=f+Q*x*(t+R*y):=by
 have e:=congrArg (P* ·) h3;simp only[Nat.mul_add] at e;have q:P*(x*y)=Q*x*(R*y):=by
  rw[hP,Nat.mul_assoc,Nat.mul_assoc]; congr 1; rw[Nat.mul_left_comm]
 rw[Nat.mul_add,Nat.mul_assoc P 65536 c'];omega
theorem bKB{b:List Nat}{x:Nat}{i:Int}{o0:List Nat}{c:Nat}{j:Int}{o:List Nat}(I:Hm b)(hi:0≤i)(hl:i+b.length≤o0.length)(h:RMJ b x i o0 c j o)(J:j<b.length){v c':Nat}(q:v<65536)(g:c'<65536)(e:v+65536*c'=o.getD (i+j).toNat 0+x*b.getD j.toNat 0+c) :
  RMJ b x i o0 c' (j+1) (o.set (i+j).toNat v):=by
 have h0:=h.j0;have f:=h.len;have e1:(i+(j+1)).toNat=(i+j).toNat+1:=by omega
 have z:(j+1).toNat=j.toNat+1:=by omega
 refine⟨by omega,by omega,by rw[List.length_set]; exact f,bE9 h.lm _ q,g,?_,?_⟩
 ·rw[e1,drop_set]; exact aCK h.rest
 ·rw[e1,z,aAc,Nat.pow_succ];exact bKA (R:=65536^j.toNat) (by rw[← Nat.pow_add]; congr 1; omega) (bE8 (by omega)) h.sum e
theorem bMI{a b:List Nat}{i:Int}{o0:List Nat}(hi:0≤i)(hia:i<a.length)(hs:i+b.length≤9000000000000)(hl:i+b.length≤o0.length)(O:Hm a)(f:Hm b)(Y:Hm o0) :
  ∃e:Nat×List Nat,bO none (fun d:Nat×Int×List Nat=>oU none b i a d.1 d.2.1 d.2.2) (0,0,o0)=some e∧RMJ b (a.getD i.toNat 0) i o0 e.1 b.length e.2:=by
 ·have J:=cO (step:=fun d:Nat×Int×List Nat=>oU none b i a d.1 d.2.1 d.2.2) (I:=fun d=>RMJ b (a.getD i.toNat 0) i o0 d.1 d.2.1 d.2.2) (fun d=>(b.length-d.2.1).toNat) (fun e=>RMJ b (a.getD i.toNat 0) i o0 e.1 b.length e.2) ?_ (0,0,o0) ⟨by simp,by simp,rfl,Y,by simp,rfl,by simp[hv]⟩
  ·obtain⟨e,N,h2⟩:=J;exact⟨e,N,h2⟩
  ·rintro⟨c,j,o⟩ h;have h:RMJ b (a.getD i.toNat 0) i o0 c j o:=h;have h0:=h.j0;have L:=h.len;have N:=h.j1;have hx:=kX O i.toNat;have hy:=kX f j.toNat;have ho:=kX h.lm (i+j).toNat;have hc:=h.c1;have hp:a.getD i.toNat 0*b.getD j.toNat 0≤65535*65535:=Nat.mul_le_mul (by omega) (by omega);show (∃d',oU none b i a c j o=_∧_)∨ ∃e,oU none b i a c j o=_∧_;unfold oU wN;by_cases g:j<b.length
   ·left
    have m1:mulM none .u32 (a.getD i.toNat 0) (b.getD j.toNat 0)=a.getD i.toNat 0*b.getD j.toNat 0:=(by rw[bOP,Nat.mod_eq_of_lt (by omega)]);have W:(a.getD i.toNat 0*b.getD j.toNat 0+o.getD (i+j).toNat 0)%4294967296=a.getD i.toNat 0*b.getD j.toNat 0+o.getD (i+j).toNat 0:=Nat.mod_eq_of_lt (by omega);have U:(a.getD i.toNat 0*b.getD j.toNat 0+o.getD (i+j).toNat 0+c)%4294967296=a.getD i.toNat 0*b.getD j.toNat 0+o.getD (i+j).toNat 0+c:=Nat.mod_eq_of_lt (by omega);simp only[m1,W,U,aR2];generalize hz:a.getD i.toNat 0*b.getD j.toNat 0+o.getD (i+j).toNat 0+c=z;have Z:z<4294967296:=(by omega);have q:=bKB f hi hl h g (v:=z%65536) (c':=z/65536) (Nat.mod_lt _ xAb) (by omega) (by omega);refine⟨(z/65536,j+1,o.set (i+j).toNat (z%65536)),?_,q,by (try simp only); omega⟩;rw[if_pos g,if_neg (by omega),Nat.add_zero,Nat.mod_eq_of_lt (show z/65536<4294967296 by omega)];exact aC ⟨hi,hia⟩ (aC ⟨h0,g⟩ (aC (by constructor<;>omega) (aC (by constructor<;>omega) (aC (by constructor<;>omega) (aC (by constructor<;>omega) (aC (by constructor<;>omega) rfl))))))
   ·right
    have e:j=b.length:=(by omega);rw[e] at h;exact⟨(c,o),by rw[if_neg g],h⟩
theorem bKC{o:List Nat}{k:Int}{c:Nat}(hk:0≤k)(hl:k<o.length)(hs:o.length≤9000000000000)(lm:Hm o)(g:o.getD k.toNat 0=0)(hc:c<65536) :
  ∃e,bO none (fun d:Nat×Int×List Nat=>hO none d.1 d.2.1 d.2.2) (c,k,o)=some e∧Hm e∧e.length=o.length∧hv e=hv o+65536^k.toNat*c:=by
 have f:=bE8 (a:=o) (k:=k.toNat) (v:=c) (by omega);rw[g,Nat.mul_zero,Nat.add_zero] at f;refine cO (step:=fun d:Nat×Int×List Nat=>hO none d.1 d.2.1 d.2.2) (I:=fun d=>d=(c,k,o)∨d=(0,k+1,o.set k.toNat c)) (fun d=>d.1) (fun e=>Hm e∧e.length=o.length∧hv e=hv o+65536^k.toNat*c) ?_ (c,k,o) (.inl rfl);rintro d (rfl|rfl)
 ·show (∃q,hO none c k o=_∧_)∨ ∃e,hO none c k o=_∧_;unfold hO;by_cases h0:0<c
  ·left
   refine⟨(0,k+1,o.set k.toNat c),?_,.inr rfl,h0⟩;rw[if_pos h0,g,Nat.add_zero,Nat.mod_eq_of_lt (show c<4294967296 by omega),aR2,Nat.mod_eq_of_lt hc,Nat.div_eq_of_lt hc];exact aC ⟨hk,hl⟩ (aC ⟨hk,hl⟩ (aC (by constructor<;>omega) rfl))
  ·right
   have e0:c=0:=(by omega);refine⟨o,by rw[if_neg h0],lm,rfl,by rw[e0,Nat.mul_zero,Nat.add_zero]⟩
 ·right
  show ∃e,hO none 0 (k+1) (o.set k.toNat c)=_∧_;unfold hO;refine⟨o.set k.toNat c,by rw[if_neg (by omega)],bE9 lm _ hc,by rw[List.length_set],f⟩
structure RMI(a b:List Nat)(i:Int)(o:List Nat):Prop where
 i0:0≤i
 i1:i≤a.length
 len:o.length=a.length+b.length
 lm:Hm o
 sum:hv o=hv (a.take i.toNat)*hv b
theorem bKD{a b:List Nat}{i:Int}{o:List Nat}(g:Hm a)(f:Hm b)(h:RMI a b i o):hv o<65536^(i.toNat+b.length):=by
 rw[h.sum,Nat.pow_add];have q:=aCh (aIe g i.toNat);have I:=aCh f;have h3:(a.take i.toNat).length≤i.toNat:=by rw[List.length_take]; omega
 have z:=Nat.lt_of_lt_of_le q (Nat.pow_le_pow_right (show 0<65536 by decide) h3);exact Nat.mul_lt_mul'' z I
theorem bMJ(a b:List Nat)(z:Hm a)(g:Hm b)(ha:a.length≤1000000000)(O:b.length≤1000000000):lI none a b=some (hb (hv a*hv b)):=by
 unfold lI;have en:((a.length:Int)+(b.length:Int)).toNat=a.length+b.length:=by omega
 refine aC (by constructor<;>omega) (aC (by omega) (aC (by omega) ?_));rw[en];have q:=cO (step:=fun d:Int×List Nat=>sE none a b d.1 d.2) (I:=fun d=>RMI a b d.1 d.2) (fun d=>(a.length-d.1).toNat) (fun e=>Hm e∧e.length=a.length+b.length∧hv e=hv a*hv b) ?_ (0,List.replicate (a.length+b.length) 0) ⟨by simp,by simp,by simp,bFa _,by rw[bE7]; simp[hv]⟩
 ·obtain⟨e,U,h2,h3,Y⟩:=q;refine aJ U (aJ (aFu e h2 (by omega)) ?_);rw[Y]
 ·rintro⟨i,o⟩ h;have h:RMI a b i o:=h;have i0:=h.i0;have i1:=h.i1;have hl:=h.len;show (∃d',sE none a b i o=_∧_)∨ ∃e,sE none a b i o=_∧_;unfold sE;by_cases hi:i<a.length
  ·left
   obtain⟨⟨c,o1⟩,q1,f⟩:=bMI (o0:=o) i0 hi (by omega) (by omega) z g h.lm;have f:RMJ b (a.getD i.toNat 0) i o c b.length o1:=f;have e1:(i+1).toNat=i.toNat+1:=(by omega);have L:(i+(b.length:Int)).toNat=i.toNat+b.length:=(by omega);have l1:=f.len;have J:o1.getD (i+(b.length:Int)).toNat 0=0:=by
    rw[aHH f.rest,L];exact bFc h.lm (bKD z g h)
   obtain⟨N,p1,p2,W,Z⟩:=bKC (o:=o1) (k:=i+b.length) (c:=c) (by omega) (by omega) (by omega) f.lm J f.c1;refine⟨(i+1,N),?_,⟨by (try simp only); omega,by (try simp only); omega,by rw[W]; omega,p2,?_⟩,by (try simp only); omega⟩
   ·rw[if_pos hi];refine aJ q1 ?_;unfold aAA;exact aC (by constructor<;>omega) (aJ p1 (aC (by constructor<;>omega) rfl))
   ·simp only;have hs:=f.sum;rw[Z,hs,e1,aAc,h.sum,Int.toNat_natCast,List.take_length,Nat.add_mul]
  ·right
   have hs:=h.sum;rw[List.take_of_length_le (by omega)] at hs;exact⟨o,by rw[if_neg hi],h.lm,hl,hs⟩
theorem aOU(a b:Nat)(ha:(hb a).length≤1000000000)(f:(hb b).length≤1000000000):lI none (hb a) (hb b)=some (hb (a*b)):=by
 rw[bMJ _ _ (aCB a) (aCB b) ha f,aAG,aAG]
theorem bDC{x:Nat}(h0:x≠0)(h:x<65536):hb x= [x]:=by
 rw[aMM h0,Nat.mod_eq_of_lt h,Nat.div_eq_of_lt h,qQ]
theorem gJ(k:Nat){n m:Nat}(h:n<2^m)(hm:m≤16*k):(hb n).length≤k:=by
 refine bE6.2 (Nat.lt_of_lt_of_le h ?_);rw[aAX];exact p2m _ _ hm
theorem bKE{b:Nat}(f:b≠0)(q:b<16)(i:Nat)(hi:i≤10000):lI none (hb (b^i)) [b]=some (hb (b^(i+1))):=by
 have g:b^i≤2^(4*i):=by
  rw[Nat.pow_mul]; exact Nat.pow_le_pow_left (by omega) i
 have:=aOU (b^i) b (gJ 1000000000 (aDR (4*i+1) g (by omega)) (by omega)) (gJ 1000000000 (m:=4) (by omega) xAb);rw[bDC f (by omega)] at this;rw[this,Nat.pow_succ]
theorem bBb(n:Int)(h0:0≤n)(g:n≤1000):yL none n=some (hb (10^n.toNat)):=by
 unfold yL;refine aJ (kU (step:=fun d:List Nat×Int=>sH none n d.1 d.2) (I:=fun d=>0≤d.2∧d.2≤n∧d.1=hb (10^d.2.toNat)) (fun d=>(n-d.2).toNat) (fun _=>hb (10^n.toNat)) ?_ ([1],0) ⟨by simp,by simp; exact h0,by simp[bBa]⟩) rfl;rintro⟨o,i⟩ ⟨i0,i1,f⟩;have i0:0≤i:=i0;have i1:i≤n:=i1;have f:o=hb (10^i.toNat):=f;show (∃q,sH none n o i=_∧_)∨sH none n o i=_;unfold sH;by_cases hi:i<n
 ·left
  have hp:=bKE (b:=10) xAb xAb i.toNat (by omega);rw[← f] at hp;refine⟨(hb (10^(i.toNat+1)),i+1),?_,⟨by (try simp only); omega,by (try simp only); omega,?_⟩,by (try simp only); omega,rfl⟩
  ·rw[if_pos hi];exact aJ hp (aC (by constructor<;>omega) rfl)
  ·simp only; rw[show (i+1).toNat=i.toNat+1 from by omega]
 ·right
  rw[if_neg hi,f,show i=n from by omega]
structure aYY(a:List Nat)(m s:Nat)(c:Nat)(i:Int)(o:List Nat):Prop where
 i0:0≤i
 i1:i≤a.length
 c1:c<2^s
 len:o.length=m+i.toNat
 lm:Hm o
 sum:hv o+65536^(m+i.toNat)*c=65536^m*2^s*hv (a.take i.toNat)
theorem bFd{a:List Nat}{m s c:Nat}{i:Int}{o:List Nat}(z:Hm a)(hs:s<16)(h:aYY a m s c i o)(hi:i<a.length) :
  aYY a m s ((c+a.getD i.toNat 0*2^s)/65536) (i+1) (o++ [(c+a.getD i.toNat 0*2^s)%65536]):=by
 have hx:=kX z i.toNat;have hc:=h.c1;have h0:=h.i0;have hl:=h.len;have f:=h.sum;have e1:(i+1).toNat=i.toNat+1:=by omega
 have g:c+a.getD i.toNat 0*2^s<65536*2^s:=by
  have:=Nat.mul_le_mul_right (2^s) (show a.getD i.toNat 0+1≤65536 by omega);rw[Nat.add_mul,Nat.one_mul] at this;omega
 refine⟨by omega,by omega,(Nat.div_lt_iff_lt_mul xAb).2 (by rw[Nat.mul_comm (2^s) 65536]; exact g),by rw[List.length_append,hl,e1]; rfl,aQF h.lm (by intro x hx; simp at hx; subst hx; exact Nat.mod_lt _ xAb),?_⟩;have J:=Nat.mod_add_div (c+a.getD i.toNat 0*2^s) 65536;have q:=congrArg (65536^(m+i.toNat)* ·) J;simp only[Nat.mul_add] at q;have I:65536^m*2^s*(65536^i.toNat*a.getD i.toNat 0)=65536^(m+i.toNat)*(a.getD i.toNat 0*2^s):=by
  rw[Nat.pow_add,Nat.mul_assoc,Nat.mul_assoc,Nat.mul_left_comm (2^s),Nat.mul_comm (2^s)]
 rw[e1,aWA,hl,vL (by omega),← Nat.add_assoc,Nat.pow_succ,Nat.mul_assoc,Nat.mul_add,I,← f];omega
theorem bMK(a:List Nat)(n:Int)(O:Hm a)(h0:0≤n)(hn:n≤1000000000)(ha:a.length≤1000000000)(hna:Nrm a):vJ none a n=some (hb (hv a*2^n.toNat)):=by
 obtain⟨d1,Y⟩:=bA8 h0;have q:=Nat.div_add_mod n.toNat 16;have Z:=Nat.mod_lt n.toNat (show 0<16 by decide);have hP:(2:Nat)^n.toNat=65536^(n.toNat/16)*2^(n.toNat%16):=by
  conv=>lhs; rw[← q]
  rw[Nat.pow_add,aAX]
 unfold vJ;by_cases U:a.length=0
 ·have e:a= []:=List.eq_nil_of_length_eq_zero U;subst e;rw[if_pos xAg];simp[hv,qQ]
 ·rw[if_neg (by omega),d1,Int.toNat_natCast];refine aC (by constructor<;>omega) (aC (by omega) (aC (by omega) ?_));have J:=cO (step:=fun d:Nat×Int×List Nat=>sR none a n d.1 d.2.1 d.2.2) (I:=fun d=>aYY a (n.toNat/16) (n.toNat%16) d.1 d.2.1 d.2.2) (fun d=>(a.length-d.2.1).toNat) (fun e=>aYY a (n.toNat/16) (n.toNat%16) e.1 a.length e.2) ?_ (0,0,List.replicate (n.toNat/16) 0) ⟨by simp,by simp,Nat.two_pow_pos _,by simp,bFa _,by rw[bE7]; simp[hv]⟩
  ·obtain⟨e,h1,g⟩:=J;obtain⟨c,o⟩:=e;have g:aYY a (n.toNat/16) (n.toNat%16) c a.length o:=g;have hc:=g.c1;have hl:=g.len;have f:=g.sum;have L:c<65536:=Nat.lt_of_lt_of_le hc (by rw[show (65536:Nat)=2^16 from rfl]; exact p2m _ _ (by omega));rw[Int.toNat_natCast] at hl f;rw[List.take_length] at f;refine aJ h1 (aC (by show (o.length+1)*4≤_; omega) (aJ (aFu (o++ [c]) (aQF g.lm (by intro x hx; simp at hx; subst hx; exact L)) (by rw[List.length_append]; simp; omega)) ?_));rw[aWA,hl,f,hP,Nat.mul_comm (hv a)]
  ·rintro⟨c,i,o⟩ h;have h:aYY a (n.toNat/16) (n.toNat%16) c i o:=h;have i0:=h.i0;have i1:=h.i1;have hc:=h.c1;have hl:=h.len;have hx:=kX O i.toNat;show (∃d',sR none a n c i o=_∧_)∨ ∃e,sR none a n c i o=_∧_;unfold sR;rw[Y];by_cases hi:i<a.length
   ·left
    have z:=bFd O Z h hi;refine⟨(_,_,_),?_,z,by (try simp only); omega⟩;have W:(((n.toNat%16:Nat):Int)%(18446744073709551616:Int)).toNat=n.toNat%16:=(by omega);have N:a.getD i.toNat 0*2^(n.toNat%16)<4294967296:=by
     have p1:2^(n.toNat%16)≤32768:=(by rw[show (32768:Nat)=2^15 from rfl]; exact p2m _ _ (by omega));have:=Nat.mul_le_mul (show a.getD i.toNat 0≤65535 by omega) p1;omega
    rw[if_pos hi,W,Nat.mod_eq_of_lt N,Nat.or_comm,aTM _ _ _ hc,aR2];exact aC ⟨i0,hi⟩ (aC (by omega) (aC (by constructor<;>omega) rfl))
   ·right
    have e:i=a.length:=(by omega);rw[e] at h;exact⟨(c,o),by rw[if_neg hi],h⟩
theorem bBc(x:Nat)(n:Int)(h0:0≤n)(f:n≤1000000000)(hx:(hb x).length≤1000000000):vJ none (hb x) n=some (hb (x*2^n.toNat)):=by
 rw[bMK _ n (aCB x) h0 f hx (aQE x),aAG]
theorem bHL{X i m s n:Nat}(hs:s<16)(g:n=16*m+s)(hi:m≤i):(X/65536^i%65536+X/65536^(i+1)%65536*65536)/2^s%65536=X/2^n/65536^(i-m)%65536:=by
 have e1:X/2^n/65536^(i-m)=X/65536^i/2^s:=by
  rw[Nat.div_div_eq_div_mul,Nat.div_div_eq_div_mul]
  congr 1
  rw[g,Nat.pow_add,← aAX,Nat.mul_right_comm,← Nat.pow_add]; congr 2; omega
 rw[e1,Nat.pow_succ,← Nat.div_div_eq_div_mul];generalize X/65536^i=Y;have q:Y%65536+Y/65536%65536*65536=Y%(65536*65536):=by rw[Nat.mod_mul,Nat.mul_comm]
 rw[q];have hp:(65536:Nat)=2^s*2^(16-s):=by rw[← Nat.pow_add,show s+(16-s)=16 from by omega]
 have f:65536*65536=2^s*(2^(16-s)*65536):=by rw[← Nat.mul_assoc,← hp]
 rw[f,Nat.mod_mul,Nat.add_comm,Nat.mul_add_div (Nat.two_pow_pos _),Nat.div_eq_of_lt (Nat.mod_lt _ (Nat.two_pow_pos _)),Nat.add_zero];exact Nat.mod_mul_left_mod _ _ _
structure bM7(X n m:Nat)(l:Nat)(i:Int)(o:List Nat):Prop where
 i0:m≤i
 i1:i≤l
 len:o.length=i.toNat-m
 lm:Hm o
 sum:hv o=X/2^n%65536^(i.toNat-m)
theorem bML(a:List Nat)(n:Int)(g:Hm a)(h0:0≤n)(hn:n≤1000000000)(ha:a.length≤1000000000):yS none a n=some (hb (hv a/2^n.toNat)):=by
 obtain⟨d1,W⟩:=bA8 h0;have f:=Nat.div_add_mod n.toNat 16;have Y:=Nat.mod_lt n.toNat (show 0<16 by decide);have hP:(2:Nat)^n.toNat=65536^(n.toNat/16)*2^(n.toNat%16):=by
  conv=>lhs; rw[← f]
  rw[Nat.pow_add,aAX]
 have q:=aCh g;unfold yS;rw[d1];refine aC (by constructor<;>omega) ?_;by_cases U:a.length≤n.toNat/16
 ·rw[if_pos (by omega)];have:hv a<2^n.toNat:=by
   rw[hP];refine Nat.lt_of_lt_of_le q (Nat.le_trans (Nat.pow_le_pow_right xAb U) ?_);exact Nat.le_mul_of_pos_right _ (Nat.two_pow_pos _)
  rw[Nat.div_eq_of_lt this,qQ]
 ·rw[if_neg (by omega)];refine aC (by constructor<;>omega) ?_;have L:=cO (step:=fun d:Int×List Nat=>sW none a n d.1 d.2) (I:=fun d=>bM7 (hv a) n.toNat (n.toNat/16) a.length d.1 d.2) (fun d=>(a.length-d.1).toNat) (fun e=>Hm e∧e.length≤a.length∧hv e=hv a/2^n.toNat) ?_ (((n.toNat/16:Nat):Int),[]) ⟨by (try simp only); omega,by (try simp only); omega,by simp only; simp,(fun x hx=>by cases hx),by simp only; simp[hv,Nat.mod_one]⟩
  ·obtain⟨e,Z,J,h3,h4⟩:=L;refine aJ Z (aJ (aFu e J (by omega)) ?_);rw[h4]
  ·rintro⟨i,o⟩ h;have h:bM7 (hv a) n.toNat (n.toNat/16) a.length i o:=h;have i0:=h.i0;have i1:=h.i1;have hl:=h.len;have hx:=kX g i.toNat;have hy:=kX g (i.toNat+1);show (∃d',sW none a n i o=_∧_)∨ ∃e,sW none a n i o=_∧_;unfold sW;by_cases hi:i<a.length
   ·left
    have e1:(i+1).toNat=i.toNat+1:=(by omega);have O:(((n.toNat%16:Nat):Int)%(18446744073709551616:Int)).toNat=n.toNat%16:=(by omega);have hd:=bHL (X:=hv a) (i:=i.toNat) Y f.symm (by omega);rw[← aOT g,← aOT g] at hd;refine⟨(i+1,o++ [hv a/2^n.toNat/65536^(i.toNat-n.toNat/16)%65536]),?_,⟨by (try simp only); omega,by (try simp only); omega,by simp only; rw[List.length_append,hl,e1]; simp; omega,aQF h.lm (by intro x hx; simp at hx; subst hx; exact Nat.mod_lt _ xAb),?_⟩,by (try simp only); omega⟩
    ·unfold wS;rw[if_pos hi,e1,W];refine aC ⟨by omega,hi⟩ (aC (by constructor<;>omega) ?_);by_cases J:i+1<a.length
     ·rw[if_pos J,Nat.mod_eq_of_lt (show a.getD (i.toNat+1) 0*65536<4294967296 by omega),O,aR2];have z:=aTM (a.getD i.toNat 0) (a.getD (i.toNat+1) 0) 16 hx;rw[show (2:Nat)^16=65536 from rfl] at z;rw[z,hd];exact aC (by constructor<;>omega) (aC (by constructor<;>omega) (aC (by omega) (aC (by constructor<;>omega) rfl)))
     ·have N:a.getD (i.toNat+1) 0=0:=(by rw[List.getD_eq_getElem?_getD,List.getElem?_eq_none (by omega)]; rfl);rw[N,Nat.zero_mul,Nat.add_zero] at hd;rw[if_neg J,O,aR2,hd];exact aC (by omega) (aC (by constructor<;>omega) rfl)
    ·simp only;rw[aWA,hl,h.sum,e1,show i.toNat+1-n.toNat/16=i.toNat-n.toNat/16+1 from by omega,Nat.pow_succ,Nat.mod_mul]
   ·right
    have e:i.toNat=a.length:=(by omega);have hs:=h.sum;rw[e] at hs hl;refine⟨o,by rw[if_neg hi],h.lm,by omega,?_⟩;rw[hs];refine Nat.mod_eq_of_lt ((Nat.div_lt_iff_lt_mul (Nat.two_pow_pos _)).2 (Nat.lt_of_lt_of_le q ?_));have:65536^a.length=65536^(a.length-n.toNat/16)*65536^(n.toNat/16):=(by rw[← Nat.pow_add]; congr 1; omega);rw[this,hP];exact Nat.mul_le_mul_left _ (Nat.le_mul_of_pos_right _ (Nat.two_pow_pos _))
theorem bGJ(x:Nat)(n:Int)(h0:0≤n)(f:n≤1000000000)(hx:(hb x).length≤1000000000):yS none (hb x) n=some (hb (x/2^n.toNat)):=by
 rw[bML _ n (aCB x) h0 f hx,aAG]
theorem bGK{x y:Nat}:0≤xP x y↔y≤x:=by
 unfold xP;split
 ·constructor<;>intro h<;>omega
 ·split<;>constructor<;>intro h<;>omega
theorem bKF{q:List Nat}{i Q:Nat}(lm:Hm q)(hi:i/16<q.length)(hq:hv q=Q*2^(i+1)) :
  q.getD (i/16) 0|||2^(i%16)<65536∧hv (q.set (i/16) (q.getD (i/16) 0|||2^(i%16)))=(2*Q+1)*2^i:=by
 have f:=Nat.div_add_mod i 16;have N:=Nat.mod_lt i (show 0<16 by decide);have hP:(2:Nat)^i=65536^(i/16)*2^(i%16):=by
  conv=>lhs; rw[← f]
  rw[Nat.pow_add,aAX]
 have I:q.getD (i/16) 0=Q%2^(15-i%16)*2^(i%16+1):=by
  rw[aOT lm,hq,Nat.pow_succ,hP,Nat.mul_assoc,Nat.mul_left_comm,Nat.mul_div_cancel_left _ (Nat.pow_pos xAb),← Nat.pow_succ];rw[show (65536:Nat)=2^(15-i%16)*2^(i%16+1) from by rw[← Nat.pow_add,show 15-i%16+(i%16+1)=16 from by omega]];exact Nat.mul_mod_mul_right _ _ _
 have g:q.getD (i/16) 0|||2^(i%16)=q.getD (i/16) 0+2^(i%16):=by
  rw[I,Nat.or_comm,aTM _ _ _ (Nat.pow_lt_pow_right xAb (by omega)),Nat.add_comm]
 have L:=Nat.mod_lt Q (Nat.two_pow_pos (15-i%16));have z:q.getD (i/16) 0+2^(i%16)<65536:=by
  rw[I];have J:=Nat.mul_le_mul_right (2^(i%16+1)) (show Q%2^(15-i%16)+1≤2^(15-i%16) from L);rw[← Nat.pow_add,show 15-i%16+(i%16+1)=16 from by omega,Nat.add_mul,Nat.one_mul] at J;have U:2^(i%16+1)=2^(i%16)*2:=Nat.pow_succ ..;have h3:=Nat.two_pow_pos (i%16);have O:(2:Nat)^16=65536:=rfl;omega
 rw[g];refine⟨z,?_⟩;have hs:=bE8 (a:=q) (k:=i/16) (v:=q.getD (i/16) 0+2^(i%16)) hi;rw[Nat.mul_add,← hP,hq,Nat.pow_succ] at hs;rw[Nat.add_mul,Nat.one_mul];have:Q*(2^i*2)=2*Q*2^i:=by rw[Nat.mul_comm (2^i),← Nat.mul_assoc,Nat.mul_comm Q]
 omega
theorem bGL{X Y l:Nat}{i:Int}{q:List Nat}{R Q:Nat}(I:0<Y)(i0:0≤i)(hi:i<16*(l:Int))(hl:l≤1000000)(f:q.length=l)(lm:Hm q)(hq:hv q=Q*2^(i.toNat+1))(hX:X=R+Y*(2*Q))(hR:R<2*Y)(U:(hb R).length≤1000000) :
  ∃z,sU none (hb Y) i q (hb R)=some (.inl (hb (X%Y),i-1,z))∧z.length=l∧Hm z∧hv z=X/Y*2^i.toNat:=by
 obtain⟨W,N⟩:=bA8 i0;have hr:=Nat.mod_lt i.toNat (show 0<16 by decide);unfold sU;by_cases g:Y≤R
 ·have e:X=(R-Y)+Y*(2*Q+1):=by rw[hX,Nat.mul_add]; omega
  have hm:X%Y=R-Y:=by rw[e,Nat.add_mul_mod_self_left,Nat.mod_eq_of_lt (by omega)]
  have hd:X/Y=2*Q+1:=by rw[e,Nat.add_mul_div_left _ _ I,Nat.div_eq_of_lt (by omega),Nat.zero_add]
  obtain⟨J,Z⟩:=bKF (i:=i.toNat) lm (by omega) hq;refine⟨q.set (i.toNat/16) (q.getD (i.toNat/16) 0|||2^(i.toNat%16)),aJ (aTO R Y (by omega)) ?_,by rw[List.length_set]; exact f,bE9 lm _ J,by rw[Z,hd]⟩;rw[if_pos (bGK.2 g)];refine aJ (bMH R Y (by omega) g) ?_;have L:(((i.toNat%16:Nat):Int)%(18446744073709551616:Int)).toNat=i.toNat%16:=by omega
  have O:1*2^(i.toNat%16)%4294967296=2^(i.toNat%16):=by
   rw[Nat.one_mul];refine Nat.mod_eq_of_lt (Nat.lt_of_le_of_lt (p2m _ 15 (by omega)) xAb)
  rw[W,N,L,O,Int.toNat_natCast,hm];exact aC (by constructor<;>omega) (aC (by constructor<;>omega) (aC (by constructor<;>omega) (aC (by constructor<;>omega) (aC (by constructor<;>omega) rfl))))
 ·have hm:X%Y=R:=by rw[hX,Nat.add_mul_mod_self_left,Nat.mod_eq_of_lt (by omega)]
  have hd:X/Y=2*Q:=by rw[hX,Nat.add_mul_div_left _ _ I,Nat.div_eq_of_lt (by omega),Nat.zero_add]
  refine⟨q,aJ (aTO R Y (by omega)) ?_,f,lm,?_⟩
  ·rw[if_neg (fun h=>g (bGK.1 h)),hm];exact aC (by constructor<;>omega) rfl
  ·rw[hq,hd,Nat.pow_succ,Nat.mul_comm (2^i.toNat),← Nat.mul_assoc,Nat.mul_comm Q]
structure bM8(X Y l:Nat)(r:List Nat)(i:Int)(q:List Nat):Prop where
 i0: -1≤i
 i1:i<bl X
 r0:r=hb (X/2^(i+1).toNat%Y)
 len:q.length=l
 lm:Hm q
 sum:hv q=X/2^(i+1).toNat/Y*2^(i+1).toNat
theorem bBd{x y:Nat}(h:x<2*y)(k:Nat)(hy:(hb y).length≤k):(hb x).length≤k+1:=by
 have f:=aCh (aCB y);rw[aAG] at f;have g:65536^(hb y).length≤65536^k:=Nat.pow_le_pow_right xAb hy;refine bE6.2 ?_;rw[Nat.pow_succ];omega
theorem bMM(X Y:Nat)(hY:Y≠0)(hx:(hb X).length≤100000)(hy:(hb Y).length≤100000):aCS none (hb X) (hb Y)=some (hb (X/Y),hb (X%Y),()):=by
 have hbX:bl X≤16*(hb X).length:=aK5 (by rw[← aAX]; have:=aCh (aCB X); rwa [aAG] at this);unfold aCS;refine aJ (aWz X (by omega)) (aC (by omega) (aC (by omega) (aC (by constructor<;>omega) ?_)));have Z:=cO (step:=fun d:List Nat×Int×List Nat=>sV none (hb X) (hb Y) d.1 d.2.1 d.2.2) (I:=fun d=>bM8 X Y (hb X).length d.1 d.2.1 d.2.2) (fun d=>(d.2.1+1).toNat) (fun e=>e.1=hb (X%Y)∧Hm e.2∧e.2.length=(hb X).length∧hv e.2=X/Y) ?_ ([],(bl X:Int)-1,List.replicate (hb X).length 0) ⟨by (try simp only); omega,by (try simp only); omega,?_,by simp,bFa _,?_⟩
 ·obtain⟨⟨r,q⟩,L,W,h3,h4,h5⟩:=Z;have W:r=hb (X%Y):=W;have h4:q.length=(hb X).length:=h4;refine aJ L (aJ (aFu q h3 (by omega)) ?_);rw[W];have h5:hv q=X/Y:=h5;rw[h5]
 ·rintro⟨r,i,q⟩ h;have h:bM8 X Y (hb X).length r i q:=h;have i0:=h.i0;have i1:=h.i1;show (∃d',sV none (hb X) (hb Y) r i q=_∧_)∨ ∃e,sV none (hb X) (hb Y) r i q=_∧_;unfold sV;by_cases hi:0≤i
  ·left
   have e1:(i+1).toNat=i.toNat+1:=(by omega);have O:(i-1+1).toNat=i.toNat:=(by omega);have f:=h.sum;have z:=h.r0;rw[e1] at f z;have hX':X/2^i.toNat=2*(X/2^(i.toNat+1))+X/2^i.toNat%2:=by
    rw[Nat.pow_succ,← Nat.div_div_eq_div_mul]; omega
   have hdm:=Nat.div_add_mod (X/2^(i.toNat+1)) Y;have hRlt:=Nat.mod_lt (X/2^(i.toNat+1)) (show 0<Y by omega);have hbt:=Nat.mod_lt (X/2^i.toNat) (show 0<2 by decide);generalize hA:X/2^(i.toNat+1)=A at *;generalize hB:X/2^i.toNat%2=β at *;have hl0:(hb (A%Y)).length≤100001:=bBd (y:=Y) (by omega) 100000 hy;have hl1:(hb (A%Y*2)).length≤100002:=bBd (y:=Y) (by omega) 100001 (by omega);have hl2:(hb (A%Y*2+1)).length≤100002:=bBd (y:=Y) (by omega) 100001 (by omega);have N:∀b,b=β→X/2^i.toNat=(A%Y*2+b)+Y*(2*(A/Y)):=fun b hb'=>by
    rw[hX',hb'];have:Y*(2*(A/Y))=2*(Y*(A/Y)):=Nat.mul_left_comm _ _ _;omega
   have hS:=bBc (A%Y) 1 xAb xAb (by omega);rw[show (2:Nat)^(1:Int).toNat=2 from rfl,← z] at hS;have g:=bGF X i hi (by omega) (by omega);rw[hB] at g;by_cases L:β=1
   ·obtain⟨q',p1,p2,p3,U⟩:=bGL (X:=X/2^i.toNat) (Y:=Y) (l:=(hb X).length) (q:=q) (R:=A%Y*2+1) (Q:=A/Y) (by omega) hi (by omega) (by omega) h.len h.lm f (N 1 L.symm) (by omega) (by omega);have J:=bGI (A%Y*2) 1 (by omega) (by rw[bBa]; decide);rw[bBa] at J;refine⟨(hb (X/2^i.toNat%Y),i-1,q'),?_,⟨by (try simp only); omega,by (try simp only); omega,by simp only; rw[O],p2,p3,by simp only; rw[O]; exact U⟩,by (try simp only); omega⟩;rw[if_pos hi];refine aJ hS (aJ g ?_);rw[if_pos L];exact aJ J p1
   ·obtain⟨q',p1,p2,p3,U⟩:=bGL (X:=X/2^i.toNat) (Y:=Y) (l:=(hb X).length) (q:=q) (R:=A%Y*2) (Q:=A/Y) (by omega) hi (by omega) (by omega) h.len h.lm f (by have:=N 0 (by omega); rw[Nat.add_zero] at this; exact this) (by omega) (by omega);refine⟨(hb (X/2^i.toNat%Y),i-1,q'),?_,⟨by (try simp only); omega,by (try simp only); omega,by simp only; rw[O],p2,p3,by simp only; rw[O]; exact U⟩,by (try simp only); omega⟩;rw[if_pos hi];refine aJ hS (aJ g ?_);rw[if_neg L];exact p1
  ·right
   have e:i= -1:=(by omega);have f:=h.sum;have z:=h.r0;rw[e,show ((-1:Int)+1).toNat=0 from rfl,Nat.pow_zero,Nat.div_one] at f z;rw[Nat.mul_one] at f;exact⟨(r,q),by rw[if_neg hi],z,h.lm,h.len,f⟩
 ·simp only;rw[show ((bl X:Int)-1+1).toNat=bl X from by omega,Nat.div_eq_of_lt (aYC X),Nat.zero_mod,qQ]
 ·simp only;rw[bE7,show ((bl X:Int)-1+1).toNat=bl X from by omega,Nat.div_eq_of_lt (aYC X),Nat.zero_div,Nat.zero_mul]
theorem aTP{M:Nat}:(hb M).length=0↔M=0:=⟨fun h=>bE5.1 (List.eq_nil_of_length_eq_zero h),fun h=>by rw[h,qQ]; rfl⟩
theorem bKG(s:Bool)(M K:Nat)(E:Int)(hM:M<2^K)(L:K≤4096)(J: -910000≤E∧E≤910000) :
  aBE none (s,hb M,E,())=some ((if M=0 then d0 else (s,lb (M/2^tzn M),E+(tzn M:Int),())),0,()):=by
 have hl:=gJ 256 hM (by omega);unfold aBE;simp only;by_cases h0:M=0
 ·rw[if_pos (by rw[h0,qQ]; rfl),if_pos h0]; rfl
 ·have z:¬(((hb M).length:Int)=0):=fun h=>h0 (aTP.1 (by omega));have I:=aJZ h0 hM;have f:M/2^tzn M<2^K:=Nat.lt_of_le_of_lt (Nat.div_le_self _ _) hM;have q:=gJ 256 f (by omega);have g:=bGJ M (tzn M) (by omega) (by omega) (by omega);rw[Int.toNat_natCast] at g;rw[if_neg z,if_neg h0];refine aJ (bGG M h0 (by omega)) (aJ g ?_);unfold aCg;rw[decide_eq_false (by omega)];refine aJ rfl ?_;rw[if_neg xAb];refine aC (fun _=>by constructor<;>omega) (aC (fun _=>by constructor<;>omega) ?_);rw[if_neg (by omega)];exact aJ (bKx _ (by omega)) (aC (by constructor<;>omega) rfl)
theorem bMN{M:Nat}(h0:M≠0):tzn (M/2^tzn M)=0∧M/2^tzn M≠0:=by
 obtain⟨g,f⟩:=aIb h0;have:M/2^tzn M=2^0*(2*(M/2^tzn M/2)+1):=by rw[Nat.pow_zero,Nat.one_mul]; omega
 exact⟨aUJ this,by omega⟩
theorem bDD(s:Bool)(M K:Nat)(E:Int)(hM:M<2^K)(J:K≤4096)(O: -900000≤E∧E≤900000) :
  yT none (s,hb M,E,())=some ((if M=0 then d0 else (s,lb (M/2^tzn M),E+(tzn M:Int),())),0,()):=by
 have hl:=gJ 256 hM (by omega);unfold yT;simp only;by_cases h0:M=0
 ·rw[if_pos (by rw[h0,qQ]; rfl),if_pos h0]; rfl
 ·have L:¬(((hb M).length:Int)=0):=fun h=>h0 (aTP.1 (by omega));have N:=aJZ h0 hM;have f:M/2^tzn M<2^K:=Nat.lt_of_le_of_lt (Nat.div_le_self _ _) hM;have g:=bGJ M (tzn M) (by omega) (by omega) (by omega);rw[Int.toNat_natCast] at g;obtain⟨I,z⟩:=bMN h0;have q:=bKG s (M/2^tzn M) K (E+(tzn M:Int)) f J (by constructor<;>omega);rw[I,if_neg z,Nat.pow_zero,Nat.div_one] at q;rw[if_neg L,if_neg h0];refine aJ (bGG M h0 (by omega)) (aJ g (aC (by constructor<;>omega) (aJ q ?_)));simp
end Nu
end Go.Proofs

