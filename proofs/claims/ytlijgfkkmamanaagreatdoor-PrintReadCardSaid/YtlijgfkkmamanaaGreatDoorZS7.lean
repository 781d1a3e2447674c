import Derived.Test.YtlijgfkkmamanaaGreatDoorZS6
import Derived.Test.YtlijgfkkmamanaaGreatDoorZS3
import Derived.Test.YtlijgfkkmamanaaGreatDoorZS5
set_option linter.unusedVariables false
set_option linter.unusedSimpArgs false
namespace Go.Proofs
open Go.Vc
set_option maxRecDepth 20000
namespace Nu
def aJK(x:qI):List PL:=.sub x.1::(x.2.1.map .state++(x.2.2.1.map .par++(x.2.2.2.1.map .inn++x.2.2.2.2.1.map .out)))
def heP(s:TSc):List PL:=[.prec s.1.toNat,.fin s.2.2.2.2.1,.step s.2.2.2.2.2.1 s.2.2.2.2.2.2.1,.tol s.2.2.2.2.2.2.2.1,.tries s.2.1.toNat,.order s.2.2.1.toNat,.mode s.2.2.2.1]
def scP(s:TSc):List PL:=heP s++(s.2.2.2.2.2.2.2.2.1.flatMap aJK++s.2.2.2.2.2.2.2.2.2.1.map .link)
structure bDw(s:qI):Prop where
 n:NmK s.1
 x:s.2.1.length≤1000∧ ∀a∈s.2.1,NmK a.1∧RgK a.2.1∧ExK a.2.2.1
 p:s.2.2.1.length≤1000∧ ∀a∈s.2.2.1,NmK a.1∧RgK a.2.1
 u:s.2.2.2.1.length≤1000∧ ∀a∈s.2.2.2.1,NmK a
 o:s.2.2.2.2.1.length≤1000∧ ∀a∈s.2.2.2.2.1,NmK a.1∧ExK a.2.1
structure ScM(s:TSc):Prop where
 n:(0≤s.1∧s.1<1000)∧(0≤s.2.1∧s.2.1<1000)∧(0≤s.2.2.1∧s.2.2.1<1000)∧(s.2.2.2.1=1∨s.2.2.2.1=2)
 t:LiK s.2.2.2.2.1∧LiK s.2.2.2.2.2.1∧LiK s.2.2.2.2.2.2.1∧LiK s.2.2.2.2.2.2.2.1
 sb:s.2.2.2.2.2.2.2.2.1.length≤1000∧ ∀a∈s.2.2.2.2.2.2.2.2.1,bDw a
 l:s.2.2.2.2.2.2.2.2.2.1.length≤1000∧ ∀a∈s.2.2.2.2.2.2.2.2.2.1,NmK a.1∧NmK a.2.1∧NmK a.2.2.1∧NmK a.2.2.2.1
def F_(s:TSc)(x:List qI)(l:List TLk):TSc:=(s.1,s.2.1,s.2.2.1,s.2.2.2.1,s.2.2.2.2.1,s.2.2.2.2.2.1,s.2.2.2.2.2.2.1,s.2.2.2.2.2.2.2.1,x,l,())
theorem bIP(xs:List qI)(y:qI)(f:qI→qI):last (xs++ [y]) f=xs++ [f y]:=by
 grind[last]
theorem aQn(xs:List qI)(y:qI):(xs++ [y]).getD ((xs++ [y]).length-1) zS=y:=by simp
theorem aUf(s:TSc)(a b:List PL):aEM s (a++b)=aEM (aEM s a) b:=List.foldl_append
theorem parts{α:Type}(c:α→PL)(hc:∀a s,add (c a) s=F_ s (last s.2.2.2.2.2.2.2.2.1 (aTS (c a))) s.2.2.2.2.2.2.2.2.2.1)(s:TSc)(xs:List qI):∀(L:List α) (y:qI) (k:Int),(∀pre a post k',L=pre++a::post→7≤k'→okP (c a) k' (F_ s (xs++ [pre.foldl (fun y a=>aTS (c a) y) y]) []))→7≤k →
  okR (L.map c) k (F_ s (xs++ [y]) [])∧aEM (F_ s (xs++ [y]) []) (L.map c)=F_ s (xs++ [L.foldl (fun y a=>aTS (c a) y) y]) []
 | [],y,k,_,_=>⟨trivial,rfl⟩
 | a::L,y,k,h,g=>by
  have e:add (c a) (F_ s (xs++ [y]) [])=F_ s (xs++ [aTS (c a) y]) []:=by
   grind[F_,last,aTS,bIP]
  have z:=parts c hc s xs L (aTS (c a) y) (k+1) (fun pre b post k' q f=>h (a::pre) b post k' (by grind) f) (by omega);refine⟨⟨h [] a L k rfl g,?_⟩,?_⟩
  all_goals grind[aEM,add]
theorem aWu:∀(L:List TSt) (y:qI),L.foldl (fun y a=>aTS (.state a) y) y=(y.1,y.2.1++L,y.2.2)
 | [],y=>by simp_all
 | a::L,y=>by
  rw[List.foldl_cons,aWu L];show (y.1,(y.2.1++ [a])++L,y.2.2)=_;simp_all
theorem bDx:∀(L:List TPa) (y:qI),L.foldl (fun y a=>aTS (.par a) y) y=(y.1,y.2.1,y.2.2.1++L,y.2.2.2)
 | [],y=>by simp_all
 | a::L,y=>by
  rw[List.foldl_cons,bDx L];show (y.1,y.2.1,(y.2.2.1++ [a])++L,y.2.2.2)=_;simp_all
theorem bDy:∀(L:List qc) (y:qI),L.foldl (fun y a=>aTS (.inn a) y) y=(y.1,y.2.1,y.2.2.1,y.2.2.2.1++L,y.2.2.2.2)
 | [],y=>by simp_all
 | a::L,y=>by
  rw[List.foldl_cons,bDy L];show (y.1,y.2.1,y.2.2.1,(y.2.2.2.1++ [a])++L,y.2.2.2.2)=_;simp_all
theorem bDz:∀(L:List TOu) (y:qI),L.foldl (fun y a=>aTS (.out a) y) y=(y.1,y.2.1,y.2.2.1,y.2.2.2.1,y.2.2.2.2.1++L,())
 | [],y=>by simp_all
 | a::L,y=>by
  rw[List.foldl_cons,bDz L];show (y.1,y.2.1,y.2.2.1,y.2.2.2.1,(y.2.2.2.2.1++ [a])++L,())=_;simp_all
theorem aUg{α:Type}{L pre post:List α}{a:α}{k:Nat}(h:L=pre++a::post)(f:L.length≤k):pre.length≤k:=by
 grind
theorem bK5(s:TSc)(xs:List qI)(x:qI)(q:bDw x)(N:xs.length<1000)(k:Int)(L:7≤k):okR (aJK x) k (F_ s xs [])∧aEM (F_ s xs []) (aJK x)=F_ s (xs++ [x]) []:=by
 have f:∀y:qI,(xs++ [y]).length≤1000∧0<(xs++ [y]).length:=fun y=>by grind
 obtain⟨n,X,P,U,O,u⟩:=x;have A:=parts .state (fun _ _=>rfl) s xs X (n,[],[],[],[],()) (k+1) (fun pre a post J I g=>by
  have z:=q.x.2 a (by simp_all);rw[aWu];refine⟨g,rfl,(f _).2,(f _).1,?_,z⟩;show ((xs++ [_]).getD ((xs++ [_]).length-1) zS).2.1.length≤_;rw[aQn];show ([]++pre).length≤_;exact aUg I q.x.1) (by omega)
 rw[aWu] at A;have B:=parts .par (fun _ _=>rfl) s xs P (n,[]++X,[],[],[],()) (k+1+((X.map PL.state).length:Int)) (fun pre a post J I g=>by
  have z:=q.p.2 a (by simp_all);rw[bDx];refine⟨g,rfl,(f _).2,(f _).1,?_,z⟩;show ((xs++ [_]).getD ((xs++ [_]).length-1) zS).2.2.1.length≤_;rw[aQn];show ([]++pre).length≤_;exact aUg I q.p.1) (by omega)
 rw[bDx] at B;have C:=parts .inn (fun _ _=>rfl) s xs U (n,[]++X,[]++P,[],[],()) (k+1+((X.map PL.state).length:Int)+((P.map PL.par).length:Int)) (fun pre a post J I g=>by
  have z:=q.u.2 a (by simp_all);rw[bDy];refine⟨g,rfl,(f _).2,(f _).1,?_,z⟩;show ((xs++ [_]).getD ((xs++ [_]).length-1) zS).2.2.2.1.length≤_;rw[aQn];show ([]++pre).length≤_;exact aUg I q.u.1) (by omega)
 rw[bDy] at C;have D:=parts .out (fun _ _=>rfl) s xs O (n,[]++X,[]++P,[]++U,[],()) (k+1+((X.map PL.state).length:Int)+((P.map PL.par).length:Int)+((U.map PL.inn).length:Int)) (fun pre a post J I g=>by
  have z:=q.o.2 a (by simp_all);rw[bDz];refine⟨g,rfl,(f _).2,(f _).1,?_,z⟩;show ((xs++ [_]).getD ((xs++ [_]).length-1) zS).2.2.2.2.1.length≤_;rw[aQn];show ([]++pre).length≤_;exact aUg I q.o.1) (by omega)
 rw[bDz] at D;have e:add (.sub n) (F_ s xs [])=F_ s (xs++ [(n,[],[],[],[],())]) []:=rfl;unfold aJK;refine⟨⟨⟨L,rfl,by show xs.length≤1000; omega,q.n⟩,?_⟩,?_⟩
 ·rw[e];grind[aQm]
 simp_all[aEM,add,F_,aUf]
theorem bCg(s:TSc):∀(L xs:List qI) (k:Int),(∀x∈L,bDw x)→xs.length+L.length≤1000→7≤k→okR (L.flatMap aJK) k (F_ s xs [])∧aEM (F_ s xs []) (L.flatMap aJK)=F_ s (xs++L) []
 | [],xs,k,_,_,_=>⟨trivial,by rw[List.append_nil]; rfl⟩
 | x::L,xs,k,h,q,g=>by
  have A:=bK5 s xs x (h x (.head _)) (by grind) k g;have f:=bCg s L (xs++ [x]) (k+((aJK x).length:Int)) (fun y hy=>h y (.tail _ hy)) (by grind) (by omega);rw[List.flatMap_cons];refine⟨aQm A.1 ?_,?_⟩
  ·rw[A.2];exact f.1
  ·rw[aUf,A.2,f.2,List.append_assoc];rfl
theorem aYl(s:TSc)(xs:List qI):∀(L f:List TLk) (k:Int),(∀a∈L,NmK a.1∧NmK a.2.1∧NmK a.2.2.1∧NmK a.2.2.2.1)→f.length+L.length≤1000→7≤k→okR (L.map .link) k (F_ s xs f)∧aEM (F_ s xs f) (L.map .link)=F_ s xs (f++L)
 | [],f,k,_,_,_=>⟨trivial,by rw[List.append_nil]; rfl⟩
 | a::L,f,k,h,z,q=>by
  have g:=aYl s xs L (f++ [a]) (k+1) (fun y hy=>h y (.tail _ hy)) (by grind) (by omega);refine⟨⟨⟨q,by show f.length≤1000; omega,h a (.head _)⟩,g.1⟩,?_⟩;show aEM (F_ s xs (f++ [a])) (L.map .link)=_;simp_all
theorem bIQ(s:TSc)(h:ScM s):okR (scP s) 0 sc0∧aEM sc0 (scP s)=s:=by
 obtain⟨⟨L,J,f,z⟩,⟨O,N,I,q⟩,hs,g⟩:=h;have U:okR (heP s) 0 sc0:=⟨⟨rfl,by omega⟩,⟨rfl,O⟩,⟨rfl,N,I⟩,⟨rfl,q⟩,⟨rfl,by omega⟩,⟨rfl,by omega⟩,⟨rfl,z⟩,trivial⟩;have e:aEM sc0 (heP s)=F_ s [] []:=by
  show ((s.1.toNat:Int),(s.2.1.toNat:Int),(s.2.2.1.toNat:Int),_)=_;rw[Int.toNat_of_nonneg L.1,Int.toNat_of_nonneg J.1,Int.toNat_of_nonneg f.1];rfl
 have A:=bCg s s.2.2.2.2.2.2.2.2.1 [] 7 hs.2 (by simp_all) xAa;have B:=aYl s ([]++s.2.2.2.2.2.2.2.2.1) s.2.2.2.2.2.2.2.2.2.1 [] (7+((s.2.2.2.2.2.2.2.2.1.flatMap aJK).length:Int)) g.2 (by simp_all) (by omega);unfold scP;refine⟨aQm U ?_,?_⟩
 ·rw[e];refine aQm A.1 ?_;rw[A.2];exact B.1
 ·rw[aUf,e,aUf,A.2,B.2];rfl
theorem join_cons(w:List Nat):∀ws:List qc,aGi (w::ws) [32]=w++tl ws
 | []=>by rfl
 | v::ws=>by
  have f:=join_cons v ws;simp_all[aGi,List.intercalate,zG]
theorem bIR:∀n:Nat,n<100→sR none (n:Int)=some (dg n):=by decide +kernel
theorem bNb:∀n:Nat,100≤n→n<1000→bY none n=some 3:=by
 unfold bY;rw[bHu];intro n q g;have:∀n:Nat,n<1000→(100≤n→(qA none (rO n)).bind (fun v_5=>ck (0≤v_5∧v_5<(20:Int)) ((pZ none (decide ((([1,10,100,1000,10000,100000,1000000,10000000,100000000,1000000000,10000000000,100000000000,1000000000000,10000000000000,100000000000000,1000000000000000,10000000000000000,100000000000000000,1000000000000000000,10000000000000000000]:List Nat).getD (v_5.toNat) (0:Nat))≤n))).bind (fun f=>ck (I64 (v_5+f)) (some (v_5+f)))))=some 3):=by decide +kernel
 simp_all
theorem bNc:∀n:Nat,n<1000→100≤n→dgs 3 n=dg n:=by decide +kernel
theorem aZ5(n:Nat)(h:n<1000):qC none (n:Int)=some (dg n):=by
 unfold qC yE qB;refine aZ (aZ (ify rfl ?_) rfl) rfl;rcases Nat.lt_or_ge n 100 with f|f
 ·rw[if_pos (by omega),bIR n f];rfl
 ·rw[if_neg (by omega),if_neg (by omega),show ((n:Int)%18446744073709551616).toNat=n from by omega];unfold mT mS;rw[bNb n f h];simp only[Option.getD_some];refine aE rfl (aE xAa (aE xAa (aZ (aE xAa (aE (show n<10^3 by omega) rfl)) (ifn (by omega) (aE xAa (aE xAa (aE xAa ?_)))))));rw[show (((1:Int)+3)-1).toNat=3 from rfl,bNc n h f];have g:(dgs 3 n).length=3:=aJz 3 n;rw[bNc n h f] at g;simp_all
theorem pr1{ws:List qc}{t:List Nat}(b:Bool)(x:List Nat)(h:aGi ws [32]=t)(f:ws.length≤100)(ht:t.length≤137438953472)(g:x.length≤70368744177664):cY none ws (b,x)=some (false,x++(t++ [10])):=by
 unfold cY gC mZ;rw[show aQ ⟨#[32]⟩= [32] from rfl,show aQ ⟨#[10]⟩= [10] from rfl,h];exact aE ⟨by omega,by grind⟩ (aE (by grind) (aZ (aZ rfl (aE (by grind) rfl)) rfl))
def jnP(ps:List PL):List Nat:=jn (ps.map ln)
theorem bIS(a b:List qc):jn (a++b)=jn a++jn b:=List.flatMap_append
theorem aZ6(a b:List PL):jnP (a++b)=jnP a++jnP b:=by rw[jnP,List.map_append,bIS]; rfl
theorem aZ7(p:PL):jnP [p]=ln p++ [10]:=by simp[jnP,jn]
theorem bIT(p:PL)(ps:List PL):jnP (p::ps)=(ln p++ [10])++jnP ps:=by rfl
def LnB(ps:List PL):Prop:=∀p∈ps,(ln p).length≤137438953000
theorem aQo:∀ {ps:List PL},LnB ps→(jnP ps).length≤ps.length*137438953472
 | [],_=>Nat.le_refl 0
 | p::ps,h=>by
  have f:=aQo fun q hq=>h q (.tail _ hq);have:=h p (.head _);grind[bIT,List.length_append,List.length_cons,List.length_nil]
theorem aWv{α:Type}(L:List α)(z:α)(c:α→PL){step:Int×Bool×List Nat→Option ((Int×Bool×List Nat)⊕(Bool×List Nat))}(pre:List PL)(J:Bool)(hp:LnB (pre++L.map c))(g:(pre++L.map c).length≤500)
  (hs:∀(i:Nat) (b:Bool) (x:List Nat),i<L.length→x.length≤70368744177664→ ∃b',step ((i:Int),b,x)=some (.inl ((i:Int)+1,b',x++(ln (c (L.getD i z))++ [10]))))
  (q:∀(b:Bool) (x:List Nat),step ((L.length:Int),b,x)=some (.inr (b,x))):Tot (dK none step ((0:Int),J,jnP pre)) (fun e=>e.2=jnP (pre++L.map c)):=by
 rw[List.length_append,List.length_map] at g;refine Tot.idx (X:=Bool×List Nat) L.length (fun x i=>x.2=jnP (pre++(L.take i).map c)) (by omega) (fun i x i0 hi I f=>?_) (fun x f=>?_) xAf
 ·obtain⟨i,rfl⟩:∃j:Nat,i=j:=⟨i.toNat,by omega⟩;have hi:i<L.length:=by omega
  rw[Int.toNat_natCast] at f ⊢;obtain⟨b,x⟩:=x;have f:x=jnP (pre++(L.take i).map c):=f;have hb:LnB (pre++(L.take i).map c):=fun p O=>hp p (by
   grind)
  have N:=aQo hb;rw[← f,List.length_append,List.length_map,List.length_take] at N;obtain⟨b',h⟩:=hs i b x hi (by omega);refine .of h ⟨rfl,?_⟩;show x++(ln (c (L.getD i z))++ [10])=jnP (pre++(L.take (i+1)).map c);rw[qS z hi,List.map_append,show pre++((L.take i).map c++ [L.getD i z].map c)=(pre++(L.take i).map c)++ [L.getD i z].map c from (List.append_assoc _ _ _).symm,aZ6,← f,List.map_cons,List.map_nil,aZ7]
 ·obtain⟨b,x⟩:=x;refine .of (q b x) ?_;simp_all
theorem aDI(w:List Nat)(ws:List qc):(jw (w::ws)).length=w.length+(tl ws).length:=List.length_append
theorem yW(w:List Nat)(ws:List qc):(tl (w::ws)).length=1+w.length+(tl ws).length:=by
 grind[zG]
theorem bIU(a b:List qc):tl (a++b)=tl a++tl b:=List.flatMap_append
theorem ExK.pr{e:Ex}(h:ExK e):fZ none 64 e=some (tx 30 e)∧(tx 30 e).length≤137438950000:=by
 obtain⟨a,b⟩:=bB7 h.1 xAa h.2.2;grind
theorem bIV{r:TRg}(h:RgK r):(tl (rgW r)).length≤202:=by
 obtain⟨lo,hi,u⟩:=r;obtain⟨_,_,g,f⟩:=h;unfold rgW;split
 ·rw[yW];show 1+lo.length+0≤202;grind
 ·rename_i q;have:lo.length≤100:=g;have:hi.length≤100:=(f.resolve_left q).2.2;rw[yW,yW];show 1+lo.length+(1+hi.length+0)≤202;omega
theorem bMB{p:PL}{k:Int}{s:TSc}(h:okP p k s):(ln p).length≤137438953000:=by
 have z:(tl []).length=0:=rfl;have num:∀m,m<1000→(dg m).length≤4:=fun m hm=>(aRY m hm).2.2.1;unfold ln;cases p with
 | prec m=>have:=num m h.2; grind[wds,aDI,yW]
 | fin t=>have:=h.2.2.2.2; grind[wds,aDI,yW]
 | step a b=>have:=h.2.1.2.2.2; have:=h.2.2.2.2.2; grind[wds,aDI,yW]
 | tol t=>have:=h.2.2.2.2; grind[wds,aDI,yW]
 | tries m=>have:=num m h.2; grind[wds,aDI,yW]
 | order m=>have:=num m h.2; grind[wds,aDI,yW]
 | mode m=>rw[wds,aDI,z]; split<;>simp
 | sub t=>have:=h.2.2.2.len; grind[wds,aDI,yW]
 | link a =>
  obtain⟨_,_,N,L,I,J⟩:=h;have:=N.len; have:=L.len; have:=I.len; have:=J.len;grind[wds,aDI,yW]
 | state a =>
  obtain⟨_,_,_,_,_,f,q,g⟩:=h;have:=f.len; have:=bIV q; have:=g.pr.2;rw[wds,aDI,yW,yW,bIU,List.length_append,yW,yW,z]; grind
 | par a =>
  obtain⟨_,_,_,_,_,f,q⟩:=h;have:=f.len; grind[bIV,wds,aDI,yW]
 | inn a =>
  obtain⟨_,_,_,_,_,f⟩:=h;have:=f.len;grind[wds,aDI,yW]
 | out a =>
  obtain⟨_,_,_,_,_,f,g⟩:=h;have:=f.len; have:=g.pr.2;grind[wds,aDI,yW]
structure ScB(s:TSc):Prop where
 r:s.2.2.2.2.2.2.2.2.1.length≤8∧ ∀a∈s.2.2.2.2.2.2.2.2.1,a.2.1.length≤10∧a.2.2.1.length≤10∧a.2.2.2.1.length≤10∧a.2.2.2.2.1.length≤10
 l:s.2.2.2.2.2.2.2.2.2.1.length≤100
theorem LnB.app{a b:List PL}(f:LnB a)(hb:LnB b):LnB (a++b):=fun p hp=>(List.mem_append.1 hp).elim (f p) (hb p)
theorem bIW{s:TSc}(h:ScM s):LnB (scP s):=fun p hp=>by
 obtain⟨i,hi,rfl⟩:=List.mem_iff_getElem.1 hp;exact bMB (aZ4 (bIQ s h).1 i hi)
theorem spn(r:TRg)(h:RgK r):∃t,xJ none r=some t∧tl [t]=tl (rgW r):=by
 obtain⟨lo,hi,u⟩:=r;obtain⟨_,_,g,q⟩:=h;have g:lo.length≤100:=g;unfold xJ rgW;by_cases f:hi= []
 ·exact⟨lo,ify f rfl,by simp_all⟩
 ·have:hi.length≤100:=(q.resolve_left f).2.2;refine⟨lo++ [32]++hi,ifn f (aE (by show lo.length+1≤_; omega) (aE ?_ rfl)),?_⟩
  ·show (lo++ [32]).length+hi.length≤_;grind
  simp_all[if_neg,tl]
theorem bLy{w:List Nat}{a b:List qc}(h:tl a=tl b):w++tl a=jw (w::b):=by
 rw[h];rfl
theorem bIX(x:qI)(h:x.2.1.length≤10∧x.2.2.1.length≤10∧x.2.2.2.1.length≤10∧x.2.2.2.2.1.length≤10):(aJK x).length≤41:=by
 grind[aJK]
theorem aQp:∀L:List qI,(∀a∈L,a.2.1.length≤10∧a.2.2.1.length≤10∧a.2.2.2.1.length≤10∧a.2.2.2.2.1.length≤10)→(L.flatMap aJK).length≤L.length*41
 | [],_=>Nat.le_refl 0
 | x::L,h=>by
  have:=aQp L fun a f=>h a (.tail _ f);have:=bIX x (h x (.head _));rw[List.flatMap_cons,List.length_append,List.length_cons];omega
section
variable {s:TSc} {i j:Nat} {b:Bool} {y:List Nat} {x:qI} (hX:s.2.2.2.2.2.2.2.2.1.getD i ([],[],[],[],[],())=x) (hy:y.length≤70368744177664)
include hX hy
theorem bIY{a:TSt}(J:j<x.2.1.length)(L:j<1000)(I:x.2.1.getD j ([],([],[],()),(Ex.mk 0 [] []),())=a)(f:RgK a.2.1)(q:ExK a.2.2.1)(g:(ln (.state a)).length≤137438953000):nY none s (i:Int) (j:Int) b y=some (.inl ((j:Int)+1,false,y++(ln (.state a)++ [10]))):=by
 obtain⟨t,ht,z⟩:=spn _ f;unfold nY;simp only[Int.toNat_natCast,hX,I,ht,q.pr.1,Option.bind_some];refine ify (by omega) (aE ⟨by omega,by omega⟩ (aZ (pr1 b y ?_ xAf (Nat.le_trans g xAa) hy) (aE (by omega) rfl)));rw[join_cons];refine bLy ?_;have e:tl ([t]++ [[100,101,114],tx 30 a.2.2.1])=tl (rgW a.2.1++ [[100,101,114],tx 30 a.2.2.1]):=by grind[bIU]
 rw[zG,zG,zG a.1,zG [61],← e];rfl
theorem bMC{a:TPa}(I:j<x.2.2.1.length)(J:j<1000)(z:x.2.2.1.getD j ([],([],[],()),())=a)(g:RgK a.2.1)(q:(ln (.par a)).length≤137438953000):nX none s (i:Int) (j:Int) b y=some (.inl ((j:Int)+1,false,y++(ln (.par a)++ [10]))):=by
 obtain⟨t,ht,f⟩:=spn _ g;unfold nX;simp only[Int.toNat_natCast,hX,z,ht,Option.bind_some];refine ify (by omega) (aE ⟨by omega,by omega⟩ (aZ (pr1 b y ?_ xAf (Nat.le_trans q xAa) hy) (aE (by omega) rfl)));rw[join_cons];refine bLy ?_;rw[zG,zG,zG a.1,zG [61],← f];rfl
theorem bMD{a:List Nat}(z:j<x.2.2.2.1.length)(q:j<1000)(f:x.2.2.2.1.getD j []=a)(g:(ln (.inn a)).length≤137438953000):nW none s (i:Int) (j:Int) b y=some (.inl ((j:Int)+1,false,y++(ln (.inn a)++ [10]))):=by
 unfold nW;simp only[Int.toNat_natCast,hX,f];exact ify (by omega) (aE ⟨by omega,by omega⟩ (aZ (pr1 b y (join_cons _ _) xAf (Nat.le_trans g xAa) hy) (aE (by omega) rfl)))
theorem bME{a:TOu}(z:j<x.2.2.2.2.1.length)(I:j<1000)(q:x.2.2.2.2.1.getD j ([],(Ex.mk 0 [] []),())=a)(g:ExK a.2.1)(f:(ln (.out a)).length≤137438953000):nV none s (i:Int) (j:Int) b y=some (.inl ((j:Int)+1,false,y++(ln (.out a)++ [10]))):=by
 unfold nV;simp only[Int.toNat_natCast,hX,q,g.pr.1,Option.bind_some];exact ify (by omega) (aE ⟨by omega,by omega⟩ (aZ (pr1 b y (join_cons _ _) xAf (Nat.le_trans f xAa) hy) (aE (by omega) rfl)))
end
theorem aQq{α:Type}{L:List α}{c:α→PL}(h:LnB (L.map c)){j:Nat}(z:α)(f:j<L.length):(ln (c (L.getD j z))).length≤137438953000:=h _ (List.mem_map_of_mem (aBB z f))
theorem bK6{s:TSc}{a:TLk}{j:Nat}{b:Bool}{y:List Nat}(L:s.2.2.2.2.2.2.2.2.2.1.getD j ([],[],[],[],())=a)(q:NmK a.1∧NmK a.2.1∧NmK a.2.2.1∧NmK a.2.2.2.1)(N:j<s.2.2.2.2.2.2.2.2.2.1.length)(Z:j<1000)(hy:y.length≤70368744177664)(f:(ln (.link a)).length≤137438953000):nU none s (j:Int) b y=some (.inl ((j:Int)+1,false,y++(ln (.link a)++ [10]))):=by
 obtain⟨I,g,z,J⟩:=q;have m1:=I.len;have O:=g.len;have U:=z.len;have Y:=J.len;have e1:∀u:List Nat,(u++aQ ⟨#[46]⟩).length=u.length+1:=fun u=>by rw[List.length_append]; rfl
 unfold nU;simp only[Int.toNat_natCast,L];refine ify (by omega) (aE ⟨by omega,by omega⟩ (aE (by grind) (aE (by grind) (aE (by grind) (aE (by grind) (aZ (pr1 b y ?_ xAf (Nat.le_trans f xAa) hy) (aE (by omega) rfl)))))));rw[join_cons];show _=jw _;rw[wds,show a.1++46::a.2.1=a.1++aQ ⟨#[46]⟩++a.2.1 from by rw[List.append_assoc]; rfl,show a.2.2.1++46::a.2.2.2.1=a.2.2.1++aQ ⟨#[46]⟩++a.2.2.2.1 from by rw[List.append_assoc]; rfl];rfl
theorem bMF(s:TSc)(hM:ScM s)(hB:ScB s)(i:Nat)(hi:i<s.2.2.2.2.2.2.2.2.1.length)(pre:List PL)(b:Bool)(hp:LnB pre)(hn:pre.length≤335) :
  Tot (qR none s (i:Int) b (jnP pre)) (fun q=>match q with| .inl d=>d.1=(i:Int)+1∧d.2.2=jnP (pre++aJK (s.2.2.2.2.2.2.2.2.1.getD i zS))| .inr _=>False):=by
 have N:=hM.sb.2 _ (aBB zS hi);have hb:=hB.r.2 _ (aBB zS hi);have hs8:=hB.r.1;have I:LnB (aJK (s.2.2.2.2.2.2.2.2.1.getD i zS)):=fun p hq=>bIW hM p (List.mem_append_right _ (List.mem_append_left _ (List.mem_flatMap.2 ⟨_,aBB zS hi,hq⟩)));have jl:∀Z:List PL,LnB Z→Z.length≤376→(jnP Z).length≤70368744177664:=fun Z h1 h2=>by
  grind[aQo]
 generalize hX:s.2.2.2.2.2.2.2.2.1.getD i zS=x at N hb I;obtain⟨b1,b2,b3,b4⟩:=hb;have J:LnB [PL.sub x.1]:=fun p hq=>I p (by rw[List.mem_singleton.1 hq]; exact .head _);have L:LnB (x.2.1.map PL.state):=fun p hq=>I p (.tail _ (List.mem_append_left _ hq));have l2:LnB (x.2.2.1.map PL.par):=fun p hq=>I p (.tail _ (List.mem_append_right _ (List.mem_append_left _ hq)));have l3:LnB (x.2.2.2.1.map PL.inn):=fun p hq=>I p (.tail _ (List.mem_append_right _ (List.mem_append_right _ (List.mem_append_left _ hq))));have l4:LnB (x.2.2.2.2.1.map PL.out):=fun p hq=>I p (.tail _ (List.mem_append_right _ (List.mem_append_right _ (List.mem_append_right _ hq))));unfold qR;refine .ite (fun _=>.ck (by omega) ?_) fun hn=>absurd (by omega) hn;rw[Int.toNat_natCast];show Tot (Option.bind (cY none [[115,117,98],(s.2.2.2.2.2.2.2.2.1.getD i zS).1] (b,jnP pre)) _) _;rw[hX,pr1 (t:=ln (.sub x.1)) b (jnP pre) (join_cons _ _) xAf (Nat.le_trans (J _ (.head _)) xAa) (jl _ hp (by omega)),← aZ7,← aZ6,Option.bind_some];refine Tot.bind (aWv x.2.1 (([]:List Nat),(([]:List Nat),([]:List Nat),()),(Ex.mk 0 [] []),()) .state (pre++ [PL.sub x.1]) false ((hp.app J).app L) (by grind) (fun j z y f hy=>⟨_,bIY hX hy f (by omega) rfl (N.x.2 _ (aBB _ f)).2.1 (N.x.2 _ (aBB _ f)).2.2 (aQq L _ f)⟩) (fun z y=>?_)) fun e g=>?_
 ·show nY none s (i:Int) (x.2.1.length:Int) z y=_;unfold nY;simp_all
 obtain⟨U,y⟩:=e;have g:y=_:=g;subst g;show Tot (sV none s (i:Int) U _) _;unfold sV;refine Tot.bind (aWv x.2.2.1 (([]:List Nat),(([]:List Nat),([]:List Nat),()),()) .par _ U (((hp.app J).app L).app l2) (by grind) (fun j z y f hy=>⟨_,bMC hX hy f (by omega) rfl (N.p.2 _ (aBB _ f)).2 (aQq l2 _ f)⟩) (fun z y=>?_)) fun e g=>?_
 ·show nX none s (i:Int) (x.2.2.1.length:Int) z y=_;unfold nX;simp_all
 obtain⟨O,y⟩:=e;have g:y=_:=g;subst g;show Tot (sU none s (i:Int) O _) _;unfold sU;refine Tot.bind (aWv x.2.2.2.1 ([]:List Nat) .inn _ O ((((hp.app J).app L).app l2).app l3) (by grind) (fun j z y f hy=>⟨_,bMD hX hy f (by omega) rfl (aQq l3 _ f)⟩) (fun z y=>?_)) fun e g=>?_
 ·show nW none s (i:Int) (x.2.2.2.1.length:Int) z y=_;unfold nW;simp_all
 obtain⟨Y,y⟩:=e;have g:y=_:=g;subst g;show Tot (sT none s (i:Int) Y _) _;unfold sT;refine Tot.bind (aWv x.2.2.2.2.1 (([]:List Nat),(Ex.mk 0 [] []),()) .out _ Y (((((hp.app J).app L).app l2).app l3).app l4) (by grind) (fun j z y f hy=>⟨_,bME hX hy f (by omega) rfl (N.o.2 _ (aBB _ f)).2 (aQq l4 _ f)⟩) (fun z y=>?_)) fun e g=>?_
 ·show nV none s (i:Int) (x.2.2.2.2.1.length:Int) z y=_;unfold nV;simp_all
 obtain⟨b4',y⟩:=e;have g:y=_:=g;subst g;refine .ck (by omega) (.ret ⟨rfl,?_⟩);show jnP _=jnP _;simp only[aJK,List.append_assoc,List.singleton_append,List.cons_append,List.nil_append]
theorem prT{β:Type}{f:Bool×List Nat→Option β}{P:β→Prop}{ws:List qc}{p:PL}{ps:List PL}{b:Bool}(h:aGi ws [32]=ln p)(g:ws.length≤100)(hp:LnB (ps++ [p]))(I:ps.length≤476)(z:Tot (f (false,jnP (ps++ [p]))) P):Tot ((cY none ws (b,jnP ps)).bind f) P:=by
 have a:=aQo fun q hq=>hp q (List.mem_append_left _ hq);have c:=hp p (List.mem_append_right _ (.head _));rw[pr1 b (jnP ps) h g (Nat.le_trans c xAa) (by omega),← aZ7,← aZ6];exact z
theorem bIZ(s:TSc)(L:ScM s)(I:ScB s)(hm:lL none s=some true):nH none s=some (jnP (scP s),0,()):=by
 obtain⟨⟨h1,h2,h3,h4⟩,_,_,_⟩:=id L;have Z:=bIW L;have lh:LnB (heP s):=fun p hp=>Z p (List.mem_append_left _ hp);have ls:LnB (s.2.2.2.2.2.2.2.2.1.flatMap aJK):=fun p hp=>Z p (List.mem_append_right _ (List.mem_append_left _ hp));have ll:LnB (s.2.2.2.2.2.2.2.2.2.1.map PL.link):=fun p hp=>Z p (List.mem_append_right _ (List.mem_append_right _ hp));have hs8:=I.r.1;have fl:=aQp _ I.r.2;have i1:=aZ5 s.1.toNat (by omega);have i2:=aZ5 s.2.1.toNat (by omega);have i3:=aZ5 s.2.2.1.toNat (by omega);rw[Int.toNat_of_nonneg (by omega)] at i1 i2 i3;have jl:∀N:List PL,LnB N→N.length≤476→(jnP N).length≤70368744177664:=fun N h1 h2=>by
  grind[aQo]
 have B:∀p∈heP s,(ln p).length≤137438953472:=fun p hp=>Nat.le_trans (lh p hp) xAa;have J:∀O:List Nat,jw (wds (.mode s.2.2.2.1))=O→Tot (pF none s O) (fun r=>r=(jnP (scP s),0,())):=fun O hmd=>by
  unfold pF;simp only[i1,i2,i3,Option.bind_some];have z:∀k,LnB ((heP s).take k):=fun k p hp=>lh p (List.mem_of_mem_take hp);refine(prT (ps:=[]) (p:=.prec s.1.toNat) (join_cons _ _) xAf (z 1) xAf (prT (p:=.fin s.2.2.2.2.1) (join_cons _ _) xAf (z 2) xAf (prT (p:=.step s.2.2.2.2.2.1 s.2.2.2.2.2.2.1) (join_cons _ _) xAf (z 3) xAf (prT (p:=.tol s.2.2.2.2.2.2.2.1) (join_cons _ _) xAf (z 4) xAf (prT (p:=.tries s.2.1.toNat) (join_cons _ _) xAf (z 5) xAf (prT (p:=.order s.2.2.1.toNat) (join_cons _ _) xAf (z 6) xAf (prT (p:=.mode s.2.2.2.1) (by rw[join_cons]; show O++ []=_; rw[List.append_nil]; exact hmd.symm) xAf (z 7) xAf ?_)))))));refine Tot.bind (P:=fun e=>e.2=jnP (heP s++s.2.2.2.2.2.2.2.2.1.flatMap aJK)) (Tot.idx (X:=Bool×List Nat) s.2.2.2.2.2.2.2.2.1.length (fun x i=>x.2=jnP (heP s++(s.2.2.2.2.2.2.2.2.1.take i).flatMap aJK)) (by omega) (fun i x i0 hi h64 f=>?_) (fun x f=>?_) ?_) fun e g=>?_
  ·obtain⟨i,rfl⟩:∃j:Nat,i=j:=⟨i.toNat,by omega⟩;have hi:i<s.2.2.2.2.2.2.2.2.1.length:=(by omega);rw[Int.toNat_natCast] at f ⊢;obtain⟨b,x⟩:=x;have f:x=_:=f;subst f;have hl:((s.2.2.2.2.2.2.2.2.1.take i).flatMap aJK).length≤328:=by
    have:=aQp (s.2.2.2.2.2.2.2.2.1.take i) fun a ha=>I.r.2 a (List.mem_of_mem_take ha);grind
   have hp:LnB (heP s++(s.2.2.2.2.2.2.2.2.1.take i).flatMap aJK):=lh.app fun p hp=>by
    obtain⟨a,ha,Y⟩:=List.mem_flatMap.1 hp;exact ls p (List.mem_flatMap.2 ⟨a,List.mem_of_mem_take ha,Y⟩)
   refine(bMF s L I i hi _ b hp (by rw[List.length_append]; show 7+_≤335; omega)).mono fun q hq=>?_;cases q with
   | inr _=>simp_all
   | inl d =>
    refine⟨hq.1,hq.2.trans ?_⟩;rw[qS zS hi,List.flatMap_append,List.flatMap_singleton,List.append_assoc]
  ·obtain⟨b,x⟩:=x;have f:x=_:=f;rw[List.take_length] at f;simp_all[Tot,qR,ite,absurd]
  ·rfl
  ·obtain⟨b,x⟩:=e;have g:x=_:=g;subst g;show Tot (sS none s b _) _;unfold sS;refine Tot.bind (aWv s.2.2.2.2.2.2.2.2.2.1 (([]:List Nat),([]:List Nat),([]:List Nat),([]:List Nat),()) .link _ b ((lh.app ls).app ll) ?_ (fun j b' y U hy=>?_) (fun b' y=>?_)) fun e g=>?_
   ·have:=I.l;rw[List.length_append,List.length_append,List.length_map];show 7+_+_≤500;omega
   ·have:=I.l;exact⟨false,bK6 rfl (L.l.2 _ (aBB (([]:List Nat),([]:List Nat),([]:List Nat),([]:List Nat),()) U)) U (by omega) hy (aQq ll (([]:List Nat),([]:List Nat),([]:List Nat),([]:List Nat),()) U)⟩
   ·show nU none s _ b' y=_;unfold nU;simp_all
   ·obtain⟨b4,y⟩:=e;have g:y=_:=g;subst g;refine .ret ?_;rfl
 refine Tot.eq ?_;unfold nH;rw[hm,Option.bind_some];refine(.ite (fun h=>absurd rfl h) fun _=>.ite (fun h=>J _ ?_) fun h=>J _ ?_)
 ·have h:s.2.2.2.1=2:=h;rw[h];rfl
 ·have h:¬s.2.2.2.1=2:=h;show (if s.2.2.2.1=2 then _ else _)++tl []=_;rw[if_neg h];rfl
end Nu
end Go.Proofs
namespace Go.Proofs
open Go.Vc
set_option maxRecDepth 20000
namespace Nu
theorem ExK.of{e:Ex}{names:List qc}(Z:OkE e)(N:names.length≤1000)(U:∀x∈names,aWg x)(hm:cX none e names=some true):ExK e:=by
 obtain⟨n,J,g,L⟩:=Z;have q:=bH6 g J L;have e1:cX none e names=some (decide (nd n e≤60∧ht n e≤30)&&(gk n e&&lvs names n e)):=by
  unfold cX;rw[aZV names N n 64 e J g];exact aZ q (aE (fun _=>rfl) rfl)
 rw[e1] at hm;have hm:=Option.some.inj hm;rw[Bool.and_eq_true,Bool.and_eq_true] at hm;obtain⟨m1,O,Y⟩:=hm;have m1:=of_decide_eq_true m1;have z:=bNO (bM7 U g O Y) m1.2;have I:=(aUc n 30 e g m1.2).1;have f:(tx 30 e).length≤1099511627776:=by
  have:=(bB7 z xAa I).1;omega
 exact⟨z,bKx f (back_eq z xAa) (aDH fun h=>absurd h (Nat.lt_irrefl _)) (by simp_all),I⟩
theorem LiK.of{t:List Nat}(h:fm t=true):LiK t:=⟨bM9 h,by rw[aQf t (Nat.le_trans (aZ0 h) xAa),h],fun c hc=>(aZ3 h c hc).2,Nat.le_trans (aZ0 h) xAa⟩
theorem RgK.of{r:TRg}(h:RgF r):RgK r:=by
 obtain⟨f,g⟩:=h;have a:=aWt f;exact⟨a.1,f,a.2.1,g.imp id fun h=>⟨(aWt h).1,h,(aWt h).2.1⟩⟩
theorem NmK.of{t:List Nat}(h:cW none t=some true):NmK t:=⟨h,bKz h⟩
theorem bK7{s:qI}(h:bFQ s):(nmS s).length≤16:=by
 obtain⟨b1,g,f,q⟩:=h.b;grind[nmS]
theorem bDw.of{s:qI}(z:cW none s.1=some true)(ok:bEQ s)(h:bFQ s):bDw s:=by
 obtain⟨b1,J,I,L⟩:=h.b;have q:∀x∈nmS s,NmK x:=fun x g=>.of (h.n.1 x (List.mem_append_left _ g));have N:=bK7 h;exact⟨.of z,
  ⟨by omega,fun a f=>⟨q _ (List.mem_append_left _ (List.mem_map_of_mem f)),.of (h.x a f).1,.of (ok.x.2 a f).2.2.2 (by omega) (fun x g=>(q x g).2) (h.x a f).2⟩⟩,
  ⟨by omega,fun a f=>⟨q _ (List.mem_append_right _ (List.mem_append_left _ (List.mem_map_of_mem f))),.of (h.p a f)⟩⟩,
  ⟨by omega,fun a f=>q _ (List.mem_append_right _ (List.mem_append_right _ f))⟩,
  ⟨by omega,fun a f=>⟨.of (h.n.1 _ (List.mem_append_right _ (List.mem_map_of_mem f))),.of (ok.o.2 a f).2 (by omega) (fun x g=>(q x g).2) (h.o a f)⟩⟩⟩
theorem bCh:∀L:List qI,(∀x∈L,x.2.2.2.1.length≤4)→(L.flatMap kS).length≤L.length*4
 | [],_=>Nat.le_refl 0
 | x::L,h=>by
  have:=bCh L fun y hy=>h y (.tail _ hy);have:=h x (.head _);rw[List.flatMap_cons,List.length_append,List.length_cons,kS,List.length_map];omega
theorem aRZ{s:TSc}(h:ScF s):s.2.2.2.2.2.2.2.2.2.1.length≤16:=by
 have:=bCh _ fun x f=>(h.r.2 x f).b.2.2.1;rw[← h.l.1,List.length_map] at this;have:=h.r.1;omega
theorem ScM.of{s:TSc}(ok:bB5 s)(h:ScF s):ScM s:=by
 obtain⟨n1,n2,n3,n4,L,Z,U,Y⟩:=h.n;have sb:∀x∈s.2.2.2.2.2.2.2.2.1,bDw x:=fun x f=>.of (h.w.1 x f) (ok.sb.2 x f) (h.r.2 x f);refine⟨⟨by omega,by omega,by omega,n4⟩,⟨.of L,.of Z,.of U,.of Y⟩,⟨by have:=h.r.1; omega,sb⟩,⟨by have:=aRZ h; omega,fun a ha=>?_⟩⟩;have hk:kL a∈s.2.2.2.2.2.2.2.2.1.flatMap kS:=by
  rw[← h.l.1];grind
 obtain⟨x,f,q⟩:=List.mem_flatMap.1 hk;obtain⟨u,J,g⟩:=List.mem_map.1 q;obtain⟨y,hy,e1,o,z,N⟩:=h.l.2 a ha;have O:x.1=a.1:=congrArg Prod.fst g;have I:u=a.2.1:=congrArg Prod.snd g;exact⟨O▸(sb x f).n,I▸(sb x f).u.2 u J,e1.symm▸(sb y hy).n,N▸((sb y hy).o.2 o z).1⟩
theorem ScB.of{s:TSc}(h:ScF s):ScB s:=⟨⟨by have:=h.r.1; omega,fun a f=>by have:=(h.r.2 a f).b; omega⟩,by have:=aRZ h; omega⟩
theorem aYm:∀(L:List TLk),(L.map kL).Nodup→ ∀M:List TLk,(∀a∈L,M.filter (fun b=>kL b == kL a)= [a])→(L.map kL).flatMap (fun k=>M.filter (fun b=>kL b == k))=L
 | [],_,_,_=>rfl
 | a::L,f,M,h=>by
  rw[List.map_cons,List.flatMap_cons,h a (.head _),aYm L (List.nodup_cons.1 (by rw[List.map_cons] at f; exact f)).2 M fun b hb=>h b (.tail _ hb)];rfl
theorem aWw:∀(L:List TLk),(L.map kL).Nodup→ ∀a∈L,L.filter (fun b=>kL b == kL a)= [a]
 | [],_,a,f=>by cases f
 | b::L,g,a,f=>by
  rw[List.map_cons,List.nodup_cons] at g;rcases List.mem_cons.1 f with rfl|f
  ·simp_all
  ·rw[List.filter_cons_of_neg]
   ·exact aWw L g.2 a f
   grind
theorem aWx:∀L:List qI,(L.map (·.1)).Nodup→(∀x∈L,x.2.2.2.1.Nodup)→(L.flatMap kS).Nodup
 | [],_,_=>List.nodup_nil
 | x::L,q,h=>by
  rw[List.map_cons,List.nodup_cons] at q;rw[List.flatMap_cons,List.nodup_append];refine⟨?_,aWx L q.2 fun y hy=>h y (.tail _ hy),fun a z b hb e=>?_⟩
  ·exact List.pairwise_map.2 ((h x (.head _)).imp fun f e=>f (congrArg Prod.snd e))
  ·subst e;obtain⟨u,_,I⟩:=List.mem_map.1 z;obtain⟨y,hy,g⟩:=List.mem_flatMap.1 hb;obtain⟨v,_,hv⟩:=List.mem_map.1 g;grind
theorem bDA(s:TSc)(h:ScF s):eG none s=some s.2.2.2.2.2.2.2.2.2.1:=by
 have b1:=h.r.1;have b2:=aRZ h;have nd:(s.2.2.2.2.2.2.2.2.2.1.map kL).Nodup:=by
  rw[h.l.1];refine aWx _ h.w.2 fun x I=>?_;have:=(h.r.2 x I).n.2;grind[nmS,List.nodup_append]
 have fin:s.2.2.2.2.2.2.2.2.1.flatMap (fun x=>x.2.2.2.1.flatMap fun u=>s.2.2.2.2.2.2.2.2.2.1.filter fun b=>kL b == (x.1,u))=s.2.2.2.2.2.2.2.2.2.1:=by
  have e:=aYm _ nd _ (aWw _ nd);rw[h.l.1,List.flatMap_assoc] at e;refine Eq.trans (congrArg (fun f=>List.flatMap f _) (funext fun x=>?_)) e;grind[kS,List.flatMap_map]
 unfold eG;refine Tot.eq (Tot.bind (P:=fun v=>v=s.2.2.2.2.2.2.2.2.2.1) (Tot.idx s.2.2.2.2.2.2.2.2.1.length (fun x i=>x=(s.2.2.2.2.2.2.2.2.1.take i).flatMap (fun x=>x.2.2.2.1.flatMap fun u=>s.2.2.2.2.2.2.2.2.2.1.filter fun b=>kL b == (x.1,u))∧x.length≤i*1000000) (by omega) (fun i x i0 hi Z I=>?_) (fun x I=>?_) ⟨rfl,Nat.zero_le _⟩) fun v hv=>?_)
 ·show Tot (fX none s i x) _;unfold fX;refine .ite (fun _=>.ck ⟨i0,hi⟩ ?_) fun h=>absurd hi h;have L:i.toNat<s.2.2.2.2.2.2.2.2.1.length:=by omega
  have b3:=(h.r.2 _ (qT (([]:List Nat),([]:List TSt),([]:List TPa),([]:List qc),([]:List TOu),()) L)).b.2.2.1;refine Tot.bind (P:=fun y=>y=x++(s.2.2.2.2.2.2.2.2.1.getD i.toNat ([],[],[],[],[],())).2.2.2.1.flatMap (fun u=>s.2.2.2.2.2.2.2.2.2.1.filter fun b=>kL b == ((s.2.2.2.2.2.2.2.2.1.getD i.toNat ([],[],[],[],[],())).1,u))∧y.length≤x.length+1000000) (Tot.idx (s.2.2.2.2.2.2.2.2.1.getD i.toNat ([],[],[],[],[],())).2.2.2.1.length (fun y j=>y=x++((s.2.2.2.2.2.2.2.2.1.getD i.toNat ([],[],[],[],[],())).2.2.2.1.take j).flatMap (fun u=>s.2.2.2.2.2.2.2.2.2.1.filter fun b=>kL b == ((s.2.2.2.2.2.2.2.2.1.getD i.toNat ([],[],[],[],[],())).1,u))∧y.length≤x.length+j*1000) (by omega) (fun j y j0 hj Y hy=>?_) (fun y hy=>?_) ⟨(List.append_nil _).symm,Nat.le_add_right _ _⟩) fun y hy=>.ck Z (.ret ⟨rfl,?_,?_⟩)
  ·show Tot (fW none s i j y) _;unfold fW;refine .ite (fun _=>.ck ⟨j0,hj⟩ ?_) fun h=>absurd hj h;have U:j.toNat<(s.2.2.2.2.2.2.2.2.1.getD i.toNat ([],[],[],[],[],())).2.2.2.1.length:=(by omega);refine Tot.bind (P:=fun z=>z=y++(s.2.2.2.2.2.2.2.2.2.1.filter fun b=>kL b == ((s.2.2.2.2.2.2.2.2.1.getD i.toNat ([],[],[],[],[],())).1,(s.2.2.2.2.2.2.2.2.1.getD i.toNat ([],[],[],[],[],())).2.2.2.1.getD j.toNat []))∧z.length≤y.length+1000) (Tot.idx s.2.2.2.2.2.2.2.2.2.1.length (fun z k=>z=y++((s.2.2.2.2.2.2.2.2.2.1.take k).filter fun b=>kL b == ((s.2.2.2.2.2.2.2.2.1.getD i.toNat ([],[],[],[],[],())).1,(s.2.2.2.2.2.2.2.2.1.getD i.toNat ([],[],[],[],[],())).2.2.2.1.getD j.toNat []))∧z.length≤y.length+k) (by omega) (fun k z k0 hk J O=>?_) (fun z O=>?_) ⟨(List.append_nil _).symm,Nat.le_refl _⟩) fun z O=>.ck Y (.ret ⟨rfl,?_,?_⟩)
   ·show Tot (fV none s i j k z) _;unfold fV;have N:k.toNat<s.2.2.2.2.2.2.2.2.2.1.length:=(by omega);obtain⟨z1,z2⟩:=O;refine .ite (fun _=>.ck ⟨k0,hk⟩ (.ite (fun g=>.ck J (.ret ⟨rfl,?_,by grind⟩)) fun g=>.ck ?_ (.ck J (.ret ⟨rfl,?_,?_⟩)))) fun h=>absurd hk h
    ·rw[qS (([]:List Nat),([]:List Nat),([]:List Nat),([]:List Nat),()) N,List.filter_append,List.filter_cons_of_neg,List.filter_nil,List.append_nil]
     ·exact z1
     ·intro q;have q:=eq_of_beq q;rcases g with g|g
      ·exact g (congrArg Prod.fst q)
      ·exact g (congrArg Prod.snd q)
    ·omega
    ·rw[qS (([]:List Nat),([]:List Nat),([]:List Nat),([]:List Nat),()) N,List.filter_append,List.filter_cons_of_pos,List.filter_nil,← List.append_assoc,← z1];simp_all[Classical.not_not,kL,beq_self_eq_true]
    grind
   ·show Tot (fV none s i j _ z) _;unfold fV;rw[List.take_length] at O;exact .ite (fun h=>absurd h (by omega)) fun _=>.ret ⟨O.1,by omega⟩
   ·rw[qS [] U,List.flatMap_append,List.flatMap_singleton,← List.append_assoc,← hy.1];grind
   grind
  ·show Tot (fW none s i _ y) _;unfold fW;rw[List.take_length] at hy;exact .ite (fun h=>absurd h (by omega)) fun _=>.ret ⟨hy.1,by omega⟩
  ·rw[qS (([]:List Nat),([]:List TSt),([]:List TPa),([]:List qc),([]:List TOu),()) L,List.flatMap_append,List.flatMap_singleton,← I.1];grind
  grind
 ·show Tot (fX none s _ x) _;unfold fX;rw[List.take_length,fin] at I;exact .ite (fun h=>absurd h (by omega)) fun _=>.ret I.1
 ·subst hv;unfold pG;exact .ite (fun _=>.ret rfl) fun _=>.ret rfl
theorem aOu{n:Nat}{step:Int→Option (Int⊕(Unit⊕Bool))}(q:n≤1000)(h:∀i:Nat,i<n→step (i:Int)=some (.inl ((i:Int)+1)))(g:step (n:Int)=some (.inr (.inl ()))):dK none step (0:Int)=some (.inl ()):=by
 refine Tot.eq (Tot.idx1 n (by omega) (fun i i0 hi f=>?_) (.of g rfl));obtain⟨j,rfl⟩:∃j:Nat,i=j:=⟨i.toNat,by omega⟩;exact .of (h j (by omega)) rfl
theorem bI0(l:List TPa)(h:l.length≤1000):gP none l l=some true:=by
 unfold gP;refine ifn (fun q=>q rfl) (aZ (aOu h (fun i hi=>?_) ?_) rfl)
 ·unfold lG;exact ify (by omega) (aE (by omega) (aE (by omega) (ifn (fun q=>q (by simp[Ty.eqb])) (aE (by omega) rfl))))
 ·unfold lG;simp_all
theorem bI1(l:List qc)(h:l.length≤1000):jJ none l l=some true:=by
 unfold jJ;refine ifn (fun q=>q rfl) (aZ (aOu h (fun i hi=>?_) ?_) rfl)
 ·unfold lX;exact ify (by omega) (aE (by omega) (aE (by omega) (ifn (fun q=>q rfl) (aE (by omega) rfl))))
 ·unfold lX;simp_all
theorem bFV(l:List TLk)(h:l.length≤1000):iD none l l=some true:=by
 unfold iD;refine ifn (fun q=>q rfl) (aZ (aOu h (fun i hi=>?_) ?_) rfl)
 ·unfold kN;exact ify (by omega) (aE (by omega) (aE (by omega) (ifn (fun q=>q (by simp[Ty.eqb])) (aE (by omega) rfl))))
 ·unfold kN;simp_all
theorem aR0:∀(n k:Nat) (e:Ex),n≤k→fits n e→lC none k e e=some true
 | 0,k,e,z,f=>f.elim
 | n+1,0,e,z,f=>absurd z (by omega)
 | n+1,k+1,e,z,f=>by
  obtain⟨L,I,g⟩:=f;have J:aX none (lC none k) e.l e.l ()=some true:=by
   unfold aX;refine ifn (fun q=>q rfl) (aZ (aOu I (fun i hi=>?_) ?_) rfl)
   ·unfold bR;exact ify (by omega) (aE (by omega) (aE (by omega) (aZ (aR0 n k _ (by omega) (g _ (aQc hi))) (ifn (fun q=>q rfl) (aE (by omega) rfl)))))
   ·unfold bR;simp_all
  show pD none (lC none k) e e=_;unfold pD;rw[J];exact aE (fun _=>rfl) xAf
theorem bDB(l:List TSt)(h:l.length≤1000∧ ∀a∈l,fits 30 a.2.2.1):bD none l l ()=some true:=by
 unfold bD;have f:=h.1;refine ifn (fun q=>q rfl) (aZ (aOu h.1 (fun i hi=>?_) ?_) rfl)
 ·unfold bN uU;have e:=aR0 30 64 _ xAa (h.2 _ (aBB (([]:List Nat),(([]:List Nat),([]:List Nat),()),(Ex.mk 0 [] []),()) hi));refine ify (by omega) (aE (by omega) (aE (by omega) (aZ (a:=true) (aE (fun _=>?_) ?_) (ifn (fun q=>q rfl) (aE (by omega) rfl)))))
  all_goals grind[Int.toNat_natCast,Ty.eqb]
 ·unfold bN;simp_all
theorem bI2(l:List TOu)(h:l.length≤1000∧ ∀a∈l,fits 30 a.2.1):bO none l l ()=some true:=by
 unfold bO;have f:=h.1;refine ifn (fun q=>q rfl) (aZ (aOu h.1 (fun i hi=>?_) ?_) rfl)
 ·unfold bT uW;have e:=aR0 30 64 _ xAa (h.2 _ (aBB (([]:List Nat),(Ex.mk 0 [] []),()) hi));refine ify (by omega) (aE (by omega) (aE (by omega) (aZ (a:=true) (aE (fun _=>?_) ?_) (ifn (fun q=>q rfl) (aE (by omega) rfl)))))
  all_goals simp_all
 ·unfold bT;simp_all
theorem bI3{x:qI}(h:bDw x):uK none x x=some true:=by
 unfold uK;refine aZ (bDB _ ⟨h.x.1,fun a f=>(h.x.2 a f).2.2.2.2⟩) (aZ (bI2 _ ⟨h.o.1,fun a f=>(h.o.2 a f).2.2.2⟩) ?_);rw[bI0 _ h.p.1,bI1 _ h.u.1];exact aE (fun _=>rfl) (aE (fun _=>rfl) xAf)
theorem bDC{s:TSc}(h:ScM s):rZ none s s=some true:=by
 have a:aW none s.2.2.2.2.2.2.2.2.1 s.2.2.2.2.2.2.2.2.1 ()=some true:=by
  unfold aW;have f:=h.sb.1;refine ifn (fun q=>q rfl) (aZ (aOu h.sb.1 (fun i hi=>?_) ?_) rfl)
  ·unfold bZ;exact ify (by omega) (aE (by omega) (aE (by omega) (aZ (bI3 (h.sb.2 _ (aBB _ hi))) (ifn (fun q=>q rfl) (aE (by omega) rfl)))))
  ·unfold bZ;simp_all
 unfold rZ;rw[a,bFV _ h.l.1];exact aE (fun _=>rfl) (aE (fun _=>rfl) xAf)
theorem round{s:TSc}(ok:bB5 s)(hm:lL none s=some true):∃t,nH none s=some (t,0,())∧(t.length≤20000→gV none t=some (s,(0,0,()),0,()))∧rZ none s s=some true:=by
 obtain⟨v,hv,hF⟩:=bER s ok;have hF:=hF (by simp_all);have f:=ScM.of ok hF;obtain⟨r1,z⟩:=bIQ s f;refine⟨jnP (scP s),bIZ s f (.of hF) hm,fun q=>?_,bDC f⟩;have g:=ScB.of hF;have J:=aQp _ g.r.2;have L:=g.r.1;have I:=g.l;have:=bIO (scP s) (by unfold scP; rw[List.length_append]; show 7≤7+_; omega) (by unfold scP; rw[List.length_append,List.length_append,List.length_map]; show 7+_≤_; omega) r1 q (by grind[bDA]) (by simp_all);rw[z] at this;exact this
def Ty.bys:(t:Ty)→t.den→Prop
 | .str,s=>∀c∈s,c<256
 | .sl t,f=>∀x∈f,Ty.bys t x
 | .pair a b,x=>Ty.bys a x.1∧Ty.bys b x.2
 | _,_=>True
theorem bFW(s:ByteArray):∀c∈aQ s,c<256:=by
 intro c hc;unfold aQ at hc;obtain⟨b,_,rfl⟩:=List.mem_map.1 hc;exact b.toNat_lt
theorem aQr{w:World}{S:Nat→Prop}:∀(t:Ty) (x:t.den) (cs:List Value),bB w S t x cs→Ty.bys t x
 | .str,_,_,⟨s,_,L,hs⟩=>by subst L; exact bFW s
 | .sl t,O,_,⟨a,len,J,_,g,q,N,I⟩=>by
  intro x z;rcases I with rfl|⟨b,off,_,_,f⟩
  ·cases z
  ·obtain⟨i,hi,rfl⟩:=List.mem_iff_getElem.1 z;obtain⟨ds,hd,_⟩:=f i hi;exact aQr t _ _ hd
 | .pair a b,_,_,⟨c1,U,_,g,q⟩=>⟨aQr a _ _ g,aQr b _ _ q⟩
 | .u k,_,_,_=>trivial
 | .i k,_,_,_=>trivial
 | .bool,_,_,_=>trivial
 | .unit,_,_,_=>trivial
 | .arr n t,_,_,_=>trivial
 | .expr,_,_,_=>trivial
 | .rp t,_,_,_=>trivial
 | .clo _ t,_,_,_=>trivial
 | .ifc _ t,_,_,_=>trivial
 | .nili,_,_,_=>trivial
 | .nilp,_,_,_=>trivial
 | .nilf,_,_,_=>trivial
theorem bCi{w:World}{S:Nat→Prop}:∀(t:Ty) (x:t.den) (vs:List Value),sC w S t x vs→Ty.bys t x
 | .pair a r,x,vs,⟨v,f,e,g,q⟩=>⟨aQr a _ _ g.cells,bCi r _ _ q⟩
 | .unit,_,_,_=>trivial
 | .bool,_,_,h=>h.elim
 | .str,_,_,h=>h.elim
 | .sl _,_,_,h=>h.elim
 | .u _,_,_,h=>h.elim
 | .i _,_,_,h=>h.elim
 | .arr _ _,_,_,h=>h.elim
 | .expr,_,_,h=>h.elim
 | .rp _,_,_,h=>h.elim
 | .clo _ _,_,_,h=>h.elim
 | .ifc _ _,_,_,h=>h.elim
 | .nili,_,_,h=>h.elim
 | .nilp,_,_,h=>h.elim
 | .nilf,_,_,h=>h.elim
theorem bK8{P:Program}{G:Nat→AV}{f:FuncId}{a:Ty}{r:RK}{m:a.den→Option r.ty.den}{pre:a.den→Prop}{fn:a.den→r.ty.den}(h:FOK P G f (mSpec a r m))(hc:∀x,a.wf x→Ty.bys a x→m x=some (fn x)):FOK P G f ⟨a,r,pre,fn⟩:=fun w S z x I q g hp=>by
 have hm:=hc x (aIT _ _ _ g) (bCi _ _ _ g);have:=h w S z x I q g (by show (m x).isSome=true; grind);simp_all[mSpec]
def pcs:List Nat→List qc
 | []=>[[]]
 | b::l=>if b=10 then []::pcs l else match pcs l with
  | []=>[[b]]
  | p::ps=>(b::p)::ps
theorem bI4:∀w:List Nat,jn (pcs w)=w++ [10]
 | []=>rfl
 | b::l=>by
  have f:=bI4 l;unfold pcs;split
  ·grind[jn,pcs]
  ·split
   all_goals simp_all[congrArg,List.length,jn,List.cons_append]
theorem bI5{n:Nat}:∀w:List Nat,w.length≤n→(∀c∈w,c<256)→(∀p∈pcs w,p.length≤w.length∧(∀c∈p,c<256)∧ ∀c∈p,¬c=10)∧(pcs w).length≤w.length+1
 | [],_,_=>⟨fun p hp=>by rw[List.mem_singleton.1 hp]; simp_all,Nat.le_refl 1⟩
 | b::l,q,hb=>by
  obtain⟨g,f⟩:=bI5 (n:=n) l (by grind) fun c hc=>hb c (.tail _ hc);unfold pcs;grind
theorem bI6:∀f:List qc,jn (f.flatMap pcs)=jn f
 | []=>rfl
 | w::f=>by
  rw[List.flatMap_cons,bIS,bI4,bI6 f];simp[jn]
theorem bI7(s:List Nat)(g:List qc)(hs:s=jn g)(hl:g.length≤47)(h:∀w∈g,w.length≤80∧ ∀c∈w,c<256):Tot (mX none s) (fun b=>b=true):=by
 have hp:∀w∈g,(∀p∈pcs w,p.length≤w.length∧(∀c∈p,c<256)∧ ∀c∈p,¬c=10)∧(pcs w).length≤w.length+1:=fun w q=>bI5 w (h w q).1 (h w q).2;have Y:∀L:List qc,(∀w∈L,(pcs w).length≤81)→(L.flatMap pcs).length≤L.length*81:=fun L=>by
  induction L with
  | nil=>simp_all
  | cons w L ih =>
   grind
 have hc:=Y g fun w q=>by
  grind
 have S:=bIL (g.flatMap pcs) (by omega) fun p N=>by
  obtain⟨w,q,O⟩:=List.mem_flatMap.1 N;obtain⟨a1,a2,a3⟩:=(hp w q).1 p O;have:=(h w q).1;exact⟨⟨by omega,a2⟩,by omega,a3⟩
 rw[bI6,← hs] at S;unfold mX;refine S.bind fun r J=>?_;obtain⟨a,p,e,u⟩:=r;rcases J with⟨f,h2,Z⟩|⟨f,h2,Z,ok⟩
 ·have f:e=6:=f;subst f;exact .ite (fun _=>.ret rfl) fun I=>absurd (fun hh=>absurd (show (6:Int)=0 from hh) xAa) I
 ·have f:e=0:=f;subst f;refine .ite (fun I=>absurd rfl I) fun _=>?_;obtain⟨t,ht,J,U⟩:=round ok Z;rw[show nH none (a,p,(0:Int),u).1=some (t,0,()) from ht,Option.bind_some];by_cases hl:t.length≤20000
  ·rw[show gV none (t,(0:Int),()).1=some (a,(0,0,()),0,()) from J hl,Option.bind_some];refine .ck (fun _ _ _=>by simp_all) (.ret ?_);rw[show rZ none _ _=some true from U];show (true&&true&&(_||(true&&true)))=true;simp
  ·have z:(20000:Int)<(t.length:Int):=(by omega);have e:gV none t=some (sc0,(0,0,()),6,()):=by
    unfold gV;exact ify z rfl
   rw[show gV none (t,(0:Int),()).1=some (sc0,(0,0,()),6,()) from e,Option.bind_some];refine .ck (fun _ I _=>absurd z I) (.ret ?_);show (true&&true&&(decide ((20000:Int)<(t.length:Int))||_))=true;simp_all
def aOv:List qc:=[[112,114,101,99,32,52,48],[101,110,100,32,49],[115,116,101,112,32,48,46,53,32,48,46,49,50,53],[116,111,108,32,49],[116,114,105,101,115,32,52],[111,114,100,101,114,32,48],[115,101,105,100,101,108]]
theorem aWy(lines:List qc)(hb:∀x∈lines,∀c∈x,c<256):vE none lines=some true:=by
 refine Tot.eq ?_;unfold vE;refine .ite (fun _=>.ret rfl) fun U=>?_;refine Tot.bind (P:=fun q=>match q with| .inl s=>s=jn (aOv++lines)∧ ∀w∈lines,w.length≤80| .inr b=>b=true) (Tot.loop (fun d:List Nat×Int=>0≤d.2∧d.2≤(lines.length:Int)∧d.1=jn (aOv++lines.take d.2.toNat)∧d.1.length≤1000+100*d.2.toNat∧ ∀w∈lines.take d.2.toNat,w.length≤80) (fun d=>((lines.length:Int)-d.2).toNat) ?_ ⟨by decide,by omega,by rfl,by decide,fun w g=>by cases g⟩) fun q hq=>?_
 ·rintro⟨s,i⟩ ⟨i0,i1,hs,z,g⟩;have i0:0≤i:=i0;have i1:i≤(lines.length:Int):=i1;have hs:s=jn (aOv++lines.take i.toNat):=hs;have z:s.length≤1000+100*i.toNat:=z;have g:∀w∈lines.take i.toNat,w.length≤80:=g;show Tot (qG none lines s i) _;unfold qG;refine .ite (fun hi=>.ck ⟨i0,hi⟩ (.ite (fun _=>.ret rfl) fun L=>?_)) fun hi=>.ret ⟨?_,?_⟩
  ·have I:i.toNat<lines.length:=(by omega);have e:=qS ([]:List Nat) I;generalize O:lines.getD i.toNat []=w at L e;have J:w.length≤80:=(by omega);have N:s++w++aQ ⟨#[10]⟩=jn (aOv++lines.take (i+1).toNat):=by
    rw[show (i+1).toNat=i.toNat+1 from by omega,e,← List.append_assoc,bK2,← hs];rfl
   refine .ck ⟨i0,hi⟩ (.ck (by omega) (.ck ?_ (.ck (by omega) (.ret ⟨⟨by omega,by omega,N,?_,?_⟩,by omega⟩))))
   ·rw[List.length_append];show s.length+w.length+1≤_;omega
   ·show (s++w++aQ ⟨#[10]⟩).length≤1000+100*(i+1).toNat;rw[List.length_append,List.length_append];show s.length+w.length+1≤_;omega
   ·show ∀w∈lines.take (i+1).toNat,w.length≤80;rw[show (i+1).toNat=i.toNat+1 from by omega,e];intro x f;rcases List.mem_append.1 f with f|f
    ·exact g x f
    ·rw[List.mem_singleton.1 f];exact J
  all_goals grind[List.take_of_length_le]
 ·cases q with
  | inr b=>exact .ret hq
  | inl s =>
   refine bI7 s (aOv++lines) hq.1 (by rw[List.length_append]; show 7+_≤47; omega) fun w g=>?_;rcases List.mem_append.1 g with g|g
   ·have:∀w∈aOv,w.length≤80∧ ∀c∈w,c<256:=(by unfold aOv; decide);grind
   grind
end Nu
end Go.Proofs

