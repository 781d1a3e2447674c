import Derived.Test.YtlijgfkkmamanaaGreatDoorZL1
import Derived.Laws.IdiomStrings
import Derived.Laws.BytesArg
import Derived.MapKept
set_option linter.unusedVariables false
set_option linter.unusedSimpArgs false
namespace Go.Vc
open Go.RowKit
section
variable {P:Program} {T:Tab} {M:Perm} {w0:World} {c:Ctx} {h:List Obj} {w:World}
theorem aCp{f:AV}{v:Value}{i:Int}(hv:aY c w f v)(hi:aD7 f=some i):∃k,v= .int k i:=by
 cases f with
 | val t x =>
  cases t with
  | i k=>simp only[aD7] at hi; cases hi; exact⟨k,(aKI hv).1⟩
  | u k=>simp only[aD7] at hi; cases hi; exact⟨k,(aKH hv).1⟩
  | _=>grind[aD7]
 | _=>grind[aD7]
theorem aFF{t:Ty}{xs:List t.den}{v:Value}(hv:dV w c.S (.sl t) xs v):∃a len cap,v= .slice a len cap∧SlR w c.S (bB w c.S t) t.cells xs a len cap:=by
 simp only[dV,Ty.isAgg,Bool.false_eq_true,if_false] at hv;obtain⟨a,len,cap,e,h⟩:=hv;grind
theorem aDJ{i:Nat}{v:Value}(hv:aY c w (.own i) v):i<c.n∧v=c.hd i:=by
 obtain⟨g,_,f⟩:=hv;simp only[aM] at g;have f:=f rfl;simp_all[Value.cells]
theorem bAe{t:Ty}{xs:List t.den}{v:Value}(hv:aY c w (.full t xs) v):∃a n,v= .slice a n n∧SlR w c.S (bB w c.S t) t.cells xs a n n:=by
 obtain⟨g,_,f⟩:=hv;simp only[aM] at g;obtain⟨a,n,e,h⟩:=g;have f:=f rfl;refine⟨a,n,?_,h⟩;simp_all[Value.cells]
theorem gX{t:TypeId}{g:Ty}(f:aFe P T t (.sl g)):∃e,P.underlying t=some (.slice e)∧T e=some g∧0<g.cells:=by
 obtain⟨d,hd,hb⟩:=f.desc;cases d<;>simp[jX] at hb
 simp_all
theorem aFG{t:TypeId}{n:Nat}{g:Ty}(f:aFe P T t (.arr n g)):∃e,P.underlying t=some (.array n e)∧T e=some g∧0<g.cells∧1<n∧n≤1048576:=by
 obtain⟨d,hd,hb⟩:=f.desc;cases d<;>simp[jX] at hb
 grind
theorem aBS{t:TypeId}(f:aFe P T t .str):P.underlying t=some .string:=by
 obtain⟨d,hd,hb⟩:=f.desc;grind[jX]
theorem aUr{t:TypeId}{f:Ty}(J:mJ P T)(ht:T t=some (.sl f)){xs:List f.den}{a:Option Addr}{len cap:Nat}(hs:SlR w c.S (bB w c.S f) f.cells xs a len cap){i:Int}{k:IntKind}(h0:0≤i)(Y:i<(xs.length:Int)) :
  ∃u,(Instr.indexAt t (.slice a len cap) (.int k i)).run P w= .ok u w∧aY c w (.roa f (xs.getD i.toNat f.zero)) u:=by
 obtain⟨e,hd,O,q⟩:=gX (J _ _ ht);obtain⟨U,N,z,I⟩:=hs;rcases I with I|⟨b,off,rfl,hb,hcell⟩
 ·grind
 ·obtain⟨ds,L,hc⟩:=hcell i.toNat (by omega);refine⟨.pointer (some ⟨b,off+i.toNat*f.cells,none⟩),?_,aGS hb ?_ hc⟩
  ·have g:i<(len:Int):=(by omega);simp[Instr.indexAt,asIntOf,bE hd,h0,g,gI (J _ _ O),Result.andThen,xS]
  grind
theorem aTU{i s off n:Nat}{v:Value}(hv:aY c w (.sub i s off n) v):i<c.n∧n≤maxLen∧ ∃b cap,aU (c.hd i)=some b∧v= .slice (some ⟨b,off*s,none⟩) n cap:=by
 obtain⟨g,_,f⟩:=hv;simp only[aM] at g;obtain⟨hi,q,b,cap,hb,e⟩:=g;have f:=f rfl;simp_all[Value.cells]
theorem bGc(J:mJ P T)(hg:Good M w0 c h w){t:TypeId}{x ix:AV}{v iv:Value}(hv:aY c w x v)(hi:aY c w ix iv)(hc:(aOC T h t x ix).1) :
  ∃u,(Instr.indexAt t v iv).run P w= .ok u w∧aY c w (aOC T h t x ix).2 u:=by
 unfold aOC at hc ⊢;cases hix:aD7 ix with
 | none=>simp_all
 | some i =>
  obtain⟨k,rfl⟩:=aCp hi hix;simp only[hix] at hc ⊢;cases x with
  | val tx Y =>
   cases tx with
   | sl q =>
    simp only at hc ⊢;obtain⟨a,len,O,rfl,hs⟩:=aFF hv.toV;exact aUr J hc.1 hs hc.2.1 hc.2.2
   | _=>simp_all
  | full q Y =>
   simp only at hc ⊢;obtain⟨a,n,rfl,hs⟩:=bAe hv;exact aUr J hc.1 hs hc.2.1 hc.2.2
  | own j =>
   obtain⟨hj,rfl⟩:=aDJ hv;simp only at hc ⊢;cases ho:h[j]? with
   | none=>simp_all
   | some o =>
    have Z:=hg.objs j o ho;cases o with
    | row e q Y =>
     simp only[ho] at hc ⊢;obtain⟨ht,h0,h1⟩:=hc;obtain⟨e',hd,N,I⟩:=gX (J _ _ ht);obtain⟨vals,z,_⟩:=Z;obtain⟨hlen,U⟩:=z;rcases U with⟨f,h00⟩|⟨g,O,cur,f,_,hheap,hle,hcap,hsz,htake⟩
     ·omega
     ·have L:i<(Y.length:Int):=h1;refine⟨.pointer (some ⟨g,pT [.idx q.cells i.toNat],none⟩),?_,aMf hj (by rw[f]; rfl)⟩;rw[f];simp[Instr.indexAt,asIntOf,bE hd,h0,L,gI (J _ _ N),Result.andThen,xS,pT,Step.off]
    | tre e m q Y =>
     simp only[ho] at hc ⊢;obtain⟨ht,h0,h1⟩:=hc;obtain⟨e',hd,N,I⟩:=gX (J _ _ ht);obtain⟨B,⟨vv,css,Bs,hvv0,z,_⟩,_⟩:=Z;obtain rfl:c.hd j=vv:=(List.cons.inj hvv0).1;obtain⟨hlen,U⟩:=z;rcases U with⟨f,h00⟩|⟨g,O,cur,f,_,hheap,hle,hcap,hsz,htake⟩
     ·omega
     ·have L:i<(Y.length:Int):=h1;refine⟨.pointer (some ⟨g,pT [.idx q.cells i.toNat],none⟩),?_,aMf hj (by rw[f]; rfl)⟩;rw[f];simp[Instr.indexAt,asIntOf,bE hd,h0,L,gI (J _ _ N),Result.andThen,xS,pT,Step.off]
    | trh e m q Y kk vk =>
     simp only[ho] at hc ⊢;obtain⟨ht,h0,h1⟩:=hc;obtain⟨e',hd,N,I⟩:=gX (J _ _ ht);obtain⟨css,Bs,hq⟩:=Z;have z:=hq.row;obtain⟨hlen,U⟩:=z;rcases U with⟨f,h00⟩|⟨g,O,cur,f,_,hheap,hle,hcap,hsz,htake⟩
     ·omega
     ·have L:i<(Y.length:Int):=h1;refine⟨.pointer (some ⟨g,pT [.idx q.cells i.toNat],none⟩),?_,aMf hj (by rw[f]; rfl)⟩;rw[f];simp[Instr.indexAt,asIntOf,bE hd,h0,L,gI (J _ _ N),Result.andThen,xS,pT,Step.off]
    | frz q Y =>
     simp only[ho] at hc ⊢;obtain⟨a,len,O,e,hs⟩:=Z;simp at e;rw[e];exact aUr J hc.1 hs hc.2.1 hc.2.2
    | _=>simp_all
  | sub j s off n =>
   obtain⟨hj,hn,b,O,hb,rfl⟩:=aTU hv;simp only at hc ⊢;cases ho:h[j]? with
   | none=>simp_all
   | some o =>
    cases o with
    | row e q Y =>
     simp only[ho] at hc ⊢;obtain⟨ht,rfl,h0,h1⟩:=hc;obtain⟨e',hd,N,I⟩:=gX (J _ _ ht);refine⟨.pointer (some ⟨b,pT [.idx q.cells (off+i.toNat)],none⟩),?_,aMf hj hb⟩;have e1:off*q.cells+i.toNat*q.cells=(off+i.toNat)*q.cells:=(Nat.add_mul _ _ _).symm;simp[Instr.indexAt,asIntOf,bE hd,h0,h1,gI (J _ _ N),Result.andThen,xS,pT,Step.off,e1]
    | _=>simp_all
  | ptr j p =>
   obtain⟨hj,b,hb,rfl⟩:=aGR hv;simp only at hc ⊢;cases ht:T t with
   | none=>simp_all
   | some q =>
    cases q with
    | arr n q =>
     simp only[ht] at hc ⊢;obtain⟨e,hd,N,I,hn⟩:=aFG (J _ _ ht);refine⟨.pointer (some ⟨b,pT (p++ [.idx q.cells i.toNat]),none⟩),?_,aMf hj hb⟩;simp[Instr.indexAt,asIntOf,bE hd,hc.1,hc.2,gI (J _ _ N),Result.andThen,xS,aIO,pT,Step.off,Instr.sureAddr]
    | _=>simp_all
  | roa tx Y =>
   cases tx with
   | arr n q =>
    simp only at hc ⊢;obtain⟨ht,h0,h1⟩:=hc;obtain⟨e,hd,N,I,hn⟩:=aFG (J _ _ ht);obtain⟨b,off,ds,rfl,hb,hrep,hcell⟩:=aTT hv;obtain⟨pre,ds',post,e1,hp,hd'⟩:=aQs (c:=c) (.val (.arr n q) Y) i.toNat ds hrep (by grind[elemOf]);refine⟨.pointer (some ⟨b,off+i.toNat*q.cells,none⟩),?_,aGS hb hd' ?_⟩
    ·simp[Instr.indexAt,asIntOf,bE hd,h0,h1,gI (J _ _ N),Result.andThen,xS,Instr.sureAddr]
    ·have:=aFf hcell e1;rw[hp] at this; exact this
   | _=>simp_all
  | _=>simp_all
theorem uL(s:ByteArray):(aQ s).length=s.size:=by
 obtain⟨⟨l⟩⟩:=s; simp[aQ,ByteArray.size]
theorem bGd(s:ByteArray){i:Nat}(h:i<s.size):(aQ s).getD i 0=s[i].toNat:=by
 obtain⟨⟨l⟩⟩:=s;have h':i<l.length:=h;simp only[aQ,List.getD_eq_getElem?_getD,List.getElem?_map];rw[List.getElem?_eq_getElem h'];rfl
theorem bGe(z:mJ P T){t:TypeId}{x q:AV}{v U:Value}(hv:aY c w x v)(hi:aY c w q U)(hc:(aOD T t x q).1) :
  ∃u,(Instr.index t v U).run P w= .ok u w∧aY c w (aOD T t x q).2 u:=by
 unfold aOD at hc ⊢;cases g:aD7 q with
 | none=>simp_all
 | some i =>
  obtain⟨k,rfl⟩:=aCp hi g;simp only[g] at hc ⊢;cases x with
  | val tx xs =>
   cases tx with
   | arr n ct =>
    simp only at hc ⊢;obtain⟨ht,h0,L⟩:=hc;obtain⟨e,hd,Y,O,hn⟩:=aFG (z _ _ ht);obtain⟨Z,h2,_⟩:=hv;obtain⟨cs,rfl⟩:=h2 rfl;obtain⟨pre,ds',post,e1,hp,J⟩:=aQs (c:=c) (.val (.arr n ct) xs) i.toNat _ Z (by grind[elemOf]);obtain⟨u,I,N⟩:=aFQ (z _ _ Y) e1 J w;rw[hp] at I;simp only[aXA,Value.cells] at I;refine⟨u,?_,aY.ofV N⟩;simp[Instr.index,asIntOf,bE hd,h0,L,gI (z _ _ Y),Result.andThen,I]
   | str =>
    simp only at hc ⊢;obtain⟨ht,h0,L⟩:=hc;have hd:=aBS (z _ _ ht);obtain⟨s,rfl,rfl,hs⟩:=aR2 hv;rw[uL] at L;have f:i.toNat<s.size:=(by omega);refine⟨.int .u8 (s[i.toNat].toNat:Int),?_,?_⟩
    ·simp[Instr.index,asIntOf,bE hd,h0,getElem?_pos,f]
    ·rw[bGd s f]; exact aMw rfl (by simp[lR,IntKind.bits]; exact s[i.toNat].toNat_lt)
   | _=>simp_all
  | _=>simp_all
theorem aUs:(maxLen:Int)=IntKind.max .i64:=by rfl
theorem vX{n:Nat}(h:n≤maxLen):fits .i64 (n:Int):=by
 refine⟨?_,by grind[aUs]⟩;simp[IntKind.min,IntKind.signed,IntKind.bits]
theorem bLH(O:mJ P T)(hg:Good M w0 c h w){t ty:TypeId}{x:AV}{v:Value}(hv:aY c w x v)(hc:(aKM T h t x).1) :
  ∃u,(Builtin.len_ #[t] ty #[v]).run P w= .ok u w∧aY c w (aKM T h t x).2 u:=by
 cases x with
 | val tx xs =>
  cases tx with
  | str =>
   simp only[aKM] at hc ⊢;obtain⟨s,rfl,rfl,hs⟩:=aR2 hv;exact⟨.int .i64 s.size,by simp[Builtin.len_,bE (aBS (O _ _ hc)),goInt],by rw[uL]; exact aDs rfl (vX hs)⟩
  | sl Y =>
   simp only[aKM] at hc ⊢;obtain⟨e,hd,_⟩:=gX (O _ _ hc);obtain⟨a,len,z,rfl,hl,J,q,_⟩:=aFF hv.toV;exact⟨.int .i64 len,by simp[Builtin.len_,bE hd,goInt],by rw[hl]; exact aDs rfl (vX (by omega))⟩
  | arr n Y =>
   simp only[aKM] at hc ⊢;obtain⟨e,hd,_,_,_,hn⟩:=aFG (O _ _ hc);exact⟨.int .i64 n,by simp[Builtin.len_,bE hd,goInt],aDs rfl (vX (by unfold maxLen; omega))⟩
  | _=>exact hc.elim
 | full Y xs =>
  simp only[aKM] at hc ⊢;obtain⟨e,hd,_⟩:=gX (O _ _ hc);obtain⟨a,n,rfl,hl,J,q,_⟩:=bAe hv;exact⟨.int .i64 n,by simp[Builtin.len_,bE hd,goInt],by rw[hl]; exact aDs rfl (vX (by omega))⟩
 | nilS =>
  simp only[aKM] at hc ⊢;obtain⟨Y,hc⟩:=hc;obtain⟨e,hd,_⟩:=gX (O _ _ hc);obtain⟨h1,_,h3⟩:=hv;simp only[aM] at h1;have h3:=h3 rfl;have:v= .slice none 0 0:=by simp_all[Value.cells]
  subst this;exact⟨.int .i64 0,by simp[Builtin.len_,bE hd,goInt],aDs rfl (vX (Nat.zero_le _))⟩
 | sub j s off n =>
  obtain⟨hj,hn,b,z,hb,rfl⟩:=aTU hv;simp only[aKM] at hc ⊢;obtain⟨Y,hc⟩:=hc;obtain⟨e,hd,_⟩:=gX (O _ _ hc);exact⟨.int .i64 n,by simp[Builtin.len_,bE hd,goInt],aDs rfl (vX hn)⟩
 | own j =>
  obtain⟨hj,rfl⟩:=aDJ hv;simp only[aKM] at hc ⊢;cases ho:h[j]? with
  | none=>simp_all
  | some o =>
   have U:=hg.objs j o ho;cases o with
   | row e Y xs =>
    simp only[ho] at hc ⊢;obtain⟨e',hd,he,I⟩:=gX (O _ _ hc);obtain⟨vals,⟨Z,L⟩,_⟩:=U;rcases L with⟨f,N⟩|⟨g,z,cur,f,_,hheap,J,q,hsz,htake⟩
    ·rw[f,N];exact⟨.int .i64 0,by simp[Builtin.len_,bE hd,goInt],aDs rfl (vX (Nat.zero_le _))⟩
    ·rw[f];exact⟨.int .i64 xs.length,by simp[Builtin.len_,bE hd,goInt],aDs rfl (vX (by omega))⟩
   | tre e m Y xs =>
    simp only[ho] at hc ⊢;obtain⟨e',hd,he,I⟩:=gX (O _ _ hc);obtain⟨B,⟨vv,css,Bs,hvv0,⟨Z,L⟩,_⟩,_⟩:=U;obtain rfl:c.hd j=vv:=(List.cons.inj hvv0).1;rcases L with⟨f,N⟩|⟨g,z,cur,f,_,hheap,J,q,hsz,htake⟩
    ·rw[f,N];exact⟨.int .i64 0,by simp[Builtin.len_,bE hd,goInt],aDs rfl (vX (Nat.zero_le _))⟩
    ·rw[f];exact⟨.int .i64 xs.length,by simp[Builtin.len_,bE hd,goInt],aDs rfl (vX (by omega))⟩
   | trh e m Y xs kk vk =>
    simp only[ho] at hc ⊢;obtain⟨e',hd,he,I⟩:=gX (O _ _ hc);obtain⟨css,Bs,hq⟩:=U;obtain⟨Z,L⟩:=hq.row;rcases L with⟨f,N⟩|⟨g,z,cur,f,_,hheap,J,q,hsz,htake⟩
    ·rw[f,N];exact⟨.int .i64 0,by simp[Builtin.len_,bE hd,goInt],aDs rfl (vX (Nat.zero_le _))⟩
    ·rw[f];exact⟨.int .i64 xs.length,by simp[Builtin.len_,bE hd,goInt],aDs rfl (vX (by omega))⟩
   | frz Y xs =>
    simp only[ho] at hc ⊢;obtain⟨e',hd,he,I⟩:=gX (O _ _ hc);obtain⟨a,len,z,e,hl,J,q,_⟩:=U;simp at e;rw[e];exact⟨.int .i64 len,by simp[Builtin.len_,bE hd,goInt],by rw[hl]; exact aDs rfl (vX (by omega))⟩
   | _=>simp_all
 | _=>exact hc.elim
theorem bMH{f:UnOp}{x:AV}{v:Value}(hv:aY c w x v)(hc:(bCr f x).1) :
  ∃u,(Op.unary f v).run P w= .ok u w∧aY c w (bCr f x).2 u:=by
 cases x with
 | val t y =>
  cases t with
  | bool =>
   obtain rfl:=aHT hv;cases f<;>simp only[bCr] at hc ⊢
   exact⟨_,rfl,aFP _⟩
  | i k =>
   obtain⟨rfl,q,g⟩:=aKI hv;cases f<;>simp only[bCr] at hc ⊢
   simp_all[Op.unary,Op.intArith,aKG,aDs]
  | u k =>
   obtain⟨rfl,q,g⟩:=aKH hv;cases f<;>simp only[bCr] at hc ⊢
   ·have hp:=aFO k;have:=aYr (P:=P) (w:=w) (c:=c) .sub 0 (a:=0) (b:=y) q hp g (by simp[aYq]);obtain⟨u,z,I⟩:=this;refine⟨u,?_,by grind[aYq,aMa,aYp]⟩
    simpa [binOp,Op.unary] using z
   ·have hp:=aFO k;have:=aYr (P:=P) (w:=w) (c:=c) .xor 0 (a:=lR k-1) (b:=y) q (by omega) g (by simp[aYq]);obtain⟨u,z,I⟩:=this;refine⟨u,?_,by grind[aYq]⟩;grind[lR,bDE,binOp,Op.unary]
  | _=>exact hc.elim
 | _=>exact hc.elim
theorem bDP{k k':IntKind}(h:k.bits≤k'.bits):lR k≤lR k':=Nat.pow_le_pow_right (by omega) h
theorem bCt{k k':IntKind}(q:k.signed=true)(f:k'.signed=true)(h:k.bits≤k'.bits){n:Int}(g:fits k n):fits k' n:=by
 obtain⟨I,z⟩:=g;cases k<;>simp[IntKind.signed] at q<;>cases k'<;>simp[IntKind.signed] at f<;>simp[IntKind.bits] at h<;>simp[fits,IntKind.min,IntKind.max,IntKind.signed,IntKind.bits] at I z ⊢ <;> omega
theorem bE6{k k':IntKind}(g:k.signed=false)(f:k'.signed=true)(h:k.bits<k'.bits){n:Nat}(q:n<lR k):fits k' (n:Int):=by
 cases k<;>simp[IntKind.signed] at g<;>cases k'<;>simp[IntKind.signed] at f<;>simp[IntKind.bits] at h<;>simp[fits,IntKind.min,IntKind.max,IntKind.signed,IntKind.bits,lR] at q ⊢ <;> omega
theorem bDQ(Z:mJ P T){src dst:TypeId}{x:AV}{v:Value}(hv:aY c w x v)(hc:(aQt T src dst x).1) :
  ∃u,(convert src dst v).run P w= .ok u w∧aY c w (aQt T src dst x).2 u:=by
 have q:(T src).isSome=true→ ∃d,P.underlying src=some d:=fun h=>by
  obtain⟨ct,Y⟩:=Option.isSome_iff_exists.1 h;obtain⟨d,hd,_⟩:=(Z _ _ Y).desc;simp_all
 unfold aQt at hc ⊢;cases f:T dst with
 | none=>simp_all
 | some cd =>
  obtain⟨U,I,z⟩:=(Z _ _ f).desc;cases x with
  | val t y =>
   cases cd with
   | u k =>
    cases U<;>simp[jX] at z
    obtain⟨rfl,J⟩:=z;cases t with
    | u N =>
     simp only[f] at hc ⊢;obtain⟨ds,g⟩:=q hc;obtain⟨rfl,L,hy⟩:=aKH hv;refine⟨_,by simp[convert,bE g,bE I,Conv.intToInt]; rfl,?_⟩;rw[aCn J];split
     ·rename_i O; rw[Nat.mod_eq_of_lt (Nat.lt_of_lt_of_le hy (bDP O))]; grind[aMw,Nat.lt_of_lt_of_le,bDP]
     ·exact aMw J (Nat.mod_lt _ (aFO _))
    | i N =>
     simp only[f] at hc ⊢;obtain⟨ds,g⟩:=q hc;obtain⟨rfl,L,hy⟩:=aKI hv;refine⟨_,by simp[convert,bE g,bE I,Conv.intToInt]; rfl,?_⟩;rw[bCl J];have hp:=aFO k;have h1:=Int.emod_nonneg y (show (lR k:Int)≠0 by omega);have h2:=Int.emod_lt_of_pos y (show (0:Int)<lR k by omega);grind[aMw,lR,Int.toNat_of_nonneg]
    | _=>simp_all
   | i k =>
    cases U<;>simp[jX] at z
    obtain⟨rfl,J⟩:=z;cases t with
    | u N =>
     simp only[f] at hc ⊢;obtain⟨ds,g⟩:=q hc;obtain⟨rfl,L,hy⟩:=aKH hv;refine⟨_,by simp[convert,bE g,bE I,Conv.intToInt]; rfl,?_⟩;grind[bE6,aKG,aDs,aHS]
    | i N =>
     simp only[f] at hc ⊢;obtain⟨ds,g⟩:=q hc;obtain⟨rfl,L,hy⟩:=aKI hv;refine⟨_,by simp[convert,bE g,bE I,Conv.intToInt]; rfl,?_⟩;grind[bCt,aKG,aDs,aHS]
    | _=>simp_all
   | str =>
    cases U<;>simp[jX] at z
    cases t with
    | str =>
     simp only[f] at hc ⊢;obtain⟨s,rfl,rfl,hs⟩:=aR2 hv;exact⟨_,by simp[convert,bE (aBS (Z _ _ hc)),bE I],bJa hs⟩
    | _=>simp_all
   | _=>simp_all
  | _=>simp_all
theorem bDR(f:BinOp)(t:TypeId){k k':IntKind}{a:Nat}{b:Int}(g:k.signed=false)(q:a<lR k)(h0:0≤b)(h:(shU f k a b.toNat).1) :
  ∃v,(binOp f t (.int k a) (.int k' b)).run P w= .ok v w∧aY c w (shU f k a b.toNat).2 v:=by
 have:=bCm (P:=P) (w:=w) (c:=c) f t (k:=k) (k':=k') (a:=a) (n:=b.toNat) g q h;grind
theorem bDS(f:BinOp)(t:TypeId){k k':IntKind}{a b:Int}(g:k.signed=true)(q:fits k a)(h0:0≤b)(z:f= .shl→b≤k.bits)(h:(shI f k a b.toNat).1) :
  ∃v,(binOp f t (.int k a) (.int k' b)).run P w= .ok v w∧aY c w (shI f k a b.toNat).2 v:=by
 have:=bCn (P:=P) (w:=w) (c:=c) f t (k:=k) (k':=k') (a:=a) (n:=b.toNat) g q (fun e=>by simp_all) h;grind
theorem bAf(a b:ByteArray):aQ (a++b)=aQ a++aQ b:=by
 grind[List.map,ByteArray.data_append,aQ]
theorem bDT:∀(a b:List UInt8),Op.bytesLess a b=aOw (a.map (·.toNat)) (b.map (·.toNat))
 | a,[]=>by grind[Op.bytesLess,aOw]
 | [],b::r=>by rfl
 | a::x,b::y=>by
  simp only[Op.bytesLess,List.map_cons,aOw,bDT x y];have e1:decide (a<b)=decide (a.toNat<b.toNat):=by rfl
  have f:(a == b)=decide (a.toNat=b.toNat):=by rw[Bool.eq_iff_iff]; simp[UInt8.toNat_inj]
  grind
theorem bAg(s:ByteArray):aQ s=s.toList.map (·.toNat):=by rw[ByteArray.toList_eq]; rfl
theorem bJj{f:BinOp}(t:TypeId){s r:ByteArray}(hs:s.size≤maxLen)(z:r.size≤maxLen)(hc:(bF1 f (aQ s) (aQ r)).1) :
  ∃u,(binOp f t (.string s) (.string r)).run P w= .ok u w∧aY c w (bF1 f (aQ s) (aQ r)).2 u:=by
 have q:Op.bytesLess s.toList r.toList=aOw (aQ s) (aQ r):=by grind[bDT,bAg]
 cases f<;>simp only[bF1] at hc ⊢
 case add =>
  rw[uL,uL] at hc;have g:(s++r).size=s.size+r.size:=by simp
  refine⟨.string (s++r),?_,by grind[bAf,bJa]⟩;have:¬(((s.size+r.size:Nat):Int)>IntKind.max .i64):=by grind[aUs]
  simp_all[binOp,Op.stringOp,if_false]
 all_goals simp_all[binOp,Op.stringOp,bLA,aFP]
theorem bLI(hT:mJ P T){L:BinOp}{t:TypeId}{x y:AV}{v u:Value}(hv:aY c w x v)(f:aY c w y u)(hc:(aD6 T L t x y).1) :
  ∃r,(binOp L t v u).run P w= .ok r w∧aY c w (aD6 T L t x y).2 r:=by
 have g:∀(J:Ty) (a b:J.den) (v u:Value),J.isAgg=true→aY c w (.val J a) v→aY c w (.val J b) u→T t=some J→J.cmpB=true→J.deep≤100 →
   (binOp .eql t v u).run P w= .ok (.bool (J.eqb a b)) w∧(binOp .neq t v u).run P w= .ok (.bool (!J.eqb a b)) w:=by
  intro J a b v u z hv f ht Y hd;have U:=aIK hT w ht Y hd hv.toV f.toV;obtain⟨cs,rfl⟩:=hv.2.1 z;obtain⟨cs',rfl⟩:=f.2.1 z;simp_all[binOp]
 cases x with
 | val t1 a =>
  cases t1 with
  | u k =>
   cases y with
   | val I b =>
    cases I with
    | u Z =>
     obtain⟨rfl,N,z⟩:=aKH hv;obtain⟨rfl,O,hb⟩:=aKH f;cases L
     case shl=>exact bCm (P:=P) .shl t N z (by simp[shU])
     case shr=>exact bCm (P:=P) .shr t N z (by simp[shU])
     all_goals
      simp only[aD6] at hc ⊢;split at hc
      all_goals simp_all[if_true,aYr]
    | i Z =>
     obtain⟨rfl,N,z⟩:=aKH hv;obtain⟨rfl,O,hb⟩:=aKI f;cases L<;>simp only[aD6] at hc ⊢
     case shl=>exact bDR (P:=P) .shl t N z hc (by simp[shU])
     case shr=>exact bDR (P:=P) .shr t N z hc (by simp[shU])
    | _=>exact hc.elim
   | _=>exact hc.elim
  | i k =>
   cases y with
   | val I b =>
    cases I with
    | i Z =>
     obtain⟨rfl,N,z⟩:=aKI hv;obtain⟨rfl,O,hb⟩:=aKI f;cases L
     case shl =>
      simp_all[aD6,bDS]
     case shr =>
      simp only[aD6] at hc ⊢;exact bDS (P:=P) .shr t N z hc (fun h=>by cases h) (by simp[shI])
     all_goals
      simp only[aD6] at hc ⊢;split at hc
      all_goals simp_all[if_true,bJc]
    | u Z =>
     obtain⟨rfl,N,z⟩:=aKI hv;obtain⟨rfl,O,hb⟩:=aKH f;cases L<;>simp only[aD6] at hc ⊢
     case shl=>simp_all[bCn]
     case shr=>exact bCn (P:=P) .shr t N z (fun h=>by cases h) (by simp[shI])
    | _=>exact hc.elim
   | _=>exact hc.elim
  | str =>
   cases y with
   | val I b =>
    cases I with
    | str =>
     simp only[aD6] at hc ⊢;obtain⟨s,rfl,rfl,hs⟩:=aR2 hv;obtain⟨r,rfl,rfl,hr⟩:=aR2 f;simp_all[bJj]
    | _=>exact hc.elim
   | _=>exact hc.elim
  | bool =>
   cases y with
   | val I b =>
    cases I with
    | bool =>
     simp only[aD6] at hc ⊢;obtain rfl:=aHT hv;obtain rfl:=aHT f;have U:=aIK (P:=P) (T:=T) hT w (S:=c.S) (w:=w) (x:=a) (y:=b) hc.1 rfl (by simp[Ty.deep]) hv.toV f.toV;have hc2:=hc.2;cases L<;>simp only[bJb] at hc2 ⊢
     ·exact⟨.bool (a == b),by simp only[binOp,Sem.run_bind,U,Result.andThen_ok]; rfl,aFP _⟩
     ·exact⟨.bool (a != b),by simp only[binOp,Sem.run_bind,U,Result.andThen_ok]; rfl,aFP _⟩
    | _=>exact hc.elim
   | _=>exact hc.elim
  | pair p q =>
   cases y with
   | val I b =>
    simp only[aD6] at hc ⊢;by_cases e:I= .pair p q
    ·subst e;simp only[dite_true] at hc ⊢;cases L<;>simp only at hc ⊢ <;> (try exact hc.elim)
     ·exact⟨_,(g _ _ _ _ _ rfl hv f hc.1 hc.2.1 hc.2.2).1,aFP _⟩
     ·exact⟨_,(g _ _ _ _ _ rfl hv f hc.1 hc.2.1 hc.2.2).2,aFP _⟩
    simp_all
   | _=>exact hc.elim
  | arr n q =>
   cases y with
   | val I b =>
    simp only[aD6] at hc ⊢;by_cases e:I= .arr n q
    ·subst e;simp only[dite_true] at hc ⊢;cases L<;>simp only at hc ⊢ <;> (try exact hc.elim)
     ·exact⟨_,(g _ _ _ _ _ rfl hv f hc.1 hc.2.1 hc.2.2).1,aFP _⟩
     ·exact⟨_,(g _ _ _ _ _ rfl hv f hc.1 hc.2.1 hc.2.2).2,aFP _⟩
    simp_all
   | _=>exact hc.elim
  | _=>exact hc.elim
 | _=>exact hc.elim
end
end Go.Vc
namespace Go.Vc
open Go.RowKit
section
variable {P:Program} {T:Tab} {M:Perm} {w0:World} {c:Ctx} {h:List Obj} {w:World}
theorem iX{i:Int}{k:IntKind}{y:Nat}{f:BoundsCode}(h0:0≤i)(g:i≤(y:Int)):(Instr.sliceBound (.int k i) y f).run P w= .ok i.toNat w:=by
 simp[Instr.sliceBound,asIntOf,h0,g]
inductive aWz(c:Ctx)(w:World):Option AV→Option Value→Prop where
 | none:aWz c w none none
 | some {a:AV} {v:Value} (h:aY c w a v):aWz c w (some a) (some v)
theorem aDu{o:Option AV}{v:Option Value}(hv:aWz c w o v){i:Int}(hi:o.map aD7=some (some i)):∃k,v=some (.int k i):=by
 cases hv with
 | none=>cases hi
 | some hv =>
  simp at hi;obtain⟨k,rfl⟩:=aCp hv hi;simp_all
theorem vY{o:Option AV}{v:Option Value}(hv:aWz c w o v)(hi:o.map aD7=none):v=none:=by
 cases hv with
 | none=>rfl
 | some hv=>grind
theorem aYw(s:ByteArray)(l n:Nat):aQ (s.extract l n)=((aQ s).take n).drop l:=by
 obtain⟨⟨x⟩⟩:=s;simp only[aQ,ByteArray.data_extract,List.extract_toArray,List.extract_eq_take_drop];simp[List.map_take,List.map_drop,List.drop_take]
theorem aMh{t:TypeId}(hd:P.underlying t=some .string){s:ByteArray}(hs:s.size≤maxLen){lo hi:Option Value}{l u:Nat}
  (hb:(Instr.sliceBounds false s.size s.size lo hi none).run P w= .ok (l,u,s.size) w) :
  (Instr.sliceAt t (.string s) lo hi none).run P w= .ok (.string (s.extract l u)) w∧aY c w (.val .str (((aQ s).take u).drop l)) (.string (s.extract l u)):=by
 refine⟨by simp[Instr.sliceAt,Instr.slice,bE hd,hb],?_⟩;rw[← aYw];refine bJa ?_;have:(s.extract l u).size≤s.size:=by simp; omega
 omega
theorem aHV{t e:TypeId}{f:Ty}(hd:P.underlying t=some (.slice e))(N:aFe P T e f){xs:List f.den}{a:Option Addr}{len cap:Nat}(hs:SlR w c.S (bB w c.S f) f.cells xs a len cap){lo hi mx:Option Value}{l u m:Nat}
  (hb:(Instr.sliceBounds true len cap lo hi mx).run P w= .ok (l,u,m) w) (h1:l≤u) (h2:u≤len) (U:u≤m) (Z:m≤cap) :
  ∃z ,(Instr.sliceAt t (.slice a len cap) lo hi mx).run P w= .ok (.slice z (u-l) (m-l)) w∧SlR w c.S (bB w c.S f) f.cells ((xs.take u).drop l) z (u-l) (m-l):=by
 refine⟨if m=l then a else a.map (·.add (l*f.cells)),by simp[Instr.sliceAt,Instr.slice,bE hd,hb,gI N],?_⟩;obtain⟨Y,L,I,J⟩:=hs;refine⟨by grind,by omega,by omega,?_⟩;rcases J with J|⟨b,off,rfl,q,hcell⟩
 ·simp_all
 ·by_cases g:m=l
  ·simp_all
  ·right
   refine⟨b,off+l*f.cells,by simp[g,xS],q,fun i hi=>?_⟩;have O:l+i<xs.length:=(by grind);grind
theorem Good.frz(q:Good M w0 c h w):Good M w0 c (h.map gJ) w:=by
 have J:∀i:Nat,(h.map gJ)[i]? = (h[i]?).map gJ:=fun i=>by simp
 have g:∀(i:Nat) (o:Obj),(h.map gJ)[i]? = some o→o= .dead∨h[i]? = some o:=fun i o f=>by
  rw[J] at f;cases hi:h[i]? with
  | none=>simp_all
  | some U =>
   rw[hi] at f;simp only[Option.map_some,Option.some.injEq] at f;cases U<;>simp only[gJ] at f<;>subst f<;>first|simp_all|simp_all
 refine⟨by rw[q.n]; simp,q.keeps,q.sfin,q.src,fun i o f=>?_,fun i o b f hb=>?_,fun i j O N b hi L z I=>?_,q.root⟩
 ·rcases g i o f with rfl|f
  ·trivial
  ·exact q.objs i o f
 ·rcases g i o f with rfl|f
  ·simp[fI] at hb
  ·exact q.own i o b f hb
 ·rcases g i O hi with rfl|hi
  ·simp[fI] at z
  ·rcases g j N L with rfl|L
   ·simp[fI] at I
   ·exact q.sep i j O N b hi L z I
theorem aQw(b:Nat)(hb:aGQ c (h.map gJ) b):c.S b:=by
 rcases hb with hb|⟨i,g,f,hb⟩
 ·exact hb
 ·simp only[List.getElem?_map] at f;cases hi:h[i]? with
  | none=>simp_all
  | some o=>rw[hi] at f; simp only[Option.map_some,Option.some.injEq] at f; subst f; cases o<;>simp[gJ,fI] at hb
theorem bAh{av:AV}{v:Value}{t:Ty}{x:t.den}(hv:aY c w av v)(g:AV.as h t av=some x):aM c w av v.cells.toList∧(av.isAgg=true→ ∃cs,v= .agg cs)∧(av.isAgg=false→ ∀cs,v≠ .agg cs):=by
 cases av with
 | junk=>grind[AV.as]
 | undef=>grind[AV.as]
 | tup f=>grind[AV.as]
 | _=>exact hv
theorem aMi(I:Good M w0 c h w){av:AV}{v:Value}{t:Ty}{x:t.den}(hv:aY c w av v)(f:AV.as h t av=some x):dV w (aGQ c h) t x v:=by
 obtain⟨z,q,g⟩:=bAh hv f;grind[bK9,dV.of_cells]
theorem aAl(g:Good M w0 c h w){av:AV}{v:Value}{t:Ty}{x:t.den}(hv:aY c w av v)(f:AV.as (h.map gJ) t av=some x):dV w c.S t x v :=
 (aMi g.frz hv f).keep aQw (.refl _ _)
theorem bGf(hT:mJ P T)(hg:Good M w0 c h w){t:TypeId}{x:AV}{v:Value}{lo hi mx:Option AV}{lv hv mv:Option Value}(hx:aY c w x v)(q:aWz c w lo lv)(g:aWz c w hi hv)(J:aWz c w mx mv)(hc:(aOE T h t x lo hi mx).1) :
  ∃u,(Instr.sliceAt t v lv hv mv).run P w= .ok u w∧aY c w (aOE T h t x lo hi mx).2 u:=by
 unfold aOE at hc ⊢;cases ht:T t with
 | none=>simp_all
 | some N =>
  cases N with
  | str =>
   simp only[ht] at hc ⊢;have hd:=aBS (hT _ _ ht);split at hc
   ·rename_i s;cases J;obtain⟨s,rfl,rfl,hs⟩:=aR2 hx;have f:=uL s;split at hc
    ·rename_i e1 z;obtain rfl:=vY q e1;obtain rfl:=vY g z;have:=aMh (c:=c) (w:=w) hd hs (lo:=none) (hi:=none) (l:=0) (u:=s.size) (by rfl);simp_all
    ·rename_i l e1 z;obtain⟨k,rfl⟩:=aDu q e1;obtain rfl:=vY g z;rw[f] at hc;have:=aMh (c:=c) (w:=w) hd hs (lo:=some (.int k l)) (hi:=none) (l:=l.toNat) (u:=s.size) (by simp[Instr.sliceBounds,iX hc.1 hc.2]);grind
    ·rename_i u e1 z;obtain rfl:=vY q e1;obtain⟨k,rfl⟩:=aDu g z;rw[f] at hc;have:=aMh (c:=c) (w:=w) hd hs (lo:=none) (hi:=some (.int k u)) (l:=0) (u:=u.toNat) (by simp[Instr.sliceBounds,iX hc.1 hc.2]);simp_all
    ·rename_i l u e1 z;obtain⟨k,rfl⟩:=aDu q e1;obtain⟨k',rfl⟩:=aDu g z;rw[f] at hc;obtain⟨h0,Y,Z⟩:=hc;have:=aMh (c:=c) (w:=w) hd hs (lo:=some (.int k l)) (hi:=some (.int k' u)) (l:=l.toNat) (u:=u.toNat) (by simp[Instr.sliceBounds,iX (P:=P) (w:=w) (show 0≤u by omega) Z,iX (P:=P) (w:=w) (i:=l) (y:=u.toNat) h0 (by omega)]);simp_all
    simp_all
   simp_all
  | sl N =>
   simp only[ht] at hc ⊢;obtain⟨e,hd,he,hpos⟩:=gX (hT _ _ ht);have L:=hT _ _ he;cases hl:bCs h N x with
   | none=>simp_all
   | some xs =>
    simp only[hl] at hc ⊢;obtain⟨a,len,I,rfl,hs⟩:=aFF (aAl hg hx hl);have f:=hs.1;have hle:=hs.2.1;have mk:∀ {ys:List N.den} {O:Option Addr} {n m:Nat},SlR w c.S (bB w c.S N) N.cells ys O n m→aY c w (.val (.sl N) ys) (.slice O n m):=fun hs'=>⟨⟨_,_,_,rfl,hs'⟩,(fun h=>by cases h),(fun _ cs=>by simp)⟩;have mkF:∀ {ys:List N.den} {O:Option Addr} {n m:Nat},SlR w c.S (bB w c.S N) N.cells ys O n m→m=n→aY c w (.full N ys) (.slice O n m):=fun hs' e=>(by subst e; exact⟨⟨_,_,rfl,hs'⟩,(fun h=>by cases h),(fun _ cs=>by simp)⟩);split at hc
    ·rename_i e1 z U;obtain rfl:=vY q e1;obtain rfl:=vY g z;obtain rfl:=vY J U;obtain⟨O,Y,Z⟩:=aHV (w:=w) hd L hs (lo:=none) (hi:=none) (mx:=none) (l:=0) (u:=len) (m:=I) (by rfl) (Nat.zero_le _) (Nat.le_refl _) hle (Nat.le_refl _);grind
    ·rename_i l e1 z U;obtain⟨k,rfl⟩:=aDu q e1;obtain rfl:=vY g z;obtain rfl:=vY J U;rw[f] at hc;obtain⟨O,Y,Z⟩:=aHV (w:=w) hd L hs (lo:=some (.int k l)) (hi:=none) (mx:=none) (l:=l.toNat) (u:=len) (m:=I) (by simp[Instr.sliceBounds,iX hc.1 hc.2]) (by omega) (Nat.le_refl _) hle (Nat.le_refl _);grind
    ·rename_i u e1 z U;obtain rfl:=vY q e1;obtain⟨k,rfl⟩:=aDu g z;obtain rfl:=vY J U;rw[f] at hc;obtain⟨O,Y,Z⟩:=aHV (w:=w) hd L hs (lo:=none) (hi:=some (.int k u)) (mx:=none) (l:=0) (u:=u.toNat) (m:=I) (by simp[Instr.sliceBounds,iX (P:=P) (w:=w) (y:=I) hc.1 (by omega)]) (by omega) (by omega) (by omega) (Nat.le_refl _);simp_all
    ·rename_i l u e1 z U;obtain⟨k,rfl⟩:=aDu q e1;obtain⟨k',rfl⟩:=aDu g z;obtain rfl:=vY J U;rw[f] at hc;obtain⟨h0,Y,Z⟩:=hc;obtain⟨O,Y,Z⟩:=aHV (w:=w) hd L hs (lo:=some (.int k l)) (hi:=some (.int k' u)) (mx:=none) (l:=l.toNat) (u:=u.toNat) (m:=I) (by simp[Instr.sliceBounds,iX (P:=P) (w:=w) (i:=u) (y:=I) (by omega) (by omega),iX (P:=P) (w:=w) (i:=l) (y:=u.toNat) h0 (by omega)]) (by omega) (by omega) (by omega) (Nat.le_refl _);simp_all
    ·rename_i u m e1 z U;obtain rfl:=vY q e1;obtain⟨k,rfl⟩:=aDu g z;obtain⟨k',rfl⟩:=aDu J U;rw[f] at hc;obtain⟨h0,Y,rfl⟩:=hc;obtain⟨O,Y,Z⟩:=aHV (w:=w) hd L hs (lo:=none) (hi:=some (.int k m)) (mx:=some (.int k' m)) (l:=0) (u:=m.toNat) (m:=m.toNat) (by simp[Instr.sliceBounds,iX (P:=P) (w:=w) (i:=m) (y:=I) (by omega) (by omega),iX (P:=P) (w:=w) (i:=m) (y:=m.toNat) h0 (by omega)]) (by omega) (by omega) (by omega) (by omega);grind
    ·rename_i l u m e1 z U;obtain⟨k,rfl⟩:=aDu q e1;obtain⟨k',rfl⟩:=aDu g z;obtain⟨k'',rfl⟩:=aDu J U;rw[f] at hc;obtain⟨h0,Y,Z,rfl⟩:=hc;obtain⟨O,Y,Z⟩:=aHV (w:=w) hd L hs (lo:=some (.int k l)) (hi:=some (.int k' m)) (mx:=some (.int k'' m)) (l:=l.toNat) (u:=m.toNat) (m:=m.toNat) (by simp[Instr.sliceBounds,iX (P:=P) (w:=w) (i:=m) (y:=I) (by omega) (by omega),iX (P:=P) (w:=w) (i:=m) (y:=m.toNat) (by omega) (by omega),iX (P:=P) (w:=w) (i:=l) (y:=m.toNat) h0 (by omega)]) (by omega) (by omega) (by omega) (by omega);grind
    simp_all
  | _=>simp_all
end
end Go.Vc
namespace Go.Vc
open Go.RowKit
section
variable {P:Program} {T:Tab} {M:Perm} {w0:World} {c:Ctx} {h:List Obj} {w:World}
theorem aIP{w w':World}{B:Nat}{e:TypeId}{sz:Nat}{v:Value}{n:Nat}{f:List Value}(hb:∀b,aU v=some b→w'.heap[b]? = w.heap[b]?)(h:w.ownsRow B e sz v n f):w'.ownsRow B e sz v n f:=by
 obtain⟨L,J⟩:=h;refine⟨L,J.imp id ?_⟩;rintro⟨g,z,q,rfl,I,N,r⟩;exact⟨g,z,q,rfl,I,by rw[hb g rfl]; exact N,r⟩
theorem mD.keep{w w':World}{S S':Nat→Prop}(hs:∀b,S b→S' b)(h:aCk S w w'):∀(t:Ty) (m:Mk) (x:t.den) (cs:List Value) (B:List Nat),(∀b∈B,w'.heap[b]? = w.heap[b]?)→mD w S t m x cs B→mD w' S' t m x cs B:=by
 intro t;have g:∀(t:Ty) (x:t.den) (cs:List Value) (B:List Nat),bB w S t x cs∧B= []→bB w' S' t x cs∧B= []:=fun t x cs B ⟨z,I⟩=>⟨bB.keep hs h t x cs z,I⟩
 induction t with
 | sl t ih =>
  intro m xs cs B q f;cases m with
  | no=>exact g _ _ _ _ f
  | sl e m =>
   obtain⟨v,L,Bs,z,I,N,J,h5,Y⟩:=f;subst h5;refine⟨v,L,Bs,z,aIP (fun b hb=>q b (by simp[hdB,hb])) I,N,J,rfl,fun i q1 q2 q3=>ih m _ _ _ (fun b hb=>q b ?_) (Y i q1 q2 q3)⟩;grind[List.mem_append_right,List.mem_flatten,List.getElem_mem]
  | pair a b=>exact f.elim
 | pair a r U O =>
  intro m x cs B q f;cases m with
  | no=>exact g _ _ _ _ f
  | sl e m=>exact f.elim
  | pair ma mr =>
   obtain⟨c1,c2,B1,Z,z,I,N,J⟩:=f;subst I;exact⟨c1,c2,B1,Z,z,rfl,U _ _ _ _ (fun b hb=>q b (List.mem_append_left _ hb)) N,O _ _ _ _ (fun b hb=>q b (List.mem_append_right _ hb)) J⟩
 | _ =>
  intro m x cs B q f;cases m<;>first|exact g _ _ _ _ f|exact f.elim
theorem bDD.keep{c c':Ctx}{w w':World}{i:Nat}{e:TypeId}{m:Mk}{t:Ty}{xs:List t.den}{k:Nat}{v:AV}{css:List (List Value)}{N:List (List Nat)}(z:eK c w c' w')(g:c'.hd i=c.hd i)(L:c'.bl i=c.bl i)(hb:∀b,c.bl i b→w'.heap[b]? = w.heap[b]?)(f:bDD c w i e m t xs k v css N):bDD c' w' i e m t xs k v css N:=by
 refine⟨?_,f.lc,f.lb,f.kl,fun j h I O J=>mD.keep z.le.S z.same _ _ _ _ _ (fun b q=>hb b (f.bl b ?_)) (f.el j h I O J),f.hb,fun I=>⟨aM.keep z.le z.same _ _ (f.hv I).1,(f.hv I).2⟩,by rw[g]; exact f.nd,by rw[g,L]; exact f.bl⟩
 ·rw[g]; exact aIP (fun b q=>hb b (f.bl b (by simp[hdB,q]))) f.row
 grind[List.mem_append_right,List.mem_flatten,List.getElem_mem]
theorem aII.keep{c c':Ctx}{w w':World}{i:Nat}{o:Obj}(f:eK c w c' w')(hi:i<c.n)(hbl:c'.bl i=c.bl i)(hb:∀b,fI c i o b→w'.heap[b]? = w.heap[b]?)(q:aII c w i o):aII c' w' i o:=by
 have g:=f.le.hd i hi;cases o with
 | dead=>trivial
 | box n v =>
  obtain⟨b,cells,e,O,N,I,U⟩:=q;exact⟨b,cells,e,by simp_all,by grind[fI,aU],I,aM.keep f.le f.same _ _ U⟩
 | row e t Y =>
  obtain⟨J,O,N⟩:=q;refine⟨J,?_,bB.keep f.le.S f.same _ _ _ N⟩;rw[g];exact aIP (fun b z=>hb b z) O
 | frz t Y=>simp only[aII] at *; rw[g]; exact bB.keep f.le.S f.same _ _ _ q
 | map k v m =>
  obtain⟨b,es,clock,O,N,I,U⟩:=q;exact⟨b,es,clock,by simp_all,by grind[fI,aU],I,fun j hj L=>⟨(U j hj L).1.keep f.le.S f.same,(U j hj L).2.keep f.le.S f.same⟩⟩
 | tre e m t Y =>
  obtain⟨B,O,N,I⟩:=q;exact⟨B,by rw[g]; exact mD.keep f.le.S f.same _ _ _ _ _ (fun b z=>hb b (I b z)) O,N,by simp_all⟩
 | trh e m t Y k v =>
  obtain⟨Z,Bs,q⟩:=q;exact⟨Z,Bs,q.keep f g hbl hb⟩
theorem iF{c c':Ctx}(g:c.le c'){i:Nat}(f:c'.bl i=c.bl i)(hi:i<c.n)(o:Obj):fI c' i o=fI c i o:=by
 funext b;cases o<;>simp[fI,g.hd i hi,f]
theorem yP{h:List Obj}{i:Nat}{o:Obj}(f:h[i]? = some o):i<h.length:=by
 grind
theorem Good.step(q:Good M w0 c h w){c':Ctx}{w':World}(J:eK c w c' w')(Z:c'.n=c.n)(z:c'.bl=c.bl)(hk:jB M.wr w w')(hb:∀i o b,h[i]? = some o→fI c i o b→w'.heap[b]? = w.heap[b]?)
  (hs:∀b,c'.S b→b<w'.heap.size) (hd:∀b,c'.S b→c.S b∨w.heap.size≤b):Good M w0 c' h w':=by
 have f:∀i o,h[i]? = some o→i<c.n:=fun i o I=>by rw[q.n]; grind
 refine⟨by rw[Z,q.n],q.keeps.trans hk,hs,fun b hb f=>(hd b hb).elim (fun hb=>q.src b hb f) (fun hb=>absurd hb (Nat.not_le_of_lt (Nat.lt_of_lt_of_le f q.keeps.size))),fun i o I=>(q.objs i o I).keep J (f i o I) (congrFun z i) (fun b g=>hb i o b I g),fun i o b I g=>?_,fun i j U Y b hi O L N=>?_,aCm q.root J.le⟩
 ·rw[iF J.le (congrFun z _) (f i o I)] at g;obtain⟨h1,h2,h3⟩:=q.own i o b I g;grind
 ·rw[iF J.le (congrFun z _) (f i U hi)] at L;rw[iF J.le (congrFun z _) (f j Y O)] at N;exact q.sep i j U Y b hi O L N
def Ctx.upto(c:Ctx)(lo hi:Nat):Ctx:=⟨fun b=>c.S b∨(lo≤b∧b<hi),c.hd,c.n,c.bl⟩
theorem Ctx.le_upto(c:Ctx)(lo hi:Nat):c.le (c.upto lo hi):=⟨fun b hb=>.inl hb,Nat.le_refl _,fun _ _=>rfl⟩
theorem zL(q:Good M w0 c h w){w':World}(g:jB nothing w w'):eK c w (c.upto w.heap.size w'.heap.size) w' :=
 ⟨c.le_upto _ _,fun b hb=>g.block b (q.sfin b hb) (fun f=>f)⟩
theorem jB.any{w w':World}(g:jB nothing w w'):jB M.wr w w':=⟨g.os,g.tape,g.output,g.size,fun b hb _=>g.block b hb (fun f=>f)⟩
theorem Good.call(q:Good M w0 c h w){w':World}(g:jB nothing w w'):Good M w0 (c.upto w.heap.size w'.heap.size) h w' :=
 q.step (zL q g) rfl rfl g.any (fun i o b z hb=>g.block b (q.own i o b z hb).2.1 (fun f=>f)) (fun b hb=>hb.elim (fun hb=>Nat.lt_of_lt_of_le (q.sfin b hb) g.size) (fun hb=>hb.2)) (fun b hb=>hb.imp id (fun hb=>hb.1))
theorem jB.alloc(M:Nat→Prop)(w:World)(o:Go.Obj):jB M w { w with heap:=w.heap.push o } :=
 ⟨rfl,rfl,rfl,by simp,fun b hb _=>by grind⟩
structure aKP(P:Program)(M:Perm)(w0:World)(h:List Obj)(c:Ctx)(w:World)(av:AV)(v:Value)(w':World)(c':Ctx):Prop where
 later:eK c w c' w'
 n:c'.n=c.n∧c'.bl=c.bl
 good:Good M w0 c' h w'
 keeps:jB nothing w w'
 new:∀b,c'.S b→c.S b∨w.heap.size≤b
 val:aY c' w' av v
def Did(P:Program)(M:Perm)(w0:World)(h:List Obj)(c:Ctx)(o:Oper)(a:Act)(w:World)(av:AV):Prop :=
 (∃v w' c',(execOp a.eval o).run P w= .ok (.value v) w'∧aKP P M w0 h c w av v w' c') ∨
 (∃f args,(execOp a.eval o).run P w= .ok (.enter f args) w∧Calls P f args w fun e w'=>∃v c',e= .returned v∧aKP P M w0 h c w av v w' c')
theorem Did.of_value(g:Good M w0 c h w){o:Oper}{a:Act}{av:AV}{v:Value}(f:(execOp a.eval o).run P w= .ok (.value v) w)(hv:aY c w av v):Did P M w0 h c o a w av :=
 .inl ⟨v,w,c,f,.refl _ _,⟨rfl,rfl⟩,g,.refl _ _,fun b hb=>.inl hb,hv⟩
theorem bB.scalar{w w':World}{S S':Nat→Prop}:∀(t:Ty) (x:t.den) (cs:List Value),t.scalar=true→bB w S t x cs→bB w' S' t x cs
 | .bool,_,_,_,f=>f
 | .u _,_,_,_,f=>f
 | .i _,_,_,_,f=>f
 | .str,_,_,_,f=>f
 | .sl t,_,_,hs,_=>by simp[Ty.scalar] at hs
 | .unit,_,_,_,f=>f
 | .pair a b,_,_,hs,⟨c1,L,hc,z,q⟩=>by
  simp only[Ty.scalar,Bool.and_eq_true] at hs;exact⟨c1,L,hc,bB.scalar a _ _ hs.1 z,bB.scalar b _ _ hs.2 q⟩
 | .arr _ t,_,_,hs,⟨J,g,hc,I,f⟩=>⟨J,g,hc,I,fun i z q=>bB.scalar t _ _ (by simpa [Ty.scalar] using hs) (f i z q)⟩
 | .expr,_,_,hs,_=>by simp[Ty.scalar] at hs
 | .rp _,_,_,hs,_=>by simp[Ty.scalar] at hs
 | .clo _ _,_,_,hs,_=>by simp[Ty.scalar] at hs
theorem dV.scalar{w w':World}{S S':Nat→Prop}{t:Ty}{x:t.den}{v:Value}(hs:t.scalar=true)(f:dV w S t x v):dV w' S' t x v:=by
 unfold dV at *;split
 ·rename_i g; simp only[g,if_true] at f; grind[bB.scalar]
 grind[bB.scalar]
theorem sC.scalar{w w':World}{S S':Nat→Prop}:∀(t:Ty) (x:t.den) (vs:List Value),t.scalar=true→sC w S t x vs→sC w' S' t x vs
 | .unit,_,_,_,f=>f
 | .pair a r,x,vs,hs,⟨v,g,e,q,z⟩=>by
  simp only[Ty.scalar,Bool.and_eq_true] at hs;exact⟨v,g,e,q.scalar hs.1,sC.scalar r _ _ hs.2 z⟩
 | .bool,_,_,_,f=>f.elim
 | .u _,_,_,_,f=>f.elim
 | .i _,_,_,_,f=>f.elim
 | .str,_,_,_,f=>f.elim
 | .sl _,_,_,_,f=>f.elim
 | .arr _ _,_,_,_,f=>f.elim
 | .expr,_,_,_,f=>f.elim
 | .rp _,_,_,_,f=>f.elim
 | .clo _ _,_,_,_,f=>f.elim
theorem aYx(I:Good M w0 c h w):∀(t:Ty) (vs:List AV) (xs:List Value) (x:t.den),aDt h t vs=some x→xs.length=vs.length→(∀i (z:i<vs.length) (q:i<xs.length),aY c w vs[i] xs[i])→sC w (aGQ c h) t x xs:=by
 intro t
 induction t with
 | unit =>
  intro vs xs x f g hv;cases vs with
  | nil=>exact List.eq_nil_of_length_eq_zero g
  | cons v vs=>grind[aDt]
 | pair a r _ L =>
  intro vs xs x f g hv;cases vs with
  | nil=>grind[aDt]
  | cons v vs =>
   cases xs with
   | nil=>grind
   | cons u xs =>
    simp only[aDt] at f;split at f
    ·rename_i O J z q;cases f;refine⟨u,xs,rfl,aMi I (hv 0 (by simp) (by simp)) z,L vs xs J q (by simp_all) (fun i hi N=>?_)⟩;have:=hv (i+1) (by simp_all) (by simp_all);simp_all
    grind
 | _=>grind[aDt]
theorem aKQ(J:Good M w0 c h w){t:Ty}{vs:List AV}{xs:List Value}{x:t.den}(I:aDt (h.map gJ) t vs=some x)(z:xs.length=vs.length)(hv:∀i (q:i<vs.length) (g:i<xs.length),aY c w vs[i] xs[i]):sC w c.S t x xs:=by
 have:=aYx J.frz t vs xs x I z hv;have hmono:∀(t:Ty) (x:t.den) (xs:List Value),sC w (aGQ c (h.map gJ)) t x xs→sC w c.S t x xs:=by
  intro t
  induction t with
  | unit=>intro x xs h; exact h
  | pair a r _ L=>intro x xs ⟨v,f,e,q,g⟩; exact⟨v,f,e,q.keep aQw (.refl _ _),L _ _ g⟩
  | _=>intro x xs h; exact h.elim
 simp_all
theorem bAi(f:Good M w0 c h w)(b:Nat)(hb:aGQ c h b):b<w.heap.size:=by
 rcases hb with hb|⟨i,o,g,hb⟩
 ·exact f.sfin b hb
 ·exact(f.own i _ b g hb).2.1
theorem uB.mono{G:Nat→AV}{S S':Nat→Prop}{w w':World}(hs:∀b,S b→S' b)(h:aCk S w w')(f:uB G S w):uB G S' w':=fun g =>
 (f g).keep (c:=⟨S,fun _=>Go.undef,0,fun _ _=>False⟩) (c':=⟨S',fun _=>Go.undef,0,fun _ _=>False⟩) ⟨hs,Nat.le_refl _,fun _ _=>rfl⟩ h
theorem bCu{S:Nat→Prop}{w:World}{c:Ctx}(z:c.S=S):∀(t:Ty) (x:t.den) (vs:List Value),sC w S t x vs→vs.length=(aEZ t x).length∧ ∀i (h:i<(aEZ t x).length) (h':i<vs.length),zK c w (aEZ t x)[i] vs[i]
 | .unit,_,vs,f=>by simp only[sC] at f; subst f; exact⟨rfl,fun i h=>by simp_all⟩
 | .pair a r,x,vs,⟨v,g,e,L,I⟩=>by
  subst e;obtain⟨q,f⟩:=bCu z r x.2 g I;refine⟨by simp[aEZ,q],fun i hi J=>?_⟩;cases i with
  | zero=>exact aY.ofV (by simp_all)
  | succ i=>grind[aEZ]
 | .bool,_,_,f=>f.elim
 | .u _,_,_,f=>f.elim
 | .i _,_,_,f=>f.elim
 | .str,_,_,f=>f.elim
 | .sl _,_,_,f=>f.elim
 | .arr _ _,_,_,f=>f.elim
 | .expr,_,_,f=>f.elim
 | .rp _,_,_,f=>f.elim
 | .clo _ _,_,_,f=>f.elim
def FAt(G:Nat→AV)(sp:aF)(vs:Array Value)(w:World)(C:(Ending→World→Prop)→Prop):Prop :=
 ∀(S:Nat→Prop) (x:sp.args.den),(∀b,S b→b<w.heap.size)→uB G S w→sC w S sp.args x vs.toList→sp.pre x →
  C fun e w'=>∃v,e= .returned v∧jB nothing w w'∧bE2 w' S w.heap.size sp.res (sp.fn x) v
def bLa(P:Program)(f:FuncId)(vs:Array Value)(w:World)(R:Ending→World→Prop):Prop :=
 ∃v w',(callFunc f vs).run P w= .ok (.value v) w'∧R (.returned v) w'
def NOK(P:Program)(G:Nat→AV)(f:FuncId)(sp:aF):Prop :=
 (∀e t,sp.res≠ .own e t)∧ ∀(w:World) (vs:Array Value),FAt G sp vs w (bLa P f vs w)
theorem bJk{C:(Ending→World→Prop)→Prop}(hC:∀R R':Ending→World→Prop,C R→(∀e w',R e w'→R' e w')→C R'){G:Nat→AV}{Γ:FuncId→List AV→Option aF}{f:FuncId}{vs:List AV}{xs:Array Value}(Y:∀sp,Γ f vs=some sp→FAt G sp xs w C)(I:Good M w0 c h w)(hG:uB G c.S w)(hl:xs.size=vs.length)
  (hv:∀i (N:i<vs.length) (O:i<xs.size),aY c w vs[i] xs[i]) (hc:(aIM Γ h f vs).1) :
  C fun e w'=>∃v c',e= .returned v∧aKP P M w0 h c w (aIM Γ h f vs).2 v w' c':=by
 unfold aIM at hc ⊢;cases hf:Γ f vs with
 | none=>simp_all
 | some sp =>
  simp only[hf] at hc ⊢;have Z:xs.toList.length=vs.length:=by omega
  have U:∀i (N:i<vs.length) (O:i<xs.toList.length),aY c w vs[i] xs.toList[i]:=fun i N O=>by
   simp_all
  obtain⟨z,res,pre,fn⟩:=sp;have key:∀(x:z.den),aDt (if res.ty.scalar then h else h.map gJ) z vs=some x→pre x→(∀e t,res≠ .own e t)→C fun e w'=>∃v c',e= .returned v∧aKP P M w0 h c w (bF7 res (fn x)) v w' c':=by
   intro x ha hp hno;by_cases q:res.ty.scalar=true
   ·rw[if_pos q] at ha;have hargs:=aYx I _ _ _ _ ha Z U;refine hC _ _ (Y _ hf (aGQ c h) x (bAi I) (hG.mono (fun b hb=>.inl hb) (.refl _ _)) hargs hp) ?_;rintro e w' ⟨v,rfl,J,g⟩;refine⟨v,_,rfl,zL I J,⟨rfl,rfl⟩,I.call J,J,fun b hb=>hb.imp id And.left,?_⟩;cases res with
    | none=>trivial
    | one t=>exact aY.ofV (dV.scalar q g)
    | own e t=>simp_all
    | tup t =>
     obtain⟨us,rfl,L⟩:=g;have:=sC.scalar (w':=w') (S':=(c.upto w.heap.size w'.heap.size).S) t _ _ q L;obtain⟨N,O⟩:=bCu (c:=c.upto w.heap.size w'.heap.size) rfl t _ _ this;exact⟨us,rfl,N,O⟩
   ·rw[if_neg q] at ha;have hargs:=aKQ I ha Z U;refine hC _ _ (Y _ hf c.S x I.sfin hG hargs hp) ?_;rintro e w' ⟨v,rfl,J,g⟩;refine⟨v,_,rfl,zL I J,⟨rfl,rfl⟩,I.call J,J,fun b hb=>hb.imp id And.left,?_⟩;cases res with
    | none=>trivial
    | one t=>exact aY.ofV g
    | own e t=>simp_all
    | tup t =>
     obtain⟨us,rfl,L⟩:=g;obtain⟨N,O⟩:=bCu (c:=c.upto w.heap.size w'.heap.size) rfl t _ _ L;exact⟨us,rfl,N,O⟩
  grind
end
end Go.Vc
namespace Go.Vc
open Go.RowKit
section
variable {P:Program} {T:Tab} {M:Perm} {w0:World} {c:Ctx} {h:List Obj} {w:World}
theorem bAj(pre:List Value):∀(f old post:List Value) (cells:Array Value) (j:Nat),cells.toList=pre++old++post→old.length=j+f.length →
  ((f.zipIdx j).foldl (fun q (p:Value×Nat)=>q.setIfInBounds (pre.length+p.2) p.1) cells).toList=pre++(old.take j++f)++post
 | [],old,post,cells,j,hc,g=>by
  simp only[List.zipIdx_nil,List.foldl_nil,List.append_nil];rw[hc,List.take_of_length_le (by simp at g; omega)]
 | v::f,old,post,cells,j,hc,g=>by
  simp only[List.zipIdx_cons,List.foldl_cons];simp only[List.length_cons] at g;have z:(cells.setIfInBounds (pre.length+j) v).toList=pre++(old.set j v)++post:=by
   simp_all
  have:=bAj pre f (old.set j v) post _ (j+1) z (by grind);grind[List.take_succ_eq_append_getElem,List.take_set_of_le]
theorem aQx{pre old post:List Value}{cells:Array Value}(hc:cells.toList=pre++old++post){v:Value}(hv:v.cells.size=old.length) :
  (v.cells.zipIdx.foldl (fun f (p:Value×Nat)=>f.setIfInBounds (pre.length+p.2) p.1) cells).toList=pre++v.cells.toList++post:=by
 have:=bAj pre v.cells.toList old post cells 0 hc (by simp[hv]);rw[← Array.foldl_toList,Array.toList_zipIdx]
 simpa using this
theorem bGg:∀ {L:List AV} {cs:List Value} {k:Nat} {ts:List Ty},nF c w L cs→L.length=ts.length→(∀i (h:i<L.length),(L[i]).solid1=true)→(∀i (h:i<L.length) (h':i<ts.length),(L[i]).nc1=ts[i].cells)→k<L.length →
  ∃pre ds post,cs=pre++ds++post∧pre.length=((ts.take k).map Ty.cells).foldr (· + ·) 0∧ds.length=(ts.getD k .unit).cells∧ ∀(v:AV) (f:List Value),aM c w v f→nF c w (L.set k v) (pre++f++post)
 | [],_,_,_,_,_,_,_,Y=>by grind
 | v::L,cs,k,ts,I,hl,hs,J,Y=>by
  cases ts with
  | nil=>grind
  | cons t ts =>
   simp only[nF] at I;obtain⟨c1,c2,rfl,O,Z⟩:=I;have h0:=J 0 (by simp) (by simp);have U:=hs 0 (by simp);simp only[List.getElem_cons_zero] at h0 U;have z:=aNw U O;cases k with
   | zero=>exact⟨[],c1,c2,by simp,rfl,by simp_all,fun N f q=>by simp only[List.set_cons_zero,nF,List.nil_append]; grind⟩
   | succ k =>
    obtain⟨pre,ds,post,e,hp,hd,g⟩:=bGg (k:=k) (ts:=ts) Z (by simp_all) (fun i hi=>by have:=hs (i+1) (by simp_all); simp_all) (fun i hi hi'=>by have:=J (i+1) (by simp_all) (by simp_all); simp_all) (by simp_all);refine⟨c1++pre,ds,post,by rw[e]; simp,by simp[z,h0,hp],by simpa using hd,fun N f q=>?_⟩;simp only[List.set_cons_succ,nF];exact⟨c1,pre++f++post,by simp,O,g N f q⟩
theorem aD8:∀ {I:List Field} {off:Nat} {t:Ty} {k:Nat} {q:Ty},eQ T I off t=true→t.flds[k]? = some q→ ∃f,I[k]? = some f∧T f.type=some q∧f.offset=off+((t.flds.take k).map Ty.cells).foldr (· + ·) 0
 | [],off,.unit,k,q,_,z=>by grind[Ty.flds]
 | f::I,off,.pair a r,0,q,g,z=>by
  simp only[eQ,Bool.and_eq_true,decide_eq_true_eq] at g;simp[Ty.flds] at z;simp_all
 | f::I,off,.pair a r,k+1,q,g,z=>by
  simp only[eQ,Bool.and_eq_true,decide_eq_true_eq] at g;simp only[Ty.flds,List.getElem?_cons_succ] at z;obtain⟨O,N,L,J⟩:=aD8 g.2 z;grind[Ty.flds]
 | [],_,.pair _ _,_,_,g,_=>by grind[eQ]
 | _::_,_,.unit,_,_,g,_=>by grind[eQ]
theorem aOF:∀ {q:List Field} {off:Nat} {t:Ty},eQ T q off t=true→q.length=t.flds.length
 | [],_,.unit,_=>rfl
 | f::q,off,.pair a r,g=>by
  simp only[eQ,Bool.and_eq_true] at g;simp[Ty.flds,aOF g.2]
 | [],_,.pair _ _,g=>by grind[eQ]
 | _::_,_,.unit,g=>by grind[eQ]
theorem aXB:∀(t:Ty),t.okB=true→ ∀q off,eQ T q off t=true→nF c w (aBD t) (dI t)∧(aBD t).length=t.flds.length∧(∀i (h:i<(aBD t).length),((aBD t)[i]).solid1=true)∧(∀i (h:i<(aBD t).length) (h':i<t.flds.length),((aBD t)[i]).nc1=(t.flds[i]).cells)
 | .unit,_,_,_,_=>⟨rfl,rfl,fun i h=>by simp[aBD] at h,fun i h=>by simp[aBD] at h⟩
 | .pair a r,z,f::q,off,g=>by
  simp only[Ty.okB,Bool.and_eq_true] at z;simp only[eQ,Bool.and_eq_true] at g;obtain⟨J,I,N,O⟩:=aXB r z.2 q _ g.2;refine⟨⟨dI a,dI r,rfl,iA w c.S a z.1,J⟩,by simp[aBD,Ty.flds,I],fun i hi=>?_,fun i hi L=>?_⟩
  ·cases i with
   | zero=>rfl
   | succ i=>grind[aBD]
  ·cases i with
   | zero=>rfl
   | succ i=>grind[aBD,Ty.flds]
 | .pair _ _,_,[],_,g=>by grind[eQ]
 | .bool,_,q,_,g=>by grind[eQ]
 | .u _,_,q,_,g=>by grind[eQ]
 | .i _,_,q,_,g=>by grind[eQ]
 | .str,_,q,_,g=>by grind[eQ]
 | .sl _,_,q,_,g=>by grind[eQ]
 | .arr _ _,_,q,_,g=>by grind[eQ]
 | .expr,_,q,_,g=>by grind[eQ]
 | .rp _,_,q,_,g=>by grind[eQ]
 | .clo _ _,_,q,_,g=>by grind[eQ]
 | .nilp,_,q,_,g=>by grind[eQ]
 | .nilf,_,q,_,g=>by grind[eQ]
inductive aEN(c:Ctx)(w:World):List (Nat×AV)→List (Nat×Value)→Prop where
 | nil:aEN c w [] []
 | cons {k:Nat} {a:AV} {v:Value} {ps:List (Nat×AV)} {vs:List (Nat×Value)} (h:aY c w a v) (r:aEN c w ps vs):aEN c w ((k,a)::ps) ((k,v)::vs)
theorem aOG{place:Nat→Option (Nat×Nat)}{ts:List Ty}(hp:∀k t,ts[k]? = some t→place k=some (((ts.take k).map Ty.cells).foldr (· + ·) 0,t.cells)):∀(ps:List (Nat×AV)) (vs:List (Nat×Value)) (L:List AV) (cells:Array Value),
  aEN c w ps vs→aMc ts ps→nF c w L cells.toList→L.length=ts.length→(∀i (h:i<L.length),(L[i]).solid1=true)→(∀i (h:i<L.length) (h':i<ts.length),(L[i]).nc1=ts[i].cells) →
  ∃cells',Instr.fill place cells vs=some cells'∧nF c w (bE3 L ps) cells'.toList
 | _,_,L,cells,.nil,_,J,_,_,_=>⟨cells,rfl,J⟩
 | _,_,L,cells,.cons (k:=k) (a:=a) (v:=v) (ps:=ps) (vs:=vs) hv r,f,J,hl,hs,Y=>by
  obtain⟨⟨O,t,N,hnc⟩,f⟩:=f;have hkt:k<ts.length:=get_lt' N;obtain⟨pre,ds,post,e,hpl,z,g⟩:=bGg (k:=k) J hl hs Y (by omega);have I:ts.getD k .unit=t:=by simp_all
  rw[I] at z;have q:zK c w a v:=by cases a<;>first|exact hv|grind[AV.solid1]
  have hvc:=aNw O q.1;have Z:v.cells.size=t.cells:=by simp_all
  have hstep:=aQx (v:=v) e (by omega);have U:cells.size=(pre++ds++post).length:=by grind
  obtain⟨cells',h1,h2⟩:=aOG hp ps vs (L.set k a) _ r f (by rw[hstep]; exact g a _ q.1) (by simp_all) (fun i hi=>by
    grind) (fun i hi hi'=>by
    grind)
  refine⟨cells',?_,h2⟩;simp_all[Instr.fill,Ty.cells,if_neg]
where
 get_lt' {α:Type} {l:List α} {k:Nat} {x:α} (h:l[k]? = some x):k<l.length:=by
  grind
theorem aOH{t:Ty}{L:List AV}{cells:Array Value}(q:nF c w L cells.toList):aY c w (aKN t L) (.agg cells):=by
 unfold aKN;have hL:aY c w (.agg L) (.agg cells):=⟨by grind[aM,Value.cells],fun _=>⟨_,rfl⟩,fun h=>by cases h⟩;split
 ·rename_i x f;have U:∀(t:Ty) (v:AV) (x:t.den) (cs:List Value),AV.as [] t v=some x→aM c w v cs→bB w c.S t x cs∧t.isAgg=v.isAgg:=by
   intro t v x cs f q;exact as_nil t v x cs f q
  obtain⟨N,I⟩:=U _ _ _ _ f hL.1;exact aY.ofV (dV.of_cells (fun _=>⟨_,rfl⟩) (fun h=>by rw[I] at h; cases h) N)
 omega
where
 as_nil (t:Ty) (v:AV) (x:t.den) (cs:List Value) (f:AV.as [] t v=some x) (q:aM c w v cs):bB w c.S t x cs∧t.isAgg=v.isAgg:=by
  have hval:∀(t z:Ty) (y:z.den) (x:t.den) (cs:List Value),AV.as [] t (.val z y)=some x→aM c w (.val z y) cs→bB w c.S t x cs∧t.isAgg=AV.isAgg (.val z y):=by
   intro t z y x cs f q;have:∃e:z=t,x=e▸y:=by
    have I:(if e:z=t then some (e▸y) else none)=some x:=(by grind[AV.as]);grind
   obtain⟨rfl,rfl⟩:=this;exact⟨q,rfl⟩
  have hflat:∀(t:Ty) (l:List AV) (x:t.den) (cs:List Value),aIL t l=some x→nF c w l cs→bB w c.S t x cs:=by
   intro t l x cs f q;unfold aIL at f;split at f
   ·rename_i y hp;cases f;obtain⟨c1,Y,e,r1,r2⟩:=bAa t l _ _ cs hp q;simp only[nF] at r2;subst r2;rw[e,List.append_nil]; exact r1
   ·cases f
  induction t generalizing v cs with
  | pair a b iha O =>
   cases v with
   | val z y=>grind
   | agg J =>
    cases J with
    | nil=>grind[AV.as]
    | cons v J =>
     simp only[aYs] at f;split at f
     ·rename_i xa xb N I;cases f;simp only[aM,nF] at q;obtain⟨c1,Y,e,r1,r2⟩:=q;exact⟨⟨c1,Y,e,(iha v xa c1 N r1).1,(O (.agg J) xb Y I (by grind[aM])).1⟩,rfl⟩
     grind
   | flat l=>simp only[aYt] at f; exact⟨hflat _ _ _ _ f (by grind[aM]),rfl⟩
   | _=>grind[AV.as]
  | sl t Z =>
   cases v with
   | val z y=>grind
   | nilS=>simp at f; subst f; simp only[aM] at q; exact⟨⟨none,0,0,q,rfl,Nat.le_refl _,Nat.zero_le _,.inl rfl⟩,rfl⟩
   | full z xs =>
    have I:(if e:z=t then some (e▸xs) else none)=some x:=(by grind[AV.as]);split at I
    ·rename_i e;subst e;cases I;simp only[aM] at q;obtain⟨p,n,e,hsl⟩:=q;exact⟨⟨p,n,n,e,hsl⟩,rfl⟩
    grind
   | own i=>simp[rowOf] at f
   | _=>grind[AV.as]
  | unit =>
   cases v with
   | val z y=>grind
   | agg J=>cases J with
    | nil=>simp only[aM,nF] at q; exact⟨q,rfl⟩
    | cons v J=>grind[AV.as]
   | flat l=>simp only[aUl] at f; exact⟨hflat _ _ _ _ f (by grind[aM]),rfl⟩
   | _=>grind[AV.as]
  | rp t Z =>
   cases v with
   | val z y=>grind
   | roa z y =>
    have I:(if e:z=t then some (e▸y) else none)=some x:=(by grind[AV.as]);split at I
    ·rename_i e;subst e;cases I;simp only[aM] at q;exact⟨q,rfl⟩
    grind
   | ptr i p =>
    cases p with
    | nil=>simp at f
    | cons s p=>grind[AV.as]
   | _=>grind[AV.as]
  | clo g t Z =>
   cases v with
   | val z y=>grind
   | fn g' l1 l2 =>
    cases l1 with
    | nil =>
     have I:g'=g∧AV.as [] t (.agg (l2.map fun i=>.ptr i []))=some x:=(by grind[AV.as]);obtain⟨rfl,f⟩:=I;simp only[aM] at q;obtain⟨_,I,e⟩:=q;cases l2 with
     | nil =>
      have:=Z (.agg []) x [] f rfl;exact⟨⟨[],by simp_all,this.1⟩,rfl⟩
     | cons i l2 =>
      exfalso;have hp:∀a:Ty,AV.as [] a (.ptr i [])=none:=fun a=>(by cases a<;>simp[AV.as]);cases t<;>first|grind[AV.as]|(simp[hp] at f; done)|(match l2,f with
       | [],f=>simp[AV.as] at f
       | [_],f=>simp[AV.as] at f
       | [_,_],f=>simp[AV.as,asX,bF4] at f
       | _::_::_::_,f=>simp[AV.as] at f)
    | cons i l1=>grind[AV.as]
   | _=>grind[AV.as]
  | expr =>
   cases v with
   | val z y=>grind
   | agg J =>
    match J,f,q with
    | [a,b,v],f,q =>
     simp only[aYu] at f;exact⟨bDL (fun _ h=>h) (fun i xs cs N _=>by grind[rowOf]) f (by grind[aM]),rfl⟩
    | [],f,_=>grind[AV.as]
    | [_],f,_=>grind[AV.as]
    | [_,_],f,_=>grind[AV.as]
    | _::_::_::_::_,f,_=>grind[AV.as]
   | _=>grind[AV.as]
  | _ =>
   cases v with
   | val z y=>grind
   | _=>grind[AV.as]
theorem aXC{av:AV}{v:Value}{t:Ty}{x:t.den}(hv:aY c w av v)(f:AV.as [] t av=some x):dV w c.S t x v:=by
 obtain⟨z,q,g⟩:=bAh hv f;grind[aOH.as_nil,dV.of_cells]
theorem aUt{g:Ty}{n:Nat}{place:Nat→Option (Nat×Nat)}(hp:∀k,place k=some (k*g.cells,g.cells)):∀(ps:List (Nat×AV)) (vs:List (Nat×Value)) (xs:List g.den) (cells:Array Value) (ys:List g.den),
  aEN c w ps vs→aYv g xs ps=some ys→bB w c.S (.arr n g) xs cells.toList→ ∃cells',Instr.fill place cells vs=some cells'∧bB w c.S (.arr n g) ys cells'.toList
 | _,_,xs,cells,ys,.nil,I,L=>by simp[aYv] at I; subst I; exact⟨cells,rfl,L⟩
 | _,_,xs,cells,ys,.cons (k:=k) (a:=a) (v:=v) (ps:=ps) (vs:=vs) hv r,I,L=>by
  simp only[aYv] at I;split at I
  ·rename_i x hx;split at I
   ·rename_i hk;obtain⟨hn,f,e,hl,q⟩:=L;obtain⟨pre,post,N,hpl⟩:=oT (t:=g) (css:=f) (fun j Z=>bB.length _ _ _ (q j (by omega) Z)) k (by omega);have O:=(aXC hv hx).cells;have hvl:=bB.length _ _ _ O;have hcl:=bB.length _ _ _ (q k hk (by omega));have hsz:v.cells.size=g.cells:=(by omega);have hstep:=aQx (v:=v) (e.trans N) (by omega);have J:bB w c.S (.arr n g) (xs.set k x) (pre++v.cells.toList++post):=by
     refine⟨by simp_all,f.set k v.cells.toList,?_,by simp_all,fun i h1 Y=>?_⟩
     ·have hsp:f=f.take k++ [f[k]]++f.drop (k+1):=(by simp);have z:pre=(f.take k).flatten∧post=(f.drop (k+1)).flatten:=by
       have U:((f.take k).flatten).length=k*g.cells:=by
        rw[nI (n:=g.cells) (fun i hi=>?_)]
        ·rw[List.length_take,Nat.min_eq_left (by omega)]
        ·simp at hi; simp only[List.getElem_take]; exact bB.length _ _ _ (q i (by omega) (by omega))
       have h3:f.flatten=(f.take k).flatten++f[k]++(f.drop (k+1)).flatten:=by
        grind
       rw[h3,List.append_assoc,List.append_assoc] at N;obtain⟨q1,q2⟩:=List.append_inj N (by omega);obtain⟨q3,q4⟩:=List.append_inj q2 rfl;grind
      rw[z.1,z.2,List.set_eq_take_append_cons_drop,if_pos (by omega)];simp
     grind
    obtain⟨cells',h1,Y⟩:=aUt hp ps vs (xs.set k x) _ ys r I (by rw[hstep]; exact J);refine⟨cells',?_,Y⟩;rw[Instr.fill,hp k];have hcs:cells.size=(pre++f[k]++post).length:=(by grind);simp_all
   grind
  grind
end
end Go.Vc
namespace Go.Vc
open Go.RowKit
section
variable {P:Program} {T:Tab} {M:Perm} {w0:World} {c:Ctx} {h:List Obj} {w:World}
theorem bE7:∀(t:Ty),t.okB=true→ ∀z off,eQ T z off t=true→nF c w (nB t) (dI t)∧(nB t).length=t.flds.length∧(∀i (h:i<(nB t).length),((nB t)[i]).solid1=true)∧(∀i (h:i<(nB t).length) (h':i<t.flds.length),((nB t)[i]).nc1=(t.flds[i]).cells):=by
 intro t
 induction t with
 | unit=>intro _ _ _ _; exact⟨rfl,rfl,fun i h=>by simp[nB] at h,fun i h=>by simp[nB] at h⟩
 | pair a r _ O =>
  intro q z off I;cases z with
  | nil=>grind[eQ]
  | cons f z =>
   simp only[Ty.okB,Bool.and_eq_true] at q;simp only[eQ,Bool.and_eq_true] at I;obtain⟨L,J,Y,h4⟩:=O q.2 z _ I.2;have g:∀u:AV,nB (.pair a r)=u::nB r→u.solid1=true→u.nc1=a.cells→aM c w u (dI a)→nF c w (nB (.pair a r)) (dI (.pair a r))∧(nB (.pair a r)).length=(Ty.pair a r).flds.length∧(∀i (h:i<(nB (.pair a r)).length),((nB (.pair a r))[i]).solid1=true)∧(∀i (h:i<(nB (.pair a r)).length) (h':i<(Ty.pair a r).flds.length),((nB (.pair a r))[i]).nc1=((Ty.pair a r).flds[i]).cells):=fun u e q1 Z N=>by
    rw[e];refine⟨⟨dI a,dI r,rfl,N,L⟩,by simp[Ty.flds,J],fun i hi=>?_,fun i hi U=>?_⟩
    all_goals grind[Ty.flds]
   cases a with
   | sl a=>exact g .nilS rfl rfl rfl rfl
   | _=>exact g (.val _ (Ty.zero _)) rfl rfl rfl (iA w c.S _ q.1)
 | _=>grind[eQ]
theorem bE8(hT:mJ P T){t:TypeId}{ps:List (Nat×AV)}{vs:List (Nat×Value)}(hp:aEN c w ps vs)(hc:(aQu T t ps).1) :
  ∃u,(Instr.build t vs.toArray).run P w= .ok u w∧aY c w (aQu T t ps).2 u:=by
 unfold aQu at hc ⊢;cases ht:T t with
 | none=>simp_all
 | some ct =>
  have q:=hT _ _ ht;obtain⟨d,hd,hb⟩:=q.desc;cases ct with
  | pair a r =>
   simp only[ht] at hc ⊢;obtain⟨z,hpo⟩:=hc;have hz:=vV q z w;cases d<;>simp only[jX,Bool.false_eq_true] at hb
   rename_i O;obtain⟨h1,h2,h3,h4⟩:=bE7 (c:=c) (w:=w) (T:=T) (.pair a r) z O.toList 0 hb;have hzc:(oS (.pair a r)).cells.toList=dI (.pair a r):=(by rfl);have hplaces:∃places:Array (Nat×Nat),(O.mapM (fun f=>do pure (f.offset,← sizeOf f.type)):Sem _).run P w= .ok places w∧ ∀k t,(Ty.pair a r).flds[k]? = some t→places[k]? = some ((((Ty.pair a r).flds.take k).map Ty.cells).foldr (· + ·) 0,t.cells):=by
    have g:=aOF hb;refine⟨(O.toList.zipWith (fun f t=>(f.offset,t.cells)) (Ty.pair a r).flds).toArray,?_,fun k t hk=>?_⟩
    ·have U:∀(l:List Field) (ts:List Ty) (I:Array (Nat×Nat)),l.length=ts.length→(∀i (h:i<l.length) (h':i<ts.length),T (l[i]).type=some ts[i]) →
       ((l.mapM (fun f=>do pure (f.offset,← sizeOf f.type)):Sem (List (Nat×Nat)))).run P w= .ok (l.zipWith (fun f t=>(f.offset,t.cells)) ts) w:=by
      intro l
      induction l with
      | nil=>simp_all
      | cons f l ih =>
       intro ts I hl J;cases ts with
       | nil=>grind
       | cons t ts =>
        have L:=J 0 (by simp) (by simp);simp only[List.getElem_cons_zero] at L;have hsz:=gI (hT _ _ L) w;have:=ih ts I (by simp_all) (fun i hi N=>by have:=J (i+1) (by simp_all) (by simp_all); simp_all);simp_all
     rw[Array.mapM_eq_mapM_toList];have:=U O.toList (Ty.pair a r).flds #[] g (fun i hi N=>by
      obtain⟨f,q1,q2,q3⟩:=aD8 (k:=i) hb (List.getElem?_eq_getElem N);simp_all)
     simp_all
    ·obtain⟨f,q1,q2,q3⟩:=aD8 hb hk;simp only[List.getElem?_toArray,List.getElem?_zipWith,hk,q1];simp[q3]
   obtain⟨places,Y,Z⟩:=hplaces;obtain⟨cells',hf,hr⟩:=aOG (c:=c) (w:=w) (place:=(places[·]?)) Z ps vs (nB (.pair a r)) (oS (.pair a r)).cells hp hpo (by simp_all) h2 h3 h4;refine⟨.agg cells',?_,hr,fun _=>⟨_,rfl⟩,fun h=>by cases h⟩;simp only[Instr.build,Sem.run_bind,hz,Result.andThen_ok,bE hd,Y,hf,Sem.run_pure]
  | _=>simp_all
theorem bGh(N:mJ P T){t:TypeId}{ps:List (Nat×AV)}{vs:List (Nat×Value)}(hp:aEN c w ps vs)(hc:(aMd T t ps).1) :
  ∃u,(Instr.build t vs.toArray).run P w= .ok u w∧aY c w (aMd T t ps).2 u:=by
 unfold aMd at hc ⊢;cases ht:T t with
 | none=>simp_all
 | some q =>
  have g:=N _ _ ht;obtain⟨d,hd,hb⟩:=g.desc;cases q with
  | pair a r =>
   simp only[ht] at hc ⊢;obtain⟨Z,hpo⟩:=hc;have L:=vV g Z w;cases d<;>simp only[jX,Bool.false_eq_true] at hb
   rename_i z;obtain⟨h1,h2,h3,h4⟩:=aXB (c:=c) (w:=w) (T:=T) (.pair a r) Z z.toList 0 hb;have U:(oS (.pair a r)).cells.toList=dI (.pair a r):=(by rfl);have hplaces:∃places:Array (Nat×Nat),(z.mapM (fun f=>do pure (f.offset,← sizeOf f.type)):Sem _).run P w= .ok places w∧ ∀k t,(Ty.pair a r).flds[k]? = some t→places[k]? = some ((((Ty.pair a r).flds.take k).map Ty.cells).foldr (· + ·) 0,t.cells):=by
    have Y:=aOF hb;refine⟨(z.toList.zipWith (fun f t=>(f.offset,t.cells)) (Ty.pair a r).flds).toArray,?_,fun k t J=>?_⟩
    ·have key:∀(l:List Field) (ts:List Ty) (acc:Array (Nat×Nat)),l.length=ts.length→(∀i (h:i<l.length) (h':i<ts.length),T (l[i]).type=some ts[i]) →
       ((l.mapM (fun f=>do pure (f.offset,← sizeOf f.type)):Sem (List (Nat×Nat)))).run P w= .ok (l.zipWith (fun f t=>(f.offset,t.cells)) ts) w:=by
      intro l
      induction l with
      | nil=>simp_all
      | cons f l ih =>
       intro ts acc hl hty;cases ts with
       | nil=>grind
       | cons t ts =>
        have ht0:=hty 0 (by simp) (by simp);simp only[List.getElem_cons_zero] at ht0;have hsz:=gI (N _ _ ht0) w;have:=ih ts acc (by simp_all) (fun i hi hi'=>by have:=hty (i+1) (by simp_all) (by simp_all); simp_all);simp_all
     rw[Array.mapM_eq_mapM_toList];have:=key z.toList (Ty.pair a r).flds #[] Y (fun i hi hi'=>by
      obtain⟨f,q1,q2,q3⟩:=aD8 (k:=i) hb (List.getElem?_eq_getElem hi');simp_all)
     simp_all
    ·obtain⟨f,q1,q2,q3⟩:=aD8 hb J;simp only[List.getElem?_toArray,List.getElem?_zipWith,J,q1];simp[q3]
   obtain⟨places,I,hpp⟩:=hplaces;obtain⟨cells',hf,hr⟩:=aOG (c:=c) (w:=w) (place:=(places[·]?)) hpp ps vs (aBD (.pair a r)) (oS (.pair a r)).cells hp hpo (by simp_all) h2 h3 h4;refine⟨.agg cells',?_,aOH hr⟩;simp only[Instr.build,Sem.run_bind,L,Result.andThen_ok,bE hd,I,hf,Sem.run_pure]
  | unit =>
   simp only[ht] at hc ⊢;subst hc;cases hp;have L:=vV g rfl w;cases d<;>simp only[jX,Bool.false_eq_true] at hb
   rename_i z;have O:z= #[]:=by
    have:=aOF hb;grind[Ty.flds]
   subst O;refine⟨.agg #[],?_,⟨rfl,fun _=>⟨_,rfl⟩,fun h=>by cases h⟩⟩;simp[Instr.build,L,bE hd,Result.andThen,Instr.fill,oS,Ty.isAgg,dI,Value.cells]
  | expr =>
   simp only[ht] at hc ⊢;have L:=vV g rfl w;cases d<;>simp only[jX,Bool.false_eq_true] at hb
   rename_i z;unfold bDI at hb;split at hb
   ·rename_i f0 f1 f2 O;simp only[Bool.and_eq_true,decide_eq_true_eq] at hb;obtain⟨⟨⟨⟨⟨b1,b2⟩,b3⟩,b4⟩,b5⟩,b6⟩:=hb;have efs:z= #[f0,f1,f2]:=(by grind);have s0:=gI (N _ _ b1) w;have s1:=gI (N _ _ b3) w;have s2:=gI (N _ _ b5) w;have I:(z.mapM (fun f=>do pure (f.offset,← sizeOf f.type)):Sem _).run P w= .ok #[(0,1),(1,1),(2,1)] w:=by
     rw[efs,Array.mapM_eq_mapM_toList];show (([f0,f1,f2].mapM (fun f=>do pure (f.offset,← sizeOf f.type)):Sem (List (Nat×Nat))) >>= fun l=>pure l.toArray).run P w=_;simp only[List.mapM_cons,List.mapM_nil,Sem.run_bind,s0,s1,s2,Result.andThen_ok,Sem.run_pure,b2,b4,b6];rfl
    have U:(oS .expr).cells.toList= [.int .i64 0,.string ⟨#[]⟩,.slice none 0 0]:=rfl;obtain⟨cells',hf,hr⟩:=aOG (c:=c) (w:=w) (place:=((#[(0,1),(1,1),(2,1)]:Array (Nat×Nat))[·]?)) (ts:=[.i .i64,.str,.sl .expr]) (fun k t J=>by
     match k,J with
     | 0,J=>simp_all
     | 1,J=>simp_all
     | 2,J=>simp_all) ps vs [.val (.i .i64) 0,.val .str [],.nilS] (oS .expr).cells hp hc (by
      rw[U];exact⟨[_],[_,_],rfl,⟨rfl,rfl,by decide,by decide⟩,[_],[_],rfl,⟨⟨#[]⟩,rfl,rfl,Nat.zero_le _⟩,[_],[],rfl,rfl,rfl⟩) rfl (fun i hi=>by
      match i,hi with
      | 0,_=>rfl
      | 1,_=>rfl
      | 2,_=>rfl) (fun i hi _=>by
      match i,hi with
      | 0,_=>rfl
      | 1,_=>rfl
      | 2,_=>rfl)
    refine⟨.agg cells',?_,aOH hr⟩;simp only[Instr.build,Sem.run_bind,L,Result.andThen_ok,bE hd,I,hf,Sem.run_pure]
   grind
  | arr n q =>
   simp only[ht] at hc ⊢;cases hs:aYv q (List.replicate n q.zero) ps with
   | none=>simp_all
   | some ys =>
    simp only[hs] at hc ⊢;obtain⟨e,hd',he,hpos,_⟩:=aFG g;have L:=vV g hc w;obtain⟨cells',hf,hr⟩:=aUt (c:=c) (w:=w) (n:=n) (place:=fun i=>some (i*q.cells,q.cells)) (fun _=>rfl) ps vs (List.replicate n q.zero) (oS (.arr n q)).cells ys hp hs (by
     have:=iA w c.S (.arr n q) hc;have e1:(oS (.arr n q)).cells.toList=dI (.arr n q):=(by rfl);rw[e1]; exact this)
    refine⟨.agg cells',?_,⟨hr,fun _=>⟨_,rfl⟩,fun h=>by cases h⟩⟩;simp[Instr.build,L,bE hd',gI (N _ _ he),Result.andThen,hf]
  | _=>simp_all
theorem aBp(f:List Value)(n:Nat)(q:0<f.length):((Array.range (n*f.length)).map (fun i=>(f.toArray)[i%f.toArray.size]!)).toList=(List.replicate n f).flatten:=by
 simp only[Array.toList_map,Array.toList_range,List.size_toArray]
 induction n with
 | zero=>simp
 | succ n g =>
  rw[Nat.add_mul,Nat.one_mul,List.range_add,List.map_append,g,List.replicate_succ'];simp only[List.flatten_append,List.flatten_cons,List.flatten_nil,List.append_nil]
  congr 1
  apply List.ext_getElem
  all_goals simp_all[List.length_map,List.length_range,Nat.mod_eq_of_lt,Nat.add_comm]
theorem Good.alloc(g:Good M w0 c h w)(o:Go.Obj):Good M w0 (c.upto w.heap.size (w.heap.size+1)) h (w.alloc o)∧eK c w (c.upto w.heap.size (w.heap.size+1)) (w.alloc o):=by
 have f:jB nothing w (w.alloc o):=jB.alloc nothing w o;have z:=g.call f;have q:=zL g f;simp_all
theorem aWA(hT:mJ P T)(hg:Good M w0 c h w){t:TypeId}{n:Nat}{ps:List (Nat×AV)}{vs:List (Nat×Value)}(hp:aEN c w ps vs)(hc:(aCo T t n ps).1) :
  ∃u w' c',(Instr.buildSlice t n vs.toArray).run P w= .ok u w'∧aKP P M w0 h c w (aCo T t n ps).2 u w' c':=by
 unfold aCo at hc ⊢;cases ht:T t with
 | none=>simp_all
 | some f =>
  cases f with
  | sl f =>
   simp only[ht] at hc ⊢;cases hs:aYv f (List.replicate n f.zero) ps with
   | none=>simp_all
   | some ys =>
    simp only[hs] at hc ⊢;obtain⟨g,hn1,Z⟩:=hc;obtain⟨e,hd,he,hpos⟩:=gX (hT _ _ ht);have J:=hT _ _ he;have hz:=vV J g w;have hzc:(oS f).cells.toList=dI f:=by
     have:=(aKJ w c.S f g).cells;unfold oS;split
     ·rfl
     ·have h1:(dI f).length=1:=by
       rw[bB.length _ _ _ (iA w c.S f g)];rename_i ha;cases f<;>simp_all[Ty.isAgg,Ty.cells]
      match hzz:dI f,h1 with
      | [v],_ =>
       have L:=bB.one f _ _ (iA w c.S f g) v (by simp_all);simp only[List.headD_cons];cases v<;>first|rfl|exact L.elim
    have hzl:(dI f).length=f.cells:=bB.length _ _ _ (iA w c.S f g);have Y:(oS f).cells=(dI f).toArray:=(by grind);have hcells:((Array.range (n*f.cells)).map (fun i=>(dI f).toArray[i%(dI f).toArray.size]!)).toList=(List.replicate n (dI f)).flatten:=by
     grind[aBp]
    obtain⟨cells',N,hr⟩:=aUt (c:=c) (w:=w) (n:=n) (place:=fun i=>some (i*f.cells,f.cells)) (fun _=>rfl) ps vs (List.replicate n f.zero) ((Array.range (n*f.cells)).map (fun i=>(dI f).toArray[i%(dI f).toArray.size]!)) ys hp hs (by
     rw[hcells];exact iA w c.S (.arr n f) g)
    obtain⟨g1,g2⟩:=hg.alloc (.cells cells' e (0,0));refine⟨.slice (some ⟨w.heap.size,0,none⟩) n n,w.alloc (.cells cells' e (0,0)),_,?_,g2,⟨rfl,rfl⟩,g1,jB.alloc nothing w _,fun b hb=>hb.imp id And.left,?_⟩
    ·have I:¬(n*f.cells>2^24):=(by omega);by_cases h0:n*f.cells=0
     ·have hn0:n=0:=by
       grind[Nat.mul_eq_zero]
      subst hn0;have e0:(Array.range (0*f.cells)).map (fun i=>(dI f).toArray[i%(dI f).toArray.size]!)= #[]:=(by simp);rw[e0] at N;have I:¬(0*f.cells>2^24):=(by omega);have e1:(Array.range (0*f.cells)).map (fun x=>(#[]:Array Value)[x%(#[]:Array Value).size]!)= #[]:=(by simp);simp only[Instr.buildSlice,Sem.run_bind,bE hd,Result.andThen_ok,gI J,I,if_false,Nat.zero_mul,if_true,Sem.run_ite,Sem.run_pure];simp only[Nat.zero_mul] at e1;rw[e1,N];rfl
     ·rw[← Y] at N;simp only[Instr.buildSlice,Sem.run_bind,bE hd,Result.andThen_ok,gI J,I,if_false,h0,hz,Sem.run_ite,Sem.run_pure,N];rfl
    ·obtain⟨hyn,z,O,hl,q⟩:=hr;refine⟨⟨some ⟨w.heap.size,0,none⟩,n,rfl,hyn,Nat.le_refl _,Z,.inr ⟨w.heap.size,0,rfl,.inr ⟨Nat.le_refl _,Nat.lt_succ_self _⟩,fun i hi=>?_⟩⟩,(fun h=>by cases h),(fun _ cs=>by simp)⟩;refine⟨z[i],bB.keep g2.le.S g2.same _ _ _ (q i hi (by omega)),?_⟩;obtain⟨pre,post,hf',U⟩:=oT (t:=f) (css:=z) (fun j hj=>bB.length _ _ _ (q j (by omega) hj)) i (by omega);rw[Nat.zero_add,← U];refine yH (cells:=cells') (e:=e) (fz:=(0,0)) ?_ (O.trans hf');show (w.heap.push _)[w.heap.size]? = _;simp_all
  | _=>simp_all
theorem aQy{mx:Bool}{x y:AV}{v u:Value}(hv:aY c w x v)(q:aY c w y u)(hc:(mm2 mx x y).1) :
  ∃r,((if mx then Builtin.max2 v u else Builtin.min2 v u)).run P w= .ok r w∧aY c w (mm2 mx x y).2 r:=by
 cases x with
 | val L a =>
  cases L with
  | i k =>
   cases y with
   | val g b =>
    cases g with
    | i I =>
     obtain⟨rfl,z,J⟩:=aKI hv;obtain⟨rfl,f,hb⟩:=aKI q;simp only[mm2] at hc ⊢;split at hc
     ·rename_i e;subst e;simp only[if_true];cases mx
      ·refine⟨_,by simp only[Builtin.min2]; rfl,?_⟩;grind
      ·refine⟨_,by simp only[Builtin.max2]; rfl,?_⟩;grind
     simp_all
    | _=>exact hc.elim
   | _=>exact hc.elim
  | u k =>
   cases y with
   | val g b =>
    cases g with
    | u I =>
     obtain⟨rfl,z,J⟩:=aKH hv;obtain⟨rfl,f,hb⟩:=aKH q;simp only[mm2] at hc ⊢;split at hc
     ·rename_i e;subst e;simp only[if_true];cases mx
      ·refine⟨_,by simp only[Builtin.min2]; rfl,?_⟩;grind
      ·refine⟨_,by simp only[Builtin.max2]; rfl,?_⟩;grind
     simp_all
    | _=>exact hc.elim
   | _=>exact hc.elim
  | _=>exact hc.elim
 | _=>exact hc.elim
where
 minI (a b:Int):(if b<a then b else a)=min a b:=by omega
 maxI (a b:Int):(if b>a then b else a)=max a b:=by omega
 minI_or (a b:Int):min a b=a∨min a b=b:=by omega
 maxI_or (a b:Int):max a b=a∨max a b=b:=by omega
 minN (a b:Nat):(if (b:Int)<a then (b:Int) else a)=((min a b:Nat):Int):=by omega
 maxN (a b:Nat):(if (b:Int)>a then (b:Int) else a)=((max a b:Nat):Int):=by omega
 minN_or (a b:Nat):min a b=a∨min a b=b:=by omega
 maxN_or (a b:Nat):max a b=a∨max a b=b:=by omega
theorem bDU{t:TypeId}{x:AV}{v:Value}(hv:aY c w x v):aY c w (bAd T t x) v:=by
 cases x with
 | flat l =>
  grind[bAd,aY.ofV,aXC]
 | _=>exact hv
end
end Go.Vc
namespace Go.Vc
open Go.RowKit
section
variable {P:Program} {T:Tab} {M:Perm} {w0:World} {c:Ctx} {h:List Obj} {w:World}
theorem aYy{t:TypeId}{k:IntKind}(f:aFe P T t (.u k)):P.underlying t=some (.int k):=by
 obtain⟨d,hd,hb⟩:=f.desc;cases d<;>simp[jX] at hb
 simp_all
noncomputable def bGi(T:Tab)(h:List Obj)(s d:TypeId)(x:AV):Prop×AV :=
 match T d,x with
 | some (.sl (.u .u8)),.val .str b=>(T s=some .str,.val (.sl (.u .u8)) b)
 | some .str,x=>match T s with
  | some (.sl (.u .u8))=>match x with
   | .sub k f off n=>match h[k]? with
    | some (.box _ (.val (.arr m (.u .u8)) g))=>(f=1∧off+n≤m,.val .str ((g.drop off).take n))
    | _=>(False,.junk)
   | x=>match AV.as h (.sl (.u .u8)) x with
    | some b=>(True,.val .str b)
    | none=>(False,.junk)
  | _=>aQt T s d x
 | _,x=>aQt T s d x
theorem bAk(J:mJ P T)(I:Good M w0 c h w){s d:TypeId}{b:List Nat}{v:Value}(hs:T s=some .str)(hd:T d=some (.sl (.u .u8)))(hv:aY c w (.val .str b) v) :
  ∃u w' c',(convert s d v).run P w= .ok u w'∧aKP P M w0 h c w (.val (.sl (.u .u8)) b) u w' c':=by
 obtain⟨st,rfl,rfl,hm⟩:=aR2 hv;obtain⟨e,q,U,_⟩:=gX (J _ _ hd);have g:=run_bytes_of_string (P:=P) w s d e st (aBS (J _ _ hs)) q (aYy (J _ _ U));obtain⟨w',f⟩:∃w',w'=w.drew.alloc (.cells (bytesRow st (grownCap w st.size 0 e)) e ((bytesRow st (grownCap w st.size 0 e)).size,(bytesRow st (grownCap w st.size 0 e)).size+1)):=⟨_,rfl⟩;rw[← f] at g;have hheap:w'.heap=w.heap.push (.cells (bytesRow st (grownCap w st.size 0 e)) e ((bytesRow st (grownCap w st.size 0 e)).size,(bytesRow st (grownCap w st.size 0 e)).size+1)):=by rw[f]; rfl
 have z:jB nothing w w':=⟨by rw[f]; rfl,by simp_all,by rw[f]; rfl,by simp_all,fun b hb _=>by grind⟩;have g1:=I.call z;have Y:=zL I z;refine⟨_,w',_,g,Y,⟨rfl,rfl⟩,g1,z,fun b hb=>hb.imp id And.left,⟨⟨_,_,_,rfl,?_,grownCap_ge _ _ _ _,grownCap_le_maxLen _ _ _ _ hm,.inr ⟨w.heap.size,0,rfl,.inr ⟨Nat.le_refl _,by simp_all⟩,fun i hi=>?_⟩⟩,(fun h=>by cases h),(fun _ cs=>by simp)⟩⟩
 ·exact uL st
 ·have L:i<st.data.size:=by simp_all[uL]
  have Z:st.data.size=st.size:=rfl;have N:=grownCap_ge w st.size 0 e;refine⟨[.int .u8 (st.data[i].toNat:Int)],⟨?_,rfl,?_⟩,?_⟩
  ·simp[aQ]
  ·have:(aQ st)[i]=st.data[i].toNat:=(by simp[aQ]);rw[this];have:=st.data[i].toNat_lt;grind[IntKind.max,IntKind.signed,IntKind.bits]
  ·have hc:=yH (w:=w') (b:=w.heap.size) (cells:=bytesRow st (grownCap w st.size 0 e)) (e:=e) (fz:=((bytesRow st (grownCap w st.size 0 e)).size,(bytesRow st (grownCap w st.size 0 e)).size+1)) (pre:=(bytesRow st (grownCap w st.size 0 e)).toList.take i) (ds:=[.int .u8 (st.data[i].toNat:Int)]) (post:=(bytesRow st (grownCap w st.size 0 e)).toList.drop (i+1)) (by simp_all) (by
    have O:i<(bytesRow st (grownCap w st.size 0 e)).toList.length:=(by simp[bytesRow]; omega);have I:(bytesRow st (grownCap w st.size 0 e)).toList[i]= .int .u8 (st.data[i].toNat:Int):=by
     simp only[bytesRow,Array.toList_append,Array.toList_map,Array.toList_replicate];grind
    grind[List.append_assoc,List.singleton_append,List.getElem_cons_drop,List.take_append_drop])
   grind[bytesRow,grownCap,Ty.cells]
theorem aHW{s d e:TypeId}{b:List Nat}{bl off cap:Nat}(z:P.underlying s=some (.slice e))(q:P.underlying e=some (.int .u8))(I:P.underlying d=some .string)(hm:b.length≤maxLen)
  (hb:∀i (hi:i<b.length),b[i]<256∧w.cell? ⟨bl,off+i,none⟩=some (.int .u8 (b[i]:Int))) :
  ∃u,(convert s d (.slice (some ⟨bl,off,none⟩) b.length cap)).run P w= .ok u w∧aY c w (.val .str b) u:=by
 have N:(b.map UInt8.ofNat).length=b.length:=by simp
 have hback:∀i (hi:i<b.length),(UInt8.ofNat b[i]).toNat=b[i]:=fun i hi=>by
  simp_all
 have f:=run_convert_bytes_back (P:=P) w s d e ⟨bl,off,none⟩ cap (b.map UInt8.ofNat) z q I (fun j L=>by
  have g:j<b.length:=by simpa using L
  have J:=(hb j g).2;rw[List.getElem_map,hback j g];simp only[Addr.add];split
  ·rename_i h0; subst h0; simpa using J
  ·exact J)
 rw[N] at f;refine⟨_,f,⟨⟨⟨(b.map UInt8.ofNat).toArray⟩,rfl,?_,?_⟩,(fun h=>by cases h),(fun _ O=>by simp)⟩⟩
 ·apply List.ext_getElem
  all_goals grind[aQ]
 ·show (b.map UInt8.ofNat).toArray.size≤maxLen;simp_all
theorem aYz(Z:mJ P T)(hg:Good M w0 c h w){s d:TypeId}{k off n m q:Nat}{xs:List Nat}{v:Value}(hs:T s=some (.sl (.u .u8)))(hd:T d=some .str)(hv:aY c w (.sub k 1 off n) v)
  (ho:h[k]? = some (.box q (.val (.arr m (.u .u8)) xs))) (hle:off+n≤m) :
  ∃u,(convert s d v).run P w= .ok u w∧aY c w (.val .str ((xs.drop off).take n)) u:=by
 obtain⟨_,hn,b,I,hb,rfl⟩:=aTU hv;obtain⟨b',cells,e2,O,hheap,_,Y⟩:=hg.objs k _ ho;rw[O] at hb;simp only[aU,Option.some.injEq] at hb;subst hb;obtain⟨e,U,he,_⟩:=gX (Z _ _ hs);obtain⟨g,z,L,hcl2,f⟩:=Y;have g:xs.length=m:=g;have hl:((xs.drop off).take n).length=n:=by grind
 have key:=aHW (P:=P) (w:=w) (c:=c) (b:=(xs.drop off).take n) (bl:=b') (off:=off*1) (cap:=I) U (aYy (Z _ _ he)) (aBS (Z _ _ hd)) (by omega) (fun i hi=>by
  rw[hl] at hi;have hx:off+i<xs.length:=by omega
  have J:off+i<z.length:=by omega
  obtain⟨h1,_,h3⟩:=f (off+i) hx J;have N:((xs.drop off).take n)[i]'(by omega)=xs[off+i]:=by simp
  rw[N];refine⟨?_,?_⟩
  ·grind[IntKind.max,IntKind.signed,IntKind.bits]
  ·obtain⟨pre,post,hf,hpl⟩:=oT (t:=.u .u8) (css:=z) (fun j hj=>bB.length _ _ _ (f j (by omega) hj)) (off+i) J;have hc:=yH (w:=w) (b:=b') (cells:=cells) (e:=e2) (fz:=(0,0)) hheap (L.trans hf);have:=hc 0 (.int .u8 (xs[off+i]:Int)) (by grind);simp_all[Ty.cells,Nat.mul_one])
 simp_all
theorem aWB(N:mJ P T)(hg:Good M w0 c h w){s d:TypeId}{x:AV}{b:List Nat}{v:Value}(hs:T s=some (.sl (.u .u8)))(hd:T d=some .str)(hv:aY c w x v)(Z:AV.as h (.sl (.u .u8)) x=some b) :
  ∃u,(convert s d v).run P w= .ok u w∧aY c w (.val .str b) u:=by
 obtain⟨a,len,L,rfl,z,J,hm,I⟩:=aFF (c:=⟨aGQ c h,c.hd,c.n,c.bl⟩) (aMi hg hv Z);obtain⟨e,g,Y,_⟩:=gX (N _ _ hs);have q:=aBS (N _ _ hd);have f:=aYy (N _ _ Y);subst z;rcases I with rfl|⟨bl,off,rfl,_,hcell⟩
 ·cases a with
  | none=>exact⟨_,run_convert_bytes_nil w s e g f _ _ d q,⟨⟨ByteArray.empty,rfl,rfl,Nat.zero_le _⟩,(fun h=>by cases h),(fun _ U=>by simp)⟩⟩
  | some a=>exact⟨_,run_convert_bytes_back w s d e a L [] g f q (fun j hj=>by grind),⟨⟨⟨#[]⟩,rfl,rfl,Nat.zero_le _⟩,(fun h=>by cases h),(fun _ U=>by simp)⟩⟩
 ·have hb:∀i (hi:i<b.length),b[i]<256∧w.cell? ⟨bl,off+i,none⟩=some (.int .u8 (b[i]:Int)):=fun i hi=>by
   obtain⟨ds,⟨rfl,_,O⟩,hc⟩:=hcell i hi;refine⟨?_,?_⟩
   ·grind[IntKind.max,IntKind.signed,IntKind.bits]
   ·have:=hc 0 (.int .u8 (b[i]:Int)) rfl;grind[Ty.cells]
  exact aHW g f q (Nat.le_trans J hm) hb
end
end Go.Vc
namespace Go.Vc
open Go.RowKit
def Ty.key1:Ty→Bool
 | .bool=>true
 | .u _=>true
 | .i _=>true
 | .str=>true
 | _=>false
def Ty.keyB:Ty→Bool
 | .arr _ t=>t.key1
 | t=>t.key1
def aAm{β:Type}(c:Ty):List (c.den×β)→c.den→Option β
 | [],_=>none
 | (k,v)::r,x=>if c.eqb x k=true then some v else aAm c r x
def aCq{β:Type}(c:Ty):List (c.den×β)→c.den→β→List (c.den×β)
 | [],x,y=>[(x,y)]
 | (k,v)::r,x,y=>if c.eqb x k=true then (k,y)::r else (k,v)::aCq c r x y
theorem aOI{c:Ty}(h:c.key1=true):c.cmpB=true∧c.deep=0∧c.isAgg=false∧c.cells=1:=by
 cases c<;>simp_all[Ty.key1,Ty.cmpB,Ty.deep,Ty.isAgg,Ty.cells]
theorem bAl{c:Ty}(h:c.keyB=true):c.cmpB=true∧c.deep≤100:=by
 cases c<;>first|grind[Ty.keyB,Ty.key1,Ty.cmpB,Ty.deep]|skip
 rename_i n t;have:=aOI (c:=t) h;grind[Ty.cmpB,Ty.deep]
theorem bDV{w w':World}{S S':Nat→Prop}:∀ {c:Ty} {x y:c.den} {v u:Value},c.key1=true→bB w S c x [v]→bB w' S' c y [u]→(c.eqb x y=true↔v=u)
 | .bool,x,y,v,u,_,f,hy=>by
  simp_all[bB,List.cons.injEq,and_true,Ty.eqb]
 | .u k,x,y,v,u,_,f,hy=>by
  obtain⟨f,_⟩:=f;obtain⟨hy,_⟩:=hy;simp_all[List.cons.injEq,and_true,Ty.eqb,Int.natCast_inj]
 | .i k,x,y,v,u,_,f,hy=>by
  obtain⟨f,_⟩:=f;obtain⟨hy,_⟩:=hy;simp_all[List.cons.injEq,and_true,Ty.eqb]
 | .str,x,y,v,u,_,f,hy=>by
  obtain⟨s,f,e1,_⟩:=f;obtain⟨t,hy,g,_⟩:=hy;simp only[List.cons.injEq,and_true] at f hy;subst f; subst hy; subst e1; subst g;simp only[Ty.eqb,decide_eq_true_eq,Value.string.injEq];grind[aUj]
theorem aUu{w:World}{S:Nat→Prop}{c:Ty}{x:c.den}{cs:List Value}(g:c.cells=1)(h:bB w S c x cs):∃v,cs= [v]:=by
 have f:=(bB.length _ _ _ h).trans g
 match cs,f with
 | [v],_=>simp_all
theorem bDW{t:Ty}{w w':World}{S S':Nat→Prop}(ht:t.key1=true):∀(X Y:List t.den) (css f:List (List Value)),css.length=X.length→f.length=Y.length→X.length=Y.length →
  (∀i (h:i<X.length) (h':i<css.length),bB w S t X[i] css[i])→(∀i (h:i<Y.length) (h':i<f.length),bB w' S' t Y[i] f[i])→((List.zipWith t.eqb X Y).all id=true↔css.flatten=f.flatten)
 | [],[],[],[],_,_,_,_,_=>by simp
 | x::X,y::Y,a::css,b::f,L,N,J,I,hy=>by
  have z:=I 0 (by simp) (by simp);have g:=hy 0 (by simp) (by simp);simp only[List.getElem_cons_zero] at z g;obtain⟨v,rfl⟩:=aUu (aOI ht).2.2.2 z;obtain⟨u,rfl⟩:=aUu (aOI ht).2.2.2 g;have q:=bDW ht X Y css f (by simp_all) (by simp_all) (by simp_all) (fun i h h'=>by have:=I (i+1) (by simp_all) (by simp_all); simpa using this) (fun i h h'=>by have:=hy (i+1) (by simp_all) (by simp_all); simpa using this);simp only[List.zipWith_cons_cons,List.all_cons,id,Bool.and_eq_true,q,bDV ht z g,List.flatten_cons,List.cons_append,List.nil_append,List.cons.injEq]
theorem bGj{w w':World}{S S':Nat→Prop}{c:Ty}{x y:c.den}{v u:Value}(hc:c.keyB=true)(f:dV w S c x v)(hy:dV w' S' c y u):c.eqb x y=true↔v=u:=by
 unfold dV at f hy;cases c<;>first|(simp[Ty.keyB,Ty.key1] at hc; done)|skip
 case arr n t =>
  simp only[Ty.isAgg,if_true] at f hy;obtain⟨⟨Z⟩,rfl,f⟩:=f;obtain⟨⟨ds⟩,rfl,hy⟩:=hy;obtain⟨U,I,Y,N,O⟩:=f;obtain⟨L,g,z,q,J⟩:=hy;simp only at Y z;have:=bDW (t:=t) hc x y I g N q (U.trans L.symm) (fun i h h'=>O i h h') (fun i h h'=>J i h h');grind[Ty.eqb]
 all_goals (simp only[Ty.isAgg,Bool.false_eq_true,if_false] at f hy; exact bDV hc f hy)
section
variable {P:Program} {T:Tab}
theorem bGk(f:Bool)(n:Nat){t:TypeId}{c:Ty}(g:aFe P T t c)(hc:c.key1=true)(v:Value)(w:World):(Instr.checkKey f (n+1) t v).run P w= .ok () w:=by
 obtain⟨d,hd,hb⟩:=g.desc;unfold Instr.checkKey;simp only[Sem.run_bind,bE hd,Result.andThen_ok];cases c<;>first|(simp[Ty.key1] at hc; done)|skip
 all_goals (cases d<;>first|(simp[jX] at hb; done)|skip)
 all_goals rfl
def aFR(f:Bool)(d:Nat)(e:TypeId)(n:Nat)(xs:Array Value):List Nat→Sem Unit
 | []=>pure ()
 | i::r=>do
  let a ← part e xs (i*n)
  Instr.checkKey f d e a
  aFR f d e n xs r
theorem aSS(f:Bool)(d:Nat)(t e:TypeId)(len n:Nat)(xs:Array Value)(w:World)(ht:P.underlying t=some (.array len e))(I:∀w,(sizeOf e).run P w= .ok n w) :
  (Instr.checkKey f (d+1) t (.agg xs)).run P w=(aFR f d e n xs (List.range' 0 len)).run P w:=by
 simp only[Instr.checkKey,Sem.run_bind,bE ht,Result.andThen_ok];simp only[Std.Legacy.Range.forIn_eq_forIn_range',Std.Legacy.Range.size];simp only[Nat.sub_zero,Nat.add_sub_cancel,Nat.div_one];generalize List.range' 0 len=q;clear ht
 induction q generalizing w with
 | nil=>rfl
 | cons i r L =>
  simp only[List.forIn_cons,aFR,Sem.run_bind,I,Result.andThen_ok];generalize (part e xs (i*n)).run P w=r1;cases r1 with
  | ok a g =>
   simp only[Result.andThen_ok];generalize (Instr.checkKey f d e a).run P g=J;cases J with
   | ok b z=>simp_all
   | halt x z=>rfl
  | halt x g=>rfl
theorem aKR(g:Bool)(d:Nat){w:World}{S:Nat→Prop}{e:TypeId}{t:Ty}(z:aFe P T e t)(ht:t.key1=true){xs:Array Value}:∀(k i:Nat) (X:List t.den) (pre:List Value) (css:List (List Value)) (w':World),
   X.length=k→css.length=k→(∀j (h:j<X.length) (h':j<css.length),bB w S t X[j] css[j])→xs.toList=pre++css.flatten→pre.length=i*t.cells→(aFR g (d+1) e t.cells xs (List.range' i k)).run P w'= .ok () w'
 | 0,i,X,_,_,w',hX,_,_,_,_=>by rfl
 | k+1,i,X,pre,css,w',hX,hc,I,O,hp=>by
  match X,css,hX,hc with
  | x::X,c::cs,hX,hc =>
   have q:=I 0 (by simp) (by simp);simp only[List.getElem_cons_zero] at q;obtain⟨J,e1,N⟩:=aFQ z (cs:=xs) (pre:=pre) (ds:=c) (post:=cs.flatten) (by simp_all) q w';rw[hp] at e1;have L:=bB.length _ _ _ q;have f:=aKR g d z ht (xs:=xs) k (i+1) X (pre++c) cs w' (by simp_all) (by simp_all)
    (fun j h h'=>by have:=I (j+1) (by simp_all) (by simp_all); simpa using this) (by simp_all) (by grind)
   simp only[List.range'_succ,aFR,Sem.run_bind,e1,Result.andThen_ok,bGk g d z ht,f]
theorem aMP(z:Bool)(n:Nat)(I:mJ P T){t:TypeId}{c:Ty}(ht:T t=some c)(hc:c.keyB=true){w:World}{S:Nat→Prop}{x:c.den}{v:Value}(g:dV w S c x v)(w':World):(Instr.checkKey z (n+2) t v).run P w'= .ok () w':=by
 cases c<;>first|(simp[Ty.keyB,Ty.key1] at hc; done)|exact bGk z (n+1) (I _ _ ht) hc v w'|skip
 rename_i m q;obtain⟨d,hd,hb⟩:=(I _ _ ht).desc;cases d<;>simp[jX] at hb
 rename_i len e;obtain⟨⟨⟨rfl,f⟩,U⟩,Z⟩:=hb;unfold dV at g;simp only[Ty.isAgg,if_true] at g;obtain⟨Y,rfl,g⟩:=g;obtain⟨L,J,h2,N,O⟩:=g;rw[aSS z (n+1) t e m q.cells Y w' hd (gI (I _ _ f))];exact aKR z n (I _ _ f) hc m 0 x [] J w' L (N.trans L) (fun j h h'=>O j h h') (by simp_all) (by simp)
def aKS(c:Ty){β:Type}(x:c.den):List (c.den×β)→List MapEntry→Nat→Option (Nat×Value)
 | (k,_)::m,e::es,i=>if c.eqb x k=true then some (i,e.val) else aKS c x m es (i+1)
 | _,_,_=>none
theorem aQz{c:Ty}{β:Type}{w:World}{S:Nat→Prop}{x:c.den}:∀(m:List (c.den×β)) (q:List MapEntry) (i:Nat),q.length=m.length →
  match aAm c m x with
  | some y=>∃j e k,aKS c x m q i=some (i+j,e.val)∧q[j]? = some e∧m[j]? = some (k,y)∧c.eqb x k=true∧ ∀g,aCq c m x g=m.set j (k,g)
  | none=>aKS c x m q i=none∧ ∀g,aCq c m x g=m++ [(x,g)]
 | [],[],i,_=>by simp[aAm,aKS,aCq]
 | (k,y)::m,e::q,i,L=>by
  have f:=aQz (w:=w) (S:=S) (x:=x) m q (i+1) (by simp_all);simp only[aAm,aKS,aCq];by_cases hq:c.eqb x k=true
  ·simp only[hq,if_true];exact⟨0,e,k,rfl,rfl,rfl,hq,fun g=>rfl⟩
  ·simp only[hq,if_false];split at f
   ·rename_i U hy;obtain⟨j,e1,z,r1,O,N,I,J⟩:=f;simp only[hy];exact⟨j+1,e1,z,by grind,by simp_all,by simp_all,I,fun g=>by simp_all⟩
   simp_all
theorem aKT(I:mJ P T){t:TypeId}{c:Ty}(ht:T t=some c)(hc:c.keyB=true){β:Type}{w:World}{S:Nat→Prop}{x:c.den}{v:Value}(z:dV w S c x v)(w':World):∀(m:List (c.den×β)) (f:List MapEntry) (i:Nat),f.length=m.length →
  (∀j (h:j<m.length) (h':j<f.length),dV w S c m[j].1 f[j].key)→(Instr.findAsking t v f i).run P w'= .ok (aKS c x m f i) w'
 | [],[],i,_,_=>by rfl
 | (k,y)::m,e::f,i,J,q=>by
  have h0:=q 0 (by simp) (by simp);simp only[List.getElem_cons_zero] at h0;have hq:=aIK (P:=P) I w' ht (bAl hc).1 (bAl hc).2 z h0;have g:=aKT I ht hc z w' m f (i+1) (by simp_all) (fun j h h'=>by have:=q (j+1) (by simp_all) (by simp_all); simp_all);simp only[Instr.findAsking,Sem.run_bind,hq,Result.andThen_ok,aKS,Sem.run_ite,g,Sem.run_pure];grind
theorem aR4{t:TypeId}{c:Ty}(J:aFe P T t c)(hc:c.key1=true){d:TypeDesc}(hd:P.underlying t=some d){β:Type}{w:World}{S:Nat→Prop}{x:c.den}{v:Value}(f:dV w S c x v):∀(m:List (c.den×β)) (g:List MapEntry) (i:Nat),g.length=m.length →
  (∀j (h:j<m.length) (h':j<g.length),dV w S c m[j].1 g[j].key)→Instr.findNow d v g i=some (aKS c x m g i)
 | [],[],i,_,_=>by rfl
 | (k,y)::m,e::g,i,N,z=>by
  have h0:=z 0 (by simp) (by simp);simp only[List.getElem_cons_zero] at h0;have I:=aR4 J hc hd f m g (i+1) (by simp_all) (fun j h h'=>by have:=z (j+1) (by simp_all) (by simp_all); simp_all);have hsame:Instr.sameNow d v e.key=some (c.eqb x k):=by
   have U:=bGj (c:=c) (by cases c<;>simp_all[Ty.key1,Ty.keyB]) f h0;obtain⟨L,q,hb⟩:=J.desc;rw[hd] at q;cases q;unfold dV at f h0;cases c<;>first|(simp[Ty.key1] at hc; done)|skip
   all_goals (cases d<;>first|grind[jX]|skip)
   all_goals simp only[Ty.isAgg,Bool.false_eq_true,if_false] at f h0
   ·simp only[bB,List.cons.injEq,and_true] at f h0;rw[f,h0]; rfl
   ·obtain⟨f,_⟩:=f;obtain⟨h0,_⟩:=h0;simp only[List.cons.injEq,and_true] at f h0;rw[f,h0];simp only[Instr.sameNow,if_true,Ty.eqb,Option.some.injEq];grind
   ·obtain⟨f,_⟩:=f;obtain⟨h0,_⟩:=h0;simp only[List.cons.injEq,and_true] at f h0;rw[f,h0];simp only[Instr.sameNow,if_true,Ty.eqb,Option.some.injEq];rfl
   ·obtain⟨s,f,e1,_⟩:=f;obtain⟨u,h0,O,_⟩:=h0;simp only[List.cons.injEq,and_true] at f h0;rw[f,h0];have:(s == u)=decide (aQ s=aQ u):=by
     rw[Bool.eq_iff_iff,Go.MapKept.bytes_beq,decide_eq_true_eq];grind[aUj]
    grind[Instr.sameNow,Ty.eqb]
  grind[Instr.findNow,aKS]
theorem aOJ(g:mJ P T){t:TypeId}{c:Ty}(ht:T t=some c)(hc:c.keyB=true){β:Type}{w:World}{S:Nat→Prop}{x:c.den}{v:Value}(L:dV w S c x v)(w':World)(m:List (c.den×β))(f:List MapEntry)(q:f.length=m.length)
  (z:∀j (h:j<m.length) (h':j<f.length),dV w S c m[j].1 f[j].key):(Instr.findKey t v f).run P w'= .ok (aKS c x m f 0) w':=by
 obtain⟨d,hd,hb⟩:=(g _ _ ht).desc;simp only[Instr.findKey,Sem.run_bind,bE hd,Result.andThen_ok];by_cases J:c.key1=true
 ·rw[aR4 (g _ _ ht) J hd L m f 0 q z]; rfl
 ·have I:Instr.findNow d v f 0=none∨Instr.findNow d v f 0=some (aKS c x m f 0):=by
   cases f with
   | nil =>
    cases m with
    | nil=>right; rfl
    | cons _ _=>grind
   | cons e f =>
    left
    cases c<;>first|grind[Ty.keyB,Ty.key1]|skip
    cases d<;>simp[jX] at hb
    rfl
  rcases I with h|h
  ·grind[aKT]
  simp_all
theorem aXD{c:Ty}{x:c.den}{v:Value}{w:World}{S:Nat→Prop}(hc:c.key1=true)(f:bB w S c x [v])(n:Nat):Instr.sameBits n v v=true:=by
 cases c<;>first|(simp[Ty.key1] at hc; done)|skip
 ·simp_all[bB,List.cons.injEq,and_true,Instr.sameBits]
 ·obtain⟨f,_⟩:=f; simp_all[List.cons.injEq,and_true,Instr.sameBits]
 ·obtain⟨f,_⟩:=f; simp_all[List.cons.injEq,and_true,Instr.sameBits]
 ·obtain⟨s,f,_⟩:=f; simp only[List.cons.injEq,and_true] at f; subst f;simp only[Instr.sameBits];exact(Go.MapKept.bytes_beq _ _).2 rfl
theorem bE9{c:Ty}{x:c.den}{v:Value}{w:World}{S:Nat→Prop}(hc:c.keyB=true)(f:dV w S c x v)(w':World):(Instr.keyThatStays v v).run P w'= .ok v w':=by
 have hs:Instr.sameBits 10000 v v=true:=by
  unfold dV at f;cases c<;>first|(simp[Ty.keyB,Ty.key1] at hc; done)|skip
  case arr n t =>
   simp only[Ty.isAgg,if_true] at f;obtain⟨⟨O⟩,rfl,f⟩:=f;obtain⟨U,g,z,N,L⟩:=f;simp only at z;subst z;simp only[Instr.sameBits,beq_self_eq_true,Bool.true_and,List.all_eq_true];have q:∀v∈g.flatten,Instr.sameBits 9999 v v=true:=fun v hv=>by
    obtain⟨l,J,hv⟩:=List.mem_flatten.1 hv;obtain⟨i,hi,rfl⟩:=List.mem_iff_getElem.1 J;have:=L i (by omega) hi;obtain⟨u,I⟩:=aUu (aOI (c:=t) hc).2.2.2 this;rw[I] at hv this;simp at hv;subst hv;exact aXD (c:=t) hc this 9999
   intro p hp;have:p.1=p.2∧p.1∈g.flatten:=by
    obtain⟨i,hi,rfl⟩:=List.mem_iff_getElem.1 hp;simp
   grind
  all_goals (simp only[Ty.isAgg,Bool.false_eq_true,if_false] at f; grind[aXD,Ty.keyB])
 simp[Instr.keyThatStays,hs]
end
end Go.Vc
namespace Go.Vc
open Go.RowKit
def bGl(h:List Obj):AV→Option Nat
 | .ptr i []=>match h[i]? with
  | some (.box _ _)=>some i
  | _=>none
 | _=>none
def allTags(h:List Obj):List AV→Option (List Nat)
 | []=>some []
 | v::r=>match bGl h v,allTags h r with
  | some i,some l=>some (i::l)
  | _,_=>none
def evA(G:Nat→AV)(env:List (Nat×AV)):Operand→AV
 | .tmp t=>look env t
 | .const v=>aOz v
 | .global g=>G g
 | .func f=>.fn f [] []
def sO:Operand→Bool
 | .const (.func _ _ _)=>false
 | .const v=>bCp v
 | _=>true
theorem aFS{c:Ctx}{w:World}{G:Nat→AV}{env:List (Nat×AV)}{a:Act}(z:aKg c w env a.tmps)(q:uB G c.S w){x:Operand}(I:sO x=true):aY c w (evA G env x) (a.eval x):=by
 cases x with
 | tmp t=>exact z t
 | const v =>
  refine bF3 ?_ ?_
  ·cases v<;>first|exact I|rfl
  grind[sO]
 | global g =>
  exact(q g).keep (c:=⟨c.S,fun _=>Go.undef,0,fun _ _=>False⟩) (c':=c) ⟨fun _ h=>h,Nat.zero_le _,fun i hi=>absurd hi (Nat.not_lt_zero i)⟩ (.refl _ _)
 | func f=>exact⟨⟨(fun i hi=>by cases hi),(fun i hi=>by cases hi),rfl⟩,(fun h=>by cases h),(fun _ J=>by simp[Act.eval])⟩
def aQA(i:Nat):AV→Prop×AV
 | .tup f=>(i<f.length,f.getD i .junk)
 | _=>(False,.junk)
def aNx:AV→Prop×AV
 | .ptr i p=>(True,.ptr i p)
 | .roa t x=>(True,.roa t x)
 | .fn f g l2=>(True,.fn f g l2)
 | _=>(False,.junk)
def aNy:List AV→Option ((t:Ty)×t.den)
 | []=>some ⟨.unit,()⟩
 | .roa t x::r=>match aNy r with
  | some ⟨u,y⟩=>some ⟨.pair (.rp t) u,(x,y)⟩
  | none=>none
 | _=>none
def aNz(h:List Obj)(f:FuncId)(first caps:List AV):Prop×AV :=
 match allTags h first,allTags h caps with
 | some g,some l2=>(True,.fn f g l2)
 | some g,none=>match aNy caps with
  | some ⟨t,y⟩=>(g= [],.val (.clo f t) y)
  | none=>(False,.junk)
 | _,_=>(False,.junk)
def aHn(h:List Obj)(l:List Nat):Bool:=l.all fun i=>match h[i]? with
 | some (.box _ _)=>true
 | _=>false
def xT:Ty→Bool
 | .unit=>true
 | .pair (.rp _) r=>xT r
 | _=>false
def aOK(E:Env)(h:List Obj)(callee:Callee)(args:List AV)(argTypes:List TypeId)(ρ:Operand→AV):Prop×AV :=
 match callee with
 | .builtin .len=>match args,argTypes with
  | [x],[t]=>aKM E.T h t x
  | _,_=>(False,.junk)
 | .builtin .min=>bF6 false args
 | .builtin .max=>bF6 true args
 | .value x=>match ρ x with
  | .fn f [] l2=>if aHn h l2=true then aIM E.Γ h f (args++l2.map fun i=>.ptr i []) else (False,.junk)
  | .val (.clo g t) y=>if xT t=true then aIM E.Γ h g (args++aEZ t y) else (False,.junk)
  | _=>(False,.junk)
 | _=>(False,.junk)
def bGm(E:Env)(t:TypeId)(g f:Ty):Prop:=match E.mp t with
 | some (k,e)=>E.T k=some g∧E.T e=some f
 | none=>False
def aKU(E:Env)(h:List Obj)(t:TypeId)(m k:AV)(ok:Bool):Prop×AV :=
 match m with
 | .mp i=>match h[i]? with
  | some (.map g f l)=>match AV.as (h.map gJ) g k with
   | some x=>(g.keyB=true∧f.okB=true∧bGm E t g f,if ok then .tup [.val f ((aAm g l x).getD f.zero),.val .bool (aAm g l x).isSome] else .val f ((aAm g l x).getD f.zero))
   | none=>(False,.junk)
  | _=>(False,.junk)
 | _=>(False,.junk)
def Ty.isNil:Ty→Bool
 | .nili=>true
 | _=>false
def bAm(E:Env)(h:List Obj)(t:TypeId)(x:AV):Prop×AV :=
 match E.T t with
 | some c=>match AV.as (h.map gJ) c x with
  | some d=>(c.isNil=false,.val (.ifc t c) d)
  | none=>(False,.junk)
 | none=>(False,.junk)
def aKV(E:Env)(x:AV)(t:TypeId)(ok:Bool):Prop×AV :=
 match E.T t with
 | some c=>match x with
  | .val (.ifc k c') d=>if k=t then (c.isNil=false,if ok then .tup [.val c' d,.val .bool true] else .val c' d) else (ok=true∧c.okB=true,.tup [.val c c.zero,.val .bool false])
  | .val .nili _=>(ok=true∧c.okB=true,.tup [.val c c.zero,.val .bool false])
  | _=>(False,.junk)
 | none=>(False,.junk)
def bAn(T:Tab)(f:BinOp)(t:TypeId)(x:AV):Prop×AV :=
 match x with
 | .val .nili _=>match f with
  | .eql=>(T t=some .nili,.val .bool true)
  | .neq=>(T t=some .nili,.val .bool false)
  | _=>(False,.junk)
 | _=>(False,.junk)
noncomputable def pv(E:Env)(h:List Obj)(ρ:Operand→AV)(o:Oper):Prop×AV :=
 match o.op with
 | .move x=>(True,bAd E.T o.type (ρ x))
 | .assign x=>(True,bAd E.T o.type (ρ x))
 | .load t a=>aKL E.T h t (ρ a)
 | .binOp z t x y _=>match y with
  | .const .nilIface=>bAn E.T z t (ρ x)
  | y=>aD6 E.T z t (ρ x) (ρ y)
 | .unOp z _ x=>bCr z (ρ x)
 | .convert s d x=>bGi E.T h s d (ρ x)
 | .fieldAddr s x k=>aBo E.T s (ρ x) k
 | .field s x k=>aMb E.T s (ρ x) k
 | .indexAddr t x i=>aOC E.T h t (ρ x) (ρ i)
 | .index t x i=>aOD E.T t (ρ x) (ρ i)
 | .slice t x lo hi mx=>aOE E.T h t (ρ x) (lo.map ρ) (hi.map ρ) (mx.map ρ)
 | .extract x i=>aQA i (ρ x)
 | .build t q=>bif E.dz t then aQu E.T t (q.toList.map fun p=>(p.1,ρ p.2)) else aMd E.T t (q.toList.map fun p=>(p.1,ρ p.2))
 | .buildSlice t n q=>aCo E.T t n (q.toList.map fun p=>(p.1,ρ p.2))
 | .makeFunc (.func f) first g=>aNz h f (first.toList.map ρ) (g.toList.map ρ)
 | .nilCheck x=>aNx (ρ x)
 | .lookup t m k ok=>aKU E h t (ρ m) (ρ k) ok
 | .makeInterface t x=>bAm E h t (ρ x)
 | .typeAssert x _ t ok=>aKV E (ρ x) t ok
 | .call c=>aOK E h c.callee (c.args.toList.map ρ) c.argTypes.toList ρ
 | .alloc t=>match E.T t with
  | some I=>(I.okB=true,.junk)
  | none=>(False,.junk)
 | _=>(False,.junk)
section
variable {P:Program} {M:Perm} {w0:World} {c:Ctx} {h:List Obj} {w:World}
theorem dV.shape{w:World}{S:Nat→Prop}{t:Ty}{x:t.den}{v:Value}(h:dV w S t x v)(z:t≠ .nili):v≠ .nilIface∧(t.isAgg=false→ ∀cs,v≠ .agg cs):=by
 unfold dV at h;split at h
 ·grind
 ·rename_i f;cases t<;>first|(simp[Ty.isAgg] at f; done)|skip
  case bool=>grind[bB]
  case u=>grind[bB]
  case i=>grind[bB]
  case str=>obtain⟨s,e,_⟩:=h; simp_all
  case sl=>obtain⟨a,l,q,e,_⟩:=h; simp_all
  case rp=>obtain⟨b,off,ds,e,_⟩:=h; simp_all
  case clo=>obtain⟨g,e,_⟩:=h; simp_all
  case ifc=>obtain⟨u,ds,e,_⟩:=h; simp_all
  case nili=>simp_all
  all_goals grind[bB]
theorem bAo{f:BinOp}{t:TypeId}{v u:Value}{ox oy:Operand}(q:v≠ .nilIface)(g:∀cs,v≠ .agg cs):(eqGuard f t ox oy v u).run P w= .ok () w:=by
 cases f<;>first|rfl|skip
 all_goals (cases v<;>first|exact absurd rfl q|exact absurd rfl (g _)|rfl)
theorem aXE{T:Tab}{z:BinOp}{t:TypeId}{q:Ty}(f:aFe P T t q)(g:q.isAgg=true){xs:Array Value}{u:Value}{ox oy:Operand}:(eqGuard z t ox oy (.agg xs) u).run P w= .ok () w:=by
 have I:=f.guard g;cases u with
 | agg J=>grind[run_eqGuard_agg]
 | _=>cases z<;>rfl
theorem bGn{T:Tab}(I:mJ P T){g:BinOp}{t:TypeId}{x y:AV}{v u:Value}{ox oy:Operand}(hv:aY c w x v)(hc:(aD6 T g t x y).1):(eqGuard g t ox oy v u).run P w= .ok () w:=by
 cases x with
 | val tx a =>
  have f:=fun L=>(aY.toV hv).shape L;cases tx with
  | pair p q =>
   obtain⟨J,rfl⟩:=hv.2.1 rfl;cases y with
   | val z b =>
    simp only[aD6] at hc;by_cases e:z= .pair p q
    ·subst e;simp only[dite_true] at hc;cases g<;>simp only at hc<;>first|exact hc.elim|exact aXE (I _ _ hc.1) rfl
    simp_all
   | _=>exact hc.elim
  | arr n q =>
   obtain⟨J,rfl⟩:=hv.2.1 rfl;cases y with
   | val z b =>
    simp only[aD6] at hc;by_cases e:z= .arr n q
    ·subst e;simp only[dite_true] at hc;cases g<;>simp only at hc<;>first|exact hc.elim|exact aXE (I _ _ hc.1) rfl
    simp_all
   | _=>exact hc.elim
  | unit=>exact hc.elim
  | expr=>exact hc.elim
  | nili=>exact hc.elim
  | ifc _ _=>exact hc.elim
  | _=>exact bAo (f (by simp)).1 ((f (by simp)).2 rfl)
 | _=>exact hc.elim
theorem aOL{ρ:Operand→AV}{a:Act}:∀ {l:List (Nat×Operand)},(∀p∈l,aY c w (ρ p.2) (a.eval p.2))→aEN c w (l.map fun p=>(p.1,ρ p.2)) (l.map fun p=>(p.1,a.eval p.2))
 | [],_=>.nil
 | p::r,h=>.cons (h p (by simp)) (aOL fun q hq=>h q (by simp[hq]))
theorem aUv{ρ:Operand→AV}{a:Act}{o:Option Operand}(h:∀x,o=some x→aY c w (ρ x) (a.eval x)):aWz c w (o.map ρ) (o.map a.eval):=by
 cases o with
 | none=>exact .none
 | some x=>exact .some (h x rfl)
theorem aOM(L:Good M w0 c h w):∀ {l:List AV} {vs:List Value} {f:List Nat},allTags h l=some f→l.length=vs.length→(∀i (q:i<l.length) (J:i<vs.length),aY c w l[i] vs[i])→(∀i∈f,i<c.n)∧vs=f.map c.hd
 | [],vs,f,z,I,_=>by
  grind[allTags]
 | v::r,[],f,z,I,_=>by grind
 | v::r,u::us,f,z,I,hv=>by
  simp only[allTags] at z;split at z
  ·rename_i i l q J;cases z;obtain⟨q1,O⟩:=aOM L J (by simpa using I) (fun i hi U=>by have:=hv (i+1) (by simp_all) (by simp_all); simp_all);have h0:=hv 0 (by simp) (by simp);simp only[List.getElem_cons_zero] at h0;unfold bGl at q;split at q
   ·rename_i j;split at q
    ·rename_i bv N;cases q;obtain⟨Z,b,hb,rfl⟩:=aGR h0;obtain⟨Y,cells,e,g,_⟩:=L.objs _ _ N;rw[g] at hb;simp[aU] at hb;subst hb;refine⟨fun k hk=>?_,?_⟩
     ·grind
     ·rw[List.map_cons,← O,g]; rfl
    grind
   grind
  grind
theorem bLJ{f:FuncId}{g l2:List Nat}(z:∀i∈g,i<c.n)(q:∀i∈l2,i<c.n):aY c w (.fn f g l2) (.func (.func f) (g.map c.hd).toArray (l2.map c.hd).toArray) :=
 ⟨⟨z,q,rfl⟩,(fun h=>by cases h),(fun _ I=>by simp)⟩
theorem bJl{vs:List AV}{v:Value}(hv:aY c w (.tup vs) v){i:Nat}(hi:i<vs.length):∃u,(Instr.extract v i).run P w= .ok u w∧aY c w (vs.getD i .junk) u:=by
 obtain⟨z,rfl,L,J⟩:=hv;have g:i<z.length:=by omega
 refine⟨z[i],by simp[Instr.extract,g],?_⟩;rw[List.getD_eq_getElem?_getD,List.getElem?_eq_getElem hi];have:=J i hi g;simp only[Option.getD_some];have f:∀us,vs[i]≠ .tup us:=fun us e=>by rw[e] at this; exact this.1.elim
 revert this f;generalize vs[i]=a;generalize z[i]=x;intro this f;cases a<;>first|exact absurd rfl (f _)|trivial|exact this|skip
 obtain⟨I,_,q⟩:=this;have q:=q rfl;simp only[aM] at I;cases x<;>simp[Value.cells] at I q<;>first|exact I|skip
end
end Go.Vc
namespace Go.Vc
open Go.RowKit
section
variable {P:Program} {M:Perm} {w0:World} {c:Ctx} {h:List Obj} {w:World}
structure jC(P:Program)(E:Env):Prop where
 T:mJ P E.T
 Γ:∀f vs sp,E.Γ f vs=some sp→(FOK P E.G f sp∧ ∃fn,P.funcs[f]? = some fn∧fn.name ≠ "runtime.NumGoroutine" ∧ fn.body.isSome=true)∨NOK P E.G f sp
 el:∀t ct,E.T t=some (.sl ct)→P.underlying t=some (.slice (E.el t))
 mp:∀t k e,E.mp t=some (k,e)→P.underlying t=some (.map k e)
theorem aFg{f:FuncId}{args:Array Value}(q:∃fn,P.funcs[f]? = some fn∧fn.name ≠ "runtime.NumGoroutine" ∧ fn.body.isSome=true):(callFunc f args).run P w= .ok (.enter f args) w:=by
 obtain⟨fn,I,z,g⟩:=q;obtain⟨b,hb⟩:=Option.isSome_iff_exists.1 g;simp_all[callFunc]
theorem aMj{ρ:Operand→AV}{a:Act}{l:List Operand}(h:∀x∈l,aY c w (ρ x) (a.eval x)):∀i (g:i<(l.map ρ).length) (f:i<(l.map a.eval).length),aY c w (l.map ρ)[i] (l.map a.eval)[i]:=fun i g f=>by
 simp_all
theorem bDX{f:FuncId}{l2:List Nat}{v:Value}(hv:aY c w (.fn f [] l2) v):(∀i∈l2,i<c.n)∧v= .func (.func f) #[] (l2.map c.hd).toArray:=by
 obtain⟨g,_,q⟩:=hv;have q:=q rfl;simp only[aM] at g;obtain⟨_,z,g⟩:=g;refine⟨z,?_⟩;cases v<;>simp[Value.cells] at g q
 simp_all
theorem bAp{g:FuncId}{t:Ty}{y:t.den}{v:Value}(hv:aY c w (.val (.clo g t) y) v):∃us:List Value,v= .func (.func g) #[] us.toArray∧bB w c.S t y us:=by
 have:=aY.toV hv;unfold dV at this;rw[if_neg (by simp[Ty.isAgg])] at this;obtain⟨us,e,f⟩:=this;simp_all
theorem bGo:∀ {l:List AV} {vs:List Value} {t:Ty} {y:t.den},aNy l=some ⟨t,y⟩→l.length=vs.length→(∀i (O:i<l.length) (N:i<vs.length),aY c w l[i] vs[i])→bB w c.S t y vs
 | [],vs,t,y,f,I,_=>by
  simp only[aNy,Option.some.injEq,Sigma.mk.injEq] at f;obtain⟨rfl,hy⟩:=f;cases vs with
  | nil=>rfl
  | cons _ _=>grind
 | v::r,[],t,y,f,I,_=>by grind
 | v::r,x::vs,t,y,f,I,hv=>by
  have h0:=hv 0 (by simp) (by simp);simp only[List.getElem_cons_zero] at h0;cases v<;>first|grind[aNy]|skip
  rename_i U x1;simp only[aNy] at f;split at f
  ·rename_i u z L;simp only[Option.some.injEq,Sigma.mk.injEq] at f;obtain⟨rfl,hy⟩:=f;have hy:=eq_of_heq hy;subst hy;have g:=bGo L (vs:=vs) (by simp_all) (fun i O N=>by have:=hv (i+1) (by simp_all) (by simp_all); simp_all);obtain⟨⟨b,off,ds,e,hb,hd,hc⟩,_,q⟩:=h0;have q:=q rfl;have J:x= .pointer (some ⟨b,off,none⟩):=by
    simp_all[Value.cells]
   refine⟨[x],vs,rfl,⟨b,off,ds,by rw[J],hb,hd,hc⟩,g⟩
  grind
theorem aKW(J:Good M w0 c h w):∀ {l2:List Nat},aHn h l2=true→(∀i∈l2,i<c.n)→ ∀i (f:i<(l2.map fun i=>AV.ptr i []).length) (I:i<(l2.map c.hd).length),aY c w (l2.map fun i=>AV.ptr i [])[i] (l2.map c.hd)[i]:=by
 intro l2 hb z i f I;simp only[List.length_map] at f;simp only[List.getElem_map];simp only[aHn,List.all_eq_true] at hb;have:=hb l2[i] (List.getElem_mem f);split at this
 ·rename_i n v q;obtain⟨b,cells,e,g,_⟩:=J.objs _ _ q;refine⟨⟨z _ (List.getElem_mem f),b,by rw[g]; rfl,by rw[g]; rfl⟩,(fun h=>by cases h),(fun _ L=>by simp_all)⟩
 simp_all
theorem aUw:∀ {t:Ty} {y:t.den} {us:List Value},xT t=true→bB w c.S t y us→us.length=(aEZ t y).length∧ ∀i (L:i<(aEZ t y).length) (g:i<us.length),aY c w (aEZ t y)[i] us[i]
 | .unit,_,us,_,f=>by simp only[bB] at f; subst f; exact⟨rfl,fun i h=>by simp_all⟩
 | .pair (.rp a) r,y,us,hb,f=>by
  obtain⟨c1,N,rfl,⟨b,off,ds,rfl,q⟩,g⟩:=f;obtain⟨z,J⟩:=aUw (t:=r) (y:=y.2) (by grind[xT]) g;refine⟨by simp[aEZ,z],fun i hi I=>?_⟩;cases i with
  | zero =>
   refine aY.ofV ?_;unfold dV;rw[if_neg (by simp[Ty.isAgg])];exact⟨b,off,ds,rfl,q⟩
  | succ i =>
   grind[aEZ]
 | .pair .bool _,_,_,hb,_=>by grind[xT]
 | .pair (.u _) _,_,_,hb,_=>by grind[xT]
 | .pair (.i _) _,_,_,hb,_=>by grind[xT]
 | .pair .str _,_,_,hb,_=>by grind[xT]
 | .pair (.sl _) _,_,_,hb,_=>by grind[xT]
 | .pair .unit _,_,_,hb,_=>by grind[xT]
 | .pair (.pair _ _) _,_,_,hb,_=>by grind[xT]
 | .pair (.arr _ _) _,_,_,hb,_=>by grind[xT]
 | .pair .expr _,_,_,hb,_=>by grind[xT]
 | .pair (.clo _ _) _,_,_,hb,_=>by grind[xT]
 | .bool,_,_,hb,_=>by grind[xT]
 | .u _,_,_,hb,_=>by grind[xT]
 | .i _,_,_,hb,_=>by grind[xT]
 | .str,_,_,hb,_=>by grind[xT]
 | .sl _,_,_,hb,_=>by grind[xT]
 | .arr _ _,_,_,hb,_=>by grind[xT]
 | .expr,_,_,hb,_=>by grind[xT]
 | .rp _,_,_,hb,_=>by grind[xT]
 | .clo _ _,_,_,hb,_=>by grind[xT]
theorem aUx{E:Env}(hE:jC P E)(hg:Good M w0 c h w)(hG:uB E.G c.S w){dst:Option Nat}{ty:TypeId}{pos:String}{U:Array Edge}{gd:Option (Nat×Bool)}{f:Operand}{args:Array Operand}{argTypes:Array TypeId}{a:Act}{ρ:Operand→AV}{g:FuncId}{us:List Value}{z:List AV}
  (hf:a.eval f= .func (.func g) #[] us.toArray) (hul:us.length=z.length) (hav:∀i (Z:i<(args.toList.map ρ).length) (h2:i<(args.toList.map a.eval).length),aY c w (args.toList.map ρ)[i] (args.toList.map a.eval)[i])
  (huv:∀i (Z:i<z.length) (h2:i<us.length),aY c w z[i] us[i]) (hc:(aIM E.Γ h g (args.toList.map ρ++z)).1) :
  Did P M w0 h c { dst:=dst,op:=.call { callee:=.value f,args:=args,argTypes:=argTypes },type:=ty,pos:=pos,after:=U,guard:=gd } a w (aIM E.Γ h g (args.toList.map ρ++z)).2:=by
 have O:∃sp,E.Γ g (args.toList.map ρ++z)=some sp:=by
  unfold aIM at hc;grind
 obtain⟨sp,q⟩:=O;have e2:args.map a.eval++us.toArray=(args.toList.map a.eval++us).toArray:=by simp_all
 have hcall:=fun (C:(Ending→World→Prop)→Prop) hC hF=>bJk (P:=P) (C:=C) hC (Γ:=E.Γ) hF hg hG (f:=g) (vs:=args.toList.map ρ++z) (xs:=(args.toList.map a.eval++us).toArray) (by grind) (fun i Z h2=>by
  grind) hc
 rcases hE.Γ g _ sp q with⟨J,N⟩|L
 ·refine .inr ⟨g,(args.toList.map a.eval++us).toArray,?_,hcall (Calls P g _ w) (fun R R' h k=>h.mono k) (fun Y hs=>by rw[q] at hs; cases hs; exact fun S x=>J w S _ x)⟩;have I:=aFg (w:=w) (args:=(args.toList.map a.eval++us).toArray) N;grind[execOp,resolve,Deferred.ofValue,invoke]
 ·obtain⟨v,w',I,v',c',e,hA⟩:=hcall (bLa P g (args.toList.map a.eval++us).toArray w) (fun R R' ⟨v,w',h,k⟩ hk=>⟨v,w',h,hk _ _ k⟩) (fun Y hs=>by rw[q] at hs; cases hs; exact L.2 w _);cases e;refine .inl ⟨v,w',c',?_,hA⟩;grind[execOp,resolve,Deferred.ofValue,invoke]
theorem aXF{T:Tab}(z:mJ P T){t:TypeId}{f:Ty}(ht:T t=some f)(g:f.okB=true){o:Oper}{a:Act}(q:o.op= .alloc t):(execOp a.eval o).run P w= .ok (.value (.pointer (some ⟨w.heap.size,0,none⟩))) (w.alloc (.cells (oS f).cells t (0,0))):=by
 have I:=vV (z _ _ ht) g w;simp[execOp,q,Instr.alloc,I,newVar,newRow]
theorem aR5(q:Good M w0 c h w){ob:Go.Obj}:aKP P M w0 h c w .junk (.pointer (some ⟨w.heap.size,0,none⟩)) (w.alloc ob) c:=by
 have g:jB nothing w (w.alloc ob):=jB.alloc nothing w _;have z:eK c w c (w.alloc ob):=⟨.refl _,fun b hb=>g.block b (q.sfin b hb) (fun f=>f)⟩;exact⟨z,⟨rfl,rfl⟩,q.step z rfl rfl g.any (fun i o b I hb=>g.block b (q.own i o b I hb).2.1 (fun f=>f)) (fun b hb=>Nat.lt_of_lt_of_le (q.sfin b hb) g.size) (fun b hb=>.inl hb),g,fun b hb=>.inl hb,trivial⟩
theorem bFa{E:Env}(Y:jC P E)(hg:Good M w0 c h w){t:TypeId}{m k:AV}{ok:Bool}{mv kv:Value}(hm:aY c w m mv)(hk:aY c w k kv)(hc:(aKU E h t m k ok).1) :
  ∃u,(Instr.lookup t mv kv ok).run P w= .ok u w∧aY c w (aKU E h t m k ok).2 u:=by
 unfold aKU at hc ⊢;split at hc
 ·rename_i i;split at hc
  ·rename_i q g l ho;split at hc
   ·rename_i x hx;obtain⟨U,h2,L⟩:=hc;simp only[ho,hx];obtain⟨b,I,clock,q1,q2,q3,q4⟩:=hg.objs i _ ho;have Z:mv= .map (some b):=by
     obtain⟨r1,_,r3⟩:=hm;simp only[aM] at r1;have r3:=r3 rfl;simp_all[Value.cells]
    subst Z;unfold bGm at L;split at L
    ·rename_i kt et he;have J:=aAl hg hk hx;have hu:=Y.mp _ _ _ he;have hgo:(getObj b).run P w= .ok (.map I clock) w:=(by simp[getObj,Sem.run,q2]);have hl:I.toList.length=l.length:=(by omega);have hf:=aOJ (P:=P) Y.T L.1 U J w l I.toList hl (fun j h h'=>by simp_all);have hck:=aMP (P:=P) I.isEmpty 9998 Y.T L.1 U J w;have hz:=vV (Y.T _ _ L.2) h2 w;have f:=aQz (c:=q) (w:=w) (S:=c.S) (x:=x) l I.toList 0 hl;have O:∀(z:Value),dV w c.S g ((aAm q l x).getD g.zero) z→aY c w (if ok=true then AV.tup [.val g ((aAm q l x).getD g.zero),.val .bool (aAm q l x).isSome] else AV.val g ((aAm q l x).getD g.zero)) (if ok=true then .tuple #[z,.bool (aAm q l x).isSome] else z):=fun z hz=>by
      cases ok
      ·simp_all[Bool.false_eq_true,if_false,aY.ofV]
      ·simp only[if_true];refine⟨[z,.bool (aAm q l x).isSome],rfl,rfl,fun i U h2=>?_⟩
       match i,U,h2 with
       | 0,_,_=>exact aY.ofV hz
       | 1,_,_=>exact aY.ofV (t:=.bool) (x:=(aAm q l x).isSome) (by rfl)
     cases N:aAm q l x with
     | some y =>
      rw[N] at f;obtain⟨j,e,k1,r1,r2,r3,_⟩:=f;rw[r1] at hf;have hjl:j<l.length:=by
       grind
      have hje:j<I.size:=(by omega);have hv:=(q4 j hjl hje).2;have e1:I[j]=e:=by
       simp_all
      have e2:l[j].2=y:=(by simp_all);simp_all[bool,Instr.lookup,bE,Result.andThen]
     | none =>
      rw[N] at f;rw[f.1] at hf;have:=O (oS g) (by grind[aKJ]);refine⟨if ok=true then .tuple #[oS g,.bool false] else oS g,?_,by simp_all⟩;simp_all[Instr.lookup,bE,Result.andThen]
    simp_all
   simp_all
  simp_all
 simp_all
theorem aMk{E:Env}{t:TypeId}{c:Ty}(g:mJ P E.T)(ht:E.T t=some c)(q:c.isNil=false):∃d,P.underlying t=some d∧ ∀f,d≠ .interface f:=by
 obtain⟨d,hd,hb⟩:=(g _ _ ht).desc;refine⟨d,hd,fun f e=>?_⟩;subst e;cases c<;>simp[jX,Ty.isNil] at hb q
theorem bLK{E:Env}(J:jC P E)(I:Good M w0 c h w){t:TypeId}{x:AV}{v:Value}(hv:aY c w x v)(hc:(bAm E h t x).1) :
  ∃u,(Instr.makeInterface t v).run P w= .ok u w∧aY c w (bAm E h t x).2 u:=by
 unfold bAm at hc ⊢;split at hc
 ·rename_i N ht;split at hc
  ·rename_i d hd;simp only[hd];have f:=aAl I hv hd;obtain⟨L,z,O⟩:=aMk J.T ht hc;refine⟨.iface t v,?_,aY.ofV ?_⟩
   ·simp only[Instr.makeInterface,Sem.run_bind,bE z,Result.andThen_ok];rfl
   ·unfold dV at f ⊢;rw[if_neg (by simp[Ty.isAgg])];split at f
    ·rename_i q;obtain⟨g,rfl,f⟩:=f;exact⟨.agg g,g.toList,rfl,(fun _=>by simp),(fun h=>by simp_all),f⟩
    ·rename_i q;exact⟨v,[v],rfl,(fun h=>absurd h q),(fun _=>rfl),f⟩
  simp_all
 simp_all
theorem aUy{k:TypeId}{t:Ty}{x:t.den}{v:Value}(hv:aY c w (.val (.ifc k t) x) v):∃u,v= .iface k u∧dV w c.S t x u:=by
 have f:=aY.toV hv;unfold dV at f;rw[if_neg (by simp[Ty.isAgg])] at f;obtain⟨u,ds,e,z,q,g⟩:=f;simp only[List.cons.injEq,and_true] at e;grind[dV]
theorem aYA{t:Ty}{x:t.den}{b:Bool}{u:Value}(f:dV w c.S t x u):aY c w (.tup [.val t x,.val .bool b]) (.tuple #[u,.bool b]):=by
 refine⟨[u,.bool b],rfl,rfl,fun i q g=>?_⟩
 match i,q,g with
 | 0,_,_=>exact aY.ofV f
 | 1,_,_=>exact aY.ofV (t:=.bool) (x:=b) (by rfl)
theorem bFb{E:Env}(I:jC P E){t xt:TypeId}{x:AV}{ok:Bool}{v:Value}(hv:aY c w x v)(hc:(aKV E x t ok).1) :
  ∃u,(Instr.typeAssert v xt t ok).run P w= .ok u w∧aY c w (aKV E x t ok).2 u:=by
 unfold aKV at hc ⊢;split at hc
 ·rename_i q ht;have g:q.okB=true→q.isNil=false:=fun h=>by grind[Ty.okB,Ty.isNil]
  split at hc
  ·rename_i k c' d;obtain⟨u,rfl,O⟩:=aUy hv;by_cases e:k=t
   ·subst e;simp only[if_true] at hc ⊢;obtain⟨L,z,N⟩:=aMk I.T ht hc;refine⟨if ok=true then .tuple #[u,.bool true] else u,?_,?_⟩
    ·simp only[Instr.typeAssert,Sem.run_bind,bE z,Result.andThen_ok];rfl
    grind[aY.ofV,aYA]
   ·simp only[e,if_false] at hc ⊢;obtain⟨rfl,f⟩:=hc;refine⟨.tuple #[oS q,.bool false],?_,aYA (aKJ w c.S q f)⟩;obtain⟨L,z,N⟩:=aMk I.T ht (g f);have f:=vV (I.T _ _ ht) f w;simp only[Instr.typeAssert,Sem.run_bind,bE z,Result.andThen_ok];simp_all
  ·have J:v= .nilIface:=by
    have O:=aY.toV hv;simp_all[dV,if_neg,Ty.isAgg,bB]
   subst J;obtain⟨rfl,f⟩:=hc;refine⟨.tuple #[oS q,.bool false],?_,aYA (aKJ w c.S q f)⟩;obtain⟨L,z,N⟩:=aMk I.T ht (g f);have f:=vV (I.T _ _ ht) f w;simp only[Instr.typeAssert,Sem.run_bind,bE z,Result.andThen_ok];simp_all
  simp_all
 simp_all
theorem bLL{T:Tab}(z:mJ P T){f:BinOp}{t:TypeId}{x:AV}{v:Value}{ox:Operand}(hv:aY c w x v)(hc:(bAn T f t x).1) :
  ∃r,(eqGuard f t ox (.const .nilIface) v .nilIface).run P w= .ok () w∧(binOp f t v .nilIface).run P w= .ok r w∧aY c w (bAn T f t x).2 r:=by
 unfold bAn at hc ⊢;split at hc
 ·rename_i y;have g:v= .nilIface:=by
   have I:=aY.toV hv;simp_all[dV,if_neg,Ty.isAgg,bB]
  subst g;have q:T t=some .nili→(Op.equal t .nilIface .nilIface).run P w= .ok true w:=fun ht=>by
   obtain⟨d,hd,hb⟩:=(z _ _ ht).desc;cases d<;>simp[jX] at hb
   unfold Op.equal Op.maxDepth;rw[Op.equalIn];simp[bE hd]
  cases f<;>simp only at hc ⊢ <;> (try exact hc.elim)
  all_goals simp_all[bool,eqGuard,binOp,aFP]
 simp_all
theorem bLb{E:Env}(O:jC P E)(U:Good M w0 c h w)(hG:uB E.G c.S w){o:Oper}{a:Act}{ρ:Operand→AV}(I:∀x∈o.op.operands,aY c w (ρ x) (a.eval x))(hc:(pv E h ρ o).1):Did P M w0 h c o a w (pv E h ρ o).2:=by
 obtain⟨dst,op,ty,pos,aft,gd⟩:=o;cases op<;>simp only[pv] at hc ⊢ <;> (try exact hc.elim)<;>simp only[Op.operands] at I
 case alloc t =>
  split at hc
  ·rename_i ct ht;exact .inl ⟨_,_,c,aXF O.T ht hc rfl,aR5 U⟩
  simp_all
 case makeInterface t x =>
  obtain⟨u,J,L⟩:=bLK (P:=P) O U (I x (by simp)) hc;simp_all[Did.of_value,execOp]
 case typeAssert x xt t ok =>
  obtain⟨u,J,L⟩:=bFb (P:=P) O (xt:=xt) (I x (by simp)) hc;simp_all[Did.of_value,execOp]
 case lookup t m k ok =>
  obtain⟨u,J,L⟩:=bFa (P:=P) O U (I m (by simp)) (I k (by simp)) hc;simp_all[Did.of_value,execOp]
 case move x =>
  simp_all[Did.of_value,execOp,bDU]
 case assign x =>
  simp_all[Did.of_value,execOp,bDU]
 case load t x =>
  obtain⟨u,J,L⟩:=bDN O.T U (I x (by simp)) hc;simp_all[Did.of_value,execOp]
 case binOp op t x y yt =>
  have N:=I x (by simp);have hy:=I y (by simp);split at hc
  ·obtain⟨r,h1,h2,h3⟩:=bLL (P:=P) (ox:=x) O.T N hc;have e:a.eval (.const .nilIface)= .nilIface:=rfl;simp_all[Did.of_value,execOp]
  ·obtain⟨u,J,L⟩:=bLI (P:=P) O.T N hy hc;have hgd:=bGn (P:=P) O.T (u:=a.eval y) (ox:=x) (oy:=y) N hc;simp_all[Did.of_value,execOp]
 case unOp op t x =>
  obtain⟨u,J,L⟩:=bMH (P:=P) (I x (by simp)) hc;simp_all[Did.of_value,execOp]
 case convert s d x =>
  have N:=I x (by simp);unfold bGi at hc ⊢;split at hc
  ·rename_i b hd hb;rw[hb] at N;obtain⟨u,w',c',L,ha⟩:=bAk (P:=P) O.T U hc hd N;exact .inl ⟨u,w',c',by simp[execOp,L],by omega⟩
  ·rename_i hd;split at hc
   ·rename_i hs;split at hc
    ·rename_i k sz off n hx2;split at hc
     ·rename_i q m xs ho;obtain⟨rfl,hle⟩:=hc;rw[hx2] at N;obtain⟨u,J,L⟩:=aYz (P:=P) O.T U hs hd N ho hle;simp_all[Did.of_value,execOp]
     simp_all
    split at hc
    ·rename_i b ha;obtain⟨u,J,L⟩:=aWB (P:=P) O.T U hs hd N ha;simp_all[Did.of_value,execOp]
    simp_all
   ·obtain⟨u,J,L⟩:=bDQ (P:=P) O.T N hc;simp_all[Did.of_value,execOp]
  ·obtain⟨u,J,L⟩:=bDQ (P:=P) O.T N hc;simp_all[Did.of_value,execOp]
 case fieldAddr s x k =>
  obtain⟨u,J,L⟩:=bF9 (P:=P) O.T (I x (by simp)) hc;simp_all[Did.of_value,execOp]
 case field s x k =>
  obtain⟨u,J,L⟩:=bGb (P:=P) O.T (I x (by simp)) hc;simp_all[Did.of_value,execOp]
 case indexAddr t x i =>
  obtain⟨u,J,L⟩:=bGc (P:=P) O.T U (I x (by simp)) (I i (by simp)) hc;simp_all[Did.of_value,execOp]
 case index t x i =>
  obtain⟨u,J,L⟩:=bGe (P:=P) O.T (I x (by simp)) (I i (by simp)) hc;simp_all[Did.of_value,execOp]
 case slice t x lo hi mx =>
  obtain⟨u,J,L⟩:=bGf (P:=P) O.T U (I x (by simp)) (aUv (o:=lo) fun y hy=>I y (by simp[hy])) (aUv (o:=hi) fun y hy=>I y (by simp[hy])) (aUv (o:=mx) fun y hy=>I y (by simp[hy])) hc;simp_all[Did.of_value,execOp]
 case extract x i =>
  have N:=I x (by simp);unfold aQA at hc ⊢;split at hc
  ·rename_i vs e;rw[e] at N;obtain⟨u,J,L⟩:=bJl (P:=P) N hc;simp_all[Did.of_value,execOp]
  simp_all
 case build t ps =>
  have hp:=aOL (l:=ps.toList) (ρ:=ρ) (a:=a) (c:=c) (w:=w) (fun p hp=>I p.2 (List.mem_toArray.2 (List.mem_map_of_mem hp)));have key:∃u,(Instr.build t (ps.toList.map fun p=>(p.1,a.eval p.2)).toArray).run P w= .ok u w∧aY c w (bif E.dz t then aQu E.T t (ps.toList.map fun p=>(p.1,ρ p.2)) else aMd E.T t (ps.toList.map fun p=>(p.1,ρ p.2))).2 u:=by
   cases hdz:E.dz t with
   | true=>simp only[pv,hdz,cond_true] at hc ⊢; exact bE8 (P:=P) O.T hp hc
   | false=>simp only[pv,hdz,cond_false] at hc ⊢; exact bGh (P:=P) O.T hp hc
  obtain⟨u,J,L⟩:=key;have e:(ps.map fun x=>(x.1,a.eval x.2))=(ps.toList.map fun p=>(p.1,a.eval p.2)).toArray:=by grind
  simp_all[Did.of_value,execOp]
 case buildSlice t n ps =>
  have hp:=aOL (l:=ps.toList) (ρ:=ρ) (a:=a) (c:=c) (w:=w) (fun p hp=>I p.2 (List.mem_toArray.2 (List.mem_map_of_mem hp)));obtain⟨u,w',c',J,L⟩:=aWA (P:=P) O.T U hp hc;have e:(ps.map fun x=>(x.1,a.eval x.2))=(ps.toList.map fun p=>(p.1,a.eval p.2)).toArray:=by grind
  exact .inl ⟨u,w',c',by simp_all[execOp],L⟩
 case nilCheck x =>
  have N:=I x (by simp);cases hxv:ρ x<;>rw[hxv] at N hc<;>simp only[aNx] at hc ⊢ <;> (try exact hc.elim)
  ·obtain⟨_,b,_,e⟩:=aGR N;simp_all[Did.of_value,execOp]
  ·obtain⟨b,off,ds,e,_⟩:=aTT N;simp_all[Did.of_value,execOp]
  ·have e:∃f l1 l2,a.eval x= .func (.func f) l1 l2:=by
    obtain⟨h1,_,h3⟩:=N;have h3:=h3 rfl;simp only[aM] at h1;have h1:=h1.2.2;cases hv:a.eval x<;>rw[hv] at h1 h3<;>simp[Value.cells] at h1 h3
    simp_all
   obtain⟨f,l1,l2,e⟩:=e;simp_all[Did.of_value,execOp]
 case makeFunc fn first caps =>
  cases fn with
  | func f =>
   simp only at hc ⊢;unfold aNz at hc ⊢;split at hc
   ·rename_i l1 l2 e1 e2;obtain⟨q1,q2⟩:=aOM U e1 (vs:=first.toList.map a.eval) (by simp) (aMj fun x N=>I x (by simp_all));obtain⟨q3,q4⟩:=aOM U e2 (vs:=caps.toList.map a.eval) (by simp) (aMj fun x N=>I x (by simp_all));simp only[e1,e2];refine Did.of_value U (v:=.func (.func f) (l1.map c.hd).toArray (l2.map c.hd).toArray) ?_ (bLJ q1 q3);have e3:∀l:Array Operand,l.map a.eval=(l.toList.map a.eval).toArray:=fun l=>(by grind);simp_all[execOp,Instr.makeFunc]
   ·rename_i l1 e1 e2;split at hc
    ·rename_i t y e4;obtain⟨q1,q2⟩:=aOM U e1 (vs:=first.toList.map a.eval) (by simp) (aMj fun x N=>I x (by simp_all));simp only[e1,e2,e4];have hl1:l1= []:=hc;subst hl1;have e5:=bGo e4 (vs:=caps.toList.map a.eval) (by simp) (aMj fun x N=>I x (by simp_all));refine Did.of_value U (v:=.func (.func f) #[] (caps.toList.map a.eval).toArray) ?_ (aY.ofV ?_)
     ·have e3:∀l:Array Operand,l.map a.eval=(l.toList.map a.eval).toArray:=fun l=>(by grind);simp_all[execOp,Instr.makeFunc]
     ·unfold dV;rw[if_neg (by simp[Ty.isAgg])];exact⟨_,rfl,e5⟩
    simp_all
   simp_all
  | _=>simp_all
 case call cl =>
  obtain⟨callee,args,argTypes⟩:=cl;simp only at hc ⊢;have hargs:∀x∈args.toList,aY c w (ρ x) (a.eval x):=fun x N=>I x (by
   simp only[Call.operands];exact Array.mem_append.2 (.inr (by simpa using N)))
  cases callee with
  | builtin b =>
   cases b<;>simp only[aOK] at hc ⊢ <;> (try exact hc.elim)
   case len =>
    split at hc
    ·rename_i x t ex et;obtain⟨y,ey,rfl⟩:∃y,args.toList= [y]∧ρ y=x:=by
      simp_all
     have hy:=hargs y (by simp_all);obtain⟨u,J,L⟩:=bLH (P:=P) (ty:=ty) O.T U hy hc;have e1:args= #[y]:=(by grind);have e2:argTypes= #[t]:=(by grind);exact Did.of_value U (by rw[e1,e2]; simp[execOp,resolve,invoke,builtin,J]) L
    simp_all
   case min =>
    unfold bF6 at hc ⊢;split at hc
    ·rename_i x y exy;obtain⟨p,q,epq,rfl,rfl⟩:∃p q,args.toList= [p,q]∧ρ p=x∧ρ q=y:=by
      match hl:args.toList,exy with
      | [p,q],ex=>grind
     have hp:=hargs p (by simp_all);have hq:=hargs q (by simp_all);obtain⟨u,J,L⟩:=aQy (P:=P) hp hq hc;have J:(Builtin.min2 (a.eval p) (a.eval q)).run P w= .ok u w:=J;have e1:args= #[p,q]:=(by grind);exact Did.of_value U (by rw[e1]; simp[execOp,resolve,invoke,builtin,Builtin.min_,J]) L
    ·rename_i x y z Z;obtain⟨p,q,r,epq,rfl,rfl,rfl⟩:∃p q r,args.toList= [p,q,r]∧ρ p=x∧ρ q=y∧ρ r=z:=by
      match hl:args.toList,Z with
      | [p,q,r],ex=>grind
     have hp:=hargs p (by simp_all);have hq:=hargs q (by simp_all);have hr':=hargs r (by simp_all);obtain⟨u,J,L⟩:=aQy (P:=P) hp hq hc.1;obtain⟨u2,Y,hr2⟩:=aQy (P:=P) L hr' hc.2;have J:(Builtin.min2 (a.eval p) (a.eval q)).run P w= .ok u w:=J;have Y:(Builtin.min2 u (a.eval r)).run P w= .ok u2 w:=Y;have e1:args= #[p,q,r]:=(by grind);exact Did.of_value U (by rw[e1]; simp[execOp,resolve,invoke,builtin,Builtin.min_,J,Y]) hr2
    simp_all
   case max =>
    unfold bF6 at hc ⊢;split at hc
    ·rename_i x y exy;obtain⟨p,q,epq,rfl,rfl⟩:∃p q,args.toList= [p,q]∧ρ p=x∧ρ q=y:=by
      match hl:args.toList,exy with
      | [p,q],ex=>grind
     have hp:=hargs p (by simp_all);have hq:=hargs q (by simp_all);obtain⟨u,J,L⟩:=aQy (P:=P) hp hq hc;have J:(Builtin.max2 (a.eval p) (a.eval q)).run P w= .ok u w:=J;have e1:args= #[p,q]:=(by grind);exact Did.of_value U (by rw[e1]; simp[execOp,resolve,invoke,builtin,Builtin.max_,J]) L
    ·rename_i x y z Z;obtain⟨p,q,r,epq,rfl,rfl,rfl⟩:∃p q r,args.toList= [p,q,r]∧ρ p=x∧ρ q=y∧ρ r=z:=by
      match hl:args.toList,Z with
      | [p,q,r],ex=>grind
     have hp:=hargs p (by simp_all);have hq:=hargs q (by simp_all);have hr':=hargs r (by simp_all);obtain⟨u,J,L⟩:=aQy (P:=P) hp hq hc.1;obtain⟨u2,Y,hr2⟩:=aQy (P:=P) L hr' hc.2;have J:(Builtin.max2 (a.eval p) (a.eval q)).run P w= .ok u w:=J;have Y:(Builtin.max2 u (a.eval r)).run P w= .ok u2 w:=Y;have e1:args= #[p,q,r]:=(by grind);exact Did.of_value U (by rw[e1]; simp[execOp,resolve,invoke,builtin,Builtin.max_,J,Y]) hr2
    simp_all
  | value f =>
   have hf:=I f (by simp[Call.operands]);simp only[aOK] at hc ⊢;have hav:=aMj (ρ:=ρ) (a:=a) (c:=c) (w:=w) hargs;split at hc
   ·rename_i g l2 e;rw[e] at hf;split at hc
    ·rename_i hb;simp only[e,if_pos hb];obtain⟨hl2,hfv⟩:=bDX hf;grind[aUx,aKW]
    simp_all
   ·rename_i g t y e;rw[e] at hf;split at hc
    ·rename_i hb;simp only[e,if_pos hb];grind[bAp,aUw,aUx]
    simp_all
   simp_all
  | _=>exact hc.elim
end
end Go.Vc

