import Derived.Test.YtmhjkbdicaelbaaGreatDoorZL1
import Derived.Laws.IdiomStrings
import Derived.Laws.BytesArg
import Derived.MapKept
set_option linter.unusedVariables false
set_option linter.unusedSimpArgs false
namespace Go.Vc
open Go.RowKit
section
variable {P:Program} {T:Tab} {M:Perm} {w0:World} {c:Ctx} {h:List Obj} {w:World}
theorem aBL{f:AV}{v:Value}{i:Int}(hv:aZ c w f v)(hi:aDx f=some i):∃k,v= .int k i:=by
 cases f with
 | val t x =>
  cases t with
  | i k=>simp only[aDx] at hi; cases hi; exact⟨k,(aGy hv).1⟩
  | u k=>simp only[aDx] at hi; cases hi; exact⟨k,(aI0 hv).1⟩
  | _=>grind[aDx]
 | _=>grind[aDx]
theorem aET{t:Ty}{xs:List t.den}{v:Value}(hv:cZ w c.S (.sl t) xs v):∃a len cap,v= .slice a len cap∧SlR w c.S (bC w c.S t) t.cells xs a len cap:=by
 simp only[cZ,Ty.isAgg,Bool.false_eq_true,if_false] at hv;obtain⟨a,len,cap,e,h⟩:=hv;grind
theorem aCW{i:Nat}{v:Value}(hv:aZ c w (.own i) v):i<c.n∧v=c.hd i:=by
 obtain⟨f,_,h3⟩:=hv;simp only[aN] at f;have h3:=h3 rfl;simp_all[Value.cells]
theorem bBw{t:Ty}{xs:List t.den}{v:Value}(hv:aZ c w (.full t xs) v):∃a n,v= .slice a n n∧SlR w c.S (bC w c.S t) t.cells xs a n n:=by
 obtain⟨f,_,h3⟩:=hv;simp only[aN] at f;obtain⟨a,n,e,h⟩:=f;have h3:=h3 rfl;refine⟨a,n,?_,h⟩;simp_all[Value.cells]
theorem dZ{t:TypeId}{g:Ty}(f:aEi P T t (.sl g)):∃e,P.underlying t=some (.slice e)∧T e=some g∧0<g.cells:=by
 obtain⟨d,hd,hb⟩:=f.desc;cases d<;>simp[fM] at hb
 simp_all
theorem aEU{t:TypeId}{n:Nat}{g:Ty}(f:aEi P T t (.arr n g)):∃e,P.underlying t=some (.array n e)∧T e=some g∧0<g.cells∧1<n∧n≤1048576:=by
 obtain⟨d,hd,hb⟩:=f.desc;cases d<;>simp[fM] at hb
 grind
theorem aBd{t:TypeId}(f:aEi P T t .str):P.underlying t=some .string:=by
 obtain⟨d,hd,hb⟩:=f.desc;grind[fM]
theorem aT1{t:TypeId}{f:Ty}(q:iF P T)(ht:T t=some (.sl f)){xs:List f.den}{a:Option Addr}{len cap:Nat}(hs:SlR w c.S (bC w c.S f) f.cells xs a len cap){i:Int}{k:IntKind}(h0:0≤i)(N:i<(xs.length:Int)) :
  ∃u,(Instr.indexAt t (.slice a len cap) (.int k i)).run P w= .ok u w∧aZ c w (.roa f (xs.getD i.toNat f.zero)) u:=by
 obtain⟨e,hd,he,I⟩:=dZ (q _ _ ht);obtain⟨hl,J,z,hx⟩:=hs;rcases hx with hx|⟨b,off,rfl,hb,hcell⟩
 ·grind
 ·obtain⟨ds,L,hc⟩:=hcell i.toNat (by omega);refine⟨.pointer (some ⟨b,off+i.toNat*f.cells,none⟩),?_,aHn hb ?_ hc⟩
  ·have g:i<(len:Int):=(by omega);simp[Instr.indexAt,asIntOf,bB hd,h0,g,dQ (q _ _ he),Result.andThen,vN]
  grind
theorem aTC{i s off n:Nat}{v:Value}(hv:aZ c w (.sub i s off n) v):i<c.n∧n≤maxLen∧ ∃b cap,aW (c.hd i)=some b∧v= .slice (some ⟨b,off*s,none⟩) n cap:=by
 obtain⟨f,_,h3⟩:=hv;simp only[aN] at f;obtain⟨hi,g,b,cap,hb,e⟩:=f;have h3:=h3 rfl;simp_all[Value.cells]
theorem bH8(J:iF P T)(hg:Good M w0 c h w){t:TypeId}{x ix:AV}{v iv:Value}(hv:aZ c w x v)(hi:aZ c w ix iv)(hc:(aMW T h t x ix).1) :
  ∃u,(Instr.indexAt t v iv).run P w= .ok u w∧aZ c w (aMW T h t x ix).2 u:=by
 unfold aMW at hc ⊢;cases hix:aDx ix with
 | none=>simp_all
 | some i =>
  obtain⟨k,rfl⟩:=aBL hi hix;simp only[hix] at hc ⊢;cases x with
  | val tx L =>
   cases tx with
   | sl q =>
    simp only at hc ⊢;obtain⟨a,len,O,rfl,hs⟩:=aET hv.toV;exact aT1 J hc.1 hs hc.2.1 hc.2.2
   | _=>simp_all
  | full q L =>
   simp only at hc ⊢;obtain⟨a,n,rfl,hs⟩:=bBw hv;exact aT1 J hc.1 hs hc.2.1 hc.2.2
  | own j =>
   obtain⟨hj,rfl⟩:=aCW hv;simp only at hc ⊢;cases ho:h[j]? with
   | none=>simp_all
   | some o =>
    have W:=hg.objs j o ho;cases o with
    | row e q L =>
     simp only[ho] at hc ⊢;obtain⟨ht,h0,Y⟩:=hc;obtain⟨e',hd,he,z⟩:=dZ (J _ _ ht);obtain⟨vals,I,_⟩:=W;obtain⟨Z,U⟩:=I;rcases U with⟨f,h00⟩|⟨g,O,cur,f,_,hheap,hle,hcap,hsz,htake⟩
     ·omega
     ·have N:i<(L.length:Int):=Y;refine⟨.pointer (some ⟨g,mH [.idx q.cells i.toNat],none⟩),?_,aKv hj (by rw[f]; rfl)⟩;rw[f];simp[Instr.indexAt,asIntOf,bB hd,h0,N,dQ (J _ _ he),Result.andThen,vN,mH,Step.off]
    | tre e m q L =>
     simp only[ho] at hc ⊢;obtain⟨ht,h0,Y⟩:=hc;obtain⟨e',hd,he,z⟩:=dZ (J _ _ ht);obtain⟨B,⟨vv,css,Bs,hvv0,I,_⟩,_⟩:=W;obtain rfl:c.hd j=vv:=(List.cons.inj hvv0).1;obtain⟨Z,U⟩:=I;rcases U with⟨f,h00⟩|⟨g,O,cur,f,_,hheap,hle,hcap,hsz,htake⟩
     ·omega
     ·have N:i<(L.length:Int):=Y;refine⟨.pointer (some ⟨g,mH [.idx q.cells i.toNat],none⟩),?_,aKv hj (by rw[f]; rfl)⟩;rw[f];simp[Instr.indexAt,asIntOf,bB hd,h0,N,dQ (J _ _ he),Result.andThen,vN,mH,Step.off]
    | trh e m q L kk vk =>
     simp only[ho] at hc ⊢;obtain⟨ht,h0,Y⟩:=hc;obtain⟨e',hd,he,z⟩:=dZ (J _ _ ht);obtain⟨css,Bs,hq⟩:=W;have I:=hq.row;obtain⟨Z,U⟩:=I;rcases U with⟨f,h00⟩|⟨g,O,cur,f,_,hheap,hle,hcap,hsz,htake⟩
     ·omega
     ·have N:i<(L.length:Int):=Y;refine⟨.pointer (some ⟨g,mH [.idx q.cells i.toNat],none⟩),?_,aKv hj (by rw[f]; rfl)⟩;rw[f];simp[Instr.indexAt,asIntOf,bB hd,h0,N,dQ (J _ _ he),Result.andThen,vN,mH,Step.off]
    | frz q L =>
     simp only[ho] at hc ⊢;obtain⟨a,len,O,e,hs⟩:=W;simp at e;rw[e];exact aT1 J hc.1 hs hc.2.1 hc.2.2
    | _=>simp_all
  | sub j s off n =>
   obtain⟨hj,hn,b,O,hb,rfl⟩:=aTC hv;simp only at hc ⊢;cases ho:h[j]? with
   | none=>simp_all
   | some o =>
    cases o with
    | row e q L =>
     simp only[ho] at hc ⊢;obtain⟨ht,rfl,h0,Y⟩:=hc;obtain⟨e',hd,he,z⟩:=dZ (J _ _ ht);refine⟨.pointer (some ⟨b,mH [.idx q.cells (off+i.toNat)],none⟩),?_,aKv hj hb⟩;have e1:off*q.cells+i.toNat*q.cells=(off+i.toNat)*q.cells:=(Nat.add_mul _ _ _).symm;simp[Instr.indexAt,asIntOf,bB hd,h0,Y,dQ (J _ _ he),Result.andThen,vN,mH,Step.off,e1]
    | _=>simp_all
  | ptr j p =>
   obtain⟨hj,b,hb,rfl⟩:=aFJ hv;simp only at hc ⊢;cases ht:T t with
   | none=>simp_all
   | some q =>
    cases q with
    | arr n q =>
     simp only[ht] at hc ⊢;obtain⟨e,hd,he,z,hn⟩:=aEU (J _ _ ht);refine⟨.pointer (some ⟨b,mH (p++ [.idx q.cells i.toNat]),none⟩),?_,aKv hj hb⟩;simp[Instr.indexAt,asIntOf,bB hd,hc.1,hc.2,dQ (J _ _ he),Result.andThen,vN,aHo,mH,Step.off,Instr.sureAddr]
    | _=>simp_all
  | roa tx L =>
   cases tx with
   | arr n q =>
    simp only at hc ⊢;obtain⟨ht,h0,Y⟩:=hc;obtain⟨e,hd,he,z,hn⟩:=aEU (J _ _ ht);obtain⟨b,off,ds,rfl,hb,hrep,hcell⟩:=aTB hv;obtain⟨pre,ds',post,e1,hp,hd'⟩:=aPm (c:=c) (.val (.arr n q) L) i.toNat ds hrep (by grind[elemOf]);refine⟨.pointer (some ⟨b,off+i.toNat*q.cells,none⟩),?_,aHn hb hd' ?_⟩
    ·simp[Instr.indexAt,asIntOf,bB hd,h0,Y,dQ (J _ _ he),Result.andThen,vN,Instr.sureAddr]
    ·have:=aEj hcell e1;rw[hp] at this; exact this
   | _=>simp_all
  | _=>simp_all
theorem rG(s:ByteArray):(aI s).length=s.size:=by
 obtain⟨⟨l⟩⟩:=s; simp[aI,ByteArray.size]
theorem bH9(s:ByteArray){i:Nat}(h:i<s.size):(aI s).getD i 0=s[i].toNat:=by
 obtain⟨⟨l⟩⟩:=s;have h':i<l.length:=h;simp only[aI,List.getD_eq_getElem?_getD,List.getElem?_map];rw[List.getElem?_eq_getElem h'];rfl
theorem bIa(z:iF P T){t:TypeId}{x q:AV}{v U:Value}(hv:aZ c w x v)(hi:aZ c w q U)(hc:(aMX T t x q).1) :
  ∃u,(Instr.index t v U).run P w= .ok u w∧aZ c w (aMX T t x q).2 u:=by
 unfold aMX at hc ⊢;cases f:aDx q with
 | none=>simp_all
 | some i =>
  obtain⟨k,rfl⟩:=aBL hi f;simp only[f] at hc ⊢;cases x with
  | val tx Z =>
   cases tx with
   | arr n W =>
    simp only at hc ⊢;obtain⟨ht,h0,L⟩:=hc;obtain⟨e,hd,he,O,hn⟩:=aEU (z _ _ ht);obtain⟨Y,h2,_⟩:=hv;obtain⟨cs,rfl⟩:=h2 rfl;obtain⟨pre,ds',post,e1,hp,I⟩:=aPm (c:=c) (.val (.arr n W) Z) i.toNat _ Y (by grind[elemOf]);obtain⟨u,N,J⟩:=aE1 (z _ _ he) e1 I w;rw[hp] at N;simp only[aYj,Value.cells] at N;refine⟨u,?_,aZ.ofV J⟩;simp[Instr.index,asIntOf,bB hd,h0,L,dQ (z _ _ he),Result.andThen,N]
   | str =>
    simp only at hc ⊢;obtain⟨ht,h0,L⟩:=hc;have hd:=aBd (z _ _ ht);obtain⟨s,rfl,rfl,hs⟩:=aQO hv;rw[rG] at L;have g:i.toNat<s.size:=(by omega);refine⟨.int .u8 (s[i.toNat].toNat:Int),?_,?_⟩
    ·simp[Instr.index,asIntOf,bB hd,h0,getElem?_pos,g]
    ·rw[bH9 s g]; exact aKL rfl (by simp[gT,IntKind.bits]; exact s[i.toNat].toNat_lt)
   | _=>simp_all
  | _=>simp_all
theorem aT2:(maxLen:Int)=IntKind.max .i64:=by rfl
theorem tC{n:Nat}(h:n≤maxLen):fits .i64 (n:Int):=by
 refine⟨?_,by grind[aT2]⟩;simp[IntKind.min,IntKind.signed,IntKind.bits]
theorem bNi(O:iF P T)(hg:Good M w0 c h w){t ty:TypeId}{x:AV}{v:Value}(hv:aZ c w x v)(hc:(aI4 T h t x).1) :
  ∃u,(Builtin.len_ #[t] ty #[v]).run P w= .ok u w∧aZ c w (aI4 T h t x).2 u:=by
 cases x with
 | val tx Z =>
  cases tx with
  | str =>
   simp only[aI4] at hc ⊢;obtain⟨s,rfl,rfl,hs⟩:=aQO hv;exact⟨.int .i64 s.size,by simp[Builtin.len_,bB (aBd (O _ _ hc)),goInt],by rw[rG]; exact aCl rfl (tC hs)⟩
  | sl Y =>
   simp only[aI4] at hc ⊢;obtain⟨e,hd,_⟩:=dZ (O _ _ hc);obtain⟨a,len,L,rfl,hl,I,q,_⟩:=aET hv.toV;exact⟨.int .i64 len,by simp[Builtin.len_,bB hd,goInt],by rw[hl]; exact aCl rfl (tC (by omega))⟩
  | arr n Y =>
   simp only[aI4] at hc ⊢;obtain⟨e,hd,_,_,_,hn⟩:=aEU (O _ _ hc);exact⟨.int .i64 n,by simp[Builtin.len_,bB hd,goInt],aCl rfl (tC (by unfold maxLen; omega))⟩
  | _=>exact hc.elim
 | full Y Z =>
  simp only[aI4] at hc ⊢;obtain⟨e,hd,_⟩:=dZ (O _ _ hc);obtain⟨a,n,rfl,hl,I,q,_⟩:=bBw hv;exact⟨.int .i64 n,by simp[Builtin.len_,bB hd,goInt],by rw[hl]; exact aCl rfl (tC (by omega))⟩
 | nilS =>
  simp only[aI4] at hc ⊢;obtain⟨Y,hc⟩:=hc;obtain⟨e,hd,_⟩:=dZ (O _ _ hc);obtain⟨h1,_,h3⟩:=hv;simp only[aN] at h1;have h3:=h3 rfl;have:v= .slice none 0 0:=by simp_all[Value.cells]
  subst this;exact⟨.int .i64 0,by simp[Builtin.len_,bB hd,goInt],aCl rfl (tC (Nat.zero_le _))⟩
 | sub j s off n =>
  obtain⟨hj,hn,b,L,hb,rfl⟩:=aTC hv;simp only[aI4] at hc ⊢;obtain⟨Y,hc⟩:=hc;obtain⟨e,hd,_⟩:=dZ (O _ _ hc);exact⟨.int .i64 n,by simp[Builtin.len_,bB hd,goInt],aCl rfl (tC hn)⟩
 | own j =>
  obtain⟨hj,rfl⟩:=aCW hv;simp only[aI4] at hc ⊢;cases ho:h[j]? with
  | none=>simp_all
  | some o =>
   have U:=hg.objs j o ho;cases o with
   | row e Y Z =>
    simp only[ho] at hc ⊢;obtain⟨e',hd,he,z⟩:=dZ (O _ _ hc);obtain⟨vals,⟨W,N⟩,_⟩:=U;rcases N with⟨f,J⟩|⟨g,L,cur,f,_,hheap,I,q,hsz,htake⟩
    ·rw[f,J];exact⟨.int .i64 0,by simp[Builtin.len_,bB hd,goInt],aCl rfl (tC (Nat.zero_le _))⟩
    ·rw[f];exact⟨.int .i64 Z.length,by simp[Builtin.len_,bB hd,goInt],aCl rfl (tC (by omega))⟩
   | tre e m Y Z =>
    simp only[ho] at hc ⊢;obtain⟨e',hd,he,z⟩:=dZ (O _ _ hc);obtain⟨B,⟨vv,css,Bs,hvv0,⟨W,N⟩,_⟩,_⟩:=U;obtain rfl:c.hd j=vv:=(List.cons.inj hvv0).1;rcases N with⟨f,J⟩|⟨g,L,cur,f,_,hheap,I,q,hsz,htake⟩
    ·rw[f,J];exact⟨.int .i64 0,by simp[Builtin.len_,bB hd,goInt],aCl rfl (tC (Nat.zero_le _))⟩
    ·rw[f];exact⟨.int .i64 Z.length,by simp[Builtin.len_,bB hd,goInt],aCl rfl (tC (by omega))⟩
   | trh e m Y Z kk vk =>
    simp only[ho] at hc ⊢;obtain⟨e',hd,he,z⟩:=dZ (O _ _ hc);obtain⟨css,Bs,hq⟩:=U;obtain⟨W,N⟩:=hq.row;rcases N with⟨f,J⟩|⟨g,L,cur,f,_,hheap,I,q,hsz,htake⟩
    ·rw[f,J];exact⟨.int .i64 0,by simp[Builtin.len_,bB hd,goInt],aCl rfl (tC (Nat.zero_le _))⟩
    ·rw[f];exact⟨.int .i64 Z.length,by simp[Builtin.len_,bB hd,goInt],aCl rfl (tC (by omega))⟩
   | frz Y Z =>
    simp only[ho] at hc ⊢;obtain⟨e',hd,he,z⟩:=dZ (O _ _ hc);obtain⟨a,len,L,e,hl,I,q,_⟩:=U;simp at e;rw[e];exact⟨.int .i64 len,by simp[Builtin.len_,bB hd,goInt],by rw[hl]; exact aCl rfl (tC (by omega))⟩
   | _=>simp_all
 | _=>exact hc.elim
theorem bOb{f:UnOp}{x:AV}{v:Value}(hv:aZ c w x v)(hc:(bD0 f x).1) :
  ∃u,(Op.unary f v).run P w= .ok u w∧aZ c w (bD0 f x).2 u:=by
 cases x with
 | val t y =>
  cases t with
  | bool =>
   obtain rfl:=aFG hv;cases f<;>simp only[bD0] at hc ⊢
   exact⟨_,rfl,aE0 _⟩
  | i k =>
   obtain⟨rfl,hk,g⟩:=aGy hv;cases f<;>simp only[bD0] at hc ⊢
   simp_all[Op.unary,Op.intArith,aHi,aCl]
  | u k =>
   obtain⟨rfl,hk,g⟩:=aI0 hv;cases f<;>simp only[bD0] at hc ⊢
   ·have hp:=aEZ k;have:=aY8 (P:=P) (w:=w) (c:=c) .sub 0 (a:=0) (b:=y) hk hp g (by simp[aY7]);obtain⟨u,q,z⟩:=this;refine⟨u,?_,by grind[aY7,aKq,aY6]⟩
    simpa [binOp,Op.unary] using q
   ·have hp:=aEZ k;have:=aY8 (P:=P) (w:=w) (c:=c) .xor 0 (a:=gT k-1) (b:=y) hk (by omega) g (by simp[aY7]);obtain⟨u,q,z⟩:=this;refine⟨u,?_,by grind[aY7]⟩;grind[gT,bFl,binOp,Op.unary]
  | _=>exact hc.elim
 | _=>exact hc.elim
theorem bFw{k k':IntKind}(h:k.bits≤k'.bits):gT k≤gT k':=Nat.pow_le_pow_right (by omega) h
theorem bD2{k k':IntKind}(hk:k.signed=true)(f:k'.signed=true)(h:k.bits≤k'.bits){n:Int}(z:fits k n):fits k' n:=by
 obtain⟨g,q⟩:=z;cases k<;>simp[IntKind.signed] at hk<;>cases k'<;>simp[IntKind.signed] at f<;>simp[IntKind.bits] at h<;>simp[fits,IntKind.min,IntKind.max,IntKind.signed,IntKind.bits] at g q ⊢ <;> omega
theorem bGU{k k':IntKind}(hk:k.signed=false)(f:k'.signed=true)(h:k.bits<k'.bits){n:Nat}(g:n<gT k):fits k' (n:Int):=by
 cases k<;>simp[IntKind.signed] at hk<;>cases k'<;>simp[IntKind.signed] at f<;>simp[IntKind.bits] at h<;>simp[fits,IntKind.min,IntKind.max,IntKind.signed,IntKind.bits,gT] at g ⊢ <;> omega
theorem bFx(O:iF P T){src L:TypeId}{x:AV}{v:Value}(hv:aZ c w x v)(hc:(aPn T src L x).1) :
  ∃u,(convert src L v).run P w= .ok u w∧aZ c w (aPn T src L x).2 u:=by
 have q:(T src).isSome=true→ ∃d,P.underlying src=some d:=fun h=>by
  obtain⟨ct,U⟩:=Option.isSome_iff_exists.1 h;obtain⟨d,hd,_⟩:=(O _ _ U).desc;simp_all
 unfold aPn at hc ⊢;cases f:T L with
 | none=>simp_all
 | some cd =>
  obtain⟨Z,z,I⟩:=(O _ _ f).desc;cases x with
  | val t y =>
   cases cd with
   | u k =>
    cases Z<;>simp[fM] at I
    obtain⟨rfl,J⟩:=I;cases t with
    | u Y =>
     simp only[f] at hc ⊢;obtain⟨ds,g⟩:=q hc;obtain⟨rfl,N,hy⟩:=aI0 hv;refine⟨_,by simp[convert,bB g,bB z,Conv.intToInt]; rfl,?_⟩;rw[aBJ J];split
     ·rename_i W; rw[Nat.mod_eq_of_lt (Nat.lt_of_lt_of_le hy (bFw W))]; grind[aKL,Nat.lt_of_lt_of_le,bFw]
     ·exact aKL J (Nat.mod_lt _ (aEZ _))
    | i Y =>
     simp only[f] at hc ⊢;obtain⟨ds,g⟩:=q hc;obtain⟨rfl,N,hy⟩:=aGy hv;refine⟨_,by simp[convert,bB g,bB z,Conv.intToInt]; rfl,?_⟩;rw[bDU J];have hp:=aEZ k;have h1:=Int.emod_nonneg y (show (gT k:Int)≠0 by omega);have h2:=Int.emod_lt_of_pos y (show (0:Int)<gT k by omega);grind[aKL,gT,Int.toNat_of_nonneg]
    | _=>simp_all
   | i k =>
    cases Z<;>simp[fM] at I
    obtain⟨rfl,J⟩:=I;cases t with
    | u Y =>
     simp only[f] at hc ⊢;obtain⟨ds,g⟩:=q hc;obtain⟨rfl,N,hy⟩:=aI0 hv;refine⟨_,by simp[convert,bB g,bB z,Conv.intToInt]; rfl,?_⟩;grind[bGU,aHi,aCl,aES]
    | i Y =>
     simp only[f] at hc ⊢;obtain⟨ds,g⟩:=q hc;obtain⟨rfl,N,hy⟩:=aGy hv;refine⟨_,by simp[convert,bB g,bB z,Conv.intToInt]; rfl,?_⟩;grind[bD2,aHi,aCl,aES]
    | _=>simp_all
   | str =>
    cases Z<;>simp[fM] at I
    cases t with
    | str =>
     simp only[f] at hc ⊢;obtain⟨s,rfl,rfl,hs⟩:=aQO hv;exact⟨_,by simp[convert,bB (aBd (O _ _ hc)),bB z],bKR hs⟩
    | _=>simp_all
   | _=>simp_all
  | _=>simp_all
theorem bFy(f:BinOp)(t:TypeId){k k':IntKind}{a:Nat}{b:Int}(hk:k.signed=false)(ha:a<gT k)(h0:0≤b)(h:(shU f k a b.toNat).1) :
  ∃v,(binOp f t (.int k a) (.int k' b)).run P w= .ok v w∧aZ c w (shU f k a b.toNat).2 v:=by
 have:=bDV (P:=P) (w:=w) (c:=c) f t (k:=k) (k':=k') (a:=a) (n:=b.toNat) hk ha h;grind
theorem bFz(f:BinOp)(t:TypeId){k k':IntKind}{a b:Int}(hk:k.signed=true)(ha:fits k a)(h0:0≤b)(g:f= .shl→b≤k.bits)(h:(shI f k a b.toNat).1) :
  ∃v,(binOp f t (.int k a) (.int k' b)).run P w= .ok v w∧aZ c w (shI f k a b.toNat).2 v:=by
 have:=bDW (P:=P) (w:=w) (c:=c) f t (k:=k) (k':=k') (a:=a) (n:=b.toNat) hk ha (fun e=>by simp_all) h;grind
theorem bBx(a b:ByteArray):aI (a++b)=aI a++aI b:=by
 grind[List.map,ByteArray.data_append,aI]
theorem bFA:∀(a b:List UInt8),Op.bytesLess a b=aMQ (a.map (·.toNat)) (b.map (·.toNat))
 | a,[]=>by grind[Op.bytesLess,aMQ]
 | [],b::r=>by rfl
 | a::x,b::y=>by
  simp only[Op.bytesLess,List.map_cons,aMQ,bFA x y];have e1:decide (a<b)=decide (a.toNat<b.toNat):=by rfl
  have f:(a == b)=decide (a.toNat=b.toNat):=by rw[Bool.eq_iff_iff]; simp[UInt8.toNat_inj]
  grind
theorem bBy(s:ByteArray):aI s=s.toList.map (·.toNat):=by rw[ByteArray.toList_eq]; rfl
theorem bK0{f:BinOp}(t:TypeId){s r:ByteArray}(hs:s.size≤maxLen)(q:r.size≤maxLen)(hc:(bHX f (aI s) (aI r)).1) :
  ∃u,(binOp f t (.string s) (.string r)).run P w= .ok u w∧aZ c w (bHX f (aI s) (aI r)).2 u:=by
 have hl:Op.bytesLess s.toList r.toList=aMQ (aI s) (aI r):=by grind[bFA,bBy]
 cases f<;>simp only[bHX] at hc ⊢
 case add =>
  rw[rG,rG] at hc;have g:(s++r).size=s.size+r.size:=by simp
  refine⟨.string (s++r),?_,by grind[bBx,bKR]⟩;have:¬(((s.size+r.size:Nat):Int)>IntKind.max .i64):=by grind[aT2]
  simp_all[binOp,Op.stringOp,if_false]
 all_goals simp_all[binOp,Op.stringOp,bNb,aE0]
theorem bIb(Y:iF P T){J:BinOp}{t:TypeId}{x y:AV}{v u:Value}(hv:aZ c w x v)(g:aZ c w y u)(hc:(aCo T J t x y).1) :
  ∃r,(binOp J t v u).run P w= .ok r w∧aZ c w (aCo T J t x y).2 r:=by
 have f:∀(I:Ty) (a b:I.den) (v u:Value),I.isAgg=true→aZ c w (.val I a) v→aZ c w (.val I b) u→T t=some I→I.cmpB=true→I.deep≤100 →
   (binOp .eql t v u).run P w= .ok (.bool (I.eqb a b)) w∧(binOp .neq t v u).run P w= .ok (.bool (!I.eqb a b)) w:=by
  intro I a b v u ha hv g ht O hd;have N:=aHj Y w ht O hd hv.toV g.toV;obtain⟨cs,rfl⟩:=hv.2.1 ha;obtain⟨Z,rfl⟩:=g.2.1 ha;simp_all[binOp]
 cases x with
 | val t1 a =>
  cases t1 with
  | u k =>
   cases y with
   | val z b =>
    cases z with
    | u U =>
     obtain⟨rfl,hk,ha⟩:=aI0 hv;obtain⟨rfl,L,hb⟩:=aI0 g;cases J
     case shl=>exact bDV (P:=P) .shl t hk ha (by simp[shU])
     case shr=>exact bDV (P:=P) .shr t hk ha (by simp[shU])
     all_goals
      simp only[aCo] at hc ⊢;split at hc
      all_goals simp_all[if_true,aY8]
    | i U =>
     obtain⟨rfl,hk,ha⟩:=aI0 hv;obtain⟨rfl,L,hb⟩:=aGy g;cases J<;>simp only[aCo] at hc ⊢
     case shl=>exact bFy (P:=P) .shl t hk ha hc (by simp[shU])
     case shr=>exact bFy (P:=P) .shr t hk ha hc (by simp[shU])
    | _=>exact hc.elim
   | _=>exact hc.elim
  | i k =>
   cases y with
   | val z b =>
    cases z with
    | i U =>
     obtain⟨rfl,hk,ha⟩:=aGy hv;obtain⟨rfl,L,hb⟩:=aGy g;cases J
     case shl =>
      simp_all[aCo,bFz]
     case shr =>
      simp only[aCo] at hc ⊢;exact bFz (P:=P) .shr t hk ha hc (fun h=>by cases h) (by simp[shI])
     all_goals
      simp only[aCo] at hc ⊢;split at hc
      all_goals simp_all[if_true,bKT]
    | u U =>
     obtain⟨rfl,hk,ha⟩:=aGy hv;obtain⟨rfl,L,hb⟩:=aI0 g;cases J<;>simp only[aCo] at hc ⊢
     case shl=>simp_all[bDW]
     case shr=>exact bDW (P:=P) .shr t hk ha (fun h=>by cases h) (by simp[shI])
    | _=>exact hc.elim
   | _=>exact hc.elim
  | str =>
   cases y with
   | val z b =>
    cases z with
    | str =>
     simp only[aCo] at hc ⊢;obtain⟨s,rfl,rfl,hs⟩:=aQO hv;obtain⟨r,rfl,rfl,hr⟩:=aQO g;simp_all[bK0]
    | _=>exact hc.elim
   | _=>exact hc.elim
  | bool =>
   cases y with
   | val z b =>
    cases z with
    | bool =>
     simp only[aCo] at hc ⊢;obtain rfl:=aFG hv;obtain rfl:=aFG g;have N:=aHj (P:=P) (T:=T) Y w (S:=c.S) (w:=w) (x:=a) (y:=b) hc.1 rfl (by simp[Ty.deep]) hv.toV g.toV;have W:=hc.2;cases J<;>simp only[bKS] at W ⊢
     ·exact⟨.bool (a == b),by simp only[binOp,Sem.run_bind,N,Result.andThen_ok]; rfl,aE0 _⟩
     ·exact⟨.bool (a != b),by simp only[binOp,Sem.run_bind,N,Result.andThen_ok]; rfl,aE0 _⟩
    | _=>exact hc.elim
   | _=>exact hc.elim
  | pair p q =>
   cases y with
   | val z b =>
    simp only[aCo] at hc ⊢;by_cases e:z= .pair p q
    ·subst e;simp only[dite_true] at hc ⊢;cases J<;>simp only at hc ⊢ <;> (try exact hc.elim)
     ·exact⟨_,(f _ _ _ _ _ rfl hv g hc.1 hc.2.1 hc.2.2).1,aE0 _⟩
     ·exact⟨_,(f _ _ _ _ _ rfl hv g hc.1 hc.2.1 hc.2.2).2,aE0 _⟩
    simp_all
   | _=>exact hc.elim
  | arr n q =>
   cases y with
   | val z b =>
    simp only[aCo] at hc ⊢;by_cases e:z= .arr n q
    ·subst e;simp only[dite_true] at hc ⊢;cases J<;>simp only at hc ⊢ <;> (try exact hc.elim)
     ·exact⟨_,(f _ _ _ _ _ rfl hv g hc.1 hc.2.1 hc.2.2).1,aE0 _⟩
     ·exact⟨_,(f _ _ _ _ _ rfl hv g hc.1 hc.2.1 hc.2.2).2,aE0 _⟩
    simp_all
   | _=>exact hc.elim
  | _=>exact hc.elim
 | _=>exact hc.elim
end
end Go.Vc
namespace Go.Vc
open Go.RowKit
section
variable {P:Program} {T:Tab} {M:Perm} {w0:World} {c:Ctx} {h:List Obj} {w:World}
theorem eS{i:Int}{k:IntKind}{y:Nat}{f:BoundsCode}(h0:0≤i)(g:i≤(y:Int)):(Instr.sliceBound (.int k i) y f).run P w= .ok i.toNat w:=by
 simp[Instr.sliceBound,asIntOf,h0,g]
inductive aW0(c:Ctx)(w:World):Option AV→Option Value→Prop where
 | none:aW0 c w none none
 | some {a:AV} {v:Value} (h:aZ c w a v):aW0 c w (some a) (some v)
theorem aCD{o:Option AV}{v:Option Value}(hv:aW0 c w o v){i:Int}(hi:o.map aDx=some (some i)):∃k,v=some (.int k i):=by
 cases hv with
 | none=>cases hi
 | some hv =>
  simp at hi;obtain⟨k,rfl⟩:=aBL hv hi;simp_all
theorem tD{o:Option AV}{v:Option Value}(hv:aW0 c w o v)(hi:o.map aDx=none):v=none:=by
 cases hv with
 | none=>rfl
 | some hv=>grind
theorem aZd(s:ByteArray)(l n:Nat):aI (s.extract l n)=((aI s).take n).drop l:=by
 obtain⟨⟨x⟩⟩:=s;simp only[aI,ByteArray.data_extract,List.extract_toArray,List.extract_eq_take_drop];simp[List.map_take,List.map_drop,List.drop_take]
theorem aKx{t:TypeId}(hd:P.underlying t=some .string){s:ByteArray}(hs:s.size≤maxLen){lo hi:Option Value}{l u:Nat}
  (hb:(Instr.sliceBounds false s.size s.size lo hi none).run P w= .ok (l,u,s.size) w) :
  (Instr.sliceAt t (.string s) lo hi none).run P w= .ok (.string (s.extract l u)) w∧aZ c w (.val .str (((aI s).take u).drop l)) (.string (s.extract l u)):=by
 refine⟨by simp[Instr.sliceAt,Instr.slice,bB hd,hb],?_⟩;rw[← aZd];refine bKR ?_;have:(s.extract l u).size≤s.size:=by simp; omega
 omega
theorem aGB{t e:TypeId}{f:Ty}(hd:P.underlying t=some (.slice e))(he:aEi P T e f){xs:List f.den}{a:Option Addr}{len cap:Nat}(hs:SlR w c.S (bC w c.S f) f.cells xs a len cap){lo hi mx:Option Value}{l u m:Nat}
  (hb:(Instr.sliceBounds true len cap lo hi mx).run P w= .ok (l,u,m) w) (N:l≤u) (U:u≤len) (h3:u≤m) (O:m≤cap) :
  ∃z ,(Instr.sliceAt t (.slice a len cap) lo hi mx).run P w= .ok (.slice z (u-l) (m-l)) w∧SlR w c.S (bC w c.S f) f.cells ((xs.take u).drop l) z (u-l) (m-l):=by
 refine⟨if m=l then a else a.map (·.add (l*f.cells)),by simp[Instr.sliceAt,Instr.slice,bB hd,hb,dQ he],?_⟩;obtain⟨hl,L,I,hx⟩:=hs;refine⟨by grind,by omega,by omega,?_⟩;rcases hx with hx|⟨b,off,rfl,q,hcell⟩
 ·simp_all
 ·by_cases g:m=l
  ·simp_all
  ·right
   refine⟨b,off+l*f.cells,by simp[g,vN],q,fun i hi=>?_⟩;have J:l+i<xs.length:=(by grind);grind
theorem Good.frz(q:Good M w0 c h w):Good M w0 c (h.map dY) w:=by
 have J:∀i:Nat,(h.map dY)[i]? = (h[i]?).map dY:=fun i=>by simp
 have g:∀(i:Nat) (o:Obj),(h.map dY)[i]? = some o→o= .dead∨h[i]? = some o:=fun i o f=>by
  rw[J] at f;cases hi:h[i]? with
  | none=>simp_all
  | some U =>
   rw[hi] at f;simp only[Option.map_some,Option.some.injEq] at f;cases U<;>simp only[dY] at f<;>subst f<;>first|simp_all|simp_all
 refine⟨by rw[q.n]; simp,q.keeps,q.sfin,q.src,fun i o f=>?_,fun i o b f hb=>?_,fun i j N O b hi L z I=>?_,q.root⟩
 ·rcases g i o f with rfl|f
  ·trivial
  ·exact q.objs i o f
 ·rcases g i o f with rfl|f
  ·simp[dP] at hb
  ·exact q.own i o b f hb
 ·rcases g i N hi with rfl|hi
  ·simp[dP] at z
  ·rcases g j O L with rfl|L
   ·simp[dP] at I
   ·exact q.sep i j N O b hi L z I
theorem aPq(b:Nat)(hb:aFI c (h.map dY) b):c.S b:=by
 rcases hb with hb|⟨i,g,f,hb⟩
 ·exact hb
 ·simp only[List.getElem?_map] at f;cases hi:h[i]? with
  | none=>simp_all
  | some o=>rw[hi] at f; simp only[Option.map_some,Option.some.injEq] at f; subst f; cases o<;>simp[dY,dP] at hb
theorem bBz{av:AV}{v:Value}{t:Ty}{x:t.den}(hv:aZ c w av v)(ha:AV.as h t av=some x):aN c w av v.cells.toList∧(av.isAgg=true→ ∃cs,v= .agg cs)∧(av.isAgg=false→ ∀cs,v≠ .agg cs):=by
 cases av with
 | junk=>grind[AV.as]
 | undef=>grind[AV.as]
 | tup f=>grind[AV.as]
 | _=>exact hv
theorem aKy(g:Good M w0 c h w){av:AV}{v:Value}{t:Ty}{x:t.den}(hv:aZ c w av v)(ha:AV.as h t av=some x):cZ w (aFI c h) t x v:=by
 obtain⟨f,q,h3⟩:=bBz hv ha;grind[bMS,cZ.of_cells]
theorem yY(f:Good M w0 c h w){av:AV}{v:Value}{t:Ty}{x:t.den}(hv:aZ c w av v)(ha:AV.as (h.map dY) t av=some x):cZ w c.S t x v :=
 (aKy f.frz hv ha).keep aPq (.refl _ _)
theorem bIc(hT:iF P T)(hg:Good M w0 c h w){t:TypeId}{x:AV}{v:Value}{lo hi mx:Option AV}{lv hv mv:Option Value}(hx:aZ c w x v)(g:aW0 c w lo lv)(q:aW0 c w hi hv)(J:aW0 c w mx mv)(hc:(aMY T h t x lo hi mx).1) :
  ∃u,(Instr.sliceAt t v lv hv mv).run P w= .ok u w∧aZ c w (aMY T h t x lo hi mx).2 u:=by
 unfold aMY at hc ⊢;cases ht:T t with
 | none=>simp_all
 | some O =>
  cases O with
  | str =>
   simp only[ht] at hc ⊢;have hd:=aBd (hT _ _ ht);split at hc
   ·rename_i s;cases J;obtain⟨s,rfl,rfl,hs⟩:=aQO hx;have f:=rG s;split at hc
    ·rename_i e1 z;obtain rfl:=tD g e1;obtain rfl:=tD q z;have:=aKx (c:=c) (w:=w) hd hs (lo:=none) (hi:=none) (l:=0) (u:=s.size) (by rfl);simp_all
    ·rename_i l e1 z;obtain⟨k,rfl⟩:=aCD g e1;obtain rfl:=tD q z;rw[f] at hc;have:=aKx (c:=c) (w:=w) hd hs (lo:=some (.int k l)) (hi:=none) (l:=l.toNat) (u:=s.size) (by simp[Instr.sliceBounds,eS hc.1 hc.2]);grind
    ·rename_i u e1 z;obtain rfl:=tD g e1;obtain⟨k,rfl⟩:=aCD q z;rw[f] at hc;have:=aKx (c:=c) (w:=w) hd hs (lo:=none) (hi:=some (.int k u)) (l:=0) (u:=u.toNat) (by simp[Instr.sliceBounds,eS hc.1 hc.2]);simp_all
    ·rename_i l u e1 z;obtain⟨k,rfl⟩:=aCD g e1;obtain⟨k',rfl⟩:=aCD q z;rw[f] at hc;obtain⟨h0,Y,W⟩:=hc;have:=aKx (c:=c) (w:=w) hd hs (lo:=some (.int k l)) (hi:=some (.int k' u)) (l:=l.toNat) (u:=u.toNat) (by simp[Instr.sliceBounds,eS (P:=P) (w:=w) (show 0≤u by omega) W,eS (P:=P) (w:=w) (i:=l) (y:=u.toNat) h0 (by omega)]);simp_all
    simp_all
   simp_all
  | sl O =>
   simp only[ht] at hc ⊢;obtain⟨e,hd,he,hpos⟩:=dZ (hT _ _ ht);have L:=hT _ _ he;cases hl:bD1 h O x with
   | none=>simp_all
   | some xs =>
    simp only[hl] at hc ⊢;obtain⟨a,len,I,rfl,hs⟩:=aET (yY hg hx hl);have f:=hs.1;have hle:=hs.2.1;have mk:∀ {ys:List O.den} {U:Option Addr} {n m:Nat},SlR w c.S (bC w c.S O) O.cells ys U n m→aZ c w (.val (.sl O) ys) (.slice U n m):=fun Z=>⟨⟨_,_,_,rfl,Z⟩,(fun h=>by cases h),(fun _ cs=>by simp)⟩;have mkF:∀ {ys:List O.den} {U:Option Addr} {n m:Nat},SlR w c.S (bC w c.S O) O.cells ys U n m→m=n→aZ c w (.full O ys) (.slice U n m):=fun Z e=>(by subst e; exact⟨⟨_,_,rfl,Z⟩,(fun h=>by cases h),(fun _ cs=>by simp)⟩);split at hc
    ·rename_i e1 z N;obtain rfl:=tD g e1;obtain rfl:=tD q z;obtain rfl:=tD J N;obtain⟨U,Y,W⟩:=aGB (w:=w) hd L hs (lo:=none) (hi:=none) (mx:=none) (l:=0) (u:=len) (m:=I) (by rfl) (Nat.zero_le _) (Nat.le_refl _) hle (Nat.le_refl _);grind
    ·rename_i l e1 z N;obtain⟨k,rfl⟩:=aCD g e1;obtain rfl:=tD q z;obtain rfl:=tD J N;rw[f] at hc;obtain⟨U,Y,W⟩:=aGB (w:=w) hd L hs (lo:=some (.int k l)) (hi:=none) (mx:=none) (l:=l.toNat) (u:=len) (m:=I) (by simp[Instr.sliceBounds,eS hc.1 hc.2]) (by omega) (Nat.le_refl _) hle (Nat.le_refl _);grind
    ·rename_i u e1 z N;obtain rfl:=tD g e1;obtain⟨k,rfl⟩:=aCD q z;obtain rfl:=tD J N;rw[f] at hc;obtain⟨U,Y,W⟩:=aGB (w:=w) hd L hs (lo:=none) (hi:=some (.int k u)) (mx:=none) (l:=0) (u:=u.toNat) (m:=I) (by simp[Instr.sliceBounds,eS (P:=P) (w:=w) (y:=I) hc.1 (by omega)]) (by omega) (by omega) (by omega) (Nat.le_refl _);simp_all
    ·rename_i l u e1 z N;obtain⟨k,rfl⟩:=aCD g e1;obtain⟨k',rfl⟩:=aCD q z;obtain rfl:=tD J N;rw[f] at hc;obtain⟨h0,Y,W⟩:=hc;obtain⟨U,Y,W⟩:=aGB (w:=w) hd L hs (lo:=some (.int k l)) (hi:=some (.int k' u)) (mx:=none) (l:=l.toNat) (u:=u.toNat) (m:=I) (by simp[Instr.sliceBounds,eS (P:=P) (w:=w) (i:=u) (y:=I) (by omega) (by omega),eS (P:=P) (w:=w) (i:=l) (y:=u.toNat) h0 (by omega)]) (by omega) (by omega) (by omega) (Nat.le_refl _);simp_all
    ·rename_i u m e1 z N;obtain rfl:=tD g e1;obtain⟨k,rfl⟩:=aCD q z;obtain⟨k',rfl⟩:=aCD J N;rw[f] at hc;obtain⟨h0,Y,rfl⟩:=hc;obtain⟨U,Y,W⟩:=aGB (w:=w) hd L hs (lo:=none) (hi:=some (.int k m)) (mx:=some (.int k' m)) (l:=0) (u:=m.toNat) (m:=m.toNat) (by simp[Instr.sliceBounds,eS (P:=P) (w:=w) (i:=m) (y:=I) (by omega) (by omega),eS (P:=P) (w:=w) (i:=m) (y:=m.toNat) h0 (by omega)]) (by omega) (by omega) (by omega) (by omega);grind
    ·rename_i l u m e1 z N;obtain⟨k,rfl⟩:=aCD g e1;obtain⟨k',rfl⟩:=aCD q z;obtain⟨k'',rfl⟩:=aCD J N;rw[f] at hc;obtain⟨h0,Y,W,rfl⟩:=hc;obtain⟨U,Y,W⟩:=aGB (w:=w) hd L hs (lo:=some (.int k l)) (hi:=some (.int k' m)) (mx:=some (.int k'' m)) (l:=l.toNat) (u:=m.toNat) (m:=m.toNat) (by simp[Instr.sliceBounds,eS (P:=P) (w:=w) (i:=m) (y:=I) (by omega) (by omega),eS (P:=P) (w:=w) (i:=m) (y:=m.toNat) (by omega) (by omega),eS (P:=P) (w:=w) (i:=l) (y:=m.toNat) h0 (by omega)]) (by omega) (by omega) (by omega) (by omega);grind
    simp_all
  | _=>simp_all
end
end Go.Vc
namespace Go.Vc
open Go.RowKit
section
variable {P:Program} {T:Tab} {M:Perm} {w0:World} {c:Ctx} {h:List Obj} {w:World}
theorem aHp{w w':World}{B:Nat}{e:TypeId}{sz:Nat}{v:Value}{n:Nat}{f:List Value}(hb:∀b,aW v=some b→w'.heap[b]? = w.heap[b]?)(h:w.ownsRow B e sz v n f):w'.ownsRow B e sz v n f:=by
 obtain⟨I,J⟩:=h;refine⟨I,J.imp id ?_⟩;rintro⟨g,z,q,rfl,L,hh,r⟩;exact⟨g,z,q,rfl,L,by rw[hb g rfl]; exact hh,r⟩
theorem kT.keep{w w':World}{S S':Nat→Prop}(hs:∀b,S b→S' b)(h:aBH S w w'):∀(t:Ty) (m:Mk) (x:t.den) (cs:List Value) (B:List Nat),(∀b∈B,w'.heap[b]? = w.heap[b]?)→kT w S t m x cs B→kT w' S' t m x cs B:=by
 intro t;have g:∀(t:Ty) (x:t.den) (cs:List Value) (B:List Nat),bC w S t x cs∧B= []→bC w' S' t x cs∧B= []:=fun t x cs B ⟨I,z⟩=>⟨bC.keep hs h t x cs I,z⟩
 induction t with
 | sl t ih =>
  intro m xs cs B q f;cases m with
  | no=>exact g _ _ _ _ f
  | sl e m =>
   obtain⟨v,J,Y,I,z,h3,N,h5,W⟩:=f;subst h5;refine⟨v,J,Y,I,aHp (fun b hb=>q b (by simp[hdB,hb])) z,h3,N,rfl,fun i q1 q2 q3=>ih m _ _ _ (fun b hb=>q b ?_) (W i q1 q2 q3)⟩;grind[List.mem_append_right,List.mem_flatten,List.getElem_mem]
  | pair a b=>exact f.elim
 | pair a r L O =>
  intro m x cs B q f;cases m with
  | no=>exact g _ _ _ _ f
  | sl e m=>exact f.elim
  | pair ma mr =>
   obtain⟨c1,c2,Z,U,I,z,h3,N⟩:=f;subst z;exact⟨c1,c2,Z,U,I,rfl,L _ _ _ _ (fun b hb=>q b (List.mem_append_left _ hb)) h3,O _ _ _ _ (fun b hb=>q b (List.mem_append_right _ hb)) N⟩
 | _ =>
  intro m x cs B q f;cases m<;>first|exact g _ _ _ _ f|exact f.elim
theorem bFk.keep{c c':Ctx}{w w':World}{i:Nat}{e:TypeId}{m:Mk}{t:Ty}{xs:List t.den}{k:Nat}{v:AV}{css:List (List Value)}{L:List (List Nat)}(hl:dG c w c' w')(g:c'.hd i=c.hd i)(I:c'.bl i=c.bl i)(hb:∀b,c.bl i b→w'.heap[b]? = w.heap[b]?)(f:bFk c w i e m t xs k v css L):bFk c' w' i e m t xs k v css L:=by
 refine⟨?_,f.lc,f.lb,f.kl,fun j h z N J=>kT.keep hl.le.S hl.same _ _ _ _ _ (fun b q=>hb b (f.bl b ?_)) (f.el j h z N J),f.hb,fun z=>⟨aN.keep hl.le hl.same _ _ (f.hv z).1,(f.hv z).2⟩,by rw[g]; exact f.nd,by rw[g,I]; exact f.bl⟩
 ·rw[g]; exact aHp (fun b q=>hb b (f.bl b (by simp[hdB,q]))) f.row
 grind[List.mem_append_right,List.mem_flatten,List.getElem_mem]
theorem aIL.keep{c c':Ctx}{w w':World}{i:Nat}{o:Obj}(hl:dG c w c' w')(hi:i<c.n)(U:c'.bl i=c.bl i)(hb:∀b,dP c i o b→w'.heap[b]? = w.heap[b]?)(g:aIL c w i o):aIL c' w' i o:=by
 have f:=hl.le.hd i hi;cases o with
 | dead=>trivial
 | box n v =>
  obtain⟨b,cells,e,I,J,h3,N⟩:=g;exact⟨b,cells,e,by simp_all,by grind[dP,aW],h3,aN.keep hl.le hl.same _ _ N⟩
 | row e t W =>
  obtain⟨z,I,J⟩:=g;refine⟨z,?_,bC.keep hl.le.S hl.same _ _ _ J⟩;rw[f];exact aHp (fun b q=>hb b q) I
 | frz t W=>simp only[aIL] at *; rw[f]; exact bC.keep hl.le.S hl.same _ _ _ g
 | map k v m =>
  obtain⟨b,Z,clock,I,J,h3,N⟩:=g;exact⟨b,Z,clock,by simp_all,by grind[dP,aW],h3,fun j Y L=>⟨(N j Y L).1.keep hl.le.S hl.same,(N j Y L).2.keep hl.le.S hl.same⟩⟩
 | tre e m t W =>
  obtain⟨B,I,J,h3⟩:=g;exact⟨B,by rw[f]; exact kT.keep hl.le.S hl.same _ _ _ _ _ (fun b q=>hb b (h3 b q)) I,J,by simp_all⟩
 | trh e m t W k v =>
  obtain⟨O,Bs,g⟩:=g;exact⟨O,Bs,g.keep hl f U hb⟩
theorem eR{c c':Ctx}(hl:c.le c'){i:Nat}(f:c'.bl i=c.bl i)(hi:i<c.n)(o:Obj):dP c' i o=dP c i o:=by
 funext b;cases o<;>simp[dP,hl.hd i hi,f]
theorem aA3{h:List Obj}{i:Nat}{o:Obj}(f:h[i]? = some o):i<h.length:=by
 grind
theorem Good.step(z:Good M w0 c h w){c':Ctx}{w':World}(hl:dG c w c' w')(W:c'.n=c.n)(q:c'.bl=c.bl)(hk:fB M.wr w w')(hb:∀i o b,h[i]? = some o→dP c i o b→w'.heap[b]? = w.heap[b]?)
  (hs:∀b,c'.S b→b<w'.heap.size) (hd:∀b,c'.S b→c.S b∨w.heap.size≤b):Good M w0 c' h w':=by
 have f:∀i o,h[i]? = some o→i<c.n:=fun i o I=>by rw[z.n]; grind
 refine⟨by rw[W,z.n],z.keeps.trans hk,hs,fun b hb f=>(hd b hb).elim (fun hb=>z.src b hb f) (fun hb=>absurd hb (Nat.not_le_of_lt (Nat.lt_of_lt_of_le f z.keeps.size))),fun i o I=>(z.objs i o I).keep hl (f i o I) (congrFun q i) (fun b g=>hb i o b I g),fun i o b I g=>?_,fun i j N U b hi O J L=>?_,aEh z.root hl.le⟩
 ·rw[eR hl.le (congrFun q _) (f i o I)] at g;obtain⟨Y,Z,h3⟩:=z.own i o b I g;grind
 ·rw[eR hl.le (congrFun q _) (f i N hi)] at J;rw[eR hl.le (congrFun q _) (f j U O)] at L;exact z.sep i j N U b hi O J L
def Ctx.upto(c:Ctx)(lo hi:Nat):Ctx:=⟨fun b=>c.S b∨(lo≤b∧b<hi),c.hd,c.n,c.bl⟩
theorem Ctx.le_upto(c:Ctx)(lo hi:Nat):c.le (c.upto lo hi):=⟨fun b hb=>.inl hb,Nat.le_refl _,fun _ _=>rfl⟩
theorem xR(g:Good M w0 c h w){w':World}(hk:fB nothing w w'):dG c w (c.upto w.heap.size w'.heap.size) w' :=
 ⟨c.le_upto _ _,fun b hb=>hk.block b (g.sfin b hb) (fun f=>f)⟩
theorem fB.any{w w':World}(hk:fB nothing w w'):fB M.wr w w':=⟨hk.os,hk.tape,hk.output,hk.size,fun b hb _=>hk.block b hb (fun f=>f)⟩
theorem Good.call(g:Good M w0 c h w){w':World}(hk:fB nothing w w'):Good M w0 (c.upto w.heap.size w'.heap.size) h w' :=
 g.step (xR g hk) rfl rfl hk.any (fun i o b q hb=>hk.block b (g.own i o b q hb).2.1 (fun f=>f)) (fun b hb=>hb.elim (fun hb=>Nat.lt_of_lt_of_le (g.sfin b hb) hk.size) (fun hb=>hb.2)) (fun b hb=>hb.imp id (fun hb=>hb.1))
theorem fB.alloc(M:Nat→Prop)(w:World)(o:Go.Obj):fB M w { w with heap:=w.heap.push o } :=
 ⟨rfl,rfl,rfl,by simp,fun b hb _=>by grind⟩
structure aI7(P:Program)(M:Perm)(w0:World)(h:List Obj)(c:Ctx)(w:World)(av:AV)(v:Value)(w':World)(c':Ctx):Prop where
 later:dG c w c' w'
 n:c'.n=c.n∧c'.bl=c.bl
 good:Good M w0 c' h w'
 keeps:fB nothing w w'
 new:∀b,c'.S b→c.S b∨w.heap.size≤b
 val:aZ c' w' av v
def Did(P:Program)(M:Perm)(w0:World)(h:List Obj)(c:Ctx)(o:Oper)(a:Act)(w:World)(av:AV):Prop :=
 (∃v w' c',(execOp a.eval o).run P w= .ok (.value v) w'∧aI7 P M w0 h c w av v w' c') ∨
 (∃f args,(execOp a.eval o).run P w= .ok (.enter f args) w∧Calls P f args w fun e w'=>∃v c',e= .returned v∧aI7 P M w0 h c w av v w' c')
theorem Did.of_value(f:Good M w0 c h w){o:Oper}{a:Act}{av:AV}{v:Value}(g:(execOp a.eval o).run P w= .ok (.value v) w)(hv:aZ c w av v):Did P M w0 h c o a w av :=
 .inl ⟨v,w,c,g,.refl _ _,⟨rfl,rfl⟩,f,.refl _ _,fun b hb=>.inl hb,hv⟩
theorem bC.scalar{w w':World}{S S':Nat→Prop}:∀(t:Ty) (x:t.den) (cs:List Value),t.scalar=true→bC w S t x cs→bC w' S' t x cs
 | .bool,_,_,_,f=>f
 | .u _,_,_,_,f=>f
 | .i _,_,_,_,f=>f
 | .str,_,_,_,f=>f
 | .sl t,_,_,hs,_=>by simp[Ty.scalar] at hs
 | .unit,_,_,_,f=>f
 | .pair a b,_,_,hs,⟨c1,I,hc,q,z⟩=>by
  simp only[Ty.scalar,Bool.and_eq_true] at hs;exact⟨c1,I,hc,bC.scalar a _ _ hs.1 q,bC.scalar b _ _ hs.2 z⟩
 | .arr _ t,_,_,hs,⟨J,g,hc,hl,f⟩=>⟨J,g,hc,hl,fun i q z=>bC.scalar t _ _ (by simpa [Ty.scalar] using hs) (f i q z)⟩
 | .expr,_,_,hs,_=>by simp[Ty.scalar] at hs
 | .rp _,_,_,hs,_=>by simp[Ty.scalar] at hs
 | .clo _ _,_,_,hs,_=>by simp[Ty.scalar] at hs
theorem cZ.scalar{w w':World}{S S':Nat→Prop}{t:Ty}{x:t.den}{v:Value}(hs:t.scalar=true)(f:cZ w S t x v):cZ w' S' t x v:=by
 unfold cZ at *;split
 ·rename_i ha; simp only[ha,if_true] at f; grind[bC.scalar]
 grind[bC.scalar]
theorem qV.scalar{w w':World}{S S':Nat→Prop}:∀(t:Ty) (x:t.den) (vs:List Value),t.scalar=true→qV w S t x vs→qV w' S' t x vs
 | .unit,_,_,_,f=>f
 | .pair a r,x,vs,hs,⟨v,g,e,q,z⟩=>by
  simp only[Ty.scalar,Bool.and_eq_true] at hs;exact⟨v,g,e,q.scalar hs.1,qV.scalar r _ _ hs.2 z⟩
 | .bool,_,_,_,f=>f.elim
 | .u _,_,_,_,f=>f.elim
 | .i _,_,_,_,f=>f.elim
 | .str,_,_,_,f=>f.elim
 | .sl _,_,_,_,f=>f.elim
 | .arr _ _,_,_,_,f=>f.elim
 | .expr,_,_,_,f=>f.elim
 | .rp _,_,_,_,f=>f.elim
 | .clo _ _,_,_,_,f=>f.elim
theorem aZe(J:Good M w0 c h w):∀(t:Ty) (vs:List AV) (xs:List Value) (x:t.den),aCC h t vs=some x→xs.length=vs.length→(∀i (f:i<vs.length) (g:i<xs.length),aZ c w vs[i] xs[i])→qV w (aFI c h) t x xs:=by
 intro t
 induction t with
 | unit =>
  intro vs xs x ha hl hv;cases vs with
  | nil=>exact List.eq_nil_of_length_eq_zero hl
  | cons v vs=>grind[aCC]
 | pair a r _ I =>
  intro vs xs x ha hl hv;cases vs with
  | nil=>grind[aCC]
  | cons v vs =>
   cases xs with
   | nil=>grind
   | cons u xs =>
    simp only[aCC] at ha;split at ha
    ·rename_i L z f g;cases ha;refine⟨u,xs,rfl,aKy J (hv 0 (by simp) (by simp)) f,I vs xs z g (by simp_all) (fun i hi q=>?_)⟩;have:=hv (i+1) (by simp_all) (by simp_all);simp_all
    grind
 | _=>grind[aCC]
theorem aI8(I:Good M w0 c h w){t:Ty}{vs:List AV}{xs:List Value}{x:t.den}(ha:aCC (h.map dY) t vs=some x)(hl:xs.length=vs.length)(hv:∀i (g:i<vs.length) (q:i<xs.length),aZ c w vs[i] xs[i]):qV w c.S t x xs:=by
 have:=aZe I.frz t vs xs x ha hl hv;have hmono:∀(t:Ty) (x:t.den) (xs:List Value),qV w (aFI c (h.map dY)) t x xs→qV w c.S t x xs:=by
  intro t
  induction t with
  | unit=>intro x xs h; exact h
  | pair a r _ z=>intro x xs ⟨v,f,e,g,q⟩; exact⟨v,f,e,g.keep aPq (.refl _ _),z _ _ q⟩
  | _=>intro x xs h; exact h.elim
 simp_all
theorem bBA(f:Good M w0 c h w)(b:Nat)(hb:aFI c h b):b<w.heap.size:=by
 rcases hb with hb|⟨i,o,g,hb⟩
 ·exact f.sfin b hb
 ·exact(f.own i _ b g hb).2.1
theorem sY.mono{G:Nat→AV}{S S':Nat→Prop}{w w':World}(hs:∀b,S b→S' b)(h:aBH S w w')(f:sY G S w):sY G S' w':=fun g =>
 (f g).keep (c:=⟨S,fun _=>Go.undef,0,fun _ _=>False⟩) (c':=⟨S',fun _=>Go.undef,0,fun _ _=>False⟩) ⟨hs,Nat.le_refl _,fun _ _=>rfl⟩ h
theorem bD3{S:Nat→Prop}{w:World}{c:Ctx}(z:c.S=S):∀(t:Ty) (x:t.den) (vs:List Value),qV w S t x vs→vs.length=(aEa t x).length∧ ∀i (h:i<(aEa t x).length) (h':i<vs.length),xQ c w (aEa t x)[i] vs[i]
 | .unit,_,vs,f=>by simp only[qV] at f; subst f; exact⟨rfl,fun i h=>by simp_all⟩
 | .pair a r,x,vs,⟨v,g,e,J,I⟩=>by
  subst e;obtain⟨hl,f⟩:=bD3 z r x.2 g I;refine⟨by simp[aEa,hl],fun i hi q=>?_⟩;cases i with
  | zero=>exact aZ.ofV (by simp_all)
  | succ i=>grind[aEa]
 | .bool,_,_,f=>f.elim
 | .u _,_,_,f=>f.elim
 | .i _,_,_,f=>f.elim
 | .str,_,_,f=>f.elim
 | .sl _,_,_,f=>f.elim
 | .arr _ _,_,_,f=>f.elim
 | .expr,_,_,f=>f.elim
 | .rp _,_,_,f=>f.elim
 | .clo _ _,_,_,f=>f.elim
def FAt(G:Nat→AV)(sp:aH)(vs:Array Value)(w:World)(C:(Ending→World→Prop)→Prop):Prop :=
 ∀(S:Nat→Prop) (x:sp.args.den),(∀b,S b→b<w.heap.size)→sY G S w→qV w S sp.args x vs.toList→sp.pre x →
  C fun e w'=>∃v,e= .returned v∧fB nothing w w'∧bGQ w' S w.heap.size sp.res (sp.fn x) v
def bMT(P:Program)(f:FuncId)(vs:Array Value)(w:World)(R:Ending→World→Prop):Prop :=
 ∃v w',(callFunc f vs).run P w= .ok (.value v) w'∧R (.returned v) w'
def NOK(P:Program)(G:Nat→AV)(f:FuncId)(sp:aH):Prop :=
 (∀e t,sp.res≠ .own e t)∧ ∀(w:World) (vs:Array Value),FAt G sp vs w (bMT P f vs w)
theorem bK1{C:(Ending→World→Prop)→Prop}(hC:∀R R':Ending→World→Prop,C R→(∀e w',R e w'→R' e w')→C R'){G:Nat→AV}{Γ:FuncId→List AV→Option aH}{f:FuncId}{vs:List AV}{xs:Array Value}(W:∀sp,Γ f vs=some sp→FAt G sp xs w C)(I:Good M w0 c h w)(hG:sY G c.S w)(hl:xs.size=vs.length)
  (hv:∀i (L:i<vs.length) (N:i<xs.size),aZ c w vs[i] xs[i]) (hc:(aHl Γ h f vs).1) :
  C fun e w'=>∃v c',e= .returned v∧aI7 P M w0 h c w (aHl Γ h f vs).2 v w' c':=by
 unfold aHl at hc ⊢;cases Z:Γ f vs with
 | none=>simp_all
 | some sp =>
  simp only[Z] at hc ⊢;have O:xs.toList.length=vs.length:=by omega
  have U:∀i (L:i<vs.length) (N:i<xs.toList.length),aZ c w vs[i] xs.toList[i]:=fun i L N=>by
   simp_all
  obtain⟨z,res,pre,fn⟩:=sp;have key:∀(x:z.den),aCC (if res.ty.scalar then h else h.map dY) z vs=some x→pre x→(∀e t,res≠ .own e t)→C fun e w'=>∃v c',e= .returned v∧aI7 P M w0 h c w (bH3 res (fn x)) v w' c':=by
   intro x ha hp hno;by_cases q:res.ty.scalar=true
   ·rw[if_pos q] at ha;have hargs:=aZe I _ _ _ _ ha O U;refine hC _ _ (W _ Z (aFI c h) x (bBA I) (hG.mono (fun b hb=>.inl hb) (.refl _ _)) hargs hp) ?_;rintro e w' ⟨v,rfl,hk,g⟩;refine⟨v,_,rfl,xR I hk,⟨rfl,rfl⟩,I.call hk,hk,fun b hb=>hb.imp id And.left,?_⟩;cases res with
    | none=>trivial
    | one t=>exact aZ.ofV (cZ.scalar q g)
    | own e t=>simp_all
    | tup t =>
     obtain⟨Y,rfl,J⟩:=g;have:=qV.scalar (w':=w') (S':=(c.upto w.heap.size w'.heap.size).S) t _ _ q J;obtain⟨L,N⟩:=bD3 (c:=c.upto w.heap.size w'.heap.size) rfl t _ _ this;exact⟨Y,rfl,L,N⟩
   ·rw[if_neg q] at ha;have hargs:=aI8 I ha O U;refine hC _ _ (W _ Z c.S x I.sfin hG hargs hp) ?_;rintro e w' ⟨v,rfl,hk,g⟩;refine⟨v,_,rfl,xR I hk,⟨rfl,rfl⟩,I.call hk,hk,fun b hb=>hb.imp id And.left,?_⟩;cases res with
    | none=>trivial
    | one t=>exact aZ.ofV g
    | own e t=>simp_all
    | tup t =>
     obtain⟨Y,rfl,J⟩:=g;obtain⟨L,N⟩:=bD3 (c:=c.upto w.heap.size w'.heap.size) rfl t _ _ J;exact⟨Y,rfl,L,N⟩
  grind
end
end Go.Vc
namespace Go.Vc
open Go.RowKit
section
variable {P:Program} {T:Tab} {M:Perm} {w0:World} {c:Ctx} {h:List Obj} {w:World}
theorem bBB(pre:List Value):∀(f old post:List Value) (cells:Array Value) (j:Nat),cells.toList=pre++old++post→old.length=j+f.length →
  ((f.zipIdx j).foldl (fun q (p:Value×Nat)=>q.setIfInBounds (pre.length+p.2) p.1) cells).toList=pre++(old.take j++f)++post
 | [],old,post,cells,j,hc,hl=>by
  simp only[List.zipIdx_nil,List.foldl_nil,List.append_nil];rw[hc,List.take_of_length_le (by simp at hl; omega)]
 | v::f,old,post,cells,j,hc,hl=>by
  simp only[List.zipIdx_cons,List.foldl_cons];simp only[List.length_cons] at hl;have g:(cells.setIfInBounds (pre.length+j) v).toList=pre++(old.set j v)++post:=by
   simp_all
  have:=bBB pre f (old.set j v) post _ (j+1) g (by grind);grind[List.take_succ_eq_append_getElem,List.take_set_of_le]
theorem aPr{pre old post:List Value}{cells:Array Value}(hc:cells.toList=pre++old++post){v:Value}(hv:v.cells.size=old.length) :
  (v.cells.zipIdx.foldl (fun f (p:Value×Nat)=>f.setIfInBounds (pre.length+p.2) p.1) cells).toList=pre++v.cells.toList++post:=by
 have:=bBB pre v.cells.toList old post cells 0 hc (by simp[hv]);rw[← Array.foldl_toList,Array.toList_zipIdx]
 simpa using this
theorem bId:∀ {L:List AV} {cs:List Value} {k:Nat} {ts:List Ty},jY c w L cs→L.length=ts.length→(∀i (h:i<L.length),(L[i]).solid1=true)→(∀i (h:i<L.length) (h':i<ts.length),(L[i]).nc1=ts[i].cells)→k<L.length →
  ∃pre ds post,cs=pre++ds++post∧pre.length=((ts.take k).map Ty.cells).foldr (· + ·) 0∧ds.length=(ts.getD k .unit).cells∧ ∀(v:AV) (f:List Value),aN c w v f→jY c w (L.set k v) (pre++f++post)
 | [],_,_,_,_,_,_,_,hk=>by grind
 | v::L,cs,k,ts,J,hl,hs,U,hk=>by
  cases ts with
  | nil=>grind
  | cons t ts =>
   simp only[jY] at J;obtain⟨c1,Z,rfl,N,Y⟩:=J;have h0:=U 0 (by simp) (by simp);have I:=hs 0 (by simp);simp only[List.getElem_cons_zero] at h0 I;have z:=aL1 I N;cases k with
   | zero=>exact⟨[],c1,Z,by simp,rfl,by simp_all,fun O f g=>by simp only[List.set_cons_zero,jY,List.nil_append]; grind⟩
   | succ k =>
    obtain⟨pre,ds,post,e,hp,hd,q⟩:=bId (k:=k) (ts:=ts) Y (by simp_all) (fun i hi=>by have:=hs (i+1) (by simp_all); simp_all) (fun i hi W=>by have:=U (i+1) (by simp_all) (by simp_all); simp_all) (by simp_all);refine⟨c1++pre,ds,post,by rw[e]; simp,by simp[z,h0,hp],by simpa using hd,fun O f g=>?_⟩;simp only[List.set_cons_succ,jY];exact⟨c1,pre++f++post,by simp,N,q O f g⟩
theorem aDy:∀ {z:List Field} {off:Nat} {t:Ty} {k:Nat} {q:Ty},dB T z off t=true→t.flds[k]? = some q→ ∃f,z[k]? = some f∧T f.type=some q∧f.offset=off+((t.flds.take k).map Ty.cells).foldr (· + ·) 0
 | [],off,.unit,k,q,_,hk=>by grind[Ty.flds]
 | f::z,off,.pair a r,0,q,g,hk=>by
  simp only[dB,Bool.and_eq_true,decide_eq_true_eq] at g;simp[Ty.flds] at hk;simp_all
 | f::z,off,.pair a r,k+1,q,g,hk=>by
  simp only[dB,Bool.and_eq_true,decide_eq_true_eq] at g;simp only[Ty.flds,List.getElem?_cons_succ] at hk;obtain⟨L,I,J,h3⟩:=aDy g.2 hk;grind[Ty.flds]
 | [],_,.pair _ _,_,_,g,_=>by grind[dB]
 | _::_,_,.unit,_,_,g,_=>by grind[dB]
theorem aMZ:∀ {q:List Field} {off:Nat} {t:Ty},dB T q off t=true→q.length=t.flds.length
 | [],_,.unit,_=>rfl
 | f::q,off,.pair a r,g=>by
  simp only[dB,Bool.and_eq_true] at g;simp[Ty.flds,aMZ g.2]
 | [],_,.pair _ _,g=>by grind[dB]
 | _::_,_,.unit,g=>by grind[dB]
theorem aYk:∀(t:Ty),t.okB=true→ ∀q off,dB T q off t=true→jY c w (aA2 t) (cF t)∧(aA2 t).length=t.flds.length∧(∀i (h:i<(aA2 t).length),((aA2 t)[i]).solid1=true)∧(∀i (h:i<(aA2 t).length) (h':i<t.flds.length),((aA2 t)[i]).nc1=(t.flds[i]).cells)
 | .unit,_,_,_,_=>⟨rfl,rfl,fun i h=>by simp[aA2] at h,fun i h=>by simp[aA2] at h⟩
 | .pair a r,z,f::q,off,g=>by
  simp only[Ty.okB,Bool.and_eq_true] at z;simp only[dB,Bool.and_eq_true] at g;obtain⟨J,L,h3,N⟩:=aYk r z.2 q _ g.2;refine⟨⟨cF a,cF r,rfl,eG w c.S a z.1,J⟩,by simp[aA2,Ty.flds,L],fun i hi=>?_,fun i hi I=>?_⟩
  ·cases i with
   | zero=>rfl
   | succ i=>grind[aA2]
  ·cases i with
   | zero=>rfl
   | succ i=>grind[aA2,Ty.flds]
 | .pair _ _,_,[],_,g=>by grind[dB]
 | .bool,_,q,_,g=>by grind[dB]
 | .u _,_,q,_,g=>by grind[dB]
 | .i _,_,q,_,g=>by grind[dB]
 | .str,_,q,_,g=>by grind[dB]
 | .sl _,_,q,_,g=>by grind[dB]
 | .arr _ _,_,q,_,g=>by grind[dB]
 | .expr,_,q,_,g=>by grind[dB]
 | .rp _,_,q,_,g=>by grind[dB]
 | .clo _ _,_,q,_,g=>by grind[dB]
 | .nilp,_,q,_,g=>by grind[dB]
 | .nilf,_,q,_,g=>by grind[dB]
inductive aD1(c:Ctx)(w:World):List (Nat×AV)→List (Nat×Value)→Prop where
 | nil:aD1 c w [] []
 | cons {k:Nat} {a:AV} {v:Value} {ps:List (Nat×AV)} {vs:List (Nat×Value)} (h:aZ c w a v) (r:aD1 c w ps vs):aD1 c w ((k,a)::ps) ((k,v)::vs)
theorem aM0{place:Nat→Option (Nat×Nat)}{ts:List Ty}(hp:∀k t,ts[k]? = some t→place k=some (((ts.take k).map Ty.cells).foldr (· + ·) 0,t.cells)):∀(ps:List (Nat×AV)) (vs:List (Nat×Value)) (L:List AV) (cells:Array Value),
  aD1 c w ps vs→aKs ts ps→jY c w L cells.toList→L.length=ts.length→(∀i (h:i<L.length),(L[i]).solid1=true)→(∀i (h:i<L.length) (h':i<ts.length),(L[i]).nc1=ts[i].cells) →
  ∃cells',Instr.fill place cells vs=some cells'∧jY c w (bGR L ps) cells'.toList
 | _,_,L,cells,.nil,_,I,_,_,_=>⟨cells,rfl,I⟩
 | _,_,L,cells,.cons (k:=k) (a:=a) (v:=v) (ps:=ps) (vs:=vs) hv r,f,I,hl,hs,U=>by
  obtain⟨⟨O,t,J,hnc⟩,f⟩:=f;have hkt:k<ts.length:=get_lt' J;obtain⟨pre,ds,post,e,hpl,N,q⟩:=bId (k:=k) I hl hs U (by omega);have z:ts.getD k .unit=t:=by simp_all
  rw[z] at N;have g:xQ c w a v:=by cases a<;>first|exact hv|grind[AV.solid1]
  have Y:=aL1 O g.1;have hsz:v.cells.size=t.cells:=by simp_all
  have hstep:=aPr (v:=v) e (by omega);have Z:cells.size=(pre++ds++post).length:=by grind
  obtain⟨cells',h1,h2⟩:=aM0 hp ps vs (L.set k a) _ r f (by rw[hstep]; exact q a _ g.1) (by simp_all) (fun i hi=>by
    grind) (fun i hi W=>by
    grind)
  refine⟨cells',?_,h2⟩;simp_all[Instr.fill,Ty.cells,if_neg]
where
 get_lt' {α:Type} {l:List α} {k:Nat} {x:α} (h:l[k]? = some x):k<l.length:=by
  grind
theorem aM1{t:Ty}{L:List AV}{cells:Array Value}(f:jY c w L cells.toList):aZ c w (aI5 t L) (.agg cells):=by
 unfold aI5;have hL:aZ c w (.agg L) (.agg cells):=⟨by grind[aN,Value.cells],fun _=>⟨_,rfl⟩,fun h=>by cases h⟩;split
 ·rename_i x ha;have W:∀(t:Ty) (v:AV) (x:t.den) (cs:List Value),AV.as [] t v=some x→aN c w v cs→bC w c.S t x cs∧t.isAgg=v.isAgg:=by
   intro t v x cs ha f;exact as_nil t v x cs ha f
  obtain⟨J,z⟩:=W _ _ _ _ ha hL.1;exact aZ.ofV (cZ.of_cells (fun _=>⟨_,rfl⟩) (fun h=>by rw[z] at h; cases h) J)
 omega
where
 as_nil (t:Ty) (v:AV) (x:t.den) (cs:List Value) (ha:AV.as [] t v=some x) (f:aN c w v cs):bC w c.S t x cs∧t.isAgg=v.isAgg:=by
  have hval:∀(t q:Ty) (y:q.den) (x:t.den) (cs:List Value),AV.as [] t (.val q y)=some x→aN c w (.val q y) cs→bC w c.S t x cs∧t.isAgg=AV.isAgg (.val q y):=by
   intro t q y x cs ha f;have:∃e:q=t,x=e▸y:=by
    have z:(if e:q=t then some (e▸y) else none)=some x:=(by grind[AV.as]);grind
   obtain⟨rfl,rfl⟩:=this;exact⟨f,rfl⟩
  have hflat:∀(t:Ty) (l:List AV) (x:t.den) (cs:List Value),aHk t l=some x→jY c w l cs→bC w c.S t x cs:=by
   intro t l x cs ha f;unfold aHk at ha;split at ha
   ·rename_i y hp;cases ha;obtain⟨c1,c2,e,r1,U⟩:=bBs t l _ _ cs hp f;simp only[jY] at U;subst U;rw[e,List.append_nil]; exact r1
   ·cases ha
  induction t generalizing v cs with
  | pair a b N Y =>
   cases v with
   | val q y=>grind
   | agg I =>
    cases I with
    | nil=>grind[AV.as]
    | cons v I =>
     simp only[aY9] at ha;split at ha
     ·rename_i xa xb J z;cases ha;simp only[aN,jY] at f;obtain⟨c1,c2,e,r1,U⟩:=f;exact⟨⟨c1,c2,e,(N v xa c1 J r1).1,(Y (.agg I) xb c2 z (by grind[aN])).1⟩,rfl⟩
     grind
   | flat l=>simp only[aZa] at ha; exact⟨hflat _ _ _ _ ha (by grind[aN]),rfl⟩
   | _=>grind[AV.as]
  | sl t Z =>
   cases v with
   | val q y=>grind
   | nilS=>simp at ha; subst ha; simp only[aN] at f; exact⟨⟨none,0,0,f,rfl,Nat.le_refl _,Nat.zero_le _,.inl rfl⟩,rfl⟩
   | full q xs =>
    have z:(if e:q=t then some (e▸xs) else none)=some x:=(by grind[AV.as]);split at z
    ·rename_i e;subst e;cases z;simp only[aN] at f;obtain⟨p,n,e,O⟩:=f;exact⟨⟨p,n,n,e,O⟩,rfl⟩
    grind
   | own i=>simp[rowOf] at ha
   | _=>grind[AV.as]
  | unit =>
   cases v with
   | val q y=>grind
   | agg I=>cases I with
    | nil=>simp only[aN,jY] at f; exact⟨f,rfl⟩
    | cons v I=>grind[AV.as]
   | flat l=>simp only[aTV] at ha; exact⟨hflat _ _ _ _ ha (by grind[aN]),rfl⟩
   | _=>grind[AV.as]
  | rp t Z =>
   cases v with
   | val q y=>grind
   | roa q y =>
    have z:(if e:q=t then some (e▸y) else none)=some x:=(by grind[AV.as]);split at z
    ·rename_i e;subst e;cases z;simp only[aN] at f;exact⟨f,rfl⟩
    grind
   | ptr i p =>
    cases p with
    | nil=>simp at ha
    | cons s p=>grind[AV.as]
   | _=>grind[AV.as]
  | clo g t Z =>
   cases v with
   | val q y=>grind
   | fn g' l1 l2 =>
    cases l1 with
    | nil =>
     have z:g'=g∧AV.as [] t (.agg (l2.map fun i=>.ptr i []))=some x:=(by grind[AV.as]);obtain⟨rfl,ha⟩:=z;simp only[aN] at f;obtain⟨_,z,e⟩:=f;cases l2 with
     | nil =>
      have:=Z (.agg []) x [] ha rfl;exact⟨⟨[],by simp_all,this.1⟩,rfl⟩
     | cons i l2 =>
      exfalso;have hp:∀a:Ty,AV.as [] a (.ptr i [])=none:=fun a=>(by cases a<;>simp[AV.as]);cases t<;>first|grind[AV.as]|(simp[hp] at ha; done)|(match l2,ha with
       | [],ha=>simp[AV.as] at ha
       | [_],ha=>simp[AV.as] at ha
       | [_,_],ha=>simp[AV.as,asX,bH0] at ha
       | _::_::_::_,ha=>simp[AV.as] at ha)
    | cons i l1=>grind[AV.as]
   | _=>grind[AV.as]
  | expr =>
   cases v with
   | val q y=>grind
   | agg I =>
    match I,ha,f with
    | [a,b,v],ha,f =>
     simp only[aZb] at ha;exact⟨bFs (fun _ h=>h) (fun i xs cs J _=>by grind[rowOf]) ha (by grind[aN]),rfl⟩
    | [],ha,_=>grind[AV.as]
    | [_],ha,_=>grind[AV.as]
    | [_,_],ha,_=>grind[AV.as]
    | _::_::_::_::_,ha,_=>grind[AV.as]
   | _=>grind[AV.as]
  | _ =>
   cases v with
   | val q y=>grind
   | _=>grind[AV.as]
theorem aYl{av:AV}{v:Value}{t:Ty}{x:t.den}(hv:aZ c w av v)(ha:AV.as [] t av=some x):cZ w c.S t x v:=by
 obtain⟨f,g,h3⟩:=bBz hv ha;grind[aM1.as_nil,cZ.of_cells]
theorem aT3{g:Ty}{n:Nat}{place:Nat→Option (Nat×Nat)}(hp:∀k,place k=some (k*g.cells,g.cells)):∀(ps:List (Nat×AV)) (vs:List (Nat×Value)) (xs:List g.den) (cells:Array Value) (ys:List g.den),
  aD1 c w ps vs→aZc g xs ps=some ys→bC w c.S (.arr n g) xs cells.toList→ ∃cells',Instr.fill place cells vs=some cells'∧bC w c.S (.arr n g) ys cells'.toList
 | _,_,xs,cells,ys,.nil,he,L=>by simp[aZc] at he; subst he; exact⟨cells,rfl,L⟩
 | _,_,xs,cells,ys,.cons (k:=k) (a:=a) (v:=v) (ps:=ps) (vs:=vs) hv r,he,L=>by
  simp only[aZc] at he;split at he
  ·rename_i x hx;split at he
   ·rename_i hk;obtain⟨hn,f,e,hl,q⟩:=L;obtain⟨pre,post,N,hpl⟩:=kZ (t:=g) (css:=f) (fun j hj=>bC.length _ _ _ (q j (by omega) hj)) k (by omega);have J:=(aYl hv hx).cells;have W:=bC.length _ _ _ J;have hcl:=bC.length _ _ _ (q k hk (by omega));have Z:v.cells.size=g.cells:=(by omega);have hstep:=aPr (v:=v) (e.trans N) (by omega);have I:bC w c.S (.arr n g) (xs.set k x) (pre++v.cells.toList++post):=by
     refine⟨by simp_all,f.set k v.cells.toList,?_,by simp_all,fun i Y O=>?_⟩
     ·have hsp:f=f.take k++ [f[k]]++f.drop (k+1):=(by simp);have z:pre=(f.take k).flatten∧post=(f.drop (k+1)).flatten:=by
       have U:((f.take k).flatten).length=k*g.cells:=by
        rw[jC (n:=g.cells) (fun i hi=>?_)]
        ·rw[List.length_take,Nat.min_eq_left (by omega)]
        ·simp at hi; simp only[List.getElem_take]; exact bC.length _ _ _ (q i (by omega) (by omega))
       have h3:f.flatten=(f.take k).flatten++f[k]++(f.drop (k+1)).flatten:=by
        grind
       rw[h3,List.append_assoc,List.append_assoc] at N;obtain⟨q1,q2⟩:=List.append_inj N (by omega);obtain⟨q3,q4⟩:=List.append_inj q2 rfl;grind
      rw[z.1,z.2,List.set_eq_take_append_cons_drop,if_pos (by omega)];simp
     grind
    obtain⟨cells',Y,O⟩:=aT3 hp ps vs (xs.set k x) _ ys r he (by rw[hstep]; exact I);refine⟨cells',?_,O⟩;rw[Instr.fill,hp k];have hcs:cells.size=(pre++f[k]++post).length:=(by grind);simp_all
   grind
  grind
end
end Go.Vc
namespace Go.Vc
open Go.RowKit
section
variable {P:Program} {T:Tab} {M:Perm} {w0:World} {c:Ctx} {h:List Obj} {w:World}
theorem bGV:∀(t:Ty),t.okB=true→ ∀z off,dB T z off t=true→jY c w (iV t) (cF t)∧(iV t).length=t.flds.length∧(∀i (h:i<(iV t).length),((iV t)[i]).solid1=true)∧(∀i (h:i<(iV t).length) (h':i<t.flds.length),((iV t)[i]).nc1=(t.flds[i]).cells):=by
 intro t
 induction t with
 | unit=>intro _ _ _ _; exact⟨rfl,rfl,fun i h=>by simp[iV] at h,fun i h=>by simp[iV] at h⟩
 | pair a r _ O =>
  intro q z off I;cases z with
  | nil=>grind[dB]
  | cons f z =>
   simp only[Ty.okB,Bool.and_eq_true] at q;simp only[dB,Bool.and_eq_true] at I;obtain⟨N,U,h3,W⟩:=O q.2 z _ I.2;have g:∀u:AV,iV (.pair a r)=u::iV r→u.solid1=true→u.nc1=a.cells→aN c w u (cF a)→jY c w (iV (.pair a r)) (cF (.pair a r))∧(iV (.pair a r)).length=(Ty.pair a r).flds.length∧(∀i (h:i<(iV (.pair a r)).length),((iV (.pair a r))[i]).solid1=true)∧(∀i (h:i<(iV (.pair a r)).length) (h':i<(Ty.pair a r).flds.length),((iV (.pair a r))[i]).nc1=((Ty.pair a r).flds[i]).cells):=fun u e q1 Y J=>by
    rw[e];refine⟨⟨cF a,cF r,rfl,J,N⟩,by simp[Ty.flds,U],fun i hi=>?_,fun i hi L=>?_⟩
    all_goals grind[Ty.flds]
   cases a with
   | sl a=>exact g .nilS rfl rfl rfl rfl
   | _=>exact g (.val _ (Ty.zero _)) rfl rfl rfl (eG w c.S _ q.1)
 | _=>grind[dB]
theorem bGW(hT:iF P T){t:TypeId}{ps:List (Nat×AV)}{vs:List (Nat×Value)}(hp:aD1 c w ps vs)(hc:(aPo T t ps).1) :
  ∃u,(Instr.build t vs.toArray).run P w= .ok u w∧aZ c w (aPo T t ps).2 u:=by
 unfold aPo at hc ⊢;cases ht:T t with
 | none=>simp_all
 | some ct =>
  have q:=hT _ _ ht;obtain⟨d,hd,hb⟩:=q.desc;cases ct with
  | pair a r =>
   simp only[ht] at hc ⊢;obtain⟨L,U⟩:=hc;have hz:=tA q L w;cases d<;>simp only[fM,Bool.false_eq_true] at hb
   rename_i O;obtain⟨h1,h2,h3,h4⟩:=bGV (c:=c) (w:=w) (T:=T) (.pair a r) L O.toList 0 hb;have hzc:(kY (.pair a r)).cells.toList=cF (.pair a r):=(by rfl);have hplaces:∃places:Array (Nat×Nat),(O.mapM (fun f=>do pure (f.offset,← sizeOf f.type)):Sem _).run P w= .ok places w∧ ∀k t,(Ty.pair a r).flds[k]? = some t→places[k]? = some ((((Ty.pair a r).flds.take k).map Ty.cells).foldr (· + ·) 0,t.cells):=by
    have z:=aMZ hb;refine⟨(O.toList.zipWith (fun f t=>(f.offset,t.cells)) (Ty.pair a r).flds).toArray,?_,fun k t hk=>?_⟩
    ·have W:∀(l:List Field) (ts:List Ty) (J:Array (Nat×Nat)),l.length=ts.length→(∀i (h:i<l.length) (h':i<ts.length),T (l[i]).type=some ts[i]) →
       ((l.mapM (fun f=>do pure (f.offset,← sizeOf f.type)):Sem (List (Nat×Nat)))).run P w= .ok (l.zipWith (fun f t=>(f.offset,t.cells)) ts) w:=by
      intro l
      induction l with
      | nil=>simp_all
      | cons f l ih =>
       intro ts J hl N;cases ts with
       | nil=>grind
       | cons t ts =>
        have I:=N 0 (by simp) (by simp);simp only[List.getElem_cons_zero] at I;have hsz:=dQ (hT _ _ I) w;have:=ih ts J (by simp_all) (fun i hi g=>by have:=N (i+1) (by simp_all) (by simp_all); simp_all);simp_all
     rw[Array.mapM_eq_mapM_toList];have:=W O.toList (Ty.pair a r).flds #[] z (fun i hi g=>by
      obtain⟨f,q1,q2,q3⟩:=aDy (k:=i) hb (List.getElem?_eq_getElem g);simp_all)
     simp_all
    ·obtain⟨f,q1,q2,q3⟩:=aDy hb hk;simp only[List.getElem?_toArray,List.getElem?_zipWith,hk,q1];simp[q3]
   obtain⟨places,Z,Y⟩:=hplaces;obtain⟨cells',hf,hr⟩:=aM0 (c:=c) (w:=w) (place:=(places[·]?)) Y ps vs (iV (.pair a r)) (kY (.pair a r)).cells hp U (by simp_all) h2 h3 h4;refine⟨.agg cells',?_,hr,fun _=>⟨_,rfl⟩,fun h=>by cases h⟩;simp only[Instr.build,Sem.run_bind,hz,Result.andThen_ok,bB hd,Z,hf,Sem.run_pure]
  | _=>simp_all
theorem bIe(L:iF P T){t:TypeId}{ps:List (Nat×AV)}{vs:List (Nat×Value)}(hp:aD1 c w ps vs)(hc:(aKt T t ps).1) :
  ∃u,(Instr.build t vs.toArray).run P w= .ok u w∧aZ c w (aKt T t ps).2 u:=by
 unfold aKt at hc ⊢;cases ht:T t with
 | none=>simp_all
 | some q =>
  have g:=L _ _ ht;obtain⟨d,hd,hb⟩:=g.desc;cases q with
  | pair a r =>
   simp only[ht] at hc ⊢;obtain⟨hok,hpo⟩:=hc;have I:=tA g hok w;cases d<;>simp only[fM,Bool.false_eq_true] at hb
   rename_i z;obtain⟨h1,h2,h3,h4⟩:=aYk (c:=c) (w:=w) (T:=T) (.pair a r) hok z.toList 0 hb;have Z:(kY (.pair a r)).cells.toList=cF (.pair a r):=(by rfl);have hplaces:∃places:Array (Nat×Nat),(z.mapM (fun f=>do pure (f.offset,← sizeOf f.type)):Sem _).run P w= .ok places w∧ ∀k t,(Ty.pair a r).flds[k]? = some t→places[k]? = some ((((Ty.pair a r).flds.take k).map Ty.cells).foldr (· + ·) 0,t.cells):=by
    have U:=aMZ hb;refine⟨(z.toList.zipWith (fun f t=>(f.offset,t.cells)) (Ty.pair a r).flds).toArray,?_,fun k t hk=>?_⟩
    ·have key:∀(l:List Field) (ts:List Ty) (Y:Array (Nat×Nat)),l.length=ts.length→(∀i (h:i<l.length) (h':i<ts.length),T (l[i]).type=some ts[i]) →
       ((l.mapM (fun f=>do pure (f.offset,← sizeOf f.type)):Sem (List (Nat×Nat)))).run P w= .ok (l.zipWith (fun f t=>(f.offset,t.cells)) ts) w:=by
      intro l
      induction l with
      | nil=>simp_all
      | cons f l ih =>
       intro ts Y hl hty;cases ts with
       | nil=>grind
       | cons t ts =>
        have W:=hty 0 (by simp) (by simp);simp only[List.getElem_cons_zero] at W;have hsz:=dQ (L _ _ W) w;have:=ih ts Y (by simp_all) (fun i hi N=>by have:=hty (i+1) (by simp_all) (by simp_all); simp_all);simp_all
     rw[Array.mapM_eq_mapM_toList];have:=key z.toList (Ty.pair a r).flds #[] U (fun i hi N=>by
      obtain⟨f,q1,q2,q3⟩:=aDy (k:=i) hb (List.getElem?_eq_getElem N);simp_all)
     simp_all
    ·obtain⟨f,q1,q2,q3⟩:=aDy hb hk;simp only[List.getElem?_toArray,List.getElem?_zipWith,hk,q1];simp[q3]
   obtain⟨places,J,hpp⟩:=hplaces;obtain⟨cells',hf,hr⟩:=aM0 (c:=c) (w:=w) (place:=(places[·]?)) hpp ps vs (aA2 (.pair a r)) (kY (.pair a r)).cells hp hpo (by simp_all) h2 h3 h4;refine⟨.agg cells',?_,aM1 hr⟩;simp only[Instr.build,Sem.run_bind,I,Result.andThen_ok,bB hd,J,hf,Sem.run_pure]
  | unit =>
   simp only[ht] at hc ⊢;subst hc;cases hp;have I:=tA g rfl w;cases d<;>simp only[fM,Bool.false_eq_true] at hb
   rename_i z;have O:z= #[]:=by
    have:=aMZ hb;grind[Ty.flds]
   subst O;refine⟨.agg #[],?_,⟨rfl,fun _=>⟨_,rfl⟩,fun h=>by cases h⟩⟩;simp[Instr.build,I,bB hd,Result.andThen,Instr.fill,kY,Ty.isAgg,cF,Value.cells]
  | expr =>
   simp only[ht] at hc ⊢;have I:=tA g rfl w;cases d<;>simp only[fM,Bool.false_eq_true] at hb
   rename_i z;unfold bFp at hb;split at hb
   ·rename_i f0 f1 f2 O;simp only[Bool.and_eq_true,decide_eq_true_eq] at hb;obtain⟨⟨⟨⟨⟨b1,b2⟩,b3⟩,b4⟩,b5⟩,b6⟩:=hb;have efs:z= #[f0,f1,f2]:=(by grind);have s0:=dQ (L _ _ b1) w;have s1:=dQ (L _ _ b3) w;have s2:=dQ (L _ _ b5) w;have J:(z.mapM (fun f=>do pure (f.offset,← sizeOf f.type)):Sem _).run P w= .ok #[(0,1),(1,1),(2,1)] w:=by
     rw[efs,Array.mapM_eq_mapM_toList];show (([f0,f1,f2].mapM (fun f=>do pure (f.offset,← sizeOf f.type)):Sem (List (Nat×Nat))) >>= fun l=>pure l.toArray).run P w=_;simp only[List.mapM_cons,List.mapM_nil,Sem.run_bind,s0,s1,s2,Result.andThen_ok,Sem.run_pure,b2,b4,b6];rfl
    have Z:(kY .expr).cells.toList= [.int .i64 0,.string ⟨#[]⟩,.slice none 0 0]:=rfl;obtain⟨cells',hf,hr⟩:=aM0 (c:=c) (w:=w) (place:=((#[(0,1),(1,1),(2,1)]:Array (Nat×Nat))[·]?)) (ts:=[.i .i64,.str,.sl .expr]) (fun k t hk=>by
     match k,hk with
     | 0,hk=>simp_all
     | 1,hk=>simp_all
     | 2,hk=>simp_all) ps vs [.val (.i .i64) 0,.val .str [],.nilS] (kY .expr).cells hp hc (by
      rw[Z];exact⟨[_],[_,_],rfl,⟨rfl,rfl,by decide,by decide⟩,[_],[_],rfl,⟨⟨#[]⟩,rfl,rfl,Nat.zero_le _⟩,[_],[],rfl,rfl,rfl⟩) rfl (fun i hi=>by
      match i,hi with
      | 0,_=>rfl
      | 1,_=>rfl
      | 2,_=>rfl) (fun i hi _=>by
      match i,hi with
      | 0,_=>rfl
      | 1,_=>rfl
      | 2,_=>rfl)
    refine⟨.agg cells',?_,aM1 hr⟩;simp only[Instr.build,Sem.run_bind,I,Result.andThen_ok,bB hd,J,hf,Sem.run_pure]
   grind
  | arr n q =>
   simp only[ht] at hc ⊢;cases hs:aZc q (List.replicate n q.zero) ps with
   | none=>simp_all
   | some ys =>
    simp only[hs] at hc ⊢;obtain⟨e,hd',he,hpos,_⟩:=aEU g;have I:=tA g hc w;obtain⟨cells',hf,hr⟩:=aT3 (c:=c) (w:=w) (n:=n) (place:=fun i=>some (i*q.cells,q.cells)) (fun _=>rfl) ps vs (List.replicate n q.zero) (kY (.arr n q)).cells ys hp hs (by
     have:=eG w c.S (.arr n q) hc;have e1:(kY (.arr n q)).cells.toList=cF (.arr n q):=(by rfl);rw[e1]; exact this)
    refine⟨.agg cells',?_,⟨hr,fun _=>⟨_,rfl⟩,fun h=>by cases h⟩⟩;simp[Instr.build,I,bB hd',dQ (L _ _ he),Result.andThen,hf]
  | _=>simp_all
theorem aAJ(f:List Value)(n:Nat)(q:0<f.length):((Array.range (n*f.length)).map (fun i=>(f.toArray)[i%f.toArray.size]!)).toList=(List.replicate n f).flatten:=by
 simp only[Array.toList_map,Array.toList_range,List.size_toArray]
 induction n with
 | zero=>simp
 | succ n g =>
  rw[Nat.add_mul,Nat.one_mul,List.range_add,List.map_append,g,List.replicate_succ'];simp only[List.flatten_append,List.flatten_cons,List.flatten_nil,List.append_nil]
  congr 1
  apply List.ext_getElem
  all_goals simp_all[List.length_map,List.length_range,Nat.mod_eq_of_lt,Nat.add_comm]
theorem Good.alloc(f:Good M w0 c h w)(o:Go.Obj):Good M w0 (c.upto w.heap.size (w.heap.size+1)) h (w.alloc o)∧dG c w (c.upto w.heap.size (w.heap.size+1)) (w.alloc o):=by
 have hk:fB nothing w (w.alloc o):=fB.alloc nothing w o;have g:=f.call hk;have q:=xR f hk;simp_all
theorem aW1(hT:iF P T)(hg:Good M w0 c h w){t:TypeId}{n:Nat}{ps:List (Nat×AV)}{vs:List (Nat×Value)}(hp:aD1 c w ps vs)(hc:(aBK T t n ps).1) :
  ∃u w' c',(Instr.buildSlice t n vs.toArray).run P w= .ok u w'∧aI7 P M w0 h c w (aBK T t n ps).2 u w' c':=by
 unfold aBK at hc ⊢;cases ht:T t with
 | none=>simp_all
 | some f =>
  cases f with
  | sl f =>
   simp only[ht] at hc ⊢;cases hs:aZc f (List.replicate n f.zero) ps with
   | none=>simp_all
   | some ys =>
    simp only[hs] at hc ⊢;obtain⟨g,hn1,U⟩:=hc;obtain⟨e,hd,he,hpos⟩:=dZ (hT _ _ ht);have I:=hT _ _ he;have hz:=tA I g w;have hzc:(kY f).cells.toList=cF f:=by
     have:=(aI1 w c.S f g).cells;unfold kY;split
     ·rfl
     ·have h1:(cF f).length=1:=by
       rw[bC.length _ _ _ (eG w c.S f g)];rename_i ha;cases f<;>simp_all[Ty.isAgg,Ty.cells]
      match hzz:cF f,h1 with
      | [v],_ =>
       have L:=bC.one f _ _ (eG w c.S f g) v (by simp_all);simp only[List.headD_cons];cases v<;>first|rfl|exact L.elim
    have hzl:(cF f).length=f.cells:=bC.length _ _ _ (eG w c.S f g);have Z:(kY f).cells=(cF f).toArray:=(by grind);have hcells:((Array.range (n*f.cells)).map (fun i=>(cF f).toArray[i%(cF f).toArray.size]!)).toList=(List.replicate n (cF f)).flatten:=by
     grind[aAJ]
    obtain⟨cells',N,hr⟩:=aT3 (c:=c) (w:=w) (n:=n) (place:=fun i=>some (i*f.cells,f.cells)) (fun _=>rfl) ps vs (List.replicate n f.zero) ((Array.range (n*f.cells)).map (fun i=>(cF f).toArray[i%(cF f).toArray.size]!)) ys hp hs (by
     rw[hcells];exact eG w c.S (.arr n f) g)
    obtain⟨g1,W⟩:=hg.alloc (.cells cells' e (0,0));refine⟨.slice (some ⟨w.heap.size,0,none⟩) n n,w.alloc (.cells cells' e (0,0)),_,?_,W,⟨rfl,rfl⟩,g1,fB.alloc nothing w _,fun b hb=>hb.imp id And.left,?_⟩
    ·have J:¬(n*f.cells>2^24):=(by omega);by_cases h0:n*f.cells=0
     ·have hn0:n=0:=by
       grind[Nat.mul_eq_zero]
      subst hn0;have e0:(Array.range (0*f.cells)).map (fun i=>(cF f).toArray[i%(cF f).toArray.size]!)= #[]:=(by simp);rw[e0] at N;have J:¬(0*f.cells>2^24):=(by omega);have e1:(Array.range (0*f.cells)).map (fun x=>(#[]:Array Value)[x%(#[]:Array Value).size]!)= #[]:=(by simp);simp only[Instr.buildSlice,Sem.run_bind,bB hd,Result.andThen_ok,dQ I,J,if_false,Nat.zero_mul,if_true,Sem.run_ite,Sem.run_pure];simp only[Nat.zero_mul] at e1;rw[e1,N];rfl
     ·rw[← Z] at N;simp only[Instr.buildSlice,Sem.run_bind,bB hd,Result.andThen_ok,dQ I,J,if_false,h0,hz,Sem.run_ite,Sem.run_pure,N];rfl
    ·obtain⟨O,z,hcs,hl,q⟩:=hr;refine⟨⟨some ⟨w.heap.size,0,none⟩,n,rfl,O,Nat.le_refl _,U,.inr ⟨w.heap.size,0,rfl,.inr ⟨Nat.le_refl _,Nat.lt_succ_self _⟩,fun i hi=>?_⟩⟩,(fun h=>by cases h),(fun _ cs=>by simp)⟩;refine⟨z[i],bC.keep W.le.S W.same _ _ _ (q i hi (by omega)),?_⟩;obtain⟨pre,post,Y,hpl⟩:=kZ (t:=f) (css:=z) (fun j hj=>bC.length _ _ _ (q j (by omega) hj)) i (by omega);rw[Nat.zero_add,← hpl];refine wG (cells:=cells') (e:=e) (fz:=(0,0)) ?_ (hcs.trans Y);show (w.heap.push _)[w.heap.size]? = _;simp_all
  | _=>simp_all
theorem aPs{mx:Bool}{x y:AV}{v u:Value}(hv:aZ c w x v)(q:aZ c w y u)(hc:(mm2 mx x y).1) :
  ∃r,((if mx then Builtin.max2 v u else Builtin.min2 v u)).run P w= .ok r w∧aZ c w (mm2 mx x y).2 r:=by
 cases x with
 | val I a =>
  cases I with
  | i k =>
   cases y with
   | val g b =>
    cases g with
    | i z =>
     obtain⟨rfl,hk,ha⟩:=aGy hv;obtain⟨rfl,f,hb⟩:=aGy q;simp only[mm2] at hc ⊢;split at hc
     ·rename_i e;subst e;simp only[if_true];cases mx
      ·refine⟨_,by simp only[Builtin.min2]; rfl,?_⟩;grind
      ·refine⟨_,by simp only[Builtin.max2]; rfl,?_⟩;grind
     simp_all
    | _=>exact hc.elim
   | _=>exact hc.elim
  | u k =>
   cases y with
   | val g b =>
    cases g with
    | u z =>
     obtain⟨rfl,hk,ha⟩:=aI0 hv;obtain⟨rfl,f,hb⟩:=aI0 q;simp only[mm2] at hc ⊢;split at hc
     ·rename_i e;subst e;simp only[if_true];cases mx
      ·refine⟨_,by simp only[Builtin.min2]; rfl,?_⟩;grind
      ·refine⟨_,by simp only[Builtin.max2]; rfl,?_⟩;grind
     simp_all
    | _=>exact hc.elim
   | _=>exact hc.elim
  | _=>exact hc.elim
 | _=>exact hc.elim
where
 minI (a b:Int):(if b<a then b else a)=min a b:=by omega
 maxI (a b:Int):(if b>a then b else a)=max a b:=by omega
 minI_or (a b:Int):min a b=a∨min a b=b:=by omega
 maxI_or (a b:Int):max a b=a∨max a b=b:=by omega
 minN (a b:Nat):(if (b:Int)<a then (b:Int) else a)=((min a b:Nat):Int):=by omega
 maxN (a b:Nat):(if (b:Int)>a then (b:Int) else a)=((max a b:Nat):Int):=by omega
 minN_or (a b:Nat):min a b=a∨min a b=b:=by omega
 maxN_or (a b:Nat):max a b=a∨max a b=b:=by omega
theorem bFB{t:TypeId}{x:AV}{v:Value}(hv:aZ c w x v):aZ c w (bBv T t x) v:=by
 cases x with
 | flat l =>
  grind[bBv,aZ.ofV,aYl]
 | _=>exact hv
end
end Go.Vc
namespace Go.Vc
open Go.RowKit
section
variable {P:Program} {T:Tab} {M:Perm} {w0:World} {c:Ctx} {h:List Obj} {w:World}
theorem aZf{t:TypeId}{k:IntKind}(f:aEi P T t (.u k)):P.underlying t=some (.int k):=by
 obtain⟨d,hd,hb⟩:=f.desc;cases d<;>simp[fM] at hb
 simp_all
noncomputable def bIf(T:Tab)(h:List Obj)(s d:TypeId)(x:AV):Prop×AV :=
 match T d,x with
 | some (.sl (.u .u8)),.val .str b=>(T s=some .str,.val (.sl (.u .u8)) b)
 | some .str,x=>match T s with
  | some (.sl (.u .u8))=>match x with
   | .sub k g off n=>match h[k]? with
    | some (.box _ (.val (.arr m (.u .u8)) f))=>(g=1∧off+n≤m,.val .str ((f.drop off).take n))
    | _=>(False,.junk)
   | x=>match AV.as h (.sl (.u .u8)) x with
    | some b=>(True,.val .str b)
    | none=>(False,.junk)
  | _=>aPn T s d x
 | _,x=>aPn T s d x
theorem bBC(z:iF P T)(I:Good M w0 c h w){s d:TypeId}{b:List Nat}{v:Value}(hs:T s=some .str)(hd:T d=some (.sl (.u .u8)))(hv:aZ c w (.val .str b) v) :
  ∃u w' c',(convert s d v).run P w= .ok u w'∧aI7 P M w0 h c w (.val (.sl (.u .u8)) b) u w' c':=by
 obtain⟨st,rfl,rfl,hm⟩:=aQO hv;obtain⟨e,q,he,_⟩:=dZ (z _ _ hd);have g:=run_bytes_of_string (P:=P) w s d e st (aBd (z _ _ hs)) q (aZf (z _ _ he));obtain⟨w',f⟩:∃w',w'=w.drew.alloc (.cells (bytesRow st (grownCap w st.size 0 e)) e ((bytesRow st (grownCap w st.size 0 e)).size,(bytesRow st (grownCap w st.size 0 e)).size+1)):=⟨_,rfl⟩;rw[← f] at g;have hheap:w'.heap=w.heap.push (.cells (bytesRow st (grownCap w st.size 0 e)) e ((bytesRow st (grownCap w st.size 0 e)).size,(bytesRow st (grownCap w st.size 0 e)).size+1)):=by rw[f]; rfl
 have hk:fB nothing w w':=⟨by rw[f]; rfl,by simp_all,by rw[f]; rfl,by simp_all,fun b hb _=>by grind⟩;have g1:=I.call hk;have J:=xR I hk;refine⟨_,w',_,g,J,⟨rfl,rfl⟩,g1,hk,fun b hb=>hb.imp id And.left,⟨⟨_,_,_,rfl,?_,grownCap_ge _ _ _ _,grownCap_le_maxLen _ _ _ _ hm,.inr ⟨w.heap.size,0,rfl,.inr ⟨Nat.le_refl _,by simp_all⟩,fun i hi=>?_⟩⟩,(fun h=>by cases h),(fun _ W=>by simp)⟩⟩
 ·exact rG st
 ·have L:i<st.data.size:=by simp_all[rG]
  have U:st.data.size=st.size:=rfl;have O:=grownCap_ge w st.size 0 e;refine⟨[.int .u8 (st.data[i].toNat:Int)],⟨?_,rfl,?_⟩,?_⟩
  ·simp[aI]
  ·have:(aI st)[i]=st.data[i].toNat:=(by simp[aI]);rw[this];have:=st.data[i].toNat_lt;grind[IntKind.max,IntKind.signed,IntKind.bits]
  ·have hc:=wG (w:=w') (b:=w.heap.size) (cells:=bytesRow st (grownCap w st.size 0 e)) (e:=e) (fz:=((bytesRow st (grownCap w st.size 0 e)).size,(bytesRow st (grownCap w st.size 0 e)).size+1)) (pre:=(bytesRow st (grownCap w st.size 0 e)).toList.take i) (ds:=[.int .u8 (st.data[i].toNat:Int)]) (post:=(bytesRow st (grownCap w st.size 0 e)).toList.drop (i+1)) (by simp_all) (by
    have N:i<(bytesRow st (grownCap w st.size 0 e)).toList.length:=(by simp[bytesRow]; omega);have I:(bytesRow st (grownCap w st.size 0 e)).toList[i]= .int .u8 (st.data[i].toNat:Int):=by
     simp only[bytesRow,Array.toList_append,Array.toList_map,Array.toList_replicate];grind
    grind[List.append_assoc,List.singleton_append,List.getElem_cons_drop,List.take_append_drop])
   grind[bytesRow,grownCap,Ty.cells]
theorem aGC{s d e:TypeId}{b:List Nat}{bl off cap:Nat}(q:P.underlying s=some (.slice e))(z:P.underlying e=some (.int .u8))(I:P.underlying d=some .string)(hm:b.length≤maxLen)
  (hb:∀i (hi:i<b.length),b[i]<256∧w.cell? ⟨bl,off+i,none⟩=some (.int .u8 (b[i]:Int))) :
  ∃u,(convert s d (.slice (some ⟨bl,off,none⟩) b.length cap)).run P w= .ok u w∧aZ c w (.val .str b) u:=by
 have hl:(b.map UInt8.ofNat).length=b.length:=by simp
 have hback:∀i (hi:i<b.length),(UInt8.ofNat b[i]).toNat=b[i]:=fun i hi=>by
  simp_all
 have f:=run_convert_bytes_back (P:=P) w s d e ⟨bl,off,none⟩ cap (b.map UInt8.ofNat) q z I (fun j L=>by
  have g:j<b.length:=by simpa using L
  have J:=(hb j g).2;rw[List.getElem_map,hback j g];simp only[Addr.add];split
  ·rename_i h0; subst h0; simpa using J
  ·exact J)
 rw[hl] at f;refine⟨_,f,⟨⟨⟨(b.map UInt8.ofNat).toArray⟩,rfl,?_,?_⟩,(fun h=>by cases h),(fun _ N=>by simp)⟩⟩
 ·apply List.ext_getElem
  all_goals grind[aI]
 ·show (b.map UInt8.ofNat).toArray.size≤maxLen;simp_all
theorem aZg(U:iF P T)(hg:Good M w0 c h w){s d:TypeId}{k off n m q:Nat}{xs:List Nat}{v:Value}(hs:T s=some (.sl (.u .u8)))(hd:T d=some .str)(hv:aZ c w (.sub k 1 off n) v)
  (ho:h[k]? = some (.box q (.val (.arr m (.u .u8)) xs))) (hle:off+n≤m) :
  ∃u,(convert s d v).run P w= .ok u w∧aZ c w (.val .str ((xs.drop off).take n)) u:=by
 obtain⟨_,hn,b,J,hb,rfl⟩:=aTC hv;obtain⟨Z,cells,e2,L,hheap,_,Y⟩:=hg.objs k _ ho;rw[L] at hb;simp only[aW,Option.some.injEq] at hb;subst hb;obtain⟨e,N,he,_⟩:=dZ (U _ _ hs);obtain⟨f,z,O,hcl2,g⟩:=Y;have f:xs.length=m:=f;have hl:((xs.drop off).take n).length=n:=by grind
 have key:=aGC (P:=P) (w:=w) (c:=c) (b:=(xs.drop off).take n) (bl:=Z) (off:=off*1) (cap:=J) N (aZf (U _ _ he)) (aBd (U _ _ hd)) (by omega) (fun i hi=>by
  rw[hl] at hi;have hx:off+i<xs.length:=by omega
  have I:off+i<z.length:=by omega
  obtain⟨h1,_,h3⟩:=g (off+i) hx I;have W:((xs.drop off).take n)[i]'(by omega)=xs[off+i]:=by simp
  rw[W];refine⟨?_,?_⟩
  ·grind[IntKind.max,IntKind.signed,IntKind.bits]
  ·obtain⟨pre,post,hf,hpl⟩:=kZ (t:=.u .u8) (css:=z) (fun j hj=>bC.length _ _ _ (g j (by omega) hj)) (off+i) I;have hc:=wG (w:=w) (b:=Z) (cells:=cells) (e:=e2) (fz:=(0,0)) hheap (O.trans hf);have:=hc 0 (.int .u8 (xs[off+i]:Int)) (by grind);simp_all[Ty.cells,Nat.mul_one])
 simp_all
theorem aW2(J:iF P T)(W:Good M w0 c h w){s d:TypeId}{x:AV}{b:List Nat}{v:Value}(hs:T s=some (.sl (.u .u8)))(hd:T d=some .str)(hv:aZ c w x v)(ha:AV.as h (.sl (.u .u8)) x=some b) :
  ∃u,(convert s d v).run P w= .ok u w∧aZ c w (.val .str b) u:=by
 obtain⟨a,len,N,rfl,z,L,hm,I⟩:=aET (c:=⟨aFI c h,c.hd,c.n,c.bl⟩) (aKy W hv ha);obtain⟨e,f,he,_⟩:=dZ (J _ _ hs);have q:=aBd (J _ _ hd);have g:=aZf (J _ _ he);subst z;rcases I with rfl|⟨bl,off,rfl,_,hcell⟩
 ·cases a with
  | none=>exact⟨_,run_convert_bytes_nil w s e f g _ _ d q,⟨⟨ByteArray.empty,rfl,rfl,Nat.zero_le _⟩,(fun h=>by cases h),(fun _ O=>by simp)⟩⟩
  | some a=>exact⟨_,run_convert_bytes_back w s d e a N [] f g q (fun j Y=>by grind),⟨⟨⟨#[]⟩,rfl,rfl,Nat.zero_le _⟩,(fun h=>by cases h),(fun _ O=>by simp)⟩⟩
 ·have hb:∀i (hi:i<b.length),b[i]<256∧w.cell? ⟨bl,off+i,none⟩=some (.int .u8 (b[i]:Int)):=fun i hi=>by
   obtain⟨ds,⟨rfl,_,U⟩,hc⟩:=hcell i hi;refine⟨?_,?_⟩
   ·grind[IntKind.max,IntKind.signed,IntKind.bits]
   ·have:=hc 0 (.int .u8 (b[i]:Int)) rfl;grind[Ty.cells]
  exact aGC f g q (Nat.le_trans L hm) hb
end
end Go.Vc
namespace Go.Vc
open Go.RowKit
def Ty.key1:Ty→Bool
 | .bool=>true
 | .u _=>true
 | .i _=>true
 | .str=>true
 | _=>false
def Ty.keyB:Ty→Bool
 | .arr _ t=>t.key1
 | t=>t.key1
def uF{β:Type}(c:Ty):List (c.den×β)→c.den→Option β
 | [],_=>none
 | (k,v)::r,x=>if c.eqb x k=true then some v else uF c r x
def aM2{β:Type}(c:Ty):List (c.den×β)→c.den→β→List (c.den×β)
 | [],x,y=>[(x,y)]
 | (k,v)::r,x,y=>if c.eqb x k=true then (k,y)::r else (k,v)::aM2 c r x y
theorem aM3{c:Ty}(h:c.key1=true):c.cmpB=true∧c.deep=0∧c.isAgg=false∧c.cells=1:=by
 cases c<;>simp_all[Ty.key1,Ty.cmpB,Ty.deep,Ty.isAgg,Ty.cells]
theorem bBD{c:Ty}(h:c.keyB=true):c.cmpB=true∧c.deep≤100:=by
 cases c<;>first|grind[Ty.keyB,Ty.key1,Ty.cmpB,Ty.deep]|skip
 rename_i n t;have:=aM3 (c:=t) h;grind[Ty.cmpB,Ty.deep]
theorem bFC{w w':World}{S S':Nat→Prop}:∀ {c:Ty} {x y:c.den} {v u:Value},c.key1=true→bC w S c x [v]→bC w' S' c y [u]→(c.eqb x y=true↔v=u)
 | .bool,x,y,v,u,_,hx,hy=>by
  simp_all[bC,List.cons.injEq,and_true,Ty.eqb]
 | .u k,x,y,v,u,_,hx,hy=>by
  obtain⟨hx,_⟩:=hx;obtain⟨hy,_⟩:=hy;simp_all[List.cons.injEq,and_true,Ty.eqb,Int.natCast_inj]
 | .i k,x,y,v,u,_,hx,hy=>by
  obtain⟨hx,_⟩:=hx;obtain⟨hy,_⟩:=hy;simp_all[List.cons.injEq,and_true,Ty.eqb]
 | .str,x,y,v,u,_,hx,hy=>by
  obtain⟨s,hx,e1,_⟩:=hx;obtain⟨t,hy,f,_⟩:=hy;simp only[List.cons.injEq,and_true] at hx hy;subst hx; subst hy; subst e1; subst f;simp only[Ty.eqb,decide_eq_true_eq,Value.string.injEq];grind[aTT]
theorem aT4{w:World}{S:Nat→Prop}{c:Ty}{x:c.den}{cs:List Value}(f:c.cells=1)(h:bC w S c x cs):∃v,cs= [v]:=by
 have hl:=(bC.length _ _ _ h).trans f
 match cs,hl with
 | [v],_=>simp_all
theorem bFD{t:Ty}{w w':World}{S S':Nat→Prop}(ht:t.key1=true):∀(X Y:List t.den) (css f:List (List Value)),css.length=X.length→f.length=Y.length→X.length=Y.length →
  (∀i (h:i<X.length) (h':i<css.length),bC w S t X[i] css[i])→(∀i (h:i<Y.length) (h':i<f.length),bC w' S' t Y[i] f[i])→((List.zipWith t.eqb X Y).all id=true↔css.flatten=f.flatten)
 | [],[],[],[],_,_,_,_,_=>by simp
 | x::X,y::Y,a::css,b::f,z,I,h3,hx,hy=>by
  have r0:=hx 0 (by simp) (by simp);have g:=hy 0 (by simp) (by simp);simp only[List.getElem_cons_zero] at r0 g;obtain⟨v,rfl⟩:=aT4 (aM3 ht).2.2.2 r0;obtain⟨u,rfl⟩:=aT4 (aM3 ht).2.2.2 g;have q:=bFD ht X Y css f (by simp_all) (by simp_all) (by simp_all) (fun i h h'=>by have:=hx (i+1) (by simp_all) (by simp_all); simpa using this) (fun i h h'=>by have:=hy (i+1) (by simp_all) (by simp_all); simpa using this);simp only[List.zipWith_cons_cons,List.all_cons,id,Bool.and_eq_true,q,bFC ht r0 g,List.flatten_cons,List.cons_append,List.nil_append,List.cons.injEq]
theorem bIg{w w':World}{S S':Nat→Prop}{c:Ty}{x y:c.den}{v u:Value}(hc:c.keyB=true)(hx:cZ w S c x v)(hy:cZ w' S' c y u):c.eqb x y=true↔v=u:=by
 unfold cZ at hx hy;cases c<;>first|(simp[Ty.keyB,Ty.key1] at hc; done)|skip
 case arr n t =>
  simp only[Ty.isAgg,if_true] at hx hy;obtain⟨⟨U⟩,rfl,hx⟩:=hx;obtain⟨⟨ds⟩,rfl,hy⟩:=hy;obtain⟨L,q,O,h3,N⟩:=hx;obtain⟨J,f,z,I,g⟩:=hy;simp only at O z;have:=bFD (t:=t) hc x y q f h3 I (L.trans J.symm) (fun i h h'=>N i h h') (fun i h h'=>g i h h');grind[Ty.eqb]
 all_goals (simp only[Ty.isAgg,Bool.false_eq_true,if_false] at hx hy; exact bFC hc hx hy)
section
variable {P:Program} {T:Tab}
theorem bIh(f:Bool)(n:Nat){t:TypeId}{c:Ty}(g:aEi P T t c)(hc:c.key1=true)(v:Value)(w:World):(Instr.checkKey f (n+1) t v).run P w= .ok () w:=by
 obtain⟨d,hd,hb⟩:=g.desc;unfold Instr.checkKey;simp only[Sem.run_bind,bB hd,Result.andThen_ok];cases c<;>first|(simp[Ty.key1] at hc; done)|skip
 all_goals (cases d<;>first|(simp[fM] at hb; done)|skip)
 all_goals rfl
def aE2(f:Bool)(d:Nat)(e:TypeId)(n:Nat)(xs:Array Value):List Nat→Sem Unit
 | []=>pure ()
 | i::r=>do
  let a ← part e xs (i*n)
  Instr.checkKey f d e a
  aE2 f d e n xs r
theorem aSc(f:Bool)(d:Nat)(t e:TypeId)(len n:Nat)(xs:Array Value)(w:World)(ht:P.underlying t=some (.array len e))(q:∀w,(sizeOf e).run P w= .ok n w) :
  (Instr.checkKey f (d+1) t (.agg xs)).run P w=(aE2 f d e n xs (List.range' 0 len)).run P w:=by
 simp only[Instr.checkKey,Sem.run_bind,bB ht,Result.andThen_ok];simp only[Std.Legacy.Range.forIn_eq_forIn_range',Std.Legacy.Range.size];simp only[Nat.sub_zero,Nat.add_sub_cancel,Nat.div_one];generalize List.range' 0 len=I;clear ht
 induction I generalizing w with
 | nil=>rfl
 | cons i r L =>
  simp only[List.forIn_cons,aE2,Sem.run_bind,q,Result.andThen_ok];generalize (part e xs (i*n)).run P w=r1;cases r1 with
  | ok a g =>
   simp only[Result.andThen_ok];generalize (Instr.checkKey f d e a).run P g=z;cases z with
   | ok b J=>simp_all
   | halt x J=>rfl
  | halt x g=>rfl
theorem aI9(q:Bool)(d:Nat){w:World}{S:Nat→Prop}{e:TypeId}{t:Ty}(g:aEi P T e t)(ht:t.key1=true){xs:Array Value}:∀(k i:Nat) (X:List t.den) (pre:List Value) (css:List (List Value)) (w':World),
   X.length=k→css.length=k→(∀j (h:j<X.length) (h':j<css.length),bC w S t X[j] css[j])→xs.toList=pre++css.flatten→pre.length=i*t.cells→(aE2 q (d+1) e t.cells xs (List.range' i k)).run P w'= .ok () w'
 | 0,i,X,_,_,w',hX,_,_,_,_=>by rfl
 | k+1,i,X,pre,css,w',hX,hc,z,hx,hp=>by
  match X,css,hX,hc with
  | x::X,c::cs,hX,hc =>
   have r0:=z 0 (by simp) (by simp);simp only[List.getElem_cons_zero] at r0;obtain⟨I,e1,q1⟩:=aE1 g (cs:=xs) (pre:=pre) (ds:=c) (post:=cs.flatten) (by simp_all) r0 w';rw[hp] at e1;have J:=bC.length _ _ _ r0;have f:=aI9 q d g ht (xs:=xs) k (i+1) X (pre++c) cs w' (by simp_all) (by simp_all)
    (fun j h h'=>by have:=z (j+1) (by simp_all) (by simp_all); simpa using this) (by simp_all) (by grind)
   simp only[List.range'_succ,aE2,Sem.run_bind,e1,Result.andThen_ok,bIh q d g ht,f]
theorem aK0(z:Bool)(n:Nat)(g:iF P T){t:TypeId}{c:Ty}(ht:T t=some c)(hc:c.keyB=true){w:World}{S:Nat→Prop}{x:c.den}{v:Value}(hx:cZ w S c x v)(w':World):(Instr.checkKey z (n+2) t v).run P w'= .ok () w':=by
 cases c<;>first|(simp[Ty.keyB,Ty.key1] at hc; done)|exact bIh z (n+1) (g _ _ ht) hc v w'|skip
 rename_i m q;obtain⟨d,hd,hb⟩:=(g _ _ ht).desc;cases d<;>simp[fM] at hb
 rename_i len e;obtain⟨⟨⟨rfl,f⟩,L⟩,U⟩:=hb;unfold cZ at hx;simp only[Ty.isAgg,if_true] at hx;obtain⟨O,rfl,hx⟩:=hx;obtain⟨J,I,W,h3,N⟩:=hx;rw[aSc z (n+1) t e m q.cells O w' hd (dQ (g _ _ f))];exact aI9 z n (g _ _ f) hc m 0 x [] I w' J (h3.trans J) (fun j h h'=>N j h h') (by simp_all) (by simp)
def aJa(c:Ty){β:Type}(x:c.den):List (c.den×β)→List MapEntry→Nat→Option (Nat×Value)
 | (k,_)::m,e::es,i=>if c.eqb x k=true then some (i,e.val) else aJa c x m es (i+1)
 | _,_,_=>none
theorem aPt{c:Ty}{β:Type}{w:World}{S:Nat→Prop}{x:c.den}:∀(m:List (c.den×β)) (q:List MapEntry) (i:Nat),q.length=m.length →
  match uF c m x with
  | some y=>∃j e k,aJa c x m q i=some (i+j,e.val)∧q[j]? = some e∧m[j]? = some (k,y)∧c.eqb x k=true∧ ∀g,aM2 c m x g=m.set j (k,g)
  | none=>aJa c x m q i=none∧ ∀g,aM2 c m x g=m++ [(x,g)]
 | [],[],i,_=>by simp[uF,aJa,aM2]
 | (k,y)::m,e::q,i,hl=>by
  have f:=aPt (w:=w) (S:=S) (x:=x) m q (i+1) (by simp_all);simp only[uF,aJa,aM2];by_cases hq:c.eqb x k=true
  ·simp only[hq,if_true];exact⟨0,e,k,rfl,rfl,rfl,hq,fun g=>rfl⟩
  ·simp only[hq,if_false];split at f
   ·rename_i J hy;obtain⟨j,e1,I,r1,O,L,z,N⟩:=f;simp only[hy];exact⟨j+1,e1,I,by grind,by simp_all,by simp_all,z,fun g=>by simp_all⟩
   simp_all
theorem aJb(z:iF P T){t:TypeId}{c:Ty}(ht:T t=some c)(hc:c.keyB=true){β:Type}{w:World}{S:Nat→Prop}{x:c.den}{v:Value}(hx:cZ w S c x v)(w':World):∀(m:List (c.den×β)) (f:List MapEntry) (i:Nat),f.length=m.length →
  (∀j (h:j<m.length) (h':j<f.length),cZ w S c m[j].1 f[j].key)→(Instr.findAsking t v f i).run P w'= .ok (aJa c x m f i) w'
 | [],[],i,_,_=>by rfl
 | (k,y)::m,e::f,i,hl,q=>by
  have h0:=q 0 (by simp) (by simp);simp only[List.getElem_cons_zero] at h0;have hq:=aHj (P:=P) z w' ht (bBD hc).1 (bBD hc).2 hx h0;have g:=aJb z ht hc hx w' m f (i+1) (by simp_all) (fun j h h'=>by have:=q (j+1) (by simp_all) (by simp_all); simp_all);simp only[Instr.findAsking,Sem.run_bind,hq,Result.andThen_ok,aJa,Sem.run_ite,g,Sem.run_pure];grind
theorem aQQ{t:TypeId}{c:Ty}(z:aEi P T t c)(hc:c.key1=true){d:TypeDesc}(hd:P.underlying t=some d){β:Type}{w:World}{S:Nat→Prop}{x:c.den}{v:Value}(hx:cZ w S c x v):∀(m:List (c.den×β)) (f:List MapEntry) (i:Nat),f.length=m.length →
  (∀j (h:j<m.length) (h':j<f.length),cZ w S c m[j].1 f[j].key)→Instr.findNow d v f i=some (aJa c x m f i)
 | [],[],i,_,_=>by rfl
 | (k,y)::m,e::f,i,hl,q=>by
  have h0:=q 0 (by simp) (by simp);simp only[List.getElem_cons_zero] at h0;have I:=aQQ z hc hd hx m f (i+1) (by simp_all) (fun j h h'=>by have:=q (j+1) (by simp_all) (by simp_all); simp_all);have hsame:Instr.sameNow d v e.key=some (c.eqb x k):=by
   have he:=bIg (c:=c) (by cases c<;>simp_all[Ty.key1,Ty.keyB]) hx h0;obtain⟨L,g,hb⟩:=z.desc;rw[hd] at g;cases g;unfold cZ at hx h0;cases c<;>first|(simp[Ty.key1] at hc; done)|skip
   all_goals (cases d<;>first|grind[fM]|skip)
   all_goals simp only[Ty.isAgg,Bool.false_eq_true,if_false] at hx h0
   ·simp only[bC,List.cons.injEq,and_true] at hx h0;rw[hx,h0]; rfl
   ·obtain⟨hx,_⟩:=hx;obtain⟨h0,_⟩:=h0;simp only[List.cons.injEq,and_true] at hx h0;rw[hx,h0];simp only[Instr.sameNow,if_true,Ty.eqb,Option.some.injEq];grind
   ·obtain⟨hx,_⟩:=hx;obtain⟨h0,_⟩:=h0;simp only[List.cons.injEq,and_true] at hx h0;rw[hx,h0];simp only[Instr.sameNow,if_true,Ty.eqb,Option.some.injEq];rfl
   ·obtain⟨s,hx,e1,_⟩:=hx;obtain⟨u,h0,J,_⟩:=h0;simp only[List.cons.injEq,and_true] at hx h0;rw[hx,h0];have:(s == u)=decide (aI s=aI u):=by
     rw[Bool.eq_iff_iff,Go.MapKept.bytes_beq,decide_eq_true_eq];grind[aTT]
    grind[Instr.sameNow,Ty.eqb]
  grind[Instr.findNow,aJa]
theorem aM4(g:iF P T){t:TypeId}{c:Ty}(ht:T t=some c)(hc:c.keyB=true){β:Type}{w:World}{S:Nat→Prop}{x:c.den}{v:Value}(hx:cZ w S c x v)(w':World)(m:List (c.den×β))(f:List MapEntry)(hl:f.length=m.length)
  (q:∀j (h:j<m.length) (h':j<f.length),cZ w S c m[j].1 f[j].key):(Instr.findKey t v f).run P w'= .ok (aJa c x m f 0) w':=by
 obtain⟨d,hd,hb⟩:=(g _ _ ht).desc;simp only[Instr.findKey,Sem.run_bind,bB hd,Result.andThen_ok];by_cases z:c.key1=true
 ·rw[aQQ (g _ _ ht) z hd hx m f 0 hl q]; rfl
 ·have I:Instr.findNow d v f 0=none∨Instr.findNow d v f 0=some (aJa c x m f 0):=by
   cases f with
   | nil =>
    cases m with
    | nil=>right; rfl
    | cons _ _=>grind
   | cons e f =>
    left
    cases c<;>first|grind[Ty.keyB,Ty.key1]|skip
    cases d<;>simp[fM] at hb
    rfl
  rcases I with h|h
  ·grind[aJb]
  simp_all
theorem aYm{c:Ty}{x:c.den}{v:Value}{w:World}{S:Nat→Prop}(hc:c.key1=true)(hx:bC w S c x [v])(n:Nat):Instr.sameBits n v v=true:=by
 cases c<;>first|(simp[Ty.key1] at hc; done)|skip
 ·simp_all[bC,List.cons.injEq,and_true,Instr.sameBits]
 ·obtain⟨hx,_⟩:=hx; simp_all[List.cons.injEq,and_true,Instr.sameBits]
 ·obtain⟨hx,_⟩:=hx; simp_all[List.cons.injEq,and_true,Instr.sameBits]
 ·obtain⟨s,hx,_⟩:=hx; simp only[List.cons.injEq,and_true] at hx; subst hx;simp only[Instr.sameBits];exact(Go.MapKept.bytes_beq _ _).2 rfl
theorem bGX{c:Ty}{x:c.den}{v:Value}{w:World}{S:Nat→Prop}(hc:c.keyB=true)(hx:cZ w S c x v)(w':World):(Instr.keyThatStays v v).run P w'= .ok v w':=by
 have hs:Instr.sameBits 10000 v v=true:=by
  unfold cZ at hx;cases c<;>first|(simp[Ty.keyB,Ty.key1] at hc; done)|skip
  case arr n t =>
   simp only[Ty.isAgg,if_true] at hx;obtain⟨⟨L⟩,rfl,hx⟩:=hx;obtain⟨J,f,q,h3,z⟩:=hx;simp only at q;subst q;simp only[Instr.sameBits,beq_self_eq_true,Bool.true_and,List.all_eq_true];have g:∀v∈f.flatten,Instr.sameBits 9999 v v=true:=fun v hv=>by
    obtain⟨l,hl,hv⟩:=List.mem_flatten.1 hv;obtain⟨i,hi,rfl⟩:=List.mem_iff_getElem.1 hl;have:=z i (by omega) hi;obtain⟨u,I⟩:=aT4 (aM3 (c:=t) hc).2.2.2 this;rw[I] at hv this;simp at hv;subst hv;exact aYm (c:=t) hc this 9999
   intro p hp;have:p.1=p.2∧p.1∈f.flatten:=by
    obtain⟨i,hi,rfl⟩:=List.mem_iff_getElem.1 hp;simp
   grind
  all_goals (simp only[Ty.isAgg,Bool.false_eq_true,if_false] at hx; grind[aYm,Ty.keyB])
 simp[Instr.keyThatStays,hs]
end
end Go.Vc
namespace Go.Vc
open Go.RowKit
def bIi(h:List Obj):AV→Option Nat
 | .ptr i []=>match h[i]? with
  | some (.box _ _)=>some i
  | _=>none
 | _=>none
def allTags(h:List Obj):List AV→Option (List Nat)
 | []=>some []
 | v::r=>match bIi h v,allTags h r with
  | some i,some l=>some (i::l)
  | _,_=>none
def evA(G:Nat→AV)(env:List (Nat×AV)):Operand→AV
 | .tmp t=>look env t
 | .const v=>aMT v
 | .global g=>G g
 | .func f=>.fn f [] []
def pA:Operand→Bool
 | .const (.func _ _ _)=>false
 | .const v=>bDY v
 | _=>true
theorem aE3{c:Ctx}{w:World}{G:Nat→AV}{env:List (Nat×AV)}{a:Act}(he:aIM c w env a.tmps)(q:sY G c.S w){x:Operand}(hx:pA x=true):aZ c w (evA G env x) (a.eval x):=by
 cases x with
 | tmp t=>exact he t
 | const v =>
  refine bHZ ?_ ?_
  ·cases v<;>first|exact hx|rfl
  grind[pA]
 | global g =>
  exact(q g).keep (c:=⟨c.S,fun _=>Go.undef,0,fun _ _=>False⟩) (c':=c) ⟨fun _ h=>h,Nat.zero_le _,fun i hi=>absurd hi (Nat.not_lt_zero i)⟩ (.refl _ _)
 | func f=>exact⟨⟨(fun i hi=>by cases hi),(fun i hi=>by cases hi),rfl⟩,(fun h=>by cases h),(fun _ z=>by simp[Act.eval])⟩
def aPu(i:Nat):AV→Prop×AV
 | .tup f=>(i<f.length,f.getD i .junk)
 | _=>(False,.junk)
def aL2:AV→Prop×AV
 | .ptr i p=>(True,.ptr i p)
 | .roa t x=>(True,.roa t x)
 | .fn f g l2=>(True,.fn f g l2)
 | _=>(False,.junk)
def aL3:List AV→Option ((t:Ty)×t.den)
 | []=>some ⟨.unit,()⟩
 | .roa t x::r=>match aL3 r with
  | some ⟨u,y⟩=>some ⟨.pair (.rp t) u,(x,y)⟩
  | none=>none
 | _=>none
def aL4(h:List Obj)(f:FuncId)(first caps:List AV):Prop×AV :=
 match allTags h first,allTags h caps with
 | some g,some l2=>(True,.fn f g l2)
 | some g,none=>match aL3 caps with
  | some ⟨t,y⟩=>(g= [],.val (.clo f t) y)
  | none=>(False,.junk)
 | _,_=>(False,.junk)
def aGa(h:List Obj)(l:List Nat):Bool:=l.all fun i=>match h[i]? with
 | some (.box _ _)=>true
 | _=>false
def vO:Ty→Bool
 | .unit=>true
 | .pair (.rp _) r=>vO r
 | _=>false
def aM5(E:Env)(h:List Obj)(callee:Callee)(args:List AV)(argTypes:List TypeId)(ρ:Operand→AV):Prop×AV :=
 match callee with
 | .builtin .len=>match args,argTypes with
  | [x],[t]=>aI4 E.T h t x
  | _,_=>(False,.junk)
 | .builtin .min=>bH2 false args
 | .builtin .max=>bH2 true args
 | .value x=>match ρ x with
  | .fn f [] l2=>if aGa h l2=true then aHl E.Γ h f (args++l2.map fun i=>.ptr i []) else (False,.junk)
  | .val (.clo g t) y=>if vO t=true then aHl E.Γ h g (args++aEa t y) else (False,.junk)
  | _=>(False,.junk)
 | _=>(False,.junk)
def bIj(E:Env)(t:TypeId)(g f:Ty):Prop:=match E.mp t with
 | some (k,e)=>E.T k=some g∧E.T e=some f
 | none=>False
def aJc(E:Env)(h:List Obj)(t:TypeId)(m k:AV)(ok:Bool):Prop×AV :=
 match m with
 | .mp i=>match h[i]? with
  | some (.map g f l)=>match AV.as (h.map dY) g k with
   | some x=>(g.keyB=true∧f.okB=true∧bIj E t g f,if ok then .tup [.val f ((uF g l x).getD f.zero),.val .bool (uF g l x).isSome] else .val f ((uF g l x).getD f.zero))
   | none=>(False,.junk)
  | _=>(False,.junk)
 | _=>(False,.junk)
def Ty.isNil:Ty→Bool
 | .nili=>true
 | _=>false
def bBE(E:Env)(h:List Obj)(t:TypeId)(x:AV):Prop×AV :=
 match E.T t with
 | some c=>match AV.as (h.map dY) c x with
  | some d=>(c.isNil=false,.val (.ifc t c) d)
  | none=>(False,.junk)
 | none=>(False,.junk)
def aJd(E:Env)(x:AV)(t:TypeId)(ok:Bool):Prop×AV :=
 match E.T t with
 | some c=>match x with
  | .val (.ifc k c') d=>if k=t then (c.isNil=false,if ok then .tup [.val c' d,.val .bool true] else .val c' d) else (ok=true∧c.okB=true,.tup [.val c c.zero,.val .bool false])
  | .val .nili _=>(ok=true∧c.okB=true,.tup [.val c c.zero,.val .bool false])
  | _=>(False,.junk)
 | none=>(False,.junk)
def bBF(T:Tab)(f:BinOp)(t:TypeId)(x:AV):Prop×AV :=
 match x with
 | .val .nili _=>match f with
  | .eql=>(T t=some .nili,.val .bool true)
  | .neq=>(T t=some .nili,.val .bool false)
  | _=>(False,.junk)
 | _=>(False,.junk)
noncomputable def bIk(T:Tab)(f:BinOp)(t:TypeId)(x y:AV):Prop×AV :=
 match f,x,y with
 | .add,.val (.i k) a,.val (.i g) b=>(g=k,.val (.i k) (k.wrap (a+b)))
 | f,x,y=>aCo T f t x y
noncomputable def pv(E:Env)(h:List Obj)(ρ:Operand→AV)(o:Oper):Prop×AV :=
 match o.op with
 | .move x=>(True,bBv E.T o.type (ρ x))
 | .assign x=>(True,bBv E.T o.type (ρ x))
 | .load t a=>aI3 E.T h t (ρ a)
 | .binOp g t x y _=>match y with
  | .const .nilIface=>bBF E.T g t (ρ x)
  | y=>bif E.w then bIk E.T g t (ρ x) (ρ y) else aCo E.T g t (ρ x) (ρ y)
 | .unOp g _ x=>bD0 g (ρ x)
 | .convert s d x=>bIf E.T h s d (ρ x)
 | .fieldAddr s x k=>aAI E.T s (ρ x) k
 | .field s x k=>aKr E.T s (ρ x) k
 | .indexAddr t x i=>aMW E.T h t (ρ x) (ρ i)
 | .index t x i=>aMX E.T t (ρ x) (ρ i)
 | .slice t x lo hi mx=>aMY E.T h t (ρ x) (lo.map ρ) (hi.map ρ) (mx.map ρ)
 | .extract x i=>aPu i (ρ x)
 | .build t ps=>bif E.dz t then aPo E.T t (ps.toList.map fun p=>(p.1,ρ p.2)) else aKt E.T t (ps.toList.map fun p=>(p.1,ρ p.2))
 | .buildSlice t n ps=>aBK E.T t n (ps.toList.map fun p=>(p.1,ρ p.2))
 | .makeFunc (.func f) first q=>aL4 h f (first.toList.map ρ) (q.toList.map ρ)
 | .nilCheck x=>aL2 (ρ x)
 | .lookup t m k ok=>aJc E h t (ρ m) (ρ k) ok
 | .makeInterface t x=>bBE E h t (ρ x)
 | .typeAssert x _ t ok=>aJd E (ρ x) t ok
 | .call c=>aM5 E h c.callee (c.args.toList.map ρ) c.argTypes.toList ρ
 | .alloc t=>match E.T t with
  | some z=>(z.okB=true,.junk)
  | none=>(False,.junk)
 | _=>(False,.junk)
section
variable {P:Program} {M:Perm} {w0:World} {c:Ctx} {h:List Obj} {w:World}
theorem cZ.shape{w:World}{S:Nat→Prop}{t:Ty}{x:t.den}{v:Value}(h:cZ w S t x v)(f:t≠ .nili):v≠ .nilIface∧(t.isAgg=false→ ∀cs,v≠ .agg cs):=by
 unfold cZ at h;split at h
 ·grind
 ·rename_i ha;cases t<;>first|(simp[Ty.isAgg] at ha; done)|skip
  case bool=>grind[bC]
  case u=>grind[bC]
  case i=>grind[bC]
  case str=>obtain⟨s,e,_⟩:=h; simp_all
  case sl=>obtain⟨a,l,q,e,_⟩:=h; simp_all
  case rp=>obtain⟨b,off,ds,e,_⟩:=h; simp_all
  case clo=>obtain⟨g,e,_⟩:=h; simp_all
  case ifc=>obtain⟨u,ds,e,_⟩:=h; simp_all
  case nili=>simp_all
  all_goals grind[bC]
theorem bBG{f:BinOp}{t:TypeId}{v u:Value}{ox oy:Operand}(g:v≠ .nilIface)(q:∀cs,v≠ .agg cs):(eqGuard f t ox oy v u).run P w= .ok () w:=by
 cases f<;>first|rfl|skip
 all_goals (cases v<;>first|exact absurd rfl g|exact absurd rfl (q _)|rfl)
theorem aYn{T:Tab}{z:BinOp}{t:TypeId}{q:Ty}(f:aEi P T t q)(g:q.isAgg=true){xs:Array Value}{u:Value}{ox oy:Operand}:(eqGuard z t ox oy (.agg xs) u).run P w= .ok () w:=by
 have I:=f.guard g;cases u with
 | agg J=>grind[run_eqGuard_agg]
 | _=>cases z<;>rfl
theorem bBH{T:Tab}(I:iF P T){g:BinOp}{t:TypeId}{x y:AV}{v u:Value}{ox oy:Operand}(hv:aZ c w x v)(hc:(aCo T g t x y).1):(eqGuard g t ox oy v u).run P w= .ok () w:=by
 cases x with
 | val tx a =>
  have f:=fun L=>(aZ.toV hv).shape L;cases tx with
  | pair p q =>
   obtain⟨J,rfl⟩:=hv.2.1 rfl;cases y with
   | val z b =>
    simp only[aCo] at hc;by_cases e:z= .pair p q
    ·subst e;simp only[dite_true] at hc;cases g<;>simp only at hc<;>first|exact hc.elim|exact aYn (I _ _ hc.1) rfl
    simp_all
   | _=>exact hc.elim
  | arr n q =>
   obtain⟨J,rfl⟩:=hv.2.1 rfl;cases y with
   | val z b =>
    simp only[aCo] at hc;by_cases e:z= .arr n q
    ·subst e;simp only[dite_true] at hc;cases g<;>simp only at hc<;>first|exact hc.elim|exact aYn (I _ _ hc.1) rfl
    simp_all
   | _=>exact hc.elim
  | unit=>exact hc.elim
  | expr=>exact hc.elim
  | nili=>exact hc.elim
  | ifc _ _=>exact hc.elim
  | _=>exact bBG (f (by simp)).1 ((f (by simp)).2 rfl)
 | _=>exact hc.elim
theorem aM6{ρ:Operand→AV}{a:Act}:∀ {l:List (Nat×Operand)},(∀p∈l,aZ c w (ρ p.2) (a.eval p.2))→aD1 c w (l.map fun p=>(p.1,ρ p.2)) (l.map fun p=>(p.1,a.eval p.2))
 | [],_=>.nil
 | p::r,h=>.cons (h p (by simp)) (aM6 fun q hq=>h q (by simp[hq]))
theorem aT5{ρ:Operand→AV}{a:Act}{o:Option Operand}(h:∀x,o=some x→aZ c w (ρ x) (a.eval x)):aW0 c w (o.map ρ) (o.map a.eval):=by
 cases o with
 | none=>exact .none
 | some x=>exact .some (h x rfl)
theorem aM7(I:Good M w0 c h w):∀ {l:List AV} {vs:List Value} {f:List Nat},allTags h l=some f→l.length=vs.length→(∀i (q:i<l.length) (z:i<vs.length),aZ c w l[i] vs[i])→(∀i∈f,i<c.n)∧vs=f.map c.hd
 | [],vs,f,ha,hl,_=>by
  grind[allTags]
 | v::r,[],f,ha,hl,_=>by grind
 | v::r,u::us,f,ha,hl,hv=>by
  simp only[allTags] at ha;split at ha
  ·rename_i i l q z;cases ha;obtain⟨q1,J⟩:=aM7 I z (by simpa using hl) (fun i hi L=>by have:=hv (i+1) (by simp_all) (by simp_all); simp_all);have h0:=hv 0 (by simp) (by simp);simp only[List.getElem_cons_zero] at h0;unfold bIi at q;split at q
   ·rename_i j;split at q
    ·rename_i W N;cases q;obtain⟨U,b,hb,rfl⟩:=aFJ h0;obtain⟨O,cells,e,g,_⟩:=I.objs _ _ N;rw[g] at hb;simp[aW] at hb;subst hb;refine⟨fun k hk=>?_,?_⟩
     ·grind
     ·rw[List.map_cons,← J,g]; rfl
    grind
   grind
  grind
theorem bNj{f:FuncId}{g l2:List Nat}(q:∀i∈g,i<c.n)(z:∀i∈l2,i<c.n):aZ c w (.fn f g l2) (.func (.func f) (g.map c.hd).toArray (l2.map c.hd).toArray) :=
 ⟨⟨q,z,rfl⟩,(fun h=>by cases h),(fun _ I=>by simp)⟩
theorem bK2{vs:List AV}{v:Value}(hv:aZ c w (.tup vs) v){i:Nat}(hi:i<vs.length):∃u,(Instr.extract v i).run P w= .ok u w∧aZ c w (vs.getD i .junk) u:=by
 obtain⟨z,rfl,hl,hx⟩:=hv;have g:i<z.length:=by omega
 refine⟨z[i],by simp[Instr.extract,g],?_⟩;rw[List.getD_eq_getElem?_getD,List.getElem?_eq_getElem hi];have:=hx i hi g;simp only[Option.getD_some];have f:∀I,vs[i]≠ .tup I:=fun I e=>by rw[e] at this; exact this.1.elim
 revert this f;generalize vs[i]=a;generalize z[i]=x;intro this f;cases a<;>first|exact absurd rfl (f _)|trivial|exact this|skip
 obtain⟨q,_,h3⟩:=this;have h3:=h3 rfl;simp only[aN] at q;cases x<;>simp[Value.cells] at q h3<;>first|exact q|skip
end
end Go.Vc
namespace Go.Vc
open Go.RowKit
section
variable {P:Program} {M:Perm} {w0:World} {c:Ctx} {h:List Obj} {w:World}
structure eQ(P:Program)(E:Env):Prop where
 T:iF P E.T
 Γ:∀f vs sp,E.Γ f vs=some sp→(FOK P E.G f sp∧ ∃fn,P.funcs[f]? = some fn∧fn.name ≠ "runtime.NumGoroutine" ∧ fn.body.isSome=true)∨NOK P E.G f sp
 el:∀t ct,E.T t=some (.sl ct)→P.underlying t=some (.slice (E.el t))
 mp:∀t k e,E.mp t=some (k,e)→P.underlying t=some (.map k e)
theorem aEk{f:FuncId}{args:Array Value}(g:∃fn,P.funcs[f]? = some fn∧fn.name ≠ "runtime.NumGoroutine" ∧ fn.body.isSome=true):(callFunc f args).run P w= .ok (.enter f args) w:=by
 obtain⟨fn,q,z,h3⟩:=g;obtain⟨b,hb⟩:=Option.isSome_iff_exists.1 h3;simp_all[callFunc]
theorem aKz{ρ:Operand→AV}{a:Act}{l:List Operand}(h:∀x∈l,aZ c w (ρ x) (a.eval x)):∀i (f:i<(l.map ρ).length) (g:i<(l.map a.eval).length),aZ c w (l.map ρ)[i] (l.map a.eval)[i]:=fun i f g=>by
 simp_all
theorem bFE{f:FuncId}{l2:List Nat}{v:Value}(hv:aZ c w (.fn f [] l2) v):(∀i∈l2,i<c.n)∧v= .func (.func f) #[] (l2.map c.hd).toArray:=by
 obtain⟨g,_,h3⟩:=hv;have h3:=h3 rfl;simp only[aN] at g;obtain⟨_,q,g⟩:=g;refine⟨q,?_⟩;cases v<;>simp[Value.cells] at g h3
 simp_all
theorem bBI{g:FuncId}{t:Ty}{y:t.den}{v:Value}(hv:aZ c w (.val (.clo g t) y) v):∃f:List Value,v= .func (.func g) #[] f.toArray∧bC w c.S t y f:=by
 have:=aZ.toV hv;unfold cZ at this;rw[if_neg (by simp[Ty.isAgg])] at this;obtain⟨f,e,q⟩:=this;simp_all
theorem bIl:∀ {l:List AV} {vs:List Value} {t:Ty} {y:t.den},aL3 l=some ⟨t,y⟩→l.length=vs.length→(∀i (q:i<l.length) (I:i<vs.length),aZ c w l[i] vs[i])→bC w c.S t y vs
 | [],vs,t,y,ha,hl,_=>by
  simp only[aL3,Option.some.injEq,Sigma.mk.injEq] at ha;obtain⟨rfl,hy⟩:=ha;cases vs with
  | nil=>rfl
  | cons _ _=>grind
 | v::r,[],t,y,ha,hl,_=>by grind
 | v::r,x::vs,t,y,ha,hl,hv=>by
  have h0:=hv 0 (by simp) (by simp);simp only[List.getElem_cons_zero] at h0;cases v<;>first|grind[aL3]|skip
  rename_i L x1;simp only[aL3] at ha;split at ha
  ·rename_i u z g;simp only[Option.some.injEq,Sigma.mk.injEq] at ha;obtain⟨rfl,hy⟩:=ha;have hy:=eq_of_heq hy;subst hy;have f:=bIl g (vs:=vs) (by simp_all) (fun i q I=>by have:=hv (i+1) (by simp_all) (by simp_all); simp_all);obtain⟨⟨b,off,ds,e,hb,hd,hc⟩,_,h3⟩:=h0;have h3:=h3 rfl;have J:x= .pointer (some ⟨b,off,none⟩):=by
    simp_all[Value.cells]
   refine⟨[x],vs,rfl,⟨b,off,ds,by rw[J],hb,hd,hc⟩,f⟩
  grind
theorem aJe(q:Good M w0 c h w):∀ {l2:List Nat},aGa h l2=true→(∀i∈l2,i<c.n)→ ∀i (f:i<(l2.map fun i=>AV.ptr i []).length) (g:i<(l2.map c.hd).length),aZ c w (l2.map fun i=>AV.ptr i [])[i] (l2.map c.hd)[i]:=by
 intro l2 hb hl i f g;simp only[List.length_map] at f;simp only[List.getElem_map];simp only[aGa,List.all_eq_true] at hb;have:=hb l2[i] (List.getElem_mem f);split at this
 ·rename_i n v z;obtain⟨b,cells,e,q1,_⟩:=q.objs _ _ z;refine⟨⟨hl _ (List.getElem_mem f),b,by rw[q1]; rfl,by rw[q1]; rfl⟩,(fun h=>by cases h),(fun _ I=>by simp_all)⟩
 simp_all
theorem aT6:∀ {t:Ty} {y:t.den} {f:List Value},vO t=true→bC w c.S t y f→f.length=(aEa t y).length∧ ∀i (N:i<(aEa t y).length) (z:i<f.length),aZ c w (aEa t y)[i] f[i]
 | .unit,_,f,_,g=>by simp only[bC] at g; subst g; exact⟨rfl,fun i h=>by simp_all⟩
 | .pair (.rp a) r,y,f,hb,g=>by
  obtain⟨c1,O,rfl,⟨b,off,ds,rfl,q⟩,z⟩:=g;obtain⟨I,L⟩:=aT6 (t:=r) (y:=y.2) (by grind[vO]) z;refine⟨by simp[aEa,I],fun i hi J=>?_⟩;cases i with
  | zero =>
   refine aZ.ofV ?_;unfold cZ;rw[if_neg (by simp[Ty.isAgg])];exact⟨b,off,ds,rfl,q⟩
  | succ i =>
   grind[aEa]
 | .pair .bool _,_,_,hb,_=>by grind[vO]
 | .pair (.u _) _,_,_,hb,_=>by grind[vO]
 | .pair (.i _) _,_,_,hb,_=>by grind[vO]
 | .pair .str _,_,_,hb,_=>by grind[vO]
 | .pair (.sl _) _,_,_,hb,_=>by grind[vO]
 | .pair .unit _,_,_,hb,_=>by grind[vO]
 | .pair (.pair _ _) _,_,_,hb,_=>by grind[vO]
 | .pair (.arr _ _) _,_,_,hb,_=>by grind[vO]
 | .pair .expr _,_,_,hb,_=>by grind[vO]
 | .pair (.clo _ _) _,_,_,hb,_=>by grind[vO]
 | .bool,_,_,hb,_=>by grind[vO]
 | .u _,_,_,hb,_=>by grind[vO]
 | .i _,_,_,hb,_=>by grind[vO]
 | .str,_,_,hb,_=>by grind[vO]
 | .sl _,_,_,hb,_=>by grind[vO]
 | .arr _ _,_,_,hb,_=>by grind[vO]
 | .expr,_,_,hb,_=>by grind[vO]
 | .rp _,_,_,hb,_=>by grind[vO]
 | .clo _ _,_,_,hb,_=>by grind[vO]
theorem aT7{E:Env}(hE:eQ P E)(hg:Good M w0 c h w)(hG:sY E.G c.S w){dst:Option Nat}{ty:TypeId}{pos:String}{W:Array Edge}{gd:Option (Nat×Bool)}{f:Operand}{args:Array Operand}{argTypes:Array TypeId}{a:Act}{ρ:Operand→AV}{g:FuncId}{q:List Value}{z:List AV}
  (hf:a.eval f= .func (.func g) #[] q.toArray) (hul:q.length=z.length) (hav:∀i (h1:i<(args.toList.map ρ).length) (Z:i<(args.toList.map a.eval).length),aZ c w (args.toList.map ρ)[i] (args.toList.map a.eval)[i])
  (huv:∀i (h1:i<z.length) (Z:i<q.length),aZ c w z[i] q[i]) (hc:(aHl E.Γ h g (args.toList.map ρ++z)).1) :
  Did P M w0 h c { dst:=dst,op:=.call { callee:=.value f,args:=args,argTypes:=argTypes },type:=ty,pos:=pos,after:=W,guard:=gd } a w (aHl E.Γ h g (args.toList.map ρ++z)).2:=by
 have Y:∃sp,E.Γ g (args.toList.map ρ++z)=some sp:=by
  unfold aHl at hc;grind
 obtain⟨sp,I⟩:=Y;have e2:args.map a.eval++q.toArray=(args.toList.map a.eval++q).toArray:=by simp_all
 have hcall:=fun (C:(Ending→World→Prop)→Prop) hC hF=>bK1 (P:=P) (C:=C) hC (Γ:=E.Γ) hF hg hG (f:=g) (vs:=args.toList.map ρ++z) (xs:=(args.toList.map a.eval++q).toArray) (by grind) (fun i h1 Z=>by
  grind) hc
 rcases hE.Γ g _ sp I with⟨J,O⟩|L
 ·refine .inr ⟨g,(args.toList.map a.eval++q).toArray,?_,hcall (Calls P g _ w) (fun R R' h k=>h.mono k) (fun U hs=>by rw[I] at hs; cases hs; exact fun S x=>J w S _ x)⟩;have N:=aEk (w:=w) (args:=(args.toList.map a.eval++q).toArray) O;grind[execOp,resolve,Deferred.ofValue,invoke]
 ·obtain⟨v,w',N,v',c',e,hA⟩:=hcall (bMT P g (args.toList.map a.eval++q).toArray w) (fun R R' ⟨v,w',h,k⟩ hk=>⟨v,w',h,hk _ _ k⟩) (fun U hs=>by rw[I] at hs; cases hs; exact L.2 w _);cases e;refine .inl ⟨v,w',c',?_,hA⟩;grind[execOp,resolve,Deferred.ofValue,invoke]
theorem aYo{T:Tab}(z:iF P T){t:TypeId}{f:Ty}(ht:T t=some f)(g:f.okB=true){o:Oper}{a:Act}(I:o.op= .alloc t):(execOp a.eval o).run P w= .ok (.value (.pointer (some ⟨w.heap.size,0,none⟩))) (w.alloc (.cells (kY f).cells t (0,0))):=by
 have q:=tA (z _ _ ht) g w;simp[execOp,I,Instr.alloc,q,newVar,newRow]
theorem aQR(g:Good M w0 c h w){ob:Go.Obj}:aI7 P M w0 h c w .junk (.pointer (some ⟨w.heap.size,0,none⟩)) (w.alloc ob) c:=by
 have hk:fB nothing w (w.alloc ob):=fB.alloc nothing w _;have hl:dG c w c (w.alloc ob):=⟨.refl _,fun b hb=>hk.block b (g.sfin b hb) (fun f=>f)⟩;exact⟨hl,⟨rfl,rfl⟩,g.step hl rfl rfl hk.any (fun i o b q hb=>hk.block b (g.own i o b q hb).2.1 (fun f=>f)) (fun b hb=>Nat.lt_of_lt_of_le (g.sfin b hb) hk.size) (fun b hb=>.inl hb),hk,fun b hb=>.inl hb,trivial⟩
theorem bGY{E:Env}(U:eQ P E)(hg:Good M w0 c h w){t:TypeId}{m k:AV}{ok:Bool}{mv kv:Value}(hm:aZ c w m mv)(hk:aZ c w k kv)(hc:(aJc E h t m k ok).1) :
  ∃u,(Instr.lookup t mv kv ok).run P w= .ok u w∧aZ c w (aJc E h t m k ok).2 u:=by
 unfold aJc at hc ⊢;split at hc
 ·rename_i i;split at hc
  ·rename_i f g l ho;split at hc
   ·rename_i x hx;obtain⟨O,W,h3⟩:=hc;simp only[ho,hx];obtain⟨b,I,clock,q1,q2,q3,q4⟩:=hg.objs i _ ho;have hmv:mv= .map (some b):=by
     obtain⟨r1,_,r3⟩:=hm;simp only[aN] at r1;have r3:=r3 rfl;simp_all[Value.cells]
    subst hmv;unfold bIj at h3;split at h3
    ·rename_i kt et he;have L:=yY hg hk hx;have hu:=U.mp _ _ _ he;have hgo:(getObj b).run P w= .ok (.map I clock) w:=(by simp[getObj,Sem.run,q2]);have hl:I.toList.length=l.length:=(by omega);have hf:=aM4 (P:=P) U.T h3.1 O L w l I.toList hl (fun j h h'=>by simp_all);have hck:=aK0 (P:=P) I.isEmpty 9998 U.T h3.1 O L w;have hz:=tA (U.T _ _ h3.2) W w;have q:=aPt (c:=f) (w:=w) (S:=c.S) (x:=x) l I.toList 0 hl;have N:∀(z:Value),cZ w c.S g ((uF f l x).getD g.zero) z→aZ c w (if ok=true then AV.tup [.val g ((uF f l x).getD g.zero),.val .bool (uF f l x).isSome] else AV.val g ((uF f l x).getD g.zero)) (if ok=true then .tuple #[z,.bool (uF f l x).isSome] else z):=fun z hz=>by
      cases ok
      ·simp_all[Bool.false_eq_true,if_false,aZ.ofV]
      ·simp only[if_true];refine⟨[z,.bool (uF f l x).isSome],rfl,rfl,fun i O W=>?_⟩
       match i,O,W with
       | 0,_,_=>exact aZ.ofV hz
       | 1,_,_=>exact aZ.ofV (t:=.bool) (x:=(uF f l x).isSome) (by rfl)
     cases J:uF f l x with
     | some y =>
      rw[J] at q;obtain⟨j,e,k1,r1,r2,r3,_⟩:=q;rw[r1] at hf;have Y:j<l.length:=by
       grind
      have Z:j<I.size:=(by omega);have hv:=(q4 j Y Z).2;have e1:I[j]=e:=by
       simp_all
      have e2:l[j].2=y:=(by simp_all);simp_all[bool,Instr.lookup,bB,Result.andThen]
     | none =>
      rw[J] at q;rw[q.1] at hf;have:=N (kY g) (by grind[aI1]);refine⟨if ok=true then .tuple #[kY g,.bool false] else kY g,?_,by simp_all⟩;simp_all[Instr.lookup,bB,Result.andThen]
    simp_all
   simp_all
  simp_all
 simp_all
theorem aKA{E:Env}{t:TypeId}{c:Ty}(q:iF P E.T)(ht:E.T t=some c)(g:c.isNil=false):∃d,P.underlying t=some d∧ ∀f,d≠ .interface f:=by
 obtain⟨d,hd,hb⟩:=(q _ _ ht).desc;refine⟨d,hd,fun f e=>?_⟩;subst e;cases c<;>simp[fM,Ty.isNil] at hb g
theorem bNk{E:Env}(q:eQ P E)(I:Good M w0 c h w){t:TypeId}{x:AV}{v:Value}(hv:aZ c w x v)(hc:(bBE E h t x).1) :
  ∃u,(Instr.makeInterface t v).run P w= .ok u w∧aZ c w (bBE E h t x).2 u:=by
 unfold bBE at hc ⊢;split at hc
 ·rename_i L ht;split at hc
  ·rename_i d hd;simp only[hd];have f:=yY I hv hd;obtain⟨J,z,N⟩:=aKA q.T ht hc;refine⟨.iface t v,?_,aZ.ofV ?_⟩
   ·simp only[Instr.makeInterface,Sem.run_bind,bB z,Result.andThen_ok];rfl
   ·unfold cZ at f ⊢;rw[if_neg (by simp[Ty.isAgg])];split at f
    ·rename_i ha;obtain⟨g,rfl,f⟩:=f;exact⟨.agg g,g.toList,rfl,(fun _=>by simp),(fun h=>by simp_all),f⟩
    ·rename_i ha;exact⟨v,[v],rfl,(fun h=>absurd h ha),(fun _=>rfl),f⟩
  simp_all
 simp_all
theorem aT8{k:TypeId}{t:Ty}{x:t.den}{v:Value}(hv:aZ c w (.val (.ifc k t) x) v):∃u,v= .iface k u∧cZ w c.S t x u:=by
 have f:=aZ.toV hv;unfold cZ at f;rw[if_neg (by simp[Ty.isAgg])] at f;obtain⟨u,ds,e,g,q,h3⟩:=f;simp only[List.cons.injEq,and_true] at e;grind[cZ]
theorem aZh{t:Ty}{x:t.den}{b:Bool}{u:Value}(g:cZ w c.S t x u):aZ c w (.tup [.val t x,.val .bool b]) (.tuple #[u,.bool b]):=by
 refine⟨[u,.bool b],rfl,rfl,fun i f q=>?_⟩
 match i,f,q with
 | 0,_,_=>exact aZ.ofV g
 | 1,_,_=>exact aZ.ofV (t:=.bool) (x:=b) (by rfl)
theorem bGZ{E:Env}(z:eQ P E){t xt:TypeId}{x:AV}{ok:Bool}{v:Value}(hv:aZ c w x v)(hc:(aJd E x t ok).1) :
  ∃u,(Instr.typeAssert v xt t ok).run P w= .ok u w∧aZ c w (aJd E x t ok).2 u:=by
 unfold aJd at hc ⊢;split at hc
 ·rename_i q ht;have g:q.okB=true→q.isNil=false:=fun h=>by grind[Ty.okB,Ty.isNil]
  split at hc
  ·rename_i k c' d;obtain⟨u,rfl,O⟩:=aT8 hv;by_cases e:k=t
   ·subst e;simp only[if_true] at hc ⊢;obtain⟨L,I,N⟩:=aKA z.T ht hc;refine⟨if ok=true then .tuple #[u,.bool true] else u,?_,?_⟩
    ·simp only[Instr.typeAssert,Sem.run_bind,bB I,Result.andThen_ok];rfl
    grind[aZ.ofV,aZh]
   ·simp only[e,if_false] at hc ⊢;obtain⟨rfl,f⟩:=hc;refine⟨.tuple #[kY q,.bool false],?_,aZh (aI1 w c.S q f)⟩;obtain⟨L,I,N⟩:=aKA z.T ht (g f);have f:=tA (z.T _ _ ht) f w;simp only[Instr.typeAssert,Sem.run_bind,bB I,Result.andThen_ok];simp_all
  ·have J:v= .nilIface:=by
    have O:=aZ.toV hv;simp_all[cZ,if_neg,Ty.isAgg,bC]
   subst J;obtain⟨rfl,f⟩:=hc;refine⟨.tuple #[kY q,.bool false],?_,aZh (aI1 w c.S q f)⟩;obtain⟨L,I,N⟩:=aKA z.T ht (g f);have f:=tA (z.T _ _ ht) f w;simp only[Instr.typeAssert,Sem.run_bind,bB I,Result.andThen_ok];simp_all
  simp_all
 simp_all
theorem bNl{T:Tab}(z:iF P T){f:BinOp}{t:TypeId}{x:AV}{v:Value}{ox:Operand}(hv:aZ c w x v)(hc:(bBF T f t x).1) :
  ∃r,(eqGuard f t ox (.const .nilIface) v .nilIface).run P w= .ok () w∧(binOp f t v .nilIface).run P w= .ok r w∧aZ c w (bBF T f t x).2 r:=by
 unfold bBF at hc ⊢;split at hc
 ·rename_i y;have g:v= .nilIface:=by
   have I:=aZ.toV hv;simp_all[cZ,if_neg,Ty.isAgg,bC]
  subst g;have q:T t=some .nili→(Op.equal t .nilIface .nilIface).run P w= .ok true w:=fun ht=>by
   obtain⟨d,hd,hb⟩:=(z _ _ ht).desc;cases d<;>simp[fM] at hb
   unfold Op.equal Op.maxDepth;rw[Op.equalIn];simp[bB hd]
  cases f<;>simp only at hc ⊢ <;> (try exact hc.elim)
  all_goals simp_all[bool,eqGuard,binOp,aE0]
 simp_all
theorem bK3{T:Tab}(q:iF P T){g:BinOp}{t:TypeId}{x y:AV}{v u:Value}{ox oy:Operand}(hv:aZ c w x v)(f:aZ c w y u)(hc:(bIk T g t x y).1) :
  (∃r,(binOp g t v u).run P w= .ok r w∧aZ c w (bIk T g t x y).2 r)∧(eqGuard g t ox oy v u).run P w= .ok () w:=by
 revert hv f hc;unfold bIk;split<;>intro hv f hc
 ·obtain⟨rfl,hk,ha⟩:=aGy hv;obtain⟨rfl,z,hb⟩:=aGy f;have e:=hc;dsimp only at e;subst e;exact⟨⟨_,by simp only[binOp,Op.intArith,ne_eq,not_true_eq_false,if_false]; rfl,aCl hk (aES hk _)⟩,rfl⟩
 ·exact⟨bIb (P:=P) q hv f hc,bBH (P:=P) q hv hc⟩
theorem bMU{E:Env}(N:eQ P E)(O:Good M w0 c h w)(hG:sY E.G c.S w){o:Oper}{a:Act}{ρ:Operand→AV}(I:∀x∈o.op.operands,aZ c w (ρ x) (a.eval x))(hc:(pv E h ρ o).1):Did P M w0 h c o a w (pv E h ρ o).2:=by
 obtain⟨dst,op,ty,pos,aft,gd⟩:=o;cases op<;>simp only[pv] at hc ⊢ <;> (try exact hc.elim)<;>simp only[Op.operands] at I
 case alloc t =>
  split at hc
  ·rename_i ct ht;exact .inl ⟨_,_,c,aYo N.T ht hc rfl,aQR O⟩
  simp_all
 case makeInterface t x =>
  obtain⟨u,J,L⟩:=bNk (P:=P) N O (I x (by simp)) hc;simp_all[Did.of_value,execOp]
 case typeAssert x xt t ok =>
  obtain⟨u,J,L⟩:=bGZ (P:=P) N (xt:=xt) (I x (by simp)) hc;simp_all[Did.of_value,execOp]
 case lookup t m k ok =>
  obtain⟨u,J,L⟩:=bGY (P:=P) N O (I m (by simp)) (I k (by simp)) hc;simp_all[Did.of_value,execOp]
 case move x =>
  simp_all[Did.of_value,execOp,bFB]
 case assign x =>
  simp_all[Did.of_value,execOp,bFB]
 case load t x =>
  obtain⟨u,J,L⟩:=bFu N.T O (I x (by simp)) hc;simp_all[Did.of_value,execOp]
 case binOp op t x y yt =>
  have hx:=I x (by simp);have hy:=I y (by simp);split at hc
  ·obtain⟨r,h1,h2,h3⟩:=bNl (P:=P) (ox:=x) N.T hx hc;have e:a.eval (.const .nilIface)= .nilIface:=rfl;simp_all[Did.of_value,execOp]
  ·cases hw:E.w with
   | true =>
    simp only[hw,cond_true] at hc ⊢;obtain⟨⟨u,J,L⟩,hgd⟩:=bK3 (P:=P) N.T (ox:=x) (oy:=y) hx hy hc;simp_all[Did.of_value,execOp]
   | false =>
    simp only[hw,cond_false] at hc ⊢;obtain⟨u,J,L⟩:=bIb (P:=P) N.T hx hy hc;have hgd:=bBH (P:=P) N.T (u:=a.eval y) (ox:=x) (oy:=y) hx hc;simp_all[Did.of_value,execOp]
 case unOp op t x =>
  obtain⟨u,J,L⟩:=bOb (P:=P) (I x (by simp)) hc;simp_all[Did.of_value,execOp]
 case convert s d x =>
  have hx:=I x (by simp);unfold bIf at hc ⊢;split at hc
  ·rename_i b hd hb;rw[hb] at hx;obtain⟨u,w',c',L,ha⟩:=bBC (P:=P) N.T O hc hd hx;exact .inl ⟨u,w',c',by simp[execOp,L],by omega⟩
  ·rename_i hd;split at hc
   ·rename_i hs;split at hc
    ·rename_i k sz off n hx2;split at hc
     ·rename_i q m xs ho;obtain⟨rfl,hle⟩:=hc;rw[hx2] at hx;obtain⟨u,J,L⟩:=aZg (P:=P) N.T O hs hd hx ho hle;simp_all[Did.of_value,execOp]
     simp_all
    split at hc
    ·rename_i b ha;obtain⟨u,J,L⟩:=aW2 (P:=P) N.T O hs hd hx ha;simp_all[Did.of_value,execOp]
    simp_all
   ·obtain⟨u,J,L⟩:=bFx (P:=P) N.T hx hc;simp_all[Did.of_value,execOp]
  ·obtain⟨u,J,L⟩:=bFx (P:=P) N.T hx hc;simp_all[Did.of_value,execOp]
 case fieldAddr s x k =>
  obtain⟨u,J,L⟩:=bH5 (P:=P) N.T (I x (by simp)) hc;simp_all[Did.of_value,execOp]
 case field s x k =>
  obtain⟨u,J,L⟩:=bH7 (P:=P) N.T (I x (by simp)) hc;simp_all[Did.of_value,execOp]
 case indexAddr t x i =>
  obtain⟨u,J,L⟩:=bH8 (P:=P) N.T O (I x (by simp)) (I i (by simp)) hc;simp_all[Did.of_value,execOp]
 case index t x i =>
  obtain⟨u,J,L⟩:=bIa (P:=P) N.T (I x (by simp)) (I i (by simp)) hc;simp_all[Did.of_value,execOp]
 case slice t x lo hi mx =>
  obtain⟨u,J,L⟩:=bIc (P:=P) N.T O (I x (by simp)) (aT5 (o:=lo) fun y hy=>I y (by simp[hy])) (aT5 (o:=hi) fun y hy=>I y (by simp[hy])) (aT5 (o:=mx) fun y hy=>I y (by simp[hy])) hc;simp_all[Did.of_value,execOp]
 case extract x i =>
  have hx:=I x (by simp);unfold aPu at hc ⊢;split at hc
  ·rename_i vs e;rw[e] at hx;obtain⟨u,J,L⟩:=bK2 (P:=P) hx hc;simp_all[Did.of_value,execOp]
  simp_all
 case build t ps =>
  have hp:=aM6 (l:=ps.toList) (ρ:=ρ) (a:=a) (c:=c) (w:=w) (fun p hp=>I p.2 (List.mem_toArray.2 (List.mem_map_of_mem hp)));have key:∃u,(Instr.build t (ps.toList.map fun p=>(p.1,a.eval p.2)).toArray).run P w= .ok u w∧aZ c w (bif E.dz t then aPo E.T t (ps.toList.map fun p=>(p.1,ρ p.2)) else aKt E.T t (ps.toList.map fun p=>(p.1,ρ p.2))).2 u:=by
   cases hdz:E.dz t with
   | true=>simp only[pv,hdz,cond_true] at hc ⊢; exact bGW (P:=P) N.T hp hc
   | false=>simp only[pv,hdz,cond_false] at hc ⊢; exact bIe (P:=P) N.T hp hc
  obtain⟨u,J,L⟩:=key;have e:(ps.map fun x=>(x.1,a.eval x.2))=(ps.toList.map fun p=>(p.1,a.eval p.2)).toArray:=by grind
  simp_all[Did.of_value,execOp]
 case buildSlice t n ps =>
  have hp:=aM6 (l:=ps.toList) (ρ:=ρ) (a:=a) (c:=c) (w:=w) (fun p hp=>I p.2 (List.mem_toArray.2 (List.mem_map_of_mem hp)));obtain⟨u,w',c',J,L⟩:=aW1 (P:=P) N.T O hp hc;have e:(ps.map fun x=>(x.1,a.eval x.2))=(ps.toList.map fun p=>(p.1,a.eval p.2)).toArray:=by grind
  exact .inl ⟨u,w',c',by simp_all[execOp],L⟩
 case nilCheck x =>
  have hx:=I x (by simp);cases hxv:ρ x<;>rw[hxv] at hx hc<;>simp only[aL2] at hc ⊢ <;> (try exact hc.elim)
  ·obtain⟨_,b,_,e⟩:=aFJ hx;simp_all[Did.of_value,execOp]
  ·obtain⟨b,off,ds,e,_⟩:=aTB hx;simp_all[Did.of_value,execOp]
  ·have e:∃f l1 l2,a.eval x= .func (.func f) l1 l2:=by
    obtain⟨h1,_,h3⟩:=hx;have h3:=h3 rfl;simp only[aN] at h1;have h1:=h1.2.2;cases hv:a.eval x<;>rw[hv] at h1 h3<;>simp[Value.cells] at h1 h3
    simp_all
   obtain⟨f,l1,l2,e⟩:=e;simp_all[Did.of_value,execOp]
 case makeFunc fn first caps =>
  cases fn with
  | func f =>
   simp only at hc ⊢;unfold aL4 at hc ⊢;split at hc
   ·rename_i l1 l2 e1 e2;obtain⟨q1,q2⟩:=aM7 O e1 (vs:=first.toList.map a.eval) (by simp) (aKz fun x hx=>I x (by simp_all));obtain⟨q3,q4⟩:=aM7 O e2 (vs:=caps.toList.map a.eval) (by simp) (aKz fun x hx=>I x (by simp_all));simp only[e1,e2];refine Did.of_value O (v:=.func (.func f) (l1.map c.hd).toArray (l2.map c.hd).toArray) ?_ (bNj q1 q3);have e3:∀l:Array Operand,l.map a.eval=(l.toList.map a.eval).toArray:=fun l=>(by grind);simp_all[execOp,Instr.makeFunc]
   ·rename_i l1 e1 e2;split at hc
    ·rename_i t y e4;obtain⟨q1,q2⟩:=aM7 O e1 (vs:=first.toList.map a.eval) (by simp) (aKz fun x hx=>I x (by simp_all));simp only[e1,e2,e4];have hl1:l1= []:=hc;subst hl1;have e5:=bIl e4 (vs:=caps.toList.map a.eval) (by simp) (aKz fun x hx=>I x (by simp_all));refine Did.of_value O (v:=.func (.func f) #[] (caps.toList.map a.eval).toArray) ?_ (aZ.ofV ?_)
     ·have e3:∀l:Array Operand,l.map a.eval=(l.toList.map a.eval).toArray:=fun l=>(by grind);simp_all[execOp,Instr.makeFunc]
     ·unfold cZ;rw[if_neg (by simp[Ty.isAgg])];exact⟨_,rfl,e5⟩
    simp_all
   simp_all
  | _=>simp_all
 case call cl =>
  obtain⟨callee,args,argTypes⟩:=cl;simp only at hc ⊢;have hargs:∀x∈args.toList,aZ c w (ρ x) (a.eval x):=fun x hx=>I x (by
   simp only[Call.operands];exact Array.mem_append.2 (.inr (by simpa using hx)))
  cases callee with
  | builtin b =>
   cases b<;>simp only[aM5] at hc ⊢ <;> (try exact hc.elim)
   case len =>
    split at hc
    ·rename_i x t ex et;obtain⟨y,ey,rfl⟩:∃y,args.toList= [y]∧ρ y=x:=by
      simp_all
     have hy:=hargs y (by simp_all);obtain⟨u,J,L⟩:=bNi (P:=P) (ty:=ty) N.T O hy hc;have e1:args= #[y]:=(by grind);have e2:argTypes= #[t]:=(by grind);exact Did.of_value O (by rw[e1,e2]; simp[execOp,resolve,invoke,builtin,J]) L
    simp_all
   case min =>
    unfold bH2 at hc ⊢;split at hc
    ·rename_i x y exy;obtain⟨p,q,epq,rfl,rfl⟩:∃p q,args.toList= [p,q]∧ρ p=x∧ρ q=y:=by
      match hl:args.toList,exy with
      | [p,q],ex=>grind
     have hp:=hargs p (by simp_all);have hq:=hargs q (by simp_all);obtain⟨u,J,L⟩:=aPs (P:=P) hp hq hc;have J:(Builtin.min2 (a.eval p) (a.eval q)).run P w= .ok u w:=J;have e1:args= #[p,q]:=(by grind);exact Did.of_value O (by rw[e1]; simp[execOp,resolve,invoke,builtin,Builtin.min_,J]) L
    ·rename_i x y z W;obtain⟨p,q,r,epq,rfl,rfl,rfl⟩:∃p q r,args.toList= [p,q,r]∧ρ p=x∧ρ q=y∧ρ r=z:=by
      match hl:args.toList,W with
      | [p,q,r],ex=>grind
     have hp:=hargs p (by simp_all);have hq:=hargs q (by simp_all);have Z:=hargs r (by simp_all);obtain⟨u,J,L⟩:=aPs (P:=P) hp hq hc.1;obtain⟨u2,U,Y⟩:=aPs (P:=P) L Z hc.2;have J:(Builtin.min2 (a.eval p) (a.eval q)).run P w= .ok u w:=J;have U:(Builtin.min2 u (a.eval r)).run P w= .ok u2 w:=U;have e1:args= #[p,q,r]:=(by grind);exact Did.of_value O (by rw[e1]; simp[execOp,resolve,invoke,builtin,Builtin.min_,J,U]) Y
    simp_all
   case max =>
    unfold bH2 at hc ⊢;split at hc
    ·rename_i x y exy;obtain⟨p,q,epq,rfl,rfl⟩:∃p q,args.toList= [p,q]∧ρ p=x∧ρ q=y:=by
      match hl:args.toList,exy with
      | [p,q],ex=>grind
     have hp:=hargs p (by simp_all);have hq:=hargs q (by simp_all);obtain⟨u,J,L⟩:=aPs (P:=P) hp hq hc;have J:(Builtin.max2 (a.eval p) (a.eval q)).run P w= .ok u w:=J;have e1:args= #[p,q]:=(by grind);exact Did.of_value O (by rw[e1]; simp[execOp,resolve,invoke,builtin,Builtin.max_,J]) L
    ·rename_i x y z W;obtain⟨p,q,r,epq,rfl,rfl,rfl⟩:∃p q r,args.toList= [p,q,r]∧ρ p=x∧ρ q=y∧ρ r=z:=by
      match hl:args.toList,W with
      | [p,q,r],ex=>grind
     have hp:=hargs p (by simp_all);have hq:=hargs q (by simp_all);have Z:=hargs r (by simp_all);obtain⟨u,J,L⟩:=aPs (P:=P) hp hq hc.1;obtain⟨u2,U,Y⟩:=aPs (P:=P) L Z hc.2;have J:(Builtin.max2 (a.eval p) (a.eval q)).run P w= .ok u w:=J;have U:(Builtin.max2 u (a.eval r)).run P w= .ok u2 w:=U;have e1:args= #[p,q,r]:=(by grind);exact Did.of_value O (by rw[e1]; simp[execOp,resolve,invoke,builtin,Builtin.max_,J,U]) Y
    simp_all
  | value f =>
   have hf:=I f (by simp[Call.operands]);simp only[aM5] at hc ⊢;have hav:=aKz (ρ:=ρ) (a:=a) (c:=c) (w:=w) hargs;split at hc
   ·rename_i g l2 e;rw[e] at hf;split at hc
    ·rename_i hb;simp only[e,if_pos hb];obtain⟨hl2,hfv⟩:=bFE hf;grind[aT7,aJe]
    simp_all
   ·rename_i g t y e;rw[e] at hf;split at hc
    ·rename_i hb;simp only[e,if_pos hb];grind[bBI,aT6,aT7]
    simp_all
   simp_all
  | _=>exact hc.elim
end
end Go.Vc

