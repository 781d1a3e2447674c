import Derived.Test.YtlijgfkkmamanaaGreatDoorZL1
import Derived.Laws.IdiomStrings
import Derived.Laws.BytesArg
import Derived.MapKept
set_option linter.unusedVariables false
set_option linter.unusedSimpArgs false
namespace Go.Vc
open Go.RowKit
section
variable {P:Program} {T:Tab} {M:Perm} {w0:World} {c:Ctx} {h:List Obj} {w:World}
theorem aCv{f:AV}{v:Value}{i:Int}(hv:aX c w f v)(hi:aEc f=some i):∃k,v= .int k i:=by
 cases f with
 | val t x =>
  cases t with
  | i k=>simp only[aEc] at hi; cases hi; exact⟨k,(aHX hv).1⟩
  | u k=>simp only[aEc] at hi; cases hi; exact⟨k,(aKR hv).1⟩
  | _=>grind[aEc]
 | _=>grind[aEc]
theorem aFR{t:Ty}{xs:List t.den}{v:Value}(hv:dU w c.S (.sl t) xs v):∃a len cap,v= .slice a len cap∧SlR w c.S (bB w c.S t) t.cells xs a len cap:=by
 simp only[dU,Ty.isAgg,Bool.false_eq_true,if_false] at hv;obtain⟨a,len,cap,e,h⟩:=hv;grind
theorem aDO{i:Nat}{v:Value}(hv:aX c w (.own i) v):i<c.n∧v=c.hd i:=by
 obtain⟨g,_,f⟩:=hv;simp only[aO] at g;have f:=f rfl;simp_all[Value.cells]
theorem bAo{t:Ty}{xs:List t.den}{v:Value}(hv:aX c w (.full t xs) v):∃a n,v= .slice a n n∧SlR w c.S (bB w c.S t) t.cells xs a n n:=by
 obtain⟨g,_,f⟩:=hv;simp only[aO] at g;obtain⟨a,n,e,h⟩:=g;have f:=f rfl;refine⟨a,n,?_,h⟩;simp_all[Value.cells]
theorem gJ{t:TypeId}{g:Ty}(f:aFo P T t (.sl g)):∃e,P.underlying t=some (.slice e)∧T e=some g∧0<g.cells:=by
 obtain⟨d,hd,hb⟩:=f.desc;cases d<;>simp[jI] at hb
 simp_all
theorem aFS{t:TypeId}{n:Nat}{g:Ty}(f:aFo P T t (.arr n g)):∃e,P.underlying t=some (.array n e)∧T e=some g∧0<g.cells∧1<n∧n≤1048576:=by
 obtain⟨d,hd,hb⟩:=f.desc;cases d<;>simp[jI] at hb
 grind
theorem aBX{t:TypeId}(f:aFo P T t .str):P.underlying t=some .string:=by
 obtain⟨d,hd,hb⟩:=f.desc;grind[jI]
theorem aUy{t:TypeId}{f:Ty}(q:lZ P T)(ht:T t=some (.sl f)){xs:List f.den}{a:Option Addr}{len cap:Nat}(hs:SlR w c.S (bB w c.S f) f.cells xs a len cap){i:Int}{k:IntKind}(h0:0≤i)(U:i<(xs.length:Int)) :
  ∃u,(Instr.indexAt t (.slice a len cap) (.int k i)).run P w= .ok u w∧aX c w (.roa f (xs.getD i.toNat f.zero)) u:=by
 obtain⟨e,hd,O,J⟩:=gJ (q _ _ ht);obtain⟨Y,L,z,I⟩:=hs;rcases I with I|⟨b,off,rfl,hb,hcell⟩
 ·grind
 ·obtain⟨ds,N,hc⟩:=hcell i.toNat (by omega);refine⟨.pointer (some ⟨b,off+i.toNat*f.cells,none⟩),?_,aGZ hb ?_ hc⟩
  ·have g:i<(len:Int):=(by omega);simp[Instr.indexAt,asIntOf,bG hd,h0,g,fW (q _ _ O),Result.andThen,xV]
  grind
theorem aT4{i s off n:Nat}{v:Value}(hv:aX c w (.sub i s off n) v):i<c.n∧n≤maxLen∧ ∃b cap,aU (c.hd i)=some b∧v= .slice (some ⟨b,off*s,none⟩) n cap:=by
 obtain⟨g,_,f⟩:=hv;simp only[aO] at g;obtain⟨hi,q,b,cap,hb,e⟩:=g;have f:=f rfl;simp_all[Value.cells]
theorem bF8(J:lZ P T)(hg:Good M w0 c h w){t:TypeId}{x ix:AV}{v iv:Value}(hv:aX c w x v)(hi:aX c w ix iv)(hc:(aOL T h t x ix).1) :
  ∃u,(Instr.indexAt t v iv).run P w= .ok u w∧aX c w (aOL T h t x ix).2 u:=by
 unfold aOL at hc ⊢;cases hix:aEc ix with
 | none=>simp_all
 | some i =>
  obtain⟨k,rfl⟩:=aCv hi hix;simp only[hix] at hc ⊢;cases x with
  | val tx U =>
   cases tx with
   | sl q =>
    simp only at hc ⊢;obtain⟨a,len,Y,rfl,hs⟩:=aFR hv.toV;exact aUy J hc.1 hs hc.2.1 hc.2.2
   | _=>simp_all
  | full q U =>
   simp only at hc ⊢;obtain⟨a,n,rfl,hs⟩:=bAo hv;exact aUy J hc.1 hs hc.2.1 hc.2.2
  | own j =>
   obtain⟨hj,rfl⟩:=aDO hv;simp only at hc ⊢;cases ho:h[j]? with
   | none=>simp_all
   | some o =>
    have hob:=hg.objs j o ho;cases o with
    | row e q U =>
     simp only[ho] at hc ⊢;obtain⟨ht,h0,Z⟩:=hc;obtain⟨e',hd,L,I⟩:=gJ (J _ _ ht);obtain⟨vals,z,_⟩:=hob;obtain⟨hlen,O⟩:=z;rcases O with⟨f,h00⟩|⟨g,Y,cur,f,_,hheap,hle,hcap,hsz,htake⟩
     ·omega
     ·have N:i<(U.length:Int):=Z;refine⟨.pointer (some ⟨g,pR [.idx q.cells i.toNat],none⟩),?_,aMo hj (by rw[f]; rfl)⟩;rw[f];simp[Instr.indexAt,asIntOf,bG hd,h0,N,fW (J _ _ L),Result.andThen,xV,pR,Step.off]
    | tre e m q U =>
     simp only[ho] at hc ⊢;obtain⟨ht,h0,Z⟩:=hc;obtain⟨e',hd,L,I⟩:=gJ (J _ _ ht);obtain⟨B,⟨vv,css,Bs,hvv0,z,_⟩,_⟩:=hob;obtain rfl:c.hd j=vv:=(List.cons.inj hvv0).1;obtain⟨hlen,O⟩:=z;rcases O with⟨f,h00⟩|⟨g,Y,cur,f,_,hheap,hle,hcap,hsz,htake⟩
     ·omega
     ·have N:i<(U.length:Int):=Z;refine⟨.pointer (some ⟨g,pR [.idx q.cells i.toNat],none⟩),?_,aMo hj (by rw[f]; rfl)⟩;rw[f];simp[Instr.indexAt,asIntOf,bG hd,h0,N,fW (J _ _ L),Result.andThen,xV,pR,Step.off]
    | trh e m q U kk vk =>
     simp only[ho] at hc ⊢;obtain⟨ht,h0,Z⟩:=hc;obtain⟨e',hd,L,I⟩:=gJ (J _ _ ht);obtain⟨css,Bs,hq⟩:=hob;have z:=hq.row;obtain⟨hlen,O⟩:=z;rcases O with⟨f,h00⟩|⟨g,Y,cur,f,_,hheap,hle,hcap,hsz,htake⟩
     ·omega
     ·have N:i<(U.length:Int):=Z;refine⟨.pointer (some ⟨g,pR [.idx q.cells i.toNat],none⟩),?_,aMo hj (by rw[f]; rfl)⟩;rw[f];simp[Instr.indexAt,asIntOf,bG hd,h0,N,fW (J _ _ L),Result.andThen,xV,pR,Step.off]
    | frz q U =>
     simp only[ho] at hc ⊢;obtain⟨a,len,Y,e,hs⟩:=hob;simp at e;rw[e];exact aUy J hc.1 hs hc.2.1 hc.2.2
    | _=>simp_all
  | sub j s off n =>
   obtain⟨hj,hn,b,Y,hb,rfl⟩:=aT4 hv;simp only at hc ⊢;cases ho:h[j]? with
   | none=>simp_all
   | some o =>
    cases o with
    | row e q U =>
     simp only[ho] at hc ⊢;obtain⟨ht,rfl,h0,Z⟩:=hc;obtain⟨e',hd,L,I⟩:=gJ (J _ _ ht);refine⟨.pointer (some ⟨b,pR [.idx q.cells (off+i.toNat)],none⟩),?_,aMo hj hb⟩;have e1:off*q.cells+i.toNat*q.cells=(off+i.toNat)*q.cells:=(Nat.add_mul _ _ _).symm;simp[Instr.indexAt,asIntOf,bG hd,h0,Z,fW (J _ _ L),Result.andThen,xV,pR,Step.off,e1]
    | _=>simp_all
  | ptr j p =>
   obtain⟨hj,b,hb,rfl⟩:=aGY hv;simp only at hc ⊢;cases ht:T t with
   | none=>simp_all
   | some q =>
    cases q with
    | arr n q =>
     simp only[ht] at hc ⊢;obtain⟨e,hd,L,I,hn⟩:=aFS (J _ _ ht);refine⟨.pointer (some ⟨b,pR (p++ [.idx q.cells i.toNat]),none⟩),?_,aMo hj hb⟩;simp[Instr.indexAt,asIntOf,bG hd,hc.1,hc.2,fW (J _ _ L),Result.andThen,xV,aIT,pR,Step.off,Instr.sureAddr]
    | _=>simp_all
  | roa tx U =>
   cases tx with
   | arr n q =>
    simp only at hc ⊢;obtain⟨ht,h0,Z⟩:=hc;obtain⟨e,hd,L,I,hn⟩:=aFS (J _ _ ht);obtain⟨b,off,ds,rfl,hb,hrep,hcell⟩:=aT3 hv;obtain⟨pre,ds',post,e1,hp,hd'⟩:=aQz (c:=c) (.val (.arr n q) U) i.toNat ds hrep (by grind[elemOf]);refine⟨.pointer (some ⟨b,off+i.toNat*q.cells,none⟩),?_,aGZ hb hd' ?_⟩
    ·simp[Instr.indexAt,asIntOf,bG hd,h0,Z,fW (J _ _ L),Result.andThen,xV,Instr.sureAddr]
    ·have:=aFp hcell e1;rw[hp] at this; exact this
   | _=>simp_all
  | _=>simp_all
theorem uN(s:ByteArray):(aR s).length=s.size:=by
 obtain⟨⟨l⟩⟩:=s; simp[aR,ByteArray.size]
theorem bF9(s:ByteArray){i:Nat}(h:i<s.size):(aR s).getD i 0=s[i].toNat:=by
 obtain⟨⟨l⟩⟩:=s;have h':i<l.length:=h;simp only[aR,List.getD_eq_getElem?_getD,List.getElem?_map];rw[List.getElem?_eq_getElem h'];rfl
theorem bGa(q:lZ P T){t:TypeId}{x z:AV}{v O:Value}(hv:aX c w x v)(hi:aX c w z O)(hc:(aOM T t x z).1) :
  ∃u,(Instr.index t v O).run P w= .ok u w∧aX c w (aOM T t x z).2 u:=by
 unfold aOM at hc ⊢;cases g:aEc z with
 | none=>simp_all
 | some i =>
  obtain⟨k,rfl⟩:=aCv hi g;simp only[g] at hc ⊢;cases x with
  | val tx Z =>
   cases tx with
   | arr n ct =>
    simp only at hc ⊢;obtain⟨ht,h0,I⟩:=hc;obtain⟨e,hd,Y,U,hn⟩:=aFS (q _ _ ht);obtain⟨hr,h2,_⟩:=hv;obtain⟨cs,rfl⟩:=h2 rfl;obtain⟨pre,ds',post,e1,hp,N⟩:=aQz (c:=c) (.val (.arr n ct) Z) i.toNat _ hr (by grind[elemOf]);obtain⟨u,J,L⟩:=aF1 (q _ _ Y) e1 N w;rw[hp] at J;simp only[aXH,Value.cells] at J;refine⟨u,?_,aX.ofV L⟩;simp[Instr.index,asIntOf,bG hd,h0,I,fW (q _ _ Y),Result.andThen,J]
   | str =>
    simp only at hc ⊢;obtain⟨ht,h0,I⟩:=hc;have hd:=aBX (q _ _ ht);obtain⟨s,rfl,rfl,hs⟩:=aSa hv;rw[uN] at I;have f:i.toNat<s.size:=(by omega);refine⟨.int .u8 (s[i.toNat].toNat:Int),?_,?_⟩
    ·simp[Instr.index,asIntOf,bG hd,h0,getElem?_pos,f]
    ·rw[bF9 s f]; exact aMF rfl (by simp[lM,IntKind.bits]; exact s[i.toNat].toNat_lt)
   | _=>simp_all
  | _=>simp_all
theorem aUz:(maxLen:Int)=IntKind.max .i64:=by rfl
theorem vZ{n:Nat}(h:n≤maxLen):fits .i64 (n:Int):=by
 refine⟨?_,by grind[aUz]⟩;simp[IntKind.min,IntKind.signed,IntKind.bits]
theorem bLr(O:lZ P T)(hg:Good M w0 c h w){t ty:TypeId}{x:AV}{v:Value}(hv:aX c w x v)(hc:(aKV T h t x).1) :
  ∃u,(Builtin.len_ #[t] ty #[v]).run P w= .ok u w∧aX c w (aKV T h t x).2 u:=by
 cases x with
 | val tx Z =>
  cases tx with
  | str =>
   simp only[aKV] at hc ⊢;obtain⟨s,rfl,rfl,hs⟩:=aSa hv;exact⟨.int .i64 s.size,by simp[Builtin.len_,bG (aBX (O _ _ hc)),goInt],by rw[uN]; exact aDc rfl (vZ hs)⟩
  | sl ct =>
   simp only[aKV] at hc ⊢;obtain⟨e,hd,_⟩:=gJ (O _ _ hc);obtain⟨a,len,L,rfl,hl,I,q,_⟩:=aFR hv.toV;exact⟨.int .i64 len,by simp[Builtin.len_,bG hd,goInt],by rw[hl]; exact aDc rfl (vZ (by omega))⟩
  | arr n ct =>
   simp only[aKV] at hc ⊢;obtain⟨e,hd,_,_,_,hn⟩:=aFS (O _ _ hc);exact⟨.int .i64 n,by simp[Builtin.len_,bG hd,goInt],aDc rfl (vZ (by unfold maxLen; omega))⟩
  | _=>exact hc.elim
 | full ct Z =>
  simp only[aKV] at hc ⊢;obtain⟨e,hd,_⟩:=gJ (O _ _ hc);obtain⟨a,n,rfl,hl,I,q,_⟩:=bAo hv;exact⟨.int .i64 n,by simp[Builtin.len_,bG hd,goInt],by rw[hl]; exact aDc rfl (vZ (by omega))⟩
 | nilS =>
  simp only[aKV] at hc ⊢;obtain⟨ct,hc⟩:=hc;obtain⟨e,hd,_⟩:=gJ (O _ _ hc);obtain⟨h1,_,h3⟩:=hv;simp only[aO] at h1;have h3:=h3 rfl;have:v= .slice none 0 0:=by simp_all[Value.cells]
  subst this;exact⟨.int .i64 0,by simp[Builtin.len_,bG hd,goInt],aDc rfl (vZ (Nat.zero_le _))⟩
 | sub j s off n =>
  obtain⟨hj,hn,b,L,hb,rfl⟩:=aT4 hv;simp only[aKV] at hc ⊢;obtain⟨ct,hc⟩:=hc;obtain⟨e,hd,_⟩:=gJ (O _ _ hc);exact⟨.int .i64 n,by simp[Builtin.len_,bG hd,goInt],aDc rfl (vZ hn)⟩
 | own j =>
  obtain⟨hj,rfl⟩:=aDO hv;simp only[aKV] at hc ⊢;cases ho:h[j]? with
  | none=>simp_all
  | some o =>
   have U:=hg.objs j o ho;cases o with
   | row e ct Z =>
    simp only[ho] at hc ⊢;obtain⟨e',hd,he,N⟩:=gJ (O _ _ hc);obtain⟨vals,⟨Y,z⟩,_⟩:=U;rcases z with⟨f,J⟩|⟨g,L,cur,f,_,hheap,I,q,hsz,htake⟩
    ·rw[f,J];exact⟨.int .i64 0,by simp[Builtin.len_,bG hd,goInt],aDc rfl (vZ (Nat.zero_le _))⟩
    ·rw[f];exact⟨.int .i64 Z.length,by simp[Builtin.len_,bG hd,goInt],aDc rfl (vZ (by omega))⟩
   | tre e m ct Z =>
    simp only[ho] at hc ⊢;obtain⟨e',hd,he,N⟩:=gJ (O _ _ hc);obtain⟨B,⟨vv,css,Bs,hvv0,⟨Y,z⟩,_⟩,_⟩:=U;obtain rfl:c.hd j=vv:=(List.cons.inj hvv0).1;rcases z with⟨f,J⟩|⟨g,L,cur,f,_,hheap,I,q,hsz,htake⟩
    ·rw[f,J];exact⟨.int .i64 0,by simp[Builtin.len_,bG hd,goInt],aDc rfl (vZ (Nat.zero_le _))⟩
    ·rw[f];exact⟨.int .i64 Z.length,by simp[Builtin.len_,bG hd,goInt],aDc rfl (vZ (by omega))⟩
   | trh e m ct Z kk vk =>
    simp only[ho] at hc ⊢;obtain⟨e',hd,he,N⟩:=gJ (O _ _ hc);obtain⟨css,Bs,hq⟩:=U;obtain⟨Y,z⟩:=hq.row;rcases z with⟨f,J⟩|⟨g,L,cur,f,_,hheap,I,q,hsz,htake⟩
    ·rw[f,J];exact⟨.int .i64 0,by simp[Builtin.len_,bG hd,goInt],aDc rfl (vZ (Nat.zero_le _))⟩
    ·rw[f];exact⟨.int .i64 Z.length,by simp[Builtin.len_,bG hd,goInt],aDc rfl (vZ (by omega))⟩
   | frz ct Z =>
    simp only[ho] at hc ⊢;obtain⟨e',hd,he,N⟩:=gJ (O _ _ hc);obtain⟨a,len,L,e,hl,I,q,_⟩:=U;simp at e;rw[e];exact⟨.int .i64 len,by simp[Builtin.len_,bG hd,goInt],by rw[hl]; exact aDc rfl (vZ (by omega))⟩
   | _=>simp_all
 | _=>exact hc.elim
theorem bMq{f:UnOp}{x:AV}{v:Value}(hv:aX c w x v)(hc:(bCs f x).1) :
  ∃u,(Op.unary f v).run P w= .ok u w∧aX c w (bCs f x).2 u:=by
 cases x with
 | val t y =>
  cases t with
  | bool =>
   obtain rfl:=aHY hv;cases f<;>simp only[bCs] at hc ⊢
   exact⟨_,rfl,aF0 _⟩
  | i k =>
   obtain⟨rfl,g,q⟩:=aHX hv;cases f<;>simp only[bCs] at hc ⊢
   simp_all[Op.unary,Op.intArith,aIN,aDc]
  | u k =>
   obtain⟨rfl,g,q⟩:=aKR hv;cases f<;>simp only[bCs] at hc ⊢
   ·have hp:=aFZ k;have:=aYA (P:=P) (w:=w) (c:=c) .sub 0 (a:=0) (b:=y) g hp q (by simp[aYz]);obtain⟨u,z,I⟩:=this;refine⟨u,?_,by grind[aYz,aMj,aYy]⟩
    simpa [binOp,Op.unary] using z
   ·have hp:=aFZ k;have:=aYA (P:=P) (w:=w) (c:=c) .xor 0 (a:=lM k-1) (b:=y) g (by omega) q (by simp[aYz]);obtain⟨u,z,I⟩:=this;refine⟨u,?_,by grind[aYz]⟩;grind[lM,bDD,binOp,Op.unary]
  | _=>exact hc.elim
 | _=>exact hc.elim
theorem bDO{k k':IntKind}(h:k.bits≤k'.bits):lM k≤lM k':=Nat.pow_le_pow_right (by omega) h
theorem bCu{k k':IntKind}(g:k.signed=true)(f:k'.signed=true)(h:k.bits≤k'.bits){n:Int}(I:fits k n):fits k' n:=by
 obtain⟨z,q⟩:=I;cases k<;>simp[IntKind.signed] at g<;>cases k'<;>simp[IntKind.signed] at f<;>simp[IntKind.bits] at h<;>simp[fits,IntKind.min,IntKind.max,IntKind.signed,IntKind.bits] at z q ⊢ <;> omega
theorem bE2{k k':IntKind}(q:k.signed=false)(f:k'.signed=true)(h:k.bits<k'.bits){n:Nat}(g:n<lM k):fits k' (n:Int):=by
 cases k<;>simp[IntKind.signed] at q<;>cases k'<;>simp[IntKind.signed] at f<;>simp[IntKind.bits] at h<;>simp[fits,IntKind.min,IntKind.max,IntKind.signed,IntKind.bits,lM] at g ⊢ <;> omega
theorem bDP(U:lZ P T){src dst:TypeId}{x:AV}{v:Value}(hv:aX c w x v)(hc:(aQA T src dst x).1) :
  ∃u,(convert src dst v).run P w= .ok u w∧aX c w (aQA T src dst x).2 u:=by
 have q:(T src).isSome=true→ ∃d,P.underlying src=some d:=fun h=>by
  obtain⟨ct,N⟩:=Option.isSome_iff_exists.1 h;obtain⟨d,hd,_⟩:=(U _ _ N).desc;simp_all
 unfold aQA at hc ⊢;cases f:T dst with
 | none=>simp_all
 | some cd =>
  obtain⟨Z,z,I⟩:=(U _ _ f).desc;cases x with
  | val t y =>
   cases cd with
   | u k =>
    cases Z<;>simp[jI] at I
    obtain⟨rfl,J⟩:=I;cases t with
    | u Y =>
     simp only[f] at hc ⊢;obtain⟨ds,g⟩:=q hc;obtain⟨rfl,L,hy⟩:=aKR hv;refine⟨_,by simp[convert,bG g,bG z,Conv.intToInt]; rfl,?_⟩;rw[aCt J];split
     ·rename_i O; rw[Nat.mod_eq_of_lt (Nat.lt_of_lt_of_le hy (bDO O))]; grind[aMF,Nat.lt_of_lt_of_le,bDO]
     ·exact aMF J (Nat.mod_lt _ (aFZ _))
    | i Y =>
     simp only[f] at hc ⊢;obtain⟨ds,g⟩:=q hc;obtain⟨rfl,L,hy⟩:=aHX hv;refine⟨_,by simp[convert,bG g,bG z,Conv.intToInt]; rfl,?_⟩;rw[bCm J];have hp:=aFZ k;have h1:=Int.emod_nonneg y (show (lM k:Int)≠0 by omega);have h2:=Int.emod_lt_of_pos y (show (0:Int)<lM k by omega);grind[aMF,lM,Int.toNat_of_nonneg]
    | _=>simp_all
   | i k =>
    cases Z<;>simp[jI] at I
    obtain⟨rfl,J⟩:=I;cases t with
    | u Y =>
     simp only[f] at hc ⊢;obtain⟨ds,g⟩:=q hc;obtain⟨rfl,L,hy⟩:=aKR hv;refine⟨_,by simp[convert,bG g,bG z,Conv.intToInt]; rfl,?_⟩;grind[bE2,aIN,aDc,aFQ]
    | i Y =>
     simp only[f] at hc ⊢;obtain⟨ds,g⟩:=q hc;obtain⟨rfl,L,hy⟩:=aHX hv;refine⟨_,by simp[convert,bG g,bG z,Conv.intToInt]; rfl,?_⟩;grind[bCu,aIN,aDc,aFQ]
    | _=>simp_all
   | str =>
    cases Z<;>simp[jI] at I
    cases t with
    | str =>
     simp only[f] at hc ⊢;obtain⟨s,rfl,rfl,hs⟩:=aSa hv;exact⟨_,by simp[convert,bG (aBX (U _ _ hc)),bG z],bIY hs⟩
    | _=>simp_all
   | _=>simp_all
  | _=>simp_all
theorem bDQ(f:BinOp)(t:TypeId){k k':IntKind}{a:Nat}{b:Int}(g:k.signed=false)(q:a<lM k)(h0:0≤b)(h:(shU f k a b.toNat).1) :
  ∃v,(binOp f t (.int k a) (.int k' b)).run P w= .ok v w∧aX c w (shU f k a b.toNat).2 v:=by
 have:=bCn (P:=P) (w:=w) (c:=c) f t (k:=k) (k':=k') (a:=a) (n:=b.toNat) g q h;grind
theorem bDR(f:BinOp)(t:TypeId){k k':IntKind}{a b:Int}(g:k.signed=true)(q:fits k a)(h0:0≤b)(z:f= .shl→b≤k.bits)(h:(shI f k a b.toNat).1) :
  ∃v,(binOp f t (.int k a) (.int k' b)).run P w= .ok v w∧aX c w (shI f k a b.toNat).2 v:=by
 have:=bCo (P:=P) (w:=w) (c:=c) f t (k:=k) (k':=k') (a:=a) (n:=b.toNat) g q (fun e=>by simp_all) h;grind
theorem bAp(a b:ByteArray):aR (a++b)=aR a++aR b:=by
 grind[List.map,ByteArray.data_append,aR]
theorem bDS:∀(a b:List UInt8),Op.bytesLess a b=aOF (a.map (·.toNat)) (b.map (·.toNat))
 | a,[]=>by grind[Op.bytesLess,aOF]
 | [],b::r=>by rfl
 | a::x,b::y=>by
  simp only[Op.bytesLess,List.map_cons,aOF,bDS x y];have e1:decide (a<b)=decide (a.toNat<b.toNat):=by rfl
  have f:(a == b)=decide (a.toNat=b.toNat):=by rw[Bool.eq_iff_iff]; simp[UInt8.toNat_inj]
  grind
theorem bAq(s:ByteArray):aR s=s.toList.map (·.toNat):=by rw[ByteArray.toList_eq]; rfl
theorem bI7{f:BinOp}(t:TypeId){s r:ByteArray}(hs:s.size≤maxLen)(q:r.size≤maxLen)(hc:(bFX f (aR s) (aR r)).1) :
  ∃u,(binOp f t (.string s) (.string r)).run P w= .ok u w∧aX c w (bFX f (aR s) (aR r)).2 u:=by
 have z:Op.bytesLess s.toList r.toList=aOF (aR s) (aR r):=by grind[bDS,bAq]
 cases f<;>simp only[bFX] at hc ⊢
 case add =>
  rw[uN,uN] at hc;have g:(s++r).size=s.size+r.size:=by simp
  refine⟨.string (s++r),?_,by grind[bAp,bIY]⟩;have:¬(((s.size+r.size:Nat):Int)>IntKind.max .i64):=by grind[aUz]
  simp_all[binOp,Op.stringOp,if_false]
 all_goals simp_all[binOp,Op.stringOp,bLk,aF0]
theorem bGb(hT:lZ P T){J:BinOp}{t:TypeId}{x y:AV}{v u:Value}(hv:aX c w x v)(f:aX c w y u)(hc:(aDe T J t x y).1) :
  ∃r,(binOp J t v u).run P w= .ok r w∧aX c w (aDe T J t x y).2 r:=by
 have g:∀(L:Ty) (a b:L.den) (v u:Value),L.isAgg=true→aX c w (.val L a) v→aX c w (.val L b) u→T t=some L→L.cmpB=true→L.deep≤100 →
   (binOp .eql t v u).run P w= .ok (.bool (L.eqb a b)) w∧(binOp .neq t v u).run P w= .ok (.bool (!L.eqb a b)) w:=by
  intro L a b v u z hv f ht Z hd;have O:=aIP hT w ht Z hd hv.toV f.toV;obtain⟨cs,rfl⟩:=hv.2.1 z;obtain⟨cs',rfl⟩:=f.2.1 z;simp_all[binOp]
 cases x with
 | val t1 a =>
  cases t1 with
  | u k =>
   cases y with
   | val I b =>
    cases I with
    | u Y =>
     obtain⟨rfl,N,z⟩:=aKR hv;obtain⟨rfl,U,hb⟩:=aKR f;cases J
     case shl=>exact bCn (P:=P) .shl t N z (by simp[shU])
     case shr=>exact bCn (P:=P) .shr t N z (by simp[shU])
     all_goals
      simp only[aDe] at hc ⊢;split at hc
      all_goals simp_all[if_true,aYA]
    | i Y =>
     obtain⟨rfl,N,z⟩:=aKR hv;obtain⟨rfl,U,hb⟩:=aHX f;cases J<;>simp only[aDe] at hc ⊢
     case shl=>exact bDQ (P:=P) .shl t N z hc (by simp[shU])
     case shr=>exact bDQ (P:=P) .shr t N z hc (by simp[shU])
    | _=>exact hc.elim
   | _=>exact hc.elim
  | i k =>
   cases y with
   | val I b =>
    cases I with
    | i Y =>
     obtain⟨rfl,N,z⟩:=aHX hv;obtain⟨rfl,U,hb⟩:=aHX f;cases J
     case shl =>
      simp_all[aDe,bDR]
     case shr =>
      simp only[aDe] at hc ⊢;exact bDR (P:=P) .shr t N z hc (fun h=>by cases h) (by simp[shI])
     all_goals
      simp only[aDe] at hc ⊢;split at hc
      all_goals simp_all[if_true,bI0]
    | u Y =>
     obtain⟨rfl,N,z⟩:=aHX hv;obtain⟨rfl,U,hb⟩:=aKR f;cases J<;>simp only[aDe] at hc ⊢
     case shl=>simp_all[bCo]
     case shr=>exact bCo (P:=P) .shr t N z (fun h=>by cases h) (by simp[shI])
    | _=>exact hc.elim
   | _=>exact hc.elim
  | str =>
   cases y with
   | val I b =>
    cases I with
    | str =>
     simp only[aDe] at hc ⊢;obtain⟨s,rfl,rfl,hs⟩:=aSa hv;obtain⟨r,rfl,rfl,hr⟩:=aSa f;simp_all[bI7]
    | _=>exact hc.elim
   | _=>exact hc.elim
  | bool =>
   cases y with
   | val I b =>
    cases I with
    | bool =>
     simp only[aDe] at hc ⊢;obtain rfl:=aHY hv;obtain rfl:=aHY f;have O:=aIP (P:=P) (T:=T) hT w (S:=c.S) (w:=w) (x:=a) (y:=b) hc.1 rfl (by simp[Ty.deep]) hv.toV f.toV;have hc2:=hc.2;cases J<;>simp only[bIZ] at hc2 ⊢
     ·exact⟨.bool (a == b),by simp only[binOp,Sem.run_bind,O,Result.andThen_ok]; rfl,aF0 _⟩
     ·exact⟨.bool (a != b),by simp only[binOp,Sem.run_bind,O,Result.andThen_ok]; rfl,aF0 _⟩
    | _=>exact hc.elim
   | _=>exact hc.elim
  | pair p q =>
   cases y with
   | val I b =>
    simp only[aDe] at hc ⊢;by_cases e:I= .pair p q
    ·subst e;simp only[dite_true] at hc ⊢;cases J<;>simp only at hc ⊢ <;> (try exact hc.elim)
     ·exact⟨_,(g _ _ _ _ _ rfl hv f hc.1 hc.2.1 hc.2.2).1,aF0 _⟩
     ·exact⟨_,(g _ _ _ _ _ rfl hv f hc.1 hc.2.1 hc.2.2).2,aF0 _⟩
    simp_all
   | _=>exact hc.elim
  | arr n q =>
   cases y with
   | val I b =>
    simp only[aDe] at hc ⊢;by_cases e:I= .arr n q
    ·subst e;simp only[dite_true] at hc ⊢;cases J<;>simp only at hc ⊢ <;> (try exact hc.elim)
     ·exact⟨_,(g _ _ _ _ _ rfl hv f hc.1 hc.2.1 hc.2.2).1,aF0 _⟩
     ·exact⟨_,(g _ _ _ _ _ rfl hv f hc.1 hc.2.1 hc.2.2).2,aF0 _⟩
    simp_all
   | _=>exact hc.elim
  | _=>exact hc.elim
 | _=>exact hc.elim
end
end Go.Vc
namespace Go.Vc
open Go.RowKit
section
variable {P:Program} {T:Tab} {M:Perm} {w0:World} {c:Ctx} {h:List Obj} {w:World}
theorem iI{i:Int}{k:IntKind}{y:Nat}{f:BoundsCode}(h0:0≤i)(g:i≤(y:Int)):(Instr.sliceBound (.int k i) y f).run P w= .ok i.toNat w:=by
 simp[Instr.sliceBound,asIntOf,h0,g]
inductive aWG(c:Ctx)(w:World):Option AV→Option Value→Prop where
 | none:aWG c w none none
 | some {a:AV} {v:Value} (h:aX c w a v):aWG c w (some a) (some v)
theorem aDz{o:Option AV}{v:Option Value}(hv:aWG c w o v){i:Int}(hi:o.map aEc=some (some i)):∃k,v=some (.int k i):=by
 cases hv with
 | none=>cases hi
 | some hv =>
  simp at hi;obtain⟨k,rfl⟩:=aCv hv hi;simp_all
theorem wA{o:Option AV}{v:Option Value}(hv:aWG c w o v)(hi:o.map aEc=none):v=none:=by
 cases hv with
 | none=>rfl
 | some hv=>grind
theorem aYF(s:ByteArray)(l n:Nat):aR (s.extract l n)=((aR s).take n).drop l:=by
 obtain⟨⟨x⟩⟩:=s;simp only[aR,ByteArray.data_extract,List.extract_toArray,List.extract_eq_take_drop];simp[List.map_take,List.map_drop,List.drop_take]
theorem aMq{t:TypeId}(hd:P.underlying t=some .string){s:ByteArray}(hs:s.size≤maxLen){lo hi:Option Value}{l u:Nat}
  (hb:(Instr.sliceBounds false s.size s.size lo hi none).run P w= .ok (l,u,s.size) w) :
  (Instr.sliceAt t (.string s) lo hi none).run P w= .ok (.string (s.extract l u)) w∧aX c w (.val .str (((aR s).take u).drop l)) (.string (s.extract l u)):=by
 refine⟨by simp[Instr.sliceAt,Instr.slice,bG hd,hb],?_⟩;rw[← aYF];refine bIY ?_;have:(s.extract l u).size≤s.size:=by simp; omega
 omega
theorem aH0{t e:TypeId}{f:Ty}(hd:P.underlying t=some (.slice e))(O:aFo P T e f){xs:List f.den}{a:Option Addr}{len cap:Nat}(hs:SlR w c.S (bB w c.S f) f.cells xs a len cap){lo hi mx:Option Value}{l u m:Nat}
  (hb:(Instr.sliceBounds true len cap lo hi mx).run P w= .ok (l,u,m) w) (h1:l≤u) (Y:u≤len) (U:u≤m) (Z:m≤cap) :
  ∃z ,(Instr.sliceAt t (.slice a len cap) lo hi mx).run P w= .ok (.slice z (u-l) (m-l)) w∧SlR w c.S (bB w c.S f) f.cells ((xs.take u).drop l) z (u-l) (m-l):=by
 refine⟨if m=l then a else a.map (·.add (l*f.cells)),by simp[Instr.sliceAt,Instr.slice,bG hd,hb,fW O],?_⟩;obtain⟨hl,L,I,J⟩:=hs;refine⟨by grind,by omega,by omega,?_⟩;rcases J with J|⟨b,off,rfl,q,hcell⟩
 ·simp_all
 ·by_cases g:m=l
  ·simp_all
  ·right
   refine⟨b,off+l*f.cells,by simp[g,xV],q,fun i hi=>?_⟩;have N:l+i<xs.length:=(by grind);grind
theorem Good.frz(q:Good M w0 c h w):Good M w0 c (h.map fX) w:=by
 have z:∀i:Nat,(h.map fX)[i]? = (h[i]?).map fX:=fun i=>by simp
 have g:∀(i:Nat) (o:Obj),(h.map fX)[i]? = some o→o= .dead∨h[i]? = some o:=fun i o f=>by
  rw[z] at f;cases hi:h[i]? with
  | none=>simp_all
  | some U =>
   rw[hi] at f;simp only[Option.map_some,Option.some.injEq] at f;cases U<;>simp only[fX] at f<;>subst f<;>first|simp_all|simp_all
 refine⟨by rw[q.n]; simp,q.keeps,q.sfin,q.src,fun i o f=>?_,fun i o b f hb=>?_,fun i j O N b hi L I J=>?_,q.root⟩
 ·rcases g i o f with rfl|f
  ·trivial
  ·exact q.objs i o f
 ·rcases g i o f with rfl|f
  ·simp[fA] at hb
  ·exact q.own i o b f hb
 ·rcases g i O hi with rfl|hi
  ·simp[fA] at I
  ·rcases g j N L with rfl|L
   ·simp[fA] at J
   ·exact q.sep i j O N b hi L I J
theorem aQD(b:Nat)(hb:aGX c (h.map fX) b):c.S b:=by
 rcases hb with hb|⟨i,g,f,hb⟩
 ·exact hb
 ·simp only[List.getElem?_map] at f;cases hi:h[i]? with
  | none=>simp_all
  | some o=>rw[hi] at f; simp only[Option.map_some,Option.some.injEq] at f; subst f; cases o<;>simp[fX,fA] at hb
theorem bAr{av:AV}{v:Value}{t:Ty}{x:t.den}(hv:aX c w av v)(g:AV.as h t av=some x):aO c w av v.cells.toList∧(av.isAgg=true→ ∃cs,v= .agg cs)∧(av.isAgg=false→ ∀cs,v≠ .agg cs):=by
 cases av with
 | junk=>grind[AV.as]
 | undef=>grind[AV.as]
 | tup f=>grind[AV.as]
 | _=>exact hv
theorem aMr(g:Good M w0 c h w){av:AV}{v:Value}{t:Ty}{x:t.den}(hv:aX c w av v)(f:AV.as h t av=some x):dU w (aGX c h) t x v:=by
 obtain⟨I,z,q⟩:=bAr hv f;grind[bKU,dU.of_cells]
theorem aAo(f:Good M w0 c h w){av:AV}{v:Value}{t:Ty}{x:t.den}(hv:aX c w av v)(g:AV.as (h.map fX) t av=some x):dU w c.S t x v :=
 (aMr f.frz hv g).keep aQD (.refl _ _)
theorem bGc(hT:lZ P T)(hg:Good M w0 c h w){t:TypeId}{x:AV}{v:Value}{lo hi mx:Option AV}{lv hv mv:Option Value}(hx:aX c w x v)(q:aWG c w lo lv)(g:aWG c w hi hv)(J:aWG c w mx mv)(hc:(aON T h t x lo hi mx).1) :
  ∃u,(Instr.sliceAt t v lv hv mv).run P w= .ok u w∧aX c w (aON T h t x lo hi mx).2 u:=by
 unfold aON at hc ⊢;cases ht:T t with
 | none=>simp_all
 | some U =>
  cases U with
  | str =>
   simp only[ht] at hc ⊢;have hd:=aBX (hT _ _ ht);split at hc
   ·rename_i s;cases J;obtain⟨s,rfl,rfl,hs⟩:=aSa hx;have f:=uN s;split at hc
    ·rename_i e1 z;obtain rfl:=wA q e1;obtain rfl:=wA g z;have:=aMq (c:=c) (w:=w) hd hs (lo:=none) (hi:=none) (l:=0) (u:=s.size) (by rfl);simp_all
    ·rename_i l e1 z;obtain⟨k,rfl⟩:=aDz q e1;obtain rfl:=wA g z;rw[f] at hc;have:=aMq (c:=c) (w:=w) hd hs (lo:=some (.int k l)) (hi:=none) (l:=l.toNat) (u:=s.size) (by simp[Instr.sliceBounds,iI hc.1 hc.2]);grind
    ·rename_i u e1 z;obtain rfl:=wA q e1;obtain⟨k,rfl⟩:=aDz g z;rw[f] at hc;have:=aMq (c:=c) (w:=w) hd hs (lo:=none) (hi:=some (.int k u)) (l:=0) (u:=u.toNat) (by simp[Instr.sliceBounds,iI hc.1 hc.2]);simp_all
    ·rename_i l u e1 z;obtain⟨k,rfl⟩:=aDz q e1;obtain⟨k',rfl⟩:=aDz g z;rw[f] at hc;obtain⟨h0,Y,Z⟩:=hc;have:=aMq (c:=c) (w:=w) hd hs (lo:=some (.int k l)) (hi:=some (.int k' u)) (l:=l.toNat) (u:=u.toNat) (by simp[Instr.sliceBounds,iI (P:=P) (w:=w) (show 0≤u by omega) Z,iI (P:=P) (w:=w) (i:=l) (y:=u.toNat) h0 (by omega)]);simp_all
    simp_all
   simp_all
  | sl U =>
   simp only[ht] at hc ⊢;obtain⟨e,hd,he,hpos⟩:=gJ (hT _ _ ht);have L:=hT _ _ he;cases hl:bCt h U x with
   | none=>simp_all
   | some xs =>
    simp only[hl] at hc ⊢;obtain⟨a,len,I,rfl,hs⟩:=aFR (aAo hg hx hl);have f:=hs.1;have hle:=hs.2.1;have mk:∀ {ys:List U.den} {O:Option Addr} {n m:Nat},SlR w c.S (bB w c.S U) U.cells ys O n m→aX c w (.val (.sl U) ys) (.slice O n m):=fun hs'=>⟨⟨_,_,_,rfl,hs'⟩,(fun h=>by cases h),(fun _ cs=>by simp)⟩;have mkF:∀ {ys:List U.den} {O:Option Addr} {n m:Nat},SlR w c.S (bB w c.S U) U.cells ys O n m→m=n→aX c w (.full U ys) (.slice O n m):=fun hs' e=>(by subst e; exact⟨⟨_,_,rfl,hs'⟩,(fun h=>by cases h),(fun _ cs=>by simp)⟩);split at hc
    ·rename_i e1 z N;obtain rfl:=wA q e1;obtain rfl:=wA g z;obtain rfl:=wA J N;obtain⟨O,Y,Z⟩:=aH0 (w:=w) hd L hs (lo:=none) (hi:=none) (mx:=none) (l:=0) (u:=len) (m:=I) (by rfl) (Nat.zero_le _) (Nat.le_refl _) hle (Nat.le_refl _);grind
    ·rename_i l e1 z N;obtain⟨k,rfl⟩:=aDz q e1;obtain rfl:=wA g z;obtain rfl:=wA J N;rw[f] at hc;obtain⟨O,Y,Z⟩:=aH0 (w:=w) hd L hs (lo:=some (.int k l)) (hi:=none) (mx:=none) (l:=l.toNat) (u:=len) (m:=I) (by simp[Instr.sliceBounds,iI hc.1 hc.2]) (by omega) (Nat.le_refl _) hle (Nat.le_refl _);grind
    ·rename_i u e1 z N;obtain rfl:=wA q e1;obtain⟨k,rfl⟩:=aDz g z;obtain rfl:=wA J N;rw[f] at hc;obtain⟨O,Y,Z⟩:=aH0 (w:=w) hd L hs (lo:=none) (hi:=some (.int k u)) (mx:=none) (l:=0) (u:=u.toNat) (m:=I) (by simp[Instr.sliceBounds,iI (P:=P) (w:=w) (y:=I) hc.1 (by omega)]) (by omega) (by omega) (by omega) (Nat.le_refl _);simp_all
    ·rename_i l u e1 z N;obtain⟨k,rfl⟩:=aDz q e1;obtain⟨k',rfl⟩:=aDz g z;obtain rfl:=wA J N;rw[f] at hc;obtain⟨h0,Y,Z⟩:=hc;obtain⟨O,Y,Z⟩:=aH0 (w:=w) hd L hs (lo:=some (.int k l)) (hi:=some (.int k' u)) (mx:=none) (l:=l.toNat) (u:=u.toNat) (m:=I) (by simp[Instr.sliceBounds,iI (P:=P) (w:=w) (i:=u) (y:=I) (by omega) (by omega),iI (P:=P) (w:=w) (i:=l) (y:=u.toNat) h0 (by omega)]) (by omega) (by omega) (by omega) (Nat.le_refl _);simp_all
    ·rename_i u m e1 z N;obtain rfl:=wA q e1;obtain⟨k,rfl⟩:=aDz g z;obtain⟨k',rfl⟩:=aDz J N;rw[f] at hc;obtain⟨h0,Y,rfl⟩:=hc;obtain⟨O,Y,Z⟩:=aH0 (w:=w) hd L hs (lo:=none) (hi:=some (.int k m)) (mx:=some (.int k' m)) (l:=0) (u:=m.toNat) (m:=m.toNat) (by simp[Instr.sliceBounds,iI (P:=P) (w:=w) (i:=m) (y:=I) (by omega) (by omega),iI (P:=P) (w:=w) (i:=m) (y:=m.toNat) h0 (by omega)]) (by omega) (by omega) (by omega) (by omega);grind
    ·rename_i l u m e1 z N;obtain⟨k,rfl⟩:=aDz q e1;obtain⟨k',rfl⟩:=aDz g z;obtain⟨k'',rfl⟩:=aDz J N;rw[f] at hc;obtain⟨h0,Y,Z,rfl⟩:=hc;obtain⟨O,Y,Z⟩:=aH0 (w:=w) hd L hs (lo:=some (.int k l)) (hi:=some (.int k' m)) (mx:=some (.int k'' m)) (l:=l.toNat) (u:=m.toNat) (m:=m.toNat) (by simp[Instr.sliceBounds,iI (P:=P) (w:=w) (i:=m) (y:=I) (by omega) (by omega),iI (P:=P) (w:=w) (i:=m) (y:=m.toNat) (by omega) (by omega),iI (P:=P) (w:=w) (i:=l) (y:=m.toNat) h0 (by omega)]) (by omega) (by omega) (by omega) (by omega);grind
    simp_all
  | _=>simp_all
end
end Go.Vc
namespace Go.Vc
open Go.RowKit
section
variable {P:Program} {T:Tab} {M:Perm} {w0:World} {c:Ctx} {h:List Obj} {w:World}
theorem aIU{w w':World}{B:Nat}{e:TypeId}{sz:Nat}{v:Value}{n:Nat}{f:List Value}(hb:∀b,aU v=some b→w'.heap[b]? = w.heap[b]?)(h:w.ownsRow B e sz v n f):w'.ownsRow B e sz v n f:=by
 obtain⟨L,J⟩:=h;refine⟨L,J.imp id ?_⟩;rintro⟨g,z,q,rfl,I,N,r⟩;exact⟨g,z,q,rfl,I,by rw[hb g rfl]; exact N,r⟩
theorem mB.keep{w w':World}{S S':Nat→Prop}(hs:∀b,S b→S' b)(h:aCq S w w'):∀(t:Ty) (m:Mk) (x:t.den) (cs:List Value) (B:List Nat),(∀b∈B,w'.heap[b]? = w.heap[b]?)→mB w S t m x cs B→mB w' S' t m x cs B:=by
 intro t;have g:∀(t:Ty) (x:t.den) (cs:List Value) (B:List Nat),bB w S t x cs∧B= []→bB w' S' t x cs∧B= []:=fun t x cs B ⟨z,I⟩=>⟨bB.keep hs h t x cs z,I⟩
 induction t with
 | sl t ih =>
  intro m xs cs B q f;cases m with
  | no=>exact g _ _ _ _ f
  | sl e m =>
   obtain⟨v,L,Bs,z,I,J,N,h5,h6⟩:=f;subst h5;refine⟨v,L,Bs,z,aIU (fun b hb=>q b (by simp[hdB,hb])) I,J,N,rfl,fun i q1 Z q3=>ih m _ _ _ (fun b hb=>q b ?_) (h6 i q1 Z q3)⟩;grind[List.mem_append_right,List.mem_flatten,List.getElem_mem]
  | pair a b=>exact f.elim
 | pair a r U O =>
  intro m x cs B q f;cases m with
  | no=>exact g _ _ _ _ f
  | sl e m=>exact f.elim
  | pair ma mr =>
   obtain⟨c1,c2,B1,Y,z,I,J,N⟩:=f;subst I;exact⟨c1,c2,B1,Y,z,rfl,U _ _ _ _ (fun b hb=>q b (List.mem_append_left _ hb)) J,O _ _ _ _ (fun b hb=>q b (List.mem_append_right _ hb)) N⟩
 | _ =>
  intro m x cs B q f;cases m<;>first|exact g _ _ _ _ f|exact f.elim
theorem bDC.keep{c c':Ctx}{w w':World}{i:Nat}{e:TypeId}{m:Mk}{t:Ty}{xs:List t.den}{k:Nat}{v:AV}{css:List (List Value)}{N:List (List Nat)}(I:eI c w c' w')(g:c'.hd i=c.hd i)(L:c'.bl i=c.bl i)(hb:∀b,c.bl i b→w'.heap[b]? = w.heap[b]?)(f:bDC c w i e m t xs k v css N):bDC c' w' i e m t xs k v css N:=by
 refine⟨?_,f.lc,f.lb,f.kl,fun j h z O J=>mB.keep I.le.S I.same _ _ _ _ _ (fun b q=>hb b (f.bl b ?_)) (f.el j h z O J),f.hb,fun z=>⟨aO.keep I.le I.same _ _ (f.hv z).1,(f.hv z).2⟩,by rw[g]; exact f.nd,by rw[g,L]; exact f.bl⟩
 ·rw[g]; exact aIU (fun b q=>hb b (f.bl b (by simp[hdB,q]))) f.row
 grind[List.mem_append_right,List.mem_flatten,List.getElem_mem]
theorem aIM.keep{c c':Ctx}{w w':World}{i:Nat}{o:Obj}(f:eI c w c' w')(hi:i<c.n)(hbl:c'.bl i=c.bl i)(hb:∀b,fA c i o b→w'.heap[b]? = w.heap[b]?)(q:aIM c w i o):aIM c' w' i o:=by
 have g:=f.le.hd i hi;cases o with
 | dead=>trivial
 | box n v =>
  obtain⟨b,cells,e,I,L,J,U⟩:=q;exact⟨b,cells,e,by simp_all,by grind[fA,aU],J,aO.keep f.le f.same _ _ U⟩
 | row e t Z =>
  obtain⟨N,I,L⟩:=q;refine⟨N,?_,bB.keep f.le.S f.same _ _ _ L⟩;rw[g];exact aIU (fun b z=>hb b z) I
 | frz t Z=>simp only[aIM] at *; rw[g]; exact bB.keep f.le.S f.same _ _ _ q
 | map k v m =>
  obtain⟨b,es,clock,I,L,J,U⟩:=q;exact⟨b,es,clock,by simp_all,by grind[fA,aU],J,fun j hj O=>⟨(U j hj O).1.keep f.le.S f.same,(U j hj O).2.keep f.le.S f.same⟩⟩
 | tre e m t Z =>
  obtain⟨B,I,L,J⟩:=q;exact⟨B,by rw[g]; exact mB.keep f.le.S f.same _ _ _ _ _ (fun b z=>hb b (J b z)) I,L,by simp_all⟩
 | trh e m t Z k v =>
  obtain⟨Y,Bs,q⟩:=q;exact⟨Y,Bs,q.keep f g hbl hb⟩
theorem gT{c c':Ctx}(g:c.le c'){i:Nat}(f:c'.bl i=c.bl i)(hi:i<c.n)(o:Obj):fA c' i o=fA c i o:=by
 funext b;cases o<;>simp[fA,g.hd i hi,f]
theorem yS{h:List Obj}{i:Nat}{o:Obj}(f:h[i]? = some o):i<h.length:=by
 grind
theorem Good.step(q:Good M w0 c h w){c':Ctx}{w':World}(N:eI c w c' w')(Z:c'.n=c.n)(z:c'.bl=c.bl)(hk:iL M.wr w w')(hb:∀i o b,h[i]? = some o→fA c i o b→w'.heap[b]? = w.heap[b]?)
  (hs:∀b,c'.S b→b<w'.heap.size) (hd:∀b,c'.S b→c.S b∨w.heap.size≤b):Good M w0 c' h w':=by
 have f:∀i o,h[i]? = some o→i<c.n:=fun i o I=>by rw[q.n]; grind
 refine⟨by rw[Z,q.n],q.keeps.trans hk,hs,fun b hb f=>(hd b hb).elim (fun hb=>q.src b hb f) (fun hb=>absurd hb (Nat.not_le_of_lt (Nat.lt_of_lt_of_le f q.keeps.size))),fun i o I=>(q.objs i o I).keep N (f i o I) (congrFun z i) (fun b g=>hb i o b I g),fun i o b I g=>?_,fun i j U O b hi Y J L=>?_,aCs q.root N.le⟩
 ·rw[gT N.le (congrFun z _) (f i o I)] at g;obtain⟨h1,h2,h3⟩:=q.own i o b I g;grind
 ·rw[gT N.le (congrFun z _) (f i U hi)] at J;rw[gT N.le (congrFun z _) (f j O Y)] at L;exact q.sep i j U O b hi Y J L
def Ctx.upto(c:Ctx)(lo hi:Nat):Ctx:=⟨fun b=>c.S b∨(lo≤b∧b<hi),c.hd,c.n,c.bl⟩
theorem Ctx.le_upto(c:Ctx)(lo hi:Nat):c.le (c.upto lo hi):=⟨fun b hb=>.inl hb,Nat.le_refl _,fun _ _=>rfl⟩
theorem zN(g:Good M w0 c h w){w':World}(q:iL nothing w w'):eI c w (c.upto w.heap.size w'.heap.size) w' :=
 ⟨c.le_upto _ _,fun b hb=>q.block b (g.sfin b hb) (fun f=>f)⟩
theorem iL.any{w w':World}(g:iL nothing w w'):iL M.wr w w':=⟨g.os,g.tape,g.output,g.size,fun b hb _=>g.block b hb (fun f=>f)⟩
theorem Good.call(g:Good M w0 c h w){w':World}(q:iL nothing w w'):Good M w0 (c.upto w.heap.size w'.heap.size) h w' :=
 g.step (zN g q) rfl rfl q.any (fun i o b z hb=>q.block b (g.own i o b z hb).2.1 (fun f=>f)) (fun b hb=>hb.elim (fun hb=>Nat.lt_of_lt_of_le (g.sfin b hb) q.size) (fun hb=>hb.2)) (fun b hb=>hb.imp id (fun hb=>hb.1))
theorem iL.alloc(M:Nat→Prop)(w:World)(o:Go.Obj):iL M w { w with heap:=w.heap.push o } :=
 ⟨rfl,rfl,rfl,by simp,fun b hb _=>by grind⟩
structure aKY(P:Program)(M:Perm)(w0:World)(h:List Obj)(c:Ctx)(w:World)(av:AV)(v:Value)(w':World)(c':Ctx):Prop where
 later:eI c w c' w'
 n:c'.n=c.n∧c'.bl=c.bl
 good:Good M w0 c' h w'
 keeps:iL nothing w w'
 new:∀b,c'.S b→c.S b∨w.heap.size≤b
 val:aX c' w' av v
def Did(P:Program)(M:Perm)(w0:World)(h:List Obj)(c:Ctx)(o:Oper)(a:Act)(w:World)(av:AV):Prop :=
 (∃v w' c',(execOp a.eval o).run P w= .ok (.value v) w'∧aKY P M w0 h c w av v w' c') ∨
 (∃f args,(execOp a.eval o).run P w= .ok (.enter f args) w∧Calls P f args w fun e w'=>∃v c',e= .returned v∧aKY P M w0 h c w av v w' c')
theorem Did.of_value(f:Good M w0 c h w){o:Oper}{a:Act}{av:AV}{v:Value}(g:(execOp a.eval o).run P w= .ok (.value v) w)(hv:aX c w av v):Did P M w0 h c o a w av :=
 .inl ⟨v,w,c,g,.refl _ _,⟨rfl,rfl⟩,f,.refl _ _,fun b hb=>.inl hb,hv⟩
theorem bB.scalar{w w':World}{S S':Nat→Prop}:∀(t:Ty) (x:t.den) (cs:List Value),t.scalar=true→bB w S t x cs→bB w' S' t x cs
 | .bool,_,_,_,f=>f
 | .u _,_,_,_,f=>f
 | .i _,_,_,_,f=>f
 | .str,_,_,_,f=>f
 | .sl t,_,_,hs,_=>by simp[Ty.scalar] at hs
 | .unit,_,_,_,f=>f
 | .pair a b,_,_,hs,⟨c1,J,hc,z,q⟩=>by
  simp only[Ty.scalar,Bool.and_eq_true] at hs;exact⟨c1,J,hc,bB.scalar a _ _ hs.1 z,bB.scalar b _ _ hs.2 q⟩
 | .arr _ t,_,_,hs,⟨I,g,hc,L,f⟩=>⟨I,g,hc,L,fun i z q=>bB.scalar t _ _ (by simpa [Ty.scalar] using hs) (f i z q)⟩
 | .expr,_,_,hs,_=>by simp[Ty.scalar] at hs
 | .rp _,_,_,hs,_=>by simp[Ty.scalar] at hs
 | .clo _ _,_,_,hs,_=>by simp[Ty.scalar] at hs
theorem dU.scalar{w w':World}{S S':Nat→Prop}{t:Ty}{x:t.den}{v:Value}(hs:t.scalar=true)(f:dU w S t x v):dU w' S' t x v:=by
 unfold dU at *;split
 ·rename_i g; simp only[g,if_true] at f; grind[bB.scalar]
 grind[bB.scalar]
theorem sD.scalar{w w':World}{S S':Nat→Prop}:∀(t:Ty) (x:t.den) (vs:List Value),t.scalar=true→sD w S t x vs→sD w' S' t x vs
 | .unit,_,_,_,f=>f
 | .pair a r,x,vs,hs,⟨v,g,e,z,q⟩=>by
  simp only[Ty.scalar,Bool.and_eq_true] at hs;exact⟨v,g,e,z.scalar hs.1,sD.scalar r _ _ hs.2 q⟩
 | .bool,_,_,_,f=>f.elim
 | .u _,_,_,_,f=>f.elim
 | .i _,_,_,_,f=>f.elim
 | .str,_,_,_,f=>f.elim
 | .sl _,_,_,_,f=>f.elim
 | .arr _ _,_,_,_,f=>f.elim
 | .expr,_,_,_,f=>f.elim
 | .rp _,_,_,_,f=>f.elim
 | .clo _ _,_,_,_,f=>f.elim
theorem aYG(N:Good M w0 c h w):∀(t:Ty) (vs:List AV) (xs:List Value) (x:t.den),aDy h t vs=some x→xs.length=vs.length→(∀i (q:i<vs.length) (g:i<xs.length),aX c w vs[i] xs[i])→sD w (aGX c h) t x xs:=by
 intro t
 induction t with
 | unit =>
  intro vs xs x f z hv;cases vs with
  | nil=>exact List.eq_nil_of_length_eq_zero z
  | cons v vs=>grind[aDy]
 | pair a r _ I =>
  intro vs xs x f z hv;cases vs with
  | nil=>grind[aDy]
  | cons v vs =>
   cases xs with
   | nil=>grind
   | cons u xs =>
    simp only[aDy] at f;split at f
    ·rename_i O J q g;cases f;refine⟨u,xs,rfl,aMr N (hv 0 (by simp) (by simp)) q,I vs xs J g (by simp_all) (fun i hi L=>?_)⟩;have:=hv (i+1) (by simp_all) (by simp_all);simp_all
    grind
 | _=>grind[aDy]
theorem aKZ(J:Good M w0 c h w){t:Ty}{vs:List AV}{xs:List Value}{x:t.den}(I:aDy (h.map fX) t vs=some x)(L:xs.length=vs.length)(hv:∀i (q:i<vs.length) (g:i<xs.length),aX c w vs[i] xs[i]):sD w c.S t x xs:=by
 have:=aYG J.frz t vs xs x I L hv;have hmono:∀(t:Ty) (x:t.den) (xs:List Value),sD w (aGX c (h.map fX)) t x xs→sD w c.S t x xs:=by
  intro t
  induction t with
  | unit=>intro x xs h; exact h
  | pair a r _ z=>intro x xs ⟨v,f,e,q,g⟩; exact⟨v,f,e,q.keep aQD (.refl _ _),z _ _ g⟩
  | _=>intro x xs h; exact h.elim
 simp_all
theorem bAs(f:Good M w0 c h w)(b:Nat)(hb:aGX c h b):b<w.heap.size:=by
 rcases hb with hb|⟨i,o,g,hb⟩
 ·exact f.sfin b hb
 ·exact(f.own i _ b g hb).2.1
theorem uD.mono{G:Nat→AV}{S S':Nat→Prop}{w w':World}(hs:∀b,S b→S' b)(h:aCq S w w')(f:uD G S w):uD G S' w':=fun g =>
 (f g).keep (c:=⟨S,fun _=>Go.undef,0,fun _ _=>False⟩) (c':=⟨S',fun _=>Go.undef,0,fun _ _=>False⟩) ⟨hs,Nat.le_refl _,fun _ _=>rfl⟩ h
theorem bCv{S:Nat→Prop}{w:World}{c:Ctx}(I:c.S=S):∀(t:Ty) (x:t.den) (vs:List Value),sD w S t x vs→vs.length=(aE9 t x).length∧ ∀i (h:i<(aE9 t x).length) (h':i<vs.length),zM c w (aE9 t x)[i] vs[i]
 | .unit,_,vs,f=>by simp only[sD] at f; subst f; exact⟨rfl,fun i h=>by simp_all⟩
 | .pair a r,x,vs,⟨v,g,e,L,z⟩=>by
  subst e;obtain⟨J,f⟩:=bCv I r x.2 g z;refine⟨by simp[aE9,J],fun i hi q=>?_⟩;cases i with
  | zero=>exact aX.ofV (by simp_all)
  | succ i=>grind[aE9]
 | .bool,_,_,f=>f.elim
 | .u _,_,_,f=>f.elim
 | .i _,_,_,f=>f.elim
 | .str,_,_,f=>f.elim
 | .sl _,_,_,f=>f.elim
 | .arr _ _,_,_,f=>f.elim
 | .expr,_,_,f=>f.elim
 | .rp _,_,_,f=>f.elim
 | .clo _ _,_,_,f=>f.elim
def FAt(G:Nat→AV)(sp:aF)(vs:Array Value)(w:World)(C:(Ending→World→Prop)→Prop):Prop :=
 ∀(S:Nat→Prop) (x:sp.args.den),(∀b,S b→b<w.heap.size)→uD G S w→sD w S sp.args x vs.toList→sp.pre x →
  C fun e w'=>∃v,e= .returned v∧iL nothing w w'∧bEY w' S w.heap.size sp.res (sp.fn x) v
def bKV(P:Program)(f:FuncId)(vs:Array Value)(w:World)(R:Ending→World→Prop):Prop :=
 ∃v w',(callFunc f vs).run P w= .ok (.value v) w'∧R (.returned v) w'
def NOK(P:Program)(G:Nat→AV)(f:FuncId)(sp:aF):Prop :=
 (∀e t,sp.res≠ .own e t)∧ ∀(w:World) (vs:Array Value),FAt G sp vs w (bKV P f vs w)
theorem bI8{C:(Ending→World→Prop)→Prop}(hC:∀R R':Ending→World→Prop,C R→(∀e w',R e w'→R' e w')→C R'){G:Nat→AV}{Γ:FuncId→List AV→Option aF}{f:FuncId}{vs:List AV}{xs:Array Value}(Y:∀sp,Γ f vs=some sp→FAt G sp xs w C)(z:Good M w0 c h w)(hG:uD G c.S w)(hl:xs.size=vs.length)
  (hv:∀i (N:i<vs.length) (O:i<xs.size),aX c w vs[i] xs[i]) (hc:(aIR Γ h f vs).1) :
  C fun e w'=>∃v c',e= .returned v∧aKY P M w0 h c w (aIR Γ h f vs).2 v w' c':=by
 unfold aIR at hc ⊢;cases hf:Γ f vs with
 | none=>simp_all
 | some sp =>
  simp only[hf] at hc ⊢;have Z:xs.toList.length=vs.length:=by omega
  have U:∀i (N:i<vs.length) (O:i<xs.toList.length),aX c w vs[i] xs.toList[i]:=fun i N O=>by
   simp_all
  obtain⟨I,res,pre,fn⟩:=sp;have key:∀(x:I.den),aDy (if res.ty.scalar then h else h.map fX) I vs=some x→pre x→(∀e t,res≠ .own e t)→C fun e w'=>∃v c',e= .returned v∧aKY P M w0 h c w (bF3 res (fn x)) v w' c':=by
   intro x ha hp hno;by_cases q:res.ty.scalar=true
   ·rw[if_pos q] at ha;have hargs:=aYG z _ _ _ _ ha Z U;refine hC _ _ (Y _ hf (aGX c h) x (bAs z) (hG.mono (fun b hb=>.inl hb) (.refl _ _)) hargs hp) ?_;rintro e w' ⟨v,rfl,L,g⟩;refine⟨v,_,rfl,zN z L,⟨rfl,rfl⟩,z.call L,L,fun b hb=>hb.imp id And.left,?_⟩;cases res with
    | none=>trivial
    | one t=>exact aX.ofV (dU.scalar q g)
    | own e t=>simp_all
    | tup t =>
     obtain⟨us,rfl,J⟩:=g;have:=sD.scalar (w':=w') (S':=(c.upto w.heap.size w'.heap.size).S) t _ _ q J;obtain⟨N,O⟩:=bCv (c:=c.upto w.heap.size w'.heap.size) rfl t _ _ this;exact⟨us,rfl,N,O⟩
   ·rw[if_neg q] at ha;have hargs:=aKZ z ha Z U;refine hC _ _ (Y _ hf c.S x z.sfin hG hargs hp) ?_;rintro e w' ⟨v,rfl,L,g⟩;refine⟨v,_,rfl,zN z L,⟨rfl,rfl⟩,z.call L,L,fun b hb=>hb.imp id And.left,?_⟩;cases res with
    | none=>trivial
    | one t=>exact aX.ofV g
    | own e t=>simp_all
    | tup t =>
     obtain⟨us,rfl,J⟩:=g;obtain⟨N,O⟩:=bCv (c:=c.upto w.heap.size w'.heap.size) rfl t _ _ J;exact⟨us,rfl,N,O⟩
  grind
end
end Go.Vc
namespace Go.Vc
open Go.RowKit
section
variable {P:Program} {T:Tab} {M:Perm} {w0:World} {c:Ctx} {h:List Obj} {w:World}
theorem bAt(pre:List Value):∀(f old post:List Value) (cells:Array Value) (j:Nat),cells.toList=pre++old++post→old.length=j+f.length →
  ((f.zipIdx j).foldl (fun q (p:Value×Nat)=>q.setIfInBounds (pre.length+p.2) p.1) cells).toList=pre++(old.take j++f)++post
 | [],old,post,cells,j,hc,g=>by
  simp only[List.zipIdx_nil,List.foldl_nil,List.append_nil];rw[hc,List.take_of_length_le (by simp at g; omega)]
 | v::f,old,post,cells,j,hc,g=>by
  simp only[List.zipIdx_cons,List.foldl_cons];simp only[List.length_cons] at g;have z:(cells.setIfInBounds (pre.length+j) v).toList=pre++(old.set j v)++post:=by
   simp_all
  have:=bAt pre f (old.set j v) post _ (j+1) z (by grind);grind[List.take_succ_eq_append_getElem,List.take_set_of_le]
theorem aQE{pre old post:List Value}{cells:Array Value}(hc:cells.toList=pre++old++post){v:Value}(hv:v.cells.size=old.length) :
  (v.cells.zipIdx.foldl (fun f (p:Value×Nat)=>f.setIfInBounds (pre.length+p.2) p.1) cells).toList=pre++v.cells.toList++post:=by
 have:=bAt pre v.cells.toList old post cells 0 hc (by simp[hv]);rw[← Array.foldl_toList,Array.toList_zipIdx]
 simpa using this
theorem bGd:∀ {L:List AV} {cs:List Value} {k:Nat} {ts:List Ty},nD c w L cs→L.length=ts.length→(∀i (h:i<L.length),(L[i]).solid1=true)→(∀i (h:i<L.length) (h':i<ts.length),(L[i]).nc1=ts[i].cells)→k<L.length →
  ∃pre ds post,cs=pre++ds++post∧pre.length=((ts.take k).map Ty.cells).foldr (· + ·) 0∧ds.length=(ts.getD k .unit).cells∧ ∀(v:AV) (f:List Value),aO c w v f→nD c w (L.set k v) (pre++f++post)
 | [],_,_,_,_,_,_,_,Z=>by grind
 | v::L,cs,k,ts,O,hl,hs,J,Z=>by
  cases ts with
  | nil=>grind
  | cons t ts =>
   simp only[nD] at O;obtain⟨c1,c2,rfl,U,h2⟩:=O;have h0:=J 0 (by simp) (by simp);have I:=hs 0 (by simp);simp only[List.getElem_cons_zero] at h0 I;have z:=aNH I U;cases k with
   | zero=>exact⟨[],c1,c2,by simp,rfl,by simp_all,fun N f q=>by simp only[List.set_cons_zero,nD,List.nil_append]; grind⟩
   | succ k =>
    obtain⟨pre,ds,post,e,hp,hd,g⟩:=bGd (k:=k) (ts:=ts) h2 (by simp_all) (fun i hi=>by have:=hs (i+1) (by simp_all); simp_all) (fun i hi Y=>by have:=J (i+1) (by simp_all) (by simp_all); simp_all) (by simp_all);refine⟨c1++pre,ds,post,by rw[e]; simp,by simp[z,h0,hp],by simpa using hd,fun N f q=>?_⟩;simp only[List.set_cons_succ,nD];exact⟨c1,pre++f++post,by simp,U,g N f q⟩
theorem aEd:∀ {I:List Field} {off:Nat} {t:Ty} {k:Nat} {z:Ty},eM T I off t=true→t.flds[k]? = some z→ ∃f,I[k]? = some f∧T f.type=some z∧f.offset=off+((t.flds.take k).map Ty.cells).foldr (· + ·) 0
 | [],off,.unit,k,z,_,q=>by grind[Ty.flds]
 | f::I,off,.pair a r,0,z,g,q=>by
  simp only[eM,Bool.and_eq_true,decide_eq_true_eq] at g;simp[Ty.flds] at q;simp_all
 | f::I,off,.pair a r,k+1,z,g,q=>by
  simp only[eM,Bool.and_eq_true,decide_eq_true_eq] at g;simp only[Ty.flds,List.getElem?_cons_succ] at q;obtain⟨O,N,L,J⟩:=aEd g.2 q;grind[Ty.flds]
 | [],_,.pair _ _,_,_,g,_=>by grind[eM]
 | _::_,_,.unit,_,_,g,_=>by grind[eM]
theorem aOO:∀ {q:List Field} {off:Nat} {t:Ty},eM T q off t=true→q.length=t.flds.length
 | [],_,.unit,_=>rfl
 | f::q,off,.pair a r,g=>by
  simp only[eM,Bool.and_eq_true] at g;simp[Ty.flds,aOO g.2]
 | [],_,.pair _ _,g=>by grind[eM]
 | _::_,_,.unit,g=>by grind[eM]
theorem aXI:∀(t:Ty),t.okB=true→ ∀g off,eM T g off t=true→nD c w (aBI t) (dI t)∧(aBI t).length=t.flds.length∧(∀i (h:i<(aBI t).length),((aBI t)[i]).solid1=true)∧(∀i (h:i<(aBI t).length) (h':i<t.flds.length),((aBI t)[i]).nc1=(t.flds[i]).cells)
 | .unit,_,_,_,_=>⟨rfl,rfl,fun i h=>by simp[aBI] at h,fun i h=>by simp[aBI] at h⟩
 | .pair a r,z,f::g,off,q=>by
  simp only[Ty.okB,Bool.and_eq_true] at z;simp only[eM,Bool.and_eq_true] at q;obtain⟨L,J,N,O⟩:=aXI r z.2 g _ q.2;refine⟨⟨dI a,dI r,rfl,gN w c.S a z.1,L⟩,by simp[aBI,Ty.flds,J],fun i hi=>?_,fun i hi I=>?_⟩
  ·cases i with
   | zero=>rfl
   | succ i=>grind[aBI]
  ·cases i with
   | zero=>rfl
   | succ i=>grind[aBI,Ty.flds]
 | .pair _ _,_,[],_,q=>by grind[eM]
 | .bool,_,g,_,q=>by grind[eM]
 | .u _,_,g,_,q=>by grind[eM]
 | .i _,_,g,_,q=>by grind[eM]
 | .str,_,g,_,q=>by grind[eM]
 | .sl _,_,g,_,q=>by grind[eM]
 | .arr _ _,_,g,_,q=>by grind[eM]
 | .expr,_,g,_,q=>by grind[eM]
 | .rp _,_,g,_,q=>by grind[eM]
 | .clo _ _,_,g,_,q=>by grind[eM]
 | .nilp,_,g,_,q=>by grind[eM]
 | .nilf,_,g,_,q=>by grind[eM]
inductive aEX(c:Ctx)(w:World):List (Nat×AV)→List (Nat×Value)→Prop where
 | nil:aEX c w [] []
 | cons {k:Nat} {a:AV} {v:Value} {ps:List (Nat×AV)} {vs:List (Nat×Value)} (h:aX c w a v) (r:aEX c w ps vs):aEX c w ((k,a)::ps) ((k,v)::vs)
theorem aOP{place:Nat→Option (Nat×Nat)}{ts:List Ty}(hp:∀k t,ts[k]? = some t→place k=some (((ts.take k).map Ty.cells).foldr (· + ·) 0,t.cells)):∀(ps:List (Nat×AV)) (vs:List (Nat×Value)) (L:List AV) (cells:Array Value),
  aEX c w ps vs→aMl ts ps→nD c w L cells.toList→L.length=ts.length→(∀i (h:i<L.length),(L[i]).solid1=true)→(∀i (h:i<L.length) (h':i<ts.length),(L[i]).nc1=ts[i].cells) →
  ∃cells',Instr.fill place cells vs=some cells'∧nD c w (bEZ L ps) cells'.toList
 | _,_,L,cells,.nil,_,J,_,_,_=>⟨cells,rfl,J⟩
 | _,_,L,cells,.cons (k:=k) (a:=a) (v:=v) (ps:=ps) (vs:=vs) hv r,f,J,hl,hs,Y=>by
  obtain⟨⟨O,t,I,hnc⟩,f⟩:=f;have hkt:k<ts.length:=get_lt' I;obtain⟨pre,ds,post,e,hpl,N,q⟩:=bGd (k:=k) J hl hs Y (by omega);have z:ts.getD k .unit=t:=by simp_all
  rw[z] at N;have g:zM c w a v:=by cases a<;>first|exact hv|grind[AV.solid1]
  have hvc:=aNH O g.1;have hsz:v.cells.size=t.cells:=by simp_all
  have hstep:=aQE (v:=v) e (by omega);have Z:cells.size=(pre++ds++post).length:=by grind
  obtain⟨cells',h1,h2⟩:=aOP hp ps vs (L.set k a) _ r f (by rw[hstep]; exact q a _ g.1) (by simp_all) (fun i hi=>by
    grind) (fun i hi U=>by
    grind)
  refine⟨cells',?_,h2⟩;simp_all[Instr.fill,Ty.cells,if_neg]
where
 get_lt' {α:Type} {l:List α} {k:Nat} {x:α} (h:l[k]? = some x):k<l.length:=by
  grind
theorem aOQ{t:Ty}{L:List AV}{cells:Array Value}(q:nD c w L cells.toList):aX c w (aKW t L) (.agg cells):=by
 unfold aKW;have hL:aX c w (.agg L) (.agg cells):=⟨by grind[aO,Value.cells],fun _=>⟨_,rfl⟩,fun h=>by cases h⟩;split
 ·rename_i x f;have O:∀(t:Ty) (v:AV) (x:t.den) (cs:List Value),AV.as [] t v=some x→aO c w v cs→bB w c.S t x cs∧t.isAgg=v.isAgg:=by
   intro t v x cs f q;exact as_nil t v x cs f q
  obtain⟨N,I⟩:=O _ _ _ _ f hL.1;exact aX.ofV (dU.of_cells (fun _=>⟨_,rfl⟩) (fun h=>by rw[I] at h; cases h) N)
 omega
where
 as_nil (t:Ty) (v:AV) (x:t.den) (cs:List Value) (f:AV.as [] t v=some x) (q:aO c w v cs):bB w c.S t x cs∧t.isAgg=v.isAgg:=by
  have hval:∀(t z:Ty) (y:z.den) (x:t.den) (cs:List Value),AV.as [] t (.val z y)=some x→aO c w (.val z y) cs→bB w c.S t x cs∧t.isAgg=AV.isAgg (.val z y):=by
   intro t z y x cs f q;have:∃e:z=t,x=e▸y:=by
    have I:(if e:z=t then some (e▸y) else none)=some x:=(by grind[AV.as]);grind
   obtain⟨rfl,rfl⟩:=this;exact⟨q,rfl⟩
  have hflat:∀(t:Ty) (l:List AV) (x:t.den) (cs:List Value),aIQ t l=some x→nD c w l cs→bB w c.S t x cs:=by
   intro t l x cs f q;unfold aIQ at f;split at f
   ·rename_i y hp;cases f;obtain⟨c1,Z,e,r1,r2⟩:=bAk t l _ _ cs hp q;simp only[nD] at r2;subst r2;rw[e,List.append_nil]; exact r1
   ·cases f
  induction t generalizing v cs with
  | pair a b iha U =>
   cases v with
   | val z y=>grind
   | agg J =>
    cases J with
    | nil=>grind[AV.as]
    | cons v J =>
     simp only[aYB] at f;split at f
     ·rename_i xa xb N I;cases f;simp only[aO,nD] at q;obtain⟨c1,Z,e,r1,r2⟩:=q;exact⟨⟨c1,Z,e,(iha v xa c1 N r1).1,(U (.agg J) xb Z I (by grind[aO])).1⟩,rfl⟩
     grind
   | flat l=>simp only[aYC] at f; exact⟨hflat _ _ _ _ f (by grind[aO]),rfl⟩
   | _=>grind[AV.as]
  | sl t ih =>
   cases v with
   | val z y=>grind
   | nilS=>simp at f; subst f; simp only[aO] at q; exact⟨⟨none,0,0,q,rfl,Nat.le_refl _,Nat.zero_le _,.inl rfl⟩,rfl⟩
   | full z xs =>
    have I:(if e:z=t then some (e▸xs) else none)=some x:=(by grind[AV.as]);split at I
    ·rename_i e;subst e;cases I;simp only[aO] at q;obtain⟨p,n,e,Y⟩:=q;exact⟨⟨p,n,n,e,Y⟩,rfl⟩
    grind
   | own i=>simp[rowOf] at f
   | _=>grind[AV.as]
  | unit =>
   cases v with
   | val z y=>grind
   | agg J=>cases J with
    | nil=>simp only[aO,nD] at q; exact⟨q,rfl⟩
    | cons v J=>grind[AV.as]
   | flat l=>simp only[aUs] at f; exact⟨hflat _ _ _ _ f (by grind[aO]),rfl⟩
   | _=>grind[AV.as]
  | rp t ih =>
   cases v with
   | val z y=>grind
   | roa z y =>
    have I:(if e:z=t then some (e▸y) else none)=some x:=(by grind[AV.as]);split at I
    ·rename_i e;subst e;cases I;simp only[aO] at q;exact⟨q,rfl⟩
    grind
   | ptr i p =>
    cases p with
    | nil=>simp at f
    | cons s p=>grind[AV.as]
   | _=>grind[AV.as]
  | clo g t ih =>
   cases v with
   | val z y=>grind
   | fn g' l1 l2 =>
    cases l1 with
    | nil =>
     have I:g'=g∧AV.as [] t (.agg (l2.map fun i=>.ptr i []))=some x:=(by grind[AV.as]);obtain⟨rfl,f⟩:=I;simp only[aO] at q;obtain⟨_,I,e⟩:=q;cases l2 with
     | nil =>
      have:=ih (.agg []) x [] f rfl;exact⟨⟨[],by simp_all,this.1⟩,rfl⟩
     | cons i l2 =>
      exfalso;have hp:∀a:Ty,AV.as [] a (.ptr i [])=none:=fun a=>(by cases a<;>simp[AV.as]);cases t<;>first|grind[AV.as]|(simp[hp] at f; done)|(match l2,f with
       | [],f=>simp[AV.as] at f
       | [_],f=>simp[AV.as] at f
       | [_,_],f=>simp[AV.as,asX,bF0] at f
       | _::_::_::_,f=>simp[AV.as] at f)
    | cons i l1=>grind[AV.as]
   | _=>grind[AV.as]
  | expr =>
   cases v with
   | val z y=>grind
   | agg J =>
    match J,f,q with
    | [a,b,v],f,q =>
     simp only[aYD] at f;exact⟨bDK (fun _ h=>h) (fun i xs cs N _=>by grind[rowOf]) f (by grind[aO]),rfl⟩
    | [],f,_=>grind[AV.as]
    | [_],f,_=>grind[AV.as]
    | [_,_],f,_=>grind[AV.as]
    | _::_::_::_::_,f,_=>grind[AV.as]
   | _=>grind[AV.as]
  | _ =>
   cases v with
   | val z y=>grind
   | _=>grind[AV.as]
theorem aXJ{av:AV}{v:Value}{t:Ty}{x:t.den}(hv:aX c w av v)(f:AV.as [] t av=some x):dU w c.S t x v:=by
 obtain⟨g,z,q⟩:=bAr hv f;grind[aOQ.as_nil,dU.of_cells]
theorem aUA{g:Ty}{n:Nat}{place:Nat→Option (Nat×Nat)}(hp:∀k,place k=some (k*g.cells,g.cells)):∀(ps:List (Nat×AV)) (vs:List (Nat×Value)) (xs:List g.den) (cells:Array Value) (ys:List g.den),
  aEX c w ps vs→aYE g xs ps=some ys→bB w c.S (.arr n g) xs cells.toList→ ∃cells',Instr.fill place cells vs=some cells'∧bB w c.S (.arr n g) ys cells'.toList
 | _,_,xs,cells,ys,.nil,I,N=>by simp[aYE] at I; subst I; exact⟨cells,rfl,N⟩
 | _,_,xs,cells,ys,.cons (k:=k) (a:=a) (v:=v) (ps:=ps) (vs:=vs) hv r,I,N=>by
  simp only[aYE] at I;split at I
  ·rename_i x hx;split at I
   ·rename_i hk;obtain⟨hn,f,e,hl,q⟩:=N;obtain⟨pre,post,O,hpl⟩:=oT (t:=g) (css:=f) (fun j hj=>bB.length _ _ _ (q j (by omega) hj)) k (by omega);have L:=(aXJ hv hx).cells;have hvl:=bB.length _ _ _ L;have hcl:=bB.length _ _ _ (q k hk (by omega));have hsz:v.cells.size=g.cells:=(by omega);have hstep:=aQE (v:=v) (e.trans O) (by omega);have J:bB w c.S (.arr n g) (xs.set k x) (pre++v.cells.toList++post):=by
     refine⟨by simp_all,f.set k v.cells.toList,?_,by simp_all,fun i h1 Y=>?_⟩
     ·have hsp:f=f.take k++ [f[k]]++f.drop (k+1):=(by simp);have z:pre=(f.take k).flatten∧post=(f.drop (k+1)).flatten:=by
       have U:((f.take k).flatten).length=k*g.cells:=by
        rw[nF (n:=g.cells) (fun i hi=>?_)]
        ·rw[List.length_take,Nat.min_eq_left (by omega)]
        ·simp at hi; simp only[List.getElem_take]; exact bB.length _ _ _ (q i (by omega) (by omega))
       have h3:f.flatten=(f.take k).flatten++f[k]++(f.drop (k+1)).flatten:=by
        grind
       rw[h3,List.append_assoc,List.append_assoc] at O;obtain⟨q1,q2⟩:=List.append_inj O (by omega);obtain⟨q3,q4⟩:=List.append_inj q2 rfl;grind
      rw[z.1,z.2,List.set_eq_take_append_cons_drop,if_pos (by omega)];simp
     grind
    obtain⟨cells',h1,Y⟩:=aUA hp ps vs (xs.set k x) _ ys r I (by rw[hstep]; exact J);refine⟨cells',?_,Y⟩;rw[Instr.fill,hp k];have Z:cells.size=(pre++f[k]++post).length:=(by grind);simp_all
   grind
  grind
end
end Go.Vc
namespace Go.Vc
open Go.RowKit
section
variable {P:Program} {T:Tab} {M:Perm} {w0:World} {c:Ctx} {h:List Obj} {w:World}
theorem bE3:∀(t:Ty),t.okB=true→ ∀z off,eM T z off t=true→nD c w (mZ t) (dI t)∧(mZ t).length=t.flds.length∧(∀i (h:i<(mZ t).length),((mZ t)[i]).solid1=true)∧(∀i (h:i<(mZ t).length) (h':i<t.flds.length),((mZ t)[i]).nc1=(t.flds[i]).cells):=by
 intro t
 induction t with
 | unit=>intro _ _ _ _; exact⟨rfl,rfl,fun i h=>by simp[mZ] at h,fun i h=>by simp[mZ] at h⟩
 | pair a r _ J =>
  intro q z off I;cases z with
  | nil=>grind[eM]
  | cons f z =>
   simp only[Ty.okB,Bool.and_eq_true] at q;simp only[eM,Bool.and_eq_true] at I;obtain⟨U,O,Y,Z⟩:=J q.2 z _ I.2;have g:∀u:AV,mZ (.pair a r)=u::mZ r→u.solid1=true→u.nc1=a.cells→aO c w u (dI a)→nD c w (mZ (.pair a r)) (dI (.pair a r))∧(mZ (.pair a r)).length=(Ty.pair a r).flds.length∧(∀i (h:i<(mZ (.pair a r)).length),((mZ (.pair a r))[i]).solid1=true)∧(∀i (h:i<(mZ (.pair a r)).length) (h':i<(Ty.pair a r).flds.length),((mZ (.pair a r))[i]).nc1=((Ty.pair a r).flds[i]).cells):=fun u e q1 q2 N=>by
    rw[e];refine⟨⟨dI a,dI r,rfl,N,U⟩,by simp[Ty.flds,O],fun i hi=>?_,fun i hi L=>?_⟩
    all_goals grind[Ty.flds]
   cases a with
   | sl a=>exact g .nilS rfl rfl rfl rfl
   | _=>exact g (.val _ (Ty.zero _)) rfl rfl rfl (gN w c.S _ q.1)
 | _=>grind[eM]
theorem bE4(hT:lZ P T){t:TypeId}{ps:List (Nat×AV)}{vs:List (Nat×Value)}(hp:aEX c w ps vs)(hc:(aQB T t ps).1) :
  ∃u,(Instr.build t vs.toArray).run P w= .ok u w∧aX c w (aQB T t ps).2 u:=by
 unfold aQB at hc ⊢;cases ht:T t with
 | none=>simp_all
 | some ct =>
  have J:=hT _ _ ht;obtain⟨d,hd,hb⟩:=J.desc;cases ct with
  | pair a r =>
   simp only[ht] at hc ⊢;obtain⟨N,Y⟩:=hc;have hz:=vX J N w;cases d<;>simp only[jI,Bool.false_eq_true] at hb
   rename_i O;obtain⟨h1,h2,h3,h4⟩:=bE3 (c:=c) (w:=w) (T:=T) (.pair a r) N O.toList 0 hb;have hzc:(oS (.pair a r)).cells.toList=dI (.pair a r):=(by rfl);have hplaces:∃places:Array (Nat×Nat),(O.mapM (fun f=>do pure (f.offset,← sizeOf f.type)):Sem _).run P w= .ok places w∧ ∀k t,(Ty.pair a r).flds[k]? = some t→places[k]? = some ((((Ty.pair a r).flds.take k).map Ty.cells).foldr (· + ·) 0,t.cells):=by
    have q:=aOO hb;refine⟨(O.toList.zipWith (fun f t=>(f.offset,t.cells)) (Ty.pair a r).flds).toArray,?_,fun k t hk=>?_⟩
    ·have U:∀(l:List Field) (ts:List Ty) (I:Array (Nat×Nat)),l.length=ts.length→(∀i (h:i<l.length) (h':i<ts.length),T (l[i]).type=some ts[i]) →
       ((l.mapM (fun f=>do pure (f.offset,← sizeOf f.type)):Sem (List (Nat×Nat)))).run P w= .ok (l.zipWith (fun f t=>(f.offset,t.cells)) ts) w:=by
      intro l
      induction l with
      | nil=>simp_all
      | cons f l ih =>
       intro ts I hl z;cases ts with
       | nil=>grind
       | cons t ts =>
        have L:=z 0 (by simp) (by simp);simp only[List.getElem_cons_zero] at L;have hsz:=fW (hT _ _ L) w;have:=ih ts I (by simp_all) (fun i hi g=>by have:=z (i+1) (by simp_all) (by simp_all); simp_all);simp_all
     rw[Array.mapM_eq_mapM_toList];have:=U O.toList (Ty.pair a r).flds #[] q (fun i hi g=>by
      obtain⟨f,q1,q2,q3⟩:=aEd (k:=i) hb (List.getElem?_eq_getElem g);simp_all)
     simp_all
    ·obtain⟨f,q1,q2,q3⟩:=aEd hb hk;simp only[List.getElem?_toArray,List.getElem?_zipWith,hk,q1];simp[q3]
   obtain⟨places,hpl,Z⟩:=hplaces;obtain⟨cells',hf,hr⟩:=aOP (c:=c) (w:=w) (place:=(places[·]?)) Z ps vs (mZ (.pair a r)) (oS (.pair a r)).cells hp Y (by simp_all) h2 h3 h4;refine⟨.agg cells',?_,hr,fun _=>⟨_,rfl⟩,fun h=>by cases h⟩;simp only[Instr.build,Sem.run_bind,hz,Result.andThen_ok,bG hd,hpl,hf,Sem.run_pure]
  | _=>simp_all
theorem bGe(N:lZ P T){t:TypeId}{ps:List (Nat×AV)}{vs:List (Nat×Value)}(hp:aEX c w ps vs)(hc:(aMm T t ps).1) :
  ∃u,(Instr.build t vs.toArray).run P w= .ok u w∧aX c w (aMm T t ps).2 u:=by
 unfold aMm at hc ⊢;cases ht:T t with
 | none=>simp_all
 | some q =>
  have g:=N _ _ ht;obtain⟨d,hd,hb⟩:=g.desc;cases q with
  | pair a r =>
   simp only[ht] at hc ⊢;obtain⟨hok,hpo⟩:=hc;have I:=vX g hok w;cases d<;>simp only[jI,Bool.false_eq_true] at hb
   rename_i z;obtain⟨h1,h2,h3,h4⟩:=aXI (c:=c) (w:=w) (T:=T) (.pair a r) hok z.toList 0 hb;have hzc:(oS (.pair a r)).cells.toList=dI (.pair a r):=(by rfl);have hplaces:∃places:Array (Nat×Nat),(z.mapM (fun f=>do pure (f.offset,← sizeOf f.type)):Sem _).run P w= .ok places w∧ ∀k t,(Ty.pair a r).flds[k]? = some t→places[k]? = some ((((Ty.pair a r).flds.take k).map Ty.cells).foldr (· + ·) 0,t.cells):=by
    have U:=aOO hb;refine⟨(z.toList.zipWith (fun f t=>(f.offset,t.cells)) (Ty.pair a r).flds).toArray,?_,fun k t J=>?_⟩
    ·have key:∀(l:List Field) (ts:List Ty) (acc:Array (Nat×Nat)),l.length=ts.length→(∀i (h:i<l.length) (h':i<ts.length),T (l[i]).type=some ts[i]) →
       ((l.mapM (fun f=>do pure (f.offset,← sizeOf f.type)):Sem (List (Nat×Nat)))).run P w= .ok (l.zipWith (fun f t=>(f.offset,t.cells)) ts) w:=by
      intro l
      induction l with
      | nil=>simp_all
      | cons f l ih =>
       intro ts acc hl Y;cases ts with
       | nil=>grind
       | cons t ts =>
        have ht0:=Y 0 (by simp) (by simp);simp only[List.getElem_cons_zero] at ht0;have hsz:=fW (N _ _ ht0) w;have:=ih ts acc (by simp_all) (fun i hi O=>by have:=Y (i+1) (by simp_all) (by simp_all); simp_all);simp_all
     rw[Array.mapM_eq_mapM_toList];have:=key z.toList (Ty.pair a r).flds #[] U (fun i hi O=>by
      obtain⟨f,q1,q2,q3⟩:=aEd (k:=i) hb (List.getElem?_eq_getElem O);simp_all)
     simp_all
    ·obtain⟨f,q1,q2,q3⟩:=aEd hb J;simp only[List.getElem?_toArray,List.getElem?_zipWith,J,q1];simp[q3]
   obtain⟨places,L,hpp⟩:=hplaces;obtain⟨cells',hf,Z⟩:=aOP (c:=c) (w:=w) (place:=(places[·]?)) hpp ps vs (aBI (.pair a r)) (oS (.pair a r)).cells hp hpo (by simp_all) h2 h3 h4;refine⟨.agg cells',?_,aOQ Z⟩;simp only[Instr.build,Sem.run_bind,I,Result.andThen_ok,bG hd,L,hf,Sem.run_pure]
  | unit =>
   simp only[ht] at hc ⊢;subst hc;cases hp;have I:=vX g rfl w;cases d<;>simp only[jI,Bool.false_eq_true] at hb
   rename_i z;have hfs:z= #[]:=by
    have:=aOO hb;grind[Ty.flds]
   subst hfs;refine⟨.agg #[],?_,⟨rfl,fun _=>⟨_,rfl⟩,fun h=>by cases h⟩⟩;simp[Instr.build,I,bG hd,Result.andThen,Instr.fill,oS,Ty.isAgg,dI,Value.cells]
  | expr =>
   simp only[ht] at hc ⊢;have I:=vX g rfl w;cases d<;>simp only[jI,Bool.false_eq_true] at hb
   rename_i z;unfold bDH at hb;split at hb
   ·rename_i f0 f1 f2 hfs;simp only[Bool.and_eq_true,decide_eq_true_eq] at hb;obtain⟨⟨⟨⟨⟨b1,b2⟩,b3⟩,b4⟩,b5⟩,b6⟩:=hb;have efs:z= #[f0,f1,f2]:=(by grind);have s0:=fW (N _ _ b1) w;have s1:=fW (N _ _ b3) w;have s2:=fW (N _ _ b5) w;have L:(z.mapM (fun f=>do pure (f.offset,← sizeOf f.type)):Sem _).run P w= .ok #[(0,1),(1,1),(2,1)] w:=by
     rw[efs,Array.mapM_eq_mapM_toList];show (([f0,f1,f2].mapM (fun f=>do pure (f.offset,← sizeOf f.type)):Sem (List (Nat×Nat))) >>= fun l=>pure l.toArray).run P w=_;simp only[List.mapM_cons,List.mapM_nil,Sem.run_bind,s0,s1,s2,Result.andThen_ok,Sem.run_pure,b2,b4,b6];rfl
    have hzc:(oS .expr).cells.toList= [.int .i64 0,.string ⟨#[]⟩,.slice none 0 0]:=rfl;obtain⟨cells',hf,Z⟩:=aOP (c:=c) (w:=w) (place:=((#[(0,1),(1,1),(2,1)]:Array (Nat×Nat))[·]?)) (ts:=[.i .i64,.str,.sl .expr]) (fun k t J=>by
     match k,J with
     | 0,J=>simp_all
     | 1,J=>simp_all
     | 2,J=>simp_all) ps vs [.val (.i .i64) 0,.val .str [],.nilS] (oS .expr).cells hp hc (by
      rw[hzc];exact⟨[_],[_,_],rfl,⟨rfl,rfl,by decide,by decide⟩,[_],[_],rfl,⟨⟨#[]⟩,rfl,rfl,Nat.zero_le _⟩,[_],[],rfl,rfl,rfl⟩) rfl (fun i hi=>by
      match i,hi with
      | 0,_=>rfl
      | 1,_=>rfl
      | 2,_=>rfl) (fun i hi _=>by
      match i,hi with
      | 0,_=>rfl
      | 1,_=>rfl
      | 2,_=>rfl)
    refine⟨.agg cells',?_,aOQ Z⟩;simp only[Instr.build,Sem.run_bind,I,Result.andThen_ok,bG hd,L,hf,Sem.run_pure]
   grind
  | arr n q =>
   simp only[ht] at hc ⊢;cases hs:aYE q (List.replicate n q.zero) ps with
   | none=>simp_all
   | some ys =>
    simp only[hs] at hc ⊢;obtain⟨e,hd',he,hpos,_⟩:=aFS g;have I:=vX g hc w;obtain⟨cells',hf,Z⟩:=aUA (c:=c) (w:=w) (n:=n) (place:=fun i=>some (i*q.cells,q.cells)) (fun _=>rfl) ps vs (List.replicate n q.zero) (oS (.arr n q)).cells ys hp hs (by
     have:=gN w c.S (.arr n q) hc;have e1:(oS (.arr n q)).cells.toList=dI (.arr n q):=(by rfl);rw[e1]; exact this)
    refine⟨.agg cells',?_,⟨Z,fun _=>⟨_,rfl⟩,fun h=>by cases h⟩⟩;simp[Instr.build,I,bG hd',fW (N _ _ he),Result.andThen,hf]
  | _=>simp_all
theorem aBu(f:List Value)(n:Nat)(q:0<f.length):((Array.range (n*f.length)).map (fun i=>(f.toArray)[i%f.toArray.size]!)).toList=(List.replicate n f).flatten:=by
 simp only[Array.toList_map,Array.toList_range,List.size_toArray]
 induction n with
 | zero=>simp
 | succ n g =>
  rw[Nat.add_mul,Nat.one_mul,List.range_add,List.map_append,g,List.replicate_succ'];simp only[List.flatten_append,List.flatten_cons,List.flatten_nil,List.append_nil]
  congr 1
  apply List.ext_getElem
  all_goals simp_all[List.length_map,List.length_range,Nat.mod_eq_of_lt,Nat.add_comm]
theorem Good.alloc(f:Good M w0 c h w)(o:Go.Obj):Good M w0 (c.upto w.heap.size (w.heap.size+1)) h (w.alloc o)∧eI c w (c.upto w.heap.size (w.heap.size+1)) (w.alloc o):=by
 have g:iL nothing w (w.alloc o):=iL.alloc nothing w o;have z:=f.call g;have q:=zN f g;simp_all
theorem aWH(hT:lZ P T)(hg:Good M w0 c h w){t:TypeId}{n:Nat}{ps:List (Nat×AV)}{vs:List (Nat×Value)}(hp:aEX c w ps vs)(hc:(aCu T t n ps).1) :
  ∃u w' c',(Instr.buildSlice t n vs.toArray).run P w= .ok u w'∧aKY P M w0 h c w (aCu T t n ps).2 u w' c':=by
 unfold aCu at hc ⊢;cases ht:T t with
 | none=>simp_all
 | some f =>
  cases f with
  | sl f =>
   simp only[ht] at hc ⊢;cases hs:aYE f (List.replicate n f.zero) ps with
   | none=>simp_all
   | some ys =>
    simp only[hs] at hc ⊢;obtain⟨g,hn1,hn2⟩:=hc;obtain⟨e,hd,he,hpos⟩:=gJ (hT _ _ ht);have J:=hT _ _ he;have hz:=vX J g w;have hzc:(oS f).cells.toList=dI f:=by
     have:=(aKS w c.S f g).cells;unfold oS;split
     ·rfl
     ·have h1:(dI f).length=1:=by
       rw[bB.length _ _ _ (gN w c.S f g)];rename_i ha;cases f<;>simp_all[Ty.isAgg,Ty.cells]
      match hzz:dI f,h1 with
      | [v],_ =>
       have L:=bB.one f _ _ (gN w c.S f g) v (by simp_all);simp only[List.headD_cons];cases v<;>first|rfl|exact L.elim
    have hzl:(dI f).length=f.cells:=bB.length _ _ _ (gN w c.S f g);have Y:(oS f).cells=(dI f).toArray:=(by grind);have hcells:((Array.range (n*f.cells)).map (fun i=>(dI f).toArray[i%(dI f).toArray.size]!)).toList=(List.replicate n (dI f)).flatten:=by
     grind[aBu]
    obtain⟨cells',N,hr⟩:=aUA (c:=c) (w:=w) (n:=n) (place:=fun i=>some (i*f.cells,f.cells)) (fun _=>rfl) ps vs (List.replicate n f.zero) ((Array.range (n*f.cells)).map (fun i=>(dI f).toArray[i%(dI f).toArray.size]!)) ys hp hs (by
     rw[hcells];exact gN w c.S (.arr n f) g)
    obtain⟨g1,g2⟩:=hg.alloc (.cells cells' e (0,0));refine⟨.slice (some ⟨w.heap.size,0,none⟩) n n,w.alloc (.cells cells' e (0,0)),_,?_,g2,⟨rfl,rfl⟩,g1,iL.alloc nothing w _,fun b hb=>hb.imp id And.left,?_⟩
    ·have I:¬(n*f.cells>2^24):=(by omega);by_cases h0:n*f.cells=0
     ·have Z:n=0:=by
       grind[Nat.mul_eq_zero]
      subst Z;have e0:(Array.range (0*f.cells)).map (fun i=>(dI f).toArray[i%(dI f).toArray.size]!)= #[]:=(by simp);rw[e0] at N;have I:¬(0*f.cells>2^24):=(by omega);have e1:(Array.range (0*f.cells)).map (fun x=>(#[]:Array Value)[x%(#[]:Array Value).size]!)= #[]:=(by simp);simp only[Instr.buildSlice,Sem.run_bind,bG hd,Result.andThen_ok,fW J,I,if_false,Nat.zero_mul,if_true,Sem.run_ite,Sem.run_pure];simp only[Nat.zero_mul] at e1;rw[e1,N];rfl
     ·rw[← Y] at N;simp only[Instr.buildSlice,Sem.run_bind,bG hd,Result.andThen_ok,fW J,I,if_false,h0,hz,Sem.run_ite,Sem.run_pure,N];rfl
    ·obtain⟨U,z,O,hl,q⟩:=hr;refine⟨⟨some ⟨w.heap.size,0,none⟩,n,rfl,U,Nat.le_refl _,hn2,.inr ⟨w.heap.size,0,rfl,.inr ⟨Nat.le_refl _,Nat.lt_succ_self _⟩,fun i hi=>?_⟩⟩,(fun h=>by cases h),(fun _ cs=>by simp)⟩;refine⟨z[i],bB.keep g2.le.S g2.same _ _ _ (q i hi (by omega)),?_⟩;obtain⟨pre,post,hf',hpl⟩:=oT (t:=f) (css:=z) (fun j hj=>bB.length _ _ _ (q j (by omega) hj)) i (by omega);rw[Nat.zero_add,← hpl];refine yK (cells:=cells') (e:=e) (fz:=(0,0)) ?_ (O.trans hf');show (w.heap.push _)[w.heap.size]? = _;simp_all
  | _=>simp_all
theorem aQF{mx:Bool}{x y:AV}{v u:Value}(hv:aX c w x v)(q:aX c w y u)(hc:(mm2 mx x y).1) :
  ∃r,((if mx then Builtin.max2 v u else Builtin.min2 v u)).run P w= .ok r w∧aX c w (mm2 mx x y).2 r:=by
 cases x with
 | val z a =>
  cases z with
  | i k =>
   cases y with
   | val g b =>
    cases g with
    | i I =>
     obtain⟨rfl,J,L⟩:=aHX hv;obtain⟨rfl,f,hb⟩:=aHX q;simp only[mm2] at hc ⊢;split at hc
     ·rename_i e;subst e;simp only[if_true];cases mx
      ·refine⟨_,by simp only[Builtin.min2]; rfl,?_⟩;grind
      ·refine⟨_,by simp only[Builtin.max2]; rfl,?_⟩;grind
     simp_all
    | _=>exact hc.elim
   | _=>exact hc.elim
  | u k =>
   cases y with
   | val g b =>
    cases g with
    | u I =>
     obtain⟨rfl,J,L⟩:=aKR hv;obtain⟨rfl,f,hb⟩:=aKR q;simp only[mm2] at hc ⊢;split at hc
     ·rename_i e;subst e;simp only[if_true];cases mx
      ·refine⟨_,by simp only[Builtin.min2]; rfl,?_⟩;grind
      ·refine⟨_,by simp only[Builtin.max2]; rfl,?_⟩;grind
     simp_all
    | _=>exact hc.elim
   | _=>exact hc.elim
  | _=>exact hc.elim
 | _=>exact hc.elim
where
 minI (a b:Int):(if b<a then b else a)=min a b:=by omega
 maxI (a b:Int):(if b>a then b else a)=max a b:=by omega
 minI_or (a b:Int):min a b=a∨min a b=b:=by omega
 maxI_or (a b:Int):max a b=a∨max a b=b:=by omega
 minN (a b:Nat):(if (b:Int)<a then (b:Int) else a)=((min a b:Nat):Int):=by omega
 maxN (a b:Nat):(if (b:Int)>a then (b:Int) else a)=((max a b:Nat):Int):=by omega
 minN_or (a b:Nat):min a b=a∨min a b=b:=by omega
 maxN_or (a b:Nat):max a b=a∨max a b=b:=by omega
theorem bDT{t:TypeId}{x:AV}{v:Value}(hv:aX c w x v):aX c w (bAn T t x) v:=by
 cases x with
 | flat l =>
  grind[bAn,aX.ofV,aXJ]
 | _=>exact hv
end
end Go.Vc
namespace Go.Vc
open Go.RowKit
section
variable {P:Program} {T:Tab} {M:Perm} {w0:World} {c:Ctx} {h:List Obj} {w:World}
theorem aYH{t:TypeId}{k:IntKind}(f:aFo P T t (.u k)):P.underlying t=some (.int k):=by
 obtain⟨d,hd,hb⟩:=f.desc;cases d<;>simp[jI] at hb
 simp_all
noncomputable def bGf(T:Tab)(h:List Obj)(s d:TypeId)(x:AV):Prop×AV :=
 match T d,x with
 | some (.sl (.u .u8)),.val .str b=>(T s=some .str,.val (.sl (.u .u8)) b)
 | some .str,x=>match T s with
  | some (.sl (.u .u8))=>match x with
   | .sub k g off n=>match h[k]? with
    | some (.box _ (.val (.arr m (.u .u8)) f))=>(g=1∧off+n≤m,.val .str ((f.drop off).take n))
    | _=>(False,.junk)
   | x=>match AV.as h (.sl (.u .u8)) x with
    | some b=>(True,.val .str b)
    | none=>(False,.junk)
  | _=>aQA T s d x
 | _,x=>aQA T s d x
theorem bAu(q:lZ P T)(I:Good M w0 c h w){s d:TypeId}{b:List Nat}{v:Value}(hs:T s=some .str)(hd:T d=some (.sl (.u .u8)))(hv:aX c w (.val .str b) v) :
  ∃u w' c',(convert s d v).run P w= .ok u w'∧aKY P M w0 h c w (.val (.sl (.u .u8)) b) u w' c':=by
 obtain⟨st,rfl,rfl,hm⟩:=aSa hv;obtain⟨e,J,Y,_⟩:=gJ (q _ _ hd);have g:=run_bytes_of_string (P:=P) w s d e st (aBX (q _ _ hs)) J (aYH (q _ _ Y));obtain⟨w',f⟩:∃w',w'=w.drew.alloc (.cells (bytesRow st (grownCap w st.size 0 e)) e ((bytesRow st (grownCap w st.size 0 e)).size,(bytesRow st (grownCap w st.size 0 e)).size+1)):=⟨_,rfl⟩;rw[← f] at g;have hheap:w'.heap=w.heap.push (.cells (bytesRow st (grownCap w st.size 0 e)) e ((bytesRow st (grownCap w st.size 0 e)).size,(bytesRow st (grownCap w st.size 0 e)).size+1)):=by rw[f]; rfl
 have z:iL nothing w w':=⟨by rw[f]; rfl,by simp_all,by rw[f]; rfl,by simp_all,fun b hb _=>by grind⟩;have g1:=I.call z;have Z:=zN I z;refine⟨_,w',_,g,Z,⟨rfl,rfl⟩,g1,z,fun b hb=>hb.imp id And.left,⟨⟨_,_,_,rfl,?_,grownCap_ge _ _ _ _,grownCap_le_maxLen _ _ _ _ hm,.inr ⟨w.heap.size,0,rfl,.inr ⟨Nat.le_refl _,by simp_all⟩,fun i hi=>?_⟩⟩,(fun h=>by cases h),(fun _ cs=>by simp)⟩⟩
 ·exact uN st
 ·have N:i<st.data.size:=by simp_all[uN]
  have U:st.data.size=st.size:=rfl;have O:=grownCap_ge w st.size 0 e;refine⟨[.int .u8 (st.data[i].toNat:Int)],⟨?_,rfl,?_⟩,?_⟩
  ·simp[aR]
  ·have:(aR st)[i]=st.data[i].toNat:=(by simp[aR]);rw[this];have:=st.data[i].toNat_lt;grind[IntKind.max,IntKind.signed,IntKind.bits]
  ·have hc:=yK (w:=w') (b:=w.heap.size) (cells:=bytesRow st (grownCap w st.size 0 e)) (e:=e) (fz:=((bytesRow st (grownCap w st.size 0 e)).size,(bytesRow st (grownCap w st.size 0 e)).size+1)) (pre:=(bytesRow st (grownCap w st.size 0 e)).toList.take i) (ds:=[.int .u8 (st.data[i].toNat:Int)]) (post:=(bytesRow st (grownCap w st.size 0 e)).toList.drop (i+1)) (by simp_all) (by
    have L:i<(bytesRow st (grownCap w st.size 0 e)).toList.length:=(by simp[bytesRow]; omega);have I:(bytesRow st (grownCap w st.size 0 e)).toList[i]= .int .u8 (st.data[i].toNat:Int):=by
     simp only[bytesRow,Array.toList_append,Array.toList_map,Array.toList_replicate];grind
    grind[List.append_assoc,List.singleton_append,List.getElem_cons_drop,List.take_append_drop])
   grind[bytesRow,grownCap,Ty.cells]
theorem aH1{s d e:TypeId}{b:List Nat}{bl off cap:Nat}(q:P.underlying s=some (.slice e))(I:P.underlying e=some (.int .u8))(z:P.underlying d=some .string)(hm:b.length≤maxLen)
  (hb:∀i (hi:i<b.length),b[i]<256∧w.cell? ⟨bl,off+i,none⟩=some (.int .u8 (b[i]:Int))) :
  ∃u,(convert s d (.slice (some ⟨bl,off,none⟩) b.length cap)).run P w= .ok u w∧aX c w (.val .str b) u:=by
 have N:(b.map UInt8.ofNat).length=b.length:=by simp
 have hback:∀i (hi:i<b.length),(UInt8.ofNat b[i]).toNat=b[i]:=fun i hi=>by
  simp_all
 have f:=run_convert_bytes_back (P:=P) w s d e ⟨bl,off,none⟩ cap (b.map UInt8.ofNat) q I z (fun j L=>by
  have g:j<b.length:=by simpa using L
  have J:=(hb j g).2;rw[List.getElem_map,hback j g];simp only[Addr.add];split
  ·rename_i h0; subst h0; simpa using J
  ·exact J)
 rw[N] at f;refine⟨_,f,⟨⟨⟨(b.map UInt8.ofNat).toArray⟩,rfl,?_,?_⟩,(fun h=>by cases h),(fun _ O=>by simp)⟩⟩
 ·apply List.ext_getElem
  all_goals grind[aR]
 ·show (b.map UInt8.ofNat).toArray.size≤maxLen;simp_all
theorem aYI(L:lZ P T)(hg:Good M w0 c h w){s d:TypeId}{k off n m q:Nat}{xs:List Nat}{v:Value}(hs:T s=some (.sl (.u .u8)))(hd:T d=some .str)(hv:aX c w (.sub k 1 off n) v)
  (ho:h[k]? = some (.box q (.val (.arr m (.u .u8)) xs))) (hle:off+n≤m) :
  ∃u,(convert s d v).run P w= .ok u w∧aX c w (.val .str ((xs.drop off).take n)) u:=by
 obtain⟨_,hn,b,J,hb,rfl⟩:=aT4 hv;obtain⟨b',cells,e2,O,hheap,_,U⟩:=hg.objs k _ ho;rw[O] at hb;simp only[aU,Option.some.injEq] at hb;subst hb;obtain⟨e,Y,he,_⟩:=gJ (L _ _ hs);obtain⟨f,z,N,hcl2,g⟩:=U;have f:xs.length=m:=f;have hl:((xs.drop off).take n).length=n:=by grind
 have key:=aH1 (P:=P) (w:=w) (c:=c) (b:=(xs.drop off).take n) (bl:=b') (off:=off*1) (cap:=J) Y (aYH (L _ _ he)) (aBX (L _ _ hd)) (by omega) (fun i hi=>by
  rw[hl] at hi;have hx:off+i<xs.length:=by omega
  have I:off+i<z.length:=by omega
  obtain⟨h1,_,h3⟩:=g (off+i) hx I;have Z:((xs.drop off).take n)[i]'(by omega)=xs[off+i]:=by simp
  rw[Z];refine⟨?_,?_⟩
  ·grind[IntKind.max,IntKind.signed,IntKind.bits]
  ·obtain⟨pre,post,hf,hpl⟩:=oT (t:=.u .u8) (css:=z) (fun j hj=>bB.length _ _ _ (g j (by omega) hj)) (off+i) I;have hc:=yK (w:=w) (b:=b') (cells:=cells) (e:=e2) (fz:=(0,0)) hheap (N.trans hf);have:=hc 0 (.int .u8 (xs[off+i]:Int)) (by grind);simp_all[Ty.cells,Nat.mul_one])
 simp_all
theorem aWI(J:lZ P T)(U:Good M w0 c h w){s d:TypeId}{x:AV}{b:List Nat}{v:Value}(hs:T s=some (.sl (.u .u8)))(hd:T d=some .str)(hv:aX c w x v)(O:AV.as h (.sl (.u .u8)) x=some b) :
  ∃u,(convert s d v).run P w= .ok u w∧aX c w (.val .str b) u:=by
 obtain⟨a,len,N,rfl,z,I,hm,L⟩:=aFR (c:=⟨aGX c h,c.hd,c.n,c.bl⟩) (aMr U hv O);obtain⟨e,f,he,_⟩:=gJ (J _ _ hs);have g:=aBX (J _ _ hd);have q:=aYH (J _ _ he);subst z;rcases L with rfl|⟨bl,off,rfl,_,hcell⟩
 ·cases a with
  | none=>exact⟨_,run_convert_bytes_nil w s e f q _ _ d g,⟨⟨ByteArray.empty,rfl,rfl,Nat.zero_le _⟩,(fun h=>by cases h),(fun _ Z=>by simp)⟩⟩
  | some a=>exact⟨_,run_convert_bytes_back w s d e a N [] f q g (fun j hj=>by grind),⟨⟨⟨#[]⟩,rfl,rfl,Nat.zero_le _⟩,(fun h=>by cases h),(fun _ Z=>by simp)⟩⟩
 ·have hb:∀i (hi:i<b.length),b[i]<256∧w.cell? ⟨bl,off+i,none⟩=some (.int .u8 (b[i]:Int)):=fun i hi=>by
   obtain⟨ds,⟨rfl,_,Y⟩,hc⟩:=hcell i hi;refine⟨?_,?_⟩
   ·grind[IntKind.max,IntKind.signed,IntKind.bits]
   ·have:=hc 0 (.int .u8 (b[i]:Int)) rfl;grind[Ty.cells]
  exact aH1 f q g (Nat.le_trans I hm) hb
end
end Go.Vc
namespace Go.Vc
open Go.RowKit
def Ty.key1:Ty→Bool
 | .bool=>true
 | .u _=>true
 | .i _=>true
 | .str=>true
 | _=>false
def Ty.keyB:Ty→Bool
 | .arr _ t=>t.key1
 | t=>t.key1
def aAp{β:Type}(c:Ty):List (c.den×β)→c.den→Option β
 | [],_=>none
 | (k,v)::r,x=>if c.eqb x k=true then some v else aAp c r x
def aCw{β:Type}(c:Ty):List (c.den×β)→c.den→β→List (c.den×β)
 | [],x,y=>[(x,y)]
 | (k,v)::r,x,y=>if c.eqb x k=true then (k,y)::r else (k,v)::aCw c r x y
theorem aOR{c:Ty}(h:c.key1=true):c.cmpB=true∧c.deep=0∧c.isAgg=false∧c.cells=1:=by
 cases c<;>simp_all[Ty.key1,Ty.cmpB,Ty.deep,Ty.isAgg,Ty.cells]
theorem bAv{c:Ty}(h:c.keyB=true):c.cmpB=true∧c.deep≤100:=by
 cases c<;>first|grind[Ty.keyB,Ty.key1,Ty.cmpB,Ty.deep]|skip
 rename_i n t;have:=aOR (c:=t) h;grind[Ty.cmpB,Ty.deep]
theorem bDU{w w':World}{S S':Nat→Prop}:∀ {c:Ty} {x y:c.den} {v u:Value},c.key1=true→bB w S c x [v]→bB w' S' c y [u]→(c.eqb x y=true↔v=u)
 | .bool,x,y,v,u,_,f,hy=>by
  simp_all[bB,List.cons.injEq,and_true,Ty.eqb]
 | .u k,x,y,v,u,_,f,hy=>by
  obtain⟨f,_⟩:=f;obtain⟨hy,_⟩:=hy;simp_all[List.cons.injEq,and_true,Ty.eqb,Int.natCast_inj]
 | .i k,x,y,v,u,_,f,hy=>by
  obtain⟨f,_⟩:=f;obtain⟨hy,_⟩:=hy;simp_all[List.cons.injEq,and_true,Ty.eqb]
 | .str,x,y,v,u,_,f,hy=>by
  obtain⟨s,f,e1,_⟩:=f;obtain⟨t,hy,g,_⟩:=hy;simp only[List.cons.injEq,and_true] at f hy;subst f; subst hy; subst e1; subst g;simp only[Ty.eqb,decide_eq_true_eq,Value.string.injEq];grind[aUq]
theorem aUB{w:World}{S:Nat→Prop}{c:Ty}{x:c.den}{cs:List Value}(f:c.cells=1)(h:bB w S c x cs):∃v,cs= [v]:=by
 have g:=(bB.length _ _ _ h).trans f
 match cs,g with
 | [v],_=>simp_all
theorem bDV{t:Ty}{w w':World}{S S':Nat→Prop}(ht:t.key1=true):∀(X Y:List t.den) (css f:List (List Value)),css.length=X.length→f.length=Y.length→X.length=Y.length →
  (∀i (h:i<X.length) (h':i<css.length),bB w S t X[i] css[i])→(∀i (h:i<Y.length) (h':i<f.length),bB w' S' t Y[i] f[i])→((List.zipWith t.eqb X Y).all id=true↔css.flatten=f.flatten)
 | [],[],[],[],_,_,_,_,_=>by simp
 | x::X,y::Y,a::css,b::f,N,L,J,I,hy=>by
  have z:=I 0 (by simp) (by simp);have g:=hy 0 (by simp) (by simp);simp only[List.getElem_cons_zero] at z g;obtain⟨v,rfl⟩:=aUB (aOR ht).2.2.2 z;obtain⟨u,rfl⟩:=aUB (aOR ht).2.2.2 g;have q:=bDV ht X Y css f (by simp_all) (by simp_all) (by simp_all) (fun i h h'=>by have:=I (i+1) (by simp_all) (by simp_all); simpa using this) (fun i h h'=>by have:=hy (i+1) (by simp_all) (by simp_all); simpa using this);simp only[List.zipWith_cons_cons,List.all_cons,id,Bool.and_eq_true,q,bDU ht z g,List.flatten_cons,List.cons_append,List.nil_append,List.cons.injEq]
theorem bGg{w w':World}{S S':Nat→Prop}{c:Ty}{x y:c.den}{v u:Value}(hc:c.keyB=true)(f:dU w S c x v)(hy:dU w' S' c y u):c.eqb x y=true↔v=u:=by
 unfold dU at f hy;cases c<;>first|(simp[Ty.keyB,Ty.key1] at hc; done)|skip
 case arr n t =>
  simp only[Ty.isAgg,if_true] at f hy;obtain⟨⟨Z⟩,rfl,f⟩:=f;obtain⟨⟨ds⟩,rfl,hy⟩:=hy;obtain⟨Y,q,O,N,U⟩:=f;obtain⟨J,g,L,I,z⟩:=hy;simp only at O L;have:=bDV (t:=t) hc x y q g N I (Y.trans J.symm) (fun i h h'=>U i h h') (fun i h h'=>z i h h');grind[Ty.eqb]
 all_goals (simp only[Ty.isAgg,Bool.false_eq_true,if_false] at f hy; exact bDU hc f hy)
section
variable {P:Program} {T:Tab}
theorem bGh(f:Bool)(n:Nat){t:TypeId}{c:Ty}(g:aFo P T t c)(hc:c.key1=true)(v:Value)(w:World):(Instr.checkKey f (n+1) t v).run P w= .ok () w:=by
 obtain⟨d,hd,hb⟩:=g.desc;unfold Instr.checkKey;simp only[Sem.run_bind,bG hd,Result.andThen_ok];cases c<;>first|(simp[Ty.key1] at hc; done)|skip
 all_goals (cases d<;>first|(simp[jI] at hb; done)|skip)
 all_goals rfl
def aF2(f:Bool)(d:Nat)(e:TypeId)(n:Nat)(xs:Array Value):List Nat→Sem Unit
 | []=>pure ()
 | i::r=>do
  let a ← part e xs (i*n)
  Instr.checkKey f d e a
  aF2 f d e n xs r
theorem aS1(f:Bool)(d:Nat)(t e:TypeId)(len n:Nat)(xs:Array Value)(w:World)(ht:P.underlying t=some (.array len e))(q:∀w,(sizeOf e).run P w= .ok n w) :
  (Instr.checkKey f (d+1) t (.agg xs)).run P w=(aF2 f d e n xs (List.range' 0 len)).run P w:=by
 simp only[Instr.checkKey,Sem.run_bind,bG ht,Result.andThen_ok];simp only[Std.Legacy.Range.forIn_eq_forIn_range',Std.Legacy.Range.size];simp only[Nat.sub_zero,Nat.add_sub_cancel,Nat.div_one];generalize List.range' 0 len=J;clear ht
 induction J generalizing w with
 | nil=>rfl
 | cons i r L =>
  simp only[List.forIn_cons,aF2,Sem.run_bind,q,Result.andThen_ok];generalize (part e xs (i*n)).run P w=r1;cases r1 with
  | ok a g =>
   simp only[Result.andThen_ok];generalize (Instr.checkKey f d e a).run P g=I;cases I with
   | ok b z=>simp_all
   | halt x z=>rfl
  | halt x g=>rfl
theorem aK0(q:Bool)(d:Nat){w:World}{S:Nat→Prop}{e:TypeId}{t:Ty}(g:aFo P T e t)(ht:t.key1=true){xs:Array Value}:∀(k i:Nat) (X:List t.den) (pre:List Value) (css:List (List Value)) (w':World),
   X.length=k→css.length=k→(∀j (h:j<X.length) (h':j<css.length),bB w S t X[j] css[j])→xs.toList=pre++css.flatten→pre.length=i*t.cells→(aF2 q (d+1) e t.cells xs (List.range' i k)).run P w'= .ok () w'
 | 0,i,X,_,_,w',hX,_,_,_,_=>by rfl
 | k+1,i,X,pre,css,w',hX,hc,I,N,hp=>by
  match X,css,hX,hc with
  | x::X,c::cs,hX,hc =>
   have z:=I 0 (by simp) (by simp);simp only[List.getElem_cons_zero] at z;obtain⟨L,e1,O⟩:=aF1 g (cs:=xs) (pre:=pre) (ds:=c) (post:=cs.flatten) (by simp_all) z w';rw[hp] at e1;have J:=bB.length _ _ _ z;have f:=aK0 q d g ht (xs:=xs) k (i+1) X (pre++c) cs w' (by simp_all) (by simp_all)
    (fun j h h'=>by have:=I (j+1) (by simp_all) (by simp_all); simpa using this) (by simp_all) (by grind)
   simp only[List.range'_succ,aF2,Sem.run_bind,e1,Result.andThen_ok,bGh q d g ht,f]
theorem aMX(I:Bool)(n:Nat)(z:lZ P T){t:TypeId}{c:Ty}(ht:T t=some c)(hc:c.keyB=true){w:World}{S:Nat→Prop}{x:c.den}{v:Value}(g:dU w S c x v)(w':World):(Instr.checkKey I (n+2) t v).run P w'= .ok () w':=by
 cases c<;>first|(simp[Ty.keyB,Ty.key1] at hc; done)|exact bGh I (n+1) (z _ _ ht) hc v w'|skip
 rename_i m q;obtain⟨d,hd,hb⟩:=(z _ _ ht).desc;cases d<;>simp[jI] at hb
 rename_i len e;obtain⟨⟨⟨rfl,f⟩,N⟩,U⟩:=hb;unfold dU at g;simp only[Ty.isAgg,if_true] at g;obtain⟨O,rfl,g⟩:=g;obtain⟨L,J,h2,Y,Z⟩:=g;rw[aS1 I (n+1) t e m q.cells O w' hd (fW (z _ _ f))];exact aK0 I n (z _ _ f) hc m 0 x [] J w' L (Y.trans L) (fun j h h'=>Z j h h') (by simp_all) (by simp)
def aK1(c:Ty){β:Type}(x:c.den):List (c.den×β)→List MapEntry→Nat→Option (Nat×Value)
 | (k,_)::m,e::es,i=>if c.eqb x k=true then some (i,e.val) else aK1 c x m es (i+1)
 | _,_,_=>none
theorem aQG{c:Ty}{β:Type}{w:World}{S:Nat→Prop}{x:c.den}:∀(m:List (c.den×β)) (q:List MapEntry) (i:Nat),q.length=m.length →
  match aAp c m x with
  | some y=>∃j e k,aK1 c x m q i=some (i+j,e.val)∧q[j]? = some e∧m[j]? = some (k,y)∧c.eqb x k=true∧ ∀g,aCw c m x g=m.set j (k,g)
  | none=>aK1 c x m q i=none∧ ∀g,aCw c m x g=m++ [(x,g)]
 | [],[],i,_=>by simp[aAp,aK1,aCw]
 | (k,y)::m,e::q,i,U=>by
  have f:=aQG (w:=w) (S:=S) (x:=x) m q (i+1) (by simp_all);simp only[aAp,aK1,aCw];by_cases hq:c.eqb x k=true
  ·simp only[hq,if_true];exact⟨0,e,k,rfl,rfl,rfl,hq,fun g=>rfl⟩
  ·simp only[hq,if_false];split at f
   ·rename_i L hy;obtain⟨j,e1,I,r1,O,N,z,J⟩:=f;simp only[hy];exact⟨j+1,e1,I,by grind,by simp_all,by simp_all,z,fun g=>by simp_all⟩
   simp_all
theorem aK2(q:lZ P T){t:TypeId}{c:Ty}(ht:T t=some c)(hc:c.keyB=true){β:Type}{w:World}{S:Nat→Prop}{x:c.den}{v:Value}(z:dU w S c x v)(w':World):∀(m:List (c.den×β)) (f:List MapEntry) (i:Nat),f.length=m.length →
  (∀j (h:j<m.length) (h':j<f.length),dU w S c m[j].1 f[j].key)→(Instr.findAsking t v f i).run P w'= .ok (aK1 c x m f i) w'
 | [],[],i,_,_=>by rfl
 | (k,y)::m,e::f,i,J,I=>by
  have h0:=I 0 (by simp) (by simp);simp only[List.getElem_cons_zero] at h0;have hq:=aIP (P:=P) q w' ht (bAv hc).1 (bAv hc).2 z h0;have g:=aK2 q ht hc z w' m f (i+1) (by simp_all) (fun j h h'=>by have:=I (j+1) (by simp_all) (by simp_all); simp_all);simp only[Instr.findAsking,Sem.run_bind,hq,Result.andThen_ok,aK1,Sem.run_ite,g,Sem.run_pure];grind
theorem aSc{t:TypeId}{c:Ty}(z:aFo P T t c)(hc:c.key1=true){d:TypeDesc}(hd:P.underlying t=some d){β:Type}{w:World}{S:Nat→Prop}{x:c.den}{v:Value}(f:dU w S c x v):∀(m:List (c.den×β)) (g:List MapEntry) (i:Nat),g.length=m.length →
  (∀j (h:j<m.length) (h':j<g.length),dU w S c m[j].1 g[j].key)→Instr.findNow d v g i=some (aK1 c x m g i)
 | [],[],i,_,_=>by rfl
 | (k,y)::m,e::g,i,N,J=>by
  have h0:=J 0 (by simp) (by simp);simp only[List.getElem_cons_zero] at h0;have I:=aSc z hc hd f m g (i+1) (by simp_all) (fun j h h'=>by have:=J (j+1) (by simp_all) (by simp_all); simp_all);have hsame:Instr.sameNow d v e.key=some (c.eqb x k):=by
   have U:=bGg (c:=c) (by cases c<;>simp_all[Ty.key1,Ty.keyB]) f h0;obtain⟨O,q,hb⟩:=z.desc;rw[hd] at q;cases q;unfold dU at f h0;cases c<;>first|(simp[Ty.key1] at hc; done)|skip
   all_goals (cases d<;>first|grind[jI]|skip)
   all_goals simp only[Ty.isAgg,Bool.false_eq_true,if_false] at f h0
   ·simp only[bB,List.cons.injEq,and_true] at f h0;rw[f,h0]; rfl
   ·obtain⟨f,_⟩:=f;obtain⟨h0,_⟩:=h0;simp only[List.cons.injEq,and_true] at f h0;rw[f,h0];simp only[Instr.sameNow,if_true,Ty.eqb,Option.some.injEq];grind
   ·obtain⟨f,_⟩:=f;obtain⟨h0,_⟩:=h0;simp only[List.cons.injEq,and_true] at f h0;rw[f,h0];simp only[Instr.sameNow,if_true,Ty.eqb,Option.some.injEq];rfl
   ·obtain⟨s,f,e1,_⟩:=f;obtain⟨u,h0,L,_⟩:=h0;simp only[List.cons.injEq,and_true] at f h0;rw[f,h0];have:(s == u)=decide (aR s=aR u):=by
     rw[Bool.eq_iff_iff,Go.MapKept.bytes_beq,decide_eq_true_eq];grind[aUq]
    grind[Instr.sameNow,Ty.eqb]
  grind[Instr.findNow,aK1]
theorem aOS(g:lZ P T){t:TypeId}{c:Ty}(ht:T t=some c)(hc:c.keyB=true){β:Type}{w:World}{S:Nat→Prop}{x:c.den}{v:Value}(z:dU w S c x v)(w':World)(m:List (c.den×β))(f:List MapEntry)(L:f.length=m.length)
  (I:∀j (h:j<m.length) (h':j<f.length),dU w S c m[j].1 f[j].key):(Instr.findKey t v f).run P w'= .ok (aK1 c x m f 0) w':=by
 obtain⟨d,hd,hb⟩:=(g _ _ ht).desc;simp only[Instr.findKey,Sem.run_bind,bG hd,Result.andThen_ok];by_cases J:c.key1=true
 ·rw[aSc (g _ _ ht) J hd z m f 0 L I]; rfl
 ·have q:Instr.findNow d v f 0=none∨Instr.findNow d v f 0=some (aK1 c x m f 0):=by
   cases f with
   | nil =>
    cases m with
    | nil=>right; rfl
    | cons _ _=>grind
   | cons e f =>
    left
    cases c<;>first|grind[Ty.keyB,Ty.key1]|skip
    cases d<;>simp[jI] at hb
    rfl
  rcases q with h|h
  ·grind[aK2]
  simp_all
theorem aXK{c:Ty}{x:c.den}{v:Value}{w:World}{S:Nat→Prop}(hc:c.key1=true)(f:bB w S c x [v])(n:Nat):Instr.sameBits n v v=true:=by
 cases c<;>first|(simp[Ty.key1] at hc; done)|skip
 ·simp_all[bB,List.cons.injEq,and_true,Instr.sameBits]
 ·obtain⟨f,_⟩:=f; simp_all[List.cons.injEq,and_true,Instr.sameBits]
 ·obtain⟨f,_⟩:=f; simp_all[List.cons.injEq,and_true,Instr.sameBits]
 ·obtain⟨s,f,_⟩:=f; simp only[List.cons.injEq,and_true] at f; subst f;simp only[Instr.sameBits];exact(Go.MapKept.bytes_beq _ _).2 rfl
theorem bE5{c:Ty}{x:c.den}{v:Value}{w:World}{S:Nat→Prop}(hc:c.keyB=true)(f:dU w S c x v)(w':World):(Instr.keyThatStays v v).run P w'= .ok v w':=by
 have hs:Instr.sameBits 10000 v v=true:=by
  unfold dU at f;cases c<;>first|(simp[Ty.keyB,Ty.key1] at hc; done)|skip
  case arr n t =>
   simp only[Ty.isAgg,if_true] at f;obtain⟨⟨N⟩,rfl,f⟩:=f;obtain⟨U,g,z,O,J⟩:=f;simp only at z;subst z;simp only[Instr.sameBits,beq_self_eq_true,Bool.true_and,List.all_eq_true];have q:∀v∈g.flatten,Instr.sameBits 9999 v v=true:=fun v hv=>by
    obtain⟨l,L,hv⟩:=List.mem_flatten.1 hv;obtain⟨i,hi,rfl⟩:=List.mem_iff_getElem.1 L;have:=J i (by omega) hi;obtain⟨u,I⟩:=aUB (aOR (c:=t) hc).2.2.2 this;rw[I] at hv this;simp at hv;subst hv;exact aXK (c:=t) hc this 9999
   intro p hp;have:p.1=p.2∧p.1∈g.flatten:=by
    obtain⟨i,hi,rfl⟩:=List.mem_iff_getElem.1 hp;simp
   grind
  all_goals (simp only[Ty.isAgg,Bool.false_eq_true,if_false] at f; grind[aXK,Ty.keyB])
 simp[Instr.keyThatStays,hs]
end
end Go.Vc
namespace Go.Vc
open Go.RowKit
def bGi(h:List Obj):AV→Option Nat
 | .ptr i []=>match h[i]? with
  | some (.box _ _)=>some i
  | _=>none
 | _=>none
def allTags(h:List Obj):List AV→Option (List Nat)
 | []=>some []
 | v::r=>match bGi h v,allTags h r with
  | some i,some l=>some (i::l)
  | _,_=>none
def evA(G:Nat→AV)(env:List (Nat×AV)):Operand→AV
 | .tmp t=>look env t
 | .const v=>aOI v
 | .global g=>G g
 | .func f=>.fn f [] []
def sO:Operand→Bool
 | .const (.func _ _ _)=>false
 | .const v=>bCq v
 | _=>true
theorem aF3{c:Ctx}{w:World}{G:Nat→AV}{env:List (Nat×AV)}{a:Act}(I:aKo c w env a.tmps)(q:uD G c.S w){x:Operand}(z:sO x=true):aX c w (evA G env x) (a.eval x):=by
 cases x with
 | tmp t=>exact I t
 | const v =>
  refine bFZ ?_ ?_
  ·cases v<;>first|exact z|rfl
  grind[sO]
 | global g =>
  exact(q g).keep (c:=⟨c.S,fun _=>Go.undef,0,fun _ _=>False⟩) (c':=c) ⟨fun _ h=>h,Nat.zero_le _,fun i hi=>absurd hi (Nat.not_lt_zero i)⟩ (.refl _ _)
 | func f=>exact⟨⟨(fun i hi=>by cases hi),(fun i hi=>by cases hi),rfl⟩,(fun h=>by cases h),(fun _ J=>by simp[Act.eval])⟩
def aQH(i:Nat):AV→Prop×AV
 | .tup f=>(i<f.length,f.getD i .junk)
 | _=>(False,.junk)
def aNI:AV→Prop×AV
 | .ptr i p=>(True,.ptr i p)
 | .roa t x=>(True,.roa t x)
 | .fn f g l2=>(True,.fn f g l2)
 | _=>(False,.junk)
def aNJ:List AV→Option ((t:Ty)×t.den)
 | []=>some ⟨.unit,()⟩
 | .roa t x::r=>match aNJ r with
  | some ⟨u,y⟩=>some ⟨.pair (.rp t) u,(x,y)⟩
  | none=>none
 | _=>none
def aNK(h:List Obj)(f:FuncId)(first caps:List AV):Prop×AV :=
 match allTags h first,allTags h caps with
 | some g,some l2=>(True,.fn f g l2)
 | some g,none=>match aNJ caps with
  | some ⟨t,y⟩=>(g= [],.val (.clo f t) y)
  | none=>(False,.junk)
 | _,_=>(False,.junk)
def aHu(h:List Obj)(l:List Nat):Bool:=l.all fun i=>match h[i]? with
 | some (.box _ _)=>true
 | _=>false
def xW:Ty→Bool
 | .unit=>true
 | .pair (.rp _) r=>xW r
 | _=>false
def aOT(E:Env)(h:List Obj)(callee:Callee)(args:List AV)(argTypes:List TypeId)(ρ:Operand→AV):Prop×AV :=
 match callee with
 | .builtin .len=>match args,argTypes with
  | [x],[t]=>aKV E.T h t x
  | _,_=>(False,.junk)
 | .builtin .min=>bF2 false args
 | .builtin .max=>bF2 true args
 | .value x=>match ρ x with
  | .fn f [] l2=>if aHu h l2=true then aIR E.Γ h f (args++l2.map fun i=>.ptr i []) else (False,.junk)
  | .val (.clo g t) y=>if xW t=true then aIR E.Γ h g (args++aE9 t y) else (False,.junk)
  | _=>(False,.junk)
 | _=>(False,.junk)
def bGj(E:Env)(t:TypeId)(f g:Ty):Prop:=match E.mp t with
 | some (k,e)=>E.T k=some f∧E.T e=some g
 | none=>False
def aK3(E:Env)(h:List Obj)(t:TypeId)(m k:AV)(ok:Bool):Prop×AV :=
 match m with
 | .mp i=>match h[i]? with
  | some (.map f g l)=>match AV.as (h.map fX) f k with
   | some x=>(f.keyB=true∧g.okB=true∧bGj E t f g,if ok then .tup [.val g ((aAp f l x).getD g.zero),.val .bool (aAp f l x).isSome] else .val g ((aAp f l x).getD g.zero))
   | none=>(False,.junk)
  | _=>(False,.junk)
 | _=>(False,.junk)
def Ty.isNil:Ty→Bool
 | .nili=>true
 | _=>false
def bAw(E:Env)(h:List Obj)(t:TypeId)(x:AV):Prop×AV :=
 match E.T t with
 | some c=>match AV.as (h.map fX) c x with
  | some d=>(c.isNil=false,.val (.ifc t c) d)
  | none=>(False,.junk)
 | none=>(False,.junk)
def aK4(E:Env)(x:AV)(t:TypeId)(ok:Bool):Prop×AV :=
 match E.T t with
 | some c=>match x with
  | .val (.ifc k c') d=>if k=t then (c.isNil=false,if ok then .tup [.val c' d,.val .bool true] else .val c' d) else (ok=true∧c.okB=true,.tup [.val c c.zero,.val .bool false])
  | .val .nili _=>(ok=true∧c.okB=true,.tup [.val c c.zero,.val .bool false])
  | _=>(False,.junk)
 | none=>(False,.junk)
def bAx(T:Tab)(f:BinOp)(t:TypeId)(x:AV):Prop×AV :=
 match x with
 | .val .nili _=>match f with
  | .eql=>(T t=some .nili,.val .bool true)
  | .neq=>(T t=some .nili,.val .bool false)
  | _=>(False,.junk)
 | _=>(False,.junk)
noncomputable def bGk(T:Tab)(f:BinOp)(t:TypeId)(x y:AV):Prop×AV :=
 match f,x,y with
 | .add,.val (.i k) a,.val (.i g) b=>(g=k,.val (.i k) (k.wrap (a+b)))
 | f,x,y=>aDe T f t x y
noncomputable def pv(E:Env)(h:List Obj)(ρ:Operand→AV)(o:Oper):Prop×AV :=
 match o.op with
 | .move x=>(True,bAn E.T o.type (ρ x))
 | .assign x=>(True,bAn E.T o.type (ρ x))
 | .load t a=>aKU E.T h t (ρ a)
 | .binOp q t x y _=>match y with
  | .const .nilIface=>bAx E.T q t (ρ x)
  | y=>bif E.w then bGk E.T q t (ρ x) (ρ y) else aDe E.T q t (ρ x) (ρ y)
 | .unOp q _ x=>bCs q (ρ x)
 | .convert s d x=>bGf E.T h s d (ρ x)
 | .fieldAddr s x k=>aBt E.T s (ρ x) k
 | .field s x k=>aMk E.T s (ρ x) k
 | .indexAddr t x i=>aOL E.T h t (ρ x) (ρ i)
 | .index t x i=>aOM E.T t (ρ x) (ρ i)
 | .slice t x lo hi mx=>aON E.T h t (ρ x) (lo.map ρ) (hi.map ρ) (mx.map ρ)
 | .extract x i=>aQH i (ρ x)
 | .build t z=>bif E.dz t then aQB E.T t (z.toList.map fun p=>(p.1,ρ p.2)) else aMm E.T t (z.toList.map fun p=>(p.1,ρ p.2))
 | .buildSlice t n z=>aCu E.T t n (z.toList.map fun p=>(p.1,ρ p.2))
 | .makeFunc (.func f) first g=>aNK h f (first.toList.map ρ) (g.toList.map ρ)
 | .nilCheck x=>aNI (ρ x)
 | .lookup t m k ok=>aK3 E h t (ρ m) (ρ k) ok
 | .makeInterface t x=>bAw E h t (ρ x)
 | .typeAssert x _ t ok=>aK4 E (ρ x) t ok
 | .call c=>aOT E h c.callee (c.args.toList.map ρ) c.argTypes.toList ρ
 | .alloc t=>match E.T t with
  | some I=>(I.okB=true,.junk)
  | none=>(False,.junk)
 | _=>(False,.junk)
section
variable {P:Program} {M:Perm} {w0:World} {c:Ctx} {h:List Obj} {w:World}
theorem dU.shape{w:World}{S:Nat→Prop}{t:Ty}{x:t.den}{v:Value}(h:dU w S t x v)(z:t≠ .nili):v≠ .nilIface∧(t.isAgg=false→ ∀cs,v≠ .agg cs):=by
 unfold dU at h;split at h
 ·grind
 ·rename_i f;cases t<;>first|(simp[Ty.isAgg] at f; done)|skip
  case bool=>grind[bB]
  case u=>grind[bB]
  case i=>grind[bB]
  case str=>obtain⟨s,e,_⟩:=h; simp_all
  case sl=>obtain⟨a,l,q,e,_⟩:=h; simp_all
  case rp=>obtain⟨b,off,ds,e,_⟩:=h; simp_all
  case clo=>obtain⟨g,e,_⟩:=h; simp_all
  case ifc=>obtain⟨u,ds,e,_⟩:=h; simp_all
  case nili=>simp_all
  all_goals grind[bB]
theorem bAy{f:BinOp}{t:TypeId}{v u:Value}{ox oy:Operand}(q:v≠ .nilIface)(g:∀cs,v≠ .agg cs):(eqGuard f t ox oy v u).run P w= .ok () w:=by
 cases f<;>first|rfl|skip
 all_goals (cases v<;>first|exact absurd rfl q|exact absurd rfl (g _)|rfl)
theorem aXL{T:Tab}{q:BinOp}{t:TypeId}{z:Ty}(f:aFo P T t z)(g:z.isAgg=true){xs:Array Value}{u:Value}{ox oy:Operand}:(eqGuard q t ox oy (.agg xs) u).run P w= .ok () w:=by
 have I:=f.guard g;cases u with
 | agg J=>grind[run_eqGuard_agg]
 | _=>cases q<;>rfl
theorem bAz{T:Tab}(I:lZ P T){g:BinOp}{t:TypeId}{x y:AV}{v u:Value}{ox oy:Operand}(hv:aX c w x v)(hc:(aDe T g t x y).1):(eqGuard g t ox oy v u).run P w= .ok () w:=by
 cases x with
 | val tx a =>
  have f:=fun L=>(aX.toV hv).shape L;cases tx with
  | pair p q =>
   obtain⟨J,rfl⟩:=hv.2.1 rfl;cases y with
   | val z b =>
    simp only[aDe] at hc;by_cases e:z= .pair p q
    ·subst e;simp only[dite_true] at hc;cases g<;>simp only at hc<;>first|exact hc.elim|exact aXL (I _ _ hc.1) rfl
    simp_all
   | _=>exact hc.elim
  | arr n q =>
   obtain⟨J,rfl⟩:=hv.2.1 rfl;cases y with
   | val z b =>
    simp only[aDe] at hc;by_cases e:z= .arr n q
    ·subst e;simp only[dite_true] at hc;cases g<;>simp only at hc<;>first|exact hc.elim|exact aXL (I _ _ hc.1) rfl
    simp_all
   | _=>exact hc.elim
  | unit=>exact hc.elim
  | expr=>exact hc.elim
  | nili=>exact hc.elim
  | ifc _ _=>exact hc.elim
  | _=>exact bAy (f (by simp)).1 ((f (by simp)).2 rfl)
 | _=>exact hc.elim
theorem aOU{ρ:Operand→AV}{a:Act}:∀ {l:List (Nat×Operand)},(∀p∈l,aX c w (ρ p.2) (a.eval p.2))→aEX c w (l.map fun p=>(p.1,ρ p.2)) (l.map fun p=>(p.1,a.eval p.2))
 | [],_=>.nil
 | p::r,h=>.cons (h p (by simp)) (aOU fun q hq=>h q (by simp[hq]))
theorem aUC{ρ:Operand→AV}{a:Act}{o:Option Operand}(h:∀x,o=some x→aX c w (ρ x) (a.eval x)):aWG c w (o.map ρ) (o.map a.eval):=by
 cases o with
 | none=>exact .none
 | some x=>exact .some (h x rfl)
theorem aOV(J:Good M w0 c h w):∀ {l:List AV} {vs:List Value} {f:List Nat},allTags h l=some f→l.length=vs.length→(∀i (z:i<l.length) (L:i<vs.length),aX c w l[i] vs[i])→(∀i∈f,i<c.n)∧vs=f.map c.hd
 | [],vs,f,q,I,_=>by
  grind[allTags]
 | v::r,[],f,q,I,_=>by grind
 | v::r,u::us,f,q,I,hv=>by
  simp only[allTags] at q;split at q
  ·rename_i i l z L;cases q;obtain⟨q1,U⟩:=aOV J L (by simpa using I) (fun i hi N=>by have:=hv (i+1) (by simp_all) (by simp_all); simp_all);have h0:=hv 0 (by simp) (by simp);simp only[List.getElem_cons_zero] at h0;unfold bGi at z;split at z
   ·rename_i j;split at z
    ·rename_i Y O;cases z;obtain⟨hj,b,hb,rfl⟩:=aGY h0;obtain⟨b',cells,e,g,_⟩:=J.objs _ _ O;rw[g] at hb;simp[aU] at hb;subst hb;refine⟨fun k Z=>?_,?_⟩
     ·grind
     ·rw[List.map_cons,← U,g]; rfl
    grind
   grind
  grind
theorem bLs{f:FuncId}{g l2:List Nat}(z:∀i∈g,i<c.n)(q:∀i∈l2,i<c.n):aX c w (.fn f g l2) (.func (.func f) (g.map c.hd).toArray (l2.map c.hd).toArray) :=
 ⟨⟨z,q,rfl⟩,(fun h=>by cases h),(fun _ I=>by simp)⟩
theorem bI9{vs:List AV}{v:Value}(hv:aX c w (.tup vs) v){i:Nat}(hi:i<vs.length):∃u,(Instr.extract v i).run P w= .ok u w∧aX c w (vs.getD i .junk) u:=by
 obtain⟨q,rfl,L,J⟩:=hv;have g:i<q.length:=by omega
 refine⟨q[i],by simp[Instr.extract,g],?_⟩;rw[List.getD_eq_getElem?_getD,List.getElem?_eq_getElem hi];have:=J i hi g;simp only[Option.getD_some];have f:∀us,vs[i]≠ .tup us:=fun us e=>by rw[e] at this; exact this.1.elim
 revert this f;generalize vs[i]=a;generalize q[i]=x;intro this f;cases a<;>first|exact absurd rfl (f _)|trivial|exact this|skip
 obtain⟨I,_,z⟩:=this;have z:=z rfl;simp only[aO] at I;cases x<;>simp[Value.cells] at I z<;>first|exact I|skip
end
end Go.Vc
namespace Go.Vc
open Go.RowKit
section
variable {P:Program} {M:Perm} {w0:World} {c:Ctx} {h:List Obj} {w:World}
structure iF(P:Program)(E:Env):Prop where
 T:lZ P E.T
 Γ:∀f vs sp,E.Γ f vs=some sp→(FOK P E.G f sp∧ ∃fn,P.funcs[f]? = some fn∧fn.name ≠ "runtime.NumGoroutine" ∧ fn.body.isSome=true)∨NOK P E.G f sp
 el:∀t ct,E.T t=some (.sl ct)→P.underlying t=some (.slice (E.el t))
 mp:∀t k e,E.mp t=some (k,e)→P.underlying t=some (.map k e)
theorem aFq{f:FuncId}{args:Array Value}(q:∃fn,P.funcs[f]? = some fn∧fn.name ≠ "runtime.NumGoroutine" ∧ fn.body.isSome=true):(callFunc f args).run P w= .ok (.enter f args) w:=by
 obtain⟨fn,I,z,g⟩:=q;obtain⟨b,hb⟩:=Option.isSome_iff_exists.1 g;simp_all[callFunc]
theorem aMs{ρ:Operand→AV}{a:Act}{l:List Operand}(h:∀x∈l,aX c w (ρ x) (a.eval x)):∀i (g:i<(l.map ρ).length) (f:i<(l.map a.eval).length),aX c w (l.map ρ)[i] (l.map a.eval)[i]:=fun i g f=>by
 simp_all
theorem bDW{f:FuncId}{l2:List Nat}{v:Value}(hv:aX c w (.fn f [] l2) v):(∀i∈l2,i<c.n)∧v= .func (.func f) #[] (l2.map c.hd).toArray:=by
 obtain⟨g,_,q⟩:=hv;have q:=q rfl;simp only[aO] at g;obtain⟨_,z,g⟩:=g;refine⟨z,?_⟩;cases v<;>simp[Value.cells] at g q
 simp_all
theorem bAA{g:FuncId}{t:Ty}{y:t.den}{v:Value}(hv:aX c w (.val (.clo g t) y) v):∃us:List Value,v= .func (.func g) #[] us.toArray∧bB w c.S t y us:=by
 have:=aX.toV hv;unfold dU at this;rw[if_neg (by simp[Ty.isAgg])] at this;obtain⟨us,e,f⟩:=this;simp_all
theorem bGl:∀ {l:List AV} {vs:List Value} {t:Ty} {y:t.den},aNJ l=some ⟨t,y⟩→l.length=vs.length→(∀i (O:i<l.length) (L:i<vs.length),aX c w l[i] vs[i])→bB w c.S t y vs
 | [],vs,t,y,f,I,_=>by
  simp only[aNJ,Option.some.injEq,Sigma.mk.injEq] at f;obtain⟨rfl,hy⟩:=f;cases vs with
  | nil=>rfl
  | cons _ _=>grind
 | v::r,[],t,y,f,I,_=>by grind
 | v::r,x::vs,t,y,f,I,hv=>by
  have h0:=hv 0 (by simp) (by simp);simp only[List.getElem_cons_zero] at h0;cases v<;>first|grind[aNJ]|skip
  rename_i U x1;simp only[aNJ] at f;split at f
  ·rename_i u z N;simp only[Option.some.injEq,Sigma.mk.injEq] at f;obtain⟨rfl,hy⟩:=f;have hy:=eq_of_heq hy;subst hy;have g:=bGl N (vs:=vs) (by simp_all) (fun i O L=>by have:=hv (i+1) (by simp_all) (by simp_all); simp_all);obtain⟨⟨b,off,ds,e,hb,hd,hc⟩,_,q⟩:=h0;have q:=q rfl;have J:x= .pointer (some ⟨b,off,none⟩):=by
    simp_all[Value.cells]
   refine⟨[x],vs,rfl,⟨b,off,ds,by rw[J],hb,hd,hc⟩,g⟩
  grind
theorem aK5(z:Good M w0 c h w):∀ {l2:List Nat},aHu h l2=true→(∀i∈l2,i<c.n)→ ∀i (f:i<(l2.map fun i=>AV.ptr i []).length) (I:i<(l2.map c.hd).length),aX c w (l2.map fun i=>AV.ptr i [])[i] (l2.map c.hd)[i]:=by
 intro l2 hb J i f I;simp only[List.length_map] at f;simp only[List.getElem_map];simp only[aHu,List.all_eq_true] at hb;have:=hb l2[i] (List.getElem_mem f);split at this
 ·rename_i n v q;obtain⟨b,cells,e,g,_⟩:=z.objs _ _ q;refine⟨⟨J _ (List.getElem_mem f),b,by rw[g]; rfl,by rw[g]; rfl⟩,(fun h=>by cases h),(fun _ L=>by simp_all)⟩
 simp_all
theorem aUD:∀ {t:Ty} {y:t.den} {us:List Value},xW t=true→bB w c.S t y us→us.length=(aE9 t y).length∧ ∀i (N:i<(aE9 t y).length) (g:i<us.length),aX c w (aE9 t y)[i] us[i]
 | .unit,_,us,_,f=>by simp only[bB] at f; subst f; exact⟨rfl,fun i h=>by simp_all⟩
 | .pair (.rp a) r,y,us,hb,f=>by
  obtain⟨c1,J,rfl,⟨b,off,ds,rfl,q⟩,g⟩:=f;obtain⟨I,L⟩:=aUD (t:=r) (y:=y.2) (by grind[xW]) g;refine⟨by simp[aE9,I],fun i hi z=>?_⟩;cases i with
  | zero =>
   refine aX.ofV ?_;unfold dU;rw[if_neg (by simp[Ty.isAgg])];exact⟨b,off,ds,rfl,q⟩
  | succ i =>
   grind[aE9]
 | .pair .bool _,_,_,hb,_=>by grind[xW]
 | .pair (.u _) _,_,_,hb,_=>by grind[xW]
 | .pair (.i _) _,_,_,hb,_=>by grind[xW]
 | .pair .str _,_,_,hb,_=>by grind[xW]
 | .pair (.sl _) _,_,_,hb,_=>by grind[xW]
 | .pair .unit _,_,_,hb,_=>by grind[xW]
 | .pair (.pair _ _) _,_,_,hb,_=>by grind[xW]
 | .pair (.arr _ _) _,_,_,hb,_=>by grind[xW]
 | .pair .expr _,_,_,hb,_=>by grind[xW]
 | .pair (.clo _ _) _,_,_,hb,_=>by grind[xW]
 | .bool,_,_,hb,_=>by grind[xW]
 | .u _,_,_,hb,_=>by grind[xW]
 | .i _,_,_,hb,_=>by grind[xW]
 | .str,_,_,hb,_=>by grind[xW]
 | .sl _,_,_,hb,_=>by grind[xW]
 | .arr _ _,_,_,hb,_=>by grind[xW]
 | .expr,_,_,hb,_=>by grind[xW]
 | .rp _,_,_,hb,_=>by grind[xW]
 | .clo _ _,_,_,hb,_=>by grind[xW]
theorem aUE{E:Env}(hE:iF P E)(hg:Good M w0 c h w)(hG:uD E.G c.S w){dst:Option Nat}{ty:TypeId}{pos:String}{U:Array Edge}{gd:Option (Nat×Bool)}{f:Operand}{args:Array Operand}{argTypes:Array TypeId}{a:Act}{ρ:Operand→AV}{g:FuncId}{us:List Value}{q:List AV}
  (hf:a.eval f= .func (.func g) #[] us.toArray) (hul:us.length=q.length) (hav:∀i (Z:i<(args.toList.map ρ).length) (h2:i<(args.toList.map a.eval).length),aX c w (args.toList.map ρ)[i] (args.toList.map a.eval)[i])
  (huv:∀i (Z:i<q.length) (h2:i<us.length),aX c w q[i] us[i]) (hc:(aIR E.Γ h g (args.toList.map ρ++q)).1) :
  Did P M w0 h c { dst:=dst,op:=.call { callee:=.value f,args:=args,argTypes:=argTypes },type:=ty,pos:=pos,after:=U,guard:=gd } a w (aIR E.Γ h g (args.toList.map ρ++q)).2:=by
 have Y:∃sp,E.Γ g (args.toList.map ρ++q)=some sp:=by
  unfold aIR at hc;grind
 obtain⟨sp,z⟩:=Y;have e2:args.map a.eval++us.toArray=(args.toList.map a.eval++us).toArray:=by simp_all
 have hcall:=fun (C:(Ending→World→Prop)→Prop) hC hF=>bI8 (P:=P) (C:=C) hC (Γ:=E.Γ) hF hg hG (f:=g) (vs:=args.toList.map ρ++q) (xs:=(args.toList.map a.eval++us).toArray) (by grind) (fun i Z h2=>by
  grind) hc
 rcases hE.Γ g _ sp z with⟨I,N⟩|J
 ·refine .inr ⟨g,(args.toList.map a.eval++us).toArray,?_,hcall (Calls P g _ w) (fun R R' h k=>h.mono k) (fun O hs=>by rw[z] at hs; cases hs; exact fun S x=>I w S _ x)⟩;have L:=aFq (w:=w) (args:=(args.toList.map a.eval++us).toArray) N;grind[execOp,resolve,Deferred.ofValue,invoke]
 ·obtain⟨v,w',L,v',c',e,hA⟩:=hcall (bKV P g (args.toList.map a.eval++us).toArray w) (fun R R' ⟨v,w',h,k⟩ hk=>⟨v,w',h,hk _ _ k⟩) (fun O hs=>by rw[z] at hs; cases hs; exact J.2 w _);cases e;refine .inl ⟨v,w',c',?_,hA⟩;grind[execOp,resolve,Deferred.ofValue,invoke]
theorem aXM{T:Tab}(q:lZ P T){t:TypeId}{f:Ty}(ht:T t=some f)(g:f.okB=true){o:Oper}{a:Act}(z:o.op= .alloc t):(execOp a.eval o).run P w= .ok (.value (.pointer (some ⟨w.heap.size,0,none⟩))) (w.alloc (.cells (oS f).cells t (0,0))):=by
 have I:=vX (q _ _ ht) g w;simp[execOp,z,Instr.alloc,I,newVar,newRow]
theorem aSd(q:Good M w0 c h w){ob:Go.Obj}:aKY P M w0 h c w .junk (.pointer (some ⟨w.heap.size,0,none⟩)) (w.alloc ob) c:=by
 have g:iL nothing w (w.alloc ob):=iL.alloc nothing w _;have z:eI c w c (w.alloc ob):=⟨.refl _,fun b hb=>g.block b (q.sfin b hb) (fun f=>f)⟩;exact⟨z,⟨rfl,rfl⟩,q.step z rfl rfl g.any (fun i o b I hb=>g.block b (q.own i o b I hb).2.1 (fun f=>f)) (fun b hb=>Nat.lt_of_lt_of_le (q.sfin b hb) g.size) (fun b hb=>.inl hb),g,fun b hb=>.inl hb,trivial⟩
theorem bE6{E:Env}(Y:iF P E)(hg:Good M w0 c h w){t:TypeId}{m k:AV}{ok:Bool}{mv kv:Value}(hm:aX c w m mv)(hk:aX c w k kv)(hc:(aK3 E h t m k ok).1) :
  ∃u,(Instr.lookup t mv kv ok).run P w= .ok u w∧aX c w (aK3 E h t m k ok).2 u:=by
 unfold aK3 at hc ⊢;split at hc
 ·rename_i i;split at hc
  ·rename_i g q l ho;split at hc
   ·rename_i x hx;obtain⟨U,h2,L⟩:=hc;simp only[ho,hx];obtain⟨b,I,clock,q1,q2,q3,q4⟩:=hg.objs i _ ho;have hmv:mv= .map (some b):=by
     obtain⟨r1,_,r3⟩:=hm;simp only[aO] at r1;have r3:=r3 rfl;simp_all[Value.cells]
    subst hmv;unfold bGj at L;split at L
    ·rename_i kt et he;have J:=aAo hg hk hx;have hu:=Y.mp _ _ _ he;have hgo:(getObj b).run P w= .ok (.map I clock) w:=(by simp[getObj,Sem.run,q2]);have hl:I.toList.length=l.length:=(by omega);have hf:=aOS (P:=P) Y.T L.1 U J w l I.toList hl (fun j h h'=>by simp_all);have hck:=aMX (P:=P) I.isEmpty 9998 Y.T L.1 U J w;have hz:=vX (Y.T _ _ L.2) h2 w;have f:=aQG (c:=g) (w:=w) (S:=c.S) (x:=x) l I.toList 0 hl;have N:∀(z:Value),dU w c.S q ((aAp g l x).getD q.zero) z→aX c w (if ok=true then AV.tup [.val q ((aAp g l x).getD q.zero),.val .bool (aAp g l x).isSome] else AV.val q ((aAp g l x).getD q.zero)) (if ok=true then .tuple #[z,.bool (aAp g l x).isSome] else z):=fun z hz=>by
      cases ok
      ·simp_all[Bool.false_eq_true,if_false,aX.ofV]
      ·simp only[if_true];refine⟨[z,.bool (aAp g l x).isSome],rfl,rfl,fun i U h2=>?_⟩
       match i,U,h2 with
       | 0,_,_=>exact aX.ofV hz
       | 1,_,_=>exact aX.ofV (t:=.bool) (x:=(aAp g l x).isSome) (by rfl)
     cases O:aAp g l x with
     | some y =>
      rw[O] at f;obtain⟨j,e,k1,r1,r2,r3,_⟩:=f;rw[r1] at hf;have Z:j<l.length:=by
       grind
      have hje:j<I.size:=(by omega);have hv:=(q4 j Z hje).2;have e1:I[j]=e:=by
       simp_all
      have e2:l[j].2=y:=(by simp_all);simp_all[bool,Instr.lookup,bG,Result.andThen]
     | none =>
      rw[O] at f;rw[f.1] at hf;have:=N (oS q) (by grind[aKS]);refine⟨if ok=true then .tuple #[oS q,.bool false] else oS q,?_,by simp_all⟩;simp_all[Instr.lookup,bG,Result.andThen]
    simp_all
   simp_all
  simp_all
 simp_all
theorem aMt{E:Env}{t:TypeId}{c:Ty}(g:lZ P E.T)(ht:E.T t=some c)(q:c.isNil=false):∃d,P.underlying t=some d∧ ∀f,d≠ .interface f:=by
 obtain⟨d,hd,hb⟩:=(g _ _ ht).desc;refine⟨d,hd,fun f e=>?_⟩;subst e;cases c<;>simp[jI,Ty.isNil] at hb q
theorem bLt{E:Env}(J:iF P E)(z:Good M w0 c h w){t:TypeId}{x:AV}{v:Value}(hv:aX c w x v)(hc:(bAw E h t x).1) :
  ∃u,(Instr.makeInterface t v).run P w= .ok u w∧aX c w (bAw E h t x).2 u:=by
 unfold bAw at hc ⊢;split at hc
 ·rename_i O ht;split at hc
  ·rename_i d hd;simp only[hd];have f:=aAo z hv hd;obtain⟨L,I,N⟩:=aMt J.T ht hc;refine⟨.iface t v,?_,aX.ofV ?_⟩
   ·simp only[Instr.makeInterface,Sem.run_bind,bG I,Result.andThen_ok];rfl
   ·unfold dU at f ⊢;rw[if_neg (by simp[Ty.isAgg])];split at f
    ·rename_i g;obtain⟨q,rfl,f⟩:=f;exact⟨.agg q,q.toList,rfl,(fun _=>by simp),(fun h=>by simp_all),f⟩
    ·rename_i g;exact⟨v,[v],rfl,(fun h=>absurd h g),(fun _=>rfl),f⟩
  simp_all
 simp_all
theorem aUF{k:TypeId}{t:Ty}{x:t.den}{v:Value}(hv:aX c w (.val (.ifc k t) x) v):∃u,v= .iface k u∧dU w c.S t x u:=by
 have f:=aX.toV hv;unfold dU at f;rw[if_neg (by simp[Ty.isAgg])] at f;obtain⟨u,ds,e,z,q,g⟩:=f;simp only[List.cons.injEq,and_true] at e;grind[dU]
theorem aYJ{t:Ty}{x:t.den}{b:Bool}{u:Value}(q:dU w c.S t x u):aX c w (.tup [.val t x,.val .bool b]) (.tuple #[u,.bool b]):=by
 refine⟨[u,.bool b],rfl,rfl,fun i f g=>?_⟩
 match i,f,g with
 | 0,_,_=>exact aX.ofV q
 | 1,_,_=>exact aX.ofV (t:=.bool) (x:=b) (by rfl)
theorem bE7{E:Env}(I:iF P E){t xt:TypeId}{x:AV}{ok:Bool}{v:Value}(hv:aX c w x v)(hc:(aK4 E x t ok).1) :
  ∃u,(Instr.typeAssert v xt t ok).run P w= .ok u w∧aX c w (aK4 E x t ok).2 u:=by
 unfold aK4 at hc ⊢;split at hc
 ·rename_i q ht;have g:q.okB=true→q.isNil=false:=fun h=>by grind[Ty.okB,Ty.isNil]
  split at hc
  ·rename_i k c' d;obtain⟨u,rfl,O⟩:=aUF hv;by_cases e:k=t
   ·subst e;simp only[if_true] at hc ⊢;obtain⟨L,z,N⟩:=aMt I.T ht hc;refine⟨if ok=true then .tuple #[u,.bool true] else u,?_,?_⟩
    ·simp only[Instr.typeAssert,Sem.run_bind,bG z,Result.andThen_ok];rfl
    grind[aX.ofV,aYJ]
   ·simp only[e,if_false] at hc ⊢;obtain⟨rfl,f⟩:=hc;refine⟨.tuple #[oS q,.bool false],?_,aYJ (aKS w c.S q f)⟩;obtain⟨L,z,N⟩:=aMt I.T ht (g f);have f:=vX (I.T _ _ ht) f w;simp only[Instr.typeAssert,Sem.run_bind,bG z,Result.andThen_ok];simp_all
  ·have J:v= .nilIface:=by
    have O:=aX.toV hv;simp_all[dU,if_neg,Ty.isAgg,bB]
   subst J;obtain⟨rfl,f⟩:=hc;refine⟨.tuple #[oS q,.bool false],?_,aYJ (aKS w c.S q f)⟩;obtain⟨L,z,N⟩:=aMt I.T ht (g f);have f:=vX (I.T _ _ ht) f w;simp only[Instr.typeAssert,Sem.run_bind,bG z,Result.andThen_ok];simp_all
  simp_all
 simp_all
theorem bLu{T:Tab}(z:lZ P T){f:BinOp}{t:TypeId}{x:AV}{v:Value}{ox:Operand}(hv:aX c w x v)(hc:(bAx T f t x).1) :
  ∃r,(eqGuard f t ox (.const .nilIface) v .nilIface).run P w= .ok () w∧(binOp f t v .nilIface).run P w= .ok r w∧aX c w (bAx T f t x).2 r:=by
 unfold bAx at hc ⊢;split at hc
 ·rename_i y;have g:v= .nilIface:=by
   have I:=aX.toV hv;simp_all[dU,if_neg,Ty.isAgg,bB]
  subst g;have q:T t=some .nili→(Op.equal t .nilIface .nilIface).run P w= .ok true w:=fun ht=>by
   obtain⟨d,hd,hb⟩:=(z _ _ ht).desc;cases d<;>simp[jI] at hb
   unfold Op.equal Op.maxDepth;rw[Op.equalIn];simp[bG hd]
  cases f<;>simp only at hc ⊢ <;> (try exact hc.elim)
  all_goals simp_all[bool,eqGuard,binOp,aF0]
 simp_all
theorem bJa{T:Tab}(q:lZ P T){g:BinOp}{t:TypeId}{x y:AV}{v u:Value}{ox oy:Operand}(hv:aX c w x v)(f:aX c w y u)(hc:(bGk T g t x y).1) :
  (∃r,(binOp g t v u).run P w= .ok r w∧aX c w (bGk T g t x y).2 r)∧(eqGuard g t ox oy v u).run P w= .ok () w:=by
 revert hv f hc;unfold bGk;split<;>intro hv f hc
 ·obtain⟨rfl,z,J⟩:=aHX hv;obtain⟨rfl,I,hb⟩:=aHX f;have e:=hc;dsimp only at e;subst e;exact⟨⟨_,by simp only[binOp,Op.intArith,ne_eq,not_true_eq_false,if_false]; rfl,aDc z (aFQ z _)⟩,rfl⟩
 ·exact⟨bGb (P:=P) q hv f hc,bAz (P:=P) q hv hc⟩
theorem bKW{E:Env}(O:iF P E)(U:Good M w0 c h w)(hG:uD E.G c.S w){o:Oper}{a:Act}{ρ:Operand→AV}(I:∀x∈o.op.operands,aX c w (ρ x) (a.eval x))(hc:(pv E h ρ o).1):Did P M w0 h c o a w (pv E h ρ o).2:=by
 obtain⟨dst,op,ty,pos,aft,gd⟩:=o;cases op<;>simp only[pv] at hc ⊢ <;> (try exact hc.elim)<;>simp only[Op.operands] at I
 case alloc t =>
  split at hc
  ·rename_i ct ht;exact .inl ⟨_,_,c,aXM O.T ht hc rfl,aSd U⟩
  simp_all
 case makeInterface t x =>
  obtain⟨u,J,L⟩:=bLt (P:=P) O U (I x (by simp)) hc;simp_all[Did.of_value,execOp]
 case typeAssert x xt t ok =>
  obtain⟨u,J,L⟩:=bE7 (P:=P) O (xt:=xt) (I x (by simp)) hc;simp_all[Did.of_value,execOp]
 case lookup t m k ok =>
  obtain⟨u,J,L⟩:=bE6 (P:=P) O U (I m (by simp)) (I k (by simp)) hc;simp_all[Did.of_value,execOp]
 case move x =>
  simp_all[Did.of_value,execOp,bDT]
 case assign x =>
  simp_all[Did.of_value,execOp,bDT]
 case load t x =>
  obtain⟨u,J,L⟩:=bDM O.T U (I x (by simp)) hc;simp_all[Did.of_value,execOp]
 case binOp op t x y yt =>
  have N:=I x (by simp);have hy:=I y (by simp);split at hc
  ·obtain⟨r,h1,h2,h3⟩:=bLu (P:=P) (ox:=x) O.T N hc;have e:a.eval (.const .nilIface)= .nilIface:=rfl;simp_all[Did.of_value,execOp]
  ·cases hw:E.w with
   | true =>
    simp only[hw,cond_true] at hc ⊢;obtain⟨⟨u,J,L⟩,hgd⟩:=bJa (P:=P) O.T (ox:=x) (oy:=y) N hy hc;simp_all[Did.of_value,execOp]
   | false =>
    simp only[hw,cond_false] at hc ⊢;obtain⟨u,J,L⟩:=bGb (P:=P) O.T N hy hc;have hgd:=bAz (P:=P) O.T (u:=a.eval y) (ox:=x) (oy:=y) N hc;simp_all[Did.of_value,execOp]
 case unOp op t x =>
  obtain⟨u,J,L⟩:=bMq (P:=P) (I x (by simp)) hc;simp_all[Did.of_value,execOp]
 case convert s d x =>
  have N:=I x (by simp);unfold bGf at hc ⊢;split at hc
  ·rename_i b hd hb;rw[hb] at N;obtain⟨u,w',c',L,ha⟩:=bAu (P:=P) O.T U hc hd N;exact .inl ⟨u,w',c',by simp[execOp,L],by omega⟩
  ·rename_i hd;split at hc
   ·rename_i hs;split at hc
    ·rename_i k sz off n hx2;split at hc
     ·rename_i q m xs ho;obtain⟨rfl,hle⟩:=hc;rw[hx2] at N;obtain⟨u,J,L⟩:=aYI (P:=P) O.T U hs hd N ho hle;simp_all[Did.of_value,execOp]
     simp_all
    split at hc
    ·rename_i b ha;obtain⟨u,J,L⟩:=aWI (P:=P) O.T U hs hd N ha;simp_all[Did.of_value,execOp]
    simp_all
   ·obtain⟨u,J,L⟩:=bDP (P:=P) O.T N hc;simp_all[Did.of_value,execOp]
  ·obtain⟨u,J,L⟩:=bDP (P:=P) O.T N hc;simp_all[Did.of_value,execOp]
 case fieldAddr s x k =>
  obtain⟨u,J,L⟩:=bF5 (P:=P) O.T (I x (by simp)) hc;simp_all[Did.of_value,execOp]
 case field s x k =>
  obtain⟨u,J,L⟩:=bF7 (P:=P) O.T (I x (by simp)) hc;simp_all[Did.of_value,execOp]
 case indexAddr t x i =>
  obtain⟨u,J,L⟩:=bF8 (P:=P) O.T U (I x (by simp)) (I i (by simp)) hc;simp_all[Did.of_value,execOp]
 case index t x i =>
  obtain⟨u,J,L⟩:=bGa (P:=P) O.T (I x (by simp)) (I i (by simp)) hc;simp_all[Did.of_value,execOp]
 case slice t x lo hi mx =>
  obtain⟨u,J,L⟩:=bGc (P:=P) O.T U (I x (by simp)) (aUC (o:=lo) fun y hy=>I y (by simp[hy])) (aUC (o:=hi) fun y hy=>I y (by simp[hy])) (aUC (o:=mx) fun y hy=>I y (by simp[hy])) hc;simp_all[Did.of_value,execOp]
 case extract x i =>
  have N:=I x (by simp);unfold aQH at hc ⊢;split at hc
  ·rename_i vs e;rw[e] at N;obtain⟨u,J,L⟩:=bI9 (P:=P) N hc;simp_all[Did.of_value,execOp]
  simp_all
 case build t ps =>
  have hp:=aOU (l:=ps.toList) (ρ:=ρ) (a:=a) (c:=c) (w:=w) (fun p hp=>I p.2 (List.mem_toArray.2 (List.mem_map_of_mem hp)));have key:∃u,(Instr.build t (ps.toList.map fun p=>(p.1,a.eval p.2)).toArray).run P w= .ok u w∧aX c w (bif E.dz t then aQB E.T t (ps.toList.map fun p=>(p.1,ρ p.2)) else aMm E.T t (ps.toList.map fun p=>(p.1,ρ p.2))).2 u:=by
   cases hdz:E.dz t with
   | true=>simp only[pv,hdz,cond_true] at hc ⊢; exact bE4 (P:=P) O.T hp hc
   | false=>simp only[pv,hdz,cond_false] at hc ⊢; exact bGe (P:=P) O.T hp hc
  obtain⟨u,J,L⟩:=key;have e:(ps.map fun x=>(x.1,a.eval x.2))=(ps.toList.map fun p=>(p.1,a.eval p.2)).toArray:=by grind
  simp_all[Did.of_value,execOp]
 case buildSlice t n ps =>
  have hp:=aOU (l:=ps.toList) (ρ:=ρ) (a:=a) (c:=c) (w:=w) (fun p hp=>I p.2 (List.mem_toArray.2 (List.mem_map_of_mem hp)));obtain⟨u,w',c',J,L⟩:=aWH (P:=P) O.T U hp hc;have e:(ps.map fun x=>(x.1,a.eval x.2))=(ps.toList.map fun p=>(p.1,a.eval p.2)).toArray:=by grind
  exact .inl ⟨u,w',c',by simp_all[execOp],L⟩
 case nilCheck x =>
  have N:=I x (by simp);cases hxv:ρ x<;>rw[hxv] at N hc<;>simp only[aNI] at hc ⊢ <;> (try exact hc.elim)
  ·obtain⟨_,b,_,e⟩:=aGY N;simp_all[Did.of_value,execOp]
  ·obtain⟨b,off,ds,e,_⟩:=aT3 N;simp_all[Did.of_value,execOp]
  ·have e:∃f l1 l2,a.eval x= .func (.func f) l1 l2:=by
    obtain⟨h1,_,h3⟩:=N;have h3:=h3 rfl;simp only[aO] at h1;have h1:=h1.2.2;cases hv:a.eval x<;>rw[hv] at h1 h3<;>simp[Value.cells] at h1 h3
    simp_all
   obtain⟨f,l1,l2,e⟩:=e;simp_all[Did.of_value,execOp]
 case makeFunc fn first caps =>
  cases fn with
  | func f =>
   simp only at hc ⊢;unfold aNK at hc ⊢;split at hc
   ·rename_i l1 l2 e1 e2;obtain⟨q1,q2⟩:=aOV U e1 (vs:=first.toList.map a.eval) (by simp) (aMs fun x N=>I x (by simp_all));obtain⟨q3,q4⟩:=aOV U e2 (vs:=caps.toList.map a.eval) (by simp) (aMs fun x N=>I x (by simp_all));simp only[e1,e2];refine Did.of_value U (v:=.func (.func f) (l1.map c.hd).toArray (l2.map c.hd).toArray) ?_ (bLs q1 q3);have e3:∀l:Array Operand,l.map a.eval=(l.toList.map a.eval).toArray:=fun l=>(by grind);simp_all[execOp,Instr.makeFunc]
   ·rename_i l1 e1 e2;split at hc
    ·rename_i t y e4;obtain⟨q1,q2⟩:=aOV U e1 (vs:=first.toList.map a.eval) (by simp) (aMs fun x N=>I x (by simp_all));simp only[e1,e2,e4];have hl1:l1= []:=hc;subst hl1;have e5:=bGl e4 (vs:=caps.toList.map a.eval) (by simp) (aMs fun x N=>I x (by simp_all));refine Did.of_value U (v:=.func (.func f) #[] (caps.toList.map a.eval).toArray) ?_ (aX.ofV ?_)
     ·have e3:∀l:Array Operand,l.map a.eval=(l.toList.map a.eval).toArray:=fun l=>(by grind);simp_all[execOp,Instr.makeFunc]
     ·unfold dU;rw[if_neg (by simp[Ty.isAgg])];exact⟨_,rfl,e5⟩
    simp_all
   simp_all
  | _=>simp_all
 case call cl =>
  obtain⟨callee,args,argTypes⟩:=cl;simp only at hc ⊢;have hargs:∀x∈args.toList,aX c w (ρ x) (a.eval x):=fun x N=>I x (by
   simp only[Call.operands];exact Array.mem_append.2 (.inr (by simpa using N)))
  cases callee with
  | builtin b =>
   cases b<;>simp only[aOT] at hc ⊢ <;> (try exact hc.elim)
   case len =>
    split at hc
    ·rename_i x t ex et;obtain⟨y,ey,rfl⟩:∃y,args.toList= [y]∧ρ y=x:=by
      simp_all
     have hy:=hargs y (by simp_all);obtain⟨u,J,L⟩:=bLr (P:=P) (ty:=ty) O.T U hy hc;have e1:args= #[y]:=(by grind);have e2:argTypes= #[t]:=(by grind);exact Did.of_value U (by rw[e1,e2]; simp[execOp,resolve,invoke,builtin,J]) L
    simp_all
   case min =>
    unfold bF2 at hc ⊢;split at hc
    ·rename_i x y exy;obtain⟨p,q,epq,rfl,rfl⟩:∃p q,args.toList= [p,q]∧ρ p=x∧ρ q=y:=by
      match hl:args.toList,exy with
      | [p,q],ex=>grind
     have hp:=hargs p (by simp_all);have hq:=hargs q (by simp_all);obtain⟨u,J,L⟩:=aQF (P:=P) hp hq hc;have J:(Builtin.min2 (a.eval p) (a.eval q)).run P w= .ok u w:=J;have e1:args= #[p,q]:=(by grind);exact Did.of_value U (by rw[e1]; simp[execOp,resolve,invoke,builtin,Builtin.min_,J]) L
    ·rename_i x y z Z;obtain⟨p,q,r,epq,rfl,rfl,rfl⟩:∃p q r,args.toList= [p,q,r]∧ρ p=x∧ρ q=y∧ρ r=z:=by
      match hl:args.toList,Z with
      | [p,q,r],ex=>grind
     have hp:=hargs p (by simp_all);have hq:=hargs q (by simp_all);have hr':=hargs r (by simp_all);obtain⟨u,J,L⟩:=aQF (P:=P) hp hq hc.1;obtain⟨u2,Y,hr2⟩:=aQF (P:=P) L hr' hc.2;have J:(Builtin.min2 (a.eval p) (a.eval q)).run P w= .ok u w:=J;have Y:(Builtin.min2 u (a.eval r)).run P w= .ok u2 w:=Y;have e1:args= #[p,q,r]:=(by grind);exact Did.of_value U (by rw[e1]; simp[execOp,resolve,invoke,builtin,Builtin.min_,J,Y]) hr2
    simp_all
   case max =>
    unfold bF2 at hc ⊢;split at hc
    ·rename_i x y exy;obtain⟨p,q,epq,rfl,rfl⟩:∃p q,args.toList= [p,q]∧ρ p=x∧ρ q=y:=by
      match hl:args.toList,exy with
      | [p,q],ex=>grind
     have hp:=hargs p (by simp_all);have hq:=hargs q (by simp_all);obtain⟨u,J,L⟩:=aQF (P:=P) hp hq hc;have J:(Builtin.max2 (a.eval p) (a.eval q)).run P w= .ok u w:=J;have e1:args= #[p,q]:=(by grind);exact Did.of_value U (by rw[e1]; simp[execOp,resolve,invoke,builtin,Builtin.max_,J]) L
    ·rename_i x y z Z;obtain⟨p,q,r,epq,rfl,rfl,rfl⟩:∃p q r,args.toList= [p,q,r]∧ρ p=x∧ρ q=y∧ρ r=z:=by
      match hl:args.toList,Z with
      | [p,q,r],ex=>grind
     have hp:=hargs p (by simp_all);have hq:=hargs q (by simp_all);have hr':=hargs r (by simp_all);obtain⟨u,J,L⟩:=aQF (P:=P) hp hq hc.1;obtain⟨u2,Y,hr2⟩:=aQF (P:=P) L hr' hc.2;have J:(Builtin.max2 (a.eval p) (a.eval q)).run P w= .ok u w:=J;have Y:(Builtin.max2 u (a.eval r)).run P w= .ok u2 w:=Y;have e1:args= #[p,q,r]:=(by grind);exact Did.of_value U (by rw[e1]; simp[execOp,resolve,invoke,builtin,Builtin.max_,J,Y]) hr2
    simp_all
  | value f =>
   have hf:=I f (by simp[Call.operands]);simp only[aOT] at hc ⊢;have hav:=aMs (ρ:=ρ) (a:=a) (c:=c) (w:=w) hargs;split at hc
   ·rename_i g l2 e;rw[e] at hf;split at hc
    ·rename_i hb;simp only[e,if_pos hb];obtain⟨hl2,hfv⟩:=bDW hf;grind[aUE,aK5]
    simp_all
   ·rename_i g t y e;rw[e] at hf;split at hc
    ·rename_i hb;simp only[e,if_pos hb];grind[bAA,aUD,aUE]
    simp_all
   simp_all
  | _=>exact hc.elim
end
end Go.Vc

