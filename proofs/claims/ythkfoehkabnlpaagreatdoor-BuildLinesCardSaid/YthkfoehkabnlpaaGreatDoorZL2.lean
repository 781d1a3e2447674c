import Derived.Test.YthkfoehkabnlpaaGreatDoorZL1
import Derived.Laws.IdiomStrings
import Derived.Laws.BytesArg
import Derived.MapKept
set_option linter.unusedVariables false
set_option linter.unusedSimpArgs false
namespace Go.Vc
open Go.RowKit
section
variable {P:Program} {T:Tab} {M:Perm} {w0:World} {c:Ctx} {h:List Obj} {w:World}
theorem qH{ix:AV}{v:Value}{i:Int}(hv:aG c w ix v)(hi:tL ix=some i):∃k,v= .int k i:=by
 cases ix with
 | val t x =>
  cases t with
  | i k=>simp only[tL] at hi; cases hi; exact⟨k,(yG hv).1⟩
  | u k=>simp only[tL] at hi; cases hi; exact⟨k,(aCA hv).1⟩
  | _=>grind[tL]
 | _=>grind[tL]
theorem vR{t:Ty}{xs:List t.den}{v:Value}(hv:bR w c.S (.sl t) xs v):∃a len cap,v= .slice a len cap∧SlR w c.S (aJ w c.S t) t.cells xs a len cap:=by
 simp only[bR,Ty.isAgg,Bool.false_eq_true,if_false] at hv;obtain⟨a,len,cap,e,h⟩:=hv;grind
theorem sO{i:Nat}{v:Value}(hv:aG c w (.own i) v):i<c.n∧v=c.hd i:=by
 obtain⟨J,_,I⟩:=hv;simp only[aE] at J;have I:=I rfl;simp_all[Value.cells]
theorem aNF{t:Ty}{xs:List t.den}{v:Value}(hv:aG c w (.full t xs) v):∃a n,v= .slice a n n∧SlR w c.S (aJ w c.S t) t.cells xs a n n:=by
 obtain⟨I,_,J⟩:=hv;simp only[aE] at I;obtain⟨a,n,e,h⟩:=I;have J:=J rfl;refine⟨a,n,?_,h⟩;simp_all[Value.cells]
theorem cO{t:TypeId}{J:Ty}(I:uT P T t (.sl J)):∃e,P.underlying t=some (.slice e)∧T e=some J∧0<J.cells:=by
 obtain⟨d,hd,hb⟩:=I.desc;cases d<;>simp[dM] at hb
 simp_all
theorem vS{t:TypeId}{n:Nat}{J:Ty}(I:uT P T t (.arr n J)):∃e,P.underlying t=some (.array n e)∧T e=some J∧0<J.cells∧1<n∧n≤1048576:=by
 obtain⟨d,hd,hb⟩:=I.desc;cases d<;>simp[dM] at hb
 grind
theorem pI{t:TypeId}(I:uT P T t .str):P.underlying t=some .string:=by
 obtain⟨d,hd,hb⟩:=I.desc;grind[dM]
theorem aH4{t:TypeId}{I:Ty}(N:eO P T)(ht:T t=some (.sl I)){xs:List I.den}{a:Option Addr}{len cap:Nat}(hs:SlR w c.S (aJ w c.S I) I.cells xs a len cap){i:Int}{k:IntKind}(h0:0≤i)(h1:i<(xs.length:Int)) :
  ∃u,(Instr.indexAt t (.slice a len cap) (.int k i)).run P w= .ok u w∧aG c w (.roa I (xs.getD i.toNat I.zero)) u:=by
 obtain⟨e,hd,he,U⟩:=cO (N _ _ ht);obtain⟨hl,hle,Y,hx⟩:=hs;rcases hx with hx|⟨b,off,rfl,hb,hcell⟩
 ·grind
 ·obtain⟨ds,hds,hc⟩:=hcell i.toNat (by omega);refine⟨.pointer (some ⟨b,off+i.toNat*I.cells,none⟩),?_,zU hb ?_ hc⟩
  ·have J:i<(len:Int):=(by omega);simp[Instr.indexAt,asIntOf,aI hd,h0,J,cE (N _ _ he),Result.andThen,lK]
  grind
theorem aLF{i s off n:Nat}{v:Value}(hv:aG c w (.sub i s off n) v):i<c.n∧n≤maxLen∧ ∃b cap,aH (c.hd i)=some b∧v= .slice (some ⟨b,off*s,none⟩) n cap:=by
 obtain⟨I,_,J⟩:=hv;simp only[aE] at I;obtain⟨hi,N,b,cap,hb,e⟩:=I;have J:=J rfl;simp_all[Value.cells]
theorem aUf(Y:eO P T)(hg:Good M w0 c h w){t:TypeId}{x ix:AV}{v iv:Value}(hv:aG c w x v)(hi:aG c w ix iv)(hc:(aDM T h t x ix).1) :
  ∃u,(Instr.indexAt t v iv).run P w= .ok u w∧aG c w (aDM T h t x ix).2 u:=by
 unfold aDM at hc ⊢;cases hix:tL ix with
 | none=>simp_all
 | some i =>
  obtain⟨k,rfl⟩:=qH hi hix;simp only[hix] at hc ⊢;cases x with
  | val tx xs =>
   cases tx with
   | sl J =>
    simp only at hc ⊢;obtain⟨a,len,cap,rfl,hs⟩:=vR hv.toV;exact aH4 Y hc.1 hs hc.2.1 hc.2.2
   | _=>simp_all
  | full J xs =>
   simp only at hc ⊢;obtain⟨a,n,rfl,hs⟩:=aNF hv;exact aH4 Y hc.1 hs hc.2.1 hc.2.2
  | own j =>
   obtain⟨hj,rfl⟩:=sO hv;simp only at hc ⊢;cases ho:h[j]? with
   | none=>simp_all
   | some o =>
    have hob:=hg.objs j o ho;cases o with
    | row e J xs =>
     simp only[ho] at hc ⊢;obtain⟨ht,h0,h1⟩:=hc;obtain⟨e',hd,he,U⟩:=cO (Y _ _ ht);obtain⟨vals,N,_⟩:=hob;obtain⟨hlen,hvv⟩:=N;rcases hvv with⟨I,h00⟩|⟨g,cap,cur,I,_,hheap,hle,hcap,hsz,htake⟩
     ·omega
     ·have hlt:i<(xs.length:Int):=h1;refine⟨.pointer (some ⟨g,gD [.idx J.cells i.toNat],none⟩),?_,aCc hj (by rw[I]; rfl)⟩;rw[I];simp[Instr.indexAt,asIntOf,aI hd,h0,hlt,cE (Y _ _ he),Result.andThen,lK,gD,Step.off]
    | tre e m J xs =>
     simp only[ho] at hc ⊢;obtain⟨ht,h0,h1⟩:=hc;obtain⟨e',hd,he,U⟩:=cO (Y _ _ ht);obtain⟨B,⟨vv,css,Bs,hvv0,N,_⟩,_⟩:=hob;obtain rfl:c.hd j=vv:=(List.cons.inj hvv0).1;obtain⟨hlen,hvv⟩:=N;rcases hvv with⟨I,h00⟩|⟨g,cap,cur,I,_,hheap,hle,hcap,hsz,htake⟩
     ·omega
     ·have hlt:i<(xs.length:Int):=h1;refine⟨.pointer (some ⟨g,gD [.idx J.cells i.toNat],none⟩),?_,aCc hj (by rw[I]; rfl)⟩;rw[I];simp[Instr.indexAt,asIntOf,aI hd,h0,hlt,cE (Y _ _ he),Result.andThen,lK,gD,Step.off]
    | trh e m J xs kk vk =>
     simp only[ho] at hc ⊢;obtain⟨ht,h0,h1⟩:=hc;obtain⟨e',hd,he,U⟩:=cO (Y _ _ ht);obtain⟨css,Bs,hq⟩:=hob;have N:=hq.row;obtain⟨hlen,hvv⟩:=N;rcases hvv with⟨I,h00⟩|⟨g,cap,cur,I,_,hheap,hle,hcap,hsz,htake⟩
     ·omega
     ·have hlt:i<(xs.length:Int):=h1;refine⟨.pointer (some ⟨g,gD [.idx J.cells i.toNat],none⟩),?_,aCc hj (by rw[I]; rfl)⟩;rw[I];simp[Instr.indexAt,asIntOf,aI hd,h0,hlt,cE (Y _ _ he),Result.andThen,lK,gD,Step.off]
    | frz J xs =>
     simp only[ho] at hc ⊢;obtain⟨a,len,cap,e,hs⟩:=hob;simp at e;rw[e];exact aH4 Y hc.1 hs hc.2.1 hc.2.2
    | _=>simp_all
  | sub j s off n =>
   obtain⟨hj,hn,b,cap,hb,rfl⟩:=aLF hv;simp only at hc ⊢;cases ho:h[j]? with
   | none=>simp_all
   | some o =>
    cases o with
    | row e J xs =>
     simp only[ho] at hc ⊢;obtain⟨ht,rfl,h0,h1⟩:=hc;obtain⟨e',hd,he,U⟩:=cO (Y _ _ ht);refine⟨.pointer (some ⟨b,gD [.idx J.cells (off+i.toNat)],none⟩),?_,aCc hj hb⟩;have e1:off*J.cells+i.toNat*J.cells=(off+i.toNat)*J.cells:=(Nat.add_mul _ _ _).symm;simp[Instr.indexAt,asIntOf,aI hd,h0,h1,cE (Y _ _ he),Result.andThen,lK,gD,Step.off,e1]
    | _=>simp_all
  | ptr j p =>
   obtain⟨hj,b,hb,rfl⟩:=zT hv;simp only at hc ⊢;cases ht:T t with
   | none=>simp_all
   | some J =>
    cases J with
    | arr n J =>
     simp only[ht] at hc ⊢;obtain⟨e,hd,he,U,hn⟩:=vS (Y _ _ ht);refine⟨.pointer (some ⟨b,gD (p++ [.idx J.cells i.toNat]),none⟩),?_,aCc hj hb⟩;simp[Instr.indexAt,asIntOf,aI hd,hc.1,hc.2,cE (Y _ _ he),Result.andThen,lK,zV,gD,Step.off,Instr.sureAddr]
    | _=>simp_all
  | roa tx xs =>
   cases tx with
   | arr n J =>
    simp only at hc ⊢;obtain⟨ht,h0,h1⟩:=hc;obtain⟨e,hd,he,U,hn⟩:=vS (Y _ _ ht);obtain⟨b,off,ds,rfl,hb,hrep,hcell⟩:=aHC hv;obtain⟨pre,ds',post,e1,hp,hd'⟩:=aEW (c:=c) (.val (.arr n J) xs) i.toNat ds hrep (by grind[elemOf]);refine⟨.pointer (some ⟨b,off+i.toNat*J.cells,none⟩),?_,zU hb hd' ?_⟩
    ·simp[Instr.indexAt,asIntOf,aI hd,h0,h1,cE (Y _ _ he),Result.andThen,lK,Instr.sureAddr]
    ·have:=uU hcell e1;rw[hp] at this; exact this
   | _=>simp_all
  | _=>simp_all
theorem jN(s:ByteArray):(eI s).length=s.size:=by
 obtain⟨⟨l⟩⟩:=s; simp[eI,ByteArray.size]
theorem aUg(s:ByteArray){i:Nat}(h:i<s.size):(eI s).getD i 0=s[i].toNat:=by
 obtain⟨⟨l⟩⟩:=s;have h':i<l.length:=h;simp only[eI,List.getD_eq_getElem?_getD,List.getElem?_map];rw[List.getElem?_eq_getElem h'];rfl
theorem aUh(N:eO P T){t:TypeId}{x ix:AV}{v iv:Value}(hv:aG c w x v)(hi:aG c w ix iv)(hc:(aDN T t x ix).1) :
  ∃u,(Instr.index t v iv).run P w= .ok u w∧aG c w (aDN T t x ix).2 u:=by
 unfold aDN at hc ⊢;cases I:tL ix with
 | none=>simp_all
 | some i =>
  obtain⟨k,rfl⟩:=qH hi I;simp only[I] at hc ⊢;cases x with
  | val tx xs =>
   cases tx with
   | arr n ct =>
    simp only at hc ⊢;obtain⟨ht,Y,h1⟩:=hc;obtain⟨e,hd,he,hpos,hn⟩:=vS (N _ _ ht);obtain⟨hr,h2,_⟩:=hv;obtain⟨cs,rfl⟩:=h2 rfl;obtain⟨pre,ds',post,e1,hp,hd'⟩:=aEW (c:=c) (.val (.arr n ct) xs) i.toNat _ hr (by grind[elemOf]);obtain⟨u,hu,U⟩:=wB (N _ _ he) e1 hd' w;rw[hp] at hu;simp only[aKR,Value.cells] at hu;refine⟨u,?_,aG.ofV U⟩;simp[Instr.index,asIntOf,aI hd,Y,h1,cE (N _ _ he),Result.andThen,hu]
   | str =>
    simp only at hc ⊢;obtain⟨ht,Y,h1⟩:=hc;have hd:=pI (N _ _ ht);obtain⟨s,rfl,rfl,hs⟩:=aF6 hv;rw[jN] at h1;have J:i.toNat<s.size:=(by omega);refine⟨.int .u8 (s[i.toNat].toNat:Int),?_,?_⟩
    ·simp[Instr.index,asIntOf,aI hd,Y,getElem?_pos,J]
    ·rw[aUg s J]; exact aCw rfl (by simp[eM,IntKind.bits]; exact s[i.toNat].toNat_lt)
   | _=>simp_all
  | _=>simp_all
theorem aH5:(maxLen:Int)=IntKind.max .i64:=by rfl
theorem kH{n:Nat}(h:n≤maxLen):fits .i64 (n:Int):=by
 refine⟨?_,by grind[aH5]⟩;simp[IntKind.min,IntKind.signed,IntKind.bits]
theorem aZC(hT:eO P T)(hg:Good M w0 c h w){t ty:TypeId}{x:AV}{v:Value}(hv:aG c w x v)(hc:(aBh T h t x).1) :
  ∃u,(Builtin.len_ #[t] ty #[v]).run P w= .ok u w∧aG c w (aBh T h t x).2 u:=by
 cases x with
 | val tx xs =>
  cases tx with
  | str =>
   simp only[aBh] at hc ⊢;obtain⟨s,rfl,rfl,hs⟩:=aF6 hv;exact⟨.int .i64 s.size,by simp[Builtin.len_,aI (pI (hT _ _ hc)),goInt],by rw[jN]; exact rT rfl (kH hs)⟩
  | sl ct =>
   simp only[aBh] at hc ⊢;obtain⟨e,hd,_⟩:=cO (hT _ _ hc);obtain⟨a,len,N,rfl,hl,hle,J,_⟩:=vR hv.toV;exact⟨.int .i64 len,by simp[Builtin.len_,aI hd,goInt],by rw[hl]; exact rT rfl (kH (by omega))⟩
  | arr n ct =>
   simp only[aBh] at hc ⊢;obtain⟨e,hd,_,_,_,hn⟩:=vS (hT _ _ hc);exact⟨.int .i64 n,by simp[Builtin.len_,aI hd,goInt],rT rfl (kH (by unfold maxLen; omega))⟩
  | _=>exact hc.elim
 | full ct xs =>
  simp only[aBh] at hc ⊢;obtain⟨e,hd,_⟩:=cO (hT _ _ hc);obtain⟨a,n,rfl,hl,hle,J,_⟩:=aNF hv;exact⟨.int .i64 n,by simp[Builtin.len_,aI hd,goInt],by rw[hl]; exact rT rfl (kH (by omega))⟩
 | nilS =>
  simp only[aBh] at hc ⊢;obtain⟨ct,hc⟩:=hc;obtain⟨e,hd,_⟩:=cO (hT _ _ hc);obtain⟨h1,_,h3⟩:=hv;simp only[aE] at h1;have h3:=h3 rfl;have:v= .slice none 0 0:=by simp_all[Value.cells]
  subst this;exact⟨.int .i64 0,by simp[Builtin.len_,aI hd,goInt],rT rfl (kH (Nat.zero_le _))⟩
 | sub j s off n =>
  obtain⟨hj,hn,b,N,hb,rfl⟩:=aLF hv;simp only[aBh] at hc ⊢;obtain⟨ct,hc⟩:=hc;obtain⟨e,hd,_⟩:=cO (hT _ _ hc);exact⟨.int .i64 n,by simp[Builtin.len_,aI hd,goInt],rT rfl (kH hn)⟩
 | own j =>
  obtain⟨hj,rfl⟩:=sO hv;simp only[aBh] at hc ⊢;cases ho:h[j]? with
  | none=>simp_all
  | some o =>
   have hob:=hg.objs j o ho;cases o with
   | row e ct xs =>
    simp only[ho] at hc ⊢;obtain⟨e',hd,he,U⟩:=cO (hT _ _ hc);obtain⟨vals,⟨hlen,hvv⟩,_⟩:=hob;rcases hvv with⟨I,Y⟩|⟨g,N,cur,I,_,hheap,hle,J,hsz,htake⟩
    ·rw[I,Y];exact⟨.int .i64 0,by simp[Builtin.len_,aI hd,goInt],rT rfl (kH (Nat.zero_le _))⟩
    ·rw[I];exact⟨.int .i64 xs.length,by simp[Builtin.len_,aI hd,goInt],rT rfl (kH (by omega))⟩
   | tre e m ct xs =>
    simp only[ho] at hc ⊢;obtain⟨e',hd,he,U⟩:=cO (hT _ _ hc);obtain⟨B,⟨vv,css,Bs,hvv0,⟨hlen,hvv⟩,_⟩,_⟩:=hob;obtain rfl:c.hd j=vv:=(List.cons.inj hvv0).1;rcases hvv with⟨I,Y⟩|⟨g,N,cur,I,_,hheap,hle,J,hsz,htake⟩
    ·rw[I,Y];exact⟨.int .i64 0,by simp[Builtin.len_,aI hd,goInt],rT rfl (kH (Nat.zero_le _))⟩
    ·rw[I];exact⟨.int .i64 xs.length,by simp[Builtin.len_,aI hd,goInt],rT rfl (kH (by omega))⟩
   | trh e m ct xs kk vk =>
    simp only[ho] at hc ⊢;obtain⟨e',hd,he,U⟩:=cO (hT _ _ hc);obtain⟨css,Bs,hq⟩:=hob;obtain⟨hlen,hvv⟩:=hq.row;rcases hvv with⟨I,Y⟩|⟨g,N,cur,I,_,hheap,hle,J,hsz,htake⟩
    ·rw[I,Y];exact⟨.int .i64 0,by simp[Builtin.len_,aI hd,goInt],rT rfl (kH (Nat.zero_le _))⟩
    ·rw[I];exact⟨.int .i64 xs.length,by simp[Builtin.len_,aI hd,goInt],rT rfl (kH (by omega))⟩
   | frz ct xs =>
    simp only[ho] at hc ⊢;obtain⟨e',hd,he,U⟩:=cO (hT _ _ hc);obtain⟨a,len,N,e,hl,hle,J,_⟩:=hob;simp at e;rw[e];exact⟨.int .i64 len,by simp[Builtin.len_,aI hd,goInt],by rw[hl]; exact rT rfl (kH (by omega))⟩
   | _=>simp_all
 | _=>exact hc.elim
theorem bAZ{op:UnOp}{x:AV}{v:Value}(hv:aG c w x v)(hc:(aPY op x).1) :
  ∃u,(Op.unary op v).run P w= .ok u w∧aG c w (aPY op x).2 u:=by
 cases x with
 | val t y =>
  cases t with
  | bool =>
   obtain rfl:=yH hv;cases op<;>simp only[aPY] at hc ⊢
   exact⟨_,rfl,wA _⟩
  | i k =>
   obtain⟨rfl,I,J⟩:=yG hv;cases op<;>simp only[aPY] at hc ⊢
   simp_all[Op.unary,Op.intArith,zM,rT]
  | u k =>
   obtain⟨rfl,I,J⟩:=aCA hv;cases op<;>simp only[aPY] at hc ⊢
   ·have hp:=vZ k;have:=aLA (P:=P) (w:=w) (c:=c) .sub 0 (a:=0) (b:=y) I hp J (by simp[aLy]);obtain⟨u,N,U⟩:=this;refine⟨u,?_,by grind[aLy,aB7,aLx]⟩
    simpa [binOp,Op.unary] using N
   ·have hp:=vZ k;have:=aLA (P:=P) (w:=w) (c:=c) .xor 0 (a:=eM k-1) (b:=y) I (by omega) J (by simp[aLy]);obtain⟨u,N,U⟩:=this;refine⟨u,?_,by grind[aLy]⟩;grind[eM,aQ8,binOp,Op.unary]
  | _=>exact hc.elim
 | _=>exact hc.elim
theorem aRj{k k':IntKind}(h:k.bits≤k'.bits):eM k≤eM k':=Nat.pow_le_pow_right (by omega) h
theorem aP0{k k':IntKind}(J:k.signed=true)(I:k'.signed=true)(h:k.bits≤k'.bits){n:Int}(N:fits k n):fits k' n:=by
 obtain⟨Y,U⟩:=N;cases k<;>simp[IntKind.signed] at J<;>cases k'<;>simp[IntKind.signed] at I<;>simp[IntKind.bits] at h<;>simp[fits,IntKind.min,IntKind.max,IntKind.signed,IntKind.bits] at Y U ⊢ <;> omega
theorem aSS{k k':IntKind}(J:k.signed=false)(I:k'.signed=true)(h:k.bits<k'.bits){n:Nat}(N:n<eM k):fits k' (n:Int):=by
 cases k<;>simp[IntKind.signed] at J<;>cases k'<;>simp[IntKind.signed] at I<;>simp[IntKind.bits] at h<;>simp[fits,IntKind.min,IntKind.max,IntKind.signed,IntKind.bits,eM] at N ⊢ <;> omega
theorem aRk(hT:eO P T){src dst:TypeId}{x:AV}{v:Value}(hv:aG c w x v)(hc:(aEX T src dst x).1) :
  ∃u,(convert src dst v).run P w= .ok u w∧aG c w (aEX T src dst x).2 u:=by
 have N:(T src).isSome=true→ ∃d,P.underlying src=some d:=fun h=>by
  obtain⟨ct,hct⟩:=Option.isSome_iff_exists.1 h;obtain⟨d,hd,_⟩:=(hT _ _ hct).desc;simp_all
 unfold aEX at hc ⊢;cases I:T dst with
 | none=>simp_all
 | some cd =>
  obtain⟨dd,U,Y⟩:=(hT _ _ I).desc;cases x with
  | val t y =>
   cases cd with
   | u k =>
    cases dd<;>simp[dM] at Y
    obtain⟨rfl,hks⟩:=Y;cases t with
    | u k0 =>
     simp only[I] at hc ⊢;obtain⟨ds,J⟩:=N hc;obtain⟨rfl,hk0,hy⟩:=aCA hv;refine⟨_,by simp[convert,aI J,aI U,Conv.intToInt]; rfl,?_⟩;rw[qC hks];split
     ·rename_i hle; rw[Nat.mod_eq_of_lt (Nat.lt_of_lt_of_le hy (aRj hle))]; grind[aCw,Nat.lt_of_lt_of_le,aRj]
     ·exact aCw hks (Nat.mod_lt _ (vZ _))
    | i k0 =>
     simp only[I] at hc ⊢;obtain⟨ds,J⟩:=N hc;obtain⟨rfl,hk0,hy⟩:=yG hv;refine⟨_,by simp[convert,aI J,aI U,Conv.intToInt]; rfl,?_⟩;rw[aPS hks];have hp:=vZ k;have h1:=Int.emod_nonneg y (show (eM k:Int)≠0 by omega);have h2:=Int.emod_lt_of_pos y (show (0:Int)<eM k by omega);grind[aCw,eM,Int.toNat_of_nonneg]
    | _=>simp_all
   | i k =>
    cases dd<;>simp[dM] at Y
    obtain⟨rfl,hks⟩:=Y;cases t with
    | u k0 =>
     simp only[I] at hc ⊢;obtain⟨ds,J⟩:=N hc;obtain⟨rfl,hk0,hy⟩:=aCA hv;refine⟨_,by simp[convert,aI J,aI U,Conv.intToInt]; rfl,?_⟩;grind[aSS,zM,rT,vQ]
    | i k0 =>
     simp only[I] at hc ⊢;obtain⟨ds,J⟩:=N hc;obtain⟨rfl,hk0,hy⟩:=yG hv;refine⟨_,by simp[convert,aI J,aI U,Conv.intToInt]; rfl,?_⟩;grind[aP0,zM,rT,vQ]
    | _=>simp_all
   | str =>
    cases dd<;>simp[dM] at Y
    cases t with
    | str =>
     simp only[I] at hc ⊢;obtain⟨s,rfl,rfl,hs⟩:=aF6 hv;exact⟨_,by simp[convert,aI (pI (hT _ _ hc)),aI U],aW9 hs⟩
    | _=>simp_all
   | _=>simp_all
  | _=>simp_all
theorem aRl(op:BinOp)(t:TypeId){k k':IntKind}{a:Nat}{b:Int}(J:k.signed=false)(I:a<eM k)(N:0≤b)(h:(shU op k a b.toNat).1) :
  ∃v,(binOp op t (.int k a) (.int k' b)).run P w= .ok v w∧aG c w (shU op k a b.toNat).2 v:=by
 have:=aPT (P:=P) (w:=w) (c:=c) op t (k:=k) (k':=k') (a:=a) (n:=b.toNat) J I h;grind
theorem aRm(op:BinOp)(t:TypeId){k k':IntKind}{a b:Int}(J:k.signed=true)(I:fits k a)(N:0≤b)(U:op= .shl→b≤k.bits)(h:(shI op k a b.toNat).1) :
  ∃v,(binOp op t (.int k a) (.int k' b)).run P w= .ok v w∧aG c w (shI op k a b.toNat).2 v:=by
 have:=aPU (P:=P) (w:=w) (c:=c) op t (k:=k) (k':=k') (a:=a) (n:=b.toNat) J I (fun e=>by simp_all) h;grind
theorem aNG(a b:ByteArray):eI (a++b)=eI a++eI b:=by
 grind[List.map,ByteArray.data_append,eI]
theorem aRn:∀(a b:List UInt8),Op.bytesLess a b=aDH (a.map (·.toNat)) (b.map (·.toNat))
 | a,[]=>by grind[Op.bytesLess,aDH]
 | [],b::r=>by rfl
 | a::x,b::y=>by
  simp only[Op.bytesLess,List.map_cons,aDH,aRn x y];have J:decide (a<b)=decide (a.toNat<b.toNat):=by rfl
  have I:(a == b)=decide (a.toNat=b.toNat):=by rw[Bool.eq_iff_iff]; simp[UInt8.toNat_inj]
  grind
theorem aNH(s:ByteArray):eI s=s.toList.map (·.toNat):=by rw[ByteArray.toList_eq]; rfl
theorem aXi{op:BinOp}(t:TypeId){s r:ByteArray}(J:s.size≤maxLen)(U:r.size≤maxLen)(hc:(aLz op (eI s) (eI r)).1) :
  ∃u,(binOp op t (.string s) (.string r)).run P w= .ok u w∧aG c w (aLz op (eI s) (eI r)).2 u:=by
 have N:Op.bytesLess s.toList r.toList=aDH (eI s) (eI r):=by grind[aRn,aNH]
 cases op<;>simp only[aLz] at hc ⊢
 case add =>
  rw[jN,jN] at hc;have I:(s++r).size=s.size+r.size:=by simp
  refine⟨.string (s++r),?_,by grind[aNG,aW9]⟩;have:¬(((s.size+r.size:Nat):Int)>IntKind.max .i64):=by grind[aH5]
  simp_all[binOp,Op.stringOp,if_false]
 all_goals simp_all[binOp,Op.stringOp,aZv,wA]
theorem aUi(hT:eO P T){op:BinOp}{t:TypeId}{x y:AV}{v u:Value}(hv:aG c w x v)(I:aG c w y u)(hc:(rW T op t x y).1) :
  ∃r,(binOp op t v u).run P w= .ok r w∧aG c w (rW T op t x y).2 r:=by
 have J:∀(Y:Ty) (a b:Y.den) (v u:Value),Y.isAgg=true→aG c w (.val Y a) v→aG c w (.val Y b) u→T t=some Y→Y.cmpB=true→Y.deep≤100 →
   (binOp .eql t v u).run P w= .ok (.bool (Y.eqb a b)) w∧(binOp .neq t v u).run P w= .ok (.bool (!Y.eqb a b)) w:=by
  intro Y a b v u N hv I ht hcm hd;have heq:=zO hT w ht hcm hd hv.toV I.toV;obtain⟨cs,rfl⟩:=hv.2.1 N;obtain⟨cs',rfl⟩:=I.2.1 N;simp_all[binOp]
 cases x with
 | val t1 a =>
  cases t1 with
  | u k =>
   cases y with
   | val U b =>
    cases U with
    | u k' =>
     obtain⟨rfl,hk,N⟩:=aCA hv;obtain⟨rfl,hk',hb⟩:=aCA I;cases op
     case shl=>exact aPT (P:=P) .shl t hk N (by simp[shU])
     case shr=>exact aPT (P:=P) .shr t hk N (by simp[shU])
     all_goals
      simp only[rW] at hc ⊢;split at hc
      all_goals simp_all[if_true,aLA]
    | i k' =>
     obtain⟨rfl,hk,N⟩:=aCA hv;obtain⟨rfl,hk',hb⟩:=yG I;cases op<;>simp only[rW] at hc ⊢
     case shl=>exact aRl (P:=P) .shl t hk N hc (by simp[shU])
     case shr=>exact aRl (P:=P) .shr t hk N hc (by simp[shU])
    | _=>exact hc.elim
   | _=>exact hc.elim
  | i k =>
   cases y with
   | val U b =>
    cases U with
    | i k' =>
     obtain⟨rfl,hk,N⟩:=yG hv;obtain⟨rfl,hk',hb⟩:=yG I;cases op
     case shl =>
      simp_all[rW,aRm]
     case shr =>
      simp only[rW] at hc ⊢;exact aRm (P:=P) .shr t hk N hc (fun h=>by cases h) (by simp[shI])
     all_goals
      simp only[rW] at hc ⊢;split at hc
      all_goals simp_all[if_true,aXb]
    | u k' =>
     obtain⟨rfl,hk,N⟩:=yG hv;obtain⟨rfl,hk',hb⟩:=aCA I;cases op<;>simp only[rW] at hc ⊢
     case shl=>simp_all[aPU]
     case shr=>exact aPU (P:=P) .shr t hk N (fun h=>by cases h) (by simp[shI])
    | _=>exact hc.elim
   | _=>exact hc.elim
  | str =>
   cases y with
   | val U b =>
    cases U with
    | str =>
     simp only[rW] at hc ⊢;obtain⟨s,rfl,rfl,hs⟩:=aF6 hv;obtain⟨r,rfl,rfl,hr⟩:=aF6 I;simp_all[aXi]
    | _=>exact hc.elim
   | _=>exact hc.elim
  | bool =>
   cases y with
   | val U b =>
    cases U with
    | bool =>
     simp only[rW] at hc ⊢;obtain rfl:=yH hv;obtain rfl:=yH I;have heq:=zO (P:=P) (T:=T) hT w (S:=c.S) (w:=w) (x:=a) (y:=b) hc.1 rfl (by simp[Ty.deep]) hv.toV I.toV;have hc2:=hc.2;cases op<;>simp only[aXa] at hc2 ⊢
     ·exact⟨.bool (a == b),by simp only[binOp,Sem.run_bind,heq,Result.andThen_ok]; rfl,wA _⟩
     ·exact⟨.bool (a != b),by simp only[binOp,Sem.run_bind,heq,Result.andThen_ok]; rfl,wA _⟩
    | _=>exact hc.elim
   | _=>exact hc.elim
  | pair p q =>
   cases y with
   | val U b =>
    simp only[rW] at hc ⊢;by_cases e:U= .pair p q
    ·subst e;simp only[dite_true] at hc ⊢;cases op<;>simp only at hc ⊢ <;> (try exact hc.elim)
     ·exact⟨_,(J _ _ _ _ _ rfl hv I hc.1 hc.2.1 hc.2.2).1,wA _⟩
     ·exact⟨_,(J _ _ _ _ _ rfl hv I hc.1 hc.2.1 hc.2.2).2,wA _⟩
    simp_all
   | _=>exact hc.elim
  | arr n q =>
   cases y with
   | val U b =>
    simp only[rW] at hc ⊢;by_cases e:U= .arr n q
    ·subst e;simp only[dite_true] at hc ⊢;cases op<;>simp only at hc ⊢ <;> (try exact hc.elim)
     ·exact⟨_,(J _ _ _ _ _ rfl hv I hc.1 hc.2.1 hc.2.2).1,wA _⟩
     ·exact⟨_,(J _ _ _ _ _ rfl hv I hc.1 hc.2.1 hc.2.2).2,wA _⟩
    simp_all
   | _=>exact hc.elim
  | _=>exact hc.elim
 | _=>exact hc.elim
end
end Go.Vc
namespace Go.Vc
open Go.RowKit
section
variable {P:Program} {T:Tab} {M:Perm} {w0:World} {c:Ctx} {h:List Obj} {w:World}
theorem cZ{i:Int}{k:IntKind}{y:Nat}{I:BoundsCode}(N:0≤i)(J:i≤(y:Int)):(Instr.sliceBound (.int k i) y I).run P w= .ok i.toNat w:=by
 simp[Instr.sliceBound,asIntOf,N,J]
inductive aC7(c:Ctx)(w:World):Option AV→Option Value→Prop where
 | none:aC7 c w none none
 | some {a:AV} {v:Value} (h:aG c w a v):aC7 c w (some a) (some v)
theorem sD{o:Option AV}{v:Option Value}(hv:aC7 c w o v){i:Int}(hi:o.map tL=some (some i)):∃k,v=some (.int k i):=by
 cases hv with
 | none=>cases hi
 | some hv =>
  simp at hi;obtain⟨k,rfl⟩:=qH hv hi;simp_all
theorem kI{o:Option AV}{v:Option Value}(hv:aC7 c w o v)(hi:o.map tL=none):v=none:=by
 cases hv with
 | none=>rfl
 | some hv=>grind
theorem aLG(s:ByteArray)(l n:Nat):eI (s.extract l n)=((eI s).take n).drop l:=by
 obtain⟨⟨x⟩⟩:=s;simp only[eI,ByteArray.data_extract,List.extract_toArray,List.extract_eq_take_drop];simp[List.map_take,List.map_drop,List.drop_take]
theorem aCe{t:TypeId}(hd:P.underlying t=some .string){s:ByteArray}(I:s.size≤maxLen){lo hi:Option Value}{l u:Nat}
  (hb:(Instr.sliceBounds false s.size s.size lo hi none).run P w= .ok (l,u,s.size) w) :
  (Instr.sliceAt t (.string s) lo hi none).run P w= .ok (.string (s.extract l u)) w∧aG c w (.val .str (((eI s).take u).drop l)) (.string (s.extract l u)):=by
 refine⟨by simp[Instr.sliceAt,Instr.slice,aI hd,hb],?_⟩;rw[← aLG];refine aW9 ?_;have:(s.extract l u).size≤s.size:=by simp; omega
 omega
theorem yJ{t e:TypeId}{I:Ty}(hd:P.underlying t=some (.slice e))(he:uT P T e I){xs:List I.den}{a:Option Addr}{len cap:Nat}(hs:SlR w c.S (aJ w c.S I) I.cells xs a len cap){lo hi mx:Option Value}{l u m:Nat}
  (hb:(Instr.sliceBounds true len cap lo hi mx).run P w= .ok (l,u,m) w) (h1:l≤u) (h2:u≤len) (h3:u≤m) (h4:m≤cap) :
  ∃U ,(Instr.sliceAt t (.slice a len cap) lo hi mx).run P w= .ok (.slice U (u-l) (m-l)) w∧SlR w c.S (aJ w c.S I) I.cells ((xs.take u).drop l) U (u-l) (m-l):=by
 refine⟨if m=l then a else a.map (·.add (l*I.cells)),by simp[Instr.sliceAt,Instr.slice,aI hd,hb,cE he],?_⟩;obtain⟨hl,hle,Y,hx⟩:=hs;refine⟨by grind,by omega,by omega,?_⟩;rcases hx with hx|⟨b,off,rfl,J,hcell⟩
 ·simp_all
 ·by_cases N:m=l
  ·simp_all
  ·right
   refine⟨b,off+l*I.cells,by simp[N,lK],J,fun i hi=>?_⟩;have hi':l+i<xs.length:=(by grind);grind
theorem Good.frz(N:Good M w0 c h w):Good M w0 c (h.map cL) w:=by
 have hget:∀i:Nat,(h.map cL)[i]? = (h[i]?).map cL:=fun i=>by simp
 have J:∀(i:Nat) (o:Obj),(h.map cL)[i]? = some o→o= .dead∨h[i]? = some o:=fun i o I=>by
  rw[hget] at I;cases hi:h[i]? with
  | none=>simp_all
  | some o' =>
   rw[hi] at I;simp only[Option.map_some,Option.some.injEq] at I;cases o'<;>simp only[cL] at I<;>subst I<;>first|simp_all|simp_all
 refine⟨by rw[N.n]; simp,N.keeps,N.sfin,N.src,fun i o I=>?_,fun i o b I hb=>?_,fun i j oi oj b hi hj U Y=>?_,N.root⟩
 ·rcases J i o I with rfl|I
  ·trivial
  ·exact N.objs i o I
 ·rcases J i o I with rfl|I
  ·simp[cM] at hb
  ·exact N.own i o b I hb
 ·rcases J i oi hi with rfl|hi
  ·simp[cM] at U
  ·rcases J j oj hj with rfl|hj
   ·simp[cM] at Y
   ·exact N.sep i j oi oj b hi hj U Y
theorem aE0(b:Nat)(hb:xG c (h.map cL) b):c.S b:=by
 rcases hb with hb|⟨i,J,I,hb⟩
 ·exact hb
 ·simp only[List.getElem?_map] at I;cases hi:h[i]? with
  | none=>simp_all
  | some o=>rw[hi] at I; simp only[Option.map_some,Option.some.injEq] at I; subst I; cases o<;>simp[cL,cM] at hb
theorem aNI{av:AV}{v:Value}{t:Ty}{x:t.den}(hv:aG c w av v)(I:AV.as h t av=some x):aE c w av v.cells.toList∧(av.isAgg=true→ ∃cs,v= .agg cs)∧(av.isAgg=false→ ∀cs,v≠ .agg cs):=by
 cases av with
 | junk=>grind[AV.as]
 | undef=>grind[AV.as]
 | tup J=>grind[AV.as]
 | _=>exact hv
theorem aCf(Y:Good M w0 c h w){av:AV}{v:Value}{t:Ty}{x:t.den}(hv:aG c w av v)(I:AV.as h t av=some x):bR w (xG c h) t x v:=by
 obtain⟨N,J,U⟩:=aNI hv I;grind[aY3,bR.of_cells]
theorem nD(I:Good M w0 c h w){av:AV}{v:Value}{t:Ty}{x:t.den}(hv:aG c w av v)(J:AV.as (h.map cL) t av=some x):bR w c.S t x v :=
 (aCf I.frz hv J).keep aE0 (.refl _ _)
theorem aUj(hT:eO P T)(hg:Good M w0 c h w){t:TypeId}{x:AV}{v:Value}{lo hi mx:Option AV}{lv hv mv:Option Value}(hx:aG c w x v)(N:aC7 c w lo lv)(J:aC7 c w hi hv)(hmx:aC7 c w mx mv)(hc:(aDO T h t x lo hi mx).1) :
  ∃u,(Instr.sliceAt t v lv hv mv).run P w= .ok u w∧aG c w (aDO T h t x lo hi mx).2 u:=by
 unfold aDO at hc ⊢;cases ht:T t with
 | none=>simp_all
 | some ct =>
  cases ct with
  | str =>
   simp only[ht] at hc ⊢;have hd:=pI (hT _ _ ht);split at hc
   ·rename_i s;cases hmx;obtain⟨s,rfl,rfl,hs⟩:=aF6 hx;have I:=jN s;split at hc
    ·rename_i Y U;obtain rfl:=kI N Y;obtain rfl:=kI J U;have:=aCe (c:=c) (w:=w) hd hs (lo:=none) (hi:=none) (l:=0) (u:=s.size) (by rfl);simp_all
    ·rename_i l Y U;obtain⟨k,rfl⟩:=sD N Y;obtain rfl:=kI J U;rw[I] at hc;have:=aCe (c:=c) (w:=w) hd hs (lo:=some (.int k l)) (hi:=none) (l:=l.toNat) (u:=s.size) (by simp[Instr.sliceBounds,cZ hc.1 hc.2]);grind
    ·rename_i u Y U;obtain rfl:=kI N Y;obtain⟨k,rfl⟩:=sD J U;rw[I] at hc;have:=aCe (c:=c) (w:=w) hd hs (lo:=none) (hi:=some (.int k u)) (l:=0) (u:=u.toNat) (by simp[Instr.sliceBounds,cZ hc.1 hc.2]);simp_all
    ·rename_i l u Y U;obtain⟨k,rfl⟩:=sD N Y;obtain⟨k',rfl⟩:=sD J U;rw[I] at hc;obtain⟨h0,h1,h2⟩:=hc;have:=aCe (c:=c) (w:=w) hd hs (lo:=some (.int k l)) (hi:=some (.int k' u)) (l:=l.toNat) (u:=u.toNat) (by simp[Instr.sliceBounds,cZ (P:=P) (w:=w) (show 0≤u by omega) h2,cZ (P:=P) (w:=w) (i:=l) (y:=u.toNat) h0 (by omega)]);simp_all
    simp_all
   simp_all
  | sl ct =>
   simp only[ht] at hc ⊢;obtain⟨e,hd,he,hpos⟩:=cO (hT _ _ ht);have hTe:=hT _ _ he;cases hl:aPZ h ct x with
   | none=>simp_all
   | some xs =>
    simp only[hl] at hc ⊢;obtain⟨a,len,cap,rfl,hs⟩:=vR (nD hg hx hl);have I:=hs.1;have hle:=hs.2.1;have mk:∀ {ys:List ct.den} {a':Option Addr} {n m:Nat},SlR w c.S (aJ w c.S ct) ct.cells ys a' n m→aG c w (.val (.sl ct) ys) (.slice a' n m):=fun hs'=>⟨⟨_,_,_,rfl,hs'⟩,(fun h=>by cases h),(fun _ cs=>by simp)⟩;have mkF:∀ {ys:List ct.den} {a':Option Addr} {n m:Nat},SlR w c.S (aJ w c.S ct) ct.cells ys a' n m→m=n→aG c w (.full ct ys) (.slice a' n m):=fun hs' e=>(by subst e; exact⟨⟨_,_,rfl,hs'⟩,(fun h=>by cases h),(fun _ cs=>by simp)⟩);split at hc
    ·rename_i Y U e3;obtain rfl:=kI N Y;obtain rfl:=kI J U;obtain rfl:=kI hmx e3;obtain⟨a',h1,h2⟩:=yJ (w:=w) hd hTe hs (lo:=none) (hi:=none) (mx:=none) (l:=0) (u:=len) (m:=cap) (by rfl) (Nat.zero_le _) (Nat.le_refl _) hle (Nat.le_refl _);grind
    ·rename_i l Y U e3;obtain⟨k,rfl⟩:=sD N Y;obtain rfl:=kI J U;obtain rfl:=kI hmx e3;rw[I] at hc;obtain⟨a',h1,h2⟩:=yJ (w:=w) hd hTe hs (lo:=some (.int k l)) (hi:=none) (mx:=none) (l:=l.toNat) (u:=len) (m:=cap) (by simp[Instr.sliceBounds,cZ hc.1 hc.2]) (by omega) (Nat.le_refl _) hle (Nat.le_refl _);grind
    ·rename_i u Y U e3;obtain rfl:=kI N Y;obtain⟨k,rfl⟩:=sD J U;obtain rfl:=kI hmx e3;rw[I] at hc;obtain⟨a',h1,h2⟩:=yJ (w:=w) hd hTe hs (lo:=none) (hi:=some (.int k u)) (mx:=none) (l:=0) (u:=u.toNat) (m:=cap) (by simp[Instr.sliceBounds,cZ (P:=P) (w:=w) (y:=cap) hc.1 (by omega)]) (by omega) (by omega) (by omega) (Nat.le_refl _);simp_all
    ·rename_i l u Y U e3;obtain⟨k,rfl⟩:=sD N Y;obtain⟨k',rfl⟩:=sD J U;obtain rfl:=kI hmx e3;rw[I] at hc;obtain⟨h0,h1,h2⟩:=hc;obtain⟨a',h1,h2⟩:=yJ (w:=w) hd hTe hs (lo:=some (.int k l)) (hi:=some (.int k' u)) (mx:=none) (l:=l.toNat) (u:=u.toNat) (m:=cap) (by simp[Instr.sliceBounds,cZ (P:=P) (w:=w) (i:=u) (y:=cap) (by omega) (by omega),cZ (P:=P) (w:=w) (i:=l) (y:=u.toNat) h0 (by omega)]) (by omega) (by omega) (by omega) (Nat.le_refl _);simp_all
    ·rename_i u m Y U e3;obtain rfl:=kI N Y;obtain⟨k,rfl⟩:=sD J U;obtain⟨k',rfl⟩:=sD hmx e3;rw[I] at hc;obtain⟨h0,h1,rfl⟩:=hc;obtain⟨a',h1,h2⟩:=yJ (w:=w) hd hTe hs (lo:=none) (hi:=some (.int k m)) (mx:=some (.int k' m)) (l:=0) (u:=m.toNat) (m:=m.toNat) (by simp[Instr.sliceBounds,cZ (P:=P) (w:=w) (i:=m) (y:=cap) (by omega) (by omega),cZ (P:=P) (w:=w) (i:=m) (y:=m.toNat) h0 (by omega)]) (by omega) (by omega) (by omega) (by omega);grind
    ·rename_i l u m Y U e3;obtain⟨k,rfl⟩:=sD N Y;obtain⟨k',rfl⟩:=sD J U;obtain⟨k'',rfl⟩:=sD hmx e3;rw[I] at hc;obtain⟨h0,h1,h2,rfl⟩:=hc;obtain⟨a',h1,h2⟩:=yJ (w:=w) hd hTe hs (lo:=some (.int k l)) (hi:=some (.int k' m)) (mx:=some (.int k'' m)) (l:=l.toNat) (u:=m.toNat) (m:=m.toNat) (by simp[Instr.sliceBounds,cZ (P:=P) (w:=w) (i:=m) (y:=cap) (by omega) (by omega),cZ (P:=P) (w:=w) (i:=m) (y:=m.toNat) (by omega) (by omega),cZ (P:=P) (w:=w) (i:=l) (y:=m.toNat) h0 (by omega)]) (by omega) (by omega) (by omega) (by omega);grind
    simp_all
  | _=>simp_all
end
end Go.Vc
namespace Go.Vc
open Go.RowKit
section
variable {P:Program} {T:Tab} {M:Perm} {w0:World} {c:Ctx} {h:List Obj} {w:World}
theorem zW{w w':World}{B:Nat}{e:TypeId}{sz:Nat}{v:Value}{n:Nat}{I:List Value}(hb:∀b,aH v=some b→w'.heap[b]? = w.heap[b]?)(h:w.ownsRow B e sz v n I):w'.ownsRow B e sz v n I:=by
 obtain⟨h1,U⟩:=h;refine⟨h1,U.imp id ?_⟩;rintro⟨g,N,J,rfl,hB,Y,r⟩;exact⟨g,N,J,rfl,hB,by rw[hb g rfl]; exact Y,r⟩
theorem fQ.keep{w w':World}{S S':Nat→Prop}(hs:∀b,S b→S' b)(h:pZ S w w'):∀(t:Ty) (m:Mk) (x:t.den) (cs:List Value) (B:List Nat),(∀b∈B,w'.heap[b]? = w.heap[b]?)→fQ w S t m x cs B→fQ w' S' t m x cs B:=by
 intro t;have J:∀(t:Ty) (x:t.den) (cs:List Value) (B:List Nat),aJ w S t x cs∧B= []→aJ w' S' t x cs∧B= []:=fun t x cs B ⟨Y,U⟩=>⟨aJ.keep hs h t x cs Y,U⟩
 induction t with
 | sl t ih =>
  intro m xs cs B N I;cases m with
  | no=>exact J _ _ _ _ I
  | sl e m =>
   obtain⟨v,css,Bs,Y,U,h3,h4,h5,h6⟩:=I;subst h5;refine⟨v,css,Bs,Y,zW (fun b hb=>N b (by simp[hdB,hb])) U,h3,h4,rfl,fun i q1 q2 q3=>ih m _ _ _ (fun b hb=>N b ?_) (h6 i q1 q2 q3)⟩;grind[List.mem_append_right,List.mem_flatten,List.getElem_mem]
  | pair a b=>exact I.elim
 | pair a r iha ihr =>
  intro m x cs B N I;cases m with
  | no=>exact J _ _ _ _ I
  | sl e m=>exact I.elim
  | pair ma mr =>
   obtain⟨c1,c2,B1,B2,Y,U,h3,h4⟩:=I;subst U;exact⟨c1,c2,B1,B2,Y,rfl,iha _ _ _ _ (fun b hb=>N b (List.mem_append_left _ hb)) h3,ihr _ _ _ _ (fun b hb=>N b (List.mem_append_right _ hb)) h4⟩
 | _ =>
  intro m x cs B N I;cases m<;>first|exact J _ _ _ _ I|exact I.elim
theorem aQ7.keep{c c':Ctx}{w w':World}{i:Nat}{e:TypeId}{m:Mk}{t:Ty}{xs:List t.den}{k:Nat}{v:AV}{css:List (List Value)}{Bs:List (List Nat)}(U:bW c w c' w')(J:c'.hd i=c.hd i)(hbl:c'.bl i=c.bl i)(hb:∀b,c.bl i b→w'.heap[b]? = w.heap[b]?)(I:aQ7 c w i e m t xs k v css Bs):aQ7 c' w' i e m t xs k v css Bs:=by
 refine⟨?_,I.lc,I.lb,I.kl,fun j h Y h2 hne=>fQ.keep U.le.S U.same _ _ _ _ _ (fun b N=>hb b (I.bl b ?_)) (I.el j h Y h2 hne),I.hb,fun Y=>⟨aE.keep U.le U.same _ _ (I.hv Y).1,(I.hv Y).2⟩,by rw[J]; exact I.nd,by rw[J,hbl]; exact I.bl⟩
 ·rw[J]; exact zW (fun b N=>hb b (I.bl b (by simp[hdB,N]))) I.row
 grind[List.mem_append_right,List.mem_flatten,List.getElem_mem]
theorem zL.keep{c c':Ctx}{w w':World}{i:Nat}{o:Obj}(I:bW c w c' w')(hi:i<c.n)(hbl:c'.bl i=c.bl i)(hb:∀b,cM c i o b→w'.heap[b]? = w.heap[b]?)(N:zL c w i o):zL c' w' i o:=by
 have J:=I.le.hd i hi;cases o with
 | dead=>trivial
 | box n v =>
  obtain⟨b,cells,e,h1,h2,h3,h4⟩:=N;exact⟨b,cells,e,by simp_all,by grind[cM,aH],h3,aE.keep I.le I.same _ _ h4⟩
 | row e t xs =>
  obtain⟨vals,h1,h2⟩:=N;refine⟨vals,?_,aJ.keep I.le.S I.same _ _ _ h2⟩;rw[J];exact zW (fun b U=>hb b U) h1
 | frz t xs=>simp only[zL] at *; rw[J]; exact aJ.keep I.le.S I.same _ _ _ N
 | map k v m =>
  obtain⟨b,es,clock,h1,h2,h3,h4⟩:=N;exact⟨b,es,clock,by simp_all,by grind[cM,aH],h3,fun j hj Y=>⟨(h4 j hj Y).1.keep I.le.S I.same,(h4 j hj Y).2.keep I.le.S I.same⟩⟩
 | tre e m t xs =>
  obtain⟨B,h1,h2,h3⟩:=N;exact⟨B,by rw[J]; exact fQ.keep I.le.S I.same _ _ _ _ _ (fun b U=>hb b (h3 b U)) h1,h2,by simp_all⟩
 | trh e m t xs k v =>
  obtain⟨css,Bs,N⟩:=N;exact⟨css,Bs,N.keep I J hbl hb⟩
theorem cX{c c':Ctx}(J:c.le c'){i:Nat}(I:c'.bl i=c.bl i)(hi:i<c.n)(o:Obj):cM c' i o=cM c i o:=by
 funext b;cases o<;>simp[cM,J.hd i hi,I]
theorem qJ{h:List Obj}{i:Nat}{o:Obj}(I:h[i]? = some o):i<h.length:=by
 grind
theorem Good.step(U:Good M w0 c h w){c':Ctx}{w':World}(hl:bW c w c' w')(hn:c'.n=c.n)(N:c'.bl=c.bl)(hk:bG M.wr w w')(hb:∀i o b,h[i]? = some o→cM c i o b→w'.heap[b]? = w.heap[b]?)
  (hs:∀b,c'.S b→b<w'.heap.size) (hd:∀b,c'.S b→c.S b∨w.heap.size≤b):Good M w0 c' h w':=by
 have I:∀i o,h[i]? = some o→i<c.n:=fun i o Y=>by rw[U.n]; grind
 refine⟨by rw[hn,U.n],U.keeps.trans hk,hs,fun b hb I=>(hd b hb).elim (fun hb=>U.src b hb I) (fun hb=>absurd hb (Nat.not_le_of_lt (Nat.lt_of_lt_of_le I U.keeps.size))),fun i o Y=>(U.objs i o Y).keep hl (I i o Y) (congrFun N i) (fun b J=>hb i o b Y J),fun i o b Y J=>?_,fun i j oi oj b hi hj hbi hbj=>?_,sN U.root hl.le⟩
 ·rw[cX hl.le (congrFun N _) (I i o Y)] at J;obtain⟨h1,h2,h3⟩:=U.own i o b Y J;grind
 ·rw[cX hl.le (congrFun N _) (I i oi hi)] at hbi;rw[cX hl.le (congrFun N _) (I j oj hj)] at hbj;exact U.sep i j oi oj b hi hj hbi hbj
def Ctx.upto(c:Ctx)(lo hi:Nat):Ctx:=⟨fun b=>c.S b∨(lo≤b∧b<hi),c.hd,c.n,c.bl⟩
theorem Ctx.le_upto(c:Ctx)(lo hi:Nat):c.le (c.upto lo hi):=⟨fun b hb=>.inl hb,Nat.le_refl _,fun _ _=>rfl⟩
theorem mI(I:Good M w0 c h w){w':World}(J:bG nothing w w'):bW c w (c.upto w.heap.size w'.heap.size) w' :=
 ⟨c.le_upto _ _,fun b hb=>J.block b (I.sfin b hb) (fun f=>f)⟩
theorem bG.any{w w':World}(I:bG nothing w w'):bG M.wr w w':=⟨I.os,I.tape,I.output,I.size,fun b hb _=>I.block b hb (fun f=>f)⟩
theorem Good.call(I:Good M w0 c h w){w':World}(J:bG nothing w w'):Good M w0 (c.upto w.heap.size w'.heap.size) h w' :=
 I.step (mI I J) rfl rfl J.any (fun i o b N hb=>J.block b (I.own i o b N hb).2.1 (fun f=>f)) (fun b hb=>hb.elim (fun hb=>Nat.lt_of_lt_of_le (I.sfin b hb) J.size) (fun hb=>hb.2)) (fun b hb=>hb.imp id (fun hb=>hb.1))
theorem bG.alloc(M:Nat→Prop)(w:World)(o:Go.Obj):bG M w { w with heap:=w.heap.push o } :=
 ⟨rfl,rfl,rfl,by simp,fun b hb _=>by grind⟩
structure aBk(P:Program)(M:Perm)(w0:World)(h:List Obj)(c:Ctx)(w:World)(av:AV)(v:Value)(w':World)(c':Ctx):Prop where
 later:bW c w c' w'
 n:c'.n=c.n∧c'.bl=c.bl
 good:Good M w0 c' h w'
 keeps:bG nothing w w'
 new:∀b,c'.S b→c.S b∨w.heap.size≤b
 val:aG c' w' av v
def Did(P:Program)(M:Perm)(w0:World)(h:List Obj)(c:Ctx)(o:Oper)(a:Act)(w:World)(av:AV):Prop :=
 (∃v w' c',(execOp a.eval o).run P w= .ok (.value v) w'∧aBk P M w0 h c w av v w' c') ∨
 (∃f args,(execOp a.eval o).run P w= .ok (.enter f args) w∧Calls P f args w fun e w'=>∃v c',e= .returned v∧aBk P M w0 h c w av v w' c')
theorem Did.of_value(I:Good M w0 c h w){o:Oper}{a:Act}{av:AV}{v:Value}(J:(execOp a.eval o).run P w= .ok (.value v) w)(hv:aG c w av v):Did P M w0 h c o a w av :=
 .inl ⟨v,w,c,J,.refl _ _,⟨rfl,rfl⟩,I,.refl _ _,fun b hb=>.inl hb,hv⟩
theorem aJ.scalar{w w':World}{S S':Nat→Prop}:∀(t:Ty) (x:t.den) (cs:List Value),t.scalar=true→aJ w S t x cs→aJ w' S' t x cs
 | .bool,_,_,_,J=>J
 | .u _,_,_,_,J=>J
 | .i _,_,_,_,J=>J
 | .str,_,_,_,J=>J
 | .sl t,_,_,I,_=>by simp[Ty.scalar] at I
 | .unit,_,_,_,J=>J
 | .pair a b,_,_,I,⟨c1,c2,hc,Y,U⟩=>by
  simp only[Ty.scalar,Bool.and_eq_true] at I;exact⟨c1,c2,hc,aJ.scalar a _ _ I.1 Y,aJ.scalar b _ _ I.2 U⟩
 | .arr _ t,_,_,I,⟨hn,N,hc,hl,J⟩=>⟨hn,N,hc,hl,fun i Y U=>aJ.scalar t _ _ (by simpa [Ty.scalar] using I) (J i Y U)⟩
 | .expr,_,_,I,_=>by simp[Ty.scalar] at I
 | .rp _,_,_,I,_=>by simp[Ty.scalar] at I
 | .clo _ _,_,_,I,_=>by simp[Ty.scalar] at I
theorem bR.scalar{w w':World}{S S':Nat→Prop}{t:Ty}{x:t.den}{v:Value}(N:t.scalar=true)(J:bR w S t x v):bR w' S' t x v:=by
 unfold bR at *;split
 ·rename_i I; simp only[I,if_true] at J; grind[aJ.scalar]
 grind[aJ.scalar]
theorem jL.scalar{w w':World}{S S':Nat→Prop}:∀(t:Ty) (x:t.den) (vs:List Value),t.scalar=true→jL w S t x vs→jL w' S' t x vs
 | .unit,_,_,_,I=>I
 | .pair a r,x,vs,J,⟨v,N,e,Y,U⟩=>by
  simp only[Ty.scalar,Bool.and_eq_true] at J;exact⟨v,N,e,Y.scalar J.1,jL.scalar r _ _ J.2 U⟩
 | .bool,_,_,_,I=>I.elim
 | .u _,_,_,_,I=>I.elim
 | .i _,_,_,_,I=>I.elim
 | .str,_,_,_,I=>I.elim
 | .sl _,_,_,_,I=>I.elim
 | .arr _ _,_,_,_,I=>I.elim
 | .expr,_,_,_,I=>I.elim
 | .rp _,_,_,_,I=>I.elim
 | .clo _ _,_,_,_,I=>I.elim
theorem aLH(hg:Good M w0 c h w):∀(t:Ty) (vs:List AV) (xs:List Value) (x:t.den),sC h t vs=some x→xs.length=vs.length→(∀i (U:i<vs.length) (J:i<xs.length),aG c w vs[i] xs[i])→jL w (xG c h) t x xs:=by
 intro t
 induction t with
 | unit =>
  intro vs xs x I N hv;cases vs with
  | nil=>exact List.eq_nil_of_length_eq_zero N
  | cons v vs=>grind[sC]
 | pair a r _ ih =>
  intro vs xs x I N hv;cases vs with
  | nil=>grind[sC]
  | cons v vs =>
   cases xs with
   | nil=>grind
   | cons u xs =>
    simp only[sC] at I;split at I
    ·rename_i xa Y U J;cases I;refine⟨u,xs,rfl,aCf hg (hv 0 (by simp) (by simp)) U,ih vs xs Y J (by simp_all) (fun i hi hi'=>?_)⟩;have:=hv (i+1) (by simp_all) (by simp_all);simp_all
    grind
 | _=>grind[sC]
theorem aBl(hg:Good M w0 c h w){t:Ty}{vs:List AV}{xs:List Value}{x:t.den}(Y:sC (h.map cL) t vs=some x)(hl:xs.length=vs.length)(hv:∀i (N:i<vs.length) (J:i<xs.length),aG c w vs[i] xs[i]):jL w c.S t x xs:=by
 have:=aLH hg.frz t vs xs x Y hl hv;have hmono:∀(t:Ty) (x:t.den) (xs:List Value),jL w (xG c (h.map cL)) t x xs→jL w c.S t x xs:=by
  intro t
  induction t with
  | unit=>intro x xs h; exact h
  | pair a r _ U=>intro x xs ⟨v,I,e,N,J⟩; exact⟨v,I,e,N.keep aE0 (.refl _ _),U _ _ J⟩
  | _=>intro x xs h; exact h.elim
 simp_all
theorem aNJ(I:Good M w0 c h w)(b:Nat)(hb:xG c h b):b<w.heap.size:=by
 rcases hb with hb|⟨i,o,J,hb⟩
 ·exact I.sfin b hb
 ·exact(I.own i _ b J hb).2.1
theorem jM.mono{G:Nat→AV}{S S':Nat→Prop}{w w':World}(I:∀b,S b→S' b)(h:pZ S w w')(J:jM G S w):jM G S' w':=fun g =>
 (J g).keep (c:=⟨S,fun _=>Go.undef,0,fun _ _=>False⟩) (c':=⟨S',fun _=>Go.undef,0,fun _ _=>False⟩) ⟨I,Nat.le_refl _,fun _ _=>rfl⟩ h
theorem aP1{S:Nat→Prop}{w:World}{c:Ctx}(Y:c.S=S):∀(t:Ty) (x:t.den) (vs:List Value),jL w S t x vs→vs.length=(uL t x).length∧ ∀i (h:i<(uL t x).length) (h':i<vs.length),mH c w (uL t x)[i] vs[i]
 | .unit,_,vs,I=>by simp only[jL] at I; subst I; exact⟨rfl,fun i h=>by simp_all⟩
 | .pair a r,x,vs,⟨v,J,e,h1,U⟩=>by
  subst e;obtain⟨hl,I⟩:=aP1 Y r x.2 J U;refine⟨by simp[uL,hl],fun i hi N=>?_⟩;cases i with
  | zero=>exact aG.ofV (by simp_all)
  | succ i=>grind[uL]
 | .bool,_,_,I=>I.elim
 | .u _,_,_,I=>I.elim
 | .i _,_,_,I=>I.elim
 | .str,_,_,I=>I.elim
 | .sl _,_,_,I=>I.elim
 | .arr _ _,_,_,I=>I.elim
 | .expr,_,_,I=>I.elim
 | .rp _,_,_,I=>I.elim
 | .clo _ _,_,_,I=>I.elim
def FAt(G:Nat→AV)(sp:aF)(vs:Array Value)(w:World)(C:(Ending→World→Prop)→Prop):Prop :=
 ∀(S:Nat→Prop) (x:sp.args.den),(∀b,S b→b<w.heap.size)→jM G S w→jL w S sp.args x vs.toList→sp.pre x →
  C fun e w'=>∃v,e= .returned v∧bG nothing w w'∧aSO w' S w.heap.size sp.res (sp.fn x) v
def aY4(P:Program)(f:FuncId)(vs:Array Value)(w:World)(R:Ending→World→Prop):Prop :=
 ∃v w',(callFunc f vs).run P w= .ok (.value v) w'∧R (.returned v) w'
def NOK(P:Program)(G:Nat→AV)(f:FuncId)(sp:aF):Prop :=
 (∀e t,sp.res≠ .own e t)∧ ∀(w:World) (vs:Array Value),FAt G sp vs w (aY4 P f vs w)
theorem aXj{C:(Ending→World→Prop)→Prop}(hC:∀R R':Ending→World→Prop,C R→(∀e w',R e w'→R' e w')→C R'){G:Nat→AV}{Γ:FuncId→List AV→Option aF}{f:FuncId}{vs:List AV}{xs:Array Value}(hΓ:∀sp,Γ f vs=some sp→FAt G sp xs w C)(N:Good M w0 c h w)(hG:jM G c.S w)(hl:xs.size=vs.length)
  (hv:∀i (h1:i<vs.length) (h2:i<xs.size),aG c w vs[i] xs[i]) (hc:(zQ Γ h f vs).1) :
  C fun e w'=>∃v c',e= .returned v∧aBk P M w0 h c w (zQ Γ h f vs).2 v w' c':=by
 unfold zQ at hc ⊢;cases hf:Γ f vs with
 | none=>simp_all
 | some sp =>
  simp only[hf] at hc ⊢;have hl':xs.toList.length=vs.length:=by omega
  have hv':∀i (h1:i<vs.length) (h2:i<xs.toList.length),aG c w vs[i] xs.toList[i]:=fun i h1 h2=>by
   simp_all
  obtain⟨U,res,pre,fn⟩:=sp;have key:∀(x:U.den),sC (if res.ty.scalar then h else h.map cL) U vs=some x→pre x→(∀e t,res≠ .own e t)→C fun e w'=>∃v c',e= .returned v∧aBk P M w0 h c w (aUa res (fn x)) v w' c':=by
   intro x ha hp hno;by_cases J:res.ty.scalar=true
   ·rw[if_pos J] at ha;have hargs:=aLH N _ _ _ _ ha hl' hv';refine hC _ _ (hΓ _ hf (xG c h) x (aNJ N) (hG.mono (fun b hb=>.inl hb) (.refl _ _)) hargs hp) ?_;rintro e w' ⟨v,rfl,Y,I⟩;refine⟨v,_,rfl,mI N Y,⟨rfl,rfl⟩,N.call Y,Y,fun b hb=>hb.imp id And.left,?_⟩;cases res with
    | none=>trivial
    | one t=>exact aG.ofV (bR.scalar J I)
    | own e t=>simp_all
    | tup t =>
     obtain⟨us,rfl,hus⟩:=I;have:=jL.scalar (w':=w') (S':=(c.upto w.heap.size w'.heap.size).S) t _ _ J hus;obtain⟨h1,h2⟩:=aP1 (c:=c.upto w.heap.size w'.heap.size) rfl t _ _ this;exact⟨us,rfl,h1,h2⟩
   ·rw[if_neg J] at ha;have hargs:=aBl N ha hl' hv';refine hC _ _ (hΓ _ hf c.S x N.sfin hG hargs hp) ?_;rintro e w' ⟨v,rfl,Y,I⟩;refine⟨v,_,rfl,mI N Y,⟨rfl,rfl⟩,N.call Y,Y,fun b hb=>hb.imp id And.left,?_⟩;cases res with
    | none=>trivial
    | one t=>exact aG.ofV I
    | own e t=>simp_all
    | tup t =>
     obtain⟨us,rfl,hus⟩:=I;obtain⟨h1,h2⟩:=aP1 (c:=c.upto w.heap.size w'.heap.size) rfl t _ _ hus;exact⟨us,rfl,h1,h2⟩
  grind
end
end Go.Vc
namespace Go.Vc
open Go.RowKit
section
variable {P:Program} {T:Tab} {M:Perm} {w0:World} {c:Ctx} {h:List Obj} {w:World}
theorem aNK(pre:List Value):∀(I old post:List Value) (cells:Array Value) (j:Nat),cells.toList=pre++old++post→old.length=j+I.length →
  ((I.zipIdx j).foldl (fun U (p:Value×Nat)=>U.setIfInBounds (pre.length+p.2) p.1) cells).toList=pre++(old.take j++I)++post
 | [],old,post,cells,j,hc,J=>by
  simp only[List.zipIdx_nil,List.foldl_nil,List.append_nil];rw[hc,List.take_of_length_le (by simp at J; omega)]
 | v::I,old,post,cells,j,hc,J=>by
  simp only[List.zipIdx_cons,List.foldl_cons];simp only[List.length_cons] at J;have N:(cells.setIfInBounds (pre.length+j) v).toList=pre++(old.set j v)++post:=by
   simp_all
  have:=aNK pre I (old.set j v) post _ (j+1) N (by grind);grind[List.take_succ_eq_append_getElem,List.take_set_of_le]
theorem aE1{pre old post:List Value}{cells:Array Value}(hc:cells.toList=pre++old++post){v:Value}(hv:v.cells.size=old.length) :
  (v.cells.zipIdx.foldl (fun I (p:Value×Nat)=>I.setIfInBounds (pre.length+p.2) p.1) cells).toList=pre++v.cells.toList++post:=by
 have:=aNK pre v.cells.toList old post cells 0 hc (by simp[hv]);rw[← Array.foldl_toList,Array.toList_zipIdx]
 simpa using this
theorem aUk:∀ {L:List AV} {cs:List Value} {k:Nat} {ts:List Ty},fP c w L cs→L.length=ts.length→(∀i (h:i<L.length),(L[i]).solid1=true)→(∀i (h:i<L.length) (h':i<ts.length),(L[i]).nc1=ts[i].cells)→k<L.length →
  ∃pre ds post,cs=pre++ds++post∧pre.length=((ts.take k).map Ty.cells).foldr (· + ·) 0∧ds.length=(ts.getD k .unit).cells∧ ∀(v:AV) (I:List Value),aE c w v I→fP c w (L.set k v) (pre++I++post)
 | [],_,_,_,_,_,_,_,hk=>by grind
 | v::L,cs,k,ts,hr,hl,hs,hn,hk=>by
  cases ts with
  | nil=>grind
  | cons t ts =>
   simp only[fP] at hr;obtain⟨c1,c2,rfl,h1,h2⟩:=hr;have h0:=hn 0 (by simp) (by simp);have s0:=hs 0 (by simp);simp only[List.getElem_cons_zero] at h0 s0;have U:=aC6 s0 h1;cases k with
   | zero=>exact⟨[],c1,c2,by simp,rfl,by simp_all,fun Y I J=>by simp only[List.set_cons_zero,fP,List.nil_append]; grind⟩
   | succ k =>
    obtain⟨pre,ds,post,e,hp,hd,N⟩:=aUk (k:=k) (ts:=ts) h2 (by simp_all) (fun i hi=>by have:=hs (i+1) (by simp_all); simp_all) (fun i hi hi'=>by have:=hn (i+1) (by simp_all) (by simp_all); simp_all) (by simp_all);refine⟨c1++pre,ds,post,by rw[e]; simp,by simp[U,h0,hp],by simpa using hd,fun Y I J=>?_⟩;simp only[List.set_cons_succ,fP];exact⟨c1,pre++I++post,by simp,h1,N Y I J⟩
theorem tM:∀ {U:List Field} {off:Nat} {t:Ty} {k:Nat} {N:Ty},bS T U off t=true→t.flds[k]? = some N→ ∃f,U[k]? = some f∧T f.type=some N∧f.offset=off+((t.flds.take k).map Ty.cells).foldr (· + ·) 0
 | [],off,.unit,k,N,_,J=>by grind[Ty.flds]
 | f::U,off,.pair a r,0,N,I,J=>by
  simp only[bS,Bool.and_eq_true,decide_eq_true_eq] at I;simp[Ty.flds] at J;simp_all
 | f::U,off,.pair a r,k+1,N,I,J=>by
  simp only[bS,Bool.and_eq_true,decide_eq_true_eq] at I;simp only[Ty.flds,List.getElem?_cons_succ] at J;obtain⟨f',h1,Y,h3⟩:=tM I.2 J;grind[Ty.flds]
 | [],_,.pair _ _,_,_,I,_=>by grind[bS]
 | _::_,_,.unit,_,_,I,_=>by grind[bS]
theorem aDP:∀ {J:List Field} {off:Nat} {t:Ty},bS T J off t=true→J.length=t.flds.length
 | [],_,.unit,_=>rfl
 | f::J,off,.pair a r,I=>by
  simp only[bS,Bool.and_eq_true] at I;simp[Ty.flds,aDP I.2]
 | [],_,.pair _ _,I=>by grind[bS]
 | _::_,_,.unit,I=>by grind[bS]
theorem aKS:∀(t:Ty),t.okB=true→ ∀J off,bS T J off t=true→fP c w (oV t) (bH t)∧(oV t).length=t.flds.length∧(∀i (h:i<(oV t).length),((oV t)[i]).solid1=true)∧(∀i (h:i<(oV t).length) (h':i<t.flds.length),((oV t)[i]).nc1=(t.flds[i]).cells)
 | .unit,_,_,_,_=>⟨rfl,rfl,fun i h=>by simp[oV] at h,fun i h=>by simp[oV] at h⟩
 | .pair a r,N,f::J,off,I=>by
  simp only[Ty.okB,Bool.and_eq_true] at N;simp only[bS,Bool.and_eq_true] at I;obtain⟨h1,Y,h3,h4⟩:=aKS r N.2 J _ I.2;refine⟨⟨bH a,bH r,rfl,cR w c.S a N.1,h1⟩,by simp[oV,Ty.flds,Y],fun i hi=>?_,fun i hi U=>?_⟩
  ·cases i with
   | zero=>rfl
   | succ i=>grind[oV]
  ·cases i with
   | zero=>rfl
   | succ i=>grind[oV,Ty.flds]
 | .pair _ _,_,[],_,I=>by grind[bS]
 | .bool,_,J,_,I=>by grind[bS]
 | .u _,_,J,_,I=>by grind[bS]
 | .i _,_,J,_,I=>by grind[bS]
 | .str,_,J,_,I=>by grind[bS]
 | .sl _,_,J,_,I=>by grind[bS]
 | .arr _ _,_,J,_,I=>by grind[bS]
 | .expr,_,J,_,I=>by grind[bS]
 | .rp _,_,J,_,I=>by grind[bS]
 | .clo _ _,_,J,_,I=>by grind[bS]
 | .nilp,_,J,_,I=>by grind[bS]
 | .nilf,_,J,_,I=>by grind[bS]
inductive uF(c:Ctx)(w:World):List (Nat×AV)→List (Nat×Value)→Prop where
 | nil:uF c w [] []
 | cons {k:Nat} {a:AV} {v:Value} {ps:List (Nat×AV)} {vs:List (Nat×Value)} (h:aG c w a v) (r:uF c w ps vs):uF c w ((k,a)::ps) ((k,v)::vs)
theorem aDQ{place:Nat→Option (Nat×Nat)}{ts:List Ty}(hp:∀k t,ts[k]? = some t→place k=some (((ts.take k).map Ty.cells).foldr (· + ·) 0,t.cells)):∀(ps:List (Nat×AV)) (vs:List (Nat×Value)) (L:List AV) (cells:Array Value),
  uF c w ps vs→aB9 ts ps→fP c w L cells.toList→L.length=ts.length→(∀i (h:i<L.length),(L[i]).solid1=true)→(∀i (h:i<L.length) (h':i<ts.length),(L[i]).nc1=ts[i].cells) →
  ∃cells',Instr.fill place cells vs=some cells'∧fP c w (aSP L ps) cells'.toList
 | _,_,L,cells,.nil,_,hr,_,_,_=>⟨cells,rfl,hr⟩
 | _,_,L,cells,.cons (k:=k) (a:=a) (v:=v) (ps:=ps) (vs:=vs) hv r,I,hr,hl,hs,hn=>by
  obtain⟨⟨hsa,t,Y,hnc⟩,I⟩:=I;have hkt:k<ts.length:=get_lt' Y;obtain⟨pre,ds,post,e,hpl,hdl,N⟩:=aUk (k:=k) hr hl hs hn (by omega);have U:ts.getD k .unit=t:=by simp_all
  rw[U] at hdl;have J:mH c w a v:=by cases a<;>first|exact hv|grind[AV.solid1]
  have hvc:=aC6 hsa J.1;have hsz:v.cells.size=t.cells:=by simp_all
  have hstep:=aE1 (v:=v) e (by omega);have hcs:cells.size=(pre++ds++post).length:=by grind
  obtain⟨cells',h1,h2⟩:=aDQ hp ps vs (L.set k a) _ r I (by rw[hstep]; exact N a _ J.1) (by simp_all) (fun i hi=>by
    grind) (fun i hi hi'=>by
    grind)
  refine⟨cells',?_,h2⟩;simp_all[Instr.fill,Ty.cells,if_neg]
where
 get_lt' {α:Type} {l:List α} {k:Nat} {x:α} (h:l[k]? = some x):k<l.length:=by
  grind
theorem zX{t:Ty}{L:List AV}{cells:Array Value}(J:fP c w L cells.toList):aG c w (aBi t L) (.agg cells):=by
 unfold aBi;have hL:aG c w (.agg L) (.agg cells):=⟨by grind[aE,Value.cells],fun _=>⟨_,rfl⟩,fun h=>by cases h⟩;split
 ·rename_i x I;have key:∀(t:Ty) (v:AV) (x:t.den) (cs:List Value),AV.as [] t v=some x→aE c w v cs→aJ w c.S t x cs∧t.isAgg=v.isAgg:=by
   intro t v x cs I J;exact as_nil t v x cs I J
  obtain⟨h1,U⟩:=key _ _ _ _ I hL.1;exact aG.ofV (bR.of_cells (fun _=>⟨_,rfl⟩) (fun h=>by rw[U] at h; cases h) h1)
 omega
where
 as_nil (t:Ty) (v:AV) (x:t.den) (cs:List Value) (I:AV.as [] t v=some x) (J:aE c w v cs):aJ w c.S t x cs∧t.isAgg=v.isAgg:=by
  have hval:∀(t N:Ty) (y:N.den) (x:t.den) (cs:List Value),AV.as [] t (.val N y)=some x→aE c w (.val N y) cs→aJ w c.S t x cs∧t.isAgg=AV.isAgg (.val N y):=by
   intro t N y x cs I J;have:∃e:N=t,x=e▸y:=by
    have U:(if e:N=t then some (e▸y) else none)=some x:=(by grind[AV.as]);grind
   obtain⟨rfl,rfl⟩:=this;exact⟨J,rfl⟩
  have hflat:∀(t:Ty) (l:List AV) (x:t.den) (cs:List Value),zP t l=some x→fP c w l cs→aJ w c.S t x cs:=by
   intro t l x cs I J;unfold zP at I;split at I
   ·rename_i y hp;cases I;obtain⟨c1,c2,e,r1,r2⟩:=aNB t l _ _ cs hp J;simp only[fP] at r2;subst r2;rw[e,List.append_nil]; exact r1
   ·cases I
  induction t generalizing v cs with
  | pair a b iha ihb =>
   cases v with
   | val N y=>grind
   | agg Y =>
    cases Y with
    | nil=>grind[AV.as]
    | cons v Y =>
     simp only[aLB] at I;split at I
     ·rename_i xa xb h1 U;cases I;simp only[aE,fP] at J;obtain⟨c1,c2,e,r1,r2⟩:=J;exact⟨⟨c1,c2,e,(iha v xa c1 h1 r1).1,(ihb (.agg Y) xb c2 U (by grind[aE])).1⟩,rfl⟩
     grind
   | flat l=>simp only[aLC] at I; exact⟨hflat _ _ _ _ I (by grind[aE]),rfl⟩
   | _=>grind[AV.as]
  | sl t ih =>
   cases v with
   | val N y=>grind
   | nilS=>simp at I; subst I; simp only[aE] at J; exact⟨⟨none,0,0,J,rfl,Nat.le_refl _,Nat.zero_le _,.inl rfl⟩,rfl⟩
   | full N xs =>
    have U:(if e:N=t then some (e▸xs) else none)=some x:=(by grind[AV.as]);split at U
    ·rename_i e;subst e;cases U;simp only[aE] at J;obtain⟨p,n,e,hsl⟩:=J;exact⟨⟨p,n,n,e,hsl⟩,rfl⟩
    grind
   | own i=>simp[rowOf] at I
   | _=>grind[AV.as]
  | unit =>
   cases v with
   | val N y=>grind
   | agg Y=>cases Y with
    | nil=>simp only[aE,fP] at J; exact⟨J,rfl⟩
    | cons v Y=>grind[AV.as]
   | flat l=>simp only[aHY] at I; exact⟨hflat _ _ _ _ I (by grind[aE]),rfl⟩
   | _=>grind[AV.as]
  | rp t ih =>
   cases v with
   | val N y=>grind
   | roa N y =>
    have U:(if e:N=t then some (e▸y) else none)=some x:=(by grind[AV.as]);split at U
    ·rename_i e;subst e;cases U;simp only[aE] at J;exact⟨J,rfl⟩
    grind
   | ptr i p =>
    cases p with
    | nil=>simp at I
    | cons s p=>grind[AV.as]
   | _=>grind[AV.as]
  | clo g t ih =>
   cases v with
   | val N y=>grind
   | fn g' l1 l2 =>
    cases l1 with
    | nil =>
     have U:g'=g∧AV.as [] t (.agg (l2.map fun i=>.ptr i []))=some x:=(by grind[AV.as]);obtain⟨rfl,I⟩:=U;simp only[aE] at J;obtain⟨_,U,e⟩:=J;cases l2 with
     | nil =>
      have:=ih (.agg []) x [] I rfl;exact⟨⟨[],by simp_all,this.1⟩,rfl⟩
     | cons i l2 =>
      exfalso;have hp:∀a:Ty,AV.as [] a (.ptr i [])=none:=fun a=>(by cases a<;>simp[AV.as]);cases t<;>first|grind[AV.as]|(simp[hp] at I; done)|(match l2,I with
       | [],I=>simp[AV.as] at I
       | [_],I=>simp[AV.as] at I
       | [_,_],I=>simp[AV.as,asX,aT7] at I
       | _::_::_::_,I=>simp[AV.as] at I)
    | cons i l1=>grind[AV.as]
   | _=>grind[AV.as]
  | expr =>
   cases v with
   | val N y=>grind
   | agg Y =>
    match Y,I,J with
    | [a,b,v],I,J =>
     simp only[aLD] at I;exact⟨aRf (fun _ h=>h) (fun i xs cs h1 _=>by grind[rowOf]) I (by grind[aE]),rfl⟩
    | [],I,_=>grind[AV.as]
    | [_],I,_=>grind[AV.as]
    | [_,_],I,_=>grind[AV.as]
    | _::_::_::_::_,I,_=>grind[AV.as]
   | _=>grind[AV.as]
  | _ =>
   cases v with
   | val N y=>grind
   | _=>grind[AV.as]
theorem aKT{av:AV}{v:Value}{t:Ty}{x:t.den}(hv:aG c w av v)(I:AV.as [] t av=some x):bR w c.S t x v:=by
 obtain⟨J,N,U⟩:=aNI hv I;grind[zX.as_nil,bR.of_cells]
theorem aH6{J:Ty}{n:Nat}{place:Nat→Option (Nat×Nat)}(hp:∀k,place k=some (k*J.cells,J.cells)):∀(ps:List (Nat×AV)) (vs:List (Nat×Value)) (xs:List J.den) (cells:Array Value) (ys:List J.den),
  uF c w ps vs→aLE J xs ps=some ys→aJ w c.S (.arr n J) xs cells.toList→ ∃cells',Instr.fill place cells vs=some cells'∧aJ w c.S (.arr n J) ys cells'.toList
 | _,_,xs,cells,ys,.nil,Y,hr=>by simp[aLE] at Y; subst Y; exact⟨cells,rfl,hr⟩
 | _,_,xs,cells,ys,.cons (k:=k) (a:=a) (v:=v) (ps:=ps) (vs:=vs) hv r,Y,hr=>by
  simp only[aLE] at Y;split at Y
  ·rename_i x hx;split at Y
   ·rename_i hk;obtain⟨hn,I,e,hl,N⟩:=hr;obtain⟨pre,post,hf,hpl⟩:=gS (t:=J) (css:=I) (fun j hj=>aJ.length _ _ _ (N j (by omega) hj)) k (by omega);have hvr:=(aKT hv hx).cells;have hvl:=aJ.length _ _ _ hvr;have hcl:=aJ.length _ _ _ (N k hk (by omega));have hsz:v.cells.size=J.cells:=(by omega);have hstep:=aE1 (v:=v) (e.trans hf) (by omega);have hnew:aJ w c.S (.arr n J) (xs.set k x) (pre++v.cells.toList++post):=by
     refine⟨by simp_all,I.set k v.cells.toList,?_,by simp_all,fun i h1 h2=>?_⟩
     ·have hsp:I=I.take k++ [I[k]]++I.drop (k+1):=(by simp);have U:pre=(I.take k).flatten∧post=(I.drop (k+1)).flatten:=by
       have hlen:((I.take k).flatten).length=k*J.cells:=by
        rw[fE (n:=J.cells) (fun i hi=>?_)]
        ·rw[List.length_take,Nat.min_eq_left (by omega)]
        ·simp at hi; simp only[List.getElem_take]; exact aJ.length _ _ _ (N i (by omega) (by omega))
       have h3:I.flatten=(I.take k).flatten++I[k]++(I.drop (k+1)).flatten:=by
        grind
       rw[h3,List.append_assoc,List.append_assoc] at hf;obtain⟨q1,q2⟩:=List.append_inj hf (by omega);obtain⟨q3,q4⟩:=List.append_inj q2 rfl;grind
      rw[U.1,U.2,List.set_eq_take_append_cons_drop,if_pos (by omega)];simp
     grind
    obtain⟨cells',h1,h2⟩:=aH6 hp ps vs (xs.set k x) _ ys r Y (by rw[hstep]; exact hnew);refine⟨cells',?_,h2⟩;rw[Instr.fill,hp k];have hcs:cells.size=(pre++I[k]++post).length:=(by grind);simp_all
   grind
  grind
end
end Go.Vc
namespace Go.Vc
open Go.RowKit
section
variable {P:Program} {T:Tab} {M:Perm} {w0:World} {c:Ctx} {h:List Obj} {w:World}
theorem aST:∀(t:Ty),t.okB=true→ ∀N off,bS T N off t=true→fP c w (eZ t) (bH t)∧(eZ t).length=t.flds.length∧(∀i (h:i<(eZ t).length),((eZ t)[i]).solid1=true)∧(∀i (h:i<(eZ t).length) (h':i<t.flds.length),((eZ t)[i]).nc1=(t.flds[i]).cells):=by
 intro t
 induction t with
 | unit=>intro _ _ _ _; exact⟨rfl,rfl,fun i h=>by simp[eZ] at h,fun i h=>by simp[eZ] at h⟩
 | pair a r _ Y =>
  intro J N off U;cases N with
  | nil=>grind[bS]
  | cons f N =>
   simp only[Ty.okB,Bool.and_eq_true] at J;simp only[bS,Bool.and_eq_true] at U;obtain⟨h1,h2,h3,h4⟩:=Y J.2 N _ U.2;have I:∀u:AV,eZ (.pair a r)=u::eZ r→u.solid1=true→u.nc1=a.cells→aE c w u (bH a)→fP c w (eZ (.pair a r)) (bH (.pair a r))∧(eZ (.pair a r)).length=(Ty.pair a r).flds.length∧(∀i (h:i<(eZ (.pair a r)).length),((eZ (.pair a r))[i]).solid1=true)∧(∀i (h:i<(eZ (.pair a r)).length) (h':i<(Ty.pair a r).flds.length),((eZ (.pair a r))[i]).nc1=((Ty.pair a r).flds[i]).cells):=fun u e q1 q2 q3=>by
    rw[e];refine⟨⟨bH a,bH r,rfl,q3,h1⟩,by simp[Ty.flds,h2],fun i hi=>?_,fun i hi hi'=>?_⟩
    all_goals grind[Ty.flds]
   cases a with
   | sl a=>exact I .nilS rfl rfl rfl rfl
   | _=>exact I (.val _ (Ty.zero _)) rfl rfl rfl (cR w c.S _ J.1)
 | _=>grind[bS]
theorem aSU(hT:eO P T){t:TypeId}{ps:List (Nat×AV)}{vs:List (Nat×Value)}(hp:uF c w ps vs)(hc:(aEY T t ps).1) :
  ∃u,(Instr.build t vs.toArray).run P w= .ok u w∧aG c w (aEY T t ps).2 u:=by
 unfold aEY at hc ⊢;cases ht:T t with
 | none=>simp_all
 | some ct =>
  have I:=hT _ _ ht;obtain⟨d,hd,hb⟩:=I.desc;cases ct with
  | pair a r =>
   simp only[ht] at hc ⊢;obtain⟨Y,hpo⟩:=hc;have hz:=kF I Y w;cases d<;>simp only[dM,Bool.false_eq_true] at hb
   rename_i fs;obtain⟨h1,h2,h3,h4⟩:=aST (c:=c) (w:=w) (T:=T) (.pair a r) Y fs.toList 0 hb;have hzc:(fU (.pair a r)).cells.toList=bH (.pair a r):=(by rfl);have hplaces:∃places:Array (Nat×Nat),(fs.mapM (fun f=>do pure (f.offset,← sizeOf f.type)):Sem _).run P w= .ok places w∧ ∀k t,(Ty.pair a r).flds[k]? = some t→places[k]? = some ((((Ty.pair a r).flds.take k).map Ty.cells).foldr (· + ·) 0,t.cells):=by
    have N:=aDP hb;refine⟨(fs.toList.zipWith (fun f t=>(f.offset,t.cells)) (Ty.pair a r).flds).toArray,?_,fun k t hk=>?_⟩
    ·have key:∀(l:List Field) (ts:List Ty) (acc:Array (Nat×Nat)),l.length=ts.length→(∀i (h:i<l.length) (h':i<ts.length),T (l[i]).type=some ts[i]) →
       ((l.mapM (fun f=>do pure (f.offset,← sizeOf f.type)):Sem (List (Nat×Nat)))).run P w= .ok (l.zipWith (fun f t=>(f.offset,t.cells)) ts) w:=by
      intro l
      induction l with
      | nil=>simp_all
      | cons f l ih =>
       intro ts acc hl U;cases ts with
       | nil=>grind
       | cons t ts =>
        have ht0:=U 0 (by simp) (by simp);simp only[List.getElem_cons_zero] at ht0;have hsz:=cE (hT _ _ ht0) w;have:=ih ts acc (by simp_all) (fun i hi J=>by have:=U (i+1) (by simp_all) (by simp_all); simp_all);simp_all
     rw[Array.mapM_eq_mapM_toList];have:=key fs.toList (Ty.pair a r).flds #[] N (fun i hi J=>by
      obtain⟨f,q1,q2,q3⟩:=tM (k:=i) hb (List.getElem?_eq_getElem J);simp_all)
     simp_all
    ·obtain⟨f,q1,q2,q3⟩:=tM hb hk;simp only[List.getElem?_toArray,List.getElem?_zipWith,hk,q1];simp[q3]
   obtain⟨places,hpl,hpp⟩:=hplaces;obtain⟨cells',hf,hr⟩:=aDQ (c:=c) (w:=w) (place:=(places[·]?)) hpp ps vs (eZ (.pair a r)) (fU (.pair a r)).cells hp hpo (by simp_all) h2 h3 h4;refine⟨.agg cells',?_,hr,fun _=>⟨_,rfl⟩,fun h=>by cases h⟩;simp only[Instr.build,Sem.run_bind,hz,Result.andThen_ok,aI hd,hpl,hf,Sem.run_pure]
  | _=>simp_all
theorem aUl(hT:eO P T){t:TypeId}{ps:List (Nat×AV)}{vs:List (Nat×Value)}(hp:uF c w ps vs)(hc:(aCa T t ps).1) :
  ∃u,(Instr.build t vs.toArray).run P w= .ok u w∧aG c w (aCa T t ps).2 u:=by
 unfold aCa at hc ⊢;cases ht:T t with
 | none=>simp_all
 | some J =>
  have I:=hT _ _ ht;obtain⟨d,hd,hb⟩:=I.desc;cases J with
  | pair a r =>
   simp only[ht] at hc ⊢;obtain⟨hok,hpo⟩:=hc;have hz:=kF I hok w;cases d<;>simp only[dM,Bool.false_eq_true] at hb
   rename_i N;obtain⟨h1,h2,h3,h4⟩:=aKS (c:=c) (w:=w) (T:=T) (.pair a r) hok N.toList 0 hb;have hzc:(fU (.pair a r)).cells.toList=bH (.pair a r):=(by rfl);have hplaces:∃places:Array (Nat×Nat),(N.mapM (fun f=>do pure (f.offset,← sizeOf f.type)):Sem _).run P w= .ok places w∧ ∀k t,(Ty.pair a r).flds[k]? = some t→places[k]? = some ((((Ty.pair a r).flds.take k).map Ty.cells).foldr (· + ·) 0,t.cells):=by
    have hlen:=aDP hb;refine⟨(N.toList.zipWith (fun f t=>(f.offset,t.cells)) (Ty.pair a r).flds).toArray,?_,fun k t Y=>?_⟩
    ·have key:∀(l:List Field) (ts:List Ty) (acc:Array (Nat×Nat)),l.length=ts.length→(∀i (h:i<l.length) (h':i<ts.length),T (l[i]).type=some ts[i]) →
       ((l.mapM (fun f=>do pure (f.offset,← sizeOf f.type)):Sem (List (Nat×Nat)))).run P w= .ok (l.zipWith (fun f t=>(f.offset,t.cells)) ts) w:=by
      intro l
      induction l with
      | nil=>simp_all
      | cons f l ih =>
       intro ts acc hl hty;cases ts with
       | nil=>grind
       | cons t ts =>
        have ht0:=hty 0 (by simp) (by simp);simp only[List.getElem_cons_zero] at ht0;have hsz:=cE (hT _ _ ht0) w;have:=ih ts acc (by simp_all) (fun i hi hi'=>by have:=hty (i+1) (by simp_all) (by simp_all); simp_all);simp_all
     rw[Array.mapM_eq_mapM_toList];have:=key N.toList (Ty.pair a r).flds #[] hlen (fun i hi hi'=>by
      obtain⟨f,q1,q2,q3⟩:=tM (k:=i) hb (List.getElem?_eq_getElem hi');simp_all)
     simp_all
    ·obtain⟨f,q1,q2,q3⟩:=tM hb Y;simp only[List.getElem?_toArray,List.getElem?_zipWith,Y,q1];simp[q3]
   obtain⟨places,U,hpp⟩:=hplaces;obtain⟨cells',hf,hr⟩:=aDQ (c:=c) (w:=w) (place:=(places[·]?)) hpp ps vs (oV (.pair a r)) (fU (.pair a r)).cells hp hpo (by simp_all) h2 h3 h4;refine⟨.agg cells',?_,zX hr⟩;simp only[Instr.build,Sem.run_bind,hz,Result.andThen_ok,aI hd,U,hf,Sem.run_pure]
  | unit =>
   simp only[ht] at hc ⊢;subst hc;cases hp;have hz:=kF I rfl w;cases d<;>simp only[dM,Bool.false_eq_true] at hb
   rename_i N;have hfs:N= #[]:=by
    have:=aDP hb;grind[Ty.flds]
   subst hfs;refine⟨.agg #[],?_,⟨rfl,fun _=>⟨_,rfl⟩,fun h=>by cases h⟩⟩;simp[Instr.build,hz,aI hd,Result.andThen,Instr.fill,fU,Ty.isAgg,bH,Value.cells]
  | expr =>
   simp only[ht] at hc ⊢;have hz:=kF I rfl w;cases d<;>simp only[dM,Bool.false_eq_true] at hb
   rename_i N;unfold aRc at hb;split at hb
   ·rename_i f0 f1 f2 hfs;simp only[Bool.and_eq_true,decide_eq_true_eq] at hb;obtain⟨⟨⟨⟨⟨b1,b2⟩,b3⟩,b4⟩,b5⟩,b6⟩:=hb;have efs:N= #[f0,f1,f2]:=(by grind);have s0:=cE (hT _ _ b1) w;have s1:=cE (hT _ _ b3) w;have s2:=cE (hT _ _ b5) w;have U:(N.mapM (fun f=>do pure (f.offset,← sizeOf f.type)):Sem _).run P w= .ok #[(0,1),(1,1),(2,1)] w:=by
     rw[efs,Array.mapM_eq_mapM_toList];show (([f0,f1,f2].mapM (fun f=>do pure (f.offset,← sizeOf f.type)):Sem (List (Nat×Nat))) >>= fun l=>pure l.toArray).run P w=_;simp only[List.mapM_cons,List.mapM_nil,Sem.run_bind,s0,s1,s2,Result.andThen_ok,Sem.run_pure,b2,b4,b6];rfl
    have hzc:(fU .expr).cells.toList= [.int .i64 0,.string ⟨#[]⟩,.slice none 0 0]:=rfl;obtain⟨cells',hf,hr⟩:=aDQ (c:=c) (w:=w) (place:=((#[(0,1),(1,1),(2,1)]:Array (Nat×Nat))[·]?)) (ts:=[.i .i64,.str,.sl .expr]) (fun k t Y=>by
     match k,Y with
     | 0,Y=>simp_all
     | 1,Y=>simp_all
     | 2,Y=>simp_all) ps vs [.val (.i .i64) 0,.val .str [],.nilS] (fU .expr).cells hp hc (by
      rw[hzc];exact⟨[_],[_,_],rfl,⟨rfl,rfl,by decide,by decide⟩,[_],[_],rfl,⟨⟨#[]⟩,rfl,rfl,Nat.zero_le _⟩,[_],[],rfl,rfl,rfl⟩) rfl (fun i hi=>by
      match i,hi with
      | 0,_=>rfl
      | 1,_=>rfl
      | 2,_=>rfl) (fun i hi _=>by
      match i,hi with
      | 0,_=>rfl
      | 1,_=>rfl
      | 2,_=>rfl)
    refine⟨.agg cells',?_,zX hr⟩;simp only[Instr.build,Sem.run_bind,hz,Result.andThen_ok,aI hd,U,hf,Sem.run_pure]
   grind
  | arr n J =>
   simp only[ht] at hc ⊢;cases hs:aLE J (List.replicate n J.zero) ps with
   | none=>simp_all
   | some ys =>
    simp only[hs] at hc ⊢;obtain⟨e,hd',he,hpos,_⟩:=vS I;have hz:=kF I hc w;obtain⟨cells',hf,hr⟩:=aH6 (c:=c) (w:=w) (n:=n) (place:=fun i=>some (i*J.cells,J.cells)) (fun _=>rfl) ps vs (List.replicate n J.zero) (fU (.arr n J)).cells ys hp hs (by
     have:=cR w c.S (.arr n J) hc;have e1:(fU (.arr n J)).cells.toList=bH (.arr n J):=(by rfl);rw[e1]; exact this)
    refine⟨.agg cells',?_,⟨hr,fun _=>⟨_,rfl⟩,fun h=>by cases h⟩⟩;simp[Instr.build,hz,aI hd',cE (hT _ _ he),Result.andThen,hf]
  | _=>simp_all
theorem oL(I:List Value)(n:Nat)(N:0<I.length):((Array.range (n*I.length)).map (fun i=>(I.toArray)[i%I.toArray.size]!)).toList=(List.replicate n I).flatten:=by
 simp only[Array.toList_map,Array.toList_range,List.size_toArray]
 induction n with
 | zero=>simp
 | succ n J =>
  rw[Nat.add_mul,Nat.one_mul,List.range_add,List.map_append,J,List.replicate_succ'];simp only[List.flatten_append,List.flatten_cons,List.flatten_nil,List.append_nil]
  congr 1
  apply List.ext_getElem
  all_goals simp_all[List.length_map,List.length_range,Nat.mod_eq_of_lt,Nat.add_comm]
theorem Good.alloc(I:Good M w0 c h w)(o:Go.Obj):Good M w0 (c.upto w.heap.size (w.heap.size+1)) h (w.alloc o)∧bW c w (c.upto w.heap.size (w.heap.size+1)) (w.alloc o):=by
 have J:bG nothing w (w.alloc o):=bG.alloc nothing w o;have N:=I.call J;have U:=mI I J;simp_all
theorem aJ0(hT:eO P T)(hg:Good M w0 c h w){t:TypeId}{n:Nat}{ps:List (Nat×AV)}{vs:List (Nat×Value)}(hp:uF c w ps vs)(hc:(qD T t n ps).1) :
  ∃u w' c',(Instr.buildSlice t n vs.toArray).run P w= .ok u w'∧aBk P M w0 h c w (qD T t n ps).2 u w' c':=by
 unfold qD at hc ⊢;cases ht:T t with
 | none=>simp_all
 | some I =>
  cases I with
  | sl I =>
   simp only[ht] at hc ⊢;cases hs:aLE I (List.replicate n I.zero) ps with
   | none=>simp_all
   | some ys =>
    simp only[hs] at hc ⊢;obtain⟨J,hn1,hn2⟩:=hc;obtain⟨e,hd,he,hpos⟩:=cO (hT _ _ ht);have Y:=hT _ _ he;have hz:=kF Y J w;have hzc:(fU I).cells.toList=bH I:=by
     have:=(aBe w c.S I J).cells;unfold fU;split
     ·rfl
     ·have h1:(bH I).length=1:=by
       rw[aJ.length _ _ _ (cR w c.S I J)];rename_i ha;cases I<;>simp_all[Ty.isAgg,Ty.cells]
      match hzz:bH I,h1 with
      | [v],_ =>
       have hone:=aJ.one I _ _ (cR w c.S I J) v (by simp_all);simp only[List.headD_cons];cases v<;>first|rfl|exact hone.elim
    have hzl:(bH I).length=I.cells:=aJ.length _ _ _ (cR w c.S I J);have hza:(fU I).cells=(bH I).toArray:=(by grind);have hcells:((Array.range (n*I.cells)).map (fun i=>(bH I).toArray[i%(bH I).toArray.size]!)).toList=(List.replicate n (bH I)).flatten:=by
     grind[oL]
    obtain⟨cells',hf,hr⟩:=aH6 (c:=c) (w:=w) (n:=n) (place:=fun i=>some (i*I.cells,I.cells)) (fun _=>rfl) ps vs (List.replicate n I.zero) ((Array.range (n*I.cells)).map (fun i=>(bH I).toArray[i%(bH I).toArray.size]!)) ys hp hs (by
     rw[hcells];exact cR w c.S (.arr n I) J)
    obtain⟨g1,g2⟩:=hg.alloc (.cells cells' e (0,0));refine⟨.slice (some ⟨w.heap.size,0,none⟩) n n,w.alloc (.cells cells' e (0,0)),_,?_,g2,⟨rfl,rfl⟩,g1,bG.alloc nothing w _,fun b hb=>hb.imp id And.left,?_⟩
    ·have hle:¬(n*I.cells>2^24):=(by omega);by_cases h0:n*I.cells=0
     ·have hn0:n=0:=by
       grind[Nat.mul_eq_zero]
      subst hn0;have e0:(Array.range (0*I.cells)).map (fun i=>(bH I).toArray[i%(bH I).toArray.size]!)= #[]:=(by simp);rw[e0] at hf;have hle:¬(0*I.cells>2^24):=(by omega);have e1:(Array.range (0*I.cells)).map (fun x=>(#[]:Array Value)[x%(#[]:Array Value).size]!)= #[]:=(by simp);simp only[Instr.buildSlice,Sem.run_bind,aI hd,Result.andThen_ok,cE Y,hle,if_false,Nat.zero_mul,if_true,Sem.run_ite,Sem.run_pure];simp only[Nat.zero_mul] at e1;rw[e1,hf];rfl
     ·rw[← hza] at hf;simp only[Instr.buildSlice,Sem.run_bind,aI hd,Result.andThen_ok,cE Y,hle,if_false,h0,hz,Sem.run_ite,Sem.run_pure,hf];rfl
    ·obtain⟨hyn,U,hcs,hl,N⟩:=hr;refine⟨⟨some ⟨w.heap.size,0,none⟩,n,rfl,hyn,Nat.le_refl _,hn2,.inr ⟨w.heap.size,0,rfl,.inr ⟨Nat.le_refl _,Nat.lt_succ_self _⟩,fun i hi=>?_⟩⟩,(fun h=>by cases h),(fun _ cs=>by simp)⟩;refine⟨U[i],aJ.keep g2.le.S g2.same _ _ _ (N i hi (by omega)),?_⟩;obtain⟨pre,post,hf',hpl⟩:=gS (t:=I) (css:=U) (fun j hj=>aJ.length _ _ _ (N j (by omega) hj)) i (by omega);rw[Nat.zero_add,← hpl];refine lQ (cells:=cells') (e:=e) (fz:=(0,0)) ?_ (hcs.trans hf');show (w.heap.push _)[w.heap.size]? = _;simp_all
  | _=>simp_all
theorem aE2{mx:Bool}{x y:AV}{v u:Value}(hv:aG c w x v)(N:aG c w y u)(hc:(mm2 mx x y).1) :
  ∃r,((if mx then Builtin.max2 v u else Builtin.min2 v u)).run P w= .ok r w∧aG c w (mm2 mx x y).2 r:=by
 cases x with
 | val Y a =>
  cases Y with
  | i k =>
   cases y with
   | val J b =>
    cases J with
    | i k' =>
     obtain⟨rfl,U,ha⟩:=yG hv;obtain⟨rfl,I,hb⟩:=yG N;simp only[mm2] at hc ⊢;split at hc
     ·rename_i e;subst e;simp only[if_true];cases mx
      ·refine⟨_,by simp only[Builtin.min2]; rfl,?_⟩;grind
      ·refine⟨_,by simp only[Builtin.max2]; rfl,?_⟩;grind
     simp_all
    | _=>exact hc.elim
   | _=>exact hc.elim
  | u k =>
   cases y with
   | val J b =>
    cases J with
    | u k' =>
     obtain⟨rfl,U,ha⟩:=aCA hv;obtain⟨rfl,I,hb⟩:=aCA N;simp only[mm2] at hc ⊢;split at hc
     ·rename_i e;subst e;simp only[if_true];cases mx
      ·refine⟨_,by simp only[Builtin.min2]; rfl,?_⟩;grind
      ·refine⟨_,by simp only[Builtin.max2]; rfl,?_⟩;grind
     simp_all
    | _=>exact hc.elim
   | _=>exact hc.elim
  | _=>exact hc.elim
 | _=>exact hc.elim
where
 minI (a b:Int):(if b<a then b else a)=min a b:=by omega
 maxI (a b:Int):(if b>a then b else a)=max a b:=by omega
 minI_or (a b:Int):min a b=a∨min a b=b:=by omega
 maxI_or (a b:Int):max a b=a∨max a b=b:=by omega
 minN (a b:Nat):(if (b:Int)<a then (b:Int) else a)=((min a b:Nat):Int):=by omega
 maxN (a b:Nat):(if (b:Int)>a then (b:Int) else a)=((max a b:Nat):Int):=by omega
 minN_or (a b:Nat):min a b=a∨min a b=b:=by omega
 maxN_or (a b:Nat):max a b=a∨max a b=b:=by omega
theorem aRo{t:TypeId}{x:AV}{v:Value}(hv:aG c w x v):aG c w (aNE T t x) v:=by
 cases x with
 | flat l =>
  grind[aNE,aG.ofV,aKT]
 | _=>exact hv
end
end Go.Vc
namespace Go.Vc
open Go.RowKit
section
variable {P:Program} {T:Tab} {M:Perm} {w0:World} {c:Ctx} {h:List Obj} {w:World}
theorem aLI{t:TypeId}{k:IntKind}(I:uT P T t (.u k)):P.underlying t=some (.int k):=by
 obtain⟨d,hd,hb⟩:=I.desc;cases d<;>simp[dM] at hb
 simp_all
noncomputable def aUm(T:Tab)(h:List Obj)(s d:TypeId)(x:AV):Prop×AV :=
 match T d,x with
 | some (.sl (.u .u8)),.val .str b=>(T s=some .str,.val (.sl (.u .u8)) b)
 | some .str,x=>match T s with
  | some (.sl (.u .u8))=>match x with
   | .sub k sz off n=>match h[k]? with
    | some (.box _ (.val (.arr m (.u .u8)) I))=>(sz=1∧off+n≤m,.val .str ((I.drop off).take n))
    | _=>(False,.junk)
   | x=>match AV.as h (.sl (.u .u8)) x with
    | some b=>(True,.val .str b)
    | none=>(False,.junk)
  | _=>aEX T s d x
 | _,x=>aEX T s d x
theorem aNL(Y:eO P T)(hg:Good M w0 c h w){s d:TypeId}{b:List Nat}{v:Value}(hs:T s=some .str)(hd:T d=some (.sl (.u .u8)))(hv:aG c w (.val .str b) v) :
  ∃u w' c',(convert s d v).run P w= .ok u w'∧aBk P M w0 h c w (.val (.sl (.u .u8)) b) u w' c':=by
 obtain⟨st,rfl,rfl,hm⟩:=aF6 hv;obtain⟨e,U,he,_⟩:=cO (Y _ _ hd);have J:=run_bytes_of_string (P:=P) w s d e st (pI (Y _ _ hs)) U (aLI (Y _ _ he));obtain⟨w',I⟩:∃w',w'=w.drew.alloc (.cells (bytesRow st (grownCap w st.size 0 e)) e ((bytesRow st (grownCap w st.size 0 e)).size,(bytesRow st (grownCap w st.size 0 e)).size+1)):=⟨_,rfl⟩;rw[← I] at J;have hheap:w'.heap=w.heap.push (.cells (bytesRow st (grownCap w st.size 0 e)) e ((bytesRow st (grownCap w st.size 0 e)).size,(bytesRow st (grownCap w st.size 0 e)).size+1)):=by rw[I]; rfl
 have N:bG nothing w w':=⟨by rw[I]; rfl,by simp_all,by rw[I]; rfl,by simp_all,fun b hb _=>by grind⟩;have g1:=hg.call N;have g2:=mI hg N;refine⟨_,w',_,J,g2,⟨rfl,rfl⟩,g1,N,fun b hb=>hb.imp id And.left,⟨⟨_,_,_,rfl,?_,grownCap_ge _ _ _ _,grownCap_le_maxLen _ _ _ _ hm,.inr ⟨w.heap.size,0,rfl,.inr ⟨Nat.le_refl _,by simp_all⟩,fun i hi=>?_⟩⟩,(fun h=>by cases h),(fun _ cs=>by simp)⟩⟩
 ·exact jN st
 ·have hi':i<st.data.size:=by simp_all[jN]
  have hsz:st.data.size=st.size:=rfl;have hge:=grownCap_ge w st.size 0 e;refine⟨[.int .u8 (st.data[i].toNat:Int)],⟨?_,rfl,?_⟩,?_⟩
  ·simp[eI]
  ·have:(eI st)[i]=st.data[i].toNat:=(by simp[eI]);rw[this];have:=st.data[i].toNat_lt;grind[IntKind.max,IntKind.signed,IntKind.bits]
  ·have hc:=lQ (w:=w') (b:=w.heap.size) (cells:=bytesRow st (grownCap w st.size 0 e)) (e:=e) (fz:=((bytesRow st (grownCap w st.size 0 e)).size,(bytesRow st (grownCap w st.size 0 e)).size+1)) (pre:=(bytesRow st (grownCap w st.size 0 e)).toList.take i) (ds:=[.int .u8 (st.data[i].toNat:Int)]) (post:=(bytesRow st (grownCap w st.size 0 e)).toList.drop (i+1)) (by simp_all) (by
    have hlt:i<(bytesRow st (grownCap w st.size 0 e)).toList.length:=(by simp[bytesRow]; omega);have hg:(bytesRow st (grownCap w st.size 0 e)).toList[i]= .int .u8 (st.data[i].toNat:Int):=by
     simp only[bytesRow,Array.toList_append,Array.toList_map,Array.toList_replicate];grind
    grind[List.append_assoc,List.singleton_append,List.getElem_cons_drop,List.take_append_drop])
   grind[bytesRow,grownCap,Ty.cells]
theorem yK{s d e:TypeId}{b:List Nat}{bl off cap:Nat}(N:P.underlying s=some (.slice e))(Y:P.underlying e=some (.int .u8))(U:P.underlying d=some .string)(hm:b.length≤maxLen)
  (hb:∀i (hi:i<b.length),b[i]<256∧w.cell? ⟨bl,off+i,none⟩=some (.int .u8 (b[i]:Int))) :
  ∃u,(convert s d (.slice (some ⟨bl,off,none⟩) b.length cap)).run P w= .ok u w∧aG c w (.val .str b) u:=by
 have hl:(b.map UInt8.ofNat).length=b.length:=by simp
 have hback:∀i (hi:i<b.length),(UInt8.ofNat b[i]).toNat=b[i]:=fun i hi=>by
  simp_all
 have I:=run_convert_bytes_back (P:=P) w s d e ⟨bl,off,none⟩ cap (b.map UInt8.ofNat) N Y U (fun j hj=>by
  have J:j<b.length:=by simpa using hj
  have h2:=(hb j J).2;rw[List.getElem_map,hback j J];simp only[Addr.add];split
  ·rename_i h0; subst h0; simpa using h2
  ·exact h2)
 rw[hl] at I;refine⟨_,I,⟨⟨⟨(b.map UInt8.ofNat).toArray⟩,rfl,?_,?_⟩,(fun h=>by cases h),(fun _ cs=>by simp)⟩⟩
 ·apply List.ext_getElem
  all_goals grind[eI]
 ·show (b.map UInt8.ofNat).toArray.size≤maxLen;simp_all
theorem aLJ(hT:eO P T)(hg:Good M w0 c h w){s d:TypeId}{k off n m q:Nat}{xs:List Nat}{v:Value}(hs:T s=some (.sl (.u .u8)))(hd:T d=some .str)(hv:aG c w (.sub k 1 off n) v)
  (ho:h[k]? = some (.box q (.val (.arr m (.u .u8)) xs))) (hle:off+n≤m) :
  ∃u,(convert s d v).run P w= .ok u w∧aG c w (.val .str ((xs.drop off).take n)) u:=by
 obtain⟨_,hn,b,Y,hb,rfl⟩:=aLF hv;obtain⟨b',cells,e2,hhd,hheap,_,hcl⟩:=hg.objs k _ ho;rw[hhd] at hb;simp only[aH,Option.some.injEq] at hb;subst hb;obtain⟨e,hs',he,_⟩:=cO (hT _ _ hs);obtain⟨I,N,hcs,hcl2,J⟩:=hcl;have I:xs.length=m:=I;have hl:((xs.drop off).take n).length=n:=by grind
 have key:=yK (P:=P) (w:=w) (c:=c) (b:=(xs.drop off).take n) (bl:=b') (off:=off*1) (cap:=Y) hs' (aLI (hT _ _ he)) (pI (hT _ _ hd)) (by omega) (fun i hi=>by
  rw[hl] at hi;have hx:off+i<xs.length:=by omega
  have U:off+i<N.length:=by omega
  obtain⟨h1,_,h3⟩:=J (off+i) hx U;have hg2:((xs.drop off).take n)[i]'(by omega)=xs[off+i]:=by simp
  rw[hg2];refine⟨?_,?_⟩
  ·grind[IntKind.max,IntKind.signed,IntKind.bits]
  ·obtain⟨pre,post,hf,hpl⟩:=gS (t:=.u .u8) (css:=N) (fun j hj=>aJ.length _ _ _ (J j (by omega) hj)) (off+i) U;have hc:=lQ (w:=w) (b:=b') (cells:=cells) (e:=e2) (fz:=(0,0)) hheap (hcs.trans hf);have:=hc 0 (.int .u8 (xs[off+i]:Int)) (by grind);simp_all[Ty.cells,Nat.mul_one])
 simp_all
theorem aJ1(Y:eO P T)(hg:Good M w0 c h w){s d:TypeId}{x:AV}{b:List Nat}{v:Value}(hs:T s=some (.sl (.u .u8)))(hd:T d=some .str)(hv:aG c w x v)(ha:AV.as h (.sl (.u .u8)) x=some b) :
  ∃u,(convert s d v).run P w= .ok u w∧aG c w (.val .str b) u:=by
 obtain⟨a,len,cap,rfl,U,hle,hm,hor⟩:=vR (c:=⟨xG c h,c.hd,c.n,c.bl⟩) (aCf hg hv ha);obtain⟨e,J,he,_⟩:=cO (Y _ _ hs);have I:=pI (Y _ _ hd);have N:=aLI (Y _ _ he);subst U;rcases hor with rfl|⟨bl,off,rfl,_,hcell⟩
 ·cases a with
  | none=>exact⟨_,run_convert_bytes_nil w s e J N _ _ d I,⟨⟨ByteArray.empty,rfl,rfl,Nat.zero_le _⟩,(fun h=>by cases h),(fun _ cs=>by simp)⟩⟩
  | some a=>exact⟨_,run_convert_bytes_back w s d e a cap [] J N I (fun j hj=>by grind),⟨⟨⟨#[]⟩,rfl,rfl,Nat.zero_le _⟩,(fun h=>by cases h),(fun _ cs=>by simp)⟩⟩
 ·have hb:∀i (hi:i<b.length),b[i]<256∧w.cell? ⟨bl,off+i,none⟩=some (.int .u8 (b[i]:Int)):=fun i hi=>by
   obtain⟨ds,⟨rfl,_,hmx⟩,hc⟩:=hcell i hi;refine⟨?_,?_⟩
   ·grind[IntKind.max,IntKind.signed,IntKind.bits]
   ·have:=hc 0 (.int .u8 (b[i]:Int)) rfl;grind[Ty.cells]
  exact yK J N I (Nat.le_trans hle hm) hb
end
end Go.Vc
namespace Go.Vc
open Go.RowKit
def Ty.key1:Ty→Bool
 | .bool=>true
 | .u _=>true
 | .i _=>true
 | .str=>true
 | _=>false
def Ty.keyB:Ty→Bool
 | .arr _ t=>t.key1
 | t=>t.key1
def aCx{β:Type}(c:Ty):List (c.den×β)→c.den→Option β
 | [],_=>none
 | (k,v)::r,x=>if c.eqb x k=true then some v else aCx c r x
def aSV{β:Type}(c:Ty):List (c.den×β)→c.den→β→List (c.den×β)
 | [],x,y=>[(x,y)]
 | (k,v)::r,x,y=>if c.eqb x k=true then (k,y)::r else (k,v)::aSV c r x y
theorem aDR{c:Ty}(h:c.key1=true):c.cmpB=true∧c.deep=0∧c.isAgg=false∧c.cells=1:=by
 cases c<;>simp_all[Ty.key1,Ty.cmpB,Ty.deep,Ty.isAgg,Ty.cells]
theorem aNM{c:Ty}(h:c.keyB=true):c.cmpB=true∧c.deep≤100:=by
 cases c<;>first|grind[Ty.keyB,Ty.key1,Ty.cmpB,Ty.deep]|skip
 rename_i n t;have:=aDR (c:=t) h;grind[Ty.cmpB,Ty.deep]
theorem aRp{w w':World}{S S':Nat→Prop}:∀ {c:Ty} {x y:c.den} {v u:Value},c.key1=true→aJ w S c x [v]→aJ w' S' c y [u]→(c.eqb x y=true↔v=u)
 | .bool,x,y,v,u,_,I,J=>by
  simp_all[aJ,List.cons.injEq,and_true,Ty.eqb]
 | .u k,x,y,v,u,_,I,J=>by
  obtain⟨I,_⟩:=I;obtain⟨J,_⟩:=J;simp_all[List.cons.injEq,and_true,Ty.eqb,Int.natCast_inj]
 | .i k,x,y,v,u,_,I,J=>by
  obtain⟨I,_⟩:=I;obtain⟨J,_⟩:=J;simp_all[List.cons.injEq,and_true,Ty.eqb]
 | .str,x,y,v,u,_,I,J=>by
  obtain⟨s,I,U,_⟩:=I;obtain⟨t,J,N,_⟩:=J;simp only[List.cons.injEq,and_true] at I J;subst I; subst J; subst U; subst N;simp only[Ty.eqb,decide_eq_true_eq,Value.string.injEq];grind[aHW]
theorem wC{w:World}{S:Nat→Prop}{c:Ty}{x:c.den}{cs:List Value}(I:c.cells=1)(h:aJ w S c x cs):∃v,cs= [v]:=by
 have J:=(aJ.length _ _ _ h).trans I
 match cs,J with
 | [v],_=>simp_all
theorem aRq{t:Ty}{w w':World}{S S':Nat→Prop}(ht:t.key1=true):∀(X Y:List t.den) (css I:List (List Value)),css.length=X.length→I.length=Y.length→X.length=Y.length →
  (∀i (h:i<X.length) (h':i<css.length),aJ w S t X[i] css[i])→(∀i (h:i<Y.length) (h':i<I.length),aJ w' S' t Y[i] I[i])→((List.zipWith t.eqb X Y).all id=true↔css.flatten=I.flatten)
 | [],[],[],[],_,_,_,_,_=>by simp
 | x::X,y::Y,a::css,b::I,h1,h2,h3,hx,hy=>by
  have U:=hx 0 (by simp) (by simp);have J:=hy 0 (by simp) (by simp);simp only[List.getElem_cons_zero] at U J;obtain⟨v,rfl⟩:=wC (aDR ht).2.2.2 U;obtain⟨u,rfl⟩:=wC (aDR ht).2.2.2 J;have N:=aRq ht X Y css I (by simp_all) (by simp_all) (by simp_all) (fun i h h'=>by have:=hx (i+1) (by simp_all) (by simp_all); simpa using this) (fun i h h'=>by have:=hy (i+1) (by simp_all) (by simp_all); simpa using this);simp only[List.zipWith_cons_cons,List.all_cons,id,Bool.and_eq_true,N,aRp ht U J,List.flatten_cons,List.cons_append,List.nil_append,List.cons.injEq]
theorem aUn{w w':World}{S S':Nat→Prop}{c:Ty}{x y:c.den}{v u:Value}(hc:c.keyB=true)(J:bR w S c x v)(I:bR w' S' c y u):c.eqb x y=true↔v=u:=by
 unfold bR at J I;cases c<;>first|(simp[Ty.keyB,Ty.key1] at hc; done)|skip
 case arr n t =>
  simp only[Ty.isAgg,if_true] at J I;obtain⟨⟨cs⟩,rfl,J⟩:=J;obtain⟨⟨ds⟩,rfl,I⟩:=I;obtain⟨h1,U,h2,h3,h4⟩:=J;obtain⟨h1',N,Y,h3',h4'⟩:=I;simp only at h2 Y;have:=aRq (t:=t) hc x y U N h3 h3' (h1.trans h1'.symm) (fun i h h'=>h4 i h h') (fun i h h'=>h4' i h h');grind[Ty.eqb]
 all_goals (simp only[Ty.isAgg,Bool.false_eq_true,if_false] at J I; exact aRp hc J I)
section
variable {P:Program} {T:Tab}
theorem aUo(I:Bool)(n:Nat){t:TypeId}{c:Ty}(J:uT P T t c)(hc:c.key1=true)(v:Value)(w:World):(Instr.checkKey I (n+1) t v).run P w= .ok () w:=by
 obtain⟨d,hd,hb⟩:=J.desc;unfold Instr.checkKey;simp only[Sem.run_bind,aI hd,Result.andThen_ok];cases c<;>first|(simp[Ty.key1] at hc; done)|skip
 all_goals (cases d<;>first|(simp[dM] at hb; done)|skip)
 all_goals rfl
def wD(I:Bool)(d:Nat)(e:TypeId)(n:Nat)(xs:Array Value):List Nat→Sem Unit
 | []=>pure ()
 | i::r=>do
  let a ← part e xs (i*n)
  Instr.checkKey I d e a
  wD I d e n xs r
theorem aGP(I:Bool)(d:Nat)(t e:TypeId)(len n:Nat)(xs:Array Value)(w:World)(ht:P.underlying t=some (.array len e))(U:∀w,(sizeOf e).run P w= .ok n w) :
  (Instr.checkKey I (d+1) t (.agg xs)).run P w=(wD I d e n xs (List.range' 0 len)).run P w:=by
 simp only[Instr.checkKey,Sem.run_bind,aI ht,Result.andThen_ok];simp only[Std.Legacy.Range.forIn_eq_forIn_range',Std.Legacy.Range.size];simp only[Nat.sub_zero,Nat.add_sub_cancel,Nat.div_one];generalize List.range' 0 len=N;clear ht
 induction N generalizing w with
 | nil=>rfl
 | cons i r Y =>
  simp only[List.forIn_cons,wD,Sem.run_bind,U,Result.andThen_ok];generalize (part e xs (i*n)).run P w=r1;cases r1 with
  | ok a w1 =>
   simp only[Result.andThen_ok];generalize (Instr.checkKey I d e a).run P w1=J;cases J with
   | ok b w2=>simp_all
   | halt x w2=>rfl
  | halt x w1=>rfl
theorem aBm(J:Bool)(d:Nat){w:World}{S:Nat→Prop}{e:TypeId}{t:Ty}(N:uT P T e t)(ht:t.key1=true){xs:Array Value}:∀(k i:Nat) (X:List t.den) (pre:List Value) (css:List (List Value)) (w':World),
   X.length=k→css.length=k→(∀j (h:j<X.length) (h':j<css.length),aJ w S t X[j] css[j])→xs.toList=pre++css.flatten→pre.length=i*t.cells→(wD J (d+1) e t.cells xs (List.range' i k)).run P w'= .ok () w'
 | 0,i,X,_,_,w',hX,_,_,_,_=>by rfl
 | k+1,i,X,pre,css,w',hX,hc,hr,hx,hp=>by
  match X,css,hX,hc with
  | x::X,c::cs,hX,hc =>
   have U:=hr 0 (by simp) (by simp);simp only[List.getElem_cons_zero] at U;obtain⟨va,Y,q1⟩:=wB N (cs:=xs) (pre:=pre) (ds:=c) (post:=cs.flatten) (by simp_all) U w';rw[hp] at Y;have l1:=aJ.length _ _ _ U;have I:=aBm J d N ht (xs:=xs) k (i+1) X (pre++c) cs w' (by simp_all) (by simp_all)
    (fun j h h'=>by have:=hr (j+1) (by simp_all) (by simp_all); simpa using this) (by simp_all) (by grind)
   simp only[List.range'_succ,wD,Sem.run_bind,Y,Result.andThen_ok,aUo J d N ht,I]
theorem aCC(N:Bool)(n:Nat)(U:eO P T){t:TypeId}{c:Ty}(ht:T t=some c)(hc:c.keyB=true){w:World}{S:Nat→Prop}{x:c.den}{v:Value}(J:bR w S c x v)(w':World):(Instr.checkKey N (n+2) t v).run P w'= .ok () w':=by
 cases c<;>first|(simp[Ty.keyB,Ty.key1] at hc; done)|exact aUo N (n+1) (U _ _ ht) hc v w'|skip
 rename_i m q;obtain⟨d,hd,hb⟩:=(U _ _ ht).desc;cases d<;>simp[dM] at hb
 rename_i len e;obtain⟨⟨⟨rfl,I⟩,hb3⟩,hb4⟩:=hb;unfold bR at J;simp only[Ty.isAgg,if_true] at J;obtain⟨cs,rfl,J⟩:=J;obtain⟨h1,Y,h2,h3,h4⟩:=J;rw[aGP N (n+1) t e m q.cells cs w' hd (cE (U _ _ I))];exact aBm N n (U _ _ I) hc m 0 x [] Y w' h1 (h3.trans h1) (fun j h h'=>h4 j h h') (by simp_all) (by simp)
def aBn(c:Ty){β:Type}(x:c.den):List (c.den×β)→List MapEntry→Nat→Option (Nat×Value)
 | (k,_)::m,e::es,i=>if c.eqb x k=true then some (i,e.val) else aBn c x m es (i+1)
 | _,_,_=>none
theorem aE3{c:Ty}{β:Type}{w:World}{S:Nat→Prop}{x:c.den}:∀(m:List (c.den×β)) (N:List MapEntry) (i:Nat),N.length=m.length →
  match aCx c m x with
  | some y=>∃j e k,aBn c x m N i=some (i+j,e.val)∧N[j]? = some e∧m[j]? = some (k,y)∧c.eqb x k=true∧ ∀J,aSV c m x J=m.set j (k,J)
  | none=>aBn c x m N i=none∧ ∀J,aSV c m x J=m++ [(x,J)]
 | [],[],i,_=>by simp[aCx,aBn,aSV]
 | (k,y)::m,e::N,i,hl=>by
  have I:=aE3 (w:=w) (S:=S) (x:=x) m N (i+1) (by simp_all);simp only[aCx,aBn,aSV];by_cases hq:c.eqb x k=true
  ·simp only[hq,if_true];exact⟨0,e,k,rfl,rfl,rfl,hq,fun J=>rfl⟩
  ·simp only[hq,if_false];split at I
   ·rename_i y1 hy;obtain⟨j,e1,U,r1,r2,r3,Y,r5⟩:=I;simp only[hy];exact⟨j+1,e1,U,by grind,by simp_all,by simp_all,Y,fun J=>by simp_all⟩
   simp_all
theorem aBo(N:eO P T){t:TypeId}{c:Ty}(ht:T t=some c)(hc:c.keyB=true){β:Type}{w:World}{S:Nat→Prop}{x:c.den}{v:Value}(hx:bR w S c x v)(w':World):∀(m:List (c.den×β)) (I:List MapEntry) (i:Nat),I.length=m.length →
  (∀j (h:j<m.length) (h':j<I.length),bR w S c m[j].1 I[j].key)→(Instr.findAsking t v I i).run P w'= .ok (aBn c x m I i) w'
 | [],[],i,_,_=>by rfl
 | (k,y)::m,e::I,i,hl,U=>by
  have Y:=U 0 (by simp) (by simp);simp only[List.getElem_cons_zero] at Y;have hq:=zO (P:=P) N w' ht (aNM hc).1 (aNM hc).2 hx Y;have J:=aBo N ht hc hx w' m I (i+1) (by simp_all) (fun j h h'=>by have:=U (j+1) (by simp_all) (by simp_all); simp_all);simp only[Instr.findAsking,Sem.run_bind,hq,Result.andThen_ok,aBn,Sem.run_ite,J,Sem.run_pure];grind
theorem aF8{t:TypeId}{c:Ty}(hT:uT P T t c)(hc:c.key1=true){d:TypeDesc}(hd:P.underlying t=some d){β:Type}{w:World}{S:Nat→Prop}{x:c.den}{v:Value}(J:bR w S c x v):∀(m:List (c.den×β)) (N:List MapEntry) (i:Nat),N.length=m.length →
  (∀j (h:j<m.length) (h':j<N.length),bR w S c m[j].1 N[j].key)→Instr.findNow d v N i=some (aBn c x m N i)
 | [],[],i,_,_=>by rfl
 | (k,y)::m,e::N,i,hl,hr=>by
  have I:=hr 0 (by simp) (by simp);simp only[List.getElem_cons_zero] at I;have Y:=aF8 hT hc hd J m N (i+1) (by simp_all) (fun j h h'=>by have:=hr (j+1) (by simp_all) (by simp_all); simp_all);have hsame:Instr.sameNow d v e.key=some (c.eqb x k):=by
   have he:=aUn (c:=c) (by cases c<;>simp_all[Ty.key1,Ty.keyB]) J I;obtain⟨d',U,hb⟩:=hT.desc;rw[hd] at U;cases U;unfold bR at J I;cases c<;>first|(simp[Ty.key1] at hc; done)|skip
   all_goals (cases d<;>first|grind[dM]|skip)
   all_goals simp only[Ty.isAgg,Bool.false_eq_true,if_false] at J I
   ·simp only[aJ,List.cons.injEq,and_true] at J I;rw[J,I]; rfl
   ·obtain⟨J,_⟩:=J;obtain⟨I,_⟩:=I;simp only[List.cons.injEq,and_true] at J I;rw[J,I];simp only[Instr.sameNow,if_true,Ty.eqb,Option.some.injEq];grind
   ·obtain⟨J,_⟩:=J;obtain⟨I,_⟩:=I;simp only[List.cons.injEq,and_true] at J I;rw[J,I];simp only[Instr.sameNow,if_true,Ty.eqb,Option.some.injEq];rfl
   ·obtain⟨s,J,e1,_⟩:=J;obtain⟨u,I,e2,_⟩:=I;simp only[List.cons.injEq,and_true] at J I;rw[J,I];have:(s == u)=decide (eI s=eI u):=by
     rw[Bool.eq_iff_iff,Go.MapKept.bytes_beq,decide_eq_true_eq];grind[aHW]
    grind[Instr.sameNow,Ty.eqb]
  grind[Instr.findNow,aBn]
theorem aDS(J:eO P T){t:TypeId}{c:Ty}(ht:T t=some c)(hc:c.keyB=true){β:Type}{w:World}{S:Nat→Prop}{x:c.den}{v:Value}(hx:bR w S c x v)(w':World)(m:List (c.den×β))(I:List MapEntry)(N:I.length=m.length)
  (U:∀j (h:j<m.length) (h':j<I.length),bR w S c m[j].1 I[j].key):(Instr.findKey t v I).run P w'= .ok (aBn c x m I 0) w':=by
 obtain⟨d,hd,hb⟩:=(J _ _ ht).desc;simp only[Instr.findKey,Sem.run_bind,aI hd,Result.andThen_ok];by_cases Y:c.key1=true
 ·rw[aF8 (J _ _ ht) Y hd hx m I 0 N U]; rfl
 ·have hn:Instr.findNow d v I 0=none∨Instr.findNow d v I 0=some (aBn c x m I 0):=by
   cases I with
   | nil =>
    cases m with
    | nil=>right; rfl
    | cons _ _=>grind
   | cons e I =>
    left
    cases c<;>first|grind[Ty.keyB,Ty.key1]|skip
    cases d<;>simp[dM] at hb
    rfl
  rcases hn with h|h
  ·grind[aBo]
  simp_all
theorem aKU{c:Ty}{x:c.den}{v:Value}{w:World}{S:Nat→Prop}(hc:c.key1=true)(I:aJ w S c x [v])(n:Nat):Instr.sameBits n v v=true:=by
 cases c<;>first|(simp[Ty.key1] at hc; done)|skip
 ·simp_all[aJ,List.cons.injEq,and_true,Instr.sameBits]
 ·obtain⟨I,_⟩:=I; simp_all[List.cons.injEq,and_true,Instr.sameBits]
 ·obtain⟨I,_⟩:=I; simp_all[List.cons.injEq,and_true,Instr.sameBits]
 ·obtain⟨s,I,_⟩:=I; simp only[List.cons.injEq,and_true] at I; subst I;simp only[Instr.sameBits];exact(Go.MapKept.bytes_beq _ _).2 rfl
theorem aSW{c:Ty}{x:c.den}{v:Value}{w:World}{S:Nat→Prop}(hc:c.keyB=true)(I:bR w S c x v)(w':World):(Instr.keyThatStays v v).run P w'= .ok v w':=by
 have hs:Instr.sameBits 10000 v v=true:=by
  unfold bR at I;cases c<;>first|(simp[Ty.keyB,Ty.key1] at hc; done)|skip
  case arr n t =>
   simp only[Ty.isAgg,if_true] at I;obtain⟨⟨cs⟩,rfl,I⟩:=I;obtain⟨h1,J,U,h3,h4⟩:=I;simp only at U;subst U;simp only[Instr.sameBits,beq_self_eq_true,Bool.true_and,List.all_eq_true];have N:∀v∈J.flatten,Instr.sameBits 9999 v v=true:=fun v hv=>by
    obtain⟨l,Y,hv⟩:=List.mem_flatten.1 hv;obtain⟨i,hi,rfl⟩:=List.mem_iff_getElem.1 Y;have:=h4 i (by omega) hi;obtain⟨u,hu⟩:=wC (aDR (c:=t) hc).2.2.2 this;rw[hu] at hv this;simp at hv;subst hv;exact aKU (c:=t) hc this 9999
   intro p hp;have:p.1=p.2∧p.1∈J.flatten:=by
    obtain⟨i,hi,rfl⟩:=List.mem_iff_getElem.1 hp;simp
   grind
  all_goals (simp only[Ty.isAgg,Bool.false_eq_true,if_false] at I; grind[aKU,Ty.keyB])
 simp[Instr.keyThatStays,hs]
end
end Go.Vc
namespace Go.Vc
open Go.RowKit
def aUp(h:List Obj):AV→Option Nat
 | .ptr i []=>match h[i]? with
  | some (.box _ _)=>some i
  | _=>none
 | _=>none
def allTags(h:List Obj):List AV→Option (List Nat)
 | []=>some []
 | v::r=>match aUp h v,allTags h r with
  | some i,some l=>some (i::l)
  | _,_=>none
def evA(G:Nat→AV)(env:List (Nat×AV)):Operand→AV
 | .tmp t=>look env t
 | .const v=>aDJ v
 | .global g=>G g
 | .func f=>.fn f [] []
def iL:Operand→Bool
 | .const (.func _ _ _)=>false
 | .const v=>aPW v
 | _=>true
theorem wE{c:Ctx}{w:World}{G:Nat→AV}{env:List (Nat×AV)}{a:Act}(J:aA4 c w env a.tmps)(I:jM G c.S w){x:Operand}(N:iL x=true):aG c w (evA G env x) (a.eval x):=by
 cases x with
 | tmp t=>exact J t
 | const v =>
  refine aT6 ?_ ?_
  ·cases v<;>first|exact N|rfl
  grind[iL]
 | global g =>
  exact(I g).keep (c:=⟨c.S,fun _=>Go.undef,0,fun _ _=>False⟩) (c':=c) ⟨fun _ h=>h,Nat.zero_le _,fun i hi=>absurd hi (Nat.not_lt_zero i)⟩ (.refl _ _)
 | func f=>exact⟨⟨(fun i hi=>by cases hi),(fun i hi=>by cases hi),rfl⟩,(fun h=>by cases h),(fun _ U=>by simp[Act.eval])⟩
def aE4(i:Nat):AV→Prop×AV
 | .tup I=>(i<I.length,I.getD i .junk)
 | _=>(False,.junk)
def aC8:AV→Prop×AV
 | .ptr i p=>(True,.ptr i p)
 | .roa t x=>(True,.roa t x)
 | .fn f I J=>(True,.fn f I J)
 | _=>(False,.junk)
def aC9:List AV→Option ((t:Ty)×t.den)
 | []=>some ⟨.unit,()⟩
 | .roa t x::r=>match aC9 r with
  | some ⟨u,y⟩=>some ⟨.pair (.rp t) u,(x,y)⟩
  | none=>none
 | _=>none
def aDa(h:List Obj)(f:FuncId)(first caps:List AV):Prop×AV :=
 match allTags h first,allTags h caps with
 | some I,some J=>(True,.fn f I J)
 | some I,none=>match aC9 caps with
  | some ⟨t,y⟩=>(I= [],.val (.clo f t) y)
  | none=>(False,.junk)
 | _,_=>(False,.junk)
def xU(h:List Obj)(l:List Nat):Bool:=l.all fun i=>match h[i]? with
 | some (.box _ _)=>true
 | _=>false
def lL:Ty→Bool
 | .unit=>true
 | .pair (.rp _) r=>lL r
 | _=>false
def aDT(E:Env)(h:List Obj)(callee:Callee)(args:List AV)(argTypes:List TypeId)(ρ:Operand→AV):Prop×AV :=
 match callee with
 | .builtin .len=>match args,argTypes with
  | [x],[t]=>aBh E.T h t x
  | _,_=>(False,.junk)
 | .builtin .min=>aT9 false args
 | .builtin .max=>aT9 true args
 | .value x=>match ρ x with
  | .fn f [] I=>if xU h I=true then zQ E.Γ h f (args++I.map fun i=>.ptr i []) else (False,.junk)
  | .val (.clo g t) y=>if lL t=true then zQ E.Γ h g (args++uL t y) else (False,.junk)
  | _=>(False,.junk)
 | _=>(False,.junk)
def aUq(E:Env)(t:TypeId)(I J:Ty):Prop:=match E.mp t with
 | some (k,e)=>E.T k=some I∧E.T e=some J
 | none=>False
def aBp(E:Env)(h:List Obj)(t:TypeId)(m k:AV)(ok:Bool):Prop×AV :=
 match m with
 | .mp i=>match h[i]? with
  | some (.map I J l)=>match AV.as (h.map cL) I k with
   | some x=>(I.keyB=true∧J.okB=true∧aUq E t I J,if ok then .tup [.val J ((aCx I l x).getD J.zero),.val .bool (aCx I l x).isSome] else .val J ((aCx I l x).getD J.zero))
   | none=>(False,.junk)
  | _=>(False,.junk)
 | _=>(False,.junk)
def Ty.isNil:Ty→Bool
 | .nili=>true
 | _=>false
def aNN(E:Env)(h:List Obj)(t:TypeId)(x:AV):Prop×AV :=
 match E.T t with
 | some c=>match AV.as (h.map cL) c x with
  | some d=>(c.isNil=false,.val (.ifc t c) d)
  | none=>(False,.junk)
 | none=>(False,.junk)
def aBq(E:Env)(x:AV)(t:TypeId)(ok:Bool):Prop×AV :=
 match E.T t with
 | some c=>match x with
  | .val (.ifc k c') d=>if k=t then (c.isNil=false,if ok then .tup [.val c' d,.val .bool true] else .val c' d) else (ok=true∧c.okB=true,.tup [.val c c.zero,.val .bool false])
  | .val .nili _=>(ok=true∧c.okB=true,.tup [.val c c.zero,.val .bool false])
  | _=>(False,.junk)
 | none=>(False,.junk)
def aNO(T:Tab)(op:BinOp)(t:TypeId)(x:AV):Prop×AV :=
 match x with
 | .val .nili _=>match op with
  | .eql=>(T t=some .nili,.val .bool true)
  | .neq=>(T t=some .nili,.val .bool false)
  | _=>(False,.junk)
 | _=>(False,.junk)
noncomputable def aUr(T:Tab)(op:BinOp)(t:TypeId)(x y:AV):Prop×AV :=
 match op,x,y with
 | .add,.val (.i k) a,.val (.i I) b=>(I=k,.val (.i k) (k.wrap (a+b)))
 | op,x,y=>rW T op t x y
noncomputable def pv(E:Env)(h:List Obj)(ρ:Operand→AV)(o:Oper):Prop×AV :=
 match o.op with
 | .move x=>(True,aNE E.T o.type (ρ x))
 | .assign x=>(True,aNE E.T o.type (ρ x))
 | .load t a=>aBg E.T h t (ρ a)
 | .binOp op t x y _=>match y with
  | .const .nilIface=>aNO E.T op t (ρ x)
  | y=>bif E.w then aUr E.T op t (ρ x) (ρ y) else rW E.T op t (ρ x) (ρ y)
 | .unOp op _ x=>aPY op (ρ x)
 | .convert s d x=>aUm E.T h s d (ρ x)
 | .fieldAddr s x k=>oJ E.T s (ρ x) k
 | .field s x k=>aB8 E.T s (ρ x) k
 | .indexAddr t x i=>aDM E.T h t (ρ x) (ρ i)
 | .index t x i=>aDN E.T t (ρ x) (ρ i)
 | .slice t x lo hi mx=>aDO E.T h t (ρ x) (lo.map ρ) (hi.map ρ) (mx.map ρ)
 | .extract x i=>aE4 i (ρ x)
 | .build t J=>bif E.dz t then aEY E.T t (J.toList.map fun p=>(p.1,ρ p.2)) else aCa E.T t (J.toList.map fun p=>(p.1,ρ p.2))
 | .buildSlice t n J=>qD E.T t n (J.toList.map fun p=>(p.1,ρ p.2))
 | .makeFunc (.func f) first I=>aDa h f (first.toList.map ρ) (I.toList.map ρ)
 | .nilCheck x=>aC8 (ρ x)
 | .lookup t m k ok=>aBp E h t (ρ m) (ρ k) ok
 | .makeInterface t x=>aNN E h t (ρ x)
 | .typeAssert x _ t ok=>aBq E (ρ x) t ok
 | .call c=>aDT E h c.callee (c.args.toList.map ρ) c.argTypes.toList ρ
 | .alloc t=>match E.T t with
  | some N=>(N.okB=true,.junk)
  | none=>(False,.junk)
 | _=>(False,.junk)
section
variable {P:Program} {M:Perm} {w0:World} {c:Ctx} {h:List Obj} {w:World}
theorem bR.shape{w:World}{S:Nat→Prop}{t:Ty}{x:t.den}{v:Value}(h:bR w S t x v)(J:t≠ .nili):v≠ .nilIface∧(t.isAgg=false→ ∀cs,v≠ .agg cs):=by
 unfold bR at h;split at h
 ·grind
 ·rename_i I;cases t<;>first|(simp[Ty.isAgg] at I; done)|skip
  case bool=>grind[aJ]
  case u=>grind[aJ]
  case i=>grind[aJ]
  case str=>obtain⟨s,e,_⟩:=h; simp_all
  case sl=>obtain⟨a,l,q,e,_⟩:=h; simp_all
  case rp=>obtain⟨b,off,ds,e,_⟩:=h; simp_all
  case clo=>obtain⟨N,e,_⟩:=h; simp_all
  case ifc=>obtain⟨u,ds,e,_⟩:=h; simp_all
  case nili=>simp_all
  all_goals grind[aJ]
theorem aNP{op:BinOp}{t:TypeId}{v u:Value}{ox oy:Operand}(I:v≠ .nilIface)(J:∀cs,v≠ .agg cs):(eqGuard op t ox oy v u).run P w= .ok () w:=by
 cases op<;>first|rfl|skip
 all_goals (cases v<;>first|exact absurd rfl I|exact absurd rfl (J _)|rfl)
theorem aKV{T:Tab}{op:BinOp}{t:TypeId}{N:Ty}(I:uT P T t N)(J:N.isAgg=true){xs:Array Value}{u:Value}{ox oy:Operand}:(eqGuard op t ox oy (.agg xs) u).run P w= .ok () w:=by
 have U:=I.guard J;cases u with
 | agg Y=>grind[run_eqGuard_agg]
 | _=>cases op<;>rfl
theorem aBr{T:Tab}(N:eO P T){op:BinOp}{t:TypeId}{x y:AV}{v u:Value}{ox oy:Operand}(hv:aG c w x v)(hc:(rW T op t x y).1):(eqGuard op t ox oy v u).run P w= .ok () w:=by
 cases x with
 | val Y a =>
  have I:=fun hn=>(aG.toV hv).shape hn;cases Y with
  | pair p q =>
   obtain⟨U,rfl⟩:=hv.2.1 rfl;cases y with
   | val J b =>
    simp only[rW] at hc;by_cases e:J= .pair p q
    ·subst e;simp only[dite_true] at hc;cases op<;>simp only at hc<;>first|exact hc.elim|exact aKV (N _ _ hc.1) rfl
    simp_all
   | _=>exact hc.elim
  | arr n q =>
   obtain⟨U,rfl⟩:=hv.2.1 rfl;cases y with
   | val J b =>
    simp only[rW] at hc;by_cases e:J= .arr n q
    ·subst e;simp only[dite_true] at hc;cases op<;>simp only at hc<;>first|exact hc.elim|exact aKV (N _ _ hc.1) rfl
    simp_all
   | _=>exact hc.elim
  | unit=>exact hc.elim
  | expr=>exact hc.elim
  | nili=>exact hc.elim
  | ifc _ _=>exact hc.elim
  | _=>exact aNP (I (by simp)).1 ((I (by simp)).2 rfl)
 | _=>exact hc.elim
theorem aDU{ρ:Operand→AV}{a:Act}:∀ {l:List (Nat×Operand)},(∀p∈l,aG c w (ρ p.2) (a.eval p.2))→uF c w (l.map fun p=>(p.1,ρ p.2)) (l.map fun p=>(p.1,a.eval p.2))
 | [],_=>.nil
 | p::r,h=>.cons (h p (by simp)) (aDU fun q hq=>h q (by simp[hq]))
theorem aH7{ρ:Operand→AV}{a:Act}{o:Option Operand}(h:∀x,o=some x→aG c w (ρ x) (a.eval x)):aC7 c w (o.map ρ) (o.map a.eval):=by
 cases o with
 | none=>exact .none
 | some x=>exact .some (h x rfl)
theorem aDV(hg:Good M w0 c h w):∀ {l:List AV} {vs:List Value} {I:List Nat},allTags h l=some I→l.length=vs.length→(∀i (N:i<l.length) (h2:i<vs.length),aG c w l[i] vs[i])→(∀i∈I,i<c.n)∧vs=I.map c.hd
 | [],vs,I,J,Y,_=>by
  grind[allTags]
 | v::r,[],I,J,Y,_=>by grind
 | v::r,u::us,I,J,Y,hv=>by
  simp only[allTags] at J;split at J
  ·rename_i i l N h2;cases J;obtain⟨q1,q3⟩:=aDV hg h2 (by simpa using Y) (fun i hi hi'=>by have:=hv (i+1) (by simp_all) (by simp_all); simp_all);have h0:=hv 0 (by simp) (by simp);simp only[List.getElem_cons_zero] at h0;unfold aUp at N;split at N
   ·rename_i j;split at N
    ·rename_i bv ho;cases N;obtain⟨hj,b,hb,rfl⟩:=zT h0;obtain⟨b',cells,e,U,_⟩:=hg.objs _ _ ho;rw[U] at hb;simp[aH] at hb;subst hb;refine⟨fun k hk=>?_,?_⟩
     ·grind
     ·rw[List.map_cons,← q3,U]; rfl
    grind
   grind
  grind
theorem aZD{f:FuncId}{I l2:List Nat}(J:∀i∈I,i<c.n)(N:∀i∈l2,i<c.n):aG c w (.fn f I l2) (.func (.func f) (I.map c.hd).toArray (l2.map c.hd).toArray) :=
 ⟨⟨J,N,rfl⟩,(fun h=>by cases h),(fun _ U=>by simp)⟩
theorem aXk{vs:List AV}{v:Value}(hv:aG c w (.tup vs) v){i:Nat}(hi:i<vs.length):∃u,(Instr.extract v i).run P w= .ok u w∧aG c w (vs.getD i .junk) u:=by
 obtain⟨U,rfl,hl,hx⟩:=hv;have J:i<U.length:=by omega
 refine⟨U[i],by simp[Instr.extract,J],?_⟩;rw[List.getD_eq_getElem?_getD,List.getElem?_eq_getElem hi];have:=hx i hi J;simp only[Option.getD_some];have I:∀us,vs[i]≠ .tup us:=fun us e=>by rw[e] at this; exact this.1.elim
 revert this I;generalize vs[i]=a;generalize U[i]=x;intro this I;cases a<;>first|exact absurd rfl (I _)|trivial|exact this|skip
 obtain⟨N,_,Y⟩:=this;have Y:=Y rfl;simp only[aE] at N;cases x<;>simp[Value.cells] at N Y<;>first|exact N|skip
end
end Go.Vc
namespace Go.Vc
open Go.RowKit
section
variable {P:Program} {M:Perm} {w0:World} {c:Ctx} {h:List Obj} {w:World}
structure dB(P:Program)(E:Env):Prop where
 T:eO P E.T
 Γ:∀f vs sp,E.Γ f vs=some sp→(FOK P E.G f sp∧ ∃fn,P.funcs[f]? = some fn∧fn.name ≠ "runtime.NumGoroutine" ∧ fn.body.isSome=true)∨NOK P E.G f sp
 el:∀t ct,E.T t=some (.sl ct)→P.underlying t=some (.slice (E.el t))
 mp:∀t k e,E.mp t=some (k,e)→P.underlying t=some (.map k e)
theorem uW{f:FuncId}{args:Array Value}(J:∃fn,P.funcs[f]? = some fn∧fn.name ≠ "runtime.NumGoroutine" ∧ fn.body.isSome=true):(callFunc f args).run P w= .ok (.enter f args) w:=by
 obtain⟨fn,N,U,I⟩:=J;obtain⟨b,hb⟩:=Option.isSome_iff_exists.1 I;simp_all[callFunc]
theorem aCg{ρ:Operand→AV}{a:Act}{l:List Operand}(h:∀x∈l,aG c w (ρ x) (a.eval x)):∀i (I:i<(l.map ρ).length) (J:i<(l.map a.eval).length),aG c w (l.map ρ)[i] (l.map a.eval)[i]:=fun i I J=>by
 simp_all
theorem aRr{f:FuncId}{l2:List Nat}{v:Value}(hv:aG c w (.fn f [] l2) v):(∀i∈l2,i<c.n)∧v= .func (.func f) #[] (l2.map c.hd).toArray:=by
 obtain⟨I,_,J⟩:=hv;have J:=J rfl;simp only[aE] at I;obtain⟨_,N,I⟩:=I;refine⟨N,?_⟩;cases v<;>simp[Value.cells] at I J
 simp_all
theorem aNQ{g:FuncId}{t:Ty}{y:t.den}{v:Value}(hv:aG c w (.val (.clo g t) y) v):∃I:List Value,v= .func (.func g) #[] I.toArray∧aJ w c.S t y I:=by
 have:=aG.toV hv;unfold bR at this;rw[if_neg (by simp[Ty.isAgg])] at this;obtain⟨I,e,J⟩:=this;simp_all
theorem aUs:∀ {l:List AV} {vs:List Value} {t:Ty} {y:t.den},aC9 l=some ⟨t,y⟩→l.length=vs.length→(∀i (h1:i<l.length) (h2:i<vs.length),aG c w l[i] vs[i])→aJ w c.S t y vs
 | [],vs,t,y,I,U,_=>by
  simp only[aC9,Option.some.injEq,Sigma.mk.injEq] at I;obtain⟨rfl,N⟩:=I;cases vs with
  | nil=>rfl
  | cons _ _=>grind
 | v::r,[],t,y,I,U,_=>by grind
 | v::r,x::vs,t,y,I,U,hv=>by
  have Y:=hv 0 (by simp) (by simp);simp only[List.getElem_cons_zero] at Y;cases v<;>first|grind[aC9]|skip
  rename_i t1 x1;simp only[aC9] at I;split at I
  ·rename_i u z hr;simp only[Option.some.injEq,Sigma.mk.injEq] at I;obtain⟨rfl,N⟩:=I;have N:=eq_of_heq N;subst N;have J:=aUs hr (vs:=vs) (by simp_all) (fun i h1 h2=>by have:=hv (i+1) (by simp_all) (by simp_all); simp_all);obtain⟨⟨b,off,ds,e,hb,hd,hc⟩,_,h3⟩:=Y;have h3:=h3 rfl;have ex:x= .pointer (some ⟨b,off,none⟩):=by
    simp_all[Value.cells]
   refine⟨[x],vs,rfl,⟨b,off,ds,by rw[ex],hb,hd,hc⟩,J⟩
  grind
theorem aBs(hg:Good M w0 c h w):∀ {l2:List Nat},xU h l2=true→(∀i∈l2,i<c.n)→ ∀i (I:i<(l2.map fun i=>AV.ptr i []).length) (Y:i<(l2.map c.hd).length),aG c w (l2.map fun i=>AV.ptr i [])[i] (l2.map c.hd)[i]:=by
 intro l2 hb U i I Y;simp only[List.length_map] at I;simp only[List.getElem_map];simp only[xU,List.all_eq_true] at hb;have:=hb l2[i] (List.getElem_mem I);split at this
 ·rename_i n v N;obtain⟨b,cells,e,J,_⟩:=hg.objs _ _ N;refine⟨⟨U _ (List.getElem_mem I),b,by rw[J]; rfl,by rw[J]; rfl⟩,(fun h=>by cases h),(fun _ cs=>by simp_all)⟩
 simp_all
theorem aH8:∀ {t:Ty} {y:t.den} {I:List Value},lL t=true→aJ w c.S t y I→I.length=(uL t y).length∧ ∀i (h1:i<(uL t y).length) (N:i<I.length),aG c w (uL t y)[i] I[i]
 | .unit,_,I,_,J=>by simp only[aJ] at J; subst J; exact⟨rfl,fun i h=>by simp_all⟩
 | .pair (.rp a) r,y,I,hb,J=>by
  obtain⟨c1,c2,rfl,⟨b,off,ds,rfl,q⟩,N⟩:=J;obtain⟨U,k2⟩:=aH8 (t:=r) (y:=y.2) (by grind[lL]) N;refine⟨by simp[uL,U],fun i hi Y=>?_⟩;cases i with
  | zero =>
   refine aG.ofV ?_;unfold bR;rw[if_neg (by simp[Ty.isAgg])];exact⟨b,off,ds,rfl,q⟩
  | succ i =>
   grind[uL]
 | .pair .bool _,_,_,hb,_=>by grind[lL]
 | .pair (.u _) _,_,_,hb,_=>by grind[lL]
 | .pair (.i _) _,_,_,hb,_=>by grind[lL]
 | .pair .str _,_,_,hb,_=>by grind[lL]
 | .pair (.sl _) _,_,_,hb,_=>by grind[lL]
 | .pair .unit _,_,_,hb,_=>by grind[lL]
 | .pair (.pair _ _) _,_,_,hb,_=>by grind[lL]
 | .pair (.arr _ _) _,_,_,hb,_=>by grind[lL]
 | .pair .expr _,_,_,hb,_=>by grind[lL]
 | .pair (.clo _ _) _,_,_,hb,_=>by grind[lL]
 | .bool,_,_,hb,_=>by grind[lL]
 | .u _,_,_,hb,_=>by grind[lL]
 | .i _,_,_,hb,_=>by grind[lL]
 | .str,_,_,hb,_=>by grind[lL]
 | .sl _,_,_,hb,_=>by grind[lL]
 | .arr _ _,_,_,hb,_=>by grind[lL]
 | .expr,_,_,hb,_=>by grind[lL]
 | .rp _,_,_,hb,_=>by grind[lL]
 | .clo _ _,_,_,hb,_=>by grind[lL]
theorem aH9{E:Env}(hE:dB P E)(hg:Good M w0 c h w)(hG:jM E.G c.S w){dst:Option Nat}{ty:TypeId}{pos:String}{aft:Array Edge}{gd:Option (Nat×Bool)}{f:Operand}{args:Array Operand}{argTypes:Array TypeId}{a:Act}{ρ:Operand→AV}{g:FuncId}{I:List Value}{cv:List AV}
  (hf:a.eval f= .func (.func g) #[] I.toArray) (hul:I.length=cv.length) (hav:∀i (h1:i<(args.toList.map ρ).length) (h2:i<(args.toList.map a.eval).length),aG c w (args.toList.map ρ)[i] (args.toList.map a.eval)[i])
  (huv:∀i (h1:i<cv.length) (h2:i<I.length),aG c w cv[i] I[i]) (hc:(zQ E.Γ h g (args.toList.map ρ++cv)).1) :
  Did P M w0 h c { dst:=dst,op:=.call { callee:=.value f,args:=args,argTypes:=argTypes },type:=ty,pos:=pos,after:=aft,guard:=gd } a w (zQ E.Γ h g (args.toList.map ρ++cv)).2:=by
 have hΓ:∃sp,E.Γ g (args.toList.map ρ++cv)=some sp:=by
  unfold zQ at hc;grind
 obtain⟨sp,J⟩:=hΓ;have e2:args.map a.eval++I.toArray=(args.toList.map a.eval++I).toArray:=by simp_all
 have hcall:=fun (C:(Ending→World→Prop)→Prop) hC hF=>aXj (P:=P) (C:=C) hC (Γ:=E.Γ) hF hg hG (f:=g) (vs:=args.toList.map ρ++cv) (xs:=(args.toList.map a.eval++I).toArray) (by grind) (fun i h1 h2=>by
  grind) hc
 rcases hE.Γ g _ sp J with⟨Y,hfn⟩|N
 ·refine .inr ⟨g,(args.toList.map a.eval++I).toArray,?_,hcall (Calls P g _ w) (fun R R' h k=>h.mono k) (fun sp' hs=>by rw[J] at hs; cases hs; exact fun S x=>Y w S _ x)⟩;have U:=uW (w:=w) (args:=(args.toList.map a.eval++I).toArray) hfn;grind[execOp,resolve,Deferred.ofValue,invoke]
 ·obtain⟨v,w',U,v',c',e,hA⟩:=hcall (aY4 P g (args.toList.map a.eval++I).toArray w) (fun R R' ⟨v,w',h,k⟩ hk=>⟨v,w',h,hk _ _ k⟩) (fun sp' hs=>by rw[J] at hs; cases hs; exact N.2 w _);cases e;refine .inl ⟨v,w',c',?_,hA⟩;grind[execOp,resolve,Deferred.ofValue,invoke]
theorem aKW{T:Tab}(U:eO P T){t:TypeId}{J:Ty}(ht:T t=some J)(I:J.okB=true){o:Oper}{a:Act}(N:o.op= .alloc t):(execOp a.eval o).run P w= .ok (.value (.pointer (some ⟨w.heap.size,0,none⟩))) (w.alloc (.cells (fU J).cells t (0,0))):=by
 have Y:=kF (U _ _ ht) I w;simp[execOp,N,Instr.alloc,Y,newVar,newRow]
theorem aF9(J:Good M w0 c h w){ob:Go.Obj}:aBk P M w0 h c w .junk (.pointer (some ⟨w.heap.size,0,none⟩)) (w.alloc ob) c:=by
 have I:bG nothing w (w.alloc ob):=bG.alloc nothing w _;have N:bW c w c (w.alloc ob):=⟨.refl _,fun b hb=>I.block b (J.sfin b hb) (fun f=>f)⟩;exact⟨N,⟨rfl,rfl⟩,J.step N rfl rfl I.any (fun i o b U hb=>I.block b (J.own i o b U hb).2.1 (fun f=>f)) (fun b hb=>Nat.lt_of_lt_of_le (J.sfin b hb) I.size) (fun b hb=>.inl hb),I,fun b hb=>.inl hb,trivial⟩
theorem aSX{E:Env}(hE:dB P E)(hg:Good M w0 c h w){t:TypeId}{m k:AV}{ok:Bool}{mv kv:Value}(hm:aG c w m mv)(hk:aG c w k kv)(hc:(aBp E h t m k ok).1) :
  ∃u,(Instr.lookup t mv kv ok).run P w= .ok u w∧aG c w (aBp E h t m k ok).2 u:=by
 unfold aBp at hc ⊢;split at hc
 ·rename_i i;split at hc
  ·rename_i J N l ho;split at hc
   ·rename_i x hx;obtain⟨h1,h2,h3⟩:=hc;simp only[ho,hx];obtain⟨b,U,clock,q1,q2,q3,q4⟩:=hg.objs i _ ho;have hmv:mv= .map (some b):=by
     obtain⟨r1,_,r3⟩:=hm;simp only[aE] at r1;have r3:=r3 rfl;simp_all[Value.cells]
    subst hmv;unfold aUq at h3;split at h3
    ·rename_i kt et he;have hkx:=nD hg hk hx;have hu:=hE.mp _ _ _ he;have hgo:(getObj b).run P w= .ok (.map U clock) w:=(by simp[getObj,Sem.run,q2]);have hl:U.toList.length=l.length:=(by omega);have hf:=aDS (P:=P) hE.T h3.1 h1 hkx w l U.toList hl (fun j h h'=>by simp_all);have hck:=aCC (P:=P) U.isEmpty 9998 hE.T h3.1 h1 hkx w;have hz:=kF (hE.T _ _ h3.2) h2 w;have I:=aE3 (c:=J) (w:=w) (S:=c.S) (x:=x) l U.toList 0 hl;have hfin:∀(z:Value),bR w c.S N ((aCx J l x).getD N.zero) z→aG c w (if ok=true then AV.tup [.val N ((aCx J l x).getD N.zero),.val .bool (aCx J l x).isSome] else AV.val N ((aCx J l x).getD N.zero)) (if ok=true then .tuple #[z,.bool (aCx J l x).isSome] else z):=fun z hz=>by
      cases ok
      ·simp_all[Bool.false_eq_true,if_false,aG.ofV]
      ·simp only[if_true];refine⟨[z,.bool (aCx J l x).isSome],rfl,rfl,fun i h1 h2=>?_⟩
       match i,h1,h2 with
       | 0,_,_=>exact aG.ofV hz
       | 1,_,_=>exact aG.ofV (t:=.bool) (x:=(aCx J l x).isSome) (by rfl)
     cases Y:aCx J l x with
     | some y =>
      rw[Y] at I;obtain⟨j,e,k1,r1,r2,r3,_⟩:=I;rw[r1] at hf;have hjl:j<l.length:=by
       grind
      have hje:j<U.size:=(by omega);have hv:=(q4 j hjl hje).2;have e1:U[j]=e:=by
       simp_all
      have e2:l[j].2=y:=(by simp_all);simp_all[bool,Instr.lookup,aI,Result.andThen]
     | none =>
      rw[Y] at I;rw[I.1] at hf;have:=hfin (fU N) (by grind[aBe]);refine⟨if ok=true then .tuple #[fU N,.bool false] else fU N,?_,by simp_all⟩;simp_all[Instr.lookup,aI,Result.andThen]
    simp_all
   simp_all
  simp_all
 simp_all
theorem aCh{E:Env}{t:TypeId}{c:Ty}(J:eO P E.T)(ht:E.T t=some c)(I:c.isNil=false):∃d,P.underlying t=some d∧ ∀ms,d≠ .interface ms:=by
 obtain⟨d,hd,hb⟩:=(J _ _ ht).desc;refine⟨d,hd,fun ms e=>?_⟩;subst e;cases c<;>simp[dM,Ty.isNil] at hb I
theorem aZE{E:Env}(U:dB P E)(hg:Good M w0 c h w){t:TypeId}{x:AV}{v:Value}(hv:aG c w x v)(hc:(aNN E h t x).1) :
  ∃u,(Instr.makeInterface t v).run P w= .ok u w∧aG c w (aNN E h t x).2 u:=by
 unfold aNN at hc ⊢;split at hc
 ·rename_i cc ht;split at hc
  ·rename_i d hd;simp only[hd];have I:=nD hg hv hd;obtain⟨td,Y,h2⟩:=aCh U.T ht hc;refine⟨.iface t v,?_,aG.ofV ?_⟩
   ·simp only[Instr.makeInterface,Sem.run_bind,aI Y,Result.andThen_ok];rfl
   ·unfold bR at I ⊢;rw[if_neg (by simp[Ty.isAgg])];split at I
    ·rename_i J;obtain⟨N,rfl,I⟩:=I;exact⟨.agg N,N.toList,rfl,(fun _=>by simp),(fun h=>by simp_all),I⟩
    ·rename_i J;exact⟨v,[v],rfl,(fun h=>absurd h J),(fun _=>rfl),I⟩
  simp_all
 simp_all
theorem aIa{k:TypeId}{t:Ty}{x:t.den}{v:Value}(hv:aG c w (.val (.ifc k t) x) v):∃u,v= .iface k u∧bR w c.S t x u:=by
 have I:=aG.toV hv;unfold bR at I;rw[if_neg (by simp[Ty.isAgg])] at I;obtain⟨u,ds,e,J,N,U⟩:=I;simp only[List.cons.injEq,and_true] at e;grind[bR]
theorem aLK{t:Ty}{x:t.den}{b:Bool}{u:Value}(J:bR w c.S t x u):aG c w (.tup [.val t x,.val .bool b]) (.tuple #[u,.bool b]):=by
 refine⟨[u,.bool b],rfl,rfl,fun i I N=>?_⟩
 match i,I,N with
 | 0,_,_=>exact aG.ofV J
 | 1,_,_=>exact aG.ofV (t:=.bool) (x:=b) (by rfl)
theorem aSY{E:Env}(U:dB P E){t xt:TypeId}{x:AV}{ok:Bool}{v:Value}(hv:aG c w x v)(hc:(aBq E x t ok).1) :
  ∃u,(Instr.typeAssert v xt t ok).run P w= .ok u w∧aG c w (aBq E x t ok).2 u:=by
 unfold aBq at hc ⊢;split at hc
 ·rename_i N ht;have J:N.okB=true→N.isNil=false:=fun h=>by grind[Ty.okB,Ty.isNil]
  split at hc
  ·rename_i k c' d;obtain⟨u,rfl,hr⟩:=aIa hv;by_cases e:k=t
   ·subst e;simp only[if_true] at hc ⊢;obtain⟨td,Y,h2⟩:=aCh U.T ht hc;refine⟨if ok=true then .tuple #[u,.bool true] else u,?_,?_⟩
    ·simp only[Instr.typeAssert,Sem.run_bind,aI Y,Result.andThen_ok];rfl
    grind[aG.ofV,aLK]
   ·simp only[e,if_false] at hc ⊢;obtain⟨rfl,I⟩:=hc;refine⟨.tuple #[fU N,.bool false],?_,aLK (aBe w c.S N I)⟩;obtain⟨td,Y,h2⟩:=aCh U.T ht (J I);have I:=kF (U.T _ _ ht) I w;simp only[Instr.typeAssert,Sem.run_bind,aI Y,Result.andThen_ok];simp_all
  ·have hvn:v= .nilIface:=by
    have hr:=aG.toV hv;simp_all[bR,if_neg,Ty.isAgg,aJ]
   subst hvn;obtain⟨rfl,I⟩:=hc;refine⟨.tuple #[fU N,.bool false],?_,aLK (aBe w c.S N I)⟩;obtain⟨td,Y,h2⟩:=aCh U.T ht (J I);have I:=kF (U.T _ _ ht) I w;simp only[Instr.typeAssert,Sem.run_bind,aI Y,Result.andThen_ok];simp_all
  simp_all
 simp_all
theorem aZF{T:Tab}(N:eO P T){op:BinOp}{t:TypeId}{x:AV}{v:Value}{ox:Operand}(hv:aG c w x v)(hc:(aNO T op t x).1) :
  ∃r,(eqGuard op t ox (.const .nilIface) v .nilIface).run P w= .ok () w∧(binOp op t v .nilIface).run P w= .ok r w∧aG c w (aNO T op t x).2 r:=by
 unfold aNO at hc ⊢;split at hc
 ·rename_i y;have I:v= .nilIface:=by
   have U:=aG.toV hv;simp_all[bR,if_neg,Ty.isAgg,aJ]
  subst I;have J:T t=some .nili→(Op.equal t .nilIface .nilIface).run P w= .ok true w:=fun ht=>by
   obtain⟨d,hd,hb⟩:=(N _ _ ht).desc;cases d<;>simp[dM] at hb
   unfold Op.equal Op.maxDepth;rw[Op.equalIn];simp[aI hd]
  cases op<;>simp only at hc ⊢ <;> (try exact hc.elim)
  all_goals simp_all[bool,eqGuard,binOp,wA]
 simp_all
theorem aXl{T:Tab}(N:eO P T){op:BinOp}{t:TypeId}{x y:AV}{v u:Value}{ox oy:Operand}(hv:aG c w x v)(I:aG c w y u)(hc:(aUr T op t x y).1) :
  (∃r,(binOp op t v u).run P w= .ok r w∧aG c w (aUr T op t x y).2 r)∧(eqGuard op t ox oy v u).run P w= .ok () w:=by
 revert hv I hc;unfold aUr;split<;>intro hv I hc
 ·obtain⟨rfl,J,Y⟩:=yG hv;obtain⟨rfl,U,hb⟩:=yG I;have e:=hc;dsimp only at e;subst e;exact⟨⟨_,by simp only[binOp,Op.intArith,ne_eq,not_true_eq_false,if_false]; rfl,rT J (vQ J _)⟩,rfl⟩
 ·exact⟨aUi (P:=P) N hv I hc,aBr (P:=P) N hv hc⟩
theorem aY5{E:Env}(Y:dB P E)(hg:Good M w0 c h w)(hG:jM E.G c.S w){o:Oper}{a:Act}{ρ:Operand→AV}(I:∀x∈o.op.operands,aG c w (ρ x) (a.eval x))(hc:(pv E h ρ o).1):Did P M w0 h c o a w (pv E h ρ o).2:=by
 obtain⟨dst,op,ty,pos,aft,gd⟩:=o;cases op<;>simp only[pv] at hc ⊢ <;> (try exact hc.elim)<;>simp only[Op.operands] at I
 case alloc t =>
  split at hc
  ·rename_i ct ht;exact .inl ⟨_,_,c,aKW Y.T ht hc rfl,aF9 hg⟩
  simp_all
 case makeInterface t x =>
  obtain⟨u,J,N⟩:=aZE (P:=P) Y hg (I x (by simp)) hc;simp_all[Did.of_value,execOp]
 case typeAssert x xt t ok =>
  obtain⟨u,J,N⟩:=aSY (P:=P) Y (xt:=xt) (I x (by simp)) hc;simp_all[Did.of_value,execOp]
 case lookup t m k ok =>
  obtain⟨u,J,N⟩:=aSX (P:=P) Y hg (I m (by simp)) (I k (by simp)) hc;simp_all[Did.of_value,execOp]
 case move x =>
  simp_all[Did.of_value,execOp,aRo]
 case assign x =>
  simp_all[Did.of_value,execOp,aRo]
 case load t x =>
  obtain⟨u,J,N⟩:=aRh Y.T hg (I x (by simp)) hc;simp_all[Did.of_value,execOp]
 case binOp op t x y yt =>
  have U:=I x (by simp);have hy:=I y (by simp);split at hc
  ·obtain⟨r,h1,h2,h3⟩:=aZF (P:=P) (ox:=x) Y.T U hc;have e:a.eval (.const .nilIface)= .nilIface:=rfl;simp_all[Did.of_value,execOp]
  ·cases hw:E.w with
   | true =>
    simp only[hw,cond_true] at hc ⊢;obtain⟨⟨u,J,N⟩,hgd⟩:=aXl (P:=P) Y.T (ox:=x) (oy:=y) U hy hc;simp_all[Did.of_value,execOp]
   | false =>
    simp only[hw,cond_false] at hc ⊢;obtain⟨u,J,N⟩:=aUi (P:=P) Y.T U hy hc;have hgd:=aBr (P:=P) Y.T (u:=a.eval y) (ox:=x) (oy:=y) U hc;simp_all[Did.of_value,execOp]
 case unOp op t x =>
  obtain⟨u,J,N⟩:=bAZ (P:=P) (I x (by simp)) hc;simp_all[Did.of_value,execOp]
 case convert s d x =>
  have U:=I x (by simp);unfold aUm at hc ⊢;split at hc
  ·rename_i b hd hb;rw[hb] at U;obtain⟨u,w',c',N,ha⟩:=aNL (P:=P) Y.T hg hc hd U;exact .inl ⟨u,w',c',by simp[execOp,N],by omega⟩
  ·rename_i hd;split at hc
   ·rename_i hs;split at hc
    ·rename_i k sz off n hx2;split at hc
     ·rename_i q m xs ho;obtain⟨rfl,hle⟩:=hc;rw[hx2] at U;obtain⟨u,J,N⟩:=aLJ (P:=P) Y.T hg hs hd U ho hle;simp_all[Did.of_value,execOp]
     simp_all
    split at hc
    ·rename_i b ha;obtain⟨u,J,N⟩:=aJ1 (P:=P) Y.T hg hs hd U ha;simp_all[Did.of_value,execOp]
    simp_all
   ·obtain⟨u,J,N⟩:=aRk (P:=P) Y.T U hc;simp_all[Did.of_value,execOp]
  ·obtain⟨u,J,N⟩:=aRk (P:=P) Y.T U hc;simp_all[Did.of_value,execOp]
 case fieldAddr s x k =>
  obtain⟨u,J,N⟩:=aUc (P:=P) Y.T (I x (by simp)) hc;simp_all[Did.of_value,execOp]
 case field s x k =>
  obtain⟨u,J,N⟩:=aUe (P:=P) Y.T (I x (by simp)) hc;simp_all[Did.of_value,execOp]
 case indexAddr t x i =>
  obtain⟨u,J,N⟩:=aUf (P:=P) Y.T hg (I x (by simp)) (I i (by simp)) hc;simp_all[Did.of_value,execOp]
 case index t x i =>
  obtain⟨u,J,N⟩:=aUh (P:=P) Y.T (I x (by simp)) (I i (by simp)) hc;simp_all[Did.of_value,execOp]
 case slice t x lo hi mx =>
  obtain⟨u,J,N⟩:=aUj (P:=P) Y.T hg (I x (by simp)) (aH7 (o:=lo) fun y hy=>I y (by simp[hy])) (aH7 (o:=hi) fun y hy=>I y (by simp[hy])) (aH7 (o:=mx) fun y hy=>I y (by simp[hy])) hc;simp_all[Did.of_value,execOp]
 case extract x i =>
  have U:=I x (by simp);unfold aE4 at hc ⊢;split at hc
  ·rename_i vs e;rw[e] at U;obtain⟨u,J,N⟩:=aXk (P:=P) U hc;simp_all[Did.of_value,execOp]
  simp_all
 case build t ps =>
  have hp:=aDU (l:=ps.toList) (ρ:=ρ) (a:=a) (c:=c) (w:=w) (fun p hp=>I p.2 (List.mem_toArray.2 (List.mem_map_of_mem hp)));have key:∃u,(Instr.build t (ps.toList.map fun p=>(p.1,a.eval p.2)).toArray).run P w= .ok u w∧aG c w (bif E.dz t then aEY E.T t (ps.toList.map fun p=>(p.1,ρ p.2)) else aCa E.T t (ps.toList.map fun p=>(p.1,ρ p.2))).2 u:=by
   cases hdz:E.dz t with
   | true=>simp only[pv,hdz,cond_true] at hc ⊢; exact aSU (P:=P) Y.T hp hc
   | false=>simp only[pv,hdz,cond_false] at hc ⊢; exact aUl (P:=P) Y.T hp hc
  obtain⟨u,J,N⟩:=key;have e:(ps.map fun x=>(x.1,a.eval x.2))=(ps.toList.map fun p=>(p.1,a.eval p.2)).toArray:=by grind
  simp_all[Did.of_value,execOp]
 case buildSlice t n ps =>
  have hp:=aDU (l:=ps.toList) (ρ:=ρ) (a:=a) (c:=c) (w:=w) (fun p hp=>I p.2 (List.mem_toArray.2 (List.mem_map_of_mem hp)));obtain⟨u,w',c',J,N⟩:=aJ0 (P:=P) Y.T hg hp hc;have e:(ps.map fun x=>(x.1,a.eval x.2))=(ps.toList.map fun p=>(p.1,a.eval p.2)).toArray:=by grind
  exact .inl ⟨u,w',c',by simp_all[execOp],N⟩
 case nilCheck x =>
  have U:=I x (by simp);cases hxv:ρ x<;>rw[hxv] at U hc<;>simp only[aC8] at hc ⊢ <;> (try exact hc.elim)
  ·obtain⟨_,b,_,e⟩:=zT U;simp_all[Did.of_value,execOp]
  ·obtain⟨b,off,ds,e,_⟩:=aHC U;simp_all[Did.of_value,execOp]
  ·have e:∃f l1 l2,a.eval x= .func (.func f) l1 l2:=by
    obtain⟨h1,_,h3⟩:=U;have h3:=h3 rfl;simp only[aE] at h1;have h1:=h1.2.2;cases hv:a.eval x<;>rw[hv] at h1 h3<;>simp[Value.cells] at h1 h3
    simp_all
   obtain⟨f,l1,l2,e⟩:=e;simp_all[Did.of_value,execOp]
 case makeFunc fn first caps =>
  cases fn with
  | func f =>
   simp only at hc ⊢;unfold aDa at hc ⊢;split at hc
   ·rename_i l1 l2 e1 e2;obtain⟨q1,q2⟩:=aDV hg e1 (vs:=first.toList.map a.eval) (by simp) (aCg fun x U=>I x (by simp_all));obtain⟨q3,q4⟩:=aDV hg e2 (vs:=caps.toList.map a.eval) (by simp) (aCg fun x U=>I x (by simp_all));simp only[e1,e2];refine Did.of_value hg (v:=.func (.func f) (l1.map c.hd).toArray (l2.map c.hd).toArray) ?_ (aZD q1 q3);have e3:∀l:Array Operand,l.map a.eval=(l.toList.map a.eval).toArray:=fun l=>(by grind);simp_all[execOp,Instr.makeFunc]
   ·rename_i l1 e1 e2;split at hc
    ·rename_i t y e4;obtain⟨q1,q2⟩:=aDV hg e1 (vs:=first.toList.map a.eval) (by simp) (aCg fun x U=>I x (by simp_all));simp only[e1,e2,e4];have hl1:l1= []:=hc;subst hl1;have e5:=aUs e4 (vs:=caps.toList.map a.eval) (by simp) (aCg fun x U=>I x (by simp_all));refine Did.of_value hg (v:=.func (.func f) #[] (caps.toList.map a.eval).toArray) ?_ (aG.ofV ?_)
     ·have e3:∀l:Array Operand,l.map a.eval=(l.toList.map a.eval).toArray:=fun l=>(by grind);simp_all[execOp,Instr.makeFunc]
     ·unfold bR;rw[if_neg (by simp[Ty.isAgg])];exact⟨_,rfl,e5⟩
    simp_all
   simp_all
  | _=>simp_all
 case call cl =>
  obtain⟨callee,args,argTypes⟩:=cl;simp only at hc ⊢;have hargs:∀x∈args.toList,aG c w (ρ x) (a.eval x):=fun x U=>I x (by
   simp only[Call.operands];exact Array.mem_append.2 (.inr (by simpa using U)))
  cases callee with
  | builtin b =>
   cases b<;>simp only[aDT] at hc ⊢ <;> (try exact hc.elim)
   case len =>
    split at hc
    ·rename_i x t ex et;obtain⟨y,ey,rfl⟩:∃y,args.toList= [y]∧ρ y=x:=by
      simp_all
     have hy:=hargs y (by simp_all);obtain⟨u,J,N⟩:=aZC (P:=P) (ty:=ty) Y.T hg hy hc;have e1:args= #[y]:=(by grind);have e2:argTypes= #[t]:=(by grind);exact Did.of_value hg (by rw[e1,e2]; simp[execOp,resolve,invoke,builtin,J]) N
    simp_all
   case min =>
    unfold aT9 at hc ⊢;split at hc
    ·rename_i x y exy;obtain⟨p,q,epq,rfl,rfl⟩:∃p q,args.toList= [p,q]∧ρ p=x∧ρ q=y:=by
      match hl:args.toList,exy with
      | [p,q],ex=>grind
     have hp:=hargs p (by simp_all);have hq:=hargs q (by simp_all);obtain⟨u,J,N⟩:=aE2 (P:=P) hp hq hc;have J:(Builtin.min2 (a.eval p) (a.eval q)).run P w= .ok u w:=J;have e1:args= #[p,q]:=(by grind);exact Did.of_value hg (by rw[e1]; simp[execOp,resolve,invoke,builtin,Builtin.min_,J]) N
    ·rename_i x y z exyz;obtain⟨p,q,r,epq,rfl,rfl,rfl⟩:∃p q r,args.toList= [p,q,r]∧ρ p=x∧ρ q=y∧ρ r=z:=by
      match hl:args.toList,exyz with
      | [p,q,r],ex=>grind
     have hp:=hargs p (by simp_all);have hq:=hargs q (by simp_all);have hr':=hargs r (by simp_all);obtain⟨u,J,N⟩:=aE2 (P:=P) hp hq hc.1;obtain⟨u2,hu2,hr2⟩:=aE2 (P:=P) N hr' hc.2;have J:(Builtin.min2 (a.eval p) (a.eval q)).run P w= .ok u w:=J;have hu2:(Builtin.min2 u (a.eval r)).run P w= .ok u2 w:=hu2;have e1:args= #[p,q,r]:=(by grind);exact Did.of_value hg (by rw[e1]; simp[execOp,resolve,invoke,builtin,Builtin.min_,J,hu2]) hr2
    simp_all
   case max =>
    unfold aT9 at hc ⊢;split at hc
    ·rename_i x y exy;obtain⟨p,q,epq,rfl,rfl⟩:∃p q,args.toList= [p,q]∧ρ p=x∧ρ q=y:=by
      match hl:args.toList,exy with
      | [p,q],ex=>grind
     have hp:=hargs p (by simp_all);have hq:=hargs q (by simp_all);obtain⟨u,J,N⟩:=aE2 (P:=P) hp hq hc;have J:(Builtin.max2 (a.eval p) (a.eval q)).run P w= .ok u w:=J;have e1:args= #[p,q]:=(by grind);exact Did.of_value hg (by rw[e1]; simp[execOp,resolve,invoke,builtin,Builtin.max_,J]) N
    ·rename_i x y z exyz;obtain⟨p,q,r,epq,rfl,rfl,rfl⟩:∃p q r,args.toList= [p,q,r]∧ρ p=x∧ρ q=y∧ρ r=z:=by
      match hl:args.toList,exyz with
      | [p,q,r],ex=>grind
     have hp:=hargs p (by simp_all);have hq:=hargs q (by simp_all);have hr':=hargs r (by simp_all);obtain⟨u,J,N⟩:=aE2 (P:=P) hp hq hc.1;obtain⟨u2,hu2,hr2⟩:=aE2 (P:=P) N hr' hc.2;have J:(Builtin.max2 (a.eval p) (a.eval q)).run P w= .ok u w:=J;have hu2:(Builtin.max2 u (a.eval r)).run P w= .ok u2 w:=hu2;have e1:args= #[p,q,r]:=(by grind);exact Did.of_value hg (by rw[e1]; simp[execOp,resolve,invoke,builtin,Builtin.max_,J,hu2]) hr2
    simp_all
  | value f =>
   have hf:=I f (by simp[Call.operands]);simp only[aDT] at hc ⊢;have hav:=aCg (ρ:=ρ) (a:=a) (c:=c) (w:=w) hargs;split at hc
   ·rename_i g l2 e;rw[e] at hf;split at hc
    ·rename_i hb;simp only[e,if_pos hb];obtain⟨hl2,hfv⟩:=aRr hf;grind[aH9,aBs]
    simp_all
   ·rename_i g t y e;rw[e] at hf;split at hc
    ·rename_i hb;simp only[e,if_pos hb];grind[aNQ,aH8,aH9]
    simp_all
   simp_all
  | _=>exact hc.elim
end
end Go.Vc

