import Derived.Test.YthkfoehkabnlpaaGreatDoorZL8
import Derived.Orders
import Derived.Test.YthkfoehkabnlpaaGreatDoorZL6
import Derived.OpenShut
import Derived.ChangeArms
import Derived.FnData
import Derived.LaidMore
import Derived.Laws.Externs
import Derived.Test.YthkfoehkabnlpaaGreatDoorZL1
import Derived.LaidHandle
import Derived.MakeChecks
import Derived.ChangeShapes
import Derived.Test.YthkfoehkabnlpaaGreatDoorZL5
set_option linter.unusedVariables false
set_option linter.unusedSimpArgs false
namespace Go.It
noncomputable section
open Go.RowKit
open Go.Vc (bG aY)
theorem aQy{v u:V}(h:sm1 v u=true):v=u:=by
 unfold sm1 at h;split at h<;>first|(cases h; done)|rfl|skip
 ·rw[Nat.eq_of_beq_eq_true h]
 ·rw[Nat.eq_of_beq_eq_true h]
 ·obtain⟨J,I⟩:=cA h;rw[aFs J,Nat.eq_of_beq_eq_true I]
 ·rw[eq_of_beq h]
 ·obtain⟨J,I⟩:=cA h;rw[Nat.eq_of_beq_eq_true J,Nat.eq_of_beq_eq_true I]
 ·obtain⟨J,I⟩:=cA h;rw[Nat.eq_of_beq_eq_true J,Nat.eq_of_beq_eq_true I]
 ·obtain⟨J,h⟩:=cA h;obtain⟨I,h⟩:=cA h;obtain⟨Y,h⟩:=cA h;obtain⟨N,U⟩:=cA h;rw[Nat.eq_of_beq_eq_true J,Nat.eq_of_beq_eq_true I,Nat.eq_of_beq_eq_true Y,Nat.eq_of_beq_eq_true N,Nat.eq_of_beq_eq_true U]
 ·rw[Nat.eq_of_beq_eq_true h]
theorem aMv:∀ {l r:List V},smL l r=true→l=r
 | [],[],_=>rfl
 | [],_::_,h=>by cases h
 | _::_,[],h=>by cases h
 | a::l,b::r,h=>by
  obtain⟨I,J⟩:=cA (show (bi (sm1 a b) (smL l r) false)=true from h);rw[aQy I,aMv J]
theorem bAp{v u:V}(h:smV v u=true):v=u:=by
 unfold smV at h;split at h
 ·rw[aMv h]
 ·rw[aMv h]
 ·exact aQy h
theorem bAq{a b:O}(h:smO a b=true):a=b:=by
 unfold smO at h;split at h
 ·obtain⟨I,J⟩:=cA h;rw[eq_of_beq I,aMv J]
 ·rfl
 ·cases h
theorem aYl{a I:Nat}{m m':M}(h:aTt a I m m'=true):ob m a=ob m' I:=by
 simp only[aTt,pB] at h;exact bAq h
def evG(E:En)(L:Nat→V):Operand→V
 | .tmp t=>L t
 | .const v=>bi (cOK v) (cv v) (.z .j)
 | .global g=>E.gl g
 | .func f=>.fn f [] []
theorem bAr{q:Cx}{e:q.ε}(y:Operand):evD q e y=evG q.E (fun t=>q.look t e) y:=by cases y<;>rfl
structure SvG(E:En)(L:Nat→V)(w0:World)(ρ:Rho)(m:M)(a:Act)(w:World)(l:Array Operand):Prop where
 w:W w0 ρ m w
 gl:GR E ρ
 ev:∀y,y∈l→VR ρ (evG E L y) (a.eval y)
theorem SvG.sv{q:Cx}{e:q.ε}{w0:World}{ρ:Rho}{m:M}{a:Act}{w:World}{l:Array Operand}(h:SvG q.E (fun t=>q.look t e) w0 ρ m a w l):Sv q w0 ρ e m a w l:=⟨h.w,h.gl,fun y I=>by rw[bAr]; exact h.ev y I⟩
section
variable (P:Program) (x:Fx)
def A1(o:Oper)(L:Nat→V)(m:M)(v:V):Prop:=∀(w0:World) (ρ:Rho) (a:Act) (w:World),SvG x.E L w0 ρ m a w o.op.operands→ ∃u,(execOp a.eval o).run P w= .ok (.value u) w∧VR ρ v u
def B1(o:Oper)(L:Nat→V)(I:Nat→V)(b:O):Prop:=∀(w0:World) (ρ:Rho) (m:M) (a:Act) (w:World),SvG x.E L w0 ρ m a w o.op.operands→ ∃u w' N,(execOp a.eval o).run P w= .ok (.value u) w'∧But w.heap.size w w' ∧
  ∀(ρ':Rho) (k:Nat),ρ.le ρ'→ρ' k=some (w.heap.size,0,N)→VR ρ' (I k) u∧OR w0 ρ' w' w.heap.size 0 N b
def C1(o:Oper)(L:Nat→V)(m:M)(v:V)(m':M):Prop:=m.nx≤m'.nx∧ ∀(w0:World) (ρ:Rho) (a:Act) (w:World) (K:Act→World→Prop) (Q:Exit→Act→World→Prop),SvG x.E L w0 ρ m a w o.op.operands →
  (∀ρ' u w',Ext m ρ ρ'→W w0 ρ' m' w'→VR ρ' v u→K (a.put o.dst u) w')→o.wp P a w K Q
inductive Kn(o:Oper)(L:Nat→V)(m:M)(v:V)(m':M):Prop where
 | a0 (hk:cls x.cx o=0) (hm:m'=m) (h:∀m,A1 P x o L m v)
 | a1 (hk:cls x.cx o=1) (hm:m'=m) (h:A1 P x o L m v)
 | b (mkv:Nat→V) (b:O) (hk:cls x.cx o=2) (hn:m.nx<262144) (hv:v=mkv m.nx) (hm:m'=nw m b) (hmk:Mkv mkv) (h:B1 P x o L mkv b)
 | c (hk:cls x.cx o=3) (h:C1 P x o L m v m')
def Pn(nt:Nat)(o:Oper)(L:Nat→V)(m:M)(B:x.ε)(u:V)(J:x.ε)(m':M):Prop:=cls x.cx o=3∧m.nx≤m'.nx∧ ∀(w0:World) (ρ:Rho) (a:Act) (w:World) (K:Act→World→Prop) (Q:Exit→Act→World→Prop),SvG x.E L w0 ρ m a w o.op.operands →
  (∀t∈x.ks,x.ix t≠0→VR ρ (L t) (a.tmps.getD t Go.undef))→nt≤a.tmps.size→DR ρ (get x.n 0 B) a.defers→(∀ex I w',Po x nt w0 ρ m (some (.pan u)) J m' ex I w'→Q ex I w')→o.wp P a w K Q
end
section
variable {P:Program} {x:Fx} {nt:Nat} {q:Cx} {base:q.ε→x.ε} {ops:Array Oper}
theorem aZm{q J:Cx}(h:q.E=J.E)(o:Oper):cls q o=cls J o:=by
 obtain⟨dst,op,ty,pos,aft,gd⟩:=o;unfold cls;cases op<;>first|rfl|skip
 case convert=>simp only[an,yR,h]
 case makeFunc fn _ _=>cases fn<;>rfl
 case makeMap _ r=>cases r<;>rfl
 case call c=>obtain⟨cl,args,I⟩:=c; cases cl<;>first|rfl|skip
 case defer c=>obtain⟨cl,args,I⟩:=c; cases cl<;>rfl
theorem bAs{q:Cx}{o:Oper}(h:cls q o<3):kd o= .op:=by
 obtain⟨dst,op,ty,pos,aft,gd⟩:=o;unfold cls at h;unfold kd;cases op<;>first|rfl|(exact(Nat.lt_irrefl 3 h).elim)|skip
 case makeFunc fn _ _=>cases fn<;>first|rfl|(exact(Nat.lt_irrefl 3 h).elim)
 case makeMap _ r=>cases r<;>rfl
 case call c =>
  obtain⟨cl,args,I⟩:=c;cases cl<;>first|(exact(Nat.lt_irrefl 3 h).elim)|skip
  case builtin b=>cases b<;>first|(exact(Nat.lt_irrefl 3 h).elim)|rfl
 case defer c=>obtain⟨cl,args,I⟩:=c; cases cl<;>exact(Nat.lt_irrefl 3 h).elim
theorem aSn{q:Cx}{o:Oper}(h:kd o≠ .op):cls q o=3:=by
 obtain⟨dst,op,ty,pos,aft,gd⟩:=o;unfold kd at h;unfold cls;cases op<;>first|rfl|(exact absurd rfl h)|skip
 case makeFunc fn _ _=>cases fn<;>first|rfl|(exact absurd rfl h)
 case makeMap _ r=>cases r<;>first|rfl|(exact absurd rfl h)
 case call c =>
  obtain⟨cl,args,I⟩:=c;cases cl<;>first|rfl|skip
  case builtin b=>cases b<;>first|rfl|(exact absurd rfl h)
 case defer c=>obtain⟨cl,args,I⟩:=c; cases cl<;>rfl
theorem bAt(o:Oper):cls q o≤3:=by
  rcases Nat.lt_or_ge (cls q o) 3 with h|h
  · omega
  · obtain⟨dst,op,ty,pos,aft,gd⟩:=o;unfold cls at h ⊢;cases op<;>first|exact Nat.le_refl 3|exact Nat.zero_le 3|(exact Nat.le_of_ble_eq_true rfl)|skip
    case convert s d y=>simp only[an,yR]; split<;>decide
    case makeFunc fn _ _=>cases fn<;>exact Nat.le_of_ble_eq_true rfl
    case makeMap _ r=>cases r<;>exact Nat.le_of_ble_eq_true rfl
    case call c=>
      obtain⟨cl,args,I⟩:=c
      cases cl<;>first|(exact Nat.le_of_ble_eq_true rfl)|skip
      rename_i b; cases b<;>exact Nat.le_of_ble_eq_true rfl
    case defer c=>obtain⟨cl,args,I⟩:=c; cases cl<;>exact Nat.le_of_ble_eq_true rfl
theorem OpR.kn(hE:q.E=x.E){o:Oper}{e:q.ε}{m:M}{c:V→M→Bool}(h:OpR P q o e m c):∃v m',c v m'=true∧Kn P x o (fun t=>q.look t e) m v m':=by
 have J:∀ {w0:World} {ρ:Rho} {m:M} {a:Act} {w:World} {l:Array Operand},SvG x.E (fun t=>q.look t e) w0 ρ m a w l→Sv q w0 ρ e m a w l:=fun h=>SvG.sv (by rw[hE]; exact h);have hc:cls q o=cls x.cx o:=aZm hE o;cases h with
 | a0 v N I h=>exact⟨v,m,I,.a0 (by rw[← hc]; exact N) rfl fun m w0 ρ a w U=>h m w0 ρ a w (J U)⟩
 | a1 v N I h=>exact⟨v,m,I,.a1 (by rw[← hc]; exact N) rfl fun w0 ρ a w U=>h w0 ρ a w (J U)⟩
 | b Y b N hn I hm h=>exact⟨_,_,I,.b Y b (by rw[← hc]; exact N) hn rfl rfl hm fun w0 ρ m a w U=>h w0 ρ m a w (J U)⟩
 | c v m' N I h =>
  refine⟨v,m',I,.c (by rw[← hc]; exact N) ⟨h.1,fun w0 ρ a w K Q U hK=>?_⟩⟩;obtain⟨r,u,w',ρ',a1,a2,a3,a4,a5⟩:=h.2 w0 ρ a w (J U);have:=hK ρ' u w' a5 a3 a4;unfold Oper.wp;rw[a1];rcases a2 with rfl|⟨rfl,rfl⟩<;>exact this
theorem aSo(hx:XOK x)(hq:dU q)(hE:q.E=x.E)(hEn:fA P x.E)(w00:World){o:Oper}{q':Cx}{st:V→q.ε→q'.ε}{r:RF x q'}{f:RF x q}(J:aBB x q base o q' st r= .mk f){e:q.ε}{m:M}{κ:KK x.ε}(hcf:aGV P x.E κ.cf)(h:f e m κ=true) :
  (∃v m',r (st v e) m' κ=true∧Kn P x o (fun t=>q.look t e) m v m')∨ ∃u e' m',κ.kx (.pan u) e' m'=true∧Pn P x nt o (fun t=>q.look t e) m (base e) u e' m':=by
 unfold aBB at J;split at J
 ·rename_i fo args hk;simp only[eX hq,aAo hq,aV,Box.mk.injEq] at J;subst J;obtain⟨g,fs,l',hfn,h2⟩:=aQo h;obtain⟨p,u,m1,h3,h4,h5⟩:=hcf _ _ _ _ _ h2;obtain⟨args',ats,hop,rfl⟩:=aSf hk;have hcl:cls x.cx o=3:=aSn (by rw[hk]; simp);have hcall:∀ {w0:World} {ρ:Rho} {a:Act} {w:World},SvG x.E (fun t=>q.look t e) w0 ρ m a w o.op.operands→ ∃gs:List Value,(execOp a.eval o).run P w=(callFunc g gs.toArray).run P w∧aOJ P g gs.toArray w (aGS w0 ρ m p u m1):=fun {w0 ρ a w} I=>by
   obtain⟨dst,op,ty,pos,aft,gd⟩:=o;simp only at hop;subst hop;have I:=SvG.sv (q:=q) (e:=e) (by rw[hE]; exact I);have hv:=I.ev fo (by simp[Op.operands,Call.operands]);rw[hfn] at hv;simp only[VR] at hv;obtain⟨xs,ys,v1,v2,v3⟩:=hv;have va:=I.evL (r:=args'.toList) (fun y hy=>by simp[Op.operands,Call.operands]; exact .inr (by simpa using hy));exact⟨_,aOL v1 w,h5 w0 ρ w _ I.w (by rw[← hE]; exact I.gl) ((v2.append va).append v3)⟩
  cases p
  ·refine .inl ⟨u,m1,h3,.c hcl ⟨h4,fun w0 ρ a w K Q I hK=>?_⟩⟩;obtain⟨gs,N,hc⟩:=hcall I;unfold Oper.wp;rw[N];rcases hc with⟨v,w',c1,c2⟩|⟨c1,c2⟩
   ·rw[c1,Oper.upon_value];obtain⟨ρ',v',Y,d2,d3,d4⟩:=c2;cases d4;exact hK ρ' v w' Y d2 d3
   ·rw[c1,Oper.upon_enter];refine c2.mono fun ex w' hce=>?_;obtain⟨ρ',v',Y,d2,d3,rfl⟩:=hce;exact hK ρ' v' w' Y d2 d3
  ·simp only[aS] at h3;obtain⟨e',b1,b2⟩:=aMu (nt:=nt) hx hq h3;refine .inr ⟨u,e',m1,b1,hcl,h4,fun w0 ρ a w K Q I hks hsz hdf hQ=>?_⟩;obtain⟨gs,N,hc⟩:=hcall I;unfold Oper.wp;rw[N];rcases hc with⟨v,w',c1,c2⟩|⟨c1,c2⟩
   ·obtain⟨_,_,_,_,_,c4⟩:=c2;cases c4
   ·rw[c1,Oper.upon_enter];refine c2.mono fun ex w' hce=>?_;obtain⟨ρ',v,Y,d2,d3,rfl⟩:=hce;exact hQ _ a w' ⟨ρ',Y,⟨v,rfl,d3⟩,b2 w0 ρ' a w' d2 (fun g=>(I.gl g).mono Y.1) (fun t h1 h2=>(hks t h1 h2).mono Y.1) hsz (hdf.mono Y.1)⟩
 ·rename_i y hk;simp only[eX hq,aV,Box.mk.injEq] at J;subst J;simp only at h;split at h<;>first|(cases h; done)|skip
  rename_i t v hv;obtain⟨e',b1,b2⟩:=aMu (nt:=nt) hx hq h;obtain⟨k1,k2⟩:=aV4 (P:=P) hk;refine .inr ⟨.ifc t v,e',m,b1,aSn (by rw[hk]; simp),Nat.le_refl _,fun w0 ρ a w K Q I hks hsz hdf hQ=>?_⟩;have U:=(SvG.sv (q:=q) (e:=e) (by rw[hE]; exact I)).ev y k1;rw[hv] at U;have hs':=U;simp only[VR] at U;obtain⟨u,s1,s2⟩:=U;unfold Oper.wp;rw[k2 _ _ _ _ s1,Oper.upon_panic];exact hQ _ a w ⟨ρ,.refl _ _,⟨_,rfl,by rw[← s1]; exact hs'⟩,b2 w0 ρ a w I.w I.gl hks hsz hdf⟩
 ·simp only[noR,Box.mk.injEq] at J; subst J; cases h
 ·simp only[noR,Box.mk.injEq] at J; subst J; cases h
 ·rename_i hk;cases hto:lX q o with
  | mk g =>
   simp only[hto,aV,Box.mk.injEq] at J;subst J;exact .inl ((aV1 (P:=P) hq (by rw[hE]; exact hEn) w00 hk hto h).kn hE)
def Wt(ops:Array Oper)(L:Nat→V)(o:Oper)(wt:Bool):Prop:=match o.guard with
 | none=>wt=true
 | some (g,p)=>∃d,(ops[g]?).bind (·.dst)=some d∧((∃t,L d= .b t∧wt=(t == p))∨(L d= .z .u∧wt=false))
theorem aZn{L:Nat→V}{o:Oper}{wt:Bool}(h:Wt ops L o wt){ρ:Rho}{a:Act}(hv:∀g p d,o.guard=some (g,p)→(ops[g]?).bind (·.dst)=some d→VR ρ (L d) (a.tmps.getD d Go.undef)):Region.wanted o (yielded ops a.tmps)=wt:=by
 unfold Wt at h;unfold Region.wanted;split at h
 ·rename_i U;rw[U,h]
 ·rename_i g p U;rw[U];obtain⟨d,hd,h⟩:=h;have hv:=hv g p d U hd;rcases h with⟨t,ht,rfl⟩|⟨ht,rfl⟩
  ·rw[ht] at hv;simp only[VR] at hv;have N:a.tmps[d]? = some (.bool t):=by
    rcases Nat.lt_or_ge d a.tmps.size with J|I
    ·simp[J] at hv ⊢; exact hv
    ·simp[I,Go.undef] at hv
   simp only[yielded,hd,Option.bind_some,N];cases t<;>cases p<;>rfl
  ·rw[ht] at hv;simp only[VR,zR] at hv;have Y:yielded ops a.tmps g=none:=by
    simp only[yielded,hd,Option.bind_some];rcases Nat.lt_or_ge d a.tmps.size with J|I
    ·have:a.tmps[d]? = some (.tuple #[]):=(by simp[J] at hv ⊢; exact hv);rw[this]
    ·rw[Array.getElem?_eq_none I]
   simp only[Y];rfl
theorem aOR(hx:XOK x)(hq:dU q)(hE:q.E=x.E)(hEn:fA P x.E)(w00:World){o:Oper}{q':Cx}{st:V→q.ε→q'.ε}{r:RF x q'}{f:RF x q}(J:trG x ops q base o q' st r= .mk f){e:q.ε}{m:M}{κ:KK x.ε}(hcf:aGV P x.E κ.cf)(h:f e m κ=true) :
  (∃v m' wt,r (st v e) m' κ=true∧Wt ops (fun t=>q.look t e) o wt∧(wt=false→v= .z .u∧m'=m)∧(wt=true→Kn P x o (fun t=>q.look t e) m v m')) ∨
  ∃u Y m',κ.kx (.pan u) Y m'=true∧Wt ops (fun t=>q.look t e) o true∧Pn P x nt o (fun t=>q.look t e) m (base e) u Y m':=by
 unfold trG at J;split at J
 ·rename_i hg;have I:Wt ops (fun t=>q.look t e) o true:=by unfold Wt; rw[hg]
  rcases aSo (nt:=nt) hx hq hE hEn w00 J hcf h with⟨v,m',U,N⟩|⟨u,Y,m',U,N⟩
  ·exact .inl ⟨v,m',true,U,I,(fun h=>by cases h),fun _=>N⟩
  ·exact .inr ⟨u,Y,m',U,I,N⟩
 ·rename_i g p hg;split at J
  ·simp only[noR,Box.mk.injEq] at J; subst J; cases h
  ·rename_i d hd;cases hs:aBB x q base o q' st r with
   | mk f' =>
    simp only[eX hq,hs,aV,Box.mk.injEq] at J;subst J;simp only[evD] at h;split at h
    ·rename_i t ht;have I:Wt ops (fun t=>q.look t e) o (t == p):=(by unfold Wt; rw[hg]; exact⟨d,hd,.inl ⟨t,ht,rfl⟩⟩);cases htp:(t == p)
     ·rw[htp] at h I;exact .inl ⟨.z .u,m,false,h,I,fun _=>⟨rfl,rfl⟩,fun h=>by cases h⟩
     ·rw[htp] at h I;rcases aSo (nt:=nt) hx hq hE hEn w00 hs hcf h with⟨v,m',U,N⟩|⟨u,Y,m',U,N⟩
      ·exact .inl ⟨v,m',true,U,I,(fun h=>by cases h),fun _=>N⟩
      ·exact .inr ⟨u,Y,m',U,I,N⟩
    ·rename_i ht;exact .inl ⟨.z .u,m,false,h,by unfold Wt; rw[hg]; exact⟨d,hd,.inr ⟨ht,rfl⟩⟩,fun _=>⟨rfl,rfl⟩,fun h=>by cases h⟩
    ·cases h
structure Stp where
 i:Nat
 o:Oper
 L:Nat→V
 m:M
 v:V
 m':M
 wt:Bool
def aFC(P:Program)(x:Fx)(ops:Array Oper)(s:Stp):Prop:=ops[s.i]? = some s.o∧Wt ops s.L s.o s.wt∧(s.wt=false→s.v= .z .u∧s.m'=s.m)∧(s.wt=true→Kn P x s.o s.L s.m s.v s.m')
def aKb(P:Program)(x:Fx)(s:Stp)(m:M):Prop:=s.wt=false∨(cls x.cx s.o=1∧A1 P x s.o s.L m s.v)∨(cls x.cx s.o=2∧ ∃I b,s.v=I s.m.nx∧ob m s.m.nx=b∧B1 P x s.o s.L I b)
def aGW(L:Nat→V)(o:Oper)(v:V):Nat→V:=match o.dst with
 | some d=>fun t=>bi (Nat.beq t d) v (L t)
 | none=>L
inductive Chain:(Nat→V)→M→List Stp→(Nat→V)→M→Prop
 | nil (L:Nat→V) (m:M):Chain L m [] L m
 | cons (s:Stp) {T:List Stp} {L':Nat→V} {m':M} (h:Chain (aGW s.L s.o s.v) s.m' T L' m'):Chain s.L s.m (s::T) L' m'
inductive aTE(P:Program)(x:Fx):List Stp→List (Nat×List Nat)→List Stp→Prop
 | nil (pre:List Stp) (pl:List (Nat×List Nat)):aTE P x pre pl []
 | cons (pre:List Stp) (i:Nat) (rc:List Nat) {pl:List (Nat×List Nat)} (s:Stp) {T:List Stp} (hi:s.i=i) (h:∀k∈rc,∃sp∈pre++ [s],sp.i=k∧aKb P x sp s.m') (ht:aTE P x (pre++ [s]) pl T):aTE P x pre ((i,rc)::pl) (s::T)
theorem bAu(hq:dU q){o:Oper}{un:q.ε→Bool}(h:unW ops q o= .mk un){e:q.ε}(N:un e=true){wt:Bool}(I:Wt ops (fun t=>q.look t e) o wt):wt=false:=by
 unfold unW at h;unfold Wt at I;split at h
 ·simp only[Box.mk.injEq] at h; subst h; cases N
 ·rename_i g p U;rw[U] at I;obtain⟨d,hd,I⟩:=I;split at h
  ·simp only[Box.mk.injEq] at h; subst h; cases N
  ·rename_i Y J;rw[hd] at J;cases J;simp only[eX hq,aV,Box.mk.injEq,evD] at h;subst h;rcases I with⟨t,ht,rfl⟩|⟨ht,rfl⟩
   ·simp only[ht] at N
    simpa using N
   ·rfl
theorem bAv{J:Nat→V}(h:Mkv J){I:Nat→V}(h':Mkv I){a N:Nat}(e:rb 0 (J a)=rb 0 (I N)):J=I:=by
 have U:∀(a b:Nat) (v:V),rb a (rb b v)=rb a v:=fun a b v=>by cases v<;>rfl
 have Y:J 0=rb 0 (J a):=by rw[(h a).2,U,← (h 0).2]
 have e2:I 0=rb 0 (I N):=by rw[(h' N).2,U,← (h' 0).2]
 funext b;rw[(h b).2,(h' b).2,Y,e2,e]
theorem bAw(hq:dU q)(hE:q.E=x.E)(hEn:fA P x.E)(w00:World){o:Oper}{f:OpF q}(hf:lX q o= .mk f){un:q.ε→Bool}(hu:unW ops q o= .mk un){e:q.ε}{s:Stp}(hso:s.o=o)(hsL:s.L=fun t=>q.look t e)(hs:aFC P x ops s)(h12:Nat.blt 0 (cls q o)=true∧Nat.blt (cls q o) 3=true){m:M}(h:chk (cls q o) f un s.v e m=true):aKb P x s m:=by
 have h1:0<cls q o:=by simpa using h12.1
 have h2:cls q o<3:=by simpa using h12.2
 have hcl:cls q o=cls x.cx o:=aZm hE o;have hkd:=bAs h2;obtain⟨s1,s2,s3,s4⟩:=hs;rw[hso,hsL] at s2;unfold chk at h;cases hun:un e
 ·rw[hun] at h;simp only[aT] at h;cases hwt:s.wt
  ·exact .inl hwt
  ·have kn:=s4 hwt;have hop:∀ {c:V→M→Bool},f e m c=true→ ∃v m',c v m'=true∧Kn P x o (fun t=>q.look t e) m v m':=fun hc=>(aV1 (P:=P) hq (by rw[hE]; exact hEn) w00 hkd hf hc).kn hE;cases I:Nat.beq (cls q o) 1
   ·rw[I] at h;simp only[aT] at h;have J:cls x.cx o=2:=by
     have:cls q o≠1:=fun e=>(by rw[e] at I; cases I);omega
    refine .inr (.inr ⟨by rw[hso]; exact J,?_⟩);rw[hso,hsL] at kn;obtain⟨N,b,hv,hmk⟩:∃(N:Nat→V) (b:O),s.v=N s.m.nx∧Mkv N:=by
     cases kn with
     | a0 U _ _=>rw[U] at J; cases J
     | a1 U _ _=>rw[U] at J; cases J
     | b N b _ _ hv _ hmk _=>exact⟨N,b,hv,hmk⟩
     | c U _=>rw[U] at J; cases J
    have fin:∀(v':V) (m':M) (a':Nat),Kn P x o (fun t=>q.look t e) m v' m'→bk v'=some a'→rb 0 s.v=rb 0 v'→(∀a,bk s.v=some a→aTt a a' m m'=true)→ ∃N b,s.v=N s.m.nx∧ob m s.m.nx=b∧B1 P x s.o s.L N b:=fun v' m' a' kn' hb hr hck=>by
     cases kn' with
     | a0 U _ _=>rw[U] at J; cases J
     | a1 U _ _=>rw[U] at J; cases J
     | c U _=>rw[U] at J; cases J
     | b mkv' b' _ hn' hv' hm' hmk' hB =>
      subst hv' hm';rw[(hmk' _).1] at hb;cases hb;rw[hv] at hr;have:=bAv hmk hmk' hr;subst this;have hob:=aYl (hck _ (by rw[hv]; exact(hmk _).1));rw[aOq] at hob;exact⟨N,b',hv,hob,by rw[hso,hsL]; exact hB⟩
    split at h<;>first|(cases h; done)|skip
    ·rename_i a o1 Y;obtain⟨v',m',h3,h4⟩:=hop h;split at h3<;>first|(cases h3; done)|skip
     rename_i a' o';obtain⟨h5,h6⟩:=cA h3;exact fin _ _ a' h4 rfl (by rw[Y]; simp only[rb]; rw[Nat.eq_of_beq_eq_true h5]) fun b hb=>by rw[Y] at hb; cases hb; exact h6
    ·rename_i a o1 n1 c1 y1 Y;obtain⟨v',m',h3,h4⟩:=hop h;split at h3<;>first|(cases h3; done)|skip
     rename_i a' o' n' c' y';obtain⟨h5,h6⟩:=cA h3;exact fin _ _ a' h4 rfl (by rw[Y]; simp only[rb]; exact aQy h5) fun b hb=>by rw[Y] at hb; cases hb; exact h6
    ·rename_i a Y;obtain⟨v',m',h3,h4⟩:=hop h;split at h3<;>first|(cases h3; done)|skip
     rename_i a';exact fin _ _ a' h4 rfl (by rw[Y]; rfl) fun b hb=>by rw[Y] at hb; cases hb; exact h3
   ·rw[I] at h;simp only[aS] at h;have I:=Nat.eq_of_beq_eq_true I;obtain⟨v',m',h3,h4⟩:=hop h;have hv:=bAp h3;refine .inr (.inl ⟨by rw[hso,← hcl]; exact I,?_⟩);rw[hcl] at I;cases h4 with
    | a0 U _ _=>rw[U] at I; cases I
    | a1 U _ hA=>rw[hso,hsL,hv]; exact hA
    | b _ _ U _ _ _ _ _=>rw[U] at I; cases I
    | c U _=>rw[U] at I; cases I
 ·exact .inl (bAu hq hu hun s2)
theorem aFD{J:PC q}{e:q.ε}{m:M}:∀ {rc:List Nat},aIQ rc J e m=true→ ∀k∈rc,∃p∈J,p.1=k∧p.2 e m=true
 | [],_,k,I=>by cases I
 | i::l,h,k,I=>by
  obtain⟨N,U⟩:=cA (show (bi (match J.find? (fun p=>Nat.beq p.1 i) with|some p=>p.2 e m|none=>false) (aIQ l J e m) false)=true from h);rcases List.mem_cons.1 I with rfl|I
  ·split at N
   ·rename_i p hp;exact⟨p,List.mem_of_find?_eq_some hp,Nat.eq_of_beq_eq_true (by simpa using List.find?_some hp),N⟩
   ·cases N
  ·exact aFD U k I
def bBo(x:Fx)(nt:Nat)(B:x.ε)(wb:List Nat)(T:List Stp)(L':Nat→V)(m':M)(I:x.ε):Prop:=∀(w0:World) (ρ:Rho) (a:Act) (w:World),W w0 ρ m' w→GR x.E ρ→(∀t,VR ρ (L' t) (a.tmps.getD t Go.undef)) →
 (∀t,x.ix t≠0→t∉wb→(∀s∈T,s.o.dst≠some t)→VR ρ (get x.n (x.ix t) B) (a.tmps.getD t Go.undef))→nt≤a.tmps.size→DR ρ (get x.n 0 B) a.defers→Sx x nt w0 ρ I m' a w
theorem aMw(hx:XOK x)(hEn:fA P x.E)(w00:World):∀(pl:List (Nat×List Nat)) (q:Cx) (base:q.ε→x.ε) (wb:List Nat) (pc:PC q) (f:RF x q),dU q→q.E=x.E→(∀d∈wb,x.ix d≠0)→aDo x ops pl q base wb pc= .mk f →
    ∀(pre:List Stp) (e:q.ε) (m:M) (κ:KK x.ε),aGV P x.E κ.cf→(∀p∈pc,∃sp∈pre,sp.i=p.1∧ ∀m,p.2 e m=true→aKb P x sp m)→f e m κ=true →
    ∃T L' m',Chain (fun t=>q.look t e) m T L' m'∧(∀s∈T,aFC P x ops s)∧aTE P x pre pl T ∧
      ((pl.map (·.1)=T.map (·.i)∧ ∃N,κ.kn N m'=true∧bBo x nt (base e) wb T L' m' N) ∨
       ∃p l2 o u N m2,pl.map (·.1)=T.map (·.i)++p::l2∧ops[p]? = some o∧κ.kx (.pan u) N m2=true∧Wt ops L' o true∧Pn P x nt o L' m' (base e) u N m2)
  | [],q,base,wb,pc,f,hq,hE,hz,Y,pre,e,m,κ,hcf,hpc,h=>by
    have Y:aTs x q base wb= .mk f:=Y;simp only[aTs,aMt hq,aV,Box.mk.injEq] at Y;subst Y;refine⟨[],_,m,.nil _ _,fun s hs=>(by cases hs),.nil _ _,.inl ⟨rfl,_,h,fun w0 ρ a w hw hg he hb hs hd=>?_⟩⟩;exact Rg.sx (q:=q) (base:=base) (wb:=wb) (e:=e) hx ⟨hw,hg,he,fun t h1 h2=>hb t h1 h2 fun s hs=>(by cases hs),hs,hd⟩ hz
  | (i,rc)::pl,q,base,wb,pc,f,hq,hE,hz,Y,pre,e,m,κ,hcf,hpc,h=>by
    unfold aDo at Y;split at Y
    · simp only[noR,Box.mk.injEq] at Y; subst Y; cases h
    · rename_i o ho;split at Y
      · rename_i d hd;cases hto:lX q o with
        | mk g =>
          cases hun:unW ops q o with
          | mk un =>
            simp only[hto,hun,aV] at Y;generalize hpc':aRZ o i d g un pc=pc' at Y;cases hr:aDo x ops pl (q.ext d) (fun e=>base e.2) (xM x o wb) pc' with
            | mk r =>
              simp only[hr,aV] at Y;rcases aOR (nt:=nt) hx hq hE hEn w00 Y hcf h with⟨v,m1,wt,h1,h2,h3,h4⟩|⟨u,N,m2,h1,h2,h3⟩
              · obtain⟨h1,h1'⟩:=cA h1
                let s:Stp:=⟨i,o,fun t=>q.look t e,m,v,m1,wt⟩
                have hs:aFC P x ops s:=⟨ho,h2,h3,h4⟩;have U:∀p∈pc',∃sp∈pre++ [s],sp.i=p.1∧ ∀m,p.2 (v,e) m=true→aKb P x sp m:=fun p hp=>by
                  have old:p∈pc.up d→ ∃sp∈pre++ [s],sp.i=p.1∧ ∀m,p.2 (v,e) m=true→aKb P x sp m:=fun hp=>by
                    obtain⟨p0,hp0,rfl⟩:=List.mem_map.1 hp;obtain⟨sp,q1,q2,q3⟩:=hpc p0 hp0;exact⟨sp,List.mem_append_left _ q1,q2,fun m hm=>q3 m hm⟩
                  rw[← hpc'] at hp;unfold aRZ at hp;cases hcl:(Nat.blt 0 (cls q o)&&Nat.blt (cls q o) 3)
                  · rw[hcl] at hp; exact old hp
                  · rw[hcl] at hp;rcases List.mem_cons.1 hp with rfl|hp
                    · refine⟨s,by simp,rfl,fun m hm=>?_⟩;simp only[Bool.and_eq_true] at hcl;exact bAw (s:=s) hq hE hEn w00 hto hun rfl rfl hs hcl hm
                    · exact old hp
                obtain⟨T,L',m',k1,k2,k3,k4⟩:=aMw hx hEn w00 pl (q.ext d) (fun e=>base e.2) (xM x o wb) pc' r (aV2 hq d) hE (aI5 hz) hr (pre++ [s]) (v,e) m1 κ hcf U h1';have hL:aGW s.L s.o s.v=fun t=>(q.ext d).look t (v,e):=by
                  show aGW (fun t=>q.look t e) o v=_;unfold aGW;rw[hd];rfl
                refine⟨s::T,L',m',.cons s (by rw[hL]; exact k1),fun s' I=>?_,.cons pre i rc s rfl (fun k hk=>?_) k3,?_⟩
                · rcases List.mem_cons.1 I with rfl|I
                  · exact hs
                  · exact k2 s' I
                · obtain⟨p,hp,rfl,hp2⟩:=aFD h1 k hk;obtain⟨sp,q1,q2,q3⟩:=U p hp;exact⟨sp,q1,q2,q3 m1 hp2⟩
                · rcases k4 with⟨q1,N,q2,q3⟩|⟨p,l2,o',u,N,m2,q1,q2,q3,q4,q5⟩
                  · refine .inl ⟨by simp[q1,s],N,q2,fun w0 ρ a w hw hg he hb hsz hdf=>q3 w0 ρ a w hw hg he (fun t t1 t2 t3=>?_) hsz hdf⟩;refine hb t t1 (fun hw=>t2 ?_) fun s' I=>?_
                    · by_cases hzd:x.ix d=0
                      · rw[aHL hd hzd]; exact hw
                      · exact(sJ hd hzd).2 (.inr hw)
                    · rcases List.mem_cons.1 I with rfl|I
                      · intro J;have J:o.dst=some t:=J;rw[hd] at J;cases J;exact t2 ((sJ hd t1).2 (.inl rfl))
                      · exact t3 s' I
                  · exact .inr ⟨p,l2,o',u,N,m2,by simp[q1,s],q2,q3,q4,q5⟩
              · exact⟨[],_,m,.nil _ _,fun s hs=>(by cases hs),.nil _ _,.inr ⟨i,pl.map (·.1),o,u,N,m2,rfl,ho,h1,h2,h3⟩⟩
      · rename_i hd;cases hr:aDo x ops pl q base wb pc with
        | mk r =>
          simp only[hr,aV] at Y;rcases aOR (nt:=nt) hx hq hE hEn w00 Y hcf h with⟨v,m1,wt,h1,h2,h3,h4⟩|⟨u,N,m2,h1,h2,h3⟩
          · obtain⟨h1,h1'⟩:=cA h1
            let s:Stp:=⟨i,o,fun t=>q.look t e,m,v,m1,wt⟩
            have hs:aFC P x ops s:=⟨ho,h2,h3,h4⟩;have U:∀p∈pc,∃sp∈pre++ [s],sp.i=p.1∧ ∀m,p.2 e m=true→aKb P x sp m:=fun p hp=>by
              obtain⟨sp,q1,q2,q3⟩:=hpc p hp;exact⟨sp,List.mem_append_left _ q1,q2,q3⟩
            obtain⟨T,L',m',k1,k2,k3,k4⟩:=aMw hx hEn w00 pl q base wb pc r hq hE hz hr (pre++ [s]) e m1 κ hcf U h1';have hL:aGW s.L s.o s.v=fun t=>q.look t e:=by
              show aGW (fun t=>q.look t e) o v=_;unfold aGW;rw[hd]
            refine⟨s::T,L',m',.cons s (by rw[hL]; exact k1),fun s' I=>?_,.cons pre i rc s rfl (fun k hk=>?_) k3,?_⟩
            · rcases List.mem_cons.1 I with rfl|I
              · exact hs
              · exact k2 s' I
            · obtain⟨p,hp,rfl,hp2⟩:=aFD h1 k hk;obtain⟨sp,q1,q2,q3⟩:=U p hp;exact⟨sp,q1,q2,q3 m1 hp2⟩
            · rcases k4 with⟨q1,N,q2,q3⟩|⟨p,l2,o',u,N,m2,q1,q2,q3,q4,q5⟩
              · refine .inl ⟨by simp[q1,s],N,q2,fun w0 ρ a w hw hg he hb hsz hdf=>q3 w0 ρ a w hw hg he (fun t t1 t2 t3=>?_) hsz hdf⟩;refine hb t t1 t2 fun s' I=>?_;rcases List.mem_cons.1 I with rfl|I
                · intro J;have J:o.dst=some t:=J;rw[hd] at J;cases J
                · exact t3 s' I
              · exact .inr ⟨p,l2,o',u,N,m2,by simp[q1,s],q2,q3,q4,q5⟩
          · exact⟨[],_,m,.nil _ _,fun s hs=>(by cases hs),.nil _ _,.inr ⟨i,pl.map (·.1),o,u,N,m2,rfl,ho,h1,h2,h3⟩⟩
end
end
end Go.It
namespace Go.It
noncomputable section
open Go.RowKit
open Go.Vc (bG aY)
theorem aHO(s i:Nat):hasB s i=s.testBit i:=by
 rw[Nat.testBit_eq_decide_div_mod_eq];unfold hasB;rw[show Nat.mod (Nat.shiftRight s i) 2=s/2^i%2 from by show (s >>> i)%2=_; rw[Nat.shiftRight_eq_div_pow]];rcases Nat.mod_two_eq_zero_or_one (s/2^i) with h|h<;>rw[h]<;>rfl
theorem aI8(a b i:Nat):hasB (Nat.lor a b) i=(hasB a i||hasB b i):=by simp only[aHO]; exact Nat.testBit_or a b i
theorem aFE(a b i:Nat):hasB (Nat.land a b) i=(hasB a i&&hasB b i):=by simp only[aHO]; exact Nat.testBit_and a b i
theorem aI9(i k:Nat):hasB (Nat.shiftLeft 1 i) k=decide (i=k):=by
 rw[aHO,show Nat.shiftLeft 1 i=2^i from by show 1 <<< i=_; rw[Nat.shiftLeft_eq,Nat.one_mul]];exact Nat.testBit_two_pow
theorem aLh(k:Nat):hasB 0 k=false:=by rw[aHO]; exact Nat.zero_testBit k
theorem aTF{ms:List Nat}{o:Oper}{k:Nat}(h:hasB (aIP ms o) k=true):∃e∈o.after,Region.binds .any e=true∧(k=e.on∨hasB (ms.getD e.on 0) k=true):=by
 unfold aIP at h;have I:∀(l:List Edge) (s:Nat),hasB (l.foldl (fun s e=>bi (Region.binds .any e) (Nat.lor s (Nat.lor (Nat.shiftLeft 1 e.on) (ms.getD e.on 0))) s) s) k=true→hasB s k=true∨ ∃e∈l,Region.binds .any e=true∧(k=e.on∨hasB (ms.getD e.on 0) k=true):=by
  intro l
  induction l with
  | nil=>exact fun s h=>.inl h
  | cons e l U =>
   intro s h;rw[List.foldl_cons] at h;rcases U _ h with h|⟨Y,N,J⟩
   ·cases hb:Region.binds .any e
    ·rw[hb] at h; exact .inl h
    ·rw[hb] at h;simp only[aS,aI8,aI9,Bool.or_eq_true,decide_eq_true_eq] at h;rcases h with h|h|h
     ·exact .inl h
     ·exact .inr ⟨e,.head _,hb,.inl h.symm⟩
     ·exact .inr ⟨e,.head _,hb,.inr h⟩
   ·exact .inr ⟨Y,.tail _ N,J⟩
 rcases I _ _ h with h|⟨e,N,J⟩
 ·rw[aLh] at h; cases h
 ·exact⟨e,Array.mem_toList_iff.1 N,J⟩
theorem aDr:∀(l:List Oper) (ms:List Nat) (i:Nat),i<ms.length→(fF l ms).getD i 0=ms.getD i 0
 | [],_,_,_=>rfl
 | o::l,ms,i,h=>by
  rw[fF,aDr l _ i (by simp; omega)];simp[List.getElem?_append_left h]
theorem aTG(l:List Oper):∀(ms:List Nat) (j:Nat) (o:Oper),l[j]? = some o→ ∃I,(fF l ms).getD (ms.length+j) 0=aIP I o∧ ∀k,k<ms.length+j→I.getD k 0=(fF l ms).getD k 0:=by
 induction l with
 | nil=>intro ms j o h; simp at h
 | cons o l Y =>
  intro ms j o' h;cases j with
  | zero =>
   simp only[List.getElem?_cons_zero,Option.some.injEq] at h;subst h;refine⟨ms,?_,fun k J=>?_⟩
   ·rw[fF,aDr l _ _ (by simp)];simp
   ·rw[fF,aDr l _ k (by simp; omega)];simp[List.getElem?_append_left (by simpa using J:k<ms.length)]
  | succ j =>
   obtain⟨I,U,N⟩:=Y (ms++ [aIP ms o]) j o' (by simpa using h);simp only[List.length_append,List.length_singleton] at U N;refine⟨I,?_,fun k J=>?_⟩
   ·rw[fF,show ms.length+(j+1)=ms.length+1+j from by omega]; exact U
   ·rw[fF]; exact N k (by omega)
theorem aOS{ops:List Oper}{i:Nat}{o:Oper}(Y:ops[i]? = some o)(hb:∀e∈o.after,Region.binds .any e=true→e.on<i){k:Nat}(h:hasB ((fF ops []).getD i 0) k=true):∃e∈o.after,Region.binds .any e=true∧(k=e.on∨hasB ((fF ops []).getD e.on 0) k=true):=by
 obtain⟨ms',N,J⟩:=aTG ops [] i o Y;simp only[List.length_nil,Nat.zero_add] at N J;rw[N] at h;obtain⟨e,I,U,e3⟩:=aTF h;exact⟨e,I,U,e3.imp id fun h=>by rw[← J e.on (hb e I U)]; exact h⟩
structure aYm(x:Fx)(ops:List Oper)(ix:List Nat):Prop where
 nd:ix.Nodup
 all:∀i,i<ops.length→i∈ix
 back:∀(i:Nat) (o:Oper),ops[i]? = some o→ ∀e∈o.after,Region.binds .any e=true→e.on<i
 guard:∀(i:Nat) (o:Oper) g p,ops[i]? = some o→o.guard=some (g,p)→hasB ((fF ops []).getD i 0) g=true
 ks:∀(i:Nat) (o:Oper) d,ops[i]? = some o→o.dst=some d→d∉x.ks
 uniq:∀(i:Nat) (o:Oper) d (k:Nat) (ok:Oper),ops[i]? = some o→ops[k]? = some ok→o.dst=some d→ok.dst=some d→k=i
 opd:∀(i:Nat) (o:Oper) d (k:Nat) (ok:Oper),ops[i]? = some o→ops[k]? = some ok→ok.dst=some d→Operand.tmp d∈o.op.operands→hasB ((fF ops []).getD i 0) k=true∨k=i∨hasB ((fF ops []).getD k 0) i=true
theorem fG{α:Type}{l:List α}{i:Nat}{a:α}(h:l[i]? = some a):i<l.length:=by
 rcases Nat.lt_or_ge i l.length with I|I
 ·exact I
 ·rw[List.getElem?_eq_none I] at h; cases h
theorem aZo:∀ {l:List Nat},ndB l=true→l.Nodup
 | [],_=>List.nodup_nil
 | i::l,h=>by
  simp only[ndB,Bool.and_eq_true,Bool.not_eq_true'] at h;exact List.nodup_cons.2 ⟨(fun I=>by have:=List.contains_iff_mem.2 I; rw[this] at h; cases h.1),aZo h.2⟩
theorem aSp{f:Nat→Oper→Bool}:∀ {l:List Oper} {j:Nat},allI f j l=true→ ∀ {i:Nat} {o:Oper},l[i]? = some o→f (j+i) o=true
 | [],_,_,i,o,hi=>by cases hi
 | a::l,j,h,i,o,hi=>by
  obtain⟨I,J⟩:=cA (show bi (f j a) (allI f (Nat.succ j) l) false=true from h);cases i with
  | zero=>cases hi; exact I
  | succ i =>
   have:=aSp J (i:=i) (by simpa using hi)
   rwa [Nat.succ_eq_add_one,show j+1+i=j+(i+1) from by omega] at this
theorem aQz:∀ {l:List Oper} {j k d:Nat} {o:Oper},l[k]? = some o→o.dst=some d→(j+k,d)∈aVx l j
 | [],_,_,_,_,h,_=>by cases h
 | a::l,j,k,d,o,h,hd=>by
  unfold aVx;cases k with
  | zero=>cases h; rw[hd]; exact .head _
  | succ k =>
   have:=aQz (l:=l) (j:=Nat.succ j) (k:=k) (by simpa using h) hd;rw[Nat.succ_eq_add_one,show j+1+k=j+(k+1) from by omega] at this;split
   ·exact .tail _ this
   ·exact this
theorem aV9{i d:Nat}:∀ {l:List (Nat×Nat)},w1 i d l=true→ ∀ {k:Nat},(k,d)∈l→k=i
 | [],_,k,h=>by cases h
 | p::l,h,k,I=>by
  unfold w1 at h;cases hb:Nat.beq p.2 d
  ·rw[hb,aT] at h;rcases List.mem_cons.1 I with rfl|I
   ·simp at hb
   ·exact aV9 h I
  ·rw[hb,aS] at h;obtain⟨J,N⟩:=cA h;rcases List.mem_cons.1 I with rfl|I
   ·exact Nat.eq_of_beq_eq_true J
   ·exact aV9 N I
theorem aWa{ah:List Nat}{i t:Nat}:∀ {l:List (Nat×Nat)},w2 ah i t l=true→ ∀ {k:Nat},(k,t)∈l→hasB (ah.getD i 0) k=true∨k=i∨hasB (ah.getD k 0) i=true
 | [],_,k,h=>by cases h
 | p::l,h,k,J=>by
  unfold w2 at h;cases hb:Nat.beq p.2 t
  ·rw[hb,aT] at h;rcases List.mem_cons.1 J with rfl|J
   ·simp at hb
   ·exact aWa h J
  ·rw[hb,aS] at h;obtain⟨I,N⟩:=cA h;rcases List.mem_cons.1 J with rfl|J
   ·rw[Bool.or_eq_true,Bool.or_eq_true] at I;rcases I with (I|I)|I
    ·exact .inl I
    ·exact .inr (.inl (Nat.eq_of_beq_eq_true I))
    ·exact .inr (.inr I)
   ·exact aWa N J
theorem aYn{x:Fx}{ops:List Oper}{pl:List (Nat×List Nat)}(h:aMi x ops pl=true):aYm x ops (pl.map (·.1)):=by
 simp only[aMi,Bool.and_eq_true,List.all_eq_true,List.mem_range] at h;obtain⟨⟨h1,h2⟩,h3⟩:=h;have I:∀i o,ops[i]? = some o→(∀e∈o.after,Region.binds .any e=true→e.on<i)∧(∀g p,o.guard=some (g,p)→hasB ((fF ops []).getD i 0) g=true)∧(∀d,o.dst=some d→d∉x.ks∧ ∀k ok,ops[k]? = some ok→ok.dst=some d→k=i) ∧
   (∀d k ok,ops[k]? = some ok→ok.dst=some d→Operand.tmp d∈o.op.operands→hasB ((fF ops []).getD i 0) k=true∨k=i∨hasB ((fF ops []).getD k 0) i=true):=fun i o J=>by
  have:=aSp h3 J;rw[Nat.zero_add] at this;unfold bBb at this;simp only[Bool.and_eq_true,List.all_eq_true,Array.mem_toList_iff] at this;obtain⟨⟨⟨a1,a2⟩,a3⟩,a4⟩:=this;refine⟨fun e he hb=>?_,fun g p hg=>?_,fun d hd=>?_,fun d k ok N hd Y=>?_⟩
  ·have:=a1 e he;rw[hb] at this
   simpa using this
  ·rw[hg] at a2; exact a2
  ·rw[hd] at a3;simp only[Bool.and_eq_true,Bool.not_eq_true'] at a3;refine⟨(fun Y=>by have:=List.contains_iff_mem.2 Y; rw[this] at a3; cases a3.1),fun k ok N U=>?_⟩;have:=aQz (j:=0) N U;rw[Nat.zero_add] at this;exact aV9 a3.2 this
  ·have h5:=a4 _ Y;have:=aQz (j:=0) N hd;rw[Nat.zero_add] at this;exact aWa h5 this
 exact⟨aZo h1,fun i hi=>List.contains_iff_mem.1 (h2 i hi),fun i o J=>(I i o J).1,fun i o g p J=>(I i o J).2.1 g p,fun i o d J hd=>((I i o J).2.2.1 d hd).1,fun i o d k ok J N hd U=>((I i o J).2.2.1 d hd).2 k ok N U,
  fun i o d k ok J N hd Y=>(I i o J).2.2.2 d k ok N hd Y⟩
structure Ord(q:Cx)(ops:List Oper)(A:List Nat)(i:Nat)(rc:List Nat):Prop where
 sub:∀k,hasB ((fF ops []).getD i 0) k=true→k∈A
 eff:∀k ok,k∈A→ops[k]? = some ok→cls q ok=3→hasB ((fF ops []).getD i 0) k=true
 rck:∀o,ops[i]? = some o→2≤cls q o→ ∀k ok,k∈A→ops[k]? = some ok→0<cls q ok→cls q ok<3→hasB ((fF ops []).getD i 0) k=true∨k∈rc
theorem aWb{q:Cx}{ops:List Oper}{es:Nat}:∀ {pl:List (Nat×List Nat)} {Y:Nat} {S:List Nat},aEc q ops (fF ops []) es pl Y=true→(∀k,hasB Y k=true→k∈S)→(∀k,k∈S→hasB Y k=true)→(∀k ok,k∈S→ops[k]? = some ok→aK9 q ok=hasB es k) →
  ∀ {A B:List (Nat×List Nat)} {i:Nat} {rc:List Nat},pl=A++(i,rc)::B→Ord q ops (S++A.map (·.1)) i rc
 | [],_,_,_,_,_,_,A,B,i,rc,e=>by cases A<;>cases e
 | (j,rj)::pl,Y,S,h,h1,h2,h3,A,B,i,rc,e=>by
  simp only[aEc,Bool.and_eq_true] at h;obtain⟨g1,g2⟩:=h;split at g1
  ·cases g1
  ·rename_i o ho;simp only[Bool.and_eq_true,beq_iff_eq,Bool.or_eq_true] at g1;obtain⟨⟨⟨b1,b2⟩,b3⟩,N⟩:=g1;have b1:=Nat.eq_of_beq_eq_true b1;have b2:=Nat.eq_of_beq_eq_true b2;cases A with
   | nil =>
    simp only[List.nil_append,List.cons.injEq,Prod.mk.injEq] at e;obtain⟨⟨rfl,rfl⟩,rfl⟩:=e;simp only[List.map_nil,List.append_nil];have es3:∀ {ok:Oper},cls q ok=3↔aK9 q ok=true:=fun {ok}=>by
     unfold aK9;exact⟨fun h=>by rw[h]; rfl,fun h=>Nat.eq_of_beq_eq_true h⟩
    refine⟨fun k I=>h1 k ?_,fun k ok I J hc=>?_,fun o' U hc k ok I J hc1 hc2=>?_⟩
    ·rw[← b1,aFE,Bool.and_eq_true] at I; exact I.2
    ·have e1:hasB (Nat.land Y es) k=true:=(by rw[aFE,h2 k I,← h3 k ok I J,es3.1 hc]; rfl);rw[← b2,aFE,Bool.and_eq_true] at e1;exact e1.2
    ·rw[ho] at U;cases U;rcases N with N|N
     ·have:cls q o<2:=(by simpa using N);omega
     ·have:=List.all_eq_true.1 N k (List.mem_range.2 (fG J));rw[J,h2 k I] at this;have hne:hasB es k=false:=by
       rw[← h3 k ok I J];cases he:aK9 q ok with
       | false=>rfl
       | true=>have:=es3.2 he; omega
      rw[hne] at this;simp only[Bool.not_true,Bool.false_or,Bool.or_eq_true] at this;rcases this with (h|h)|h
      ·exact .inl h
      ·exact .inr (List.contains_iff_mem.1 h)
      ·have:=Nat.eq_of_beq_eq_true h;omega
   | cons p A =>
    simp only[List.cons_append,List.cons.injEq] at e;obtain⟨rfl,e⟩:=e;have:=aWb (S:=S++ [j]) g2 (fun k I=>by
     rw[aI8,aI9,Bool.or_eq_true,decide_eq_true_eq] at I;rcases I with I|rfl
     ·exact List.mem_append_left _ (h1 k I)
     ·simp) (fun k I=>by
     rw[aI8,aI9,Bool.or_eq_true,decide_eq_true_eq];rcases List.mem_append.1 I with I|I
     ·exact .inl (h2 k I)
     ·exact .inr (List.mem_singleton.1 I).symm) (fun k ok I J=>by
     rcases List.mem_append.1 I with I|I
     ·exact h3 k ok I J
     ·obtain rfl:=List.mem_singleton.1 I;rw[ho] at J;cases J;exact b3) e
    simpa using this
section
variable {P:Program} {x:Fx} {ops:Array Oper}
theorem Chain.split:∀ {T1 T2:List Stp} {L L':Nat→V} {m m':M},Chain L m (T1++T2) L' m'→ ∃L1 m1,Chain L m T1 L1 m1∧Chain L1 m1 T2 L' m'
 | [],T2,L,L',m,m',h=>⟨L,m,.nil _ _,h⟩
 | s::T1,T2,L,L',m,m',h=>by
  cases h with
  | cons _ h =>
   obtain⟨L1,m1,I,J⟩:=h.split;exact⟨L1,m1,.cons s I,J⟩
theorem Chain.join:∀ {T1 T2:List Stp} {L L1 L':Nat→V} {m m1 m':M},Chain L m T1 L1 m1→Chain L1 m1 T2 L' m'→Chain L m (T1++T2) L' m'
 | [],_,_,_,_,_,_,_,I,J=>by cases I; exact J
 | s::T1,_,_,_,_,_,_,_,I,J=>by
  cases I with
  | cons _ h=>exact .cons s (h.join J)
theorem Chain.head{s:Stp}{T:List Stp}{L L':Nat→V}{m m':M}(h:Chain L m (s::T) L' m'):L=s.L∧m=s.m∧Chain (aGW s.L s.o s.v) s.m' T L' m':=by cases h with|cons _ h=>exact⟨rfl,rfl,h⟩
theorem aYo{L:Nat→V}{o:Oper}{v:V}{t:Nat}(h:o.dst≠some t):aGW L o v t=L t:=by
 unfold aGW;cases hd:o.dst with
 | none=>rfl
 | some d =>
  have:Nat.beq t d=false:=bAm.2 fun e=>h (by rw[hd,e]);simp only[this,aT]
theorem aYp{L:Nat→V}{o:Oper}{v:V}{t:Nat}(h:o.dst=some t):aGW L o v t=v:=by
 unfold aGW;rw[h];simp only[Nat.beq_refl,aS]
theorem Chain.ne:∀ {T:List Stp} {L L':Nat→V} {m m':M},Chain L m T L' m'→ ∀ {t:Nat},(∀s∈T,s.o.dst≠some t)→L' t=L t
 | [],_,_,_,_,h,t,_=>by cases h; rfl
 | s::T,_,_,_,_,h,t,I=>by
  obtain⟨rfl,rfl,J⟩:=h.head;rw[J.ne fun N U=>I N (.tail _ U),aYo (I s (.head _))]
theorem Chain.at{T:List Stp}{L L':Nat→V}{m m':M}(h:Chain L m T L' m'){t:Nat}{s:Stp}:s∈T→s.o.dst=some t→(∀J∈T,J.o.dst=some t→J=s)→L' t=s.v:=by
 induction h with
 | nil=>intro U; cases U
 | cons s0 h ih =>
  rename_i T L' m';intro U hd Y;by_cases N:s∈T
  ·exact ih N hd fun J I=>Y J (.tail _ I)
  ·obtain rfl:s=s0:=by
    rcases List.mem_cons.1 U with h|h
    ·exact h
    ·exact absurd h N
   rw[h.ne fun J I he=>N (Y J (.tail _ I) he▸I),aYp hd]
theorem aTE.split{pre:List Stp}{J:List (Nat×List Nat)}{T:List Stp}(h:aTE P x pre J T):∀ {A B:List Stp} {s:Stp},T=A++s::B→ ∃A' rc B',J=A'++(s.i,rc)::B'∧A'.map (·.1)=A.map (·.i)∧ ∀k∈rc,∃sp∈pre++(A++ [s]),sp.i=k∧aKb P x sp s.m':=by
 induction h with
 | nil pre J=>intro A B s e; cases A<;>cases e
 | cons pre i rc s0 hi hr ht U =>
  intro A B s e;cases A with
  | nil =>
   simp only[List.nil_append,List.cons.injEq] at e;obtain⟨rfl,rfl⟩:=e;exact⟨[],rc,_,by rw[hi]; rfl,rfl,hr⟩
  | cons a A =>
   simp only[List.cons_append,List.cons.injEq] at e;obtain⟨rfl,e⟩:=e;obtain⟨A',I,B',h1,Y,h3⟩:=U e;refine⟨(i,rc)::A',I,B',by rw[h1]; rfl,by simp[Y,hi],fun k N=>?_⟩;obtain⟨sp,q1,q2⟩:=h3 k N;exact⟨sp,by simpa using q1,q2⟩
theorem aFC.nx{s:Stp}(h:aFC P x ops s):s.m.nx≤s.m'.nx:=by
 cases J:s.wt with
 | false=>rw[(h.2.2.1 J).2]; exact Nat.le_refl _
 | true =>
  cases h.2.2.2 J with
  | a0 _ I _=>rw[I]; exact Nat.le_refl _
  | a1 _ I _=>rw[I]; exact Nat.le_refl _
  | b N b _ _ _ I _ _=>rw[I]; exact Nat.le_succ _
  | c _ h=>exact h.1
theorem Chain.nx:∀ {T:List Stp} {L L':Nat→V} {m m':M},Chain L m T L' m'→(∀s∈T,aFC P x ops s)→m.nx≤m'.nx
 | [],_,_,_,_,h,_=>by cases h; exact Nat.le_refl _
 | s::T,_,_,_,_,h,I=>by
  obtain⟨rfl,rfl,J⟩:=h.head;exact Nat.le_trans (I s (.head _)).nx (J.nx fun N h'=>I N (.tail _ h'))
theorem Chain.fresh{w0:World}{ρ:Rho}{w:World}:∀ {T:List Stp} {L L':Nat→V} {m m':M},Chain L m T L' m'→(∀s∈T,aFC P x ops s)→(∀s∈T,cls x.cx s.o≠3)→W w0 ρ m w→W w0 ρ m' w
 | [],_,_,_,_,h,_,_,I=>by cases h; exact I
 | s::T,_,_,_,_,h,hs,hc,I=>by
  obtain⟨rfl,rfl,h2⟩:=h.head;refine h2.fresh (fun Y h'=>hs Y (.tail _ h')) (fun Y h'=>hc Y (.tail _ h')) ?_;have J:=hs s (.head _);cases U:s.wt with
  | false=>rw[(J.2.2.1 U).2]; exact I
  | true =>
   cases J.2.2.2 U with
   | a0 _ N _=>rw[N]; exact I
   | a1 _ N _=>rw[N]; exact I
   | b mkv b _ hn _ N _ _=>rw[N]; exact(I.fresh hn b).1
   | c hk _=>exact absurd hk (hc s (.head _))
theorem Chain.still:∀ {T:List Stp} {L L':Nat→V} {m m':M},Chain L m T L' m'→(∀s∈T,aFC P x ops s)→(∀s∈T,cls x.cx s.o<2)→m'=m
 | [],_,_,_,_,h,_,_=>by cases h; rfl
 | s::T,_,_,_,_,h,Y,hc=>by
  obtain⟨rfl,rfl,h2⟩:=h.head;rw[h2.still (fun U h'=>Y U (.tail _ h')) fun U h'=>hc U (.tail _ h')];have I:=Y s (.head _);have hcs:=hc s (.head _);cases J:s.wt with
  | false=>exact(I.2.2.1 J).2
  | true =>
   cases I.2.2.2 J with
   | a0 _ N _=>exact N
   | a1 _ N _=>exact N
   | b mkv b hk _ _ _ _ _=>omega
   | c hk _=>omega
theorem aSq{s:Stp}(h:aFC P x ops s)(hc:cls x.cx s.o=2)(J:s.wt=true):s.m'.nx=s.m.nx+1:=by
 cases h.2.2.2 J with
 | a0 I _ _=>omega
 | a1 I _ _=>omega
 | b U b _ _ _ N _ _=>rw[N]; rfl
 | c I _=>omega
end
end
end Go.It
namespace Go.It
noncomputable section
open Go.RowKit
open Go.Vc (bG aY)
theorem aYq{P:Program}{ops:List Oper}{Q:Exit→Act→World→Prop}(Inv:(Nat→Prop)→Act→World→Prop)(hcong:∀S S' a w,(∀k,k<ops.length→(S k↔S' k))→Inv S a w→Inv S' a w)
  (hback:∀(i:Nat) (o:Oper),ops[i]? = some o→ ∀e∈o.after,Region.binds .any e=true→e.on<i) (hend:∀a w,Inv (fun k=>k<ops.length) a w→Q .normal a w)
  (hstep:∀(S:Nat→Prop) (i:Nat) (o:Oper) a w,ops[i]? = some o→ ¬S i→(∀(k:Nat) (ok:Oper),ops[k]? = some ok→S k→ ∀e∈ok.after,Region.binds .any e=true→S e.on)→(∀e∈o.after,Region.binds .any e=true→S e.on)→Inv S a w →
   ∀K:Act→World→Prop,(∀a' w',Inv (fun k=>S k∨k=i) a' w'→K a' w')→wpOp P ops.toArray Q i K a w) :
  ∀(J:Nat) (listed:Array Bool),listed.size=ops.length→((List.range ops.length).filter fun k=> !listed.getD k false).length=J →
   (∀(k:Nat) (o:Oper),ops[k]? = some o→listed.getD k false=true→ ∀e∈o.after,Region.binds .any e=true→listed.getD e.on false=true) →
   ∀(a:Act) (w:World),Inv (fun k=>listed.getD k false=true) a w→wpAny P .any ops.toArray Q J listed a w:=by
 intro J
 induction J with
 | zero =>
  intro listed hsz I hcl a w hm;have N:∀k,k<ops.length→listed.getD k false=true:=fun k U=>by
   have:=List.eq_nil_of_length_eq_zero I;rw[List.filter_eq_nil_iff] at this;have:=this k (List.mem_range.2 U)
   simpa using this
  refine⟨?_,hend a w (hcong _ _ a w (fun k U=>⟨fun _=>U,fun _=>N k U⟩) hm)⟩;rw[List.eq_nil_iff_forall_not_mem];intro j hj;obtain⟨h1,o,ho,_⟩:=mem_ready.1 hj;have hjl:j<ops.length:=fG (by simpa using ho:ops[j]? = some o);have:=N j hjl;have Y:j<listed.size:=by omega
  simp[Y] at h1 this;rw[this] at h1; cases h1
 | succ J ih =>
  intro listed hsz I hcl a w hm;refine⟨fun hr=>?_,fun i hi=>?_⟩
  ·exfalso;have hex:∃k,k<ops.length∧listed.getD k false=false:=by
    have hne:((List.range ops.length).filter fun k=> !listed.getD k false)≠ []:=fun e=>(by rw[e] at I; cases I);obtain⟨k,U⟩:=List.exists_mem_of_ne_nil _ hne;simp only[List.mem_filter,List.mem_range,Bool.not_eq_true'] at U;exact⟨k,U⟩
   have hmin:∃k,(k<ops.length∧listed.getD k false=false)∧ ∀j,j<k→ ¬(j<ops.length∧listed.getD j false=false):=by
    obtain⟨k,U⟩:=hex
    induction k using Nat.strongRecOn with
    | _ k ihk =>
     by_cases hh:∃j,j<k∧(j<ops.length∧listed.getD j false=false)
     ·obtain⟨j,hj,hp⟩:=hh; exact ihk j hj hp
     ·exact⟨k,U,fun j hj hp=>hh ⟨j,hj,hp⟩⟩
   obtain⟨k,⟨U,hun⟩,hlow⟩:=hmin;have hmem:k∈Region.ready .any ops.toArray listed:=by
    rw[mem_ready];have Y:k<listed.size:=(by omega);refine⟨by simp[Y] at hun ⊢; exact hun,ops[k],by simp[U],fun e he hb=>?_⟩;have:=hback k _ (List.getElem?_eq_getElem U) e he hb;have hn:=hlow e.on this;by_cases hh:listed.getD e.on false=true
    ·exact hh
    ·exact absurd ⟨by omega,by simpa using hh⟩ hn
   rw[hr] at hmem; cases hmem
  ·obtain⟨h1,o,ho,N⟩:=mem_ready.1 hi;have ho:ops[i]? = some o:=(by simpa using ho);have hil:=fG ho;have Y:i<listed.size:=(by omega);have hni:¬listed.getD i false=true:=(by simp[Y] at h1 ⊢; exact h1);refine hstep _ i o a w ho hni hcl N hm _ fun a' w' hm'=>?_;have hset:∀k,(listed.setIfInBounds i true).getD k false=true↔(listed.getD k false=true∨k=i):=fun k=>by
    by_cases e:i=k
    ·subst e; simp[Y]
    ·rw[getD_set_ne false e];exact⟨.inl,fun h=>h.resolve_right (fun h=>e h.symm)⟩
   refine ih (listed.setIfInBounds i true) (by simp[hsz]) ?_ (fun k o' U hkl e he hb=>?_) a' w' (hcong _ _ a' w' (fun k _=>(hset k).symm) hm')
   ·have hfil:((List.range ops.length).filter fun k=> !(listed.setIfInBounds i true).getD k false)=((List.range ops.length).filter fun k=> !listed.getD k false).erase i:=by
     have hnd:((List.range ops.length).filter fun k=> !listed.getD k false).Nodup:=List.nodup_range.filter _;rw[hnd.erase_eq_filter i,List.filter_filter];apply List.filter_congr;intro k _;rw[Bool.eq_iff_iff];by_cases e:k=i
     ·subst e; simp[Y]
     ·have h2:(listed.setIfInBounds i true).getD k false=listed.getD k false:=getD_set_ne false (fun h=>e h.symm);rw[h2];simp[e]
    have hmem:i∈((List.range ops.length).filter fun k=> !listed.getD k false):=by
     simp only[List.mem_filter,List.mem_range];exact⟨hil,by simpa using hni⟩
    rw[hfil,List.length_erase_of_mem hmem,I]; rfl
   ·rcases (hset k).1 hkl with h|h
    ·exact(hset _).2 (.inl (hcl k o' U h e he hb))
    ·subst h;rw[ho] at U;cases U;exact(hset _).2 (.inl (N e he hb))
theorem aWc{E:En}{L:Nat→V}{ρ:Rho}{a:Act}(I:GR E ρ)(y:Operand)(J:∀t,y= .tmp t→VR ρ (L t) (a.tmps.getD t Go.undef)):VR ρ (evG E L y) (a.eval y):=by
 cases y with
 | tmp t=>exact J t rfl
 | const v =>
  simp only[evG];cases h:cOK v
  ·exact VR.junk _ _
  ·exact aZi h ρ
 | global g=>exact I g
 | func f=>simp only[evG,VR]; exact⟨[],[],rfl,by simp[VRL],by simp[VRL]⟩
theorem aOT(a:Act)(v:Value):a.put none v=a:=rfl
theorem put_defers(a:Act)(d:Option Tmp)(v:Value):(a.put d v).defers=a.defers:=by cases d<;>rfl
theorem aWd(a:Act)(d:Option Tmp)(v:Value):(a.put d v).tmps.size=a.tmps.size:=by cases d<;>simp[Act.put]
theorem aFF{α:Type}{f:α→Nat}:∀ {l:List α},(l.map f).Nodup→ ∀ {a b:α},a∈l→b∈l→f a=f b→a=b
 | [],_,_,_,h,_,_=>by cases h
 | c::l,J,a,b,I,hb,e=>by
  rw[List.map_cons,List.nodup_cons] at J;rcases List.mem_cons.1 I with I|I
  ·rcases List.mem_cons.1 hb with hb|hb
   ·rw[I,hb]
   ·exact absurd (List.mem_map.2 ⟨b,hb,by rw[← e,I]⟩) J.1
  ·rcases List.mem_cons.1 hb with hb|hb
   ·exact absurd (List.mem_map.2 ⟨a,I,by rw[e,hb]⟩) J.1
   ·exact aFF J.2 I hb e
section
variable {P:Program} {x:Fx} {nt:Nat} {ops:Array Oper} {L0 L':Nat→V} {m0 m':M} {T:List Stp} {ix:List Nat} {ρ0 ρ ρ':Rho} {a0 a:Act} {w0 w:World} {S:Nat→Prop}
structure Pl(P:Program)(x:Fx)(nt:Nat)(ops:Array Oper)(L0 L':Nat→V)(m0 m':M)(T:List Stp)(ix:List Nat)(ρ0:Rho)(a0:Act):Prop where
 ok:aYm x ops.toList ix
 ch:Chain L0 m0 T L' m'
 st:∀s∈T,aFC P x ops s
 nd:(T.map (·.i)).Nodup
 ord:∀ {A B:List Stp} {s:Stp},T=A++s::B→ ∃rc,Ord x.cx ops.toList (A.map (·.i)) s.i rc∧ ∀k∈rc,∃sp∈A++ [s],sp.i=k∧aKb P x sp s.m'
 dst:∀(o:Oper),o∈ops.toList→ ∀d,o.dst=some d→d<nt
 env:∀t,VR ρ0 (L0 t) (a0.tmps.getD t Go.undef)
 gl:GR x.E ρ0
structure Ia(x:Fx)(nt:Nat)(ops:Array Oper)(T:List Stp)(a0:Act)(S:Nat→Prop)(a:Act)(ρ:Rho):Prop where
 v:∀s∈T,S s.i→ ∀d,s.o.dst=some d→VR ρ s.v (a.tmps.getD d Go.undef)
 o:∀t,(∀(k:Nat) (ok:Oper),S k→ops.toList[k]? = some ok→ok.dst≠some t)→a.tmps.getD t Go.undef=a0.tmps.getD t Go.undef
 sz:nt≤a.tmps.size
 df:a.defers=a0.defers
 in_:∀k,k<ops.toList.length→S k→ ∃s∈T,s.i=k
structure IV(x:Fx)(nt:Nat)(ops:Array Oper)(L0 L':Nat→V)(m0 m':M)(T:List Stp)(w0:World)(ρ0:Rho)(a0:Act)(S:Nat→Prop)(a:Act)(w:World)(ρ:Rho)(T1 T2:List Stp)(L1:Nat→V)(m1:M):Prop where
 eq:T=T1++T2
 c1:Chain L0 m0 T1 L1 m1
 c2:Chain L1 m1 T2 L' m'
 fr:∀s∈T2,S s.i→cls x.cx s.o<2
 la:T1= []∨ ∃T0 s,T1=T0++ [s]∧S s.i∧2≤cls x.cx s.o
 w:W w0 ρ m1 w
 ex:Ext m0 ρ0 ρ
 no:∀s∈T,¬S s.i→cls x.cx s.o=2→s.wt=true→ρ s.m.nx=none
 ia:Ia x nt ops T a0 S a ρ
def IVx(x:Fx)(nt:Nat)(ops:Array Oper)(L0 L':Nat→V)(m0 m':M)(T:List Stp)(w0:World)(ρ0:Rho)(a0:Act)(S:Nat→Prop)(a:Act)(w:World):Prop:=∃ρ T1 T2 L1 m1,IV x nt ops L0 L' m0 m' T w0 ρ0 a0 S a w ρ T1 T2 L1 m1
theorem eS{o:Oper}{i:Nat}:ops[i]? = some o↔ops.toList[i]? = some o:=by simp
theorem Ia.put(p:Pl P x nt ops L0 L' m0 m' T ix ρ0 a0)(ia:Ia x nt ops T a0 S a ρ)(hρ:ρ.le ρ'){s:Stp}(hs:s∈T)(hni:¬S s.i){u:Value}(hv:VR ρ' s.v u):Ia x nt ops T a0 (fun k=>S k∨k=s.i) (a.put s.o.dst u) ρ':=by
 have J:=eS.1 (p.st s hs).1;refine⟨fun s' N U d hd=>?_,fun t ht=>?_,by rw[aWd]; exact ia.sz,by rw[put_defers]; exact ia.df,fun k hk U=>?_⟩
 ·by_cases e:s'.i=s.i
  ·have:=aFF p.nd N hs e;subst this;rw[hd,vB (Nat.lt_of_lt_of_le (p.dst _ (List.mem_of_getElem? J) d hd) ia.sz),if_pos rfl];exact hv
  ·have hS':=U.resolve_right e;have:=(ia.v s' N hS' d hd).mono hρ;cases I:s.o.dst with
   | none=>rw[aOT]; exact this
   | some d0 =>
    rw[vB (Nat.lt_of_lt_of_le (p.dst _ (List.mem_of_getElem? J) d0 I) ia.sz),if_neg ?_]
    ·exact this
    ·intro e1;subst e1;exact e (p.ok.uniq _ _ _ _ _ J (eS.1 (p.st s' N).1) I hd)
 ·have Y:=ia.o t fun k ok U hok=>ht k ok (.inl U) hok;cases I:s.o.dst with
  | none=>rw[aOT]; exact Y
  | some d0 =>
   rw[vB (Nat.lt_of_lt_of_le (p.dst _ (List.mem_of_getElem? J) d0 I) ia.sz),if_neg fun e=>ht s.i s.o (.inr rfl) J (by rw[I,e])];exact Y
 ·rcases U with U|rfl
  ·exact ia.in_ k hk U
  ·exact⟨s,hs,rfl⟩
theorem Ia.cong{S':Nat→Prop}(h:∀k,k<ops.toList.length→(S k↔S' k))(p:Pl P x nt ops L0 L' m0 m' T ix ρ0 a0)(ia:Ia x nt ops T a0 S a ρ):Ia x nt ops T a0 S' a ρ :=
 ⟨fun s N J=>ia.v s N ((h _ (fG (eS.1 (p.st s N).1))).2 J),fun t ht=>ia.o t fun k ok J I=>ht k ok ((h k (fG I)).1 J) I,ia.sz,ia.df,fun k U J=>ia.in_ k U ((h k U).2 J)⟩
structure Cl(ops:Array Oper)(S:Nat→Prop):Prop where
 cl:∀(k:Nat) (ok:Oper),ops.toList[k]? = some ok→S k→ ∀e∈ok.after,Region.binds .any e=true→S e.on
theorem Cl.ah(p:aYm x ops.toList ix)(h:Cl ops S):∀(i:Nat) (o:Oper),ops.toList[i]? = some o→S i→ ∀k,hasB ((fF ops.toList []).getD i 0) k=true→S k:=by
 intro i
 induction i using Nat.strongRecOn with
 | _ i ih =>
  intro o I hi k hk;obtain⟨e,U,e2,N⟩:=aOS I (p.back i o I) hk;have J:=p.back i o I e U e2;have Y:=h.cl i o I hi e U e2;rcases N with rfl|N
  ·exact Y
  ·have hl:=fG I;exact ih e.on J ops.toList[e.on] (List.getElem?_eq_getElem (by omega)) Y k N
theorem Cl.rd(p:aYm x ops.toList ix)(h:Cl ops S){i:Nat}{o:Oper}(I:ops.toList[i]? = some o)(hr:∀e∈o.after,Region.binds .any e=true→S e.on){k:Nat}(hk:hasB ((fF ops.toList []).getD i 0) k=true):S k:=by
 obtain⟨e,N,Y,J⟩:=aOS I (p.back i o I) hk;have U:=hr e N Y;have hlt:=p.back i o I e N Y;have hl:=fG I;rcases J with rfl|J
 ·exact U
 ·exact h.ah p e.on ops.toList[e.on] (List.getElem?_eq_getElem (by omega)) U k J
theorem aSr(p:Pl P x nt ops L0 L' m0 m' T ix ρ0 a0)(ia:Ia x nt ops T a0 S a ρ)(hρ:ρ0.le ρ)(hcl:Cl ops S){i:Nat}{o:Oper}(ho:ops.toList[i]? = some o)(hni:¬S i)(hrd:∀e∈o.after,Region.binds .any e=true→S e.on)
  {A R:List Stp} (hT:T=A++R) {LA:Nat→V} {mA:M} (hc:Chain L0 m0 A LA mA) {rc:List Nat} (hO:Ord x.cx ops.toList (A.map (·.i)) i rc) (hiA:i∉A.map (·.i)) {t:Nat}
  (ht:Operand.tmp t∈o.op.operands∨ ∃g pp,o.guard=some (g,pp)∧(ops[g]?).bind (·.dst)=some t):VR ρ (LA t) (a.tmps.getD t Go.undef):=by
 have sub:∀s∈A,s∈T:=fun s I=>by rw[hT]; exact List.mem_append_left _ I
 have alt:∀(k:Nat) (ok:Oper),ops.toList[k]? = some ok→ok.dst=some t→(k∈A.map (·.i)∧S k)∨(k∉A.map (·.i)∧ ¬S k):=fun k ok hk hd=>by
  have ahd:hasB ((fF ops.toList []).getD i 0) k=true→(k∈A.map (·.i)∧S k)∨(k∉A.map (·.i)∧ ¬S k):=fun h=>.inl ⟨hO.sub k h,hcl.rd p.ok ho hrd h⟩;rcases ht with ht|⟨g,pp,hg,N⟩
  ·rcases p.ok.opd i o t k ok ho hk hd ht with h|rfl|h
   ·exact ahd h
   ·exact .inr ⟨hiA,hni⟩
   ·refine .inr ⟨fun hm=>?_,fun hS=>hni (hcl.ah p.ok k ok hk hS i h)⟩;obtain⟨sk,hsk,rfl⟩:=List.mem_map.1 hm;obtain⟨A1,A2,rfl⟩:=List.append_of_mem hsk;obtain⟨rc',hO',_⟩:=p.ord (by rw[hT,List.append_assoc]; rfl);have:=hO'.sub i h;exact hiA (by rw[List.map_append]; exact List.mem_append_left _ this)
  ·have hgo:=p.ok.guard i o g pp ho hg;cases U:ops[g]? with
   | none=>rw[U] at N; cases N
   | some og =>
    rw[U] at N;have:k=g:=p.ok.uniq g og t k ok (eS.1 U) hk N hd;subst this;exact ahd hgo
 by_cases h:∃s∈A,s.o.dst=some t
 ·obtain⟨s,I,hd⟩:=h;have J:=eS.1 (p.st s (sub s I)).1;rw[hc.at I hd fun s' Y hd'=>aFF p.nd (sub s' Y) (sub s I) (p.ok.uniq _ _ _ _ _ J (eS.1 (p.st s' (sub s' Y)).1) hd hd')];refine ia.v s (sub s I) ?_ t hd;rcases alt s.i s.o J hd with h|h
  ·exact h.2
  ·exact absurd (List.mem_map.2 ⟨s,I,rfl⟩) h.1
 ·rw[hc.ne fun s I hd=>h ⟨s,I,hd⟩,ia.o t fun k ok hS hok hd=>?_]
  ·exact(p.env t).mono hρ
  ·rcases alt k ok hok hd with h1|h1
   ·obtain⟨s,I,rfl⟩:=List.mem_map.1 h1.1;have J:=eS.1 (p.st s (sub s I)).1;rw[hok] at J;cases J;exact h ⟨s,I,hd⟩
   ·exact h1.2 hS
theorem IV.ahead{T1 T2:List Stp}{L1:Nat→V}{m1:M}(p:Pl P x nt ops L0 L' m0 m' T ix ρ0 a0)(N:IV x nt ops L0 L' m0 m' T w0 ρ0 a0 S a w ρ T1 T2 L1 m1)(U:Cl ops S){i:Nat}{o:Oper}(ho:ops.toList[i]? = some o)(Y:∀e∈o.after,Region.binds .any e=true→S e.on)
  {A2 R:List Stp} (hT:T2=A2++R) {LA:Nat→V} {mA:M} (hc:Chain L1 m1 A2 LA mA) {rc:List Nat} (hO:Ord x.cx ops.toList ((T1++A2).map (·.i)) i rc):W w0 ρ mA w:=by
 have sub:∀s∈A2,s∈T:=fun s I=>by rw[N.eq,hT]; exact List.mem_append_right _ (List.mem_append_left _ I)
 refine hc.fresh (fun s I=>p.st s (sub s I)) (fun s I h3=>?_) N.w;have hso:=eS.1 (p.st s (sub s I)).1;have J:=hO.eff s.i s.o (List.mem_map.2 ⟨s,List.mem_append_right _ I,rfl⟩) hso h3;have:=N.fr s (by rw[hT]; exact List.mem_append_left _ I) (U.rd p.ok ho Y J);omega
end
end
end Go.It
namespace Go.It
noncomputable section
open Go.RowKit
open Go.Vc (bG aY)
section
variable {P:Program} {x:Fx} {nt:Nat} {ops:Array Oper} {L0 L' L1:Nat→V} {m0 m' m1:M} {T T1 T2:List Stp} {ix:List Nat} {ρ0 ρ ρ':Rho} {a0 a:Act} {w0 w w':World} {S:Nat→Prop}
theorem IV.disj(p:Pl P x nt ops L0 L' m0 m' T ix ρ0 a0)(I:IV x nt ops L0 L' m0 m' T w0 ρ0 a0 S a w ρ T1 T2 L1 m1){s:Stp}(N:s∈T1)(J:s∈T2):False:=by
 have:=p.nd;rw[I.eq,List.map_append,List.nodup_append] at this;exact this.2.2 s.i (List.mem_map.2 ⟨s,N,rfl⟩) s.i (List.mem_map.2 ⟨s,J,rfl⟩) rfl
theorem IV.stay(p:Pl P x nt ops L0 L' m0 m' T ix ρ0 a0)(U:IV x nt ops L0 L' m0 m' T w0 ρ0 a0 S a w ρ T1 T2 L1 m1){s:Stp}(hs:s∈T)(hni:¬S s.i)(h2:s∈T2→cls x.cx s.o<2)(hρ:ρ.le ρ')(hw:W w0 ρ' m1 w')(hex:Ext m0 ρ0 ρ'){u:Value}(hv:VR ρ' s.v u)
  (Y:∀J∈T,¬S J.i→J≠s→cls x.cx J.o=2→J.wt=true→ρ' J.m.nx=none):IVx x nt ops L0 L' m0 m' T w0 ρ0 a0 (fun k=>S k∨k=s.i) (a.put s.o.dst u) w':=by
 refine⟨ρ',T1,T2,L1,m1,U.eq,U.c1,U.c2,fun J I N=>?_,U.la.imp id ?_,hw,hex,fun J I N=>?_,U.ia.put p hρ hs hni hv⟩
 ·rcases N with N|N
  ·exact U.fr J I N
  ·have:=aFF p.nd (by rw[U.eq]; exact List.mem_append_right _ I) hs N;subst this;exact h2 I
 ·rintro⟨T0,sl,h1,h2,h3⟩;exact⟨T0,sl,h1,.inl h2,h3⟩
 ·exact Y J I (fun h=>N (.inl h)) fun h=>N (.inr (by rw[h]))
theorem IV.adv(p:Pl P x nt ops L0 L' m0 m' T ix ρ0 a0)(U:IV x nt ops L0 L' m0 m' T w0 ρ0 a0 S a w ρ T1 T2 L1 m1){s:Stp}{A2 B:List Stp}(Y:T2=A2++s::B)(hni:¬S s.i)(h2:2≤cls x.cx s.o)(hρ:ρ.le ρ')(hw:W w0 ρ' s.m' w')(hex:Ext m0 ρ0 ρ'){u:Value}(hv:VR ρ' s.v u)
  (hno:∀I∈T,¬S I.i→I≠s→cls x.cx I.o=2→I.wt=true→ρ' I.m.nx=none):IVx x nt ops L0 L' m0 m' T w0 ρ0 a0 (fun k=>S k∨k=s.i) (a.put s.o.dst u) w':=by
 have hs2:s∈T2:=by rw[Y]; simp
 have hs:s∈T:=by rw[U.eq]; exact List.mem_append_right _ hs2
 have hc2:=U.c2;rw[Y] at hc2;obtain⟨LA,mA,q1,q2⟩:=hc2.split;obtain⟨rfl,rfl,q3⟩:=q2.head;refine⟨ρ',T1++A2++ [s],B,_,_,by rw[U.eq,Y]; simp,(U.c1.join q1).join (.cons s (.nil _ _)),q3,fun I J N=>?_,.inr ⟨T1++A2,s,rfl,.inr rfl,h2⟩,hw,hex,fun I J N=>?_,U.ia.put p hρ hs hni hv⟩
 ·have hsB:I∈T2:=by rw[Y]; exact List.mem_append_right _ (.tail _ J)
  rcases N with N|N
  ·exact U.fr I hsB N
  ·exfalso;have:=p.nd;rw[U.eq,Y,List.map_append,List.map_append,List.map_cons,List.nodup_append] at this;have:=(List.nodup_append.1 this.2.1).2.1;rw[List.nodup_cons] at this;exact this.1 (List.mem_map.2 ⟨I,J,N⟩)
 ·exact hno I J (fun h=>N (.inl h)) fun h=>N (.inr (by rw[h]))
theorem aMx(p:Pl P x nt ops L0 L' m0 m' T ix ρ0 a0){A B:List Stp}{s:Stp}(Y:T=A++s::B):m0.nx≤s.m.nx∧(∀I∈A,I.m'.nx≤s.m.nx)∧ ∀I∈B,s.m'.nx≤I.m.nx:=by
 have hc:=p.ch;rw[Y] at hc;obtain⟨LA,mA,q1,q2⟩:=hc.split;obtain⟨rfl,rfl,q3⟩:=q2.head;have J:∀I∈A,aFC P x ops I:=fun I h=>p.st I (by rw[Y]; exact List.mem_append_left _ h);have U:∀I∈B,aFC P x ops I:=fun I h=>p.st I (by rw[Y]; exact List.mem_append_right _ (.tail _ h));refine⟨q1.nx J,fun I h=>?_,fun I h=>?_⟩
 ·obtain⟨A1,A2,rfl⟩:=List.append_of_mem h;obtain⟨_,_,_,N⟩:=q1.split;obtain⟨_,_,r3⟩:=N.head;exact r3.nx fun t ht=>J t (List.mem_append_right _ (.tail _ ht))
 ·obtain⟨B1,B2,rfl⟩:=List.append_of_mem h;obtain⟨_,_,r1,N⟩:=q3.split;obtain⟨_,rfl,_⟩:=N.head;exact r1.nx fun t ht=>U t (List.mem_append_left _ ht)
theorem bBp(p:Pl P x nt ops L0 L' m0 m' T ix ρ0 a0){s I:Stp}(Y:s∈T)(J:I∈T)(N:I≠s)(h1:cls x.cx s.o=2)(h2:s.wt=true)(h3:cls x.cx I.o=2)(h4:I.wt=true):I.m.nx≠s.m.nx:=by
 obtain⟨A,B,U⟩:=List.append_of_mem Y;obtain⟨_,q1,q2⟩:=aMx p U;have e1:=aSq (p.st s Y) h1 h2;have e2:=aSq (p.st I J) h3 h4;rw[U] at J;rcases List.mem_append.1 J with h|h
 ·have:=q1 I h; omega
 ·rcases List.mem_cons.1 h with h|h
  ·exact absurd h N
  ·have:=q2 I h; omega
theorem Chain.nil_eq{L L':Nat→V}{m m':M}(h:Chain L m [] L' m'):m'=m:=by cases h; rfl
theorem IV.last(p:Pl P x nt ops L0 L' m0 m' T ix ρ0 a0)(iv:IV x nt ops L0 L' m0 m' T w0 ρ0 a0 S a w ρ T1 T2 L1 m1)(hcl:Cl ops S){s:Stp}(hs:s∈T1)(I:¬S s.i):cls x.cx s.o<3∧(0<cls x.cx s.o→aKb P x s m1):=by
 rcases iv.la with h|⟨T0,sl,h1,h2,h3⟩
 ·rw[h] at hs; cases hs
 ·have N:s∈T0:=by
   rw[h1] at hs;rcases List.mem_append.1 hs with h|h
   ·exact h
   ·rw[List.mem_singleton.1 h] at I; exact absurd h2 I
  have hT:T=T0++sl::T2:=by rw[iv.eq,h1]; simp
  have J:s∈T:=by rw[hT]; exact List.mem_append_left _ N
  have hlT:sl∈T:=by rw[hT]; simp
  have hso:=eS.1 (p.st s J).1;have hlo:=eS.1 (p.st sl hlT).1;obtain⟨rc,hO,hrc⟩:=p.ord hT;have hm:s.i∈T0.map (·.i):=List.mem_map.2 ⟨s,N,rfl⟩;have U:¬hasB ((fF ops.toList []).getD sl.i 0) s.i=true:=fun h=>I (hcl.ah p.ok sl.i sl.o hlo h2 s.i h);have h3':cls x.cx s.o<3:=by
   have hle:cls x.cx s.o≤3:=by
    have:=p.st s J;cases hwt:s.wt with
    | true =>
     cases this.2.2.2 hwt with
     | a0 hk _ _=>omega
     | a1 hk _ _=>omega
     | b _ _ hk _ _ _ _ _=>omega
     | c hk _=>omega
    | false =>
     rcases Nat.lt_or_ge (cls x.cx s.o) 3 with h|h
     ·omega
     ·exact bAt _
   rcases Nat.lt_or_ge (cls x.cx s.o) 3 with h|h
   ·exact h
   ·exact absurd (hO.eff s.i s.o hm hso (by omega)) U
  refine⟨h3',fun h0=>?_⟩;rcases hO.rck sl.o hlo h3 s.i s.o hm hso h0 h3' with h|h
  ·exact absurd h U
  ·obtain⟨sp,Y,q2,q3⟩:=hrc s.i h;have hsp:sp∈T:=by
    rw[hT];rcases List.mem_append.1 Y with Y|Y
    ·exact List.mem_append_left _ Y
    ·rw[List.mem_singleton.1 Y]; simp
   have:=aFF p.nd hsp J q2;subst this;have hc:=iv.c1;rw[h1] at hc;obtain⟨_,_,_,r2⟩:=hc.split;obtain⟨_,_,r3⟩:=r2.head;rw[r3.nil_eq];exact q3
theorem aTH(p:Pl P x nt ops L0 L' m0 m' T ix ρ0 a0)(I:IV x nt ops L0 L' m0 m' T w0 ρ0 a0 S a w ρ T1 T2 L1 m1)(hcl:Cl ops S){s:Stp}(hs:s∈T)(U:¬S s.i)(hrd:∀e∈s.o.after,Region.binds .any e=true→S e.on){Q:Exit→Act→World→Prop}{K:Act→World→Prop}
  (hK:∀a' w',IVx x nt ops L0 L' m0 m' T w0 ρ0 a0 (fun k=>S k∨k=s.i) a' w'→K a' w'):wpOp P ops Q s.i K a w:=by
 have hst:=p.st s hs;have hso:=eS.1 hst.1;have hgl:GR x.E ρ:=fun g=>(p.gl g).mono I.ex.1;obtain⟨A,B,hT⟩:=List.append_of_mem hs;obtain⟨rc,hO,hrc⟩:=p.ord hT;have hcT:=p.ch;rw[hT] at hcT;obtain⟨LA,mA,hcA,hcs⟩:=hcT.split;obtain⟨eL,em,hcB⟩:=hcs.head;rw[eL,em] at hcA;have hiA:s.i∉A.map (·.i):=fun h=>by
  have:=p.nd;rw[hT,List.map_append,List.map_cons,List.nodup_append] at this;exact this.2.2 s.i h s.i (.head _) rfl
 have look:∀ {t:Nat},(Operand.tmp t∈s.o.op.operands∨ ∃g pp,s.o.guard=some (g,pp)∧(ops[g]?).bind (·.dst)=some t)→VR ρ (s.L t) (a.tmps.getD t Go.undef):=fun ht=>aSr p I.ia I.ex.1 hcl hso U hrd hT hcA hO hiA ht;have svg:∀ {mm:M},W w0 ρ mm w→SvG x.E s.L w0 ρ mm a w s.o.op.operands:=fun hw=>⟨hw,hgl,fun y hy=>aWc hgl y fun t e=>look (.inl (e▸hy))⟩;have hwt:=aZn hst.2.1 (a:=a) (ρ:=ρ) fun g pp d hg hd=>look (.inr ⟨g,pp,hg,hd⟩);have ahead:s∈T2→ ∃A2 B2,T2=A2++s::B2∧W w0 ρ s.m w:=fun h2=>by
  obtain⟨A2,B2,J⟩:=List.append_of_mem h2;refine⟨A2,B2,J,?_⟩;have hc2:=I.c2;rw[J] at hc2;obtain⟨_,_,r1,r2⟩:=hc2.split;obtain⟨rfl,rfl,_⟩:=r2.head;have hT':T=(T1++A2)++s::B2:=by rw[I.eq,J]; simp
  obtain⟨rc',hO',_⟩:=p.ord hT';exact I.ahead p hcl hso hrd J r1 hO'
 have where_:s∈T1∨s∈T2:=by
  have:=hs;rw[I.eq] at this;exact List.mem_append.1 this
 have same:∀Y∈T,¬S Y.i→Y≠s→cls x.cx Y.o=2→Y.wt=true→ρ Y.m.nx=none:=fun Y h1 h2 _ h4 h5=>I.no Y h1 h2 h4 h5;have m0le:m0.nx≤s.m.nx:=(aMx p hT).1;have newb:∀ {N:Nat},cls x.cx s.o=2→s.wt=true→ρ s.m.nx=none→Ext m0 ρ0 (ext ρ s.m.nx (w.heap.size,0,N))∧ ∀Y∈T,¬S Y.i→Y≠s→cls x.cx Y.o=2→Y.wt=true→ext ρ s.m.nx (w.heap.size,0,N) Y.m.nx=none:=fun {N} h2 hw hn=>by
  refine⟨⟨I.ex.1.trans (sH hn),fun k hk hlt=>?_⟩,fun Y h1 h2' h3 h4 h5=>?_⟩
  ·simp only[ext,if_neg (Nat.ne_of_lt (Nat.lt_of_lt_of_le hlt m0le))];exact I.ex.2 k hk hlt
  ·simp only[ext,if_neg (bBp p hs h1 h3 h2 hw h4 h5)];exact I.no Y h1 h2' h4 h5
 unfold wpOp;simp only[hst.1];rw[hwt];cases hw:s.wt with
 | false =>
  rw[if_neg (by simp)];have hv:VR ρ s.v Go.undef:=by rw[(hst.2.2.1 hw).1]; simp only[VR,zR]; rfl
  refine hK _ _ ?_;by_cases h:s∈T2∧2≤cls x.cx s.o
  ·obtain⟨A2,B2,J,hW⟩:=ahead h.1;exact I.adv p J U h.2 (.refl _) (by rw[(hst.2.2.1 hw).2]; exact hW) I.ex hv same
  ·exact I.stay p hs U (fun h2=>by
    rcases Nat.lt_or_ge (cls x.cx s.o) 2 with h3|h3
    ·exact h3
    ·exact absurd ⟨h2,h3⟩ h) (.refl _) I.w I.ex hv same
 | true =>
  rw[if_pos rfl];refine .inl ?_;have plain:∀ {mm:M},cls x.cx s.o<2→W w0 ρ mm w→A1 P x s.o s.L mm s.v→s.o.wp P a w K Q:=fun hk hW hA=>by
   obtain⟨u,h1,h2⟩:=hA w0 ρ a w (svg hW);unfold Oper.wp;rw[h1,Oper.upon_value];exact hK _ _ (I.stay p hs U (fun _=>hk) (.refl _) I.w I.ex h2 same)
  cases hst.2.2.2 hw with
  | a0 hk hm hA=>exact plain (by omega) I.w (hA m1)
  | a1 hk hm hA =>
   rcases where_ with h|h
   ·rcases (I.last p hcl h U).2 (by omega) with r|⟨_,r⟩|⟨r,_⟩
    ·rw[hw] at r; cases r
    ·exact plain (by omega) I.w r
    ·omega
   ·obtain⟨A2,B2,J,hW⟩:=ahead h;exact plain (by omega) hW hA
  | b mkv b hk hn hv hm hmk hB =>
   rcases where_ with h|h
   ·rcases (I.last p hcl h U).2 (by omega) with r|⟨r,_⟩|⟨_,mkv',b',hv',hob',hB'⟩
    ·rw[hw] at r; cases r
    ·omega
    ·obtain⟨u,w',N,h1,h2,h3⟩:=hB' w0 ρ m1 a w (svg I.w);have hnone:=I.no s hs U hk hw;obtain⟨h4,h5⟩:=h3 (ext ρ s.m.nx (w.heap.size,0,N)) s.m.nx (sH hnone) wN;obtain⟨n1,n2⟩:=newb (N:=N) hk hw hnone;have hlt:s.m.nx<m1.nx:=by
      obtain⟨A1,B1',hT1⟩:=List.append_of_mem h;have hc1:=I.c1;rw[hT1] at hc1;obtain⟨_,_,_,r2⟩:=hc1.split;obtain⟨_,_,r3⟩:=r2.head;have:=r3.nx fun t ht=>p.st t (by rw[I.eq,hT1]; exact List.mem_append_left _ (List.mem_append_right _ (.tail _ ht)));have:=aSq hst hk hw;omega
     unfold Oper.wp;rw[h1,Oper.upon_value];exact hK _ _ (I.stay p hs U (fun h'=>(I.disj p h h').elim) (sH hnone) (I.w.told h2 hnone hlt (Nat.le_refl _) (by rw[hob']; exact h5)) n1 (by rw[hv']; exact h4) n2)
   ·obtain⟨A2,B2,J,hW⟩:=ahead h;obtain⟨u,w',N,h1,h2,h3⟩:=hB w0 ρ s.m a w (svg hW);obtain⟨hf,hnone⟩:=hW.fresh hn b;obtain⟨h4,h5⟩:=h3 (ext ρ s.m.nx (w.heap.size,0,N)) s.m.nx (sH hnone) wN;obtain⟨n1,n2⟩:=newb (N:=N) hk hw hnone;unfold Oper.wp;rw[h1,Oper.upon_value];exact hK _ _ (I.adv p J U (by omega) (sH hnone) (by rw[hm]; exact hf.told h2 hnone (Nat.lt_succ_self _) (Nat.le_refl _) (by rw[aOq]; exact h5)) n1 (by rw[hv]; exact h4) n2)
  | c hk hC =>
   rcases where_ with h|h
   ·have:=(I.last p hcl h U).1; omega
   ·obtain⟨A2,B2,J,hW⟩:=ahead h;refine hC.2 w0 ρ a w K Q (svg hW) fun ρ' u w' hE hW' hV=>hK _ _ (I.adv p J U (by omega) hE.1 hW' (I.ex.trans m0le hE) hV fun Y h1 h2 h3 h4 h5=>?_);have hno:=I.no Y h1 h2 h4 h5;rcases Nat.lt_or_ge Y.m.nx s.m.nx with hlt|hge
    ·exact hE.2 _ hno hlt
    ·cases hr:ρ' Y.m.nx with
     | none=>rfl
     | some y =>
      have hd:=hW'.dom _ _ hr;obtain⟨_,q1,q2⟩:=aMx p hT;have e2:=aSq (p.st Y h1) h4 h5;rw[hT] at h1;rcases List.mem_append.1 h1 with g|g
      ·have:=q1 Y g; omega
      ·rcases List.mem_cons.1 g with g|g
       ·exact absurd g h3
       ·have:=q2 Y g; omega
theorem IV.cong{S':Nat→Prop}(p:Pl P x nt ops L0 L' m0 m' T ix ρ0 a0)(h:∀k,k<ops.toList.length→(S k↔S' k))(I:IV x nt ops L0 L' m0 m' T w0 ρ0 a0 S a w ρ T1 T2 L1 m1):IV x nt ops L0 L' m0 m' T w0 ρ0 a0 S' a w ρ T1 T2 L1 m1:=by
 have J:∀s∈T,s.i<ops.toList.length:=fun s N=>fG (eS.1 (p.st s N).1);refine⟨I.eq,I.c1,I.c2,fun s N U=>I.fr s N ((h _ (J s (by rw[I.eq]; exact List.mem_append_right _ N))).2 U),?_,I.w,I.ex,fun s N U=>I.no s N fun h'=>U ((h _ (J s N)).1 h'),I.ia.cong h p⟩;rcases I.la with h0|⟨T0,sl,Y,h2,h3⟩
 ·exact .inl h0
 ·exact .inr ⟨T0,sl,Y,(h _ (J sl (by rw[I.eq,Y]; simp))).1 h2,h3⟩
end
theorem aYr{P:Program}(hmix:P.follows .mixedOrders=true)(w00:World):aFA P:=by
 intro x nt id ops f hx hE hd hf e m κ hcf h;unfold aQk at hf;simp only at hf;generalize hpl:aVw x.cx ops.toList=pl at hf;generalize aR0 _=es at hf;cases Y:(aMi x ops.toList pl&&aEc x.cx ops.toList (fF ops.toList []) es pl 0)
 ·rw[Y] at hf;simp only[aT,noR] at hf;cases hf;cases h
 ·rw[Y] at hf;simp only[aS] at hf;rw[Bool.and_eq_true] at Y;obtain⟨k1,k2⟩:=Y;have hP:=aYn k1;obtain⟨T,L',m',hch,hst,hrc,hend⟩:=aMw (nt:=nt) hx hE w00 pl x.cx (fun e=>e) [] [] f (aLf x) rfl (fun d hd=>by cases hd) hf [] e m κ hcf (fun p hp=>by cases hp) h;have hordp:∀ {A B:List (Nat×List Nat)} {i:Nat} {rc:List Nat},pl=A++(i,rc)::B→Ord x.cx ops.toList (A.map (·.1)) i rc:=fun e=>by
   have:=aWb (S:=[]) k2 (fun k hk=>by rw[aLh] at hk; cases hk) (fun k hk=>by cases hk) (fun k ok hk=>by cases hk) e
   simpa using this
  have hord:∀ {A B:List Stp} {s:Stp},T=A++s::B→ ∃rc,Ord x.cx ops.toList (A.map (·.i)) s.i rc∧ ∀k∈rc,∃sp∈A++ [s],sp.i=k∧aKb P x sp s.m':=fun e=>by
   obtain⟨A',rc,B',h1,h2,h3⟩:=hrc.split e;refine⟨rc,?_,by simpa using h3⟩;rw[← h2]; exact hordp h1
  have hnd:(T.map (·.i)).Nodup:=by
   have:=hP.nd;rcases hend with⟨q1,_⟩|⟨p,l2,_,_,_,_,q1,_⟩
   ·rwa [q1] at this
   ·rw[q1] at this; exact(List.nodup_append.1 this).1
  have hpl:∀ {w0:World} {ρ:Rho} {a:Act} {w:World},Sx x nt w0 ρ e m a w→Pl P x nt ops (fun t=>x.cx.look t e) L' m m' T (pl.map (·.1)) ρ a:=fun U=>⟨hP,hch,hst,hnd,hord,hd,U.env,U.gl⟩;have hnx:=hch.nx hst;have walk:∀ {w0:World} {ρ:Rho} {a:Act} {w:World} {Q:Exit→Act→World→Prop},Sx x nt w0 ρ e m a w →
    (∀a' w',IVx x nt ops (fun t=>x.cx.look t e) L' m m' T w0 ρ a (fun k=>k<ops.toList.length) a' w'→Q .normal a' w') →
    (∀(S:Nat→Prop) (i:Nat) (o:Oper) a' w',ops.toList[i]? = some o→i∉T.map (·.i)→Cl ops S→(∀e∈o.after,Region.binds .any e=true→S e.on)→ ¬S i→IVx x nt ops (fun t=>x.cx.look t e) L' m m' T w0 ρ a S a' w'→ ∀K,wpOp P ops Q i K a' w') →
    (Code.region id ops true).wp P Q a w:=fun {w0 ρ a w Q} U hfin hpan=>by
   have p:=hpl U;refine wp_region_any hmix ?_;have hbut:But w.heap.size w { w with drawn:=w.drawn+1 }:=⟨rfl,rfl,rfl,Nat.le_refl _,fun _ _ _=>rfl⟩;have:=aYq (P:=P) (ops:=ops.toList) (Q:=Q) (IVx x nt ops (fun t=>x.cx.look t e) L' m m' T w0 ρ a) (fun S S' a w hc ⟨ρ',T1,T2,L1,m1,J⟩=>⟨ρ',T1,T2,L1,m1,J.cong p hc⟩) hP.back hfin
    (fun S i o a' w' ho hni hcl hrd N K hK=>by
     rw[Array.toArray_toList];by_cases hi:i∈T.map (·.i)
     ·obtain⟨s,I,rfl⟩:=List.mem_map.1 hi;have hso:=eS.1 (hst s I).1;rw[ho] at hso;cases hso;obtain⟨ρ',T1,T2,L1,m1,J⟩:=N;exact aTH p J ⟨hcl⟩ I hni hrd hK
     ·exact hpan S i o a' w' ho hi ⟨hcl⟩ hrd hni N K)
    ops.size (Array.replicate ops.size false) (by simp) (by
     rw[List.filter_eq_self.2 (fun k hk=>by simp at hk; simp[hk])]; simp) (fun k o ho hl=>by
     exfalso;by_cases hk:k<ops.size<;>simp[hk] at hl) a { w with drawn:=w.drawn+1 } ⟨ρ,[],T,_,_,rfl,.nil _ _,hch,fun s hs' hl=>by
      exfalso;by_cases hk:s.i<ops.size<;>simp[hk] at hl,.inl rfl,U.w.same hbut,.refl _ _,fun s hs' _ h2 hw=>by
      obtain⟨A,B,hT⟩:=List.append_of_mem hs';have:=(aMx p hT).1;cases hr:ρ s.m.nx with
      | none=>rfl
      | some y=>have:=U.w.dom _ _ hr; omega,⟨fun s hs' hl=>by
      exfalso;by_cases hk:s.i<ops.size<;>simp[hk] at hl,fun t _=>rfl,U.sz,rfl,fun k hk hl=>by
      exfalso;by_cases hk:k<ops.size<;>simp[hk] at hl⟩⟩
   rwa [Array.toArray_toList] at this
  rcases hend with⟨q1,e',q2,q3⟩|⟨pp,l2,o,u,e',m2,q1,q2,q3,q4,q5⟩
  ·refine⟨none,e',m',q2,hnx,fun w0 ρ a w Q U hQ=>walk U (fun a' w' N=>?_) fun S i o a' w' ho hi=>?_⟩
   ·obtain⟨ρ',T1,T2,L1,m1,J⟩:=N;have p:=hpl U;have hlt:∀s∈T,s.i<ops.toList.length:=fun s U=>fG (eS.1 (hst s U).1);have sub2:∀s∈T2,s∈T:=fun s h=>(by rw[J.eq]; exact List.mem_append_right _ h);have em:m'=m1:=J.c2.still (fun s h=>hst s (sub2 s h)) fun s h=>J.fr s h (hlt s (sub2 s h));refine hQ .normal a' w' ⟨ρ',J.ex,trivial,q3 w0 ρ' a' w' (by rw[em]; exact J.w) (fun g=>(U.gl g).mono J.ex.1) (fun t=>?_) (fun t t1 t2 t3=>?_) J.ia.sz (by rw[J.ia.df]; exact U.df.mono J.ex.1)⟩
    ·by_cases ht:∃s∈T,s.o.dst=some t
     ·obtain⟨s,I,hd⟩:=ht;rw[hch.at I hd fun s' hs' hd'=>aFF hnd hs' I (hP.uniq _ _ _ _ _ (eS.1 (hst s I).1) (eS.1 (hst s' hs').1) hd hd')];exact J.ia.v s I (hlt s I) t hd
     ·rw[hch.ne fun s I hd=>ht ⟨s,I,hd⟩,J.ia.o t fun k ok hS Y hd=>?_]
      ·exact(U.env t).mono J.ex.1
      ·obtain⟨s,I,rfl⟩:=J.ia.in_ k hS hS;have:=eS.1 (hst s I).1;rw[Y] at this;cases this;exact ht ⟨s,I,hd⟩
    ·rw[J.ia.o t fun k ok hS Y hd=>?_]
     ·have:=(U.env t).mono J.ex.1
      rwa [vA t1] at this
     ·obtain⟨s,I,rfl⟩:=J.ia.in_ k hS hS;have:=eS.1 (hst s I).1;rw[Y] at this;cases this;exact t3 s I hd
   ·exact absurd (q1▸hP.all i (fG ho)) hi
  ·have q2':=eS.1 q2;have hpT:pp∉T.map (·.i):=fun hm=>by
    have:=hP.nd;rw[q1,List.nodup_append] at this;exact this.2.2 pp hm pp (.head _) rfl
   obtain⟨A',B',e1,e2,e3⟩:=List.map_eq_append_iff.1 q1;obtain⟨⟨p',rc⟩,B2,rfl,e4,e5⟩:=List.map_eq_cons_iff.1 e3;have e4:p'=pp:=e4;subst e4;refine⟨some (.pan u),e',m2,q3,Nat.le_trans hnx q5.2.1,fun w0 ρ a w Q U hQ=>walk U (fun a' w' N=>?_) fun S i o' a' w' ho hi hcl hrd hni N K=>?_⟩
   ·obtain⟨ρ',T1,T2,L1,m1,J⟩:=N;obtain⟨s,I,hsi⟩:=J.ia.in_ p' (fG q2') (fG q2');exact absurd (List.mem_map.2 ⟨s,I,hsi⟩) hpT
   ·obtain⟨ρ',T1,T2,L1,m1,J⟩:=N;have p:=hpl U;have hmem:=hP.all i (fG ho);rw[q1] at hmem;rcases List.mem_append.1 hmem with hm|hm
    ·exact absurd hm hi
    ·rcases List.mem_cons.1 hm with rfl|hm
     ·rw[ho] at q2';cases q2';have hO:=hordp e1;rw[e2] at hO;have hgl:GR x.E ρ':=fun g=>(U.gl g).mono J.ex.1;have look:∀ {t:Nat},(Operand.tmp t∈o.op.operands∨ ∃g pp,o.guard=some (g,pp)∧(ops[g]?).bind (·.dst)=some t)→VR ρ' (L' t) (a'.tmps.getD t Go.undef):=fun ht=>aSr (R:=[]) p J.ia J.ex.1 hcl ho hni hrd (by simp) hch hO hi ht;have hW:W w0 ρ' m' w':=J.ahead (A2:=T2) (R:=[]) p hcl ho hrd (by simp) J.c2 (by rw[← J.eq]; exact hO);have hwt:=aZn q4 (a:=a') (ρ:=ρ') fun g pp d hg hd=>look (.inr ⟨g,pp,hg,hd⟩);unfold wpOp;simp only[q2];rw[hwt,if_pos rfl];refine .inl (q5.2.2 w0 ρ' a' w' K Q ⟨hW,hgl,fun y hy=>aWc hgl y fun t e=>look (.inl (e▸hy))⟩ (fun t ht h0=>?_) J.ia.sz (by rw[J.ia.df]; exact U.df.mono J.ex.1) fun ex a2 w2 hp=>hQ ex a2 w2 (hp.back J.ex hnx));rw[hch.ne fun s I hd=>hP.ks _ _ _ (eS.1 (hst s I).1) hd ht,J.ia.o t fun k ok hS Y hd=>hP.ks _ _ _ Y hd ht];exact(U.env t).mono J.ex.1
     ·exfalso;rw[← e5] at hm;obtain⟨⟨i',rci⟩,hmB,rfl⟩:=List.mem_map.1 hm;obtain⟨B3,B4,rfl⟩:=List.append_of_mem hmB;have hO:=hordp (A:=A'++(p',rc)::B3) (B:=B4) (i:=i') (rc:=rci) (by rw[e1]; simp);have hS:=hcl.rd hP ho hrd (hO.eff p' o (by simp) q2' q5.1);obtain⟨s,I,hsi⟩:=J.ia.in_ p' (fG q2') hS;exact hpT (List.mem_map.2 ⟨s,I,hsi⟩)
end
end Go.It
namespace Go.It
noncomputable section
open Go.RowKit
open Go.Vc (bG aY)
theorem aMy{α:Type}(z:α):∀(l:List (Nat×α)) (k:Nat),(∀p∈l,p.1<4096)→k<4096→get 4 k (mkT z l)=z∨ ∃p∈l,p.1=k∧p.2=get 4 k (mkT z l)
 | [],k,_,_=>.inl (aCo z 4 k)
 | (n,x)::l,k,I,J=>by
  by_cases e:n=k
  ·subst e;exact .inr ⟨(n,x),.head _,rfl,by rw[mkT,qR]⟩
  ·rw[mkT,gU 4 n k x _ (I _ (.head _)) J e];exact(aMy z l k (fun p hp=>I p (.tail _ hp)) J).imp id fun⟨p,U,N⟩=>⟨p,.tail _ U,N⟩
def ttB(P:Program)(tt:List (TypeId×TI)):Bool:=tt.all fun p=>Nat.blt p.1 4096&&tiB P p.1 p.2
theorem bBq{P:Program}{tt:List (TypeId×TI)}{N:List (FuncId×(List V→M→(V→Bool)→Bool))}{U:List FuncId}{gl:Nat→V}(h:ttB P tt=true):fA P (mkE P tt N U gl):=⟨fun t ht=>by
 have J:∀p∈tt,p.1<4096∧tiB P p.1 p.2=true:=fun p hp=>by
  have:=List.all_eq_true.1 h p hp;simp only[Bool.and_eq_true] at this;exact⟨by simpa using this.1,this.2⟩
 have I:t<4096∨ ¬t<4096:=Classical.em _;unfold kn at ht;unfold ti at ht ⊢;rcases I with I|I
 ·have hb:Nat.blt t 4096=true:=by simpa using I
  rw[hb] at ht ⊢;simp only[aS] at ht ⊢;rcases aMy aXW tt t (fun p hp=>(J p hp).1) I with e|⟨p,h1,h2,Y⟩
  ·have e:get 4 t (mkE P tt N U gl).tt=aXW:=e;rw[e] at ht;cases ht
  ·have Y:p.2=get 4 t (mkE P tt N U gl).tt:=Y;rw[← Y,← h2];exact aX5 (J p h1).2
 ·have hb:Nat.blt t 4096=false:=by
   cases hb:Nat.blt t 4096 with
   | false=>rfl
   | true=>exact absurd (by simpa using hb) I
  rw[hb] at ht;cases ht⟩
def ftB(P:Program)(I:List FuncId):Bool:=I.all fun f=>Nat.blt f 4096&&match P.funcs[f]? with
 | some fn=>(match fn.body with|some c=>aDq fn.ntmps c&&Nat.ble fn.ntmps 511&&fn.name != "runtime.NumGoroutine" | none=>true)
 | none=>true
theorem bBr{P:Program}{tt:List (TypeId×TI)}{nl:List (FuncId×(List V→M→(V→Bool)→Bool))}{Y:List FuncId}{gl:Nat→V}(h:ftB P Y=true)(hn:∀p∈nl,p.1<4096∧aOP P (mkE P tt nl Y gl) p.1 p.2):aTD P (mkE P tt nl Y gl):=by
 have U:∀f∈Y,f<4096∧ ∀fn c,P.funcs[f]? = some fn→fn.body=some c→aDq fn.ntmps c=true∧fn.ntmps≤511∧fn.name ≠ "runtime.NumGoroutine" := fun f J=>by
  have:=List.all_eq_true.1 h f J;simp only[Bool.and_eq_true] at this;refine⟨by simpa using this.1,fun fn c h1 h2=>?_⟩;have N:=this.2;rw[h1] at N;simp only[h2,Bool.and_eq_true] at N;exact⟨N.1.1,Nat.le_of_ble_eq_true N.1.2,by simpa using N.2⟩
 have hlt:∀p∈fnL P nl Y,p.1<4096:=fun p hp=>by
  rcases List.mem_append.1 hp with hp|hp
  ·obtain⟨q,hq,rfl⟩:=List.mem_map.1 hp;exact(hn q hq).1
  ·obtain⟨f,J,I⟩:=List.mem_filterMap.1 hp;cases hP:P.funcs[f]? with
   | none=>rw[hP] at I; cases I
   | some fn=>rw[hP] at I; cases I; exact(U f J).1
 have key:∀f fe,f<4096→get 4 f (mkE P tt nl Y gl).ft=fe→fe≠ .no→(f,fe)∈fnL P nl Y:=fun f fe J I hno=>by
  rcases aMy .no (fnL P nl Y) f hlt J with e|⟨p,h1,h2,N⟩
  ·exact absurd (I.symm.trans e) hno
  ·have N:p.2=fe:=N.trans I;rw[← h2,← N];exact h1
 refine⟨fun f cd nt res J I=>?_,fun f g J I=>?_,fun f g J I=>?_⟩
 ·rcases List.mem_append.1 (key f _ J I (by simp)) with hp|hp
  ·obtain⟨q,hq,e⟩:=List.mem_map.1 hp;cases e
  ·obtain⟨f',hf',e⟩:=List.mem_filterMap.1 hp;cases hP:P.funcs[f']? with
   | none=>rw[hP] at e; cases e
   | some fn =>
    rw[hP] at e;simp only[Option.map_some,Option.some.injEq,Prod.mk.injEq] at e;obtain⟨rfl,e⟩:=e;unfold aX2 at e;cases hb:fn.body with
    | none=>rw[hb] at e; cases e
    | some c =>
     rw[hb] at e;cases e;obtain⟨h1,h2,N⟩:=(U f' hf').2 fn _ hP hb;exact⟨fn,hP,hb,rfl,rfl,N,h1,h2⟩
 ·rcases List.mem_append.1 (key f _ J I (by simp)) with hp|hp
  ·obtain⟨q,hq,e⟩:=List.mem_map.1 hp;cases e;exact(hn q hq).2
  ·obtain⟨f',hf',e⟩:=List.mem_filterMap.1 hp;cases hP:P.funcs[f']? with
   | none=>rw[hP] at e; cases e
   | some fn =>
    rw[hP] at e;simp only[Option.map_some,Option.some.injEq,Prod.mk.injEq] at e;obtain⟨rfl,e⟩:=e;unfold aX2 at e;cases hb:fn.body<;>rw[hb] at e<;>cases e
 ·rcases List.mem_append.1 (key f _ J I (by simp)) with hp|hp
  ·obtain⟨q,hq,e⟩:=List.mem_map.1 hp;cases e
  ·obtain⟨f',hf',e⟩:=List.mem_filterMap.1 hp;cases hP:P.funcs[f']? with
   | none=>rw[hP] at e; cases e
   | some fn =>
    rw[hP] at e;simp only[Option.map_some,Option.some.injEq,Prod.mk.injEq] at e;obtain⟨rfl,e⟩:=e;unfold aX2 at e;cases hb:fn.body<;>rw[hb] at e<;>cases e
structure Gt where
 g:Nat
 k:IntKind
 l:List Nat
def Gt.o(t:Gt):O:=.row false (t.l.map fun n=>unb (mkK t.k) fun mk=>mk n)
def aQA(ts:List Gt):M:=⟨mkT0 ts 0,ts.length⟩
where mkT0:List Gt→Nat→QN HN O
 | [],_=>aA7 .no HN
 | t::l,i=>upd HN i t.o (mkT0 l (i+1))
def gl0:List Gt→Nat→Nat→V
 | [],_,_=>.z .j
 | t::l,i,g=>bi (Nat.beq g t.g) (.p i 0) (gl0 l (i+1) g)
def gtB(ts:List Gt):Bool:=Nat.ble ts.length 1000&&ts.all fun t=>t.l.all fun n=>Nat.blt n (2^(t.k.bits-1))||(!t.k.signed&&Nat.blt n (2^t.k.bits))
def GtR(w:World)(t:Gt):Prop:=∃cs e fz,w.heap[t.g]? = some (.cells cs e fz)∧ ∀(i n:Nat),t.l[i]? = some n→cs[i]? = some (Value.int t.k (n:Int))
def aQB(ts:List Gt):Rho:=fun a=>(ts[a]?).map fun t=>(t.g,0,t.l.length)
theorem aSs:∀(ts:List Gt) (i a:Nat) (t:Gt),i+ts.length≤262144→ts[a]? = some t→get HN (i+a) (aQA.mkT0 ts i)=t.o
 | t0::ts,i,0,t,I,h=>by
  simp only[List.getElem?_cons_zero,Option.some.injEq] at h;subst h;exact qR HN i t0.o _
 | t0::ts,i,a+1,t,I,h=>by
  have J:=(List.getElem?_eq_some_iff.1 (by simpa using h:ts[a]? = some t)).1;simp only[List.length_cons] at I;have:=aSs ts (i+1) a t (by omega) (by simpa using h);rw[show i+1+a=i+(a+1) from by omega] at this;rw[← this];exact gU HN i (i+(a+1)) t0.o _ (by show i<262144; omega) (by show i+(a+1)<262144; omega) (by omega)
theorem aWe{ts:List Gt}{w0 w:World}(hb:gtB ts=true)(hk:bG (fun _=>False) w0 w)(hg:∀t∈ts,GtR w t):W w0 (aQB ts) (aQA ts) w:=by
 simp only[gtB,Bool.and_eq_true,List.all_eq_true] at hb;obtain⟨hl,hn⟩:=hb;have hl:ts.length≤1000:=Nat.le_of_ble_eq_true hl;have hob:∀a t,ts[a]? = some t→ob (aQA ts) a=t.o:=fun a t h=>by
  have:=aSs ts 0 a t (by omega) h
  rwa [Nat.zero_add] at this
 have I:∀a r b N,aQB ts a=some (r,b,N)→ ∃t,ts[a]? = some t∧r=t.g∧b=0∧N=t.l.length:=fun a r b N h=>by
  unfold aQB at h;cases ht:ts[a]? with
  | none=>rw[ht] at h; cases h
  | some t=>rw[ht] at h; cases h; exact⟨t,rfl,rfl,rfl,rfl⟩
 refine⟨hk,fun a r b N h=>?_,fun a x h=>?_,by show ts.length≤262144; omega,fun a a' r b N b' N' h1 h2 hs _=>?_⟩
 ·obtain⟨t,ht,rfl,rfl,rfl⟩:=I a r b N h;rw[hob a t ht];obtain⟨cs,e,fz,h1,h2⟩:=hg t (List.mem_of_getElem? ht);obtain⟨mk,hmk,Y⟩:=aIY t.k;have ho:t.o= .row false (t.l.map mk):=by simp only[Gt.o,hmk,aV]
  rw[ho];have hcell:∀j,w.cell? ⟨t.g,0+j,none⟩=cs[j]? := fun j=>by simp[World.cell?,h1]
  refine⟨by simp[List.all_map,aVH hmk],by simp,⟨t.l.map fun (n:Nat)=>Value.int t.k (n:Int),?_,fun j v U=>?_⟩,fun j U=>?_,⟨_,_,_,h1⟩,fun h=>by cases h⟩;rotate_left
  ·rw[hcell];rw[List.getElem?_map] at U;cases hi:t.l[j]? with
   | none=>rw[hi] at U; cases U
   | some n=>rw[hi] at U; cases U; exact h2 j n hi
  ·rw[hcell,h2 j _ (List.getElem?_eq_getElem U)];rfl
  refine VRL.of (by simp) fun i v x hv hx=>?_;rw[List.getElem?_map] at hv hx;cases hi:t.l[i]? with
  | none=>rw[hi] at hv; cases hv
  | some n =>
   rw[hi] at hv hx;simp only[Option.map_some,Option.some.injEq] at hv hx;subst hv hx;have:=hn t (List.mem_of_getElem? ht) n (List.mem_of_getElem? hi);rw[Bool.or_eq_true] at this;have h2h:=yT t.k;have hhp:=qT t.k;rcases this with J|J
   ·have J:n<2^(t.k.bits-1):=(by simpa using J);exact(Y _ _ _).2 ⟨by rw[bX (.inr J)],by omega⟩
   ·rw[Bool.and_eq_true,Bool.not_eq_true'] at J;exact(Y _ _ _).2 ⟨by rw[bX (.inl J.1)],by simpa using J.2⟩
 ·obtain⟨t,ht,_⟩:=I a x.1 x.2.1 x.2.2 h;exact(List.getElem?_eq_some_iff.1 ht).1
 ·obtain⟨t,ht,_⟩:=I a _ _ _ h1;rw[hob a t ht] at hs;cases hs
theorem aWf{ts:List Gt}{w:World}(hb:gtB ts=true)(I:∀t∈ts,GtR w t):W w (aQB ts) (aQA ts) w:=aWe hb (.refl _ _) I
theorem bBs{tt:QN 4 TI}{ft:QN 4 FE}(ts:List Gt):GR ⟨tt,ft,gl0 ts 0⟩ (aQB ts):=by
 have I:∀(l:List Gt) (i g:Nat),(∀j t,l[j]? = some t→ts[i+j]? = some t)→VR (aQB ts) (gl0 l i g) (.pointer (some ⟨g,0,none⟩)):=by
  intro l
  induction l with
  | nil=>intro i g _; exact VR.junk _ _
  | cons t l N =>
   intro i g J;unfold gl0;cases hb:Nat.beq g t.g
   ·exact N (i+1) g fun j U h=>by
     have:=J (j+1) U (by simpa using h)
     rwa [show i+(j+1)=i+1+j from by omega] at this
   ·have hb:=Nat.eq_of_beq_eq_true hb;subst hb;simp only[aS,VR];have:=J 0 t rfl;rw[Nat.add_zero] at this;exact⟨t.g,0,t.l.length,by simp only[aQB,this,Option.map_some],by simp⟩
 exact fun g=>I ts 0 g fun j t h=>by rwa [Nat.zero_add]
def isTrue(v:V)(_:M):Bool:=match v with| .b true=>true|_=>false
def aLi(_:V)(_:M):Bool:=false
theorem bAx{P:Program}{E:En}(I:P.follows .mixedOrders=true)(Y:fA P E)(hF:aTD P E){f:FuncId}{fn:Func}{cd:Code}(h1:P.funcs[f]? = some fn)(h2:fn.body=some cd)(h3:fn.name ≠ "runtime.NumGoroutine"){n:Nat}{vs:List V}{m:M}(h:aAS E n f vs m isTrue aLi=true)
  {w:World} {ρ:Rho} (hw:W w ρ m w) (hg:GR E ρ) {xs:List Value} (hv:VRL ρ vs xs):Calls P f xs.toArray w fun e w'=>e= .returned (.bool true)∧bG (fun _=>False) w w':=by
 obtain⟨p,u,m',J,_,k2⟩:=aOQ (aYr I w) w Y hF n f vs m isTrue aLi h;cases p
 ·have hu:u= .b true:=by
   simp only[aT,isTrue] at J;split at J
   ·rfl
   ·cases J
  subst hu;have fin:∀e w',aGS w ρ m false (.b true) m' e w'→e= .returned (.bool true)∧bG (fun _=>False) w w':=fun e w' ⟨ρ',v,q1,q2,U,q4⟩=>by
   simp only[VR] at U;subst U;exact⟨q4,q2.keeps⟩
  rcases k2 w ρ w xs hw hg hv with⟨v,w',r1,N⟩|⟨r1,N⟩
  ·rw[aFB h1 h2 h3] at r1;cases r1
  ·exact N.mono fin
 ·cases J
end
end Go.It
namespace Go.It
noncomputable section
open Go.RowKit
open Go.Vc (bG aY)
def wR:Array Value→Sem Value:=fun args=>do
 let (x,y,b) ← Extern.MathBitsCarry.three "Sub64" args
 pure (Extern.MathBitsCarry.pair ((x+Extern.MathBitsCarry.m64-y-b)%Extern.MathBitsCarry.m64) (if x<y+b then 1 else 0))
theorem aFG{P:Program}(x y b:Nat)(hb:b≤1)(w:World) :
  (wR #[.int .u64 x,.int .u64 y,.int .u64 b]).run P w =
   .ok (.tuple #[.int .u64 (((x+18446744073709551616-y-b)%18446744073709551616:Nat):Int),.int .u64 ((if x<y+b then 1 else 0:Nat):Int)]) w:=by
 have:b=0∨b=1:=by omega
 rcases this with rfl|rfl<;>rfl
theorem vr3{ρ:Rho}{a b d:Nat}{xs:List Value}(hv:VRL ρ [.w a,.w b,.w d] xs):xs= [.int .u64 (a:Int),.int .u64 (b:Int),.int .u64 (d:Int)]∧a<2^64∧b<2^64:=by
 simp only[VRL,VR] at hv;obtain⟨y1,r1,rfl,⟨rfl,J⟩,y2,N,rfl,⟨rfl,I⟩,Y,U,rfl,⟨rfl,h3⟩,rfl⟩:=hv;exact⟨rfl,J,I⟩
section
variable {P:Program} {E:En} {f:FuncId} {fn:Func}
theorem aYs(I:P.funcs[f]? = some fn)(hname:(fn.name == "runtime.NumGoroutine")=false)(hb:fn.body.isNone=true)(U:Extern.findNext fn=none)(N:Extern.find fn=some add64Entry):aOP P E f aQl:=fun vs m c h=>by
 unfold aQl n3 at h;split at h
 ·rename_i a b d;obtain⟨hd,h⟩:=cA h;have hd:=Nat.le_of_ble_eq_true hd;refine⟨_,h,fun w0 ρ w xs Y hg hv=>.inl ?_⟩;obtain⟨rfl,ha,J⟩:=vr3 hv;refine⟨_,_,by rw[run_callFunc_extern I hname hb U N,run_add64 a b d (by omega) (by omega) (by omega) (by omega)]; rfl,_,rfl,?_,⟨rfl,rfl,rfl,Nat.le_refl _,fun _ _ _=>rfl⟩⟩;simp only[VR,VRL];refine⟨[.int .u64 (((a:Int)+b+d)%18446744073709551616),.int .u64 (((a:Int)+b+d)/18446744073709551616)],rfl,_,_,rfl,⟨?_,?_⟩,_,_,rfl,⟨?_,?_⟩,rfl⟩
  ·congr 1
  ·exact Nat.mod_lt _ (by decide)
  ·congr 1
  ·have:(a+b+d)/18446744073709551616≤2:=(by omega);exact Nat.lt_of_le_of_lt this (by decide)
 ·cases h
theorem aYt(J:P.funcs[f]? = some fn)(hname:(fn.name == "runtime.NumGoroutine")=false)(hb:fn.body.isNone=true)(hn:Extern.findNext fn=none)(Y:Extern.find fn=some wR):aOP P E f aQm:=fun vs m c h=>by
 unfold aQm n3 at h;split at h
 ·rename_i a b d;obtain⟨hd,h⟩:=cA h;have hd:=Nat.le_of_ble_eq_true hd;refine⟨_,h,fun w0 ρ w xs hw hg hv=>.inl ?_⟩;obtain⟨rfl,ha,N⟩:=vr3 hv;refine⟨_,_,by rw[run_callFunc_extern J hname hb hn Y,aFG a b d hd]; rfl,_,rfl,?_,⟨rfl,rfl,rfl,Nat.le_refl _,fun _ _ _=>rfl⟩⟩;simp only[VR,VRL];have U:Nat.mod (Nat.add a (Nat.sub 36893488147419103232 (Nat.add b d))) 18446744073709551616=(a+18446744073709551616-b-d)%18446744073709551616:=by
   show (a+(36893488147419103232-(b+d)))%18446744073709551616=_;omega
  have e2:(bi (Nat.blt a (Nat.add b d)) 1 0)=if a<b+d then 1 else 0:=by
   by_cases I:a<b+d
   ·rw[if_pos I,show Nat.blt a (Nat.add b d)=true from by simpa using I]; rfl
   ·rw[if_neg I,show Nat.blt a (Nat.add b d)=false from by
     cases hq:Nat.blt a (Nat.add b d) with
     | false=>rfl
     | true=>exact absurd (by simpa using hq) I]; rfl
  rw[U,e2];refine⟨_,rfl,_,_,rfl,⟨rfl,Nat.mod_lt _ (by decide)⟩,_,_,rfl,⟨rfl,?_⟩,rfl⟩;split<;>decide
 ·cases h
end
def bB7:V→V→Bool
 | .w a,.w b=>Nat.beq a b
 | .i a,.i b=>Nat.beq a b
 | .k k a,.k I b=>keq k I&&Nat.beq a b
 | _,_=>false
def bBt(f:Nat→V):List Nat→List V→Bool
 | [],_=>true
 | n::ns,v::vs=>bB7 (f n) v&&bBt f ns vs
 | _,_=>false
def bAX(gl:Nat→V)(m:M)(t:Gt):Bool:=match gl t.g with
 | .p a o=>bi (Nat.beq o 0) (match ob m a with| .row _ l=>unb (mkK t.k) fun f=>bBt f t.l l|_=>false) false
 | _=>false
def bAy:Nat→Code→Code×Code
 | n+1,.seq a b=>(.seq a (bAy n b).1,(bAy n b).2)
 | _,c=>(.skip,c)
def mask(x:Fx):List (Nat×V)→x.ε
 | []=>upd x.n 0 (.z .u) (aA7 (.z .j) x.n)
 | (t,v)::l=>bi (Nat.blt 0 (x.ix t)) (upd x.n (x.ix t) v (mask x l)) (mask x l)
def aUV(E:En)(n k:Nat)(ts:List Gt)(l:List (Nat×V)):FE→Bool
 | .fi J nt res=>unb (trC (xX E J nt res) (bAy k J).2) fun I=>I (mask (xX E J nt res) l) (aQA ts) ⟨aAS E n,fun e m=>aOn (xX E J nt res) (aAS E n) res isTrue aLi none e m,kxF (xX E J nt res) (aAS E n) res isTrue aLi⟩
 | _=>false
end
end Go.It
namespace Go.It
open Go Go.RowKit Go.Vc
theorem aWg{w:World}{S:Nat→Prop}{g m:Nat}{k:IntKind}{ys:List Nat}(h:Vc.aG ⟨S,fun _=>Go.undef,0,fun _ _=>False⟩ w (.roa (.arr m (.u k)) ys) (.pointer (some ⟨g,0,none⟩)))(Y:ys≠ []):GtR w ⟨g,k,ys⟩:=by
 obtain⟨⟨b,off,ds,U,hS,⟨hl,I,e2,hl2,hr⟩,hc⟩,_⟩:=h;have U:[Value.pointer (some ⟨g,0,none⟩)]= [.pointer (some ⟨b,off,none⟩)]:=U;simp only[List.cons.injEq,Value.pointer.injEq,Option.some.injEq,Addr.mk.injEq,and_true] at U;obtain⟨rfl,rfl⟩:=U;have one:∀i (h:i<I.length),I[i]= [Value.int k (ys.getD i 0:Nat)]:=fun i h=>by
  have:=(hr i (by omega) h).1;rw[this,List.getD_eq_getElem?_getD,List.getElem?_eq_getElem (by omega)];rfl
 have at_:∀i n:Nat,ys[i]? = some n→ds[i]? = some (Value.int k (n:Int)):=fun i n hi=>by
  have hi2:i<I.length:=by
   have:=(List.getElem?_eq_some_iff.1 hi).1;omega
  have e:I=(List.range I.length).map fun i=>[Value.int k (ys.getD i 0:Nat)]:=by
   refine List.ext_getElem (by simp) fun j h1 h2=>?_;rw[one j h1];simp
  have e3:I.flatten=(List.range I.length).map fun i=>Value.int k (ys.getD i 0:Nat):=by
   conv=>lhs; rw[e]
   generalize I.length=q
   induction List.range q with
   | nil=>rfl
   | cons a r ih=>rw[List.map_cons,List.flatten_cons,ih]; rfl
  rw[e2,e3,List.getElem?_map,List.getElem?_range hi2,Option.map_some,List.getD_eq_getElem?_getD,hi];rfl
 have h0:0<ys.length:=List.length_pos_iff.2 Y;have c0:=hc 0 _ (at_ 0 ys[0] (List.getElem?_eq_getElem h0));have J:∀j v,w.cell? ⟨g,0+j,none⟩=some v→ ∃cs e fz,w.heap[g]? = some (.cells cs e fz)∧cs[0+j]? = some v:=fun j v h=>by
  unfold World.cell? at h;simp only at h;split at h
  ·rename_i cs e fz hh;exact⟨cs,e,fz,hh,by simpa using h⟩
  ·cases h
 obtain⟨cs,e,fz,q1,_⟩:=J _ _ c0;refine⟨cs,e,fz,q1,fun i n hi=>?_⟩;obtain⟨cs2,e2,fz2,N,p2⟩:=J _ _ (hc i _ (at_ i n hi));rw[q1] at N;have N:=Option.some.inj N;rw[Go.Obj.cells.injEq] at N;rw[N.1]
 simpa using p2
theorem aWh{P:Program}(I:P.follows .mixedOrders=true){ts:List Gt}{tt:List (TypeId×TI)}{J:List (FuncId×(List V→M→(V→Bool)→Bool))}{U:List FuncId}(hE:fA P (mkE P tt J U (gl0 ts 0)))(hF:aTD P (mkE P tt J U (gl0 ts 0))){f:FuncId}{fn:Func}{cd:Code}(h1:P.funcs[f]? = some fn)(h2:fn.body=some cd)(h3:fn.name ≠ "runtime.NumGoroutine")
  (hb:gtB ts=true) {n:Nat} (h:aAS (mkE P tt J U (gl0 ts 0)) n f [] (aQA ts) isTrue aLi=true) {G:Nat→Vc.AV} (hG:∀(S:Nat→Prop) (w:World),Vc.jM G S w→ ∀t∈ts,GtR w t):Vc.FOK P G f ⟨.unit,.one .bool,fun _=>True,fun _=>true⟩:=fun w S N x hS hg Y hp=>by
 have Y:N.toList= []:=Y;obtain rfl:N= #[]:=by cases N; simp_all
 refine(bAx I hE hF h1 h2 h3 h (aWf hb (hG S w hg)) (bBs ts) (xs:=[]) (by simp only[VRL])).mono fun e w' ⟨e1,hk⟩=>⟨.bool true,e1,hk,?_⟩;exact rfl
end Go.It
namespace Go.It
noncomputable section
open Go.RowKit
section
variable {P:Program} {H:Type} {w:World}
def aTI(k:IntKind)(ys:List Nat):DataW H:=.agg (ys.map fun (y:Nat)=>.lit (.int k (y:Int)))
theorem aOU{l:List (String×DataW Unit)}{n:String}{d:DataW Unit}(J:(n,d)∈l){ps:List MemPlace}(h:DataW.LaidVars P w l ps) :
  ∃g t cs I p,P.globalNamed n=some g∧(P.globals[g]?).map (·.type)=some t∧w.var? P n=some cs∧DataW.trod (fun _=>()) P w 0 (fun _=>true) false I t cs.toList=some (d,p):=by
 induction l generalizing ps with
 | nil=>cases J
 | cons x r N =>
  obtain⟨n',d'⟩:=x;obtain⟨g,t,cs,I,p,q,h1,U,h3,Y,h5,_⟩:=h;rcases List.mem_cons.1 J with e|e
  ·cases e;exact⟨g,t,cs,I,p,h1,U,h3,Y⟩
  ·exact N e h5
end
end
end Go.It
namespace Go.Vc
open Go.RowKit
section
variable {P:Program} {T:Tab} {H:Type} {enc:TypeId×Value→H} {w:World} {spare:Nat→Bool} {held:Bool}
def aTI(k:IntKind)(ys:List Nat):DataW H:=.agg (ys.map fun (y:Nat)=>.lit (.int k (y:Int)))
theorem aMz:∀(cs:List Value),((List.range cs.length).map fun i=>(cs.drop i).take 1).flatten=cs:=by
 intro cs;have e:((List.range cs.length).map fun i=>(cs.drop i).take 1)=cs.map fun c=>[c]:=by
  apply List.ext_getElem
  ·simp
  ·intro i I N;simp only[List.length_map,List.length_range] at I;simp only[List.getElem_map,List.getElem_range];rw[List.drop_eq_getElem_cons I];rfl
 rw[e];clear e
 induction cs with
 | nil=>rfl
 | cons c cs J=>simp[J]
theorem aYu{S:Nat→Prop}(U:eO P T){n:Nat}{t:TypeId}{m:Nat}{k:IntKind}{cs:List Value}{p:List MemPlace}{ys:List Nat}(ht:T t=some (.arr m (.u k)))
  (h:DataW.trod enc P w 0 spare held n t cs=some (aTI k ys,p)):aJ w S (.arr m (.u k)) ys cs:=by
 obtain⟨d,hd,hb⟩:=(U _ _ ht).desc;cases d<;>simp[dM] at hb
 obtain⟨⟨⟨rfl,N⟩,hb2⟩,_⟩:=hb;obtain⟨xs,q,hq,hx,I,hxl,hf⟩:=DataW.trod_array hd h;simp only[aTI,Prod.mk.injEq,DataW.agg.injEq] at hx;rw[gT (U _ _ ht)] at I;rw[gT (U _ _ N)] at hf;have e1:(Ty.u k).cells=1:=rfl;have e2:(Ty.arr m (.u k)).cells=m:=by show m*1=m; omega
 rw[e1] at hf;rw[e2] at I;have Y:ys.length=m:=by
  have:=congrArg List.length hx.1;grind
 obtain⟨du,hdu,J⟩:=(U _ _ N).desc;cases du<;>simp[dM] at J
 obtain⟨rfl,hs⟩:=J;refine⟨Y,(List.range cs.length).map (fun i=>(cs.drop i).take 1),(aMz cs).symm,by grind,fun i h1 h2=>?_⟩;have hi:i<m:=by omega
 have h3:=hf i hi;rw[Nat.mul_one,List.getElem?_eq_getElem (by omega)] at h3;obtain⟨v,g1,g2,g3⟩:=DataW.trod_int hdu h3;simp only[List.getElem_map,List.getElem_range];have h4:(xs.map (·.1))[i]? = (ys.map fun (y:Nat)=>(DataW.lit (.int k (y:Int)):DataW H))[i]? := by rw[hx.1]
 rw[List.getElem?_map,List.getElem?_map,List.getElem?_eq_getElem (by omega),List.getElem?_eq_getElem h1,g2] at h4;simp only[Option.map_some,Option.some.injEq,DataW.lit.injEq,Lit.int.injEq,true_and] at h4;rw[h4] at g1 g3;simp only[Lit.wf,Bool.and_eq_true,decide_eq_true_eq] at g3;exact⟨g1,hs,g3.2⟩
theorem aOU{l:List (String×DataW Unit)}{n:String}{d:DataW Unit}(J:(n,d)∈l){ps:List MemPlace}(h:DataW.LaidVars P w l ps) :
  ∃g t cs I p,P.globalNamed n=some g∧(P.globals[g]?).map (·.type)=some t∧w.var? P n=some cs∧DataW.trod (fun _=>()) P w 0 (fun _=>true) false I t cs.toList=some (d,p):=by
 induction l generalizing ps with
 | nil=>cases J
 | cons x r U =>
  obtain⟨N,d'⟩:=x;obtain⟨g,t,cs,I,p,q,h1,Y,h3,h4,h5,_⟩:=h;grind
theorem aOV(hT:eO P T){l:List (String×DataW Unit)}(h:laidMet P l w)(n:String)(g:Nat)(t:TypeId)(m:Nat)(k:IntKind)(ys:List Nat)(hm:(n,aTI k ys)∈l)(hg:P.globalNamed n=some g)
  (ht:(P.globals[g]?).map (·.type)=some t) (J:T t=some (.arr m (.u k))) (hm0:0<m):aG ⟨sF w,fun _=>Go.undef,0,fun _ _=>False⟩ w (.roa (.arr m (.u k)) ys) (.pointer (some ⟨g,0,none⟩)):=by
 obtain⟨ps,hv,_⟩:=h;obtain⟨g',t',I,N,p,h1,h2,h3,h4⟩:=aOU hm hv;obtain rfl:=Option.some.inj (hg.symm.trans h1);obtain rfl:=Option.some.inj (ht.symm.trans h2);have Y:aJ w (sF w) (.arr m (.u k)) ys I.toList:=aYu hT J h4;have hc:aY w g 0 I.toList:=fun j v hj=>by
  have:=World.var?_cell hg h3 j;simp_all
 refine zU ?_ Y hc;have U:=aJ.length _ _ _ Y;have U:I.toList.length=m*1:=U;have h0:0<I.toList.length:=by omega
 exact aRI (hc 0 (I.toList[0]'h0) (List.getElem?_eq_getElem h0))
end
end Go.Vc

