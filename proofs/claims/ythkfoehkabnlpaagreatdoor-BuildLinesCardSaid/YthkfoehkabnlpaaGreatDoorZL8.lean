import Derived.Test.YthkfoehkabnlpaaGreatDoorZL7
import Derived.Deep.AppendSrc
import Derived.Scope
import Derived.Recover
set_option linter.unusedVariables false
set_option linter.unusedSimpArgs false
namespace Go.It
noncomputable section
open Go.RowKit
open Go.Vc (bG aY)
structure Ls(P:Program)(sz:Nat)(ρ:Rho)(w:World)(x:Value)(k:Nat)(xs:List V):Prop where
 len:∀w',(Builtin.lenOf x).run P w'= .ok k w'
 max:k≤maxLen
 cells:∃ns:List Value,VRL ρ xs ns∧xs.all kD=true∧ns.length=k*sz∧ ∀j,j≤k→(Builtin.firstCells sz j x).run P w= .ok (ns.take (j*sz)).toArray w∧(Builtin.firstCells sz j x).run P w.drew= .ok (ns.take (j*sz)).toArray w.drew
theorem aFz{P:Program}{sz:Nat}{v:V}{m:M}{c:Nat→List V→Bool}(h:aIJ sz v m c=true):∃k xs,c k xs=true∧ ∀ {w0:World} {ρ:Rho} {w:World} {x:Value},W w0 ρ m w→VR ρ v x→Ls P sz ρ w x k xs:=by
 have Y:elems sz v m c=true→ ∃k xs,c k xs=true∧ ∀ {w0:World} {ρ:Rho} {w:World} {x:Value},W w0 ρ m w→VR ρ v x→Ls P sz ρ w x k xs:=fun h=>by
  unfold elems at h;split at h<;>first|(cases h; done)|skip
  ·refine⟨0,[],h,fun {w0 ρ w x} hw hv=>?_⟩;simp only[VR,zR] at hv;subst hv;exact⟨fun _=>rfl,Nat.zero_le _,[],by simp[VRL],rfl,by simp,fun j J=>⟨by simp[Builtin.firstCells],by simp[Builtin.firstCells]⟩⟩
  ·rename_i a o n cp xx _;cases I:Nat.beq n 0
   ·simp only[I,aT,aGj] at h;rw[pB] at h;obtain⟨w',l,h3,h4⟩:=sR h;obtain⟨h5,h6⟩:=yS h4;obtain⟨h7,h8⟩:=wM h6;have I:n≠0:=fun e=>(by rw[e] at I; cases I);refine⟨n,_,h8,fun {w0 ρ w x} hw hv=>?_⟩;have hnc:n≤cp:=(by have hv:=hv; simp only[VR] at hv; obtain⟨_,_,_,h,_⟩:=hv; exact h);obtain⟨r,b,N,c',g1,U,g3,g4,g5,_⟩:=hv.slice (by omega);obtain⟨k1,k2,xs,k3,k4⟩:=hw.row g1 h3;subst U;have hl:((xs.drop o).take (n*sz)).length=n*sz:=by
     have:=k3.length;simp only[List.length_drop,Nat.mul_eq] at h7;simp; omega
    refine⟨fun _=>rfl,by omega,_,(k3.drop o).take (n*sz),aFv k1 _ _,hl,fun j J=>?_⟩;have hjn:j*sz≤n*sz:=Nat.mul_le_mul_right _ J;have hlen:(((xs.drop o).take (n*sz)).take (j*sz)).length=j*sz:=(by rw[List.length_take,hl]; omega);have hc:∀(w1:World),w1.heap=w.heap→ ∀(i:Nat) (u:Value),(((xs.drop o).take (n*sz)).take (j*sz))[i]? = some u→w1.cell? ((⟨r,b+o,none⟩:Addr).add i)=some u:=fun w1 hw1 i u hi=>by
     rw[List.getElem?_take] at hi;split at hi
     ·have:=wP k4 i u hi;rw[← this];simp only[World.cell?,hw1]
     ·cases hi
    have r1:=run_loadCells_list (P:=P) w ⟨r,b+o,none⟩ _ (hc w rfl);have r2:=run_loadCells_list (P:=P) w.drew ⟨r,b+o,none⟩ _ (hc w.drew rfl);rw[hlen] at r1 r2;exact⟨r1,r2⟩
   ·simp only[I,aS] at h;have I:n=0:=Nat.eq_of_beq_eq_true I;subst I;refine⟨0,[],h,fun {w0 ρ w x} hw hv=>?_⟩;simp only[VR] at hv;obtain⟨adr,c',rfl,_⟩:=hv;refine⟨fun _=>rfl,Nat.zero_le _,[],by simp[VRL],rfl,by simp,fun j J=>?_⟩;have:j=0:=(by omega);subst this;exact⟨by simp[Builtin.firstCells,loadCells,loadCellsFrom],by simp[Builtin.firstCells,loadCells,loadCellsFrom]⟩
 unfold aIJ at h;split at h
 ·rename_i n y;obtain⟨h1,h2⟩:=cA h;have h1:sz=1:=Nat.eq_of_beq_eq_true h1;subst h1;refine⟨n,_,h2,fun {w0 ρ w x} hw hv=>?_⟩;simp only[VR] at hv;obtain⟨sb,rfl,U,g3,g4⟩:=hv;have hsz:sb.size=n:=by rw[← U]; exact Array.length_toList.symm
  rw[← U,← g3,aDp];have hf:∀(j:Nat) (w':World),j≤sb.data.toList.length→(Builtin.firstCells 1 j (.string sb)).run P w'= .ok ((sb.data.toList.map fun b=>Value.int .u8 (b.toNat:Int)).take (j*1)).toArray w':=fun j w' J=>by
   simp only[Builtin.firstCells,Sem.run_pure]
   congr 1
   apply Array.ext';rw[Array.toList_map,aAq];simp[List.map_take]
  exact⟨fun _=>by simp[Builtin.lenOf,hsz,U],by rw[U]; exact g4,_,aFy ρ _,aLc _,by simp,fun j J=>⟨hf j w J,hf j w.drew J⟩⟩
 ·exact Y h
section
variable {P:Program} {q:Cx} {e:q.ε} {m:M} {c:V→M→Bool} {f:OpF q} {dst:Option Tmp} {ty:TypeId} {pos:String} {aft:Array Edge} {gd:Option (Nat×Bool)}
theorem aYh(hq:dU q)(hE:fA P q.E){x y:Operand}{ats:Array TypeId}{t:TypeId}{tl:List TypeId}(ht0:ats[0]? = some t)(hf:kC q .copy ty [x,y] (t::tl)= .mk f)(h:f e m c=true):OpR P q ⟨dst,.call ⟨.builtin .copy,#[x,y],ats⟩,ty,pos,aft,gd⟩ e m c:=by
 unfold kC at hf;simp only at hf;have exe:∀ {ev:Operand→Value} {w w':World} {v:Value},(Builtin.copy_ ats ty #[ev x,ev y]).run P w= .ok v w'→(execOp ev ⟨dst,.call ⟨.builtin .copy,#[x,y],ats⟩,ty,pos,aft,gd⟩).run P w= .ok (.value v) w':=fun hv=>by
  simp[execOp,resolve,invoke,builtin,hv]
 split at hf
 ·rename_i el hk;obtain⟨dm,hdm,hkr⟩:=(dI hE hk (by simp)).desc;rw[hk] at hkr;simp only[kR] at hkr;subst hkr;cases hn:kn q.E el
  ·simp only[hn,aT] at hf;exact(aU hf h).elim
  ·simp only[hn,aS,aV] at hf;have ht:=pC hE hn;have h2:=mM hq hf h;obtain⟨k,xs,h3,hL⟩:=aFz (P:=P) h2;split at h3<;>first|(cases h3; done)|skip
   ·rename_i Y;refine .c _ _ rfl h3 ⟨Nat.le_refl _,fun w0 ρ ac w J=>?_⟩;have hv:=J.ev x (by simp[Op.operands,Call.operands]);have L:=hL J.w (J.ev y (by simp[Op.operands,Call.operands]));rw[Y] at hv;simp only[VR,zR] at hv;obtain⟨ns,n1,n2,n3,n4⟩:=L.cells;have U:=(n4 0 (Nat.zero_le _)).1;refine⟨.value (goInt 0),goInt 0,w,ρ,exe ?_,.inl rfl,J.w,by simp only[VR,goInt]; exact⟨rfl,by decide⟩,.refl _,fun k hk _=>hk⟩;simp[Builtin.copy_,ht0,aX hdm,hv,L.len,ht.size];rw[U]; rfl
   ·rename_i a o n cp xx Y;cases I:Nat.beq (Nat.min k n) 0
    ·simp only[I,aT] at h3;have I:Nat.min k n≠0:=fun e=>(by rw[e] at I; cases I);obtain⟨h4,h5⟩:=wM h3;rw[pB] at h5;obtain⟨w',l,h6,h7⟩:=sR h5;obtain⟨h8,h9⟩:=cA h7;rw[h8] at h6;obtain⟨h10,h11⟩:=aCp h9;rw[aFr] at h11;have hmk:Nat.min k n≤k:=Nat.min_le_left _ _;have hmn':Nat.min k n≤n:=Nat.min_le_right _ _;refine .c _ _ rfl h11 ⟨Nat.le_refl _,fun w0 ρ ac w J=>?_⟩;have hv:=J.ev x (by simp[Op.operands,Call.operands]);have L:=hL J.w (J.ev y (by simp[Op.operands,Call.operands]));rw[Y] at hv;have hnc:n≤cp:=(by have hv:=hv; simp only[VR] at hv; obtain⟨_,_,_,h,_⟩:=hv; exact h);obtain⟨r,b,N,c',g1,g2,_⟩:=hv.slice (by omega);obtain⟨ns,n1,n2,n3,n4⟩:=L.cells;have U:=(n4 _ hmk).1;have c1:=n1.take (Nat.mul (Nat.min k n) (ti q.E el).n);have c2:(xs.take (Nat.mul (Nat.min k n) (ti q.E el).n)).all kD=true:=(by have:=aFv n2 0 (Nat.mul (Nat.min k n) (ti q.E el).n); simpa using this);have hob:=J.w.obj _ _ _ _ g1;rw[h6] at hob;obtain⟨a1,a2,a3,a5,a6,a7⟩:=hob;have hlen:=c1.length;have run:=run_storeCells_cells (P:=P) r (b+o) (ns.take (Nat.mul (Nat.min k n) (ti q.E el).n)) 0 w (fun j hj=>by
       have:=a5 (o+j) (by omega)
       rwa [← Nat.add_assoc] at this) (fun j hj=>by
       have:=(a7 rfl).2 (o+j) (by omega)
       rwa [← Nat.add_assoc] at this) (c1.one c2)
     have hput:=OR.put (o:=o) ⟨a1,a2,a3,a5,a6,a7⟩ c1 c2 h10;have hkm:=L.max;have hlt:Nat.min k n<2^63:=(by simp only[maxLen] at hkm; omega);refine⟨.value (goInt (Nat.min k n:Nat)),_,w.setCells r (b+o) (ns.take (Nat.mul (Nat.min k n) (ti q.E el).n)),ρ,exe ?_,.inl rfl,?_,by simp only[VR,goInt]; exact⟨by rw[bX (.inr hlt)],by omega⟩,.refl _,fun k hk _=>hk⟩
     ·simp only[Builtin.copy_,ht0];simp only[Nat.mul_eq,Nat.add_zero] at run;simp[aX hdm,g2,L.len,ht.size,U,run]
     ·exact J.w.write g1 (by rw[h6]; rfl) (.inl rfl) (But.setCells _ _ _ _) (a7 rfl).1 hput
    ·simp only[I,aS] at h3;have I:Nat.min k n=0:=Nat.eq_of_beq_eq_true I;refine .c _ _ rfl h3 ⟨Nat.le_refl _,fun w0 ρ ac w J=>?_⟩;have hv:=J.ev x (by simp[Op.operands,Call.operands]);have L:=hL J.w (J.ev y (by simp[Op.operands,Call.operands]));rw[Y] at hv;simp only[VR] at hv;obtain⟨adr,c',g1,_⟩:=hv;obtain⟨ns,n1,n2,n3,n4⟩:=L.cells;have U:=(n4 0 (Nat.zero_le _)).1;refine⟨.value (goInt 0),goInt 0,w,ρ,exe ?_,.inl rfl,J.w,by simp only[VR,goInt]; exact⟨rfl,by decide⟩,.refl _,fun k hk _=>hk⟩;simp only[Builtin.copy_,ht0];simp[aX hdm,g1,L.len,I,ht.size];rw[U];simp[storeCells]
 ·exact(aU hf h).elim
theorem VRL.noughts{ρ:Rho}{I:List V}{z:Array Value}(h:VRL ρ I z.toList)(k:Nat):VRL ρ (aD9 k I []) (Builtin.zeroCells z k).toList:=by
 have N:=h.length;simp only[Array.length_toList] at N;refine VRL.of (by simp[Builtin.zeroCells,aBF,N]) fun j v x hv hx=>?_;have J:j<k*I.length:=by
  have:=(List.getElem?_eq_some_iff.1 hv).1
  rwa [aBF] at this
 rw[aI3 J] at hv;obtain⟨y,Y,h2⟩:=h.get hv;have U:j%I.length<z.size:=by rw[N]; exact Nat.mod_lt _ (by cases hz:I.length with|zero=>rw[hz] at J; simp at J|succ n=>omega)
 have:x=y:=by
  simp[Builtin.zeroCells,N,J] at hx;rw[← hx,getElem!_pos z _ U];have e1:z.toList[j%I.length]? = some z[j%I.length]:=by simp[U]
  rw[e1] at Y;exact Option.some.inj Y
 rw[this]; exact h2
theorem aV0(hq:dU q)(hE:fA P q.E){x:Operand}{Y:Array TypeId}{t:TypeId}{tl:List TypeId}(ht0:Y[0]? = some t)(hf:kC q .clear ty [x] (t::tl)= .mk f)(h:f e m c=true):OpR P q ⟨dst,.call ⟨.builtin .clear,#[x],Y⟩,ty,pos,aft,gd⟩ e m c:=by
 unfold kC at hf;simp only at hf;have exe:∀ {ev:Operand→Value} {w w':World} {v:Value},(Builtin.clear_ Y ty #[ev x]).run P w= .ok v w'→(execOp ev ⟨dst,.call ⟨.builtin .clear,#[x],Y⟩,ty,pos,aft,gd⟩).run P w= .ok (.value v) w':=fun hv=>by
  simp[execOp,resolve,invoke,builtin,hv]
 have tup:∀ {ρ:Rho},VR ρ (.tup []) (.tuple #[]):=fun {ρ}=>by simp only[VR,VRL]; exact⟨[],rfl,rfl⟩
 split at hf
 ·rename_i el hk;obtain⟨dm,hdm,hkr⟩:=(dI hE hk (by simp)).desc;rw[hk] at hkr;simp only[kR] at hkr;subst hkr;cases hn:kn q.E el
  ·simp only[hn,aT] at hf;exact(aU hf h).elim
  ·simp only[hn,aS,aV] at hf;have ht:=pC hE hn;have h2:=gG hq hf h;split at h2<;>first|(cases h2; done)|skip
   ·rename_i J;refine .c _ _ rfl h2 ⟨Nat.le_refl _,fun w0 ρ ac w U=>?_⟩;have hv:=U.ev x (by simp[Op.operands,Call.operands]);rw[J] at hv;simp only[VR,zR] at hv;refine⟨.value (.tuple #[]),.tuple #[],w,ρ,exe ?_,.inl rfl,U.w,tup,.refl _,fun k hk _=>hk⟩;simp[Builtin.clear_,ht0,aX hdm,hv]
   ·rename_i a o n cp xx J;cases I:Nat.beq n 0
    ·simp only[I,aT] at h2;have I:n≠0:=fun e=>(by rw[e] at I; cases I);rw[pB] at h2;obtain⟨w',l,h6,h7⟩:=sR h2;obtain⟨h8,h9⟩:=cA h7;rw[h8] at h6;obtain⟨h10,h11⟩:=aCp h9;rw[aFr] at h11;refine .c _ _ rfl h11 ⟨Nat.le_refl _,fun w0 ρ ac w U=>?_⟩;have hv:=U.ev x (by simp[Op.operands,Call.operands]);rw[J] at hv;have hnc:n≤cp:=(by have hv:=hv; simp only[VR] at hv; obtain⟨_,_,_,h,_⟩:=hv; exact h);obtain⟨r,b,N,c',g1,g2,_⟩:=hv.slice (by omega);obtain⟨fi,z,z1,z2,z3,z4⟩:=ht.zero;have c1:=(z4 ρ).noughts n;have c2:=aBG ht.zone.1 n;have hob:=U.w.obj _ _ _ _ g1;rw[h6] at hob;obtain⟨a1,a2,a3,a5,a6,a7⟩:=hob;have hlen:=c1.length;have run:=run_storeCells_cells (P:=P) r (b+o) (Builtin.zeroCells z.cells n).toList 0 w (fun j hj=>by
       have:=a5 (o+j) (by omega)
       rwa [← Nat.add_assoc] at this) (fun j hj=>by
       have:=(a7 rfl).2 (o+j) (by omega)
       rwa [← Nat.add_assoc] at this) (c1.one c2)
     have hput:=OR.put (o:=o) ⟨a1,a2,a3,a5,a6,a7⟩ c1 c2 h10;refine⟨.value (.tuple #[]),.tuple #[],w.setCells r (b+o) (Builtin.zeroCells z.cells n).toList,ρ,exe ?_,.inl rfl,?_,tup,.refl _,fun k hk _=>hk⟩
     ·simp only[Builtin.clear_,ht0];simp only[Nat.add_zero] at run;simp[aX hdm,g2,zeroValue,typeInfo,z1,z3,run]
     ·exact U.w.write g1 (by rw[h6]; rfl) (.inl rfl) (But.setCells _ _ _ _) (a7 rfl).1 hput
    ·simp only[I,aS] at h2;have I:n=0:=Nat.eq_of_beq_eq_true I;refine .c _ _ rfl h2 ⟨Nat.le_refl _,fun w0 ρ ac w U=>?_⟩;have hv:=U.ev x (by simp[Op.operands,Call.operands]);rw[J] at hv;simp only[VR] at hv;obtain⟨adr,c',g1,_⟩:=hv;refine⟨.value (.tuple #[]),.tuple #[],w,ρ,exe ?_,.inl rfl,U.w,tup,.refl _,fun k hk _=>hk⟩;subst I;simp[Builtin.clear_,ht0,aX hdm,g1]
 ·exact(aU hf h).elim
end
end
end Go.It
namespace Go.It
noncomputable section
open Go.RowKit
open Go.Vc (bG aY)
theorem Ls.src{P:Program}{sz:Nat}{ρ:Rho}{w:World}{x:Value}{k:Nat}{xs:List V}(L:Ls P sz ρ w x k xs){tx:TypeId}(Y:(∃e',P.underlying tx=some (.slice e'))∨P.underlying tx=some .string) :
  ∃I,VRL ρ xs I∧xs.all kD=true∧Src P sz tx x k I w:=by
 obtain⟨J,N,U,n3,n4⟩:=L.cells;have h:=n4 k (Nat.le_refl _);have e:J.take (k*sz)=J:=List.take_of_length_le (by omega);rw[e] at h;exact⟨J,N,U,⟨Y,L.len,h.1,h.2,n3,N.one U⟩⟩
structure Ap(P:Program)(t tx ty el:TypeId)(x:Value)(k:Nat)(news:List Value)(w:World):Prop where
 len:∀fi,P.info? el=some fi→news.length=k*fi.size
 room:∀fi,P.info? el=some fi→ ∀b off sLen sCap,sLen+k≤sCap→(∀j,j<news.length→(w.cell? ⟨b,off+sLen*fi.size+j,none⟩).isSome=true)→(∀j,j<news.length→w.frozen? ⟨b,off+sLen*fi.size+j,none⟩=false) →
  (Builtin.append_ #[t,tx] ty #[.slice (some ⟨b,off,none⟩) sLen sCap,x]).run P w= .ok (.slice (some ⟨b,off,none⟩) (sLen+k) sCap) (w.setCells b (off+sLen*fi.size) news)
 grow:∀fi z,P.info? el=some fi→fi.zero=some z→ ∀(base:Option Addr) (sLen sCap:Nat) (olds:List Value),(Builtin.firstCells fi.size sLen (.slice base sLen sCap)).run P w.drew= .ok olds.toArray w.drew →
  sCap<sLen+k→((sLen+k:Nat):Int)≤9223372036854775807→Builtin.nextslicecap (sLen+k) sCap*fi.bytes≤281474976710656→k*fi.bytes≤281474976710656 →
  (Builtin.append_ #[t,tx] ty #[.slice base sLen sCap,x]).run P w =
   .ok (.slice (some ⟨w.heap.size,0,none⟩) (sLen+k) (grownCap w (sLen+k) sCap el))
    (w.drew.alloc (.cells ((olds++news).toArray++Builtin.zeroCells z.cells (grownCap w (sLen+k) sCap el-(sLen+k))) el))
theorem Ap.src{P:Program}{t tx ty el:TypeId}{x:Value}{k:Nat}{I:List Value}{w:World}(ht:P.underlying t=some (.slice el))(hs:∀fi,P.info? el=some fi→Src P fi.size tx x k I w):Ap P t tx ty el x k I w :=
  ⟨fun fi hi=>(hs fi hi).newsLen,fun fi hi b off J sCap Y U h3=>run_append_room_src w t tx ty el fi ht hi b off J sCap x k I (hs fi hi) Y U h3,
   fun fi z hi hz base J sCap N Y U h3 h4 _=>run_append_grow_src w t tx ty el fi z ht hi hz base J sCap N Y x k I (hs fi hi) U h3 h4⟩
theorem Ap.zeros{P:Program}{t tx ty el:TypeId}{kn kk:IntKind}{k:Nat}{w:World}(ht:P.underlying t=some (.slice el))(U:P.underlying tx=some (.int kn)){fi:TypeInfo}(hi:P.info? el=some fi){z:Value}(hz:fi.zero=some z)(hzs:z.cells.size=fi.size)(h1:∀u∈z.cells.toList,u.oneCell'=true)(hk0:k≠0)(hs0:fi.size≠0)
  (hk:k≤1048576) (hb:k*fi.bytes≤281474976710656):Ap P t tx ty el (.int kk (k:Int)) k (Builtin.zeroCells z.cells k).toList w:=by
 have hlen:(Builtin.zeroCells z.cells k).toList.length=k*fi.size:=by simp[Builtin.zeroCells,hzs]
 have hw:IntKind.i64.wrap (k:Int)=k:=by rw[IntKind.wrap_i64]; omega
 have N:¬((k:Int)<0):=by omega
 have hns:¬(k*fi.size=0):=Nat.mul_ne_zero hk0 hs0;have h48i:¬(281474976710656<(k:Int)*(fi.bytes:Int)):=by
  rw[← Int.natCast_mul];omega
 have hone:∀u∈(Builtin.zeroCells z.cells k).toList,u.oneCell'=true:=fun u hu=>by
  simp only[Builtin.zeroCells,Array.toList_map,List.mem_map,Array.mem_toList_iff,Array.mem_range] at hu;obtain⟨j,hj,rfl⟩:=hu;have hpos:0<z.cells.size:=by omega
  have:j%z.cells.size<z.cells.size:=Nat.mod_lt _ hpos;rw[getElem!_pos z.cells _ this];exact h1 _ (by simp)
 refine⟨fun fi' I=>?_,fun fi' I b off J sCap g1 g2 g3=>?_,fun fi' z' I hz' base J sCap olds g1 g2 g3 g4 g5=>?_⟩
 ·rw[hi] at I; cases I; exact hlen
 ·rw[hi] at I; cases I;have Y:=run_storeCells_cells (P:=P) b (off+J*fi.size) (Builtin.zeroCells z.cells k).toList 0 w (by simpa using g2) (by simpa using g3) hone;simp only[Nat.add_zero] at Y;simp[Builtin.append_,run_underlying ht,run_underlying U,sizeOf,typeInfo,zeroValue,hi,hz,asInt,asIntOf,hw,N,hns,h48i,g1,Addr.add_lit,Y]
 ·rw[hi] at I; cases I;rw[hz] at hz'; cases hz';have hn:¬(J+k≤sCap):=by omega
  have h63':¬(9223372036854775807<((J:Int)+(k:Int))):=by omega
  have h48':¬(281474976710656<Builtin.nextslicecap (J+k) sCap*fi.bytes):=by omega
  simp[Builtin.append_,run_underlying ht,run_underlying U,sizeOf,typeInfo,zeroValue,hi,hz,asInt,asIntOf,hw,N,hns,h63',h48',h48i,hn,Question.forced,g1,newRow,grownCap]
  congr 2
  apply Array.ext';simp[List.append_assoc]
theorem aOI{P:Program}{w0:World}{ρ:Rho}{m:M}{w:World}(hw:W w0 ρ m w){t tx ty el:TypeId}(ht:P.underlying t=some (.slice el)){i:TI}(hel:qX P el i){a o n q xx:Nat}{v:Value}(hv:VR ρ (.sl a o n q xx) v){k:Nat}(hk0:k≠0)(hroom:n+k≤q)
  {x:Value} {I:List Value} (hs:Ap P t tx ty el x k I w) {xs:List V} (J:VRL ρ xs I) (h1:xs.all kD=true) {l:List V} (U:ob m a= .row true l) (Y:o+n*i.n+xs.length≤l.length) :
  ∃u w',(Builtin.append_ #[t,tx] ty #[v,x]).run P w= .ok u w'∧VR ρ (.sl a o (n+k) q xx) u∧W w0 ρ (wr m a (.row true (l.take (o+n*i.n)++xs++l.drop (o+n*i.n+xs.length)))) w':=by
 obtain⟨r,b,N,c',g1,g2,g3,g4,g5,g6,g7⟩:=hv.slice (by omega);obtain⟨fi,z,z1,z2,z3,z4⟩:=hel.zero;have hO:=hw.obj _ _ _ _ g1;rw[U] at hO;obtain⟨a1,a2,a3,a5,a6,a7⟩:=hO;have hl:=J.length;have run:=hs.room fi z1 r (b+o) n c' (by omega) (fun j hj=>by
   have:=a5 (o+n*i.n+j) (by omega);rw[z2]
   rwa [show b+o+n*i.n+j=b+(o+n*i.n+j) from by omega]) (fun j hj=>by
   have:=(a7 rfl).2 (o+n*i.n+j) (by omega);rw[z2]
   rwa [show b+o+n*i.n+j=b+(o+n*i.n+j) from by omega])
 rw[← g2,z2] at run;refine⟨_,_,run,?_,?_⟩
 ·simp only[VR];exact⟨_,c',rfl,hroom,g4,g5,g6,.inr ⟨r,b,N,g1,rfl,g7⟩⟩
 ·have hput:=OR.put (o:=o+n*i.n) ⟨a1,a2,a3,a5,a6,a7⟩ J h1 Y;rw[show b+o+n*i.n=b+(o+n*i.n) from by omega];exact hw.write g1 (by rw[U]; rfl) (.inl rfl) (But.setCells _ _ _ _) (a7 rfl).1 hput
theorem But.grow(w:World)(o:Obj):But w.heap.size w (w.drew.alloc o):=by
 have:=But.alloc w.drew o;exact⟨this.os,this.tape,this.output,this.size,this.block⟩
theorem aLe(I:Nat):∀(r c:Nat),c≤2*I+192→Builtin.growBy I r c≤2*I+192
 | 0,c,h=>h
 | r+1,c,h=>by
  unfold Builtin.growBy;split
  ·exact h
  ·exact aLe I r _ (by omega)
theorem aBH{P:Program}{w0:World}{ρ:Rho}{m:M}{w:World}(hw:W w0 ρ m w)(hn:m.nx<262144){t tx ty el:TypeId}(ht:P.underlying t=some (.slice el)){i:TI}(N:qX P el i)(hz:i.n≠0){base:Option Addr}{n cap:Nat}{olds:List Value}{os:List V}(hos:VRL ρ os olds)(ho1:os.all kD=true)(hol:olds.length=n*i.n)
  (U:(Builtin.firstCells i.n n (.slice base n cap)).run P w.drew= .ok olds.toArray w.drew) {k:Nat} {x:Value} {I:List Value} (hs:Ap P t tx ty el x k I w) {xs:List V} (hxs:VRL ρ xs I) (h1:xs.all kD=true)
  (hg:cap<n+k) (hfit:(n+k)*i.by'≤1099511627776) (hmax:n+k≤1099511627776) :
  ∃u w' ρ',(Builtin.append_ #[t,tx] ty #[.slice base n cap,x]).run P w= .ok u w'∧VR ρ' (.sl m.nx 0 (n+k) (n+k) i.n) u∧W w0 ρ' (nw m (.row true (os++xs))) w'∧ρ.le ρ'∧ ∀j,ρ j=none→j<m.nx→ρ' j=none:=by
 obtain⟨fi,i1,i2,i3,z,i4,_,_,i5⟩:=N.info;have hnext:Builtin.nextslicecap (n+k) cap≤2*(n+k)+192:=by
  unfold Builtin.nextslicecap;split
  ·omega
  ·split
   ·omega
   ·exact aLe _ _ _ (by omega)
 have J:Builtin.nextslicecap (n+k) cap*fi.bytes≤281474976710656:=by
  rw[i3];have hb:i.by'≤(n+k)*i.by':=Nat.le_mul_of_pos_left _ (by omega);have h2:Builtin.nextslicecap (n+k) cap*i.by'≤(2*(n+k)+192)*i.by':=Nat.mul_le_mul_right _ hnext;have h3:(2*(n+k)+192)*i.by'=2*((n+k)*i.by')+192*i.by':=by rw[Nat.add_mul,Nat.mul_assoc]
  omega
 have hkb:k*i.by'≤281474976710656:=by have:=Nat.mul_le_mul_right i.by' (Nat.le_add_left k n); omega
 have run:=hs.grow fi z i1 i4 base n cap olds (by rw[i2]; exact U) hg (by omega) J (by rw[i3]; exact hkb);have hge:=grownCap_ge w (n+k) cap el;have hle:=grownCap_le_maxLen w (n+k) cap el (by simp only[maxLen]; omega);obtain⟨hf,hnone⟩:=hw.fresh hn (.row true (os++xs));have hzs:z.cells.size=i.n:=by
  have:=(i5 ρ).length;rw[N.zone.2] at this
  simpa using this
 have hN:((olds++I).toArray++Builtin.zeroCells z.cells (grownCap w (n+k) cap el-(n+k))).size=grownCap w (n+k) cap el*i.n:=by
  have Y:=hs.len fi i1;rw[i2] at Y;simp only[Array.size_append,List.size_toArray,List.length_append,hol,Y,Builtin.zeroCells,Array.size_map,Array.size_range,hzs];rw[← Nat.add_mul,← Nat.add_mul]
  congr 1; omega
 refine⟨_,_,ext ρ m.nx (w.heap.size,0,grownCap w (n+k) cap el*i.n),run,?_,?_,sH hnone,fun j hj hlt=>by simp only[ext,if_neg (Nat.ne_of_lt hlt)]; exact hj⟩
 ·simp only[VR];exact⟨_,_,rfl,Nat.le_refl _,hge,hle,fun e=>absurd e hz,.inr ⟨w.heap.size,0,_,wN,rfl,fun _=>by omega⟩⟩
 ·refine hf.told (But.grow w _) hnone (Nat.lt_succ_self _) (Nat.le_refl _) ?_;rw[aOq,← hN];have:=OR.made (w0:=w0) (ρ:=ext ρ m.nx (w.heap.size,0,grownCap w (n+k) cap el*i.n)) (w:=w.drew) (cs:=(olds++I).toArray++Builtin.zeroCells z.cells (grownCap w (n+k) cap el-(n+k))) (el:=el) (l:=os++xs) (xs:=olds++I) (post:=(Builtin.zeroCells z.cells (grownCap w (n+k) cap el-(n+k))).toList) hw.keeps.size (by simp) ((hos.append hxs).mono (sH hnone)) (by simp[List.all_append,ho1,h1]);rw[hN] at this ⊢;exact this
theorem W.retold{w0:World}{ρ:Rho}{m:M}{w:World}(h:W w0 ρ m w){k:Nat}(hk:ρ k=none)(hkn:k<m.nx){r b N:Nat}(hd:∀a b' N',ρ a=some (r,b',N')→ob m a= .dead)(ho:OR w0 (ext ρ k (r,b,N)) w r b N (ob m k)):W w0 (ext ρ k (r,b,N)) m w:=by
 have hle:=sH (x:=(r,b,N)) hk;refine⟨h.keeps,fun a r' b' N' I=>?_,fun a x I=>?_,h.nx,fun a a' r1 b1 N1 b2 N2 U J hs Y=>?_⟩
 ·by_cases e:a=k
  ·subst e;rw[wN] at I;cases I;exact ho
  ·simp only[ext,if_neg e] at I;exact(h.obj a r' b' N' I).keep hle rfl
 ·by_cases e:a=k
  ·rw[e]; exact hkn
  ·simp only[ext,if_neg e] at I;exact h.dom a x I
 ·by_cases e1:a=k<;>by_cases e2:a'=k
  ·rw[e1,e2]
  ·exfalso;rw[e1,wN] at U;cases U;simp only[ext,if_neg e2] at J;exact Y (hd a' _ _ J)
  ·exfalso;rw[e2,wN] at J;cases J;simp only[ext,if_neg e1] at U;have:=hd a _ _ U;rw[this] at hs;cases hs
  ·simp only[ext,if_neg e1] at U;simp only[ext,if_neg e2] at J;exact h.inj a a' r1 b1 N1 b2 N2 U J hs Y
theorem aQv{P:Program}{w0:World}{ρ:Rho}{m:M}{w:World}(hw:W w0 ρ m w)(hn:m.nx<262144){t tx ty el:TypeId}(ht:P.underlying t=some (.slice el)){i:TI}(hel:qX P el i)(hz:i.n≠0){a o n q:Nat}{v:Value}(hv:VR ρ (.sl a o n q i.n) v)(hq:q≠0){l:List V}(U:ob m a= .row true l)(hol:n=0∨o+n*i.n≤l.length)
  {k:Nat} {x:Value} {I:List Value} (hs:Ap P t tx ty el x k I w) {xs:List V} (hxs:VRL ρ xs I) (h1:xs.all kD=true) (hg:q<n+k) (hfit:(n+k)*i.by'≤1099511627776) (hmax:n+k≤1099511627776) :
  ∃u w' ρ',(Builtin.append_ #[t,tx] ty #[v,x]).run P w= .ok u w'∧VR ρ' (.sl m.nx 0 (n+k) (n+k) i.n) u∧W w0 ρ' (nw (wr m a .dead) (.row true ((l.drop o).take (n*i.n)++xs))) w'∧ρ.le ρ'∧ ∀j,ρ j=none→j<m.nx→ρ' j=none:=by
 obtain⟨r,b,N,c',g1,g2,g3,g4,g5,g6,g7⟩:=hv.slice (by omega);have g7:=g7 hz;have hO:=hw.obj _ _ _ _ g1;rw[U] at hO;obtain⟨a1,a2,⟨ys,a3,a4⟩,a5,a6,a7⟩:=hO;have hyl:=a3.length;have hxl:=hxs.length;have hnl:I.length=k*i.n:=by
  obtain⟨fi,i1,i2,_⟩:=hel.info;rw[← i2]; exact hs.len fi i1
 have o1:=(a3.drop o).take (n*i.n);have o2:=aFv a1 o (n*i.n);have ol:((ys.drop o).take (n*i.n)).length=n*i.n:=by
  rcases hol with rfl|hol
  ·simp
  ·simp; omega
 by_cases hc:c'<n+k
 ·have hwd:W w0 ρ (wr m a .dead) w:=hw.write g1 (by rw[U]; rfl) (.inr rfl) (But.refl r w) (a7 rfl).1 trivial;have hold:(Builtin.firstCells i.n n (.slice (some ⟨r,b+o,none⟩) n c')).run P w.drew= .ok ((ys.drop o).take (n*i.n)).toArray w.drew:=by
   have h2:=run_loadCells_list (P:=P) w.drew ⟨r,b+o,none⟩ ((ys.drop o).take (n*i.n)) (fun j u J=>(wP (w:=w) a4 j u J));rw[ol] at h2;exact h2
  have:=aBH (ty:=ty) hwd hn ht hel hz o1 o2 ol hold hs hxs h1 hc hfit hmax;rw[g2];exact this
 ·obtain⟨fi,z,z1,z2,z3,z4⟩:=hel.zero;have hsum:n*i.n+k*i.n≤c'*i.n:=by rw[← Nat.add_mul]; exact Nat.mul_le_mul_right _ (by omega)
  have there:∀j,j<I.length→o+n*i.n+j<N:=fun j J=>by omega
  have run:=hs.room fi z1 r (b+o) n c' (by omega) (fun j J=>by
    have:=a5 (o+n*i.n+j) (there j J);rw[z2]
    rwa [show b+o+n*i.n+j=b+(o+n*i.n+j) from by omega]) (fun j J=>by
    have:=(a7 rfl).2 (o+n*i.n+j) (there j J);rw[z2]
    rwa [show b+o+n*i.n+j=b+(o+n*i.n+j) from by omega])
  rw[← g2,z2] at run;have hwd:W w0 ρ (wr m a .dead) (w.setCells r (b+o+n*i.n) I):=hw.write g1 (by rw[U]; rfl) (.inr rfl) (But.setCells _ _ _ _) (a7 rfl).1 trivial;obtain⟨hf,hnone⟩:=hwd.fresh hn (.row true ((l.drop o).take (n*i.n)++xs));refine⟨_,_,ext ρ m.nx (r,b+o,N-o),run,?_,?_,sH hnone,fun j J hlt=>by simp only[ext,if_neg (Nat.ne_of_lt hlt)]; exact J⟩
  ·simp only[VR];exact⟨_,c',rfl,Nat.le_refl _,by omega,g5,fun e=>absurd e hz,.inr ⟨r,b+o,N-o,wN,rfl,fun _=>by omega⟩⟩
  ·refine hf.retold hnone (Nat.lt_succ_self _) (fun a' b' N' ha'=>?_) ?_
   ·have hlt':=hwd.dom a' _ ha';have hlt':a'<m.nx:=hlt';have hnx:=hw.nx;rw[aOr (wr m a .dead) (b:=a') _ hn (by omega) (by show m.nx≠a'; omega)];by_cases e:a'=a
    ·rw[e,aZh]
    ·by_cases hdd:ob m a'= .dead
     ·have hla:=hw.dom a _ g1;rw[aOp m _ (by omega) (by omega) (Ne.symm e)]; exact hdd
     ·exact absurd (hw.inj a a' r b N b' N' g1 ha' (by rw[U]; rfl) hdd).symm e
   ·have hob2:ob (nw (wr m a .dead) (.row true ((l.drop o).take (n*i.n)++xs))) (wr m a .dead).nx= .row true ((l.drop o).take (n*i.n)++xs):=aOq (wr m a .dead) _;rw[hob2];refine⟨by simp[List.all_append,o2,h1],?_,⟨_,(o1.append hxs).mono (sH hnone),fun j u J=>?_⟩,fun j J=>?_,wQ _ _ _ _ a6,fun _=>⟨(a7 rfl).1,fun j J=>?_⟩⟩
    ·simp; omega
    ·by_cases hjn:j<n*i.n
     ·rw[World.cell?_setCells_out _ _ _ _ _ (fun _ _=>.inl (by show b+o+j<b+o+n*i.n; omega))];rw[List.getElem?_append_left (by omega)] at J;rw[List.getElem?_take,if_pos hjn,List.getElem?_drop] at J;have:=a4 _ _ J
      rwa [← Nat.add_assoc] at this
     ·rw[List.getElem?_append_right (by omega),ol] at J;have hjl:=(List.getElem?_eq_some_iff.1 J).1;have Y:=World.cell?_setCells_in r I (b+o+n*i.n) w (fun t ht=>by
       have:=a5 (o+n*i.n+t) (there t ht)
       rwa [show b+(o+n*i.n+t)=b+o+n*i.n+t from by omega] at this) (j-n*i.n) hjl
      rw[show b+o+n*i.n+(j-n*i.n)=b+o+j from by omega] at Y;rw[Y,← J,List.getElem?_eq_getElem hjl]
    ·have h5:=a5 (o+j) (by omega);rw[← Nat.add_assoc] at h5;by_cases Y:b+o+j<b+o+n*i.n∨b+o+n*i.n+I.length≤b+o+j
     ·rw[World.cell?_setCells_out _ _ _ _ _ (fun _ _=>Y)]; exact h5
     ·have hin2:=World.cell?_setCells_in r I (b+o+n*i.n) w (fun t ht=>by
       have:=a5 (o+n*i.n+t) (there t ht)
       rwa [show b+(o+n*i.n+t)=b+o+n*i.n+t from by omega] at this) (j-n*i.n) (by omega)
      rw[show b+o+n*i.n+(j-n*i.n)=b+o+j from by omega] at hin2;rw[hin2]; rfl
    ·rw[World.frozen?_setCells];have:=(a7 rfl).2 (o+j) (by omega)
     rwa [← Nat.add_assoc] at this
end
end Go.It
namespace Go.It
noncomputable section
open Go.RowKit
open Go.Vc (bG aY)
theorem aYi{P:Program}{t tx ty el:TypeId}(ht:P.underlying t=some (.slice el)){i:TI}(hel:qX P el i){s:V}{k:Nat}{xs:List V}{m:M}{c:V→M→Bool}(h:aVn i.n i.by' s k xs m c=true) :
  ∃v m',c v m'=true∧m.nx≤m'.nx∧ ∀ {w0:World} {ρ:Rho} {w:World} {sv x:Value},W w0 ρ m w→VR ρ s sv→(k≠0→i.n≠0→ ∃I,VRL ρ xs I∧xs.all kD=true∧Ap P t tx ty el x k I w) →
   (k=0→ ∀base n cp,n≤cp→(Builtin.append_ #[t,tx] ty #[.slice base n cp,x]).run P w= .ok (.slice base n cp) w) →
   ∃u w' ρ',(Builtin.append_ #[t,tx] ty #[sv,x]).run P w= .ok u w'∧VR ρ' v u∧W w0 ρ' m' w'∧ρ.le ρ'∧ ∀j,ρ j=none→j<m.nx→ρ' j=none:=by
 unfold aVn at h;cases hk:Nat.beq k 0
 ·have N:k≠0:=fun e=>by rw[e] at hk; cases hk
  simp only[hk,aT] at h;cases hz:Nat.beq i.n 0
  ·have J:i.n≠0:=fun e=>(by rw[e] at hz; cases hz);simp only[hz,aT] at h;split at h<;>first|(cases h; done)|skip
   ·obtain⟨Y,h2⟩:=cA h;obtain⟨h3,U⟩:=cA h2;obtain⟨h5,h6⟩:=sS U;have Y:k*i.by'≤1099511627776:=Nat.le_of_ble_eq_true Y;have h3:k≤1099511627776:=Nat.le_of_ble_eq_true h3;refine⟨_,_,h6,Nat.le_succ _,fun {w0 ρ w sv x} hw hv hA _=>?_⟩;simp only[VR,zR] at hv;subst hv;obtain⟨I,n1,n2,n3⟩:=hA N J;obtain⟨u,w',ρ',a1,a2,a3,a4,a5⟩:=aBH (os:=[]) (olds:=[]) (n:=0) (cap:=0) (base:=none) hw h5 ht hel J (by simp[VRL]) rfl (by simp) (by simp[Builtin.firstCells]) n3 n1 n2 (by omega) (by rw[Nat.zero_add]; exact Y) (by omega);rw[Nat.zero_add] at a2;exact⟨u,w',ρ',a1,a2,by simpa using a3,a4,a5⟩
   ·rename_i a o n q xx;cases hr:Nat.ble (Nat.add n k) q
    ·simp only[hr,aT] at h;have hr:q<n+k:=by
      have:¬(n+k≤q):=fun e=>(by rw[show Nat.ble (Nat.add n k) q=true from Nat.ble_eq_true_of_le e] at hr; cases hr);omega
     obtain⟨Y,h2⟩:=cA h;obtain⟨h3,U⟩:=cA h2;have Y:(n+k)*i.by'≤1099511627776:=Nat.le_of_ble_eq_true Y;have h3:n+k≤1099511627776:=Nat.le_of_ble_eq_true h3;cases hx:Nat.beq xx 0
     ·simp only[hx,aT] at U;have key:∃l,(n=0∨ ∃wr r,ob m a= .row wr r∧o+n*i.n≤r.length∧l=(r.drop o).take (n*i.n))∧(n=0→l= [])∧(bi (Nat.beq q 0) false (bi (Nat.beq xx i.n) (rdO a m fun ob=>aOl ob fun w _=>bi w (wrO a .dead m fun m=>aFm (.row true (l++xs)) m fun b m=>c (.sl b 0 (Nat.add n k) (Nat.add n k) i.n) m) false) false))=true:=by
       unfold elems at U;simp only at U;cases hn:Nat.beq n 0
       ·simp only[hn,aT,aGj,pB] at U;obtain⟨wr,r,g1,g2⟩:=sR U;obtain⟨g3,g4⟩:=yS g2;obtain⟨g5,g6⟩:=wM g4;rw[aHJ] at g6;have hn0:n≠0:=fun e=>(by rw[e] at hn; cases hn);refine⟨_,.inr ⟨wr,r,g1,?_,rfl⟩,fun e=>absurd e hn0,?_⟩
        ·rw[List.length_drop] at g5;have g5:n*i.n≤r.length-o:=g5;have:=Nat.mul_ne_zero hn0 J;omega
        ·simp only[pB]; exact g6
       ·simp only[hn,aS] at U;rw[aHJ] at U;exact⟨[],.inl (Nat.eq_of_beq_eq_true hn),fun _=>rfl,U⟩
      obtain⟨l,k1,k1',k2⟩:=key;cases hq:Nat.beq q 0
      ·simp only[hq,aT] at k2;obtain⟨h5,h6⟩:=cA k2;have h5:xx=i.n:=Nat.eq_of_beq_eq_true h5;subst h5;rw[pB] at h6;obtain⟨wr',r,h7,h8⟩:=sR h6;obtain⟨h9,h10⟩:=cA h8;rw[h9] at h7;rw[aFr] at h10;obtain⟨h11,h12⟩:=sS h10;have hq0:q≠0:=fun e=>(by rw[e] at hq; cases hq);have hl:l=(r.drop o).take (n*i.n)∧(n=0∨o+n*i.n≤r.length):=by
        rcases k1 with e|⟨_,r',e1,e2,e3⟩
        ·exact⟨by rw[k1' e,e]; simp,.inl e⟩
        ·rw[h7] at e1;cases e1;exact⟨e3,.inr e2⟩
       refine⟨_,_,h12,Nat.le_succ _,fun {w0 ρ w sv x} hw hv hA _=>?_⟩;obtain⟨I,n1,n2,n3⟩:=hA N J;obtain⟨u,w',ρ',a1,a2,a3,a4,a5⟩:=aQv hw h11 ht hel J hv hq0 h7 hl.2 n3 n1 n2 hr Y h3;rw[← hl.1] at a3;exact⟨u,w',ρ',a1,a2,a3,a4,a5⟩
      ·simp only[hq,aS] at k2;cases k2
     ·simp only[hx,aS] at U;have hx0:xx=0:=Nat.eq_of_beq_eq_true hx;subst hx0;have h4':aIJ i.n (.sl a o n q 0) m (fun _ l=>aVj l xs fun l=>aFm (.row true l) m fun b m=>c (.sl b 0 (Nat.add n k) (Nat.add n k) i.n) m)=true:=U;obtain⟨k',l,g1,g2⟩:=aFz (P:=P) h4';rw[aHJ] at g1;obtain⟨h5,h6⟩:=sS g1;refine⟨_,_,h6,Nat.le_succ _,fun {w0 ρ w sv x} hw hv hA _=>?_⟩;have L:=g2 hw hv;have hv0:=hv;simp only[VR] at hv;obtain⟨adr,c',rfl,v2,v3,v4,v5,v6⟩:=hv;obtain rfl:k'=n:=by
       have:=L.len w;have e2:(Builtin.lenOf (.slice (some adr) n c')).run P w= .ok n w:=rfl;rw[e2] at this
       simpa using this.symm
      obtain⟨ns,o1,o2,o3,o4⟩:=L.cells;have ho:=(o4 k' (Nat.le_refl _)).2;rw[List.take_of_length_le (by omega)] at ho;obtain⟨I,n1,n2,n3⟩:=hA N J;have hc':=v5 trivial;obtain⟨u,w',ρ',a1,a2,a3,a4,a5⟩:=aBH hw h5 ht hel J o1 o2 o3 ho n3 n1 n2 (by omega) Y h3;exact⟨u,w',ρ',a1,a2,a3,a4,a5⟩
    ·simp only[hr,aS,pB] at h;have hr:n+k≤q:=Nat.le_of_ble_eq_true hr;obtain⟨wr',r,h7,h8⟩:=sR h;obtain⟨h9,h10⟩:=cA h8;rw[h9] at h7;obtain⟨h11,h12⟩:=aCp h10;rw[aFr] at h12;refine⟨_,_,h12,Nat.le_refl _,fun {w0 ρ w sv x} hw hv hA _=>?_⟩;obtain⟨I,n1,n2,n3⟩:=hA N J;obtain⟨u,w',a1,a2,a3⟩:=aOI hw ht hel hv N hr n3 n1 n2 h7 h11;exact⟨u,w',ρ,a1,a2,a3,.refl _,fun j hj _=>hj⟩
  ·simp only[hz,aS] at h;cases h
 ·simp only[hk,aS] at h;have N:k=0:=Nat.eq_of_beq_eq_true hk;obtain⟨Y,h2⟩:=cA h;refine⟨_,_,h2,Nat.le_refl _,fun {w0 ρ w sv x} hw hv _ h0=>?_⟩;unfold bA9 at Y;split at Y<;>first|(cases Y; done)|skip
  ·have hv':=hv;simp only[VR,zR] at hv;subst hv;exact⟨_,w,ρ,h0 N _ _ _ (Nat.le_refl _),hv',hw,.refl _,fun j hj _=>hj⟩
  ·have hv':=hv;simp only[VR] at hv;obtain⟨adr,c',rfl,v2,v3,_⟩:=hv;exact⟨_,w,ρ,h0 N _ _ _ (by omega),hv',hw,.refl _,fun j hj _=>hj⟩
section
variable {P:Program} {q:Cx} {e:q.ε} {m:M} {c:V→M→Bool} {f:OpF q} {dst:Option Tmp} {ty:TypeId} {pos:String} {aft:Array Edge} {gd:Option (Nat×Bool)}
theorem aQw{P:Program}{I:Array TypeId}{t tx ty:TypeId}(N:I[0]? = some t)(J:I[1]? = some tx)(args:Array Value):Builtin.append_ I ty args=Builtin.append_ #[t,tx] ty args:=by
 unfold Builtin.append_;simp only[N,J];rfl
theorem aTC(hq:dU q)(hE:fA P q.E){x y:Operand}{Y:Array TypeId}{t:TypeId}{tl:List TypeId}(hats:Y.toList=t::tl)(hf:kC q .append ty [x,y] (t::tl)= .mk f)(h:f e m c=true):OpR P q ⟨dst,.call ⟨.builtin .append,#[x,y],Y⟩,ty,pos,aft,gd⟩ e m c:=by
 unfold kC at hf;simp only at hf;split at hf
 ·rename_i el hk;have ht0:Y[0]? = some t:=by rw[← Array.getElem?_toList,hats]; rfl
  obtain⟨dm,hdm,hkr⟩:=(dI hE hk (by simp)).desc;rw[hk] at hkr;simp only[kR] at hkr;subst hkr;cases hn:(kn q.E el&&aVo q (List.drop 1 (t::tl)))
  ·simp only[hn,aT] at hf;exact(aU hf h).elim
  ·simp only[hn,aS,aV] at hf;simp only[Bool.and_eq_true] at hn;obtain⟨hn1,N⟩:=hn;have U:=pC hE hn1
   match tl,hats,N,hf with
   | [],_,N,_=>cases N
   | tx::tl,hats,N,hf =>
    have ht1:Y[1]? = some tx:=(by rw[← Array.getElem?_toList,hats]; rfl);have exe:∀ {ev:Operand→Value} {w w':World} {v:Value},(Builtin.append_ #[t,tx] ty #[ev x,ev y]).run P w= .ok v w'→(execOp ev ⟨dst,.call ⟨.builtin .append,#[x,y],Y⟩,ty,pos,aft,gd⟩).run P w= .ok (.value v) w':=fun hv=>by
     rw[← aQw (P:=P) ht0 ht1] at hv;simp[execOp,resolve,invoke,builtin,hv]
    have fin:∀ {k:Nat} {xs:List V},aVn (ti q.E el).n (ti q.E el).by' (evD q e x) k xs m c=true→(∀ {w0:World} {ρ:Rho} {ac:Act} {w:World},Sv q w0 ρ e m ac w (Op.call ⟨.builtin .append,#[x,y],Y⟩).operands →
      (k≠0→(ti q.E el).n≠0→ ∃news,VRL ρ xs news∧xs.all kD=true∧Ap P t tx ty el (ac.eval y) k news w) ∧
      (k=0→ ∀base n cp,n≤cp→(Builtin.append_ #[t,tx] ty #[.slice base n cp,ac.eval y]).run P w= .ok (.slice base n cp) w))→OpR P q ⟨dst,.call ⟨.builtin .append,#[x,y],Y⟩,ty,pos,aft,gd⟩ e m c:=fun {k xs} ha hs=>by
     obtain⟨v,m',h1,h2,h3⟩:=aYi (tx:=tx) (ty:=ty) hdm U ha;refine .c v m' rfl h1 ⟨h2,fun w0 ρ ac w hsv=>?_⟩;obtain⟨s1,s2⟩:=hs hsv;obtain⟨u,w',ρ',a1,a2,a3,a4,a5⟩:=h3 hsv.w (hsv.ev x (by simp[Op.operands,Call.operands])) s1 s2;exact⟨_,u,w',ρ',exe a1,.inl rfl,a3,a2,a4,a5⟩
    have hdrop:List.drop 1 (t::tx::tl)=tx::tl:=rfl;rw[hdrop] at hf N;cases J:aMa q (tx::tl)
    ·simp only[J,aT] at hf;have h2:=mM hq hf h;obtain⟨k,xs,h3,hL⟩:=aFz (P:=P) h2;have hkind:(∃e',P.underlying tx=some (.slice e'))∨P.underlying tx=some .string:=by
      unfold aMa at J;unfold aVo at N;simp only at J N;cases I:(ti q.E tx).k<;>rw[I] at J N<;>simp only at J N<;>first|(cases J; done)|(cases N; done)|skip
      ·obtain⟨d,hd,hr⟩:=(dI hE I (by simp)).desc;rw[I] at hr;simp only[kR] at hr;subst hr;exact .inr hd
      ·obtain⟨d,hd,hr⟩:=(dI hE I (by simp)).desc;rw[I] at hr;simp only[kR] at hr;subst hr;exact .inl ⟨_,hd⟩
     obtain⟨fi,i1,i2,_⟩:=U.info;refine fin h3 fun {w0 ρ ac w} hs=>?_;have L:=hL hs.w (hs.ev y (by simp[Op.operands,Call.operands]));obtain⟨news,n1,n2,n3⟩:=L.src hkind;refine⟨fun _ _=>⟨news,n1,n2,Ap.src hdm fun fi' hi'=>?_⟩,fun hk0 base n cp hcp=>?_⟩
     ·rw[i1] at hi'; cases hi';rw[i2]; exact n3
     ·subst hk0;have hlen:=L.len;obtain⟨ns,o1,o2,o3,o4⟩:=L.cells;have ho:=(o4 0 (Nat.zero_le _)).1;simp only[Nat.zero_mul,List.take_zero] at ho;rcases hkind with⟨e',I⟩|I<;>cases base<;>simp[Builtin.append_,run_underlying hdm,run_underlying I,U.size,hlen,hcp,ho,storeCells]
    ·simp only[J,aS] at hf;have h2:=mM hq hf h;obtain⟨k,h3,hv⟩:=wO h2;obtain⟨h4,h5⟩:=cA h3;simp only[Bool.and_eq_true] at h4;obtain⟨h6,h7⟩:=h4;have h6:k≤1048576:=Nat.le_of_ble_eq_true h6;have h7:k*(ti q.E el).by'≤1099511627776:=Nat.le_of_ble_eq_true h7;have hkind:∃kn,P.underlying tx=some (.int kn):=by
      unfold aMa at J;simp only at J;cases I:(ti q.E tx).k<;>rw[I] at J<;>simp only at J<;>first|(cases J; done)|skip
      obtain⟨d,hd,hr⟩:=(dI hE I (by simp)).desc;rw[I] at hr;simp only[kR] at hr;subst hr;exact⟨_,hd⟩
     obtain⟨kn,htx⟩:=hkind;obtain⟨fi,i1,i2,i3,z,i4,i5,i6,i7⟩:=U.info;refine fin h5 fun {w0 ρ ac w} hs=>?_;obtain⟨kk,hy,_⟩:=hv ρ _ (hs.ev y (by simp[Op.operands,Call.operands]));rw[hy];have hzl:z.cells.size=fi.size:=by
      have:=(i7 ρ).length;rw[U.zone.2,← i2] at this
      simpa using this
     refine⟨fun hk0 hz0=>⟨(Builtin.zeroCells z.cells k).toList,?_,aBG U.zone.1 k,Ap.zeros hdm htx i1 i4 hzl ((i7 ρ).one U.zone.1) hk0 (by rw[i2]; exact hz0) h6 (by rw[i3]; omega)⟩,fun hk0 base n cp hcp=>?_⟩
     ·have:=(i7 ρ).made k;rw[U.zone.2,← i2,← hzl] at this;exact this
     ·subst hk0;have hw:IntKind.i64.wrap 0=0:=(by decide);cases base<;>simp[Builtin.append_,run_underlying hdm,run_underlying htx,U.size,sizeOf,typeInfo,i1,asInt,asIntOf,hw,hcp,storeCells]
 ·exact(aU hf h).elim
end
end
end Go.It
namespace Go.It
noncomputable section
open Go.RowKit
open Go.Vc (bG aY)
section
variable {P:Program} {q:Cx} {e:q.ε} {m:M} {c:V→M→Bool} {f:OpF q} {dst:Option Tmp} {ty:TypeId} {pos:String} {aft:Array Edge} {gd:Option (Nat×Bool)}
theorem aYj(hq:dU q)(Y:fA P q.E){s d:TypeId}{x:Operand}(U:lX q ⟨dst,.convert s d x,ty,pos,aft,gd⟩= .mk f)(h:f e m c=true):OpR P q ⟨dst,.convert s d x,ty,pos,aft,gd⟩ e m c:=by
 have N:wL q s d x= .mk f:=U;unfold wL at N;split at N
 ·rename_i J I; exact aOD hq Y J I U h
 ·rename_i J I; exact aOE hq Y J I U h
 ·rename_i J I; exact aGU hq Y J I U h
 ·rename_i J I; exact aJ8 hq Y J I U h
 ·exact(aU N h).elim
theorem bBj(hq:dU q)(hE:fA P q.E)(w00:World){b:Builtin}{args:List Operand}{J:Array TypeId}(I:kC q b ty args J.toList= .mk f)(h:f e m c=true):OpR P q ⟨dst,.call ⟨.builtin b,args.toArray,J⟩,ty,pos,aft,gd⟩ e m c:=by
 have nob:∀ {F:Box (OpF q)},F=bad→F= .mk f→OpR P q ⟨dst,.call ⟨.builtin b,args.toArray,J⟩,ty,pos,aft,gd⟩ e m c:=fun N h2=>(aU (N▸h2) h).elim;have U:∀ {t:TypeId} {Y:List TypeId},J.toList=t::Y→J[0]? = some t:=fun h=>by rw[← Array.getElem?_toList,h]; rfl
 cases b
 case len =>
  match args,N:J.toList,I with
  | [x],t::Y,I=>exact bAg hq hE (U N) rfl (by simpa [kC] using I) h
  | [],_,I=>exact(aU (by simpa [kC] using I) h).elim
  | [x],[],I=>exact(aU (by simpa [kC] using I) h).elim
  | x::y::l,_,I=>exact(aU (by simpa [kC] using I) h).elim
 case cap =>
  match args,N:J.toList,I with
  | [x],t::Y,I=>exact bAh hq hE (U N) (by simpa [kC] using I) h
  | [],_,I=>exact(aU (by simpa [kC] using I) h).elim
  | [x],[],I=>exact(aU (by simpa [kC] using I) h).elim
  | x::y::l,_,I=>exact(aU (by simpa [kC] using I) h).elim
 case append =>
  match args,N:J.toList,I with
  | [x,y],t::Y,I=>exact aTC hq hE N I h
  | [x,y],[],I=>exact(aU (by simpa [kC] using I) h).elim
  | [],_,I=>exact(aU (by simpa [kC] using I) h).elim
  | [x],_,I=>exact(aU (by simpa [kC] using I) h).elim
  | x::y::z::l,_,I=>exact(aU (by simpa [kC] using I) h).elim
 case copy =>
  match args,N:J.toList,I with
  | [x,y],t::Y,I=>exact aYh hq hE (U N) I h
  | [x,y],[],I=>exact(aU (by simpa [kC] using I) h).elim
  | [],_,I=>exact(aU (by simpa [kC] using I) h).elim
  | [x],_,I=>exact(aU (by simpa [kC] using I) h).elim
  | x::y::z::l,_,I=>exact(aU (by simpa [kC] using I) h).elim
 case clear =>
  match args,N:J.toList,I with
  | [x],t::Y,I=>exact aV0 hq hE (U N) I h
  | [x],[],I=>exact(aU (by simpa [kC] using I) h).elim
  | [],_,I=>exact(aU (by simpa [kC] using I) h).elim
  | x::y::l,_,I=>exact(aU (by simpa [kC] using I) h).elim
 case min =>
  match args,I with
  | [x,y],I=>exact bAi hq w00 I h
  | [],I=>exact(aU (by simpa [kC] using I) h).elim
  | [x],I=>exact(aU (by simpa [kC] using I) h).elim
  | x::y::z::l,I=>exact(aU (by simpa [kC] using I) h).elim
 case max =>
  match args,I with
  | [x,y],I=>exact bAj hq w00 I h
  | [],I=>exact(aU (by simpa [kC] using I) h).elim
  | [x],I=>exact(aU (by simpa [kC] using I) h).elim
  | x::y::z::l,I=>exact(aU (by simpa [kC] using I) h).elim
 all_goals exact(aU (by simpa [kC] using I) h).elim
theorem aV1(hq:dU q)(J:fA P q.E)(N:World){o:Oper}(Y:kd o= .op)(I:lX q o= .mk f)(h:f e m c=true):OpR P q o e m c:=by
 obtain⟨dst,op,ty,pos,aft,gd⟩:=o;cases op
 case move=>exact aX6 hq I h
 case assign=>exact aTu hq I h
 case pick=>exact aX7 hq I h
 case alloc=>exact aVY hq J I h
 case box=>exact bAl hq J I h
 case build=>exact aVU hq J I h
 case buildSlice=>exact aJ9 hq J I h
 case insert=>exact aLd hq J (.inl rfl) I h
 case mapUpdate=>exact aLd hq J (.inr rfl) I h
 case load=>exact aYe hq J I h
 case store=>exact aVZ hq J I h
 case nilCheck=>exact bAc hq I h
 case binOp=>exact bAf hq J I h
 case unOp=>exact bBi hq I h
 case convert=>exact aYj hq J I h
 case makeInterface=>exact bAb hq J I h
 case makeFunc fn fs cs=>cases fn<;>first|exact bBg hq I h|exact(aU I h).elim
 case makeMap t r=>cases r<;>first|exact aQu hq I h|exact aOG hq J I h
 case makeSlice=>exact aMs hq J I h
 case slice=>exact aVT hq J I h
 case fieldAddr=>exact aVP hq J I h
 case field=>exact aVO hq J I h
 case indexAddr=>exact aVQ hq J I h
 case index=>exact aVR hq J I h
 case lookup=>exact aTA hq J I h
 case typeAssert=>exact aTy hq J I h
 case extract=>exact aQp hq I h
 case call c =>
  obtain⟨cl,args,U⟩:=c;cases cl
  case builtin b=>exact bBj hq J N (args:=args.toList) I h
  all_goals exact(aU I h).elim
 case defer c =>
  obtain⟨cl,args,U⟩:=c;cases cl<;>exact(aU I h).elim
 all_goals exact(aU I h).elim
def Ext(m:M)(ρ ρ':Rho):Prop:=ρ.le ρ'∧ ∀k,ρ k=none→k<m.nx→ρ' k=none
theorem Ext.refl(m:M)(ρ:Rho):Ext m ρ ρ:=⟨.refl _,fun _ h _=>h⟩
theorem Ext.trans{m m':M}{a b c:Rho}(h:Ext m a b)(J:m.nx≤m'.nx)(k:Ext m' b c):Ext m a c :=
 ⟨h.1.trans k.1,fun i hi I=>k.2 i (h.2 i hi I) (Nat.lt_of_lt_of_le I J)⟩
theorem OpR.step{o:Oper}(h:OpR P q o e m c):∃v m',c v m'=true∧m.nx≤m'.nx∧ ∀(w0:World) (ρ:Rho) (a:Act) (w:World),Sv q w0 ρ e m a w o.op.operands →
  ∃r x w' ρ',(execOp a.eval o).run P w= .ok r w'∧(r= .value x∨r= .skip∧x=Go.undef)∧W w0 ρ' m' w'∧VR ρ' v x∧Ext m ρ ρ':=by
 cases h with
 | a0 v Y hc h=>exact⟨v,m,hc,Nat.le_refl _,fun w0 ρ a w I=>by obtain⟨x,U,J⟩:=h m w0 ρ a w I; exact⟨_,x,w,ρ,U,.inl rfl,I.w,J,.refl _ _⟩⟩
 | a1 v Y hc h=>exact⟨v,m,hc,Nat.le_refl _,fun w0 ρ a w I=>by obtain⟨x,U,J⟩:=h w0 ρ a w I; exact⟨_,x,w,ρ,U,.inl rfl,I.w,J,.refl _ _⟩⟩
 | b mkv b Y hn hc _ h =>
  refine⟨_,_,hc,Nat.le_succ _,fun w0 ρ a w I=>?_⟩;obtain⟨x,w',N,U,J,h3⟩:=h w0 ρ m a w I;obtain⟨hf,hnone⟩:=I.w.fresh hn b;obtain⟨h4,h5⟩:=h3 (ext ρ m.nx (w.heap.size,0,N)) m.nx (sH hnone) wN;refine⟨_,x,w',_,U,.inl rfl,hf.told J hnone (Nat.lt_succ_self _) (Nat.le_refl _) (by rw[aOq]; exact h5),h4,sH hnone,fun k Y hlt=>?_⟩;simp only[ext,if_neg (Nat.ne_of_lt hlt)];exact Y
 | c v m' Y hc h =>
  obtain⟨U,J⟩:=h;refine⟨v,m',hc,U,fun w0 ρ a w I=>?_⟩;obtain⟨r,x,w',ρ',a1,a2,a3,a4,a5,a6⟩:=J w0 ρ a w I;exact⟨r,x,w',ρ',a1,a2,a3,a4,a5,a6⟩
end
end
end Go.It
namespace Go.It
noncomputable section
open Go.RowKit
open Go.Vc (bG aY)
theorem bAm{a b:Nat}:Nat.beq a b=false↔a≠b:=by
 constructor
 ·intro h e; subst e; rw[Nat.beq_refl] at h; cases h
 ·intro h;cases hb:Nat.beq a b with
  | false=>rfl
  | true=>exact absurd (Nat.eq_of_beq_eq_true hb) h
structure XOK(x:Fx):Prop where
 inj:∀s t,x.ix s≠0→x.ix s=x.ix t→s=t
 lt:∀t,x.ix t<8^x.n
theorem aLf(x:Fx):dU x.cx:=fun t=>by
 show atC x (x.ix t)= .mk fun e=>bi (Nat.beq (x.ix t) 0) (.z .j) (get x.n (x.ix t) e);unfold atC;cases h:Nat.beq (x.ix t) 0
 ·simp only[aT,aBD]
 ·simp only[aS]
theorem aV2{q:Cx}(hq:dU q)(d:Nat):dU (q.ext d):=fun t=>by
 show (bi (Nat.beq t d) (Box.mk (fun e:V×q.ε=>e.1)) (unb (q.A t) fun f=>.mk fun e=>f e.2))= .mk fun e=>bi (Nat.beq t d) e.1 (q.look t e.2);cases h:Nat.beq t d
 ·simp only[aT,hq t,aV]
 ·simp only[aS]
theorem bBk{q:Cx}(hq:dU q)(d:Nat)(y:Operand):dU (q.al d y):=fun t=>by
 show (bi (Nat.beq t d) (pA q y) (q.A t))= .mk fun e=>bi (Nat.beq t d) (evD q e y) (q.look t e);cases h:Nat.beq t d
 ·simp only[aT,hq t]
 ·simp only[aS,eX hq]
def DR(ρ:Rho):V→List Deferred→Prop
 | v,[]=>v= .z .u
 | v,d::ds=>∃g l old xs ys,v= .tup [.fn g [] l,old]∧d=⟨.fn (.func g) ys,xs⟩∧VRL ρ l (xs++ys).toList∧DR ρ old ds
theorem DR.mono{ρ ρ':Rho}(h:ρ.le ρ'):∀ {ds:List Deferred} {v:V},DR ρ v ds→DR ρ' v ds
 | [],_,hv=>hv
 | d::ds,v,⟨g,l,I,xs,J,Y,N,h3,U⟩=>⟨g,l,I,xs,J,Y,N,h3.mono h,U.mono h⟩
structure Sx(x:Fx)(nt:Nat)(w0:World)(ρ:Rho)(e:x.ε)(m:M)(a:Act)(w:World):Prop where
 w:W w0 ρ m w
 gl:GR x.E ρ
 env:∀t,VR ρ (x.cx.look t e) (a.tmps.getD t Go.undef)
 sz:nt≤a.tmps.size
 df:DR ρ (get x.n 0 e) a.defers
def ExR(ρ:Rho):Option X→Exit→Prop
 | none,.normal=>True
 | some (.ex i),.exit j=>i=j
 | some .rt,.ret=>True
 | some (.pan u),.panic ch=>∃x,ch= [{ v:=x,recovered:=false }]∧VR ρ u x
 | _,_=>False
def KC{ε:Type}(I:KK ε)(y:Option X)(e:ε)(m:M):Bool:=match y with
 | none=>I.kn e m
 | some y=>I.kx y e m
def Po(x:Fx)(nt:Nat)(w0:World)(ρ:Rho)(m:M)(y:Option X)(I:x.ε)(m':M)(ex:Exit)(a:Act)(w:World):Prop:=∃ρ',Ext m ρ ρ'∧ExR ρ' y ex∧Sx x nt w0 ρ' I m' a w
theorem Po.back{x:Fx}{nt:Nat}{w0:World}{ρ I:Rho}{m m1:M}{y:Option X}{J:x.ε}{m':M}{ex:Exit}{a:Act}{w:World}(N:Ext m ρ I)(U:m.nx≤m1.nx)(h:Po x nt w0 I m1 y J m' ex a w):Po x nt w0 ρ m y J m' ex a w:=by
 obtain⟨ρ',a1,a2,a3⟩:=h;exact⟨ρ',N.trans U a1,a2,a3⟩
def aOJ(P:Program)(f:FuncId)(args:Array Value)(w:World)(R:Ending→World→Prop):Prop :=
 (∃v w',(callFunc f args).run P w= .ok (.value v) w'∧R (.returned v) w')∨((callFunc f args).run P w= .ok (.enter f args) w∧Calls P f args w R)
theorem aOJ.mono{P:Program}{f:FuncId}{args:Array Value}{w:World}{R N:Ending→World→Prop}(h:aOJ P f args w R)(U:∀e w,R e w→N e w):aOJ P f args w N:=by
 rcases h with⟨v,w',I,J⟩|⟨I,J⟩
 ·exact .inl ⟨v,w',I,U _ _ J⟩
 ·exact .inr ⟨I,J.mono U⟩
def aGS(w0:World)(ρ:Rho)(m:M)(p:Bool)(u:V)(m':M)(e:Ending)(w:World):Prop:=∃ρ' v,Ext m ρ ρ'∧W w0 ρ' m' w∧VR ρ' u v∧e=(bi p (.panicked [{ v:=v,recovered:=false }]) (.returned v))
def aGV(P:Program)(E:En)(cf:CF):Prop:=∀f vs m I kp,cf f vs m I kp=true→ ∃(p:Bool) (u:V) (m':M),(bi p (kp u m') (I u m'))=true∧m.nx≤m'.nx ∧
 ∀(w0:World) (ρ:Rho) (w:World) (xs:List Value),W w0 ρ m w→GR E ρ→VRL ρ vs xs→aOJ P f xs.toArray w (aGS w0 ρ m p u m')
def wbF(x:Fx)(q:Cx)(e:q.ε):List Nat→x.ε→x.ε
 | [],r=>r
 | d::l,r=>wbF x q e l (upd x.n (x.ix d) (q.look d e) r)
theorem aMt{x:Fx}{q:Cx}(hq:dU q):∀l:List Nat,wbL x q l= .mk fun e r c=>c (wbF x q e l r)
 | []=>rfl
 | d::l=>by simp only[wbL,eX hq,put_eq,aMt hq l,aV,wbF,evD]
theorem aOK{x:Fx}{q:Cx}(hq:dU q):∀(l:List Nat) (e:q.ε) (r:x.ε) (c:x.ε→Bool),aRX x q l e r c=c (wbF x q e l r)
 | [],_,_,_=>rfl
 | d::l,e,r,c=>by simp only[aRX,eX hq,put_eq,aV,wbF,evD,aOK hq l]
theorem aI4{x:Fx}(J:XOK x){q:Cx}{e:q.ε}{k:Nat}(I:k<8^x.n):∀ {l:List Nat} {r:x.ε},(∀d∈l,x.ix d≠k)→get x.n k (wbF x q e l r)=get x.n k r
 | [],_,_=>rfl
 | d::l,r,h=>by
  rw[wbF,aI4 J I fun d hd=>h d (.tail _ hd),gU _ _ _ _ _ (J.lt d) I (h d (.head _))]
theorem aQx{x:Fx}(I:XOK x){q:Cx}{e:q.ε}{t:Nat}(ht:x.ix t≠0):∀ {l:List Nat} {r:x.ε},t∈l→get x.n (x.ix t) (wbF x q e l r)=q.look t e
 | [],_,h=>by cases h
 | d::l,r,h=>by
  by_cases J:t∈l
  ·rw[wbF]; exact aQx I ht J
  ·have hd:t=d:=by
    rcases List.mem_cons.1 h with h|h
    ·exact h
    ·exact absurd h J
   subst hd;rw[wbF,aI4 I (I.lt t) fun d hd N=>J (by rw[I.inj t d ht N.symm]; exact hd),qR]
structure Rg(x:Fx)(nt:Nat)(q:Cx)(base:q.ε→x.ε)(wb:List Nat)(w0:World)(ρ:Rho)(e:q.ε)(m:M)(a:Act)(w:World):Prop where
 w:W w0 ρ m w
 gl:GR x.E ρ
 env:∀t,VR ρ (q.look t e) (a.tmps.getD t Go.undef)
 bs:∀t,x.ix t≠0→t∉wb→VR ρ (get x.n (x.ix t) (base e)) (a.tmps.getD t Go.undef)
 sz:nt≤a.tmps.size
 df:DR ρ (get x.n 0 (base e)) a.defers
theorem vA{x:Fx}{t:Nat}{e:x.ε}(h:x.ix t≠0):x.cx.look t e=get x.n (x.ix t) e:=by
 show (bi (Nat.beq (x.ix t) 0) (V.z .j) (get x.n (x.ix t) e))=_;have:Nat.beq (x.ix t) 0=false:=by cases hb:Nat.beq (x.ix t) 0 with|false=>rfl|true=>exact absurd (Nat.eq_of_beq_eq_true hb) h
 rw[this]; rfl
theorem yW{x:Fx}{t:Nat}{e:x.ε}(h:x.ix t=0):x.cx.look t e= .z .j:=by
 show (bi (Nat.beq (x.ix t) 0) (V.z .j) (get x.n (x.ix t) e))=_;rw[h]; rfl
theorem Sx.rg{x:Fx}{nt:Nat}{w0:World}{ρ:Rho}{e:x.ε}{m:M}{a:Act}{w:World}(h:Sx x nt w0 ρ e m a w):Rg x nt x.cx (fun e=>e) [] w0 ρ e m a w :=
 ⟨h.w,h.gl,h.env,fun t ht _=>by have:=h.env t; rwa [vA ht] at this,h.sz,h.df⟩
section
variable {P:Program} {x:Fx} {nt:Nat} {q:Cx} {base:q.ε→x.ε} {wb:List Nat} {w0:World} {ρ ρ':Rho} {e:q.ε} {m m':M} {a:Act} {w w':World}
theorem Rg.sx(I:XOK x)(h:Rg x nt q base wb w0 ρ e m a w)(Y:∀d∈wb,x.ix d≠0):Sx x nt w0 ρ (wbF x q e wb (base e)) m a w:=by
 have U:0<8^x.n:=Nat.pos_of_ne_zero (by have:=Nat.one_le_two_pow (n:=x.n); exact Nat.ne_of_gt (Nat.pow_pos (by decide)));refine⟨h.w,h.gl,fun t=>?_,h.sz,by rw[aI4 I U Y]; exact h.df⟩;by_cases ht:x.ix t=0
 ·rw[yW ht]; exact VR.junk _ _
 ·rw[vA ht];by_cases J:t∈wb
  ·rw[aQx I ht J]; exact h.env t
  ·rw[aI4 I (I.lt t) fun d hd N=>J (by rw[I.inj t d ht N.symm]; exact hd)];exact h.bs t ht J
theorem Rg.same(h:Rg x nt q base wb w0 ρ e m a w)(N:W w0 ρ' m' w')(I:ρ.le ρ'):Rg x nt q base wb w0 ρ' e m' a w' :=
 ⟨N,fun g=>(h.gl g).mono I,fun t=>(h.env t).mono I,fun t J U=>(h.bs t J U).mono I,h.sz,h.df.mono I⟩
theorem vB{a:Act}{d t:Nat}{v:Value}(hd:d<a.tmps.size):(a.put (some d) v).tmps.getD t Go.undef=if t=d then v else a.tmps.getD t Go.undef:=by
 by_cases e:t=d
 ·subst e; simp[Act.put,hd]
 ·simp only[Act.put,if_neg e];by_cases ht:t<a.tmps.size
  ·simp[ht,Ne.symm e]
  ·simp[ht]
theorem sJ{x:Fx}{o:Oper}{d t:Nat}{wb:List Nat}(hd:o.dst=some d)(I:x.ix d≠0):t∈xM x o wb↔t=d∨t∈wb:=by
 unfold xM;rw[hd];have:Nat.blt 0 (x.ix d)=true:=by simp; omega
 simp only[this,aS,List.mem_cons]
theorem aHL{x:Fx}{o:Oper}{d:Nat}{wb:List Nat}(hd:o.dst=some d)(I:x.ix d=0):xM x o wb=wb:=by
 unfold xM;rw[hd]; simp only[I]; rfl
theorem aI5{x:Fx}{o:Oper}{wb:List Nat}(h:∀d∈wb,x.ix d≠0):∀d∈xM x o wb,x.ix d≠0:=by
 intro t ht;cases hd:o.dst with
 | none=>unfold xM at ht; rw[hd] at ht; exact h t ht
 | some d =>
  by_cases I:x.ix d=0
  ·rw[aHL hd I] at ht; exact h t ht
  ·rcases (sJ hd I).1 ht with rfl|ht
   ·exact I
   ·exact h t ht
theorem Rg.put{o:Oper}{d:Nat}(hd:o.dst=some d)(U:d<nt){v:V}{u:Value}(h:Rg x nt q base wb w0 ρ e m a w)(hv:VR ρ v u):Rg x nt (q.ext d) (fun e=>base e.2) (xM x o wb) w0 ρ (v,e) m (a.put (some d) u) w:=by
 have I:d<a.tmps.size:=Nat.lt_of_lt_of_le U h.sz;refine⟨h.w,h.gl,fun t=>?_,fun t h1 h2=>?_,by have:=h.sz; simpa [Act.put] using this,h.df⟩
 ·rw[vB I];show VR ρ (bi (Nat.beq t d) v (q.look t e)) _;by_cases J:t=d
  ·subst J; rw[if_pos rfl,Nat.beq_refl]; exact hv
  ·rw[if_neg J];have:Nat.beq t d=false:=bAm.2 J;rw[this]; exact h.env t
 ·rw[vB I];have N:t≠d:=fun J=>by
   subst J;exact h2 ((sJ hd h1).2 (.inl rfl))
  rw[if_neg N];refine h.bs t h1 fun Y=>h2 ?_;by_cases hz:x.ix d=0
  ·rw[aHL hd hz]; exact Y
  ·exact(sJ hd hz).2 (.inr Y)
theorem Rg.al{o:Oper}{d:Nat}(hd:o.dst=some d)(U:d<nt){y:Operand}{u:Value}(h:Rg x nt q base wb w0 ρ e m a w)(hv:VR ρ (evD q e y) u):Rg x nt (q.al d y) base (xM x o wb) w0 ρ e m (a.put (some d) u) w:=by
 have I:d<a.tmps.size:=Nat.lt_of_lt_of_le U h.sz;refine⟨h.w,h.gl,fun t=>?_,fun t h1 h2=>?_,by have:=h.sz; simpa [Act.put] using this,h.df⟩
 ·rw[vB I];show VR ρ (bi (Nat.beq t d) (evD q e y) (q.look t e)) _;by_cases J:t=d
  ·subst J; rw[if_pos rfl,Nat.beq_refl]; exact hv
  ·rw[if_neg J,bAm.2 J]; exact h.env t
 ·rw[vB I];have N:t≠d:=fun J=>by
   subst J;exact h2 ((sJ hd h1).2 (.inl rfl))
  rw[if_neg N];refine h.bs t h1 fun Y=>h2 ?_;by_cases hz:x.ix d=0
  ·rw[aHL hd hz]; exact Y
  ·exact(sJ hd hz).2 (.inr Y)
def RR(P:Program)(x:Fx)(nt:Nat)(q:Cx)(base:q.ε→x.ε)(wb:List Nat)(ops:Array Oper)(l:List Nat)(f:RF x q):Prop:=∀(e:q.ε) (m:M) (I:KK x.ε),aGV P x.E I.cf→f e m I=true →
 ∃y N m',KC I y N m'=true∧m.nx≤m'.nx∧ ∀(w0:World) (ρ:Rho) (a:Act) (w:World) (Q:Exit→Act→World→Prop),Rg x nt q base wb w0 ρ e m a w→(∀ex J w',Po x nt w0 ρ m y N m' ex J w'→Q ex J w')→wpOps P ops Q l a w
theorem bBl(U:XOK x)(hq:dU q){ops:Array Oper}(Y:∀d∈wb,x.ix d≠0){f:RF x q}(I:aTs x q base wb= .mk f):RR P x nt q base wb ops [] f:=by
 simp only[aTs,aMt hq,aV,Box.mk.injEq] at I;subst I;intro e m κ hc h;exact⟨none,_,m,h,Nat.le_refl _,fun w0 ρ a w Q J N=>N .normal a w ⟨ρ,.refl _ _,trivial,J.sx U Y⟩⟩
theorem aMu(I:XOK x)(hq:dU q){p:V}{Y:KK x.ε}(h:aX0 x q base p e m Y=true):∃U,Y.kx (.pan p) U m=true∧ ∀(w0:World) (ρ:Rho) (a:Act) (w:World),W w0 ρ m w→GR x.E ρ→(∀t∈x.ks,x.ix t≠0→VR ρ (q.look t e) (a.tmps.getD t Go.undef))→nt≤a.tmps.size→DR ρ (get x.n 0 (base e)) a.defers→Sx x nt w0 ρ U m a w:=by
 simp only[aX0,aBD,put_eq,aV,aOK hq] at h;have h0:0<8^x.n:=Nat.pow_pos (by decide);refine⟨_,h,fun w0 ρ a w hw hg N hs hd=>⟨hw,hg,fun t=>?_,hs,by rw[qR]; exact hd⟩⟩;by_cases ht:x.ix t=0
 ·rw[yW ht]; exact VR.junk _ _
 ·rw[vA ht,gU _ _ _ _ _ h0 (I.lt t) (Ne.symm ht)];by_cases J:t∈x.ks.filter fun t=>Nat.blt 0 (x.ix t)
  ·rw[aQx I ht J];exact N t (List.mem_filter.1 J).1 ht
  ·rw[aI4 I (I.lt t) fun d hd N=>J (by rw[I.inj t d ht N.symm]; exact hd),aCo];exact VR.junk _ _
theorem aSf{o:Oper}{f:Operand}{l:List Operand}(h:kd o= .call f l):∃args I,o.op= .call ⟨.value f,args,I⟩∧args.toList=l:=by
 obtain⟨dst,op,ty,pos,aft,gd⟩:=o;unfold kd at h;cases op<;>first|(cases h; done)|skip
 case makeFunc fn _ _=>cases fn<;>cases h
 case makeMap _ r=>cases r<;>cases h
 case call c =>
  obtain⟨cl,args,I⟩:=c;cases cl<;>first|(cases h; done)|skip
  case builtin b=>cases b<;>first|(cases h; done)|(simp only[an,aVt,aVs] at h; split at h<;>cases h)
  case value g=>cases h; exact⟨args,I,rfl,rfl⟩
 case defer c =>
  obtain⟨cl,args,I⟩:=c;cases cl<;>cases h
theorem aV3{o:Oper}{f:Operand}{l:List Operand}(h:kd o= .defer f l):∃args I,o.op= .defer ⟨.value f,args,I⟩∧args.toList=l:=by
 obtain⟨dst,op,ty,pos,aft,gd⟩:=o;unfold kd at h;cases op<;>first|(cases h; done)|skip
 case makeFunc fn _ _=>cases fn<;>cases h
 case makeMap _ r=>cases r<;>cases h
 case call c =>
  obtain⟨cl,args,I⟩:=c;cases cl<;>first|(cases h; done)|skip
  case builtin b=>cases b<;>first|(cases h; done)|(simp only[an,aVt,aVs] at h; split at h<;>cases h)
 case defer c =>
  obtain⟨cl,args,I⟩:=c;cases cl<;>first|(cases h; done)|skip
  case value g=>cases h; exact⟨args,I,rfl,rfl⟩
theorem aV4{o:Oper}{y:Operand}(h:kd o= .pan y):y∈o.op.operands∧ ∀(ev:Operand→Value) (w:World) (t:TypeId) (u:Value),ev y= .iface t u→(execOp ev o).run P w= .halt (.panic (.iface t u)) w:=by
 obtain⟨dst,op,ty,pos,aft,gd⟩:=o;unfold kd at h;cases op<;>first|(cases h; done)|skip
 case makeFunc fn _ _=>cases fn<;>cases h
 case makeMap _ r=>cases r<;>cases h
 case call c =>
  obtain⟨cl,args,J⟩:=c;cases cl<;>first|(cases h; done)|skip
  case builtin b =>
   cases b<;>first|(cases h; done)|skip
   simp only[an,aVt,aVs] at h;split at h<;>first|(cases h; done)|skip
   rename_i N;cases h;obtain rfl:args= #[y]:=(by cases args; simp_all);refine⟨by simp[Op.operands,Call.operands],fun ev w t u I=>?_⟩;simp[execOp,resolve,invoke,builtin,I,Instr.panic,goPanic]
 case defer c =>
  obtain⟨cl,args,J⟩:=c;cases cl<;>cases h
 case panic z =>
  cases h;refine⟨by simp[Op.operands],fun ev w t u I=>?_⟩;simp[execOp,I,Instr.panic,goPanic]
theorem aOL{dst:Option Tmp}{ty:TypeId}{pos:String}{aft:Array Edge}{gd:Option (Nat×Bool)}{f:Operand}{args:Array Operand}{I:Array TypeId}{ev:Operand→Value}{g:FuncId}{xs ys:List Value}(h:ev f= .func (.func g) xs.toArray ys.toArray)(w:World) :
  (execOp ev ⟨dst,.call ⟨.value f,args,I⟩,ty,pos,aft,gd⟩).run P w=(callFunc g (xs++args.toList.map ev++ys).toArray).run P w:=by
 have e:(xs++args.toList.map ev++ys).toArray=xs.toArray++args.map ev++ys.toArray:=by
  apply Array.ext';simp
 rw[e];simp[execOp,resolve,Deferred.ofValue,h,invoke]
theorem Rg.sv(I:q.E=x.E)(h:Rg x nt q base wb w0 ρ e m a w)(l:Array Operand):Sv q w0 ρ e m a w l :=
 ⟨h.w,by rw[I]; exact h.gl,fun y _=>aZj (by rw[I]; exact h.gl) y fun t _=>h.env t⟩
end
end
end Go.It
namespace Go.It
noncomputable section
open Go.RowKit
open Go.Vc (bG aY)
section
variable {P:Program} {x:Fx} {nt:Nat} {q:Cx} {base:q.ε→x.ε} {wb:List Nat} {ops:Array Oper}
def SS(P:Program)(x:Fx)(nt:Nat)(q:Cx)(base:q.ε→x.ε)(wb:List Nat)(ops:Array Oper)(l:List Nat)(o:Oper)(f:RF x q):Prop:=∀(e:q.ε) (m:M) (I:KK x.ε),aGV P x.E I.cf→f e m I=true →
 ∃y N m',KC I y N m'=true∧m.nx≤m'.nx∧ ∀(w0:World) (ρ:Rho) (a:Act) (w:World) (Q:Exit→Act→World→Prop),Rg x nt q base wb w0 ρ e m a w→(∀ex J w',Po x nt w0 ρ m y N m' ex J w'→Q ex J w')→o.wp P a w (wpOps P ops Q l) Q
theorem xK(hx:XOK x)(hq:dU q)(hE:q.E=x.E)(hEn:fA P x.E)(w00:World){o:Oper}{l:List Nat}{q':Cx}{base':q'.ε→x.ε}{wb':List Nat}{st:V→q.ε→q'.ε}{r:RF x q'}(hr:RR P x nt q' base' wb' ops l r)
  (hst:∀ {w0:World} {ρ:Rho} {e:q.ε} {m:M} {a:Act} {w:World} {v:V} {u:Value},Rg x nt q base wb w0 ρ e m a w→VR ρ v u→Rg x nt q' base' wb' w0 ρ (st v e) m (a.put o.dst u) w)
  {f:RF x q} (N:aBB x q base o q' st r= .mk f):SS P x nt q base wb ops l o f:=by
 intro e m κ hcf h;unfold aBB at N;split at N
 ·rename_i fo args hk;simp only[eX hq,aAo hq,aV,Box.mk.injEq] at N;subst N;obtain⟨g,fs,l',hfn,h2⟩:=aQo h;obtain⟨p,u,m1,h3,h4,h5⟩:=hcf _ _ _ _ _ h2;obtain⟨args',ats,hop,rfl⟩:=aSf hk;have hcall:∀ {w0:World} {ρ:Rho} {a:Act} {w:World},Rg x nt q base wb w0 ρ e m a w→ ∃gs:List Value,(execOp a.eval o).run P w=(callFunc g gs.toArray).run P w∧aOJ P g gs.toArray w (aGS w0 ρ m p u m1):=fun {w0 ρ a w} I=>by
   obtain⟨dst,op,ty,pos,aft,gd⟩:=o;simp only at hop;subst hop;have hs:=I.sv hE (fo::args'.toList).toArray;have hv:=hs.ev fo (by simp);rw[hfn] at hv;simp only[VR] at hv;obtain⟨xs,ys,v1,v2,v3⟩:=hv;have va:=hs.evL (r:=args'.toList) (fun y hy=>by simp; exact .inr (by simpa using hy));exact⟨_,aOL v1 w,h5 w0 ρ w _ I.w I.gl ((v2.append va).append v3)⟩
  cases p
  ·simp only[aT] at h3;obtain⟨y,e',m',a1,a2,a3⟩:=hr _ _ κ hcf h3;refine⟨y,e',m',a1,Nat.le_trans h4 a2,fun w0 ρ a w Q I hQ=>?_⟩;obtain⟨gs,Y,hc⟩:=hcall I;have fin:∀ex w',aGS w0 ρ m false u m1 ex w'→ ∃v,ex= .returned v∧wpOps P ops Q l (a.put o.dst v) w':=fun ex w' U=>by
    obtain⟨ρ',v,c1,c2,c3,c4⟩:=U;exact⟨v,c4,a3 w0 ρ' _ _ Q (hst (I.same c2 c1.1) c3) fun ex a' w' hp=>hQ ex a' w' (hp.back c1 h4)⟩
   unfold Oper.wp;rw[Y];rcases hc with⟨v,w',c1,c2⟩|⟨c1,c2⟩
   ·rw[c1,Oper.upon_value];obtain⟨v',e1,e2⟩:=fin _ _ c2;cases e1;exact e2
   ·rw[c1,Oper.upon_enter];refine c2.mono fun ex w' U=>?_;obtain⟨v',rfl,e2⟩:=fin _ _ U;exact e2
  ·simp only[aS] at h3;obtain⟨e',b1,b2⟩:=aMu (nt:=nt) hx hq h3;refine⟨some (.pan u),e',m1,b1,h4,fun w0 ρ a w Q I hQ=>?_⟩;obtain⟨gs,Y,hc⟩:=hcall I;unfold Oper.wp;rw[Y];rcases hc with⟨v,w',c1,c2⟩|⟨c1,c2⟩
   ·obtain⟨_,_,_,_,_,c4⟩:=c2;cases c4
   ·rw[c1,Oper.upon_enter];refine c2.mono fun ex w' U=>?_;obtain⟨ρ',v,d1,d2,d3,rfl⟩:=U;have J:=I.same d2 d1.1;exact hQ _ a w' ⟨ρ',d1,⟨v,rfl,d3⟩,b2 w0 ρ' a w' d2 J.gl (fun t _ _=>J.env t) J.sz J.df⟩
 ·rename_i y hk;simp only[eX hq,aV,Box.mk.injEq] at N;subst N;simp only at h;split at h<;>first|(cases h; done)|skip
  rename_i t v hv;obtain⟨e',b1,b2⟩:=aMu (nt:=nt) hx hq h;obtain⟨k1,k2⟩:=aV4 (P:=P) hk;refine⟨some (.pan (.ifc t v)),e',m,b1,Nat.le_refl _,fun w0 ρ a w Q I hQ=>?_⟩;have hs:=(I.sv hE o.op.operands).ev y k1;rw[hv] at hs;have hs':=hs;simp only[VR] at hs;obtain⟨u,s1,s2⟩:=hs;unfold Oper.wp;rw[k2 _ _ _ _ s1,Oper.upon_panic];exact hQ _ a w ⟨ρ,.refl _ _,⟨_,rfl,by rw[← s1]; exact hs'⟩,b2 w0 ρ a w I.w I.gl (fun t _ _=>I.env t) I.sz I.df⟩
 ·simp only[noR,Box.mk.injEq] at N; subst N; cases h
 ·simp only[noR,Box.mk.injEq] at N; subst N; cases h
 ·rename_i hk;cases hto:lX q o with
  | mk g =>
   simp only[hto,aV,Box.mk.injEq] at N;subst N;obtain⟨v,m1,h1,h2,h3⟩:=(aV1 (P:=P) hq (by rw[hE]; exact hEn) w00 hk hto h).step;obtain⟨y,e',m',a1,a2,a3⟩:=hr _ _ κ hcf h1;refine⟨y,e',m',a1,Nat.le_trans h2 a2,fun w0 ρ a w Q I hQ=>?_⟩;obtain⟨rs,u,w',ρ',b1,b2,b3,b4,b5⟩:=h3 w0 ρ a w (I.sv hE _);have key:wpOps P ops Q l (a.put o.dst u) w':=a3 w0 ρ' _ _ Q (hst (I.same b3 b5.1) b4) fun ex a' w' hp=>hQ ex a' w' (hp.back b5 h2);unfold Oper.wp;rw[b1];rcases b2 with rfl|⟨rfl,rfl⟩
   ·exact key
   ·exact key
theorem aBr(hx:XOK x)(hq:dU q)(hE:q.E=x.E)(hEn:fA P x.E)(w00:World){o:Oper}{i:Nat}(hi:ops[i]? = some o){l:List Nat}{q':Cx}{J:q'.ε→x.ε}{wb':List Nat}{st:V→q.ε→q'.ε}{r:RF x q'}(hr:RR P x nt q' J wb' ops l r)
  (hst:∀ {w0:World} {ρ:Rho} {e:q.ε} {m:M} {a:Act} {w:World} {v:V} {u:Value},Rg x nt q base wb w0 ρ e m a w→VR ρ v u→Rg x nt q' J wb' w0 ρ (st v e) m (a.put o.dst u) w)
  {f:RF x q} (Y:trG x ops q base o q' st r= .mk f):RR P x nt q base wb ops (i::l) f:=by
 intro e m κ hcf h;have wpi:∀ {a:Act} {w:World} {Q:Exit→Act→World→Prop},(if Region.wanted o (yielded ops a.tmps)=true then o.wp P a w (wpOps P ops Q l) Q else wpOps P ops Q l (a.put o.dst Go.undef) w)→wpOps P ops Q (i::l) a w:=fun {a w Q} hh=>by
  unfold wpOps;simp only[hi];split
  ·rename_i hw; rw[if_pos hw] at hh; exact .inl hh
  ·rename_i hw; rw[if_neg hw] at hh; exact hh
 unfold trG at Y;split at Y
 ·rename_i hg;obtain⟨y,U,m',a1,a2,a3⟩:=xK hx hq hE hEn w00 hr hst Y e m κ hcf h;refine⟨y,U,m',a1,a2,fun w0 ρ a w Q I hQ=>wpi ?_⟩;rw[if_pos (by unfold Region.wanted; rw[hg])];exact a3 w0 ρ a w Q I hQ
 ·rename_i g p hg;split at Y
  ·simp only[noR,Box.mk.injEq] at Y; subst Y; cases h
  ·rename_i d hd;cases hs:aBB x q base o q' st r with
   | mk f' =>
    simp only[eX hq,hs,aV,Box.mk.injEq] at Y;subst Y;have hst':=xK hx hq hE hEn w00 hr hst hs;have skip:r (st (.z .u) e) m κ=true→(∀ {w0:World} {ρ:Rho} {a:Act} {w:World},Rg x nt q base wb w0 ρ e m a w→Region.wanted o (yielded ops a.tmps)=false) →
      ∃y U m',KC κ y U m'=true∧m.nx≤m'.nx∧ ∀(w0:World) (ρ:Rho) (a:Act) (w:World) (Q:Exit→Act→World→Prop),Rg x nt q base wb w0 ρ e m a w→(∀ex a' w',Po x nt w0 ρ m y U m' ex a' w'→Q ex a' w')→wpOps P ops Q (i::l) a w:=fun h1 h2=>by
     obtain⟨y,U,m',a1,a2,a3⟩:=hr _ _ κ hcf h1;refine⟨y,U,m',a1,a2,fun w0 ρ a w Q I hQ=>wpi ?_⟩;rw[if_neg (by rw[h2 I]; simp)];exact a3 w0 ρ _ w Q (hst I (by simp only[VR,zR]; rfl)) hQ
    simp only[evD] at h;split at h
    ·rename_i t ht;have hy:∀ {w0:World} {ρ:Rho} {a:Act} {w:World},Rg x nt q base wb w0 ρ e m a w→Region.wanted o (yielded ops a.tmps)=(t == p):=fun {w0 ρ a w} I=>by
      have hv:=I.env d;rw[ht] at hv;simp only[VR] at hv;have hget:a.tmps[d]? = some (.bool t):=by
       rcases Nat.lt_or_ge d a.tmps.size with hlt|hge
       ·simp[hlt] at hv ⊢; exact hv
       ·simp[hge,Go.undef] at hv
      unfold Region.wanted;rw[hg];simp only[yielded,hd,Option.bind_some,hget];cases t<;>cases p<;>rfl
     cases N:(t == p)
     ·rw[N] at h;simp only[aT] at h;exact skip h fun I=>by rw[hy I,N]
     ·rw[N] at h;simp only[aS] at h;obtain⟨y,U,m',a1,a2,a3⟩:=hst' e m κ hcf h;refine⟨y,U,m',a1,a2,fun w0 ρ a w Q I hQ=>wpi ?_⟩;rw[if_pos (by rw[hy I,N])];exact a3 w0 ρ a w Q I hQ
    ·rename_i ht;refine skip h fun {w0 ρ a w} I=>?_;have hv:=I.env d;rw[ht] at hv;simp only[VR,zR] at hv;have hy:yielded ops a.tmps g=none:=by
      simp only[yielded,hd,Option.bind_some];rcases Nat.lt_or_ge d a.tmps.size with hlt|hge
      ·have:a.tmps[d]? = some (.tuple #[]):=(by simp[hlt] at hv ⊢; exact hv);rw[this]
      ·rw[Array.getElem?_eq_none hge]
     unfold Region.wanted;rw[hg];simp only[hy];rfl
    ·cases h
theorem aV5(hx:XOK x)(hq:dU q)(hE:q.E=x.E){o:Oper}{i:Nat}(hi:ops[i]? = some o)(hz:∀d∈wb,x.ix d≠0){f:RF x q}(N:aMh x q base wb o= .mk f):RR P x nt q base wb ops [i] f:=by
 intro e m κ hcf h;unfold aMh at N;split at N
 ·rename_i fo args hk hd hg;simp only[eX hq,aAo hq,aMt hq,aBD,put_eq,aV,Box.mk.injEq] at N;subst N;obtain⟨g,fs,l',hfn,h2⟩:=aQo h;obtain⟨I,ats,U,rfl⟩:=aV3 hk;refine⟨none,_,m,h2,Nat.le_refl _,fun w0 ρ a w Q Y hQ=>?_⟩;have hs:=Y.sv hE (fo::I.toList).toArray;have hv:=hs.ev fo (by simp);rw[hfn] at hv;simp only[VR] at hv;obtain⟨xs,ys,v1,v2,v3⟩:=hv;have va:=hs.evL (r:=I.toList) (fun y hy=>by simp; exact .inr (by simpa using hy));have hrun:(execOp a.eval o).run P w= .ok (.defer ⟨.fn (.func g) ys.toArray,xs.toArray++I.map a.eval⟩) w:=by
   obtain⟨dst,op,ty,pos,aft,gd⟩:=o;simp only at U;subst U;simp[execOp,resolve,Deferred.ofValue,v1]
  have h0:0<8^x.n:=Nat.pow_pos (by decide);have J:=Y.sx hx hz;unfold wpOps;simp only[hi];rw[if_pos (by unfold Region.wanted; rw[hg])];refine .inl ?_;unfold Oper.wp;rw[hrun,Oper.upon_defer,hd];refine hQ .normal _ w ⟨ρ,.refl _ _,trivial,⟨J.w,J.gl,fun t=>?_,J.sz,?_⟩⟩
  ·by_cases ht:x.ix t=0
   ·rw[yW ht]; exact VR.junk _ _
   ·rw[vA ht,gU _ _ _ _ _ h0 (hx.lt t) (Ne.symm ht)];have:=J.env t
    rwa [vA ht] at this
  ·rw[qR];refine⟨g,_,_,_,_,rfl,rfl,?_,J.df⟩;have:=(v2.append va).append v3
   simpa using this
 ·simp only[noR,Box.mk.injEq] at N; subst N; cases h
theorem bBm{o:Oper}{d:Nat}{y:Operand}(h:aZ1 o=some (d,y)):o.dst=some d∧o.guard=none∧y∈o.op.operands∧ ∀(ev:Operand→Value) (w:World),(execOp ev o).run P w= .ok (.value (ev y)) w:=by
 obtain⟨dst,op,ty,pos,aft,gd⟩:=o;unfold aZ1 at h;split at h<;>first|(cases h; done)|skip
 all_goals
  rename_i I J N;simp only at I J N;subst I J N;simp only[Option.some.injEq,Prod.mk.injEq] at h;obtain⟨rfl,rfl⟩:=h;exact⟨rfl,rfl,by simp[Op.operands],fun ev w=>rfl⟩
theorem aI6(hx:XOK x)(U:fA P x.E)(Y:World):∀(L:List Oper) (i:Nat) (q:Cx) (base:q.ε→x.ε) (wb:List Nat) (f:RF x q),(∀j o,L[j]? = some o→ops[i+j]? = some o)→dU q→q.E=x.E→(∀d∈wb,x.ix d≠0) →
  (∀o∈L,∀d,o.dst=some d→d<nt)→aBC x ops L q base wb= .mk f→RR P x nt q base wb ops (List.range' i L.length) f
 | [],i,q,base,wb,f,hL,hq,hE,hz,hd,N=>bBl hx hq hz N
 | o::L,i,q,base,wb,f,hL,hq,hE,hz,hd,N=>by
  have hi:ops[i]? = some o:=hL 0 o rfl;have hL':∀j o,L[j]? = some o→ops[i+1+j]? = some o:=fun j o' hj=>by
   have:=hL (j+1) o' (by simpa using hj)
   rwa [show i+(j+1)=i+1+j from by omega] at this
  rw[List.length_cons,List.range'_succ];unfold aBC at N;cases hdf:(aRY o&&L.isEmpty)
  ·simp only[hdf,aT] at N;split at N
   ·rename_i d y hmv;obtain⟨h1,h2,h3,h4⟩:=bBm (P:=P) hmv;have ih:=aI6 hx U Y L (i+1) (q.al d y) base _ f hL' (bBk hq d y) hE (aI5 hz) (fun o' ho=>hd o' (.tail _ ho)) N;intro e m κ hcf h;obtain⟨z,e',m',a1,a2,a3⟩:=ih e m κ hcf h;refine⟨z,e',m',a1,a2,fun w0 ρ a w Q J hQ=>?_⟩;unfold wpOps;simp only[hi];rw[if_pos (by unfold Region.wanted; rw[h2])];refine .inl ?_;unfold Oper.wp;rw[h4,Oper.upon_value,h1];exact a3 w0 ρ _ w Q (J.al h1 (hd o (.head _) d h1) ((J.sv hE o.op.operands).ev y h3)) hQ
   split at N
   ·rename_i d I;cases hr:aBC x ops L (q.ext d) (fun e=>base e.2) (xM x o wb) with
    | mk r =>
     simp only[hr,aV] at N;exact aBr hx hq hE U Y hi (aI6 hx U Y L (i+1) (q.ext d) _ _ r hL' (aV2 hq d) hE (aI5 hz) (fun o' ho=>hd o' (.tail _ ho)) hr) (fun {w0 ρ e m a w v u} J hv=>by
      rw[I]; exact J.put I (hd o (.head _) d I) hv) N
   ·rename_i I;cases hr:aBC x ops L q base wb with
    | mk r =>
     simp only[hr,aV] at N;exact aBr hx hq hE U Y hi (aI6 hx U Y L (i+1) q _ _ r hL' hq hE hz (fun o' ho=>hd o' (.tail _ ho)) hr) (fun {w0 ρ e m a w v u} J hv=>by
      rw[I]; exact J) N
  ·simp only[hdf,aS] at N;simp only[Bool.and_eq_true,List.isEmpty_iff] at hdf;obtain⟨_,rfl⟩:=hdf;exact aV5 hx hq hE hi hz N
end
end
end Go.It
namespace Go.It
noncomputable section
open Go.RowKit
open Go.Vc (bG aY)
section
variable {P:Program}
def LW(P:Program)(c:Code)(Q:Exit→Act→World→Prop)(a:Act)(w:World):Prop:=∀(b:Frame) (k:List Item) (cs:List Frame),∃e I w',Q e I w'∧Arrives P (lone (b.at a (.code c:: .inLoop c::k)) cs w) b k cs e I w'
theorem LW.loop{c:Code}{Q:Exit→Act→World→Prop}{a:Act}{w:World}(h:LW P c Q a w):(Code.loop c).wp P Q a w:=fun b k N=>by
 obtain⟨e,J,w',hq,I⟩:=h b k N;exact⟨e,J,w',hq,.of_steps (.one step_loop) I⟩
theorem LW.round{c:Code}{Q:Exit→Act→World→Prop}{a:Act}{w:World}(h:c.wp P (Exit.then (LW P c Q) Q) a w):LW P c Q a w:=fun b k cs=>by
 obtain⟨e,J,N,hq,I⟩:=h b (.inLoop c::k) cs;cases e with
 | normal =>
  obtain⟨Y,a₂,w₂,U,harr₂⟩:=hq b k cs;exact⟨Y,a₂,w₂,U,.of_steps (Steps.trans I (.one step_inLoop)) harr₂⟩
 | exit id=>exact⟨_,J,N,hq,.pass (x:=.inLoop c) rfl (fun _ _=>.inl (by simp)) I⟩
 | goto l=>exact⟨_,J,N,hq,.pass (x:=.inLoop c) rfl (fun _ _=>.inl (by simp)) I⟩
 | ret=>exact⟨_,J,N,hq,.pass (x:=.inLoop c) rfl (fun _ _=>.inl (by simp)) I⟩
 | panic ch=>exact⟨_,J,N,hq,.pass (x:=.inLoop c) rfl (fun _ _=>.inl (by simp)) I⟩
 | outgrown=>exact⟨_,J,N,hq,.pass (x:=.inLoop c) rfl (fun _ _=>.inl (by simp)) I⟩
def CR(P:Program)(x:Fx)(nt:Nat)(W:(Exit→Act→World→Prop)→Act→World→Prop)(f:F x):Prop:=∀(e:x.ε) (m:M) (I:KK x.ε),aGV P x.E I.cf→f e m I=true →
 ∃y N m',KC I y N m'=true∧m.nx≤m'.nx∧ ∀(w0:World) (ρ:Rho) (a:Act) (w:World) (Q:Exit→Act→World→Prop),Sx x nt w0 ρ e m a w→(∀ex J w',Po x nt w0 ρ m y N m' ex J w'→Q ex J w')→W Q a w
def aV6(nt:Nat)(o:Oper):Bool:=match o.dst with|some d=>Nat.blt d nt|none=>true
def aDq(nt:Nat):Code→Bool
 | .region _ ops _=>ops.toList.all (aV6 nt)
 | .seq a b=>aDq nt a&&aDq nt b
 | .cond _ a b=>aDq nt a&&aDq nt b
 | .block _ a=>aDq nt a
 | .loop a=>aDq nt a
 | .scope a=>aDq nt a
 | _=>true
theorem aV7{nt:Nat}{l:List Oper}(h:l.all (aV6 nt)=true):∀o∈l,∀d,o.dst=some d→d<nt:=fun o I d hd=>by
 have:=List.all_eq_true.1 h o I;unfold aV6 at this;rw[hd] at this
 simpa using this
theorem ExR.norm{ρ:Rho}{ex:Exit}(h:ExR ρ none ex):ex= .normal:=by cases ex<;>first|rfl|exact h.elim
theorem ExR.other{ρ:Rho}{y:X}{ex:Exit}{K:Act→World→Prop}{Q:Exit→Act→World→Prop}{a:Act}{w:World}(h:ExR ρ (some y) ex)(hq:Q ex a w):Exit.then K Q ex a w:=by
 cases ex<;>first|exact hq|skip
 cases y<;>exact h.elim
theorem aSg{x:Fx}{nt:Nat}{W:(Exit→Act→World→Prop)→Act→World→Prop}(U:∀Q a w,Q .normal a w→W Q a w):CR P x nt W (fun e m I=>I.kn e m):=fun e m I _ h =>
 ⟨none,e,m,h,Nat.le_refl _,fun w0 ρ a w Q J N=>U _ _ _ (N .normal a w ⟨ρ,.refl _ _,trivial,J⟩)⟩
theorem aSh{x:Fx}{nt:Nat}{c:Code}{f:F x}(hc:CR P x nt (c.wp P) f)(I:KK x.ε)(N:aGV P x.E I.cf):∀(n:Nat) (e:x.ε) (m:M),aR1 f I n e m=true →
  ∃y e' m',KC I y e' m'=true∧m.nx≤m'.nx∧ ∀(w0:World) (ρ:Rho) (a:Act) (w:World) (Q:Exit→Act→World→Prop),Sx x nt w0 ρ e m a w→(∀ex J w',Po x nt w0 ρ m y e' m' ex J w'→Q ex J w')→LW P c Q a w
 | 0,e,m,h=>by cases h
 | n+1,e,m,h=>by
  have h:f e m ⟨I.cf,aR1 f I n,I.kx⟩=true:=h;obtain⟨y,e1,m1,h1,U,h3⟩:=hc e m ⟨I.cf,aR1 f I n,I.kx⟩ N h;cases y with
  | none =>
   obtain⟨y,e2,m2,k1,k2,k3⟩:=aSh hc I N n e1 m1 h1;refine⟨y,e2,m2,k1,Nat.le_trans U k2,fun w0 ρ a w Q hs hQ=>LW.round (h3 w0 ρ a w _ hs fun ex J w' hp=>?_)⟩;obtain⟨ρ',p1,Y,p3⟩:=hp;obtain rfl:=Y.norm;exact k3 w0 ρ' J w' Q p3 fun ex a2 w2 hp2=>hQ ex a2 w2 (hp2.back p1 U)
  | some y =>
   refine⟨some y,e1,m1,h1,U,fun w0 ρ a w Q hs hQ=>LW.round (h3 w0 ρ a w _ hs fun ex J w' hp=>?_)⟩;have:=hQ ex J w' hp;obtain⟨ρ',p1,Y,p3⟩:=hp;exact Y.other this
def aFA(P:Program):Prop:=∀(x:Fx) (nt id:Nat) (ops:Array Oper) (f:F x),XOK x→fA P x.E→(∀o∈ops.toList,∀d,o.dst=some d→d<nt)→aQk x ops= .mk f→CR P x nt ((Code.region id ops true).wp P) f
theorem aSi(hD:aFA P)(w00:World){x:Fx}{nt:Nat}(hx:XOK x)(hE:fA P x.E):∀(c:Code) (f:F x),aDq nt c=true→trC x c= .mk f→CR P x nt (c.wp P) f:=by
 intro c
 induction c with
 | skip=>intro f _ I; simp only[trC,Box.mk.injEq] at I; subst I; exact aSg fun _ _ _ h=>wp_skip h
 | label l=>intro f _ I; simp only[trC,Box.mk.injEq] at I; subst I; exact aSg fun _ _ _ h=>wp_label h
 | region id ops draw =>
  intro f hd I;have hd':=aV7 hd;cases draw with
  | true=>exact hD x nt id ops f hx hE hd' I
  | false =>
   have I:aBC x ops ops.toList x.cx (fun e=>e) []= .mk f:=I;intro e m U N h;obtain⟨y,e',m',a1,a2,a3⟩:=aI6 (nt:=nt) (ops:=ops) hx hE w00 ops.toList 0 x.cx _ [] f (fun j o hj=>by simpa using hj) (aLf x) rfl (fun d hd=>by cases hd) hd' I e m U N h;refine⟨y,e',m',a1,a2,fun w0 ρ a w Q Y hQ=>wp_region ?_⟩;have:=a3 w0 ρ a w Q Y.rg hQ;rw[List.range_eq_range']
   simpa using this
 | seq a b iha ihb =>
  intro f hd I;simp only[aDq,Bool.and_eq_true] at hd;cases ha:trC x a with
  | mk fa =>
   cases hb:trC x b with
   | mk fb =>
    simp only[trC,ha,hb,aV,Box.mk.injEq] at I;subst I;intro e m U N h;obtain⟨y,e1,m1,h1,h2,h3⟩:=iha fa hd.1 ha e m ⟨U.cf,fun e m=>fb e m U,U.kx⟩ N h;cases y with
    | none =>
     obtain⟨y,e2,m2,k1,k2,k3⟩:=ihb fb hd.2 hb e1 m1 U N h1;refine⟨y,e2,m2,k1,Nat.le_trans h2 k2,fun w0 ρ a w Q Y hQ=>wp_seq (h3 w0 ρ a w _ Y fun ex a' w' hp=>?_)⟩;obtain⟨ρ',p1,p2,p3⟩:=hp;obtain rfl:=p2.norm;exact k3 w0 ρ' a' w' Q p3 fun ex a2 w2 hp2=>hQ ex a2 w2 (hp2.back p1 h2)
    | some y =>
     refine⟨some y,e1,m1,h1,h2,fun w0 ρ a w Q Y hQ=>wp_seq (h3 w0 ρ a w _ Y fun ex a' w' hp=>?_)⟩;have:=hQ ex a' w' hp;obtain⟨ρ',p1,p2,p3⟩:=hp;exact p2.other this
 | cond c a b iha ihb =>
  intro f hd I;simp only[aDq,Bool.and_eq_true] at hd;cases ha:trC x a with
  | mk fa =>
   cases hb:trC x b with
   | mk fb =>
    simp only[trC,ha,hb,eX (aLf x),aV,Box.mk.injEq] at I;subst I;intro e m U N h;obtain⟨t,ht,h⟩:=aR2 h;have hv:∀ {w0:World} {ρ:Rho} {a:Act} {w:World},Sx x nt w0 ρ e m a w→a.eval c= .bool t:=fun {w0 ρ a w} Y=>by
     have:=aZj (q:=x.cx) (e:=e) (a:=a) Y.gl c fun t _=>Y.env t;rw[ht] at this
     simpa only[VR] using this
    cases t
    ·obtain⟨y,e',m',a1,a2,a3⟩:=ihb fb hd.2 hb e m U N h;exact⟨y,e',m',a1,a2,fun w0 ρ a w Q Y hQ=>wp_cond_false (hv Y) (a3 w0 ρ a w Q Y hQ)⟩
    ·obtain⟨y,e',m',a1,a2,a3⟩:=iha fa hd.1 ha e m U N h;exact⟨y,e',m',a1,a2,fun w0 ρ a w Q Y hQ=>wp_cond_true (hv Y) (a3 w0 ρ a w Q Y hQ)⟩
 | block id a iha =>
  intro f hd I;cases ha:trC x a with
  | mk fa =>
   simp only[trC,ha,aV,Box.mk.injEq] at I;subst I;intro e m U N h;obtain⟨y,e1,m1,h1,h2,h3⟩:=iha fa hd ha e m ⟨U.cf,U.kn,fun y e m=>match y with| .ex i=>bi (Nat.beq i id) (U.kn e m) (U.kx (.ex i) e m)|y=>U.kx y e m⟩ N h;have other:∀(y':Option X),KC U y' e1 m1=true→(∀(ρ':Rho) ex a' w' (Q:Exit→Act→World→Prop),ExR ρ' y ex→(∀ex',ExR ρ' y' ex'→Q ex' a' w')→Exit.inBlock id Q ex a' w') →
     ∃y e' m',KC U y e' m'=true∧m.nx≤m'.nx∧ ∀(w0:World) (ρ:Rho) (a_1:Act) (w:World) (Q:Exit→Act→World→Prop),Sx x nt w0 ρ e m a_1 w→(∀ex a' w',Po x nt w0 ρ m y e' m' ex a' w'→Q ex a' w')→(Code.block id a).wp P Q a_1 w:=fun y' hk hx' =>
    ⟨y',e1,m1,hk,h2,fun w0 ρ a w Q Y hQ=>wp_block (h3 w0 ρ a w _ Y fun ex a' w' hp=>by
     obtain⟨ρ',p1,p2,p3⟩:=hp;exact hx' ρ' ex a' w' Q p2 fun ex' J=>hQ ex' a' w' ⟨ρ',p1,J,p3⟩)⟩
   cases y with
   | none =>
    refine other none h1 fun ρ' ex a' w' Q J hq=>?_;obtain rfl:=J.norm;exact hq .normal trivial
   | some y =>
    cases y with
    | ex i =>
     have h1:(bi (Nat.beq i id) (U.kn e1 m1) (U.kx (.ex i) e1 m1))=true:=h1;cases hi:Nat.beq i id
     ·rw[hi] at h1;refine other (some (.ex i)) h1 fun ρ' ex a' w' Q J hq=>?_;cases ex<;>first|exact J.elim|skip
      rename_i j;have hij:i=j:=J;subst hij;have hne:i≠id:=fun e=>(by rw[e,Nat.beq_refl] at hi; cases hi);simp only[Exit.inBlock,if_neg hne];exact hq _ rfl
     ·rw[hi] at h1;have hi:=Nat.eq_of_beq_eq_true hi;refine other none h1 fun ρ' ex a' w' Q J hq=>?_;cases ex<;>first|exact J.elim|skip
      rename_i j;have hij:i=j:=J;subst hij;simp only[Exit.inBlock,if_pos hi];exact hq .normal trivial
    | rt =>
     refine other (some .rt) h1 fun ρ' ex a' w' Q J hq=>?_;cases ex<;>first|exact J.elim|exact hq _ trivial
    | pan u =>
     refine other (some (.pan u)) h1 fun ρ' ex a' w' Q J hq=>?_;cases ex<;>first|exact J.elim|exact hq _ J
 | loop a iha =>
  intro f hd I;cases ha:trC x a with
  | mk fa =>
   simp only[trC,ha,aV,Box.mk.injEq] at I;subst I;intro e m U N h;obtain⟨y,e',m',a1,a2,a3⟩:=aSh (iha fa hd ha) U N rounds e m h;exact⟨y,e',m',a1,a2,fun w0 ρ a w Q Y hQ=>(a3 w0 ρ a w Q Y hQ).loop⟩
 | exit id =>
  intro f _ I; simp only[trC,Box.mk.injEq] at I; subst I;exact fun e m U _ h=>⟨some (.ex id),e,m,h,Nat.le_refl _,fun w0 ρ a w Q Y hQ=>wp_exit (hQ _ a w ⟨ρ,.refl _ _,rfl,Y⟩)⟩
 | ret =>
  intro f _ I; simp only[trC,Box.mk.injEq] at I; subst I;exact fun e m U _ h=>⟨some .rt,e,m,h,Nat.le_refl _,fun w0 ρ a w Q Y hQ=>wp_ret (hQ _ a w ⟨ρ,.refl _ _,trivial,Y⟩)⟩
 | scope a iha =>
  intro f hd I;intro e m U N h;obtain⟨y,e',m',a1,a2,a3⟩:=iha f hd I e m U N h;refine⟨y,e',m',a1,a2,fun w0 ρ a w Q Y hQ=>wp_scope_straight (a3 w0 ρ a w _ Y fun ex a' w' hp=>?_)⟩;have hq:=hQ ex a' w' hp;obtain⟨ρ',p1,p2,p3⟩:=hp;cases ex<;>first|exact hq|skip
  cases y with
  | none=>exact p2.elim
  | some y=>cases y<;>exact p2.elim
 | _ =>
  intro f _ I; simp only[trC,Box.mk.injEq] at I; subst I;intro e m U _ h;cases h
end
end
end Go.It
namespace Go.It
noncomputable section
open Go.RowKit
open Go.Vc (bG aY)
theorem aOM(g:Nat):∀(n i:Nat),∀t∈aCH g n i,i≤t∧t<i+n
 | 0,_,t,h=>by cases h
 | n+1,i,t,h=>by
  unfold aCH at h;have I:t∈aCH g n (i+1)→i≤t∧t<i+(n+1):=fun h=>by have:=aOM g n (i+1) t h; omega
  cases hb:hasB g i
  ·rw[hb] at h; exact I h
  ·rw[hb] at h;rcases List.mem_cons.1 h with rfl|h
   ·omega
   ·exact I h
theorem aLg(g:Nat):∀(n i:Nat),(aCH g n i).length≤n
 | 0,_=>Nat.le_refl _
 | n+1,i=>by
  have:=aLg g n (i+1);unfold aCH;cases hb:hasB g i
  ·show (aCH g n (i+1)).length≤_; omega
  ·show (i::aCH g n (i+1)).length≤_; simp; omega
theorem aSj:∀l:List Nat,aVz l=l.length
 | []=>rfl
 | _::l=>by simp[aVz,aSj l]
theorem aON:∀(l:List Nat) (k t:Nat),(∀s∈l,s<512)→t<512→0<k→get 3 t (aOm l k)≠0→ ∃i,l[i]? = some t∧get 3 t (aOm l k)=k+i
 | [],k,t,I,ht,N,h=>by rw[aOm,aCo] at h; exact absurd rfl h
 | s::l,k,t,I,ht,N,h=>by
  by_cases e:t=s
  ·subst e;exact⟨0,rfl,by rw[aOm,qR]; rfl⟩
  ·rw[aOm,gU 3 s t _ _ (I s (.head _)) ht (Ne.symm e)] at h ⊢;obtain⟨i,U,J⟩:=aON l (k+1) t (fun s Y=>I s (.tail _ Y)) ht (by omega) h;refine⟨i+1,by simpa using U,?_⟩;have J:get 3 t (aOm l (Nat.succ k))=k+1+i:=J;omega
theorem bAn(n:Nat)(h:n≤511):n<8^lvl n:=by
 unfold lvl;cases I:Nat.blt n 7
 ·cases J:Nat.blt n 63
  ·show n<8^3; omega
  ·have:n<63:=(by simpa using J);show n<8^2; omega
 ·have:n<7:=by simpa using I
  show n<8^1; omega
theorem aZl(E:En)(I:Code){nt:Nat}(res:List ResultVar)(hn:nt≤511):XOK (xX E I nt res):=by
 have Y:∀s∈aIR I nt res,s<512:=fun s U=>by have:=aOM _ _ _ s U; omega
 have N:(aIR I nt res).length≤511:=Nat.le_trans (aLg _ _ _) hn;have J:∀t,(xX E I nt res).ix t≠0→ ∃i,(aIR I nt res)[i]? = some t∧(xX E I nt res).ix t=1+i:=fun t ht=>by
  unfold Fx.ix at ht ⊢;cases hb:Nat.blt t 512
  ·rw[hb] at ht; exact absurd rfl ht
  ·rw[hb] at ht;simp only[aS] at ht ⊢;exact aON (aIR I nt res) 1 t Y (by simpa using hb) (by omega) ht
 refine⟨fun s t U he=>?_,fun t=>?_⟩
 ·obtain⟨i,h1,h2⟩:=J s U;obtain⟨j,h3,h4⟩:=J t (he▸U);have:i=j:=by omega
  subst this;rw[h1] at h3;exact Option.some.inj h3
 ·show (xX E I nt res).ix t<8^lvl (aVz (aIR I nt res));rw[aSj];have hl:=bAn _ N;by_cases h0:(xX E I nt res).ix t=0
  ·rw[h0]; exact Nat.pow_pos (by decide)
  ·obtain⟨i,h1,h2⟩:=J t h0;have:=(List.getElem?_eq_some_iff.1 h1).1;omega
def aKa(x:Fx):List V→Nat→x.ε→x.ε
 | [],_,e=>e
 | v::l,k,e=>aKa x l (k+1) (bi (Nat.blt 0 (x.ix k)) (upd x.n (x.ix k) v e) e)
theorem aEe(x:Fx):∀(l:List V) (k:Nat) (e:x.ε) (c:x.ε→Bool),aIS x l k e c=c (aKa x l k e)
 | [],_,_,_=>rfl
 | v::l,k,e,c=>by
  cases hb:Nat.blt 0 (x.ix k)
  ·simp only[aIS,aKa,hb,aT]; exact aEe x l (k+1) e c
  ·simp only[aIS,aKa,hb,aS,put_eq,aV]; exact aEe x l (k+1) _ c
theorem aEf{x:Fx}(J:XOK x){j:Nat}(I:j<8^x.n):∀ {l:List V} {k:Nat} {e:x.ε},(∀i,k≤i→i<k+l.length→x.ix i≠0→x.ix i≠j)→get x.n j (aKa x l k e)=get x.n j e
  | [],_,_,_=>rfl
  | v::l,k,e,h=>by
    rw[aKa,aEf J I fun i Y U=>h i (by omega) (by simp; omega)];cases hb:Nat.blt 0 (x.ix k)
    · rfl
    · have N:0<x.ix k:=by simpa using hb
      have N:x.ix k≠0:=by omega
      exact gU _ _ _ _ _ (J.lt k) I (h k (Nat.le_refl _) (by simp) N)
theorem aSk{x:Fx}(J:XOK x){t:Nat}(ht:x.ix t≠0):∀ {l:List V} {k:Nat} {e:x.ε} {v:V},k≤t→l[t-k]? = some v→get x.n (x.ix t) (aKa x l k e)=v
 | [],_,_,_,_,h=>by simp at h
 | u::l,k,e,v,Y,I=>by
  by_cases N:k=t
  ·subst N;rw[Nat.sub_self] at I;cases I;rw[aKa,aEf J (J.lt _) fun i Y _ h3 U=>by have:=J.inj i k h3 U; omega];have hb:Nat.blt 0 (x.ix k)=true:=(by simp; omega);rw[hb];exact qR _ _ _ _
  ·rw[aKa];exact aSk J ht (by omega) (by rw[show t-k=(t-(k+1))+1 from by omega] at I; simpa using I)
theorem aOO{x:Fx}(U:XOK x){nt:Nat}{w0:World}{ρ:Rho}{m:M}{w:World}(hw:W w0 ρ m w)(hg:GR x.E ρ){vs:List V}{xs:List Value}(hv:VRL ρ vs xs):Sx x nt w0 ρ (aKa x vs 0 (aA7 (.z .u) x.n)) m { tmps:=xs.toArray++Array.replicate (nt-xs.toArray.size) Go.undef,defers:=[] } w:=by
 have h0:0<8^x.n:=Nat.pow_pos (by decide);have hu:∀x,VR ρ (.z .u) x↔x= .tuple #[]:=fun x=>by simp only[VR,zR]
 refine⟨hw,hg,fun t=>?_,by simp; omega,by rw[aEf U h0 fun i _ _ h=>h,aCo]; rfl⟩;by_cases ht:x.ix t=0
 ·rw[yW ht]; exact VR.junk _ _
 ·rw[vA ht];have hl:=hv.length;by_cases J:t<vs.length
  ·have Y:vs[t-0]? = some vs[t]:=(by simp[J]);rw[aSk U ht (Nat.zero_le _) Y];obtain⟨y,h1,h2⟩:=hv.get (i:=t) (by simp[J]:vs[t]? = some vs[t]);have:(xs.toArray++Array.replicate (nt-xs.toArray.size) Go.undef).getD t Go.undef=y:=by
    have N:t<xs.length:=(by omega);rw[List.getElem?_eq_getElem N] at h1;simp[Array.getElem?_append,N];exact Option.some.inj h1
   rw[this]; exact h2
  ·rw[aEf U (U.lt t) fun i _ h2 h3 he=>by have:=U.inj i t h3 he; omega,aCo,hu];have I:xs.length≤t:=(by omega);simp[Array.getElem?_append,I,Nat.not_lt.2 I,Go.undef];rw[Array.getElem?_replicate];split<;>rfl
def aSl(l:List Value):Value:=match l with| [v]=>v|l=>.tuple l.toArray
theorem zX{ρ:Rho}{l:List V}{xs:List Value}(h:VRL ρ l xs):VR ρ (aIT l) (aSl xs):=by
 have I:=h.length
 match l,xs,h,I with
 | [],[],h,_=>simp only[aIT,aSl,VR]; exact⟨[],rfl,h⟩
 | [v],[x],h,_ =>
  simp only[VRL] at h;obtain⟨y,U,N,J,Y⟩:=h;cases N;exact J
 | u::v::l,x::y::xs,h,_=>simp only[aIT,aSl,VR]; exact⟨_,rfl,h⟩
theorem aHM{P:Program}{x:Fx}(hE:fA P x.E){e:x.ε}{m:M}:∀ {res:List ResultVar} {c:List V→Bool},aJ7 x res e m c=true→ ∃l,c l=true∧ ∀ {nt:Nat} {w0:World} {ρ:Rho} {a:Act} {w:World},Sx x nt w0 ρ e m a w →
  ∀(g:ResultVar→Sem Value),(∀t,g (.tmp t)=pure (a.tmps.getD t Go.undef))→(∀s t,g (.cell s t)=(do loadVar t (← asAddr (a.tmps.getD s Go.undef))))→ ∃J:List Value,(List.mapM g res).run P w= .ok J w∧VRL ρ l J
 | [],c,h=>⟨[],h,fun I g h1 h2=>⟨[],by simp,by simp[VRL]⟩⟩
 | .tmp t::res,c,h=>by
  simp only[aJ7,eX (aLf x),aV] at h;obtain⟨l,h1,h2⟩:=aHM hE h;refine⟨_,h1,fun {nt w0 ρ a w} I g g1 U=>?_⟩;obtain⟨J,k1,k2⟩:=h2 I g g1 U;refine⟨a.tmps.getD t Go.undef::J,by simp[List.mapM_cons,g1,k1],?_⟩;simp only[VRL];exact⟨_,_,rfl,I.env t,k2⟩
 | .cell s ty::res,c,h=>by
  simp only[aJ7,eX (aLf x),aV] at h;obtain⟨h0,h⟩:=cA h;have ht:=pC hE h0;cases hg:oC (ti x.E ty)
  ·simp only[hg,aT] at h;obtain⟨a',o,w',l',v,Y,h4,h5,h6⟩:=aVD h;obtain⟨l,h1,h2⟩:=aHM hE h6;refine⟨_,h1,fun {nt w0 ρ a w} I g g1 U=>?_⟩;obtain⟨J,k1,k2⟩:=h2 I g g1 U;have hv:=I.env s;have Y:x.cx.look s e= .p a' o:=Y;rw[Y] at hv;simp only[VR] at hv;obtain⟨r,b,N,e1,e2⟩:=hv;obtain⟨_,_,xs,k3,k4⟩:=I.w.row e1 h4;obtain⟨u,k5,k6⟩:=k3.get h5;have:=k4 _ _ k5;refine⟨u::J,by simp[List.mapM_cons,U,e2,asAddr,loadVar,ht.agg,hg,this,k1],?_⟩;simp only[VRL];exact⟨_,_,rfl,k6,k2⟩
  ·simp only[hg,aS] at h;obtain⟨a',o,w',l',Y,h4,h5,h6⟩:=aVE h;obtain⟨l,h1,h2⟩:=aHM hE h6;refine⟨_,h1,fun {nt w0 ρ a w} I g g1 U=>?_⟩;obtain⟨J,q1,q2⟩:=h2 I g g1 U;have hv:=I.env s;have Y:x.cx.look s e= .p a' o:=Y;rw[Y] at hv;simp only[VR] at hv;obtain⟨r,b,N,e1,e2⟩:=hv;obtain⟨k1,k2,xs,k3,k4⟩:=I.w.row e1 h4;have k5:=run_loadCells_list (P:=P) w ⟨r,b+o,none⟩ ((xs.drop o).take (ti x.E ty).n) (wP k4);have hl:((xs.drop o).take (ti x.E ty).n).length=(ti x.E ty).n:=by
    have:=k3.length;simp; omega
   rw[hl] at k5;refine⟨_::J,by simp[List.mapM_cons,U,e2,asAddr,loadVar,ht.agg,hg,ht.size,k5,q1]; rfl,?_⟩;simp only[VRL];exact⟨_,_,rfl,((k3.drop o).take (ti x.E ty).n).agg (aFv k1 _ _),q2⟩
theorem aI7{P:Program}{fn:Func}{res:List ResultVar}(N:fn.results.toList=res){tmps:Array Value}{w:World}{R:List Value→Prop}
  (h:∀(g:ResultVar→Sem Value),(∀t,g (.tmp t)=pure (tmps.getD t Go.undef))→(∀s t,g (.cell s t)=(do loadVar t (← asAddr (tmps.getD s Go.undef))))→ ∃I:List Value,(List.mapM g res).run P w= .ok I w∧R I) :
  ∃I,(results fn tmps).run P w= .ok (aSl I) w∧R I:=by
 have N:fn.results=res.toArray:=by rw[← N]
 unfold results;rw[N];simp only[Sem.run_bind];rw[List.mapM_toArray,Sem.run_map];generalize hm:(List.mapM _ res:Sem (List Value))=mm;have J:∀(g:ResultVar→Sem Value),(∀t,g (.tmp t)=pure (tmps.getD t Go.undef))→(∀s t,g (.cell s t)=(do loadVar t (← asAddr (tmps.getD s Go.undef))))→List.mapM g res=mm →
   ∃I:List Value,mm.run P w= .ok I w∧R I:=fun g U Y e=>by
  subst e; exact h g U Y
 obtain⟨I,q1,q2⟩:=J _ (fun t=>rfl) (fun s t=>rfl) hm;refine⟨I,?_,q2⟩;rw[q1];simp only[Result.andThen_ok,Sem.run_pure]
 congr 1
 match I with
 | []=>rfl
 | [v]=>rfl
 | a::b::r =>
  rw[dif_neg (by simp)];rfl
end
end Go.It
namespace Go.It
noncomputable section
open Go.RowKit
open Go.Vc (bG aY)
def aOP(P:Program)(E:En)(f:FuncId)(g:List V→M→(V→Bool)→Bool):Prop:=∀vs m c,g vs m c=true→ ∃u,c u=true∧ ∀(w0:World) (ρ:Rho) (w:World) (xs:List Value),W w0 ρ m w→GR E ρ→VRL ρ vs xs→aOJ P f xs.toArray w fun e w'=>∃v,e= .returned v∧VR ρ u v∧But w.heap.size w w'
def bBn(P:Program)(E:En)(f:FuncId)(g:List V→M→(V→M→Bool)→Bool):Prop:=∀vs m I,g vs m I=true→ ∃u m',I u m'=true∧m.nx≤m'.nx∧ ∀(w0:World) (ρ:Rho) (w:World) (xs:List Value),W w0 ρ m w→GR E ρ→VRL ρ vs xs→aOJ P f xs.toArray w (aGS w0 ρ m false u m')
structure aTD(P:Program)(E:En):Prop where
 fi:∀f cd nt res,f<4096→get 4 f E.ft= .fi cd nt res→ ∃fn,P.funcs[f]? = some fn∧fn.body=some cd∧fn.ntmps=nt∧fn.results.toList=res∧fn.name ≠ "runtime.NumGoroutine" ∧ aDq nt cd=true∧nt≤511
 nat:∀f g,f<4096→get 4 f E.ft= .nat g→aOP P E f g
 mem:∀f g,f<4096→get 4 f E.ft= .mem g→bBn P E f g
theorem aFB{P:Program}{f:FuncId}{fn:Func}{U:Code}{args:Array Value}{w:World}(I:P.funcs[f]? = some fn)(J:fn.body=some U)(N:fn.name ≠ "runtime.NumGoroutine"):(callFunc f args).run P w= .ok (.enter f args) w:=by
 simp[callFunc,I,J,N]
theorem aHN{P:Program}{ops:Array Oper}{cs:List Frame}{Q:Exit→Act→List Frame→World→Prop}(J:¬LetsOut fun e a w=>Q e a cs w):∀(l:List Nat) (a:Act) (w:World),wpOps P ops (fun e a w=>Q e a cs w) l a w→wpOpsS P ops Q l a cs w
 | [],a,w,I=>I
 | i::rest,a,w,I=>by
  unfold wpOps at I;unfold wpOpsS;cases U:ops[i]? with
  | none=>simp only[U] at I ⊢; exact aHN J rest a w I
  | some o =>
   simp only[U] at I ⊢;split
   ·rename_i N;simp only[N,if_true] at I;have I:=Oper.wp_mono (fun a w=>aHN J rest a w) (I.resolve_right fun q=>J q.2);unfold Oper.wp at I;revert I;generalize (execOp a.eval o).run P w=r;intro I;split
    ·exact I.elim
    ·exact I
   ·rename_i N;simp only[N,if_false] at I;exact aHN J rest _ w I
def aEg(ρ:Rho)(p:Option V)(u:FrameMode):Prop:=match p with
 | none=>u= .returning
 | some v=>∃x,u= .panicking [{ v:=x,recovered:=false }]∧VR ρ v x
theorem aEg.run{ρ:Rho}{p:Option V}{u:FrameMode}(h:aEg ρ p u):u≠ .run:=by
 cases p with
 | none=>intro e; rw[e] at h; cases h
 | some v=>obtain⟨x,rfl,_⟩:=h; intro e; cases e
theorem DR.nil{ρ:Rho}{ds:List Deferred}(h:DR ρ (.z .u) ds):ds= []:=by
 cases ds with
 | nil=>rfl
 | cons d ds=>obtain⟨_,_,_,_,_,h,_⟩:=h; cases h
theorem Sx.put{x:Fx}(N:XOK x){nt:Nat}{w0:World}{ρ:Rho}{e:x.ε}{m:M}{a:Act}{w:World}(h:Sx x nt w0 ρ e m a w){d:Nat}(hd:d<nt){v:V}{u:Value}(hv:VR ρ v u):Sx x nt w0 ρ (bi (Nat.blt 0 (x.ix d)) (upd x.n (x.ix d) v e) e) m (a.put (some d) u) w:=by
 have h0:0<8^x.n:=Nat.pow_pos (by decide);have J:d<a.tmps.size:=Nat.lt_of_lt_of_le hd h.sz;have Y:nt≤(a.put (some d) u).tmps.size:=by have:=h.sz; simpa [Act.put] using this
 cases hb:Nat.blt 0 (x.ix d)
 ·have U:x.ix d=0:=by
   rcases Nat.eq_zero_or_pos (x.ix d) with h|h
   ·exact h
   ·rw[show Nat.blt 0 (x.ix d)=true by simpa using h] at hb; cases hb
  simp only[aT];refine⟨h.w,h.gl,fun t=>?_,Y,h.df⟩;rw[vB J];split
  ·rename_i I; rw[I,yW U]; exact VR.junk _ _
  ·exact h.env t
 ·have U:x.ix d≠0:=by
   have:0<x.ix d:=(by simpa using hb);omega
  simp only[aS];refine⟨h.w,h.gl,fun t=>?_,Y,by rw[gU _ _ _ _ _ (N.lt d) h0 U]; exact h.df⟩;rw[vB J];by_cases ht:x.ix t=0
  ·rw[yW ht]; exact VR.junk _ _
  ·rw[vA ht];by_cases I:t=d
   ·rw[if_pos I,I,qR]; exact hv
   ·rw[if_neg I,gU _ _ _ _ _ (N.lt d) (N.lt t) fun he=>I (N.inj d t U he).symm];have:=h.env t
    rwa [vA ht] at this
theorem aV8{P:Program}{o:Oper}(h:kd o= .recov)(ev:Operand→Value)(w:World):(execOp ev o).run P w= .ok .recover w:=by
 obtain⟨dst,op,ty,pos,aft,gd⟩:=o;unfold kd at h;cases op<;>first|(cases h; done)|skip
 case makeFunc fn _ _=>cases fn<;>cases h
 case makeMap _ r=>cases r<;>cases h
 case call c =>
  obtain⟨cl,args,I⟩:=c;cases cl<;>first|(cases h; done)|skip
  case builtin b =>
   cases b<;>first|(cases h; done)|skip
   ·simp only[an,aVt,aVs] at h; split at h<;>cases h
   ·simp[execOp,resolve,invoke,builtin]
 case defer c =>
  obtain⟨cl,args,I⟩:=c;cases cl<;>cases h
section
variable {P:Program} {E:En}
theorem aYk(hD:aFA P)(w00:World)(hE:fA P E){g:FuncId}{fn:Func}{cd:Code}{nt:Nat}(hf:P.funcs[g]? = some fn)(hb:fn.body=some cd)(hn:fn.ntmps=nt)(hres:fn.results.toList= [])(hdst:aDq nt cd=true)(hnt:nt≤511){cf:CF}(hcf:aGV P E cf)
  {d:Option Tmp} {ops:Array Oper} {l:List Oper} {rest:Code} (U:aZ5 cd=some (d,ops,l,rest)) {cs:List V} {p:Option V} {m:M} {c:M→Bool} {cd':Code} (h:aVB (xX E cd' nt []) cf d ops l rest cs p m c=true) :
  ∃m',c m'=true∧m.nx≤m'.nx∧ ∀(w0:World) (ρ:Rho) (w:World) (xs:List Value) (u:FrameMode),W w0 ρ m w→GR E ρ→VRL ρ cs xs→aEg ρ p u→CallsD P g xs.toArray u w fun e u' w'=>(∃v,e= .returned v)∧settle u'= .returning∧ ∃ρ',Ext m ρ ρ'∧W w0 ρ' m' w':=by
 have hx:=aZl E cd' [] hnt;generalize hxd:xX E cd' nt []=x at h hx;have hxE:x.E=E:=by rw[← hxd]; rfl
 have hEx:fA P x.E:=by rw[hxE]; exact hE
 unfold aZ5 at U;split at U<;>first|(cases U; done)|skip
 rename_i id J Y;split at U<;>first|(cases U; done)|skip
 rename_i o l' hol;split at U<;>first|(cases U; done)|skip
 rename_i hk hg;simp only[Option.some.injEq,Prod.mk.injEq] at U;obtain⟨rfl,rfl,rfl,rfl⟩:=U;simp only[aDq,Bool.and_eq_true] at hdst;have hdl:=aV7 hdst.1;simp only[aVB,aEe] at h;have hput:∀(v:V) (e:x.ε) (c:x.ε→Bool),aZ6 x o.dst v e c=true→ ∃e',c e'=true∧ ∀ {w0:World} {ρ:Rho} {a:Act} {w:World} {u:Value},Sx x nt w0 ρ e m a w→VR ρ v u→Sx x nt w0 ρ e' m (a.put o.dst u) w:=fun v e c hc=>by
  unfold aZ6 at hc;split at hc
  ·rename_i d hd;have hdn:d<nt:=hdl o (by rw[hol]; exact .head _) d hd;have key:c (bi (Nat.blt 0 (x.ix d)) (upd x.n (x.ix d) v e) e)=true:=by
    cases hb:Nat.blt 0 (x.ix d)
    ·rw[hb] at hc; exact hc
    ·simp only[hb,aS,put_eq,aV] at hc; exact hc
   exact⟨_,key,fun hs hv=>by rw[hd]; exact hs.put hx hdn hv⟩
  ·rename_i hd;exact⟨e,hc,fun hs hv=>by rw[hd]; exact hs⟩
 obtain⟨e0,h,hs0⟩:=hput _ _ _ h;cases ha:aBC x J l' x.cx (fun e=>e) [] with
 | mk fa =>
  cases hr:trC x Y with
  | mk fb =>
   simp only[ha,hr,aV] at h;have hsz:J.size=l'.length+1:=by
    have:J.toList.length=l'.length+1:=by rw[hol]; rfl
    simpa using this
   have hcfx:aGV P x.E cf:=(by rw[hxE]; exact hcf);obtain⟨y1,e1,m1,a1,a2,a3⟩:=aI6 (P:=P) (nt:=nt) (ops:=J) hx hEx w00 l' 1 x.cx _ [] fa (fun j o' hj=>by
     rw[← Array.getElem?_toList,hol,Nat.add_comm]; exact hj) (aLf x) rfl (fun d hd=>by cases hd) (fun o' ho=>hdl o' (by rw[hol]; exact .tail _ ho)) ha e0 m _ hcfx h
   cases y1 with
   | some y=>cases a1
   | none =>
    have a1:fb e1 m1 ⟨cf,aVA x c,kxD x c⟩=true:=a1;obtain⟨y2,e2,m2,b1,b2,b3⟩:=aSi hD w00 (nt:=nt) hx hEx Y fb hdst.2 hr e1 m1 _ hcfx a1;have N:aVA x c e2 m2=true∧(y2=none∨y2=some .rt):=by
     cases y2 with
     | none=>exact⟨b1,.inl rfl⟩
     | some y=>cases y<;>first|exact⟨b1,.inr rfl⟩|cases b1
    obtain⟨N,hy2⟩:=N;simp only[aVA,aBD,aV] at N;split at N<;>first|(cases N; done)|skip
    rename_i hz;refine⟨m2,N,Nat.le_trans a2 b2,fun w0 ρ w xs u hw hgl hv hm=>?_⟩;refine callsD_of_wpS hf hb fun I fs hc₀=>?_;refine wpS_seq (wpS_region ?_);have hrange:List.range J.size=0::List.range' 1 l'.length:=(by rw[hsz,List.range_eq_range',List.range'_succ]);rw[hrange];unfold wpOpsS;have h0:J[0]? = some o:=(by rw[← Array.getElem?_toList,hol]; rfl);simp only[h0];rw[if_pos (by unfold Region.wanted; rw[hg])];rw[aV8 hk];have hs:=aOO hx (nt:=nt) hw (by rw[hxE]; exact hgl) hv;rw[← hn] at hs;have key:∀(v:Value) (c₁:Frame) (u1:FrameMode),c₁={ I with mode:=u1 }→settle u1= .returning→VR ρ (aZ7 p) v →
      wpOpsS P J (Exit.thenS (Y.wpS P (bodyPostS P fn I fs fun e u' w'=>(∃v,e= .returned v)∧settle u'= .returning∧ ∃ρ',Ext m ρ ρ'∧W w0 ρ' m2 w')) (bodyPostS P fn I fs fun e u' w'=>(∃v,e= .returned v)∧settle u'= .returning∧ ∃ρ',Ext m ρ ρ'∧W w0 ρ' m2 w'))
       (List.range' 1 l'.length) (({ tmps:=xs.toArray++Array.replicate (fn.ntmps-xs.toArray.size) undef,defers:=[] }:Act).put o.dst v) (c₁::fs) w:=fun v c₁ u1 hc₁ hu1 hvv=>by
     refine aHN ?_ _ _ _ ?_
     ·rintro⟨a',w',u',⟨_,e⟩,_⟩;cases e
     ·have hs1:=hs0 (w0:=w0) (ρ:=ρ) (w:=w) (u:=v) (by rw[hn] at hs; exact hs) hvv;rw[hn];refine a3 w0 ρ _ w _ hs1.rg fun ex a' w' hp=>?_;obtain⟨ρ1,p1,p2,p3⟩:=hp;obtain rfl:=p2.norm;refine wpS_of_wp (b3 w0 ρ1 a' w' _ p3 fun ex a2' w2 hp2=>?_);obtain⟨ρ2,r1,r2,r3⟩:=hp2;have hdz:a2'.defers= []:=DR.nil (by have:=r3.df; rwa [hz] at this);obtain⟨us,q1,_⟩:=aI7 (P:=P) (w:=w2) (tmps:=a2'.tmps) hres (R:=fun _=>True) fun g _ _=>⟨[],by rw[List.mapM_nil]; rfl,trivial⟩;have fin:a2'.defers= []∧ ∃u',c₁::fs={ I with mode:=u' }::fs∧ ∃v,(results fn a2'.tmps).run P w2= .ok v w2∧(∃v',Ending.returned v= .returned v')∧settle u'= .returning∧ ∃ρ',Ext m ρ ρ'∧W w0 ρ' m2 w2 :=
       ⟨hdz,u1,by rw[hc₁],_,q1,⟨_,rfl⟩,hu1,ρ2,p1.trans a2 r1,r3.w⟩
      rcases hy2 with rfl|rfl
      ·obtain rfl:=r2.norm;exact fin
      ·cases ex<;>first|exact r2.elim|exact fin
    cases p with
    | none =>
     have hu:u= .returning:=hm;have e1:I.mode= .returning:=hc₀.trans hu;have e2:recoverD (I::fs)=none:=(by simp[recoverD,e1]);rw[e2];exact key .nilIface I .returning (by rw[← e1]) rfl (by simp only[aZ7,VR,zR])
    | some v =>
     obtain⟨y,hy,hvy⟩:=hm;have e1:I.mode= .panicking [{ v:=y,recovered:=false }]:=hc₀.trans hy;have e2:recoverD (I::fs)=some (y,{ I with mode:=.panicking ({ v:=y,recovered:=true }:: []) }::fs):=(by simp[recoverD,e1]);rw[e2];exact key y _ (.panicking [{ v:=y,recovered:=true }]) rfl rfl hvy
theorem aSm(hD:aFA P)(N:World)(hE:fA P E)(hF:aTD P E){cf:CF}(U:aGV P E cf):∀(n:Nat) (ds:V) (p:Option V) (m:M) (k:Option V→M→Bool),aX1 E cf n ds p m k=true →
  ∃p' m',k p' m'=true∧m.nx≤m'.nx∧ ∀(w0:World) (ρ:Rho) (w:World) (dl:List Deferred) (u:FrameMode) (fn:Func) (tmps:Array Value) (R:Ending→World→Prop),W w0 ρ m w→GR E ρ→DR ρ ds dl→aEg ρ p u →
   (∀ρ' w' Y,Ext m ρ ρ'→W w0 ρ' m' w'→aEg ρ' p' Y→Leaves P fn tmps R [] Y w')→Leaves P fn tmps R dl u w
 | 0,ds,p,m,k,h=>by cases h
 | n+1,ds,p,m,k,h=>by
  have h:aZ8 E cf (aX1 E cf n) ds p m k=true:=h;unfold aZ8 at h;split at h<;>first|(cases h; done)|skip
  ·refine⟨p,m,h,Nat.le_refl _,fun w0 ρ w dl u fn tmps R hw hg hd hm hR=>?_⟩;obtain rfl:=DR.nil hd;exact hR ρ w u (.refl _ _) hw hm
  ·rename_i g cs old _;split at h<;>first|(cases h; done)|skip
   rename_i cd nt I;split at h<;>first|(cases h; done)|skip
   rename_i d ops l rest hdf;have J:g<4096:=by
    cases hb:Nat.blt g 4096
    ·rw[hb] at I; cases I
    ·simpa using hb
   have hb:Nat.blt g 4096=true:=(by simpa using J);rw[hb] at I;obtain⟨fg,f1,f2,f3,f4,f5,f6,f7⟩:=hF.fi g cd nt [] J I;obtain⟨m1,c1,c2,c3⟩:=aYk hD N hE f1 f2 f3 f4 f6 f7 U hdf h;obtain⟨p',m',k1,k2,k3⟩:=aSm hD N hE hF U n old none m1 k c1;refine⟨p',m',k1,Nat.le_trans c2 k2,fun w0 ρ w dl u fn tmps R hw hg hd hm hR=>?_⟩;cases dl with
   | nil=>cases hd
   | cons d0 dl =>
    obtain⟨g',l',old',xs,ys,q1,rfl,q3,q4⟩:=hd;simp only[V.tup.injEq,List.cons.injEq,V.fn.injEq,and_true,true_and] at q1;obtain⟨⟨rfl,rfl⟩,rfl⟩:=q1;refine leaves_cons (f:=g) (args:=xs++ys) hm.run ?_ ?_
    ·simp only[invoke];exact aFB f1 f2 f5
    ·have:=c3 w0 ρ w (xs++ys).toList u hw hg q3 hm;rw[Array.toArray_toList] at this;refine CallsD.mono this fun e Y w' hh=>?_;obtain⟨⟨v,rfl⟩,h2,ρ',h3,h4⟩:=hh;show Leaves P fn tmps R dl (settle Y) w';rw[h2];exact k3 w0 ρ' w' dl .returning fn tmps R h4 (fun g=>(hg g).mono h3.1) (q4.mono h3.1) rfl fun ρ2 w2 u2 r1 r2 r3=>hR ρ2 w2 u2 (h3.trans c2 r1) r2 r3
theorem bAo(hD:aFA P)(w00:World){x:Fx}(hE:fA P x.E)(hF:aTD P x.E){fn:Func}{res:List ResultVar}(hres:fn.results.toList=res){cf:CF}(hcf:aGV P x.E cf){kr kp:V→M→Bool}{p:Option V}{e:x.ε}{m:M}(h:aOn x cf res kr kp p e m=true) :
  ∃(b:Bool) (u:V) (m':M),(bi b (kp u m') (kr u m'))=true∧m.nx≤m'.nx∧ ∀(nt:Nat) (w0:World) (ρ:Rho) (a:Act) (w:World) (J:FrameMode),Sx x nt w0 ρ e m a w→aEg ρ p J→Leaves P fn a.tmps (aGS w0 ρ m b u m') a.defers J w:=by
 have leaf:∀ {m1:M} {p:Option V},(match p with|none=>aJ7 x res e m1 fun l=>kr (aIT l) m1|some v=>kp v m1)=true→ ∃(b:Bool) (u:V),(bi b (kp u m1) (kr u m1))=true ∧
   ∀(nt:Nat) (w0:World) (ρ N:Rho) (a:Act) (w:World) (J:FrameMode),Sx x nt w0 N e m1 a w→Ext m ρ N→aEg N p J→Leaves P fn a.tmps (aGS w0 ρ m b u m1) [] J w:=fun {m1 p} h=>by
  cases p with
  | none =>
   obtain⟨l,h1,h2⟩:=aHM hE h;refine⟨false,_,h1,fun nt w0 ρ N a w J I hx U=>?_⟩;have U:J= .returning:=U;subst U;obtain⟨us,Y,k2⟩:=aI7 (P:=P) (w:=w) (tmps:=a.tmps) hres fun g g1 g2=>h2 I g g1 g2;exact⟨_,Y,N,_,hx,I.w,zX k2,rfl⟩
  | some v =>
   refine⟨true,v,h,fun nt w0 ρ N a w J I hx U=>?_⟩;obtain⟨y,rfl,hv⟩:=U;exact⟨N,y,hx,I.w,hv,rfl⟩
 have run:aX1 x.E cf 100 (get x.n 0 e) p m (fun p m=>match p with|none=>aJ7 x res e m fun l=>kr (aIT l) m|some v=>kp v m)=true→ ∃(b:Bool) (u:V) (m':M),(bi b (kp u m') (kr u m'))=true∧m.nx≤m'.nx ∧
   ∀(nt:Nat) (w0:World) (ρ:Rho) (a:Act) (w:World) (J:FrameMode),Sx x nt w0 ρ e m a w→aEg ρ p J→Leaves P fn a.tmps (aGS w0 ρ m b u m') a.defers J w:=fun h=>by
  obtain⟨p',m',h1,h2,h3⟩:=aSm hD w00 hE hF hcf 100 _ _ _ _ h;obtain⟨b,u,Y,k2⟩:=leaf h1;refine⟨b,u,m',Y,h2,fun nt w0 ρ a w J I U=>?_⟩;refine h3 w0 ρ w a.defers J fn a.tmps _ I.w I.gl I.df U fun ρ' w' u' r1 r2 r3=>k2 nt w0 ρ ρ' { a with defers:=a.defers } w' u' ⟨r2,fun g=>(I.gl g).mono r1.1,fun t=>(I.env t).mono r1.1,I.sz,I.df.mono r1.1⟩ r1 r3
 simp only[aOn,aBD,aV] at h;split at h
 ·rename_i hz;obtain⟨b,u,Y,k2⟩:=leaf (p:=none) h;refine⟨b,u,m,Y,Nat.le_refl _,fun nt w0 ρ a w J I U=>?_⟩;have hdz:a.defers= []:=DR.nil (by have:=I.df; rwa [hz] at this);rw[hdz];exact k2 nt w0 ρ ρ a w J I (.refl _ _) U
 ·rename_i v hz;obtain⟨b,u,Y,k2⟩:=leaf (p:=some v) h;refine⟨b,u,m,Y,Nat.le_refl _,fun nt w0 ρ a w J I U=>?_⟩;have hdz:a.defers= []:=DR.nil (by have:=I.df; rwa [hz] at this);rw[hdz];exact k2 nt w0 ρ ρ a w J I (.refl _ _) U
 ·exact run h
theorem aBI{fn:Func}{tmps:Array Value}{R R':Ending→World→Prop}(I:∀e w,R e w→R' e w):∀ {ds:List Deferred} {u:FrameMode} {w:World},Leaves P fn tmps R ds u w→Leaves P fn tmps R' ds u w
 | [],.returning,w,⟨v,U,J⟩=>⟨v,U,I _ _ J⟩
 | [],.panicking ch,w,h=>I _ _ h
 | [],.run,w,h=>h.elim
 | d::ds,u,w,⟨U,fv,Y,f,args,J,h3,h4⟩=>⟨U,fv,Y,f,args,J,h3,h4.mono fun e u' w' N=>by
   cases e with
   | returned v=>exact aBI I N
   | panicked ch=>exact aBI I N
   | outgrown=>exact I _ _ N⟩
theorem aOQ(hD:aFA P)(U:World)(hE:fA P E)(hF:aTD P E):∀n,aGV P E (aAS E n)
 | 0=>fun f vs m kr kp h=>by cases h
 | n+1=>fun f vs m kr kp h=>by
  have hcf:=aOQ hD U hE hF n;have h:(bi (Nat.blt f 4096) (unb (acc 4 f) fun ff=>aVC E (aAS E n) f vs m kr kp (ff E.ft)) false)=true:=h;obtain⟨J,h⟩:=cA h;have J:f<4096:=by simpa using J
  simp only[aBD,aV] at h;unfold aVC at h;split at h
  ·cases h
  ·rename_i g hg;obtain⟨u,h1,h2⟩:=hF.nat f g J hg _ _ _ h;exact⟨false,u,m,h1,Nat.le_refl _,fun w0 ρ w xs hw Y hv=>(h2 w0 ρ w xs hw Y hv).mono fun e w' ⟨v,e1,e2,e3⟩=>⟨ρ,v,.refl _ _,hw.same e3,e2,e1⟩⟩
  ·rename_i g hg;obtain⟨u,m',h1,h2,h3⟩:=hF.mem f g J hg _ _ _ h;exact⟨false,u,m',h1,h2,h3⟩
  ·rename_i N nt res hg;obtain⟨fn,f1,f2,f3,f4,f5,f6,f7⟩:=hF.fi f N nt res J hg;have hx:=aZl E N res f7;cases hc:trC (xX E N nt res) N with
   | mk code =>
    simp only[hc,aEe,aV] at h;obtain⟨y,e1,m1,a1,a2,a3⟩:=aSi hD U (nt:=nt) hx hE N code f6 hc _ m ⟨aAS E n,fun e m=>aOn (xX E N nt res) (aAS E n) res kr kp none e m,kxF (xX E N nt res) (aAS E n) res kr kp⟩ hcf h;have fin:∃p,aOn (xX E N nt res) (aAS E n) res kr kp p e1 m1=true∧ ∀(ρ':Rho) (ex:Exit),ExR ρ' y ex→ ∃md,aEg ρ' p md∧ ∀(R:Ending→World→Prop) (a:Act) (w:World),Leaves P fn a.tmps R a.defers md w→bodyPostD P fn R ex a w:=by
     cases y with
     | none=>exact⟨none,a1,fun ρ' ex I=>⟨.returning,rfl,fun R a w hl=>by obtain rfl:=I.norm; exact hl⟩⟩
     | some y =>
      cases y with
      | ex i=>cases a1
      | rt=>exact⟨none,a1,fun ρ' ex I=>⟨.returning,rfl,fun R a w hl=>by cases ex<;>first|exact I.elim|exact hl⟩⟩
      | pan v =>
       refine⟨some v,a1,fun ρ' ex I=>?_⟩;cases ex<;>first|exact I.elim|skip
       obtain⟨y,rfl,hv⟩:=I;exact⟨_,⟨y,rfl,hv⟩,fun R a w hl=>hl⟩
    obtain⟨p,hp,I⟩:=fin;obtain⟨b,u,m2,b1,b2,b3⟩:=bAo hD U (x:=xX E N nt res) hE hF f4 hcf hp;refine⟨b,u,m2,b1,Nat.le_trans a2 b2,fun w0 ρ w xs hw Y hv=>.inr ⟨aFB f1 f2 f5,calls_of_wp_defers f1 f2 ?_⟩⟩;rw[f3];refine a3 w0 ρ _ w _ (aOO hx hw Y hv) fun ex a' w' hpo=>?_;obtain⟨ρ',p1,p2,p3⟩:=hpo;obtain⟨md,q1,q2⟩:=I ρ' ex p2;refine q2 _ a' w' ?_;have:=b3 nt w0 ρ' a' w' md p3 q1;exact aBI (fun e w ⟨ρ2,v,r1,r2,r3,r4⟩=>⟨ρ2,v,p1.trans a2 r1,r2,r3,r4⟩) this
end
end
end Go.It

