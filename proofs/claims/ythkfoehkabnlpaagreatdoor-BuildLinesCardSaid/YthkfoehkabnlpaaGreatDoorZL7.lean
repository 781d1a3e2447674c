import Derived.Test.YthkfoehkabnlpaaGreatDoorZL6
import Derived.Laws.BytesString
import Derived.Laws.MakeOwn
import Derived.Laws.IdiomStrings
import Derived.Laws.IdiomCopy
import Derived.MapKept
set_option linter.unusedVariables false
set_option linter.unusedSimpArgs false
namespace Go.It
noncomputable section
open Go.RowKit
open Go.Vc (bG aY)
theorem aX{P:Program}{t:TypeId}{d:TypeDesc}(h:P.underlying t=some d)(w:World):(underlying t).run P w= .ok d w:=by simp[underlying,h]
section
variable {P:Program} {t:TypeId} {i:TI}
theorem qX.part_one(h:qX P t i)(I:oC i=false){cs:Array Value}{off:Nat}{v:Value}(hv:cs[off]? = some v)(w:World):(part t cs off).run P w= .ok v w:=by
 simp[part,h.agg,I,hv]
theorem qX.part_agg(h:qX P t i)(I:oC i=true)(cs:Array Value)(off:Nat)(w:World):(part t cs off).run P w= .ok (.agg (cs.extract off (off+i.n))) w:=by
 simp[part,h.agg,I,h.size]
theorem qX.kind(h:qX P t i):∃d,P.underlying t=some d∧kR d i.k:=h.desc
end
def EqF(P:Program)(t:TypeId)(g:V→V→Option Bool):Prop:=∀(v u:V) (r:Bool) (ρ:Rho) (a b:Value),g v u=some r→VR ρ v a→VR ρ u b→ ∀(w:World) (d:Nat),(Op.equalIn (d+1) t a b).run P w= .ok r w
def EqR(P:Program)(t:TypeId)(g:V→V→Option Bool):Prop:=∀(v u:V) (r:Bool) (ρ:Rho) (a b:Value),g v u=some r→VR ρ v a→VR ρ u b→ ∀(w:World) (d:Nat),(Op.equalIn (d+2) t a b).run P w= .ok r w
theorem EqF.r{P:Program}{t:TypeId}{g:V→V→Option Bool}(h:EqF P t g):EqR P t g:=fun v u r ρ a b I J N w d=>h v u r ρ a b I J N w (d+1)
theorem aOu{v u:V}{r:Bool}(h:qI v u=some r){ρ:Rho}{a b:Value}(I:VR ρ v a)(hb:VR ρ u b):∃k x y,a= .int k x∧b= .int k y∧(x == y)=r:=by
 unfold qI at h;split at h
 ·simp only[Option.some.injEq] at h;simp only[VR] at I hb;exact⟨_,_,_,I.1,hb.1,by rw[← h,Bool.eq_iff_iff]; simp[aEd (k:=.i64) I.2 hb.2]⟩
 ·simp only[Option.some.injEq] at h;simp only[VR] at I hb;exact⟨_,_,_,I.1,hb.1,by rw[← h,Bool.eq_iff_iff]; simp[Int.natCast_inj]⟩
 ·rename_i j x k y;simp only[VR] at I hb;cases J:keq j k
  ·rw[J] at h; cases h
  ·rw[J] at h;simp only[aS,Option.some.injEq] at h;have:=aFs J;subst this;exact⟨_,_,_,I.1,hb.1,by rw[← h,Bool.eq_iff_iff]; simp[aEd I.2 hb.2]⟩
 ·cases h
theorem EqF.qI{P:Program}{t:TypeId}{k:IntKind}(ht:P.underlying t=some (.int k)):EqF P t Go.It.qI:=fun v u r ρ a b h I hb w d=>by
 obtain⟨j,x,y,rfl,rfl,e⟩:=aOu h I hb
 (rw[← e,← run_equalIn_int w d t _ _ _ _ ht])
theorem EqF.qB{P:Program}{t:TypeId}(ht:P.underlying t=some .bool):EqF P t Go.It.qB:=fun v u r ρ a b h I hb w d=>by
 unfold Go.It.qB at h;split at h
 ·rename_i x y;simp only[VR] at I hb;subst I hb;have e:(x == y)=r:=by
   simp only[Option.some.injEq] at h;rw[← h]; cases x<;>cases y<;>rfl
  (rw[Op.equalIn,Sem.run_bind,aX ht,← e]; first|rfl|(exact if_pos rfl))
 ·cases h
theorem EqF.qS{P:Program}{t:TypeId}(ht:P.underlying t=some .string):EqF P t Go.It.qS:=fun v u r ρ a b h I hb w d=>by
 unfold Go.It.qS at h;split at h
 ·simp only[VR] at I hb;obtain⟨s,rfl,U,N,Y⟩:=I;obtain⟨q,rfl,r1,J,r3⟩:=hb;have e:(s.toList == q.toList)=r:=by
   simp only[Option.some.injEq] at h;rw[aI0,U,N,r1,J]; exact h
  rw[run_equalIn_string w _ t _ _ ht,e]
 ·cases h
theorem EqF.qP{P:Program}{t:TypeId}{e:TypeId}(ht:P.underlying t=some (.pointer e)):EqF P t Go.It.qP:=fun v u r ρ a b h I hb w d=>by
 unfold Go.It.qP at h;split at h<;>first|(cases h; done)|skip
 all_goals
  simp only[Option.some.injEq] at h;subst h;simp only[VR,zR] at I hb
 ·subst I hb; (rw[Op.equalIn,Sem.run_bind,aX ht]; rfl)
 ·obtain⟨_,_,_,_,rfl⟩:=I; subst hb; (rw[Op.equalIn,Sem.run_bind,aX ht]; rfl)
 ·obtain⟨_,_,_,_,rfl⟩:=hb; subst I; (rw[Op.equalIn,Sem.run_bind,aX ht]; rfl)
theorem EqF.qSl{P:Program}{t:TypeId}{e:TypeId}(ht:P.underlying t=some (.slice e)):EqF P t Go.It.qSl:=fun v u r ρ a b h I hb w d=>by
 unfold Go.It.qSl at h;split at h<;>first|(cases h; done)|skip
 all_goals
  simp only[Option.some.injEq] at h;subst h;simp only[VR,zR] at I hb
 ·subst I hb; (rw[Op.equalIn,Sem.run_bind,aX ht]; rfl)
 ·obtain⟨_,_,rfl,_⟩:=I; subst hb; (rw[Op.equalIn,Sem.run_bind,aX ht]; rfl)
 ·obtain⟨_,_,rfl,_⟩:=hb; subst I; (rw[Op.equalIn,Sem.run_bind,aX ht]; rfl)
theorem EqF.qM{P:Program}{t:TypeId}{k e:TypeId}(ht:P.underlying t=some (.map k e)):EqF P t Go.It.qM:=fun v u r ρ a b h I hb w d=>by
 unfold Go.It.qM at h;split at h<;>first|(cases h; done)|skip
 all_goals
  simp only[Option.some.injEq] at h;subst h;simp only[VR,zR] at I hb
 ·subst I hb; (rw[Op.equalIn,Sem.run_bind,aX ht]; rfl)
 ·obtain⟨_,_,_,rfl⟩:=I; subst hb; (rw[Op.equalIn,Sem.run_bind,aX ht]; rfl)
 ·obtain⟨_,_,_,rfl⟩:=hb; subst I; (rw[Op.equalIn,Sem.run_bind,aX ht]; rfl)
theorem EqF.qF{P:Program}{t:TypeId}{x y:Array TypeId}{z:Bool}(ht:P.underlying t=some (.func x y z)):EqF P t Go.It.qF:=fun v u r ρ a b h I hb w d=>by
 unfold Go.It.qF at h;split at h<;>first|(cases h; done)|skip
 all_goals
  simp only[Option.some.injEq] at h;subst h;simp only[VR,zR] at I hb
 ·subst I hb; (rw[Op.equalIn,Sem.run_bind,aX ht]; rfl)
 ·obtain⟨_,_,rfl,_⟩:=I; subst hb; (rw[Op.equalIn,Sem.run_bind,aX ht]; rfl)
 ·obtain⟨_,_,rfl,_⟩:=hb; subst I; (rw[Op.equalIn,Sem.run_bind,aX ht]; rfl)
theorem EqF.qIf{P:Program}{t:TypeId}{ms:Array (String×TypeId)}(ht:P.underlying t=some (.interface ms)):EqF P t Go.It.qIf:=fun v u r ρ a b h I hb w d=>by
 unfold Go.It.qIf at h;split at h<;>first|(cases h; done)|skip
 all_goals
  simp only[Option.some.injEq] at h;subst h;simp only[VR,zR] at I hb
 ·subst I hb; (rw[Op.equalIn,Sem.run_bind,aX ht]; rfl)
 ·obtain⟨_,rfl,_⟩:=I; subst hb; (rw[Op.equalIn,Sem.run_bind,aX ht]; rfl)
 ·obtain⟨_,rfl,_⟩:=hb; subst I; (rw[Op.equalIn,Sem.run_bind,aX ht]; rfl)
theorem aI1{P:Program}{e:TypeId}{i:TI}{k:IntKind}(he:qX P e i)(hk:i.k= .i k){ρ:Rho}{d:Nat}(w:World):∀(l r:List V) (xs ys pre I:List Value) (j:Nat) (q:Bool),qL l r=some q→VRL ρ l xs→VRL ρ r ys→pre.length=j→I.length=j →
  (Go.Vc.xE (d+1) e 1 (pre++xs).toArray (I++ys).toArray (List.range' j l.length)).run P w= .ok q w
 | [],[],xs,ys,pre,I,j,q,h,hx,hy,_,_=>by
  simp only[qL,Option.some.injEq] at h;subst h;simp[Go.Vc.xE]
 | [],_::_,_,_,_,_,_,_,h,_,_,_,_=>by simp[qL] at h
 | _::_,[],_,_,_,_,_,_,h,_,_,_,_=>by simp[qL] at h
 | a::l,b::r,xs,ys,pre,I,j,q,h,hx,hy,hp,Y=>by
  simp only[VRL] at hx hy;obtain⟨x,xs,rfl,hx1,hx2⟩:=hx;obtain⟨y,ys,rfl,hy1,hy2⟩:=hy;obtain⟨ds,hd,J⟩:=he.desc;rw[hk] at J;simp only[kR] at J;subst J;have U:oC i=false:=by unfold oC; rw[hk]
  simp only[qL] at h;split at h
  ·rename_i p q' h1 h2;simp only[Option.some.injEq] at h;obtain⟨N,x',y',rfl,rfl,e1⟩:=aOu h1 hx1 hy1;have p1:(part e (pre++ .int N x'::xs).toArray (j*1)).run P w= .ok (.int N x') w:=he.part_one U (by simp[← hp]) w;have p2:(part e (I++ .int N y'::ys).toArray (j*1)).run P w= .ok (.int N y') w:=he.part_one U (by simp[← Y]) w;have ih:=aI1 he hk (d:=d) w l r xs ys (pre++ [.int N x']) (I++ [.int N y']) (j+1) q' h2 hx2 hy2 (by simp[hp]) (by simp[Y]);simp only[List.length_cons,List.range'_succ,Go.Vc.xE,Sem.run_bind,p1,p2,Result.andThen_ok,run_equalIn_int w d e _ _ _ _ hd,e1];cases p
   ·simp only[Bool.not_false,if_true,Sem.run_pure];rw[← h]; rfl
   ·simp only[Bool.not_true,Bool.false_eq_true,if_false];rw[← h]
    simpa using ih
  ·cases h
theorem EqR.qA{P:Program}{E:En}(hE:fA P E){t e:TypeId}{n:Nat}(ht:P.underlying t=some (.array n e)){g:V→V→Option Bool}(I:qAr E n e=some g):EqR P t g:=fun v u r ρ a b h ha hb w d=>by
 unfold qAr at I;split at I
 ·rename_i k U;have Y:=dI hE U (by simp);cases N:Nat.beq (ti E e).n 1
  ·rw[N] at I; cases I
  ·rw[N] at I;simp only[aS,Option.some.injEq] at I;subst I;have N:(ti E e).n=1:=Nat.eq_of_beq_eq_true N;unfold Go.It.qA at h;split at h
   ·rename_i l r';cases J:Nat.beq (aII l) n
    ·rw[J] at h; cases h
    ·rw[J] at h;have J:l.length=n:=(by rw[← aCq]; exact Nat.eq_of_beq_eq_true J);simp only[VR] at ha hb;obtain⟨xs,rfl,hx,_⟩:=ha;obtain⟨ys,rfl,hy,_⟩:=hb;have hs:=Y.size w;rw[N] at hs;rw[Go.Vc.run_equalIn_array (d+1) t e n 1 _ _ w ht hs,← J];exact aI1 Y U w l r' xs ys [] [] 0 r h hx hy rfl rfl
   ·cases h
 ·cases I
theorem aYa{P:Program}{E:En}(U:fA P E){t:TypeId}{g:V→V→Option Bool}(J:aZX E t=some g):EqF P t g∧qX P t (ti E t)∧oC (ti E t)=false:=by
 unfold aZX at J;split at J<;>first|(cases J; done)|skip
 all_goals
  rename_i N;have ht:=dI U N (by simp);obtain⟨ds,hd,I⟩:=ht.desc;rw[N] at I;simp only[kR] at I;subst I;simp only[Option.some.injEq] at J; subst J;refine⟨?_,ht,by unfold oC; rw[N]⟩
 ·exact EqF.qI hd
 ·exact EqF.qS hd
 ·exact EqF.qB hd
theorem aGl{P:Program}{E:En}(hE:fA P E){ρ:Rho}(d:Nat)(w:World):∀(U:List Field) (n:Nat) (Y:List (V→V→Option Bool)),stG E (U.map fun f=>(f.offset,f.type)) n=some Y→(∀f∈U,f.name ≠ "_")→ ∀(l r:List V) (xs ys pre I:List Value) (q:Bool),qG Y l r=some q→VRL ρ l xs→VRL ρ r ys→pre.length=n→I.length=n →
  (Op.eqFields (d+1) (pre++xs).toArray (I++ys).toArray U).run P w= .ok q w
 | [],n,Y,J,_,l,r,xs,ys,pre,I,q,h,hx,hy,hp,N=>by
  simp only[List.map_nil,stG,Option.some.injEq] at J;subst J;have:q=true:=by
   cases l<;>cases r<;>simp[qG] at h<;>first|exact h|exact h.symm
  subst this;simp[Op.eqFields]
 | f::U,n,Y,J,hn,l,r,xs,ys,pre,I,q,h,hx,hy,hp,N=>by
  simp only[List.map_cons,stG] at J;cases hb:Nat.beq f.offset n
  ·rw[hb] at J; cases J
  ·rw[hb] at J;simp only[aS] at J;have hb:f.offset=n:=Nat.eq_of_beq_eq_true hb;split at J
   ·rename_i g gs' h1 h2;simp only[Option.some.injEq] at J;subst J;obtain⟨k1,k2,k3⟩:=aYa hE h1
    match l,r,h with
    | a::l,b::r,h =>
     simp only[qG] at h;split at h
     ·rename_i p q' h3 h4;simp only[Option.some.injEq] at h;simp only[VRL] at hx hy;obtain⟨x,xs,rfl,hx1,hx2⟩:=hx;obtain⟨y,ys,rfl,hy1,hy2⟩:=hy;have p1:(part f.type (pre++x::xs).toArray f.offset).run P w= .ok x w:=k2.part_one k3 (by simp[hb,← hp]) w;have p2:(part f.type (I++y::ys).toArray f.offset).run P w= .ok y w:=k2.part_one k3 (by simp[hb,← N]) w;have e1:=k1 _ _ _ ρ _ _ h3 hx1 hy1 w d;have ih:=aGl hE d w U (n+1) gs' h2 (fun f hf=>hn f (.tail _ hf)) l r xs ys (pre++ [x]) (I++ [y]) q' h4 hx2 hy2 (by simp[hp]) (by simp[N]);have hnf:=hn f (.head _);simp only[Op.eqFields,Sem.run_ite,Sem.run_bind,ne_eq,hnf,not_false_eq_true,if_true,p1,p2,e1,Result.andThen_ok];cases p
      ·simp only[Bool.not_false,if_true,Sem.run_pure];rw[← h]; rfl
      ·simp only[Bool.not_true,Bool.false_eq_true,if_false];rw[← h]
       simpa using ih
     ·cases h
    | [],[],h=>simp[qG] at h
    | [],_::_,h=>simp[qG] at h
    | _::_,[],h=>simp[qG] at h
   ·cases J
theorem EqR.qSt{P:Program}{E:En}(U:fA P E){t:TypeId}{F:Array Field}(ht:P.underlying t=some (.struct F))(hh:P.stoodInHeld t=false)(hn:∀f∈F.toList,f.name ≠ "_"){I:List (V→V→Option Bool)}(hg:stG E (F.toList.map fun f=>(f.offset,f.type)) 0=some I):EqR P t (Go.It.qSt I):=fun v u r ρ a b h N hb w d=>by
 unfold Go.It.qSt at h;split at h
 ·simp only[VR] at N hb;obtain⟨xs,rfl,hx,_⟩:=N;obtain⟨Y,rfl,hy,_⟩:=hb;have J:P.fieldsOf t=F:=by simp[Program.fieldsOf,ht]
  rw[run_equalIn_struct w (d+1) t _ _ (by rw[J]; exact ht) hh,J];exact aGl U d w F.toList 0 I hg hn _ _ xs Y [] [] r h hx hy rfl rfl
 ·cases h
def aFl:Value→Bool
 | .bool _=>true
 | .agg _=>true
 | .slice _ _ _=>true
 | .map _=>true
 | .func _ _ _=>true
 | .nilFunc=>true
 | .iface _ _=>true
 | .nilIface=>true
 | .pointer _=>true
 | _=>false
theorem binOp_eql{t:TypeId}{a:Value}(b:Value)(h:aFl a=true):binOp .eql t a b=(do pure (.bool (← Op.equal t a b)))∧binOp .neq t a b=(do pure (.bool (!(← Op.equal t a b)))):=by
 cases a<;>first|(cases h; done)|exact⟨rfl,rfl⟩
theorem bBh{P:Program}{E:En}(hE:fA P E){t:TypeId}(hkn:(ti E t).k≠ .no){U:Bool}{g:V→V→Option Bool}(J:qE E (ti E t).k U=some g):EqR P t g∧ ∀(v u:V) (r:Bool) (ρ:Rho) (a b:Value),g v u=some r→VR ρ v a→VR ρ u b →
  aFl a=true∧((a= .nilIface∧b= .nilIface)→U=true)∧(∀l,a= .agg l→P.eqGuardType P.depth t=false):=by
 have ht:=dI hE rfl hkn;obtain⟨ds,hd,N⟩:=ht.desc;unfold qE at J;split at J<;>first|(cases J; done)|(rename_i hk; rw[hk] at N; simp only[kR] at N)
 ·subst N;simp only[Option.some.injEq] at J; subst J;refine⟨(EqF.qB hd).r,fun v u r ρ a b h I hb=>?_⟩;unfold qB at h; split at h<;>first|(cases h; done)|skip
  simp only[VR] at I; subst I;exact⟨rfl,fun e=>(by cases e.1),fun l e=>by cases e⟩
 ·subst N;simp only[Option.some.injEq] at J; subst J;refine⟨(EqF.qP hd).r,fun v u r ρ a b h I hb=>?_⟩;unfold qP at h; split at h<;>first|(cases h; done)|skip
  all_goals simp only[VR,zR] at I
  ·subst I; exact⟨rfl,fun e=>(by cases e.1),fun l e=>by cases e⟩
  ·obtain⟨_,_,_,_,rfl⟩:=I; exact⟨rfl,fun e=>(by cases e.1),fun l e=>by cases e⟩
  ·subst I; exact⟨rfl,fun e=>(by cases e.1),fun l e=>by cases e⟩
 ·subst N;simp only[Option.some.injEq] at J; subst J;refine⟨(EqF.qSl hd).r,fun v u r ρ a b h I hb=>?_⟩;unfold qSl at h; split at h<;>first|(cases h; done)|skip
  all_goals simp only[VR,zR] at I
  ·subst I; exact⟨rfl,fun e=>(by cases e.1),fun l e=>by cases e⟩
  ·obtain⟨_,_,rfl,_⟩:=I; exact⟨rfl,fun e=>(by cases e.1),fun l e=>by cases e⟩
  ·subst I; exact⟨rfl,fun e=>(by cases e.1),fun l e=>by cases e⟩
 ·subst N;simp only[Option.some.injEq] at J; subst J;refine⟨(EqF.qM hd).r,fun v u r ρ a b h I hb=>?_⟩;unfold qM at h; split at h<;>first|(cases h; done)|skip
  all_goals simp only[VR,zR] at I
  ·subst I; exact⟨rfl,fun e=>(by cases e.1),fun l e=>by cases e⟩
  ·obtain⟨_,_,_,rfl⟩:=I; exact⟨rfl,fun e=>(by cases e.1),fun l e=>by cases e⟩
  ·subst I; exact⟨rfl,fun e=>(by cases e.1),fun l e=>by cases e⟩
 ·obtain⟨x,y,z,rfl⟩:=N;simp only[Option.some.injEq] at J; subst J;refine⟨(EqF.qF hd).r,fun v u r ρ a b h I hb=>?_⟩;unfold qF at h; split at h<;>first|(cases h; done)|skip
  all_goals simp only[VR,zR] at I
  ·subst I; exact⟨rfl,fun e=>(by cases e.1),fun l e=>by cases e⟩
  ·obtain⟨_,_,rfl,_⟩:=I; exact⟨rfl,fun e=>(by cases e.1),fun l e=>by cases e⟩
  ·subst I; exact⟨rfl,fun e=>(by cases e.1),fun l e=>by cases e⟩
 ·obtain⟨ms,rfl⟩:=N;cases hc:U
  ·rw[hc] at J; cases J
  ·rw[hc] at J;simp only[aS,Option.some.injEq] at J; subst J;refine⟨(EqF.qIf hd).r,fun v u r ρ a b h I hb=>?_⟩;unfold qIf at h; split at h<;>first|(cases h; done)|skip
   all_goals simp only[VR,zR] at I
   ·subst I; exact⟨rfl,fun e=>rfl,fun l e=>by cases e⟩
   ·obtain⟨_,rfl,_⟩:=I; exact⟨rfl,fun e=>rfl,fun l e=>by cases e⟩
   ·subst I; exact⟨rfl,fun e=>rfl,fun l e=>by cases e⟩
 ·obtain⟨F,rfl,hF,hN⟩:=N;split at J
  ·rename_i gs hgs;simp only[Option.some.injEq] at J; subst J;rw[← hF] at hgs;refine⟨EqR.qSt hE hd ht.held hN hgs,fun v u r ρ a b h I hb=>?_⟩;have Y:oC (ti E t)=true:=(by unfold oC; rw[hk]);unfold qSt at h; split at h
   ·simp only[VR] at I;obtain⟨_,rfl,_⟩:=I;exact⟨rfl,fun e=>(by cases e.1),fun l e=>ht.guard Y⟩
   ·cases h
  ·cases J
 ·subst N;rename_i n e;refine⟨EqR.qA hE hd J,fun v u r ρ a b h I hb=>?_⟩;have Y:oC (ti E t)=true:=by unfold oC; rw[hk]
  unfold qAr at J;split at J
  ·cases hn:Nat.beq (ti E e).n 1
   ·rw[hn] at J; cases J
   ·rw[hn] at J;simp only[aS,Option.some.injEq] at J; subst J;unfold qA at h; split at h
    ·simp only[VR] at I;obtain⟨_,rfl,_⟩:=I;exact⟨rfl,fun e=>(by cases e.1),fun l e=>ht.guard Y⟩
    ·cases h
  ·cases J
end
end Go.It
namespace Go.It
noncomputable section
open Go.RowKit
open Go.Vc (bG aY)
section
variable {P:Program} {q:Cx} {e:q.ε} {m:M} {c:V→M→Bool} {f:OpF q} {dst:Option Tmp} {ty:TypeId} {pos:String} {aft:Array Edge} {gd:Option (Nat×Bool)}
theorem yV{ρ:Operand→Value}{op:BinOp}{t J:TypeId}{x y:Operand}{u:Value}{w:World}(I:(eqGuard op t x y (ρ x) (ρ y)).run P w= .ok () w)(hb:(binOp op t (ρ x) (ρ y)).run P w= .ok u w) :
  (execOp ρ ⟨dst,.binOp op t x y J,ty,pos,aft,gd⟩).run P w= .ok (.value u) w:=by simp[execOp,I,hb]
theorem aFu{op:BinOp}{t:TypeId}{x y:Operand}{k:IntKind}{n:Int}{b:Value}(w:World):(eqGuard op t x y (.int k n) b).run P w= .ok () w:=aFt w (.inl fun e=>(by cases e.1)) fun l r e=>(by cases e)
theorem aTw{op:BinOp}{t:TypeId}{x y:Operand}{s:ByteArray}{b:Value}(w:World):(eqGuard op t x y (.string s) b).run P w= .ok () w:=aFt w (.inl fun e=>(by cases e.1)) fun l r e=>(by cases e)
theorem aR8(hq:dU q){op:BinOp}{t yt:TypeId}{x y:Operand}{k:IntKind}(I:aHV q op k x y= .mk f)(h:f e m c=true):OpR P q ⟨dst,.binOp op t x y yt,ty,pos,aft,gd⟩ e m c:=by
 unfold aHV at I;obtain⟨okf,N,U⟩:=aIZ k;split at I
 ·rename_i b hb;obtain⟨g⟩:=b;simp only[aV,N] at I;have h2:=mM hq I h;obtain⟨n,h3,hn⟩:=U _ _ h2;obtain⟨n',h4,J⟩:=U _ _ h3;obtain⟨v,h5,hv⟩:=aMq hb _ _ _ h4;refine .a0 v rfl h5 fun m' w0 ρ a w Y=>?_;obtain⟨e1,l1⟩:=hn ρ _ (Y.ev x (by simp[Op.operands]));obtain⟨e2,l2⟩:=J ρ _ (Y.ev y (by simp[Op.operands]));obtain⟨u,h6,h7⟩:=hv l1 l2 P t w ρ;exact⟨u,yV (by rw[e1]; exact aFu w) (by rw[e1,e2]; exact h6),h7⟩
 ·exact(aU I h).elim
theorem aVL(hq:dU q){op:BinOp}{t yt:TypeId}{x y:Operand}{k:IntKind}(I:aVk q op k x y= .mk f)(h:f e m c=true):OpR P q ⟨dst,.binOp op t x y yt,ty,pos,aft,gd⟩ e m c:=by
 unfold aVk at I;obtain⟨okf,N,ho⟩:=aIZ k;split at I
 ·rename_i b hb;obtain⟨g⟩:=b;simp only[aV,N] at I;have h2:=mM hq I h;obtain⟨n,h3,hn⟩:=ho _ _ h2;obtain⟨n',h4,J⟩:=wO h3;obtain⟨v,h5,hv⟩:=bAe hb _ _ _ h4;refine .a0 v rfl h5 fun m' w0 ρ a w Y=>?_;obtain⟨e1,l1⟩:=hn ρ _ (Y.ev x (by simp[Op.operands]));obtain⟨k',e2,l2⟩:=J ρ _ (Y.ev y (by simp[Op.operands]));obtain⟨u,h6,h7⟩:=hv l1 P w ρ k';refine⟨u,yV (by rw[e1]; exact aFu w) ?_,h7⟩;rw[e1,e2];have U:op= .shl∨op= .shr:=by
   cases op<;>first|exact .inl rfl|exact .inr rfl|(simp only[sh2] at hb; cases k<;>cases hb)
  rcases U with rfl|rfl<;>exact h6
 ·exact(aU I h).elim
theorem aYb(hq:dU q){op:BinOp}{t yt:TypeId}{x y:Operand}(I:aLz q op x y= .mk f)(h:f e m c=true):OpR P q ⟨dst,.binOp op t x y yt,ty,pos,aft,gd⟩ e m c:=by
 unfold aLz at I;split at I
 ·rename_i g hb;have h2:=mM hq I h;obtain⟨n,s,ex,h3⟩:=aIV h2;obtain⟨n',s',ey,h4⟩:=aIV h3;obtain⟨v,h5,hv⟩:=aX9 hb h4;refine .a0 v rfl h5 fun m' w0 ρ a w U=>?_;have J:=U.ev x (by simp[Op.operands]);have N:=U.ev y (by simp[Op.operands]);rw[ex] at J;rw[ey] at N;obtain⟨u,Y,h7⟩:=hv ρ _ _ J N P t w;refine⟨u,yV ?_ Y,h7⟩;simp only[VR] at J;obtain⟨s1,e1,_⟩:=J;rw[e1];exact aTw w
 ·exact(aU I h).elim
theorem aR9(hq:dU q)(hE:fA P q.E){neg:Bool}{t yt:TypeId}{x y:Operand}(hn:(ti q.E t).k≠ .no)(I:aVl q neg (ti q.E t).k x y= .mk f)(h:f e m c=true):OpR P q ⟨dst,.binOp (bi neg .neq .eql) t x y yt,ty,pos,aft,gd⟩ e m c:=by
 unfold aVl at I;split at I
 ·rename_i g hg;have J:=mM hq I h;split at J
  ·rename_i r Y;obtain⟨g1,g2⟩:=bBh hE hn hg;refine .a0 _ rfl J fun m' w0 ρ a w hs=>?_;have N:=hs.ev x (by simp[Op.operands]);have vy:=hs.ev y (by simp[Op.operands]);obtain⟨k1,k2,k3⟩:=g2 _ _ _ _ _ _ Y N vy;have k4:(Op.equal t (a.eval x) (a.eval y)).run P w= .ok r w:=g1 _ _ _ _ _ _ Y N vy w 9998;obtain⟨b1,b2⟩:=binOp_eql (t:=t) (a.eval y) k1;have U:∀op,(eqGuard op t x y (a.eval x) (a.eval y)).run P w= .ok () w:=fun op=>aFt w (by
    by_cases hc:a.eval x= .nilIface∧a.eval y= .nilIface
    ·have:=k2 hc;simp only[Bool.or_eq_true] at this;exact .inr this
    ·exact .inl hc) fun l r el er=>k3 l el
   cases neg
   ·refine⟨_,yV (U _) (u:=.bool r) ?_,by simp only[VR]; rfl⟩;rw[show (bi false BinOp.neq BinOp.eql)= .eql from rfl,b1];simp[k4]
   ·refine⟨_,yV (U _) (u:=.bool (!r)) ?_,by simp only[VR]; rfl⟩;rw[show (bi true BinOp.neq BinOp.eql)= .neq from rfl,b2];simp[k4]
  ·cases J
 ·exact(aU I h).elim
theorem aSa{v:V}{k:IntKind}{a:Nat→Nat→Bool}{b:Bool}(h:qV v k a b=true):(∃c n,v= .q k c n∧a c n=true)∨b=true:=by
 unfold qV at h;split at h
 ·rename_i j c n;cases I:keq j k
  ·rw[I] at h; exact .inr h
  ·rw[I] at h;rw[aFs I];exact .inl ⟨c,n,rfl,h⟩
 ·exact .inr h
theorem aYc(hq:dU q){t yt:TypeId}{x y:Operand}(U:aQg q x y= .mk f)(h:f e m c=true):OpR P q ⟨dst,.binOp .rem t x y yt,ty,pos,aft,gd⟩ e m c:=by
 unfold aQg at U;cases hb:aHV q .rem .u64 x y with
 | mk g =>
  simp only[hb,eX hq,aV,Box.mk.injEq] at U;subst U;rcases aSa h with⟨md,n,hx,h⟩|h
  ·obtain⟨b,hy,h⟩:=aZg h;obtain⟨N,h3⟩:=cA h;obtain⟨Y,h4⟩:=cA h3;have N:=Nat.eq_of_beq_eq_true N;subst N;have Y:0<b:=(by simpa using Y);refine .a0 (.w n) rfl h4 fun m' w0 ρ a w hs=>?_;have v1:=hs.ev x (by simp[Op.operands]);have J:=hs.ev y (by simp[Op.operands]);rw[hx] at v1;rw[hy] at J;simp only[VR] at v1 J;obtain⟨z,e1,l1,l2⟩:=v1;have hg:(bi (Nat.beq b 0) false ((fun v=>match v with|V.w r=>Nat.beq r n|_=>false) (V.w (Nat.mod z b))))=true:=by
    have:Nat.beq b 0=false:=by
     cases hh:Nat.beq b 0 with
     | false=>rfl
     | true=>have:=Nat.eq_of_beq_eq_true hh; omega
    rw[this];show Nat.beq (Nat.mod z b) n=true;rw[show Nat.mod z b=n from l2,Nat.beq_refl]
   obtain⟨v,I,hv⟩:=aMq (op:=.rem) (k:=.u64) (g:=fun a b c=>bi (Nat.beq b 0) false (c (.w (Nat.mod a b)))) rfl z b (fun v=>match v with|V.w r=>Nat.beq r n|_=>false) hg;have I:v= .w n:=by
    split at I
    ·rw[Nat.eq_of_beq_eq_true I]
    ·cases I
   subst I;obtain⟨u,h6,h7⟩:=hv l1 J.2 P t w ρ;refine⟨u,yV (by rw[e1]; exact aFu w) ?_,h7⟩;rw[e1,J.1];have:dec .u64 b=(b:Int):=bX (.inl rfl);rw[this] at h6;exact h6
  ·exact aR8 hq hb h
theorem bAf(hq:dU q)(Y:fA P q.E){op:BinOp}{t U:TypeId}{x y:Operand}(I:lX q ⟨dst,.binOp op t x y U,ty,pos,aft,gd⟩= .mk f)(h:f e m c=true):OpR P q ⟨dst,.binOp op t x y U,ty,pos,aft,gd⟩ e m c:=by
 have I:aVm q op t x y U= .mk f:=I;unfold aVm at I;split at I
 ·rename_i k hk;cases hs:bA7 op
  ·rw[hs] at I;cases N:bA8 op k
   ·rw[N] at I;exact aR8 hq I h
   ·rw[N] at I;have:op= .rem:=(by cases op<;>first|rfl|(cases k<;>cases N));subst this;exact aYc hq I h
  ·rw[hs] at I;exact aVL hq I h
 ·exact aYb hq I h
 ·have J:(ti q.E t).k≠ .no:=fun e0=>by
   have hb:∀neg,aVl q neg (ti q.E t).k x y=bad:=fun neg=>by
    rw[e0]; rfl
   split at I
   ·rw[hb] at I; exact aU I h
   ·rw[hb] at I; exact aU I h
   ·exact aU I h
  split at I
  ·exact aR9 (neg:=false) hq Y J I h
  ·exact aR9 (neg:=true) hq Y J I h
  ·exact(aU I h).elim
end
end
end Go.It
namespace Go.It
noncomputable section
open Go.RowKit
open Go.Vc (bG aY)
theorem VRL.agg{ρ:Rho}{l:List V}{xs:List Value}(h:VRL ρ l xs)(I:l.all kD=true):VR ρ (.agg l) (.agg xs.toArray):=by simp only[VR]; exact⟨xs,rfl,h,I⟩
theorem aFv{l:List V}(h:l.all kD=true)(o n:Nat):((l.drop o).take n).all kD=true:=by
 rw[List.all_eq_true] at *;exact fun x I=>h x (List.mem_of_mem_drop (List.mem_of_mem_take I))
section
variable {P:Program} {q:Cx} {e:q.ε} {m:M} {c:V→M→Bool} {f:OpF q} {dst:Option Tmp} {ty:TypeId} {pos:String} {aft:Array Edge} {gd:Option (Nat×Bool)}
theorem aVM{k:IntKind}{a:Nat}(I:a<2^k.bits):k.wrap (0-dec k a)=dec k ((2^k.bits-a)%2^k.bits):=by
 have:=aOt (k:=k) (a:=0) (b:=a) I;rw[show dec k 0=0 from by rw[bX (.inr (qT k))]; rfl] at this;rw[this,Nat.zero_add]
theorem aYd(k:IntKind):BitVec.ofInt k.bits (if k.signed then -1 else k.max)=BitVec.allOnes k.bits:=by cases k<;>rfl
theorem bBi(hq:dU q){op:UnOp}{t:TypeId}{x:Operand}(I:lX q ⟨dst,.unOp op t x,ty,pos,aft,gd⟩= .mk f)(h:f e m c=true):OpR P q ⟨dst,.unOp op t x,ty,pos,aft,gd⟩ e m c:=by
 have I:aZY q op t x= .mk f:=I;unfold aZY at I;split at I
 ·have Y:=gG hq I h;obtain⟨b,h3,h4⟩:=aR2 Y;refine .a0 _ rfl h4 fun m' w0 ρ a w hs=>?_;have hv:=hs.ev x (by simp[Op.operands]);rw[h3] at hv;simp only[VR] at hv;exact⟨.bool (!b),by simp[execOp,Op.unary,hv],by simp only[VR]⟩
 ·rename_i k _ hk;obtain⟨okf,J,ho⟩:=aIZ k;obtain⟨mk,N,hm⟩:=aIY k;simp only[J,N,aIX,aV] at I;have Y:=gG hq I h;obtain⟨a,h3,h4⟩:=ho _ _ Y;refine .a0 _ rfl h3 fun m' w0 ρ ac w hs=>?_;obtain⟨e1,l1⟩:=h4 ρ _ (hs.ev x (by simp[Op.operands]));refine⟨_,by simp only[execOp,Op.unary,e1,Op.intArith,aVM l1]; rfl,(hm ρ _ _).2 ⟨rfl,Nat.mod_lt _ (Nat.two_pow_pos _)⟩⟩
 ·rename_i k _ hk;obtain⟨okf,J,ho⟩:=aIZ k;obtain⟨mk,N,hm⟩:=aIY k;simp only[J,N,aIX,aV] at I;have Y:=gG hq I h;obtain⟨a,h3,h4⟩:=ho _ _ Y;refine .a0 _ rfl h3 fun m' w0 ρ ac w hs=>?_;obtain⟨e1,l1⟩:=h4 ρ _ (hs.ev x (by simp[Op.operands]));have U:2^k.bits-1-a<2^k.bits:=by have:=Nat.two_pow_pos k.bits; omega
  have key:(BitVec.ofInt k.bits (if k.signed then -1 else k.max)^^^BitVec.ofInt k.bits (dec k a)).toNat=2^k.bits-1-a:=by
   rw[aYd,BitVec.allOnes_xor,BitVec.toNat_not,nF l1]
  refine⟨.int k (dec k (2^k.bits-1-a)),?_,(hm ρ _ _).2 ⟨rfl,U⟩⟩;have e2:(Op.intBits .xor k (if k.signed then -1 else k.max) (dec k a)).run P w= .ok (.int k (dec k (2^k.bits-1-a))) w:=by
   simp only[Op.intBits,key,yU U]; rfl
  simp only[execOp,Op.unary,e1,Sem.run_bind,e2]; rfl
 ·exact(aU I h).elim
theorem aOv{I:Bool}{sz off:Nat}{l:List V}{c:V→Bool}(h:aRV I sz off l c=true):∃v,c v=true∧((I=true∧off+sz≤l.length∧v= .agg ((l.drop off).take sz))∨(I=false∧l[off]? = some v)):=by
 unfold aRV at h;cases I
 ·obtain⟨x,N,J⟩:=aMj h;exact⟨x,J,.inr ⟨rfl,N⟩⟩
 ·obtain⟨N,J⟩:=yS h;obtain⟨Y,U⟩:=wM J;simp only[List.length_drop] at Y;exact⟨_,U,.inl ⟨rfl,by omega,rfl⟩⟩
theorem qX.part{t:TypeId}{i:TI}(ht:qX P t i){off:Nat}{l:List V}{v:V}{ρ:Rho}{xs:List Value}(U:VRL ρ l xs)(h1:l.all kD=true)
  (hp:(oC i=true∧off+i.n≤l.length∧v= .agg ((l.drop off).take i.n))∨(oC i=false∧l[off]? = some v)) (w:World):∃x,(Go.part t xs.toArray off).run P w= .ok x w∧VR ρ v x:=by
 rcases hp with⟨I,N,J⟩|⟨I,N⟩
 ·refine⟨_,ht.part_agg I _ _ w,?_⟩;rw[J];have:=(U.drop off).take i.n;have e:(xs.toArray.extract off (off+i.n))=((xs.drop off).take i.n).toArray:=by
   simp[List.extract_toArray]
  rw[e];exact this.agg (aFv h1 _ _)
 ·obtain⟨x,J,Y⟩:=U.get N;exact⟨x,ht.part_one I (by simpa using J) w,Y⟩
theorem aVN{E:En}(U:fA P E){t:TypeId}{k off:Nat}{ft:TypeId}(h:aRT (ti E t) k=some (off,ft)):∃F J,P.underlying t=some (.struct F)∧F[k]? = some J∧J.offset=off∧J.type=ft:=by
 unfold aRT at h;split at h
 ·rename_i fs N;obtain⟨d,hd,I⟩:=(dI U N (by simp)).desc;rw[N] at I;simp only[kR] at I;obtain⟨F,rfl,hF,_⟩:=I;rw[← hF] at h;simp only[List.getElem?_map,Option.map_eq_some_iff,Prod.mk.injEq] at h;obtain⟨J,h1,Y,h3⟩:=h;exact⟨F,J,hd,by simpa using h1,Y,h3⟩
 ·cases h
theorem aOw{E:En}(I:fA P E){t:TypeId}(h:(!kn E t)=false):qX P t (ti E t):=I.ty t (by simpa using h)
theorem aVO(hq:dU q)(N:fA P q.E){t:TypeId}{x:Operand}{k:Nat}(I:lX q ⟨dst,.field t x k,ty,pos,aft,gd⟩= .mk f)(h:f e m c=true):OpR P q ⟨dst,.field t x k,ty,pos,aft,gd⟩ e m c:=by
 have I:aMg q t x k= .mk f:=I;unfold aMg at I;split at I
 ·rename_i off ft hk;obtain⟨F,fd,d1,Y,d3,d4⟩:=aVN N hk;cases J:(!kn q.E ft)
  ·simp only[J,aT,aV] at I;have ht:=aOw N J;have h2:=gG hq I h;obtain⟨l,h3,h4⟩:=aR3 h2;obtain⟨v,h5,h6⟩:=aOv h4;refine .a0 _ rfl h5 fun m' w0 ρ a w hs=>?_;have hv:=hs.ev x (by simp[Op.operands]);rw[h3] at hv;simp only[VR] at hv;obtain⟨xs,e1,e2,e3⟩:=hv;obtain⟨u,U,e5⟩:=ht.part e2 e3 h6 w;refine⟨u,?_,e5⟩;rw[← d3,← d4] at U;simp[execOp,Instr.field,aX d1,Y,e1,asAgg,U]
  ·rw[J] at I;exact(aU I h).elim
 ·exact(aU I h).elim
end
end
end Go.It
namespace Go.It
noncomputable section
open Go.RowKit
open Go.Vc (bG aY)
theorem add_plain(r o n:Nat):(⟨r,o,none⟩:Addr).add n=⟨r,o+n,none⟩:=by
 unfold Addr.add;split
 ·rename_i h; rw[h]; rfl
 ·rfl
theorem W.row{w0:World}{ρ:Rho}{m:M}{w:World}(I:W w0 ρ m w){a r b N:Nat}(J:ρ a=some (r,b,N)){wr:Bool}{l:List V}(U:ob m a= .row wr l):l.all kD=true∧l.length≤N∧ ∃xs,VRL ρ l xs∧aY w r b xs:=by
 have h:=I.obj a r b N J;rw[U] at h;exact⟨h.1,h.2.1,h.2.2.1⟩
theorem wP{w:World}{r b o n:Nat}{xs:List Value}(h:aY w r b xs):∀(j:Nat) (v:Value),((xs.drop o).take n)[j]? = some v→w.cell? ((⟨r,b+o,none⟩:Addr).add j)=some v:=fun j v I=>by
 have:xs[o+j]? = some v:=by
  rw[List.getElem?_take] at I;split at I
  ·simpa using I
  ·cases I
 have:=h _ _ this;rw[add_plain,Nat.add_assoc];exact this
section
variable {P:Program} {q:Cx} {e:q.ε} {m:M} {c:V→M→Bool} {f:OpF q} {dst:Option Tmp} {ty:TypeId} {pos:String} {aft:Array Edge} {gd:Option (Nat×Bool)}
theorem aYe(hq:dU q)(hE:fA P q.E){t:TypeId}{x:Operand}(I:lX q ⟨dst,.load t x,ty,pos,aft,gd⟩= .mk f)(h:f e m c=true):OpR P q ⟨dst,.load t x,ty,pos,aft,gd⟩ e m c:=by
 have I:aQj q t x= .mk f:=I;unfold aQj at I;cases hn:(!kn q.E t)
 ·simp only[hn,aT,aV] at I;have ht:=aOw hE hn;cases U:oC (ti q.E t)
  ·simp only[U,aT] at I;have h2:=gG hq I h;obtain⟨a,o,w',l,v,h3,h4,h5,h6⟩:=aVD h2;refine .a1 _ rfl h6 fun w0 ρ ac w J=>?_;have hv:=J.ev x (by simp[Op.operands]);rw[h3] at hv;simp only[VR] at hv;obtain⟨r,b,N,e1,e2⟩:=hv;obtain⟨k1,k2,xs,Y,k4⟩:=J.w.row e1 h4;obtain⟨u,k5,k6⟩:=Y.get h5;refine⟨u,?_,k6⟩;have:=k4 _ _ k5;simp[execOp,Instr.loadAt,e2,Instr.sureAddr,loadVar,ht.agg,U,this]
  ·simp only[U,aS] at I;have h2:=gG hq I h;obtain⟨a,o,w',l,h3,h4,h5,h6⟩:=aVE h2;refine .a1 _ rfl h6 fun w0 ρ ac w J=>?_;have hv:=J.ev x (by simp[Op.operands]);rw[h3] at hv;simp only[VR] at hv;obtain⟨r,b,N,e1,e2⟩:=hv;obtain⟨k1,k2,xs,Y,k4⟩:=J.w.row e1 h4;have k5:=run_loadCells_list (P:=P) w ⟨r,b+o,none⟩ ((xs.drop o).take (ti q.E t).n) (wP k4);have hl:((xs.drop o).take (ti q.E t).n).length=(ti q.E t).n:=by
    have:=Y.length;simp; omega
   rw[hl] at k5;refine⟨_,?_,((Y.drop o).take (ti q.E t).n).agg (aFv k1 _ _)⟩;simp[execOp,Instr.loadAt,e2,Instr.sureAddr,loadVar,ht.agg,U,ht.size,k5]
 ·simp only[hn,aS] at I;exact(aU I h).elim
theorem aVP(hq:dU q)(U:fA P q.E){t:TypeId}{x:Operand}{k:Nat}(I:lX q ⟨dst,.fieldAddr t x k,ty,pos,aft,gd⟩= .mk f)(h:f e m c=true):OpR P q ⟨dst,.fieldAddr t x k,ty,pos,aft,gd⟩ e m c:=by
 have I:aMf q t x k= .mk f:=I;unfold aMf at I;split at I
 ·rename_i off ft hk;obtain⟨F,fd,d1,Y,d3,d4⟩:=aVN U hk;cases J:(Nat.beq (ti q.E ft).n 0|| !kn q.E ft)
  ·simp only[J,aT] at I;simp only[Bool.or_eq_false_iff] at J;have ht:=aOw U J.2;have hz:(ti q.E ft).n≠0:=fun e=>(by rw[e] at J; cases J.1);have h2:=gG hq I h;obtain⟨a,o,h3,h4⟩:=aIU h2;refine .a0 _ rfl h4 fun m' w0 ρ ac w hs=>?_;have hv:=hs.ev x (by simp[Op.operands]);rw[h3] at hv;simp only[VR] at hv;obtain⟨r,b,N,e1,e2⟩:=hv;refine⟨.pointer (some ⟨r,b+(o+off),none⟩),?_,by simp only[VR]; exact⟨r,b,N,e1,rfl⟩⟩;subst d4 d3;simp[execOp,Instr.fieldAt,aX d1,Y,e2,Instr.sureAddr,fieldPlace,ht.size,hz,add_plain,Nat.add_assoc]
  ·simp only[J,aS] at I;exact(aU I h).elim
 ·exact(aU I h).elim
end
end
end Go.It
namespace Go.It
noncomputable section
open Go.RowKit
open Go.Vc (bG aY)
theorem aYf:∀ {l:List UInt8} {i:Nat} {b:UInt8},l[i]? = some b→Nat.mod (Nat.shiftRight (num l) (Nat.mul 8 i)) 256=b.toNat:=by
 have I:∀(l:List UInt8) (i:Nat) (b:UInt8),l[i]? = some b→num l/256^i%256=b.toNat:=by
  intro l
  induction l with
  | nil=>intro i b h; simp at h
  | cons a l J =>
   intro i b h;have N:=a.toNat_lt;cases i with
   | zero =>
    simp only[List.getElem?_cons_zero,Option.some.injEq] at h;subst h;simp only[num,Nat.add_eq,Nat.mul_eq,Nat.pow_zero,Nat.div_one];omega
   | succ i =>
    have:=J i b (by simpa using h);rw[← this,Nat.pow_succ,Nat.mul_comm,← Nat.div_div_eq_div_mul]
    congr 2
    simp only[num,Nat.add_eq,Nat.mul_eq];omega
 intro l i b h;rw[← I l i b h];show (num l >>> (8*i))%256=_;rw[Nat.shiftRight_eq_div_pow,Nat.pow_mul]
theorem pC{P:Program}{E:En}(I:fA P E){t:TypeId}(h:kn E t=true):qX P t (ti E t):=I.ty t h
theorem VR.slice{ρ:Rho}{a o n c x:Nat}{v:Value}(h:VR ρ (.sl a o n c x) v)(hc:0<c):∃r b N c',ρ a=some (r,b,N)∧v= .slice (some ⟨r,b+o,none⟩) n c'∧n≤c∧c≤c'∧c'≤maxLen∧(x=0→c'=c)∧(x≠0→o+c'*x≤N):=by
 simp only[VR] at h;obtain⟨Y,c',h1,h2,h3,h4,h5,I⟩:=h;rcases I with⟨I,_⟩|⟨r,b,N,U,J,g3⟩
 ·omega
 ·subst J;exact⟨r,b,N,c',U,h1,h2,h3,h4,h5,g3⟩
section
variable {P:Program} {q:Cx} {e:q.ε} {m:M} {c:V→M→Bool} {f:OpF q} {dst:Option Tmp} {ty:TypeId} {pos:String} {aft:Array Edge} {gd:Option (Nat×Bool)}
theorem aVQ(hq:dU q)(hE:fA P q.E){t:TypeId}{x y:Operand}(J:lX q ⟨dst,.indexAddr t x y,ty,pos,aft,gd⟩= .mk f)(h:f e m c=true):OpR P q ⟨dst,.indexAddr t x y,ty,pos,aft,gd⟩ e m c:=by
 have J:aL5 q t x y= .mk f:=J;unfold aL5 at J;split at J
 ·rename_i el hk;obtain⟨ds,hd,I⟩:=(dI hE hk (by simp)).desc;rw[hk] at I;simp only[kR] at I;subst I;cases hn:kn q.E el
  ·simp only[hn,aT] at J;exact(aU J h).elim
  ·simp only[hn,aS,aV] at J;have ht:=pC hE hn;have Y:=mM hq J h;split at Y<;>first|(cases Y; done)|skip
   rename_i a o n cp xx hv0;obtain⟨i,h3,h4⟩:=wO Y;obtain⟨U,h6⟩:=cA h3;have U:i<n:=(by rw[Nat.blt_eq] at U; exact U);refine .a0 _ rfl h6 fun m' w0 ρ ac w hs=>?_;have hv:=hs.ev x (by simp[Op.operands]);obtain⟨k,e4,_⟩:=h4 ρ _ (hs.ev y (by simp[Op.operands]));rw[hv0] at hv;have hnc:n≤cp:=(by have hv:=hv; simp only[VR] at hv; obtain⟨_,_,_,h,_⟩:=hv; exact h);obtain⟨r,b,N,c',g1,g2,_⟩:=hv.slice (by omega);refine⟨.pointer (some ⟨r,b+(o+i*(ti q.E el).n),none⟩),?_,by simp only[VR]; exact⟨r,b,N,g1,rfl⟩⟩;simp[execOp,Instr.indexAt,aX hd,asIntOf,e4,g2,U,ht.size,add_plain,Nat.add_assoc]
 ·rename_i n el hk;obtain⟨ds,hd,I⟩:=(dI hE hk (by simp)).desc;rw[hk] at I;simp only[kR] at I;subst I;cases hn:kn q.E el
  ·simp only[hn,aT] at J;exact(aU J h).elim
  ·simp only[hn,aS,aV] at J;have ht:=pC hE hn;have Y:=mM hq J h;obtain⟨a,o,hv0,Y⟩:=aIU Y;obtain⟨i,h3,h4⟩:=wO Y;obtain⟨U,h6⟩:=cA h3;have U:i<n:=(by rw[Nat.blt_eq] at U; exact U);refine .a0 _ rfl h6 fun m' w0 ρ ac w hs=>?_;have hv:=hs.ev x (by simp[Op.operands]);obtain⟨k,e4,_⟩:=h4 ρ _ (hs.ev y (by simp[Op.operands]));rw[hv0] at hv;simp only[VR] at hv;obtain⟨r,b,N,g1,g2⟩:=hv;refine⟨.pointer (some ⟨r,b+(o+i*(ti q.E el).n),none⟩),?_,by simp only[VR]; exact⟨r,b,N,g1,rfl⟩⟩;simp[execOp,Instr.indexAt,aX hd,asIntOf,e4,g2,U,ht.size,Instr.sureAddr,add_plain,Nat.add_assoc]
 ·exact(aU J h).elim
theorem aVR(hq:dU q)(hE:fA P q.E){t:TypeId}{x y:Operand}(J:lX q ⟨dst,.index t x y,ty,pos,aft,gd⟩= .mk f)(h:f e m c=true):OpR P q ⟨dst,.index t x y,ty,pos,aft,gd⟩ e m c:=by
 have J:aL6 q t x y= .mk f:=J;unfold aL6 at J;split at J
 ·rename_i hk;obtain⟨ds,hd,I⟩:=(dI hE hk (by simp)).desc;rw[hk] at I;simp only[kR] at I;subst I;have Y:=mM hq J h;obtain⟨n,s,U,h3⟩:=aIV Y;obtain⟨i,h3,h4⟩:=wO h3;obtain⟨N,h6⟩:=cA h3;have N:i<n:=by rw[Nat.blt_eq] at N; exact N
  refine .a0 _ rfl h6 fun m' w0 ρ ac w hs=>?_;have hv:=hs.ev x (by simp[Op.operands]);obtain⟨k,e4,_⟩:=h4 ρ _ (hs.ev y (by simp[Op.operands]));rw[U] at hv;simp only[VR] at hv;obtain⟨sb,g1,g2,g3,g4⟩:=hv;obtain⟨bt,hb⟩:∃bt,sb.data.toList[i]? = some bt:=⟨_,List.getElem?_eq_getElem (by omega)⟩;have hsz:i<sb.size:=by rw[show sb.size=n from by rw[← g2]; exact Array.length_toList.symm]; exact N
  have hget:sb[i]? = some bt:=by
   rw[getElem?_pos sb i hsz];have:=(List.getElem?_eq_some_iff.1 hb).2;rw[← this]; rfl
  refine⟨.int .u8 bt.toNat,?_,?_⟩
  ·simp[execOp,Instr.index,aX hd,asIntOf,e4,g1,hget]
  ·simp only[VR];rw[← g3,aYf hb];have:=bt.toNat_lt;exact⟨by rw[bX (.inl rfl)],by simpa [IntKind.bits] using this⟩
 ·rename_i n el hk;obtain⟨ds,hd,I⟩:=(dI hE hk (by simp)).desc;rw[hk] at I;simp only[kR] at I;subst I;cases hn:kn q.E el
  ·simp only[hn,aT] at J;exact(aU J h).elim
  ·simp only[hn,aS,aV] at J;have ht:=pC hE hn;have Y:=mM hq J h;obtain⟨l,U,Y⟩:=aR3 Y;obtain⟨i,h3,h4⟩:=wO Y;obtain⟨N,h6⟩:=cA h3;have N:i<n:=(by rw[Nat.blt_eq] at N; exact N);obtain⟨v,h7,h8⟩:=aOv h6;refine .a0 _ rfl h7 fun m' w0 ρ ac w hs=>?_;have hv:=hs.ev x (by simp[Op.operands]);obtain⟨k,e4,_⟩:=h4 ρ _ (hs.ev y (by simp[Op.operands]));rw[U] at hv;simp only[VR] at hv;obtain⟨xs,g1,g2,g3⟩:=hv;obtain⟨u,g4,g5⟩:=ht.part g2 g3 h8 w;refine⟨u,?_,g5⟩;simp only[Nat.mul_eq] at g4;simp[execOp,Instr.index,aX hd,asIntOf,e4,g1,N,ht.size,g4]
 ·exact(aU J h).elim
end
end
end Go.It
namespace Go.It
noncomputable section
open Go.RowKit
open Go.Vc (bG aY)
def aC7(z n:Nat)(I:Option Value):Prop:=(I=none∧n=z)∨ ∃k,I=some (.int k (n:Int))
theorem aTx{q:Cx}(hq:dU q)(x:Option Operand):aL7 q x= .mk fun e=>x.map (evD q e):=by
 cases x with
 | none=>rfl
 | some x=>simp only[aL7,eX hq,aV]; rfl
theorem uZ{q:Cx}{e:q.ε}{x:Option Operand}{z:Nat}{c:Nat→Bool}(h:aJ6 (x.map (evD q e)) z c=true):∃n,c n=true∧ ∀(ρ:Rho) (ev:Operand→Value),(∀y,x=some y→VR ρ (evD q e y) (ev y))→aC7 z n (x.map ev):=by
 cases x with
 | none=>exact⟨z,h,fun ρ ev _=>.inl ⟨rfl,rfl⟩⟩
 | some y =>
  obtain⟨n,I,J⟩:=wO h;refine⟨n,I,fun ρ ev hv=>?_⟩;obtain⟨k,N,_⟩:=J ρ _ (hv y rfl);exact .inr ⟨k,by rw[Option.map_some,N]⟩
theorem aAp{P:Program}{w:World}{b:Bool}{len cap h l:Nat}{lo hi:Option Value}(N:aC7 len h hi)(I:aC7 0 l lo)(U:l≤h)(J:h≤cap):(Instr.sliceBounds b len cap lo hi none).run P w= .ok (l,h,cap) w:=by
 rcases N with⟨rfl,rfl⟩|⟨k,rfl⟩<;>rcases I with⟨rfl,rfl⟩|⟨Y,rfl⟩<;>simp[Instr.sliceBounds,Instr.sliceBound,asIntOf,U,J]
theorem aOx{P:Program}{w:World}{len cap u h l:Nat}{k k':IntKind}{lo:Option Value}(J:aC7 0 l lo)(I:l≤h)(N:h≤u)(U:u≤cap):(Instr.sliceBounds true len cap lo (some (.int k (h:Int))) (some (.int k' (u:Int)))).run P w= .ok (l,h,u) w:=by
 rcases J with⟨rfl,rfl⟩|⟨k',rfl⟩<;>simp[Instr.sliceBounds,Instr.sliceBound,asIntOf,I,N,U]
theorem aOy:∀(l:List UInt8) (n:Nat),num (l.drop n)=num l/256^n
 | l,0=>by simp
 | [],n+1=>by simp[num]
 | a::l,n+1=>by
  have I:=a.toNat_lt;rw[List.drop_succ_cons,aOy l n,Nat.pow_succ,Nat.mul_comm,← Nat.div_div_eq_div_mul]
  congr 1
  simp only[num,Nat.add_eq,Nat.mul_eq];omega
theorem aVS(l:List UInt8)(n:Nat):num (l.take n)=num l%256^n:=by
 by_cases h:n≤l.length
 ·have e:=aMr (l.take n) (l.drop n);rw[List.take_append_drop] at e;have J:(l.take n).length=n:=by simp[h]
  have I:=aQs (l.take n);rw[J] at e I;rw[e,Nat.add_mul_mod_self_right,Nat.mod_eq_of_lt I]
 ·have I:=aQs l;rw[List.take_of_length_le (by omega),Nat.mod_eq_of_lt (Nat.lt_of_lt_of_le I (Nat.pow_le_pow_right (by omega) (by omega)))]
theorem aAq(s:ByteArray)(l h:Nat):(s.extract l h).data.toList=(s.data.toList.drop l).take (h-l):=by
 simp[ByteArray.extract,ByteArray.copySlice,List.extract_eq_take_drop]
section
variable {P:Program} {q:Cx} {e:q.ε} {m:M} {c:V→M→Bool} {f:OpF q} {dst:Option Tmp} {ty:TypeId} {pos:String} {aft:Array Edge} {gd:Option (Nat×Bool)}
theorem aVT(hq:dU q)(hE:fA P q.E){t:TypeId}{x:Operand}{lo hi mx:Option Operand}(hf:lX q ⟨dst,.slice t x lo hi mx,ty,pos,aft,gd⟩= .mk f)(h:f e m c=true):OpR P q ⟨dst,.slice t x lo hi mx,ty,pos,aft,gd⟩ e m c:=by
 replace hf:aL8 q t x lo hi mx= .mk f:=hf;simp only[aL8,eX hq,aTx hq,aV] at hf;have evx:∀ {w0 ρ m' ac w},Sv q w0 ρ e m' ac w (Op.slice t x lo hi mx).operands→VR ρ (evD q e x) (ac.eval x)∧(∀y,lo=some y→VR ρ (evD q e y) (ac.eval y))∧(∀y,hi=some y→VR ρ (evD q e y) (ac.eval y)):=fun hs =>
  ⟨hs.ev x (by simp[Op.operands]),fun y hy=>hs.ev y (by subst hy; simp[Op.operands]),fun y hy=>hs.ev y (by subst hy; simp[Op.operands])⟩
 split at hf
 ·rename_i hk;obtain⟨ds,hd,U⟩:=(dI hE hk (by simp)).desc;rw[hk] at U;simp only[kR] at U;subst U;simp only[Box.mk.injEq] at hf;subst hf;obtain⟨n,s,hv0,h2⟩:=aIV h;obtain⟨hh,h3,hhi⟩:=uZ h2;obtain⟨J,h4,hlo⟩:=uZ h3;obtain⟨h5,h6⟩:=cA h4;obtain⟨h7,h8⟩:=cA h6;have h5:=Nat.le_of_ble_eq_true h5;have h7:=Nat.le_of_ble_eq_true h7;refine .a0 _ rfl h8 fun m' w0 ρ ac w hs=>?_;obtain⟨vx,vl,vh⟩:=evx hs;rw[hv0] at vx;simp only[VR] at vx;obtain⟨sb,g1,g2,g3,g4⟩:=vx;have hsz:sb.size=n:=by rw[← g2]; exact Array.length_toList.symm
  have hb:=aAp (P:=P) (w:=w) (b:=false) (cap:=n) (hhi ρ ac.eval vh) (hlo ρ ac.eval vl) h7 h5;refine⟨.string (sb.extract J hh),?_,?_⟩
  ·simp[execOp,Instr.sliceAt,aX hd,Instr.slice,g1,hsz,hb]
  ·simp only[VR];refine⟨_,rfl,by rw[aAq]; simp[g2]; omega,?_,by simp only[Nat.sub_eq,maxLen] at *; omega⟩;rw[aAq,aVS,aOy,g3];show _=(s >>> (8*J))%256^(hh-J);rw[Nat.shiftRight_eq_div_pow,Nat.pow_mul]
 ·rename_i el hk;obtain⟨ds,hd,U⟩:=(dI hE hk (by simp)).desc;rw[hk] at U;simp only[kR] at U;subst U;cases hn:kn q.E el
  ·simp only[hn,aT] at hf;exact(aU hf h).elim
  ·simp only[hn,aS,Box.mk.injEq] at hf;have ht:=pC hE hn;subst hf;simp only at h;split at h
   ·rename_i a o n k xx hv0;obtain⟨hh,h3,hhi⟩:=uZ h;obtain⟨J,h4,hlo⟩:=uZ h3;obtain⟨h5,h6⟩:=cA h4;obtain⟨h7,h8⟩:=cA h6;have h5:=Nat.le_of_ble_eq_true h5;have h7:=Nat.le_of_ble_eq_true h7;have base:∀ {w0 ρ m' ac w},Sv q w0 ρ e m' ac w (Op.slice t x lo hi none).operands→ ∃adr c',ac.eval x= .slice (some adr) n c'∧n≤k∧k≤c'∧c'≤maxLen∧(xx=0→c'=k)∧((k=0∧xx≠0)∨ ∃r b N,ρ a=some (r,b,N)∧adr=⟨r,b+o,none⟩∧(xx≠0→o+c'*xx≤N)) ∧
      (execOp ac.eval ⟨dst,.slice t x lo hi none,ty,pos,aft,gd⟩).run P w= .ok (.value (.slice (some (if c'=J then adr else adr.add (J*(ti q.E el).n))) (hh-J) (c'-J))) w:=fun {w0 ρ m' ac w} hs=>by
     obtain⟨vx,vl,vh⟩:=evx hs;rw[hv0] at vx;simp only[VR] at vx;obtain⟨adr,c',g1,g2,g3,g4,g5,g6⟩:=vx;have hb:=aAp (P:=P) (w:=w) (b:=true) (cap:=c') (hhi ρ ac.eval vh) (hlo ρ ac.eval vl) h7 (by omega);refine⟨adr,c',g1,g2,g3,g4,g5,g6,?_⟩;have hsz:=ht.size w;by_cases hcl:c'=J
     ·subst hcl;simp[execOp,Instr.sliceAt,aX hd,Instr.slice,g1,hb,hsz]
     ·simp[execOp,Instr.sliceAt,aX hd,Instr.slice,g1,hb,hsz,hcl]
    cases Y:Nat.beq xx 0
    ·simp only[Y,aT] at h8;obtain⟨h9,h10⟩:=cA h8;have h9:xx=(ti q.E el).n:=Nat.eq_of_beq_eq_true h9;have Y:xx≠0:=fun e=>(by rw[e] at Y; cases Y);refine .a0 _ rfl h10 fun m' w0 ρ ac w hs=>?_;obtain⟨adr,c',g1,g2,g3,g4,g5,g6,g7⟩:=base hs;refine⟨_,g7,?_⟩;simp only[VR,Nat.add_eq,Nat.mul_eq,Nat.sub_eq];refine⟨_,_,rfl,by omega,by omega,by omega,fun e=>absurd e Y,?_⟩;by_cases I:k=J
     ·exact .inl ⟨by omega,Y⟩
     ·rcases g6 with⟨g6,_⟩|⟨r,b,N,k1,k2,k3⟩
      ·exact .inl ⟨by omega,Y⟩
      ·right
       refine⟨r,b,N,k1,?_,fun _=>?_⟩
       ·rw[if_neg (by omega),k2,add_plain,Nat.add_assoc]
       ·have k3:=k3 Y;rw[h9] at k3 ⊢;have:J*(ti q.E el).n+(c'-J)*(ti q.E el).n=c'*(ti q.E el).n:=(by rw[← Nat.add_mul]; congr 1; omega);omega
    ·simp only[Y,aS] at h8;have Y:xx=0:=Nat.eq_of_beq_eq_true Y;cases I:Nat.beq J k
     ·simp only[I,aT] at h8;have I:J≠k:=fun e=>(by rw[e,Nat.beq_refl] at I; cases I);refine .a0 _ rfl h8 fun m' w0 ρ ac w hs=>?_;obtain⟨adr,c',g1,g2,g3,g4,g5,g6,g7⟩:=base hs;have g5:=g5 Y;refine⟨_,g7,?_⟩;simp only[VR,Nat.add_eq,Nat.mul_eq,Nat.sub_eq];refine⟨_,_,rfl,by omega,by omega,by omega,fun _=>by rw[g5],?_⟩;rcases g6 with⟨_,g6⟩|⟨r,b,N,k1,k2,k3⟩
      ·exact absurd Y g6
      ·right
       exact⟨r,b,N,k1,by rw[if_neg (by omega),k2,add_plain,Nat.add_assoc],fun e=>absurd rfl e⟩
     ·simp only[I,aS] at h8;have I:J=k:=Nat.eq_of_beq_eq_true I;refine .a0 _ rfl h8 fun m' w0 ρ ac w hs=>?_;obtain⟨adr,c',g1,g2,g3,g4,g5,g6,g7⟩:=base hs;have g5:=g5 Y;refine⟨_,g7,?_⟩;simp only[VR];refine⟨_,_,by rw[show hh-J=0 from by omega],Nat.le_refl _,Nat.zero_le _,by omega,fun _=>by omega,?_⟩;rcases g6 with⟨_,g6⟩|⟨r,b,N,k1,k2,k3⟩
      ·exact absurd Y g6
      ·right
       exact⟨r,b,N,k1,by rw[if_pos (by omega),k2],fun e=>absurd rfl e⟩
   ·rename_i hv0;obtain⟨hh,h3,hhi⟩:=uZ h;obtain⟨J,h4,hlo⟩:=uZ h3;obtain⟨h5,h6⟩:=cA h4;obtain⟨h7,h8⟩:=cA h6;have h5:=Nat.eq_of_beq_eq_true h5;have h7:=Nat.eq_of_beq_eq_true h7;refine .a0 _ rfl h8 fun m' w0 ρ ac w hs=>?_;obtain⟨vx,vl,vh⟩:=evx hs;rw[hv0] at vx;simp only[VR,zR] at vx;have hb:=aAp (P:=P) (w:=w) (b:=true) (cap:=0) (hhi ρ ac.eval vh) (hlo ρ ac.eval vl) (by omega) (by omega);subst h5 h7;exact⟨.slice none 0 0,by simp[execOp,Instr.sliceAt,aX hd,Instr.slice,vx,hb,ht.size],by simp only[VR,zR]⟩
   ·cases h
 ·rename_i el z hk;obtain⟨ds,hd,U⟩:=(dI hE hk (by simp)).desc;rw[hk] at U;simp only[kR] at U;subst U;cases hn:kn q.E el
  ·simp only[hn,aT] at hf;exact(aU hf h).elim
  ·simp only[hn,aS,eX hq,aV,Box.mk.injEq] at hf;have ht:=pC hE hn;subst hf;simp only at h;split at h<;>first|(cases h; done)|skip
   rename_i a o n k xx hv0;obtain⟨uu,h1,hu⟩:=wO h;cases hi with
   | none=>cases h1
   | some hi =>
    simp only[Option.map_some] at h1;obtain⟨hh,h3,hhi⟩:=wO h1;obtain⟨J,h4,hlo⟩:=uZ h3;obtain⟨h5,h6⟩:=cA h4;obtain⟨h7,h8⟩:=cA h6;obtain⟨h9,h10⟩:=cA h8;have h5:=Nat.le_of_ble_eq_true h5;have h7:=Nat.le_of_ble_eq_true h7;have h9:=Nat.le_of_ble_eq_true h9;refine .a0 _ rfl h10 fun m' w0 ρ ac w hs=>?_;obtain⟨vx,vl,vh⟩:=evx hs;rw[hv0] at vx;simp only[VR] at vx;obtain⟨adr,c',g1,g2,g3,_⟩:=vx;obtain⟨k1,e1,_⟩:=hu ρ _ (hs.ev z (by simp[Op.operands]));obtain⟨k2,e2,_⟩:=hhi ρ _ (vh hi rfl);have hb:=aOx (P:=P) (w:=w) (len:=n) (cap:=c') (k:=k2) (k':=k1) (hlo ρ ac.eval vl) h9 h7 (by omega);have hsz:=ht.size w;refine⟨.slice (some (if uu=J then adr else adr.add (J*(ti q.E el).n))) (hh-J) (uu-J),?_,VR.junk _ _⟩;by_cases hcl:uu=J
    ·subst hcl;simp[execOp,Instr.sliceAt,aX hd,Instr.slice,g1,e1,e2,hb,hsz]
    ·simp[execOp,Instr.sliceAt,aX hd,Instr.slice,g1,e1,e2,hb,hsz,hcl]
 ·rename_i n el hk;obtain⟨ds,hd,U⟩:=(dI hE hk (by simp)).desc;rw[hk] at U;simp only[kR] at U;subst U;cases hn:(and (kn q.E el) (Nat.ble n 1099511627776))
  ·simp only[hn,aT] at hf;exact(aU hf h).elim
  ·simp only[hn,aS,Box.mk.injEq] at hf;simp only[Bool.and_eq_true] at hn;have ht:=pC hE hn.1;have hnm:n≤maxLen:=(by have:=Nat.le_of_ble_eq_true hn.2; simp only[maxLen]; omega);subst hf;obtain⟨a,o,hv0,h2⟩:=aIU h;obtain⟨hh,h3,hhi⟩:=uZ h2;obtain⟨J,h4,hlo⟩:=uZ h3;obtain⟨h5,h6⟩:=cA h4;obtain⟨h7,h8⟩:=cA h6;have h5:=Nat.le_of_ble_eq_true h5;have h7:=Nat.le_of_ble_eq_true h7;have base:∀ {w0 ρ m' ac w},Sv q w0 ρ e m' ac w (Op.slice t x lo hi none).operands→ ∃r b N,ρ a=some (r,b,N) ∧
     (execOp ac.eval ⟨dst,.slice t x lo hi none,ty,pos,aft,gd⟩).run P w= .ok (.value (.slice (some (if n=J then ⟨r,b+o,none⟩ else ⟨r,b+(o+J*(ti q.E el).n),none⟩)) (hh-J) (n-J))) w:=fun {w0 ρ m' ac w} hs=>by
    obtain⟨vx,vl,vh⟩:=evx hs;rw[hv0] at vx;simp only[VR] at vx;obtain⟨r,b,N,g1,g2⟩:=vx;have hb:=aAp (P:=P) (w:=w) (b:=false) (cap:=n) (hhi ρ ac.eval vh) (hlo ρ ac.eval vl) h7 (by omega);refine⟨r,b,N,g1,?_⟩;have hsz:=ht.size w;by_cases hcl:n=J
    ·subst hcl;simp[execOp,Instr.sliceAt,aX hd,Instr.sureAddr,g2,hb,hsz]
    ·simp[execOp,Instr.sliceAt,aX hd,Instr.sureAddr,g2,hb,hsz,hcl,add_plain,Nat.add_assoc]
   cases I:Nat.beq J n
   ·simp only[I,aT] at h8;have I:J≠n:=fun e=>(by rw[e,Nat.beq_refl] at I; cases I);refine .a0 _ rfl h8 fun m' w0 ρ ac w hs=>?_;obtain⟨r,b,N,g1,g7⟩:=base hs;refine⟨_,g7,?_⟩;simp only[VR,Nat.add_eq,Nat.mul_eq,Nat.sub_eq];exact⟨_,_,rfl,by omega,by omega,by omega,fun _=>rfl,.inr ⟨r,b,N,g1,by rw[if_neg (by omega)],fun e=>absurd rfl e⟩⟩
   ·simp only[I,aS] at h8;have I:J=n:=Nat.eq_of_beq_eq_true I;refine .a0 _ rfl h8 fun m' w0 ρ ac w hs=>?_;obtain⟨r,b,N,g1,g7⟩:=base hs;refine⟨_,g7,?_⟩;simp only[VR];exact⟨_,_,by rw[show hh-J=0 from by omega],Nat.le_refl _,Nat.zero_le _,by omega,fun _=>by omega,.inr ⟨r,b,N,g1,by rw[if_pos (by omega)],fun e=>absurd rfl e⟩⟩
 ·exact(aU hf h).elim
end
end
end Go.It
namespace Go.It
noncomputable section
open Go.RowKit
open Go.Vc (bG aY)
theorem aOz(off:Nat):∀(cs:List Value) (j:Nat) (A:Array Value),off+j+cs.length≤A.size →
  ((cs.zipIdx j).foldl (fun A p=>A.setIfInBounds (off+p.2) p.1) A).toList=A.toList.take (off+j)++cs++A.toList.drop (off+j+cs.length)
 | [],j,A,h=>by simp
 | c::cs,j,A,h=>by
  simp only[List.length_cons] at h;have J:off+j<A.toList.length:=by simp; omega
  rw[List.zipIdx_cons,List.foldl_cons,aOz off cs (j+1) _ (by simp; omega)];simp only[Array.toList_setIfInBounds];have e:A.toList.set (off+j) c=A.toList.take (off+j)++c::A.toList.drop (off+j+1):=by
   rw[List.set_eq_take_append_cons_drop,if_pos J]
  have ht:(A.toList.take (off+j)).length=off+j:=by simp; omega
  have N:(A.toList.set (off+j) c).take (off+(j+1))=A.toList.take (off+j)++ [c]:=by
   rw[e,List.take_append,ht,List.take_of_length_le (by rw[ht]; omega),show off+(j+1)-(off+j)=1 from by omega];rfl
  have I:(A.toList.set (off+j) c).drop (off+(j+1)+cs.length)=A.toList.drop (off+j+(cs.length+1)):=by
   rw[e,List.drop_append,ht,List.drop_eq_nil_of_le (by rw[ht]; omega),show off+(j+1)+cs.length-(off+j)=cs.length+1 from by omega];simp[List.drop_drop]
   congr 1; omega
  rw[N,I];simp
theorem aQt(off:Nat)(v:Value)(xs:List Value)(h:off+v.cells.size≤xs.length) :
  (v.cells.zipIdx.foldl (fun I (c,j)=>I.setIfInBounds (off+j) c) xs.toArray)=(xs.take off++v.cells.toList++xs.drop (off+v.cells.size)).toArray:=by
 apply Array.ext';rw[← Array.foldl_toList,Array.toList_zipIdx];have:=aOz off v.cells.toList 0 xs.toArray (by simpa using h)
 simpa using this
theorem VRL.set{ρ:Rho}{l ds:List V}{xs ys:List Value}(h:VRL ρ l xs)(k:VRL ρ ds ys)(o:Nat):VRL ρ (l.take o++ds++l.drop (o+ds.length)) (xs.take o++ys++xs.drop (o+ys.length)):=by
 rw[k.length];exact((h.take o).append k).append (h.drop _)
theorem aSb{l ds:List V}(h:l.all kD=true)(k:ds.all kD=true)(o n:Nat):(l.take o++ds++l.drop n).all kD=true:=by
 simp only[List.all_append,Bool.and_eq_true];rw[List.all_eq_true] at h;exact⟨⟨List.all_eq_true.2 fun x I=>h x (List.mem_of_mem_take I),k⟩,List.all_eq_true.2 fun x I=>h x (List.mem_of_mem_drop I)⟩
theorem aI2{pl:Nat→Option (Nat×Nat)}:∀ {is:List Nat} {vs l:List V} {c:List V→Bool},aIK pl (aQh is vs) l c=true→is.length=vs.length→ ∃J,c J=true ∧
  ∀(ρ:Rho) (I xs:List Value),VRL ρ vs I→VRL ρ l xs→l.all kD=true→ ∃ys,Instr.fill pl xs.toArray (is.zip I)=some ys.toArray∧VRL ρ J ys∧J.all kD=true∧J.length=l.length
 | [],[],l,c,h,_=>⟨l,h,fun ρ I xs hu hx ha=>⟨xs,rfl,hx,ha,rfl⟩⟩
 | [],_::_,_,_,_,Y=>by simp at Y
 | _::_,[],_,_,_,Y=>by simp at Y
 | i::is,v::vs,l,c,h,Y=>by
  simp only[aQh,aIK] at h;split at h
  ·rename_i o sz hp;cases U:Nat.beq sz 0
   ·rw[U] at h;obtain⟨h1,h2⟩:=cA h;have h1:(kM v).length=sz:=(by rw[← aCq]; exact Nat.eq_of_beq_eq_true h1);have U:sz≠0:=fun e=>(by rw[e] at U; cases U);obtain⟨h3,h4⟩:=aCp h2;have N:0<(kM v).length:=(by omega);obtain⟨J,g1,g4⟩:=aI2 h4 (by simpa using Y);refine⟨J,g1,fun ρ I xs hu hx ha=>?_⟩;simp only[VRL] at hu;obtain⟨u,I,rfl,hu1,hu2⟩:=hu;obtain⟨c1,c2⟩:=aIW hu1 N;have cl:=c1.length;have xl:=hx.length;obtain⟨ys,k1,k2,k3,k4⟩:=g4 ρ I _ hu2 (hx.set c1 o) (aSb ha c2 _ _);refine⟨ys,?_,k2,k3,by rw[k4]; simp; omega⟩;have hsz:u.cells.size=sz:=(by rw[← Array.length_toList,cl,h1]);simp only[Array.length_toList] at k1;simp only[List.zip_cons_cons,Instr.fill,hp];rw[aQt o u xs (by omega),if_neg]
    ·exact k1
    ·simp only[hsz,ne_eq,not_true_eq_false,decide_false,Bool.false_or,decide_eq_true_eq,List.size_toArray];omega
   ·rw[U] at h; cases h
  ·cases h
theorem aOA{α β:Type}{f:α→Option β}{g:α→β}:∀ {l:List α},(∀x∈l,f x=some (g x))→l.mapM f=some (l.map g)
 | [],_=>rfl
 | x::l,h=>by
  simp only[List.mapM_cons,h x (.head _),aOA (fun y I=>h y (.tail _ I)),List.map_cons];rfl
theorem qX.zero{P:Program}{t:TypeId}{i:TI}(h:qX P t i):∃f z,P.info? t=some f∧f.size=i.n∧f.zero=some z∧ ∀ρ,VRL ρ i.z z.cells.toList:=by
 obtain⟨f,I,J,_,z,U,_,_,N⟩:=h.info;exact⟨f,z,I,J,U,N⟩
theorem aLb(ps:Array (Nat×Operand))(ev:Operand→Value):(ps.map fun (i,x)=>(i,ev x)).toList=(ps.toList.map (·.1)).zip ((ps.toList.map (·.2)).map ev):=by
 rw[Array.toList_map];generalize ps.toList=l
 induction l with
 | nil=>rfl
 | cons p l I=>simp[I]
section
variable {P:Program} {q:Cx} {e:q.ε} {m:M} {c:V→M→Bool} {f:OpF q} {dst:Option Tmp} {ty:TypeId} {pos:String} {aft:Array Edge} {gd:Option (Nat×Bool)}
theorem aVU(hq:dU q)(hE:fA P q.E){t:TypeId}{ps:Array (Nat×Operand)}(J:lX q ⟨dst,.build t ps,ty,pos,aft,gd⟩= .mk f)(h:f e m c=true):OpR P q ⟨dst,.build t ps,ty,pos,aft,gd⟩ e m c:=by
 replace J:aL9 q t ps.toList= .mk f:=J;simp only[aL9,aAo hq,aV] at J;have evl:∀ {w0 ρ m' ac w},Sv q w0 ρ e m' ac w (Op.build t ps).operands→VRL ρ ((ps.toList.map (·.2)).map (evD q e)) ((ps.toList.map (·.2)).map ac.eval):=fun hs=>hs.evL fun x hx=>by
  simp only[List.mem_map] at hx;obtain⟨p,hp,rfl⟩:=hx;have hp:p∈ps:=by simpa using hp
  simp[Op.operands];exact⟨p.1,hp⟩
 have fin:∀ {pl:Nat→Option (Nat×Nat)},aIK pl (aQh (ps.toList.map (·.1)) ((ps.toList.map (·.2)).map (evD q e))) (ti q.E t).z (fun l=>c (.agg l) m)=true→qX P t (ti q.E t) →
   (∀(z:Value) (f:TypeInfo),P.info? t=some f→f.zero=some z→ ∀parts,P.built t parts=Instr.fill pl z.cells parts)→OpR P q ⟨dst,.build t ps,ty,pos,aft,gd⟩ e m c:=fun {pl} hh ht hb=>by
  obtain⟨l',g1,g2⟩:=aI2 hh (by simp);refine .a0 _ rfl g1 fun m' w0 ρ ac w hs=>?_;obtain⟨f,z,Y,z2,z3,z4⟩:=ht.zero;obtain⟨ys,k1,k2,k3,k4⟩:=g2 ρ _ _ (evl hs) (z4 ρ) ht.zone.1;refine⟨.agg ys.toArray,?_,k2.agg k3⟩;have:=run_build (P:=P) w t (ps.map fun (i,x)=>(i,ac.eval x)) ys.toArray (by rw[hb z f Y z3,aLb]; simpa using k1);simp only[execOp,Sem.run_bind,this];rfl
 split at J
 ·rename_i fs U;have ht:=dI hE U (by simp);obtain⟨ds,hd,I⟩:=ht.desc;rw[U] at I;simp only[kR] at I;obtain⟨F,rfl,hF,_⟩:=I;cases N:fs.all (fun p=>kn q.E p.2)
  ·simp only[N,aT] at J;exact(aU J h).elim
  ·simp only[N,aS,Box.mk.injEq] at J;subst J;refine fin h ht fun z f Y z3 parts=>?_;have hpl:F.toList.mapM (fun f=>(P.info? f.type).map fun i=>(f.offset,i.size))=some (F.toList.map fun f=>(f.offset,(ti q.E f.type).n)):=aOA fun fd hfd=>by
    have:kn q.E fd.type=true:=by
     rw[List.all_eq_true] at N;have:=N (fd.offset,fd.type) (by rw[← hF]; exact List.mem_map.2 ⟨fd,hfd,rfl⟩);exact this
    obtain⟨fi,_,i1,i2,_⟩:=(pC hE this).zero;rw[i1,← i2]; rfl
   unfold Program.built;rw[Y,hd];simp only[z3,hpl]
   congr 1
   funext i;rw[← hF];simp only[List.getElem?_toArray,List.getElem?_map];cases F.toList[i]? <;> rfl
 ·rename_i n el U;have ht:=dI hE U (by simp);obtain⟨ds,hd,I⟩:=ht.desc;rw[U] at I;simp only[kR] at I;subst I;cases N:kn q.E el
  ·simp only[N,aT] at J;exact(aU J h).elim
  ·simp only[N,aS,Box.mk.injEq] at J;subst J;refine fin h ht fun z f Y z3 parts=>?_;obtain⟨fi,_,i1,i2,_⟩:=(pC hE N).zero;unfold Program.built;rw[Y,hd];simp only[z3,i1,i2];rfl
 ·exact(aU J h).elim
end
end
end Go.It
namespace Go.It
noncomputable section
open Go.RowKit
open Go.Vc (bG aY)
section
variable {P:Program} {q:Cx} {e:q.ε} {m:M} {c:V→M→Bool} {f:OpF q} {dst:Option Tmp} {ty:TypeId} {pos:String} {aft:Array Edge} {gd:Option (Nat×Bool)}
theorem bAg(hq:dU q)(hE:fA P q.E){x:Operand}{ats:Array TypeId}{t:TypeId}(ht0:ats[0]? = some t){F:Box (OpF q)}(hF:F=kC q .len ty [x] (t:: []) )(hf:F= .mk f)(h:f e m c=true):OpR P q ⟨dst,.call ⟨.builtin .len,#[x],ats⟩,ty,pos,aft,gd⟩ e m c:=by
 subst hF;unfold kC at hf;simp only at hf;have ev1:∀ {w0 ρ m' ac w},Sv q w0 ρ e m' ac w (Op.call ⟨.builtin .len,#[x],ats⟩).operands→VR ρ (evD q e x) (ac.eval x):=fun Y=>Y.ev x (by simp[Op.operands,Call.operands]);have fin:∀ {w:World} {ρ:Operand→Value} {v:Value},(Builtin.len_ ats ty #[ρ x]).run P w= .ok v w→(execOp ρ ⟨dst,.call ⟨.builtin .len,#[x],ats⟩,ty,pos,aft,gd⟩).run P w= .ok (.value v) w:=fun hv=>by
  simp[execOp,resolve,invoke,builtin,hv]
 have vi:∀ {ρ:Rho} {n:Nat},n≤1099511627776∨n≤maxLen→VR ρ (.i n) (goInt n):=fun {ρ n} hn=>by
  have hn:n<2^63:=by simp only[maxLen] at hn; omega
  simp only[VR,goInt];exact⟨by rw[bX (.inr hn)],by omega⟩
 split at hf
 ·rename_i hk;obtain⟨ds,hd,I⟩:=(dI hE hk (by simp)).desc;rw[hk] at I;simp only[kR] at I;subst I;have U:=gG hq hf h;obtain⟨n,s,J,h3⟩:=aIV U;refine .a1 _ rfl h3 fun w0 ρ ac w Y=>?_;have hv:=ev1 Y;rw[J] at hv;simp only[VR] at hv;obtain⟨sb,g1,g2,g3,g4⟩:=hv;have hsz:sb.size=n:=by rw[← g2]; exact Array.length_toList.symm
  exact⟨_,fin (by simp[Builtin.len_,ht0,aX hd,g1,hsz]),vi (.inr g4)⟩
 ·rename_i el hk;obtain⟨ds,hd,I⟩:=(dI hE hk (by simp)).desc;rw[hk] at I;simp only[kR] at I;subst I;have U:=gG hq hf h;split at U<;>first|(cases U; done)|skip
  ·rename_i J;refine .a1 _ rfl U fun w0 ρ ac w Y=>?_;have hv:=ev1 Y;rw[J] at hv;simp only[VR,zR] at hv;exact⟨_,fin (by simp[Builtin.len_,ht0,aX hd,hv]),vi (n:=0) (.inr (Nat.zero_le _))⟩
  ·rename_i J;refine .a1 _ rfl U fun w0 ρ ac w Y=>?_;have hv:=ev1 Y;rw[J] at hv;simp only[VR] at hv;obtain⟨adr,c',g1,g2,g3,g4,_⟩:=hv;exact⟨_,fin (by simp[Builtin.len_,ht0,aX hd,g1]),vi (.inr (by omega))⟩
 ·rename_i n el hk;obtain⟨ds,hd,I⟩:=(dI hE hk (by simp)).desc;rw[hk] at I;simp only[kR] at I;subst I;cases hn:Nat.ble n 1099511627776
  ·simp only[hn,aT] at hf;exact(aU hf h).elim
  ·simp only[hn,aS] at hf;have U:=gG hq hf h;refine .a1 _ rfl U fun w0 ρ ac w Y=>?_;exact⟨_,fin (by simp[Builtin.len_,ht0,aX hd]),vi (.inl (Nat.le_of_ble_eq_true hn))⟩
 ·rename_i kt el hk;obtain⟨ds,hd,I⟩:=(dI hE hk (by simp)).desc;rw[hk] at I;simp only[kR] at I;subst I;have U:=gG hq hf h;split at U<;>first|(cases U; done)|skip
  ·rename_i J;refine .a1 _ rfl U fun w0 ρ ac w Y=>?_;have hv:=ev1 Y;rw[J] at hv;simp only[VR,zR] at hv;exact⟨_,fin (by simp[Builtin.len_,ht0,aX hd,hv]),vi (n:=0) (.inr (Nat.zero_le _))⟩
  ·rename_i a J;rw[pB] at U;obtain⟨l,h3,h4⟩:=aMk U;obtain⟨h5,h6⟩:=cA h4;refine .a1 _ rfl h6 fun w0 ρ ac w Y=>?_;have hv:=ev1 Y;rw[J] at hv;simp only[VR] at hv;obtain⟨r,N,g1,g2⟩:=hv;have hob:=Y.w.obj _ _ _ _ g1;rw[h3] at hob;obtain⟨_,_,es,cl,k1,k2,_⟩:=hob;exact⟨_,fin (by simp[Builtin.len_,ht0,aX hd,g2,getObj,Sem.run,k1,k2]),vi (.inl (Nat.le_of_ble_eq_true h5))⟩
 ·exact(aU hf h).elim
theorem bAh(hq:dU q)(hE:fA P q.E){x:Operand}{Y:Array TypeId}{t:TypeId}(U:Y[0]? = some t)(N:kC q .cap ty [x] [t]= .mk f)(h:f e m c=true):OpR P q ⟨dst,.call ⟨.builtin .cap,#[x],Y⟩,ty,pos,aft,gd⟩ e m c:=by
 unfold kC at N;simp only at N;split at N
 ·rename_i el hk;obtain⟨ds,hd,J⟩:=(dI hE hk (by simp)).desc;rw[hk] at J;simp only[kR] at J;subst J;have h2:=gG hq N h;split at h2<;>first|(cases h2; done)|skip
  ·rename_i I;refine .a0 _ rfl h2 fun m' w0 ρ ac w hs=>?_;have hv:=hs.ev x (by simp[Op.operands,Call.operands]);rw[I] at hv;simp only[VR,zR] at hv;exact⟨goInt 0,by simp[execOp,resolve,invoke,builtin,Builtin.cap_,U,aX hd,hv],by simp only[VR,goInt]; exact⟨rfl,by decide⟩⟩
  ·rename_i a o n k I;refine .a0 _ rfl h2 fun m' w0 ρ ac w hs=>?_;have hv:=hs.ev x (by simp[Op.operands,Call.operands]);rw[I] at hv;simp only[VR] at hv;obtain⟨adr,c',g1,g2,g3,g4,g5,_⟩:=hv;have g5:=g5 trivial;subst g5;have hn:c'<2^63:=(by simp only[maxLen] at g4; omega);exact⟨goInt c',by simp[execOp,resolve,invoke,builtin,Builtin.cap_,U,aX hd,g1],by simp only[VR,goInt]; exact⟨by rw[bX (.inr hn)],by omega⟩⟩
 ·exact(aU N h).elim
theorem aVV(P:Program)(w:World){k:IntKind}{g:NF}(hg:aTp .lss k=some (.mk g)){a b:Nat}{c:Bool→Bool}(h:g a b (fun r=>oB r c)=true):∃r,c r=true∧(a<2^k.bits→b<2^k.bits→r=decide (dec k a<dec k b)):=by
 obtain⟨v,h1,U⟩:=aMq hg _ _ _ h;obtain⟨r,h3,Y⟩:=aR2 h1;refine⟨r,Y,fun N hb=>?_⟩;obtain⟨x,J,I⟩:=U N hb P 0 w (fun _=>none);rw[h3] at I;simp only[VR] at I;simp[binOp,Op.intCmp,I] at J;rw[← J]
theorem bAi(hq:dU q){x y:Operand}{Y:Array TypeId}{tl:List TypeId}(w00:World)(J:kC q .min ty [x,y] tl= .mk f)(h:f e m c=true):OpR P q ⟨dst,.call ⟨.builtin .min,#[x,y],Y⟩,ty,pos,aft,gd⟩ e m c:=by
 unfold kC at J;simp only at J;split at J
 ·rename_i k hk;split at J
  ·rename_i b hb;obtain⟨g⟩:=b;obtain⟨okf,hok,ho⟩:=aIZ k;simp only[aV,hok] at J;have h2:=mM hq J h;obtain⟨n,h3,hn⟩:=ho _ _ h2;obtain⟨n',h4,hn'⟩:=ho _ _ h3;obtain⟨r,h5,h6⟩:=aVV P w00 hb h4;have I:∀ {w0 ρ m' U w},Sv q w0 ρ e m' U w (Op.call ⟨.builtin .min,#[x,y],Y⟩).operands→(execOp U.eval ⟨dst,.call ⟨.builtin .min,#[x,y],Y⟩,ty,pos,aft,gd⟩).run P w= .ok (.value (bi r (U.eval y) (U.eval x))) w:=fun {w0 ρ m' U w} N=>by
    obtain⟨e1,l1⟩:=hn ρ _ (N.ev x (by simp[Op.operands,Call.operands]));obtain⟨e2,l2⟩:=hn' ρ _ (N.ev y (by simp[Op.operands,Call.operands]));have:=h6 l2 l1;subst this;by_cases hlt:dec k n'<dec k n<;>simp[execOp,resolve,invoke,builtin,Builtin.min_,Builtin.min2,e1,e2,hlt]
   cases r
   ·simp only[aT] at h5 I;exact .a0 _ rfl h5 fun m' w0 ρ U w N=>⟨_,I N,N.ev x (by simp[Op.operands,Call.operands])⟩
   ·simp only[aS] at h5 I;exact .a0 _ rfl h5 fun m' w0 ρ U w N=>⟨_,I N,N.ev y (by simp[Op.operands,Call.operands])⟩
  ·exact(aU J h).elim
 ·exact(aU J h).elim
theorem bAj(hq:dU q){x y:Operand}{Y:Array TypeId}{tl:List TypeId}(w00:World)(J:kC q .max ty [x,y] tl= .mk f)(h:f e m c=true):OpR P q ⟨dst,.call ⟨.builtin .max,#[x,y],Y⟩,ty,pos,aft,gd⟩ e m c:=by
 unfold kC at J;simp only at J;split at J
 ·rename_i k hk;split at J
  ·rename_i b hb;obtain⟨g⟩:=b;obtain⟨okf,hok,ho⟩:=aIZ k;simp only[aV,hok] at J;have h2:=mM hq J h;obtain⟨n,h3,hn⟩:=ho _ _ h2;obtain⟨n',h4,hn'⟩:=ho _ _ h3;obtain⟨r,h5,h6⟩:=aVV P w00 hb h4;have I:∀ {w0 ρ m' U w},Sv q w0 ρ e m' U w (Op.call ⟨.builtin .max,#[x,y],Y⟩).operands→(execOp U.eval ⟨dst,.call ⟨.builtin .max,#[x,y],Y⟩,ty,pos,aft,gd⟩).run P w= .ok (.value (bi r (U.eval y) (U.eval x))) w:=fun {w0 ρ m' U w} N=>by
    obtain⟨e1,l1⟩:=hn ρ _ (N.ev x (by simp[Op.operands,Call.operands]));obtain⟨e2,l2⟩:=hn' ρ _ (N.ev y (by simp[Op.operands,Call.operands]));have:=h6 l1 l2;subst this;by_cases hlt:dec k n<dec k n'<;>simp[execOp,resolve,invoke,builtin,Builtin.max_,Builtin.max2,e1,e2,hlt]
   cases r
   ·simp only[aT] at h5 I;exact .a0 _ rfl h5 fun m' w0 ρ U w N=>⟨_,I N,N.ev x (by simp[Op.operands,Call.operands])⟩
   ·simp only[aS] at h5 I;exact .a0 _ rfl h5 fun m' w0 ρ U w N=>⟨_,I N,N.ev y (by simp[Op.operands,Call.operands])⟩
  ·exact(aU J h).elim
 ·exact(aU J h).elim
end
end
end Go.It
namespace Go.It
noncomputable section
open Go.RowKit
open Go.Vc (bG aY)
theorem qX.zeroV{P:Program}{t:TypeId}{i:TI}(h:qX P t i):∃z,(∀w,(zeroValue t).run P w= .ok z w)∧ ∀ρ,VR ρ (Go.It.zeroV i) z:=by
 obtain⟨f,h1,h2,_,z,h3,h4,h5,N⟩:=h.info;refine⟨z,fun w=>by simp[zeroValue,typeInfo,h1,h3],fun ρ=>?_⟩;unfold Go.It.zeroV;cases U:oC i
 ·simp only[aT];have:=N ρ;rw[(h5 U).1] at this
  match hz:i.z,this with
  | [],this=>simp[VRL] at this
  | [v],this =>
   simp only[VRL] at this;obtain⟨y,ys,I,Y,J⟩:=this;simp only[List.cons.injEq] at I;show VR ρ v z;rw[I.1]; exact Y
  | v::u::l,this =>
   simp only[VRL] at this;obtain⟨y,ys,I,Y,y2,ys2,J,_⟩:=this;simp only[List.cons.injEq] at I;rw[← I.2] at J;cases J
 ·simp only[aS];obtain⟨cs,rfl⟩:=h4 U;have:=(N ρ).agg h.zone.1
  simpa [Value.cells] using this
section
variable {P:Program} {q:Cx} {e:q.ε} {m:M} {c:V→M→Bool} {f:OpF q} {dst:Option Tmp} {ty:TypeId} {pos:String} {aft:Array Edge} {gd:Option (Nat×Bool)}
theorem aTy(hq:dU q)(hE:fA P q.E){x:Operand}{t d:TypeId}{ok:Bool}(hf:lX q ⟨dst,.typeAssert x t d ok,ty,pos,aft,gd⟩= .mk f)(h:f e m c=true):OpR P q ⟨dst,.typeAssert x t d ok,ty,pos,aft,gd⟩ e m c:=by
 replace hf:aIO q x d ok= .mk f:=hf;simp only[aIO,aV] at hf;have fin:(ti q.E d).k≠ .no→(ti q.E d).k≠ .ifc→(match evD q e x with
     | .ifc k y=>bi (Nat.beq k d) (bi ok (c (.tup [y,.b true]) m) (c y m)) (bi ok (c (.tup [zeroV (ti q.E d),.b false]) m) false)
     | .z .ifn=>bi ok (c (.tup [zeroV (ti q.E d),.b false]) m) false
     | _=>false)=true→OpR P q ⟨dst,.typeAssert x t d ok,ty,pos,aft,gd⟩ e m c:=fun hno U I=>by
  have ht:=dI hE rfl hno;obtain⟨ds,hd,Y⟩:=ht.desc;have U:∀ms,ds≠ .interface ms:=fun ms e=>by
   subst e;cases J:(ti q.E d).k<;>rw[J] at Y<;>simp only[kR,reduceCtorEq] at Y
   all_goals first|exact U J|(obtain⟨_,_,_,hh⟩:=Y; cases hh; done)|(obtain⟨_,hh,_⟩:=Y; cases hh; done)
  obtain⟨z,z1,z2⟩:=ht.zeroV;have rn:∀(w:World),(Instr.typeAssert .nilIface t d true).run P w= .ok (.tuple #[z,.bool false]) w:=fun w=>by
   cases ds<;>first|exact absurd rfl (U _)|simp[Instr.typeAssert,aX hd,z1]
  have ry:∀(w:World) (y:Value),(Instr.typeAssert (.iface d y) t d ok).run P w= .ok (if ok then .tuple #[y,.bool true] else y) w:=fun w y=>by
   cases ds<;>first|exact absurd rfl (U _)|simp[Instr.typeAssert,aX hd,z1]
  have rf:∀(w:World) (k:TypeId) (y:Value),k≠d→(Instr.typeAssert (.iface k y) t d true).run P w= .ok (.tuple #[z,.bool false]) w:=fun w k y J=>by
   cases ds<;>first|exact absurd rfl (U _)|simp[Instr.typeAssert,aX hd,z1,J]
  have vz:∀ {ρ:Rho},VR ρ (.tup [zeroV (ti q.E d),.b false]) (.tuple #[z,.bool false]):=fun {ρ}=>by
   simp only[VR,VRL];exact⟨[z,.bool false],rfl,_,_,rfl,z2 ρ,_,_,rfl,rfl,rfl⟩
  split at I<;>first|(cases I; done)|skip
  ·rename_i k y N;cases J:Nat.beq k d
   ·simp only[J,aT] at I;have J:k≠d:=fun e=>(by rw[e,Nat.beq_refl] at J; cases J);cases ok
    ·cases I
    ·simp only[aS] at I;refine .a0 _ rfl I fun m' w0 ρ ac w hs=>?_;have hv:=hs.ev x (by simp[Op.operands]);rw[N] at hv;simp only[VR] at hv;obtain⟨u,g1,g2⟩:=hv;exact⟨_,by simp[execOp,g1,rf w k u J],vz⟩
   ·simp only[J,aS] at I;have J:k=d:=Nat.eq_of_beq_eq_true J;subst J;cases ok
    ·simp only[aT] at I;refine .a0 _ rfl I fun m' w0 ρ ac w hs=>?_;have hv:=hs.ev x (by simp[Op.operands]);rw[N] at hv;simp only[VR] at hv;obtain⟨u,g1,g2⟩:=hv;exact⟨u,by simp[execOp,g1,ry w u],g2⟩
    ·simp only[aS] at I;refine .a0 _ rfl I fun m' w0 ρ ac w hs=>?_;have hv:=hs.ev x (by simp[Op.operands]);rw[N] at hv;simp only[VR] at hv;obtain⟨u,g1,g2⟩:=hv;refine⟨.tuple #[u,.bool true],by simp[execOp,g1,ry w u],?_⟩;simp only[VR,VRL];exact⟨[u,.bool true],rfl,_,_,rfl,g2,_,_,rfl,rfl,rfl⟩
  ·rename_i N;cases ok
   ·cases I
   ·simp only[aS] at I;refine .a0 _ rfl I fun m' w0 ρ ac w hs=>?_;have hv:=hs.ev x (by simp[Op.operands]);rw[N] at hv;simp only[VR,zR] at hv;exact⟨_,by simp[execOp,hv,rn w],vz⟩
 split at hf
 ·exact(aU hf h).elim
 ·exact(aU hf h).elim
 ·rename_i h1 I;exact fin I h1 (gG hq hf h)
theorem aSc:∀ {l:List V} {c:Nat→Bool},aXX l c=true→ ∃x,c x=true∧ ∀(ρ:Rho) (xs:List Value),VRL ρ l xs→ ∃bs:List UInt8,xs=(bs.map fun b=>Value.int .u8 (b.toNat:Int))∧num bs=x
 | [],c,h=>⟨0,h,fun ρ xs I=>⟨[],by simpa [VRL] using I,rfl⟩⟩
 | v::l,c,h=>by
  simp only[aXX] at h;split at h
  ·rename_i b;obtain⟨x,h1,Y⟩:=aSc h;refine⟨_,h1,fun ρ xs I=>?_⟩;simp only[VRL] at I;obtain⟨y,U,rfl,N,J⟩:=I;obtain⟨bs,rfl,h3⟩:=Y ρ U J;simp only[VR] at N;obtain⟨rfl,hb⟩:=N;have hb:b<256:=(by simpa [IntKind.bits] using hb);have e:(UInt8.ofNat b).toNat=b:=(by simp[Nat.mod_eq_of_lt hb]);refine⟨UInt8.ofNat b::bs,?_,?_⟩
   ·rw[List.map_cons,e,bX (.inl rfl)]
   ·simp only[num,e,h3]
  ·cases h
theorem aOB:∀(bs:List UInt8) (s:ByteArray),((bs.map fun b=>(b.toNat:Int)).foldl (fun r n=>r.push (UInt8.ofNat n.toNat)) s).data.toList=s.data.toList++bs
 | [],s=>by simp
 | b::bs,s=>by
  rw[List.map_cons,List.foldl_cons,aOB bs];simp[ByteArray.push]
theorem aVW{k:IntKind}{a m0:Nat}(h:m0≤2^k.bits*m0):enc k ((a:Int)-m0)=(a+(2^k.bits*m0-m0))%2^k.bits:=by
 rw[← qW];apply vX;have e:((a+(2^k.bits*m0-m0):Nat):Int)=((a:Int)-m0)+(2:Int)^k.bits*m0:=by
  have hc:=aBE k;rw[← hc,← Int.natCast_mul];omega
 rw[e,Int.add_mul_emod_self_left]
theorem aOC(hq:dU q)(hE:fA P q.E){s d:TypeId}{x:Operand}{k k':IntKind}(hk:(ti q.E s).k= .i k)(Y:(ti q.E d).k= .i k')(hf:aEa q k k' x= .mk f)(h:f e m c=true):OpR P q ⟨dst,.convert s d x,ty,pos,aft,gd⟩ e m c:=by
 have hcl:cls q ⟨dst,.convert s d x,ty,pos,aft,gd⟩=0:=by
  show yR s d q=0;unfold yR; rw[hk,Y]
 obtain⟨ds,hd,U⟩:=(dI hE hk (by simp)).desc;obtain⟨ds',hd',I⟩:=(dI hE Y (by simp)).desc;rw[hk] at U;rw[Y] at I;simp only[kR] at U I;subst U I;obtain⟨okf,hok,ho⟩:=aIZ k;obtain⟨mk,hmk,hm⟩:=aIY k';have run:∀(w:World) (n:Int),(convert s d (.int k n)).run P w= .ok (.int k' (dec k' (enc k' n))) w:=fun w n=>by
  simp[convert,aX hd,aX hd',Conv.intToInt,qU]
 simp only[aEa,hok,hmk,aIX,aMm,aV] at hf;cases hs:k.signed
 ·simp only[hs,aT] at hf;have h2:=gG hq hf h;obtain⟨a,h3,h4⟩:=ho _ _ h2;refine .a0 _ hcl h3 fun m' w0 ρ ac w J=>?_;obtain⟨e1,l1⟩:=h4 ρ _ (J.ev x (by simp[Op.operands]));refine⟨_,by simp[execOp,e1,run]; rfl,(hm ρ _ _).2 ⟨?_,Nat.mod_lt _ (Nat.two_pow_pos _)⟩⟩;rw[bX (.inl hs),qW]; rfl
 ·simp only[hs,aS] at hf;have h2:=gG hq hf h;obtain⟨a,h3,h4⟩:=ho _ _ h2;cases hb:Nat.blt a (2^(k.bits-1))
  ·simp only[hb,aT] at h3;refine .a0 _ hcl h3 fun m' w0 ρ ac w J=>?_;obtain⟨e1,l1⟩:=h4 ρ _ (J.ev x (by simp[Op.operands]));refine⟨_,by simp[execOp,e1,run]; rfl,(hm ρ _ _).2 ⟨?_,Nat.mod_lt _ (Nat.two_pow_pos _)⟩⟩;have hb:2^(k.bits-1)≤a:=by
    have:¬a<2^(k.bits-1):=fun e=>(by rw[← Nat.blt_eq] at e; rw[hb] at e; cases e);omega
   have N:dec k a=(a:Int)-(2^k.bits:Nat):=by
    unfold dec;rw[if_pos (by simp[hs,hb])]
    push_cast; rfl
   rw[N,aVW]
   ·rfl
   ·exact Nat.le_mul_of_pos_left _ (Nat.two_pow_pos _)
  ·simp only[hb,aS] at h3;refine .a0 _ hcl h3 fun m' w0 ρ ac w J=>?_;obtain⟨e1,l1⟩:=h4 ρ _ (J.ev x (by simp[Op.operands]));refine⟨_,by simp[execOp,e1,run]; rfl,(hm ρ _ _).2 ⟨?_,Nat.mod_lt _ (Nat.two_pow_pos _)⟩⟩;have N:dec k a=(a:Int):=bX (.inr (by rw[Nat.blt_eq] at hb; exact hb));rw[N,qW]; rfl
theorem aVX(hq:dU q)(Y:fA P q.E){s d:TypeId}{x:Operand}(U:(ti q.E s).k= .i .i64)(J:(ti q.E d).k= .i .u64)(hf:aL4 q x= .mk f)(h:f e m c=true):OpR P q ⟨dst,.convert s d x,ty,pos,aft,gd⟩ e m c:=by
 unfold aL4 at hf;cases hb:aEa q .i64 .u64 x with
 | mk g =>
  simp only[hb,eX hq,aV,Box.mk.injEq] at hf;subst hf;rcases aSa h with⟨md,n,hx,h⟩|h
  ·have hcl:cls q ⟨dst,.convert s d x,ty,pos,aft,gd⟩=0:=by
    show yR s d q=0;unfold yR; rw[U,J]
   obtain⟨ds,hd,N⟩:=(dI Y U (by simp)).desc;obtain⟨ds',hd',I⟩:=(dI Y J (by simp)).desc;rw[U] at N;rw[J] at I;simp only[kR] at N I;subst N I;refine .a0 _ hcl h fun m' w0 ρ ac w hsv=>?_;have v1:=hsv.ev x (by simp[Op.operands]);rw[hx] at v1;simp only[VR] at v1;obtain⟨z,e1,l1,l2⟩:=v1;have he:enc .u64 (dec .i64 z)=z:=aMo (k:=.i64) l1;refine⟨.int .u64 (dec .u64 z),?_,by simp only[VR]; exact⟨z,rfl,l1,l2⟩⟩;have run:(convert s d (.int .i64 (dec .i64 z))).run P w= .ok (.int .u64 (dec .u64 (enc .u64 (dec .i64 z)))) w:=by
    simp[convert,aX hd,aX hd',Conv.intToInt,qU]
   rw[he] at run;simp[execOp,e1,run]
  ·exact aOC hq Y U J hb h
theorem aOD(hq:dU q)(U:fA P q.E){s d:TypeId}{x:Operand}{k k':IntKind}(N:(ti q.E s).k= .i k)(J:(ti q.E d).k= .i k')(I:lX q ⟨dst,.convert s d x,ty,pos,aft,gd⟩= .mk f)(h:f e m c=true):OpR P q ⟨dst,.convert s d x,ty,pos,aft,gd⟩ e m c:=by
 replace I:wL q s d x= .mk f:=I;simp only[wL,N,J] at I;cases hi:isQ k k'
 ·rw[hi] at I; exact aOC hq U N J I h
 ·rw[hi] at I;have Y:k= .i64:=by cases k<;>first|rfl|(cases k'<;>cases hi)
  subst Y;have e2:k'= .u64:=by cases k'<;>first|rfl|cases hi
  subst e2;exact aVX hq U N J I h
theorem aOE(hq:dU q)(hE:fA P q.E){s d:TypeId}{x:Operand}(Y:(ti q.E s).k= .s)(J:(ti q.E d).k= .s)(hf:lX q ⟨dst,.convert s d x,ty,pos,aft,gd⟩= .mk f)(h:f e m c=true):OpR P q ⟨dst,.convert s d x,ty,pos,aft,gd⟩ e m c:=by
 replace hf:wL q s d x= .mk f:=hf;have hcl:cls q ⟨dst,.convert s d x,ty,pos,aft,gd⟩=0:=by
  show yR s d q=0;unfold yR; rw[Y,J]
 obtain⟨ds,hd,N⟩:=(dI hE Y (by simp)).desc;obtain⟨ds',hd',I⟩:=(dI hE J (by simp)).desc;rw[Y] at N;rw[J] at I;simp only[kR] at N I;subst N I;simp only[wL,Y,J] at hf;have h2:=gG hq hf h;obtain⟨n,y,hv0,h3⟩:=aIV h2;refine .a0 _ hcl h3 fun m' w0 ρ ac w hs=>?_;have hv:=hs.ev x (by simp[Op.operands]);rw[hv0] at hv;have U:=hv;simp only[VR] at U;obtain⟨sb,g1,_⟩:=U;exact⟨ac.eval x,by simp[execOp,convert,aX hd,aX hd',g1],hv⟩
theorem aJ8(hq:dU q)(hE:fA P q.E){s d el:TypeId}{x:Operand}(hk:(ti q.E s).k= .sl el)(Y:(ti q.E d).k= .s)(hf:lX q ⟨dst,.convert s d x,ty,pos,aft,gd⟩= .mk f)(h:f e m c=true):OpR P q ⟨dst,.convert s d x,ty,pos,aft,gd⟩ e m c:=by
 replace hf:wL q s d x= .mk f:=hf;have hcl:cls q ⟨dst,.convert s d x,ty,pos,aft,gd⟩=1:=by
  show yR s d q=1;unfold yR; rw[hk,Y]
 obtain⟨ds,hd,hkr⟩:=(dI hE hk (by simp)).desc;obtain⟨ds',hd',I⟩:=(dI hE Y (by simp)).desc;rw[hk] at hkr;rw[Y] at I;simp only[kR] at hkr I;subst hkr I;simp only[wL,hk,Y] at hf;split at hf
 ·rename_i hke;obtain⟨de,hde,J⟩:=(dI hE hke (by simp)).desc;rw[hke] at J;simp only[kR] at J;subst J;have U:=gG hq hf h;have run:∀(w:World) (a:Option Addr) (l cc:Nat),(convert s d (.slice a l cc)).run P w=(Conv.bytesToString (.slice a l cc)).run P w:=fun w a l cc=>run_convert_bytes_string w s d el a l cc hd hde hd';unfold elems at U;split at U<;>first|(cases U; done)|skip
  ·rename_i hv0;refine .a1 _ hcl U fun w0 ρ ac w hs=>?_;have hv:=hs.ev x (by simp[Op.operands]);rw[hv0] at hv;simp only[VR,zR] at hv;refine⟨.string .empty,by simp[execOp,hv,run,Conv.bytesToString],?_⟩;simp only[VR];exact⟨_,rfl,rfl,rfl,Nat.zero_le _⟩
  ·rename_i a o n cp xx hv0;cases hn:Nat.beq n 0
   ·simp only[hn,aT,aGj] at U;rw[pB] at U;obtain⟨w',l,h3,h4⟩:=sR U;obtain⟨h5,h6⟩:=yS h4;obtain⟨h7,h8⟩:=wM h6;obtain⟨y,h9,h10⟩:=aSc h8;have hn:n≠0:=fun e=>(by rw[e] at hn; cases hn);refine .a1 _ hcl h9 fun w0 ρ ac w hs=>?_;have hv:=hs.ev x (by simp[Op.operands]);rw[hv0] at hv;have hnc:n≤cp:=(by have hv:=hv; simp only[VR] at hv; obtain⟨_,_,_,h,_⟩:=hv; exact h);obtain⟨r,b,N,c',g1,g2,g3,g4,g5,_⟩:=hv.slice (by omega);obtain⟨k1,k2,xs,k3,k4⟩:=hs.w.row g1 h3;obtain⟨bs,b1,b2⟩:=h10 ρ _ ((k3.drop o).take (Nat.mul n 1));have hlen:bs.length=n:=by
     have e1:=congrArg List.length b1;have e2:=k3.length;simp only[List.length_drop,Nat.mul_eq,Nat.mul_one] at h7;simp only[List.length_take,List.length_drop,List.length_map,Nat.mul_eq,Nat.mul_one] at e1;omega
    have hld:=run_loadCells_list (P:=P) w ⟨r,b+o,none⟩ ((xs.drop o).take (Nat.mul n 1)) (wP k4);rw[b1,List.length_map,hlen] at hld;have hbs:=run_bytesToString (P:=P) w ⟨r,b+o,none⟩ n c' (bs.map fun b=>(b.toNat:Int)) (by rw[List.map_map]; exact hld);refine⟨_,by simp only[execOp,Sem.run_bind,g2,run,hbs]; rfl,?_⟩;simp only[VR];have hp:=aOB bs .empty;refine⟨_,rfl,by rw[hp]; simpa using hlen,by rw[hp]; simpa using b2,by omega⟩
   ·simp only[hn,aS] at U;have hn:n=0:=Nat.eq_of_beq_eq_true hn;subst hn;refine .a1 _ hcl U fun w0 ρ ac w hs=>?_;have hv:=hs.ev x (by simp[Op.operands]);rw[hv0] at hv;simp only[VR] at hv;obtain⟨adr,c',g1,_⟩:=hv;have hbs:=run_bytesToString (P:=P) w adr 0 c' [] (by simp[loadCells,loadCellsFrom]);refine⟨.string .empty,by simp only[execOp,Sem.run_bind,g1,run,hbs]; rfl,?_⟩;simp only[VR];exact⟨_,rfl,rfl,rfl,Nat.zero_le _⟩
 ·exact(aU hf h).elim
end
end
end Go.It
namespace Go.It
noncomputable section
open Go.RowKit
open Go.Vc (bG aY)
structure bAk(P:Program)(kt:TypeId)(g:V→V→Option Bool):Prop where
 eq:EqR P kt g
 chk:∀(v:V) (r:Bool) (ρ:Rho) (a:Value) (b:Bool) (w:World) (n:Nat),g v v=some r→VR ρ v a→(Instr.checkKey b (n+2) kt a).run P w= .ok () w
 now:∃ds,P.underlying kt=some ds∧ ∀(v u:V) (r:Bool) (ρ:Rho) (a b:Value) (x:Bool),g v u=some r→VR ρ v a→VR ρ u b→Instr.sameNow ds a b=some x→x=r
theorem aCs{P:Program}{t:TypeId}{d:TypeDesc}(hd:P.underlying t=some d)(h:d= .bool∨d= .string∨ ∃k,d= .int k)(b:Bool)(n:Nat)(v:Value)(w:World):(Instr.checkKey b (n+1) t v).run P w= .ok () w:=by
 rcases h with rfl|rfl|⟨k,rfl⟩<;>simp[Instr.checkKey,aX hd]
theorem aYg{P:Program}{t e:TypeId}{len:Nat}{i:TI}(hd:P.underlying t=some (.array len e))(he:qX P e i){k:IntKind}(hk:i.k= .i k)(hn:i.n=1)(b:Bool)(n:Nat)(xs:Array Value)(hl:xs.size=len)(w:World) :
  (Instr.checkKey b (n+2) t (.agg xs)).run P w= .ok () w:=by
 obtain⟨de,Y,J⟩:=he.desc;rw[hk] at J;simp only[kR] at J;have hag:oC i=false:=by unfold oC; rw[hk]
 rw[Instr.checkKey];simp only[Sem.run_bind,aX hd,Result.andThen_ok];simp only[Std.Legacy.Range.forIn_eq_forIn_range',Std.Legacy.Range.size];have I:∀j∈List.range' 0 ((len-0+1-1)/1) 1,j<xs.size:=fun j hj=>by
  have:=List.mem_range'_1.1 hj;simp at this;omega
 generalize List.range' 0 ((len-0+1-1)/1) 1=N at I;have hs:=he.size w;rw[hn] at hs;have U:∀N:List Nat,(∀j∈N,j<xs.size)→(forIn N PUnit.unit fun i r=>(do
   let s ← sizeOf e
   let v ← part e xs (i*s)
   Instr.checkKey b (n+1) e v
   pure (ForInStep.yield PUnit.unit):Sem (ForInStep PUnit))).run P w= .ok PUnit.unit w:=by
  intro N I
  induction N with
  | nil=>simp
  | cons j r ih =>
   have hj:=I j (.head _);have p1:(part e xs (j*1)).run P w= .ok xs[j] w:=he.part_one hag (by simp[hj]) w;have c1:(Instr.checkKey b (n+1) e xs[j]).run P w= .ok () w:=aCs Y (.inr (.inr ⟨k,J⟩)) b n _ w;simp only[List.forIn_cons,Sem.run_bind,hs,Result.andThen_ok,p1,c1,Sem.run_pure];exact ih fun x hx=>I x (.tail _ hx)
 rw[U N I];rfl
theorem aSd{P:Program}{E:En}(hE:fA P E){kt:TypeId}{g:V→V→Option Bool}(J:aTr E (ti E kt).k=some g):bAk P kt g:=by
 unfold aTr at J;split at J<;>first|(cases J; done)|skip
 ·rename_i k U;obtain⟨ds,hd,I⟩:=(dI hE U (by simp)).desc;rw[U] at I;simp only[kR] at I;subst I;simp only[Option.some.injEq] at J; subst J;refine⟨(EqF.qI hd).r,fun v r ρ a b w n _ _=>aCs hd (.inr (.inr ⟨k,rfl⟩)) b (n+1) a w,_,hd,fun v u r ρ a b x h Y hb N=>?_⟩;obtain⟨j,y,z,rfl,rfl,e⟩:=aOu h Y hb;simp[Instr.sameNow] at N;rw[← N,← e]
 ·rename_i U;obtain⟨ds,hd,I⟩:=(dI hE U (by simp)).desc;rw[U] at I;simp only[kR] at I;subst I;simp only[Option.some.injEq] at J; subst J;refine⟨(EqF.qS hd).r,fun v r ρ a b w n _ _=>aCs hd (.inr (.inl rfl)) b (n+1) a w,_,hd,fun v u r ρ a b x h Y hb N=>?_⟩;unfold qS at h;split at h<;>first|(cases h; done)|skip
  simp only[VR] at Y hb;obtain⟨s,rfl,s1,s2,s3⟩:=Y;obtain⟨q,rfl,r1,r2,r3⟩:=hb;simp only[Instr.sameNow,Option.some.injEq] at N h;rw[← N,← h,beq_toListBytes,aI0,s1,s2,r1,r2]
 ·rename_i U;obtain⟨ds,hd,I⟩:=(dI hE U (by simp)).desc;rw[U] at I;simp only[kR] at I;subst I;simp only[Option.some.injEq] at J; subst J;refine⟨(EqF.qB hd).r,fun v r ρ a b w n _ _=>aCs hd (.inl rfl) b (n+1) a w,_,hd,fun v u r ρ a b x h Y hb N=>?_⟩;unfold qB at h;split at h<;>first|(cases h; done)|skip
  rename_i x1 y1;simp only[VR] at Y hb;subst Y hb;simp only[Instr.sameNow,Option.some.injEq] at N h;rw[← N,← h];cases x1<;>cases y1<;>rfl
 ·rename_i n e U;obtain⟨ds,hd,I⟩:=(dI hE U (by simp)).desc;rw[U] at I;simp only[kR] at I;subst I;have hq:=EqR.qA hE hd J;unfold qAr at J;split at J
  ·rename_i k hke;have he:=dI hE hke (by simp);cases hn:Nat.beq (ti E e).n 1
   ·rw[hn] at J; cases J
   ·rw[hn] at J;simp only[aS,Option.some.injEq] at J;subst J;refine⟨hq,fun v r ρ a b w j h Y=>?_,_,hd,fun v u r ρ a b x h Y hb N=>by simp[Instr.sameNow] at N⟩;obtain⟨l,rfl⟩:∃l,v= .agg l:=(by cases v<;>first|exact⟨_,rfl⟩|(simp[qA] at h; done));have h:(bi (Nat.beq (aII l) n) (qL l l) none)=some r:=h;cases hl:Nat.beq (aII l) n
    ·rw[hl] at h; cases h
    ·have hl:l.length=n:=(by rw[← aCq]; exact Nat.eq_of_beq_eq_true hl);simp only[VR] at Y;obtain⟨xs,rfl,N,_⟩:=Y;have:=N.length;exact aYg hd he hke (Nat.eq_of_beq_eq_true hn) b j _ (by simp; omega) w
  ·cases J
def aTz(ρ:Rho)(l:List (V×V))(I:List MapEntry):Prop:=I.length=l.length∧ ∀(j:Nat) (p:V×V) (e:MapEntry),l[j]? = some p→I[j]? = some e→VR ρ p.1 e.key∧VR ρ p.2 e.val
theorem aTz.tail{ρ:Rho}{p:V×V}{l:List (V×V)}{e:MapEntry}{I:List MapEntry}(h:aTz ρ (p::l) (e::I)):aTz ρ l I∧VR ρ p.1 e.key∧VR ρ p.2 e.val :=
 ⟨⟨by simpa using h.1,fun j N Y U J=>h.2 (j+1) N Y (by simpa using U) (by simpa using J)⟩,h.2 0 p e rfl rfl⟩
section
variable {P:Program} {kt:TypeId} {g:V→V→Option Bool}
theorem aFw(K:bAk P kt g){ρ:Rho}{k:V}{a:Value}(N:VR ρ k a){ds:TypeDesc}(hd:P.underlying kt=some ds)(w:World):∀(l:List (V×V)) (I:List MapEntry) (n:Nat),aTz ρ l I→(∀p∈l,g k p.1=some false) →
  (Instr.findNow ds a I n=none∨Instr.findNow ds a I n=some none)∧(Instr.findAsking kt a I n).run P w= .ok none w
 | [],[],n,_,_=>⟨.inr rfl,by simp[Instr.findAsking]⟩
 | [],_::_,_,h,_=>by have:=h.1; simp at this
 | _::_,[],_,h,_=>by have:=h.1; simp at this
 | p::l,e::I,n,h,hn=>by
  obtain⟨h1,Y,h3⟩:=h.tail;have hp:=hn p (.head _);obtain⟨i1,i2⟩:=aFw K N hd w l I (n+1) h1 fun x U=>hn x (.tail _ U);obtain⟨ds',J,U⟩:=K.now;rw[hd] at J;cases J;have he:(Op.equal kt a e.key).run P w= .ok false w:=K.eq _ _ _ ρ _ _ hp N Y w 9998;refine⟨?_,by simp only[Instr.findAsking,Sem.run_bind,he,Result.andThen_ok]; simpa using i2⟩;simp only[Instr.findNow];cases hs:Instr.sameNow ds a e.key with
  | none=>exact .inl rfl
  | some x =>
   have:=U _ _ _ ρ _ _ _ hp N Y hs;subst this;exact i1
theorem aFx(K:bAk P kt g){ρ:Rho}{k:V}{a:Value}(Y:VR ρ k a){ds:TypeDesc}(hd:P.underlying kt=some ds)(w:World):∀(l:List (V×V)) (J:List MapEntry) (n i:Nat) (p:V×V),aTz ρ l J→l[i]? = some p→g k p.1=some true→(∀(j:Nat) (p':V×V),j<i→l[j]? = some p'→g k p'.1=some false) →
  ∃v,(∃e,J[i]? = some e∧e.val=v)∧VR ρ p.2 v∧(Instr.findNow ds a J n=none∨Instr.findNow ds a J n=some (some (n+i,v)))∧(Instr.findAsking kt a J n).run P w= .ok (some (n+i,v)) w
 | [],_,_,_,_,_,h,_,_=>by simp at h
 | _::_,[],_,_,_,h,_,_,_=>by have:=h.1; simp at this
 | p0::l,e::J,n,0,p,h,hi,hp,_=>by
  simp only[List.getElem?_cons_zero,Option.some.injEq] at hi;subst hi;obtain⟨h1,N,h3⟩:=h.tail;obtain⟨ds',I,hx⟩:=K.now;rw[hd] at I;cases I;have he:(Op.equal kt a e.key).run P w= .ok true w:=K.eq _ _ _ ρ _ _ hp Y N w 9998;refine⟨e.val,⟨e,rfl,rfl⟩,h3,?_,by simp only[Instr.findAsking,Sem.run_bind,he,Result.andThen_ok]; rfl⟩;simp only[Instr.findNow];cases hs:Instr.sameNow ds a e.key with
  | none=>exact .inl rfl
  | some x =>
   have:=hx _ _ _ ρ _ _ _ hp Y N hs;subst this;exact .inr rfl
 | p0::l,e::J,n,i+1,p,h,hi,hp,hb=>by
  obtain⟨h1,N,h3⟩:=h.tail;have U:=hb 0 p0 (by omega) rfl;obtain⟨v,⟨e',k1,k2⟩,k3,k4,k5⟩:=aFx K Y hd w l J (n+1) i p h1 (by simpa using hi) hp fun j p' hj hj'=>hb (j+1) p' (by omega) (by simpa using hj');obtain⟨ds',I,hx⟩:=K.now;rw[hd] at I;cases I;have he:(Op.equal kt a e.key).run P w= .ok false w:=K.eq _ _ _ ρ _ _ U Y N w 9998;rw[show n+1+i=n+(i+1) from by omega] at k4 k5;refine⟨v,⟨e',by simpa using k1,k2⟩,k3,?_,by simp only[Instr.findAsking,Sem.run_bind,he,Result.andThen_ok]; simpa using k5⟩;simp only[Instr.findNow];cases hs:Instr.sameNow ds a e.key with
  | none=>exact .inl rfl
  | some x =>
   have:=hx _ _ _ ρ _ _ _ U Y N hs;subst this;exact k4
theorem run_findKey{ds:TypeDesc}(hd:P.underlying kt=some ds){a:Value}{J:List MapEntry}{r:Option (Nat×Value)}{w:World}(I:Instr.findNow ds a J 0=none∨Instr.findNow ds a J 0=some r)(N:(Instr.findAsking kt a J).run P w= .ok r w):(Instr.findKey kt a J).run P w= .ok r w:=by
 simp only[Instr.findKey,Sem.run_bind,aX hd,Result.andThen_ok];rcases I with I|I<;>rw[I]
 ·exact N
 ·rfl
theorem aOF{k:V}:∀ {l:List (V×V)} {c:V→Bool} {n:Bool},aRW g k l c n=true →
  (∃i p,l[i]? = some p∧g k p.1=some true∧(∀(j:Nat) (J:V×V),j<i→l[j]? = some J→g k J.1=some false)∧c p.2=true)∨((∀p∈l,g k p.1=some false)∧n=true)
 | [],c,n,h=>.inr ⟨fun p hp=>(by cases hp),h⟩
 | (a,v)::l,c,n,h=>by
  simp only[aRW] at h;split at h
  ·rename_i N;exact .inl ⟨0,_,rfl,N,fun j J hj=>by omega,h⟩
  ·rename_i N;rcases aOF h with⟨i,p,Y,U,h3,h4⟩|⟨Y,U⟩
   ·refine .inl ⟨i+1,p,by simpa using Y,U,fun j J hj I=>?_,h4⟩;cases j with
    | zero=>simp at I; subst I; exact N
    | succ j=>exact h3 j J (by omega) (by simpa using I)
   ·refine .inr ⟨fun p hp=>?_,U⟩;rcases List.mem_cons.1 hp with rfl|hp
    ·exact N
    ·exact Y p hp
  ·cases h
end
section
variable {P:Program} {q:Cx} {e:q.ε} {m:M} {c:V→M→Bool} {f:OpF q} {dst:Option Tmp} {ty:TypeId} {pos:String} {aft:Array Edge} {gd:Option (Nat×Bool)}
theorem W.ents{w0:World}{ρ:Rho}{m:M}{w:World}(J:W w0 ρ m w){a r N:Nat}(ha:ρ a=some (r,0,N)){l:List (V×V)}(Y:ob m a= .map l):∃I cl,w0.heap.size≤r∧w.heap[r]? = some (.map I cl)∧aTz ρ l I.toList:=by
 have h:=J.obj a r 0 N ha;rw[Y] at h;obtain⟨_,h1,I,cl,h2,h3,h4⟩:=h;exact⟨I,cl,h1,h2,by simpa using h3,fun j p e h5 U=>h4 j p e h5 (by simpa using U)⟩
theorem aTA(hq:dU q)(hE:fA P q.E){t:TypeId}{x y:Operand}{ok:Bool}(Y:lX q ⟨dst,.lookup t x y ok,ty,pos,aft,gd⟩= .mk f)(h:f e m c=true):OpR P q ⟨dst,.lookup t x y ok,ty,pos,aft,gd⟩ e m c:=by
 replace Y:aIN q t x y ok= .mk f:=Y;unfold aIN at Y;split at Y
 ·rename_i kt el hk;obtain⟨dm,hdm,hkr⟩:=(dI hE hk (by simp)).desc;rw[hk] at hkr;simp only[kR] at hkr;subst hkr;split at Y
  ·rename_i g hg;cases hn:kn q.E el
   ·simp only[hn,aT] at Y;exact(aU Y h).elim
   ·simp only[hn,aS,aV] at Y;have hel:=pC hE hn;obtain⟨z,z1,z2⟩:=hel.zeroV;have K:=aSd hE hg;obtain⟨ds,hd,_⟩:=K.now;have h2:=mM hq Y h;unfold aZf at h2;split at h2
    ·cases h2
    ·rename_i r0 hr0;have nov:∀ {ρ:Rho},VR ρ (.tup [zeroV (ti q.E el),.b false]) (.tuple #[z,.bool false]):=fun {ρ}=>by
      simp only[VR,VRL];exact⟨[z,.bool false],rfl,_,_,rfl,z2 ρ,_,_,rfl,rfl,rfl⟩
     split at h2<;>first|(cases h2; done)|skip
     ·rename_i hv0;have run:∀ {w0 ρ m' J w},Sv q w0 ρ e m' J w (Op.lookup t x y ok).operands→(execOp J.eval ⟨dst,.lookup t x y ok,ty,pos,aft,gd⟩).run P w= .ok (.value (if ok then .tuple #[z,.bool false] else z)) w:=fun {w0 ρ m' J w} I=>by
       have hv:=I.ev x (by simp[Op.operands]);have hy:=I.ev y (by simp[Op.operands]);rw[hv0] at hv;simp only[VR,zR] at hv;have hc:(Instr.checkKey true 10000 kt (J.eval y)).run P w= .ok () w:=K.chk _ _ _ _ true w 9998 hr0 hy;have U:(Instr.findKey kt (J.eval y) []).run P w= .ok none w:=run_findKey hd (.inr rfl) (by simp[Instr.findAsking]);simp[execOp,Instr.lookup,aX hdm,hv,hc,U,z1]
      cases ok
      ·exact .a1 _ rfl h2 fun w0 ρ J w I=>⟨_,run I,z2 ρ⟩
      ·exact .a1 _ rfl h2 fun w0 ρ J w I=>⟨_,run I,nov⟩
     ·rename_i a hv0;rw[pB] at h2;obtain⟨l,h3,h4⟩:=aMk h2;rcases aOF h4 with⟨i,p,k1,k2,k3,k4⟩|⟨k1,k2⟩
      ·have run:∀ {w0 ρ J w},Sv q w0 ρ e m J w (Op.lookup t x y ok).operands→ ∃v,VR ρ p.2 v∧(execOp J.eval ⟨dst,.lookup t x y ok,ty,pos,aft,gd⟩).run P w= .ok (.value (if ok then .tuple #[v,.bool true] else v)) w:=fun {w0 ρ J w} I=>by
        have hv:=I.ev x (by simp[Op.operands]);have hy:=I.ev y (by simp[Op.operands]);rw[hv0] at hv;simp only[VR] at hv;obtain⟨r,N,g1,g2⟩:=hv;obtain⟨es,cl,e1,e2,e3⟩:=I.w.ents g1 h3;have hc:(Instr.checkKey es.isEmpty 10000 kt (J.eval y)).run P w= .ok () w:=K.chk _ _ _ _ _ w 9998 hr0 hy;obtain⟨v,_,f1,f2,f3⟩:=aFx K hy hd w l es.toList 0 i p e3 k1 k2 k3;have U:=run_findKey hd f2 f3;refine⟨v,f1,?_⟩;simp[execOp,Instr.lookup,aX hdm,g2,getObj,Sem.run,e2,hc,U]
       cases ok
       ·exact .a1 _ rfl k4 fun w0 ρ J w I=>by
         obtain⟨v,r1,r2⟩:=run I;exact⟨_,r2,r1⟩
       ·exact .a1 _ rfl k4 fun w0 ρ J w I=>by
         obtain⟨v,r1,r2⟩:=run I;refine⟨_,r2,?_⟩;simp only[VR,VRL];exact⟨[v,.bool true],rfl,_,_,rfl,r1,_,_,rfl,rfl,rfl⟩
      ·have run:∀ {w0 ρ J w},Sv q w0 ρ e m J w (Op.lookup t x y ok).operands→(execOp J.eval ⟨dst,.lookup t x y ok,ty,pos,aft,gd⟩).run P w= .ok (.value (if ok then .tuple #[z,.bool false] else z)) w:=fun {w0 ρ J w} I=>by
        have hv:=I.ev x (by simp[Op.operands]);have hy:=I.ev y (by simp[Op.operands]);rw[hv0] at hv;simp only[VR] at hv;obtain⟨r,N,g1,g2⟩:=hv;obtain⟨es,cl,e1,e2,e3⟩:=I.w.ents g1 h3;have hc:(Instr.checkKey es.isEmpty 10000 kt (J.eval y)).run P w= .ok () w:=K.chk _ _ _ _ _ w 9998 hr0 hy;obtain⟨f2,f3⟩:=aFw K hy hd w l es.toList 0 e3 k1;have U:=run_findKey hd f2 f3;simp[execOp,Instr.lookup,aX hdm,g2,getObj,Sem.run,e2,hc,U,z1]
       cases ok
       ·exact .a1 _ rfl k2 fun w0 ρ J w I=>⟨_,run I,z2 ρ⟩
       ·exact .a1 _ rfl k2 fun w0 ρ J w I=>⟨_,run I,nov⟩
  ·exact(aU Y h).elim
 ·exact(aU Y h).elim
end
end
end Go.It
namespace Go.It
noncomputable section
open Go.RowKit
open Go.Vc (bG aY)
theorem But.alloc(w:World)(o:Obj):But w.heap.size w (w.alloc o) :=
 ⟨rfl,rfl,rfl,by rw[World.size_alloc]; omega,fun b hb _=>heap_alloc_old w o hb⟩
theorem OR.made{w0:World}{ρ:Rho}{w:World}(h0:w0.heap.size≤w.heap.size){cs:Array Value}{el:TypeId}{l:List V}{xs post:List Value}(J:cs.toList=xs++post)(U:VRL ρ l xs)(Y:l.all kD=true):OR w0 ρ (w.alloc (.cells cs el)) w.heap.size 0 cs.size (.row true l):=by
 have N:cs.size=xs.length+post.length:=by rw[← Array.length_toList,J]; simp
 have hc:∀j,(w.alloc (.cells cs el)).cell? ⟨w.heap.size,0+j,none⟩=cs[j]? := fun j=>by
  rw[Nat.zero_add]; exact World.cell?_alloc_new w cs el j
 refine⟨Y,by rw[N,U.length]; omega,⟨xs,U,fun j v I=>?_⟩,fun j I=>by rw[hc]; simp[I],⟨cs,el,_,heap_alloc_new w _⟩,fun _=>⟨h0,fun j I=>?_⟩⟩
 ·have:=hc j;rw[Nat.zero_add] at this;rw[show (0+j)=j from Nat.zero_add j] at *;rw[this,← Array.getElem?_toList,J,List.getElem?_append_left (List.getElem?_eq_some_iff.1 I).1];exact I
 ·rw[Nat.zero_add];exact World.frozen?_alloc_at cs el _ j rfl
section
variable {P:Program} {q:Cx} {e:q.ε} {m:M} {c:V→M→Bool} {f:OpF q} {dst:Option Tmp} {ty:TypeId} {pos:String} {aft:Array Edge} {gd:Option (Nat×Bool)}
theorem aVY(hq:dU q)(N:fA P q.E){t:TypeId}(I:lX q ⟨dst,.alloc t,ty,pos,aft,gd⟩= .mk f)(h:f e m c=true):OpR P q ⟨dst,.alloc t,ty,pos,aft,gd⟩ e m c:=by
 replace I:aMc q t= .mk f:=I;unfold aMc at I;cases J:kn q.E t
 ·simp only[J,aT] at I;exact(aU I h).elim
 ·simp only[J,aS,aV,Box.mk.injEq] at I;subst I;have ht:=pC N J;obtain⟨h1,h2⟩:=sS h;obtain⟨fi,z,z1,z2,z3,Y⟩:=ht.zero;refine .b (fun a=>.p a 0) _ rfl h1 h2 (fun _=>⟨rfl,rfl⟩) fun w0 ρ m ac w hs=>?_;refine⟨.pointer (some ⟨w.heap.size,0,none⟩),w.alloc (.cells z.cells t),z.cells.size,?_,But.alloc w _,fun ρ' k hle U=>⟨?_,?_⟩⟩
  ·simp[execOp,Instr.alloc,zeroValue,typeInfo,z1,z3,newVar,newRow]
  ·simp only[VR];exact⟨w.heap.size,0,_,U,rfl⟩
  ·exact OR.made hs.w.keeps.size (by simp:z.cells.toList=z.cells.toList++ []) (Y ρ') ht.zone.1
theorem bAl(hq:dU q)(hE:fA P q.E){t:TypeId}{x:Operand}(I:lX q ⟨dst,.box t x,ty,pos,aft,gd⟩= .mk f)(h:f e m c=true):OpR P q ⟨dst,.box t x,ty,pos,aft,gd⟩ e m c:=by
 replace I:aVp q t x= .mk f:=I;unfold aVp at I;cases hn:kn q.E t
 ·simp only[hn,aT] at I;exact(aU I h).elim
 ·simp only[hn,aS,aV] at I;have h2:=gG hq I h;obtain⟨Y,h4⟩:=cA h2;simp only[Bool.and_eq_true] at Y;have J:0<(kM (evD q e x)).length:=by
   have e1:=Nat.eq_of_beq_eq_true Y.1;have e2:=Y.2;rw[Nat.blt_eq] at e2;rw[aCq] at e1;omega
  obtain⟨h5,h6⟩:=sS h4;refine .b (fun a=>.p a 0) _ rfl h5 h6 (fun _=>⟨rfl,rfl⟩) fun w0 ρ m N w hs=>?_;have hv:=hs.ev x (by simp[Op.operands]);obtain⟨c1,c2⟩:=aIW hv J;refine⟨.pointer (some ⟨w.heap.size,0,none⟩),w.alloc (.cells (N.eval x).cells t),(N.eval x).cells.size,?_,But.alloc w _,fun ρ' k U hk=>⟨?_,?_⟩⟩
  ·simp[execOp,Instr.box,newVar,newRow]
  ·simp only[VR];exact⟨w.heap.size,0,_,hk,rfl⟩
  ·exact OR.made hs.w.keeps.size (by simp:(N.eval x).cells.toList=(N.eval x).cells.toList++ []) (c1.mono U) c2
theorem OR.map_new{w0:World}{ρ:Rho}{w:World}(J:w0.heap.size≤w.heap.size)(N:Nat):OR w0 ρ (w.alloc (.map #[] 0)) w.heap.size 0 N (.map []) :=
 ⟨rfl,J,#[],0,heap_alloc_new w _,rfl,fun j p e I=>by simp at I⟩
theorem aQu(hq:dU q){t:TypeId}(I:lX q ⟨dst,.makeMap t none,ty,pos,aft,gd⟩= .mk f)(h:f e m c=true):OpR P q ⟨dst,.makeMap t none,ty,pos,aft,gd⟩ e m c:=by
 replace I:aMb q= .mk f:=I;simp only[aMb,Box.mk.injEq] at I;subst I;obtain⟨Y,N⟩:=sS h;refine .b (fun a=>.m a) _ rfl Y N (fun _=>⟨rfl,rfl⟩) fun w0 ρ m ac w hs=>?_;refine⟨.map (some w.heap.size),w.alloc (.map #[] 0),0,by simp[execOp,Instr.makeMap],But.alloc w _,fun ρ' k U J=>⟨?_,OR.map_new hs.w.keeps.size 0⟩⟩;simp only[VR];exact⟨w.heap.size,0,J,rfl⟩
theorem aBF(z:List V):∀k,(aD9 k z []).length=k*z.length
 | 0=>by simp[aD9]
 | k+1=>by simp[aD9,aBF z k,Nat.add_mul]; omega
theorem aBG{z:List V}(h:z.all kD=true):∀k,(aD9 k z []).all kD=true
 | 0=>rfl
 | k+1=>by simp only[aD9,List.all_append,h,aBG h k,Bool.and_self]
theorem aI3{z:List V}:∀ {k j:Nat},j<k*z.length→(aD9 k z [])[j]? = z[j%z.length]?
 | 0,j,h=>by simp at h
 | k+1,j,h=>by
  simp only[aD9];by_cases I:j<z.length
  ·rw[List.getElem?_append_left I,Nat.mod_eq_of_lt I]
  ·rw[List.getElem?_append_right (by omega),aI3 (by rw[Nat.add_mul] at h; omega),← Nat.mod_eq_sub_mod (by omega)]
theorem VRL.made{ρ:Rho}{I:List V}{z:Array Value}(h:VRL ρ I z.toList)(k:Nat):VRL ρ (aD9 k I []) (madeCells z (k*I.length)).toList:=by
 have N:=h.length;simp only[Array.length_toList] at N;refine VRL.of (by simp[size_madeCells,aBF]) fun j v x hv hx=>?_;have J:j<k*I.length:=by
  have:=(List.getElem?_eq_some_iff.1 hv).1
  rwa [aBF] at this
 rw[aI3 J] at hv;obtain⟨y,Y,h2⟩:=h.get hv;have U:j%I.length<z.size:=by rw[N]; exact Nat.mod_lt _ (by cases hz:I.length with|zero=>rw[hz] at J; simp at J|succ n=>omega)
 have:x=y:=by
  simp[madeCells,J] at hx;rw[← hx,N,getElem!_pos z _ U];have e1:z.toList[j%I.length]? = some z[j%I.length]:=by simp[U]
  rw[e1] at Y;exact Option.some.inj Y
 rw[this]; exact h2
theorem aMs(hq:dU q)(hE:fA P q.E){t:TypeId}{x y:Operand}(I:lX q ⟨dst,.makeSlice t x y,ty,pos,aft,gd⟩= .mk f)(h:f e m c=true):OpR P q ⟨dst,.makeSlice t x y,ty,pos,aft,gd⟩ e m c:=by
 replace I:aMe q t x y= .mk f:=I;unfold aMe at I;split at I
 ·rename_i el hk;obtain⟨dm,U,J⟩:=(dI hE hk (by simp)).desc;rw[hk] at J;simp only[kR] at J;subst J;cases hn:(!kn q.E el)
  ·simp only[hn,aT,aV] at I;have ht:=aOw hE hn;have h2:=mM hq I h;obtain⟨n,h3,hn'⟩:=wO h2;obtain⟨k,h4,Y⟩:=wO h3;obtain⟨h5,h6⟩:=cA h4;obtain⟨h7,h8⟩:=cA h6;obtain⟨h9,h10⟩:=cA h8;have h5:=Nat.le_of_ble_eq_true h5;have h7:k*(ti q.E el).by'≤1099511627776:=Nat.le_of_ble_eq_true h7;have h9:=Nat.le_of_ble_eq_true h9;obtain⟨h11,h12⟩:=sS h10;refine .b (fun a=>.sl a 0 n k 0) _ rfl h11 h12 (fun _=>⟨rfl,rfl⟩) fun w0 ρ m ac w hs=>?_;obtain⟨k1,e1,_⟩:=hn' ρ _ (hs.ev x (by simp[Op.operands]));obtain⟨k2,e2,_⟩:=Y ρ _ (hs.ev y (by simp[Op.operands]));obtain⟨fi,i1,i2,i3,z,i4,_,_,i5⟩:=ht.info;have hb:(fi.bytes:Int)*(k:Int)≤281474976710656:=by
    rw[i3,← Int.natCast_mul,Nat.mul_comm];omega
   have run:=run_make (P:=P) w t el fi z U i1 i4 k1 k2 (n:Int) (k:Int) (by omega) (by omega) hb (by omega);simp only[Int.toNat_natCast] at run;rw[i2] at run;refine⟨_,_,(madeCells z.cells (k*(ti q.E el).n)).size,by simp only[execOp,Sem.run_bind,e1,e2,run]; rfl,But.alloc w _,fun ρ' kk hle N=>⟨?_,?_⟩⟩
   ·simp only[VR];exact⟨_,k,rfl,h5,Nat.le_refl _,by simp only[maxLen]; omega,fun _=>rfl,.inr ⟨w.heap.size,0,_,N,rfl,fun e=>absurd rfl e⟩⟩
   ·have hm:=(i5 ρ').made k;rw[ht.zone.2] at hm;exact OR.made hs.w.keeps.size (by simp:(madeCells z.cells (k*(ti q.E el).n)).toList=(madeCells z.cells (k*(ti q.E el).n)).toList++ []) hm (aBG ht.zone.1 k)
  ·simp only[hn,aS] at I;exact(aU I h).elim
 ·exact(aU I h).elim
end
end
end Go.It
namespace Go.It
noncomputable section
open Go.RowKit
open Go.Vc (bG aY)
section
variable {P:Program} {q:Cx} {e:q.ε} {m:M} {c:V→M→Bool} {f:OpF q} {dst:Option Tmp} {ty:TypeId} {pos:String} {aft:Array Edge} {gd:Option (Nat×Bool)}
theorem aOG(hq:dU q)(hE:fA P q.E){t:TypeId}{x:Operand}(J:lX q ⟨dst,.makeMap t (some x),ty,pos,aft,gd⟩= .mk f)(h:f e m c=true):OpR P q ⟨dst,.makeMap t (some x),ty,pos,aft,gd⟩ e m c:=by
 replace J:aIM q t x= .mk f:=J;unfold aIM at J;split at J
 ·rename_i kt el N;obtain⟨dm,U,I⟩:=(dI hE N (by simp)).desc;rw[N] at I;simp only[kR] at I;subst I;have h2:=gG hq J h;obtain⟨k,n,h3,h4⟩:=aX3 h2;obtain⟨h5,h6⟩:=sS h3;refine .b (fun a=>.m a) _ rfl h5 h6 (fun _=>⟨rfl,rfl⟩) fun w0 ρ m ac w Y=>?_;obtain⟨e1,_⟩:=h4 ρ _ (Y.ev x (by simp[Op.operands]));refine⟨.map (some w.heap.size),w.alloc (.map #[] 0),0,by simp[execOp,Instr.makeMap,aX U,e1,asInt,asIntOf],But.alloc w _,fun ρ' k hle N=>⟨?_,OR.map_new Y.w.keeps.size 0⟩⟩;simp only[VR];exact⟨w.heap.size,0,N,rfl⟩
 ·exact(aU J h).elim
theorem aJ9(hq:dU q)(hE:fA P q.E){t:TypeId}{n:Nat}{ps:Array (Nat×Operand)}(I:lX q ⟨dst,.buildSlice t n ps,ty,pos,aft,gd⟩= .mk f)(h:f e m c=true):OpR P q ⟨dst,.buildSlice t n ps,ty,pos,aft,gd⟩ e m c:=by
 replace I:aIL q t n ps.toList= .mk f:=I;simp only[aIL,aAo hq,aV] at I;have evl:∀ {w0 ρ m' N w},Sv q w0 ρ e m' N w (Op.buildSlice t n ps).operands→VRL ρ ((ps.toList.map (·.2)).map (evD q e)) ((ps.toList.map (·.2)).map N.eval):=fun hs=>hs.evL fun x hx=>by
  simp only[List.mem_map] at hx;obtain⟨p,hp,rfl⟩:=hx;have hp:p∈ps:=by simpa using hp
  simp[Op.operands];exact⟨p.1,hp⟩
 split at I
 ·rename_i el Y;obtain⟨dm,hdm,J⟩:=(dI hE Y (by simp)).desc;rw[Y] at J;simp only[kR] at J;subst J;cases hn:(kn q.E el&&Nat.ble (Nat.mul n (ti q.E el).n) 65536&&Nat.ble n 65536)
  ·simp only[hn,aT] at I;exact(aU I h).elim
  ·simp only[hn,aS,Box.mk.injEq] at I;subst I;simp only[Bool.and_eq_true] at hn;obtain⟨⟨n1,n2⟩,n3⟩:=hn;have n2:n*(ti q.E el).n≤65536:=Nat.le_of_ble_eq_true n2;have n3:n≤65536:=Nat.le_of_ble_eq_true n3;have ht:=pC hE n1;obtain⟨l',g1,g2⟩:=aI2 h (by simp);obtain⟨h5,h6⟩:=sS g1;refine .b (fun a=>.sl a 0 n n 0) _ rfl h5 h6 (fun _=>⟨rfl,rfl⟩) fun w0 ρ m N w hs=>?_;obtain⟨fi,z,z1,z2,z3,z4⟩:=ht.zero;have hm:=(z4 ρ).made n;rw[ht.zone.2] at hm;obtain⟨U,k1,k2,k3,k4⟩:=g2 ρ _ _ (evl hs) hm (aBG ht.zone.1 n);have hfill:Instr.fill (fun i=>some (i*(ti q.E el).n,(ti q.E el).n)) (madeCells z.cells (n*(ti q.E el).n)) ((ps.map fun (i,x)=>(i,N.eval x)).toList)=some U.toArray:=by
    rw[aLb]; simpa using k1
   have run:(Instr.buildSlice t n (ps.map fun (i,x)=>(i,N.eval x))).run P w= .ok (.slice (some ⟨w.heap.size,0,none⟩) n n) (w.alloc (.cells U.toArray el)):=by
    simp only[Instr.buildSlice,Sem.run_bind,aX hdm,Result.andThen_ok,ht.size];rw[if_neg (by omega)];by_cases h0:n*(ti q.E el).n=0
    ·have hmade:(Array.map (fun x=>(#[]:Array Value)[x%(#[]:Array Value).size]!) (Array.range (n*(ti q.E el).n)))=madeCells z.cells (n*(ti q.E el).n):=(by simp[h0,madeCells]);rw[if_pos h0];simp only[Sem.run_bind,Sem.run_pure,Result.andThen_ok,hmade,hfill];simp[newRow]
    ·have hmade:(Array.map (fun x=>z.cells[x%z.cells.size]!) (Array.range (n*(ti q.E el).n)))=madeCells z.cells (n*(ti q.E el).n):=rfl;rw[if_neg h0];have hzr:(zeroValue el).run P w= .ok z w:=(by simp[zeroValue,typeInfo,z1,z3]);simp only[Sem.run_bind,hzr,Sem.run_pure,Result.andThen_ok,hmade,hfill];simp[newRow]
   refine⟨_,_,U.toArray.size,by simp only[execOp,Sem.run_bind,run]; rfl,But.alloc w _,fun ρ' k hle Y=>⟨?_,?_⟩⟩
   ·simp only[VR];exact⟨_,n,rfl,Nat.le_refl _,Nat.le_refl _,by simp only[maxLen]; omega,fun _=>rfl,.inr ⟨w.heap.size,0,_,Y,rfl,fun e=>absurd rfl e⟩⟩
   ·exact OR.made hs.w.keeps.size (by simp:U.toArray.toList=U++ []) (k2.mono hle) k3
 ·exact(aU I h).elim
theorem aDp:∀bs:List UInt8,aFn bs.length (num bs)=bs.map fun b=>V.k .u8 b.toNat
 | []=>rfl
 | b::bs=>by
  have hb:=b.toNat_lt;simp only[List.length_cons,aFn,num,List.map_cons,Nat.add_eq,Nat.mul_eq];have J:Nat.mod (b.toNat+256*num bs) 256=b.toNat:=by
   show (b.toNat+256*num bs)%256=_;omega
  have I:Nat.shiftRight (b.toNat+256*num bs) 8=num bs:=by
   show (b.toNat+256*num bs) >>> 8=_;rw[Nat.shiftRight_eq_div_pow];omega
  rw[J,I,aDp bs]
theorem aFy(ρ:Rho):∀bs:List UInt8,VRL ρ (bs.map fun b=>V.k .u8 b.toNat) (bs.map fun b=>Value.int .u8 (b.toNat:Int))
 | []=>by simp[VRL]
 | b::bs=>by
  simp only[List.map_cons,VRL];refine⟨_,_,rfl,?_,aFy ρ bs⟩;simp only[VR];exact⟨by rw[bX (.inl rfl)],by have:=b.toNat_lt; simpa [IntKind.bits] using this⟩
theorem aLc(bs:List UInt8):(bs.map fun b=>V.k .u8 b.toNat).all kD=true:=by
 rw[List.all_eq_true];intro x I;obtain⟨b,_,rfl⟩:=List.mem_map.1 I;rfl
theorem OR.bytes{w0:World}{ρ:Rho}{w:World}(Y:w0.heap.size≤w.heap.size){s:ByteArray}{cap:Nat}{el:TypeId}(U:s.size≤cap):OR w0 ρ (w.drew.alloc (.cells (bytesRow s cap) el ((bytesRow s cap).size,(bytesRow s cap).size+1))) w.heap.size 0 (bytesRow s cap).size (.row true (aFn s.data.toList.length (num s.data.toList))):=by
 have hc:∀j,(w.drew.alloc (.cells (bytesRow s cap) el ((bytesRow s cap).size,(bytesRow s cap).size+1))).cell? ⟨w.heap.size,0+j,none⟩=(bytesRow s cap)[j]? := fun j=>by
  rw[Nat.zero_add]; exact World.cell?_alloc_mark w.drew _ el _ j
 have N:s.data.size≤(bytesRow s cap).size:=by simp[bytesRow]
 rw[aDp];refine⟨aLc _,by simpa using N,⟨_,aFy ρ _,fun j v J=>?_⟩,fun j J=>by rw[hc]; simp[J],⟨_,_,_,heap_alloc_new w.drew _⟩,fun _=>⟨Y,fun j J=>?_⟩⟩
 ·have I:j<s.data.size:=by
   have:=(List.getElem?_eq_some_iff.1 J).1
   simpa using this
  rw[hc,bytesRow_at s cap j I,← J];simp only[List.getElem?_map,Array.getElem?_toList,Array.getElem?_eq_getElem I];rfl
 ·rw[Nat.zero_add];have:=World.frozen?_alloc_mark w.drew (bytesRow s cap) el (bytesRow s cap).size ((bytesRow s cap).size+1) j;refine this.trans ?_;rw[Bool.and_eq_false_iff]
  left
  simp; omega
theorem aGU(hq:dU q)(hE:fA P q.E){s d el:TypeId}{x:Operand}(Y:(ti q.E s).k= .s)(N:(ti q.E d).k= .sl el)(hf:lX q ⟨dst,.convert s d x,ty,pos,aft,gd⟩= .mk f)(h:f e m c=true):OpR P q ⟨dst,.convert s d x,ty,pos,aft,gd⟩ e m c:=by
 replace hf:wL q s d x= .mk f:=hf;have hcl:cls q ⟨dst,.convert s d x,ty,pos,aft,gd⟩=2:=by
  show yR s d q=2;unfold yR; rw[Y,N]
 obtain⟨ds,hd,U⟩:=(dI hE Y (by simp)).desc;obtain⟨ds',hd',I⟩:=(dI hE N (by simp)).desc;rw[Y] at U;rw[N] at I;simp only[kR] at U I;subst U I;simp only[wL,Y,N] at hf;split at hf
 ·rename_i hke;obtain⟨de,hde,J⟩:=(dI hE hke (by simp)).desc;rw[hke] at J;simp only[kR] at J;subst J;have h2:=gG hq hf h;obtain⟨n,y,hv0,h3⟩:=aIV h2;obtain⟨h4,h5⟩:=sS h3;refine .b (fun a=>.sl a 0 n n 1) _ hcl h4 h5 (fun _=>⟨rfl,rfl⟩) fun w0 ρ m ac w hs=>?_;have hv:=hs.ev x (by simp[Op.operands]);rw[hv0] at hv;simp only[VR] at hv;obtain⟨sb,g1,g2,g3,g4⟩:=hv;have hsz:sb.size=n:=by rw[← g2]; exact Array.length_toList.symm
  have run:=run_bytes_of_string (P:=P) w s d el sb hd hd' hde;have hge:=grownCap_ge w sb.size 0 el;have hle:=grownCap_le_maxLen w sb.size 0 el (by rw[hsz]; exact g4);have hN:(bytesRow sb (grownCap w sb.size 0 el)).size=grownCap w sb.size 0 el:=by
   have:sb.data.size=sb.size:=rfl;simp[bytesRow]; omega
  refine⟨_,_,(bytesRow sb (grownCap w sb.size 0 el)).size,by simp only[execOp,Sem.run_bind,g1,run]; rfl,?_,fun ρ' k hl Y=>⟨?_,?_⟩⟩
  ·have:=But.alloc w.drew (.cells (bytesRow sb (grownCap w sb.size 0 el)) el ((bytesRow sb (grownCap w sb.size 0 el)).size,(bytesRow sb (grownCap w sb.size 0 el)).size+1));exact⟨this.os,this.tape,this.output,this.size,this.block⟩
  ·simp only[VR];exact⟨_,_,by rw[hsz],Nat.le_refl _,by omega,hle,fun e=>by omega,.inr ⟨w.heap.size,0,_,Y,rfl,fun _=>by rw[hN]; omega⟩⟩
  ·have:=OR.bytes (ρ:=ρ') hs.w.keeps.size (s:=sb) (el:=el) hge;rw[g2,g3] at this;exact this
 ·exact(aU hf h).elim
end
end
end Go.It
namespace Go.It
noncomputable section
open Go.RowKit
open Go.Vc (bG aY)
theorem But.refl(r:Nat)(w:World):But r w w:=⟨rfl,rfl,rfl,Nat.le_refl _,fun _ _ _=>rfl⟩
theorem But.trans{r:Nat}{a b c:World}(h:But r a b)(k:But r b c):But r a c :=
 ⟨k.os.trans h.os,k.tape.trans h.tape,k.output.trans h.output,Nat.le_trans h.size k.size,fun i hi I=>(k.block i (Nat.lt_of_lt_of_le hi h.size) I).trans (h.block i hi I)⟩
theorem But.setCell(w:World)(r o:Nat)(v:Value):But r w (w.setCell ⟨r,o,none⟩ v):=by
 refine⟨rfl,rfl,rfl,by simp[World.setCell],fun i hi I=>?_⟩;simp only[World.setCell,Array.getElem?_modify,if_neg (Ne.symm I)]
theorem But.setCells(r:Nat):∀(vs:List Value) (o:Nat) (w:World),But r w (w.setCells r o vs)
 | [],_,w=>But.refl r w
 | v::vs,o,w=>(But.setCell w r o v).trans (But.setCells r vs (o+1) _)
theorem wQ(r:Nat):∀(vs:List Value) (o:Nat) (w:World),(∃cs e fz,w.heap[r]? = some (.cells cs e fz))→ ∃cs e fz,(w.setCells r o vs).heap[r]? = some (.cells cs e fz)
 | [],_,w,h=>h
 | v::vs,o,w,h=>by
  refine wQ r vs (o+1) _ ?_;obtain⟨cs,e,fz,h⟩:=h;refine⟨cs.setIfInBounds o v,e,fz,?_⟩;simp only[World.setCell,Array.getElem?_modify,if_pos,h];rfl
theorem OR.put{w0:World}{ρ:Rho}{w:World}{r b N:Nat}{l ds:List V}{ys:List Value}(h:OR w0 ρ w r b N (.row true l))(hd:VRL ρ ds ys)(Y:ds.all kD=true){o:Nat}(ho:o+ds.length≤l.length) :
  OR w0 ρ (w.setCells r (b+o) ys) r b N (.row true (l.take o++ds++l.drop (o+ds.length))):=by
 obtain⟨a1,a2,⟨xs,a3,a4⟩,a5,a6,a7⟩:=h;have hx:=a3.length;have hy:=hd.length;refine⟨aSb a1 Y _ _,by simp; omega,⟨_,a3.set hd o,fun j v I=>?_⟩,fun j I=>?_,wQ _ _ _ _ a6,fun hw=>⟨(a7 hw).1,fun j I=>by rw[World.frozen?_setCells]; exact(a7 hw).2 j I⟩⟩
 ·by_cases Y:j<o
  ·rw[World.cell?_setCells_out _ _ _ _ _ (fun _ _=>.inl (by show b+j<b+o; omega))];refine a4 j v ?_;rw[List.append_assoc,List.getElem?_append_left (by simp; omega)] at I;rw[List.getElem?_take] at I
   simpa [Y] using I
  ·by_cases h2:j<o+ys.length
   ·have J:=World.cell?_setCells_in r ys (b+o) w (fun i hi=>by
     have:=a5 (o+i) (by omega)
     rwa [← Nat.add_assoc] at this) (j-o) (by omega)
    rw[show b+o+(j-o)=b+j from by omega] at J;rw[J];rw[List.append_assoc,List.getElem?_append_right (by simp; omega),List.getElem?_append_left (by simp; omega)] at I;have e:j-(xs.take o).length=j-o:=(by simp; omega);rw[e,List.getElem?_eq_getElem (by omega)] at I;exact I
   ·rw[World.cell?_setCells_out _ _ _ _ _ (fun _ _=>.inr (by show b+o+ys.length≤b+j; omega))];refine a4 j v ?_;rw[List.getElem?_append_right (by simp; omega),List.getElem?_drop] at I;rw[← I]
    congr 1
    simp; omega
 ·have:∀(vs:List Value) (o:Nat) (w:World),(w.cell? ⟨r,b+j,none⟩).isSome=true→((w.setCells r o vs).cell? ⟨r,b+j,none⟩).isSome=true:=by
   intro vs
   induction vs with
   | nil=>exact fun _ _ h=>h
   | cons v vs ih =>
    intro o w h;refine ih (o+1) _ ?_;by_cases U:b+j=o
    ·subst U;obtain⟨u,hu⟩:=Option.isSome_iff_exists.1 h;rw[World.cell?_setCell_same w _ v (by rw[hu])];rfl
    ·rw[World.cell?_setCell_other _ _ _ _ (by simp[U])];exact h
  exact this _ _ _ (a5 j I)
section
variable {P:Program} {q:Cx} {e:q.ε} {m:M} {c:V→M→Bool} {f:OpF q} {dst:Option Tmp} {ty:TypeId} {pos:String} {aft:Array Edge} {gd:Option (Nat×Bool)}
theorem aVZ(hq:dU q)(hE:fA P q.E){t:TypeId}{x y:Operand}(I:lX q ⟨dst,.store t x y,ty,pos,aft,gd⟩= .mk f)(h:f e m c=true):OpR P q ⟨dst,.store t x y,ty,pos,aft,gd⟩ e m c:=by
 replace I:aMd q t x y= .mk f:=I;unfold aMd at I;cases hn:(!kn q.E t)
 ·simp only[hn,aT,aV] at I;have ht:=aOw hE hn;cases J:Nat.beq (ti q.E t).n 0
  ·simp only[J,aT] at I;have J:(ti q.E t).n≠0:=fun e=>(by rw[e] at J; cases J);have h2:=mM hq I h;obtain⟨a,o,l,h3,h4,h5,h6,h7⟩:=aZ9 h2;refine .c _ _ rfl h7 ⟨Nat.le_refl _,fun w0 ρ ac w U=>?_⟩;have hv:=U.ev x (by simp[Op.operands]);have Y:=U.ev y (by simp[Op.operands]);rw[h3] at hv;simp only[VR] at hv;obtain⟨r,b,N,g1,g2⟩:=hv;obtain⟨c1,c2⟩:=aIW Y (by omega);have hob:=U.w.obj _ _ _ _ g1;rw[h4] at hob;have hcl:(ac.eval y).cells.size=(ti q.E t).n:=(by rw[← Array.length_toList,c1.length,h5]);obtain⟨a1,a2,a3,a5,a6,a7⟩:=hob;have run:=run_storeCells_cells (P:=P) r (b+o) (ac.eval y).cells.toList 0 w (fun j hj=>by
     have hj:j<(ti q.E t).n:=(by rw[← hcl]; simpa using hj);have:=a5 (o+j) (by omega)
     rwa [← Nat.add_assoc] at this) (fun j hj=>by
     have hj:j<(ti q.E t).n:=(by rw[← hcl]; simpa using hj);have:=(a7 rfl).2 (o+j) (by omega)
     rwa [← Nat.add_assoc] at this) (c1.one c2)
   have hput:=OR.put (o:=o) ⟨a1,a2,a3,a5,a6,a7⟩ c1 c2 (by omega);refine⟨.skip,Go.undef,w.setCells r (b+o) (ac.eval y).cells.toList,ρ,?_,.inr ⟨rfl,rfl⟩,?_,by simp only[VR,zR]; rfl,.refl _,fun k hk _=>hk⟩
   ·simp only[execOp,Instr.storeAt,g2,Instr.sureAddr,storeVar,Sem.run_bind,Sem.run_pure,Result.andThen_ok,ht.size,hcl];simp[run]
   ·rw[← h5];exact U.w.write g1 (by rw[h4]; rfl) (.inl rfl) (But.setCells _ _ _ _) (a7 rfl).1 hput
  ·simp only[J,aS] at I;have h2:=mM hq I h;obtain⟨a,o,h3,h4⟩:=aIU h2;split at h4
   ·rename_i hu;refine .c _ _ rfl h4 ⟨Nat.le_refl _,fun w0 ρ ac w U=>?_⟩;have hv:=U.ev x (by simp[Op.operands]);have Y:=U.ev y (by simp[Op.operands]);rw[h3] at hv;rw[hu] at Y;simp only[VR] at hv Y;obtain⟨r,b,N,g1,g2⟩:=hv;obtain⟨xs,Y,hxs,-⟩:=Y;simp only[VRL] at hxs;subst hxs;have J:(ti q.E t).n=0:=Nat.eq_of_beq_eq_true J;refine⟨.skip,Go.undef,w,ρ,?_,.inr ⟨rfl,rfl⟩,U.w,by simp only[VR,zR]; rfl,.refl _,fun k hk _=>hk⟩;simp[execOp,Instr.storeAt,g2,Instr.sureAddr,storeVar,Sem.run_bind,Sem.run_pure,Result.andThen_ok,ht.size,Y,J,Value.cells,storeCells]
   ·cases h4
 ·simp only[hn,aS] at I;exact(aU I h).elim
end
end
end Go.It
namespace Go.It
noncomputable section
open Go.RowKit
open Go.Vc (bG aY)
theorem aOH(n:Nat)(k:IntKind)(x y:Int)(h:(x == y)=true):Instr.sameBits n (.int k y) (.int k x)=true:=by
 have:x=y:=by simpa using h
 subst this;cases n<;>simp[Instr.sameBits]
theorem aTB{E:En}{k:TK}{g:V→V→Option Bool}(I:aTr E k=some g){v u:V}(h:g v u=some true){ρ:Rho}{a b:Value}(U:VR ρ v a)(hb:VR ρ u b):Instr.sameBits 10000 b a=true:=by
 unfold aTr at I;split at I<;>first|(cases I; done)|skip
 ·simp only[Option.some.injEq] at I; subst I;obtain⟨j,y,z,rfl,rfl,e⟩:=aOu h U hb;exact aOH _ _ _ _ e
 ·simp only[Option.some.injEq] at I; subst I;unfold qS at h;split at h<;>first|(cases h; done)|skip
  simp only[VR] at U hb;obtain⟨s,rfl,s1,s2,s3⟩:=U;obtain⟨q,rfl,r1,r2,r3⟩:=hb;simp only[Option.some.injEq] at h;have:(s == q)=true:=by rw[beq_toListBytes,aI0,s1,s2,r1,r2]; exact h
  have e:(q == s)=true:=by
   rw[beq_toListBytes] at this ⊢;simp only[beq_iff_eq] at this ⊢;exact this.symm
  show Instr.sameBits 10000 (.string q) (.string s)=true;rw[Instr.sameBits]; exact e
 ·simp only[Option.some.injEq] at I; subst I;unfold qB at h;split at h<;>first|(cases h; done)|skip
  rename_i x y;simp only[VR] at U hb;subst U hb;simp only[Option.some.injEq] at h;show Instr.sameBits 10000 (.bool y) (.bool x)=true;rw[Instr.sameBits];cases x<;>cases y<;>first|rfl|cases h
 ·rename_i n e;unfold qAr at I;split at I
  ·cases hn:Nat.beq (ti E e).n 1
   ·rw[hn] at I; cases I
   ·rw[hn] at I;simp only[aS,Option.some.injEq] at I;subst I;unfold qA at h;split at h
    ·rename_i l r;cases hl:Nat.beq (aII l) n
     ·rw[hl] at h; cases h
     ·rw[hl] at h;have h:qL l r=some true:=h;simp only[VR] at U hb;obtain⟨xs,rfl,N,_⟩:=U;obtain⟨ys,rfl,J,_⟩:=hb;have key:∀(l r:List V) (xs ys:List Value),qL l r=some true→VRL ρ l xs→VRL ρ r ys→ys.length=xs.length∧(ys.zip xs).all (fun (x,y)=>Instr.sameBits 9999 x y)=true:=by
       intro l
       induction l with
       | nil =>
        intro r xs ys h N J;cases r with
        | nil=>simp only[VRL] at N J; subst N J; exact⟨rfl,rfl⟩
        | cons b r=>simp[qL] at h
       | cons a l ih =>
        intro r xs ys h N J;cases r with
        | nil=>simp[qL] at h
        | cons b r =>
         simp only[VRL] at N J;obtain⟨x,xs,rfl,hx1,Y⟩:=N;obtain⟨y,ys,rfl,hy1,hy2⟩:=J;simp only[qL] at h;split at h
         ·rename_i p q h1 h2;simp only[Option.some.injEq] at h;have hp:p=true:=(by cases p<;>first|rfl|cases h);have hq:q=true:=(by cases q<;>first|rfl|(cases p<;>cases h));subst hp hq;obtain⟨i1,i2⟩:=ih r xs ys h2 Y hy2;obtain⟨j,y',z,rfl,rfl,e⟩:=aOu h1 hx1 hy1;exact⟨by simpa using i1,by simp only[List.zip_cons_cons,List.all_cons,i2,Bool.and_true]; exact aOH _ _ _ _ e⟩
         ·cases h
      obtain⟨k1,k2⟩:=key l r xs ys h N J;show Instr.sameBits (9999+1) (.agg ys.toArray) (.agg xs.toArray)=true;rw[Instr.sameBits];simp only[List.size_toArray,k1,beq_self_eq_true,Bool.true_and];exact k2
    ·cases h
  ·cases I
section
variable {g:V→V→Option Bool}
theorem aSe{k v:V}:∀ {l:List (V×V)} {c:List (V×V)→Bool},aXY g k v l c=true →
  (∃i p,l[i]? = some p∧g k p.1=some true∧(∀(j:Nat) (J:V×V),j<i→l[j]? = some J→g k J.1=some false)∧c (l.set i (k,v))=true)∨((∀p∈l,g k p.1=some false)∧c (l++ [(k,v)])=true)
 | [],c,h=>.inr ⟨fun p hp=>(by cases hp),h⟩
 | (a,u)::l,c,h=>by
  simp only[aXY] at h;split at h
  ·rename_i N;exact .inl ⟨0,_,rfl,N,fun j J hj=>by omega,h⟩
  ·rename_i N;rcases aSe h with⟨i,p,Y,U,h3,h4⟩|⟨Y,U⟩
   ·refine .inl ⟨i+1,p,by simpa using Y,U,fun j J hj I=>?_,h4⟩;cases j with
    | zero=>simp at I; subst I; exact N
    | succ j=>exact h3 j J (by omega) (by simpa using I)
   ·refine .inr ⟨fun p hp=>?_,U⟩;rcases List.mem_cons.1 hp with rfl|hp
    ·exact N
    ·exact Y p hp
  ·cases h
end
theorem But.setObj(w:World)(r:Nat)(o:Obj):But r w { w with heap:=w.heap.setIfInBounds r o } :=
 ⟨rfl,rfl,rfl,by simp,fun b hb I=>by simp[Array.getElem?_setIfInBounds,Ne.symm I]⟩
section
variable {P:Program} {q:Cx} {e:q.ε} {m:M} {c:V→M→Bool} {f:OpF q} {dst:Option Tmp} {ty:TypeId} {pos:String} {aft:Array Edge} {gd:Option (Nat×Bool)}
theorem aLd(hq:dU q)(hE:fA P q.E){t:TypeId}{mp k x:Operand}{op:Op}(hop:op= .insert t mp k x∨op= .mapUpdate t mp k x)(hf:aEb q t mp k x= .mk f)(h:f e m c=true):OpR P q ⟨dst,op,ty,pos,aft,gd⟩ e m c:=by
 unfold aEb at hf;have hcl:cls q ⟨dst,op,ty,pos,aft,gd⟩=3:=by rcases hop with rfl|rfl<;>rfl
 have evs:∀ {w0 ρ m' I w},Sv q w0 ρ e m' I w op.operands→VR ρ (evD q e mp) (I.eval mp)∧VR ρ (evD q e k) (I.eval k)∧VR ρ (evD q e x) (I.eval x):=fun hs=>by
  rcases hop with rfl|rfl<;>exact⟨hs.ev _ (by simp[Op.operands]),hs.ev _ (by simp[Op.operands]),hs.ev _ (by simp[Op.operands])⟩
 have exe:∀ {ev:Operand→Value} {w w':World},(Instr.mapUpdate t (ev mp) (ev k) (ev x)).run P w= .ok () w'→(execOp ev ⟨dst,op,ty,pos,aft,gd⟩).run P w= .ok .skip w':=fun hr=>by
  rcases hop with rfl|rfl<;>simp[execOp,hr]
 split at hf
 ·rename_i kt el hk;obtain⟨dm,hdm,hkr⟩:=(dI hE hk (by simp)).desc;rw[hk] at hkr;simp only[kR] at hkr;subst hkr;split at hf
  ·rename_i g hg;have K:=aSd hE hg;obtain⟨ds,hd,_⟩:=K.now;simp only[eX hq,aV,Box.mk.injEq] at hf;subst hf;simp only at h;split at h<;>first|(cases h; done)|skip
   rename_i a hv0;rw[pB] at h;obtain⟨l,h3,h4⟩:=aMk h;split at h4
   ·rename_i r0 hr0;rcases aSe h4 with⟨i,p,k1,k2,k3,k4⟩|⟨k1,k4⟩<;>rw[aFr] at k4
    ·refine .c _ _ hcl k4 ⟨Nat.le_refl _,fun w0 ρ I w hs=>?_⟩;obtain⟨hv,J,hx⟩:=evs hs;rw[hv0] at hv;simp only[VR] at hv;obtain⟨r,N,g1,g2⟩:=hv;obtain⟨es,cl,e1,e2,e3⟩:=hs.w.ents g1 h3;have hc:(Instr.checkKey false 10000 kt (I.eval k)).run P w= .ok () w:=K.chk _ _ _ _ _ w 9998 hr0 J;obtain⟨v,⟨en,f4,f5⟩,f1,f2,f3⟩:=aFx K J hd w l es.toList 0 i p e3 k1 k2 k3;have hf0:=run_findKey hd f2 f3;rw[Nat.zero_add] at hf0;have f4':es[i]? = some en:=(by simpa using f4);have hst:(Instr.keyThatStays (((es[i]?).map (·.key)).getD (I.eval k)) (I.eval k)).run P w= .ok (I.eval k) w:=by
      have:=aTB hg k2 J (e3.2 i p en k1 f4).1;simp[Instr.keyThatStays,f4',this]
     have run:(Instr.mapUpdate t (I.eval mp) (I.eval k) (I.eval x)).run P w= .ok () { w with heap:=w.heap.setIfInBounds r (.map (es.modify i fun e=>{ e with key:=I.eval k,val:=I.eval x }) cl) }:=by
      simp only[Instr.mapUpdate,g2,Sem.run_bind,aX hdm,Result.andThen_ok,MapKept.run_getObj_map e2,hc,hf0,hst];exact MapKept.run_setObj_map _ e2
     refine⟨.skip,Go.undef,_,ρ,exe run,.inr ⟨rfl,rfl⟩,?_,by simp only[VR,zR]; rfl,.refl _,fun k hk _=>hk⟩;refine hs.w.write g1 (by rw[h3]; rfl) (.inl rfl) (But.setObj _ _ _) e1 ⟨rfl,e1,es.modify i fun e=>{ e with key:=I.eval k,val:=I.eval x },cl,?_,?_,fun j p' e' hj U=>?_⟩
     ·have:=(Array.getElem?_eq_some_iff.1 e2).1;simp[Array.getElem?_setIfInBounds,this]
     ·have:=e3.1; simpa using this
     ·rw[Array.getElem?_modify] at U;rw[List.getElem?_set] at hj;by_cases Y:i=j
      ·subst Y;rw[if_pos rfl,f4'] at U;have hlt:i<l.length:=(List.getElem?_eq_some_iff.1 k1).1;simp[hlt] at hj;simp at U;rw[← hj,← U];exact⟨J,hx⟩
      ·rw[if_neg Y] at U hj;exact e3.2 j p' e' hj (by simpa using U)
    ·refine .c _ _ hcl k4 ⟨Nat.le_refl _,fun w0 ρ I w hs=>?_⟩;obtain⟨hv,J,hx⟩:=evs hs;rw[hv0] at hv;simp only[VR] at hv;obtain⟨r,N,g1,g2⟩:=hv;obtain⟨es,cl,e1,e2,e3⟩:=hs.w.ents g1 h3;have hc:(Instr.checkKey false 10000 kt (I.eval k)).run P w= .ok () w:=K.chk _ _ _ _ _ w 9998 hr0 J;obtain⟨f2,f3⟩:=aFw K J hd w l es.toList 0 e3 k1;have hf0:=run_findKey hd f2 f3;have run:(Instr.mapUpdate t (I.eval mp) (I.eval k) (I.eval x)).run P w= .ok () { w with heap:=w.heap.setIfInBounds r (.map (es.push { key:=I.eval k,val:=I.eval x,born:=cl }) (cl+1)) }:=by
      simp only[Instr.mapUpdate,g2,Sem.run_bind,aX hdm,Result.andThen_ok,MapKept.run_getObj_map e2,hc,hf0];exact MapKept.run_setObj_map _ e2
     refine⟨.skip,Go.undef,_,ρ,exe run,.inr ⟨rfl,rfl⟩,?_,by simp only[VR,zR]; rfl,.refl _,fun k hk _=>hk⟩;refine hs.w.write g1 (by rw[h3]; rfl) (.inl rfl) (But.setObj _ _ _) e1 ⟨rfl,e1,es.push { key:=I.eval k,val:=I.eval x,born:=cl },cl+1,?_,?_,fun j p' e' hj U=>?_⟩
     ·have:=(Array.getElem?_eq_some_iff.1 e2).1;simp[Array.getElem?_setIfInBounds,this]
     ·have:=e3.1; simpa using this
     ·have hsz:es.size=l.length:=(by have:=e3.1; simpa using this);rw[Array.getElem?_push] at U;by_cases Y:j=es.size
      ·rw[if_pos Y] at U;rw[List.getElem?_append_right (by omega),Y,hsz] at hj;simp at hj U;rw[← hj,← U];exact⟨J,hx⟩
      ·rw[if_neg Y] at U;have hlt:=(Array.getElem?_eq_some_iff.1 U).1;rw[List.getElem?_append_left (by omega)] at hj;exact e3.2 j p' e' hj (by simpa using U)
   ·cases h4
  ·exact(aU hf h).elim
 ·exact(aU hf h).elim
end
end
end Go.It

