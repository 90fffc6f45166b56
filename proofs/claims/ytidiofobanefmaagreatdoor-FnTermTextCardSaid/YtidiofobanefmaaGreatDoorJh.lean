/- The walker: what a function's code comes to, as a formula on ghost values. -/
import Derived.Test.YtidiofobanefmaaGreatDoorJq
import Derived.Test.YtidiofobanefmaaGreatDoorChecked
set_option linter.unusedVariables false
set_option linter.unusedSimpArgs false
set_option linter.unusedSectionVars false
namespace Go.Proofs.YtidiofobanefmaaGreatDoor
open Go
variable [Dfs] {av:Nat->Prop} {P:Program} {w0 w w':World} {e0 e:Env} {pS pS' pB pB':List Nat} {a:Act} {st st':St}
def base (f:FuncId):Frame:={ (default:Frame)with fn:=f,kind:=.normal }
def MJ (P:Program)(fr:Frame)(w:World)(e:Ending):Prop:=match Dfs.on with
 | none=>fr.leaving P w e
 | some ds=>e=.returned (.tuple fr.tmps)/\fr.mode=.returning/\fr.defers=ds/\fr.kind=.normal
def HC (P:Program)(f:FuncId)(k:List Item)(R:Ending->World->Prop)(a:Act)(w:World):Prop:=
 ∀ cs,∃ e w' fr,R e w'/\Comes P (lone ((base f).at a k) cs w) (lone fr cs w') e/\fr.fn=f/\MJ P fr w' e
theorem z8 {f:FuncId}{k I:List Item}{R:Ending->World->Prop}{J:Act}(hs:∀ cs,step P (lone ((base f).at a k) cs w)=.next (lone ((base f).at J I) cs w'))(h:HC P f I R J w'):HC P f k R a w:=
 λcs=>let⟨e,w2,fr,O,U,V⟩:=h cs;⟨e,w2,fr,O,.of_steps (.one (hs cs)) U,V⟩
theorem p7 {f:FuncId}{c:Code}{k:List Item}{R:Ending->World->Prop}(h:c.wp P (λex J w'=>ex=.normal/\HC P f k R J w') a w):HC P f (.code c::k) R a w:=λcs=>by obtain⟨ex,J,w',⟨rfl,O⟩,I⟩:=h (base f) k cs;obtain⟨e,w2,fr,U,V,Y⟩:=O cs;exact⟨e,w2,fr,U,.of_steps I V,Y⟩
theorem CY (I:Dfs.on=none){f:FuncId}{fn:Func}{k:List Item}{R:Ending->World->Prop}(Y:k=[]\/∃ J,k=.code .ret::J)(O:P.funcs[f]?=some fn)(hd:a.defers=Dfs.on.getD []){v:Value}(U:(results fn a.tmps).run P w=.ok v w)(V:R (.returned v) w):HC P f k R a w:=λcs=>by
 rw[I]at hd;rcases Y with rfl | ⟨J,rfl⟩
 ·exact⟨.returned v,w,_,V,.one step_end,rfl,by unfold MJ;rw[I];exact⟨rfl,hd,rfl,fn,O,U⟩⟩
 ·exact⟨.returned v,w,_,V,.one step_ret,rfl,by unfold MJ;rw[I];exact⟨rfl,hd,rfl,fn,O,U⟩⟩
def Nd:List PV->Option (Option Addr × List D × Nat × Int × Int)
 | [.sv a z es c,.int k n,.int I m]=>match decide (z=0/\k=.i64/\I=.i64)with
   | true=>some (a,es,c,n,m)
   | false=>none
 | _=>none
theorem LD {cs:List PV}{a:Option Addr}{es:List D}{c:Nat}{n m:Int}(h:Nd cs=some (a,es,c,n,m)):cs=[.sv a 0 es c,.int .i64 n,.int .i64 m]:=by
 unfold Nd at h;split at h
 ·split at h
  ·rename_i hd;simp at hd h;obtain⟨rfl,rfl,rfl⟩:=hd;obtain⟨rfl,rfl,rfl,rfl,rfl⟩:=h;rfl
  ·cases h
 ·cases h
def xw (st:St):(l:List Sh)->QT l->List Nat->List PV->Prop
 | [],Q,_,ps=>match ps with
   | []=>∀ N,st.N<=N->Q N
   | _=>False
 | .int k::l,Q,us,ps=>match ps with
   | .int J n::ps=>match decide (k=J)with
     | true=>xw st l (Q n) us ps
     | false=>False
   | _=>False
 | .bool::l,Q,us,ps=>match ps with
   | .bool v::ps=>xw st l (Q v) us ps
   | _=>False
 | .str::l,Q,us,ps=>match ps with
   | .str v::ps=>xw st l (Q v) us ps
   | _=>False
 | .sl z::l,Q,us,ps=>match ps with
   | .sv a z' es c::ps=>match decide (z=z')with
     | true=>xw st l (Q a es c) us ps
     | false=>False
   | _=>False
 | .ag n::l,Q,us,ps=>match ps with
   | p :: ps=>match E1 p with
     | .dg n' x=>match decide (n=n')with
       | true=>xw st l (Q x) us ps
       | false=>False
     | _=>False
   | _=>False
 | .row t z::l,Q,us,ps=>match ps with
   | .sb k z' lo n c::ps=>match st.bx[k]? with
     | some (.arr O I es U)=>match decide (O=t)&&decide (z'=z)&&decide (I=z)&&decide (lo=0)&&!us.contains k with
       | true=>(n=es.length/\c=U)/\xw st l (Q es c) (k::us) ps
       | false=>False
     | _=>False
   | .sv none _ [] 0::ps=>xw st l (Q [] 0) us ps
   | _=>False
 | .pk::l,Q,us,ps=>match Ki l with
   | true=>xw st l Q us ps
   | false=>False
 | .dc::l,Q,us,ps=>match ps with
   | p::ps=>match tB p with
     | some x=>xw st l (Q x) us ps
     | none=>False
   | _=>False
 | .bk j::l,Q,us,ps=>match ps with
   | p::ps=>match tB p with
     | some x=>xw st l (Q x) us ps
     | none=>False
   | _=>False
 | .cu :: l,Q,us,ps=>match ps with
   | .pb k z i o::ps=>match st.bx[k]?,decide (z=0/\i=0/\o=0)&&!us.contains k with
     | some (.var cs),true=>match Nd cs with
       | some (a,es,c,n,m)=>xw st l (Q a es c n m) (k::us) ps
       | none=>False
     | _,_=>False
   | _=>False
abbrev Sel:=List (Option Nat × Bx)
def Sel.rows (s:Sel):List Bx:=s.map (·.2)
def Sel.env (e:Env)(s:Sel):Env:=s.map λx=>x.1.bind e.at
structure SelOk (st:St) (us:List Nat) (s:Sel):Prop where
 at_:∀ x∈s,(x.1=none/\∃ t z,x.2=.arr t z [] 0)\/∃ k,x.1=some k/\st.bx[k]?=some x.2/\x.2.row
 nd:(s.filterMap (·.1)).Nodup
 un:∀ k∈s.filterMap (·.1),k∉us
def Db:PV->Bool
 | .int ..=>true
 | .bool ..=>true
 | .str ..=>true
 | .sv ..=>true
 | .dg ..=>true
 | _=>false
def Nj:PV->Bool
 | .sb ..=>true
 | .dc ..=>true
 | _=>false
def OV (w:World)(e:Env)(live:Nat->Prop)(E:Env)(p q:PV):Prop:=p.val e=q.val1 E/\(p.Ok w live->q.Ok w live)/\p≠.any/\(Db p=true->q=p\/Nj q=true)
theorem zP (h:Rel av w0 e0 [] [] a w e st):∀(l:List Sh) (Q:QT l) (us:List Nat) (ps:List PV) (b:Nat),xw st l Q us ps->(∀ p∈ps,p.Ok w (zM av [] e st.bx)\/Db p=true) ->
  ∃ qs s,QT.app l Q b qs (Sel.rows s) w.heap.size/\SelOk st us s/\qs.length=ps.length /\
    ∀(E:Env),E.length=b->∀(i:Nat) (p q:PV),ps[i]?=some p->qs[i]?=some q->OV w e (zM av [] e st.bx) (E++s.env e) p q
 | [],Q,us,ps,b,hs,_=>by
   cases ps with
   | nil=>exact⟨[],[],hs _ h.hN,⟨by simp,by simp,by simp⟩,rfl,by simp⟩
   | cons=>exact hs.elim
 | .int k::l,Q,us,ps,b,hs,J=>by
   cases ps with
   | nil=>exact hs.elim
   | cons p ps=>
     cases p<;>simp only[xw]at hs<;>try exact hs.elim
     rename_i k' n;cases hk:decide (k=k')with
     | true=>
       rw[hk]at hs;obtain⟨qs,s,V,U,Y,Z⟩:=zP h l _ us ps b hs (λp I=>J p (by simp[I]));refine⟨.int k n::qs,s,⟨rfl,V⟩,U,by simp[Y],λE hE i p q I O=>?_⟩;cases i with
       | zero=>simp at I O hk;subst I;subst O;subst hk;exact⟨rfl,id,by simp,λ_=>.inl rfl⟩
       | succ i=>exact Z E hE i p q (by simpa using I) (by simpa using O)
     | false=>rw[hk]at hs;exact hs.elim
 | .bool::l,Q,us,ps,b,hs,J=>by
   cases ps with
   | nil=>exact hs.elim
   | cons p ps=>
     cases p<;>simp only[xw]at hs<;>try exact hs.elim
     rename_i n;obtain⟨qs,s,V,U,Y,Z⟩:=zP h l _ us ps b hs (λp I=>J p (by simp[I]));refine⟨.bool n::qs,s,V,U,by simp[Y],λE hE i p q I O=>?_⟩;cases i with
     | zero=>simp at I O;subst I;subst O;exact⟨rfl,id,by simp,λ_=>.inl rfl⟩
     | succ i=>exact Z E hE i p q (by simpa using I) (by simpa using O)
 | .str::l,Q,us,ps,b,hs,J=>by
   cases ps with
   | nil=>exact hs.elim
   | cons p ps=>
     cases p<;>simp only[xw]at hs<;>try exact hs.elim
     rename_i n;obtain⟨qs,s,V,U,Y,Z⟩:=zP h l _ us ps b hs (λp I=>J p (by simp[I]));refine⟨.str n::qs,s,V,U,by simp[Y],λE hE i p q I O=>?_⟩;cases i with
     | zero=>simp at I O;subst I;subst O;exact⟨rfl,id,by simp,λ_=>.inl rfl⟩
     | succ i=>exact Z E hE i p q (by simpa using I) (by simpa using O)
 | .sl z::l,Q,us,ps,b,hs,J=>by
   cases ps with
   | nil=>exact hs.elim
   | cons p ps=>
     cases p<;>simp only[xw]at hs<;>try exact hs.elim
     rename_i ad z' es c;cases hz:decide (z=z')with
     | true=>
       rw[hz]at hs;simp at hz;subst hz;obtain⟨qs,s,V,U,Y,Z⟩:=zP h l _ us ps b hs (λp I=>J p (by simp[I]));refine⟨.sv ad z es c::qs,s,⟨rfl,V⟩,U,by simp[Y],λE hE i p q I O=>?_⟩;cases i with
       | zero=>simp at I O;subst I;subst O;exact⟨rfl,id,by simp,λ_=>.inl rfl⟩
       | succ i=>exact Z E hE i p q (by simpa using I) (by simpa using O)
     | false=>rw[hz]at hs;exact hs.elim
 | .ag n::l,Q,us,ps,b,hs,J=>by
   cases ps with
   | nil=>exact hs.elim
   | cons p ps=>
     simp only[xw]at hs;split at hs
     rotate_left
     ·exact hs.elim
     rename_i n' x ab;split at hs
     rotate_left
     ·exact hs.elim
     rename_i hz;simp at hz;subst hz;obtain⟨qs,s,V,U,Y,Z⟩:=zP h l _ us ps b hs (λp I=>J p (by simp[I]));refine⟨.dg n x::qs,s,⟨rfl,V⟩,U,by simp[Y],λE hE i r q I O=>?_⟩;cases i with
     | zero=>
       simp at I O;subst I;subst O;rcases J p (by simp)with aa | hdx
       rotate_left
       ·cases p<;>simp[Db]at hdx<;>simp[E1]at ab
        rw[ab.1,ab.2];exact⟨rfl,id,by simp,λ_=>.inl rfl⟩
       have ak:=Bo (e:=e) aa;rw[ab]at ak;rcases ak with h5 | ⟨h8,h6,h7,_⟩
       ·cases h5
       ·refine⟨h6,h7,h8,λhx=>.inl ?_⟩;cases p<;>simp[Db]at hx<;>simp[E1]at ab
        rw[ab.1,ab.2]
     | succ i=>exact Z E hE i r q (by simpa using I) (by simpa using O)
 | .row t z::l,Q,us,ps,b,hs,J=>by
   cases ps with
   | nil=>exact hs.elim
   | cons p ps=>
     simp only[xw]at hs;split at hs
     ·rename_i k z' lo n c al ac;cases ac;split at hs
      ·rename_i t' ah es c' hk;split at hs
       rotate_left
       ·exact hs.elim
       rename_i hc;simp only[oL,oc,o6]at hc;obtain⟨⟨⟨⟨ao,aq⟩,au⟩,aw⟩,ai⟩:=hc;subst ao;subst aq;subst au;subst aw;obtain⟨⟨rfl,rfl⟩,hs⟩:=hs;obtain⟨qs,s,V,U,Y,Z⟩:=zP h l _ (k::us) ps (b+1) hs (λp I=>J p (by simp[I]));refine⟨.sb b ah 0 es.length c::qs,(some k,.arr t' ah es c)::s,⟨⟨rfl,rfl,rfl,rfl,rfl,rfl,rfl⟩,V⟩,⟨λx hx=>?_,?_,λj hj=>?_⟩,by simp[Y],λE hE i r q I O=>?_⟩
       ·rcases oG.1 hx with rfl | hx
        ·exact .inr ⟨k,rfl,hk,trivial⟩
        ·exact U.at_ x hx
       ·simp only[nY];exact nk.2 ⟨λhc=>U.un k hc (by simp),U.nd⟩
       ·simp only[nY]at hj;rcases oG.1 hj with rfl | hj
        ·intro hc;simp[hc]at ai
        ·exact λhc=>U.un j hj (by simp[hc])
       ·have ae:Env.at (E++Sel.env e ((some k,Bx.arr t' ah es c)::s)) b=e.at k:=by simp[Sel.env,Env.at,oA,<-hE]
        cases i with
        | zero=>simp at I O;subst I;subst O;refine⟨?_,id,by simp,λ_=>.inr rfl⟩;simp only[PV.val,PV.val1,PV.cv,ae]
        | succ i=>
          have:=Z (E++[e.at k]) (by simp[hE]) i r q (by simpa using I) (by simpa using O)
          simpa [Sel.env]using this
      ·exact hs.elim
     ·rename_i zz al ac;cases ac;obtain⟨qs,s,V,U,Y,Z⟩:=zP h l _ us ps (b+1) hs (λp I=>J p (by simp[I]));refine⟨.sb b z 0 0 0::qs,(none,.arr t z [] 0)::s,⟨⟨rfl,rfl,rfl,rfl,rfl,rfl,rfl⟩,V⟩,⟨λx hx=>?_,?_,λj hj=>?_⟩,by simp[Y],λE hE i r q I O=>?_⟩
      ·rcases oG.1 hx with rfl | hx
       ·exact .inl ⟨rfl,t,z,rfl⟩
       ·exact U.at_ x hx
      ·simpa using U.nd
      ·exact U.un j (by simpa using hj)
      ·have ae:Env.at (E++Sel.env e (((none:Option Nat),Bx.arr t z [] 0)::s)) b=none:=by simp[Sel.env,Env.at,oA,<-hE]
       cases i with
       | zero=>simp at I O;subst I;subst O;refine⟨?_,λ_=>trivial,by simp,λ_=>.inr rfl⟩;simp[PV.val,PV.val1,PV.cv,ae]
       | succ i=>
         have:=Z (E++[none]) (by simp[hE]) i r q (by simpa using I) (by simpa using O)
         simpa [Sel.env]using this
     ·exact hs.elim
 | .cu :: l,Q,us,ps,b,hs,J=>by
   cases ps with
   | nil=>exact hs.elim
   | cons p ps=>
     simp only[xw]at hs;split at hs
     rotate_left
     ·exact hs.elim
     rename_i k z i o al ac;cases ac;split at hs
     rotate_left
     ·exact hs.elim
     rename_i cs hk hc;split at hs
     rotate_left
     ·exact hs.elim
     rename_i a' es c n m ax;have ay:=LD ax;subst ay;simp only[oL,oc,o6]at hc;obtain⟨⟨rfl,rfl,rfl⟩,ai⟩:=hc;obtain⟨qs,s,V,U,Y,Z⟩:=zP h l _ (k::us) ps (b+1) hs (λp I=>J p (by simp[I]));refine⟨.pb b 0 0 0::qs,(some k,.var [.sv a' 0 es c,.int .i64 n,.int .i64 m])::s,⟨_,_,_,_,_,rfl,rfl,V⟩,⟨λx hx=>?_,?_,λj hj=>?_⟩,by simp[Y],λE hE i r q I O=>?_⟩
     ·rcases oG.1 hx with rfl | hx
      ·exact .inr ⟨k,rfl,hk,_,_,_,_,_,rfl⟩
      ·exact U.at_ x hx
     ·simp only[nY];exact nk.2 ⟨λhc=>U.un k hc (by simp),U.nd⟩
     ·simp only[nY]at hj;rcases oG.1 hj with rfl | hj
      ·intro hc;simp[hc]at ai
      ·exact λhc=>U.un j hj (by simp[hc])
     ·have ae:Env.at (E++Sel.env e ((some k,Bx.var [.sv a' 0 es c,.int .i64 n,.int .i64 m])::s)) b=e.at k:=by simp[Sel.env,Env.at,oA,<-hE]
      cases i with
      | zero=>simp at I O;subst I;subst O;refine⟨?_,id,by simp,λhx=>by cases hx⟩;simp only[PV.val,PV.val1,PV.cv,ae]
      | succ i=>
        have:=Z (E++[e.at k]) (by simp[hE]) i r q (by simpa using I) (by simpa using O)
        simpa [Sel.env]using this
 | .pk::l,Q,us,ps,b,hs,J=>by
   simp only[xw]at hs;split at hs
   ·rename_i hk;obtain⟨qs,s,V,U,Y,Z⟩:=zP h l Q us ps b hs J;exact⟨qs,s,⟨hk,V⟩,U,Y,Z⟩
   ·exact hs.elim
 | .dc :: l,Q,us,ps,b,hs,J=>by
   cases ps with
   | nil=>exact hs.elim
   | cons p ps=>
     simp only[xw]at hs;split at hs
     rotate_left
     ·exact hs.elim
     rename_i x hx;obtain⟨qs,s,V,U,Y,Z⟩:=zP h l _ us ps b hs (λp I=>J p (by simp[I]));refine⟨.dc x::qs,s,V,U,by simp[Y],λE hE i r q I O=>?_⟩;cases i with
     | zero=>
       simp at I O;subst I;subst O;have hv:p.val e=p.cv e:=by cases p<;>first | rfl | (simp[tB]at hx)
       have aj:x.cv=p.cv e:=by
        rcases J p (by simp)with aa | hdx
        ·exact(yR (e:=e) hx aa).2.2.1
        ·cases p<;>simp[Db]at hdx<;>simp[tB]at hx<;>subst hx<;>rfl
       refine⟨by rw[hv,<-aj];rfl,λI=>?_,λhc=>by subst hc;simp[tB]at hx,λ_=>.inr rfl⟩;obtain⟨g1,g2,_⟩:=yR (e:=e) hx I;exact⟨g1,g2⟩
     | succ i=>exact Z E hE i r q (by simpa using I) (by simpa using O)
 | .bk j::l,Q,us,ps,b,hs,J=>by
   cases ps with
   | nil=>exact hs.elim
   | cons p ps=>
     simp only[xw]at hs;split at hs
     rotate_left
     ·exact hs.elim
     rename_i x hx;obtain⟨qs,s,V,U,Y,Z⟩:=zP h l _ us ps b hs (λp I=>J p (by simp[I]));refine⟨.dc x::qs,s,V,U,by simp[Y],λE hE i r q I O=>?_⟩;cases i with
     | zero=>
       simp at I O;subst I;subst O;have hv:p.val e=p.cv e:=by cases p<;>first | rfl | (simp[tB]at hx)
       have aj:x.cv=p.cv e:=by
        rcases J p (by simp)with aa | hdx
        ·exact(yR (e:=e) hx aa).2.2.1
        ·cases p<;>simp[Db]at hdx<;>simp[tB]at hx<;>subst hx<;>rfl
       refine⟨by rw[hv,<-aj];rfl,λI=>?_,λhc=>by subst hc;simp[tB]at hx,λ_=>.inr rfl⟩;obtain⟨g1,g2,_⟩:=yR (e:=e) hx I;exact⟨g1,g2⟩
     | succ i=>exact Z E hE i r q (by simpa using I) (by simpa using O)
theorem Ii (h:Rel av w0 [] [] [] a w e st){s:Sel}(hs:SelOk st [] s):Mem av [] w (s.env e) s.rows/\(∀ b,zM av [] (s.env e) s.rows b->zM av [] e st.bx b)/\∀(k b:Nat),(s.env e).at k=some b->w0.heap.size<=b:=by
 have ab:∀(j:Nat) (x:Option Nat × Bx),s[j]?=some x->(s.env e).at j=x.1.bind e.at:=λj x I=>by simp[Sel.env,Env.at,oA,I]
 have Y:∀(j:Nat) (B:Bx),s.rows[j]?=some B->∃ x,s[j]?=some x/\x.2=B:=λj B I=>by
  simp only[Sel.rows,oE]at I;cases J:s[j]? with
  | none=>simp[J]at I
  | some x=>simp[J]at I;exact⟨x,rfl,I⟩
 have aa:∀(j b:Nat),(s.env e).at j=some b->∃ x k,s[j]?=some x/\x.1=some k/\Lives [] e st.bx k b:=λj b I=>by
  cases J:s[j]? with
  | none=>simp[Sel.env,Env.at,oA,J]at I
  | some x=>
    rw[ab j x J]at I;rcases hs.at_ x (oB J)with⟨O,_⟩ | ⟨k,O,U,V⟩
    ·rw[O]at I;cases I
    ·rw[O]at I;exact⟨x,k,rfl,O,by simp,I,x.2,U,V.sp.1⟩
 have Z:∀ b,zM av [] (s.env e) s.rows b->zM av [] e st.bx b:=λb hb=>hb.imp id λ⟨j,I⟩=>by obtain⟨_,k,_,_,V⟩:=aa j b I.2.1;exact⟨k,V⟩
 refine⟨{ el:=by simp[Sel.env,Sel.rows],br:=λj B I _=>?_,bo:=λj B I _=>?_,bf:=λj B I _ i hi=>?_,inj:=λi j b hi I=>?_ },Z,λj b I=>?_⟩
 ·obtain⟨x,J,rfl⟩:=Y j B I;rw[ab j x J];rcases hs.at_ x (oB J)with⟨O,t,z,U⟩ | ⟨k,O,U,V⟩
  ·rw[O,U];exact .inl ⟨rfl,rfl,rfl⟩
  ·rw[O];refine(h.br k _ U (by simp)).congr (λ_ _=>rfl) λi hi=>?_;rw[V.sp.2]at hi;simp at hi
 ·obtain⟨x,J,rfl⟩:=Y j B I;rcases hs.at_ x (oB J)with⟨O,t,z,U⟩ | ⟨k,O,U,V⟩
  ·rw[U];intro y hy;simp at hy
  ·exact(h.bo k _ U (by simp)).mono (λ_ _ _=>rfl) (oJ _) λb _=>Z b
 ·obtain⟨x,J,rfl⟩:=Y j B I;rcases hs.at_ x (oB J)with⟨O,t,z,U⟩ | ⟨k,O,U,V⟩
  ·rw[U]at hi;simp[Bx.refs]at hi
  ·rw[V.sp.2]at hi;simp at hi
 ·obtain⟨x,k,O,U,V⟩:=aa i b hi.2.1;obtain⟨y,l,g1,g2,g3⟩:=aa j b I.2.1;have ai:=h.inj k l b V g3;subst ai
  have key:∀(s:Sel) (i j:Nat) (x y:Option Nat × Bx),(s.filterMap (·.1)).Nodup->s[i]?=some x->s[j]?=some y->x.1=some k->y.1=some k->i=j:=by
   intro s
   induction s with
   | nil=>intro i j x y _ J;simp at J
   | cons u s ih=>
     intro i j x y hn J hy ac ae;have aj:(s.filterMap (·.1)).Nodup:=by
      cases hu:u.1 with
      | none=>simpa [hu]using hn
      | some m=>simp only[nY,hu]at hn;exact(nk.1 hn).2
     have ah:u.1=some k->k∉s.filterMap (·.1):=λhu=>by simp only[nY,hu]at hn;exact(nk.1 hn).1
     cases i with
     | zero=>
       simp at J;subst J;cases j with
       | zero=>rfl
       | succ j=>simp at hy;exact absurd (nN.2 ⟨y,oB hy,ae⟩) (ah ac)
     | succ i=>
       simp at J;cases j with
       | zero=>simp at hy;subst hy;exact absurd (nN.2 ⟨x,oB J,ac⟩) (ah ae)
       | succ j=>simp at hy;rw[ih i j x y aj J hy ac ae]
  exact key s i j x y hs.nd O g1 U g2
 ·obtain⟨_,k,_,_,V⟩:=aa j b I;rcases h.own k b V with h4 | h4
  ·exact h4
  ·simp at h4
def GA:ResultVar->Nat
 | .tmp t=>t
 | .cell a _=>a
def ME (P:Program)(st:St):List ResultVar->(List PV->Prop)->Prop
 | [],K=>K []
 | .tmp t::l,K=>ME P st l λps=>K (st.sl.getD t .any::ps)
 | .cell a t::l,K=>sq P (opd st.sl) (λk=>st.bx[k]?) (.load t (.tmp a)) t λp=>ME P st l λps=>K (p::ps)
def Cc:Sh->Bool
 | .row ..=>true
 | .cu=>true
 | .dc=>true
 | .bk _=>true
 | _=>false
def NJ:List Sh->List Nat->List Nat
 | .pk::_,_=>[]
 | s::l,t::ts=>match Cc s with
   | true=>NJ l ts
   | false=>t::NJ l ts
 | _,_=>[]
def qt (pk:Bool)(ps:List PV):List PV:=match pk with
 | true=>match ps with
   | [.pg cs]=>cs
   | _=>[.any]
 | false=>ps
def Nw (P:Program)(f:FuncId)(rs:List Sh)(Q:QT rs)(N0:Option Nat)(st:St):Prop:=
 match P.funcs[f]? with
 | some fn=>uo N0 #[] [] (NJ rs (fn.results.toList.map GA)) (fn.results.toList.map GA) st λst=>ME P st fn.results.toList λps=>xw st rs Q [] (qt (qr rs) (zV P fn.resultTypes.toList ps))
 | none=>False
def FD (tmps:Array Value)(r:ResultVar):Sem Value:=match r with
 | .tmp t=>pure (tmps.getD t undef)
 | .cell a t=>do loadVar t (<-asAddr (tmps.getD a undef))
theorem J7 (tmps:Array Value):(λ(r:ResultVar)=>match r with
 | .tmp t=>(pure (tmps.getD t undef):Sem Value)
 | .cell a t=>do loadVar t (<-asAddr (tmps.getD a undef)))=FD tmps:=by funext r;cases r<;>rfl
theorem tA (h:Rel av w0 e0 [] [] a w e st):∀(l:List ResultVar) (K:List PV->Prop),ME P st l K->∃ vs ps,K ps/\(l.mapM (FD a.tmps)).run P w=.ok vs w/\vs.length=l.length/\ps.length=l.length /\
  ∀(i:Nat) (v:Value) (p:PV),vs[i]?=some v->ps[i]?=some p->ValOk av w e [] st.bx v p
 | [],K,U=>⟨[],[],U,by simp,rfl,rfl,by simp⟩
 | .tmp t::l,K,U=>by
   obtain⟨vs,ps,Z,h2,h3,h4,h5⟩:=tA h l _ U;have V:ValOk av w e [] st.bx (a.eval (.tmp t)) (opd st.sl (.tmp t)):=(xU h (x:=.tmp t) (by simp)).valOk;refine⟨a.tmps.getD t undef::vs,st.sl.getD t .any::ps,Z,?_,by simp[h3],by simp[h4],λi v p I O=>?_⟩
   ·simp[FD,h2]
   ·cases i with
    | zero=>simp only[me,oZ]at I O;subst I;subst O;exact V
    | succ i=>exact h5 i v p (by simpa using I) (by simpa using O)
 | .cell c t::l,K,U=>by
   simp only [ME] at U;have ho:∀ x∈(Op.load t (.tmp c)).operands,OpdOk av a w e [] st.bx x (opd st.sl x):=λx hx=>xU h (by simp);obtain ⟨v0, p0, J, g2, g3⟩ := Bm (o := ⟨none, .load t (.tmp c), t, "", #[], none⟩) h.toMem ho (λk B hk => ⟨hk, by simp⟩) U;obtain ⟨vs,ps,Z,h2,h3,h4,h5⟩:=tA h l _ g2
   have Y:(FD a.tmps (.cell c t)).run P w=.ok v0 w:=by
    simp only[execOp]at J;have he:a.eval (.tmp c)=a.tmps.getD c undef:=rfl;rw[he]at J;simp only[FD];cases V:a.tmps.getD c undef with
    | pointer p=>
      cases p with
      | none=>rw[V]at J;simp[Instr.loadAt,Instr.sureAddr]at J
      | some ad=>
        rw[V]at J;simp[Instr.loadAt,Instr.sureAddr,asAddr]at J ⊢;generalize (loadVar t ad).run P w=r at J ⊢;cases r with
        | ok x w1=>simp at J ⊢;exact J
        | halt x w1=>simp at J
    | _=>rw[V]at J;simp[Instr.loadAt,Instr.sureAddr]at J
   refine⟨v0::vs,p0::ps,Z,?_,by simp[h3],by simp[h4],λi v p I O=>?_⟩
   ·rw[List.mapM_cons];simp only[Sem.run_bind,Y,Result.andThen_ok,h2,Sem.run_pure]
   ·cases i with
    | zero=>simp only[me,oZ]at I O;subst I;subst O;exact g3
    | succ i=>exact h5 i v p (by simpa using I) (by simpa using O)
def M9 (vs:List Value):Value:=match vs with
 | [v]=>v
 | vs=>.tuple vs.toArray
theorem tk {fn:Func} {vs:List Value} {tmps:Array Value} (h:(fn.results.toList.mapM (FD tmps)).run P w=.ok vs w) :
  (results fn tmps).run P w=.ok (M9 vs) w:=by
 unfold results;have I:∀ F:ResultVar->Sem Value,F=FD tmps->((do
   let vs <-fn.results.mapM F
   pure (if h:vs.size=1 then vs[0]else .tuple vs):Sem Value)).run P w=.ok (M9 vs) w:=λF J=>by
  subst J;rw[Array.mapM_eq_mapM_toList];simp[h];rcases vs with _ | ⟨t,_ | ⟨u,ts⟩⟩<;>simp[M9]
 exact I _ (J7 tmps)
theorem CU {e:Env}{p:PV}(h:p.isC):p.val e=p.cv e:=by
 cases p<;>first | rfl | exact h.elim | skip
 rename_i x;cases x<;>first | rfl | (simp[PV.isC,D.isCell]at h)
theorem Bu {e:Env}{p:PV}(h:p.isC):p.val1 e=p.cv e:=by
 have:=CU (e:=e) h
 cases p<;>first | exact this | exact h.elim
theorem Gy (hD:Dfs.on=none) (h:Rel av w0 [] [] [] a w e st) {f:FuncId} {rs:List Sh} {Q:QT rs} {k:List Item} (hk:k=[]\/∃ k',k=.code .ret::k') {N0:Option Nat} (au:NOk N0 w0) (hs:Nw P f rs Q N0 st):HC P f k (Fin rs Q av w0) a w:=by
 unfold Nw at hs;split at hs
 rotate_left
 ·exact hs.elim
 rename_i fn hf;obtain⟨aw,T,U,_,_,V⟩:=xp h au (by simp) hs;obtain⟨vs,ps,U,ae,ah,ai,ax⟩:=tA V _ _ U;have O:∀(i:Nat) (p:PV),(zV P fn.resultTypes.toList ps)[i]?=some p->∃ v,vs[i]?=some v/\ValOk av w e [] aw.bx v p:=λi p J=>by
  obtain⟨q,Y,ay⟩:=vX _ _ _ _ J;have I:i<vs.length:=by rw[ah,<-ai];exact(oC.1 Y).1
  have hv:=ax i _ q (oF I) Y;refine⟨_,oF I,?_⟩;rcases ay with rfl | ⟨ty,rfl⟩
  ·exact hv
  ·exact hv.retag ty
 cases Z:qr rs with
 | true =>
   rw[Z]at U
   have az:∃ cs,zV P fn.resultTypes.toList ps=[.pg cs]:=by
    by_cases hc:∃ cs,zV P fn.resultTypes.toList ps=[.pg cs]
    ·exact hc
    ·exfalso;have J:qt true (zV P fn.resultTypes.toList ps)=[.any]:=by
      simp only[qt];split
      ·rename_i cs ac;exact absurd ⟨cs,ac⟩ hc
      ·rfl
     rw[J]at U;cases rs with
     | nil=>simp[qr]at Z
     | cons s l=>
       cases s<;>simp[qr]at Z
       simp only[xw]at U;split at U
       ·rename_i hk;cases l with
        | nil=>exact U.elim
        | cons s l=>cases s<;>simp only[xw]at U<;>first | exact U.elim | (simp[Ki]at hk)
       ·exact U.elim
   obtain⟨cs,ac⟩:=az;rw[ac]at U O;simp only[qt]at U;obtain⟨v,aj,aa⟩:=O 0 (.pg cs) rfl;have ak:vs=[v]:=by
    have h5:vs.length=1:=by have h6:=oT List.length ac;rw[ya]at h6;rw[ah,<-ai,h6];rfl
    rcases vs with _ | ⟨u,_ | _⟩<;>simp at h5 aj
    subst aj;rfl
   have al:=aa.2.1;simp only[PV.Ok]at al;obtain⟨ab,ao⟩:=al;rw[PV.OkL_iff]at ab;obtain⟨qs,s,g1,g2,g3,g4⟩:=zP V rs Q [] _ 0 U (λp J=>.inl (ab p J));obtain⟨m1,m2,m3⟩:=Ii V g2;have a1:=QT.app_pk Z g1;refine CY hD hk hf V.nd (tk ae) ⟨qs,s.rows,s.env e,g1,?_,m1,λq Y=>?_,m3,V.size,λb hb=>V.old b hb (by simp),λb c t z hb hc=>V.fz b c t z (.inl hb) hc,V.ku⟩
   ·rw[ak,Z];simp only[M9,Gz];rw[aa.1.resolve_left (by simp)];simp only[PV.val,PV.val1,PV.cvs_eq];congr 2;apply nD;intro i;rw[oE,oE];cases Y:qs[i]? with
    | none=>rw[show cs[i]?=none from ob (by rw[<-g3];exact nj.1 Y)];rfl
    | some q=>
      have I:i<cs.length:=by rw[<-g3];exact(oC.1 Y).1
      have J:=oF I;rw[J];simp only[oR,oZ];have h5:=g4 [] rfl i _ q J Y;rw[<-CU (ao _ (oB J)),h5.1,Bu (a1 q (oB Y))];rfl
   ·obtain⟨i,hi⟩:=oQ.1 Y;have I:i<cs.length:=by rw[<-g3];exact(oC.1 hi).1
    have J:=oF I;exact PV.Ok.mono (λ_ _ _=>rfl) (oJ _) (λb _=>m2 b) q ((g4 [] rfl i _ q J hi).2.1 (ab _ (oB J)))
 | false=>
 rw[Z]at U;simp only[qt]at U;obtain⟨qs,s,g1,g2,g3,g4⟩:=zP V rs Q [] _ 0 U (λp J=>by obtain⟨i,hi⟩:=oQ.1 J;obtain⟨t,_,hv⟩:=O i p hi;exact .inl hv.2.1);obtain⟨m1,m2,m3⟩:=Ii V g2;have aq:qs.length=vs.length:=by rw[g3,ya,ai,ah]
 refine CY hD hk hf V.nd (tk ae) ⟨qs,s.rows,s.env e,g1,?_,m1,λq Y=>?_,m3,V.size,λb hb=>V.old b hb (by simp),λb c t z hb hc=>V.fz b c t z (.inl hb) hc,V.ku⟩
 ·-- the values
  have hv:vs=qs.map (PV.val1 (s.env e)):=by
   apply nD;intro i;rw[oE];cases Y:qs[i]? with
   | none=>have:vs[i]?=none:=ob (by rw[<-aq];exact nj.1 Y);rw[this];rfl
   | some q=>
     have I:i<(zV P fn.resultTypes.toList ps).length:=by rw[<-g3];exact(oC.1 Y).1
     have J:=oF I;obtain⟨v,hv,aa⟩:=O i _ J;rw[hv];simp only[oR,oZ];have h5:=g4 [] rfl i _ q J Y;rw[aa.1.resolve_left h5.2.2.1,h5.1];rfl
  rw[hv,Z];simp only[Gz];unfold Ic;rcases qs with _ | ⟨q,_ | ⟨r,qs⟩⟩<;>rfl
 ·obtain⟨i,hi⟩:=oQ.1 Y;have I:i<(zV P fn.resultTypes.toList ps).length:=by rw[<-g3];exact(oC.1 hi).1
  have J:=oF I;obtain⟨t,ht,aa⟩:=O i _ J;exact PV.Ok.mono (λ_ _ _=>rfl) (oJ _) (λb _=>m2 b) q ((g4 [] rfl i _ q J hi).2.1 aa.2.1)
variable {av:Nat->Prop} {P:Program} {w0 w w':World} {e0 e:Env} {pS pS' pB pB':List Nat} {a:Act} {st st':St}
mutual
def xW:PV->PV->Bool
 | .any,.any=>true
 | .pb k z i o,.pb I z' i' J=>Nat.beq k I&&Nat.beq z z'&&Nat.beq i i'&&Nat.beq o J
 | .fn f l,.fn O l'=>Nat.beq f O&&qH l l'
 | _,_=>false
def qH:List PV->List PV->Bool
 | [],[]=>true
 | p::ps,q::qs=>xW p q&&qH ps qs
 | _,_=>false
end
mutual
theorem Dx:∀ {p q:PV},xW p q=true->p=q
 | .any,q,h=>by cases q<;>simp[xW]at h ⊢
 | .pb k z i o,q,h=>by
   cases q<;>simp[xW]at h
   obtain⟨⟨⟨I,J⟩,O⟩,U⟩:=h
   rw[I,J,O,U]
 | .fn f l,q,h=>by
   cases q<;>simp[xW]at h
   rw[h.1,Bv h.2]
 | .int ..,q,h=>by simp[xW]at h
 | .bool ..,q,h=>by simp[xW]at h
 | .str ..,q,h=>by simp[xW]at h
 | .lit ..,q,h=>by simp[xW]at h
 | .sv ..,q,h=>by simp[xW]at h
 | .d ..,q,h=>by simp[xW]at h
 | .dc ..,q,h=>by simp[xW]at h
 | .dg ..,q,h=>by simp[xW]at h
 | .pd ..,q,h=>by simp[xW]at h
 | .sb ..,q,h=>by simp[xW]at h
 | .pg ..,q,h=>by simp[xW]at h
 | .tp ..,q,h=>by simp[xW]at h
theorem Bv:∀ {p q:List PV},qH p q=true->p=q
 | [],q,h=>by cases q<;>simp[qH]at h ⊢
 | p :: ps,q,h=>by
   cases q with
   | nil=>simp[qH]at h
   | cons q qs=>
     simp[qH]at h
     rw[Dx h.1,Bv h.2]
end
def Nk (all:List Bx) (q p:PV) (K:Prop):Prop:=match rq q with
 | some _=>match rq p with
   | some _=>K
   | none=>False
 | none=>match q,p with
   | .sb k z lo _ _,.sb J z' I n c=>match Nat.beq k J&&Nat.beq z z'&&Nat.beq lo I with
     | true=>match all[k]? with
       | some (.arr _ _ es O)=>(n=es.length/\c=O)/\K
       | _=>False
     | false=>False
   | q,p=>match xW q p with
     | true=>K
     | false=>False
def La (all:List Bx):List PV->List PV->Prop->Prop
 | [],[],K=>K
 | q::qs,p::ps,K=>Nk all q p (La all qs ps K)
 | _,_,_=>False
def Mm (all:List Bx)(J B:Bx)(K:Prop):Prop:=match J,B with
 | .var I,.var cs=>La all I cs K
 | .vd _ n,.vd _ n'=>match Nat.beq n n' with
   | true=>K
   | false=>False
 | .arr t z _ _,.arr O z' _ _=>match Nat.beq t O&&Nat.beq z z' with
   | true=>K
   | false=>False
 | _,_=>False
def Lb (all:List Bx):List Bx->List Bx->Prop->Prop
 | [],[],K=>K
 | B0::b0,B::bs,K=>Mm all B0 B (Lb all b0 bs K)
 | _,_,_=>False
theorem H8 {all:List Bx} {q p:PV} {K:Prop} (h:Nk all q p K):K/\(((∃ s,rq q=some s)/\∃ s,rq p=some s)\/(rq q=none/\rq p=none /\
  ∀ I:List Bx,(∀(k:Nat) t z es c,all[k]?=some (.arr t z es c)->I[k]?=some (.arr t z es c))->Mb I q=p)):=by
 unfold Nk at h;split at h
 ·rename_i s hs;split at h
  ·rename_i s' O;exact⟨h,.inl ⟨⟨s,hs⟩,s',O⟩⟩
  ·exact h.elim
 ·rename_i Z;split at h
  ·rename_i k z lo n0 c0 k' z' aa n c;split at h
   ·rename_i hk;simp only[oL]at hk;obtain⟨⟨U,V⟩,Y⟩:=hk;have U:=o5 U;have V:=o5 V;have Y:=o5 Y;subst U;subst V;subst Y;split at h
    ·rename_i t zz es c' ha;obtain⟨⟨rfl,rfl⟩,hK⟩:=h;refine⟨hK,.inr ⟨rfl,rfl,λI J=>?_⟩⟩;simp only[Mb,J _ _ _ _ _ ha]
    ·exact h.elim
   ·exact h.elim
  ·rename_i ab;split at h
   ·rename_i hs;have he:=Dx hs;subst he;refine⟨h,.inr ⟨Z,Z,λI _=>?_⟩⟩;cases q<;>first | rfl | simp[xW]at hs
   ·exact h.elim
theorem qD {all:List Bx}:∀ {O cs:List PV} {K:Prop},La all O cs K->K/\∀ rest:List PV,(FQ O (I0 cs++rest)).2=rest /\
  ∀ I:List Bx,(∀(k:Nat) t z es c,all[k]?=some (.arr t z es c)->I[k]?=some (.arr t z es c))->(FQ O (I0 cs++rest)).1.map (Mb I)=cs
 | [],[],K,h=>⟨h,λrest=>⟨rfl,λ_ _=>rfl⟩⟩
 | [],_::_,K,h=>h.elim
 | _::_,[],K,h=>h.elim
 | q::qs,p::ps,K,h=>by
   obtain⟨h1,h2⟩:=H8 h;obtain⟨h3,h4⟩:=qD h1;refine⟨h3,λrest=>?_⟩;obtain⟨Y,Z⟩:=h4 rest;rcases h2 with⟨⟨s,hs⟩,s',U⟩ | ⟨hq,hp,V⟩
   ·simp only[FQ,hs,I0,U,nA];refine⟨Y,λI J=>?_⟩;rw[o7,Z I J];congr 1;cases p<;>simp[rq]at U<;>rfl
   ·simp only[FQ,hq,I0,hp];exact⟨Y,λI J=>by rw[o7,Z I J,V I J]⟩
theorem Dr {all:List Bx}:∀ {b0 bs:List Bx} {K:Prop},Lb all b0 bs K->K/\∀ rest:List PV,(∀(k:Nat) t z es c,bs[k]?=some (.arr t z es c)->(G3 b0 (A5 bs++rest))[k]?=some (.arr t z es c)) /\
  ∀ I:List Bx,(∀(k:Nat) t z es c,all[k]?=some (.arr t z es c)->I[k]?=some (.arr t z es c))->(G3 b0 (A5 bs++rest)).map (Ma I)=bs
 | [],[],K,h=>⟨h,λrest=>⟨by simp,λ_ _=>rfl⟩⟩
 | [],_::_,K,h=>h.elim
 | _::_,[],K,h=>h.elim
 | B0 :: b0,B::bs,K,h=>by
   simp only[Lb]at h;have key:∀(K':Prop),Mm all B0 B K'->K'/\∀ rest:List PV,(GJ B0 (HB B++rest)).2=rest/\(∀ t z es c,B=.arr t z es c->(GJ B0 (HB B++rest)).1=.arr t z es c) /\
     ∀ I:List Bx,(∀(k:Nat) t z es c,all[k]?=some (.arr t z es c)->I[k]?=some (.arr t z es c))->Ma I (GJ B0 (HB B++rest)).1=B:=λK' h=>by
    unfold Mm at h;split at h
    ·rename_i Z cs;obtain⟨V,U⟩:=qD h;refine⟨V,λrest=>⟨(U rest).1,λ_ _ _ _ hc=>(by cases hc),λI J=>?_⟩⟩;simp only[GJ,Ma,HB,(U rest).2 I J]
    ·rename_i x n y n';split at h
     ·rename_i O;have O:=o5 O;subst O;exact⟨h,λrest=>⟨rfl,λ_ _ _ _ hc=>(by cases hc),λ_ _=>rfl⟩⟩
     ·exact h.elim
    ·rename_i t z es0 c0 t' z' es c;split at h
     ·rename_i O;simp only[oL]at O;have V:=o5 O.1;have U:=o5 O.2;subst V;subst U;exact⟨h,λrest=>⟨rfl,λ_ _ _ _ hc=>(by cases hc;rfl),λ_ _=>rfl⟩⟩
     ·exact h.elim
    ·exact h.elim
   obtain⟨V,U⟩:=key _ h;obtain⟨h3,h4⟩:=Dr V;refine⟨h3,λrest=>?_⟩;have e1:A5 (B::bs)++rest=HB B++(A5 bs++rest):=by simp[A5]
   rw[e1];obtain⟨h5,h6,h7⟩:=U (A5 bs++rest);obtain⟨h8,h9⟩:=h4 rest;simp only[G3,h5];refine⟨λk t z es c Y=>?_,λI J=>by rw[o7,h7 I J,h9 I J]⟩;cases k with
   | zero=>simp at Y ⊢;exact h6 _ _ _ _ Y
   | succ k=>simp only[nQ]at Y ⊢;exact h8 k _ _ _ _ Y
theorem H9 {all:List Bx}:∀ {b0 bs:List Bx}{K:Prop},Lb all b0 bs K->∀ B∈bs,B≠.gone
 | [],[],K,h=>by simp
 | [],_::_,K,h=>h.elim
 | _::_,[],K,h=>h.elim
 | B0::b0,B::bs,K,h=>by
   simp only[Lb]at h;have key:∀ K',Mm all B0 B K'->B≠.gone/\K':=λK' h=>by
    unfold Mm at h;split at h
    ·exact⟨by simp,(qD h).1⟩
    ·split at h
     ·exact⟨by simp,h⟩
     ·exact h.elim
    ·split at h
     ·exact⟨by simp,h⟩
     ·exact h.elim
    ·exact h.elim
   obtain⟨I,J⟩:=key _ h;intro C hC;rcases oG.1 hC with rfl | hC
   ·exact I
   ·exact H9 J C hC
theorem Jv {b0 bs:List Bx}{K:Prop}(h:Lb bs b0 bs K):K/\DL b0 (A5 bs)=bs:=by obtain⟨O,U⟩:=Dr h;obtain⟨I,J⟩:=U [];rw[nh]at I J;exact⟨O,J _ I⟩
def zq (E:Env):Nat->List Bx->List (Option Nat)
 | _,[]=>[]
 | k,B::bs=>(match B with
   | .var _=>some ((E.at k).getD 0)
   | .vd _ _=>some ((E.at k).getD 0)
   | _=>none)::zq E (k+1) bs
theorem uZ {E:Env}:∀(bs:List Bx)(k:Nat),(zq E k bs).length=bs.length
 | [],k=>rfl
 | B::bs,k=>by simp[zq,uZ bs]
theorem Dw {E:Env}:∀(bs:List Bx)(k j:Nat)(B:Bx),bs[j]?=some B->B.isArr=false->(zq E k bs)[j]?=some (some ((E.at (k+j)).getD 0))
 | B::bs,k,0,B',h,I=>by simp at h;subst h;cases B<;>simp[Bx.isArr]at I<;>simp[zq]
 | B::bs,k,j+1,B',h,I=>by simp only[nQ]at h;simp only[zq,nQ];rw[Dw bs (k+1) j B' h I,show k+1+j=k+(j+1) by omega]
def K1 (p:Option (List (Option Nat) × List Nat))(E:Env)(bx0:List Bx):Prop:=p=some (zq E 0 bx0,[])
def zC (E:Env)(bx0:List Bx):Prop:=K1 (some (zq E 0 bx0,[])) E bx0
theorem zG {E:Env}{bx0:List Bx}:zC E bx0:=rfl
def MB:List Sh->Bool
 | []=>true
 | .pk::_=>false
 | _::l=>MB l
def Le (st:St)(m:Nat):List Nat:=(sw st.bx 200 (List.range m) []).filter λk=>Mj st k&&Nat.ble m k
def HR (full:List Sh)(ps:List PV):List PV:=match full with
 | .bk _::_=>[.int .i64 0]
 | _=>ps
def NW (st:St) (m:Nat) (full:List Sh) (ps:List PV) (K:Prop):Prop:=match full with
 | .bk j::_=>match ps with
   | [.sb k z lo n c]=>match st.bx[j]? with
     | some (.arr _ z' es I)=>match Nat.beq k j&&Nat.beq lo 0&&Nat.beq z z'&&Nat.blt j m with
       | true=>(n=es.length/\c=I)/\K
       | false=>False
     | _=>False
   | _=>False
 | _=>K
theorem HQ {m:Nat}{full:List Sh}{ps:List PV}{K:Prop}(h:NW st m full ps K):K/\(((∀ j l,full≠.bk j::l)/\HR full ps=ps)\/∃ j l t z es c,full=.bk j::l/\ps=[.sb j z 0 es.length c]/\st.bx[j]?=some (.arr t z es c)/\j<m/\HR full ps=[.int .i64 0]):=by
 unfold NW at h;split at h
 ·rename_i j l;split at h
  ·rename_i k z lo n c;split at h
   ·rename_i t z' es c' V;split at h
    ·rename_i hb;simp only[oL]at hb;obtain⟨⟨⟨I,J⟩,O⟩,Y⟩:=hb;have I:=o5 I;have J:=o5 J;have O:=o5 O;subst I;subst J;subst O;obtain⟨⟨rfl,rfl⟩,Z⟩:=h;exact⟨Z,.inr ⟨_,_,_,_,_,_,rfl,rfl,V,by simpa [Nat.blt_eq]using Y,rfl⟩⟩
    ·exact h.elim
   ·exact h.elim
  ·exact h.elim
 ·rename_i U;refine⟨h,.inl ⟨λj l hc=>U j l hc,?_⟩⟩;unfold HR;split
  ·exact absurd rfl (U _ _)
  ·rfl
def OB (full:List Sh):List Sh:=match full with
 | .bk _::l=>.row 0 0::l
 | l=>l
def HU:List Sh->List Sh
 | .pk::l=>l
 | l=>l
def Np (pk:Bool)(ps:List PV):Bool:=match pk with
 | true=>match ps with
   | [.pg _]=>true
   | _=>false
 | false=>true
def MF (P:Program)(f:FuncId)(full:List Sh)(Q:QT full)(N0:Option Nat)(E:Env)(bx0:List Bx)(st:St):Prop:=
 match P.funcs[f]? with
 | some fn=>uo N0 #[] [] (NJ (OB full) (fn.results.toList.map GA)) (fn.results.toList.map GA) st λst=>DY N0 [] [] (Le st bx0.length) st λst=>
  K1 st.pin E bx0/\Lb (st.bx.take bx0.length) bx0 (st.bx.take bx0.length) (ME P st fn.results.toList λps=>match Nat.beq fn.resultTypes.size fn.results.size&&(((HU full).drop (AQ P f full bx0)).all λs=>!Cc s)&&(bx0.all λB=>B.refs.all λi=>decide (i<bx0.length))&&MB (HU full)&&(Np (qr full) (zV P fn.resultTypes.toList ps)&&Nat.beq (qt (qr full) (zV P fn.resultTypes.toList ps)).length (AQ P f full bx0))with
  | true=>NW st bx0.length full (qt (qr full) (zV P fn.resultTypes.toList ps)) (xw st full Q (List.range bx0.length) (HR full (qt (qr full) (zV P fn.resultTypes.toList ps))++A5 (st.bx.take bx0.length)))
  | false=>False)
 | none=>False
theorem DG:∀ {cs:List PV}{p:PV},p∈I0 cs->p∈cs/\Db p=true/\p.refs=[]
 | q :: cs,p,h=>by
   simp only[I0]at h;split at h
   ·rename_i s hs;rcases oG.1 h with rfl | h
    ·refine⟨by simp,?_⟩;cases p<;>simp[rq]at hs<;>exact⟨rfl,rfl⟩
    ·obtain⟨I,J⟩:=DG h;exact⟨by simp[I],J⟩
   ·obtain⟨I,J⟩:=DG h;exact⟨by simp[I],J⟩
theorem Lu {e ne:Env}{m:Nat}{B:Bx}(h:B.row):BPick e ne m B B:=by
 cases B with
 | arr t z es c=>exact⟨.inr (.inl ⟨rfl,by simp⟩)⟩
 | _ =>
   obtain⟨_,_,_,_,_,O⟩:=h;cases O<;>exact⟨.inr (.inr ⟨_,_,rfl,rfl,rfl,λi q I=>by
    have J:q.refs=[]:=by
     have:=oB I
     simp at this;rcases this with rfl | rfl | rfl<;>rfl
    exact .inr ⟨q,I,id,PV.cv_congr q (by simp[J]),λ_ _=>id,id,by simp[J]⟩⟩)⟩
theorem IB {s:Sh}{l:List Sh}(h:MB (s::l)=true):s≠.pk/\MB l=true:=by cases s<;>simp[MB]at h<;>exact⟨by simp,h⟩
theorem QT.app_plainrow:∀(l:List Sh)(Q:QT l)(b:Nat)(ps:List PV)(rows:List Bx)(N:Nat),MB l=true->QT.app l Q b ps rows N->ps.length=l.length/\∀(i:Nat)(s:Sh)(p:PV),l[i]?=some s->Cc s=false->ps[i]?=some p->Nj p=false
 | [],Q,b,ps,rows,N,O,h=>by cases ps<;>cases rows<;>simp[QT.app]at h ⊢
 | s :: l,Q,b,ps,rows,N,O,h=>by
   obtain⟨hs,O⟩:=IB O;cases ps with
   | nil=>cases s<;>first | exact absurd rfl hs | (simp[QT.app]at h;done)
   | cons p ps=>
     have key:(∃(U:QT l) (b':Nat) (I:List Bx),QT.app l U b' ps I N)/\(Cc s=false->Nj p=false):=by
      cases s<;>(try(exact absurd rfl hs))<;>cases p<;>(try(exact h.elim))<;>(try(simp[QT.app]at h;done))<;>first
       | exact⟨⟨_,_,_,h⟩,λ_=>rfl⟩
       | exact⟨⟨_,_,_,h⟩,λhc=>by cases hc⟩
       | exact⟨⟨_,_,_,h.2⟩,λ_=>rfl⟩
       | skip
      all_goals
       cases rows with
       | nil=>simp[QT.app]at h
       | cons B rows=>
         cases B<;>first
          | exact⟨⟨_,b+1,_,h.2⟩,λhc=>by cases hc⟩
          | (simp[QT.app]at h;done)
          | (obtain⟨_,_,_,_,_,_,_,h⟩:=h;exact⟨⟨_,_,_,h⟩,λhc=>by cases hc⟩)
     obtain⟨⟨U,b',I,Y⟩,Z⟩:=key;obtain⟨h1,h2⟩:=QT.app_plainrow l U b' ps I N O Y;refine⟨by simp[h1],λi s' p' hs V J=>?_⟩;cases i with
     | zero=>simp at hs J;subst hs;subst J;exact Z V
     | succ i=>exact h2 i s' p' (by simpa using hs) V (by simpa using J)
theorem QT.app_body {full:List Sh}{Q:QT full}{b:Nat}{ps:List PV}{rows:List Bx}{N:Nat}(h:QT.app full Q b ps rows N):∃ I:QT (HU full),QT.app (HU full) I b ps rows N:=by
 cases full with
 | nil=>exact⟨Q,h⟩
 | cons s l=>cases s<;>first | exact⟨Q,h⟩ | exact⟨Q,h.2⟩
theorem IF {pk:Bool}{ps:List PV}(h:Np pk ps=true):(pk=false/\qt pk ps=ps)\/∃ cs,pk=true/\ps=[.pg cs]/\qt pk ps=cs:=by
 cases pk with
 | false=>exact .inl ⟨rfl,rfl⟩
 | true=>
   unfold Np at h;simp only at h;split at h
   ·exact .inr ⟨_,rfl,rfl,rfl⟩
   ·cases h
theorem F8 {E:Env} (h:Rel av w0 E [] [] a w e st) {f:FuncId} {full:List Sh} {Q:QT full} {N0:Option Nat} (hN0:NOk N0 w0) {bx0:List Bx} (hs:MF P f full Q N0 E bx0 st):∃ fn v,P.funcs[f]?=some fn/\(results fn a.tmps).run P w=.ok v w/\MI full Q (AQ P f full bx0) av w0 E bx0 (.returned v) w:=by
 unfold MF at hs;split at hs
 rotate_left
 ·exact hs.elim
 rename_i fn hf;obtain⟨st0,T,h0,_,_,h1⟩:=xp h hN0 (by simp) hs;obtain⟨st1,h2,_,h3⟩:=uC hN0 (by simp) (by simp) _ _ h1 (by simp) h0;obtain⟨hpin,h2⟩:=h2;unfold K1 at hpin;have hgn:=H9 h2;obtain⟨h2,hupd⟩:=Jv h2;obtain⟨vs,ps,h2,hrun,hvl,hpl,hvp⟩:=tA h3 _ _ h2;split at h2
 rotate_left
 ·exact h2.elim
 rename_i hbool;simp only[oL,oW,o6,oc]at hbool;obtain⟨⟨⟨⟨hrt,hrow⟩,hclosed⟩,hnpk⟩,hpgk,hkn⟩:=hbool;have hkn:=o5 hkn;have hrt:=o5 hrt;obtain⟨h2,hbk⟩:=HQ h2;clear hs;generalize AQ P f full bx0=nn at hrow hkn ⊢;have hpins:st1.pins=zq E 0 bx0:=by simp[St.pins,hpin]
 have hns:∀ p∈A5 (st1.bx.take bx0.length),Db p=true/\p.refs=[]:=fun p hp=>by
  simp only[A5,ni]at hp;obtain⟨B,_,hp⟩:=hp;cases B<;>simp only[HB]at hp
  ·exact(DG hp).2
  ·simp at hp;subst hp;exact⟨rfl,rfl⟩
  ·simp at hp;subst hp;exact⟨rfl,rfl⟩
  ·simp at hp
 obtain⟨ul,ug⟩:=Cw bx0 (A5 (st1.bx.take bx0.length)) fun p hp=>(hns p hp).2;rw[hupd]at ul ug;have hm:bx0.length<=st1.bx.length:=by rw[nW]at ul;omega
 have hgn:∀(k:Nat) (B:Bx),k<bx0.length->st1.bx[k]?=some B->B≠.gone:=fun k B hk hB=>hgn B (oB (i:=k) (by rw[ol];simp[hk,hB]));have htk:∀ j,j<bx0.length->(st1.bx.take bx0.length)[j]?=st1.bx[j]?:=fun j hj=>by rw[ol];simp[hj]
 have hrefs:∀(j:Nat) (B:Bx),j<bx0.length->st1.bx[j]?=some B->∀ i∈B.refs,i<bx0.length:=fun j B hj hB i hi=>by obtain⟨B1,g1,g2,_⟩:=ug j B (by rw[htk j hj];exact hB);exact hclosed B1 (oB g1) i (g2 i hi)
 have hres:∀(i:Nat) (p:PV),(zV P fn.resultTypes.toList ps)[i]?=some p->∃ v,vs[i]?=some v/\ValOk av w e [] st1.bx v p:=fun i p hp=>by
  obtain⟨q,hq,hqp⟩:=vX _ _ _ _ hp;have hlt:i<vs.length:=by rw[hvl,<-hpl];exact(oC.1 hq).1
  have hv:=hvp i _ q (oF hlt) hq;refine⟨_,oF hlt,?_⟩;rcases hqp with rfl | ⟨ty,rfl⟩
  ·exact hv
  ·exact hv.retag ty
 have hpk:=IF hpgk;have hresK:∀ p∈qt (qr full) (zV P fn.resultTypes.toList ps),p.Ok w (zM av [] e st1.bx):=fun p hp=>by
  rcases hpk with⟨_,g⟩ | ⟨cs,_,g1,g⟩
  ·rw[g]at hp;obtain⟨i,hi⟩:=oQ.1 hp;obtain⟨t,_,hv⟩:=hres i p hi;exact hv.2.1
  ·rw[g]at hp;obtain⟨v,_,hvo⟩:=hres 0 (.pg cs) (by rw[g1];rfl)
   have:=hvo.2.1
   simp only[PV.Ok]at this;exact PV.OkL_iff.1 this.1 p hp
 generalize qt (qr full) (zV P fn.resultTypes.toList ps)=psk at hkn hpk hresK h2 hbk ⊢;have hprOk:∀ p∈HR full psk,p.Ok w (zM av [] e st1.bx):=fun p hp=>by
  rcases hbk with⟨_,g⟩ | ⟨j,l,t,z,es,c,_,_,_,_,g⟩
  ·rw[g]at hp;exact hresK p hp
  ·rw[g]at hp;rw[nM]at hp;subst hp;trivial
 obtain⟨qs,s,g1,g2,g3,g4⟩:=zP h3 full Q (List.range bx0.length) _ bx0.length h2 (fun p hp=>by
  rcases oO.1 hp with hp | hp
  ·exact .inl (hprOk p hp)
  ·exact .inr (hns p hp).1)
 have hn0:psk.length=nn:=hkn;have hr0:(zV P fn.resultTypes.toList ps).length=fn.resultTypes.size:=by rw[ya,hpl,hrt];simp
 have hn:(HR full psk).length=nn:=by
  rcases hbk with⟨_,g⟩ | ⟨j,l,t,z,es,c,_,g2,_,_,g⟩
  ·rw[g];exact hn0
  ·rw[g,<-hn0,g2];rfl
 have hvn:vs.length=fn.resultTypes.size:=by rw[hvl,hrt];simp
 obtain⟨Q',g1'⟩:=QT.app_body g1;obtain⟨hql,hqrow⟩:=QT.app_plainrow _ _ _ _ _ _ hnpk g1';have hel:bx0.length<=e.length:=by rw[h3.el];exact hm
 have hEl:(e.take bx0.length).length=bx0.length:=by simp;omega
 have hqx:qs.drop nn=A5 (st1.bx.take bx0.length):=by
  apply nD;intro i;rw[nK];cases hx:(A5 (st1.bx.take bx0.length))[i]? with
  | none=>
    refine ob ?_;rw[g3,oH,hn]
    have:=nj.1 hx
    omega
  | some p=>
    have hlt:nn+i<qs.length:=by
     rw[g3,oH,hn]
     have:=(oC.1 hx).1
     omega
    have hq:=oF hlt;have hp:(HR full psk++A5 (st1.bx.take bx0.length))[nn+i]?=some p:=by rw[oS (by omega),hn];simpa using hx
    have ht:=(g4 _ hEl _ p _ hp hq).2.2.2 (hns p (oB hx)).1;have hlf:nn+i<(HU full).length:=by rw[<-hql];exact hlt
    have hsb:=hqrow (nn+i) _ _ (oF hlf) (hrow _ (oB (i:=i) (by rw[nK,oF hlf]))) hq;rcases ht with ht | ht
    ·rw[hq,ht]
    ·rw[hsb]at ht;cases ht
 have hqs:qs=qs.take nn++A5 (st1.bx.take bx0.length):=by rw[<-hqx];exact(nO _ _).symm
 have hql1:(qs.take nn).length=nn:=by rw[nW,g3,oH,hn];omega
 have hne:((List.range bx0.length).map some++s.map (·.1)).map (fun u=>Option.bind u e.at)=e.take bx0.length++s.env e:=by
  rw[mL];congr 1
  ·apply nD;intro i;by_cases hi:i<bx0.length
   ·rw[ol];have:i<e.length:=by omega
    simp[hi,Env.at,oA,this]
   ·rw[ob (by simp;omega),ob (by simp;omega)]
  ·simp[Sel.env]
 have hatk:∀ k,k<bx0.length->Env.at (e.take bx0.length++s.env e) k=e.at k:=fun k hk=>by rw[Env.at_app,if_pos (by rw[hEl];exact hk)];simp[Env.at,oA,ol,hk]
 have hus:∀(j:Nat) u,((List.range bx0.length).map some++s.map (·.1))[j]?=some u->(j<bx0.length/\u=some j)\/∃ x,s[j - bx0.length]?=some x/\bx0.length<=j/\u=x.1:=fun j u hj=>by
  by_cases hlt:j<bx0.length
  ·rw[oK (by simpa using hlt)]at hj;simp[hlt]at hj;exact .inl ⟨hlt,hj.symm⟩
  ·rw[oS (by simp;omega)]at hj;simp only[nP,List.length_range,oE]at hj;cases hx:s[j - bx0.length]? with
   | none=>simp[hx]at hj
   | some x=>simp[hx]at hj;exact .inr ⟨x,rfl,by omega,hj.symm⟩
 have hnb:∀(j:Nat) (B:Bx),(st1.bx.take bx0.length++s.rows)[j]?=some B->(j<bx0.length/\st1.bx[j]?=some B)\/∃ x,s[j - bx0.length]?=some x/\bx0.length<=j/\B=x.2:=fun j B hj=>by
  by_cases hlt:j<bx0.length
  ·rw[oK (by rw[ul];exact hlt),htk j hlt]at hj;exact .inl ⟨hlt,hj⟩
  ·rw[oS (by rw[ul];omega),ul]at hj;simp only[Sel.rows,oE]at hj;cases hx:s[j - bx0.length]? with
   | none=>simp[hx]at hj
   | some x=>simp[hx]at hj;exact .inr ⟨x,rfl,by omega,hj.symm⟩
 have hsel:∀(i:Nat) x k,s[i]?=some x->x.1=some k->bx0.length<=k/\∃ B,st1.bx[k]?=some B/\B≠.gone:=fun i x k hx hk=>by
  refine⟨?_,?_⟩
  ·have:=g2.un k (nN.2 ⟨x,oB hx,hk⟩)
   simpa using this
  ·rcases g2.at_ x (oB hx)with⟨h5,_⟩ | ⟨k2,h5,h6,h7⟩
   ·rw[h5]at hk;cases hk
   ·rw[hk]at h5;cases h5;exact⟨x.2,h6,h7.sp.1⟩
 obtain ⟨m1,m2,m3⟩:=Fp (us:=(List.range bx0.length).map some++s.map (·.1)) (nb:=st1.bx.take bx0.length++s.rows) (av':=av) h3.toMem (fun b hb=>.inl hb) (by simp[Sel.rows,ul])
  (fun i j k hi hj=>by
   rcases hus i _ hi with⟨a1,a2⟩ | ⟨x,a1,a2,a3⟩<;>rcases hus j _ hj with⟨b1,b2⟩ | ⟨y,b1,b2,b3⟩
   ·cases a2;cases b2;rfl
   ·cases a2;have:=(hsel _ y _ b1 b3.symm).1;omega
   ·cases b2;have:=(hsel _ x _ a1 a3.symm).1;omega
   ·have key:∀(s:Sel) (i j:Nat) (x y:Option Nat × Bx),(s.filterMap (·.1)).Nodup->s[i]?=some x->s[j]?=some y->x.1=some k->y.1=some k->i=j:=by
     intro s
     induction s with
     | nil=>intro i j x y _ hx;simp at hx
     | cons u s ih=>
       intro i j x y hn hx hy hxk hyk;have hn':(s.filterMap (·.1)).Nodup:=by
        cases hu:u.1 with
        | none=>simpa [hu]using hn
        | some m=>simp only[nY,hu]at hn;exact(nk.1 hn).2
       have hnm:u.1=some k->k∉s.filterMap (·.1):=fun hu=>by simp only[nY,hu]at hn;exact(nk.1 hn).1
       cases i with
       | zero=>
         simp at hx;subst hx;cases j with
         | zero=>rfl
         | succ j=>simp at hy;exact absurd (nN.2 ⟨y,oB hy,hyk⟩) (hnm hxk)
       | succ i=>
         simp at hx;cases j with
         | zero=>simp at hy;subst hy;exact absurd (nN.2 ⟨x,oB hx,hxk⟩) (hnm hyk)
         | succ j=>simp at hy;rw[ih i j x y hn' hx hy hxk hyk]
    have:=key s _ _ x y g2.nd a1 b1 a3.symm b3.symm
    omega)
  (fun j B hj=>by
   rcases hnb j B hj with⟨a1,a2⟩ | ⟨x,a1,a2,rfl⟩
   ·refine .inr ⟨j,B,?_,by simp,a2,⟨?_⟩⟩
    ·rw[oK (by simpa using a1)];simp[a1]
    ·rw [hne];cases B with
     | var cs=>
       refine .inr (.inr ⟨cs,cs,rfl,rfl,rfl,fun i q hq=>.inr ⟨q,hq,id,?_,fun _ _=>id,id,fun r hr=>?_⟩⟩)
       ·have hr:∀ r∈q.refs,r<bx0.length:=fun r hr=>hrefs j _ a1 a2 r (by simp only[Bx.refs];exact PV.refsL_mem.2 ⟨q,oB hq,hr⟩);exact(PV.cv_congr q fun r hr2=>hatk r (hr r hr2)).symm
       ·have:=hrefs j _ a1 a2 r (by simp only[Bx.refs];exact PV.refsL_mem.2 ⟨q,oB hq,hr⟩)
        simp;omega
     | _=>exact .inr (.inl ⟨rfl,by simp⟩)
   ·have hjs:((List.range bx0.length).map some++s.map (·.1))[j]?=some x.1:=by rw[oS (by simp;omega)];simp[a1]
    rcases g2.at_ x (oB a1)with⟨h5,t,z,h6⟩ | ⟨k2,h5,h6,h7⟩
    ·exact .inl ⟨by rw[hjs,h5],t,z,h6⟩
    ·exact .inr ⟨k2,x.2,by rw[hjs,h5],by simp,h6,Lu h7⟩)
 rw[hne]at m1 m2 m3;have hng:∀ k b,k<bx0.length->e.at k=some b->Lives [] e st1.bx k b:=fun k b hk hb=>by
  obtain⟨B,hB⟩:∃ B,st1.bx[k]?=some B:=⟨_,oF (by omega)⟩
  exact⟨by simp,hb,B,hB,hgn k B hk hB⟩
 refine⟨fn,_,hf,tk hrun,qs.take nn,A5 (st1.bx.take bx0.length),s.rows,e.take bx0.length++s.env e,?_,{
  q:=by rw[<-hqs];exact g1
  v:=?_
  m:=by rw[hupd];exact m1
  ok:=fun q hq=>?_
  fix:=fun k B hB ha=>?_
  fresh:=fun k b hb=>?_
  size:=h3.size
  old:=h3.old
  fz:=h3.fz
  ku:=h3.ku
  ns:=fun p hp=>(hns p hp).2
  be:=GM h3.toMem rfl fun B hB=>od hB }⟩
 ·exact hql1
 ·rcases hbk with⟨gn,gp⟩ | ⟨j,l,t,z,es,c,gf,gps,gj,gm,gp⟩
  ·rw[Ab gn];rw[gp]at g4 g3;rcases hpk with⟨gk,hpk⟩ | ⟨cs,gk,hcs,hpk⟩
   rotate_left
   ·have hqC:=QT.app_pk gk g1;obtain⟨v,hv0,hvo⟩:=hres 0 (.pg cs) (by rw[hcs];rfl);have hvs:vs=[v]:=by
     have h5:vs.length=1:=by rw[hvn,<-hr0,hcs];rfl
     rcases vs with _ | ⟨u,_ | _⟩<;>simp at h5 hv0
     subst hv0;rfl
    have hok:=hvo.2.1;simp only[PV.Ok]at hok;rw[hvs,gk];simp only[M9,Gz];rw[hvo.1.resolve_left (by simp)];simp only[PV.val,PV.val1,PV.cvs_eq];congr 2;apply nD;intro i;rw[oE,oE];have hcl:cs.length=nn:=by rw[<-hkn,hpk]
    by_cases hi:i<nn
    ·have hlt:i<(qs.take nn).length:=by omega
     have hq:=oF hlt;have hq2:qs[i]?=some (qs.take nn)[i]:=by rw[<-hq,ol];simp[hi]
     obtain⟨x,hp⟩:∃ x,cs[i]?=some x:=⟨_,oF (by omega)⟩
     have hp2:(psk++A5 (st1.bx.take bx0.length))[i]?=some x:=by rw[oK (by omega),hpk];exact hp
     have h5:=g4 _ hEl i _ _ hp2 hq2;rw[hq,hp];simp only[oR,oZ];rw[<-CU (hok.2 _ (oB hp)),h5.1,Bu (hqC _ (oB hq2))]
    ·rw[ob (by omega),ob (by omega)];rfl
   have hfn:fn.resultTypes.size=nn:=by rw[<-hr0,<-hpk,<-hkn]
   rw[gk];have hv:vs=(qs.take nn).map (PV.val1 (e.take bx0.length++s.env e)):=by
    apply nD;intro i;rw[oE];by_cases hi:i<nn
    ·have hlt:i<(qs.take nn).length:=by omega
     have hq:=oF hlt;have hq2:qs[i]?=some (qs.take nn)[i]:=by rw[<-hq,ol];simp[hi]
     have hp:psk[i]?=some psk[i]:=oF (by omega);obtain⟨v,hv,hvo⟩:=hres i _ (by rw[<-hpk];exact hp);have hp2:(psk++A5 (st1.bx.take bx0.length))[i]?=some psk[i]:=by rw[oK (by omega)];exact hp
     have h5:=g4 _ hEl i _ _ hp2 hq2;rw[hv,hq,hvo.1.resolve_left h5.2.2.1,h5.1];rfl
    ·rw[ob (by omega),ob (by omega)];rfl
   rw[hv];simp only[Gz];unfold Ic;rcases qs.take nn with _ | ⟨q,_ | ⟨r,qs⟩⟩<;>rfl
  ·rcases hpk with⟨gk,hpk⟩ | ⟨cs,gk,_,_⟩
   rotate_left
   ·rw[gf]at gk;cases gk
   have h1:psk[0]?=some (.sb j z 0 es.length c):=by rw[gps];rfl
   obtain⟨v,hv,hvo⟩:=hres 0 _ (by rw[<-hpk];exact h1);have hlen:vs.length=1:=by rw[hvn,<-hr0,<-hpk,gps];rfl
   have hvs:vs=[v]:=by
    match vs,hlen with
    | [v'],_=>simp at hv;rw[hv]
   have hUj:(DL bx0 (A5 (st1.bx.take bx0.length)))[j]?=some (.arr t z es c):=by rw[hupd,htk j gm];exact gj
   rw[hvs,gf];simp only[Id,hUj,PV.cv,hatk j gm]
   have:=hvo.1.resolve_left (by simp)
   rw[this];rfl
 ·rw[hupd];obtain⟨i,hi⟩:=oQ.1 hq;have hlt:=(oC.1 hi).1;rw[hql1]at hlt;have hq2:qs[i]?=some q:=by rw[<-hi,ol];simp[hlt]
  have hp:(HR full psk)[i]?=some (HR full psk)[i]:=oF (by omega);have hvo:=hprOk _ (oB hp);have hp2:(HR full psk++A5 (st1.bx.take bx0.length))[i]?=some (HR full psk)[i]:=by rw[oK (by omega)];exact hp
  exact PV.Ok.mono (fun _ _ _=>rfl) (oJ _) (fun b _=>m2 b) q ((g4 _ hEl i _ _ hp2 hq2).2.1 hvo)
 ·have hkl:=(oC.1 hB).1;have h5:=Dw (E:=E) bx0 0 k B hB ha;rw[<-hpins,np]at h5;rw[hatk k hkl];exact(h3.pin k _ h5).1
 ·by_cases hkl:k<bx0.length
  ·rw[hatk k hkl]at hb;rcases h3.own k b (hng k b hkl hb)with h5 | ⟨h5,_⟩
   ·exact .inl h5
   ·exact .inr ⟨hkl,h5⟩
  ·rw [Env.at_app,if_neg (by omega),hEl]at hb;cases hx:s[k - bx0.length]? with
   | none=>simp[Sel.env,Env.at,oA,hx]at hb
   | some x=>
     simp only[Sel.env,Env.at,oA,oE,hx,oR,o3]at hb;cases hxk:x.1 with
     | none=>rw[hxk]at hb;cases hb
     | some k2=>
       rw[hxk]at hb;obtain⟨h5,B,h6,h7⟩:=hsel _ x k2 hx hxk;rcases h3.own k2 b ⟨by simp,hb,B,h6,h7⟩with h8 | ⟨_,h8⟩
       ·exact .inl h8
       ·rw[hpins,uZ]at h8;omega
theorem Gx (J:Dfs.on=none){E:Env}(h:Rel av w0 E [] [] a w e st){f:FuncId}{full:List Sh}{Q:QT full}{k:List Item}(O:k=[]\/∃ U,k=.code .ret::U){N0:Option Nat}(I:NOk N0 w0){bx0:List Bx}(hs:MF P f full Q N0 E bx0 st):HC P f k (MI full Q (AQ P f full bx0) av w0 E bx0) a w:=by obtain⟨fn,v,V,Y,Z⟩:=F8 h I hs;exact CY J O V h.nd Y Z
variable {av:Nat->Prop} {P:Program} {w0 w w':World} {e0 e:Env} {pS pS' pB pB':List Nat} {a:Act} {st st':St}
structure Hint where
 cuts:List Cut:=[]
 joins:List Cut:=[]
 ords:List (Nat × List Ent):=[]
def eh (i:Nat):Ent:={ i:=i,hard:=true }
def en (i:Nat):Ent:={ i:=i }
def ec (i:Nat)(cl:List Nat):Ent:={ i:=i,hard:=true,cl:=cl }
def em (i:Nat)(I:Option Nat)(keep:List Nat)(same:Option Nat:=none):Ent:={ i:=i,hard:=true,mh:=some { place:=I,keep:=keep,same:=same } }
def MZ (i:Nat):List Ent->Ent
 | []=>eh i
 | e::l=>match Nat.beq e.i i with
   | true=>e
   | false=>MZ i l
def OO (l:List Ent)(n:Nat):Nat->List Ent
 | 0=>[]
 | k+1=>MZ (n - (k+1)) l::OO l n k
def hs (n:Nat)(l:List Ent):List Ent:=OO l n n
def hc (id:Nat)(keep:List Nat)(nils:List (Nat × TypeId × Nat):=[])(bnils:List (Nat × Nat × TypeId × Nat):=[]):Cut:={ id:=id,keep:=keep,nils:=nils,bnils:=bnils }
def an:Nat->List PV->List PV
 | 0,l=>l
 | n+1,l=>.any::an n l
def ry:Code->Option Nat
 | .region id _ _=>some id
 | .seq a b=>match ry a with
   | some i=>some i
   | none=>ry b
 | .block _ c=>ry c
 | .loop c=>ry c
 | _=>none
def Eo:List Cut->Nat->Option Cut
 | [],_=>none
 | c::l,id=>match Nat.beq c.id id with
   | true=>some c
   | false=>Eo l id
def Hq:List (Nat × List Ent)->Nat->Option (List Ent)
 | [],_=>none
 | (i,o)::l,id=>match Nat.beq i id with
   | true=>some o
   | false=>Hq l id
def J1 (n:Nat):List Ent:=(List.range n).map λi=>{ i:=i,hard:=true }
def Jz (H:Hint)(id:Nat)(ops:Array Oper):List Ent:=match Hq H.ords id with
 | some o=>o
 | none=>J1 ops.size
def Mk (first:Bool)(H:Hint)(id:Nat):Option Cut:=match first with
 | true=>none
 | false=>Eo H.joins id
def NF (N0:Option Nat)(H:Hint)(c:Code)(st:St)(K:St->Prop):Prop:=match ry c with
 | some id=>match Eo H.cuts id with
   | some cut=>Nf N0 cut st λst=>qq st K
   | none=>False
 | none=>False
def OA (st:St)(c:Operand)(v:Bool):St:=match c with
 | .tmp t=>st.put (some t) (.bool v)
 | _=>st
def MW (st:St)(c:Operand)(A B:St->Prop):Prop:=match opd st.sl c with
 | .bool v=>Br v (A (OA st c true)) (B (OA st c false))
 | _=>False
inductive Mode where
 | ord
 | io (E:Env) (bx0:List Bx)
 | df (E:Env) (K:St->Prop)
def Mode.env0:Mode->Env
 | .ord=>[]
 | .io E _=>E
 | .df E _=>E
def Mode.n0:Mode->Nat->Option Nat
 | .ord,N=>some N
 | .io ..,N=>some N
 | .df ..,N=>some N
def Mode.fin (M:Mode)(P:Program)(f:FuncId)(rs:List Sh)(Q:QT rs)(av:Nat->Prop)(w0:World):Ending->World->Prop:=match M with
 | .ord=>Fin rs Q av w0
 | .io E bx0=>MI rs Q (AQ P f rs bx0) av w0 E bx0
 | .df E K=>λen w=>∃ a e st,en=.returned (.tuple a.tmps)/\K st/\Rel av w0 E [] [] a w e st
def NI (P:Program)(f:FuncId)(rs:List Sh)(Q:QT rs)(N0:Nat)(M:Mode)(st:St):Prop:=match Dfs.on with
 | none=>match M with
   | .ord=>Nw P f rs Q (some N0) st
   | .io E bx0=>MF P f rs Q (some N0) E bx0 st
   | .df ..=>False
 | some _=>match M with
   | .df _ K=>K st
   | _=>False
def dfS (st:St):Option (St × Nat):=match st.bx with
 | .var [.str s,.int .i64 n]::.var [.pb 0 0 0 0]::bs=>match st.pin with
   | some ([x,some b],[])=>some ({ st with bx:=.var [.str s,.int .i64 (IntKind.i64.wrap (n - 1))]::.var [.pb 0 0 0 0]::bs,pin:=some ([x],[]) },b)
   | _=>none
 | _=>none
def dfK (P:Program)(f:FuncId)(full:List Sh)(Q:QT full)(N0:Nat)(E:Env)(bx0:List Bx)(b1:Nat)(st:St):Prop:=match dfS st with
 | some (s,b)=>b=b1/\MF P f full Q (some N0) E bx0 s
 | none=>False
structure AT (P:Program) (f:FuncId) (rs:List Sh) (Q:QT rs) (N0:Nat) (M:Mode) (k:List Item) (st:St):Prop where
 h:∀(av:Nat->Prop) (w0:World) (a:Act) (w:World) (e:Env),w0.heap.size=N0->Rel av w0 M.env0 [] [] a w e st->HC P f k (M.fin P f rs Q av w0) a w
def W (P : Program) (sh:FuncId->List Sh) (f:FuncId) (rs:List Sh) (Q:QT rs) (N0:Nat) (M:Mode) (H:Hint):Nat->Bool->List Item->St->Prop
 | 0,_,_,_=>False
 | n + 1,first,J,st=>match J with
   | []=>NI P f rs Q N0 M st
   | .inBlock _::k=>W P sh f rs Q N0 M H n first k st
   | .inLoop c::k=>NF (M.n0 N0) H c st λst=>AT P f rs Q N0 M (.code c::.inLoop c::k) st
   | .code c::k=>match c with
     | .skip=>W P sh f rs Q N0 M H n first k st
     | .label _=>W P sh f rs Q N0 M H n first k st
     | .ret=>NI P f rs Q N0 M st
     | .seq x y=>W P sh f rs Q N0 M H n first (.code x::.code y::k) st
     | .cond c x y=>MW st c (λst=>W P sh f rs Q N0 M H n false (.code x::k) st) (λst=>W P sh f rs Q N0 M H n false (.code y::k) st)
     | .block id c=>W P sh f rs Q N0 M H n first (.code c::.inBlock id::k) st
     | .loop c=>NF (M.n0 N0) H c st λst=>AT P f rs Q N0 M (.code c::.inLoop c::k) st
     | .exit id=>match exitTo id k with
       | some O=>W P sh f rs Q N0 M H n false O st
       | none=>False
     | .region id ops I=>match Mk first H id with
       | some cut=>Nf (M.n0 N0) cut st λst=>qq st λst=>AT P f rs Q N0 M (.code (.region id ops I)::k) st
       | none=>match I with
         | true=>match chk ops (Jz H id ops)with
           | true=>F3 P sh (M.n0 N0) ops (Jz H id ops) [] st λst=>qq st λst=>W P sh f rs Q N0 M H n false k st
           | false=>False
         | false=>match Et ops.size (Jz H id ops)with
           | true=>F3 P sh (M.n0 N0) ops (Jz H id ops) [] st λst=>qq st λst=>W P sh f rs Q N0 M H n false k st
           | false=>False
     | _=>False
   | _=>False
theorem nok (M:Mode)(w0:World):NOk (M.n0 w0.heap.size) w0:=λn I=>by
 cases M with
 | ord=>cases I;rfl
 | io=>cases I;rfl
 | df=>cases I;rfl
theorem Bb (h:Rel av w0 e0 [] [] a w e st){N0:Option Nat}(I:NOk N0 w0){H:Hint}{c:Code}{K:St->Prop}(hs:NF N0 H c st K):∃ e' st',K st'/\Rel av w0 e0 [] [] a w e' st':=by
 unfold NF at hs;split at hs
 ·split at hs
  ·obtain⟨e',st',J,O⟩:=Bc h I hs;rw[uv]at J;exact⟨e',st',J,O⟩
  ·exact hs.elim
 ·exact hs.elim
theorem D3 {c:Operand}{v:Bool}(h:opd st.sl c=.bool v):OA st c v=st:=by
 cases c with
 | tmp t=>
   simp only[opd,oA]at h;cases I:st.sl[t]? with
   | none=>rw[I]at h;cases h
   | some p=>rw[I]at h;simp at h;subst h;exact Cg I
 | _=>rfl
theorem By {rs:List Sh}{Q:QT rs}{M:Mode}{f:FuncId}{k:List Item}(h:Rel av w0 M.env0 [] [] a w e st)(J:k=[]\/∃ O,k=.code .ret::O)(hs:NI P f rs Q w0.heap.size M st):HC P f k (M.fin P f rs Q av w0) a w:=by
 unfold NI at hs;cases I:Dfs.on with
 | some ds=>
   rw[I]at hs;cases M with
   | df E K=>
     have hd:a.defers=ds:=by rw[h.nd,I];rfl
     intro cs;rcases J with rfl | ⟨O,rfl⟩
     ·exact⟨.returned (.tuple a.tmps),w,_,⟨a,e,st,rfl,hs,h⟩,.one step_end,rfl,by unfold MJ;rw[I];exact⟨rfl,rfl,hd,rfl⟩⟩
     ·exact⟨.returned (.tuple a.tmps),w,_,⟨a,e,st,rfl,hs,h⟩,.one step_ret,rfl,by unfold MJ;rw[I];exact⟨rfl,rfl,hd,rfl⟩⟩
   | _=>exact hs.elim
 | none=>
 rw[I]at hs;cases M with
 | ord=>exact Gy I h J (nok .ord w0) hs
 | io E bx0=>exact Gx I h J (nok .ord w0) hs
 | df=>exact hs.elim
theorem EX {sh:FuncId->List Sh} {f:FuncId} {rs:List Sh} {Q:QT rs} {N0:Nat} {M:Mode} {H:Hint} (hm:P.follows .mixedOrders=true) :
  ∀(n:Nat) (first:Bool) (I:List Item) (st:St),W P sh f rs Q N0 M H n first I st->AT P f rs Q N0 M I st:=by
 intro n
 induction n with
 | zero=>intro first I st h;exact h.elim
 | succ n J=>
   intro first I st hs
   refine⟨λav w0 a w e hN h=>?_⟩;subst hN;cases I with
   | nil=>exact By h (.inl rfl) hs
   | cons it k=>
     cases it with
     | inBlock id=>exact z8 (λcs=>step_inBlock) ((J _ _ _ hs).h av w0 a w e rfl h)
     | inLoop c=>obtain⟨e',st',U,V⟩:=Bb h (nok M w0) hs;exact z8 (λcs=>step_inLoop) (U.h av w0 a w e' rfl V)
     | code c=>
       cases c with
       | skip=>exact z8 (λcs=>step_skip) ((J _ _ _ hs).h av w0 a w e rfl h)
       | label l=>exact z8 (λcs=>step_label) ((J _ _ _ hs).h av w0 a w e rfl h)
       | ret=>exact By h (.inr ⟨_,rfl⟩) hs
       | seq x y=>exact z8 (λcs=>step_seq) ((J _ _ _ hs).h av w0 a w e rfl h)
       | block id c=>exact z8 (λcs=>step_block) ((J _ _ _ hs).h av w0 a w e rfl h)
       | loop c=>obtain⟨e',st',U,V⟩:=Bb h (nok M w0) hs;exact z8 (λcs=>step_loop) (U.h av w0 a w e' rfl V)
       | cond c x y=>
         simp only[W,MW]at hs;split at hs
         ·rename_i v Z;have Y:a.eval c=.bool v:=by
           have:=(xU h (x:=c) (by simp)).h.resolve_left (by rw[Z];simp)
           rw[this,Z];rfl
          rcases hs.spec with⟨rfl,hs⟩ | ⟨rfl,hs⟩
          ·rw[D3 Z]at hs;exact z8 (λcs=>step_cond Y) ((J _ _ _ hs).h av w0 a w e rfl h)
          ·rw[D3 Z]at hs;exact z8 (λcs=>step_cond Y) ((J _ _ _ hs).h av w0 a w e rfl h)
         ·exact hs.elim
       | exit id=>
         simp only[W]at hs;split at hs
         ·rename_i k' hk;exact z8 (λcs=>step_exit hk) ((J _ _ _ hs).h av w0 a w e rfl h)
         ·exact hs.elim
       | region id ops aa=>
         simp only[W]at hs;split at hs
         ·obtain⟨e',st',U,V⟩:=Bc h (nok M w0) hs;rw[uv]at U;exact U.h av w0 a w e' rfl V
         ·have key:∀ a w e st,qq st (λst=>W P sh f rs Q w0.heap.size M H n false k st)->Rel av w0 M.env0 [] [] a w e st->Exit.normal=.normal/\HC P f k (M.fin P f rs Q av w0) a w:=λa w e st hf hr=>by rw[uv]at hf;exact⟨rfl,(J _ _ _ hf).h av w0 a w e rfl hr⟩
          split at hs
          ·split at hs
           ·rename_i O;exact p7 (Gv (nok M w0) hm O h hs key)
           ·exact hs.elim
          ·split at hs
           ·rename_i O;exact p7 (Gw (nok M w0) O h hs key)
           ·exact hs.elim
       | _=>exact hs.elim
     | _=>exact hs.elim
def wm (id:Nat):Code->List Item->Option (List Item)
 | .seq x y,k=>match wm id x (.code y::k)with
   | some r=>some r
   | none=>wm id y k
 | .cond _ x y,k=>match wm id x k with
   | some r=>some r
   | none=>wm id y k
 | .block i c,k=>wm id c (.inBlock i::k)
 | .loop c,k=>match ry c with
   | some j=>match Nat.beq j id with
     | true=>some (.code c::.inLoop c::k)
     | false=>wm id c (.inLoop c::k)
   | none=>wm id c (.inLoop c::k)
 | _,_=>none
def vR (id:Nat):Code->List Item->Option (List Item)
 | .seq x y,k=>match vR id x (.code y::k)with
   | some r=>some r
   | none=>vR id y k
 | .cond _ x y,k=>match vR id x k with
   | some r=>some r
   | none=>vR id y k
 | .block i c,k=>vR id c (.inBlock i::k)
 | .loop c,k=>vR id c (.inLoop c::k)
 | .region j ops I,k=>match Nat.beq j id with
   | true=>some (.code (.region j ops I)::k)
   | false=>none
 | _,_=>none
def KX (P:Program)(f:FuncId):Code:=match P.funcs[f]? with
 | some fn=>match fn.body with
   | some c=>c
   | none=>.skip
 | none=>.skip
def zT (P:Program)(f:FuncId)(id:Nat):List Item:=match wm id (KX P f) []with
 | some k=>k
 | none=>[]
def vH (P:Program)(f:FuncId)(id:Nat):List Item:=match vR id (KX P f) []with
 | some k=>k
 | none=>[]
end Go.Proofs.YtidiofobanefmaaGreatDoor
namespace Go.Proofs.YtidiofobanefmaaGreatDoor
open Go
instance:Dfs:=⟨none⟩
theorem BX {P:Program} {w:World} {f:FuncId} {fn:Func} {c:Code} {args:Array Value} {R:Ending->World->Prop} (J:P.funcs[f]?=some fn) (hb:fn.body=some c)
  (h:HC P f [.code c] R { tmps:=args++Array.replicate (fn.ntmps - args.size) undef,defers:=[] } w):Calls P f args w R:=by
 intro cs;have I:Frame.enter P f args .normal=(base f).at { tmps:=args++Array.replicate (fn.ntmps - args.size) undef,defers:=[] } [.code c]:=by simp[Frame.enter,Frame.at,J,hb,base]
 rw[I];exact h cs
def AV (n:Nat)(args:List PV):List PV:=args++List.replicate (n - args.length) .any
def Dg (P:Program)(sh:FuncId->List Sh)(f:FuncId)(rs:List Sh)(Q:QT rs)(N:Nat)(H:Hint)(I:Nat)(args:List PV):Prop:=match P.funcs[f]? with
 | some fn=>match fn.body with
   | some c=>JK N args (qq { sl:=AV fn.ntmps args,bx:=[],N:=N } λst=>W P sh f rs Q N .ord H I true [.code c] st)
   | none=>False
 | none=>False
theorem LM {P:Program} {sh:FuncId->List Sh} {f:FuncId} {rs:List Sh} {Q:QT rs} {N:Nat} {H:Hint} {ab:Nat} {args:List PV} (hm:P.follows .mixedOrders=true) (hc:yj P f=true)
  (h:Dg P sh f rs Q N H ab args):ACalls P f rs args N Q:=by
 refine⟨hc,λav w0 hN ae O=>?_⟩;subst hN;unfold Dg at h;split at h
 rotate_left
 ·exact h.elim
 rename_i fn hf;split at h
 rotate_left
 ·exact h.elim
 rename_i c hb;have h:=xh (λp J=>by
  have Z:=(O p J).1;cases p<;>simp only[PV.Ok]at Z ⊢
  ·exact Z.1.lt
  ·exact Z.1.1.lt) h
 rw[uv]at h;have hw:=EX hm _ _ _ _ h;refine BX hf hb (hw.h av w0 _ w0 [] rfl ?_);have U:∀(i:Nat) (p:PV),(AV fn.ntmps args)[i]?=some p->p=.any\/(p∈args/\args[i]?=some p):=λi p J=>by
  unfold AV at J;by_cases hi:i<args.length
  ·rw[oK hi]at J;exact .inr ⟨oB J,J⟩
  ·rw[oS (by omega)]at J;exact .inl (nH (oB J))
 have Y:∀ k b,¬Lives [] [] ([]:List Bx) k b:=λk b ⟨_,_,B,h3,_⟩=>by simp at h3
 have aa:∀ b,zM av [] [] ([]:List Bx) b->av b:=λb hb=>hb.elim id λ⟨k,I⟩=>absurd I (Y k b);exact {
  el:=rfl
  br:=λk B I _=>by simp at I
  bo:=λk B I _=>by simp at I
  bf:=λk B I _=>by simp at I
  inj:=λk j b I _=>absurd I (Y k b)
  ku:=.rfl
  size:=oJ _
  old:=λ_ _ _=>rfl
  fz:=λb c t z hb hc=>by
   rcases hb with hb | hb
   ·have:=(oP.1 hc).1;omega
   ·exact absurd hb (by simp[Mode.env0])
  nd:=rfl
  sz:=by simp[AV]
  hN:=oJ _
  hs:=λi p J _=>by
   rcases U i p J with V | ⟨V,h2⟩
   ·exact .inl V
   ·right;have ac:=(oC.1 h2).1;have:i<args.toArray.size:=by simpa using ac
    simp[Array.getElem?_append,ac];rw[(oC.1 h2).2]
  so:=λi p J _=>by
   rcases U i p J with V | ⟨V,h2⟩
   ·subst V;trivial
   ·exact PV.Ok.mono (λ_ _ _=>rfl) (oJ _) (λb _=>aa b) p (O p V).1
  sr:=λi p J _ k I=>by
   rcases U i p J with V | ⟨V,h2⟩
   ·subst V;simp[PV.refs]at I
   ·rw[(O p V).2]at I;simp at I
  own:=λk b I=>absurd I (Y k b)
  avl:=ae
  avn:=λk b I=>absurd I (Y k b)
  pin:=λk b hb=>by simp[St.pins]at hb
  pit:=λb T hb=>by cases hb }
def bytes (l:List Nat):ByteArray:=⟨(l.map UInt8.ofNat).toArray⟩
def Ij (f:Nat):List (Nat × List Sh)->List Sh
 | []=>[]
 | (g,s)::l=>match Nat.beq g f with
   | true=>s
   | false=>Ij f l
theorem Kd {P:Program} {sh:FuncId->List Sh} {f:FuncId} {rs:List Sh} {Q:QT rs} {N:Nat} {H:Hint} {I:Nat} {args:List PV} {F:Prop} (J:P.follows .mixedOrders=true) (hc:yj P f=true)
 (O:F=Dg P sh f rs Q N H I args) (h:F):ACalls P f rs args N Q:=LM J hc (O ▸ h)
theorem LV [Dfs] {P:Program} {sh:FuncId->List Sh} {f:FuncId} {rs:List Sh} {Q:QT rs} {N0:Nat} {M:Mode} {H:Hint} {J:Nat} {I:List Item} {st:St} {F:Prop} (U:P.follows .mixedOrders=true)
 (O:F=qq st λst=>W P sh f rs Q N0 M H J true I st) (h:F):AT P f rs Q N0 M I st:=EX U J true I st (by rw[uv]at O;exact O ▸ h)
def noQ:QT []:=λ_=>False
theorem In {av:Nat->Prop} {args:List PV} {bx:List Bx} {e e0:Env} {pin:Option (List (Option Nat) × List Nat)} {V:Nat} {w0:World} (hm:Mem av [] w0 e bx) (U:∀ p∈args,p.Ok w0 (zM av [] e bx)/\∀ k∈p.refs,k<bx.length)
  (Y:Avl av w0 e0) (Z:∀ k b,Lives [] e bx k b->¬av b)
  (aa:∀ k b,Lives [] e bx k b->some b∈e0/\k<(St.pins ⟨AV V args,bx,w0.heap.size,pin⟩).length) (ae:∀(b:Nat) (c:Array Value) (t:TypeId) (z:Nat × Nat),some b∈e0->w0.heap[b]?=some (.cells c t z)->Fz z)
  (ab:∀ k b,(St.pins ⟨AV V args,bx,w0.heap.size,pin⟩)[k]?=some (some b)->e.at k=some b) (ac:∀ L T,pin=some (L,T)->∀ x∈T,some x∈e0) :
  Rel av w0 e0 [] [] { tmps:=(args.map (PV.val e)).toArray++Array.replicate (V - (args.map (PV.val e)).toArray.size) undef,defers:=[] } w0 e { sl:=AV V args,bx:=bx,N:=w0.heap.size,pin:=pin }:=by
 have J:∀(i:Nat) (p:PV),(AV V args)[i]?=some p->p=.any\/(p∈args/\args[i]?=some p):=λi p I=>by
  unfold AV at I;by_cases hi:i<args.length
  ·rw[oK hi]at I;exact .inr ⟨oB I,I⟩
  ·rw[oS (by omega)]at I;exact .inl (nH (oB I))
 exact {
  toMem:=hm
  ku:=.rfl
  size:=oJ _
  old:=λ_ _ _=>rfl
  fz:=λb c t z hb hc=>by
   rcases hb with hb | hb
   ·have:=(oP.1 hc).1;omega
   ·exact ae b c t z hb hc
  nd:=rfl
  sz:=by simp[AV]
  hN:=oJ _
  hs:=λi p I _=>by
   rcases J i p I with O | ⟨O,h2⟩
   ·exact .inl O
   ·right;have ah:=(oC.1 h2).1;simp[Array.getElem?_append,ah];rw[(oC.1 h2).2]
  so:=λi p I _=>by
   rcases J i p I with O | ⟨O,h2⟩
   ·subst O;trivial
   ·exact(U p O).1
  sr:=λi p I _ k hk=>by
   rcases J i p I with O | ⟨O,h2⟩
   ·subst O;simp[PV.refs]at hk
   ·exact⟨by simp,(U p O).2 k hk⟩
  own:=λk b hk=>.inr (aa k b hk)
  avl:=Y
  avn:=Z
  pin:=λk b hb=>⟨ab k b hb,by simp⟩
  pit:=ac }
def Df (P:Program)(sh:FuncId->List Sh)(f:FuncId)(full:List Sh)(Q:QT full)(N:Nat)(H:Hint)(I:Nat)(args:List PV)(bx:List Bx)(E:Env):Prop:=match P.funcs[f]? with
 | some fn=>match fn.body with
   | some c=>match bx.all λB=>!Fj B with
     | true=>JK N (args++A5 bx) (qq { sl:=AV fn.ntmps args,bx:=bx,N:=N,pin:=some (zq E 0 (bx.map yC),[]) } λst=>W P sh f full Q N (.io E (bx.map yC)) H I true [.code c] st)
     | false=>False
   | none=>False
 | none=>False
theorem HS (bx:List Bx)(E:Env):∀ n,zq E n (bx.map yC)=zq E n bx:=by
 induction bx with
 | nil=>intro n;rfl
 | cons B bs I=>intro n;cases B<;>simp[zq,yC,I]
theorem Bs {E:Env}:∀(bs:List Bx)(k j b:Nat),(zq E k bs)[j]?=some (some b)->b=(E.at (k+j)).getD 0/\∃ B,bs[j]?=some B/\((∃ cs,B=.var cs)\/∃ x n,B=.vd x n)
 | [],k,j,b,h=>by simp[zq]at h
 | B::bs,k,0,b,h=>by
   cases B<;>simp[zq]at h
   ·exact⟨by simp[h],_,rfl,.inl ⟨_,rfl⟩⟩
   ·exact⟨by simp[h],_,rfl,.inr ⟨_,_,rfl⟩⟩
 | B::bs,k,j+1,b,h=>by simp only[zq,nQ]at h;obtain⟨I,J⟩:=Bs bs (k+1) j b h;exact⟨by rw[I,show k+1+j=k+(j+1) by omega],by simpa using J⟩
theorem LN {P:Program} {sh:FuncId->List Sh} {f:FuncId} {full:List Sh} {Q:QT full} {N:Nat} {H:Hint} {ab:Nat} {args:List PV} {bx:List Bx} (hm:P.follows .mixedOrders=true) (hc:yj P f=true)
  (O:∀ E,Df P sh f full Q N H ab args bx E):BCalls P f full args bx N Q:=by
 refine⟨hc,λav w0 E hN ah I ac aa=>?_⟩;subst hN;have O:=O E;unfold Df at O;split at O
 rotate_left
 ·exact O.elim
 rename_i fn hf;split at O
 rotate_left
 ·exact O.elim
 rename_i code hb;split at O
 rotate_left
 ·exact O.elim
 rename_i Y;simp only[oW,o6]at Y;have Y:∀ B∈bx,B≠.gone:=λB hB hc=>by have:=Y B hB;subst hc;simp[Fj]at this
 have O:=xh (λp hp=>by
  have:L9 w0.heap.size p:=by
   rcases oO.1 hp with hp | hp
   ·exact HO (aa p hp).1
   ·exact GM I rfl (λB hB=>hB) p hp
  cases p<;>first | exact this | trivial) O
 rw[uv]at O;have ai:=EX hm _ _ _ _ O;refine BX hf hb (ai.h av w0 _ w0 E rfl (In I aa ah ac (λk b hk=>?_) (λb c t z ae hc=>?_) (λk b hk=>?_) (λL T h=>by cases h;simp)))
 ·obtain⟨_,J,B,h2,_⟩:=hk;refine⟨?_,by simp only[St.pins,uZ,nP];exact(oC.1 h2).1⟩;simp only[Mode.env0];unfold Env.at at J;rw[oA]at J;cases he:E[k]? with
  | none=>rw[he]at J;cases J
  | some u=>rw[he]at J;simp at J;subst J;exact oB he
 ·simp only[Mode.env0]at ae;obtain⟨k,hk⟩:=oQ.1 ae;have aj:E.at k=some b:=by simp[Env.at,oA,hk]
  have ak:k<bx.length:=by rw[<-I.el];exact(oC.1 hk).1
  have hB:bx[k]?=some bx[k]:=oF ak;have V:=I.br k _ hB (by simp);have hg:=Y _ (oB hB);rw[aj]at V;cases Z:bx[k]with
  | var cs=>rw[Z]at V;obtain⟨b',c',t',U,g2,_⟩:=V;cases U;rw[g2]at hc;cases hc;exact fz0
  | vd x n=>rw[Z]at V;obtain⟨b',c',t',U,g2,_⟩:=V;cases U;rw[g2]at hc;cases hc;exact fz0
  | arr t0 z0 es n=>
    rw[Z]at V;rcases V with⟨U,_⟩ | ⟨b',c',U,g2,_⟩
    ·cases U
    ·cases U;rw[g2]at hc;cases hc;exact fz0
  | gone=>exact absurd Z hg
 ·simp only[St.pins,HS]at hk;obtain⟨J,B,h2,h3⟩:=Bs _ _ _ _ hk;rw[np]at J;have V:=I.br k _ h2 (by simp);rcases h3 with⟨cs,rfl⟩ | ⟨x,n,rfl⟩
  ·obtain⟨b',c',t',U,_⟩:=V;rw[U]at J ⊢;simp at J;rw[J]
  ·obtain⟨b',c',t',U,_⟩:=V;rw[U]at J ⊢;simp at J;rw[J]
theorem Hn {P:Program} {sh:FuncId->List Sh} {f:FuncId} {full:List Sh} {Q:QT full} {N:Nat} {H:Hint} {I:Nat} {args:List PV} {bx:List Bx} {F:Env->Prop} (J:P.follows .mixedOrders=true) (hc:yj P f=true)
 (O:∀ E,F E=Df P sh f full Q N H I args bx E) (h:∀ E,F E):BCalls P f full args bx N Q:=LN J hc λE=>O E ▸ h E
end Go.Proofs.YtidiofobanefmaaGreatDoor
set_option maxRecDepth 100000
namespace Go.Proofs.YtidiofobanefmaaGreatDoor
open Go Go.Proofs Go.Proofs.Tryz
def sh:FuncId->List Sh:=λf=>Ij f [(3,[.bool]),(4,[.bool]),(5,[.ag 9]),(6,[.str]),(7,[.ag 9,.bool]),(8,[.str]),(9,[.bool]),(10,[.bool]),(11,[.str]),(12,[.str]),(13,[.ag 9,.bool]),(14,[.ag 9]),(15,[.str]),(16,[.row 0 1000007,.ag 9]),(17,[.cu]),(18,[.bool]),(19,[.str]),(20,[.row 0 1000007,.ag 9,.bool]),(21,[.str]),(22,[.str]),(23,[.int .i64]),(24,[.int .i64]),(25,[.bool]),(26,[.bool]),(27,[.bool]),(28,[.bool]),(29,[.row 0 1000007,.str]),(30,[.row 0 1000007,.ag 9]),(31,[.row 0 1000007,.ag 9]),(32,[.row 0 1000007,.int .i64]),(33,[.row 0 1000007,.int .i64]),(34,[.row 0 1000007,.str]),(35,[.ag 9]),(36,[.row 0 1000007,.ag 2]),(37,[.int .i64]),(38,[.int .i64]),(39,[.str]),(40,[.str]),(41,[.str]),(42,[]),(43,[.row 0 1000007,.bool]),(44,[.ag 9]),(45,[.row 0 1000007,.ag 9,.bool]),(46,[.row 0 1000007,.ag 9,.bool]),(47,[.row 0 1000007,.str]),(48,[.int .i64,.bool]),(49,[.ag 9]),(50,[.ag 9]),(51,[.str]),(52,[.bool]),(53,[.str]),(54,[.str]),(55,[.str]),(56,[.int .i64]),(57,[.bool]),(58,[.int .i64]),(59,[.bool]),(60,[.bool]),(61,[.bool]),(62,[.row 0 1000007,.bool]),(63,[.ag 9]),(64,[.row 0 1000007]),(65,[.row 0 1000007,.ag 9]),(66,[.row 0 1000007,.ag 9]),(67,[.row 0 1000007,.str]),(68,[.row 0 1000007,.bool]),(69,[.row 0 1000007,.ag 9]),(70,[.row 0 1000007,.ag 2]),(71,[.row 0 1000007,.int .i64]),(72,[.ag 2]),(73,[.ag 2]),(74,[.ag 2]),(75,[.str]),(76,[.str]),(77,[.bool]),(78,[.str]),(79,[.str,.bool]),(80,[.row 0 1000007,.sl 9,.bool]),(81,[.int .i64]),(82,[.row 0 1000007,.ag 9,.bool]),(83,[.row 0 1000007,.ag 9,.bool]),(84,[.int .i64,.bool]),(85,[.str]),(86,[.bool]),(87,[.int .i64]),(88,[.int .i32,.int .i64]),(89,[.str]),(90,[.str]),(91,[.bool]),(92,[.bool]),(93,[.bool]),(94,[.bool]),(95,[.int .i64]),(96,[.bool]),(97,[.bool]),(98,[.bool]),(99,[.row 0 1000007,.ag 2]),(100,[.row 0 1000007,.ag 9]),(101,[.row 0 1000007,.ag 9]),(102,[.row 0 1000007,.ag 9]),(103,[.int .i64,.bool]),(104,[.ag 9]),(105,[.ag 2]),(106,[.str]),(107,[]),(109,[.str]),(110,[.int .i64]),(111,[.int .i64]),(112,[.bool]),(113,[.bool]),(114,[.bool]),(115,[.str,.bool]),(116,[.int .i64]),(117,[.row 0 1000007,.ag 2,.bool]),(119,[.int .i64]),(120,[.bool]),(121,[.bool]),(122,[.int .i32,.int .i64]),(123,[.int .i32,.int .i64]),(124,[.int .i64]),(125,[.int .i64]),(126,[.bool]),(127,[.bool]),(128,[.int .i64]),(129,[.bool]),(130,[.bool]),(131,[.ag 2]),(132,[.int .i64,.bool]),(133,[.str]),(134,[]),(135,[]),(136,[.bool]),(137,[.bool]),(138,[.bool]),(139,[.ag 2]),(140,[.ag 2]),(141,[.ag 2]),(142,[.ag 2]),(145,[.bool]),(146,[.bool]),(147,[.str]),(148,[.int .i64]),(149,[]),(150,[.sl 0,.str]),(153,[.int .i64]),(154,[.ag 2]),(160,[.int .i64]),(161,[.int .i64]),(162,[.int .i64]),(163,[.int .i64]),(164,[.bool]),(165,[.int .i64]),(167,[.str]),(169,[.int .i64]),(170,[.int .i64]),(171,[.int .u8]),(172,[.bool]),(207,[])]
theorem mixed:prog.follows .mixedOrders=true:=by kernel_rfl
theorem eE {f:FuncId}{rs:List Sh}{Q:QT rs}{N:Nat}(H:Hint){args:List PV}{F:Prop}(h:F)(hc:yj prog f=true:=by kernel_rfl)(I:F=Dg prog sh f rs Q N H 400 args:=by kernel_rfl):ACalls prog f rs args N Q:=Kd mixed hc I h
theorem bE {f:FuncId}{full:List Sh}{Q:QT full}{N:Nat}(H:Hint){args:List PV}{bx:List Bx}{F:Env->Prop}(h:∀ E,F E)(hc:yj prog f=true:=by kernel_rfl)(I:∀ E,F E=Df prog sh f full Q N H 400 args bx E:=by intro E;kernel_rfl):BCalls prog f full args bx N Q:=Hn mixed hc I h
theorem hE {f:FuncId}{rs:List Sh}{Q:QT rs}{N0:Nat}{M:Mode}(H:Hint){I:List Item}{st:St}{F:Prop}(h:F)(J:F=qq st λst=>W prog sh f rs Q N0 M H 400 true I st:=by kernel_rfl):AT prog f rs Q N0 M I st:=LV mixed J h
abbrev D.j (n:Int):D:=.lit (.int .i64 n)
abbrev D.t (s:ByteArray):D:=.lit (.string s)
abbrev PV.j (n:Int):PV:=.int .i64 n
abbrev Sh.i:Sh:=.int .i64
abbrev b0:ByteArray:=bytes []
def H0:Hint:=⟨[],[],[]⟩
abbrev w2 (P X:Prop):Prop:=P/\P/\X
abbrev w3 (P X:Prop):Prop:=P/\P/\P/\X
abbrev w4 (P X:Prop):Prop:=P/\P/\P/\P/\X
abbrev w5 (P X:Prop):Prop:=P/\P/\P/\P/\P/\X
abbrev gI (x:D)(R:Int->Prop):Prop:=∃ n:Int,x=D.j n/\R n
abbrev gT (x:D)(R:ByteArray->Prop):Prop:=∃ s,x=D.t s/\R s
abbrev gL (z:Nat)(x:D)(R:Option Addr->List D->Nat->Prop):Prop:=∃ a es,∃ c:Nat,x=D.sl a z es c/\R a es c
abbrev uP (N:Nat)(R:Nat->Prop):Prop:=∀ N1,N<=N1->R N1
abbrev cv (a:Option Addr)(e:List D)(c:Nat)(n m:Int):Bx:=.var [.sv a 0 e c,.int .i64 n,.int .i64 m]
abbrev rv (s:ByteArray)(n:Int)(b:Bool):Bx:=.var [.str s,.int .i64 n,.bool b]
abbrev kB (f:FuncId)(I:List PV)(N:Nat)(R:Bool->Nat->Prop):Prop:=∀ N1,N<=N1->ACalls prog f [.bool] I N1 λb J=>N1<=J->R b J
abbrev kI (f:FuncId)(I:List PV)(N:Nat)(R:Int->Nat->Prop):Prop:=∀ N1,N<=N1->ACalls prog f [.int .i64] I N1 λb J=>N1<=J->R b J
abbrev kS (f:FuncId)(I:List PV)(N:Nat)(R:ByteArray->Nat->Prop):Prop:=∀ N1,N<=N1->ACalls prog f [.str] I N1 λb J=>N1<=J->R b J
abbrev kA (z:Nat)(f:FuncId)(I:List PV)(N:Nat)(R:D->Nat->Prop):Prop:=∀ N1,N<=N1->ACalls prog f [.ag z] I N1 λx J=>N1<=J->Bel J x->R x J
abbrev kAB (z:Nat)(f:FuncId)(I:List PV)(N:Nat)(R:D->Bool->Nat->Prop):Prop:=∀ N1,N<=N1->ACalls prog f [.ag z,.bool] I N1 λx b J=>N1<=J->Bel J x->R x b J
abbrev kIB (f:FuncId)(I:List PV)(N:Nat)(R:Int->Bool->Nat->Prop):Prop:=∀ N1,N<=N1->ACalls prog f [.int .i64,.bool] I N1 λx b J=>N1<=J->R x b J
abbrev cB (f:FuncId)(I:List PV)(a:Option Addr)(e:List D)(c:Nat)(n m:Int)(N:Nat)(R:Bool->Option Addr->List D->Nat->Int->Int->Nat->Prop):Prop:=∀ N1,N<=N1->BCalls prog f [.bool,.sl 0,.int .i64,.int .i64] (.pb 0 0 0 0::I) [cv a e c n m] N1 λx a e c n m J=>N1<=J->Bel J (D.sl a 0 e c)->R x a e c n m J
abbrev cI (f:FuncId)(I:List PV)(a:Option Addr)(e:List D)(c:Nat)(n m:Int)(N:Nat)(R:Int->Option Addr->List D->Nat->Int->Int->Nat->Prop):Prop:=∀ N1,N<=N1->BCalls prog f [.int .i64,.sl 0,.int .i64,.int .i64] (.pb 0 0 0 0::I) [cv a e c n m] N1 λx a e c n m J=>N1<=J->Bel J (D.sl a 0 e c)->R x a e c n m J
abbrev cA (z:Nat)(f:FuncId)(J:List PV)(a:Option Addr)(e:List D)(c:Nat)(n m:Int)(N:Nat)(R:D->Option Addr->List D->Nat->Int->Int->Nat->Prop):Prop:=∀ N1,N<=N1->BCalls prog f [.ag z,.sl 0,.int .i64,.int .i64] (.pb 0 0 0 0::J) [cv a e c n m] N1 λx a e c n m I=>N1<=I->Bel I x->Bel I (D.sl a 0 e c)->R x a e c n m I
abbrev cP (ls:List D)(f:FuncId)(t:TypeId)(k:Nat)(a:Option Addr)(e:List D)(c:Nat)(n m:Int)(N:Nat)(R:ByteArray->Option Addr->List D->Nat->Int->Int->Option Addr->List D->Nat->Nat->Prop):Prop:=∀ N1,N<=N1->BCalls prog f [.str,.sl 0,.int .i64,.int .i64,.sl 0] [.pb 0 0 0 0,.sb 1 0 0 k k] [cv a e c n m,.arr t 0 ls k] N1 λx a e c n m a2 J c2 I=>N1<=I->Bel I (D.sl a 0 e c)->Bel I (D.sl a2 0 J c2)->R x a e c n m a2 J c2 I
abbrev rB (f:FuncId)(I:List PV)(s:ByteArray)(n:Int)(b:Bool)(N:Nat)(R:Bool->ByteArray->Int->Bool->Nat->Prop):Prop:=∀ N1,N<=N1->BCalls prog f [.bool,.str,.int .i64,.bool] (.pb 0 0 0 0::I) [rv s n b] N1 λx s n b J=>N1<=J->R x s n b J
abbrev rS (f:FuncId)(I:List PV)(s:ByteArray)(n:Int)(b:Bool)(N:Nat)(R:ByteArray->ByteArray->Int->Bool->Nat->Prop):Prop:=∀ N1,N<=N1->BCalls prog f [.str,.str,.int .i64,.bool] (.pb 0 0 0 0::I) [rv s n b] N1 λx s n b J=>N1<=J->R x s n b J
abbrev rU (f:FuncId)(I:List PV)(s:ByteArray)(n:Int)(b:Bool)(N:Nat)(R:ByteArray->Int->Bool->Nat->Prop):Prop:=∀ N1,N<=N1->BCalls prog f [.str,.int .i64,.bool] (.pb 0 0 0 0::I) [rv s n b] N1 λs n b J=>N1<=J->R s n b J
abbrev rA (z:Nat)(f:FuncId)(I:List PV)(s:ByteArray)(n:Int)(b:Bool)(N:Nat)(R:D->ByteArray->Int->Bool->Nat->Prop):Prop:=∀ N1,N<=N1->BCalls prog f [.ag z,.str,.int .i64,.bool] (.pb 0 0 0 0::I) [rv s n b] N1 λx s n b J=>N1<=J->Bel J x->R x s n b J
end Go.Proofs.YtidiofobanefmaaGreatDoor
