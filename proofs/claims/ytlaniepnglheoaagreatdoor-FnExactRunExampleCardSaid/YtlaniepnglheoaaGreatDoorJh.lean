/- The walker: what a function's code comes to, as a formula on ghost values. -/
import Derived.Test.YtlaniepnglheoaaGreatDoorJq
import Derived.Test.YtlaniepnglheoaaGreatDoorChecked
set_option linter.unusedVariables false
set_option linter.unusedSimpArgs false
set_option linter.unusedSectionVars false
namespace Go.Proofs.YtlaniepnglheoaaGreatDoor
open Go
variable [Dfs] {av:Nat->Prop} {P:Program} {w0 w w':World} {e0 e:Env} {pS pS' pB pB':List Nat} {a:Act} {st st':St}
def base (f:FuncId):Frame:={ (default:Frame)with fn:=f,kind:=.normal }
def V4 (P:Program)(fr:Frame)(w:World)(e:Ending):Prop:=match Dfs.on with
 | none=>fr.leaving P w e
 | some ds=>e=.returned (.tuple fr.tmps)/\fr.mode=.returning/\fr.defers=ds/\fr.kind=.normal
def PK (P:Program)(f:FuncId)(k:List Item)(R:Ending->World->Prop)(a:Act)(w:World):Prop:=
 ∀ cs,∃ e w' fr,R e w'/\Comes P (lone ((base f).at a k) cs w) (lone fr cs w') e/\fr.fn=f/\V4 P fr w' e
theorem xN {f:FuncId}{k I:List Item}{R:Ending->World->Prop}{J:Act}(hs:∀ cs,step P (lone ((base f).at a k) cs w)=.next (lone ((base f).at J I) cs w'))(h:PK P f I R J w'):PK P f k R a w:=
 λcs=>let⟨e,w2,fr,O,U,Y⟩:=h cs;⟨e,w2,fr,O,.of_steps (.one (hs cs)) U,Y⟩
theorem FK {f:FuncId}{c:Code}{k:List Item}{R:Ending->World->Prop}(h:c.wp P (λex J w'=>ex=.normal/\PK P f k R J w') a w):PK P f (.code c::k) R a w:=λcs=>by obtain⟨ex,J,w',⟨rfl,O⟩,I⟩:=h (base f) k cs;obtain⟨e,w2,fr,U,Y,h3⟩:=O cs;exact⟨e,w2,fr,U,.of_steps I Y,h3⟩
theorem I0 (I:Dfs.on=none){f:FuncId}{fn:Func}{k:List Item}{R:Ending->World->Prop}(hk:k=[]\/∃ J,k=.code .ret::J)(O:P.funcs[f]?=some fn)(hd:a.defers=Dfs.on.getD []){v:Value}(U:(results fn a.tmps).run P w=.ok v w)(Y:R (.returned v) w):PK P f k R a w:=λcs=>by
 rw[I]at hd;rcases hk with rfl | ⟨J,rfl⟩
 ·exact⟨.returned v,w,_,Y,.one step_end,rfl,by unfold V4;rw[I];exact⟨rfl,hd,rfl,fn,O,U⟩⟩
 ·exact⟨.returned v,w,_,Y,.one step_ret,rfl,by unfold V4;rw[I];exact⟨rfl,hd,rfl,fn,O,U⟩⟩
def Xd:List PV->Option (Option Addr × List D × Nat × Int × Int)
 | [.sv a z es c,.int k n,.int I m]=>match decide (z=0/\k=.i64/\I=.i64)with
   | true=>some (a,es,c,n,m)
   | false=>none
 | _=>none
theorem Uk {cs:List PV}{a:Option Addr}{es:List D}{c:Nat}{n m:Int}(h:Xd cs=some (a,es,c,n,m)):cs=[.sv a 0 es c,.int .i64 n,.int .i64 m]:=by
 unfold Xd at h;split at h
 ·split at h
  ·rename_i hd;simp at hd h;obtain⟨rfl,rfl,rfl⟩:=hd;obtain⟨rfl,rfl,rfl,rfl,rfl⟩:=h;rfl
  ·cases h
 ·cases h
def vz (st:St):(l:List Sh)->QT l->List Nat->List PV->Prop
 | [],Q,_,ps=>match ps with
   | []=>∀ N,st.N<=N->Q N
   | _=>False
 | .int k::l,Q,us,ps=>match ps with
   | .int J n::ps=>match decide (k=J)with
     | true=>vz st l (Q n) us ps
     | false=>False
   | _=>False
 | .bool::l,Q,us,ps=>match ps with
   | .bool v::ps=>vz st l (Q v) us ps
   | _=>False
 | .str::l,Q,us,ps=>match ps with
   | .str v::ps=>vz st l (Q v) us ps
   | _=>False
 | .sl z::l,Q,us,ps=>match ps with
   | .sv a z' es c::ps=>match decide (z=z')with
     | true=>vz st l (Q a es c) us ps
     | false=>False
   | _=>False
 | .ag n::l,Q,us,ps=>match ps with
   | p :: ps=>match MM p with
     | .dg n' x=>match decide (n=n')with
       | true=>vz st l (Q x) us ps
       | false=>False
     | _=>False
   | _=>False
 | .row t z::l,Q,us,ps=>match ps with
   | .sb k z' lo n c::ps=>match st.bx[k]? with
     | some (.arr t' I es O)=>match decide (t'=t)&&decide (z'=z)&&decide (I=z)&&decide (lo=0)&&!us.contains k with
       | true=>(n=es.length/\c=O)/\vz st l (Q es c) (k::us) ps
       | false=>False
     | _=>False
   | .sv none _ [] 0::ps=>vz st l (Q [] 0) us ps
   | _=>False
 | .pk::l,Q,us,ps=>match Tv l with
   | true=>vz st l Q us ps
   | false=>False
 | .dc::l,Q,us,ps=>match ps with
   | p::ps=>match pY p with
     | some x=>vz st l (Q x) us ps
     | none=>False
   | _=>False
 | .bk j::l,Q,us,ps=>match ps with
   | p::ps=>match pY p with
     | some x=>vz st l (Q x) us ps
     | none=>False
   | _=>False
 | .cu :: l,Q,us,ps=>match ps with
   | .pb k z i o::ps=>match st.bx[k]?,decide (z=0/\i=0/\o=0)&&!us.contains k with
     | some (.var cs),true=>match Xd cs with
       | some (a,es,c,n,m)=>vz st l (Q a es c n m) (k::us) ps
       | none=>False
     | _,_=>False
   | _=>False
abbrev Sel:=List (Option Nat × Bx)
def Sel.rows (s:Sel):List Bx:=s.map (·.2)
def Sel.env (e:Env)(s:Sel):Env:=s.map λx=>x.1.bind e.at
structure SelOk (st:St) (us:List Nat) (s:Sel):Prop where
 at_:∀ x∈s,(x.1=none/\∃ t z,x.2=.arr t z [] 0)\/∃ k,x.1=some k/\st.bx[k]?=some x.2/\x.2.row
 nd:(s.filterMap (·.1)).Nodup
 un:∀ k∈s.filterMap (·.1),k∉us
def Kc:PV->Bool
 | .int ..=>true
 | .bool ..=>true
 | .str ..=>true
 | .sv ..=>true
 | .dg ..=>true
 | _=>false
def Xk:PV->Bool
 | .sb ..=>true
 | .dc ..=>true
 | _=>false
def YR (w:World)(e:Env)(live:Nat->Prop)(E:Env)(p q:PV):Prop:=p.val e=q.val1 E/\(p.Ok w live->q.Ok w live)/\p≠.any/\(Kc p=true->q=p\/Xk q=true)
theorem zo (h:Rel av w0 e0 [] [] a w e st):∀(l:List Sh) (Q:QT l) (us:List Nat) (ps:List PV) (b:Nat),vz st l Q us ps->(∀ p∈ps,p.Ok w (zY av [] e st.bx)\/Kc p=true) ->
  ∃ qs s,QT.app l Q b qs (Sel.rows s) w.heap.size/\SelOk st us s/\qs.length=ps.length /\
    ∀(E:Env),E.length=b->∀(i:Nat) (p q:PV),ps[i]?=some p->qs[i]?=some q->YR w e (zY av [] e st.bx) (E++s.env e) p q
 | [],Q,us,ps,b,hs,_=>by
   cases ps with
   | nil=>exact⟨[],[],hs _ h.hN,⟨by simp,by simp,by simp⟩,rfl,by simp⟩
   | cons=>exact hs.elim
 | .int k::l,Q,us,ps,b,hs,J=>by
   cases ps with
   | nil=>exact hs.elim
   | cons p ps=>
     cases p<;>simp only[vz]at hs<;>try exact hs.elim
     rename_i k' n;cases hk:decide (k=k')with
     | true=>
       rw[hk]at hs;obtain⟨qs,s,Y,U,h3,h4⟩:=zo h l _ us ps b hs (λp I=>J p (by simp[I]));refine⟨.int k n::qs,s,⟨rfl,Y⟩,U,by simp[h3],λE hE i p q I O=>?_⟩;cases i with
       | zero=>simp at I O hk;subst I;subst O;subst hk;exact⟨rfl,id,by simp,λ_=>.inl rfl⟩
       | succ i=>exact h4 E hE i p q (by simpa using I) (by simpa using O)
     | false=>rw[hk]at hs;exact hs.elim
 | .bool::l,Q,us,ps,b,hs,J=>by
   cases ps with
   | nil=>exact hs.elim
   | cons p ps=>
     cases p<;>simp only[vz]at hs<;>try exact hs.elim
     rename_i n;obtain⟨qs,s,Y,U,h3,h4⟩:=zo h l _ us ps b hs (λp I=>J p (by simp[I]));refine⟨.bool n::qs,s,Y,U,by simp[h3],λE hE i p q I O=>?_⟩;cases i with
     | zero=>simp at I O;subst I;subst O;exact⟨rfl,id,by simp,λ_=>.inl rfl⟩
     | succ i=>exact h4 E hE i p q (by simpa using I) (by simpa using O)
 | .str::l,Q,us,ps,b,hs,J=>by
   cases ps with
   | nil=>exact hs.elim
   | cons p ps=>
     cases p<;>simp only[vz]at hs<;>try exact hs.elim
     rename_i n;obtain⟨qs,s,Y,U,h3,h4⟩:=zo h l _ us ps b hs (λp I=>J p (by simp[I]));refine⟨.str n::qs,s,Y,U,by simp[h3],λE hE i p q I O=>?_⟩;cases i with
     | zero=>simp at I O;subst I;subst O;exact⟨rfl,id,by simp,λ_=>.inl rfl⟩
     | succ i=>exact h4 E hE i p q (by simpa using I) (by simpa using O)
 | .sl z::l,Q,us,ps,b,hs,J=>by
   cases ps with
   | nil=>exact hs.elim
   | cons p ps=>
     cases p<;>simp only[vz]at hs<;>try exact hs.elim
     rename_i ad z' es c;cases hz:decide (z=z')with
     | true=>
       rw[hz]at hs;simp at hz;subst hz;obtain⟨qs,s,Y,U,h3,h4⟩:=zo h l _ us ps b hs (λp I=>J p (by simp[I]));refine⟨.sv ad z es c::qs,s,⟨rfl,Y⟩,U,by simp[h3],λE hE i p q I O=>?_⟩;cases i with
       | zero=>simp at I O;subst I;subst O;exact⟨rfl,id,by simp,λ_=>.inl rfl⟩
       | succ i=>exact h4 E hE i p q (by simpa using I) (by simpa using O)
     | false=>rw[hz]at hs;exact hs.elim
 | .ag n::l,Q,us,ps,b,hs,J=>by
   cases ps with
   | nil=>exact hs.elim
   | cons p ps=>
     simp only[vz]at hs;split at hs
     rotate_left
     ·exact hs.elim
     rename_i n' x ab;split at hs
     rotate_left
     ·exact hs.elim
     rename_i hz;simp at hz;subst hz;obtain⟨qs,s,Y,U,h3,h4⟩:=zo h l _ us ps b hs (λp I=>J p (by simp[I]));refine⟨.dg n x::qs,s,⟨rfl,Y⟩,U,by simp[h3],λE hE i r q I O=>?_⟩;cases i with
     | zero=>
       simp at I O;subst I;subst O;rcases J p (by simp)with aa | hdx
       rotate_left
       ·cases p<;>simp[Kc]at hdx<;>simp[MM]at ab
        rw[ab.1,ab.2];exact⟨rfl,id,by simp,λ_=>.inl rfl⟩
       have ak:=Hy (e:=e) aa;rw[ab]at ak;rcases ak with h5 | ⟨h8,h6,h7,_⟩
       ·cases h5
       ·refine⟨h6,h7,h8,λhx=>.inl ?_⟩;cases p<;>simp[Kc]at hx<;>simp[MM]at ab
        rw[ab.1,ab.2]
     | succ i=>exact h4 E hE i r q (by simpa using I) (by simpa using O)
 | .row t z::l,Q,us,ps,b,hs,J=>by
   cases ps with
   | nil=>exact hs.elim
   | cons p ps=>
     simp only[vz]at hs;split at hs
     ·rename_i k z' lo n c al ac;cases ac;split at hs
      ·rename_i t' ah es c' hk;split at hs
       rotate_left
       ·exact hs.elim
       rename_i hc;simp only[oK,oe,nK]at hc;obtain⟨⟨⟨⟨ao,aq⟩,au⟩,aw⟩,ai⟩:=hc;subst ao;subst aq;subst au;subst aw;obtain⟨⟨rfl,rfl⟩,hs⟩:=hs;obtain⟨qs,s,Y,U,h3,h4⟩:=zo h l _ (k::us) ps (b+1) hs (λp I=>J p (by simp[I]));refine⟨.sb b ah 0 es.length c::qs,(some k,.arr t' ah es c)::s,⟨⟨rfl,rfl,rfl,rfl,rfl,rfl,rfl⟩,Y⟩,⟨λx hx=>?_,?_,λj hj=>?_⟩,by simp[h3],λE hE i r q I O=>?_⟩
       ·rcases oL.1 hx with rfl | hx
        ·exact .inr ⟨k,rfl,hk,trivial⟩
        ·exact U.at_ x hx
       ·simp only[mC];exact nw.2 ⟨λhc=>U.un k hc (by simp),U.nd⟩
       ·simp only[mC]at hj;rcases oL.1 hj with rfl | hj
        ·intro hc;simp[hc]at ai
        ·exact λhc=>U.un j hj (by simp[hc])
       ·have ae:Env.at (E++Sel.env e ((some k,Bx.arr t' ah es c)::s)) b=e.at k:=by simp[Sel.env,Env.at,oA,<-hE]
        cases i with
        | zero=>simp at I O;subst I;subst O;refine⟨?_,id,by simp,λ_=>.inr rfl⟩;simp only[PV.val,PV.val1,PV.cv,ae]
        | succ i=>
          have:=h4 (E++[e.at k]) (by simp[hE]) i r q (by simpa using I) (by simpa using O)
          simpa [Sel.env]using this
      ·exact hs.elim
     ·rename_i zz al ac;cases ac;obtain⟨qs,s,Y,U,h3,h4⟩:=zo h l _ us ps (b+1) hs (λp I=>J p (by simp[I]));refine⟨.sb b z 0 0 0::qs,(none,.arr t z [] 0)::s,⟨⟨rfl,rfl,rfl,rfl,rfl,rfl,rfl⟩,Y⟩,⟨λx hx=>?_,?_,λj hj=>?_⟩,by simp[h3],λE hE i r q I O=>?_⟩
      ·rcases oL.1 hx with rfl | hx
       ·exact .inl ⟨rfl,t,z,rfl⟩
       ·exact U.at_ x hx
      ·simpa using U.nd
      ·exact U.un j (by simpa using hj)
      ·have ae:Env.at (E++Sel.env e (((none:Option Nat),Bx.arr t z [] 0)::s)) b=none:=by simp[Sel.env,Env.at,oA,<-hE]
       cases i with
       | zero=>simp at I O;subst I;subst O;refine⟨?_,λ_=>trivial,by simp,λ_=>.inr rfl⟩;simp[PV.val,PV.val1,PV.cv,ae]
       | succ i=>
         have:=h4 (E++[none]) (by simp[hE]) i r q (by simpa using I) (by simpa using O)
         simpa [Sel.env]using this
     ·exact hs.elim
 | .cu :: l,Q,us,ps,b,hs,J=>by
   cases ps with
   | nil=>exact hs.elim
   | cons p ps=>
     simp only[vz]at hs;split at hs
     rotate_left
     ·exact hs.elim
     rename_i k z i o al ac;cases ac;split at hs
     rotate_left
     ·exact hs.elim
     rename_i cs hk hc;split at hs
     rotate_left
     ·exact hs.elim
     rename_i a' es c n m ax;have ay:=Uk ax;subst ay;simp only[oK,oe,nK]at hc;obtain⟨⟨rfl,rfl,rfl⟩,ai⟩:=hc;obtain⟨qs,s,Y,U,h3,h4⟩:=zo h l _ (k::us) ps (b+1) hs (λp I=>J p (by simp[I]));refine⟨.pb b 0 0 0::qs,(some k,.var [.sv a' 0 es c,.int .i64 n,.int .i64 m])::s,⟨_,_,_,_,_,rfl,rfl,Y⟩,⟨λx hx=>?_,?_,λj hj=>?_⟩,by simp[h3],λE hE i r q I O=>?_⟩
     ·rcases oL.1 hx with rfl | hx
      ·exact .inr ⟨k,rfl,hk,_,_,_,_,_,rfl⟩
      ·exact U.at_ x hx
     ·simp only[mC];exact nw.2 ⟨λhc=>U.un k hc (by simp),U.nd⟩
     ·simp only[mC]at hj;rcases oL.1 hj with rfl | hj
      ·intro hc;simp[hc]at ai
      ·exact λhc=>U.un j hj (by simp[hc])
     ·have ae:Env.at (E++Sel.env e ((some k,Bx.var [.sv a' 0 es c,.int .i64 n,.int .i64 m])::s)) b=e.at k:=by simp[Sel.env,Env.at,oA,<-hE]
      cases i with
      | zero=>simp at I O;subst I;subst O;refine⟨?_,id,by simp,λhx=>by cases hx⟩;simp only[PV.val,PV.val1,PV.cv,ae]
      | succ i=>
        have:=h4 (E++[e.at k]) (by simp[hE]) i r q (by simpa using I) (by simpa using O)
        simpa [Sel.env]using this
 | .pk::l,Q,us,ps,b,hs,J=>by
   simp only[vz]at hs;split at hs
   ·rename_i hk;obtain⟨qs,s,Y,U,h3,h4⟩:=zo h l Q us ps b hs J;exact⟨qs,s,⟨hk,Y⟩,U,h3,h4⟩
   ·exact hs.elim
 | .dc :: l,Q,us,ps,b,hs,J=>by
   cases ps with
   | nil=>exact hs.elim
   | cons p ps=>
     simp only[vz]at hs;split at hs
     rotate_left
     ·exact hs.elim
     rename_i x hx;obtain⟨qs,s,Y,U,h3,h4⟩:=zo h l _ us ps b hs (λp I=>J p (by simp[I]));refine⟨.dc x::qs,s,Y,U,by simp[h3],λE hE i r q I O=>?_⟩;cases i with
     | zero=>
       simp at I O;subst I;subst O;have hv:p.val e=p.cv e:=by cases p<;>first | rfl | (simp[pY]at hx)
       have aj:x.cv=p.cv e:=by
        rcases J p (by simp)with aa | hdx
        ·exact(xn (e:=e) hx aa).2.2.1
        ·cases p<;>simp[Kc]at hdx<;>simp[pY]at hx<;>subst hx<;>rfl
       refine⟨by rw[hv,<-aj];rfl,λI=>?_,λhc=>by subst hc;simp[pY]at hx,λ_=>.inr rfl⟩;obtain⟨g1,g2,_⟩:=xn (e:=e) hx I;exact⟨g1,g2⟩
     | succ i=>exact h4 E hE i r q (by simpa using I) (by simpa using O)
 | .bk j::l,Q,us,ps,b,hs,J=>by
   cases ps with
   | nil=>exact hs.elim
   | cons p ps=>
     simp only[vz]at hs;split at hs
     rotate_left
     ·exact hs.elim
     rename_i x hx;obtain⟨qs,s,Y,U,h3,h4⟩:=zo h l _ us ps b hs (λp I=>J p (by simp[I]));refine⟨.dc x::qs,s,Y,U,by simp[h3],λE hE i r q I O=>?_⟩;cases i with
     | zero=>
       simp at I O;subst I;subst O;have hv:p.val e=p.cv e:=by cases p<;>first | rfl | (simp[pY]at hx)
       have aj:x.cv=p.cv e:=by
        rcases J p (by simp)with aa | hdx
        ·exact(xn (e:=e) hx aa).2.2.1
        ·cases p<;>simp[Kc]at hdx<;>simp[pY]at hx<;>subst hx<;>rfl
       refine⟨by rw[hv,<-aj];rfl,λI=>?_,λhc=>by subst hc;simp[pY]at hx,λ_=>.inr rfl⟩;obtain⟨g1,g2,_⟩:=xn (e:=e) hx I;exact⟨g1,g2⟩
     | succ i=>exact h4 E hE i r q (by simpa using I) (by simpa using O)
theorem RU (h:Rel av w0 [] [] [] a w e st){s:Sel}(hs:SelOk st [] s):Mem av [] w (s.env e) s.rows/\(∀ b,zY av [] (s.env e) s.rows b->zY av [] e st.bx b)/\∀(k b:Nat),(s.env e).at k=some b->w0.heap.size<=b:=by
 have ae:∀(j:Nat) (x:Option Nat × Bx),s[j]?=some x->(s.env e).at j=x.1.bind e.at:=λj x I=>by simp[Sel.env,Env.at,oA,I]
 have aa:∀(j:Nat) (B:Bx),s.rows[j]?=some B->∃ x,s[j]?=some x/\x.2=B:=λj B I=>by
  simp only[Sel.rows,oF]at I;cases J:s[j]? with
  | none=>simp[J]at I
  | some x=>simp[J]at I;exact⟨x,rfl,I⟩
 have ac:∀(j b:Nat),(s.env e).at j=some b->∃ x k,s[j]?=some x/\x.1=some k/\Lives [] e st.bx k b:=λj b I=>by
  cases J:s[j]? with
  | none=>simp[Sel.env,Env.at,oA,J]at I
  | some x=>
    rw[ae j x J]at I;rcases hs.at_ x (oB J)with⟨O,_⟩ | ⟨k,O,U,Y⟩
    ·rw[O]at I;cases I
    ·rw[O]at I;exact⟨x,k,rfl,O,by simp,I,x.2,U,Y.sp.1⟩
 have ab:∀ b,zY av [] (s.env e) s.rows b->zY av [] e st.bx b:=λb hb=>hb.imp id λ⟨j,I⟩=>by obtain⟨_,k,_,_,Y⟩:=ac j b I.2.1;exact⟨k,Y⟩
 refine⟨{ el:=by simp[Sel.env,Sel.rows],br:=λj B I _=>?_,bo:=λj B I _=>?_,bf:=λj B I _ i hi=>?_,inj:=λi j b hi I=>?_ },ab,λj b I=>?_⟩
 ·obtain⟨x,J,rfl⟩:=aa j B I;rw[ae j x J];rcases hs.at_ x (oB J)with⟨O,t,z,U⟩ | ⟨k,O,U,Y⟩
  ·rw[O,U];exact .inl ⟨rfl,rfl,rfl⟩
  ·rw[O];refine(h.br k _ U (by simp)).congr (λ_ _=>rfl) λi hi=>?_;rw[Y.sp.2]at hi;simp at hi
 ·obtain⟨x,J,rfl⟩:=aa j B I;rcases hs.at_ x (oB J)with⟨O,t,z,U⟩ | ⟨k,O,U,Y⟩
  ·rw[U];intro y hy;simp at hy
  ·exact(h.bo k _ U (by simp)).mono (λ_ _ _=>rfl) (oC _) λb _=>ab b
 ·obtain⟨x,J,rfl⟩:=aa j B I;rcases hs.at_ x (oB J)with⟨O,t,z,U⟩ | ⟨k,O,U,Y⟩
  ·rw[U]at hi;simp[Bx.refs]at hi
  ·rw[Y.sp.2]at hi;simp at hi
 ·obtain⟨x,k,O,U,Y⟩:=ac i b hi.2.1;obtain⟨y,l,g1,g2,g3⟩:=ac j b I.2.1;have ak:=h.inj k l b Y g3;subst ak
  have key:∀(s:Sel) (i j:Nat) (x y:Option Nat × Bx),(s.filterMap (·.1)).Nodup->s[i]?=some x->s[j]?=some y->x.1=some k->y.1=some k->i=j:=by
   intro s
   induction s with
   | nil=>intro i j x y _ J;simp at J
   | cons u s ih=>
     intro i j x y hn J hy ah ai;have al:(s.filterMap (·.1)).Nodup:=by
      cases hu:u.1 with
      | none=>simpa [hu]using hn
      | some m=>simp only[mC,hu]at hn;exact(nw.1 hn).2
     have aj:u.1=some k->k∉s.filterMap (·.1):=λhu=>by simp only[mC,hu]at hn;exact(nw.1 hn).1
     cases i with
     | zero=>
       simp at J;subst J;cases j with
       | zero=>rfl
       | succ j=>simp at hy;exact absurd (nf.2 ⟨y,oB hy,ai⟩) (aj ah)
     | succ i=>
       simp at J;cases j with
       | zero=>simp at hy;subst hy;exact absurd (nf.2 ⟨x,oB J,ah⟩) (aj ai)
       | succ j=>simp at hy;rw[ih i j x y al J hy ah ai]
  exact key s i j x y hs.nd O g1 U g2
 ·obtain⟨_,k,_,_,Y⟩:=ac j b I;rcases h.own k b Y with h4 | h4
  ·exact h4
  ·simp at h4
def Ns:ResultVar->Nat
 | .tmp t=>t
 | .cell a _=>a
def Vy (P:Program)(st:St):List ResultVar->(List PV->Prop)->Prop
 | [],K=>K []
 | .tmp t::l,K=>Vy P st l λps=>K (st.sl.getD t .any::ps)
 | .cell a t::l,K=>Bi P (opd st.sl) (λk=>st.bx[k]?) (.load t (.tmp a)) t λp=>Vy P st l λps=>K (p::ps)
def I6:Sh->Bool
 | .row ..=>true
 | .cu=>true
 | .dc=>true
 | .bk _=>true
 | _=>false
def XL:List Sh->List Nat->List Nat
 | .pk::_,_=>[]
 | s::l,t::ts=>match I6 s with
   | true=>XL l ts
   | false=>t::XL l ts
 | _,_=>[]
def D1 (pk:Bool)(ps:List PV):List PV:=match pk with
 | true=>match ps with
   | [.pg cs]=>cs
   | _=>[.any]
 | false=>ps
def Xy (P:Program)(f:FuncId)(rs:List Sh)(Q:QT rs)(N0:Option Nat)(st:St):Prop:=
 match P.funcs[f]? with
 | some fn=>pE N0 #[] [] (XL rs (fn.results.toList.map Ns)) (fn.results.toList.map Ns) st λst=>Vy P st fn.results.toList λps=>vz st rs Q [] (D1 (Dz rs) (zx P fn.resultTypes.toList ps))
 | none=>False
def MZ (tmps:Array Value)(r:ResultVar):Sem Value:=match r with
 | .tmp t=>pure (tmps.getD t undef)
 | .cell a t=>do loadVar t (<-asAddr (tmps.getD a undef))
theorem S9 (tmps:Array Value):(λ(r:ResultVar)=>match r with
 | .tmp t=>(pure (tmps.getD t undef):Sem Value)
 | .cell a t=>do loadVar t (<-asAddr (tmps.getD a undef)))=MZ tmps:=by funext r;cases r<;>rfl
theorem pW (h:Rel av w0 e0 [] [] a w e st):∀(l:List ResultVar) (K:List PV->Prop),Vy P st l K->∃ vs ps,K ps/\(l.mapM (MZ a.tmps)).run P w=.ok vs w/\vs.length=l.length/\ps.length=l.length /\
  ∀(i:Nat) (v:Value) (p:PV),vs[i]?=some v->ps[i]?=some p->ValOk av w e [] st.bx v p
 | [],K,U=>⟨[],[],U,by simp,rfl,rfl,by simp⟩
 | .tmp t::l,K,U=>by
   obtain⟨vs,ps,h1,h2,h3,h4,h5⟩:=pW h l _ U;have Y:ValOk av w e [] st.bx (a.eval (.tmp t)) (opd st.sl (.tmp t)):=(vC h (x:=.tmp t) (by simp)).valOk;refine⟨a.tmps.getD t undef::vs,st.sl.getD t .any::ps,h1,?_,by simp[h3],by simp[h4],λi v p I O=>?_⟩
   ·simp[MZ,h2]
   ·cases i with
    | zero=>simp only[lC,oh]at I O;subst I;subst O;exact Y
    | succ i=>exact h5 i v p (by simpa using I) (by simpa using O)
 | .cell c t::l,K,U=>by
   simp only [Vy] at U;have ho:∀ x∈(Op.load t (.tmp c)).operands,OpdOk av a w e [] st.bx x (opd st.sl x):=λx hx=>vC h (by simp);obtain ⟨v0, p0, J, g2, g3⟩ := Hw (o := ⟨none, .load t (.tmp c), t, "", #[], none⟩) h.toMem ho (λk B hk => ⟨hk, by simp⟩) U;obtain ⟨vs,ps,h1,h2,h3,h4,h5⟩:=pW h l _ g2
   have aa:(MZ a.tmps (.cell c t)).run P w=.ok v0 w:=by
    simp only[execOp]at J;have he:a.eval (.tmp c)=a.tmps.getD c undef:=rfl;rw[he]at J;simp only[MZ];cases Y:a.tmps.getD c undef with
    | pointer p=>
      cases p with
      | none=>rw[Y]at J;simp[Instr.loadAt,Instr.sureAddr]at J
      | some ad=>
        rw[Y]at J;simp[Instr.loadAt,Instr.sureAddr,asAddr]at J ⊢;generalize (loadVar t ad).run P w=r at J ⊢;cases r with
        | ok x w1=>simp at J ⊢;exact J
        | halt x w1=>simp at J
    | _=>rw[Y]at J;simp[Instr.loadAt,Instr.sureAddr]at J
   refine⟨v0::vs,p0::ps,h1,?_,by simp[h3],by simp[h4],λi v p I O=>?_⟩
   ·rw[List.mapM_cons];simp only[Sem.run_bind,aa,Result.andThen_ok,h2,Sem.run_pure]
   ·cases i with
    | zero=>simp only[lC,oh]at I O;subst I;subst O;exact g3
    | succ i=>exact h5 i v p (by simpa using I) (by simpa using O)
def XE (vs:List Value):Value:=match vs with
 | [v]=>v
 | vs=>.tuple vs.toArray
theorem Ab {fn:Func} {vs:List Value} {tmps:Array Value} (h:(fn.results.toList.mapM (MZ tmps)).run P w=.ok vs w) :
  (results fn tmps).run P w=.ok (XE vs) w:=by
 unfold results;have I:∀ F:ResultVar->Sem Value,F=MZ tmps->((do
   let vs <-fn.results.mapM F
   pure (if h:vs.size=1 then vs[0]else .tuple vs):Sem Value)).run P w=.ok (XE vs) w:=λF J=>by
  subst J;rw[Array.mapM_eq_mapM_toList];simp[h];rcases vs with _ | ⟨t,_ | ⟨u,ts⟩⟩<;>simp[XE]
 exact I _ (S9 tmps)
theorem Iu {e:Env}{p:PV}(h:p.isC):p.val e=p.cv e:=by
 cases p<;>first | rfl | exact h.elim | skip
 rename_i x;cases x<;>first | rfl | (simp[PV.isC,D.isCell]at h)
theorem H3 {e:Env}{p:PV}(h:p.isC):p.val1 e=p.cv e:=by
 have:=Iu (e:=e) h
 cases p<;>first | exact this | exact h.elim
theorem O4 (hD:Dfs.on=none) (h:Rel av w0 [] [] [] a w e st) {f:FuncId} {rs:List Sh} {Q:QT rs} {k:List Item} (hk:k=[]\/∃ k',k=.code .ret::k') {N0:Option Nat} (aw:NOk N0 w0) (hs:Xy P f rs Q N0 st):PK P f k (Fin rs Q av w0) a w:=by
 unfold Xy at hs;split at hs
 rotate_left
 ·exact hs.elim
 rename_i fn hf;obtain⟨ax,T,U,_,_,Y⟩:=vl h aw (by simp) hs;obtain⟨vs,ps,U,ah,ai,aj,ay⟩:=pW Y _ _ U;have O:∀(i:Nat) (p:PV),(zx P fn.resultTypes.toList ps)[i]?=some p->∃ v,vs[i]?=some v/\ValOk av w e [] ax.bx v p:=λi p J=>by
  obtain⟨q,hq,az⟩:=rD _ _ _ _ J;have I:i<vs.length:=by rw[ai,<-aj];exact(oD.1 hq).1
  have hv:=ay i _ q (oI I) hq;refine⟨_,oI I,?_⟩;rcases az with rfl | ⟨ty,rfl⟩
  ·exact hv
  ·exact hv.retag ty
 cases aa:Dz rs with
 | true =>
   rw[aa]at U
   have a6:∃ cs,zx P fn.resultTypes.toList ps=[.pg cs]:=by
    by_cases hc:∃ cs,zx P fn.resultTypes.toList ps=[.pg cs]
    ·exact hc
    ·exfalso;have J:D1 true (zx P fn.resultTypes.toList ps)=[.any]:=by
      simp only[D1];split
      ·rename_i cs ae;exact absurd ⟨cs,ae⟩ hc
      ·rfl
     rw[J]at U;cases rs with
     | nil=>simp[Dz]at aa
     | cons s l=>
       cases s<;>simp[Dz]at aa
       simp only[vz]at U;split at U
       ·rename_i hk;cases l with
        | nil=>exact U.elim
        | cons s l=>cases s<;>simp only[vz]at U<;>first | exact U.elim | (simp[Tv]at hk)
       ·exact U.elim
   obtain⟨cs,ae⟩:=a6;rw[ae]at U O;simp only[D1]at U;obtain⟨v,ak,ab⟩:=O 0 (.pg cs) rfl;have al:vs=[v]:=by
    have h5:vs.length=1:=by have h6:=oY List.length ae;rw[wD]at h6;rw[ai,<-aj,h6];rfl
    rcases vs with _ | ⟨u,_ | _⟩<;>simp at h5 ak
    subst ak;rfl
   have ao:=ab.2.1;simp only[PV.Ok]at ao;obtain⟨ac,aq⟩:=ao;rw[PV.OkL_iff]at ac;obtain⟨qs,s,g1,g2,g3,g4⟩:=zo Y rs Q [] _ 0 U (λp J=>.inl (ac p J));obtain⟨m1,m2,m3⟩:=RU Y g2;have a7:=QT.app_pk aa g1;refine I0 hD hk hf Y.nd (Ab ah) ⟨qs,s.rows,s.env e,g1,?_,m1,λq hq=>?_,m3,Y.size,λb hb=>Y.old b hb (by simp),λb c t z hb hc=>Y.fz b c t z (.inl hb) hc,Y.ku⟩
   ·rw[al,aa];simp only[XE,O5];rw[ab.1.resolve_left (by simp)];simp only[PV.val,PV.val1,PV.cvs_eq];congr 2;apply nJ;intro i;rw[oF,oF];cases hq:qs[i]? with
    | none=>rw[show cs[i]?=none from ob (by rw[<-g3];exact mH.1 hq)];rfl
    | some q=>
      have I:i<cs.length:=by rw[<-g3];exact(oD.1 hq).1
      have J:=oI I;rw[J];simp only[oZ,oh];have h5:=g4 [] rfl i _ q J hq;rw[<-Iu (aq _ (oB J)),h5.1,H3 (a7 q (oB hq))];rfl
   ·obtain⟨i,hi⟩:=oS.1 hq;have I:i<cs.length:=by rw[<-g3];exact(oD.1 hi).1
    have J:=oI I;exact PV.Ok.mono (λ_ _ _=>rfl) (oC _) (λb _=>m2 b) q ((g4 [] rfl i _ q J hi).2.1 (ac _ (oB J)))
 | false=>
 rw[aa]at U;simp only[D1]at U;obtain⟨qs,s,g1,g2,g3,g4⟩:=zo Y rs Q [] _ 0 U (λp J=>by obtain⟨i,hi⟩:=oS.1 J;obtain⟨t,_,hv⟩:=O i p hi;exact .inl hv.2.1);obtain⟨m1,m2,m3⟩:=RU Y g2;have au:qs.length=vs.length:=by rw[g3,wD,aj,ai]
 refine I0 hD hk hf Y.nd (Ab ah) ⟨qs,s.rows,s.env e,g1,?_,m1,λq hq=>?_,m3,Y.size,λb hb=>Y.old b hb (by simp),λb c t z hb hc=>Y.fz b c t z (.inl hb) hc,Y.ku⟩
 ·-- the values
  have hv:vs=qs.map (PV.val1 (s.env e)):=by
   apply nJ;intro i;rw[oF];cases hq:qs[i]? with
   | none=>have:vs[i]?=none:=ob (by rw[<-au];exact mH.1 hq);rw[this];rfl
   | some q=>
     have I:i<(zx P fn.resultTypes.toList ps).length:=by rw[<-g3];exact(oD.1 hq).1
     have J:=oI I;obtain⟨v,hv,ab⟩:=O i _ J;rw[hv];simp only[oZ,oh];have h5:=g4 [] rfl i _ q J hq;rw[ab.1.resolve_left h5.2.2.1,h5.1];rfl
  rw[hv,aa];simp only[O5];unfold RK;rcases qs with _ | ⟨q,_ | ⟨r,qs⟩⟩<;>rfl
 ·obtain⟨i,hi⟩:=oS.1 hq;have I:i<(zx P fn.resultTypes.toList ps).length:=by rw[<-g3];exact(oD.1 hi).1
  have J:=oI I;obtain⟨t,ht,ab⟩:=O i _ J;exact PV.Ok.mono (λ_ _ _=>rfl) (oC _) (λb _=>m2 b) q ((g4 [] rfl i _ q J hi).2.1 ab.2.1)
variable {av:Nat->Prop} {P:Program} {w0 w w':World} {e0 e:Env} {pS pS' pB pB':List Nat} {a:Act} {st st':St}
mutual
def vE:PV->PV->Bool
 | .any,.any=>true
 | .pb k z i o,.pb I z' i' J=>Nat.beq k I&&Nat.beq z z'&&Nat.beq i i'&&Nat.beq o J
 | .fn f l,.fn O l'=>Nat.beq f O&&C1 l l'
 | _,_=>false
def C1:List PV->List PV->Bool
 | [],[]=>true
 | p::ps,q::qs=>vE p q&&C1 ps qs
 | _,_=>false
end
mutual
theorem Ky:∀ {p q:PV},vE p q=true->p=q
 | .any,q,h=>by cases q<;>simp[vE]at h ⊢
 | .pb k z i o,q,h=>by
   cases q<;>simp[vE]at h
   obtain⟨⟨⟨I,J⟩,O⟩,U⟩:=h
   rw[I,J,O,U]
 | .fn f l,q,h=>by
   cases q<;>simp[vE]at h
   rw[h.1,H4 h.2]
 | .int ..,q,h=>by simp[vE]at h
 | .bool ..,q,h=>by simp[vE]at h
 | .str ..,q,h=>by simp[vE]at h
 | .lit ..,q,h=>by simp[vE]at h
 | .sv ..,q,h=>by simp[vE]at h
 | .d ..,q,h=>by simp[vE]at h
 | .dc ..,q,h=>by simp[vE]at h
 | .dg ..,q,h=>by simp[vE]at h
 | .pd ..,q,h=>by simp[vE]at h
 | .sb ..,q,h=>by simp[vE]at h
 | .pg ..,q,h=>by simp[vE]at h
 | .tp ..,q,h=>by simp[vE]at h
theorem H4:∀ {p q:List PV},C1 p q=true->p=q
 | [],q,h=>by cases q<;>simp[C1]at h ⊢
 | p :: ps,q,h=>by
   cases q with
   | nil=>simp[C1]at h
   | cons q qs=>
     simp[C1]at h
     rw[Ky h.1,H4 h.2]
end
def Xl (all:List Bx) (q p:PV) (K:Prop):Prop:=match Cm q with
 | some _=>match Cm p with
   | some _=>K
   | none=>False
 | none=>match q,p with
   | .sb k z lo _ _,.sb J z' I n c=>match Nat.beq k J&&Nat.beq z z'&&Nat.beq lo I with
     | true=>match all[k]? with
       | some (.arr _ _ es O)=>(n=es.length/\c=O)/\K
       | _=>False
     | false=>False
   | q,p=>match vE q p with
     | true=>K
     | false=>False
def U5 (all:List Bx):List PV->List PV->Prop->Prop
 | [],[],K=>K
 | q::qs,p::ps,K=>Xl all q p (U5 all qs ps K)
 | _,_,_=>False
def Wn (all:List Bx)(J B:Bx)(K:Prop):Prop:=match J,B with
 | .var I,.var cs=>U5 all I cs K
 | .vd _ n,.vd _ n'=>match Nat.beq n n' with
   | true=>K
   | false=>False
 | .arr t z _ _,.arr t' z' _ _=>match Nat.beq t t'&&Nat.beq z z' with
   | true=>K
   | false=>False
 | _,_=>False
def U6 (all:List Bx):List Bx->List Bx->Prop->Prop
 | [],[],K=>K
 | B0::b0,B::bs,K=>Wn all B0 B (U6 all b0 bs K)
 | _,_,_=>False
theorem Qg {all:List Bx} {q p:PV} {K:Prop} (h:Xl all q p K):K/\(((∃ s,Cm q=some s)/\∃ s,Cm p=some s)\/(Cm q=none/\Cm p=none /\
  ∀ I:List Bx,(∀(k:Nat) t z es c,all[k]?=some (.arr t z es c)->I[k]?=some (.arr t z es c))->WZ I q=p)):=by
 unfold Xl at h;split at h
 ·rename_i s hs;split at h
  ·rename_i s' O;exact⟨h,.inl ⟨⟨s,hs⟩,s',O⟩⟩
  ·exact h.elim
 ·rename_i hq;split at h
  ·rename_i k z lo n0 c0 k' z' aa n c;split at h
   ·rename_i hk;simp only[oK]at hk;obtain⟨⟨U,Y⟩,h3⟩:=hk;have U:=nI U;have Y:=nI Y;have h3:=nI h3;subst U;subst Y;subst h3;split at h
    ·rename_i t zz es c' ha;obtain⟨⟨rfl,rfl⟩,hK⟩:=h;refine⟨hK,.inr ⟨rfl,rfl,λI J=>?_⟩⟩;simp only[WZ,J _ _ _ _ _ ha]
    ·exact h.elim
   ·exact h.elim
  ·rename_i ab;split at h
   ·rename_i hs;have he:=Ky hs;subst he;refine⟨h,.inr ⟨hq,hq,λI _=>?_⟩⟩;cases q<;>first | rfl | simp[vE]at hs
   ·exact h.elim
theorem Cx {all:List Bx}:∀ {O cs:List PV} {K:Prop},U5 all O cs K->K/\∀ rest:List PV,(Mo O (Rw cs++rest)).2=rest /\
  ∀ I:List Bx,(∀(k:Nat) t z es c,all[k]?=some (.arr t z es c)->I[k]?=some (.arr t z es c))->(Mo O (Rw cs++rest)).1.map (WZ I)=cs
 | [],[],K,h=>⟨h,λrest=>⟨rfl,λ_ _=>rfl⟩⟩
 | [],_::_,K,h=>h.elim
 | _::_,[],K,h=>h.elim
 | q::qs,p::ps,K,h=>by
   obtain⟨h1,h2⟩:=Qg h;obtain⟨h3,h4⟩:=Cx h1;refine⟨h3,λrest=>?_⟩;obtain⟨h5,h6⟩:=h4 rest;rcases h2 with⟨⟨s,hs⟩,s',U⟩ | ⟨hq,hp,Y⟩
   ·simp only[Mo,hs,Rw,U,o3];refine⟨h5,λI J=>?_⟩;rw[nH,h6 I J];congr 1;cases p<;>simp[Cm]at U<;>rfl
   ·simp only[Mo,hq,Rw,hp];exact⟨h5,λI J=>by rw[nH,h6 I J,Y I J]⟩
theorem Kr {all:List Bx}:∀ {b0 bs:List Bx} {K:Prop},U6 all b0 bs K->K/\∀ rest:List PV,(∀(k:Nat) t z es c,bs[k]?=some (.arr t z es c)->(PA b0 (GV bs++rest))[k]?=some (.arr t z es c)) /\
  ∀ I:List Bx,(∀(k:Nat) t z es c,all[k]?=some (.arr t z es c)->I[k]?=some (.arr t z es c))->(PA b0 (GV bs++rest)).map (WY I)=bs
 | [],[],K,h=>⟨h,λrest=>⟨by simp,λ_ _=>rfl⟩⟩
 | [],_::_,K,h=>h.elim
 | _::_,[],K,h=>h.elim
 | B0 :: b0,B::bs,K,h=>by
   simp only[U6]at h;have key:∀(K':Prop),Wn all B0 B K'->K'/\∀ rest:List PV,(OE B0 (PJ B++rest)).2=rest/\(∀ t z es c,B=.arr t z es c->(OE B0 (PJ B++rest)).1=.arr t z es c) /\
     ∀ I:List Bx,(∀(k:Nat) t z es c,all[k]?=some (.arr t z es c)->I[k]?=some (.arr t z es c))->WY I (OE B0 (PJ B++rest)).1=B:=λK' h=>by
    unfold Wn at h;split at h
    ·rename_i aa cs;obtain⟨Y,U⟩:=Cx h;refine⟨Y,λrest=>⟨(U rest).1,λ_ _ _ _ hc=>(by cases hc),λI J=>?_⟩⟩;simp only[OE,WY,PJ,(U rest).2 I J]
    ·rename_i x n y n';split at h
     ·rename_i O;have O:=nI O;subst O;exact⟨h,λrest=>⟨rfl,λ_ _ _ _ hc=>(by cases hc),λ_ _=>rfl⟩⟩
     ·exact h.elim
    ·rename_i t z es0 c0 t' z' es c;split at h
     ·rename_i O;simp only[oK]at O;have Y:=nI O.1;have U:=nI O.2;subst Y;subst U;exact⟨h,λrest=>⟨rfl,λ_ _ _ _ hc=>(by cases hc;rfl),λ_ _=>rfl⟩⟩
     ·exact h.elim
    ·exact h.elim
   obtain⟨Y,U⟩:=key _ h;obtain⟨h3,h4⟩:=Kr Y;refine⟨h3,λrest=>?_⟩;have e1:GV (B::bs)++rest=PJ B++(GV bs++rest):=by simp[GV]
   rw[e1];obtain⟨h5,h6,h7⟩:=U (GV bs++rest);obtain⟨h8,h9⟩:=h4 rest;simp only[PA,h5];refine⟨λk t z es c hk=>?_,λI J=>by rw[nH,h7 I J,h9 I J]⟩;cases k with
   | zero=>simp at hk ⊢;exact h6 _ _ _ _ hk
   | succ k=>simp only[nj]at hk ⊢;exact h8 k _ _ _ _ hk
theorem Qh {all:List Bx}:∀ {b0 bs:List Bx}{K:Prop},U6 all b0 bs K->∀ B∈bs,B≠.gone
 | [],[],K,h=>by simp
 | [],_::_,K,h=>h.elim
 | _::_,[],K,h=>h.elim
 | B0::b0,B::bs,K,h=>by
   simp only[U6]at h;have key:∀ K',Wn all B0 B K'->B≠.gone/\K':=λK' h=>by
    unfold Wn at h;split at h
    ·exact⟨by simp,(Cx h).1⟩
    ·split at h
     ·exact⟨by simp,h⟩
     ·exact h.elim
    ·split at h
     ·exact⟨by simp,h⟩
     ·exact h.elim
    ·exact h.elim
   obtain⟨I,J⟩:=key _ h;intro C hC;rcases oL.1 hC with rfl | hC
   ·exact I
   ·exact Qh J C hC
theorem Ss {b0 bs:List Bx}{K:Prop}(h:U6 bs b0 bs K):K/\KC b0 (GV bs)=bs:=by obtain⟨O,U⟩:=Kr h;obtain⟨I,J⟩:=U [];rw[o7]at I J;exact⟨O,J _ I⟩
def we (E:Env):Nat->List Bx->List (Option Nat)
 | _,[]=>[]
 | k,B::bs=>(match B with
   | .var _=>some ((E.at k).getD 0)
   | .vd _ _=>some ((E.at k).getD 0)
   | _=>none)::we E (k+1) bs
theorem qn {E:Env}:∀(bs:List Bx)(k:Nat),(we E k bs).length=bs.length
 | [],k=>rfl
 | B::bs,k=>by simp[we,qn bs]
theorem Kx {E:Env}:∀(bs:List Bx)(k j:Nat)(B:Bx),bs[j]?=some B->B.isArr=false->(we E k bs)[j]?=some (some ((E.at (k+j)).getD 0))
 | B::bs,k,0,B',h,I=>by simp at h;subst h;cases B<;>simp[Bx.isArr]at I<;>simp[we]
 | B::bs,k,j+1,B',h,I=>by simp only[nj]at h;simp only[we,nj];rw[Kx bs (k+1) j B' h I,show k+1+j=k+(j+1) by omega]
def UO (p:Option (List (Option Nat) × List Nat))(E:Env)(bx0:List Bx):Prop:=p=some (we E 0 bx0,[])
def zZ (E:Env)(bx0:List Bx):Prop:=UO (some (we E 0 bx0,[])) E bx0
theorem yY {E:Env}{bx0:List Bx}:zZ E bx0:=rfl
def Vt:List Sh->Bool
 | []=>true
 | .pk::_=>false
 | _::l=>Vt l
def U9 (st:St)(m:Nat):List Nat:=(Bm st.bx 200 (List.range m) []).filter λk=>Wj st k&&Nat.ble m k
def Pc (full:List Sh)(ps:List PV):List PV:=match full with
 | .bk _::_=>[.int .i64 0]
 | _=>ps
def XW (st:St) (m:Nat) (full:List Sh) (ps:List PV) (K:Prop):Prop:=match full with
 | .bk j::_=>match ps with
   | [.sb k z lo n c]=>match st.bx[j]? with
     | some (.arr _ z' es I)=>match Nat.beq k j&&Nat.beq lo 0&&Nat.beq z z'&&Nat.blt j m with
       | true=>(n=es.length/\c=I)/\K
       | false=>False
     | _=>False
   | _=>False
 | _=>K
theorem Pb {m:Nat}{full:List Sh}{ps:List PV}{K:Prop}(h:XW st m full ps K):K/\(((∀ j l,full≠.bk j::l)/\Pc full ps=ps)\/∃ j l t z es c,full=.bk j::l/\ps=[.sb j z 0 es.length c]/\st.bx[j]?=some (.arr t z es c)/\j<m/\Pc full ps=[.int .i64 0]):=by
 unfold XW at h;split at h
 ·rename_i j l;split at h
  ·rename_i k z lo n c;split at h
   ·rename_i t z' es c' hj;split at h
    ·rename_i U;simp only[oK]at U;obtain⟨⟨⟨I,J⟩,O⟩,h4⟩:=U;have I:=nI I;have J:=nI J;have O:=nI O;subst I;subst J;subst O;obtain⟨⟨rfl,rfl⟩,hK⟩:=h;exact⟨hK,.inr ⟨_,_,_,_,_,_,rfl,rfl,hj,by simpa [Nat.blt_eq]using h4,rfl⟩⟩
    ·exact h.elim
   ·exact h.elim
  ·exact h.elim
 ·rename_i Y;refine⟨h,.inl ⟨λj l hc=>Y j l hc,?_⟩⟩;unfold Pc;split
  ·exact absurd rfl (Y _ _)
  ·rfl
def X4 (full:List Sh):List Sh:=match full with
 | .bk _::l=>.row 0 0::l
 | l=>l
def Pf:List Sh->List Sh
 | .pk::l=>l
 | l=>l
def Xr (pk:Bool)(ps:List PV):Bool:=match pk with
 | true=>match ps with
   | [.pg _]=>true
   | _=>false
 | false=>true
def Vz (P:Program)(f:FuncId)(full:List Sh)(Q:QT full)(N0:Option Nat)(E:Env)(bx0:List Bx)(st:St):Prop:=
 match P.funcs[f]? with
 | some fn=>pE N0 #[] [] (XL (X4 full) (fn.results.toList.map Ns)) (fn.results.toList.map Ns) st λst=>KZ N0 [] [] (U9 st bx0.length) st λst=>
  UO st.pin E bx0/\U6 (st.bx.take bx0.length) bx0 (st.bx.take bx0.length) (Vy P st fn.results.toList λps=>match Nat.beq fn.resultTypes.size fn.results.size&&(((Pf full).drop (Fe P f full bx0)).all λs=>!I6 s)&&(bx0.all λB=>B.refs.all λi=>decide (i<bx0.length))&&Vt (Pf full)&&(Xr (Dz full) (zx P fn.resultTypes.toList ps)&&Nat.beq (D1 (Dz full) (zx P fn.resultTypes.toList ps)).length (Fe P f full bx0))with
  | true=>XW st bx0.length full (D1 (Dz full) (zx P fn.resultTypes.toList ps)) (vz st full Q (List.range bx0.length) (Pc full (D1 (Dz full) (zx P fn.resultTypes.toList ps))++GV (st.bx.take bx0.length)))
  | false=>False)
 | none=>False
theorem J8:∀ {cs:List PV}{p:PV},p∈Rw cs->p∈cs/\Kc p=true/\p.refs=[]
 | q :: cs,p,h=>by
   simp only[Rw]at h;split at h
   ·rename_i s hs;rcases oL.1 h with rfl | h
    ·refine⟨by simp,?_⟩;cases p<;>simp[Cm]at hs<;>exact⟨rfl,rfl⟩
    ·obtain⟨I,J⟩:=J8 h;exact⟨by simp[I],J⟩
   ·obtain⟨I,J⟩:=J8 h;exact⟨by simp[I],J⟩
theorem VW {e ne:Env}{m:Nat}{B:Bx}(h:B.row):BPick e ne m B B:=by
 cases B with
 | arr t z es c=>exact⟨.inr (.inl ⟨rfl,by simp⟩)⟩
 | _ =>
   obtain⟨_,_,_,_,_,O⟩:=h;cases O<;>exact⟨.inr (.inr ⟨_,_,rfl,rfl,rfl,λi q I=>by
    have J:q.refs=[]:=by
     have:=oB I
     simp at this;rcases this with rfl | rfl | rfl<;>rfl
    exact .inr ⟨q,I,id,PV.cv_congr q (by simp[J]),λ_ _=>id,id,by simp[J]⟩⟩)⟩
theorem Qk {s:Sh}{l:List Sh}(h:Vt (s::l)=true):s≠.pk/\Vt l=true:=by cases s<;>simp[Vt]at h<;>exact⟨by simp,h⟩
theorem QT.app_plainrow:∀(l:List Sh)(Q:QT l)(b:Nat)(ps:List PV)(rows:List Bx)(N:Nat),Vt l=true->QT.app l Q b ps rows N->ps.length=l.length/\∀(i:Nat)(s:Sh)(p:PV),l[i]?=some s->I6 s=false->ps[i]?=some p->Xk p=false
 | [],Q,b,ps,rows,N,O,h=>by cases ps<;>cases rows<;>simp[QT.app]at h ⊢
 | s :: l,Q,b,ps,rows,N,O,h=>by
   obtain⟨hs,O⟩:=Qk O;cases ps with
   | nil=>cases s<;>first | exact absurd rfl hs | (simp[QT.app]at h;done)
   | cons p ps=>
     have key:(∃(U:QT l) (b':Nat) (I:List Bx),QT.app l U b' ps I N)/\(I6 s=false->Xk p=false):=by
      cases s<;>(try(exact absurd rfl hs))<;>cases p<;>(try(exact h.elim))<;>(try(simp[QT.app]at h;done))<;>first
       | exact⟨⟨_,_,_,h⟩,λ_=>rfl⟩
       | exact⟨⟨_,_,_,h⟩,λhc=>by cases hc⟩
       | exact⟨⟨_,_,_,h.2⟩,λ_=>rfl⟩
       | skip
      all_goals
       cases rows with
       | nil=>simp[QT.app]at h
       | cons B rows=>
         cases B<;>first
          | exact⟨⟨_,b+1,_,h.2⟩,λhc=>by cases hc⟩
          | (simp[QT.app]at h;done)
          | (obtain⟨_,_,_,_,_,_,_,h⟩:=h;exact⟨⟨_,_,_,h⟩,λhc=>by cases hc⟩)
     obtain⟨⟨U,b',I,h'⟩,hp⟩:=key;obtain⟨h1,h2⟩:=QT.app_plainrow l U b' ps I N O h';refine⟨by simp[h1],λi s' p' hs Y J=>?_⟩;cases i with
     | zero=>simp at hs J;subst hs;subst J;exact hp Y
     | succ i=>exact h2 i s' p' (by simpa using hs) Y (by simpa using J)
theorem QT.app_body {full:List Sh}{Q:QT full}{b:Nat}{ps:List PV}{rows:List Bx}{N:Nat}(h:QT.app full Q b ps rows N):∃ I:QT (Pf full),QT.app (Pf full) I b ps rows N:=by
 cases full with
 | nil=>exact⟨Q,h⟩
 | cons s l=>cases s<;>first | exact⟨Q,h⟩ | exact⟨Q,h.2⟩
theorem Qt {pk:Bool}{ps:List PV}(h:Xr pk ps=true):(pk=false/\D1 pk ps=ps)\/∃ cs,pk=true/\ps=[.pg cs]/\D1 pk ps=cs:=by
 cases pk with
 | false=>exact .inl ⟨rfl,rfl⟩
 | true=>
   unfold Xr at h;simp only at h;split at h
   ·exact .inr ⟨_,rfl,rfl,rfl⟩
   ·cases h
theorem Nr {E:Env} (h:Rel av w0 E [] [] a w e st) {f:FuncId} {full:List Sh} {Q:QT full} {N0:Option Nat} (hN0:NOk N0 w0) {bx0:List Bx} (hs:Vz P f full Q N0 E bx0 st):∃ fn v,P.funcs[f]?=some fn/\(results fn a.tmps).run P w=.ok v w/\V3 full Q (Fe P f full bx0) av w0 E bx0 (.returned v) w:=by
 unfold Vz at hs;split at hs
 rotate_left
 ·exact hs.elim
 rename_i fn hf;obtain⟨st0,T,h0,_,_,h1⟩:=vl h hN0 (by simp) hs;obtain⟨st1,h2,_,h3⟩:=qJ hN0 (by simp) (by simp) _ _ h1 (by simp) h0;obtain⟨hpin,h2⟩:=h2;unfold UO at hpin;have hgn:=Qh h2;obtain⟨h2,hupd⟩:=Ss h2;obtain⟨vs,ps,h2,hrun,hvl,hpl,hvp⟩:=pW h3 _ _ h2;split at h2
 rotate_left
 ·exact h2.elim
 rename_i hbool;simp only[oK,oc,nK,oe]at hbool;obtain⟨⟨⟨⟨hrt,hrow⟩,hclosed⟩,hnpk⟩,hpgk,hkn⟩:=hbool;have hkn:=nI hkn;have hrt:=nI hrt;obtain⟨h2,hbk⟩:=Pb h2;clear hs;generalize Fe P f full bx0=nn at hrow hkn ⊢;have hpins:st1.pins=we E 0 bx0:=by simp[St.pins,hpin]
 have hns:∀ p∈GV (st1.bx.take bx0.length),Kc p=true/\p.refs=[]:=fun p hp=>by
  simp only[GV,mG]at hp;obtain⟨B,_,hp⟩:=hp;cases B<;>simp only[PJ]at hp
  ·exact(J8 hp).2
  ·simp at hp;subst hp;exact⟨rfl,rfl⟩
  ·simp at hp;subst hp;exact⟨rfl,rfl⟩
  ·simp at hp
 obtain⟨ul,ug⟩:=JV bx0 (GV (st1.bx.take bx0.length)) fun p hp=>(hns p hp).2;rw[hupd]at ul ug;have hm:bx0.length<=st1.bx.length:=by rw[nL]at ul;omega
 have hgn:∀(k:Nat) (B:Bx),k<bx0.length->st1.bx[k]?=some B->B≠.gone:=fun k B hk hB=>hgn B (oB (i:=k) (by rw[oi];simp[hk,hB]));have htk:∀ j,j<bx0.length->(st1.bx.take bx0.length)[j]?=st1.bx[j]?:=fun j hj=>by rw[oi];simp[hj]
 have hrefs:∀(j:Nat) (B:Bx),j<bx0.length->st1.bx[j]?=some B->∀ i∈B.refs,i<bx0.length:=fun j B hj hB i hi=>by obtain⟨B1,g1,g2,_⟩:=ug j B (by rw[htk j hj];exact hB);exact hclosed B1 (oB g1) i (g2 i hi)
 have hres:∀(i:Nat) (p:PV),(zx P fn.resultTypes.toList ps)[i]?=some p->∃ v,vs[i]?=some v/\ValOk av w e [] st1.bx v p:=fun i p hp=>by
  obtain⟨q,hq,hqp⟩:=rD _ _ _ _ hp;have hlt:i<vs.length:=by rw[hvl,<-hpl];exact(oD.1 hq).1
  have hv:=hvp i _ q (oI hlt) hq;refine⟨_,oI hlt,?_⟩;rcases hqp with rfl | ⟨ty,rfl⟩
  ·exact hv
  ·exact hv.retag ty
 have hpk:=Qt hpgk;have hresK:∀ p∈D1 (Dz full) (zx P fn.resultTypes.toList ps),p.Ok w (zY av [] e st1.bx):=fun p hp=>by
  rcases hpk with⟨_,g⟩ | ⟨cs,_,g1,g⟩
  ·rw[g]at hp;obtain⟨i,hi⟩:=oS.1 hp;obtain⟨t,_,hv⟩:=hres i p hi;exact hv.2.1
  ·rw[g]at hp;obtain⟨v,_,hvo⟩:=hres 0 (.pg cs) (by rw[g1];rfl)
   have:=hvo.2.1
   simp only[PV.Ok]at this;exact PV.OkL_iff.1 this.1 p hp
 generalize D1 (Dz full) (zx P fn.resultTypes.toList ps)=psk at hkn hpk hresK h2 hbk ⊢;have hprOk:∀ p∈Pc full psk,p.Ok w (zY av [] e st1.bx):=fun p hp=>by
  rcases hbk with⟨_,g⟩ | ⟨j,l,t,z,es,c,_,_,_,_,g⟩
  ·rw[g]at hp;exact hresK p hp
  ·rw[g]at hp;rw[o5]at hp;subst hp;trivial
 obtain⟨qs,s,g1,g2,g3,g4⟩:=zo h3 full Q (List.range bx0.length) _ bx0.length h2 (fun p hp=>by
  rcases oM.1 hp with hp | hp
  ·exact .inl (hprOk p hp)
  ·exact .inr (hns p hp).1)
 have hn0:psk.length=nn:=hkn;have hr0:(zx P fn.resultTypes.toList ps).length=fn.resultTypes.size:=by rw[wD,hpl,hrt];simp
 have hn:(Pc full psk).length=nn:=by
  rcases hbk with⟨_,g⟩ | ⟨j,l,t,z,es,c,_,g2,_,_,g⟩
  ·rw[g];exact hn0
  ·rw[g,<-hn0,g2];rfl
 have hvn:vs.length=fn.resultTypes.size:=by rw[hvl,hrt];simp
 obtain⟨Q',g1'⟩:=QT.app_body g1;obtain⟨hql,hqrow⟩:=QT.app_plainrow _ _ _ _ _ _ hnpk g1';have hel:bx0.length<=e.length:=by rw[h3.el];exact hm
 have hEl:(e.take bx0.length).length=bx0.length:=by simp;omega
 have hqx:qs.drop nn=GV (st1.bx.take bx0.length):=by
  apply nJ;intro i;rw[nQ];cases hx:(GV (st1.bx.take bx0.length))[i]? with
  | none=>
    refine ob ?_;rw[g3,oH,hn]
    have:=mH.1 hx
    omega
  | some p=>
    have hlt:nn+i<qs.length:=by
     rw[g3,oH,hn]
     have:=(oD.1 hx).1
     omega
    have hq:=oI hlt;have hp:(Pc full psk++GV (st1.bx.take bx0.length))[nn+i]?=some p:=by rw[oT (by omega),hn];simpa using hx
    have ht:=(g4 _ hEl _ p _ hp hq).2.2.2 (hns p (oB hx)).1;have hlf:nn+i<(Pf full).length:=by rw[<-hql];exact hlt
    have hsb:=hqrow (nn+i) _ _ (oI hlf) (hrow _ (oB (i:=i) (by rw[nQ,oI hlf]))) hq;rcases ht with ht | ht
    ·rw[hq,ht]
    ·rw[hsb]at ht;cases ht
 have hqs:qs=qs.take nn++GV (st1.bx.take bx0.length):=by rw[<-hqx];exact(ni _ _).symm
 have hql1:(qs.take nn).length=nn:=by rw[nL,g3,oH,hn];omega
 have hne:((List.range bx0.length).map some++s.map (·.1)).map (fun u=>Option.bind u e.at)=e.take bx0.length++s.env e:=by
  rw[mr];congr 1
  ·apply nJ;intro i;by_cases hi:i<bx0.length
   ·rw[oi];have:i<e.length:=by omega
    simp[hi,Env.at,oA,this]
   ·rw[ob (by simp;omega),ob (by simp;omega)]
  ·simp[Sel.env]
 have hatk:∀ k,k<bx0.length->Env.at (e.take bx0.length++s.env e) k=e.at k:=fun k hk=>by rw[Env.at_app,if_pos (by rw[hEl];exact hk)];simp[Env.at,oA,oi,hk]
 have hus:∀(j:Nat) u,((List.range bx0.length).map some++s.map (·.1))[j]?=some u->(j<bx0.length/\u=some j)\/∃ x,s[j - bx0.length]?=some x/\bx0.length<=j/\u=x.1:=fun j u hj=>by
  by_cases hlt:j<bx0.length
  ·rw[oQ (by simpa using hlt)]at hj;simp[hlt]at hj;exact .inl ⟨hlt,hj.symm⟩
  ·rw[oT (by simp;omega)]at hj;simp only[nF,List.length_range,oF]at hj;cases hx:s[j - bx0.length]? with
   | none=>simp[hx]at hj
   | some x=>simp[hx]at hj;exact .inr ⟨x,rfl,by omega,hj.symm⟩
 have hnb:∀(j:Nat) (B:Bx),(st1.bx.take bx0.length++s.rows)[j]?=some B->(j<bx0.length/\st1.bx[j]?=some B)\/∃ x,s[j - bx0.length]?=some x/\bx0.length<=j/\B=x.2:=fun j B hj=>by
  by_cases hlt:j<bx0.length
  ·rw[oQ (by rw[ul];exact hlt),htk j hlt]at hj;exact .inl ⟨hlt,hj⟩
  ·rw[oT (by rw[ul];omega),ul]at hj;simp only[Sel.rows,oF]at hj;cases hx:s[j - bx0.length]? with
   | none=>simp[hx]at hj
   | some x=>simp[hx]at hj;exact .inr ⟨x,rfl,by omega,hj.symm⟩
 have hsel:∀(i:Nat) x k,s[i]?=some x->x.1=some k->bx0.length<=k/\∃ B,st1.bx[k]?=some B/\B≠.gone:=fun i x k hx hk=>by
  refine⟨?_,?_⟩
  ·have:=g2.un k (nf.2 ⟨x,oB hx,hk⟩)
   simpa using this
  ·rcases g2.at_ x (oB hx)with⟨h5,_⟩ | ⟨k2,h5,h6,h7⟩
   ·rw[h5]at hk;cases hk
   ·rw[hk]at h5;cases h5;exact⟨x.2,h6,h7.sp.1⟩
 obtain ⟨m1,m2,m3⟩:=NR (us:=(List.range bx0.length).map some++s.map (·.1)) (nb:=st1.bx.take bx0.length++s.rows) (av':=av) h3.toMem (fun b hb=>.inl hb) (by simp[Sel.rows,ul])
  (fun i j k hi hj=>by
   rcases hus i _ hi with⟨a1,a2⟩ | ⟨x,a1,a2,a3⟩<;>rcases hus j _ hj with⟨b1,b2⟩ | ⟨y,b1,b2,b3⟩
   ·cases a2;cases b2;rfl
   ·cases a2;have:=(hsel _ y _ b1 b3.symm).1;omega
   ·cases b2;have:=(hsel _ x _ a1 a3.symm).1;omega
   ·have key:∀(s:Sel) (i j:Nat) (x y:Option Nat × Bx),(s.filterMap (·.1)).Nodup->s[i]?=some x->s[j]?=some y->x.1=some k->y.1=some k->i=j:=by
     intro s
     induction s with
     | nil=>intro i j x y _ hx;simp at hx
     | cons u s ih=>
       intro i j x y hn hx hy hxk hyk;have hn':(s.filterMap (·.1)).Nodup:=by
        cases hu:u.1 with
        | none=>simpa [hu]using hn
        | some m=>simp only[mC,hu]at hn;exact(nw.1 hn).2
       have hnm:u.1=some k->k∉s.filterMap (·.1):=fun hu=>by simp only[mC,hu]at hn;exact(nw.1 hn).1
       cases i with
       | zero=>
         simp at hx;subst hx;cases j with
         | zero=>rfl
         | succ j=>simp at hy;exact absurd (nf.2 ⟨y,oB hy,hyk⟩) (hnm hxk)
       | succ i=>
         simp at hx;cases j with
         | zero=>simp at hy;subst hy;exact absurd (nf.2 ⟨x,oB hx,hxk⟩) (hnm hyk)
         | succ j=>simp at hy;rw[ih i j x y hn' hx hy hxk hyk]
    have:=key s _ _ x y g2.nd a1 b1 a3.symm b3.symm
    omega)
  (fun j B hj=>by
   rcases hnb j B hj with⟨a1,a2⟩ | ⟨x,a1,a2,rfl⟩
   ·refine .inr ⟨j,B,?_,by simp,a2,⟨?_⟩⟩
    ·rw[oQ (by simpa using a1)];simp[a1]
    ·rw [hne];cases B with
     | var cs=>
       refine .inr (.inr ⟨cs,cs,rfl,rfl,rfl,fun i q hq=>.inr ⟨q,hq,id,?_,fun _ _=>id,id,fun r hr=>?_⟩⟩)
       ·have hr:∀ r∈q.refs,r<bx0.length:=fun r hr=>hrefs j _ a1 a2 r (by simp only[Bx.refs];exact PV.refsL_mem.2 ⟨q,oB hq,hr⟩);exact(PV.cv_congr q fun r hr2=>hatk r (hr r hr2)).symm
       ·have:=hrefs j _ a1 a2 r (by simp only[Bx.refs];exact PV.refsL_mem.2 ⟨q,oB hq,hr⟩)
        simp;omega
     | _=>exact .inr (.inl ⟨rfl,by simp⟩)
   ·have hjs:((List.range bx0.length).map some++s.map (·.1))[j]?=some x.1:=by rw[oT (by simp;omega)];simp[a1]
    rcases g2.at_ x (oB a1)with⟨h5,t,z,h6⟩ | ⟨k2,h5,h6,h7⟩
    ·exact .inl ⟨by rw[hjs,h5],t,z,h6⟩
    ·exact .inr ⟨k2,x.2,by rw[hjs,h5],by simp,h6,VW h7⟩)
 rw[hne]at m1 m2 m3;have hng:∀ k b,k<bx0.length->e.at k=some b->Lives [] e st1.bx k b:=fun k b hk hb=>by
  obtain⟨B,hB⟩:∃ B,st1.bx[k]?=some B:=⟨_,oI (by omega)⟩
  exact⟨by simp,hb,B,hB,hgn k B hk hB⟩
 refine⟨fn,_,hf,Ab hrun,qs.take nn,GV (st1.bx.take bx0.length),s.rows,e.take bx0.length++s.env e,?_,{
  q:=by rw[<-hqs];exact g1
  v:=?_
  m:=by rw[hupd];exact m1
  ok:=fun q hq=>?_
  fix:=fun k B hB ha=>?_
  fresh:=fun k b hb=>?_
  size:=h3.size
  old:=h3.old
  fz:=h3.fz
  ku:=h3.ku
  ns:=fun p hp=>(hns p hp).2
  be:=OI h3.toMem rfl fun B hB=>ol hB }⟩
 ·exact hql1
 ·rcases hbk with⟨gn,gp⟩ | ⟨j,l,t,z,es,c,gf,gps,gj,gm,gp⟩
  ·rw[Fr gn];rw[gp]at g4 g3;rcases hpk with⟨gk,hpk⟩ | ⟨cs,gk,hcs,hpk⟩
   rotate_left
   ·have hqC:=QT.app_pk gk g1;obtain⟨v,hv0,hvo⟩:=hres 0 (.pg cs) (by rw[hcs];rfl);have hvs:vs=[v]:=by
     have h5:vs.length=1:=by rw[hvn,<-hr0,hcs];rfl
     rcases vs with _ | ⟨u,_ | _⟩<;>simp at h5 hv0
     subst hv0;rfl
    have hok:=hvo.2.1;simp only[PV.Ok]at hok;rw[hvs,gk];simp only[XE,O5];rw[hvo.1.resolve_left (by simp)];simp only[PV.val,PV.val1,PV.cvs_eq];congr 2;apply nJ;intro i;rw[oF,oF];have hcl:cs.length=nn:=by rw[<-hkn,hpk]
    by_cases hi:i<nn
    ·have hlt:i<(qs.take nn).length:=by omega
     have hq:=oI hlt;have hq2:qs[i]?=some (qs.take nn)[i]:=by rw[<-hq,oi];simp[hi]
     obtain⟨x,hp⟩:∃ x,cs[i]?=some x:=⟨_,oI (by omega)⟩
     have hp2:(psk++GV (st1.bx.take bx0.length))[i]?=some x:=by rw[oQ (by omega),hpk];exact hp
     have h5:=g4 _ hEl i _ _ hp2 hq2;rw[hq,hp];simp only[oZ,oh];rw[<-Iu (hok.2 _ (oB hp)),h5.1,H3 (hqC _ (oB hq2))]
    ·rw[ob (by omega),ob (by omega)];rfl
   have hfn:fn.resultTypes.size=nn:=by rw[<-hr0,<-hpk,<-hkn]
   rw[gk];have hv:vs=(qs.take nn).map (PV.val1 (e.take bx0.length++s.env e)):=by
    apply nJ;intro i;rw[oF];by_cases hi:i<nn
    ·have hlt:i<(qs.take nn).length:=by omega
     have hq:=oI hlt;have hq2:qs[i]?=some (qs.take nn)[i]:=by rw[<-hq,oi];simp[hi]
     have hp:psk[i]?=some psk[i]:=oI (by omega);obtain⟨v,hv,hvo⟩:=hres i _ (by rw[<-hpk];exact hp);have hp2:(psk++GV (st1.bx.take bx0.length))[i]?=some psk[i]:=by rw[oQ (by omega)];exact hp
     have h5:=g4 _ hEl i _ _ hp2 hq2;rw[hv,hq,hvo.1.resolve_left h5.2.2.1,h5.1];rfl
    ·rw[ob (by omega),ob (by omega)];rfl
   rw[hv];simp only[O5];unfold RK;rcases qs.take nn with _ | ⟨q,_ | ⟨r,qs⟩⟩<;>rfl
  ·rcases hpk with⟨gk,hpk⟩ | ⟨cs,gk,_,_⟩
   rotate_left
   ·rw[gf]at gk;cases gk
   have h1:psk[0]?=some (.sb j z 0 es.length c):=by rw[gps];rfl
   obtain⟨v,hv,hvo⟩:=hres 0 _ (by rw[<-hpk];exact h1);have hlen:vs.length=1:=by rw[hvn,<-hr0,<-hpk,gps];rfl
   have hvs:vs=[v]:=by
    match vs,hlen with
    | [v'],_=>simp at hv;rw[hv]
   have hUj:(KC bx0 (GV (st1.bx.take bx0.length)))[j]?=some (.arr t z es c):=by rw[hupd,htk j gm];exact gj
   rw[hvs,gf];simp only[RL,hUj,PV.cv,hatk j gm]
   have:=hvo.1.resolve_left (by simp)
   rw[this];rfl
 ·rw[hupd];obtain⟨i,hi⟩:=oS.1 hq;have hlt:=(oD.1 hi).1;rw[hql1]at hlt;have hq2:qs[i]?=some q:=by rw[<-hi,oi];simp[hlt]
  have hp:(Pc full psk)[i]?=some (Pc full psk)[i]:=oI (by omega);have hvo:=hprOk _ (oB hp);have hp2:(Pc full psk++GV (st1.bx.take bx0.length))[i]?=some (Pc full psk)[i]:=by rw[oQ (by omega)];exact hp
  exact PV.Ok.mono (fun _ _ _=>rfl) (oC _) (fun b _=>m2 b) q ((g4 _ hEl i _ _ hp2 hq2).2.1 hvo)
 ·have hkl:=(oD.1 hB).1;have h5:=Kx (E:=E) bx0 0 k B hB ha;rw[<-hpins,nG]at h5;rw[hatk k hkl];exact(h3.pin k _ h5).1
 ·by_cases hkl:k<bx0.length
  ·rw[hatk k hkl]at hb;rcases h3.own k b (hng k b hkl hb)with h5 | ⟨h5,_⟩
   ·exact .inl h5
   ·exact .inr ⟨hkl,h5⟩
  ·rw [Env.at_app,if_neg (by omega),hEl]at hb;cases hx:s[k - bx0.length]? with
   | none=>simp[Sel.env,Env.at,oA,hx]at hb
   | some x=>
     simp only[Sel.env,Env.at,oA,oF,hx,oZ,nB]at hb;cases hxk:x.1 with
     | none=>rw[hxk]at hb;cases hb
     | some k2=>
       rw[hxk]at hb;obtain⟨h5,B,h6,h7⟩:=hsel _ x k2 hx hxk;rcases h3.own k2 b ⟨by simp,hb,B,h6,h7⟩with h8 | ⟨_,h8⟩
       ·exact .inl h8
       ·rw[hpins,qn]at h8;omega
theorem O3 (J:Dfs.on=none){E:Env}(h:Rel av w0 E [] [] a w e st){f:FuncId}{full:List Sh}{Q:QT full}{k:List Item}(O:k=[]\/∃ U,k=.code .ret::U){N0:Option Nat}(I:NOk N0 w0){bx0:List Bx}(hs:Vz P f full Q N0 E bx0 st):PK P f k (V3 full Q (Fe P f full bx0) av w0 E bx0) a w:=by obtain⟨fn,v,Y,hr,hR⟩:=Nr h I hs;exact I0 J O Y h.nd hr hR
variable {av:Nat->Prop} {P:Program} {w0 w w':World} {e0 e:Env} {pS pS' pB pB':List Nat} {a:Act} {st st':St}
structure Hint where
 cuts:List Cut:=[]
 joins:List Cut:=[]
 ords:List (Nat × List Ent):=[]
def eh (i:Nat):Ent:={ i:=i,hard:=true }
def en (i:Nat):Ent:={ i:=i }
def ec (i:Nat)(cl:List Nat):Ent:={ i:=i,hard:=true,cl:=cl }
def em (i:Nat)(I:Option Nat)(keep:List Nat)(same:Option Nat:=none):Ent:={ i:=i,hard:=true,mh:=some { place:=I,keep:=keep,same:=same } }
def WV (i:Nat):List Ent->Ent
 | []=>eh i
 | e::l=>match Nat.beq e.i i with
   | true=>e
   | false=>WV i l
def YI (l:List Ent)(n:Nat):Nat->List Ent
 | 0=>[]
 | k+1=>WV (n - (k+1)) l::YI l n k
def hs (n:Nat)(l:List Ent):List Ent:=YI l n n
def hc (id:Nat)(keep:List Nat)(nils:List (Nat × TypeId × Nat):=[])(bnils:List (Nat × Nat × TypeId × Nat):=[]):Cut:={ id:=id,keep:=keep,nils:=nils,bnils:=bnils }
def an:Nat->List PV->List PV
 | 0,l=>l
 | n+1,l=>.any::an n l
def Cs:Code->Option Nat
 | .region id _ _=>some id
 | .seq a b=>match Cs a with
   | some i=>some i
   | none=>Cs b
 | .block _ c=>Cs c
 | .loop c=>Cs c
 | _=>none
def MC:List Cut->Nat->Option Cut
 | [],_=>none
 | c::l,id=>match Nat.beq c.id id with
   | true=>some c
   | false=>MC l id
def QG:List (Nat × List Ent)->Nat->Option (List Ent)
 | [],_=>none
 | (i,o)::l,id=>match Nat.beq i id with
   | true=>some o
   | false=>QG l id
def S4 (n:Nat):List Ent:=(List.range n).map λi=>{ i:=i,hard:=true }
def S0 (H:Hint)(id:Nat)(ops:Array Oper):List Ent:=match QG H.ords id with
 | some o=>o
 | none=>S4 ops.size
def Wl (first:Bool)(H:Hint)(id:Nat):Option Cut:=match first with
 | true=>none
 | false=>MC H.joins id
def XH (N0:Option Nat)(H:Hint)(c:Code)(st:St)(K:St->Prop):Prop:=match Cs c with
 | some id=>match MC H.cuts id with
   | some cut=>Xe N0 cut st λst=>FO st K
   | none=>False
 | none=>False
def X3 (st:St)(c:Operand)(v:Bool):St:=match c with
 | .tmp t=>st.put (some t) (.bool v)
 | _=>st
def WS (st:St)(c:Operand)(A B:St->Prop):Prop:=match opd st.sl c with
 | .bool v=>Br v (A (X3 st c true)) (B (X3 st c false))
 | _=>False
inductive Mode where
 | ord
 | io (E:Env) (bx0:List Bx)
 | df (E:Env) (K:St->Prop)
def Mode.env0:Mode->Env
 | .ord=>[]
 | .io E _=>E
 | .df E _=>E
def Mode.n0:Mode->Nat->Option Nat
 | .ord,N=>some N
 | .io ..,N=>some N
 | .df ..,N=>some N
def Mode.fin (M:Mode)(P:Program)(f:FuncId)(rs:List Sh)(Q:QT rs)(av:Nat->Prop)(w0:World):Ending->World->Prop:=match M with
 | .ord=>Fin rs Q av w0
 | .io E bx0=>V3 rs Q (Fe P f rs bx0) av w0 E bx0
 | .df E K=>λen w=>∃ a e st,en=.returned (.tuple a.tmps)/\K st/\Rel av w0 E [] [] a w e st
def XK (P:Program)(f:FuncId)(rs:List Sh)(Q:QT rs)(N0:Nat)(M:Mode)(st:St):Prop:=match Dfs.on with
 | none=>match M with
   | .ord=>Xy P f rs Q (some N0) st
   | .io E bx0=>Vz P f rs Q (some N0) E bx0 st
   | .df ..=>False
 | some _=>match M with
   | .df _ K=>K st
   | _=>False
def dfS (st:St):Option (St × Nat):=match st.bx with
 | .var [.str s,.int .i64 n]::.var [.pb 0 0 0 0]::bs=>match st.pin with
   | some ([x,some b],[])=>some ({ st with bx:=.var [.str s,.int .i64 (IntKind.i64.wrap (n - 1))]::.var [.pb 0 0 0 0]::bs,pin:=some ([x],[]) },b)
   | _=>none
 | _=>none
def dfK (P:Program)(f:FuncId)(full:List Sh)(Q:QT full)(N0:Nat)(E:Env)(bx0:List Bx)(b1:Nat)(st:St):Prop:=match dfS st with
 | some (s,b)=>b=b1/\Vz P f full Q (some N0) E bx0 s
 | none=>False
structure AT (P:Program) (f:FuncId) (rs:List Sh) (Q:QT rs) (N0:Nat) (M:Mode) (k:List Item) (st:St):Prop where
 h:∀(av:Nat->Prop) (w0:World) (a:Act) (w:World) (e:Env),w0.heap.size=N0->Rel av w0 M.env0 [] [] a w e st->PK P f k (M.fin P f rs Q av w0) a w
def W (P : Program) (sh:FuncId->List Sh) (f:FuncId) (rs:List Sh) (Q:QT rs) (N0:Nat) (M:Mode) (H:Hint):Nat->Bool->List Item->St->Prop
 | 0,_,_,_=>False
 | n + 1,first,J,st=>match J with
   | []=>XK P f rs Q N0 M st
   | .inBlock _::k=>W P sh f rs Q N0 M H n first k st
   | .inLoop c::k=>XH (M.n0 N0) H c st λst=>AT P f rs Q N0 M (.code c::.inLoop c::k) st
   | .code c::k=>match c with
     | .skip=>W P sh f rs Q N0 M H n first k st
     | .label _=>W P sh f rs Q N0 M H n first k st
     | .ret=>XK P f rs Q N0 M st
     | .seq x y=>W P sh f rs Q N0 M H n first (.code x::.code y::k) st
     | .cond c x y=>WS st c (λst=>W P sh f rs Q N0 M H n false (.code x::k) st) (λst=>W P sh f rs Q N0 M H n false (.code y::k) st)
     | .block id c=>W P sh f rs Q N0 M H n first (.code c::.inBlock id::k) st
     | .loop c=>XH (M.n0 N0) H c st λst=>AT P f rs Q N0 M (.code c::.inLoop c::k) st
     | .exit id=>match exitTo id k with
       | some O=>W P sh f rs Q N0 M H n false O st
       | none=>False
     | .region id ops I=>match Wl first H id with
       | some cut=>Xe (M.n0 N0) cut st λst=>FO st λst=>AT P f rs Q N0 M (.code (.region id ops I)::k) st
       | none=>match I with
         | true=>match chk ops (S0 H id ops)with
           | true=>Nl P sh (M.n0 N0) ops (S0 H id ops) [] st λst=>FO st λst=>W P sh f rs Q N0 M H n false k st
           | false=>False
         | false=>match MG ops.size (S0 H id ops)with
           | true=>Nl P sh (M.n0 N0) ops (S0 H id ops) [] st λst=>FO st λst=>W P sh f rs Q N0 M H n false k st
           | false=>False
     | _=>False
   | _=>False
theorem nok (M:Mode)(w0:World):NOk (M.n0 w0.heap.size) w0:=λn I=>by
 cases M with
 | ord=>cases I;rfl
 | io=>cases I;rfl
 | df=>cases I;rfl
theorem Hi (h:Rel av w0 e0 [] [] a w e st){N0:Option Nat}(I:NOk N0 w0){H:Hint}{c:Code}{K:St->Prop}(hs:XH N0 H c st K):∃ e' st',K st'/\Rel av w0 e0 [] [] a w e' st':=by
 unfold XH at hs;split at hs
 ·split at hs
  ·obtain⟨e',st',J,O⟩:=Hj h I hs;rw[pI]at J;exact⟨e',st',J,O⟩
  ·exact hs.elim
 ·exact hs.elim
theorem K6 {c:Operand}{v:Bool}(h:opd st.sl c=.bool v):X3 st c v=st:=by
 cases c with
 | tmp t=>
   simp only[opd,oA]at h;cases I:st.sl[t]? with
   | none=>rw[I]at h;cases h
   | some p=>rw[I]at h;simp at h;subst h;exact JF I
 | _=>rfl
theorem H6 {rs:List Sh}{Q:QT rs}{M:Mode}{f:FuncId}{k:List Item}(h:Rel av w0 M.env0 [] [] a w e st)(J:k=[]\/∃ O,k=.code .ret::O)(hs:XK P f rs Q w0.heap.size M st):PK P f k (M.fin P f rs Q av w0) a w:=by
 unfold XK at hs;cases I:Dfs.on with
 | some ds=>
   rw[I]at hs;cases M with
   | df E K=>
     have hd:a.defers=ds:=by rw[h.nd,I];rfl
     intro cs;rcases J with rfl | ⟨O,rfl⟩
     ·exact⟨.returned (.tuple a.tmps),w,_,⟨a,e,st,rfl,hs,h⟩,.one step_end,rfl,by unfold V4;rw[I];exact⟨rfl,rfl,hd,rfl⟩⟩
     ·exact⟨.returned (.tuple a.tmps),w,_,⟨a,e,st,rfl,hs,h⟩,.one step_ret,rfl,by unfold V4;rw[I];exact⟨rfl,rfl,hd,rfl⟩⟩
   | _=>exact hs.elim
 | none=>
 rw[I]at hs;cases M with
 | ord=>exact O4 I h J (nok .ord w0) hs
 | io E bx0=>exact O3 I h J (nok .ord w0) hs
 | df=>exact hs.elim
theorem Ln {sh:FuncId->List Sh} {f:FuncId} {rs:List Sh} {Q:QT rs} {N0:Nat} {M:Mode} {H:Hint} (hm:P.follows .mixedOrders=true) :
  ∀(n:Nat) (first:Bool) (I:List Item) (st:St),W P sh f rs Q N0 M H n first I st->AT P f rs Q N0 M I st:=by
 intro n
 induction n with
 | zero=>intro first I st h;exact h.elim
 | succ n J=>
   intro first I st hs
   refine⟨λav w0 a w e hN h=>?_⟩;subst hN;cases I with
   | nil=>exact H6 h (.inl rfl) hs
   | cons it k=>
     cases it with
     | inBlock id=>exact xN (λcs=>step_inBlock) ((J _ _ _ hs).h av w0 a w e rfl h)
     | inLoop c=>obtain⟨e',st',U,Y⟩:=Hi h (nok M w0) hs;exact xN (λcs=>step_inLoop) (U.h av w0 a w e' rfl Y)
     | code c=>
       cases c with
       | skip=>exact xN (λcs=>step_skip) ((J _ _ _ hs).h av w0 a w e rfl h)
       | label l=>exact xN (λcs=>step_label) ((J _ _ _ hs).h av w0 a w e rfl h)
       | ret=>exact H6 h (.inr ⟨_,rfl⟩) hs
       | seq x y=>exact xN (λcs=>step_seq) ((J _ _ _ hs).h av w0 a w e rfl h)
       | block id c=>exact xN (λcs=>step_block) ((J _ _ _ hs).h av w0 a w e rfl h)
       | loop c=>obtain⟨e',st',U,Y⟩:=Hi h (nok M w0) hs;exact xN (λcs=>step_loop) (U.h av w0 a w e' rfl Y)
       | cond c x y=>
         simp only[W,WS]at hs;split at hs
         ·rename_i v hv;have aa:a.eval c=.bool v:=by
           have:=(vC h (x:=c) (by simp)).h.resolve_left (by rw[hv];simp)
           rw[this,hv];rfl
          rcases hs.spec with⟨rfl,hs⟩ | ⟨rfl,hs⟩
          ·rw[K6 hv]at hs;exact xN (λcs=>step_cond aa) ((J _ _ _ hs).h av w0 a w e rfl h)
          ·rw[K6 hv]at hs;exact xN (λcs=>step_cond aa) ((J _ _ _ hs).h av w0 a w e rfl h)
         ·exact hs.elim
       | exit id=>
         simp only[W]at hs;split at hs
         ·rename_i k' hk;exact xN (λcs=>step_exit hk) ((J _ _ _ hs).h av w0 a w e rfl h)
         ·exact hs.elim
       | region id ops ab=>
         simp only[W]at hs;split at hs
         ·obtain⟨e',st',U,Y⟩:=Hj h (nok M w0) hs;rw[pI]at U;exact U.h av w0 a w e' rfl Y
         ·have key:∀ a w e st,FO st (λst=>W P sh f rs Q w0.heap.size M H n false k st)->Rel av w0 M.env0 [] [] a w e st->Exit.normal=.normal/\PK P f k (M.fin P f rs Q av w0) a w:=λa w e st hf hr=>by rw[pI]at hf;exact⟨rfl,(J _ _ _ hf).h av w0 a w e rfl hr⟩
          split at hs
          ·split at hs
           ·rename_i O;exact FK (O1 (nok M w0) hm O h hs key)
           ·exact hs.elim
          ·split at hs
           ·rename_i O;exact FK (O2 (nok M w0) O h hs key)
           ·exact hs.elim
       | _=>exact hs.elim
     | _=>exact hs.elim
def tV (id:Nat):Code->List Item->Option (List Item)
 | .seq x y,k=>match tV id x (.code y::k)with
   | some r=>some r
   | none=>tV id y k
 | .cond _ x y,k=>match tV id x k with
   | some r=>some r
   | none=>tV id y k
 | .block i c,k=>tV id c (.inBlock i::k)
 | .loop c,k=>match Cs c with
   | some j=>match Nat.beq j id with
     | true=>some (.code c::.inLoop c::k)
     | false=>tV id c (.inLoop c::k)
   | none=>tV id c (.inLoop c::k)
 | _,_=>none
def sx (id:Nat):Code->List Item->Option (List Item)
 | .seq x y,k=>match sx id x (.code y::k)with
   | some r=>some r
   | none=>sx id y k
 | .cond _ x y,k=>match sx id x k with
   | some r=>some r
   | none=>sx id y k
 | .block i c,k=>sx id c (.inBlock i::k)
 | .loop c,k=>sx id c (.inLoop c::k)
 | .region j ops I,k=>match Nat.beq j id with
   | true=>some (.code (.region j ops I)::k)
   | false=>none
 | _,_=>none
def Ti (P:Program)(f:FuncId):Code:=match P.funcs[f]? with
 | some fn=>match fn.body with
   | some c=>c
   | none=>.skip
 | none=>.skip
def zF (P:Program)(f:FuncId)(id:Nat):List Item:=match tV id (Ti P f) []with
 | some k=>k
 | none=>[]
def Hr (P:Program)(f:FuncId)(id:Nat):List Item:=match sx id (Ti P f) []with
 | some k=>k
 | none=>[]
end Go.Proofs.YtlaniepnglheoaaGreatDoor
namespace Go.Proofs.YtlaniepnglheoaaGreatDoor
open Go
instance instDfs:Dfs:=⟨none⟩
theorem He {P:Program} {w:World} {f:FuncId} {fn:Func} {c:Code} {args:Array Value} {R:Ending->World->Prop} (J:P.funcs[f]?=some fn) (O:fn.body=some c)
  (h:PK P f [.code c] R { tmps:=args++Array.replicate (fn.ntmps - args.size) undef,defers:=[] } w):Calls P f args w R:=by
 intro cs;have I:Frame.enter P f args .normal=(base f).at { tmps:=args++Array.replicate (fn.ntmps - args.size) undef,defers:=[] } [.code c]:=by simp[Frame.enter,Frame.at,J,O,base]
 rw[I];exact h cs
def Fk (n:Nat)(args:List PV):List PV:=args++List.replicate (n - args.length) .any
def NB (P:Program)(sh:FuncId->List Sh)(f:FuncId)(rs:List Sh)(Q:QT rs)(N:Nat)(H:Hint)(I:Nat)(args:List PV):Prop:=match P.funcs[f]? with
 | some fn=>match fn.body with
   | some c=>R9 N args (FO { sl:=Fk fn.ntmps args,bx:=[],N:=N } λst=>W P sh f rs Q N .ord H I true [.code c] st)
   | none=>False
 | none=>False
theorem Up {P:Program} {sh:FuncId->List Sh} {f:FuncId} {rs:List Sh} {Q:QT rs} {N:Nat} {H:Hint} {ae:Nat} {args:List PV} (hm:P.follows .mixedOrders=true) (hc:wL P f=true)
  (h:NB P sh f rs Q N H ae args):ACalls P f rs args N Q:=by
 refine⟨hc,λav w0 hN ai O=>?_⟩;subst hN;unfold NB at h;split at h
 rotate_left
 ·exact h.elim
 rename_i fn hf;split at h
 rotate_left
 ·exact h.elim
 rename_i c hb;have h:=vW (λp J=>by
  have ab:=(O p J).1;cases p<;>simp only[PV.Ok]at ab ⊢
  ·exact ab.1.lt
  ·exact ab.1.1.lt) h
 rw[pI]at h;have hw:=Ln hm _ _ _ _ h;refine He hf hb (hw.h av w0 _ w0 [] rfl ?_);have U:∀(i:Nat) (p:PV),(Fk fn.ntmps args)[i]?=some p->p=.any\/(p∈args/\args[i]?=some p):=λi p J=>by
  unfold Fk at J;by_cases hi:i<args.length
  ·rw[oQ hi]at J;exact .inr ⟨oB J,J⟩
  ·rw[oT (by omega)]at J;exact .inl (nV (oB J))
 have aa:∀ k b,¬Lives [] [] ([]:List Bx) k b:=λk b ⟨_,_,B,h3,_⟩=>by simp at h3
 have ac:∀ b,zY av [] [] ([]:List Bx) b->av b:=λb hb=>hb.elim id λ⟨k,I⟩=>absurd I (aa k b);exact {
  el:=rfl
  br:=λk B I _=>by simp at I
  bo:=λk B I _=>by simp at I
  bf:=λk B I _=>by simp at I
  inj:=λk j b I _=>absurd I (aa k b)
  ku:=.rfl
  size:=oC _
  old:=λ_ _ _=>rfl
  fz:=λb c t z hb hc=>by
   rcases hb with hb | hb
   ·have:=(oW.1 hc).1;omega
   ·exact absurd hb (by simp[Mode.env0])
  nd:=rfl
  sz:=by simp[Fk]
  hN:=oC _
  hs:=λi p J _=>by
   rcases U i p J with Y | ⟨Y,h2⟩
   ·exact .inl Y
   ·right;have ah:=(oD.1 h2).1;have:i<args.toArray.size:=by simpa using ah
    simp[Array.getElem?_append,ah];rw[(oD.1 h2).2]
  so:=λi p J _=>by
   rcases U i p J with Y | ⟨Y,h2⟩
   ·subst Y;trivial
   ·exact PV.Ok.mono (λ_ _ _=>rfl) (oC _) (λb _=>ac b) p (O p Y).1
  sr:=λi p J _ k I=>by
   rcases U i p J with Y | ⟨Y,h2⟩
   ·subst Y;simp[PV.refs]at I
   ·rw[(O p Y).2]at I;simp at I
  own:=λk b I=>absurd I (aa k b)
  avl:=ai
  avn:=λk b I=>absurd I (aa k b)
  pin:=λk b hb=>by simp[St.pins]at hb
  pit:=λb T hb=>by cases hb }
def bytes (l:List Nat):ByteArray:=⟨(l.map UInt8.ofNat).toArray⟩
def UC (f:Nat):List (Nat × List Sh)->List Sh
 | []=>[]
 | (g,s)::l=>match Nat.beq g f with
   | true=>s
   | false=>UC f l
theorem WW {P:Program} {sh:FuncId->List Sh} {f:FuncId} {rs:List Sh} {Q:QT rs} {N:Nat} {H:Hint} {I:Nat} {args:List PV} {F:Prop} (J:P.follows .mixedOrders=true) (hc:wL P f=true)
 (O:F=NB P sh f rs Q N H I args) (h:F):ACalls P f rs args N Q:=Up J hc (O ▸ h)
theorem Wc [Dfs] {P:Program} {sh:FuncId->List Sh} {f:FuncId} {rs:List Sh} {Q:QT rs} {N0:Nat} {M:Mode} {H:Hint} {J:Nat} {I:List Item} {st:St} {F:Prop} (U:P.follows .mixedOrders=true)
 (O:F=FO st λst=>W P sh f rs Q N0 M H J true I st) (h:F):AT P f rs Q N0 M I st:=Ln U J true I st (by rw[pI]at O;exact O ▸ h)
def noQ:QT []:=λ_=>False
theorem RY {av:Nat->Prop} {args:List PV} {bx:List Bx} {e e0:Env} {pin:Option (List (Option Nat) × List Nat)} {Y:Nat} {w0:World} (hm:Mem av [] w0 e bx) (U:∀ p∈args,p.Ok w0 (zY av [] e bx)/\∀ k∈p.refs,k<bx.length)
  (aa:Avl av w0 e0) (ab:∀ k b,Lives [] e bx k b->¬av b)
  (ac:∀ k b,Lives [] e bx k b->some b∈e0/\k<(St.pins ⟨Fk Y args,bx,w0.heap.size,pin⟩).length) (ai:∀(b:Nat) (c:Array Value) (t:TypeId) (z:Nat × Nat),some b∈e0->w0.heap[b]?=some (.cells c t z)->Fz z)
  (ae:∀ k b,(St.pins ⟨Fk Y args,bx,w0.heap.size,pin⟩)[k]?=some (some b)->e.at k=some b) (ah:∀ L T,pin=some (L,T)->∀ x∈T,some x∈e0) :
  Rel av w0 e0 [] [] { tmps:=(args.map (PV.val e)).toArray++Array.replicate (Y - (args.map (PV.val e)).toArray.size) undef,defers:=[] } w0 e { sl:=Fk Y args,bx:=bx,N:=w0.heap.size,pin:=pin }:=by
 have J:∀(i:Nat) (p:PV),(Fk Y args)[i]?=some p->p=.any\/(p∈args/\args[i]?=some p):=λi p I=>by
  unfold Fk at I;by_cases hi:i<args.length
  ·rw[oQ hi]at I;exact .inr ⟨oB I,I⟩
  ·rw[oT (by omega)]at I;exact .inl (nV (oB I))
 exact {
  toMem:=hm
  ku:=.rfl
  size:=oC _
  old:=λ_ _ _=>rfl
  fz:=λb c t z hb hc=>by
   rcases hb with hb | hb
   ·have:=(oW.1 hc).1;omega
   ·exact ai b c t z hb hc
  nd:=rfl
  sz:=by simp[Fk]
  hN:=oC _
  hs:=λi p I _=>by
   rcases J i p I with O | ⟨O,h2⟩
   ·exact .inl O
   ·right;have aj:=(oD.1 h2).1;simp[Array.getElem?_append,aj];rw[(oD.1 h2).2]
  so:=λi p I _=>by
   rcases J i p I with O | ⟨O,h2⟩
   ·subst O;trivial
   ·exact(U p O).1
  sr:=λi p I _ k hk=>by
   rcases J i p I with O | ⟨O,h2⟩
   ·subst O;simp[PV.refs]at hk
   ·exact⟨by simp,(U p O).2 k hk⟩
  own:=λk b hk=>.inr (ac k b hk)
  avl:=aa
  avn:=ab
  pin:=λk b hb=>⟨ae k b hb,by simp⟩
  pit:=ah }
def NA (P:Program)(sh:FuncId->List Sh)(f:FuncId)(full:List Sh)(Q:QT full)(N:Nat)(H:Hint)(I:Nat)(args:List PV)(bx:List Bx)(E:Env):Prop:=match P.funcs[f]? with
 | some fn=>match fn.body with
   | some c=>match bx.all λB=>!NK B with
     | true=>R9 N (args++GV bx) (FO { sl:=Fk fn.ntmps args,bx:=bx,N:=N,pin:=some (we E 0 (bx.map xW),[]) } λst=>W P sh f full Q N (.io E (bx.map xW)) H I true [.code c] st)
     | false=>False
   | none=>False
 | none=>False
theorem Pd (bx:List Bx)(E:Env):∀ n,we E n (bx.map xW)=we E n bx:=by
 induction bx with
 | nil=>intro n;rfl
 | cons B bs I=>intro n;cases B<;>simp[we,xW,I]
theorem H2 {E:Env}:∀(bs:List Bx)(k j b:Nat),(we E k bs)[j]?=some (some b)->b=(E.at (k+j)).getD 0/\∃ B,bs[j]?=some B/\((∃ cs,B=.var cs)\/∃ x n,B=.vd x n)
 | [],k,j,b,h=>by simp[we]at h
 | B::bs,k,0,b,h=>by
   cases B<;>simp[we]at h
   ·exact⟨by simp[h],_,rfl,.inl ⟨_,rfl⟩⟩
   ·exact⟨by simp[h],_,rfl,.inr ⟨_,_,rfl⟩⟩
 | B::bs,k,j+1,b,h=>by simp only[we,nj]at h;obtain⟨I,J⟩:=H2 bs (k+1) j b h;exact⟨by rw[I,show k+1+j=k+(j+1) by omega],by simpa using J⟩
theorem Ur {P:Program} {sh:FuncId->List Sh} {f:FuncId} {full:List Sh} {Q:QT full} {N:Nat} {H:Hint} {ae:Nat} {args:List PV} {bx:List Bx} (hm:P.follows .mixedOrders=true) (hc:wL P f=true)
  (O:∀ E,NA P sh f full Q N H ae args bx E):BCalls P f full args bx N Q:=by
 refine⟨hc,λav w0 E hN aj I ah ac=>?_⟩;subst hN;have O:=O E;unfold NA at O;split at O
 rotate_left
 ·exact O.elim
 rename_i fn hf;split at O
 rotate_left
 ·exact O.elim
 rename_i code hb;split at O
 rotate_left
 ·exact O.elim
 rename_i aa;simp only[oc,nK]at aa;have aa:∀ B∈bx,B≠.gone:=λB hB hc=>by have:=aa B hB;subst hc;simp[NK]at this
 have O:=vW (λp hp=>by
  have:Vr w0.heap.size p:=by
   rcases oM.1 hp with hp | hp
   ·exact PZ (ac p hp).1
   ·exact OI I rfl (λB hB=>hB) p hp
  cases p<;>first | exact this | trivial) O
 rw[pI]at O;have ak:=Ln hm _ _ _ _ O;refine He hf hb (ak.h av w0 _ w0 E rfl (RY I ac aj ah (λk b hk=>?_) (λb c t z ai hc=>?_) (λk b hk=>?_) (λL T h=>by cases h;simp)))
 ·obtain⟨_,J,B,h2,_⟩:=hk;refine⟨?_,by simp only[St.pins,qn,nF];exact(oD.1 h2).1⟩;simp only[Mode.env0];unfold Env.at at J;rw[oA]at J;cases he:E[k]? with
  | none=>rw[he]at J;cases J
  | some u=>rw[he]at J;simp at J;subst J;exact oB he
 ·simp only[Mode.env0]at ai;obtain⟨k,hk⟩:=oS.1 ai;have al:E.at k=some b:=by simp[Env.at,oA,hk]
  have ao:k<bx.length:=by rw[<-I.el];exact(oD.1 hk).1
  have hB:bx[k]?=some bx[k]:=oI ao;have Y:=I.br k _ hB (by simp);have hg:=aa _ (oB hB);rw[al]at Y;cases ab:bx[k]with
  | var cs=>rw[ab]at Y;obtain⟨b',c',t',U,g2,_⟩:=Y;cases U;rw[g2]at hc;cases hc;exact fz0
  | vd x n=>rw[ab]at Y;obtain⟨b',c',t',U,g2,_⟩:=Y;cases U;rw[g2]at hc;cases hc;exact fz0
  | arr t0 z0 es n=>
    rw[ab]at Y;rcases Y with⟨U,_⟩ | ⟨b',c',U,g2,_⟩
    ·cases U
    ·cases U;rw[g2]at hc;cases hc;exact fz0
  | gone=>exact absurd ab hg
 ·simp only[St.pins,Pd]at hk;obtain⟨J,B,h2,h3⟩:=H2 _ _ _ _ hk;rw[nG]at J;have Y:=I.br k _ h2 (by simp);rcases h3 with⟨cs,rfl⟩ | ⟨x,n,rfl⟩
  ·obtain⟨b',c',t',U,_⟩:=Y;rw[U]at J ⊢;simp at J;rw[J]
  ·obtain⟨b',c',t',U,_⟩:=Y;rw[U]at J ⊢;simp at J;rw[J]
theorem Uq {P:Program} {sh:FuncId->List Sh} {f:FuncId} {full:List Sh} {Q:QT full} {N:Nat} {H:Hint} {I:Nat} {args:List PV} {bx:List Bx} {F:Env->Prop} (J:P.follows .mixedOrders=true) (hc:wL P f=true)
 (O:∀ E,F E=NA P sh f full Q N H I args bx E) (h:∀ E,F E):BCalls P f full args bx N Q:=Ur J hc λE=>O E ▸ h E
end Go.Proofs.YtlaniepnglheoaaGreatDoor
set_option maxRecDepth 100000
namespace Go.Proofs.YtlaniepnglheoaaGreatDoor
open Go Go.Proofs Go.Proofs.Tryz
def sh:FuncId->List Sh:=λf=>UC f [(3,[.bool]),(4,[.bool]),(5,[.bool]),(6,[.str]),(7,[.str]),(8,[.str]),(9,[.str]),(10,[.bool]),(11,[.int .i64]),(12,[.str]),(13,[.ag 9,.bool]),(14,[.str]),(15,[.str]),(16,[.bool]),(17,[.ag 2,.bool]),(18,[.ag 11]),(19,[.str]),(20,[.str]),(21,[.str]),(22,[.str]),(23,[.ag 9,.bool]),(24,[.ag 2,.bool]),(25,[.bool]),(26,[.ag 11]),(27,[.str]),(28,[.str]),(29,[.str]),(30,[.str]),(31,[.row 0 1000007,.int .i64]),(32,[.cu]),(33,[.row 0 1000007,.bool]),(34,[.str]),(35,[.row 0 1000007,.ag 9]),(36,[.row 0 1000007,.str]),(37,[.row 0 1000007,.ag 9]),(38,[.row 0 1000007,.ag 9]),(39,[.bool]),(40,[.bool]),(41,[.bool]),(42,[.bool]),(43,[.ag 2,.bool]),(44,[.bool]),(45,[.pk,.int .i64,.str,.str,.int .i64,.dc,.dc,.dc,.dc,.row 35 9]),(46,[.int .i64]),(47,[.bool]),(48,[.ag 9,.int .i64]),(49,[.bool]),(50,[.str]),(51,[.bool]),(52,[.str]),(53,[.row 0 1000007,.ag 9,.bool]),(54,[.str]),(55,[.str]),(56,[.bool]),(57,[.bool]),(58,[.ag 2]),(59,[.bool]),(60,[.ag 11]),(61,[]),(62,[.bool]),(63,[.str]),(64,[.bool]),(65,[.str]),(66,[.str]),(67,[.row 0 1000007,.int .i64]),(68,[.row 0 1000007,.ag 9]),(69,[.ag 2]),(70,[.ag 2]),(71,[.ag 2]),(72,[.ag 2]),(73,[.row 0 1000007,.ag 9]),(74,[.row 0 1000007,.str]),(75,[.row 0 1000007,.ag 9]),(76,[.row 0 1000007,.int .i64]),(77,[.ag 9]),(78,[.row 0 1000007,.ag 2]),(79,[.row 0 1000007,.bool]),(80,[.ag 9]),(81,[.row 0 1000007]),(82,[.row 0 1000007,.ag 9]),(83,[.row 0 1000007,.ag 9]),(84,[.row 0 1000007,.str]),(85,[.int .i64]),(86,[.int .i64]),(87,[.bool]),(88,[.bool]),(89,[.ag 2,.bool]),(90,[.ag 2]),(91,[.bool]),(92,[.ag 9,.int .i64]),(93,[.ag 9,.int .i64]),(94,[.ag 9,.int .i64,.bool]),(95,[.ag 9]),(96,[.ag 9,.int .i64]),(97,[.int .i64]),(98,[.int .i64]),(99,[.bool]),(100,[.bool]),(101,[.int .i64]),(102,[.str]),(103,[]),(104,[.row 0 1000007,.bool]),(105,[.ag 9]),(106,[.row 0 1000007,.ag 9,.bool]),(107,[.row 0 1000007,.ag 9,.bool]),(108,[.row 0 1000007,.str]),(109,[.int .i64,.bool]),(110,[.ag 9]),(111,[.ag 9]),(112,[.str]),(113,[.bool]),(114,[.str]),(115,[.bool]),(116,[.bool]),(117,[.bool]),(118,[.bool]),(119,[.bool]),(120,[.ag 2]),(121,[.int .i64]),(122,[.int .i64]),(123,[.pk,.int .i64,.str,.str,.int .i64,.dc,.dc,.dc,.dc,.row 35 9]),(124,[.bool]),(125,[.ag 9,.int .i64]),(126,[.int .i64]),(127,[.int .i64]),(128,[.bool]),(129,[.bool]),(130,[.bool]),(131,[.bool]),(132,[.str]),(133,[.str]),(134,[.row 0 1000007,.ag 9,.bool]),(135,[.row 0 1000007,.ag 9]),(136,[.row 0 1000007,.ag 9]),(137,[.row 0 1000007,.ag 9]),(138,[.ag 9]),(139,[.sl 4]),(140,[.bool]),(141,[.ag 9]),(142,[.row 0 1000007,.ag 9]),(143,[.row 0 1000007,.ag 2]),(144,[.row 0 1000007,.ag 2]),(145,[.row 0 1000007,.ag 9]),(146,[.row 0 1000007,.ag 9]),(147,[.row 0 1000007,.ag 9]),(148,[.int .i64,.bool]),(149,[.ag 9]),(150,[.int .i64]),(151,[.int .i64]),(152,[.int .i64]),(153,[.ag 2,.bool]),(154,[.ag 2,.bool]),(155,[.ag 2,.bool]),(156,[.ag 9,.int .i64]),(157,[.int .i64,.bool]),(158,[.ag 9]),(159,[.bool]),(160,[.bool]),(161,[.int .i64]),(162,[.str]),(163,[.str,.bool]),(164,[.row 0 1000007,.sl 9,.bool]),(165,[.int .i64]),(166,[.row 0 1000007,.ag 9,.bool]),(167,[.row 0 1000007,.ag 9,.bool]),(168,[.int .i64,.bool]),(169,[.str]),(170,[.bool]),(171,[.int .i64]),(172,[.int .i32,.int .i64]),(173,[.int .i64]),(174,[.bool]),(175,[.int .i64]),(176,[.ag 2]),(177,[.int .i64]),(178,[.ag 2]),(179,[.ag 2]),(180,[.ag 2]),(181,[.ag 2]),(182,[.bool]),(183,[.sl 4]),(184,[.ag 2]),(185,[.ag 2]),(186,[.pk,.int .i64,.str,.str,.int .i64,.dc,.dc,.dc,.dc,.row 35 9]),(187,[.bool]),(188,[.ag 9,.int .i64,.bool]),(189,[.pk,.int .i64,.str,.str,.int .i64,.dc,.dc,.dc,.dc,.bk 1]),(190,[.int .i64]),(191,[.ag 9,.int .i64]),(192,[.bool]),(193,[.bool]),(194,[.bool]),(195,[.bool]),(196,[.bool]),(197,[.str]),(198,[.str]),(199,[.bool]),(200,[.row 0 1000007,.ag 2]),(201,[.ag 9]),(202,[.int .i64]),(203,[.sl 4]),(204,[.ag 9]),(205,[.int .i64,.bool]),(206,[.ag 2,.bool]),(207,[.int .i64]),(208,[.int .i64]),(209,[.sl 0,.int .i64]),(210,[.int .i64]),(211,[.sl 0]),(212,[.pk,.int .i64,.str,.str,.int .i64,.dc,.dc,.dc,.dc,.row 35 9]),(213,[.str,.bool]),(214,[.int .i64]),(215,[.row 0 1000007,.ag 2,.bool]),(217,[.int .i64]),(218,[.bool]),(219,[.bool]),(220,[.int .i32,.int .i64]),(221,[.int .i32,.int .i64]),(222,[.int .i64]),(223,[.bool]),(224,[.row 94 4]),(225,[.ag 2]),(226,[.ag 2]),(227,[.sl 4]),(228,[.bool]),(229,[.bool]),(230,[.ag 9,.bool]),(231,[.ag 9,.bool]),(232,[.ag 9]),(233,[.ag 9,.bool]),(234,[.int .i64]),(235,[.int .i64]),(236,[.bool]),(237,[]),(239,[.str]),(240,[.str]),(241,[.int .i64]),(242,[]),(243,[.sl 0,.str]),(244,[.sl 0]),(245,[.row 9 0]),(246,[.str]),(247,[.bool]),(250,[.bool]),(251,[.bool]),(252,[.int .i64,.bool]),(253,[.bool]),(254,[.sl 0,.int .i64]),(255,[.ag 9]),(256,[.row 9 0]),(257,[.pk,.int .i64,.str,.str,.int .i64,.dc,.dc,.dc,.dc,.row 35 9]),(258,[.ag 9]),(259,[]),(260,[]),(261,[.int .i64]),(262,[.int .i64]),(263,[.int .i64]),(264,[.bool]),(265,[.int .i64]),(271,[.int .i64]),(272,[.int .i64]),(273,[.row 0 1000007,.bk 0]),(274,[.bool]),(275,[.row 9 0]),(276,[.str]),(277,[.sl 0]),(280,[.int .i64]),(281,[.int .i64]),(283,[.str]),(285,[.int .i64]),(286,[.str]),(287,[.row 9 0]),(288,[.int .u8]),(289,[.bool]),(324,[])]
theorem mixed:prog.follows .mixedOrders=true:=by kernel_rfl
theorem eE {f:FuncId}{rs:List Sh}{Q:QT rs}{N:Nat}(H:Hint){args:List PV}{F:Prop}(h:F)(hc:wL prog f=true:=by kernel_rfl)(I:F=NB prog sh f rs Q N H 400 args:=by kernel_rfl):ACalls prog f rs args N Q:=WW mixed hc I h
theorem bE {f:FuncId}{full:List Sh}{Q:QT full}{N:Nat}(H:Hint){args:List PV}{bx:List Bx}{F:Env->Prop}(h:∀ E,F E)(hc:wL prog f=true:=by kernel_rfl)(I:∀ E,F E=NA prog sh f full Q N H 400 args bx E:=by intro E;kernel_rfl):BCalls prog f full args bx N Q:=Uq mixed hc I h
theorem hE {f:FuncId}{rs:List Sh}{Q:QT rs}{N0:Nat}{M:Mode}(H:Hint){I:List Item}{st:St}{F:Prop}(h:F)(J:F=FO st λst=>W prog sh f rs Q N0 M H 400 true I st:=by kernel_rfl):AT prog f rs Q N0 M I st:=Wc mixed J h
abbrev D.j (n:Int):D:=.lit (.int .i64 n)
abbrev D.t (s:ByteArray):D:=.lit (.string s)
abbrev PV.j (n:Int):PV:=.int .i64 n
abbrev Sh.i:Sh:=.int .i64
abbrev b0:ByteArray:=bytes []
def H0:Hint:=⟨[],[],[]⟩
abbrev w2 (P X:Prop):Prop:=P/\P/\X
abbrev w3 (P X:Prop):Prop:=P/\P/\P/\X
abbrev w4 (P X:Prop):Prop:=P/\P/\P/\P/\X
abbrev w5 (P X:Prop):Prop:=P/\P/\P/\P/\P/\X
abbrev uP (N:Nat)(R:Nat->Prop):Prop:=∀ N1,N<=N1->R N1
abbrev rv (s:ByteArray)(n:Int)(b:Bool):Bx:=.var [.str s,.int .i64 n,.bool b]
abbrev kB (f:FuncId)(I:List PV)(N:Nat)(R:Bool->Nat->Prop):Prop:=∀ N1,N<=N1->ACalls prog f [.bool] I N1 λb N2=>N1<=N2->R b N2
abbrev kI (f:FuncId)(I:List PV)(N:Nat)(R:Int->Nat->Prop):Prop:=∀ N1,N<=N1->ACalls prog f [.int .i64] I N1 λb N2=>N1<=N2->R b N2
abbrev kS (f:FuncId)(I:List PV)(N:Nat)(R:ByteArray->Nat->Prop):Prop:=∀ N1,N<=N1->ACalls prog f [.str] I N1 λb N2=>N1<=N2->R b N2
abbrev kA (z:Nat)(f:FuncId)(I:List PV)(N:Nat)(R:D->Nat->Prop):Prop:=∀ N1,N<=N1->ACalls prog f [.ag z] I N1 λx N2=>N1<=N2->Bel N2 x->R x N2
abbrev kL (z:Nat)(f:FuncId)(I:List PV)(N:Nat)(R:Option Addr->List D->Nat->Nat->Prop):Prop:=∀ N1,N<=N1->ACalls prog f [.sl z] I N1 λa e c N2=>N1<=N2->Bel N2 (D.sl a z e c)->R a e c N2
abbrev kAB (z:Nat)(f:FuncId)(I:List PV)(N:Nat)(R:D->Bool->Nat->Prop):Prop:=∀ N1,N<=N1->ACalls prog f [.ag z,.bool] I N1 λx b N2=>N1<=N2->Bel N2 x->R x b N2
abbrev kIB (f:FuncId)(I:List PV)(N:Nat)(R:Int->Bool->Nat->Prop):Prop:=∀ N1,N<=N1->ACalls prog f [.int .i64,.bool] I N1 λx b N2=>N1<=N2->R x b N2
abbrev rB (f:FuncId)(I:List PV)(s:ByteArray)(n:Int)(b:Bool)(N:Nat)(R:Bool->ByteArray->Int->Bool->Nat->Prop):Prop:=∀ N1,N<=N1->BCalls prog f [.bool,.str,.int .i64,.bool] (.pb 0 0 0 0::I) [rv s n b] N1 λx s n b N2=>N1<=N2->R x s n b N2
abbrev rS (f:FuncId)(I:List PV)(s:ByteArray)(n:Int)(b:Bool)(N:Nat)(R:ByteArray->ByteArray->Int->Bool->Nat->Prop):Prop:=∀ N1,N<=N1->BCalls prog f [.str,.str,.int .i64,.bool] (.pb 0 0 0 0::I) [rv s n b] N1 λx s n b N2=>N1<=N2->R x s n b N2
abbrev rU (f:FuncId)(I:List PV)(s:ByteArray)(n:Int)(b:Bool)(N:Nat)(R:ByteArray->Int->Bool->Nat->Prop):Prop:=∀ N1,N<=N1->BCalls prog f [.str,.int .i64,.bool] (.pb 0 0 0 0::I) [rv s n b] N1 λs n b N2=>N1<=N2->R s n b N2
abbrev rA (z:Nat)(f:FuncId)(I:List PV)(s:ByteArray)(n:Int)(b:Bool)(N:Nat)(R:D->ByteArray->Int->Bool->Nat->Prop):Prop:=∀ N1,N<=N1->BCalls prog f [.ag z,.str,.int .i64,.bool] (.pb 0 0 0 0::I) [rv s n b] N1 λx s n b N2=>N1<=N2->Bel N2 x->R x s n b N2
end Go.Proofs.YtlaniepnglheoaaGreatDoor
