/- The walker: what a function's code comes to, as a formula on ghost values. -/
import Derived.Test.YtldbmnklnpfpfaaGreatDoorJq
import Derived.Test.YtldbmnklnpfpfaaGreatDoorJe
import Derived.Test.YtldbmnklnpfpfaaGreatDoorChecked
set_option linter.unusedVariables false
set_option linter.unusedSimpArgs false
set_option linter.unusedSectionVars false
namespace Go.Proofs.YtldbmnklnpfpfaaGreatDoor
open Go
variable [Dfs] {av:Nat->Prop} {P:Program} {w0 w w':World} {e0 e:Env} {pS pS' pB pB':List Nat} {a:Act} {st st':St}
def base (f:FuncId):Frame:={ (default:Frame)with fn:=f,kind:=.normal }
def Lx (P:Program)(fr:Frame)(w:World)(e:Ending):Prop:=match Dfs.on with
 | none=>fr.leaving P w e
 | some ds=>e=.returned (.tuple fr.tmps)/\fr.mode=.returning/\fr.defers=ds/\fr.kind=.normal
def Gz (P:Program)(f:FuncId)(k:List Item)(R:Ending->World->Prop)(a:Act)(w:World):Prop:=
 ∀ cs,∃ e w' fr,R e w'/\Comes P (lone ((base f).at a k) cs w) (lone fr cs w') e/\fr.fn=f/\Lx P fr w' e
theorem yG {f:FuncId}{k k':List Item}{R:Ending->World->Prop}{I:Act}(hs:∀ cs,step P (lone ((base f).at a k) cs w)=.next (lone ((base f).at I k') cs w'))(h:Gz P f k' R I w'):Gz P f k R a w:=
 λcs=>let⟨e,w2,fr,J,O,U⟩:=h cs;⟨e,w2,fr,J,.of_steps (.one (hs cs)) O,U⟩
theorem px {f:FuncId}{c:Code}{k:List Item}{R:Ending->World->Prop}(h:c.wp P (λex J w'=>ex=.normal/\Gz P f k R J w') a w):Gz P f (.code c::k) R a w:=λcs=>by obtain⟨ex,J,w',⟨rfl,O⟩,I⟩:=h (base f) k cs;obtain⟨e,w2,fr,U,V,Y⟩:=O cs;exact⟨e,w2,fr,U,.of_steps I V,Y⟩
theorem pF (I:Dfs.on=none){f:FuncId}{fn:Func}{k:List Item}{R:Ending->World->Prop}(V:k=[]\/∃ k',k=.code .ret::k')(J:P.funcs[f]?=some fn)(hd:a.defers=Dfs.on.getD []){v:Value}(O:(results fn a.tmps).run P w=.ok v w)(U:R (.returned v) w):Gz P f k R a w:=λcs=>by
 rw[I]at hd;rcases V with rfl | ⟨k',rfl⟩
 ·exact⟨.returned v,w,_,U,.one step_end,rfl,by unfold Lx;rw[I];exact⟨rfl,hd,rfl,fn,J,O⟩⟩
 ·exact⟨.returned v,w,_,U,.one step_ret,rfl,by unfold Lx;rw[I];exact⟨rfl,hd,rfl,fn,J,O⟩⟩
def NJ:List PV->Option (Option Addr × List D × Nat × Int × Int)
 | [.sv a z es c,.int k n,.int k' m]=>match decide (z=0/\k=.i64/\k'=.i64)with
   | true=>some (a,es,c,n,m)
   | false=>none
 | _=>none
theorem Kv {cs:List PV}{a:Option Addr}{es:List D}{c:Nat}{n m:Int}(h:NJ cs=some (a,es,c,n,m)):cs=[.sv a 0 es c,.int .i64 n,.int .i64 m]:=by
 unfold NJ at h;split at h
 ·split at h
  ·rename_i hd;simp at hd h;obtain⟨rfl,rfl,rfl⟩:=hd;obtain⟨rfl,rfl,rfl,rfl,rfl⟩:=h;rfl
  ·cases h
 ·cases h
def xq (st:St):(l:List Sh)->QT l->List Nat->List PV->Prop
 | [],Q,_,ps=>match ps with
   | []=>∀ N,st.N<=N->Q N
   | _=>False
 | .int k::l,Q,us,ps=>match ps with
   | .int k' n::ps=>match decide (k=k')with
     | true=>xq st l (Q n) us ps
     | false=>False
   | _=>False
 | .bool::l,Q,us,ps=>match ps with
   | .bool v::ps=>xq st l (Q v) us ps
   | _=>False
 | .str::l,Q,us,ps=>match ps with
   | .str v::ps=>xq st l (Q v) us ps
   | _=>False
 | .sl z::l,Q,us,ps=>match ps with
   | .sv a z' es c::ps=>match decide (z=z')with
     | true=>xq st l (Q a es c) us ps
     | false=>False
   | _=>False
 | .ag n::l,Q,us,ps=>match ps with
   | p :: ps=>match Ds p with
     | .dg n' x=>match decide (n=n')with
       | true=>xq st l (Q x) us ps
       | false=>False
     | _=>False
   | _=>False
 | .row t z::l,Q,us,ps=>match ps with
   | .sb k z' lo n c::ps=>match st.bx[k]? with
     | some (.arr J I es O)=>match decide (J=t)&&decide (z'=z)&&decide (I=z)&&decide (lo=0)&&!us.contains k with
       | true=>(n=es.length/\c=O)/\xq st l (Q es c) (k::us) ps
       | false=>False
     | _=>False
   | .sv none _ [] 0::ps=>xq st l (Q [] 0) us ps
   | _=>False
 | .pk::l,Q,us,ps=>match KO l with
   | true=>xq st l Q us ps
   | false=>False
 | .dc::l,Q,us,ps=>match ps with
   | p::ps=>match tA p with
     | some x=>xq st l (Q x) us ps
     | none=>False
   | _=>False
 | .bk j::l,Q,us,ps=>match ps with
   | p::ps=>match tA p with
     | some x=>xq st l (Q x) us ps
     | none=>False
   | _=>False
 | .cu :: l,Q,us,ps=>match ps with
   | .pb k z i o::ps=>match st.bx[k]?,decide (z=0/\i=0/\o=0)&&!us.contains k with
     | some (.var cs),true=>match NJ cs with
       | some (a,es,c,n,m)=>xq st l (Q a es c n m) (k::us) ps
       | none=>False
     | _,_=>False
   | _=>False
abbrev Sel:=List (Option Nat × Bx)
def Sel.rows (s:Sel):List Bx:=s.map (·.2)
def Sel.env (e:Env)(s:Sel):Env:=s.map λx=>x.1.bind e.at
structure SelOk (st:St) (us:List Nat) (s:Sel):Prop where
 at_:∀ x∈s,(x.1=none/\∃ t z,x.2=.arr t z [] 0)\/∃ k,x.1=some k/\st.bx[k]?=some x.2/\x.2.row
 nd:(s.filterMap (·.1)).Nodup
 un:∀ k∈s.filterMap (·.1),k∉us
def Db:PV->Bool
 | .int ..=>true
 | .bool ..=>true
 | .str ..=>true
 | .sv ..=>true
 | .dg ..=>true
 | _=>false
def NQ:PV->Bool
 | .sb ..=>true
 | .dc ..=>true
 | _=>false
def OJ (w:World)(e:Env)(live:Nat->Prop)(E:Env)(p q:PV):Prop:=p.val e=q.val1 E/\(p.Ok w live->q.Ok w live)/\p≠.any/\(Db p=true->q=p\/NQ q=true)
theorem zU (h:Rel av w0 e0 [] [] a w e st):∀(l:List Sh) (Q:QT l) (us:List Nat) (ps:List PV) (b:Nat),xq st l Q us ps->(∀ p∈ps,p.Ok w (zF av [] e st.bx)\/Db p=true) ->
  ∃ qs s,QT.app l Q b qs (Sel.rows s) w.heap.size/\SelOk st us s/\qs.length=ps.length /\
    ∀(E:Env),E.length=b->∀(i:Nat) (p q:PV),ps[i]?=some p->qs[i]?=some q->OJ w e (zF av [] e st.bx) (E++s.env e) p q
 | [],Q,us,ps,b,hs,_=>by
   cases ps with
   | nil=>exact⟨[],[],hs _ h.hN,⟨by simp,by simp,by simp⟩,rfl,by simp⟩
   | cons=>exact hs.elim
 | .int k::l,Q,us,ps,b,hs,J=>by
   cases ps with
   | nil=>exact hs.elim
   | cons p ps=>
     cases p<;>simp only[xq]at hs<;>try exact hs.elim
     rename_i k' n;cases hk:decide (k=k')with
     | true=>
       rw[hk]at hs;obtain⟨qs,s,V,U,Y,Z⟩:=zU h l _ us ps b hs (λp I=>J p (by simp[I]));refine⟨.int k n::qs,s,⟨rfl,V⟩,U,by simp[Y],λE hE i p q I O=>?_⟩;cases i with
       | zero=>simp at I O hk;subst I;subst O;subst hk;exact⟨rfl,id,by simp,λ_=>.inl rfl⟩
       | succ i=>exact Z E hE i p q (by simpa using I) (by simpa using O)
     | false=>rw[hk]at hs;exact hs.elim
 | .bool::l,Q,us,ps,b,hs,J=>by
   cases ps with
   | nil=>exact hs.elim
   | cons p ps=>
     cases p<;>simp only[xq]at hs<;>try exact hs.elim
     rename_i n;obtain⟨qs,s,V,U,Y,Z⟩:=zU h l _ us ps b hs (λp I=>J p (by simp[I]));refine⟨.bool n::qs,s,V,U,by simp[Y],λE hE i p q I O=>?_⟩;cases i with
     | zero=>simp at I O;subst I;subst O;exact⟨rfl,id,by simp,λ_=>.inl rfl⟩
     | succ i=>exact Z E hE i p q (by simpa using I) (by simpa using O)
 | .str::l,Q,us,ps,b,hs,J=>by
   cases ps with
   | nil=>exact hs.elim
   | cons p ps=>
     cases p<;>simp only[xq]at hs<;>try exact hs.elim
     rename_i n;obtain⟨qs,s,V,U,Y,Z⟩:=zU h l _ us ps b hs (λp I=>J p (by simp[I]));refine⟨.str n::qs,s,V,U,by simp[Y],λE hE i p q I O=>?_⟩;cases i with
     | zero=>simp at I O;subst I;subst O;exact⟨rfl,id,by simp,λ_=>.inl rfl⟩
     | succ i=>exact Z E hE i p q (by simpa using I) (by simpa using O)
 | .sl z::l,Q,us,ps,b,hs,J=>by
   cases ps with
   | nil=>exact hs.elim
   | cons p ps=>
     cases p<;>simp only[xq]at hs<;>try exact hs.elim
     rename_i ad z' es c;cases hz:decide (z=z')with
     | true=>
       rw[hz]at hs;simp at hz;subst hz;obtain⟨qs,s,V,U,Y,Z⟩:=zU h l _ us ps b hs (λp I=>J p (by simp[I]));refine⟨.sv ad z es c::qs,s,⟨rfl,V⟩,U,by simp[Y],λE hE i p q I O=>?_⟩;cases i with
       | zero=>simp at I O;subst I;subst O;exact⟨rfl,id,by simp,λ_=>.inl rfl⟩
       | succ i=>exact Z E hE i p q (by simpa using I) (by simpa using O)
     | false=>rw[hz]at hs;exact hs.elim
 | .ag n::l,Q,us,ps,b,hs,J=>by
   cases ps with
   | nil=>exact hs.elim
   | cons p ps=>
     simp only[xq]at hs;split at hs
     rotate_left
     ·exact hs.elim
     rename_i n' x ab;split at hs
     rotate_left
     ·exact hs.elim
     rename_i hz;simp at hz;subst hz;obtain⟨qs,s,V,U,Y,Z⟩:=zU h l _ us ps b hs (λp I=>J p (by simp[I]));refine⟨.dg n x::qs,s,⟨rfl,V⟩,U,by simp[Y],λE hE i r q I O=>?_⟩;cases i with
     | zero=>
       simp at I O;subst I;subst O;rcases J p (by simp)with aa | hdx
       rotate_left
       ·cases p<;>simp[Db]at hdx<;>simp[Ds]at ab
        rw[ab.1,ab.2];exact⟨rfl,id,by simp,λ_=>.inl rfl⟩
       have ak:=rz (e:=e) aa;rw[ab]at ak;rcases ak with h5 | ⟨h8,h6,h7,_⟩
       ·cases h5
       ·refine⟨h6,h7,h8,λhx=>.inl ?_⟩;cases p<;>simp[Db]at hx<;>simp[Ds]at ab
        rw[ab.1,ab.2]
     | succ i=>exact Z E hE i r q (by simpa using I) (by simpa using O)
 | .row t z::l,Q,us,ps,b,hs,J=>by
   cases ps with
   | nil=>exact hs.elim
   | cons p ps=>
     simp only[xq]at hs;split at hs
     ·rename_i k z' lo n c al ac;cases ac;split at hs
      ·rename_i t' ah es c' hk;split at hs
       rotate_left
       ·exact hs.elim
       rename_i hc;simp only[oM,oi,nC]at hc;obtain⟨⟨⟨⟨ao,aq⟩,au⟩,aw⟩,ai⟩:=hc;subst ao;subst aq;subst au;subst aw;obtain⟨⟨rfl,rfl⟩,hs⟩:=hs;obtain⟨qs,s,V,U,Y,Z⟩:=zU h l _ (k::us) ps (b+1) hs (λp I=>J p (by simp[I]));refine⟨.sb b ah 0 es.length c::qs,(some k,.arr t' ah es c)::s,⟨⟨rfl,rfl,rfl,rfl,rfl,rfl,rfl⟩,V⟩,⟨λx hx=>?_,?_,λj hj=>?_⟩,by simp[Y],λE hE i r q I O=>?_⟩
       ·rcases oH.1 hx with rfl | hx
        ·exact .inr ⟨k,rfl,hk,trivial⟩
        ·exact U.at_ x hx
       ·simp only[na];exact nV.2 ⟨λhc=>U.un k hc (by simp),U.nd⟩
       ·simp only[na]at hj;rcases oH.1 hj with rfl | hj
        ·intro hc;simp[hc]at ai
        ·exact λhc=>U.un j hj (by simp[hc])
       ·have ae:Env.at (E++Sel.env e ((some k,Bx.arr t' ah es c)::s)) b=e.at k:=by simp[Sel.env,Env.at,oA,<-hE]
        cases i with
        | zero=>simp at I O;subst I;subst O;refine⟨?_,id,by simp,λ_=>.inr rfl⟩;simp only[PV.val,PV.val1,PV.cv,ae]
        | succ i=>
          have:=Z (E++[e.at k]) (by simp[hE]) i r q (by simpa using I) (by simpa using O)
          simpa [Sel.env]using this
      ·exact hs.elim
     ·rename_i zz al ac;cases ac;obtain⟨qs,s,V,U,Y,Z⟩:=zU h l _ us ps (b+1) hs (λp I=>J p (by simp[I]));refine⟨.sb b z 0 0 0::qs,(none,.arr t z [] 0)::s,⟨⟨rfl,rfl,rfl,rfl,rfl,rfl,rfl⟩,V⟩,⟨λx hx=>?_,?_,λj hj=>?_⟩,by simp[Y],λE hE i r q I O=>?_⟩
      ·rcases oH.1 hx with rfl | hx
       ·exact .inl ⟨rfl,t,z,rfl⟩
       ·exact U.at_ x hx
      ·simpa using U.nd
      ·exact U.un j (by simpa using hj)
      ·have ae:Env.at (E++Sel.env e (((none:Option Nat),Bx.arr t z [] 0)::s)) b=none:=by simp[Sel.env,Env.at,oA,<-hE]
       cases i with
       | zero=>simp at I O;subst I;subst O;refine⟨?_,λ_=>trivial,by simp,λ_=>.inr rfl⟩;simp[PV.val,PV.val1,PV.cv,ae]
       | succ i=>
         have:=Z (E++[none]) (by simp[hE]) i r q (by simpa using I) (by simpa using O)
         simpa [Sel.env]using this
     ·exact hs.elim
 | .cu :: l,Q,us,ps,b,hs,J=>by
   cases ps with
   | nil=>exact hs.elim
   | cons p ps=>
     simp only[xq]at hs;split at hs
     rotate_left
     ·exact hs.elim
     rename_i k z i o al ac;cases ac;split at hs
     rotate_left
     ·exact hs.elim
     rename_i cs hk hc;split at hs
     rotate_left
     ·exact hs.elim
     rename_i a' es c n m ax;have ay:=Kv ax;subst ay;simp only[oM,oi,nC]at hc;obtain⟨⟨rfl,rfl,rfl⟩,ai⟩:=hc;obtain⟨qs,s,V,U,Y,Z⟩:=zU h l _ (k::us) ps (b+1) hs (λp I=>J p (by simp[I]));refine⟨.pb b 0 0 0::qs,(some k,.var [.sv a' 0 es c,.int .i64 n,.int .i64 m])::s,⟨_,_,_,_,_,rfl,rfl,V⟩,⟨λx hx=>?_,?_,λj hj=>?_⟩,by simp[Y],λE hE i r q I O=>?_⟩
     ·rcases oH.1 hx with rfl | hx
      ·exact .inr ⟨k,rfl,hk,_,_,_,_,_,rfl⟩
      ·exact U.at_ x hx
     ·simp only[na];exact nV.2 ⟨λhc=>U.un k hc (by simp),U.nd⟩
     ·simp only[na]at hj;rcases oH.1 hj with rfl | hj
      ·intro hc;simp[hc]at ai
      ·exact λhc=>U.un j hj (by simp[hc])
     ·have ae:Env.at (E++Sel.env e ((some k,Bx.var [.sv a' 0 es c,.int .i64 n,.int .i64 m])::s)) b=e.at k:=by simp[Sel.env,Env.at,oA,<-hE]
      cases i with
      | zero=>simp at I O;subst I;subst O;refine⟨?_,id,by simp,λhx=>by cases hx⟩;simp only[PV.val,PV.val1,PV.cv,ae]
      | succ i=>
        have:=Z (E++[e.at k]) (by simp[hE]) i r q (by simpa using I) (by simpa using O)
        simpa [Sel.env]using this
 | .pk::l,Q,us,ps,b,hs,J=>by
   simp only[xq]at hs;split at hs
   ·rename_i hk;obtain⟨qs,s,V,U,Y,Z⟩:=zU h l Q us ps b hs J;exact⟨qs,s,⟨hk,V⟩,U,Y,Z⟩
   ·exact hs.elim
 | .dc :: l,Q,us,ps,b,hs,J=>by
   cases ps with
   | nil=>exact hs.elim
   | cons p ps=>
     simp only[xq]at hs;split at hs
     rotate_left
     ·exact hs.elim
     rename_i x hx;obtain⟨qs,s,V,U,Y,Z⟩:=zU h l _ us ps b hs (λp I=>J p (by simp[I]));refine⟨.dc x::qs,s,V,U,by simp[Y],λE hE i r q I O=>?_⟩;cases i with
     | zero=>
       simp at I O;subst I;subst O;have hv:p.val e=p.cv e:=by cases p<;>first | rfl | (simp[tA]at hx)
       have aj:x.cv=p.cv e:=by
        rcases J p (by simp)with aa | hdx
        ·exact(yX (e:=e) hx aa).2.2.1
        ·cases p<;>simp[Db]at hdx<;>simp[tA]at hx<;>subst hx<;>rfl
       refine⟨by rw[hv,<-aj];rfl,λI=>?_,λhc=>by subst hc;simp[tA]at hx,λ_=>.inr rfl⟩;obtain⟨g1,g2,_⟩:=yX (e:=e) hx I;exact⟨g1,g2⟩
     | succ i=>exact Z E hE i r q (by simpa using I) (by simpa using O)
 | .bk j::l,Q,us,ps,b,hs,J=>by
   cases ps with
   | nil=>exact hs.elim
   | cons p ps=>
     simp only[xq]at hs;split at hs
     rotate_left
     ·exact hs.elim
     rename_i x hx;obtain⟨qs,s,V,U,Y,Z⟩:=zU h l _ us ps b hs (λp I=>J p (by simp[I]));refine⟨.dc x::qs,s,V,U,by simp[Y],λE hE i r q I O=>?_⟩;cases i with
     | zero=>
       simp at I O;subst I;subst O;have hv:p.val e=p.cv e:=by cases p<;>first | rfl | (simp[tA]at hx)
       have aj:x.cv=p.cv e:=by
        rcases J p (by simp)with aa | hdx
        ·exact(yX (e:=e) hx aa).2.2.1
        ·cases p<;>simp[Db]at hdx<;>simp[tA]at hx<;>subst hx<;>rfl
       refine⟨by rw[hv,<-aj];rfl,λI=>?_,λhc=>by subst hc;simp[tA]at hx,λ_=>.inr rfl⟩;obtain⟨g1,g2,_⟩:=yX (e:=e) hx I;exact⟨g1,g2⟩
     | succ i=>exact Z E hE i r q (by simpa using I) (by simpa using O)
theorem IQ (h:Rel av w0 [] [] [] a w e st){s:Sel}(hs:SelOk st [] s):Mem av [] w (s.env e) s.rows/\(∀ b,zF av [] (s.env e) s.rows b->zF av [] e st.bx b)/\∀(k b:Nat),(s.env e).at k=some b->w0.heap.size<=b:=by
 have ab:∀(j:Nat) (x:Option Nat × Bx),s[j]?=some x->(s.env e).at j=x.1.bind e.at:=λj x I=>by simp[Sel.env,Env.at,oA,I]
 have Y:∀(j:Nat) (B:Bx),s.rows[j]?=some B->∃ x,s[j]?=some x/\x.2=B:=λj B I=>by
  simp only[Sel.rows,oE]at I;cases J:s[j]? with
  | none=>simp[J]at I
  | some x=>simp[J]at I;exact⟨x,rfl,I⟩
 have aa:∀(j b:Nat),(s.env e).at j=some b->∃ x k,s[j]?=some x/\x.1=some k/\Lives [] e st.bx k b:=λj b I=>by
  cases J:s[j]? with
  | none=>simp[Sel.env,Env.at,oA,J]at I
  | some x=>
    rw[ab j x J]at I;rcases hs.at_ x (oB J)with⟨O,_⟩ | ⟨k,O,U,V⟩
    ·rw[O]at I;cases I
    ·rw[O]at I;exact⟨x,k,rfl,O,by simp,I,x.2,U,V.sp.1⟩
 have Z:∀ b,zF av [] (s.env e) s.rows b->zF av [] e st.bx b:=λb hb=>hb.imp id λ⟨j,I⟩=>by obtain⟨_,k,_,_,V⟩:=aa j b I.2.1;exact⟨k,V⟩
 refine⟨{ el:=by simp[Sel.env,Sel.rows],br:=λj B I _=>?_,bo:=λj B I _=>?_,bf:=λj B I _ i hi=>?_,inj:=λi j b hi I=>?_ },Z,λj b I=>?_⟩
 ·obtain⟨x,J,rfl⟩:=Y j B I;rw[ab j x J];rcases hs.at_ x (oB J)with⟨O,t,z,U⟩ | ⟨k,O,U,V⟩
  ·rw[O,U];exact .inl ⟨rfl,rfl,rfl⟩
  ·rw[O];refine(h.br k _ U (by simp)).congr (λ_ _=>rfl) λi hi=>?_;rw[V.sp.2]at hi;simp at hi
 ·obtain⟨x,J,rfl⟩:=Y j B I;rcases hs.at_ x (oB J)with⟨O,t,z,U⟩ | ⟨k,O,U,V⟩
  ·rw[U];intro y hy;simp at hy
  ·exact(h.bo k _ U (by simp)).mono (λ_ _ _=>rfl) (oG _) λb _=>Z b
 ·obtain⟨x,J,rfl⟩:=Y j B I;rcases hs.at_ x (oB J)with⟨O,t,z,U⟩ | ⟨k,O,U,V⟩
  ·rw[U]at hi;simp[Bx.refs]at hi
  ·rw[V.sp.2]at hi;simp at hi
 ·obtain⟨x,k,O,U,V⟩:=aa i b hi.2.1;obtain⟨y,l,g1,g2,g3⟩:=aa j b I.2.1;have ai:=h.inj k l b V g3;subst ai
  have key:∀(s:Sel) (i j:Nat) (x y:Option Nat × Bx),(s.filterMap (·.1)).Nodup->s[i]?=some x->s[j]?=some y->x.1=some k->y.1=some k->i=j:=by
   intro s
   induction s with
   | nil=>intro i j x y _ J;simp at J
   | cons u s ih=>
     intro i j x y hn J hy ac ae;have aj:(s.filterMap (·.1)).Nodup:=by
      cases hu:u.1 with
      | none=>simpa [hu]using hn
      | some m=>simp only[na,hu]at hn;exact(nV.1 hn).2
     have ah:u.1=some k->k∉s.filterMap (·.1):=λhu=>by simp only[na,hu]at hn;exact(nV.1 hn).1
     cases i with
     | zero=>
       simp at J;subst J;cases j with
       | zero=>rfl
       | succ j=>simp at hy;exact absurd (nT.2 ⟨y,oB hy,ae⟩) (ah ac)
     | succ i=>
       simp at J;cases j with
       | zero=>simp at hy;subst hy;exact absurd (nT.2 ⟨x,oB J,ac⟩) (ah ae)
       | succ j=>simp at hy;rw[ih i j x y aj J hy ac ae]
  exact key s i j x y hs.nd O g1 U g2
 ·obtain⟨_,k,_,_,V⟩:=aa j b I;rcases h.own k b V with h4 | h4
  ·exact h4
  ·simp at h4
def F0:ResultVar->Nat
 | .tmp t=>t
 | .cell a _=>a
def LY (P:Program)(st:St):List ResultVar->(List PV->Prop)->Prop
 | [],K=>K []
 | .tmp t::l,K=>LY P st l λps=>K (st.sl.getD t .any::ps)
 | .cell a t::l,K=>tq P (opd st.sl) (λk=>st.bx[k]?) (.load t (.tmp a)) t λp=>LY P st l λps=>K (p::ps)
def Cc:Sh->Bool
 | .row ..=>true
 | .cu=>true
 | .dc=>true
 | .bk _=>true
 | _=>false
def M0:List Sh->List Nat->List Nat
 | .pk::_,_=>[]
 | s::l,t::ts=>match Cc s with
   | true=>M0 l ts
   | false=>t::M0 l ts
 | _,_=>[]
def qj (pk:Bool)(ps:List PV):List PV:=match pk with
 | true=>match ps with
   | [.pg cs]=>cs
   | _=>[.any]
 | false=>ps
def Nd (P:Program)(f:FuncId)(rs:List Sh)(Q:QT rs)(N0:Option Nat)(st:St):Prop:=
 match P.funcs[f]? with
 | some fn=>uo N0 #[] [] (M0 rs (fn.results.toList.map F0)) (fn.results.toList.map F0) st λst=>LY P st fn.results.toList λps=>xq st rs Q [] (qj (qg rs) (zY P fn.resultTypes.toList ps))
 | none=>False
def E5 (tmps:Array Value)(r:ResultVar):Sem Value:=match r with
 | .tmp t=>pure (tmps.getD t undef)
 | .cell a t=>do loadVar t (<-asAddr (tmps.getD a undef))
theorem Jo (tmps:Array Value):(λ(r:ResultVar)=>match r with
 | .tmp t=>(pure (tmps.getD t undef):Sem Value)
 | .cell a t=>do loadVar t (<-asAddr (tmps.getD a undef)))=E5 tmps:=by funext r;cases r<;>rfl
theorem vH (h:Rel av w0 e0 [] [] a w e st):∀(l:List ResultVar) (K:List PV->Prop),LY P st l K->∃ vs ps,K ps/\(l.mapM (E5 a.tmps)).run P w=.ok vs w/\vs.length=l.length/\ps.length=l.length /\
  ∀(i:Nat) (v:Value) (p:PV),vs[i]?=some v->ps[i]?=some p->ValOk av w e [] st.bx v p
 | [],K,O=>⟨[],[],O,by simp,rfl,rfl,by simp⟩
 | .tmp t::l,K,O=>by
   obtain⟨vs,ps,Y,Z,h3,h4,h5⟩:=vH h l _ O;have U:ValOk av w e [] st.bx (a.eval (.tmp t)) (opd st.sl (.tmp t)):=(yT h (x:=.tmp t) (by simp)).valOk;refine⟨a.tmps.getD t undef::vs,st.sl.getD t .any::ps,Y,?_,by simp[h3],by simp[h4],λi v p I J=>?_⟩
   ·simp[E5,Z]
   ·cases i with
    | zero=>simp only[mU,od]at I J;subst I;subst J;exact U
    | succ i=>exact h5 i v p (by simpa using I) (by simpa using J)
 | .cell c t::l,K,O=>by
   simp only [LY] at O;have ho:∀ x∈(Op.load t (.tmp c)).operands,OpdOk av a w e [] st.bx x (opd st.sl x):=λx hx=>yT h (by simp);obtain ⟨v0, p0, g1, g2, g3⟩ := ry (o := ⟨none, .load t (.tmp c), t, "", #[], none⟩) h.toMem ho (λk B hk => ⟨hk, by simp⟩) O;obtain ⟨vs,ps,Y,Z,h3,h4,h5⟩:=vH h l _ g2
   have V:(E5 a.tmps (.cell c t)).run P w=.ok v0 w:=by
    simp only[execOp]at g1;have he:a.eval (.tmp c)=a.tmps.getD c undef:=rfl;rw[he]at g1;simp only[E5];cases U:a.tmps.getD c undef with
    | pointer p=>
      cases p with
      | none=>rw[U]at g1;simp[Instr.loadAt,Instr.sureAddr]at g1
      | some ad=>
        rw[U]at g1;simp[Instr.loadAt,Instr.sureAddr,asAddr]at g1 ⊢;generalize (loadVar t ad).run P w=r at g1 ⊢;cases r with
        | ok x w1=>simp at g1 ⊢;exact g1
        | halt x w1=>simp at g1
    | _=>rw[U]at g1;simp[Instr.loadAt,Instr.sureAddr]at g1
   refine⟨v0::vs,p0::ps,Y,?_,by simp[h3],by simp[h4],λi v p I J=>?_⟩
   ·rw[List.mapM_cons];simp only[Sem.run_bind,V,Result.andThen_ok,Z,Sem.run_pure]
   ·cases i with
    | zero=>simp only[mU,od]at I J;subst I;subst J;exact g3
    | succ i=>exact h5 i v p (by simpa using I) (by simpa using J)
def Mq (vs:List Value):Value:=match vs with
 | [v]=>v
 | vs=>.tuple vs.toArray
theorem vV {fn:Func} {vs:List Value} {tmps:Array Value} (h:(fn.results.toList.mapM (E5 tmps)).run P w=.ok vs w) :
  (results fn tmps).run P w=.ok (Mq vs) w:=by
 unfold results;have I:∀ F:ResultVar->Sem Value,F=E5 tmps->((do
   let vs <-fn.results.mapM F
   pure (if h:vs.size=1 then vs[0]else .tuple vs):Sem Value)).run P w=.ok (Mq vs) w:=λF J=>by
  subst J;rw[Array.mapM_eq_mapM_toList];simp[h];rcases vs with _ | ⟨t,_ | ⟨u,ts⟩⟩<;>simp[Mq]
 exact I _ (Jo tmps)
theorem CU {e:Env}{p:PV}(h:p.isC):p.val e=p.cv e:=by
 cases p<;>first | rfl | exact h.elim | skip
 rename_i x;cases x<;>first | rfl | (simp[PV.isC,D.isCell]at h)
theorem Bz {e:Env}{p:PV}(h:p.isC):p.val1 e=p.cv e:=by
 have:=CU (e:=e) h
 cases p<;>first | exact this | exact h.elim
theorem Gn (hD:Dfs.on=none) (h:Rel av w0 [] [] [] a w e st) {f:FuncId} {rs:List Sh} {Q:QT rs} {k:List Item} (hk:k=[]\/∃ k',k=.code .ret::k') {N0:Option Nat} (au:NOk N0 w0) (hs:Nd P f rs Q N0 st):Gz P f k (Fin rs Q av w0) a w:=by
 unfold Nd at hs;split at hs
 rotate_left
 ·exact hs.elim
 rename_i fn hf;obtain⟨aw,T,U,_,_,V⟩:=xj h au (by simp) hs;obtain⟨vs,ps,U,ae,ah,ai,ax⟩:=vH V _ _ U;have O:∀(i:Nat) (p:PV),(zY P fn.resultTypes.toList ps)[i]?=some p->∃ v,vs[i]?=some v/\ValOk av w e [] aw.bx v p:=λi p J=>by
  obtain⟨q,Y,ay⟩:=vW _ _ _ _ J;have I:i<vs.length:=by rw[ah,<-ai];exact(oD.1 Y).1
  have hv:=ax i _ q (oF I) Y;refine⟨_,oF I,?_⟩;rcases ay with rfl | ⟨ty,rfl⟩
  ·exact hv
  ·exact hv.retag ty
 cases Z:qg rs with
 | true =>
   rw[Z]at U
   have az:∃ cs,zY P fn.resultTypes.toList ps=[.pg cs]:=by
    by_cases hc:∃ cs,zY P fn.resultTypes.toList ps=[.pg cs]
    ·exact hc
    ·exfalso;have J:qj true (zY P fn.resultTypes.toList ps)=[.any]:=by
      simp only[qj];split
      ·rename_i cs ac;exact absurd ⟨cs,ac⟩ hc
      ·rfl
     rw[J]at U;cases rs with
     | nil=>simp[qg]at Z
     | cons s l=>
       cases s<;>simp[qg]at Z
       simp only[xq]at U;split at U
       ·rename_i hk;cases l with
        | nil=>exact U.elim
        | cons s l=>cases s<;>simp only[xq]at U<;>first | exact U.elim | (simp[KO]at hk)
       ·exact U.elim
   obtain⟨cs,ac⟩:=az;rw[ac]at U O;simp only[qj]at U;obtain⟨v,aj,aa⟩:=O 0 (.pg cs) rfl;have ak:vs=[v]:=by
    have h5:vs.length=1:=by have h6:=oN List.length ac;rw[yg]at h6;rw[ah,<-ai,h6];rfl
    rcases vs with _ | ⟨u,_ | _⟩<;>simp at h5 aj
    subst aj;rfl
   have al:=aa.2.1;simp only[PV.Ok]at al;obtain⟨ab,ao⟩:=al;rw[PV.OkL_iff]at ab;obtain⟨qs,s,g1,g2,g3,g4⟩:=zU V rs Q [] _ 0 U (λp J=>.inl (ab p J));obtain⟨m1,m2,m3⟩:=IQ V g2;have a1:=QT.app_pk Z g1;refine pF hD hk hf V.nd (vV ae) ⟨qs,s.rows,s.env e,g1,?_,m1,λq Y=>?_,m3,V.size,λb hb=>V.old b hb (by simp),λb c t z hb hc=>V.fz b c t z (.inl hb) hc,V.ku⟩
   ·rw[ak,Z];simp only[Mq,Gp];rw[aa.1.resolve_left (by simp)];simp only[PV.val,PV.val1,PV.cvs_eq];congr 2;apply nI;intro i;rw[oE,oE];cases Y:qs[i]? with
    | none=>rw[show cs[i]?=none from oh (by rw[<-g3];exact np.1 Y)];rfl
    | some q=>
      have I:i<cs.length:=by rw[<-g3];exact(oD.1 Y).1
      have J:=oF I;rw[J];simp only[oU,od];have h5:=g4 [] rfl i _ q J Y;rw[<-CU (ao _ (oB J)),h5.1,Bz (a1 q (oB Y))];rfl
   ·obtain⟨i,hi⟩:=oS.1 Y;have I:i<cs.length:=by rw[<-g3];exact(oD.1 hi).1
    have J:=oF I;exact PV.Ok.mono (λ_ _ _=>rfl) (oG _) (λb _=>m2 b) q ((g4 [] rfl i _ q J hi).2.1 (ab _ (oB J)))
 | false=>
 rw[Z]at U;simp only[qj]at U;obtain⟨qs,s,g1,g2,g3,g4⟩:=zU V rs Q [] _ 0 U (λp J=>by obtain⟨i,hi⟩:=oS.1 J;obtain⟨t,_,hv⟩:=O i p hi;exact .inl hv.2.1);obtain⟨m1,m2,m3⟩:=IQ V g2;have aq:qs.length=vs.length:=by rw[g3,yg,ai,ah]
 refine pF hD hk hf V.nd (vV ae) ⟨qs,s.rows,s.env e,g1,?_,m1,λq Y=>?_,m3,V.size,λb hb=>V.old b hb (by simp),λb c t z hb hc=>V.fz b c t z (.inl hb) hc,V.ku⟩
 ·-- the values
  have hv:vs=qs.map (PV.val1 (s.env e)):=by
   apply nI;intro i;rw[oE];cases Y:qs[i]? with
   | none=>have:vs[i]?=none:=oh (by rw[<-aq];exact np.1 Y);rw[this];rfl
   | some q=>
     have I:i<(zY P fn.resultTypes.toList ps).length:=by rw[<-g3];exact(oD.1 Y).1
     have J:=oF I;obtain⟨v,hv,aa⟩:=O i _ J;rw[hv];simp only[oU,od];have h5:=g4 [] rfl i _ q J Y;rw[aa.1.resolve_left h5.2.2.1,h5.1];rfl
  rw[hv,Z];simp only[Gp];unfold IJ;rcases qs with _ | ⟨q,_ | ⟨r,qs⟩⟩<;>rfl
 ·obtain⟨i,hi⟩:=oS.1 Y;have I:i<(zY P fn.resultTypes.toList ps).length:=by rw[<-g3];exact(oD.1 hi).1
  have J:=oF I;obtain⟨t,ht,aa⟩:=O i _ J;exact PV.Ok.mono (λ_ _ _=>rfl) (oG _) (λb _=>m2 b) q ((g4 [] rfl i _ q J hi).2.1 aa.2.1)
variable {av:Nat->Prop} {P:Program} {w0 w w':World} {e0 e:Env} {pS pS' pB pB':List Nat} {a:Act} {st st':St}
mutual
def xU:PV->PV->Bool
 | .any,.any=>true
 | .pb k z i o,.pb k' z' i' I=>Nat.beq k k'&&Nat.beq z z'&&Nat.beq i i'&&Nat.beq o I
 | .fn f l,.fn J l'=>Nat.beq f J&&qF l l'
 | _,_=>false
def qF:List PV->List PV->Bool
 | [],[]=>true
 | p::ps,q::qs=>xU p q&&qF ps qs
 | _,_=>false
end
mutual
theorem Dy:∀ {p q:PV},xU p q=true->p=q
 | .any,q,h=>by cases q<;>simp[xU]at h ⊢
 | .pb k z i o,q,h=>by
   cases q<;>simp[xU]at h
   obtain⟨⟨⟨I,J⟩,O⟩,U⟩:=h
   rw[I,J,O,U]
 | .fn f l,q,h=>by
   cases q<;>simp[xU]at h
   rw[h.1,B3 h.2]
 | .int ..,q,h=>by simp[xU]at h
 | .bool ..,q,h=>by simp[xU]at h
 | .str ..,q,h=>by simp[xU]at h
 | .lit ..,q,h=>by simp[xU]at h
 | .sv ..,q,h=>by simp[xU]at h
 | .d ..,q,h=>by simp[xU]at h
 | .dc ..,q,h=>by simp[xU]at h
 | .dg ..,q,h=>by simp[xU]at h
 | .pd ..,q,h=>by simp[xU]at h
 | .sb ..,q,h=>by simp[xU]at h
 | .pg ..,q,h=>by simp[xU]at h
 | .tp ..,q,h=>by simp[xU]at h
theorem B3:∀ {p q:List PV},qF p q=true->p=q
 | [],q,h=>by cases q<;>simp[qF]at h ⊢
 | p :: ps,q,h=>by
   cases q with
   | nil=>simp[qF]at h
   | cons q qs=>
     simp[qF]at h
     rw[Dy h.1,B3 h.2]
end
def NR (all:List Bx) (q p:PV) (K:Prop):Prop:=match ri q with
 | some _=>match ri p with
   | some _=>K
   | none=>False
 | none=>match q,p with
   | .sb k z lo _ _,.sb k' z' I n c=>match Nat.beq k k'&&Nat.beq z z'&&Nat.beq lo I with
     | true=>match all[k]? with
       | some (.arr _ _ es J)=>(n=es.length/\c=J)/\K
       | _=>False
     | false=>False
   | q,p=>match xU q p with
     | true=>K
     | false=>False
def LF (all:List Bx):List PV->List PV->Prop->Prop
 | [],[],K=>K
 | q::qs,p::ps,K=>NR all q p (LF all qs ps K)
 | _,_,_=>False
def MU (all:List Bx)(J B:Bx)(K:Prop):Prop:=match J,B with
 | .var I,.var cs=>LF all I cs K
 | .vd _ n,.vd _ n'=>match Nat.beq n n' with
   | true=>K
   | false=>False
 | .arr t z _ _,.arr O z' _ _=>match Nat.beq t O&&Nat.beq z z' with
   | true=>K
   | false=>False
 | _,_=>False
def LG (all:List Bx):List Bx->List Bx->Prop->Prop
 | [],[],K=>K
 | B0::b0,B::bs,K=>MU all B0 B (LG all b0 bs K)
 | _,_,_=>False
theorem Hp {all:List Bx} {q p:PV} {K:Prop} (h:NR all q p K):K/\(((∃ s,ri q=some s)/\∃ s,ri p=some s)\/(ri q=none/\ri p=none /\
  ∀ I:List Bx,(∀(k:Nat) t z es c,all[k]?=some (.arr t z es c)->I[k]?=some (.arr t z es c))->MI I q=p)):=by
 unfold NR at h;split at h
 ·rename_i s hs;split at h
  ·rename_i s' O;exact⟨h,.inl ⟨⟨s,hs⟩,s',O⟩⟩
  ·exact h.elim
 ·rename_i Z;split at h
  ·rename_i k z lo n0 c0 k' z' aa n c;split at h
   ·rename_i hk;simp only[oM]at hk;obtain⟨⟨U,V⟩,Y⟩:=hk;have U:=nB U;have V:=nB V;have Y:=nB Y;subst U;subst V;subst Y;split at h
    ·rename_i t zz es c' ha;obtain⟨⟨rfl,rfl⟩,hK⟩:=h;refine⟨hK,.inr ⟨rfl,rfl,λI J=>?_⟩⟩;simp only[MI,J _ _ _ _ _ ha]
    ·exact h.elim
   ·exact h.elim
  ·rename_i ab;split at h
   ·rename_i hs;have he:=Dy hs;subst he;refine⟨h,.inr ⟨Z,Z,λI _=>?_⟩⟩;cases q<;>first | rfl | simp[xU]at hs
   ·exact h.elim
theorem rt {all:List Bx}:∀ {O cs:List PV} {K:Prop},LF all O cs K->K/\∀ rest:List PV,(FG O (Id cs++rest)).2=rest /\
  ∀ I:List Bx,(∀(k:Nat) t z es c,all[k]?=some (.arr t z es c)->I[k]?=some (.arr t z es c))->(FG O (Id cs++rest)).1.map (MI I)=cs
 | [],[],K,h=>⟨h,λrest=>⟨rfl,λ_ _=>rfl⟩⟩
 | [],_::_,K,h=>h.elim
 | _::_,[],K,h=>h.elim
 | q::qs,p::ps,K,h=>by
   obtain⟨h1,h2⟩:=Hp h;obtain⟨h3,h4⟩:=rt h1;refine⟨h3,λrest=>?_⟩;obtain⟨Y,Z⟩:=h4 rest;rcases h2 with⟨⟨s,hs⟩,s',U⟩ | ⟨hq,hp,V⟩
   ·simp only[FG,hs,Id,U,nJ];refine⟨Y,λI J=>?_⟩;rw[nE,Z I J];congr 1;cases p<;>simp[ri]at U<;>rfl
   ·simp only[FG,hq,Id,hp];exact⟨Y,λI J=>by rw[nE,Z I J,V I J]⟩
theorem Dp {all:List Bx}:∀ {b0 bs:List Bx} {K:Prop},LG all b0 bs K->K/\∀ rest:List PV,(∀(k:Nat) t z es c,bs[k]?=some (.arr t z es c)->(Gt b0 (A2 bs++rest))[k]?=some (.arr t z es c)) /\
  ∀ I:List Bx,(∀(k:Nat) t z es c,all[k]?=some (.arr t z es c)->I[k]?=some (.arr t z es c))->(Gt b0 (A2 bs++rest)).map (MH I)=bs
 | [],[],K,h=>⟨h,λrest=>⟨by simp,λ_ _=>rfl⟩⟩
 | [],_::_,K,h=>h.elim
 | _::_,[],K,h=>h.elim
 | B0 :: b0,B::bs,K,h=>by
   simp only[LG]at h;have key:∀(K':Prop),MU all B0 B K'->K'/\∀ rest:List PV,(F7 B0 (Gy B++rest)).2=rest/\(∀ t z es c,B=.arr t z es c->(F7 B0 (Gy B++rest)).1=.arr t z es c) /\
     ∀ I:List Bx,(∀(k:Nat) t z es c,all[k]?=some (.arr t z es c)->I[k]?=some (.arr t z es c))->MH I (F7 B0 (Gy B++rest)).1=B:=λK' h=>by
    unfold MU at h;split at h
    ·rename_i Z cs;obtain⟨V,U⟩:=rt h;refine⟨V,λrest=>⟨(U rest).1,λ_ _ _ _ hc=>(by cases hc),λI J=>?_⟩⟩;simp only[F7,MH,Gy,(U rest).2 I J]
    ·rename_i x n y n';split at h
     ·rename_i O;have O:=nB O;subst O;exact⟨h,λrest=>⟨rfl,λ_ _ _ _ hc=>(by cases hc),λ_ _=>rfl⟩⟩
     ·exact h.elim
    ·rename_i t z es0 c0 t' z' es c;split at h
     ·rename_i O;simp only[oM]at O;have V:=nB O.1;have U:=nB O.2;subst V;subst U;exact⟨h,λrest=>⟨rfl,λ_ _ _ _ hc=>(by cases hc;rfl),λ_ _=>rfl⟩⟩
     ·exact h.elim
    ·exact h.elim
   obtain⟨V,U⟩:=key _ h;obtain⟨h3,h4⟩:=Dp V;refine⟨h3,λrest=>?_⟩;have e1:A2 (B::bs)++rest=Gy B++(A2 bs++rest):=by simp[A2]
   rw[e1];obtain⟨h5,h6,h7⟩:=U (A2 bs++rest);obtain⟨h8,h9⟩:=h4 rest;simp only[Gt,h5];refine⟨λk t z es c Y=>?_,λI J=>by rw[nE,h7 I J,h9 I J]⟩;cases k with
   | zero=>simp at Y ⊢;exact h6 _ _ _ _ Y
   | succ k=>simp only[nQ]at Y ⊢;exact h8 k _ _ _ _ Y
theorem Hq {all:List Bx}:∀ {b0 bs:List Bx}{K:Prop},LG all b0 bs K->∀ B∈bs,B≠.gone
 | [],[],K,h=>by simp
 | [],_::_,K,h=>h.elim
 | _::_,[],K,h=>h.elim
 | B0::b0,B::bs,K,h=>by
   simp only[LG]at h;have key:∀ K',MU all B0 B K'->B≠.gone/\K':=λK' h=>by
    unfold MU at h;split at h
    ·exact⟨by simp,(rt h).1⟩
    ·split at h
     ·exact⟨by simp,h⟩
     ·exact h.elim
    ·split at h
     ·exact⟨by simp,h⟩
     ·exact h.elim
    ·exact h.elim
   obtain⟨I,J⟩:=key _ h;intro C hC;rcases oH.1 hC with rfl | hC
   ·exact I
   ·exact Hq J C hC
theorem Ja {b0 bs:List Bx}{K:Prop}(h:LG bs b0 bs K):K/\DK b0 (A2 bs)=bs:=by obtain⟨O,U⟩:=Dp h;obtain⟨I,J⟩:=U [];rw[nH]at I J;exact⟨O,J _ I⟩
def xT (E:Env):Nat->List Bx->List (Option Nat)
 | _,[]=>[]
 | k,B::bs=>(match B with
   | .var _=>some ((E.at k).getD 0)
   | .vd _ _=>some ((E.at k).getD 0)
   | _=>none)::xT E (k+1) bs
theorem ua {E:Env}:∀(bs:List Bx)(k:Nat),(xT E k bs).length=bs.length
 | [],k=>rfl
 | B::bs,k=>by simp[xT,ua bs]
theorem Dx {E:Env}:∀(bs:List Bx)(k j:Nat)(B:Bx),bs[j]?=some B->B.isArr=false->(xT E k bs)[j]?=some (some ((E.at (k+j)).getD 0))
 | B::bs,k,0,B',h,I=>by simp at h;subst h;cases B<;>simp[Bx.isArr]at I<;>simp[xT]
 | B::bs,k,j+1,B',h,I=>by simp only[nQ]at h;simp only[xT,nQ];rw[Dx bs (k+1) j B' h I,show k+1+j=k+(j+1) by omega]
def Ki (p:Option (List (Option Nat) × List Nat))(E:Env)(bx0:List Bx):Prop:=p=some (xT E 0 bx0,[])
def zO (E:Env)(bx0:List Bx):Prop:=Ki (some (xT E 0 bx0,[])) E bx0
theorem zn {E:Env}{bx0:List Bx}:zO E bx0:=rfl
def Lp:List Sh->Bool
 | []=>true
 | .pk::_=>false
 | _::l=>Lp l
def LJ (st:St)(m:Nat):List Nat:=(sk st.bx 200 (List.range m) []).filter λk=>MR st k&&Nat.ble m k
def HE (full:List Sh)(ps:List PV):List PV:=match full with
 | .bk _::_=>[.int .i64 0]
 | _=>ps
def ND (st:St) (m:Nat) (full:List Sh) (ps:List PV) (K:Prop):Prop:=match full with
 | .bk j::_=>match ps with
   | [.sb k z lo n c]=>match st.bx[j]? with
     | some (.arr _ z' es I)=>match Nat.beq k j&&Nat.beq lo 0&&Nat.beq z z'&&Nat.blt j m with
       | true=>(n=es.length/\c=I)/\K
       | false=>False
     | _=>False
   | _=>False
 | _=>K
theorem HD {m:Nat}{full:List Sh}{ps:List PV}{K:Prop}(h:ND st m full ps K):K/\(((∀ j l,full≠.bk j::l)/\HE full ps=ps)\/∃ j l t z es c,full=.bk j::l/\ps=[.sb j z 0 es.length c]/\st.bx[j]?=some (.arr t z es c)/\j<m/\HE full ps=[.int .i64 0]):=by
 unfold ND at h;split at h
 ·rename_i j l;split at h
  ·rename_i k z lo n c;split at h
   ·rename_i t z' es c' Y;split at h
    ·rename_i U;simp only[oM]at U;obtain⟨⟨⟨I,J⟩,O⟩,Z⟩:=U;have I:=nB I;have J:=nB J;have O:=nB O;subst I;subst J;subst O;obtain⟨⟨rfl,rfl⟩,hK⟩:=h;exact⟨hK,.inr ⟨_,_,_,_,_,_,rfl,rfl,Y,by simpa [Nat.blt_eq]using Z,rfl⟩⟩
    ·exact h.elim
   ·exact h.elim
  ·exact h.elim
 ·rename_i V;refine⟨h,.inl ⟨λj l hc=>V j l hc,?_⟩⟩;unfold HE;split
  ·exact absurd rfl (V _ _)
  ·rfl
def Nj (full:List Sh):List Sh:=match full with
 | .bk _::l=>.row 0 0::l
 | l=>l
def HH:List Sh->List Sh
 | .pk::l=>l
 | l=>l
def NV (pk:Bool)(ps:List PV):Bool:=match pk with
 | true=>match ps with
   | [.pg _]=>true
   | _=>false
 | false=>true
def Ls (P:Program)(f:FuncId)(full:List Sh)(Q:QT full)(N0:Option Nat)(E:Env)(bx0:List Bx)(st:St):Prop:=
 match P.funcs[f]? with
 | some fn=>uo N0 #[] [] (M0 (Nj full) (fn.results.toList.map F0)) (fn.results.toList.map F0) st λst=>Da N0 [] [] (LJ st bx0.length) st λst=>
  Ki st.pin E bx0/\LG (st.bx.take bx0.length) bx0 (st.bx.take bx0.length) (LY P st fn.results.toList λps=>match Nat.beq fn.resultTypes.size fn.results.size&&(((HH full).drop (AK P f full bx0)).all λs=>!Cc s)&&(bx0.all λB=>B.refs.all λi=>decide (i<bx0.length))&&Lp (HH full)&&(NV (qg full) (zY P fn.resultTypes.toList ps)&&Nat.beq (qj (qg full) (zY P fn.resultTypes.toList ps)).length (AK P f full bx0))with
  | true=>ND st bx0.length full (qj (qg full) (zY P fn.resultTypes.toList ps)) (xq st full Q (List.range bx0.length) (HE full (qj (qg full) (zY P fn.resultTypes.toList ps))++A2 (st.bx.take bx0.length)))
  | false=>False)
 | none=>False
theorem DF:∀ {cs:List PV}{p:PV},p∈Id cs->p∈cs/\Db p=true/\p.refs=[]
 | q :: cs,p,h=>by
   simp only[Id]at h;split at h
   ·rename_i s hs;rcases oH.1 h with rfl | h
    ·refine⟨by simp,?_⟩;cases p<;>simp[ri]at hs<;>exact⟨rfl,rfl⟩
    ·obtain⟨I,J⟩:=DF h;exact⟨by simp[I],J⟩
   ·obtain⟨I,J⟩:=DF h;exact⟨by simp[I],J⟩
theorem Lb {e ne:Env}{m:Nat}{B:Bx}(h:B.row):BPick e ne m B B:=by
 cases B with
 | arr t z es c=>exact⟨.inr (.inl ⟨rfl,by simp⟩)⟩
 | _ =>
   obtain⟨_,_,_,_,_,O⟩:=h;cases O<;>exact⟨.inr (.inr ⟨_,_,rfl,rfl,rfl,λi q I=>by
    have J:q.refs=[]:=by
     have:=oB I
     simp at this;rcases this with rfl | rfl | rfl<;>rfl
    exact .inr ⟨q,I,id,PV.cv_congr q (by simp[J]),λ_ _=>id,id,by simp[J]⟩⟩)⟩
theorem Hr {s:Sh}{l:List Sh}(h:Lp (s::l)=true):s≠.pk/\Lp l=true:=by cases s<;>simp[Lp]at h<;>exact⟨by simp,h⟩
theorem QT.app_plainrow:∀(l:List Sh)(Q:QT l)(b:Nat)(ps:List PV)(rows:List Bx)(N:Nat),Lp l=true->QT.app l Q b ps rows N->ps.length=l.length/\∀(i:Nat)(s:Sh)(p:PV),l[i]?=some s->Cc s=false->ps[i]?=some p->NQ p=false
 | [],Q,b,ps,rows,N,O,h=>by cases ps<;>cases rows<;>simp[QT.app]at h ⊢
 | s :: l,Q,b,ps,rows,N,O,h=>by
   obtain⟨hs,O⟩:=Hr O;cases ps with
   | nil=>cases s<;>first | exact absurd rfl hs | (simp[QT.app]at h;done)
   | cons p ps=>
     have key:(∃(U:QT l) (b':Nat) (I:List Bx),QT.app l U b' ps I N)/\(Cc s=false->NQ p=false):=by
      cases s<;>(try(exact absurd rfl hs))<;>cases p<;>(try(exact h.elim))<;>(try(simp[QT.app]at h;done))<;>first
       | exact⟨⟨_,_,_,h⟩,λ_=>rfl⟩
       | exact⟨⟨_,_,_,h⟩,λhc=>by cases hc⟩
       | exact⟨⟨_,_,_,h.2⟩,λ_=>rfl⟩
       | skip
      all_goals
       cases rows with
       | nil=>simp[QT.app]at h
       | cons B rows=>
         cases B<;>first
          | exact⟨⟨_,b+1,_,h.2⟩,λhc=>by cases hc⟩
          | (simp[QT.app]at h;done)
          | (obtain⟨_,_,_,_,_,_,_,h⟩:=h;exact⟨⟨_,_,_,h⟩,λhc=>by cases hc⟩)
     obtain⟨⟨U,b',I,Y⟩,Z⟩:=key;obtain⟨h1,h2⟩:=QT.app_plainrow l U b' ps I N O Y;refine⟨by simp[h1],λi s' p' hs V J=>?_⟩;cases i with
     | zero=>simp at hs J;subst hs;subst J;exact Z V
     | succ i=>exact h2 i s' p' (by simpa using hs) V (by simpa using J)
theorem QT.app_body {full:List Sh}{Q:QT full}{b:Nat}{ps:List PV}{rows:List Bx}{N:Nat}(h:QT.app full Q b ps rows N):∃ I:QT (HH full),QT.app (HH full) I b ps rows N:=by
 cases full with
 | nil=>exact⟨Q,h⟩
 | cons s l=>cases s<;>first | exact⟨Q,h⟩ | exact⟨Q,h.2⟩
theorem Hw {pk:Bool}{ps:List PV}(h:NV pk ps=true):(pk=false/\qj pk ps=ps)\/∃ cs,pk=true/\ps=[.pg cs]/\qj pk ps=cs:=by
 cases pk with
 | false=>exact .inl ⟨rfl,rfl⟩
 | true=>
   unfold NV at h;simp only at h;split at h
   ·exact .inr ⟨_,rfl,rfl,rfl⟩
   ·cases h
theorem Fy {E:Env} (h:Rel av w0 E [] [] a w e st) {f:FuncId} {full:List Sh} {Q:QT full} {N0:Option Nat} (hN0:NOk N0 w0) {bx0:List Bx} (hs:Ls P f full Q N0 E bx0 st):∃ fn v,P.funcs[f]?=some fn/\(results fn a.tmps).run P w=.ok v w/\Lw full Q (AK P f full bx0) av w0 E bx0 (.returned v) w:=by
 unfold Ls at hs;split at hs
 rotate_left
 ·exact hs.elim
 rename_i fn hf;obtain⟨st0,T,h0,_,_,h1⟩:=xj h hN0 (by simp) hs;obtain⟨st1,h2,_,h3⟩:=uE hN0 (by simp) (by simp) _ _ h1 (by simp) h0;obtain⟨hpin,h2⟩:=h2;unfold Ki at hpin;have hgn:=Hq h2;obtain⟨h2,hupd⟩:=Ja h2;obtain⟨vs,ps,h2,hrun,hvl,hpl,hvp⟩:=vH h3 _ _ h2;split at h2
 rotate_left
 ·exact h2.elim
 rename_i hbool;simp only[oM,oc,nC,oi]at hbool;obtain⟨⟨⟨⟨hrt,hrow⟩,hclosed⟩,hnpk⟩,hpgk,hkn⟩:=hbool;have hkn:=nB hkn;have hrt:=nB hrt;obtain⟨h2,hbk⟩:=HD h2;clear hs;generalize AK P f full bx0=nn at hrow hkn ⊢;have hpins:st1.pins=xT E 0 bx0:=by simp[St.pins,hpin]
 have hns:∀ p∈A2 (st1.bx.take bx0.length),Db p=true/\p.refs=[]:=fun p hp=>by
  simp only[A2,nj]at hp;obtain⟨B,_,hp⟩:=hp;cases B<;>simp only[Gy]at hp
  ·exact(DF hp).2
  ·simp at hp;subst hp;exact⟨rfl,rfl⟩
  ·simp at hp;subst hp;exact⟨rfl,rfl⟩
  ·simp at hp
 obtain⟨ul,ug⟩:=Cv bx0 (A2 (st1.bx.take bx0.length)) fun p hp=>(hns p hp).2;rw[hupd]at ul ug;have hm:bx0.length<=st1.bx.length:=by rw[nl]at ul;omega
 have hgn:∀(k:Nat) (B:Bx),k<bx0.length->st1.bx[k]?=some B->B≠.gone:=fun k B hk hB=>hgn B (oB (i:=k) (by rw[ou];simp[hk,hB]));have htk:∀ j,j<bx0.length->(st1.bx.take bx0.length)[j]?=st1.bx[j]?:=fun j hj=>by rw[ou];simp[hj]
 have hrefs:∀(j:Nat) (B:Bx),j<bx0.length->st1.bx[j]?=some B->∀ i∈B.refs,i<bx0.length:=fun j B hj hB i hi=>by obtain⟨B1,g1,g2,_⟩:=ug j B (by rw[htk j hj];exact hB);exact hclosed B1 (oB g1) i (g2 i hi)
 have hres:∀(i:Nat) (p:PV),(zY P fn.resultTypes.toList ps)[i]?=some p->∃ v,vs[i]?=some v/\ValOk av w e [] st1.bx v p:=fun i p hp=>by
  obtain⟨q,hq,hqp⟩:=vW _ _ _ _ hp;have hlt:i<vs.length:=by rw[hvl,<-hpl];exact(oD.1 hq).1
  have hv:=hvp i _ q (oF hlt) hq;refine⟨_,oF hlt,?_⟩;rcases hqp with rfl | ⟨ty,rfl⟩
  ·exact hv
  ·exact hv.retag ty
 have hpk:=Hw hpgk;have hresK:∀ p∈qj (qg full) (zY P fn.resultTypes.toList ps),p.Ok w (zF av [] e st1.bx):=fun p hp=>by
  rcases hpk with⟨_,g⟩ | ⟨cs,_,g1,g⟩
  ·rw[g]at hp;obtain⟨i,hi⟩:=oS.1 hp;obtain⟨t,_,hv⟩:=hres i p hi;exact hv.2.1
  ·rw[g]at hp;obtain⟨v,_,hvo⟩:=hres 0 (.pg cs) (by rw[g1];rfl)
   have:=hvo.2.1
   simp only[PV.Ok]at this;exact PV.OkL_iff.1 this.1 p hp
 generalize qj (qg full) (zY P fn.resultTypes.toList ps)=psk at hkn hpk hresK h2 hbk ⊢;have hprOk:∀ p∈HE full psk,p.Ok w (zF av [] e st1.bx):=fun p hp=>by
  rcases hbk with⟨_,g⟩ | ⟨j,l,t,z,es,c,_,_,_,_,g⟩
  ·rw[g]at hp;exact hresK p hp
  ·rw[g]at hp;rw[nG]at hp;subst hp;trivial
 obtain⟨qs,s,g1,g2,g3,g4⟩:=zU h3 full Q (List.range bx0.length) _ bx0.length h2 (fun p hp=>by
  rcases oP.1 hp with hp | hp
  ·exact .inl (hprOk p hp)
  ·exact .inr (hns p hp).1)
 have hn0:psk.length=nn:=hkn;have hr0:(zY P fn.resultTypes.toList ps).length=fn.resultTypes.size:=by rw[yg,hpl,hrt];simp
 have hn:(HE full psk).length=nn:=by
  rcases hbk with⟨_,g⟩ | ⟨j,l,t,z,es,c,_,g2,_,_,g⟩
  ·rw[g];exact hn0
  ·rw[g,<-hn0,g2];rfl
 have hvn:vs.length=fn.resultTypes.size:=by rw[hvl,hrt];simp
 obtain⟨Q',g1'⟩:=QT.app_body g1;obtain⟨hql,hqrow⟩:=QT.app_plainrow _ _ _ _ _ _ hnpk g1';have hel:bx0.length<=e.length:=by rw[h3.el];exact hm
 have hEl:(e.take bx0.length).length=bx0.length:=by simp;omega
 have hqx:qs.drop nn=A2 (st1.bx.take bx0.length):=by
  apply nI;intro i;rw[nP];cases hx:(A2 (st1.bx.take bx0.length))[i]? with
  | none=>
    refine oh ?_;rw[g3,oK,hn]
    have:=np.1 hx
    omega
  | some p=>
    have hlt:nn+i<qs.length:=by
     rw[g3,oK,hn]
     have:=(oD.1 hx).1
     omega
    have hq:=oF hlt;have hp:(HE full psk++A2 (st1.bx.take bx0.length))[nn+i]?=some p:=by rw[oT (by omega),hn];simpa using hx
    have ht:=(g4 _ hEl _ p _ hp hq).2.2.2 (hns p (oB hx)).1;have hlf:nn+i<(HH full).length:=by rw[<-hql];exact hlt
    have hsb:=hqrow (nn+i) _ _ (oF hlf) (hrow _ (oB (i:=i) (by rw[nP,oF hlf]))) hq;rcases ht with ht | ht
    ·rw[hq,ht]
    ·rw[hsb]at ht;cases ht
 have hqs:qs=qs.take nn++A2 (st1.bx.take bx0.length):=by rw[<-hqx];exact(nK _ _).symm
 have hql1:(qs.take nn).length=nn:=by rw[nl,g3,oK,hn];omega
 have hne:((List.range bx0.length).map some++s.map (·.1)).map (fun u=>Option.bind u e.at)=e.take bx0.length++s.env e:=by
  rw[mP];congr 1
  ·apply nI;intro i;by_cases hi:i<bx0.length
   ·rw[ou];have:i<e.length:=by omega
    simp[hi,Env.at,oA,this]
   ·rw[oh (by simp;omega),oh (by simp;omega)]
  ·simp[Sel.env]
 have hatk:∀ k,k<bx0.length->Env.at (e.take bx0.length++s.env e) k=e.at k:=fun k hk=>by rw[Env.at_app,if_pos (by rw[hEl];exact hk)];simp[Env.at,oA,ou,hk]
 have hus:∀(j:Nat) u,((List.range bx0.length).map some++s.map (·.1))[j]?=some u->(j<bx0.length/\u=some j)\/∃ x,s[j - bx0.length]?=some x/\bx0.length<=j/\u=x.1:=fun j u hj=>by
  by_cases hlt:j<bx0.length
  ·rw[oJ (by simpa using hlt)]at hj;simp[hlt]at hj;exact .inl ⟨hlt,hj.symm⟩
  ·rw[oT (by simp;omega)]at hj;simp only[nZ,List.length_range,oE]at hj;cases hx:s[j - bx0.length]? with
   | none=>simp[hx]at hj
   | some x=>simp[hx]at hj;exact .inr ⟨x,rfl,by omega,hj.symm⟩
 have hnb:∀(j:Nat) (B:Bx),(st1.bx.take bx0.length++s.rows)[j]?=some B->(j<bx0.length/\st1.bx[j]?=some B)\/∃ x,s[j - bx0.length]?=some x/\bx0.length<=j/\B=x.2:=fun j B hj=>by
  by_cases hlt:j<bx0.length
  ·rw[oJ (by rw[ul];exact hlt),htk j hlt]at hj;exact .inl ⟨hlt,hj⟩
  ·rw[oT (by rw[ul];omega),ul]at hj;simp only[Sel.rows,oE]at hj;cases hx:s[j - bx0.length]? with
   | none=>simp[hx]at hj
   | some x=>simp[hx]at hj;exact .inr ⟨x,rfl,by omega,hj.symm⟩
 have hsel:∀(i:Nat) x k,s[i]?=some x->x.1=some k->bx0.length<=k/\∃ B,st1.bx[k]?=some B/\B≠.gone:=fun i x k hx hk=>by
  refine⟨?_,?_⟩
  ·have:=g2.un k (nT.2 ⟨x,oB hx,hk⟩)
   simpa using this
  ·rcases g2.at_ x (oB hx)with⟨h5,_⟩ | ⟨k2,h5,h6,h7⟩
   ·rw[h5]at hk;cases hk
   ·rw[hk]at h5;cases h5;exact⟨x.2,h6,h7.sp.1⟩
 obtain ⟨m1,m2,m3⟩:=Ff (us:=(List.range bx0.length).map some++s.map (·.1)) (nb:=st1.bx.take bx0.length++s.rows) (av':=av) h3.toMem (fun b hb=>.inl hb) (by simp[Sel.rows,ul])
  (fun i j k hi hj=>by
   rcases hus i _ hi with⟨a1,a2⟩ | ⟨x,a1,a2,a3⟩<;>rcases hus j _ hj with⟨b1,b2⟩ | ⟨y,b1,b2,b3⟩
   ·cases a2;cases b2;rfl
   ·cases a2;have:=(hsel _ y _ b1 b3.symm).1;omega
   ·cases b2;have:=(hsel _ x _ a1 a3.symm).1;omega
   ·have key:∀(s:Sel) (i j:Nat) (x y:Option Nat × Bx),(s.filterMap (·.1)).Nodup->s[i]?=some x->s[j]?=some y->x.1=some k->y.1=some k->i=j:=by
     intro s
     induction s with
     | nil=>intro i j x y _ hx;simp at hx
     | cons u s ih=>
       intro i j x y hn hx hy hxk hyk;have hn':(s.filterMap (·.1)).Nodup:=by
        cases hu:u.1 with
        | none=>simpa [hu]using hn
        | some m=>simp only[na,hu]at hn;exact(nV.1 hn).2
       have hnm:u.1=some k->k∉s.filterMap (·.1):=fun hu=>by simp only[na,hu]at hn;exact(nV.1 hn).1
       cases i with
       | zero=>
         simp at hx;subst hx;cases j with
         | zero=>rfl
         | succ j=>simp at hy;exact absurd (nT.2 ⟨y,oB hy,hyk⟩) (hnm hxk)
       | succ i=>
         simp at hx;cases j with
         | zero=>simp at hy;subst hy;exact absurd (nT.2 ⟨x,oB hx,hxk⟩) (hnm hyk)
         | succ j=>simp at hy;rw[ih i j x y hn' hx hy hxk hyk]
    have:=key s _ _ x y g2.nd a1 b1 a3.symm b3.symm
    omega)
  (fun j B hj=>by
   rcases hnb j B hj with⟨a1,a2⟩ | ⟨x,a1,a2,rfl⟩
   ·refine .inr ⟨j,B,?_,by simp,a2,⟨?_⟩⟩
    ·rw[oJ (by simpa using a1)];simp[a1]
    ·rw [hne];cases B with
     | var cs=>
       refine .inr (.inr ⟨cs,cs,rfl,rfl,rfl,fun i q hq=>.inr ⟨q,hq,id,?_,fun _ _=>id,id,fun r hr=>?_⟩⟩)
       ·have hr:∀ r∈q.refs,r<bx0.length:=fun r hr=>hrefs j _ a1 a2 r (by simp only[Bx.refs];exact PV.refsL_mem.2 ⟨q,oB hq,hr⟩);exact(PV.cv_congr q fun r hr2=>hatk r (hr r hr2)).symm
       ·have:=hrefs j _ a1 a2 r (by simp only[Bx.refs];exact PV.refsL_mem.2 ⟨q,oB hq,hr⟩)
        simp;omega
     | _=>exact .inr (.inl ⟨rfl,by simp⟩)
   ·have hjs:((List.range bx0.length).map some++s.map (·.1))[j]?=some x.1:=by rw[oT (by simp;omega)];simp[a1]
    rcases g2.at_ x (oB a1)with⟨h5,t,z,h6⟩ | ⟨k2,h5,h6,h7⟩
    ·exact .inl ⟨by rw[hjs,h5],t,z,h6⟩
    ·exact .inr ⟨k2,x.2,by rw[hjs,h5],by simp,h6,Lb h7⟩)
 rw[hne]at m1 m2 m3;have hng:∀ k b,k<bx0.length->e.at k=some b->Lives [] e st1.bx k b:=fun k b hk hb=>by
  obtain⟨B,hB⟩:∃ B,st1.bx[k]?=some B:=⟨_,oF (by omega)⟩
  exact⟨by simp,hb,B,hB,hgn k B hk hB⟩
 refine⟨fn,_,hf,vV hrun,qs.take nn,A2 (st1.bx.take bx0.length),s.rows,e.take bx0.length++s.env e,?_,{
  q:=by rw[<-hqs];exact g1
  v:=?_
  m:=by rw[hupd];exact m1
  ok:=fun q hq=>?_
  fix:=fun k B hB ha=>?_
  fresh:=fun k b hb=>?_
  size:=h3.size
  old:=h3.old
  fz:=h3.fz
  ku:=h3.ku
  ns:=fun p hp=>(hns p hp).2
  be:=F9 h3.toMem rfl fun B hB=>oW hB }⟩
 ·exact hql1
 ·rcases hbk with⟨gn,gp⟩ | ⟨j,l,t,z,es,c,gf,gps,gj,gm,gp⟩
  ·rw[AV gn];rw[gp]at g4 g3;rcases hpk with⟨gk,hpk⟩ | ⟨cs,gk,hcs,hpk⟩
   rotate_left
   ·have hqC:=QT.app_pk gk g1;obtain⟨v,hv0,hvo⟩:=hres 0 (.pg cs) (by rw[hcs];rfl);have hvs:vs=[v]:=by
     have h5:vs.length=1:=by rw[hvn,<-hr0,hcs];rfl
     rcases vs with _ | ⟨u,_ | _⟩<;>simp at h5 hv0
     subst hv0;rfl
    have hok:=hvo.2.1;simp only[PV.Ok]at hok;rw[hvs,gk];simp only[Mq,Gp];rw[hvo.1.resolve_left (by simp)];simp only[PV.val,PV.val1,PV.cvs_eq];congr 2;apply nI;intro i;rw[oE,oE];have hcl:cs.length=nn:=by rw[<-hkn,hpk]
    by_cases hi:i<nn
    ·have hlt:i<(qs.take nn).length:=by omega
     have hq:=oF hlt;have hq2:qs[i]?=some (qs.take nn)[i]:=by rw[<-hq,ou];simp[hi]
     obtain⟨x,hp⟩:∃ x,cs[i]?=some x:=⟨_,oF (by omega)⟩
     have hp2:(psk++A2 (st1.bx.take bx0.length))[i]?=some x:=by rw[oJ (by omega),hpk];exact hp
     have h5:=g4 _ hEl i _ _ hp2 hq2;rw[hq,hp];simp only[oU,od];rw[<-CU (hok.2 _ (oB hp)),h5.1,Bz (hqC _ (oB hq2))]
    ·rw[oh (by omega),oh (by omega)];rfl
   have hfn:fn.resultTypes.size=nn:=by rw[<-hr0,<-hpk,<-hkn]
   rw[gk];have hv:vs=(qs.take nn).map (PV.val1 (e.take bx0.length++s.env e)):=by
    apply nI;intro i;rw[oE];by_cases hi:i<nn
    ·have hlt:i<(qs.take nn).length:=by omega
     have hq:=oF hlt;have hq2:qs[i]?=some (qs.take nn)[i]:=by rw[<-hq,ou];simp[hi]
     have hp:psk[i]?=some psk[i]:=oF (by omega);obtain⟨v,hv,hvo⟩:=hres i _ (by rw[<-hpk];exact hp);have hp2:(psk++A2 (st1.bx.take bx0.length))[i]?=some psk[i]:=by rw[oJ (by omega)];exact hp
     have h5:=g4 _ hEl i _ _ hp2 hq2;rw[hv,hq,hvo.1.resolve_left h5.2.2.1,h5.1];rfl
    ·rw[oh (by omega),oh (by omega)];rfl
   rw[hv];simp only[Gp];unfold IJ;rcases qs.take nn with _ | ⟨q,_ | ⟨r,qs⟩⟩<;>rfl
  ·rcases hpk with⟨gk,hpk⟩ | ⟨cs,gk,_,_⟩
   rotate_left
   ·rw[gf]at gk;cases gk
   have h1:psk[0]?=some (.sb j z 0 es.length c):=by rw[gps];rfl
   obtain⟨v,hv,hvo⟩:=hres 0 _ (by rw[<-hpk];exact h1);have hlen:vs.length=1:=by rw[hvn,<-hr0,<-hpk,gps];rfl
   have hvs:vs=[v]:=by
    match vs,hlen with
    | [v'],_=>simp at hv;rw[hv]
   have hUj:(DK bx0 (A2 (st1.bx.take bx0.length)))[j]?=some (.arr t z es c):=by rw[hupd,htk j gm];exact gj
   rw[hvs,gf];simp only[IK,hUj,PV.cv,hatk j gm]
   have:=hvo.1.resolve_left (by simp)
   rw[this];rfl
 ·rw[hupd];obtain⟨i,hi⟩:=oS.1 hq;have hlt:=(oD.1 hi).1;rw[hql1]at hlt;have hq2:qs[i]?=some q:=by rw[<-hi,ou];simp[hlt]
  have hp:(HE full psk)[i]?=some (HE full psk)[i]:=oF (by omega);have hvo:=hprOk _ (oB hp);have hp2:(HE full psk++A2 (st1.bx.take bx0.length))[i]?=some (HE full psk)[i]:=by rw[oJ (by omega)];exact hp
  exact PV.Ok.mono (fun _ _ _=>rfl) (oG _) (fun b _=>m2 b) q ((g4 _ hEl i _ _ hp2 hq2).2.1 hvo)
 ·have hkl:=(oD.1 hB).1;have h5:=Dx (E:=E) bx0 0 k B hB ha;rw[<-hpins,nX]at h5;rw[hatk k hkl];exact(h3.pin k _ h5).1
 ·by_cases hkl:k<bx0.length
  ·rw[hatk k hkl]at hb;rcases h3.own k b (hng k b hkl hb)with h5 | ⟨h5,_⟩
   ·exact .inl h5
   ·exact .inr ⟨hkl,h5⟩
  ·rw [Env.at_app,if_neg (by omega),hEl]at hb;cases hx:s[k - bx0.length]? with
   | none=>simp[Sel.env,Env.at,oA,hx]at hb
   | some x=>
     simp only[Sel.env,Env.at,oA,oE,hx,oU,nA]at hb;cases hxk:x.1 with
     | none=>rw[hxk]at hb;cases hb
     | some k2=>
       rw[hxk]at hb;obtain⟨h5,B,h6,h7⟩:=hsel _ x k2 hx hxk;rcases h3.own k2 b ⟨by simp,hb,B,h6,h7⟩with h8 | ⟨_,h8⟩
       ·exact .inl h8
       ·rw[hpins,ua]at h8;omega
theorem Gm (J:Dfs.on=none){E:Env}(h:Rel av w0 E [] [] a w e st){f:FuncId}{full:List Sh}{Q:QT full}{k:List Item}(O:k=[]\/∃ k',k=.code .ret::k'){N0:Option Nat}(I:NOk N0 w0){bx0:List Bx}(hs:Ls P f full Q N0 E bx0 st):Gz P f k (Lw full Q (AK P f full bx0) av w0 E bx0) a w:=by obtain⟨fn,v,U,V,Y⟩:=Fy h I hs;exact pF J O U h.nd V Y
variable {av:Nat->Prop} {P:Program} {w0 w w':World} {e0 e:Env} {pS pS' pB pB':List Nat} {a:Act} {st st':St}
variable {av:Nat->Prop} {P:Program} {w0 w w':World} {e0 e:Env} {pS pS' pB pB':List Nat} {a:Act} {st st':St}
structure Hint where
 cuts:List Cut:=[]
 joins:List Cut:=[]
 ords:List (Nat × List Ent):=[]
def eh (i:Nat):Ent:={ i:=i,hard:=true }
def en (i:Nat):Ent:={ i:=i }
def ec (i:Nat)(cl:List Nat):Ent:={ i:=i,hard:=true,cl:=cl }
def em (i:Nat)(I:Option Nat)(keep:List Nat)(same:Option Nat:=none):Ent:={ i:=i,hard:=true,mh:=some { place:=I,keep:=keep,same:=same } }
def MF (i:Nat):List Ent->Ent
 | []=>eh i
 | e::l=>match Nat.beq e.i i with
   | true=>e
   | false=>MF i l
def Nx (l:List Ent)(n:Nat):Nat->List Ent
 | 0=>[]
 | k+1=>MF (n - (k+1)) l::Nx l n k
def hs (n:Nat)(l:List Ent):List Ent:=Nx l n n
def hc (id:Nat)(keep:List Nat)(nils:List (Nat × TypeId × Nat):=[])(bnils:List (Nat × Nat × TypeId × Nat):=[]):Cut:={ id:=id,keep:=keep,nils:=nils,bnils:=bnils }
def an:Nat->List PV->List PV
 | 0,l=>l
 | n+1,l=>.any::an n l
def rp:Code->Option Nat
 | .region id _ _=>some id
 | .seq a b=>match rp a with
   | some i=>some i
   | none=>rp b
 | .block _ c=>rp c
 | .loop c=>rp c
 | _=>none
def Ek:List Cut->Nat->Option Cut
 | [],_=>none
 | c::l,id=>match Nat.beq c.id id with
   | true=>some c
   | false=>Ek l id
def HX:List (Nat × List Ent)->Nat->Option (List Ent)
 | [],_=>none
 | (i,o)::l,id=>match Nat.beq i id with
   | true=>some o
   | false=>HX l id
def Ji (n:Nat):List Ent:=(List.range n).map λi=>{ i:=i,hard:=true }
def Jf (H:Hint)(id:Nat)(ops:Array Oper):List Ent:=match HX H.ords id with
 | some o=>o
 | none=>Ji ops.size
def MS (first:Bool)(H:Hint)(id:Nat):Option Cut:=match first with
 | true=>none
 | false=>Ek H.joins id
def Mw (N0:Option Nat)(H:Hint)(c:Code)(st:St)(K:St->Prop):Prop:=match rp c with
 | some id=>match Ek H.cuts id with
   | some cut=>NK N0 cut st λst=>qf st K
   | none=>False
 | none=>False
def Ni (st:St)(c:Operand)(v:Bool):St:=match c with
 | .tmp t=>st.put (some t) (.bool v)
 | _=>st
def MB (st:St)(c:Operand)(A B:St->Prop):Prop:=match opd st.sl c with
 | .bool v=>Br v (A (Ni st c true)) (B (Ni st c false))
 | _=>False
inductive Mode where
 | ord
 | io (E:Env) (bx0:List Bx)
 | df (E:Env) (K:St->Prop)
 | mk (T:List Nat) (ob:Option Nat) (xr:Nat × TypeId) (Q:Int->D->Nat->Prop)
def Mode.env0:Mode->Env
 | .ord=>[]
 | .io E _=>E
 | .df E _=>E
 | .mk T _ _ _=>T.map some
def Mode.n0:Mode->Nat->Option Nat
 | .ord,N=>some N
 | .io ..,N=>some N
 | .df ..,N=>some N
 | .mk ..,_=>none
def KC (w:World)(ob:Option Nat)(z:Nat)(x:D):Prop:=match ob with
 | some b=>∃ t es c e,x=.ag es/\Bx.Rel w e (some b) (.arr t z es c)
 | none=>∃ n,IsAg n x
structure DoneM (T:List Nat) (ob:Option Nat) (z:Nat) (Q:Int->D->Nat->Prop) (w0 w:World) (k:Int) (x:D):Prop where
 q:Q k x w.heap.size
 hd:Holds w x
 bx:KC w ob z x
 size:w0.heap.size<=w.heap.size
 old:∀ b,b<w0.heap.size->b∉T->w.heap[b]?=w0.heap[b]?
 fz:∀(b:Nat) (c:Array Value) (t:TypeId) (z:Nat × Nat),(w0.heap.size<=b\/b∈T)->w.heap[b]?=some (.cells c t z)->Fz z
 ku:KU w0 w
def OH (T:List Nat)(ob:Option Nat)(z:Nat)(Q:Int->D->Nat->Prop)(w0:World):Ending->World->Prop
 | .returned v,w=>∃ k x,v=.int .i64 k/\DoneM T ob z Q w0 w k x
 | _,_=>False
def Mode.fin (M:Mode)(P:Program)(f:FuncId)(rs:List Sh)(Q:QT rs)(av:Nat->Prop)(w0:World):Ending->World->Prop:=match M with
 | .ord=>Fin rs Q av w0
 | .io E bx0=>Lw rs Q (AK P f rs bx0) av w0 E bx0
 | .df E K=>λen w=>∃ a e st,en=.returned (.tuple a.tmps)/\K st/\Rel av w0 E [] [] a w e st
 | .mk T ob xr I=>OH T ob xr.1 I w0
def Jp (P:Program) (st:St) (ob:Option Nat) (xr:Nat × TypeId) (K:D->Prop):Prop:=match ob with
 | some b=>match st.pin with
   | some (some b'::_,_)=>match st.bx with
     | .arr _ z es _::_=>match decide (z=xr.1)with
       | true=>b'=b/\K (.ag es)
       | false=>False
     | _=>False
   | _=>False
 | none=>tq P (opd st.sl) (λk=>st.bx[k]?) (.load xr.2 (.tmp xr.1)) xr.2 λp=>match Ds p with
   | .dg _ x=>K x
   | _=>False
def OE (P:Program)(f:FuncId)(ob:Option Nat)(xr:Nat × TypeId)(Q:Int->D->Nat->Prop)(st:St):Prop:=match P.funcs[f]? with
 | some fn=>LY P st fn.results.toList λps=>match ps with
   | [.int k n]=>match k with
     | .i64=>Jp P st ob xr λx=>∀ N,st.N<=N->Q n x N
     | _=>False
   | _=>False
 | none=>False
def Mz (P:Program)(f:FuncId)(rs:List Sh)(Q:QT rs)(N0:Nat)(M:Mode)(st:St):Prop:=match Dfs.on with
 | none=>match M with
   | .ord=>Nd P f rs Q (some N0) st
   | .io E bx0=>Ls P f rs Q (some N0) E bx0 st
   | .df ..=>False
   | .mk _ ob xr I=>OE P f ob xr I st
 | some _=>match M with
   | .df _ K=>K st
   | _=>False
def dfS (st:St):Option (St × Nat):=match st.bx with
 | .var [.str s,.int .i64 n]::.var [.pb 0 0 0 0]::bs=>match st.pin with
   | some ([x,some b],[])=>some ({ st with bx:=.var [.str s,.int .i64 (IntKind.i64.wrap (n - 1))]::.var [.pb 0 0 0 0]::bs,pin:=some ([x],[]) },b)
   | _=>none
 | _=>none
def dfK (P:Program)(f:FuncId)(full:List Sh)(Q:QT full)(N0:Nat)(E:Env)(bx0:List Bx)(b1:Nat)(st:St):Prop:=match dfS st with
 | some (s,b)=>b=b1/\Ls P f full Q (some N0) E bx0 s
 | none=>False
structure AT (P:Program) (f:FuncId) (rs:List Sh) (Q:QT rs) (N0:Nat) (M:Mode) (k:List Item) (st:St):Prop where
 h:∀(av:Nat->Prop) (w0:World) (a:Act) (w:World) (e:Env),w0.heap.size=N0->Rel av w0 M.env0 [] [] a w e st->Gz P f k (M.fin P f rs Q av w0) a w
def W (P : Program) (sh:FuncId->List Sh) (f:FuncId) (rs:List Sh) (Q:QT rs) (N0:Nat) (M:Mode) (H:Hint):Nat->Bool->List Item->St->Prop
 | 0,_,_,_=>False
 | n + 1,first,J,st=>match J with
   | []=>Mz P f rs Q N0 M st
   | .inBlock _::k=>W P sh f rs Q N0 M H n first k st
   | .inLoop c::k=>Mw (M.n0 N0) H c st λst=>AT P f rs Q N0 M (.code c::.inLoop c::k) st
   | .code c::k=>match c with
     | .skip=>W P sh f rs Q N0 M H n first k st
     | .label _=>W P sh f rs Q N0 M H n first k st
     | .ret=>Mz P f rs Q N0 M st
     | .seq x y=>W P sh f rs Q N0 M H n first (.code x::.code y::k) st
     | .cond c x y=>MB st c (λst=>W P sh f rs Q N0 M H n false (.code x::k) st) (λst=>W P sh f rs Q N0 M H n false (.code y::k) st)
     | .block id c=>W P sh f rs Q N0 M H n first (.code c::.inBlock id::k) st
     | .loop c=>Mw (M.n0 N0) H c st λst=>AT P f rs Q N0 M (.code c::.inLoop c::k) st
     | .exit id=>match exitTo id k with
       | some k'=>W P sh f rs Q N0 M H n false k' st
       | none=>False
     | .region id ops I=>match MS first H id with
       | some cut=>NK (M.n0 N0) cut st λst=>qf st λst=>AT P f rs Q N0 M (.code (.region id ops I)::k) st
       | none=>match I with
         | true=>match chk ops (Jf H id ops)with
           | true=>Ft P sh (M.n0 N0) ops (Jf H id ops) [] st λst=>qf st λst=>W P sh f rs Q N0 M H n false k st
           | false=>False
         | false=>match En ops.size (Jf H id ops)with
           | true=>Ft P sh (M.n0 N0) ops (Jf H id ops) [] st λst=>qf st λst=>W P sh f rs Q N0 M H n false k st
           | false=>False
     | _=>False
   | _=>False
theorem nok (M:Mode)(w0:World):NOk (M.n0 w0.heap.size) w0:=λn I=>by
 cases M with
 | ord=>cases I;rfl
 | io=>cases I;rfl
 | df=>cases I;rfl
 | mk=>cases I
theorem Bc (h:Rel av w0 e0 [] [] a w e st){N0:Option Nat}(I:NOk N0 w0){H:Hint}{c:Code}{K:St->Prop}(hs:Mw N0 H c st K):∃ e' st',K st'/\Rel av w0 e0 [] [] a w e' st':=by
 unfold Mw at hs;split at hs
 ·split at hs
  ·obtain⟨e',st',J,O⟩:=Bd h I hs;rw[wi]at J;exact⟨e',st',J,O⟩
  ·exact hs.elim
 ·exact hs.elim
theorem D4 {c:Operand}{v:Bool}(h:opd st.sl c=.bool v):Ni st c v=st:=by
 cases c with
 | tmp t=>
   simp only[opd,oA]at h;cases I:st.sl[t]? with
   | none=>rw[I]at h;cases h
   | some p=>rw[I]at h;simp at h;subst h;exact Ci I
 | _=>rfl
theorem E6 (h:Rel av w0 e0 [] [] a w e st){ob:Option Nat}{xr:Nat × TypeId}{K:D->Prop}(hs:Jp P st ob xr K):∃ x,K x/\Holds w x/\KC w ob xr.1 x:=by
 cases ob with
 | some b=>
   simp only[Jp]at hs;split at hs
   ·rename_i b' L T Y;split at hs
    ·rename_i t z es c bs O;have V:st.bx[0]?=some (.arr t z es c):=by rw[O];rfl
     cases J:decide (z=xr.1)with
     | false=>rw[J]at hs;exact hs.elim
     | true=>rw[J]at hs;simp only[oi]at J;obtain⟨rfl,hs⟩:=hs;have Z:=h.pin 0 b' (by simp[St.pins,Y]);refine⟨_,hs,.ag λy hy=>(h.bo 0 _ V (by simp) y hy).1,t,es,c,e,rfl,?_⟩;rw[<-Z.1,<-J];exact h.br 0 _ V (by simp)
    ·exact hs.elim
   ·exact hs.elim
 | none=>
   simp only [Jp] at hs;have ho:∀ x∈(Op.load xr.2 (.tmp xr.1)).operands,OpdOk av a w e [] st.bx x (opd st.sl x):=λx hx=>yT h (by simp);obtain ⟨v0, p0, g1, U, g3⟩ := ry (o := ⟨none, .load xr.2 (.tmp xr.1), xr.2, "", #[], none⟩) h.toMem ho (λk B hk => ⟨hk, by simp⟩) hs;split at U
   ·rename_i n x hn;have I:=rz (e:=e) g3.2.1;rw[hn]at I;rcases I with h5 | ⟨_,_,h7,_⟩
    ·cases h5
    ·obtain⟨k1,k2⟩:=h7 g3.2.1;exact⟨x,U,k1.1,n,k2⟩
   ·exact U.elim
theorem B5 {rs:List Sh}{Q:QT rs}{M:Mode}{f:FuncId}{k:List Item}(h:Rel av w0 M.env0 [] [] a w e st)(V:k=[]\/∃ k',k=.code .ret::k')(hs:Mz P f rs Q w0.heap.size M st):Gz P f k (M.fin P f rs Q av w0) a w:=by
 unfold Mz at hs;cases I:Dfs.on with
 | some ds=>
   rw[I]at hs;cases M with
   | df E K=>
     have hd:a.defers=ds:=by rw[h.nd,I];rfl
     intro cs;rcases V with rfl | ⟨k',rfl⟩
     ·exact⟨.returned (.tuple a.tmps),w,_,⟨a,e,st,rfl,hs,h⟩,.one step_end,rfl,by unfold Lx;rw[I];exact⟨rfl,rfl,hd,rfl⟩⟩
     ·exact⟨.returned (.tuple a.tmps),w,_,⟨a,e,st,rfl,hs,h⟩,.one step_ret,rfl,by unfold Lx;rw[I];exact⟨rfl,rfl,hd,rfl⟩⟩
   | _=>exact hs.elim
 | none=>
 rw[I]at hs;cases M with
 | ord=>exact Gn I h V (nok .ord w0) hs
 | io E bx0=>exact Gm I h V (nok .ord w0) hs
 | df=>exact hs.elim
 | mk T ob xr QM=>
   simp only[OE]at hs;split at hs
   rotate_left
   ·exact hs.elim
   rename_i fn hf;obtain⟨vs,ps,J,O,Y,Z,aa⟩:=vH h _ _ hs;split at J
   rotate_left
   ·exact J.elim
   rename_i kk n;split at J
   rotate_left
   ·exact J.elim
   obtain⟨x,h2,h3,h4⟩:=E6 h J;have ab:∃ v,vs=[v]:=by
    have:vs.length=1:=by rw[Y,<-Z];rfl
    rcases vs with _ | ⟨v,_ | _⟩<;>simp at this;exact⟨v,rfl⟩
   obtain⟨v,rfl⟩:=ab;have hv:=(aa 0 v _ rfl rfl).1.resolve_left (by simp);refine pF I V hf h.nd (vV O) ⟨n,x,hv,h2 _ h.hN,h3,h4,h.size,λb U hn=>h.old b U (by simp[Mode.env0];exact hn),λb c t z U hc=>h.fz b c t z (U.imp id λU=>by simp[Mode.env0];exact U) hc,h.ku⟩
theorem pV {sh:FuncId->List Sh} {f:FuncId} {rs:List Sh} {Q:QT rs} {N0:Nat} {M:Mode} {H:Hint} (hm:P.follows .mixedOrders=true) :
  ∀(n:Nat) (first:Bool) (I:List Item) (st:St),W P sh f rs Q N0 M H n first I st->AT P f rs Q N0 M I st:=by
 intro n
 induction n with
 | zero=>intro first I st h;exact h.elim
 | succ n J=>
   intro first I st hs
   refine⟨λav w0 a w e hN h=>?_⟩;subst hN;cases I with
   | nil=>exact B5 h (.inl rfl) hs
   | cons it k=>
     cases it with
     | inBlock id=>exact yG (λcs=>step_inBlock) ((J _ _ _ hs).h av w0 a w e rfl h)
     | inLoop c=>obtain⟨e',st',U,V⟩:=Bc h (nok M w0) hs;exact yG (λcs=>step_inLoop) (U.h av w0 a w e' rfl V)
     | code c=>
       cases c with
       | skip=>exact yG (λcs=>step_skip) ((J _ _ _ hs).h av w0 a w e rfl h)
       | label l=>exact yG (λcs=>step_label) ((J _ _ _ hs).h av w0 a w e rfl h)
       | ret=>exact B5 h (.inr ⟨_,rfl⟩) hs
       | seq x y=>exact yG (λcs=>step_seq) ((J _ _ _ hs).h av w0 a w e rfl h)
       | block id c=>exact yG (λcs=>step_block) ((J _ _ _ hs).h av w0 a w e rfl h)
       | loop c=>obtain⟨e',st',U,V⟩:=Bc h (nok M w0) hs;exact yG (λcs=>step_loop) (U.h av w0 a w e' rfl V)
       | cond c x y=>
         simp only[W,MB]at hs;split at hs
         ·rename_i v Z;have Y:a.eval c=.bool v:=by
           have:=(yT h (x:=c) (by simp)).h.resolve_left (by rw[Z];simp)
           rw[this,Z];rfl
          rcases hs.spec with⟨rfl,hs⟩ | ⟨rfl,hs⟩
          ·rw[D4 Z]at hs;exact yG (λcs=>step_cond Y) ((J _ _ _ hs).h av w0 a w e rfl h)
          ·rw[D4 Z]at hs;exact yG (λcs=>step_cond Y) ((J _ _ _ hs).h av w0 a w e rfl h)
         ·exact hs.elim
       | exit id=>
         simp only[W]at hs;split at hs
         ·rename_i k' hk;exact yG (λcs=>step_exit hk) ((J _ _ _ hs).h av w0 a w e rfl h)
         ·exact hs.elim
       | region id ops aa=>
         simp only[W]at hs;split at hs
         ·obtain⟨e',st',U,V⟩:=Bd h (nok M w0) hs;rw[wi]at U;exact U.h av w0 a w e' rfl V
         ·have key:∀ a w e st,qf st (λst=>W P sh f rs Q w0.heap.size M H n false k st)->Rel av w0 M.env0 [] [] a w e st->Exit.normal=.normal/\Gz P f k (M.fin P f rs Q av w0) a w:=λa w e st hf hr=>by rw[wi]at hf;exact⟨rfl,(J _ _ _ hf).h av w0 a w e rfl hr⟩
          split at hs
          ·split at hs
           ·rename_i O;exact px (Gk (nok M w0) hm O h hs key)
           ·exact hs.elim
          ·split at hs
           ·rename_i O;exact px (Gl (nok M w0) O h hs key)
           ·exact hs.elim
       | _=>exact hs.elim
     | _=>exact hs.elim
def wh (id:Nat):Code->List Item->Option (List Item)
 | .seq x y,k=>match wh id x (.code y::k)with
   | some r=>some r
   | none=>wh id y k
 | .cond _ x y,k=>match wh id x k with
   | some r=>some r
   | none=>wh id y k
 | .block i c,k=>wh id c (.inBlock i::k)
 | .loop c,k=>match rp c with
   | some j=>match Nat.beq j id with
     | true=>some (.code c::.inLoop c::k)
     | false=>wh id c (.inLoop c::k)
   | none=>wh id c (.inLoop c::k)
 | _,_=>none
def vN (id:Nat):Code->List Item->Option (List Item)
 | .seq x y,k=>match vN id x (.code y::k)with
   | some r=>some r
   | none=>vN id y k
 | .cond _ x y,k=>match vN id x k with
   | some r=>some r
   | none=>vN id y k
 | .block i c,k=>vN id c (.inBlock i::k)
 | .loop c,k=>vN id c (.inLoop c::k)
 | .region j ops I,k=>match Nat.beq j id with
   | true=>some (.code (.region j ops I)::k)
   | false=>none
 | _,_=>none
def KD (P:Program)(f:FuncId):Code:=match P.funcs[f]? with
 | some fn=>match fn.body with
   | some c=>c
   | none=>.skip
 | none=>.skip
def za (P:Program)(f:FuncId)(id:Nat):List Item:=match wh id (KD P f) []with
 | some k=>k
 | none=>[]
def Bm (P:Program)(f:FuncId)(id:Nat):List Item:=match vN id (KD P f) []with
 | some k=>k
 | none=>[]
end Go.Proofs.YtldbmnklnpfpfaaGreatDoor
namespace Go.Proofs.YtldbmnklnpfpfaaGreatDoor
open Go
instance instDfs:Dfs:=⟨none⟩
theorem um {P:Program} {w:World} {f:FuncId} {fn:Func} {c:Code} {args:Array Value} {R:Ending->World->Prop} (J:P.funcs[f]?=some fn) (O:fn.body=some c)
  (h:Gz P f [.code c] R { tmps:=args++Array.replicate (fn.ntmps - args.size) undef,defers:=[] } w):Calls P f args w R:=by
 intro cs;have I:Frame.enter P f args .normal=(base f).at { tmps:=args++Array.replicate (fn.ntmps - args.size) undef,defers:=[] } [.code c]:=by simp[Frame.enter,Frame.at,J,O,base]
 rw[I];exact h cs
def qk (n:Nat)(args:List PV):List PV:=args++List.replicate (n - args.length) .any
def FV (P:Program)(sh:FuncId->List Sh)(f:FuncId)(rs:List Sh)(Q:QT rs)(N:Nat)(H:Hint)(fuel:Nat)(args:List PV):Prop:=match P.funcs[f]? with
 | some fn=>match fn.body with
   | some c=>Ix N args (qf { sl:=qk fn.ntmps args,bx:=[],N:=N } λst=>W P sh f rs Q N .ord H fuel true [.code c] st)
   | none=>False
 | none=>False
theorem K2 {P:Program} {sh:FuncId->List Sh} {f:FuncId} {rs:List Sh} {Q:QT rs} {N:Nat} {H:Hint} {fuel:Nat} {args:List PV} (hm:P.follows .mixedOrders=true) (hc:zt P f=true)
  (h:FV P sh f rs Q N H fuel args):ACalls P f rs args N Q:=by
 refine⟨hc,λav w0 hN ac O=>?_⟩;subst hN;unfold FV at h;split at h
 rotate_left
 ·exact h.elim
 rename_i fn hf;split at h
 rotate_left
 ·exact h.elim
 rename_i c hb;have h:=xe (λp J=>by
  have Z:=(O p J).1;cases p<;>simp only[PV.Ok]at Z ⊢
  ·exact Z.1.lt
  ·exact Z.1.1.lt) h
 rw[wi]at h;have hw:=pV hm _ _ _ _ h;refine um hf hb (hw.h av w0 _ w0 [] rfl ?_);have U:∀(i:Nat) (p:PV),(qk fn.ntmps args)[i]?=some p->p=.any\/(p∈args/\args[i]?=some p):=λi p J=>by
  unfold qk at J;by_cases hi:i<args.length
  ·rw[oJ hi]at J;exact .inr ⟨oB J,J⟩
  ·rw[oT (by omega)]at J;exact .inl (nL (oB J))
 have Y:∀ k b,¬Lives [] [] ([]:List Bx) k b:=λk b ⟨_,_,B,h3,_⟩=>by simp at h3
 have aa:∀ b,zF av [] [] ([]:List Bx) b->av b:=λb hb=>hb.elim id λ⟨k,I⟩=>absurd I (Y k b);exact {
  el:=rfl
  br:=λk B I _=>by simp at I
  bo:=λk B I _=>by simp at I
  bf:=λk B I _=>by simp at I
  inj:=λk j b I _=>absurd I (Y k b)
  ku:=.rfl
  size:=oG _
  old:=λ_ _ _=>rfl
  fz:=λb c t z hb hc=>by
   rcases hb with hb | hb
   ·have:=(oO.1 hc).1;omega
   ·exact absurd hb (by simp[Mode.env0])
  nd:=rfl
  sz:=by simp[qk]
  hN:=oG _
  hs:=λi p J _=>by
   rcases U i p J with V | ⟨V,h2⟩
   ·exact .inl V
   ·right;have ab:=(oD.1 h2).1;have:i<args.toArray.size:=by simpa using ab
    simp[Array.getElem?_append,ab];rw[(oD.1 h2).2]
  so:=λi p J _=>by
   rcases U i p J with V | ⟨V,h2⟩
   ·subst V;trivial
   ·exact PV.Ok.mono (λ_ _ _=>rfl) (oG _) (λb _=>aa b) p (O p V).1
  sr:=λi p J _ k I=>by
   rcases U i p J with V | ⟨V,h2⟩
   ·subst V;simp[PV.refs]at I
   ·rw[(O p V).2]at I;simp at I
  own:=λk b I=>absurd I (Y k b)
  avl:=ac
  avn:=λk b I=>absurd I (Y k b)
  pin:=λk b hb=>by simp[St.pins]at hb
  pit:=λb T hb=>by cases hb }
def bytes (l:List Nat):ByteArray:=⟨(l.map UInt8.ofNat).toArray⟩
def Kf (f:Nat):List (Nat × List Sh)->List Sh
 | []=>[]
 | (g,s)::l=>match Nat.beq g f with
   | true=>s
   | false=>Kf f l
theorem MG {P:Program} {sh:FuncId->List Sh} {f:FuncId} {rs:List Sh} {Q:QT rs} {N:Nat} {H:Hint} {fuel:Nat} {args:List PV} {F:Prop} (I:P.follows .mixedOrders=true) (hc:zt P f=true)
 (J:F=FV P sh f rs Q N H fuel args) (h:F):ACalls P f rs args N Q:=K2 I hc (J ▸ h)
theorem ML [Dfs] {P:Program} {sh:FuncId->List Sh} {f:FuncId} {rs:List Sh} {Q:QT rs} {N0:Nat} {M:Mode} {H:Hint} {fuel:Nat} {I:List Item} {st:St} {F:Prop} (O:P.follows .mixedOrders=true)
 (J:F=qf st λst=>W P sh f rs Q N0 M H fuel true I st) (h:F):AT P f rs Q N0 M I st:=pV O fuel true I st (by rw[wi]at J;exact J ▸ h)
def noQ:QT []:=λ_=>False
def Bg (P:Program)(sh:FuncId->List Sh)(f:FuncId)(N:Nat)(M:Mode)(H:Hint)(fuel:Nat)(args:List PV)(bx:List Bx)(pin:Option (List (Option Nat) × List Nat)):Prop:=match P.funcs[f]? with
 | some fn=>match fn.body with
   | some c=>qf { sl:=qk fn.ntmps args,bx:=bx,N:=N,pin:=pin } λst=>W P sh f [] noQ N M H fuel true [.code c] st
   | none=>False
 | none=>False
theorem Ab {av:Nat->Prop} {args:List PV} {bx:List Bx} {e e0:Env} {pin:Option (List (Option Nat) × List Nat)} {nt:Nat} {w0:World} (hm:Mem av [] w0 e bx) (U:∀ p∈args,p.Ok w0 (zF av [] e bx)/\∀ k∈p.refs,k<bx.length)
  (V:Avl av w0 e0) (Y:∀ k b,Lives [] e bx k b->¬av b)
  (Z:∀ k b,Lives [] e bx k b->some b∈e0/\k<(St.pins ⟨qk nt args,bx,w0.heap.size,pin⟩).length) (ac:∀(b:Nat) (c:Array Value) (t:TypeId) (z:Nat × Nat),some b∈e0->w0.heap[b]?=some (.cells c t z)->Fz z)
  (aa:∀ k b,(St.pins ⟨qk nt args,bx,w0.heap.size,pin⟩)[k]?=some (some b)->e.at k=some b) (ab:∀ L T,pin=some (L,T)->∀ x∈T,some x∈e0) :
  Rel av w0 e0 [] [] { tmps:=(args.map (PV.val e)).toArray++Array.replicate (nt - (args.map (PV.val e)).toArray.size) undef,defers:=[] } w0 e { sl:=qk nt args,bx:=bx,N:=w0.heap.size,pin:=pin }:=by
 have J:∀(i:Nat) (p:PV),(qk nt args)[i]?=some p->p=.any\/(p∈args/\args[i]?=some p):=λi p I=>by
  unfold qk at I;by_cases hi:i<args.length
  ·rw[oJ hi]at I;exact .inr ⟨oB I,I⟩
  ·rw[oT (by omega)]at I;exact .inl (nL (oB I))
 exact {
  toMem:=hm
  ku:=.rfl
  size:=oG _
  old:=λ_ _ _=>rfl
  fz:=λb c t z hb hc=>by
   rcases hb with hb | hb
   ·have:=(oO.1 hc).1;omega
   ·exact ac b c t z hb hc
  nd:=rfl
  sz:=by simp[qk]
  hN:=oG _
  hs:=λi p I _=>by
   rcases J i p I with O | ⟨O,h2⟩
   ·exact .inl O
   ·right;have ae:=(oD.1 h2).1;simp[Array.getElem?_append,ae];rw[(oD.1 h2).2]
  so:=λi p I _=>by
   rcases J i p I with O | ⟨O,h2⟩
   ·subst O;trivial
   ·exact(U p O).1
  sr:=λi p I _ k hk=>by
   rcases J i p I with O | ⟨O,h2⟩
   ·subst O;simp[PV.refs]at hk
   ·exact⟨by simp,(U p O).2 k hk⟩
  own:=λk b hk=>.inr (Z k b hk)
  avl:=V
  avn:=Y
  pin:=λk b hb=>⟨aa k b hb,by simp⟩
  pit:=ab }
theorem JZ {P:Program} {sh:FuncId->List Sh} {f:FuncId} {H:Hint} {fuel:Nat} {ad:Addr} {z c:Nat} {es:List D} {k:Int} {N:Nat} {R:D->Int->Nat->Prop} {QM:Int->D->Nat->Prop} (hm:P.follows .mixedOrders=true) (hc:zt P f=true)
  (htree:Tree (.sl (some ad) z es c)) (hne:es≠[]) (hlen:es.length<=maxLen)
  (hx:∀ t,Bg P sh f N (.mk (D.sl (some ad) z es c).foot (some ad.block) (z,0) QM) H fuel [.sb 0 z 0 es.length c,.int .i64 k] [.arr t z es es.length] (some ([some ad.block],(D.sl (some ad) z es c).foot)))
  (hQ:∀ k' x N',QM k' x N'->∃ es',x=.ag es'/\es'.length=es.length/\zA es'=zA es/\R (.sl (some ad) z es' c) k' N'):MC P f (.sl (some ad) z es c) k N R:=by
 refine⟨hc,fun w0 hN hGl hGf hGb hH hU=>?_⟩;subst hN;have hfoot:(D.sl (some ad) z es c).foot=ad.block::zA es:=by simp[D.foot,hne]
 have hnd:=htree.nd;rw[hfoot]at hnd;obtain⟨hnb,hnd⟩:=nV.1 hnd;have hoff:ad.off=0:=htree.fl.1 ad rfl;cases hH with
 | sl h1 h2 h3 h4 h5=>
 have h1:=h1 hne;rcases h5 with h5 | ⟨cc,t,fz,h6,h7⟩
 ·exfalso
  have:=zE h3
  rw[h5]at this;have h0:0<es.length:=me.2 hne
  have:=Nat.mul_pos h0 (sU z)
  simp at *;omega
 obtain⟨cc',t',hU'⟩:=hU ad.block (by rw[hfoot];simp);obtain⟨_,rfl⟩:=fz;rw[h6]at hU';cases hU';have hx:=hx t;unfold Bg at hx;split at hx
 rotate_left
 ·exact hx.elim
 rename_i fn hf;split at hx
 rotate_left
 ·exact hx.elim
 rename_i code hb;rw[wi]at hx;have hAT:=pV hm _ _ _ _ hx;have hlive:∀ b,zF avG [] [some ad.block] [Bx.arr t z es es.length] b->avG b\/b=ad.block:=fun b hb=>by
  rcases hb with hb | ⟨k,_,h8,_⟩
  ·exact .inl hb
  ·cases k with
   | zero=>simp[Env.at]at h8;exact .inr h8.symm
   | succ k=>simp[Env.at]at h8
 have hflat:=zE h3;have hsize:es.length*ez z<=cc.size:=by
  rw[<-hflat];rcases mE (zj es).length with h0 | h0
  ·omega
  ·have:=h7 ((zj es).length - 1) _ (oF (by omega))
   have:=(oO.1 this).1
   omega
 have hval:#[(D.sl (some ad) z es c).val,.int .i64 k]=([PV.sb 0 z 0 es.length c,.int .i64 k].map (PV.val [some ad.block])).toArray:=by obtain⟨bb,oo,sp⟩:=ad;simp only at h1 hoff;subst h1;subst hoff;simp[PV.val,PV.val1,PV.cv,Env.at,D.val,D.cv]
 rw[hval];refine um hf hb ?_;have hrel:=Ab (w0:=w0) (args:=[PV.sb 0 z 0 es.length c,.int .i64 k]) (bx:=[.arr t z es es.length]) (e:=[some ad.block]) (e0:=(D.sl (some ad) z es c).foot.map some)
  (pin:=some ([some ad.block],(D.sl (some ad) z es c).foot)) (nt:=fn.ntmps) { el:=rfl,br:=fun k B hk _=>?_,bo:=fun k B hk _=>?_,bf:=fun k B hk _ j hj=>?_,inj:=fun i j b hi hj=>?_ } (fun p hp=>?_) ⟨fun b hb=>hGl.lt hb,hGl,fun b hb=>hb,fun b hb hc=>by
   obtain⟨b',h8,h9⟩:=oQ.1 hc;cases h9;exact hGf b hb h8,fun x hx hc=>by
   obtain⟨b',h8,h9⟩:=oQ.1 hc;cases h9;exact hGb x hx h8⟩ (fun k b hk hc=>?_) (fun k b hk=>?_) (fun b c' t' z' hb' hc'=>?_) (fun k b hb=>?_) (fun ob T hb x hx=>?_)
 ·have hend:=hAT.h avG w0 _ w0 _ rfl hrel;intro cs;obtain⟨en,w',fr,hfin,hrest⟩:=hend cs;refine⟨en,w',fr,?_,hrest⟩;cases en with
  | panicked=>exact hfin.elim
  | outgrown=>exact hfin.elim
  | returned v=>
    obtain⟨k',x,rfl,hd⟩:=hfin;obtain⟨es',rfl,g1,g2,g3⟩:=hQ _ _ _ hd.q;obtain⟨t2,es2,c2,e2,g4,g5⟩:=hd.bx;cases g4;have hne':es'≠[]:=fun hc=>by rw[hc]at g1;simp at g1;exact hne (oV g1.symm)
    have hf':(D.sl (some ad) z es' c).foot=ad.block::zA es':=by simp[D.foot,hne']
    have hH':∀ y∈es',Holds w' y:=by
     have:=hd.hd
     cases this with
     | ag h=>exact h
    rcases g5 with⟨g5,_⟩ | ⟨b3,c3,k1,k2,k3,k4,k5,k6,k7⟩
    ·cases g5
    cases k1;refine⟨.sl (some ad) z es' c,k',rfl,⟨⟨hd.size,hd.old,hd.fz,.sl (fun _=>h1) (by omega) k6 hH' (.inr ⟨c3,t2,z00,k2,fun i u hu=>by rw[hoff,nX];exact k7 i u hu⟩),by rw[hf',hfoot,g2],hd.ku⟩,by simp[D.cells,D.cv,g1],.inl ⟨_,_,_,_,_,rfl,rfl⟩⟩,g3⟩
 ·cases k with
  | zero=>simp at hk;subst hk;exact .inr ⟨ad.block,cc,rfl,h6,hsize,oG _,hlen,h3,fun i u hu=>by have:=h7 i u hu;rwa[hoff,nX]at this⟩
  | succ k=>simp at hk
 ·cases k with
  | zero=>
    simp at hk;subst hk;intro y hy;refine⟨h4 y hy,fun b hb hl=>?_⟩;rcases hlive b hl with this | this
    ·exact hGf b this (by rw[hfoot];exact mF _ (zB.2 ⟨y,hy,hb⟩))
    subst this;exact hnb (zB.2 ⟨y,hy,hb⟩)
  | succ k=>simp at hk
 ·cases k with
  | zero=>simp at hk;subst hk;simp[Bx.refs]at hj
  | succ k=>simp at hk
 ·have h8:∀ i,Lives [] [some ad.block] [Bx.arr t z es es.length] i b->i=0:=fun i ⟨_,h9,_⟩=>by
   cases i with
   | zero=>rfl
   | succ i=>simp[Env.at]at h9
  rw[h8 i hi,h8 j hj]
 ·simp at hp;rcases hp with rfl | rfl
  ·exact⟨trivial,by simp[PV.refs]⟩
  ·exact⟨trivial,by simp[PV.refs]⟩
 ·have hkb:=hk;obtain⟨_,h8,_⟩:=hkb;cases k with
  | succ k=>simp[Env.at]at h8
  | zero=>simp[Env.at]at h8;subst h8;exact hGf _ hc (by rw[hfoot];simp)
 ·have:b=ad.block:=by
   obtain⟨_,h8,_⟩:=hk;cases k with
   | zero=>simp[Env.at]at h8;exact h8.symm
   | succ k=>simp[Env.at]at h8
  subst this;refine⟨by rw[hfoot];simp,?_⟩;obtain⟨_,h8,_⟩:=hk;cases k with
  | zero=>simp[St.pins]
  | succ k=>simp[Env.at]at h8
 ·simp only[oQ]at hb';obtain⟨b',hb1,hb2⟩:=hb';cases hb2;obtain⟨c9,t9,h9⟩:=hU b hb1;rw[h9]at hc';cases hc';exact fz0
 ·cases k with
  | zero=>simp[St.pins]at hb;subst hb;rfl
  | succ k=>simp[St.pins]at hb
 ·cases hb;exact oQ.2 ⟨x,hx,rfl⟩
theorem KJ {P:Program}{f:FuncId}{a:Option Addr}{z c:Nat}{k:Int}{N:Nat}{R:D->Int->Nat->Prop}(h:ACalls P f [.int .i64] [.sv a z [] c,.int .i64 k] N λk' N'=>R (.sl a z [] c) k' N'):MC P f (.sl a z [] c) k N R:=by
 have I:(D.sl a z [] c).foot=[]:=by cases a<;>simp[D.foot,zA]
 refine⟨h.c,λw0 hN U Z aa V hU=>(h.h avG w0 hN ⟨λb hb=>U.lt hb,U,λb hb=>hb,λb hb=>by simp,λx hx=>by simp⟩ λp Y=>?_).mono λen w' J=>?_⟩
 ·simp at Y;rcases Y with rfl | rfl
  ·exact⟨⟨V,by rw[I];simp⟩,rfl⟩
  ·exact⟨trivial,rfl⟩
 ·cases en with
  | panicked=>exact J.elim
  | outgrown=>exact J.elim
  | returned v=>
    obtain⟨ps,rows,e,hd⟩:=J;have O:=hd.q;rcases ps with _ | ⟨p,_ | ⟨q,ps⟩⟩
    ·simp[QT.app]at O
    ·cases p<;>simp[QT.app]at O
     rename_i k2 n;cases rows with
     | cons B rows=>simp[QT.app]at O
     | nil=>
       obtain⟨rfl,O⟩:=O;refine⟨.sl a z [] c,n,hd.v,⟨⟨hd.size,λb hb _=>hd.old b hb,λb c' t z' hb hc=>?_,V.mono (by rw[I];simp),rfl,hd.ku⟩,rfl,.inl ⟨_,_,_,_,_,rfl,rfl⟩⟩,O⟩;rcases hb with hb | hb
       ·exact hd.fz b c' t z' hb hc
       ·rw[I]at hb;simp at hb
    ·cases p<;>simp[QT.app]at O
theorem Ho {P:Program} {sh:FuncId->List Sh} {f:FuncId} {H:Hint} {fuel:Nat} {cs:List D} {n:Nat} {xr:Nat × TypeId} {k:Int} {N:Nat} {R:D->Int->Nat->Prop} {QM:Int->D->Nat->Prop} (hm:P.follows .mixedOrders=true) (hc:zt P f=true)
  (hag:IsAg n (.ag cs))
  (hx:Bg P sh f N (.mk (D.ag cs).foot none xr QM) H fuel [.dg n (.ag cs),.int .i64 k] [] (some ([],(D.ag cs).foot)))
  (hQ:∀ k' x N',QM k' x N'->∃ cs',x=.ag cs'/\cs'.map D.cv=cs.map D.cv/\zA cs'=zA cs/\R (.ag cs') k' N'):MC P f (.ag cs) k N R:=by
 refine⟨hc,fun w0 hN hGl hGf hGb hH hU=>?_⟩;subst hN;unfold Bg at hx;split at hx
 rotate_left
 ·exact hx.elim
 rename_i fn hf;split at hx
 rotate_left
 ·exact hx.elim
 rename_i code hb;rw[wi]at hx;have hAT:=pV hm _ _ _ _ hx;have hnl:∀ k b,¬Lives [] [] ([]:List Bx) k b:=fun k b ⟨_,_,B,h3,_⟩=>by simp at h3
 have hlive:∀ b,zF avG [] [] ([]:List Bx) b->avG b:=fun b hb=>hb.elim id fun⟨k,hk⟩=>absurd hk (hnl k b);have hval:#[(D.ag cs).val,.int .i64 k]=([PV.dg n (.ag cs),.int .i64 k].map (PV.val [])).toArray:=by simp[PV.val,PV.val1,PV.cv]
 rw[hval];refine um hf hb ?_;have hrel:=Ab (w0:=w0) (args:=[PV.dg n (.ag cs),.int .i64 k]) (bx:=[]) (e:=[]) (e0:=(D.ag cs).foot.map some) (pin:=some ([],(D.ag cs).foot)) (nt:=fn.ntmps)
  { el:=rfl,br:=fun k B hk _=>by simp at hk,bo:=fun k B hk _=>by simp at hk,bf:=fun k B hk _ j hj=>by simp at hk,inj:=fun i j b hi hj=>absurd hi (hnl i b) }
  (fun p hp=>?_) ⟨fun b hb=>hGl.lt hb,hGl,fun b hb=>hb,fun b hb hc=>by
   obtain⟨b',h8,h9⟩:=oQ.1 hc;cases h9;exact hGf b hb h8,fun x hx hc=>by
   obtain⟨b',h8,h9⟩:=oQ.1 hc;cases h9;exact hGb x hx h8⟩ (fun k b hk=>absurd hk (hnl k b)) (fun k b hk=>absurd hk (hnl k b)) (fun b c' t' z' hb' hc'=>?_) (fun k b hb=>by simp[St.pins]at hb) (fun ob T hb x hx=>?_)
 ·have hend:=hAT.h avG w0 _ w0 _ rfl hrel;intro s;obtain⟨en,w',fr,hfin,hrest⟩:=hend s;refine⟨en,w',fr,?_,hrest⟩;cases en with
  | panicked=>exact hfin.elim
  | outgrown=>exact hfin.elim
  | returned v=>obtain⟨k',x,rfl,hd⟩:=hfin;obtain⟨cs',rfl,g1,g2,g3⟩:=hQ _ _ _ hd.q;obtain⟨n',cs2,h5,_,h6⟩:=hd.bx;cases h5;exact⟨.ag cs',k',rfl,⟨⟨hd.size,hd.old,hd.fz,hd.hd,by simp only[D.foot];exact g2,hd.ku⟩,by simp only[D.cells];exact g1,.inr ⟨_,_,rfl,rfl,h6⟩⟩,g3⟩
 ·simp at hp;rcases hp with rfl | rfl
  ·exact⟨⟨⟨hH,fun b hb hl=>hGf b (hlive b hl) hb⟩,hag⟩,by simp[PV.refs]⟩
  ·exact⟨trivial,by simp[PV.refs]⟩
 ·simp only[oQ]at hb';obtain⟨b',hb1,hb2⟩:=hb';cases hb2;obtain⟨c9,t9,h9⟩:=hU b hb1;rw[h9]at hc';cases hc';exact fz0
 ·cases hb;exact oQ.2 ⟨x,hx,rfl⟩
theorem Nz {P:Program} {sh:FuncId->List Sh} {f:FuncId} {H:Hint} {fuel:Nat} {ad:Addr} {z c:Nat} {es:List D} {k:Int} {N:Nat} {R:D->Int->Nat->Prop} {U:Int->D->Nat->Prop} {F:Nat->Prop} (V:P.follows .mixedOrders=true) (hc:zt P f=true)
  (Y:∀ t,F t=Bg P sh f N (.mk (D.sl (some ad) z es c).foot (some ad.block) (z,0) U) H fuel [.sb 0 z 0 es.length c,.int .i64 k] [.arr t z es es.length] (some ([some ad.block],(D.sl (some ad) z es c).foot)))
  (I:Tree (.sl (some ad) z es c)) (O:es≠[]) (J:es.length<=maxLen) (Z:∀ t,F t)
  (hQ:∀ k' x N',U k' x N'->∃ es',x=.ag es'/\es'.length=es.length/\zA es'=zA es/\R (.sl (some ad) z es' c) k' N'):MC P f (.sl (some ad) z es c) k N R:=
 JZ V hc I O J (λt=>Y t ▸ Z t) hQ
theorem OA {P:Program} {sh:FuncId->List Sh} {f:FuncId} {H:Hint} {fuel:Nat} {cs:List D} {n:Nat} {xr:Nat × TypeId} {k:Int} {N:Nat} {R:D->Int->Nat->Prop} {J:Int->D->Nat->Prop} {F:Prop} (O:P.follows .mixedOrders=true) (hc:zt P f=true)
  (U:F=Bg P sh f N (.mk (D.ag cs).foot none xr J) H fuel [.dg n (.ag cs),.int .i64 k] [] (some ([],(D.ag cs).foot)))
  (I:IsAg n (.ag cs)) (V:F)
  (Y:∀ k' x N',J k' x N'->∃ cs',x=.ag cs'/\cs'.map D.cv=cs.map D.cv/\zA cs'=zA cs/\R (.ag cs') k' N'):MC P f (.ag cs) k N R:=
 Ho O hc I (U ▸ V) Y
def FU (P:Program)(sh:FuncId->List Sh)(f:FuncId)(full:List Sh)(Q:QT full)(N:Nat)(H:Hint)(fuel:Nat)(args:List PV)(bx:List Bx)(E:Env):Prop:=match P.funcs[f]? with
 | some fn=>match fn.body with
   | some c=>match bx.all λB=>!Fb B with
     | true=>Ix N (args++A2 bx) (qf { sl:=qk fn.ntmps args,bx:=bx,N:=N,pin:=some (xT E 0 (bx.map yM),[]) } λst=>W P sh f full Q N (.io E (bx.map yM)) H fuel true [.code c] st)
     | false=>False
   | none=>False
 | none=>False
theorem HF (bx:List Bx)(E:Env):∀ n,xT E n (bx.map yM)=xT E n bx:=by
 induction bx with
 | nil=>intro n;rfl
 | cons B bs I=>intro n;cases B<;>simp[xT,yM,I]
theorem By {E:Env}:∀(bs:List Bx)(k j b:Nat),(xT E k bs)[j]?=some (some b)->b=(E.at (k+j)).getD 0/\∃ B,bs[j]?=some B/\((∃ cs,B=.var cs)\/∃ x n,B=.vd x n)
 | [],k,j,b,h=>by simp[xT]at h
 | B::bs,k,0,b,h=>by
   cases B<;>simp[xT]at h
   ·exact⟨by simp[h],_,rfl,.inl ⟨_,rfl⟩⟩
   ·exact⟨by simp[h],_,rfl,.inr ⟨_,_,rfl⟩⟩
 | B::bs,k,j+1,b,h=>by simp only[xT,nQ]at h;obtain⟨I,J⟩:=By bs (k+1) j b h;exact⟨by rw[I,show k+1+j=k+(j+1) by omega],by simpa using J⟩
theorem K4 {P:Program} {sh:FuncId->List Sh} {f:FuncId} {full:List Sh} {Q:QT full} {N:Nat} {H:Hint} {fuel:Nat} {args:List PV} {bx:List Bx} (hm:P.follows .mixedOrders=true) (hc:zt P f=true)
  (O:∀ E,FU P sh f full Q N H fuel args bx E):BCalls P f full args bx N Q:=by
 refine⟨hc,λav w0 E hN ac I aa Z=>?_⟩;subst hN;have O:=O E;unfold FU at O;split at O
 rotate_left
 ·exact O.elim
 rename_i fn hf;split at O
 rotate_left
 ·exact O.elim
 rename_i code hb;split at O
 rotate_left
 ·exact O.elim
 rename_i V;simp only[oc,nC]at V;have V:∀ B∈bx,B≠.gone:=λB hB hc=>by have:=V B hB;subst hc;simp[Fb]at this
 have O:=xe (λp hp=>by
  have:Ln w0.heap.size p:=by
   rcases oP.1 hp with hp | hp
   ·exact HB (Z p hp).1
   ·exact F9 I rfl (λB hB=>hB) p hp
  cases p<;>first | exact this | trivial) O
 rw[wi]at O;have ae:=pV hm _ _ _ _ O;refine um hf hb (ae.h av w0 _ w0 E rfl (Ab I Z ac aa (λk b hk=>?_) (λb c t z ab hc=>?_) (λk b hk=>?_) (λL T h=>by cases h;simp)))
 ·obtain⟨_,J,B,h2,_⟩:=hk;refine⟨?_,by simp only[St.pins,ua,nZ];exact(oD.1 h2).1⟩;simp only[Mode.env0];unfold Env.at at J;rw[oA]at J;cases he:E[k]? with
  | none=>rw[he]at J;cases J
  | some u=>rw[he]at J;simp at J;subst J;exact oB he
 ·simp only[Mode.env0]at ab;obtain⟨k,hk⟩:=oS.1 ab;have ah:E.at k=some b:=by simp[Env.at,oA,hk]
  have ai:k<bx.length:=by rw[<-I.el];exact(oD.1 hk).1
  have hB:bx[k]?=some bx[k]:=oF ai;have U:=I.br k _ hB (by simp);have hg:=V _ (oB hB);rw[ah]at U;cases Y:bx[k]with
  | var cs=>rw[Y]at U;obtain⟨b',c',t',g1,g2,_⟩:=U;cases g1;rw[g2]at hc;cases hc;exact fz0
  | vd x n=>rw[Y]at U;obtain⟨b',c',t',g1,g2,_⟩:=U;cases g1;rw[g2]at hc;cases hc;exact fz0
  | arr t0 z0 es n=>
    rw[Y]at U;rcases U with⟨g1,_⟩ | ⟨b',c',g1,g2,_⟩
    ·cases g1
    ·cases g1;rw[g2]at hc;cases hc;exact fz0
  | gone=>exact absurd Y hg
 ·simp only[St.pins,HF]at hk;obtain⟨J,B,h2,h3⟩:=By _ _ _ _ hk;rw[nX]at J;have U:=I.br k _ h2 (by simp);rcases h3 with⟨cs,rfl⟩ | ⟨x,n,rfl⟩
  ·obtain⟨b',c',t',g1,_⟩:=U;rw[g1]at J ⊢;simp at J;rw[J]
  ·obtain⟨b',c',t',g1,_⟩:=U;rw[g1]at J ⊢;simp at J;rw[J]
theorem K3 {P:Program} {sh:FuncId->List Sh} {f:FuncId} {full:List Sh} {Q:QT full} {N:Nat} {H:Hint} {fuel:Nat} {args:List PV} {bx:List Bx} {F:Env->Prop} (I:P.follows .mixedOrders=true) (hc:zt P f=true)
 (J:∀ E,F E=FU P sh f full Q N H fuel args bx E) (h:∀ E,F E):BCalls P f full args bx N Q:=K4 I hc λE=>J E ▸ h E
end Go.Proofs.YtldbmnklnpfpfaaGreatDoor
set_option maxRecDepth 100000
namespace Go.Proofs.YtldbmnklnpfpfaaGreatDoor
open Go Go.Proofs Go.Proofs.Tryz
def sh:FuncId->List Sh:=λf=>Kf f [(3,[.bool]),(4,[.bool]),(5,[.ag 9,.bool]),(6,[.ag 9,.bool]),(7,[.bool]),(8,[.int .i64]),(9,[.int .i64]),(10,[.ag 9]),(11,[.ag 9]),(12,[.row 0 1000007,.ag 9]),(13,[.str]),(14,[.row 0 1000007,.ag 9,.bool]),(15,[.str]),(16,[.str]),(17,[.bool]),(18,[.bool]),(19,[.int .i64]),(20,[.int .i64]),(21,[.int .i64]),(22,[.int .i64]),(23,[.bool]),(24,[.str]),(25,[.bool]),(26,[.str]),(27,[.str]),(28,[.row 0 1000007,.bool]),(29,[.ag 9]),(30,[.row 0 1000007]),(31,[.row 0 1000007,.ag 9]),(32,[.row 0 1000007,.ag 9]),(33,[.ag 9]),(34,[.row 0 1000007,.str]),(35,[.bool]),(36,[.str]),(37,[]),(38,[.row 0 1000007,.bool]),(39,[.ag 9]),(40,[.row 0 1000007,.ag 9,.bool]),(41,[.row 0 1000007,.ag 9,.bool]),(42,[.row 0 1000007,.str]),(43,[.int .i64,.bool]),(44,[.ag 9]),(45,[.ag 9]),(46,[.bool]),(47,[.str]),(48,[.str]),(49,[.bool]),(50,[.str]),(51,[.bool]),(52,[.int .i64]),(53,[.str]),(54,[.int .i64]),(55,[.int .i64]),(56,[]),(57,[.int .i64]),(59,[.int .i32,.int .i64]),(60,[.str]),(61,[.str]),(62,[.row 0 1000007,.ag 2]),(63,[.row 0 1000007,.ag 9]),(64,[.row 0 1000007,.ag 9]),(65,[.row 0 1000007,.ag 9]),(66,[.int .i64,.bool]),(67,[.ag 9]),(68,[.int .i64]),(69,[.int .i64]),(70,[.bool]),(71,[.str]),(72,[.str,.bool]),(73,[.row 0 1000007,.sl 9,.bool]),(74,[.int .i64]),(75,[.row 0 1000007,.ag 9,.bool]),(76,[.row 0 1000007,.ag 9,.bool]),(77,[.int .i64,.bool]),(78,[.bool]),(79,[.int .i64]),(80,[.int .i64]),(81,[.str]),(82,[.str]),(83,[.str]),(84,[.bool]),(85,[.int .i64]),(86,[.int .i64]),(88,[]),(89,[]),(90,[.int .i64]),(91,[.int .i32,.int .i64]),(92,[.str]),(93,[.ag 2]),(94,[.ag 2]),(95,[.int .i64]),(96,[.int .i64,.bool]),(97,[.int .i64]),(98,[.bool]),(99,[.int .i64]),(100,[.str]),(101,[.str]),(102,[.str,.bool]),(103,[.int .i64]),(104,[.row 0 1000007,.ag 2,.bool]),(106,[.bool]),(107,[.bool]),(108,[.str]),(109,[.bool]),(110,[.str]),(111,[.int .i64]),(112,[.bool]),(113,[.bool]),(114,[.int .i32,.int .i64]),(117,[.int .i64]),(119,[.int .i64]),(120,[.int .i64]),(121,[.str]),(122,[.bool]),(123,[.bool]),(124,[.bool]),(125,[.bool]),(126,[.ag 2]),(127,[.ag 2]),(128,[.ag 2]),(129,[.ag 2]),(132,[.bool]),(133,[.bool]),(134,[.bool]),(135,[.bool]),(136,[.int .i64]),(137,[.int .i64]),(138,[.bool]),(139,[.bool]),(140,[.bool]),(142,[.int .u32,.int .u32]),(143,[.str]),(144,[.int .i64]),(145,[]),(146,[.sl 0,.str]),(147,[.int .i64]),(148,[.int .i64]),(149,[.bool]),(150,[.bool]),(151,[.ag 2]),(157,[.int .i64]),(158,[.bool]),(159,[.bool]),(160,[.bool]),(161,[.bool]),(162,[.bool]),(163,[.int .i64]),(164,[.int .i64]),(165,[.int .i64]),(166,[.bool]),(167,[.int .i64]),(169,[.str]),(171,[.bool]),(172,[.int .i64]),(173,[.int .i64]),(174,[.int .i64]),(175,[.int .u8]),(176,[.bool]),(177,[.int .i64]),(212,[])]
theorem mixed:prog.follows .mixedOrders=true:=by kernel_rfl
theorem eE {f:FuncId}{rs:List Sh}{Q:QT rs}{N:Nat}(H:Hint){args:List PV}{F:Prop}(h:F)(hc:zt prog f=true:=by kernel_rfl)(I:F=FV prog sh f rs Q N H 400 args:=by kernel_rfl):ACalls prog f rs args N Q:=MG mixed hc I h
theorem bE {f:FuncId}{full:List Sh}{Q:QT full}{N:Nat}(H:Hint){args:List PV}{bx:List Bx}{F:Env->Prop}(h:∀ E,F E)(hc:zt prog f=true:=by kernel_rfl)(I:∀ E,F E=FU prog sh f full Q N H 400 args bx E:=by intro E;kernel_rfl):BCalls prog f full args bx N Q:=K3 mixed hc I h
theorem hE {f:FuncId}{rs:List Sh}{Q:QT rs}{N0:Nat}{M:Mode}(H:Hint){I:List Item}{st:St}{F:Prop}(h:F)(J:F=qf st λst=>W prog sh f rs Q N0 M H 400 true I st:=by kernel_rfl):AT prog f rs Q N0 M I st:=ML mixed J h
abbrev D.j (n:Int):D:=.lit (.int .i64 n)
abbrev D.t (s:ByteArray):D:=.lit (.string s)
abbrev PV.j (n:Int):PV:=.int .i64 n
abbrev Sh.i:Sh:=.int .i64
abbrev b0:ByteArray:=bytes []
def H0:Hint:=⟨[],[],[]⟩
abbrev w2 (P X:Prop):Prop:=P/\P/\X
abbrev w3 (P X:Prop):Prop:=P/\P/\P/\X
abbrev w4 (P X:Prop):Prop:=P/\P/\P/\P/\X
abbrev w5 (P X:Prop):Prop:=P/\P/\P/\P/\P/\X
abbrev gI (x:D)(R:Int->Prop):Prop:=∃ n:Int,x=D.j n/\R n
abbrev gT (x:D)(R:ByteArray->Prop):Prop:=∃ s,x=D.t s/\R s
abbrev gL (z:Nat)(x:D)(R:Option Addr->List D->Nat->Prop):Prop:=∃ a es,∃ c:Nat,x=D.sl a z es c/\R a es c
abbrev uP (N:Nat)(R:Nat->Prop):Prop:=∀ N1,N<=N1->R N1
abbrev rv (s:ByteArray)(n:Int)(b:Bool):Bx:=.var [.str s,.int .i64 n,.bool b]
abbrev kB (f:FuncId)(I:List PV)(N:Nat)(R:Bool->Nat->Prop):Prop:=∀ N1,N<=N1->ACalls prog f [.bool] I N1 λb J=>N1<=J->R b J
abbrev kI (f:FuncId)(I:List PV)(N:Nat)(R:Int->Nat->Prop):Prop:=∀ N1,N<=N1->ACalls prog f [.int .i64] I N1 λb J=>N1<=J->R b J
abbrev kS (f:FuncId)(I:List PV)(N:Nat)(R:ByteArray->Nat->Prop):Prop:=∀ N1,N<=N1->ACalls prog f [.str] I N1 λb J=>N1<=J->R b J
abbrev kA (z:Nat)(f:FuncId)(I:List PV)(N:Nat)(R:D->Nat->Prop):Prop:=∀ N1,N<=N1->ACalls prog f [.ag z] I N1 λx J=>N1<=J->Bel J x->R x J
abbrev kAB (z:Nat)(f:FuncId)(I:List PV)(N:Nat)(R:D->Bool->Nat->Prop):Prop:=∀ N1,N<=N1->ACalls prog f [.ag z,.bool] I N1 λx b J=>N1<=J->Bel J x->R x b J
abbrev kIB (f:FuncId)(I:List PV)(N:Nat)(R:Int->Bool->Nat->Prop):Prop:=∀ N1,N<=N1->ACalls prog f [.int .i64,.bool] I N1 λx b J=>N1<=J->R x b J
abbrev rB (f:FuncId)(I:List PV)(s:ByteArray)(n:Int)(b:Bool)(N:Nat)(R:Bool->ByteArray->Int->Bool->Nat->Prop):Prop:=∀ N1,N<=N1->BCalls prog f [.bool,.str,.int .i64,.bool] (.pb 0 0 0 0::I) [rv s n b] N1 λx s n b J=>N1<=J->R x s n b J
abbrev rS (f:FuncId)(I:List PV)(s:ByteArray)(n:Int)(b:Bool)(N:Nat)(R:ByteArray->ByteArray->Int->Bool->Nat->Prop):Prop:=∀ N1,N<=N1->BCalls prog f [.str,.str,.int .i64,.bool] (.pb 0 0 0 0::I) [rv s n b] N1 λx s n b J=>N1<=J->R x s n b J
abbrev rU (f:FuncId)(I:List PV)(s:ByteArray)(n:Int)(b:Bool)(N:Nat)(R:ByteArray->Int->Bool->Nat->Prop):Prop:=∀ N1,N<=N1->BCalls prog f [.str,.int .i64,.bool] (.pb 0 0 0 0::I) [rv s n b] N1 λs n b J=>N1<=J->R s n b J
abbrev rA (z:Nat)(f:FuncId)(I:List PV)(s:ByteArray)(n:Int)(b:Bool)(N:Nat)(R:D->ByteArray->Int->Bool->Nat->Prop):Prop:=∀ N1,N<=N1->BCalls prog f [.ag z,.str,.int .i64,.bool] (.pb 0 0 0 0::I) [rv s n b] N1 λx s n b J=>N1<=J->Bel J x->R x s n b J
end Go.Proofs.YtldbmnklnpfpfaaGreatDoor
