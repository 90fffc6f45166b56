/- The walker: what a function's code comes to, as a formula on ghost values. -/
import Derived.Test.YtlaniepnglheoaaGreatJq
import Derived.Test.YtlaniepnglheoaaGreatChecked
set_option linter.unusedVariables false
set_option linter.unusedSimpArgs false
set_option linter.unusedSectionVars false
namespace Go.Proofs.YtlaniepnglheoaaGreat
open Go
variable [Dfs] {av:Nat->Prop} {P:Program} {w0 w w':World} {e0 e:Env} {pS pS' pB pB':List Nat} {a:Act} {st st':St}
def base (f:FuncId):Frame:={ (default:Frame)with fn:=f,kind:=.normal }
def Yb (P:Program)(fr:Frame)(w:World)(e:Ending):Prop:=match Dfs.on with
 | none=>fr.leaving P w e
 | some ds=>e=.returned (.tuple fr.tmps)/\fr.mode=.returning/\fr.defers=ds/\fr.kind=.normal
def Rk (P:Program)(f:FuncId)(k:List Item)(R:Ending->World->Prop)(a:Act)(w:World):Prop:=
 ∀ cs,∃ e w' fr,R e w'/\Comes P (lone ((base f).at a k) cs w) (lone fr cs w') e/\fr.fn=f/\Yb P fr w' e
theorem we {f:FuncId}{k I:List Item}{R:Ending->World->Prop}{J:Act}(hs:∀ cs,step P (lone ((base f).at a k) cs w)=.next (lone ((base f).at J I) cs w'))(h:Rk P f I R J w'):Rk P f k R a w:=
 λcs=>let⟨e,w2,fr,O,U,Y⟩:=h cs;⟨e,w2,fr,O,.of_steps (.one (hs cs)) U,Y⟩
theorem MT {f:FuncId}{c:Code}{k:List Item}{R:Ending->World->Prop}(h:c.wp P (λex J w'=>ex=.normal/\Rk P f k R J w') a w):Rk P f (.code c::k) R a w:=λcs=>by obtain⟨ex,J,w',⟨rfl,O⟩,I⟩:=h (base f) k cs;obtain⟨e,w2,fr,U,Y,h3⟩:=O cs;exact⟨e,w2,fr,U,.of_steps I Y,h3⟩
theorem KS (I:Dfs.on=none){f:FuncId}{fn:Func}{k:List Item}{R:Ending->World->Prop}(hk:k=[]\/∃ J,k=.code .ret::J)(O:P.funcs[f]?=some fn)(hd:a.defers=Dfs.on.getD []){v:Value}(hr:(results fn a.tmps).run P w=.ok v w)(U:R (.returned v) w):Rk P f k R a w:=λcs=>by
 rw[I]at hd;rcases hk with rfl | ⟨J,rfl⟩
 ·exact⟨.returned v,w,_,U,.one step_end,rfl,by unfold Yb;rw[I];exact⟨rfl,hd,rfl,fn,O,hr⟩⟩
 ·exact⟨.returned v,w,_,U,.one step_ret,rfl,by unfold Yb;rw[I];exact⟨rfl,hd,rfl,fn,O,hr⟩⟩
def zAN:List PV->Option (Option Addr × List D × Nat × Int × Int)
 | [.sv a z es c,.int k n,.int I m]=>match decide (z=0/\k=.i64/\I=.i64)with
   | true=>some (a,es,c,n,m)
   | false=>none
 | _=>none
theorem XJ {cs:List PV}{a:Option Addr}{es:List D}{c:Nat}{n m:Int}(h:zAN cs=some (a,es,c,n,m)):cs=[.sv a 0 es c,.int .i64 n,.int .i64 m]:=by
 unfold zAN at h;split at h
 ·split at h
  ·rename_i hd;simp at hd h;obtain⟨rfl,rfl,rfl⟩:=hd;obtain⟨rfl,rfl,rfl,rfl,rfl⟩:=h;rfl
  ·cases h
 ·cases h
def uf (st:St):(l:List Sh)->QT l->List Nat->List PV->Prop
 | [],Q,_,ps=>match ps with
   | []=>∀ N,st.N<=N->Q N
   | _=>False
 | .int k::l,Q,us,ps=>match ps with
   | .int J n::ps=>match decide (k=J)with
     | true=>uf st l (Q n) us ps
     | false=>False
   | _=>False
 | .bool::l,Q,us,ps=>match ps with
   | .bool v::ps=>uf st l (Q v) us ps
   | _=>False
 | .str::l,Q,us,ps=>match ps with
   | .str v::ps=>uf st l (Q v) us ps
   | _=>False
 | .sl z::l,Q,us,ps=>match ps with
   | .sv a z' es c::ps=>match decide (z=z')with
     | true=>uf st l (Q a es c) us ps
     | false=>False
   | _=>False
 | .ag n::l,Q,us,ps=>match ps with
   | p :: ps=>match Ob p with
     | .dg O x=>match decide (n=O)with
       | true=>uf st l (Q x) us ps
       | false=>False
     | _=>False
   | _=>False
 | .row t z::l,Q,us,ps=>match ps with
   | .sb k z' lo n c::ps=>match st.bx[k]? with
     | some (.arr t' I es U)=>match decide (t'=t)&&decide (z'=z)&&decide (I=z)&&decide (lo=0)&&!us.contains k with
       | true=>(n=es.length/\c=U)/\uf st l (Q es c) (k::us) ps
       | false=>False
     | _=>False
   | .sv none _ [] 0::ps=>uf st l (Q [] 0) us ps
   | _=>False
 | .pk::l,Q,us,ps=>match Wh l with
   | true=>uf st l Q us ps
   | false=>False
 | .dc::l,Q,us,ps=>match ps with
   | p::ps=>match Aq p with
     | some x=>uf st l (Q x) us ps
     | none=>False
   | _=>False
 | .bk j::l,Q,us,ps=>match ps with
   | p::ps=>match Aq p with
     | some x=>uf st l (Q x) us ps
     | none=>False
   | _=>False
 | .cu :: l,Q,us,ps=>match ps with
   | .pb k z i o::ps=>match st.bx[k]?,decide (z=0/\i=0/\o=0)&&!us.contains k with
     | some (.var cs),true=>match zAN cs with
       | some (a,es,c,n,m)=>uf st l (Q a es c n m) (k::us) ps
       | none=>False
     | _,_=>False
   | _=>False
abbrev Sel:=List (Option Nat × Bx)
def Sel.rows (s:Sel):List Bx:=s.map (·.2)
def Sel.env (e:Env)(s:Sel):Env:=s.map λx=>x.1.bind e.at
structure SelOk (st:St) (us:List Nat) (s:Sel):Prop where
 at_:∀ x∈s,(x.1=none/\∃ t z,x.2=.arr t z [] 0)\/∃ k,x.1=some k/\st.bx[k]?=some x.2/\x.2.row
 nd:(s.filterMap (·.1)).Nodup
 un:∀ k∈s.filterMap (·.1),k∉us
def MQ:PV->Bool
 | .int ..=>true
 | .bool ..=>true
 | .str ..=>true
 | .sv ..=>true
 | .dg ..=>true
 | _=>false
def zAe:PV->Bool
 | .sb ..=>true
 | .dc ..=>true
 | _=>false
def zA9 (w:World)(e:Env)(live:Nat->Prop)(E:Env)(p q:PV):Prop:=p.val e=q.val1 E/\(p.Ok w live->q.Ok w live)/\p≠.any/\(MQ p=true->q=p\/zAe q=true)
theorem zq (h:Rel av w0 e0 [] [] a w e st):∀(l:List Sh) (Q:QT l) (us:List Nat) (ps:List PV) (b:Nat),uf st l Q us ps->(∀ p∈ps,p.Ok w (zg av [] e st.bx)\/MQ p=true) ->
  ∃ qs s,QT.app l Q b qs (Sel.rows s) w.heap.size/\SelOk st us s/\qs.length=ps.length /\
    ∀(E:Env),E.length=b->∀(i:Nat) (p q:PV),ps[i]?=some p->qs[i]?=some q->zA9 w e (zg av [] e st.bx) (E++s.env e) p q
 | [],Q,us,ps,b,hs,_=>by
   cases ps with
   | nil=>exact⟨[],[],hs _ h.hN,⟨by simp,by simp,by simp⟩,rfl,by simp⟩
   | cons=>exact hs.elim
 | .int k::l,Q,us,ps,b,hs,J=>by
   cases ps with
   | nil=>exact hs.elim
   | cons p ps=>
     cases p<;>simp only[uf]at hs<;>try exact hs.elim
     rename_i k' n;cases hk:decide (k=k')with
     | true=>
       rw[hk]at hs;obtain⟨qs,s,Y,U,h3,h4⟩:=zq h l _ us ps b hs (λp I=>J p (by simp[I]));refine⟨.int k n::qs,s,⟨rfl,Y⟩,U,by simp[h3],λE hE i p q I O=>?_⟩;cases i with
       | zero=>simp at I O hk;subst I;subst O;subst hk;exact⟨rfl,id,by simp,λ_=>.inl rfl⟩
       | succ i=>exact h4 E hE i p q (by simpa using I) (by simpa using O)
     | false=>rw[hk]at hs;exact hs.elim
 | .bool::l,Q,us,ps,b,hs,J=>by
   cases ps with
   | nil=>exact hs.elim
   | cons p ps=>
     cases p<;>simp only[uf]at hs<;>try exact hs.elim
     rename_i n;obtain⟨qs,s,Y,U,h3,h4⟩:=zq h l _ us ps b hs (λp I=>J p (by simp[I]));refine⟨.bool n::qs,s,Y,U,by simp[h3],λE hE i p q I O=>?_⟩;cases i with
     | zero=>simp at I O;subst I;subst O;exact⟨rfl,id,by simp,λ_=>.inl rfl⟩
     | succ i=>exact h4 E hE i p q (by simpa using I) (by simpa using O)
 | .str::l,Q,us,ps,b,hs,J=>by
   cases ps with
   | nil=>exact hs.elim
   | cons p ps=>
     cases p<;>simp only[uf]at hs<;>try exact hs.elim
     rename_i n;obtain⟨qs,s,Y,U,h3,h4⟩:=zq h l _ us ps b hs (λp I=>J p (by simp[I]));refine⟨.str n::qs,s,Y,U,by simp[h3],λE hE i p q I O=>?_⟩;cases i with
     | zero=>simp at I O;subst I;subst O;exact⟨rfl,id,by simp,λ_=>.inl rfl⟩
     | succ i=>exact h4 E hE i p q (by simpa using I) (by simpa using O)
 | .sl z::l,Q,us,ps,b,hs,J=>by
   cases ps with
   | nil=>exact hs.elim
   | cons p ps=>
     cases p<;>simp only[uf]at hs<;>try exact hs.elim
     rename_i ad z' es c;cases hz:decide (z=z')with
     | true=>
       rw[hz]at hs;simp at hz;subst hz;obtain⟨qs,s,Y,U,h3,h4⟩:=zq h l _ us ps b hs (λp I=>J p (by simp[I]));refine⟨.sv ad z es c::qs,s,⟨rfl,Y⟩,U,by simp[h3],λE hE i p q I O=>?_⟩;cases i with
       | zero=>simp at I O;subst I;subst O;exact⟨rfl,id,by simp,λ_=>.inl rfl⟩
       | succ i=>exact h4 E hE i p q (by simpa using I) (by simpa using O)
     | false=>rw[hz]at hs;exact hs.elim
 | .ag n::l,Q,us,ps,b,hs,J=>by
   cases ps with
   | nil=>exact hs.elim
   | cons p ps=>
     simp only[uf]at hs;split at hs
     rotate_left
     ·exact hs.elim
     rename_i n' x ab;split at hs
     rotate_left
     ·exact hs.elim
     rename_i hz;simp at hz;subst hz;obtain⟨qs,s,Y,U,h3,h4⟩:=zq h l _ us ps b hs (λp I=>J p (by simp[I]));refine⟨.dg n x::qs,s,⟨rfl,Y⟩,U,by simp[h3],λE hE i r q I O=>?_⟩;cases i with
     | zero=>
       simp at I O;subst I;subst O;rcases J p (by simp)with aa | hdx
       rotate_left
       ·cases p<;>simp[MQ]at hdx<;>simp[Ob]at ab
        rw[ab.1,ab.2];exact⟨rfl,id,by simp,λ_=>.inl rfl⟩
       have ak:=JL (e:=e) aa;rw[ab]at ak;rcases ak with h5 | ⟨h8,h6,h7,_⟩
       ·cases h5
       ·refine⟨h6,h7,h8,λhx=>.inl ?_⟩;cases p<;>simp[MQ]at hx<;>simp[Ob]at ab
        rw[ab.1,ab.2]
     | succ i=>exact h4 E hE i r q (by simpa using I) (by simpa using O)
 | .row t z::l,Q,us,ps,b,hs,J=>by
   cases ps with
   | nil=>exact hs.elim
   | cons p ps=>
     simp only[uf]at hs;split at hs
     ·rename_i k z' lo n c al ac;cases ac;split at hs
      ·rename_i t' ah es c' hk;split at hs
       rotate_left
       ·exact hs.elim
       rename_i hc;simp only[oE,oq,mA]at hc;obtain⟨⟨⟨⟨am,ao⟩,aq⟩,au⟩,ai⟩:=hc;subst am;subst ao;subst aq;subst au;obtain⟨⟨rfl,rfl⟩,hs⟩:=hs;obtain⟨qs,s,Y,U,h3,h4⟩:=zq h l _ (k::us) ps (b+1) hs (λp I=>J p (by simp[I]));refine⟨.sb b ah 0 es.length c::qs,(some k,.arr t' ah es c)::s,⟨⟨rfl,rfl,rfl,rfl,rfl,rfl,rfl⟩,Y⟩,⟨λx hx=>?_,?_,λj hj=>?_⟩,by simp[h3],λE hE i r q I O=>?_⟩
       ·rcases oH.1 hx with rfl | hx
        ·exact .inr ⟨k,rfl,hk,trivial⟩
        ·exact U.at_ x hx
       ·simp only[mH];exact na.2 ⟨λhc=>U.un k hc (by simp),U.nd⟩
       ·simp only[mH]at hj;rcases oH.1 hj with rfl | hj
        ·intro hc;simp[hc]at ai
        ·exact λhc=>U.un j hj (by simp[hc])
       ·have ae:Env.at (E++Sel.env e ((some k,Bx.arr t' ah es c)::s)) b=e.at k:=by simp[Sel.env,Env.at,oB,<-hE]
        cases i with
        | zero=>simp at I O;subst I;subst O;refine⟨?_,id,by simp,λ_=>.inr rfl⟩;simp only[PV.val,PV.val1,PV.cv,ae]
        | succ i=>
          have:=h4 (E++[e.at k]) (by simp[hE]) i r q (by simpa using I) (by simpa using O)
          simpa [Sel.env]using this
      ·exact hs.elim
     ·rename_i zz al ac;cases ac;obtain⟨qs,s,Y,U,h3,h4⟩:=zq h l _ us ps (b+1) hs (λp I=>J p (by simp[I]));refine⟨.sb b z 0 0 0::qs,(none,.arr t z [] 0)::s,⟨⟨rfl,rfl,rfl,rfl,rfl,rfl,rfl⟩,Y⟩,⟨λx hx=>?_,?_,λj hj=>?_⟩,by simp[h3],λE hE i r q I O=>?_⟩
      ·rcases oH.1 hx with rfl | hx
       ·exact .inl ⟨rfl,t,z,rfl⟩
       ·exact U.at_ x hx
      ·simpa using U.nd
      ·exact U.un j (by simpa using hj)
      ·have ae:Env.at (E++Sel.env e (((none:Option Nat),Bx.arr t z [] 0)::s)) b=none:=by simp[Sel.env,Env.at,oB,<-hE]
       cases i with
       | zero=>simp at I O;subst I;subst O;refine⟨?_,λ_=>trivial,by simp,λ_=>.inr rfl⟩;simp[PV.val,PV.val1,PV.cv,ae]
       | succ i=>
         have:=h4 (E++[none]) (by simp[hE]) i r q (by simpa using I) (by simpa using O)
         simpa [Sel.env]using this
     ·exact hs.elim
 | .cu :: l,Q,us,ps,b,hs,J=>by
   cases ps with
   | nil=>exact hs.elim
   | cons p ps=>
     simp only[uf]at hs;split at hs
     rotate_left
     ·exact hs.elim
     rename_i k z i o al ac;cases ac;split at hs
     rotate_left
     ·exact hs.elim
     rename_i cs hk hc;split at hs
     rotate_left
     ·exact hs.elim
     rename_i a' es c n m aw;have ax:=XJ aw;subst ax;simp only[oE,oq,mA]at hc;obtain⟨⟨rfl,rfl,rfl⟩,ai⟩:=hc;obtain⟨qs,s,Y,U,h3,h4⟩:=zq h l _ (k::us) ps (b+1) hs (λp I=>J p (by simp[I]));refine⟨.pb b 0 0 0::qs,(some k,.var [.sv a' 0 es c,.int .i64 n,.int .i64 m])::s,⟨_,_,_,_,_,rfl,rfl,Y⟩,⟨λx hx=>?_,?_,λj hj=>?_⟩,by simp[h3],λE hE i r q I O=>?_⟩
     ·rcases oH.1 hx with rfl | hx
      ·exact .inr ⟨k,rfl,hk,_,_,_,_,_,rfl⟩
      ·exact U.at_ x hx
     ·simp only[mH];exact na.2 ⟨λhc=>U.un k hc (by simp),U.nd⟩
     ·simp only[mH]at hj;rcases oH.1 hj with rfl | hj
      ·intro hc;simp[hc]at ai
      ·exact λhc=>U.un j hj (by simp[hc])
     ·have ae:Env.at (E++Sel.env e ((some k,Bx.var [.sv a' 0 es c,.int .i64 n,.int .i64 m])::s)) b=e.at k:=by simp[Sel.env,Env.at,oB,<-hE]
      cases i with
      | zero=>simp at I O;subst I;subst O;refine⟨?_,id,by simp,λhx=>by cases hx⟩;simp only[PV.val,PV.val1,PV.cv,ae]
      | succ i=>
        have:=h4 (E++[e.at k]) (by simp[hE]) i r q (by simpa using I) (by simpa using O)
        simpa [Sel.env]using this
 | .pk::l,Q,us,ps,b,hs,J=>by
   simp only[uf]at hs;split at hs
   ·rename_i hk;obtain⟨qs,s,Y,U,h3,h4⟩:=zq h l Q us ps b hs J;exact⟨qs,s,⟨hk,Y⟩,U,h3,h4⟩
   ·exact hs.elim
 | .dc :: l,Q,us,ps,b,hs,J=>by
   cases ps with
   | nil=>exact hs.elim
   | cons p ps=>
     simp only[uf]at hs;split at hs
     rotate_left
     ·exact hs.elim
     rename_i x hx;obtain⟨qs,s,Y,U,h3,h4⟩:=zq h l _ us ps b hs (λp I=>J p (by simp[I]));refine⟨.dc x::qs,s,Y,U,by simp[h3],λE hE i r q I O=>?_⟩;cases i with
     | zero=>
       simp at I O;subst I;subst O;have hv:p.val e=p.cv e:=by cases p<;>first | rfl | (simp[Aq]at hx)
       have aj:x.cv=p.cv e:=by
        rcases J p (by simp)with aa | hdx
        ·exact(wN (e:=e) hx aa).2.2.1
        ·cases p<;>simp[MQ]at hdx<;>simp[Aq]at hx<;>subst hx<;>rfl
       refine⟨by rw[hv,<-aj];rfl,λI=>?_,λhc=>by subst hc;simp[Aq]at hx,λ_=>.inr rfl⟩;obtain⟨g1,g2,_⟩:=wN (e:=e) hx I;exact⟨g1,g2⟩
     | succ i=>exact h4 E hE i r q (by simpa using I) (by simpa using O)
 | .bk j::l,Q,us,ps,b,hs,J=>by
   cases ps with
   | nil=>exact hs.elim
   | cons p ps=>
     simp only[uf]at hs;split at hs
     rotate_left
     ·exact hs.elim
     rename_i x hx;obtain⟨qs,s,Y,U,h3,h4⟩:=zq h l _ us ps b hs (λp I=>J p (by simp[I]));refine⟨.dc x::qs,s,Y,U,by simp[h3],λE hE i r q I O=>?_⟩;cases i with
     | zero=>
       simp at I O;subst I;subst O;have hv:p.val e=p.cv e:=by cases p<;>first | rfl | (simp[Aq]at hx)
       have aj:x.cv=p.cv e:=by
        rcases J p (by simp)with aa | hdx
        ·exact(wN (e:=e) hx aa).2.2.1
        ·cases p<;>simp[MQ]at hdx<;>simp[Aq]at hx<;>subst hx<;>rfl
       refine⟨by rw[hv,<-aj];rfl,λI=>?_,λhc=>by subst hc;simp[Aq]at hx,λ_=>.inr rfl⟩;obtain⟨g1,g2,_⟩:=wN (e:=e) hx I;exact⟨g1,g2⟩
     | succ i=>exact h4 E hE i r q (by simpa using I) (by simpa using O)
theorem Tp (h:Rel av w0 [] [] [] a w e st){s:Sel}(hs:SelOk st [] s):Mem av [] w (s.env e) s.rows/\(∀ b,zg av [] (s.env e) s.rows b->zg av [] e st.bx b)/\∀(k b:Nat),(s.env e).at k=some b->w0.heap.size<=b:=by
 have ac:∀(j:Nat) (x:Option Nat × Bx),s[j]?=some x->(s.env e).at j=x.1.bind e.at:=λj x I=>by simp[Sel.env,Env.at,oB,I]
 have Y:∀(j:Nat) (B:Bx),s.rows[j]?=some B->∃ x,s[j]?=some x/\x.2=B:=λj B I=>by
  simp only[Sel.rows,oG]at I;cases hx:s[j]? with
  | none=>simp[hx]at I
  | some x=>simp[hx]at I;exact⟨x,rfl,I⟩
 have ab:∀(j b:Nat),(s.env e).at j=some b->∃ x k,s[j]?=some x/\x.1=some k/\Lives [] e st.bx k b:=λj b I=>by
  cases hx:s[j]? with
  | none=>simp[Sel.env,Env.at,oB,hx]at I
  | some x=>
    rw[ac j x hx]at I;rcases hs.at_ x (oA hx)with⟨J,_⟩ | ⟨k,J,O,U⟩
    ·rw[J]at I;cases I
    ·rw[J]at I;exact⟨x,k,rfl,J,by simp,I,x.2,O,U.sp.1⟩
 have aa:∀ b,zg av [] (s.env e) s.rows b->zg av [] e st.bx b:=λb hb=>hb.imp id λ⟨j,I⟩=>by obtain⟨_,k,_,_,U⟩:=ab j b I.2.1;exact⟨k,U⟩
 refine⟨{ el:=by simp[Sel.env,Sel.rows],br:=λj B I _=>?_,bo:=λj B I _=>?_,bf:=λj B I _ i hi=>?_,inj:=λi j b hi I=>?_ },aa,λj b I=>?_⟩
 ·obtain⟨x,hx,rfl⟩:=Y j B I;rw[ac j x hx];rcases hs.at_ x (oA hx)with⟨J,t,z,O⟩ | ⟨k,J,O,U⟩
  ·rw[J,O];exact .inl ⟨rfl,rfl,rfl⟩
  ·rw[J];refine(h.br k _ O (by simp)).congr (λ_ _=>rfl) λi hi=>?_;rw[U.sp.2]at hi;simp at hi
 ·obtain⟨x,hx,rfl⟩:=Y j B I;rcases hs.at_ x (oA hx)with⟨J,t,z,O⟩ | ⟨k,J,O,U⟩
  ·rw[O];intro y hy;simp at hy
  ·exact(h.bo k _ O (by simp)).mono (λ_ _ _=>rfl) (oD _) λb _=>aa b
 ·obtain⟨x,hx,rfl⟩:=Y j B I;rcases hs.at_ x (oA hx)with⟨J,t,z,O⟩ | ⟨k,J,O,U⟩
  ·rw[O]at hi;simp[Bx.refs]at hi
  ·rw[U.sp.2]at hi;simp at hi
 ·obtain⟨x,k,J,O,U⟩:=ab i b hi.2.1;obtain⟨y,l,g1,g2,g3⟩:=ab j b I.2.1;have aj:=h.inj k l b U g3;subst aj
  have key:∀(s:Sel) (i j:Nat) (x y:Option Nat × Bx),(s.filterMap (·.1)).Nodup->s[i]?=some x->s[j]?=some y->x.1=some k->y.1=some k->i=j:=by
   intro s
   induction s with
   | nil=>intro i j x y _ hx;simp at hx
   | cons u s ih=>
     intro i j x y hn hx hy ae ah;have ak:(s.filterMap (·.1)).Nodup:=by
      cases hu:u.1 with
      | none=>simpa [hu]using hn
      | some m=>simp only[mH,hu]at hn;exact(na.1 hn).2
     have ai:u.1=some k->k∉s.filterMap (·.1):=λhu=>by simp only[mH,hu]at hn;exact(na.1 hn).1
     cases i with
     | zero=>
       simp at hx;subst hx;cases j with
       | zero=>rfl
       | succ j=>simp at hy;exact absurd (mC.2 ⟨y,oA hy,ah⟩) (ai ae)
     | succ i=>
       simp at hx;cases j with
       | zero=>simp at hy;subst hy;exact absurd (mC.2 ⟨x,oA hx,ae⟩) (ai ah)
       | succ j=>simp at hy;rw[ih i j x y ak hx hy ae ah]
  exact key s i j x y hs.nd J g1 O g2
 ·obtain⟨_,k,_,_,U⟩:=ab j b I;rcases h.own k b U with h4 | h4
  ·exact h4
  ·simp at h4
def QH:ResultVar->Nat
 | .tmp t=>t
 | .cell a _=>a
def YR (P:Program)(st:St):List ResultVar->(List PV->Prop)->Prop
 | [],K=>K []
 | .tmp t::l,K=>YR P st l λps=>K (st.sl.getD t .any::ps)
 | .cell a t::l,K=>C4 P (opd st.sl) (λk=>st.bx[k]?) (.load t (.tmp a)) t λp=>YR P st l λps=>K (p::ps)
def Ke:Sh->Bool
 | .row ..=>true
 | .cu=>true
 | .dc=>true
 | .bk _=>true
 | _=>false
def Zy:List Sh->List Nat->List Nat
 | .pk::_,_=>[]
 | s::l,t::I=>match Ke s with
   | true=>Zy l I
   | false=>t::Zy l I
 | _,_=>[]
def FL (pk:Bool)(ps:List PV):List PV:=match pk with
 | true=>match ps with
   | [.pg cs]=>cs
   | _=>[.any]
 | false=>ps
def zAn (P:Program)(f:FuncId)(rs:List Sh)(Q:QT rs)(N0:Option Nat)(st:St):Prop:=
 match P.funcs[f]? with
 | some fn=>Ac N0 #[] [] (Zy rs (fn.results.toList.map QH)) (fn.results.toList.map QH) st λst=>YR P st fn.results.toList λps=>uf st rs Q [] (FL (D3 rs) (zy P fn.resultTypes.toList ps))
 | none=>False
def On (tmps:Array Value)(r:ResultVar):Sem Value:=match r with
 | .tmp t=>pure (tmps.getD t undef)
 | .cell a t=>do loadVar t (<-asAddr (tmps.getD a undef))
theorem Vq (tmps:Array Value):(λ(r:ResultVar)=>match r with
 | .tmp t=>(pure (tmps.getD t undef):Sem Value)
 | .cell a t=>do loadVar t (<-asAddr (tmps.getD a undef)))=On tmps:=by funext r;cases r<;>rfl
theorem Ap (h:Rel av w0 e0 [] [] a w e st):∀(l:List ResultVar) (K:List PV->Prop),YR P st l K->∃ vs ps,K ps/\(l.mapM (On a.tmps)).run P w=.ok vs w/\vs.length=l.length/\ps.length=l.length /\
  ∀(i:Nat) (v:Value) (p:PV),vs[i]?=some v->ps[i]?=some p->ValOk av w e [] st.bx v p
 | [],K,U=>⟨[],[],U,by simp,rfl,rfl,by simp⟩
 | .tmp t::l,K,U=>by
   obtain⟨vs,ps,h1,h2,h3,h4,h5⟩:=Ap h l _ U;have hv:ValOk av w e [] st.bx (a.eval (.tmp t)) (opd st.sl (.tmp t)):=(vu h (x:=.tmp t) (by simp)).valOk;refine⟨a.tmps.getD t undef::vs,st.sl.getD t .any::ps,h1,?_,by simp[h3],by simp[h4],λi v p I O=>?_⟩
   ·simp[On,h2]
   ·cases i with
    | zero=>simp only[lQ,nL]at I O;subst I;subst O;exact hv
    | succ i=>exact h5 i v p (by simpa using I) (by simpa using O)
 | .cell c t::l,K,U=>by
   simp only [YR] at U;have ho:∀ x∈(Op.load t (.tmp c)).operands,OpdOk av a w e [] st.bx x (opd st.sl x):=λx hx=>vu h (by simp);obtain ⟨v0, p0, J, g2, g3⟩ := JH (o := ⟨none, .load t (.tmp c), t, "", #[], none⟩) h.toMem ho (λk B hk => ⟨hk, by simp⟩) U;obtain ⟨vs,ps,h1,h2,h3,h4,h5⟩:=Ap h l _ g2
   have Y:(On a.tmps (.cell c t)).run P w=.ok v0 w:=by
    simp only[execOp]at J;have he:a.eval (.tmp c)=a.tmps.getD c undef:=rfl;rw[he]at J;simp only[On];cases hv:a.tmps.getD c undef with
    | pointer p=>
      cases p with
      | none=>rw[hv]at J;simp[Instr.loadAt,Instr.sureAddr]at J
      | some ad=>
        rw[hv]at J;simp[Instr.loadAt,Instr.sureAddr,asAddr]at J ⊢;generalize (loadVar t ad).run P w=r at J ⊢;cases r with
        | ok x w1=>simp at J ⊢;exact J
        | halt x w1=>simp at J
    | _=>rw[hv]at J;simp[Instr.loadAt,Instr.sureAddr]at J
   refine⟨v0::vs,p0::ps,h1,?_,by simp[h3],by simp[h4],λi v p I O=>?_⟩
   ·rw[List.mapM_cons];simp only[Sem.run_bind,Y,Result.andThen_ok,h2,Sem.run_pure]
   ·cases i with
    | zero=>simp only[lQ,nL]at I O;subst I;subst O;exact g3
    | succ i=>exact h5 i v p (by simpa using I) (by simpa using O)
def Zm (vs:List Value):Value:=match vs with
 | [v]=>v
 | vs=>.tuple vs.toArray
theorem Bk {fn:Func} {vs:List Value} {tmps:Array Value} (h:(fn.results.toList.mapM (On tmps)).run P w=.ok vs w) :
  (results fn tmps).run P w=.ok (Zm vs) w:=by
 unfold results;have I:∀ F:ResultVar->Sem Value,F=On tmps->((do
   let vs <-fn.results.mapM F
   pure (if h:vs.size=1 then vs[0]else .tuple vs):Sem Value)).run P w=.ok (Zm vs) w:=λF J=>by
  subst J;rw[Array.mapM_eq_mapM_toList];simp[h];rcases vs with _ | ⟨t,_ | ⟨u,O⟩⟩<;>simp[Zm]
 exact I _ (Vq tmps)
theorem KM {e:Env}{p:PV}(h:p.isC):p.val e=p.cv e:=by
 cases p<;>first | rfl | exact h.elim | skip
 rename_i x;cases x<;>first | rfl | (simp[PV.isC,D.isCell]at h)
theorem JR {e:Env}{p:PV}(h:p.isC):p.val1 e=p.cv e:=by
 have:=KM (e:=e) h
 cases p<;>first | exact this | exact h.elim
theorem RT (hD:Dfs.on=none) (h:Rel av w0 [] [] [] a w e st) {f:FuncId} {rs:List Sh} {Q:QT rs} {k:List Item} (hk:k=[]\/∃ k',k=.code .ret::k') {N0:Option Nat} (au:NOk N0 w0) (hs:zAn P f rs Q N0 st):Rk P f k (Fin rs Q av w0) a w:=by
 unfold zAn at hs;split at hs
 rotate_left
 ·exact hs.elim
 rename_i fn hf;obtain⟨aw,T,U,_,_,Y⟩:=uX h au (by simp) hs;obtain⟨vs,ps,U,ah,ai,aj,ax⟩:=Ap Y _ _ U;have O:∀(i:Nat) (p:PV),(zy P fn.resultTypes.toList ps)[i]?=some p->∃ v,vs[i]?=some v/\ValOk av w e [] aw.bx v p:=λi p J=>by
  obtain⟨q,hq,ay⟩:=qN _ _ _ _ J;have I:i<vs.length:=by rw[ai,<-aj];exact(oC.1 hq).1
  have hv:=ax i _ q (oF I) hq;refine⟨_,oF I,?_⟩;rcases ay with rfl | ⟨ty,rfl⟩
  ·exact hv
  ·exact hv.retag ty
 cases aa:D3 rs with
 | true =>
   rw[aa]at U
   have az:∃ cs,zy P fn.resultTypes.toList ps=[.pg cs]:=by
    by_cases hc:∃ cs,zy P fn.resultTypes.toList ps=[.pg cs]
    ·exact hc
    ·exfalso;have J:FL true (zy P fn.resultTypes.toList ps)=[.any]:=by
      simp only[FL];split
      ·rename_i cs ae;exact absurd ⟨cs,ae⟩ hc
      ·rfl
     rw[J]at U;cases rs with
     | nil=>simp[D3]at aa
     | cons s l=>
       cases s<;>simp[D3]at aa
       simp only[uf]at U;split at U
       ·rename_i hk;cases l with
        | nil=>exact U.elim
        | cons s l=>cases s<;>simp only[uf]at U<;>first | exact U.elim | (simp[Wh]at hk)
       ·exact U.elim
   obtain⟨cs,ae⟩:=az;rw[ae]at U O;simp only[FL]at U;obtain⟨v,ak,ab⟩:=O 0 (.pg cs) rfl;have al:vs=[v]:=by
    have h5:vs.length=1:=by have h6:=lY List.length ae;rw[wl]at h6;rw[ai,<-aj,h6];rfl
    rcases vs with _ | ⟨u,_ | _⟩<;>simp at h5 ak
    subst ak;rfl
   have am:=ab.2.1;simp only[PV.Ok]at am;obtain⟨ac,ao⟩:=am;rw[PV.OkL_iff]at ac;obtain⟨qs,s,g1,g2,g3,g4⟩:=zq Y rs Q [] _ 0 U (λp J=>.inl (ac p J));obtain⟨m1,m2,m3⟩:=Tp Y g2;have a0:=QT.app_pk aa g1;refine KS hD hk hf Y.nd (Bk ah) ⟨qs,s.rows,s.env e,g1,?_,m1,λq hq=>?_,m3,Y.size,λb hb=>Y.old b hb (by simp),λb c t z hb hc=>Y.fz b c t z (.inl hb) hc,Y.ku⟩
   ·rw[al,aa];simp only[Zm,Oq];rw[ab.1.resolve_left (by simp)];simp only[PV.val,PV.val1,PV.cvs_eq];congr 2;apply nK;intro i;rw[oG,oG];cases hq:qs[i]? with
    | none=>rw[show cs[i]?=none from oY (by rw[<-g3];exact nX.1 hq)];rfl
    | some q=>
      have I:i<cs.length:=by rw[<-g3];exact(oC.1 hq).1
      have J:=oF I;rw[J];simp only[oe,nL];have h5:=g4 [] rfl i _ q J hq;rw[<-KM (ao _ (oA J)),h5.1,JR (a0 q (oA hq))];rfl
   ·obtain⟨i,hi⟩:=oQ.1 hq;have I:i<cs.length:=by rw[<-g3];exact(oC.1 hi).1
    have J:=oF I;exact PV.Ok.mono (λ_ _ _=>rfl) (oD _) (λb _=>m2 b) q ((g4 [] rfl i _ q J hi).2.1 (ac _ (oA J)))
 | false=>
 rw[aa]at U;simp only[FL]at U;obtain⟨qs,s,g1,g2,g3,g4⟩:=zq Y rs Q [] _ 0 U (λp J=>by obtain⟨i,hi⟩:=oQ.1 J;obtain⟨t,_,hv⟩:=O i p hi;exact .inl hv.2.1);obtain⟨m1,m2,m3⟩:=Tp Y g2;have aq:qs.length=vs.length:=by rw[g3,wl,aj,ai]
 refine KS hD hk hf Y.nd (Bk ah) ⟨qs,s.rows,s.env e,g1,?_,m1,λq hq=>?_,m3,Y.size,λb hb=>Y.old b hb (by simp),λb c t z hb hc=>Y.fz b c t z (.inl hb) hc,Y.ku⟩
 ·-- the values
  have hv:vs=qs.map (PV.val1 (s.env e)):=by
   apply nK;intro i;rw[oG];cases hq:qs[i]? with
   | none=>have:vs[i]?=none:=oY (by rw[<-aq];exact nX.1 hq);rw[this];rfl
   | some q=>
     have I:i<(zy P fn.resultTypes.toList ps).length:=by rw[<-g3];exact(oC.1 hq).1
     have J:=oF I;obtain⟨v,hv,ab⟩:=O i _ J;rw[hv];simp only[oe,nL];have h5:=g4 [] rfl i _ q J hq;rw[ab.1.resolve_left h5.2.2.1,h5.1];rfl
  rw[hv,aa];simp only[Oq];unfold Or;rcases qs with _ | ⟨q,_ | ⟨r,qs⟩⟩<;>rfl
 ·obtain⟨i,hi⟩:=oQ.1 hq;have I:i<(zy P fn.resultTypes.toList ps).length:=by rw[<-g3];exact(oC.1 hi).1
  have J:=oF I;obtain⟨t,ht,ab⟩:=O i _ J;exact PV.Ok.mono (λ_ _ _=>rfl) (oD _) (λb _=>m2 b) q ((g4 [] rfl i _ q J hi).2.1 ab.2.1)
variable {av:Nat->Prop} {P:Program} {w0 w w':World} {e0 e:Env} {pS pS' pB pB':List Nat} {a:Act} {st st':St}
mutual
def vw:PV->PV->Bool
 | .any,.any=>true
 | .pb k z i o,.pb I z' i' J=>Nat.beq k I&&Nat.beq z z'&&Nat.beq i i'&&Nat.beq o J
 | .fn f l,.fn O l'=>Nat.beq f O&&EC l l'
 | _,_=>false
def EC:List PV->List PV->Bool
 | [],[]=>true
 | p::ps,q::qs=>vw p q&&EC ps qs
 | _,_=>false
end
mutual
theorem M0:∀ {p q:PV},vw p q=true->p=q
 | .any,q,h=>by cases q<;>simp[vw]at h ⊢
 | .pb k z i o,q,h=>by
   cases q<;>simp[vw]at h
   obtain⟨⟨⟨I,J⟩,O⟩,U⟩:=h
   rw[I,J,O,U]
 | .fn f l,q,h=>by
   cases q<;>simp[vw]at h
   rw[h.1,JT h.2]
 | .int ..,q,h=>by simp[vw]at h
 | .bool ..,q,h=>by simp[vw]at h
 | .str ..,q,h=>by simp[vw]at h
 | .lit ..,q,h=>by simp[vw]at h
 | .sv ..,q,h=>by simp[vw]at h
 | .d ..,q,h=>by simp[vw]at h
 | .dc ..,q,h=>by simp[vw]at h
 | .dg ..,q,h=>by simp[vw]at h
 | .pd ..,q,h=>by simp[vw]at h
 | .sb ..,q,h=>by simp[vw]at h
 | .pg ..,q,h=>by simp[vw]at h
 | .tp ..,q,h=>by simp[vw]at h
theorem JT:∀ {p q:List PV},EC p q=true->p=q
 | [],q,h=>by cases q<;>simp[EC]at h ⊢
 | p :: ps,q,h=>by
   cases q with
   | nil=>simp[EC]at h
   | cons q qs=>
     simp[EC]at h
     rw[M0 h.1,JT h.2]
end
def zAh (all:List Bx)(q p:PV)(K:Prop):Prop:=match Dt q with
 | some _=>match Dt p with
   | some _=>K
   | none=>False
 | none=>match q,p with
   | .sb k z lo _ _,.sb J z' I n c=>match Nat.beq k J&&Nat.beq z z'&&Nat.beq lo I with
     | true=>match all[k]? with
       | some (.arr _ _ es O)=>(n=es.length/\c=O)/\K
       | _=>False
     | false=>False
   | q,p=>match vw q p with
     | true=>K
     | false=>False
def Xh (all:List Bx):List PV->List PV->Prop->Prop
 | [],[],K=>K
 | q::qs,p::ps,K=>zAh all q p (Xh all qs ps K)
 | _,_,_=>False
def ZS (all:List Bx)(J B:Bx)(K:Prop):Prop:=match J,B with
 | .var I,.var cs=>Xh all I cs K
 | .vd _ n,.vd _ O=>match Nat.beq n O with
   | true=>K
   | false=>False
 | .arr t z _ _,.arr t' z' _ _=>match Nat.beq t t'&&Nat.beq z z' with
   | true=>K
   | false=>False
 | _,_=>False
def Xi (all:List Bx):List Bx->List Bx->Prop->Prop
 | [],[],K=>K
 | B0::b0,B::bs,K=>ZS all B0 B (Xi all b0 bs K)
 | _,_,_=>False
theorem TE {all:List Bx} {q p:PV} {K:Prop} (h:zAh all q p K):K/\(((∃ s,Dt q=some s)/\∃ s,Dt p=some s)\/(Dt q=none/\Dt p=none /\
  ∀ I:List Bx,(∀(k:Nat) t z es c,all[k]?=some (.arr t z es c)->I[k]?=some (.arr t z es c))->Y9 I q=p)):=by
 unfold zAh at h;split at h
 ·rename_i s hs;split at h
  ·rename_i s' O;exact⟨h,.inl ⟨⟨s,hs⟩,s',O⟩⟩
  ·exact h.elim
 ·rename_i hq;split at h
  ·rename_i k z lo n0 c0 k' z' aa n c;split at h
   ·rename_i hk;simp only[oE]at hk;obtain⟨⟨U,Y⟩,h3⟩:=hk;have U:=nO U;have Y:=nO Y;have h3:=nO h3;subst U;subst Y;subst h3;split at h
    ·rename_i t zz es c' ha;obtain⟨⟨rfl,rfl⟩,hK⟩:=h;refine⟨hK,.inr ⟨rfl,rfl,λI J=>?_⟩⟩;simp only[Y9,J _ _ _ _ _ ha]
    ·exact h.elim
   ·exact h.elim
  ·rename_i ab;split at h
   ·rename_i hs;have he:=M0 hs;subst he;refine⟨h,.inr ⟨hq,hq,λI _=>?_⟩⟩;cases q<;>first | rfl | simp[vw]at hs
   ·exact h.elim
theorem D7 {all:List Bx}:∀ {O cs:List PV} {K:Prop},Xh all O cs K->K/\∀ rest:List PV,(PF O (UQ cs++rest)).2=rest /\
  ∀ I:List Bx,(∀(k:Nat) t z es c,all[k]?=some (.arr t z es c)->I[k]?=some (.arr t z es c))->(PF O (UQ cs++rest)).1.map (Y9 I)=cs
 | [],[],K,h=>⟨h,λrest=>⟨rfl,λ_ _=>rfl⟩⟩
 | [],_::_,K,h=>h.elim
 | _::_,[],K,h=>h.elim
 | q::qs,p::ps,K,h=>by
   obtain⟨h1,h2⟩:=TE h;obtain⟨h3,h4⟩:=D7 h1;refine⟨h3,λrest=>?_⟩;obtain⟨h5,h6⟩:=h4 rest;rcases h2 with⟨⟨s,hs⟩,s',U⟩ | ⟨hq,hp,Y⟩
   ·simp only[PF,hs,UQ,U,nE];refine⟨h5,λI J=>?_⟩;rw[oZ,h6 I J];congr 1;cases p<;>simp[Dt]at U<;>rfl
   ·simp only[PF,hq,UQ,hp];exact⟨h5,λI J=>by rw[oZ,h6 I J,Y I J]⟩
theorem Mr {all:List Bx}:∀ {b0 bs:List Bx} {K:Prop},Xi all b0 bs K->K/\∀ rest:List PV,(∀(k:Nat) t z es c,bs[k]?=some (.arr t z es c)->(RY b0 (Hr bs++rest))[k]?=some (.arr t z es c)) /\
  ∀ I:List Bx,(∀(k:Nat) t z es c,all[k]?=some (.arr t z es c)->I[k]?=some (.arr t z es c))->(RY b0 (Hr bs++rest)).map (Y8 I)=bs
 | [],[],K,h=>⟨h,λrest=>⟨by simp,λ_ _=>rfl⟩⟩
 | [],_::_,K,h=>h.elim
 | _::_,[],K,h=>h.elim
 | B0 :: b0,B::bs,K,h=>by
   simp only[Xi]at h;have key:∀(K':Prop),ZS all B0 B K'->K'/\∀ rest:List PV,(Qa B0 (Rj B++rest)).2=rest/\(∀ t z es c,B=.arr t z es c->(Qa B0 (Rj B++rest)).1=.arr t z es c) /\
     ∀ I:List Bx,(∀(k:Nat) t z es c,all[k]?=some (.arr t z es c)->I[k]?=some (.arr t z es c))->Y8 I (Qa B0 (Rj B++rest)).1=B:=λK' h=>by
    unfold ZS at h;split at h
    ·rename_i Y cs;obtain⟨U,O⟩:=D7 h;refine⟨U,λrest=>⟨(O rest).1,λ_ _ _ _ hc=>(by cases hc),λI J=>?_⟩⟩;simp only[Qa,Y8,Rj,(O rest).2 I J]
    ·rename_i x n y n';split at h
     ·rename_i hn;have hn:=nO hn;subst hn;exact⟨h,λrest=>⟨rfl,λ_ _ _ _ hc=>(by cases hc),λ_ _=>rfl⟩⟩
     ·exact h.elim
    ·rename_i t z aa c0 t' z' es c;split at h
     ·rename_i hn;simp only[oE]at hn;have U:=nO hn.1;have O:=nO hn.2;subst U;subst O;exact⟨h,λrest=>⟨rfl,λ_ _ _ _ hc=>(by cases hc;rfl),λ_ _=>rfl⟩⟩
     ·exact h.elim
    ·exact h.elim
   obtain⟨U,O⟩:=key _ h;obtain⟨h3,h4⟩:=Mr U;refine⟨h3,λrest=>?_⟩;have e1:Hr (B::bs)++rest=Rj B++(Hr bs++rest):=by simp[Hr]
   rw[e1];obtain⟨h5,h6,h7⟩:=O (Hr bs++rest);obtain⟨h8,h9⟩:=h4 rest;simp only[RY,h5];refine⟨λk t z es c hk=>?_,λI J=>by rw[oZ,h7 I J,h9 I J]⟩;cases k with
   | zero=>simp at hk ⊢;exact h6 _ _ _ _ hk
   | succ k=>simp only[nS]at hk ⊢;exact h8 k _ _ _ _ hk
theorem TF {all:List Bx}:∀ {b0 bs:List Bx}{K:Prop},Xi all b0 bs K->∀ B∈bs,B≠.gone
 | [],[],K,h=>by simp
 | [],_::_,K,h=>h.elim
 | _::_,[],K,h=>h.elim
 | B0::b0,B::bs,K,h=>by
   simp only[Xi]at h;have key:∀ K',ZS all B0 B K'->B≠.gone/\K':=λK' h=>by
    unfold ZS at h;split at h
    ·exact⟨by simp,(D7 h).1⟩
    ·split at h
     ·exact⟨by simp,h⟩
     ·exact h.elim
    ·split at h
     ·exact⟨by simp,h⟩
     ·exact h.elim
    ·exact h.elim
   obtain⟨I,J⟩:=key _ h;intro C hC;rcases oH.1 hC with rfl | hC
   ·exact I
   ·exact TF J C hC
theorem Vb {b0 bs:List Bx}{K:Prop}(h:Xi bs b0 bs K):K/\Lw b0 (Hr bs)=bs:=by obtain⟨O,U⟩:=Mr h;obtain⟨I,J⟩:=U [];rw[ou]at I J;exact⟨O,J _ I⟩
def qL (E:Env):Nat->List Bx->List (Option Nat)
 | _,[]=>[]
 | k,B::bs=>(match B with
   | .var _=>some ((E.at k).getD 0)
   | .vd _ _=>some ((E.at k).getD 0)
   | _=>none)::qL E (k+1) bs
theorem AI {E:Env}:∀(bs:List Bx)(k:Nat),(qL E k bs).length=bs.length
 | [],k=>rfl
 | B::bs,k=>by simp[qL,AI bs]
theorem Mw {E:Env}:∀(bs:List Bx)(k j:Nat)(B:Bx),bs[j]?=some B->B.isArr=false->(qL E k bs)[j]?=some (some ((E.at (k+j)).getD 0))
 | B::bs,k,0,B',h,I=>by simp at h;subst h;cases B<;>simp[Bx.isArr]at I<;>simp[qL]
 | B::bs,k,j+1,B',h,I=>by simp only[nS]at h;simp only[qL,nS];rw[Mw bs (k+1) j B' h I,show k+1+j=k+(j+1) by omega]
def Ww (p:Option (List (Option Nat) × List Nat))(E:Env)(bx0:List Bx):Prop:=p=some (qL E 0 bx0,[])
def WF (E:Env)(bx0:List Bx):Prop:=Ww (some (qL E 0 bx0,[])) E bx0
theorem vN {E:Env}{bx0:List Bx}:WF E bx0:=rfl
def YN:List Sh->Bool
 | []=>true
 | .pk::_=>false
 | _::l=>YN l
def Xm (st:St)(m:Nat):List Nat:=(C7 st.bx 200 (List.range m) []).filter λk=>ZK st k&&Nat.ble m k
def R0 (full:List Sh)(ps:List PV):List PV:=match full with
 | .bk _::_=>[.int .i64 0]
 | _=>ps
def zAH (st:St)(m:Nat)(full:List Sh)(ps:List PV)(K:Prop):Prop:=match full with
 | .bk j::_=>match ps with
   | [.sb k z lo n c]=>match st.bx[j]? with
     | some (.arr _ z' es I)=>match Nat.beq k j&&Nat.beq lo 0&&Nat.beq z z'&&Nat.blt j m with
       | true=>(n=es.length/\c=I)/\K
       | false=>False
     | _=>False
   | _=>False
 | _=>K
theorem Rz {m:Nat}{full:List Sh}{ps:List PV}{K:Prop}(h:zAH st m full ps K):K/\(((∀ j l,full≠.bk j::l)/\R0 full ps=ps)\/∃ j l t z es c,full=.bk j::l/\ps=[.sb j z 0 es.length c]/\st.bx[j]?=some (.arr t z es c)/\j<m/\R0 full ps=[.int .i64 0]):=by
 unfold zAH at h;split at h
 ·rename_i j l;split at h
  ·rename_i k z lo n c;split at h
   ·rename_i t z' es c' Y;split at h
    ·rename_i U;simp only[oE]at U;obtain⟨⟨⟨I,J⟩,O⟩,h4⟩:=U;have I:=nO I;have J:=nO J;have O:=nO O;subst I;subst J;subst O;obtain⟨⟨rfl,rfl⟩,hK⟩:=h;exact⟨hK,.inr ⟨_,_,_,_,_,_,rfl,rfl,Y,by simpa [Nat.blt_eq]using h4,rfl⟩⟩
    ·exact h.elim
   ·exact h.elim
  ·exact h.elim
 ·rename_i hn;refine⟨h,.inl ⟨λj l hc=>hn j l hc,?_⟩⟩;unfold R0;split
  ·exact absurd rfl (hn _ _)
  ·rfl
def zAr (full:List Sh):List Sh:=match full with
 | .bk _::l=>.row 0 0::l
 | l=>l
def R2:List Sh->List Sh
 | .pk::l=>l
 | l=>l
def zAm (pk:Bool)(ps:List PV):Bool:=match pk with
 | true=>match ps with
   | [.pg _]=>true
   | _=>false
 | false=>true
def Zw (P:Program)(f:FuncId)(full:List Sh)(Q:QT full)(N0:Option Nat)(E:Env)(bx0:List Bx)(st:St):Prop:=
 match P.funcs[f]? with
 | some fn=>Ac N0 #[] [] (Zy (zAr full) (fn.results.toList.map QH)) (fn.results.toList.map QH) st λst=>MK N0 [] [] (Xm st bx0.length) st λst=>
  Ww st.pin E bx0/\Xi (st.bx.take bx0.length) bx0 (st.bx.take bx0.length) (YR P st fn.results.toList λps=>match Nat.beq fn.resultTypes.size fn.results.size&&(((R2 full).drop (IJ P f full bx0)).all λs=>!Ke s)&&(bx0.all λB=>B.refs.all λi=>decide (i<bx0.length))&&YN (R2 full)&&(zAm (D3 full) (zy P fn.resultTypes.toList ps)&&Nat.beq (FL (D3 full) (zy P fn.resultTypes.toList ps)).length (IJ P f full bx0))with
  | true=>zAH st bx0.length full (FL (D3 full) (zy P fn.resultTypes.toList ps)) (uf st full Q (List.range bx0.length) (R0 full (FL (D3 full) (zy P fn.resultTypes.toList ps))++Hr (st.bx.take bx0.length)))
  | false=>False)
 | none=>False
theorem Lq:∀ {cs:List PV}{p:PV},p∈UQ cs->p∈cs/\MQ p=true/\p.refs=[]
 | q :: cs,p,h=>by
   simp only[UQ]at h;split at h
   ·rename_i s hs;rcases oH.1 h with rfl | h
    ·refine⟨by simp,?_⟩;cases p<;>simp[Dt]at hs<;>exact⟨rfl,rfl⟩
    ·obtain⟨I,J⟩:=Lq h;exact⟨by simp[I],J⟩
   ·obtain⟨I,J⟩:=Lq h;exact⟨by simp[I],J⟩
theorem X2 {e ne:Env}{m:Nat}{B:Bx}(h:B.row):BPick e ne m B B:=by
 cases B with
 | arr t z es c=>exact⟨.inr (.inl ⟨rfl,by simp⟩)⟩
 | _ =>
   obtain⟨_,_,_,_,_,J⟩:=h;cases J<;>exact⟨.inr (.inr ⟨_,_,rfl,rfl,rfl,λi q I=>by
    have hr:q.refs=[]:=by
     have:=oA I
     simp at this;rcases this with rfl | rfl | rfl<;>rfl
    exact .inr ⟨q,I,id,PV.cv_congr q (by simp[hr]),λ_ _=>id,id,by simp[hr]⟩⟩)⟩
theorem TG {s:Sh}{l:List Sh}(h:YN (s::l)=true):s≠.pk/\YN l=true:=by cases s<;>simp[YN]at h<;>exact⟨by simp,h⟩
theorem QT.app_plainrow:∀(l:List Sh)(Q:QT l)(b:Nat)(ps:List PV)(rows:List Bx)(N:Nat),YN l=true->QT.app l Q b ps rows N->ps.length=l.length/\∀(i:Nat)(s:Sh)(p:PV),l[i]?=some s->Ke s=false->ps[i]?=some p->zAe p=false
 | [],Q,b,ps,rows,N,hn,h=>by cases ps<;>cases rows<;>simp[QT.app]at h ⊢
 | s :: l,Q,b,ps,rows,N,hn,h=>by
   obtain⟨hs,hn⟩:=TG hn;cases ps with
   | nil=>cases s<;>first | exact absurd rfl hs | (simp[QT.app]at h;done)
   | cons p ps=>
     have key:(∃(Q':QT l) (O:Nat) (I:List Bx),QT.app l Q' O ps I N)/\(Ke s=false->zAe p=false):=by
      cases s<;>(try(exact absurd rfl hs))<;>cases p<;>(try(exact h.elim))<;>(try(simp[QT.app]at h;done))<;>first
       | exact⟨⟨_,_,_,h⟩,λ_=>rfl⟩
       | exact⟨⟨_,_,_,h⟩,λhc=>by cases hc⟩
       | exact⟨⟨_,_,_,h.2⟩,λ_=>rfl⟩
       | skip
      all_goals
       cases rows with
       | nil=>simp[QT.app]at h
       | cons B rows=>
         cases B<;>first
          | exact⟨⟨_,b+1,_,h.2⟩,λhc=>by cases hc⟩
          | (simp[QT.app]at h;done)
          | (obtain⟨_,_,_,_,_,_,_,h⟩:=h;exact⟨⟨_,_,_,h⟩,λhc=>by cases hc⟩)
     obtain⟨⟨Q',O,I,U⟩,Y⟩:=key;obtain⟨h1,h2⟩:=QT.app_plainrow l Q' O ps I N hn U;refine⟨by simp[h1],λi s' p' hs hr J=>?_⟩;cases i with
     | zero=>simp at hs J;subst hs;subst J;exact Y hr
     | succ i=>exact h2 i s' p' (by simpa using hs) hr (by simpa using J)
theorem QT.app_body {full:List Sh}{Q:QT full}{b:Nat}{ps:List PV}{rows:List Bx}{N:Nat}(h:QT.app full Q b ps rows N):∃ Q':QT (R2 full),QT.app (R2 full) Q' b ps rows N:=by
 cases full with
 | nil=>exact⟨Q,h⟩
 | cons s l=>cases s<;>first | exact⟨Q,h⟩ | exact⟨Q,h.2⟩
theorem TO {pk:Bool}{ps:List PV}(h:zAm pk ps=true):(pk=false/\FL pk ps=ps)\/∃ cs,pk=true/\ps=[.pg cs]/\FL pk ps=cs:=by
 cases pk with
 | false=>exact .inl ⟨rfl,rfl⟩
 | true=>
   unfold zAm at h;simp only at h;split at h
   ·exact .inr ⟨_,rfl,rfl,rfl⟩
   ·cases h
theorem Vv {E:Env} (h:Rel av w0 E [] [] a w e st) {f:FuncId} {full:List Sh} {Q:QT full} {N0:Option Nat} (hN0:NOk N0 w0) {bx0:List Bx} (hs:Zw P f full Q N0 E bx0 st):∃ fn v,P.funcs[f]?=some fn/\(results fn a.tmps).run P w=.ok v w/\Zs full Q (IJ P f full bx0) av w0 E bx0 (.returned v) w:=by
 unfold Zw at hs;split at hs
 rotate_left
 ·exact hs.elim
 rename_i fn hf;obtain⟨st0,T,h0,_,_,h1⟩:=uX h hN0 (by simp) hs;obtain⟨st1,h2,_,h3⟩:=pT hN0 (by simp) (by simp) _ _ h1 (by simp) h0;obtain⟨hpin,h2⟩:=h2;unfold Ww at hpin;have hgn:=TF h2;obtain⟨h2,hupd⟩:=Vb h2;obtain⟨vs,ps,h2,hrun,hvl,hpl,hvp⟩:=Ap h3 _ _ h2;split at h2
 rotate_left
 ·exact h2.elim
 rename_i hbool;simp only[oE,oa,mA,oq]at hbool;obtain⟨⟨⟨⟨hrt,hrow⟩,hclosed⟩,hnpk⟩,hpgk,hkn⟩:=hbool;have hkn:=nO hkn;have hrt:=nO hrt;obtain⟨h2,hbk⟩:=Rz h2;clear hs;generalize IJ P f full bx0=nn at hrow hkn ⊢;have hpins:st1.pins=qL E 0 bx0:=by simp[St.pins,hpin]
 have hns:∀ p∈Hr (st1.bx.take bx0.length),MQ p=true/\p.refs=[]:=fun p hp=>by
  simp only[Hr,mL]at hp;obtain⟨B,_,hp⟩:=hp;cases B<;>simp only[Rj]at hp
  ·exact(Lq hp).2
  ·simp at hp;subst hp;exact⟨rfl,rfl⟩
  ·simp at hp;subst hp;exact⟨rfl,rfl⟩
  ·simp at hp
 obtain⟨ul,ug⟩:=LC bx0 (Hr (st1.bx.take bx0.length)) fun p hp=>(hns p hp).2;rw[hupd]at ul ug;have hm:bx0.length<=st1.bx.length:=by rw[nC]at ul;omega
 have hgn:∀(k:Nat) (B:Bx),k<bx0.length->st1.bx[k]?=some B->B≠.gone:=fun k B hk hB=>hgn B (oA (i:=k) (by rw[od];simp[hk,hB]));have htk:∀ j,j<bx0.length->(st1.bx.take bx0.length)[j]?=st1.bx[j]?:=fun j hj=>by rw[od];simp[hj]
 have hrefs:∀(j:Nat) (B:Bx),j<bx0.length->st1.bx[j]?=some B->∀ i∈B.refs,i<bx0.length:=fun j B hj hB i hi=>by obtain⟨B1,g1,g2,_⟩:=ug j B (by rw[htk j hj];exact hB);exact hclosed B1 (oA g1) i (g2 i hi)
 have hres:∀(i:Nat) (p:PV),(zy P fn.resultTypes.toList ps)[i]?=some p->∃ v,vs[i]?=some v/\ValOk av w e [] st1.bx v p:=fun i p hp=>by
  obtain⟨q,hq,hqp⟩:=qN _ _ _ _ hp;have hlt:i<vs.length:=by rw[hvl,<-hpl];exact(oC.1 hq).1
  have hv:=hvp i _ q (oF hlt) hq;refine⟨_,oF hlt,?_⟩;rcases hqp with rfl | ⟨ty,rfl⟩
  ·exact hv
  ·exact hv.retag ty
 have hpk:=TO hpgk;have hresK:∀ p∈FL (D3 full) (zy P fn.resultTypes.toList ps),p.Ok w (zg av [] e st1.bx):=fun p hp=>by
  rcases hpk with⟨_,g⟩ | ⟨cs,_,g1,g⟩
  ·rw[g]at hp;obtain⟨i,hi⟩:=oQ.1 hp;obtain⟨t,_,hv⟩:=hres i p hi;exact hv.2.1
  ·rw[g]at hp;obtain⟨v,_,hvo⟩:=hres 0 (.pg cs) (by rw[g1];rfl)
   have:=hvo.2.1
   simp only[PV.Ok]at this;exact PV.OkL_iff.1 this.1 p hp
 generalize FL (D3 full) (zy P fn.resultTypes.toList ps)=psk at hkn hpk hresK h2 hbk ⊢;have hprOk:∀ p∈R0 full psk,p.Ok w (zg av [] e st1.bx):=fun p hp=>by
  rcases hbk with⟨_,g⟩ | ⟨j,l,t,z,es,c,_,_,_,_,g⟩
  ·rw[g]at hp;exact hresK p hp
  ·rw[g]at hp;rw[oW]at hp;subst hp;trivial
 obtain⟨qs,s,g1,g2,g3,g4⟩:=zq h3 full Q (List.range bx0.length) _ bx0.length h2 (fun p hp=>by
  rcases oM.1 hp with hp | hp
  ·exact .inl (hprOk p hp)
  ·exact .inr (hns p hp).1)
 have hn0:psk.length=nn:=hkn;have hr0:(zy P fn.resultTypes.toList ps).length=fn.resultTypes.size:=by rw[wl,hpl,hrt];simp
 have hn:(R0 full psk).length=nn:=by
  rcases hbk with⟨_,g⟩ | ⟨j,l,t,z,es,c,_,g2,_,_,g⟩
  ·rw[g];exact hn0
  ·rw[g,<-hn0,g2];rfl
 have hvn:vs.length=fn.resultTypes.size:=by rw[hvl,hrt];simp
 obtain⟨Q',g1'⟩:=QT.app_body g1;obtain⟨hql,hqrow⟩:=QT.app_plainrow _ _ _ _ _ _ hnpk g1';have hel:bx0.length<=e.length:=by rw[h3.el];exact hm
 have hEl:(e.take bx0.length).length=bx0.length:=by simp;omega
 have hqx:qs.drop nn=Hr (st1.bx.take bx0.length):=by
  apply nK;intro i;rw[nU];cases hx:(Hr (st1.bx.take bx0.length))[i]? with
  | none=>
    refine oY ?_;rw[g3,oK,hn]
    have:=nX.1 hx
    omega
  | some p=>
    have hlt:nn+i<qs.length:=by
     rw[g3,oK,hn]
     have:=(oC.1 hx).1
     omega
    have hq:=oF hlt;have hp:(R0 full psk++Hr (st1.bx.take bx0.length))[nn+i]?=some p:=by rw[oS (by omega),hn];simpa using hx
    have ht:=(g4 _ hEl _ p _ hp hq).2.2.2 (hns p (oA hx)).1;have hlf:nn+i<(R2 full).length:=by rw[<-hql];exact hlt
    have hsb:=hqrow (nn+i) _ _ (oF hlf) (hrow _ (oA (i:=i) (by rw[nU,oF hlf]))) hq;rcases ht with ht | ht
    ·rw[hq,ht]
    ·rw[hsb]at ht;cases ht
 have hqs:qs=qs.take nn++Hr (st1.bx.take bx0.length):=by rw[<-hqx];exact(nu _ _).symm
 have hql1:(qs.take nn).length=nn:=by rw[nC,g3,oK,hn];omega
 have hne:((List.range bx0.length).map some++s.map (·.1)).map (fun u=>Option.bind u e.at)=e.take bx0.length++s.env e:=by
  rw[mF];congr 1
  ·apply nK;intro i;by_cases hi:i<bx0.length
   ·rw[od];have:i<e.length:=by omega
    simp[hi,Env.at,oB,this]
   ·rw[oY (by simp;omega),oY (by simp;omega)]
  ·simp[Sel.env]
 have hatk:∀ k,k<bx0.length->Env.at (e.take bx0.length++s.env e) k=e.at k:=fun k hk=>by rw[Env.at_app,if_pos (by rw[hEl];exact hk)];simp[Env.at,oB,od,hk]
 have hus:∀(j:Nat) u,((List.range bx0.length).map some++s.map (·.1))[j]?=some u->(j<bx0.length/\u=some j)\/∃ x,s[j - bx0.length]?=some x/\bx0.length<=j/\u=x.1:=fun j u hj=>by
  by_cases hlt:j<bx0.length
  ·rw[oO (by simpa using hlt)]at hj;simp[hlt]at hj;exact .inl ⟨hlt,hj.symm⟩
  ·rw[oS (by simp;omega)]at hj;simp only[om,List.length_range,oG]at hj;cases hx:s[j - bx0.length]? with
   | none=>simp[hx]at hj
   | some x=>simp[hx]at hj;exact .inr ⟨x,rfl,by omega,hj.symm⟩
 have hnb:∀(j:Nat) (B:Bx),(st1.bx.take bx0.length++s.rows)[j]?=some B->(j<bx0.length/\st1.bx[j]?=some B)\/∃ x,s[j - bx0.length]?=some x/\bx0.length<=j/\B=x.2:=fun j B hj=>by
  by_cases hlt:j<bx0.length
  ·rw[oO (by rw[ul];exact hlt),htk j hlt]at hj;exact .inl ⟨hlt,hj⟩
  ·rw[oS (by rw[ul];omega),ul]at hj;simp only[Sel.rows,oG]at hj;cases hx:s[j - bx0.length]? with
   | none=>simp[hx]at hj
   | some x=>simp[hx]at hj;exact .inr ⟨x,rfl,by omega,hj.symm⟩
 have hsel:∀(i:Nat) x k,s[i]?=some x->x.1=some k->bx0.length<=k/\∃ B,st1.bx[k]?=some B/\B≠.gone:=fun i x k hx hk=>by
  refine⟨?_,?_⟩
  ·have:=g2.un k (mC.2 ⟨x,oA hx,hk⟩)
   simpa using this
  ·rcases g2.at_ x (oA hx)with⟨h5,_⟩ | ⟨k2,h5,h6,h7⟩
   ·rw[h5]at hk;cases hk
   ·rw[hk]at h5;cases h5;exact⟨x.2,h6,h7.sp.1⟩
 obtain ⟨m1,m2,m3⟩:=Pv (us:=(List.range bx0.length).map some++s.map (·.1)) (nb:=st1.bx.take bx0.length++s.rows) (av':=av) h3.toMem (fun b hb=>.inl hb) (by simp[Sel.rows,ul])
  (fun i j k hi hj=>by
   rcases hus i _ hi with⟨a1,a2⟩ | ⟨x,a1,a2,a3⟩<;>rcases hus j _ hj with⟨b1,b2⟩ | ⟨y,b1,b2,b3⟩
   ·cases a2;cases b2;rfl
   ·cases a2;have:=(hsel _ y _ b1 b3.symm).1;omega
   ·cases b2;have:=(hsel _ x _ a1 a3.symm).1;omega
   ·have key:∀(s:Sel) (i j:Nat) (x y:Option Nat × Bx),(s.filterMap (·.1)).Nodup->s[i]?=some x->s[j]?=some y->x.1=some k->y.1=some k->i=j:=by
     intro s
     induction s with
     | nil=>intro i j x y _ hx;simp at hx
     | cons u s ih=>
       intro i j x y hn hx hy hxk hyk;have hn':(s.filterMap (·.1)).Nodup:=by
        cases hu:u.1 with
        | none=>simpa [hu]using hn
        | some m=>simp only[mH,hu]at hn;exact(na.1 hn).2
       have hnm:u.1=some k->k∉s.filterMap (·.1):=fun hu=>by simp only[mH,hu]at hn;exact(na.1 hn).1
       cases i with
       | zero=>
         simp at hx;subst hx;cases j with
         | zero=>rfl
         | succ j=>simp at hy;exact absurd (mC.2 ⟨y,oA hy,hyk⟩) (hnm hxk)
       | succ i=>
         simp at hx;cases j with
         | zero=>simp at hy;subst hy;exact absurd (mC.2 ⟨x,oA hx,hxk⟩) (hnm hyk)
         | succ j=>simp at hy;rw[ih i j x y hn' hx hy hxk hyk]
    have:=key s _ _ x y g2.nd a1 b1 a3.symm b3.symm
    omega)
  (fun j B hj=>by
   rcases hnb j B hj with⟨a1,a2⟩ | ⟨x,a1,a2,rfl⟩
   ·refine .inr ⟨j,B,?_,by simp,a2,⟨?_⟩⟩
    ·rw[oO (by simpa using a1)];simp[a1]
    ·rw [hne];cases B with
     | var cs=>
       refine .inr (.inr ⟨cs,cs,rfl,rfl,rfl,fun i q hq=>.inr ⟨q,hq,id,?_,fun _ _=>id,id,fun r hr=>?_⟩⟩)
       ·have hr:∀ r∈q.refs,r<bx0.length:=fun r hr=>hrefs j _ a1 a2 r (by simp only[Bx.refs];exact PV.refsL_mem.2 ⟨q,oA hq,hr⟩);exact(PV.cv_congr q fun r hr2=>hatk r (hr r hr2)).symm
       ·have:=hrefs j _ a1 a2 r (by simp only[Bx.refs];exact PV.refsL_mem.2 ⟨q,oA hq,hr⟩)
        simp;omega
     | _=>exact .inr (.inl ⟨rfl,by simp⟩)
   ·have hjs:((List.range bx0.length).map some++s.map (·.1))[j]?=some x.1:=by rw[oS (by simp;omega)];simp[a1]
    rcases g2.at_ x (oA a1)with⟨h5,t,z,h6⟩ | ⟨k2,h5,h6,h7⟩
    ·exact .inl ⟨by rw[hjs,h5],t,z,h6⟩
    ·exact .inr ⟨k2,x.2,by rw[hjs,h5],by simp,h6,X2 h7⟩)
 rw[hne]at m1 m2 m3;have hng:∀ k b,k<bx0.length->e.at k=some b->Lives [] e st1.bx k b:=fun k b hk hb=>by
  obtain⟨B,hB⟩:∃ B,st1.bx[k]?=some B:=⟨_,oF (by omega)⟩
  exact⟨by simp,hb,B,hB,hgn k B hk hB⟩
 refine⟨fn,_,hf,Bk hrun,qs.take nn,Hr (st1.bx.take bx0.length),s.rows,e.take bx0.length++s.env e,?_,{
  q:=by rw[<-hqs];exact g1
  v:=?_
  m:=by rw[hupd];exact m1
  ok:=fun q hq=>?_
  fix:=fun k B hB ha=>?_
  fresh:=fun k b hb=>?_
  size:=h3.size
  old:=h3.old
  fz:=h3.fz
  ku:=h3.ku
  ns:=fun p hp=>(hns p hp).2
  be:=Qd h3.toMem rfl fun B hB=>oi hB }⟩
 ·exact hql1
 ·rcases hbk with⟨gn,gp⟩ | ⟨j,l,t,z,es,c,gf,gps,gj,gm,gp⟩
  ·rw[HB gn];rw[gp]at g4 g3;rcases hpk with⟨gk,hpk⟩ | ⟨cs,gk,hcs,hpk⟩
   rotate_left
   ·have hqC:=QT.app_pk gk g1;obtain⟨v,hv0,hvo⟩:=hres 0 (.pg cs) (by rw[hcs];rfl);have hvs:vs=[v]:=by
     have h5:vs.length=1:=by rw[hvn,<-hr0,hcs];rfl
     rcases vs with _ | ⟨u,_ | _⟩<;>simp at h5 hv0
     subst hv0;rfl
    have hok:=hvo.2.1;simp only[PV.Ok]at hok;rw[hvs,gk];simp only[Zm,Oq];rw[hvo.1.resolve_left (by simp)];simp only[PV.val,PV.val1,PV.cvs_eq];congr 2;apply nK;intro i;rw[oG,oG];have hcl:cs.length=nn:=by rw[<-hkn,hpk]
    by_cases hi:i<nn
    ·have hlt:i<(qs.take nn).length:=by omega
     have hq:=oF hlt;have hq2:qs[i]?=some (qs.take nn)[i]:=by rw[<-hq,od];simp[hi]
     obtain⟨x,hp⟩:∃ x,cs[i]?=some x:=⟨_,oF (by omega)⟩
     have hp2:(psk++Hr (st1.bx.take bx0.length))[i]?=some x:=by rw[oO (by omega),hpk];exact hp
     have h5:=g4 _ hEl i _ _ hp2 hq2;rw[hq,hp];simp only[oe,nL];rw[<-KM (hok.2 _ (oA hp)),h5.1,JR (hqC _ (oA hq2))]
    ·rw[oY (by omega),oY (by omega)];rfl
   have hfn:fn.resultTypes.size=nn:=by rw[<-hr0,<-hpk,<-hkn]
   rw[gk];have hv:vs=(qs.take nn).map (PV.val1 (e.take bx0.length++s.env e)):=by
    apply nK;intro i;rw[oG];by_cases hi:i<nn
    ·have hlt:i<(qs.take nn).length:=by omega
     have hq:=oF hlt;have hq2:qs[i]?=some (qs.take nn)[i]:=by rw[<-hq,od];simp[hi]
     have hp:psk[i]?=some psk[i]:=oF (by omega);obtain⟨v,hv,hvo⟩:=hres i _ (by rw[<-hpk];exact hp);have hp2:(psk++Hr (st1.bx.take bx0.length))[i]?=some psk[i]:=by rw[oO (by omega)];exact hp
     have h5:=g4 _ hEl i _ _ hp2 hq2;rw[hv,hq,hvo.1.resolve_left h5.2.2.1,h5.1];rfl
    ·rw[oY (by omega),oY (by omega)];rfl
   rw[hv];simp only[Oq];unfold Or;rcases qs.take nn with _ | ⟨q,_ | ⟨r,qs⟩⟩<;>rfl
  ·rcases hpk with⟨gk,hpk⟩ | ⟨cs,gk,_,_⟩
   rotate_left
   ·rw[gf]at gk;cases gk
   have h1:psk[0]?=some (.sb j z 0 es.length c):=by rw[gps];rfl
   obtain⟨v,hv,hvo⟩:=hres 0 _ (by rw[<-hpk];exact h1);have hlen:vs.length=1:=by rw[hvn,<-hr0,<-hpk,gps];rfl
   have hvs:vs=[v]:=by
    match vs,hlen with
    | [v'],_=>simp at hv;rw[hv]
   have hUj:(Lw bx0 (Hr (st1.bx.take bx0.length)))[j]?=some (.arr t z es c):=by rw[hupd,htk j gm];exact gj
   rw[hvs,gf];simp only[Tf,hUj,PV.cv,hatk j gm]
   have:=hvo.1.resolve_left (by simp)
   rw[this];rfl
 ·rw[hupd];obtain⟨i,hi⟩:=oQ.1 hq;have hlt:=(oC.1 hi).1;rw[hql1]at hlt;have hq2:qs[i]?=some q:=by rw[<-hi,od];simp[hlt]
  have hp:(R0 full psk)[i]?=some (R0 full psk)[i]:=oF (by omega);have hvo:=hprOk _ (oA hp);have hp2:(R0 full psk++Hr (st1.bx.take bx0.length))[i]?=some (R0 full psk)[i]:=by rw[oO (by omega)];exact hp
  exact PV.Ok.mono (fun _ _ _=>rfl) (oD _) (fun b _=>m2 b) q ((g4 _ hEl i _ _ hp2 hq2).2.1 hvo)
 ·have hkl:=(oC.1 hB).1;have h5:=Mw (E:=E) bx0 0 k B hB ha;rw[<-hpins,nT]at h5;rw[hatk k hkl];exact(h3.pin k _ h5).1
 ·by_cases hkl:k<bx0.length
  ·rw[hatk k hkl]at hb;rcases h3.own k b (hng k b hkl hb)with h5 | ⟨h5,_⟩
   ·exact .inl h5
   ·exact .inr ⟨hkl,h5⟩
  ·rw [Env.at_app,if_neg (by omega),hEl]at hb;cases hx:s[k - bx0.length]? with
   | none=>simp[Sel.env,Env.at,oB,hx]at hb
   | some x=>
     simp only[Sel.env,Env.at,oB,oG,hx,oe,ob]at hb;cases hxk:x.1 with
     | none=>rw[hxk]at hb;cases hb
     | some k2=>
       rw[hxk]at hb;obtain⟨h5,B,h6,h7⟩:=hsel _ x k2 hx hxk;rcases h3.own k2 b ⟨by simp,hb,B,h6,h7⟩with h8 | ⟨_,h8⟩
       ·exact .inl h8
       ·rw[hpins,AI]at h8;omega
theorem RS (J:Dfs.on=none){E:Env}(h:Rel av w0 E [] [] a w e st){f:FuncId}{full:List Sh}{Q:QT full}{k:List Item}(hk:k=[]\/∃ O,k=.code .ret::O){N0:Option Nat}(I:NOk N0 w0){bx0:List Bx}(hs:Zw P f full Q N0 E bx0 st):Rk P f k (Zs full Q (IJ P f full bx0) av w0 E bx0) a w:=by obtain⟨fn,v,U,hr,Y⟩:=Vv h I hs;exact KS J hk U h.nd hr Y
variable {av:Nat->Prop} {P:Program} {w0 w w':World} {e0 e:Env} {pS pS' pB pB':List Nat} {a:Act} {st st':St}
structure Hint where
 cuts:List Cut:=[]
 joins:List Cut:=[]
 ords:List (Nat × List Ent):=[]
def eh (i:Nat):Ent:={ i:=i,hard:=true }
def en (i:Nat):Ent:={ i:=i }
def ec (i:Nat)(cl:List Nat):Ent:={ i:=i,hard:=true,cl:=cl }
def Y5 (i:Nat):List Ent->Ent
 | []=>eh i
 | e::l=>match Nat.beq e.i i with
   | true=>e
   | false=>Y5 i l
def zA2 (l:List Ent)(n:Nat):Nat->List Ent
 | 0=>[]
 | k+1=>Y5 (n - (k+1)) l::zA2 l n k
def hs (n:Nat)(l:List Ent):List Ent:=zA2 l n n
def hc (id:Nat)(keep:List Nat)(nils:List (Nat × TypeId × Nat):=[])(bnils:List (Nat × Nat × TypeId × Nat):=[]):Cut:={ id:=id,keep:=keep,nils:=nils,bnils:=bnils }
def an:Nat->List PV->List PV
 | 0,l=>l
 | n+1,l=>.any::an n l
def Dz:Code->Option Nat
 | .region id _ _=>some id
 | .seq a b=>match Dz a with
   | some i=>some i
   | none=>Dz b
 | .block _ c=>Dz c
 | .loop c=>Dz c
 | _=>none
def OO:List Cut->Nat->Option Cut
 | [],_=>none
 | c::l,id=>match Nat.beq c.id id with
   | true=>some c
   | false=>OO l id
def Sk:List (Nat × List Ent)->Nat->Option (List Ent)
 | [],_=>none
 | (i,o)::l,id=>match Nat.beq i id with
   | true=>some o
   | false=>Sk l id
def Vk (n:Nat):List Ent:=(List.range n).map λi=>{ i:=i,hard:=true }
def Vg (H:Hint)(id:Nat)(ops:Array Oper):List Ent:=match Sk H.ords id with
 | some o=>o
 | none=>Vk ops.size
def ZM (first:Bool)(H:Hint)(id:Nat):Option Cut:=match first with
 | true=>none
 | false=>OO H.joins id
def Zt (N0:Option Nat)(H:Hint)(c:Code)(st:St)(K:St->Prop):Prop:=match Dz c with
 | some id=>match OO H.cuts id with
   | some cut=>zAO N0 cut st λst=>FI st K
   | none=>False
 | none=>False
def zAp (st:St)(c:Operand)(v:Bool):St:=match c with
 | .tmp t=>st.put (some t) (.bool v)
 | _=>st
def Yz (st:St)(c:Operand)(A B:St->Prop):Prop:=match opd st.sl c with
 | .bool v=>Br v (A (zAp st c true)) (B (zAp st c false))
 | _=>False
inductive Mode where
 | ord
 | io (E:Env) (bx0:List Bx)
 | df (E:Env) (K:St->Prop)
def Mode.env0:Mode->Env
 | .ord=>[]
 | .io E _=>E
 | .df E _=>E
def Mode.n0:Mode->Nat->Option Nat
 | .ord,N=>some N
 | .io ..,N=>some N
 | .df ..,N=>some N
def Mode.fin (M:Mode)(P:Program)(f:FuncId)(rs:List Sh)(Q:QT rs)(av:Nat->Prop)(w0:World):Ending->World->Prop:=match M with
 | .ord=>Fin rs Q av w0
 | .io E bx0=>Zs rs Q (IJ P f rs bx0) av w0 E bx0
 | .df E K=>λen w=>∃ a e st,en=.returned (.tuple a.tmps)/\K st/\Rel av w0 E [] [] a w e st
def Zx (P:Program)(f:FuncId)(rs:List Sh)(Q:QT rs)(N0:Nat)(M:Mode)(st:St):Prop:=match Dfs.on with
 | none=>match M with
   | .ord=>zAn P f rs Q (some N0) st
   | .io E bx0=>Zw P f rs Q (some N0) E bx0 st
   | .df ..=>False
 | some _=>match M with
   | .df _ K=>K st
   | _=>False
structure AT (P:Program) (f:FuncId) (rs:List Sh) (Q:QT rs) (N0:Nat) (M:Mode) (k:List Item) (st:St):Prop where
 h:∀(av:Nat->Prop) (w0:World) (a:Act) (w:World) (e:Env),w0.heap.size=N0->Rel av w0 M.env0 [] [] a w e st->Rk P f k (M.fin P f rs Q av w0) a w
def W (P : Program) (sh:FuncId->List Sh) (f:FuncId) (rs:List Sh) (Q:QT rs) (N0:Nat) (M:Mode) (H:Hint):Nat->Bool->List Item->St->Prop
 | 0,_,_,_=>False
 | n + 1,first,J,st=>match J with
   | []=>Zx P f rs Q N0 M st
   | .inBlock _::k=>W P sh f rs Q N0 M H n first k st
   | .inLoop c::k=>Zt (M.n0 N0) H c st λst=>AT P f rs Q N0 M (.code c::.inLoop c::k) st
   | .code c::k=>match c with
     | .skip=>W P sh f rs Q N0 M H n first k st
     | .label _=>W P sh f rs Q N0 M H n first k st
     | .ret=>Zx P f rs Q N0 M st
     | .seq x y=>W P sh f rs Q N0 M H n first (.code x::.code y::k) st
     | .cond c x y=>Yz st c (λst=>W P sh f rs Q N0 M H n false (.code x::k) st) (λst=>W P sh f rs Q N0 M H n false (.code y::k) st)
     | .block id c=>W P sh f rs Q N0 M H n first (.code c::.inBlock id::k) st
     | .loop c=>Zt (M.n0 N0) H c st λst=>AT P f rs Q N0 M (.code c::.inLoop c::k) st
     | .exit id=>match exitTo id k with
       | some O=>W P sh f rs Q N0 M H n false O st
       | none=>False
     | .region id ops I=>match ZM first H id with
       | some cut=>zAO (M.n0 N0) cut st λst=>FI st λst=>AT P f rs Q N0 M (.code (.region id ops I)::k) st
       | none=>match I with
         | true=>match chk ops (Vg H id ops)with
           | true=>P9 P sh (M.n0 N0) ops (Vg H id ops) [] st λst=>FI st λst=>W P sh f rs Q N0 M H n false k st
           | false=>False
         | false=>match OT ops.size (Vg H id ops)with
           | true=>P9 P sh (M.n0 N0) ops (Vg H id ops) [] st λst=>FI st λst=>W P sh f rs Q N0 M H n false k st
           | false=>False
     | _=>False
   | _=>False
theorem nok (M:Mode)(w0:World):NOk (M.n0 w0.heap.size) w0:=λn hn=>by
 cases M with
 | ord=>cases hn;rfl
 | io=>cases hn;rfl
 | df=>cases hn;rfl
theorem I7 (h:Rel av w0 e0 [] [] a w e st){N0:Option Nat}(I:NOk N0 w0){H:Hint}{c:Code}{K:St->Prop}(hs:Zt N0 H c st K):∃ e' st',K st'/\Rel av w0 e0 [] [] a w e' st':=by
 unfold Zt at hs;split at hs
 ·split at hs
  ·obtain⟨e',st',J,O⟩:=I8 h I hs;rw[Ag]at J;exact⟨e',st',J,O⟩
  ·exact hs.elim
 ·exact hs.elim
theorem M8 {c:Operand}{v:Bool}(h:opd st.sl c=.bool v):zAp st c v=st:=by
 cases c with
 | tmp t=>
   simp only[opd,oB]at h;cases I:st.sl[t]? with
   | none=>rw[I]at h;cases h
   | some p=>rw[I]at h;simp at h;subst h;exact Ku I
 | _=>rfl
theorem JU {rs:List Sh}{Q:QT rs}{M:Mode}{f:FuncId}{k:List Item}(h:Rel av w0 M.env0 [] [] a w e st)(hk:k=[]\/∃ J,k=.code .ret::J)(hs:Zx P f rs Q w0.heap.size M st):Rk P f k (M.fin P f rs Q av w0) a w:=by
 unfold Zx at hs;cases I:Dfs.on with
 | some ds=>
   rw[I]at hs;cases M with
   | df E K=>
     have hd:a.defers=ds:=by rw[h.nd,I];rfl
     intro cs;rcases hk with rfl | ⟨J,rfl⟩
     ·exact⟨.returned (.tuple a.tmps),w,_,⟨a,e,st,rfl,hs,h⟩,.one step_end,rfl,by unfold Yb;rw[I];exact⟨rfl,rfl,hd,rfl⟩⟩
     ·exact⟨.returned (.tuple a.tmps),w,_,⟨a,e,st,rfl,hs,h⟩,.one step_ret,rfl,by unfold Yb;rw[I];exact⟨rfl,rfl,hd,rfl⟩⟩
   | _=>exact hs.elim
 | none=>
 rw[I]at hs;cases M with
 | ord=>exact RT I h hk (nok .ord w0) hs
 | io E bx0=>exact RS I h hk (nok .ord w0) hs
 | df=>exact hs.elim
theorem Nu {sh:FuncId->List Sh} {f:FuncId} {rs:List Sh} {Q:QT rs} {N0:Nat} {M:Mode} {H:Hint} (hm:P.follows .mixedOrders=true) :
  ∀(n:Nat) (first:Bool) (I:List Item) (st:St),W P sh f rs Q N0 M H n first I st->AT P f rs Q N0 M I st:=by
 intro n
 induction n with
 | zero=>intro first I st h;exact h.elim
 | succ n J=>
   intro first I st hs
   refine⟨λav w0 a w e hN h=>?_⟩;subst hN;cases I with
   | nil=>exact JU h (.inl rfl) hs
   | cons it k=>
     cases it with
     | inBlock id=>exact we (λcs=>step_inBlock) ((J _ _ _ hs).h av w0 a w e rfl h)
     | inLoop c=>obtain⟨e',st',U,Y⟩:=I7 h (nok M w0) hs;exact we (λcs=>step_inLoop) (U.h av w0 a w e' rfl Y)
     | code c=>
       cases c with
       | skip=>exact we (λcs=>step_skip) ((J _ _ _ hs).h av w0 a w e rfl h)
       | label l=>exact we (λcs=>step_label) ((J _ _ _ hs).h av w0 a w e rfl h)
       | ret=>exact JU h (.inr ⟨_,rfl⟩) hs
       | seq x y=>exact we (λcs=>step_seq) ((J _ _ _ hs).h av w0 a w e rfl h)
       | block id c=>exact we (λcs=>step_block) ((J _ _ _ hs).h av w0 a w e rfl h)
       | loop c=>obtain⟨e',st',U,Y⟩:=I7 h (nok M w0) hs;exact we (λcs=>step_loop) (U.h av w0 a w e' rfl Y)
       | cond c x y=>
         simp only[W,Yz]at hs;split at hs
         ·rename_i v hv;have aa:a.eval c=.bool v:=by
           have:=(vu h (x:=c) (by simp)).h.resolve_left (by rw[hv];simp)
           rw[this,hv];rfl
          rcases hs.spec with⟨rfl,hs⟩ | ⟨rfl,hs⟩
          ·rw[M8 hv]at hs;exact we (λcs=>step_cond aa) ((J _ _ _ hs).h av w0 a w e rfl h)
          ·rw[M8 hv]at hs;exact we (λcs=>step_cond aa) ((J _ _ _ hs).h av w0 a w e rfl h)
         ·exact hs.elim
       | exit id=>
         simp only[W]at hs;split at hs
         ·rename_i k' hk;exact we (λcs=>step_exit hk) ((J _ _ _ hs).h av w0 a w e rfl h)
         ·exact hs.elim
       | region id ops ab=>
         simp only[W]at hs;split at hs
         ·obtain⟨e',st',U,Y⟩:=I8 h (nok M w0) hs;rw[Ag]at U;exact U.h av w0 a w e' rfl Y
         ·have key:∀ a w e st,FI st (λst=>W P sh f rs Q w0.heap.size M H n false k st)->Rel av w0 M.env0 [] [] a w e st->Exit.normal=.normal/\Rk P f k (M.fin P f rs Q av w0) a w:=λa w e st hf hr=>by rw[Ag]at hf;exact⟨rfl,(J _ _ _ hf).h av w0 a w e rfl hr⟩
          split at hs
          ·split at hs
           ·rename_i O;exact MT (RQ (nok M w0) hm O h hs key)
           ·exact hs.elim
          ·split at hs
           ·rename_i O;exact MT (RR (nok M w0) O h hs key)
           ·exact hs.elim
       | _=>exact hs.elim
     | _=>exact hs.elim
def sV (id:Nat):Code->List Item->Option (List Item)
 | .seq x y,k=>match sV id x (.code y::k)with
   | some r=>some r
   | none=>sV id y k
 | .cond _ x y,k=>match sV id x k with
   | some r=>some r
   | none=>sV id y k
 | .block i c,k=>sV id c (.inBlock i::k)
 | .loop c,k=>match Dz c with
   | some j=>match Nat.beq j id with
     | true=>some (.code c::.inLoop c::k)
     | false=>sV id c (.inLoop c::k)
   | none=>sV id c (.inLoop c::k)
 | _,_=>none
def qH (id:Nat):Code->List Item->Option (List Item)
 | .seq x y,k=>match qH id x (.code y::k)with
   | some r=>some r
   | none=>qH id y k
 | .cond _ x y,k=>match qH id x k with
   | some r=>some r
   | none=>qH id y k
 | .block i c,k=>qH id c (.inBlock i::k)
 | .loop c,k=>qH id c (.inLoop c::k)
 | .region j ops I,k=>match Nat.beq j id with
   | true=>some (.code (.region j ops I)::k)
   | false=>none
 | _,_=>none
def WK (P:Program)(f:FuncId):Code:=match P.funcs[f]? with
 | some fn=>match fn.body with
   | some c=>c
   | none=>.skip
 | none=>.skip
def Wb (P:Program)(f:FuncId)(id:Nat):List Item:=match sV id (WK P f) []with
 | some k=>k
 | none=>[]
def ZN (P:Program)(f:FuncId)(id:Nat):List Item:=match qH id (WK P f) []with
 | some k=>k
 | none=>[]
end Go.Proofs.YtlaniepnglheoaaGreat
namespace Go.Proofs.YtlaniepnglheoaaGreat
open Go
variable {H:Hint} {N:Nat} {P:Program} {args:List PV} {bx:List Bx} {f:FuncId} {rs:List Sh}
instance instDfs:Dfs:=⟨none⟩
theorem I2 {w:World}{fn:Func}{c:Code}{args:Array Value}{R:Ending->World->Prop}(J:P.funcs[f]?=some fn)(O:fn.body=some c)(h:Rk P f [.code c] R { tmps:=args++Array.replicate (fn.ntmps - args.size) undef,defers:=[] } w):Calls P f args w R:=by
 intro cs;have I:Frame.enter P f args .normal=(base f).at { tmps:=args++Array.replicate (fn.ntmps - args.size) undef,defers:=[] } [.code c]:=by simp[Frame.enter,Frame.at,J,O,base]
 rw[I];exact h cs
def G4 (n:Nat)(args:List PV):List PV:=args++List.replicate (n - args.length) .any
def MV (P:Program)(sh:FuncId->List Sh)(f:FuncId)(rs:List Sh)(Q:QT rs)(N:Nat)(H:Hint)(I:Nat)(args:List PV):Prop:=match P.funcs[f]? with
 | some fn=>match fn.body with
   | some c=>Ui N args (FI { sl:=G4 fn.ntmps args,bx:=[],N:=N } λst=>W P sh f rs Q N .ord H I true [.code c] st)
   | none=>False
 | none=>False
theorem XR {sh:FuncId->List Sh}{Q:QT rs}{ac:Nat}(hm:P.follows .mixedOrders=true)(hc:wS P f=true)(h:MV P sh f rs Q N H ac args):ACalls P f rs args N Q:=by
 refine⟨hc,λav w0 hN ah J=>?_⟩;subst hN;unfold MV at h;split at h
 rotate_left
 ·exact h.elim
 rename_i fn hf;split at h
 rotate_left
 ·exact h.elim
 rename_i c hb;have h:=uL (λp I=>by
  have aa:=(J p I).1;cases p<;>simp only[PV.Ok]at aa ⊢
  ·exact aa.1.lt
  ·exact aa.1.1.lt) h
 rw[Ag]at h;have hw:=Nu hm _ _ _ _ h;refine I2 hf hb (hw.h av w0 _ w0 [] rfl ?_);have O:∀(i:Nat) (p:PV),(G4 fn.ntmps args)[i]?=some p->p=.any\/(p∈args/\args[i]?=some p):=λi p I=>by
  unfold G4 at I;by_cases hi:i<args.length
  ·rw[oO hi]at I;exact .inr ⟨oA I,I⟩
  ·rw[oS (by omega)]at I;exact .inl (mB (oA I))
 have Y:∀ k b,¬Lives [] [] ([]:List Bx) k b:=λk b ⟨_,_,B,h3,_⟩=>by simp at h3
 have ab:∀ b,zg av [] [] ([]:List Bx) b->av b:=λb hb=>hb.elim id λ⟨k,hk⟩=>absurd hk (Y k b);exact {
  el:=rfl
  br:=λk B hk _=>by simp at hk
  bo:=λk B hk _=>by simp at hk
  bf:=λk B hk _=>by simp at hk
  inj:=λk j b hk _=>absurd hk (Y k b)
  ku:=.rfl
  size:=oD _
  old:=λ_ _ _=>rfl
  fz:=λb c t z hb hc=>by
   rcases hb with hb | hb
   ·have:=(oR.1 hc).1;omega
   ·exact absurd hb (by simp[Mode.env0])
  nd:=rfl
  sz:=by simp[G4]
  hN:=oD _
  hs:=λi p I _=>by
   rcases O i p I with U | ⟨U,h2⟩
   ·exact .inl U
   ·right;have ae:=(oC.1 h2).1;have:i<args.toArray.size:=by simpa using ae
    simp[Array.getElem?_append,ae];rw[(oC.1 h2).2]
  so:=λi p I _=>by
   rcases O i p I with U | ⟨U,h2⟩
   ·subst U;trivial
   ·exact PV.Ok.mono (λ_ _ _=>rfl) (oD _) (λb _=>ab b) p (J p U).1
  sr:=λi p I _ k hk=>by
   rcases O i p I with U | ⟨U,h2⟩
   ·subst U;simp[PV.refs]at hk
   ·rw[(J p U).2]at hk;simp at hk
  own:=λk b hk=>absurd hk (Y k b)
  avl:=ah
  avn:=λk b hk=>absurd hk (Y k b)
  pin:=λk b hb=>by simp[St.pins]at hb
  pit:=λb T hb=>by cases hb }
def bytes (l:List Nat):ByteArray:=⟨(l.map UInt8.ofNat).toArray⟩
def Tr (f:Nat):List (Nat × List Sh)->List Sh
 | []=>[]
 | (g,s)::l=>match Nat.beq g f with
   | true=>s
   | false=>Tr f l
theorem WT {sh:FuncId->List Sh}{Q:QT rs}{I:Nat}{F:Prop}(J:P.follows .mixedOrders=true)(hc:wS P f=true)(O:F=MV P sh f rs Q N H I args)(h:F):ACalls P f rs args N Q:=XR J hc (O ▸ h)
theorem ZE [Dfs]{sh:FuncId->List Sh}{Q:QT rs}{N0:Nat}{M:Mode}{J:Nat}{I:List Item}{st:St}{F:Prop}(U:P.follows .mixedOrders=true)(O:F=FI st λst=>W P sh f rs Q N0 M H J true I st)(h:F):AT P f rs Q N0 M I st:=Nu U J true I st (by rw[Ag]at O;exact O ▸ h)
theorem T1 {av:Nat->Prop}{e e0:Env}{pin:Option (List (Option Nat) × List Nat)}{Y:Nat}{w0:World}(hm:Mem av [] w0 e bx)(U:∀ p∈args,p.Ok w0 (zg av [] e bx)/\∀ k∈p.refs,k<bx.length)(aa:Avl av w0 e0)(ab:∀ k b,Lives [] e bx k b->¬av b)(ac:∀ k b,Lives [] e bx k b->some b∈e0/\k<(St.pins ⟨G4 Y args,bx,w0.heap.size,pin⟩).length)(ai:∀(b:Nat) (c:Array Value) (t:TypeId) (z:Nat × Nat),some b∈e0->w0.heap[b]?=some (.cells c t z)->Fz z)(ae:∀ k b,(St.pins ⟨G4 Y args,bx,w0.heap.size,pin⟩)[k]?=some (some b)->e.at k=some b)(ah:∀ L T,pin=some (L,T)->∀ x∈T,some x∈e0):
  Rel av w0 e0 [] [] { tmps:=(args.map (PV.val e)).toArray++Array.replicate (Y - (args.map (PV.val e)).toArray.size) undef,defers:=[] } w0 e { sl:=G4 Y args,bx:=bx,N:=w0.heap.size,pin:=pin }:=by
 have J:∀(i:Nat) (p:PV),(G4 Y args)[i]?=some p->p=.any\/(p∈args/\args[i]?=some p):=λi p I=>by
  unfold G4 at I;by_cases hi:i<args.length
  ·rw[oO hi]at I;exact .inr ⟨oA I,I⟩
  ·rw[oS (by omega)]at I;exact .inl (mB (oA I))
 exact {
  toMem:=hm
  ku:=.rfl
  size:=oD _
  old:=λ_ _ _=>rfl
  fz:=λb c t z hb hc=>by
   rcases hb with hb | hb
   ·have:=(oR.1 hc).1;omega
   ·exact ai b c t z hb hc
  nd:=rfl
  sz:=by simp[G4]
  hN:=oD _
  hs:=λi p I _=>by
   rcases J i p I with O | ⟨O,h2⟩
   ·exact .inl O
   ·right;have aj:=(oC.1 h2).1;simp[Array.getElem?_append,aj];rw[(oC.1 h2).2]
  so:=λi p I _=>by
   rcases J i p I with O | ⟨O,h2⟩
   ·subst O;trivial
   ·exact(U p O).1
  sr:=λi p I _ k hk=>by
   rcases J i p I with O | ⟨O,h2⟩
   ·subst O;simp[PV.refs]at hk
   ·exact⟨by simp,(U p O).2 k hk⟩
  own:=λk b hk=>.inr (ac k b hk)
  avl:=aa
  avn:=ab
  pin:=λk b hb=>⟨ae k b hb,by simp⟩
  pit:=ah }
def MU (P:Program)(sh:FuncId->List Sh)(f:FuncId)(full:List Sh)(Q:QT full)(N:Nat)(H:Hint)(I:Nat)(args:List PV)(bx:List Bx)(E:Env):Prop:=match P.funcs[f]? with
 | some fn=>match fn.body with
   | some c=>match bx.all λB=>!Pk B with
     | true=>Ui N (args++Hr bx) (FI { sl:=G4 fn.ntmps args,bx:=bx,N:=N,pin:=some (qL E 0 (bx.map xl),[]) } λst=>W P sh f full Q N (.io E (bx.map xl)) H I true [.code c] st)
     | false=>False
   | none=>False
 | none=>False
theorem R1 (bx:List Bx)(E:Env):∀ n,qL E n (bx.map xl)=qL E n bx:=by
 induction bx with
 | nil=>intro n;rfl
 | cons B bs I=>intro n;cases B<;>simp[qL,xl,I]
theorem JP {E:Env}:∀(bs:List Bx)(k j b:Nat),(qL E k bs)[j]?=some (some b)->b=(E.at (k+j)).getD 0/\∃ B,bs[j]?=some B/\((∃ cs,B=.var cs)\/∃ x n,B=.vd x n)
 | [],k,j,b,h=>by simp[qL]at h
 | B::bs,k,0,b,h=>by
   cases B<;>simp[qL]at h
   ·exact⟨by simp[h],_,rfl,.inl ⟨_,rfl⟩⟩
   ·exact⟨by simp[h],_,rfl,.inr ⟨_,_,rfl⟩⟩
 | B::bs,k,j+1,b,h=>by simp only[qL,nS]at h;obtain⟨I,J⟩:=JP bs (k+1) j b h;exact⟨by rw[I,show k+1+j=k+(j+1) by omega],by simpa using J⟩
theorem XS {sh:FuncId->List Sh}{full:List Sh}{Q:QT full}{ab:Nat}(hm:P.follows .mixedOrders=true)(hc:wS P f=true)(hx:∀ E,MU P sh f full Q N H ab args bx E):BCalls P f full args bx N Q:=by
 refine⟨hc,λav w0 E hN ah I ac aa=>?_⟩;subst hN;have hx:=hx E;unfold MU at hx;split at hx
 rotate_left
 ·exact hx.elim
 rename_i fn hf;split at hx
 rotate_left
 ·exact hx.elim
 rename_i code hb;split at hx
 rotate_left
 ·exact hx.elim
 rename_i U;simp only[oa,mA]at U;have U:∀ B∈bx,B≠.gone:=λB hB hc=>by have:=U B hB;subst hc;simp[Pk]at this
 have hx:=uL (λp hp=>by
  have:YK w0.heap.size p:=by
   rcases oM.1 hp with hp | hp
   ·exact Ry (aa p hp).1
   ·exact Qd I rfl (λB hB=>hB) p hp
  cases p<;>first | exact this | trivial) hx
 rw[Ag]at hx;have ai:=Nu hm _ _ _ _ hx;refine I2 hf hb (ai.h av w0 _ w0 E rfl (T1 I aa ah ac (λk b hk=>?_) (λb c t z ae hc=>?_) (λk b hk=>?_) (λL T h=>by cases h;simp)))
 ·obtain⟨_,J,B,h2,_⟩:=hk;refine⟨?_,by simp only[St.pins,AI,om];exact(oC.1 h2).1⟩;simp only[Mode.env0];unfold Env.at at J;rw[oB]at J;cases he:E[k]? with
  | none=>rw[he]at J;cases J
  | some u=>rw[he]at J;simp at J;subst J;exact oA he
 ·simp only[Mode.env0]at ae;obtain⟨k,hk⟩:=oQ.1 ae;have aj:E.at k=some b:=by simp[Env.at,oB,hk]
  have ak:k<bx.length:=by rw[<-I.el];exact(oC.1 hk).1
  have hB:bx[k]?=some bx[k]:=oF ak;have hr:=I.br k _ hB (by simp);have hg:=U _ (oA hB);rw[aj]at hr;cases Y:bx[k]with
  | var cs=>rw[Y]at hr;obtain⟨b',c',t',O,g2,_⟩:=hr;cases O;rw[g2]at hc;cases hc;exact fz0
  | vd x n=>rw[Y]at hr;obtain⟨b',c',t',O,g2,_⟩:=hr;cases O;rw[g2]at hc;cases hc;exact fz0
  | arr t0 z0 es n=>
    rw[Y]at hr;rcases hr with⟨O,_⟩ | ⟨b',c',O,g2,_⟩
    ·cases O
    ·cases O;rw[g2]at hc;cases hc;exact fz0
  | gone=>exact absurd Y hg
 ·simp only[St.pins,R1]at hk;obtain⟨J,B,h2,h3⟩:=JP _ _ _ _ hk;rw[nT]at J;have hr:=I.br k _ h2 (by simp);rcases h3 with⟨cs,rfl⟩ | ⟨x,n,rfl⟩
  ·obtain⟨b',c',t',O,_⟩:=hr;rw[O]at J ⊢;simp at J;rw[J]
  ·obtain⟨b',c',t',O,_⟩:=hr;rw[O]at J ⊢;simp at J;rw[J]
theorem Sc {sh:FuncId->List Sh}{full:List Sh}{Q:QT full}{I:Nat}{F:Env->Prop}(J:P.follows .mixedOrders=true)(hc:wS P f=true)(O:∀ E,F E=MU P sh f full Q N H I args bx E)(h:∀ E,F E):BCalls P f full args bx N Q:=XS J hc λE=>O E ▸ h E
end Go.Proofs.YtlaniepnglheoaaGreat
set_option maxRecDepth 100000
namespace Go.Proofs.YtlaniepnglheoaaGreat
open Go Go.Proofs Go.Proofs.Tryz
variable {f:FuncId}
def sh:FuncId->List Sh:=λf=>Tr f [(3,[.bool]),(4,[.bool]),(5,[.sl 4,.ag 9,.sl 0]),(6,[.ag 9,.bool]),(7,[.ag 9,.bool]),(8,[.ag 9,.bool]),(9,[.ag 9,.bool]),(10,[.bool]),(11,[.ag 11]),(12,[.ag 9,.bool]),(13,[.sl 4,.ag 9,.sl 0]),(14,[.sl 4,.sl 4]),(15,[.ag 9]),(16,[.sl 4,.sl 4]),(17,[.ag 9]),(18,[.ag 2,.bool]),(19,[.bool]),(20,[.sl 3]),(21,[.ag 9]),(22,[.ag 2,.bool]),(23,[.bool]),(24,[.ag 9]),(25,[.sl 4]),(26,[.bool]),(27,[.ag 9,.bool]),(28,[.ag 9]),(29,[.ag 9]),(30,[.ag 11]),(31,[.bool]),(32,[.pk,.int .i64,.str,.str,.int .i64,.dc,.dc,.dc,.dc,.row 30 9]),(33,[.cu]),(34,[.row 0 1000007,.row 49 4,.ag 9]),(35,[.row 0 1000007,.row 3 0]),(36,[.row 0 1000007,.int .i64]),(37,[.row 0 1000007,.sl 4,.ag 9]),(38,[.ag 2]),(39,[.ag 9]),(41,[.ag 9]),(42,[.ag 2]),(43,[.ag 9]),(44,[.bool]),(45,[.bool]),(46,[.bool]),(47,[.bool]),(48,[.bool]),(49,[.ag 2,.bool]),(50,[.bool]),(51,[.sl 3]),(52,[.bool]),(53,[.ag 9]),(54,[.int .i64]),(55,[.ag 2]),(56,[.sl 4]),(57,[.sl 3]),(58,[.ag 9]),(59,[.bool]),(60,[.bool]),(61,[.bool]),(62,[.ag 2,.bool]),(63,[.bool]),(64,[.sl 2]),(65,[.bool]),(66,[.ag 9]),(67,[.int .i64]),(68,[.sl 2]),(69,[.ag 9]),(70,[.ag 9]),(71,[.ag 9]),(72,[.ag 9]),(73,[.ag 9]),(74,[.ag 9]),(75,[.bool]),(76,[.int .i64]),(77,[.bool]),(78,[.ag 9,.int .i64]),(79,[.bool]),(80,[.row 0 1000007,.row 49 4]),(81,[.row 0 1000007,.ag 9]),(82,[.ag 2]),(83,[.row 0 1000007,.row 3 0]),(84,[.row 0 1000007,.int .i64]),(85,[.row 0 1000007,.str]),(86,[.row 0 1000007,.ag 2]),(87,[.row 0 1000007,.ag 9]),(88,[.ag 9]),(89,[]),(90,[.bool]),(91,[.bool]),(92,[.sl 0]),(93,[.bool]),(94,[.bool]),(95,[.int .i64]),(96,[.bool]),(97,[.int .i64]),(98,[.int .i64]),(99,[.bool]),(100,[.bool]),(101,[.bool]),(102,[.row 87 3]),(103,[.ag 3]),(104,[.ag 9]),(105,[.int .i64,.bool]),(106,[.ag 2]),(107,[.bool]),(108,[.sl 4]),(109,[.bool]),(110,[.bool]),(111,[.int .i64]),(112,[.int .i64]),(113,[.int .i64]),(114,[.ag 2,.bool]),(115,[.bool]),(116,[.sl 2]),(117,[.int .i64,.bool]),(118,[.sl 4]),(119,[.sl 3]),(120,[.ag 9]),(121,[.ag 9]),(122,[.sl 2]),(123,[.bool]),(124,[.bool]),(125,[.ag 9,.int .i64]),(126,[.ag 9,.int .i64]),(127,[.ag 9,.int .i64,.bool]),(128,[.ag 9]),(129,[.ag 9,.int .i64]),(130,[.bool]),(131,[.int .i64]),(132,[.ag 2]),(133,[.row 0 1000007,.bool]),(134,[.row 0 1000007,.ag 9,.bool]),(135,[.row 0 1000007,.ag 9]),(136,[.ag 9]),(137,[.row 0 1000007,.int .i64]),(138,[.ag 2]),(139,[.ag 2]),(140,[.row 0 1000007,.ag 9]),(141,[.ag 9]),(142,[.row 0 1000007,.ag 2]),(143,[.int .i64]),(144,[.bool]),(145,[.int .i64]),(146,[.bool]),(147,[.bool]),(148,[.bool]),(149,[.bool]),(150,[.bool]),(152,[.int .i64]),(153,[.int .i64]),(154,[.ag 2]),(155,[.int .i64]),(156,[.ag 2]),(157,[.ag 2]),(158,[.ag 2]),(159,[.bool]),(160,[.ag 2]),(161,[.ag 2]),(162,[.int .i64]),(163,[.int .i64]),(164,[.bool]),(165,[.bool]),(166,[.row 51 4]),(167,[.int .i64]),(168,[.int .i64]),(169,[.ag 2,.bool]),(170,[.ag 2,.bool]),(171,[.ag 2,.bool]),(172,[.int .i64]),(173,[.int .i64]),(174,[.bool]),(175,[.int .i64]),(176,[.int .i64]),(177,[.ag 9]),(178,[.int .i64]),(179,[.ag 9,.int .i64]),(180,[.ag 9]),(181,[.bool]),(182,[.bool]),(183,[.int .i64]),(184,[.row 0 1000007,.ag 9]),(185,[.int .i64]),(186,[.bool]),(187,[.int .i64]),(188,[.int .i64]),(189,[]),(190,[.bool]),(191,[.ag 2]),(192,[.ag 2]),(193,[.sl 4]),(194,[.bool]),(195,[.bool]),(196,[.sl 4]),(197,[.ag 2,.bool]),(198,[.sl 0,.int .i64]),(199,[.sl 0]),(200,[.pk,.int .i64,.str,.str,.int .i64,.dc,.dc,.dc,.dc,.row 30 9]),(201,[.int .i64]),(202,[.int .i64]),(203,[.sl 0]),(204,[.row 9 0]),(205,[.str]),(206,[.str])]
theorem RG:prog.follows .mixedOrders=true:=by kernel_rfl
theorem eE {rs:List Sh}{Q:QT rs}{N:Nat}(H:Hint){args:List PV}{F:Prop}(h:F)(hc:wS prog f=true:=by kernel_rfl)(I:F=MV prog sh f rs Q N H 400 args:=by kernel_rfl):ACalls prog f rs args N Q:=WT RG hc I h
theorem bE {full:List Sh}{Q:QT full}{N:Nat}(H:Hint){args:List PV}{bx:List Bx}{F:Env->Prop}(h:∀ E,F E)(hc:wS prog f=true:=by kernel_rfl)(I:∀ E,F E=MU prog sh f full Q N H 400 args bx E:=by intro E;kernel_rfl):BCalls prog f full args bx N Q:=Sc RG hc I h
theorem hE {rs:List Sh}{Q:QT rs}{N0:Nat}{M:Mode}(H:Hint){I:List Item}{st:St}{F:Prop}(h:F)(J:F=FI st λst=>W prog sh f rs Q N0 M H 400 true I st:=by kernel_rfl):AT prog f rs Q N0 M I st:=ZE RG J h
abbrev D.j (n:Int):D:=.lit (.int .i64 n)
abbrev D.t (s:ByteArray):D:=.lit (.string s)
abbrev PV.j (n:Int):PV:=.int .i64 n
abbrev Sh.i:Sh:=.int .i64
abbrev b0:ByteArray:=bytes []
def H0:Hint:=⟨[],[],[]⟩
abbrev w2 (P X:Prop):Prop:=P/\P/\X
abbrev w3 (P X:Prop):Prop:=P/\P/\P/\X
abbrev w4 (P X:Prop):Prop:=P/\P/\P/\P/\X
abbrev w5 (P X:Prop):Prop:=P/\P/\P/\P/\P/\X
abbrev uP (N:Nat)(R:Nat->Prop):Prop:=∀ N1,N<=N1->R N1
abbrev cv (a:Option Addr)(e:List D)(c:Nat)(n m:Int):Bx:=.var [.sv a 0 e c,.int .i64 n,.int .i64 m]
abbrev kB (f:FuncId)(I:List PV)(N:Nat)(R:Bool->Nat->Prop):Prop:=∀ N1,N<=N1->ACalls prog f [.bool] I N1 λb N2=>N1<=N2->R b N2
abbrev kI (f:FuncId)(I:List PV)(N:Nat)(R:Int->Nat->Prop):Prop:=∀ N1,N<=N1->ACalls prog f [.int .i64] I N1 λb N2=>N1<=N2->R b N2
abbrev kS (f:FuncId)(I:List PV)(N:Nat)(R:ByteArray->Nat->Prop):Prop:=∀ N1,N<=N1->ACalls prog f [.str] I N1 λb N2=>N1<=N2->R b N2
abbrev kA (z:Nat)(f:FuncId)(I:List PV)(N:Nat)(R:D->Nat->Prop):Prop:=∀ N1,N<=N1->ACalls prog f [.ag z] I N1 λx N2=>N1<=N2->Bel N2 x->R x N2
abbrev kL (z:Nat)(f:FuncId)(I:List PV)(N:Nat)(R:Option Addr->List D->Nat->Nat->Prop):Prop:=∀ N1,N<=N1->ACalls prog f [.sl z] I N1 λa e c N2=>N1<=N2->Bel N2 (D.sl a z e c)->R a e c N2
abbrev kAB (z:Nat)(f:FuncId)(I:List PV)(N:Nat)(R:D->Bool->Nat->Prop):Prop:=∀ N1,N<=N1->ACalls prog f [.ag z,.bool] I N1 λx b N2=>N1<=N2->Bel N2 x->R x b N2
abbrev kIB (f:FuncId)(I:List PV)(N:Nat)(R:Int->Bool->Nat->Prop):Prop:=∀ N1,N<=N1->ACalls prog f [.int .i64,.bool] I N1 λx b N2=>N1<=N2->R x b N2
abbrev cB (f:FuncId)(I:List PV)(a:Option Addr)(e:List D)(c:Nat)(n m:Int)(N:Nat)(R:Bool->Option Addr->List D->Nat->Int->Int->Nat->Prop):Prop:=∀ N1,N<=N1->BCalls prog f [.bool,.sl 0,.int .i64,.int .i64] (.pb 0 0 0 0::I) [cv a e c n m] N1 λx a e c n m N2=>N1<=N2->Bel N2 (D.sl a 0 e c)->R x a e c n m N2
abbrev cI (f:FuncId)(I:List PV)(a:Option Addr)(e:List D)(c:Nat)(n m:Int)(N:Nat)(R:Int->Option Addr->List D->Nat->Int->Int->Nat->Prop):Prop:=∀ N1,N<=N1->BCalls prog f [.int .i64,.sl 0,.int .i64,.int .i64] (.pb 0 0 0 0::I) [cv a e c n m] N1 λx a e c n m N2=>N1<=N2->Bel N2 (D.sl a 0 e c)->R x a e c n m N2
abbrev cA (z:Nat)(f:FuncId)(I:List PV)(a:Option Addr)(e:List D)(c:Nat)(n m:Int)(N:Nat)(R:D->Option Addr->List D->Nat->Int->Int->Nat->Prop):Prop:=∀ N1,N<=N1->BCalls prog f [.ag z,.sl 0,.int .i64,.int .i64] (.pb 0 0 0 0::I) [cv a e c n m] N1 λx a e c n m N2=>N1<=N2->Bel N2 x->Bel N2 (D.sl a 0 e c)->R x a e c n m N2
abbrev cP (ls:List D)(f:FuncId)(t:TypeId)(k:Nat)(a:Option Addr)(e:List D)(c:Nat)(n m:Int)(N:Nat)(R:ByteArray->Option Addr->List D->Nat->Int->Int->Option Addr->List D->Nat->Nat->Prop):Prop:=∀ N1,N<=N1->BCalls prog f [.str,.sl 0,.int .i64,.int .i64,.sl 0] [.pb 0 0 0 0,.sb 1 0 0 k k] [cv a e c n m,.arr t 0 ls k] N1 λx a e c n m I J O N2=>N1<=N2->Bel N2 (D.sl a 0 e c)->Bel N2 (D.sl I 0 J O)->R x a e c n m I J O N2
abbrev ksL (k:Int)(l:List D):Prop:=0<=k/\k<(l.length:Int)
abbrev ksD:D:=default
abbrev ksW:IntKind:=IntKind.i64
abbrev ksE (a b:ByteArray):Bool:=a.toList==b.toList
abbrev ksC (f:FuncId)(I:List PV)(N:Nat){rs:List Sh}(Q:QT rs):Prop:=ACalls prog f rs I N Q
abbrev ksT (f:FuncId)(k:Nat){rs:List Sh}(Q:QT rs)(N0:Nat)(s:List PV)(b:List Bx)(N:Nat):Prop:=AT prog f rs Q N0 .ord (Wb prog f k) ⟨s,b,N,none⟩
abbrev ksO (f:FuncId)(k:Nat)(E:Env){rs:List Sh}(Q:QT rs)(N0:Nat)(s:List PV)(b:List Bx)(N:Nat):Prop:=AT prog f rs Q N0 (.io E [.var [.sv none 0 [] 0,.int .i64 0,.int .i64 0]]) (Wb prog f k) ⟨s,b,N,some (qL E 0 [.var [.sv none 0 [] 0,.int .i64 0,.int .i64 0]],[])⟩
abbrev ksP (f:FuncId)(k:Nat)(E:Env){rs:List Sh}(Q:QT rs)(N0:Nat)(s:List PV)(b:List Bx)(N:Nat):Prop:=AT prog f rs Q N0 (.io E [.var [.sv none 0 [] 0,.int .i64 0,.int .i64 0]]) (ZN prog f k) ⟨s,b,N,some (qL E 0 [.var [.sv none 0 [] 0,.int .i64 0,.int .i64 0]],[])⟩
abbrev ksV (a:Int)(b c:ByteArray)(d e:Int)(f:Option Addr)(g:List D)(h:Nat)(i:Int)(j:Option Addr)(k:List D)(l:Nat)(m:Option Addr)(n:List D)(o:Nat):Bx:=.var [.int .i64 a,.str b,.str c,.int .i64 d,.int .i64 e,.sv f 2 g h,.int .i64 i,.sv j 2 k l,.sv m 9 n o]
abbrev ksB (f:FuncId)(I:List PV)(b:List Bx)(N:Nat){rs:List Sh}(Q:QT rs):Prop:=BCalls prog f rs I b N Q
abbrev ur (E:Env):Prop:=WF E [.var [.sv none 0 [] 0,.int .i64 0,.int .i64 0]]
end Go.Proofs.YtlaniepnglheoaaGreat
