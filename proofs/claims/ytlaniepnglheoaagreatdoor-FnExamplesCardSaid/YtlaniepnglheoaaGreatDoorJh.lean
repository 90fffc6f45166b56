/- The walker: what a function's code comes to, as a formula on ghost values. -/
import Derived.Test.YtlaniepnglheoaaGreatDoorJq
import Derived.Test.YtlaniepnglheoaaGreatDoorChecked
set_option linter.unusedVariables false
set_option linter.unusedSimpArgs false
set_option linter.unusedSectionVars false
namespace Go.Proofs.YtlaniepnglheoaaGreatDoor
open Go
variable [Dfs] {av:Nat->Prop} {P:Program} {w0 w w':World} {e0 e:Env} {pS pS' pB pB':aI} {a:Act} {st st':St}
def base (f:aL):Frame:={ (default:Frame)with fn:=f,kind:=.normal }
def ZK (P:Program)(fr:Frame)(w:World)(e:Ending):Prop:=match Dfs.on with
 | none=>fr.leaving P w e
 | some ds=>e=.returned (.tuple fr.tmps)/\fr.mode=.returning/\fr.defers=ds/\fr.kind=.normal
def R0 (P:Program)(f:aL)(k:List Item)(R:Ending->World->Prop)(a:Act)(w:World):Prop:=
 ∀ cs,∃ e w' fr,R e w'/\Comes P (lone ((base f).at a k) cs w) (lone fr cs w') e/\fr.fn=f/\ZK P fr w' e
theorem xT {f k I R J}(hs:∀ cs,step P (lone ((base f).at a k) cs w)=.next (lone ((base f).at J I) cs w'))(h:R0 P f I R J w'):R0 P f k R a w:=
 λcs=>let⟨e,w2,fr,O,U,Y⟩:=h cs;⟨e,w2,fr,O,.of_steps (.one (hs cs)) U,Y⟩
theorem G1 {f c k R}(h:c.wp P (λex J w'=>ex=.normal/\R0 P f k R J w') a w):R0 P f (.code c::k) R a w:=λcs=>by obtain⟨ex,J,w',⟨rfl,O⟩,I⟩:=h (base f) k cs;obtain⟨e,w2,fr,U,Y,h3⟩:=O cs;exact⟨e,w2,fr,U,.of_steps I Y,h3⟩
theorem Kv (I:Dfs.on=none){f fn k R}(hk:k=[]\/∃ J,k=.code .ret::J)(O:P.funcs[f]?=some fn)(hd:a.defers=Dfs.on.getD []){v}(U:(results fn a.tmps).run P w=.ok v w)(Y:R (.returned v) w):R0 P f k R a w:=λcs=>by
 rw[I]at hd;rcases hk with rfl | ⟨J,rfl⟩
 ·exact⟨.returned v,w,_,Y,.one step_end,rfl,by unfold ZK;rw[I];exact⟨rfl,hd,rfl,fn,O,U⟩⟩
 ·exact⟨.returned v,w,_,Y,.one step_ret,rfl,by unfold ZK;rw[I];exact⟨rfl,hd,rfl,fn,O,U⟩⟩
def zA6:aN->Option (aH × aM × Nat × Int × Int)
 | [.sv a z es c,.int k n,.int I m]=>match decide (z=0/\k=.i64/\I=.i64)with
   | true=>some (a,es,c,n,m)
   | false=>none
 | _=>none
theorem Xm {cs a es c n m}(h:zA6 cs=some (a,es,c,n,m)):cs=[.sv a 0 es c,.int .i64 n,.int .i64 m]:=by
 unfold zA6 at h;split at h
 ·split at h
  ·rename_i hd;simp at hd h;obtain⟨rfl,rfl,rfl⟩:=hd;obtain⟨rfl,rfl,rfl,rfl,rfl⟩:=h;rfl
  ·cases h
 ·cases h
def ue (st:St):(l:List Sh)->QT l->aI->aN->Prop
 | [],Q,_,ps=>match ps with
   | []=>∀ N,st.N<=N->Q N
   | _=>False
 | .int k::l,Q,us,ps=>match ps with
   | .int J n::ps=>match decide (k=J)with
     | true=>ue st l (Q n) us ps
     | false=>False
   | _=>False
 | .bool::l,Q,us,ps=>match ps with
   | .bool v::ps=>ue st l (Q v) us ps
   | _=>False
 | .str::l,Q,us,ps=>match ps with
   | .str v::ps=>ue st l (Q v) us ps
   | _=>False
 | .sl z::l,Q,us,ps=>match ps with
   | .sv a z' es c::ps=>match decide (z=z')with
     | true=>ue st l (Q a es c) us ps
     | false=>False
   | _=>False
 | .ag n::l,Q,us,ps=>match ps with
   | p :: ps=>match Ot p with
     | .dg n' x=>match decide (n=n')with
       | true=>ue st l (Q x) us ps
       | false=>False
     | _=>False
   | _=>False
 | .row t z::l,Q,us,ps=>match ps with
   | .sb k z' lo n c::ps=>match st.bx[k]? with
     | some (.arr t' I es O)=>match decide (t'=t)&&decide (z'=z)&&decide (I=z)&&decide (lo=0)&&!us.contains k with
       | true=>(n=es.length/\c=O)/\ue st l (Q es c) (k::us) ps
       | false=>False
     | _=>False
   | .sv none _ [] 0::ps=>ue st l (Q [] 0) us ps
   | _=>False
 | .pk::l,Q,us,ps=>match Ww l with
   | true=>ue st l Q us ps
   | false=>False
 | .dc::l,Q,us,ps=>match ps with
   | p::ps=>match Aq p with
     | some x=>ue st l (Q x) us ps
     | none=>False
   | _=>False
 | .bk j::l,Q,us,ps=>match ps with
   | p::ps=>match Aq p with
     | some x=>ue st l (Q x) us ps
     | none=>False
   | _=>False
 | .cu :: l,Q,us,ps=>match ps with
   | .pb k z i o::ps=>match st.bx[k]?,decide (z=0/\i=0/\o=0)&&!us.contains k with
     | some (.var cs),true=>match zA6 cs with
       | some (a,es,c,n,m)=>ue st l (Q a es c n m) (k::us) ps
       | none=>False
     | _,_=>False
   | _=>False
abbrev Sel:=List (Option Nat × Bx)
def Sel.rows (s:Sel):aO:=s.map (·.2)
def Sel.env (e:Env)(s:Sel):Env:=s.map λx=>x.1.bind e.at
structure SelOk (st:St) (us:aI) (s:Sel):Prop where
 at_:∀ x∈s,(x.1=none/\∃ t z,x.2=.arr t z [] 0)\/∃ k,x.1=some k/\st.bx[k]?=some x.2/\x.2.row
 nd:(s.filterMap (·.1)).Nodup
 un:∀ k∈s.filterMap (·.1),k∉us
def Md:PV->Bool
 | .int ..=>true
 | .bool ..=>true
 | .str ..=>true
 | .sv ..=>true
 | .dg ..=>true
 | _=>false
def zBI:PV->Bool
 | .sb ..=>true
 | .dc ..=>true
 | _=>false
def zB0 w e live E p q:=p.val e=q.val1 E/\(p.Ok w live->q.Ok w live)/\p≠.any/\(Md p=true->q=p\/zBI q=true)
theorem zn (h:Rel av w0 e0 [] [] a w e st):∀(l:List Sh) (Q:QT l) (us:aI) (ps:aN) (b:Nat),ue st l Q us ps->(∀ p∈ps,p.Ok w (za av [] e st.bx)\/Md p=true) ->
  ∃ qs s,QT.app l Q b qs (Sel.rows s) w.heap.size/\SelOk st us s/\qs.length=ps.length /\
    ∀(E:Env),E.length=b->∀(i:Nat) (p q:PV),ps[i]?=some p->qs[i]?=some q->zB0 w e (za av [] e st.bx) (E++s.env e) p q
 | [],Q,us,ps,b,hs,_=>by
   cases ps with
   | nil=>exact⟨[],[],hs _ h.hN,⟨aB,aB,aB⟩,rfl,aB⟩
   | cons=>exact hs.elim
 | .int k::l,Q,us,ps,b,hs,J=>by
   cases ps with
   | nil=>exact hs.elim
   | cons p ps=>
     cases p<;>simp only[ue]at hs<;>try exact hs.elim
     rename_i k' n;cases hk:decide (k=k')with
     | true=>
       rw[hk]at hs;obtain⟨qs,s,Y,U,h3,h4⟩:=zn h l _ us ps b hs (λp I=>J p (by simp[I]));refine⟨.int k n::qs,s,⟨rfl,Y⟩,U,by simp[h3],λE hE i p q I O=>?_⟩;cases i with
       | zero=>simp at I O hk;subst I;subst O;subst hk;exact⟨rfl,id,aB,λ_=>.inl rfl⟩
       | succ i=>exact h4 E hE i p q (by simpa using I) (by simpa using O)
     | false=>rw[hk]at hs;exact hs.elim
 | .bool::l,Q,us,ps,b,hs,J=>by
   cases ps with
   | nil=>exact hs.elim
   | cons p ps=>
     cases p<;>simp only[ue]at hs<;>try exact hs.elim
     rename_i n;obtain⟨qs,s,Y,U,h3,h4⟩:=zn h l _ us ps b hs (λp I=>J p (by simp[I]));refine⟨.bool n::qs,s,Y,U,by simp[h3],λE hE i p q I O=>?_⟩;cases i with
     | zero=>simp at I O;subst I;subst O;exact⟨rfl,id,aB,λ_=>.inl rfl⟩
     | succ i=>exact h4 E hE i p q (by simpa using I) (by simpa using O)
 | .str::l,Q,us,ps,b,hs,J=>by
   cases ps with
   | nil=>exact hs.elim
   | cons p ps=>
     cases p<;>simp only[ue]at hs<;>try exact hs.elim
     rename_i n;obtain⟨qs,s,Y,U,h3,h4⟩:=zn h l _ us ps b hs (λp I=>J p (by simp[I]));refine⟨.str n::qs,s,Y,U,by simp[h3],λE hE i p q I O=>?_⟩;cases i with
     | zero=>simp at I O;subst I;subst O;exact⟨rfl,id,aB,λ_=>.inl rfl⟩
     | succ i=>exact h4 E hE i p q (by simpa using I) (by simpa using O)
 | .sl z::l,Q,us,ps,b,hs,J=>by
   cases ps with
   | nil=>exact hs.elim
   | cons p ps=>
     cases p<;>simp only[ue]at hs<;>try exact hs.elim
     rename_i ad z' es c;cases hz:decide (z=z')with
     | true=>
       rw[hz]at hs;simp at hz;subst hz;obtain⟨qs,s,Y,U,h3,h4⟩:=zn h l _ us ps b hs (λp I=>J p (by simp[I]));refine⟨.sv ad z es c::qs,s,⟨rfl,Y⟩,U,by simp[h3],λE hE i p q I O=>?_⟩;cases i with
       | zero=>simp at I O;subst I;subst O;exact⟨rfl,id,aB,λ_=>.inl rfl⟩
       | succ i=>exact h4 E hE i p q (by simpa using I) (by simpa using O)
     | false=>rw[hz]at hs;exact hs.elim
 | .ag n::l,Q,us,ps,b,hs,J=>by
   cases ps with
   | nil=>exact hs.elim
   | cons p ps=>
     simp only[ue]at hs;split at hs
     rotate_left
     ·exact hs.elim
     rename_i n' x ab;split at hs
     rotate_left
     ·exact hs.elim
     rename_i hz;simp at hz;subst hz;obtain⟨qs,s,Y,U,h3,h4⟩:=zn h l _ us ps b hs (λp I=>J p (by simp[I]));refine⟨.dg n x::qs,s,⟨rfl,Y⟩,U,by simp[h3],λE hE i r q I O=>?_⟩;cases i with
     | zero=>
       simp at I O;subst I;subst O;rcases J p aB with aa | hdx
       rotate_left
       ·cases p<;>simp[Md]at hdx<;>simp[Ot]at ab
        rw[ab.1,ab.2];exact⟨rfl,id,aB,λ_=>.inl rfl⟩
       have ak:=Jo (e:=e) aa;rw[ab]at ak;rcases ak with h5 | ⟨h8,h6,h7,_⟩
       ·cases h5
       ·refine⟨h6,h7,h8,λhx=>.inl ?_⟩;cases p<;>simp[Md]at hx<;>simp[Ot]at ab
        rw[ab.1,ab.2]
     | succ i=>exact h4 E hE i r q (by simpa using I) (by simpa using O)
 | .row t z::l,Q,us,ps,b,hs,J=>by
   cases ps with
   | nil=>exact hs.elim
   | cons p ps=>
     simp only[ue]at hs;split at hs
     ·rename_i k z' lo n c al ac;cases ac;split at hs
      ·rename_i t' ah es c' hk;split at hs
       rotate_left
       ·exact hs.elim
       rename_i hc;simp only[oL,oh,nM]at hc;obtain⟨⟨⟨⟨ao,aq⟩,au⟩,aw⟩,ai⟩:=hc;subst ao;subst aq;subst au;subst aw;obtain⟨⟨rfl,rfl⟩,hs⟩:=hs;obtain⟨qs,s,Y,U,h3,h4⟩:=zn h l _ (k::us) ps (b+1) hs (λp I=>J p (by simp[I]));refine⟨.sb b ah 0 es.length c::qs,(some k,.arr t' ah es c)::s,⟨⟨rfl,rfl,rfl,rfl,rfl,rfl,rfl⟩,Y⟩,⟨λx hx=>?_,?_,λj hj=>?_⟩,by simp[h3],λE hE i r q I O=>?_⟩
       ·rcases oK.1 hx with rfl | hx
        ·exact .inr ⟨k,rfl,hk,trivial⟩
        ·exact U.at_ x hx
       ·simp only[mD];exact mA.2 ⟨λhc=>U.un k hc aB,U.nd⟩
       ·simp only[mD]at hj;rcases oK.1 hj with rfl | hj
        ·intro hc;simp[hc]at ai
        ·exact λhc=>U.un j hj (by simp[hc])
       ·have ae:Env.at (E++Sel.env e ((some k,Bx.arr t' ah es c)::s)) b=e.at k:=by simp[Sel.env,Env.at,oA,<-hE]
        cases i with
        | zero=>simp at I O;subst I;subst O;refine⟨?_,id,aB,λ_=>.inr rfl⟩;simp only[PV.val,PV.val1,PV.cv,ae]
        | succ i=>
          have:=h4 (E++[e.at k]) (by simp[hE]) i r q (by simpa using I) (by simpa using O)
          simpa [Sel.env]using this
      ·exact hs.elim
     ·rename_i zz al ac;cases ac;obtain⟨qs,s,Y,U,h3,h4⟩:=zn h l _ us ps (b+1) hs (λp I=>J p (by simp[I]));refine⟨.sb b z 0 0 0::qs,(none,.arr t z [] 0)::s,⟨⟨rfl,rfl,rfl,rfl,rfl,rfl,rfl⟩,Y⟩,⟨λx hx=>?_,?_,λj hj=>?_⟩,by simp[h3],λE hE i r q I O=>?_⟩
      ·rcases oK.1 hx with rfl | hx
       ·exact .inl ⟨rfl,t,z,rfl⟩
       ·exact U.at_ x hx
      ·simpa using U.nd
      ·exact U.un j (by simpa using hj)
      ·have ae:Env.at (E++Sel.env e (((none:Option Nat),Bx.arr t z [] 0)::s)) b=none:=by simp[Sel.env,Env.at,oA,<-hE]
       cases i with
       | zero=>simp at I O;subst I;subst O;refine⟨?_,λ_=>trivial,aB,λ_=>.inr rfl⟩;simp[PV.val,PV.val1,PV.cv,ae]
       | succ i=>
         have:=h4 (E++[none]) (by simp[hE]) i r q (by simpa using I) (by simpa using O)
         simpa [Sel.env]using this
     ·exact hs.elim
 | .cu :: l,Q,us,ps,b,hs,J=>by
   cases ps with
   | nil=>exact hs.elim
   | cons p ps=>
     simp only[ue]at hs;split at hs
     rotate_left
     ·exact hs.elim
     rename_i k z i o al ac;cases ac;split at hs
     rotate_left
     ·exact hs.elim
     rename_i cs hk hc;split at hs
     rotate_left
     ·exact hs.elim
     rename_i a' es c n m ax;have ay:=Xm ax;subst ay;simp only[oL,oh,nM]at hc;obtain⟨⟨rfl,rfl,rfl⟩,ai⟩:=hc;obtain⟨qs,s,Y,U,h3,h4⟩:=zn h l _ (k::us) ps (b+1) hs (λp I=>J p (by simp[I]));refine⟨.pb b 0 0 0::qs,(some k,.var [.sv a' 0 es c,.int .i64 n,.int .i64 m])::s,⟨_,_,_,_,_,rfl,rfl,Y⟩,⟨λx hx=>?_,?_,λj hj=>?_⟩,by simp[h3],λE hE i r q I O=>?_⟩
     ·rcases oK.1 hx with rfl | hx
      ·exact .inr ⟨k,rfl,hk,_,_,_,_,_,rfl⟩
      ·exact U.at_ x hx
     ·simp only[mD];exact mA.2 ⟨λhc=>U.un k hc aB,U.nd⟩
     ·simp only[mD]at hj;rcases oK.1 hj with rfl | hj
      ·intro hc;simp[hc]at ai
      ·exact λhc=>U.un j hj (by simp[hc])
     ·have ae:Env.at (E++Sel.env e ((some k,Bx.var [.sv a' 0 es c,.int .i64 n,.int .i64 m])::s)) b=e.at k:=by simp[Sel.env,Env.at,oA,<-hE]
      cases i with
      | zero=>simp at I O;subst I;subst O;refine⟨?_,id,aB,λhx=>by cases hx⟩;simp only[PV.val,PV.val1,PV.cv,ae]
      | succ i=>
        have:=h4 (E++[e.at k]) (by simp[hE]) i r q (by simpa using I) (by simpa using O)
        simpa [Sel.env]using this
 | .pk::l,Q,us,ps,b,hs,J=>by
   simp only[ue]at hs;split at hs
   ·rename_i hk;obtain⟨qs,s,Y,U,h3,h4⟩:=zn h l Q us ps b hs J;exact⟨qs,s,⟨hk,Y⟩,U,h3,h4⟩
   ·exact hs.elim
 | .dc :: l,Q,us,ps,b,hs,J=>by
   cases ps with
   | nil=>exact hs.elim
   | cons p ps=>
     simp only[ue]at hs;split at hs
     rotate_left
     ·exact hs.elim
     rename_i x hx;obtain⟨qs,s,Y,U,h3,h4⟩:=zn h l _ us ps b hs (λp I=>J p (by simp[I]));refine⟨.dc x::qs,s,Y,U,by simp[h3],λE hE i r q I O=>?_⟩;cases i with
     | zero=>
       simp at I O;subst I;subst O;have hv:p.val e=p.cv e:=by cases p<;>first | rfl | (simp[Aq]at hx)
       have aj:x.cv=p.cv e:=by
        rcases J p aB with aa | hdx
        ·exact(wF (e:=e) hx aa).2.2.1
        ·cases p<;>simp[Md]at hdx<;>simp[Aq]at hx<;>subst hx<;>rfl
       refine⟨by rw[hv,<-aj];rfl,λI=>?_,λhc=>by subst hc;simp[Aq]at hx,λ_=>.inr rfl⟩;obtain⟨g1,g2,_⟩:=wF (e:=e) hx I;exact⟨g1,g2⟩
     | succ i=>exact h4 E hE i r q (by simpa using I) (by simpa using O)
 | .bk j::l,Q,us,ps,b,hs,J=>by
   cases ps with
   | nil=>exact hs.elim
   | cons p ps=>
     simp only[ue]at hs;split at hs
     rotate_left
     ·exact hs.elim
     rename_i x hx;obtain⟨qs,s,Y,U,h3,h4⟩:=zn h l _ us ps b hs (λp I=>J p (by simp[I]));refine⟨.dc x::qs,s,Y,U,by simp[h3],λE hE i r q I O=>?_⟩;cases i with
     | zero=>
       simp at I O;subst I;subst O;have hv:p.val e=p.cv e:=by cases p<;>first | rfl | (simp[Aq]at hx)
       have aj:x.cv=p.cv e:=by
        rcases J p aB with aa | hdx
        ·exact(wF (e:=e) hx aa).2.2.1
        ·cases p<;>simp[Md]at hdx<;>simp[Aq]at hx<;>subst hx<;>rfl
       refine⟨by rw[hv,<-aj];rfl,λI=>?_,λhc=>by subst hc;simp[Aq]at hx,λ_=>.inr rfl⟩;obtain⟨g1,g2,_⟩:=wF (e:=e) hx I;exact⟨g1,g2⟩
     | succ i=>exact h4 E hE i r q (by simpa using I) (by simpa using O)
theorem UH (h:Rel av w0 [] [] [] a w e st){s}(hs:SelOk st [] s):Mem av [] w (s.env e) s.rows/\(∀ b,za av [] (s.env e) s.rows b->za av [] e st.bx b)/\∀(k b:Nat),(s.env e).at k=some b->w0.heap.size<=b:=by
 have ae:∀(j:Nat) (x:Option Nat × Bx),s[j]?=some x->(s.env e).at j=x.1.bind e.at:=λj x I=>by simp[Sel.env,Env.at,oA,I]
 have aa:∀(j:Nat) (B:Bx),s.rows[j]?=some B->∃ x,s[j]?=some x/\x.2=B:=λj B I=>by
  simp only[Sel.rows,oF]at I;cases J:s[j]? with
  | none=>simp[J]at I
  | some x=>simp[J]at I;exact⟨x,rfl,I⟩
 have ac:∀(j b:Nat),(s.env e).at j=some b->∃ x k,s[j]?=some x/\x.1=some k/\Lives [] e st.bx k b:=λj b I=>by
  cases J:s[j]? with
  | none=>simp[Sel.env,Env.at,oA,J]at I
  | some x=>
    rw[ae j x J]at I;rcases hs.at_ x (oB J)with⟨O,_⟩ | ⟨k,O,U,Y⟩
    ·rw[O]at I;cases I
    ·rw[O]at I;exact⟨x,k,rfl,O,aB,I,x.2,U,Y.sp.1⟩
 have ab:∀ b,za av [] (s.env e) s.rows b->za av [] e st.bx b:=λb hb=>hb.imp id λ⟨j,I⟩=>by obtain⟨_,k,_,_,Y⟩:=ac j b I.2.1;exact⟨k,Y⟩
 refine⟨{ el:=by simp[Sel.env,Sel.rows],br:=λj B I _=>?_,bo:=λj B I _=>?_,bf:=λj B I _ i hi=>?_,inj:=λi j b hi I=>?_ },ab,λj b I=>?_⟩
 ·obtain⟨x,J,rfl⟩:=aa j B I;rw[ae j x J];rcases hs.at_ x (oB J)with⟨O,t,z,U⟩ | ⟨k,O,U,Y⟩
  ·rw[O,U];exact .inl ⟨rfl,rfl,rfl⟩
  ·rw[O];refine(h.br k _ U aB).congr (λ_ _=>rfl) λi hi=>?_;rw[Y.sp.2]at hi;simp at hi
 ·obtain⟨x,J,rfl⟩:=aa j B I;rcases hs.at_ x (oB J)with⟨O,t,z,U⟩ | ⟨k,O,U,Y⟩
  ·rw[U];intro y hy;simp at hy
  ·exact(h.bo k _ U aB).mono (λ_ _ _=>rfl) (oC _) λb _=>ab b
 ·obtain⟨x,J,rfl⟩:=aa j B I;rcases hs.at_ x (oB J)with⟨O,t,z,U⟩ | ⟨k,O,U,Y⟩
  ·rw[U]at hi;simp[Bx.refs]at hi
  ·rw[Y.sp.2]at hi;simp at hi
 ·obtain⟨x,k,O,U,Y⟩:=ac i b hi.2.1;obtain⟨y,l,g1,g2,g3⟩:=ac j b I.2.1;have ak:=h.inj k l b Y g3;subst ak
  have key:∀(s:Sel) (i j:Nat) (x y:Option Nat × Bx),(s.filterMap (·.1)).Nodup->s[i]?=some x->s[j]?=some y->x.1=some k->y.1=some k->i=j:=by
   intro s
   induction s with
   | nil=>intro i j x y _ J;simp at J
   | cons u s ih=>
     intro i j x y hn J hy ah ai;have al:(s.filterMap (·.1)).Nodup:=by
      cases hu:u.1 with
      | none=>simpa [hu]using hn
      | some m=>simp only[mD,hu]at hn;exact(mA.1 hn).2
     have aj:u.1=some k->k∉s.filterMap (·.1):=λhu=>by simp only[mD,hu]at hn;exact(mA.1 hn).1
     cases i with
     | zero=>
       simp at J;subst J;cases j with
       | zero=>rfl
       | succ j=>simp at hy;exact absurd (nk.2 ⟨y,oB hy,ai⟩) (aj ah)
     | succ i=>
       simp at J;cases j with
       | zero=>simp at hy;subst hy;exact absurd (nk.2 ⟨x,oB J,ah⟩) (aj ai)
       | succ j=>simp at hy;rw[ih i j x y al J hy ah ai]
  exact key s i j x y hs.nd O g1 U g2
 ·obtain⟨_,k,_,_,Y⟩:=ac j b I;rcases h.own k b Y with h4 | h4
  ·exact h4
  ·simp at h4
def QV:ResultVar->Nat
 | .tmp t=>t
 | .cell a _=>a
def ZE (P:Program)(st:St):List ResultVar->(aN->Prop)->Prop
 | [],K=>K []
 | .tmp t::l,K=>ZE P st l λps=>K (st.sl.getD t .any::ps)
 | .cell a t::l,K=>Cz P (opd st.sl) (λk=>st.bx[k]?) (.load t (.tmp a)) t λp=>ZE P st l λps=>K (p::ps)
def K3:Sh->Bool
 | .row ..=>true
 | .cu=>true
 | .dc=>true
 | .bk _=>true
 | _=>false
def zAk:List Sh->aI->aI
 | .pk::_,_=>[]
 | s::l,t::ts=>match K3 s with
   | true=>zAk l ts
   | false=>t::zAk l ts
 | _,_=>[]
def FU (pk:Bool)(ps:aN):aN:=match pk with
 | true=>match ps with
   | [.pg cs]=>cs
   | _=>[.any]
 | false=>ps
def zBW (P:Program)(f:aL)(rs:List Sh)(Q:QT rs)(N0:Option Nat)(st:St):Prop:=
 match P.funcs[f]? with
 | some fn=>AU N0 #[] [] (zAk rs (fn.results.toList.map QV)) (fn.results.toList.map QV) st λst=>ZE P st fn.results.toList λps=>ue st rs Q [] (FU (FS rs) (zy P fn.resultTypes.toList ps))
 | none=>False
def O6 (tmps:Array Value)(r:ResultVar):Sem Value:=match r with
 | .tmp t=>pure (tmps.getD t undef)
 | .cell a t=>do loadVar t (<-asAddr (tmps.getD a undef))
theorem V7 tmps:(λ(r:ResultVar)=>match r with
 | .tmp t=>(pure (tmps.getD t undef):Sem Value)
 | .cell a t=>do loadVar t (<-asAddr (tmps.getD a undef)))=O6 tmps:=by funext r;cases r<;>rfl
theorem Am (h:Rel av w0 e0 [] [] a w e st):∀(l:List ResultVar) (K:aN->Prop),ZE P st l K->∃ vs ps,K ps/\(l.mapM (O6 a.tmps)).run P w=.ok vs w/\vs.length=l.length/\ps.length=l.length /\
  ∀(i:Nat) (v:Value) (p:PV),vs[i]?=some v->ps[i]?=some p->ValOk av w e [] st.bx v p
 | [],K,U=>⟨[],[],U,aB,rfl,rfl,aB⟩
 | .tmp t::l,K,U=>by
   obtain⟨vs,ps,h1,h2,h3,h4,h5⟩:=Am h l _ U;have Y:ValOk av w e [] st.bx (a.eval (.tmp t)) (opd st.sl (.tmp t)):=(vn h (x:=.tmp t) aB).valOk;refine⟨a.tmps.getD t undef::vs,st.sl.getD t .any::ps,h1,?_,by simp[h3],by simp[h4],λi v p I O=>?_⟩
   ·simp[O6,h2]
   ·cases i with
    | zero=>simp only[lI,od]at I O;subst I;subst O;exact Y
    | succ i=>exact h5 i v p (by simpa using I) (by simpa using O)
 | .cell c t::l,K,U=>by
   simp only [ZE] at U;have ho:∀ x∈(Op.load t (.tmp c)).operands,OpdOk av a w e [] st.bx x (opd st.sl x):=λx hx=>vn h aB;obtain ⟨v0, p0, J, g2, g3⟩ := Jm (o := ⟨none, .load t (.tmp c), t, "", #[], none⟩) h.toMem ho (λk B hk => ⟨hk, by simp⟩) U;obtain ⟨vs,ps,h1,h2,h3,h4,h5⟩:=Am h l _ g2
   have aa:(O6 a.tmps (.cell c t)).run P w=.ok v0 w:=by
    simp only[execOp]at J;have he:a.eval (.tmp c)=a.tmps.getD c undef:=rfl;rw[he]at J;simp only[O6];cases Y:a.tmps.getD c undef with
    | pointer p=>
      cases p with
      | none=>rw[Y]at J;simp[Instr.loadAt,Instr.sureAddr]at J
      | some ad=>
        rw[Y]at J;simp[Instr.loadAt,Instr.sureAddr,asAddr]at J ⊢;generalize (loadVar t ad).run P w=r at J ⊢;cases r with
        | ok x w1=>simp at J ⊢;exact J
        | halt x w1=>simp at J
    | _=>rw[Y]at J;simp[Instr.loadAt,Instr.sureAddr]at J
   refine⟨v0::vs,p0::ps,h1,?_,by simp[h3],by simp[h4],λi v p I O=>?_⟩
   ·rw[List.mapM_cons];simp only[Sem.run_bind,aa,Result.andThen_ok,h2,Sem.run_pure]
   ·cases i with
    | zero=>simp only[lI,od]at I O;subst I;subst O;exact g3
    | succ i=>exact h5 i v p (by simpa using I) (by simpa using O)
def zAb (vs:aJ):Value:=match vs with
 | [v]=>v
 | vs=>.tuple vs.toArray
theorem Bj {fn vs tmps}(h:(fn.results.toList.mapM (O6 tmps)).run P w=.ok vs w) :
  (results fn tmps).run P w=.ok (zAb vs) w:=by
 unfold results;have I:∀ F:ResultVar->Sem Value,F=O6 tmps->((do
   let vs <-fn.results.mapM F
   pure (if h:vs.size=1 then vs[0]else .tuple vs):Sem Value)).run P w=.ok (zAb vs) w:=λF J=>by
  subst J;rw[Array.mapM_eq_mapM_toList];simp[h];rcases vs with _ | ⟨t,_ | ⟨u,ts⟩⟩<;>simp[zAb]
 exact I _ (V7 tmps)
theorem Ko {e}{p:PV}(h:p.isC):p.val e=p.cv e:=by
 cases p<;>first | rfl | exact h.elim | skip
 rename_i x;cases x<;>first | rfl | (simp[PV.isC,D.isCell]at h)
theorem Jt {e}{p:PV}(h:p.isC):p.val1 e=p.cv e:=by
 have:=Ko (e:=e) h
 cases p<;>first | exact this | exact h.elim
theorem Rf (hD:Dfs.on=none)(h:Rel av w0 [] [] [] a w e st){f rs}{Q:QT rs}{k}(hk:k=[]\/∃ k',k=.code .ret::k'){N0}(aw:NOk N0 w0)(hs:zBW P f rs Q N0 st):R0 P f k (Fin rs Q av w0) a w:=by
 unfold zBW at hs;split at hs
 rotate_left
 ·exact hs.elim
 rename_i fn hf;obtain⟨ax,T,U,_,_,Y⟩:=uV h aw aB hs;obtain⟨vs,ps,U,ah,ai,aj,ay⟩:=Am Y _ _ U;have O:∀(i:Nat) (p:PV),(zy P fn.resultTypes.toList ps)[i]?=some p->∃ v,vs[i]?=some v/\ValOk av w e [] ax.bx v p:=λi p J=>by
  obtain⟨q,hq,az⟩:=qE _ _ _ _ J;have I:i<vs.length:=by rw[ai,<-aj];exact(oD.1 hq).1
  have hv:=ay i _ q (oH I) hq;refine⟨_,oH I,?_⟩;rcases az with rfl | ⟨ty,rfl⟩
  ·exact hv
  ·exact hv.retag ty
 cases aa:FS rs with
 | true =>
   rw[aa]at U
   have a6:∃ cs,zy P fn.resultTypes.toList ps=[.pg cs]:=by
    by_cases hc:∃ cs,zy P fn.resultTypes.toList ps=[.pg cs]
    ·exact hc
    ·exfalso;have J:FU true (zy P fn.resultTypes.toList ps)=[.any]:=by
      simp only[FU];split
      ·rename_i cs ae;exact absurd ⟨cs,ae⟩ hc
      ·rfl
     rw[J]at U;cases rs with
     | nil=>simp[FS]at aa
     | cons s l=>
       cases s<;>simp[FS]at aa
       simp only[ue]at U;split at U
       ·rename_i hk;cases l with
        | nil=>exact U.elim
        | cons s l=>cases s<;>simp only[ue]at U<;>first | exact U.elim | (simp[Ww]at hk)
       ·exact U.elim
   obtain⟨cs,ae⟩:=a6;rw[ae]at U O;simp only[FU]at U;obtain⟨v,ak,ab⟩:=O 0 (.pg cs) rfl;have al:vs=[v]:=by
    have h5:vs.length=1:=by have h6:=oY List.length ae;rw[wb]at h6;rw[ai,<-aj,h6];rfl
    rcases vs with _ | ⟨u,_ | _⟩<;>simp at h5 ak
    subst ak;rfl
   have ao:=ab.2.1;simp only[PV.Ok]at ao;obtain⟨ac,aq⟩:=ao;rw[PV.OkL_iff]at ac;obtain⟨qs,s,g1,g2,g3,g4⟩:=zn Y rs Q [] _ 0 U (λp J=>.inl (ac p J));obtain⟨m1,m2,m3⟩:=UH Y g2;have a7:=QT.app_pk aa g1;refine Kv hD hk hf Y.nd (Bj ah) ⟨qs,s.rows,s.env e,g1,?_,m1,λq hq=>?_,m3,Y.size,λb hb=>Y.old b hb aB,λb c t z hb hc=>Y.fz b c t z (.inl hb) hc,Y.ku⟩
   ·rw[al,aa];simp only[zAb,Rg];rw[ab.1.resolve_left aB];simp only[PV.val,PV.val1,PV.cvs_eq];congr 2;apply nL;intro i;rw[oF,oF];cases hq:qs[i]? with
    | none=>rw[show cs[i]?=none from oc (by rw[<-g3];exact mK.1 hq)];rfl
    | some q=>
      have I:i<cs.length:=by rw[<-g3];exact(oD.1 hq).1
      have J:=oH I;rw[J];simp only[oX,od];have h5:=g4 [] rfl i _ q J hq;rw[<-Ko (aq _ (oB J)),h5.1,Jt (a7 q (oB hq))];rfl
   ·obtain⟨i,hi⟩:=oS.1 hq;have I:i<cs.length:=by rw[<-g3];exact(oD.1 hi).1
    have J:=oH I;exact PV.Ok.mono (λ_ _ _=>rfl) (oC _) (λb _=>m2 b) q ((g4 [] rfl i _ q J hi).2.1 (ac _ (oB J)))
 | false=>
 rw[aa]at U;simp only[FU]at U;obtain⟨qs,s,g1,g2,g3,g4⟩:=zn Y rs Q [] _ 0 U (λp J=>by obtain⟨i,hi⟩:=oS.1 J;obtain⟨t,_,hv⟩:=O i p hi;exact .inl hv.2.1);obtain⟨m1,m2,m3⟩:=UH Y g2;have au:qs.length=vs.length:=by rw[g3,wb,aj,ai]
 refine Kv hD hk hf Y.nd (Bj ah) ⟨qs,s.rows,s.env e,g1,?_,m1,λq hq=>?_,m3,Y.size,λb hb=>Y.old b hb aB,λb c t z hb hc=>Y.fz b c t z (.inl hb) hc,Y.ku⟩
 ·-- the values
  have hv:vs=qs.map (PV.val1 (s.env e)):=by
   apply nL;intro i;rw[oF];cases hq:qs[i]? with
   | none=>have:vs[i]?=none:=oc (by rw[<-au];exact mK.1 hq);rw[this];rfl
   | some q=>
     have I:i<(zy P fn.resultTypes.toList ps).length:=by rw[<-g3];exact(oD.1 hq).1
     have J:=oH I;obtain⟨v,hv,ab⟩:=O i _ J;rw[hv];simp only[oX,od];have h5:=g4 [] rfl i _ q J hq;rw[ab.1.resolve_left h5.2.2.1,h5.1];rfl
  rw[hv,aa];simp only[Rg];unfold T7;rcases qs with _ | ⟨q,_ | ⟨r,qs⟩⟩<;>rfl
 ·obtain⟨i,hi⟩:=oS.1 hq;have I:i<(zy P fn.resultTypes.toList ps).length:=by rw[<-g3];exact(oD.1 hi).1
  have J:=oH I;obtain⟨t,ht,ab⟩:=O i _ J;exact PV.Ok.mono (λ_ _ _=>rfl) (oC _) (λb _=>m2 b) q ((g4 [] rfl i _ q J hi).2.1 ab.2.1)
variable {av:Nat->Prop} {P:Program} {w0 w w':World} {e0 e:Env} {pS pS' pB pB':aI} {a:Act} {st st':St}
mutual
def vp:PV->PV->Bool
 | .any,.any=>true
 | .pb k z i o,.pb I z' i' J=>Nat.beq k I&&Nat.beq z z'&&Nat.beq i i'&&Nat.beq o J
 | .fn f l,.fn O l'=>Nat.beq f O&&EM l l'
 | _,_=>false
def EM:aN->aN->Bool
 | [],[]=>true
 | p::ps,q::qs=>vp p q&&EM ps qs
 | _,_=>false
end
mutual
theorem M8:∀ {p q:PV},vp p q=true->p=q
 | .any,q,h=>by cases q<;>simp[vp]at h ⊢
 | .pb k z i o,q,h=>by
   cases q<;>simp[vp]at h
   obtain⟨⟨⟨I,J⟩,O⟩,U⟩:=h
   rw[I,J,O,U]
 | .fn f l,q,h=>by
   cases q<;>simp[vp]at h
   rw[h.1,Ju h.2]
 | .int ..,q,h=>by simp[vp]at h
 | .bool ..,q,h=>by simp[vp]at h
 | .str ..,q,h=>by simp[vp]at h
 | .lit ..,q,h=>by simp[vp]at h
 | .sv ..,q,h=>by simp[vp]at h
 | .d ..,q,h=>by simp[vp]at h
 | .dc ..,q,h=>by simp[vp]at h
 | .dg ..,q,h=>by simp[vp]at h
 | .pd ..,q,h=>by simp[vp]at h
 | .sb ..,q,h=>by simp[vp]at h
 | .pg ..,q,h=>by simp[vp]at h
 | .tp ..,q,h=>by simp[vp]at h
theorem Ju:∀ {p q:aN},EM p q=true->p=q
 | [],q,h=>by cases q<;>simp[EM]at h ⊢
 | p :: ps,q,h=>by
   cases q with
   | nil=>simp[EM]at h
   | cons q qs=>
     simp[EM]at h
     rw[M8 h.1,Ju h.2]
end
def zBJ (all:aO)(q p:PV)(K:Prop):Prop:=match D5 q with
 | some _=>match D5 p with
   | some _=>K
   | none=>False
 | none=>match q,p with
   | .sb k z lo _ _,.sb J z' I n c=>match Nat.beq k J&&Nat.beq z z'&&Nat.beq lo I with
     | true=>match all[k]? with
       | some (.arr _ _ es O)=>(n=es.length/\c=O)/\K
       | _=>False
     | false=>False
   | q,p=>match vp q p with
     | true=>K
     | false=>False
def YG (all:aO):aN->aN->Prop->Prop
 | [],[],K=>K
 | q::qs,p::ps,K=>zBJ all q p (YG all qs ps K)
 | _,_,_=>False
def Z7 (all:aO)(J B:Bx)(K:Prop):Prop:=match J,B with
 | .var I,.var cs=>YG all I cs K
 | .vd _ n,.vd _ n'=>match Nat.beq n n' with
   | true=>K
   | false=>False
 | .arr t z _ _,.arr t' z' _ _=>match Nat.beq t t'&&Nat.beq z z' with
   | true=>K
   | false=>False
 | _,_=>False
def YH (all:aO):aO->aO->Prop->Prop
 | [],[],K=>K
 | B0::b0,B::bs,K=>Z7 all B0 B (YH all b0 bs K)
 | _,_,_=>False
theorem TS {all q p K}(h:zBJ all q p K):K/\(((∃ s,D5 q=some s)/\∃ s,D5 p=some s)\/(D5 q=none/\D5 p=none /\
  ∀ I:aO,(∀(k:Nat) t z es c,all[k]?=some (.arr t z es c)->I[k]?=some (.arr t z es c))->Zs I q=p)):=by
 unfold zBJ at h;split at h
 ·rename_i s hs;split at h
  ·rename_i s' O;exact⟨h,.inl ⟨⟨s,hs⟩,s',O⟩⟩
  ·exact h.elim
 ·rename_i hq;split at h
  ·rename_i k z lo n0 c0 k' z' aa n c;split at h
   ·rename_i hk;simp only[oL]at hk;obtain⟨⟨U,Y⟩,h3⟩:=hk;have U:=nK U;have Y:=nK Y;have h3:=nK h3;subst U;subst Y;subst h3;split at h
    ·rename_i t zz es c' ha;obtain⟨⟨rfl,rfl⟩,hK⟩:=h;refine⟨hK,.inr ⟨rfl,rfl,λI J=>?_⟩⟩;simp only[Zs,J _ _ _ _ _ ha]
    ·exact h.elim
   ·exact h.elim
  ·rename_i ab;split at h
   ·rename_i hs;have he:=M8 hs;subst he;refine⟨h,.inr ⟨hq,hq,λI _=>?_⟩⟩;cases q<;>first | rfl | simp[vp]at hs
   ·exact h.elim
theorem EI {all}:∀ {O cs:aN} {K:Prop},YG all O cs K->K/\∀ rest:aN,(PP O (Uf cs++rest)).2=rest /\
  ∀ I:aO,(∀(k:Nat) t z es c,all[k]?=some (.arr t z es c)->I[k]?=some (.arr t z es c))->(PP O (Uf cs++rest)).1.map (Zs I)=cs
 | [],[],K,h=>⟨h,λrest=>⟨rfl,λ_ _=>rfl⟩⟩
 | [],_::_,K,h=>h.elim
 | _::_,[],K,h=>h.elim
 | q::qs,p::ps,K,h=>by
   obtain⟨h1,h2⟩:=TS h;obtain⟨h3,h4⟩:=EI h1;refine⟨h3,λrest=>?_⟩;obtain⟨h5,h6⟩:=h4 rest;rcases h2 with⟨⟨s,hs⟩,s',U⟩ | ⟨hq,hp,Y⟩
   ·simp only[PP,hs,Uf,U,oq];refine⟨h5,λI J=>?_⟩;rw[o9,h6 I J];congr 1;cases p<;>simp[D5]at U<;>rfl
   ·simp only[PP,hq,Uf,hp];exact⟨h5,λI J=>by rw[o9,h6 I J,Y I J]⟩
theorem Mx {all}:∀ {b0 bs:aO} {K:Prop},YH all b0 bs K->K/\∀ rest:aN,(∀(k:Nat) t z es c,bs[k]?=some (.arr t z es c)->(Rm b0 (IJ bs++rest))[k]?=some (.arr t z es c)) /\
  ∀ I:aO,(∀(k:Nat) t z es c,all[k]?=some (.arr t z es c)->I[k]?=some (.arr t z es c))->(Rm b0 (IJ bs++rest)).map (Zr I)=bs
 | [],[],K,h=>⟨h,λrest=>⟨aB,λ_ _=>rfl⟩⟩
 | [],_::_,K,h=>h.elim
 | _::_,[],K,h=>h.elim
 | B0 :: b0,B::bs,K,h=>by
   simp only[YH]at h;have key:∀(K':Prop),Z7 all B0 B K'->K'/\∀ rest:aN,(Ql B0 (Rz B++rest)).2=rest/\(∀ t z es c,B=.arr t z es c->(Ql B0 (Rz B++rest)).1=.arr t z es c) /\
     ∀ I:aO,(∀(k:Nat) t z es c,all[k]?=some (.arr t z es c)->I[k]?=some (.arr t z es c))->Zr I (Ql B0 (Rz B++rest)).1=B:=λK' h=>by
    unfold Z7 at h;split at h
    ·rename_i aa cs;obtain⟨Y,U⟩:=EI h;refine⟨Y,λrest=>⟨(U rest).1,λ_ _ _ _ hc=>(by cases hc),λI J=>?_⟩⟩;simp only[Ql,Zr,Rz,(U rest).2 I J]
    ·rename_i x n y n';split at h
     ·rename_i O;have O:=nK O;subst O;exact⟨h,λrest=>⟨rfl,λ_ _ _ _ hc=>(by cases hc),λ_ _=>rfl⟩⟩
     ·exact h.elim
    ·rename_i t z es0 c0 t' z' es c;split at h
     ·rename_i O;simp only[oL]at O;have Y:=nK O.1;have U:=nK O.2;subst Y;subst U;exact⟨h,λrest=>⟨rfl,λ_ _ _ _ hc=>(by cases hc;rfl),λ_ _=>rfl⟩⟩
     ·exact h.elim
    ·exact h.elim
   obtain⟨Y,U⟩:=key _ h;obtain⟨h3,h4⟩:=Mx Y;refine⟨h3,λrest=>?_⟩;have e1:IJ (B::bs)++rest=Rz B++(IJ bs++rest):=by simp[IJ]
   rw[e1];obtain⟨h5,h6,h7⟩:=U (IJ bs++rest);obtain⟨h8,h9⟩:=h4 rest;simp only[Rm,h5];refine⟨λk t z es c hk=>?_,λI J=>by rw[o9,h7 I J,h9 I J]⟩;cases k with
   | zero=>simp at hk ⊢;exact h6 _ _ _ _ hk
   | succ k=>simp only[nq]at hk ⊢;exact h8 k _ _ _ _ hk
theorem TU {all}:∀ {b0 bs:aO}{K:Prop},YH all b0 bs K->∀ B∈bs,B≠.gone
 | [],[],K,h=>aB
 | [],_::_,K,h=>h.elim
 | _::_,[],K,h=>h.elim
 | B0::b0,B::bs,K,h=>by
   simp only[YH]at h;have key:∀ K',Z7 all B0 B K'->B≠.gone/\K':=λK' h=>by
    unfold Z7 at h;split at h
    ·exact⟨aB,(EI h).1⟩
    ·split at h
     ·exact⟨aB,h⟩
     ·exact h.elim
    ·split at h
     ·exact⟨aB,h⟩
     ·exact h.elim
    ·exact h.elim
   obtain⟨I,J⟩:=key _ h;intro C hC;rcases oK.1 hC with rfl | hC
   ·exact I
   ·exact TU J C hC
theorem Vo {b0 bs K}(h:YH bs b0 bs K):K/\MB b0 (IJ bs)=bs:=by obtain⟨O,U⟩:=Mx h;obtain⟨I,J⟩:=U [];rw[o8]at I J;exact⟨O,J _ I⟩
def wa (E:Env):Nat->aO->List (Option Nat)
 | _,[]=>[]
 | k,B::bs=>(match B with
   | .var _=>some ((E.at k).getD 0)
   | .vd _ _=>some ((E.at k).getD 0)
   | _=>none)::wa E (k+1) bs
theorem p9 {E}:∀(bs:aO)(k:Nat),(wa E k bs).length=bs.length
 | [],k=>rfl
 | B::bs,k=>by simp[wa,p9 bs]
theorem M7 {E}:∀(bs:aO)(k j:Nat)(B:Bx),bs[j]?=some B->B.isArr=false->(wa E k bs)[j]?=some (some ((E.at (k+j)).getD 0))
 | B::bs,k,0,B',h,I=>by simp at h;subst h;cases B<;>simp[Bx.isArr]at I<;>simp[wa]
 | B::bs,k,j+1,B',h,I=>by simp only[nq]at h;simp only[wa,nq];rw[M7 bs (k+1) j B' h I,show k+1+j=k+(j+1) by omega]
def XO (p:Option (List (Option Nat) × aI)) E bx0:=p=some (wa E 0 bx0,[])
def yg E bx0:=XO (some (wa E 0 bx0,[])) E bx0
theorem zN {E bx0}:yg E bx0:=rfl
def Y9:List Sh->Bool
 | []=>true
 | .pk::_=>false
 | _::l=>Y9 l
def YK (st:St)(m:Nat):aI:=(C2 st.bx 200 (List.range m) []).filter λk=>Z2 st k&&Nat.ble m k
def SG (full:List Sh)(ps:aN):aN:=match full with
 | .bk _::_=>[.int .i64 0]
 | _=>ps
def zAy (st:St)(m:Nat)(full:List Sh)(ps:aN)(K:Prop):Prop:=match full with
 | .bk j::_=>match ps with
   | [.sb k z lo n c]=>match st.bx[j]? with
     | some (.arr _ z' es I)=>match Nat.beq k j&&Nat.beq lo 0&&Nat.beq z z'&&Nat.blt j m with
       | true=>(n=es.length/\c=I)/\K
       | false=>False
     | _=>False
   | _=>False
 | _=>K
theorem SF {m full ps K}(h:zAy st m full ps K):K/\(((∀ j l,full≠.bk j::l)/\SG full ps=ps)\/∃ j l t z es c,full=.bk j::l/\ps=[.sb j z 0 es.length c]/\st.bx[j]?=some (.arr t z es c)/\j<m/\SG full ps=[.int .i64 0]):=by
 unfold zAy at h;split at h
 ·rename_i j l;split at h
  ·rename_i k z lo n c;split at h
   ·rename_i t z' es c' Y;split at h
    ·rename_i hb;simp only[oL]at hb;obtain⟨⟨⟨I,J⟩,O⟩,h4⟩:=hb;have I:=nK I;have J:=nK J;have O:=nK O;subst I;subst J;subst O;obtain⟨⟨rfl,rfl⟩,hK⟩:=h;exact⟨hK,.inr ⟨_,_,_,_,_,_,rfl,rfl,Y,by simpa [Nat.blt_eq]using h4,rfl⟩⟩
    ·exact h.elim
   ·exact h.elim
  ·exact h.elim
 ·rename_i U;refine⟨h,.inl ⟨λj l hc=>U j l hc,?_⟩⟩;unfold SG;split
  ·exact absurd rfl (U _ _)
  ·rfl
def zBb (full:List Sh):List Sh:=match full with
 | .bk _::l=>.row 0 0::l
 | l=>l
def SJ:List Sh->List Sh
 | .pk::l=>l
 | l=>l
def zBP (pk:Bool)(ps:aN):Bool:=match pk with
 | true=>match ps with
   | [.pg _]=>true
   | _=>false
 | false=>true
def ZF (P:Program)(f:aL)(full:List Sh)(Q:QT full)(N0:Option Nat)(E:Env)(bx0:aO)(st:St):Prop:=
 match P.funcs[f]? with
 | some fn=>AU N0 #[] [] (zAk (zBb full) (fn.results.toList.map QV)) (fn.results.toList.map QV) st λst=>MY N0 [] [] (YK st bx0.length) st λst=>
  XO st.pin E bx0/\YH (st.bx.take bx0.length) bx0 (st.bx.take bx0.length) (ZE P st fn.results.toList λps=>match Nat.beq fn.resultTypes.size fn.results.size&&(((SJ full).drop (HP P f full bx0)).all λs=>!K3 s)&&(bx0.all λB=>B.refs.all λi=>decide (i<bx0.length))&&Y9 (SJ full)&&(zBP (FS full) (zy P fn.resultTypes.toList ps)&&Nat.beq (FU (FS full) (zy P fn.resultTypes.toList ps)).length (HP P f full bx0))with
  | true=>zAy st bx0.length full (FU (FS full) (zy P fn.resultTypes.toList ps)) (ue st full Q (List.range bx0.length) (SG full (FU (FS full) (zy P fn.resultTypes.toList ps))++IJ (st.bx.take bx0.length)))
  | false=>False)
 | none=>False
theorem L7:∀ {cs:aN}{p:PV},p∈Uf cs->p∈cs/\Md p=true/\p.refs=[]
 | q :: cs,p,h=>by
   simp only[Uf]at h;split at h
   ·rename_i s hs;rcases oK.1 h with rfl | h
    ·refine⟨aB,?_⟩;cases p<;>simp[D5]at hs<;>exact⟨rfl,rfl⟩
    ·obtain⟨I,J⟩:=L7 h;exact⟨by simp[I],J⟩
   ·obtain⟨I,J⟩:=L7 h;exact⟨by simp[I],J⟩
theorem Yj {e ne m B}(h:B.row):BPick e ne m B B:=by
 cases B with
 | arr t z es c=>exact⟨.inr (.inl ⟨rfl,aB⟩)⟩
 | _ =>
   obtain⟨_,_,_,_,_,O⟩:=h;cases O<;>exact⟨.inr (.inr ⟨_,_,rfl,rfl,rfl,λi q I=>by
    have J:q.refs=[]:=by
     have:=oB I
     simp at this;rcases this with rfl | rfl | rfl<;>rfl
    exact .inr ⟨q,I,id,PV.cv_congr q (by simp[J]),λ_ _=>id,id,by simp[J]⟩⟩)⟩
theorem TW {s l}(h:Y9 (s::l)=true):s≠.pk/\Y9 l=true:=by cases s<;>simp[Y9]at h<;>exact⟨aB,h⟩
theorem QT.app_plainrow:∀(l:List Sh)(Q:QT l)(b:Nat)(ps:aN)(rows:aO)(N:Nat),Y9 l=true->QT.app l Q b ps rows N->ps.length=l.length/\∀(i:Nat)(s:Sh)(p:PV),l[i]?=some s->K3 s=false->ps[i]?=some p->zBI p=false
 | [],Q,b,ps,rows,N,O,h=>by cases ps<;>cases rows<;>simp[QT.app]at h ⊢
 | s :: l,Q,b,ps,rows,N,O,h=>by
   obtain⟨hs,O⟩:=TW O;cases ps with
   | nil=>cases s<;>first | exact absurd rfl hs | (simp[QT.app]at h;done)
   | cons p ps=>
     have key:(∃(U:QT l) (b':Nat) (I:aO),QT.app l U b' ps I N)/\(K3 s=false->zBI p=false):=by
      cases s<;>(try(exact absurd rfl hs))<;>cases p<;>(try(exact h.elim))<;>(try(simp[QT.app]at h;done))<;>first
       | exact⟨⟨_,_,_,h⟩,λ_=>rfl⟩
       | exact⟨⟨_,_,_,h⟩,λhc=>by cases hc⟩
       | exact⟨⟨_,_,_,h.2⟩,λ_=>rfl⟩
       | skip
      all_goals
       cases rows with
       | nil=>simp[QT.app]at h
       | cons B rows=>
         cases B<;>first
          | exact⟨⟨_,b+1,_,h.2⟩,λhc=>by cases hc⟩
          | (simp[QT.app]at h;done)
          | (obtain⟨_,_,_,_,_,_,_,h⟩:=h;exact⟨⟨_,_,_,h⟩,λhc=>by cases hc⟩)
     obtain⟨⟨U,b',I,h'⟩,hp⟩:=key;obtain⟨h1,h2⟩:=QT.app_plainrow l U b' ps I N O h';refine⟨by simp[h1],λi s' p' hs Y J=>?_⟩;cases i with
     | zero=>simp at hs J;subst hs;subst J;exact hp Y
     | succ i=>exact h2 i s' p' (by simpa using hs) Y (by simpa using J)
theorem QT.app_body {full}{Q:QT full}{b ps rows N}(h:QT.app full Q b ps rows N):∃ I:QT (SJ full),QT.app (SJ full) I b ps rows N:=by
 cases full with
 | nil=>exact⟨Q,h⟩
 | cons s l=>cases s<;>first | exact⟨Q,h⟩ | exact⟨Q,h.2⟩
theorem Te {pk ps}(h:zBP pk ps=true):(pk=false/\FU pk ps=ps)\/∃ cs,pk=true/\ps=[.pg cs]/\FU pk ps=cs:=by
 cases pk with
 | false=>exact .inl ⟨rfl,rfl⟩
 | true=>
   unfold zBP at h;simp only at h;split at h
   ·exact .inr ⟨_,rfl,rfl,rfl⟩
   ·cases h
theorem QS {E}(h:Rel av w0 E [] [] a w e st){f full}{Q:QT full}{N0}(bt:NOk N0 w0){bx0}(hs:ZF P f full Q N0 E bx0 st):∃ fn v,P.funcs[f]?=some fn/\(results fn a.tmps).run P w=.ok v w/\ZJ full Q (HP P f full bx0) av w0 E bx0 (.returned v) w:=by
 unfold ZF at hs;split at hs
 rotate_left
 ·exact hs.elim
 rename_i fn hf;obtain⟨db,T,h0,_,_,h1⟩:=uV h bt aB hs;obtain⟨I,h2,_,h3⟩:=pG bt aB aB _ _ h1 aB h0;obtain⟨bb,h2⟩:=h2;unfold XO at bb;have bh:=TU h2;obtain⟨h2,ah⟩:=Vo h2;obtain⟨vs,ps,h2,bv,bw,bz,co⟩:=Am h3 _ _ h2;split at h2
 rotate_left
 ·exact h2.elim
 rename_i al;simp only[oL,ob,nM,oh]at al;obtain⟨⟨⟨⟨a7,bc⟩,ao⟩,b7⟩,b8,ac⟩:=al;have ac:=nK ac;have a7:=nK a7;obtain⟨h2,a8⟩:=SF h2;clear hs;generalize HP P f full bx0=nn at bc ac ⊢;have aq:I.pins=wa E 0 bx0:=by simp[St.pins,bb]
 have ba:∀ p∈IJ (I.bx.take bx0.length),Md p=true/\p.refs=[]:=λp hp=>by
  simp only[IJ,mJ]at hp;obtain⟨B,_,hp⟩:=hp;cases B<;>simp only[Rz]at hp
  ·exact(L7 hp).2
  ·simp at hp;subst hp;exact⟨rfl,rfl⟩
  ·simp at hp;subst hp;exact⟨rfl,rfl⟩
  ·simp at hp
 obtain⟨ul,ug⟩:=LS bx0 (IJ (I.bx.take bx0.length)) λp hp=>(ba p hp).2;rw[ah]at ul ug;have hm:bx0.length<=I.bx.length:=by rw[nO]at ul;omega
 have bh:∀(k:Nat) (B:Bx),k<bx0.length->I.bx[k]?=some B->B≠.gone:=λk B hk hB=>bh B (oB (i:=k) (by rw[om];simp[hk,hB]));have bi:∀ j,j<bx0.length->(I.bx.take bx0.length)[j]?=I.bx[j]?:=λj hj=>by rw[om];simp[hj]
 have au:∀(j:Nat) (B:Bx),j<bx0.length->I.bx[j]?=some B->∀ i∈B.refs,i<bx0.length:=λj B hj hB i hi=>by obtain⟨B1,g1,g2,_⟩:=ug j B (by rw[bi j hj];exact hB);exact ao B1 (oB g1) i (g2 i hi)
 have ab:∀(i:Nat) (p:PV),(zy P fn.resultTypes.toList ps)[i]?=some p->∃ v,vs[i]?=some v/\ValOk av w e [] I.bx v p:=λi p hp=>by
  obtain⟨q,hq,cp⟩:=qE _ _ _ _ hp;have J:i<vs.length:=by rw[bw,<-bz];exact(oD.1 hq).1
  have hv:=co i _ q (oH J) hq;refine⟨_,oH J,?_⟩;rcases cp with rfl | ⟨ty,rfl⟩
  ·exact hv
  ·exact hv.retag ty
 have U:=Te b8;have aw:∀ p∈FU (FS full) (zy P fn.resultTypes.toList ps),p.Ok w (za av [] e I.bx):=λp hp=>by
  rcases U with⟨_,g⟩ | ⟨cs,_,g1,g⟩
  ·rw[g]at hp;obtain⟨i,hi⟩:=oS.1 hp;obtain⟨t,_,hv⟩:=ab i p hi;exact hv.2.1
  ·rw[g]at hp;obtain⟨v,_,aa⟩:=ab 0 (.pg cs) (by rw[g1];rfl)
   have:=aa.2.1
   simp only[PV.Ok]at this;exact PV.OkL_iff.1 this.1 p hp
 generalize FU (FS full) (zy P fn.resultTypes.toList ps)=O at ac U aw h2 a8 ⊢;have ax:∀ p∈SG full O,p.Ok w (za av [] e I.bx):=λp hp=>by
  rcases a8 with⟨_,g⟩ | ⟨j,l,t,z,es,c,_,_,_,_,g⟩
  ·rw[g]at hp;exact aw p hp
  ·rw[g]at hp;rw[oi]at hp;subst hp;trivial
 obtain⟨qs,s,g1,g2,g3,g4⟩:=zn h3 full Q (List.range bx0.length) _ bx0.length h2 (λp hp=>by
  rcases oM.1 hp with hp | hp
  ·exact .inl (ax p hp)
  ·exact .inr (ba p hp).1)
 have b9:O.length=nn:=ac;have bj:(zy P fn.resultTypes.toList ps).length=fn.resultTypes.size:=by rw[wb,bz,a7];simp
 have hn:(SG full O).length=nn:=by
  rcases a8 with⟨_,g⟩ | ⟨j,l,t,z,es,c,_,g2,_,_,g⟩
  ·rw[g];exact b9
  ·rw[g,<-b9,g2];rfl
 have ca:vs.length=fn.resultTypes.size:=by rw[bw,a7];simp
 obtain⟨Q',cq⟩:=QT.app_body g1;obtain⟨cr,bm⟩:=QT.app_plainrow _ _ _ _ _ _ b7 cq;have de:bx0.length<=e.length:=by rw[h3.el];exact hm
 have aj:(e.take bx0.length).length=bx0.length:=aF
 have ct:qs.drop nn=IJ (I.bx.take bx0.length):=by
  apply nL;intro i;rw[nT];cases Y:(IJ (I.bx.take bx0.length))[i]? with
  | none=>
    refine oc ?_;rw[g3,oG,hn]
    have:=mK.1 Y
    omega
  | some p=>
    have J:nn+i<qs.length:=by
     rw[g3,oG,hn]
     have:=(oD.1 Y).1
     omega
    have hq:=oH J;have hp:(SG full O++IJ (I.bx.take bx0.length))[nn+i]?=some p:=by rw[oU aA,hn];simpa using Y
    have ht:=(g4 _ aj _ p _ hp hq).2.2.2 (ba p (oB Y)).1;have cc:nn+i<(SJ full).length:=by rw[<-cr];exact J
    have cw:=bm (nn+i) _ _ (oH cc) (bc _ (oB (i:=i) (by rw[nT,oH cc]))) hq;rcases ht with ht | ht
    ·rw[hq,ht]
    ·rw[cw]at ht;cases ht
 have cx:qs=qs.take nn++IJ (I.bx.take bx0.length):=by rw[<-ct];exact(np _ _).symm
 have bg:(qs.take nn).length=nn:=by rw[nO,g3,oG,hn];omega
 have cd:((List.range bx0.length).map some++s.map (·.1)).map (λu=>Option.bind u e.at)=e.take bx0.length++s.env e:=by
  rw[mm];congr 1
  ·apply nL;intro i;by_cases hi:i<bx0.length
   ·rw[om];have:i<e.length:=aA
    simp[hi,Env.at,oA,this]
   ·rw[oc aF,oc aF]
  ·simp[Sel.env]
 have ai:∀ k,k<bx0.length->Env.at (e.take bx0.length++s.env e) k=e.at k:=λk hk=>by rw[Env.at_app,if_pos (by rw[aj];exact hk)];simp[Env.at,oA,om,hk]
 have ce:∀(j:Nat) u,((List.range bx0.length).map some++s.map (·.1))[j]?=some u->(j<bx0.length/\u=some j)\/∃ x,s[j - bx0.length]?=some x/\bx0.length<=j/\u=x.1:=λj u hj=>by
  by_cases J:j<bx0.length
  ·rw[oQ (by simpa using J)]at hj;simp[J]at hj;exact .inl ⟨J,hj.symm⟩
  ·rw[oU aF]at hj;simp only[nE,List.length_range,oF]at hj;cases Y:s[j - bx0.length]? with
   | none=>simp[Y]at hj
   | some x=>simp[Y]at hj;exact .inr ⟨x,rfl,aA,hj.symm⟩
 have cy:∀(j:Nat) (B:Bx),(I.bx.take bx0.length++s.rows)[j]?=some B->(j<bx0.length/\I.bx[j]?=some B)\/∃ x,s[j - bx0.length]?=some x/\bx0.length<=j/\B=x.2:=λj B hj=>by
  by_cases J:j<bx0.length
  ·rw[oQ (by rw[ul];exact J),bi j J]at hj;exact .inl ⟨J,hj⟩
  ·rw[oU (by rw[ul];omega),ul]at hj;simp only[Sel.rows,oF]at hj;cases Y:s[j - bx0.length]? with
   | none=>simp[Y]at hj
   | some x=>simp[Y]at hj;exact .inr ⟨x,rfl,aA,hj.symm⟩
 have ay:∀(i:Nat) x k,s[i]?=some x->x.1=some k->bx0.length<=k/\∃ B,I.bx[k]?=some B/\B≠.gone:=λi x k Y hk=>by
  refine⟨?_,?_⟩
  ·have:=g2.un k (nk.2 ⟨x,oB Y,hk⟩)
   simpa using this
  ·rcases g2.at_ x (oB Y)with⟨h5,_⟩ | ⟨k2,h5,h6,h7⟩
   ·rw[h5]at hk;cases hk
   ·rw[hk]at h5;cases h5;exact⟨x.2,h6,h7.sp.1⟩
 obtain ⟨m1,m2,m3⟩:=P2 (us:=(List.range bx0.length).map some++s.map (·.1)) (nb:=I.bx.take bx0.length++s.rows) (av':=av) h3.toMem (λb hb=>.inl hb) (by simp[Sel.rows,ul])
  (λi j k hi hj=>by
   rcases ce i _ hi with⟨a1,a2⟩ | ⟨x,a1,a2,a3⟩<;>rcases ce j _ hj with⟨b1,b2⟩ | ⟨y,b1,b2,b3⟩
   ·cases a2;cases b2;rfl
   ·cases a2;have:=(ay _ y _ b1 b3.symm).1;omega
   ·cases b2;have:=(ay _ x _ a1 a3.symm).1;omega
   ·have key:∀(s:Sel) (i j:Nat) (x y:Option Nat × Bx),(s.filterMap (·.1)).Nodup->s[i]?=some x->s[j]?=some y->x.1=some k->y.1=some k->i=j:=by
     intro s
     induction s with
     | nil=>intro i j x y _ Y;simp at Y
     | cons u s ih=>
       intro i j x y hn Y hy ae bp;have cz:(s.filterMap (·.1)).Nodup:=by
        cases hu:u.1 with
        | none=>simpa [hu]using hn
        | some m=>simp only[mD,hu]at hn;exact(mA.1 hn).2
       have cf:u.1=some k->k∉s.filterMap (·.1):=λhu=>by simp only[mD,hu]at hn;exact(mA.1 hn).1
       cases i with
       | zero=>
         simp at Y;subst Y;cases j with
         | zero=>rfl
         | succ j=>simp at hy;exact absurd (nk.2 ⟨y,oB hy,bp⟩) (cf ae)
       | succ i=>
         simp at Y;cases j with
         | zero=>simp at hy;subst hy;exact absurd (nk.2 ⟨x,oB Y,ae⟩) (cf bp)
         | succ j=>simp at hy;rw[ih i j x y cz Y hy ae bp]
    have:=key s _ _ x y g2.nd a1 b1 a3.symm b3.symm
    omega)
  (λj B hj=>by
   rcases cy j B hj with⟨a1,a2⟩ | ⟨x,a1,a2,rfl⟩
   ·refine .inr ⟨j,B,?_,aB,a2,⟨?_⟩⟩
    ·rw[oQ (by simpa using a1)];simp[a1]
    ·rw [cd];cases B with
     | var cs=>
       refine .inr (.inr ⟨cs,cs,rfl,rfl,rfl,λi q hq=>.inr ⟨q,hq,id,?_,λ_ _=>id,id,λr hr=>?_⟩⟩)
       ·have hr:∀ r∈q.refs,r<bx0.length:=λr hr=>au j _ a1 a2 r (by simp only[Bx.refs];exact PV.refsL_mem.2 ⟨q,oB hq,hr⟩);exact(PV.cv_congr q λr c6=>ai r (hr r c6)).symm
       ·have:=au j _ a1 a2 r (by simp only[Bx.refs];exact PV.refsL_mem.2 ⟨q,oB hq,hr⟩)
        simp;omega
     | _=>exact .inr (.inl ⟨rfl,aB⟩)
   ·have cg:((List.range bx0.length).map some++s.map (·.1))[j]?=some x.1:=by rw[oU aF];simp[a1]
    rcases g2.at_ x (oB a1)with⟨h5,t,z,h6⟩ | ⟨k2,h5,h6,h7⟩
    ·exact .inl ⟨by rw[cg,h5],t,z,h6⟩
    ·exact .inr ⟨k2,x.2,by rw[cg,h5],aB,h6,Yj h7⟩)
 rw[cd]at m1 m2 m3;have c7:∀ k b,k<bx0.length->e.at k=some b->Lives [] e I.bx k b:=λk b hk hb=>by
  obtain⟨B,hB⟩:∃ B,I.bx[k]?=some B:=⟨_,oH aA⟩
  exact⟨aB,hb,B,hB,bh k B hk hB⟩
 refine⟨fn,_,hf,Bj bv,qs.take nn,IJ (I.bx.take bx0.length),s.rows,e.take bx0.length++s.env e,?_,{
  q:=by rw[<-cx];exact g1
  v:=?_
  m:=by rw[ah];exact m1
  ok:=λq hq=>?_
  fix:=λk B hB ha=>?_
  fresh:=λk b hb=>?_
  size:=h3.size
  old:=h3.old
  fz:=h3.fz
  ku:=h3.ku
  ns:=λp hp=>(ba p hp).2
  be:=Qr h3.toMem rfl λB hB=>ou hB }⟩
 ·exact bg
 ·rcases a8 with⟨gn,gp⟩ | ⟨j,l,t,z,es,c,gf,ch,gj,gm,gp⟩
  ·rw[Hb gn];rw[gp]at g4 g3;rcases U with⟨gk,U⟩ | ⟨cs,gk,cj,U⟩
   rotate_left
   ·have c8:=QT.app_pk gk g1;obtain⟨v,ck,aa⟩:=ab 0 (.pg cs) (by rw[cj];rfl);have bq:vs=[v]:=by
     have h5:vs.length=1:=by rw[ca,<-bj,cj];rfl
     rcases vs with _ | ⟨u,_ | _⟩<;>simp at h5 ck
     subst ck;rfl
    have cm:=aa.2.1;simp only[PV.Ok]at cm;rw[bq,gk];simp only[zAb,Rg];rw[aa.1.resolve_left aB];simp only[PV.val,PV.val1,PV.cvs_eq];congr 2;apply nL;intro i;rw[oF,oF];have dh:cs.length=nn:=by rw[<-ac,U]
    by_cases hi:i<nn
    ·have J:i<(qs.take nn).length:=aA
     have hq:=oH J;have ak:qs[i]?=some (qs.take nn)[i]:=by rw[<-hq,om];simp[hi]
     obtain⟨x,hp⟩:∃ x,cs[i]?=some x:=⟨_,oH aA⟩
     have az:(O++IJ (I.bx.take bx0.length))[i]?=some x:=by rw[oQ aA,U];exact hp
     have h5:=g4 _ aj i _ _ az ak;rw[hq,hp];simp only[oX,od];rw[<-Ko (cm.2 _ (oB hp)),h5.1,Jt (c8 _ (oB ak))]
    ·rw[oc aA,oc aA];rfl
   have di:fn.resultTypes.size=nn:=by rw[<-bj,<-U,<-ac]
   rw[gk];have hv:vs=(qs.take nn).map (PV.val1 (e.take bx0.length++s.env e)):=by
    apply nL;intro i;rw[oF];by_cases hi:i<nn
    ·have J:i<(qs.take nn).length:=aA
     have hq:=oH J;have ak:qs[i]?=some (qs.take nn)[i]:=by rw[<-hq,om];simp[hi]
     have hp:O[i]?=some O[i]:=oH aA;obtain⟨v,hv,aa⟩:=ab i _ (by rw[<-U];exact hp);have az:(O++IJ (I.bx.take bx0.length))[i]?=some O[i]:=by rw[oQ aA];exact hp
     have h5:=g4 _ aj i _ _ az ak;rw[hv,hq,aa.1.resolve_left h5.2.2.1,h5.1];rfl
    ·rw[oc aA,oc aA];rfl
   rw[hv];simp only[Rg];unfold T7;rcases qs.take nn with _ | ⟨q,_ | ⟨r,qs⟩⟩<;>rfl
  ·rcases U with⟨gk,U⟩ | ⟨cs,gk,_,_⟩
   rotate_left
   ·rw[gf]at gk;cases gk
   have h1:O[0]?=some (.sb j z 0 es.length c):=by rw[ch];rfl
   obtain⟨v,hv,aa⟩:=ab 0 _ (by rw[<-U];exact h1);have cn:vs.length=1:=by rw[ca,<-bj,<-U,ch];rfl
   have bq:vs=[v]:=by
    match vs,cn with
    | [v'],_=>simp at hv;rw[hv]
   have da:(MB bx0 (IJ (I.bx.take bx0.length)))[j]?=some (.arr t z es c):=by rw[ah,bi j gm];exact gj
   rw[bq,gf];simp only[T8,da,PV.cv,ai j gm]
   have:=aa.1.resolve_left aB
   rw[this];rfl
 ·rw[ah];obtain⟨i,hi⟩:=oS.1 hq;have J:=(oD.1 hi).1;rw[bg]at J;have ak:qs[i]?=some q:=by rw[<-hi,om];simp[J]
  have hp:(SG full O)[i]?=some (SG full O)[i]:=oH aA;have aa:=ax _ (oB hp);have az:(SG full O++IJ (I.bx.take bx0.length))[i]?=some (SG full O)[i]:=by rw[oQ aA];exact hp
  exact PV.Ok.mono (λ_ _ _=>rfl) (oC _) (λb _=>m2 b) q ((g4 _ aj i _ _ az ak).2.1 aa)
 ·have a6:=(oD.1 hB).1;have h5:=M7 (E:=E) bx0 0 k B hB ha;rw[<-aq,nI]at h5;rw[ai k a6];exact(h3.pin k _ h5).1
 ·by_cases a6:k<bx0.length
  ·rw[ai k a6]at hb;rcases h3.own k b (c7 k b a6 hb)with h5 | ⟨h5,_⟩
   ·exact .inl h5
   ·exact .inr ⟨a6,h5⟩
  ·rw [Env.at_app,if_neg aA,aj]at hb;cases Y:s[k - bx0.length]? with
   | none=>simp[Sel.env,Env.at,oA,Y]at hb
   | some x=>
     simp only[Sel.env,Env.at,oA,oF,Y,oX,nA]at hb;cases ae:x.1 with
     | none=>rw[ae]at hb;cases hb
     | some k2=>
       rw[ae]at hb;obtain⟨h5,B,h6,h7⟩:=ay _ x k2 Y ae;rcases h3.own k2 b ⟨aB,hb,B,h6,h7⟩with h8 | ⟨_,h8⟩
       ·exact .inl h8
       ·rw[aq,p9]at h8;omega
theorem Re (J:Dfs.on=none){E}(h:Rel av w0 E [] [] a w e st){f full}{Q:QT full}{k}(O:k=[]\/∃ U,k=.code .ret::U){N0}(I:NOk N0 w0){bx0}(hs:ZF P f full Q N0 E bx0 st):R0 P f k (ZJ full Q (HP P f full bx0) av w0 E bx0) a w:=by obtain⟨fn,v,Y,hr,hR⟩:=QS h I hs;exact Kv J O Y h.nd hr hR
variable {av:Nat->Prop} {P:Program} {w0 w w':World} {e0 e:Env} {pS pS' pB pB':aI} {a:Act} {st st':St}
structure Hint where
 cuts:List Cut:=[]
 joins:List Cut:=[]
 ords:List (Nat × List Ent):=[]
def eh (i:Nat):Ent:={ i:=i,hard:=true }
def en (i:Nat):Ent:={ i:=i }
def ec (i:Nat)(cl:aI):Ent:={ i:=i,hard:=true,cl:=cl }
def em (i:Nat)(I:Option Nat)(keep:aI)(same:Option Nat:=none):Ent:={ i:=i,hard:=true,mh:=some { place:=I,keep:=keep,same:=same } }
def Zo (i:Nat):List Ent->Ent
 | []=>eh i
 | e::l=>match Nat.beq e.i i with
   | true=>e
   | false=>Zo i l
def zBr (l:List Ent)(n:Nat):Nat->List Ent
 | 0=>[]
 | k+1=>Zo (n - (k+1)) l::zBr l n k
def hs (n:Nat)(l:List Ent):List Ent:=zBr l n n
def hc (id:Nat)(keep:aI)(nils:List (Nat × aK × Nat):=[])(bnils:List (Nat × Nat × aK × Nat):=[]):Cut:={ id:=id,keep:=keep,nils:=nils,bnils:=bnils }
def an:Nat->aN->aN
 | 0,l=>l
 | n+1,l=>.any::an n l
def EB:Code->Option Nat
 | .region id _ _=>some id
 | .seq a b=>match EB a with
   | some i=>some i
   | none=>EB b
 | .block _ c=>EB c
 | .loop c=>EB c
 | _=>none
def Od:List Cut->Nat->Option Cut
 | [],_=>none
 | c::l,id=>match Nat.beq c.id id with
   | true=>some c
   | false=>Od l id
def S0:List (Nat × List Ent)->Nat->Option (List Ent)
 | [],_=>none
 | (i,o)::l,id=>match Nat.beq i id with
   | true=>some o
   | false=>S0 l id
def V1 (n:Nat):List Ent:=(List.range n).map λi=>{ i:=i,hard:=true }
def Vv (H:Hint)(id:Nat)(ops:Array Oper):List Ent:=match S0 H.ords id with
 | some o=>o
 | none=>V1 ops.size
def Z4 (first:Bool)(H:Hint)(id:Nat):Option Cut:=match first with
 | true=>none
 | false=>Od H.joins id
def zAg (N0:Option Nat)(H:Hint)(c:Code)(st:St)(K:St->Prop):Prop:=match EB c with
 | some id=>match Od H.cuts id with
   | some cut=>zA7 N0 cut st λst=>FR st K
   | none=>False
 | none=>False
def zBa (st:St)(c:Operand)(v:Bool):St:=match c with
 | .tmp t=>st.put (some t) (.bool v)
 | _=>st
def Zj (st:St)(c:Operand)(A B:St->Prop):Prop:=match opd st.sl c with
 | .bool v=>Br v (A (zBa st c true)) (B (zBa st c false))
 | _=>False
inductive Mode where
 | ord
 | io (E:Env) (bx0:aO)
 | df (E:Env) (K:St->Prop)
def Mode.env0:Mode->Env
 | .ord=>[]
 | .io E _=>E
 | .df E _=>E
def Mode.n0:Mode->Nat->Option Nat
 | .ord,N=>some N
 | .io ..,N=>some N
 | .df ..,N=>some N
def Mode.fin (M:Mode)(P:Program)(f:aL)(rs:List Sh)(Q:QT rs)(av:Nat->Prop)(w0:World):Ending->World->Prop:=match M with
 | .ord=>Fin rs Q av w0
 | .io E bx0=>ZJ rs Q (HP P f rs bx0) av w0 E bx0
 | .df E K=>λen w=>∃ a e st,en=.returned (.tuple a.tmps)/\K st/\Rel av w0 E [] [] a w e st
def zAj (P:Program)(f:aL)(rs:List Sh)(Q:QT rs)(N0:Nat)(M:Mode)(st:St):Prop:=match Dfs.on with
 | none=>match M with
   | .ord=>zBW P f rs Q (some N0) st
   | .io E bx0=>ZF P f rs Q (some N0) E bx0 st
   | .df ..=>False
 | some _=>match M with
   | .df _ K=>K st
   | _=>False
def dfS (st:St):Option (St × Nat):=match st.bx with
 | .var [.str s,.int .i64 n]::.var [.pb 0 0 0 0]::bs=>match st.pin with
   | some ([x,some b],[])=>some ({ st with bx:=.var [.str s,.int .i64 (IntKind.i64.wrap (n - 1))]::.var [.pb 0 0 0 0]::bs,pin:=some ([x],[]) },b)
   | _=>none
 | _=>none
def dfK (P:Program)(f:aL)(full:List Sh)(Q:QT full)(N0:Nat)(E:Env)(bx0:aO)(b1:Nat)(st:St):Prop:=match dfS st with
 | some (s,b)=>b=b1/\ZF P f full Q (some N0) E bx0 s
 | none=>False
structure AT (P:Program) (f:aL) (rs:List Sh) (Q:QT rs) (N0:Nat) (M:Mode) (k:List Item) (st:St):Prop where
 h:∀(av:Nat->Prop) (w0:World) (a:Act) (w:World) (e:Env),w0.heap.size=N0->Rel av w0 M.env0 [] [] a w e st->R0 P f k (M.fin P f rs Q av w0) a w
def W (P : Program) (sh:aL->List Sh) (f:aL) (rs:List Sh) (Q:QT rs) (N0:Nat) (M:Mode) (H:Hint):Nat->Bool->List Item->St->Prop
 | 0,_,_,_=>False
 | n + 1,first,J,st=>match J with
   | []=>zAj P f rs Q N0 M st
   | .inBlock _::k=>W P sh f rs Q N0 M H n first k st
   | .inLoop c::k=>zAg (M.n0 N0) H c st λst=>AT P f rs Q N0 M (.code c::.inLoop c::k) st
   | .code c::k=>match c with
     | .skip=>W P sh f rs Q N0 M H n first k st
     | .label _=>W P sh f rs Q N0 M H n first k st
     | .ret=>zAj P f rs Q N0 M st
     | .seq x y=>W P sh f rs Q N0 M H n first (.code x::.code y::k) st
     | .cond c x y=>Zj st c (λst=>W P sh f rs Q N0 M H n false (.code x::k) st) (λst=>W P sh f rs Q N0 M H n false (.code y::k) st)
     | .block id c=>W P sh f rs Q N0 M H n first (.code c::.inBlock id::k) st
     | .loop c=>zAg (M.n0 N0) H c st λst=>AT P f rs Q N0 M (.code c::.inLoop c::k) st
     | .exit id=>match exitTo id k with
       | some O=>W P sh f rs Q N0 M H n false O st
       | none=>False
     | .region id ops I=>match Z4 first H id with
       | some cut=>zA7 (M.n0 N0) cut st λst=>FR st λst=>AT P f rs Q N0 M (.code (.region id ops I)::k) st
       | none=>match I with
         | true=>match chk ops (Vv H id ops)with
           | true=>QN P sh (M.n0 N0) ops (Vv H id ops) [] st λst=>FR st λst=>W P sh f rs Q N0 M H n false k st
           | false=>False
         | false=>match Oi ops.size (Vv H id ops)with
           | true=>QN P sh (M.n0 N0) ops (Vv H id ops) [] st λst=>FR st λst=>W P sh f rs Q N0 M H n false k st
           | false=>False
     | _=>False
   | _=>False
theorem nok (M:Mode) w0:NOk (M.n0 w0.heap.size) w0:=λn I=>by
 cases M with
 | ord=>cases I;rfl
 | io=>cases I;rfl
 | df=>cases I;rfl
theorem JY (h:Rel av w0 e0 [] [] a w e st){N0}(I:NOk N0 w0){H c K}(hs:zAg N0 H c st K):∃ e' st',K st'/\Rel av w0 e0 [] [] a w e' st':=by
 unfold zAg at hs;split at hs
 ·split at hs
  ·obtain⟨e',st',J,O⟩:=JZ h I hs;rw[AZ]at J;exact⟨e',st',J,O⟩
  ·exact hs.elim
 ·exact hs.elim
theorem NG {c v}(h:opd st.sl c=.bool v):zBa st c v=st:=by
 cases c with
 | tmp t=>
   simp only[opd,oA]at h;cases I:st.sl[t]? with
   | none=>rw[I]at h;cases h
   | some p=>rw[I]at h;simp at h;subst h;exact LC I
 | _=>rfl
theorem Jw {rs}{Q:QT rs}{M f k}(h:Rel av w0 M.env0 [] [] a w e st)(J:k=[]\/∃ O,k=.code .ret::O)(hs:zAj P f rs Q w0.heap.size M st):R0 P f k (M.fin P f rs Q av w0) a w:=by
 unfold zAj at hs;cases I:Dfs.on with
 | some ds=>
   rw[I]at hs;cases M with
   | df E K=>
     have hd:a.defers=ds:=by rw[h.nd,I];rfl
     intro cs;rcases J with rfl | ⟨O,rfl⟩
     ·exact⟨.returned (.tuple a.tmps),w,_,⟨a,e,st,rfl,hs,h⟩,.one step_end,rfl,by unfold ZK;rw[I];exact⟨rfl,rfl,hd,rfl⟩⟩
     ·exact⟨.returned (.tuple a.tmps),w,_,⟨a,e,st,rfl,hs,h⟩,.one step_ret,rfl,by unfold ZK;rw[I];exact⟨rfl,rfl,hd,rfl⟩⟩
   | _=>exact hs.elim
 | none=>
 rw[I]at hs;cases M with
 | ord=>exact Rf I h J (nok .ord w0) hs
 | io E bx0=>exact Re I h J (nok .ord w0) hs
 | df=>exact hs.elim
theorem OE {sh f rs}{Q:QT rs}{N0 M H}(hm:P.follows .mixedOrders=true) :
  ∀(n:Nat) (first:Bool) (I:List Item) (st:St),W P sh f rs Q N0 M H n first I st->AT P f rs Q N0 M I st:=by
 intro n
 induction n with
 | zero=>intro first I st h;exact h.elim
 | succ n J=>
   intro first I st hs
   refine⟨λav w0 a w e hN h=>?_⟩;subst hN;cases I with
   | nil=>exact Jw h (.inl rfl) hs
   | cons it k=>
     cases it with
     | inBlock id=>exact xT (λcs=>step_inBlock) ((J _ _ _ hs).h av w0 a w e rfl h)
     | inLoop c=>obtain⟨e',st',U,Y⟩:=JY h (nok M w0) hs;exact xT (λcs=>step_inLoop) (U.h av w0 a w e' rfl Y)
     | code c=>
       cases c with
       | skip=>exact xT (λcs=>step_skip) ((J _ _ _ hs).h av w0 a w e rfl h)
       | label l=>exact xT (λcs=>step_label) ((J _ _ _ hs).h av w0 a w e rfl h)
       | ret=>exact Jw h (.inr ⟨_,rfl⟩) hs
       | seq x y=>exact xT (λcs=>step_seq) ((J _ _ _ hs).h av w0 a w e rfl h)
       | block id c=>exact xT (λcs=>step_block) ((J _ _ _ hs).h av w0 a w e rfl h)
       | loop c=>obtain⟨e',st',U,Y⟩:=JY h (nok M w0) hs;exact xT (λcs=>step_loop) (U.h av w0 a w e' rfl Y)
       | cond c x y=>
         simp only[W,Zj]at hs;split at hs
         ·rename_i v hv;have aa:a.eval c=.bool v:=by
           have:=(vn h (x:=c) aB).h.resolve_left (by rw[hv];simp)
           rw[this,hv];rfl
          rcases hs.spec with⟨rfl,hs⟩ | ⟨rfl,hs⟩
          ·rw[NG hv]at hs;exact xT (λcs=>step_cond aa) ((J _ _ _ hs).h av w0 a w e rfl h)
          ·rw[NG hv]at hs;exact xT (λcs=>step_cond aa) ((J _ _ _ hs).h av w0 a w e rfl h)
         ·exact hs.elim
       | exit id=>
         simp only[W]at hs;split at hs
         ·rename_i k' hk;exact xT (λcs=>step_exit hk) ((J _ _ _ hs).h av w0 a w e rfl h)
         ·exact hs.elim
       | region id ops ab=>
         simp only[W]at hs;split at hs
         ·obtain⟨e',st',U,Y⟩:=JZ h (nok M w0) hs;rw[AZ]at U;exact U.h av w0 a w e' rfl Y
         ·have key:∀ a w e st,FR st (λst=>W P sh f rs Q w0.heap.size M H n false k st)->Rel av w0 M.env0 [] [] a w e st->Exit.normal=.normal/\R0 P f k (M.fin P f rs Q av w0) a w:=λa w e st hf hr=>by rw[AZ]at hf;exact⟨rfl,(J _ _ _ hf).h av w0 a w e rfl hr⟩
          split at hs
          ·split at hs
           ·rename_i O;exact G1 (Rb (nok M w0) hm O h hs key)
           ·exact hs.elim
          ·split at hs
           ·rename_i O;exact G1 (Rc (nok M w0) O h hs key)
           ·exact hs.elim
       | _=>exact hs.elim
     | _=>exact hs.elim
def sR (id:Nat):Code->List Item->Option (List Item)
 | .seq x y,k=>match sR id x (.code y::k)with
   | some r=>some r
   | none=>sR id y k
 | .cond _ x y,k=>match sR id x k with
   | some r=>some r
   | none=>sR id y k
 | .block i c,k=>sR id c (.inBlock i::k)
 | .loop c,k=>match EB c with
   | some j=>match Nat.beq j id with
     | true=>some (.code c::.inLoop c::k)
     | false=>sR id c (.inLoop c::k)
   | none=>sR id c (.inLoop c::k)
 | _,_=>none
def ry (id:Nat):Code->List Item->Option (List Item)
 | .seq x y,k=>match ry id x (.code y::k)with
   | some r=>some r
   | none=>ry id y k
 | .cond _ x y,k=>match ry id x k with
   | some r=>some r
   | none=>ry id y k
 | .block i c,k=>ry id c (.inBlock i::k)
 | .loop c,k=>ry id c (.inLoop c::k)
 | .region j ops I,k=>match Nat.beq j id with
   | true=>some (.code (.region j ops I)::k)
   | false=>none
 | _,_=>none
def Wh (P:Program)(f:aL):Code:=match P.funcs[f]? with
 | some fn=>match fn.body with
   | some c=>c
   | none=>.skip
 | none=>.skip
def E1 (P:Program)(f:aL)(id:Nat):List Item:=match sR id (Wh P f) []with
 | some k=>k
 | none=>[]
def G9 (P:Program)(f:aL)(id:Nat):List Item:=match ry id (Wh P f) []with
 | some k=>k
 | none=>[]
end Go.Proofs.YtlaniepnglheoaaGreatDoor
namespace Go.Proofs.YtlaniepnglheoaaGreatDoor
open Go
variable {H:Hint} {N:Nat} {P:Program} {args:aN} {bx:aO} {f:aL}
instance instDfs:Dfs:=⟨none⟩
theorem JU {w fn c args R}(J:P.funcs[f]?=some fn)(hb:fn.body=some c)(h:R0 P f [.code c] R { tmps:=args++Array.replicate (fn.ntmps - args.size) undef,defers:=[] } w):Calls P f args w R:=by
 intro cs;have I:Frame.enter P f args .normal=(base f).at { tmps:=args++Array.replicate (fn.ntmps - args.size) undef,defers:=[] } [.code c]:=by simp[Frame.enter,Frame.at,J,hb,base]
 rw[I];exact h cs
def HV (n:Nat)(args:aN):aN:=args++List.replicate (n - args.length) .any
def Mi (P:Program)(sh:aL->List Sh)(f:aL)(rs:List Sh)(Q:QT rs)(N:Nat)(H:Hint)(I:Nat)(args:aN):Prop:=match P.funcs[f]? with
 | some fn=>match fn.body with
   | some c=>U1 N args (FR { sl:=HV fn.ntmps args,bx:=[],N:=N } λst=>W P sh f rs Q N .ord H I true [.code c] st)
   | none=>False
 | none=>False
theorem Xv {sh rs}{Q:QT rs}{ae}(hm:P.follows .mixedOrders=true)(hc:xt P f=true)(h:Mi P sh f rs Q N H ae args):ACalls P f rs args N Q:=by
 refine⟨hc,λav w0 hN ai O=>?_⟩;subst hN;unfold Mi at h;split at h
 rotate_left
 ·exact h.elim
 rename_i fn hf;split at h
 rotate_left
 ·exact h.elim
 rename_i c hb;have h:=uG (λp J=>by
  have ab:=(O p J).1;cases p<;>simp only[PV.Ok]at ab ⊢
  ·exact ab.1.lt
  ·exact ab.1.1.lt) h
 rw[AZ]at h;have hw:=OE hm _ _ _ _ h;refine JU hf hb (hw.h av w0 _ w0 [] rfl ?_);have U:∀(i:Nat) (p:PV),(HV fn.ntmps args)[i]?=some p->p=.any\/(p∈args/\args[i]?=some p):=λi p J=>by
  unfold HV at J;by_cases hi:i<args.length
  ·rw[oQ hi]at J;exact .inr ⟨oB J,J⟩
  ·rw[oU aA]at J;exact .inl (nZ (oB J))
 have aa:∀ k b,¬Lives [] [] ([]:aO) k b:=λk b ⟨_,_,B,h3,_⟩=>by simp at h3
 have ac:∀ b,za av [] [] ([]:aO) b->av b:=λb hb=>hb.elim id λ⟨k,I⟩=>absurd I (aa k b);exact {
  el:=rfl
  br:=λk B I _=>by simp at I
  bo:=λk B I _=>by simp at I
  bf:=λk B I _=>by simp at I
  inj:=λk j b I _=>absurd I (aa k b)
  ku:=.rfl
  size:=oC _
  old:=λ_ _ _=>rfl
  fz:=λb c t z hb hc=>by
   rcases hb with hb | hb
   ·have:=(oW.1 hc).1;omega
   ·exact absurd hb (by simp[Mode.env0])
  nd:=rfl
  sz:=by simp[HV]
  hN:=oC _
  hs:=λi p J _=>by
   rcases U i p J with Y | ⟨Y,h2⟩
   ·exact .inl Y
   ·right;have ah:=(oD.1 h2).1;have:i<args.toArray.size:=by simpa using ah
    simp[Array.getElem?_append,ah];rw[(oD.1 h2).2]
  so:=λi p J _=>by
   rcases U i p J with Y | ⟨Y,h2⟩
   ·subst Y;trivial
   ·exact PV.Ok.mono (λ_ _ _=>rfl) (oC _) (λb _=>ac b) p (O p Y).1
  sr:=λi p J _ k I=>by
   rcases U i p J with Y | ⟨Y,h2⟩
   ·subst Y;simp[PV.refs]at I
   ·rw[(O p Y).2]at I;simp at I
  own:=λk b I=>absurd I (aa k b)
  avl:=ai
  avn:=λk b I=>absurd I (aa k b)
  pin:=λk b hb=>by simp[St.pins]at hb
  pit:=λb T hb=>by cases hb }
def bytes (l:aI):aG:=⟨(l.map UInt8.ofNat).toArray⟩
def UI (f:Nat):List (Nat × List Sh)->List Sh
 | []=>[]
 | (g,s)::l=>match Nat.beq g f with
   | true=>s
   | false=>UI f l
theorem Wo {sh rs}{Q:QT rs}{I F}(J:P.follows .mixedOrders=true)(hc:xt P f=true)(O:F=Mi P sh f rs Q N H I args)(h:F):ACalls P f rs args N Q:=Xv J hc (O ▸ h)
theorem YA [Dfs]{P sh f rs}{Q:QT rs}{N0 M H J I st F}(U:P.follows .mixedOrders=true)(O:F=FR st λst=>W P sh f rs Q N0 M H J true I st)(h:F):AT P f rs Q N0 M I st:=OE U J true I st (by rw[AZ]at O;exact O ▸ h)
def noQ:QT []:=λ_=>False
theorem UM {av e e0}{pin:Option (List (Option Nat) × aI)}{Y w0}(hm:Mem av [] w0 e bx)(U:∀ p∈args,p.Ok w0 (za av [] e bx)/\∀ k∈p.refs,k<bx.length)(aa:Avl av w0 e0)(ab:∀ k b,Lives [] e bx k b->¬av b)(ac:∀ k b,Lives [] e bx k b->some b∈e0/\k<(St.pins ⟨HV Y args,bx,w0.heap.size,pin⟩).length)(ai:∀(b:Nat) (c:Array Value) (t:aK) (z:Nat × Nat),some b∈e0->w0.heap[b]?=some (.cells c t z)->Fz z)(ae:∀ k b,(St.pins ⟨HV Y args,bx,w0.heap.size,pin⟩)[k]?=some (some b)->e.at k=some b)(ah:∀ L T,pin=some (L,T)->∀ x∈T,some x∈e0):
  Rel av w0 e0 [] [] { tmps:=(args.map (PV.val e)).toArray++Array.replicate (Y - (args.map (PV.val e)).toArray.size) undef,defers:=[] } w0 e { sl:=HV Y args,bx:=bx,N:=w0.heap.size,pin:=pin }:=by
 have J:∀(i:Nat) (p:PV),(HV Y args)[i]?=some p->p=.any\/(p∈args/\args[i]?=some p):=λi p I=>by
  unfold HV at I;by_cases hi:i<args.length
  ·rw[oQ hi]at I;exact .inr ⟨oB I,I⟩
  ·rw[oU aA]at I;exact .inl (nZ (oB I))
 exact {
  toMem:=hm
  ku:=.rfl
  size:=oC _
  old:=λ_ _ _=>rfl
  fz:=λb c t z hb hc=>by
   rcases hb with hb | hb
   ·have:=(oW.1 hc).1;omega
   ·exact ai b c t z hb hc
  nd:=rfl
  sz:=by simp[HV]
  hN:=oC _
  hs:=λi p I _=>by
   rcases J i p I with O | ⟨O,h2⟩
   ·exact .inl O
   ·right;have aj:=(oD.1 h2).1;simp[Array.getElem?_append,aj];rw[(oD.1 h2).2]
  so:=λi p I _=>by
   rcases J i p I with O | ⟨O,h2⟩
   ·subst O;trivial
   ·exact(U p O).1
  sr:=λi p I _ k hk=>by
   rcases J i p I with O | ⟨O,h2⟩
   ·subst O;simp[PV.refs]at hk
   ·exact⟨aB,(U p O).2 k hk⟩
  own:=λk b hk=>.inr (ac k b hk)
  avl:=aa
  avn:=ab
  pin:=λk b hb=>⟨ae k b hb,aB⟩
  pit:=ah }
def Mh (P:Program)(sh:aL->List Sh)(f:aL)(full:List Sh)(Q:QT full)(N:Nat)(H:Hint)(I:Nat)(args:aN)(bx:aO)(E:Env):Prop:=match P.funcs[f]? with
 | some fn=>match fn.body with
   | some c=>match bx.all λB=>!Pv B with
     | true=>U1 N (args++IJ bx) (FR { sl:=HV fn.ntmps args,bx:=bx,N:=N,pin:=some (wa E 0 (bx.map xd),[]) } λst=>W P sh f full Q N (.io E (bx.map xd)) H I true [.code c] st)
     | false=>False
   | none=>False
 | none=>False
theorem SH bx E:∀ n,wa E n (bx.map xd)=wa E n bx:=by
 induction bx with
 | nil=>intro n;rfl
 | cons B bs I=>intro n;cases B<;>simp[wa,xd,I]
theorem Jr {E}:∀(bs:aO)(k j b:Nat),(wa E k bs)[j]?=some (some b)->b=(E.at (k+j)).getD 0/\∃ B,bs[j]?=some B/\((∃ cs,B=.var cs)\/∃ x n,B=.vd x n)
 | [],k,j,b,h=>by simp[wa]at h
 | B::bs,k,0,b,h=>by
   cases B<;>simp[wa]at h
   ·exact⟨by simp[h],_,rfl,.inl ⟨_,rfl⟩⟩
   ·exact⟨by simp[h],_,rfl,.inr ⟨_,_,rfl⟩⟩
 | B::bs,k,j+1,b,h=>by simp only[wa,nq]at h;obtain⟨I,J⟩:=Jr bs (k+1) j b h;exact⟨by rw[I,show k+1+j=k+(j+1) by omega],by simpa using J⟩
theorem Xw {sh full}{Q:QT full}{ae}(hm:P.follows .mixedOrders=true)(hc:xt P f=true)(O:∀ E,Mh P sh f full Q N H ae args bx E):BCalls P f full args bx N Q:=by
 refine⟨hc,λav w0 E hN aj I ah ac=>?_⟩;subst hN;have O:=O E;unfold Mh at O;split at O
 rotate_left
 ·exact O.elim
 rename_i fn hf;split at O
 rotate_left
 ·exact O.elim
 rename_i code hb;split at O
 rotate_left
 ·exact O.elim
 rename_i aa;simp only[ob,nM]at aa;have aa:∀ B∈bx,B≠.gone:=λB hB hc=>by have:=aa B hB;subst hc;simp[Pv]at this
 have O:=uG (λp hp=>by
  have:Y7 w0.heap.size p:=by
   rcases oM.1 hp with hp | hp
   ·exact SD (ac p hp).1
   ·exact Qr I rfl (λB hB=>hB) p hp
  cases p<;>first | exact this | trivial) O
 rw[AZ]at O;have ak:=OE hm _ _ _ _ O;refine JU hf hb (ak.h av w0 _ w0 E rfl (UM I ac aj ah (λk b hk=>?_) (λb c t z ai hc=>?_) (λk b hk=>?_) (λL T h=>by cases h;simp)))
 ·obtain⟨_,J,B,h2,_⟩:=hk;refine⟨?_,by simp only[St.pins,p9,nE];exact(oD.1 h2).1⟩;simp only[Mode.env0];unfold Env.at at J;rw[oA]at J;cases he:E[k]? with
  | none=>rw[he]at J;cases J
  | some u=>rw[he]at J;simp at J;subst J;exact oB he
 ·simp only[Mode.env0]at ai;obtain⟨k,hk⟩:=oS.1 ai;have al:E.at k=some b:=by simp[Env.at,oA,hk]
  have ao:k<bx.length:=by rw[<-I.el];exact(oD.1 hk).1
  have hB:bx[k]?=some bx[k]:=oH ao;have Y:=I.br k _ hB aB;have hg:=aa _ (oB hB);rw[al]at Y;cases ab:bx[k]with
  | var cs=>rw[ab]at Y;obtain⟨b',c',t',U,g2,_⟩:=Y;cases U;rw[g2]at hc;cases hc;exact fz0
  | vd x n=>rw[ab]at Y;obtain⟨b',c',t',U,g2,_⟩:=Y;cases U;rw[g2]at hc;cases hc;exact fz0
  | arr t0 z0 es n=>
    rw[ab]at Y;rcases Y with⟨U,_⟩ | ⟨b',c',U,g2,_⟩
    ·cases U
    ·cases U;rw[g2]at hc;cases hc;exact fz0
  | gone=>exact absurd ab hg
 ·simp only[St.pins,SH]at hk;obtain⟨J,B,h2,h3⟩:=Jr _ _ _ _ hk;rw[nI]at J;have Y:=I.br k _ h2 aB;rcases h3 with⟨cs,rfl⟩ | ⟨x,n,rfl⟩
  ·obtain⟨b',c',t',U,_⟩:=Y;rw[U]at J ⊢;simp at J;rw[J]
  ·obtain⟨b',c',t',U,_⟩:=Y;rw[U]at J ⊢;simp at J;rw[J]
theorem Su {sh full}{Q:QT full}{I}{F:Env->Prop}(J:P.follows .mixedOrders=true)(hc:xt P f=true)(O:∀ E,F E=Mh P sh f full Q N H I args bx E)(h:∀ E,F E):BCalls P f full args bx N Q:=Xw J hc λE=>O E ▸ h E
end Go.Proofs.YtlaniepnglheoaaGreatDoor
set_option maxRecDepth 100000
namespace Go.Proofs.YtlaniepnglheoaaGreatDoor
open Go Go.Proofs Go.Proofs.Tryz
variable {f:aL}
def sh:aL->List Sh:=λf=>UI f [(3,[.bool]),(4,[.bool]),(5,[.bool]),(6,[.str]),(7,[.str]),(8,[.str]),(9,[.str]),(10,[.bool]),(11,[.int .i64]),(12,[.str]),(13,[.ag 9,.bool]),(14,[.str]),(15,[.str]),(16,[.bool]),(17,[.ag 2,.bool]),(18,[.ag 11]),(19,[.str]),(20,[.str]),(21,[.str]),(22,[.str]),(23,[.ag 9,.bool]),(24,[.ag 2,.bool]),(25,[.bool]),(26,[.ag 11]),(27,[.str]),(28,[.str]),(29,[.str]),(30,[.str]),(31,[.row 0 1000007,.int .i64]),(32,[.cu]),(33,[.row 0 1000007,.bool]),(34,[.str]),(35,[.row 0 1000007,.ag 9]),(36,[.row 0 1000007,.str]),(37,[.row 0 1000007,.ag 9]),(38,[.row 0 1000007,.ag 9]),(39,[.bool]),(40,[.bool]),(41,[.bool]),(42,[.bool]),(43,[.ag 2,.bool]),(44,[.bool]),(45,[.pk,.int .i64,.str,.str,.int .i64,.dc,.dc,.dc,.dc,.row 35 9]),(46,[.int .i64]),(47,[.bool]),(48,[.ag 9,.int .i64]),(49,[.bool]),(50,[.str]),(51,[.bool]),(52,[.str]),(53,[.row 0 1000007,.ag 9,.bool]),(54,[.str]),(55,[.str]),(56,[.bool]),(57,[.bool]),(58,[.ag 2]),(59,[.bool]),(60,[.ag 11]),(61,[]),(62,[.bool]),(63,[.str]),(64,[.bool]),(65,[.str]),(66,[.str]),(67,[.row 0 1000007,.int .i64]),(68,[.row 0 1000007,.ag 9]),(69,[.ag 2]),(70,[.ag 2]),(71,[.ag 2]),(72,[.ag 2]),(73,[.row 0 1000007,.ag 9]),(74,[.row 0 1000007,.str]),(75,[.row 0 1000007,.ag 9]),(76,[.row 0 1000007,.int .i64]),(77,[.ag 9]),(78,[.row 0 1000007,.ag 2]),(79,[.row 0 1000007,.bool]),(80,[.ag 9]),(81,[.row 0 1000007]),(82,[.row 0 1000007,.ag 9]),(83,[.row 0 1000007,.ag 9]),(84,[.row 0 1000007,.str]),(85,[.int .i64]),(86,[.int .i64]),(87,[.bool]),(88,[.bool]),(89,[.ag 2,.bool]),(90,[.ag 2]),(91,[.bool]),(92,[.ag 9,.int .i64]),(93,[.ag 9,.int .i64]),(94,[.ag 9,.int .i64,.bool]),(95,[.ag 9]),(96,[.ag 9,.int .i64]),(97,[.int .i64]),(98,[.int .i64]),(99,[.bool]),(100,[.bool]),(101,[.int .i64]),(102,[.str]),(103,[]),(104,[.row 0 1000007,.bool]),(105,[.ag 9]),(106,[.row 0 1000007,.ag 9,.bool]),(107,[.row 0 1000007,.ag 9,.bool]),(108,[.row 0 1000007,.str]),(109,[.int .i64,.bool]),(110,[.ag 9]),(111,[.ag 9]),(112,[.str]),(113,[.bool]),(114,[.str]),(115,[.bool]),(116,[.bool]),(117,[.bool]),(118,[.bool]),(119,[.bool]),(120,[.ag 2]),(121,[.int .i64]),(122,[.int .i64]),(123,[.pk,.int .i64,.str,.str,.int .i64,.dc,.dc,.dc,.dc,.row 35 9]),(124,[.bool]),(125,[.ag 9,.int .i64]),(126,[.int .i64]),(127,[.int .i64]),(128,[.bool]),(129,[.bool]),(130,[.bool]),(131,[.bool]),(132,[.str]),(133,[.str]),(134,[.row 0 1000007,.ag 9,.bool]),(135,[.row 0 1000007,.ag 9]),(136,[.row 0 1000007,.ag 9]),(137,[.row 0 1000007,.ag 9]),(138,[.ag 9]),(139,[.sl 4]),(140,[.bool]),(141,[.ag 9]),(142,[.row 0 1000007,.ag 9]),(143,[.row 0 1000007,.ag 2]),(144,[.row 0 1000007,.ag 2]),(145,[.row 0 1000007,.ag 9]),(146,[.row 0 1000007,.ag 9]),(147,[.row 0 1000007,.ag 9]),(148,[.int .i64,.bool]),(149,[.ag 9]),(150,[.int .i64]),(151,[.int .i64]),(152,[.int .i64]),(153,[.ag 2,.bool]),(154,[.ag 2,.bool]),(155,[.ag 2,.bool]),(156,[.ag 9,.int .i64]),(157,[.int .i64,.bool]),(158,[.ag 9]),(159,[.bool]),(160,[.bool]),(161,[.int .i64]),(162,[.str]),(163,[.str,.bool]),(164,[.row 0 1000007,.sl 9,.bool]),(165,[.int .i64]),(166,[.row 0 1000007,.ag 9,.bool]),(167,[.row 0 1000007,.ag 9,.bool]),(168,[.int .i64,.bool]),(169,[.str]),(170,[.bool]),(171,[.int .i64]),(172,[.int .i32,.int .i64]),(173,[.int .i64]),(174,[.bool]),(175,[.int .i64]),(176,[.ag 2]),(177,[.int .i64]),(178,[.ag 2]),(179,[.ag 2]),(180,[.ag 2]),(181,[.ag 2]),(182,[.bool]),(183,[.sl 4]),(184,[.ag 2]),(185,[.ag 2]),(186,[.pk,.int .i64,.str,.str,.int .i64,.dc,.dc,.dc,.dc,.row 35 9]),(187,[.bool]),(188,[.ag 9,.int .i64,.bool]),(189,[.pk,.int .i64,.str,.str,.int .i64,.dc,.dc,.dc,.dc,.bk 1]),(190,[.int .i64]),(191,[.ag 9,.int .i64]),(192,[.bool]),(193,[.bool]),(194,[.bool]),(195,[.bool]),(196,[.bool]),(197,[.str]),(198,[.str]),(199,[.bool]),(200,[.row 0 1000007,.ag 2]),(201,[.ag 9]),(202,[.int .i64]),(203,[.sl 4]),(204,[.ag 9]),(205,[.int .i64,.bool]),(206,[.ag 2,.bool]),(207,[.int .i64]),(208,[.int .i64]),(209,[.sl 0,.int .i64]),(210,[.int .i64]),(211,[.sl 0]),(212,[.pk,.int .i64,.str,.str,.int .i64,.dc,.dc,.dc,.dc,.row 35 9]),(213,[.str,.bool]),(214,[.int .i64]),(215,[.row 0 1000007,.ag 2,.bool]),(217,[.int .i64]),(218,[.bool]),(219,[.bool]),(220,[.int .i32,.int .i64]),(221,[.int .i32,.int .i64]),(222,[.int .i64]),(223,[.bool]),(224,[.row 94 4]),(225,[.ag 2]),(226,[.ag 2]),(227,[.sl 4]),(228,[.bool]),(229,[.bool]),(230,[.ag 9,.bool]),(231,[.ag 9,.bool]),(232,[.ag 9]),(233,[.ag 9,.bool]),(234,[.int .i64]),(235,[.int .i64]),(236,[.bool]),(237,[]),(239,[.str]),(240,[.str]),(241,[.int .i64]),(242,[]),(243,[.sl 0,.str]),(244,[.sl 0]),(245,[.row 9 0]),(246,[.str]),(247,[.bool]),(250,[.bool]),(251,[.bool]),(252,[.int .i64,.bool]),(253,[.bool]),(254,[.sl 0,.int .i64]),(255,[.ag 9]),(256,[.row 9 0]),(257,[.pk,.int .i64,.str,.str,.int .i64,.dc,.dc,.dc,.dc,.row 35 9]),(258,[.ag 9]),(259,[]),(260,[]),(261,[.int .i64]),(262,[.int .i64]),(263,[.int .i64]),(264,[.bool]),(265,[.int .i64]),(271,[.int .i64]),(272,[.int .i64]),(273,[.row 0 1000007,.bk 0]),(274,[.bool]),(275,[.row 9 0]),(276,[.str]),(277,[.sl 0]),(280,[.int .i64]),(281,[.int .i64]),(283,[.str]),(285,[.int .i64]),(286,[.str]),(287,[.row 9 0]),(288,[.int .u8]),(289,[.bool]),(324,[])]
theorem mixed:prog.follows .mixedOrders=true:=by kernel_rfl
theorem eE {rs}{Q:QT rs}{N} H{args F}(h:F)(hc:xt prog f=true:=by kernel_rfl)(I:F=Mi prog sh f rs Q N H 400 args:=by kernel_rfl):ACalls prog f rs args N Q:=Wo mixed hc I h
theorem bE {full}{Q:QT full}{N} H{args bx}{F:Env->Prop}(h:∀ E,F E)(hc:xt prog f=true:=by kernel_rfl)(I:∀ E,F E=Mh prog sh f full Q N H 400 args bx E:=by intro E;kernel_rfl):BCalls prog f full args bx N Q:=Su mixed hc I h
theorem hE {rs}{Q:QT rs}{N0 M} H{I st F}(h:F)(J:F=FR st λst=>W prog sh f rs Q N0 M H 400 true I st:=by kernel_rfl):AT prog f rs Q N0 M I st:=YA mixed J h
abbrev D.j (n:Int):D:=.lit (.int .i64 n)
abbrev D.t (s:aG):D:=.lit (.string s)
abbrev PV.j (n:Int):PV:=.int .i64 n
abbrev Sh.i:Sh:=.int .i64
abbrev b0:aG:=bytes []
def H0:Hint:=⟨[],[],[]⟩
abbrev w2 (P X:Prop):Prop:=P/\P/\X
abbrev w3 (P X:Prop):Prop:=P/\P/\P/\X
abbrev w4 (P X:Prop):Prop:=P/\P/\P/\P/\X
abbrev w5 (P X:Prop):Prop:=P/\P/\P/\P/\P/\X
abbrev uP (N:Nat)(R:Nat->Prop):Prop:=∀ N1,N<=N1->R N1
abbrev cv (a:aH)(e:aM)(c:Nat)(n m:Int):Bx:=.var [.sv a 0 e c,.int .i64 n,.int .i64 m]
abbrev rv (s:aG)(n:Int)(b:Bool):Bx:=.var [.str s,.int .i64 n,.bool b]
abbrev kB (f:aL)(I:aN)(N:Nat)(R:Bool->Nat->Prop):Prop:=∀ N1,N<=N1->ACalls prog f [.bool] I N1 λb N2=>N1<=N2->R b N2
abbrev kI (f:aL)(I:aN)(N:Nat)(R:Int->Nat->Prop):Prop:=∀ N1,N<=N1->ACalls prog f [.int .i64] I N1 λb N2=>N1<=N2->R b N2
abbrev kS (f:aL)(I:aN)(N:Nat)(R:aG->Nat->Prop):Prop:=∀ N1,N<=N1->ACalls prog f [.str] I N1 λb N2=>N1<=N2->R b N2
abbrev kA (z:Nat)(f:aL)(I:aN)(N:Nat)(R:D->Nat->Prop):Prop:=∀ N1,N<=N1->ACalls prog f [.ag z] I N1 λx N2=>N1<=N2->Bel N2 x->R x N2
abbrev kL (z:Nat)(f:aL)(I:aN)(N:Nat)(R:aH->aM->Nat->Nat->Prop):Prop:=∀ N1,N<=N1->ACalls prog f [.sl z] I N1 λa e c N2=>N1<=N2->Bel N2 (D.sl a z e c)->R a e c N2
abbrev kAB (z:Nat)(f:aL)(I:aN)(N:Nat)(R:D->Bool->Nat->Prop):Prop:=∀ N1,N<=N1->ACalls prog f [.ag z,.bool] I N1 λx b N2=>N1<=N2->Bel N2 x->R x b N2
abbrev kIB (f:aL)(I:aN)(N:Nat)(R:Int->Bool->Nat->Prop):Prop:=∀ N1,N<=N1->ACalls prog f [.int .i64,.bool] I N1 λx b N2=>N1<=N2->R x b N2
abbrev cB (f:aL)(I:aN)(a:aH)(e:aM)(c:Nat)(n m:Int)(N:Nat)(R:Bool->aH->aM->Nat->Int->Int->Nat->Prop):Prop:=∀ N1,N<=N1->BCalls prog f [.bool,.sl 0,.int .i64,.int .i64] (.pb 0 0 0 0::I) [cv a e c n m] N1 λx a e c n m N2=>N1<=N2->Bel N2 (D.sl a 0 e c)->R x a e c n m N2
abbrev cI (f:aL)(I:aN)(a:aH)(e:aM)(c:Nat)(n m:Int)(N:Nat)(R:Int->aH->aM->Nat->Int->Int->Nat->Prop):Prop:=∀ N1,N<=N1->BCalls prog f [.int .i64,.sl 0,.int .i64,.int .i64] (.pb 0 0 0 0::I) [cv a e c n m] N1 λx a e c n m N2=>N1<=N2->Bel N2 (D.sl a 0 e c)->R x a e c n m N2
abbrev cA (z:Nat)(f:aL)(I:aN)(a:aH)(e:aM)(c:Nat)(n m:Int)(N:Nat)(R:D->aH->aM->Nat->Int->Int->Nat->Prop):Prop:=∀ N1,N<=N1->BCalls prog f [.ag z,.sl 0,.int .i64,.int .i64] (.pb 0 0 0 0::I) [cv a e c n m] N1 λx a e c n m N2=>N1<=N2->Bel N2 x->Bel N2 (D.sl a 0 e c)->R x a e c n m N2
abbrev cP (ls:aM)(f:aL)(t:aK)(k:Nat)(a:aH)(e:aM)(c:Nat)(n m:Int)(N:Nat)(R:aG->aH->aM->Nat->Int->Int->aH->aM->Nat->Nat->Prop):Prop:=∀ N1,N<=N1->BCalls prog f [.str,.sl 0,.int .i64,.int .i64,.sl 0] [.pb 0 0 0 0,.sb 1 0 0 k k] [cv a e c n m,.arr t 0 ls k] N1 λx a e c n m a2 I c2 N2=>N1<=N2->Bel N2 (D.sl a 0 e c)->Bel N2 (D.sl a2 0 I c2)->R x a e c n m a2 I c2 N2
abbrev rB (f:aL)(I:aN)(s:aG)(n:Int)(b:Bool)(N:Nat)(R:Bool->aG->Int->Bool->Nat->Prop):Prop:=∀ N1,N<=N1->BCalls prog f [.bool,.str,.int .i64,.bool] (.pb 0 0 0 0::I) [rv s n b] N1 λx s n b N2=>N1<=N2->R x s n b N2
abbrev rS (f:aL)(I:aN)(s:aG)(n:Int)(b:Bool)(N:Nat)(R:aG->aG->Int->Bool->Nat->Prop):Prop:=∀ N1,N<=N1->BCalls prog f [.str,.str,.int .i64,.bool] (.pb 0 0 0 0::I) [rv s n b] N1 λx s n b N2=>N1<=N2->R x s n b N2
abbrev rU (f:aL)(I:aN)(s:aG)(n:Int)(b:Bool)(N:Nat)(R:aG->Int->Bool->Nat->Prop):Prop:=∀ N1,N<=N1->BCalls prog f [.str,.int .i64,.bool] (.pb 0 0 0 0::I) [rv s n b] N1 λs n b N2=>N1<=N2->R s n b N2
abbrev rA (z:Nat)(f:aL)(I:aN)(s:aG)(n:Int)(b:Bool)(N:Nat)(R:D->aG->Int->Bool->Nat->Prop):Prop:=∀ N1,N<=N1->BCalls prog f [.ag z,.str,.int .i64,.bool] (.pb 0 0 0 0::I) [rv s n b] N1 λx s n b N2=>N1<=N2->Bel N2 x->R x s n b N2
abbrev jL (k:Int)(l:aM):Prop:=0<=k/\k<(l.length:Int)
abbrev jD:D:=default
abbrev jW:IntKind:=IntKind.i64
abbrev jE (a b:aG):Bool:=a.toList==b.toList
abbrev jC (f:aL)(I:aN)(N:Nat){rs:List Sh}(Q:QT rs):Prop:=ACalls prog f rs I N Q
abbrev jT (f:aL)(k:Nat){rs:List Sh}(Q:QT rs)(N0:Nat)(s:aN)(b:aO)(N:Nat):Prop:=AT prog f rs Q N0 .ord (E1 prog f k) ⟨s,b,N,none⟩
abbrev jO (f:aL)(k:Nat)(E:Env){rs:List Sh}(Q:QT rs)(N0:Nat)(s:aN)(b:aO)(N:Nat):Prop:=AT prog f rs Q N0 (.io E [.var [.sv none 0 [] 0,.int .i64 0,.int .i64 0]]) (E1 prog f k) ⟨s,b,N,some (wa E 0 [.var [.sv none 0 [] 0,.int .i64 0,.int .i64 0]],[])⟩
abbrev jP (f:aL)(k:Nat)(E:Env){rs:List Sh}(Q:QT rs)(N0:Nat)(s:aN)(b:aO)(N:Nat):Prop:=AT prog f rs Q N0 (.io E [.var [.sv none 0 [] 0,.int .i64 0,.int .i64 0]]) (G9 prog f k) ⟨s,b,N,some (wa E 0 [.var [.sv none 0 [] 0,.int .i64 0,.int .i64 0]],[])⟩
abbrev jV (a:Int)(b c:aG)(d e:Int)(f:aH)(g:aM)(h:Nat)(i:Int)(j:aH)(k:aM)(l:Nat)(m:aH)(n:aM)(o:Nat):Bx:=.var [.int .i64 a,.str b,.str c,.int .i64 d,.int .i64 e,.sv f 2 g h,.int .i64 i,.sv j 2 k l,.sv m 9 n o]
abbrev jN:D:=D.sl none 2 [] 0
abbrev jX (n:Nat):Prop:=n<=9223372036854775807
abbrev jB (f:aL)(I:aN)(b:aO)(N:Nat){rs:List Sh}(Q:QT rs):Prop:=BCalls prog f rs I b N Q
abbrev wZ (E:Env):Prop:=yg E [.var [.sv none 0 [] 0,.int .i64 0,.int .i64 0]]
abbrev u9 (E:Env):Prop:=yg E [.var [.str (bytes []),.int .i64 0,.bool false]]
end Go.Proofs.YtlaniepnglheoaaGreatDoor
