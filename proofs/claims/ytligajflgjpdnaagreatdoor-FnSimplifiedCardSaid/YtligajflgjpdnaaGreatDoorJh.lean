/- The walker: what a function's code comes to, as a formula on ghost values. -/
import Derived.Test.YtligajflgjpdnaaGreatDoorJq
import Derived.Test.YtligajflgjpdnaaGreatDoorChecked
set_option linter.unusedVariables false
set_option linter.unusedSimpArgs false
namespace Go.Proofs.YtligajflgjpdnaaGreatDoor
open Go
variable {av:Nat->Prop} {P:Program} {w0 w w':World} {e0 e:Env} {pS pS' pB pB':List Nat} {a:Act} {st st':St}
def base (f:FuncId):Frame:={ (default:Frame)with fn:=f,kind:=.normal }
def RH (P:Program)(f:FuncId)(k:List Item)(R:Ending->World->Prop)(a:Act)(w:World):Prop:=
 ∀ cs,∃ e w' fr,R e w'/\Comes P (lone ((base f).at a k) cs w) (lone fr cs w') e/\fr.fn=f/\fr.leaving P w' e
theorem ym {f:FuncId}{k I:List Item}{R:Ending->World->Prop}{J:Act}(hs:∀ cs,step P (lone ((base f).at a k) cs w)=.next (lone ((base f).at J I) cs w'))(h:RH P f I R J w'):RH P f k R a w:=
 λcs=>let⟨e,w2,fr,O,U,Y⟩:=h cs;⟨e,w2,fr,O,.of_steps (.one (hs cs)) U,Y⟩
theorem CJ {f:FuncId}{c:Code}{k:List Item}{R:Ending->World->Prop}(h:c.wp P (λex J w'=>ex=.normal/\RH P f k R J w') a w):RH P f (.code c::k) R a w:=λcs=>by obtain⟨ex,J,w',⟨rfl,O⟩,I⟩:=h (base f) k cs;obtain⟨e,w2,fr,U,Y,h3⟩:=O cs;exact⟨e,w2,fr,U,.of_steps I Y,h3⟩
theorem Jf {f:FuncId}{fn:Func}{k:List Item}{R:Ending->World->Prop}(Y:k=[]\/∃ I,k=.code .ret::I)(J:P.funcs[f]?=some fn)(hd:a.defers=[]){v:Value}(O:(results fn a.tmps).run P w=.ok v w)(U:R (.returned v) w):RH P f k R a w:=λcs=>by
 rcases Y with rfl | ⟨I,rfl⟩
 ·exact⟨.returned v,w,_,U,.one step_end,rfl,rfl,hd,rfl,fn,J,O⟩
 ·exact⟨.returned v,w,_,U,.one step_ret,rfl,rfl,hd,rfl,fn,J,O⟩
theorem Hm {f:FuncId} {fn:Func} {c:Code} {args:Array Value} {R:Ending->World->Prop} (J:P.funcs[f]?=some fn) (O:fn.body=some c)
  (h:RH P f [.code c] R { tmps:=args++Array.replicate (fn.ntmps - args.size) undef,defers:=[] } w):Calls P f args w R:=by
 intro cs;have I:Frame.enter P f args .normal=(base f).at { tmps:=args++Array.replicate (fn.ntmps - args.size) undef,defers:=[] } [.code c]:=by simp[Frame.enter,Frame.at,J,O,base]
 rw[I];exact h cs
def ZQ:List PV->Option (Option Addr × List D × Nat × Int × Int)
 | [.sv a z es c,.int k n,.int I m]=>match decide (z=0/\k=.i64/\I=.i64)with
   | true=>some (a,es,c,n,m)
   | false=>none
 | _=>none
theorem WR {cs:List PV}{a:Option Addr}{es:List D}{c:Nat}{n m:Int}(h:ZQ cs=some (a,es,c,n,m)):cs=[.sv a 0 es c,.int .i64 n,.int .i64 m]:=by
 unfold ZQ at h;split at h
 ·split at h
  ·rename_i hd;simp at hd h;obtain⟨rfl,rfl,rfl⟩:=hd;obtain⟨rfl,rfl,rfl,rfl,rfl⟩:=h;rfl
  ·cases h
 ·cases h
def uZ (st:St):(l:List Sh)->QT l->List Nat->List PV->Prop
 | [],Q,_,ps=>match ps with
   | []=>∀ N,st.N<=N->Q N
   | _=>False
 | .int k::l,Q,us,ps=>match ps with
   | .int J n::ps=>match decide (k=J)with
     | true=>uZ st l (Q n) us ps
     | false=>False
   | _=>False
 | .bool::l,Q,us,ps=>match ps with
   | .bool v::ps=>uZ st l (Q v) us ps
   | _=>False
 | .str::l,Q,us,ps=>match ps with
   | .str v::ps=>uZ st l (Q v) us ps
   | _=>False
 | .sl z::l,Q,us,ps=>match ps with
   | .sv a z' es c::ps=>match decide (z=z')with
     | true=>uZ st l (Q a es c) us ps
     | false=>False
   | _=>False
 | .ag n::l,Q,us,ps=>match ps with
   | p :: ps=>match Md p with
     | .dg O x=>match decide (n=O)with
       | true=>uZ st l (Q x) us ps
       | false=>False
     | _=>False
   | _=>False
 | .row t z::l,Q,us,ps=>match ps with
   | .sb k z' lo n c::ps=>match st.bx[k]? with
     | some (.arr t' I es U)=>match decide (t'=t)&&decide (z'=z)&&decide (I=z)&&decide (lo=0)&&!us.contains k with
       | true=>(n=es.length/\c=U)/\uZ st l (Q es c) (k::us) ps
       | false=>False
     | _=>False
   | .sv none _ [] 0::ps=>uZ st l (Q [] 0) us ps
   | _=>False
 | .pk::l,Q,us,ps=>match U4 l with
   | true=>uZ st l Q us ps
   | false=>False
 | .dc::l,Q,us,ps=>match ps with
   | p::ps=>match pe p with
     | some x=>uZ st l (Q x) us ps
     | none=>False
   | _=>False
 | .bk j::l,Q,us,ps=>match ps with
   | p::ps=>match pe p with
     | some x=>uZ st l (Q x) us ps
     | none=>False
   | _=>False
 | .cu :: l,Q,us,ps=>match ps with
   | .pb k z i o::ps=>match st.bx[k]?,decide (z=0/\i=0/\o=0)&&!us.contains k with
     | some (.var cs),true=>match ZQ cs with
       | some (a,es,c,n,m)=>uZ st l (Q a es c n m) (k::us) ps
       | none=>False
     | _,_=>False
   | _=>False
abbrev Sel:=List (Option Nat × Bx)
def Sel.rows (s:Sel):List Bx:=s.map (·.2)
def Sel.env (e:Env)(s:Sel):Env:=s.map λx=>x.1.bind e.at
structure SelOk (st:St) (us:List Nat) (s:Sel):Prop where
 at_:∀ x∈s,(x.1=none/\∃ t z,x.2=.arr t z [] 0)\/∃ k,x.1=some k/\st.bx[k]?=some x.2/\x.2.row
 nd:(s.filterMap (·.1)).Nodup
 un:∀ k∈s.filterMap (·.1),k∉us
def LV:PV->Bool
 | .int ..=>true
 | .bool ..=>true
 | .str ..=>true
 | .sv ..=>true
 | .dg ..=>true
 | _=>false
def ZI:PV->Bool
 | .sb ..=>true
 | .dc ..=>true
 | _=>false
def Zy (w:World)(e:Env)(live:Nat->Prop)(E:Env)(p q:PV):Prop:=p.val e=q.val1 E/\(p.Ok w live->q.Ok w live)/\p≠.any/\(LV p=true->q=p\/ZI q=true)
theorem zk (h:Rel av w0 e0 [] [] a w e st):∀(l:List Sh) (Q:QT l) (us:List Nat) (ps:List PV) (b:Nat),uZ st l Q us ps->(∀ p∈ps,p.Ok w (za av [] e st.bx)\/LV p=true) ->
  ∃ qs s,QT.app l Q b qs (Sel.rows s) w.heap.size/\SelOk st us s/\qs.length=ps.length /\
    ∀(E:Env),E.length=b->∀(i:Nat) (p q:PV),ps[i]?=some p->qs[i]?=some q->Zy w e (za av [] e st.bx) (E++s.env e) p q
 | [],Q,us,ps,b,hs,_=>by
   cases ps with
   | nil=>exact⟨[],[],hs _ h.hN,⟨by simp,by simp,by simp⟩,rfl,by simp⟩
   | cons=>exact hs.elim
 | .int k::l,Q,us,ps,b,hs,J=>by
   cases ps with
   | nil=>exact hs.elim
   | cons p ps=>
     cases p<;>simp only[uZ]at hs<;>try exact hs.elim
     rename_i k' n;cases hk:decide (k=k')with
     | true=>
       rw[hk]at hs;obtain⟨qs,s,Y,U,h3,h4⟩:=zk h l _ us ps b hs (λp I=>J p (by simp[I]));refine⟨.int k n::qs,s,⟨rfl,Y⟩,U,by simp[h3],λE hE i p q I O=>?_⟩;cases i with
       | zero=>simp at I O hk;subst I;subst O;subst hk;exact⟨rfl,id,by simp,λ_=>.inl rfl⟩
       | succ i=>exact h4 E hE i p q (by simpa using I) (by simpa using O)
     | false=>rw[hk]at hs;exact hs.elim
 | .bool::l,Q,us,ps,b,hs,J=>by
   cases ps with
   | nil=>exact hs.elim
   | cons p ps=>
     cases p<;>simp only[uZ]at hs<;>try exact hs.elim
     rename_i n;obtain⟨qs,s,Y,U,h3,h4⟩:=zk h l _ us ps b hs (λp I=>J p (by simp[I]));refine⟨.bool n::qs,s,Y,U,by simp[h3],λE hE i p q I O=>?_⟩;cases i with
     | zero=>simp at I O;subst I;subst O;exact⟨rfl,id,by simp,λ_=>.inl rfl⟩
     | succ i=>exact h4 E hE i p q (by simpa using I) (by simpa using O)
 | .str::l,Q,us,ps,b,hs,J=>by
   cases ps with
   | nil=>exact hs.elim
   | cons p ps=>
     cases p<;>simp only[uZ]at hs<;>try exact hs.elim
     rename_i n;obtain⟨qs,s,Y,U,h3,h4⟩:=zk h l _ us ps b hs (λp I=>J p (by simp[I]));refine⟨.str n::qs,s,Y,U,by simp[h3],λE hE i p q I O=>?_⟩;cases i with
     | zero=>simp at I O;subst I;subst O;exact⟨rfl,id,by simp,λ_=>.inl rfl⟩
     | succ i=>exact h4 E hE i p q (by simpa using I) (by simpa using O)
 | .sl z::l,Q,us,ps,b,hs,J=>by
   cases ps with
   | nil=>exact hs.elim
   | cons p ps=>
     cases p<;>simp only[uZ]at hs<;>try exact hs.elim
     rename_i ad z' es c;cases hz:decide (z=z')with
     | true=>
       rw[hz]at hs;simp at hz;subst hz;obtain⟨qs,s,Y,U,h3,h4⟩:=zk h l _ us ps b hs (λp I=>J p (by simp[I]));refine⟨.sv ad z es c::qs,s,⟨rfl,Y⟩,U,by simp[h3],λE hE i p q I O=>?_⟩;cases i with
       | zero=>simp at I O;subst I;subst O;exact⟨rfl,id,by simp,λ_=>.inl rfl⟩
       | succ i=>exact h4 E hE i p q (by simpa using I) (by simpa using O)
     | false=>rw[hz]at hs;exact hs.elim
 | .ag n::l,Q,us,ps,b,hs,J=>by
   cases ps with
   | nil=>exact hs.elim
   | cons p ps=>
     simp only[uZ]at hs;split at hs
     rotate_left
     ·exact hs.elim
     rename_i n' x ab;split at hs
     rotate_left
     ·exact hs.elim
     rename_i hz;simp at hz;subst hz;obtain⟨qs,s,Y,U,h3,h4⟩:=zk h l _ us ps b hs (λp I=>J p (by simp[I]));refine⟨.dg n x::qs,s,⟨rfl,Y⟩,U,by simp[h3],λE hE i r q I O=>?_⟩;cases i with
     | zero=>
       simp at I O;subst I;subst O;rcases J p (by simp)with aa | hdx
       rotate_left
       ·cases p<;>simp[LV]at hdx<;>simp[Md]at ab
        rw[ab.1,ab.2];exact⟨rfl,id,by simp,λ_=>.inl rfl⟩
       have ak:=H5 (e:=e) aa;rw[ab]at ak;rcases ak with h5 | ⟨h8,h6,h7,_⟩
       ·cases h5
       ·refine⟨h6,h7,h8,λhx=>.inl ?_⟩;cases p<;>simp[LV]at hx<;>simp[Md]at ab
        rw[ab.1,ab.2]
     | succ i=>exact h4 E hE i r q (by simpa using I) (by simpa using O)
 | .row t z::l,Q,us,ps,b,hs,J=>by
   cases ps with
   | nil=>exact hs.elim
   | cons p ps=>
     simp only[uZ]at hs;split at hs
     ·rename_i k z' lo n c al ac;cases ac;split at hs
      ·rename_i t' ah es c' hk;split at hs
       rotate_left
       ·exact hs.elim
       rename_i hc;simp only[oG,o9,nc]at hc;obtain⟨⟨⟨⟨am,ao⟩,aq⟩,au⟩,ai⟩:=hc;subst am;subst ao;subst aq;subst au;obtain⟨⟨rfl,rfl⟩,hs⟩:=hs;obtain⟨qs,s,Y,U,h3,h4⟩:=zk h l _ (k::us) ps (b+1) hs (λp I=>J p (by simp[I]));refine⟨.sb b ah 0 es.length c::qs,(some k,.arr t' ah es c)::s,⟨⟨rfl,rfl,rfl,rfl,rfl,rfl,rfl⟩,Y⟩,⟨λx hx=>?_,?_,λj hj=>?_⟩,by simp[h3],λE hE i r q I O=>?_⟩
       ·rcases oF.1 hx with rfl | hx
        ·exact .inr ⟨k,rfl,hk,trivial⟩
        ·exact U.at_ x hx
       ·simp only[mB];exact mA.2 ⟨λhc=>U.un k hc (by simp),U.nd⟩
       ·simp only[mB]at hj;rcases oF.1 hj with rfl | hj
        ·intro hc;simp[hc]at ai
        ·exact λhc=>U.un j hj (by simp[hc])
       ·have ae:Env.at (E++Sel.env e ((some k,Bx.arr t' ah es c)::s)) b=e.at k:=by simp[Sel.env,Env.at,oA,<-hE]
        cases i with
        | zero=>simp at I O;subst I;subst O;refine⟨?_,id,by simp,λ_=>.inr rfl⟩;simp only[PV.val,PV.val1,PV.cv,ae]
        | succ i=>
          have:=h4 (E++[e.at k]) (by simp[hE]) i r q (by simpa using I) (by simpa using O)
          simpa [Sel.env]using this
      ·exact hs.elim
     ·rename_i zz al ac;cases ac;obtain⟨qs,s,Y,U,h3,h4⟩:=zk h l _ us ps (b+1) hs (λp I=>J p (by simp[I]));refine⟨.sb b z 0 0 0::qs,(none,.arr t z [] 0)::s,⟨⟨rfl,rfl,rfl,rfl,rfl,rfl,rfl⟩,Y⟩,⟨λx hx=>?_,?_,λj hj=>?_⟩,by simp[h3],λE hE i r q I O=>?_⟩
      ·rcases oF.1 hx with rfl | hx
       ·exact .inl ⟨rfl,t,z,rfl⟩
       ·exact U.at_ x hx
      ·simpa using U.nd
      ·exact U.un j (by simpa using hj)
      ·have ae:Env.at (E++Sel.env e (((none:Option Nat),Bx.arr t z [] 0)::s)) b=none:=by simp[Sel.env,Env.at,oA,<-hE]
       cases i with
       | zero=>simp at I O;subst I;subst O;refine⟨?_,λ_=>trivial,by simp,λ_=>.inr rfl⟩;simp[PV.val,PV.val1,PV.cv,ae]
       | succ i=>
         have:=h4 (E++[none]) (by simp[hE]) i r q (by simpa using I) (by simpa using O)
         simpa [Sel.env]using this
     ·exact hs.elim
 | .cu :: l,Q,us,ps,b,hs,J=>by
   cases ps with
   | nil=>exact hs.elim
   | cons p ps=>
     simp only[uZ]at hs;split at hs
     rotate_left
     ·exact hs.elim
     rename_i k z i o al ac;cases ac;split at hs
     rotate_left
     ·exact hs.elim
     rename_i cs hk hc;split at hs
     rotate_left
     ·exact hs.elim
     rename_i a' es c n m aw;have ax:=WR aw;subst ax;simp only[oG,o9,nc]at hc;obtain⟨⟨rfl,rfl,rfl⟩,ai⟩:=hc;obtain⟨qs,s,Y,U,h3,h4⟩:=zk h l _ (k::us) ps (b+1) hs (λp I=>J p (by simp[I]));refine⟨.pb b 0 0 0::qs,(some k,.var [.sv a' 0 es c,.int .i64 n,.int .i64 m])::s,⟨_,_,_,_,_,rfl,rfl,Y⟩,⟨λx hx=>?_,?_,λj hj=>?_⟩,by simp[h3],λE hE i r q I O=>?_⟩
     ·rcases oF.1 hx with rfl | hx
      ·exact .inr ⟨k,rfl,hk,_,_,_,_,_,rfl⟩
      ·exact U.at_ x hx
     ·simp only[mB];exact mA.2 ⟨λhc=>U.un k hc (by simp),U.nd⟩
     ·simp only[mB]at hj;rcases oF.1 hj with rfl | hj
      ·intro hc;simp[hc]at ai
      ·exact λhc=>U.un j hj (by simp[hc])
     ·have ae:Env.at (E++Sel.env e ((some k,Bx.var [.sv a' 0 es c,.int .i64 n,.int .i64 m])::s)) b=e.at k:=by simp[Sel.env,Env.at,oA,<-hE]
      cases i with
      | zero=>simp at I O;subst I;subst O;refine⟨?_,id,by simp,λhx=>by cases hx⟩;simp only[PV.val,PV.val1,PV.cv,ae]
      | succ i=>
        have:=h4 (E++[e.at k]) (by simp[hE]) i r q (by simpa using I) (by simpa using O)
        simpa [Sel.env]using this
 | .pk::l,Q,us,ps,b,hs,J=>by
   simp only[uZ]at hs;split at hs
   ·rename_i hk;obtain⟨qs,s,Y,U,h3,h4⟩:=zk h l Q us ps b hs J;exact⟨qs,s,⟨hk,Y⟩,U,h3,h4⟩
   ·exact hs.elim
 | .dc :: l,Q,us,ps,b,hs,J=>by
   cases ps with
   | nil=>exact hs.elim
   | cons p ps=>
     simp only[uZ]at hs;split at hs
     rotate_left
     ·exact hs.elim
     rename_i x hx;obtain⟨qs,s,Y,U,h3,h4⟩:=zk h l _ us ps b hs (λp I=>J p (by simp[I]));refine⟨.dc x::qs,s,Y,U,by simp[h3],λE hE i r q I O=>?_⟩;cases i with
     | zero=>
       simp at I O;subst I;subst O;have hv:p.val e=p.cv e:=by cases p<;>first | rfl | (simp[pe]at hx)
       have aj:x.cv=p.cv e:=by
        rcases J p (by simp)with aa | hdx
        ·exact(xv (e:=e) hx aa).2.2.1
        ·cases p<;>simp[LV]at hdx<;>simp[pe]at hx<;>subst hx<;>rfl
       refine⟨by rw[hv,<-aj];rfl,λI=>?_,λhc=>by subst hc;simp[pe]at hx,λ_=>.inr rfl⟩;obtain⟨g1,g2,_⟩:=xv (e:=e) hx I;exact⟨g1,g2⟩
     | succ i=>exact h4 E hE i r q (by simpa using I) (by simpa using O)
 | .bk j::l,Q,us,ps,b,hs,J=>by
   cases ps with
   | nil=>exact hs.elim
   | cons p ps=>
     simp only[uZ]at hs;split at hs
     rotate_left
     ·exact hs.elim
     rename_i x hx;obtain⟨qs,s,Y,U,h3,h4⟩:=zk h l _ us ps b hs (λp I=>J p (by simp[I]));refine⟨.dc x::qs,s,Y,U,by simp[h3],λE hE i r q I O=>?_⟩;cases i with
     | zero=>
       simp at I O;subst I;subst O;have hv:p.val e=p.cv e:=by cases p<;>first | rfl | (simp[pe]at hx)
       have aj:x.cv=p.cv e:=by
        rcases J p (by simp)with aa | hdx
        ·exact(xv (e:=e) hx aa).2.2.1
        ·cases p<;>simp[LV]at hdx<;>simp[pe]at hx<;>subst hx<;>rfl
       refine⟨by rw[hv,<-aj];rfl,λI=>?_,λhc=>by subst hc;simp[pe]at hx,λ_=>.inr rfl⟩;obtain⟨g1,g2,_⟩:=xv (e:=e) hx I;exact⟨g1,g2⟩
     | succ i=>exact h4 E hE i r q (by simpa using I) (by simpa using O)
theorem QK (h:Rel av w0 [] [] [] a w e st){s:Sel}(hs:SelOk st [] s):Mem av [] w (s.env e) s.rows/\(∀ b,za av [] (s.env e) s.rows b->za av [] e st.bx b)/\∀(k b:Nat),(s.env e).at k=some b->w0.heap.size<=b:=by
 have ae:∀(j:Nat) (x:Option Nat × Bx),s[j]?=some x->(s.env e).at j=x.1.bind e.at:=λj x I=>by simp[Sel.env,Env.at,oA,I]
 have aa:∀(j:Nat) (B:Bx),s.rows[j]?=some B->∃ x,s[j]?=some x/\x.2=B:=λj B I=>by
  simp only[Sel.rows,oE]at I;cases J:s[j]? with
  | none=>simp[J]at I
  | some x=>simp[J]at I;exact⟨x,rfl,I⟩
 have ac:∀(j b:Nat),(s.env e).at j=some b->∃ x k,s[j]?=some x/\x.1=some k/\Lives [] e st.bx k b:=λj b I=>by
  cases J:s[j]? with
  | none=>simp[Sel.env,Env.at,oA,J]at I
  | some x=>
    rw[ae j x J]at I;rcases hs.at_ x (oB J)with⟨O,_⟩ | ⟨k,O,U,Y⟩
    ·rw[O]at I;cases I
    ·rw[O]at I;exact⟨x,k,rfl,O,by simp,I,x.2,U,Y.sp.1⟩
 have ab:∀ b,za av [] (s.env e) s.rows b->za av [] e st.bx b:=λb hb=>hb.imp id λ⟨j,I⟩=>by obtain⟨_,k,_,_,Y⟩:=ac j b I.2.1;exact⟨k,Y⟩
 refine⟨{ el:=by simp[Sel.env,Sel.rows],br:=λj B I _=>?_,bo:=λj B I _=>?_,bf:=λj B I _ i hi=>?_,inj:=λi j b hi I=>?_ },ab,λj b I=>?_⟩
 ·obtain⟨x,J,rfl⟩:=aa j B I;rw[ae j x J];rcases hs.at_ x (oB J)with⟨O,t,z,U⟩ | ⟨k,O,U,Y⟩
  ·rw[O,U];exact .inl ⟨rfl,rfl,rfl⟩
  ·rw[O];refine(h.br k _ U (by simp)).congr (λ_ _=>rfl) λi hi=>?_;rw[Y.sp.2]at hi;simp at hi
 ·obtain⟨x,J,rfl⟩:=aa j B I;rcases hs.at_ x (oB J)with⟨O,t,z,U⟩ | ⟨k,O,U,Y⟩
  ·rw[U];intro y hy;simp at hy
  ·exact(h.bo k _ U (by simp)).mono (λ_ _ _=>rfl) (oC _) λb _=>ab b
 ·obtain⟨x,J,rfl⟩:=aa j B I;rcases hs.at_ x (oB J)with⟨O,t,z,U⟩ | ⟨k,O,U,Y⟩
  ·rw[U]at hi;simp[Bx.refs]at hi
  ·rw[Y.sp.2]at hi;simp at hi
 ·obtain⟨x,k,O,U,Y⟩:=ac i b hi.2.1;obtain⟨y,l,g1,g2,g3⟩:=ac j b I.2.1;have ak:=h.inj k l b Y g3;subst ak
  have key:∀(s:Sel) (i j:Nat) (x y:Option Nat × Bx),(s.filterMap (·.1)).Nodup->s[i]?=some x->s[j]?=some y->x.1=some k->y.1=some k->i=j:=by
   intro s
   induction s with
   | nil=>intro i j x y _ J;simp at J
   | cons u s ih=>
     intro i j x y hn J hy ah ai;have al:(s.filterMap (·.1)).Nodup:=by
      cases hu:u.1 with
      | none=>simpa [hu]using hn
      | some m=>simp only[mB,hu]at hn;exact(mA.1 hn).2
     have aj:u.1=some k->k∉s.filterMap (·.1):=λhu=>by simp only[mB,hu]at hn;exact(mA.1 hn).1
     cases i with
     | zero=>
       simp at J;subst J;cases j with
       | zero=>rfl
       | succ j=>simp at hy;exact absurd (nl.2 ⟨y,oB hy,ai⟩) (aj ah)
     | succ i=>
       simp at J;cases j with
       | zero=>simp at hy;subst hy;exact absurd (nl.2 ⟨x,oB J,ah⟩) (aj ai)
       | succ j=>simp at hy;rw[ih i j x y al J hy ah ai]
  exact key s i j x y hs.nd O g1 U g2
 ·obtain⟨_,k,_,_,Y⟩:=ac j b I;rcases h.own k b Y with h4 | h4
  ·exact h4
  ·simp at h4
def Od:ResultVar->Nat
 | .tmp t=>t
 | .cell a _=>a
def Wj (P:Program)(st:St):List ResultVar->(List PV->Prop)->Prop
 | [],K=>K []
 | .tmp t::l,K=>Wj P st l λps=>K (st.sl.getD t .any::ps)
 | .cell a t::l,K=>Ba P (opd st.sl) (λk=>st.bx[k]?) (.load t (.tmp a)) t λp=>Wj P st l λps=>K (p::ps)
def KK:Sh->Bool
 | .row ..=>true
 | .cu=>true
 | .dc=>true
 | .bk _=>true
 | _=>false
def YX:List Sh->List Nat->List Nat
 | .pk::_,_=>[]
 | s::l,t::I=>match KK s with
   | true=>YX l I
   | false=>t::YX l I
 | _,_=>[]
def EM (pk:Bool)(ps:List PV):List PV:=match pk with
 | true=>match ps with
   | [.pg cs]=>cs
   | _=>[.any]
 | false=>ps
def Za (P:Program)(f:FuncId)(rs:List Sh)(Q:QT rs)(N0:Option Nat)(st:St):Prop:=
 match P.funcs[f]? with
 | some fn=>AA N0 #[] [] (YX rs (fn.results.toList.map Od)) (fn.results.toList.map Od) st λst=>Wj P st fn.results.toList λps=>uZ st rs Q [] (EM (EI rs) (zt P fn.resultTypes.toList ps))
 | none=>False
def NC (tmps:Array Value)(r:ResultVar):Sem Value:=match r with
 | .tmp t=>pure (tmps.getD t undef)
 | .cell a t=>do loadVar t (<-asAddr (tmps.getD a undef))
theorem Sk (tmps:Array Value):(λ(r:ResultVar)=>match r with
 | .tmp t=>(pure (tmps.getD t undef):Sem Value)
 | .cell a t=>do loadVar t (<-asAddr (tmps.getD a undef)))=NC tmps:=by funext r;cases r<;>rfl
theorem AB (h:Rel av w0 e0 [] [] a w e st):∀(l:List ResultVar) (K:List PV->Prop),Wj P st l K->∃ vs ps,K ps/\(l.mapM (NC a.tmps)).run P w=.ok vs w/\vs.length=l.length/\ps.length=l.length /\
  ∀(i:Nat) (v:Value) (p:PV),vs[i]?=some v->ps[i]?=some p->ValOk av w e [] st.bx v p
 | [],K,U=>⟨[],[],U,by simp,rfl,rfl,by simp⟩
 | .tmp t::l,K,U=>by
   obtain⟨vs,ps,h1,h2,h3,h4,h5⟩:=AB h l _ U;have Y:ValOk av w e [] st.bx (a.eval (.tmp t)) (opd st.sl (.tmp t)):=(vP h (x:=.tmp t) (by simp)).valOk;refine⟨a.tmps.getD t undef::vs,st.sl.getD t .any::ps,h1,?_,by simp[h3],by simp[h4],λi v p I O=>?_⟩
   ·simp[NC,h2]
   ·cases i with
    | zero=>simp only[lF,nB]at I O;subst I;subst O;exact Y
    | succ i=>exact h5 i v p (by simpa using I) (by simpa using O)
 | .cell c t::l,K,U=>by
   simp only [Wj] at U;have ho:∀ x∈(Op.load t (.tmp c)).operands,OpdOk av a w e [] st.bx x (opd st.sl x):=λx hx=>vP h (by simp);obtain ⟨v0, p0, J, g2, g3⟩ := H1 (o := ⟨none, .load t (.tmp c), t, "", #[], none⟩) h.toMem ho (λk B hk => ⟨hk, by simp⟩) U;obtain ⟨vs,ps,h1,h2,h3,h4,h5⟩:=AB h l _ g2
   have aa:(NC a.tmps (.cell c t)).run P w=.ok v0 w:=by
    simp only[execOp]at J;have he:a.eval (.tmp c)=a.tmps.getD c undef:=rfl;rw[he]at J;simp only[NC];cases Y:a.tmps.getD c undef with
    | pointer p=>
      cases p with
      | none=>rw[Y]at J;simp[Instr.loadAt,Instr.sureAddr]at J
      | some ad=>
        rw[Y]at J;simp[Instr.loadAt,Instr.sureAddr,asAddr]at J ⊢;generalize (loadVar t ad).run P w=r at J ⊢;cases r with
        | ok x w1=>simp at J ⊢;exact J
        | halt x w1=>simp at J
    | _=>rw[Y]at J;simp[Instr.loadAt,Instr.sureAddr]at J
   refine⟨v0::vs,p0::ps,h1,?_,by simp[h3],by simp[h4],λi v p I O=>?_⟩
   ·rw[List.mapM_cons];simp only[Sem.run_bind,aa,Result.andThen_ok,h2,Sem.run_pure]
   ·cases i with
    | zero=>simp only[lF,nB]at I O;subst I;subst O;exact g3
    | succ i=>exact h5 i v p (by simpa using I) (by simpa using O)
def XP (vs:List Value):Value:=match vs with
 | [v]=>v
 | vs=>.tuple vs.toArray
theorem A2 {fn:Func} {vs:List Value} {tmps:Array Value} (h:(fn.results.toList.mapM (NC tmps)).run P w=.ok vs w) :
  (results fn tmps).run P w=.ok (XP vs) w:=by
 unfold results;have I:∀ F:ResultVar->Sem Value,F=NC tmps->((do
   let vs <-fn.results.mapM F
   pure (if h:vs.size=1 then vs[0]else .tuple vs):Sem Value)).run P w=.ok (XP vs) w:=λF J=>by
  subst J;rw[Array.mapM_eq_mapM_toList];simp[h];rcases vs with _ | ⟨t,_ | ⟨u,O⟩⟩<;>simp[XP]
 exact I _ (Sk tmps)
theorem J5 {e:Env}{p:PV}(h:p.isC):p.val e=p.cv e:=by
 cases p<;>first | rfl | exact h.elim | skip
 rename_i x;cases x<;>first | rfl | (simp[PV.isC,D.isCell]at h)
theorem IA {e:Env}{p:PV}(h:p.isC):p.val1 e=p.cv e:=by
 have:=J5 (e:=e) h
 cases p<;>first | exact this | exact h.elim
theorem O4 (h:Rel av w0 [] [] [] a w e st) {f:FuncId} {rs:List Sh} {Q:QT rs} {k:List Item} (hk:k=[]\/∃ k',k=.code .ret::k') {N0:Option Nat} (au:NOk N0 w0) (hs:Za P f rs Q N0 st):RH P f k (Fin rs Q av w0) a w:=by
 unfold Za at hs;split at hs
 rotate_left
 ·exact hs.elim
 rename_i fn hf;obtain⟨aw,T,U,_,_,Y⟩:=uS h au (by simp) hs;obtain⟨vs,ps,U,ah,ai,aj,ax⟩:=AB Y _ _ U;have O:∀(i:Nat) (p:PV),(zt P fn.resultTypes.toList ps)[i]?=some p->∃ v,vs[i]?=some v/\ValOk av w e [] aw.bx v p:=λi p J=>by
  obtain⟨q,hq,ay⟩:=rr _ _ _ _ J;have I:i<vs.length:=by rw[ai,<-aj];exact(oD.1 hq).1
  have hv:=ax i _ q (oI I) hq;refine⟨_,oI I,?_⟩;rcases ay with rfl | ⟨ty,rfl⟩
  ·exact hv
  ·exact hv.retag ty
 cases aa:EI rs with
 | true =>
   rw[aa]at U
   have az:∃ cs,zt P fn.resultTypes.toList ps=[.pg cs]:=by
    by_cases hc:∃ cs,zt P fn.resultTypes.toList ps=[.pg cs]
    ·exact hc
    ·exfalso;have J:EM true (zt P fn.resultTypes.toList ps)=[.any]:=by
      simp only[EM];split
      ·rename_i cs ae;exact absurd ⟨cs,ae⟩ hc
      ·rfl
     rw[J]at U;cases rs with
     | nil=>simp[EI]at aa
     | cons s l=>
       cases s<;>simp[EI]at aa
       simp only[uZ]at U;split at U
       ·rename_i hk;cases l with
        | nil=>exact U.elim
        | cons s l=>cases s<;>simp only[uZ]at U<;>first | exact U.elim | (simp[U4]at hk)
       ·exact U.elim
   obtain⟨cs,ae⟩:=az;rw[ae]at U O;simp only[EM]at U;obtain⟨v,ak,ab⟩:=O 0 (.pg cs) rfl;have al:vs=[v]:=by
    have h5:vs.length=1:=by have h6:=nV List.length ae;rw[wU]at h6;rw[ai,<-aj,h6];rfl
    rcases vs with _ | ⟨u,_ | _⟩<;>simp at h5 ak
    subst ak;rfl
   have am:=ab.2.1;simp only[PV.Ok]at am;obtain⟨ac,ao⟩:=am;rw[PV.OkL_iff]at ac;obtain⟨qs,s,g1,g2,g3,g4⟩:=zk Y rs Q [] _ 0 U (λp J=>.inl (ac p J));obtain⟨m1,m2,m3⟩:=QK Y g2;have a6:=QT.app_pk aa g1;refine Jf hk hf Y.nd (A2 ah) ⟨qs,s.rows,s.env e,g1,?_,m1,λq hq=>?_,m3,Y.size,λb hb=>Y.old b hb (by simp),λb c t z hb hc=>Y.fz b c t z (.inl hb) hc,Y.ku⟩
   ·rw[al,aa];simp only[XP,PJ];rw[ab.1.resolve_left (by simp)];simp only[PV.val,PV.val1,PV.cvs_eq];congr 2;apply nO;intro i;rw[oE,oE];cases hq:qs[i]? with
    | none=>rw[show cs[i]?=none from oS (by rw[<-g3];exact mH.1 hq)];rfl
    | some q=>
      have I:i<cs.length:=by rw[<-g3];exact(oD.1 hq).1
      have J:=oI I;rw[J];simp only[oa,nB];have h5:=g4 [] rfl i _ q J hq;rw[<-J5 (ao _ (oB J)),h5.1,IA (a6 q (oB hq))];rfl
   ·obtain⟨i,hi⟩:=oQ.1 hq;have I:i<cs.length:=by rw[<-g3];exact(oD.1 hi).1
    have J:=oI I;exact PV.Ok.mono (λ_ _ _=>rfl) (oC _) (λb _=>m2 b) q ((g4 [] rfl i _ q J hi).2.1 (ac _ (oB J)))
 | false=>
 rw[aa]at U;simp only[EM]at U;obtain⟨qs,s,g1,g2,g3,g4⟩:=zk Y rs Q [] _ 0 U (λp J=>by obtain⟨i,hi⟩:=oQ.1 J;obtain⟨t,_,hv⟩:=O i p hi;exact .inl hv.2.1);obtain⟨m1,m2,m3⟩:=QK Y g2;have aq:qs.length=vs.length:=by rw[g3,wU,aj,ai]
 refine Jf hk hf Y.nd (A2 ah) ⟨qs,s.rows,s.env e,g1,?_,m1,λq hq=>?_,m3,Y.size,λb hb=>Y.old b hb (by simp),λb c t z hb hc=>Y.fz b c t z (.inl hb) hc,Y.ku⟩
 ·-- the values
  have hv:vs=qs.map (PV.val1 (s.env e)):=by
   apply nO;intro i;rw[oE];cases hq:qs[i]? with
   | none=>have:vs[i]?=none:=oS (by rw[<-aq];exact mH.1 hq);rw[this];rfl
   | some q=>
     have I:i<(zt P fn.resultTypes.toList ps).length:=by rw[<-g3];exact(oD.1 hq).1
     have J:=oI I;obtain⟨v,hv,ab⟩:=O i _ J;rw[hv];simp only[oa,nB];have h5:=g4 [] rfl i _ q J hq;rw[ab.1.resolve_left h5.2.2.1,h5.1];rfl
  rw[hv,aa];simp only[PJ];unfold Rn;rcases qs with _ | ⟨q,_ | ⟨r,qs⟩⟩<;>rfl
 ·obtain⟨i,hi⟩:=oQ.1 hq;have I:i<(zt P fn.resultTypes.toList ps).length:=by rw[<-g3];exact(oD.1 hi).1
  have J:=oI I;obtain⟨t,ht,ab⟩:=O i _ J;exact PV.Ok.mono (λ_ _ _=>rfl) (oC _) (λb _=>m2 b) q ((g4 [] rfl i _ q J hi).2.1 ab.2.1)
variable {av:Nat->Prop} {P:Program} {w0 w w':World} {e0 e:Env} {pS pS' pB pB':List Nat} {a:Act} {st st':St}
mutual
def vY:PV->PV->Bool
 | .any,.any=>true
 | .pb k z i o,.pb I z' i' J=>Nat.beq k I&&Nat.beq z z'&&Nat.beq i i'&&Nat.beq o J
 | .fn f l,.fn f' l'=>Nat.beq f f'&&Cq l l'
 | _,_=>false
def Cq:List PV->List PV->Bool
 | [],[]=>true
 | p::ps,q::qs=>vY p q&&Cq ps qs
 | _,_=>false
end
mutual
theorem Lk:∀ {p q:PV},vY p q=true->p=q
 | .any,q,h=>by cases q<;>simp[vY]at h ⊢
 | .pb k z i o,q,h=>by
   cases q<;>simp[vY]at h
   obtain⟨⟨⟨I,J⟩,O⟩,U⟩:=h
   rw[I,J,O,U]
 | .fn f l,q,h=>by
   cases q<;>simp[vY]at h
   rw[h.1,Hx h.2]
 | .int ..,q,h=>by simp[vY]at h
 | .bool ..,q,h=>by simp[vY]at h
 | .str ..,q,h=>by simp[vY]at h
 | .lit ..,q,h=>by simp[vY]at h
 | .sv ..,q,h=>by simp[vY]at h
 | .d ..,q,h=>by simp[vY]at h
 | .dc ..,q,h=>by simp[vY]at h
 | .dg ..,q,h=>by simp[vY]at h
 | .pd ..,q,h=>by simp[vY]at h
 | .sb ..,q,h=>by simp[vY]at h
 | .pg ..,q,h=>by simp[vY]at h
 | .tp ..,q,h=>by simp[vY]at h
theorem Hx:∀ {p q:List PV},Cq p q=true->p=q
 | [],q,h=>by cases q<;>simp[Cq]at h ⊢
 | p :: ps,q,h=>by
   cases q with
   | nil=>simp[Cq]at h
   | cons q qs=>
     simp[Cq]at h
     rw[Lk h.1,Hx h.2]
end
def Yp (all:List Bx) (q p:PV) (K:Prop):Prop:=match DR q with
 | some _=>match DR p with
   | some _=>K
   | none=>False
 | none=>match q,p with
   | .sb k z lo _ _,.sb J z' I n c=>match Nat.beq k J&&Nat.beq z z'&&Nat.beq lo I with
     | true=>match all[k]? with
       | some (.arr _ _ es O)=>(n=es.length/\c=O)/\K
       | _=>False
     | false=>False
   | q,p=>match vY q p with
     | true=>K
     | false=>False
def Ve (all:List Bx):List PV->List PV->Prop->Prop
 | [],[],K=>K
 | q::qs,p::ps,K=>Yp all q p (Ve all qs ps K)
 | _,_,_=>False
def XU (all:List Bx)(J B:Bx)(K:Prop):Prop:=match J,B with
 | .var I,.var cs=>Ve all I cs K
 | .vd _ n,.vd _ O=>match Nat.beq n O with
   | true=>K
   | false=>False
 | .arr t z _ _,.arr t' z' _ _=>match Nat.beq t t'&&Nat.beq z z' with
   | true=>K
   | false=>False
 | _,_=>False
def WG (all:List Bx):List Bx->List Bx->Prop->Prop
 | [],[],K=>K
 | B0::b0,B::bs,K=>XU all B0 B (WG all b0 bs K)
 | _,_,_=>False
theorem Po {all:List Bx} {q p:PV} {K:Prop} (h:Yp all q p K):K/\(((∃ s,DR q=some s)/\∃ s,DR p=some s)\/(DR q=none/\DR p=none /\
  ∀ I:List Bx,(∀(k:Nat) t z es c,all[k]?=some (.arr t z es c)->I[k]?=some (.arr t z es c))->W8 I q=p)):=by
 unfold Yp at h;split at h
 ·rename_i s hs;split at h
  ·rename_i s' O;exact⟨h,.inl ⟨⟨s,hs⟩,s',O⟩⟩
  ·exact h.elim
 ·rename_i hq;split at h
  ·rename_i k z lo n0 c0 k' z' aa n c;split at h
   ·rename_i hk;simp only[oG]at hk;obtain⟨⟨U,Y⟩,h3⟩:=hk;have U:=nL U;have Y:=nL Y;have h3:=nL h3;subst U;subst Y;subst h3;split at h
    ·rename_i t zz es c' ha;obtain⟨⟨rfl,rfl⟩,hK⟩:=h;refine⟨hK,.inr ⟨rfl,rfl,λI J=>?_⟩⟩;simp only[W8,J _ _ _ _ _ ha]
    ·exact h.elim
   ·exact h.elim
  ·rename_i ab;split at h
   ·rename_i hs;have he:=Lk hs;subst he;refine⟨h,.inr ⟨hq,hq,λI _=>?_⟩⟩;cases q<;>first | rfl | simp[vY]at hs
   ·exact h.elim
theorem DX {all:List Bx}:∀ {O cs:List PV} {K:Prop},Ve all O cs K->K/\∀ rest:List PV,(Mi O (P0 cs++rest)).2=rest /\
  ∀ I:List Bx,(∀(k:Nat) t z es c,all[k]?=some (.arr t z es c)->I[k]?=some (.arr t z es c))->(Mi O (P0 cs++rest)).1.map (W8 I)=cs
 | [],[],K,h=>⟨h,λrest=>⟨rfl,λ_ _=>rfl⟩⟩
 | [],_::_,K,h=>h.elim
 | _::_,[],K,h=>h.elim
 | q::qs,p::ps,K,h=>by
   obtain⟨h1,h2⟩:=Po h;obtain⟨h3,h4⟩:=DX h1;refine⟨h3,λrest=>?_⟩;obtain⟨h5,h6⟩:=h4 rest;rcases h2 with⟨⟨s,hs⟩,s',U⟩ | ⟨hq,hp,Y⟩
   ·simp only[Mi,hs,P0,U,nS];refine⟨h5,λI J=>?_⟩;rw[oh,h6 I J];congr 1;cases p<;>simp[DR]at U<;>rfl
   ·simp only[Mi,hq,P0,hp];exact⟨h5,λI J=>by rw[oh,h6 I J,Y I J]⟩
theorem Ls {all:List Bx}:∀ {b0 bs:List Bx} {K:Prop},WG all b0 bs K->K/\∀ rest:List PV,(∀(k:Nat) t z es c,bs[k]?=some (.arr t z es c)->(PE b0 (F0 bs++rest))[k]?=some (.arr t z es c)) /\
  ∀ I:List Bx,(∀(k:Nat) t z es c,all[k]?=some (.arr t z es c)->I[k]?=some (.arr t z es c))->(PE b0 (F0 bs++rest)).map (XY I)=bs
 | [],[],K,h=>⟨h,λrest=>⟨by simp,λ_ _=>rfl⟩⟩
 | [],_::_,K,h=>h.elim
 | _::_,[],K,h=>h.elim
 | B0 :: b0,B::bs,K,h=>by
   simp only[WG]at h;have key:∀(K':Prop),XU all B0 B K'->K'/\∀ rest:List PV,(OX B0 (Pl B++rest)).2=rest/\(∀ t z es c,B=.arr t z es c->(OX B0 (Pl B++rest)).1=.arr t z es c) /\
     ∀ I:List Bx,(∀(k:Nat) t z es c,all[k]?=some (.arr t z es c)->I[k]?=some (.arr t z es c))->XY I (OX B0 (Pl B++rest)).1=B:=λK' h=>by
    unfold XU at h;split at h
    ·rename_i aa cs;obtain⟨Y,U⟩:=DX h;refine⟨Y,λrest=>⟨(U rest).1,λ_ _ _ _ hc=>(by cases hc),λI J=>?_⟩⟩;simp only[OX,XY,Pl,(U rest).2 I J]
    ·rename_i x n y n';split at h
     ·rename_i O;have O:=nL O;subst O;exact⟨h,λrest=>⟨rfl,λ_ _ _ _ hc=>(by cases hc),λ_ _=>rfl⟩⟩
     ·exact h.elim
    ·rename_i t z ab c0 t' z' es c;split at h
     ·rename_i O;simp only[oG]at O;have Y:=nL O.1;have U:=nL O.2;subst Y;subst U;exact⟨h,λrest=>⟨rfl,λ_ _ _ _ hc=>(by cases hc;rfl),λ_ _=>rfl⟩⟩
     ·exact h.elim
    ·exact h.elim
   obtain⟨Y,U⟩:=key _ h;obtain⟨h3,h4⟩:=Ls Y;refine⟨h3,λrest=>?_⟩;have e1:F0 (B::bs)++rest=Pl B++(F0 bs++rest):=by simp[F0]
   rw[e1];obtain⟨h5,h6,h7⟩:=U (F0 bs++rest);obtain⟨h8,h9⟩:=h4 rest;simp only[PE,h5];refine⟨λk t z es c hk=>?_,λI J=>by rw[oh,h7 I J,h9 I J]⟩;cases k with
   | zero=>simp at hk ⊢;exact h6 _ _ _ _ hk
   | succ k=>simp only[nq]at hk ⊢;exact h8 k _ _ _ _ hk
theorem RT {all:List Bx}:∀ {b0 bs:List Bx}{K:Prop},WG all b0 bs K->∀ B∈bs,B≠.gone
 | [],[],K,h=>by simp
 | [],_::_,K,h=>h.elim
 | _::_,[],K,h=>h.elim
 | B0::b0,B::bs,K,h=>by
   simp only[WG]at h;have key:∀ K',XU all B0 B K'->B≠.gone/\K':=λK' h=>by
    unfold XU at h;split at h
    ·exact⟨by simp,(DX h).1⟩
    ·split at h
     ·exact⟨by simp,h⟩
     ·exact h.elim
    ·split at h
     ·exact⟨by simp,h⟩
     ·exact h.elim
    ·exact h.elim
   obtain⟨I,J⟩:=key _ h;intro C hC;rcases oF.1 hC with rfl | hC
   ·exact I
   ·exact RT J C hC
theorem Td {b0 bs:List Bx}{K:Prop}(h:WG bs b0 bs K):K/\KR b0 (F0 bs)=bs:=by obtain⟨O,U⟩:=Ls h;obtain⟨I,J⟩:=U [];rw[nH]at I J;exact⟨O,J _ I⟩
def x9 (E:Env):Nat->List Bx->List (Option Nat)
 | _,[]=>[]
 | k,B::bs=>(match B with
   | .var _=>some ((E.at k).getD 0)
   | .vd _ _=>some ((E.at k).getD 0)
   | _=>none)::x9 E (k+1) bs
theorem pU {E:Env}:∀(bs:List Bx)(k:Nat),(x9 E k bs).length=bs.length
 | [],k=>rfl
 | B::bs,k=>by simp[x9,pU bs]
theorem LQ {E:Env}:∀(bs:List Bx)(k j:Nat)(B:Bx),bs[j]?=some B->B.isArr=false->(x9 E k bs)[j]?=some (some ((E.at (k+j)).getD 0))
 | B::bs,k,0,B',h,I=>by simp at h;subst h;cases B<;>simp[Bx.isArr]at I<;>simp[x9]
 | B::bs,k,j+1,B',h,I=>by simp only[nq]at h;simp only[x9,nq];rw[LQ bs (k+1) j B' h I,show k+1+j=k+(j+1) by omega]
def V9 (p:Option (List (Option Nat) × List Nat))(E:Env)(bx0:List Bx):Prop:=p=some (x9 E 0 bx0,[])
def xQ (E:Env)(bx0:List Bx):Prop:=V9 (some (x9 E 0 bx0,[])) E bx0
theorem wK {E:Env}{bx0:List Bx}:xQ E bx0:=rfl
def Wl:List Sh->Bool
 | []=>true
 | .pk::_=>false
 | _::l=>Wl l
def WL (st:St)(m:Nat):List Nat:=(CS st.bx 200 (List.range m) []).filter λk=>Xf st k&&Nat.ble m k
def Rz (full:List Sh)(ps:List PV):List PV:=match full with
 | .bk _::_=>[.int .i64 0]
 | _=>ps
def Yt (st:St) (m:Nat) (full:List Sh) (ps:List PV) (K:Prop):Prop:=match full with
 | .bk j::_=>match ps with
   | [.sb k z lo n c]=>match st.bx[j]? with
     | some (.arr _ z' es I)=>match Nat.beq k j&&Nat.beq lo 0&&Nat.beq z z'&&Nat.blt j m with
       | true=>(n=es.length/\c=I)/\K
       | false=>False
     | _=>False
   | _=>False
 | _=>K
theorem Qj {m:Nat}{full:List Sh}{ps:List PV}{K:Prop}(h:Yt st m full ps K):K/\(((∀ j l,full≠.bk j::l)/\Rz full ps=ps)\/∃ j l t z es c,full=.bk j::l/\ps=[.sb j z 0 es.length c]/\st.bx[j]?=some (.arr t z es c)/\j<m/\Rz full ps=[.int .i64 0]):=by
 unfold Yt at h;split at h
 ·rename_i j l;split at h
  ·rename_i k z lo n c;split at h
   ·rename_i t z' es c' hj;split at h
    ·rename_i U;simp only[oG]at U;obtain⟨⟨⟨I,J⟩,O⟩,h4⟩:=U;have I:=nL I;have J:=nL J;have O:=nL O;subst I;subst J;subst O;obtain⟨⟨rfl,rfl⟩,hK⟩:=h;exact⟨hK,.inr ⟨_,_,_,_,_,_,rfl,rfl,hj,by simpa [Nat.blt_eq]using h4,rfl⟩⟩
    ·exact h.elim
   ·exact h.elim
  ·exact h.elim
 ·rename_i Y;refine⟨h,.inl ⟨λj l hc=>Y j l hc,?_⟩⟩;unfold Rz;split
  ·exact absurd rfl (Y _ _)
  ·rfl
def Y9 (full:List Sh):List Sh:=match full with
 | .bk _::l=>.row 0 0::l
 | l=>l
def SH:List Sh->List Sh
 | .pk::l=>l
 | l=>l
def ZG (pk:Bool)(ps:List PV):Bool:=match pk with
 | true=>match ps with
   | [.pg _]=>true
   | _=>false
 | false=>true
def Zb (P:Program)(f:FuncId)(full:List Sh)(Q:QT full)(N0:Option Nat)(E:Env)(bx0:List Bx)(st:St):Prop:=
 match P.funcs[f]? with
 | some fn=>AA N0 #[] [] (YX (Y9 full) (fn.results.toList.map Od)) (fn.results.toList.map Od) st λst=>Kl N0 [] [] (WL st bx0.length) st λst=>
  V9 st.pin E bx0/\WG (st.bx.take bx0.length) bx0 (st.bx.take bx0.length) (Wj P st fn.results.toList λps=>match Nat.beq fn.resultTypes.size fn.results.size&&(((SH full).drop (Jl P f full bx0)).all λs=>!KK s)&&(bx0.all λB=>B.refs.all λi=>decide (i<bx0.length))&&Wl (SH full)&&(ZG (EI full) (zt P fn.resultTypes.toList ps)&&Nat.beq (EM (EI full) (zt P fn.resultTypes.toList ps)).length (Jl P f full bx0))with
  | true=>Yt st bx0.length full (EM (EI full) (zt P fn.resultTypes.toList ps)) (uZ st full Q (List.range bx0.length) (Rz full (EM (EI full) (zt P fn.resultTypes.toList ps))++F0 (st.bx.take bx0.length)))
  | false=>False)
 | none=>False
theorem Jr:∀ {cs:List PV}{p:PV},p∈P0 cs->p∈cs/\LV p=true/\p.refs=[]
 | q :: cs,p,h=>by
   simp only[P0]at h;split at h
   ·rename_i s hs;rcases oF.1 h with rfl | h
    ·refine⟨by simp,?_⟩;cases p<;>simp[DR]at hs<;>exact⟨rfl,rfl⟩
    ·obtain⟨I,J⟩:=Jr h;exact⟨by simp[I],J⟩
   ·obtain⟨I,J⟩:=Jr h;exact⟨by simp[I],J⟩
theorem WN {e ne:Env}{m:Nat}{B:Bx}(h:B.row):BPick e ne m B B:=by
 cases B with
 | arr t z es c=>exact⟨.inr (.inl ⟨rfl,by simp⟩)⟩
 | _ =>
   obtain⟨_,_,_,_,_,O⟩:=h;cases O<;>exact⟨.inr (.inr ⟨_,_,rfl,rfl,rfl,λi q I=>by
    have J:q.refs=[]:=by
     have:=oB I
     simp at this;rcases this with rfl | rfl | rfl<;>rfl
    exact .inr ⟨q,I,id,PV.cv_congr q (by simp[J]),λ_ _=>id,id,by simp[J]⟩⟩)⟩
theorem SK {s:Sh}{l:List Sh}(h:Wl (s::l)=true):s≠.pk/\Wl l=true:=by cases s<;>simp[Wl]at h<;>exact⟨by simp,h⟩
theorem QT.app_plainrow:∀(l:List Sh)(Q:QT l)(b:Nat)(ps:List PV)(rows:List Bx)(N:Nat),Wl l=true->QT.app l Q b ps rows N->ps.length=l.length/\∀(i:Nat)(s:Sh)(p:PV),l[i]?=some s->KK s=false->ps[i]?=some p->ZI p=false
 | [],Q,b,ps,rows,N,O,h=>by cases ps<;>cases rows<;>simp[QT.app]at h ⊢
 | s :: l,Q,b,ps,rows,N,O,h=>by
   obtain⟨hs,O⟩:=SK O;cases ps with
   | nil=>cases s<;>first | exact absurd rfl hs | (simp[QT.app]at h;done)
   | cons p ps=>
     have key:(∃(U:QT l) (Y:Nat) (I:List Bx),QT.app l U Y ps I N)/\(KK s=false->ZI p=false):=by
      cases s<;>(try(exact absurd rfl hs))<;>cases p<;>(try(exact h.elim))<;>(try(simp[QT.app]at h;done))<;>first
       | exact⟨⟨_,_,_,h⟩,λ_=>rfl⟩
       | exact⟨⟨_,_,_,h⟩,λhc=>by cases hc⟩
       | exact⟨⟨_,_,_,h.2⟩,λ_=>rfl⟩
       | skip
      all_goals
       cases rows with
       | nil=>simp[QT.app]at h
       | cons B rows=>
         cases B<;>first
          | exact⟨⟨_,b+1,_,h.2⟩,λhc=>by cases hc⟩
          | (simp[QT.app]at h;done)
          | (obtain⟨_,_,_,_,_,_,_,h⟩:=h;exact⟨⟨_,_,_,h⟩,λhc=>by cases hc⟩)
     obtain⟨⟨U,Y,I,h'⟩,hp⟩:=key;obtain⟨h1,h2⟩:=QT.app_plainrow l U Y ps I N O h';refine⟨by simp[h1],λi s' p' hs hr J=>?_⟩;cases i with
     | zero=>simp at hs J;subst hs;subst J;exact hp hr
     | succ i=>exact h2 i s' p' (by simpa using hs) hr (by simpa using J)
theorem QT.app_body {full:List Sh}{Q:QT full}{b:Nat}{ps:List PV}{rows:List Bx}{N:Nat}(h:QT.app full Q b ps rows N):∃ I:QT (SH full),QT.app (SH full) I b ps rows N:=by
 cases full with
 | nil=>exact⟨Q,h⟩
 | cons s l=>cases s<;>first | exact⟨Q,h⟩ | exact⟨Q,h.2⟩
theorem QY {pk:Bool}{ps:List PV}(h:ZG pk ps=true):(pk=false/\EM pk ps=ps)\/∃ cs,pk=true/\ps=[.pg cs]/\EM pk ps=cs:=by
 cases pk with
 | false=>exact .inl ⟨rfl,rfl⟩
 | true=>
   unfold ZG at h;simp only at h;split at h
   ·exact .inr ⟨_,rfl,rfl,rfl⟩
   ·cases h
theorem Pk {E:Env} (h:Rel av w0 E [] [] a w e st) {f:FuncId} {full:List Sh} {Q:QT full} {k:List Item} (hk:k=[]\/∃ k',k=.code .ret::k') {N0:Option Nat} (hN0:NOk N0 w0) {bx0:List Bx} (hs:Zb P f full Q N0 E bx0 st):RH P f k (Ys full Q (Jl P f full bx0) av w0 E bx0) a w:=by
 unfold Zb at hs;split at hs
 rotate_left
 ·exact hs.elim
 rename_i fn hf;obtain⟨st0,T,h0,_,_,h1⟩:=uS h hN0 (by simp) hs;obtain⟨st1,h2,_,h3⟩:=qb hN0 (by simp) (by simp) _ _ h1 (by simp) h0;obtain⟨hpin,h2⟩:=h2;unfold V9 at hpin;have hgn:=RT h2;obtain⟨h2,hupd⟩:=Td h2;obtain⟨vs,ps,h2,hrun,hvl,hpl,hvp⟩:=AB h3 _ _ h2;split at h2
 rotate_left
 ·exact h2.elim
 rename_i hbool;simp only[oG,oY,nc,o9]at hbool;obtain⟨⟨⟨⟨hrt,hrow⟩,hclosed⟩,hnpk⟩,hpgk,hkn⟩:=hbool;have hkn:=nL hkn;have hrt:=nL hrt;obtain⟨h2,hbk⟩:=Qj h2;clear hs;generalize Jl P f full bx0=nn at hrow hkn ⊢;have hpins:st1.pins=x9 E 0 bx0:=by simp[St.pins,hpin]
 have hns:∀ p∈F0 (st1.bx.take bx0.length),LV p=true/\p.refs=[]:=fun p hp=>by
  simp only[F0,mF]at hp;obtain⟨B,_,hp⟩:=hp;cases B<;>simp only[Pl]at hp
  ·exact(Jr hp).2
  ·simp at hp;subst hp;exact⟨rfl,rfl⟩
  ·simp at hp;subst hp;exact⟨rfl,rfl⟩
  ·simp at hp
 obtain⟨ul,ug⟩:=JW bx0 (F0 (st1.bx.take bx0.length)) fun p hp=>(hns p hp).2;rw[hupd]at ul ug;have hm:bx0.length<=st1.bx.length:=by rw[nF]at ul;omega
 have hgn:∀(k:Nat) (B:Bx),k<bx0.length->st1.bx[k]?=some B->B≠.gone:=fun k B hk hB=>hgn B (oB (i:=k) (by rw[oc];simp[hk,hB]));have htk:∀ j,j<bx0.length->(st1.bx.take bx0.length)[j]?=st1.bx[j]?:=fun j hj=>by rw[oc];simp[hj]
 have hrefs:∀(j:Nat) (B:Bx),j<bx0.length->st1.bx[j]?=some B->∀ i∈B.refs,i<bx0.length:=fun j B hj hB i hi=>by obtain⟨B1,g1,g2,_⟩:=ug j B (by rw[htk j hj];exact hB);exact hclosed B1 (oB g1) i (g2 i hi)
 have hres:∀(i:Nat) (p:PV),(zt P fn.resultTypes.toList ps)[i]?=some p->∃ v,vs[i]?=some v/\ValOk av w e [] st1.bx v p:=fun i p hp=>by
  obtain⟨q,hq,hqp⟩:=rr _ _ _ _ hp;have hlt:i<vs.length:=by rw[hvl,<-hpl];exact(oD.1 hq).1
  have hv:=hvp i _ q (oI hlt) hq;refine⟨_,oI hlt,?_⟩;rcases hqp with rfl | ⟨ty,rfl⟩
  ·exact hv
  ·exact hv.retag ty
 have hpk:=QY hpgk;have hresK:∀ p∈EM (EI full) (zt P fn.resultTypes.toList ps),p.Ok w (za av [] e st1.bx):=fun p hp=>by
  rcases hpk with⟨_,g⟩ | ⟨cs,_,g1,g⟩
  ·rw[g]at hp;obtain⟨i,hi⟩:=oQ.1 hp;obtain⟨t,_,hv⟩:=hres i p hi;exact hv.2.1
  ·rw[g]at hp;obtain⟨v,_,hvo⟩:=hres 0 (.pg cs) (by rw[g1];rfl)
   have:=hvo.2.1
   simp only[PV.Ok]at this;exact PV.OkL_iff.1 this.1 p hp
 generalize EM (EI full) (zt P fn.resultTypes.toList ps)=psk at hkn hpk hresK h2 hbk ⊢;have hprOk:∀ p∈Rz full psk,p.Ok w (za av [] e st1.bx):=fun p hp=>by
  rcases hbk with⟨_,g⟩ | ⟨j,l,t,z,es,c,_,_,_,_,g⟩
  ·rw[g]at hp;exact hresK p hp
  ·rw[g]at hp;rw[oV]at hp;subst hp;trivial
 obtain⟨qs,s,g1,g2,g3,g4⟩:=zk h3 full Q (List.range bx0.length) _ bx0.length h2 (fun p hp=>by
  rcases oK.1 hp with hp | hp
  ·exact .inl (hprOk p hp)
  ·exact .inr (hns p hp).1)
 have hn0:psk.length=nn:=hkn;have hr0:(zt P fn.resultTypes.toList ps).length=fn.resultTypes.size:=by rw[wU,hpl,hrt];simp
 have hn:(Rz full psk).length=nn:=by
  rcases hbk with⟨_,g⟩ | ⟨j,l,t,z,es,c,_,g2,_,_,g⟩
  ·rw[g];exact hn0
  ·rw[g,<-hn0,g2];rfl
 have hvn:vs.length=fn.resultTypes.size:=by rw[hvl,hrt];simp
 obtain⟨Q',g1'⟩:=QT.app_body g1;obtain⟨hql,hqrow⟩:=QT.app_plainrow _ _ _ _ _ _ hnpk g1';have hel:bx0.length<=e.length:=by rw[h3.el];exact hm
 have hEl:(e.take bx0.length).length=bx0.length:=by simp;omega
 have hqx:qs.drop nn=F0 (st1.bx.take bx0.length):=by
  apply nO;intro i;rw[nQ];cases hx:(F0 (st1.bx.take bx0.length))[i]? with
  | none=>
    refine oS ?_;rw[g3,oJ,hn]
    have:=mH.1 hx
    omega
  | some p=>
    have hlt:nn+i<qs.length:=by
     rw[g3,oJ,hn]
     have:=(oD.1 hx).1
     omega
    have hq:=oI hlt;have hp:(Rz full psk++F0 (st1.bx.take bx0.length))[nn+i]?=some p:=by rw[oR (by omega),hn];simpa using hx
    have ht:=(g4 _ hEl _ p _ hp hq).2.2.2 (hns p (oB hx)).1;have hlf:nn+i<(SH full).length:=by rw[<-hql];exact hlt
    have hsb:=hqrow (nn+i) _ _ (oI hlf) (hrow _ (oB (i:=i) (by rw[nQ,oI hlf]))) hq;rcases ht with ht | ht
    ·rw[hq,ht]
    ·rw[hsb]at ht;cases ht
 have hqs:qs=qs.take nn++F0 (st1.bx.take bx0.length):=by rw[<-hqx];exact(mC _ _).symm
 have hql1:(qs.take nn).length=nn:=by rw[nF,g3,oJ,hn];omega
 have hne:((List.range bx0.length).map some++s.map (·.1)).map (fun u=>Option.bind u e.at)=e.take bx0.length++s.env e:=by
  rw[mX];congr 1
  ·apply nO;intro i;by_cases hi:i<bx0.length
   ·rw[oc];have:i<e.length:=by omega
    simp[hi,Env.at,oA,this]
   ·rw[oS (by simp;omega),oS (by simp;omega)]
  ·simp[Sel.env]
 have hatk:∀ k,k<bx0.length->Env.at (e.take bx0.length++s.env e) k=e.at k:=fun k hk=>by rw[Env.at_app,if_pos (by rw[hEl];exact hk)];simp[Env.at,oA,oc,hk]
 have hus:∀(j:Nat) u,((List.range bx0.length).map some++s.map (·.1))[j]?=some u->(j<bx0.length/\u=some j)\/∃ x,s[j - bx0.length]?=some x/\bx0.length<=j/\u=x.1:=fun j u hj=>by
  by_cases hlt:j<bx0.length
  ·rw[oN (by simpa using hlt)]at hj;simp[hlt]at hj;exact .inl ⟨hlt,hj.symm⟩
  ·rw[oR (by simp;omega)]at hj;simp only[oW,List.length_range,oE]at hj;cases hx:s[j - bx0.length]? with
   | none=>simp[hx]at hj
   | some x=>simp[hx]at hj;exact .inr ⟨x,rfl,by omega,hj.symm⟩
 have hnb:∀(j:Nat) (B:Bx),(st1.bx.take bx0.length++s.rows)[j]?=some B->(j<bx0.length/\st1.bx[j]?=some B)\/∃ x,s[j - bx0.length]?=some x/\bx0.length<=j/\B=x.2:=fun j B hj=>by
  by_cases hlt:j<bx0.length
  ·rw[oN (by rw[ul];exact hlt),htk j hlt]at hj;exact .inl ⟨hlt,hj⟩
  ·rw[oR (by rw[ul];omega),ul]at hj;simp only[Sel.rows,oE]at hj;cases hx:s[j - bx0.length]? with
   | none=>simp[hx]at hj
   | some x=>simp[hx]at hj;exact .inr ⟨x,rfl,by omega,hj.symm⟩
 have hsel:∀(i:Nat) x k,s[i]?=some x->x.1=some k->bx0.length<=k/\∃ B,st1.bx[k]?=some B/\B≠.gone:=fun i x k hx hk=>by
  refine⟨?_,?_⟩
  ·have:=g2.un k (nl.2 ⟨x,oB hx,hk⟩)
   simpa using this
  ·rcases g2.at_ x (oB hx)with⟨h5,_⟩ | ⟨k2,h5,h6,h7⟩
   ·rw[h5]at hk;cases hk
   ·rw[hk]at h5;cases h5;exact⟨x.2,h6,h7.sp.1⟩
 obtain ⟨m1,m2,m3⟩:=Nq (us:=(List.range bx0.length).map some++s.map (·.1)) (nb:=st1.bx.take bx0.length++s.rows) (av':=av) h3.toMem (fun b hb=>.inl hb) (by simp[Sel.rows,ul])
  (fun i j k hi hj=>by
   rcases hus i _ hi with⟨a1,a2⟩ | ⟨x,a1,a2,a3⟩<;>rcases hus j _ hj with⟨b1,b2⟩ | ⟨y,b1,b2,b3⟩
   ·cases a2;cases b2;rfl
   ·cases a2;have:=(hsel _ y _ b1 b3.symm).1;omega
   ·cases b2;have:=(hsel _ x _ a1 a3.symm).1;omega
   ·have key:∀(s:Sel) (i j:Nat) (x y:Option Nat × Bx),(s.filterMap (·.1)).Nodup->s[i]?=some x->s[j]?=some y->x.1=some k->y.1=some k->i=j:=by
     intro s
     induction s with
     | nil=>intro i j x y _ hx;simp at hx
     | cons u s ih=>
       intro i j x y hn hx hy hxk hyk;have hn':(s.filterMap (·.1)).Nodup:=by
        cases hu:u.1 with
        | none=>simpa [hu]using hn
        | some m=>simp only[mB,hu]at hn;exact(mA.1 hn).2
       have hnm:u.1=some k->k∉s.filterMap (·.1):=fun hu=>by simp only[mB,hu]at hn;exact(mA.1 hn).1
       cases i with
       | zero=>
         simp at hx;subst hx;cases j with
         | zero=>rfl
         | succ j=>simp at hy;exact absurd (nl.2 ⟨y,oB hy,hyk⟩) (hnm hxk)
       | succ i=>
         simp at hx;cases j with
         | zero=>simp at hy;subst hy;exact absurd (nl.2 ⟨x,oB hx,hxk⟩) (hnm hyk)
         | succ j=>simp at hy;rw[ih i j x y hn' hx hy hxk hyk]
    have:=key s _ _ x y g2.nd a1 b1 a3.symm b3.symm
    omega)
  (fun j B hj=>by
   rcases hnb j B hj with⟨a1,a2⟩ | ⟨x,a1,a2,rfl⟩
   ·refine .inr ⟨j,B,?_,by simp,a2,⟨?_⟩⟩
    ·rw[oN (by simpa using a1)];simp[a1]
    ·rw [hne];cases B with
     | var cs=>
       refine .inr (.inr ⟨cs,cs,rfl,rfl,rfl,fun i q hq=>.inr ⟨q,hq,id,?_,fun _ _=>id,id,fun r hr=>?_⟩⟩)
       ·have hr:∀ r∈q.refs,r<bx0.length:=fun r hr=>hrefs j _ a1 a2 r (by simp only[Bx.refs];exact PV.refsL_mem.2 ⟨q,oB hq,hr⟩);exact(PV.cv_congr q fun r hr2=>hatk r (hr r hr2)).symm
       ·have:=hrefs j _ a1 a2 r (by simp only[Bx.refs];exact PV.refsL_mem.2 ⟨q,oB hq,hr⟩)
        simp;omega
     | _=>exact .inr (.inl ⟨rfl,by simp⟩)
   ·have hjs:((List.range bx0.length).map some++s.map (·.1))[j]?=some x.1:=by rw[oR (by simp;omega)];simp[a1]
    rcases g2.at_ x (oB a1)with⟨h5,t,z,h6⟩ | ⟨k2,h5,h6,h7⟩
    ·exact .inl ⟨by rw[hjs,h5],t,z,h6⟩
    ·exact .inr ⟨k2,x.2,by rw[hjs,h5],by simp,h6,WN h7⟩)
 rw[hne]at m1 m2 m3;have hng:∀ k b,k<bx0.length->e.at k=some b->Lives [] e st1.bx k b:=fun k b hk hb=>by
  obtain⟨B,hB⟩:∃ B,st1.bx[k]?=some B:=⟨_,oI (by omega)⟩
  exact⟨by simp,hb,B,hB,hgn k B hk hB⟩
 refine Jf hk hf h3.nd (A2 hrun) ⟨qs.take nn,F0 (st1.bx.take bx0.length),s.rows,e.take bx0.length++s.env e,?_,{
  q:=by rw[<-hqs];exact g1
  v:=?_
  m:=by rw[hupd];exact m1
  ok:=fun q hq=>?_
  fix:=fun k B hB ha=>?_
  fresh:=fun k b hb=>?_
  size:=h3.size
  old:=h3.old
  fz:=h3.fz
  ku:=h3.ku
  ns:=fun p hp=>(hns p hp).2
  be:=OJ h3.toMem rfl fun B hB=>ol hB }⟩
 ·exact hql1
 ·rcases hbk with⟨gn,gp⟩ | ⟨j,l,t,z,es,c,gf,gps,gj,gm,gp⟩
  ·rw[GK gn];rw[gp]at g4 g3;rcases hpk with⟨gk,hpk⟩ | ⟨cs,gk,hcs,hpk⟩
   rotate_left
   ·have hqC:=QT.app_pk gk g1;obtain⟨v,hv0,hvo⟩:=hres 0 (.pg cs) (by rw[hcs];rfl);have hvs:vs=[v]:=by
     have h5:vs.length=1:=by rw[hvn,<-hr0,hcs];rfl
     rcases vs with _ | ⟨u,_ | _⟩<;>simp at h5 hv0
     subst hv0;rfl
    have hok:=hvo.2.1;simp only[PV.Ok]at hok;rw[hvs,gk];simp only[XP,PJ];rw[hvo.1.resolve_left (by simp)];simp only[PV.val,PV.val1,PV.cvs_eq];congr 2;apply nO;intro i;rw[oE,oE];have hcl:cs.length=nn:=by rw[<-hkn,hpk]
    by_cases hi:i<nn
    ·have hlt:i<(qs.take nn).length:=by omega
     have hq:=oI hlt;have hq2:qs[i]?=some (qs.take nn)[i]:=by rw[<-hq,oc];simp[hi]
     obtain⟨x,hp⟩:∃ x,cs[i]?=some x:=⟨_,oI (by omega)⟩
     have hp2:(psk++F0 (st1.bx.take bx0.length))[i]?=some x:=by rw[oN (by omega),hpk];exact hp
     have h5:=g4 _ hEl i _ _ hp2 hq2;rw[hq,hp];simp only[oa,nB];rw[<-J5 (hok.2 _ (oB hp)),h5.1,IA (hqC _ (oB hq2))]
    ·rw[oS (by omega),oS (by omega)];rfl
   have hfn:fn.resultTypes.size=nn:=by rw[<-hr0,<-hpk,<-hkn]
   rw[gk];have hv:vs=(qs.take nn).map (PV.val1 (e.take bx0.length++s.env e)):=by
    apply nO;intro i;rw[oE];by_cases hi:i<nn
    ·have hlt:i<(qs.take nn).length:=by omega
     have hq:=oI hlt;have hq2:qs[i]?=some (qs.take nn)[i]:=by rw[<-hq,oc];simp[hi]
     have hp:psk[i]?=some psk[i]:=oI (by omega);obtain⟨v,hv,hvo⟩:=hres i _ (by rw[<-hpk];exact hp);have hp2:(psk++F0 (st1.bx.take bx0.length))[i]?=some psk[i]:=by rw[oN (by omega)];exact hp
     have h5:=g4 _ hEl i _ _ hp2 hq2;rw[hv,hq,hvo.1.resolve_left h5.2.2.1,h5.1];rfl
    ·rw[oS (by omega),oS (by omega)];rfl
   rw[hv];simp only[PJ];unfold Rn;rcases qs.take nn with _ | ⟨q,_ | ⟨r,qs⟩⟩<;>rfl
  ·rcases hpk with⟨gk,hpk⟩ | ⟨cs,gk,_,_⟩
   rotate_left
   ·rw[gf]at gk;cases gk
   have h1:psk[0]?=some (.sb j z 0 es.length c):=by rw[gps];rfl
   obtain⟨v,hv,hvo⟩:=hres 0 _ (by rw[<-hpk];exact h1);have hlen:vs.length=1:=by rw[hvn,<-hr0,<-hpk,gps];rfl
   have hvs:vs=[v]:=by
    match vs,hlen with
    | [v'],_=>simp at hv;rw[hv]
   have hUj:(KR bx0 (F0 (st1.bx.take bx0.length)))[j]?=some (.arr t z es c):=by rw[hupd,htk j gm];exact gj
   rw[hvs,gf];simp only[Py,hUj,PV.cv,hatk j gm]
   have:=hvo.1.resolve_left (by simp)
   rw[this];rfl
 ·rw[hupd];obtain⟨i,hi⟩:=oQ.1 hq;have hlt:=(oD.1 hi).1;rw[hql1]at hlt;have hq2:qs[i]?=some q:=by rw[<-hi,oc];simp[hlt]
  have hp:(Rz full psk)[i]?=some (Rz full psk)[i]:=oI (by omega);have hvo:=hprOk _ (oB hp);have hp2:(Rz full psk++F0 (st1.bx.take bx0.length))[i]?=some (Rz full psk)[i]:=by rw[oN (by omega)];exact hp
  exact PV.Ok.mono (fun _ _ _=>rfl) (oC _) (fun b _=>m2 b) q ((g4 _ hEl i _ _ hp2 hq2).2.1 hvo)
 ·have hkl:=(oD.1 hB).1;have h5:=LQ (E:=E) bx0 0 k B hB ha;rw[<-hpins,ow]at h5;rw[hatk k hkl];exact(h3.pin k _ h5).1
 ·by_cases hkl:k<bx0.length
  ·rw[hatk k hkl]at hb;rcases h3.own k b (hng k b hkl hb)with h5 | ⟨h5,_⟩
   ·exact .inl h5
   ·exact .inr ⟨hkl,h5⟩
  ·rw [Env.at_app,if_neg (by omega),hEl]at hb;cases hx:s[k - bx0.length]? with
   | none=>simp[Sel.env,Env.at,oA,hx]at hb
   | some x=>
     simp only[Sel.env,Env.at,oA,oE,hx,oa,nK]at hb;cases hxk:x.1 with
     | none=>rw[hxk]at hb;cases hb
     | some k2=>
       rw[hxk]at hb;obtain⟨h5,B,h6,h7⟩:=hsel _ x k2 hx hxk;rcases h3.own k2 b ⟨by simp,hb,B,h6,h7⟩with h8 | ⟨_,h8⟩
       ·exact .inl h8
       ·rw[hpins,pU]at h8;omega
variable {av:Nat->Prop} {P:Program} {w0 w w':World} {e0 e:Env} {pS pS' pB pB':List Nat} {a:Act} {st st':St}
structure Hint where
 cuts:List Cut:=[]
 joins:List Cut:=[]
 ords:List (Nat × List Ent):=[]
def eh (i:Nat):Ent:={ i:=i,hard:=true }
def en (i:Nat):Ent:={ i:=i }
def ec (i:Nat)(cl:List Nat):Ent:={ i:=i,hard:=true,cl:=cl }
def em (i:Nat)(I:Option Nat)(keep:List Nat)(same:Option Nat:=none):Ent:={ i:=i,hard:=true,mh:=some { place:=I,keep:=keep,same:=same } }
def W1 (i:Nat):List Ent->Ent
 | []=>eh i
 | e::l=>match Nat.beq e.i i with
   | true=>e
   | false=>W1 i l
def Zl (l:List Ent)(n:Nat):Nat->List Ent
 | 0=>[]
 | k+1=>W1 (n - (k+1)) l::Zl l n k
def hs (n:Nat)(l:List Ent):List Ent:=Zl l n n
def hc (id:Nat)(keep:List Nat)(nils:List (Nat × TypeId × Nat):=[])(bnils:List (Nat × Nat × TypeId × Nat):=[]):Cut:={ id:=id,keep:=keep,nils:=nils,bnils:=bnils }
def an:Nat->List PV->List PV
 | 0,l=>l
 | n+1,l=>.any::an n l
def Cv:Code->Option Nat
 | .region id _ _=>some id
 | .seq a b=>match Cv a with
   | some i=>some i
   | none=>Cv b
 | .block _ c=>Cv c
 | .loop c=>Cv c
 | _=>none
def M3:List Cut->Nat->Option Cut
 | [],_=>none
 | c::l,id=>match Nat.beq c.id id with
   | true=>some c
   | false=>M3 l id
def R3:List (Nat × List Ent)->Nat->Option (List Ent)
 | [],_=>none
 | (i,o)::l,id=>match Nat.beq i id with
   | true=>some o
   | false=>R3 l id
def UF (n:Nat):List Ent:=(List.range n).map λi=>{ i:=i,hard:=true }
def S5 (H:Hint)(id:Nat)(ops:Array Oper):List Ent:=match R3 H.ords id with
 | some o=>o
 | none=>UF ops.size
def Xd (first:Bool)(H:Hint)(id:Nat):Option Cut:=match first with
 | true=>none
 | false=>M3 H.joins id
def Yd (N0:Option Nat)(H:Hint)(c:Code)(st:St)(K:St->Prop):Prop:=match Cv c with
 | some id=>match M3 H.cuts id with
   | some cut=>Yx N0 cut st λst=>EO st K
   | none=>False
 | none=>False
def Yl (st:St)(c:Operand)(v:Bool):St:=match c with
 | .tmp t=>st.put (some t) (.bool v)
 | _=>st
def YJ (st:St)(c:Operand)(A B:St->Prop):Prop:=match opd st.sl c with
 | .bool v=>Br v (A (Yl st c true)) (B (Yl st c false))
 | _=>False
inductive Mode where
 | ord
 | io (E:Env) (bx0:List Bx)
def Mode.env0:Mode->Env
 | .ord=>[]
 | .io E _=>E
def Mode.n0:Mode->Nat->Option Nat
 | .ord,N=>some N
 | .io ..,N=>some N
def Mode.fin (M:Mode)(P:Program)(f:FuncId)(rs:List Sh)(Q:QT rs)(av:Nat->Prop)(w0:World):Ending->World->Prop:=match M with
 | .ord=>Fin rs Q av w0
 | .io E bx0=>Ys rs Q (Jl P f rs bx0) av w0 E bx0
def ZD (P:Program)(f:FuncId)(rs:List Sh)(Q:QT rs)(N0:Nat)(M:Mode)(st:St):Prop:=match M with
 | .ord=>Za P f rs Q (some N0) st
 | .io E bx0=>Zb P f rs Q (some N0) E bx0 st
structure AT (P:Program) (f:FuncId) (rs:List Sh) (Q:QT rs) (N0:Nat) (M:Mode) (k:List Item) (st:St):Prop where
 h:∀(av:Nat->Prop) (w0:World) (a:Act) (w:World) (e:Env),w0.heap.size=N0->Rel av w0 M.env0 [] [] a w e st->RH P f k (M.fin P f rs Q av w0) a w
def W (P : Program) (sh:FuncId->List Sh) (f:FuncId) (rs:List Sh) (Q:QT rs) (N0:Nat) (M:Mode) (H:Hint):Nat->Bool->List Item->St->Prop
 | 0,_,_,_=>False
 | n + 1,first,J,st=>match J with
   | []=>ZD P f rs Q N0 M st
   | .inBlock _::k=>W P sh f rs Q N0 M H n first k st
   | .inLoop c::k=>Yd (M.n0 N0) H c st λst=>AT P f rs Q N0 M (.code c::.inLoop c::k) st
   | .code c::k=>match c with
     | .skip=>W P sh f rs Q N0 M H n first k st
     | .label _=>W P sh f rs Q N0 M H n first k st
     | .ret=>ZD P f rs Q N0 M st
     | .seq x y=>W P sh f rs Q N0 M H n first (.code x::.code y::k) st
     | .cond c x y=>YJ st c (λst=>W P sh f rs Q N0 M H n false (.code x::k) st) (λst=>W P sh f rs Q N0 M H n false (.code y::k) st)
     | .block id c=>W P sh f rs Q N0 M H n first (.code c::.inBlock id::k) st
     | .loop c=>Yd (M.n0 N0) H c st λst=>AT P f rs Q N0 M (.code c::.inLoop c::k) st
     | .exit id=>match exitTo id k with
       | some O=>W P sh f rs Q N0 M H n false O st
       | none=>False
     | .region id ops I=>match Xd first H id with
       | some cut=>Yx (M.n0 N0) cut st λst=>EO st λst=>AT P f rs Q N0 M (.code (.region id ops I)::k) st
       | none=>match I with
         | true=>match chk ops (S5 H id ops)with
           | true=>OI P sh (M.n0 N0) ops (S5 H id ops) [] st λst=>EO st λst=>W P sh f rs Q N0 M H n false k st
           | false=>False
         | false=>match MB ops.size (S5 H id ops)with
           | true=>OI P sh (M.n0 N0) ops (S5 H id ops) [] st λst=>EO st λst=>W P sh f rs Q N0 M H n false k st
           | false=>False
     | _=>False
   | _=>False
theorem nok (M:Mode)(w0:World):NOk (M.n0 w0.heap.size) w0:=λn I=>by
 cases M with
 | ord=>cases I;rfl
 | io=>cases I;rfl
theorem Il (h:Rel av w0 e0 [] [] a w e st){N0:Option Nat}(I:NOk N0 w0){H:Hint}{c:Code}{K:St->Prop}(hs:Yd N0 H c st K):∃ e' st',K st'/\Rel av w0 e0 [] [] a w e' st':=by
 unfold Yd at hs;split at hs
 ·split at hs
  ·obtain⟨e',st',J,O⟩:=IC h I hs;rw[pa]at J;exact⟨e',st',J,O⟩
  ·exact hs.elim
 ·exact hs.elim
theorem K0 {c:Operand}{v:Bool}(h:opd st.sl c=.bool v):Yl st c v=st:=by
 cases c with
 | tmp t=>
   simp only[opd,oA]at h;cases I:st.sl[t]? with
   | none=>rw[I]at h;cases h
   | some p=>rw[I]at h;simp at h;subst h;exact JU I
 | _=>rfl
theorem IX {rs:List Sh}{Q:QT rs}{M:Mode}{f:FuncId}{k:List Item}(h:Rel av w0 M.env0 [] [] a w e st)(I:k=[]\/∃ J,k=.code .ret::J)(hs:ZD P f rs Q w0.heap.size M st):RH P f k (M.fin P f rs Q av w0) a w:=by
 cases M with
 | ord=>exact O4 h I (nok .ord w0) hs
 | io E bx0=>exact Pk h I (nok .ord w0) hs
theorem Ma {sh:FuncId->List Sh} {f:FuncId} {rs:List Sh} {Q:QT rs} {N0:Nat} {M:Mode} {H:Hint} (hm:P.follows .mixedOrders=true) :
  ∀(n:Nat) (first:Bool) (I:List Item) (st:St),W P sh f rs Q N0 M H n first I st->AT P f rs Q N0 M I st:=by
 intro n
 induction n with
 | zero=>intro first I st h;exact h.elim
 | succ n J=>
   intro first I st hs
   refine⟨λav w0 a w e hN h=>?_⟩;subst hN;cases I with
   | nil=>exact IX h (.inl rfl) hs
   | cons it k=>
     cases it with
     | inBlock id=>exact ym (λcs=>step_inBlock) ((J _ _ _ hs).h av w0 a w e rfl h)
     | inLoop c=>obtain⟨e',st',U,Y⟩:=Il h (nok M w0) hs;exact ym (λcs=>step_inLoop) (U.h av w0 a w e' rfl Y)
     | code c=>
       cases c with
       | skip=>exact ym (λcs=>step_skip) ((J _ _ _ hs).h av w0 a w e rfl h)
       | label l=>exact ym (λcs=>step_label) ((J _ _ _ hs).h av w0 a w e rfl h)
       | ret=>exact IX h (.inr ⟨_,rfl⟩) hs
       | seq x y=>exact ym (λcs=>step_seq) ((J _ _ _ hs).h av w0 a w e rfl h)
       | block id c=>exact ym (λcs=>step_block) ((J _ _ _ hs).h av w0 a w e rfl h)
       | loop c=>obtain⟨e',st',U,Y⟩:=Il h (nok M w0) hs;exact ym (λcs=>step_loop) (U.h av w0 a w e' rfl Y)
       | cond c x y=>
         simp only[W,YJ]at hs;split at hs
         ·rename_i v hv;have aa:a.eval c=.bool v:=by
           have:=(vP h (x:=c) (by simp)).h.resolve_left (by rw[hv];simp)
           rw[this,hv];rfl
          rcases hs.spec with⟨rfl,hs⟩ | ⟨rfl,hs⟩
          ·rw[K0 hv]at hs;exact ym (λcs=>step_cond aa) ((J _ _ _ hs).h av w0 a w e rfl h)
          ·rw[K0 hv]at hs;exact ym (λcs=>step_cond aa) ((J _ _ _ hs).h av w0 a w e rfl h)
         ·exact hs.elim
       | exit id=>
         simp only[W]at hs;split at hs
         ·rename_i k' hk;exact ym (λcs=>step_exit hk) ((J _ _ _ hs).h av w0 a w e rfl h)
         ·exact hs.elim
       | region id ops ab=>
         simp only[W]at hs;split at hs
         ·obtain⟨e',st',U,Y⟩:=IC h (nok M w0) hs;rw[pa]at U;exact U.h av w0 a w e' rfl Y
         ·have key:∀ a w e st,EO st (λst=>W P sh f rs Q w0.heap.size M H n false k st)->Rel av w0 M.env0 [] [] a w e st->Exit.normal=.normal/\RH P f k (M.fin P f rs Q av w0) a w:=λa w e st hf hr=>by rw[pa]at hf;exact⟨rfl,(J _ _ _ hf).h av w0 a w e rfl hr⟩
          split at hs
          ·split at hs
           ·rename_i O;exact CJ (Pa (nok M w0) hm O h hs key)
           ·exact hs.elim
          ·split at hs
           ·rename_i O;exact CJ (PA (nok M w0) O h hs key)
           ·exact hs.elim
       | _=>exact hs.elim
     | _=>exact hs.elim
def sU (id:Nat):Code->List Item->Option (List Item)
 | .seq x y,k=>match sU id x (.code y::k)with
   | some r=>some r
   | none=>sU id y k
 | .cond _ x y,k=>match sU id x k with
   | some r=>some r
   | none=>sU id y k
 | .block i c,k=>sU id c (.inBlock i::k)
 | .loop c,k=>match Cv c with
   | some j=>match Nat.beq j id with
     | true=>some (.code c::.inLoop c::k)
     | false=>sU id c (.inLoop c::k)
   | none=>sU id c (.inLoop c::k)
 | _,_=>none
def rv (id:Nat):Code->List Item->Option (List Item)
 | .seq x y,k=>match rv id x (.code y::k)with
   | some r=>some r
   | none=>rv id y k
 | .cond _ x y,k=>match rv id x k with
   | some r=>some r
   | none=>rv id y k
 | .block i c,k=>rv id c (.inBlock i::k)
 | .loop c,k=>rv id c (.inLoop c::k)
 | .region j ops I,k=>match Nat.beq j id with
   | true=>some (.code (.region j ops I)::k)
   | false=>none
 | _,_=>none
def Uh (P:Program)(f:FuncId):Code:=match P.funcs[f]? with
 | some fn=>match fn.body with
   | some c=>c
   | none=>.skip
 | none=>.skip
def zG (P:Program)(f:FuncId)(id:Nat):List Item:=match sU id (Uh P f) []with
 | some k=>k
 | none=>[]
def wG (P:Program)(f:FuncId)(id:Nat):List Item:=match rv id (Uh P f) []with
 | some k=>k
 | none=>[]
def F7 (n:Nat)(args:List PV):List PV:=args++List.replicate (n - args.length) .any
def Lw (P:Program)(sh:FuncId->List Sh)(f:FuncId)(rs:List Sh)(Q:QT rs)(N:Nat)(H:Hint)(fuel:Nat)(args:List PV):Prop:=match P.funcs[f]? with
 | some fn=>match fn.body with
   | some c=>Tw N args (EO { sl:=F7 fn.ntmps args,bx:=[],N:=N } λst=>W P sh f rs Q N .ord H fuel true [.code c] st)
   | none=>False
 | none=>False
theorem V4 {sh:FuncId->List Sh} {f:FuncId} {rs:List Sh} {Q:QT rs} {N:Nat} {H:Hint} {fuel:Nat} {args:List PV} (hm:P.follows .mixedOrders=true) (hc:wE P f=true)
  (h:Lw P sh f rs Q N H fuel args):ACalls P f rs args N Q:=by
 refine⟨hc,λav w0 hN ah O=>?_⟩;subst hN;unfold Lw at h;split at h
 rotate_left
 ·exact h.elim
 rename_i fn hf;split at h
 rotate_left
 ·exact h.elim
 rename_i c hb;have h:=vu (λp J=>by
  have ab:=(O p J).1;cases p<;>simp only[PV.Ok]at ab ⊢
  ·exact ab.1.lt
  ·exact ab.1.1.lt) h
 rw[pa]at h;have hw:=Ma hm _ _ _ _ h;refine Hm hf hb (hw.h av w0 _ w0 [] rfl ?_);have U:∀(i:Nat) (p:PV),(F7 fn.ntmps args)[i]?=some p->p=.any\/(p∈args/\args[i]?=some p):=λi p J=>by
  unfold F7 at J;by_cases hi:i<args.length
  ·rw[oN hi]at J;exact .inr ⟨oB J,J⟩
  ·rw[oR (by omega)]at J;exact .inl (nk (oB J))
 have aa:∀ k b,¬Lives [] [] ([]:List Bx) k b:=λk b ⟨_,_,B,h3,_⟩=>by simp at h3
 have ac:∀ b,za av [] [] ([]:List Bx) b->av b:=λb hb=>hb.elim id λ⟨k,I⟩=>absurd I (aa k b);exact {
  el:=rfl
  br:=λk B I _=>by simp at I
  bo:=λk B I _=>by simp at I
  bf:=λk B I _=>by simp at I
  inj:=λk j b I _=>absurd I (aa k b)
  ku:=.rfl
  size:=oC _
  old:=λ_ _ _=>rfl
  fz:=λb c t z hb hc=>by
   rcases hb with hb | hb
   ·have:=(oX.1 hc).1;omega
   ·exact absurd hb (by simp[Mode.env0])
  nd:=rfl
  sz:=by simp[F7]
  hN:=oC _
  hs:=λi p J _=>by
   rcases U i p J with Y | ⟨Y,h2⟩
   ·exact .inl Y
   ·right;have ae:=(oD.1 h2).1;have:i<args.toArray.size:=by simpa using ae
    simp[Array.getElem?_append,ae];rw[(oD.1 h2).2]
  so:=λi p J _=>by
   rcases U i p J with Y | ⟨Y,h2⟩
   ·subst Y;trivial
   ·exact PV.Ok.mono (λ_ _ _=>rfl) (oC _) (λb _=>ac b) p (O p Y).1
  sr:=λi p J _ k I=>by
   rcases U i p J with Y | ⟨Y,h2⟩
   ·subst Y;simp[PV.refs]at I
   ·rw[(O p Y).2]at I;simp at I
  own:=λk b I=>absurd I (aa k b)
  avl:=ah
  avn:=λk b I=>absurd I (aa k b)
  pin:=λk b hb=>by simp[St.pins]at hb
  pit:=λb T hb=>by cases hb }
def bytes (l:List Nat):ByteArray:=⟨(l.map UInt8.ofNat).toArray⟩
def Qy (f:Nat):List (Nat × List Sh)->List Sh
 | []=>[]
 | (g,s)::l=>match Nat.beq g f with
   | true=>s
   | false=>Qy f l
theorem Uf {P:Program} {sh:FuncId->List Sh} {f:FuncId} {rs:List Sh} {Q:QT rs} {N:Nat} {H:Hint} {fuel:Nat} {args:List PV} {F:Prop} (I:P.follows .mixedOrders=true) (hc:wE P f=true)
 (J:F=Lw P sh f rs Q N H fuel args) (h:F):ACalls P f rs args N Q:=V4 I hc (J ▸ h)
theorem X7 {P:Program} {sh:FuncId->List Sh} {f:FuncId} {rs:List Sh} {Q:QT rs} {N0:Nat} {M:Mode} {H:Hint} {fuel:Nat} {I:List Item} {st:St} {F:Prop} (O:P.follows .mixedOrders=true)
 (J:F=EO st λst=>W P sh f rs Q N0 M H fuel true I st) (h:F):AT P f rs Q N0 M I st:=Ma O fuel true I st (by rw[pa]at J;exact J ▸ h)
theorem QF {av:Nat->Prop} {args:List PV} {bx:List Bx} {e e0:Env} {pin:Option (List (Option Nat) × List Nat)} {Y:Nat} {w0:World} (hm:Mem av [] w0 e bx) (U:∀ p∈args,p.Ok w0 (za av [] e bx)/\∀ k∈p.refs,k<bx.length)
  (aa:Avl av w0 e0) (ab:∀ k b,Lives [] e bx k b->¬av b)
  (ac:∀ k b,Lives [] e bx k b->some b∈e0/\k<(St.pins ⟨F7 Y args,bx,w0.heap.size,pin⟩).length) (ai:∀(b:Nat) (c:Array Value) (t:TypeId) (z:Nat × Nat),some b∈e0->w0.heap[b]?=some (.cells c t z)->Fz z)
  (ae:∀ k b,(St.pins ⟨F7 Y args,bx,w0.heap.size,pin⟩)[k]?=some (some b)->e.at k=some b) (ah:∀ L T,pin=some (L,T)->∀ x∈T,some x∈e0) :
  Rel av w0 e0 [] [] { tmps:=(args.map (PV.val e)).toArray++Array.replicate (Y - (args.map (PV.val e)).toArray.size) undef,defers:=[] } w0 e { sl:=F7 Y args,bx:=bx,N:=w0.heap.size,pin:=pin }:=by
 have J:∀(i:Nat) (p:PV),(F7 Y args)[i]?=some p->p=.any\/(p∈args/\args[i]?=some p):=λi p I=>by
  unfold F7 at I;by_cases hi:i<args.length
  ·rw[oN hi]at I;exact .inr ⟨oB I,I⟩
  ·rw[oR (by omega)]at I;exact .inl (nk (oB I))
 exact {
  toMem:=hm
  ku:=.rfl
  size:=oC _
  old:=λ_ _ _=>rfl
  fz:=λb c t z hb hc=>by
   rcases hb with hb | hb
   ·have:=(oX.1 hc).1;omega
   ·exact ai b c t z hb hc
  nd:=rfl
  sz:=by simp[F7]
  hN:=oC _
  hs:=λi p I _=>by
   rcases J i p I with O | ⟨O,h2⟩
   ·exact .inl O
   ·right;have aj:=(oD.1 h2).1;simp[Array.getElem?_append,aj];rw[(oD.1 h2).2]
  so:=λi p I _=>by
   rcases J i p I with O | ⟨O,h2⟩
   ·subst O;trivial
   ·exact(U p O).1
  sr:=λi p I _ k hk=>by
   rcases J i p I with O | ⟨O,h2⟩
   ·subst O;simp[PV.refs]at hk
   ·exact⟨by simp,(U p O).2 k hk⟩
  own:=λk b hk=>.inr (ac k b hk)
  avl:=aa
  avn:=ab
  pin:=λk b hb=>⟨ae k b hb,by simp⟩
  pit:=ah }
def Kg (P:Program)(sh:FuncId->List Sh)(f:FuncId)(full:List Sh)(Q:QT full)(N:Nat)(H:Hint)(fuel:Nat)(args:List PV)(bx:List Bx)(E:Env):Prop:=match P.funcs[f]? with
 | some fn=>match fn.body with
   | some c=>match bx.all λB=>!NY B with
     | true=>Tw N (args++F0 bx) (EO { sl:=F7 fn.ntmps args,bx:=bx,N:=N,pin:=some (x9 E 0 (bx.map xP),[]) } λst=>W P sh f full Q N (.io E (bx.map xP)) H fuel true [.code c] st)
     | false=>False
   | none=>False
 | none=>False
theorem Ql (bx:List Bx)(E:Env):∀ n,x9 E n (bx.map xP)=x9 E n bx:=by
 induction bx with
 | nil=>intro n;rfl
 | cons B bs I=>intro n;cases B<;>simp[x9,xP,I]
theorem IB {E:Env}:∀(bs:List Bx)(k j b:Nat),(x9 E k bs)[j]?=some (some b)->b=(E.at (k+j)).getD 0/\∃ B,bs[j]?=some B/\((∃ cs,B=.var cs)\/∃ x n,B=.vd x n)
 | [],k,j,b,h=>by simp[x9]at h
 | B::bs,k,0,b,h=>by
   cases B<;>simp[x9]at h
   ·exact⟨by simp[h],_,rfl,.inl ⟨_,rfl⟩⟩
   ·exact⟨by simp[h],_,rfl,.inr ⟨_,_,rfl⟩⟩
 | B::bs,k,j+1,b,h=>by simp only[x9,nq]at h;obtain⟨I,J⟩:=IB bs (k+1) j b h;exact⟨by rw[I,show k+1+j=k+(j+1) by omega],by simpa using J⟩
theorem V1 {P:Program} {sh:FuncId->List Sh} {f:FuncId} {full:List Sh} {Q:QT full} {N:Nat} {H:Hint} {fuel:Nat} {args:List PV} {bx:List Bx} (hm:P.follows .mixedOrders=true) (hc:wE P f=true)
  (O:∀ E,Kg P sh f full Q N H fuel args bx E):BCalls P f full args bx N Q:=by
 refine⟨hc,λav w0 E hN ai I ae ac=>?_⟩;subst hN;have O:=O E;unfold Kg at O;split at O
 rotate_left
 ·exact O.elim
 rename_i fn hf;split at O
 rotate_left
 ·exact O.elim
 rename_i code hb;split at O
 rotate_left
 ·exact O.elim
 rename_i aa;simp only[oY,nc]at aa;have aa:∀ B∈bx,B≠.gone:=λB hB hc=>by have:=aa B hB;subst hc;simp[NY]at this
 have O:=vu (λp hp=>by
  have:Wo w0.heap.size p:=by
   rcases oK.1 hp with hp | hp
   ·exact P6 (ac p hp).1
   ·exact OJ I rfl (λB hB=>hB) p hp
  cases p<;>first | exact this | trivial) O
 rw[pa]at O;have aj:=Ma hm _ _ _ _ O;refine Hm hf hb (aj.h av w0 _ w0 E rfl (QF I ac ai ae (λk b hk=>?_) (λb c t z ah hc=>?_) (λk b hk=>?_) (λL T h=>by cases h;simp)))
 ·obtain⟨_,J,B,h2,_⟩:=hk;refine⟨?_,by simp only[St.pins,pU,oW];exact(oD.1 h2).1⟩;simp only[Mode.env0];unfold Env.at at J;rw[oA]at J;cases he:E[k]? with
  | none=>rw[he]at J;cases J
  | some u=>rw[he]at J;simp at J;subst J;exact oB he
 ·simp only[Mode.env0]at ah;obtain⟨k,hk⟩:=oQ.1 ah;have ak:E.at k=some b:=by simp[Env.at,oA,hk]
  have al:k<bx.length:=by rw[<-I.el];exact(oD.1 hk).1
  have hB:bx[k]?=some bx[k]:=oI al;have Y:=I.br k _ hB (by simp);have hg:=aa _ (oB hB);rw[ak]at Y;cases ab:bx[k]with
  | var cs=>rw[ab]at Y;obtain⟨b',c',t',U,g2,_⟩:=Y;cases U;rw[g2]at hc;cases hc;exact fz0
  | vd x n=>rw[ab]at Y;obtain⟨b',c',t',U,g2,_⟩:=Y;cases U;rw[g2]at hc;cases hc;exact fz0
  | arr t0 z0 es n=>
    rw[ab]at Y;rcases Y with⟨U,_⟩ | ⟨b',c',U,g2,_⟩
    ·cases U
    ·cases U;rw[g2]at hc;cases hc;exact fz0
  | gone=>exact absurd ab hg
 ·simp only[St.pins,Ql]at hk;obtain⟨J,B,h2,h3⟩:=IB _ _ _ _ hk;rw[ow]at J;have Y:=I.br k _ h2 (by simp);rcases h3 with⟨cs,rfl⟩ | ⟨x,n,rfl⟩
  ·obtain⟨b',c',t',U,_⟩:=Y;rw[U]at J ⊢;simp at J;rw[J]
  ·obtain⟨b',c',t',U,_⟩:=Y;rw[U]at J ⊢;simp at J;rw[J]
theorem Q4 {P:Program} {sh:FuncId->List Sh} {f:FuncId} {full:List Sh} {Q:QT full} {N:Nat} {H:Hint} {fuel:Nat} {args:List PV} {bx:List Bx} {F:Env->Prop} (I:P.follows .mixedOrders=true) (hc:wE P f=true)
 (J:∀ E,F E=Kg P sh f full Q N H fuel args bx E) (h:∀ E,F E):BCalls P f full args bx N Q:=V1 I hc λE=>J E ▸ h E
end Go.Proofs.YtligajflgjpdnaaGreatDoor
set_option maxRecDepth 100000
namespace Go.Proofs.YtligajflgjpdnaaGreatDoor
open Go Go.Proofs Go.Proofs.Tryz
def sh:FuncId->List Sh:=λf=>Qy f [(3,[.bool]),(4,[.bool]),(5,[.ag 9]),(6,[.ag 9]),(7,[.ag 9]),(8,[.bool]),(9,[.ag 9]),(10,[.bool]),(11,[.bool]),(12,[.bool]),(13,[.bool]),(14,[.int .i64]),(15,[.ag 2,.bool]),(16,[.bool]),(17,[.ag 11]),(18,[.bool]),(19,[.cu]),(20,[.row 0 1000007,.bool]),(21,[.row 0 1000007,.ag 9]),(22,[.row 0 1000007,.ag 9]),(23,[.bool]),(24,[.pk,.int .i64,.str,.str,.int .i64,.dc,.dc,.dc,.dc,.row 29 9]),(25,[.ag 9]),(26,[.bool]),(27,[.pk,.int .i64,.str,.str,.int .i64,.dc,.dc,.dc,.dc,.row 29 9]),(28,[.ag 9]),(29,[.int .i64]),(30,[.bool]),(31,[.bool]),(32,[.bool]),(33,[.bool]),(34,[.ag 2,.bool]),(35,[.bool]),(36,[.ag 9,.int .i64]),(37,[.row 0 1000007,.int .i64]),(38,[.row 0 1000007,.ag 9]),(39,[.row 0 1000007,.int .i64]),(40,[.row 0 1000007,.str]),(41,[.ag 9]),(42,[.row 0 1000007,.ag 2]),(43,[.ag 9]),(44,[.row 0 1000007,.ag 9]),(45,[.ag 2]),(46,[.bool]),(47,[.bool]),(48,[.bool]),(49,[.bool]),(50,[.bool]),(51,[.pk,.int .i64,.str,.str,.int .i64,.dc,.dc,.dc,.dc,.row 29 9]),(52,[.ag 9]),(53,[.bool]),(54,[.bool]),(55,[.ag 2]),(56,[.ag 9]),(57,[.int .i64]),(58,[.bool]),(59,[.bool]),(60,[.bool]),(61,[.ag 2,.bool]),(62,[.bool]),(63,[.ag 9,.int .i64]),(64,[.ag 9,.int .i64]),(65,[.ag 9,.int .i64,.bool]),(66,[.ag 9]),(67,[.ag 9,.int .i64]),(68,[.row 0 1000007,.int .i64]),(69,[.row 0 1000007,.ag 9]),(70,[.row 0 1000007,.ag 2]),(71,[.int .i64]),(72,[.ag 2]),(73,[.ag 2]),(74,[.ag 2]),(75,[.row 0 1000007,.ag 9,.bool]),(76,[.row 0 1000007,.ag 9]),(77,[.row 0 1000007,.ag 9]),(78,[.row 0 1000007,.ag 9]),(79,[.ag 9]),(80,[.sl 4]),(81,[.bool]),(82,[.ag 9]),(83,[.bool]),(84,[.bool]),(85,[.bool]),(86,[.bool]),(87,[.bool]),(88,[.bool]),(89,[.bool]),(90,[.pk,.int .i64,.str,.str,.int .i64,.dc,.dc,.dc,.dc,.bk 1]),(91,[.ag 9]),(92,[.ag 9]),(93,[.bool]),(94,[.row 9 0]),(95,[.bool]),(96,[.bool]),(97,[.ag 9]),(98,[.ag 9]),(99,[.int .i64]),(100,[.sl 0]),(101,[.int .i64]),(102,[.int .i64]),(103,[.bool]),(104,[.int .i64]),(105,[.int .i64]),(106,[.ag 2]),(107,[.ag 2,.bool]),(108,[.ag 2,.bool]),(109,[.ag 2,.bool]),(110,[.ag 9,.int .i64]),(111,[.int .i64,.bool]),(112,[.ag 9]),(113,[.ag 9]),(114,[.int .i64]),(115,[.row 0 1000007,.ag 2]),(116,[.ag 9]),(117,[.int .i64]),(118,[.sl 4]),(119,[.ag 9]),(120,[.int .i64]),(121,[.bool]),(122,[.bool]),(123,[.int .i64]),(124,[.int .i64]),(125,[.int .i64]),(126,[.bool]),(127,[.bool]),(128,[.bool]),(129,[.ag 2]),(130,[.ag 9,.bool]),(131,[.bool]),(132,[.sl 0,.int .i64]),(133,[.ag 9]),(134,[.pk,.int .i64,.str,.str,.int .i64,.dc,.dc,.dc,.dc,.row 29 9]),(135,[.int .i64]),(136,[.row 0 1000007,.bk 0]),(137,[.bool]),(138,[.row 9 0]),(139,[.bool]),(140,[.bool]),(141,[.bool]),(142,[.sl 0,.int .i64]),(143,[.pk,.int .i64,.str,.str,.int .i64,.dc,.dc,.dc,.dc,.row 29 9]),(144,[.sl 0]),(145,[.row 9 0]),(146,[.int .i64]),(147,[.ag 2,.bool]),(148,[.int .i64]),(149,[.int .i64]),(150,[.int .i64]),(151,[.bool]),(152,[.bool]),(153,[.bool]),(154,[.int .i64]),(155,[.bool]),(156,[.int .i64,.bool]),(157,[.ag 9]),(158,[.bool]),(159,[.str]),(160,[.sl 0]),(161,[.ag 9]),(162,[.int .i64]),(163,[.str]),(164,[.int .i64]),(165,[.ag 9]),(166,[.str]),(167,[.row 9 0]),(168,[.str]),(169,[.str]),(170,[.str]),(171,[.str]),(172,[.str]),(173,[.str]),(174,[.int .i64]),(175,[]),(176,[.sl 0,.str]),(177,[.int .i64]),(178,[.int .i64]),(179,[.int .i64]),(180,[.bool]),(181,[.int .i64]),(182,[.int .i64]),(183,[.int .i64]),(207,[])]
theorem mixed:prog.follows .mixedOrders=true:=by kernel_rfl
theorem eE {f:FuncId}{rs:List Sh}{Q:QT rs}{N:Nat}(H:Hint){args:List PV}{F:Prop}(h:F)(hc:wE prog f=true:=by kernel_rfl)(I:F=Lw prog sh f rs Q N H 400 args:=by kernel_rfl):ACalls prog f rs args N Q:=Uf mixed hc I h
theorem bE {f:FuncId}{full:List Sh}{Q:QT full}{N:Nat}(H:Hint){args:List PV}{bx:List Bx}{F:Env->Prop}(h:∀ E,F E)(hc:wE prog f=true:=by kernel_rfl)(I:∀ E,F E=Kg prog sh f full Q N H 400 args bx E:=by intro E;kernel_rfl):BCalls prog f full args bx N Q:=Q4 mixed hc I h
theorem hE {f:FuncId}{rs:List Sh}{Q:QT rs}{N0:Nat}{M:Mode}(H:Hint){I:List Item}{st:St}{F:Prop}(h:F)(J:F=EO st λst=>W prog sh f rs Q N0 M H 400 true I st:=by kernel_rfl):AT prog f rs Q N0 M I st:=X7 mixed J h
abbrev D.j (n:Int):D:=.lit (.int .i64 n)
abbrev D.t (s:ByteArray):D:=.lit (.string s)
abbrev PV.j (n:Int):PV:=.int .i64 n
abbrev Sh.i:Sh:=.int .i64
abbrev b0:ByteArray:=bytes []
def H0:Hint:=⟨[],[],[]⟩
abbrev w2 (P X:Prop):Prop:=P/\P/\X
abbrev w3 (P X:Prop):Prop:=P/\P/\P/\X
abbrev w4 (P X:Prop):Prop:=P/\P/\P/\P/\X
abbrev w5 (P X:Prop):Prop:=P/\P/\P/\P/\P/\X
abbrev gI (x:D)(R:Int->Prop):Prop:=∃ n:Int,x=D.j n/\R n
abbrev gT (x:D)(R:ByteArray->Prop):Prop:=∃ s,x=D.t s/\R s
abbrev gL (z:Nat)(x:D)(R:Option Addr->List D->Nat->Prop):Prop:=∃ a es,∃ c:Nat,x=D.sl a z es c/\R a es c
abbrev uP (N:Nat)(R:Nat->Prop):Prop:=∀ N1,N<=N1->R N1
abbrev cv (a:Option Addr)(e:List D)(c:Nat)(n m:Int):Bx:=.var [.sv a 0 e c,.int .i64 n,.int .i64 m]
abbrev kB (f:FuncId)(I:List PV)(N:Nat)(R:Bool->Nat->Prop):Prop:=∀ N1,N<=N1->ACalls prog f [.bool] I N1 λb N2=>N1<=N2->R b N2
abbrev kI (f:FuncId)(I:List PV)(N:Nat)(R:Int->Nat->Prop):Prop:=∀ N1,N<=N1->ACalls prog f [.int .i64] I N1 λb N2=>N1<=N2->R b N2
abbrev kS (f:FuncId)(I:List PV)(N:Nat)(R:ByteArray->Nat->Prop):Prop:=∀ N1,N<=N1->ACalls prog f [.str] I N1 λb N2=>N1<=N2->R b N2
abbrev kA (z:Nat)(f:FuncId)(I:List PV)(N:Nat)(R:D->Nat->Prop):Prop:=∀ N1,N<=N1->ACalls prog f [.ag z] I N1 λx N2=>N1<=N2->Bel N2 x->R x N2
abbrev kL (z:Nat)(f:FuncId)(I:List PV)(N:Nat)(R:Option Addr->List D->Nat->Nat->Prop):Prop:=∀ N1,N<=N1->ACalls prog f [.sl z] I N1 λa e c N2=>N1<=N2->Bel N2 (D.sl a z e c)->R a e c N2
abbrev kAB (z:Nat)(f:FuncId)(I:List PV)(N:Nat)(R:D->Bool->Nat->Prop):Prop:=∀ N1,N<=N1->ACalls prog f [.ag z,.bool] I N1 λx b N2=>N1<=N2->Bel N2 x->R x b N2
abbrev kIB (f:FuncId)(I:List PV)(N:Nat)(R:Int->Bool->Nat->Prop):Prop:=∀ N1,N<=N1->ACalls prog f [.int .i64,.bool] I N1 λx b N2=>N1<=N2->R x b N2
abbrev cB (f:FuncId)(I:List PV)(a:Option Addr)(e:List D)(c:Nat)(n m:Int)(N:Nat)(R:Bool->Option Addr->List D->Nat->Int->Int->Nat->Prop):Prop:=∀ N1,N<=N1->BCalls prog f [.bool,.sl 0,.int .i64,.int .i64] (.pb 0 0 0 0::I) [cv a e c n m] N1 λx a e c n m N2=>N1<=N2->Bel N2 (D.sl a 0 e c)->R x a e c n m N2
abbrev cI (f:FuncId)(I:List PV)(a:Option Addr)(e:List D)(c:Nat)(n m:Int)(N:Nat)(R:Int->Option Addr->List D->Nat->Int->Int->Nat->Prop):Prop:=∀ N1,N<=N1->BCalls prog f [.int .i64,.sl 0,.int .i64,.int .i64] (.pb 0 0 0 0::I) [cv a e c n m] N1 λx a e c n m N2=>N1<=N2->Bel N2 (D.sl a 0 e c)->R x a e c n m N2
abbrev cA (z:Nat)(f:FuncId)(I:List PV)(a:Option Addr)(e:List D)(c:Nat)(n m:Int)(N:Nat)(R:D->Option Addr->List D->Nat->Int->Int->Nat->Prop):Prop:=∀ N1,N<=N1->BCalls prog f [.ag z,.sl 0,.int .i64,.int .i64] (.pb 0 0 0 0::I) [cv a e c n m] N1 λx a e c n m N2=>N1<=N2->Bel N2 x->Bel N2 (D.sl a 0 e c)->R x a e c n m N2
abbrev cP (ls:List D)(f:FuncId)(t:TypeId)(k:Nat)(a:Option Addr)(e:List D)(c:Nat)(n m:Int)(N:Nat)(R:ByteArray->Option Addr->List D->Nat->Int->Int->Option Addr->List D->Nat->Nat->Prop):Prop:=∀ N1,N<=N1->BCalls prog f [.str,.sl 0,.int .i64,.int .i64,.sl 0] [.pb 0 0 0 0,.sb 1 0 0 k k] [cv a e c n m,.arr t 0 ls k] N1 λx a e c n m a2 I J N2=>N1<=N2->Bel N2 (D.sl a 0 e c)->Bel N2 (D.sl a2 0 I J)->R x a e c n m a2 I J N2
end Go.Proofs.YtligajflgjpdnaaGreatDoor
