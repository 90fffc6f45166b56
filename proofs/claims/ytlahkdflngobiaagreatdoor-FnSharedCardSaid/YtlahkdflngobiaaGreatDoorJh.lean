/- The walker: what a function's code comes to, as a formula on ghost values. -/
import Derived.Test.YtlahkdflngobiaaGreatDoorJg
import Derived.Test.YtlahkdflngobiaaGreatDoorJe
import Derived.Test.YtlahkdflngobiaaGreatDoorChecked
set_option linter.unusedVariables false
set_option linter.unusedSimpArgs false
namespace Go.Proofs.YtlahkdflngobiaaGreatDoor
open Go
variable {av:Nat->Prop} {P:Program} {w0 w w':World} {e0 e:Env} {pS pS' pB pB':List Nat} {a:Act} {st st':St}
def base (f:FuncId):Frame:={ (default:Frame) with fn:=f,kind:=.normal }
/-- from these items on the call ends so -/
def zOy (P:Program) (f:FuncId) (k:List Item) (R:Ending->World->Prop) (a:Act) (w:World):Prop:=
 ∀ cs,∃ e w' fr,R e w'/\Comes P (lone ((base f).at a k) cs w) (lone fr cs w') e/\fr.fn=f/\fr.leaving P w' e
theorem ws {f:FuncId} {k k':List Item} {R:Ending->World->Prop} {I:Act} (hs:∀ cs,step P (lone ((base f).at a k) cs w)=.next (lone ((base f).at I k') cs w')) (h:zOy P f k' R I w'):zOy P f k R a w:=
 λcs=>let ⟨e,w2,fr,J,O,h3⟩:=h cs;⟨e,w2,fr,J,.of_steps (.one (hs cs)) O,h3⟩
theorem zK6 {f:FuncId} {c:Code} {k:List Item} {R:Ending->World->Prop} (h:c.wp P (λex J w'=>ex=.normal/\zOy P f k R J w') a w):zOy P f (.code c::k) R a w:=λcs=>by
 obtain ⟨ex,J,w',⟨rfl,O⟩,I⟩:=h (base f) k cs
 obtain ⟨e,w2,fr,h1,h2,h3⟩:=O cs
 exact ⟨e,w2,fr,h1,.of_steps I h2,h3⟩
theorem zCH {f:FuncId} {fn:Func} {k:List Item} {R:Ending->World->Prop} (hk:k=[]\/∃ k',k=.code .ret::k') (I:P.funcs[f]?=some fn) (hd:a.defers=[]) {v:Value} (J:(results fn a.tmps).run P w=.ok v w) (O:R (.returned v) w):zOy P f k R a w:=λcs=>by
 rcases hk with rfl | ⟨k',rfl⟩
 ·exact ⟨.returned v,w,_,O,.one step_end,rfl,rfl,hd,rfl,fn,I,J⟩
 ·exact ⟨.returned v,w,_,O,.one step_ret,rfl,rfl,hd,rfl,fn,I,J⟩
theorem zCu {f:FuncId} {fn:Func} {c:Code} {args:Array Value} {R:Ending->World->Prop} (J:P.funcs[f]?=some fn) (O:fn.body=some c)
  (h:zOy P f [.code c] R { tmps:=args++Array.replicate (fn.ntmps - args.size) undef,defers:=[] } w):Calls P f args w R:=by
 intro cs
 have I:Frame.enter P f args .normal=(base f).at { tmps:=args++Array.replicate (fn.ntmps - args.size) undef,defers:=[] } [.code c]:=by
  simp [Frame.enter,Frame.at,J,O,base]
 rw [I]
 exact h cs
/-- the cells of a new struct of a slice and two numbers -/
def zVZ:List PV->Option (Option Addr × List D × Nat × Int × Int)
 | [.sv a z es c,.int k n,.int k' m]=>match decide (z=0/\k=.i64/\k'=.i64) with
   | true=>some (a,es,c,n,m)
   | false=>none
 | _=>none
theorem zTs {cs:List PV} {a:Option Addr} {es:List D} {c:Nat} {n m:Int} (h:zVZ cs=some (a,es,c,n,m)):cs=[.sv a 0 es c,.int .i64 n,.int .i64 m]:=by
 unfold zVZ at h
 split at h
 ·split at h
  ·rename_i hd
   simp at hd h
   obtain ⟨rfl,rfl,rfl⟩:=hd
   obtain ⟨rfl,rfl,rfl,rfl,rfl⟩:=h
   rfl
  ·cases h
 ·cases h
def uh (st:St):(l:List Sh)->QT l->List Nat->List PV->Prop
 | [],Q,_,ps=>match ps with
   | []=>∀ N,st.N<=N->Q N
   | _=>False
 | .int k::l,Q,us,ps=>match ps with
   | .int k' n::ps=>match decide (k=k') with
     | true=>uh st l (Q n) us ps
     | false=>False
   | _=>False
 | .bool::l,Q,us,ps=>match ps with
   | .bool v::ps=>uh st l (Q v) us ps
   | _=>False
 | .str::l,Q,us,ps=>match ps with
   | .str v::ps=>uh st l (Q v) us ps
   | _=>False
 | .sl z::l,Q,us,ps=>match ps with
   | .sv a z' es c::ps=>match decide (z=z') with
     | true=>uh st l (Q a es c) us ps
     | false=>False
   | _=>False
 | .ag n::l,Q,us,ps=>match ps with
   | p :: ps=>match zKj p with
     | .dg J x=>match decide (n=J) with
       | true=>uh st l (Q x) us ps
       | false=>False
     | _=>False
   | _=>False
 | .row t z::l,Q,us,ps=>match ps with
   | .sb k z' lo n c::ps=>match st.bx[k]? with
     | some (.arr O I es c')=>match decide (O=t)&&decide (z'=z)&&decide (I=z)&&decide (lo=0)&&!us.contains k with
       | true=>(n=es.length/\c=c')/\uh st l (Q es c) (k::us) ps
       | false=>False
     | _=>False
   | .sv none _ [] 0::ps=>uh st l (Q [] 0) us ps
   | _=>False
 | .pk::l,Q,us,ps=>match zSs l with
   | true=>uh st l Q us ps
   | false=>False
 | .dc::l,Q,us,ps=>match ps with
   | p::ps=>match zAI p with
     | some x=>uh st l (Q x) us ps
     | none=>False
   | _=>False
 | .bk j::l,Q,us,ps=>match ps with
   | p::ps=>match zAI p with
     | some x=>uh st l (Q x) us ps
     | none=>False
   | _=>False
 | .cu :: l,Q,us,ps=>match ps with
   | .pb k z i o::ps=>match st.bx[k]?,decide (z=0/\i=0/\o=0)&&!us.contains k with
     | some (.var cs),true=>match zVZ cs with
       | some (a,es,c,n,m)=>uh st l (Q a es c n m) (k::us) ps
       | none=>False
     | _,_=>False
   | _=>False
/-- the rows that go along with the results -/
abbrev Sel:=List (Option Nat × Bx)
def Sel.rows (s:Sel):List Bx:=s.map (·.2)
def Sel.env (e:Env) (s:Sel):Env:=s.map λx=>x.1.bind e.at
structure SelOk (st:St) (us:List Nat) (s:Sel):Prop where
 at_:∀ x∈s,(x.1=none/\∃ t z,x.2=.arr t z [] 0)\/∃ k,x.1=some k/\st.bx[k]?=some x.2/\x.2.row
 nd:(s.filterMap (·.1)).Nodup
 un:∀ k∈s.filterMap (·.1),k∉us
/-- a result, and the ghost value that is told of it -/
def zK3:PV->Bool
 | .int ..=>true
 | .bool ..=>true
 | .str ..=>true
 | .sv ..=>true
 | .dg ..=>true
 | _=>false
def zVR:PV->Bool
 | .sb ..=>true
 | .dc ..=>true
 | _=>false
def zWD (w:World) (e:Env) (live:Nat->Prop) (E:Env) (p q:PV):Prop:=p.val e=q.val1 E/\(p.Ok w live->q.Ok w live)/\p≠.any/\(zK3 p=true->q=p\/zVR q=true)
theorem z6 (h:Rel av w0 e0 [] [] a w e st):∀ (l:List Sh) (Q:QT l) (us:List Nat) (ps:List PV) (b:Nat),uh st l Q us ps->(∀ p∈ps,p.Ok w (zW av [] e st.bx)\/zK3 p=true) ->
  ∃ qs s,QT.app l Q b qs (Sel.rows s) w.heap.size/\SelOk st us s/\qs.length=ps.length /\
    ∀ (E:Env),E.length=b->∀ (i:Nat) (p q:PV),ps[i]?=some p->qs[i]?=some q->zWD w e (zW av [] e st.bx) (E++s.env e) p q
 | [],Q,us,ps,b,hs,_=>by
   cases ps with
   | nil=>exact ⟨[],[],hs _ h.hN,⟨by simp,by simp,by simp⟩,rfl,by simp⟩
   | cons=>exact hs.elim
 | .int k::l,Q,us,ps,b,hs,J=>by
   cases ps with
   | nil=>exact hs.elim
   | cons p ps=>
     cases p<;>simp only [uh] at hs<;>try exact hs.elim
     rename_i k' n
     cases hk:decide (k=k') with
     | true=>
       rw [hk] at hs
       obtain ⟨qs,s,h1,h2,h3,h4⟩:=z6 h l _ us ps b hs (λp I=>J p (by simp [I]))
       refine ⟨.int k n::qs,s,⟨rfl,h1⟩,h2,by simp [h3],λE hE i p q I O=>?_⟩
       cases i with
       | zero=>simp at I O hk;subst I;subst O;subst hk;exact ⟨rfl,id,by simp,λ_=>.inl rfl⟩
       | succ i=>exact h4 E hE i p q (by simpa using I) (by simpa using O)
     | false=>rw [hk] at hs;exact hs.elim
 | .bool::l,Q,us,ps,b,hs,J=>by
   cases ps with
   | nil=>exact hs.elim
   | cons p ps=>
     cases p<;>simp only [uh] at hs<;>try exact hs.elim
     rename_i n
     obtain ⟨qs,s,h1,h2,h3,h4⟩:=z6 h l _ us ps b hs (λp I=>J p (by simp [I]))
     refine ⟨.bool n::qs,s,h1,h2,by simp [h3],λE hE i p q I O=>?_⟩
     cases i with
     | zero=>simp at I O;subst I;subst O;exact ⟨rfl,id,by simp,λ_=>.inl rfl⟩
     | succ i=>exact h4 E hE i p q (by simpa using I) (by simpa using O)
 | .str::l,Q,us,ps,b,hs,J=>by
   cases ps with
   | nil=>exact hs.elim
   | cons p ps=>
     cases p<;>simp only [uh] at hs<;>try exact hs.elim
     rename_i n
     obtain ⟨qs,s,h1,h2,h3,h4⟩:=z6 h l _ us ps b hs (λp I=>J p (by simp [I]))
     refine ⟨.str n::qs,s,h1,h2,by simp [h3],λE hE i p q I O=>?_⟩
     cases i with
     | zero=>simp at I O;subst I;subst O;exact ⟨rfl,id,by simp,λ_=>.inl rfl⟩
     | succ i=>exact h4 E hE i p q (by simpa using I) (by simpa using O)
 | .sl z::l,Q,us,ps,b,hs,J=>by
   cases ps with
   | nil=>exact hs.elim
   | cons p ps=>
     cases p<;>simp only [uh] at hs<;>try exact hs.elim
     rename_i ad z' es c
     cases hz:decide (z=z') with
     | true=>
       rw [hz] at hs
       simp at hz;subst hz
       obtain ⟨qs,s,h1,h2,h3,h4⟩:=z6 h l _ us ps b hs (λp I=>J p (by simp [I]))
       refine ⟨.sv ad z es c::qs,s,⟨rfl,h1⟩,h2,by simp [h3],λE hE i p q I O=>?_⟩
       cases i with
       | zero=>simp at I O;subst I;subst O;exact ⟨rfl,id,by simp,λ_=>.inl rfl⟩
       | succ i=>exact h4 E hE i p q (by simpa using I) (by simpa using O)
     | false=>rw [hz] at hs;exact hs.elim
 | .ag n::l,Q,us,ps,b,hs,J=>by
   cases ps with
   | nil=>exact hs.elim
   | cons p ps=>
     simp only [uh] at hs
     split at hs
     rotate_left
     ·exact hs.elim
     rename_i n' x ab
     split at hs
     rotate_left
     ·exact hs.elim
     rename_i hz
     simp at hz;subst hz
     obtain ⟨qs,s,h1,h2,h3,h4⟩:=z6 h l _ us ps b hs (λp I=>J p (by simp [I]))
     refine ⟨.dg n x::qs,s,⟨rfl,h1⟩,h2,by simp [h3],λE hE i r q I O=>?_⟩
     cases i with
     | zero=>
       simp at I O;subst I;subst O
       rcases J p (by simp) with aa | hdx
       rotate_left
       ·cases p<;>simp [zK3] at hdx<;>simp [zKj] at ab
        rw [ab.1,ab.2]
        exact ⟨rfl,id,by simp,λ_=>.inl rfl⟩
       have ak:=zDJ (e:=e) aa
       rw [ab] at ak
       rcases ak with h5 | ⟨h8,h6,h7,_⟩
       ·cases h5
       ·refine ⟨h6,h7,h8,λhx=>.inl ?_⟩
        cases p<;>simp [zK3] at hx<;>simp [zKj] at ab
        rw [ab.1,ab.2]
     | succ i=>exact h4 E hE i r q (by simpa using I) (by simpa using O)
 | .row t z::l,Q,us,ps,b,hs,J=>by
   cases ps with
   | nil=>exact hs.elim
   | cons p ps=>
     simp only [uh] at hs
     split at hs
     ·rename_i k z' lo n c al ac
      cases ac
      split at hs
      ·rename_i t' ah es c' hk
       split at hs
       rotate_left
       ·exact hs.elim
       rename_i hc
       simp only [oL,nD,na] at hc
       obtain ⟨⟨⟨⟨am,ao⟩,aq⟩,au⟩,ai⟩:=hc
       subst am;subst ao;subst aq;subst au
       obtain ⟨⟨rfl,rfl⟩,hs⟩:=hs
       obtain ⟨qs,s,h1,h2,h3,h4⟩:=z6 h l _ (k::us) ps (b+1) hs (λp I=>J p (by simp [I]))
       refine ⟨.sb b ah 0 es.length c::qs,(some k,.arr t' ah es c)::s,⟨⟨rfl,rfl,rfl,rfl,rfl,rfl,rfl⟩,h1⟩,⟨λx hx=>?_,?_,λj hj=>?_⟩,by simp [h3],λE hE i r q I O=>?_⟩
       ·rcases oH.1 hx with rfl | hx
        ·exact .inr ⟨k,rfl,hk,trivial⟩
        ·exact h2.at_ x hx
       ·simp only [nl]
        exact nh.2 ⟨λhc=>h2.un k hc (by simp),h2.nd⟩
       ·simp only [nl] at hj
        rcases oH.1 hj with rfl | hj
        ·intro hc;simp [hc] at ai
        ·exact λhc=>h2.un j hj (by simp [hc])
       ·have ae:Env.at (E++Sel.env e ((some k,Bx.arr t' ah es c)::s)) b=e.at k:=by
         simp [Sel.env,Env.at,oA,<-hE]
        cases i with
        | zero=>
          simp at I O;subst I;subst O
          refine ⟨?_,id,by simp,λ_=>.inr rfl⟩
          simp only [PV.val,PV.val1,PV.cv,ae]
        | succ i=>
          have:=h4 (E++[e.at k]) (by simp [hE]) i r q (by simpa using I) (by simpa using O)
          simpa [Sel.env] using this
      ·exact hs.elim
     ·rename_i zz al ac
      cases ac
      obtain ⟨qs,s,h1,h2,h3,h4⟩:=z6 h l _ us ps (b+1) hs (λp I=>J p (by simp [I]))
      refine ⟨.sb b z 0 0 0::qs,(none,.arr t z [] 0)::s,⟨⟨rfl,rfl,rfl,rfl,rfl,rfl,rfl⟩,h1⟩,⟨λx hx=>?_,?_,λj hj=>?_⟩,by simp [h3],λE hE i r q I O=>?_⟩
      ·rcases oH.1 hx with rfl | hx
       ·exact .inl ⟨rfl,t,z,rfl⟩
       ·exact h2.at_ x hx
      ·simpa using h2.nd
      ·exact h2.un j (by simpa using hj)
      ·have ae:Env.at (E++Sel.env e (((none:Option Nat),Bx.arr t z [] 0)::s)) b=none:=by
        simp [Sel.env,Env.at,oA,<-hE]
       cases i with
       | zero=>
         simp at I O;subst I;subst O
         refine ⟨?_,λ_=>trivial,by simp,λ_=>.inr rfl⟩
         simp [PV.val,PV.val1,PV.cv,ae]
       | succ i=>
         have:=h4 (E++[none]) (by simp [hE]) i r q (by simpa using I) (by simpa using O)
         simpa [Sel.env] using this
     ·exact hs.elim
 | .cu :: l,Q,us,ps,b,hs,J=>by
   cases ps with
   | nil=>exact hs.elim
   | cons p ps=>
     simp only [uh] at hs
     split at hs
     rotate_left
     ·exact hs.elim
     rename_i k z i o al ac
     cases ac
     split at hs
     rotate_left
     ·exact hs.elim
     rename_i cs hk hc
     split at hs
     rotate_left
     ·exact hs.elim
     rename_i a' es c n m aw
     have ax:=zTs aw
     subst ax
     simp only [oL,nD,na] at hc
     obtain ⟨⟨rfl,rfl,rfl⟩,ai⟩:=hc
     obtain ⟨qs,s,h1,h2,h3,h4⟩:=z6 h l _ (k::us) ps (b+1) hs (λp I=>J p (by simp [I]))
     refine ⟨.pb b 0 0 0::qs,(some k,.var [.sv a' 0 es c,.int .i64 n,.int .i64 m])::s,⟨_,_,_,_,_,rfl,rfl,h1⟩,⟨λx hx=>?_,?_,λj hj=>?_⟩,by simp [h3],λE hE i r q I O=>?_⟩
     ·rcases oH.1 hx with rfl | hx
      ·exact .inr ⟨k,rfl,hk,_,_,_,_,_,rfl⟩
      ·exact h2.at_ x hx
     ·simp only [nl]
      exact nh.2 ⟨λhc=>h2.un k hc (by simp),h2.nd⟩
     ·simp only [nl] at hj
      rcases oH.1 hj with rfl | hj
      ·intro hc;simp [hc] at ai
      ·exact λhc=>h2.un j hj (by simp [hc])
     ·have ae:Env.at (E++Sel.env e ((some k,Bx.var [.sv a' 0 es c,.int .i64 n,.int .i64 m])::s)) b=e.at k:=by
       simp [Sel.env,Env.at,oA,<-hE]
      cases i with
      | zero=>
        simp at I O;subst I;subst O
        refine ⟨?_,id,by simp,λhx=>by cases hx⟩
        simp only [PV.val,PV.val1,PV.cv,ae]
      | succ i=>
        have:=h4 (E++[e.at k]) (by simp [hE]) i r q (by simpa using I) (by simpa using O)
        simpa [Sel.env] using this
 | .pk::l,Q,us,ps,b,hs,J=>by
   simp only [uh] at hs
   split at hs
   ·rename_i hk
    obtain ⟨qs,s,h1,h2,h3,h4⟩:=z6 h l Q us ps b hs J
    exact ⟨qs,s,⟨hk,h1⟩,h2,h3,h4⟩
   ·exact hs.elim
 | .dc :: l,Q,us,ps,b,hs,J=>by
   cases ps with
   | nil=>exact hs.elim
   | cons p ps=>
     simp only [uh] at hs
     split at hs
     rotate_left
     ·exact hs.elim
     rename_i x hx
     obtain ⟨qs,s,h1,h2,h3,h4⟩:=z6 h l _ us ps b hs (λp I=>J p (by simp [I]))
     refine ⟨.dc x::qs,s,h1,h2,by simp [h3],λE hE i r q I O=>?_⟩
     cases i with
     | zero=>
       simp at I O;subst I;subst O
       have hv:p.val e=p.cv e:=by cases p<;>first | rfl | (simp [zAI] at hx)
       have aj:x.cv=p.cv e:=by
        rcases J p (by simp) with aa | hdx
        ·exact (wT (e:=e) hx aa).2.2.1
        ·cases p<;>simp [zK3] at hdx<;>simp [zAI] at hx<;>subst hx<;>rfl
       refine ⟨by rw [hv,<-aj];rfl,λI=>?_,λhc=>by subst hc;simp [zAI] at hx,λ_=>.inr rfl⟩
       obtain ⟨g1,g2,_⟩:=wT (e:=e) hx I
       exact ⟨g1,g2⟩
     | succ i=>exact h4 E hE i r q (by simpa using I) (by simpa using O)
 | .bk j::l,Q,us,ps,b,hs,J=>by
   cases ps with
   | nil=>exact hs.elim
   | cons p ps=>
     simp only [uh] at hs
     split at hs
     rotate_left
     ·exact hs.elim
     rename_i x hx
     obtain ⟨qs,s,h1,h2,h3,h4⟩:=z6 h l _ us ps b hs (λp I=>J p (by simp [I]))
     refine ⟨.dc x::qs,s,h1,h2,by simp [h3],λE hE i r q I O=>?_⟩
     cases i with
     | zero=>
       simp at I O;subst I;subst O
       have hv:p.val e=p.cv e:=by cases p<;>first | rfl | (simp [zAI] at hx)
       have aj:x.cv=p.cv e:=by
        rcases J p (by simp) with aa | hdx
        ·exact (wT (e:=e) hx aa).2.2.1
        ·cases p<;>simp [zK3] at hdx<;>simp [zAI] at hx<;>subst hx<;>rfl
       refine ⟨by rw [hv,<-aj];rfl,λI=>?_,λhc=>by subst hc;simp [zAI] at hx,λ_=>.inr rfl⟩
       obtain ⟨g1,g2,_⟩:=wT (e:=e) hx I
       exact ⟨g1,g2⟩
     | succ i=>exact h4 E hE i r q (by simpa using I) (by simpa using O)
theorem zPI (h:Rel av w0 [] [] [] a w e st) {s:Sel} (hs:SelOk st [] s):Mem av [] w (s.env e) s.rows/\(∀ b,zW av [] (s.env e) s.rows b->zW av [] e st.bx b)/\∀ (k b:Nat),(s.env e).at k=some b->w0.heap.size<=b:=by
 have ae:∀ (j:Nat) (x:Option Nat × Bx),s[j]?=some x->(s.env e).at j=x.1.bind e.at:=λj x I=>by simp [Sel.env,Env.at,oA,I]
 have aa:∀ (j:Nat) (B:Bx),s.rows[j]?=some B->∃ x,s[j]?=some x/\x.2=B:=λj B I=>by
  simp only [Sel.rows,oI] at I
  cases J:s[j]? with
  | none=>simp [J] at I
  | some x=>simp [J] at I;exact ⟨x,rfl,I⟩
 have ac:∀ (j b:Nat),(s.env e).at j=some b->∃ x k,s[j]?=some x/\x.1=some k/\Lives [] e st.bx k b:=λj b I=>by
  cases J:s[j]? with
  | none=>simp [Sel.env,Env.at,oA,J] at I
  | some x=>
    rw [ae j x J] at I
    rcases hs.at_ x (oC J) with ⟨O,_⟩ | ⟨k,O,h2,h3⟩
    ·rw [O] at I;cases I
    ·rw [O] at I
     exact ⟨x,k,rfl,O,by simp,I,x.2,h2,h3.sp.1⟩
 have ab:∀ b,zW av [] (s.env e) s.rows b->zW av [] e st.bx b:=λb hb=>hb.imp id λ⟨j,I⟩=>by
  obtain ⟨_,k,_,_,h3⟩:=ac j b I.2.1
  exact ⟨k,h3⟩
 refine ⟨{ el:=by simp [Sel.env,Sel.rows],br:=λj B I _=>?_,bo:=λj B I _=>?_,bf:=λj B I _ i hi=>?_,inj:=λi j b hi I=>?_ },ab,λj b I=>?_⟩
 ·obtain ⟨x,J,rfl⟩:=aa j B I
  rw [ae j x J]
  rcases hs.at_ x (oC J) with ⟨O,t,z,h2⟩ | ⟨k,O,h2,h3⟩
  ·rw [O,h2];exact .inl ⟨rfl,rfl,rfl⟩
  ·rw [O]
   refine (h.br k _ h2 (by simp)).congr (λ_ _=>rfl) λi hi=>?_
   rw [h3.sp.2] at hi;simp at hi
 ·obtain ⟨x,J,rfl⟩:=aa j B I
  rcases hs.at_ x (oC J) with ⟨O,t,z,h2⟩ | ⟨k,O,h2,h3⟩
  ·rw [h2];intro y hy;simp at hy
  ·exact (h.bo k _ h2 (by simp)).mono (λ_ _ _=>rfl) (oB _) λb _=>ab b
 ·obtain ⟨x,J,rfl⟩:=aa j B I
  rcases hs.at_ x (oC J) with ⟨O,t,z,h2⟩ | ⟨k,O,h2,h3⟩
  ·rw [h2] at hi;simp [Bx.refs] at hi
  ·rw [h3.sp.2] at hi;simp at hi
 ·obtain ⟨x,k,O,h2,h3⟩:=ac i b hi.2.1
  obtain ⟨y,l,g1,g2,g3⟩:=ac j b I.2.1
  have ak:=h.inj k l b h3 g3
  subst ak
  -- no box goes along twice
  have key:∀ (s:Sel) (i j:Nat) (x y:Option Nat × Bx),(s.filterMap (·.1)).Nodup->s[i]?=some x->s[j]?=some y->x.1=some k->y.1=some k->i=j:=by
   intro s
   induction s with
   | nil=>intro i j x y _ J;simp at J
   | cons u s ih=>
     intro i j x y hn J hy ah ai
     have al:(s.filterMap (·.1)).Nodup:=by
      cases hu:u.1 with
      | none=>simpa [hu] using hn
      | some m=>simp only [nl,hu] at hn;exact (nh.1 hn).2
     have aj:u.1=some k->k∉s.filterMap (·.1):=λhu=>by
      simp only [nl,hu] at hn
      exact (nh.1 hn).1
     cases i with
     | zero=>
       simp at J;subst J
       cases j with
       | zero=>rfl
       | succ j=>simp at hy;exact absurd (nR.2 ⟨y,oC hy,ai⟩) (aj ah)
     | succ i=>
       simp at J
       cases j with
       | zero=>simp at hy;subst hy;exact absurd (nR.2 ⟨x,oC J,ah⟩) (aj ai)
       | succ j=>simp at hy;rw [ih i j x y al J hy ah ai]
  exact key s i j x y hs.nd O g1 h2 g2
 ·obtain ⟨_,k,_,_,h3⟩:=ac j b I
  rcases h.own k b h3 with h4 | h4
  ·exact h4
  ·simp at h4
def zNp:ResultVar->Nat
 | .tmp t=>t
 | .cell a _=>a
/-- the results, read -/
def zTH (P:Program) (st:St):List ResultVar->(List PV->Prop)->Prop
 | [],K=>K []
 | .tmp t::l,K=>zTH P st l λps=>K (st.sl.getD t .any::ps)
 | .cell a t::l,K=>zBL P (opd st.sl) (λk=>st.bx[k]?) (.load t (.tmp a)) t λp=>zTH P st l λps=>K (p::ps)
def zJs:Sh->Bool
 | .row ..=>true
 | .cu=>true
 | .dc=>true
 | .bk _=>true
 | _=>false
/-- the slots of the results that are told as snapshots -/
def zU1:List Sh->List Nat->List Nat
 | .pk::_,_=>[]
 | s::l,t::I=>match zJs s with
   | true=>zU1 l I
   | false=>t::zU1 l I
 | _,_=>[]
/-- the cells of the one result -/
def zES (pk:Bool) (ps:List PV):List PV:=match pk with
 | true=>match ps with
   | [.pg cs]=>cs
   | _=>[.any]
 | false=>ps
def zVg (P:Program) (f:FuncId) (rs:List Sh) (Q:QT rs) (N0:Option Nat) (st:St):Prop:=
 match P.funcs[f]? with
 | some fn=>zAW N0 #[] [] (zU1 rs (fn.results.toList.map zNp)) (fn.results.toList.map zNp) st λst=>zTH P st fn.results.toList λps=>uh st rs Q [] (zES (zEM rs) (yH P fn.resultTypes.toList ps))
 | none=>False
def zMo (tmps:Array Value) (r:ResultVar):Sem Value:=match r with
 | .tmp t=>pure (tmps.getD t undef)
 | .cell a t=>do loadVar t (<-asAddr (tmps.getD a undef))
theorem zQ3 (tmps:Array Value):(λ(r:ResultVar)=>match r with
 | .tmp t=>(pure (tmps.getD t undef):Sem Value)
 | .cell a t=>do loadVar t (<-asAddr (tmps.getD a undef)))=zMo tmps:=by funext r;cases r<;>rfl
theorem rY (h:Rel av w0 e0 [] [] a w e st):∀ (l:List ResultVar) (K:List PV->Prop),zTH P st l K->∃ vs ps,K ps/\(l.mapM (zMo a.tmps)).run P w=.ok vs w/\vs.length=l.length/\ps.length=l.length /\
  ∀ (i:Nat) (v:Value) (p:PV),vs[i]?=some v->ps[i]?=some p->ValOk av w e [] st.bx v p
 | [],K,hK=>⟨[],[],hK,by simp,rfl,rfl,by simp⟩
 | .tmp t::l,K,hK=>by
   obtain ⟨vs,ps,h1,h2,h3,h4,h5⟩:=rY h l _ hK
   have hv:ValOk av w e [] st.bx (a.eval (.tmp t)) (opd st.sl (.tmp t)):=(xZ h (x:=.tmp t) (by simp)).valOk
   refine ⟨a.tmps.getD t undef::vs,st.sl.getD t .any::ps,h1,?_,by simp [h3],by simp [h4],λi v p I O=>?_⟩
   ·simp [zMo,h2]
   ·cases i with
    | zero=>simp only [mb,o4] at I O;subst I;subst O;exact hv
    | succ i=>exact h5 i v p (by simpa using I) (by simpa using O)
 | .cell c t::l,K,hK=>by
   simp only [zTH] at hK
   have ho:∀ x∈(Op.load t (.tmp c)).operands,OpdOk av a w e [] st.bx x (opd st.sl x):=λx hx=>xZ h (by simp)
   obtain ⟨v0, p0, J, g2, g3⟩ := zDD (o := ⟨none, .load t (.tmp c), t, "", #[], none⟩) h.toMem ho (λk B hk => ⟨hk, by simp⟩) hK
   obtain ⟨vs,ps,h1,h2,h3,h4,h5⟩:=rY h l _ g2
   have aa:(zMo a.tmps (.cell c t)).run P w=.ok v0 w:=by
    simp only [execOp] at J
    have he:a.eval (.tmp c)=a.tmps.getD c undef:=rfl
    rw [he] at J
    simp only [zMo]
    cases hv:a.tmps.getD c undef with
    | pointer p=>
      cases p with
      | none=>rw [hv] at J;simp [Instr.loadAt,Instr.sureAddr] at J
      | some ad=>
        rw [hv] at J
        simp [Instr.loadAt,Instr.sureAddr,asAddr] at J ⊢
        generalize (loadVar t ad).run P w=r at J ⊢
        cases r with
        | ok x w1=>simp at J ⊢;exact J
        | halt x w1=>simp at J
    | _=>rw [hv] at J;simp [Instr.loadAt,Instr.sureAddr] at J
   refine ⟨v0::vs,p0::ps,h1,?_,by simp [h3],by simp [h4],λi v p I O=>?_⟩
   ·rw [List.mapM_cons]
    simp only [Sem.run_bind,aa,Result.andThen_ok,h2,Sem.run_pure]
   ·cases i with
    | zero=>simp only [mb,o4] at I O;subst I;subst O;exact g3
    | succ i=>exact h5 i v p (by simpa using I) (by simpa using O)
def zUM (vs:List Value):Value:=match vs with
 | [v]=>v
 | vs=>.tuple vs.toArray
theorem rp {fn:Func} {vs:List Value} {tmps:Array Value} (h:(fn.results.toList.mapM (zMo tmps)).run P w=.ok vs w) :
  (results fn tmps).run P w=.ok (zUM vs) w:=by
 unfold results
 have I:∀ F:ResultVar->Sem Value,F=zMo tmps->((do
   let vs <-fn.results.mapM F
   pure (if h:vs.size=1 then vs[0] else .tuple vs):Sem Value)).run P w=.ok (zUM vs) w:=λF J=>by
  subst J
  rw [Array.mapM_eq_mapM_toList]
  simp [h]
  rcases vs with _ | ⟨t,_ | ⟨u,O⟩⟩<;>simp [zUM]
 exact I _ (zQ3 tmps)
theorem zJf {e:Env} {p:PV} (h:p.isC):p.val e=p.cv e:=by
 cases p<;>first | rfl | exact h.elim | skip
 rename_i x
 cases x<;>first | rfl | (simp [PV.isC,D.isCell] at h)
theorem zHk {e:Env} {p:PV} (h:p.isC):p.val1 e=p.cv e:=by
 have:=zJf (e:=e) h
 cases p<;>first | exact this | exact h.elim
theorem zOI (h:Rel av w0 [] [] [] a w e st) {f:FuncId} {rs:List Sh} {Q:QT rs} {k:List Item} (hk:k=[]\/∃ k',k=.code .ret::k') {N0:Option Nat} (aq:NOk N0 w0) (hs:zVg P f rs Q N0 st):zOy P f k (Fin rs Q av w0) a w:=by
 unfold zVg at hs
 split at hs
 rotate_left
 ·exact hs.elim
 rename_i fn hf
 obtain ⟨au,T,h1,_,_,h2⟩:=uc h aq (by simp) hs
 obtain ⟨vs,ps,h1,ah,ai,aj,aw⟩:=rY h2 _ _ h1
 -- the results, as told
 have O:∀ (i:Nat) (p:PV),(yH P fn.resultTypes.toList ps)[i]?=some p->∃ v,vs[i]?=some v/\ValOk av w e [] au.bx v p:=λi p J=>by
  obtain ⟨q,hq,ax⟩:=rq _ _ _ _ J
  have I:i<vs.length:=by rw [ai,<-aj];exact (oD.1 hq).1
  have hv:=aw i _ q (oF I) hq
  refine ⟨_,oF I,?_⟩
  rcases ax with rfl | ⟨ty,rfl⟩
  ·exact hv
  ·exact hv.retag ty
 cases aa:zEM rs with
 | true =>
   rw [aa] at h1
   have ay:∃ cs,yH P fn.resultTypes.toList ps=[.pg cs]:=by
    by_cases hc:∃ cs,yH P fn.resultTypes.toList ps=[.pg cs]
    ·exact hc
    ·exfalso
     have J:zES true (yH P fn.resultTypes.toList ps)=[.any]:=by
      simp only [zES]
      split
      ·rename_i cs ae;exact absurd ⟨cs,ae⟩ hc
      ·rfl
     rw [J] at h1
     cases rs with
     | nil=>simp [zEM] at aa
     | cons s l=>
       cases s<;>simp [zEM] at aa
       simp only [uh] at h1
       split at h1
       ·rename_i hk
        cases l with
        | nil=>exact h1.elim
        | cons s l=>
          cases s<;>simp only [uh] at h1<;>first | exact h1.elim | (simp [zSs] at hk)
       ·exact h1.elim
   obtain ⟨cs,ae⟩:=ay
   rw [ae] at h1 O
   simp only [zES] at h1
   obtain ⟨v,ak,ab⟩:=O 0 (.pg cs) rfl
   have al:vs=[v]:=by
    have h5:vs.length=1:=by have h6:=nL List.length ae;rw [ww] at h6;rw [ai,<-aj,h6];rfl
    rcases vs with _ | ⟨u,_ | _⟩<;>simp at h5 ak
    subst ak;rfl
   have am:=ab.2.1
   simp only [PV.Ok] at am
   obtain ⟨ac,ao⟩:=am
   rw [PV.OkL_iff] at ac
   obtain ⟨qs,s,g1,g2,g3,g4⟩:=z6 h2 rs Q [] _ 0 h1 (λp J=>.inl (ac p J))
   obtain ⟨m1,m2,m3⟩:=zPI h2 g2
   have az:=QT.app_pk aa g1
   refine zCH hk hf h2.nd (rp ah) ⟨qs,s.rows,s.env e,g1,?_,m1,λq hq=>?_,m3,h2.size,λb hb=>h2.old b hb (by simp),λb c t z hb hc=>h2.fz b c t z (.inl hb) hc,h2.ku⟩
   ·rw [al,aa]
    simp only [zUM,zOU]
    rw [ab.1.resolve_left (by simp)]
    simp only [PV.val,PV.val1,PV.cvs_eq]
    congr 2
    apply nI
    intro i
    rw [oI,oI]
    cases hq:qs[i]? with
    | none=>rw [show cs[i]?=none from oc (by rw [<-g3];exact nV.1 hq)];rfl
    | some q=>
      have I:i<cs.length:=by rw [<-g3];exact (oD.1 hq).1
      have J:=oF I
      rw [J]
      simp only [oe,o4]
      have h5:=g4 [] rfl i _ q J hq
      rw [<-zJf (ao _ (oC J)),h5.1,zHk (az q (oC hq))]
      rfl
   ·obtain ⟨i,hi⟩:=oQ.1 hq
    have I:i<cs.length:=by rw [<-g3];exact (oD.1 hi).1
    have J:=oF I
    exact PV.Ok.mono (λ_ _ _=>rfl) (oB _) (λb _=>m2 b) q ((g4 [] rfl i _ q J hi).2.1 (ac _ (oC J)))
 | false=>
 rw [aa] at h1
 simp only [zES] at h1
 obtain ⟨qs,s,g1,g2,g3,g4⟩:=z6 h2 rs Q [] _ 0 h1 (λp J=>by
  obtain ⟨i,hi⟩:=oQ.1 J
  obtain ⟨t,_,hv⟩:=O i p hi
  exact .inl hv.2.1)
 obtain ⟨m1,m2,m3⟩:=zPI h2 g2
 have hlen:qs.length=vs.length:=by rw [g3,ww,aj,ai]
 refine zCH hk hf h2.nd (rp ah) ⟨qs,s.rows,s.env e,g1,?_,m1,λq hq=>?_,m3,h2.size,λb hb=>h2.old b hb (by simp),λb c t z hb hc=>h2.fz b c t z (.inl hb) hc,h2.ku⟩
 ·-- the values
  have hv:vs=qs.map (PV.val1 (s.env e)):=by
   apply nI
   intro i
   rw [oI]
   cases hq:qs[i]? with
   | none=>
     have:vs[i]?=none:=oc (by rw [<-hlen];exact nV.1 hq)
     rw [this];rfl
   | some q=>
     have I:i<(yH P fn.resultTypes.toList ps).length:=by rw [<-g3];exact (oD.1 hq).1
     have J:=oF I
     obtain ⟨v,hv,ab⟩:=O i _ J
     rw [hv]
     simp only [oe,o4]
     have h5:=g4 [] rfl i _ q J hq
     rw [ab.1.resolve_left h5.2.2.1,h5.1]
     rfl
  rw [hv,aa]
  simp only [zOU]
  unfold zQG
  rcases qs with _ | ⟨q,_ | ⟨r,qs⟩⟩<;>rfl
 ·obtain ⟨i,hi⟩:=oQ.1 hq
  have I:i<(yH P fn.resultTypes.toList ps).length:=by rw [<-g3];exact (oD.1 hi).1
  have J:=oF I
  obtain ⟨t,ht,ab⟩:=O i _ J
  exact PV.Ok.mono (λ_ _ _=>rfl) (oB _) (λb _=>m2 b) q ((g4 [] rfl i _ q J hi).2.1 ab.2.1)
variable {av:Nat->Prop} {P:Program} {w0 w w':World} {e0 e:Env} {pS pS' pB pB':List Nat} {a:Act} {st st':St}
mutual
def uC:PV->PV->Bool
 | .any,.any=>true
 | .pb k z i o,.pb k' z' i' I=>Nat.beq k k'&&Nat.beq z z'&&Nat.beq i i'&&Nat.beq o I
 | .fn f l,.fn J O=>Nat.beq f J&&zCt l O
 | _,_=>false
def zCt:List PV->List PV->Bool
 | [],[]=>true
 | p::ps,q::qs=>uC p q&&zCt ps qs
 | _,_=>false
end
mutual
theorem zLS:∀ {p q:PV},uC p q=true->p=q
 | .any,q,h=>by cases q<;>simp [uC] at h ⊢
 | .pb k z i o,q,h=>by
   cases q<;>simp [uC] at h
   obtain ⟨⟨⟨I,J⟩,O⟩,h4⟩:=h
   rw [I,J,O,h4]
 | .fn f l,q,h=>by
   cases q<;>simp [uC] at h
   rw [h.1,zHY h.2]
 | .int ..,q,h=>by simp [uC] at h
 | .bool ..,q,h=>by simp [uC] at h
 | .str ..,q,h=>by simp [uC] at h
 | .lit ..,q,h=>by simp [uC] at h
 | .sv ..,q,h=>by simp [uC] at h
 | .d ..,q,h=>by simp [uC] at h
 | .dc ..,q,h=>by simp [uC] at h
 | .dg ..,q,h=>by simp [uC] at h
 | .pd ..,q,h=>by simp [uC] at h
 | .sb ..,q,h=>by simp [uC] at h
 | .pg ..,q,h=>by simp [uC] at h
 | .tp ..,q,h=>by simp [uC] at h
theorem zHY:∀ {p q:List PV},zCt p q=true->p=q
 | [],q,h=>by cases q<;>simp [zCt] at h ⊢
 | p :: ps,q,h=>by
   cases q with
   | nil=>simp [zCt] at h
   | cons q qs=>
     simp [zCt] at h
     rw [zLS h.1,zHY h.2]
end
/-- the boxes have the form that they had -/
def zVE (all:List Bx) (q p:PV) (K:Prop):Prop:=match zDV q with
 | some _=>match zDV p with
   | some _=>K
   | none=>False
 | none=>match q,p with
   | .sb k z lo _ _,.sb k' z' I n c=>match Nat.beq k k'&&Nat.beq z z'&&Nat.beq lo I with
     | true=>match all[k]? with
       | some (.arr _ _ es J)=>(n=es.length/\c=J)/\K
       | _=>False
     | false=>False
   | q,p=>match uC q p with
     | true=>K
     | false=>False
def zTC (all:List Bx):List PV->List PV->Prop->Prop
 | [],[],K=>K
 | q::qs,p::ps,K=>zVE all q p (zTC all qs ps K)
 | _,_,_=>False
def zUQ (all:List Bx) (J B:Bx) (K:Prop):Prop:=match J,B with
 | .var I,.var cs=>zTC all I cs K
 | .vd _ n,.vd _ O=>match Nat.beq n O with
   | true=>K
   | false=>False
 | .arr t z _ _,.arr t' z' _ _=>match Nat.beq t t'&&Nat.beq z z' with
   | true=>K
   | false=>False
 | _,_=>False
def zTd (all:List Bx):List Bx->List Bx->Prop->Prop
 | [],[],K=>K
 | B0::b0,B::bs,K=>zUQ all B0 B (zTd all b0 bs K)
 | _,_,_=>False
theorem zO4 {all:List Bx} {q p:PV} {K:Prop} (h:zVE all q p K):K/\(((∃ s,zDV q=some s)/\∃ s,zDV p=some s)\/(zDV q=none/\zDV p=none /\
  ∀ I:List Bx,(∀ (k:Nat) t z es c,all[k]?=some (.arr t z es c)->I[k]?=some (.arr t z es c))->zUD I q=p)):=by
 unfold zVE at h
 split at h
 ·rename_i s hs
  split at h
  ·rename_i s' O
   exact ⟨h,.inl ⟨⟨s,hs⟩,s',O⟩⟩
  ·exact h.elim
 ·rename_i hq
  split at h
  ·rename_i k z lo n0 c0 k' z' aa n c
   split at h
   ·rename_i hk
    simp only [oL] at hk
    obtain ⟨⟨h1,h2⟩,h3⟩:=hk
    have h1:=ol h1
    have h2:=ol h2
    have h3:=ol h3
    subst h1;subst h2;subst h3
    split at h
    ·rename_i t zz es c' ha
     obtain ⟨⟨rfl,rfl⟩,hK⟩:=h
     refine ⟨hK,.inr ⟨rfl,rfl,λI J=>?_⟩⟩
     simp only [zUD,J _ _ _ _ _ ha]
    ·exact h.elim
   ·exact h.elim
  ·rename_i ab
   split at h
   ·rename_i hs
    have he:=zLS hs
    subst he
    refine ⟨h,.inr ⟨hq,hq,λI _=>?_⟩⟩
    cases q<;>first | rfl | simp [uC] at hs
   ·exact h.elim
theorem zDZ {all:List Bx}:∀ {O cs:List PV} {K:Prop},zTC all O cs K->K/\∀ rest:List PV,(zMU O (zPB cs++rest)).2=rest /\
  ∀ I:List Bx,(∀ (k:Nat) t z es c,all[k]?=some (.arr t z es c)->I[k]?=some (.arr t z es c))->(zMU O (zPB cs++rest)).1.map (zUD I)=cs
 | [],[],K,h=>⟨h,λrest=>⟨rfl,λ_ _=>rfl⟩⟩
 | [],_::_,K,h=>h.elim
 | _::_,[],K,h=>h.elim
 | q::qs,p::ps,K,h=>by
   obtain ⟨h1,h2⟩:=zO4 h
   obtain ⟨h3,h4⟩:=zDZ h1
   refine ⟨h3,λrest=>?_⟩
   obtain ⟨h5,h6⟩:=h4 rest
   rcases h2 with ⟨⟨s,hs⟩,s',aa⟩ | ⟨hq,hp,ab⟩
   ·simp only [zMU,hs,zPB,aa,o9]
    refine ⟨h5,λI J=>?_⟩
    rw [oh,h6 I J]
    congr 1
    cases p<;>simp [zDV] at aa<;>rfl
   ·simp only [zMU,hq,zPB,hp]
    exact ⟨h5,λI J=>by rw [oh,h6 I J,ab I J]⟩
theorem zLj {all:List Bx}:∀ {b0 bs:List Bx} {K:Prop},zTd all b0 bs K->K/\∀ rest:List PV,(∀ (k:Nat) t z es c,bs[k]?=some (.arr t z es c)->(zOP b0 (zEv bs++rest))[k]?=some (.arr t z es c)) /\
  ∀ I:List Bx,(∀ (k:Nat) t z es c,all[k]?=some (.arr t z es c)->I[k]?=some (.arr t z es c))->(zOP b0 (zEv bs++rest)).map (zUS I)=bs
 | [],[],K,h=>⟨h,λrest=>⟨by simp,λ_ _=>rfl⟩⟩
 | [],_::_,K,h=>h.elim
 | _::_,[],K,h=>h.elim
 | B0 :: b0,B::bs,K,h=>by
   simp only [zTd] at h
   have key:∀ (K':Prop),zUQ all B0 B K'->K'/\∀ rest:List PV,(zNj B0 (zOw B++rest)).2=rest/\(∀ t z es c,B=.arr t z es c->(zNj B0 (zOw B++rest)).1=.arr t z es c) /\
     ∀ I:List Bx,(∀ (k:Nat) t z es c,all[k]?=some (.arr t z es c)->I[k]?=some (.arr t z es c))->zUS I (zNj B0 (zOw B++rest)).1=B:=λK' h=>by
    unfold zUQ at h
    split at h
    ·rename_i aa cs
     obtain ⟨h1,h2⟩:=zDZ h
     refine ⟨h1,λrest=>⟨(h2 rest).1,λ_ _ _ _ hc=>(by cases hc),λI J=>?_⟩⟩
     simp only [zNj,zUS,zOw,(h2 rest).2 I J]
    ·rename_i x n y n'
     split at h
     ·rename_i O
      have O:=ol O
      subst O
      exact ⟨h,λrest=>⟨rfl,λ_ _ _ _ hc=>(by cases hc),λ_ _=>rfl⟩⟩
     ·exact h.elim
    ·rename_i t z ab c0 t' z' es c
     split at h
     ·rename_i O
      simp only [oL] at O
      have h1:=ol O.1
      have h2:=ol O.2
      subst h1;subst h2
      exact ⟨h,λrest=>⟨rfl,λ_ _ _ _ hc=>(by cases hc;rfl),λ_ _=>rfl⟩⟩
     ·exact h.elim
    ·exact h.elim
   obtain ⟨h1,h2⟩:=key _ h
   obtain ⟨h3,h4⟩:=zLj h1
   refine ⟨h3,λrest=>?_⟩
   have e1:zEv (B::bs)++rest=zOw B++(zEv bs++rest):=by simp [zEv]
   rw [e1]
   obtain ⟨h5,h6,h7⟩:=h2 (zEv bs++rest)
   obtain ⟨h8,h9⟩:=h4 rest
   simp only [zOP,h5]
   refine ⟨λk t z es c hk=>?_,λI J=>by rw [oh,h7 I J,h9 I J]⟩
   cases k with
   | zero=>simp at hk ⊢;exact h6 _ _ _ _ hk
   | succ k=>simp only [nA] at hk ⊢;exact h8 k _ _ _ _ hk
theorem zP3 {all:List Bx}:∀ {b0 bs:List Bx} {K:Prop},zTd all b0 bs K->∀ B∈bs,B≠.gone
 | [],[],K,h=>by simp
 | [],_::_,K,h=>h.elim
 | _::_,[],K,h=>h.elim
 | B0::b0,B::bs,K,h=>by
   simp only [zTd] at h
   have key:∀ K',zUQ all B0 B K'->B≠.gone/\K':=λK' h=>by
    unfold zUQ at h
    split at h
    ·exact ⟨by simp,(zDZ h).1⟩
    ·split at h
     ·exact ⟨by simp,h⟩
     ·exact h.elim
    ·split at h
     ·exact ⟨by simp,h⟩
     ·exact h.elim
    ·exact h.elim
   obtain ⟨I,J⟩:=key _ h
   intro C hC
   rcases oH.1 hC with rfl | hC
   ·exact I
   ·exact zP3 J C hC
theorem zRn {b0 bs:List Bx} {K:Prop} (h:zTd bs b0 bs K):K/\zJw b0 (zEv bs)=bs:=by
 obtain ⟨O,h2⟩:=zLj h
 obtain ⟨I,J⟩:=h2 []
 rw [o6] at I J
 exact ⟨O,J _ I⟩
def wO (E:Env):Nat->List Bx->List (Option Nat)
 | _,[]=>[]
 | k,B::bs=>(match B with
   | .var _=>some ((E.at k).getD 0)
   | .vd _ _=>some ((E.at k).getD 0)
   | _=>none)::wO E (k+1) bs
theorem zAA {E:Env}:∀ (bs:List Bx) (k:Nat),(wO E k bs).length=bs.length
 | [],k=>rfl
 | B::bs,k=>by simp [wO,zAA bs]
theorem zKz {E:Env}:∀ (bs:List Bx) (k j:Nat) (B:Bx),bs[j]?=some B->B.isArr=false->(wO E k bs)[j]?=some (some ((E.at (k+j)).getD 0))
 | B::bs,k,0,B',h,I=>by simp at h;subst h;cases B<;>simp [Bx.isArr] at I<;>simp [wO]
 | B::bs,k,j+1,B',h,I=>by
   simp only [nA] at h
   simp only [wO,nA]
   rw [zKz bs (k+1) j B' h I,show k+1+j=k+(j+1) by omega]
/-- the first boxes lie where they lay -/
def zTZ (p:Option (List (Option Nat) × List Nat)) (E:Env) (bx0:List Bx):Prop:=p=some (wO E 0 bx0,[])
def vW (E:Env) (bx0:List Bx):Prop:=zTZ (some (wO E 0 bx0,[])) E bx0
theorem vV {E:Env} {bx0:List Bx}:vW E bx0:=rfl
def zT2:List Sh->Bool
 | []=>true
 | .pk::_=>false
 | _::l=>zT2 l
def zTj (st:St) (m:Nat):List Nat:=(zAh st.bx 200 (List.range m) []).filter λk=>zUX st k&&Nat.ble m k
def zQN (full:List Sh) (ps:List PV):List PV:=match full with
 | .bk _::_=>[.int .i64 0]
 | _=>ps
/-- what is returned is the whole slice of a box that was handed in -/
def zVI (st:St) (m:Nat) (full:List Sh) (ps:List PV) (K:Prop):Prop:=match full with
 | .bk j::_=>match ps with
   | [.sb k z lo n c]=>match st.bx[j]? with
     | some (.arr _ z' es I)=>match Nat.beq k j&&Nat.beq lo 0&&Nat.beq z z'&&Nat.blt j m with
       | true=>(n=es.length/\c=I)/\K
       | false=>False
     | _=>False
   | _=>False
 | _=>K
theorem zPX {m:Nat} {full:List Sh} {ps:List PV} {K:Prop} (h:zVI st m full ps K):K/\(((∀ j l,full≠.bk j::l)/\zQN full ps=ps)\/∃ j l t z es c,full=.bk j::l/\ps=[.sb j z 0 es.length c]/\st.bx[j]?=some (.arr t z es c)/\j<m/\zQN full ps=[.int .i64 0]):=by
 unfold zVI at h
 split at h
 ·rename_i j l
  split at h
  ·rename_i k z lo n c
   split at h
   ·rename_i t z' es c' hj
    split at h
    ·rename_i hb
     simp only [oL] at hb
     obtain ⟨⟨⟨I,J⟩,O⟩,h4⟩:=hb
     have I:=ol I
     have J:=ol J
     have O:=ol O
     subst I;subst J;subst O
     obtain ⟨⟨rfl,rfl⟩,hK⟩:=h
     exact ⟨hK,.inr ⟨_,_,_,_,_,_,rfl,rfl,hj,by simpa [Nat.blt_eq] using h4,rfl⟩⟩
    ·exact h.elim
   ·exact h.elim
  ·exact h.elim
 ·rename_i hn
  refine ⟨h,.inl ⟨λj l hc=>hn j l hc,?_⟩⟩
  unfold zQN
  split
  ·exact absurd rfl (hn _ _)
  ·rfl
def zVL (full:List Sh):List Sh:=match full with
 | .bk _::l=>.row 0 0::l
 | l=>l
def zQb:List Sh->List Sh
 | .pk::l=>l
 | l=>l
def zVQ (pk:Bool) (ps:List PV):Bool:=match pk with
 | true=>match ps with
   | [.pg _]=>true
   | _=>false
 | false=>true
def zVh (P:Program) (f:FuncId) (full:List Sh) (Q:QT full) (N0:Option Nat) (E:Env) (bx0:List Bx) (st:St):Prop:=
 match P.funcs[f]? with
 | some fn=>zAW N0 #[] [] (zU1 (zVL full) (fn.results.toList.map zNp)) (fn.results.toList.map zNp) st λst=>zKN N0 [] [] (zTj st bx0.length) st λst=>
  zTZ st.pin E bx0/\zTd (st.bx.take bx0.length) bx0 (st.bx.take bx0.length) (zTH P st fn.results.toList λps=>match Nat.beq fn.resultTypes.size fn.results.size&&(((zQb full).drop (zJI P f full bx0)).all λs=>!zJs s)&&(bx0.all λB=>B.refs.all λi=>decide (i<bx0.length))&&zT2 (zQb full)&&(zVQ (zEM full) (yH P fn.resultTypes.toList ps)&&Nat.beq (zES (zEM full) (yH P fn.resultTypes.toList ps)).length (zJI P f full bx0)) with
  | true=>zVI st bx0.length full (zES (zEM full) (yH P fn.resultTypes.toList ps)) (uh st full Q (List.range bx0.length) (zQN full (zES (zEM full) (yH P fn.resultTypes.toList ps))++zEv (st.bx.take bx0.length)))
  | false=>False)
 | none=>False
theorem zJO:∀ {cs:List PV} {p:PV},p∈zPB cs->p∈cs/\zK3 p=true/\p.refs=[]
 | q :: cs,p,h=>by
   simp only [zPB] at h
   split at h
   ·rename_i s hs
    rcases oH.1 h with rfl | h
    ·refine ⟨by simp,?_⟩
     cases p<;>simp [zDV] at hs<;>exact ⟨rfl,rfl⟩
    ·obtain ⟨I,J⟩:=zJO h
     exact ⟨by simp [I],J⟩
   ·obtain ⟨I,J⟩:=zJO h
    exact ⟨by simp [I],J⟩
theorem zTn {e ne:Env} {m:Nat} {B:Bx} (h:B.row):BPick e ne m B B:=by
 cases B with
 | arr t z es c=>exact ⟨.inr (.inl ⟨rfl,by simp⟩)⟩
 | _ =>
   obtain ⟨_,_,_,_,_,O⟩:=h
   cases O<;>exact ⟨.inr (.inr ⟨_,_,rfl,rfl,rfl,λi q I=>by
    have J:q.refs=[]:=by
     have:=oC I
     simp at this
     rcases this with rfl | rfl | rfl<;>rfl
    exact .inr ⟨q,I,id,PV.cv_congr q (by simp [J]),λ_ _=>id,id,by simp [J]⟩⟩)⟩
theorem zQc {s:Sh} {l:List Sh} (h:zT2 (s::l)=true):s≠.pk/\zT2 l=true:=by cases s<;>simp [zT2] at h<;>exact ⟨by simp,h⟩
theorem QT.app_plainrow:∀ (l:List Sh) (Q:QT l) (b:Nat) (ps:List PV) (rows:List Bx) (N:Nat),zT2 l=true->QT.app l Q b ps rows N->ps.length=l.length/\∀ (i:Nat) (s:Sh) (p:PV),l[i]?=some s->zJs s=false->ps[i]?=some p->zVR p=false
 | [],Q,b,ps,rows,N,O,h=>by
   cases ps<;>cases rows<;>simp [QT.app] at h ⊢
 | s :: l,Q,b,ps,rows,N,O,h=>by
   obtain ⟨hs,O⟩:=zQc O
   cases ps with
   | nil=>cases s<;>first | exact absurd rfl hs | (simp [QT.app] at h;done)
   | cons p ps=>
     have key:(∃ (Q':QT l) (b':Nat) (I:List Bx),QT.app l Q' b' ps I N)/\(zJs s=false->zVR p=false):=by
      cases s<;>(try (exact absurd rfl hs))<;>cases p<;>(try (exact h.elim))<;>(try (simp [QT.app] at h;done))<;>first
       | exact ⟨⟨_,_,_,h⟩,λ_=>rfl⟩
       | exact ⟨⟨_,_,_,h⟩,λhc=>by cases hc⟩
       | exact ⟨⟨_,_,_,h.2⟩,λ_=>rfl⟩
       | skip
      all_goals
       cases rows with
       | nil=>simp [QT.app] at h
       | cons B rows=>
         cases B<;>first
          | exact ⟨⟨_,b+1,_,h.2⟩,λhc=>by cases hc⟩
          | (simp [QT.app] at h;done)
          | (obtain ⟨_,_,_,_,_,_,_,h⟩:=h;exact ⟨⟨_,_,_,h⟩,λhc=>by cases hc⟩)
     obtain ⟨⟨Q',b',I,h'⟩,hp⟩:=key
     obtain ⟨h1,h2⟩:=QT.app_plainrow l Q' b' ps I N O h'
     refine ⟨by simp [h1],λi s' p' hs hr J=>?_⟩
     cases i with
     | zero=>simp at hs J;subst hs;subst J;exact hp hr
     | succ i=>exact h2 i s' p' (by simpa using hs) hr (by simpa using J)
theorem QT.app_body {full:List Sh} {Q:QT full} {b:Nat} {ps:List PV} {rows:List Bx} {N:Nat} (h:QT.app full Q b ps rows N):∃ I:QT (zQb full),QT.app (zQb full) I b ps rows N:=by
 cases full with
 | nil=>exact ⟨Q,h⟩
 | cons s l=>cases s<;>first | exact ⟨Q,h⟩ | exact ⟨Q,h.2⟩
theorem zPP {pk:Bool} {ps:List PV} (h:zVQ pk ps=true):(pk=false/\zES pk ps=ps)\/∃ cs,pk=true/\ps=[.pg cs]/\zES pk ps=cs:=by
 cases pk with
 | false=>exact .inl ⟨rfl,rfl⟩
 | true=>
   unfold zVQ at h
   simp only at h
   split at h
   ·exact .inr ⟨_,rfl,rfl,rfl⟩
   ·cases h
theorem zOu {E:Env} (h:Rel av w0 E [] [] a w e st) {f:FuncId} {full:List Sh} {Q:QT full} {k:List Item} (hk:k=[]\/∃ k',k=.code .ret::k') {N0:Option Nat} (hN0:NOk N0 w0) {bx0:List Bx} (hs:zVh P f full Q N0 E bx0 st):zOy P f k (zVH full Q (zJI P f full bx0) av w0 E bx0) a w:=by
 unfold zVh at hs
 split at hs
 rotate_left
 ·exact hs.elim
 rename_i fn hf
 obtain ⟨st0,T,h0,_,_,h1⟩:=uc h hN0 (by simp) hs
 obtain ⟨st1,h2,_,h3⟩:=qn hN0 (by simp) (by simp) _ _ h1 (by simp) h0
 obtain ⟨hpin,h2⟩:=h2
 unfold zTZ at hpin
 have hgn:=zP3 h2
 obtain ⟨h2,hupd⟩:=zRn h2
 obtain ⟨vs,ps,h2,hrun,hvl,hpl,hvp⟩:=rY h3 _ _ h2
 split at h2
 rotate_left
 ·exact h2.elim
 rename_i hbool
 simp only [oL,oT,na,nD] at hbool
 obtain ⟨⟨⟨⟨hrt,hrow⟩,hclosed⟩,hnpk⟩,hpgk,hkn⟩:=hbool
 have hkn:=ol hkn
 have hrt:=ol hrt
 obtain ⟨h2,hbk⟩:=zPX h2
 clear hs
 generalize zJI P f full bx0=nn at hrow hkn ⊢
 have hpins:st1.pins=wO E 0 bx0:=by simp [St.pins,hpin]
 have hns:∀ p∈zEv (st1.bx.take bx0.length),zK3 p=true/\p.refs=[]:=fun p hp=>by
  simp only [zEv,ny] at hp
  obtain ⟨B,_,hp⟩:=hp
  cases B<;>simp only [zOw] at hp
  ·exact (zJO hp).2
  ·simp at hp;subst hp;exact ⟨rfl,rfl⟩
  ·simp at hp;subst hp;exact ⟨rfl,rfl⟩
  ·simp at hp
 obtain ⟨ul,ug⟩:=zI3 bx0 (zEv (st1.bx.take bx0.length)) fun p hp=>(hns p hp).2
 rw [hupd] at ul ug
 have hm:bx0.length<=st1.bx.length:=by rw [o8] at ul;omega
 have hgn:∀ (k:Nat) (B:Bx),k<bx0.length->st1.bx[k]?=some B->B≠.gone:=fun k B hk hB=>hgn B (oC (i:=k) (by rw [o3];simp [hk,hB]))
 have htk:∀ j,j<bx0.length->(st1.bx.take bx0.length)[j]?=st1.bx[j]?:=fun j hj=>by rw [o3];simp [hj]
 have hrefs:∀ (j:Nat) (B:Bx),j<bx0.length->st1.bx[j]?=some B->∀ i∈B.refs,i<bx0.length:=fun j B hj hB i hi=>by
  obtain ⟨B1,g1,g2,_⟩:=ug j B (by rw [htk j hj];exact hB)
  exact hclosed B1 (oC g1) i (g2 i hi)
 -- the results, as told
 have hres:∀ (i:Nat) (p:PV),(yH P fn.resultTypes.toList ps)[i]?=some p->∃ v,vs[i]?=some v/\ValOk av w e [] st1.bx v p:=fun i p hp=>by
  obtain ⟨q,hq,hqp⟩:=rq _ _ _ _ hp
  have hlt:i<vs.length:=by rw [hvl,<-hpl];exact (oD.1 hq).1
  have hv:=hvp i _ q (oF hlt) hq
  refine ⟨_,oF hlt,?_⟩
  rcases hqp with rfl | ⟨ty,rfl⟩
  ·exact hv
  ·exact hv.retag ty
 have hpk:=zPP hpgk
 have hresK:∀ p∈zES (zEM full) (yH P fn.resultTypes.toList ps),p.Ok w (zW av [] e st1.bx):=fun p hp=>by
  rcases hpk with ⟨_,g⟩ | ⟨cs,_,g1,g⟩
  ·rw [g] at hp
   obtain ⟨i,hi⟩:=oQ.1 hp
   obtain ⟨t,_,hv⟩:=hres i p hi
   exact hv.2.1
  ·rw [g] at hp
   obtain ⟨v,_,hvo⟩:=hres 0 (.pg cs) (by rw [g1];rfl)
   have:=hvo.2.1
   simp only [PV.Ok] at this
   exact PV.OkL_iff.1 this.1 p hp
 generalize zES (zEM full) (yH P fn.resultTypes.toList ps)=psk at hkn hpk hresK h2 hbk ⊢
 have hprOk:∀ p∈zQN full psk,p.Ok w (zW av [] e st1.bx):=fun p hp=>by
  rcases hbk with ⟨_,g⟩ | ⟨j,l,t,z,es,c,_,_,_,_,g⟩
  ·rw [g] at hp
   exact hresK p hp
  ·rw [g] at hp
   rw [oR] at hp
   subst hp;trivial
 obtain ⟨qs,s,g1,g2,g3,g4⟩:=z6 h3 full Q (List.range bx0.length) _ bx0.length h2 (fun p hp=>by
  rcases oG.1 hp with hp | hp
  ·exact .inl (hprOk p hp)
  ·exact .inr (hns p hp).1)
 have hn0:psk.length=nn:=hkn
 have hr0:(yH P fn.resultTypes.toList ps).length=fn.resultTypes.size:=by rw [ww,hpl,hrt];simp
 have hn:(zQN full psk).length=nn:=by
  rcases hbk with ⟨_,g⟩ | ⟨j,l,t,z,es,c,_,g2,_,_,g⟩
  ·rw [g];exact hn0
  ·rw [g,<-hn0,g2];rfl
 have hvn:vs.length=fn.resultTypes.size:=by rw [hvl,hrt];simp
 obtain ⟨Q',g1'⟩:=QT.app_body g1
 obtain ⟨hql,hqrow⟩:=QT.app_plainrow _ _ _ _ _ _ hnpk g1'
 have hel:bx0.length<=e.length:=by rw [h3.el];exact hm
 have hEl:(e.take bx0.length).length=bx0.length:=by simp;omega
 have hqx:qs.drop nn=zEv (st1.bx.take bx0.length):=by
  apply nI
  intro i
  rw [nQ]
  cases hx:(zEv (st1.bx.take bx0.length))[i]? with
  | none=>
    refine oc ?_
    rw [g3,oE,hn]
    have:=nV.1 hx
    omega
  | some p=>
    have hlt:nn+i<qs.length:=by
     rw [g3,oE,hn]
     have:=(oD.1 hx).1
     omega
    have hq:=oF hlt
    have hp:(zQN full psk++zEv (st1.bx.take bx0.length))[nn+i]?=some p:=by
     rw [oP (by omega),hn];simpa using hx
    have ht:=(g4 _ hEl _ p _ hp hq).2.2.2 (hns p (oC hx)).1
    have hlf:nn+i<(zQb full).length:=by rw [<-hql];exact hlt
    have hsb:=hqrow (nn+i) _ _ (oF hlf) (hrow _ (oC (i:=i) (by rw [nQ,oF hlf]))) hq
    rcases ht with ht | ht
    ·rw [hq,ht]
    ·rw [hsb] at ht;cases ht
 have hqs:qs=qs.take nn++zEv (st1.bx.take bx0.length):=by rw [<-hqx];exact (nJ _ _).symm
 have hql1:(qs.take nn).length=nn:=by
  rw [o8,g3,oE,hn];omega
 -- the boxes that go along
 have hne:((List.range bx0.length).map some++s.map (·.1)).map (fun u=>Option.bind u e.at)=e.take bx0.length++s.env e:=by
  rw [nW]
  congr 1
  ·apply nI
   intro i
   by_cases hi:i<bx0.length
   ·rw [o3]
    have:i<e.length:=by omega
    simp [hi,Env.at,oA,this]
   ·rw [oc (by simp;omega),oc (by simp;omega)]
  ·simp [Sel.env]
 have hatk:∀ k,k<bx0.length->Env.at (e.take bx0.length++s.env e) k=e.at k:=fun k hk=>by
  rw [Env.at_app,if_pos (by rw [hEl];exact hk)]
  simp [Env.at,oA,o3,hk]
 have hus:∀ (j:Nat) u,((List.range bx0.length).map some++s.map (·.1))[j]?=some u->(j<bx0.length/\u=some j)\/∃ x,s[j - bx0.length]?=some x/\bx0.length<=j/\u=x.1:=fun j u hj=>by
  by_cases hlt:j<bx0.length
  ·rw [oN (by simpa using hlt)] at hj
   simp [hlt] at hj
   exact .inl ⟨hlt,hj.symm⟩
  ·rw [oP (by simp;omega)] at hj
   simp only [nO,List.length_range,oI] at hj
   cases hx:s[j - bx0.length]? with
   | none=>simp [hx] at hj
   | some x=>simp [hx] at hj;exact .inr ⟨x,rfl,by omega,hj.symm⟩
 have hnb:∀ (j:Nat) (B:Bx),(st1.bx.take bx0.length++s.rows)[j]?=some B->(j<bx0.length/\st1.bx[j]?=some B)\/∃ x,s[j - bx0.length]?=some x/\bx0.length<=j/\B=x.2:=fun j B hj=>by
  by_cases hlt:j<bx0.length
  ·rw [oN (by rw [ul];exact hlt),htk j hlt] at hj
   exact .inl ⟨hlt,hj⟩
  ·rw [oP (by rw [ul];omega),ul] at hj
   simp only [Sel.rows,oI] at hj
   cases hx:s[j - bx0.length]? with
   | none=>simp [hx] at hj
   | some x=>simp [hx] at hj;exact .inr ⟨x,rfl,by omega,hj.symm⟩
 have hsel:∀ (i:Nat) x k,s[i]?=some x->x.1=some k->bx0.length<=k/\∃ B,st1.bx[k]?=some B/\B≠.gone:=fun i x k hx hk=>by
  refine ⟨?_,?_⟩
  ·have:=g2.un k (nR.2 ⟨x,oC hx,hk⟩)
   simpa using this
  ·rcases g2.at_ x (oC hx) with ⟨h5,_⟩ | ⟨k2,h5,h6,h7⟩
   ·rw [h5] at hk;cases hk
   ·rw [hk] at h5;cases h5
    exact ⟨x.2,h6,h7.sp.1⟩
 obtain ⟨m1,m2,m3⟩:=zIy (us:=(List.range bx0.length).map some++s.map (·.1)) (nb:=st1.bx.take bx0.length++s.rows) (av':=av) h3.toMem (fun b hb=>.inl hb) (by simp [Sel.rows,ul])
  (fun i j k hi hj=>by
   rcases hus i _ hi with ⟨a1,a2⟩ | ⟨x,a1,a2,a3⟩<;>rcases hus j _ hj with ⟨b1,b2⟩ | ⟨y,b1,b2,b3⟩
   ·cases a2;cases b2;rfl
   ·cases a2;have:=(hsel _ y _ b1 b3.symm).1;omega
   ·cases b2;have:=(hsel _ x _ a1 a3.symm).1;omega
   ·have key:∀ (s:Sel) (i j:Nat) (x y:Option Nat × Bx),(s.filterMap (·.1)).Nodup->s[i]?=some x->s[j]?=some y->x.1=some k->y.1=some k->i=j:=by
     intro s
     induction s with
     | nil=>intro i j x y _ hx;simp at hx
     | cons u s ih=>
       intro i j x y hn hx hy hxk hyk
       have hn':(s.filterMap (·.1)).Nodup:=by
        cases hu:u.1 with
        | none=>simpa [hu] using hn
        | some m=>simp only [nl,hu] at hn;exact (nh.1 hn).2
       have hnm:u.1=some k->k∉s.filterMap (·.1):=fun hu=>by
        simp only [nl,hu] at hn
        exact (nh.1 hn).1
       cases i with
       | zero=>
         simp at hx;subst hx
         cases j with
         | zero=>rfl
         | succ j=>simp at hy;exact absurd (nR.2 ⟨y,oC hy,hyk⟩) (hnm hxk)
       | succ i=>
         simp at hx
         cases j with
         | zero=>simp at hy;subst hy;exact absurd (nR.2 ⟨x,oC hx,hxk⟩) (hnm hyk)
         | succ j=>simp at hy;rw [ih i j x y hn' hx hy hxk hyk]
    have:=key s _ _ x y g2.nd a1 b1 a3.symm b3.symm
    omega)
  (fun j B hj=>by
   rcases hnb j B hj with ⟨a1,a2⟩ | ⟨x,a1,a2,rfl⟩
   ·refine .inr ⟨j,B,?_,by simp,a2,⟨?_⟩⟩
    ·rw [oN (by simpa using a1)];simp [a1]
    ·rw [hne]
     cases B with
     | var cs=>
       refine .inr (.inr ⟨cs,cs,rfl,rfl,rfl,fun i q hq=>.inr ⟨q,hq,id,?_,fun _ _=>id,id,fun r hr=>?_⟩⟩)
       ·have hr:∀ r∈q.refs,r<bx0.length:=fun r hr=>hrefs j _ a1 a2 r (by simp only [Bx.refs];exact PV.refsL_mem.2 ⟨q,oC hq,hr⟩)
        exact (PV.cv_congr q fun r hr2=>hatk r (hr r hr2)).symm
       ·have:=hrefs j _ a1 a2 r (by simp only [Bx.refs];exact PV.refsL_mem.2 ⟨q,oC hq,hr⟩)
        simp;omega
     | _=>exact .inr (.inl ⟨rfl,by simp⟩)
   ·have hjs:((List.range bx0.length).map some++s.map (·.1))[j]?=some x.1:=by
     rw [oP (by simp;omega)];simp [a1]
    rcases g2.at_ x (oC a1) with ⟨h5,t,z,h6⟩ | ⟨k2,h5,h6,h7⟩
    ·exact .inl ⟨by rw [hjs,h5],t,z,h6⟩
    ·exact .inr ⟨k2,x.2,by rw [hjs,h5],by simp,h6,zTn h7⟩)
 rw [hne] at m1 m2 m3
 have hng:∀ k b,k<bx0.length->e.at k=some b->Lives [] e st1.bx k b:=fun k b hk hb=>by
  obtain ⟨B,hB⟩:∃ B,st1.bx[k]?=some B:=⟨_,oF (by omega)⟩
  exact ⟨by simp,hb,B,hB,hgn k B hk hB⟩
 refine zCH hk hf h3.nd (rp hrun) ⟨qs.take nn,zEv (st1.bx.take bx0.length),s.rows,e.take bx0.length++s.env e,?_,{
  q:=by rw [<-hqs];exact g1
  v:=?_
  m:=by rw [hupd];exact m1
  ok:=fun q hq=>?_
  fix:=fun k B hB ha=>?_
  fresh:=fun k b hb=>?_
  size:=h3.size
  old:=h3.old
  fz:=h3.fz
  ku:=h3.ku
  ns:=fun p hp=>(hns p hp).2
  be:=zJL h3.toMem rfl fun B hB=>oX hB }⟩
 ·exact hql1
 ·rcases hbk with ⟨gn,gp⟩ | ⟨j,l,t,z,es,c,gf,gps,gj,gm,gp⟩
  ·rw [zGG gn]
   rw [gp] at g4 g3
   rcases hpk with ⟨gk,hpk⟩ | ⟨cs,gk,hcs,hpk⟩
   rotate_left
   ·have hqC:=QT.app_pk gk g1
    obtain ⟨v,hv0,hvo⟩:=hres 0 (.pg cs) (by rw [hcs];rfl)
    have hvs:vs=[v]:=by
     have h5:vs.length=1:=by rw [hvn,<-hr0,hcs];rfl
     rcases vs with _ | ⟨u,_ | _⟩<;>simp at h5 hv0
     subst hv0;rfl
    have hok:=hvo.2.1
    simp only [PV.Ok] at hok
    rw [hvs,gk]
    simp only [zUM,zOU]
    rw [hvo.1.resolve_left (by simp)]
    simp only [PV.val,PV.val1,PV.cvs_eq]
    congr 2
    apply nI
    intro i
    rw [oI,oI]
    have hcl:cs.length=nn:=by rw [<-hkn,hpk]
    by_cases hi:i<nn
    ·have hlt:i<(qs.take nn).length:=by omega
     have hq:=oF hlt
     have hq2:qs[i]?=some (qs.take nn)[i]:=by rw [<-hq,o3];simp [hi]
     obtain ⟨x,hp⟩:∃ x,cs[i]?=some x:=⟨_,oF (by omega)⟩
     have hp2:(psk++zEv (st1.bx.take bx0.length))[i]?=some x:=by
      rw [oN (by omega),hpk];exact hp
     have h5:=g4 _ hEl i _ _ hp2 hq2
     rw [hq,hp]
     simp only [oe,o4]
     rw [<-zJf (hok.2 _ (oC hp)),h5.1,zHk (hqC _ (oC hq2))]
    ·rw [oc (by omega),oc (by omega)];rfl
   have hfn:fn.resultTypes.size=nn:=by rw [<-hr0,<-hpk,<-hkn]
   rw [gk]
   have hv:vs=(qs.take nn).map (PV.val1 (e.take bx0.length++s.env e)):=by
    apply nI
    intro i
    rw [oI]
    by_cases hi:i<nn
    ·have hlt:i<(qs.take nn).length:=by omega
     have hq:=oF hlt
     have hq2:qs[i]?=some (qs.take nn)[i]:=by
      rw [<-hq,o3];simp [hi]
     have hp:psk[i]?=some psk[i]:=oF (by omega)
     obtain ⟨v,hv,hvo⟩:=hres i _ (by rw [<-hpk];exact hp)
     have hp2:(psk++zEv (st1.bx.take bx0.length))[i]?=some psk[i]:=by rw [oN (by omega)];exact hp
     have h5:=g4 _ hEl i _ _ hp2 hq2
     rw [hv,hq,hvo.1.resolve_left h5.2.2.1,h5.1]
     rfl
    ·rw [oc (by omega),oc (by omega)];rfl
   rw [hv]
   simp only [zOU]
   unfold zQG
   rcases qs.take nn with _ | ⟨q,_ | ⟨r,qs⟩⟩<;>rfl
  ·rcases hpk with ⟨gk,hpk⟩ | ⟨cs,gk,_,_⟩
   rotate_left
   ·rw [gf] at gk;cases gk
   have h1:psk[0]?=some (.sb j z 0 es.length c):=by rw [gps];rfl
   obtain ⟨v,hv,hvo⟩:=hres 0 _ (by rw [<-hpk];exact h1)
   have hlen:vs.length=1:=by rw [hvn,<-hr0,<-hpk,gps];rfl
   have hvs:vs=[v]:=by
    match vs,hlen with
    | [v'],_=>simp at hv;rw [hv]
   have hUj:(zJw bx0 (zEv (st1.bx.take bx0.length)))[j]?=some (.arr t z es c):=by rw [hupd,htk j gm];exact gj
   rw [hvs,gf]
   simp only [zO9,hUj,PV.cv,hatk j gm]
   have:=hvo.1.resolve_left (by simp)
   rw [this]
   rfl
 ·rw [hupd]
  obtain ⟨i,hi⟩:=oQ.1 hq
  have hlt:=(oD.1 hi).1
  rw [hql1] at hlt
  have hq2:qs[i]?=some q:=by rw [<-hi,o3];simp [hlt]
  have hp:(zQN full psk)[i]?=some (zQN full psk)[i]:=oF (by omega)
  have hvo:=hprOk _ (oC hp)
  have hp2:(zQN full psk++zEv (st1.bx.take bx0.length))[i]?=some (zQN full psk)[i]:=by rw [oN (by omega)];exact hp
  exact PV.Ok.mono (fun _ _ _=>rfl) (oB _) (fun b _=>m2 b) q ((g4 _ hEl i _ _ hp2 hq2).2.1 hvo)
 ·have hkl:=(oD.1 hB).1
  have h5:=zKz (E:=E) bx0 0 k B hB ha
  rw [<-hpins,nM] at h5
  rw [hatk k hkl]
  exact (h3.pin k _ h5).1
 ·by_cases hkl:k<bx0.length
  ·rw [hatk k hkl] at hb
   rcases h3.own k b (hng k b hkl hb) with h5 | ⟨h5,_⟩
   ·exact .inl h5
   ·exact .inr ⟨hkl,h5⟩
  ·rw [Env.at_app,if_neg (by omega),hEl] at hb
   cases hx:s[k - bx0.length]? with
   | none=>simp [Sel.env,Env.at,oA,hx] at hb
   | some x=>
     simp only [Sel.env,Env.at,oA,oI,hx,oe,o7] at hb
     cases hxk:x.1 with
     | none=>rw [hxk] at hb;cases hb
     | some k2=>
       rw [hxk] at hb
       obtain ⟨h5,B,h6,h7⟩:=hsel _ x k2 hx hxk
       rcases h3.own k2 b ⟨by simp,hb,B,h6,h7⟩ with h8 | ⟨_,h8⟩
       ·exact .inl h8
       ·rw [hpins,zAA] at h8;omega
variable {av:Nat->Prop} {P:Program} {w0 w w':World} {e0 e:Env} {pS pS' pB pB':List Nat} {a:Act} {st st':St}
/-- the row lies where it lay -/
def zVN (p:Option (List (Option Nat) × List Nat)) (E:Env):Prop:=p=some ([E.at 0],[])
def zGv (E:Env):Prop:=zVN (some ([E.at 0],[])) E
def zTu (P:Program) (f:FuncId) (full:List Sh) (Q:QT full) (E:Env) (t:TypeId) (z n c:Nat) (st:St):Prop:=match P.funcs[f]? with
 | some fn=>match Nat.beq fn.results.size 0 with
   | true=>match full,Q with
     | [.sl z'],Q=>match st.bx with
       | .arr J I ds O::_=>match Nat.beq t J&&Nat.beq z z'&&Nat.beq z I with
         | true=>zVN st.pin E/\(ds.length=n/\O=c)/\∀ N,st.N<=N->Q none ds c N
         | false=>False
       | _=>False
     | _,_=>False
   | false=>False
 | none=>False
/-- what is known of the row that is handed in -/
def OkX (E:Env) (n c:Nat):Prop:=E.length=1/\(E.at 0=none->n=0/\c=0)
def zV0 (full:List Sh) (Q:QT full) (av:Nat->Prop) (w0:World) (E:Env) (t:TypeId) (z n c:Nat) (en:Ending) (w:World):Prop:=OkX E n c->zVo full Q av w0 E t z n c en w
theorem zL6 {E:Env} (h:Rel av w0 E [] [] a w e st) {f:FuncId} {full:List Sh} {Q:QT full} {k:List Item} (hk:k=[]\/∃ k',k=.code .ret::k') {t:TypeId} {z n c:Nat}
  (hs:zTu P f full Q E t z n c st):zOy P f k (zV0 full Q av w0 E t z n c) a w:=by
 unfold zTu at hs
 split at hs
 rotate_left
 ·exact hs.elim
 rename_i fn hf
 split at hs
 rotate_left
 ·exact hs.elim
 rename_i ah
 split at hs
 rotate_left
 ·exact hs.elim
 rename_i ai z' Q
 split at hs
 rotate_left
 ·exact hs.elim
 rename_i t' am ds c' bs aj
 split at hs
 rotate_left
 ·exact hs.elim
 rename_i hb
 simp only [oL] at hb
 obtain ⟨⟨h1,h2⟩,h3⟩:=hb
 have h1:=ol h1
 have h2:=ol h2
 have h3:=ol h3
 subst h1;subst h2;subst h3
 obtain ⟨J,⟨hlen,rfl⟩,hQ⟩:=hs
 unfold zVN at J
 have O:st.bx[0]?=some (.arr t z ds c'):=by rw [aj];rfl
 have hr:fn.results=#[]:=Array.eq_empty_of_size_eq_zero (ol ah)
 have ab:=h.br 0 _ O (by simp)
 have ak:=h.bo 0 _ O (by simp)
 have I:∀ b,E.at 0=some b->e.at 0=some b:=λb hb=>(h.pin 0 b (by simp [St.pins,J,hb])).1
 have ac:E.length=1->∀ b,some b∈E↔E.at 0=some b:=λhE b=>by
  match E,hE with
  | [x],_=>simp [Env.at,eq_comm]
 refine zCH hk hf h.nd (v:=.tuple #[]) (by simp [results,hr]) λaa=>⟨rfl,rfl,ds,{
  q:=hQ _ h.hN
  len:=hlen
  br:=?_
  ok:=λy hy=>(ak y hy).mono (λ_ _ _=>rfl) λb _ hb=>?_
  size:=h.size
  old:=λb hb al=>h.old b hb λhc=>al ((ac aa.1 b).1 hc)
  fz:=λb c t z hb hc=>h.fz b c t z (hb.imp id (ac aa.1 b).2) hc
  ku:=h.ku }⟩
 ·cases ae:E.at 0 with
  | none=>
    obtain ⟨rfl,rfl⟩:=aa.2 ae
    exact .inl ⟨rfl,oO hlen,rfl⟩
  | some b=>
    rw [I b ae] at ab
    exact ab
 ·rcases hb with hb | hb
  ·exact .inl hb
  ·exact .inr ⟨0,by simp,I b hb,_,O,by simp⟩
variable {av:Nat->Prop} {P:Program} {w0 w w':World} {e0 e:Env} {pS pS' pB pB':List Nat} {a:Act} {st st':St}
structure Hint where
 cuts:List Cut:=[]
 joins:List Cut:=[]
 ords:List (Nat × List Ent):=[]
def eh (i:Nat):Ent:={ i:=i,hard:=true }
def en (i:Nat):Ent:={ i:=i }
def ec (i:Nat) (cl:List Nat):Ent:={ i:=i,hard:=true,cl:=cl }
def zUA (i:Nat):List Ent->Ent
 | []=>eh i
 | e::l=>match Nat.beq e.i i with
   | true=>e
   | false=>zUA i l
def zVs (l:List Ent) (n:Nat):Nat->List Ent
 | 0=>[]
 | k+1=>zUA (n - (k+1)) l::zVs l n k
/-- hard ones in order, but for these -/
def hs (n:Nat) (l:List Ent):List Ent:=zVs l n n
def hc (id:Nat) (keep:List Nat) (nils:List (Nat × TypeId × Nat):=[]) (bnils:List (Nat × Nat × TypeId × Nat):=[]):Cut:={ id:=id,keep:=keep,nils:=nils,bnils:=bnils }
def an:Nat->List PV->List PV
 | 0,l=>l
 | n+1,l=>.any::an n l
/-- the region in which a piece of code begins -/
def zCx:Code->Option Nat
 | .region id _ _=>some id
 | .seq a b=>match zCx a with
   | some i=>some i
   | none=>zCx b
 | .block _ c=>zCx c
 | .loop c=>zCx c
 | _=>none
def zMj:List Cut->Nat->Option Cut
 | [],_=>none
 | c::l,id=>match Nat.beq c.id id with
   | true=>some c
   | false=>zMj l id
def zQQ:List (Nat × List Ent)->Nat->Option (List Ent)
 | [],_=>none
 | (i,o)::l,id=>match Nat.beq i id with
   | true=>some o
   | false=>zQQ l id
def zSJ (n:Nat):List Ent:=(List.range n).map λi=>{ i:=i,hard:=true }
def zRK (H:Hint) (id:Nat) (ops:Array Oper):List Ent:=match zQQ H.ords id with
 | some o=>o
 | none=>zSJ ops.size
def zUV (first:Bool) (H:Hint) (id:Nat):Option Cut:=match first with
 | true=>none
 | false=>zMj H.joins id
def zU6 (N0:Option Nat) (H:Hint) (c:Code) (st:St) (K:St->Prop):Prop:=match zCx c with
 | some id=>match zMj H.cuts id with
   | some cut=>zVJ N0 cut st λst=>zDK st K
   | none=>False
 | none=>False
def zVB (st:St) (c:Operand) (v:Bool):St:=match c with
 | .tmp t=>st.put (some t) (.bool v)
 | _=>st
def zUw (st:St) (c:Operand) (A B:St->Prop):Prop:=match opd st.sl c with
 | .bool v=>Br v (A (zVB st c true)) (B (zVB st c false))
 | _=>False
/-- an ordinary call; one that writes what it is handed: the older blocks that it may write, the block of the row that it is handed, else the slot and type of the struct; one that may write the boxes that it is handed -/
inductive Mode where
 | ord
 | io (E:Env) (bx0:List Bx)
 | fx (E:Env) (t:TypeId) (z n c:Nat)
 | mk (T:List Nat) (ob:Option Nat) (xr:Nat × TypeId) (Q:Int->D->Nat->Prop)
def Mode.env0:Mode->Env
 | .ord=>[]
 | .io E _=>E
 | .fx E ..=>E
 | .mk T _ _ _=>T.map some
def Mode.n0:Mode->Nat->Option Nat
 | .ord,N=>some N
 | .io ..,N=>some N
 | .fx ..,N=>some N
 | .mk ..,_=>none
def zSk (w:World) (ob:Option Nat) (z:Nat) (x:D):Prop:=match ob with
 | some b=>∃ t es c e,x=.ag es/\Bx.Rel w e (some b) (.arr t z es c)
 | none=>∃ n,IsAg n x
/-- how a call ends that writes what it is handed -/
structure DoneM (T:List Nat) (ob:Option Nat) (z:Nat) (Q:Int->D->Nat->Prop) (w0 w:World) (k:Int) (x:D):Prop where
 q:Q k x w.heap.size
 hd:Holds w x
 bx:zSk w ob z x
 size:w0.heap.size<=w.heap.size
 old:∀ b,b<w0.heap.size->b∉T->w.heap[b]?=w0.heap[b]?
 fz:∀ (b:Nat) (c:Array Value) (t:TypeId) (z:Nat × Nat),(w0.heap.size<=b\/b∈T)->w.heap[b]?=some (.cells c t z)->Fz z
 ku:KU w0 w
def zV3 (T:List Nat) (ob:Option Nat) (z:Nat) (Q:Int->D->Nat->Prop) (w0:World):Ending->World->Prop
 | .returned v,w=>∃ k x,v=.int .i64 k/\DoneM T ob z Q w0 w k x
 | _,_=>False
def Mode.fin (M:Mode) (P:Program) (f:FuncId) (rs:List Sh) (Q:QT rs) (av:Nat->Prop) (w0:World):Ending->World->Prop:=match M with
 | .ord=>Fin rs Q av w0
 | .io E bx0=>zVH rs Q (zJI P f rs bx0) av w0 E bx0
 | .fx E t z n c=>zV0 rs Q av w0 E t z n c
 | .mk T ob xr I=>zV3 T ob xr.1 I w0
def zRj (P:Program) (st:St) (ob:Option Nat) (xr:Nat × TypeId) (K:D->Prop):Prop:=match ob with
 | some b=>match st.pin with
   | some (some I::_,_)=>match st.bx with
     | .arr _ z es _::_=>match decide (z=xr.1) with
       | true=>I=b/\K (.ag es)
       | false=>False
     | _=>False
   | _=>False
 | none=>zBL P (opd st.sl) (λk=>st.bx[k]?) (.load xr.2 (.tmp xr.1)) xr.2 λp=>match zKj p with
   | .dg _ x=>K x
   | _=>False
def zVt (P:Program) (f:FuncId) (ob:Option Nat) (xr:Nat × TypeId) (Q:Int->D->Nat->Prop) (st:St):Prop:=match P.funcs[f]? with
 | some fn=>zTH P st fn.results.toList λps=>match ps with
   | [.int k n]=>match k with
     | .i64=>zRj P st ob xr λx=>∀ N,st.N<=N->Q n x N
     | _=>False
   | _=>False
 | none=>False
def zU3 (P:Program) (f:FuncId) (rs:List Sh) (Q:QT rs) (N0:Nat) (M:Mode) (st:St):Prop:=match M with
 | .ord=>zVg P f rs Q (some N0) st
 | .io E bx0=>zVh P f rs Q (some N0) E bx0 st
 | .fx E t z n c=>zTu P f rs Q E t z n c st
 | .mk _ ob xr I=>zVt P f ob xr I st
/-- at these items, in this state, the function's contract will be met -/
structure AT (P:Program) (f:FuncId) (rs:List Sh) (Q:QT rs) (N0:Nat) (M:Mode) (k:List Item) (st:St):Prop where
 h:∀ (av:Nat->Prop) (w0:World) (a:Act) (w:World) (e:Env),w0.heap.size=N0->Rel av w0 M.env0 [] [] a w e st->zOy P f k (M.fin P f rs Q av w0) a w
def W (P : Program) (sh:FuncId->List Sh) (f:FuncId) (rs:List Sh) (Q:QT rs) (N0:Nat) (M:Mode) (H:Hint):Nat->Bool->List Item->St->Prop
 | 0,_,_,_=>False
 | n + 1,first,J,st=>match J with
   | []=>zU3 P f rs Q N0 M st
   | .inBlock _::k=>W P sh f rs Q N0 M H n first k st
   | .inLoop c::k=>zU6 (M.n0 N0) H c st λst=>AT P f rs Q N0 M (.code c::.inLoop c::k) st
   | .code c::k=>match c with
     | .skip=>W P sh f rs Q N0 M H n first k st
     | .label _=>W P sh f rs Q N0 M H n first k st
     | .ret=>zU3 P f rs Q N0 M st
     | .seq x y=>W P sh f rs Q N0 M H n first (.code x::.code y::k) st
     | .cond c x y=>zUw st c (λst=>W P sh f rs Q N0 M H n false (.code x::k) st) (λst=>W P sh f rs Q N0 M H n false (.code y::k) st)
     | .block id c=>W P sh f rs Q N0 M H n first (.code c::.inBlock id::k) st
     | .loop c=>zU6 (M.n0 N0) H c st λst=>AT P f rs Q N0 M (.code c::.inLoop c::k) st
     | .exit id=>match exitTo id k with
       | some k'=>W P sh f rs Q N0 M H n false k' st
       | none=>False
     | .region id ops I=>match zUV first H id with
       | some cut=>zVJ (M.n0 N0) cut st λst=>zDK st λst=>AT P f rs Q N0 M (.code (.region id ops I)::k) st
       | none=>match I with
         | true=>match chk ops (zRK H id ops) with
           | true=>zNa P sh (M.n0 N0) ops (zRK H id ops) [] st λst=>zDK st λst=>W P sh f rs Q N0 M H n false k st
           | false=>False
         | false=>match zLz ops.size (zRK H id ops) with
           | true=>zNa P sh (M.n0 N0) ops (zRK H id ops) [] st λst=>zDK st λst=>W P sh f rs Q N0 M H n false k st
           | false=>False
     | _=>False
   | _=>False
theorem nok (M:Mode) (w0:World):NOk (M.n0 w0.heap.size) w0:=λn I=>by
 cases M with
 | ord=>cases I;rfl
 | io=>cases I;rfl
 | fx=>cases I;rfl
 | mk=>cases I
theorem zIF (h:Rel av w0 e0 [] [] a w e st) {N0:Option Nat} (I:NOk N0 w0) {H:Hint} {c:Code} {K:St->Prop} (hs:zU6 N0 H c st K):∃ e' st',K st'/\Rel av w0 e0 [] [] a w e' st':=by
 unfold zU6 at hs
 split at hs
 ·split at hs
  ·obtain ⟨e',st',J,O⟩:=zHm h I hs
   rw [rg] at J
   exact ⟨e',st',J,O⟩
  ·exact hs.elim
 ·exact hs.elim
theorem zKY {c:Operand} {v:Bool} (h:opd st.sl c=.bool v):zVB st c v=st:=by
 cases c with
 | tmp t=>
   simp only [opd,oA] at h
   cases I:st.sl[t]? with
   | none=>rw [I] at h;cases h
   | some p=>rw [I] at h;simp at h;subst h;exact zI2 I
 | _=>rfl
theorem zLv (h:Rel av w0 e0 [] [] a w e st) {ob:Option Nat} {xr:Nat × TypeId} {K:D->Prop} (hs:zRj P st ob xr K):∃ x,K x/\Holds w x/\zSk w ob xr.1 x:=by
 cases ob with
 | some b=>
   simp only [zRj] at hs
   split at hs
   ·rename_i b' L T hp
    split at hs
    ·rename_i t z es c bs O
     have hb:st.bx[0]?=some (.arr t z es c):=by rw [O];rfl
     cases J:decide (z=xr.1) with
     | false=>rw [J] at hs;exact hs.elim
     | true=>
       rw [J] at hs
       simp only [nD] at J
       obtain ⟨rfl,hs⟩:=hs
       have h1:=h.pin 0 b' (by simp [St.pins,hp])
       refine ⟨_,hs,.ag λy hy=>(h.bo 0 _ hb (by simp) y hy).1,t,es,c,e,rfl,?_⟩
       rw [<-h1.1,<-J]
       exact h.br 0 _ hb (by simp)
    ·exact hs.elim
   ·exact hs.elim
 | none=>
   simp only [zRj] at hs
   have ho:∀ x∈(Op.load xr.2 (.tmp xr.1)).operands,OpdOk av a w e [] st.bx x (opd st.sl x):=λx hx=>xZ h (by simp)
   obtain ⟨v0, p0, g1, g2, g3⟩ := zDD (o := ⟨none, .load xr.2 (.tmp xr.1), xr.2, "", #[], none⟩) h.toMem ho (λk B hk => ⟨hk, by simp⟩) hs
   split at g2
   ·rename_i n x hn
    have I:=zDJ (e:=e) g3.2.1
    rw [hn] at I
    rcases I with h5 | ⟨_,_,h7,_⟩
    ·cases h5
    ·obtain ⟨k1,k2⟩:=h7 g3.2.1
     exact ⟨x,g2,k1.1,n,k2⟩
   ·exact g2.elim
theorem zH1 {rs:List Sh} {Q:QT rs} {M:Mode} {f:FuncId} {k:List Item} (h:Rel av w0 M.env0 [] [] a w e st) (hk:k=[]\/∃ k',k=.code .ret::k') (hs:zU3 P f rs Q w0.heap.size M st):zOy P f k (M.fin P f rs Q av w0) a w:=by
 cases M with
 | ord=>exact zOI h hk (nok .ord w0) hs
 | io E bx0=>exact zOu h hk (nok .ord w0) hs
 | fx E t z n c=>exact zL6 h hk hs
 | mk T ob xr QM=>
   simp only [zU3,zVt] at hs
   split at hs
   rotate_left
   ·exact hs.elim
   rename_i fn hf
   obtain ⟨vs,ps,I,J,aa,ab,ac⟩:=rY h _ _ hs
   split at I
   rotate_left
   ·exact I.elim
   rename_i kk n
   split at I
   rotate_left
   ·exact I.elim
   obtain ⟨x,h2,h3,h4⟩:=zLv h I
   have ae:∃ v,vs=[v]:=by
    have:vs.length=1:=by rw [aa,<-ab];rfl
    rcases vs with _ | ⟨v,_ | _⟩<;>simp at this;exact ⟨v,rfl⟩
   obtain ⟨v,rfl⟩:=ae
   have hv:=(ac 0 v _ rfl rfl).1.resolve_left (by simp)
   refine zCH hk hf h.nd (rp J) ⟨n,x,hv,h2 _ h.hN,h3,h4,h.size,λb O hn=>h.old b O (by simp [Mode.env0];exact hn),λb c t z O hc=>h.fz b c t z (O.imp id λO=>by simp [Mode.env0];exact O) hc,h.ku⟩
theorem zI5 {sh:FuncId->List Sh} {f:FuncId} {rs:List Sh} {Q:QT rs} {N0:Nat} {M:Mode} {H:Hint} (hm:P.follows .mixedOrders=true) :
  ∀ (n:Nat) (first:Bool) (I:List Item) (st:St),W P sh f rs Q N0 M H n first I st->AT P f rs Q N0 M I st:=by
 intro n
 induction n with
 | zero=>intro first I st h;exact h.elim
 | succ n J=>
   intro first I st hs
   refine ⟨λav w0 a w e hN h=>?_⟩
   subst hN
   cases I with
   | nil=>exact zH1 h (.inl rfl) hs
   | cons it k=>
     cases it with
     | inBlock id=>exact ws (λcs=>step_inBlock) ((J _ _ _ hs).h av w0 a w e rfl h)
     | inLoop c=>
       obtain ⟨e',st',h1,h2⟩:=zIF h (nok M w0) hs
       exact ws (λcs=>step_inLoop) (h1.h av w0 a w e' rfl h2)
     | code c=>
       cases c with
       | skip=>exact ws (λcs=>step_skip) ((J _ _ _ hs).h av w0 a w e rfl h)
       | label l=>exact ws (λcs=>step_label) ((J _ _ _ hs).h av w0 a w e rfl h)
       | ret=>exact zH1 h (.inr ⟨_,rfl⟩) hs
       | seq x y=>exact ws (λcs=>step_seq) ((J _ _ _ hs).h av w0 a w e rfl h)
       | block id c=>exact ws (λcs=>step_block) ((J _ _ _ hs).h av w0 a w e rfl h)
       | loop c=>
         obtain ⟨e',st',h1,h2⟩:=zIF h (nok M w0) hs
         exact ws (λcs=>step_loop) (h1.h av w0 a w e' rfl h2)
       | cond c x y=>
         simp only [W,zUw] at hs
         split at hs
         ·rename_i v hv
          have aa:a.eval c=.bool v:=by
           have:=(xZ h (x:=c) (by simp)).h.resolve_left (by rw [hv];simp)
           rw [this,hv];rfl
          rcases hs.spec with ⟨rfl,hs⟩ | ⟨rfl,hs⟩
          ·rw [zKY hv] at hs
           exact ws (λcs=>step_cond aa) ((J _ _ _ hs).h av w0 a w e rfl h)
          ·rw [zKY hv] at hs
           exact ws (λcs=>step_cond aa) ((J _ _ _ hs).h av w0 a w e rfl h)
         ·exact hs.elim
       | exit id=>
         simp only [W] at hs
         split at hs
         ·rename_i k' hk
          exact ws (λcs=>step_exit hk) ((J _ _ _ hs).h av w0 a w e rfl h)
         ·exact hs.elim
       | region id ops ab=>
         simp only [W] at hs
         split at hs
         ·obtain ⟨e',st',h1,h2⟩:=zHm h (nok M w0) hs
          rw [rg] at h1
          exact h1.h av w0 a w e' rfl h2
         ·have key:∀ a w e st,zDK st (λst=>W P sh f rs Q w0.heap.size M H n false k st)->Rel av w0 M.env0 [] [] a w e st->Exit.normal=.normal/\zOy P f k (M.fin P f rs Q av w0) a w:=λa w e st hf hr=>by
           rw [rg] at hf
           exact ⟨rfl,(J _ _ _ hf).h av w0 a w e rfl hr⟩
          split at hs
          ·split at hs
           ·rename_i O
            exact zK6 (zOo (nok M w0) hm O h hs key)
           ·exact hs.elim
          ·split at hs
           ·rename_i O
            exact zK6 (zOL (nok M w0) O h hs key)
           ·exact hs.elim
       | _=>exact hs.elim
     | _=>exact hs.elim
def sR (id:Nat):Code->List Item->Option (List Item)
 | .seq x y,k=>match sR id x (.code y::k) with
   | some r=>some r
   | none=>sR id y k
 | .cond _ x y,k=>match sR id x k with
   | some r=>some r
   | none=>sR id y k
 | .block i c,k=>sR id c (.inBlock i::k)
 | .loop c,k=>match zCx c with
   | some j=>match Nat.beq j id with
     | true=>some (.code c::.inLoop c::k)
     | false=>sR id c (.inLoop c::k)
   | none=>sR id c (.inLoop c::k)
 | _,_=>none
def rv (id:Nat):Code->List Item->Option (List Item)
 | .seq x y,k=>match rv id x (.code y::k) with
   | some r=>some r
   | none=>rv id y k
 | .cond _ x y,k=>match rv id x k with
   | some r=>some r
   | none=>rv id y k
 | .block i c,k=>rv id c (.inBlock i::k)
 | .loop c,k=>rv id c (.inLoop c::k)
 | .region j ops I,k=>match Nat.beq j id with
   | true=>some (.code (.region j ops I)::k)
   | false=>none
 | _,_=>none
def zSl (P:Program) (f:FuncId):Code:=match P.funcs[f]? with
 | some fn=>match fn.body with
   | some c=>c
   | none=>.skip
 | none=>.skip
def zD (P:Program) (f:FuncId) (id:Nat):List Item:=match sR id (zSl P f) [] with
 | some k=>k
 | none=>[]
def qI (P:Program) (f:FuncId) (id:Nat):List Item:=match rv id (zSl P f) [] with
 | some k=>k
 | none=>[]
def zEd (n:Nat) (args:List PV):List PV:=args++List.replicate (n - args.length) .any
def zLm (P:Program) (sh:FuncId->List Sh) (f:FuncId) (rs:List Sh) (Q:QT rs) (N:Nat) (H:Hint) (fuel:Nat) (args:List PV):Prop:=match P.funcs[f]? with
 | some fn=>match fn.body with
   | some c=>zQv N args (zDK { sl:=zEd fn.ntmps args,bx:=[],N:=N } λst=>W P sh f rs Q N .ord H fuel true [.code c] st)
   | none=>False
 | none=>False
theorem zTS {sh:FuncId->List Sh} {f:FuncId} {rs:List Sh} {Q:QT rs} {N:Nat} {H:Hint} {fuel:Nat} {args:List PV} (hm:P.follows .mixedOrders=true) (hc:yW P f=true)
  (h:zLm P sh f rs Q N H fuel args):ACalls P f rs args N Q:=by
 refine ⟨hc,λav w0 hN ai O=>?_⟩
 subst hN
 unfold zLm at h
 split at h
 rotate_left
 ·exact h.elim
 rename_i fn hf
 split at h
 rotate_left
 ·exact h.elim
 rename_i c hb
 have h:=vN (λp J=>by
  have ac:=(O p J).1
  cases p<;>simp only [PV.Ok] at ac ⊢
  ·exact ac.1.lt
  ·exact ac.1.1.lt) h
 rw [rg] at h
 have hw:=zI5 hm _ _ _ _ h
 refine zCu hf hb (hw.h av w0 _ w0 [] rfl ?_)
 have aa:∀ (i:Nat) (p:PV),(zEd fn.ntmps args)[i]?=some p->p=.any\/(p∈args/\args[i]?=some p):=λi p J=>by
  unfold zEd at J
  by_cases hi:i<args.length
  ·rw [oN hi] at J
   exact .inr ⟨oC J,J⟩
  ·rw [oP (by omega)] at J
   exact .inl (nc (oC J))
 have ab:∀ k b,¬Lives [] [] ([]:List Bx) k b:=λk b ⟨_,_,B,h3,_⟩=>by simp at h3
 have ae:∀ b,zW av [] [] ([]:List Bx) b->av b:=λb hb=>hb.elim id λ⟨k,I⟩=>absurd I (ab k b)
 exact {
  el:=rfl
  br:=λk B I _=>by simp at I
  bo:=λk B I _=>by simp at I
  bf:=λk B I _=>by simp at I
  inj:=λk j b I _=>absurd I (ab k b)
  ku:=.rfl
  size:=oB _
  old:=λ_ _ _=>rfl
  fz:=λb c t z hb hc=>by
   rcases hb with hb | hb
   ·have:=(oV.1 hc).1;omega
   ·exact absurd hb (by simp [Mode.env0])
  nd:=rfl
  sz:=by simp [zEd]
  hN:=oB _
  hs:=λi p J _=>by
   rcases aa i p J with h1 | ⟨h1,h2⟩
   ·exact .inl h1
   ·right
    have ah:=(oD.1 h2).1
    have:i<args.toArray.size:=by simpa using ah
    simp [Array.getElem?_append,ah]
    rw [(oD.1 h2).2]
  so:=λi p J _=>by
   rcases aa i p J with h1 | ⟨h1,h2⟩
   ·subst h1;trivial
   ·exact PV.Ok.mono (λ_ _ _=>rfl) (oB _) (λb _=>ae b) p (O p h1).1
  sr:=λi p J _ k I=>by
   rcases aa i p J with h1 | ⟨h1,h2⟩
   ·subst h1;simp [PV.refs] at I
   ·rw [(O p h1).2] at I;simp at I
  own:=λk b I=>absurd I (ab k b)
  avl:=ai
  avn:=λk b I=>absurd I (ab k b)
  pin:=λk b hb=>by simp [St.pins] at hb
  pit:=λb T hb=>by cases hb }
def bytes (l:List Nat):ByteArray:=⟨(l.map UInt8.ofNat).toArray⟩
def zPj (f:Nat):List (Nat × List Sh)->List Sh
 | []=>[]
 | (g,s)::l=>match Nat.beq g f with
   | true=>s
   | false=>zPj f l
theorem zSj {P:Program} {sh:FuncId->List Sh} {f:FuncId} {rs:List Sh} {Q:QT rs} {N:Nat} {H:Hint} {fuel:Nat} {args:List PV} {F:Prop} (I:P.follows .mixedOrders=true) (hc:yW P f=true)
 (J:F=zLm P sh f rs Q N H fuel args) (h:F):ACalls P f rs args N Q:=zTS I hc (J ▸ h)
theorem zUo {P:Program} {sh:FuncId->List Sh} {f:FuncId} {rs:List Sh} {Q:QT rs} {N0:Nat} {M:Mode} {H:Hint} {fuel:Nat} {I:List Item} {st:St} {F:Prop} (O:P.follows .mixedOrders=true)
 (J:F=zDK st λst=>W P sh f rs Q N0 M H fuel true I st) (h:F):AT P f rs Q N0 M I st:=zI5 O fuel true I st (by rw [rg] at J;exact J ▸ h)
theorem zKI {av:Nat->Prop} {args:List PV} {bx:List Bx} {e e0:Env} {pin:Option (List (Option Nat) × List Nat)} {nt:Nat} {w0:World} (hm:Mem av [] w0 e bx) (aa:∀ p∈args,p.Ok w0 (zW av [] e bx)/\∀ k∈p.refs,k<bx.length)
  (ab:Avl av w0 e0) (ac:∀ k b,Lives [] e bx k b->¬av b)
  (ae:∀ k b,Lives [] e bx k b->some b∈e0/\k<(St.pins ⟨zEd nt args,bx,w0.heap.size,pin⟩).length) (aj:∀ (b:Nat) (c:Array Value) (t:TypeId) (z:Nat × Nat),some b∈e0->w0.heap[b]?=some (.cells c t z)->Fz z)
  (ah:∀ k b,(St.pins ⟨zEd nt args,bx,w0.heap.size,pin⟩)[k]?=some (some b)->e.at k=some b) (ai:∀ L T,pin=some (L,T)->∀ x∈T,some x∈e0) :
  Rel av w0 e0 [] [] { tmps:=(args.map (PV.val e)).toArray++Array.replicate (nt - (args.map (PV.val e)).toArray.size) undef,defers:=[] } w0 e { sl:=zEd nt args,bx:=bx,N:=w0.heap.size,pin:=pin }:=by
 have J:∀ (i:Nat) (p:PV),(zEd nt args)[i]?=some p->p=.any\/(p∈args/\args[i]?=some p):=λi p I=>by
  unfold zEd at I
  by_cases hi:i<args.length
  ·rw [oN hi] at I
   exact .inr ⟨oC I,I⟩
  ·rw [oP (by omega)] at I
   exact .inl (nc (oC I))
 exact {
  toMem:=hm
  ku:=.rfl
  size:=oB _
  old:=λ_ _ _=>rfl
  fz:=λb c t z hb hc=>by
   rcases hb with hb | hb
   ·have:=(oV.1 hc).1;omega
   ·exact aj b c t z hb hc
  nd:=rfl
  sz:=by simp [zEd]
  hN:=oB _
  hs:=λi p I _=>by
   rcases J i p I with O | ⟨O,h2⟩
   ·exact .inl O
   ·right
    have ak:=(oD.1 h2).1
    simp [Array.getElem?_append,ak]
    rw [(oD.1 h2).2]
  so:=λi p I _=>by
   rcases J i p I with O | ⟨O,h2⟩
   ·subst O;trivial
   ·exact (aa p O).1
  sr:=λi p I _ k hk=>by
   rcases J i p I with O | ⟨O,h2⟩
   ·subst O;simp [PV.refs] at hk
   ·exact ⟨by simp,(aa p O).2 k hk⟩
  own:=λk b hk=>.inr (ae k b hk)
  avl:=ab
  avn:=ac
  pin:=λk b hb=>⟨ah k b hb,by simp⟩
  pit:=ai }
def zJ9 (P:Program) (sh:FuncId->List Sh) (f:FuncId) (full:List Sh) (Q:QT full) (N:Nat) (H:Hint) (fuel:Nat) (args:List PV) (bx:List Bx) (E:Env):Prop:=match P.funcs[f]? with
 | some fn=>match fn.body with
   | some c=>match bx.all λB=>!zM3 B with
     | true=>zQv N (args++zEv bx) (zDK { sl:=zEd fn.ntmps args,bx:=bx,N:=N,pin:=some (wO E 0 (bx.map xn),[]) } λst=>W P sh f full Q N (.io E (bx.map xn)) H fuel true [.code c] st)
     | false=>False
   | none=>False
 | none=>False
theorem zPZ (bx:List Bx) (E:Env):∀ n,wO E n (bx.map xn)=wO E n bx:=by
 induction bx with
 | nil=>intro n;rfl
 | cons B bs I=>intro n;cases B<;>simp [wO,xn,I]
theorem zHl {E:Env}:∀ (bs:List Bx) (k j b:Nat),(wO E k bs)[j]?=some (some b)->b=(E.at (k+j)).getD 0/\∃ B,bs[j]?=some B/\((∃ cs,B=.var cs)\/∃ x n,B=.vd x n)
 | [],k,j,b,h=>by simp [wO] at h
 | B::bs,k,0,b,h=>by
   cases B<;>simp [wO] at h
   ·exact ⟨by simp [h],_,rfl,.inl ⟨_,rfl⟩⟩
   ·exact ⟨by simp [h],_,rfl,.inr ⟨_,_,rfl⟩⟩
 | B::bs,k,j+1,b,h=>by
   simp only [wO,nA] at h
   obtain ⟨I,J⟩:=zHl bs (k+1) j b h
   exact ⟨by rw [I,show k+1+j=k+(j+1) by omega],by simpa using J⟩
theorem zTR {P:Program} {sh:FuncId->List Sh} {f:FuncId} {full:List Sh} {Q:QT full} {N:Nat} {H:Hint} {fuel:Nat} {args:List PV} {bx:List Bx} (hm:P.follows .mixedOrders=true) (hc:yW P f=true)
  (O:∀ E,zJ9 P sh f full Q N H fuel args bx E):BCalls P f full args bx N Q:=by
 refine ⟨hc,λav w0 E hN ai I ae ac=>?_⟩
 subst hN
 have O:=O E
 unfold zJ9 at O
 split at O
 rotate_left
 ·exact O.elim
 rename_i fn hf
 split at O
 rotate_left
 ·exact O.elim
 rename_i code hb
 split at O
 rotate_left
 ·exact O.elim
 rename_i aa
 simp only [oT,na] at aa
 have aa:∀ B∈bx,B≠.gone:=λB hB hc=>by have:=aa B hB;subst hc;simp [zM3] at this
 have O:=vN (λp hp=>by
  have:zTk w0.heap.size p:=by
   rcases oG.1 hp with hp | hp
   ·exact zL3 (ac p hp).1
   ·exact zJL I rfl (λB hB=>hB) p hp
  cases p<;>first | exact this | trivial) O
 rw [rg] at O
 have aj:=zI5 hm _ _ _ _ O
 refine zCu hf hb (aj.h av w0 _ w0 E rfl (zKI I ac ai ae (λk b hk=>?_) (λb c t z ah hc=>?_) (λk b hk=>?_) (λL T h=>by cases h;simp)))
 ·obtain ⟨_,J,B,h2,_⟩:=hk
  refine ⟨?_,by simp only [St.pins,zAA,nO];exact (oD.1 h2).1⟩
  simp only [Mode.env0]
  unfold Env.at at J
  rw [oA] at J
  cases he:E[k]? with
  | none=>rw [he] at J;cases J
  | some u=>rw [he] at J;simp at J;subst J;exact oC he
 ·simp only [Mode.env0] at ah
  obtain ⟨k,hk⟩:=oQ.1 ah
  have ak:E.at k=some b:=by simp [Env.at,oA,hk]
  have al:k<bx.length:=by rw [<-I.el];exact (oD.1 hk).1
  have hB:bx[k]?=some bx[k]:=oF al
  have hr:=I.br k _ hB (by simp)
  have hg:=aa _ (oC hB)
  rw [ak] at hr
  cases ab:bx[k] with
  | var cs=>rw [ab] at hr;obtain ⟨b',c',t',g1,g2,_⟩:=hr;cases g1;rw [g2] at hc;cases hc;exact fz0
  | vd x n=>rw [ab] at hr;obtain ⟨b',c',t',g1,g2,_⟩:=hr;cases g1;rw [g2] at hc;cases hc;exact fz0
  | arr t0 z0 es n=>
    rw [ab] at hr
    rcases hr with ⟨g1,_⟩ | ⟨b',c',g1,g2,_⟩
    ·cases g1
    ·cases g1;rw [g2] at hc;cases hc;exact fz0
  | gone=>exact absurd ab hg
 ·simp only [St.pins,zPZ] at hk
  obtain ⟨J,B,h2,h3⟩:=zHl _ _ _ _ hk
  rw [nM] at J
  have hr:=I.br k _ h2 (by simp)
  rcases h3 with ⟨cs,rfl⟩ | ⟨x,n,rfl⟩
  ·obtain ⟨b',c',t',g1,_⟩:=hr;rw [g1] at J ⊢;simp at J;rw [J]
  ·obtain ⟨b',c',t',g1,_⟩:=hr;rw [g1] at J ⊢;simp at J;rw [J]
theorem zPl {P:Program} {sh:FuncId->List Sh} {f:FuncId} {full:List Sh} {Q:QT full} {N:Nat} {H:Hint} {fuel:Nat} {args:List PV} {bx:List Bx} {F:Env->Prop} (I:P.follows .mixedOrders=true) (hc:yW P f=true)
 (J:∀ E,F E=zJ9 P sh f full Q N H fuel args bx E) (h:∀ E,F E):BCalls P f full args bx N Q:=zTR I hc λE=>J E ▸ h E
def zNE (P:Program) (sh:FuncId->List Sh) (f:FuncId) (full:List Sh) (Q:QT full) (N:Nat) (H:Hint) (fuel:Nat) (args:List PV) (bx:List Bx) (E:Env):Prop:=match P.funcs[f]? with
 | some fn=>match fn.body with
   | some c=>match bx with
     | [.arr t z xs I]=>zQv N (args++zEv bx) (zDK { sl:=zEd fn.ntmps args,bx:=bx,N:=N,pin:=some ([E.at 0],[]) } λst=>W P sh f full Q N (.fx E t z xs.length I) H fuel true [.code c] st)
     | _=>False
   | none=>False
 | none=>False
theorem zTq {P:Program} {sh:FuncId->List Sh} {f:FuncId} {full:List Sh} {Q:QT full} {N:Nat} {H:Hint} {fuel:Nat} {args:List PV} {bx:List Bx} (hm:P.follows .mixedOrders=true) (hc:yW P f=true)
  (J:∀ E,zNE P sh f full Q N H fuel args bx E):XCalls P f full args bx N Q:=by
 refine ⟨hc,λav w0 E hN ah I ab O t z xs c ai=>?_⟩
 subst hN;subst ai
 have J:=J E
 unfold zNE at J
 split at J
 rotate_left
 ·exact J.elim
 rename_i fn hf
 split at J
 rotate_left
 ·exact J.elim
 rename_i code hb
 simp only at J
 have J:=vN (λp hp=>by
  have:zTk w0.heap.size p:=by
   rcases oG.1 hp with hp | hp
   ·exact zL3 (O p hp).1
   ·exact zJL I rfl (λB hB=>hB) p hp
  cases p<;>first | exact this | trivial) J
 rw [rg] at J
 have aj:=zI5 hm _ _ _ _ J
 have aa:E.length=1:=I.el
 have hr:=I.br 0 _ rfl (by simp)
 have ak:OkX E xs.length c:=⟨aa,λhn=>by
  rw [hn] at hr
  rcases hr with ⟨_,rfl,rfl⟩ | ⟨b,_,g,_⟩
  ·exact ⟨rfl,rfl⟩
  ·cases g⟩
 have al:∀ b,some b∈E->E.at 0=some b:=λb hb=>by
  match E,aa with
  | [x],_=>simpa [Env.at,eq_comm] using hb
 refine (zCu hf hb (aj.h av w0 _ w0 E rfl (zKI I O ah ab (λk b hk=>?_) (λb c' t' z' ac ae=>?_) (λk b hk=>?_) (λL T h=>by cases h;simp)))).mono λen w' am=>am ak
 ·obtain ⟨_,h1,B,h2,_⟩:=hk
  have ao:k=0:=by
   have:=(oD.1 h2).1
   simp at this;exact this
  subst ao
  refine ⟨?_,by simp [St.pins]⟩
  simp only [Mode.env0]
  match E,aa with
  | [x],_=>simpa [Env.at,eq_comm] using h1
 ·simp only [Mode.env0] at ac
  have h1:=al b ac
  rw [h1] at hr
  rcases hr with ⟨g,_⟩ | ⟨b',c2,g,g2,_⟩
  ·cases g
  ·cases g;rw [g2] at ae;cases ae;exact fz0
 ·cases k with
  | zero=>simpa [St.pins] using hk
  | succ k=>simp [St.pins] at hk
theorem zT0 {P:Program} {sh:FuncId->List Sh} {f:FuncId} {full:List Sh} {Q:QT full} {N:Nat} {H:Hint} {fuel:Nat} {args:List PV} {bx:List Bx} {F:Env->Prop} (I:P.follows .mixedOrders=true) (hc:yW P f=true)
 (J:∀ E,F E=zNE P sh f full Q N H fuel args bx E) (h:∀ E,F E):XCalls P f full args bx N Q:=zTq I hc λE=>J E ▸ h E
end Go.Proofs.YtlahkdflngobiaaGreatDoor
set_option maxRecDepth 100000
namespace Go.Proofs.YtlahkdflngobiaaGreatDoor
open Go Go.Proofs Go.Proofs.Tryz
def sh:FuncId->List Sh:=λf=>zPj f [(3,[.bool]),(4,[.bool]),(5,[.bool]),(6,[.int .i64]),(7,[.int .i64]),(8,[.ag 9,.bool]),(9,[.sl 4]),(10,[.ag 9]),(11,[.ag 9,.bool]),(12,[.bool]),(13,[.bool]),(14,[.int .i64]),(15,[.int .i64]),(16,[.int .i64]),(17,[.bool]),(18,[.sl 4,.ag 9]),(19,[.ag 9]),(20,[.sl 9]),(21,[.ag 9]),(22,[.bool]),(23,[.ag 9]),(24,[.bool]),(25,[.sl 9]),(26,[.bool]),(27,[.sl 0]),(28,[.sl 0]),(29,[.int .i64]),(30,[.int .i64,.bool]),(31,[.int .i64]),(32,[.int .i64]),(33,[.int .i64]),(34,[.pk,.int .i64,.str,.str,.int .i64,.dc,.dc,.dc,.dc,.row 36 9]),(35,[.str]),(36,[.row 9 0]),(37,[.sl 0]),(38,[.ag 9]),(39,[.ag 9]),(40,[.ag 4]),(41,[.ag 2]),(42,[.sl 9]),(43,[.pk,.int .i64,.str,.str,.int .i64,.dc,.dc,.dc,.dc,.row 36 9]),(44,[.sl 0]),(45,[.str]),(46,[.sl 0]),(47,[.ag 9]),(48,[.bool]),(49,[.bool]),(50,[.bool]),(51,[.str]),(52,[.int .i64]),(53,[.int .i64]),(54,[.int .i64]),(55,[.int .i64]),(56,[.int .i64]),(57,[.sl 4,.ag 9]),(58,[.ag 2,.bool]),(59,[.sl 9]),(60,[.bool]),(61,[.bool]),(62,[.bool]),(63,[.row 1 1000007]),(64,[.int .i64]),(65,[.int .i64]),(66,[.row 0 1000007,.ag 9]),(67,[.cu]),(68,[.bool]),(69,[.ag 2,.bool]),(70,[.sl 9]),(71,[.int .i64]),(72,[.row 9 0]),(73,[.bool]),(74,[.int .i64]),(75,[.int .i64]),(76,[.ag 2]),(77,[.str]),(78,[.int .i64]),(79,[.ag 9]),(80,[.bool]),(81,[.sl 0]),(82,[.ag 9]),(83,[.sl 0]),(84,[.sl 2]),(85,[.pk,.int .i64,.str,.str,.int .i64,.dc,.dc,.dc,.dc,.row 36 9]),(86,[.str]),(87,[.row 9 0]),(88,[.bool]),(89,[.ag 9]),(90,[.sl 0]),(91,[.pk,.int .i64,.str,.str,.int .i64,.dc,.dc,.dc,.dc,.bk 1]),(92,[.bool]),(93,[.int .i64]),(94,[.row 0 1000007,.bool]),(95,[.row 0 1000007,.sl 4,.ag 9]),(96,[.row 0 1000007,.sl 4,.ag 9]),(97,[.bool]),(98,[.bool]),(99,[.bool]),(100,[.bool]),(101,[.bool]),(102,[.ag 2,.bool]),(103,[.bool]),(104,[.bool]),(105,[.int .i64]),(106,[.row 1 1000007]),(107,[.row 0 1000007,.ag 9]),(108,[.row 0 1000007,.int .i64]),(109,[.row 0 1000007,.int .i64]),(110,[.row 0 1000007,.str]),(111,[.row 0 1000007,.ag 2]),(112,[.bool]),(113,[.bool]),(114,[.bool]),(115,[.ag 2,.bool]),(116,[.sl 4]),(117,[.bool]),(118,[.bool]),(119,[.int .i64,.bool]),(120,[.sl 0,.int .i64]),(121,[.sl 0]),(122,[.str]),(123,[.bool]),(124,[.row 9 0]),(125,[.bool]),(126,[.row 9 0]),(127,[.ag 2]),(128,[.row 0 1000007,.row 74 4,.ag 9]),(129,[.row 0 1000007,.ag 2]),(130,[.row 0 1000007,.row 74 4]),(131,[.row 0 1000007,.ag 9]),(132,[.ag 2]),(133,[.ag 9]),(134,[.bool]),(135,[.bool]),(136,[.bool]),(137,[.int .i64]),(138,[.bool]),(139,[.int .i64]),(140,[.bool]),(141,[.bool]),(142,[.ag 2]),(143,[.bool]),(144,[.row 1 1000007]),(145,[.row 1 1000007]),(146,[.row 0 1000007,.ag 9]),(147,[.int .i64]),(148,[.row 0 1000007,.int .i64]),(149,[.ag 2]),(150,[.ag 2]),(151,[.bool]),(152,[.bool]),(153,[.int .i64]),(154,[.int .i64]),(155,[.bool]),(156,[.ag 2,.bool]),(157,[.bool]),(158,[.int .i64]),(159,[.int .i64]),(160,[.int .i64]),(161,[.str]),(162,[.int .i64]),(163,[.sl 0,.int .i64]),(164,[.row 0 1000007,.bk 0]),(165,[.bool]),(166,[.ag 2]),(167,[.row 0 1000007,.ag 9,.bool]),(168,[.row 0 1000007,.ag 9]),(169,[.sl 4]),(170,[.bool]),(171,[.bool]),(172,[.bool]),(173,[.bool]),(174,[.bool]),(175,[.bool]),(176,[.ag 2]),(177,[.row 1 1000007]),(178,[.ag 9]),(179,[.ag 9]),(180,[.int .i64]),(181,[.int .i64]),(182,[.bool]),(183,[.int .i64]),(184,[.ag 2,.bool]),(185,[.ag 2,.bool]),(186,[.ag 2,.bool]),(187,[.int .i64]),(188,[.int .i64]),(189,[.bool]),(190,[.str]),(191,[.ag 9]),(192,[.int .i64]),(193,[.bool]),(194,[.int .i64]),(195,[.int .i64]),(196,[.int .i64]),(197,[.bool]),(198,[.bool]),(199,[.int .i64]),(200,[.ag 2]),(201,[.int .i64]),(202,[.ag 2]),(203,[.ag 2]),(204,[.ag 2]),(205,[.sl 4]),(206,[.ag 2]),(207,[.ag 2]),(208,[.row 1 1000007]),(209,[.bool]),(210,[.bool]),(211,[.sl 4]),(212,[.int .i64]),(213,[.ag 2,.bool]),(214,[.str]),(215,[.int .i64]),(216,[.bool]),(217,[.bool]),(218,[.bool]),(219,[.row 127 4]),(220,[.ag 2]),(221,[.ag 2]),(222,[.sl 4]),(223,[.str]),(224,[.int .i64]),(225,[]),(226,[.sl 0,.str]),(227,[.int .i64]),(228,[.int .i64]),(229,[.int .i64]),(230,[.int .i64]),(231,[.bool]),(232,[.int .i64]),(233,[.int .i64]),(234,[.int .i64]),(258,[])]
theorem mixed:prog.follows .mixedOrders=true:=by kernel_rfl
theorem eE {f:FuncId} {rs:List Sh} {Q:QT rs} {N:Nat} (H:Hint) {args:List PV} {F:Prop} (h:F) (hc:yW prog f=true:=by kernel_rfl) (I:F=zLm prog sh f rs Q N H 400 args:=by kernel_rfl):ACalls prog f rs args N Q:=zSj mixed hc I h
theorem bE {f:FuncId} {full:List Sh} {Q:QT full} {N:Nat} (H:Hint) {args:List PV} {bx:List Bx} {F:Env->Prop} (h:∀ E,F E) (hc:yW prog f=true:=by kernel_rfl) (I:∀ E,F E=zJ9 prog sh f full Q N H 400 args bx E:=by intro E;kernel_rfl):BCalls prog f full args bx N Q:=zPl mixed hc I h
theorem xE {f:FuncId} {full:List Sh} {Q:QT full} {N:Nat} (H:Hint) {args:List PV} {bx:List Bx} {F:Env->Prop} (h:∀ E,F E) (hc:yW prog f=true:=by kernel_rfl) (I:∀ E,F E=zNE prog sh f full Q N H 400 args bx E:=by intro E;kernel_rfl):XCalls prog f full args bx N Q:=zT0 mixed hc I h
theorem hE {f:FuncId} {rs:List Sh} {Q:QT rs} {N0:Nat} {M:Mode} (H:Hint) {I:List Item} {st:St} {F:Prop} (h:F) (J:F=zDK st λst=>W prog sh f rs Q N0 M H 400 true I st:=by kernel_rfl):AT prog f rs Q N0 M I st:=zUo mixed J h
abbrev D.j (n:Int):D:=.lit (.int .i64 n)
abbrev D.t (s:ByteArray):D:=.lit (.string s)
abbrev PV.j (n:Int):PV:=.int .i64 n
abbrev Sh.i:Sh:=.int .i64
abbrev b0:ByteArray:=bytes []
def H0:Hint:=⟨[],[],[]⟩
abbrev w2 (P X:Prop):Prop:=P/\P/\X
abbrev w3 (P X:Prop):Prop:=P/\P/\P/\X
abbrev w4 (P X:Prop):Prop:=P/\P/\P/\P/\X
abbrev w5 (P X:Prop):Prop:=P/\P/\P/\P/\P/\X
abbrev gI (x:D) (R:Int->Prop):Prop:=∃ n:Int,x=D.j n/\R n
abbrev gT (x:D) (R:ByteArray->Prop):Prop:=∃ s,x=D.t s/\R s
abbrev gL (z:Nat) (x:D) (R:Option Addr->List D->Nat->Prop):Prop:=∃ a es,∃ c:Nat,x=D.sl a z es c/\R a es c
abbrev uP (N:Nat) (R:Nat->Prop):Prop:=∀ N1,N<=N1->R N1
abbrev cv (a:Option Addr) (e:List D) (c:Nat) (n m:Int):Bx:=.var [.sv a 0 e c,.int .i64 n,.int .i64 m]
abbrev kB (f:FuncId) (I:List PV) (N:Nat) (R:Bool->Nat->Prop):Prop:=∀ N1,N<=N1->ACalls prog f [.bool] I N1 λb N2=>N1<=N2->R b N2
abbrev kI (f:FuncId) (I:List PV) (N:Nat) (R:Int->Nat->Prop):Prop:=∀ N1,N<=N1->ACalls prog f [.int .i64] I N1 λb N2=>N1<=N2->R b N2
abbrev kS (f:FuncId) (I:List PV) (N:Nat) (R:ByteArray->Nat->Prop):Prop:=∀ N1,N<=N1->ACalls prog f [.str] I N1 λb N2=>N1<=N2->R b N2
abbrev kA (z:Nat) (f:FuncId) (I:List PV) (N:Nat) (R:D->Nat->Prop):Prop:=∀ N1,N<=N1->ACalls prog f [.ag z] I N1 λx N2=>N1<=N2->Bel N2 x->R x N2
abbrev kL (z:Nat) (f:FuncId) (I:List PV) (N:Nat) (R:Option Addr->List D->Nat->Nat->Prop):Prop:=∀ N1,N<=N1->ACalls prog f [.sl z] I N1 λa e c N2=>N1<=N2->Bel N2 (D.sl a z e c)->R a e c N2
abbrev kAB (z:Nat) (f:FuncId) (I:List PV) (N:Nat) (R:D->Bool->Nat->Prop):Prop:=∀ N1,N<=N1->ACalls prog f [.ag z,.bool] I N1 λx b N2=>N1<=N2->Bel N2 x->R x b N2
abbrev kIB (f:FuncId) (I:List PV) (N:Nat) (R:Int->Bool->Nat->Prop):Prop:=∀ N1,N<=N1->ACalls prog f [.int .i64,.bool] I N1 λx b N2=>N1<=N2->R x b N2
abbrev cB (f:FuncId) (I:List PV) (a:Option Addr) (e:List D) (c:Nat) (n m:Int) (N:Nat) (R:Bool->Option Addr->List D->Nat->Int->Int->Nat->Prop):Prop:=∀ N1,N<=N1->BCalls prog f [.bool,.sl 0,.int .i64,.int .i64] (.pb 0 0 0 0::I) [cv a e c n m] N1 λx a e c n m N2=>N1<=N2->Bel N2 (D.sl a 0 e c)->R x a e c n m N2
abbrev cI (f:FuncId) (I:List PV) (a:Option Addr) (e:List D) (c:Nat) (n m:Int) (N:Nat) (R:Int->Option Addr->List D->Nat->Int->Int->Nat->Prop):Prop:=∀ N1,N<=N1->BCalls prog f [.int .i64,.sl 0,.int .i64,.int .i64] (.pb 0 0 0 0::I) [cv a e c n m] N1 λx a e c n m N2=>N1<=N2->Bel N2 (D.sl a 0 e c)->R x a e c n m N2
abbrev cA (z:Nat) (f:FuncId) (I:List PV) (a:Option Addr) (e:List D) (c:Nat) (n m:Int) (N:Nat) (R:D->Option Addr->List D->Nat->Int->Int->Nat->Prop):Prop:=∀ N1,N<=N1->BCalls prog f [.ag z,.sl 0,.int .i64,.int .i64] (.pb 0 0 0 0::I) [cv a e c n m] N1 λx a e c n m N2=>N1<=N2->Bel N2 x->Bel N2 (D.sl a 0 e c)->R x a e c n m N2
abbrev cP (ls:List D) (f:FuncId) (t:TypeId) (k:Nat) (a:Option Addr) (e:List D) (c:Nat) (n m:Int) (N:Nat) (R:ByteArray->Option Addr->List D->Nat->Int->Int->Option Addr->List D->Nat->Nat->Prop):Prop:=∀ N1,N<=N1->BCalls prog f [.str,.sl 0,.int .i64,.int .i64,.sl 0] [.pb 0 0 0 0,.sb 1 0 0 k k] [cv a e c n m,.arr t 0 ls k] N1 λx a e c n m a2 I J N2=>N1<=N2->Bel N2 (D.sl a 0 e c)->Bel N2 (D.sl a2 0 I J)->R x a e c n m a2 I J N2
end Go.Proofs.YtlahkdflngobiaaGreatDoor
