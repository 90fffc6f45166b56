/- The walker: what a function's code comes to, as a formula on ghost values. -/
import Derived.Test.YtmfjakahanbnlaaGreatDoorJg
import Derived.Test.YtmfjakahanbnlaaGreatDoorChecked
set_option linter.unusedVariables false
set_option linter.unusedSimpArgs false
namespace Go.Proofs.YtmfjakahanbnlaaGreatDoor
open Go
variable {av:Nat->Prop} {P:Program} {w0 w w':World} {e0 e:Env} {pS pS' pB pB':List Nat} {a:Act} {st st':St}
def base (f:FuncId):Frame:={ (default:Frame) with fn:=f,kind:=.normal }
/-- from these items on the call ends so -/
def zGS (P:Program) (f:FuncId) (k:List Item) (R:Ending->World->Prop) (a:Act) (w:World):Prop:=
 ∀ cs,∃ e w' fr,R e w'/\Comes P (lone ((base f).at a k) cs w) (lone fr cs w') e/\fr.fn=f/\fr.leaving P w' e
theorem yc {f:FuncId} {k k':List Item} {R:Ending->World->Prop} {a':Act} (hs:∀ cs,step P (lone ((base f).at a k) cs w)=.next (lone ((base f).at a' k') cs w')) (h:zGS P f k' R a' w'):zGS P f k R a w:=
 fun cs=>let ⟨e,w2,fr,h1,h2,h3⟩:=h cs;⟨e,w2,fr,h1,.of_steps (.one (hs cs)) h2,h3⟩
theorem zDP {f:FuncId} {c:Code} {k:List Item} {R:Ending->World->Prop} (h:c.wp P (fun ex a' w'=>ex=.normal/\zGS P f k R a' w') a w):zGS P f (.code c::k) R a w:=fun cs=>by
 obtain ⟨ex,a',w',⟨rfl,hq⟩,harr⟩:=h (base f) k cs
 obtain ⟨e,w2,fr,h1,h2,h3⟩:=hq cs
 exact ⟨e,w2,fr,h1,.of_steps harr h2,h3⟩
theorem zBG {f:FuncId} {fn:Func} {k:List Item} {R:Ending->World->Prop} (hk:k=[]\/∃ k',k=.code .ret::k') (hf:P.funcs[f]?=some fn) (hd:a.defers=[]) {v:Value} (hr:(results fn a.tmps).run P w=.ok v w) (hR:R (.returned v) w):zGS P f k R a w:=fun cs=>by
 rcases hk with rfl | ⟨k',rfl⟩
 ·exact ⟨.returned v,w,_,hR,.one step_end,rfl,rfl,hd,rfl,fn,hf,hr⟩
 ·exact ⟨.returned v,w,_,hR,.one step_ret,rfl,rfl,hd,rfl,fn,hf,hr⟩
theorem zAe {f:FuncId} {fn:Func} {c:Code} {args:Array Value} {R:Ending->World->Prop} (hf:P.funcs[f]?=some fn) (hb:fn.body=some c)
  (h:zGS P f [.code c] R { tmps:=args++Array.replicate (fn.ntmps - args.size) undef,defers:=[] } w):Calls P f args w R:=by
 intro cs
 have henter:Frame.enter P f args .normal=(base f).at { tmps:=args++Array.replicate (fn.ntmps - args.size) undef,defers:=[] } [.code c]:=by
  simp [Frame.enter,Frame.at,hf,hb,base]
 rw [henter]
 exact h cs
/-- the cells of a new struct of a slice and two numbers -/
def zLG:List PV->Option (Option Addr × List D × Nat × Int × Int)
 | [.sv a z es c,.int k n,.int k' m]=>match decide (z=0/\k=.i64/\k'=.i64) with
   | true=>some (a,es,c,n,m)
   | false=>none
 | _=>none
theorem zJg {cs:List PV} {a:Option Addr} {es:List D} {c:Nat} {n m:Int} (h:zLG cs=some (a,es,c,n,m)):cs=[.sv a 0 es c,.int .i64 n,.int .i64 m]:=by
 unfold zLG at h
 split at h
 ·split at h
  ·rename_i hd
   simp at hd h
   obtain ⟨rfl,rfl,rfl⟩:=hd
   obtain ⟨rfl,rfl,rfl,rfl,rfl⟩:=h
   rfl
  ·cases h
 ·cases h
def xh (st:St):(l:List Sh)->QT l->List Nat->List PV->Prop
 | [],Q,_,ps=>match ps with
   | []=>∀ N,st.N<=N->Q N
   | _=>False
 | .int k::l,Q,us,ps=>match ps with
   | .int k' n::ps=>match decide (k=k') with
     | true=>xh st l (Q n) us ps
     | false=>False
   | _=>False
 | .bool::l,Q,us,ps=>match ps with
   | .bool v::ps=>xh st l (Q v) us ps
   | _=>False
 | .str::l,Q,us,ps=>match ps with
   | .str v::ps=>xh st l (Q v) us ps
   | _=>False
 | .sl z::l,Q,us,ps=>match ps with
   | .sv a z' es c::ps=>match decide (z=z') with
     | true=>xh st l (Q a es c) us ps
     | false=>False
   | _=>False
 | .ag n::l,Q,us,ps=>match ps with
   | p :: ps=>match zDx p with
     | .dg n' x=>match decide (n=n') with
       | true=>xh st l (Q x) us ps
       | false=>False
     | _=>False
   | _=>False
 | .row t z::l,Q,us,ps=>match ps with
   | .sb k z' lo n c::ps=>match st.bx[k]? with
     | some (.arr t' z'' es c')=>match decide (t'=t)&&decide (z'=z)&&decide (z''=z)&&decide (lo=0)&&!us.contains k with
       | true=>(n=es.length/\c=c')/\xh st l (Q es c) (k::us) ps
       | false=>False
     | _=>False
   | .sv none _ [] 0::ps=>xh st l (Q [] 0) us ps
   | _=>False
 | .pk::l,Q,us,ps=>match zIt l with
   | true=>xh st l Q us ps
   | false=>False
 | .dc::l,Q,us,ps=>match ps with
   | p::ps=>match uU p with
     | some x=>xh st l (Q x) us ps
     | none=>False
   | _=>False
 | .bk j::l,Q,us,ps=>match ps with
   | p::ps=>match uU p with
     | some x=>xh st l (Q x) us ps
     | none=>False
   | _=>False
 | .cu :: l,Q,us,ps=>match ps with
   | .pb k z i o::ps=>match st.bx[k]?,decide (z=0/\i=0/\o=0)&&!us.contains k with
     | some (.var cs),true=>match zLG cs with
       | some (a,es,c,n,m)=>xh st l (Q a es c n m) (k::us) ps
       | none=>False
     | _,_=>False
   | _=>False
/-- the rows that go along with the results -/
abbrev Sel:=List (Option Nat × Bx)
def Sel.rows (s:Sel):List Bx:=s.map (·.2)
def Sel.env (e:Env) (s:Sel):Env:=s.map fun x=>x.1.bind e.at
structure SelOk (st:St) (us:List Nat) (s:Sel):Prop where
 at_:∀ x∈s,(x.1=none/\∃ t z,x.2=.arr t z [] 0)\/∃ k,x.1=some k/\st.bx[k]?=some x.2/\x.2.row
 nd:(s.filterMap (·.1)).Nodup
 un:∀ k∈s.filterMap (·.1),k∉us
/-- a result, and the ghost value that is told of it -/
def zCP:PV->Bool
 | .int ..=>true
 | .bool ..=>true
 | .str ..=>true
 | .sv ..=>true
 | .dg ..=>true
 | _=>false
def zK2:PV->Bool
 | .sb ..=>true
 | .dc ..=>true
 | _=>false
def zLt (w:World) (e:Env) (live:Nat->Prop) (E:Env) (p q:PV):Prop:=p.val e=q.val1 E/\(p.Ok w live->q.Ok w live)/\p≠.any/\(zCP p=true->q=p\/zK2 q=true)
theorem zO (h:Rel av w0 e0 [] [] a w e st):∀ (l:List Sh) (Q:QT l) (us:List Nat) (ps:List PV) (b:Nat),xh st l Q us ps->(∀ p∈ps,p.Ok w (zJ av [] e st.bx)\/zCP p=true) ->
  ∃ qs s,QT.app l Q b qs (Sel.rows s) w.heap.size/\SelOk st us s/\qs.length=ps.length /\
    ∀ (E:Env),E.length=b->∀ (i:Nat) (p q:PV),ps[i]?=some p->qs[i]?=some q->zLt w e (zJ av [] e st.bx) (E++s.env e) p q
 | [],Q,us,ps,b,hs,_=>by
   cases ps with
   | nil=>exact ⟨[],[],hs _ h.hN,⟨by simp,by simp,by simp⟩,rfl,by simp⟩
   | cons=>exact hs.elim
 | .int k::l,Q,us,ps,b,hs,hok=>by
   cases ps with
   | nil=>exact hs.elim
   | cons p ps=>
     cases p<;>simp only [xh] at hs<;>try exact hs.elim
     rename_i k' n
     cases hk:decide (k=k') with
     | true=>
       rw [hk] at hs
       obtain ⟨qs,s,h1,h2,h3,h4⟩:=zO h l _ us ps b hs (fun p hp=>hok p (by simp [hp]))
       refine ⟨.int k n::qs,s,⟨rfl,h1⟩,h2,by simp [h3],fun E hE i p q hp hq=>?_⟩
       cases i with
       | zero=>simp at hp hq hk;subst hp;subst hq;subst hk;exact ⟨rfl,id,by simp,fun _=>.inl rfl⟩
       | succ i=>exact h4 E hE i p q (by simpa using hp) (by simpa using hq)
     | false=>rw [hk] at hs;exact hs.elim
 | .bool::l,Q,us,ps,b,hs,hok=>by
   cases ps with
   | nil=>exact hs.elim
   | cons p ps=>
     cases p<;>simp only [xh] at hs<;>try exact hs.elim
     rename_i n
     obtain ⟨qs,s,h1,h2,h3,h4⟩:=zO h l _ us ps b hs (fun p hp=>hok p (by simp [hp]))
     refine ⟨.bool n::qs,s,h1,h2,by simp [h3],fun E hE i p q hp hq=>?_⟩
     cases i with
     | zero=>simp at hp hq;subst hp;subst hq;exact ⟨rfl,id,by simp,fun _=>.inl rfl⟩
     | succ i=>exact h4 E hE i p q (by simpa using hp) (by simpa using hq)
 | .str::l,Q,us,ps,b,hs,hok=>by
   cases ps with
   | nil=>exact hs.elim
   | cons p ps=>
     cases p<;>simp only [xh] at hs<;>try exact hs.elim
     rename_i n
     obtain ⟨qs,s,h1,h2,h3,h4⟩:=zO h l _ us ps b hs (fun p hp=>hok p (by simp [hp]))
     refine ⟨.str n::qs,s,h1,h2,by simp [h3],fun E hE i p q hp hq=>?_⟩
     cases i with
     | zero=>simp at hp hq;subst hp;subst hq;exact ⟨rfl,id,by simp,fun _=>.inl rfl⟩
     | succ i=>exact h4 E hE i p q (by simpa using hp) (by simpa using hq)
 | .sl z::l,Q,us,ps,b,hs,hok=>by
   cases ps with
   | nil=>exact hs.elim
   | cons p ps=>
     cases p<;>simp only [xh] at hs<;>try exact hs.elim
     rename_i ad z' es c
     cases hz:decide (z=z') with
     | true=>
       rw [hz] at hs
       simp at hz;subst hz
       obtain ⟨qs,s,h1,h2,h3,h4⟩:=zO h l _ us ps b hs (fun p hp=>hok p (by simp [hp]))
       refine ⟨.sv ad z es c::qs,s,⟨rfl,h1⟩,h2,by simp [h3],fun E hE i p q hp hq=>?_⟩
       cases i with
       | zero=>simp at hp hq;subst hp;subst hq;exact ⟨rfl,id,by simp,fun _=>.inl rfl⟩
       | succ i=>exact h4 E hE i p q (by simpa using hp) (by simpa using hq)
     | false=>rw [hz] at hs;exact hs.elim
 | .ag n::l,Q,us,ps,b,hs,hok=>by
   cases ps with
   | nil=>exact hs.elim
   | cons p ps=>
     simp only [xh] at hs
     split at hs
     rotate_left
     ·exact hs.elim
     rename_i n' x hnp
     split at hs
     rotate_left
     ·exact hs.elim
     rename_i hz
     simp at hz;subst hz
     obtain ⟨qs,s,h1,h2,h3,h4⟩:=zO h l _ us ps b hs (fun p hp=>hok p (by simp [hp]))
     refine ⟨.dg n x::qs,s,⟨rfl,h1⟩,h2,by simp [h3],fun E hE i r q hp hq=>?_⟩
     cases i with
     | zero=>
       simp at hp hq;subst hp;subst hq
       rcases hok p (by simp) with hokp | hdx
       rotate_left
       ·cases p<;>simp [zCP] at hdx<;>simp [zDx] at hnp
        rw [hnp.1,hnp.2]
        exact ⟨rfl,id,by simp,fun _=>.inl rfl⟩
       have hte:=zAp (e:=e) hokp
       rw [hnp] at hte
       rcases hte with h5 | ⟨h8,h6,h7,_⟩
       ·cases h5
       ·refine ⟨h6,h7,h8,fun hx=>.inl ?_⟩
        cases p<;>simp [zCP] at hx<;>simp [zDx] at hnp
        rw [hnp.1,hnp.2]
     | succ i=>exact h4 E hE i r q (by simpa using hp) (by simpa using hq)
 | .row t z::l,Q,us,ps,b,hs,hok=>by
   cases ps with
   | nil=>exact hs.elim
   | cons p ps=>
     simp only [xh] at hs
     split at hs
     ·rename_i k z' lo n c ps' hps
      cases hps
      split at hs
      ·rename_i t' z'' es c' hk
       split at hs
       rotate_left
       ·exact hs.elim
       rename_i hc
       simp only [oL,na,o7] at hc
       obtain ⟨⟨⟨⟨ht1,hz1⟩,hz2⟩,hlo⟩,hun⟩:=hc
       subst ht1;subst hz1;subst hz2;subst hlo
       obtain ⟨⟨rfl,rfl⟩,hs⟩:=hs
       obtain ⟨qs,s,h1,h2,h3,h4⟩:=zO h l _ (k::us) ps (b+1) hs (fun p hp=>hok p (by simp [hp]))
       refine ⟨.sb b z'' 0 es.length c::qs,(some k,.arr t' z'' es c)::s,⟨⟨rfl,rfl,rfl,rfl,rfl,rfl,rfl⟩,h1⟩,⟨fun x hx=>?_,?_,fun j hj=>?_⟩,by simp [h3],fun E hE i r q hp hq=>?_⟩
       ·rcases oI.1 hx with rfl | hx
        ·exact .inr ⟨k,rfl,hk,trivial⟩
        ·exact h2.at_ x hx
       ·simp only [nQ]
        exact nP.2 ⟨fun hc=>h2.un k hc (by simp),h2.nd⟩
       ·simp only [nQ] at hj
        rcases oI.1 hj with rfl | hj
        ·intro hc;simp [hc] at hun
        ·exact fun hc=>h2.un j hj (by simp [hc])
       ·have hat:Env.at (E++Sel.env e ((some k,Bx.arr t' z'' es c)::s)) b=e.at k:=by
         simp [Sel.env,Env.at,oA,<-hE]
        cases i with
        | zero=>
          simp at hp hq;subst hp;subst hq
          refine ⟨?_,id,by simp,fun _=>.inr rfl⟩
          simp only [PV.val,PV.val1,PV.cv,hat]
        | succ i=>
          have:=h4 (E++[e.at k]) (by simp [hE]) i r q (by simpa using hp) (by simpa using hq)
          simpa [Sel.env] using this
      ·exact hs.elim
     ·rename_i zz ps' hps
      cases hps
      obtain ⟨qs,s,h1,h2,h3,h4⟩:=zO h l _ us ps (b+1) hs (fun p hp=>hok p (by simp [hp]))
      refine ⟨.sb b z 0 0 0::qs,(none,.arr t z [] 0)::s,⟨⟨rfl,rfl,rfl,rfl,rfl,rfl,rfl⟩,h1⟩,⟨fun x hx=>?_,?_,fun j hj=>?_⟩,by simp [h3],fun E hE i r q hp hq=>?_⟩
      ·rcases oI.1 hx with rfl | hx
       ·exact .inl ⟨rfl,t,z,rfl⟩
       ·exact h2.at_ x hx
      ·simpa using h2.nd
      ·exact h2.un j (by simpa using hj)
      ·have hat:Env.at (E++Sel.env e (((none:Option Nat),Bx.arr t z [] 0)::s)) b=none:=by
        simp [Sel.env,Env.at,oA,<-hE]
       cases i with
       | zero=>
         simp at hp hq;subst hp;subst hq
         refine ⟨?_,fun _=>trivial,by simp,fun _=>.inr rfl⟩
         simp [PV.val,PV.val1,PV.cv,hat]
       | succ i=>
         have:=h4 (E++[none]) (by simp [hE]) i r q (by simpa using hp) (by simpa using hq)
         simpa [Sel.env] using this
     ·exact hs.elim
 | .cu :: l,Q,us,ps,b,hs,hok=>by
   cases ps with
   | nil=>exact hs.elim
   | cons p ps=>
     simp only [xh] at hs
     split at hs
     rotate_left
     ·exact hs.elim
     rename_i k z i o ps' hps
     cases hps
     split at hs
     rotate_left
     ·exact hs.elim
     rename_i cs hk hc
     split at hs
     rotate_left
     ·exact hs.elim
     rename_i a' es c n m hcu
     have hcs:=zJg hcu
     subst hcs
     simp only [oL,na,o7] at hc
     obtain ⟨⟨rfl,rfl,rfl⟩,hun⟩:=hc
     obtain ⟨qs,s,h1,h2,h3,h4⟩:=zO h l _ (k::us) ps (b+1) hs (fun p hp=>hok p (by simp [hp]))
     refine ⟨.pb b 0 0 0::qs,(some k,.var [.sv a' 0 es c,.int .i64 n,.int .i64 m])::s,⟨_,_,_,_,_,rfl,rfl,h1⟩,⟨fun x hx=>?_,?_,fun j hj=>?_⟩,by simp [h3],fun E hE i r q hp hq=>?_⟩
     ·rcases oI.1 hx with rfl | hx
      ·exact .inr ⟨k,rfl,hk,_,_,_,_,_,rfl⟩
      ·exact h2.at_ x hx
     ·simp only [nQ]
      exact nP.2 ⟨fun hc=>h2.un k hc (by simp),h2.nd⟩
     ·simp only [nQ] at hj
      rcases oI.1 hj with rfl | hj
      ·intro hc;simp [hc] at hun
      ·exact fun hc=>h2.un j hj (by simp [hc])
     ·have hat:Env.at (E++Sel.env e ((some k,Bx.var [.sv a' 0 es c,.int .i64 n,.int .i64 m])::s)) b=e.at k:=by
       simp [Sel.env,Env.at,oA,<-hE]
      cases i with
      | zero=>
        simp at hp hq;subst hp;subst hq
        refine ⟨?_,id,by simp,fun hx=>by cases hx⟩
        simp only [PV.val,PV.val1,PV.cv,hat]
      | succ i=>
        have:=h4 (E++[e.at k]) (by simp [hE]) i r q (by simpa using hp) (by simpa using hq)
        simpa [Sel.env] using this
 | .pk::l,Q,us,ps,b,hs,hok=>by
   simp only [xh] at hs
   split at hs
   ·rename_i hk
    obtain ⟨qs,s,h1,h2,h3,h4⟩:=zO h l Q us ps b hs hok
    exact ⟨qs,s,⟨hk,h1⟩,h2,h3,h4⟩
   ·exact hs.elim
 | .dc :: l,Q,us,ps,b,hs,hok=>by
   cases ps with
   | nil=>exact hs.elim
   | cons p ps=>
     simp only [xh] at hs
     split at hs
     rotate_left
     ·exact hs.elim
     rename_i x hx
     obtain ⟨qs,s,h1,h2,h3,h4⟩:=zO h l _ us ps b hs (fun p hp=>hok p (by simp [hp]))
     refine ⟨.dc x::qs,s,h1,h2,by simp [h3],fun E hE i r q hp hq=>?_⟩
     cases i with
     | zero=>
       simp at hp hq;subst hp;subst hq
       have hv:p.val e=p.cv e:=by cases p<;>first | rfl | (simp [uU] at hx)
       have hcv:x.cv=p.cv e:=by
        rcases hok p (by simp) with hokp | hdx
        ·exact (yO (e:=e) hx hokp).2.2.1
        ·cases p<;>simp [zCP] at hdx<;>simp [uU] at hx<;>subst hx<;>rfl
       refine ⟨by rw [hv,<-hcv];rfl,fun hp=>?_,fun hc=>by subst hc;simp [uU] at hx,fun _=>.inr rfl⟩
       obtain ⟨g1,g2,_⟩:=yO (e:=e) hx hp
       exact ⟨g1,g2⟩
     | succ i=>exact h4 E hE i r q (by simpa using hp) (by simpa using hq)
 | .bk j::l,Q,us,ps,b,hs,hok=>by
   cases ps with
   | nil=>exact hs.elim
   | cons p ps=>
     simp only [xh] at hs
     split at hs
     rotate_left
     ·exact hs.elim
     rename_i x hx
     obtain ⟨qs,s,h1,h2,h3,h4⟩:=zO h l _ us ps b hs (fun p hp=>hok p (by simp [hp]))
     refine ⟨.dc x::qs,s,h1,h2,by simp [h3],fun E hE i r q hp hq=>?_⟩
     cases i with
     | zero=>
       simp at hp hq;subst hp;subst hq
       have hv:p.val e=p.cv e:=by cases p<;>first | rfl | (simp [uU] at hx)
       have hcv:x.cv=p.cv e:=by
        rcases hok p (by simp) with hokp | hdx
        ·exact (yO (e:=e) hx hokp).2.2.1
        ·cases p<;>simp [zCP] at hdx<;>simp [uU] at hx<;>subst hx<;>rfl
       refine ⟨by rw [hv,<-hcv];rfl,fun hp=>?_,fun hc=>by subst hc;simp [uU] at hx,fun _=>.inr rfl⟩
       obtain ⟨g1,g2,_⟩:=yO (e:=e) hx hp
       exact ⟨g1,g2⟩
     | succ i=>exact h4 E hE i r q (by simpa using hp) (by simpa using hq)
theorem zHR (h:Rel av w0 [] [] [] a w e st) {s:Sel} (hs:SelOk st [] s):Mem av [] w (s.env e) s.rows/\(∀ b,zJ av [] (s.env e) s.rows b->zJ av [] e st.bx b)/\∀ (k b:Nat),(s.env e).at k=some b->w0.heap.size<=b:=by
 have hget:∀ (j:Nat) (x:Option Nat × Bx),s[j]?=some x->(s.env e).at j=x.1.bind e.at:=fun j x hj=>by simp [Sel.env,Env.at,oA,hj]
 have hrow:∀ (j:Nat) (B:Bx),s.rows[j]?=some B->∃ x,s[j]?=some x/\x.2=B:=fun j B hj=>by
  simp only [Sel.rows,oE] at hj
  cases hx:s[j]? with
  | none=>simp [hx] at hj
  | some x=>simp [hx] at hj;exact ⟨x,rfl,hj⟩
 have hat:∀ (j b:Nat),(s.env e).at j=some b->∃ x k,s[j]?=some x/\x.1=some k/\Lives [] e st.bx k b:=fun j b hj=>by
  cases hx:s[j]? with
  | none=>simp [Sel.env,Env.at,oA,hx] at hj
  | some x=>
    rw [hget j x hx] at hj
    rcases hs.at_ x (oC hx) with ⟨h1,_⟩ | ⟨k,h1,h2,h3⟩
    ·rw [h1] at hj;cases hj
    ·rw [h1] at hj
     exact ⟨x,k,rfl,h1,by simp,hj,x.2,h2,h3.sp.1⟩
 have hlive:∀ b,zJ av [] (s.env e) s.rows b->zJ av [] e st.bx b:=fun b hb=>hb.imp id fun ⟨j,hj⟩=>by
  obtain ⟨_,k,_,_,h3⟩:=hat j b hj.2.1
  exact ⟨k,h3⟩
 refine ⟨{ el:=by simp [Sel.env,Sel.rows],br:=fun j B hj _=>?_,bo:=fun j B hj _=>?_,bf:=fun j B hj _ i hi=>?_,inj:=fun i j b hi hj=>?_ },hlive,fun j b hj=>?_⟩
 ·obtain ⟨x,hx,rfl⟩:=hrow j B hj
  rw [hget j x hx]
  rcases hs.at_ x (oC hx) with ⟨h1,t,z,h2⟩ | ⟨k,h1,h2,h3⟩
  ·rw [h1,h2];exact .inl ⟨rfl,rfl,rfl⟩
  ·rw [h1]
   refine (h.br k _ h2 (by simp)).congr (fun _ _=>rfl) fun i hi=>?_
   rw [h3.sp.2] at hi;simp at hi
 ·obtain ⟨x,hx,rfl⟩:=hrow j B hj
  rcases hs.at_ x (oC hx) with ⟨h1,t,z,h2⟩ | ⟨k,h1,h2,h3⟩
  ·rw [h2];intro y hy;simp at hy
  ·exact (h.bo k _ h2 (by simp)).mono (fun _ _ _=>rfl) (oF _) fun b _=>hlive b
 ·obtain ⟨x,hx,rfl⟩:=hrow j B hj
  rcases hs.at_ x (oC hx) with ⟨h1,t,z,h2⟩ | ⟨k,h1,h2,h3⟩
  ·rw [h2] at hi;simp [Bx.refs] at hi
  ·rw [h3.sp.2] at hi;simp at hi
 ·obtain ⟨x,k,h1,h2,h3⟩:=hat i b hi.2.1
  obtain ⟨y,l,g1,g2,g3⟩:=hat j b hj.2.1
  have hkl:=h.inj k l b h3 g3
  subst hkl
  -- no box goes along twice
  have key:∀ (s:Sel) (i j:Nat) (x y:Option Nat × Bx),(s.filterMap (·.1)).Nodup->s[i]?=some x->s[j]?=some y->x.1=some k->y.1=some k->i=j:=by
   intro s
   induction s with
   | nil=>intro i j x y _ hx;simp at hx
   | cons u s ih=>
     intro i j x y hn hx hy hxk hyk
     have hn':(s.filterMap (·.1)).Nodup:=by
      cases hu:u.1 with
      | none=>simpa [hu] using hn
      | some m=>simp only [nQ,hu] at hn;exact (nP.1 hn).2
     have hnm:u.1=some k->k∉s.filterMap (·.1):=fun hu=>by
      simp only [nQ,hu] at hn
      exact (nP.1 hn).1
     cases i with
     | zero=>
       simp at hx;subst hx
       cases j with
       | zero=>rfl
       | succ j=>simp at hy;exact absurd (nK.2 ⟨y,oC hy,hyk⟩) (hnm hxk)
     | succ i=>
       simp at hx
       cases j with
       | zero=>simp at hy;subst hy;exact absurd (nK.2 ⟨x,oC hx,hxk⟩) (hnm hyk)
       | succ j=>simp at hy;rw [ih i j x y hn' hx hy hxk hyk]
  exact key s i j x y hs.nd h1 g1 h2 g2
 ·obtain ⟨_,k,_,_,h3⟩:=hat j b hj
  rcases h.own k b h3 with h4 | h4
  ·exact h4
  ·simp at h4
def zEZ:ResultVar->Nat
 | .tmp t=>t
 | .cell a _=>a
/-- the results, read -/
def zJ4 (P:Program) (st:St):List ResultVar->(List PV->Prop)->Prop
 | [],K=>K []
 | .tmp t::l,K=>zJ4 P st l fun ps=>K (st.sl.getD t .any::ps)
 | .cell a t::l,K=>tw P (opd st.sl) (fun k=>st.bx[k]?) (.load t (.tmp a)) t fun p=>zJ4 P st l fun ps=>K (p::ps)
def zBC:Sh->Bool
 | .row ..=>true
 | .cu=>true
 | .dc=>true
 | .bk _=>true
 | _=>false
/-- the slots of the results that are told as snapshots -/
def zKv:List Sh->List Nat->List Nat
 | .pk::_,_=>[]
 | s::l,t::ts=>match zBC s with
   | true=>zKv l ts
   | false=>t::zKv l ts
 | _,_=>[]
/-- the cells of the one result -/
def rr (pk:Bool) (ps:List PV):List PV:=match pk with
 | true=>match ps with
   | [.pg cs]=>cs
   | _=>[.any]
 | false=>ps
def zLF (P:Program) (f:FuncId) (rs:List Sh) (Q:QT rs) (N0:Option Nat) (st:St):Prop:=
 match P.funcs[f]? with
 | some fn=>uR N0 #[] [] (zKv rs (fn.results.toList.map zEZ)) (fn.results.toList.map zEZ) st fun st=>zJ4 P st fn.results.toList fun ps=>xh st rs Q [] (rr (rh rs) (zT P fn.resultTypes.toList ps))
 | none=>False
def zEH (tmps:Array Value) (r:ResultVar):Sem Value:=match r with
 | .tmp t=>pure (tmps.getD t undef)
 | .cell a t=>do loadVar t (<-asAddr (tmps.getD a undef))
theorem zId (tmps:Array Value):(fun (r:ResultVar)=>match r with
 | .tmp t=>(pure (tmps.getD t undef):Sem Value)
 | .cell a t=>do loadVar t (<-asAddr (tmps.getD a undef)))=zEH tmps:=by funext r;cases r<;>rfl
theorem uf (h:Rel av w0 e0 [] [] a w e st):∀ (l:List ResultVar) (K:List PV->Prop),zJ4 P st l K->∃ vs ps,K ps/\(l.mapM (zEH a.tmps)).run P w=.ok vs w/\vs.length=l.length/\ps.length=l.length /\
  ∀ (i:Nat) (v:Value) (p:PV),vs[i]?=some v->ps[i]?=some p->ValOk av w e [] st.bx v p
 | [],K,hK=>⟨[],[],hK,by simp,rfl,rfl,by simp⟩
 | .tmp t::l,K,hK=>by
   obtain ⟨vs,ps,h1,h2,h3,h4,h5⟩:=uf h l _ hK
   have hv:ValOk av w e [] st.bx (a.eval (.tmp t)) (opd st.sl (.tmp t)):=(yP h (x:=.tmp t) (by simp)).valOk
   refine ⟨a.tmps.getD t undef::vs,st.sl.getD t .any::ps,h1,?_,by simp [h3],by simp [h4],fun i v p hv' hp=>?_⟩
   ·simp [zEH,h2]
   ·cases i with
    | zero=>simp only [nu,oZ] at hv' hp;subst hv';subst hp;exact hv
    | succ i=>exact h5 i v p (by simpa using hv') (by simpa using hp)
 | .cell c t::l,K,hK=>by
   simp only [zJ4] at hK
   have ho:∀ x∈(Op.load t (.tmp c)).operands,OpdOk av a w e [] st.bx x (opd st.sl x):=fun x hx=>yP h (by simp)
   obtain ⟨v0, p0, g1, g2, g3⟩ := zAg (o := ⟨none, .load t (.tmp c), t, "", #[], none⟩) h.toMem ho (fun k B hk => ⟨hk, by simp⟩) hK
   obtain ⟨vs,ps,h1,h2,h3,h4,h5⟩:=uf h l _ g2
   have hrun:(zEH a.tmps (.cell c t)).run P w=.ok v0 w:=by
    simp only [execOp] at g1
    have he:a.eval (.tmp c)=a.tmps.getD c undef:=rfl
    rw [he] at g1
    simp only [zEH]
    cases hv:a.tmps.getD c undef with
    | pointer p=>
      cases p with
      | none=>rw [hv] at g1;simp [Instr.loadAt,Instr.sureAddr] at g1
      | some ad=>
        rw [hv] at g1
        simp [Instr.loadAt,Instr.sureAddr,asAddr] at g1 ⊢
        generalize (loadVar t ad).run P w=r at g1 ⊢
        cases r with
        | ok x w1=>simp at g1 ⊢;exact g1
        | halt x w1=>simp at g1
    | _=>rw [hv] at g1;simp [Instr.loadAt,Instr.sureAddr] at g1
   refine ⟨v0::vs,p0::ps,h1,?_,by simp [h3],by simp [h4],fun i v p hv' hp=>?_⟩
   ·rw [List.mapM_cons]
    simp only [Sem.run_bind,hrun,Result.andThen_ok,h2,Sem.run_pure]
   ·cases i with
    | zero=>simp only [nu,oZ] at hv' hp;subst hv';subst hp;exact g3
    | succ i=>exact h5 i v p (by simpa using hv') (by simpa using hp)
def zKQ (vs:List Value):Value:=match vs with
 | [v]=>v
 | vs=>.tuple vs.toArray
theorem tN {fn:Func} {vs:List Value} {tmps:Array Value} (h:(fn.results.toList.mapM (zEH tmps)).run P w=.ok vs w) :
  (results fn tmps).run P w=.ok (zKQ vs) w:=by
 unfold results
 have he:∀ F:ResultVar->Sem Value,F=zEH tmps->((do
   let vs <-fn.results.mapM F
   pure (if h:vs.size=1 then vs[0] else .tuple vs):Sem Value)).run P w=.ok (zKQ vs) w:=fun F hF=>by
  subst hF
  rw [Array.mapM_eq_mapM_toList]
  simp [h]
  rcases vs with _ | ⟨t,_ | ⟨u,ts⟩⟩<;>simp [zKQ]
 exact he _ (zId tmps)
theorem zCE {e:Env} {p:PV} (h:p.isC):p.val e=p.cv e:=by
 cases p<;>first | rfl | exact h.elim | skip
 rename_i x
 cases x<;>first | rfl | (simp [PV.isC,D.isCell] at h)
theorem zAx {e:Env} {p:PV} (h:p.isC):p.val1 e=p.cv e:=by
 have:=zCE (e:=e) h
 cases p<;>first | exact this | exact h.elim
theorem zFN (h:Rel av w0 [] [] [] a w e st) {f:FuncId} {rs:List Sh} {Q:QT rs} {k:List Item} (hk:k=[]\/∃ k',k=.code .ret::k') {N0:Option Nat} (hN0:NOk N0 w0) (hs:zLF P f rs Q N0 st):zGS P f k (Fin rs Q av w0) a w:=by
 unfold zLF at hs
 split at hs
 rotate_left
 ·exact hs.elim
 rename_i fn hf
 obtain ⟨st1,T,h1,_,_,h2⟩:=xb h hN0 (by simp) hs
 obtain ⟨vs,ps,h1,hrun,hvl,hpl,hvp⟩:=uf h2 _ _ h1
 -- the results, as told
 have hres:∀ (i:Nat) (p:PV),(zT P fn.resultTypes.toList ps)[i]?=some p->∃ v,vs[i]?=some v/\ValOk av w e [] st1.bx v p:=fun i p hp=>by
  obtain ⟨q,hq,hqp⟩:=vI _ _ _ _ hp
  have hlt:i<vs.length:=by rw [hvl,<-hpl];exact (oB.1 hq).1
  have hv:=hvp i _ q (oG hlt) hq
  refine ⟨_,oG hlt,?_⟩
  rcases hqp with rfl | ⟨ty,rfl⟩
  ·exact hv
  ·exact hv.retag ty
 cases hpk:rh rs with
 | true =>
   rw [hpk] at h1
   have hpg:∃ cs,zT P fn.resultTypes.toList ps=[.pg cs]:=by
    by_cases hc:∃ cs,zT P fn.resultTypes.toList ps=[.pg cs]
    ·exact hc
    ·exfalso
     have hp:rr true (zT P fn.resultTypes.toList ps)=[.any]:=by
      simp only [rr]
      split
      ·rename_i cs hcs;exact absurd ⟨cs,hcs⟩ hc
      ·rfl
     rw [hp] at h1
     cases rs with
     | nil=>simp [rh] at hpk
     | cons s l=>
       cases s<;>simp [rh] at hpk
       simp only [xh] at h1
       split at h1
       ·rename_i hk
        cases l with
        | nil=>exact h1.elim
        | cons s l=>
          cases s<;>simp only [xh] at h1<;>first | exact h1.elim | (simp [zIt] at hk)
       ·exact h1.elim
   obtain ⟨cs,hcs⟩:=hpg
   rw [hcs] at h1 hres
   simp only [rr] at h1
   obtain ⟨v,hv0,hvo⟩:=hres 0 (.pg cs) rfl
   have hvl1:vs=[v]:=by
    have h5:vs.length=1:=by have h6:=o9 List.length hcs;rw [yi] at h6;rw [hvl,<-hpl,h6];rfl
    rcases vs with _ | ⟨u,_ | _⟩<;>simp at h5 hv0
    subst hv0;rfl
   have hok:=hvo.2.1
   simp only [PV.Ok] at hok
   obtain ⟨hokL,hisC⟩:=hok
   rw [PV.OkL_iff] at hokL
   obtain ⟨qs,s,g1,g2,g3,g4⟩:=zO h2 rs Q [] _ 0 h1 (fun p hp=>.inl (hokL p hp))
   obtain ⟨m1,m2,m3⟩:=zHR h2 g2
   have hqC:=QT.app_pk hpk g1
   refine zBG hk hf h2.nd (tN hrun) ⟨qs,s.rows,s.env e,g1,?_,m1,fun q hq=>?_,m3,h2.size,fun b hb=>h2.old b hb (by simp),fun b c t z hb hc=>h2.fz b c t z (.inl hb) hc,h2.ku⟩
   ·rw [hvl1,hpk]
    simp only [zKQ,zFO]
    rw [hvo.1.resolve_left (by simp)]
    simp only [PV.val,PV.val1,PV.cvs_eq]
    congr 2
    apply o6
    intro i
    rw [oE,oE]
    cases hq:qs[i]? with
    | none=>rw [show cs[i]?=none from oU (by rw [<-g3];exact nZ.1 hq)];rfl
    | some q=>
      have hlt:i<cs.length:=by rw [<-g3];exact (oB.1 hq).1
      have hp:=oG hlt
      rw [hp]
      simp only [oT,oZ]
      have h5:=g4 [] rfl i _ q hp hq
      rw [<-zCE (hisC _ (oC hp)),h5.1,zAx (hqC q (oC hq))]
      rfl
   ·obtain ⟨i,hi⟩:=oP.1 hq
    have hlt:i<cs.length:=by rw [<-g3];exact (oB.1 hi).1
    have hp:=oG hlt
    exact PV.Ok.mono (fun _ _ _=>rfl) (oF _) (fun b _=>m2 b) q ((g4 [] rfl i _ q hp hi).2.1 (hokL _ (oC hp)))
 | false=>
 rw [hpk] at h1
 simp only [rr] at h1
 obtain ⟨qs,s,g1,g2,g3,g4⟩:=zO h2 rs Q [] _ 0 h1 (fun p hp=>by
  obtain ⟨i,hi⟩:=oP.1 hp
  obtain ⟨t,_,hv⟩:=hres i p hi
  exact .inl hv.2.1)
 obtain ⟨m1,m2,m3⟩:=zHR h2 g2
 have hlen:qs.length=vs.length:=by rw [g3,yi,hpl,hvl]
 refine zBG hk hf h2.nd (tN hrun) ⟨qs,s.rows,s.env e,g1,?_,m1,fun q hq=>?_,m3,h2.size,fun b hb=>h2.old b hb (by simp),fun b c t z hb hc=>h2.fz b c t z (.inl hb) hc,h2.ku⟩
 ·-- the values
  have hv:vs=qs.map (PV.val1 (s.env e)):=by
   apply o6
   intro i
   rw [oE]
   cases hq:qs[i]? with
   | none=>
     have:vs[i]?=none:=oU (by rw [<-hlen];exact nZ.1 hq)
     rw [this];rfl
   | some q=>
     have hlt:i<(zT P fn.resultTypes.toList ps).length:=by rw [<-g3];exact (oB.1 hq).1
     have hp:=oG hlt
     obtain ⟨v,hv,hvo⟩:=hres i _ hp
     rw [hv]
     simp only [oT,oZ]
     have h5:=g4 [] rfl i _ q hp hq
     rw [hvo.1.resolve_left h5.2.2.1,h5.1]
     rfl
  rw [hv,hpk]
  simp only [zFO]
  unfold zHM
  rcases qs with _ | ⟨q,_ | ⟨r,qs⟩⟩<;>rfl
 ·obtain ⟨i,hi⟩:=oP.1 hq
  have hlt:i<(zT P fn.resultTypes.toList ps).length:=by rw [<-g3];exact (oB.1 hi).1
  have hp:=oG hlt
  obtain ⟨t,ht,hvo⟩:=hres i _ hp
  exact PV.Ok.mono (fun _ _ _=>rfl) (oF _) (fun b _=>m2 b) q ((g4 [] rfl i _ q hp hi).2.1 hvo.2.1)
variable {av:Nat->Prop} {P:Program} {w0 w w':World} {e0 e:Env} {pS pS' pB pB':List Nat} {a:Act} {st st':St}
mutual
def xK:PV->PV->Bool
 | .any,.any=>true
 | .pb k z i o,.pb k' z' i' o'=>Nat.beq k k'&&Nat.beq z z'&&Nat.beq i i'&&Nat.beq o o'
 | .fn f l,.fn f' l'=>Nat.beq f f'&&s6 l l'
 | _,_=>false
def s6:List PV->List PV->Bool
 | [],[]=>true
 | p::ps,q::qs=>xK p q&&s6 ps qs
 | _,_=>false
end
mutual
theorem zCk:∀ {p q:PV},xK p q=true->p=q
 | .any,q,h=>by cases q<;>simp [xK] at h ⊢
 | .pb k z i o,q,h=>by
   cases q<;>simp [xK] at h
   obtain ⟨⟨⟨h1,h2⟩,h3⟩,h4⟩:=h
   rw [h1,h2,h3,h4]
 | .fn f l,q,h=>by
   cases q<;>simp [xK] at h
   rw [h.1,zAv h.2]
 | .int ..,q,h=>by simp [xK] at h
 | .bool ..,q,h=>by simp [xK] at h
 | .str ..,q,h=>by simp [xK] at h
 | .lit ..,q,h=>by simp [xK] at h
 | .sv ..,q,h=>by simp [xK] at h
 | .d ..,q,h=>by simp [xK] at h
 | .dc ..,q,h=>by simp [xK] at h
 | .dg ..,q,h=>by simp [xK] at h
 | .pd ..,q,h=>by simp [xK] at h
 | .sb ..,q,h=>by simp [xK] at h
 | .pg ..,q,h=>by simp [xK] at h
 | .tp ..,q,h=>by simp [xK] at h
theorem zAv:∀ {p q:List PV},s6 p q=true->p=q
 | [],q,h=>by cases q<;>simp [s6] at h ⊢
 | p :: ps,q,h=>by
   cases q with
   | nil=>simp [s6] at h
   | cons q qs=>
     simp [s6] at h
     rw [zCk h.1,zAv h.2]
end
/-- the boxes have the form that they had -/
def zLR (all:List Bx) (q p:PV) (K:Prop):Prop:=match rL q with
 | some _=>match rL p with
   | some _=>K
   | none=>False
 | none=>match q,p with
   | .sb k z lo _ _,.sb k' z' lo' n c=>match Nat.beq k k'&&Nat.beq z z'&&Nat.beq lo lo' with
     | true=>match all[k]? with
       | some (.arr _ _ es c')=>(n=es.length/\c=c')/\K
       | _=>False
     | false=>False
   | q,p=>match xK q p with
     | true=>K
     | false=>False
def zJb (all:List Bx):List PV->List PV->Prop->Prop
 | [],[],K=>K
 | q::qs,p::ps,K=>zLR all q p (zJb all qs ps K)
 | _,_,_=>False
def zKH (all:List Bx) (B0 B:Bx) (K:Prop):Prop:=match B0,B with
 | .var cs0,.var cs=>zJb all cs0 cs K
 | .vd _ n,.vd _ n'=>match Nat.beq n n' with
   | true=>K
   | false=>False
 | .arr t z _ _,.arr t' z' _ _=>match Nat.beq t t'&&Nat.beq z z' with
   | true=>K
   | false=>False
 | _,_=>False
def zJi (all:List Bx):List Bx->List Bx->Prop->Prop
 | [],[],K=>K
 | B0::b0,B::bs,K=>zKH all B0 B (zJi all b0 bs K)
 | _,_,_=>False
theorem zGI {all:List Bx} {q p:PV} {K:Prop} (h:zLR all q p K):K/\(((∃ s,rL q=some s)/\∃ s,rL p=some s)\/(rL q=none/\rL p=none /\
  ∀ all':List Bx,(∀ (k:Nat) t z es c,all[k]?=some (.arr t z es c)->all'[k]?=some (.arr t z es c))->zKo all' q=p)):=by
 unfold zLR at h
 split at h
 ·rename_i s hs
  split at h
  ·rename_i s' hs'
   exact ⟨h,.inl ⟨⟨s,hs⟩,s',hs'⟩⟩
  ·exact h.elim
 ·rename_i hq
  split at h
  ·rename_i k z lo n0 c0 k' z' lo' n c
   split at h
   ·rename_i hk
    simp only [oL] at hk
    obtain ⟨⟨h1,h2⟩,h3⟩:=hk
    have h1:=om h1
    have h2:=om h2
    have h3:=om h3
    subst h1;subst h2;subst h3
    split at h
    ·rename_i t zz es c' ha
     obtain ⟨⟨rfl,rfl⟩,hK⟩:=h
     refine ⟨hK,.inr ⟨rfl,rfl,fun all' hall=>?_⟩⟩
     simp only [zKo,hall _ _ _ _ _ ha]
    ·exact h.elim
   ·exact h.elim
  ·rename_i hne
   split at h
   ·rename_i hs
    have he:=zCk hs
    subst he
    refine ⟨h,.inr ⟨hq,hq,fun all' _=>?_⟩⟩
    cases q<;>first | rfl | simp [xK] at hs
   ·exact h.elim
theorem rC {all:List Bx}:∀ {cs0 cs:List PV} {K:Prop},zJb all cs0 cs K->K/\∀ rest:List PV,(zDi cs0 (zGA cs++rest)).2=rest /\
  ∀ all':List Bx,(∀ (k:Nat) t z es c,all[k]?=some (.arr t z es c)->all'[k]?=some (.arr t z es c))->(zDi cs0 (zGA cs++rest)).1.map (zKo all')=cs
 | [],[],K,h=>⟨h,fun rest=>⟨rfl,fun _ _=>rfl⟩⟩
 | [],_::_,K,h=>h.elim
 | _::_,[],K,h=>h.elim
 | q::qs,p::ps,K,h=>by
   obtain ⟨h1,h2⟩:=zGI h
   obtain ⟨h3,h4⟩:=rC h1
   refine ⟨h3,fun rest=>?_⟩
   obtain ⟨h5,h6⟩:=h4 rest
   rcases h2 with ⟨⟨s,hs⟩,s',hs'⟩ | ⟨hq,hp,hfix⟩
   ·simp only [zDi,hs,zGA,hs',nY]
    refine ⟨h5,fun all' hall=>?_⟩
    rw [oq,h6 all' hall]
    congr 1
    cases p<;>simp [rL] at hs'<;>rfl
   ·simp only [zDi,hq,zGA,hp]
    exact ⟨h5,fun all' hall=>by rw [oq,h6 all' hall,hfix all' hall]⟩
theorem zDH {all:List Bx}:∀ {b0 bs:List Bx} {K:Prop},zJi all b0 bs K->K/\∀ rest:List PV,(∀ (k:Nat) t z es c,bs[k]?=some (.arr t z es c)->(zFQ b0 (qO bs++rest))[k]?=some (.arr t z es c)) /\
  ∀ all':List Bx,(∀ (k:Nat) t z es c,all[k]?=some (.arr t z es c)->all'[k]?=some (.arr t z es c))->(zFQ b0 (qO bs++rest)).map (zKS all')=bs
 | [],[],K,h=>⟨h,fun rest=>⟨by simp,fun _ _=>rfl⟩⟩
 | [],_::_,K,h=>h.elim
 | _::_,[],K,h=>h.elim
 | B0 :: b0,B::bs,K,h=>by
   simp only [zJi] at h
   have key:∀ (K':Prop),zKH all B0 B K'->K'/\∀ rest:List PV,(zER B0 (zFx B++rest)).2=rest/\(∀ t z es c,B=.arr t z es c->(zER B0 (zFx B++rest)).1=.arr t z es c) /\
     ∀ all':List Bx,(∀ (k:Nat) t z es c,all[k]?=some (.arr t z es c)->all'[k]?=some (.arr t z es c))->zKS all' (zER B0 (zFx B++rest)).1=B:=fun K' h=>by
    unfold zKH at h
    split at h
    ·rename_i cs0 cs
     obtain ⟨h1,h2⟩:=rC h
     refine ⟨h1,fun rest=>⟨(h2 rest).1,fun _ _ _ _ hc=>(by cases hc),fun all' hall=>?_⟩⟩
     simp only [zER,zKS,zFx,(h2 rest).2 all' hall]
    ·rename_i x n y n'
     split at h
     ·rename_i hn
      have hn:=om hn
      subst hn
      exact ⟨h,fun rest=>⟨rfl,fun _ _ _ _ hc=>(by cases hc),fun _ _=>rfl⟩⟩
     ·exact h.elim
    ·rename_i t z es0 c0 t' z' es c
     split at h
     ·rename_i hn
      simp only [oL] at hn
      have h1:=om hn.1
      have h2:=om hn.2
      subst h1;subst h2
      exact ⟨h,fun rest=>⟨rfl,fun _ _ _ _ hc=>(by cases hc;rfl),fun _ _=>rfl⟩⟩
     ·exact h.elim
    ·exact h.elim
   obtain ⟨h1,h2⟩:=key _ h
   obtain ⟨h3,h4⟩:=zDH h1
   refine ⟨h3,fun rest=>?_⟩
   have e1:qO (B::bs)++rest=zFx B++(qO bs++rest):=by simp [qO]
   rw [e1]
   obtain ⟨h5,h6,h7⟩:=h2 (qO bs++rest)
   obtain ⟨h8,h9⟩:=h4 rest
   simp only [zFQ,h5]
   refine ⟨fun k t z es c hk=>?_,fun all' hall=>by rw [oq,h7 all' hall,h9 all' hall]⟩
   cases k with
   | zero=>simp at hk ⊢;exact h6 _ _ _ _ hk
   | succ k=>simp only [nF] at hk ⊢;exact h8 k _ _ _ _ hk
theorem zHX {all:List Bx}:∀ {b0 bs:List Bx} {K:Prop},zJi all b0 bs K->∀ B∈bs,B≠.gone
 | [],[],K,h=>by simp
 | [],_::_,K,h=>h.elim
 | _::_,[],K,h=>h.elim
 | B0::b0,B::bs,K,h=>by
   simp only [zJi] at h
   have key:∀ K',zKH all B0 B K'->B≠.gone/\K':=fun K' h=>by
    unfold zKH at h
    split at h
    ·exact ⟨by simp,(rC h).1⟩
    ·split at h
     ·exact ⟨by simp,h⟩
     ·exact h.elim
    ·split at h
     ·exact ⟨by simp,h⟩
     ·exact h.elim
    ·exact h.elim
   obtain ⟨h1,h2⟩:=key _ h
   intro C hC
   rcases oI.1 hC with rfl | hC
   ·exact h1
   ·exact zHX h2 C hC
theorem zH0 {b0 bs:List Bx} {K:Prop} (h:zJi bs b0 bs K):K/\zCG b0 (qO bs)=bs:=by
 obtain ⟨h1,h2⟩:=zDH h
 obtain ⟨h3,h4⟩:=h2 []
 rw [od] at h3 h4
 exact ⟨h1,h4 _ h3⟩
def xz (E:Env):Nat->List Bx->List (Option Nat)
 | _,[]=>[]
 | k,B::bs=>(match B with
   | .var _=>some ((E.at k).getD 0)
   | .vd _ _=>some ((E.at k).getD 0)
   | _=>none)::xz E (k+1) bs
theorem vp {E:Env}:∀ (bs:List Bx) (k:Nat),(xz E k bs).length=bs.length
 | [],k=>rfl
 | B::bs,k=>by simp [xz,vp bs]
theorem zCM {E:Env}:∀ (bs:List Bx) (k j:Nat) (B:Bx),bs[j]?=some B->B.isArr=false->(xz E k bs)[j]?=some (some ((E.at (k+j)).getD 0))
 | B::bs,k,0,B',h,ha=>by simp at h;subst h;cases B<;>simp [Bx.isArr] at ha<;>simp [xz]
 | B::bs,k,j+1,B',h,ha=>by
   simp only [nF] at h
   simp only [xz,nF]
   rw [zCM bs (k+1) j B' h ha,show k+1+j=k+(j+1) by omega]
/-- the first boxes lie where they lay -/
def zJX (p:Option (List (Option Nat) × List Nat)) (E:Env) (bx0:List Bx):Prop:=p=some (xz E 0 bx0,[])
def zFU (E:Env) (bx0:List Bx):Prop:=zJX (some (xz E 0 bx0,[])) E bx0
theorem zGf {E:Env} {bx0:List Bx}:zFU E bx0:=rfl
def zJ5:List Sh->Bool
 | []=>true
 | .pk::_=>false
 | _::l=>zJ5 l
def zJj (st:St) (m:Nat):List Nat:=(sB st.bx 200 (List.range m) []).filter fun k=>zKs st k&&Nat.ble m k
def zHA (full:List Sh) (ps:List PV):List PV:=match full with
 | .bk _::_=>[.int .i64 0]
 | _=>ps
/-- what is returned is the whole slice of a box that was handed in -/
def zLC (st:St) (m:Nat) (full:List Sh) (ps:List PV) (K:Prop):Prop:=match full with
 | .bk j::_=>match ps with
   | [.sb k z lo n c]=>match st.bx[j]? with
     | some (.arr _ z' es c')=>match Nat.beq k j&&Nat.beq lo 0&&Nat.beq z z'&&Nat.blt j m with
       | true=>(n=es.length/\c=c')/\K
       | false=>False
     | _=>False
   | _=>False
 | _=>K
theorem zGk {m:Nat} {full:List Sh} {ps:List PV} {K:Prop} (h:zLC st m full ps K):K/\(((∀ j l,full≠.bk j::l)/\zHA full ps=ps)\/∃ j l t z es c,full=.bk j::l/\ps=[.sb j z 0 es.length c]/\st.bx[j]?=some (.arr t z es c)/\j<m/\zHA full ps=[.int .i64 0]):=by
 unfold zLC at h
 split at h
 ·rename_i j l
  split at h
  ·rename_i k z lo n c
   split at h
   ·rename_i t z' es c' hj
    split at h
    ·rename_i hb
     simp only [oL] at hb
     obtain ⟨⟨⟨h1,h2⟩,h3⟩,h4⟩:=hb
     have h1:=om h1
     have h2:=om h2
     have h3:=om h3
     subst h1;subst h2;subst h3
     obtain ⟨⟨rfl,rfl⟩,hK⟩:=h
     exact ⟨hK,.inr ⟨_,_,_,_,_,_,rfl,rfl,hj,by simpa [Nat.blt_eq] using h4,rfl⟩⟩
    ·exact h.elim
   ·exact h.elim
  ·exact h.elim
 ·rename_i hn
  refine ⟨h,.inl ⟨fun j l hc=>hn j l hc,?_⟩⟩
  unfold zHA
  split
  ·exact absurd rfl (hn _ _)
  ·rfl
def zLT (full:List Sh):List Sh:=match full with
 | .bk _::l=>.row 0 0::l
 | l=>l
def zGB:List Sh->List Sh
 | .pk::l=>l
 | l=>l
def zLD (pk:Bool) (ps:List PV):Bool:=match pk with
 | true=>match ps with
   | [.pg _]=>true
   | _=>false
 | false=>true
def zLE (P:Program) (f:FuncId) (full:List Sh) (Q:QT full) (N0:Option Nat) (E:Env) (bx0:List Bx) (st:St):Prop:=
 match P.funcs[f]? with
 | some fn=>uR N0 #[] [] (zKv (zLT full) (fn.results.toList.map zEZ)) (fn.results.toList.map zEZ) st fun st=>zCZ N0 [] [] (zJj st bx0.length) st fun st=>
  zJX st.pin E bx0/\zJi (st.bx.take bx0.length) bx0 (st.bx.take bx0.length) (zJ4 P st fn.results.toList fun ps=>match Nat.beq fn.resultTypes.size fn.results.size&&(((zGB full).drop (zBl P f full bx0)).all fun s=>!zBC s)&&(bx0.all fun B=>B.refs.all fun i=>decide (i<bx0.length))&&zJ5 (zGB full)&&(zLD (rh full) (zT P fn.resultTypes.toList ps)&&Nat.beq (rr (rh full) (zT P fn.resultTypes.toList ps)).length (zBl P f full bx0)) with
  | true=>zLC st bx0.length full (rr (rh full) (zT P fn.resultTypes.toList ps)) (xh st full Q (List.range bx0.length) (zHA full (rr (rh full) (zT P fn.resultTypes.toList ps))++qO (st.bx.take bx0.length)))
  | false=>False)
 | none=>False
theorem zBO:∀ {cs:List PV} {p:PV},p∈zGA cs->p∈cs/\zCP p=true/\p.refs=[]
 | q :: cs,p,h=>by
   simp only [zGA] at h
   split at h
   ·rename_i s hs
    rcases oI.1 h with rfl | h
    ·refine ⟨by simp,?_⟩
     cases p<;>simp [rL] at hs<;>exact ⟨rfl,rfl⟩
    ·obtain ⟨h1,h2⟩:=zBO h
     exact ⟨by simp [h1],h2⟩
   ·obtain ⟨h1,h2⟩:=zBO h
    exact ⟨by simp [h1],h2⟩
theorem zJR {e ne:Env} {m:Nat} {B:Bx} (h:B.row):BPick e ne m B B:=by
 cases B with
 | arr t z es c=>exact ⟨.inr (.inl ⟨rfl,by simp⟩)⟩
 | _ =>
   obtain ⟨_,_,_,_,_,he⟩:=h
   cases he<;>exact ⟨.inr (.inr ⟨_,_,rfl,rfl,rfl,fun i q hq=>by
    have hr:q.refs=[]:=by
     have:=oC hq
     simp at this
     rcases this with rfl | rfl | rfl<;>rfl
    exact .inr ⟨q,hq,id,PV.cv_congr q (by simp [hr]),fun _ _=>id,id,by simp [hr]⟩⟩)⟩
theorem zGE {s:Sh} {l:List Sh} (h:zJ5 (s::l)=true):s≠.pk/\zJ5 l=true:=by cases s<;>simp [zJ5] at h<;>exact ⟨by simp,h⟩
theorem QT.app_plainrow:∀ (l:List Sh) (Q:QT l) (b:Nat) (ps:List PV) (rows:List Bx) (N:Nat),zJ5 l=true->QT.app l Q b ps rows N->ps.length=l.length/\∀ (i:Nat) (s:Sh) (p:PV),l[i]?=some s->zBC s=false->ps[i]?=some p->zK2 p=false
 | [],Q,b,ps,rows,N,hn,h=>by
   cases ps<;>cases rows<;>simp [QT.app] at h ⊢
 | s :: l,Q,b,ps,rows,N,hn,h=>by
   obtain ⟨hs,hn⟩:=zGE hn
   cases ps with
   | nil=>cases s<;>first | exact absurd rfl hs | (simp [QT.app] at h;done)
   | cons p ps=>
     have key:(∃ (Q':QT l) (b':Nat) (rows':List Bx),QT.app l Q' b' ps rows' N)/\(zBC s=false->zK2 p=false):=by
      cases s<;>(try (exact absurd rfl hs))<;>cases p<;>(try (exact h.elim))<;>(try (simp [QT.app] at h;done))<;>first
       | exact ⟨⟨_,_,_,h⟩,fun _=>rfl⟩
       | exact ⟨⟨_,_,_,h⟩,fun hc=>by cases hc⟩
       | exact ⟨⟨_,_,_,h.2⟩,fun _=>rfl⟩
       | skip
      all_goals
       cases rows with
       | nil=>simp [QT.app] at h
       | cons B rows=>
         cases B<;>first
          | exact ⟨⟨_,b+1,_,h.2⟩,fun hc=>by cases hc⟩
          | (simp [QT.app] at h;done)
          | (obtain ⟨_,_,_,_,_,_,_,h⟩:=h;exact ⟨⟨_,_,_,h⟩,fun hc=>by cases hc⟩)
     obtain ⟨⟨Q',b',rows',h'⟩,hp⟩:=key
     obtain ⟨h1,h2⟩:=QT.app_plainrow l Q' b' ps rows' N hn h'
     refine ⟨by simp [h1],fun i s' p' hs hr hp'=>?_⟩
     cases i with
     | zero=>simp at hs hp';subst hs;subst hp';exact hp hr
     | succ i=>exact h2 i s' p' (by simpa using hs) hr (by simpa using hp')
theorem QT.app_body {full:List Sh} {Q:QT full} {b:Nat} {ps:List PV} {rows:List Bx} {N:Nat} (h:QT.app full Q b ps rows N):∃ Q':QT (zGB full),QT.app (zGB full) Q' b ps rows N:=by
 cases full with
 | nil=>exact ⟨Q,h⟩
 | cons s l=>cases s<;>first | exact ⟨Q,h⟩ | exact ⟨Q,h.2⟩
theorem zHB {pk:Bool} {ps:List PV} (h:zLD pk ps=true):(pk=false/\rr pk ps=ps)\/∃ cs,pk=true/\ps=[.pg cs]/\rr pk ps=cs:=by
 cases pk with
 | false=>exact .inl ⟨rfl,rfl⟩
 | true=>
   unfold zLD at h
   simp only at h
   split at h
   ·exact .inr ⟨_,rfl,rfl,rfl⟩
   ·cases h
theorem zFt {E:Env} (h:Rel av w0 E [] [] a w e st) {f:FuncId} {full:List Sh} {Q:QT full} {k:List Item} (hk:k=[]\/∃ k',k=.code .ret::k') {N0:Option Nat} (hN0:NOk N0 w0) {bx0:List Bx} (hs:zLE P f full Q N0 E bx0 st):zGS P f k (zLH full Q (zBl P f full bx0) av w0 E bx0) a w:=by
 unfold zLE at hs
 split at hs
 rotate_left
 ·exact hs.elim
 rename_i fn hf
 obtain ⟨st0,T,h0,_,_,h1⟩:=xb h hN0 (by simp) hs
 obtain ⟨st1,h2,_,h3⟩:=uB hN0 (by simp) (by simp) _ _ h1 (by simp) h0
 obtain ⟨hpin,h2⟩:=h2
 unfold zJX at hpin
 have hgn:=zHX h2
 obtain ⟨h2,hupd⟩:=zH0 h2
 obtain ⟨vs,ps,h2,hrun,hvl,hpl,hvp⟩:=uf h3 _ _ h2
 split at h2
 rotate_left
 ·exact h2.elim
 rename_i hbool
 simp only [oL,oS,o7,na] at hbool
 obtain ⟨⟨⟨⟨hrt,hrow⟩,hclosed⟩,hnpk⟩,hpgk,hkn⟩:=hbool
 have hkn:=om hkn
 have hrt:=om hrt
 obtain ⟨h2,hbk⟩:=zGk h2
 clear hs
 generalize zBl P f full bx0=nn at hrow hkn ⊢
 have hpins:st1.pins=xz E 0 bx0:=by simp [St.pins,hpin]
 have hns:∀ p∈qO (st1.bx.take bx0.length),zCP p=true/\p.refs=[]:=fun p hp=>by
  simp only [qO,nX] at hp
  obtain ⟨B,_,hp⟩:=hp
  cases B<;>simp only [zFx] at hp
  ·exact (zBO hp).2
  ·simp at hp;subst hp;exact ⟨rfl,rfl⟩
  ·simp at hp;subst hp;exact ⟨rfl,rfl⟩
  ·simp at hp
 obtain ⟨ul,ug⟩:=zB4 bx0 (qO (st1.bx.take bx0.length)) fun p hp=>(hns p hp).2
 rw [hupd] at ul ug
 have hm:bx0.length<=st1.bx.length:=by rw [nB] at ul;omega
 have hgn:∀ (k:Nat) (B:Bx),k<bx0.length->st1.bx[k]?=some B->B≠.gone:=fun k B hk hB=>hgn B (oC (i:=k) (by rw [ob];simp [hk,hB]))
 have htk:∀ j,j<bx0.length->(st1.bx.take bx0.length)[j]?=st1.bx[j]?:=fun j hj=>by rw [ob];simp [hj]
 have hrefs:∀ (j:Nat) (B:Bx),j<bx0.length->st1.bx[j]?=some B->∀ i∈B.refs,i<bx0.length:=fun j B hj hB i hi=>by
  obtain ⟨B1,g1,g2,_⟩:=ug j B (by rw [htk j hj];exact hB)
  exact hclosed B1 (oC g1) i (g2 i hi)
 -- the results, as told
 have hres:∀ (i:Nat) (p:PV),(zT P fn.resultTypes.toList ps)[i]?=some p->∃ v,vs[i]?=some v/\ValOk av w e [] st1.bx v p:=fun i p hp=>by
  obtain ⟨q,hq,hqp⟩:=vI _ _ _ _ hp
  have hlt:i<vs.length:=by rw [hvl,<-hpl];exact (oB.1 hq).1
  have hv:=hvp i _ q (oG hlt) hq
  refine ⟨_,oG hlt,?_⟩
  rcases hqp with rfl | ⟨ty,rfl⟩
  ·exact hv
  ·exact hv.retag ty
 have hpk:=zHB hpgk
 have hresK:∀ p∈rr (rh full) (zT P fn.resultTypes.toList ps),p.Ok w (zJ av [] e st1.bx):=fun p hp=>by
  rcases hpk with ⟨_,g⟩ | ⟨cs,_,g1,g⟩
  ·rw [g] at hp
   obtain ⟨i,hi⟩:=oP.1 hp
   obtain ⟨t,_,hv⟩:=hres i p hi
   exact hv.2.1
  ·rw [g] at hp
   obtain ⟨v,_,hvo⟩:=hres 0 (.pg cs) (by rw [g1];rfl)
   have:=hvo.2.1
   simp only [PV.Ok] at this
   exact PV.OkL_iff.1 this.1 p hp
 generalize rr (rh full) (zT P fn.resultTypes.toList ps)=psk at hkn hpk hresK h2 hbk ⊢
 have hprOk:∀ p∈zHA full psk,p.Ok w (zJ av [] e st1.bx):=fun p hp=>by
  rcases hbk with ⟨_,g⟩ | ⟨j,l,t,z,es,c,_,_,_,_,g⟩
  ·rw [g] at hp
   exact hresK p hp
  ·rw [g] at hp
   rw [o8] at hp
   subst hp;trivial
 obtain ⟨qs,s,g1,g2,g3,g4⟩:=zO h3 full Q (List.range bx0.length) _ bx0.length h2 (fun p hp=>by
  rcases oO.1 hp with hp | hp
  ·exact .inl (hprOk p hp)
  ·exact .inr (hns p hp).1)
 have hn0:psk.length=nn:=hkn
 have hr0:(zT P fn.resultTypes.toList ps).length=fn.resultTypes.size:=by rw [yi,hpl,hrt];simp
 have hn:(zHA full psk).length=nn:=by
  rcases hbk with ⟨_,g⟩ | ⟨j,l,t,z,es,c,_,g2,_,_,g⟩
  ·rw [g];exact hn0
  ·rw [g,<-hn0,g2];rfl
 have hvn:vs.length=fn.resultTypes.size:=by rw [hvl,hrt];simp
 obtain ⟨Q',g1'⟩:=QT.app_body g1
 obtain ⟨hql,hqrow⟩:=QT.app_plainrow _ _ _ _ _ _ hnpk g1'
 have hel:bx0.length<=e.length:=by rw [h3.el];exact hm
 have hEl:(e.take bx0.length).length=bx0.length:=by simp;omega
 have hqx:qs.drop nn=qO (st1.bx.take bx0.length):=by
  apply o6
  intro i
  rw [nD]
  cases hx:(qO (st1.bx.take bx0.length))[i]? with
  | none=>
    refine oU ?_
    rw [g3,oH,hn]
    have:=nZ.1 hx
    omega
  | some p=>
    have hlt:nn+i<qs.length:=by
     rw [g3,oH,hn]
     have:=(oB.1 hx).1
     omega
    have hq:=oG hlt
    have hp:(zHA full psk++qO (st1.bx.take bx0.length))[nn+i]?=some p:=by
     rw [oM (by omega),hn];simpa using hx
    have ht:=(g4 _ hEl _ p _ hp hq).2.2.2 (hns p (oC hx)).1
    have hlf:nn+i<(zGB full).length:=by rw [<-hql];exact hlt
    have hsb:=hqrow (nn+i) _ _ (oG hlf) (hrow _ (oC (i:=i) (by rw [nD,oG hlf]))) hq
    rcases ht with ht | ht
    ·rw [hq,ht]
    ·rw [hsb] at ht;cases ht
 have hqs:qs=qs.take nn++qO (st1.bx.take bx0.length):=by rw [<-hqx];exact (nR _ _).symm
 have hql1:(qs.take nn).length=nn:=by
  rw [nB,g3,oH,hn];omega
 -- the boxes that go along
 have hne:((List.range bx0.length).map some++s.map (·.1)).map (fun u=>Option.bind u e.at)=e.take bx0.length++s.env e:=by
  rw [mE]
  congr 1
  ·apply o6
   intro i
   by_cases hi:i<bx0.length
   ·rw [ob]
    have:i<e.length:=by omega
    simp [hi,Env.at,oA,this]
   ·rw [oU (by simp;omega),oU (by simp;omega)]
  ·simp [Sel.env]
 have hatk:∀ k,k<bx0.length->Env.at (e.take bx0.length++s.env e) k=e.at k:=fun k hk=>by
  rw [Env.at_app,if_pos (by rw [hEl];exact hk)]
  simp [Env.at,oA,ob,hk]
 have hus:∀ (j:Nat) u,((List.range bx0.length).map some++s.map (·.1))[j]?=some u->(j<bx0.length/\u=some j)\/∃ x,s[j - bx0.length]?=some x/\bx0.length<=j/\u=x.1:=fun j u hj=>by
  by_cases hlt:j<bx0.length
  ·rw [oK (by simpa using hlt)] at hj
   simp [hlt] at hj
   exact .inl ⟨hlt,hj.symm⟩
  ·rw [oM (by simp;omega)] at hj
   simp only [nM,List.length_range,oE] at hj
   cases hx:s[j - bx0.length]? with
   | none=>simp [hx] at hj
   | some x=>simp [hx] at hj;exact .inr ⟨x,rfl,by omega,hj.symm⟩
 have hnb:∀ (j:Nat) (B:Bx),(st1.bx.take bx0.length++s.rows)[j]?=some B->(j<bx0.length/\st1.bx[j]?=some B)\/∃ x,s[j - bx0.length]?=some x/\bx0.length<=j/\B=x.2:=fun j B hj=>by
  by_cases hlt:j<bx0.length
  ·rw [oK (by rw [ul];exact hlt),htk j hlt] at hj
   exact .inl ⟨hlt,hj⟩
  ·rw [oM (by rw [ul];omega),ul] at hj
   simp only [Sel.rows,oE] at hj
   cases hx:s[j - bx0.length]? with
   | none=>simp [hx] at hj
   | some x=>simp [hx] at hj;exact .inr ⟨x,rfl,by omega,hj.symm⟩
 have hsel:∀ (i:Nat) x k,s[i]?=some x->x.1=some k->bx0.length<=k/\∃ B,st1.bx[k]?=some B/\B≠.gone:=fun i x k hx hk=>by
  refine ⟨?_,?_⟩
  ·have:=g2.un k (nK.2 ⟨x,oC hx,hk⟩)
   simpa using this
  ·rcases g2.at_ x (oC hx) with ⟨h5,_⟩ | ⟨k2,h5,h6,h7⟩
   ·rw [h5] at hk;cases hk
   ·rw [hk] at h5;cases h5
    exact ⟨x.2,h6,h7.sp.1⟩
 obtain ⟨m1,m2,m3⟩:=zEW (us:=(List.range bx0.length).map some++s.map (·.1)) (nb:=st1.bx.take bx0.length++s.rows) (av':=av) h3.toMem (fun b hb=>.inl hb) (by simp [Sel.rows,ul])
  (fun i j k hi hj=>by
   rcases hus i _ hi with ⟨a1,a2⟩ | ⟨x,a1,a2,a3⟩<;>rcases hus j _ hj with ⟨b1,b2⟩ | ⟨y,b1,b2,b3⟩
   ·cases a2;cases b2;rfl
   ·cases a2;have:=(hsel _ y _ b1 b3.symm).1;omega
   ·cases b2;have:=(hsel _ x _ a1 a3.symm).1;omega
   ·have key:∀ (s:Sel) (i j:Nat) (x y:Option Nat × Bx),(s.filterMap (·.1)).Nodup->s[i]?=some x->s[j]?=some y->x.1=some k->y.1=some k->i=j:=by
     intro s
     induction s with
     | nil=>intro i j x y _ hx;simp at hx
     | cons u s ih=>
       intro i j x y hn hx hy hxk hyk
       have hn':(s.filterMap (·.1)).Nodup:=by
        cases hu:u.1 with
        | none=>simpa [hu] using hn
        | some m=>simp only [nQ,hu] at hn;exact (nP.1 hn).2
       have hnm:u.1=some k->k∉s.filterMap (·.1):=fun hu=>by
        simp only [nQ,hu] at hn
        exact (nP.1 hn).1
       cases i with
       | zero=>
         simp at hx;subst hx
         cases j with
         | zero=>rfl
         | succ j=>simp at hy;exact absurd (nK.2 ⟨y,oC hy,hyk⟩) (hnm hxk)
       | succ i=>
         simp at hx
         cases j with
         | zero=>simp at hy;subst hy;exact absurd (nK.2 ⟨x,oC hx,hxk⟩) (hnm hyk)
         | succ j=>simp at hy;rw [ih i j x y hn' hx hy hxk hyk]
    have:=key s _ _ x y g2.nd a1 b1 a3.symm b3.symm
    omega)
  (fun j B hj=>by
   rcases hnb j B hj with ⟨a1,a2⟩ | ⟨x,a1,a2,rfl⟩
   ·refine .inr ⟨j,B,?_,by simp,a2,⟨?_⟩⟩
    ·rw [oK (by simpa using a1)];simp [a1]
    ·rw [hne]
     cases B with
     | var cs=>
       refine .inr (.inr ⟨cs,cs,rfl,rfl,rfl,fun i q hq=>.inr ⟨q,hq,id,?_,fun _ _=>id,id,fun r hr=>?_⟩⟩)
       ·have hr:∀ r∈q.refs,r<bx0.length:=fun r hr=>hrefs j _ a1 a2 r (by simp only [Bx.refs];exact PV.refsL_mem.2 ⟨q,oC hq,hr⟩)
        exact (PV.cv_congr q fun r hr2=>hatk r (hr r hr2)).symm
       ·have:=hrefs j _ a1 a2 r (by simp only [Bx.refs];exact PV.refsL_mem.2 ⟨q,oC hq,hr⟩)
        simp;omega
     | _=>exact .inr (.inl ⟨rfl,by simp⟩)
   ·have hjs:((List.range bx0.length).map some++s.map (·.1))[j]?=some x.1:=by
     rw [oM (by simp;omega)];simp [a1]
    rcases g2.at_ x (oC a1) with ⟨h5,t,z,h6⟩ | ⟨k2,h5,h6,h7⟩
    ·exact .inl ⟨by rw [hjs,h5],t,z,h6⟩
    ·exact .inr ⟨k2,x.2,by rw [hjs,h5],by simp,h6,zJR h7⟩)
 rw [hne] at m1 m2 m3
 have hng:∀ k b,k<bx0.length->e.at k=some b->Lives [] e st1.bx k b:=fun k b hk hb=>by
  obtain ⟨B,hB⟩:∃ B,st1.bx[k]?=some B:=⟨_,oG (by omega)⟩
  exact ⟨by simp,hb,B,hB,hgn k B hk hB⟩
 refine zBG hk hf h3.nd (tN hrun) ⟨qs.take nn,qO (st1.bx.take bx0.length),s.rows,e.take bx0.length++s.env e,?_,{
  q:=by rw [<-hqs];exact g1
  v:=?_
  m:=by rw [hupd];exact m1
  ok:=fun q hq=>?_
  fix:=fun k B hB ha=>?_
  fresh:=fun k b hb=>?_
  size:=h3.size
  old:=h3.old
  fz:=h3.fz
  ku:=h3.ku
  ns:=fun p hp=>(hns p hp).2
  be:=zEx h3.toMem rfl fun B hB=>oV hB }⟩
 ·exact hql1
 ·rcases hbk with ⟨gn,gp⟩ | ⟨j,l,t,z,es,c,gf,gps,gj,gm,gp⟩
  ·rw [pQ gn]
   rw [gp] at g4 g3
   rcases hpk with ⟨gk,hpk⟩ | ⟨cs,gk,hcs,hpk⟩
   rotate_left
   ·have hqC:=QT.app_pk gk g1
    obtain ⟨v,hv0,hvo⟩:=hres 0 (.pg cs) (by rw [hcs];rfl)
    have hvs:vs=[v]:=by
     have h5:vs.length=1:=by rw [hvn,<-hr0,hcs];rfl
     rcases vs with _ | ⟨u,_ | _⟩<;>simp at h5 hv0
     subst hv0;rfl
    have hok:=hvo.2.1
    simp only [PV.Ok] at hok
    rw [hvs,gk]
    simp only [zKQ,zFO]
    rw [hvo.1.resolve_left (by simp)]
    simp only [PV.val,PV.val1,PV.cvs_eq]
    congr 2
    apply o6
    intro i
    rw [oE,oE]
    have hcl:cs.length=nn:=by rw [<-hkn,hpk]
    by_cases hi:i<nn
    ·have hlt:i<(qs.take nn).length:=by omega
     have hq:=oG hlt
     have hq2:qs[i]?=some (qs.take nn)[i]:=by rw [<-hq,ob];simp [hi]
     obtain ⟨x,hp⟩:∃ x,cs[i]?=some x:=⟨_,oG (by omega)⟩
     have hp2:(psk++qO (st1.bx.take bx0.length))[i]?=some x:=by
      rw [oK (by omega),hpk];exact hp
     have h5:=g4 _ hEl i _ _ hp2 hq2
     rw [hq,hp]
     simp only [oT,oZ]
     rw [<-zCE (hok.2 _ (oC hp)),h5.1,zAx (hqC _ (oC hq2))]
    ·rw [oU (by omega),oU (by omega)];rfl
   have hfn:fn.resultTypes.size=nn:=by rw [<-hr0,<-hpk,<-hkn]
   rw [gk]
   have hv:vs=(qs.take nn).map (PV.val1 (e.take bx0.length++s.env e)):=by
    apply o6
    intro i
    rw [oE]
    by_cases hi:i<nn
    ·have hlt:i<(qs.take nn).length:=by omega
     have hq:=oG hlt
     have hq2:qs[i]?=some (qs.take nn)[i]:=by
      rw [<-hq,ob];simp [hi]
     have hp:psk[i]?=some psk[i]:=oG (by omega)
     obtain ⟨v,hv,hvo⟩:=hres i _ (by rw [<-hpk];exact hp)
     have hp2:(psk++qO (st1.bx.take bx0.length))[i]?=some psk[i]:=by rw [oK (by omega)];exact hp
     have h5:=g4 _ hEl i _ _ hp2 hq2
     rw [hv,hq,hvo.1.resolve_left h5.2.2.1,h5.1]
     rfl
    ·rw [oU (by omega),oU (by omega)];rfl
   rw [hv]
   simp only [zFO]
   unfold zHM
   rcases qs.take nn with _ | ⟨q,_ | ⟨r,qs⟩⟩<;>rfl
  ·rcases hpk with ⟨gk,hpk⟩ | ⟨cs,gk,_,_⟩
   rotate_left
   ·rw [gf] at gk;cases gk
   have h1:psk[0]?=some (.sb j z 0 es.length c):=by rw [gps];rfl
   obtain ⟨v,hv,hvo⟩:=hres 0 _ (by rw [<-hpk];exact h1)
   have hlen:vs.length=1:=by rw [hvn,<-hr0,<-hpk,gps];rfl
   have hvs:vs=[v]:=by
    match vs,hlen with
    | [v'],_=>simp at hv;rw [hv]
   have hUj:(zCG bx0 (qO (st1.bx.take bx0.length)))[j]?=some (.arr t z es c):=by rw [hupd,htk j gm];exact gj
   rw [hvs,gf]
   simp only [zGL,hUj,PV.cv,hatk j gm]
   have:=hvo.1.resolve_left (by simp)
   rw [this]
   rfl
 ·rw [hupd]
  obtain ⟨i,hi⟩:=oP.1 hq
  have hlt:=(oB.1 hi).1
  rw [hql1] at hlt
  have hq2:qs[i]?=some q:=by rw [<-hi,ob];simp [hlt]
  have hp:(zHA full psk)[i]?=some (zHA full psk)[i]:=oG (by omega)
  have hvo:=hprOk _ (oC hp)
  have hp2:(zHA full psk++qO (st1.bx.take bx0.length))[i]?=some (zHA full psk)[i]:=by rw [oK (by omega)];exact hp
  exact PV.Ok.mono (fun _ _ _=>rfl) (oF _) (fun b _=>m2 b) q ((g4 _ hEl i _ _ hp2 hq2).2.1 hvo)
 ·have hkl:=(oB.1 hB).1
  have h5:=zCM (E:=E) bx0 0 k B hB ha
  rw [<-hpins,nE] at h5
  rw [hatk k hkl]
  exact (h3.pin k _ h5).1
 ·by_cases hkl:k<bx0.length
  ·rw [hatk k hkl] at hb
   rcases h3.own k b (hng k b hkl hb) with h5 | ⟨h5,_⟩
   ·exact .inl h5
   ·exact .inr ⟨hkl,h5⟩
  ·rw [Env.at_app,if_neg (by omega),hEl] at hb
   cases hx:s[k - bx0.length]? with
   | none=>simp [Sel.env,Env.at,oA,hx] at hb
   | some x=>
     simp only [Sel.env,Env.at,oA,oE,hx,oT,oc] at hb
     cases hxk:x.1 with
     | none=>rw [hxk] at hb;cases hb
     | some k2=>
       rw [hxk] at hb
       obtain ⟨h5,B,h6,h7⟩:=hsel _ x k2 hx hxk
       rcases h3.own k2 b ⟨by simp,hb,B,h6,h7⟩ with h8 | ⟨_,h8⟩
       ·exact .inl h8
       ·rw [hpins,vp] at h8;omega
variable {av:Nat->Prop} {P:Program} {w0 w w':World} {e0 e:Env} {pS pS' pB pB':List Nat} {a:Act} {st st':St}
structure Hint where
 cuts:List Cut:=[]
 joins:List Cut:=[]
 ords:List (Nat × List Ent):=[]
def eh (i:Nat):Ent:={ i:=i,hard:=true }
def en (i:Nat):Ent:={ i:=i }
def ec (i:Nat) (cl:List Nat):Ent:={ i:=i,hard:=true,cl:=cl }
def em (i:Nat) (pl:Option Nat) (keep:List Nat) (same:Option Nat:=none):Ent:={ i:=i,hard:=true,mh:=some { place:=pl,keep:=keep,same:=same } }
def zKY (i:Nat):List Ent->Ent
 | []=>eh i
 | e::l=>match Nat.beq e.i i with
   | true=>e
   | false=>zKY i l
def zLl (l:List Ent) (n:Nat):Nat->List Ent
 | 0=>[]
 | k+1=>zKY (n - (k+1)) l::zLl l n k
/-- hard ones in order, but for these -/
def hs (n:Nat) (l:List Ent):List Ent:=zLl l n n
def hc (id:Nat) (keep:List Nat) (nils:List (Nat × TypeId × Nat):=[]) (bnils:List (Nat × Nat × TypeId × Nat):=[]):Cut:={ id:=id,keep:=keep,nils:=nils,bnils:=bnils }
def an:Nat->List PV->List PV
 | 0,l=>l
 | n+1,l=>.any::an n l
/-- the region in which a piece of code begins -/
def sj:Code->Option Nat
 | .region id _ _=>some id
 | .seq a b=>match sj a with
   | some i=>some i
   | none=>sj b
 | .block _ c=>sj c
 | .loop c=>sj c
 | _=>none
def zDt:List Cut->Nat->Option Cut
 | [],_=>none
 | c::l,id=>match Nat.beq c.id id with
   | true=>some c
   | false=>zDt l id
def zGQ:List (Nat × List Ent)->Nat->Option (List Ent)
 | [],_=>none
 | (i,o)::l,id=>match Nat.beq i id with
   | true=>some o
   | false=>zGQ l id
def zIS (n:Nat):List Ent:=(List.range n).map fun i=>{ i:=i,hard:=true }
def zIX (H:Hint) (id:Nat) (ops:Array Oper):List Ent:=match zGQ H.ords id with
 | some o=>o
 | none=>zIS ops.size
def zKK (first:Bool) (H:Hint) (id:Nat):Option Cut:=match first with
 | true=>none
 | false=>zDt H.joins id
def zK0 (N0:Option Nat) (H:Hint) (c:Code) (st:St) (K:St->Prop):Prop:=match sj c with
 | some id=>match zDt H.cuts id with
   | some cut=>zLP N0 cut st fun st=>pa st K
   | none=>False
 | none=>False
def zLV (st:St) (c:Operand) (v:Bool):St:=match c with
 | .tmp t=>st.put (some t) (.bool v)
 | _=>st
def zKb (st:St) (c:Operand) (A B:St->Prop):Prop:=match opd st.sl c with
 | .bool v=>Br v (A (zLV st c true)) (B (zLV st c false))
 | _=>False
/-- an ordinary call; one that writes what it is handed: the older blocks that it may write, the block of the row that it is handed, else the slot and type of the struct; one that may write the boxes that it is handed -/
inductive Mode where
 | ord
 | io (E:Env) (bx0:List Bx)
def Mode.env0:Mode->Env
 | .ord=>[]
 | .io E _=>E
def Mode.n0:Mode->Nat->Option Nat
 | .ord,N=>some N
 | .io ..,N=>some N
def Mode.fin (M:Mode) (P:Program) (f:FuncId) (rs:List Sh) (Q:QT rs) (av:Nat->Prop) (w0:World):Ending->World->Prop:=match M with
 | .ord=>Fin rs Q av w0
 | .io E bx0=>zLH rs Q (zBl P f rs bx0) av w0 E bx0
def zLI (P:Program) (f:FuncId) (rs:List Sh) (Q:QT rs) (N0:Nat) (M:Mode) (st:St):Prop:=match M with
 | .ord=>zLF P f rs Q (some N0) st
 | .io E bx0=>zLE P f rs Q (some N0) E bx0 st
/-- at these items, in this state, the function's contract will be met -/
structure AT (P:Program) (f:FuncId) (rs:List Sh) (Q:QT rs) (N0:Nat) (M:Mode) (k:List Item) (st:St):Prop where
 h:∀ (av:Nat->Prop) (w0:World) (a:Act) (w:World) (e:Env),w0.heap.size=N0->Rel av w0 M.env0 [] [] a w e st->zGS P f k (M.fin P f rs Q av w0) a w
def W (P : Program) (sh:FuncId->List Sh) (f:FuncId) (rs:List Sh) (Q:QT rs) (N0:Nat) (M:Mode) (H:Hint):Nat->Bool->List Item->St->Prop
 | 0,_,_,_=>False
 | n + 1,first,items,st=>match items with
   | []=>zLI P f rs Q N0 M st
   | .inBlock _::k=>W P sh f rs Q N0 M H n first k st
   | .inLoop c::k=>zK0 (M.n0 N0) H c st fun st=>AT P f rs Q N0 M (.code c::.inLoop c::k) st
   | .code c::k=>match c with
     | .skip=>W P sh f rs Q N0 M H n first k st
     | .label _=>W P sh f rs Q N0 M H n first k st
     | .ret=>zLI P f rs Q N0 M st
     | .seq x y=>W P sh f rs Q N0 M H n first (.code x::.code y::k) st
     | .cond c x y=>zKb st c (fun st=>W P sh f rs Q N0 M H n false (.code x::k) st) (fun st=>W P sh f rs Q N0 M H n false (.code y::k) st)
     | .block id c=>W P sh f rs Q N0 M H n first (.code c::.inBlock id::k) st
     | .loop c=>zK0 (M.n0 N0) H c st fun st=>AT P f rs Q N0 M (.code c::.inLoop c::k) st
     | .exit id=>match exitTo id k with
       | some k'=>W P sh f rs Q N0 M H n false k' st
       | none=>False
     | .region id ops draw=>match zKK first H id with
       | some cut=>zLP (M.n0 N0) cut st fun st=>pa st fun st=>AT P f rs Q N0 M (.code (.region id ops draw)::k) st
       | none=>match draw with
         | true=>match chk ops (zIX H id ops) with
           | true=>zEh P sh (M.n0 N0) ops (zIX H id ops) [] st fun st=>pa st fun st=>W P sh f rs Q N0 M H n false k st
           | false=>False
         | false=>match zDp ops.size (zIX H id ops) with
           | true=>zEh P sh (M.n0 N0) ops (zIX H id ops) [] st fun st=>pa st fun st=>W P sh f rs Q N0 M H n false k st
           | false=>False
     | _=>False
   | _=>False
theorem nok (M:Mode) (w0:World):NOk (M.n0 w0.heap.size) w0:=fun n hn=>by
 cases M with
 | ord=>cases hn;rfl
 | io=>cases hn;rfl
theorem zAw (h:Rel av w0 e0 [] [] a w e st) {N0:Option Nat} (hN0:NOk N0 w0) {H:Hint} {c:Code} {K:St->Prop} (hs:zK0 N0 H c st K):∃ e' st',K st'/\Rel av w0 e0 [] [] a w e' st':=by
 unfold zK0 at hs
 split at hs
 ·split at hs
  ·obtain ⟨e',st',h1,h2⟩:=zAh h hN0 hs
   rw [uh] at h1
   exact ⟨e',st',h1,h2⟩
  ·exact hs.elim
 ·exact hs.elim
theorem zCu {c:Operand} {v:Bool} (h:opd st.sl c=.bool v):zLV st c v=st:=by
 cases c with
 | tmp t=>
   simp only [opd,oA] at h
   cases ht:st.sl[t]? with
   | none=>rw [ht] at h;cases h
   | some p=>rw [ht] at h;simp at h;subst h;exact zBB ht
 | _=>rfl
theorem zAl {rs:List Sh} {Q:QT rs} {M:Mode} {f:FuncId} {k:List Item} (h:Rel av w0 M.env0 [] [] a w e st) (hk:k=[]\/∃ k',k=.code .ret::k') (hs:zLI P f rs Q w0.heap.size M st):zGS P f k (M.fin P f rs Q av w0) a w:=by
 cases M with
 | ord=>exact zFN h hk (nok .ord w0) hs
 | io E bx0=>exact zFt h hk (nok .ord w0) hs
theorem zDr {sh:FuncId->List Sh} {f:FuncId} {rs:List Sh} {Q:QT rs} {N0:Nat} {M:Mode} {H:Hint} (hm:P.follows .mixedOrders=true) :
  ∀ (n:Nat) (first:Bool) (items:List Item) (st:St),W P sh f rs Q N0 M H n first items st->AT P f rs Q N0 M items st:=by
 intro n
 induction n with
 | zero=>intro first items st h;exact h.elim
 | succ n ih=>
   intro first items st hs
   refine ⟨fun av w0 a w e hN h=>?_⟩
   subst hN
   cases items with
   | nil=>exact zAl h (.inl rfl) hs
   | cons it k=>
     cases it with
     | inBlock id=>exact yc (fun cs=>step_inBlock) ((ih _ _ _ hs).h av w0 a w e rfl h)
     | inLoop c=>
       obtain ⟨e',st',h1,h2⟩:=zAw h (nok M w0) hs
       exact yc (fun cs=>step_inLoop) (h1.h av w0 a w e' rfl h2)
     | code c=>
       cases c with
       | skip=>exact yc (fun cs=>step_skip) ((ih _ _ _ hs).h av w0 a w e rfl h)
       | label l=>exact yc (fun cs=>step_label) ((ih _ _ _ hs).h av w0 a w e rfl h)
       | ret=>exact zAl h (.inr ⟨_,rfl⟩) hs
       | seq x y=>exact yc (fun cs=>step_seq) ((ih _ _ _ hs).h av w0 a w e rfl h)
       | block id c=>exact yc (fun cs=>step_block) ((ih _ _ _ hs).h av w0 a w e rfl h)
       | loop c=>
         obtain ⟨e',st',h1,h2⟩:=zAw h (nok M w0) hs
         exact yc (fun cs=>step_loop) (h1.h av w0 a w e' rfl h2)
       | cond c x y=>
         simp only [W,zKb] at hs
         split at hs
         ·rename_i v hv
          have hev:a.eval c=.bool v:=by
           have:=(yP h (x:=c) (by simp)).h.resolve_left (by rw [hv];simp)
           rw [this,hv];rfl
          rcases hs.spec with ⟨rfl,hs⟩ | ⟨rfl,hs⟩
          ·rw [zCu hv] at hs
           exact yc (fun cs=>step_cond hev) ((ih _ _ _ hs).h av w0 a w e rfl h)
          ·rw [zCu hv] at hs
           exact yc (fun cs=>step_cond hev) ((ih _ _ _ hs).h av w0 a w e rfl h)
         ·exact hs.elim
       | exit id=>
         simp only [W] at hs
         split at hs
         ·rename_i k' hk
          exact yc (fun cs=>step_exit hk) ((ih _ _ _ hs).h av w0 a w e rfl h)
         ·exact hs.elim
       | region id ops draw=>
         simp only [W] at hs
         split at hs
         ·obtain ⟨e',st',h1,h2⟩:=zAh h (nok M w0) hs
          rw [uh] at h1
          exact h1.h av w0 a w e' rfl h2
         ·have key:∀ a w e st,pa st (fun st=>W P sh f rs Q w0.heap.size M H n false k st)->Rel av w0 M.env0 [] [] a w e st->Exit.normal=.normal/\zGS P f k (M.fin P f rs Q av w0) a w:=fun a w e st hf hr=>by
           rw [uh] at hf
           exact ⟨rfl,(ih _ _ _ hf).h av w0 a w e rfl hr⟩
          split at hs
          ·split at hs
           ·rename_i hck
            exact zDP (zFm (nok M w0) hm hck h hs key)
           ·exact hs.elim
          ·split at hs
           ·rename_i hck
            exact zDP (zFc (nok M w0) hck h hs key)
           ·exact hs.elim
       | _=>exact hs.elim
     | _=>exact hs.elim
def wj (id:Nat):Code->List Item->Option (List Item)
 | .seq x y,k=>match wj id x (.code y::k) with
   | some r=>some r
   | none=>wj id y k
 | .cond _ x y,k=>match wj id x k with
   | some r=>some r
   | none=>wj id y k
 | .block i c,k=>wj id c (.inBlock i::k)
 | .loop c,k=>match sj c with
   | some j=>match Nat.beq j id with
     | true=>some (.code c::.inLoop c::k)
     | false=>wj id c (.inLoop c::k)
   | none=>wj id c (.inLoop c::k)
 | _,_=>none
def zKc (P:Program) (f:FuncId):Code:=match P.funcs[f]? with
 | some fn=>match fn.body with
   | some c=>c
   | none=>.skip
 | none=>.skip
def zF (P:Program) (f:FuncId) (id:Nat):List Item:=match wj id (zKc P f) [] with
 | some k=>k
 | none=>[]
def qP (n:Nat) (args:List PV):List PV:=args++List.replicate (n - args.length) .any
def zEQ (P:Program) (sh:FuncId->List Sh) (f:FuncId) (rs:List Sh) (Q:QT rs) (N:Nat) (H:Hint) (fuel:Nat) (args:List PV):Prop:=match P.funcs[f]? with
 | some fn=>match fn.body with
   | some c=>zII N args (pa { sl:=qP fn.ntmps args,bx:=[],N:=N } fun st=>W P sh f rs Q N .ord H fuel true [.code c] st)
   | none=>False
 | none=>False
theorem zI9 {sh:FuncId->List Sh} {f:FuncId} {rs:List Sh} {Q:QT rs} {N:Nat} {H:Hint} {fuel:Nat} {args:List PV} (hm:P.follows .mixedOrders=true) (hc:yo P f=true)
  (h:zEQ P sh f rs Q N H fuel args):ACalls P f rs args N Q:=by
 refine ⟨hc,fun av w0 hN hav harg=>?_⟩
 subst hN
 unfold zEQ at h
 split at h
 rotate_left
 ·exact h.elim
 rename_i fn hf
 split at h
 rotate_left
 ·exact h.elim
 rename_i c hb
 have h:=xW (fun p hp=>by
  have hok:=(harg p hp).1
  cases p<;>simp only [PV.Ok] at hok ⊢
  ·exact hok.1.lt
  ·exact hok.1.1.lt) h
 rw [uh] at h
 have hw:=zDr hm _ _ _ _ h
 refine zAe hf hb (hw.h av w0 _ w0 [] rfl ?_)
 have hget:∀ (i:Nat) (p:PV),(qP fn.ntmps args)[i]?=some p->p=.any\/(p∈args/\args[i]?=some p):=fun i p hp=>by
  unfold qP at hp
  by_cases hi:i<args.length
  ·rw [oK hi] at hp
   exact .inr ⟨oC hp,hp⟩
  ·rw [oM (by omega)] at hp
   exact .inl (nJ (oC hp))
 have hnl:∀ k b,¬Lives [] [] ([]:List Bx) k b:=fun k b ⟨_,_,B,h3,_⟩=>by simp at h3
 have hlive:∀ b,zJ av [] [] ([]:List Bx) b->av b:=fun b hb=>hb.elim id fun ⟨k,hk⟩=>absurd hk (hnl k b)
 exact {
  el:=rfl
  br:=fun k B hk _=>by simp at hk
  bo:=fun k B hk _=>by simp at hk
  bf:=fun k B hk _=>by simp at hk
  inj:=fun k j b hk _=>absurd hk (hnl k b)
  ku:=.rfl
  size:=oF _
  old:=fun _ _ _=>rfl
  fz:=fun b c t z hb hc=>by
   rcases hb with hb | hb
   ·have:=(oN.1 hc).1;omega
   ·exact absurd hb (by simp [Mode.env0])
  nd:=rfl
  sz:=by simp [qP]
  hN:=oF _
  hs:=fun i p hp _=>by
   rcases hget i p hp with h1 | ⟨h1,h2⟩
   ·exact .inl h1
   ·right
    have hlt:=(oB.1 h2).1
    have:i<args.toArray.size:=by simpa using hlt
    simp [Array.getElem?_append,hlt]
    rw [(oB.1 h2).2]
  so:=fun i p hp _=>by
   rcases hget i p hp with h1 | ⟨h1,h2⟩
   ·subst h1;trivial
   ·exact PV.Ok.mono (fun _ _ _=>rfl) (oF _) (fun b _=>hlive b) p (harg p h1).1
  sr:=fun i p hp _ k hk=>by
   rcases hget i p hp with h1 | ⟨h1,h2⟩
   ·subst h1;simp [PV.refs] at hk
   ·rw [(harg p h1).2] at hk;simp at hk
  own:=fun k b hk=>absurd hk (hnl k b)
  avl:=hav
  avn:=fun k b hk=>absurd hk (hnl k b)
  pin:=fun k b hb=>by simp [St.pins] at hb
  pit:=fun b T hb=>by cases hb }
def bytes (l:List Nat):ByteArray:=⟨(l.map UInt8.ofNat).toArray⟩
def zIu (f:Nat):List (Nat × List Sh)->List Sh
 | []=>[]
 | (g,s)::l=>match Nat.beq g f with
   | true=>s
   | false=>zIu f l
theorem zKB {P:Program} {sh:FuncId->List Sh} {f:FuncId} {rs:List Sh} {Q:QT rs} {N:Nat} {H:Hint} {fuel:Nat} {args:List PV} {F:Prop} (hm:P.follows .mixedOrders=true) (hc:yo P f=true)
 (he:F=zEQ P sh f rs Q N H fuel args) (h:F):ACalls P f rs args N Q:=zI9 hm hc (he ▸ h)
theorem zLf {P:Program} {sh:FuncId->List Sh} {f:FuncId} {rs:List Sh} {Q:QT rs} {N0:Nat} {M:Mode} {H:Hint} {fuel:Nat} {items:List Item} {st:St} {F:Prop} (hm:P.follows .mixedOrders=true)
 (he:F=pa st fun st=>W P sh f rs Q N0 M H fuel true items st) (h:F):AT P f rs Q N0 M items st:=zDr hm fuel true items st (by rw [uh] at he;exact he ▸ h)
theorem zGg {av:Nat->Prop} {args:List PV} {bx:List Bx} {e e0:Env} {pin:Option (List (Option Nat) × List Nat)} {nt:Nat} {w0:World} (hm:Mem av [] w0 e bx) (harg:∀ p∈args,p.Ok w0 (zJ av [] e bx)/\∀ k∈p.refs,k<bx.length)
  (havl:Avl av w0 e0) (havn:∀ k b,Lives [] e bx k b->¬av b)
  (hown:∀ k b,Lives [] e bx k b->some b∈e0/\k<(St.pins ⟨qP nt args,bx,w0.heap.size,pin⟩).length) (hfz:∀ (b:Nat) (c:Array Value) (t:TypeId) (z:Nat × Nat),some b∈e0->w0.heap[b]?=some (.cells c t z)->Fz z)
  (hpin:∀ k b,(St.pins ⟨qP nt args,bx,w0.heap.size,pin⟩)[k]?=some (some b)->e.at k=some b) (hpit:∀ L T,pin=some (L,T)->∀ x∈T,some x∈e0) :
  Rel av w0 e0 [] [] { tmps:=(args.map (PV.val e)).toArray++Array.replicate (nt - (args.map (PV.val e)).toArray.size) undef,defers:=[] } w0 e { sl:=qP nt args,bx:=bx,N:=w0.heap.size,pin:=pin }:=by
 have hget:∀ (i:Nat) (p:PV),(qP nt args)[i]?=some p->p=.any\/(p∈args/\args[i]?=some p):=fun i p hp=>by
  unfold qP at hp
  by_cases hi:i<args.length
  ·rw [oK hi] at hp
   exact .inr ⟨oC hp,hp⟩
  ·rw [oM (by omega)] at hp
   exact .inl (nJ (oC hp))
 exact {
  toMem:=hm
  ku:=.rfl
  size:=oF _
  old:=fun _ _ _=>rfl
  fz:=fun b c t z hb hc=>by
   rcases hb with hb | hb
   ·have:=(oN.1 hc).1;omega
   ·exact hfz b c t z hb hc
  nd:=rfl
  sz:=by simp [qP]
  hN:=oF _
  hs:=fun i p hp _=>by
   rcases hget i p hp with h1 | ⟨h1,h2⟩
   ·exact .inl h1
   ·right
    have hlt:=(oB.1 h2).1
    simp [Array.getElem?_append,hlt]
    rw [(oB.1 h2).2]
  so:=fun i p hp _=>by
   rcases hget i p hp with h1 | ⟨h1,h2⟩
   ·subst h1;trivial
   ·exact (harg p h1).1
  sr:=fun i p hp _ k hk=>by
   rcases hget i p hp with h1 | ⟨h1,h2⟩
   ·subst h1;simp [PV.refs] at hk
   ·exact ⟨by simp,(harg p h1).2 k hk⟩
  own:=fun k b hk=>.inr (hown k b hk)
  avl:=havl
  avn:=havn
  pin:=fun k b hb=>⟨hpin k b hb,by simp⟩
  pit:=hpit }
def zEq (P:Program) (sh:FuncId->List Sh) (f:FuncId) (full:List Sh) (Q:QT full) (N:Nat) (H:Hint) (fuel:Nat) (args:List PV) (bx:List Bx) (E:Env):Prop:=match P.funcs[f]? with
 | some fn=>match fn.body with
   | some c=>match bx.all fun B=>!zEy B with
     | true=>zII N (args++qO bx) (pa { sl:=qP fn.ntmps args,bx:=bx,N:=N,pin:=some (xz E 0 (bx.map yD),[]) } fun st=>W P sh f full Q N (.io E (bx.map yD)) H fuel true [.code c] st)
     | false=>False
   | none=>False
 | none=>False
theorem zGt (bx:List Bx) (E:Env):∀ n,xz E n (bx.map yD)=xz E n bx:=by
 induction bx with
 | nil=>intro n;rfl
 | cons B bs ih=>intro n;cases B<;>simp [xz,yD,ih]
theorem zA4 {E:Env}:∀ (bs:List Bx) (k j b:Nat),(xz E k bs)[j]?=some (some b)->b=(E.at (k+j)).getD 0/\∃ B,bs[j]?=some B/\((∃ cs,B=.var cs)\/∃ x n,B=.vd x n)
 | [],k,j,b,h=>by simp [xz] at h
 | B::bs,k,0,b,h=>by
   cases B<;>simp [xz] at h
   ·exact ⟨by simp [h],_,rfl,.inl ⟨_,rfl⟩⟩
   ·exact ⟨by simp [h],_,rfl,.inr ⟨_,_,rfl⟩⟩
 | B::bs,k,j+1,b,h=>by
   simp only [xz,nF] at h
   obtain ⟨h1,h2⟩:=zA4 bs (k+1) j b h
   exact ⟨by rw [h1,show k+1+j=k+(j+1) by omega],by simpa using h2⟩
theorem zJr {P:Program} {sh:FuncId->List Sh} {f:FuncId} {full:List Sh} {Q:QT full} {N:Nat} {H:Hint} {fuel:Nat} {args:List PV} {bx:List Bx} (hm:P.follows .mixedOrders=true) (hc:yo P f=true)
  (hx:∀ E,zEq P sh f full Q N H fuel args bx E):BCalls P f full args bx N Q:=by
 refine ⟨hc,fun av w0 E hN hav hmem havn harg=>?_⟩
 subst hN
 have hx:=hx E
 unfold zEq at hx
 split at hx
 rotate_left
 ·exact hx.elim
 rename_i fn hf
 split at hx
 rotate_left
 ·exact hx.elim
 rename_i code hb
 split at hx
 rotate_left
 ·exact hx.elim
 rename_i hng
 simp only [oS,o7] at hng
 have hng:∀ B∈bx,B≠.gone:=fun B hB hc=>by have:=hng B hB;subst hc;simp [zEy] at this
 have hx:=xW (fun p hp=>by
  have:zJ8 w0.heap.size p:=by
   rcases oO.1 hp with hp | hp
   ·exact zHG (harg p hp).1
   ·exact zEx hmem rfl (fun B hB=>hB) p hp
  cases p<;>first | exact this | trivial) hx
 rw [uh] at hx
 have hAT:=zDr hm _ _ _ _ hx
 refine zAe hf hb (hAT.h av w0 _ w0 E rfl (zGg hmem harg hav havn (fun k b hk=>?_) (fun b c t z hbE hc=>?_) (fun k b hk=>?_) (fun L T h=>by cases h;simp)))
 ·obtain ⟨_,h1,B,h2,_⟩:=hk
  refine ⟨?_,by simp only [St.pins,vp,nM];exact (oB.1 h2).1⟩
  simp only [Mode.env0]
  unfold Env.at at h1
  rw [oA] at h1
  cases he:E[k]? with
  | none=>rw [he] at h1;cases h1
  | some u=>rw [he] at h1;simp at h1;subst h1;exact oC he
 ·simp only [Mode.env0] at hbE
  obtain ⟨k,hk⟩:=oP.1 hbE
  have hat:E.at k=some b:=by simp [Env.at,oA,hk]
  have hlt:k<bx.length:=by rw [<-hmem.el];exact (oB.1 hk).1
  have hB:bx[k]?=some bx[k]:=oG hlt
  have hr:=hmem.br k _ hB (by simp)
  have hg:=hng _ (oC hB)
  rw [hat] at hr
  cases hBk:bx[k] with
  | var cs=>rw [hBk] at hr;obtain ⟨b',c',t',g1,g2,_⟩:=hr;cases g1;rw [g2] at hc;cases hc;exact fz0
  | vd x n=>rw [hBk] at hr;obtain ⟨b',c',t',g1,g2,_⟩:=hr;cases g1;rw [g2] at hc;cases hc;exact fz0
  | arr t0 z0 es n=>
    rw [hBk] at hr
    rcases hr with ⟨g1,_⟩ | ⟨b',c',g1,g2,_⟩
    ·cases g1
    ·cases g1;rw [g2] at hc;cases hc;exact fz0
  | gone=>exact absurd hBk hg
 ·simp only [St.pins,zGt] at hk
  obtain ⟨h1,B,h2,h3⟩:=zA4 _ _ _ _ hk
  rw [nE] at h1
  have hr:=hmem.br k _ h2 (by simp)
  rcases h3 with ⟨cs,rfl⟩ | ⟨x,n,rfl⟩
  ·obtain ⟨b',c',t',g1,_⟩:=hr;rw [g1] at h1 ⊢;simp at h1;rw [h1]
  ·obtain ⟨b',c',t',g1,_⟩:=hr;rw [g1] at h1 ⊢;simp at h1;rw [h1]
theorem zJe {P:Program} {sh:FuncId->List Sh} {f:FuncId} {full:List Sh} {Q:QT full} {N:Nat} {H:Hint} {fuel:Nat} {args:List PV} {bx:List Bx} {F:Env->Prop} (hm:P.follows .mixedOrders=true) (hc:yo P f=true)
 (he:∀ E,F E=zEq P sh f full Q N H fuel args bx E) (h:∀ E,F E):BCalls P f full args bx N Q:=zJr hm hc fun E=>he E ▸ h E
end Go.Proofs.YtmfjakahanbnlaaGreatDoor
set_option maxRecDepth 100000
namespace Go.Proofs.YtmfjakahanbnlaaGreatDoor
open Go Go.Proofs Go.Proofs.Tryz
def sh:FuncId->List Sh:=fun f=>zIu f [(3,[.bool]),(4,[.bool]),(5,[.bool]),(6,[.bool]),(7,[.bool]),(8,[.int .i64]),(9,[.bool]),(10,[.ag 9]),(11,[.bool]),(12,[.bool]),(13,[.int .i64]),(14,[.int .i64]),(15,[.int .i64]),(16,[.bool]),(17,[.ag 3]),(18,[.bool]),(19,[.bool]),(20,[.sl 2,.ag 3,.bool]),(21,[.sl 2,.ag 3,.bool]),(22,[.bool]),(23,[.int .i64]),(24,[.int .i64]),(25,[.int .i64]),(26,[.int .i64]),(27,[.int .i64]),(28,[.bool]),(29,[.ag 9,.int .i64]),(30,[.sl 0]),(31,[.ag 11]),(32,[.sl 0,.int .i64]),(33,[.sl 0]),(34,[.ag 9,.int .i64]),(35,[.bool]),(36,[.sl 0]),(37,[.int .i64]),(38,[.int .i64]),(39,[.str]),(40,[.str]),(41,[.bool]),(42,[.ag 9]),(43,[.ag 9]),(44,[.int .i64]),(45,[.int .i64]),(46,[.bool]),(47,[.ag 9]),(48,[.ag 2]),(49,[.sl 9]),(50,[.bool]),(51,[.bool]),(52,[.ag 9]),(53,[.bool]),(54,[.bool]),(55,[.int .i64]),(56,[.str]),(57,[.int .i64]),(58,[.str]),(59,[.int .i64]),(60,[.sl 2,.bool]),(61,[.bool]),(62,[.int .i64]),(63,[.bool]),(64,[.sl 10]),(65,[.bool]),(66,[.sl 2,.bool]),(67,[.bool]),(68,[.int .i64]),(69,[.bool]),(70,[.ag 3]),(71,[.ag 3]),(72,[.sl 10]),(73,[.row 94 2]),(74,[.bool]),(75,[.int .i64]),(76,[.int .i64]),(77,[.int .i64]),(78,[.int .i64]),(79,[.ag 9,.int .i64]),(80,[.ag 11]),(81,[]),(82,[.bool]),(83,[.pk,.int .i64,.str,.str,.int .i64,.dc,.dc,.dc,.dc,.row 35 9]),(84,[.int .i64]),(85,[.bool]),(86,[.ag 9,.int .i64]),(87,[.cu]),(88,[.row 0 1000007,.sl 0]),(89,[.row 0 1000007,.int .i64]),(90,[.row 0 1000007,.ag 9]),(91,[.row 0 1000007,.bool]),(92,[.row 0 1000007,.ag 9]),(93,[.row 0 1000007,.int .i64]),(94,[.int .i64]),(95,[.int .i64]),(96,[.str]),(97,[.str]),(98,[.str]),(99,[.str]),(100,[.bool]),(101,[.pk,.int .i64,.str,.str,.int .i64,.dc,.dc,.dc,.dc,.row 35 9]),(102,[.bool]),(103,[.int .i64]),(104,[.ag 9,.int .i64]),(105,[.int .i64]),(106,[.bool]),(107,[.int .i64]),(108,[.row 0 1000007,.ag 9]),(109,[.sl 0]),(110,[.sl 2]),(111,[.bool]),(112,[.bool]),(113,[.bool]),(114,[.bool]),(115,[.row 9 0]),(116,[.row 9 0]),(117,[.row 0 1000007,.ag 9]),(118,[.bool]),(119,[.str]),(120,[.str]),(121,[.int .i64]),(122,[.bool]),(123,[.bool]),(124,[]),(125,[.int .i64]),(126,[.ag 10]),(127,[.bool]),(128,[.bool]),(129,[]),(130,[.int .i64]),(131,[.int .i64]),(132,[.bool]),(133,[.bool]),(134,[.ag 10]),(135,[.str]),(136,[.int .i64]),(137,[.int .i64]),(138,[.int .i64]),(139,[.bool]),(140,[.bool]),(141,[.ag 2]),(142,[.bool]),(143,[.ag 9,.int .i64]),(144,[.ag 9,.int .i64]),(145,[.ag 9,.int .i64,.bool]),(146,[.ag 9]),(147,[.ag 9,.int .i64]),(148,[.row 0 1000007,.int .i64]),(149,[.row 0 1000007,.ag 9]),(150,[.ag 2]),(151,[.ag 2]),(152,[.ag 2]),(153,[.ag 2]),(154,[.row 0 1000007,.ag 9]),(155,[.row 0 1000007,.ag 9]),(156,[.row 0 1000007,.str]),(157,[.ag 9]),(158,[.row 0 1000007,.ag 2]),(159,[.str]),(160,[.pk,.int .i64,.str,.str,.int .i64,.dc,.dc,.dc,.dc,.row 35 9]),(161,[.bool]),(162,[.bool]),(163,[.ag 9,.int .i64,.bool]),(164,[.pk,.int .i64,.str,.str,.int .i64,.dc,.dc,.dc,.dc,.bk 1]),(165,[.int .i64]),(166,[.ag 9,.int .i64]),(167,[.bool]),(168,[.bool]),(169,[.bool]),(170,[.int .i64]),(171,[.str]),(172,[.sl 0,.int .i64]),(173,[.row 0 1000007,.str]),(174,[.sl 0]),(175,[.row 9 0]),(176,[.bool]),(177,[.bool]),(178,[.int .i64]),(179,[.bool]),(180,[.bool]),(181,[.sl 0,.int .i64]),(182,[.row 0 1000007,.bk 0]),(183,[.bool]),(184,[.bool]),(185,[.row 9 0]),(186,[.dc]),(187,[.row 0 1000007,.str]),(188,[.str]),(189,[.str]),(190,[.str]),(191,[.str]),(192,[.int .i64]),(193,[.bool]),(194,[.int .i64]),(195,[]),(196,[.sl 0]),(197,[.int .i64]),(198,[.sl 2]),(199,[.bool]),(200,[.bool]),(201,[.bool]),(202,[.int .i64]),(203,[.bool]),(204,[.int .i64]),(205,[.ag 9,.int .i64]),(206,[.int .i64,.bool]),(207,[.ag 9]),(208,[.ag 9]),(209,[.ag 9]),(210,[.ag 9]),(211,[.ag 9,.bool]),(212,[.row 0 1000007,.ag 9,.bool]),(213,[.row 0 1000007,.ag 9]),(214,[.row 0 1000007,.ag 9]),(215,[.row 0 1000007,.ag 9]),(216,[.ag 9]),(217,[.sl 4]),(218,[.bool]),(219,[.row 0 1000007,.ag 9]),(220,[.row 0 1000007,.ag 2]),(221,[]),(223,[.str]),(224,[.int .i64]),(225,[.ag 9,.bool]),(226,[.ag 2]),(227,[.ag 9,.bool]),(228,[.ag 9]),(229,[.ag 9,.bool]),(230,[.int .i64]),(231,[.int .i64]),(232,[.bool]),(233,[.bool]),(234,[.int .i64]),(235,[.int .i64]),(236,[.int .i64]),(237,[.bool]),(238,[.bool]),(239,[.bool]),(240,[.int .i64]),(241,[.int .i64]),(242,[.sl 0]),(244,[.str]),(245,[.str]),(246,[.str]),(247,[.str]),(248,[.bool]),(249,[.sl 0]),(250,[.ag 2]),(251,[.bool]),(252,[.bool]),(253,[.sl 0]),(254,[.bool]),(255,[.int .i64]),(256,[.pk,.int .i64,.str,.str,.int .i64,.dc,.dc,.dc,.dc,.row 35 9]),(257,[.row 0 1000007,.ag 9]),(258,[.str]),(259,[.int .i64]),(260,[.row 0 1000007,.ag 2]),(261,[.ag 9]),(262,[.int .i64]),(263,[.sl 4]),(264,[.ag 9]),(265,[]),(266,[]),(267,[.bool]),(268,[.int .i64,.bool]),(269,[.ag 9]),(270,[.bool]),(271,[.ag 9]),(272,[.pk,.int .i64,.str,.str,.int .i64,.dc,.dc,.dc,.dc,.row 35 9]),(273,[.ag 9]),(274,[.int .i64]),(275,[.int .i64]),(276,[.int .i64]),(277,[.bool]),(278,[.row 9 0]),(279,[.str]),(280,[.bool]),(281,[.bool]),(282,[.str]),(283,[.row 0 1000007,.bool]),(284,[.row 0 1000007]),(285,[.row 0 1000007,.ag 9]),(286,[.row 0 1000007,.ag 9]),(287,[.row 0 1000007,.str]),(288,[.bool]),(291,[.int .i64]),(292,[.ag 9]),(293,[.str]),(294,[.ag 9]),(295,[.str]),(296,[.int .i64]),(297,[.row 0 1000007,.ag 2]),(298,[.row 0 1000007,.ag 9]),(299,[.row 0 1000007,.ag 9]),(300,[.row 0 1000007,.ag 9]),(301,[.int .i64,.bool]),(302,[.int .i64]),(303,[.int .i64]),(304,[.str]),(305,[.int .i64]),(306,[]),(307,[.sl 0,.str]),(308,[.int .i64,.bool]),(309,[.int .i64]),(310,[.int .i64]),(311,[.int .i64]),(312,[.bool]),(313,[.int .i64]),(314,[.int .i64]),(315,[.int .i64]),(338,[])]
theorem mixed:prog.follows .mixedOrders=true:=by kernel_rfl
theorem eE {f:FuncId} {rs:List Sh} {Q:QT rs} {N:Nat} {H:Hint} {args:List PV} {F:Prop} (hc:yo prog f=true) (he:F=zEQ prog sh f rs Q N H 400 args) (h:F):ACalls prog f rs args N Q:=zKB mixed hc he h
theorem bE {f:FuncId} {full:List Sh} {Q:QT full} {N:Nat} {H:Hint} {args:List PV} {bx:List Bx} {F:Env->Prop} (hc:yo prog f=true) (he:∀ E,F E=zEq prog sh f full Q N H 400 args bx E) (h:∀ E,F E):BCalls prog f full args bx N Q:=zJe mixed hc he h
theorem hE {f:FuncId} {rs:List Sh} {Q:QT rs} {N0:Nat} {M:Mode} {H:Hint} {items:List Item} {st:St} {F:Prop} (he:F=pa st fun st=>W prog sh f rs Q N0 M H 400 true items st) (h:F):AT prog f rs Q N0 M items st:=zLf mixed he h
end Go.Proofs.YtmfjakahanbnlaaGreatDoor
