/- The walker: what a function's code comes to, as a formula on ghost values. -/
import Derived.Test.YtnpjpplbkoammaaGreatJg
import Derived.Test.YtnpjpplbkoammaaGreatJe
import Derived.Test.YtnpjpplbkoammaaGreatChecked
set_option linter.unusedVariables false
set_option linter.unusedSimpArgs false
namespace Go.Proofs.YtnpjpplbkoammaaGreat
open Go
variable {av:Nat→Prop} {P:Program} {w0 w w':World} {e0 e:Env} {pS pS' pB pB':List Nat} {a:Act} {st st':St}
def base (f:FuncId):Frame:={ (default:Frame) with fn:=f,kind:=.normal }
/-- from these items on the call ends so -/
def zMM (P:Program) (f:FuncId) (k:List Item) (R:Ending→World→Prop) (a:Act) (w:World):Prop:=
 ∀ cs,∃ e w' fr,R e w'∧Comes P (lone ((base f).at a k) cs w) (lone fr cs w') e∧fr.fn=f∧fr.leaving P w' e
theorem wR {f:FuncId} {k k':List Item} {R:Ending→World→Prop} {a':Act} (hs:∀ cs,step P (lone ((base f).at a k) cs w)=.next (lone ((base f).at a' k') cs w')) (h:zMM P f k' R a' w'):zMM P f k R a w:=
 fun cs=>let ⟨e,w2,fr,h1,h2,h3⟩:=h cs;⟨e,w2,fr,h1,.of_steps (.one (hs cs)) h2,h3⟩
theorem zJT {f:FuncId} {c:Code} {k:List Item} {R:Ending→World→Prop} (h:c.wp P (fun ex a' w'=>ex=.normal∧zMM P f k R a' w') a w):zMM P f (.code c::k) R a w:=fun cs=>by
 obtain ⟨ex,a',w',⟨rfl,hq⟩,harr⟩:=h (base f) k cs
 obtain ⟨e,w2,fr,h1,h2,h3⟩:=hq cs
 exact ⟨e,w2,fr,h1,.of_steps harr h2,h3⟩
theorem zAh {f:FuncId} {fn:Func} {k:List Item} {R:Ending→World→Prop} (hk:k=[]∨∃ k',k=.code .ret::k') (hf:P.funcs[f]?=some fn) (hd:a.defers=[]) {v:Value} (hr:(results fn a.tmps).run P w=.ok v w) (hR:R (.returned v) w):zMM P f k R a w:=fun cs=>by
 rcases hk with rfl | ⟨k',rfl⟩
 ·exact ⟨.returned v,w,_,hR,.one step_end,rfl,rfl,hd,rfl,fn,hf,hr⟩
 ·exact ⟨.returned v,w,_,hR,.one step_ret,rfl,rfl,hd,rfl,fn,hf,hr⟩
theorem tu {f:FuncId} {fn:Func} {c:Code} {args:Array Value} {R:Ending→World→Prop} (hf:P.funcs[f]?=some fn) (hb:fn.body=some c)
  (h:zMM P f [.code c] R { tmps:=args++Array.replicate (fn.ntmps - args.size) undef,defers:=[] } w):Calls P f args w R:=by
 intro cs
 have henter:Frame.enter P f args .normal=(base f).at { tmps:=args++Array.replicate (fn.ntmps - args.size) undef,defers:=[] } [.code c]:=by
  simp [Frame.enter,Frame.at,hf,hb,base]
 rw [henter]
 exact h cs
def uD (st:St):(l:List Sh)→QT l→List Nat→List PV→Prop
 | [],Q,_,ps=>match ps with
   | []=>∀ N,st.N≤N→Q N
   | _=>False
 | .int k::l,Q,us,ps=>match ps with
   | .int k' n::ps=>match decide (k=k') with
     | true=>uD st l (Q n) us ps
     | false=>False
   | _=>False
 | .bool::l,Q,us,ps=>match ps with
   | .bool v::ps=>uD st l (Q v) us ps
   | _=>False
 | .str::l,Q,us,ps=>match ps with
   | .str v::ps=>uD st l (Q v) us ps
   | _=>False
 | .sl z::l,Q,us,ps=>match ps with
   | .sv a z' es c::ps=>match decide (z=z') with
     | true=>uD st l (Q a es c) us ps
     | false=>False
   | _=>False
 | .ag n::l,Q,us,ps=>match ps with
   | p :: ps=>match zIh p with
     | .dg n' x=>match decide (n=n') with
       | true=>uD st l (Q x) us ps
       | false=>False
     | _=>False
   | _=>False
 | .row t z::l,Q,us,ps=>match ps with
   | .sb k z' lo n c::ps=>match st.bx[k]? with
     | some (.arr t' z'' es c')=>match decide (t'=t)&&decide (z'=z)&&decide (z''=z)&&decide (lo=0)&&!us.contains k with
       | true=>(n=es.length∧c=c')∧uD st l (Q es c) (k::us) ps
       | false=>False
     | _=>False
   | .sv none _ [] 0::ps=>uD st l (Q [] 0) us ps
   | _=>False
 | .pk::l,Q,us,ps=>match zQD l with
   | true=>uD st l Q us ps
   | false=>False
 | .dc::l,Q,us,ps=>match ps with
   | p::ps=>match q8 p with
     | some x=>uD st l (Q x) us ps
     | none=>False
   | _=>False
 | .bk j::l,Q,us,ps=>match ps with
   | p::ps=>match q8 p with
     | some x=>uD st l (Q x) us ps
     | none=>False
   | _=>False
/-- the rows that go along with the results -/
abbrev Sel:=List (Option Nat × Bx)
def Sel.rows (s:Sel):List Bx:=s.map (·.2)
def Sel.env (e:Env) (s:Sel):Env:=s.map fun x=>x.1.bind e.at
structure SelOk (st:St) (us:List Nat) (s:Sel):Prop where
 at_:∀ x∈s,(x.1=none∧∃ t z,x.2=.arr t z [] 0)∨∃ k t z es c,x.1=some k∧st.bx[k]?=some x.2∧x.2=.arr t z es c
 nd:(s.filterMap (·.1)).Nodup
 un:∀ k∈s.filterMap (·.1),k∉us
/-- a result, and the ghost value that is told of it -/
def zIo:PV→Bool
 | .int ..=>true
 | .bool ..=>true
 | .str ..=>true
 | .sv ..=>true
 | .dg ..=>true
 | _=>false
def zRs:PV→Bool
 | .sb ..=>true
 | .dc ..=>true
 | _=>false
def zSZ (w:World) (e:Env) (live:Nat→Prop) (E:Env) (p q:PV):Prop:=p.val e=q.val1 E∧(p.Ok w live→q.Ok w live)∧p≠.any∧(zIo p=true→q=p∨zRs q=true)
theorem yE (h:Rel av w0 e0 [] [] a w e st):∀ (l:List Sh) (Q:QT l) (us:List Nat) (ps:List PV) (b:Nat),uD st l Q us ps→(∀ p∈ps,p.Ok w (zY av [] e st.bx)∨zIo p=true) →
  ∃ qs s,QT.app l Q b qs (Sel.rows s) w.heap.size∧SelOk st us s∧qs.length=ps.length ∧
    ∀ (E:Env),E.length=b→∀ (i:Nat) (p q:PV),ps[i]?=some p→qs[i]?=some q→zSZ w e (zY av [] e st.bx) (E++s.env e) p q
 | [],Q,us,ps,b,hs,_=>by
   cases ps with
   | nil=>exact ⟨[],[],hs _ h.hN,⟨by simp,by simp,by simp⟩,rfl,by simp⟩
   | cons=>exact hs.elim
 | .int k::l,Q,us,ps,b,hs,hok=>by
   cases ps with
   | nil=>exact hs.elim
   | cons p ps=>
     cases p<;>simp only [uD] at hs<;>try exact hs.elim
     rename_i k' n
     cases hk:decide (k=k') with
     | true=>
       rw [hk] at hs
       obtain ⟨qs,s,h1,h2,h3,h4⟩:=yE h l _ us ps b hs (fun p hp=>hok p (by simp [hp]))
       refine ⟨.int k n::qs,s,⟨rfl,h1⟩,h2,by simp [h3],fun E hE i p q hp hq=>?_⟩
       cases i with
       | zero=>simp at hp hq hk;subst hp;subst hq;subst hk;exact ⟨rfl,id,by simp,fun _=>.inl rfl⟩
       | succ i=>exact h4 E hE i p q (by simpa using hp) (by simpa using hq)
     | false=>rw [hk] at hs;exact hs.elim
 | .bool::l,Q,us,ps,b,hs,hok=>by
   cases ps with
   | nil=>exact hs.elim
   | cons p ps=>
     cases p<;>simp only [uD] at hs<;>try exact hs.elim
     rename_i n
     obtain ⟨qs,s,h1,h2,h3,h4⟩:=yE h l _ us ps b hs (fun p hp=>hok p (by simp [hp]))
     refine ⟨.bool n::qs,s,h1,h2,by simp [h3],fun E hE i p q hp hq=>?_⟩
     cases i with
     | zero=>simp at hp hq;subst hp;subst hq;exact ⟨rfl,id,by simp,fun _=>.inl rfl⟩
     | succ i=>exact h4 E hE i p q (by simpa using hp) (by simpa using hq)
 | .str::l,Q,us,ps,b,hs,hok=>by
   cases ps with
   | nil=>exact hs.elim
   | cons p ps=>
     cases p<;>simp only [uD] at hs<;>try exact hs.elim
     rename_i n
     obtain ⟨qs,s,h1,h2,h3,h4⟩:=yE h l _ us ps b hs (fun p hp=>hok p (by simp [hp]))
     refine ⟨.str n::qs,s,h1,h2,by simp [h3],fun E hE i p q hp hq=>?_⟩
     cases i with
     | zero=>simp at hp hq;subst hp;subst hq;exact ⟨rfl,id,by simp,fun _=>.inl rfl⟩
     | succ i=>exact h4 E hE i p q (by simpa using hp) (by simpa using hq)
 | .sl z::l,Q,us,ps,b,hs,hok=>by
   cases ps with
   | nil=>exact hs.elim
   | cons p ps=>
     cases p<;>simp only [uD] at hs<;>try exact hs.elim
     rename_i ad z' es c
     cases hz:decide (z=z') with
     | true=>
       rw [hz] at hs
       simp at hz;subst hz
       obtain ⟨qs,s,h1,h2,h3,h4⟩:=yE h l _ us ps b hs (fun p hp=>hok p (by simp [hp]))
       refine ⟨.sv ad z es c::qs,s,⟨rfl,h1⟩,h2,by simp [h3],fun E hE i p q hp hq=>?_⟩
       cases i with
       | zero=>simp at hp hq;subst hp;subst hq;exact ⟨rfl,id,by simp,fun _=>.inl rfl⟩
       | succ i=>exact h4 E hE i p q (by simpa using hp) (by simpa using hq)
     | false=>rw [hz] at hs;exact hs.elim
 | .ag n::l,Q,us,ps,b,hs,hok=>by
   cases ps with
   | nil=>exact hs.elim
   | cons p ps=>
     simp only [uD] at hs
     split at hs
     rotate_left
     ·exact hs.elim
     rename_i n' x hnp
     split at hs
     rotate_left
     ·exact hs.elim
     rename_i hz
     simp at hz;subst hz
     obtain ⟨qs,s,h1,h2,h3,h4⟩:=yE h l _ us ps b hs (fun p hp=>hok p (by simp [hp]))
     refine ⟨.dg n x::qs,s,⟨rfl,h1⟩,h2,by simp [h3],fun E hE i r q hp hq=>?_⟩
     cases i with
     | zero=>
       simp at hp hq;subst hp;subst hq
       rcases hok p (by simp) with hokp | hdx
       rotate_left
       ·cases p<;>simp [zIo] at hdx<;>simp [zIh] at hnp
        rw [hnp.1,hnp.2]
        exact ⟨rfl,id,by simp,fun _=>.inl rfl⟩
       have hte:=zB4 (e:=e) hokp
       rw [hnp] at hte
       rcases hte with h5 | ⟨h8,h6,h7,_⟩
       ·cases h5
       ·refine ⟨h6,h7,h8,fun hx=>.inl ?_⟩
        cases p<;>simp [zIo] at hx<;>simp [zIh] at hnp
        rw [hnp.1,hnp.2]
     | succ i=>exact h4 E hE i r q (by simpa using hp) (by simpa using hq)
 | .row t z::l,Q,us,ps,b,hs,hok=>by
   cases ps with
   | nil=>exact hs.elim
   | cons p ps=>
     simp only [uD] at hs
     split at hs
     ·rename_i k z' lo n c ps' hps
      cases hps
      split at hs
      ·rename_i t' z'' es c' hk
       split at hs
       rotate_left
       ·exact hs.elim
       rename_i hc
       simp only [Bool.and_eq_true,decide_eq_true_eq,Bool.not_eq_true'] at hc
       obtain ⟨⟨⟨⟨ht1,hz1⟩,hz2⟩,hlo⟩,hun⟩:=hc
       subst ht1;subst hz1;subst hz2;subst hlo
       obtain ⟨⟨rfl,rfl⟩,hs⟩:=hs
       obtain ⟨qs,s,h1,h2,h3,h4⟩:=yE h l _ (k::us) ps (b+1) hs (fun p hp=>hok p (by simp [hp]))
       refine ⟨.sb b z'' 0 es.length c::qs,(some k,.arr t' z'' es c)::s,⟨⟨rfl,rfl,rfl,rfl,rfl,rfl,rfl⟩,h1⟩,⟨fun x hx=>?_,?_,fun j hj=>?_⟩,by simp [h3],fun E hE i r q hp hq=>?_⟩
       ·rcases List.mem_cons.1 hx with rfl | hx
        ·exact .inr ⟨k,t',z'',es,c,rfl,hk,rfl⟩
        ·exact h2.at_ x hx
       ·simp only [List.filterMap_cons]
        exact List.nodup_cons.2 ⟨fun hc=>h2.un k hc (by simp),h2.nd⟩
       ·simp only [List.filterMap_cons] at hj
        rcases List.mem_cons.1 hj with rfl | hj
        ·intro hc;simp [hc] at hun
        ·exact fun hc=>h2.un j hj (by simp [hc])
       ·have hat:Env.at (E++Sel.env e ((some k,Bx.arr t' z'' es c)::s)) b=e.at k:=by
         simp [Sel.env,Env.at,List.getD_eq_getElem?_getD,←hE]
        cases i with
        | zero=>
          simp at hp hq;subst hp;subst hq
          refine ⟨?_,id,by simp,fun _=>.inr rfl⟩
          simp only [PV.val,PV.val1,PV.cv,hat]
        | succ i=>
          have:=h4 (E++[e.at k]) (by simp [hE]) i r q (by simpa using hp) (by simpa using hq)
          simpa [Sel.env] using this
      ·exact hs.elim
     ·rename_i zz ps' hps
      cases hps
      obtain ⟨qs,s,h1,h2,h3,h4⟩:=yE h l _ us ps (b+1) hs (fun p hp=>hok p (by simp [hp]))
      refine ⟨.sb b z 0 0 0::qs,(none,.arr t z [] 0)::s,⟨⟨rfl,rfl,rfl,rfl,rfl,rfl,rfl⟩,h1⟩,⟨fun x hx=>?_,?_,fun j hj=>?_⟩,by simp [h3],fun E hE i r q hp hq=>?_⟩
      ·rcases List.mem_cons.1 hx with rfl | hx
       ·exact .inl ⟨rfl,t,z,rfl⟩
       ·exact h2.at_ x hx
      ·simpa using h2.nd
      ·exact h2.un j (by simpa using hj)
      ·have hat:Env.at (E++Sel.env e (((none:Option Nat),Bx.arr t z [] 0)::s)) b=none:=by
        simp [Sel.env,Env.at,List.getD_eq_getElem?_getD,←hE]
       cases i with
       | zero=>
         simp at hp hq;subst hp;subst hq
         refine ⟨?_,fun _=>trivial,by simp,fun _=>.inr rfl⟩
         simp [PV.val,PV.val1,PV.cv,hat]
       | succ i=>
         have:=h4 (E++[none]) (by simp [hE]) i r q (by simpa using hp) (by simpa using hq)
         simpa [Sel.env] using this
     ·exact hs.elim
 | .pk::l,Q,us,ps,b,hs,hok=>by
   simp only [uD] at hs
   split at hs
   ·rename_i hk
    obtain ⟨qs,s,h1,h2,h3,h4⟩:=yE h l Q us ps b hs hok
    exact ⟨qs,s,⟨hk,h1⟩,h2,h3,h4⟩
   ·exact hs.elim
 | .dc :: l,Q,us,ps,b,hs,hok=>by
   cases ps with
   | nil=>exact hs.elim
   | cons p ps=>
     simp only [uD] at hs
     split at hs
     rotate_left
     ·exact hs.elim
     rename_i x hx
     obtain ⟨qs,s,h1,h2,h3,h4⟩:=yE h l _ us ps b hs (fun p hp=>hok p (by simp [hp]))
     refine ⟨.dc x::qs,s,h1,h2,by simp [h3],fun E hE i r q hp hq=>?_⟩
     cases i with
     | zero=>
       simp at hp hq;subst hp;subst hq
       have hv:p.val e=p.cv e:=by cases p<;>first | rfl | (simp [q8] at hx)
       have hcv:x.cv=p.cv e:=by
        rcases hok p (by simp) with hokp | hdx
        ·exact (xo (e:=e) hx hokp).2.2.1
        ·cases p<;>simp [zIo] at hdx<;>simp [q8] at hx<;>subst hx<;>rfl
       refine ⟨by rw [hv,←hcv];rfl,fun hp=>?_,fun hc=>by subst hc;simp [q8] at hx,fun _=>.inr rfl⟩
       obtain ⟨g1,g2,_⟩:=xo (e:=e) hx hp
       exact ⟨g1,g2⟩
     | succ i=>exact h4 E hE i r q (by simpa using hp) (by simpa using hq)
 | .bk j::l,Q,us,ps,b,hs,hok=>by
   cases ps with
   | nil=>exact hs.elim
   | cons p ps=>
     simp only [uD] at hs
     split at hs
     rotate_left
     ·exact hs.elim
     rename_i x hx
     obtain ⟨qs,s,h1,h2,h3,h4⟩:=yE h l _ us ps b hs (fun p hp=>hok p (by simp [hp]))
     refine ⟨.dc x::qs,s,h1,h2,by simp [h3],fun E hE i r q hp hq=>?_⟩
     cases i with
     | zero=>
       simp at hp hq;subst hp;subst hq
       have hv:p.val e=p.cv e:=by cases p<;>first | rfl | (simp [q8] at hx)
       have hcv:x.cv=p.cv e:=by
        rcases hok p (by simp) with hokp | hdx
        ·exact (xo (e:=e) hx hokp).2.2.1
        ·cases p<;>simp [zIo] at hdx<;>simp [q8] at hx<;>subst hx<;>rfl
       refine ⟨by rw [hv,←hcv];rfl,fun hp=>?_,fun hc=>by subst hc;simp [q8] at hx,fun _=>.inr rfl⟩
       obtain ⟨g1,g2,_⟩:=xo (e:=e) hx hp
       exact ⟨g1,g2⟩
     | succ i=>exact h4 E hE i r q (by simpa using hp) (by simpa using hq)
theorem zM2 (h:Rel av w0 [] [] [] a w e st) {s:Sel} (hs:SelOk st [] s):Mem av [] w (s.env e) s.rows∧(∀ b,zY av [] (s.env e) s.rows b→zY av [] e st.bx b)∧∀ (k b:Nat),(s.env e).at k=some b→w0.heap.size≤b:=by
 have hget:∀ (j:Nat) (x:Option Nat × Bx),s[j]?=some x→(s.env e).at j=x.1.bind e.at:=fun j x hj=>by simp [Sel.env,Env.at,List.getD_eq_getElem?_getD,hj]
 have hrow:∀ (j:Nat) (B:Bx),s.rows[j]?=some B→∃ x,s[j]?=some x∧x.2=B:=fun j B hj=>by
  simp only [Sel.rows,List.getElem?_map] at hj
  cases hx:s[j]? with
  | none=>simp [hx] at hj
  | some x=>simp [hx] at hj;exact ⟨x,rfl,hj⟩
 have hat:∀ (j b:Nat),(s.env e).at j=some b→∃ x k,s[j]?=some x∧x.1=some k∧Lives [] e st.bx k b:=fun j b hj=>by
  cases hx:s[j]? with
  | none=>simp [Sel.env,Env.at,List.getD_eq_getElem?_getD,hx] at hj
  | some x=>
    rw [hget j x hx] at hj
    rcases hs.at_ x (List.mem_of_getElem? hx) with ⟨h1,_⟩ | ⟨k,t,z,es,c,h1,h2,h3⟩
    ·rw [h1] at hj;cases hj
    ·rw [h1] at hj
     exact ⟨x,k,rfl,h1,by simp,hj,x.2,h2,by rw [h3];simp⟩
 have hlive:∀ b,zY av [] (s.env e) s.rows b→zY av [] e st.bx b:=fun b hb=>hb.imp id fun ⟨j,hj⟩=>by
  obtain ⟨_,k,_,_,h3⟩:=hat j b hj.2.1
  exact ⟨k,h3⟩
 refine ⟨{ el:=by simp [Sel.env,Sel.rows],br:=fun j B hj _=>?_,bo:=fun j B hj _=>?_,bf:=fun j B hj _ i hi=>?_,inj:=fun i j b hi hj=>?_ },hlive,fun j b hj=>?_⟩
 ·obtain ⟨x,hx,rfl⟩:=hrow j B hj
  rw [hget j x hx]
  rcases hs.at_ x (List.mem_of_getElem? hx) with ⟨h1,t,z,h2⟩ | ⟨k,t,z,es,c,h1,h2,h3⟩
  ·rw [h1,h2];exact .inl ⟨rfl,rfl,rfl⟩
  ·rw [h1]
   refine (h.br k _ h2 (by simp)).congr (fun _ _=>rfl) fun i hi=>?_
   rw [h3] at hi;simp [Bx.refs] at hi
 ·obtain ⟨x,hx,rfl⟩:=hrow j B hj
  rcases hs.at_ x (List.mem_of_getElem? hx) with ⟨h1,t,z,h2⟩ | ⟨k,t,z,es,c,h1,h2,h3⟩
  ·rw [h2];intro y hy;simp at hy
  ·exact (h.bo k _ h2 (by simp)).mono (fun _ _ _=>rfl) (Nat.le_refl _) fun b _=>hlive b
 ·obtain ⟨x,hx,rfl⟩:=hrow j B hj
  rcases hs.at_ x (List.mem_of_getElem? hx) with ⟨h1,t,z,h2⟩ | ⟨k,t,z,es,c,h1,h2,h3⟩
  ·rw [h2] at hi;simp [Bx.refs] at hi
  ·rw [h3] at hi;simp [Bx.refs] at hi
 ·obtain ⟨x,k,h1,h2,h3⟩:=hat i b hi.2.1
  obtain ⟨y,l,g1,g2,g3⟩:=hat j b hj.2.1
  have hkl:=h.inj k l b h3 g3
  subst hkl
  -- no box goes along twice
  have key:∀ (s:Sel) (i j:Nat) (x y:Option Nat × Bx),(s.filterMap (·.1)).Nodup→s[i]?=some x→s[j]?=some y→x.1=some k→y.1=some k→i=j:=by
   intro s
   induction s with
   | nil=>intro i j x y _ hx;simp at hx
   | cons u s ih=>
     intro i j x y hn hx hy hxk hyk
     have hn':(s.filterMap (·.1)).Nodup:=by
      cases hu:u.1 with
      | none=>simpa [hu] using hn
      | some m=>simp only [List.filterMap_cons,hu] at hn;exact (List.nodup_cons.1 hn).2
     have hnm:u.1=some k→k∉s.filterMap (·.1):=fun hu=>by
      simp only [List.filterMap_cons,hu] at hn
      exact (List.nodup_cons.1 hn).1
     cases i with
     | zero=>
       simp at hx;subst hx
       cases j with
       | zero=>rfl
       | succ j=>simp at hy;exact absurd (List.mem_filterMap.2 ⟨y,List.mem_of_getElem? hy,hyk⟩) (hnm hxk)
     | succ i=>
       simp at hx
       cases j with
       | zero=>simp at hy;subst hy;exact absurd (List.mem_filterMap.2 ⟨x,List.mem_of_getElem? hx,hxk⟩) (hnm hyk)
       | succ j=>simp at hy;rw [ih i j x y hn' hx hy hxk hyk]
  exact key s i j x y hs.nd h1 g1 h2 g2
 ·obtain ⟨_,k,_,_,h3⟩:=hat j b hj
  rcases h.own k b h3 with h4 | h4
  ·exact h4
  ·simp at h4
def zKe:ResultVar→Nat
 | .tmp t=>t
 | .cell a _=>a
/-- the results, read -/
def zP9 (P:Program) (st:St):List ResultVar→(List PV→Prop)→Prop
 | [],K=>K []
 | .tmp t::l,K=>zP9 P st l fun ps=>K (st.sl.getD t .any::ps)
 | .cell a t::l,K=>zAo P (opd st.sl) (fun k=>st.bx[k]?) (.load t (.tmp a)) t fun p=>zP9 P st l fun ps=>K (p::ps)
def zHe:Sh→Bool
 | .row ..=>true
 | .dc=>true
 | .bk _=>true
 | _=>false
/-- the slots of the results that are told as snapshots -/
def zRQ:List Sh→List Nat→List Nat
 | .pk::_,_=>[]
 | s::l,t::ts=>match zHe s with
   | true=>zRQ l ts
   | false=>t::zRQ l ts
 | _,_=>[]
/-- the cells of the one result -/
def zNb (pk:Bool) (ps:List PV):List PV:=match pk with
 | true=>match ps with
   | [.pg cs]=>cs
   | _=>[.any]
 | false=>ps
def zRe (P:Program) (f:FuncId) (rs:List Sh) (Q:QT rs) (N0:Option Nat) (st:St):Prop:=
 match P.funcs[f]? with
 | some fn=>qz N0 #[] [] (zRQ rs (fn.results.toList.map zKe)) (fn.results.toList.map zKe) st fun st=>zP9 P st fn.results.toList fun ps=>uD st rs Q [] (zNb (zOp rs) (ze P fn.resultTypes.toList ps))
 | none=>False
def zKU (tmps:Array Value) (r:ResultVar):Sem Value:=match r with
 | .tmp t=>pure (tmps.getD t undef)
 | .cell a t=>do loadVar t (←asAddr (tmps.getD a undef))
theorem zO2 (tmps:Array Value):(fun (r:ResultVar)=>match r with
 | .tmp t=>(pure (tmps.getD t undef):Sem Value)
 | .cell a t=>do loadVar t (←asAddr (tmps.getD a undef)))=zKU tmps:=by funext r;cases r<;>rfl
theorem ta (h:Rel av w0 e0 [] [] a w e st):∀ (l:List ResultVar) (K:List PV→Prop),zP9 P st l K→∃ vs ps,K ps∧(l.mapM (zKU a.tmps)).run P w=.ok vs w∧vs.length=l.length∧ps.length=l.length ∧
  ∀ (i:Nat) (v:Value) (p:PV),vs[i]?=some v→ps[i]?=some p→ValOk av w e [] st.bx v p
 | [],K,hK=>⟨[],[],hK,by simp,rfl,rfl,by simp⟩
 | .tmp t::l,K,hK=>by
   obtain ⟨vs,ps,h1,h2,h3,h4,h5⟩:=ta h l _ hK
   have hv:ValOk av w e [] st.bx (a.eval (.tmp t)) (opd st.sl (.tmp t)):=(xb h (x:=.tmp t) (by simp)).valOk
   refine ⟨a.tmps.getD t undef::vs,st.sl.getD t .any::ps,h1,?_,by simp [h3],by simp [h4],fun i v p hv' hp=>?_⟩
   ·simp [zKU,h2]
   ·cases i with
    | zero=>simp only [List.getElem?_cons_zero,Option.some.injEq] at hv' hp;subst hv';subst hp;exact hv
    | succ i=>exact h5 i v p (by simpa using hv') (by simpa using hp)
 | .cell c t::l,K,hK=>by
   simp only [zP9] at hK
   have ho:∀ x∈(Op.load t (.tmp c)).operands,OpdOk av a w e [] st.bx x (opd st.sl x):=fun x hx=>xb h (by simp)
   obtain ⟨v0, p0, g1, g2, g3⟩ := zBQ (o := ⟨none, .load t (.tmp c), t, "", #[], none⟩) h.toMem ho (fun k B hk => ⟨hk, by simp⟩) hK
   obtain ⟨vs,ps,h1,h2,h3,h4,h5⟩:=ta h l _ g2
   have hrun:(zKU a.tmps (.cell c t)).run P w=.ok v0 w:=by
    simp only [execOp] at g1
    have he:a.eval (.tmp c)=a.tmps.getD c undef:=rfl
    rw [he] at g1
    simp only [zKU]
    cases hv:a.tmps.getD c undef with
    | pointer p=>
      cases p with
      | none=>rw [hv] at g1;simp [Instr.loadAt,Instr.sureAddr] at g1
      | some ad=>
        rw [hv] at g1
        simp [Instr.loadAt,Instr.sureAddr,asAddr] at g1 ⊢
        generalize (loadVar t ad).run P w=r at g1 ⊢
        cases r with
        | ok x w1=>simp at g1 ⊢;exact g1
        | halt x w1=>simp at g1
    | _=>rw [hv] at g1;simp [Instr.loadAt,Instr.sureAddr] at g1
   refine ⟨v0::vs,p0::ps,h1,?_,by simp [h3],by simp [h4],fun i v p hv' hp=>?_⟩
   ·rw [List.mapM_cons]
    simp only [Sem.run_bind,hrun,Result.andThen_ok,h2,Sem.run_pure]
   ·cases i with
    | zero=>simp only [List.getElem?_cons_zero,Option.some.injEq] at hv' hp;subst hv';subst hp;exact g3
    | succ i=>exact h5 i v p (by simpa using hv') (by simpa using hp)
def zRX (vs:List Value):Value:=match vs with
 | [v]=>v
 | vs=>.tuple vs.toArray
theorem sg {fn:Func} {vs:List Value} {tmps:Array Value} (h:(fn.results.toList.mapM (zKU tmps)).run P w=.ok vs w) :
  (results fn tmps).run P w=.ok (zRX vs) w:=by
 unfold results
 have he:∀ F:ResultVar→Sem Value,F=zKU tmps→((do
   let vs ←fn.results.mapM F
   pure (if h:vs.size=1 then vs[0] else .tuple vs):Sem Value)).run P w=.ok (zRX vs) w:=fun F hF=>by
  subst hF
  rw [Array.mapM_eq_mapM_toList]
  simp [h]
  rcases vs with _ | ⟨t,_ | ⟨u,ts⟩⟩<;>simp [zRX]
 exact he _ (zO2 tmps)
theorem zKz {e:Env} {p:PV} (h:p.isC):p.val e=p.cv e:=by
 cases p<;>first | rfl | exact h.elim | skip
 rename_i x
 cases x<;>first | rfl | (simp [PV.isC,D.isCell] at h)
theorem zLm {e:Env} {p:PV} (h:p.isC):p.val1 e=p.cv e:=by
 have:=zKz (e:=e) h
 cases p<;>first | exact this | exact h.elim
theorem zLx (h:Rel av w0 [] [] [] a w e st) {f:FuncId} {rs:List Sh} {Q:QT rs} {k:List Item} (hk:k=[]∨∃ k',k=.code .ret::k') {N0:Option Nat} (hN0:NOk N0 w0) (hs:zRe P f rs Q N0 st):zMM P f k (Fin rs Q av w0) a w:=by
 unfold zRe at hs
 split at hs
 rotate_left
 ·exact hs.elim
 rename_i fn hf
 obtain ⟨st1,T,h1,_,_,h2⟩:=va h hN0 (by simp) hs
 obtain ⟨vs,ps,h1,hrun,hvl,hpl,hvp⟩:=ta h2 _ _ h1
 -- the results, as told
 have hres:∀ (i:Nat) (p:PV),(ze P fn.resultTypes.toList ps)[i]?=some p→∃ v,vs[i]?=some v∧ValOk av w e [] st1.bx v p:=fun i p hp=>by
  obtain ⟨q,hq,hqp⟩:=s6 _ _ _ _ hp
  have hlt:i<vs.length:=by rw [hvl,←hpl];exact (List.getElem?_eq_some_iff.1 hq).1
  have hv:=hvp i _ q (List.getElem?_eq_getElem hlt) hq
  refine ⟨_,List.getElem?_eq_getElem hlt,?_⟩
  rcases hqp with rfl | ⟨ty,rfl⟩
  ·exact hv
  ·exact hv.retag ty
 cases hpk:zOp rs with
 | true =>
   rw [hpk] at h1
   have hpg:∃ cs,ze P fn.resultTypes.toList ps=[.pg cs]:=by
    by_cases hc:∃ cs,ze P fn.resultTypes.toList ps=[.pg cs]
    ·exact hc
    ·exfalso
     have hp:zNb true (ze P fn.resultTypes.toList ps)=[.any]:=by
      simp only [zNb]
      split
      ·rename_i cs hcs;exact absurd ⟨cs,hcs⟩ hc
      ·rfl
     rw [hp] at h1
     cases rs with
     | nil=>simp [zOp] at hpk
     | cons s l=>
       cases s<;>simp [zOp] at hpk
       simp only [uD] at h1
       split at h1
       ·rename_i hk
        cases l with
        | nil=>exact h1.elim
        | cons s l=>
          cases s<;>simp only [uD] at h1<;>first | exact h1.elim | (simp [zQD] at hk)
       ·exact h1.elim
   obtain ⟨cs,hcs⟩:=hpg
   rw [hcs] at h1 hres
   simp only [zNb] at h1
   obtain ⟨v,hv0,hvo⟩:=hres 0 (.pg cs) rfl
   have hvl1:vs=[v]:=by
    have h5:vs.length=1:=by have h6:=congrArg List.length hcs;rw [wT] at h6;rw [hvl,←hpl,h6];rfl
    rcases vs with _ | ⟨u,_ | _⟩<;>simp at h5 hv0
    subst hv0;rfl
   have hok:=hvo.2.1
   simp only [PV.Ok] at hok
   obtain ⟨hokL,hisC⟩:=hok
   rw [PV.OkL_iff] at hokL
   obtain ⟨qs,s,g1,g2,g3,g4⟩:=yE h2 rs Q [] _ 0 h1 (fun p hp=>.inl (hokL p hp))
   obtain ⟨m1,m2,m3⟩:=zM2 h2 g2
   have hqC:=QT.app_pk hpk g1
   refine zAh hk hf h2.nd (sg hrun) ⟨qs,s.rows,s.env e,g1,?_,m1,fun q hq=>?_,m3,h2.size,fun b hb=>h2.old b hb (by simp),fun b c t z hb hc=>h2.fz b c t z (.inl hb) hc,h2.ku⟩
   ·rw [hvl1,hpk]
    simp only [zRX,zMq]
    rw [hvo.1.resolve_left (by simp)]
    simp only [PV.val,PV.val1,PV.cvs_eq]
    congr 2
    apply List.ext_getElem?
    intro i
    rw [List.getElem?_map,List.getElem?_map]
    cases hq:qs[i]? with
    | none=>rw [show cs[i]?=none from List.getElem?_eq_none (by rw [←g3];exact List.getElem?_eq_none_iff.1 hq)];rfl
    | some q=>
      have hlt:i<cs.length:=by rw [←g3];exact (List.getElem?_eq_some_iff.1 hq).1
      have hp:=List.getElem?_eq_getElem hlt
      rw [hp]
      simp only [Option.map_some,Option.some.injEq]
      have h5:=g4 [] rfl i _ q hp hq
      rw [←zKz (hisC _ (List.mem_of_getElem? hp)),h5.1,zLm (hqC q (List.mem_of_getElem? hq))]
      rfl
   ·obtain ⟨i,hi⟩:=List.mem_iff_getElem?.1 hq
    have hlt:i<cs.length:=by rw [←g3];exact (List.getElem?_eq_some_iff.1 hi).1
    have hp:=List.getElem?_eq_getElem hlt
    exact PV.Ok.mono (fun _ _ _=>rfl) (Nat.le_refl _) (fun b _=>m2 b) q ((g4 [] rfl i _ q hp hi).2.1 (hokL _ (List.mem_of_getElem? hp)))
 | false=>
 rw [hpk] at h1
 simp only [zNb] at h1
 obtain ⟨qs,s,g1,g2,g3,g4⟩:=yE h2 rs Q [] _ 0 h1 (fun p hp=>by
  obtain ⟨i,hi⟩:=List.mem_iff_getElem?.1 hp
  obtain ⟨t,_,hv⟩:=hres i p hi
  exact .inl hv.2.1)
 obtain ⟨m1,m2,m3⟩:=zM2 h2 g2
 have hlen:qs.length=vs.length:=by rw [g3,wT,hpl,hvl]
 refine zAh hk hf h2.nd (sg hrun) ⟨qs,s.rows,s.env e,g1,?_,m1,fun q hq=>?_,m3,h2.size,fun b hb=>h2.old b hb (by simp),fun b c t z hb hc=>h2.fz b c t z (.inl hb) hc,h2.ku⟩
 ·-- the values
  have hv:vs=qs.map (PV.val1 (s.env e)):=by
   apply List.ext_getElem?
   intro i
   rw [List.getElem?_map]
   cases hq:qs[i]? with
   | none=>
     have:vs[i]?=none:=List.getElem?_eq_none (by rw [←hlen];exact List.getElem?_eq_none_iff.1 hq)
     rw [this];rfl
   | some q=>
     have hlt:i<(ze P fn.resultTypes.toList ps).length:=by rw [←g3];exact (List.getElem?_eq_some_iff.1 hq).1
     have hp:=List.getElem?_eq_getElem hlt
     obtain ⟨v,hv,hvo⟩:=hres i _ hp
     rw [hv]
     simp only [Option.map_some,Option.some.injEq]
     have h5:=g4 [] rfl i _ q hp hq
     rw [hvo.1.resolve_left h5.2.2.1,h5.1]
     rfl
  rw [hv,hpk]
  simp only [zMq]
  unfold zNR
  rcases qs with _ | ⟨q,_ | ⟨r,qs⟩⟩<;>rfl
 ·obtain ⟨i,hi⟩:=List.mem_iff_getElem?.1 hq
  have hlt:i<(ze P fn.resultTypes.toList ps).length:=by rw [←g3];exact (List.getElem?_eq_some_iff.1 hi).1
  have hp:=List.getElem?_eq_getElem hlt
  obtain ⟨t,ht,hvo⟩:=hres i _ hp
  exact PV.Ok.mono (fun _ _ _=>rfl) (Nat.le_refl _) (fun b _=>m2 b) q ((g4 [] rfl i _ q hp hi).2.1 hvo.2.1)
variable {av:Nat→Prop} {P:Program} {w0 w w':World} {e0 e:Env} {pS pS' pB pB':List Nat} {a:Act} {st st':St}
mutual
def w6:PV→PV→Bool
 | .any,.any=>true
 | .pb k z i o,.pb k' z' i' o'=>Nat.beq k k'&&Nat.beq z z'&&Nat.beq i i'&&Nat.beq o o'
 | .fn f l,.fn f' l'=>Nat.beq f f'&&zBr l l'
 | _,_=>false
def zBr:List PV→List PV→Bool
 | [],[]=>true
 | p::ps,q::qs=>w6 p q&&zBr ps qs
 | _,_=>false
end
mutual
theorem zIJ:∀ {p q:PV},w6 p q=true→p=q
 | .any,q,h=>by cases q<;>simp [w6] at h ⊢
 | .pb k z i o,q,h=>by
   cases q<;>simp [w6] at h
   obtain ⟨⟨⟨h1,h2⟩,h3⟩,h4⟩:=h
   rw [h1,h2,h3,h4]
 | .fn f l,q,h=>by
   cases q<;>simp [w6] at h
   rw [h.1,zFn h.2]
 | .int ..,q,h=>by simp [w6] at h
 | .bool ..,q,h=>by simp [w6] at h
 | .str ..,q,h=>by simp [w6] at h
 | .lit ..,q,h=>by simp [w6] at h
 | .sv ..,q,h=>by simp [w6] at h
 | .d ..,q,h=>by simp [w6] at h
 | .dc ..,q,h=>by simp [w6] at h
 | .dg ..,q,h=>by simp [w6] at h
 | .pd ..,q,h=>by simp [w6] at h
 | .sb ..,q,h=>by simp [w6] at h
 | .pg ..,q,h=>by simp [w6] at h
 | .tp ..,q,h=>by simp [w6] at h
theorem zFn:∀ {p q:List PV},zBr p q=true→p=q
 | [],q,h=>by cases q<;>simp [zBr] at h ⊢
 | p :: ps,q,h=>by
   cases q with
   | nil=>simp [zBr] at h
   | cons q qs=>
     simp [zBr] at h
     rw [zIJ h.1,zFn h.2]
end
/-- the boxes have the form that they had -/
def zR0 (all:List Bx) (q p:PV) (K:Prop):Prop:=match zCd q with
 | some _=>match zCd p with
   | some _=>K
   | none=>False
 | none=>match q,p with
   | .sb k z lo _ _,.sb k' z' lo' n c=>match Nat.beq k k'&&Nat.beq z z'&&Nat.beq lo lo' with
     | true=>match all[k]? with
       | some (.arr _ _ es c')=>(n=es.length∧c=c')∧K
       | _=>False
     | false=>False
   | q,p=>match w6 q p with
     | true=>K
     | false=>False
def zQP (all:List Bx):List PV→List PV→Prop→Prop
 | [],[],K=>K
 | q::qs,p::ps,K=>zR0 all q p (zQP all qs ps K)
 | _,_,_=>False
def zRF (all:List Bx) (B0 B:Bx) (K:Prop):Prop:=match B0,B with
 | .var cs0,.var cs=>zQP all cs0 cs K
 | .vd _ n,.vd _ n'=>match Nat.beq n n' with
   | true=>K
   | false=>False
 | .arr t z _ _,.arr t' z' _ _=>match Nat.beq t t'&&Nat.beq z z' with
   | true=>K
   | false=>False
 | _,_=>False
def zQN (all:List Bx):List Bx→List Bx→Prop→Prop
 | [],[],K=>K
 | B0::b0,B::bs,K=>zRF all B0 B (zQN all b0 bs K)
 | _,_,_=>False
theorem zNs {all:List Bx} {q p:PV} {K:Prop} (h:zR0 all q p K):K∧(((∃ s,zCd q=some s)∧∃ s,zCd p=some s)∨(zCd q=none∧zCd p=none ∧
  ∀ all':List Bx,(∀ (k:Nat) t z es c,all[k]?=some (.arr t z es c)→all'[k]?=some (.arr t z es c))→zQu all' q=p)):=by
 unfold zR0 at h
 split at h
 ·rename_i s hs
  split at h
  ·rename_i s' hs'
   exact ⟨h,.inl ⟨⟨s,hs⟩,s',hs'⟩⟩
  ·exact h.elim
 ·rename_i hq
  split at h
  ·rename_i k z lo n0 c0 k' z' lo' n c
   split at h
   ·rename_i hk
    simp only [Bool.and_eq_true] at hk
    obtain ⟨⟨h1,h2⟩,h3⟩:=hk
    have h1:=Nat.eq_of_beq_eq_true h1
    have h2:=Nat.eq_of_beq_eq_true h2
    have h3:=Nat.eq_of_beq_eq_true h3
    subst h1;subst h2;subst h3
    split at h
    ·rename_i t zz es c' ha
     obtain ⟨⟨rfl,rfl⟩,hK⟩:=h
     refine ⟨hK,.inr ⟨rfl,rfl,fun all' hall=>?_⟩⟩
     simp only [zQu,hall _ _ _ _ _ ha]
    ·exact h.elim
   ·exact h.elim
  ·rename_i hne
   split at h
   ·rename_i hs
    have he:=zIJ hs
    subst he
    refine ⟨h,.inr ⟨hq,hq,fun all' _=>?_⟩⟩
    cases q<;>first | rfl | simp [w6] at hs
   ·exact h.elim
theorem zBY {all:List Bx}:∀ {cs0 cs:List PV} {K:Prop},zQP all cs0 cs K→K∧∀ rest:List PV,(zJq cs0 (zMa cs++rest)).2=rest ∧
  ∀ all':List Bx,(∀ (k:Nat) t z es c,all[k]?=some (.arr t z es c)→all'[k]?=some (.arr t z es c))→(zJq cs0 (zMa cs++rest)).1.map (zQu all')=cs
 | [],[],K,h=>⟨h,fun rest=>⟨rfl,fun _ _=>rfl⟩⟩
 | [],_::_,K,h=>h.elim
 | _::_,[],K,h=>h.elim
 | q::qs,p::ps,K,h=>by
   obtain ⟨h1,h2⟩:=zNs h
   obtain ⟨h3,h4⟩:=zBY h1
   refine ⟨h3,fun rest=>?_⟩
   obtain ⟨h5,h6⟩:=h4 rest
   rcases h2 with ⟨⟨s,hs⟩,s',hs'⟩ | ⟨hq,hp,hfix⟩
   ·simp only [zJq,hs,zMa,hs',List.cons_append]
    refine ⟨h5,fun all' hall=>?_⟩
    rw [List.map_cons,h6 all' hall]
    congr 1
    cases p<;>simp [zCd] at hs'<;>rfl
   ·simp only [zJq,hq,zMa,hp]
    exact ⟨h5,fun all' hall=>by rw [List.map_cons,h6 all' hall,hfix all' hall]⟩
theorem zIN {all:List Bx}:∀ {b0 bs:List Bx} {K:Prop},zQN all b0 bs K→K∧∀ rest:List PV,(∀ (k:Nat) t z es c,bs[k]?=some (.arr t z es c)→(zLQ b0 (zEr bs++rest))[k]?=some (.arr t z es c)) ∧
  ∀ all':List Bx,(∀ (k:Nat) t z es c,all[k]?=some (.arr t z es c)→all'[k]?=some (.arr t z es c))→(zLQ b0 (zEr bs++rest)).map (zRE all')=bs
 | [],[],K,h=>⟨h,fun rest=>⟨by simp,fun _ _=>rfl⟩⟩
 | [],_::_,K,h=>h.elim
 | _::_,[],K,h=>h.elim
 | B0 :: b0,B::bs,K,h=>by
   simp only [zQN] at h
   have key:∀ (K':Prop),zRF all B0 B K'→K'∧∀ rest:List PV,(zKl B0 (zML B++rest)).2=rest∧(∀ t z es c,B=.arr t z es c→(zKl B0 (zML B++rest)).1=.arr t z es c) ∧
     ∀ all':List Bx,(∀ (k:Nat) t z es c,all[k]?=some (.arr t z es c)→all'[k]?=some (.arr t z es c))→zRE all' (zKl B0 (zML B++rest)).1=B:=fun K' h=>by
    unfold zRF at h
    split at h
    ·rename_i cs0 cs
     obtain ⟨h1,h2⟩:=zBY h
     refine ⟨h1,fun rest=>⟨(h2 rest).1,fun _ _ _ _ hc=>(by cases hc),fun all' hall=>?_⟩⟩
     simp only [zKl,zRE,zML,(h2 rest).2 all' hall]
    ·rename_i x n y n'
     split at h
     ·rename_i hn
      have hn:=Nat.eq_of_beq_eq_true hn
      subst hn
      exact ⟨h,fun rest=>⟨rfl,fun _ _ _ _ hc=>(by cases hc),fun _ _=>rfl⟩⟩
     ·exact h.elim
    ·rename_i t z es0 c0 t' z' es c
     split at h
     ·rename_i hn
      simp only [Bool.and_eq_true] at hn
      have h1:=Nat.eq_of_beq_eq_true hn.1
      have h2:=Nat.eq_of_beq_eq_true hn.2
      subst h1;subst h2
      exact ⟨h,fun rest=>⟨rfl,fun _ _ _ _ hc=>(by cases hc;rfl),fun _ _=>rfl⟩⟩
     ·exact h.elim
    ·exact h.elim
   obtain ⟨h1,h2⟩:=key _ h
   obtain ⟨h3,h4⟩:=zIN h1
   refine ⟨h3,fun rest=>?_⟩
   have e1:zEr (B::bs)++rest=zML B++(zEr bs++rest):=by simp [zEr]
   rw [e1]
   obtain ⟨h5,h6,h7⟩:=h2 (zEr bs++rest)
   obtain ⟨h8,h9⟩:=h4 rest
   simp only [zLQ,h5]
   refine ⟨fun k t z es c hk=>?_,fun all' hall=>by rw [List.map_cons,h7 all' hall,h9 all' hall]⟩
   cases k with
   | zero=>simp at hk ⊢;exact h6 _ _ _ _ hk
   | succ k=>simp only [List.getElem?_cons_succ] at hk ⊢;exact h8 k _ _ _ _ hk
theorem zNQ {all:List Bx}:∀ {b0 bs:List Bx} {K:Prop},zQN all b0 bs K→∀ B∈bs,B≠.gone
 | [],[],K,h=>by simp
 | [],_::_,K,h=>h.elim
 | _::_,[],K,h=>h.elim
 | B0::b0,B::bs,K,h=>by
   simp only [zQN] at h
   have key:∀ K',zRF all B0 B K'→B≠.gone∧K':=fun K' h=>by
    unfold zRF at h
    split at h
    ·exact ⟨by simp,(zBY h).1⟩
    ·split at h
     ·exact ⟨by simp,h⟩
     ·exact h.elim
    ·split at h
     ·exact ⟨by simp,h⟩
     ·exact h.elim
    ·exact h.elim
   obtain ⟨h1,h2⟩:=key _ h
   intro C hC
   rcases List.mem_cons.1 hC with rfl | hC
   ·exact h1
   ·exact zNQ h2 C hC
theorem zOF {b0 bs:List Bx} {K:Prop} (h:zQN bs b0 bs K):K∧zH3 b0 (zEr bs)=bs:=by
 obtain ⟨h1,h2⟩:=zIN h
 obtain ⟨h3,h4⟩:=h2 []
 rw [List.append_nil] at h3 h4
 exact ⟨h1,h4 _ h3⟩
def rY (E:Env):Nat→List Bx→List (Option Nat)
 | _,[]=>[]
 | k,B::bs=>(match B with
   | .var _=>some ((E.at k).getD 0)
   | .vd _ _=>some ((E.at k).getD 0)
   | _=>none)::rY E (k+1) bs
theorem qC {E:Env}:∀ (bs:List Bx) (k:Nat),(rY E k bs).length=bs.length
 | [],k=>rfl
 | B::bs,k=>by simp [rY,qC bs]
theorem zJH {E:Env}:∀ (bs:List Bx) (k j:Nat) (B:Bx),bs[j]?=some B→B.isArr=false→(rY E k bs)[j]?=some (some ((E.at (k+j)).getD 0))
 | B::bs,k,0,B',h,ha=>by simp at h;subst h;cases B<;>simp [Bx.isArr] at ha<;>simp [rY]
 | B::bs,k,j+1,B',h,ha=>by
   simp only [List.getElem?_cons_succ] at h
   simp only [rY,List.getElem?_cons_succ]
   rw [zJH bs (k+1) j B' h ha,show k+1+j=k+(j+1) by omega]
/-- the first boxes lie where they lay -/
def zQA (p:Option (List (Option Nat) × List Nat)) (E:Env) (bx0:List Bx):Prop:=p=some (rY E 0 bx0,[])
def zRy (E:Env) (bx0:List Bx):Prop:=zQA (some (rY E 0 bx0,[])) E bx0
theorem zSC {E:Env} {bx0:List Bx}:zRy E bx0:=rfl
def zQn:List Sh→Bool
 | []=>true
 | .pk::_=>false
 | _::l=>zQn l
def zP8 (st:St) (m:Nat):List Nat:=(zAA st.bx 200 (List.range m) []).filter fun k=>zQ6 st k&&Nat.ble m k
def zMP (full:List Sh) (ps:List PV):List PV:=match full with
 | .bk _::_=>[.int .i64 0]
 | _=>ps
/-- what is returned is the whole slice of a box that was handed in -/
def zRt (st:St) (m:Nat) (full:List Sh) (ps:List PV) (K:Prop):Prop:=match full with
 | .bk j::_=>match ps with
   | [.sb k z lo n c]=>match st.bx[j]? with
     | some (.arr _ z' es c')=>match Nat.beq k j&&Nat.beq lo 0&&Nat.beq z z'&&Nat.blt j m with
       | true=>(n=es.length∧c=c')∧K
       | false=>False
     | _=>False
   | _=>False
 | _=>K
theorem zN0 {m:Nat} {full:List Sh} {ps:List PV} {K:Prop} (h:zRt st m full ps K):K∧(((∀ j l,full≠.bk j::l)∧zMP full ps=ps)∨∃ j l t z es c,full=.bk j::l∧ps=[.sb j z 0 es.length c]∧st.bx[j]?=some (.arr t z es c)∧j<m∧zMP full ps=[.int .i64 0]):=by
 unfold zRt at h
 split at h
 ·rename_i j l
  split at h
  ·rename_i k z lo n c
   split at h
   ·rename_i t z' es c' hj
    split at h
    ·rename_i hb
     simp only [Bool.and_eq_true] at hb
     obtain ⟨⟨⟨h1,h2⟩,h3⟩,h4⟩:=hb
     have h1:=Nat.eq_of_beq_eq_true h1
     have h2:=Nat.eq_of_beq_eq_true h2
     have h3:=Nat.eq_of_beq_eq_true h3
     subst h1;subst h2;subst h3
     obtain ⟨⟨rfl,rfl⟩,hK⟩:=h
     exact ⟨hK,.inr ⟨_,_,_,_,_,_,rfl,rfl,hj,by simpa [Nat.blt_eq] using h4,rfl⟩⟩
    ·exact h.elim
   ·exact h.elim
  ·exact h.elim
 ·rename_i hn
  refine ⟨h,.inl ⟨fun j l hc=>hn j l hc,?_⟩⟩
  unfold zMP
  split
  ·exact absurd rfl (hn _ _)
  ·rfl
def zRz (full:List Sh):List Sh:=match full with
 | .bk _::l=>.row 0 0::l
 | l=>l
def zR4 (P:Program) (f:FuncId) (full:List Sh) (Q:QT full) (N0:Option Nat) (E:Env) (bx0:List Bx) (st:St):Prop:=
 match P.funcs[f]? with
 | some fn=>qz N0 #[] [] (zRQ (zRz full) (fn.results.toList.map zKe)) (fn.results.toList.map zKe) st fun st=>zJU N0 [] [] (zP8 st bx0.length) st fun st=>
  zQA st.pin E bx0∧zQN (st.bx.take bx0.length) bx0 (st.bx.take bx0.length) (zP9 P st fn.results.toList fun ps=>match Nat.beq fn.resultTypes.size fn.results.size&&((full.drop fn.resultTypes.size).all fun s=>!zHe s)&&(bx0.all fun B=>B.refs.all fun i=>decide (i<bx0.length))&&zQn full with
  | true=>zRt st bx0.length full (ze P fn.resultTypes.toList ps) (uD st full Q (List.range bx0.length) (zMP full (ze P fn.resultTypes.toList ps)++zEr (st.bx.take bx0.length)))
  | false=>False)
 | none=>False
theorem zGn:∀ {cs:List PV} {p:PV},p∈zMa cs→p∈cs∧zIo p=true∧p.refs=[]
 | q :: cs,p,h=>by
   simp only [zMa] at h
   split at h
   ·rename_i s hs
    rcases List.mem_cons.1 h with rfl | h
    ·refine ⟨by simp,?_⟩
     cases p<;>simp [zCd] at hs<;>exact ⟨rfl,rfl⟩
    ·obtain ⟨h1,h2⟩:=zGn h
     exact ⟨by simp [h1],h2⟩
   ·obtain ⟨h1,h2⟩:=zGn h
    exact ⟨by simp [h1],h2⟩
theorem zNw {s:Sh} {l:List Sh} (h:zQn (s::l)=true):s≠.pk∧zQn l=true:=by cases s<;>simp [zQn] at h<;>exact ⟨by simp,h⟩
theorem QT.app_plainrow:∀ (l:List Sh) (Q:QT l) (b:Nat) (ps:List PV) (rows:List Bx) (N:Nat),zQn l=true→QT.app l Q b ps rows N→ps.length=l.length∧∀ (i:Nat) (s:Sh) (p:PV),l[i]?=some s→zHe s=false→ps[i]?=some p→zRs p=false
 | [],Q,b,ps,rows,N,hn,h=>by
   cases ps<;>cases rows<;>simp [QT.app] at h ⊢
 | s :: l,Q,b,ps,rows,N,hn,h=>by
   obtain ⟨hs,hn⟩:=zNw hn
   cases ps with
   | nil=>cases s<;>first | exact absurd rfl hs | (simp [QT.app] at h;done)
   | cons p ps=>
     have key:(∃ (Q':QT l) (b':Nat) (rows':List Bx),QT.app l Q' b' ps rows' N)∧(zHe s=false→zRs p=false):=by
      cases s<;>(try (exact absurd rfl hs))<;>cases p<;>(try (exact h.elim))<;>(try (simp [QT.app] at h;done))<;>first
       | exact ⟨⟨_,_,_,h⟩,fun _=>rfl⟩
       | exact ⟨⟨_,_,_,h⟩,fun hc=>by cases hc⟩
       | exact ⟨⟨_,_,_,h.2⟩,fun _=>rfl⟩
       | skip
      cases rows with
      | nil=>simp [QT.app] at h
      | cons B rows=>
        cases B<;>first
         | exact ⟨⟨_,b+1,_,h.2⟩,fun hc=>by cases hc⟩
         | (simp [QT.app] at h;done)
     obtain ⟨⟨Q',b',rows',h'⟩,hp⟩:=key
     obtain ⟨h1,h2⟩:=QT.app_plainrow l Q' b' ps rows' N hn h'
     refine ⟨by simp [h1],fun i s' p' hs hr hp'=>?_⟩
     cases i with
     | zero=>simp at hs hp';subst hs;subst hp';exact hp hr
     | succ i=>exact h2 i s' p' (by simpa using hs) hr (by simpa using hp')
theorem zMD {E:Env} (h:Rel av w0 E [] [] a w e st) {f:FuncId} {full:List Sh} {Q:QT full} {k:List Item} (hk:k=[]∨∃ k',k=.code .ret::k') {N0:Option Nat} (hN0:NOk N0 w0) {bx0:List Bx} (hs:zR4 P f full Q N0 E bx0 st):zMM P f k (zR2 full Q (zQi P f) av w0 E bx0) a w:=by
 unfold zR4 at hs
 split at hs
 rotate_left
 ·exact hs.elim
 rename_i fn hf
 obtain ⟨st0,T,h0,_,_,h1⟩:=va h hN0 (by simp) hs
 obtain ⟨st1,h2,_,h3⟩:=qh hN0 (by simp) (by simp) _ _ h1 (by simp) h0
 obtain ⟨hpin,h2⟩:=h2
 unfold zQA at hpin
 have hgn:=zNQ h2
 obtain ⟨h2,hupd⟩:=zOF h2
 obtain ⟨vs,ps,h2,hrun,hvl,hpl,hvp⟩:=ta h3 _ _ h2
 split at h2
 rotate_left
 ·exact h2.elim
 rename_i hbool
 simp only [Bool.and_eq_true,List.all_eq_true,Bool.not_eq_true',decide_eq_true_eq] at hbool
 obtain ⟨⟨⟨hrt,hrow⟩,hclosed⟩,hnpk⟩:=hbool
 have hrt:=Nat.eq_of_beq_eq_true hrt
 obtain ⟨h2,hbk⟩:=zN0 h2
 have hpins:st1.pins=rY E 0 bx0:=by simp [St.pins,hpin]
 have hns:∀ p∈zEr (st1.bx.take bx0.length),zIo p=true∧p.refs=[]:=fun p hp=>by
  simp only [zEr,List.mem_flatMap] at hp
  obtain ⟨B,_,hp⟩:=hp
  cases B<;>simp only [zML] at hp
  ·exact (zGn hp).2
  ·simp at hp;subst hp;exact ⟨rfl,rfl⟩
  ·simp at hp;subst hp;exact ⟨rfl,rfl⟩
  ·simp at hp
 obtain ⟨ul,ug⟩:=zGr bx0 (zEr (st1.bx.take bx0.length)) fun p hp=>(hns p hp).2
 rw [hupd] at ul ug
 have hm:bx0.length≤st1.bx.length:=by rw [List.length_take] at ul;omega
 have hgn:∀ (k:Nat) (B:Bx),k<bx0.length→st1.bx[k]?=some B→B≠.gone:=fun k B hk hB=>hgn B (List.mem_of_getElem? (i:=k) (by rw [List.getElem?_take];simp [hk,hB]))
 have htk:∀ j,j<bx0.length→(st1.bx.take bx0.length)[j]?=st1.bx[j]?:=fun j hj=>by rw [List.getElem?_take];simp [hj]
 have hrefs:∀ (j:Nat) (B:Bx),j<bx0.length→st1.bx[j]?=some B→∀ i∈B.refs,i<bx0.length:=fun j B hj hB i hi=>by
  obtain ⟨B1,g1,g2,_⟩:=ug j B (by rw [htk j hj];exact hB)
  exact hclosed B1 (List.mem_of_getElem? g1) i (g2 i hi)
 -- the results, as told
 have hres:∀ (i:Nat) (p:PV),(ze P fn.resultTypes.toList ps)[i]?=some p→∃ v,vs[i]?=some v∧ValOk av w e [] st1.bx v p:=fun i p hp=>by
  obtain ⟨q,hq,hqp⟩:=s6 _ _ _ _ hp
  have hlt:i<vs.length:=by rw [hvl,←hpl];exact (List.getElem?_eq_some_iff.1 hq).1
  have hv:=hvp i _ q (List.getElem?_eq_getElem hlt) hq
  refine ⟨_,List.getElem?_eq_getElem hlt,?_⟩
  rcases hqp with rfl | ⟨ty,rfl⟩
  ·exact hv
  ·exact hv.retag ty
 have hprOk:∀ p∈zMP full (ze P fn.resultTypes.toList ps),p.Ok w (zY av [] e st1.bx):=fun p hp=>by
  rcases hbk with ⟨_,g⟩ | ⟨j,l,t,z,es,c,_,_,_,_,g⟩
  ·rw [g] at hp
   obtain ⟨i,hi⟩:=List.mem_iff_getElem?.1 hp
   obtain ⟨t,_,hv⟩:=hres i p hi
   exact hv.2.1
  ·rw [g] at hp
   rw [List.mem_singleton] at hp
   subst hp;trivial
 obtain ⟨qs,s,g1,g2,g3,g4⟩:=yE h3 full Q (List.range bx0.length) _ bx0.length h2 (fun p hp=>by
  rcases List.mem_append.1 hp with hp | hp
  ·exact .inl (hprOk p hp)
  ·exact .inr (hns p hp).1)
 have hn0:(ze P fn.resultTypes.toList ps).length=fn.resultTypes.size:=by rw [wT,hpl,hrt];simp
 have hn:(zMP full (ze P fn.resultTypes.toList ps)).length=fn.resultTypes.size:=by
  rcases hbk with ⟨_,g⟩ | ⟨j,l,t,z,es,c,_,g2,_,_,g⟩
  ·rw [g];exact hn0
  ·rw [g,←hn0,g2];rfl
 have hvn:vs.length=fn.resultTypes.size:=by rw [hvl,hrt];simp
 obtain ⟨hql,hqrow⟩:=QT.app_plainrow _ _ _ _ _ _ hnpk g1
 have hel:bx0.length≤e.length:=by rw [h3.el];exact hm
 have hEl:(e.take bx0.length).length=bx0.length:=by simp;omega
 have hqx:qs.drop fn.resultTypes.size=zEr (st1.bx.take bx0.length):=by
  apply List.ext_getElem?
  intro i
  rw [List.getElem?_drop]
  cases hx:(zEr (st1.bx.take bx0.length))[i]? with
  | none=>
    refine List.getElem?_eq_none ?_
    rw [g3,List.length_append,hn]
    have:=List.getElem?_eq_none_iff.1 hx
    omega
  | some p=>
    have hlt:fn.resultTypes.size+i<qs.length:=by
     rw [g3,List.length_append,hn]
     have:=(List.getElem?_eq_some_iff.1 hx).1
     omega
    have hq:=List.getElem?_eq_getElem hlt
    have hp:(zMP full (ze P fn.resultTypes.toList ps)++zEr (st1.bx.take bx0.length))[fn.resultTypes.size+i]?=some p:=by
     rw [List.getElem?_append_right (by omega),hn];simpa using hx
    have ht:=(g4 _ hEl _ p _ hp hq).2.2.2 (hns p (List.mem_of_getElem? hx)).1
    have hlf:fn.resultTypes.size+i<full.length:=by rw [←hql];exact hlt
    have hsb:=hqrow (fn.resultTypes.size+i) _ _ (List.getElem?_eq_getElem hlf) (hrow _ (List.mem_of_getElem? (i:=i) (by rw [List.getElem?_drop,List.getElem?_eq_getElem hlf]))) hq
    rcases ht with ht | ht
    ·rw [hq,ht]
    ·rw [hsb] at ht;cases ht
 have hqs:qs=qs.take fn.resultTypes.size++zEr (st1.bx.take bx0.length):=by rw [←hqx];exact (List.take_append_drop _ _).symm
 have hql1:(qs.take fn.resultTypes.size).length=fn.resultTypes.size:=by
  rw [List.length_take,g3,List.length_append,hn];omega
 -- the boxes that go along
 have hne:((List.range bx0.length).map some++s.map (·.1)).map (fun u=>Option.bind u e.at)=e.take bx0.length++s.env e:=by
  rw [List.map_append]
  congr 1
  ·apply List.ext_getElem?
   intro i
   by_cases hi:i<bx0.length
   ·rw [List.getElem?_take]
    have:i<e.length:=by omega
    simp [hi,Env.at,List.getD_eq_getElem?_getD,this]
   ·rw [List.getElem?_eq_none (by simp;omega),List.getElem?_eq_none (by simp;omega)]
  ·simp [Sel.env]
 have hatk:∀ k,k<bx0.length→Env.at (e.take bx0.length++s.env e) k=e.at k:=fun k hk=>by
  rw [Env.at_app,if_pos (by rw [hEl];exact hk)]
  simp [Env.at,List.getD_eq_getElem?_getD,List.getElem?_take,hk]
 have hus:∀ (j:Nat) u,((List.range bx0.length).map some++s.map (·.1))[j]?=some u→(j<bx0.length∧u=some j)∨∃ x,s[j - bx0.length]?=some x∧bx0.length≤j∧u=x.1:=fun j u hj=>by
  by_cases hlt:j<bx0.length
  ·rw [List.getElem?_append_left (by simpa using hlt)] at hj
   simp [hlt] at hj
   exact .inl ⟨hlt,hj.symm⟩
  ·rw [List.getElem?_append_right (by simp;omega)] at hj
   simp only [List.length_map,List.length_range,List.getElem?_map] at hj
   cases hx:s[j - bx0.length]? with
   | none=>simp [hx] at hj
   | some x=>simp [hx] at hj;exact .inr ⟨x,rfl,by omega,hj.symm⟩
 have hnb:∀ (j:Nat) (B:Bx),(st1.bx.take bx0.length++s.rows)[j]?=some B→(j<bx0.length∧st1.bx[j]?=some B)∨∃ x,s[j - bx0.length]?=some x∧bx0.length≤j∧B=x.2:=fun j B hj=>by
  by_cases hlt:j<bx0.length
  ·rw [List.getElem?_append_left (by rw [ul];exact hlt),htk j hlt] at hj
   exact .inl ⟨hlt,hj⟩
  ·rw [List.getElem?_append_right (by rw [ul];omega),ul] at hj
   simp only [Sel.rows,List.getElem?_map] at hj
   cases hx:s[j - bx0.length]? with
   | none=>simp [hx] at hj
   | some x=>simp [hx] at hj;exact .inr ⟨x,rfl,by omega,hj.symm⟩
 have hsel:∀ (i:Nat) x k,s[i]?=some x→x.1=some k→bx0.length≤k∧∃ B,st1.bx[k]?=some B∧B≠.gone:=fun i x k hx hk=>by
  refine ⟨?_,?_⟩
  ·have:=g2.un k (List.mem_filterMap.2 ⟨x,List.mem_of_getElem? hx,hk⟩)
   simpa using this
  ·rcases g2.at_ x (List.mem_of_getElem? hx) with ⟨h5,_⟩ | ⟨k2,t,z,es,c,h5,h6,h7⟩
   ·rw [h5] at hk;cases hk
   ·rw [hk] at h5;cases h5
    exact ⟨x.2,h6,by rw [h7];simp⟩
 obtain ⟨m1,m2,m3⟩:=zHm (us:=(List.range bx0.length).map some++s.map (·.1)) (nb:=st1.bx.take bx0.length++s.rows) (av':=av) h3.toMem (fun b hb=>.inl hb) (by simp [Sel.rows,ul])
  (fun i j k hi hj=>by
   rcases hus i _ hi with ⟨a1,a2⟩ | ⟨x,a1,a2,a3⟩<;>rcases hus j _ hj with ⟨b1,b2⟩ | ⟨y,b1,b2,b3⟩
   ·cases a2;cases b2;rfl
   ·cases a2;have:=(hsel _ y _ b1 b3.symm).1;omega
   ·cases b2;have:=(hsel _ x _ a1 a3.symm).1;omega
   ·have key:∀ (s:Sel) (i j:Nat) (x y:Option Nat × Bx),(s.filterMap (·.1)).Nodup→s[i]?=some x→s[j]?=some y→x.1=some k→y.1=some k→i=j:=by
     intro s
     induction s with
     | nil=>intro i j x y _ hx;simp at hx
     | cons u s ih=>
       intro i j x y hn hx hy hxk hyk
       have hn':(s.filterMap (·.1)).Nodup:=by
        cases hu:u.1 with
        | none=>simpa [hu] using hn
        | some m=>simp only [List.filterMap_cons,hu] at hn;exact (List.nodup_cons.1 hn).2
       have hnm:u.1=some k→k∉s.filterMap (·.1):=fun hu=>by
        simp only [List.filterMap_cons,hu] at hn
        exact (List.nodup_cons.1 hn).1
       cases i with
       | zero=>
         simp at hx;subst hx
         cases j with
         | zero=>rfl
         | succ j=>simp at hy;exact absurd (List.mem_filterMap.2 ⟨y,List.mem_of_getElem? hy,hyk⟩) (hnm hxk)
       | succ i=>
         simp at hx
         cases j with
         | zero=>simp at hy;subst hy;exact absurd (List.mem_filterMap.2 ⟨x,List.mem_of_getElem? hx,hxk⟩) (hnm hyk)
         | succ j=>simp at hy;rw [ih i j x y hn' hx hy hxk hyk]
    have:=key s _ _ x y g2.nd a1 b1 a3.symm b3.symm
    omega)
  (fun j B hj=>by
   rcases hnb j B hj with ⟨a1,a2⟩ | ⟨x,a1,a2,rfl⟩
   ·refine .inr ⟨j,B,?_,by simp,a2,⟨?_⟩⟩
    ·rw [List.getElem?_append_left (by simpa using a1)];simp [a1]
    ·rw [hne]
     cases B with
     | var cs=>
       refine .inr (.inr ⟨cs,cs,rfl,rfl,rfl,fun i q hq=>.inr ⟨q,hq,id,?_,fun _ _=>id,id,fun r hr=>?_⟩⟩)
       ·have hr:∀ r∈q.refs,r<bx0.length:=fun r hr=>hrefs j _ a1 a2 r (by simp only [Bx.refs];exact PV.refsL_mem.2 ⟨q,List.mem_of_getElem? hq,hr⟩)
        exact (PV.cv_congr q fun r hr2=>hatk r (hr r hr2)).symm
       ·have:=hrefs j _ a1 a2 r (by simp only [Bx.refs];exact PV.refsL_mem.2 ⟨q,List.mem_of_getElem? hq,hr⟩)
        simp;omega
     | _=>exact .inr (.inl ⟨rfl,by simp⟩)
   ·have hjs:((List.range bx0.length).map some++s.map (·.1))[j]?=some x.1:=by
     rw [List.getElem?_append_right (by simp;omega)];simp [a1]
    rcases g2.at_ x (List.mem_of_getElem? a1) with ⟨h5,t,z,h6⟩ | ⟨k2,t,z,es,c,h5,h6,h7⟩
    ·exact .inl ⟨by rw [hjs,h5],t,z,h6⟩
    ·exact .inr ⟨k2,x.2,by rw [hjs,h5],by simp,h6,⟨.inr (.inl ⟨rfl,by rw [h7];simp⟩)⟩⟩)
 rw [hne] at m1 m2 m3
 have hng:∀ k b,k<bx0.length→e.at k=some b→Lives [] e st1.bx k b:=fun k b hk hb=>by
  obtain ⟨B,hB⟩:∃ B,st1.bx[k]?=some B:=⟨_,List.getElem?_eq_getElem (by omega)⟩
  exact ⟨by simp,hb,B,hB,hgn k B hk hB⟩
 refine zAh hk hf h3.nd (sg hrun) ⟨qs.take fn.resultTypes.size,zEr (st1.bx.take bx0.length),s.rows,e.take bx0.length++s.env e,?_,{
  q:=by rw [←hqs];exact g1
  v:=?_
  m:=by rw [hupd];exact m1
  ok:=fun q hq=>?_
  fix:=fun k B hB ha=>?_
  fresh:=fun k b hb=>?_
  size:=h3.size
  old:=h3.old
  fz:=h3.fz
  ku:=h3.ku
  ns:=fun p hp=>(hns p hp).2
  be:=zG8 h3.toMem rfl fun B hB=>List.mem_of_mem_take hB }⟩
 ·rw [hql1];simp [zQi,hf]
 ·rcases hbk with ⟨gn,gp⟩ | ⟨j,l,t,z,es,c,gf,gps,gj,gm,gp⟩
  ·rw [zDt gn]
   rw [gp] at g4 g3
   have hv:vs=(qs.take fn.resultTypes.size).map (PV.val1 (e.take bx0.length++s.env e)):=by
    apply List.ext_getElem?
    intro i
    rw [List.getElem?_map]
    by_cases hi:i<fn.resultTypes.size
    ·have hlt:i<(qs.take fn.resultTypes.size).length:=by omega
     have hq:=List.getElem?_eq_getElem hlt
     have hq2:qs[i]?=some (qs.take fn.resultTypes.size)[i]:=by
      rw [←hq,List.getElem?_take];simp [hi]
     have hp:(ze P fn.resultTypes.toList ps)[i]?=some (ze P fn.resultTypes.toList ps)[i]:=List.getElem?_eq_getElem (by omega)
     obtain ⟨v,hv,hvo⟩:=hres i _ hp
     have hp2:(ze P fn.resultTypes.toList ps++zEr (st1.bx.take bx0.length))[i]?=some (ze P fn.resultTypes.toList ps)[i]:=by rw [List.getElem?_append_left (by omega)];exact hp
     have h5:=g4 _ hEl i _ _ hp2 hq2
     rw [hv,hq,hvo.1.resolve_left h5.2.2.1,h5.1]
     rfl
    ·rw [List.getElem?_eq_none (by omega),List.getElem?_eq_none (by omega)];rfl
   rw [hv]
   simp only [zMq]
   unfold zNR
   rcases qs.take fn.resultTypes.size with _ | ⟨q,_ | ⟨r,qs⟩⟩<;>rfl
  ·have h1:(ze P fn.resultTypes.toList ps)[0]?=some (.sb j z 0 es.length c):=by rw [gps];rfl
   obtain ⟨v,hv,hvo⟩:=hres 0 _ h1
   have hlen:vs.length=1:=by rw [hvn,←hn0,gps];rfl
   have hvs:vs=[v]:=by
    match vs,hlen with
    | [v'],_=>simp at hv;rw [hv]
   have hUj:(zH3 bx0 (zEr (st1.bx.take bx0.length)))[j]?=some (.arr t z es c):=by rw [hupd,htk j gm];exact gj
   rw [hvs,gf]
   simp only [zN4,hUj,PV.cv,hatk j gm]
   have:=hvo.1.resolve_left (by simp)
   rw [this]
   rfl
 ·rw [hupd]
  obtain ⟨i,hi⟩:=List.mem_iff_getElem?.1 hq
  have hlt:=(List.getElem?_eq_some_iff.1 hi).1
  rw [hql1] at hlt
  have hq2:qs[i]?=some q:=by rw [←hi,List.getElem?_take];simp [hlt]
  have hp:(zMP full (ze P fn.resultTypes.toList ps))[i]?=some (zMP full (ze P fn.resultTypes.toList ps))[i]:=List.getElem?_eq_getElem (by omega)
  have hvo:=hprOk _ (List.mem_of_getElem? hp)
  have hp2:(zMP full (ze P fn.resultTypes.toList ps)++zEr (st1.bx.take bx0.length))[i]?=some (zMP full (ze P fn.resultTypes.toList ps))[i]:=by rw [List.getElem?_append_left (by omega)];exact hp
  exact PV.Ok.mono (fun _ _ _=>rfl) (Nat.le_refl _) (fun b _=>m2 b) q ((g4 _ hEl i _ _ hp2 hq2).2.1 hvo)
 ·have hkl:=(List.getElem?_eq_some_iff.1 hB).1
  have h5:=zJH (E:=E) bx0 0 k B hB ha
  rw [←hpins,Nat.zero_add] at h5
  rw [hatk k hkl]
  exact (h3.pin k _ h5).1
 ·by_cases hkl:k<bx0.length
  ·rw [hatk k hkl] at hb
   rcases h3.own k b (hng k b hkl hb) with h5 | ⟨h5,_⟩
   ·exact .inl h5
   ·exact .inr ⟨hkl,h5⟩
  ·rw [Env.at_app,if_neg (by omega),hEl] at hb
   cases hx:s[k - bx0.length]? with
   | none=>simp [Sel.env,Env.at,List.getD_eq_getElem?_getD,hx] at hb
   | some x=>
     simp only [Sel.env,Env.at,List.getD_eq_getElem?_getD,List.getElem?_map,hx,Option.map_some,Option.getD_some] at hb
     cases hxk:x.1 with
     | none=>rw [hxk] at hb;cases hb
     | some k2=>
       rw [hxk] at hb
       obtain ⟨h5,B,h6,h7⟩:=hsel _ x k2 hx hxk
       rcases h3.own k2 b ⟨by simp,hb,B,h6,h7⟩ with h8 | ⟨_,h8⟩
       ·exact .inl h8
       ·rw [hpins,qC] at h8;omega
variable {av:Nat→Prop} {P:Program} {w0 w w':World} {e0 e:Env} {pS pS' pB pB':List Nat} {a:Act} {st st':St}
/-- the row lies where it lay -/
def zRc (p:Option (List (Option Nat) × List Nat)) (E:Env):Prop:=p=some ([E.at 0],[])
def zFX (E:Env):Prop:=zRc (some ([E.at 0],[])) E
def zQY (P:Program) (f:FuncId) (full:List Sh) (Q:QT full) (E:Env) (t:TypeId) (z n c:Nat) (st:St):Prop:=match P.funcs[f]? with
 | some fn=>match Nat.beq fn.results.size 0 with
   | true=>match full,Q with
     | [.sl z'],Q=>match st.bx with
       | .arr t' z'' ds c'::_=>match Nat.beq t t'&&Nat.beq z z'&&Nat.beq z z'' with
         | true=>zRc st.pin E∧(ds.length=n∧c'=c)∧∀ N,st.N≤N→Q none ds c N
         | false=>False
       | _=>False
     | _,_=>False
   | false=>False
 | none=>False
/-- what is known of the row that is handed in -/
def OkX (E:Env) (n c:Nat):Prop:=E.length=1∧(E.at 0=none→n=0∧c=0)
def zSH (full:List Sh) (Q:QT full) (av:Nat→Prop) (w0:World) (E:Env) (t:TypeId) (z n c:Nat) (en:Ending) (w:World):Prop:=OkX E n c→zR8 full Q av w0 E t z n c en w
theorem zJl {E:Env} (h:Rel av w0 E [] [] a w e st) {f:FuncId} {full:List Sh} {Q:QT full} {k:List Item} (hk:k=[]∨∃ k',k=.code .ret::k') {t:TypeId} {z n c:Nat}
  (hs:zQY P f full Q E t z n c st):zMM P f k (zSH full Q av w0 E t z n c) a w:=by
 unfold zQY at hs
 split at hs
 rotate_left
 ·exact hs.elim
 rename_i fn hf
 split at hs
 rotate_left
 ·exact hs.elim
 rename_i hr0
 split at hs
 rotate_left
 ·exact hs.elim
 rename_i full' z' Q
 split at hs
 rotate_left
 ·exact hs.elim
 rename_i t' z'' ds c' bs hbx
 split at hs
 rotate_left
 ·exact hs.elim
 rename_i hb
 simp only [Bool.and_eq_true] at hb
 obtain ⟨⟨h1,h2⟩,h3⟩:=hb
 have h1:=Nat.eq_of_beq_eq_true h1
 have h2:=Nat.eq_of_beq_eq_true h2
 have h3:=Nat.eq_of_beq_eq_true h3
 subst h1;subst h2;subst h3
 obtain ⟨hpin,⟨hlen,rfl⟩,hQ⟩:=hs
 unfold zRc at hpin
 have hb0:st.bx[0]?=some (.arr t z ds c'):=by rw [hbx];rfl
 have hr:fn.results=#[]:=Array.eq_empty_of_size_eq_zero (Nat.eq_of_beq_eq_true hr0)
 have hbr:=h.br 0 _ hb0 (by simp)
 have hbo:=h.bo 0 _ hb0 (by simp)
 have hpin0:∀ b,E.at 0=some b→e.at 0=some b:=fun b hb=>(h.pin 0 b (by simp [St.pins,hpin,hb])).1
 have hEE:E.length=1→∀ b,some b∈E↔E.at 0=some b:=fun hE b=>by
  match E,hE with
  | [x],_=>simp [Env.at,eq_comm]
 refine zAh hk hf h.nd (v:=.tuple #[]) (by simp [results,hr]) fun hok=>⟨rfl,rfl,ds,{
  q:=hQ _ h.hN
  len:=hlen
  br:=?_
  ok:=fun y hy=>(hbo y hy).mono (fun _ _ _=>rfl) fun b _ hb=>?_
  size:=h.size
  old:=fun b hb hne=>h.old b hb fun hc=>hne ((hEE hok.1 b).1 hc)
  fz:=fun b c t z hb hc=>h.fz b c t z (hb.imp id (hEE hok.1 b).2) hc
  ku:=h.ku }⟩
 ·cases hE0:E.at 0 with
  | none=>
    obtain ⟨rfl,rfl⟩:=hok.2 hE0
    exact .inl ⟨rfl,List.eq_nil_of_length_eq_zero hlen,rfl⟩
  | some b=>
    rw [hpin0 b hE0] at hbr
    exact hbr
 ·rcases hb with hb | hb
  ·exact .inl hb
  ·exact .inr ⟨0,by simp,hpin0 b hb,_,hb0,by simp⟩
variable {av:Nat→Prop} {P:Program} {w0 w w':World} {e0 e:Env} {pS pS' pB pB':List Nat} {a:Act} {st st':St}
structure Hint where
 cuts:List Cut:=[]
 joins:List Cut:=[]
 ords:List (Nat × List Ent):=[]
def eh (i:Nat):Ent:={ i:=i,hard:=true }
def en (i:Nat):Ent:={ i:=i }
def ec (i:Nat) (cl:List Nat):Ent:={ i:=i,hard:=true,cl:=cl }
def em (i:Nat) (pl:Option Nat) (keep:List Nat) (same:Option Nat:=none):Ent:={ i:=i,hard:=true,mh:=some { place:=pl,keep:=keep,same:=same } }
def zQy (i:Nat):List Ent→Ent
 | []=>eh i
 | e::l=>match Nat.beq e.i i with
   | true=>e
   | false=>zQy i l
def zSL (l:List Ent) (n:Nat):Nat→List Ent
 | 0=>[]
 | k+1=>zQy (n - (k+1)) l::zSL l n k
/-- hard ones in order, but for these -/
def hs (n:Nat) (l:List Ent):List Ent:=zSL l n n
def hc (id:Nat) (keep:List Nat) (nils:List (Nat × TypeId × Nat):=[]) (bnils:List (Nat × Nat × TypeId × Nat):=[]):Cut:={ id:=id,keep:=keep,nils:=nils,bnils:=bnils }
def an:Nat→List PV→List PV
 | 0,l=>l
 | n+1,l=>.any::an n l
/-- the region in which a piece of code begins -/
def zBq:Code→Option Nat
 | .region id _ _=>some id
 | .seq a b=>match zBq a with
   | some i=>some i
   | none=>zBq b
 | .block _ c=>zBq c
 | .loop c=>zBq c
 | _=>none
def zKM:List Cut→Nat→Option Cut
 | [],_=>none
 | c::l,id=>match Nat.beq c.id id with
   | true=>some c
   | false=>zKM l id
def zNC:List (Nat × List Ent)→Nat→Option (List Ent)
 | [],_=>none
 | (i,o)::l,id=>match Nat.beq i id with
   | true=>some o
   | false=>zNC l id
def zOO (n:Nat):List Ent:=(List.range n).map fun i=>{ i:=i,hard:=true }
def zOs (H:Hint) (id:Nat) (ops:Array Oper):List Ent:=match zNC H.ords id with
 | some o=>o
 | none=>zOO ops.size
def zRB (first:Bool) (H:Hint) (id:Nat):Option Cut:=match first with
 | true=>none
 | false=>zKM H.joins id
def zRV (N0:Option Nat) (H:Hint) (c:Code) (st:St) (K:St→Prop):Prop:=match zBq c with
 | some id=>match zKM H.cuts id with
   | some cut=>zRb N0 cut st fun st=>zBS st K
   | none=>False
 | none=>False
def zRk (st:St) (c:Operand) (v:Bool):St:=match c with
 | .tmp t=>st.put (some t) (.bool v)
 | _=>st
def zQ8 (st:St) (c:Operand) (A B:St→Prop):Prop:=match opd st.sl c with
 | .bool v=>Br v (A (zRk st c true)) (B (zRk st c false))
 | _=>False
/-- an ordinary call; one that writes what it is handed: the older blocks that it may write, the block of the row that it is handed, else the slot and type of the struct; one that may write the boxes that it is handed -/
inductive Mode where
 | ord
 | io (E:Env) (bx0:List Bx)
 | fx (E:Env) (t:TypeId) (z n c:Nat)
 | mk (T:List Nat) (ob:Option Nat) (xr:Nat × TypeId) (Q:Int→D→Nat→Prop)
def Mode.env0:Mode→Env
 | .ord=>[]
 | .io E _=>E
 | .fx E ..=>E
 | .mk T _ _ _=>T.map some
def Mode.n0:Mode→Nat→Option Nat
 | .ord,N=>some N
 | .io ..,N=>some N
 | .fx ..,N=>some N
 | .mk ..,_=>none
def zPh (w:World) (ob:Option Nat) (z:Nat) (x:D):Prop:=match ob with
 | some b=>∃ t es c e,x=.ag es∧Bx.Rel w e (some b) (.arr t z es c)
 | none=>∃ n,IsAg n x
/-- how a call ends that writes what it is handed -/
structure DoneM (T:List Nat) (ob:Option Nat) (z:Nat) (Q:Int→D→Nat→Prop) (w0 w:World) (k:Int) (x:D):Prop where
 q:Q k x w.heap.size
 hd:Holds w x
 bx:zPh w ob z x
 size:w0.heap.size≤w.heap.size
 old:∀ b,b<w0.heap.size→b∉T→w.heap[b]?=w0.heap[b]?
 fz:∀ (b:Nat) (c:Array Value) (t:TypeId) (z:Nat × Nat),(w0.heap.size≤b∨b∈T)→w.heap[b]?=some (.cells c t z)→z=(0,0)
 ku:KU w0 w
def zSa (T:List Nat) (ob:Option Nat) (z:Nat) (Q:Int→D→Nat→Prop) (w0:World):Ending→World→Prop
 | .returned v,w=>∃ k x,v=.int .i64 k∧DoneM T ob z Q w0 w k x
 | _,_=>False
def Mode.fin (M:Mode) (P:Program) (f:FuncId) (rs:List Sh) (Q:QT rs) (av:Nat→Prop) (w0:World):Ending→World→Prop:=match M with
 | .ord=>Fin rs Q av w0
 | .io E bx0=>zR2 rs Q (zQi P f) av w0 E bx0
 | .fx E t z n c=>zSH rs Q av w0 E t z n c
 | .mk T ob xr QM=>zSa T ob xr.1 QM w0
def zOy (P:Program) (st:St) (ob:Option Nat) (xr:Nat × TypeId) (K:D→Prop):Prop:=match ob with
 | some b=>match st.pin with
   | some (some b'::_,_)=>match st.bx with
     | .arr _ z es _::_=>match decide (z=xr.1) with
       | true=>b'=b∧K (.ag es)
       | false=>False
     | _=>False
   | _=>False
 | none=>zAo P (opd st.sl) (fun k=>st.bx[k]?) (.load xr.2 (.tmp xr.1)) xr.2 fun p=>match zIh p with
   | .dg _ x=>K x
   | _=>False
def zSG (P:Program) (f:FuncId) (ob:Option Nat) (xr:Nat × TypeId) (Q:Int→D→Nat→Prop) (st:St):Prop:=match P.funcs[f]? with
 | some fn=>zP9 P st fn.results.toList fun ps=>match ps with
   | [.int k n]=>match k with
     | .i64=>zOy P st ob xr fun x=>∀ N,st.N≤N→Q n x N
     | _=>False
   | _=>False
 | none=>False
def zRY (P:Program) (f:FuncId) (rs:List Sh) (Q:QT rs) (N0:Nat) (M:Mode) (st:St):Prop:=match M with
 | .ord=>zRe P f rs Q (some N0) st
 | .io E bx0=>zR4 P f rs Q (some N0) E bx0 st
 | .fx E t z n c=>zQY P f rs Q E t z n c st
 | .mk _ ob xr QM=>zSG P f ob xr QM st
/-- at these items, in this state, the function's contract will be met -/
structure AT (P:Program) (f:FuncId) (rs:List Sh) (Q:QT rs) (N0:Nat) (M:Mode) (k:List Item) (st:St):Prop where
 h:∀ (av:Nat→Prop) (w0:World) (a:Act) (w:World) (e:Env),w0.heap.size=N0→Rel av w0 M.env0 [] [] a w e st→zMM P f k (M.fin P f rs Q av w0) a w
def W (P : Program) (sh:FuncId→List Sh) (f:FuncId) (rs:List Sh) (Q:QT rs) (N0:Nat) (M:Mode) (H:Hint):Nat→Bool→List Item→St→Prop
 | 0,_,_,_=>False
 | n + 1,first,items,st=>match items with
   | []=>zRY P f rs Q N0 M st
   | .inBlock _::k=>W P sh f rs Q N0 M H n first k st
   | .inLoop c::k=>zRV (M.n0 N0) H c st fun st=>AT P f rs Q N0 M (.code c::.inLoop c::k) st
   | .code c::k=>match c with
     | .skip=>W P sh f rs Q N0 M H n first k st
     | .label _=>W P sh f rs Q N0 M H n first k st
     | .ret=>zRY P f rs Q N0 M st
     | .seq x y=>W P sh f rs Q N0 M H n first (.code x::.code y::k) st
     | .cond c x y=>zQ8 st c (fun st=>W P sh f rs Q N0 M H n false (.code x::k) st) (fun st=>W P sh f rs Q N0 M H n false (.code y::k) st)
     | .block id c=>W P sh f rs Q N0 M H n first (.code c::.inBlock id::k) st
     | .loop c=>zRV (M.n0 N0) H c st fun st=>AT P f rs Q N0 M (.code c::.inLoop c::k) st
     | .exit id=>match exitTo id k with
       | some k'=>W P sh f rs Q N0 M H n false k' st
       | none=>False
     | .region id ops draw=>match zRB first H id with
       | some cut=>zRb (M.n0 N0) cut st fun st=>zBS st fun st=>AT P f rs Q N0 M (.code (.region id ops draw)::k) st
       | none=>match draw with
         | true=>match chk ops (zOs H id ops) with
           | true=>zKs P sh (M.n0 N0) ops (zOs H id ops) [] st fun st=>zBS st fun st=>W P sh f rs Q N0 M H n false k st
           | false=>False
         | false=>match zJt ops.size (zOs H id ops) with
           | true=>zKs P sh (M.n0 N0) ops (zOs H id ops) [] st fun st=>zBS st fun st=>W P sh f rs Q N0 M H n false k st
           | false=>False
     | _=>False
   | _=>False
theorem nok (M:Mode) (w0:World):NOk (M.n0 w0.heap.size) w0:=fun n hn=>by
 cases M with
 | ord=>cases hn;rfl
 | io=>cases hn;rfl
 | fx=>cases hn;rfl
 | mk=>cases hn
theorem zGF (h:Rel av w0 e0 [] [] a w e st) {N0:Option Nat} (hN0:NOk N0 w0) {H:Hint} {c:Code} {K:St→Prop} (hs:zRV N0 H c st K):∃ e' st',K st'∧Rel av w0 e0 [] [] a w e' st':=by
 unfold zRV at hs
 split at hs
 ·split at hs
  ·obtain ⟨e',st',h1,h2⟩:=zFz h hN0 hs
   rw [uI] at h1
   exact ⟨e',st',h1,h2⟩
  ·exact hs.elim
 ·exact hs.elim
theorem zJd {c:Operand} {v:Bool} (h:opd st.sl c=.bool v):zRk st c v=st:=by
 cases c with
 | tmp t=>
   simp only [opd,List.getD_eq_getElem?_getD] at h
   cases ht:st.sl[t]? with
   | none=>rw [ht] at h;cases h
   | some p=>rw [ht] at h;simp at h;subst h;exact zHI ht
 | _=>rfl
theorem zJu (h:Rel av w0 e0 [] [] a w e st) {ob:Option Nat} {xr:Nat × TypeId} {K:D→Prop} (hs:zOy P st ob xr K):∃ x,K x∧Holds w x∧zPh w ob xr.1 x:=by
 cases ob with
 | some b=>
   simp only [zOy] at hs
   split at hs
   ·rename_i b' L T hp
    split at hs
    ·rename_i t z es c bs hb0
     have hb:st.bx[0]?=some (.arr t z es c):=by rw [hb0];rfl
     cases hz:decide (z=xr.1) with
     | false=>rw [hz] at hs;exact hs.elim
     | true=>
       rw [hz] at hs
       simp only [decide_eq_true_eq] at hz
       obtain ⟨rfl,hs⟩:=hs
       have h1:=h.pin 0 b' (by simp [St.pins,hp])
       refine ⟨_,hs,.ag fun y hy=>(h.bo 0 _ hb (by simp) y hy).1,t,es,c,e,rfl,?_⟩
       rw [←h1.1,←hz]
       exact h.br 0 _ hb (by simp)
    ·exact hs.elim
   ·exact hs.elim
 | none=>
   simp only [zOy] at hs
   have ho:∀ x∈(Op.load xr.2 (.tmp xr.1)).operands,OpdOk av a w e [] st.bx x (opd st.sl x):=fun x hx=>xb h (by simp)
   obtain ⟨v0, p0, g1, g2, g3⟩ := zBQ (o := ⟨none, .load xr.2 (.tmp xr.1), xr.2, "", #[], none⟩) h.toMem ho (fun k B hk => ⟨hk, by simp⟩) hs
   split at g2
   ·rename_i n x hn
    have hte:=zB4 (e:=e) g3.2.1
    rw [hn] at hte
    rcases hte with h5 | ⟨_,_,h7,_⟩
    ·cases h5
    ·obtain ⟨k1,k2⟩:=h7 g3.2.1
     exact ⟨x,g2,k1.1,n,k2⟩
   ·exact g2.elim
theorem zGA {rs:List Sh} {Q:QT rs} {M:Mode} {f:FuncId} {k:List Item} (h:Rel av w0 M.env0 [] [] a w e st) (hk:k=[]∨∃ k',k=.code .ret::k') (hs:zRY P f rs Q w0.heap.size M st):zMM P f k (M.fin P f rs Q av w0) a w:=by
 cases M with
 | ord=>exact zLx h hk (nok .ord w0) hs
 | io E bx0=>exact zMD h hk (nok .ord w0) hs
 | fx E t z n c=>exact zJl h hk hs
 | mk T ob xr QM=>
   simp only [zRY,zSG] at hs
   split at hs
   rotate_left
   ·exact hs.elim
   rename_i fn hf
   obtain ⟨vs,ps,h1,hrun,hvl,hpl,hvp⟩:=ta h _ _ hs
   split at h1
   rotate_left
   ·exact h1.elim
   rename_i kk n
   split at h1
   rotate_left
   ·exact h1.elim
   obtain ⟨x,h2,h3,h4⟩:=zJu h h1
   have hvs:∃ v,vs=[v]:=by
    have:vs.length=1:=by rw [hvl,←hpl];rfl
    rcases vs with _ | ⟨v,_ | _⟩<;>simp at this;exact ⟨v,rfl⟩
   obtain ⟨v,rfl⟩:=hvs
   have hv:=(hvp 0 v _ rfl rfl).1.resolve_left (by simp)
   refine zAh hk hf h.nd (sg hrun) ⟨n,x,hv,h2 _ h.hN,h3,h4,h.size,fun b hb hn=>h.old b hb (by simp [Mode.env0];exact hn),fun b c t z hb hc=>h.fz b c t z (hb.imp id fun hb=>by simp [Mode.env0];exact hb) hc,h.ku⟩
theorem zBw {sh:FuncId→List Sh} {f:FuncId} {rs:List Sh} {Q:QT rs} {N0:Nat} {M:Mode} {H:Hint} (hm:P.follows .mixedOrders=true) :
  ∀ (n:Nat) (first:Bool) (items:List Item) (st:St),W P sh f rs Q N0 M H n first items st→AT P f rs Q N0 M items st:=by
 intro n
 induction n with
 | zero=>intro first items st h;exact h.elim
 | succ n ih=>
   intro first items st hs
   refine ⟨fun av w0 a w e hN h=>?_⟩
   subst hN
   cases items with
   | nil=>exact zGA h (.inl rfl) hs
   | cons it k=>
     cases it with
     | inBlock id=>exact wR (fun cs=>step_inBlock) ((ih _ _ _ hs).h av w0 a w e rfl h)
     | inLoop c=>
       obtain ⟨e',st',h1,h2⟩:=zGF h (nok M w0) hs
       exact wR (fun cs=>step_inLoop) (h1.h av w0 a w e' rfl h2)
     | code c=>
       cases c with
       | skip=>exact wR (fun cs=>step_skip) ((ih _ _ _ hs).h av w0 a w e rfl h)
       | label l=>exact wR (fun cs=>step_label) ((ih _ _ _ hs).h av w0 a w e rfl h)
       | ret=>exact zGA h (.inr ⟨_,rfl⟩) hs
       | seq x y=>exact wR (fun cs=>step_seq) ((ih _ _ _ hs).h av w0 a w e rfl h)
       | block id c=>exact wR (fun cs=>step_block) ((ih _ _ _ hs).h av w0 a w e rfl h)
       | loop c=>
         obtain ⟨e',st',h1,h2⟩:=zGF h (nok M w0) hs
         exact wR (fun cs=>step_loop) (h1.h av w0 a w e' rfl h2)
       | cond c x y=>
         simp only [W,zQ8] at hs
         split at hs
         ·rename_i v hv
          have hev:a.eval c=.bool v:=by
           have:=(xb h (x:=c) (by simp)).h.resolve_left (by rw [hv];simp)
           rw [this,hv];rfl
          rcases hs.spec with ⟨rfl,hs⟩ | ⟨rfl,hs⟩
          ·rw [zJd hv] at hs
           exact wR (fun cs=>step_cond hev) ((ih _ _ _ hs).h av w0 a w e rfl h)
          ·rw [zJd hv] at hs
           exact wR (fun cs=>step_cond hev) ((ih _ _ _ hs).h av w0 a w e rfl h)
         ·exact hs.elim
       | exit id=>
         simp only [W] at hs
         split at hs
         ·rename_i k' hk
          exact wR (fun cs=>step_exit hk) ((ih _ _ _ hs).h av w0 a w e rfl h)
         ·exact hs.elim
       | region id ops draw=>
         simp only [W] at hs
         split at hs
         ·obtain ⟨e',st',h1,h2⟩:=zFz h (nok M w0) hs
          rw [uI] at h1
          exact h1.h av w0 a w e' rfl h2
         ·have key:∀ a w e st,zBS st (fun st=>W P sh f rs Q w0.heap.size M H n false k st)→Rel av w0 M.env0 [] [] a w e st→Exit.normal=.normal∧zMM P f k (M.fin P f rs Q av w0) a w:=fun a w e st hf hr=>by
           rw [uI] at hf
           exact ⟨rfl,(ih _ _ _ hf).h av w0 a w e rfl hr⟩
          split at hs
          ·split at hs
           ·rename_i hck
            exact zJT (zLY (nok M w0) hm hck h hs key)
           ·exact hs.elim
          ·split at hs
           ·rename_i hck
            exact zJT (zLV (nok M w0) hck h hs key)
           ·exact hs.elim
       | _=>exact hs.elim
     | _=>exact hs.elim
def tS (id:Nat):Code→List Item→Option (List Item)
 | .seq x y,k=>match tS id x (.code y::k) with
   | some r=>some r
   | none=>tS id y k
 | .cond _ x y,k=>match tS id x k with
   | some r=>some r
   | none=>tS id y k
 | .block i c,k=>tS id c (.inBlock i::k)
 | .loop c,k=>match zBq c with
   | some j=>match Nat.beq j id with
     | true=>some (.code c::.inLoop c::k)
     | false=>tS id c (.inLoop c::k)
   | none=>tS id c (.inLoop c::k)
 | _,_=>none
def sy (id:Nat):Code→List Item→Option (List Item)
 | .seq x y,k=>match sy id x (.code y::k) with
   | some r=>some r
   | none=>sy id y k
 | .cond _ x y,k=>match sy id x k with
   | some r=>some r
   | none=>sy id y k
 | .block i c,k=>sy id c (.inBlock i::k)
 | .loop c,k=>sy id c (.inLoop c::k)
 | .region j ops draw,k=>match Nat.beq j id with
   | true=>some (.code (.region j ops draw)::k)
   | false=>none
 | _,_=>none
def zPi (P:Program) (f:FuncId):Code:=match P.funcs[f]? with
 | some fn=>match fn.body with
   | some c=>c
   | none=>.skip
 | none=>.skip
def zD (P:Program) (f:FuncId) (id:Nat):List Item:=match tS id (zPi P f) [] with
 | some k=>k
 | none=>[]
def zM0 (P:Program) (f:FuncId) (id:Nat):List Item:=match sy id (zPi P f) [] with
 | some k=>k
 | none=>[]
def zBL (n:Nat) (args:List PV):List PV:=args++List.replicate (n - args.length) .any
def zK7 (P:Program) (sh:FuncId→List Sh) (f:FuncId) (rs:List Sh) (Q:QT rs) (N:Nat) (H:Hint) (fuel:Nat) (args:List PV):Prop:=match P.funcs[f]? with
 | some fn=>match fn.body with
   | some c=>zN9 N args (zBS { sl:=zBL fn.ntmps args,bx:=[],N:=N } fun st=>W P sh f rs Q N .ord H fuel true [.code c] st)
   | none=>False
 | none=>False
theorem zQV {sh:FuncId→List Sh} {f:FuncId} {rs:List Sh} {Q:QT rs} {N:Nat} {H:Hint} {fuel:Nat} {args:List PV} (hm:P.follows .mixedOrders=true) (hc:zt P f=true)
  (h:zK7 P sh f rs Q N H fuel args):ACalls P f rs args N Q:=by
 refine ⟨hc,fun av w0 hN hav harg=>?_⟩
 subst hN
 unfold zK7 at h
 split at h
 rotate_left
 ·exact h.elim
 rename_i fn hf
 split at h
 rotate_left
 ·exact h.elim
 rename_i c hb
 have h:=wn (fun p hp=>by
  have hok:=(harg p hp).1
  cases p<;>simp only [PV.Ok] at hok ⊢
  ·exact hok.1.lt
  ·exact hok.1.1.lt) h
 rw [uI] at h
 have hw:=zBw hm _ _ _ _ h
 refine tu hf hb (hw.h av w0 _ w0 [] rfl ?_)
 have hget:∀ (i:Nat) (p:PV),(zBL fn.ntmps args)[i]?=some p→p=.any∨(p∈args∧args[i]?=some p):=fun i p hp=>by
  unfold zBL at hp
  by_cases hi:i<args.length
  ·rw [List.getElem?_append_left hi] at hp
   exact .inr ⟨List.mem_of_getElem? hp,hp⟩
  ·rw [List.getElem?_append_right (by omega)] at hp
   exact .inl (List.eq_of_mem_replicate (List.mem_of_getElem? hp))
 have hnl:∀ k b,¬Lives [] [] ([]:List Bx) k b:=fun k b ⟨_,_,B,h3,_⟩=>by simp at h3
 have hlive:∀ b,zY av [] [] ([]:List Bx) b→av b:=fun b hb=>hb.elim id fun ⟨k,hk⟩=>absurd hk (hnl k b)
 exact {
  el:=rfl
  br:=fun k B hk _=>by simp at hk
  bo:=fun k B hk _=>by simp at hk
  bf:=fun k B hk _=>by simp at hk
  inj:=fun k j b hk _=>absurd hk (hnl k b)
  ku:=.rfl
  size:=Nat.le_refl _
  old:=fun _ _ _=>rfl
  fz:=fun b c t z hb hc=>by
   rcases hb with hb | hb
   ·have:=(Array.getElem?_eq_some_iff.1 hc).1;omega
   ·exact absurd hb (by simp [Mode.env0])
  nd:=rfl
  sz:=by simp [zBL]
  hN:=Nat.le_refl _
  hs:=fun i p hp _=>by
   rcases hget i p hp with h1 | ⟨h1,h2⟩
   ·exact .inl h1
   ·right
    have hlt:=(List.getElem?_eq_some_iff.1 h2).1
    have:i<args.toArray.size:=by simpa using hlt
    simp [Array.getElem?_append,hlt]
    rw [(List.getElem?_eq_some_iff.1 h2).2]
  so:=fun i p hp _=>by
   rcases hget i p hp with h1 | ⟨h1,h2⟩
   ·subst h1;trivial
   ·exact PV.Ok.mono (fun _ _ _=>rfl) (Nat.le_refl _) (fun b _=>hlive b) p (harg p h1).1
  sr:=fun i p hp _ k hk=>by
   rcases hget i p hp with h1 | ⟨h1,h2⟩
   ·subst h1;simp [PV.refs] at hk
   ·rw [(harg p h1).2] at hk;simp at hk
  own:=fun k b hk=>absurd hk (hnl k b)
  avl:=hav
  avn:=fun k b hk=>absurd hk (hnl k b)
  pin:=fun k b hb=>by simp [St.pins] at hb
  pit:=fun b T hb=>by cases hb }
def bytes (l:List Nat):ByteArray:=⟨(l.map UInt8.ofNat).toArray⟩
def zPk (f:Nat):List (Nat × List Sh)→List Sh
 | []=>[]
 | (g,s)::l=>match Nat.beq g f with
   | true=>s
   | false=>zPk f l
theorem zRL {P:Program} {sh:FuncId→List Sh} {f:FuncId} {rs:List Sh} {Q:QT rs} {N:Nat} {H:Hint} {fuel:Nat} {args:List PV} {F:Prop} (hm:P.follows .mixedOrders=true) (hc:zt P f=true)
 (he:F=zK7 P sh f rs Q N H fuel args) (h:F):ACalls P f rs args N Q:=zQV hm hc (he ▸ h)
theorem zRm {P:Program} {sh:FuncId→List Sh} {f:FuncId} {rs:List Sh} {Q:QT rs} {N0:Nat} {M:Mode} {H:Hint} {fuel:Nat} {items:List Item} {st:St} {F:Prop} (hm:P.follows .mixedOrders=true)
 (he:F=zBS st fun st=>W P sh f rs Q N0 M H fuel true items st) (h:F):AT P f rs Q N0 M items st:=zBw hm fuel true items st (by rw [uI] at he;exact he ▸ h)
def noQ:QT []:=fun _=>False
def zGK (P:Program) (sh:FuncId→List Sh) (f:FuncId) (N:Nat) (M:Mode) (H:Hint) (fuel:Nat) (args:List PV) (bx:List Bx) (pin:Option (List (Option Nat) × List Nat)):Prop:=match P.funcs[f]? with
 | some fn=>match fn.body with
   | some c=>zBS { sl:=zBL fn.ntmps args,bx:=bx,N:=N,pin:=pin } fun st=>W P sh f [] noQ N M H fuel true [.code c] st
   | none=>False
 | none=>False
theorem zAU {av:Nat→Prop} {args:List PV} {bx:List Bx} {e e0:Env} {pin:Option (List (Option Nat) × List Nat)} {nt:Nat} {w0:World} (hm:Mem av [] w0 e bx) (harg:∀ p∈args,p.Ok w0 (zY av [] e bx)∧∀ k∈p.refs,k<bx.length)
  (havl:Avl av w0 e0) (havn:∀ k b,Lives [] e bx k b→¬av b)
  (hown:∀ k b,Lives [] e bx k b→some b∈e0∧k<(St.pins ⟨zBL nt args,bx,w0.heap.size,pin⟩).length) (hfz:∀ (b:Nat) (c:Array Value) (t:TypeId) (z:Nat × Nat),some b∈e0→w0.heap[b]?=some (.cells c t z)→z=(0,0))
  (hpin:∀ k b,(St.pins ⟨zBL nt args,bx,w0.heap.size,pin⟩)[k]?=some (some b)→e.at k=some b) (hpit:∀ L T,pin=some (L,T)→∀ x∈T,some x∈e0) :
  Rel av w0 e0 [] [] { tmps:=(args.map (PV.val e)).toArray++Array.replicate (nt - (args.map (PV.val e)).toArray.size) undef,defers:=[] } w0 e { sl:=zBL nt args,bx:=bx,N:=w0.heap.size,pin:=pin }:=by
 have hget:∀ (i:Nat) (p:PV),(zBL nt args)[i]?=some p→p=.any∨(p∈args∧args[i]?=some p):=fun i p hp=>by
  unfold zBL at hp
  by_cases hi:i<args.length
  ·rw [List.getElem?_append_left hi] at hp
   exact .inr ⟨List.mem_of_getElem? hp,hp⟩
  ·rw [List.getElem?_append_right (by omega)] at hp
   exact .inl (List.eq_of_mem_replicate (List.mem_of_getElem? hp))
 exact {
  toMem:=hm
  ku:=.rfl
  size:=Nat.le_refl _
  old:=fun _ _ _=>rfl
  fz:=fun b c t z hb hc=>by
   rcases hb with hb | hb
   ·have:=(Array.getElem?_eq_some_iff.1 hc).1;omega
   ·exact hfz b c t z hb hc
  nd:=rfl
  sz:=by simp [zBL]
  hN:=Nat.le_refl _
  hs:=fun i p hp _=>by
   rcases hget i p hp with h1 | ⟨h1,h2⟩
   ·exact .inl h1
   ·right
    have hlt:=(List.getElem?_eq_some_iff.1 h2).1
    simp [Array.getElem?_append,hlt]
    rw [(List.getElem?_eq_some_iff.1 h2).2]
  so:=fun i p hp _=>by
   rcases hget i p hp with h1 | ⟨h1,h2⟩
   ·subst h1;trivial
   ·exact (harg p h1).1
  sr:=fun i p hp _ k hk=>by
   rcases hget i p hp with h1 | ⟨h1,h2⟩
   ·subst h1;simp [PV.refs] at hk
   ·exact ⟨by simp,(harg p h1).2 k hk⟩
  own:=fun k b hk=>.inr (hown k b hk)
  avl:=havl
  avn:=havn
  pin:=fun k b hb=>⟨hpin k b hb,by simp⟩
  pit:=hpit }
/-- a slice that is not empty -/
theorem zOZ {P:Program} {sh:FuncId→List Sh} {f:FuncId} {H:Hint} {fuel:Nat} {ad:Addr} {z c:Nat} {es:List D} {k:Int} {N:Nat} {R:D→Int→Nat→Prop} {QM:Int→D→Nat→Prop} (hm:P.follows .mixedOrders=true) (hc:zt P f=true)
  (htree:Tree (.sl (some ad) z es c)) (hne:es≠[]) (hlen:es.length≤maxLen)
  (hx:∀ t,zGK P sh f N (.mk (D.sl (some ad) z es c).foot (some ad.block) (z,0) QM) H fuel [.sb 0 z 0 es.length c,.int .i64 k] [.arr t z es es.length] (some ([some ad.block],(D.sl (some ad) z es c).foot)))
  (hQ:∀ k' x N',QM k' x N'→∃ es',x=.ag es'∧es'.length=es.length∧zB es'=zB es∧R (.sl (some ad) z es' c) k' N'):MC P f (.sl (some ad) z es c) k N R:=by
 refine ⟨hc,fun w0 hN hGl hGf hH hU=>?_⟩
 subst hN
 have hfoot:(D.sl (some ad) z es c).foot=ad.block::zB es:=by simp [D.foot,hne]
 have hnd:=htree.nd
 rw [hfoot] at hnd
 obtain ⟨hnb,hnd⟩:=List.nodup_cons.1 hnd
 have hoff:ad.off=0:=htree.fl.1 ad rfl
 cases hH with
 | sl h1 h2 h3 h4 h5=>
 have h1:=h1 hne
 rcases h5 with h5 | ⟨cc,t,fz,h6,h7⟩
 ·exfalso
  have:=zZ h3
  rw [h5] at this
  have h0:0<es.length:=List.length_pos_iff.2 hne
  have:=Nat.mul_pos h0 (rn z)
  simp at *;omega
 obtain ⟨cc',t',hU'⟩:=hU ad.block (by rw [hfoot];simp)
 rw [h6] at hU'
 cases hU'
 have hx:=hx t
 unfold zGK at hx
 split at hx
 rotate_left
 ·exact hx.elim
 rename_i fn hf
 split at hx
 rotate_left
 ·exact hx.elim
 rename_i code hb
 rw [uI] at hx
 have hAT:=zBw hm _ _ _ _ hx
 have hlive:∀ b,zY avG [] [some ad.block] [Bx.arr t z es es.length] b→avG b∨b=ad.block:=fun b hb=>by
  rcases hb with hb | ⟨k,_,h8,_⟩
  ·exact .inl hb
  ·cases k with
   | zero=>simp [Env.at] at h8;exact .inr h8.symm
   | succ k=>simp [Env.at] at h8
 have hflat:=zZ h3
 have hsize:es.length*ez z≤cc.size:=by
  rw [←hflat]
  rcases Nat.eq_zero_or_pos (yd es).length with h0 | h0
  ·omega
  ·have:=h7 ((yd es).length - 1) _ (List.getElem?_eq_getElem (by omega))
   have:=(Array.getElem?_eq_some_iff.1 this).1
   omega
 have hval:#[(D.sl (some ad) z es c).val,.int .i64 k]=([PV.sb 0 z 0 es.length c,.int .i64 k].map (PV.val [some ad.block])).toArray:=by
  obtain ⟨bb,oo,sp⟩:=ad
  simp only at h1 hoff
  subst h1;subst hoff
  simp [PV.val,PV.val1,PV.cv,Env.at,D.val,D.cv]
 rw [hval]
 refine tu hf hb ?_
 have hrel:=zAU (w0:=w0) (args:=[PV.sb 0 z 0 es.length c,.int .i64 k]) (bx:=[.arr t z es es.length]) (e:=[some ad.block]) (e0:=(D.sl (some ad) z es c).foot.map some)
  (pin:=some ([some ad.block],(D.sl (some ad) z es c).foot)) (nt:=fn.ntmps) { el:=rfl,br:=fun k B hk _=>?_,bo:=fun k B hk _=>?_,bf:=fun k B hk _ j hj=>?_,inj:=fun i j b hi hj=>?_ } (fun p hp=>?_) ⟨fun b hb=>hGl.lt hb,hGl,fun b hb=>hb,fun b hb hc=>by
   obtain ⟨b',h8,h9⟩:=List.mem_map.1 hc
   cases h9;exact hGf b hb h8⟩ (fun k b hk hc=>?_) (fun k b hk=>?_) (fun b c' t' z' hb' hc'=>?_) (fun k b hb=>?_) (fun ob T hb x hx=>?_)
 ·have hend:=hAT.h avG w0 _ w0 _ rfl hrel
  intro cs
  obtain ⟨en,w',fr,hfin,hrest⟩:=hend cs
  refine ⟨en,w',fr,?_,hrest⟩
  cases en with
  | panicked=>exact hfin.elim
  | outgrown=>exact hfin.elim
  | returned v=>
    obtain ⟨k',x,rfl,hd⟩:=hfin
    obtain ⟨es',rfl,g1,g2,g3⟩:=hQ _ _ _ hd.q
    obtain ⟨t2,es2,c2,e2,g4,g5⟩:=hd.bx
    cases g4
    have hne':es'≠[]:=fun hc=>by rw [hc] at g1;simp at g1;exact hne (List.eq_nil_of_length_eq_zero g1.symm)
    have hf':(D.sl (some ad) z es' c).foot=ad.block::zB es':=by simp [D.foot,hne']
    have hH':∀ y∈es',Holds w' y:=by
     have:=hd.hd
     cases this with
     | ag h=>exact h
    rcases g5 with ⟨g5,_⟩ | ⟨b3,c3,k1,k2,k3,k4,k5,k6,k7⟩
    ·cases g5
    cases k1
    refine ⟨.sl (some ad) z es' c,k',rfl,⟨hd.size,hd.old,hd.fz,.sl (fun _=>h1) (by omega) k6 hH' (.inr ⟨c3,t2,(0,0),k2,fun i u hu=>by rw [hoff,Nat.zero_add];exact k7 i u hu⟩),by rw [hf',hfoot,g2],by simp [D.cells,D.cv,g1],.inl ⟨_,_,_,_,_,rfl,rfl⟩,hd.ku⟩,g3⟩
 ·cases k with
  | zero=>
    simp at hk;subst hk
    exact .inr ⟨ad.block,cc,rfl,h6,hsize,Nat.le_refl _,hlen,h3,fun i u hu=>by have:=h7 i u hu;rwa [hoff,Nat.zero_add] at this⟩
  | succ k=>simp at hk
 ·cases k with
  | zero=>
    simp at hk;subst hk
    intro y hy
    refine ⟨h4 y hy,fun b hb hl=>?_⟩
    rcases hlive b hl with this | this
    ·exact hGf b this (by rw [hfoot];exact List.mem_cons_of_mem _ (zH.2 ⟨y,hy,hb⟩))
    subst this
    exact hnb (zH.2 ⟨y,hy,hb⟩)
  | succ k=>simp at hk
 ·cases k with
  | zero=>simp at hk;subst hk;simp [Bx.refs] at hj
  | succ k=>simp at hk
 ·have h8:∀ i,Lives [] [some ad.block] [Bx.arr t z es es.length] i b→i=0:=fun i ⟨_,h9,_⟩=>by
   cases i with
   | zero=>rfl
   | succ i=>simp [Env.at] at h9
  rw [h8 i hi,h8 j hj]
 ·simp at hp
  rcases hp with rfl | rfl
  ·exact ⟨trivial,by simp [PV.refs]⟩
  ·exact ⟨trivial,by simp [PV.refs]⟩
 ·have hkb:=hk
  obtain ⟨_,h8,_⟩:=hkb
  cases k with
  | succ k=>simp [Env.at] at h8
  | zero=>
    simp [Env.at] at h8
    subst h8
    exact hGf _ hc (by rw [hfoot];simp)
 ·have:b=ad.block:=by
   obtain ⟨_,h8,_⟩:=hk
   cases k with
   | zero=>simp [Env.at] at h8;exact h8.symm
   | succ k=>simp [Env.at] at h8
  subst this
  refine ⟨by rw [hfoot];simp,?_⟩
  obtain ⟨_,h8,_⟩:=hk
  cases k with
  | zero=>simp [St.pins]
  | succ k=>simp [Env.at] at h8
 ·simp only [List.mem_map] at hb'
  obtain ⟨b',hb1,hb2⟩:=hb'
  cases hb2
  obtain ⟨c9,t9,h9⟩:=hU b hb1
  rw [h9] at hc';cases hc';rfl
 ·cases k with
  | zero=>simp [St.pins] at hb;subst hb;rfl
  | succ k=>simp [St.pins] at hb
 ·cases hb
  exact List.mem_map.2 ⟨x,hx,rfl⟩
/-- an empty slice -/
theorem zM9 {P:Program} {f:FuncId} {a:Option Addr} {z c:Nat} {k:Int} {N:Nat} {R:D→Int→Nat→Prop} (h:ACalls P f [.int .i64] [.sv a z [] c,.int .i64 k] N fun k' N'=>R (.sl a z [] c) k' N'):MC P f (.sl a z [] c) k N R:=by
 have hfoot:(D.sl a z [] c).foot=[]:=by cases a<;>simp [D.foot,zB]
 refine ⟨h.c,fun w0 hN hGl hGf hH hU=>(h.h avG w0 hN ⟨fun b hb=>hGl.lt hb,hGl,fun b hb=>hb,fun b hb=>by simp⟩ fun p hp=>?_).mono fun en w' hen=>?_⟩
 ·simp at hp
  rcases hp with rfl | rfl
  ·exact ⟨⟨hH,by rw [hfoot];simp⟩,rfl⟩
  ·exact ⟨trivial,rfl⟩
 ·cases en with
  | panicked=>exact hen.elim
  | outgrown=>exact hen.elim
  | returned v=>
    obtain ⟨ps,rows,e,hd⟩:=hen
    have hq:=hd.q
    rcases ps with _ | ⟨p,_ | ⟨q,ps⟩⟩
    ·simp [QT.app] at hq
    ·cases p<;>simp [QT.app] at hq
     rename_i k2 n
     cases rows with
     | cons B rows=>simp [QT.app] at hq
     | nil=>
       obtain ⟨rfl,hq⟩:=hq
       refine ⟨.sl a z [] c,n,hd.v,⟨hd.size,fun b hb _=>hd.old b hb,fun b c' t z' hb hc=>?_,hH.mono (by rw [hfoot];simp),rfl,rfl,.inl ⟨_,_,_,_,_,rfl,rfl⟩,hd.ku⟩,hq⟩
       rcases hb with hb | hb
       ·exact hd.fz b c' t z' hb hc
       ·rw [hfoot] at hb;simp at hb
    ·cases p<;>simp [QT.app] at hq
/-- a struct -/
theorem zNP {P:Program} {sh:FuncId→List Sh} {f:FuncId} {H:Hint} {fuel:Nat} {cs:List D} {n:Nat} {xr:Nat × TypeId} {k:Int} {N:Nat} {R:D→Int→Nat→Prop} {QM:Int→D→Nat→Prop} (hm:P.follows .mixedOrders=true) (hc:zt P f=true)
  (hag:IsAg n (.ag cs))
  (hx:zGK P sh f N (.mk (D.ag cs).foot none xr QM) H fuel [.dg n (.ag cs),.int .i64 k] [] (some ([],(D.ag cs).foot)))
  (hQ:∀ k' x N',QM k' x N'→∃ cs',x=.ag cs'∧cs'.map D.cv=cs.map D.cv∧zB cs'=zB cs∧R (.ag cs') k' N'):MC P f (.ag cs) k N R:=by
 refine ⟨hc,fun w0 hN hGl hGf hH hU=>?_⟩
 subst hN
 unfold zGK at hx
 split at hx
 rotate_left
 ·exact hx.elim
 rename_i fn hf
 split at hx
 rotate_left
 ·exact hx.elim
 rename_i code hb
 rw [uI] at hx
 have hAT:=zBw hm _ _ _ _ hx
 have hnl:∀ k b,¬Lives [] [] ([]:List Bx) k b:=fun k b ⟨_,_,B,h3,_⟩=>by simp at h3
 have hlive:∀ b,zY avG [] [] ([]:List Bx) b→avG b:=fun b hb=>hb.elim id fun ⟨k,hk⟩=>absurd hk (hnl k b)
 have hval:#[(D.ag cs).val,.int .i64 k]=([PV.dg n (.ag cs),.int .i64 k].map (PV.val [])).toArray:=by simp [PV.val,PV.val1,PV.cv]
 rw [hval]
 refine tu hf hb ?_
 have hrel:=zAU (w0:=w0) (args:=[PV.dg n (.ag cs),.int .i64 k]) (bx:=[]) (e:=[]) (e0:=(D.ag cs).foot.map some) (pin:=some ([],(D.ag cs).foot)) (nt:=fn.ntmps)
  { el:=rfl,br:=fun k B hk _=>by simp at hk,bo:=fun k B hk _=>by simp at hk,bf:=fun k B hk _ j hj=>by simp at hk,inj:=fun i j b hi hj=>absurd hi (hnl i b) }
  (fun p hp=>?_) ⟨fun b hb=>hGl.lt hb,hGl,fun b hb=>hb,fun b hb hc=>by
   obtain ⟨b',h8,h9⟩:=List.mem_map.1 hc
   cases h9;exact hGf b hb h8⟩ (fun k b hk=>absurd hk (hnl k b)) (fun k b hk=>absurd hk (hnl k b)) (fun b c' t' z' hb' hc'=>?_) (fun k b hb=>by simp [St.pins] at hb) (fun ob T hb x hx=>?_)
 ·have hend:=hAT.h avG w0 _ w0 _ rfl hrel
  intro s
  obtain ⟨en,w',fr,hfin,hrest⟩:=hend s
  refine ⟨en,w',fr,?_,hrest⟩
  cases en with
  | panicked=>exact hfin.elim
  | outgrown=>exact hfin.elim
  | returned v=>
    obtain ⟨k',x,rfl,hd⟩:=hfin
    obtain ⟨cs',rfl,g1,g2,g3⟩:=hQ _ _ _ hd.q
    obtain ⟨n',cs2,h5,_,h6⟩:=hd.bx
    cases h5
    exact ⟨.ag cs',k',rfl,⟨hd.size,hd.old,hd.fz,hd.hd,by simp only [D.foot];exact g2,by simp only [D.cells];exact g1,.inr ⟨_,_,rfl,rfl,h6⟩,hd.ku⟩,g3⟩
 ·simp at hp
  rcases hp with rfl | rfl
  ·exact ⟨⟨⟨hH,fun b hb hl=>hGf b (hlive b hl) hb⟩,hag⟩,by simp [PV.refs]⟩
  ·exact ⟨trivial,by simp [PV.refs]⟩
 ·simp only [List.mem_map] at hb'
  obtain ⟨b',hb1,hb2⟩:=hb'
  cases hb2
  obtain ⟨c9,t9,h9⟩:=hU b hb1
  rw [h9] at hc';cases hc';rfl
 ·cases hb
  exact List.mem_map.2 ⟨x,hx,rfl⟩
theorem zRn {P:Program} {sh:FuncId→List Sh} {f:FuncId} {H:Hint} {fuel:Nat} {ad:Addr} {z c:Nat} {es:List D} {k:Int} {N:Nat} {R:D→Int→Nat→Prop} {QM:Int→D→Nat→Prop} {F:Nat→Prop} (hm:P.follows .mixedOrders=true) (hc:zt P f=true)
  (he:∀ t,F t=zGK P sh f N (.mk (D.sl (some ad) z es c).foot (some ad.block) (z,0) QM) H fuel [.sb 0 z 0 es.length c,.int .i64 k] [.arr t z es es.length] (some ([some ad.block],(D.sl (some ad) z es c).foot)))
  (htree:Tree (.sl (some ad) z es c)) (hne:es≠[]) (hlen:es.length≤maxLen) (hx:∀ t,F t)
  (hQ:∀ k' x N',QM k' x N'→∃ es',x=.ag es'∧es'.length=es.length∧zB es'=zB es∧R (.sl (some ad) z es' c) k' N'):MC P f (.sl (some ad) z es c) k N R:=
 zOZ hm hc htree hne hlen (fun t=>he t ▸ hx t) hQ
theorem zSE {P:Program} {sh:FuncId→List Sh} {f:FuncId} {H:Hint} {fuel:Nat} {cs:List D} {n:Nat} {xr:Nat × TypeId} {k:Int} {N:Nat} {R:D→Int→Nat→Prop} {QM:Int→D→Nat→Prop} {F:Prop} (hm:P.follows .mixedOrders=true) (hc:zt P f=true)
  (he:F=zGK P sh f N (.mk (D.ag cs).foot none xr QM) H fuel [.dg n (.ag cs),.int .i64 k] [] (some ([],(D.ag cs).foot)))
  (hag:IsAg n (.ag cs)) (hx:F)
  (hQ:∀ k' x N',QM k' x N'→∃ cs',x=.ag cs'∧cs'.map D.cv=cs.map D.cv∧zB cs'=zB cs∧R (.ag cs') k' N'):MC P f (.ag cs) k N R:=
 zNP hm hc hag (he ▸ hx) hQ
def zK6 (P:Program) (sh:FuncId→List Sh) (f:FuncId) (full:List Sh) (Q:QT full) (N:Nat) (H:Hint) (fuel:Nat) (args:List PV) (bx:List Bx) (E:Env):Prop:=match P.funcs[f]? with
 | some fn=>match fn.body with
   | some c=>match bx.all fun B=>!zK0 B with
     | true=>zN9 N (args++zEr bx) (zBS { sl:=zBL fn.ntmps args,bx:=bx,N:=N,pin:=some (rY E 0 (bx.map wG),[]) } fun st=>W P sh f full Q N (.io E (bx.map wG)) H fuel true [.code c] st)
     | false=>False
   | none=>False
 | none=>False
theorem zNe (bx:List Bx) (E:Env):∀ n,rY E n (bx.map wG)=rY E n bx:=by
 induction bx with
 | nil=>intro n;rfl
 | cons B bs ih=>intro n;cases B<;>simp [rY,wG,ih]
theorem zGI {E:Env}:∀ (bs:List Bx) (k j b:Nat),(rY E k bs)[j]?=some (some b)→b=(E.at (k+j)).getD 0∧∃ B,bs[j]?=some B∧((∃ cs,B=.var cs)∨∃ x n,B=.vd x n)
 | [],k,j,b,h=>by simp [rY] at h
 | B::bs,k,0,b,h=>by
   cases B<;>simp [rY] at h
   ·exact ⟨by simp [h],_,rfl,.inl ⟨_,rfl⟩⟩
   ·exact ⟨by simp [h],_,rfl,.inr ⟨_,_,rfl⟩⟩
 | B::bs,k,j+1,b,h=>by
   simp only [rY,List.getElem?_cons_succ] at h
   obtain ⟨h1,h2⟩:=zGI bs (k+1) j b h
   exact ⟨by rw [h1,show k+1+j=k+(j+1) by omega],by simpa using h2⟩
theorem zP7 {P:Program} {sh:FuncId→List Sh} {f:FuncId} {full:List Sh} {Q:QT full} {N:Nat} {H:Hint} {fuel:Nat} {args:List PV} {bx:List Bx} (hm:P.follows .mixedOrders=true) (hc:zt P f=true)
  (hx:∀ E,zK6 P sh f full Q N H fuel args bx E):BCalls P f full args bx N Q:=by
 refine ⟨hc,fun av w0 E hN hav hmem havn harg=>?_⟩
 subst hN
 have hx:=hx E
 unfold zK6 at hx
 split at hx
 rotate_left
 ·exact hx.elim
 rename_i fn hf
 split at hx
 rotate_left
 ·exact hx.elim
 rename_i code hb
 split at hx
 rotate_left
 ·exact hx.elim
 rename_i hng
 simp only [List.all_eq_true,Bool.not_eq_true'] at hng
 have hng:∀ B∈bx,B≠.gone:=fun B hB hc=>by have:=hng B hB;subst hc;simp [zK0] at this
 have hx:=wn (fun p hp=>by
  have:zQf w0.heap.size p:=by
   rcases List.mem_append.1 hp with hp | hp
   ·exact zKC (harg p hp).1
   ·exact zG8 hmem rfl (fun B hB=>hB) p hp
  cases p<;>first | exact this | trivial) hx
 rw [uI] at hx
 have hAT:=zBw hm _ _ _ _ hx
 refine tu hf hb (hAT.h av w0 _ w0 E rfl (zAU hmem harg hav havn (fun k b hk=>?_) (fun b c t z hbE hc=>?_) (fun k b hk=>?_) (fun L T h=>by cases h;simp)))
 ·obtain ⟨_,h1,B,h2,_⟩:=hk
  refine ⟨?_,by simp only [St.pins,qC,List.length_map];exact (List.getElem?_eq_some_iff.1 h2).1⟩
  simp only [Mode.env0]
  unfold Env.at at h1
  rw [List.getD_eq_getElem?_getD] at h1
  cases he:E[k]? with
  | none=>rw [he] at h1;cases h1
  | some u=>rw [he] at h1;simp at h1;subst h1;exact List.mem_of_getElem? he
 ·simp only [Mode.env0] at hbE
  obtain ⟨k,hk⟩:=List.mem_iff_getElem?.1 hbE
  have hat:E.at k=some b:=by simp [Env.at,List.getD_eq_getElem?_getD,hk]
  have hlt:k<bx.length:=by rw [←hmem.el];exact (List.getElem?_eq_some_iff.1 hk).1
  have hB:bx[k]?=some bx[k]:=List.getElem?_eq_getElem hlt
  have hr:=hmem.br k _ hB (by simp)
  have hg:=hng _ (List.mem_of_getElem? hB)
  rw [hat] at hr
  cases hBk:bx[k] with
  | var cs=>rw [hBk] at hr;obtain ⟨b',c',t',g1,g2,_⟩:=hr;cases g1;rw [g2] at hc;cases hc;rfl
  | vd x n=>rw [hBk] at hr;obtain ⟨b',c',t',g1,g2,_⟩:=hr;cases g1;rw [g2] at hc;cases hc;rfl
  | arr t0 z0 es n=>
    rw [hBk] at hr
    rcases hr with ⟨g1,_⟩ | ⟨b',c',g1,g2,_⟩
    ·cases g1
    ·cases g1;rw [g2] at hc;cases hc;rfl
  | gone=>exact absurd hBk hg
 ·simp only [St.pins,zNe] at hk
  obtain ⟨h1,B,h2,h3⟩:=zGI _ _ _ _ hk
  rw [Nat.zero_add] at h1
  have hr:=hmem.br k _ h2 (by simp)
  rcases h3 with ⟨cs,rfl⟩ | ⟨x,n,rfl⟩
  ·obtain ⟨b',c',t',g1,_⟩:=hr;rw [g1] at h1 ⊢;simp at h1;rw [h1]
  ·obtain ⟨b',c',t',g1,_⟩:=hr;rw [g1] at h1 ⊢;simp at h1;rw [h1]
theorem zQF {P:Program} {sh:FuncId→List Sh} {f:FuncId} {full:List Sh} {Q:QT full} {N:Nat} {H:Hint} {fuel:Nat} {args:List PV} {bx:List Bx} {F:Env→Prop} (hm:P.follows .mixedOrders=true) (hc:zt P f=true)
 (he:∀ E,F E=zK6 P sh f full Q N H fuel args bx E) (h:∀ E,F E):BCalls P f full args bx N Q:=zP7 hm hc fun E=>he E ▸ h E
def zLJ (P:Program) (sh:FuncId→List Sh) (f:FuncId) (full:List Sh) (Q:QT full) (N:Nat) (H:Hint) (fuel:Nat) (args:List PV) (bx:List Bx) (E:Env):Prop:=match P.funcs[f]? with
 | some fn=>match fn.body with
   | some c=>match bx with
     | [.arr t z xs c0]=>zN9 N (args++zEr bx) (zBS { sl:=zBL fn.ntmps args,bx:=bx,N:=N,pin:=some ([E.at 0],[]) } fun st=>W P sh f full Q N (.fx E t z xs.length c0) H fuel true [.code c] st)
     | _=>False
   | none=>False
 | none=>False
theorem zQc {P:Program} {sh:FuncId→List Sh} {f:FuncId} {full:List Sh} {Q:QT full} {N:Nat} {H:Hint} {fuel:Nat} {args:List PV} {bx:List Bx} (hm:P.follows .mixedOrders=true) (hc:zt P f=true)
  (hx:∀ E,zLJ P sh f full Q N H fuel args bx E):XCalls P f full args bx N Q:=by
 refine ⟨hc,fun av w0 E hN hav hmem havn harg t z xs c hbx=>?_⟩
 subst hN;subst hbx
 have hx:=hx E
 unfold zLJ at hx
 split at hx
 rotate_left
 ·exact hx.elim
 rename_i fn hf
 split at hx
 rotate_left
 ·exact hx.elim
 rename_i code hb
 simp only at hx
 have hx:=wn (fun p hp=>by
  have:zQf w0.heap.size p:=by
   rcases List.mem_append.1 hp with hp | hp
   ·exact zKC (harg p hp).1
   ·exact zG8 hmem rfl (fun B hB=>hB) p hp
  cases p<;>first | exact this | trivial) hx
 rw [uI] at hx
 have hAT:=zBw hm _ _ _ _ hx
 have hE1:E.length=1:=hmem.el
 have hr:=hmem.br 0 _ rfl (by simp)
 have hok:OkX E xs.length c:=⟨hE1,fun hn=>by
  rw [hn] at hr
  rcases hr with ⟨_,rfl,rfl⟩ | ⟨b,_,g,_⟩
  ·exact ⟨rfl,rfl⟩
  ·cases g⟩
 have hEE:∀ b,some b∈E→E.at 0=some b:=fun b hb=>by
  match E,hE1 with
  | [x],_=>simpa [Env.at,eq_comm] using hb
 refine (tu hf hb (hAT.h av w0 _ w0 E rfl (zAU hmem harg hav havn (fun k b hk=>?_) (fun b c' t' z' hbE hc'=>?_) (fun k b hk=>?_) (fun L T h=>by cases h;simp)))).mono fun en w' hen=>hen hok
 ·obtain ⟨_,h1,B,h2,_⟩:=hk
  have hk0:k=0:=by
   have:=(List.getElem?_eq_some_iff.1 h2).1
   simp at this;exact this
  subst hk0
  refine ⟨?_,by simp [St.pins]⟩
  simp only [Mode.env0]
  match E,hE1 with
  | [x],_=>simpa [Env.at,eq_comm] using h1
 ·simp only [Mode.env0] at hbE
  have h1:=hEE b hbE
  rw [h1] at hr
  rcases hr with ⟨g,_⟩ | ⟨b',c2,g,g2,_⟩
  ·cases g
  ·cases g;rw [g2] at hc';cases hc';rfl
 ·cases k with
  | zero=>simpa [St.pins] using hk
  | succ k=>simp [St.pins] at hk
theorem zQM {P:Program} {sh:FuncId→List Sh} {f:FuncId} {full:List Sh} {Q:QT full} {N:Nat} {H:Hint} {fuel:Nat} {args:List PV} {bx:List Bx} {F:Env→Prop} (hm:P.follows .mixedOrders=true) (hc:zt P f=true)
 (he:∀ E,F E=zLJ P sh f full Q N H fuel args bx E) (h:∀ E,F E):XCalls P f full args bx N Q:=zQc hm hc fun E=>he E ▸ h E
end Go.Proofs.YtnpjpplbkoammaaGreat
set_option maxRecDepth 100000
namespace Go.Proofs.YtnpjpplbkoammaaGreat
open Go Go.Proofs Go.Proofs.Tryz
def sh:FuncId→List Sh:=fun f=>zPk f [(3,[.bool]),(4,[.int .i64]),(5,[.int .i64]),(6,[.sl 9]),(7,[.sl 4]),(8,[.ag 9]),(9,[.sl 9]),(10,[.bool]),(11,[.bool]),(12,[.bool]),(13,[.int .i64]),(14,[.int .i64]),(15,[.int .i64]),(16,[.int .i64]),(17,[.int .i64]),(18,[.int .i64]),(19,[.int .i64]),(20,[.ag 2,.bool]),(21,[.sl 9]),(22,[.sl 0]),(23,[.bool]),(24,[.int .i64]),(25,[.int .i64]),(26,[.pk,.int .i64,.str,.str,.int .i64,.dc,.dc,.dc,.dc,.row 39 9]),(27,[.ag 4]),(28,[.ag 2]),(29,[.sl 9]),(30,[.ag 2,.bool]),(31,[.sl 9]),(32,[.sl 0]),(33,[.bool]),(34,[.bool]),(35,[.bool]),(36,[.row 1 1000007]),(37,[.int .i64]),(38,[.int .i64]),(39,[.bool]),(40,[.bool]),(41,[.str]),(42,[.int .i64]),(43,[.int .i64]),(44,[.int .i64]),(45,[.int .i64]),(46,[.bool]),(47,[.bool]),(48,[.bool]),(49,[.ag 2,.bool]),(50,[.sl 4]),(51,[.bool]),(52,[.sl 0]),(53,[.bool]),(54,[.ag 2]),(55,[.sl 2]),(56,[.bool]),(57,[.bool]),(58,[.bool]),(59,[.bool]),(60,[.bool]),(61,[.ag 2,.bool]),(62,[.bool]),(63,[.pk,.int .i64,.str,.str,.int .i64,.dc,.dc,.dc,.dc,.row 39 9]),(64,[.sl 0]),(65,[.bool]),(66,[.bool]),(67,[.int .i64]),(68,[.row 1 1000007]),(69,[.bool]),(70,[.bool]),(71,[.bool]),(72,[.int .i64]),(73,[.int .i64]),(74,[.int .i64]),(75,[.bool]),(76,[.bool]),(77,[.ag 2,.bool]),(78,[.bool]),(79,[.sl 0]),(80,[.row 9 0]),(81,[.bool]),(82,[.bool]),(83,[.bool]),(84,[.int .i64]),(85,[.bool]),(86,[.int .i64]),(87,[.bool]),(88,[.bool]),(89,[.ag 2]),(90,[.bool]),(91,[.row 9 0]),(92,[.bool]),(93,[.bool]),(94,[.pk,.int .i64,.str,.str,.int .i64,.dc,.dc,.dc,.dc,.row 39 9]),(95,[.row 9 0]),(96,[.bool]),(97,[.row 1 1000007]),(98,[.row 1 1000007]),(99,[.int .i64]),(100,[.bool]),(101,[.int .i64]),(102,[.int .i64]),(103,[.ag 2]),(104,[.ag 2]),(105,[.ag 2,.bool]),(106,[.ag 2,.bool]),(107,[.ag 2,.bool]),(108,[.int .i64]),(109,[.int .i64]),(110,[.bool]),(111,[.sl 0,.int .i64]),(112,[.sl 0]),(113,[.int .i64]),(114,[.bool]),(115,[.bool]),(116,[.bool]),(117,[.bool]),(118,[.bool]),(119,[.bool]),(120,[.ag 2]),(121,[.int .i64]),(122,[.sl 0,.int .i64]),(123,[.row 0 1000007,.bk 0]),(124,[.bool]),(125,[.row 9 0]),(126,[.pk,.int .i64,.str,.str,.int .i64,.dc,.dc,.dc,.dc,.bk 1]),(127,[.row 1 1000007]),(128,[.bool]),(129,[.bool]),(130,[.int .i64]),(131,[.sl 4]),(132,[.ag 2]),(133,[.sl 4]),(134,[.int .i64]),(135,[.ag 2]),(136,[.ag 2,.bool]),(137,[.int .i64]),(138,[.bool]),(139,[.int .i64]),(140,[.int .i64]),(141,[.int .i64]),(142,[.bool]),(143,[.bool]),(144,[.int .i64]),(145,[.ag 2]),(146,[.int .i64]),(147,[.ag 2]),(148,[.ag 2]),(149,[.ag 2]),(150,[.ag 2]),(151,[.sl 4]),(152,[.ag 2]),(153,[.ag 2]),(154,[.sl 0]),(155,[.row 1 1000007]),(156,[.int .i64]),(157,[.bool]),(158,[.bool]),(159,[.bool]),(160,[.row 88 4]),(161,[.ag 2]),(162,[.ag 2]),(163,[.sl 4]),(164,[.row 9 0]),(165,[.int .i64])]
theorem zOt:prog.follows .mixedOrders=true:=by kernel_rfl
theorem eE {f:FuncId} {rs:List Sh} {Q:QT rs} {N:Nat} {H:Hint} {args:List PV} {F:Prop} (hc:zt prog f=true) (he:F=zK7 prog sh f rs Q N H 400 args) (h:F):ACalls prog f rs args N Q:=zRL zOt hc he h
theorem bE {f:FuncId} {full:List Sh} {Q:QT full} {N:Nat} {H:Hint} {args:List PV} {bx:List Bx} {F:Env→Prop} (hc:zt prog f=true) (he:∀ E,F E=zK6 prog sh f full Q N H 400 args bx E) (h:∀ E,F E):BCalls prog f full args bx N Q:=zQF zOt hc he h
theorem xE {f:FuncId} {full:List Sh} {Q:QT full} {N:Nat} {H:Hint} {args:List PV} {bx:List Bx} {F:Env→Prop} (hc:zt prog f=true) (he:∀ E,F E=zLJ prog sh f full Q N H 400 args bx E) (h:∀ E,F E):XCalls prog f full args bx N Q:=zQM zOt hc he h
theorem hE {f:FuncId} {rs:List Sh} {Q:QT rs} {N0:Nat} {M:Mode} {H:Hint} {items:List Item} {st:St} {F:Prop} (he:F=zBS st fun st=>W prog sh f rs Q N0 M H 400 true items st) (h:F):AT prog f rs Q N0 M items st:=zRm zOt he h
end Go.Proofs.YtnpjpplbkoammaaGreat
