/- Calls that write the data that they are handed. -/
import Derived.Test.YtnmnahkkcfghjaaGreatJq
set_option linter.unusedVariables false
set_option linter.unusedSimpArgs false
namespace Go.Proofs.YtnmnahkkcfghjaaGreat
open Go
variable {av:Nat->Prop} {P:Program} {w0 w w':World} {e0 e:Env} {pS pS' pB pB':List Nat} {a:Act} {st st':St}
mutual
/-- every slice in it begins its block -/
def D.Flat0:D->Prop
 | .lit _=>True
 | .ag cs=>xa cs
 | .sl a _ es _=>(∀ ad,a=some ad->ad.off=0)/\xa es
 | .pt ..=>False
 | .fn ..=>False
 | .mp ..=>False
def xa:List D->Prop
 | []=>True
 | d::ds=>d.Flat0/\xa ds
end
def D.elems:D->List D
 | .sl _ _ es _=>es
 | _=>[]
theorem Good.apart {F:List Nat} {live:Nat->Prop} (hold:∀ b,b<w.heap.size->b∉F->w'.heap[b]?=w.heap[b]?) {x:D} (h:Good w live x) (J:∀ b∈x.foot,b∉F):Good w' live x:=
 ⟨h.1.mono λb I=>hold b (h.1.lt b I) (J b I),h.2⟩
variable {av:Nat->Prop} {P:Program} {w0 w w':World} {e0 e:Env} {pS pS' pB pB':List Nat} {a:Act} {st st':St}
variable {av:Nat->Prop} {P:Program} {w0 w w':World} {e0 e:Env} {pS pS' pB pB':List Nat} {a:Act} {st st':St}
def zGq (N0:Option Nat) (fs fb:List Nat):List Nat->St->(St->Prop)->Prop
 | [],st,K=>K st
 | k::ks,st,K=>zLB N0 st k fs fb λst'=>zGq N0 fs fb ks st' K
def zTE (ops:Array Oper) (pf:Pend) (t:Nat):Bool:=pf.all λx=>match rm ops x.1 with
 | some d=>!(d==t)
 | none=>true
/-- the rows that these slots name are closed -/
def ri (N0:Option Nat) (ops:Array Oper) (pf:Pend) (cl fs:List Nat) (st:St) (K:St->Prop):Prop:=
 match cl with
 | []=>K st
 | t :: cl=>match (pc st.bx 200 ((t::cl).flatMap λt=>(st.sl.getD t .any).refs) []).filter (zRR st) with
   | []=>K st
   | k::ks=>match zNI ops (k::ks) st pf&&((t::cl)++fs).all (zTE ops pf) with
     | true=>zGq N0 fs (pc st.bx 200 (fs.flatMap λt=>(st.sl.getD t .any).refs) []) (k::ks) st K
     | false=>False
theorem Stp.trans {T:List Nat} {st I st2:St} (J:Stp T T none st I) (O:Stp T T none I st2):Stp T T none st st2:=
 ⟨λi p hi hp U=>O.sl i p hi (J.sl i p hi hp U) U,λk B hk Y h4=>O.bx k B (J.bx k B hk Y h4) Y h4,oN J.bl O.bl,O.ll.trans J.ll⟩
theorem Stp.wide {T I:List Nat} {dst:Option Nat} (h:Stp T T dst st st') (J:∀ k∈T,k∈I):Stp I I dst st st':=
 ⟨λi p hi Y O=>h.sl i p hi Y λk U=>O k (J k U),λk B O h3 h4=>h.bx k B O (λhc=>h3 (J k hc)) λj hj=>h4 j (J j hj),h.bl,h.ll⟩
theorem zHc {k z:Nat} {s p:PV} (h:k∉p.refs):zKT k s z p=p:=by
 cases p<;>simp only [zKT]<;>first
  | exact zCB h
  | (simp [PV.refs] at h;rw [if_neg (Ne.symm h)])
theorem zNj {k z:Nat} {s p:PV} (h:k∉p.refs):Proofs.YtnmnahkkcfghjaaGreat.clo k s z p=p:=by
 cases p
 case pg cs=>
  simp only [Proofs.YtnmnahkkcfghjaaGreat.clo]
  rw [if_neg]
  simpa [PV.refs] using h
 all_goals exact @zHc k z s _ h
theorem stp_clo {k z N:Nat} {s:PV}:Stp [k] [k] none st (st.clo k s z N):=by
 refine ⟨λi p _ I J=>?_,λj B O U Y=>?_,by simp [St.clo],by simp [St.clo]⟩
 ·simp only [St.clo,oE,I,ob,zNj (J k (by simp))]
 ·simp only [St.clo]
  rw [ow (by simp at U;omega),oE,O]
  simp only [ob]
  congr 1
  cases B with
  | var cs=>
    simp only [Bx.clo]
    congr 1
    conv=>rhs;rw [<-List.map_id cs]
    refine o6 λp I=>zHc λhc=>Y k (by simp) ?_
    simp only [Bx.refs];exact PV.refsL_mem.2 ⟨p,I,hc⟩
  | _=>rfl
theorem sI {N0:Option Nat} (I:NOk N0 w0) {fs fb:List Nat} {K:St->Prop} (J:∀ i∈fs,i∉pS) (O:∀ i∈fb,i∉pB) :
  ∀ (ks:List Nat) (st:St),Rel av w0 e0 pS pB a w e st->(∀ k∈ks,k∉pB)->zGq N0 fs fb ks st K->∃ st',K st'/\Stp ks ks none st st'/\Rel av w0 e0 pS pB a w e st'
 | [],st,h,_,hs=>⟨st,hs,Stp.rfl',h⟩
 | k::ks,st,h,U,hs=>by
   simp only [zGq] at hs
   obtain ⟨s,z,N,Y,h2,_⟩:=zHj h I (U k (by simp)) J O hs
   obtain ⟨st',h3,h4,h5⟩:=sI I J O ks _ h2 (λj hj=>U j (by simp [hj])) Y
   exact ⟨st',h3,(stp_clo.wide (by simp)).trans (h4.wide λk U=>by simp [U]),h5⟩
theorem zMb {ops:Array Oper} {pf:Pend} {t:Nat} (h:zTE ops pf t=true):∀ x∈pf,rm ops x.1≠some t:=by
 intro x I hc
 have:=oZ.1 h x I
 rw [hc] at this
 simp at this
theorem ww (h:Rel av w0 e0 pS pB a w e st) {N0:Option Nat} (aa:NOk N0 w0) {ops:Array Oper} {pf:Pend} (ab:∀ t∈pS,∃ x∈pf,rm ops x.1=some t) {cl fs:List Nat} {K:St->Prop} (hs:ri N0 ops pf cl fs st K) :
  ∃ st' T,K st'/\Stp T T none st st'/\zNI ops T st pf=true/\Rel av w0 e0 pS pB a w e st':=by
 unfold ri at hs
 split at hs
 ·exact ⟨st,[],hs,Stp.rfl',rfl,h⟩
 ·rename_i t cl
  split at hs
  ·exact ⟨st,[],hs,Stp.rfl',rfl,h⟩
  ·rename_i k ks ac
   split at hs
   ·rename_i U
    simp only [oG] at U
    obtain ⟨h1,h2⟩:=U
    have J:∀ i∈(t::cl)++fs,i∉pS:=λi hi hc=>by
     obtain ⟨x,hx,hd⟩:=ab i hc
     exact zMb (oZ.1 h2 i hi) x hx hd
    have Y:∀ i,i∈(t::cl)++fs->∀ j∈(st.sl.getD i .any).refs,j∉pB:=λi hi j I=>by
     rw [oA] at I
     cases hp:st.sl[i]? with
     | none=>rw [hp] at I;simp [PV.refs] at I
     | some p=>rw [hp] at I;exact (h.sr i p hp (J i hi) j I).1
    have O:∀ l:List Nat,(∀ i∈l,i∈(t::cl)++fs)->∀ j∈pc st.bx 200 (l.flatMap λt=>(st.sl.getD t .any).refs) [],j∉pB:=λl hl=>by
     refine pR (A:=λj=>j∉pB) (λk hk j I=>?_) _ _ _ (λj I=>?_) (by simp)
     ·rw [oA] at I
      cases hB:st.bx[k]? with
      | none=>rw [hB] at I;simp [Bx.refs] at I
      | some B=>rw [hB] at I;exact (h.bf k B hB hk j I).1
     ·obtain ⟨i,hi,I⟩:=nq.1 I
      exact Y i (hl i hi) j I
    obtain ⟨st',g1,g2,g3⟩  :=sI aa (λi hi=>J i (nT _ hi)) (O fs λi hi=>nT _ hi) (k::ks) st h (λj I=>by
     rw [<-ac] at I
     exact O (t::cl) (λi hi=>o0 _ hi) j (ny.1 I).1) hs
    exact ⟨st',_,g1,g2,h1,g3⟩
   ·exact hs.elim
def zOp (ops:Array Oper) (i j:Nat):Bool:=match ops[j]? with
 | some o=>o.after.any λe=>e.on==i&&Region.binds .any e
 | none=>false
/-- the operations that an operation comes behind -/
def zDW (ops:Array Oper) (j:Nat):List Nat:=match ops[j]? with
 | some o=>(o.after.toList.filter (Region.binds .any)).map (·.on)
 | none=>[]
def zPg (ops:Array Oper):Nat->List Nat->List Nat->List Nat
 | 0,_,I=>I
 | _+1,[],I=>I
 | n+1,k::J,I=>match I.contains k with
   | true=>zPg ops n J I
   | false=>zPg ops n (zDW ops k++J) (k::I)
theorem zGE {ops:Array Oper} {A:Nat->Prop} (U:∀ k,A k->∀ j∈zDW ops k,A j):∀ (n:Nat) (J I:List Nat),(∀ k∈J,A k)->(∀ k∈I,A k)->∀ k∈zPg ops n J I,A k
 | 0,_,I,_,h=>h
 | _+1,[],I,_,h=>h
 | n + 1,k::J,I,O,Y=>by
   simp only [zPg]
   split
   ·exact zGE U n J I (λj hj=>O j (by simp [hj])) Y
   ·refine zGE U n _ _ (λj hj=>?_) λj hj=>?_
    ·rcases oJ.1 hj with hj | hj
     ·exact U k (O k (by simp)) j hj
     ·exact O j (by simp [hj])
    ·rcases oF.1 hj with rfl | hj
     ·exact O j (by simp)
     ·exact Y j hj
def zNa (I:List Nat) (nv:Pend):Pend:=nv.filter λx=>!I.contains x.1
def zFJ (ops:Array Oper) (j:Nat) (nv:Pend):Pend:=match nv with
 | []=>[]
 | nv=>zNa (zPg ops 1000 (zDW ops j) []) nv
def zQL (P:Program) (sh:FuncId->List Sh) (N0:Option Nat) (ops:Array Oper) (pf:Pend) (en:Ent) (o:Oper) (st:St) (K:St->Prop):Prop:=
 match en.mh with
 | none=>match en.tr with
   | false=>ri N0 ops pf en.cl en.fs st λst=>match safe ops (zJQ P sh o st) st pf with
     | true=>zNb P sh o st K
     | false=>False
   | true=>match pf with
     | []=>zNb P sh o st λst=>zLw st o.dst K
     | _=>False
 | some mh=>match pf with
   | []=>False
   | _=>False
def zS1 (o:Oper) (st:St):Bool:=o.op.operands.toList.all λy=>(opd st.sl y).refs.all λk=>decide (k<st.bx.length)
def Res.bk (r:Res) (n:Nat):Option Nat:=match r with
 | .v _=>none
 | .b ..=>some n
def zJO (P:Program) (sh:FuncId->List Sh) (N0:Option Nat) (ops:Array Oper):List Ent->Pend->St->(St->Prop)->Prop
 | [],_,st,K=>K st
 | en :: l,nv,st,K=>match ops[en.i]? with
   | none=>False
   | some o=>match en.hard with
     | true=>zMf ops o st (λst=>zQL P sh N0 ops (zFJ ops en.i nv) en o st λst=>zJO P sh N0 ops l nv st K) (λst=>zJO P sh N0 ops l nv (st.put o.dst (.tp [])) K)
     | false=>zMf ops o st (λst=>match zPL o.op&&zS1 o st with
      | true=>nev P (opd st.sl) (λk=>st.bx[k]?) o.op o.type λr=>zJO P sh N0 ops l ((en.i,r.bk st.bx.length)::nv) (st.push o.dst r) K
      | false=>False) (λst=>zJO P sh N0 ops l ((en.i,none)::nv) (st.put o.dst (.tp [])) K)
theorem zCr {bx:List Bx}:ValOk av w e pB bx undef (.tp []):=⟨.inr rfl,by simp [PV.Ok,PV.OkL],by simp [PV.refs,PV.refsL]⟩
theorem ub {ops:Array Oper} {o:Oper} {y:Operand} {t:Nat} (I:y∈o.op.operands) (J:y=.tmp t):t∈o.looksAt ops:=by
 subst J
 exact o0 _ (nW.2 ⟨.tmp t,om.2 I,rfl⟩)
/-- a hard entry, carried out -/
theorem zHY (h:Rel av w0 e0 pS pB a w e st) {N0:Option Nat} (hN0:NOk N0 w0) (hpl:∀ k∈pB,k<st.bx.length) {sh:FuncId->List Sh} {ops:Array Oper} {pf:Pend} (hpf:∀ t∈pS,∃ x∈pf,rm ops x.1=some t) (hpb:∀ k∈pB,∃ x∈pf,x.2=some k)
  {en:Ent} {o:Oper} (ho:ops[en.i]?=some o) (hl:∀ t∈o.looksAt ops,t∉pS) {K:St->Prop}
  (hs:zMf ops o st (fun st=>zQL P sh N0 ops pf en o st K) (fun st=>K (st.put o.dst (.tp [])))) {next:Act->World->Prop} {Q:Exit->Act->World->Prop}
  (hn:∀ v w' e' st',K st'->st.bx.length<=st'.bx.length->(∀ x∈pf,∀ ox,ops[x.1]?=some ox->zQe ops P st ox x.2->(∀ d,o.dst=some d->d∉ox.looksAt ops/\ox.dst≠some d)->zQe ops P st' ox x.2) ->
   Rel av w0 e0 pS pB (a.put o.dst v) w' e' st'->next (a.put o.dst v) w'):wpOp P ops Q en.i next a w:=by
 unfold wpOp
 rw [ho]
 simp only
 rcases zER hs with ⟨hw,hs⟩ | ⟨hw,hs⟩
 ·rw [if_pos (zG6 h hw hl)]
  refine .inl ?_
  unfold zQL at hs
  split at hs
  rotate_left
  ·split at hs
   rotate_left
   ·exact hs.elim
   have e1:pS=[]:=nM.2 fun t ht=>by obtain ⟨x,hx,_⟩:=hpf t ht;simp at hx
   have e2:pB=[]:=nM.2 fun t ht=>by obtain ⟨x,hx,_⟩:=hpb t ht;simp at hx
   subst e1;subst e2
   have hn':=fun v w' e' st' g1 g2 g3=>hn v w' e' st' g1 g2 (fun x hx=>by simp at hx) g3
   exact hs.elim
  split at hs
  rotate_left
  ·split at hs
   rotate_left
   ·exact hs.elim
   have e1:pS=[]:=nM.2 fun t ht=>by obtain ⟨x,hx,_⟩:=hpf t ht;simp at hx
   have e2:pB=[]:=nM.2 fun t ht=>by obtain ⟨x,hx,_⟩:=hpb t ht;simp at hx
   subst e1;subst e2
   refine zG4 h hpl (fun y hy t ht=>hl t (ub hy ht)) hs fun v w' e' st' g1 g2 g3=>?_
   obtain ⟨st2,k1,k2,k3⟩:=zHx g3 g1
   exact hn v w' e' st2 k1 (by rw [k3];exact g2.bl) (fun x hx=>by simp at hx) k2
  obtain ⟨st1,T,h1,h2,h3,h4⟩:=ww h hN0 hpf hs
  split at h1
  ·rename_i hsf
   refine zG4 h4 (fun k hk=>o7 (hpl k hk) h2.bl) (fun y hy t ht=>hl t (ub hy ht)) h1 fun v w' e' st' g1 g2 g3=>hn v w' e' st' g1 (oN h2.bl g2.bl) (fun x hx ox hox hk hd=>?_) g3
   exact zBv (zBv hk h2 (fun _ h=>h) (.inl (zKB h3 hx hox)) fun d hd=>by cases hd) g2 zOX (zMX hsf hx hox) hd
  ·exact h1.elim
 ·rw [if_neg (by rw [zHa h hw hl];simp)]
  exact hn undef w e _ hs (by cases o.dst<;>exact oD _) (fun x hx ox hox hk hd=>zBv hk (Stp.put (T:=[]) (TA:=[]) Stp.rfl' _) (fun _ h=>h) (.inl zBw) hd) (xm h zCr fun i hi _=>hi)
theorem zGy {N0:Option Nat} (I:NOk N0 w0) {sh:FuncId->List Sh} {ops:Array Oper} {K:St->Prop} {Q:Exit->Act->World->Prop} (O:∀ a w e st,K st->Rel av w0 e0 [] [] a w e st->Q .normal a w) :
  ∀ (l:List Ent) (a:Act) (w:World) (e:Env) (st:St),(∀ en∈l,en.hard=true)->Rel av w0 e0 [] [] a w e st->zJO P sh N0 ops l [] st K->wpOps P ops Q (l.map (·.i)) a w
 | [],a,w,e,st,_,h,hs=>O a w e st hs h
 | en::l,a,w,e,st,U,h,hs=>by
   rw [ol,wpOps_cons]
   simp only [zJO] at hs
   cases J:ops[en.i]? with
   | none=>rw [J] at hs;exact hs.elim
   | some o=>
     rw [J] at hs
     simp only [U en (by simp)] at hs
     exact zHY h I (by simp) (by simp) (by simp) J (by simp) hs λv w' e' st' Y _ _ h2=>zGy I O l _ _ _ _ (λx hx=>U x (by simp [hx])) h2 Y
/-- entries in order, all of them hard -/
def zHy (n:Nat) (l:List Ent):Bool:=(l.map (·.i))==List.range n&&l.all (·.hard)
theorem zKA {N0:Option Nat} (I:NOk N0 w0) {sh:FuncId->List Sh} {id:Nat} {ops:Array Oper} {l:List Ent} {K:St->Prop} {Q:Exit->Act->World->Prop} (J:zHy ops.size l=true) (h:Rel av w0 e0 [] [] a w e st)
  (hs:zJO P sh N0 ops l [] st K) (O:∀ a w e st,K st->Rel av w0 e0 [] [] a w e st->Q .normal a w):(Code.region id ops false).wp P Q a w:=by
 simp only [zHy,oG,nK,oZ] at J
 refine wp_region ?_
 rw [<-J.1]
 exact zGy I O l a w e st J.2 h hs
end Go.Proofs.YtnmnahkkcfghjaaGreat
