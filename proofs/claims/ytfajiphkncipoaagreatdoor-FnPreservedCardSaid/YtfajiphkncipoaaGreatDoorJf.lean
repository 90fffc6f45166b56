/- Calls that write the data that they are handed. -/
import Derived.Test.YtfajiphkncipoaaGreatDoorJq
set_option linter.unusedVariables false
set_option linter.unusedSimpArgs false
namespace Go.Proofs.YtfajiphkncipoaaGreatDoor
open Go
variable {av:Nat->Prop} {P:Program} {w0 w w':World} {e0 e:Env} {pS pS' pB pB':List Nat} {a:Act} {st st':St}
mutual
/-- every slice in it begins its block -/
def D.Flat0:D->Prop
 | .lit _=>True
 | .ag cs=>xr cs
 | .sl a _ es _=>(∀ ad,a=some ad->ad.off=0)/\xr es
 | .pt ..=>False
 | .fn ..=>False
 | .mp ..=>False
def xr:List D->Prop
 | []=>True
 | d::ds=>d.Flat0/\xr ds
end
def D.elems:D->List D
 | .sl _ _ es _=>es
 | _=>[]
theorem Good.apart {F:List Nat} {live:Nat->Prop} (hold:∀ b,b<w.heap.size->b∉F->w'.heap[b]?=w.heap[b]?) {x:D} (h:Good w live x) (J:∀ b∈x.foot,b∉F):Good w' live x:=
 ⟨h.1.mono λb I=>hold b (h.1.lt b I) (J b I),h.2⟩
variable {av:Nat->Prop} {P:Program} {w0 w w':World} {e0 e:Env} {pS pS' pB pB':List Nat} {a:Act} {st st':St}
variable {av:Nat->Prop} {P:Program} {w0 w w':World} {e0 e:Env} {pS pS' pB pB':List Nat} {a:Act} {st st':St}
def zIf (N0:Option Nat) (fs fb:List Nat):List Nat->St->(St->Prop)->Prop
 | [],st,K=>K st
 | k::ks,st,K=>zNS N0 st k fs fb λst'=>zIf N0 fs fb ks st' K
def zUs (ops:Array Oper) (pf:Pend) (t:Nat):Bool:=pf.all λx=>match qo ops x.1 with
 | some d=>!(d==t)
 | none=>true
/-- the rows that these slots name are closed -/
def qh (N0:Option Nat) (ops:Array Oper) (pf:Pend) (cl fs:List Nat) (st:St) (K:St->Prop):Prop:=
 match cl with
 | []=>K st
 | t :: cl=>match (zA1 st.bx 200 ((t::cl).flatMap λt=>(st.sl.getD t .any).refs) []).filter (zTI st) with
   | []=>K st
   | k::ks=>match zPR ops (k::ks) st pf&&((t::cl)++fs).all (zUs ops pf) with
     | true=>zIf N0 fs (zA1 st.bx 200 (fs.flatMap λt=>(st.sl.getD t .any).refs) []) (k::ks) st K
     | false=>False
theorem Stp.trans {T:List Nat} {st I st2:St} (J:Stp T T none st I) (O:Stp T T none I st2):Stp T T none st st2:=
 ⟨λi p hi hp U=>O.sl i p hi (J.sl i p hi hp U) U,λk B hk Y h4=>O.bx k B (J.bx k B hk Y h4) Y h4,oO J.bl O.bl,O.ll.trans J.ll⟩
theorem Stp.wide {T I:List Nat} {dst:Option Nat} (h:Stp T T dst st st') (J:∀ k∈T,k∈I):Stp I I dst st st':=
 ⟨λi p hi Y O=>h.sl i p hi Y λk U=>O k (J k U),λk B O h3 h4=>h.bx k B O (λhc=>h3 (J k hc)) λj hj=>h4 j (J j hj),h.bl,h.ll⟩
theorem zJY {k z:Nat} {s p:PV} (h:k∉p.refs):zMh k s z p=p:=by
 cases p<;>simp only [zMh]<;>first
  | exact zDi h
  | (simp [PV.refs] at h;rw [if_neg (Ne.symm h)])
theorem zPr {k z:Nat} {s p:PV} (h:k∉p.refs):Proofs.YtfajiphkncipoaaGreatDoor.clo k s z p=p:=by
 cases p
 case pg cs=>
  simp only [Proofs.YtfajiphkncipoaaGreatDoor.clo]
  rw [if_neg]
  simpa [PV.refs] using h
 all_goals exact @zJY k z s _ h
theorem stp_clo {k z N:Nat} {s:PV}:Stp [k] [k] none st (st.clo k s z N):=by
 refine ⟨λi p _ I J=>?_,λj B O U Y=>?_,by simp [St.clo],by simp [St.clo]⟩
 ·simp only [St.clo,oE,I,oa,zPr (J k (by simp))]
 ·simp only [St.clo]
  rw [o7 (by simp at U;omega),oE,O]
  simp only [oa]
  congr 1
  cases B with
  | var cs=>
    simp only [Bx.clo]
    congr 1
    conv=>rhs;rw [<-List.map_id cs]
    refine o5 λp I=>zJY λhc=>Y k (by simp) ?_
    simp only [Bx.refs];exact PV.refsL_mem.2 ⟨p,I,hc⟩
  | _=>rfl
theorem rN {N0:Option Nat} (I:NOk N0 w0) {fs fb:List Nat} {K:St->Prop} (J:∀ i∈fs,i∉pS) (O:∀ i∈fb,i∉pB) :
  ∀ (ks:List Nat) (st:St),Rel av w0 e0 pS pB a w e st->(∀ k∈ks,k∉pB)->zIf N0 fs fb ks st K->∃ st',K st'/\Stp ks ks none st st'/\Rel av w0 e0 pS pB a w e st'
 | [],st,h,_,hs=>⟨st,hs,Stp.rfl',h⟩
 | k::ks,st,h,U,hs=>by
   simp only [zIf] at hs
   obtain ⟨s,z,N,Y,h2,_⟩:=zJh h I (U k (by simp)) J O hs
   obtain ⟨st',h3,h4,h5⟩:=rN I J O ks _ h2 (λj hj=>U j (by simp [hj])) Y
   exact ⟨st',h3,(stp_clo.wide (by simp)).trans (h4.wide λk U=>by simp [U]),h5⟩
theorem zOn {ops:Array Oper} {pf:Pend} {t:Nat} (h:zUs ops pf t=true):∀ x∈pf,qo ops x.1≠some t:=by
 intro x I hc
 have:=oV.1 h x I
 rw [hc] at this
 simp at this
theorem vZ (h:Rel av w0 e0 pS pB a w e st) {N0:Option Nat} (aa:NOk N0 w0) {ops:Array Oper} {pf:Pend} (ab:∀ t∈pS,∃ x∈pf,qo ops x.1=some t) {cl fs:List Nat} {K:St->Prop} (hs:qh N0 ops pf cl fs st K) :
  ∃ st' T,K st'/\Stp T T none st st'/\zPR ops T st pf=true/\Rel av w0 e0 pS pB a w e st':=by
 unfold qh at hs
 split at hs
 ·exact ⟨st,[],hs,Stp.rfl',rfl,h⟩
 ·rename_i t cl
  split at hs
  ·exact ⟨st,[],hs,Stp.rfl',rfl,h⟩
  ·rename_i k ks ac
   split at hs
   ·rename_i U
    simp only [oI] at U
    obtain ⟨h1,h2⟩:=U
    have J:∀ i∈(t::cl)++fs,i∉pS:=λi hi hc=>by
     obtain ⟨x,hx,hd⟩:=ab i hc
     exact zOn (oV.1 h2 i hi) x hx hd
    have Y:∀ i,i∈(t::cl)++fs->∀ j∈(st.sl.getD i .any).refs,j∉pB:=λi hi j I=>by
     rw [oA] at I
     cases hp:st.sl[i]? with
     | none=>rw [hp] at I;simp [PV.refs] at I
     | some p=>rw [hp] at I;exact (h.sr i p hp (J i hi) j I).1
    have O:∀ l:List Nat,(∀ i∈l,i∈(t::cl)++fs)->∀ j∈zA1 st.bx 200 (l.flatMap λt=>(st.sl.getD t .any).refs) [],j∉pB:=λl hl=>by
     refine zAp (A:=λj=>j∉pB) (λk hk j I=>?_) _ _ _ (λj I=>?_) (by simp)
     ·rw [oA] at I
      cases hB:st.bx[k]? with
      | none=>rw [hB] at I;simp [Bx.refs] at I
      | some B=>rw [hB] at I;exact (h.bf k B hB hk j I).1
     ·obtain ⟨i,hi,I⟩:=ny.1 I
      exact Y i (hl i hi) j I
    obtain ⟨st',g1,g2,g3⟩  :=rN aa (λi hi=>J i (nF _ hi)) (O fs λi hi=>nF _ hi) (k::ks) st h (λj I=>by
     rw [<-ac] at I
     exact O (t::cl) (λi hi=>oh _ hi) j (mC.1 I).1) hs
    exact ⟨st',_,g1,g2,h1,g3⟩
   ·exact hs.elim
def zQu (ops:Array Oper) (i j:Nat):Bool:=match ops[j]? with
 | some o=>o.after.any λe=>e.on==i&&Region.binds .any e
 | none=>false
/-- the operations that an operation comes behind -/
def zFA (ops:Array Oper) (j:Nat):List Nat:=match ops[j]? with
 | some o=>(o.after.toList.filter (Region.binds .any)).map (·.on)
 | none=>[]
def zRh (ops:Array Oper):Nat->List Nat->List Nat->List Nat
 | 0,_,I=>I
 | _+1,[],I=>I
 | n+1,k::J,I=>match I.contains k with
   | true=>zRh ops n J I
   | false=>zRh ops n (zFA ops k++J) (k::I)
theorem zH0 {ops:Array Oper} {A:Nat->Prop} (U:∀ k,A k->∀ j∈zFA ops k,A j):∀ (n:Nat) (J I:List Nat),(∀ k∈J,A k)->(∀ k∈I,A k)->∀ k∈zRh ops n J I,A k
 | 0,_,I,_,h=>h
 | _+1,[],I,_,h=>h
 | n + 1,k::J,I,O,Y=>by
   simp only [zRh]
   split
   ·exact zH0 U n J I (λj hj=>O j (by simp [hj])) Y
   ·refine zH0 U n _ _ (λj hj=>?_) λj hj=>?_
    ·rcases oK.1 hj with hj | hj
     ·exact U k (O k (by simp)) j hj
     ·exact O j (by simp [hj])
    ·rcases oF.1 hj with rfl | hj
     ·exact O j (by simp)
     ·exact Y j hj
def zPk (I:List Nat) (nv:Pend):Pend:=nv.filter λx=>!I.contains x.1
def zG0 (ops:Array Oper) (j:Nat) (nv:Pend):Pend:=match nv with
 | []=>[]
 | nv=>zPk (zRh ops 1000 (zFA ops j) []) nv
def zSL (P:Program) (sh:FuncId->List Sh) (N0:Option Nat) (ops:Array Oper) (pf:Pend) (en:Ent) (o:Oper) (st:St) (K:St->Prop):Prop:=
 match en.mh with
 | none=>match en.tr with
   | false=>qh N0 ops pf en.cl en.fs st λst=>match safe ops (zLi P sh o st) st pf with
     | true=>zPl P sh o st K
     | false=>False
   | true=>match pf with
     | []=>zPl P sh o st λst=>zN6 st o.dst K
     | _=>False
 | some mh=>match pf with
   | []=>False
   | _=>False
def zUg (o:Oper) (st:St):Bool:=o.op.operands.toList.all λy=>(opd st.sl y).refs.all λk=>decide (k<st.bx.length)
def Res.bk (r:Res) (n:Nat):Option Nat:=match r with
 | .v _=>none
 | .b ..=>some n
def zLg (P:Program) (sh:FuncId->List Sh) (N0:Option Nat) (ops:Array Oper):List Ent->Pend->St->(St->Prop)->Prop
 | [],_,st,K=>K st
 | en :: l,nv,st,K=>match ops[en.i]? with
   | none=>False
   | some o=>match en.hard with
     | true=>zOs ops o st (λst=>zSL P sh N0 ops (zG0 ops en.i nv) en o st λst=>zLg P sh N0 ops l nv st K) (λst=>zLg P sh N0 ops l nv (st.put o.dst (.tp [])) K)
     | false=>zOs ops o st (λst=>match zRM o.op&&zUg o st with
      | true=>nev P (opd st.sl) (λk=>st.bx[k]?) o.op o.type λr=>zLg P sh N0 ops l ((en.i,r.bk st.bx.length)::nv) (st.push o.dst r) K
      | false=>False) (λst=>zLg P sh N0 ops l ((en.i,none)::nv) (st.put o.dst (.tp [])) K)
theorem zEL {bx:List Bx}:ValOk av w e pB bx undef (.tp []):=⟨.inr rfl,by simp [PV.Ok,PV.OkL],by simp [PV.refs,PV.refsL]⟩
theorem tG {ops:Array Oper} {o:Oper} {y:Operand} {t:Nat} (I:y∈o.op.operands) (J:y=.tmp t):t∈o.looksAt ops:=by
 subst J
 exact oh _ (nW.2 ⟨.tmp t,ol.2 I,rfl⟩)
/-- a hard entry, carried out -/
theorem zJU (h:Rel av w0 e0 pS pB a w e st) {N0:Option Nat} (hN0:NOk N0 w0) (hpl:∀ k∈pB,k<st.bx.length) {sh:FuncId->List Sh} {ops:Array Oper} {pf:Pend} (hpf:∀ t∈pS,∃ x∈pf,qo ops x.1=some t) (hpb:∀ k∈pB,∃ x∈pf,x.2=some k)
  {en:Ent} {o:Oper} (ho:ops[en.i]?=some o) (hl:∀ t∈o.looksAt ops,t∉pS) {K:St->Prop}
  (hs:zOs ops o st (fun st=>zSL P sh N0 ops pf en o st K) (fun st=>K (st.put o.dst (.tp [])))) {next:Act->World->Prop} {Q:Exit->Act->World->Prop}
  (hn:∀ v w' e' st',K st'->st.bx.length<=st'.bx.length->(∀ x∈pf,∀ ox,ops[x.1]?=some ox->zSd ops P st ox x.2->(∀ d,o.dst=some d->d∉ox.looksAt ops/\ox.dst≠some d)->zSd ops P st' ox x.2) ->
   Rel av w0 e0 pS pB (a.put o.dst v) w' e' st'->next (a.put o.dst v) w'):wpOp P ops Q en.i next a w:=by
 unfold wpOp
 rw [ho]
 simp only
 rcases zGC hs with ⟨hw,hs⟩ | ⟨hw,hs⟩
 ·rw [if_pos (zIy h hw hl)]
  refine .inl ?_
  unfold zSL at hs
  split at hs
  rotate_left
  ·split at hs
   rotate_left
   ·exact hs.elim
   have e1:pS=[]:=nL.2 fun t ht=>by obtain ⟨x,hx,_⟩:=hpf t ht;simp at hx
   have e2:pB=[]:=nL.2 fun t ht=>by obtain ⟨x,hx,_⟩:=hpb t ht;simp at hx
   subst e1;subst e2
   have hn':=fun v w' e' st' g1 g2 g3=>hn v w' e' st' g1 g2 (fun x hx=>by simp at hx) g3
   exact hs.elim
  split at hs
  rotate_left
  ·split at hs
   rotate_left
   ·exact hs.elim
   have e1:pS=[]:=nL.2 fun t ht=>by obtain ⟨x,hx,_⟩:=hpf t ht;simp at hx
   have e2:pB=[]:=nL.2 fun t ht=>by obtain ⟨x,hx,_⟩:=hpb t ht;simp at hx
   subst e1;subst e2
   refine zIw h hpl (fun y hy t ht=>hl t (tG hy ht)) hs fun v w' e' st' g1 g2 g3=>?_
   obtain ⟨st2,k1,k2,k3⟩:=zJx g3 g1
   exact hn v w' e' st2 k1 (by rw [k3];exact g2.bl) (fun x hx=>by simp at hx) k2
  obtain ⟨st1,T,h1,h2,h3,h4⟩:=vZ h hN0 hpf hs
  split at h1
  ·rename_i hsf
   refine zIw h4 (fun k hk=>o6 (hpl k hk) h2.bl) (fun y hy t ht=>hl t (tG hy ht)) h1 fun v w' e' st' g1 g2 g3=>hn v w' e' st' g1 (oO h2.bl g2.bl) (fun x hx ox hox hk hd=>?_) g3
   exact zDJ (zDJ hk h2 (fun _ h=>h) (.inl (zMQ h3 hx hox)) fun d hd=>by cases hd) g2 zQe (zOh hsf hx hox) hd
  ·exact h1.elim
 ·rw [if_neg (by rw [zJW h hw hl];simp)]
  exact hn undef w e _ hs (by cases o.dst<;>exact oD _) (fun x hx ox hox hk hd=>zDJ hk (Stp.put (T:=[]) (TA:=[]) Stp.rfl' _) (fun _ h=>h) (.inl zDK) hd) (wF h zEL fun i hi _=>hi)
theorem zIo {N0:Option Nat} (I:NOk N0 w0) {sh:FuncId->List Sh} {ops:Array Oper} {K:St->Prop} {Q:Exit->Act->World->Prop} (O:∀ a w e st,K st->Rel av w0 e0 [] [] a w e st->Q .normal a w) :
  ∀ (l:List Ent) (a:Act) (w:World) (e:Env) (st:St),(∀ en∈l,en.hard=true)->Rel av w0 e0 [] [] a w e st->zLg P sh N0 ops l [] st K->wpOps P ops Q (l.map (·.i)) a w
 | [],a,w,e,st,_,h,hs=>O a w e st hs h
 | en::l,a,w,e,st,U,h,hs=>by
   rw [nN,wpOps_cons]
   simp only [zLg] at hs
   cases J:ops[en.i]? with
   | none=>rw [J] at hs;exact hs.elim
   | some o=>
     rw [J] at hs
     simp only [U en (by simp)] at hs
     exact zJU h I (by simp) (by simp) (by simp) J (by simp) hs λv w' e' st' Y _ _ h2=>zIo I O l _ _ _ _ (λx hx=>U x (by simp [hx])) h2 Y
/-- entries in order, all of them hard -/
def zJy (n:Nat) (l:List Ent):Bool:=(l.map (·.i))==List.range n&&l.all (·.hard)
theorem zMP {N0:Option Nat} (I:NOk N0 w0) {sh:FuncId->List Sh} {id:Nat} {ops:Array Oper} {l:List Ent} {K:St->Prop} {Q:Exit->Act->World->Prop} (J:zJy ops.size l=true) (h:Rel av w0 e0 [] [] a w e st)
  (hs:zLg P sh N0 ops l [] st K) (O:∀ a w e st,K st->Rel av w0 e0 [] [] a w e st->Q .normal a w):(Code.region id ops false).wp P Q a w:=by
 simp only [zJy,oI,nw,oV] at J
 refine wp_region ?_
 rw [<-J.1]
 exact zIo I O l a w e st J.2 h hs
end Go.Proofs.YtfajiphkncipoaaGreatDoor
