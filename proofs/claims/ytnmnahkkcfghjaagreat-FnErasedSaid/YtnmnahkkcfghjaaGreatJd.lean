/- Rows that grow: append; a row is opened, a row is closed. -/
import Derived.Test.YtnmnahkkcfghjaaGreatJc
import Derived.Deep.AppendSrc
import Derived.Laws.BitsLemmas
set_option linter.unusedVariables false
set_option linter.unusedSimpArgs false
namespace Go.Proofs.YtnmnahkkcfghjaaGreat
open Go
def PV.kill (k:Nat) (p:PV):PV:=if p.refs.contains k then .any else p
def Bx.kill (k:Nat):Bx->Bx
 | .var cs=>.var (cs.map (PV.kill k))
 | B=>B
def St.kill (k:Nat) (st:St):St:={ st with sl:=st.sl.map (PV.kill k),bx:=st.bx.map (Bx.kill k) }
theorem PV.kill_cases (k:Nat) (p:PV):p.kill k=.any\/(p.kill k=p/\k∉p.refs):=by
 unfold PV.kill
 split
 ·exact .inl rfl
 ·rename_i h;exact .inr ⟨rfl,by simpa using h⟩
theorem sq (k:Nat) (st:St):st.Weak (st.kill k) where
 sl := λi p hi=>by
  simp only [St.kill,oE] at hi
  cases h:st.sl[i]? with
  | none=>simp [h] at hi
  | some q=>
    simp [h] at hi
    rcases PV.kill_cases k q with h1 | h1
    ·exact .inl (by rw [<-hi,h1])
    ·exact .inr (by rw [<-hi,h1.1])
 len:=by simp [St.kill]
 bl:=by simp [St.kill]
 bx := λj B' I=>by
  simp only [St.kill,oE] at I
  cases h:st.bx[j]? with
  | none=>simp [h] at I
  | some B=>
    simp [h] at I
    refine ⟨B,rfl,?_⟩
    cases B with
    | var cs=>
      refine .inr (.inr ⟨cs,_,rfl,I.symm,by simp,λi p hi=>?_⟩)
      simp only [oE] at hi
      cases J:cs[i]? with
      | none=>simp [J] at hi
      | some q=>
        simp [J] at hi
        rcases PV.kill_cases k q with h1 | h1
        ·exact .inl (by rw [<-hi,h1])
        ·exact .inr (by rw [<-hi,h1.1])
    | _=>exact .inr (.inl I.symm)
 N:=oD _
 pin:=rfl
theorem zDO {k:Nat} {st:St}:(∀ (i:Nat) (p:PV),(st.kill k).sl[i]?=some p->k∉p.refs)/\∀ (j:Nat) (B:Bx),(st.kill k).bx[j]?=some B->k∉B.refs:=by
 constructor
 ·intro i p hi
  simp only [St.kill,oE] at hi
  cases h:st.sl[i]? with
  | none=>simp [h] at hi
  | some q=>
    simp [h] at hi
    subst hi
    rcases PV.kill_cases k q with h1 | h1
    ·rw [h1];simp [PV.refs]
    ·rw [h1.1];exact h1.2
 ·intro j B I
  simp only [St.kill,oE] at I
  cases h:st.bx[j]? with
  | none=>simp [h] at I
  | some C=>
    simp [h] at I
    subst I
    cases C with
    | var cs=>
      intro hc
      simp only [Bx.kill,Bx.refs] at hc
      obtain ⟨p,O,J⟩:=PV.refsL_mem.1 hc
      obtain ⟨q,_,rfl⟩:=oQ.1 O
      rcases PV.kill_cases k q with h1 | h1
      ·rw [h1] at J;simp [PV.refs] at J
      ·rw [h1.1] at J;exact h1.2 J
    | _=>simp [Bx.kill,Bx.refs]
theorem zNG {k:Nat} {st:St} {j:Nat} {t:TypeId} {z n:Nat} {es:List D} (h:st.bx[j]?=some (.arr t z es n)):(st.kill k).bx[j]?=some (.arr t z es n):=by
 simp [St.kill,oE,h,Bx.kill]
/-- what is appended -/
def zKc (g:Bool) (rb:Nat->Option Bx) (q:PV) (R:Nat->List D->Prop):Prop:=
 match q with
 | .sb k z lo n _=>match rb k with
   | some (.arr _ z' es _)=>match g with
     | false=>if z=z'/\lo=0/\n=es.length then R z es else False
     | true=>if z=z' then lo+n<=es.length/\R z ((es.drop lo).take n) else False
   | _=>False
 | .sv _ z es _=>R z es
 | _=>False
def zOk (P:Program) (el:TypeId) (z:Nat):Bool:=
 match zBF P el with
 | some cs=>cs.length==ez z
 | none=>false
def zA (es new:List D) (bytes:Nat):Prop:=(es++new).length*bytes<=140737488355328
/-- a snapshot may be appended to where it is nil, or where nothing fits behind it -/
def zLT (a:Option Addr) (es:List D) (c:Nat) (new:List D):Prop:=match a,c with
 | none,0=>True
 | _,_=>c=es.length/\new≠[]
def zA8 (st:St) (k:Nat):Bool:=match st.pins[k]? with
 | some (some _)=>true
 | _=>false
/-- what may be used of the room behind a row -/
def capG (g:Bool) (n c:Nat) (A:Prop):Prop:=match g with
 | false=>A
 | true=>n<=c->A
theorem capG.of {g:Bool} {n c:Nat} {A:Prop} (h:capG g n c A) (hc:n<=c):A:=by
 cases g
 ·exact h
 ·exact h hc
theorem capG.mono {g:Bool} {n c:Nat} {A B:Prop} (h:capG g n c A) (I:A->B):capG g n c B:=by
 cases g
 ·exact I h
 ·exact λhc=>I (h hc)
def apF (g:Bool) (P:Program) (st:St) (dst:Option Nat) (t:TypeId) (x y:Operand) (K:St->Prop):Prop:=
 match P.underlying t with
 | some (.slice el)=>match kz P el,P.info? el with
   | some z,some i=>if i.bytes=0\/zOk P el z=false then False else
     zKc g (λk=>st.bx[k]?) (retag P t (opd st.sl y)) λz2 new=>if z2=z then
      match retag P t (opd st.sl x) with
      | .sb k J lo n c=>match zA8 st k with
        | true=>False
        | false=>match st.bx[k]? with
        | some (.arr t' z' es O)=>if J=z/\z'=z/\lo=0/\t'=el then
         (n=es.length/\c=O)/\zA es new i.bytes/\∀ I,capG g (es++new).length I (K (St.put { st.kill k with bx:=(st.kill k).bx.set k (.arr el z (es++new) I) } dst (.sb k z 0 (es++new).length I))) else False
        | _=>False
      | .sv a J es c=>if J=z then
            zLT a es c new/\zA es new i.bytes/\∀ I,K (St.put { st with bx:=st.bx++[.arr el z (es++new) I] } dst (.sb st.bx.length z 0 (es++new).length I)) else False
      | _=>False
     else False
   | _,_=>False
 | _=>False
variable {av:Nat->Prop} {P:Program} {w0 w w':World} {e0 e:Env} {pS pS' pB:List Nat} {a:Act} {st st':St}
theorem p9 {w:World} {ad:Addr} (hs:ad.spot=none) {c:Array Value} {t:TypeId} {fz:Nat × Nat} (h:w.heap[ad.block]?=some (.cells c t fz)) (j:Nat):w.cell? (ad.add j)=c[ad.off+j]?:=by
 obtain ⟨b,o,s⟩:=ad
 simp only at hs h ⊢
 subst hs
 rw [xA]
 exact tQ h
theorem zOY {z:Nat} {es:List D} (h:∀ e∈es,eOk z e) {lo n:Nat} (O:lo<=es.length) {j:Nat} {u:D} (J:(z9 ((es.drop lo).take n))[j]?=some u):(z9 es)[lo*ez z+j]?=some u:=by
 have e1:es=es.take lo++((es.drop lo).take n++(es.drop lo).drop n):=by rw [ni,ni]
 have I:(z9 (es.take lo)).length=lo*ez z:=by
  rw [zQ (z:=z) λx U=>h x (oh U),o5,Nat.min_eq_left O]
 rw [e1,xL,oS (by rw [I];exact Nat.le_add_right _ _),I,Nat.add_sub_cancel_left,xL,oM (oC.1 J).1]
 exact J
/-- the source: its values, and where they stand -/
theorem zHv {g:Bool} (h:Mem av pB w e st.bx) {v:Value} {q:PV} {R:Nat->List D->Prop} (hv:ValOk av w e pB st.bx v q) (hs:zKc g (λk=>st.bx[k]?) q R) :
  ∃ z new,R z new/\(∀ x∈new,eOk z x/\Good w (zT av pB e st.bx) x) /\
    ((∃ c,v=.slice none new.length c/\new=[])\/∃ ad c,v=.slice (some ad) new.length c/\∀ (j:Nat) (u:Value),((z9 new).map D.cv)[j]?=some u->w.cell? (ad.add j)=some u):=by
 unfold zKc at hs
 split at hs
 ·rename_i k z lo n c
  split at hs
  ·rename_i t z' es cb hk
   split at hs
   rotate_left
   ·split at hs
    rotate_left
    ·exact hs.elim
    rename_i hc
    subst hc
    obtain ⟨ae,hs⟩:=hs
    have U:=(hv.2.2 k (by simp [PV.refs])).1
    have hr:=h.br k _ hk U
    have ab:=h.bo k _ hk U
    have I:=hv.1.resolve_left (by simp)
    have ac:((es.drop lo).take n).length=n:=by simp;omega
    rcases hr with ⟨h1,h2,h3⟩ | ⟨b,c',h1,h2,h3,h4,h5,h6,h7⟩
    ·subst h2
     have ah:n=0:=by simp at ae;omega
     subst ah
     refine ⟨z,[],by simpa using hs,by simp,.inl ⟨c,?_,rfl⟩⟩
     rw [I];simp [PV.val,PV.val1,PV.cv,h1]
    ·have aa:∀ x∈(es.drop lo).take n,x∈es:=λx Y=>ou (oh Y)
     refine ⟨z,_,hs,λx Y=>⟨h6 x (aa x Y),ab x (aa x Y)⟩,.inr ⟨⟨b,lo*ez z,none⟩,c,?_,λj u J=>?_⟩⟩
     ·rw [I,ac];simp [PV.val,PV.val1,PV.cv,h1]
     ·rw [p9 rfl h2]
      simp only [oE] at J
      cases O:(z9 ((es.drop lo).take n))[j]? with
      | none=>simp [O] at J
      | some d=>simp [O] at J;subst J;exact h7 _ d (zOY h6 (by omega) O)
   split at hs
   ·rename_i hc
    obtain ⟨rfl,rfl,rfl⟩:=hc
    have U:=(hv.2.2 k (by simp [PV.refs])).1
    have hr:=h.br k _ hk U
    have ab:=h.bo k _ hk U
    have I:=hv.1.resolve_left (by simp)
    rcases hr with ⟨h1,h2,h3⟩ | ⟨b,c',h1,h2,h3,h4,h5,h6,h7⟩
    ·subst h2
     refine ⟨z,[],hs,by simp,.inl ⟨c,?_,rfl⟩⟩
     rw [I];simp [PV.val,PV.val1,PV.cv,h1]
    ·refine ⟨z,es,hs,λx Y=>⟨h6 x Y,ab x Y⟩,.inr ⟨⟨b,0,none⟩,c,?_,λj u J=>?_⟩⟩
     ·rw [I];simp [PV.val,PV.val1,PV.cv,h1]
     ·rw [p9 rfl h2]
      simp only [oE] at J
      cases O:(z9 es)[j]? with
      | none=>simp [O] at J
      | some d=>simp [O] at J;subst J;simpa using h7 j d O
   ·exact hs.elim
  ·exact hs.elim
 ·rename_i ad z es c
  have I:=hv.1.resolve_left (by simp)
  have hg:=hv.2.1
  simp only [PV.Ok] at hg
  obtain ⟨hh,ai⟩:=id hg
  cases hh with
  | nil=>exact ⟨z,[],hs,by simp,.inl ⟨0,by rw [I];rfl,rfl⟩⟩
  | sl h1 h2 h3 h4 h5=>
    rename_i ad
    refine ⟨z,es,hs,λx Y=>⟨h3 x Y,hg.elem Y⟩,.inr ⟨ad,c,by rw [I];rfl,λj u J=>?_⟩⟩
    simp only [oE] at J
    cases O:(z9 es)[j]? with
    | none=>simp [O] at J
    | some d=>
      simp [O] at J;subst J
      rcases h5 with h5 | ⟨cc,t,fz,h6,h7⟩
      ·rw [h5] at O;simp at O
      ·rw [p9 (h1 λh=>by subst h;simp [z9] at O) h6];exact h7 j d O
 ·exact hs.elim
theorem zCP (t ty el:TypeId) (i:TypeInfo) (I:P.underlying t=some (.slice el)) (hi:P.info? el=some i) (b:Option Addr) (n c J:Nat) (O:n<=c) :
  (Builtin.append_ #[t,t] ty #[.slice b n c,.slice none 0 J]).run P w=.ok (.slice b n c) w:=by
 cases b<;>simp [Builtin.append_,run_underlying I,sizeOf,typeInfo,hi,Builtin.lenOf,O,Builtin.firstCells,loadCells,loadCellsFrom,storeCells]
theorem zCH {z:Nat} {es:List D} (h:∀ e∈es,eOk z e):∀ u∈(z9 es).map D.cv,u.oneCell'=true:=by
 intro u I
 obtain ⟨d,hd,rfl⟩:=oQ.1 I
 exact xH (zHu h d hd)
theorem zIq {t:TypeId} {z:Nat} (h:zOk P t z=true):∃ i v,P.info? t=some i/\i.zero=some v/\v.cells.size=ez z:=by
 unfold zOk at h
 split at h
 ·rename_i cs I
  obtain ⟨i,v,J,O,U,_⟩:=wq I
  have:=(U default []).1
  exact ⟨i,v,J,O,by simp at h this;omega⟩
 ·cases h
theorem yX {l1 l2 l3:List Value} {ds1 I:List D} (O:l1=ds1.map D.cv) (U:l2=I.map D.cv) (i:Nat) (u:D) (Y:(ds1++I)[i]?=some u):(l1++l2++l3)[i]?=some u.cv:=by
 have J:i<(ds1++I).length:=(oC.1 Y).1
 rw [oM (by subst O;subst U;simpa using J),O,U,<-nc,oE,Y];rfl
/-- a row made anew: the relation holds with the box behind it -/
theorem zAf (h:Rel av w0 e0 pS pB a w e st) {el:TypeId} {z n:Nat} {es:List D} {c:Array Value} (hp:st.bx.length∉pB) (J:∀ x∈es,eOk z x/\Good w (zT av pB e st.bx) x)
  (hc:c.size=n*ez z) (hn:es.length<=n) (hm:n<=maxLen) (hf:∀ (i:Nat) (u:D),(z9 es)[i]?=some u->c[i]?=some u.cv)
  {w2:World} (I:w2.heap=w.heap) {dst:Option Nat} (ae:∀ i,i∈pS->some i≠dst->i∈pS') (ah:KU w w2:=by exact ⟨rfl,rfl⟩) :
  Rel av w0 e0 pS' pB (a.put dst (.slice (some ⟨w.heap.size,0,none⟩) es.length n)) (w2.alloc (.cells c el)) (e++[some w.heap.size]) (St.put { st with bx:=st.bx++[.arr el z es n] } dst (.sb st.bx.length z 0 es.length n)):=by
 have O:Rel av w0 e0 pS pB a w2 e st:=by
  have:=zIp h (w':=w2) (by rw [I];exact oD _) (λb _=>by rw [I]) (λb c t z hb hc=>by rw [I] at hc;have:=(oU.1 hc).1;omega) ah
  exact zRJ this (by show st.N<=_;rw [I];exact h.hN)
 have Y:∀ x∈es,eOk z x/\Good w2 (zT av pB e st.bx) x:=λx U=>⟨(J x U).1,(J x U).2.mono (λb _ _=>by rw [I]) (λ_ _=>id)⟩
 have ai:=tH O (B:=.arr el z es n)
 have hL:∀ b,zT av (st.bx.length::pB) (e++[none]) (st.bx++[.arr el z es n]) b->zT av pB e st.bx b:=λb hb=>pN (hb.imp id λ⟨k,hk⟩=>⟨k,(xu h.el).1 hk⟩)
 have nb:NewBox av w2 (e++[none]) (st.bx.length::pB) (st.bx++[.arr el z es n]) (.slice (some ⟨w2.heap.size,0,none⟩) es.length n) (w2.alloc (.cells c el)) (.arr el z es n) (λk=>.sb k z 0 es.length n):={
  val:=λk e' he=>by simp [PV.val,PV.val1,PV.cv,he]
  fr:=λk=>by simp [PV.refs]
  fok:=λk w live=>trivial
  rel:=λe' _=>.inr ⟨w2.heap.size,c,rfl,heap_alloc_new w2 _,Nat.le_of_eq hc.symm,hn,hm,λx U=>(J x U).1,hf⟩
  ok:=λx U=>(Y x U).2.mono (λ_ _ _=>rfl) (λb _=>hL b)
  rf:=by simp [Bx.refs]
  ng:=by simp }
 have aa:=qM ai (k:=st.bx.length) (B:=.arr el z es n) (by simp) (by simp) nb
 have ab:(st.bx.length::pB).filter (·≠st.bx.length)=pB:=by
  rw [List.filter_cons]
  simp only [ne_eq,mB,decide_false,mc,na]
  exact List.filter_eq_self.2 λk hk=>by simp;intro hc;exact hp (hc ▸ hk)
 have ac:(e++[none]).set st.bx.length (some w2.heap.size)=e++[some w2.heap.size]:=by
  rw [<-h.el,List.set_append_right _ _ (oD _)];simp
 rw [ab,ac,I] at aa
 refine xm aa (dst:=dst) (p:=.sb st.bx.length z 0 es.length n) ⟨.inr ?_,trivial,?_⟩ ae
 ·have:Env.at (e++[some w.heap.size]) st.bx.length=some w.heap.size:=by rw [<-h.el];exact Env.at_append_eq
  simp [PV.val,PV.val1,PV.cv,this]
 ·simp [PV.refs];exact hp
/-- a row that is not there yet -/
theorem rR (h:Rel av w0 e0 pS pB a w e st) {el:TypeId} {z:Nat} (hp:st.bx.length∉pB) :
  Rel av w0 e0 pS pB a w (e++[none]) { st with bx:=st.bx++[.arr el z [] 0] }:=by
 have I:=tH h (B:=.arr el z [] 0)
 have ac:Env.at (e++[none]) st.bx.length=none:=by rw [<-h.el];exact Env.at_append_eq
 have U:∀ k,k∈(st.bx.length::pB)↔k=st.bx.length\/k∈pB:=λk=>by simp
 have J:∀ k b,Lives pB (e++[none]) (st.bx++[.arr el z [] 0]) k b->Lives (st.bx.length::pB) (e++[none]) (st.bx++[.arr el z [] 0]) k b:=λk b ⟨h1,h2,h3⟩=>by
  refine ⟨?_,h2,h3⟩
  rw [U]
  rintro (h4 | h4)
  ·rw [h4,ac] at h2;cases h2
  ·exact h1 h4
 have Y:∀ b,zT av pB (e++[none]) (st.bx++[.arr el z [] 0]) b->zT av (st.bx.length::pB) (e++[none]) (st.bx++[.arr el z [] 0]) b:=λb hb=>hb.imp id λ⟨k,O⟩=>⟨k,J k b O⟩
 have aa:∀ (B:Bx),(st.bx++[.arr el z [] 0])[st.bx.length]?=some B->B=.arr el z [] 0:=λB hB=>by
  simp at hB;exact hB.symm
 exact {
  el:=I.el
  br:=λk B O hn=>by
   by_cases ab:k=st.bx.length
   ·subst ab;rw [aa B O];exact .inl ⟨ac,rfl,rfl⟩
   ·exact I.br k B O (by rw [U];rintro (h4 | h4)<;>contradiction)
  bo:=λk B O hn=>by
   by_cases ab:k=st.bx.length
   ·subst ab;rw [aa B O];intro x hx;simp at hx
   ·exact (I.bo k B O (by rw [U];rintro (h4 | h4)<;>contradiction)).mono (λ_ _ _=>rfl) (oD _) λb _=>Y b
  bf:=λk B O hn j hj=>by
   by_cases ab:k=st.bx.length
   ·subst ab;rw [aa B O] at hj;simp [Bx.refs] at hj
   ·have:=I.bf k B O (by rw [U];rintro (h4 | h4)<;>contradiction) j hj
    exact ⟨λhc=>this.1 (by simp [hc]),this.2⟩
  inj:=λk j b O hj=>I.inj k j b (J k b O) (J j b hj)
  ku:=I.ku
  size:=I.size
  old:=I.old
  fz:=I.fz
  nd:=I.nd
  sz:=I.sz
  hN:=I.hN
  hs:=I.hs
  so:=λi p hi hn=>PV.Ok.mono (λ_ _ _=>rfl) (oD _) (λb _=>Y b) p (I.so i p hi hn)
  sr:=λi p hi hn k O=>by
   have:=I.sr i p hi hn k O
   exact ⟨λhc=>this.1 (by simp [hc]),this.2⟩
  own:=λk b O=>I.own k b (J k b O)
  avl:=I.avl
  avn:=λk b O=>I.avn k b (J k b O)
  pin:=λk b hb=>by have:=I.pin k b hb;exact ⟨this.1,λhc=>this.2 (by simp [hc])⟩
  pit:=I.pit }
variable {av:Nat->Prop} {P:Program} {w0 w w':World} {e0 e:Env} {pS pS' pB:List Nat} {a:Act} {st st':St}
theorem zEC {es new:List D} {bytes:Nat} (h:zA es new bytes) (I:bytes≠0):(es++new).length<=140737488355328:=by
 unfold zA at h
 have:(es++new).length*1<=(es++new).length*bytes:=mY _ (by omega)
 omega
theorem Holds.sl_inv {w:World} {a:Option Addr} {z:Nat} {es:List D} {cap:Nat} (h:Holds w (.sl a z es cap)) :
  es.length<=cap/\(∀ x∈es,eOk z x)/\((a=none/\es=[]/\cap=0)\/∃ ad,a=some ad/\(z9 es≠[]->ad.spot=none)/\Row w ad (z9 es)):=by
 cases h with
 | nil=>exact ⟨oD _,by simp,.inl ⟨rfl,rfl,rfl⟩⟩
 | sl I J O h4 U=>exact ⟨J,O,.inr ⟨_,rfl,λY=>I (zPp Y),U⟩⟩
theorem zLp {w:World} {ad:Addr} {ds:List D} (hs:ds≠[]->ad.spot=none) (h:Row w ad ds) (j:Nat) (u:Value) (J:(ds.map D.cv)[j]?=some u):w.cell? (ad.add j)=some u:=by
 simp only [oE] at J
 cases I:ds[j]? with
 | none=>simp [I] at J
 | some d=>
   simp [I] at J;subst J
   rcases h with O | ⟨cc,t,fz,U,Y⟩
   ·rw [O] at I;simp at I
   ·rw [p9 (hs λh=>by rw [h] at I;simp at I) U];exact Y j d I
def zTG (w:World) (x:Option Nat):Prop:=∀ b,x=some b->∃ I t,w.heap[b]?=some (.cells I t (0,0))
def zSJ (w:World) (x:Option Nat) (w':World):Prop:=∀ (b:Nat) (c:Array Value) (t:TypeId) (z:Nat × Nat),(w.heap.size<=b\/x=some b)->w'.heap[b]?=some (.cells c t z)->Fz z
theorem zPW {x:Option Nat} (h:zTG w x):zSJ w x w:=λb c t z hb hc=>by
 rcases hb with hb | hb
 ·have:=(oU.1 hc).1;omega
 ·obtain ⟨I,t',J⟩:=h b hb
  rw [J] at hc;cases hc;exact fz0
theorem zJL {x:Option Nat} (h:zTG w x) {w2:World} (I:w2.heap=w.heap) {c0:Array Value} {t0:TypeId}:zSJ w x (w2.alloc (.cells c0 t0)):=λb c t z hb hc=>by
 by_cases J:b<w.heap.size
 ·rw [pi (by rw [I];exact J),I] at hc
  rcases hb with hb | hb
  ·omega
  ·obtain ⟨U,t',Y⟩:=h b hb
   rw [Y] at hc;cases hc;exact fz0
 ·have O:b=w2.heap.size:=by have:=(oU.1 hc).1;simp at this;rw [I] at this ⊢;omega
  subst O
  rw [zHh] at hc
  cases hc;exact fz0
theorem zRS {b0:Nat} {I J:Array Value} {t0:TypeId} (h:w.heap[b0]?=some (.cells I t0 (0,0))):zSJ w (some b0) (w.setRow b0 J):=λb c t z hb hc=>by
 rcases hb with hb | hb
 ·have:=(oU.1 hc).1;simp [World.setRow] at this;omega
 ·cases hb
  rw [setRow_heap w b0 I J t0 _ h] at hc
  cases hc;exact fz0
theorem zIe {k:Nat} (h:zA8 st k=false):∀ b,(st.kill k).pins[k]?≠some (some b):=λb I=>by
 have I:st.pins[k]?=some (some b):=I
 unfold zA8 at h
 rw [I] at h
 cases h
theorem zBP (t tx ty e:TypeId) (i:TypeInfo) (ht:P.underlying t=some (.slice e)) (hi:P.info? e=some i)
  (g sLen sCap:Nat) (cur:Array Value) (hg:w.heap[g]?=some (.cells cur e (0,0))) (x:Value) (n:Nat) (news:List Value) (hs:Src P i.size tx x n news w)
  (hroom:sLen+n<=sCap) (hfit:sLen*i.size+news.length<=cur.size) :
  (Builtin.append_ #[t,tx] ty #[.slice (some ⟨g,0,none⟩) sLen sCap,x]).run P w =
   .ok (.slice (some ⟨g,0,none⟩) (sLen+n) sCap) (w.setRow g (cur.toList.take (sLen*i.size)++news++cur.toList.drop (sLen*i.size+news.length)).toArray):=by
 have hst:=run_storeCells_at P g (sLen*i.size) e news 0 cur w hg (by simpa using hfit) hs.one
 simp only [mW] at hst
 rcases hs.kind with ⟨e',hk⟩ | hk<;>simp [Builtin.append_,run_underlying ht,run_underlying hk,sizeOf,typeInfo,hi,hs.len,hroom,hs.cells,Addr.add_lit,hst]
/-- onto a row of the call's own, whatever is appended -/
theorem zCF (h:Rel av w0 e0 pS pB a w e st) {dst:Option Nat} {t tx ty el:TypeId} {i:TypeInfo} {zv:Value} {z:Nat} (ae:P.underlying t=some (.slice el)) (hi:P.info? el=some i) (aq:i.zero=some zv) (au:zv.cells.size=ez z) (Y:i.size=ez z) (a4:i.bytes≠0)
  {vx vy:Value} {k c:Nat} {es new:List D} (ox:ValOk av w e pB st.bx vx (.sb k z 0 es.length c)) (a5:zA8 st k=false) (hk:st.bx[k]?=some (.arr el z es c)) (O:∀ x∈new,eOk z x/\Good w (zT av pB e st.bx) x) (hS:Src P i.size tx vy new.length ((z9 new).map D.cv) w)
  (ab:zA es new i.bytes) (a6:∀ i,i∈pS->some i≠dst->i∈pS') :
  ∃ v w' e' c2,(Builtin.append_ #[t,tx] ty #[vx,vy]).run P w=.ok v w'/\(es++new).length<=c2/\Rel av w0 e0 pS' pB (a.put dst v) w' e' (St.put { st.kill k with bx:=(st.kill k).bx.set k (.arr el z (es++new) c2) } dst (.sb k z 0 (es++new).length c2)):=by
 have ah:((z9 new).map D.cv).length=new.length*ez z:=by simp [zQ λx hx=>(O x hx).1]
 have ai:=(ox.2.2 k (by simp [PV.refs])).1
 have ak:k<st.bx.length:=(oC.1 hk).1
 have a7:k<e.length:=by rw [h.el];exact ak
 have hr:=h.br k _ hk ai
 have a8:=h.bo k _ hk ai
 have aw:=ox.1.resolve_left (by simp)
 have ax:=zEC ab a4
 have a9:=zJG h (sq k st)
 have ba:=zNG (k:=k) hk
 obtain ⟨bb,bc⟩:=zDO (k:=k) (st:=st)
 have al:∀ b,zT av pB e (st.kill k).bx b->zT av pB e st.bx b:=λb U=>U.imp id λ⟨j,j1,j2,B,j3,j4⟩=>by
  obtain ⟨B0,g1,g2⟩:=(sq k st).bx j B j3
  refine ⟨j,j1,j2,B0,g1,λhc=>?_⟩
  subst hc
  rcases g2 with g2 | g2 | ⟨_,_,g2,_⟩
  ·exact j4 g2
  ·exact j4 g2
  ·cases g2
 -- what follows once the box has its new row
 have fin:∀ (xx:Option Nat) (w':World) (c2:Nat) (v:Value),(∀ e':Env,Env.at e' k=xx->v=(PV.sb k z 0 (es++new).length c2).val e') ->
   (w.heap.size<=w'.heap.size)->(∀ b,b<w.heap.size->e.at k≠some b->w'.heap[b]?=w.heap[b]?)->(xx=e.at k\/∃ b,xx=some b/\w.heap.size<=b) ->
   Bx.Rel w' (e.set k xx) xx (.arr el z (es++new) c2)->(∀ (b:Nat) (c:Array Value) (t:TypeId) (z:Nat × Nat),(w.heap.size<=b\/e.at k=some b)->w'.heap[b]?=some (.cells c t z)->Fz z)->KU w w'->(Builtin.append_ #[t,tx] ty #[vx,vy]).run P w=.ok v w' ->
   ∃ v w' e' c2,(Builtin.append_ #[t,tx] ty #[vx,vy]).run P w=.ok v w'/\(es++new).length<=c2/\Rel av w0 e0 pS' pB (a.put dst v) w' e' (St.put { st.kill k with bx:=(st.kill k).bx.set k (.arr el z (es++new) c2) } dst (.sb k z 0 (es++new).length c2)):=by
  intro xx w' c2 v hv Y hold hx hB bg bh I
  have ay:Bx.Ok w (zT av pB e (st.kill k).bx) (.arr el z (es++new) c2):=λx hx=>by
   rcases oJ.1 hx with hx | hx
   ·exact (a8 x hx).mono (λ_ _ _=>rfl) (λb _=>al b)
   ·exact (O x hx).2.mono (λ_ _ _=>rfl) (λb _=>al b)
  have bi:=zIB a9 (w':=w') (x:=xx) ba ai (by simp) Y hold
   (hx.imp id λU=>⟨U,λi p hi _=>bb i p hi,λj C hj _ _=>bc j C hj,rfl⟩) (λ_=>rfl) (.inr (zIe a5)) hB ay (by simp [Bx.refs]) bg bh
  refine ⟨v,w',_,c2,I,?_,xm bi (dst:=dst) ⟨.inr (hv _ (Env.at_set_eq a7)),trivial,?_⟩ a6⟩
  ·rcases hB with ⟨_,g2,_⟩ | ⟨_,_,_,_,_,g4,_⟩
   ·rw [g2];simp
   ·exact g4
  simp [PV.refs,St.kill,ai,ak]
 have bj:(es++new).length*ez z=(z9 es).length+new.length*ez z:=by
  rw [oI,o8]
  congr 1
  rcases hr with ⟨_,h2,_⟩ | ⟨b,cc,h1,h2,h3,h4,h5,h6,h7⟩
  ·subst h2;simp [z9]
  ·rw [zQ h6]
 rcases hr with ⟨h1,h2,h3⟩ | ⟨b,aa,h1,h2,h3,h4,h5,h6,h7⟩
 ·-- no row yet
  subst h2;subst h3
  have ac:vx=.slice none 0 0:=by rw [aw];simp [PV.val,PV.val1,PV.cv,h1]
  by_cases hm:new.length=0
  ·have bm:new=[]:=oP hm
   subst bm
   refine fin none w 0 (.slice none 0 0) (λe' he=>by simp [PV.val,PV.val1,PV.cv,he]) (oD _) (λ_ _ _=>rfl) (.inl h1.symm) (.inl ⟨rfl,by simp,rfl⟩) (zPW (λb U=>by rw [h1] at U;cases U)) .rfl ?_
   have g1:=hS.len w
   have g2:=hS.cells
   simp only [oX,z9,lA] at g1 g2
   rw [ac]
   rcases hS.kind with ⟨e',hk2⟩ | hk2<;>simp [Builtin.append_,run_underlying ae,run_underlying hk2,sizeOf,typeInfo,hi,g1,g2]
  ·have bp:0<new.length:=by omega
   unfold zA at ab
   simp only [oc] at ab ax
   have I:=run_append_grow_src (P:=P) w t tx ty el i zv ae hi aq none 0 0 [] (run_firstCells_none w.drew i.size 0 0 0) vy new.length ((z9 new).map D.cv) hS (by omega) (by omega) (by rw [nJ,nextslicecap_zero bp];omega)
   simp only [nJ,oc] at I
   refine fin (some w.heap.size) _ (grownCap w new.length 0 el) (.slice (some ⟨w.heap.size,0,none⟩) new.length (grownCap w new.length 0 el)) (λe' he=>by simp [PV.val,PV.val1,PV.cv,he]) (by simp) (λb U _=>pi (w:=w.drew) U) (.inr ⟨_,rfl,oD _⟩) ?_ (zJL (w2:=w.drew) (λb U=>by rw [h1] at U;cases U) rfl) ⟨rfl,rfl⟩ (by rw [ac];exact I)
   have am:=grownCap_ge w new.length 0 el
   have ao:=grownCap_le_maxLen w new.length 0 el (by unfold maxLen;omega)
   refine .inr ⟨w.heap.size,_,rfl,heap_alloc_new w.drew _,?_,by simpa using am,ao,λx hx=>(O x (by simpa using hx)).1,λj u hu=>?_⟩
   ·simp only [mj,nj,size_zeroCells,au,ah,<-o8];refine oe _ ?_;omega
   ·have:=yX (l1:=[]) (l3:=(Builtin.zeroCells zv.cells (grownCap w new.length 0 el - new.length)).toList) (ds1:=[]) rfl rfl j u (by simpa using hu)
    rw [<-nS]
    simpa using this
 ·have ac:vx=.slice (some ⟨b,0,none⟩) es.length c:=by rw [aw];simp [PV.val,PV.val1,PV.cv,h1]
  have az:∀ (j:Nat) (u:Value),((z9 es).map D.cv)[j]?=some u->aa[j]?=some u:=λj u hu=>by
   simp only [oE] at hu
   cases hf:(z9 es)[j]? with
   | none=>simp [hf] at hu
   | some d=>simp [hf] at hu;subst hu;exact h7 j d hf
  ·by_cases J:es.length+new.length<=c
   ·have a2:es.length*i.size+((z9 new).map D.cv).length<=aa.size:=by rw [ah,Y,<-o8];exact oN (oe _ J) h3
    have I:=zBP (P:=P) t tx ty el i ae hi b es.length c aa h2 vy new.length ((z9 new).map D.cv) hS J a2
    refine fin (some b) _ c (.slice (some ⟨b,0,none⟩) (es.length+new.length) c) (λe' he=>by simp [PV.val,PV.val1,PV.cv,he]) (by simp [World.setRow]) (λj hj hn=>setRow_other w b j _ (λhc=>hn (by rw [h1,hc]))) (.inl h1.symm) ?_ (by intro b' c' t2 z U hc;rw [h1] at U;exact zRS h2 b' c' t2 z U hc) ⟨rfl,rfl⟩ (by rw [ac];exact I)
    have a3:=zQ h6
    refine .inr ⟨b,_,rfl,setRow_heap w b aa _ el _ h2,?_,by simpa using J,h5,λx hx=>?_,λj u hu=>?_⟩
    ·have aj:(es.length+new.length)*ez z<=c*ez z:=oe _ J
     rw [o8] at aj
     simp only [nj,oI,o5,ma,nU,ah,Y]
     omega
    ·rcases oJ.1 hx with hx | hx
     ·exact h6 x hx
     ·exact (O x hx).1
    ·rw [xL] at hu
     have bq:aa.toList.take (es.length*i.size)=(z9 es).map D.cv:=by
      apply nD
      intro q
      rw [oa]
      split
      ·rename_i hq
       rw [Y,<-a3] at hq
       have:=az q _ (by rw [oE,oH hq];rfl)
       rw [nS,this,oE,oH hq];rfl
      ·rename_i hq
       rw [Y,<-a3] at hq
       rw [oT (by simp;omega)]
     have:=yX (l3:=aa.toList.drop (es.length*i.size+((z9 new).map D.cv).length)) bq rfl j u hu
     simpa using this
   ·unfold zA at ab
    rw [oI] at ab ax
    have I:=run_append_grow_src (P:=P) w t tx ty el i zv ae hi aq (some ⟨b,0,none⟩) es.length c ((z9 es).map D.cv) (run_firstCells_some w.drew i.size es.length ⟨b,0,none⟩ es.length c _ (by simp [zQ h6,Y]) (λj u hu=>by rw [p9 rfl (w:=w.drew) (c:=aa) (t:=el) (fz:=(0,0)) h2];simpa using az j u hu))
     vy new.length ((z9 new).map D.cv) hS (by omega) (by omega) (growslice_fits (by omega) ab)
    rw [show ((z9 es).map D.cv++(z9 new).map D.cv).toArray=((z9 es).map D.cv).toArray++((z9 new).map D.cv).toArray by simp] at I
    refine fin (some w.heap.size) _ (grownCap w (es.length+new.length) c el) (.slice (some ⟨w.heap.size,0,none⟩) (es.length+new.length) (grownCap w (es.length+new.length) c el)) (λe' he=>by simp [PV.val,PV.val1,PV.cv,he]) (by simp) (λj hj _=>pi (w:=w.drew) hj) (.inr ⟨_,rfl,oD _⟩) ?_ (zJL (w2:=w.drew) (λb' U=>by rw [h1] at U;cases U;exact ⟨_,_,h2⟩) rfl) ⟨rfl,rfl⟩ (by rw [ac];exact I)
    have am:=grownCap_ge w (es.length+new.length) c el
    have ao:=grownCap_le_maxLen w (es.length+new.length) c el (by unfold maxLen;omega)
    refine .inr ⟨w.heap.size,_,rfl,heap_alloc_new w.drew _,?_,by simpa using am,ao,λx hx=>?_,λj u hu=>?_⟩
    ·simp only [mj,nj,size_zeroCells,au,ah,oV,zQ h6,<-o8];refine oe _ ?_;omega
    ·rcases oJ.1 hx with hx | hx
     ·exact h6 x hx
     ·exact (O x hx).1
    ·rw [xL] at hu
     have:=yX (l3:=(Builtin.zeroCells zv.cells (grownCap w (es.length+new.length) c el - (es.length+new.length))).toList) rfl rfl j u hu
     rw [<-nS]
     simpa using this
theorem zK4 {g:Bool} (h:Rel av w0 e0 pS pB a w e st) (hpl:∀ k∈pB,k<st.bx.length) {dst:Option Nat} {t ty:TypeId} {x y:Operand} {K:St->Prop}
  (hx:∀ i,x=.tmp i->i∉pS) (hy:∀ i,y=.tmp i->i∉pS) (hps:∀ i,i∈pS->some i≠dst->i∈pS') (hs:apF g P st dst t x y K) :
  ∃ v w' e' st',(Builtin.append_ #[t,t] ty #[a.eval x,a.eval y]).run P w=.ok v w'/\K st'/\Rel av w0 e0 pS' pB (a.put dst v) w' e' st':=by
 have hnp:st.bx.length∉pB:=fun hc=>Nat.lt_irrefl _ (hpl _ hc)
 unfold apF at hs
 split at hs
 rotate_left
 ·exact hs.elim
 rename_i el hel
 split at hs
 rotate_left
 ·exact hs.elim
 rename_i z i hz hi
 split at hs
 ·exact hs.elim
 rename_i hbz
 have hby:i.bytes≠0:=fun hc=>hbz (.inl hc)
 have hzs:zOk P el z=true:=by
  cases hh:zOk P el z with
  | true=>rfl
  | false=>exact absurd (.inr hh) hbz
 obtain ⟨i',zv,hi',hzv,hzc⟩:=zIq hzs
 rw [hi] at hi'
 have:=oW hi'
 subst this
 have hsz:i.size=ez z:=by obtain ⟨i',h1,h2⟩:=zAV hz;rw [hi] at h1;cases h1;exact h2
 have oy:=(wP h hy).valOk.retag (P:=P) t
 have ox:=(wP h hx).valOk.retag (P:=P) t
 generalize a.eval y=vy at oy ⊢
 generalize a.eval x=vx at ox ⊢
 obtain ⟨z2,new,hs,hnew,hsrc⟩:=zHv h.toMem oy hs
 split at hs
 rotate_left
 ·exact hs.elim
 rename_i hz2
 subst hz2
 have hnl:((z9 new).map D.cv).length=new.length*ez z2:=by simp [zQ fun x hx=>(hnew x hx).1]
 have hn1:=zCH fun x hx=>(hnew x hx).1
 split at hs
 ·-- onto a row of the call's own
  rename_i k z1 lo n c hq
  rw [hq] at ox
  split at hs
  ·exact hs.elim
  rename_i hpn
  split at hs
  rotate_left
  ·exact hs.elim
  rename_i t' z' es c' hk
  split at hs
  rotate_left
  ·exact hs.elim
  rename_i hc
  obtain ⟨rfl,rfl,rfl,rfl⟩:=hc
  obtain ⟨⟨rfl,rfl⟩,hbd,hK⟩:=hs
  have hS:Src P i.size t vy new.length ((z9 new).map D.cv) w:=by
   rcases hsrc with ⟨c2,rfl,rfl⟩ | ⟨ad,c2,rfl,hcell⟩
   ·exact Src.ofNil w hel c2
   ·exact Src.ofSlice w hel ad _ c2 _ (by rw [hnl,hsz]) hcell hn1
  obtain ⟨v,w',e',c2,g1,g2,g3⟩:=zCF h (ty:=ty) hel hi hzv hzc hsz hby ox hpn hk hnew hS hbd hps
  exact ⟨v,w',e',_,g1,(hK c2).of g2,g3⟩
 ·-- onto a slice that is left as it is
  rename_i av' z1 es c hq
  rw [hq] at ox
  split at hs
  rotate_left
  ·exact hs.elim
  rename_i hc
  subst hc
  obtain ⟨hnil,hbd,hK⟩:=hs
  have hv1:=ox.1.resolve_left (by simp)
  have hg:=ox.2.1
  simp only [PV.Ok] at hg
  obtain ⟨i1,i2,i3⟩:=hg.1.sl_inv
  have hle:=zEC hbd hby
  have hes:∀ x∈es++new,eOk z1 x/\Good w (zT av pB e st.bx) x:=fun x hx=>by
   rcases oJ.1 hx with hx | hx
   ·exact ⟨i2 x hx,hg.elem hx⟩
   ·exact hnew x hx
  rcases i3 with ⟨rfl,rfl,rfl⟩ | ⟨ad0,rfl,i4,i5⟩
  ·have hvx:vx=.slice none 0 0:=by rw [hv1];rfl
   have nothing:new=[]->(Builtin.append_ #[t,t] ty #[vx,vy]).run P w=.ok (.slice none 0 0) w->∃ v w' e' st',(Builtin.append_ #[t,t] ty #[vx,vy]).run P w=.ok v w'/\K st'/\Rel av w0 e0 pS' pB (a.put dst v) w' e' st':=fun hne hrun=>by
    subst hne
    have hat:Env.at (e++[none]) st.bx.length=none:=by rw [<-h.el];exact Env.at_append_eq
    refine ⟨_,w,_,_,hrun,hK 0,xm (rR h (el:=el) (z:=z1) hnp) (dst:=dst) (p:=.sb st.bx.length z1 0 0 0) ⟨.inr (by simp [PV.val,PV.val1,PV.cv,hat]),trivial,by simp [PV.refs];exact hnp⟩ hps⟩
   rcases hsrc with ⟨c2,hvy,hne⟩ | ⟨ad,c2,hvy,hcell⟩
   ·exact nothing hne (by subst hne;rw [hvx,hvy];exact zCP (P:=P) (w:=w) t ty el i hel hi none 0 0 c2 (oD _))
   ·by_cases hm:new.length=0
    ·have hne:new=[]:=oP hm
     exact nothing hne (by subst hne;rw [hvx,hvy];simp [Builtin.append_,run_underlying hel,sizeOf,typeInfo,hi,Builtin.lenOf,Builtin.firstCells,loadCells,loadCellsFrom])
    ·have hlt:0<new.length:=by omega
     unfold zA at hbd
     simp only [oc] at hbd hle
     have hrun:=run_append_nil (P:=P) w t ty el i zv hel hi hzv ad new.length c2 ((z9 new).map D.cv) (by rw [hnl,hsz]) hcell hlt (by omega) (by omega)
     have hge:=grownCap_ge w new.length 0 el
     have hcm:=grownCap_le_maxLen w new.length 0 el (by unfold maxLen;omega)
     have hfin:=zAf h (el:=el) (z:=z1) (n:=grownCap w new.length 0 el) (es:=[]++new) (c:=(((z9 new).map D.cv).toArray++Builtin.zeroCells zv.cells (grownCap w new.length 0 el - new.length))) hnp hes
      (by simp only [mj,nj,size_zeroCells,hzc,hnl,<-o8];congr 1;omega) (by simpa using hge) hcm (fun j u hu=>by
       have:=yX (l1:=[]) (l3:=(Builtin.zeroCells zv.cells (grownCap w new.length 0 el - new.length)).toList) (ds1:=[]) rfl rfl j u (by simpa using hu)
       rw [<-nS]
       simpa using this) (w2:=w.drew) rfl (dst:=dst) hps
     exact ⟨_,_,_,_,by rw [hvx,hvy];exact hrun,hK (grownCap w new.length 0 el),hfin⟩
  ·have hcl:c=es.length/\new≠[]:=hnil
   obtain ⟨rfl,hne⟩:=hcl
   have hlt:0<new.length:=List.length_pos_iff.2 hne
   have hvx:vx=.slice (some ad0) es.length es.length:=by rw [hv1];rfl
   rcases hsrc with ⟨c2,hvy,hne'⟩ | ⟨ad,c2,hvy,hcell⟩
   ·exact absurd hne' hne
   ·unfold zA at hbd
    rw [oI] at hbd hle
    have hrun:=run_append_grow (P:=P) w t ty el i zv hel hi hzv ad0 es.length es.length ((z9 es).map D.cv) (by simp [zQ i2,hsz]) (fun j u hu=>zLp i4 i5 j u hu)
     ad new.length c2 ((z9 new).map D.cv) (by rw [hnl,hsz]) hcell (by omega) (by omega) (growslice_fits (by omega) hbd)
    have hge:=grownCap_ge w (es.length+new.length) es.length el
    have hcm:=grownCap_le_maxLen w (es.length+new.length) es.length el (by unfold maxLen;omega)
    have hfin:=zAf h (el:=el) (z:=z1) (n:=grownCap w (es.length+new.length) es.length el) (es:=es++new)
     (c:=(((z9 es).map D.cv).toArray++((z9 new).map D.cv).toArray++Builtin.zeroCells zv.cells (grownCap w (es.length+new.length) es.length el - (es.length+new.length)))) hnp hes
     (by simp only [mj,nj,size_zeroCells,hzc,hnl,oV,zQ i2,<-o8];congr 1;omega) (by simpa using hge) hcm (fun j u hu=>by
      rw [xL] at hu
      have:=yX (l3:=(Builtin.zeroCells zv.cells (grownCap w (es.length+new.length) es.length el - (es.length+new.length))).toList) rfl rfl j u hu
      rw [<-nS]
      simpa using this) (w2:=w.drew) rfl (dst:=dst) hps
    have hKK:=hK (grownCap w (es.length+new.length) es.length el)
    rw [oI] at hfin hKK
    exact ⟨_,_,_,_,by rw [hvx,hvy];exact hrun,hKK,hfin⟩
 ·exact hs.elim
variable {av:Nat->Prop} {P:Program} {w0 w w':World} {e0 e:Env} {pS pS' pB:List Nat} {a:Act} {st st':St}
/-- the row of a slot's slice is cut to the slice's length -/
def zLw (st:St) (dst:Option Nat) (K:St->Prop):Prop:=
 match dst with
 | some d=>match st.sl[d]? with
   | some (.sb k z lo n c)=>match st.bx[k]? with
     | some (.arr t z' es I)=>match Nat.beq lo 0 with
       | true=>n<=es.length/\K { st with bx:=st.bx.set k (.arr t z' (es.take n) I) }
       | false=>False
     | _=>False
   | _=>K st
 | none=>K st
theorem zI0 (h:Rel av w0 e0 pS pB a w e st) {k:Nat} {t:TypeId} {z c:Nat} {es I:List D} (hk:st.bx[k]?=some (.arr t z es c)) (O:k∉pB)
  (aa:I.length<=es.length) (J:∀ x∈I,x∈es) (hf:∀ (i:Nat) (u:D),(z9 I)[i]?=some u->(z9 es)[i]?=some u) :
  Rel av w0 e0 pS pB a w e { st with bx:=st.bx.set k (.arr t z I c) }:=by
 have Y:k<e.length:=by rw [h.el];exact (oC.1 hk).1
 have hr:=h.br k _ hk O
 have ab:=h.bo k _ hk O
 have:=zIB h (w':=w) (x:=e.at k) (B':=.arr t z I c) hk O (by simp) (oD _) (λ_ _ _=>rfl) (.inl rfl) (λ_=>rfl) (.inl rfl) ?_ (λx hx=>ab x (J x hx)) (by simp [Bx.refs]) (λb c2 t2 z2 hb hc=>?_) .rfl
 ·rwa [rJ Y] at this
 ·rw [rJ Y]
  rcases hr with ⟨U,h2,h3⟩ | ⟨b,cc,U,h2,h3,h4,h5,h6,h7⟩
  ·subst h2
   have:I=[]:=oP (by simpa using aa)
   subst this
   exact .inl ⟨U,rfl,h3⟩
  ·exact .inr ⟨b,cc,U,h2,h3,by omega,h5,λx hx=>h6 x (J x hx),λi u hu=>h7 i u (hf i u hu)⟩
 ·rcases hb with hb | hb
  ·have:=(oU.1 hc).1;omega
  ·rcases hr with ⟨U,_⟩ | ⟨b',cc,U,h2,_⟩
   ·rw [U] at hb;cases hb
   ·rw [U] at hb;cases hb
    rw [h2] at hc;cases hc;exact fz0
theorem zFN (es:List D) (n:Nat) (i:Nat) (u:D) (h:(z9 (es.take n))[i]?=some u):(z9 es)[i]?=some u:=by
 have I:z9 es=z9 (es.take n)++z9 (es.drop n):=by rw [<-xL,ni]
 rw [I,oM (oC.1 h).1]
 exact h
theorem zHx {K:St->Prop} {dst:Option Nat} (h:Rel av w0 e0 pS [] a w e st) (hs:zLw st dst K):∃ st',K st'/\Rel av w0 e0 pS [] a w e st'/\st'.bx.length=st.bx.length:=by
 unfold zLw at hs
 split at hs
 ·split at hs
  ·split at hs
   ·rename_i t z' es U I
    split at hs
    ·obtain ⟨Y,J⟩:=hs
     exact ⟨_,J,zI0 h I (by simp) (by simp;omega) (λx O=>oh O) (zFN es _),by simp⟩
    ·exact hs.elim
   ·exact hs.elim
  ·exact ⟨st,hs,h,rfl⟩
 ·exact ⟨st,hs,h,rfl⟩
theorem zB8 {el:TypeId} {zd:D} (w:World) (h:zKD P el 0=some zd):∃ i J,P.info? el=some i/\i.zero=some J/\J.cells.toList=[zd.cv]/\zd.isCell/\∀ (w:World) (live:Nat->Prop),Good w live zd:=by
 unfold zKD at h
 split at h
 ·rename_i cs Y
  obtain ⟨i2,J,aa,ab,I,O,_⟩:=wq Y
  simp only [mV] at h
  split at h
  ·rename_i p
   obtain ⟨_,q2,q3,q4,_⟩:=xI (w:=w) (e:=[]) h (O w (λ_=>False) p (by simp)).1
   refine ⟨i2,J,aa,ab,?_,q2,λw live=>(xI (w:=w) (e:=[]) h (O w live p (by simp)).1).1⟩
   have U:=(I w []).2 0 p rfl
   have ac:p≠.any:=λhh=>by subst hh;exact q4
   have U:=U.resolve_left ac
   have ae:J.cells.toList.length=1:=(I w []).1
   match ah:J.cells.toList,ae with
   | [v0],_=>rw [ah] at U;simp at U;rw [U,q3]
  ·cases h
 ·cases h
/-- the elements of a slice of the call's own become zero values -/
def zLN (P:Program) (st:St) (dst:Option Nat) (t:TypeId) (x:Operand) (K:St->Prop):Prop:=
 match P.underlying t with
 | some (.slice el)=>match kz P el,zKD P el 0 with
   | some 0,some zd=>match opd st.sl x with
     | .sb k z lo n c=>match st.bx[k]? with
       | some (.arr t' z' es I)=>match Nat.beq z 0&&Nat.beq z' 0 with
         | true=>lo+n<=es.length/\K (St.put { st with bx:=st.bx.set k (.arr t' 0 (es.take lo++(List.replicate n zd++es.drop (lo+n))) I) } dst (.tp []))
         | false=>False
       | _=>False
     | _=>False
   | _,_=>False
 | _=>False
theorem wD {I:Value} {v:Value} (h:I.cells.toList=[v]) (n:Nat):(Builtin.zeroCells I.cells n).toList=List.replicate n v:=by
 have:I.cells=#[v]:=by apply nN.1;simpa using h
 rw [this]
 simp [Builtin.zeroCells]
 apply List.ext_getElem
 ·simp
 ·intro i J O
  simp [Nat.mod_one]
theorem uv:∀ {es:List D},(∀ x∈es,x.isCell)->z9 es=es
 | [],_=>rfl
 | x::es,h=>by
   rw [vn,uv λy I=>h y (by simp [I])]
   have:=h x (by simp)
   cases x<;>simp [D.isCell] at this<;>rfl
theorem zGO {t ty el:TypeId} {i:TypeInfo} {Y v:Value} {b lo n c:Nat} {w':World} (I:P.underlying t=some (.slice el)) (hi:P.info? el=some i) (J:i.zero=some Y) (O:Y.cells.toList=[v]) (hn:0<n)
  (U:(storeCells ⟨b,lo,none⟩ (List.replicate n v)).run P w=.ok () w'):(Builtin.clear_ #[t] ty #[.slice (some ⟨b,lo,none⟩) n c]).run P w=.ok (.tuple #[]) w':=by
 obtain ⟨m,rfl⟩:∃ m,n=m+1:=⟨n - 1,by omega⟩
 simp [Builtin.clear_,run_underlying I,wu hi J,wD O,U]
theorem zID (h:Rel av w0 e0 pS pB a w e st) {dst:Option Nat} {t ty:TypeId} {x:Operand} {K:St->Prop} (hx:∀ i,x=.tmp i->i∉pS) (aj:∀ i,i∈pS->some i≠dst->i∈pS') (hs:zLN P st dst t x K) :
  ∃ v w' st',(Builtin.clear_ #[t] ty #[a.eval x]).run P w=.ok v w'/\K st'/\Rel av w0 e0 pS' pB (a.put dst v) w' e st'/\∃ k B,(∃ z lo n c,opd st.sl x=.sb k z lo n c)/\st'=St.put { st with bx:=st.bx.set k B } dst (.tp []):=by
 unfold zLN at hs
 split at hs
 rotate_left
 ·exact hs.elim
 rename_i el ac
 split at hs
 rotate_left
 ·exact hs.elim
 rename_i zd ax ak
 split at hs
 rotate_left
 ·exact hs.elim
 rename_i k z lo n c hp
 split at hs
 rotate_left
 ·exact hs.elim
 rename_i t' z' es c' hk
 split at hs
 rotate_left
 ·exact hs.elim
 rename_i hz
 simp only [oG] at hz
 obtain ⟨rfl,rfl⟩:z=0/\z'=0:=⟨nA hz.1,nA hz.2⟩
 obtain ⟨al,hK⟩:=hs
 have ox:=wP h hx
 rw [hp] at ox
 have U:=(ox.rf k (by simp [PV.refs])).1
 have hv:=ox.h.resolve_left (by simp)
 obtain ⟨i,zv,hi,am,ao,I,Y⟩:=zB8 w ak
 have ay:k<e.length:=by rw [h.el];exact (oC.1 hk).1
 have hr:=h.br k _ hk U
 have ae:=h.bo k _ hk U
 have put:∀ w2,Rel av w0 e0 pS pB a w2 e { st with bx:=st.bx.set k (.arr t' 0 (es.take lo++(List.replicate n zd++es.drop (lo+n))) c') }->Rel av w0 e0 pS' pB (a.put dst (.tuple #[])) w2 e (St.put { st with bx:=st.bx.set k (.arr t' 0 (es.take lo++(List.replicate n zd++es.drop (lo+n))) c') } dst (.tp [])):=λw2 h2=>
  xm h2 ⟨.inr (by simp [PV.val,PV.val1,PV.cvs]),by simp [PV.Ok,PV.OkL],by simp [PV.refs,PV.refsL]⟩ aj
 rcases my n with hn0 | hn0
 ·subst hn0
  refine ⟨.tuple #[],w,_,?_,hK,put w ?_,k,_,⟨_,_,_,_,hp⟩,rfl⟩
  ·rw [hv]
   cases hb:e.at k<;>simp [PV.val,PV.val1,PV.cv,hb,Builtin.clear_,run_underlying ac]
  ·refine zI0 h hk U (by simp<;>omega) (λx hx=>?_) (λj u J=>?_)
   ·simp only [List.replicate_zero,oc,mW,ni] at hx;exact hx
   ·simp only [List.replicate_zero,oc,mW,ni] at J;exact J
 ·rcases hr with ⟨h1,h2,h3⟩ | ⟨b,O,h1,h2,h3,h4,h5,h6,h7⟩
  ·subst h2;simp at al;omega
  ·have aa:∀ x∈es,x.isCell:=λx hx=>by have:=h6 x hx;simpa [eOk] using this
   have aq:z9 es=es:=uv aa
   have ab:ez 0=1:=rfl
   rw [aq] at h7
   rw [ab,Nat.mul_one] at h3
   have au:∀ v∈List.replicate n zd.cv,v.oneCell'=true:=λv hv=>by rw [nV hv];exact xH I
   have ah:=run_storeCells_at (P:=P) b lo t' (List.replicate n zd.cv) 0 O w h2 (by simp;omega) au
   rw [mW] at ah
   refine ⟨.tuple #[],w.setRow b (O.toList.take lo++List.replicate n zd.cv++O.toList.drop (lo+(List.replicate n zd.cv).length)).toArray,_,?_,hK,put _ (qp h hk U (by simp) h1 h2 (λ_=>rfl) ?_ ?_ (by simp [Bx.refs])),k,_,⟨_,_,_,_,hp⟩,rfl⟩
   ·have aw:(PV.sb k 0 lo n c).val e=.slice (some ⟨b,lo,none⟩) n c:=by simp [PV.val,PV.val1,PV.cv,h1,ab]
    rw [hv,aw]
    exact zGO ac hi am ao hn0 ah
   ·rw [h1]
    refine .inr ⟨b,_,rfl,setRow_heap w b O _ t' _ h2,?_,?_,h5,?_,?_⟩
    ·simp only [nj,oI,o5,ma,mF,nU,ab,Nat.mul_one];omega
    ·simp only [oI,o5,ma,mF];omega
    ·intro x hx
     rcases oJ.1 hx with hx | hx
     ·exact h6 x (oh hx)
     ·rcases oJ.1 hx with hx | hx
      ·rw [nV hx];simpa [eOk] using I
      ·exact h6 x (ou hx)
    ·intro j u J
     rw [uv λx hx=>?_] at J
     ·simp only [mF,List.getElem?_toArray,nw]
      by_cases hj:j<lo
      ·rw [oM (by simp;omega),oa,if_pos hj] at J
       rw [oM (by simp;omega),oa,if_pos hj]
       simpa using h7 j u J
      ·rw [oS (by simp;omega)] at J ⊢
       have e1:(es.take lo).length=lo:=by simp;omega
       have e2:(O.toList.take lo).length=lo:=by simp;omega
       rw [e1] at J
       rw [e2]
       by_cases ai:j - lo<n
       ·rw [oM (by simpa using ai),mZ,if_pos ai] at J ⊢
        cases J;rfl
       ·rw [oS (by simp;omega)] at J ⊢
        simp only [mF,nI] at J ⊢
        have:=h7 _ u J
        simpa using this
     ·rcases oJ.1 hx with hx | hx
      ·exact aa x (oh hx)
      ·rcases oJ.1 hx with hx | hx
       ·rw [nV hx];exact I
       ·exact aa x (ou hx)
   ·intro x hx
    rcases oJ.1 hx with hx | hx
    ·exact ae x (oh hx)
    ·rcases oJ.1 hx with hx | hx
     ·rw [nV hx];exact Y _ _
     ·exact ae x (ou hx)
/-- append(nil, make(..)...) -/
def zQN (P:Program) (st:St) (dst:Option Nat) (t t':TypeId) (x y:Operand) (K:St->Prop):Prop:=
 match P.underlying t,P.underlying t' with
 | some (.slice el),some (.int _)=>match kz P el,P.info? el,zKD P el 0 with
   | some 0,some i,some zd=>match retag P t (opd st.sl x),opd st.sl y with
     | .sv none _ [] 0,.int .i64 m=>(0<=m/\m*i.bytes<=140737488355328/\m<=140737488355328)/\∀ I,K (St.put { st with bx:=st.bx++[.arr el 0 (List.replicate m.toNat zd) I] } dst (.sb st.bx.length 0 0 m.toNat I))
     | _,_=>False
   | _,_,_=>False
 | _,_=>False
theorem zLC (n:Nat) (h:(n:Int)<=9223372036854775807):IntKind.i64.wrap (n:Int)=n:=by
 rw [IntKind.wrap_i64];omega
theorem zB0 (t t' ty el:TypeId) (k:IntKind) (i:TypeInfo) (z:Value) (ht:P.underlying t=some (.slice el)) (ht':P.underlying t'=some (.int k)) (hi:P.info? el=some i) (hz:i.zero=some z) (h1:i.size=1)
  (n:Nat) (h0:0<n) (h63:(n:Int)<=9223372036854775807) (h48:n*i.bytes<=281474976710656) :
  (Builtin.append_ #[t,t'] ty #[.slice none 0 0,.int .i64 n]).run P w =
   .ok (.slice (some ⟨w.heap.size,0,none⟩) n (grownCap w n 0 el)) (w.drew.alloc (.cells (Builtin.zeroCells z.cells n++Builtin.zeroCells z.cells (grownCap w n 0 el - n)) el)):=by
 have hn:n≠0:=by omega
 have h63':¬(9223372036854775807<(n:Int)):=by omega
 have h48':¬(281474976710656<Builtin.nextslicecap n 0*i.bytes):=by rw [nextslicecap_zero h0];omega
 have h48'':¬(281474976710656<(n:Int)*(i.bytes:Int)):=by
  have h5:((n*i.bytes:Nat):Int)<=281474976710656:=by omega
  rw [Int.natCast_mul] at h5
  omega
 have hw:IntKind.i64.wrap (n:Int)=n:=zLC n h63
 have hneg:¬((n:Int)<0):=by omega
 simp [hneg,Builtin.append_,run_underlying ht,run_underlying ht',sizeOf,typeInfo,zeroValue,hi,hz,asInt,asIntOf,hw,h1,Builtin.lenOf,hn,h63',h48',h48'',Question.forced,run_firstCells_none,newRow,grownCap]
theorem zJr (h:Rel av w0 e0 pS pB a w e st) (hpl:∀ k∈pB,k<st.bx.length) {dst:Option Nat} {t t' ty:TypeId} {x y:Operand} {K:St->Prop}
  (hx:∀ i,x=.tmp i->i∉pS) (hy:∀ i,y=.tmp i->i∉pS) (hps:∀ i,i∈pS->some i≠dst->i∈pS') (hs:zQN P st dst t t' x y K) :
  ∃ v w' e' st',(Builtin.append_ #[t,t'] ty #[a.eval x,a.eval y]).run P w=.ok v w'/\K st'/\Rel av w0 e0 pS' pB (a.put dst v) w' e' st'/\∃ rows q,st'=St.put { st with bx:=st.bx++rows } dst q:=by
 have hnp:st.bx.length∉pB:=fun hc=>Nat.lt_irrefl _ (hpl _ hc)
 unfold zQN at hs
 split at hs
 rotate_left
 ·exact hs.elim
 rename_i el kk hel ht'
 split at hs
 rotate_left
 ·exact hs.elim
 rename_i i zd hkz hi hzd
 have ox:=(wP h hx).valOk.retag (P:=P) t
 have oy:=(wP h hy).valOk
 generalize a.eval x=vx at ox ⊢
 generalize a.eval y=vy at oy ⊢
 split at hs
 rotate_left
 ·exact hs.elim
 rename_i zz m hpx hpy
 rw [hpx] at ox
 rw [hpy] at oy
 have hvx:vx=.slice none 0 0:=by have:=ox.1.resolve_left (by simp);simpa [PV.val,PV.val1,PV.cv] using this
 have hvy:vy=.int .i64 m:=by have:=oy.1.resolve_left (by simp);simpa [PV.val,PV.val1,PV.cv] using this
 subst hvx;subst hvy
 obtain ⟨⟨hm0,hmb,hmm⟩,hK⟩:=hs
 obtain ⟨i',zv,hi',hzv,hzc,hcell,hgood⟩:=zB8 w hzd
 rw [hi] at hi'
 have:=oW hi'
 subst this
 have hsz:i.size=1:=by obtain ⟨i',h1,h2⟩:=zAV hkz;rw [hi] at h1;cases h1;exact h2
 obtain ⟨n,rfl⟩:∃ n:Nat,m=n:=⟨m.toNat,by omega⟩
 simp only [oK] at hK
 have hw:IntKind.i64.wrap (n:Int)=n:=zLC n (by omega)
 have hnb:n*i.bytes<=281474976710656:=by
  have h5:((n*i.bytes:Nat):Int)<=140737488355328:=by rw [Int.natCast_mul];exact hmb
  omega
 rcases my n with hn0 | hn0
 ·subst hn0
  have hat:Env.at (e++[none]) st.bx.length=none:=by rw [<-h.el];exact Env.at_append_eq
  refine ⟨.slice none 0 0,w,_,_,?_,hK 0,xm (rR h (el:=el) (z:=0) hnp) (dst:=dst) (p:=.sb st.bx.length 0 0 0 0) ⟨.inr (by simp [PV.val,PV.val1,PV.cv,hat]),trivial,by simp [PV.refs];exact hnp⟩ hps,_,_,rfl⟩
  have hw0:IntKind.i64.wrap 0=0:=by rw [IntKind.wrap_i64];rfl
  simp [Builtin.append_,run_underlying hel,run_underlying ht',sizeOf,typeInfo,hi,asInt,asIntOf,hw0]
 ·have hrun:=zB0 (P:=P) (w:=w) t t' ty el kk i zv hel ht' hi hzv hsz n hn0 (by omega) hnb
  have hge:=grownCap_ge w n 0 el
  have hcm:=grownCap_le_maxLen w n 0 el (by unfold maxLen;omega)
  have hrc:∀ x∈List.replicate n zd,x.isCell:=fun x hx=>by rw [nV hx];exact hcell
  have hfin:=zAf h (el:=el) (z:=0) (n:=grownCap w n 0 el) (es:=List.replicate n zd) (c:=Builtin.zeroCells zv.cells n++Builtin.zeroCells zv.cells (grownCap w n 0 el - n)) hnp
   (fun x hx=>by rw [nV hx];exact ⟨by simpa [eOk] using hcell,hgood _ _⟩)
   (by
    have h1:(Builtin.zeroCells zv.cells n).size=n:=by rw [<-nU,wD hzc];simp
    have h2:(Builtin.zeroCells zv.cells (grownCap w n 0 el - n)).size=grownCap w n 0 el - n:=by rw [<-nU,wD hzc];simp
    rw [mj,h1,h2,show ez 0=1 from rfl];omega) (by simpa using hge) hcm (fun j u hu=>by
    rw [uv hrc] at hu
    rw [mZ] at hu
    split at hu
    ·rename_i hj
     cases hu
     rw [<-nS,Array.toList_append,oM (by rw [wD hzc];simpa using hj),wD hzc,mZ,if_pos hj]
    ·cases hu) (w2:=w.drew) rfl (dst:=dst) hps
  simp only [mF] at hfin
  exact ⟨_,_,_,_,hrun,hK _,hfin,_,_,rfl⟩
/-- a string's bytes -/
def xM (s:ByteArray):List D:=s.data.toList.map λb=>.lit (.int .u8 b.toNat)
theorem zLE (s:ByteArray):(z9 (xM s)).map D.cv=byteCells s:=by
 rw [uv λx I=>by obtain ⟨_,_,rfl⟩:=oQ.1 I;trivial]
 simp [xM,byteCells,D.cv]
theorem rN (s:ByteArray):(xM s).length=s.size:=by
 rw [<-byteCells_length s];simp [xM,byteCells]
/-- a string's bytes, onto a row of the call's own -/
def zMx (P:Program) (st:St) (dst:Option Nat) (t t':TypeId) (x y:Operand) (K:St->Prop):Prop:=
 match P.underlying t,P.underlying t' with
 | some (.slice el),some .string=>match kz P el,P.info? el with
   | some 0,some i=>if i.bytes=0\/zOk P el 0=false then False else
     match retag P t (opd st.sl x),opd st.sl y with
     | .sb k J lo n c,.str s=>match zA8 st k with
       | true=>False
       | false=>match st.bx[k]? with
         | some (.arr t1 z' es O)=>if J=0/\z'=0/\lo=0/\t1=el then
          (n=es.length/\c=O)/\zA es (xM s) i.bytes/\∀ I,K (St.put { st.kill k with bx:=(st.kill k).bx.set k (.arr el 0 (es++xM s) I) } dst (.sb k 0 0 (es++xM s).length I)) else False
         | _=>False
     | _,_=>False
   | _,_=>False
 | _,_=>False
theorem zIW (h:Rel av w0 e0 pS pB a w e st) {dst:Option Nat} {t t' ty:TypeId} {x y:Operand} {K:St->Prop}
  (U:∀ i,x=.tmp i->i∉pS) (hy:∀ i,y=.tmp i->i∉pS) (Y:∀ i,i∈pS->some i≠dst->i∈pS') (hs:zMx P st dst t t' x y K) :
  ∃ v w' e' st',(Builtin.append_ #[t,t'] ty #[a.eval x,a.eval y]).run P w=.ok v w'/\K st'/\Rel av w0 e0 pS' pB (a.put dst v) w' e' st' /\
    ∃ k z lo n c B q,retag P t (opd st.sl x)=.sb k z lo n c/\(∃ t1 z1 es c1,st.bx[k]?=some (.arr t1 z1 es c1))/\st'=St.put { st.kill k with bx:=(st.kill k).bx.set k B } dst q:=by
 unfold zMx at hs
 split at hs
 rotate_left
 ·exact hs.elim
 rename_i el aa ab
 split at hs
 rotate_left
 ·exact hs.elim
 rename_i i hz hi
 split at hs
 ·exact hs.elim
 rename_i I
 have ac:i.bytes≠0:=λhc=>I (.inl hc)
 have ae:zOk P el 0=true:=by
  cases hh:zOk P el 0 with
  | true=>rfl
  | false=>exact absurd (.inr hh) I
 obtain ⟨i',zv,J,ah,ai⟩:=zIq ae
 rw [hi] at J
 have:=oW J
 subst this
 have O:i.size=ez 0:=by obtain ⟨i',h1,h2⟩:=zAV hz;rw [hi] at h1;cases h1;exact h2
 have oy:=(wP h hy).valOk
 have ox:=(wP h U).valOk.retag (P:=P) t
 generalize a.eval y=vy at oy ⊢
 generalize a.eval x=vx at ox ⊢
 split at hs
 rotate_left
 ·exact hs.elim
 rename_i k z1 lo n c s hq hp
 split at hs
 ·exact hs.elim
 rename_i aj
 split at hs
 rotate_left
 ·exact hs.elim
 rename_i t1 z' es c' hk
 split at hs
 rotate_left
 ·exact hs.elim
 rename_i hc
 obtain ⟨rfl,rfl,rfl,rfl⟩:=hc
 obtain ⟨⟨rfl,rfl⟩,ak,hK⟩:=hs
 rw [hq] at ox
 rw [hp] at oy
 have al:vy=.string s:=by have:=oy.1.resolve_left (by simp);simpa [PV.val,PV.val1,PV.cv] using this
 subst al
 have hS:Src P i.size t' (.string s) (xM s).length ((z9 (xM s)).map D.cv) w:=by
  rw [O,zLE,rN];exact Src.ofString w ab s
 obtain ⟨v,w',e',c2,g1,g2,g3⟩:=zCF h (ty:=ty) aa hi ah ai O ac ox aj hk (λx U=>by
  obtain ⟨_,_,rfl⟩:=oQ.1 U
  exact ⟨by simp [eOk,D.isCell];rfl,Good.lit⟩) hS ak Y
 exact ⟨v,w',e',_,g1,hK c2,g3,_,_,_,_,_,_,_,hq,⟨_,_,_,_,hk⟩,rfl⟩
/-- a slice's capacity -/
def zS6:PV->Option Nat
 | .sv _ _ _ c=>some c
 | .sb _ _ _ _ c=>some c
 | _=>none
/-- the shape of a result: 'row': a slice whose row is the caller's own from now on -/
inductive Sh where
 | int (k:IntKind)
 | bool
 | str
 | sl (z:Nat)
 | ag (n:Nat)
 | row (t:TypeId) (z:Nat)
 /-- ahead of shapes of cells: the one result is a struct of these -/
 | pk
 /-- one cell, told as data -/
 | dc
 /-- one cell, told as data: the argument with this number, handed back -/
 | bk (j:Nat)
 /-- a pointer to a new struct of a slice of numbers and two numbers -/
 | cu
/-- what is said of the results, and of the number of blocks behind the call -/
def QT:List Sh->Type
 | []=>Nat->Prop
 | .int _::l=>Int->QT l
 | .bool::l=>Bool->QT l
 | .str::l=>ByteArray->QT l
 | .sl _::l=>Option Addr->List D->Nat->QT l
 | .ag _::l=>D->QT l
 | .row _ _::l=>List D->Nat->QT l
 | .pk::l=>QT l
 | .dc::l=>D->QT l
 | .bk j::l=>D->QT l
 | .cu::l=>Option Addr->List D->Nat->Int->Int->QT l
def zO0:List Sh->Bool
 | []=>true
 | .ag _::_=>false
 | .pk::_=>false
 | .cu::_=>false
 | _::l=>zO0 l
def zBO:List Sh->Bool
 | .pk::_=>true
 | _=>false
def QT.app:(l:List Sh)->QT l->Nat->List PV->List Bx->Nat->Prop
 | .pk::l,Q,b,ps,rows,N=>zO0 l=true/\QT.app l Q b ps rows N
 | [],Q,_,[],[],N=>Q N
 | .int k::l,Q,b,.int J n::ps,rows,N=>k=J/\QT.app l (Q n) b ps rows N
 | .bool::l,Q,b,.bool v::ps,rows,N=>QT.app l (Q v) b ps rows N
 | .str::l,Q,b,.str v::ps,rows,N=>QT.app l (Q v) b ps rows N
 | .sl z::l,Q,b,.sv a z' es c::ps,rows,N=>z=z'/\QT.app l (Q a es c) b ps rows N
 | .ag n::l,Q,b,.dg O x::ps,rows,N=>n=O/\QT.app l (Q x) b ps rows N
 | .dc::l,Q,b,.dc x::ps,rows,N=>QT.app l (Q x) b ps rows N
 | .bk j::l,Q,b,.dc x::ps,rows,N=>QT.app l (Q x) b ps rows N
 | .row t z::l,Q,b,.sb k z' lo n c::ps,.arr t' I es U::rows,N=>(k=b/\z'=z/\lo=0/\n=es.length/\c=U/\t'=t/\I=z)/\QT.app l (Q es c) (b+1) ps rows N
 | .cu::l,Q,b,p::ps,B::rows,N=>∃ a es c n m,p=.pb b 0 0 0/\B=.var [.sv a 0 es c,.int .i64 n,.int .i64 m]/\QT.app l (Q a es c n m) (b+1) ps rows N
 | _,_,_,_,_,_=>False
def QT.lam:(l:List Sh)->Nat->(List PV->List Bx->Nat->Prop)->QT l
 | [],_,K=>λN=>K [] [] N
 | .int k::l,b,K=>λn=>QT.lam l b λps rows N=>K (.int k n::ps) rows N
 | .bool::l,b,K=>λv=>QT.lam l b λps rows N=>K (.bool v::ps) rows N
 | .str::l,b,K=>λv=>QT.lam l b λps rows N=>K (.str v::ps) rows N
 | .sl z::l,b,K=>λa es c=>QT.lam l b λps rows N=>K (.sv a z es c::ps) rows N
 | .ag n::l,b,K=>λx=>QT.lam l b λps rows N=>K (.dg n x::ps) rows N
 | .row t z::l,b,K=>λes c=>QT.lam l (b+1) λps rows N=>K (.sb b z 0 es.length c::ps) (.arr t z es c::rows) N
 | .pk::l,b,K=>QT.lam l b K
 | .dc::l,b,K=>λx=>QT.lam l b λps rows N=>K (.dc x::ps) rows N
 | .bk j::l,b,K=>λx=>QT.lam l b λps rows N=>K (.dc x::ps) rows N
 | .cu::l,b,K=>λa es c n m=>QT.lam l (b+1) λps rows N=>K (.pb b 0 0 0::ps) (.var [.sv a 0 es c,.int .i64 n,.int .i64 m]::rows) N
def PV.shift (b:Nat):PV->PV
 | .sb k z lo n c=>.sb (b+k) z lo n c
 | .pb k z i o=>.pb (b+k) z i o
 | p=>p
theorem QT.app_lam:∀ (l:List Sh) (d b:Nat) (K:List PV->List Bx->Nat->Prop) (ps:List PV) (rows:List Bx) (N:Nat),QT.app l (QT.lam l (d+b) K) b ps rows N->K (ps.map (PV.shift d)) rows N:=by
 intro l
 induction l with
 | nil=>
   intro d b K ps rows N h
   cases ps<;>cases rows<;>simp [QT.app] at h
   exact h
 | cons s l I=>
   intro d b K ps rows N h
   cases s with
   | pk=>exact I d b K ps rows N h.2
   | row t z=>
     rcases ps with _ | ⟨p,ps⟩<;>rcases rows with _ | ⟨B,rows⟩<;>try (simp [QT.app] at h;done)
     cases p<;>cases B<;>simp [QT.app] at h
     obtain ⟨⟨rfl,rfl,rfl,rfl,rfl,rfl,rfl⟩,h⟩:=h
     exact I d (_+1) (λps rows N=>K (.sb _ _ 0 _ _::ps) (.arr _ _ _ _::rows) N) ps rows N h
   | cu=>
     rcases ps with _ | ⟨p,ps⟩<;>rcases rows with _ | ⟨B,rows⟩<;>try (simp [QT.app] at h;done)
     obtain ⟨a,es,c,n,m,rfl,rfl,h⟩:=h
     exact I d (b+1) (λps rows N=>K (.pb _ 0 0 0::ps) (.var _::rows) N) ps rows N h
   | _=>
     rcases ps with _ | ⟨p,ps⟩
     ·simp [QT.app] at h
     cases p<;>simp [QT.app] at h<;>first | exact I d b _ ps rows N h | (obtain ⟨rfl,h⟩:=h;exact I d b _ ps rows N h)
/-- what goes along with a result -/
def Bx.row (B:Bx):Prop:=match B with
 | .arr _ _ _ _=>True
 | B=>∃ a es c n m,B=.var [.sv a 0 es c,.int .i64 n,.int .i64 m]
theorem Bx.row.sp {B:Bx} (h:B.row):B≠.gone/\B.refs=[]:=by
 cases B with
 | arr t z es c=>exact ⟨by simp,rfl⟩
 | _=>obtain ⟨_,_,_,_,_,h⟩:=h;cases h<;>exact ⟨by simp,rfl⟩
def Bx.offB (b:Nat):Bx->Prop
 | .arr _ _ es _=>b∉zF es
 | _=>False
theorem QT.app_rows:∀ (l:List Sh) (Q:QT l) (b:Nat) (ps:List PV) (rows:List Bx) (N:Nat),QT.app l Q b ps rows N ->
  (∀ B∈rows,B.row)/\(∀ p∈ps,p≠.any/\(∀ l,p≠.tp l)/\∀ k∈p.refs,k<b+rows.length):=by
 intro l
 induction l with
 | nil=>
   intro Q b ps rows N h
   cases ps<;>cases rows<;>simp [QT.app] at h ⊢
 | cons s l J=>
   intro Q b ps rows N h
   have I:∀ (p:PV) (B:Bx) (ps:List PV) (rows:List Bx) (Q:QT l),QT.app l Q (b+1) ps rows N->B.row->p≠.any->(∀ l,p≠.tp l)->(∀ k∈p.refs,k=b)->(∀ B'∈B::rows,B'.row)/\(∀ q∈p::ps,q≠.any/\(∀ l,q≠.tp l)/\∀ k∈q.refs,k<b+(B::rows).length):=λp B ps rows Q h hB O U h3=>by
    obtain ⟨g1,g2⟩:=J Q _ ps rows N h
    refine ⟨λB' hB'=>?_,λq hq=>?_⟩
    ·rcases oF.1 hB' with rfl | hB'
     ·exact hB
     ·exact g1 _ hB'
    ·rcases oF.1 hq with rfl | hq
     ·exact ⟨O,U,λk Y=>by have:=h3 k Y;simp;omega⟩
     ·obtain ⟨i1,i2,i3⟩:=g2 q hq
      exact ⟨i1,i2,λk Y=>by have:=i3 k Y;simp;omega⟩
   cases s with
   | pk=>exact J Q b ps rows N h.2
   | row t z=>
     rcases ps with _ | ⟨p,ps⟩<;>rcases rows with _ | ⟨B,rows⟩<;>try (simp [QT.app] at h;done)
     cases p<;>cases B<;>simp [QT.app] at h
     obtain ⟨⟨rfl,_⟩,h⟩:=h
     exact I _ _ _ _ _ h trivial (by simp) (by simp) (by simp [PV.refs])
   | cu=>
     rcases ps with _ | ⟨p,ps⟩<;>rcases rows with _ | ⟨B,rows⟩<;>try (simp [QT.app] at h;done)
     obtain ⟨a,es,c,n,m,rfl,rfl,h⟩:=h
     exact I _ _ _ _ _ h ⟨_,_,_,_,_,rfl⟩ (by simp) (by simp) (by simp [PV.refs])
   | _=>
     rcases ps with _ | ⟨p,ps⟩
     ·simp [QT.app] at h
     cases p<;>simp [QT.app] at h
     all_goals
      first | replace h:=h.2 | skip
      obtain ⟨O,U⟩:=J _ b ps rows N h
      exact ⟨O,λq hq=>by rcases oF.1 hq with rfl | hq;exact ⟨by simp,by simp,by simp [PV.refs]⟩;exact U q hq⟩
def xk (P:Program) (f:FuncId):Bool:=
 match P.funcs[f]? with
 | some fn => fn.name != "runtime.NumGoroutine" && fn.body.isSome
 | none=>false
def zML (e:Env):List PV->Value
 | [p]=>p.val1 e
 | ps=>.tuple (ps.map (PV.val1 e)).toArray
def zKJ (pk:Bool) (e:Env) (ps:List PV):Value:=match pk with
 | true=>.agg (PV.cvs e ps).toArray
 | false=>zML e ps
/-- told cells are cells -/
theorem QT.app_cells:∀ (l:List Sh) (Q:QT l) (b:Nat) (ps:List PV) (rows:List Bx) (N:Nat),zO0 l=true->QT.app l Q b ps rows N->∀ p∈ps,p.isC:=by
 intro l
 induction l with
 | nil=>intro Q b ps rows N hc h;cases ps<;>cases rows<;>simp [QT.app] at h ⊢
 | cons s l I=>
   intro Q b ps rows N hc h
   cases s with
   | pk=>simp [zO0] at hc
   | ag n=>simp [zO0] at hc
   | cu=>simp [zO0] at hc
   | row t z=>
     rcases ps with _ | ⟨p,ps⟩<;>rcases rows with _ | ⟨B,rows⟩<;>try (simp [QT.app] at h;done)
     cases p<;>cases B<;>simp [QT.app] at h
     have I:=I _ _ ps rows N hc h.2
     intro q hq;rcases oF.1 hq with rfl | hq
     ·trivial
     ·exact I q hq
   | _=>
     rcases ps with _ | ⟨p,ps⟩
     ·simp [QT.app] at h
     cases p<;>simp [QT.app] at h
     all_goals
      first | replace h:=h.2 | skip
      intro q hq;rcases oF.1 hq with rfl | hq
      ·trivial
      ·exact I _ b ps rows N hc h q hq
/-- how a call ends -/
structure Done (rs:List Sh) (Q:QT rs) (av:Nat->Prop) (w0:World) (v:Value) (w:World) (ps:List PV) (rows:List Bx) (e:Env):Prop where
 q:QT.app rs Q 0 ps rows w.heap.size
 v:v=zKJ (zBO rs) e ps
 m:Mem av [] w e rows
 ok:∀ p∈ps,p.Ok w (zT av [] e rows)
 fresh:∀ (k b:Nat),e.at k=some b->w0.heap.size<=b
 size:w0.heap.size<=w.heap.size
 old:∀ b,b<w0.heap.size->w.heap[b]?=w0.heap[b]?
 fz:∀ (b:Nat) (c:Array Value) (t:TypeId) (z:Nat × Nat),w0.heap.size<=b->w.heap[b]?=some (.cells c t z)->Fz z
 ku:KU w0 w
def Fin (rs:List Sh) (Q:QT rs) (av:Nat->Prop) (w0:World):Ending->World->Prop
 | .returned v,w=>∃ ps rows e,Done rs Q av w0 v w ps rows e
 | _,_=>False
/-- the function's contract -/
structure ACalls (P:Program) (f:FuncId) (rs:List Sh) (args:List PV) (N:Nat) (Q:QT rs):Prop where
 c:xk P f=true
 h : ∀ (av:Nat->Prop) (w0:World),w0.heap.size=N->Avl av w0 []->(∀ p∈args,p.Ok w0 av/\p.refs=[]) ->
   Calls P f (args.map (PV.val [])).toArray w0 (Fin rs Q av w0)
variable {av:Nat->Prop} {P:Program} {w0 w w':World} {e0 e:Env} {pS pS' pB pB':List Nat} {a:Act} {st st':St}
def zRR (st:St) (k:Nat):Bool:=match st.bx[k]? with
 | some (.arr ..)=>true
 | _=>false
/-- the boxes that can be reached, in the order in which they are met -/
def pc (bx:List Bx):Nat->List Nat->List Nat->List Nat
 | 0,_,I=>I
 | _+1,[],I=>I
 | n+1,k::J,I=>match I.contains k with
   | true=>pc bx n J I
   | false=>pc bx n (J++(bx.getD k .gone).refs) (I++[k])
theorem v9 {bx:List Bx}:∀ (n:Nat) (J I:List Nat),I.Nodup->(pc bx n J I).Nodup
 | 0,_,I,h=>h
 | _+1,[],I,h=>h
 | n+1,k::J,I,h=>by
   simp only [pc]
   split
   ·exact v9 n J I h
   ·rename_i Y
    refine v9 n _ _ ?_
    rw [nQ]
    refine ⟨h,by simp,λx hx y U O=>?_⟩
    simp at U;subst U;subst O
    simp [hx] at Y
theorem pR {bx:List Bx} {A:Nat->Prop} (U:∀ k,A k->∀ j∈(bx.getD k .gone).refs,A j):∀ (n:Nat) (J I:List Nat),(∀ k∈J,A k)->(∀ k∈I,A k)->∀ k∈pc bx n J I,A k
 | 0,_,I,_,h=>h
 | _+1,[],I,_,h=>h
 | n + 1,k::J,I,O,Y=>by
   simp only [pc]
   split
   ·exact pR U n J I (λj hj=>O j (by simp [hj])) Y
   ·refine pR U n _ _ (λj hj=>?_) λj hj=>?_
    ·rcases oJ.1 hj with hj | hj
     ·exact O j (by simp [hj])
     ·exact U k (O k (by simp)) j hj
    ·rcases oJ.1 hj with hj | hj
     ·exact Y j hj
     ·simp at hj;subst hj;exact O j (by simp)
def pos:List Nat->Nat->Option Nat
 | [],_=>none
 | x :: xs,k=>match decide (x=k) with
   | true=>some 0
   | false=>match pos xs k with
     | some j=>some (j+1)
     | none=>none
theorem rP:∀ {ks:List Nat} {k j:Nat},pos ks k=some j->ks[j]?=some k
 | [],k,j,h=>by simp [pos] at h
 | x::xs,k,j,h=>by
   simp only [pos] at h
   split at h
   ·rename_i I;simp at I h;subst I;subst h;rfl
   ·split at h
    ·rename_i i hi;simp at h;subst h;simpa using rP hi
    ·cases h
mutual
def PV.ren (ks:List Nat):PV->Option PV
 | .pb k z i o=>match pos ks k with
   | some j=>some (.pb j z i o)
   | none=>none
 | .sb k z lo n c=>match pos ks k with
   | some j=>some (.sb j z lo n c)
   | none=>none
 | .fn f caps=>match PV.renL ks caps with
   | some l=>some (.fn f l)
   | none=>none
 | .pg cs=>match PV.renL ks cs with
   | some l=>some (.pg l)
   | none=>none
 | .tp cs=>match PV.renL ks cs with
   | some l=>some (.tp l)
   | none=>none
 | p=>some p
def PV.renL (ks:List Nat):List PV->Option (List PV)
 | []=>some []
 | p::ps=>match PV.ren ks p,PV.renL ks ps with
   | some q,some qs=>some (q::qs)
   | _,_=>none
end
structure Ren (ks:List Nat) (e e':Env) (p q:PV):Prop where
 cv:p.cv e=q.cv e'
 v1:p.val1 e=q.val1 e'
 ok:∀ w live,p.Ok w live->q.Ok w live
 rf:∀ j∈q.refs,j<ks.length
 ic:p.isC->q.isC
 an:p=.any↔q=.any
structure RenL (ks:List Nat) (e e':Env) (ps qs:List PV):Prop where
 cv:PV.cvs e ps=PV.cvs e' qs
 v1:ps.map (PV.val1 e)=qs.map (PV.val1 e')
 ok:∀ w live,PV.OkL w live ps->PV.OkL w live qs
 rf:∀ j∈PV.refsL qs,j<ks.length
 ic:(∀ p∈ps,p.isC)->∀ q∈qs,q.isC
def qB (e:Env) (ks:List Nat):Env:=ks.map e.at
theorem zLL {ks:List Nat} {k j:Nat} (h:pos ks k=some j):(qB e ks).at j=e.at k:=by
 have:=rP h
 simp [qB,Env.at,oA,this]
theorem zOd {ks:List Nat} {k j:Nat} (h:pos ks k=some j):j<ks.length:=(oC.1 (rP h)).1
mutual
theorem xb {ks:List Nat}:∀ {p q:PV},p.ren ks=some q->Ren ks e (qB e ks) p q
 | .pb k z i o,q,h=>by
   simp only [PV.ren] at h
   split at h
   ·rename_i j hj
    simp at h;subst h
    have J:(PV.pb k z i o).cv e=(PV.pb j z i o).cv (qB e ks):=by simp [PV.cv,zLL hj]
    exact ⟨J,J,λ_ _=>id,by simp [PV.refs];exact zOd hj,id,by simp⟩
   ·cases h
 | .sb k z lo n c,q,h=>by
   simp only [PV.ren] at h
   split at h
   ·rename_i j hj
    simp at h;subst h
    have J:(PV.sb k z lo n c).cv e=(PV.sb j z lo n c).cv (qB e ks):=by simp [PV.cv,zLL hj]
    exact ⟨J,J,λ_ _=>id,by simp [PV.refs];exact zOd hj,id,by simp⟩
   ·cases h
 | .fn f caps,q,h=>by
   simp only [PV.ren] at h
   split at h
   ·rename_i l O
    simp at h;subst h
    have:=sP O
    have J:(PV.fn f caps).cv e=(PV.fn f l).cv (qB e ks):=by simp only [PV.cv,this.cv]
    exact ⟨J,J,λw live I=>by simp only [PV.Ok] at I ⊢;exact this.ok w live I,by simp only [PV.refs];exact this.rf,id,by simp⟩
   ·cases h
 | .pg cs,q,h=>by
   simp only [PV.ren] at h
   split at h
   ·rename_i l O
    simp at h;subst h
    have:=sP O
    exact ⟨rfl,by simp only [PV.val1,this.cv],λw live I=>by simp only [PV.Ok] at I ⊢;exact ⟨this.ok w live I.1,this.ic I.2⟩,by simp only [PV.refs];exact this.rf,id,by simp⟩
   ·cases h
 | .tp cs,q,h=>by
   simp only [PV.ren] at h
   split at h
   ·rename_i l O
    simp at h;subst h
    have:=sP O
    exact ⟨rfl,rfl,λw live I=>by simp only [PV.Ok] at I ⊢;exact this.ok w live I,by simp only [PV.refs];exact this.rf,id,by simp⟩
   ·cases h
 | .any,q,h=>by simp [PV.ren] at h;subst h;exact ⟨rfl,rfl,λ_ _=>id,by simp [PV.refs],id,by simp⟩
 | .int ..,q,h=>by simp [PV.ren] at h;subst h;exact ⟨rfl,rfl,λ_ _=>id,by simp [PV.refs],id,by simp⟩
 | .bool ..,q,h=>by simp [PV.ren] at h;subst h;exact ⟨rfl,rfl,λ_ _=>id,by simp [PV.refs],id,by simp⟩
 | .str ..,q,h=>by simp [PV.ren] at h;subst h;exact ⟨rfl,rfl,λ_ _=>id,by simp [PV.refs],id,by simp⟩
 | .lit ..,q,h=>by simp [PV.ren] at h;subst h;exact ⟨rfl,rfl,λ_ _=>id,by simp [PV.refs],id,by simp⟩
 | .sv ..,q,h=>by simp [PV.ren] at h;subst h;exact ⟨rfl,rfl,λ_ _=>id,by simp [PV.refs],id,by simp⟩
 | .d ..,q,h=>by simp [PV.ren] at h;subst h;exact ⟨rfl,rfl,λ_ _=>id,by simp [PV.refs],id,by simp⟩
 | .dc ..,q,h=>by simp [PV.ren] at h;subst h;exact ⟨rfl,rfl,λ_ _=>id,by simp [PV.refs],id,by simp⟩
 | .dg ..,q,h=>by simp [PV.ren] at h;subst h;exact ⟨rfl,rfl,λ_ _=>id,by simp [PV.refs],id,by simp⟩
 | .pd ..,q,h=>by simp [PV.ren] at h;subst h;exact ⟨rfl,rfl,λ_ _=>id,by simp [PV.refs],id,by simp⟩
theorem sP {ks:List Nat}:∀ {ps qs:List PV},PV.renL ks ps=some qs->RenL ks e (qB e ks) ps qs
 | [],qs,h=>by simp [PV.renL] at h;subst h;exact ⟨rfl,rfl,λ_ _=>id,by simp [PV.refsL],λ_=>by simp⟩
 | p :: ps,qs,h=>by
   simp only [PV.renL] at h
   split at h
   ·rename_i q l hq O
    simp at h;subst h
    have U:=xb hq
    have Y:=sP O
    refine ⟨by simp [PV.cvs,U.cv,Y.cv],by simp [U.v1,Y.v1],λw live I=>⟨U.ok w live I.1,Y.ok w live I.2⟩,λj hj=>?_,λhc r hr=>?_⟩
    ·simp only [PV.refsL] at hj
     rcases oJ.1 hj with hj | hj
     ·exact U.rf j hj
     ·exact Y.rf j hj
    ·rcases oF.1 hr with rfl | hr
     ·exact U.ic (hc p (by simp))
     ·exact Y.ic (λx hx=>hc x (by simp [hx])) r hr
   ·cases h
end
theorem zMD {ks:List Nat} {p q:PV} (h:p.ren ks=some q):p.val e=q.val (qB e ks):=by
 have h1:=xb (e:=e) h
 cases p
 case tp cs=>
  simp only [PV.ren] at h
  split at h
  ·rename_i l hl
   simp at h;subst h
   simp only [PV.val,(sP (e:=e) hl).v1]
  ·cases h
 all_goals
  have h2:=h1.v1
  simp only [PV.ren] at h
  first
   | (simp at h;subst h;exact h2)
   | (split at h
      ·simp at h;subst h;exact h2
      ·cases h)
def zM4 (ks:List Nat) (p:PV):PV:=match PV.ren ks p with
 | some q=>q
 | none=>.any
def Bx.ren (ks:List Nat):Bx->Bx
 | .var cs=>.var (cs.map (zM4 ks))
 | B=>B
def sG:PV->Option PV
 | .pg cs=>match zF2 cs with
   | some ds=>some (.dg cs.length (.ag ds))
   | none=>none
 | .int k n=>some (.int k n)
 | .bool v=>some (.bool v)
 | .str v=>some (.str v)
 | .lit x=>some (.lit x)
 | .sv a z es c=>some (.sv a z es c)
 | .dg n x=>some (.dg n x)
 | .dc x=>some (.dc x)
 | .pd ad z x=>some (.pd ad z x)
 | _=>none
/-- a box's contents, as data -/
def zNT (B:Bx):Option (Nat × D):=
 match B with
 | .var cs=>match cs with
   | [p]=>match rQ p with
     | some d=>some (0,d)
     | none=>none
   | cs=>match cs.length,zF2 cs with
     | z+1,some ds=>some (z+1,.ag ds)
     | _,_=>none
 | .vd x n=>match n with
   | 0=>none
   | z+1=>some (z+1,x)
 | _=>none
/-- what is lent is no part of what it holds -/
def ApA (a:Option Addr) (es:List D):Prop:=∀ ad,a=some ad->∀ d∈es,ad.block∉d.foot
def Off (bs:List (Option Addr)) (d:D):Prop:=∀ a∈bs,∀ ad,a=some ad->ad.block∉d.foot
/-- what is lent is no part of the arguments that are none of the caller's own -/
def zOu (a:Option Addr):List PV->Prop->Prop
 | [],K=>K
 | .sv I z es c::ps,K=>Off [a] (.sl I z es c)->zOu a ps K
 | .dg _ x::ps,K=>Off [a] x->zOu a ps K
 | _::ps,K=>zOu a ps K
/-- a struct's cells, as data: rows that are the caller's own are lent -/
def zD8 (st:St) (I:List PV):List PV->(List D->List (Option Addr)->Prop)->Prop
 | [],K=>K [] []
 | p :: ps,K=>match p with
   | .sb k z lo n c=>match st.bx[k]? with
     | some (.arr _ z' es J)=>match decide (z=z'/\lo=0) with
       | true=>(n=es.length/\c=J)/\∀ a,ApA a es->zOu a I (zD8 st I ps λds bs=>K (.sl a z es c::ds) (a::bs))
       | false=>False
     | _=>False
   | p=>match rQ p with
     | some d=>zD8 st I ps λds bs=>K (d::ds) bs
     | none=>False
mutual
/-- the arguments; a row or a box that is the caller's own is lent -/
def zHg (st:St) (I:List PV):PV->(PV->List (Option Addr)->Prop)->Prop
 | .sb k z lo n c,K=>match st.bx[k]? with
   | some (.arr _ z' es J)=>match decide (z=z'/\lo=0) with
     | true=>(n=es.length/\c=J)/\∀ a,ApA a es->zOu a I (K (.sv a z es c) [a])
     | false=>False
   | _=>False
 | .pb k z i o,K=>match st.bx[k]? with
   | some B=>match decide (i=0/\o=0),zNT B with
     | true,some (z,x)=>∀ ad:Addr,ApA (some ad) [x]->zOu (some ad) I (K (.pd ad z x) [some ad])
     | _,_=>False
   | none=>False
 | .fn f caps,K=>match caps.all PV.isCap with
   | true=>zKi st I caps λcs bs=>K (.fn f cs) bs
   | false=>False
 | .pg cs,K=>match zF2 cs with
   | some ds=>K (.dg cs.length (.ag ds)) []
   | none=>zD8 st I cs λds bs=>K (.dg cs.length (.ag ds)) bs
 | p,K=>match sG p with
   | some q=>K q []
   | none=>False
def zKi (st:St) (I:List PV):List PV->(List PV->List (Option Addr)->Prop)->Prop
 | [],K=>K [] []
 | p::ps,K=>zHg st I p λq O=>zKi st I ps λqs U=>K (q::qs) (O++U)
end
def zQF (p:PV):Option (FuncId × List PV):=match p with
 | .fn f caps=>some (f,caps)
 | .dc (.fn f caps)=>some (f,zKX caps)
 | _=>none
def zOi (bs:List (Option Addr)):List PV->Prop->Prop
 | [],K=>K
 | .sv a z es c::ps,K=>Off bs (.sl a z es c)/\zOi bs ps K
 | .dg _ x::ps,K=>Off bs x/\zOi bs ps K
 | .dc x::ps,K=>Off bs x/\zOi bs ps K
 | _::ps,K=>zOi bs ps K
def zR7 (bs:List (Option Addr)):List Bx->Prop->Prop
 | [],K=>K
 | .arr _ _ es _::rs,K=>Off bs (.ag es)/\zR7 bs rs K
 | _::_,_=>False
def zSf (bs:List (Option Addr)) (ps:List PV) (rows:List Bx) (K:Prop):Prop:=
 match bs with
 | []=>K
 | b::bs=>zOi (b::bs) ps (zR7 (b::bs) rows K)
def Bel (N:Nat) (d:D):Prop:=∀ b∈d.foot,b<N
def zN3 (N:Nat):List PV->Prop->Prop
 | [],K=>K
 | .sv a z es c::ps,K=>Bel N (.sl a z es c)->zN3 N ps K
 | .dg _ x::ps,K=>Bel N x->zN3 N ps K
 | _::ps,K=>zN3 N ps K
def zQh (N:Nat):List Bx->Prop->Prop
 | [],K=>K
 | .arr _ _ es _::rs,K=>Bel N (.ag es)->zQh N rs K
 | _::rs,K=>zQh N rs K
def zHR:List PV->PV
 | [p]=>p
 | ps=>.tp ps
def zDt (pk:Bool) (ps:List PV):PV:=match pk with
 | true=>.pg ps
 | false=>zHR ps
/-- what is lent lies below -/
def ux (N:Nat) (bs:List (Option Addr)):Prop:=∀ a∈bs,∀ ad,a=some ad->ad.block<N
def zS3 (N:Nat) (bs:List (Option Addr)) (K:Prop):Prop:=match bs with
 | []=>K
 | _=>ux N bs->K
/-- an argument handed back: the caller's own row again -/
def bkP (as I:List PV):List Sh->List PV->(List PV->Prop)->Prop
 | [],ps,K=>K ps
 | s :: l,ps,K=>match s with
   | .pk=>bkP as I l ps K
   | .bk j=>match ps with
     | []=>K []
     | p::ps=>match p,as[j]?,I[j]? with
       | .dc x,some (.sv a z es c),some (.sb k z' lo n J)=>x=.sl a z es c/\bkP as I l ps λqs=>K (.sb k z' lo n J::qs)
       | _,_,_=>bkP as I l ps λqs=>K (p::qs)
   | _=>match ps with
     | []=>K []
     | p::ps=>bkP as I l ps λqs=>K (p::qs)
def zPk (P:Program) (sh:FuncId->List Sh) (st:St) (dst:Option Nat) (x:Operand) (args:List PV) (K:St->Prop):Prop:=
 match zQF (opd st.sl x) with
 | some (f,caps)=>match caps.all PV.isCap with
   | true=>zKi st (args++caps) (args++caps) λas bs=>∀ N1,st.N<=N1->zS3 N1 bs (ACalls P f (sh f) as N1 (QT.lam (sh f) st.bx.length λps rows N2=>N1<=N2->bkP as (args++caps) (sh f) ps λps=>
     zSf bs ps rows (zN3 N2 ps (zQh N2 rows (K (St.put { st with bx:=st.bx++rows,N:=N2 } dst (zDt (zBO (sh f)) ps)))))))
   | false=>False
 | none=>False
variable {av:Nat->Prop} {P:Program} {w0 w w':World} {e0 e:Env} {pS pS' pB:List Nat} {a:Act} {st st':St}
theorem Env.at_app {e e':Env} {k:Nat}:Env.at (e++e') k=if k<e.length then e.at k else e'.at (k - e.length):=by
 simp only [Env.at,oA,mm]
 split<;>rfl
theorem Good.lt {w:World} {live:Nat->Prop} {d:D} (h:Good w live d):∀ b∈d.foot,b<w.heap.size:=h.1.lt
/-- behind a call that hands rows back -/
theorem zPE (h:Rel av w0 e0 pS pB a w e st) (aw:∀ k∈pB,k<st.bx.length) {av':Nat->Prop} {bb:List Nat} (am:∀ b,zT av pB e st.bx b->av' b\/b∈bb)
  {e':Env} {rows:List Bx} (al:w.heap.size<=w'.heap.size) (hold:∀ b,b<w.heap.size->w'.heap[b]?=w.heap[b]?) (hm:Mem av' [] w' e' rows) (aj:∀ B∈rows,B.row)
  (ae:∀ (k b:Nat),e'.at k=some b->w.heap.size<=b) (ao:∀ b∈bb,∀ B∈rows,B.offB b)
  (aq:∀ (b:Nat) (c:Array Value) (t:TypeId) (z:Nat × Nat),w.heap.size<=b->w'.heap[b]?=some (.cells c t z)->Fz z) (au:KU w w') :
  Rel av w0 e0 pS pB a w' (e++e') { st with bx:=st.bx++rows,N:=w'.heap.size } /\
  ∀ d:D,Good w' (zT av' [] e' rows) d->(∀ b∈bb,b∉d.foot)->Good w' (zT av pB (e++e') (st.bx++rows)) d:=by
 have Y:∀ k,k<st.bx.length->Env.at (e++e') k=e.at k:=λk J=>by rw [Env.at_app,if_pos (by rw [h.el];exact J)]
 have ak:∀ k,Env.at (e++e') (st.bx.length+k)=e'.at k:=λk=>by
  rw [Env.at_app,if_neg (by rw [h.el];omega)]
  congr 1;rw [h.el];omega
 have I:∀ k b,Lives pB (e++e') (st.bx++rows) k b->Lives pB e st.bx k b\/∃ j,k=st.bx.length+j/\e'.at j=some b/\∃ B,rows[j]?=some B:=λk b ⟨h1,h2,B,h3,h4⟩=>by
  by_cases J:k<st.bx.length
  ·rw [Y k J] at h2
   rw [oM J] at h3
   exact .inl ⟨h1,h2,B,h3,h4⟩
  ·obtain ⟨j,rfl⟩:∃ j,k=st.bx.length+j:=⟨k - st.bx.length,by omega⟩
   rw [ak] at h2
   rw [oS (by omega)] at h3
   rw [show st.bx.length+j - st.bx.length=j by omega] at h3
   exact .inr ⟨j,rfl,h2,B,h3⟩
 have ah:∀ b,b<w.heap.size->zT av pB (e++e') (st.bx++rows) b->zT av pB e st.bx b:=λb U hl=>hl.elim .inl λ⟨k,J⟩=>by
  rcases I k b J with h1 | ⟨j,_,h1,_⟩
  ·exact .inr ⟨k,h1⟩
  ·have:=ae j b h1;omega
 have O:∀ (j:Nat) (B:Bx),rows[j]?=some B->B≠.gone/\B.refs=[]:=λj B hj=>(aj B (oB hj)).sp
 have ab:∀ d:D,Good w' (zT av' [] e' rows) d->(∀ b∈bb,b∉d.foot)->Good w' (zT av pB (e++e') (st.bx++rows)) d:=λd hd U=>by
  refine ⟨hd.1,λb ac hl=>?_⟩
  rcases hl with hl | ⟨k,J⟩
  ·rcases am b (.inl hl) with h1 | h1
   ·exact hd.2 b ac (.inl h1)
   ·exact U b h1 ac
  ·rcases I k b J with h1 | ⟨j,_,h1,B,h2⟩
   ·rcases am b (.inr ⟨k,h1⟩) with h1 | h1
    ·exact hd.2 b ac (.inl h1)
    ·exact U b h1 ac
   ·exact hd.2 b ac (.inr ⟨j,by simp,h1,B,h2,(O j B h2).1⟩)
 have ai:∀ (k:Nat) (B:Bx),(st.bx++rows)[k]?=some B->(k<st.bx.length/\st.bx[k]?=some B)\/∃ j,k=st.bx.length+j/\rows[j]?=some B:=λk B J=>by
  by_cases aa:k<st.bx.length
  ·rw [oM aa] at J;exact .inl ⟨aa,J⟩
  ·rw [oS (by omega)] at J;exact .inr ⟨k - st.bx.length,by omega,J⟩
 refine ⟨?_,ab⟩
 exact {
  el:=by simp [h.el,hm.el]
  br:=λk B J hn=>by
   rcases ai k B J with ⟨aa,J⟩ | ⟨j,rfl,hj⟩
   ·rw [Y k aa]
    by_cases hg:B=.gone
    ·subst hg;exact True.intro
    ·exact (h.br k B J hn).congr (λb U=>hold b (Lives.lt h.toMem ⟨hn,U,B,J,hg⟩)) λi hi=>Y i (h.bf k B J hn i hi).2
   ·rw [ak]
    exact (hm.br j B hj (by simp)).congr (λ_ _=>rfl) λi hi=>by rw [(O j B hj).2] at hi;simp at hi
  bo:=λk B J hn=>by
   rcases ai k B J with ⟨aa,J⟩ | ⟨j,rfl,hj⟩
   ·exact (h.bo k B J hn).mono (λb U _=>hold b U) al ah
   ·have hr:=aj B (oB hj)
    have ho:=λb U=>ao b U B (oB hj)
    have h0:=hm.bo j _ hj (by simp)
    cases B with
    | arr t z es c=>exact λx hx=>ab x (h0 x hx) λb U ac=>ho b U (zP.2 ⟨x,hx,ac⟩)
    | _=>
      obtain ⟨_,_,_,_,_,he⟩:=hr
      cases he<;>exact ⟨⟨ab _ h0.1.1 λb U=>(ho b U).elim,h0.1.2⟩,h0.2⟩
  bf:=λk B J hn i hi=>by
   rcases ai k B J with ⟨aa,J⟩ | ⟨j,rfl,hj⟩
   ·have:=h.bf k B J hn i hi;exact ⟨this.1,by simp;omega⟩
   ·rw [(O j B hj).2] at hi;simp at hi
  inj:=λi j b hi hj=>by
   rcases I i b hi with h1 | ⟨i',rfl,h1,B1,g1⟩
   ·rcases I j b hj with h2 | ⟨j',rfl,h2,B2,g2⟩
    ·exact h.inj i j b h1 h2
    ·have:=Lives.lt h.toMem h1;have:=ae j' b h2;omega
   ·rcases I j b hj with h2 | ⟨j',rfl,h2,B2,g2⟩
    ·have:=Lives.lt h.toMem h2;have:=ae i' b h1;omega
    ·rw [hm.inj i' j' b ⟨by simp,h1,B1,g1,(O _ _ g1).1⟩ ⟨by simp,h2,B2,g2,(O _ _ g2).1⟩]
  ku:=h.ku.trans au
  size:=oN h.size al
  old:=λb U hn=>(hold b (o7 U h.size)).trans (h.old b U hn)
  fz:=λb c t z U hc=>by
   by_cases aa:b<w.heap.size
   ·rw [hold b aa] at hc;exact h.fz b c t z U hc
   ·exact aq b c t z (by omega) hc
  nd:=h.nd
  sz:=h.sz
  hN:=oD _
  hs:=λi p hi hn=>by
   rcases h.hs i p hi hn with h1 | h1
   ·exact .inl h1
   ·exact .inr (h1.trans (PV.val_congr p λk J=>Y k (h.sr i p hi hn k J).2).symm)
  so:=λi p hi hn=>PV.Ok.mono (λb U _=>hold b U) al ah p (h.so i p hi hn)
  sr:=λi p hi hn k J=>by have:=h.sr i p hi hn k J;exact ⟨this.1,by simp;omega⟩
  own:=λk b J=>by
   rcases I k b J with h1 | ⟨j,_,h1,_⟩
   ·exact h.own k b h1
   ·have:=ae j b h1;have:=h.size;exact .inl (by omega)
  avl:=h.avl
  avn:=λk b J=>by
   rcases I k b J with h1 | ⟨j,_,h1,_⟩
   ·exact h.avn k b h1
   ·intro hc;have:=h.avl.lt b hc;have:=ae j b h1;have:=h.size;omega
  pin:=λk b U=>by
   have:=h.pin k b U
   have hl:k<st.bx.length:=by
    rw [<-h.el]
    exact lD λhc=>by
     rw [Env.at_ge hc] at this;simp at this
   rw [Y k hl];exact this
  pit:=h.pit }
end Go.Proofs.YtnmnahkkcfghjaaGreat
