/- Rows that grow: append; a row is opened, a row is closed. -/
import Derived.Test.YtmfjakahanbnlaaGreatDoorJc
import Derived.Deep.AppendSrc
import Derived.Laws.BitsLemmas
set_option linter.unusedVariables false
set_option linter.unusedSimpArgs false
namespace Go.Proofs.YtmfjakahanbnlaaGreatDoor
open Go
def PV.kill (k:Nat) (p:PV):PV:=if p.refs.contains k then .any else p
def Bx.kill (k:Nat):Bx->Bx
 | .var cs=>.var (cs.map (PV.kill k))
 | B=>B
def St.kill (k:Nat) (st:St):St:={ st with sl:=st.sl.map (PV.kill k),bx:=st.bx.map (Bx.kill k) }
theorem PV.kill_cases (k:Nat) (p:PV):p.kill k=.any\/(p.kill k=p/\k∉p.refs):=by
 unfold PV.kill
 split
 ·exact .inl rfl
 ·rename_i h;exact .inr ⟨rfl,by simpa using h⟩
theorem vv (k:Nat) (st:St):st.Weak (st.kill k) where
 sl := fun i p hi=>by
  simp only [St.kill,oE] at hi
  cases h:st.sl[i]? with
  | none=>simp [h] at hi
  | some q=>
    simp [h] at hi
    rcases PV.kill_cases k q with h1 | h1
    ·exact .inl (by rw [<-hi,h1])
    ·exact .inr (by rw [<-hi,h1.1])
 len:=by simp [St.kill]
 bl:=by simp [St.kill]
 bx := fun j B' hj=>by
  simp only [St.kill,oE] at hj
  cases h:st.bx[j]? with
  | none=>simp [h] at hj
  | some B=>
    simp [h] at hj
    refine ⟨B,rfl,?_⟩
    cases B with
    | var cs=>
      refine .inr (.inr ⟨cs,_,rfl,hj.symm,by simp,fun i p hi=>?_⟩)
      simp only [oE] at hi
      cases h2:cs[i]? with
      | none=>simp [h2] at hi
      | some q=>
        simp [h2] at hi
        rcases PV.kill_cases k q with h1 | h1
        ·exact .inl (by rw [<-hi,h1])
        ·exact .inr (by rw [<-hi,h1.1])
    | _=>exact .inr (.inl hj.symm)
 N:=oF _
 pin:=rfl
theorem qd {k:Nat} {st:St}:(∀ (i:Nat) (p:PV),(st.kill k).sl[i]?=some p->k∉p.refs)/\∀ (j:Nat) (B:Bx),(st.kill k).bx[j]?=some B->k∉B.refs:=by
 constructor
 ·intro i p hi
  simp only [St.kill,oE] at hi
  cases h:st.sl[i]? with
  | none=>simp [h] at hi
  | some q=>
    simp [h] at hi
    subst hi
    rcases PV.kill_cases k q with h1 | h1
    ·rw [h1];simp [PV.refs]
    ·rw [h1.1];exact h1.2
 ·intro j B hj
  simp only [St.kill,oE] at hj
  cases h:st.bx[j]? with
  | none=>simp [h] at hj
  | some C=>
    simp [h] at hj
    subst hj
    cases C with
    | var cs=>
      intro hc
      simp only [Bx.kill,Bx.refs] at hc
      obtain ⟨p,hp,hk⟩:=PV.refsL_mem.1 hc
      obtain ⟨q,_,rfl⟩:=oQ.1 hp
      rcases PV.kill_cases k q with h1 | h1
      ·rw [h1] at hk;simp [PV.refs] at hk
      ·rw [h1.1] at hk;exact h1.2 hk
    | _=>simp [Bx.kill,Bx.refs]
theorem zH2 {k:Nat} {st:St} {j:Nat} {t:TypeId} {z n:Nat} {es:List D} (h:st.bx[j]?=some (.arr t z es n)):(st.kill k).bx[j]?=some (.arr t z es n):=by
 simp [St.kill,oE,h,Bx.kill]
/-- what is appended -/
def zFf (g:Bool) (rb:Nat->Option Bx) (q:PV) (R:Nat->List D->Prop):Prop:=
 match q with
 | .sb k z lo n _=>match rb k with
   | some (.arr _ z' es _)=>match g with
     | false=>if z=z'/\lo=0/\n=es.length then R z es else False
     | true=>if z=z' then lo+n<=es.length/\R z ((es.drop lo).take n) else False
   | _=>False
 | .sv _ z es _=>R z es
 | _=>False
def zOk (P:Program) (el:TypeId) (z:Nat):Bool:=
 match rQ P el with
 | some cs=>cs.length==ez z
 | none=>false
def zC (es new:List D) (bytes:Nat):Prop:=(es++new).length*bytes<=140737488355328
/-- a snapshot may be appended to where it is nil, or where nothing fits behind it -/
def zJl (a:Option Addr) (es:List D) (c:Nat) (new:List D):Prop:=match a,c with
 | none,0=>True
 | _,_=>c=es.length/\new≠[]
def rT (st:St) (k:Nat):Bool:=match st.pins[k]? with
 | some (some _)=>true
 | _=>false
/-- what may be used of the room behind a row -/
def capG (g:Bool) (n c:Nat) (A:Prop):Prop:=match g with
 | false=>A
 | true=>n<=c->A
theorem capG.of {g:Bool} {n c:Nat} {A:Prop} (h:capG g n c A) (hc:n<=c):A:=by
 cases g
 ·exact h
 ·exact h hc
theorem capG.mono {g:Bool} {n c:Nat} {A B:Prop} (h:capG g n c A) (hAB:A->B):capG g n c B:=by
 cases g
 ·exact hAB h
 ·exact fun hc=>hAB (h hc)
def apF (g:Bool) (P:Program) (st:St) (dst:Option Nat) (t:TypeId) (x y:Operand) (K:St->Prop):Prop:=
 match P.underlying t with
 | some (.slice el)=>match kz P el,P.info? el with
   | some z,some i=>if i.bytes=0\/zOk P el z=false then False else
     zFf g (fun k=>st.bx[k]?) (retag P t (opd st.sl y)) fun z2 new=>if z2=z then
      match retag P t (opd st.sl x) with
      | .sb k z1 lo n c=>match rT st k with
        | true=>False
        | false=>match st.bx[k]? with
        | some (.arr t' z' es c')=>if z1=z/\z'=z/\lo=0/\t'=el then
         (n=es.length/\c=c')/\zC es new i.bytes/\∀ c2,capG g (es++new).length c2 (K (St.put { st.kill k with bx:=(st.kill k).bx.set k (.arr el z (es++new) c2) } dst (.sb k z 0 (es++new).length c2))) else False
        | _=>False
      | .sv a z1 es c=>if z1=z then
            zJl a es c new/\zC es new i.bytes/\∀ c2,K (St.put { st with bx:=st.bx++[.arr el z (es++new) c2] } dst (.sb st.bx.length z 0 (es++new).length c2)) else False
      | _=>False
     else False
   | _,_=>False
 | _=>False
variable {av:Nat->Prop} {P:Program} {w0 w w':World} {e0 e:Env} {pS pS' pB:List Nat} {a:Act} {st st':St}
theorem te {w:World} {ad:Addr} (hs:ad.spot=none) {c:Array Value} {t:TypeId} {fz:Nat × Nat} (h:w.heap[ad.block]?=some (.cells c t fz)) (j:Nat):w.cell? (ad.add j)=c[ad.off+j]?:=by
 obtain ⟨b,o,s⟩:=ad
 simp only at hs h ⊢
 subst hs
 rw [yL]
 exact wm h
theorem zIC {z:Nat} {es:List D} (h:∀ e∈es,eOk z e) {lo n:Nat} (hl:lo<=es.length) {j:Nat} {u:D} (hu:(zg ((es.drop lo).take n))[j]?=some u):(zg es)[lo*ez z+j]?=some u:=by
 have e1:es=es.take lo++((es.drop lo).take n++(es.drop lo).drop n):=by rw [nR,nR]
 have hl1:(zg (es.take lo)).length=lo*ez z:=by
  rw [zI (z:=z) fun x hx=>h x (oV hx),nB,Nat.min_eq_left hl]
 rw [e1,yQ,oM (by rw [hl1];exact Nat.le_add_right _ _),hl1,Nat.add_sub_cancel_left,yQ,oK (oB.1 hu).1]
 exact hu
/-- the source: its values, and where they stand -/
theorem zDw {g:Bool} (h:Mem av pB w e st.bx) {v:Value} {q:PV} {R:Nat->List D->Prop} (hv:ValOk av w e pB st.bx v q) (hs:zFf g (fun k=>st.bx[k]?) q R) :
  ∃ z new,R z new/\(∀ x∈new,eOk z x/\Good w (zJ av pB e st.bx) x) /\
    ((∃ c,v=.slice none new.length c/\new=[])\/∃ ad c,v=.slice (some ad) new.length c/\∀ (j:Nat) (u:Value),((zg new).map D.cv)[j]?=some u->w.cell? (ad.add j)=some u):=by
 unfold zFf at hs
 split at hs
 ·rename_i k z lo n c
  split at hs
  ·rename_i t z' es cb hk
   split at hs
   rotate_left
   ·split at hs
    rotate_left
    ·exact hs.elim
    rename_i hc
    subst hc
    obtain ⟨hln,hs⟩:=hs
    have hkp:=(hv.2.2 k (by simp [PV.refs])).1
    have hr:=h.br k _ hk hkp
    have hok:=h.bo k _ hk hkp
    have hv1:=hv.1.resolve_left (by simp)
    have hlen:((es.drop lo).take n).length=n:=by simp;omega
    rcases hr with ⟨h1,h2,h3⟩ | ⟨b,c',h1,h2,h3,h4,h5,h6,h7⟩
    ·subst h2
     have hn0:n=0:=by simp at hln;omega
     subst hn0
     refine ⟨z,[],by simpa using hs,by simp,.inl ⟨c,?_,rfl⟩⟩
     rw [hv1];simp [PV.val,PV.val1,PV.cv,h1]
    ·have hsub:∀ x∈(es.drop lo).take n,x∈es:=fun x hx=>oi (oV hx)
     refine ⟨z,_,hs,fun x hx=>⟨h6 x (hsub x hx),hok x (hsub x hx)⟩,.inr ⟨⟨b,lo*ez z,none⟩,c,?_,fun j u hu=>?_⟩⟩
     ·rw [hv1,hlen];simp [PV.val,PV.val1,PV.cv,h1]
     ·rw [te rfl h2]
      simp only [oE] at hu
      cases hf:(zg ((es.drop lo).take n))[j]? with
      | none=>simp [hf] at hu
      | some d=>simp [hf] at hu;subst hu;exact h7 _ d (zIC h6 (by omega) hf)
   split at hs
   ·rename_i hc
    obtain ⟨rfl,rfl,rfl⟩:=hc
    have hkp:=(hv.2.2 k (by simp [PV.refs])).1
    have hr:=h.br k _ hk hkp
    have hok:=h.bo k _ hk hkp
    have hv1:=hv.1.resolve_left (by simp)
    rcases hr with ⟨h1,h2,h3⟩ | ⟨b,c',h1,h2,h3,h4,h5,h6,h7⟩
    ·subst h2
     refine ⟨z,[],hs,by simp,.inl ⟨c,?_,rfl⟩⟩
     rw [hv1];simp [PV.val,PV.val1,PV.cv,h1]
    ·refine ⟨z,es,hs,fun x hx=>⟨h6 x hx,hok x hx⟩,.inr ⟨⟨b,0,none⟩,c,?_,fun j u hu=>?_⟩⟩
     ·rw [hv1];simp [PV.val,PV.val1,PV.cv,h1]
     ·rw [te rfl h2]
      simp only [oE] at hu
      cases hf:(zg es)[j]? with
      | none=>simp [hf] at hu
      | some d=>simp [hf] at hu;subst hu;simpa using h7 j d hf
   ·exact hs.elim
  ·exact hs.elim
 ·rename_i ad z es c
  have hv1:=hv.1.resolve_left (by simp)
  have hg:=hv.2.1
  simp only [PV.Ok] at hg
  obtain ⟨hh,hft⟩:=id hg
  cases hh with
  | nil=>exact ⟨z,[],hs,by simp,.inl ⟨0,by rw [hv1];rfl,rfl⟩⟩
  | sl h1 h2 h3 h4 h5=>
    rename_i ad
    refine ⟨z,es,hs,fun x hx=>⟨h3 x hx,hg.elem hx⟩,.inr ⟨ad,c,by rw [hv1];rfl,fun j u hu=>?_⟩⟩
    simp only [oE] at hu
    cases hf:(zg es)[j]? with
    | none=>simp [hf] at hu
    | some d=>
      simp [hf] at hu;subst hu
      rcases h5 with h5 | ⟨cc,t,fz,h6,h7⟩
      ·rw [h5] at hf;simp at hf
      ·rw [te (h1 fun h=>by subst h;simp [zg] at hf) h6];exact h7 j d hf
 ·exact hs.elim
theorem pR (t ty el:TypeId) (i:TypeInfo) (ht:P.underlying t=some (.slice el)) (hi:P.info? el=some i) (b:Option Addr) (n c c2:Nat) (hn:n<=c) :
  (Builtin.append_ #[t,t] ty #[.slice b n c,.slice none 0 c2]).run P w=.ok (.slice b n c) w:=by
 cases b<;>simp [Builtin.append_,run_underlying ht,sizeOf,typeInfo,hi,Builtin.lenOf,hn,Builtin.firstCells,loadCells,loadCellsFrom,storeCells]
theorem qC {z:Nat} {es:List D} (h:∀ e∈es,eOk z e):∀ u∈(zg es).map D.cv,u.oneCell'=true:=by
 intro u hu
 obtain ⟨d,hd,rfl⟩:=oQ.1 hu
 exact yR (zEB h d hd)
theorem zEj {t:TypeId} {z:Nat} (h:zOk P t z=true):∃ i v,P.info? t=some i/\i.zero=some v/\v.cells.size=ez z:=by
 unfold zOk at h
 split at h
 ·rename_i cs hz
  obtain ⟨i,v,h1,h2,h3,_⟩:=xV hz
  have:=(h3 default []).1
  exact ⟨i,v,h1,h2,by simp at h this;omega⟩
 ·cases h
theorem zw {l1 l2 l3:List Value} {ds1 ds2:List D} (h1:l1=ds1.map D.cv) (h2:l2=ds2.map D.cv) (i:Nat) (u:D) (hu:(ds1++ds2)[i]?=some u):(l1++l2++l3)[i]?=some u.cv:=by
 have hlt:i<(ds1++ds2).length:=(oB.1 hu).1
 rw [oK (by subst h1;subst h2;simpa using hlt),h1,h2,<-mE,oE,hu];rfl
/-- a row made anew: the relation holds with the box behind it -/
theorem sX (h:Rel av w0 e0 pS pB a w e st) {el:TypeId} {z n:Nat} {es:List D} {c:Array Value} (hp:st.bx.length∉pB) (hes:∀ x∈es,eOk z x/\Good w (zJ av pB e st.bx) x)
  (hc:c.size=n*ez z) (hn:es.length<=n) (hm:n<=maxLen) (hf:∀ (i:Nat) (u:D),(zg es)[i]?=some u->c[i]?=some u.cv)
  {w2:World} (hw2:w2.heap=w.heap) {dst:Option Nat} (hps:∀ i,i∈pS->some i≠dst->i∈pS') (hku:KU w w2:=by exact ⟨rfl,rfl⟩) :
  Rel av w0 e0 pS' pB (a.put dst (.slice (some ⟨w.heap.size,0,none⟩) es.length n)) (w2.alloc (.cells c el)) (e++[some w.heap.size]) (St.put { st with bx:=st.bx++[.arr el z es n] } dst (.sb st.bx.length z 0 es.length n)):=by
 have hrel2:Rel av w0 e0 pS pB a w2 e st:=by
  have:=zEv h (w':=w2) (by rw [hw2];exact oF _) (fun b _=>by rw [hw2]) (fun b c t z hb hc=>by rw [hw2] at hc;have:=(oN.1 hc).1;omega) hku
  exact zKV this (by show st.N<=_;rw [hw2];exact h.hN)
 have hes2:∀ x∈es,eOk z x/\Good w2 (zJ av pB e st.bx) x:=fun x hx=>⟨(hes x hx).1,(hes x hx).2.mono (fun b _ _=>by rw [hw2]) (fun _ _=>id)⟩
 have hpr:=vJ hrel2 (B:=.arr el z es n)
 have hL:∀ b,zJ av (st.bx.length::pB) (e++[none]) (st.bx++[.arr el z es n]) b->zJ av pB e st.bx b:=fun b hb=>sD (hb.imp id fun ⟨k,hk⟩=>⟨k,(y8 h.el).1 hk⟩)
 have nb:NewBox av w2 (e++[none]) (st.bx.length::pB) (st.bx++[.arr el z es n]) (.slice (some ⟨w2.heap.size,0,none⟩) es.length n) (w2.alloc (.cells c el)) (.arr el z es n) (fun k=>.sb k z 0 es.length n):={
  val:=fun k e' he=>by simp [PV.val,PV.val1,PV.cv,he]
  fr:=fun k=>by simp [PV.refs]
  fok:=fun k w live=>trivial
  rel:=fun e' _=>.inr ⟨w2.heap.size,c,rfl,heap_alloc_new w2 _,Nat.le_of_eq hc.symm,hn,hm,fun x hx=>(hes x hx).1,hf⟩
  ok:=fun x hx=>(hes2 x hx).2.mono (fun _ _ _=>rfl) (fun b _=>hL b)
  rf:=by simp [Bx.refs]
  ng:=by simp }
 have hrs:=tQ hpr (k:=st.bx.length) (B:=.arr el z es n) (by simp) (by simp) nb
 have hpBf:(st.bx.length::pB).filter (·≠st.bx.length)=pB:=by
  rw [List.filter_cons]
  simp only [ne_eq,nf,decide_false,nz,nO]
  exact List.filter_eq_self.2 fun k hk=>by simp;intro hc;exact hp (hc ▸ hk)
 have hset:(e++[none]).set st.bx.length (some w2.heap.size)=e++[some w2.heap.size]:=by
  rw [<-h.el,md _ _ (oF _)];simp
 rw [hpBf,hset,hw2] at hrs
 refine yX hrs (dst:=dst) (p:=.sb st.bx.length z 0 es.length n) ⟨.inr ?_,trivial,?_⟩ hps
 ·have:Env.at (e++[some w.heap.size]) st.bx.length=some w.heap.size:=by rw [<-h.el];exact Env.at_append_eq
  simp [PV.val,PV.val1,PV.cv,this]
 ·simp [PV.refs];exact hp
/-- a row that is not there yet -/
theorem uj (h:Rel av w0 e0 pS pB a w e st) {el:TypeId} {z:Nat} (hp:st.bx.length∉pB) :
  Rel av w0 e0 pS pB a w (e++[none]) { st with bx:=st.bx++[.arr el z [] 0] }:=by
 have hpr:=vJ h (B:=.arr el z [] 0)
 have hat:Env.at (e++[none]) st.bx.length=none:=by rw [<-h.el];exact Env.at_append_eq
 have hiff:∀ k,k∈(st.bx.length::pB)↔k=st.bx.length\/k∈pB:=fun k=>by simp
 have hlives:∀ k b,Lives pB (e++[none]) (st.bx++[.arr el z [] 0]) k b->Lives (st.bx.length::pB) (e++[none]) (st.bx++[.arr el z [] 0]) k b:=fun k b ⟨h1,h2,h3⟩=>by
  refine ⟨?_,h2,h3⟩
  rw [hiff]
  rintro (h4 | h4)
  ·rw [h4,hat] at h2;cases h2
  ·exact h1 h4
 have hlive:∀ b,zJ av pB (e++[none]) (st.bx++[.arr el z [] 0]) b->zJ av (st.bx.length::pB) (e++[none]) (st.bx++[.arr el z [] 0]) b:=fun b hb=>hb.imp id fun ⟨k,hk⟩=>⟨k,hlives k b hk⟩
 have hnew:∀ (B:Bx),(st.bx++[.arr el z [] 0])[st.bx.length]?=some B->B=.arr el z [] 0:=fun B hB=>by
  simp at hB;exact hB.symm
 exact {
  el:=hpr.el
  br:=fun k B hk hn=>by
   by_cases hkl:k=st.bx.length
   ·subst hkl;rw [hnew B hk];exact .inl ⟨hat,rfl,rfl⟩
   ·exact hpr.br k B hk (by rw [hiff];rintro (h4 | h4)<;>contradiction)
  bo:=fun k B hk hn=>by
   by_cases hkl:k=st.bx.length
   ·subst hkl;rw [hnew B hk];intro x hx;simp at hx
   ·exact (hpr.bo k B hk (by rw [hiff];rintro (h4 | h4)<;>contradiction)).mono (fun _ _ _=>rfl) (oF _) fun b _=>hlive b
  bf:=fun k B hk hn j hj=>by
   by_cases hkl:k=st.bx.length
   ·subst hkl;rw [hnew B hk] at hj;simp [Bx.refs] at hj
   ·have:=hpr.bf k B hk (by rw [hiff];rintro (h4 | h4)<;>contradiction) j hj
    exact ⟨fun hc=>this.1 (by simp [hc]),this.2⟩
  inj:=fun k j b hk hj=>hpr.inj k j b (hlives k b hk) (hlives j b hj)
  ku:=hpr.ku
  size:=hpr.size
  old:=hpr.old
  fz:=hpr.fz
  nd:=hpr.nd
  sz:=hpr.sz
  hN:=hpr.hN
  hs:=hpr.hs
  so:=fun i p hi hn=>PV.Ok.mono (fun _ _ _=>rfl) (oF _) (fun b _=>hlive b) p (hpr.so i p hi hn)
  sr:=fun i p hi hn k hk=>by
   have:=hpr.sr i p hi hn k hk
   exact ⟨fun hc=>this.1 (by simp [hc]),this.2⟩
  own:=fun k b hk=>hpr.own k b (hlives k b hk)
  avl:=hpr.avl
  avn:=fun k b hk=>hpr.avn k b (hlives k b hk)
  pin:=fun k b hb=>by have:=hpr.pin k b hb;exact ⟨this.1,fun hc=>this.2 (by simp [hc])⟩
  pit:=hpr.pit }
variable {av:Nat->Prop} {P:Program} {w0 w w':World} {e0 e:Env} {pS pS' pB:List Nat} {a:Act} {st st':St}
theorem zAu {es new:List D} {bytes:Nat} (h:zC es new bytes) (hb:bytes≠0):(es++new).length<=140737488355328:=by
 unfold zC at h
 have:(es++new).length*1<=(es++new).length*bytes:=Nat.mul_le_mul_left _ (by omega)
 omega
theorem Holds.sl_inv {w:World} {a:Option Addr} {z:Nat} {es:List D} {cap:Nat} (h:Holds w (.sl a z es cap)) :
  es.length<=cap/\(∀ x∈es,eOk z x)/\((a=none/\es=[]/\cap=0)\/∃ ad,a=some ad/\(zg es≠[]->ad.spot=none)/\Row w ad (zg es)):=by
 cases h with
 | nil=>exact ⟨oF _,by simp,.inl ⟨rfl,rfl,rfl⟩⟩
 | sl h1 h2 h3 h4 h5=>exact ⟨h2,h3,.inr ⟨_,rfl,fun hf=>h1 (zJY hf),h5⟩⟩
theorem zHc {w:World} {ad:Addr} {ds:List D} (hs:ds≠[]->ad.spot=none) (h:Row w ad ds) (j:Nat) (u:Value) (hu:(ds.map D.cv)[j]?=some u):w.cell? (ad.add j)=some u:=by
 simp only [oE] at hu
 cases hf:ds[j]? with
 | none=>simp [hf] at hu
 | some d=>
   simp [hf] at hu;subst hu
   rcases h with h5 | ⟨cc,t,fz,h6,h7⟩
   ·rw [h5] at hf;simp at hf
   ·rw [te (hs fun h=>by rw [h] at hf;simp at hf) h6];exact h7 j d hf
def zLj (w:World) (x:Option Nat):Prop:=∀ b,x=some b->∃ cur t,w.heap[b]?=some (.cells cur t (0,0))
def zLe (w:World) (x:Option Nat) (w':World):Prop:=∀ (b:Nat) (c:Array Value) (t:TypeId) (z:Nat × Nat),(w.heap.size<=b\/x=some b)->w'.heap[b]?=some (.cells c t z)->Fz z
theorem zJJ {x:Option Nat} (h:zLj w x):zLe w x w:=fun b c t z hb hc=>by
 rcases hb with hb | hb
 ·have:=(oN.1 hc).1;omega
 ·obtain ⟨cur,t',h1⟩:=h b hb
  rw [h1] at hc;cases hc;exact fz0
theorem zE9 {x:Option Nat} (h:zLj w x) {w2:World} (hw:w2.heap=w.heap) {c0:Array Value} {t0:TypeId}:zLe w x (w2.alloc (.cells c0 t0)):=fun b c t z hb hc=>by
 by_cases hlt:b<w.heap.size
 ·rw [vB (by rw [hw];exact hlt),hw] at hc
  rcases hb with hb | hb
  ·omega
  ·obtain ⟨cur,t',h1⟩:=h b hb
   rw [h1] at hc;cases hc;exact fz0
 ·have hb2:b=w2.heap.size:=by have:=(oN.1 hc).1;simp at this;rw [hw] at this ⊢;omega
  subst hb2
  rw [w7] at hc
  cases hc;exact fz0
theorem zKa {b0:Nat} {cur c':Array Value} {t0:TypeId} (h:w.heap[b0]?=some (.cells cur t0 (0,0))):zLe w (some b0) (w.setRow b0 c'):=fun b c t z hb hc=>by
 rcases hb with hb | hb
 ·have:=(oN.1 hc).1;simp [World.setRow] at this;omega
 ·cases hb
  rw [setRow_heap w b0 cur c' t0 _ h] at hc
  cases hc;exact fz0
theorem zEE {k:Nat} (h:rT st k=false):∀ b,(st.kill k).pins[k]?≠some (some b):=fun b hb=>by
 have hb:st.pins[k]?=some (some b):=hb
 unfold rT at h
 rw [hb] at h
 cases h
theorem ro (t tx ty e:TypeId) (i:TypeInfo) (ht:P.underlying t=some (.slice e)) (hi:P.info? e=some i)
  (g sLen sCap:Nat) (cur:Array Value) (hg:w.heap[g]?=some (.cells cur e (0,0))) (x:Value) (n:Nat) (news:List Value) (hs:Src P i.size tx x n news w)
  (hroom:sLen+n<=sCap) (hfit:sLen*i.size+news.length<=cur.size) :
  (Builtin.append_ #[t,tx] ty #[.slice (some ⟨g,0,none⟩) sLen sCap,x]).run P w =
   .ok (.slice (some ⟨g,0,none⟩) (sLen+n) sCap) (w.setRow g (cur.toList.take (sLen*i.size)++news++cur.toList.drop (sLen*i.size+news.length)).toArray):=by
 have hst:=run_storeCells_at P g (sLen*i.size) e news 0 cur w hg (by simpa using hfit) hs.one
 simp only [nw] at hst
 rcases hs.kind with ⟨e',hk⟩ | hk<;>simp [Builtin.append_,run_underlying ht,run_underlying hk,sizeOf,typeInfo,hi,hs.len,hroom,hs.cells,Addr.add_lit,hst]
/-- onto a row of the call's own, whatever is appended -/
theorem qr (h:Rel av w0 e0 pS pB a w e st) {dst:Option Nat} {t tx ty el:TypeId} {i:TypeInfo} {zv:Value} {z:Nat} (hel:P.underlying t=some (.slice el)) (hi:P.info? el=some i) (hzv:i.zero=some zv) (hzc:zv.cells.size=ez z) (hsz:i.size=ez z) (hby:i.bytes≠0)
  {vx vy:Value} {k c:Nat} {es new:List D} (ox:ValOk av w e pB st.bx vx (.sb k z 0 es.length c)) (hpn:rT st k=false) (hk:st.bx[k]?=some (.arr el z es c)) (hnew:∀ x∈new,eOk z x/\Good w (zJ av pB e st.bx) x) (hS:Src P i.size tx vy new.length ((zg new).map D.cv) w)
  (hbd:zC es new i.bytes) (hps:∀ i,i∈pS->some i≠dst->i∈pS') :
  ∃ v w' e' c2,(Builtin.append_ #[t,tx] ty #[vx,vy]).run P w=.ok v w'/\(es++new).length<=c2/\Rel av w0 e0 pS' pB (a.put dst v) w' e' (St.put { st.kill k with bx:=(st.kill k).bx.set k (.arr el z (es++new) c2) } dst (.sb k z 0 (es++new).length c2)):=by
 have hnl:((zg new).map D.cv).length=new.length*ez z:=by simp [zI fun x hx=>(hnew x hx).1]
 have hkp:=(ox.2.2 k (by simp [PV.refs])).1
 have hklt:k<st.bx.length:=(oB.1 hk).1
 have hke:k<e.length:=by rw [h.el];exact hklt
 have hr:=h.br k _ hk hkp
 have hok:=h.bo k _ hk hkp
 have hv1:=ox.1.resolve_left (by simp)
 have hle:=zAu hbd hby
 have hkl:=zEk h (vv k st)
 have hkk:=zH2 (k:=k) hk
 obtain ⟨hks,hkb⟩:=qd (k:=k) (st:=st)
 have hlw':∀ b,zJ av pB e (st.kill k).bx b->zJ av pB e st.bx b:=fun b hb=>hb.imp id fun ⟨j,j1,j2,B,j3,j4⟩=>by
  obtain ⟨B0,g1,g2⟩:=(vv k st).bx j B j3
  refine ⟨j,j1,j2,B0,g1,fun hc=>?_⟩
  subst hc
  rcases g2 with g2 | g2 | ⟨_,_,g2,_⟩
  ·exact j4 g2
  ·exact j4 g2
  ·cases g2
 -- what follows once the box has its new row
 have fin:∀ (xx:Option Nat) (w':World) (c2:Nat) (v:Value),(∀ e':Env,Env.at e' k=xx->v=(PV.sb k z 0 (es++new).length c2).val e') ->
   (w.heap.size<=w'.heap.size)->(∀ b,b<w.heap.size->e.at k≠some b->w'.heap[b]?=w.heap[b]?)->(xx=e.at k\/∃ b,xx=some b/\w.heap.size<=b) ->
   Bx.Rel w' (e.set k xx) xx (.arr el z (es++new) c2)->(∀ (b:Nat) (c:Array Value) (t:TypeId) (z:Nat × Nat),(w.heap.size<=b\/e.at k=some b)->w'.heap[b]?=some (.cells c t z)->Fz z)->KU w w'->(Builtin.append_ #[t,tx] ty #[vx,vy]).run P w=.ok v w' ->
   ∃ v w' e' c2,(Builtin.append_ #[t,tx] ty #[vx,vy]).run P w=.ok v w'/\(es++new).length<=c2/\Rel av w0 e0 pS' pB (a.put dst v) w' e' (St.put { st.kill k with bx:=(st.kill k).bx.set k (.arr el z (es++new) c2) } dst (.sb k z 0 (es++new).length c2)):=by
  intro xx w' c2 v hv hsz hold hx hB hfz hku hrun
  have hBok:Bx.Ok w (zJ av pB e (st.kill k).bx) (.arr el z (es++new) c2):=fun x hx=>by
   rcases oO.1 hx with hx | hx
   ·exact (hok x hx).mono (fun _ _ _=>rfl) (fun b _=>hlw' b)
   ·exact (hnew x hx).2.mono (fun _ _ _=>rfl) (fun b _=>hlw' b)
  have hst:=zDk hkl (w':=w') (x:=xx) hkk hkp (by simp) hsz hold
   (hx.imp id fun hb=>⟨hb,fun i p hi _=>hks i p hi,fun j C hj _ _=>hkb j C hj,rfl⟩) (fun _=>rfl) (.inr (zEE hpn)) hB hBok (by simp [Bx.refs]) hfz hku
  refine ⟨v,w',_,c2,hrun,?_,yX hst (dst:=dst) ⟨.inr (hv _ (Env.at_set_eq hke)),trivial,?_⟩ hps⟩
  ·rcases hB with ⟨_,g2,_⟩ | ⟨_,_,_,_,_,g4,_⟩
   ·rw [g2];simp
   ·exact g4
  simp [PV.refs,St.kill,hkp,hklt]
 have hfapp:(es++new).length*ez z=(zg es).length+new.length*ez z:=by
  rw [oH,nL]
  congr 1
  rcases hr with ⟨_,h2,_⟩ | ⟨b,cc,h1,h2,h3,h4,h5,h6,h7⟩
  ·subst h2;simp [zg]
  ·rw [zI h6]
 rcases hr with ⟨h1,h2,h3⟩ | ⟨b,cur,h1,h2,h3,h4,h5,h6,h7⟩
 ·-- no row yet
  subst h2;subst h3
  have hvx:vx=.slice none 0 0:=by rw [hv1];simp [PV.val,PV.val1,PV.cv,h1]
  by_cases hm:new.length=0
  ·have hne:new=[]:=oX hm
   subst hne
   refine fin none w 0 (.slice none 0 0) (fun e' he=>by simp [PV.val,PV.val1,PV.cv,he]) (oF _) (fun _ _ _=>rfl) (.inl h1.symm) (.inl ⟨rfl,by simp,rfl⟩) (zJJ (fun b hb=>by rw [h1] at hb;cases hb)) .rfl ?_
   have g1:=hS.len w
   have g2:=hS.cells
   simp only [nN,zg,mZ] at g1 g2
   rw [hvx]
   rcases hS.kind with ⟨e',hk2⟩ | hk2<;>simp [Builtin.append_,run_underlying hel,run_underlying hk2,sizeOf,typeInfo,hi,g1,g2]
  ·have hlt:0<new.length:=by omega
   unfold zC at hbd
   simp only [ou] at hbd hle
   have hrun:=run_append_grow_src (P:=P) w t tx ty el i zv hel hi hzv none 0 0 [] (run_firstCells_none w.drew i.size 0 0 0) vy new.length ((zg new).map D.cv) hS (by omega) (by omega) (by rw [nE,nextslicecap_zero hlt];omega)
   simp only [nE,ou] at hrun
   refine fin (some w.heap.size) _ (grownCap w new.length 0 el) (.slice (some ⟨w.heap.size,0,none⟩) new.length (grownCap w new.length 0 el)) (fun e' he=>by simp [PV.val,PV.val1,PV.cv,he]) (by simp) (fun b hb _=>vB (w:=w.drew) hb) (.inr ⟨_,rfl,oF _⟩) ?_ (zE9 (w2:=w.drew) (fun b hb=>by rw [h1] at hb;cases hb) rfl) ⟨rfl,rfl⟩ (by rw [hvx];exact hrun)
   have hge:=grownCap_ge w new.length 0 el
   have hcm:=grownCap_le_maxLen w new.length 0 el (by unfold maxLen;omega)
   refine .inr ⟨w.heap.size,_,rfl,heap_alloc_new w.drew _,?_,by simpa using hge,hcm,fun x hx=>(hnew x (by simpa using hx)).1,fun j u hu=>?_⟩
   ·simp only [mI,nS,size_zeroCells,hzc,hnl,<-nL];refine nW _ ?_;omega
   ·have:=zw (l1:=[]) (l3:=(Builtin.zeroCells zv.cells (grownCap w new.length 0 el - new.length)).toList) (ds1:=[]) rfl rfl j u (by simpa using hu)
    rw [<-o3]
    simpa using this
 ·have hvx:vx=.slice (some ⟨b,0,none⟩) es.length c:=by rw [hv1];simp [PV.val,PV.val1,PV.cv,h1]
  have hob:∀ (j:Nat) (u:Value),((zg es).map D.cv)[j]?=some u->cur[j]?=some u:=fun j u hu=>by
   simp only [oE] at hu
   cases hf:(zg es)[j]? with
   | none=>simp [hf] at hu
   | some d=>simp [hf] at hu;subst hu;exact h7 j d hf
  ·by_cases hroom:es.length+new.length<=c
   ·have hfit:es.length*i.size+((zg new).map D.cv).length<=cur.size:=by rw [hnl,hsz,<-nL];exact ol (nW _ hroom) h3
    have hrun:=ro (P:=P) t tx ty el i hel hi b es.length c cur h2 vy new.length ((zg new).map D.cv) hS hroom hfit
    refine fin (some b) _ c (.slice (some ⟨b,0,none⟩) (es.length+new.length) c) (fun e' he=>by simp [PV.val,PV.val1,PV.cv,he]) (by simp [World.setRow]) (fun j hj hn=>setRow_other w b j _ (fun hc=>hn (by rw [h1,hc]))) (.inl h1.symm) ?_ (by intro b' c' t2 z hb hc;rw [h1] at hb;exact zKa h2 b' c' t2 z hb hc) ⟨rfl,rfl⟩ (by rw [hvx];exact hrun)
    have hfl:=zI h6
    refine .inr ⟨b,_,rfl,setRow_heap w b cur _ el _ h2,?_,by simpa using hroom,h5,fun x hx=>?_,fun j u hu=>?_⟩
    ·have hroom2:(es.length+new.length)*ez z<=c*ez z:=nW _ hroom
     rw [nL] at hroom2
     simp only [nS,oH,nB,nx,oh,hnl,hsz]
     omega
    ·rcases oO.1 hx with hx | hx
     ·exact h6 x hx
     ·exact (hnew x hx).1
    ·rw [yQ] at hu
     have htk:cur.toList.take (es.length*i.size)=(zg es).map D.cv:=by
      apply o6
      intro q
      rw [ob]
      split
      ·rename_i hq
       rw [hsz,<-hfl] at hq
       have:=hob q _ (by rw [oE,oG hq];rfl)
       rw [o3,this,oE,oG hq];rfl
      ·rename_i hq
       rw [hsz,<-hfl] at hq
       rw [oU (by simp;omega)]
     have:=zw (l3:=cur.toList.drop (es.length*i.size+((zg new).map D.cv).length)) htk rfl j u hu
     simpa using this
   ·unfold zC at hbd
    rw [oH] at hbd hle
    have hrun:=run_append_grow_src (P:=P) w t tx ty el i zv hel hi hzv (some ⟨b,0,none⟩) es.length c ((zg es).map D.cv) (run_firstCells_some w.drew i.size es.length ⟨b,0,none⟩ es.length c _ (by simp [zI h6,hsz]) (fun j u hu=>by rw [te rfl (w:=w.drew) (c:=cur) (t:=el) (fz:=(0,0)) h2];simpa using hob j u hu))
     vy new.length ((zg new).map D.cv) hS (by omega) (by omega) (growslice_fits (by omega) hbd)
    rw [show ((zg es).map D.cv++(zg new).map D.cv).toArray=((zg es).map D.cv).toArray++((zg new).map D.cv).toArray by simp] at hrun
    refine fin (some w.heap.size) _ (grownCap w (es.length+new.length) c el) (.slice (some ⟨w.heap.size,0,none⟩) (es.length+new.length) (grownCap w (es.length+new.length) c el)) (fun e' he=>by simp [PV.val,PV.val1,PV.cv,he]) (by simp) (fun j hj _=>vB (w:=w.drew) hj) (.inr ⟨_,rfl,oF _⟩) ?_ (zE9 (w2:=w.drew) (fun b' hb=>by rw [h1] at hb;cases hb;exact ⟨_,_,h2⟩) rfl) ⟨rfl,rfl⟩ (by rw [hvx];exact hrun)
    have hge:=grownCap_ge w (es.length+new.length) c el
    have hcm:=grownCap_le_maxLen w (es.length+new.length) c el (by unfold maxLen;omega)
    refine .inr ⟨w.heap.size,_,rfl,heap_alloc_new w.drew _,?_,by simpa using hge,hcm,fun x hx=>?_,fun j u hu=>?_⟩
    ·simp only [mI,nS,size_zeroCells,hzc,hnl,nM,zI h6,<-nL];refine nW _ ?_;omega
    ·rcases oO.1 hx with hx | hx
     ·exact h6 x hx
     ·exact (hnew x hx).1
    ·rw [yQ] at hu
     have:=zw (l3:=(Builtin.zeroCells zv.cells (grownCap w (es.length+new.length) c el - (es.length+new.length))).toList) rfl rfl j u hu
     rw [<-o3]
     simpa using this
theorem zGx {g:Bool} (h:Rel av w0 e0 pS pB a w e st) (hpl:∀ k∈pB,k<st.bx.length) {dst:Option Nat} {t ty:TypeId} {x y:Operand} {K:St->Prop}
  (hx:∀ i,x=.tmp i->i∉pS) (hy:∀ i,y=.tmp i->i∉pS) (hps:∀ i,i∈pS->some i≠dst->i∈pS') (hs:apF g P st dst t x y K) :
  ∃ v w' e' st',(Builtin.append_ #[t,t] ty #[a.eval x,a.eval y]).run P w=.ok v w'/\K st'/\Rel av w0 e0 pS' pB (a.put dst v) w' e' st':=by
 have hnp:st.bx.length∉pB:=fun hc=>Nat.lt_irrefl _ (hpl _ hc)
 unfold apF at hs
 split at hs
 rotate_left
 ·exact hs.elim
 rename_i el hel
 split at hs
 rotate_left
 ·exact hs.elim
 rename_i z i hz hi
 split at hs
 ·exact hs.elim
 rename_i hbz
 have hby:i.bytes≠0:=fun hc=>hbz (.inl hc)
 have hzs:zOk P el z=true:=by
  cases hh:zOk P el z with
  | true=>rfl
  | false=>exact absurd (.inr hh) hbz
 obtain ⟨i',zv,hi',hzv,hzc⟩:=zEj hzs
 rw [hi] at hi'
 have:=o1 hi'
 subst this
 have hsz:i.size=ez z:=by obtain ⟨i',h1,h2⟩:=s7 hz;rw [hi] at h1;cases h1;exact h2
 have oy:=(yP h hy).valOk.retag (P:=P) t
 have ox:=(yP h hx).valOk.retag (P:=P) t
 generalize a.eval y=vy at oy ⊢
 generalize a.eval x=vx at ox ⊢
 obtain ⟨z2,new,hs,hnew,hsrc⟩:=zDw h.toMem oy hs
 split at hs
 rotate_left
 ·exact hs.elim
 rename_i hz2
 subst hz2
 have hnl:((zg new).map D.cv).length=new.length*ez z2:=by simp [zI fun x hx=>(hnew x hx).1]
 have hn1:=qC fun x hx=>(hnew x hx).1
 split at hs
 ·-- onto a row of the call's own
  rename_i k z1 lo n c hq
  rw [hq] at ox
  split at hs
  ·exact hs.elim
  rename_i hpn
  split at hs
  rotate_left
  ·exact hs.elim
  rename_i t' z' es c' hk
  split at hs
  rotate_left
  ·exact hs.elim
  rename_i hc
  obtain ⟨rfl,rfl,rfl,rfl⟩:=hc
  obtain ⟨⟨rfl,rfl⟩,hbd,hK⟩:=hs
  have hS:Src P i.size t vy new.length ((zg new).map D.cv) w:=by
   rcases hsrc with ⟨c2,rfl,rfl⟩ | ⟨ad,c2,rfl,hcell⟩
   ·exact Src.ofNil w hel c2
   ·exact Src.ofSlice w hel ad _ c2 _ (by rw [hnl,hsz]) hcell hn1
  obtain ⟨v,w',e',c2,g1,g2,g3⟩:=qr h (ty:=ty) hel hi hzv hzc hsz hby ox hpn hk hnew hS hbd hps
  exact ⟨v,w',e',_,g1,(hK c2).of g2,g3⟩
 ·-- onto a slice that is left as it is
  rename_i av' z1 es c hq
  rw [hq] at ox
  split at hs
  rotate_left
  ·exact hs.elim
  rename_i hc
  subst hc
  obtain ⟨hnil,hbd,hK⟩:=hs
  have hv1:=ox.1.resolve_left (by simp)
  have hg:=ox.2.1
  simp only [PV.Ok] at hg
  obtain ⟨i1,i2,i3⟩:=hg.1.sl_inv
  have hle:=zAu hbd hby
  have hes:∀ x∈es++new,eOk z1 x/\Good w (zJ av pB e st.bx) x:=fun x hx=>by
   rcases oO.1 hx with hx | hx
   ·exact ⟨i2 x hx,hg.elem hx⟩
   ·exact hnew x hx
  rcases i3 with ⟨rfl,rfl,rfl⟩ | ⟨ad0,rfl,i4,i5⟩
  ·have hvx:vx=.slice none 0 0:=by rw [hv1];rfl
   have nothing:new=[]->(Builtin.append_ #[t,t] ty #[vx,vy]).run P w=.ok (.slice none 0 0) w->∃ v w' e' st',(Builtin.append_ #[t,t] ty #[vx,vy]).run P w=.ok v w'/\K st'/\Rel av w0 e0 pS' pB (a.put dst v) w' e' st':=fun hne hrun=>by
    subst hne
    have hat:Env.at (e++[none]) st.bx.length=none:=by rw [<-h.el];exact Env.at_append_eq
    refine ⟨_,w,_,_,hrun,hK 0,yX (uj h (el:=el) (z:=z1) hnp) (dst:=dst) (p:=.sb st.bx.length z1 0 0 0) ⟨.inr (by simp [PV.val,PV.val1,PV.cv,hat]),trivial,by simp [PV.refs];exact hnp⟩ hps⟩
   rcases hsrc with ⟨c2,hvy,hne⟩ | ⟨ad,c2,hvy,hcell⟩
   ·exact nothing hne (by subst hne;rw [hvx,hvy];exact pR (P:=P) (w:=w) t ty el i hel hi none 0 0 c2 (oF _))
   ·by_cases hm:new.length=0
    ·have hne:new=[]:=oX hm
     exact nothing hne (by subst hne;rw [hvx,hvy];simp [Builtin.append_,run_underlying hel,sizeOf,typeInfo,hi,Builtin.lenOf,Builtin.firstCells,loadCells,loadCellsFrom])
    ·have hlt:0<new.length:=by omega
     unfold zC at hbd
     simp only [ou] at hbd hle
     have hrun:=run_append_nil (P:=P) w t ty el i zv hel hi hzv ad new.length c2 ((zg new).map D.cv) (by rw [hnl,hsz]) hcell hlt (by omega) (by omega)
     have hge:=grownCap_ge w new.length 0 el
     have hcm:=grownCap_le_maxLen w new.length 0 el (by unfold maxLen;omega)
     have hfin:=sX h (el:=el) (z:=z1) (n:=grownCap w new.length 0 el) (es:=[]++new) (c:=(((zg new).map D.cv).toArray++Builtin.zeroCells zv.cells (grownCap w new.length 0 el - new.length))) hnp hes
      (by simp only [mI,nS,size_zeroCells,hzc,hnl,<-nL];congr 1;omega) (by simpa using hge) hcm (fun j u hu=>by
       have:=zw (l1:=[]) (l3:=(Builtin.zeroCells zv.cells (grownCap w new.length 0 el - new.length)).toList) (ds1:=[]) rfl rfl j u (by simpa using hu)
       rw [<-o3]
       simpa using this) (w2:=w.drew) rfl (dst:=dst) hps
     exact ⟨_,_,_,_,by rw [hvx,hvy];exact hrun,hK (grownCap w new.length 0 el),hfin⟩
  ·have hcl:c=es.length/\new≠[]:=hnil
   obtain ⟨rfl,hne⟩:=hcl
   have hlt:0<new.length:=mV.2 hne
   have hvx:vx=.slice (some ad0) es.length es.length:=by rw [hv1];rfl
   rcases hsrc with ⟨c2,hvy,hne'⟩ | ⟨ad,c2,hvy,hcell⟩
   ·exact absurd hne' hne
   ·unfold zC at hbd
    rw [oH] at hbd hle
    have hrun:=run_append_grow (P:=P) w t ty el i zv hel hi hzv ad0 es.length es.length ((zg es).map D.cv) (by simp [zI i2,hsz]) (fun j u hu=>zHc i4 i5 j u hu)
     ad new.length c2 ((zg new).map D.cv) (by rw [hnl,hsz]) hcell (by omega) (by omega) (growslice_fits (by omega) hbd)
    have hge:=grownCap_ge w (es.length+new.length) es.length el
    have hcm:=grownCap_le_maxLen w (es.length+new.length) es.length el (by unfold maxLen;omega)
    have hfin:=sX h (el:=el) (z:=z1) (n:=grownCap w (es.length+new.length) es.length el) (es:=es++new)
     (c:=(((zg es).map D.cv).toArray++((zg new).map D.cv).toArray++Builtin.zeroCells zv.cells (grownCap w (es.length+new.length) es.length el - (es.length+new.length)))) hnp hes
     (by simp only [mI,nS,size_zeroCells,hzc,hnl,nM,zI i2,<-nL];congr 1;omega) (by simpa using hge) hcm (fun j u hu=>by
      rw [yQ] at hu
      have:=zw (l3:=(Builtin.zeroCells zv.cells (grownCap w (es.length+new.length) es.length el - (es.length+new.length))).toList) rfl rfl j u hu
      rw [<-o3]
      simpa using this) (w2:=w.drew) rfl (dst:=dst) hps
    have hKK:=hK (grownCap w (es.length+new.length) es.length el)
    rw [oH] at hfin hKK
    exact ⟨_,_,_,_,by rw [hvx,hvy];exact hrun,hKK,hfin⟩
 ·exact hs.elim
variable {av:Nat->Prop} {P:Program} {w0 w w':World} {e0 e:Env} {pS pS' pB:List Nat} {a:Act} {st st':St}
/-- the row of a slot's slice is cut to the slice's length -/
def zGN (st:St) (dst:Option Nat) (K:St->Prop):Prop:=
 match dst with
 | some d=>match st.sl[d]? with
   | some (.sb k z lo n c)=>match st.bx[k]? with
     | some (.arr t z' es c')=>match Nat.beq lo 0 with
       | true=>n<=es.length/\K { st with bx:=st.bx.set k (.arr t z' (es.take n) c') }
       | false=>False
     | _=>False
   | _=>K st
 | none=>K st
theorem zEd (h:Rel av w0 e0 pS pB a w e st) {k:Nat} {t:TypeId} {z c:Nat} {es es':List D} (hk:st.bx[k]?=some (.arr t z es c)) (hkp:k∉pB)
  (hle:es'.length<=es.length) (hsub:∀ x∈es',x∈es) (hf:∀ (i:Nat) (u:D),(zg es')[i]?=some u->(zg es)[i]?=some u) :
  Rel av w0 e0 pS pB a w e { st with bx:=st.bx.set k (.arr t z es' c) }:=by
 have hke:k<e.length:=by rw [h.el];exact (oB.1 hk).1
 have hr:=h.br k _ hk hkp
 have hok:=h.bo k _ hk hkp
 have:=zDk h (w':=w) (x:=e.at k) (B':=.arr t z es' c) hk hkp (by simp) (oF _) (fun _ _ _=>rfl) (.inl rfl) (fun _=>rfl) (.inl rfl) ?_ (fun x hx=>hok x (hsub x hx)) (by simp [Bx.refs]) (fun b c2 t2 z2 hb hc=>?_) .rfl
 ·rwa [ue hke] at this
 ·rw [ue hke]
  rcases hr with ⟨h1,h2,h3⟩ | ⟨b,cc,h1,h2,h3,h4,h5,h6,h7⟩
  ·subst h2
   have:es'=[]:=oX (by simpa using hle)
   subst this
   exact .inl ⟨h1,rfl,h3⟩
  ·exact .inr ⟨b,cc,h1,h2,h3,by omega,h5,fun x hx=>h6 x (hsub x hx),fun i u hu=>h7 i u (hf i u hu)⟩
 ·rcases hb with hb | hb
  ·have:=(oN.1 hc).1;omega
  ·rcases hr with ⟨h1,_⟩ | ⟨b',cc,h1,h2,_⟩
   ·rw [h1] at hb;cases hb
   ·rw [h1] at hb;cases hb
    rw [h2] at hc;cases hc;exact fz0
theorem zBp (es:List D) (n:Nat) (i:Nat) (u:D) (h:(zg (es.take n))[i]?=some u):(zg es)[i]?=some u:=by
 have he:zg es=zg (es.take n)++zg (es.drop n):=by rw [<-yQ,nR]
 rw [he,oK (oB.1 h).1]
 exact h
theorem zEF {K:St->Prop} {dst:Option Nat} (h:Rel av w0 e0 pS [] a w e st) (hs:zGN st dst K):∃ st',K st'/\Rel av w0 e0 pS [] a w e st'/\st'.bx.length=st.bx.length:=by
 unfold zGN at hs
 split at hs
 ·split at hs
  ·split at hs
   ·rename_i t z' es c' hk
    split at hs
    ·obtain ⟨h1,h2⟩:=hs
     exact ⟨_,h2,zEd h hk (by simp) (by simp;omega) (fun x hx=>oV hx) (zBp es _),by simp⟩
    ·exact hs.elim
   ·exact hs.elim
  ·exact ⟨st,hs,h,rfl⟩
 ·exact ⟨st,hs,h,rfl⟩
theorem qM {el:TypeId} {zd:D} (w:World) (h:zFX P el 0=some zd):∃ i zv,P.info? el=some i/\i.zero=some zv/\zv.cells.toList=[zd.cv]/\zd.isCell/\∀ (w:World) (live:Nat->Prop),Good w live zd:=by
 unfold zFX at h
 split at h
 ·rename_i cs hcs
  obtain ⟨i2,zv,hi2,hzv,hcells,hok,_⟩:=xV hcs
  simp only [mg] at h
  split at h
  ·rename_i p
   obtain ⟨_,q2,q3,q4,_⟩:=yO (w:=w) (e:=[]) h (hok w (fun _=>False) p (by simp)).1
   refine ⟨i2,zv,hi2,hzv,?_,q2,fun w live=>(yO (w:=w) (e:=[]) h (hok w live p (by simp)).1).1⟩
   have h0:=(hcells w []).2 0 p rfl
   have hne:p≠.any:=fun hh=>by subst hh;exact q4
   have h0:=h0.resolve_left hne
   have hl1:zv.cells.toList.length=1:=(hcells w []).1
   match hzl:zv.cells.toList,hl1 with
   | [v0],_=>rw [hzl] at h0;simp at h0;rw [h0,q3]
  ·cases h
 ·cases h
/-- the elements of a slice of the call's own become zero values -/
def zGH (P:Program) (st:St) (dst:Option Nat) (t:TypeId) (x:Operand) (K:St->Prop):Prop:=
 match P.underlying t with
 | some (.slice el)=>match kz P el,zFX P el 0 with
   | some 0,some zd=>match opd st.sl x with
     | .sb k z lo n c=>match st.bx[k]? with
       | some (.arr t' z' es c')=>match Nat.beq z 0&&Nat.beq z' 0 with
         | true=>lo+n<=es.length/\K (St.put { st with bx:=st.bx.set k (.arr t' 0 (es.take lo++(List.replicate n zd++es.drop (lo+n))) c') } dst (.tp []))
         | false=>False
       | _=>False
     | _=>False
   | _,_=>False
 | _=>False
theorem xC {zv:Value} {v:Value} (h:zv.cells.toList=[v]) (n:Nat):(Builtin.zeroCells zv.cells n).toList=List.replicate n v:=by
 have:zv.cells=#[v]:=by apply nG.1;simpa using h
 rw [this]
 simp [Builtin.zeroCells]
 apply List.ext_getElem
 ·simp
 ·intro i h1 h2
  simp [Nat.mod_one]
theorem wy:∀ {es:List D},(∀ x∈es,x.isCell)->zg es=es
 | [],_=>rfl
 | x::es,h=>by
   rw [xk,wy fun y hy=>h y (by simp [hy])]
   have:=h x (by simp)
   cases x<;>simp [D.isCell] at this<;>rfl
theorem zBe {t ty el:TypeId} {i:TypeInfo} {zv v:Value} {b lo n c:Nat} {w':World} (hel:P.underlying t=some (.slice el)) (hi:P.info? el=some i) (hzv:i.zero=some zv) (hzc:zv.cells.toList=[v]) (hn:0<n)
  (hst:(storeCells ⟨b,lo,none⟩ (List.replicate n v)).run P w=.ok () w'):(Builtin.clear_ #[t] ty #[.slice (some ⟨b,lo,none⟩) n c]).run P w=.ok (.tuple #[]) w':=by
 obtain ⟨m,rfl⟩:∃ m,n=m+1:=⟨n - 1,by omega⟩
 simp [Builtin.clear_,run_underlying hel,xd hi hzv,xC hzc,hst]
theorem zD8 (h:Rel av w0 e0 pS pB a w e st) {dst:Option Nat} {t ty:TypeId} {x:Operand} {K:St->Prop} (hx:∀ i,x=.tmp i->i∉pS) (hps:∀ i,i∈pS->some i≠dst->i∈pS') (hs:zGH P st dst t x K) :
  ∃ v w' st',(Builtin.clear_ #[t] ty #[a.eval x]).run P w=.ok v w'/\K st'/\Rel av w0 e0 pS' pB (a.put dst v) w' e st'/\∃ k B,(∃ z lo n c,opd st.sl x=.sb k z lo n c)/\st'=St.put { st with bx:=st.bx.set k B } dst (.tp []):=by
 unfold zGH at hs
 split at hs
 rotate_left
 ·exact hs.elim
 rename_i el hel
 split at hs
 rotate_left
 ·exact hs.elim
 rename_i zd hkz hzd
 split at hs
 rotate_left
 ·exact hs.elim
 rename_i k z lo n c hp
 split at hs
 rotate_left
 ·exact hs.elim
 rename_i t' z' es c' hk
 split at hs
 rotate_left
 ·exact hs.elim
 rename_i hz
 simp only [oL] at hz
 obtain ⟨rfl,rfl⟩:z=0/\z'=0:=⟨om hz.1,om hz.2⟩
 obtain ⟨hle,hK⟩:=hs
 have ox:=yP h hx
 rw [hp] at ox
 have hkp:=(ox.rf k (by simp [PV.refs])).1
 have hv:=ox.h.resolve_left (by simp)
 obtain ⟨i,zv,hi,hzv,hzc,hcell,hgood⟩:=qM w hzd
 have hke:k<e.length:=by rw [h.el];exact (oB.1 hk).1
 have hr:=h.br k _ hk hkp
 have hok:=h.bo k _ hk hkp
 have put:∀ w2,Rel av w0 e0 pS pB a w2 e { st with bx:=st.bx.set k (.arr t' 0 (es.take lo++(List.replicate n zd++es.drop (lo+n))) c') }->Rel av w0 e0 pS' pB (a.put dst (.tuple #[])) w2 e (St.put { st with bx:=st.bx.set k (.arr t' 0 (es.take lo++(List.replicate n zd++es.drop (lo+n))) c') } dst (.tp [])):=fun w2 h2=>
  yX h2 ⟨.inr (by simp [PV.val,PV.val1,PV.cvs]),by simp [PV.Ok,PV.OkL],by simp [PV.refs,PV.refsL]⟩ hps
 rcases mX n with hn0 | hn0
 ·subst hn0
  refine ⟨.tuple #[],w,_,?_,hK,put w ?_,k,_,⟨_,_,_,_,hp⟩,rfl⟩
  ·rw [hv]
   cases hb:e.at k<;>simp [PV.val,PV.val1,PV.cv,hb,Builtin.clear_,run_underlying hel]
  ·refine zEd h hk hkp (by simp<;>omega) (fun x hx=>?_) (fun j u hu=>?_)
   ·simp only [List.replicate_zero,ou,nw,nR] at hx;exact hx
   ·simp only [List.replicate_zero,ou,nw,nR] at hu;exact hu
 ·rcases hr with ⟨h1,h2,h3⟩ | ⟨b,cur,h1,h2,h3,h4,h5,h6,h7⟩
  ·subst h2;simp at hle;omega
  ·have hes:∀ x∈es,x.isCell:=fun x hx=>by have:=h6 x hx;simpa [eOk] using this
   have hfl:zg es=es:=wy hes
   have hez:ez 0=1:=rfl
   rw [hfl] at h7
   rw [hez,Nat.mul_one] at h3
   have h1c:∀ v∈List.replicate n zd.cv,v.oneCell'=true:=fun v hv=>by rw [nJ hv];exact yR hcell
   have hst:=run_storeCells_at (P:=P) b lo t' (List.replicate n zd.cv) 0 cur w h2 (by simp;omega) h1c
   rw [nw] at hst
   refine ⟨.tuple #[],w.setRow b (cur.toList.take lo++List.replicate n zd.cv++cur.toList.drop (lo+(List.replicate n zd.cv).length)).toArray,_,?_,hK,put _ (tg h hk hkp (by simp) h1 h2 (fun _=>rfl) ?_ ?_ (by simp [Bx.refs])),k,_,⟨_,_,_,_,hp⟩,rfl⟩
   ·have hvv:(PV.sb k 0 lo n c).val e=.slice (some ⟨b,lo,none⟩) n c:=by simp [PV.val,PV.val1,PV.cv,h1,hez]
    rw [hv,hvv]
    exact zBe hel hi hzv hzc hn0 hst
   ·rw [h1]
    refine .inr ⟨b,_,rfl,setRow_heap w b cur _ t' _ h2,?_,?_,h5,?_,?_⟩
    ·simp only [nS,oH,nB,nx,nl,oh,hez,Nat.mul_one];omega
    ·simp only [oH,nB,nx,nl];omega
    ·intro x hx
     rcases oO.1 hx with hx | hx
     ·exact h6 x (oV hx)
     ·rcases oO.1 hx with hx | hx
      ·rw [nJ hx];simpa [eOk] using hcell
      ·exact h6 x (oi hx)
    ·intro j u hu
     rw [wy fun x hx=>?_] at hu
     ·simp only [nl,mc,nC]
      by_cases hj:j<lo
      ·rw [oK (by simp;omega),ob,if_pos hj] at hu
       rw [oK (by simp;omega),ob,if_pos hj]
       simpa using h7 j u hu
      ·rw [oM (by simp;omega)] at hu ⊢
       have e1:(es.take lo).length=lo:=by simp;omega
       have e2:(cur.toList.take lo).length=lo:=by simp;omega
       rw [e1] at hu
       rw [e2]
       by_cases hj2:j - lo<n
       ·rw [oK (by simpa using hj2),mL,if_pos hj2] at hu ⊢
        cases hu;rfl
       ·rw [oM (by simp;omega)] at hu ⊢
        simp only [nl,nD] at hu ⊢
        have:=h7 _ u hu
        simpa using this
     ·rcases oO.1 hx with hx | hx
      ·exact hes x (oV hx)
      ·rcases oO.1 hx with hx | hx
       ·rw [nJ hx];exact hcell
       ·exact hes x (oi hx)
   ·intro x hx
    rcases oO.1 hx with hx | hx
    ·exact hok x (oV hx)
    ·rcases oO.1 hx with hx | hx
     ·rw [nJ hx];exact hgood _ _
     ·exact hok x (oi hx)
/-- append(nil, make(..)...) -/
def zJS (P:Program) (st:St) (dst:Option Nat) (t t':TypeId) (x y:Operand) (K:St->Prop):Prop:=
 match P.underlying t,P.underlying t' with
 | some (.slice el),some (.int _)=>match kz P el,P.info? el,zFX P el 0 with
   | some 0,some i,some zd=>match retag P t (opd st.sl x),opd st.sl y with
     | .sv none _ [] 0,.int .i64 m=>(0<=m/\m*i.bytes<=140737488355328/\m<=140737488355328)/\∀ c2,K (St.put { st with bx:=st.bx++[.arr el 0 (List.replicate m.toNat zd) c2] } dst (.sb st.bx.length 0 0 m.toNat c2))
     | _,_=>False
   | _,_,_=>False
 | _,_=>False
theorem zHY (n:Nat) (h:(n:Int)<=9223372036854775807):IntKind.i64.wrap (n:Int)=n:=by
 rw [IntKind.wrap_i64];omega
theorem pU (t t' ty el:TypeId) (k:IntKind) (i:TypeInfo) (z:Value) (ht:P.underlying t=some (.slice el)) (ht':P.underlying t'=some (.int k)) (hi:P.info? el=some i) (hz:i.zero=some z) (h1:i.size=1)
  (n:Nat) (h0:0<n) (h63:(n:Int)<=9223372036854775807) (h48:n*i.bytes<=281474976710656) :
  (Builtin.append_ #[t,t'] ty #[.slice none 0 0,.int .i64 n]).run P w =
   .ok (.slice (some ⟨w.heap.size,0,none⟩) n (grownCap w n 0 el)) (w.drew.alloc (.cells (Builtin.zeroCells z.cells n++Builtin.zeroCells z.cells (grownCap w n 0 el - n)) el)):=by
 have hn:n≠0:=by omega
 have h63':¬(9223372036854775807<(n:Int)):=by omega
 have h48':¬(281474976710656<Builtin.nextslicecap n 0*i.bytes):=by rw [nextslicecap_zero h0];omega
 have h48'':¬(281474976710656<(n:Int)*(i.bytes:Int)):=by
  have h5:((n*i.bytes:Nat):Int)<=281474976710656:=by omega
  rw [Int.natCast_mul] at h5
  omega
 have hw:IntKind.i64.wrap (n:Int)=n:=zHY n h63
 have hneg:¬((n:Int)<0):=by omega
 simp [hneg,Builtin.append_,run_underlying ht,run_underlying ht',sizeOf,typeInfo,zeroValue,hi,hz,asInt,asIntOf,hw,h1,Builtin.lenOf,hn,h63',h48',h48'',Question.forced,run_firstCells_none,newRow,grownCap]
theorem zFh (h:Rel av w0 e0 pS pB a w e st) (hpl:∀ k∈pB,k<st.bx.length) {dst:Option Nat} {t t' ty:TypeId} {x y:Operand} {K:St->Prop}
  (hx:∀ i,x=.tmp i->i∉pS) (hy:∀ i,y=.tmp i->i∉pS) (hps:∀ i,i∈pS->some i≠dst->i∈pS') (hs:zJS P st dst t t' x y K) :
  ∃ v w' e' st',(Builtin.append_ #[t,t'] ty #[a.eval x,a.eval y]).run P w=.ok v w'/\K st'/\Rel av w0 e0 pS' pB (a.put dst v) w' e' st'/\∃ rows q,st'=St.put { st with bx:=st.bx++rows } dst q:=by
 have hnp:st.bx.length∉pB:=fun hc=>Nat.lt_irrefl _ (hpl _ hc)
 unfold zJS at hs
 split at hs
 rotate_left
 ·exact hs.elim
 rename_i el kk hel ht'
 split at hs
 rotate_left
 ·exact hs.elim
 rename_i i zd hkz hi hzd
 have ox:=(yP h hx).valOk.retag (P:=P) t
 have oy:=(yP h hy).valOk
 generalize a.eval x=vx at ox ⊢
 generalize a.eval y=vy at oy ⊢
 split at hs
 rotate_left
 ·exact hs.elim
 rename_i zz m hpx hpy
 rw [hpx] at ox
 rw [hpy] at oy
 have hvx:vx=.slice none 0 0:=by have:=ox.1.resolve_left (by simp);simpa [PV.val,PV.val1,PV.cv] using this
 have hvy:vy=.int .i64 m:=by have:=oy.1.resolve_left (by simp);simpa [PV.val,PV.val1,PV.cv] using this
 subst hvx;subst hvy
 obtain ⟨⟨hm0,hmb,hmm⟩,hK⟩:=hs
 obtain ⟨i',zv,hi',hzv,hzc,hcell,hgood⟩:=qM w hzd
 rw [hi] at hi'
 have:=o1 hi'
 subst this
 have hsz:i.size=1:=by obtain ⟨i',h1,h2⟩:=s7 hkz;rw [hi] at h1;cases h1;exact h2
 obtain ⟨n,rfl⟩:∃ n:Nat,m=n:=⟨m.toNat,by omega⟩
 simp only [oJ] at hK
 have hw:IntKind.i64.wrap (n:Int)=n:=zHY n (by omega)
 have hnb:n*i.bytes<=281474976710656:=by
  have h5:((n*i.bytes:Nat):Int)<=140737488355328:=by rw [Int.natCast_mul];exact hmb
  omega
 rcases mX n with hn0 | hn0
 ·subst hn0
  have hat:Env.at (e++[none]) st.bx.length=none:=by rw [<-h.el];exact Env.at_append_eq
  refine ⟨.slice none 0 0,w,_,_,?_,hK 0,yX (uj h (el:=el) (z:=0) hnp) (dst:=dst) (p:=.sb st.bx.length 0 0 0 0) ⟨.inr (by simp [PV.val,PV.val1,PV.cv,hat]),trivial,by simp [PV.refs];exact hnp⟩ hps,_,_,rfl⟩
  have hw0:IntKind.i64.wrap 0=0:=by rw [IntKind.wrap_i64];rfl
  simp [Builtin.append_,run_underlying hel,run_underlying ht',sizeOf,typeInfo,hi,asInt,asIntOf,hw0]
 ·have hrun:=pU (P:=P) (w:=w) t t' ty el kk i zv hel ht' hi hzv hsz n hn0 (by omega) hnb
  have hge:=grownCap_ge w n 0 el
  have hcm:=grownCap_le_maxLen w n 0 el (by unfold maxLen;omega)
  have hrc:∀ x∈List.replicate n zd,x.isCell:=fun x hx=>by rw [nJ hx];exact hcell
  have hfin:=sX h (el:=el) (z:=0) (n:=grownCap w n 0 el) (es:=List.replicate n zd) (c:=Builtin.zeroCells zv.cells n++Builtin.zeroCells zv.cells (grownCap w n 0 el - n)) hnp
   (fun x hx=>by rw [nJ hx];exact ⟨by simpa [eOk] using hcell,hgood _ _⟩)
   (by
    have h1:(Builtin.zeroCells zv.cells n).size=n:=by rw [<-oh,xC hzc];simp
    have h2:(Builtin.zeroCells zv.cells (grownCap w n 0 el - n)).size=grownCap w n 0 el - n:=by rw [<-oh,xC hzc];simp
    rw [mI,h1,h2,show ez 0=1 from rfl];omega) (by simpa using hge) hcm (fun j u hu=>by
    rw [wy hrc] at hu
    rw [mL] at hu
    split at hu
    ·rename_i hj
     cases hu
     rw [<-o3,Array.toList_append,oK (by rw [xC hzc];simpa using hj),xC hzc,mL,if_pos hj]
    ·cases hu) (w2:=w.drew) rfl (dst:=dst) hps
  simp only [nl] at hfin
  exact ⟨_,_,_,_,hrun,hK _,hfin,_,_,rfl⟩
/-- a string's bytes -/
def zo (s:ByteArray):List D:=s.data.toList.map fun b=>.lit (.int .u8 b.toNat)
theorem zF8 (s:ByteArray):(zg (zo s)).map D.cv=byteCells s:=by
 rw [wy fun x hx=>by obtain ⟨_,_,rfl⟩:=oQ.1 hx;trivial]
 simp [zo,byteCells,D.cv]
theorem vF (s:ByteArray):(zo s).length=s.size:=by
 rw [<-byteCells_length s];simp [zo,byteCells]
/-- a string's bytes, onto a row of the call's own -/
def zGc (P:Program) (st:St) (dst:Option Nat) (t t':TypeId) (x y:Operand) (K:St->Prop):Prop:=
 match P.underlying t,P.underlying t' with
 | some (.slice el),some .string=>match kz P el,P.info? el with
   | some 0,some i=>if i.bytes=0\/zOk P el 0=false then False else
     match retag P t (opd st.sl x),opd st.sl y with
     | .sb k z1 lo n c,.str s=>match rT st k with
       | true=>False
       | false=>match st.bx[k]? with
         | some (.arr t1 z' es c')=>if z1=0/\z'=0/\lo=0/\t1=el then
          (n=es.length/\c=c')/\zC es (zo s) i.bytes/\∀ c2,K (St.put { st.kill k with bx:=(st.kill k).bx.set k (.arr el 0 (es++zo s) c2) } dst (.sb k 0 0 (es++zo s).length c2)) else False
         | _=>False
     | _,_=>False
   | _,_=>False
 | _,_=>False
theorem zDW (h:Rel av w0 e0 pS pB a w e st) {dst:Option Nat} {t t' ty:TypeId} {x y:Operand} {K:St->Prop}
  (hx:∀ i,x=.tmp i->i∉pS) (hy:∀ i,y=.tmp i->i∉pS) (hps:∀ i,i∈pS->some i≠dst->i∈pS') (hs:zGc P st dst t t' x y K) :
  ∃ v w' e' st',(Builtin.append_ #[t,t'] ty #[a.eval x,a.eval y]).run P w=.ok v w'/\K st'/\Rel av w0 e0 pS' pB (a.put dst v) w' e' st' /\
    ∃ k z lo n c B q,retag P t (opd st.sl x)=.sb k z lo n c/\(∃ t1 z1 es c1,st.bx[k]?=some (.arr t1 z1 es c1))/\st'=St.put { st.kill k with bx:=(st.kill k).bx.set k B } dst q:=by
 unfold zGc at hs
 split at hs
 rotate_left
 ·exact hs.elim
 rename_i el hel ht'
 split at hs
 rotate_left
 ·exact hs.elim
 rename_i i hz hi
 split at hs
 ·exact hs.elim
 rename_i hbz
 have hby:i.bytes≠0:=fun hc=>hbz (.inl hc)
 have hzs:zOk P el 0=true:=by
  cases hh:zOk P el 0 with
  | true=>rfl
  | false=>exact absurd (.inr hh) hbz
 obtain ⟨i',zv,hi',hzv,hzc⟩:=zEj hzs
 rw [hi] at hi'
 have:=o1 hi'
 subst this
 have hsz:i.size=ez 0:=by obtain ⟨i',h1,h2⟩:=s7 hz;rw [hi] at h1;cases h1;exact h2
 have oy:=(yP h hy).valOk
 have ox:=(yP h hx).valOk.retag (P:=P) t
 generalize a.eval y=vy at oy ⊢
 generalize a.eval x=vx at ox ⊢
 split at hs
 rotate_left
 ·exact hs.elim
 rename_i k z1 lo n c s hq hp
 split at hs
 ·exact hs.elim
 rename_i hpn
 split at hs
 rotate_left
 ·exact hs.elim
 rename_i t1 z' es c' hk
 split at hs
 rotate_left
 ·exact hs.elim
 rename_i hc
 obtain ⟨rfl,rfl,rfl,rfl⟩:=hc
 obtain ⟨⟨rfl,rfl⟩,hbd,hK⟩:=hs
 rw [hq] at ox
 rw [hp] at oy
 have hvy:vy=.string s:=by have:=oy.1.resolve_left (by simp);simpa [PV.val,PV.val1,PV.cv] using this
 subst hvy
 have hS:Src P i.size t' (.string s) (zo s).length ((zg (zo s)).map D.cv) w:=by
  rw [hsz,zF8,vF];exact Src.ofString w ht' s
 obtain ⟨v,w',e',c2,g1,g2,g3⟩:=qr h (ty:=ty) hel hi hzv hzc hsz hby ox hpn hk (fun x hx=>by
  obtain ⟨_,_,rfl⟩:=oQ.1 hx
  exact ⟨by simp [eOk,D.isCell];rfl,Good.lit⟩) hS hbd hps
 exact ⟨v,w',e',_,g1,hK c2,g3,_,_,_,_,_,_,_,hq,⟨_,_,_,_,hk⟩,rfl⟩
/-- a slice's capacity -/
def zLo:PV->Option Nat
 | .sv _ _ _ c=>some c
 | .sb _ _ _ _ c=>some c
 | _=>none
/-- the shape of a result: 'row': a slice whose row is the caller's own from now on -/
inductive Sh where
 | int (k:IntKind)
 | bool
 | str
 | sl (z:Nat)
 | ag (n:Nat)
 | row (t:TypeId) (z:Nat)
 /-- ahead of shapes of cells: the one result is a struct of these -/
 | pk
 /-- one cell, told as data -/
 | dc
 /-- one cell, told as data: the argument with this number, handed back -/
 | bk (j:Nat)
 /-- a pointer to a new struct of a slice of numbers and two numbers -/
 | cu
/-- what is said of the results, and of the number of blocks behind the call -/
def QT:List Sh->Type
 | []=>Nat->Prop
 | .int _::l=>Int->QT l
 | .bool::l=>Bool->QT l
 | .str::l=>ByteArray->QT l
 | .sl _::l=>Option Addr->List D->Nat->QT l
 | .ag _::l=>D->QT l
 | .row _ _::l=>List D->Nat->QT l
 | .pk::l=>QT l
 | .dc::l=>D->QT l
 | .bk j::l=>D->QT l
 | .cu::l=>Option Addr->List D->Nat->Int->Int->QT l
def zIt:List Sh->Bool
 | []=>true
 | .ag _::_=>false
 | .pk::_=>false
 | .cu::_=>false
 | _::l=>zIt l
def rh:List Sh->Bool
 | .pk::_=>true
 | _=>false
def QT.app:(l:List Sh)->QT l->Nat->List PV->List Bx->Nat->Prop
 | .pk::l,Q,b,ps,rows,N=>zIt l=true/\QT.app l Q b ps rows N
 | [],Q,_,[],[],N=>Q N
 | .int k::l,Q,b,.int k' n::ps,rows,N=>k=k'/\QT.app l (Q n) b ps rows N
 | .bool::l,Q,b,.bool v::ps,rows,N=>QT.app l (Q v) b ps rows N
 | .str::l,Q,b,.str v::ps,rows,N=>QT.app l (Q v) b ps rows N
 | .sl z::l,Q,b,.sv a z' es c::ps,rows,N=>z=z'/\QT.app l (Q a es c) b ps rows N
 | .ag n::l,Q,b,.dg n' x::ps,rows,N=>n=n'/\QT.app l (Q x) b ps rows N
 | .dc::l,Q,b,.dc x::ps,rows,N=>QT.app l (Q x) b ps rows N
 | .bk j::l,Q,b,.dc x::ps,rows,N=>QT.app l (Q x) b ps rows N
 | .row t z::l,Q,b,.sb k z' lo n c::ps,.arr t' z'' es c'::rows,N=>(k=b/\z'=z/\lo=0/\n=es.length/\c=c'/\t'=t/\z''=z)/\QT.app l (Q es c) (b+1) ps rows N
 | .cu::l,Q,b,p::ps,B::rows,N=>∃ a es c n m,p=.pb b 0 0 0/\B=.var [.sv a 0 es c,.int .i64 n,.int .i64 m]/\QT.app l (Q a es c n m) (b+1) ps rows N
 | _,_,_,_,_,_=>False
def QT.lam:(l:List Sh)->Nat->(List PV->List Bx->Nat->Prop)->QT l
 | [],_,K=>fun N=>K [] [] N
 | .int k::l,b,K=>fun n=>QT.lam l b fun ps rows N=>K (.int k n::ps) rows N
 | .bool::l,b,K=>fun v=>QT.lam l b fun ps rows N=>K (.bool v::ps) rows N
 | .str::l,b,K=>fun v=>QT.lam l b fun ps rows N=>K (.str v::ps) rows N
 | .sl z::l,b,K=>fun a es c=>QT.lam l b fun ps rows N=>K (.sv a z es c::ps) rows N
 | .ag n::l,b,K=>fun x=>QT.lam l b fun ps rows N=>K (.dg n x::ps) rows N
 | .row t z::l,b,K=>fun es c=>QT.lam l (b+1) fun ps rows N=>K (.sb b z 0 es.length c::ps) (.arr t z es c::rows) N
 | .pk::l,b,K=>QT.lam l b K
 | .dc::l,b,K=>fun x=>QT.lam l b fun ps rows N=>K (.dc x::ps) rows N
 | .bk j::l,b,K=>fun x=>QT.lam l b fun ps rows N=>K (.dc x::ps) rows N
 | .cu::l,b,K=>fun a es c n m=>QT.lam l (b+1) fun ps rows N=>K (.pb b 0 0 0::ps) (.var [.sv a 0 es c,.int .i64 n,.int .i64 m]::rows) N
def PV.shift (b:Nat):PV->PV
 | .sb k z lo n c=>.sb (b+k) z lo n c
 | .pb k z i o=>.pb (b+k) z i o
 | p=>p
theorem QT.app_lam:∀ (l:List Sh) (d b:Nat) (K:List PV->List Bx->Nat->Prop) (ps:List PV) (rows:List Bx) (N:Nat),QT.app l (QT.lam l (d+b) K) b ps rows N->K (ps.map (PV.shift d)) rows N:=by
 intro l
 induction l with
 | nil=>
   intro d b K ps rows N h
   cases ps<;>cases rows<;>simp [QT.app] at h
   exact h
 | cons s l ih=>
   intro d b K ps rows N h
   cases s with
   | pk=>exact ih d b K ps rows N h.2
   | row t z=>
     rcases ps with _ | ⟨p,ps⟩<;>rcases rows with _ | ⟨B,rows⟩<;>try (simp [QT.app] at h;done)
     cases p<;>cases B<;>simp [QT.app] at h
     obtain ⟨⟨rfl,rfl,rfl,rfl,rfl,rfl,rfl⟩,h⟩:=h
     exact ih d (_+1) (fun ps rows N=>K (.sb _ _ 0 _ _::ps) (.arr _ _ _ _::rows) N) ps rows N h
   | cu=>
     rcases ps with _ | ⟨p,ps⟩<;>rcases rows with _ | ⟨B,rows⟩<;>try (simp [QT.app] at h;done)
     obtain ⟨a,es,c,n,m,rfl,rfl,h⟩:=h
     exact ih d (b+1) (fun ps rows N=>K (.pb _ 0 0 0::ps) (.var _::rows) N) ps rows N h
   | _=>
     rcases ps with _ | ⟨p,ps⟩
     ·simp [QT.app] at h
     cases p<;>simp [QT.app] at h<;>first | exact ih d b _ ps rows N h | (obtain ⟨rfl,h⟩:=h;exact ih d b _ ps rows N h)
/-- what goes along with a result -/
def Bx.row (B:Bx):Prop:=match B with
 | .arr _ _ _ _=>True
 | B=>∃ a es c n m,B=.var [.sv a 0 es c,.int .i64 n,.int .i64 m]
theorem Bx.row.sp {B:Bx} (h:B.row):B≠.gone/\B.refs=[]:=by
 cases B with
 | arr t z es c=>exact ⟨by simp,rfl⟩
 | _=>obtain ⟨_,_,_,_,_,h⟩:=h;cases h<;>exact ⟨by simp,rfl⟩
def Bx.offB (b:Nat):Bx->Prop
 | .arr _ _ es _=>b∉zM es
 | _=>False
theorem QT.app_rows:∀ (l:List Sh) (Q:QT l) (b:Nat) (ps:List PV) (rows:List Bx) (N:Nat),QT.app l Q b ps rows N ->
  (∀ B∈rows,B.row)/\(∀ p∈ps,p≠.any/\(∀ l,p≠.tp l)/\∀ k∈p.refs,k<b+rows.length):=by
 intro l
 induction l with
 | nil=>
   intro Q b ps rows N h
   cases ps<;>cases rows<;>simp [QT.app] at h ⊢
 | cons s l ih=>
   intro Q b ps rows N h
   have two:∀ (p:PV) (B:Bx) (ps:List PV) (rows:List Bx) (Q:QT l),QT.app l Q (b+1) ps rows N->B.row->p≠.any->(∀ l,p≠.tp l)->(∀ k∈p.refs,k=b)->(∀ B'∈B::rows,B'.row)/\(∀ q∈p::ps,q≠.any/\(∀ l,q≠.tp l)/\∀ k∈q.refs,k<b+(B::rows).length):=fun p B ps rows Q h hB h1 h2 h3=>by
    obtain ⟨g1,g2⟩:=ih Q _ ps rows N h
    refine ⟨fun B' hB'=>?_,fun q hq=>?_⟩
    ·rcases oI.1 hB' with rfl | hB'
     ·exact hB
     ·exact g1 _ hB'
    ·rcases oI.1 hq with rfl | hq
     ·exact ⟨h1,h2,fun k hk=>by have:=h3 k hk;simp;omega⟩
     ·obtain ⟨i1,i2,i3⟩:=g2 q hq
      exact ⟨i1,i2,fun k hk=>by have:=i3 k hk;simp;omega⟩
   cases s with
   | pk=>exact ih Q b ps rows N h.2
   | row t z=>
     rcases ps with _ | ⟨p,ps⟩<;>rcases rows with _ | ⟨B,rows⟩<;>try (simp [QT.app] at h;done)
     cases p<;>cases B<;>simp [QT.app] at h
     obtain ⟨⟨rfl,_⟩,h⟩:=h
     exact two _ _ _ _ _ h trivial (by simp) (by simp) (by simp [PV.refs])
   | cu=>
     rcases ps with _ | ⟨p,ps⟩<;>rcases rows with _ | ⟨B,rows⟩<;>try (simp [QT.app] at h;done)
     obtain ⟨a,es,c,n,m,rfl,rfl,h⟩:=h
     exact two _ _ _ _ _ h ⟨_,_,_,_,_,rfl⟩ (by simp) (by simp) (by simp [PV.refs])
   | _=>
     rcases ps with _ | ⟨p,ps⟩
     ·simp [QT.app] at h
     cases p<;>simp [QT.app] at h
     all_goals
      first | replace h:=h.2 | skip
      obtain ⟨h1,h2⟩:=ih _ b ps rows N h
      exact ⟨h1,fun q hq=>by rcases oI.1 hq with rfl | hq;exact ⟨by simp,by simp,by simp [PV.refs]⟩;exact h2 q hq⟩
def yo (P:Program) (f:FuncId):Bool:=
 match P.funcs[f]? with
 | some fn => fn.name != "runtime.NumGoroutine" && fn.body.isSome
 | none=>false
def zHM (e:Env):List PV->Value
 | [p]=>p.val1 e
 | ps=>.tuple (ps.map (PV.val1 e)).toArray
def zFO (pk:Bool) (e:Env) (ps:List PV):Value:=match pk with
 | true=>.agg (PV.cvs e ps).toArray
 | false=>zHM e ps
/-- told cells are cells -/
theorem QT.app_cells:∀ (l:List Sh) (Q:QT l) (b:Nat) (ps:List PV) (rows:List Bx) (N:Nat),zIt l=true->QT.app l Q b ps rows N->∀ p∈ps,p.isC:=by
 intro l
 induction l with
 | nil=>intro Q b ps rows N hc h;cases ps<;>cases rows<;>simp [QT.app] at h ⊢
 | cons s l ih=>
   intro Q b ps rows N hc h
   cases s with
   | pk=>simp [zIt] at hc
   | ag n=>simp [zIt] at hc
   | cu=>simp [zIt] at hc
   | row t z=>
     rcases ps with _ | ⟨p,ps⟩<;>rcases rows with _ | ⟨B,rows⟩<;>try (simp [QT.app] at h;done)
     cases p<;>cases B<;>simp [QT.app] at h
     have ih:=ih _ _ ps rows N hc h.2
     intro q hq;rcases oI.1 hq with rfl | hq
     ·trivial
     ·exact ih q hq
   | _=>
     rcases ps with _ | ⟨p,ps⟩
     ·simp [QT.app] at h
     cases p<;>simp [QT.app] at h
     all_goals
      first | replace h:=h.2 | skip
      intro q hq;rcases oI.1 hq with rfl | hq
      ·trivial
      ·exact ih _ b ps rows N hc h q hq
/-- how a call ends -/
structure Done (rs:List Sh) (Q:QT rs) (av:Nat->Prop) (w0:World) (v:Value) (w:World) (ps:List PV) (rows:List Bx) (e:Env):Prop where
 q:QT.app rs Q 0 ps rows w.heap.size
 v:v=zFO (rh rs) e ps
 m:Mem av [] w e rows
 ok:∀ p∈ps,p.Ok w (zJ av [] e rows)
 fresh:∀ (k b:Nat),e.at k=some b->w0.heap.size<=b
 size:w0.heap.size<=w.heap.size
 old:∀ b,b<w0.heap.size->w.heap[b]?=w0.heap[b]?
 fz:∀ (b:Nat) (c:Array Value) (t:TypeId) (z:Nat × Nat),w0.heap.size<=b->w.heap[b]?=some (.cells c t z)->Fz z
 ku:KU w0 w
def Fin (rs:List Sh) (Q:QT rs) (av:Nat->Prop) (w0:World):Ending->World->Prop
 | .returned v,w=>∃ ps rows e,Done rs Q av w0 v w ps rows e
 | _,_=>False
/-- the function's contract -/
structure ACalls (P:Program) (f:FuncId) (rs:List Sh) (args:List PV) (N:Nat) (Q:QT rs):Prop where
 c:yo P f=true
 h : ∀ (av:Nat->Prop) (w0:World),w0.heap.size=N->Avl av w0 []->(∀ p∈args,p.Ok w0 av/\p.refs=[]) ->
   Calls P f (args.map (PV.val [])).toArray w0 (Fin rs Q av w0)
variable {av:Nat->Prop} {P:Program} {w0 w w':World} {e0 e:Env} {pS pS' pB pB':List Nat} {a:Act} {st st':St}
def zKs (st:St) (k:Nat):Bool:=match st.bx[k]? with
 | some (.arr ..)=>true
 | _=>false
/-- the boxes that can be reached, in the order in which they are met -/
def sB (bx:List Bx):Nat->List Nat->List Nat->List Nat
 | 0,_,dn=>dn
 | _+1,[],dn=>dn
 | n+1,k::td,dn=>match dn.contains k with
   | true=>sB bx n td dn
   | false=>sB bx n (td++(bx.getD k .gone).refs) (dn++[k])
theorem wC {bx:List Bx}:∀ (n:Nat) (td dn:List Nat),dn.Nodup->(sB bx n td dn).Nodup
 | 0,_,dn,h=>h
 | _+1,[],dn,h=>h
 | n+1,k::td,dn,h=>by
   simp only [sB]
   split
   ·exact wC n td dn h
   ·rename_i hk
    refine wC n _ _ ?_
    rw [nq]
    refine ⟨h,by simp,fun x hx y hy hxy=>?_⟩
    simp at hy;subst hy;subst hxy
    simp [hx] at hk
theorem sO {bx:List Bx} {A:Nat->Prop} (hA:∀ k,A k->∀ j∈(bx.getD k .gone).refs,A j):∀ (n:Nat) (td dn:List Nat),(∀ k∈td,A k)->(∀ k∈dn,A k)->∀ k∈sB bx n td dn,A k
 | 0,_,dn,_,h=>h
 | _+1,[],dn,_,h=>h
 | n + 1,k::td,dn,h1,h2=>by
   simp only [sB]
   split
   ·exact sO hA n td dn (fun j hj=>h1 j (by simp [hj])) h2
   ·refine sO hA n _ _ (fun j hj=>?_) fun j hj=>?_
    ·rcases oO.1 hj with hj | hj
     ·exact h1 j (by simp [hj])
     ·exact hA k (h1 k (by simp)) j hj
    ·rcases oO.1 hj with hj | hj
     ·exact h2 j hj
     ·simp at hj;subst hj;exact h1 j (by simp)
def pos:List Nat->Nat->Option Nat
 | [],_=>none
 | x :: xs,k=>match decide (x=k) with
   | true=>some 0
   | false=>match pos xs k with
     | some j=>some (j+1)
     | none=>none
theorem ub:∀ {ks:List Nat} {k j:Nat},pos ks k=some j->ks[j]?=some k
 | [],k,j,h=>by simp [pos] at h
 | x::xs,k,j,h=>by
   simp only [pos] at h
   split at h
   ·rename_i hx;simp at hx h;subst hx;subst h;rfl
   ·split at h
    ·rename_i i hi;simp at h;subst h;simpa using ub hi
    ·cases h
mutual
def PV.ren (ks:List Nat):PV->Option PV
 | .pb k z i o=>match pos ks k with
   | some j=>some (.pb j z i o)
   | none=>none
 | .sb k z lo n c=>match pos ks k with
   | some j=>some (.sb j z lo n c)
   | none=>none
 | .fn f caps=>match PV.renL ks caps with
   | some l=>some (.fn f l)
   | none=>none
 | .pg cs=>match PV.renL ks cs with
   | some l=>some (.pg l)
   | none=>none
 | .tp cs=>match PV.renL ks cs with
   | some l=>some (.tp l)
   | none=>none
 | p=>some p
def PV.renL (ks:List Nat):List PV->Option (List PV)
 | []=>some []
 | p::ps=>match PV.ren ks p,PV.renL ks ps with
   | some q,some qs=>some (q::qs)
   | _,_=>none
end
structure Ren (ks:List Nat) (e e':Env) (p q:PV):Prop where
 cv:p.cv e=q.cv e'
 v1:p.val1 e=q.val1 e'
 ok:∀ w live,p.Ok w live->q.Ok w live
 rf:∀ j∈q.refs,j<ks.length
 ic:p.isC->q.isC
 an:p=.any↔q=.any
structure RenL (ks:List Nat) (e e':Env) (ps qs:List PV):Prop where
 cv:PV.cvs e ps=PV.cvs e' qs
 v1:ps.map (PV.val1 e)=qs.map (PV.val1 e')
 ok:∀ w live,PV.OkL w live ps->PV.OkL w live qs
 rf:∀ j∈PV.refsL qs,j<ks.length
 ic:(∀ p∈ps,p.isC)->∀ q∈qs,q.isC
def u6 (e:Env) (ks:List Nat):Env:=ks.map e.at
theorem zG2 {ks:List Nat} {k j:Nat} (h:pos ks k=some j):(u6 e ks).at j=e.at k:=by
 have:=ub h
 simp [u6,Env.at,oA,this]
theorem zIz {ks:List Nat} {k j:Nat} (h:pos ks k=some j):j<ks.length:=(oB.1 (ub h)).1
mutual
theorem yj {ks:List Nat}:∀ {p q:PV},p.ren ks=some q->Ren ks e (u6 e ks) p q
 | .pb k z i o,q,h=>by
   simp only [PV.ren] at h
   split at h
   ·rename_i j hj
    simp at h;subst h
    have hv:(PV.pb k z i o).cv e=(PV.pb j z i o).cv (u6 e ks):=by simp [PV.cv,zG2 hj]
    exact ⟨hv,hv,fun _ _=>id,by simp [PV.refs];exact zIz hj,id,by simp⟩
   ·cases h
 | .sb k z lo n c,q,h=>by
   simp only [PV.ren] at h
   split at h
   ·rename_i j hj
    simp at h;subst h
    have hv:(PV.sb k z lo n c).cv e=(PV.sb j z lo n c).cv (u6 e ks):=by simp [PV.cv,zG2 hj]
    exact ⟨hv,hv,fun _ _=>id,by simp [PV.refs];exact zIz hj,id,by simp⟩
   ·cases h
 | .fn f caps,q,h=>by
   simp only [PV.ren] at h
   split at h
   ·rename_i l hl
    simp at h;subst h
    have:=uM hl
    have hv:(PV.fn f caps).cv e=(PV.fn f l).cv (u6 e ks):=by simp only [PV.cv,this.cv]
    exact ⟨hv,hv,fun w live hok=>by simp only [PV.Ok] at hok ⊢;exact this.ok w live hok,by simp only [PV.refs];exact this.rf,id,by simp⟩
   ·cases h
 | .pg cs,q,h=>by
   simp only [PV.ren] at h
   split at h
   ·rename_i l hl
    simp at h;subst h
    have:=uM hl
    exact ⟨rfl,by simp only [PV.val1,this.cv],fun w live hok=>by simp only [PV.Ok] at hok ⊢;exact ⟨this.ok w live hok.1,this.ic hok.2⟩,by simp only [PV.refs];exact this.rf,id,by simp⟩
   ·cases h
 | .tp cs,q,h=>by
   simp only [PV.ren] at h
   split at h
   ·rename_i l hl
    simp at h;subst h
    have:=uM hl
    exact ⟨rfl,rfl,fun w live hok=>by simp only [PV.Ok] at hok ⊢;exact this.ok w live hok,by simp only [PV.refs];exact this.rf,id,by simp⟩
   ·cases h
 | .any,q,h=>by simp [PV.ren] at h;subst h;exact ⟨rfl,rfl,fun _ _=>id,by simp [PV.refs],id,by simp⟩
 | .int ..,q,h=>by simp [PV.ren] at h;subst h;exact ⟨rfl,rfl,fun _ _=>id,by simp [PV.refs],id,by simp⟩
 | .bool ..,q,h=>by simp [PV.ren] at h;subst h;exact ⟨rfl,rfl,fun _ _=>id,by simp [PV.refs],id,by simp⟩
 | .str ..,q,h=>by simp [PV.ren] at h;subst h;exact ⟨rfl,rfl,fun _ _=>id,by simp [PV.refs],id,by simp⟩
 | .lit ..,q,h=>by simp [PV.ren] at h;subst h;exact ⟨rfl,rfl,fun _ _=>id,by simp [PV.refs],id,by simp⟩
 | .sv ..,q,h=>by simp [PV.ren] at h;subst h;exact ⟨rfl,rfl,fun _ _=>id,by simp [PV.refs],id,by simp⟩
 | .d ..,q,h=>by simp [PV.ren] at h;subst h;exact ⟨rfl,rfl,fun _ _=>id,by simp [PV.refs],id,by simp⟩
 | .dc ..,q,h=>by simp [PV.ren] at h;subst h;exact ⟨rfl,rfl,fun _ _=>id,by simp [PV.refs],id,by simp⟩
 | .dg ..,q,h=>by simp [PV.ren] at h;subst h;exact ⟨rfl,rfl,fun _ _=>id,by simp [PV.refs],id,by simp⟩
 | .pd ..,q,h=>by simp [PV.ren] at h;subst h;exact ⟨rfl,rfl,fun _ _=>id,by simp [PV.refs],id,by simp⟩
theorem uM {ks:List Nat}:∀ {ps qs:List PV},PV.renL ks ps=some qs->RenL ks e (u6 e ks) ps qs
 | [],qs,h=>by simp [PV.renL] at h;subst h;exact ⟨rfl,rfl,fun _ _=>id,by simp [PV.refsL],fun _=>by simp⟩
 | p :: ps,qs,h=>by
   simp only [PV.renL] at h
   split at h
   ·rename_i q l hq hl
    simp at h;subst h
    have h1:=yj hq
    have h2:=uM hl
    refine ⟨by simp [PV.cvs,h1.cv,h2.cv],by simp [h1.v1,h2.v1],fun w live hok=>⟨h1.ok w live hok.1,h2.ok w live hok.2⟩,fun j hj=>?_,fun hc r hr=>?_⟩
    ·simp only [PV.refsL] at hj
     rcases oO.1 hj with hj | hj
     ·exact h1.rf j hj
     ·exact h2.rf j hj
    ·rcases oI.1 hr with rfl | hr
     ·exact h1.ic (hc p (by simp))
     ·exact h2.ic (fun x hx=>hc x (by simp [hx])) r hr
   ·cases h
end
theorem zGm {ks:List Nat} {p q:PV} (h:p.ren ks=some q):p.val e=q.val (u6 e ks):=by
 have h1:=yj (e:=e) h
 cases p
 case tp cs=>
  simp only [PV.ren] at h
  split at h
  ·rename_i l hl
   simp at h;subst h
   simp only [PV.val,(uM (e:=e) hl).v1]
  ·cases h
 all_goals
  have h2:=h1.v1
  simp only [PV.ren] at h
  first
   | (simp at h;subst h;exact h2)
   | (split at h
      ·simp at h;subst h;exact h2
      ·cases h)
def zHe (ks:List Nat) (p:PV):PV:=match PV.ren ks p with
 | some q=>q
 | none=>.any
def Bx.ren (ks:List Nat):Bx->Bx
 | .var cs=>.var (cs.map (zHe ks))
 | B=>B
def vh:PV->Option PV
 | .pg cs=>match zCA cs with
   | some ds=>some (.dg cs.length (.ag ds))
   | none=>none
 | .int k n=>some (.int k n)
 | .bool v=>some (.bool v)
 | .str v=>some (.str v)
 | .lit x=>some (.lit x)
 | .sv a z es c=>some (.sv a z es c)
 | .dg n x=>some (.dg n x)
 | .dc x=>some (.dc x)
 | .pd ad z x=>some (.pd ad z x)
 | _=>none
/-- a box's contents, as data -/
def zHq (B:Bx):Option (Nat × D):=
 match B with
 | .var cs=>match cs with
   | [p]=>match uU p with
     | some d=>some (0,d)
     | none=>none
   | cs=>match cs.length,zCA cs with
     | z+1,some ds=>some (z+1,.ag ds)
     | _,_=>none
 | .vd x n=>match n with
   | 0=>none
   | z+1=>some (z+1,x)
 | _=>none
/-- what is lent is no part of what it holds -/
def ApA (a:Option Addr) (es:List D):Prop:=∀ ad,a=some ad->∀ d∈es,ad.block∉d.foot
def Off (bs:List (Option Addr)) (d:D):Prop:=∀ a∈bs,∀ ad,a=some ad->ad.block∉d.foot
/-- what is lent is no part of the arguments that are none of the caller's own -/
def zI4 (a:Option Addr):List PV->Prop->Prop
 | [],K=>K
 | .sv a' z es c::ps,K=>Off [a] (.sl a' z es c)->zI4 a ps K
 | .dg _ x::ps,K=>Off [a] x->zI4 a ps K
 | _::ps,K=>zI4 a ps K
/-- a struct's cells, as data: rows that are the caller's own are lent -/
def zAd (st:St) (al:List PV):List PV->(List D->List (Option Addr)->Prop)->Prop
 | [],K=>K [] []
 | p :: ps,K=>match p with
   | .sb k z lo n c=>match st.bx[k]? with
     | some (.arr _ z' es c')=>match decide (z=z'/\lo=0) with
       | true=>(n=es.length/\c=c')/\∀ a,ApA a es->zI4 a al (zAd st al ps fun ds bs=>K (.sl a z es c::ds) (a::bs))
       | false=>False
     | _=>False
   | p=>match uU p with
     | some d=>zAd st al ps fun ds bs=>K (d::ds) bs
     | none=>False
mutual
/-- the arguments; a row or a box that is the caller's own is lent -/
def zCY (st:St) (al:List PV):PV->(PV->List (Option Addr)->Prop)->Prop
 | .sb k z lo n c,K=>match st.bx[k]? with
   | some (.arr _ z' es c')=>match decide (z=z'/\lo=0) with
     | true=>(n=es.length/\c=c')/\∀ a,ApA a es->zI4 a al (K (.sv a z es c) [a])
     | false=>False
   | _=>False
 | .pb k z i o,K=>match st.bx[k]? with
   | some B=>match decide (i=0/\o=0),zHq B with
     | true,some (z,x)=>∀ ad:Addr,ApA (some ad) [x]->zI4 (some ad) al (K (.pd ad z x) [some ad])
     | _,_=>False
   | none=>False
 | .fn f caps,K=>match caps.all PV.isCap with
   | true=>zHE st al caps fun cs bs=>K (.fn f cs) bs
   | false=>False
 | .pg cs,K=>match zCA cs with
   | some ds=>K (.dg cs.length (.ag ds)) []
   | none=>zAd st al cs fun ds bs=>K (.dg cs.length (.ag ds)) bs
 | p,K=>match vh p with
   | some q=>K q []
   | none=>False
def zHE (st:St) (al:List PV):List PV->(List PV->List (Option Addr)->Prop)->Prop
 | [],K=>K [] []
 | p::ps,K=>zCY st al p fun q b1=>zHE st al ps fun qs b2=>K (q::qs) (b1++b2)
end
def zJA (p:PV):Option (FuncId × List PV):=match p with
 | .fn f caps=>some (f,caps)
 | .dc (.fn f caps)=>some (f,zFJ caps)
 | _=>none
def zIx (bs:List (Option Addr)):List PV->Prop->Prop
 | [],K=>K
 | .sv a z es c::ps,K=>Off bs (.sl a z es c)/\zIx bs ps K
 | .dg _ x::ps,K=>Off bs x/\zIx bs ps K
 | .dc x::ps,K=>Off bs x/\zIx bs ps K
 | _::ps,K=>zIx bs ps K
def zKy (bs:List (Option Addr)):List Bx->Prop->Prop
 | [],K=>K
 | .arr _ _ es _::rs,K=>Off bs (.ag es)/\zKy bs rs K
 | _::_,_=>False
def zLd (bs:List (Option Addr)) (ps:List PV) (rows:List Bx) (K:Prop):Prop:=
 match bs with
 | []=>K
 | b::bs=>zIx (b::bs) ps (zKy (b::bs) rows K)
def Bel (N:Nat) (d:D):Prop:=∀ b∈d.foot,b<N
def zII (N:Nat):List PV->Prop->Prop
 | [],K=>K
 | .sv a z es c::ps,K=>Bel N (.sl a z es c)->zII N ps K
 | .dg _ x::ps,K=>Bel N x->zII N ps K
 | _::ps,K=>zII N ps K
def zJ3 (N:Nat):List Bx->Prop->Prop
 | [],K=>K
 | .arr _ _ es _::rs,K=>Bel N (.ag es)->zJ3 N rs K
 | _::rs,K=>zJ3 N rs K
def zCz:List PV->PV
 | [p]=>p
 | ps=>.tp ps
def zAX (pk:Bool) (ps:List PV):PV:=match pk with
 | true=>.pg ps
 | false=>zCz ps
/-- what is lent lies below -/
def rx (N:Nat) (bs:List (Option Addr)):Prop:=∀ a∈bs,∀ ad,a=some ad->ad.block<N
def zLU (N:Nat) (bs:List (Option Addr)) (K:Prop):Prop:=match bs with
 | []=>K
 | _=>rx N bs->K
/-- an argument handed back: the caller's own row again -/
def bkP (as al:List PV):List Sh->List PV->(List PV->Prop)->Prop
 | [],ps,K=>K ps
 | s :: l,ps,K=>match s with
   | .pk=>bkP as al l ps K
   | .bk j=>match ps with
     | []=>K []
     | p::ps=>match p,as[j]?,al[j]? with
       | .dc x,some (.sv a z es c),some (.sb k z' lo n c')=>x=.sl a z es c/\bkP as al l ps fun qs=>K (.sb k z' lo n c'::qs)
       | _,_,_=>bkP as al l ps fun qs=>K (p::qs)
   | _=>match ps with
     | []=>K []
     | p::ps=>bkP as al l ps fun qs=>K (p::qs)
def zJp (P:Program) (sh:FuncId->List Sh) (st:St) (dst:Option Nat) (x:Operand) (args:List PV) (K:St->Prop):Prop:=
 match zJA (opd st.sl x) with
 | some (f,caps)=>match caps.all PV.isCap with
   | true=>zHE st (args++caps) (args++caps) fun as bs=>∀ N1,st.N<=N1->zLU N1 bs (ACalls P f (sh f) as N1 (QT.lam (sh f) st.bx.length fun ps rows N2=>N1<=N2->bkP as (args++caps) (sh f) ps fun ps=>
     zLd bs ps rows (zII N2 ps (zJ3 N2 rows (K (St.put { st with bx:=st.bx++rows,N:=N2 } dst (zAX (rh (sh f)) ps)))))))
   | false=>False
 | none=>False
variable {av:Nat->Prop} {P:Program} {w0 w w':World} {e0 e:Env} {pS pS' pB:List Nat} {a:Act} {st st':St}
theorem Env.at_app {e e':Env} {k:Nat}:Env.at (e++e') k=if k<e.length then e.at k else e'.at (k - e.length):=by
 simp only [Env.at,oA,mP]
 split<;>rfl
theorem Good.lt {w:World} {live:Nat->Prop} {d:D} (h:Good w live d):∀ b∈d.foot,b<w.heap.size:=h.1.lt
/-- behind a call that hands rows back -/
theorem zJ1 (h:Rel av w0 e0 pS pB a w e st) (hpl:∀ k∈pB,k<st.bx.length) {av':Nat->Prop} {bb:List Nat} (hav:∀ b,zJ av pB e st.bx b->av' b\/b∈bb)
  {e':Env} {rows:List Bx} (hsz:w.heap.size<=w'.heap.size) (hold:∀ b,b<w.heap.size->w'.heap[b]?=w.heap[b]?) (hm:Mem av' [] w' e' rows) (harr:∀ B∈rows,B.row)
  (hfr:∀ (k b:Nat),e'.at k=some b->w.heap.size<=b) (hbb:∀ b∈bb,∀ B∈rows,B.offB b)
  (hfz:∀ (b:Nat) (c:Array Value) (t:TypeId) (z:Nat × Nat),w.heap.size<=b->w'.heap[b]?=some (.cells c t z)->Fz z) (hku:KU w w') :
  Rel av w0 e0 pS pB a w' (e++e') { st with bx:=st.bx++rows,N:=w'.heap.size } /\
  ∀ d:D,Good w' (zJ av' [] e' rows) d->(∀ b∈bb,b∉d.foot)->Good w' (zJ av pB (e++e') (st.bx++rows)) d:=by
 have hat1:∀ k,k<st.bx.length->Env.at (e++e') k=e.at k:=fun k hk=>by rw [Env.at_app,if_pos (by rw [h.el];exact hk)]
 have hat2:∀ k,Env.at (e++e') (st.bx.length+k)=e'.at k:=fun k=>by
  rw [Env.at_app,if_neg (by rw [h.el];omega)]
  congr 1;rw [h.el];omega
 have hlives:∀ k b,Lives pB (e++e') (st.bx++rows) k b->Lives pB e st.bx k b\/∃ j,k=st.bx.length+j/\e'.at j=some b/\∃ B,rows[j]?=some B:=fun k b ⟨h1,h2,B,h3,h4⟩=>by
  by_cases hk:k<st.bx.length
  ·rw [hat1 k hk] at h2
   rw [oK hk] at h3
   exact .inl ⟨h1,h2,B,h3,h4⟩
  ·obtain ⟨j,rfl⟩:∃ j,k=st.bx.length+j:=⟨k - st.bx.length,by omega⟩
   rw [hat2] at h2
   rw [oM (by omega)] at h3
   rw [show st.bx.length+j - st.bx.length=j by omega] at h3
   exact .inr ⟨j,rfl,h2,B,h3⟩
 have hlive:∀ b,b<w.heap.size->zJ av pB (e++e') (st.bx++rows) b->zJ av pB e st.bx b:=fun b hb hl=>hl.elim .inl fun ⟨k,hk⟩=>by
  rcases hlives k b hk with h1 | ⟨j,_,h1,_⟩
  ·exact .inr ⟨k,h1⟩
  ·have:=hfr j b h1;omega
 have hrows:∀ (j:Nat) (B:Bx),rows[j]?=some B->B≠.gone/\B.refs=[]:=fun j B hj=>(harr B (oC hj)).sp
 have hgood:∀ d:D,Good w' (zJ av' [] e' rows) d->(∀ b∈bb,b∉d.foot)->Good w' (zJ av pB (e++e') (st.bx++rows)) d:=fun d hd hb=>by
  refine ⟨hd.1,fun b hbf hl=>?_⟩
  rcases hl with hl | ⟨k,hk⟩
  ·rcases hav b (.inl hl) with h1 | h1
   ·exact hd.2 b hbf (.inl h1)
   ·exact hb b h1 hbf
  ·rcases hlives k b hk with h1 | ⟨j,_,h1,B,h2⟩
   ·rcases hav b (.inr ⟨k,h1⟩) with h1 | h1
    ·exact hd.2 b hbf (.inl h1)
    ·exact hb b h1 hbf
   ·exact hd.2 b hbf (.inr ⟨j,by simp,h1,B,h2,(hrows j B h2).1⟩)
 have hget:∀ (k:Nat) (B:Bx),(st.bx++rows)[k]?=some B->(k<st.bx.length/\st.bx[k]?=some B)\/∃ j,k=st.bx.length+j/\rows[j]?=some B:=fun k B hk=>by
  by_cases hlt:k<st.bx.length
  ·rw [oK hlt] at hk;exact .inl ⟨hlt,hk⟩
  ·rw [oM (by omega)] at hk;exact .inr ⟨k - st.bx.length,by omega,hk⟩
 refine ⟨?_,hgood⟩
 exact {
  el:=by simp [h.el,hm.el]
  br:=fun k B hk hn=>by
   rcases hget k B hk with ⟨hlt,hk⟩ | ⟨j,rfl,hj⟩
   ·rw [hat1 k hlt]
    by_cases hg:B=.gone
    ·subst hg;exact True.intro
    ·exact (h.br k B hk hn).congr (fun b hb=>hold b (Lives.lt h.toMem ⟨hn,hb,B,hk,hg⟩)) fun i hi=>hat1 i (h.bf k B hk hn i hi).2
   ·rw [hat2]
    exact (hm.br j B hj (by simp)).congr (fun _ _=>rfl) fun i hi=>by rw [(hrows j B hj).2] at hi;simp at hi
  bo:=fun k B hk hn=>by
   rcases hget k B hk with ⟨hlt,hk⟩ | ⟨j,rfl,hj⟩
   ·exact (h.bo k B hk hn).mono (fun b hb _=>hold b hb) hsz hlive
   ·have hr:=harr B (oC hj)
    have ho:=fun b hb=>hbb b hb B (oC hj)
    have h0:=hm.bo j _ hj (by simp)
    cases B with
    | arr t z es c=>exact fun x hx=>hgood x (h0 x hx) fun b hb hbf=>ho b hb (zD.2 ⟨x,hx,hbf⟩)
    | _=>
      obtain ⟨_,_,_,_,_,he⟩:=hr
      cases he<;>exact ⟨⟨hgood _ h0.1.1 fun b hb=>(ho b hb).elim,h0.1.2⟩,h0.2⟩
  bf:=fun k B hk hn i hi=>by
   rcases hget k B hk with ⟨hlt,hk⟩ | ⟨j,rfl,hj⟩
   ·have:=h.bf k B hk hn i hi;exact ⟨this.1,by simp;omega⟩
   ·rw [(hrows j B hj).2] at hi;simp at hi
  inj:=fun i j b hi hj=>by
   rcases hlives i b hi with h1 | ⟨i',rfl,h1,B1,g1⟩
   ·rcases hlives j b hj with h2 | ⟨j',rfl,h2,B2,g2⟩
    ·exact h.inj i j b h1 h2
    ·have:=Lives.lt h.toMem h1;have:=hfr j' b h2;omega
   ·rcases hlives j b hj with h2 | ⟨j',rfl,h2,B2,g2⟩
    ·have:=Lives.lt h.toMem h2;have:=hfr i' b h1;omega
    ·rw [hm.inj i' j' b ⟨by simp,h1,B1,g1,(hrows _ _ g1).1⟩ ⟨by simp,h2,B2,g2,(hrows _ _ g2).1⟩]
  ku:=h.ku.trans hku
  size:=ol h.size hsz
  old:=fun b hb hn=>(hold b (ow hb h.size)).trans (h.old b hb hn)
  fz:=fun b c t z hb hc=>by
   by_cases hlt:b<w.heap.size
   ·rw [hold b hlt] at hc;exact h.fz b c t z hb hc
   ·exact hfz b c t z (by omega) hc
  nd:=h.nd
  sz:=h.sz
  hN:=oF _
  hs:=fun i p hi hn=>by
   rcases h.hs i p hi hn with h1 | h1
   ·exact .inl h1
   ·exact .inr (h1.trans (PV.val_congr p fun k hk=>hat1 k (h.sr i p hi hn k hk).2).symm)
  so:=fun i p hi hn=>PV.Ok.mono (fun b hb _=>hold b hb) hsz hlive p (h.so i p hi hn)
  sr:=fun i p hi hn k hk=>by have:=h.sr i p hi hn k hk;exact ⟨this.1,by simp;omega⟩
  own:=fun k b hk=>by
   rcases hlives k b hk with h1 | ⟨j,_,h1,_⟩
   ·exact h.own k b h1
   ·have:=hfr j b h1;have:=h.size;exact .inl (by omega)
  avl:=h.avl
  avn:=fun k b hk=>by
   rcases hlives k b hk with h1 | ⟨j,_,h1,_⟩
   ·exact h.avn k b h1
   ·intro hc;have:=h.avl.lt b hc;have:=hfr j b h1;have:=h.size;omega
  pin:=fun k b hb=>by
   have:=h.pin k b hb
   have hl:k<st.bx.length:=by
    rw [<-h.el]
    exact mf fun hc=>by
     rw [Env.at_ge hc] at this;simp at this
   rw [hat1 k hl];exact this
  pit:=h.pit }
end Go.Proofs.YtmfjakahanbnlaaGreatDoor
