/- A region in whatever order the machine draws. -/
import Derived.Test.YtmfjakahanbnlaaGreatDoorJf
set_option linter.unusedVariables false
set_option linter.unusedSimpArgs false
namespace Go.Proofs.YtmfjakahanbnlaaGreatDoor
open Go
variable {av:Nat->Prop} {P:Program} {w0 w w':World} {e0 e:Env} {pS pS' pB pB':List Nat} {a:Act} {st st':St}
def tZ (ops:Array Oper) (i:Nat):List Ent->Bool
 | []=>true
 | b::bs=>zIy ops b.i i||(!b.hard&&tZ ops i bs)
def zK6 (ops:Array Oper) (bf:List Ent) (en:Ent) (aft:List Ent):Bool:=
 match ops[en.i]? with
 | none=>false
 | some o=>
   (o.after.toList.all fun e=>!Region.binds .any e||bf.any fun b=>b.i==e.on) &&
   tZ ops en.i bf &&
   (bf.all fun b=>match uw ops b.i with
    | none=>true
    | some d=>!(o.looksAt ops).contains d||zIy ops b.i en.i) &&
   (aft.all fun r=>match uw ops r.i with
    | none=>true
    | some d=>!((o.looksAt ops).contains d||o.dst==some d)||(r.hard&&zIy ops en.i r.i)) &&
   (en.hard||match o.dst with
    | none=>true
    | some d=>!(o.looksAt ops).contains d)
def zID (ops:Array Oper):List Ent->List Ent->Bool
 | _,[]=>true
 | bf,en::l=>zK6 ops bf en l&&zID ops (en::bf) l
def zEs:List Nat->Bool
 | []=>true
 | k::ks=>!ks.contains k&&zEs ks
def chk (ops:Array Oper) (ord:List Ent):Bool:=
 ord.length==ops.size&&zEs (ord.map (·.i))&&((List.range ops.size).all fun i=>ord.any fun b=>b.i==i)&&zID ops [] ord
structure Spot (ops:Array Oper) (l1:List Ent) (en:Ent) (l2:List Ent) (o:Oper):Prop where
 op:ops[en.i]?=some o
 ed:∀ e∈o.after,Region.binds .any e=true->∃ b∈l1,b.i=e.on
 hd:tZ ops en.i l1.reverse=true
 pr:∀ b∈l1,∀ d,uw ops b.i=some d->d∈o.looksAt ops->zIy ops b.i en.i=true
 af:∀ r∈l2,∀ d,uw ops r.i=some d->(d∈o.looksAt ops\/o.dst=some d)->r.hard=true/\zIy ops en.i r.i=true
 se:en.hard=false->∀ d,o.dst=some d->d∉o.looksAt ops
theorem zGh {ops:Array Oper} {l1:List Ent} {en:Ent} {l2:List Ent} (h:zK6 ops l1.reverse en l2=true):∃ o,Spot ops l1 en l2 o:=by
 unfold zK6 at h
 split at h
 ·cases h
 ·rename_i o ho
  simp only [oL,oS] at h
  obtain ⟨⟨⟨⟨h1,h2⟩,h3⟩,h4⟩,h5⟩:=h
  refine ⟨o,ho,fun e he hb=>?_,h2,fun b hb d hd hm=>?_,fun r hr d hd hm=>?_,fun hh d hd hm=>?_⟩
  ·have:=h1 e (oa.2 he)
   rw [hb] at this
   simp only [Bool.not_true,Bool.false_or,List.any_eq_true,mJ] at this
   obtain ⟨b,hb1,hb2⟩:=this
   exact ⟨b,mT.1 hb1,hb2⟩
  ·have:=h3 b (mT.2 hb)
   rw [hd] at this
   simpa [hm] using this
  ·have:=h4 r hr
   rw [hd] at this
   rcases hm with hm | hm
   ·simpa [hm] using this
   ·simpa [hm] using this
  ·rw [hh,hd] at h5
   simp [hm] at h5
theorem zAs {ops:Array Oper}:∀ (l bf:List Ent),zID ops bf.reverse l=true->∀ l1 en l2,l=l1++en::l2->∃ o,Spot ops (bf++l1) en l2 o
 | [],bf,_,l1,en,l2,h=>by cases l1<;>cases h
 | x :: l,bf,hc,l1,en,l2,h=>by
   simp only [zID,oL] at hc
   cases l1 with
   | nil=>
     cases h
     simpa using zGh hc.1
   | cons y l1=>
     cases h
     have:=zAs _ (bf++[x]) (by simpa using hc.2) l1 en l2 rfl
     simpa using this
theorem sG {ops:Array Oper} {i:Nat}:∀ (l m:List Ent),tZ ops i (l++m)=true->(∃ b∈l,b.hard=true)->∃ b∈l,zIy ops b.i i=true
 | [],m,_,h=>by simp at h
 | b :: l,m,h,hh=>by
   simp only [nY,tZ,mF,oL,o7] at h
   rcases h with h | ⟨h1,h2⟩
   ·exact ⟨b,by simp,h⟩
   ·obtain ⟨x,hx,hxh⟩:=hh
    rcases oI.1 hx with rfl | hx
    ·rw [h1] at hxh;cases hxh
    ·obtain ⟨y,hy,hye⟩:=sG l m h2 ⟨x,hx,hxh⟩
     exact ⟨y,by simp [hy],hye⟩
theorem q8:∀ {l:List Nat},zEs l=true->l.Nodup
 | [],_=>mA
 | k::ks,h=>by
   simp only [zEs,oL,o7] at h
   refine nP.2 ⟨fun hc=>?_,q8 h.2⟩
   have:=h.1
   simp [hc] at this
structure Chk (ops:Array Oper) (ord:List Ent):Prop where
 len:ord.length=ops.size
 nd:(ord.map (·.i)).Nodup
 all:∀ i,i<ops.size->∃ b∈ord,b.i=i
 at_:∀ l1 en l2,ord=l1++en::l2->∃ o,Spot ops l1 en l2 o
theorem zH6 {ops:Array Oper} {ord:List Ent} (h:chk ops ord=true):Chk ops ord:=by
 simp only [chk,oL,mJ,oS] at h
 obtain ⟨⟨⟨h1,h2⟩,h3⟩,h4⟩:=h
 refine ⟨h1,q8 h2,fun i hi=>?_,fun l1 en l2 hl=>by simpa using zAs ord [] (by simpa using h4) l1 en l2 hl⟩
 have:=h3 i (List.mem_range.2 hi)
 simpa using this
def zHf (ops:Array Oper) (pend:Pend):List Nat:=pend.filterMap fun x=>uw ops x.1
def zH3 (pend:Pend):List Nat:=pend.filterMap (·.2)
theorem zFA {ops:Array Oper} {pend:Pend} {t:Nat}:t∈zHf ops pend↔∃ x∈pend,uw ops x.1=some t:=nK
theorem y9 {pend:Pend} {k:Nat}:k∈zH3 pend↔∃ x∈pend,x.2=some k:=nK
/-- what holds between the operations of a region -/
structure RI (P:Program) (sh:FuncId->List Sh) (ops:Array Oper) (ord:List Ent) (K:St->Prop) (av:Nat->Prop) (w0:World) (e0:Env) (N0:Option Nat)
  (done rest:List Ent) (nv pend:Pend) (listed:Array Bool) (a:Act) (w:World) (e:Env) (st:St):Prop where
 ord:ord=done++rest
 rel:Rel av w0 e0 (zHf ops pend) (zH3 pend) a w e st
 pb:∀ k∈zH3 pend,k<st.bx.length
 pd:∀ x∈pend,∃ en∈done,en.i=x.1/\en.hard=false
 nd:pend.Nodup
 un:∀ x∈pend,∀ y∈pend,x.1=y.1->x=y
 bu:∀ x∈pend,∀ y∈pend,∀ k,x.2=some k->y.2=some k->x=y
 pr:∀ x∈pend,zLv ops P st x
 ls:listed.size=ops.size
 li:∀ i,i<ops.size->(listed.getD i false=true↔(∃ en∈done,en.i=i)/\∀ x∈pend,x.1≠i)
 nvs:∀ x∈pend,x∈nv
 lc:∀ m,listed.getD m false=true->∀ i∈zAS ops m,listed.getD i false=true
 f:zEh P sh N0 ops rest nv st K
section
variable {N0:Option Nat} {sh:FuncId->List Sh} {ops:Array Oper} {ord:List Ent} {K:St->Prop} {done rest:List Ent} {nv pend:Pend} {listed:Array Bool}
theorem sy {i j:Nat} (hr:j∈Region.ready .any ops listed) (he:zIy ops i j=true):listed.getD i false=true:=by
 obtain ⟨_,o,ho,hall⟩:=mem_ready.1 hr
 unfold zIy at he
 rw [ho] at he
 simp only [Array.any_eq_true,oL,mJ] at he
 obtain ⟨n,hn,h1,h2⟩:=he
 rw [<-h1]
 exact hall _ (Array.getElem_mem hn) h2
theorem qZ {j:Nat} (hr:j∈Region.ready .any ops listed):∀ i∈zAS ops j,listed.getD i false=true:=by
 obtain ⟨_,o,ho,hall⟩:=mem_ready.1 hr
 intro i hi
 simp only [zAS,ho,oQ,nk] at hi
 obtain ⟨e,⟨he,hb⟩,rfl⟩:=hi
 exact hall e (oa.1 he) hb
theorem zHZ {j:Nat} (hr:j∈Region.ready .any ops listed) (h:∀ m,listed.getD m false=true->∀ i∈zAS ops m,listed.getD i false=true) :
  ∀ m,(listed.setIfInBounds j true).getD m false=true->∀ i∈zAS ops m,(listed.setIfInBounds j true).getD i false=true:=fun m hm i hi=>by
 refine getD_set_true ?_
 by_cases hmj:j=m
 ·subst hmj;exact qZ hr i hi
 ·rw [getD_set_ne false hmj] at hm
  exact h m hm i hi
theorem zJc (hc:Chk ops ord) (h:RI P sh ops ord K av w0 e0 N0 done rest nv pend listed a w e st) {en:Ent} (hen:en∈ord):en.i<ops.size:=by
 obtain ⟨l1,l2,hl⟩:=mB hen
 obtain ⟨o,ho⟩:=hc.at_ l1 en l2 hl
 exact (oN.1 ho.op).1
/-- a pending operation is none that is listed -/
theorem vO (hc:Chk ops ord) (h:RI P sh ops ord K av w0 e0 N0 done rest nv pend listed a w e st) {x:Nat × Option Nat} (hx:x∈pend):listed.getD x.1 false≠true:=by
 obtain ⟨en,h1,h2,_⟩:=h.pd x hx
 have hlt:=zJc hc h (en:=en) (by rw [h.ord];simp [h1])
 rw [h2] at hlt
 intro hl
 exact ((h.li x.1 hlt).1 hl).2 x hx rfl
/-- the slots that a ready operation looks at are there -/
theorem qa (hc:Chk ops ord) (h:RI P sh ops ord K av w0 e0 N0 done rest nv pend listed a w e st) {l1 l2:List Ent} {en:Ent} {o:Oper} (hl:ord=l1++en::l2) (ho:Spot ops l1 en l2 o)
  (hr:en.i∈Region.ready .any ops listed) (hp:en.hard=true->∀ x∈pend,x.1≠en.i):∀ t∈o.looksAt ops,t∉zHf ops pend:=by
 intro t ht hc'
 obtain ⟨x,hx,hd⟩:=zFA.1 hc'
 obtain ⟨ex,h1,h2,h3⟩:=h.pd x hx
 have hmem:ex∈l1++en::l2:=by rw [<-hl,h.ord];simp [h1]
 rw [<-h2] at hd
 rcases oO.1 hmem with hm | hm
 ·have he:=sy hr (ho.pr ex hm t hd ht)
  rw [h2] at he
  exact vO hc h hx he
 ·rcases oI.1 hm with rfl | hm
  ·refine ho.se h3 t ?_ ht
   simpa [uw,ho.op] using hd
  ·have:=(ho.af ex hm t hd (.inl ht)).1
   rw [h3] at this;cases this
theorem zDJ {j:Nat} {d:Bool} (hj:j<listed.size) (i:Nat):(listed.setIfInBounds j true).getD i false=true↔i=j\/listed.getD i false=true:=by
 by_cases h:j=i
 ·subst h
  simp [hj]
 ·rw [getD_set_ne false h]
  constructor
  ·exact .inr
  ·rintro (h1 | h1)
   ·exact absurd h1.symm h
   ·exact h1
/-- a promise is kept -/
theorem zCy (hc:Chk ops ord) (h:RI P sh ops ord K av w0 e0 N0 done rest nv pend listed a w e st) {x:Nat × Option Nat} (hx:x∈pend) (hr:x.1∈Region.ready .any ops listed)
  {next:Act->World->Prop} {Q:Exit->Act->World->Prop}
  (hn:∀ a' w' e',RI P sh ops ord K av w0 e0 N0 done rest nv (pend.erase x) (listed.setIfInBounds x.1 true) a' w' e' st->next a' w'):wpOp P ops Q x.1 next a w:=by
 obtain ⟨en,hen,hi,hh⟩:=h.pd x hx
 obtain ⟨l1,l2,hl⟩:=mB (show en∈ord by rw [h.ord];simp [hen])
 obtain ⟨o,ho⟩:=hc.at_ l1 en l2 hl
 have hlook:=qa hc h hl ho (by rw [hi];exact hr) (by rw [hh];intro hc;cases hc)
 have hop:=ho.op
 rw [hi] at hop
 have hd:uw ops x.1=o.dst:=by simp [uw,hop]
 have hme:∀ y,y∈pend.erase x↔y≠x/\y∈pend:=fun y=>List.Nodup.mem_erase_iff h.nd
 have hjs:x.1<listed.size:=by rw [h.ls];exact (oN.1 hop).1
 have hpS:∀ i,i∈zHf ops pend->some i≠o.dst->i∈zHf ops (pend.erase x):=fun i hi' hne=>by
  obtain ⟨y,hy,hyd⟩:=zFA.1 hi'
  refine zFA.2 ⟨y,(hme y).2 ⟨fun hyx=>hne ?_,hy⟩,hyd⟩
  subst hyx;rw [<-hyd,hd]
 -- what is left
 have rest_:∀ a' w' e',Rel av w0 e0 (zHf ops (pend.erase x)) (zH3 (pend.erase x)) a' w' e' st->next a' w':=fun a' w' e' hR=>hn a' w' e' {
  ord:=h.ord
  rel:=hR
  pb:=fun k hk=>by obtain ⟨y,hy,hyk⟩:=y9.1 hk;exact h.pb k (y9.2 ⟨y,((hme y).1 hy).2,hyk⟩)
  pd:=fun y hy=>h.pd y ((hme y).1 hy).2
  nd:=h.nd.erase x
  un:=fun y hy z hz=>h.un y ((hme y).1 hy).2 z ((hme z).1 hz).2
  bu:=fun y hy z hz=>h.bu y ((hme y).1 hy).2 z ((hme z).1 hz).2
  pr:=fun y hy=>h.pr y ((hme y).1 hy).2
  ls:=by simp [h.ls]
  li := fun i hi'=>by
   rw [zDJ (d:=false) hjs i]
   constructor
   ·rintro (rfl | h1)
    ·refine ⟨⟨en,hen,hi⟩,fun y hy hyx=>?_⟩
     have:=(hme y).1 hy
     exact this.1 (h.un y this.2 x hx hyx)
    ·have:=(h.li i hi').1 h1
     exact ⟨this.1,fun y hy=>this.2 y ((hme y).1 hy).2⟩
   ·rintro ⟨h1,h2⟩
    by_cases hix:i=x.1
    ·exact .inl hix
    ·refine .inr ((h.li i hi').2 ⟨h1,fun y hy hyi=>?_⟩)
     by_cases hyx:y=x
     ·subst hyx;exact hix hyi.symm
     ·exact h2 y ((hme y).2 ⟨hyx,hy⟩) hyi
  nvs:=fun y hy=>h.nvs y ((hme y).1 hy).2
  lc:=zHZ hr h.lc
  f:=h.f }
 obtain ⟨o',ho',hk⟩:=h.pr x hx
 rw [hop] at ho'
 cases ho'
 unfold wpOp
 rw [hop]
 simp only
 rcases hk with ⟨hw,_,r,q,h2,h3,h4,h5⟩ | ⟨hw,hb,h3⟩
 ·rw [if_pos (zCw h.rel hw hlook)]
  refine .inl ?_
  have hkb:∀ B f,r=.b B f->∃ k,x.2=some k:=fun B f hr=>by
   subst hr
   cases hx2:x.2 with
   | none=>rw [hx2] at h3;cases h3
   | some k=>exact ⟨k,rfl⟩
  obtain ⟨v,w',e',g1,g2⟩:=zIB h.rel (o:=o) (r:=r) (k:=x.2.getD 0) (fun y hy t ht=>hlook t (wZ hy ht)) h2 (fun d hdd hlt=>by
   rw [h4 d hdd hlt]
   cases r with
   | v p=>cases hx2:x.2<;>rw [hx2] at h3<;>simp [zHo] at h3;simp [h3]
   | b B f=>
     obtain ⟨k,hk⟩:=hkb B f rfl
     rw [hk] at h3
     simp [zHo] at h3
     simp [hk,h3]) (fun B f hrb=>by
   obtain ⟨k,hk⟩:=hkb B f hrb
   rw [hk]
   exact ⟨h5 B f k hrb hk,y9.2 ⟨x,hx,hk⟩⟩) hpS
  unfold Oper.wp
  rw [g1,Oper.upon_value]
  refine rest_ _ _ _ (vo g2 (fun k=>?_) fun _=>id)
  cases r with
  | v p=>
    have hx2:x.2=none:=by cases hx2:x.2<;>rw [hx2] at h3<;>simp [zHo] at h3<;>rfl
    simp only [Res.isB,nz,nO]
    constructor
    ·intro hk
     obtain ⟨y,hy,hyk⟩:=y9.1 hk
     exact y9.2 ⟨y,((hme y).1 hy).2,hyk⟩
    ·intro hk
     obtain ⟨y,hy,hyk⟩:=y9.1 hk
     exact y9.2 ⟨y,(hme y).2 ⟨fun hc=>(by rw [hc,hx2] at hyk;cases hyk),hy⟩,hyk⟩
  | b B f=>
    obtain ⟨k0,hk0⟩:=hkb B f rfl
    simp only [Res.isB,mg,hk0,oc,nk,na,ne_eq]
    constructor
    ·intro hk
     obtain ⟨y,hy,hyk⟩:=y9.1 hk
     have:=(hme y).1 hy
     exact ⟨y9.2 ⟨y,this.2,hyk⟩,fun hkk=>this.1 (h.bu y this.2 x hx k hyk (by rw [hk0,hkk]))⟩
    ·rintro ⟨hk,hkk⟩
     obtain ⟨y,hy,hyk⟩:=y9.1 hk
     exact y9.2 ⟨y,(hme y).2 ⟨fun hc=>(by rw [hc,hk0] at hyk;cases hyk;exact hkk rfl),hy⟩,hyk⟩
 ·rw [if_neg (by rw [zDR h.rel hw hlook];simp)]
  have h4:=yX h.rel (dst:=o.dst) pj hpS
  rw [St.put_same h3] at h4
  refine rest_ _ _ _ (vo h4 (fun k=>?_) fun _=>id)
  constructor
  ·intro hk
   obtain ⟨y,hy,hyk⟩:=y9.1 hk
   exact y9.2 ⟨y,((hme y).1 hy).2,hyk⟩
  ·intro hk
   obtain ⟨y,hy,hyk⟩:=y9.1 hk
   exact y9.2 ⟨y,(hme y).2 ⟨fun hc=>(by rw [hc,hb] at hyk;cases hyk),hy⟩,hyk⟩
theorem wD {l1 l2:List Ent} {en:Ent} (h:((l1++en::l2).map (·.i)).Nodup):∀ x∈l1,x.i≠en.i:=by
 intro x hx hc
 rw [mE,nq] at h
 exact h.2.2 x.i (oQ.2 ⟨x,hx,rfl⟩) en.i (by simp) hc
/-- one promise -/
theorem qU (hc:Chk ops ord) {en:Ent} (hh:en.hard=false) (h:RI P sh ops ord K av w0 e0 N0 done (en::rest) nv pend listed a w e st) :
  ∃ b nv' e' st',RI P sh ops ord K av w0 e0 N0 (done++[en]) rest nv' ((en.i,b)::pend) listed a w e' st':=by
 obtain ⟨o,ho⟩:=hc.at_ done en rest h.ord
 have hnd:=hc.nd
 rw [h.ord] at hnd
 have hfresh:∀ x∈pend,x.1≠en.i:=fun x hx=>by
  obtain ⟨ex,h1,h2,_⟩:=h.pd x hx
  rw [<-h2];exact wD hnd ex h1
 have hf:=h.f
 simp only [zEh,ho.op,hh] at hf
 -- what holds behind it, but for the step itself
 have fin:∀ (b:Option Nat) (nv':Pend) (e':Env) (st':St),nv'=(en.i,b)::nv->Rel av w0 e0 (zHf ops ((en.i,b)::pend)) (zH3 ((en.i,b)::pend)) a w e' st'->(∀ k,b=some k->st.bx.length<=k/\k<st'.bx.length)->Stp [] [] o.dst st st' ->
   zJ6 ops P st' o b->zEh P sh N0 ops rest nv' st' K->RI P sh ops ord K av w0 e0 N0 (done++[en]) rest nv' ((en.i,b)::pend) listed a w e' st':=fun b nv' e' st' hnv hR hb hst hK hF=>{
  ord:=by rw [h.ord];simp
  rel:=hR
  pb:=fun k hk=>by
   obtain ⟨y,hy,hyk⟩:=y9.1 hk
   rcases oI.1 hy with rfl | hy
   ·exact (hb k hyk).2
   ·exact ow (h.pb k (y9.2 ⟨y,hy,hyk⟩)) hst.bl
  pd:=fun x hx=>by
   rcases oI.1 hx with rfl | hx
   ·exact ⟨en,by simp,rfl,hh⟩
   ·obtain ⟨ex,h1,h2⟩:=h.pd x hx;exact ⟨ex,by simp [h1],h2⟩
  nd:=nP.2 ⟨fun hm=>hfresh _ hm rfl,h.nd⟩
  un:=fun x hx y hy hxy=>by
   rcases oI.1 hx with rfl | hx<;>rcases oI.1 hy with rfl | hy
   ·rfl
   ·exact absurd hxy.symm (hfresh y hy)
   ·exact absurd hxy (hfresh x hx)
   ·exact h.un x hx y hy hxy
  bu:=fun x hx y hy k hxk hyk=>by
   rcases oI.1 hx with rfl | hx<;>rcases oI.1 hy with rfl | hy
   ·rfl
   ·have:=(hb k hxk).1;have:=h.pb k (y9.2 ⟨y,hy,hyk⟩);omega
   ·have:=(hb k hyk).1;have:=h.pb k (y9.2 ⟨x,hx,hxk⟩);omega
   ·exact h.bu x hx y hy k hxk hyk
  pr:=fun x hx=>by
   rcases oI.1 hx with rfl | hx
   ·exact ⟨o,ho.op,hK⟩
   ·obtain ⟨ox,hox,hkx⟩:=h.pr x hx
    refine ⟨ox,hox,rz hkx hst (fun _ h=>h) (.inl r6) fun d hd=>?_⟩
    obtain ⟨ex,h1,h2,h3⟩:=h.pd x hx
    obtain ⟨m1,m2,hm⟩:=mB h1
    obtain ⟨ox',hsx⟩:=hc.at_ m1 ex (m2++en::rest) (by rw [h.ord,hm];simp)
    have:ox'=ox:=by have:=hsx.op;rw [h2,hox] at this;exact (o1 this).symm
    subst this
    have haf:=hsx.af en (by simp) d (by simp [uw,ho.op,hd])
    refine ⟨fun hc=>?_,fun hc=>?_⟩
    ·have:=(haf (.inl hc)).1;rw [hh] at this;cases this
    ·have:=(haf (.inr hc)).1;rw [hh] at this;cases this
  ls:=h.ls
  li:=fun i hi=>by
   rw [h.li i hi]
   constructor
   ·rintro ⟨⟨x,h1,h2⟩,h3⟩
    refine ⟨⟨x,by simp [h1],h2⟩,fun y hy=>?_⟩
    rcases oI.1 hy with rfl | hy
    ·simp only;rw [<-h2];exact (wD hnd x h1).symm
    ·exact h3 y hy
   ·rintro ⟨⟨x,h1,h2⟩,h3⟩
    refine ⟨⟨x,?_,h2⟩,fun y hy=>h3 y (by simp [hy])⟩
    rcases oO.1 h1 with h1 | h1
    ·exact h1
    ·simp at h1;subst h1;exact absurd h2 (h3 (x.i,b) (by simp))
  nvs:=fun x hx=>by
   subst hnv
   rcases oI.1 hx with rfl | hx
   ·simp
   ·simp [h.nvs x hx]
  lc:=h.lc
  f:=hF }
 have hpSeq:∀ b,zHf ops ((en.i,b)::pend)=o.dst.toList++zHf ops pend:=fun b=>by
  simp only [zHf,nQ,uw,ho.op,mK]
  cases o.dst<;>rfl
 have hse:=ho.se hh
 rcases zAk hf with ⟨hw,hf⟩ | ⟨hw,hf⟩
 ·split at hf
  rotate_left
  ·exact hf.elim
  rename_i hb
  simp only [oL] at hb
  obtain ⟨hb1,hb2⟩:=hb
  obtain ⟨r,hK,hr⟩:=zGT _ hf
  have hr:=hr (fun q=>q=r) rfl
  have hR:=zIh h.rel o.dst r
  have hst:Stp [] [] o.dst st (st.push o.dst r):=zFB
  have hin:∀ y∈o.op.operands,∀ k∈(opd st.sl y).refs,k<st.bx.length:=fun y hy k hk=>by
   have:=oS.1 (oS.1 hb2 y (oa.2 hy)) k hk
   simpa using this
  have hopd:∀ y∈o.op.operands,opd (st.push o.dst r).sl y=opd st.sl y:=fun y hy=>by
   cases y with
   | tmp t=>
     have hne:o.dst≠some t:=fun hc=>hse t hc (wZ hy rfl)
     simp only [opd]
     rw [oA,oA]
     cases hp:st.sl[t]? with
     | none=>
       have:(st.push o.dst r).sl[t]?=none:=oU (by rw [hst.ll];exact nZ.1 hp)
       rw [this]
     | some p=>rw [hst.sl t p (fun hc=>hne hc.symm) hp (by simp)]
   | _=>rfl
  have hwant:zJ2 ops o (st.push o.dst r):=fun g want hg=>by
   obtain ⟨og,d,h1,h2,h3⟩:=hw g want hg
   exact ⟨og,d,h1,h2,hst.sl d _ (fun hc=>hse d hc.symm (by simp [Oper.looksAt,hg,h1,h2])) h3 (by simp)⟩
  have hbx:∀ k,k<st.bx.length->(st.push o.dst r).bx[k]?=st.bx[k]?:=fun k hk=>by
   rw [hst.bx k _ (oG hk) (by simp) (by simp),oG hk]
  have hslot:∀ d q,o.dst=some d->d<(st.push o.dst r).sl.length->zHo r (r.bk st.bx.length)=some q->(st.push o.dst r).sl[d]?=some q:=fun d q hd hlt hq=>by
   rw [hst.ll] at hlt
   cases r with
   | v p=>simp [Res.bk,zHo] at hq;subst hq;simp [St.push,St.put,hd,hlt]
   | b B f=>simp [Res.bk,zHo] at hq;subst hq;simp [St.push,St.put,hd,hlt]
  refine ⟨r.bk st.bx.length,(en.i,r.bk st.bx.length)::nv,(if r.isB then e++[none] else e),_,fin _ _ _ _ rfl ?_ ?_ hst (.inl ⟨hwant,?_,r,?_⟩) hK⟩
  ·rw [hpSeq]
   refine vo hR (fun k=>?_) fun _=>id
   cases r with
   | v p=>simp [Res.isB,Res.bk,zH3]
   | b B f=>simp [Res.isB,Res.bk,zH3]
  ·intro k hk
   cases r with
   | v p=>cases hk
   | b B f=>
     simp [Res.bk] at hk;subst hk
     refine ⟨oF _,?_⟩
     cases o.dst<;>simp [St.push,St.put]
  ·intro y hy k hk
   rw [hopd y hy] at hk
   have:=hin y hy k hk
   exact ow this hst.bl
  ·have hq:∃ q,zHo r (r.bk st.bx.length)=some q:=by cases r<;>simp [Res.bk,zHo]
   obtain ⟨q,hq⟩:=hq
   refine ⟨q,?_,hq,fun d hd hlt=>hslot d q hd hlt hq,fun B f k hrb hk=>?_⟩
   ·rw [qk (ρ:=opd st.sl) (rb:=fun k=>st.bx[k]?) hopd fun y hy k hk=>hbx k (hin y hy k hk)]
    exact hr
   ·subst hrb
    simp [Res.bk] at hk;subst hk
    cases o.dst<;>simp [St.push,St.put]
 ·have hst:Stp [] [] o.dst st (st.put o.dst (.tp [])):=Stp.put Stp.rfl' _
  refine ⟨none,(en.i,none)::nv,e,st.put o.dst (.tp []),fin _ _ _ _ rfl ?_ (fun k hk=>by cases hk) hst (.inr ⟨?_,rfl,fun d hd hlt=>?_⟩) hf⟩
  ·rw [hpSeq]
   exact vo (zBS h.rel) (fun k=>by simp [zH3]) fun _=>id
  ·obtain ⟨g,want,og,d,g1,g2,g3,g4⟩:=hw
   have hne:some d≠o.dst:=fun hc=>hse d hc.symm (by simp [Oper.looksAt,g1,g2,g3])
   refine ⟨g,want,og,d,g1,g2,g3,?_⟩
   rcases g4 with g4 | g4
   ·exact .inl (hst.sl d _ hne g4 (by simp))
   ·exact .inr (hst.sl d _ hne g4 (by simp))
  ·rw [hst.ll] at hlt
   simp [St.put,hd,hlt]
theorem qe (hc:Chk ops ord):∀ (pre rest done:List Ent) (nv pend:Pend) (e:Env) (st:St),(∀ en∈pre,en.hard=false)->RI P sh ops ord K av w0 e0 N0 done (pre++rest) nv pend listed a w e st ->
  ∃ nv' pend' e' st',RI P sh ops ord K av w0 e0 N0 (done++pre) rest nv' pend' listed a w e' st'/\pend'.length=pend.length+pre.length
 | [],rest,done,nv,pend,e,st,_,h=>⟨nv,pend,e,st,by simpa using h,rfl⟩
 | en::pre,rest,done,nv,pend,e,st,hh,h=>by
   obtain ⟨b,nv1,e1,st1,h1⟩:=qU hc (hh en (by simp)) h
   obtain ⟨nv',pend',e',st',h2,h3⟩:=qe hc pre rest (done++[en]) nv1 _ e1 st1 (fun x hx=>hh x (by simp [hx])) h1
   exact ⟨nv',pend',e',st',by simpa using h2,by rw [h3];simp;omega⟩
theorem zGJ (hN0:NOk N0 w0) (hc:Chk ops ord) {Q:Exit->Act->World->Prop} (hQ:∀ a w e st,K st->Rel av w0 e0 [] [] a w e st->Q .normal a w) :
  ∀ (fuel:Nat) (done rest:List Ent) (nv pend:Pend) (listed:Array Bool) (a:Act) (w:World) (e:Env) (st:St),RI P sh ops ord K av w0 e0 N0 done rest nv pend listed a w e st->fuel=rest.length+pend.length ->
    wpAny P .any ops Q fuel listed a w:=by
 -- nothing is left where nothing is ready
 have fin:∀ (done rest:List Ent) (nv pend:Pend) (listed:Array Bool) (a:Act) (w:World) (e:Env) (st:St),RI P sh ops ord K av w0 e0 N0 done rest nv pend listed a w e st->rest=[]->pend=[]->Q .normal a w:=by
  intro done rest nv pend listed a w e st h hr hp
  subst hr;subst hp
  exact hQ a w e st h.f h.rel
 have prog:∀ (done rest:List Ent) (nv pend:Pend) (listed:Array Bool) (a:Act) (w:World) (e:Env) (st:St),RI P sh ops ord K av w0 e0 N0 done rest nv pend listed a w e st->Region.ready .any ops listed=[]->rest=[]/\pend=[]:=by
  intro done rest nv pend listed a w e st h hr
  have key:∀ (l1 l2:List Ent),ord=l1++l2->∀ en∈l1,listed.getD en.i false=true:=by
   intro l1
   -- from the left
   suffices ∀ n,∀ l1 l2:List Ent,l1.length=n->ord=l1++l2->∀ en∈l1,listed.getD en.i false=true from fun l2=>this l1.length l1 l2 rfl
   intro n
   induction n with
   | zero=>intro l1 l2 hl _ en hen;simp at hl;subst hl;simp at hen
   | succ n ih=>
     intro l1 l2 hl ho en hen
     rcases List.eq_nil_or_concat l1 with rfl | ⟨m,x,rfl⟩
     ·simp at hl
     ·rw [List.concat_eq_append] at hl ho hen
      simp only [oH,oR,nN] at hl
      have hm:=ih m (x::l2) (by omega) (by rw [ho];simp)
      rcases oO.1 hen with h1 | h1
      ·exact hm en h1
      ·simp at h1
       subst h1
       obtain ⟨o,hs⟩:=hc.at_ m en l2 (by rw [ho];simp)
       cases hle:listed.getD en.i false with
       | true=>rfl
       | false=>
         exfalso
         have hlt:=(oN.1 hs.op).1
         have:en.i∈Region.ready .any ops listed:=mem_ready.2 ⟨by
          rw [o0] at hle ⊢
          rw [oY (by rw [h.ls];exact hlt)] at hle ⊢
          exact hle,o,hs.op,fun e he hb=>by
          obtain ⟨b,hb1,hb2⟩:=hs.ed e he hb
          rw [<-hb2];exact hm b hb1⟩
         rw [hr] at this
         simp at this
  have hall:=key ord [] (by simp)
  have hin:∀ en∈ord,(∃ x∈done,x.i=en.i)/\∀ x∈pend,x.1≠en.i:=fun en hen=>(h.li en.i (zJc hc h hen)).1 (hall en hen)
  constructor
  ·cases hrest:rest with
   | nil=>rfl
   | cons en l=>
     exfalso
     have ho:=h.ord
     rw [hrest] at ho
     obtain ⟨⟨x,hx,hxi⟩,_⟩:=hin en (by rw [ho];simp)
     have hnd:=hc.nd
     rw [ho] at hnd
     exact wD hnd x hx hxi
  ·cases hpend:pend with
   | nil=>rfl
   | cons x l=>
     exfalso
     obtain ⟨en,h1,h2,_⟩:=h.pd x (by rw [hpend];simp)
     exact (hin en (by rw [h.ord];simp [h1])).2 x (by rw [hpend];simp) h2.symm
 intro fuel
 induction fuel with
 | zero=>
   intro done rest nv pend listed a w e st h hf
   have h1:rest=[]:=oX (by omega)
   have h2:pend=[]:=oX (by omega)
   refine ⟨?_,fin _ _ _ _ _ _ _ _ _ h h1 h2⟩
   subst h1;subst h2
   cases hr:Region.ready .any ops listed with
   | nil=>rfl
   | cons j l=>
     exfalso
     have hj:j∈Region.ready .any ops listed:=by rw [hr];simp
     obtain ⟨g1,o,g2,_⟩:=mem_ready.1 hj
     have hlt:=(oN.1 g2).1
     obtain ⟨b,hb,hbi⟩:=hc.all j hlt
     have ho:=h.ord
     rw [od] at ho
     have:=(h.li j hlt).2 ⟨⟨b,by rw [<-ho];exact hb,hbi⟩,by simp⟩
     rw [o0] at this g1
     rw [oY (by rw [h.ls];exact hlt)] at this g1
     simp only [oc] at this g1
     rw [this] at g1;cases g1
 | succ fuel ih=>
   intro done rest nv pend listed a w e st h hf
   refine ⟨fun hr=>by obtain ⟨h1,h2⟩:=prog _ _ _ _ _ _ _ _ _ h hr;exact fin _ _ _ _ _ _ _ _ _ h h1 h2,fun j hj=>?_⟩
   by_cases hpj:∃ x∈pend,x.1=j
   ·obtain ⟨x,hx,rfl⟩:=hpj
    refine zCy hc h hx hj fun a' w' e' h'=>ih _ _ _ _ _ _ _ _ _ h' ?_
    have:=List.length_erase_of_mem hx
    have:=List.length_pos_of_mem hx
    omega
   ·have hnp:∀ x∈pend,x.1≠j:=fun x hx hc=>hpj ⟨x,hx,hc⟩
    obtain ⟨g1,oj,g2,g3⟩:=mem_ready.1 hj
    have hlt:=(oN.1 g2).1
    obtain ⟨en,hen,hi⟩:=hc.all j hlt
    have hnl:listed.getD j false=false:=by
     rw [o0] at g1 ⊢
     rw [oY (by rw [h.ls];exact hlt)] at g1 ⊢
     exact g1
    have hnd:∀ x∈done,x.i≠j:=fun x hx hxj=>by
     have:=(h.li j hlt).2 ⟨⟨x,hx,hxj⟩,hnp⟩
     rw [hnl] at this;cases this
    have hre:en∈rest:=by
     rw [h.ord] at hen
     rcases oO.1 hen with h1 | h1
     ·exact absurd hi (hnd en h1)
     ·exact h1
    obtain ⟨pre,post,hpp⟩:=mB hre
    obtain ⟨o,hs⟩:=hc.at_ (done++pre) en post (by rw [h.ord,hpp];simp)
    -- nothing ahead of it is hard
    have hpre:∀ b∈pre,b.hard=false:=by
     intro b hb
     cases hbh:b.hard with
     | false=>rfl
     | true=>
       exfalso
       have hsd:=hs.hd
       rw [List.reverse_append] at hsd
       obtain ⟨x,hx,hxe⟩:=sG pre.reverse done.reverse hsd ⟨b,mT.2 hb,hbh⟩
       have hxl:=sy (by rw [hi];exact hj) hxe
       have hxo:x∈ord:=by rw [h.ord,hpp];simp [mT.1 hx]
       obtain ⟨⟨y,hy,hyx⟩,_⟩:=(h.li x.i (zJc hc h hxo)).1 hxl
       have hnd':=hc.nd
       obtain ⟨q1,q2,hq⟩:=mB (mT.1 hx)
       have ho:ord=(done++q1)++x::(q2++en::post):=by rw [h.ord,hpp,hq];simp
       rw [ho] at hnd'
       exact wD hnd' y (by simp [hy]) hyx
    rw [hpp] at h
    obtain ⟨nv',pend',e',st',h',hlen⟩:=qe hc pre (en::post) done nv pend e st hpre h
    have hlr:rest.length=pre.length+(post.length+1):=by rw [hpp];simp
    cases hh:en.hard with
    | false=>
      obtain ⟨b,nv2,e2,st2,h2⟩:=qU hc hh h'
      have hj':(en.i,b).1∈Region.ready .any ops listed:=by rw [<-hi] at hj;exact hj
      rw [<-hi]
      refine zCy hc h2 (x:=(en.i,b)) (by simp) hj' fun a' w' e' h3=>ih _ _ _ _ _ _ _ _ _ h3 ?_
      rw [List.length_erase_of_mem (by simp)]
      simp only [oR]
      omega
    | true=>
      have hnp':∀ x∈pend',x.1≠en.i:=fun x hx hxe=>by
       obtain ⟨ex,k1,k2,_⟩:=h'.pd x hx
       have hnd':=hc.nd
       rw [h'.ord] at hnd'
       exact wD hnd' ex k1 (by rw [k2,hxe])
      have hlook:=qa hc h' h'.ord hs (by rw [hi];exact hj) (fun _=>hnp')
      have hfx:=h'.f
      simp only [zEh,hs.op,hh] at hfx
      rw [<-hi]
      -- the pending are not bound to come ahead of it
      have hub:∀ x∈pend',x∈zB1 ops en.i nv':=fun x hx=>by
       have hnv:=h'.nvs x hx
       unfold zB1
       split
       ·simp at hnv
       ·refine nk.2 ⟨hnv,?_⟩
        cases hed:(zJI ops 1000 (zAS ops en.i) []).contains x.1 with
        | false=>rfl
        | true=>
          have hm:x.1∈zJI ops 1000 (zAS ops en.i) []:=by simpa using hed
          exact absurd (zBy (A:=fun k=>listed.getD k false=true) h'.lc 1000 _ [] (qZ (by rw [hi];exact hj)) (by simp) x.1 hm) (vO hc h' hx)
      refine zCg h'.rel hN0 h'.pb (pf:=zB1 ops en.i nv') (fun t ht=>by
       obtain ⟨x,hx,hd⟩:=zFA.1 ht
       exact ⟨x,hub x hx,hd⟩) (fun k hk=>by
       obtain ⟨x,hx,hd⟩:=y9.1 hk
       exact ⟨x,hub x hx,hd⟩) hs.op hlook hfx fun v w' e2 st2 k1 k0 k2 k3=>?_
      refine ih (done++pre++[en]) post nv' pend' _ _ _ e2 st2 {
       ord:=by rw [h'.ord];simp
       rel:=k3
       pb:=fun k hk=>ow (h'.pb k hk) k0
       pd:=fun x hx=>by obtain ⟨ex,m1,m2⟩:=h'.pd x hx;exact ⟨ex,by simp at m1 ⊢;rcases m1 with m1 | m1<;>simp [m1],m2⟩
       nd:=h'.nd
       un:=h'.un
       bu:=h'.bu
       pr:=fun x hx=>by
        obtain ⟨ox,hox,hkx⟩:=h'.pr x hx
        refine ⟨ox,hox,k2 x (hub x hx) ox hox hkx fun d hd=>?_⟩
        obtain ⟨ex,m1,m2,m3⟩:=h'.pd x hx
        obtain ⟨q1,q2,hq⟩:=mB m1
        obtain ⟨ox',hsx⟩:=hc.at_ q1 ex (q2++en::post) (by rw [h'.ord,hq];simp)
        have:ox'=ox:=by have:=hsx.op;rw [m2,hox] at this;exact (o1 this).symm
        subst this
        have haf:=hsx.af en (by simp) d (by simp [uw,hs.op,hd])
        have hne:∀ hcc:(d∈ox'.looksAt ops\/ox'.dst=some d),False:=fun hcc=>by
         have he:=(haf hcc).2
         rw [m2] at he
         exact vO hc h' hx (sy (by rw [hi];exact hj) he)
        exact ⟨fun hcc=>hne (.inl hcc),fun hcc=>hne (.inr hcc)⟩
       ls:=by simp [h'.ls]
       li := fun i hi'=>by
        have hjs:en.i<listed.size:=by rw [h'.ls,hi];exact hlt
        rw [zDJ (d:=false) hjs i]
        constructor
        ·rintro (rfl | m1)
         ·exact ⟨⟨en,by simp,rfl⟩,hnp'⟩
         ·obtain ⟨⟨x,m2,m3⟩,m4⟩:=(h'.li i hi').1 m1
          exact ⟨⟨x,by simp at m2 ⊢;rcases m2 with m2 | m2<;>simp [m2],m3⟩,m4⟩
        ·rintro ⟨⟨x,m1,m2⟩,m3⟩
         rcases oO.1 m1 with m1 | m1
         ·exact .inr ((h'.li i hi').2 ⟨⟨x,m1,m2⟩,m3⟩)
         ·simp at m1;subst m1;exact .inl m2.symm
       nvs:=h'.nvs
       lc:=zHZ (by rw [hi];exact hj) h'.lc
       f:=k1 } ?_
      omega
end
theorem zFm {N0:Option Nat} (hN0:NOk N0 w0) {sh:FuncId->List Sh} {id:Nat} {ops:Array Oper} {ord:List Ent} {K:St->Prop} {Q:Exit->Act->World->Prop} (hm:P.follows .mixedOrders=true) (hc:chk ops ord=true)
  (h:Rel av w0 e0 [] [] a w e st) (hs:zEh P sh N0 ops ord [] st K) (hQ:∀ a w e st,K st->Rel av w0 e0 [] [] a w e st->Q .normal a w):(Code.region id ops true).wp P Q a w:=by
 have hC:=zH6 hc
 refine wp_region_any hm ?_
 have h2:Rel av w0 e0 [] [] a { w with drawn:=w.drawn+1 } e st:=zKV (zEv h (w':={ w with drawn:=w.drawn+1 }) (oF _) (fun _ _=>rfl) fun b c t z hb hc=>by have:=(oN.1 hc).1;simp at this;omega) h.hN
 refine zGJ hN0 hC hQ ops.size [] ord [] [] _ a _ e st {
  ord:=rfl
  rel:=h2
  pb:=by simp [zH3]
  pd:=by simp
  nd:=mA
  un:=by simp
  bu:=by simp
  pr:=by simp
  ls:=by simp
  li:=fun i hi=>by simp [hi]
  nvs:=by simp
  lc:=fun m hm=>by
   exfalso
   rw [o0,Array.getElem?_replicate] at hm
   split at hm<;>simp at hm
  f:=hs } (by simp [hC.len])
variable {av:Nat->Prop} {P:Program} {w0 w w':World} {e0 e:Env} {pS pS' pB pB':List Nat} {a:Act} {st st':St}
/-- a slot is told anew -/
def zLK (w:World) (e:Env) (live:Nat->Prop) (p q:PV):Prop:=q=.any\/(p≠.any/\p.val e=q.val e/\(p.Ok w live->q.Ok w live)/\∀ k∈q.refs,k∈p.refs)
theorem zGZ (h:Rel av w0 e0 pS pB a w e st) {sl':List PV} (hl:sl'.length<=st.sl.length)
  (hs:∀ (i:Nat) (q:PV),sl'[i]?=some q->q=.any\/∃ p,st.sl[i]?=some p/\zLK w e (zJ av pB e st.bx) p q):Rel av w0 e0 pS pB a w e { st with sl:=sl' }:={
 h with
 nd:=h.nd
 sz:=ol hl h.sz
 hs:=fun i q hi hn=>by
  rcases hs i q hi with h1 | ⟨p,h1,h2 | ⟨h2,h3,h4,h5⟩⟩
  ·exact .inl h1
  ·exact .inl h2
  ·exact .inr (((h.hs i p h1 hn).resolve_left h2).trans h3)
 so:=fun i q hi hn=>by
  rcases hs i q hi with h1 | ⟨p,h1,h2 | ⟨h2,h3,h4,h5⟩⟩
  ·subst h1;trivial
  ·subst h2;trivial
  ·exact h4 (h.so i p h1 hn)
 sr:=fun i q hi hn k hk=>by
  rcases hs i q hi with h1 | ⟨p,h1,h2 | ⟨h2,h3,h4,h5⟩⟩
  ·subst h1;simp [PV.refs] at hk
  ·subst h2;simp [PV.refs] at hk
  ·exact h.sr i p h1 hn k (h5 k hk) }
def zDx (p:PV):PV:=match p with
 | .pg cs=>match zCA cs with
   | some ds=>.dg cs.length (.ag ds)
   | none=>.pg cs
 | p=>p
theorem zAp {live:Nat->Prop} {p:PV} (hok:p.Ok w live):zLK w e live p (zDx p):=by
 have same:∀ p:PV,zLK w e live p p:=fun p=>by
  by_cases hp:p=.any
  ·exact .inl hp
  ·exact .inr ⟨hp,rfl,id,fun _=>id⟩
 cases p
 case pg cs=>
  simp only [zDx]
  split
  ·rename_i ds hds
   simp only [PV.Ok] at hok
   have h1:=wx (e:=e) hds hok.1
   exact .inr ⟨by simp,by rw [show (PV.pg cs).val e=(PV.pg cs).val1 e from rfl];exact ((zG9 hds hok.1 (e:=e)).symm.trans rfl),fun _=>⟨Good.ag fun d hd=>(h1.1 d hd).1,ds,rfl,wG hds,fun d hd=>(h1.1 d hd).2⟩,by simp [PV.refs]⟩
  ·exact same _
 all_goals exact same _
/-- the slots that are kept -/
def zCU (ks:List Nat):Nat->List PV->List PV
 | _,[]=>[]
 | i,p::ps=>(match ks.contains i with
   | true=>zDx p
   | false=>.any)::zCU ks (i+1) ps
theorem rO {ks:List Nat}:∀ (l:List PV) (i:Nat),(zCU ks i l).length=l.length
 | [],i=>rfl
 | p::l,i=>by simp [zCU,rO l]
theorem zCR {ks:List Nat}:∀ (l:List PV) (i j:Nat) (q:PV),(zCU ks i l)[j]?=some q->∃ p,l[j]?=some p/\(q=.any\/q=zDx p)
 | [],i,j,q,h=>by simp [zCU] at h
 | p :: l,i,j,q,h=>by
   cases j with
   | zero=>
     simp only [zCU,nu,oZ] at h
     refine ⟨p,rfl,?_⟩
     split at h
     ·exact .inr h.symm
     ·exact .inl h.symm
   | succ j=>simp only [zCU,nF] at h ⊢;exact zCR l (i+1) j q h
def St.keep (st:St) (ks:List Nat):St:={ st with sl:=zCU ks 0 st.sl }
theorem zG8 (h:Rel av w0 e0 [] pB a w e st) (ks:List Nat):Rel av w0 e0 [] pB a w e (st.keep ks):=
 zGZ h (by rw [rO];exact oF _) fun i q hi=>by
  obtain ⟨p,h1,h2 | h2⟩:=zCR _ _ _ _ hi
  ·exact .inl h2
  ·subst h2;exact .inr ⟨p,h1,zAp (h.so i p h1 (by simp))⟩
/-- slots whose nil slice becomes a row -/
def St.nils (st:St):List (Nat × TypeId × Nat)->St
 | []=>st
 | (t,ty,z)::l=>match st.sl[t]? with
   | some (.sv none _ [] 0)=>St.nils { st with sl:=st.sl.set t (.sb st.bx.length z 0 0 0),bx:=st.bx++[.arr ty z [] 0] } l
   | _=>St.nils st l
theorem zBn:∀ (l:List (Nat × TypeId × Nat)) (e:Env) (st:St),Rel av w0 e0 [] [] a w e st->∃ e',Rel av w0 e0 [] [] a w e' (st.nils l)
 | [],e,st,h=>⟨e,h⟩
 | (t, ty,z)::l,e,st,h=>by
   simp only [St.nils]
   split
   ·rename_i zz ht
    have h1:=uj h (el:=ty) (z:=z) (by simp)
    have hat:Env.at (e++[none]) st.bx.length=none:=by rw [<-h.el];exact Env.at_append_eq
    have h2:Rel av w0 e0 [] [] a w (e++[none]) { st with sl:=st.sl.set t (.sb st.bx.length z 0 0 0),bx:=st.bx++[.arr ty z [] 0] }:={
     h1 with
     nd:=h1.nd
     sz:=by simp;exact h1.sz
     hs := fun i q hi hn=>by
      simp only [nI] at hi
      split at hi
      ·rename_i hti
       subst hti
       split at hi
       ·simp at hi;subst hi
        have:=(h1.hs t _ ht (by simp)).resolve_left (by simp)
        right
        rw [this]
        simp [PV.val,PV.val1,PV.cv,hat]
       ·cases hi
      ·exact h1.hs i q hi hn
     so:=fun i q hi hn=>by
      simp only [nI] at hi
      split at hi
      ·split at hi
       ·simp at hi;subst hi;trivial
       ·cases hi
      ·exact h1.so i q hi hn
     sr:=fun i q hi hn k hk=>by
      simp only [nI] at hi
      split at hi
      ·split at hi
       ·simp at hi;subst hi;simp [PV.refs] at hk;subst hk;simp
       ·cases hi
      ·exact h1.sr i q hi hn k hk }
    exact zBn l _ _ h2
   ·exact zBn l e st h
/-- a box told anew, with nothing written -/
theorem zGV (h:Rel av w0 e0 [] [] a w e st) {k:Nat} {cs cs':List PV} (hk:st.bx[k]?=some (.var cs)) (hl:cs'.length=cs.length)
  (hc:∀ (i:Nat) (p:PV),cs'[i]?=some p->cs[i]?=some p\/∃ q,cs[i]?=some q/\q≠.any/\p.cv e=q.cv e/\(∀ live,p.Ok w live)/\p.isC/\∀ r∈p.refs,r<st.bx.length) :
  Rel av w0 e0 [] [] a w e { st with bx:=st.bx.set k (.var cs') }:=by
 have hkl:=(oB.1 hk).1
 have hget:∀ (j:Nat) (B:Bx),(st.bx.set k (.var cs'))[j]?=some B->(j=k/\B=.var cs')\/(j≠k/\st.bx[j]?=some B):=fun j B hj=>by
  rw [nI] at hj
  split at hj
  ·rename_i hkj
   first
    | (cases hj;exact .inl ⟨hkj.symm,rfl⟩)
    | (split at hj
       ·cases hj;exact .inl ⟨hkj.symm,rfl⟩
       ·cases hj)
  ·rename_i hkj;exact .inr ⟨fun hc=>hkj hc.symm,hj⟩
 have hlv:∀ j b,Lives [] e (st.bx.set k (.var cs')) j b↔Lives [] e st.bx j b:=fun j b=>by
  constructor
  ·rintro ⟨h1,h2,B,h3,h4⟩
   rcases hget j B h3 with ⟨rfl,rfl⟩ | ⟨h5,h6⟩
   ·exact ⟨h1,h2,_,hk,by simp⟩
   ·exact ⟨h1,h2,B,h6,h4⟩
  ·rintro ⟨h1,h2,B,h3,h4⟩
   by_cases hjk:j=k
   ·subst hjk;exact ⟨h1,h2,.var cs',by rw [List.getElem?_set_self hkl],by simp⟩
   ·exact ⟨h1,h2,B,by rw [nV (Ne.symm hjk)];exact h3,h4⟩
 have hlive:∀ b,zJ av [] e (st.bx.set k (.var cs')) b->zJ av [] e st.bx b:=fun b hb=>hb.imp id fun ⟨j,hj⟩=>⟨j,(hlv j b).1 hj⟩
 have hok:=h.bo k _ hk (by simp)
 obtain ⟨ho1,ho2⟩:=hok
 rw [PV.OkL_iff] at ho1
 exact { h with
  el:=by simp;exact h.el
  br := fun j B hj hn=>by
   rcases hget j B hj with ⟨rfl,rfl⟩ | ⟨_,h6⟩
   ·obtain ⟨b,c,t,g1,g2,g3,g4⟩:=h.br _ _ hk (by simp)
    refine ⟨b,c,t,g1,g2,by rw [g3,hl],fun i p hp=>?_⟩
    rcases hc i p hp with h7 | ⟨q,h7,h8,h9,_⟩
    ·exact g4 i p h7
    ·rcases g4 i q h7 with h10 | h10
     ·exact absurd h10 h8
     ·exact .inr (by rw [h9];exact h10)
   ·exact h.br j B h6 hn
  bo := fun j B hj hn=>by
   rcases hget j B hj with ⟨rfl,rfl⟩ | ⟨_,h6⟩
   ·refine ⟨PV.OkL_iff.2 fun p hp=>?_,fun p hp=>?_⟩
    ·obtain ⟨i,hi⟩:=oP.1 hp
     rcases hc i p hi with h7 | ⟨q,_,_,_,h9,_⟩
     ·exact PV.Ok.mono (fun _ _ _=>rfl) (oF _) (fun b _=>hlive b) p (ho1 p (oC h7))
     ·exact h9 _
    ·obtain ⟨i,hi⟩:=oP.1 hp
     rcases hc i p hi with h7 | ⟨q,_,_,_,_,h9,_⟩
     ·exact ho2 p (oC h7)
     ·exact .inr h9
   ·exact (h.bo j B h6 hn).mono (fun _ _ _=>rfl) (oF _) fun b _=>hlive b
  bf:=fun j B hj hn i hi=>by
   refine ⟨by simp,?_⟩
   rw [mW]
   rcases hget j B hj with ⟨rfl,rfl⟩ | ⟨_,h6⟩
   ·simp only [Bx.refs] at hi
    obtain ⟨p,hp,hip⟩:=PV.refsL_mem.1 hi
    obtain ⟨n,hn⟩:=oP.1 hp
    rcases hc n p hn with h7 | ⟨q,_,_,_,_,_,h9⟩
    ·exact (h.bf _ _ hk (by simp) i (by simp only [Bx.refs];exact PV.refsL_mem.2 ⟨p,oC h7,hip⟩)).2
    ·exact h9 i hip
   ·exact (h.bf j B h6 hn i hi).2
  inj:=fun i j b hi hj=>h.inj i j b ((hlv i b).1 hi) ((hlv j b).1 hj)
  so:=fun i p hp hn=>PV.Ok.mono (fun _ _ _=>rfl) (oF _) (fun b _=>hlive b) p (h.so i p hp hn)
  sr:=fun i p hp hn r hr=>by rw [mW];exact h.sr i p hp hn r hr
  own:=fun j b hj=>h.own j b ((hlv j b).1 hj)
  avn:=fun j b hj=>h.avn j b ((hlv j b).1 hj) }
/-- cells of a variable's box whose nil slice becomes a row: the variable's slot, the cell, the element's type and kind -/
def St.bnils (st:St):List (Nat × Nat × TypeId × Nat)->St
 | []=>st
 | (t, j,ty,z)::l=>match st.sl[t]? with
   | some (.pb k _ _ _)=>match st.bx[k]? with
     | some (.var cs)=>match cs[j]? with
       | some (.sv none _ [] 0)=>St.bnils { st with bx:=List.set (st.bx++[Bx.arr ty z [] 0]) k (Bx.var (cs.set j (PV.sb st.bx.length z 0 0 0))) } l
       | _=>St.bnils st l
     | _=>St.bnils st l
   | _=>St.bnils st l
theorem uG:∀ (l:List (Nat × Nat × TypeId × Nat)) (e:Env) (st:St),Rel av w0 e0 [] [] a w e st->∃ e',Rel av w0 e0 [] [] a w e' (st.bnils l)
 | [],e,st,h=>⟨e,h⟩
 | (t, j,ty,z)::l,e,st,h=>by
   simp only [St.bnils]
   split
   ·split
    ·split
     ·rename_i k _ _ _ _ _ cs hk _ zz hj
      have h1:=uj h (el:=ty) (z:=z) (by simp)
      have hat:Env.at (e++[none]) st.bx.length=none:=by rw [<-h.el];exact Env.at_append_eq
      have hkl:=(oB.1 hk).1
      have hk1:(st.bx++[Bx.arr ty z [] 0])[k]?=some (.var cs):=by rw [oK hkl];exact hk
      exact uG l _ _ (zGV h1 hk1 (cs':=cs.set j (.sb st.bx.length z 0 0 0)) (by simp) fun i p hp=>by
       rw [nI] at hp
       split at hp
       ·rename_i hji
        subst hji
        split at hp
        ·cases hp
         exact .inr ⟨_,hj,by simp,by simp [PV.cv,hat],fun _=>trivial,trivial,fun r hr=>by simp [PV.refs] at hr;subst hr;simp⟩
        ·cases hp
       ·exact .inl hp)
     ·exact uG l e st h
    ·exact uG l e st h
   ·exact uG l e st h
def St.sel (st:St) (ks:List Nat):St:={ st with sl:=st.sl.map (zHe ks),bx:=ks.map fun k=>(st.bx.getD k .gone).ren ks }
theorem zGw (h:Rel av w0 e0 [] [] a w e st) {ks:List Nat} (hn:ks.Nodup) (hpn:∃ l,ks=List.range st.pins.length++l):Rel av w0 e0 [] [] a w (u6 e ks) (st.sel ks):=by
 have hpre:∀ j,j<st.pins.length->ks[j]?=some j:=fun j hj=>by
  obtain ⟨l,rfl⟩:=hpn
  rw [oK (by simpa using hj)]
  simp [hj]
 have hpos:∀ j k,ks[j]?=some k->k<st.pins.length->j=k:=fun j k hj hk=>by
  have h1:=hpre k hk
  obtain ⟨a1,a2⟩:=oB.1 h1
  obtain ⟨b1,b2⟩:=oB.1 hj
  exact (List.getElem_inj hn).1 (b2.trans a2.symm)
 have hget:∀ (j:Nat) (B':Bx),(ks.map fun k=>(st.bx.getD k .gone).ren ks)[j]?=some B'->∃ k,ks[j]?=some k/\B'=(st.bx.getD k .gone).ren ks/\(u6 e ks).at j=e.at k:=fun j B' hj=>by
  rw [oE] at hj
  cases hk:ks[j]? with
  | none=>simp [hk] at hj
  | some k=>simp [hk] at hj;exact ⟨k,rfl,by simp [hj],by simp [u6,Env.at,oA,hk]⟩
 have hbx:∀ k,(st.bx.getD k .gone).ren ks≠.gone->∃ B,st.bx[k]?=some B/\B≠.gone/\(st.bx.getD k .gone)=B:=fun k hk=>by
  rw [oA] at hk ⊢
  cases hB:st.bx[k]? with
  | none=>rw [hB] at hk;exact absurd rfl hk
  | some B=>
    rw [hB] at hk
    refine ⟨B,rfl,fun hc=>hk ?_,rfl⟩
    simp only [oc];rw [hc];rfl
 have hlives:∀ j b,Lives [] (u6 e ks) (ks.map fun k=>(st.bx.getD k .gone).ren ks) j b->∃ k,ks[j]?=some k/\Lives [] e st.bx k b:=fun j b ⟨_,h2,B',h3,h4⟩=>by
  obtain ⟨k,h5,rfl,h6⟩:=hget j B' h3
  obtain ⟨B,h7,h8,_⟩:=hbx k h4
  exact ⟨k,h5,by simp,by rw [<-h6];exact h2,B,h7,h8⟩
 have hlive:∀ b,zJ av [] (u6 e ks) (ks.map fun k=>(st.bx.getD k .gone).ren ks) b->zJ av [] e st.bx b:=fun b hb=>hb.imp id fun ⟨j,hj⟩=>by
  obtain ⟨k,_,h2⟩:=hlives j b hj;exact ⟨k,h2⟩
 have hmono:∀ p:PV,p.Ok w (zJ av [] e st.bx)->p.Ok w (zJ av [] (u6 e ks) (ks.map fun k=>(st.bx.getD k .gone).ren ks)):=fun p=>PV.Ok.mono (fun _ _ _=>rfl) (oF _) (fun b _=>hlive b) p
 have hslot:∀ (i:Nat) (q:PV),(st.sl.map (zHe ks))[i]?=some q->q=.any\/∃ p,st.sl[i]?=some p/\PV.ren ks p=some q:=fun i q hi=>by
  rw [oE] at hi
  cases hp:st.sl[i]? with
  | none=>simp [hp] at hi
  | some p=>
    simp [hp,zHe] at hi
    split at hi
    ·rename_i q' hq;subst hi;exact .inr ⟨p,rfl,hq⟩
    ·exact .inl hi.symm
 exact {
  el:=by simp [u6,St.sel]
  br := fun j B' hj _=>by
   obtain ⟨k,h1,rfl,h2⟩:=hget j B' hj
   rw [h2]
   rw [oA]
   cases hB:st.bx[k]? with
   | none=>exact True.intro
   | some B=>
     have h3:=h.br k B hB (by simp)
     simp only [oc]
     cases B with
     | var cs=>
       obtain ⟨b,c,t,g1,g2,g3,g4⟩:=h3
       refine ⟨b,c,t,g1,g2,by simpa using g3,fun i p hp=>?_⟩
       rw [oE] at hp
       cases hci:cs[i]? with
       | none=>simp [hci] at hp
       | some q=>
         simp [hci,zHe] at hp
         split at hp
         ·rename_i q' hq
          subst hp
          have h5:=yj (e:=e) hq
          rcases g4 i q hci with g5 | g5
          ·exact .inl (h5.an.1 g5)
          ·exact .inr (by rw [<-h5.cv];exact g5)
         ·exact .inl hp.symm
     | _=>exact h3
  bo := fun j B' hj _=>by
   obtain ⟨k,h1,rfl,h2⟩:=hget j B' hj
   rw [oA]
   cases hB:st.bx[k]? with
   | none=>exact True.intro
   | some B=>
     have h3:=(h.bo k B hB (by simp)).mono (w':=w) (live':=zJ av [] (u6 e ks) (ks.map fun k=>(st.bx.getD k .gone).ren ks)) (fun _ _ _=>rfl) (oF _) fun b _=>hlive b
     simp only [oc]
     cases B with
     | var cs=>
       obtain ⟨g1,g2⟩:=h3
       rw [PV.OkL_iff] at g1
       refine ⟨PV.OkL_iff.2 fun p hp=>?_,fun p hp=>?_⟩
       ·obtain ⟨q,hq,rfl⟩:=oQ.1 hp
        unfold zHe
        split
        ·rename_i q' hq';exact (yj (e:=e) hq').ok _ _ (g1 q hq)
        ·trivial
       ·obtain ⟨q,hq,rfl⟩:=oQ.1 hp
        unfold zHe
        split
        ·rename_i q' hq'
         have h5:=yj (e:=e) hq'
         rcases g2 q hq with g3 | g3
         ·exact .inl (h5.an.1 g3)
         ·exact .inr (h5.ic g3)
        ·exact .inl rfl
     | _=>exact h3
  bf := fun j B' hj _ i hi=>by
   refine ⟨by simp,?_⟩
   obtain ⟨k,h1,rfl,h2⟩:=hget j B' hj
   simp only [St.sel,nM]
   rw [oA] at hi
   cases hB:st.bx[k]? with
   | none=>rw [hB] at hi;simp [Bx.ren,Bx.refs] at hi
   | some B=>
     rw [hB] at hi
     simp only [oc] at hi
     cases B with
     | var cs=>
       simp only [Bx.ren,Bx.refs] at hi
       obtain ⟨p,hp,hip⟩:=PV.refsL_mem.1 hi
       obtain ⟨q,hq,rfl⟩:=oQ.1 hp
       unfold zHe at hip
       split at hip
       ·rename_i q' hq';exact (yj (e:=e) hq').rf i hip
       ·simp [PV.refs] at hip
     | _=>simp [Bx.ren,Bx.refs] at hi
  inj:=fun i j b hi hj=>by
   obtain ⟨k,h1,h2⟩:=hlives i b hi
   obtain ⟨l,h3,h4⟩:=hlives j b hj
   have hkl:=h.inj k l b h2 h4
   subst hkl
   have hil:=(oB.1 h1)
   have hjl:=(oB.1 h3)
   obtain ⟨hi1,hi2⟩:=hil
   obtain ⟨hj1,hj2⟩:=hjl
   exact (List.getElem_inj hn).1 (hi2.trans hj2.symm)
  ku:=h.ku
  size:=h.size
  old:=h.old
  fz:=h.fz
  nd:=h.nd
  sz:=by simp [St.sel];exact h.sz
  hN:=h.hN
  hs:=fun i q hi hnn=>by
   rcases hslot i q hi with h1 | ⟨p,h1,h2⟩
   ·exact .inl h1
   ·rcases h.hs i p h1 hnn with h3 | h3
    ·exact .inl ((yj (e:=e) h2).an.1 h3)
    ·exact .inr (h3.trans (zGm h2))
  so:=fun i q hi hnn=>by
   rcases hslot i q hi with h1 | ⟨p,h1,h2⟩
   ·subst h1;trivial
   ·exact (yj (e:=e) h2).ok _ _ (hmono p (h.so i p h1 hnn))
  sr:=fun i q hi hnn k hk=>by
   rcases hslot i q hi with h1 | ⟨p,h1,h2⟩
   ·subst h1;simp [PV.refs] at hk
   ·exact ⟨by simp,by simp only [St.sel,nM];exact (yj (e:=e) h2).rf k hk⟩
  own:=fun j b hj=>by
   obtain ⟨k,h1,h2⟩:=hlives j b hj
   rcases h.own k b h2 with h3 | ⟨h3,h4⟩
   ·exact .inl h3
   ·exact .inr ⟨h3,by rw [hpos j k h1 h4];exact h4⟩
  avl:=h.avl
  avn:=fun j b hj=>by obtain ⟨k,_,h2⟩:=hlives j b hj;exact h.avn k b h2
  pin:=fun k b hb=>by
   have hb':st.pins[k]?=some (some b):=hb
   have hk:=hpre k (oB.1 hb').1
   exact ⟨by have:=(h.pin k b hb').1;simpa [u6,Env.at,oA,hk] using this,by simp⟩
  pit:=h.pit }
def St.canon (st:St) (K:St->Prop):Prop:=match st.pins with
 | []=>K (st.sel (sB st.bx 200 (PV.refsL st.sl) []))
 | L=>K (st.sel (List.range L.length++(sB st.bx 200 (List.range L.length++PV.refsL st.sl) []).filter (Nat.ble L.length)))
theorem zGK (h:Rel av w0 e0 [] [] a w e st) {K:St->Prop} (hs:st.canon K):∃ e' st',K st'/\Rel av w0 e0 [] [] a w e' st':=by
 have hn:=wC (bx:=st.bx) 200 (PV.refsL st.sl) [] mA
 unfold St.canon at hs
 split at hs
 ·rename_i hp
  exact ⟨_,_,hs,zGw h hn ⟨_,by rw [hp];rfl⟩⟩
 ·rename_i hp
  refine ⟨_,_,hs,zGw h ?_ ⟨_,rfl⟩⟩
  refine nq.2 ⟨List.nodup_range,(wC 200 _ [] mA).filter _,fun x hx y hy hxy=>?_⟩
  have h1:=List.mem_range.1 hx
  have h2:=mC (nk.1 hy).2
  omega
structure Cut where
 id:Nat
 keep:List Nat
 nils:List (Nat × TypeId × Nat):=[]
 cl:List Nat:=[]
 bnils:List (Nat × Nat × TypeId × Nat):=[]
def zLP (N0:Option Nat) (c:Cut) (st:St) (K:St->Prop):Prop:=uR N0 #[] [] c.cl c.keep st fun st=>St.canon (St.bnils (St.nils (St.keep st c.keep) c.nils) c.bnils) K
theorem zAh (h:Rel av w0 e0 [] [] a w e st) {N0:Option Nat} (hN0:NOk N0 w0) {c:Cut} {K:St->Prop} (hs:zLP N0 c st K):∃ e' st',K st'/\Rel av w0 e0 [] [] a w e' st':=by
 obtain ⟨st1,T,h1,_,_,h2⟩:=xb h hN0 (by simp) hs
 obtain ⟨e1,h3⟩:=zBn c.nils _ _ (zG8 h2 c.keep)
 obtain ⟨e2,h4⟩:=uG c.bnils _ _ h3
 exact zGK h4 h1
mutual
def zCf (p:PV) (K:PV->Prop):Prop:=match p with
 | .any=>K .any
 | .int k n=>K (.int k n)
 | .bool v=>K (.bool v)
 | .str v=>K (.str v)
 | .lit x=>K (.lit x)
 | .sv a z es c=>K (.sv a z es c)
 | .d x=>K (.d x)
 | .dc x=>K (.dc x)
 | .dg n x=>K (.dg n x)
 | .pb k z i o=>K (.pb k z i o)
 | .pd ad z x=>K (.pd ad z x)
 | .sb k z lo n c=>K (.sb k z lo n c)
 | .fn f caps=>rU caps fun l=>K (.fn f l)
 | .pg cs=>rU cs fun l=>K (.pg l)
 | .tp cs=>rU cs fun l=>K (.tp l)
def rU (l:List PV) (K:List PV->Prop):Prop:=match l with
 | []=>K []
 | p::ps=>zCf p fun p=>rU ps fun ps=>K (p::ps)
end
mutual
theorem zF6:∀ (p:PV) (K:PV->Prop),zCf p K=K p
 | .fn f caps,K=>by simp only [zCf];exact vC caps _
 | .pg cs,K=>by simp only [zCf];exact vC cs _
 | .tp cs,K=>by simp only [zCf];exact vC cs _
 | .any,K=>rfl
 | .int ..,K=>rfl
 | .bool ..,K=>rfl
 | .str ..,K=>rfl
 | .lit ..,K=>rfl
 | .sv ..,K=>rfl
 | .d ..,K=>rfl
 | .dc ..,K=>rfl
 | .dg ..,K=>rfl
 | .pd ..,K=>rfl
 | .pb ..,K=>rfl
 | .sb ..,K=>rfl
theorem vC:∀ (l:List PV) (K:List PV->Prop),rU l K=K l
 | [],K=>rfl
 | p::ps,K=>by simp only [rU];rw [zF6,vC]
end
def zHS (B:Bx) (K:Bx->Prop):Prop:=match B with
 | .var cs=>rU cs fun cs=>K (.var cs)
 | .vd x n=>K (.vd x n)
 | .arr t z es c=>K (.arr t z es c)
 | .gone=>K .gone
theorem zF2 (B:Bx) (K:Bx->Prop):zHS B K=K B:=by
 cases B<;>simp only [zHS]
 exact vC _ _
def zBZ (l:List Bx) (K:List Bx->Prop):Prop:=match l with
 | []=>K []
 | B::bs=>zHS B fun B=>zBZ bs fun bs=>K (B::bs)
theorem zAc:∀ (l:List Bx) (K:List Bx->Prop),zBZ l K=K l
 | [],K=>rfl
 | B::bs,K=>by simp only [zBZ];rw [zF2,zAc]
def pa (st:St) (K:St->Prop):Prop:=rU st.sl fun sl=>zBZ st.bx fun bx=>K { st with sl:=sl,bx:=bx }
theorem uh (st:St) (K:St->Prop):pa st K=K st:=by simp only [pa];rw [vC,zAc]
end Go.Proofs.YtmfjakahanbnlaaGreatDoor
