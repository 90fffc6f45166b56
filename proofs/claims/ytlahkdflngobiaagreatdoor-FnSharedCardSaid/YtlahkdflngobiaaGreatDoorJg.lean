/- A region in whatever order the machine draws. -/
import Derived.Test.YtlahkdflngobiaaGreatDoorJf
set_option linter.unusedVariables false
set_option linter.unusedSimpArgs false
namespace Go.Proofs.YtlahkdflngobiaaGreatDoor
open Go
variable {av:Nat->Prop} {P:Program} {w0 w w':World} {e0 e:Env} {pS pS' pB pB':List Nat} {a:Act} {st st':St}
def zB4 (ops:Array Oper) (i:Nat):List Ent->Bool
 | []=>true
 | b::bs=>zSn ops b.i i||(!b.hard&&zB4 ops i bs)
def zVU (ops:Array Oper) (bf:List Ent) (en:Ent) (aft:List Ent):Bool:=
 match ops[en.i]? with
 | none=>false
 | some o=>
   (o.after.toList.all fun e=>!Region.binds .any e||bf.any fun b=>b.i==e.on) &&
   zB4 ops en.i bf &&
   (bf.all fun b=>match zAf ops b.i with
    | none=>true
    | some d=>!(o.looksAt ops).contains d||zSn ops b.i en.i) &&
   (aft.all fun r=>match zAf ops r.i with
    | none=>true
    | some d=>!((o.looksAt ops).contains d||o.dst==some d)||(r.hard&&zSn ops en.i r.i)) &&
   (en.hard||match o.dst with
    | none=>true
    | some d=>!(o.looksAt ops).contains d)
def zRt (ops:Array Oper):List Ent->List Ent->Bool
 | _,[]=>true
 | bf,en::l=>zVU ops bf en l&&zRt ops (en::bf) l
def zNw:List Nat->Bool
 | []=>true
 | k::ks=>!ks.contains k&&zNw ks
def chk (ops:Array Oper) (ord:List Ent):Bool:=
 ord.length==ops.size&&zNw (ord.map (·.i))&&((List.range ops.size).all λi=>ord.any λb=>b.i==i)&&zRt ops [] ord
structure Spot (ops:Array Oper) (l1:List Ent) (en:Ent) (l2:List Ent) (o:Oper):Prop where
 op:ops[en.i]?=some o
 ed:∀ e∈o.after,Region.binds .any e=true->∃ b∈l1,b.i=e.on
 hd:zB4 ops en.i l1.reverse=true
 pr:∀ b∈l1,∀ d,zAf ops b.i=some d->d∈o.looksAt ops->zSn ops b.i en.i=true
 af:∀ r∈l2,∀ d,zAf ops r.i=some d->(d∈o.looksAt ops\/o.dst=some d)->r.hard=true/\zSn ops en.i r.i=true
 se:en.hard=false->∀ d,o.dst=some d->d∉o.looksAt ops
theorem zQZ {ops:Array Oper} {l1:List Ent} {en:Ent} {l2:List Ent} (h:zVU ops l1.reverse en l2=true):∃ o,Spot ops l1 en l2 o:=by
 unfold zVU at h
 split at h
 ·cases h
 ·rename_i o ho
  simp only [oL,oT] at h
  obtain ⟨⟨⟨⟨h1,h2⟩,h3⟩,h4⟩,h5⟩:=h
  refine ⟨o,ho,λe he I=>?_,h2,λb I d hd hm=>?_,λr hr d hd hm=>?_,λhh d hd hm=>?_⟩
  ·have:=h1 e (ou.2 he)
   rw [I] at this
   simp only [lL,Bool.false_or,mc,mE] at this
   obtain ⟨b,J,O⟩:=this
   exact ⟨b,ms.1 J,O⟩
  ·have:=h3 b (ms.2 I)
   rw [hd] at this
   simpa [hm] using this
  ·have:=h4 r hr
   rw [hd] at this
   rcases hm with hm | hm
   ·simpa [hm] using this
   ·simpa [hm] using this
  ·rw [hh,hd] at h5
   simp [hm] at h5
theorem zHX {ops:Array Oper}:∀ (l bf:List Ent),zRt ops bf.reverse l=true->∀ l1 en l2,l=l1++en::l2->∃ o,Spot ops (bf++l1) en l2 o
 | [],bf,_,l1,en,l2,h=>by cases l1<;>cases h
 | x :: l,bf,hc,l1,en,l2,h=>by
   simp only [zRt,oL] at hc
   cases l1 with
   | nil=>
     cases h
     simpa using zQZ hc.1
   | cons y l1=>
     cases h
     have:=zHX _ (bf++[x]) (by simpa using hc.2) l1 en l2 rfl
     simpa using this
theorem zCG {ops:Array Oper} {i:Nat}:∀ (l m:List Ent),zB4 ops i (l++m)=true->(∃ b∈l,b.hard=true)->∃ b∈l,zSn ops b.i i=true
 | [],m,_,h=>by simp at h
 | b :: l,m,h,O=>by
   simp only [o9,zB4,nk,oL,na] at h
   rcases h with h | ⟨h1,h2⟩
   ·exact ⟨b,by simp,h⟩
   ·obtain ⟨x,hx,I⟩:=O
    rcases oH.1 hx with rfl | hx
    ·rw [h1] at I;cases I
    ·obtain ⟨y,hy,J⟩:=zCG l m h2 ⟨x,hx,I⟩
     exact ⟨y,by simp [hy],J⟩
theorem zGW:∀ {l:List Nat},zNw l=true->l.Nodup
 | [],_=>mK
 | k::ks,h=>by
   simp only [zNw,oL,na] at h
   refine nh.2 ⟨λhc=>?_,zGW h.2⟩
   have:=h.1
   simp [hc] at this
structure Chk (ops:Array Oper) (ord:List Ent):Prop where
 len:ord.length=ops.size
 nd:(ord.map (·.i)).Nodup
 all:∀ i,i<ops.size->∃ b∈ord,b.i=i
 at_:∀ l1 en l2,ord=l1++en::l2->∃ o,Spot ops l1 en l2 o
theorem zSD {ops:Array Oper} {ord:List Ent} (h:chk ops ord=true):Chk ops ord:=by
 simp only [chk,oL,mE,oT] at h
 obtain ⟨⟨⟨I,J⟩,O⟩,h4⟩:=h
 refine ⟨I,zGW J,λi hi=>?_,λl1 en l2 hl=>by simpa using zHX ord [] (by simpa using h4) l1 en l2 hl⟩
 have:=O i (List.mem_range.2 hi)
 simpa using this
def zQu (ops:Array Oper) (pend:Pend):List Nat:=pend.filterMap λx=>zAf ops x.1
def zRP (pend:Pend):List Nat:=pend.filterMap (·.2)
theorem zNQ {ops:Array Oper} {pend:Pend} {t:Nat}:t∈zQu ops pend↔∃ x∈pend,zAf ops x.1=some t:=nR
theorem vT {pend:Pend} {k:Nat}:k∈zRP pend↔∃ x∈pend,x.2=some k:=nR
/-- what holds between the operations of a region -/
structure RI (P:Program) (sh:FuncId->List Sh) (ops:Array Oper) (ord:List Ent) (K:St->Prop) (av:Nat->Prop) (w0:World) (e0:Env) (N0:Option Nat)
  (done rest:List Ent) (nv pend:Pend) (listed:Array Bool) (a:Act) (w:World) (e:Env) (st:St):Prop where
 ord:ord=done++rest
 rel:Rel av w0 e0 (zQu ops pend) (zRP pend) a w e st
 pb:∀ k∈zRP pend,k<st.bx.length
 pd:∀ x∈pend,∃ en∈done,en.i=x.1/\en.hard=false
 nd:pend.Nodup
 un:∀ x∈pend,∀ y∈pend,x.1=y.1->x=y
 bu:∀ x∈pend,∀ y∈pend,∀ k,x.2=some k->y.2=some k->x=y
 pr:∀ x∈pend,zWG ops P st x
 ls:listed.size=ops.size
 li:∀ i,i<ops.size->(listed.getD i false=true↔(∃ en∈done,en.i=i)/\∀ x∈pend,x.1≠i)
 nvs:∀ x∈pend,x∈nv
 lc:∀ m,listed.getD m false=true->∀ i∈zGi ops m,listed.getD i false=true
 f:zNa P sh N0 ops rest nv st K
section
variable {N0:Option Nat} {sh:FuncId->List Sh} {ops:Array Oper} {ord:List Ent} {K:St->Prop} {done rest:List Ent} {nv pend:Pend} {listed:Array Bool}
theorem zDh {i j:Nat} (O:j∈Region.ready .any ops listed) (J:zSn ops i j=true):listed.getD i false=true:=by
 obtain ⟨_,o,ho,I⟩:=mem_ready.1 O
 unfold zSn at J
 rw [ho] at J
 simp only [Array.any_eq_true,oL,mE] at J
 obtain ⟨n,hn,h1,h2⟩:=J
 rw [<-h1]
 exact I _ (Array.getElem_mem hn) h2
theorem zF6 {j:Nat} (J:j∈Region.ready .any ops listed):∀ i∈zGi ops j,listed.getD i false=true:=by
 obtain ⟨_,o,O,I⟩:=mem_ready.1 J
 intro i hi
 simp only [zGi,O,oU,nx] at hi
 obtain ⟨e,⟨he,hb⟩,rfl⟩:=hi
 exact I e (ou.1 he) hb
theorem zPw {j:Nat} (O:j∈Region.ready .any ops listed) (h:∀ m,listed.getD m false=true->∀ i∈zGi ops m,listed.getD i false=true) :
  ∀ m,(listed.setIfInBounds j true).getD m false=true->∀ i∈zGi ops m,(listed.setIfInBounds j true).getD i false=true:=λm J i hi=>by
 refine getD_set_true ?_
 by_cases I:j=m
 ·subst I;exact zF6 O i hi
 ·rw [getD_set_ne false I] at J
  exact h m J i hi
theorem zTP (hc:Chk ops ord) (h:RI P sh ops ord K av w0 e0 N0 done rest nv pend listed a w e st) {en:Ent} (I:en∈ord):en.i<ops.size:=by
 obtain ⟨l1,l2,J⟩:=mQ I
 obtain ⟨o,O⟩:=hc.at_ l1 en l2 J
 exact (oV.1 O.op).1
/-- a pending operation is none that is listed -/
theorem rn (hc:Chk ops ord) (h:RI P sh ops ord K av w0 e0 N0 done rest nv pend listed a w e st) {x:Nat × Option Nat} (J:x∈pend):listed.getD x.1 false≠true:=by
 obtain ⟨en,O,h2,_⟩:=h.pd x J
 have I:=zTP hc h (en:=en) (by rw [h.ord];simp [O])
 rw [h2] at I
 intro hl
 exact ((h.li x.1 I).1 hl).2 x J rfl
/-- the slots that a ready operation looks at are there -/
theorem zGK (hc:Chk ops ord) (h:RI P sh ops ord K av w0 e0 N0 done rest nv pend listed a w e st) {l1 l2:List Ent} {en:Ent} {o:Oper} (hl:ord=l1++en::l2) (J:Spot ops l1 en l2 o)
  (hr:en.i∈Region.ready .any ops listed) (hp:en.hard=true->∀ x∈pend,x.1≠en.i):∀ t∈o.looksAt ops,t∉zQu ops pend:=by
 intro t O aa
 obtain ⟨x,hx,hd⟩:=zNQ.1 aa
 obtain ⟨ex,h1,h2,h3⟩:=h.pd x hx
 have I:ex∈l1++en::l2:=by rw [<-hl,h.ord];simp [h1]
 rw [<-h2] at hd
 rcases oG.1 I with hm | hm
 ·have he:=zDh hr (J.pr ex hm t hd O)
  rw [h2] at he
  exact rn hc h hx he
 ·rcases oH.1 hm with rfl | hm
  ·refine J.se h3 t ?_ O
   simpa [zAf,J.op] using hd
  ·have:=(J.af ex hm t hd (.inl O)).1
   rw [h3] at this;cases this
theorem zJ3 {j:Nat} {d:Bool} (I:j<listed.size) (i:Nat):(listed.setIfInBounds j true).getD i false=true↔i=j\/listed.getD i false=true:=by
 by_cases h:j=i
 ·subst h
  simp [I]
 ·rw [getD_set_ne false h]
  constructor
  ·exact .inr
  ·rintro (h1 | h1)
   ·exact absurd h1.symm h
   ·exact h1
/-- a promise is kept -/
theorem zKh (hc:Chk ops ord) (h:RI P sh ops ord K av w0 e0 N0 done rest nv pend listed a w e st) {x:Nat × Option Nat} (hx:x∈pend) (hr:x.1∈Region.ready .any ops listed)
  {next:Act->World->Prop} {Q:Exit->Act->World->Prop}
  (hn:∀ a' w' e',RI P sh ops ord K av w0 e0 N0 done rest nv (pend.erase x) (listed.setIfInBounds x.1 true) a' w' e' st->next a' w'):wpOp P ops Q x.1 next a w:=by
 obtain ⟨en,am,hi,hh⟩:=h.pd x hx
 obtain ⟨l1,l2,hl⟩:=mQ (show en∈ord by rw [h.ord];simp [am])
 obtain ⟨o,ho⟩:=hc.at_ l1 en l2 hl
 have aa:=zGK hc h hl ho (by rw [hi];exact hr) (by rw [hh];intro hc;cases hc)
 have ae:=ho.op
 rw [hi] at ae
 have hd:zAf ops x.1=o.dst:=by simp [zAf,ae]
 have J:∀ y,y∈pend.erase x↔y≠x/\y∈pend:=λy=>List.Nodup.mem_erase_iff h.nd
 have az:x.1<listed.size:=by rw [h.ls];exact (oV.1 ae).1
 have ao:∀ i,i∈zQu ops pend->some i≠o.dst->i∈zQu ops (pend.erase x):=λi ai a6=>by
  obtain ⟨y,O,aq⟩:=zNQ.1 ai
  refine zNQ.2 ⟨y,(J y).2 ⟨λac=>a6 ?_,O⟩,aq⟩
  subst ac;rw [<-aq,hd]
 -- what is left
 have ah:∀ a' w' e',Rel av w0 e0 (zQu ops (pend.erase x)) (zRP (pend.erase x)) a' w' e' st->next a' w':=λa' w' e' hR=>hn a' w' e' {
  ord:=h.ord
  rel:=hR
  pb:=λk hk=>by obtain ⟨y,O,I⟩:=vT.1 hk;exact h.pb k (vT.2 ⟨y,((J y).1 O).2,I⟩)
  pd:=λy O=>h.pd y ((J y).1 O).2
  nd:=h.nd.erase x
  un:=λy O z hz=>h.un y ((J y).1 O).2 z ((J z).1 hz).2
  bu:=λy O z hz=>h.bu y ((J y).1 O).2 z ((J z).1 hz).2
  pr:=λy O=>h.pr y ((J y).1 O).2
  ls:=by simp [h.ls]
  li := λi ai=>by
   rw [zJ3 (d:=false) az i]
   constructor
   ·rintro (rfl | h1)
    ·refine ⟨⟨en,am,hi⟩,λy O ac=>?_⟩
     have:=(J y).1 O
     exact this.1 (h.un y this.2 x hx ac)
    ·have:=(h.li i ai).1 h1
     exact ⟨this.1,λy O=>this.2 y ((J y).1 O).2⟩
   ·rintro ⟨h1,h2⟩
    by_cases au:i=x.1
    ·exact .inl au
    ·refine .inr ((h.li i ai).2 ⟨h1,λy O aw=>?_⟩)
     by_cases ac:y=x
     ·subst ac;exact au aw.symm
     ·exact h2 y ((J y).2 ⟨ac,O⟩) aw
  nvs:=λy O=>h.nvs y ((J y).1 O).2
  lc:=zPw hr h.lc
  f:=h.f }
 obtain ⟨o',ax,hk⟩:=h.pr x hx
 rw [ae] at ax
 cases ax
 unfold wpOp
 rw [ae]
 simp only
 rcases hk with ⟨hw,_,r,q,h2,h3,h4,h5⟩ | ⟨hw,hb,h3⟩
 ·rw [if_pos (zKe h.rel hw aa)]
  refine .inl ?_
  have aj:∀ B f,r=.b B f->∃ k,x.2=some k:=λB f hr=>by
   subst hr
   cases ab:x.2 with
   | none=>rw [ab] at h3;cases h3
   | some k=>exact ⟨k,rfl⟩
  obtain ⟨v,w',e',g1,g2⟩:=zRr h.rel (o:=o) (r:=r) (k:=x.2.getD 0) (λy O t ht=>aa t (vS O ht)) h2 (λd a7 a8=>by
   rw [h4 d a7 a8]
   cases r with
   | v p=>cases ab:x.2<;>rw [ab] at h3<;>simp [zRU] at h3;simp [h3]
   | b B f=>
     obtain ⟨k,hk⟩:=aj B f rfl
     rw [hk] at h3
     simp [zRU] at h3
     simp [hk,h3]) (λB f ay=>by
   obtain ⟨k,hk⟩:=aj B f ay
   rw [hk]
   exact ⟨h5 B f k ay hk,vT.2 ⟨x,hx,hk⟩⟩) ao
  unfold Oper.wp
  rw [g1,Oper.upon_value]
  refine ah _ _ _ (ph g2 (λk=>?_) λ_=>id)
  cases r with
  | v p=>
    have ab:x.2=none:=by cases ab:x.2<;>rw [ab] at h3<;>simp [zRU] at h3<;>rfl
    simp only [Res.isB,mg,ni]
    constructor
    ·intro hk
     obtain ⟨y,O,I⟩:=vT.1 hk
     exact vT.2 ⟨y,((J y).1 O).2,I⟩
    ·intro hk
     obtain ⟨y,O,I⟩:=vT.1 hk
     exact vT.2 ⟨y,(J y).2 ⟨λhc=>(by rw [hc,ab] at I;cases I),O⟩,I⟩
  | b B f=>
    obtain ⟨k0,ak⟩:=aj B f rfl
    simp only [Res.isB,mf,ak,o7,nx,nD,ne_eq]
    constructor
    ·intro hk
     obtain ⟨y,O,I⟩:=vT.1 hk
     have:=(J y).1 O
     exact ⟨vT.2 ⟨y,this.2,I⟩,λal=>this.1 (h.bu y this.2 x hx k I (by rw [ak,al]))⟩
    ·rintro ⟨hk,al⟩
     obtain ⟨y,O,I⟩:=vT.1 hk
     exact vT.2 ⟨y,(J y).2 ⟨λhc=>(by rw [hc,ak] at I;cases I;exact al rfl),O⟩,I⟩
 ·rw [if_neg (by rw [zLO h.rel hw aa];simp)]
  have h4:=xz h.rel (dst:=o.dst) zFw ao
  rw [St.put_same h3] at h4
  refine ah _ _ _ (ph h4 (λk=>?_) λ_=>id)
  constructor
  ·intro hk
   obtain ⟨y,O,I⟩:=vT.1 hk
   exact vT.2 ⟨y,((J y).1 O).2,I⟩
  ·intro hk
   obtain ⟨y,O,I⟩:=vT.1 hk
   exact vT.2 ⟨y,(J y).2 ⟨λhc=>(by rw [hc,hb] at I;cases I),O⟩,I⟩
theorem tg {l1 l2:List Ent} {en:Ent} (h:((l1++en::l2).map (·.i)).Nodup):∀ x∈l1,x.i≠en.i:=by
 intro x I hc
 rw [nW,oq] at h
 exact h.2.2 x.i (oU.2 ⟨x,I,rfl⟩) en.i (by simp) hc
/-- one promise -/
theorem zF0 (hc:Chk ops ord) {en:Ent} (hh:en.hard=false) (h:RI P sh ops ord K av w0 e0 N0 done (en::rest) nv pend listed a w e st) :
  ∃ b nv' e' st',RI P sh ops ord K av w0 e0 N0 (done++[en]) rest nv' ((en.i,b)::pend) listed a w e' st':=by
 obtain ⟨o,ho⟩:=hc.at_ done en rest h.ord
 have aj:=hc.nd
 rw [h.ord] at aj
 have O:∀ x∈pend,x.1≠en.i:=λx hx=>by
  obtain ⟨ex,h1,h2,_⟩:=h.pd x hx
  rw [<-h2];exact tg aj ex h1
 have hf:=h.f
 simp only [zNa,ho.op,hh] at hf
 -- what holds behind it, but for the step itself
 have fin:∀ (b:Option Nat) (nv':Pend) (e':Env) (st':St),nv'=(en.i,b)::nv->Rel av w0 e0 (zQu ops ((en.i,b)::pend)) (zRP ((en.i,b)::pend)) a w e' st'->(∀ k,b=some k->st.bx.length<=k/\k<st'.bx.length)->Stp [] [] o.dst st st' ->
   zO0 ops P st' o b->zNa P sh N0 ops rest nv' st' K->RI P sh ops ord K av w0 e0 N0 (done++[en]) rest nv' ((en.i,b)::pend) listed a w e' st':=λb nv' e' st' az hR hb I hK hF=>{
  ord:=by rw [h.ord];simp
  rel:=hR
  pb:=λk J=>by
   obtain ⟨y,hy,ab⟩:=vT.1 J
   rcases oH.1 hy with rfl | hy
   ·exact (hb k ab).2
   ·exact o5 (h.pb k (vT.2 ⟨y,hy,ab⟩)) I.bl
  pd:=λx hx=>by
   rcases oH.1 hx with rfl | hx
   ·exact ⟨en,by simp,rfl,hh⟩
   ·obtain ⟨ex,h1,h2⟩:=h.pd x hx;exact ⟨ex,by simp [h1],h2⟩
  nd:=nh.2 ⟨λhm=>O _ hm rfl,h.nd⟩
  un:=λx hx y hy ak=>by
   rcases oH.1 hx with rfl | hx<;>rcases oH.1 hy with rfl | hy
   ·rfl
   ·exact absurd ak.symm (O y hy)
   ·exact absurd ak (O x hx)
   ·exact h.un x hx y hy ak
  bu:=λx hx y hy k al ab=>by
   rcases oH.1 hx with rfl | hx<;>rcases oH.1 hy with rfl | hy
   ·rfl
   ·have:=(hb k al).1;have:=h.pb k (vT.2 ⟨y,hy,ab⟩);omega
   ·have:=(hb k ab).1;have:=h.pb k (vT.2 ⟨x,hx,al⟩);omega
   ·exact h.bu x hx y hy k al ab
  pr:=λx hx=>by
   rcases oH.1 hx with rfl | hx
   ·exact ⟨o,ho.op,hK⟩
   ·obtain ⟨ox,au,a6⟩:=h.pr x hx
    refine ⟨ox,au,ry a6 I (λ_ h=>h) (.inl zEx) λd hd=>?_⟩
    obtain ⟨ex,h1,h2,h3⟩:=h.pd x hx
    obtain ⟨m1,m2,hm⟩:=mQ h1
    obtain ⟨a7,aw⟩:=hc.at_ m1 ex (m2++en::rest) (by rw [h.ord,hm];simp)
    have:a7=ox:=by have:=aw.op;rw [h2,au] at this;exact (nB this).symm
    subst this
    have ax:=aw.af en (by simp) d (by simp [zAf,ho.op,hd])
    refine ⟨λhc=>?_,λhc=>?_⟩
    ·have:=(ax (.inl hc)).1;rw [hh] at this;cases this
    ·have:=(ax (.inr hc)).1;rw [hh] at this;cases this
  ls:=h.ls
  li:=λi hi=>by
   rw [h.li i hi]
   constructor
   ·rintro ⟨⟨x,h1,h2⟩,h3⟩
    refine ⟨⟨x,by simp [h1],h2⟩,λy hy=>?_⟩
    rcases oH.1 hy with rfl | hy
    ·simp only;rw [<-h2];exact (tg aj x h1).symm
    ·exact h3 y hy
   ·rintro ⟨⟨x,h1,h2⟩,h3⟩
    refine ⟨⟨x,?_,h2⟩,λy hy=>h3 y (by simp [hy])⟩
    rcases oG.1 h1 with h1 | h1
    ·exact h1
    ·simp at h1;subst h1;exact absurd h2 (h3 (x.i,b) (by simp))
  nvs:=λx hx=>by
   subst az
   rcases oH.1 hx with rfl | hx
   ·simp
   ·simp [h.nvs x hx]
  lc:=h.lc
  f:=hF }
 have ac:∀ b,zQu ops ((en.i,b)::pend)=o.dst.toList++zQu ops pend:=λb=>by
  simp only [zQu,nl,zAf,ho.op,mY]
  cases o.dst<;>rfl
 have am:=ho.se hh
 rcases zHo hf with ⟨hw,hf⟩ | ⟨hw,hf⟩
 ·split at hf
  rotate_left
  ·exact hf.elim
  rename_i hb
  simp only [oL] at hb
  obtain ⟨bc,a8⟩:=hb
  obtain ⟨r,hK,hr⟩:=zQK _ hf
  have hr:=hr (λq=>q=r) rfl
  have hR:=zR3 h.rel o.dst r
  have I:Stp [] [] o.dst st (st.push o.dst r):=zNM
  have ay:∀ y∈o.op.operands,∀ k∈(opd st.sl y).refs,k<st.bx.length:=λy hy k J=>by
   have:=oT.1 (oT.1 a8 y (ou.2 hy)) k J
   simpa using this
  have ai:∀ y∈o.op.operands,opd (st.push o.dst r).sl y=opd st.sl y:=λy hy=>by
   cases y with
   | tmp t=>
     have ah:o.dst≠some t:=λhc=>am t hc (vS hy rfl)
     simp only [opd]
     rw [oA,oA]
     cases hp:st.sl[t]? with
     | none=>
       have:(st.push o.dst r).sl[t]?=none:=oc (by rw [I.ll];exact nV.1 hp)
       rw [this]
     | some p=>rw [I.sl t p (λhc=>ah hc.symm) hp (by simp)]
   | _=>rfl
  have ao:zT1 ops o (st.push o.dst r):=λg ae hg=>by
   obtain ⟨og,d,h1,h2,h3⟩:=hw g ae hg
   exact ⟨og,d,h1,h2,I.sl d _ (λhc=>am d hc.symm (by simp [Oper.looksAt,hg,h1,h2])) h3 (by simp)⟩
  have ba:∀ k,k<st.bx.length->(st.push o.dst r).bx[k]?=st.bx[k]?:=λk J=>by
   rw [I.bx k _ (oF J) (by simp) (by simp),oF J]
  have aq:∀ d q,o.dst=some d->d<(st.push o.dst r).sl.length->zRU r (r.bk st.bx.length)=some q->(st.push o.dst r).sl[d]?=some q:=λd q hd aa hq=>by
   rw [I.ll] at aa
   cases r with
   | v p=>simp [Res.bk,zRU] at hq;subst hq;simp [St.push,St.put,hd,aa]
   | b B f=>simp [Res.bk,zRU] at hq;subst hq;simp [St.push,St.put,hd,aa]
  refine ⟨r.bk st.bx.length,(en.i,r.bk st.bx.length)::nv,(if r.isB then e++[none] else e),_,fin _ _ _ _ rfl ?_ ?_ I (.inl ⟨ao,?_,r,?_⟩) hK⟩
  ·rw [ac]
   refine ph hR (λk=>?_) λ_=>id
   cases r with
   | v p=>simp [Res.isB,Res.bk,zRP]
   | b B f=>simp [Res.isB,Res.bk,zRP]
  ·intro k J
   cases r with
   | v p=>cases J
   | b B f=>
     simp [Res.bk] at J;subst J
     refine ⟨oB _,?_⟩
     cases o.dst<;>simp [St.push,St.put]
  ·intro y hy k J
   rw [ai y hy] at J
   have:=ay y hy k J
   exact o5 this I.bl
  ·have hq:∃ q,zRU r (r.bk st.bx.length)=some q:=by cases r<;>simp [Res.bk,zRU]
   obtain ⟨q,hq⟩:=hq
   refine ⟨q,?_,hq,λd hd aa=>aq d q hd aa hq,λB f k bb J=>?_⟩
   ·rw [zFi (ρ:=opd st.sl) (rb:=λk=>st.bx[k]?) ai λy hy k J=>ba k (ay y hy k J)]
    exact hr
   ·subst bb
    simp [Res.bk] at J;subst J
    cases o.dst<;>simp [St.push,St.put]
 ·have I:Stp [] [] o.dst st (st.put o.dst (.tp [])):=Stp.put Stp.rfl' _
  refine ⟨none,(en.i,none)::nv,e,st.put o.dst (.tp []),fin _ _ _ _ rfl ?_ (λk J=>by cases J) I (.inr ⟨?_,rfl,λd hd aa=>?_⟩) hf⟩
  ·rw [ac]
   exact ph (zIO h.rel) (λk=>by simp [zRP]) λ_=>id
  ·obtain ⟨g,ae,og,d,g1,g2,g3,g4⟩:=hw
   have ah:some d≠o.dst:=λhc=>am d hc.symm (by simp [Oper.looksAt,g1,g2,g3])
   refine ⟨g,ae,og,d,g1,g2,g3,?_⟩
   rcases g4 with g4 | g4
   ·exact .inl (I.sl d _ ah g4 (by simp))
   ·exact .inr (I.sl d _ ah g4 (by simp))
  ·rw [I.ll] at aa
   simp [St.put,hd,aa]
theorem zFP (hc:Chk ops ord):∀ (pre rest done:List Ent) (nv pend:Pend) (e:Env) (st:St),(∀ en∈pre,en.hard=false)->RI P sh ops ord K av w0 e0 N0 done (pre++rest) nv pend listed a w e st ->
  ∃ nv' I e' st',RI P sh ops ord K av w0 e0 N0 (done++pre) rest nv' I listed a w e' st'/\I.length=pend.length+pre.length
 | [],rest,done,nv,pend,e,st,_,h=>⟨nv,pend,e,st,by simpa using h,rfl⟩
 | en::pre,rest,done,nv,pend,e,st,hh,h=>by
   obtain ⟨b,J,e1,O,h1⟩:=zF0 hc (hh en (by simp)) h
   obtain ⟨nv',I,e',st',h2,h3⟩:=zFP hc pre rest (done++[en]) J _ e1 O (λx hx=>hh x (by simp [hx])) h1
   exact ⟨nv',I,e',st',by simpa using h2,by rw [h3];simp;omega⟩
theorem zP4 (bh:NOk N0 w0) (hc:Chk ops ord) {Q:Exit->Act->World->Prop} (hQ:∀ a w e st,K st->Rel av w0 e0 [] [] a w e st->Q .normal a w) :
  ∀ (fuel:Nat) (done rest:List Ent) (nv pend:Pend) (listed:Array Bool) (a:Act) (w:World) (e:Env) (st:St),RI P sh ops ord K av w0 e0 N0 done rest nv pend listed a w e st->fuel=rest.length+pend.length ->
    wpAny P .any ops Q fuel listed a w:=by
 -- nothing is left where nothing is ready
 have fin:∀ (done rest:List Ent) (nv pend:Pend) (listed:Array Bool) (a:Act) (w:World) (e:Env) (st:St),RI P sh ops ord K av w0 e0 N0 done rest nv pend listed a w e st->rest=[]->pend=[]->Q .normal a w:=by
  intro done rest nv pend listed a w e st h hr hp
  subst hr;subst hp
  exact hQ a w e st h.f h.rel
 have prog:∀ (done rest:List Ent) (nv pend:Pend) (listed:Array Bool) (a:Act) (w:World) (e:Env) (st:St),RI P sh ops ord K av w0 e0 N0 done rest nv pend listed a w e st->Region.ready .any ops listed=[]->rest=[]/\pend=[]:=by
  intro done rest nv pend listed a w e st h hr
  have key:∀ (l1 l2:List Ent),ord=l1++l2->∀ en∈l1,listed.getD en.i false=true:=by
   intro l1
   -- from the left
   suffices ∀ n,∀ l1 l2:List Ent,l1.length=n->ord=l1++l2->∀ en∈l1,listed.getD en.i false=true from λl2=>this l1.length l1 l2 rfl
   intro n
   induction n with
   | zero=>intro l1 l2 hl _ en O;simp at hl;subst hl;simp at O
   | succ n ih=>
     intro l1 l2 hl ho en O
     rcases ml l1 with rfl | ⟨m,x,rfl⟩
     ·simp at hl
     ·rw [List.concat_eq_append] at hl ho O
      simp only [oE,oJ,oM] at hl
      have hm:=ih m (x::l2) (by omega) (by rw [ho];simp)
      rcases oG.1 O with h1 | h1
      ·exact hm en h1
      ·simp at h1
       subst h1
       obtain ⟨o,hs⟩:=hc.at_ m en l2 (by rw [ho];simp)
       cases al:listed.getD en.i false with
       | true=>rfl
       | false=>
         exfalso
         have aa:=(oV.1 hs.op).1
         have:en.i∈Region.ready .any ops listed:=mem_ready.2 ⟨by
          rw [nF] at al ⊢
          rw [oi (by rw [h.ls];exact aa)] at al ⊢
          exact al,o,hs.op,λe he hb=>by
          obtain ⟨b,bi,bj⟩:=hs.ed e he hb
          rw [<-bj];exact hm b bi⟩
         rw [hr] at this
         simp at this
  have ay:=key ord [] (by simp)
  have az:∀ en∈ord,(∃ x∈done,x.i=en.i)/\∀ x∈pend,x.1≠en.i:=λen O=>(h.li en.i (zTP hc h O)).1 (ay en O)
  constructor
  ·cases am:rest with
   | nil=>rfl
   | cons en l=>
     exfalso
     have ho:=h.ord
     rw [am] at ho
     obtain ⟨⟨x,J,bm⟩,_⟩:=az en (by rw [ho];simp)
     have aj:=hc.nd
     rw [ho] at aj
     exact tg aj x J bm
  ·cases ah:pend with
   | nil=>rfl
   | cons x l=>
     exfalso
     obtain ⟨en,h1,h2,_⟩:=h.pd x (by rw [ah];simp)
     exact (az en (by rw [h.ord];simp [h1])).2 x (by rw [ah];simp) h2.symm
 intro fuel
 induction fuel with
 | zero=>
   intro done rest nv pend listed a w e st h hf
   have h1:rest=[]:=oO (by omega)
   have h2:pend=[]:=oO (by omega)
   refine ⟨?_,fin _ _ _ _ _ _ _ _ _ h h1 h2⟩
   subst h1;subst h2
   cases hr:Region.ready .any ops listed with
   | nil=>rfl
   | cons j l=>
     exfalso
     have hj:j∈Region.ready .any ops listed:=by rw [hr];simp
     obtain ⟨g1,o,g2,_⟩:=mem_ready.1 hj
     have aa:=(oV.1 g2).1
     obtain ⟨b,hb,bn⟩:=hc.all j aa
     have ho:=h.ord
     rw [o6] at ho
     have:=(h.li j aa).2 ⟨⟨b,by rw [<-ho];exact hb,bn⟩,by simp⟩
     rw [nF] at this g1
     rw [oi (by rw [h.ls];exact aa)] at this g1
     simp only [o7] at this g1
     rw [this] at g1;cases g1
 | succ fuel ih=>
   intro done rest nv pend listed a w e st h hf
   refine ⟨λhr=>by obtain ⟨h1,h2⟩:=prog _ _ _ _ _ _ _ _ _ h hr;exact fin _ _ _ _ _ _ _ _ _ h h1 h2,λj hj=>?_⟩
   by_cases a6:∃ x∈pend,x.1=j
   ·obtain ⟨x,J,rfl⟩:=a6
    refine zKh hc h J hj λa' w' e' I=>ih _ _ _ _ _ _ _ _ _ I ?_
    have:=List.length_erase_of_mem J
    have:=List.length_pos_of_mem J
    omega
   ·have bp:∀ x∈pend,x.1≠j:=λx J hc=>a6 ⟨x,J,hc⟩
    obtain ⟨g1,oj,g2,g3⟩:=mem_ready.1 hj
    have aa:=(oV.1 g2).1
    obtain ⟨en,O,hi⟩:=hc.all j aa
    have bq:listed.getD j false=false:=by
     rw [nF] at g1 ⊢
     rw [oi (by rw [h.ls];exact aa)] at g1 ⊢
     exact g1
    have aj:∀ x∈done,x.i≠j:=λx J bt=>by
     have:=(h.li j aa).2 ⟨⟨x,J,bt⟩,bp⟩
     rw [bq] at this;cases this
    have bv:en∈rest:=by
     rw [h.ord] at O
     rcases oG.1 O with h1 | h1
     ·exact absurd hi (aj en h1)
     ·exact h1
    obtain ⟨pre,post,ai⟩:=mQ bv
    obtain ⟨o,hs⟩:=hc.at_ (done++pre) en post (by rw [h.ord,ai];simp)
    -- nothing ahead of it is hard
    have a7:∀ b∈pre,b.hard=false:=by
     intro b hb
     cases bw:b.hard with
     | false=>rfl
     | true=>
       exfalso
       have a8:=hs.hd
       rw [List.reverse_append] at a8
       obtain ⟨x,J,ao⟩:=zCG pre.reverse done.reverse a8 ⟨b,ms.2 hb,bw⟩
       have bz:=zDh (by rw [hi];exact hj) ao
       have b1:x∈ord:=by rw [h.ord,ai];simp [ms.1 J]
       obtain ⟨⟨y,hy,b2⟩,_⟩:=(h.li x.i (zTP hc h b1)).1 bz
       have ab:=hc.nd
       obtain ⟨q1,q2,hq⟩:=mQ (ms.1 J)
       have ho:ord=(done++q1)++x::(q2++en::post):=by rw [h.ord,ai,hq];simp
       rw [ho] at ab
       exact tg ab y (by simp [hy]) b2
    rw [ai] at h
    obtain ⟨nv',ac,e',st',I,hlen⟩:=zFP hc pre (en::post) done nv pend e st a7 h
    have b8:rest.length=pre.length+(post.length+1):=by rw [ai];simp
    cases hh:en.hard with
    | false=>
      obtain ⟨b,b9,e2,st2,h2⟩:=zF0 hc hh I
      have b3:(en.i,b).1∈Region.ready .any ops listed:=by rw [<-hi] at hj;exact hj
      rw [<-hi]
      refine zKh hc h2 (x:=(en.i,b)) (by simp) b3 λa' w' e' h3=>ih _ _ _ _ _ _ _ _ _ h3 ?_
      rw [List.length_erase_of_mem (by simp)]
      simp only [oJ]
      omega
    | true=>
      have ak:∀ x∈ac,x.1≠en.i:=λx J ao=>by
       obtain ⟨ex,k1,k2,_⟩:=I.pd x J
       have ab:=hc.nd
       rw [I.ord] at ab
       exact tg ab ex k1 (by rw [k2,ao])
      have aq:=zGK hc I I.ord hs (by rw [hi];exact hj) (λ_=>ak)
      have ba:=I.f
      simp only [zNa,hs.op,hh] at ba
      rw [<-hi]
      -- the pending are not bound to come ahead of it
      have au:∀ x∈ac,x∈zIm ops en.i nv':=λx J=>by
       have bb:=I.nvs x J
       unfold zIm
       split
       ·simp at bb
       ·refine nx.2 ⟨bb,?_⟩
        cases b4:(zTL ops 1000 (zGi ops en.i) []).contains x.1 with
        | false=>rfl
        | true=>
          have hm:x.1∈zTL ops 1000 (zGi ops en.i) []:=by simpa using b4
          exact absurd (zJc (A:=λk=>listed.getD k false=true) I.lc 1000 _ [] (zF6 (by rw [hi];exact hj)) (by simp) x.1 hm) (rn hc I J)
      refine zLI I.rel bh I.pb (pf:=zIm ops en.i nv') (λt ht=>by
       obtain ⟨x,J,hd⟩:=zNQ.1 ht
       exact ⟨x,au x J,hd⟩) (λk hk=>by
       obtain ⟨x,J,hd⟩:=vT.1 hk
       exact ⟨x,au x J,hd⟩) hs.op aq ba λv w' e2 st2 k1 k0 k2 k3=>?_
      refine ih (done++pre++[en]) post nv' ac _ _ _ e2 st2 {
       ord:=by rw [I.ord];simp
       rel:=k3
       pb:=λk hk=>o5 (I.pb k hk) k0
       pd:=λx J=>by obtain ⟨ex,m1,m2⟩:=I.pd x J;exact ⟨ex,by simp at m1 ⊢;rcases m1 with m1 | m1<;>simp [m1],m2⟩
       nd:=I.nd
       un:=I.un
       bu:=I.bu
       pr:=λx J=>by
        obtain ⟨ox,aw,b5⟩:=I.pr x J
        refine ⟨ox,aw,k2 x (au x J) ox aw b5 λd hd=>?_⟩
        obtain ⟨ex,m1,m2,m3⟩:=I.pd x J
        obtain ⟨q1,q2,hq⟩:=mQ m1
        obtain ⟨ax,bc⟩:=hc.at_ q1 ex (q2++en::post) (by rw [I.ord,hq];simp)
        have:ax=ox:=by have:=bc.op;rw [m2,aw] at this;exact (nB this).symm
        subst this
        have b6:=bc.af en (by simp) d (by simp [zAf,hs.op,hd])
        have bd:∀ ae:(d∈ax.looksAt ops\/ax.dst=some d),False:=λae=>by
         have he:=(b6 ae).2
         rw [m2] at he
         exact rn hc I J (zDh (by rw [hi];exact hj) he)
        exact ⟨λae=>bd (.inl ae),λae=>bd (.inr ae)⟩
       ls:=by simp [I.ls]
       li := λi bg=>by
        have b7:en.i<listed.size:=by rw [I.ls,hi];exact aa
        rw [zJ3 (d:=false) b7 i]
        constructor
        ·rintro (rfl | m1)
         ·exact ⟨⟨en,by simp,rfl⟩,ak⟩
         ·obtain ⟨⟨x,m2,m3⟩,m4⟩:=(I.li i bg).1 m1
          exact ⟨⟨x,by simp at m2 ⊢;rcases m2 with m2 | m2<;>simp [m2],m3⟩,m4⟩
        ·rintro ⟨⟨x,m1,m2⟩,m3⟩
         rcases oG.1 m1 with m1 | m1
         ·exact .inr ((I.li i bg).2 ⟨⟨x,m1,m2⟩,m3⟩)
         ·simp at m1;subst m1;exact .inl m2.symm
       nvs:=I.nvs
       lc:=zPw (by rw [hi];exact hj) I.lc
       f:=k1 } ?_
      omega
end
theorem zOo {N0:Option Nat} (J:NOk N0 w0) {sh:FuncId->List Sh} {id:Nat} {ops:Array Oper} {ord:List Ent} {K:St->Prop} {Q:Exit->Act->World->Prop} (I:P.follows .mixedOrders=true) (hc:chk ops ord=true)
  (h:Rel av w0 e0 [] [] a w e st) (hs:zNa P sh N0 ops ord [] st K) (hQ:∀ a w e st,K st->Rel av w0 e0 [] [] a w e st->Q .normal a w):(Code.region id ops true).wp P Q a w:=by
 have O:=zSD hc
 refine wp_region_any I ?_
 have h2:Rel av w0 e0 [] [] a { w with drawn:=w.drawn+1 } e st:=zTW (zMw h (w':={ w with drawn:=w.drawn+1 }) (oB _) (λ_ _=>rfl) λb c t z hb hc=>by have:=(oV.1 hc).1;simp at this;omega) h.hN
 refine zP4 J O hQ ops.size [] ord [] [] _ a _ e st {
  ord:=rfl
  rel:=h2
  pb:=by simp [zRP]
  pd:=by simp
  nd:=mK
  un:=by simp
  bu:=by simp
  pr:=by simp
  ls:=by simp
  li:=λi hi=>by simp [hi]
  nvs:=by simp
  lc:=λm I=>by
   exfalso
   rw [nF,Array.getElem?_replicate] at I
   split at I<;>simp at I
  f:=hs } (by simp [O.len])
variable {av:Nat->Prop} {P:Program} {w0 w w':World} {e0 e:Env} {pS pS' pB pB':List Nat} {a:Act} {st st':St}
/-- a slot is told anew -/
def zVM (w:World) (e:Env) (live:Nat->Prop) (p q:PV):Prop:=q=.any\/(p≠.any/\p.val e=q.val e/\(p.Ok w live->q.Ok w live)/\∀ k∈q.refs,k∈p.refs)
theorem zPM (h:Rel av w0 e0 pS pB a w e st) {O:List PV} (hl:O.length<=st.sl.length)
  (hs:∀ (i:Nat) (q:PV),O[i]?=some q->q=.any\/∃ p,st.sl[i]?=some p/\zVM w e (zW av pB e st.bx) p q):Rel av w0 e0 pS pB a w e { st with sl:=O }:={
 h with
 nd:=h.nd
 sz:=oZ hl h.sz
 hs:=λi q hi hn=>by
  rcases hs i q hi with I | ⟨p,I,J | ⟨J,h3,h4,h5⟩⟩
  ·exact .inl I
  ·exact .inl J
  ·exact .inr (((h.hs i p I hn).resolve_left J).trans h3)
 so:=λi q hi hn=>by
  rcases hs i q hi with I | ⟨p,I,J | ⟨J,h3,h4,h5⟩⟩
  ·subst I;trivial
  ·subst J;trivial
  ·exact h4 (h.so i p I hn)
 sr:=λi q hi hn k hk=>by
  rcases hs i q hi with I | ⟨p,I,J | ⟨J,h3,h4,h5⟩⟩
  ·subst I;simp [PV.refs] at hk
  ·subst J;simp [PV.refs] at hk
  ·exact h.sr i p I hn k (h5 k hk) }
def zKj (p:PV):PV:=match p with
 | .pg cs=>match zJJ cs with
   | some ds=>.dg cs.length (.ag ds)
   | none=>.pg cs
 | p=>p
theorem zDJ {live:Nat->Prop} {p:PV} (I:p.Ok w live):zVM w e live p (zKj p):=by
 have same:∀ p:PV,zVM w e live p p:=λp=>by
  by_cases O:p=.any
  ·exact .inl O
  ·exact .inr ⟨O,rfl,id,λ_=>id⟩
 cases p
 case pg cs=>
  simp only [zKj]
  split
  ·rename_i ds J
   simp only [PV.Ok] at I
   have h1:=rK (e:=e) J I.1
   exact .inr ⟨by simp,by rw [show (PV.pg cs).val e=(PV.pg cs).val1 e from rfl];exact ((zPf J I.1 (e:=e)).symm.trans rfl),λ_=>⟨Good.ag λd hd=>(h1.1 d hd).1,ds,rfl,tf J,λd hd=>(h1.1 d hd).2⟩,by simp [PV.refs]⟩
  ·exact same _
 all_goals exact same _
/-- the slots that are kept -/
def zKf (ks:List Nat):Nat->List PV->List PV
 | _,[]=>[]
 | i,p::ps=>(match ks.contains i with
   | true=>zKj p
   | false=>.any)::zKf ks (i+1) ps
theorem zDo {ks:List Nat}:∀ (l:List PV) (i:Nat),(zKf ks i l).length=l.length
 | [],i=>rfl
 | p::l,i=>by simp [zKf,zDo l]
theorem zKJ {ks:List Nat}:∀ (l:List PV) (i j:Nat) (q:PV),(zKf ks i l)[j]?=some q->∃ p,l[j]?=some p/\(q=.any\/q=zKj p)
 | [],i,j,q,h=>by simp [zKf] at h
 | p :: l,i,j,q,h=>by
   cases j with
   | zero=>
     simp only [zKf,mb,o4] at h
     refine ⟨p,rfl,?_⟩
     split at h
     ·exact .inr h.symm
     ·exact .inl h.symm
   | succ j=>simp only [zKf,nA] at h ⊢;exact zKJ l (i+1) j q h
def St.keep (st:St) (ks:List Nat):St:={ st with sl:=zKf ks 0 st.sl }
theorem zPW (h:Rel av w0 e0 [] pB a w e st) (ks:List Nat):Rel av w0 e0 [] pB a w e (st.keep ks):=
 zPM h (by rw [zDo];exact oB _) λi q hi=>by
  obtain ⟨p,I,h2 | h2⟩:=zKJ _ _ _ _ hi
  ·exact .inl h2
  ·subst h2;exact .inr ⟨p,I,zDJ (h.so i p I (by simp))⟩
/-- slots whose nil slice becomes a row -/
def St.nils (st:St):List (Nat × TypeId × Nat)->St
 | []=>st
 | (t,ty,z)::l=>match st.sl[t]? with
   | some (.sv none _ [] 0)=>St.nils { st with sl:=st.sl.set t (.sb st.bx.length z 0 0 0),bx:=st.bx++[.arr ty z [] 0] } l
   | _=>St.nils st l
theorem zJY:∀ (l:List (Nat × TypeId × Nat)) (e:Env) (st:St),Rel av w0 e0 [] [] a w e st->∃ e',Rel av w0 e0 [] [] a w e' (st.nils l)
 | [],e,st,h=>⟨e,h⟩
 | (t, ty,z)::l,e,st,h=>by
   simp only [St.nils]
   split
   ·rename_i zz ht
    have I:=zAJ h (el:=ty) (z:=z) (by simp)
    have O:Env.at (e++[none]) st.bx.length=none:=by rw [<-h.el];exact Env.at_append_eq
    have h2:Rel av w0 e0 [] [] a w (e++[none]) { st with sl:=st.sl.set t (.sb st.bx.length z 0 0 0),bx:=st.bx++[.arr ty z [] 0] }:={
     I with
     nd:=I.nd
     sz:=by simp;exact I.sz
     hs := λi q hi J=>by
      simp only [nZ] at hi
      split at hi
      ·rename_i aa
       subst aa
       split at hi
       ·simp at hi;subst hi
        have:=(I.hs t _ ht (by simp)).resolve_left (by simp)
        right
        rw [this]
        simp [PV.val,PV.val1,PV.cv,O]
       ·cases hi
      ·exact I.hs i q hi J
     so:=λi q hi J=>by
      simp only [nZ] at hi
      split at hi
      ·split at hi
       ·simp at hi;subst hi;trivial
       ·cases hi
      ·exact I.so i q hi J
     sr:=λi q hi J k hk=>by
      simp only [nZ] at hi
      split at hi
      ·split at hi
       ·simp at hi;subst hi;simp [PV.refs] at hk;subst hk;simp
       ·cases hi
      ·exact I.sr i q hi J k hk }
    exact zJY l _ _ h2
   ·exact zJY l e st h
/-- a box told anew, with nothing written -/
theorem zPo (h:Rel av w0 e0 [] [] a w e st) {k:Nat} {cs cs':List PV} (hk:st.bx[k]?=some (.var cs)) (hl:cs'.length=cs.length)
  (hc:∀ (i:Nat) (p:PV),cs'[i]?=some p->cs[i]?=some p\/∃ q,cs[i]?=some q/\q≠.any/\p.cv e=q.cv e/\(∀ live,p.Ok w live)/\p.isC/\∀ r∈p.refs,r<st.bx.length) :
  Rel av w0 e0 [] [] a w e { st with bx:=st.bx.set k (.var cs') }:=by
 have hkl:=(oD.1 hk).1
 have hget:∀ (j:Nat) (B:Bx),(st.bx.set k (.var cs'))[j]?=some B->(j=k/\B=.var cs')\/(j≠k/\st.bx[j]?=some B):=fun j B hj=>by
  rw [nZ] at hj
  split at hj
  ·rename_i hkj
   first
    | (cases hj;exact .inl ⟨hkj.symm,rfl⟩)
    | (split at hj
       ·cases hj;exact .inl ⟨hkj.symm,rfl⟩
       ·cases hj)
  ·rename_i hkj;exact .inr ⟨fun hc=>hkj hc.symm,hj⟩
 have hlv:∀ j b,Lives [] e (st.bx.set k (.var cs')) j b↔Lives [] e st.bx j b:=fun j b=>by
  constructor
  ·rintro ⟨h1,h2,B,h3,h4⟩
   rcases hget j B h3 with ⟨rfl,rfl⟩ | ⟨h5,h6⟩
   ·exact ⟨h1,h2,_,hk,by simp⟩
   ·exact ⟨h1,h2,B,h6,h4⟩
  ·rintro ⟨h1,h2,B,h3,h4⟩
   by_cases hjk:j=k
   ·subst hjk;exact ⟨h1,h2,.var cs',by rw [lD hkl],by simp⟩
   ·exact ⟨h1,h2,B,by rw [nY (Ne.symm hjk)];exact h3,h4⟩
 have hlive:∀ b,zW av [] e (st.bx.set k (.var cs')) b->zW av [] e st.bx b:=fun b hb=>hb.imp id fun ⟨j,hj⟩=>⟨j,(hlv j b).1 hj⟩
 have hok:=h.bo k _ hk (by simp)
 obtain ⟨ho1,ho2⟩:=hok
 rw [PV.OkL_iff] at ho1
 exact { h with
  el:=by simp;exact h.el
  br := fun j B hj hn=>by
   rcases hget j B hj with ⟨rfl,rfl⟩ | ⟨_,h6⟩
   ·obtain ⟨b,c,t,g1,g2,g3,g4⟩:=h.br _ _ hk (by simp)
    refine ⟨b,c,t,g1,g2,by rw [g3,hl],fun i p hp=>?_⟩
    rcases hc i p hp with h7 | ⟨q,h7,h8,h9,_⟩
    ·exact g4 i p h7
    ·rcases g4 i q h7 with h10 | h10
     ·exact absurd h10 h8
     ·exact .inr (by rw [h9];exact h10)
   ·exact h.br j B h6 hn
  bo := fun j B hj hn=>by
   rcases hget j B hj with ⟨rfl,rfl⟩ | ⟨_,h6⟩
   ·refine ⟨PV.OkL_iff.2 fun p hp=>?_,fun p hp=>?_⟩
    ·obtain ⟨i,hi⟩:=oQ.1 hp
     rcases hc i p hi with h7 | ⟨q,_,_,_,h9,_⟩
     ·exact PV.Ok.mono (fun _ _ _=>rfl) (oB _) (fun b _=>hlive b) p (ho1 p (oC h7))
     ·exact h9 _
    ·obtain ⟨i,hi⟩:=oQ.1 hp
     rcases hc i p hi with h7 | ⟨q,_,_,_,_,h9,_⟩
     ·exact ho2 p (oC h7)
     ·exact .inr h9
   ·exact (h.bo j B h6 hn).mono (fun _ _ _=>rfl) (oB _) fun b _=>hlive b
  bf:=fun j B hj hn i hi=>by
   refine ⟨by simp,?_⟩
   rw [nw]
   rcases hget j B hj with ⟨rfl,rfl⟩ | ⟨_,h6⟩
   ·simp only [Bx.refs] at hi
    obtain ⟨p,hp,hip⟩:=PV.refsL_mem.1 hi
    obtain ⟨n,hn⟩:=oQ.1 hp
    rcases hc n p hn with h7 | ⟨q,_,_,_,_,_,h9⟩
    ·exact (h.bf _ _ hk (by simp) i (by simp only [Bx.refs];exact PV.refsL_mem.2 ⟨p,oC h7,hip⟩)).2
    ·exact h9 i hip
   ·exact (h.bf j B h6 hn i hi).2
  inj:=fun i j b hi hj=>h.inj i j b ((hlv i b).1 hi) ((hlv j b).1 hj)
  so:=fun i p hp hn=>PV.Ok.mono (fun _ _ _=>rfl) (oB _) (fun b _=>hlive b) p (h.so i p hp hn)
  sr:=fun i p hp hn r hr=>by rw [nw];exact h.sr i p hp hn r hr
  own:=fun j b hj=>h.own j b ((hlv j b).1 hj)
  avn:=fun j b hj=>h.avn j b ((hlv j b).1 hj) }
/-- cells of a variable's box whose nil slice becomes a row: the variable's slot, the cell, the element's type and kind -/
def St.bnils (st:St):List (Nat × Nat × TypeId × Nat)->St
 | []=>st
 | (t, j,ty,z)::l=>match st.sl[t]? with
   | some (.pb k _ _ _)=>match st.bx[k]? with
     | some (.var cs)=>match cs[j]? with
       | some (.sv none _ [] 0)=>St.bnils { st with bx:=List.set (st.bx++[Bx.arr ty z [] 0]) k (Bx.var (cs.set j (PV.sb st.bx.length z 0 0 0))) } l
       | _=>St.bnils st l
     | _=>St.bnils st l
   | _=>St.bnils st l
theorem p9:∀ (l:List (Nat × Nat × TypeId × Nat)) (e:Env) (st:St),Rel av w0 e0 [] [] a w e st->∃ e',Rel av w0 e0 [] [] a w e' (st.bnils l)
 | [],e,st,h=>⟨e,h⟩
 | (t, j,ty,z)::l,e,st,h=>by
   simp only [St.bnils]
   split
   ·split
    ·split
     ·rename_i k _ _ _ _ _ cs hk _ zz hj
      have h1:=zAJ h (el:=ty) (z:=z) (by simp)
      have J:Env.at (e++[none]) st.bx.length=none:=by rw [<-h.el];exact Env.at_append_eq
      have O:=(oD.1 hk).1
      have aa:(st.bx++[Bx.arr ty z [] 0])[k]?=some (.var cs):=by rw [oN O];exact hk
      exact p9 l _ _ (zPo h1 aa (cs':=cs.set j (.sb st.bx.length z 0 0 0)) (by simp) λi p I=>by
       rw [nZ] at I
       split at I
       ·rename_i ab
        subst ab
        split at I
        ·cases I
         exact .inr ⟨_,hj,by simp,by simp [PV.cv,J],λ_=>trivial,trivial,λr hr=>by simp [PV.refs] at hr;subst hr;simp⟩
        ·cases I
       ·exact .inl I)
     ·exact p9 l e st h
    ·exact p9 l e st h
   ·exact p9 l e st h
def St.sel (st:St) (ks:List Nat):St:={ st with sl:=st.sl.map (zQr ks),bx:=ks.map λk=>(st.bx.getD k .gone).ren ks }
theorem zPh (h:Rel av w0 e0 [] [] a w e st) {ks:List Nat} (hn:ks.Nodup) (aq:∃ l,ks=List.range st.pins.length++l):Rel av w0 e0 [] [] a w (rZ e ks) (st.sel ks):=by
 have aj:∀ j,j<st.pins.length->ks[j]?=some j:=λj J=>by
  obtain ⟨l,rfl⟩:=aq
  rw [oN (by simpa using J)]
  simp [J]
 have am:∀ j k,ks[j]?=some k->k<st.pins.length->j=k:=λj k J hk=>by
  have h1:=aj k hk
  obtain ⟨a1,a2⟩:=oD.1 h1
  obtain ⟨b1,b2⟩:=oD.1 J
  exact (List.getElem_inj hn).1 (b2.trans a2.symm)
 have ab:∀ (j:Nat) (B':Bx),(ks.map λk=>(st.bx.getD k .gone).ren ks)[j]?=some B'->∃ k,ks[j]?=some k/\B'=(st.bx.getD k .gone).ren ks/\(rZ e ks).at j=e.at k:=λj B' J=>by
  rw [oI] at J
  cases hk:ks[j]? with
  | none=>simp [hk] at J
  | some k=>simp [hk] at J;exact ⟨k,rfl,by simp [J],by simp [rZ,Env.at,oA,hk]⟩
 have au:∀ k,(st.bx.getD k .gone).ren ks≠.gone->∃ B,st.bx[k]?=some B/\B≠.gone/\(st.bx.getD k .gone)=B:=λk hk=>by
  rw [oA] at hk ⊢
  cases hB:st.bx[k]? with
  | none=>rw [hB] at hk;exact absurd rfl hk
  | some B=>
    rw [hB] at hk
    refine ⟨B,rfl,λhc=>hk ?_,rfl⟩
    simp only [o7];rw [hc];rfl
 have I:∀ j b,Lives [] (rZ e ks) (ks.map λk=>(st.bx.getD k .gone).ren ks) j b->∃ k,ks[j]?=some k/\Lives [] e st.bx k b:=λj b ⟨_,O,B',h3,h4⟩=>by
  obtain ⟨k,h5,rfl,h6⟩:=ab j B' h3
  obtain ⟨B,h7,h8,_⟩:=au k h4
  exact ⟨k,h5,by simp,by rw [<-h6];exact O,B,h7,h8⟩
 have ac:∀ b,zW av [] (rZ e ks) (ks.map λk=>(st.bx.getD k .gone).ren ks) b->zW av [] e st.bx b:=λb hb=>hb.imp id λ⟨j,J⟩=>by
  obtain ⟨k,_,O⟩:=I j b J;exact ⟨k,O⟩
 have ak:∀ p:PV,p.Ok w (zW av [] e st.bx)->p.Ok w (zW av [] (rZ e ks) (ks.map λk=>(st.bx.getD k .gone).ren ks)):=λp=>PV.Ok.mono (λ_ _ _=>rfl) (oB _) (λb _=>ac b) p
 have aa:∀ (i:Nat) (q:PV),(st.sl.map (zQr ks))[i]?=some q->q=.any\/∃ p,st.sl[i]?=some p/\PV.ren ks p=some q:=λi q hi=>by
  rw [oI] at hi
  cases hp:st.sl[i]? with
  | none=>simp [hp] at hi
  | some p=>
    simp [hp,zQr] at hi
    split at hi
    ·rename_i q' hq;subst hi;exact .inr ⟨p,rfl,hq⟩
    ·exact .inl hi.symm
 exact {
  el:=by simp [rZ,St.sel]
  br := λj B' J _=>by
   obtain ⟨k,h1,rfl,O⟩:=ab j B' J
   rw [O]
   rw [oA]
   cases hB:st.bx[k]? with
   | none=>exact True.intro
   | some B=>
     have h3:=h.br k B hB (by simp)
     simp only [o7]
     cases B with
     | var cs=>
       obtain ⟨b,c,t,g1,g2,g3,g4⟩:=h3
       refine ⟨b,c,t,g1,g2,by simpa using g3,λi p hp=>?_⟩
       rw [oI] at hp
       cases al:cs[i]? with
       | none=>simp [al] at hp
       | some q=>
         simp [al,zQr] at hp
         split at hp
         ·rename_i q' hq
          subst hp
          have h5:=wz (e:=e) hq
          rcases g4 i q al with g5 | g5
          ·exact .inl (h5.an.1 g5)
          ·exact .inr (by rw [<-h5.cv];exact g5)
         ·exact .inl hp.symm
     | _=>exact h3
  bo := λj B' J _=>by
   obtain ⟨k,h1,rfl,O⟩:=ab j B' J
   rw [oA]
   cases hB:st.bx[k]? with
   | none=>exact True.intro
   | some B=>
     have h3:=(h.bo k B hB (by simp)).mono (w':=w) (live':=zW av [] (rZ e ks) (ks.map λk=>(st.bx.getD k .gone).ren ks)) (λ_ _ _=>rfl) (oB _) λb _=>ac b
     simp only [o7]
     cases B with
     | var cs=>
       obtain ⟨g1,g2⟩:=h3
       rw [PV.OkL_iff] at g1
       refine ⟨PV.OkL_iff.2 λp hp=>?_,λp hp=>?_⟩
       ·obtain ⟨q,hq,rfl⟩:=oU.1 hp
        unfold zQr
        split
        ·rename_i q' ae;exact (wz (e:=e) ae).ok _ _ (g1 q hq)
        ·trivial
       ·obtain ⟨q,hq,rfl⟩:=oU.1 hp
        unfold zQr
        split
        ·rename_i q' ae
         have h5:=wz (e:=e) ae
         rcases g2 q hq with g3 | g3
         ·exact .inl (h5.an.1 g3)
         ·exact .inr (h5.ic g3)
        ·exact .inl rfl
     | _=>exact h3
  bf := λj B' J _ i hi=>by
   refine ⟨by simp,?_⟩
   obtain ⟨k,h1,rfl,O⟩:=ab j B' J
   simp only [St.sel,nO]
   rw [oA] at hi
   cases hB:st.bx[k]? with
   | none=>rw [hB] at hi;simp [Bx.ren,Bx.refs] at hi
   | some B=>
     rw [hB] at hi
     simp only [o7] at hi
     cases B with
     | var cs=>
       simp only [Bx.ren,Bx.refs] at hi
       obtain ⟨p,hp,ah⟩:=PV.refsL_mem.1 hi
       obtain ⟨q,hq,rfl⟩:=oU.1 hp
       unfold zQr at ah
       split at ah
       ·rename_i q' ae;exact (wz (e:=e) ae).rf i ah
       ·simp [PV.refs] at ah
     | _=>simp [Bx.ren,Bx.refs] at hi
  inj:=λi j b hi J=>by
   obtain ⟨k,h1,O⟩:=I i b hi
   obtain ⟨l,h3,h4⟩:=I j b J
   have aw:=h.inj k l b O h4
   subst aw
   have ax:=(oD.1 h1)
   have ay:=(oD.1 h3)
   obtain ⟨a7,az⟩:=ax
   obtain ⟨a8,a6⟩:=ay
   exact (List.getElem_inj hn).1 (az.trans a6.symm)
  ku:=h.ku
  size:=h.size
  old:=h.old
  fz:=h.fz
  nd:=h.nd
  sz:=by simp [St.sel];exact h.sz
  hN:=h.hN
  hs:=λi q hi ai=>by
   rcases aa i q hi with h1 | ⟨p,h1,O⟩
   ·exact .inl h1
   ·rcases h.hs i p h1 ai with h3 | h3
    ·exact .inl ((wz (e:=e) O).an.1 h3)
    ·exact .inr (h3.trans (zQD O))
  so:=λi q hi ai=>by
   rcases aa i q hi with h1 | ⟨p,h1,O⟩
   ·subst h1;trivial
   ·exact (wz (e:=e) O).ok _ _ (ak p (h.so i p h1 ai))
  sr:=λi q hi ai k hk=>by
   rcases aa i q hi with h1 | ⟨p,h1,O⟩
   ·subst h1;simp [PV.refs] at hk
   ·exact ⟨by simp,by simp only [St.sel,nO];exact (wz (e:=e) O).rf k hk⟩
  own:=λj b J=>by
   obtain ⟨k,h1,O⟩:=I j b J
   rcases h.own k b O with h3 | ⟨h3,h4⟩
   ·exact .inl h3
   ·exact .inr ⟨h3,by rw [am j k h1 h4];exact h4⟩
  avl:=h.avl
  avn:=λj b J=>by obtain ⟨k,_,O⟩:=I j b J;exact h.avn k b O
  pin:=λk b hb=>by
   have ao:st.pins[k]?=some (some b):=hb
   have hk:=aj k (oD.1 ao).1
   exact ⟨by have:=(h.pin k b ao).1;simpa [rZ,Env.at,oA,hk] using this,by simp⟩
  pit:=h.pit }
def St.canon (st:St) (K:St->Prop):Prop:=match st.pins with
 | []=>K (st.sel (zAh st.bx 200 (PV.refsL st.sl) []))
 | L=>K (st.sel (List.range L.length++(zAh st.bx 200 (List.range L.length++PV.refsL st.sl) []).filter (Nat.ble L.length)))
theorem zPu (h:Rel av w0 e0 [] [] a w e st) {K:St->Prop} (hs:st.canon K):∃ e' st',K st'/\Rel av w0 e0 [] [] a w e' st':=by
 have J:=ti (bx:=st.bx) 200 (PV.refsL st.sl) [] mK
 unfold St.canon at hs
 split at hs
 ·rename_i I
  exact ⟨_,_,hs,zPh h J ⟨_,by rw [I];rfl⟩⟩
 ·rename_i I
  refine ⟨_,_,hs,zPh h ?_ ⟨_,rfl⟩⟩
  refine oq.2 ⟨List.nodup_range,(ti 200 _ [] mK).filter _,λx O y hy aa=>?_⟩
  have h1:=List.mem_range.1 O
  have h2:=mT (nx.1 hy).2
  omega
structure Cut where
 id:Nat
 keep:List Nat
 nils:List (Nat × TypeId × Nat):=[]
 cl:List Nat:=[]
 bnils:List (Nat × Nat × TypeId × Nat):=[]
def zVJ (N0:Option Nat) (c:Cut) (st:St) (K:St->Prop):Prop:=zAW N0 #[] [] c.cl c.keep st λst=>St.canon (St.bnils (St.nils (St.keep st c.keep) c.nils) c.bnils) K
theorem zHm (h:Rel av w0 e0 [] [] a w e st) {N0:Option Nat} (I:NOk N0 w0) {c:Cut} {K:St->Prop} (hs:zVJ N0 c st K):∃ e' st',K st'/\Rel av w0 e0 [] [] a w e' st':=by
 obtain ⟨J,T,O,_,_,h2⟩:=uc h I (by simp) hs
 obtain ⟨e1,h3⟩:=zJY c.nils _ _ (zPW h2 c.keep)
 obtain ⟨e2,h4⟩:=p9 c.bnils _ _ h3
 exact zPu h4 O
mutual
def zKo (p:PV) (K:PV->Prop):Prop:=match p with
 | .any=>K .any
 | .int k n=>K (.int k n)
 | .bool v=>K (.bool v)
 | .str v=>K (.str v)
 | .lit x=>K (.lit x)
 | .sv a z es c=>K (.sv a z es c)
 | .d x=>K (.d x)
 | .dc x=>K (.dc x)
 | .dg n x=>K (.dg n x)
 | .pb k z i o=>K (.pb k z i o)
 | .pd ad z x=>K (.pd ad z x)
 | .sb k z lo n c=>K (.sb k z lo n c)
 | .fn f caps=>zDp caps λl=>K (.fn f l)
 | .pg cs=>zDp cs λl=>K (.pg l)
 | .tp cs=>zDp cs λl=>K (.tp l)
def zDp (l:List PV) (K:List PV->Prop):Prop:=match l with
 | []=>K []
 | p::ps=>zKo p λp=>zDp ps λps=>K (p::ps)
end
mutual
theorem zQk:∀ (p:PV) (K:PV->Prop),zKo p K=K p
 | .fn f caps,K=>by simp only [zKo];exact rS caps _
 | .pg cs,K=>by simp only [zKo];exact rS cs _
 | .tp cs,K=>by simp only [zKo];exact rS cs _
 | .any,K=>rfl
 | .int ..,K=>rfl
 | .bool ..,K=>rfl
 | .str ..,K=>rfl
 | .lit ..,K=>rfl
 | .sv ..,K=>rfl
 | .d ..,K=>rfl
 | .dc ..,K=>rfl
 | .dg ..,K=>rfl
 | .pd ..,K=>rfl
 | .pb ..,K=>rfl
 | .sb ..,K=>rfl
theorem rS:∀ (l:List PV) (K:List PV->Prop),zDp l K=K l
 | [],K=>rfl
 | p::ps,K=>by simp only [zDp];rw [zQk,rS]
end
def zPC (B:Bx) (K:Bx->Prop):Prop:=match B with
 | .var cs=>zDp cs λcs=>K (.var cs)
 | .vd x n=>K (.vd x n)
 | .arr t z es c=>K (.arr t z es c)
 | .gone=>K .gone
theorem zQJ (B:Bx) (K:Bx->Prop):zPC B K=K B:=by
 cases B<;>simp only [zPC]
 exact rS _ _
def zJh (l:List Bx) (K:List Bx->Prop):Prop:=match l with
 | []=>K []
 | B::bs=>zPC B λB=>zJh bs λbs=>K (B::bs)
theorem zHn:∀ (l:List Bx) (K:List Bx->Prop),zJh l K=K l
 | [],K=>rfl
 | B::bs,K=>by simp only [zJh];rw [zQJ,zHn]
def zDK (st:St) (K:St->Prop):Prop:=zDp st.sl λsl=>zJh st.bx λbx=>K { st with sl:=sl,bx:=bx }
theorem rg (st:St) (K:St->Prop):zDK st K=K st:=by simp only [zDK];rw [rS,zHn]
end Go.Proofs.YtlahkdflngobiaaGreatDoor
