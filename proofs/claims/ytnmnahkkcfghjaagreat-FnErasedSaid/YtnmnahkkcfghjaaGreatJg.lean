/- A region in whatever order the machine draws. -/
import Derived.Test.YtnmnahkkcfghjaaGreatJf
set_option linter.unusedVariables false
set_option linter.unusedSimpArgs false
namespace Go.Proofs.YtnmnahkkcfghjaaGreat
open Go
variable {av:Nat->Prop} {P:Program} {w0 w w':World} {e0 e:Env} {pS pS' pB pB':List Nat} {a:Act} {st st':St}
def qw (ops:Array Oper) (i:Nat):List Ent->Bool
 | []=>true
 | b::bs=>zOp ops b.i i||(!b.hard&&qw ops i bs)
def zSn (ops:Array Oper) (bf:List Ent) (en:Ent) (aft:List Ent):Bool:=
 match ops[en.i]? with
 | none=>false
 | some o=>
   (o.after.toList.all fun e=>!Region.binds .any e||bf.any fun b=>b.i==e.on) &&
   qw ops en.i bf &&
   (bf.all fun b=>match rm ops b.i with
    | none=>true
    | some d=>!(o.looksAt ops).contains d||zOp ops b.i en.i) &&
   (aft.all fun r=>match rm ops r.i with
    | none=>true
    | some d=>!((o.looksAt ops).contains d||o.dst==some d)||(r.hard&&zOp ops en.i r.i)) &&
   (en.hard||match o.dst with
    | none=>true
    | some d=>!(o.looksAt ops).contains d)
def zNw (ops:Array Oper):List Ent->List Ent->Bool
 | _,[]=>true
 | bf,en::l=>zSn ops bf en l&&zNw ops (en::bf) l
def zJo:List Nat->Bool
 | []=>true
 | k::ks=>!ks.contains k&&zJo ks
def chk (ops:Array Oper) (ord:List Ent):Bool:=
 ord.length==ops.size&&zJo (ord.map (·.i))&&((List.range ops.size).all λi=>ord.any λb=>b.i==i)&&zNw ops [] ord
structure Spot (ops:Array Oper) (l1:List Ent) (en:Ent) (l2:List Ent) (o:Oper):Prop where
 op:ops[en.i]?=some o
 ed:∀ e∈o.after,Region.binds .any e=true->∃ b∈l1,b.i=e.on
 hd:qw ops en.i l1.reverse=true
 pr:∀ b∈l1,∀ d,rm ops b.i=some d->d∈o.looksAt ops->zOp ops b.i en.i=true
 af:∀ r∈l2,∀ d,rm ops r.i=some d->(d∈o.looksAt ops\/o.dst=some d)->r.hard=true/\zOp ops en.i r.i=true
 se:en.hard=false->∀ d,o.dst=some d->d∉o.looksAt ops
theorem zMl {ops:Array Oper} {l1:List Ent} {en:Ent} {l2:List Ent} (h:zSn ops l1.reverse en l2=true):∃ o,Spot ops l1 en l2 o:=by
 unfold zSn at h
 split at h
 ·cases h
 ·rename_i o Y
  simp only [oG,oZ] at h
  obtain ⟨⟨⟨⟨h1,h2⟩,h3⟩,h4⟩,U⟩:=h
  refine ⟨o,Y,λe he I=>?_,h2,λb I d hd hm=>?_,λr hr d hd hm=>?_,λhh d hd hm=>?_⟩
  ·have:=h1 e (om.2 he)
   rw [I] at this
   simp only [Bool.not_true,Bool.false_or,List.any_eq_true,nK] at this
   obtain ⟨b,J,O⟩:=this
   exact ⟨b,mr.1 J,O⟩
  ·have:=h3 b (mr.2 I)
   rw [hd] at this
   simpa [hm] using this
  ·have:=h4 r hr
   rw [hd] at this
   rcases hm with hm | hm
   ·simpa [hm] using this
   ·simpa [hm] using this
  ·rw [hh,hd] at U
   simp [hm] at U
theorem zD9 {ops:Array Oper}:∀ (l bf:List Ent),zNw ops bf.reverse l=true->∀ l1 en l2,l=l1++en::l2->∃ o,Spot ops (bf++l1) en l2 o
 | [],bf,_,l1,en,l2,h=>by cases l1<;>cases h
 | x :: l,bf,hc,l1,en,l2,h=>by
   simp only [zNw,oG] at hc
   cases l1 with
   | nil=>
     cases h
     simpa using zMl hc.1
   | cons y l1=>
     cases h
     have:=zD9 _ (bf++[x]) (by simpa using hc.2) l1 en l2 rfl
     simpa using this
theorem pJ {ops:Array Oper} {i:Nat}:∀ (l m:List Ent),qw ops i (l++m)=true->(∃ b∈l,b.hard=true)->∃ b∈l,zOp ops b.i i=true
 | [],m,_,h=>by simp at h
 | b :: l,m,h,O=>by
   simp only [nG,qw,mJ,oG,nR] at h
   rcases h with h | ⟨U,Y⟩
   ·exact ⟨b,by simp,h⟩
   ·obtain ⟨x,hx,I⟩:=O
    rcases oF.1 hx with rfl | hx
    ·rw [U] at I;cases I
    ·obtain ⟨y,hy,J⟩:=pJ l m Y ⟨x,hx,I⟩
     exact ⟨y,by simp [hy],J⟩
theorem zDK:∀ {l:List Nat},zJo l=true->l.Nodup
 | [],_=>mD
 | k::ks,h=>by
   simp only [zJo,oG,nR] at h
   refine nf.2 ⟨λhc=>?_,zDK h.2⟩
   have:=h.1
   simp [hc] at this
structure Chk (ops:Array Oper) (ord:List Ent):Prop where
 len:ord.length=ops.size
 nd:(ord.map (·.i)).Nodup
 all:∀ i,i<ops.size->∃ b∈ord,b.i=i
 at_:∀ l1 en l2,ord=l1++en::l2->∃ o,Spot ops l1 en l2 o
theorem zOH {ops:Array Oper} {ord:List Ent} (h:chk ops ord=true):Chk ops ord:=by
 simp only [chk,oG,nK,oZ] at h
 obtain ⟨⟨⟨I,J⟩,O⟩,U⟩:=h
 refine ⟨I,zDK J,λi hi=>?_,λl1 en l2 Y=>by simpa using zD9 ord [] (by simpa using U) l1 en l2 Y⟩
 have:=O i (List.mem_range.2 hi)
 simpa using this
def zM6 (ops:Array Oper) (pend:Pend):List Nat:=pend.filterMap λx=>rm ops x.1
def zNW (pend:Pend):List Nat:=pend.filterMap (·.2)
theorem zJH {ops:Array Oper} {pend:Pend} {t:Nat}:t∈zM6 ops pend↔∃ x∈pend,rm ops x.1=some t:=nW
theorem wB {pend:Pend} {k:Nat}:k∈zNW pend↔∃ x∈pend,x.2=some k:=nW
/-- what holds between the operations of a region -/
structure RI (P:Program) (sh:FuncId->List Sh) (ops:Array Oper) (ord:List Ent) (K:St->Prop) (av:Nat->Prop) (w0:World) (e0:Env) (N0:Option Nat)
  (done rest:List Ent) (nv pend:Pend) (listed:Array Bool) (a:Act) (w:World) (e:Env) (st:St):Prop where
 ord:ord=done++rest
 rel:Rel av w0 e0 (zM6 ops pend) (zNW pend) a w e st
 pb:∀ k∈zNW pend,k<st.bx.length
 pd:∀ x∈pend,∃ en∈done,en.i=x.1/\en.hard=false
 nd:pend.Nodup
 un:∀ x∈pend,∀ y∈pend,x.1=y.1->x=y
 bu:∀ x∈pend,∀ y∈pend,∀ k,x.2=some k->y.2=some k->x=y
 pr:∀ x∈pend,zTM ops P st x
 ls:listed.size=ops.size
 li:∀ i,i<ops.size->(listed.getD i false=true↔(∃ en∈done,en.i=i)/\∀ x∈pend,x.1≠i)
 nvs:∀ x∈pend,x∈nv
 lc:∀ m,listed.getD m false=true->∀ i∈zDW ops m,listed.getD i false=true
 f:zJO P sh N0 ops rest nv st K
section
variable {N0:Option Nat} {sh:FuncId->List Sh} {ops:Array Oper} {ord:List Ent} {K:St->Prop} {done rest:List Ent} {nv pend:Pend} {listed:Array Bool}
theorem zAx {i j:Nat} (O:j∈Region.ready .any ops listed) (J:zOp ops i j=true):listed.getD i false=true:=by
 obtain ⟨_,o,U,I⟩:=mem_ready.1 O
 unfold zOp at J
 rw [U] at J
 simp only [Array.any_eq_true,oG,nK] at J
 obtain ⟨n,Y,h1,h2⟩:=J
 rw [<-h1]
 exact I _ (Array.getElem_mem Y) h2
theorem zC1 {j:Nat} (J:j∈Region.ready .any ops listed):∀ i∈zDW ops j,listed.getD i false=true:=by
 obtain ⟨_,o,O,I⟩:=mem_ready.1 J
 intro i hi
 simp only [zDW,O,oQ,ny] at hi
 obtain ⟨e,⟨U,Y⟩,rfl⟩:=hi
 exact I e (om.1 U) Y
theorem zLz {j:Nat} (O:j∈Region.ready .any ops listed) (h:∀ m,listed.getD m false=true->∀ i∈zDW ops m,listed.getD i false=true) :
  ∀ m,(listed.setIfInBounds j true).getD m false=true->∀ i∈zDW ops m,(listed.setIfInBounds j true).getD i false=true:=λm J i hi=>by
 refine getD_set_true ?_
 by_cases I:j=m
 ·subst I;exact zC1 O i hi
 ·rw [getD_set_ne false I] at J
  exact h m J i hi
theorem zPi (hc:Chk ops ord) (h:RI P sh ops ord K av w0 e0 N0 done rest nv pend listed a w e st) {en:Ent} (I:en∈ord):en.i<ops.size:=by
 obtain ⟨l1,l2,J⟩:=mP I
 obtain ⟨o,O⟩:=hc.at_ l1 en l2 J
 exact (oU.1 O.op).1
/-- a pending operation is none that is listed -/
theorem tP (hc:Chk ops ord) (h:RI P sh ops ord K av w0 e0 N0 done rest nv pend listed a w e st) {x:Nat × Option Nat} (J:x∈pend):listed.getD x.1 false≠true:=by
 obtain ⟨en,O,U,_⟩:=h.pd x J
 have I:=zPi hc h (en:=en) (by rw [h.ord];simp [O])
 rw [U] at I
 intro Y
 exact ((h.li x.1 I).1 Y).2 x J rfl
/-- the slots that a ready operation looks at are there -/
theorem zDC (hc:Chk ops ord) (h:RI P sh ops ord K av w0 e0 N0 done rest nv pend listed a w e st) {l1 l2:List Ent} {en:Ent} {o:Oper} (hl:ord=l1++en::l2) (J:Spot ops l1 en l2 o)
  (hr:en.i∈Region.ready .any ops listed) (hp:en.hard=true->∀ x∈pend,x.1≠en.i):∀ t∈o.looksAt ops,t∉zM6 ops pend:=by
 intro t O U
 obtain ⟨x,Y,hd⟩:=zJH.1 U
 obtain ⟨ex,h1,h2,h3⟩:=h.pd x Y
 have I:ex∈l1++en::l2:=by rw [<-hl,h.ord];simp [h1]
 rw [<-h2] at hd
 rcases oJ.1 I with hm | hm
 ·have he:=zAx hr (J.pr ex hm t hd O)
  rw [h2] at he
  exact tP hc h Y he
 ·rcases oF.1 hm with rfl | hm
  ·refine J.se h3 t ?_ O
   simpa [rm,J.op] using hd
  ·have:=(J.af ex hm t hd (.inl O)).1
   rw [h3] at this;cases this
theorem zGb {j:Nat} {d:Bool} (I:j<listed.size) (i:Nat):(listed.setIfInBounds j true).getD i false=true↔i=j\/listed.getD i false=true:=by
 by_cases h:j=i
 ·subst h
  simp [I]
 ·rw [getD_set_ne false h]
  constructor
  ·exact .inr
  ·rintro (h1 | h1)
   ·exact absurd h1.symm h
   ·exact h1
/-- a promise is kept -/
theorem zG8 (hc:Chk ops ord) (h:RI P sh ops ord K av w0 e0 N0 done rest nv pend listed a w e st) {x:Nat × Option Nat} (hx:x∈pend) (hr:x.1∈Region.ready .any ops listed)
  {next:Act->World->Prop} {Q:Exit->Act->World->Prop}
  (hn:∀ a' w' e',RI P sh ops ord K av w0 e0 N0 done rest nv (pend.erase x) (listed.setIfInBounds x.1 true) a' w' e' st->next a' w'):wpOp P ops Q x.1 next a w:=by
 obtain ⟨en,al,hi,hh⟩:=h.pd x hx
 obtain ⟨l1,l2,hl⟩:=mP (show en∈ord by rw [h.ord];simp [al])
 obtain ⟨o,ho⟩:=hc.at_ l1 en l2 hl
 have Y:=zDC hc h hl ho (by rw [hi];exact hr) (by rw [hh];intro hc;cases hc)
 have ac:=ho.op
 rw [hi] at ac
 have hd:rm ops x.1=o.dst:=by simp [rm,ac]
 have J:∀ y,y∈pend.erase x↔y≠x/\y∈pend:=λy=>List.Nodup.mem_erase_iff h.nd
 have ay:x.1<listed.size:=by rw [h.ls];exact (oU.1 ac).1
 have am:∀ i,i∈zM6 ops pend->some i≠o.dst->i∈zM6 ops (pend.erase x):=λi ah az=>by
  obtain ⟨y,O,ao⟩:=zJH.1 ah
  refine zJH.2 ⟨y,(J y).2 ⟨λab=>az ?_,O⟩,ao⟩
  subst ab;rw [<-ao,hd]
 -- what is left
 have ae:∀ a' w' e',Rel av w0 e0 (zM6 ops (pend.erase x)) (zNW (pend.erase x)) a' w' e' st->next a' w':=λa' w' e' hR=>hn a' w' e' {
  ord:=h.ord
  rel:=hR
  pb:=λk U=>by obtain ⟨y,O,I⟩:=wB.1 U;exact h.pb k (wB.2 ⟨y,((J y).1 O).2,I⟩)
  pd:=λy O=>h.pd y ((J y).1 O).2
  nd:=h.nd.erase x
  un:=λy O z hz=>h.un y ((J y).1 O).2 z ((J z).1 hz).2
  bu:=λy O z hz=>h.bu y ((J y).1 O).2 z ((J z).1 hz).2
  pr:=λy O=>h.pr y ((J y).1 O).2
  ls:=by simp [h.ls]
  li := λi ah=>by
   rw [zGb (d:=false) ay i]
   constructor
   ·rintro (rfl | h1)
    ·refine ⟨⟨en,al,hi⟩,λy O ab=>?_⟩
     have:=(J y).1 O
     exact this.1 (h.un y this.2 x hx ab)
    ·have:=(h.li i ah).1 h1
     exact ⟨this.1,λy O=>this.2 y ((J y).1 O).2⟩
   ·rintro ⟨h1,h2⟩
    by_cases aq:i=x.1
    ·exact .inl aq
    ·refine .inr ((h.li i ah).2 ⟨h1,λy O au=>?_⟩)
     by_cases ab:y=x
     ·subst ab;exact aq au.symm
     ·exact h2 y ((J y).2 ⟨ab,O⟩) au
  nvs:=λy O=>h.nvs y ((J y).1 O).2
  lc:=zLz hr h.lc
  f:=h.f }
 obtain ⟨o',aw,U⟩:=h.pr x hx
 rw [ac] at aw
 cases aw
 unfold wpOp
 rw [ac]
 simp only
 rcases U with ⟨hw,_,r,q,h2,h3,h4,h5⟩ | ⟨hw,hb,h3⟩
 ·rw [if_pos (zG6 h.rel hw Y)]
  refine .inl ?_
  have ai:∀ B f,r=.b B f->∃ k,x.2=some k:=λB f hr=>by
   subst hr
   cases aa:x.2 with
   | none=>rw [aa] at h3;cases h3
   | some k=>exact ⟨k,rfl⟩
  obtain ⟨v,w',e',g1,g2⟩:=zNu h.rel (o:=o) (r:=r) (k:=x.2.getD 0) (λy O t ht=>Y t (ub O ht)) h2 (λd a2 a3=>by
   rw [h4 d a2 a3]
   cases r with
   | v p=>cases aa:x.2<;>rw [aa] at h3<;>simp [zNd] at h3;simp [h3]
   | b B f=>
     obtain ⟨k,U⟩:=ai B f rfl
     rw [U] at h3
     simp [zNd] at h3
     simp [U,h3]) (λB f ax=>by
   obtain ⟨k,U⟩:=ai B f ax
   rw [U]
   exact ⟨h5 B f k ax U,wB.2 ⟨x,hx,U⟩⟩) am
  unfold Oper.wp
  rw [g1,Oper.upon_value]
  refine ae _ _ _ (su g2 (λk=>?_) λ_=>id)
  cases r with
  | v p=>
    have aa:x.2=none:=by cases aa:x.2<;>rw [aa] at h3<;>simp [zNd] at h3<;>rfl
    simp only [Res.isB,mc,na]
    constructor
    ·intro U
     obtain ⟨y,O,I⟩:=wB.1 U
     exact wB.2 ⟨y,((J y).1 O).2,I⟩
    ·intro U
     obtain ⟨y,O,I⟩:=wB.1 U
     exact wB.2 ⟨y,(J y).2 ⟨λhc=>(by rw [hc,aa] at I;cases I),O⟩,I⟩
  | b B f=>
    obtain ⟨k0,aj⟩:=ai B f rfl
    simp only [Res.isB,mV,aj,o9,ny,o3,ne_eq]
    constructor
    ·intro U
     obtain ⟨y,O,I⟩:=wB.1 U
     have:=(J y).1 O
     exact ⟨wB.2 ⟨y,this.2,I⟩,λak=>this.1 (h.bu y this.2 x hx k I (by rw [aj,ak]))⟩
    ·rintro ⟨U,ak⟩
     obtain ⟨y,O,I⟩:=wB.1 U
     exact wB.2 ⟨y,(J y).2 ⟨λhc=>(by rw [hc,aj] at I;cases I;exact ak rfl),O⟩,I⟩
 ·rw [if_neg (by rw [zHa h.rel hw Y];simp)]
  have h4:=xm h.rel (dst:=o.dst) zCr am
  rw [St.put_same h3] at h4
  refine ae _ _ _ (su h4 (λk=>?_) λ_=>id)
  constructor
  ·intro U
   obtain ⟨y,O,I⟩:=wB.1 U
   exact wB.2 ⟨y,((J y).1 O).2,I⟩
  ·intro U
   obtain ⟨y,O,I⟩:=wB.1 U
   exact wB.2 ⟨y,(J y).2 ⟨λhc=>(by rw [hc,hb] at I;cases I),O⟩,I⟩
theorem v8 {l1 l2:List Ent} {en:Ent} (h:((l1++en::l2).map (·.i)).Nodup):∀ x∈l1,x.i≠en.i:=by
 intro x I hc
 rw [nc,nQ] at h
 exact h.2.2 x.i (oQ.2 ⟨x,I,rfl⟩) en.i (by simp) hc
/-- one promise -/
theorem zCt (hc:Chk ops ord) {en:Ent} (hh:en.hard=false) (h:RI P sh ops ord K av w0 e0 N0 done (en::rest) nv pend listed a w e st) :
  ∃ b nv' e' st',RI P sh ops ord K av w0 e0 N0 (done++[en]) rest nv' ((en.i,b)::pend) listed a w e' st':=by
 obtain ⟨o,ho⟩:=hc.at_ done en rest h.ord
 have ai:=hc.nd
 rw [h.ord] at ai
 have O:∀ x∈pend,x.1≠en.i:=λx hx=>by
  obtain ⟨ex,h1,Y,_⟩:=h.pd x hx
  rw [<-Y];exact v8 ai ex h1
 have hf:=h.f
 simp only [zJO,ho.op,hh] at hf
 -- what holds behind it, but for the step itself
 have fin:∀ (b:Option Nat) (nv':Pend) (e':Env) (st':St),nv'=(en.i,b)::nv->Rel av w0 e0 (zM6 ops ((en.i,b)::pend)) (zNW ((en.i,b)::pend)) a w e' st'->(∀ k,b=some k->st.bx.length<=k/\k<st'.bx.length)->Stp [] [] o.dst st st' ->
   zQe ops P st' o b->zJO P sh N0 ops rest nv' st' K->RI P sh ops ord K av w0 e0 N0 (done++[en]) rest nv' ((en.i,b)::pend) listed a w e' st':=λb nv' e' st' ay hR hb I hK hF=>{
  ord:=by rw [h.ord];simp
  rel:=hR
  pb:=λk J=>by
   obtain ⟨y,hy,aa⟩:=wB.1 J
   rcases oF.1 hy with rfl | hy
   ·exact (hb k aa).2
   ·exact o7 (h.pb k (wB.2 ⟨y,hy,aa⟩)) I.bl
  pd:=λx hx=>by
   rcases oF.1 hx with rfl | hx
   ·exact ⟨en,by simp,rfl,hh⟩
   ·obtain ⟨ex,h1,Y⟩:=h.pd x hx;exact ⟨ex,by simp [h1],Y⟩
  nd:=nf.2 ⟨λhm=>O _ hm rfl,h.nd⟩
  un:=λx hx y hy aj=>by
   rcases oF.1 hx with rfl | hx<;>rcases oF.1 hy with rfl | hy
   ·rfl
   ·exact absurd aj.symm (O y hy)
   ·exact absurd aj (O x hx)
   ·exact h.un x hx y hy aj
  bu:=λx hx y hy k ak aa=>by
   rcases oF.1 hx with rfl | hx<;>rcases oF.1 hy with rfl | hy
   ·rfl
   ·have:=(hb k ak).1;have:=h.pb k (wB.2 ⟨y,hy,aa⟩);omega
   ·have:=(hb k aa).1;have:=h.pb k (wB.2 ⟨x,hx,ak⟩);omega
   ·exact h.bu x hx y hy k ak aa
  pr:=λx hx=>by
   rcases oF.1 hx with rfl | hx
   ·exact ⟨o,ho.op,hK⟩
   ·obtain ⟨ox,aq,az⟩:=h.pr x hx
    refine ⟨ox,aq,zBv az I (λ_ h=>h) (.inl zBw) λd hd=>?_⟩
    obtain ⟨ex,h1,Y,h3⟩:=h.pd x hx
    obtain ⟨m1,m2,hm⟩:=mP h1
    obtain ⟨a2,au⟩:=hc.at_ m1 ex (m2++en::rest) (by rw [h.ord,hm];simp)
    have:a2=ox:=by have:=au.op;rw [Y,aq] at this;exact (oW this).symm
    subst this
    have aw:=au.af en (by simp) d (by simp [rm,ho.op,hd])
    refine ⟨λhc=>?_,λhc=>?_⟩
    ·have:=(aw (.inl hc)).1;rw [hh] at this;cases this
    ·have:=(aw (.inr hc)).1;rw [hh] at this;cases this
  ls:=h.ls
  li:=λi hi=>by
   rw [h.li i hi]
   constructor
   ·rintro ⟨⟨x,h1,Y⟩,h3⟩
    refine ⟨⟨x,by simp [h1],Y⟩,λy hy=>?_⟩
    rcases oF.1 hy with rfl | hy
    ·simp only;rw [<-Y];exact (v8 ai x h1).symm
    ·exact h3 y hy
   ·rintro ⟨⟨x,h1,Y⟩,h3⟩
    refine ⟨⟨x,?_,Y⟩,λy hy=>h3 y (by simp [hy])⟩
    rcases oJ.1 h1 with h1 | h1
    ·exact h1
    ·simp at h1;subst h1;exact absurd Y (h3 (x.i,b) (by simp))
  nvs:=λx hx=>by
   subst ay
   rcases oF.1 hx with rfl | hx
   ·simp
   ·simp [h.nvs x hx]
  lc:=h.lc
  f:=hF }
 have ab:∀ b,zM6 ops ((en.i,b)::pend)=o.dst.toList++zM6 ops pend:=λb=>by
  simp only [zM6,nh,rm,ho.op,mq]
  cases o.dst<;>rfl
 have al:=ho.se hh
 rcases zER hf with ⟨hw,hf⟩ | ⟨hw,hf⟩
 ·split at hf
  rotate_left
  ·exact hf.elim
  rename_i hb
  simp only [oG] at hb
  obtain ⟨a6,a3⟩:=hb
  obtain ⟨r,hK,hr⟩:=zMQ _ hf
  have hr:=hr (λq=>q=r) rfl
  have hR:=zN8 h.rel o.dst r
  have I:Stp [] [] o.dst st (st.push o.dst r):=zJD
  have ax:∀ y∈o.op.operands,∀ k∈(opd st.sl y).refs,k<st.bx.length:=λy hy k J=>by
   have:=oZ.1 (oZ.1 a3 y (om.2 hy)) k J
   simpa using this
  have ah:∀ y∈o.op.operands,opd (st.push o.dst r).sl y=opd st.sl y:=λy hy=>by
   cases y with
   | tmp t=>
     have ae:o.dst≠some t:=λhc=>al t hc (ub hy rfl)
     simp only [opd]
     rw [oA,oA]
     cases hp:st.sl[t]? with
     | none=>
       have:(st.push o.dst r).sl[t]?=none:=oT (by rw [I.ll];exact nu.1 hp)
       rw [this]
     | some p=>rw [I.sl t p (λhc=>ae hc.symm) hp (by simp)]
   | _=>rfl
  have am:zQU ops o (st.push o.dst r):=λg ac hg=>by
   obtain ⟨og,d,h1,Y,h3⟩:=hw g ac hg
   exact ⟨og,d,h1,Y,I.sl d _ (λhc=>al d hc.symm (by simp [Oper.looksAt,hg,h1,Y])) h3 (by simp)⟩
  have a4:∀ k,k<st.bx.length->(st.push o.dst r).bx[k]?=st.bx[k]?:=λk J=>by
   rw [I.bx k _ (oH J) (by simp) (by simp),oH J]
  have ao:∀ d q,o.dst=some d->d<(st.push o.dst r).sl.length->zNd r (r.bk st.bx.length)=some q->(st.push o.dst r).sl[d]?=some q:=λd q hd U hq=>by
   rw [I.ll] at U
   cases r with
   | v p=>simp [Res.bk,zNd] at hq;subst hq;simp [St.push,St.put,hd,U]
   | b B f=>simp [Res.bk,zNd] at hq;subst hq;simp [St.push,St.put,hd,U]
  refine ⟨r.bk st.bx.length,(en.i,r.bk st.bx.length)::nv,(if r.isB then e++[none] else e),_,fin _ _ _ _ rfl ?_ ?_ I (.inl ⟨am,?_,r,?_⟩) hK⟩
  ·rw [ab]
   refine su hR (λk=>?_) λ_=>id
   cases r with
   | v p=>simp [Res.isB,Res.bk,zNW]
   | b B f=>simp [Res.isB,Res.bk,zNW]
  ·intro k J
   cases r with
   | v p=>cases J
   | b B f=>
     simp [Res.bk] at J;subst J
     refine ⟨oD _,?_⟩
     cases o.dst<;>simp [St.push,St.put]
  ·intro y hy k J
   rw [ah y hy] at J
   have:=ax y hy k J
   exact o7 this I.bl
  ·have hq:∃ q,zNd r (r.bk st.bx.length)=some q:=by cases r<;>simp [Res.bk,zNd]
   obtain ⟨q,hq⟩:=hq
   refine ⟨q,?_,hq,λd hd U=>ao d q hd U hq,λB f k a5 J=>?_⟩
   ·rw [zCW (ρ:=opd st.sl) (rb:=λk=>st.bx[k]?) ah λy hy k J=>a4 k (ax y hy k J)]
    exact hr
   ·subst a5
    simp [Res.bk] at J;subst J
    cases o.dst<;>simp [St.push,St.put]
 ·have I:Stp [] [] o.dst st (st.put o.dst (.tp [])):=Stp.put Stp.rfl' _
  refine ⟨none,(en.i,none)::nv,e,st.put o.dst (.tp []),fin _ _ _ _ rfl ?_ (λk J=>by cases J) I (.inr ⟨?_,rfl,λd hd U=>?_⟩) hf⟩
  ·rw [ab]
   exact su (zEx h.rel) (λk=>by simp [zNW]) λ_=>id
  ·obtain ⟨g,ac,og,d,g1,g2,g3,g4⟩:=hw
   have ae:some d≠o.dst:=λhc=>al d hc.symm (by simp [Oper.looksAt,g1,g2,g3])
   refine ⟨g,ac,og,d,g1,g2,g3,?_⟩
   rcases g4 with g4 | g4
   ·exact .inl (I.sl d _ ae g4 (by simp))
   ·exact .inr (I.sl d _ ae g4 (by simp))
  ·rw [I.ll] at U
   simp [St.put,hd,U]
theorem zCC (hc:Chk ops ord):∀ (pre rest done:List Ent) (nv pend:Pend) (e:Env) (st:St),(∀ en∈pre,en.hard=false)->RI P sh ops ord K av w0 e0 N0 done (pre++rest) nv pend listed a w e st ->
  ∃ nv' I e' st',RI P sh ops ord K av w0 e0 N0 (done++pre) rest nv' I listed a w e' st'/\I.length=pend.length+pre.length
 | [],rest,done,nv,pend,e,st,_,h=>⟨nv,pend,e,st,by simpa using h,rfl⟩
 | en::pre,rest,done,nv,pend,e,st,U,h=>by
   obtain ⟨b,J,e1,O,Y⟩:=zCt hc (U en (by simp)) h
   obtain ⟨nv',I,e',st',h2,h3⟩:=zCC hc pre rest (done++[en]) J _ e1 O (λx hx=>U x (by simp [hx])) Y
   exact ⟨nv',I,e',st',by simpa using h2,by rw [h3];simp;omega⟩
theorem zL7 (a9:NOk N0 w0) (hc:Chk ops ord) {Q:Exit->Act->World->Prop} (hQ:∀ a w e st,K st->Rel av w0 e0 [] [] a w e st->Q .normal a w) :
  ∀ (Y:Nat) (done rest:List Ent) (nv pend:Pend) (listed:Array Bool) (a:Act) (w:World) (e:Env) (st:St),RI P sh ops ord K av w0 e0 N0 done rest nv pend listed a w e st->Y=rest.length+pend.length ->
    wpAny P .any ops Q Y listed a w:=by
 -- nothing is left where nothing is ready
 have fin:∀ (done rest:List Ent) (nv pend:Pend) (listed:Array Bool) (a:Act) (w:World) (e:Env) (st:St),RI P sh ops ord K av w0 e0 N0 done rest nv pend listed a w e st->rest=[]->pend=[]->Q .normal a w:=by
  intro done rest nv pend listed a w e st h hr hp
  subst hr;subst hp
  exact hQ a w e st h.f h.rel
 have prog:∀ (done rest:List Ent) (nv pend:Pend) (listed:Array Bool) (a:Act) (w:World) (e:Env) (st:St),RI P sh ops ord K av w0 e0 N0 done rest nv pend listed a w e st->Region.ready .any ops listed=[]->rest=[]/\pend=[]:=by
  intro done rest nv pend listed a w e st h hr
  have key:∀ (l1 l2:List Ent),ord=l1++l2->∀ en∈l1,listed.getD en.i false=true:=by
   intro l1
   -- from the left
   suffices ∀ n,∀ l1 l2:List Ent,l1.length=n->ord=l1++l2->∀ en∈l1,listed.getD en.i false=true from λl2=>this l1.length l1 l2 rfl
   intro n
   induction n with
   | zero=>intro l1 l2 hl _ en O;simp at hl;subst hl;simp at O
   | succ n ih=>
     intro l1 l2 hl ho en O
     rcases List.eq_nil_or_concat l1 with rfl | ⟨m,x,rfl⟩
     ·simp at hl
     ·rw [List.concat_eq_append] at hl ho O
      simp only [oI,oO,oX] at hl
      have hm:=ih m (x::l2) (by omega) (by rw [ho];simp)
      rcases oJ.1 O with h1 | h1
      ·exact hm en h1
      ·simp at h1
       subst h1
       obtain ⟨o,hs⟩:=hc.at_ m en l2 (by rw [ho];simp)
       cases ak:listed.getD en.i false with
       | true=>rfl
       | false=>
         exfalso
         have U:=(oU.1 hs.op).1
         have:en.i∈Region.ready .any ops listed:=mem_ready.2 ⟨by
          rw [nH] at ak ⊢
          rw [oq (by rw [h.ls];exact U)] at ak ⊢
          exact ak,o,hs.op,λe he hb=>by
          obtain ⟨b,ba,bb⟩:=hs.ed e he hb
          rw [<-bb];exact hm b ba⟩
         rw [hr] at this
         simp at this
  have ax:=key ord [] (by simp)
  have ay:∀ en∈ord,(∃ x∈done,x.i=en.i)/\∀ x∈pend,x.1≠en.i:=λen O=>(h.li en.i (zPi hc h O)).1 (ax en O)
  constructor
  ·cases al:rest with
   | nil=>rfl
   | cons en l=>
     exfalso
     have ho:=h.ord
     rw [al] at ho
     obtain ⟨⟨x,J,bc⟩,_⟩:=ay en (by rw [ho];simp)
     have ai:=hc.nd
     rw [ho] at ai
     exact v8 ai x J bc
  ·cases ae:pend with
   | nil=>rfl
   | cons x l=>
     exfalso
     obtain ⟨en,h1,h2,_⟩:=h.pd x (by rw [ae];simp)
     exact (ay en (by rw [h.ord];simp [h1])).2 x (by rw [ae];simp) h2.symm
 intro Y
 induction Y with
 | zero=>
   intro done rest nv pend listed a w e st h hf
   have h1:rest=[]:=oP (by omega)
   have h2:pend=[]:=oP (by omega)
   refine ⟨?_,fin _ _ _ _ _ _ _ _ _ h h1 h2⟩
   subst h1;subst h2
   cases hr:Region.ready .any ops listed with
   | nil=>rfl
   | cons j l=>
     exfalso
     have hj:j∈Region.ready .any ops listed:=by rw [hr];simp
     obtain ⟨g1,o,g2,_⟩:=mem_ready.1 hj
     have U:=(oU.1 g2).1
     obtain ⟨b,hb,bg⟩:=hc.all j U
     have ho:=h.ord
     rw [nO] at ho
     have:=(h.li j U).2 ⟨⟨b,by rw [<-ho];exact hb,bg⟩,by simp⟩
     rw [nH] at this g1
     rw [oq (by rw [h.ls];exact U)] at this g1
     simp only [o9] at this g1
     rw [this] at g1;cases g1
 | succ Y ih=>
   intro done rest nv pend listed a w e st h hf
   refine ⟨λhr=>by obtain ⟨h1,h2⟩:=prog _ _ _ _ _ _ _ _ _ h hr;exact fin _ _ _ _ _ _ _ _ _ h h1 h2,λj hj=>?_⟩
   by_cases az:∃ x∈pend,x.1=j
   ·obtain ⟨x,J,rfl⟩:=az
    refine zG8 hc h J hj λa' w' e' I=>ih _ _ _ _ _ _ _ _ _ I ?_
    have:=List.length_erase_of_mem J
    have:=List.length_pos_of_mem J
    omega
   ·have bh:∀ x∈pend,x.1≠j:=λx J hc=>az ⟨x,J,hc⟩
    obtain ⟨g1,oj,g2,g3⟩:=mem_ready.1 hj
    have U:=(oU.1 g2).1
    obtain ⟨en,O,hi⟩:=hc.all j U
    have bi:listed.getD j false=false:=by
     rw [nH] at g1 ⊢
     rw [oq (by rw [h.ls];exact U)] at g1 ⊢
     exact g1
    have ai:∀ x∈done,x.i≠j:=λx J bj=>by
     have:=(h.li j U).2 ⟨⟨x,J,bj⟩,bh⟩
     rw [bi] at this;cases this
    have bm:en∈rest:=by
     rw [h.ord] at O
     rcases oJ.1 O with h1 | h1
     ·exact absurd hi (ai en h1)
     ·exact h1
    obtain ⟨pre,post,ah⟩:=mP bm
    obtain ⟨o,hs⟩:=hc.at_ (done++pre) en post (by rw [h.ord,ah];simp)
    -- nothing ahead of it is hard
    have a2:∀ b∈pre,b.hard=false:=by
     intro b hb
     cases bp:b.hard with
     | false=>rfl
     | true=>
       exfalso
       have a3:=hs.hd
       rw [List.reverse_append] at a3
       obtain ⟨x,J,am⟩:=pJ pre.reverse done.reverse a3 ⟨b,mr.2 hb,bp⟩
       have bq:=zAx (by rw [hi];exact hj) am
       have bt:x∈ord:=by rw [h.ord,ah];simp [mr.1 J]
       obtain ⟨⟨y,hy,bv⟩,_⟩:=(h.li x.i (zPi hc h bt)).1 bq
       have aa:=hc.nd
       obtain ⟨q1,q2,hq⟩:=mP (mr.1 J)
       have ho:ord=(done++q1)++x::(q2++en::post):=by rw [h.ord,ah,hq];simp
       rw [ho] at aa
       exact v8 aa y (by simp [hy]) bv
    rw [ah] at h
    obtain ⟨nv',ab,e',st',I,b4⟩:=zCC hc pre (en::post) done nv pend e st a2 h
    have b5:rest.length=pre.length+(post.length+1):=by rw [ah];simp
    cases hh:en.hard with
    | false=>
      obtain ⟨b,b6,e2,st2,h2⟩:=zCt hc hh I
      have bw:(en.i,b).1∈Region.ready .any ops listed:=by rw [<-hi] at hj;exact hj
      rw [<-hi]
      refine zG8 hc h2 (x:=(en.i,b)) (by simp) bw λa' w' e' h3=>ih _ _ _ _ _ _ _ _ _ h3 ?_
      rw [List.length_erase_of_mem (by simp)]
      simp only [oO]
      omega
    | true=>
      have aj:∀ x∈ab,x.1≠en.i:=λx J am=>by
       obtain ⟨ex,k1,k2,_⟩:=I.pd x J
       have aa:=hc.nd
       rw [I.ord] at aa
       exact v8 aa ex k1 (by rw [k2,am])
      have ao:=zDC hc I I.ord hs (by rw [hi];exact hj) (λ_=>aj)
      have a4:=I.f
      simp only [zJO,hs.op,hh] at a4
      rw [<-hi]
      -- the pending are not bound to come ahead of it
      have aq:∀ x∈ab,x∈zFJ ops en.i nv':=λx J=>by
       have a5:=I.nvs x J
       unfold zFJ
       split
       ·simp at a5
       ·refine ny.2 ⟨a5,?_⟩
        cases bz:(zPg ops 1000 (zDW ops en.i) []).contains x.1 with
        | false=>rfl
        | true=>
          have hm:x.1∈zPg ops 1000 (zDW ops en.i) []:=by simpa using bz
          exact absurd (zGE (A:=λk=>listed.getD k false=true) I.lc 1000 _ [] (zC1 (by rw [hi];exact hj)) (by simp) x.1 hm) (tP hc I J)
      refine zHY I.rel a9 I.pb (pf:=zFJ ops en.i nv') (λt ht=>by
       obtain ⟨x,J,hd⟩:=zJH.1 ht
       exact ⟨x,aq x J,hd⟩) (λk hk=>by
       obtain ⟨x,J,hd⟩:=wB.1 hk
       exact ⟨x,aq x J,hd⟩) hs.op ao a4 λv w' e2 st2 k1 k0 k2 k3=>?_
      refine ih (done++pre++[en]) post nv' ab _ _ _ e2 st2 {
       ord:=by rw [I.ord];simp
       rel:=k3
       pb:=λk hk=>o7 (I.pb k hk) k0
       pd:=λx J=>by obtain ⟨ex,m1,m2⟩:=I.pd x J;exact ⟨ex,by simp at m1 ⊢;rcases m1 with m1 | m1<;>simp [m1],m2⟩
       nd:=I.nd
       un:=I.un
       bu:=I.bu
       pr:=λx J=>by
        obtain ⟨ox,au,b1⟩:=I.pr x J
        refine ⟨ox,au,k2 x (aq x J) ox au b1 λd hd=>?_⟩
        obtain ⟨ex,m1,m2,m3⟩:=I.pd x J
        obtain ⟨q1,q2,hq⟩:=mP m1
        obtain ⟨aw,a6⟩:=hc.at_ q1 ex (q2++en::post) (by rw [I.ord,hq];simp)
        have:aw=ox:=by have:=a6.op;rw [m2,au] at this;exact (oW this).symm
        subst this
        have b2:=a6.af en (by simp) d (by simp [rm,hs.op,hd])
        have a7:∀ ac:(d∈aw.looksAt ops\/aw.dst=some d),False:=λac=>by
         have he:=(b2 ac).2
         rw [m2] at he
         exact tP hc I J (zAx (by rw [hi];exact hj) he)
        exact ⟨λac=>a7 (.inl ac),λac=>a7 (.inr ac)⟩
       ls:=by simp [I.ls]
       li := λi a8=>by
        have b3:en.i<listed.size:=by rw [I.ls,hi];exact U
        rw [zGb (d:=false) b3 i]
        constructor
        ·rintro (rfl | m1)
         ·exact ⟨⟨en,by simp,rfl⟩,aj⟩
         ·obtain ⟨⟨x,m2,m3⟩,m4⟩:=(I.li i a8).1 m1
          exact ⟨⟨x,by simp at m2 ⊢;rcases m2 with m2 | m2<;>simp [m2],m3⟩,m4⟩
        ·rintro ⟨⟨x,m1,m2⟩,m3⟩
         rcases oJ.1 m1 with m1 | m1
         ·exact .inr ((I.li i a8).2 ⟨⟨x,m1,m2⟩,m3⟩)
         ·simp at m1;subst m1;exact .inl m2.symm
       nvs:=I.nvs
       lc:=zLz (by rw [hi];exact hj) I.lc
       f:=k1 } ?_
      omega
end
theorem zKZ {N0:Option Nat} (J:NOk N0 w0) {sh:FuncId->List Sh} {id:Nat} {ops:Array Oper} {ord:List Ent} {K:St->Prop} {Q:Exit->Act->World->Prop} (I:P.follows .mixedOrders=true) (hc:chk ops ord=true)
  (h:Rel av w0 e0 [] [] a w e st) (hs:zJO P sh N0 ops ord [] st K) (U:∀ a w e st,K st->Rel av w0 e0 [] [] a w e st->Q .normal a w):(Code.region id ops true).wp P Q a w:=by
 have O:=zOH hc
 refine wp_region_any I ?_
 have Y:Rel av w0 e0 [] [] a { w with drawn:=w.drawn+1 } e st:=zRJ (zIp h (w':={ w with drawn:=w.drawn+1 }) (oD _) (λ_ _=>rfl) λb c t z hb hc=>by have:=(oU.1 hc).1;simp at this;omega) h.hN
 refine zL7 J O U ops.size [] ord [] [] _ a _ e st {
  ord:=rfl
  rel:=Y
  pb:=by simp [zNW]
  pd:=by simp
  nd:=mD
  un:=by simp
  bu:=by simp
  pr:=by simp
  ls:=by simp
  li:=λi hi=>by simp [hi]
  nvs:=by simp
  lc:=λm I=>by
   exfalso
   rw [nH,Array.getElem?_replicate] at I
   split at I<;>simp at I
  f:=hs } (by simp [O.len])
variable {av:Nat->Prop} {P:Program} {w0 w w':World} {e0 e:Env} {pS pS' pB pB':List Nat} {a:Act} {st st':St}
/-- a slot is told anew -/
def zSe (w:World) (e:Env) (live:Nat->Prop) (p q:PV):Prop:=q=.any\/(p≠.any/\p.val e=q.val e/\(p.Ok w live->q.Ok w live)/\∀ k∈q.refs,k∈p.refs)
theorem zLD (h:Rel av w0 e0 pS pB a w e st) {O:List PV} (hl:O.length<=st.sl.length)
  (hs:∀ (i:Nat) (q:PV),O[i]?=some q->q=.any\/∃ p,st.sl[i]?=some p/\zSe w e (zT av pB e st.bx) p q):Rel av w0 e0 pS pB a w e { st with sl:=O }:={
 h with
 nd:=h.nd
 sz:=oN hl h.sz
 hs:=λi q hi U=>by
  rcases hs i q hi with I | ⟨p,I,J | ⟨J,Y,h4,h5⟩⟩
  ·exact .inl I
  ·exact .inl J
  ·exact .inr (((h.hs i p I U).resolve_left J).trans Y)
 so:=λi q hi U=>by
  rcases hs i q hi with I | ⟨p,I,J | ⟨J,Y,h4,h5⟩⟩
  ·subst I;trivial
  ·subst J;trivial
  ·exact h4 (h.so i p I U)
 sr:=λi q hi U k hk=>by
  rcases hs i q hi with I | ⟨p,I,J | ⟨J,Y,h4,h5⟩⟩
  ·subst I;simp [PV.refs] at hk
  ·subst J;simp [PV.refs] at hk
  ·exact h.sr i p I U k (h5 k hk) }
def zII (p:PV):PV:=match p with
 | .pg cs=>match zF2 cs with
   | some ds=>.dg cs.length (.ag ds)
   | none=>.pg cs
 | p=>p
theorem zEH {live:Nat->Prop} {p:PV} (I:p.Ok w live):zSe w e live p (zII p):=by
 have same:∀ p:PV,zSe w e live p p:=λp=>by
  by_cases O:p=.any
  ·exact .inl O
  ·exact .inr ⟨O,rfl,id,λ_=>id⟩
 cases p
 case pg cs=>
  simp only [zII]
  split
  ·rename_i ds J
   simp only [PV.Ok] at I
   have U:=u9 (e:=e) J I.1
   exact .inr ⟨by simp,by rw [show (PV.pg cs).val e=(PV.pg cs).val1 e from rfl];exact ((zLf J I.1 (e:=e)).symm.trans rfl),λ_=>⟨Good.ag λd hd=>(U.1 d hd).1,ds,rfl,v5 J,λd hd=>(U.1 d hd).2⟩,by simp [PV.refs]⟩
  ·exact same _
 all_goals exact same _
/-- the slots that are kept -/
def zG7 (ks:List Nat):Nat->List PV->List PV
 | _,[]=>[]
 | i,p::ps=>(match ks.contains i with
   | true=>zII p
   | false=>.any)::zG7 ks (i+1) ps
theorem zA4 {ks:List Nat}:∀ (l:List PV) (i:Nat),(zG7 ks i l).length=l.length
 | [],i=>rfl
 | p::l,i=>by simp [zG7,zA4 l]
theorem zGo {ks:List Nat}:∀ (l:List PV) (i j:Nat) (q:PV),(zG7 ks i l)[j]?=some q->∃ p,l[j]?=some p/\(q=.any\/q=zII p)
 | [],i,j,q,h=>by simp [zG7] at h
 | p :: l,i,j,q,h=>by
   cases j with
   | zero=>
     simp only [zG7,mz,nE] at h
     refine ⟨p,rfl,?_⟩
     split at h
     ·exact .inr h.symm
     ·exact .inl h.symm
   | succ j=>simp only [zG7,nX] at h ⊢;exact zGo l (i+1) j q h
def St.keep (st:St) (ks:List Nat):St:={ st with sl:=zG7 ks 0 st.sl }
theorem zLV (h:Rel av w0 e0 [] pB a w e st) (ks:List Nat):Rel av w0 e0 [] pB a w e (st.keep ks):=
 zLD h (by rw [zA4];exact oD _) λi q hi=>by
  obtain ⟨p,I,h2 | h2⟩:=zGo _ _ _ _ hi
  ·exact .inl h2
  ·subst h2;exact .inr ⟨p,I,zEH (h.so i p I (by simp))⟩
/-- slots whose nil slice becomes a row -/
def St.nils (st:St):List (Nat × TypeId × Nat)->St
 | []=>st
 | (t,ty,z)::l=>match st.sl[t]? with
   | some (.sv none _ [] 0)=>St.nils { st with sl:=st.sl.set t (.sb st.bx.length z 0 0 0),bx:=st.bx++[.arr ty z [] 0] } l
   | _=>St.nils st l
theorem zGA:∀ (l:List (Nat × TypeId × Nat)) (e:Env) (st:St),Rel av w0 e0 [] [] a w e st->∃ e',Rel av w0 e0 [] [] a w e' (st.nils l)
 | [],e,st,h=>⟨e,h⟩
 | (t, ty,z)::l,e,st,h=>by
   simp only [St.nils]
   split
   ·rename_i zz ht
    have I:=rR h (el:=ty) (z:=z) (by simp)
    have O:Env.at (e++[none]) st.bx.length=none:=by rw [<-h.el];exact Env.at_append_eq
    have h2:Rel av w0 e0 [] [] a w (e++[none]) { st with sl:=st.sl.set t (.sb st.bx.length z 0 0 0),bx:=st.bx++[.arr ty z [] 0] }:={
     I with
     nd:=I.nd
     sz:=by simp;exact I.sz
     hs := λi q hi J=>by
      simp only [nL] at hi
      split at hi
      ·rename_i U
       subst U
       split at hi
       ·simp at hi;subst hi
        have:=(I.hs t _ ht (by simp)).resolve_left (by simp)
        right
        rw [this]
        simp [PV.val,PV.val1,PV.cv,O]
       ·cases hi
      ·exact I.hs i q hi J
     so:=λi q hi J=>by
      simp only [nL] at hi
      split at hi
      ·split at hi
       ·simp at hi;subst hi;trivial
       ·cases hi
      ·exact I.so i q hi J
     sr:=λi q hi J k Y=>by
      simp only [nL] at hi
      split at hi
      ·split at hi
       ·simp at hi;subst hi;simp [PV.refs] at Y;subst Y;simp
       ·cases hi
      ·exact I.sr i q hi J k Y }
    exact zGA l _ _ h2
   ·exact zGA l e st h
/-- a box told anew, with nothing written -/
theorem zLq (h:Rel av w0 e0 [] [] a w e st) {k:Nat} {cs cs':List PV} (hk:st.bx[k]?=some (.var cs)) (hl:cs'.length=cs.length)
  (hc:∀ (i:Nat) (p:PV),cs'[i]?=some p->cs[i]?=some p\/∃ q,cs[i]?=some q/\q≠.any/\p.cv e=q.cv e/\(∀ live,p.Ok w live)/\p.isC/\∀ r∈p.refs,r<st.bx.length) :
  Rel av w0 e0 [] [] a w e { st with bx:=st.bx.set k (.var cs') }:=by
 have hkl:=(oC.1 hk).1
 have hget:∀ (j:Nat) (B:Bx),(st.bx.set k (.var cs'))[j]?=some B->(j=k/\B=.var cs')\/(j≠k/\st.bx[j]?=some B):=fun j B hj=>by
  rw [nL] at hj
  split at hj
  ·rename_i hkj
   first
    | (cases hj;exact .inl ⟨hkj.symm,rfl⟩)
    | (split at hj
       ·cases hj;exact .inl ⟨hkj.symm,rfl⟩
       ·cases hj)
  ·rename_i hkj;exact .inr ⟨fun hc=>hkj hc.symm,hj⟩
 have hlv:∀ j b,Lives [] e (st.bx.set k (.var cs')) j b↔Lives [] e st.bx j b:=fun j b=>by
  constructor
  ·rintro ⟨h1,h2,B,h3,h4⟩
   rcases hget j B h3 with ⟨rfl,rfl⟩ | ⟨h5,h6⟩
   ·exact ⟨h1,h2,_,hk,by simp⟩
   ·exact ⟨h1,h2,B,h6,h4⟩
  ·rintro ⟨h1,h2,B,h3,h4⟩
   by_cases hjk:j=k
   ·subst hjk;exact ⟨h1,h2,.var cs',by rw [nC hkl],by simp⟩
   ·exact ⟨h1,h2,B,by rw [ow (Ne.symm hjk)];exact h3,h4⟩
 have hlive:∀ b,zT av [] e (st.bx.set k (.var cs')) b->zT av [] e st.bx b:=fun b hb=>hb.imp id fun ⟨j,hj⟩=>⟨j,(hlv j b).1 hj⟩
 have hok:=h.bo k _ hk (by simp)
 obtain ⟨ho1,ho2⟩:=hok
 rw [PV.OkL_iff] at ho1
 exact { h with
  el:=by simp;exact h.el
  br := fun j B hj hn=>by
   rcases hget j B hj with ⟨rfl,rfl⟩ | ⟨_,h6⟩
   ·obtain ⟨b,c,t,g1,g2,g3,g4⟩:=h.br _ _ hk (by simp)
    refine ⟨b,c,t,g1,g2,by rw [g3,hl],fun i p hp=>?_⟩
    rcases hc i p hp with h7 | ⟨q,h7,h8,h9,_⟩
    ·exact g4 i p h7
    ·rcases g4 i q h7 with h10 | h10
     ·exact absurd h10 h8
     ·exact .inr (by rw [h9];exact h10)
   ·exact h.br j B h6 hn
  bo := fun j B hj hn=>by
   rcases hget j B hj with ⟨rfl,rfl⟩ | ⟨_,h6⟩
   ·refine ⟨PV.OkL_iff.2 fun p hp=>?_,fun p hp=>?_⟩
    ·obtain ⟨i,hi⟩:=oR.1 hp
     rcases hc i p hi with h7 | ⟨q,_,_,_,h9,_⟩
     ·exact PV.Ok.mono (fun _ _ _=>rfl) (oD _) (fun b _=>hlive b) p (ho1 p (oB h7))
     ·exact h9 _
    ·obtain ⟨i,hi⟩:=oR.1 hp
     rcases hc i p hi with h7 | ⟨q,_,_,_,_,h9,_⟩
     ·exact ho2 p (oB h7)
     ·exact .inr h9
   ·exact (h.bo j B h6 hn).mono (fun _ _ _=>rfl) (oD _) fun b _=>hlive b
  bf:=fun j B hj hn i hi=>by
   refine ⟨by simp,?_⟩
   rw [nP]
   rcases hget j B hj with ⟨rfl,rfl⟩ | ⟨_,h6⟩
   ·simp only [Bx.refs] at hi
    obtain ⟨p,hp,hip⟩:=PV.refsL_mem.1 hi
    obtain ⟨n,hn⟩:=oR.1 hp
    rcases hc n p hn with h7 | ⟨q,_,_,_,_,_,h9⟩
    ·exact (h.bf _ _ hk (by simp) i (by simp only [Bx.refs];exact PV.refsL_mem.2 ⟨p,oB h7,hip⟩)).2
    ·exact h9 i hip
   ·exact (h.bf j B h6 hn i hi).2
  inj:=fun i j b hi hj=>h.inj i j b ((hlv i b).1 hi) ((hlv j b).1 hj)
  so:=fun i p hp hn=>PV.Ok.mono (fun _ _ _=>rfl) (oD _) (fun b _=>hlive b) p (h.so i p hp hn)
  sr:=fun i p hp hn r hr=>by rw [nP];exact h.sr i p hp hn r hr
  own:=fun j b hj=>h.own j b ((hlv j b).1 hj)
  avn:=fun j b hj=>h.avn j b ((hlv j b).1 hj) }
/-- cells of a variable's box whose nil slice becomes a row: the variable's slot, the cell, the element's type and kind -/
def St.bnils (st:St):List (Nat × Nat × TypeId × Nat)->St
 | []=>st
 | (t, j,ty,z)::l=>match st.sl[t]? with
   | some (.pb k _ _ _)=>match st.bx[k]? with
     | some (.var cs)=>match cs[j]? with
       | some (.sv none _ [] 0)=>St.bnils { st with bx:=List.set (st.bx++[Bx.arr ty z [] 0]) k (Bx.var (cs.set j (PV.sb st.bx.length z 0 0 0))) } l
       | _=>St.bnils st l
     | _=>St.bnils st l
   | _=>St.bnils st l
theorem rF:∀ (l:List (Nat × Nat × TypeId × Nat)) (e:Env) (st:St),Rel av w0 e0 [] [] a w e st->∃ e',Rel av w0 e0 [] [] a w e' (st.bnils l)
 | [],e,st,h=>⟨e,h⟩
 | (t, j,ty,z)::l,e,st,h=>by
   simp only [St.bnils]
   split
   ·split
    ·split
     ·rename_i k _ _ _ _ _ cs hk _ zz hj
      have h1:=rR h (el:=ty) (z:=z) (by simp)
      have J:Env.at (e++[none]) st.bx.length=none:=by rw [<-h.el];exact Env.at_append_eq
      have O:=(oC.1 hk).1
      have U:(st.bx++[Bx.arr ty z [] 0])[k]?=some (.var cs):=by rw [oM O];exact hk
      exact rF l _ _ (zLq h1 U (cs':=cs.set j (.sb st.bx.length z 0 0 0)) (by simp) λi p I=>by
       rw [nL] at I
       split at I
       ·rename_i Y
        subst Y
        split at I
        ·cases I
         exact .inr ⟨_,hj,by simp,by simp [PV.cv,J],λ_=>trivial,trivial,λr hr=>by simp [PV.refs] at hr;subst hr;simp⟩
        ·cases I
       ·exact .inl I)
     ·exact rF l e st h
    ·exact rF l e st h
   ·exact rF l e st h
def St.sel (st:St) (ks:List Nat):St:={ st with sl:=st.sl.map (zM4 ks),bx:=ks.map λk=>(st.bx.getD k .gone).ren ks }
theorem zLh (h:Rel av w0 e0 [] [] a w e st) {ks:List Nat} (hn:ks.Nodup) (aq:∃ l,ks=List.range st.pins.length++l):Rel av w0 e0 [] [] a w (qB e ks) (st.sel ks):=by
 have aj:∀ j,j<st.pins.length->ks[j]?=some j:=λj J=>by
  obtain ⟨l,rfl⟩:=aq
  rw [oM (by simpa using J)]
  simp [J]
 have am:∀ j k,ks[j]?=some k->k<st.pins.length->j=k:=λj k J Y=>by
  have U:=aj k Y
  obtain ⟨a1,a2⟩:=oC.1 U
  obtain ⟨b1,b2⟩:=oC.1 J
  exact (List.getElem_inj hn).1 (b2.trans a2.symm)
 have ab:∀ (j:Nat) (B':Bx),(ks.map λk=>(st.bx.getD k .gone).ren ks)[j]?=some B'->∃ k,ks[j]?=some k/\B'=(st.bx.getD k .gone).ren ks/\(qB e ks).at j=e.at k:=λj B' J=>by
  rw [oE] at J
  cases Y:ks[j]? with
  | none=>simp [Y] at J
  | some k=>simp [Y] at J;exact ⟨k,rfl,by simp [J],by simp [qB,Env.at,oA,Y]⟩
 have au:∀ k,(st.bx.getD k .gone).ren ks≠.gone->∃ B,st.bx[k]?=some B/\B≠.gone/\(st.bx.getD k .gone)=B:=λk Y=>by
  rw [oA] at Y ⊢
  cases hB:st.bx[k]? with
  | none=>rw [hB] at Y;exact absurd rfl Y
  | some B=>
    rw [hB] at Y
    refine ⟨B,rfl,λhc=>Y ?_,rfl⟩
    simp only [o9];rw [hc];rfl
 have I:∀ j b,Lives [] (qB e ks) (ks.map λk=>(st.bx.getD k .gone).ren ks) j b->∃ k,ks[j]?=some k/\Lives [] e st.bx k b:=λj b ⟨_,O,B',h3,h4⟩=>by
  obtain ⟨k,h5,rfl,h6⟩:=ab j B' h3
  obtain ⟨B,h7,h8,_⟩:=au k h4
  exact ⟨k,h5,by simp,by rw [<-h6];exact O,B,h7,h8⟩
 have ac:∀ b,zT av [] (qB e ks) (ks.map λk=>(st.bx.getD k .gone).ren ks) b->zT av [] e st.bx b:=λb hb=>hb.imp id λ⟨j,J⟩=>by
  obtain ⟨k,_,O⟩:=I j b J;exact ⟨k,O⟩
 have ak:∀ p:PV,p.Ok w (zT av [] e st.bx)->p.Ok w (zT av [] (qB e ks) (ks.map λk=>(st.bx.getD k .gone).ren ks)):=λp=>PV.Ok.mono (λ_ _ _=>rfl) (oD _) (λb _=>ac b) p
 have aa:∀ (i:Nat) (q:PV),(st.sl.map (zM4 ks))[i]?=some q->q=.any\/∃ p,st.sl[i]?=some p/\PV.ren ks p=some q:=λi q hi=>by
  rw [oE] at hi
  cases hp:st.sl[i]? with
  | none=>simp [hp] at hi
  | some p=>
    simp [hp,zM4] at hi
    split at hi
    ·rename_i q' hq;subst hi;exact .inr ⟨p,rfl,hq⟩
    ·exact .inl hi.symm
 exact {
  el:=by simp [qB,St.sel]
  br := λj B' J _=>by
   obtain ⟨k,U,rfl,O⟩:=ab j B' J
   rw [O]
   rw [oA]
   cases hB:st.bx[k]? with
   | none=>exact True.intro
   | some B=>
     have h3:=h.br k B hB (by simp)
     simp only [o9]
     cases B with
     | var cs=>
       obtain ⟨b,c,t,g1,g2,g3,g4⟩:=h3
       refine ⟨b,c,t,g1,g2,by simpa using g3,λi p hp=>?_⟩
       rw [oE] at hp
       cases al:cs[i]? with
       | none=>simp [al] at hp
       | some q=>
         simp [al,zM4] at hp
         split at hp
         ·rename_i q' hq
          subst hp
          have h5:=xb (e:=e) hq
          rcases g4 i q al with g5 | g5
          ·exact .inl (h5.an.1 g5)
          ·exact .inr (by rw [<-h5.cv];exact g5)
         ·exact .inl hp.symm
     | _=>exact h3
  bo := λj B' J _=>by
   obtain ⟨k,U,rfl,O⟩:=ab j B' J
   rw [oA]
   cases hB:st.bx[k]? with
   | none=>exact True.intro
   | some B=>
     have h3:=(h.bo k B hB (by simp)).mono (w':=w) (live':=zT av [] (qB e ks) (ks.map λk=>(st.bx.getD k .gone).ren ks)) (λ_ _ _=>rfl) (oD _) λb _=>ac b
     simp only [o9]
     cases B with
     | var cs=>
       obtain ⟨g1,g2⟩:=h3
       rw [PV.OkL_iff] at g1
       refine ⟨PV.OkL_iff.2 λp hp=>?_,λp hp=>?_⟩
       ·obtain ⟨q,hq,rfl⟩:=oQ.1 hp
        unfold zM4
        split
        ·rename_i q' ae;exact (xb (e:=e) ae).ok _ _ (g1 q hq)
        ·trivial
       ·obtain ⟨q,hq,rfl⟩:=oQ.1 hp
        unfold zM4
        split
        ·rename_i q' ae
         have h5:=xb (e:=e) ae
         rcases g2 q hq with g3 | g3
         ·exact .inl (h5.an.1 g3)
         ·exact .inr (h5.ic g3)
        ·exact .inl rfl
     | _=>exact h3
  bf := λj B' J _ i hi=>by
   refine ⟨by simp,?_⟩
   obtain ⟨k,U,rfl,O⟩:=ab j B' J
   simp only [St.sel,oV]
   rw [oA] at hi
   cases hB:st.bx[k]? with
   | none=>rw [hB] at hi;simp [Bx.ren,Bx.refs] at hi
   | some B=>
     rw [hB] at hi
     simp only [o9] at hi
     cases B with
     | var cs=>
       simp only [Bx.ren,Bx.refs] at hi
       obtain ⟨p,hp,ah⟩:=PV.refsL_mem.1 hi
       obtain ⟨q,hq,rfl⟩:=oQ.1 hp
       unfold zM4 at ah
       split at ah
       ·rename_i q' ae;exact (xb (e:=e) ae).rf i ah
       ·simp [PV.refs] at ah
     | _=>simp [Bx.ren,Bx.refs] at hi
  inj:=λi j b hi J=>by
   obtain ⟨k,U,O⟩:=I i b hi
   obtain ⟨l,h3,h4⟩:=I j b J
   have aw:=h.inj k l b O h4
   subst aw
   have ax:=(oC.1 U)
   have ay:=(oC.1 h3)
   obtain ⟨a4,az⟩:=ax
   obtain ⟨a5,a3⟩:=ay
   exact (List.getElem_inj hn).1 (az.trans a3.symm)
  ku:=h.ku
  size:=h.size
  old:=h.old
  fz:=h.fz
  nd:=h.nd
  sz:=by simp [St.sel];exact h.sz
  hN:=h.hN
  hs:=λi q hi ai=>by
   rcases aa i q hi with U | ⟨p,U,O⟩
   ·exact .inl U
   ·rcases h.hs i p U ai with h3 | h3
    ·exact .inl ((xb (e:=e) O).an.1 h3)
    ·exact .inr (h3.trans (zMD O))
  so:=λi q hi ai=>by
   rcases aa i q hi with U | ⟨p,U,O⟩
   ·subst U;trivial
   ·exact (xb (e:=e) O).ok _ _ (ak p (h.so i p U ai))
  sr:=λi q hi ai k Y=>by
   rcases aa i q hi with U | ⟨p,U,O⟩
   ·subst U;simp [PV.refs] at Y
   ·exact ⟨by simp,by simp only [St.sel,oV];exact (xb (e:=e) O).rf k Y⟩
  own:=λj b J=>by
   obtain ⟨k,U,O⟩:=I j b J
   rcases h.own k b O with h3 | ⟨h3,h4⟩
   ·exact .inl h3
   ·exact .inr ⟨h3,by rw [am j k U h4];exact h4⟩
  avl:=h.avl
  avn:=λj b J=>by obtain ⟨k,_,O⟩:=I j b J;exact h.avn k b O
  pin:=λk b hb=>by
   have ao:st.pins[k]?=some (some b):=hb
   have Y:=aj k (oC.1 ao).1
   exact ⟨by have:=(h.pin k b ao).1;simpa [qB,Env.at,oA,Y] using this,by simp⟩
  pit:=h.pit }
def St.canon (st:St) (K:St->Prop):Prop:=match st.pins with
 | []=>K (st.sel (pc st.bx 200 (PV.refsL st.sl) []))
 | L=>K (st.sel (List.range L.length++(pc st.bx 200 (List.range L.length++PV.refsL st.sl) []).filter (Nat.ble L.length)))
theorem zLx (h:Rel av w0 e0 [] [] a w e st) {K:St->Prop} (hs:st.canon K):∃ e' st',K st'/\Rel av w0 e0 [] [] a w e' st':=by
 have J:=v9 (bx:=st.bx) 200 (PV.refsL st.sl) [] mD
 unfold St.canon at hs
 split at hs
 ·rename_i I
  exact ⟨_,_,hs,zLh h J ⟨_,by rw [I];rfl⟩⟩
 ·rename_i I
  refine ⟨_,_,hs,zLh h ?_ ⟨_,rfl⟩⟩
  refine nQ.2 ⟨List.nodup_range,(v9 200 _ [] mD).filter _,λx O y U Y=>?_⟩
  have h1:=List.mem_range.1 O
  have h2:=mT (ny.1 U).2
  omega
structure Cut where
 id:Nat
 keep:List Nat
 nils:List (Nat × TypeId × Nat):=[]
 cl:List Nat:=[]
 bnils:List (Nat × Nat × TypeId × Nat):=[]
def zSV (N0:Option Nat) (c:Cut) (st:St) (K:St->Prop):Prop:=ri N0 #[] [] c.cl c.keep st λst=>St.canon (St.bnils (St.nils (St.keep st c.keep) c.nils) c.bnils) K
theorem zEO (h:Rel av w0 e0 [] [] a w e st) {N0:Option Nat} (I:NOk N0 w0) {c:Cut} {K:St->Prop} (hs:zSV N0 c st K):∃ e' st',K st'/\Rel av w0 e0 [] [] a w e' st':=by
 obtain ⟨J,T,O,_,_,U⟩:=ww h I (by simp) hs
 obtain ⟨e1,Y⟩:=zGA c.nils _ _ (zLV U c.keep)
 obtain ⟨e2,h4⟩:=rF c.bnils _ _ Y
 exact zLx h4 O
mutual
def zHH (p:PV) (K:PV->Prop):Prop:=match p with
 | .any=>K .any
 | .int k n=>K (.int k n)
 | .bool v=>K (.bool v)
 | .str v=>K (.str v)
 | .lit x=>K (.lit x)
 | .sv a z es c=>K (.sv a z es c)
 | .d x=>K (.d x)
 | .dc x=>K (.dc x)
 | .dg n x=>K (.dg n x)
 | .pb k z i o=>K (.pb k z i o)
 | .pd ad z x=>K (.pd ad z x)
 | .sb k z lo n c=>K (.sb k z lo n c)
 | .fn f caps=>zA5 caps λl=>K (.fn f l)
 | .pg cs=>zA5 cs λl=>K (.pg l)
 | .tp cs=>zA5 cs λl=>K (.tp l)
def zA5 (l:List PV) (K:List PV->Prop):Prop:=match l with
 | []=>K []
 | p::ps=>zHH p λp=>zA5 ps λps=>K (p::ps)
end
mutual
theorem zM0:∀ (p:PV) (K:PV->Prop),zHH p K=K p
 | .fn f caps,K=>by simp only [zHH];exact tF caps _
 | .pg cs,K=>by simp only [zHH];exact tF cs _
 | .tp cs,K=>by simp only [zHH];exact tF cs _
 | .any,K=>rfl
 | .int ..,K=>rfl
 | .bool ..,K=>rfl
 | .str ..,K=>rfl
 | .lit ..,K=>rfl
 | .sv ..,K=>rfl
 | .d ..,K=>rfl
 | .dc ..,K=>rfl
 | .dg ..,K=>rfl
 | .pd ..,K=>rfl
 | .pb ..,K=>rfl
 | .sb ..,K=>rfl
theorem tF:∀ (l:List PV) (K:List PV->Prop),zA5 l K=K l
 | [],K=>rfl
 | p::ps,K=>by simp only [zA5];rw [zM0,tF]
end
def zKu (B:Bx) (K:Bx->Prop):Prop:=match B with
 | .var cs=>zA5 cs λcs=>K (.var cs)
 | .vd x n=>K (.vd x n)
 | .arr t z es c=>K (.arr t z es c)
 | .gone=>K .gone
theorem zMN (B:Bx) (K:Bx->Prop):zKu B K=K B:=by
 cases B<;>simp only [zKu]
 exact tF _ _
def zGI (l:List Bx) (K:List Bx->Prop):Prop:=match l with
 | []=>K []
 | B::bs=>zKu B λB=>zGI bs λbs=>K (B::bs)
theorem zEQ:∀ (l:List Bx) (K:List Bx->Prop),zGI l K=K l
 | [],K=>rfl
 | B::bs,K=>by simp only [zGI];rw [zMN,zEQ]
def zBU (st:St) (K:St->Prop):Prop:=zA5 st.sl λsl=>zGI st.bx λbx=>K { st with sl:=sl,bx:=bx }
theorem rM (st:St) (K:St->Prop):zBU st K=K st:=by simp only [zBU];rw [tF,zEQ]
end Go.Proofs.YtnmnahkkcfghjaaGreat
