/- Data as plain trees, and what the laws' first look at them (their size) comes to. -/
import Derived.IntWalk
import Derived.Test.YtldbmnklnpfpfaaGreatDoorKa
set_option linter.unusedVariables false
set_option linter.unusedSimpArgs false
namespace Go.Proofs.YtldbmnklnpfpfaaGreatDoor
open Go Go.Proofs Go.Proofs.Tryz Go.IntWalk
inductive Ty where
 | mk (k:Int) (l:List Ty)
mutual
def Ty.Is:Ty->D->Prop
 | .mk k l,d=>∃ a es c,d=.ag [.j k,.sl a 2 es c]/\es.length<=4611686018427387904/\TysIs l es
def TysIs:List Ty->List D->Prop
 | [],es=>es=[]
 | t::ts,es=>∃ d ds,es=d::ds/\t.Is d/\TysIs ts ds
end
theorem TysIs.len:∀ {ts:List Ty}{es:List D},TysIs ts es->es.length=ts.length
 | [],es,h=>by simp[TysIs]at h;subst h;rfl
 | t::ts,es,h=>by simp only[TysIs]at h;obtain⟨d,ds,rfl,_,h⟩:=h;simp[TysIs.len h]
theorem Br.of {v:Bool}{A B:Prop}(I:v=true->A)(J:v=false->B):Br v A B:=by
 cases v
 ·exact J rfl
 ·exact I rfl
theorem pu {pre ds:List D}{d:D}:(pre++d::ds).getD pre.length default=d:=by simp[oA]
structure OwnL (N N':Nat) (es:List D):Prop where
 nd:(zA es).Nodup
 fl:tU es
 lo:∀ b∈zA es,N<=b
 hi:∀ b∈zA es,b<N'
structure Own (N N':Nat) (d:D):Prop where
 nd:d.foot.Nodup
 fl:d.Flat0
 lo:∀ b∈d.foot,N<=b
 hi:∀ b∈d.foot,b<N'
theorem Own.mono {N1 J O U:Nat}{d:D}(h:Own N1 J d)(V:O<=N1)(Y:J<=U):Own O U d:=⟨h.nd,h.fl,λb I=>o8 V (h.lo b I),λb I=>om (h.hi b I) Y⟩
theorem OwnL.mono {N1 J O U:Nat}{es:List D}(h:OwnL N1 J es)(V:O<=N1)(Y:J<=U):OwnL O U es:=⟨h.nd,h.fl,λb I=>o8 V (h.lo b I),λb I=>om (h.hi b I) Y⟩
theorem Ja {N N':Nat}:OwnL N N' []:=⟨by simp[zA],trivial,by simp[zA],by simp[zA]⟩
theorem sS:∀ {a b:List D},tU a->tU b->tU (a++b)
 | [],b,_,h=>h
 | x::a,b,I,J=>⟨I.1,sS I.2 J⟩
theorem yK {N N1 O:Nat}{es fs:List D}(I:OwnL N N1 es)(J:OwnL N1 O fs)(hN:N<=N1)(U:N1<=O):OwnL N O (es++fs):=by
 refine⟨?_,sS I.fl J.fl,λb hb=>?_,λb hb=>?_⟩
 ·rw[zP,o9];refine⟨I.nd,J.nd,λx V y Y Z=>?_⟩
  have:=I.hi x V;have:=J.lo y Y;omega
 ·rw[zP]at hb;rcases oO.1 hb with hb | hb
  ·exact I.lo b hb
  ·have:=J.lo b hb;omega
 ·rw[zP]at hb;rcases oO.1 hb with hb | hb
  ·have:=I.hi b hb;omega
  ·exact J.hi b hb
theorem yL {N N':Nat}{d:D}(h:Own N N' d):OwnL N N' [d]:=⟨by simpa [zA]using h.nd,⟨h.fl,trivial⟩,by simpa [zA]using h.lo,by simpa [zA]using h.hi⟩
theorem yZ {N N':Nat}{x:Value}{es:List D}(h:OwnL N N' es):OwnL N N' (.lit x::es):=⟨by simpa [zA,D.foot]using h.nd,⟨trivial,h.fl⟩,by simpa [zA,D.foot]using h.lo,by simpa [zA,D.foot]using h.hi⟩
theorem Dn {N N':Nat}{cs:List D}(h:OwnL N N' cs):Own N N' (.ag cs):=⟨by simpa only[D.foot]using h.nd,h.fl,by simpa only[D.foot]using h.lo,by simpa only[D.foot]using h.hi⟩
theorem Bm {N N1 N3:Nat}{a:Option Addr}{z c:Nat}{es ds:List D}(h:OwnL N N1 es)(O:Fresh N N3 a (.ag es::ds))(hN:N1<=N3):Own N N3 (.sl a z es c):=by
 cases a with
 | none=>exact⟨by simpa only[D.foot]using h.nd,⟨by simp,h.fl⟩,by simpa only[D.foot]using h.lo,λb hb=>by simp only[D.foot]at hb;have:=h.hi b hb;omega⟩
 | some ad=>
   have J:=O.ap ad rfl (.ag es) (by simp);simp only[D.foot]at J;have I:∀ b∈(D.sl (some ad) z es c).foot,b=ad.block\/b∈zA es:=λb hb=>by
    simp only[D.foot]at hb;split at hb
    ·simp at hb
    ·exact oH.1 hb
   refine⟨?_,⟨λU V=>by cases V;exact O.off ad rfl,h.fl⟩,λb hb=>?_,λb hb=>?_⟩
   ·simp only[D.foot];split
    ·exact mZ
    ·exact nV.2 ⟨J,h.nd⟩
   ·rcases I b hb with rfl | hb
    ·exact O.lo ad rfl
    ·exact h.lo b hb
   ·rcases I b hb with rfl | hb
    ·exact O.hi ad rfl
    ·have:=h.hi b hb;omega
theorem TysIs.snoc:∀ {ts:List Ty}{es:List D}{t:Ty}{d:D},TysIs ts es->t.Is d->TysIs (ts++[t]) (es++[d])
 | [],es,t,d,h,I=>by simp[TysIs]at h;subst h;exact⟨d,[],rfl,I,rfl⟩
 | u::ts,es,t,d,h,I=>by simp only[TysIs]at h;obtain⟨x,ds,rfl,J,O⟩:=h;exact⟨x,ds++[d],rfl,J,TysIs.snoc O I⟩
theorem IK {done junk:List D}{x y:D}:(done++y::junk).set done.length x=done++x::junk:=by simp
mutual
def Ty.cnt:Ty->Nat
 | .mk _ l=>1+zI l
def zI:List Ty->Nat
 | []=>0
 | t::ts=>t.cnt+zI ts
end
mutual
def GT:Ty->Int->Ty × Int
 | .mk _ l,k=>(.mk k (zH l (k+1)).1,(zH l (k+1)).2)
def zH:List Ty->Int->List Ty × Int
 | [],k=>([],k)
 | t::ts,k=>((GT t k).1::(zH ts (GT t k).2).1,(zH ts (GT t k).2).2)
end
mutual
theorem MM:∀(t:Ty) (k:Int),(GT t k).2=k+t.cnt
 | .mk _ l,k=>by simp only[GT,Ty.cnt,yw l (k+1)];omega
theorem yw:∀(l:List Ty) (k:Int),(zH l k).2=k+zI l
 | [],k=>by simp[zH,zI]
 | t::ts,k=>by simp only[zH,zI,yw ts,MM t k];omega
end
mutual
theorem JV:∀(t:Ty) (k:Int),(GT t k).1.cnt=t.cnt
 | .mk kk l,k=>by simp only[GT,Ty.cnt,uY l]
theorem uY:∀(l:List Ty) (k:Int),zI (zH l k).1=zI l
 | [],k=>rfl
 | t::ts,k=>by simp only[zH,zI,JV t,uY ts]
end
theorem Own.tree {N N':Nat}{d:D}(h:Own N N' d):Tree d:=⟨h.nd,h.fl⟩
theorem Own.low {N N' M:Nat}{d:D}(h:Own N N' d)(I:M<=N):Low M d:=⟨λb J=>o8 I (h.lo b J)⟩
theorem Ie {N N':Nat}{d x:D}(h:Own N N' d)(I:Bel N x):∀ b∈d.foot,b∉x.foot:=λb J hc=>by have:=h.lo b J;have:=I b hc;omega
theorem Bel.mono {N M:Nat}{x:D}(h:Bel N x)(I:N<=M):Bel M x:=λb J=>om (h b J) I
theorem Hf {P:Program}{f:FuncId}{z c:Nat}{es:List D}{k:Int}{N:Nat}{R:D->Int->Nat->Prop}(hc:zt P f=true)(I:es≠[]):MC P f (.sl none z es c) k N R:=
 ⟨hc,λw0 _ _ _ _ J _=>by cases J;exact absurd rfl I⟩
theorem rx {done ds:List D}{d d':D}(h:(zA (done++d::ds)).Nodup)(I:d'.foot=d.foot):(zA (done++d'::ds)).Nodup:=by simpa only[zP,zA,I]using h
theorem BZ {done ds:List D}{d d':D}(I:d'.foot=d.foot):zA (done++d'::ds)=zA (done++d::ds):=by simp only[zP,zA,I]
theorem uE {a:Option Addr}{z c:Nat}{es es':List D}(J:es'.length=es.length)(I:zA es'=zA es):(D.sl a z es' c).foot=(D.sl a z es c).foot:=by
 cases a with
 | none=>simp only[D.foot,I]
 | some ad=>
   have:es'.isEmpty=es.isEmpty:=by cases es<;>cases es'<;>simp at J ⊢
   simp only[D.foot,I,this]
mutual
theorem vJ:∀(l:List Ty) (es:List D),TysIs l es->∀(a:Option Addr) (c:Nat),Tree (.sl a 2 es c)->es.length<=4611686018427387904->∀(k:Int),0<=k->k+zI l<=4611686018427387904->∀(N:Nat) (R:D->Int->Nat->Prop),
  (∀ es' N',N<=N'->TysIs (zH l k).1 es'->zA es'=zA es->es'.length=es.length->R (.sl a 2 es' c) (zH l k).2 N')->MC prog 52 (.sl a 2 es c) k N R
 | l, es,au,a,c,ab,Y,k,hk,ai,N,R,hR=>by
   by_cases aj:es=[]
   ·subst aj
    have hl:l=[]:=by have:=au.len;simp at this;exact oV this.symm
    subst hl
    refine KC (qr N a [] c k _ λ_=>sX (Br.of (λhc=>?_) λ_ N2 aw=>?_))
    ·simp at hc
    ·exact hR [] N2 aw (by simp[zH,TysIs]) rfl rfl
   ·cases a with
    | none=>exact Hf (by kernel_rfl) aj
    | some ad=>
      refine qf N ad es c k R (λk' x N'=>N<=N'/\∃ es',x=.ag es'/\es'.length=es.length/\zA es'=zA es/\TysIs (zH l k).1 es'/\k'=(zH l k).2) ab aj (by unfold maxLen;omega) (λt=>?_) ?_
      ·have Z:=ab.nd
       have ac:(D.sl (some ad) 2 es c).foot=ad.block::zA es:=by simp[D.foot,aj]
       have ae:∀ b∈zA es,b∈(D.sl (some ad) 2 es c).foot:=λb hb=>by rw[ac];simp[hb]
       rw[ac]at Z
       have:=FI l es au [] [] (by simp[TysIs]) es rfl (nV.1 Z).2 ab.fl.2 Y (D.sl (some ad) 2 es c).foot ae ad.block N es.length c t k hk ai (zH l k).1 (zH l k).2 (by simp) rfl es.length N (oG _)
       simpa using this
      ·rintro k' x N' ⟨az,es',rfl,h1,h2,h3,rfl⟩
       exact⟨es',rfl,h1,h2,hR es' N' az h3 h2 h1⟩
theorem FI:∀(l:List Ty) (rest:List D),TysIs l rest->∀(J:List Ty) (done:List D),TysIs J done->∀(es:List D),zA (done++rest)=zA es->(zA (done++rest)).Nodup->tU rest->(done++rest).length<=4611686018427387904 ->
  ∀(T:List Nat),(∀ b∈zA es,b∈T)->∀(b0 N m c t:Nat) (k:Int),0<=k->k+zI l<=4611686018427387904->∀(L:List Ty) (K:Int),L=J++(zH l k).1->K=(zH l k).2->∀(q N1:Nat),N<=N1->m=(done++rest).length ->
  zq T b0 (λk' x N'=>N<=N'/\∃ es',x=.ag es'/\es'.length=m/\zA es'=zA es/\TysIs L es'/\k'=K) N m c k done.length t (done++rest) q N1
 | [],rest,hr,J,done,hd,es,hf,Z,ao,Y,T,hT,b0,N,m,c,t,k,hk,ai,L,K,hL,hK,q,N1,a6,hm=>by
   simp[TysIs]at hr
   subst hr
   rw[nH]at *
   refine xm (Br.of (λhc=>?_) λ_=>⟨rfl,λN3 a7=>⟨by omega,done,rfl,hm.symm,hf,?_,?_⟩⟩)
   ·have:=mH hc;omega
   ·rw[hL];simpa [zH]using hd
   ·rw[hK];simp[zH]
 | .mk kk lt::ts,rest,hr,J,done,hd,es,hf,Z,ao,Y,T,hT,b0,N,m,c,t,k,hk,ai,L,K,hL,hK,q,N1,a6,hm=>by
   simp only[TysIs]at hr
   obtain⟨d,ds,rfl,ax,a8⟩:=hr
   simp only[Ty.Is]at ax
   obtain⟨U,I,V,rfl,aq,ba⟩:=ax
   simp only[zI,Ty.cnt]at ai
   have ah:(done.length:Int)<(m:Int):=by rw[hm];simp;omega
   have aa:∀ d:D,done.length<(done++d::ds).length:=λd=>by simp
   have bb:∀ x:Value,(D.ag [.lit x,.sl U 2 I V]).foot=(D.ag [.j kk,.sl U 2 I V]).foot:=λx=>by simp only[D.foot,zA]
   have ae:∀ b∈(D.sl U 2 I V).foot,b∈zA (done++D.ag [.j kk,.sl U 2 I V]::ds):=λb hb=>by
    rw[zP]
    refine oZ _ ?_
    simp only[zA,D.foot]at hb ⊢
    simp[hb]
   have ak:(D.sl U 2 I V).foot.Nodup:=by
    rw[zP,o9]at Z
    have:=Z.2.1
    simp only[zA]at this
    rw[o9]at this
    have:=this.1
    simpa only[D.foot,zA,o6,nH]using this
   have al:(D.sl U 2 I V).Flat0:=ao.1.2.1
   have bc:z6 0 [(D.j k)] (D.cells (.ag [.j kk,.sl U 2 I V]))=[.j k,.sl U 2 I V]:=rfl
   refine xm (Br.of (λ_=>?_) λhc=>absurd ah (mX hc))
   rw[oX,nX,pu,bc,IK,pu]
   refine⟨⟨by omega,ah,aa _⟩,aa _,⟨by omega,ah,aa _⟩,aa _,U,I,V,rfl,⟨ak,al⟩,⟨λb hb=>hT b (hf ▸ ae b hb)⟩,aa _,by simp[D.cells],rfl,⟨rx Z (bb _)⟩,⟨by simp⟩,λN2 aw=>?_⟩
   rw[i64_in (k+1) (by omega)]
   refine vJ lt I ba U V ⟨ak,al⟩ aq (k+1) (by omega) (by omega) N2 _ λO N3 a7 h1 h2 h3 _=>?_
   rw[IK,i64_in _ (by rw[hm]at ah;simp at ah Y;omega)]
   have bd:z6 1 [D.sl U 2 O V] (D.cells (.ag [.j k,.sl U 2 I V]))=[.j k,.sl U 2 O V]:=rfl
   rw[bd]
   have ay:(D.ag [.j k,.sl U 2 O V]).foot=(D.ag [.j kk,.sl U 2 I V]).foot:=by
    have:=uE (a:=U) (z:=2) (c:=V) h3 h2
    simp only[D.foot,zA]at this ⊢
    rw[this]
   have bg:=yw lt (k+1)
   have:=FI ts ds a8 (J++[.mk k (zH lt (k+1)).1]) (done++[.ag [.j k,.sl U 2 O V]]) (hd.snoc (t:=.mk k (zH lt (k+1)).1) (by simp only[Ty.Is];exact⟨U,O,V,rfl,by omega,h1⟩)) es
    (by rw[oL,mO,BZ ay];exact hf) (by rw[oL,mO];exact rx Z ay) ao.2 (by simpa using Y) T hT b0 N m c t (zH lt (k+1)).2
    (by omega) (by rw[bg];omega) L K (by rw[hL];simp[zH,GT]) (by rw[hK];simp[zH,GT]) q N3 (by omega) (by rw[hm];simp)
   have e1:((done++[D.ag [.j k,.sl U 2 O V]]).length:Int)=(done.length:Int)+1:=by simp
   rw[e1]at this
   simpa using this
end
mutual
def Fv:Ty->Ty->Bool
 | .mk k l,.mk k' l'=>k==k'&&wt l l'
def wt:List Ty->List Ty->Bool
 | [],[]=>true
 | t::ts,u::us=>Fv t u&&wt ts us
 | _,_=>false
end
mutual
theorem Cl:∀(t u:Ty),Fv t u=true↔t=u
 | .mk k l,.mk k' l'=>by simp[Fv,D8 l l']
theorem D8:∀(l m:List Ty),wt l m=true↔l=m
 | [],[]=>by simp[wt]
 | t::ts,u::us=>by simp[wt,Cl t u,D8 ts us]
 | [],u::us=>by simp[wt]
 | t::ts,[]=>by simp[wt]
end
theorem Ad:∀ {l m:List Ty},l.length≠m.length->wt l m=false
 | [],[],h=>absurd rfl h
 | t::ts,u::us,h=>by simp only[wt,Ad (l:=ts) (m:=us) (by simpa using h),Bool.and_false]
 | [],u::us,_=>rfl
 | t::ts,[],_=>rfl
mutual
theorem FG:∀(t u:Ty) (d e:D),t.Is d->u.Is e->∀(N:Nat) (Q:QT [.bool]),(∀ N',N<=N'->Q (Fv t u) N')->ACalls prog 17 [.bool] [.dg 2 d,.dg 2 e] N Q
 | .mk k l,.mk k' l',d,e,hd,U,N,Q,J=>by
   simp only[Ty.Is]at hd U
   obtain⟨a,es,c,rfl,h1,h2⟩:=hd
   obtain⟨a',es',Y,rfl,ah,ai⟩:=U
   simp only[Fv]at J
   refine Cw N _ _ Q λ_ _=>⟨k,rfl,k',rfl,Br.of (λhc N' V=>?_) λhc=>⟨a,es,c,rfl,a',es',Y,rfl,λN1 ab=>?_⟩⟩
   ·have:=J N' V
    have hk:(k==k')=false:=by simpa using hc
    rwa[hk,Bool.false_and]at this
   ·have hk:(k==k')=true:=by simpa using hc
    rw[hk]at J
    refine HC l l' es es' h2 ai h1 ah a c a' Y N1 _ λN2 ac _=>Br.of (λhb N' V=>?_) λhb N' V=>?_
    ·have:=J N' (by omega)
     have O:wt l l'=false:=by simpa using hb
     rwa[O]at this
    ·have:=J N' (by omega)
     have O:wt l l'=true:=by simpa using hb
     rwa[O]at this
theorem HC:∀(l m:List Ty) (es fs:List D),TysIs l es->TysIs m fs->es.length<=4611686018427387904->fs.length<=4611686018427387904->∀(a:Option Addr) (c:Nat) (b:Option Addr) (Y N:Nat) (Q:QT [.bool]),
  (∀ N',N<=N'->Q (wt l m) N')->ACalls prog 51 [.bool] [.sv a 2 es c,.sv b 2 fs Y] N Q
 | l,m,es,fs,U,hf,h1,h2,a,c,b,Y,N,Q,J=>by
   have hl:=U.len
   have hm:=hf.len
   refine BH N a es c b fs Y Q λ_ _=>Br.of (λhc N' V=>?_) λhc=>?_
   ·have:=J N' V
    rwa[Ad (by simp at hc;omega)]at this
   ·have:=J7 l m es fs U hf [] [] (by simp at hc;omega) rfl (by simpa using h1) a c b Y N Q J N (oG _)
    simpa using this
theorem J7:∀(l m:List Ty) (es fs:List D),TysIs l es->TysIs m fs->∀(pre I:List D),l.length=m.length->pre.length=I.length->(pre++es).length<=4611686018427387904->∀(a:Option Addr) (c:Nat) (b:Option Addr) (Y N:Nat) (Q:QT [.bool]),
  (∀ N',N<=N'->Q (wt l m) N')->∀ N1,N<=N1->yo Q N a (pre++es) c b (I++fs) Y pre.length N1
 | [],[],es,fs,U,hf,pre,I,_,hp,h1,a,c,b,Y,N,Q,J,N1,ab=>by
   simp[TysIs]at U hf
   subst U;subst hf
   refine vk (Br.of (λhc=>?_) λ_ N2 ac=>by have:=J N2 (by omega);rwa[wt]at this)
   have:=mH hc
   simp at this
 | t::ts,u::us,es,fs,U,hf,pre,I,Z,hp,h1,a,c,b,Y,N,Q,J,N1,ab=>by
   simp only[TysIs]at U hf
   obtain⟨d,ds,rfl,hd,aj⟩:=U
   obtain⟨x,xs,rfl,hx,ak⟩:=hf
   have aa:(pre.length:Int)<((pre++d::ds).length:Int):=by simp;omega
   have ae:(pre.length:Int)<((I++x::xs).length:Int):=by simp;omega
   refine vk (Br.of (λ_=>⟨⟨by omega,aa⟩,⟨by omega,ae⟩,λN2 ac=>?_⟩) λhc=>absurd aa (mX hc))
   have e0:(I++x::xs).getD pre.length default=x:=by rw[hp];exact pu
   rw[oX,pu,e0]
   simp only[wt]at J
   refine FG t u d x hd hx N2 _ λN3 al _=>Br.of (λhb N' V=>?_) λhb=>?_
   ·have:=J N' (by omega)
    have O:Fv t u=false:=by simpa using hb
    rwa[O,Bool.false_and]at this
   ·have O:Fv t u=true:=by simpa using hb
    rw[O]at J
    rw[i64_in _ (by simp at aa h1;omega)]
    have:=J7 ts us ds xs aj ak (pre++[d]) (I++[x]) (by simpa using Z) (by simp[hp]) (by simpa using h1) a c b Y N Q (by simpa using J) N3 (by omega)
    have e1:((pre++[d]).length:Int)=(pre.length:Int)+1:=by simp
    rw[e1]at this
    simpa using this
 | [],u::us,es,fs,U,hf,pre,I,Z,_,_,_,_,_,_,_,_,_,_,_=>by simp at Z
 | t::ts,[],es,fs,U,hf,pre,I,Z,_,_,_,_,_,_,_,_,_,_,_=>by simp at Z
end
mutual
def NC:Ty->Int->Int
 | .mk _ l,k=>wr l k
def wr:List Ty->Int->Int
 | [],k=>k
 | .mk kk l::ts,k=>if kk≠k then -1 else if wr l (k+1)<0 then -1 else wr ts (wr l (k+1))
end
mutual
theorem OC:∀(t:Ty) (k:Int),0<=k->wr [(GT t k).1] k=(GT t k).2
 | .mk _ l,k,J=>by
   have I:=Bb l (k+1) (by omega)
   have O:=yw l (k+1)
   simp only[GT,wr,I]
   rw[if_neg (by simp),if_neg (by omega)]
theorem Bb:∀(l:List Ty) (k:Int),0<=k->wr (zH l k).1 k=(zH l k).2
 | [],k,_=>by simp[zH,wr]
 | .mk kk l::ts,k,J=>by
   have I:=Bb l (k+1) (by omega)
   have O:=yw l (k+1)
   have U:=Bb ts (zH l (k+1)).2 (by omega)
   simp only[zH,GT,wr,I,U]
   rw[if_neg (by simp),if_neg (by omega)]
end
theorem Br.not {v:Bool}{A B:Prop}(I:v=false->A)(J:v=true->B):Br (!v) A B:=by
 cases v
 ·exact I rfl
 ·exact J rfl
theorem Br.dec {p:Prop} [Decidable p]{A B:Prop}(I:p->A)(J:¬p->B):Br (decide p) A B:=Br.of (λh=>I (mH h)) λh=>J (mX h)
theorem Br.ndec {p:Prop} [Decidable p]{A B:Prop}(I:¬p->A)(J:p->B):Br (!(decide p)) A B:=Br.not (λh=>I (mX h)) λh=>J (mH h)
theorem Br.beq {a b:Int}{A B:Prop}(I:a=b->A)(J:¬a=b->B):Br (a==b) A B:=Br.of (λh=>I (by simpa using h)) λh=>J (by simpa using h)
theorem Br.bne {a b:Int}{A B:Prop}(I:¬a=b->A)(J:a=b->B):Br (bne a b) A B:=Br.of (λh=>I (by simpa using h)) λh=>J (by simpa using h)
theorem DL {s t:ByteArray}(h:s.toList=t.toList):s=t:=by rw[ByteArray.toList_eq,ByteArray.toList_eq]at h;cases s;cases t;simpa using h
theorem xL {s t:ByteArray}:(s.toList==t.toList)=decide (s=t):=by
 by_cases h:s=t
 ·simp[h]
 ·have:¬s.toList=t.toList:=λhc=>h (DL hc);simp[h,this]
theorem Br.str {s t:ByteArray}{A B:Prop}(I:s=t->A)(J:¬s=t->B):Br (s.toList==t.toList) A B:=by rw[xL];exact Br.dec I J
theorem Br.nstr {s t:ByteArray}{A B:Prop}(I:¬s=t->A)(J:s=t->B):Br (!(s.toList==t.toList)) A B:=by rw[xL];exact Br.ndec I J
def tD (f:FuncId)(args:List PV)(b:Bool):Prop:=∀(N:Nat) (Q:QT [.bool]),(∀ N',N<=N'->Q b N')->ACalls prog f [.bool] args N Q
def Ay (f:FuncId)(args:List PV)(n:Int):Prop:=∀(N:Nat) (Q:QT [.i]),(∀ N',N<=N'->Q n N')->ACalls prog f [.i] args N Q
theorem Qi {Q:QT [.i]}{n m:Int}{N:Nat}(h:Q n N)(e:n=m):Q m N:=e ▸ h
theorem Qb {Q:QT [.bool]}{n m:Bool}{N:Nat}(h:Q n N)(e:n=m):Q m N:=e ▸ h
def All2 {α:Type}(R:α->D->Prop):List α->List D->Prop
 | [],es=>es=[]
 | t::ts,es=>∃ d ds,es=d::ds/\R t d/\All2 R ts ds
theorem All2.len {α:Type}{R:α->D->Prop}:∀ {l:List α}{es:List D},All2 R l es->es.length=l.length
 | [],es,h=>by cases h;rfl
 | t::ts,es,⟨d,ds,I,_,h⟩=>by subst I;simp[h.len]
theorem All2.get {α:Type}{R:α->D->Prop}:∀ {l:List α}{es:List D}{i:Nat}{x:α},All2 R l es->l[i]?=some x->R x (es.getD i default)
 | [],es,i,x,h,I=>by simp at I
 | t::ts,es,i,x,⟨d,ds,J,O,U⟩,I=>by
   subst J;cases i with
   | zero=>simp at I;subst I;simpa [oA]using O
   | succ i=>simpa [oA]using U.get (by simpa using I)
theorem All2.snoc {α:Type}{R:α->D->Prop}:∀ {l:List α}{es:List D}{t:α}{d:D},All2 R l es->R t d->All2 R (l++[t]) (es++[d])
 | [],es,t,d,h,I=>by cases h;exact⟨d,[],rfl,I,rfl⟩
 | u::ts,es,t,d,⟨x,ds,J,O,U⟩,I=>by subst J;exact⟨x,ds++[d],rfl,O,U.snoc I⟩
theorem All2.mono {α:Type}{R S:α->D->Prop}(I:∀ x d,R x d->S x d):∀ {l:List α}{es:List D},All2 R l es->All2 S l es
 | [],es,h=>h
 | u::ts,es,⟨x,ds,J,O,U⟩=>⟨x,ds,J,I _ _ O,U.mono I⟩
structure At {α:Type} (R:α->D->Prop) (l:List α) (es:List D) (i:Nat) (x:α):Prop where
 lt:decide ((i:Int)<(es.length:Int))=true
 b:(0:Int)<=(i:Int)/\(i:Int)<(es.length:Int)
 w:IntKind.i64.wrap ((i:Int)+1)=((i+1:Nat):Int)
 r:R x (es.getD i default)
 m:x∈l
 g:l[i]?=some x
theorem up {α:Type} {R:α->D->Prop} {l:List α} {es:List D} (h:All2 R l es) (U:es.length<=4611686018427387904) (P:Nat->List α->Prop)
  (O:∀ n:Nat,decide ((n:Int)<(es.length:Int))=false->n=es.length->P n []) (I:∀(i:Nat) x xs,At R l es i x->l.drop (i+1)=xs->P (i+1) xs->P i (x::xs)):P 0 l:=by
 have V:=h.len;have key:∀(rest pre:List α),l=pre++rest->P pre.length rest:=by
  intro rest
  induction rest with
  | nil=>intro pre J;rw[nH]at J;subst J;exact O _ (by simp[V]) V.symm
  | cons x xs Y=>
    intro pre J;have hi:l[pre.length]?=some x:=by rw[J];simp
    have Z:pre.length<l.length:=(oC.1 hi).1;have hx:=h.get hi;refine I pre.length x xs ⟨mB (by omega),⟨by omega,by omega⟩,?_,hx,by rw[J];simp,hi⟩ (by rw[J];simp) ?_
    ·rw[i64_in _ (by omega)];simp
    ·have:=Y (pre++[x]) (by rw[J];simp)
     simpa using this
 exact key l [] rfl
theorem wD:∀ {l:List Ty}{es:List D},TysIs l es->All2 Ty.Is l es
 | [],es,h=>by simp only[TysIs]at h;exact h
 | t::ts,es,h=>by simp only[TysIs]at h;obtain⟨d,ds,I,J,O⟩:=h;exact⟨d,ds,I,J,wD O⟩
theorem CC:∀ {l:List Ty}{es:List D},All2 Ty.Is l es->TysIs l es
 | [],es,h=>by simp only[TysIs];exact h
 | t::ts,es,⟨d,ds,I,J,O⟩=>by simp only[TysIs];exact⟨d,ds,I,J,CC O⟩
def Ty.k:Ty->Int
 | .mk k _=>k
def Ty.as:Ty->List Ty
 | .mk _ l=>l
theorem Ty.is_mk {k:Int}{l:List Ty}{d:D}:(Ty.mk k l).Is d↔∃ a es c,d=.ag [.j k,.sl a 2 es c]/\es.length<=4611686018427387904/\All2 Ty.Is l es:=by simp only[Ty.Is];exact⟨λ⟨a,es,c,I,J,O⟩=>⟨a,es,c,I,J,wD O⟩,λ⟨a,es,c,I,J,O⟩=>⟨a,es,c,I,J,CC O⟩⟩
theorem Ty.ind {P:Ty->Prop}(h:∀ k l,(∀ t∈l,P t)->P (.mk k l)):∀ t,P t:=λt=>
 Ty.rec (motive_1:=P) (motive_2:=λl=>∀ t∈l,P t) (λk l I=>h k l I) (by simp) (λt l J O u hu=>by
  rcases oH.1 hu with rfl | hu
  ·exact J
  ·exact O u hu) t
class Dv (v:Bool) (P Q:outParam Prop):Prop where
 t:v=true->P
 f:v=false->Q
instance (priority:=100) dv9 {v:Bool}:Dv v (v=true) (v=false):=⟨id,id⟩
instance (priority:=500) dv4 {v:Bool}:Dv (!v) (v=false) (v=true):=⟨by simp,by simp⟩
instance dv1 {p:Prop} [Decidable p]:Dv (!(decide p)) (¬p) p:=⟨by simp,by simp⟩
instance dv2 {s t:ByteArray}:Dv (!(s.toList==t.toList)) (¬s=t) (s=t):=⟨by rw[xL];simp,by rw[xL];simp⟩
instance dv3 {a b:Int}:Dv (!(a==b)) (¬a=b) (a=b):=⟨by simp,by simp⟩
instance dv5 {p:Prop} [Decidable p]:Dv (decide p) p (¬p):=⟨by simp,by simp⟩
instance dv6 {s t:ByteArray}:Dv (s.toList==t.toList) (s=t) (¬s=t):=⟨by rw[xL];simp,by rw[xL];simp⟩
instance dv7 {a b:Int}:Dv (a==b) (a=b) (¬a=b):=⟨by simp,by simp⟩
instance dv8 {a b:Int}:Dv (bne a b) (¬a=b) (a=b):=⟨by simp,by simp⟩
theorem X {v:Bool}{P Q A B:Prop}[h:Dv v P Q](I:P->A)(J:Q->B):Br v A B:=Br.of (λg=>I (h.t g)) λg=>J (h.f g)
theorem X0 {A B:Prop}(b:B)(a:A:=by first|omega|trivial|(show _=_;rfl)|(with_reducible constructor)<;>first|omega|trivial|rfl):A/\B:=⟨a,b⟩
theorem Y1:(!true)=false:=rfl
theorem Y2:(!false)=true:=rfl
theorem Y3 {A B:Prop}:Br true A B=A:=rfl
theorem Y4 {A B:Prop}:Br false A B=B:=rfl
def inB (n a b:Int):Bool:=decide (a<=n)&&decide (n<=b)
theorem pZ (n a b:Int):tD 23 [.j n,.j a,.j b] (inB n a b):=λN Q I=>by
 refine FB N n a b Q ?_
 repeat' first|with_reducible intro _|simp only[Y1,Y2,Y3,Y4]|with_reducible refine X ?_ ?_|refine⟨_,_,_,rfl,?_⟩|refine⟨_,rfl,?_⟩|refine X0 ?_|fail
 all_goals simpa [inB, *]using I _ (by omega)
theorem qM (a b:Int):Ay 97 [.j a,.j b] (max a b):=λN Q I=>by
 refine EE N a b Q ?_
 repeat' first|with_reducible intro _|simp only[Y1,Y2,Y3,Y4]|with_reducible refine X ?_ ?_|refine⟨_,_,_,rfl,?_⟩|refine⟨_,rfl,?_⟩|refine X0 ?_|fail
 ·have:=I _ (by assumption)
  rwa[Int.max_eq_left (by omega)]at this
 ·have:=I _ (by assumption)
  rwa[Int.max_eq_right (by omega)]at this
mutual
def Ty.dep:Ty->Nat
 | .mk _ l=>wm l+1
def wm:List Ty->Nat
 | []=>0
 | t::ts=>max t.dep (wm ts)
end
mutual
theorem Ty.dep_cnt:∀ t:Ty,t.dep<=t.cnt
 | .mk _ l=>by simp only[Ty.dep,Ty.cnt];have:=u9 l;omega
theorem u9:∀ l:List Ty,wm l<=zI l
 | []=>oG _
 | t::ts=>by simp only[wm,zI];have:=t.dep_cnt;have:=u9 ts;omega
end
theorem wQ:∀ {l:List Ty}{t:Ty},t∈l->t.cnt<=zI l
 | u::us,t,h=>by
   simp only[zI];rcases oH.1 h with rfl | h
   ·omega
   ·have:=wQ h;omega
def A9 (k:Int)(n:Nat):Bool:=if k=1\/k=2 then(n:Int)==0 else if k=3 then(n:Int)==2 else if k=4 then(n:Int)==1 else false
mutual
def Ty.form:Ty->Bool
 | .mk k l=>wu l&&A9 k l.length
def wu:List Ty->Bool
 | []=>true
 | t::ts=>t.form&&wu ts
end
def Ty.valid (t:Ty):Bool:=decide (t.cnt<=30)&&decide (t.dep<=8)&&t.form
theorem sL:∀(t:Ty)(d:D),t.Is d->∀ n:Int,0<=n->n<=1000->Ay 147 [.dg 2 d,.j n] (if(t.cnt:Int)<=n then n - t.cnt else -1):=by
 refine Ty.ind λk l ih d hd n ac ae N Q hQ=>?_;obtain⟨a,es,c,rfl,V,Y⟩:=Ty.is_mk.1 hd;refine C2 N _ n Q λ_=>?_;have key:=up Y V (λi xs=>∀(m:Int) (N':Nat),N<=N' -> -1<=m->m<=1000->(∀ J,N'<=J->Q (if m<0 then -1 else if(zI xs:Int)<=m then m - zI xs else -1) J) ->
  xG Q N m i (.ag [.j k,.sl a 2 es c]) N') ?_ ?_
 ·rw[i64_in _ (by omega)];refine key (n - 1) N (oG _) (by omega) (by omega) λN' U=>Qi (hQ N' U) ?_;simp only[Ty.cnt]
  (repeat' split)<;>omega
 ·intro i Z _ m N' U h1 h2 O;refine uR ?_
  repeat' first|with_reducible intro _|simp only[Z,Y1,Y2,Y3,Y4]|with_reducible refine X ?_ ?_|refine⟨_,_,_,rfl,?_⟩|refine⟨_,rfl,?_⟩|refine X0 ?_|fail
  refine Qi (O _ (by assumption)) ?_;simp only[zI]
  (repeat' split)<;>omega
 ·intro i x xs I _ aa m N' U h1 h2 O;have hb:=I.b;refine uR ?_
  repeat' first|with_reducible intro _|simp only[I.lt,I.w,oX,Y1,Y2,Y3,Y4]|with_reducible refine X ?_ ?_|refine⟨_,_,_,rfl,?_⟩|refine⟨_,rfl,?_⟩|refine X0 ?_|refine(ih x I.m _ I.r m (by omega) (by omega)) _ _ ?_|fail
  ·refine aa _ _ (by omega) (by split<;>omega) (by split<;>omega) λJ ab=>Qi (O J (by omega)) ?_;simp only[zI]
   (repeat' split)<;>omega
  ·refine Qi (O _ (by assumption)) ?_;rw[if_pos (by omega)];omega
theorem wb:∀(t:Ty)(d:D),t.Is d->t.cnt<=1073741824->Ay 148 [.dg 2 d] t.dep:=by
 refine Ty.ind λk l ih d hd hc N Q hQ=>?_;obtain⟨a,es,c,rfl,J,U⟩:=Ty.is_mk.1 hd;refine rE N _ Q λ_=>?_;simp only[Ty.cnt]at hc;have aa:=u9 l;have key:=up U J (λi xs=>∀(m:Nat) (N':Nat),N<=N'->max m (wm xs)=wm l->yA Q N (m:Int) i (.ag [.j k,.sl a 2 es c]) N') ?_ ?_
 ·exact key 0 N (oG _) (by omega)
 ·intro i V _ m N' O Y;simp only[wm]at Y;refine x7 ?_
  repeat' first|with_reducible intro _|simp only[V,Y1,Y2,Y3,Y4]|with_reducible refine X ?_ ?_|refine⟨_,_,_,rfl,?_⟩|refine⟨_,rfl,?_⟩|refine X0 ?_|fail
  rw[i64_in _ (by omega)];refine Qi (hQ _ (o8 O (by assumption))) ?_;simp only[Ty.dep];omega
 ·intro i x xs I _ Z m N' O Y;have hb:=I.b;have ab:=wQ I.m;simp only[wm]at Y;refine x7 ?_
  repeat' first|with_reducible intro _|simp only[I.lt,I.w,oX,Y1,Y2,Y3,Y4]|with_reducible refine X ?_ ?_|refine⟨_,_,_,rfl,?_⟩|refine⟨_,rfl,?_⟩|refine X0 ?_|refine(ih x I.m _ I.r (by omega)) _ _ ?_|refine(qM _ _) _ _ ?_|fail
  have e:max (m:Int) (x.dep:Int)=((max m x.dep:Nat):Int):=by omega
  rw[e];exact Z _ _ (by omega) (by omega)
theorem sK:∀(t:Ty)(d:D),t.Is d->tD 149 [.dg 2 d] t.form:=by
 refine Ty.ind λk l ih d hd N Q hQ=>?_;obtain⟨a,es,c,rfl,U,V⟩:=Ty.is_mk.1 hd;have hl:=V.len;refine C1 N _ Q λ_=>?_;have key:=up V U (λi xs=>∀(N':Nat),N<=N'->(∀ J,N'<=J->Q (wu xs&&A9 k l.length) J)->xF Q N i (.ag [.j k,.sl a 2 es c]) N') ?_ ?_
 ·exact key N (oG _) hQ
 ·intro i Y _ N' Z O;refine uQ ?_
  repeat' first|with_reducible intro _|simp only[Y,Y1,Y2,Y3,Y4]|with_reducible refine X ?_ ?_|refine⟨_,_,_,rfl,?_⟩|refine⟨_,rfl,?_⟩|refine X0 ?_|fail
  all_goals(refine Qb (O _ (by assumption)) ?_;simp[wu,A9, *])
 ·intro i x xs I _ aa N' Z O;have hb:=I.b;refine uQ ?_
  repeat' first|with_reducible intro _|simp only[I.lt,I.w,oX,Y1,Y2,Y3,Y4]|with_reducible refine X ?_ ?_|refine⟨_,_,_,rfl,?_⟩|refine⟨_,rfl,?_⟩|refine X0 ?_|refine(ih x I.m _ I.r) _ _ ?_|fail
  ·refine Qb (O _ (by omega)) ?_;simp[wu, *]
  ·exact aa _ (by omega) λJ h=>Qb (O J (by omega)) (by simp[wu, *])
theorem wc (t:Ty)(d:D)(hd:t.Is d)(hc:t.cnt<=1073741824):tD 122 [.dg 2 d] t.valid:=λN Q I=>by
 refine rG N _ Q λ_=>?_;by_cases O:t.cnt<=30
 ·have J:((t.cnt:Int)<=30):=by omega
  repeat' first|with_reducible intro _|simp only[if_pos J,Y1,Y2,Y3,Y4]|with_reducible refine X ?_ ?_|refine⟨_,_,_,rfl,?_⟩|refine⟨_,rfl,?_⟩|refine X0 ?_|refine(sL t d hd _ (by omega) (by omega)) _ _ ?_|refine(wb t d hd hc) _ _ ?_|refine(sK t d hd) _ _ ?_|fail
  all_goals first | omega | skip
  ·have U:t.dep<=8:=by omega
   refine Qb (I _ (by omega)) ?_;simp[Ty.valid, *]
  ·have U:¬t.dep<=8:=by omega
   refine Qb (I _ (by omega)) ?_;simp[Ty.valid, *]
 ·have J:¬((t.cnt:Int)<=30):=by omega
  repeat' first|with_reducible intro _|simp only[if_neg J,Y1,Y2,Y3,Y4]|with_reducible refine X ?_ ?_|refine⟨_,_,_,rfl,?_⟩|refine⟨_,rfl,?_⟩|refine X0 ?_|refine(sL t d hd _ (by omega) (by omega)) _ _ ?_|refine(wb t d hd hc) _ _ ?_|refine(sK t d hd) _ _ ?_|fail
  all_goals first | omega | skip
  refine Qb (I _ (by omega)) ?_;simp[Ty.valid, *]
def Kc (f:FuncId)(args:List PV)(t:Ty):Prop:=∀(N:Nat) (Q:QT [.ag 2]),(∀ d' N',N<=N'->t.Is d'->Own N N' d'->Q d' N')->ACalls prog f [.ag 2] args N Q
def tInt:Ty:=.mk 1 []
def tBool:Ty:=.mk 2 []
def tZero:Ty:=.mk 0 []
def DB (a b:Ty):Ty:=.mk 3 [a,b]
def v6 (a:Ty):Ty:=.mk 4 [a]
def Ty.base (t:Ty):Bool:=(t.k==1||t.k==2)&&(t.as.length:Int)==0
theorem uH (k:Int):(Ty.mk k []).Is (.ag [.j k,.sl none 2 [] 0]):=Ty.is_mk.2 ⟨_,_,_,rfl,by simp,rfl⟩
theorem r9 {N N':Nat}{x:Value}:Own N N' (.ag [.lit x,.sl none 2 [] 0]):=⟨by simp[D.foot,zA],⟨trivial,⟨by simp,trivial⟩,trivial⟩,by simp[D.foot,zA],by simp[D.foot,zA]⟩
theorem Af:∀ l:List Ty,l.length<=zI l
 | []=>oG _
 | .mk k l::ts=>by simp only[zI,Ty.cnt,oR];have:=Af ts;omega
theorem DO:Kc 93 [] tInt:=λN Q J=>EF N Q λN' I=>J _ _ I (uH _) r9
theorem CK:Kc 94 [] tBool:=λN Q J=>C0 N Q λN' I=>J _ _ I (uH _) r9
theorem IP {α:Type}{l:List α}{i:Nat}{x:α}(h:l[i]?=some x):l.take (i+1)=l.take i++[x]:=by rw[List.take_add_one,h];rfl
theorem upN {n:Nat} (hn:n<=4611686018427387904) (P:Nat->Prop) (hend:decide ((n:Int)<(n:Int))=false->P n)
  (hstep:∀ i:Nat,i<n->decide ((i:Int)<(n:Int))=true->IntKind.i64.wrap ((i:Int)+1)=((i+1:Nat):Int)->P (i+1)->P i):P 0:=by
 have key : ∀(m i:Nat),i+m=n->P i:=by
  intro m
  induction m with
  | zero => intro i h;have:i=n:=by omega
            subst this;exact hend (by simp)
  | succ m ih=>intro i h;exact hstep i (by omega) (mB (by omega)) (by rw[i64_in _ (by omega)];simp) (ih (i+1) (by omega))
 exact key n 0 (by omega)
abbrev tP (s:ByteArray)(i:Nat):Int:=((s.data.getD i (OfNat.ofNat 0)).toNat:Int)
def sP (s:ByteArray)(i:Nat):Bool:=(decide (tP s i≥97)&&decide (tP s i<=122))||(!(decide ((i:Int)=0))&&(!(decide (tP s i<48))&&!(decide (tP s i>57))))
def wB (s:ByteArray)(i:Nat):Bool:=(List.range' i (s.size - i)).all (sP s)
theorem sc {s:ByteArray}{i:Nat}(h:i<s.size):wB s i=(sP s i&&wB s (i+1)):=by unfold wB;rw[show s.size - i=(s.size - (i+1))+1 by omega,List.range'_succ];rfl
theorem qP {s:ByteArray}:wB s s.size=true:=by simp[wB]
def qT (s:ByteArray):Bool:=inB s.size 1 4&&(!(decide (s=bytes [105,102]))&&(!(decide (s=bytes [108,101,116]))&&(!(decide (s=bytes [114,101,99]))&&(!(decide (s=bytes [114,117,110]))&&!(decide (s=bytes [108,105,102,116]))))))
def xb (s:ByteArray):Bool:=wB s 0&&qT s
theorem sI (s:ByteArray)(hs:s.size<=4611686018427387904):tD 150 [.str s] (xb s):=λN Q Y=>by
 refine Cx N s Q ?_;have key:=upN hs (λi=>∀ N',N<=N'->(∀ J,N'<=J->Q (wB s i&&qT s) J)->yE Q N s i N') ?_ ?_
 ·exact key N (oG _) Y
 ·intro O N' U I;refine uM ?_
  repeat' first|with_reducible intro _|simp only[O,Y1,Y2,Y3,Y4]|with_reducible refine X ?_ ?_|refine⟨_,_,_,rfl,?_⟩|refine⟨_,rfl,?_⟩|refine X0 ?_|refine(pZ _ _ _) _ _ ?_|fail
  all_goals(refine Qb (I _ (by omega)) ?_;rw[qP])
  all_goals simp[qT,xL, *]
 ·intro i hi O Z V N' U I;refine uM ?_;rw[sc hi]at I
  repeat' first|with_reducible intro _|simp only[O,Z,oX,Y1,Y2,Y3,Y4]|with_reducible refine X ?_ ?_|refine⟨_,_,_,rfl,?_⟩|refine⟨_,rfl,?_⟩|refine X0 ?_|fail
  all_goals first
   | (refine Qb (I _ (by omega)) ?_;unfold sP tP;simp only[*];simp;done)
   | (refine V _ (by omega) λJ h=>Qb (I J (by omega)) ?_;unfold sP tP;simp only[*];simp;done)
inductive Tm where
 | mk (k:Int) (nm ot:ByteArray) (n:Int) (ty re:Ty) (l:List Tm)
def Tm.as:Tm->List Tm
 | .mk _ _ _ _ _ _ l=>l
structure Tm.Hd (nm ot:ByteArray) (ty re:Ty) (t0 t1 r0 r1:D):Prop where
 nm:nm.size<=4611686018427387904
 ot:ot.size<=4611686018427387904
 ty:ty.Is (.ag [t0,t1])
 re:re.Is (.ag [r0,r1])
mutual
def Tm.Is:Tm->D->Prop
 | .mk k nm ot n ty re l,d=>∃ t0 t1 r0 r1 a es c,d=.ag [.j k,.t nm,.t ot,.j n,t0,t1,r0,r1,.sl a 9 es c]/\Tm.Hd nm ot ty re t0 t1 r0 r1/\es.length<=4611686018427387904/\qY l es
def qY:List Tm->List D->Prop
 | [],es=>es=[]
 | t::ts,es=>∃ d ds,es=d::ds/\t.Is d/\qY ts ds
end
theorem vZ:∀ {l:List Tm}{es:List D},qY l es↔All2 Tm.Is l es
 | [],es=>by simp only[qY,All2]
 | t::ts,es=>by simp only[qY,All2];exact⟨λ⟨d,ds,I,J,O⟩=>⟨d,ds,I,J,vZ.1 O⟩,λ⟨d,ds,I,J,O⟩=>⟨d,ds,I,J,vZ.2 O⟩⟩
theorem Tm.is_mk {k:Int} {nm ot:ByteArray} {n:Int} {ty re:Ty} {l:List Tm} {d:D}:(Tm.mk k nm ot n ty re l).Is d ↔
  ∃ t0 t1 r0 r1 a es c,d=.ag [.j k,.t nm,.t ot,.j n,t0,t1,r0,r1,.sl a 9 es c]/\Tm.Hd nm ot ty re t0 t1 r0 r1/\es.length<=4611686018427387904/\All2 Tm.Is l es:=by
 simp only[Tm.Is,vZ]
theorem Tm.ind {P:Tm->Prop}(h:∀ k nm ot n ty re l,(∀ t∈l,P t)->P (.mk k nm ot n ty re l)):∀ t,P t:=λt=>
 Tm.rec (motive_1:=P) (motive_2:=λl=>∀ t∈l,P t) (λk nm ot n ty re l I=>h k nm ot n ty re l I) (by simp) (λt l J O u hu=>by
  rcases oH.1 hu with rfl | hu
  ·exact J
  ·exact O u hu) t
mutual
def Tm.cnt:Tm->Nat
 | .mk _ _ _ _ ty re l=>1+ty.cnt+re.cnt+yH l
def yH:List Tm->Nat
 | []=>0
 | t::ts=>t.cnt+yH ts
end
theorem va:∀ {l:List Tm}{t:Tm},t∈l->t.cnt<=yH l
 | u::us,t,h=>by
   simp only[yH];rcases oH.1 h with rfl | h
   ·omega
   ·have:=va h;omega
theorem AZ:∀ l:List Tm,l.length<=yH l
 | []=>oG _
 | .mk _ _ _ _ _ _ _::ts=>by simp only[yH,Tm.cnt,oR];have:=AZ ts;omega
mutual
def Tm.dp:Tm->Nat
 | .mk _ _ _ _ _ _ l=>su l+1
def su:List Tm->Nat
 | []=>0
 | t::ts=>max t.dp (su ts)
end
mutual
theorem Tm.dp_cnt:∀ t:Tm,t.dp<=t.cnt
 | .mk _ _ _ _ ty re l=>by simp only[Tm.dp,Tm.cnt];have:=sw l;omega
theorem sw:∀ l:List Tm,su l<=yH l
 | []=>oG _
 | t::ts=>by simp only[su,yH];have:=t.dp_cnt;have:=sw ts;omega
end
theorem Bw:∀ {l:List Tm}{t:Tm},t∈l->t.dp<=su l
 | u::us,t,h=>by
   simp only[su];rcases oH.1 h with rfl | h
   ·omega
   ·have:=Bw h;omega
mutual
def Tm.G:Tm->Prop
 | .mk _ _ _ _ ty re l=>ty.cnt<=1073741824/\re.cnt<=1073741824/\l.length<=1073741824/\Mt l
def Mt:List Tm->Prop
 | []=>True
 | t::ts=>t.G/\Mt ts
end
theorem Ci:∀ {l:List Tm}{x:Tm},Mt l->x∈l->x.G
 | t::ts,x,h,hx=>by
   rcases oH.1 hx with rfl | hx
   ·exact h.1
   ·exact Ci h.2 hx
mutual
theorem Tm.G_cnt:∀ t:Tm,t.cnt<=1073741824->t.G
 | .mk _ _ _ _ ty re l,h=>by
   simp only[Tm.cnt]at h
   have:=AZ l
   exact⟨by omega,by omega,by omega,Ft l (by omega)⟩
theorem Ft:∀ l:List Tm,yH l<=1073741824->Mt l
 | [],_=>trivial
 | t::ts,h=>by
   simp only[yH]at h
   exact⟨Tm.G_cnt t (by omega),Ft ts (by omega)⟩
end
structure Tg where
 nm:ByteArray
 ty:Ty
 lv:Int
def Tg.Is (g:Tg)(d:D):Prop:=∃ t0 t1,d=.ag [.t g.nm,t0,t1,.j g.lv]/\g.nm.size<=4611686018427387904/\g.ty.Is (.ag [t0,t1])
theorem Tg.is_mk {nm:ByteArray}{ty:Ty}{lv:Int}{d:D}:(Tg.mk nm ty lv).Is d↔∃ t0 t1,d=.ag [.t nm,t0,t1,.j lv]/\nm.size<=4611686018427387904/\ty.Is (.ag [t0,t1]):=mi
def rz (s:ByteArray):Int:=if s=bytes [43]then 2 else if s=bytes [45]then 2 else if s=bytes [42]then 2 else if s=bytes [61]then 2 else if s=bytes [60]then 2 else if s=bytes [38]then 2 else if s=bytes [124]then 2 else if s=bytes [33]then 1 else 0
theorem wo (s:ByteArray):Ay 95 [.str s] (rz s):=λN Q I=>by
 refine BJ N s Q ?_
 repeat' first|with_reducible intro _|simp only[Y1,Y2,Y3,Y4]|with_reducible refine X ?_ ?_|refine⟨_,_,_,rfl,?_⟩|refine⟨_,rfl,?_⟩|refine X0 ?_|fail
 all_goals(refine Qi (I _ (by assumption)) ?_;unfold rz;(repeat' split)<;>first | rfl | contradiction)
def Ty.zero (t:Ty):Bool:=t.k==0&&(t.as.length:Int)==0
theorem sN (t:Ty)(d:D)(hd:t.Is d):tD 123 [.dg 2 d] t.zero:=λN Q O=>by
 cases t with
 | mk k l=>
 obtain⟨a,es,c,rfl,J,I⟩:=Ty.is_mk.1 hd;have U:=I.len;refine C4 N _ Q λ_=>?_
 repeat' first|with_reducible intro _|simp only[Y1,Y2,Y3,Y4]|with_reducible refine X ?_ ?_|refine⟨_,_,_,rfl,?_⟩|refine⟨_,rfl,?_⟩|refine X0 ?_|fail
 all_goals refine Qb (O _ (by assumption)) ?_
 all_goals simp[Ty.zero,Ty.k,Ty.as,U, *]
def ya (k:Int)(nm ot:ByteArray):Bool:=
 if k=4 then decide (rz nm>0)&&decide (ot=bytes [])else if k=1\/k=6\/k=8 then xb nm&&decide (ot=bytes [])else if k=9 then xb nm&&(xb ot&&!decide (nm=ot))else decide (nm=bytes [])&&decide (ot=bytes [])
theorem NF (a b:Int):(a==b)=decide (a=b):=by rw[ml];simp
def qR (k:Int):Bool:=k==6||k==9
def yB (k:Int)(nm ot:ByteArray)(n:Int)(ty re:Ty):Bool:=
 (qR k==ty.valid)&&((qR k||ty.zero)&&(((k==9)==re.valid)&&((k==9||re.zero)&&(inB n 0 (if k=2 then 10006 else if k=3 then 1 else 0)&&ya k nm ot))))
def EI (k:Int)(nm:ByteArray):Int:=
 if k=1\/k=2\/k=3 then 0 else if k=4 then rz nm else if k=6\/k=9\/k=10\/k=11\/k=12\/k=13 then 1 else if k=7\/k=8 then 2 else if k=5 then 3 else -1
mutual
def Tm.ok:Tm->Bool
 | .mk k nm ot n ty re l=>BB l&&(yB k nm ot n ty re&&(l.length:Int)==EI k nm)
def BB:List Tm->Bool
 | []=>true
 | t::ts=>t.ok&&BB ts
end
theorem A7 {k n:Int}{nm ot:ByteArray}{ty re:Ty}{t0 t1 r0 r1 x:D}(h:Tm.Hd nm ot ty re t0 t1 r0 r1):tD 124 [.dg 9 (.ag [.j k,.t nm,.t ot,.j n,t0,t1,r0,r1,x])] (ya k nm ot):=λN Q I=>by
 refine BL N _ Q λ_=>?_
 repeat' first|with_reducible intro _|simp only[Y1,Y2,Y3,Y4]|with_reducible refine X ?_ ?_|refine⟨_,_,_,rfl,?_⟩|refine⟨_,rfl,?_⟩|refine X0 ?_|refine(wo _) _ _ ?_|refine(sI _ h.nm) _ _ ?_|refine(sI _ h.ot) _ _ ?_|fail
 all_goals(refine Qb (I _ (by omega)) ?_;simp[ya,xL, *])
theorem pa {k n:Int} {nm ot:ByteArray} {ty re:Ty} {t0 t1 r0 r1 x:D} (h:Tm.Hd nm ot ty re t0 t1 r0 r1) (hc:ty.cnt<=1073741824) (I:re.cnt<=1073741824) :
  tD 98 [.dg 9 (.ag [.j k,.t nm,.t ot,.j n,t0,t1,r0,r1,x])] (yB k nm ot n ty re):=λN Q J=>by
 refine Aq N _ Q λ_=>?_
 repeat' first|with_reducible intro _|simp only[Y1,Y2,Y3,Y4]|with_reducible refine X ?_ ?_|refine⟨_,_,_,rfl,?_⟩|refine⟨_,rfl,?_⟩|refine X0 ?_|refine(wc _ _ h.ty hc) _ _ ?_|refine(wc _ _ h.re I) _ _ ?_|refine(sN _ _ h.ty) _ _ ?_|refine(sN _ _ h.re) _ _ ?_|refine(pZ _ _ _) _ _ ?_|refine(A7 h) _ _ ?_|fail
 all_goals first | (exfalso;omega) | (refine Qb (J _ (by omega)) ?_;simp[yB,qR, *];done) | (refine Qb (J _ (by omega)) ?_;simp_all[yB,qR];done) | (refine Qb (J _ (by omega)) ?_;simp_all only[yB,qR,NF];simp_all;done)
theorem A6 {k n:Int}{nm ot:ByteArray}{t0 t1 r0 r1 x:D}:Ay 99 [.dg 9 (.ag [.j k,.t nm,.t ot,.j n,t0,t1,r0,r1,x])] (EI k nm):=λN Q I=>by
 refine BK N _ Q λ_=>?_
 repeat' first|with_reducible intro _|simp only[Y1,Y2,Y3,Y4]|with_reducible refine X ?_ ?_|refine⟨_,_,_,rfl,?_⟩|refine⟨_,rfl,?_⟩|refine X0 ?_|refine(wo _) _ _ ?_|fail
 all_goals(refine Qi (I _ (by omega)) ?_;simp[EI, *])
theorem A5:∀(t:Tm)(d:D),t.Is d->t.G->tD 70 [.dg 9 d] t.ok:=by
 refine Tm.ind λk nm ot n ty re l ih d hd hc N Q hQ=>?_;obtain⟨t0,t1,r0,r1,a,es,c,rfl,hh,U,V⟩:=Tm.is_mk.1 hd;have hl:=V.len;obtain⟨g1,g2,_,g4⟩:=hc;refine Cy N _ Q λ_=>?_;have key:=up V U (λi xs=>∀(N':Nat),N<=N'->(∀ J,N'<=J->Q (BB xs&&(yB k nm ot n ty re&&(l.length:Int)==EI k nm)) J)->xD Q N i (.ag [.j k,.t nm,.t ot,.j n,t0,t1,r0,r1,.sl a 9 es c]) N') ?_ ?_
 ·exact key N (oG _) hQ
 ·intro i Y _ N' Z O;refine uN ?_
  repeat' first|with_reducible intro _|simp only[Y,Y1,Y2,Y3,Y4]|with_reducible refine X ?_ ?_|refine⟨_,_,_,rfl,?_⟩|refine⟨_,rfl,?_⟩|refine X0 ?_|refine(pa hh (by omega) (by omega)) _ _ ?_|refine A6 _ _ ?_|fail
  all_goals(refine Qb (O _ (by omega)) ?_;simp[BB, *])
 ·intro i x xs I _ aa N' Z O;have hb:=I.b;have ab:=Ci g4 I.m;refine uN ?_
  repeat' first|with_reducible intro _|simp only[I.lt,I.w,oX,Y1,Y2,Y3,Y4]|with_reducible refine X ?_ ?_|refine⟨_,_,_,rfl,?_⟩|refine⟨_,rfl,?_⟩|refine X0 ?_|refine(ih x I.m _ I.r ab) _ _ ?_|fail
  ·refine Qb (O _ (by omega)) ?_;simp[BB, *]
  ·exact aa _ (by omega) λJ h=>Qb (O J (by omega)) (by simp[BB, *])
theorem CJ (t:Tm)(d:D)(h:t.Is d)(hc:t.cnt<=1073741824):tD 70 [.dg 9 d] t.ok:=A5 t d h (Tm.G_cnt t hc)
theorem vN {n a b:Int}:inB n a b=true↔a<=n/\n<=b:=by simp[inB]
def NJ (k n:Int):Int:=if k=10 then n+1 else if k=11 then n - 1 else n
mutual
def Tm.lev:Tm->Int->Bool
 | .mk k _ _ _ _ _ l,n=>inB n 0 2&&KZ l (NJ k n)
def KZ:List Tm->Int->Bool
 | [],_=>true
 | t::ts,n=>t.lev n&&KZ ts n
end
def Tg.ok (g:Tg):Bool:=xb g.nm&&(g.ty.valid&&inB g.lv 0 2)
theorem Ty.is_cells {t:Ty}{d:D}(h:t.Is d):t.Is (.ag [D.cell d 0,D.cell d 1]):=by
 cases t with
 | mk k l=>obtain⟨a,es,c,rfl,_,_⟩:=Ty.is_mk.1 h;exact h
theorem Ty.valid_cnt {t:Ty}(h:t.valid=true):t.cnt<=30:=by simp only[Ty.valid,oM,oi]at h;exact h.1.1
structure Pre (g:List Tg) (e:Tm) (n:Int):Prop where
 ok:e.ok=true
 lev:e.lev n=true
 len:g.length+2*e.dp<=1073741824
 ty:∀ x∈g,x.ty.cnt<=64
structure Node (k:Int) (nm ot:ByteArray) (n:Int) (ty re:Ty) (l:List Tm):Prop where
 f:yB k nm ot n ty re=true
 ar:(l.length:Int)=EI k nm
 sub:∀ x∈l,x.ok=true
theorem D3:∀ {l:List Tm}{x:Tm},BB l=true->x∈l->x.ok=true
 | t::ts,x,h,hx=>by
   simp only[BB,oM]at h;rcases oH.1 hx with rfl | hx
   ·exact h.1
   ·exact D3 h.2 hx
theorem LE {k:Int}{nm ot:ByteArray}{n:Int}{ty re:Ty}{l:List Tm}(h:(Tm.mk k nm ot n ty re l).ok=true):Node k nm ot n ty re l:=by simp only[Tm.ok,oM]at h;exact⟨h.2.1,by simpa using h.2.2,λx I=>D3 h.1 I⟩
theorem Node.vt {k n:Int}{nm ot:ByteArray}{ty re:Ty}{l:List Tm}(h:Node k nm ot n ty re l)(I:k=6\/k=9):ty.valid=true:=by
 have:=h.f
 have e:qR k=true:=by rcases I with rfl | rfl<;>rfl
 simp only[yB,oM,e]at this;simpa using this.1
theorem Node.vr {k n:Int}{nm ot:ByteArray}{ty re:Ty}{l:List Tm}(h:Node k nm ot n ty re l)(I:k=9):re.valid=true:=by
 have:=h.f
 subst I;simp only[yB,oM]at this;simpa using this.2.2.1
theorem Gx {k:Int}{nm:ByteArray}(h:0<=EI k nm):k=1\/k=2\/k=3\/k=4\/k=5\/k=6\/k=7\/k=8\/k=9\/k=10\/k=11\/k=12\/k=13:=by
 unfold EI at h
 (repeat' split at h)<;>omega
theorem Pre.lv {g:List Tg}{e:Tm}{n:Int}(h:Pre g e n):0<=n/\n<=2:=by
 have:=h.lev
 cases e;simp only[Tm.lev,oM]at this;exact vN.1 this.1
theorem IW:tZero.Is (.ag [.j 0,.sl none 2 [] 0]):=uH 0
theorem BO (t:Ty)(d e:D)(hd:t.Is d)(I:t.Is e):tD 17 [.dg 2 d,.dg 2 e] true:=λN Q J=>FG t t d e hd I N Q λN' h=>Qb (J N' h) ((Cl t t).2 rfl).symm
theorem FF:∀(t:Tm)(d e:D),t.Is d->t.Is e->tD 7 [.dg 9 d,.dg 9 e] true:=by
 refine Tm.ind λk nm ot m ty re l ih d e hd he N Q Y=>?_;obtain⟨t0,t1,r0,r1,a,es,c,rfl,hh,J,O⟩:=Tm.is_mk.1 hd;obtain⟨u0,u1,v0,v1,b,fs,c',rfl,U,Z,V⟩:=Tm.is_mk.1 he;have hl:=O.len;have ae:=V.len;have hS:tD 18 [.sv a 9 es c,.sv b 9 fs c'] true:=λN Q Y=>by
  have key:=up O J (λi xs=>∀(N':Nat),N<=N'->yn Q N a es c b fs c' i N') ?_ ?_
  ·refine BG N _ _ _ _ _ _ Q λ_ _=>?_
   repeat' first|with_reducible intro _|simp only[Y1,Y2,Y3,Y4]|with_reducible refine X ?_ ?_|refine⟨_,_,_,rfl,?_⟩|refine⟨_,rfl,?_⟩|refine X0 ?_|fail
   ·omega
   ·exact key N (oG _)
  ·intro i aa hi N' ab;refine vi ?_
   repeat' first|with_reducible intro _|simp only[aa,Y1,Y2,Y3,Y4]|with_reducible refine X ?_ ?_|refine⟨_,_,_,rfl,?_⟩|refine⟨_,rfl,?_⟩|refine X0 ?_|fail
   exact Y _ (by omega)
  ·intro i x xs I _ ac N' ab;have hb:=I.b;refine vi ?_
   repeat' first|with_reducible intro _|simp only[I.lt,I.w,oX,Y1,Y2,Y3,Y4]|with_reducible refine X ?_ ?_|refine⟨_,_,_,rfl,?_⟩|refine⟨_,rfl,?_⟩|refine X0 ?_|refine(ih x I.m _ _ I.r (V.get I.g)) _ _ ?_|fail
   exact ac _ (by omega)
 refine Cv N _ _ Q λ_ _=>?_
 repeat' first|with_reducible intro _|simp only[Y1,Y2,Y3,Y4]|with_reducible refine X ?_ ?_|refine⟨_,_,_,rfl,?_⟩|refine⟨_,rfl,?_⟩|refine X0 ?_|refine(BO _ _ _ hh.ty U.ty) _ _ ?_|refine(BO _ _ _ hh.re U.re) _ _ ?_|refine hS _ _ ?_|fail
 all_goals first | exact absurd rfl (by assumption) | skip
 all_goals exact Y _ (by omega)
theorem Iy (cs:List D):D.cells (.ag cs)=cs:=rfl
theorem Hl {a b c:List D}{x:D}(h:(zA (a++x::c)).Nodup):x.foot.Nodup:=by
 rw[zP,o9]at h
 have:=h.2.1
 simp only[zA]at this;rw[o9]at this;exact this.1
theorem p90 (v c0 I c2 c3 c4 c5 J O U:D):z6 0 [v] [c0,I,c2,c3,c4,c5,J,O,U]=[v,I,c2,c3,c4,c5,J,O,U]:=rfl
theorem p91 (v c0 U c2 c3 c4 c5 I J O:D):z6 1 [v] [c0,U,c2,c3,c4,c5,I,J,O]=[c0,v,c2,c3,c4,c5,I,J,O]:=rfl
theorem p92 (v c0 I c2 c3 c4 c5 J O U:D):z6 2 [v] [c0,I,c2,c3,c4,c5,J,O,U]=[c0,I,v,c3,c4,c5,J,O,U]:=rfl
theorem p93 (v c0 I c2 c3 c4 c5 J O U:D):z6 3 [v] [c0,I,c2,c3,c4,c5,J,O,U]=[c0,I,c2,v,c4,c5,J,O,U]:=rfl
theorem p94 (v c0 I c2 c3 c4 c5 J O U:D):z6 4 [v] [c0,I,c2,c3,c4,c5,J,O,U]=[c0,I,c2,c3,v,c5,J,O,U]:=rfl
theorem p95 (v c0 I c2 c3 c4 c5 J O U:D):z6 5 [v] [c0,I,c2,c3,c4,c5,J,O,U]=[c0,I,c2,c3,c4,v,J,O,U]:=rfl
theorem p96 (v c0 I c2 c3 c4 c5 U J O:D):z6 6 [v] [c0,I,c2,c3,c4,c5,U,J,O]=[c0,I,c2,c3,c4,c5,v,J,O]:=rfl
theorem p97 (v c0 I c2 c3 c4 c5 J U O:D):z6 7 [v] [c0,I,c2,c3,c4,c5,J,U,O]=[c0,I,c2,c3,c4,c5,J,v,O]:=rfl
theorem p98 (v c0 I c2 c3 c4 c5 J O U:D):z6 8 [v] [c0,I,c2,c3,c4,c5,J,O,U]=[c0,I,c2,c3,c4,c5,J,O,v]:=rfl
theorem Ty.is_two {t:Ty}{t0 t1:D}(h:t.Is (.ag [t0,t1])):∃ kk l a es c,t=.mk kk l/\t0=.j kk/\t1=.sl a 2 es c/\es.length<=4611686018427387904/\TysIs l es:=by
 cases t with
 | mk kk l=>
   obtain⟨a,es,c,I,O,U⟩:=Ty.is_mk.1 h;injection I with I
   injection I with e1 J
   injection J with J _
   exact⟨kk,l,a,es,c,rfl,e1,J,O,CC U⟩
abbrev tmD (U V Y Z x4 x6:Value)(aT:Option Addr)(I:List D)(cT:Nat)(aR:Option Addr)(J:List D)(cR:Nat)(aA:Option Addr)(O:List D)(cA:Nat):D:=
 .ag [.lit U,.lit V,.lit Y,.lit Z,.lit x4,.sl aT 2 I cT,.lit x6,.sl aR 2 J cR,.sl aA 9 O cA]
theorem pE {x0 x1 x2 x3 x4 x6:Value} {U:Option Addr} {I:List D} {V:Nat} {Y:Option Addr} {J:List D} {Z:Nat} {aA:Option Addr} {O:List D} {cA:Nat} :
  (tmD x0 x1 x2 x3 x4 x6 U I V Y J Z aA O cA).foot=(D.sl U 2 I V).foot++((D.sl Y 2 J Z).foot++(D.sl aA 9 O cA).foot):=by
 simp only[D.foot,zA,o6,nH]
theorem BQ {kk:Int} {l:List Ty} {a:Option Addr} {es:List D} {c:Nat} (V:TysIs l es) (J:es.length<=4611686018427387904) (Y:Tree (.ag [.j kk,.sl a 2 es c])) (k:Int) (hk:0<=k) (Z:k+zI l<=4611686018427387904) (N:Nat) (R:D->Int->Nat->Prop)
  (hR:∀ es' N',N<=N'->TysIs (zH l k).1 es'->zA es'=zA es->es'.length=es.length->R (.ag [.j kk,.sl a 2 es' c]) (zH l k).2 N'):MC prog 19 (.ag [.j kk,.sl a 2 es c]) k N R:=by
 have hf:(D.ag [.j kk,.sl a 2 es c]).foot=(D.sl a 2 es c).foot:=by simp only[D.foot,zA,o6,nH]
 have I:Tree (.sl a 2 es c):=⟨hf ▸ Y.nd,Y.fl.2.1⟩
 refine p9 N [.j kk,.sl a 2 es c] k R (λk' x N'=>N<=N'/\∃ es',x=.ag [.j kk,.sl a 2 es' c]/\TysIs (zH l k).1 es'/\zA es'=zA es/\es'.length=es.length/\k'=(zH l k).2) ⟨_,rfl,rfl,by simp[D.isCell];rfl⟩
  ⟨a,es,c,rfl,I,⟨λb hb=>hf ▸ hb⟩,by simp[D.cells],rfl,⟨(by have:=Y.nd;simpa only[D.foot]using this:(zA [D.j kk,.sl a 2 es c]).Nodup)⟩,⟨by simp⟩,λN1 ac=>?_⟩ ?_
 ·refine vJ l es V a c I J k hk Z N1 _ λes' N2 ae h1 U O _ N3 ah=>?_;exact⟨by omega,es',rfl,h1,U,O,rfl⟩
 ·rintro k' x N' ⟨aa,es',rfl,h1,U,O,rfl⟩
  have ab:=uE (a:=a) (z:=2) (c:=c) O U;exact⟨_,rfl,by simp[D.cv,O],by simp only[zA,ab],hR es' N' aa h1 U O⟩
mutual
theorem ND:∀(t:Ty) (k:Int),0<=k->NC t k = -1\/NC t k+1=k+t.cnt
 | .mk _ l,k,h=>by
   simp only[NC,Ty.cnt]
   rcases Db l k h with h | h<;>omega
theorem Db:∀(l:List Ty) (k:Int),0<=k->wr l k = -1\/wr l k=k+zI l
 | [],k,_=>.inr (by simp[wr,zI])
 | .mk kk l::ts,k,h=>by
   simp only[wr,zI,Ty.cnt]
   split
   ·exact .inl rfl
   ·split
    ·exact .inl rfl
    ·rename_i I
     rcases Db l (k+1) (by omega)with h3 | h3
     ·omega
     ·rcases Db ts (wr l (k+1)) (by omega)with h4 | h4
      ·exact .inl h4
      ·exact .inr (by omega)
end
theorem pX (t:Ty):∀(es:List D)(a:Option Addr)(c:Nat),All2 Ty.Is t.as es->es.length<=4611686018427387904->∀ n:Int,0<=n->n+zI t.as<=4611686018427387904->Ay 54 [.sv a 2 es c,.j n] (wr t.as n):=by
 revert t;refine Ty.ind λk l ih es a c Y Z n h0 h1 N Q hQ=>?_;simp only[Ty.as]at Y hQ h1;refine qp N a es c n Q λ_=>?_;refine up Y Z (λi xs=>∀(m:Int) (N':Nat),N<=N'->0<=m->m+zI xs<=4611686018427387904->(∀ U,N'<=U->Q (wr xs m) U)->yS Q N a es c m i N') ?_ ?_ n N (oG _) h0 (by omega) hQ
 ·intro i ae _ m N' ah ai aa I;simp only[wr]at I;refine wi ?_
  repeat' first|with_reducible intro _|simp only[ae,Y1,Y2,Y3,Y4]|with_reducible refine X ?_ ?_|refine⟨_,_,_,rfl,?_⟩|refine⟨_,rfl,?_⟩|refine X0 ?_|fail
  exact I _ (by omega)
 ·intro i x xs J _ aj m N' ah ai aa I;have hb:=J.b;have hr:=J.r;have ak:=ih x J.m;cases x with
  | mk kk lt=>
  obtain⟨a1,al,c1,hd,V,ab⟩:=Ty.is_mk.1 hr;simp only[zI,Ty.cnt]at aa;simp only[wr]at I;have hc:=Db lt (m+1) (by omega);refine wi ?_;rw[i64_in (m+1) (by omega)]
  repeat' first|with_reducible intro _|simp only[J.lt,J.w,oX,hd,Y1,Y2,Y3,Y4]|with_reducible refine X ?_ ?_|refine⟨_,_,_,rfl,?_⟩|refine⟨_,rfl,?_⟩|refine X0 ?_|fail
  ·rename_i hk _ _;exact Qi (I _ (by omega)) (by rw[if_pos hk])
  ·rename_i hk _ _;have ac:=ak al a1 c1 ab V (m+1) (by omega) (by simp only[Ty.as];omega);simp only[Ty.as]at ac;refine ac _ _ λN3 ao _=>Br.dec (λO N4 aq=>?_) λO=>?_
   ·exact Qi (I _ (by omega)) (by rw[if_neg (by omega),if_pos O])
   ·exact aj _ _ (by omega) (by omega) (by omega) λU h=>Qi (I _ (by omega)) (by rw[if_neg (by omega),if_neg O])
theorem BP {kk:Int}{l:List Ty}{a:Option Addr}{es:List D}{c:Nat}(O:TysIs l es)(J:es.length<=4611686018427387904)(n:Int)(V:0<=n)(h1:n+zI l<=4611686018427387903):Ay 21 [.dg 2 (.ag [.j kk,.sl a 2 es c]),.j n] (wr l n):=λN Q Y=>by
 have hc:=Db l n V
 have:=pX (.mk kk l) es a c (wD O) J n V (by simp only[Ty.as];omega)
 refine Ao N _ n Q λ_=>?_;refine⟨_,_,_,rfl,λN1 Z=>?_⟩;refine this N1 _ λN2 aa _=>Br.dec (λI N3 U=>?_) λI N3 U=>?_
 ·simp only[Ty.as]at I;exact Qi (Y _ (by omega)) (by omega)
 ·exact Y _ (by omega)
def KD:Nat->Int->ByteArray->ByteArray
 | 0,_,s=>s
 | n+1,k,s=>if k>0 then KD n (IntKind.i64.wrap (Int.tdiv k 10)) (zX [IntKind.u8.wrap (IntKind.i64.wrap (48+Int.tmod k 10))]++s)else s
def vQ (k:Int):ByteArray:=if k<=0 then bytes [109,48]else bytes [109]++KD k.toNat k (bytes [])
theorem vI (k:Int)(Z:0<=k)(h1:k<=4611686018427387904):∀(N:Nat)(Q:QT [.str]),(∀ N',N<=N'->Q (vQ k) N')->ACalls prog 53 [.str] [.j k] N Q:=λN Q V=>by
 have key:∀(n:Nat) (k:Int) (s:ByteArray) (N':Nat),k.toNat<=n->0<=k->(s.size:Int)+k<=4611686018427387904->N<=N'->(∀ J,N'<=J->Q (bytes [109]++KD n k s) J)->yY Q N k s N':=by
  intro n
  induction n with
  | zero=>intro k s N' hn Y hs U I;refine vB (Br.dec (λh=>?_) λ_=>⟨by omega,λN1 O=>I _ (by omega)⟩);omega
  | succ n ih=>
    intro k s N' hn Y hs U I;refine vB (Br.dec (λh=>?_) λh=>⟨by omega,λN1 O=>by have:=I N1 (by omega);rwa[KD,if_neg h]at this⟩);rw[KD,if_pos h]at I;have hd:Int.tdiv k 10=k / 10:=Int.tdiv_eq_ediv_of_nonneg Y;refine⟨by decide,by simp,[_],rfl,?_,by decide,?_⟩
    ·show 1+s.size<=_;omega
    ·rw[hd,i64_in _ (by omega)];rw[hd,i64_in _ (by omega)]at I;refine ih _ _ _ (by omega) (by omega) ?_ U I;rw[oD];show((1+s.size:Nat):Int)+_<=_;omega
 refine Ap N k Q (Br.dec (λh N1 O=>by have:=V N1 O;rwa[vQ,if_pos h]at this) λh=>?_);rw[vQ,if_neg h]at V;exact key k.toNat k _ N (oG _) Z (by show((0:Nat):Int)+_<=_;omega) (oG _) λJ h2=>V J h2
theorem Dj:∀(n:Nat)(k:Int)(s:ByteArray),(KD n k s).size<=n+s.size
 | 0,k,s=>by simp[KD]
 | n+1,k,s=>by
   rw[KD];split
   ·refine o8 (Dj n _ _) ?_;rw[oD];have:(zX [IntKind.u8.wrap (IntKind.i64.wrap (48+Int.tmod k 10))]).size=1:=rfl;omega
   ·omega
theorem Bf (k:Int):(vQ k).size<=k.toNat+2:=by
 unfold vQ;split
 ·show 2<=_;omega
 ·rw[oD]
  have:=Dj k.toNat k (bytes [])
  have e:(bytes []).size=0:=rfl;have I:(bytes [109]).size=1:=rfl;omega
def zx:List Tm->Int->List Tm × Int
 | [],k=>([],k)
 | .mk _ _ _ _ ty re l::ts,k=>
   (.mk k (vQ (k+1)) (vQ (k+1+1)) (k+1+1+1) (.mk (k+1+1+1+1) (zH ty.as (k+1+1+1+1+1)).1) (.mk (zH ty.as (k+1+1+1+1+1)).2 (zH re.as ((zH ty.as (k+1+1+1+1+1)).2+1)).1)
     (zx l (zH re.as ((zH ty.as (k+1+1+1+1+1)).2+1)).2).1 ::
    (zx ts (zx l (zH re.as ((zH ty.as (k+1+1+1+1+1)).2+1)).2).2).1,(zx ts (zx l (zH re.as ((zH ty.as (k+1+1+1+1+1)).2+1)).2).2).2)
theorem rq:∀(l:List Tm)(k:Int),k<=(zx l k).2/\(zx l k).2<=k+4*yH l
 | [],k=>by simp[zx,yH]
 | .mk _ _ _ _ (.mk I tl) (.mk J rl) l::ts,k=>by simp only[zx,yH,Tm.cnt,Ty.cnt,Ty.as,yw];have O:=rq l (k+1+1+1+1+1+zI tl+1+zI rl);have U:=rq ts (zx l (k+1+1+1+1+1+zI tl+1+zI rl)).2;omega
theorem Di:∀(l:List Tm)(k:Int),(zx l k).1.length=l.length
 | [],k=>by simp only[zx]
 | .mk _ _ _ _ ty re l::ts,k=>by simp only[zx,oR,Di ts]
set_option maxHeartbeats 4000000
set_option maxRecDepth 100000
mutual
theorem qL:∀(l:List Tm) (es:List D),qY l es->∀(a:Option Addr) (c:Nat),Tree (.sl a 9 es c)->es.length<=4611686018427387904->∀(k:Int),0<=k->k+4*yH l<=4611686018427387904->∀(N:Nat) (R:D->Int->Nat->Prop),
  (∀ es' N',N<=N'->qY (zx l k).1 es'->zA es'=zA es->es'.length=es.length->R (.sl a 9 es' c) (zx l k).2 N')->MC prog 20 (.sl a 9 es c) k N R
 | l, es,a8,a,c,ah,ac,k,hk,bj,N,R,hR=>by
   by_cases ak:es=[]
   ·subst ak
    have hl:l=[]:=by have:=(vZ.1 a8).len;simp at this;exact oV this.symm
    subst hl
    refine KC (qq N a [] c k _ λ_=>sW (Br.of (λhc=>?_) λ_ N2 ba=>?_))
    ·simp at hc
    ·have:=hR [] N2 ba (by simp[zx,qY]) rfl rfl
     simpa only[zx]using this
   ·cases a with
    | none=>exact Hf (by kernel_rfl) ak
    | some ad=>
      have aa:=ah.nd
      have J:(D.sl (some ad) 9 es c).foot=ad.block::zA es:=by simp[D.foot,ak]
      rw[J]at aa
      refine qe N ad es c k R (λk' x N'=>N<=N'/\∃ es',x=.ag es'/\es'.length=es.length/\zA es'=zA es/\All2 Tm.Is (zx l k).1 es'/\k'=(zx l k).2) ah ak (by unfold maxLen;omega) (λt=>?_) ?_
      ·have:=DN l es a8 [] [] rfl es rfl (nV.1 aa).2 ah.fl.2 ac (D.sl (some ad) 9 es c).foot (λb hb=>by rw[J];simp[hb]) ad.block N es.length c t k hk bj (zx l k).1 (zx l k).2 (by simp) rfl es.length N (oG _) rfl
       simpa using this
      ·rintro k' x N' ⟨bm,es',rfl,h1,h2,h3,rfl⟩
       exact⟨es',rfl,h1,h2,hR es' N' bm (vZ.2 h3) h2 h1⟩
theorem DN:∀(l:List Tm) (rest:List D),qY l rest->∀(pl:List Tm) (done:List D),All2 Tm.Is pl done->∀(es:List D),zA (done++rest)=zA es->(zA (done++rest)).Nodup->tU rest->(done++rest).length<=4611686018427387904 ->
  ∀(T:List Nat),(∀ b∈zA es,b∈T)->∀(b0 N m c t:Nat) (k:Int),0<=k->k+4*yH l<=4611686018427387904->∀(L:List Tm) (K:Int),L=pl++(zx l k).1->K=(zx l k).2->∀(q N1:Nat),N<=N1->m=(done++rest).length ->
  zg T b0 (λk' x N'=>N<=N'/\∃ es',x=.ag es'/\es'.length=m/\zA es'=zA es/\All2 Tm.Is L es'/\k'=K) N m c k done.length t (done++rest) q N1
 | [],rest,hr,pl,done,hd,es,hf,aa,aj,ac,T,hT,b0,N,m,c,t,k,hk,bb,L,K,hL,hK,q,N1,bn,hm=>by
   simp only[qY]at hr
   subst hr
   rw[nH]at *
   refine xl ?_
   refine Br.of (λhc=>?_) λ_=>⟨rfl,λN3 bp=>⟨by omega,done,rfl,hm.symm,hf,by rw[hL];simpa [zx]using hd,by rw[hK];simp[zx]⟩⟩
   have:=mH hc;omega
 | .mk kk nm ot nn ty re la::ts,rest,hr,pl,done,hd,es,hf,aa,aj,ac,T,hT,b0,N,m,c,t,k,hk,bb,L,K,hL,hK,q,N1,bn,hm=>by
   simp only[qY]at hr
   obtain⟨d,ds,rfl,bc,bq⟩:=hr
   simp only[Tm.Is]at bc
   obtain⟨t0,t1,r0,r1,aA,O,cA,rfl,hh,a1,bd⟩:=bc
   obtain⟨kT,lT,aT,ab,cT,rfl,rfl,rfl,a6,au⟩:=Ty.is_two hh.ty
   obtain⟨kR,lR,aR,V,cR,rfl,rfl,rfl,a7,aw⟩:=Ty.is_two hh.re
   simp only[yH,Tm.cnt,Ty.cnt]at bb
   simp only[zx,Ty.as]at hL hK
   have al:(done.length:Int)<(m:Int):=by rw[hm];simp;omega
   have I:∀ d:D,done.length<(done++d::ds).length:=λd=>by simp
   have B:∀ x:D,(0<=(done.length:Int)/\(done.length:Int)<(m:Int)/\done.length<(done++x::ds).length):=λx=>⟨by omega,al,I x⟩
   have J:∀(x0 x1 x2 x3 x4 x6:Value) (eT eR eA:List D),zA eT=zA ab->eT.length=ab.length->zA eR=zA V->eR.length=V.length->zA eA=zA O->eA.length=O.length ->
     (tmD x0 x1 x2 x3 x4 x6 aT eT cT aR eR cR aA eA cA).foot=(tmD (.int .i64 kk) (.string nm) (.string ot) (.int .i64 nn) (.int .i64 kT) (.int .i64 kR) aT ab cT aR V cR aA O cA).foot:=λx0 x1 x2 x3 x4 x6 eT eR eA h1 h2 h3 h4 h5 h6=>by
    rw[pE,pE,uE h2 h1,uE h4 h3,uE h6 h5]
   have U:=Hl (b:=[]) aa
   have bg:=@pE (.int .i64 kk) (.string nm) (.string ot) (.int .i64 nn) (.int .i64 kT) (.int .i64 kR) aT ab cT aR V cR aA O cA
   rw[bg,o9,o9]at U
   have ao:∀ b∈(tmD (.int .i64 kk) (.string nm) (.string ot) (.int .i64 nn) (.int .i64 kT) (.int .i64 kR) aT ab cT aR V cR aA O cA).foot,b∈T:=λb hb=>hT b (hf ▸ by rw[zP];exact oZ _ (by simp only[zA];exact oe _ hb))
   rw[bg]at ao
   have ax:(D.sl aT 2 ab cT).Flat0:=aj.1.2.2.2.2.2.1
   have ay:(D.sl aR 2 V cR).Flat0:=aj.1.2.2.2.2.2.2.2.1
   have az:(D.sl aA 9 O cA).Flat0:=aj.1.2.2.2.2.2.2.2.2.1
   have b9:=au;have ca:=aw
   refine xl ?_
   rw[i64_in (k+1) (by omega),i64_in (k+1+1) (by omega),i64_in (k+1+1+1) (by omega),i64_in (k+1+1+1+1) (by omega)]
   simp only[oX,nX,pu,IK,Iy,p90,p91,p92,p93,p94,p95,p96,p97,p98]
   refine Br.of (λ_=>?_) λhc=>absurd al (mX hc)
   refine⟨B _,I _,λN2 ba=>?_⟩
   refine vI (k+1) (by omega) (by omega) N2 _ λN3 bp _=>?_
   refine⟨B _,I _,λN4 cc=>?_⟩
   refine vI (k+1+1) (by omega) (by omega) N4 _ λN5 cd _=>?_
   refine⟨B _,I _,B _,I _,B _,I _,B _,I _,aT,ab,cT,rfl,⟨U.1,ax⟩,⟨λb hb=>ao b (oe _ hb)⟩,I _,by simp,rfl,
    ⟨rx aa (J _ _ _ _ _ _ ab V O rfl rfl rfl rfl rfl rfl)⟩,⟨by simp⟩,λN6 ce=>?_⟩
   rw[i64_in (k+1+1+1+1+1) (by omega)]
   have cf:=yw lT (k+1+1+1+1+1)
   refine vJ lT ab au aT cT ⟨U.1,ax⟩ a6 (k+1+1+1+1+1) (by omega) (by omega) N6 _ λZ N7 cg h1 h2 h3 _=>?_
   generalize (zH lT (k+1+1+1+1+1)).2=Y at *
   generalize (zH lT (k+1+1+1+1+1)).1=bt at *
   refine⟨B _,I _,B _,I _,aR,V,cR,rfl,⟨U.2.1.1,ay⟩,⟨λb hb=>ao b (oZ _ (oe _ hb))⟩,I _,by simp,rfl,
    ⟨rx aa (J _ _ _ _ _ _ Z V O h2 h3 rfl rfl rfl rfl)⟩,⟨by simp⟩,λN8 ch=>?_⟩
   rw[i64_in (Y+1) (by omega)]
   have cj:=yw lR (Y+1)
   refine vJ lR V aw aR cR ⟨U.2.1.1,ay⟩ a7 (Y+1) (by omega) (by omega) N8 _ λae N9 ck h4 h5 h6 _=>?_
   generalize (zH lR (Y+1)).2=aq at *
   generalize (zH lR (Y+1)).1=bv at *
   refine⟨B _,I _,aA,O,cA,rfl,⟨U.2.1.2.1,az⟩,⟨λb hb=>ao b (oZ _ (oZ _ hb))⟩,I _,by simp,rfl,
    ⟨rx aa (J _ _ _ _ _ _ Z ae O h2 h3 h5 h6 rfl rfl)⟩,⟨by simp⟩,λbw b7=>?_⟩
   have cm:=rq la aq
   refine qL la O bd aA cA ⟨U.2.1.2.1,az⟩ a1 aq (by omega) (by omega) bw _ λai bh b8 h7 h8 h9 _=>?_
   generalize (zx la aq).2=k' at *
   generalize (zx la aq).1=bz at *
   rw[i64_in ((done.length:Int)+1) (by rw[hm]at al;simp at al ac;omega)]
   have bi:=J (.int .i64 k) (.string (vQ (k+1))) (.string (vQ (k+1+1))) (.int .i64 (k+1+1+1)) (.int .i64 (k+1+1+1+1)) (.int .i64 Y) Z ae ai h2 h3 h5 h6 h8 h9
   have b3:(Tm.mk k (vQ (k+1)) (vQ (k+1+1)) (k+1+1+1) (.mk (k+1+1+1+1) bt) (.mk Y bv) bz).Is (tmD (.int .i64 k) (.string (vQ (k+1))) (.string (vQ (k+1+1))) (.int .i64 (k+1+1+1)) (.int .i64 (k+1+1+1+1)) (.int .i64 Y) aT Z cT aR ae cR aA ai cA):=by
    simp only[Tm.Is]
    have cn:=Bf (k+1)
    have co:=Bf (k+1+1)
    exact⟨_,_,_,_,_,_,_,rfl,⟨by omega,by omega,Ty.is_mk.2 ⟨_,_,_,rfl,by omega,wD h1⟩,Ty.is_mk.2 ⟨_,_,_,rfl,by omega,wD h4⟩⟩,by omega,h7⟩
   generalize hx:tmD (.int .i64 k) (.string (vQ (k+1))) (.string (vQ (k+1+1))) (.int .i64 (k+1+1+1)) (.int .i64 (k+1+1+1+1)) (.int .i64 Y) aT Z cT aR ae cR aA ai cA=x at *
   have e1:((done++[x]).length:Int)=(done.length:Int)+1:=by simp
   have e2:done++x::ds=(done++[x])++ds:=by simp
   rw[<-e1]
   show zg T b0 _ N m c k' _ t (done++tmD (.int .i64 k) (.string (vQ (k+1))) (.string (vQ (k+1+1))) (.int .i64 (k+1+1+1)) (.int .i64 (k+1+1+1+1)) (.int .i64 Y) aT Z cT aR ae cR aA ai cA::ds) q bh
   rw[hx,e2]
   exact DN ts ds bq _ (done++[x]) (hd.snoc b3) es (by rw[oL,mO,BZ bi];exact hf) (by rw[oL,mO];exact rx aa bi) aj.2 (by simpa using ac) T hT b0 N m c t k'
    (by omega) (by omega) L K (by rw[hL];simp) hK q bh (by omega) (by rw[hm];simp)
end
def Tm.mkd:Tm->Int->Tm
 | .mk kk nm ot n ty re l,k=>.mk kk nm ot n (.mk ty.k (zH ty.as k).1) (.mk re.k (zH re.as (zH ty.as k).2).1) (zx l (zH re.as (zH ty.as k).2).2).1
def Tm.mkk:Tm->Int->Int
 | .mk kk nm ot n ty re l,k=>(zx l (zH re.as (zH ty.as k).2).2).2
theorem Tm.mkk_k:∀(t:Tm)(k:Int),k<=t.mkk k/\t.mkk k<=k+4*t.cnt
 | .mk _ _ _ _ (.mk _ tl) (.mk _ rl) l,k=>by
   have:=rq l (k+zI tl+zI rl)
   simp only[Tm.mkk,Tm.cnt,Ty.cnt,Ty.as,yw];omega
theorem ET {t:Tm} {d:D} (hd:t.Is d) (ht:Tree d) (k:Int) (hk:0<=k) (ay:k+4*t.cnt<=4611686018427387904) (N:Nat) (R:D->Int->Nat->Prop)
  (hR:∀ d' N',N<=N'->(t.mkd k).Is d'->d'.foot=d.foot->d'.cells.map D.cv=d.cells.map D.cv->R d' (t.mkk k) N'):MC prog 8 d k N R:=by
 cases t with
 | mk kk nm ot nn ty re la=>
 obtain⟨t0,t1,r0,r1,aA,I,cA,rfl,hh,ae,al⟩:=Tm.is_mk.1 hd;obtain⟨kT,lT,aT,O,cT,rfl,rfl,rfl,ah,ao⟩:=Ty.is_two hh.ty;obtain⟨kR,lR,aR,J,cR,rfl,rfl,rfl,ai,aq⟩:=Ty.is_two hh.re;have au:=@pE (.int .i64 kk) (.string nm) (.string ot) (.int .i64 nn) (.int .i64 kT) (.int .i64 kR) aT O cT aR J cR aA I cA;have aa:=ht.nd;rw[show(D.ag [D.j kk,.t nm,.t ot,.j nn,.j kT,.sl aT 2 O cT,.j kR,.sl aR 2 J cR,.sl aA 9 I cA]).foot=_ from au,o9,o9]at aa;have aj:=ht.fl;have aw:(D.sl aT 2 O cT).Flat0:=aj.2.2.2.2.2.1;have ax:(D.sl aR 2 J cR).Flat0:=aj.2.2.2.2.2.2.2.1;have ac:(D.sl aA 9 I cA).Flat0:=aj.2.2.2.2.2.2.2.2.1;simp only[Tm.cnt,Ty.cnt]at ay;simp only[Tm.mkd,Tm.mkk,Ty.as,Ty.k]at hR;have U:∀(V Y eA:List D),zA V=zA O->V.length=O.length->zA Y=zA J->Y.length=J.length->zA eA=zA I->eA.length=I.length ->
   zA [D.j kk,.t nm,.t ot,.j nn,.j kT,.sl aT 2 V cT,.j kR,.sl aR 2 Y cR,.sl aA 9 eA cA] =
   zA [D.j kk,.t nm,.t ot,.j nn,.j kT,.sl aT 2 O cT,.j kR,.sl aR 2 J cR,.sl aA 9 I cA]:=λV Y eA h1 h2 h3 h4 h5 h6=>by
  simp only[zA,uE (a:=aT) (z:=2) (c:=cT) h2 h1,uE (a:=aR) (z:=2) (c:=cR) h4 h3,uE (a:=aA) (z:=9) (c:=cA) h6 h5]
 have Z:(zA [D.j kk,.t nm,.t ot,.j nn,.j kT,.sl aT 2 O cT,.j kR,.sl aR 2 J cR,.sl aA 9 I cA]).Nodup:=by have:=ht.nd;simpa only[D.foot]using this
 have ak:∀ b∈(D.sl aT 2 O cT).foot++((D.sl aR 2 J cR).foot++(D.sl aA 9 I cA).foot),b∈(D.ag [D.j kk,.t nm,.t ot,.j nn,.j kT,.sl aT 2 O cT,.j kR,.sl aR 2 J cR,.sl aA 9 I cA]).foot:=λb hb=>by rw[show(D.ag [D.j kk,.t nm,.t ot,.j nn,.j kT,.sl aT 2 O cT,.j kR,.sl aR 2 J cR,.sl aA 9 I cA]).foot=_ from au];exact hb
 have ab:∀(x:Value) (a:Option Addr) (es:List D) (c:Nat),(D.ag [.lit x,.sl a 2 es c]).foot=(D.sl a 2 es c).foot:=λx a es c=>by simp only[D.foot,zA,o6,nH]
 have tT:Tree (.ag [.j kT,.sl aT 2 O cT]):=⟨by rw[ab];exact aa.1,trivial,aw,trivial⟩
 have tR:Tree (.ag [.j kR,.sl aR 2 J cR]):=⟨by rw[ab];exact aa.2.1.1,trivial,ax,trivial⟩
 refine p8 N _ k R (λk' x N'=>N<=N'/\∃ V Y eA,x=.ag [D.j kk,.t nm,.t ot,.j nn,.j kT,.sl aT 2 V cT,.j kR,.sl aR 2 Y cR,.sl aA 9 eA cA]/\zA V=zA O/\V.length=O.length/\zA Y=zA J/\Y.length=J.length/\zA eA=zA I/\eA.length=I.length /\
   TysIs (zH lT k).1 V/\TysIs (zH lR (zH lT k).2).1 Y/\qY (zx la (zH lR (zH lT k).2).2).1 eA/\k'=(zx la (zH lR (zH lT k).2).2).2)
  ⟨_,rfl,rfl,by simp[D.isCell];exact⟨rfl,rfl,rfl,rfl,rfl,rfl⟩⟩ ⟨tT,⟨λb hb=>ak b (oe _ (by rw[<-ab (.int .i64 kT)];exact hb))⟩,by simp[D.cells],rfl,⟨Z⟩,⟨by simp⟩,λN1 a1=>?_⟩ ?_
 ·have a6:=yw lT k;refine BQ ao ah tT k hk (by omega) N1 _ λV N2 a7 h1 h2 h3 _=>?_;generalize (zH lT k).2=k1 at *;refine⟨tR,⟨λb hb=>ak b (oZ _ (oe _ (by rw[<-ab (.int .i64 kR)];exact hb)))⟩,by simp[D.cells,z6],rfl,⟨(U V J I h2 h3 rfl rfl rfl rfl).symm ▸ Z⟩,⟨by simp⟩,λN3 a8=>?_⟩;have ba:=yw lR k1;refine BQ aq ai tR k1 (by omega) (by omega) N3 _ λY N4 bb h4 h5 h6 _=>?_;generalize (zH lR k1).2=k2 at *;refine⟨aA,I,cA,rfl,⟨aa.2.1.2.1,ac⟩,⟨λb hb=>ak b (oZ _ (oZ _ hb))⟩,by simp[D.cells,z6],rfl,⟨(U V Y I h2 h3 h5 h6 rfl rfl).symm ▸ Z⟩,⟨by simp⟩,λN5 bc=>?_⟩;refine qL la I (vZ.2 al) aA cA ⟨aa.2.1.2.1,ac⟩ ae k2 (by omega) (by omega) N5 _ λeA N6 bd h7 h8 h9 _ N7 bg=>?_;exact⟨by omega,V,Y,eA,rfl,h2,h3,h5,h6,h8,h9,h1,h4,h7,rfl⟩
 ·rintro k' x N' ⟨az,V,Y,eA,rfl,h1,h2,h3,h4,h5,h6,g1,g2,g3,rfl⟩
  refine⟨_,rfl,by simp[D.cv,h2,h4,h6],U V Y eA h1 h2 h3 h4 h5 h6,hR _ N' az ?_ (U V Y eA h1 h2 h3 h4 h5 h6) (by simp[D.cells,D.cv,h2,h4,h6])⟩;exact Tm.is_mk.2 ⟨_,_,_,_,_,_,_,rfl,⟨hh.nm,hh.ot,Ty.is_mk.2 ⟨_,_,_,rfl,by omega,wD g1⟩,Ty.is_mk.2 ⟨_,_,_,rfl,by omega,wD g2⟩⟩,by omega,vZ.1 g3⟩
theorem EU {t:Tm} {d:D} (hd:t.Is d) (J:Tree d) (k:Int) (O:0<=k) (I:k+4*t.cnt<=4611686018427387904) (N:Nat) (R:D->Int->Nat->Prop)
  (U:∀ d' N',N<=N'->(t.mkd k).Is d'->d'.foot=d.foot->R d' (t.mkk k) N'):MC prog 8 d k N R:=
 ET hd J k O I N R λd' N' V Y Z _=>U d' N' V Y Z
theorem FH (l:List Ty)(k:Int)(es:List D)(a:Option Addr)(c:Nat)(J:All2 Ty.Is (zH l k).1 es)(I:es.length<=4611686018427387904)(O:0<=k)(U:k+zI l<=4611686018427387904):Ay 54 [.sv a 2 es c,.j k] (zH l k).2:=by have h:=pX (.mk 0 (zH l k).1) es a c J I k O (by simp only[Ty.as,uY];exact U);simp only[Ty.as,Bb l k O]at h;exact h
theorem DM:∀(t:Tm)(k:Int)(es:List D)(a:Option Addr)(c:Nat),All2 Tm.Is (zx t.as k).1 es->es.length<=4611686018427387904->0<=k->k+4*yH t.as<=4611686018427387904->Ay 22 [.sv a 9 es c,.j k] (zx t.as k).2:=by
 refine Tm.ind λkk nm ot n ty re l ih k es a c O bj h0 h1 N Q hQ=>?_;simp only[Tm.as]at O hQ h1;have hl:=O.len;rw[Di]at hl;refine qo N a es c k Q λ_=>?_;have key:∀(xs:List Tm) (i:Nat) (m:Int) (N':Nat),N<=N'->(∀ x∈xs,x∈l)->i+xs.length=es.length->(zx l k).1.drop i=(zx xs m).1->(zx xs m).2=(zx l k).2->0<=m->m+4*yH xs<=4611686018427387904->yR Q N a es c m i N':=by
  intro xs
  induction xs with
  | nil=>
    intro i m N' ak _ hi hd I hm _;refine wh (Br.dec (λh=>?_) λ_ N1 bw=>?_)
    ·simp at hi;omega
    ·simp only[zx]at I;exact Qi (hQ _ (by omega)) I.symm
  | cons x ts al=>
    intro i m N' ak J hi hd I hm hb;cases x with
    | mk kx nx ox ao aq au lx=>
    obtain⟨tk,tl⟩:=aq;obtain⟨rk,rl⟩:=au;have hx:=ih (.mk kx nx ox ao (.mk tk tl) (.mk rk rl) lx) (J _ (by simp));simp only[Tm.as]at hx;simp only[zx,Ty.as]at hd I;simp only[yH,Tm.cnt,Ty.cnt]at hb;simp only[oR]at hi;have aw:=yw tl (m+1+1+1+1+1);generalize hT:zH tl (m+1+1+1+1+1)=Z at hd I aw;have ax:=yw rl (Z.2+1);generalize hR:zH rl (Z.2+1)=mR at hd I ax;have ay:=rq lx mR.2;generalize hA:zx lx mR.2=mA at hd I ay;have hg:(zx l k).1[i]?=some (Tm.mk m (vQ (m+1)) (vQ (m+1+1)) (m+1+1+1) (.mk (m+1+1+1+1) Z.1) (.mk Z.2 mR.1) mA.1):=by
     have:=oQ (λu=>u[0]?) hd
     simpa using this
    have hr:=O.get hg;obtain⟨t0,t1,r0,r1,a2,az,c2,a1,hh,U,aa⟩:=Tm.is_mk.1 hr;obtain⟨kT,lT,aT,a6,cT,eT,rfl,rfl,V,ab⟩:=Ty.is_two hh.ty;obtain⟨kR,lR,aR,a7,cR,eR,rfl,rfl,Y,ac⟩:=Ty.is_two hh.re;injection eT with a8 ba
    injection eR with bb bc
    subst a8;subst ba;subst bb;subst bc;have ae:(i:Int)<(es.length:Int):=by omega
    have B:(0:Int)<=(i:Int)/\(i:Int)<(es.length:Int):=⟨by omega,ae⟩
    refine wh ?_;rw[i64_in (m+1) (by omega),i64_in (m+1+1) (by omega),i64_in (m+1+1+1) (by omega),i64_in (m+1+1+1+1) (by omega),i64_in (m+1+1+1+1+1) (by omega),i64_in ((i:Int)+1) (by omega)];rw[oX,a1];refine Br.dec (λ_=>?_) λh=>absurd ae h;refine⟨B,_,rfl,Br.bne (λh=>absurd rfl h) λ_=>⟨B,_,rfl,λN2 bz=>?_⟩⟩;refine vI (m+1) (by omega) (by omega) N2 _ λN3 b3 _=>Br.nstr (λh=>absurd rfl h) λ_=>⟨B,_,rfl,λN5 b7=>?_⟩
    refine vI (m+1+1) (by omega) (by omega) N5 _ λN6 b8 _=>Br.nstr (λh=>absurd rfl h) λ_=>⟨B,_,rfl,Br.bne (λh=>absurd rfl h) λ_=>⟨B,_,rfl,Br.bne (λh=>absurd rfl h) λ_=>⟨B,_,_,_,rfl,λbd bm=>?_⟩⟩⟩
    have ah:=FH tl (m+1+1+1+1+1) a6 aT cT (by rw[hT];exact wD ab) V (by omega) (by omega);rw[hT]at ah;refine ah bd _ λb9 bn _=>Br.dec (λh=>by omega) λ_=>⟨B,_,rfl,Br.bne (λh=>absurd rfl h) λ_=>⟨B,_,_,_,rfl,λbg bp=>?_⟩⟩
    rw[i64_in (Z.2+1) (by omega)];have ai:=FH rl (Z.2+1) a7 aR cR (by rw[hR];exact wD ac) Y (by omega) (by omega);rw[hR]at ai;refine ai bg _ λca bq _=>Br.dec (λh=>by omega) λ_=>⟨B,_,_,_,rfl,λbh bt=>?_⟩
    have aj:=hx mR.2 az a2 c2 (by rw[hA];exact aa) U (by omega) (by omega);rw[hA]at aj;refine aj bh _ λbi bv _=>Br.dec (λh=>by omega) λ_=>?_;refine al (i+1) mA.2 bi (by omega) (λx hx=>J x (by simp[hx])) (by omega) ?_ I (by omega) (by omega)
    have:=oQ (List.drop 1) hd
    simpa [List.drop_drop,Nat.add_comm]using this
 exact key l 0 k N (oG _) (λx h=>h) (by omega) (by simp) rfl h0 h1
theorem ER (t:Tm)(k:Int)(d:D)(hd:(t.mkd k).Is d)(h0:0<=k)(h1:k+4*t.cnt<=4611686018427387904):Ay 9 [.dg 9 d,.j k] (t.mkk k):=λN Q hQ=>by
 obtain⟨kk,nm,ot,n,⟨tk,tl⟩,⟨rk,rl⟩,l⟩:=t;simp only[Tm.mkd,Tm.mkk,Ty.as,Ty.k]at hd hQ;simp only[Tm.cnt,Ty.cnt]at h1;have ab:=yw tl k;generalize hT:zH tl k=I at hd hQ ab;have ac:=yw rl I.2;generalize hR:zH rl I.2=V at hd hQ ac;have au:=rq l V.2;obtain⟨t0,t1,r0,r1,a2,ae,c2,rfl,hh,J,Y⟩:=Tm.is_mk.1 hd;obtain⟨kT,lT,aT,aw,cT,eT,rfl,rfl,O,Z⟩:=Ty.is_two hh.ty;obtain⟨kR,lR,aR,ax,cR,eR,rfl,rfl,U,aa⟩:=Ty.is_two hh.re;injection eT with ah ai
 injection eR with aj ak
 subst ah;subst ai;subst aj;subst ak;have ay:zI I.1=zI tl:=by rw[<-hT];exact uY tl k
 have az:zI V.1=zI rl:=by rw[<-hR];exact uY rl _
 have al:wr I.1 k=I.2:=by rw[<-hT];exact Bb tl k h0
 have ao:wr V.1 I.2=V.2:=by rw[<-hR];exact Bb rl _ (by omega)
 refine Am N _ k Q λ_ N1 a1=>?_;have h2:=BP (kk:=tk) (a:=aT) (c:=cT) Z O k h0 (by omega);rw[al]at h2;refine h2 N1 _ λN2 a6 _=>Br.dec (λh=>by omega) λ_ N4 a7=>?_;have h3:=BP (kk:=rk) (a:=aR) (c:=cR) aa U I.2 (by omega) (by omega);rw[ao]at h3;refine h3 N4 _ λN5 a8 _=>Br.dec (λh=>by omega) λ_=>⟨_,_,_,rfl,λN7 ba=>?_⟩
 refine DM (.mk 0 (bytes []) (bytes []) 0 (.mk 0 []) (.mk 0 []) l) V.2 ae a2 c2 Y J (by omega) (by simp only[Tm.as];omega) N7 _ λN8 bb _=>Br.dec (λh=>by simp only[Tm.as]at h;omega) λ_ bc aq=>?_;exact hQ _ (by omega)
end Go.Proofs.YtldbmnklnpfpfaaGreatDoor
