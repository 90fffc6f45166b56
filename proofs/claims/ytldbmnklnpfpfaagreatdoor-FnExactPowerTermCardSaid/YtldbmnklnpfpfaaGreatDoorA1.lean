/- Data as plain trees, and what the laws' first look at them (their size) comes to. -/
import Derived.IntWalk
import Derived.Test.YtldbmnklnpfpfaaGreatDoorKa
set_option linter.unusedVariables false
set_option linter.unusedSimpArgs false
namespace Go.Proofs.YtldbmnklnpfpfaaGreatDoor
open Go Go.Proofs Go.Proofs.Tryz Go.IntWalk
inductive Ty where
 | mk (k:Int) (l:List Ty)
mutual
def Ty.Is:Ty->D->Prop
 | .mk k l,d=>∃ a es c,d=.ag [.j k,.sl a 2 es c]/\es.length<=4611686018427387904/\TysIs l es
def TysIs:List Ty->List D->Prop
 | [],es=>es=[]
 | t::ts,es=>∃ d ds,es=d::ds/\t.Is d/\TysIs ts ds
end
theorem TysIs.len:∀ {ts:List Ty}{es:List D},TysIs ts es->es.length=ts.length
 | [],es,h=>by simp[TysIs]at h;subst h;rfl
 | t::ts,es,h=>by simp only[TysIs]at h;obtain⟨d,ds,rfl,_,h⟩:=h;simp[TysIs.len h]
theorem Br.of {v:Bool}{A B:Prop}(I:v=true->A)(J:v=false->B):Br v A B:=by
 cases v
 ·exact J rfl
 ·exact I rfl
theorem p5 {pre ds:List D}{d:D}:(pre++d::ds).getD pre.length default=d:=by simp[oA]
structure OwnL (N N':Nat) (es:List D):Prop where
 nd:(zA es).Nodup
 fl:tW es
 lo:∀ b∈zA es,N<=b
 hi:∀ b∈zA es,b<N'
structure Own (N N':Nat) (d:D):Prop where
 nd:d.foot.Nodup
 fl:d.Flat0
 lo:∀ b∈d.foot,N<=b
 hi:∀ b∈d.foot,b<N'
theorem Own.mono {N1 J O U:Nat}{d:D}(h:Own N1 J d)(V:O<=N1)(Y:J<=U):Own O U d:=⟨h.nd,h.fl,λb I=>o8 V (h.lo b I),λb I=>om (h.hi b I) Y⟩
theorem OwnL.mono {N1 J O U:Nat}{es:List D}(h:OwnL N1 J es)(V:O<=N1)(Y:J<=U):OwnL O U es:=⟨h.nd,h.fl,λb I=>o8 V (h.lo b I),λb I=>om (h.hi b I) Y⟩
theorem Jg {N N':Nat}:OwnL N N' []:=⟨by simp[zA],trivial,by simp[zA],by simp[zA]⟩
theorem sW:∀ {a b:List D},tW a->tW b->tW (a++b)
 | [],b,_,h=>h
 | x::a,b,I,J=>⟨I.1,sW I.2 J⟩
theorem yK {N N1 O:Nat}{es fs:List D}(I:OwnL N N1 es)(J:OwnL N1 O fs)(hN:N<=N1)(U:N1<=O):OwnL N O (es++fs):=by
 refine⟨?_,sW I.fl J.fl,λb hb=>?_,λb hb=>?_⟩
 ·rw[zP,o9];refine⟨I.nd,J.nd,λx V y Y Z=>?_⟩
  have:=I.hi x V;have:=J.lo y Y;omega
 ·rw[zP]at hb;rcases oP.1 hb with hb | hb
  ·exact I.lo b hb
  ·have:=J.lo b hb;omega
 ·rw[zP]at hb;rcases oP.1 hb with hb | hb
  ·have:=I.hi b hb;omega
  ·exact J.hi b hb
theorem yL {N N':Nat}{d:D}(h:Own N N' d):OwnL N N' [d]:=⟨by simpa [zA]using h.nd,⟨h.fl,trivial⟩,by simpa [zA]using h.lo,by simpa [zA]using h.hi⟩
theorem ya {N N':Nat}{x:Value}{es:List D}(h:OwnL N N' es):OwnL N N' (.lit x::es):=⟨by simpa [zA,D.foot]using h.nd,⟨trivial,h.fl⟩,by simpa [zA,D.foot]using h.lo,by simpa [zA,D.foot]using h.hi⟩
theorem Dw {N N':Nat}{cs:List D}(h:OwnL N N' cs):Own N N' (.ag cs):=⟨by simpa only[D.foot]using h.nd,h.fl,by simpa only[D.foot]using h.lo,by simpa only[D.foot]using h.hi⟩
theorem Bw {N N1 N3:Nat}{a:Option Addr}{z c:Nat}{es ds:List D}(h:OwnL N N1 es)(O:Fresh N N3 a (.ag es::ds))(hN:N1<=N3):Own N N3 (.sl a z es c):=by
 cases a with
 | none=>exact⟨by simpa only[D.foot]using h.nd,⟨by simp,h.fl⟩,by simpa only[D.foot]using h.lo,λb hb=>by simp only[D.foot]at hb;have:=h.hi b hb;omega⟩
 | some ad=>
   have J:=O.ap ad rfl (.ag es) (by simp);simp only[D.foot]at J;have I:∀ b∈(D.sl (some ad) z es c).foot,b=ad.block\/b∈zA es:=λb hb=>by
    simp only[D.foot]at hb;split at hb
    ·simp at hb
    ·exact oH.1 hb
   refine⟨?_,⟨λU V=>by cases V;exact O.off ad rfl,h.fl⟩,λb hb=>?_,λb hb=>?_⟩
   ·simp only[D.foot];split
    ·exact mZ
    ·exact nV.2 ⟨J,h.nd⟩
   ·rcases I b hb with rfl | hb
    ·exact O.lo ad rfl
    ·exact h.lo b hb
   ·rcases I b hb with rfl | hb
    ·exact O.hi ad rfl
    ·have:=h.hi b hb;omega
theorem TysIs.snoc:∀ {ts:List Ty}{es:List D}{t:Ty}{d:D},TysIs ts es->t.Is d->TysIs (ts++[t]) (es++[d])
 | [],es,t,d,h,I=>by simp[TysIs]at h;subst h;exact⟨d,[],rfl,I,rfl⟩
 | u::ts,es,t,d,h,I=>by simp only[TysIs]at h;obtain⟨x,ds,rfl,J,O⟩:=h;exact⟨x,ds++[d],rfl,J,TysIs.snoc O I⟩
theorem IR {done junk:List D}{x y:D}:(done++y::junk).set done.length x=done++x::junk:=by simp
mutual
def Ty.cnt:Ty->Nat
 | .mk _ l=>1+zG l
def zG:List Ty->Nat
 | []=>0
 | t::ts=>t.cnt+zG ts
end
mutual
def Gb:Ty->Int->Ty × Int
 | .mk _ l,k=>(.mk k (zI l (k+1)).1,(zI l (k+1)).2)
def zI:List Ty->Int->List Ty × Int
 | [],k=>([],k)
 | t::ts,k=>((Gb t k).1::(zI ts (Gb t k).2).1,(zI ts (Gb t k).2).2)
end
mutual
theorem MV:∀(t:Ty) (k:Int),(Gb t k).2=k+t.cnt
 | .mk _ l,k=>by simp only[Gb,Ty.cnt,yy l (k+1)];omega
theorem yy:∀(l:List Ty) (k:Int),(zI l k).2=k+zG l
 | [],k=>by simp[zI,zG]
 | t::ts,k=>by simp only[zI,zG,yy ts,MV t k];omega
end
mutual
theorem Jb:∀(t:Ty) (k:Int),(Gb t k).1.cnt=t.cnt
 | .mk kk l,k=>by simp only[Gb,Ty.cnt,uZ l]
theorem uZ:∀(l:List Ty) (k:Int),zG (zI l k).1=zG l
 | [],k=>rfl
 | t::ts,k=>by simp only[zI,zG,Jb t,uZ ts]
end
theorem Own.tree {N N':Nat}{d:D}(h:Own N N' d):Tree d:=⟨h.nd,h.fl⟩
theorem Own.low {N N' M:Nat}{d:D}(h:Own N N' d)(I:M<=N):Low M d:=⟨λb J=>o8 I (h.lo b J)⟩
theorem Il {N N':Nat}{d x:D}(h:Own N N' d)(I:Bel N x):∀ b∈d.foot,b∉x.foot:=λb J hc=>by have:=h.lo b J;have:=I b hc;omega
theorem Bel.mono {N M:Nat}{x:D}(h:Bel N x)(I:N<=M):Bel M x:=λb J=>om (h b J) I
theorem Hn {P:Program}{f:FuncId}{z c:Nat}{es:List D}{k:Int}{N:Nat}{R:D->Int->Nat->Prop}(hc:zt P f=true)(I:es≠[]):MC P f (.sl none z es c) k N R:=
 ⟨hc,λw0 _ _ _ _ J _=>by cases J;exact absurd rfl I⟩
theorem qA {done ds:List D}{d d':D}(h:(zA (done++d::ds)).Nodup)(I:d'.foot=d.foot):(zA (done++d'::ds)).Nodup:=by simpa only[zP,zA,I]using h
theorem Bi {done ds:List D}{d d':D}(I:d'.foot=d.foot):zA (done++d'::ds)=zA (done++d::ds):=by simp only[zP,zA,I]
theorem uF {a:Option Addr}{z c:Nat}{es es':List D}(J:es'.length=es.length)(I:zA es'=zA es):(D.sl a z es' c).foot=(D.sl a z es c).foot:=by
 cases a with
 | none=>simp only[D.foot,I]
 | some ad=>
   have:es'.isEmpty=es.isEmpty:=by cases es<;>cases es'<;>simp at J ⊢
   simp only[D.foot,I,this]
mutual
theorem vM:∀(l:List Ty) (es:List D),TysIs l es->∀(a:Option Addr) (c:Nat),Tree (.sl a 2 es c)->es.length<=4611686018427387904->∀(k:Int),0<=k->k+zG l<=4611686018427387904->∀(N:Nat) (R:D->Int->Nat->Prop),
  (∀ es' N',N<=N'->TysIs (zI l k).1 es'->zA es'=zA es->es'.length=es.length->R (.sl a 2 es' c) (zI l k).2 N')->MC prog 52 (.sl a 2 es c) k N R
 | l, es,au,a,c,ab,Y,k,hk,ai,N,R,hR=>by
   by_cases aj:es=[]
   ·subst aj
    have hl:l=[]:=by have:=au.len;simp at this;exact oV this.symm
    subst hl
    refine KJ (qy N a [] c k _ λ_=>sc (Br.of (λhc=>?_) λ_ N2 aw=>?_))
    ·simp at hc
    ·exact hR [] N2 aw (by simp[zI,TysIs]) rfl rfl
   ·cases a with
    | none=>exact Hn (by kernel_rfl) aj
    | some ad=>
      refine qi N ad es c k R (λk' x N'=>N<=N'/\∃ es',x=.ag es'/\es'.length=es.length/\zA es'=zA es/\TysIs (zI l k).1 es'/\k'=(zI l k).2) ab aj (by unfold maxLen;omega) (λt=>?_) ?_
      ·have Z:=ab.nd
       have ac:(D.sl (some ad) 2 es c).foot=ad.block::zA es:=by simp[D.foot,aj]
       have ae:∀ b∈zA es,b∈(D.sl (some ad) 2 es c).foot:=λb hb=>by rw[ac];simp[hb]
       rw[ac]at Z
       have:=FQ l es au [] [] (by simp[TysIs]) es rfl (nV.1 Z).2 ab.fl.2 Y (D.sl (some ad) 2 es c).foot ae ad.block N es.length c t k hk ai (zI l k).1 (zI l k).2 (by simp) rfl es.length N (oG _)
       simpa using this
      ·rintro k' x N' ⟨az,es',rfl,h1,h2,h3,rfl⟩
       exact⟨es',rfl,h1,h2,hR es' N' az h3 h2 h1⟩
theorem FQ:∀(l:List Ty) (rest:List D),TysIs l rest->∀(J:List Ty) (done:List D),TysIs J done->∀(es:List D),zA (done++rest)=zA es->(zA (done++rest)).Nodup->tW rest->(done++rest).length<=4611686018427387904 ->
  ∀(T:List Nat),(∀ b∈zA es,b∈T)->∀(b0 N m c t:Nat) (k:Int),0<=k->k+zG l<=4611686018427387904->∀(L:List Ty) (K:Int),L=J++(zI l k).1->K=(zI l k).2->∀(q N1:Nat),N<=N1->m=(done++rest).length ->
  zq T b0 (λk' x N'=>N<=N'/\∃ es',x=.ag es'/\es'.length=m/\zA es'=zA es/\TysIs L es'/\k'=K) N m c k done.length t (done++rest) q N1
 | [],rest,hr,J,done,hd,es,hf,Z,ao,Y,T,hT,b0,N,m,c,t,k,hk,ai,L,K,hL,hK,q,N1,a6,hm=>by
   simp[TysIs]at hr
   subst hr
   rw[nH]at *
   refine xn (Br.of (λhc=>?_) λ_=>⟨rfl,λN3 a7=>⟨by omega,done,rfl,hm.symm,hf,?_,?_⟩⟩)
   ·have:=mH hc;omega
   ·rw[hL];simpa [zI]using hd
   ·rw[hK];simp[zI]
 | .mk kk lt::ts,rest,hr,J,done,hd,es,hf,Z,ao,Y,T,hT,b0,N,m,c,t,k,hk,ai,L,K,hL,hK,q,N1,a6,hm=>by
   simp only[TysIs]at hr
   obtain⟨d,ds,rfl,ax,a8⟩:=hr
   simp only[Ty.Is]at ax
   obtain⟨U,I,V,rfl,aq,ba⟩:=ax
   simp only[zG,Ty.cnt]at ai
   have ah:(done.length:Int)<(m:Int):=by rw[hm];simp;omega
   have aa:∀ d:D,done.length<(done++d::ds).length:=λd=>by simp
   have bb:∀ x:Value,(D.ag [.lit x,.sl U 2 I V]).foot=(D.ag [.j kk,.sl U 2 I V]).foot:=λx=>by simp only[D.foot,zA]
   have ae:∀ b∈(D.sl U 2 I V).foot,b∈zA (done++D.ag [.j kk,.sl U 2 I V]::ds):=λb hb=>by
    rw[zP]
    refine oZ _ ?_
    simp only[zA,D.foot]at hb ⊢
    simp[hb]
   have ak:(D.sl U 2 I V).foot.Nodup:=by
    rw[zP,o9]at Z
    have:=Z.2.1
    simp only[zA]at this
    rw[o9]at this
    have:=this.1
    simpa only[D.foot,zA,o6,nH]using this
   have al:(D.sl U 2 I V).Flat0:=ao.1.2.1
   have bc:z7 0 [(D.j k)] (D.cells (.ag [.j kk,.sl U 2 I V]))=[.j k,.sl U 2 I V]:=rfl
   refine xn (Br.of (λ_=>?_) λhc=>absurd ah (mX hc))
   rw[oX,nX,p5,bc,IR,p5]
   refine⟨⟨by omega,ah,aa _⟩,aa _,⟨by omega,ah,aa _⟩,aa _,U,I,V,rfl,⟨ak,al⟩,⟨λb hb=>hT b (hf ▸ ae b hb)⟩,aa _,by simp[D.cells],rfl,⟨qA Z (bb _)⟩,⟨by simp⟩,λN2 aw=>?_⟩
   rw[i64_in (k+1) (by omega)]
   refine vM lt I ba U V ⟨ak,al⟩ aq (k+1) (by omega) (by omega) N2 _ λO N3 a7 h1 h2 h3 _=>?_
   rw[IR,i64_in _ (by rw[hm]at ah;simp at ah Y;omega)]
   have bd:z7 1 [D.sl U 2 O V] (D.cells (.ag [.j k,.sl U 2 I V]))=[.j k,.sl U 2 O V]:=rfl
   rw[bd]
   have ay:(D.ag [.j k,.sl U 2 O V]).foot=(D.ag [.j kk,.sl U 2 I V]).foot:=by
    have:=uF (a:=U) (z:=2) (c:=V) h3 h2
    simp only[D.foot,zA]at this ⊢
    rw[this]
   have bg:=yy lt (k+1)
   have:=FQ ts ds a8 (J++[.mk k (zI lt (k+1)).1]) (done++[.ag [.j k,.sl U 2 O V]]) (hd.snoc (t:=.mk k (zI lt (k+1)).1) (by simp only[Ty.Is];exact⟨U,O,V,rfl,by omega,h1⟩)) es
    (by rw[oL,mO,Bi ay];exact hf) (by rw[oL,mO];exact qA Z ay) ao.2 (by simpa using Y) T hT b0 N m c t (zI lt (k+1)).2
    (by omega) (by rw[bg];omega) L K (by rw[hL];simp[zI,Gb]) (by rw[hK];simp[zI,Gb]) q N3 (by omega) (by rw[hm];simp)
   have e1:((done++[D.ag [.j k,.sl U 2 O V]]).length:Int)=(done.length:Int)+1:=by simp
   rw[e1]at this
   simpa using this
end
mutual
def F4:Ty->Ty->Bool
 | .mk k l,.mk k' l'=>k==k'&&wx l l'
def wx:List Ty->List Ty->Bool
 | [],[]=>true
 | t::ts,u::us=>F4 t u&&wx ts us
 | _,_=>false
end
mutual
theorem Ct:∀(t u:Ty),F4 t u=true↔t=u
 | .mk k l,.mk k' l'=>by simp[F4,EG l l']
theorem EG:∀(l m:List Ty),wx l m=true↔l=m
 | [],[]=>by simp[wx]
 | t::ts,u::us=>by simp[wx,Ct t u,EG ts us]
 | [],u::us=>by simp[wx]
 | t::ts,[]=>by simp[wx]
end
theorem Ak:∀ {l m:List Ty},l.length≠m.length->wx l m=false
 | [],[],h=>absurd rfl h
 | t::ts,u::us,h=>by simp only[wx,Ak (l:=ts) (m:=us) (by simpa using h),Bool.and_false]
 | [],u::us,_=>rfl
 | t::ts,[],_=>rfl
mutual
theorem FO:∀(t u:Ty) (d e:D),t.Is d->u.Is e->∀(N:Nat) (Q:QT [.bool]),(∀ N',N<=N'->Q (F4 t u) N')->ACalls prog 17 [.bool] [.dg 2 d,.dg 2 e] N Q
 | .mk k l,.mk k' l',d,e,hd,U,N,Q,J=>by
   simp only[Ty.Is]at hd U
   obtain⟨a,es,c,rfl,h1,h2⟩:=hd
   obtain⟨a',es',Y,rfl,ah,ai⟩:=U
   simp only[F4]at J
   refine C4 N _ _ Q λ_ _=>⟨k,rfl,k',rfl,Br.of (λhc N' V=>?_) λhc=>⟨a,es,c,rfl,a',es',Y,rfl,λN1 ab=>?_⟩⟩
   ·have:=J N' V
    have hk:(k==k')=false:=by simpa using hc
    rwa[hk,Bool.false_and]at this
   ·have hk:(k==k')=true:=by simpa using hc
    rw[hk]at J
    refine HL l l' es es' h2 ai h1 ah a c a' Y N1 _ λN2 ac _=>Br.of (λhb N' V=>?_) λhb N' V=>?_
    ·have:=J N' (by omega)
     have O:wx l l'=false:=by simpa using hb
     rwa[O]at this
    ·have:=J N' (by omega)
     have O:wx l l'=true:=by simpa using hb
     rwa[O]at this
theorem HL:∀(l m:List Ty) (es fs:List D),TysIs l es->TysIs m fs->es.length<=4611686018427387904->fs.length<=4611686018427387904->∀(a:Option Addr) (c:Nat) (b:Option Addr) (Y N:Nat) (Q:QT [.bool]),
  (∀ N',N<=N'->Q (wx l m) N')->ACalls prog 51 [.bool] [.sv a 2 es c,.sv b 2 fs Y] N Q
 | l,m,es,fs,U,hf,h1,h2,a,c,b,Y,N,Q,J=>by
   have hl:=U.len
   have hm:=hf.len
   refine BP N a es c b fs Y Q λ_ _=>Br.of (λhc N' V=>?_) λhc=>?_
   ·have:=J N' V
    rwa[Ak (by simp at hc;omega)]at this
   ·have:=KE l m es fs U hf [] [] (by simp at hc;omega) rfl (by simpa using h1) a c b Y N Q J N (oG _)
    simpa using this
theorem KE:∀(l m:List Ty) (es fs:List D),TysIs l es->TysIs m fs->∀(pre I:List D),l.length=m.length->pre.length=I.length->(pre++es).length<=4611686018427387904->∀(a:Option Addr) (c:Nat) (b:Option Addr) (Y N:Nat) (Q:QT [.bool]),
  (∀ N',N<=N'->Q (wx l m) N')->∀ N1,N<=N1->yp Q N a (pre++es) c b (I++fs) Y pre.length N1
 | [],[],es,fs,U,hf,pre,I,_,hp,h1,a,c,b,Y,N,Q,J,N1,ab=>by
   simp[TysIs]at U hf
   subst U;subst hf
   refine vl (Br.of (λhc=>?_) λ_ N2 ac=>by have:=J N2 (by omega);rwa[wx]at this)
   have:=mH hc
   simp at this
 | t::ts,u::us,es,fs,U,hf,pre,I,Z,hp,h1,a,c,b,Y,N,Q,J,N1,ab=>by
   simp only[TysIs]at U hf
   obtain⟨d,ds,rfl,hd,aj⟩:=U
   obtain⟨x,xs,rfl,hx,ak⟩:=hf
   have aa:(pre.length:Int)<((pre++d::ds).length:Int):=by simp;omega
   have ae:(pre.length:Int)<((I++x::xs).length:Int):=by simp;omega
   refine vl (Br.of (λ_=>⟨⟨by omega,aa⟩,⟨by omega,ae⟩,λN2 ac=>?_⟩) λhc=>absurd aa (mX hc))
   have e0:(I++x::xs).getD pre.length default=x:=by rw[hp];exact p5
   rw[oX,p5,e0]
   simp only[wx]at J
   refine FO t u d x hd hx N2 _ λN3 al _=>Br.of (λhb N' V=>?_) λhb=>?_
   ·have:=J N' (by omega)
    have O:F4 t u=false:=by simpa using hb
    rwa[O,Bool.false_and]at this
   ·have O:F4 t u=true:=by simpa using hb
    rw[O]at J
    rw[i64_in _ (by simp at aa h1;omega)]
    have:=KE ts us ds xs aj ak (pre++[d]) (I++[x]) (by simpa using Z) (by simp[hp]) (by simpa using h1) a c b Y N Q (by simpa using J) N3 (by omega)
    have e1:((pre++[d]).length:Int)=(pre.length:Int)+1:=by simp
    rw[e1]at this
    simpa using this
 | [],u::us,es,fs,U,hf,pre,I,Z,_,_,_,_,_,_,_,_,_,_,_=>by simp at Z
 | t::ts,[],es,fs,U,hf,pre,I,Z,_,_,_,_,_,_,_,_,_,_,_=>by simp at Z
end
mutual
def NL:Ty->Int->Int
 | .mk _ l,k=>ww l k
def ww:List Ty->Int->Int
 | [],k=>k
 | .mk kk l::ts,k=>if kk≠k then -1 else if ww l (k+1)<0 then -1 else ww ts (ww l (k+1))
end
mutual
theorem OM:∀(t:Ty) (k:Int),0<=k->ww [(Gb t k).1] k=(Gb t k).2
 | .mk _ l,k,J=>by
   have I:=Bk l (k+1) (by omega)
   have O:=yy l (k+1)
   simp only[Gb,ww,I]
   rw[if_neg (by simp),if_neg (by omega)]
theorem Bk:∀(l:List Ty) (k:Int),0<=k->ww (zI l k).1 k=(zI l k).2
 | [],k,_=>by simp[zI,ww]
 | .mk kk l::ts,k,J=>by
   have I:=Bk l (k+1) (by omega)
   have O:=yy l (k+1)
   have U:=Bk ts (zI l (k+1)).2 (by omega)
   simp only[zI,Gb,ww,I,U]
   rw[if_neg (by simp),if_neg (by omega)]
end
theorem Br.not {v:Bool}{A B:Prop}(I:v=false->A)(J:v=true->B):Br (!v) A B:=by
 cases v
 ·exact I rfl
 ·exact J rfl
theorem Br.dec {p:Prop} [Decidable p]{A B:Prop}(I:p->A)(J:¬p->B):Br (decide p) A B:=Br.of (λh=>I (mH h)) λh=>J (mX h)
theorem Br.ndec {p:Prop} [Decidable p]{A B:Prop}(I:¬p->A)(J:p->B):Br (!(decide p)) A B:=Br.not (λh=>I (mX h)) λh=>J (mH h)
theorem Br.beq {a b:Int}{A B:Prop}(I:a=b->A)(J:¬a=b->B):Br (a==b) A B:=Br.of (λh=>I (by simpa using h)) λh=>J (by simpa using h)
theorem Br.bne {a b:Int}{A B:Prop}(I:¬a=b->A)(J:a=b->B):Br (bne a b) A B:=Br.of (λh=>I (by simpa using h)) λh=>J (by simpa using h)
theorem DT {s t:ByteArray}(h:s.toList=t.toList):s=t:=by rw[ByteArray.toList_eq,ByteArray.toList_eq]at h;cases s;cases t;simpa using h
theorem xN {s t:ByteArray}:(s.toList==t.toList)=decide (s=t):=by
 by_cases h:s=t
 ·simp[h]
 ·have:¬s.toList=t.toList:=λhc=>h (DT hc);simp[h,this]
theorem Br.str {s t:ByteArray}{A B:Prop}(I:s=t->A)(J:¬s=t->B):Br (s.toList==t.toList) A B:=by rw[xN];exact Br.dec I J
theorem Br.nstr {s t:ByteArray}{A B:Prop}(I:¬s=t->A)(J:s=t->B):Br (!(s.toList==t.toList)) A B:=by rw[xN];exact Br.ndec I J
def tF (f:FuncId)(args:List PV)(b:Bool):Prop:=∀(N:Nat) (Q:QT [.bool]),(∀ N',N<=N'->Q b N')->ACalls prog f [.bool] args N Q
def A5 (f:FuncId)(args:List PV)(n:Int):Prop:=∀(N:Nat) (Q:QT [.i]),(∀ N',N<=N'->Q n N')->ACalls prog f [.i] args N Q
theorem Qi {Q:QT [.i]}{n m:Int}{N:Nat}(h:Q n N)(e:n=m):Q m N:=e ▸ h
theorem Qb {Q:QT [.bool]}{n m:Bool}{N:Nat}(h:Q n N)(e:n=m):Q m N:=e ▸ h
def All2 {α:Type}(R:α->D->Prop):List α->List D->Prop
 | [],es=>es=[]
 | t::ts,es=>∃ d ds,es=d::ds/\R t d/\All2 R ts ds
theorem All2.len {α:Type}{R:α->D->Prop}:∀ {l:List α}{es:List D},All2 R l es->es.length=l.length
 | [],es,h=>by cases h;rfl
 | t::ts,es,⟨d,ds,I,_,h⟩=>by subst I;simp[h.len]
theorem All2.get {α:Type}{R:α->D->Prop}:∀ {l:List α}{es:List D}{i:Nat}{x:α},All2 R l es->l[i]?=some x->R x (es.getD i default)
 | [],es,i,x,h,I=>by simp at I
 | t::ts,es,i,x,⟨d,ds,J,O,U⟩,I=>by
   subst J;cases i with
   | zero=>simp at I;subst I;simpa [oA]using O
   | succ i=>simpa [oA]using U.get (by simpa using I)
theorem All2.snoc {α:Type}{R:α->D->Prop}:∀ {l:List α}{es:List D}{t:α}{d:D},All2 R l es->R t d->All2 R (l++[t]) (es++[d])
 | [],es,t,d,h,I=>by cases h;exact⟨d,[],rfl,I,rfl⟩
 | u::ts,es,t,d,⟨x,ds,J,O,U⟩,I=>by subst J;exact⟨x,ds++[d],rfl,O,U.snoc I⟩
theorem All2.mono {α:Type}{R S:α->D->Prop}(I:∀ x d,R x d->S x d):∀ {l:List α}{es:List D},All2 R l es->All2 S l es
 | [],es,h=>h
 | u::ts,es,⟨x,ds,J,O,U⟩=>⟨x,ds,J,I _ _ O,U.mono I⟩
structure At {α:Type} (R:α->D->Prop) (l:List α) (es:List D) (i:Nat) (x:α):Prop where
 lt:decide ((i:Int)<(es.length:Int))=true
 b:(0:Int)<=(i:Int)/\(i:Int)<(es.length:Int)
 w:IntKind.i64.wrap ((i:Int)+1)=((i+1:Nat):Int)
 r:R x (es.getD i default)
 m:x∈l
 g:l[i]?=some x
theorem up {α:Type} {R:α->D->Prop} {l:List α} {es:List D} (h:All2 R l es) (U:es.length<=4611686018427387904) (P:Nat->List α->Prop)
  (O:∀ n:Nat,decide ((n:Int)<(es.length:Int))=false->n=es.length->P n []) (I:∀(i:Nat) x xs,At R l es i x->l.drop (i+1)=xs->P (i+1) xs->P i (x::xs)):P 0 l:=by
 have V:=h.len;have key:∀(rest pre:List α),l=pre++rest->P pre.length rest:=by
  intro rest
  induction rest with
  | nil=>intro pre J;rw[nH]at J;subst J;exact O _ (by simp[V]) V.symm
  | cons x xs Y=>
    intro pre J;have hi:l[pre.length]?=some x:=by rw[J];simp
    have Z:pre.length<l.length:=(oD.1 hi).1;have hx:=h.get hi;refine I pre.length x xs ⟨mB (by omega),⟨by omega,by omega⟩,?_,hx,by rw[J];simp,hi⟩ (by rw[J];simp) ?_
    ·rw[i64_in _ (by omega)];simp
    ·have:=Y (pre++[x]) (by rw[J];simp)
     simpa using this
 exact key l [] rfl
theorem wE:∀ {l:List Ty}{es:List D},TysIs l es->All2 Ty.Is l es
 | [],es,h=>by simp only[TysIs]at h;exact h
 | t::ts,es,h=>by simp only[TysIs]at h;obtain⟨d,ds,I,J,O⟩:=h;exact⟨d,ds,I,J,wE O⟩
theorem CL:∀ {l:List Ty}{es:List D},All2 Ty.Is l es->TysIs l es
 | [],es,h=>by simp only[TysIs];exact h
 | t::ts,es,⟨d,ds,I,J,O⟩=>by simp only[TysIs];exact⟨d,ds,I,J,CL O⟩
def Ty.k:Ty->Int
 | .mk k _=>k
def Ty.as:Ty->List Ty
 | .mk _ l=>l
theorem Ty.is_mk {k:Int}{l:List Ty}{d:D}:(Ty.mk k l).Is d↔∃ a es c,d=.ag [.j k,.sl a 2 es c]/\es.length<=4611686018427387904/\All2 Ty.Is l es:=by simp only[Ty.Is];exact⟨λ⟨a,es,c,I,J,O⟩=>⟨a,es,c,I,J,wE O⟩,λ⟨a,es,c,I,J,O⟩=>⟨a,es,c,I,J,CL O⟩⟩
theorem Ty.ind {P:Ty->Prop}(h:∀ k l,(∀ t∈l,P t)->P (.mk k l)):∀ t,P t:=λt=>
 Ty.rec (motive_1:=P) (motive_2:=λl=>∀ t∈l,P t) (λk l I=>h k l I) (by simp) (λt l J O u hu=>by
  rcases oH.1 hu with rfl | hu
  ·exact J
  ·exact O u hu) t
class Dv (v:Bool) (P Q:outParam Prop):Prop where
 t:v=true->P
 f:v=false->Q
instance (priority:=100) dv9 {v:Bool}:Dv v (v=true) (v=false):=⟨id,id⟩
instance (priority:=500) dv4 {v:Bool}:Dv (!v) (v=false) (v=true):=⟨by simp,by simp⟩
instance dv1 {p:Prop} [Decidable p]:Dv (!(decide p)) (¬p) p:=⟨by simp,by simp⟩
instance dv2 {s t:ByteArray}:Dv (!(s.toList==t.toList)) (¬s=t) (s=t):=⟨by rw[xN];simp,by rw[xN];simp⟩
instance dv3 {a b:Int}:Dv (!(a==b)) (¬a=b) (a=b):=⟨by simp,by simp⟩
instance dv5 {p:Prop} [Decidable p]:Dv (decide p) p (¬p):=⟨by simp,by simp⟩
instance dv6 {s t:ByteArray}:Dv (s.toList==t.toList) (s=t) (¬s=t):=⟨by rw[xN];simp,by rw[xN];simp⟩
instance dv7 {a b:Int}:Dv (a==b) (a=b) (¬a=b):=⟨by simp,by simp⟩
instance dv8 {a b:Int}:Dv (bne a b) (¬a=b) (a=b):=⟨by simp,by simp⟩
theorem X {v:Bool}{P Q A B:Prop}[h:Dv v P Q](I:P->A)(J:Q->B):Br v A B:=Br.of (λg=>I (h.t g)) λg=>J (h.f g)
theorem X0 {A B:Prop}(b:B)(a:A:=by first|omega|trivial|(show _=_;rfl)|(with_reducible constructor)<;>first|omega|trivial|rfl):A/\B:=⟨a,b⟩
theorem Y1:(!true)=false:=rfl
theorem Y2:(!false)=true:=rfl
theorem Y3 {A B:Prop}:Br true A B=A:=rfl
theorem Y4 {A B:Prop}:Br false A B=B:=rfl
def inB (n a b:Int):Bool:=decide (a<=n)&&decide (n<=b)
theorem th (n a b:Int):tF 23 [.j n,.j a,.j b] (inB n a b):=λN Q I=>by
 refine FJ N n a b Q ?_
 repeat' first|with_reducible intro _|simp only[Y1,Y2,Y3,Y4]|with_reducible refine X ?_ ?_|refine⟨_,_,_,rfl,?_⟩|refine⟨_,rfl,?_⟩|refine X0 ?_|fail
 all_goals simpa [inB, *]using I _ (by omega)
theorem qQ (a b:Int):A5 97 [.j a,.j b] (max a b):=λN Q I=>by
 refine EM N a b Q ?_
 repeat' first|with_reducible intro _|simp only[Y1,Y2,Y3,Y4]|with_reducible refine X ?_ ?_|refine⟨_,_,_,rfl,?_⟩|refine⟨_,rfl,?_⟩|refine X0 ?_|fail
 ·have:=I _ (by assumption)
  rwa[Int.max_eq_left (by omega)]at this
 ·have:=I _ (by assumption)
  rwa[Int.max_eq_right (by omega)]at this
mutual
def Ty.dep:Ty->Nat
 | .mk _ l=>wq l+1
def wq:List Ty->Nat
 | []=>0
 | t::ts=>max t.dep (wq ts)
end
mutual
theorem Ty.dep_cnt:∀ t:Ty,t.dep<=t.cnt
 | .mk _ l=>by simp only[Ty.dep,Ty.cnt];have:=tB l;omega
theorem tB:∀ l:List Ty,wq l<=zG l
 | []=>oG _
 | t::ts=>by simp only[wq,zG];have:=t.dep_cnt;have:=tB ts;omega
end
theorem wS:∀ {l:List Ty}{t:Ty},t∈l->t.cnt<=zG l
 | u::us,t,h=>by
   simp only[zG];rcases oH.1 h with rfl | h
   ·omega
   ·have:=wS h;omega
def BG (k:Int)(n:Nat):Bool:=if k=1\/k=2 then(n:Int)==0 else if k=3 then(n:Int)==2 else if k=4 then(n:Int)==1 else false
mutual
def Ty.form:Ty->Bool
 | .mk k l=>wy l&&BG k l.length
def wy:List Ty->Bool
 | []=>true
 | t::ts=>t.form&&wy ts
end
def Ty.valid (t:Ty):Bool:=decide (t.cnt<=30)&&decide (t.dep<=8)&&t.form
theorem sO:∀(t:Ty)(d:D),t.Is d->∀ n:Int,0<=n->n<=1000->A5 147 [.dg 2 d,.j n] (if(t.cnt:Int)<=n then n - t.cnt else -1):=by
 refine Ty.ind λk l ih d hd n ac ae N Q hQ=>?_;obtain⟨a,es,c,rfl,V,Y⟩:=Ty.is_mk.1 hd;refine DA N _ n Q λ_=>?_;have key:=up Y V (λi xs=>∀(m:Int) (N':Nat),N<=N' -> -1<=m->m<=1000->(∀ J,N'<=J->Q (if m<0 then -1 else if(zG xs:Int)<=m then m - zG xs else -1) J) ->
  xI Q N m i (.ag [.j k,.sl a 2 es c]) N') ?_ ?_
 ·rw[i64_in _ (by omega)];refine key (n - 1) N (oG _) (by omega) (by omega) λN' U=>Qi (hQ N' U) ?_;simp only[Ty.cnt]
  (repeat' split)<;>omega
 ·intro i Z _ m N' U h1 h2 O;refine uS ?_
  repeat' first|with_reducible intro _|simp only[Z,Y1,Y2,Y3,Y4]|with_reducible refine X ?_ ?_|refine⟨_,_,_,rfl,?_⟩|refine⟨_,rfl,?_⟩|refine X0 ?_|fail
  refine Qi (O _ (by assumption)) ?_;simp only[zG]
  (repeat' split)<;>omega
 ·intro i x xs I _ aa m N' U h1 h2 O;have hb:=I.b;refine uS ?_
  repeat' first|with_reducible intro _|simp only[I.lt,I.w,oX,Y1,Y2,Y3,Y4]|with_reducible refine X ?_ ?_|refine⟨_,_,_,rfl,?_⟩|refine⟨_,rfl,?_⟩|refine X0 ?_|refine(ih x I.m _ I.r m (by omega) (by omega)) _ _ ?_|fail
  ·refine aa _ _ (by omega) (by split<;>omega) (by split<;>omega) λJ ab=>Qi (O J (by omega)) ?_;simp only[zG]
   (repeat' split)<;>omega
  ·refine Qi (O _ (by assumption)) ?_;rw[if_pos (by omega)];omega
theorem wf:∀(t:Ty)(d:D),t.Is d->t.cnt<=1073741824->A5 148 [.dg 2 d] t.dep:=by
 refine Ty.ind λk l ih d hd hc N Q hQ=>?_;obtain⟨a,es,c,rfl,J,U⟩:=Ty.is_mk.1 hd;refine rH N _ Q λ_=>?_;simp only[Ty.cnt]at hc;have aa:=tB l;have key:=up U J (λi xs=>∀(m:Nat) (N':Nat),N<=N'->max m (wq xs)=wq l->yB Q N (m:Int) i (.ag [.j k,.sl a 2 es c]) N') ?_ ?_
 ·exact key 0 N (oG _) (by omega)
 ·intro i V _ m N' O Y;simp only[wq]at Y;refine x9 ?_
  repeat' first|with_reducible intro _|simp only[V,Y1,Y2,Y3,Y4]|with_reducible refine X ?_ ?_|refine⟨_,_,_,rfl,?_⟩|refine⟨_,rfl,?_⟩|refine X0 ?_|fail
  rw[i64_in _ (by omega)];refine Qi (hQ _ (o8 O (by assumption))) ?_;simp only[Ty.dep];omega
 ·intro i x xs I _ Z m N' O Y;have hb:=I.b;have ab:=wS I.m;simp only[wq]at Y;refine x9 ?_
  repeat' first|with_reducible intro _|simp only[I.lt,I.w,oX,Y1,Y2,Y3,Y4]|with_reducible refine X ?_ ?_|refine⟨_,_,_,rfl,?_⟩|refine⟨_,rfl,?_⟩|refine X0 ?_|refine(ih x I.m _ I.r (by omega)) _ _ ?_|refine(qQ _ _) _ _ ?_|fail
  have e:max (m:Int) (x.dep:Int)=((max m x.dep:Nat):Int):=by omega
  rw[e];exact Z _ _ (by omega) (by omega)
theorem sN:∀(t:Ty)(d:D),t.Is d->tF 149 [.dg 2 d] t.form:=by
 refine Ty.ind λk l ih d hd N Q hQ=>?_;obtain⟨a,es,c,rfl,U,V⟩:=Ty.is_mk.1 hd;have hl:=V.len;refine C9 N _ Q λ_=>?_;have key:=up V U (λi xs=>∀(N':Nat),N<=N'->(∀ J,N'<=J->Q (wy xs&&BG k l.length) J)->xH Q N i (.ag [.j k,.sl a 2 es c]) N') ?_ ?_
 ·exact key N (oG _) hQ
 ·intro i Y _ N' Z O;refine uR ?_
  repeat' first|with_reducible intro _|simp only[Y,Y1,Y2,Y3,Y4]|with_reducible refine X ?_ ?_|refine⟨_,_,_,rfl,?_⟩|refine⟨_,rfl,?_⟩|refine X0 ?_|fail
  all_goals(refine Qb (O _ (by assumption)) ?_;simp[wy,BG, *])
 ·intro i x xs I _ aa N' Z O;have hb:=I.b;refine uR ?_
  repeat' first|with_reducible intro _|simp only[I.lt,I.w,oX,Y1,Y2,Y3,Y4]|with_reducible refine X ?_ ?_|refine⟨_,_,_,rfl,?_⟩|refine⟨_,rfl,?_⟩|refine X0 ?_|refine(ih x I.m _ I.r) _ _ ?_|fail
  ·refine Qb (O _ (by omega)) ?_;simp[wy, *]
  ·exact aa _ (by omega) λJ h=>Qb (O J (by omega)) (by simp[wy, *])
theorem wg (t:Ty)(d:D)(hd:t.Is d)(hc:t.cnt<=1073741824):tF 122 [.dg 2 d] t.valid:=λN Q I=>by
 refine rJ N _ Q λ_=>?_;by_cases O:t.cnt<=30
 ·have J:((t.cnt:Int)<=30):=by omega
  repeat' first|with_reducible intro _|simp only[if_pos J,Y1,Y2,Y3,Y4]|with_reducible refine X ?_ ?_|refine⟨_,_,_,rfl,?_⟩|refine⟨_,rfl,?_⟩|refine X0 ?_|refine(sO t d hd _ (by omega) (by omega)) _ _ ?_|refine(wf t d hd hc) _ _ ?_|refine(sN t d hd) _ _ ?_|fail
  all_goals first | omega | skip
  ·have U:t.dep<=8:=by omega
   refine Qb (I _ (by omega)) ?_;simp[Ty.valid, *]
  ·have U:¬t.dep<=8:=by omega
   refine Qb (I _ (by omega)) ?_;simp[Ty.valid, *]
 ·have J:¬((t.cnt:Int)<=30):=by omega
  repeat' first|with_reducible intro _|simp only[if_neg J,Y1,Y2,Y3,Y4]|with_reducible refine X ?_ ?_|refine⟨_,_,_,rfl,?_⟩|refine⟨_,rfl,?_⟩|refine X0 ?_|refine(sO t d hd _ (by omega) (by omega)) _ _ ?_|refine(wf t d hd hc) _ _ ?_|refine(sN t d hd) _ _ ?_|fail
  all_goals first | omega | skip
  refine Qb (I _ (by omega)) ?_;simp[Ty.valid, *]
def Kj (f:FuncId)(args:List PV)(t:Ty):Prop:=∀(N:Nat) (Q:QT [.ag 2]),(∀ d' N',N<=N'->t.Is d'->Own N N' d'->Q d' N')->ACalls prog f [.ag 2] args N Q
def tInt:Ty:=.mk 1 []
def tBool:Ty:=.mk 2 []
def tZero:Ty:=.mk 0 []
def DJ (a b:Ty):Ty:=.mk 3 [a,b]
def v7 (a:Ty):Ty:=.mk 4 [a]
def Ty.base (t:Ty):Bool:=(t.k==1||t.k==2)&&(t.as.length:Int)==0
theorem uI (k:Int):(Ty.mk k []).Is (.ag [.j k,.sl none 2 [] 0]):=Ty.is_mk.2 ⟨_,_,_,rfl,by simp,rfl⟩
theorem qD {N N':Nat}{x:Value}:Own N N' (.ag [.lit x,.sl none 2 [] 0]):=⟨by simp[D.foot,zA],⟨trivial,⟨by simp,trivial⟩,trivial⟩,by simp[D.foot,zA],by simp[D.foot,zA]⟩
theorem Am:∀ l:List Ty,l.length<=zG l
 | []=>oG _
 | .mk k l::ts=>by simp only[zG,Ty.cnt,oR];have:=Am ts;omega
theorem DW:Kj 93 [] tInt:=λN Q J=>EN N Q λN' I=>J _ _ I (uI _) qD
theorem CT:Kj 94 [] tBool:=λN Q J=>C8 N Q λN' I=>J _ _ I (uI _) qD
theorem IW {α:Type}{l:List α}{i:Nat}{x:α}(h:l[i]?=some x):l.take (i+1)=l.take i++[x]:=by rw[List.take_add_one,h];rfl
theorem upN {n:Nat} (hn:n<=4611686018427387904) (P:Nat->Prop) (hend:decide ((n:Int)<(n:Int))=false->P n)
  (hstep:∀ i:Nat,i<n->decide ((i:Int)<(n:Int))=true->IntKind.i64.wrap ((i:Int)+1)=((i+1:Nat):Int)->P (i+1)->P i):P 0:=by
 have key : ∀(m i:Nat),i+m=n->P i:=by
  intro m
  induction m with
  | zero => intro i h;have:i=n:=by omega
            subst this;exact hend (by simp)
  | succ m ih=>intro i h;exact hstep i (by omega) (mB (by omega)) (by rw[i64_in _ (by omega)];simp) (ih (i+1) (by omega))
 exact key n 0 (by omega)
abbrev tS (s:ByteArray)(i:Nat):Int:=((s.data.getD i (OfNat.ofNat 0)).toNat:Int)
def sS (s:ByteArray)(i:Nat):Bool:=(decide (tS s i≥97)&&decide (tS s i<=122))||(!(decide ((i:Int)=0))&&(!(decide (tS s i<48))&&!(decide (tS s i>57))))
def wC (s:ByteArray)(i:Nat):Bool:=(List.range' i (s.size - i)).all (sS s)
theorem si {s:ByteArray}{i:Nat}(h:i<s.size):wC s i=(sS s i&&wC s (i+1)):=by unfold wC;rw[show s.size - i=(s.size - (i+1))+1 by omega,List.range'_succ];rfl
theorem qT {s:ByteArray}:wC s s.size=true:=by simp[wC]
def qX (s:ByteArray):Bool:=inB s.size 1 4&&(!(decide (s=bytes [105,102]))&&(!(decide (s=bytes [108,101,116]))&&(!(decide (s=bytes [114,101,99]))&&(!(decide (s=bytes [114,117,110]))&&!(decide (s=bytes [108,105,102,116]))))))
def xc (s:ByteArray):Bool:=wC s 0&&qX s
theorem sL (s:ByteArray)(hs:s.size<=4611686018427387904):tF 150 [.str s] (xc s):=λN Q Y=>by
 refine C5 N s Q ?_;have key:=upN hs (λi=>∀ N',N<=N'->(∀ J,N'<=J->Q (wC s i&&qX s) J)->yF Q N s i N') ?_ ?_
 ·exact key N (oG _) Y
 ·intro O N' U I;refine uN ?_
  repeat' first|with_reducible intro _|simp only[O,Y1,Y2,Y3,Y4]|with_reducible refine X ?_ ?_|refine⟨_,_,_,rfl,?_⟩|refine⟨_,rfl,?_⟩|refine X0 ?_|refine(th _ _ _) _ _ ?_|fail
  all_goals(refine Qb (I _ (by omega)) ?_;rw[qT])
  all_goals simp[qX,xN, *]
 ·intro i hi O Z V N' U I;refine uN ?_;rw[si hi]at I
  repeat' first|with_reducible intro _|simp only[O,Z,oX,Y1,Y2,Y3,Y4]|with_reducible refine X ?_ ?_|refine⟨_,_,_,rfl,?_⟩|refine⟨_,rfl,?_⟩|refine X0 ?_|fail
  all_goals first
   | (refine Qb (I _ (by omega)) ?_;unfold sS tS;simp only[*];simp;done)
   | (refine V _ (by omega) λJ h=>Qb (I J (by omega)) ?_;unfold sS tS;simp only[*];simp;done)
inductive Tm where
 | mk (k:Int) (nm ot:ByteArray) (n:Int) (ty re:Ty) (l:List Tm)
def Tm.as:Tm->List Tm
 | .mk _ _ _ _ _ _ l=>l
structure Tm.Hd (nm ot:ByteArray) (ty re:Ty) (t0 t1 r0 r1:D):Prop where
 nm:nm.size<=4611686018427387904
 ot:ot.size<=4611686018427387904
 ty:ty.Is (.ag [t0,t1])
 re:re.Is (.ag [r0,r1])
mutual
def Tm.Is:Tm->D->Prop
 | .mk k nm ot n ty re l,d=>∃ t0 t1 r0 r1 a es c,d=.ag [.j k,.t nm,.t ot,.j n,t0,t1,r0,r1,.sl a 9 es c]/\Tm.Hd nm ot ty re t0 t1 r0 r1/\es.length<=4611686018427387904/\qc l es
def qc:List Tm->List D->Prop
 | [],es=>es=[]
 | t::ts,es=>∃ d ds,es=d::ds/\t.Is d/\qc ts ds
end
theorem vZ:∀ {l:List Tm}{es:List D},qc l es↔All2 Tm.Is l es
 | [],es=>by simp only[qc,All2]
 | t::ts,es=>by simp only[qc,All2];exact⟨λ⟨d,ds,I,J,O⟩=>⟨d,ds,I,J,vZ.1 O⟩,λ⟨d,ds,I,J,O⟩=>⟨d,ds,I,J,vZ.2 O⟩⟩
theorem Tm.is_mk {k:Int} {nm ot:ByteArray} {n:Int} {ty re:Ty} {l:List Tm} {d:D}:(Tm.mk k nm ot n ty re l).Is d ↔
  ∃ t0 t1 r0 r1 a es c,d=.ag [.j k,.t nm,.t ot,.j n,t0,t1,r0,r1,.sl a 9 es c]/\Tm.Hd nm ot ty re t0 t1 r0 r1/\es.length<=4611686018427387904/\All2 Tm.Is l es:=by
 simp only[Tm.Is,vZ]
theorem Tm.ind {P:Tm->Prop}(h:∀ k nm ot n ty re l,(∀ t∈l,P t)->P (.mk k nm ot n ty re l)):∀ t,P t:=λt=>
 Tm.rec (motive_1:=P) (motive_2:=λl=>∀ t∈l,P t) (λk nm ot n ty re l I=>h k nm ot n ty re l I) (by simp) (λt l J O u hu=>by
  rcases oH.1 hu with rfl | hu
  ·exact J
  ·exact O u hu) t
mutual
def Tm.cnt:Tm->Nat
 | .mk _ _ _ _ ty re l=>1+ty.cnt+re.cnt+zx l
def zx:List Tm->Nat
 | []=>0
 | t::ts=>t.cnt+zx ts
end
theorem va:∀ {l:List Tm}{t:Tm},t∈l->t.cnt<=zx l
 | u::us,t,h=>by
   simp only[zx];rcases oH.1 h with rfl | h
   ·omega
   ·have:=va h;omega
theorem Ag:∀ l:List Tm,l.length<=zx l
 | []=>oG _
 | .mk _ _ _ _ _ _ _::ts=>by simp only[zx,Tm.cnt,oR];have:=Ag ts;omega
mutual
def Tm.dp:Tm->Nat
 | .mk _ _ _ _ _ _ l=>sy l+1
def sy:List Tm->Nat
 | []=>0
 | t::ts=>max t.dp (sy ts)
end
mutual
theorem Tm.dp_cnt:∀ t:Tm,t.dp<=t.cnt
 | .mk _ _ _ _ ty re l=>by simp only[Tm.dp,Tm.cnt];have:=s5 l;omega
theorem s5:∀ l:List Tm,sy l<=zx l
 | []=>oG _
 | t::ts=>by simp only[sy,zx];have:=t.dp_cnt;have:=s5 ts;omega
end
theorem B9:∀ {l:List Tm}{t:Tm},t∈l->t.dp<=sy l
 | u::us,t,h=>by
   simp only[sy];rcases oH.1 h with rfl | h
   ·omega
   ·have:=B9 h;omega
mutual
def Tm.G:Tm->Prop
 | .mk _ _ _ _ ty re l=>ty.cnt<=1073741824/\re.cnt<=1073741824/\l.length<=1073741824/\M4 l
def M4:List Tm->Prop
 | []=>True
 | t::ts=>t.G/\M4 ts
end
theorem Cq:∀ {l:List Tm}{x:Tm},M4 l->x∈l->x.G
 | t::ts,x,h,hx=>by
   rcases oH.1 hx with rfl | hx
   ·exact h.1
   ·exact Cq h.2 hx
mutual
theorem Tm.G_cnt:∀ t:Tm,t.cnt<=1073741824->t.G
 | .mk _ _ _ _ ty re l,h=>by
   simp only[Tm.cnt]at h
   have:=Ag l
   exact⟨by omega,by omega,by omega,F2 l (by omega)⟩
theorem F2:∀ l:List Tm,zx l<=1073741824->M4 l
 | [],_=>trivial
 | t::ts,h=>by
   simp only[zx]at h
   exact⟨Tm.G_cnt t (by omega),F2 ts (by omega)⟩
end
structure Tg where
 nm:ByteArray
 ty:Ty
 lv:Int
def Tg.Is (g:Tg)(d:D):Prop:=∃ t0 t1,d=.ag [.t g.nm,t0,t1,.j g.lv]/\g.nm.size<=4611686018427387904/\g.ty.Is (.ag [t0,t1])
theorem Tg.is_mk {nm:ByteArray}{ty:Ty}{lv:Int}{d:D}:(Tg.mk nm ty lv).Is d↔∃ t0 t1,d=.ag [.t nm,t0,t1,.j lv]/\nm.size<=4611686018427387904/\ty.Is (.ag [t0,t1]):=mi
def qC (s:ByteArray):Int:=if s=bytes [43]then 2 else if s=bytes [45]then 2 else if s=bytes [42]then 2 else if s=bytes [61]then 2 else if s=bytes [60]then 2 else if s=bytes [38]then 2 else if s=bytes [124]then 2 else if s=bytes [33]then 1 else 0
theorem wt (s:ByteArray):A5 95 [.str s] (qC s):=λN Q I=>by
 refine BR N s Q ?_
 repeat' first|with_reducible intro _|simp only[Y1,Y2,Y3,Y4]|with_reducible refine X ?_ ?_|refine⟨_,_,_,rfl,?_⟩|refine⟨_,rfl,?_⟩|refine X0 ?_|fail
 all_goals(refine Qi (I _ (by assumption)) ?_;unfold qC;(repeat' split)<;>first | rfl | contradiction)
def Ty.zero (t:Ty):Bool:=t.k==0&&(t.as.length:Int)==0
theorem sQ (t:Ty)(d:D)(hd:t.Is d):tF 123 [.dg 2 d] t.zero:=λN Q O=>by
 cases t with
 | mk k l=>
 obtain⟨a,es,c,rfl,J,I⟩:=Ty.is_mk.1 hd;have U:=I.len;refine DC N _ Q λ_=>?_
 repeat' first|with_reducible intro _|simp only[Y1,Y2,Y3,Y4]|with_reducible refine X ?_ ?_|refine⟨_,_,_,rfl,?_⟩|refine⟨_,rfl,?_⟩|refine X0 ?_|fail
 all_goals refine Qb (O _ (by assumption)) ?_
 all_goals simp[Ty.zero,Ty.k,Ty.as,U, *]
def yb (k:Int)(nm ot:ByteArray):Bool:=
 if k=4 then decide (qC nm>0)&&decide (ot=bytes [])else if k=1\/k=6\/k=8 then xc nm&&decide (ot=bytes [])else if k=9 then xc nm&&(xc ot&&!decide (nm=ot))else decide (nm=bytes [])&&decide (ot=bytes [])
theorem NO (a b:Int):(a==b)=decide (a=b):=by rw[ml];simp
def qV (k:Int):Bool:=k==6||k==9
def yC (k:Int)(nm ot:ByteArray)(n:Int)(ty re:Ty):Bool:=
 (qV k==ty.valid)&&((qV k||ty.zero)&&(((k==9)==re.valid)&&((k==9||re.zero)&&(inB n 0 (if k=2 then 10006 else if k=3 then 1 else 0)&&yb k nm ot))))
def EQ (k:Int)(nm:ByteArray):Int:=
 if k=1\/k=2\/k=3 then 0 else if k=4 then qC nm else if k=6\/k=9\/k=10\/k=11\/k=12\/k=13 then 1 else if k=7\/k=8 then 2 else if k=5 then 3 else -1
mutual
def Tm.ok:Tm->Bool
 | .mk k nm ot n ty re l=>BJ l&&(yC k nm ot n ty re&&(l.length:Int)==EQ k nm)
def BJ:List Tm->Bool
 | []=>true
 | t::ts=>t.ok&&BJ ts
end
theorem BE {k n:Int}{nm ot:ByteArray}{ty re:Ty}{t0 t1 r0 r1 x:D}(h:Tm.Hd nm ot ty re t0 t1 r0 r1):tF 124 [.dg 9 (.ag [.j k,.t nm,.t ot,.j n,t0,t1,r0,r1,x])] (yb k nm ot):=λN Q I=>by
 refine BT N _ Q λ_=>?_
 repeat' first|with_reducible intro _|simp only[Y1,Y2,Y3,Y4]|with_reducible refine X ?_ ?_|refine⟨_,_,_,rfl,?_⟩|refine⟨_,rfl,?_⟩|refine X0 ?_|refine(wt _) _ _ ?_|refine(sL _ h.nm) _ _ ?_|refine(sL _ h.ot) _ _ ?_|fail
 all_goals(refine Qb (I _ (by omega)) ?_;simp[yb,xN, *])
theorem po {k n:Int} {nm ot:ByteArray} {ty re:Ty} {t0 t1 r0 r1 x:D} (h:Tm.Hd nm ot ty re t0 t1 r0 r1) (hc:ty.cnt<=1073741824) (I:re.cnt<=1073741824) :
  tF 98 [.dg 9 (.ag [.j k,.t nm,.t ot,.j n,t0,t1,r0,r1,x])] (yC k nm ot n ty re):=λN Q J=>by
 refine Az N _ Q λ_=>?_
 repeat' first|with_reducible intro _|simp only[Y1,Y2,Y3,Y4]|with_reducible refine X ?_ ?_|refine⟨_,_,_,rfl,?_⟩|refine⟨_,rfl,?_⟩|refine X0 ?_|refine(wg _ _ h.ty hc) _ _ ?_|refine(wg _ _ h.re I) _ _ ?_|refine(sQ _ _ h.ty) _ _ ?_|refine(sQ _ _ h.re) _ _ ?_|refine(th _ _ _) _ _ ?_|refine(BE h) _ _ ?_|fail
 all_goals first | (exfalso;omega) | (refine Qb (J _ (by omega)) ?_;simp[yC,qV, *];done) | (refine Qb (J _ (by omega)) ?_;simp_all[yC,qV];done) | (refine Qb (J _ (by omega)) ?_;simp_all only[yC,qV,NO];simp_all;done)
theorem BD {k n:Int}{nm ot:ByteArray}{t0 t1 r0 r1 x:D}:A5 99 [.dg 9 (.ag [.j k,.t nm,.t ot,.j n,t0,t1,r0,r1,x])] (EQ k nm):=λN Q I=>by
 refine BS N _ Q λ_=>?_
 repeat' first|with_reducible intro _|simp only[Y1,Y2,Y3,Y4]|with_reducible refine X ?_ ?_|refine⟨_,_,_,rfl,?_⟩|refine⟨_,rfl,?_⟩|refine X0 ?_|refine(wt _) _ _ ?_|fail
 all_goals(refine Qi (I _ (by omega)) ?_;simp[EQ, *])
theorem BC:∀(t:Tm)(d:D),t.Is d->t.G->tF 70 [.dg 9 d] t.ok:=by
 refine Tm.ind λk nm ot n ty re l ih d hd hc N Q hQ=>?_;obtain⟨t0,t1,r0,r1,a,es,c,rfl,hh,U,V⟩:=Tm.is_mk.1 hd;have hl:=V.len;obtain⟨g1,g2,_,g4⟩:=hc;refine C6 N _ Q λ_=>?_;have key:=up V U (λi xs=>∀(N':Nat),N<=N'->(∀ J,N'<=J->Q (BJ xs&&(yC k nm ot n ty re&&(l.length:Int)==EQ k nm)) J)->xF Q N i (.ag [.j k,.t nm,.t ot,.j n,t0,t1,r0,r1,.sl a 9 es c]) N') ?_ ?_
 ·exact key N (oG _) hQ
 ·intro i Y _ N' Z O;refine uO ?_
  repeat' first|with_reducible intro _|simp only[Y,Y1,Y2,Y3,Y4]|with_reducible refine X ?_ ?_|refine⟨_,_,_,rfl,?_⟩|refine⟨_,rfl,?_⟩|refine X0 ?_|refine(po hh (by omega) (by omega)) _ _ ?_|refine BD _ _ ?_|fail
  all_goals(refine Qb (O _ (by omega)) ?_;simp[BJ, *])
 ·intro i x xs I _ aa N' Z O;have hb:=I.b;have ab:=Cq g4 I.m;refine uO ?_
  repeat' first|with_reducible intro _|simp only[I.lt,I.w,oX,Y1,Y2,Y3,Y4]|with_reducible refine X ?_ ?_|refine⟨_,_,_,rfl,?_⟩|refine⟨_,rfl,?_⟩|refine X0 ?_|refine(ih x I.m _ I.r ab) _ _ ?_|fail
  ·refine Qb (O _ (by omega)) ?_;simp[BJ, *]
  ·exact aa _ (by omega) λJ h=>Qb (O J (by omega)) (by simp[BJ, *])
theorem CS (t:Tm)(d:D)(h:t.Is d)(hc:t.cnt<=1073741824):tF 70 [.dg 9 d] t.ok:=BC t d h (Tm.G_cnt t hc)
theorem xv {n a b:Int}:inB n a b=true↔a<=n/\n<=b:=by simp[inB]
def NS (k n:Int):Int:=if k=10 then n+1 else if k=11 then n - 1 else n
mutual
def Tm.lev:Tm->Int->Bool
 | .mk k _ _ _ _ _ l,n=>inB n 0 2&&Kg l (NS k n)
def Kg:List Tm->Int->Bool
 | [],_=>true
 | t::ts,n=>t.lev n&&Kg ts n
end
def Tg.ok (g:Tg):Bool:=xc g.nm&&(g.ty.valid&&inB g.lv 0 2)
theorem Ty.is_cells {t:Ty}{d:D}(h:t.Is d):t.Is (.ag [D.cell d 0,D.cell d 1]):=by
 cases t with
 | mk k l=>obtain⟨a,es,c,rfl,_,_⟩:=Ty.is_mk.1 h;exact h
theorem Ty.valid_cnt {t:Ty}(h:t.valid=true):t.cnt<=30:=by simp only[Ty.valid,oM,oi]at h;exact h.1.1
structure Pre (g:List Tg) (e:Tm) (n:Int):Prop where
 ok:e.ok=true
 lev:e.lev n=true
 len:g.length+2*e.dp<=1073741824
 ty:∀ x∈g,x.ty.cnt<=64
structure Node (k:Int) (nm ot:ByteArray) (n:Int) (ty re:Ty) (l:List Tm):Prop where
 f:yC k nm ot n ty re=true
 ar:(l.length:Int)=EQ k nm
 sub:∀ x∈l,x.ok=true
theorem EB:∀ {l:List Tm}{x:Tm},BJ l=true->x∈l->x.ok=true
 | t::ts,x,h,hx=>by
   simp only[BJ,oM]at h;rcases oH.1 hx with rfl | hx
   ·exact h.1
   ·exact EB h.2 hx
theorem LL {k:Int}{nm ot:ByteArray}{n:Int}{ty re:Ty}{l:List Tm}(h:(Tm.mk k nm ot n ty re l).ok=true):Node k nm ot n ty re l:=by simp only[Tm.ok,oM]at h;exact⟨h.2.1,by simpa using h.2.2,λx I=>EB h.1 I⟩
theorem Node.vt {k n:Int}{nm ot:ByteArray}{ty re:Ty}{l:List Tm}(h:Node k nm ot n ty re l)(I:k=6\/k=9):ty.valid=true:=by
 have:=h.f
 have e:qV k=true:=by rcases I with rfl | rfl<;>rfl
 simp only[yC,oM,e]at this;simpa using this.1
theorem Node.vr {k n:Int}{nm ot:ByteArray}{ty re:Ty}{l:List Tm}(h:Node k nm ot n ty re l)(I:k=9):re.valid=true:=by
 have:=h.f
 subst I;simp only[yC,oM]at this;simpa using this.2.2.1
theorem G5 {k:Int}{nm:ByteArray}(h:0<=EQ k nm):k=1\/k=2\/k=3\/k=4\/k=5\/k=6\/k=7\/k=8\/k=9\/k=10\/k=11\/k=12\/k=13:=by
 unfold EQ at h
 (repeat' split at h)<;>omega
theorem Pre.lv {g:List Tg}{e:Tm}{n:Int}(h:Pre g e n):0<=n/\n<=2:=by
 have:=h.lev
 cases e;simp only[Tm.lev,oM]at this;exact xv.1 this.1
theorem Ie:tZero.Is (.ag [.j 0,.sl none 2 [] 0]):=uI 0
theorem BW (t:Ty)(d e:D)(hd:t.Is d)(I:t.Is e):tF 17 [.dg 2 d,.dg 2 e] true:=λN Q J=>FO t t d e hd I N Q λN' h=>Qb (J N' h) ((Ct t t).2 rfl).symm
theorem FN:∀(t:Tm)(d e:D),t.Is d->t.Is e->tF 7 [.dg 9 d,.dg 9 e] true:=by
 refine Tm.ind λk nm ot m ty re l ih d e hd he N Q Y=>?_;obtain⟨t0,t1,r0,r1,a,es,c,rfl,hh,J,O⟩:=Tm.is_mk.1 hd;obtain⟨u0,u1,v0,v1,b,fs,c',rfl,U,Z,V⟩:=Tm.is_mk.1 he;have hl:=O.len;have ae:=V.len;have hS:tF 18 [.sv a 9 es c,.sv b 9 fs c'] true:=λN Q Y=>by
  have key:=up O J (λi xs=>∀(N':Nat),N<=N'->yo Q N a es c b fs c' i N') ?_ ?_
  ·refine BO N _ _ _ _ _ _ Q λ_ _=>?_
   repeat' first|with_reducible intro _|simp only[Y1,Y2,Y3,Y4]|with_reducible refine X ?_ ?_|refine⟨_,_,_,rfl,?_⟩|refine⟨_,rfl,?_⟩|refine X0 ?_|fail
   ·omega
   ·exact key N (oG _)
  ·intro i aa hi N' ab;refine vk ?_
   repeat' first|with_reducible intro _|simp only[aa,Y1,Y2,Y3,Y4]|with_reducible refine X ?_ ?_|refine⟨_,_,_,rfl,?_⟩|refine⟨_,rfl,?_⟩|refine X0 ?_|fail
   exact Y _ (by omega)
  ·intro i x xs I _ ac N' ab;have hb:=I.b;refine vk ?_
   repeat' first|with_reducible intro _|simp only[I.lt,I.w,oX,Y1,Y2,Y3,Y4]|with_reducible refine X ?_ ?_|refine⟨_,_,_,rfl,?_⟩|refine⟨_,rfl,?_⟩|refine X0 ?_|refine(ih x I.m _ _ I.r (V.get I.g)) _ _ ?_|fail
   exact ac _ (by omega)
 refine C3 N _ _ Q λ_ _=>?_
 repeat' first|with_reducible intro _|simp only[Y1,Y2,Y3,Y4]|with_reducible refine X ?_ ?_|refine⟨_,_,_,rfl,?_⟩|refine⟨_,rfl,?_⟩|refine X0 ?_|refine(BW _ _ _ hh.ty U.ty) _ _ ?_|refine(BW _ _ _ hh.re U.re) _ _ ?_|refine hS _ _ ?_|fail
 all_goals first | exact absurd rfl (by assumption) | skip
 all_goals exact Y _ (by omega)
theorem I5 (cs:List D):D.cells (.ag cs)=cs:=rfl
theorem Hs {a b c:List D}{x:D}(h:(zA (a++x::c)).Nodup):x.foot.Nodup:=by
 rw[zP,o9]at h
 have:=h.2.1
 simp only[zA]at this;rw[o9]at this;exact this.1
theorem p90 (v c0 I c2 c3 c4 c5 J O U:D):z7 0 [v] [c0,I,c2,c3,c4,c5,J,O,U]=[v,I,c2,c3,c4,c5,J,O,U]:=rfl
theorem p91 (v c0 U c2 c3 c4 c5 I J O:D):z7 1 [v] [c0,U,c2,c3,c4,c5,I,J,O]=[c0,v,c2,c3,c4,c5,I,J,O]:=rfl
theorem p92 (v c0 I c2 c3 c4 c5 J O U:D):z7 2 [v] [c0,I,c2,c3,c4,c5,J,O,U]=[c0,I,v,c3,c4,c5,J,O,U]:=rfl
theorem p93 (v c0 I c2 c3 c4 c5 J O U:D):z7 3 [v] [c0,I,c2,c3,c4,c5,J,O,U]=[c0,I,c2,v,c4,c5,J,O,U]:=rfl
theorem p94 (v c0 I c2 c3 c4 c5 J O U:D):z7 4 [v] [c0,I,c2,c3,c4,c5,J,O,U]=[c0,I,c2,c3,v,c5,J,O,U]:=rfl
theorem p95 (v c0 I c2 c3 c4 c5 J O U:D):z7 5 [v] [c0,I,c2,c3,c4,c5,J,O,U]=[c0,I,c2,c3,c4,v,J,O,U]:=rfl
theorem p96 (v c0 I c2 c3 c4 c5 U J O:D):z7 6 [v] [c0,I,c2,c3,c4,c5,U,J,O]=[c0,I,c2,c3,c4,c5,v,J,O]:=rfl
theorem p97 (v c0 I c2 c3 c4 c5 J U O:D):z7 7 [v] [c0,I,c2,c3,c4,c5,J,U,O]=[c0,I,c2,c3,c4,c5,J,v,O]:=rfl
theorem p98 (v c0 I c2 c3 c4 c5 J O U:D):z7 8 [v] [c0,I,c2,c3,c4,c5,J,O,U]=[c0,I,c2,c3,c4,c5,J,O,v]:=rfl
theorem Ty.is_two {t:Ty}{t0 t1:D}(h:t.Is (.ag [t0,t1])):∃ kk l a es c,t=.mk kk l/\t0=.j kk/\t1=.sl a 2 es c/\es.length<=4611686018427387904/\TysIs l es:=by
 cases t with
 | mk kk l=>
   obtain⟨a,es,c,I,O,U⟩:=Ty.is_mk.1 h;injection I with I
   injection I with e1 J
   injection J with J _
   exact⟨kk,l,a,es,c,rfl,e1,J,O,CL U⟩
abbrev tmD (U V Y Z x4 x6:Value)(aT:Option Addr)(I:List D)(cT:Nat)(aR:Option Addr)(J:List D)(cR:Nat)(aA:Option Addr)(O:List D)(cA:Nat):D:=
 .ag [.lit U,.lit V,.lit Y,.lit Z,.lit x4,.sl aT 2 I cT,.lit x6,.sl aR 2 J cR,.sl aA 9 O cA]
theorem pL {x0 x1 x2 x3 x4 x6:Value} {U:Option Addr} {I:List D} {V:Nat} {Y:Option Addr} {J:List D} {Z:Nat} {aA:Option Addr} {O:List D} {cA:Nat} :
  (tmD x0 x1 x2 x3 x4 x6 U I V Y J Z aA O cA).foot=(D.sl U 2 I V).foot++((D.sl Y 2 J Z).foot++(D.sl aA 9 O cA).foot):=by
 simp only[D.foot,zA,o6,nH]
theorem BY {kk:Int} {l:List Ty} {a:Option Addr} {es:List D} {c:Nat} (V:TysIs l es) (J:es.length<=4611686018427387904) (Y:Tree (.ag [.j kk,.sl a 2 es c])) (k:Int) (hk:0<=k) (Z:k+zG l<=4611686018427387904) (N:Nat) (R:D->Int->Nat->Prop)
  (hR:∀ es' N',N<=N'->TysIs (zI l k).1 es'->zA es'=zA es->es'.length=es.length->R (.ag [.j kk,.sl a 2 es' c]) (zI l k).2 N'):MC prog 19 (.ag [.j kk,.sl a 2 es c]) k N R:=by
 have hf:(D.ag [.j kk,.sl a 2 es c]).foot=(D.sl a 2 es c).foot:=by simp only[D.foot,zA,o6,nH]
 have I:Tree (.sl a 2 es c):=⟨hf ▸ Y.nd,Y.fl.2.1⟩
 refine AF N [.j kk,.sl a 2 es c] k R (λk' x N'=>N<=N'/\∃ es',x=.ag [.j kk,.sl a 2 es' c]/\TysIs (zI l k).1 es'/\zA es'=zA es/\es'.length=es.length/\k'=(zI l k).2) ⟨_,rfl,rfl,by simp[D.isCell];rfl⟩
  ⟨a,es,c,rfl,I,⟨λb hb=>hf ▸ hb⟩,by simp[D.cells],rfl,⟨(by have:=Y.nd;simpa only[D.foot]using this:(zA [D.j kk,.sl a 2 es c]).Nodup)⟩,⟨by simp⟩,λN1 ac=>?_⟩ ?_
 ·refine vM l es V a c I J k hk Z N1 _ λes' N2 ae h1 U O _ N3 ah=>?_;exact⟨by omega,es',rfl,h1,U,O,rfl⟩
 ·rintro k' x N' ⟨aa,es',rfl,h1,U,O,rfl⟩
  have ab:=uF (a:=a) (z:=2) (c:=c) O U;exact⟨_,rfl,by simp[D.cv,O],by simp only[zA,ab],hR es' N' aa h1 U O⟩
mutual
theorem NM:∀(t:Ty) (k:Int),0<=k->NL t k = -1\/NL t k+1=k+t.cnt
 | .mk _ l,k,h=>by
   simp only[NL,Ty.cnt]
   rcases Dj l k h with h | h<;>omega
theorem Dj:∀(l:List Ty) (k:Int),0<=k->ww l k = -1\/ww l k=k+zG l
 | [],k,_=>.inr (by simp[ww,zG])
 | .mk kk l::ts,k,h=>by
   simp only[ww,zG,Ty.cnt]
   split
   ·exact .inl rfl
   ·split
    ·exact .inl rfl
    ·rename_i I
     rcases Dj l (k+1) (by omega)with h3 | h3
     ·omega
     ·rcases Dj ts (ww l (k+1)) (by omega)with h4 | h4
      ·exact .inl h4
      ·exact .inr (by omega)
end
theorem pj (t:Ty):∀(es:List D)(a:Option Addr)(c:Nat),All2 Ty.Is t.as es->es.length<=4611686018427387904->∀ n:Int,0<=n->n+zG t.as<=4611686018427387904->A5 54 [.sv a 2 es c,.j n] (ww t.as n):=by
 revert t;refine Ty.ind λk l ih es a c Y Z n h0 h1 N Q hQ=>?_;simp only[Ty.as]at Y hQ h1;refine qw N a es c n Q λ_=>?_;refine up Y Z (λi xs=>∀(m:Int) (N':Nat),N<=N'->0<=m->m+zG xs<=4611686018427387904->(∀ U,N'<=U->Q (ww xs m) U)->yS Q N a es c m i N') ?_ ?_ n N (oG _) h0 (by omega) hQ
 ·intro i ae _ m N' ah ai aa I;simp only[ww]at I;refine wl ?_
  repeat' first|with_reducible intro _|simp only[ae,Y1,Y2,Y3,Y4]|with_reducible refine X ?_ ?_|refine⟨_,_,_,rfl,?_⟩|refine⟨_,rfl,?_⟩|refine X0 ?_|fail
  exact I _ (by omega)
 ·intro i x xs J _ aj m N' ah ai aa I;have hb:=J.b;have hr:=J.r;have ak:=ih x J.m;cases x with
  | mk kk lt=>
  obtain⟨a1,al,c1,hd,V,ab⟩:=Ty.is_mk.1 hr;simp only[zG,Ty.cnt]at aa;simp only[ww]at I;have hc:=Dj lt (m+1) (by omega);refine wl ?_;rw[i64_in (m+1) (by omega)]
  repeat' first|with_reducible intro _|simp only[J.lt,J.w,oX,hd,Y1,Y2,Y3,Y4]|with_reducible refine X ?_ ?_|refine⟨_,_,_,rfl,?_⟩|refine⟨_,rfl,?_⟩|refine X0 ?_|fail
  ·rename_i hk _ _;exact Qi (I _ (by omega)) (by rw[if_pos hk])
  ·rename_i hk _ _;have ac:=ak al a1 c1 ab V (m+1) (by omega) (by simp only[Ty.as];omega);simp only[Ty.as]at ac;refine ac _ _ λN3 ao _=>Br.dec (λO N4 aq=>?_) λO=>?_
   ·exact Qi (I _ (by omega)) (by rw[if_neg (by omega),if_pos O])
   ·exact aj _ _ (by omega) (by omega) (by omega) λU h=>Qi (I _ (by omega)) (by rw[if_neg (by omega),if_neg O])
theorem BX {kk:Int}{l:List Ty}{a:Option Addr}{es:List D}{c:Nat}(O:TysIs l es)(J:es.length<=4611686018427387904)(n:Int)(V:0<=n)(h1:n+zG l<=4611686018427387903):A5 21 [.dg 2 (.ag [.j kk,.sl a 2 es c]),.j n] (ww l n):=λN Q Y=>by
 have hc:=Dj l n V
 have:=pj (.mk kk l) es a c (wE O) J n V (by simp only[Ty.as];omega)
 refine Ax N _ n Q λ_=>?_;refine⟨_,_,_,rfl,λN1 Z=>?_⟩;refine this N1 _ λN2 aa _=>Br.dec (λI N3 U=>?_) λI N3 U=>?_
 ·simp only[Ty.as]at I;exact Qi (Y _ (by omega)) (by omega)
 ·exact Y _ (by omega)
def KK:Nat->Int->ByteArray->ByteArray
 | 0,_,s=>s
 | n+1,k,s=>if k>0 then KK n (IntKind.i64.wrap (Int.tdiv k 10)) (zX [IntKind.u8.wrap (IntKind.i64.wrap (48+Int.tmod k 10))]++s)else s
def vQ (k:Int):ByteArray:=if k<=0 then bytes [109,48]else bytes [109]++KK k.toNat k (bytes [])
theorem vL (k:Int)(Z:0<=k)(h1:k<=4611686018427387904):∀(N:Nat)(Q:QT [.str]),(∀ N',N<=N'->Q (vQ k) N')->ACalls prog 53 [.str] [.j k] N Q:=λN Q V=>by
 have key:∀(n:Nat) (k:Int) (s:ByteArray) (N':Nat),k.toNat<=n->0<=k->(s.size:Int)+k<=4611686018427387904->N<=N'->(∀ J,N'<=J->Q (bytes [109]++KK n k s) J)->yY Q N k s N':=by
  intro n
  induction n with
  | zero=>intro k s N' hn Y hs U I;refine vE (Br.dec (λh=>?_) λ_=>⟨by omega,λN1 O=>I _ (by omega)⟩);omega
  | succ n ih=>
    intro k s N' hn Y hs U I;refine vE (Br.dec (λh=>?_) λh=>⟨by omega,λN1 O=>by have:=I N1 (by omega);rwa[KK,if_neg h]at this⟩);rw[KK,if_pos h]at I;have hd:Int.tdiv k 10=k / 10:=Int.tdiv_eq_ediv_of_nonneg Y;refine⟨by decide,by simp,[_],rfl,?_,by decide,?_⟩
    ·show 1+s.size<=_;omega
    ·rw[hd,i64_in _ (by omega)];rw[hd,i64_in _ (by omega)]at I;refine ih _ _ _ (by omega) (by omega) ?_ U I;rw[oC];show((1+s.size:Nat):Int)+_<=_;omega
 refine Ay N k Q (Br.dec (λh N1 O=>by have:=V N1 O;rwa[vQ,if_pos h]at this) λh=>?_);rw[vQ,if_neg h]at V;exact key k.toNat k _ N (oG _) Z (by show((0:Nat):Int)+_<=_;omega) (oG _) λJ h2=>V J h2
theorem Dr:∀(n:Nat)(k:Int)(s:ByteArray),(KK n k s).size<=n+s.size
 | 0,k,s=>by simp[KK]
 | n+1,k,s=>by
   rw[KK];split
   ·refine o8 (Dr n _ _) ?_;rw[oC];have:(zX [IntKind.u8.wrap (IntKind.i64.wrap (48+Int.tmod k 10))]).size=1:=rfl;omega
   ·omega
theorem Bp (k:Int):(vQ k).size<=k.toNat+2:=by
 unfold vQ;split
 ·show 2<=_;omega
 ·rw[oC]
  have:=Dr k.toNat k (bytes [])
  have e:(bytes []).size=0:=rfl;have I:(bytes [109]).size=1:=rfl;omega
def z6:List Tm->Int->List Tm × Int
 | [],k=>([],k)
 | .mk _ _ _ _ ty re l::ts,k=>
   (.mk k (vQ (k+1)) (vQ (k+1+1)) (k+1+1+1) (.mk (k+1+1+1+1) (zI ty.as (k+1+1+1+1+1)).1) (.mk (zI ty.as (k+1+1+1+1+1)).2 (zI re.as ((zI ty.as (k+1+1+1+1+1)).2+1)).1)
     (z6 l (zI re.as ((zI ty.as (k+1+1+1+1+1)).2+1)).2).1 ::
    (z6 ts (z6 l (zI re.as ((zI ty.as (k+1+1+1+1+1)).2+1)).2).2).1,(z6 ts (z6 l (zI re.as ((zI ty.as (k+1+1+1+1+1)).2+1)).2).2).2)
theorem ru:∀(l:List Tm)(k:Int),k<=(z6 l k).2/\(z6 l k).2<=k+4*zx l
 | [],k=>by simp[z6,zx]
 | .mk _ _ _ _ (.mk I tl) (.mk J rl) l::ts,k=>by simp only[z6,zx,Tm.cnt,Ty.cnt,Ty.as,yy];have O:=ru l (k+1+1+1+1+1+zG tl+1+zG rl);have U:=ru ts (z6 l (k+1+1+1+1+1+zG tl+1+zG rl)).2;omega
theorem Dq:∀(l:List Tm)(k:Int),(z6 l k).1.length=l.length
 | [],k=>by simp only[z6]
 | .mk _ _ _ _ ty re l::ts,k=>by simp only[z6,oR,Dq ts]
set_option maxHeartbeats 4000000
set_option maxRecDepth 100000
mutual
theorem qP:∀(l:List Tm) (es:List D),qc l es->∀(a:Option Addr) (c:Nat),Tree (.sl a 9 es c)->es.length<=4611686018427387904->∀(k:Int),0<=k->k+4*zx l<=4611686018427387904->∀(N:Nat) (R:D->Int->Nat->Prop),
  (∀ es' N',N<=N'->qc (z6 l k).1 es'->zA es'=zA es->es'.length=es.length->R (.sl a 9 es' c) (z6 l k).2 N')->MC prog 20 (.sl a 9 es c) k N R
 | l, es,a8,a,c,ah,ac,k,hk,bj,N,R,hR=>by
   by_cases ak:es=[]
   ·subst ak
    have hl:l=[]:=by have:=(vZ.1 a8).len;simp at this;exact oV this.symm
    subst hl
    refine KJ (qx N a [] c k _ λ_=>sa (Br.of (λhc=>?_) λ_ N2 ba=>?_))
    ·simp at hc
    ·have:=hR [] N2 ba (by simp[z6,qc]) rfl rfl
     simpa only[z6]using this
   ·cases a with
    | none=>exact Hn (by kernel_rfl) ak
    | some ad=>
      have aa:=ah.nd
      have J:(D.sl (some ad) 9 es c).foot=ad.block::zA es:=by simp[D.foot,ak]
      rw[J]at aa
      refine qh N ad es c k R (λk' x N'=>N<=N'/\∃ es',x=.ag es'/\es'.length=es.length/\zA es'=zA es/\All2 Tm.Is (z6 l k).1 es'/\k'=(z6 l k).2) ah ak (by unfold maxLen;omega) (λt=>?_) ?_
      ·have:=DV l es a8 [] [] rfl es rfl (nV.1 aa).2 ah.fl.2 ac (D.sl (some ad) 9 es c).foot (λb hb=>by rw[J];simp[hb]) ad.block N es.length c t k hk bj (z6 l k).1 (z6 l k).2 (by simp) rfl es.length N (oG _) rfl
       simpa using this
      ·rintro k' x N' ⟨bm,es',rfl,h1,h2,h3,rfl⟩
       exact⟨es',rfl,h1,h2,hR es' N' bm (vZ.2 h3) h2 h1⟩
theorem DV:∀(l:List Tm) (rest:List D),qc l rest->∀(pl:List Tm) (done:List D),All2 Tm.Is pl done->∀(es:List D),zA (done++rest)=zA es->(zA (done++rest)).Nodup->tW rest->(done++rest).length<=4611686018427387904 ->
  ∀(T:List Nat),(∀ b∈zA es,b∈T)->∀(b0 N m c t:Nat) (k:Int),0<=k->k+4*zx l<=4611686018427387904->∀(L:List Tm) (K:Int),L=pl++(z6 l k).1->K=(z6 l k).2->∀(q N1:Nat),N<=N1->m=(done++rest).length ->
  zh T b0 (λk' x N'=>N<=N'/\∃ es',x=.ag es'/\es'.length=m/\zA es'=zA es/\All2 Tm.Is L es'/\k'=K) N m c k done.length t (done++rest) q N1
 | [],rest,hr,pl,done,hd,es,hf,aa,aj,ac,T,hT,b0,N,m,c,t,k,hk,bb,L,K,hL,hK,q,N1,bn,hm=>by
   simp only[qc]at hr
   subst hr
   rw[nH]at *
   refine xm ?_
   refine Br.of (λhc=>?_) λ_=>⟨rfl,λN3 bp=>⟨by omega,done,rfl,hm.symm,hf,by rw[hL];simpa [z6]using hd,by rw[hK];simp[z6]⟩⟩
   have:=mH hc;omega
 | .mk kk nm ot nn ty re la::ts,rest,hr,pl,done,hd,es,hf,aa,aj,ac,T,hT,b0,N,m,c,t,k,hk,bb,L,K,hL,hK,q,N1,bn,hm=>by
   simp only[qc]at hr
   obtain⟨d,ds,rfl,bc,bq⟩:=hr
   simp only[Tm.Is]at bc
   obtain⟨t0,t1,r0,r1,aA,O,cA,rfl,hh,a1,bd⟩:=bc
   obtain⟨kT,lT,aT,ab,cT,rfl,rfl,rfl,a6,au⟩:=Ty.is_two hh.ty
   obtain⟨kR,lR,aR,V,cR,rfl,rfl,rfl,a7,aw⟩:=Ty.is_two hh.re
   simp only[zx,Tm.cnt,Ty.cnt]at bb
   simp only[z6,Ty.as]at hL hK
   have al:(done.length:Int)<(m:Int):=by rw[hm];simp;omega
   have I:∀ d:D,done.length<(done++d::ds).length:=λd=>by simp
   have B:∀ x:D,(0<=(done.length:Int)/\(done.length:Int)<(m:Int)/\done.length<(done++x::ds).length):=λx=>⟨by omega,al,I x⟩
   have J:∀(x0 x1 x2 x3 x4 x6:Value) (eT eR eA:List D),zA eT=zA ab->eT.length=ab.length->zA eR=zA V->eR.length=V.length->zA eA=zA O->eA.length=O.length ->
     (tmD x0 x1 x2 x3 x4 x6 aT eT cT aR eR cR aA eA cA).foot=(tmD (.int .i64 kk) (.string nm) (.string ot) (.int .i64 nn) (.int .i64 kT) (.int .i64 kR) aT ab cT aR V cR aA O cA).foot:=λx0 x1 x2 x3 x4 x6 eT eR eA h1 h2 h3 h4 h5 h6=>by
    rw[pL,pL,uF h2 h1,uF h4 h3,uF h6 h5]
   have U:=Hs (b:=[]) aa
   have bg:=@pL (.int .i64 kk) (.string nm) (.string ot) (.int .i64 nn) (.int .i64 kT) (.int .i64 kR) aT ab cT aR V cR aA O cA
   rw[bg,o9,o9]at U
   have ao:∀ b∈(tmD (.int .i64 kk) (.string nm) (.string ot) (.int .i64 nn) (.int .i64 kT) (.int .i64 kR) aT ab cT aR V cR aA O cA).foot,b∈T:=λb hb=>hT b (hf ▸ by rw[zP];exact oZ _ (by simp only[zA];exact oe _ hb))
   rw[bg]at ao
   have ax:(D.sl aT 2 ab cT).Flat0:=aj.1.2.2.2.2.2.1
   have ay:(D.sl aR 2 V cR).Flat0:=aj.1.2.2.2.2.2.2.2.1
   have az:(D.sl aA 9 O cA).Flat0:=aj.1.2.2.2.2.2.2.2.2.1
   have b9:=au;have ca:=aw
   refine xm ?_
   rw[i64_in (k+1) (by omega),i64_in (k+1+1) (by omega),i64_in (k+1+1+1) (by omega),i64_in (k+1+1+1+1) (by omega)]
   simp only[oX,nX,p5,IR,I5,p90,p91,p92,p93,p94,p95,p96,p97,p98]
   refine Br.of (λ_=>?_) λhc=>absurd al (mX hc)
   refine⟨B _,I _,λN2 ba=>?_⟩
   refine vL (k+1) (by omega) (by omega) N2 _ λN3 bp _=>?_
   refine⟨B _,I _,λN4 cc=>?_⟩
   refine vL (k+1+1) (by omega) (by omega) N4 _ λN5 cd _=>?_
   refine⟨B _,I _,B _,I _,B _,I _,B _,I _,aT,ab,cT,rfl,⟨U.1,ax⟩,⟨λb hb=>ao b (oe _ hb)⟩,I _,by simp,rfl,
    ⟨qA aa (J _ _ _ _ _ _ ab V O rfl rfl rfl rfl rfl rfl)⟩,⟨by simp⟩,λN6 ce=>?_⟩
   rw[i64_in (k+1+1+1+1+1) (by omega)]
   have cf:=yy lT (k+1+1+1+1+1)
   refine vM lT ab au aT cT ⟨U.1,ax⟩ a6 (k+1+1+1+1+1) (by omega) (by omega) N6 _ λZ N7 cg h1 h2 h3 _=>?_
   generalize (zI lT (k+1+1+1+1+1)).2=Y at *
   generalize (zI lT (k+1+1+1+1+1)).1=bt at *
   refine⟨B _,I _,B _,I _,aR,V,cR,rfl,⟨U.2.1.1,ay⟩,⟨λb hb=>ao b (oZ _ (oe _ hb))⟩,I _,by simp,rfl,
    ⟨qA aa (J _ _ _ _ _ _ Z V O h2 h3 rfl rfl rfl rfl)⟩,⟨by simp⟩,λN8 ch=>?_⟩
   rw[i64_in (Y+1) (by omega)]
   have cj:=yy lR (Y+1)
   refine vM lR V aw aR cR ⟨U.2.1.1,ay⟩ a7 (Y+1) (by omega) (by omega) N8 _ λae N9 ck h4 h5 h6 _=>?_
   generalize (zI lR (Y+1)).2=aq at *
   generalize (zI lR (Y+1)).1=bv at *
   refine⟨B _,I _,aA,O,cA,rfl,⟨U.2.1.2.1,az⟩,⟨λb hb=>ao b (oZ _ (oZ _ hb))⟩,I _,by simp,rfl,
    ⟨qA aa (J _ _ _ _ _ _ Z ae O h2 h3 h5 h6 rfl rfl)⟩,⟨by simp⟩,λbw b7=>?_⟩
   have cm:=ru la aq
   refine qP la O bd aA cA ⟨U.2.1.2.1,az⟩ a1 aq (by omega) (by omega) bw _ λai bh b8 h7 h8 h9 _=>?_
   generalize (z6 la aq).2=k' at *
   generalize (z6 la aq).1=bz at *
   rw[i64_in ((done.length:Int)+1) (by rw[hm]at al;simp at al ac;omega)]
   have bi:=J (.int .i64 k) (.string (vQ (k+1))) (.string (vQ (k+1+1))) (.int .i64 (k+1+1+1)) (.int .i64 (k+1+1+1+1)) (.int .i64 Y) Z ae ai h2 h3 h5 h6 h8 h9
   have b3:(Tm.mk k (vQ (k+1)) (vQ (k+1+1)) (k+1+1+1) (.mk (k+1+1+1+1) bt) (.mk Y bv) bz).Is (tmD (.int .i64 k) (.string (vQ (k+1))) (.string (vQ (k+1+1))) (.int .i64 (k+1+1+1)) (.int .i64 (k+1+1+1+1)) (.int .i64 Y) aT Z cT aR ae cR aA ai cA):=by
    simp only[Tm.Is]
    have cn:=Bp (k+1)
    have co:=Bp (k+1+1)
    exact⟨_,_,_,_,_,_,_,rfl,⟨by omega,by omega,Ty.is_mk.2 ⟨_,_,_,rfl,by omega,wE h1⟩,Ty.is_mk.2 ⟨_,_,_,rfl,by omega,wE h4⟩⟩,by omega,h7⟩
   generalize hx:tmD (.int .i64 k) (.string (vQ (k+1))) (.string (vQ (k+1+1))) (.int .i64 (k+1+1+1)) (.int .i64 (k+1+1+1+1)) (.int .i64 Y) aT Z cT aR ae cR aA ai cA=x at *
   have e1:((done++[x]).length:Int)=(done.length:Int)+1:=by simp
   have e2:done++x::ds=(done++[x])++ds:=by simp
   rw[<-e1]
   show zh T b0 _ N m c k' _ t (done++tmD (.int .i64 k) (.string (vQ (k+1))) (.string (vQ (k+1+1))) (.int .i64 (k+1+1+1)) (.int .i64 (k+1+1+1+1)) (.int .i64 Y) aT Z cT aR ae cR aA ai cA::ds) q bh
   rw[hx,e2]
   exact DV ts ds bq _ (done++[x]) (hd.snoc b3) es (by rw[oL,mO,Bi bi];exact hf) (by rw[oL,mO];exact qA aa bi) aj.2 (by simpa using ac) T hT b0 N m c t k'
    (by omega) (by omega) L K (by rw[hL];simp) hK q bh (by omega) (by rw[hm];simp)
end
def Tm.mkd:Tm->Int->Tm
 | .mk kk nm ot n ty re l,k=>.mk kk nm ot n (.mk ty.k (zI ty.as k).1) (.mk re.k (zI re.as (zI ty.as k).2).1) (z6 l (zI re.as (zI ty.as k).2).2).1
def Tm.mkk:Tm->Int->Int
 | .mk kk nm ot n ty re l,k=>(z6 l (zI re.as (zI ty.as k).2).2).2
theorem Tm.mkk_k:∀(t:Tm)(k:Int),k<=t.mkk k/\t.mkk k<=k+4*t.cnt
 | .mk _ _ _ _ (.mk _ tl) (.mk _ rl) l,k=>by
   have:=ru l (k+zG tl+zG rl)
   simp only[Tm.mkk,Tm.cnt,Ty.cnt,Ty.as,yy];omega
theorem Eb {t:Tm} {d:D} (hd:t.Is d) (ht:Tree d) (k:Int) (hk:0<=k) (ay:k+4*t.cnt<=4611686018427387904) (N:Nat) (R:D->Int->Nat->Prop)
  (hR:∀ d' N',N<=N'->(t.mkd k).Is d'->d'.foot=d.foot->d'.cells.map D.cv=d.cells.map D.cv->R d' (t.mkk k) N'):MC prog 8 d k N R:=by
 cases t with
 | mk kk nm ot nn ty re la=>
 obtain⟨t0,t1,r0,r1,aA,I,cA,rfl,hh,ae,al⟩:=Tm.is_mk.1 hd;obtain⟨kT,lT,aT,O,cT,rfl,rfl,rfl,ah,ao⟩:=Ty.is_two hh.ty;obtain⟨kR,lR,aR,J,cR,rfl,rfl,rfl,ai,aq⟩:=Ty.is_two hh.re;have au:=@pL (.int .i64 kk) (.string nm) (.string ot) (.int .i64 nn) (.int .i64 kT) (.int .i64 kR) aT O cT aR J cR aA I cA;have aa:=ht.nd;rw[show(D.ag [D.j kk,.t nm,.t ot,.j nn,.j kT,.sl aT 2 O cT,.j kR,.sl aR 2 J cR,.sl aA 9 I cA]).foot=_ from au,o9,o9]at aa;have aj:=ht.fl;have aw:(D.sl aT 2 O cT).Flat0:=aj.2.2.2.2.2.1;have ax:(D.sl aR 2 J cR).Flat0:=aj.2.2.2.2.2.2.2.1;have ac:(D.sl aA 9 I cA).Flat0:=aj.2.2.2.2.2.2.2.2.1;simp only[Tm.cnt,Ty.cnt]at ay;simp only[Tm.mkd,Tm.mkk,Ty.as,Ty.k]at hR;have U:∀(V Y eA:List D),zA V=zA O->V.length=O.length->zA Y=zA J->Y.length=J.length->zA eA=zA I->eA.length=I.length ->
   zA [D.j kk,.t nm,.t ot,.j nn,.j kT,.sl aT 2 V cT,.j kR,.sl aR 2 Y cR,.sl aA 9 eA cA] =
   zA [D.j kk,.t nm,.t ot,.j nn,.j kT,.sl aT 2 O cT,.j kR,.sl aR 2 J cR,.sl aA 9 I cA]:=λV Y eA h1 h2 h3 h4 h5 h6=>by
  simp only[zA,uF (a:=aT) (z:=2) (c:=cT) h2 h1,uF (a:=aR) (z:=2) (c:=cR) h4 h3,uF (a:=aA) (z:=9) (c:=cA) h6 h5]
 have Z:(zA [D.j kk,.t nm,.t ot,.j nn,.j kT,.sl aT 2 O cT,.j kR,.sl aR 2 J cR,.sl aA 9 I cA]).Nodup:=by have:=ht.nd;simpa only[D.foot]using this
 have ak:∀ b∈(D.sl aT 2 O cT).foot++((D.sl aR 2 J cR).foot++(D.sl aA 9 I cA).foot),b∈(D.ag [D.j kk,.t nm,.t ot,.j nn,.j kT,.sl aT 2 O cT,.j kR,.sl aR 2 J cR,.sl aA 9 I cA]).foot:=λb hb=>by rw[show(D.ag [D.j kk,.t nm,.t ot,.j nn,.j kT,.sl aT 2 O cT,.j kR,.sl aR 2 J cR,.sl aA 9 I cA]).foot=_ from au];exact hb
 have ab:∀(x:Value) (a:Option Addr) (es:List D) (c:Nat),(D.ag [.lit x,.sl a 2 es c]).foot=(D.sl a 2 es c).foot:=λx a es c=>by simp only[D.foot,zA,o6,nH]
 have tT:Tree (.ag [.j kT,.sl aT 2 O cT]):=⟨by rw[ab];exact aa.1,trivial,aw,trivial⟩
 have tR:Tree (.ag [.j kR,.sl aR 2 J cR]):=⟨by rw[ab];exact aa.2.1.1,trivial,ax,trivial⟩
 refine AE N _ k R (λk' x N'=>N<=N'/\∃ V Y eA,x=.ag [D.j kk,.t nm,.t ot,.j nn,.j kT,.sl aT 2 V cT,.j kR,.sl aR 2 Y cR,.sl aA 9 eA cA]/\zA V=zA O/\V.length=O.length/\zA Y=zA J/\Y.length=J.length/\zA eA=zA I/\eA.length=I.length /\
   TysIs (zI lT k).1 V/\TysIs (zI lR (zI lT k).2).1 Y/\qc (z6 la (zI lR (zI lT k).2).2).1 eA/\k'=(z6 la (zI lR (zI lT k).2).2).2)
  ⟨_,rfl,rfl,by simp[D.isCell];exact⟨rfl,rfl,rfl,rfl,rfl,rfl⟩⟩ ⟨tT,⟨λb hb=>ak b (oe _ (by rw[<-ab (.int .i64 kT)];exact hb))⟩,by simp[D.cells],rfl,⟨Z⟩,⟨by simp⟩,λN1 a1=>?_⟩ ?_
 ·have a6:=yy lT k;refine BY ao ah tT k hk (by omega) N1 _ λV N2 a7 h1 h2 h3 _=>?_;generalize (zI lT k).2=k1 at *;refine⟨tR,⟨λb hb=>ak b (oZ _ (oe _ (by rw[<-ab (.int .i64 kR)];exact hb)))⟩,by simp[D.cells,z7],rfl,⟨(U V J I h2 h3 rfl rfl rfl rfl).symm ▸ Z⟩,⟨by simp⟩,λN3 a8=>?_⟩;have ba:=yy lR k1;refine BY aq ai tR k1 (by omega) (by omega) N3 _ λY N4 bb h4 h5 h6 _=>?_;generalize (zI lR k1).2=k2 at *;refine⟨aA,I,cA,rfl,⟨aa.2.1.2.1,ac⟩,⟨λb hb=>ak b (oZ _ (oZ _ hb))⟩,by simp[D.cells,z7],rfl,⟨(U V Y I h2 h3 h5 h6 rfl rfl).symm ▸ Z⟩,⟨by simp⟩,λN5 bc=>?_⟩;refine qP la I (vZ.2 al) aA cA ⟨aa.2.1.2.1,ac⟩ ae k2 (by omega) (by omega) N5 _ λeA N6 bd h7 h8 h9 _ N7 bg=>?_;exact⟨by omega,V,Y,eA,rfl,h2,h3,h5,h6,h8,h9,h1,h4,h7,rfl⟩
 ·rintro k' x N' ⟨az,V,Y,eA,rfl,h1,h2,h3,h4,h5,h6,g1,g2,g3,rfl⟩
  refine⟨_,rfl,by simp[D.cv,h2,h4,h6],U V Y eA h1 h2 h3 h4 h5 h6,hR _ N' az ?_ (U V Y eA h1 h2 h3 h4 h5 h6) (by simp[D.cells,D.cv,h2,h4,h6])⟩;exact Tm.is_mk.2 ⟨_,_,_,_,_,_,_,rfl,⟨hh.nm,hh.ot,Ty.is_mk.2 ⟨_,_,_,rfl,by omega,wE g1⟩,Ty.is_mk.2 ⟨_,_,_,rfl,by omega,wE g2⟩⟩,by omega,vZ.1 g3⟩
theorem Ec {t:Tm} {d:D} (hd:t.Is d) (J:Tree d) (k:Int) (O:0<=k) (I:k+4*t.cnt<=4611686018427387904) (N:Nat) (R:D->Int->Nat->Prop)
  (U:∀ d' N',N<=N'->(t.mkd k).Is d'->d'.foot=d.foot->R d' (t.mkk k) N'):MC prog 8 d k N R:=
 Eb hd J k O I N R λd' N' V Y Z _=>U d' N' V Y Z
theorem FP (l:List Ty)(k:Int)(es:List D)(a:Option Addr)(c:Nat)(J:All2 Ty.Is (zI l k).1 es)(I:es.length<=4611686018427387904)(O:0<=k)(U:k+zG l<=4611686018427387904):A5 54 [.sv a 2 es c,.j k] (zI l k).2:=by have h:=pj (.mk 0 (zI l k).1) es a c J I k O (by simp only[Ty.as,uZ];exact U);simp only[Ty.as,Bk l k O]at h;exact h
theorem DU:∀(t:Tm)(k:Int)(es:List D)(a:Option Addr)(c:Nat),All2 Tm.Is (z6 t.as k).1 es->es.length<=4611686018427387904->0<=k->k+4*zx t.as<=4611686018427387904->A5 22 [.sv a 9 es c,.j k] (z6 t.as k).2:=by
 refine Tm.ind λkk nm ot n ty re l ih k es a c O bj h0 h1 N Q hQ=>?_;simp only[Tm.as]at O hQ h1;have hl:=O.len;rw[Dq]at hl;refine qv N a es c k Q λ_=>?_;have key:∀(xs:List Tm) (i:Nat) (m:Int) (N':Nat),N<=N'->(∀ x∈xs,x∈l)->i+xs.length=es.length->(z6 l k).1.drop i=(z6 xs m).1->(z6 xs m).2=(z6 l k).2->0<=m->m+4*zx xs<=4611686018427387904->yR Q N a es c m i N':=by
  intro xs
  induction xs with
  | nil=>
    intro i m N' ak _ hi hd I hm _;refine wk (Br.dec (λh=>?_) λ_ N1 bw=>?_)
    ·simp at hi;omega
    ·simp only[z6]at I;exact Qi (hQ _ (by omega)) I.symm
  | cons x ts al=>
    intro i m N' ak J hi hd I hm hb;cases x with
    | mk kx nx ox ao aq au lx=>
    obtain⟨tk,tl⟩:=aq;obtain⟨rk,rl⟩:=au;have hx:=ih (.mk kx nx ox ao (.mk tk tl) (.mk rk rl) lx) (J _ (by simp));simp only[Tm.as]at hx;simp only[z6,Ty.as]at hd I;simp only[zx,Tm.cnt,Ty.cnt]at hb;simp only[oR]at hi;have aw:=yy tl (m+1+1+1+1+1);generalize hT:zI tl (m+1+1+1+1+1)=Z at hd I aw;have ax:=yy rl (Z.2+1);generalize hR:zI rl (Z.2+1)=mR at hd I ax;have ay:=ru lx mR.2;generalize hA:z6 lx mR.2=mA at hd I ay;have hg:(z6 l k).1[i]?=some (Tm.mk m (vQ (m+1)) (vQ (m+1+1)) (m+1+1+1) (.mk (m+1+1+1+1) Z.1) (.mk Z.2 mR.1) mA.1):=by
     have:=oN (λu=>u[0]?) hd
     simpa using this
    have hr:=O.get hg;obtain⟨t0,t1,r0,r1,a2,az,c2,a1,hh,U,aa⟩:=Tm.is_mk.1 hr;obtain⟨kT,lT,aT,a6,cT,eT,rfl,rfl,V,ab⟩:=Ty.is_two hh.ty;obtain⟨kR,lR,aR,a7,cR,eR,rfl,rfl,Y,ac⟩:=Ty.is_two hh.re;injection eT with a8 ba
    injection eR with bb bc
    subst a8;subst ba;subst bb;subst bc;have ae:(i:Int)<(es.length:Int):=by omega
    have B:(0:Int)<=(i:Int)/\(i:Int)<(es.length:Int):=⟨by omega,ae⟩
    refine wk ?_;rw[i64_in (m+1) (by omega),i64_in (m+1+1) (by omega),i64_in (m+1+1+1) (by omega),i64_in (m+1+1+1+1) (by omega),i64_in (m+1+1+1+1+1) (by omega),i64_in ((i:Int)+1) (by omega)];rw[oX,a1];refine Br.dec (λ_=>?_) λh=>absurd ae h;refine⟨B,_,rfl,Br.bne (λh=>absurd rfl h) λ_=>⟨B,_,rfl,λN2 bz=>?_⟩⟩;refine vL (m+1) (by omega) (by omega) N2 _ λN3 b3 _=>Br.nstr (λh=>absurd rfl h) λ_=>⟨B,_,rfl,λN5 b7=>?_⟩
    refine vL (m+1+1) (by omega) (by omega) N5 _ λN6 b8 _=>Br.nstr (λh=>absurd rfl h) λ_=>⟨B,_,rfl,Br.bne (λh=>absurd rfl h) λ_=>⟨B,_,rfl,Br.bne (λh=>absurd rfl h) λ_=>⟨B,_,_,_,rfl,λbd bm=>?_⟩⟩⟩
    have ah:=FP tl (m+1+1+1+1+1) a6 aT cT (by rw[hT];exact wE ab) V (by omega) (by omega);rw[hT]at ah;refine ah bd _ λb9 bn _=>Br.dec (λh=>by omega) λ_=>⟨B,_,rfl,Br.bne (λh=>absurd rfl h) λ_=>⟨B,_,_,_,rfl,λbg bp=>?_⟩⟩
    rw[i64_in (Z.2+1) (by omega)];have ai:=FP rl (Z.2+1) a7 aR cR (by rw[hR];exact wE ac) Y (by omega) (by omega);rw[hR]at ai;refine ai bg _ λca bq _=>Br.dec (λh=>by omega) λ_=>⟨B,_,_,_,rfl,λbh bt=>?_⟩
    have aj:=hx mR.2 az a2 c2 (by rw[hA];exact aa) U (by omega) (by omega);rw[hA]at aj;refine aj bh _ λbi bv _=>Br.dec (λh=>by omega) λ_=>?_;refine al (i+1) mA.2 bi (by omega) (λx hx=>J x (by simp[hx])) (by omega) ?_ I (by omega) (by omega)
    have:=oN (List.drop 1) hd
    simpa [List.drop_drop,Nat.add_comm]using this
 exact key l 0 k N (oG _) (λx h=>h) (by omega) (by simp) rfl h0 h1
theorem EZ (t:Tm)(k:Int)(d:D)(hd:(t.mkd k).Is d)(h0:0<=k)(h1:k+4*t.cnt<=4611686018427387904):A5 9 [.dg 9 d,.j k] (t.mkk k):=λN Q hQ=>by
 obtain⟨kk,nm,ot,n,⟨tk,tl⟩,⟨rk,rl⟩,l⟩:=t;simp only[Tm.mkd,Tm.mkk,Ty.as,Ty.k]at hd hQ;simp only[Tm.cnt,Ty.cnt]at h1;have ab:=yy tl k;generalize hT:zI tl k=I at hd hQ ab;have ac:=yy rl I.2;generalize hR:zI rl I.2=V at hd hQ ac;have au:=ru l V.2;obtain⟨t0,t1,r0,r1,a2,ae,c2,rfl,hh,J,Y⟩:=Tm.is_mk.1 hd;obtain⟨kT,lT,aT,aw,cT,eT,rfl,rfl,O,Z⟩:=Ty.is_two hh.ty;obtain⟨kR,lR,aR,ax,cR,eR,rfl,rfl,U,aa⟩:=Ty.is_two hh.re;injection eT with ah ai
 injection eR with aj ak
 subst ah;subst ai;subst aj;subst ak;have ay:zG I.1=zG tl:=by rw[<-hT];exact uZ tl k
 have az:zG V.1=zG rl:=by rw[<-hR];exact uZ rl _
 have al:ww I.1 k=I.2:=by rw[<-hT];exact Bk tl k h0
 have ao:ww V.1 I.2=V.2:=by rw[<-hR];exact Bk rl _ (by omega)
 refine Aw N _ k Q λ_ N1 a1=>?_;have h2:=BX (kk:=tk) (a:=aT) (c:=cT) Z O k h0 (by omega);rw[al]at h2;refine h2 N1 _ λN2 a6 _=>Br.dec (λh=>by omega) λ_ N4 a7=>?_;have h3:=BX (kk:=rk) (a:=aR) (c:=cR) aa U I.2 (by omega) (by omega);rw[ao]at h3;refine h3 N4 _ λN5 a8 _=>Br.dec (λh=>by omega) λ_=>⟨_,_,_,rfl,λN7 ba=>?_⟩
 refine DU (.mk 0 (bytes []) (bytes []) 0 (.mk 0 []) (.mk 0 []) l) V.2 ae a2 c2 Y J (by omega) (by simp only[Tm.as];omega) N7 _ λN8 bb _=>Br.dec (λh=>by simp only[Tm.as]at h;omega) λ_ bc aq=>?_;exact hQ _ (by omega)
end Go.Proofs.YtldbmnklnpfpfaaGreatDoor
