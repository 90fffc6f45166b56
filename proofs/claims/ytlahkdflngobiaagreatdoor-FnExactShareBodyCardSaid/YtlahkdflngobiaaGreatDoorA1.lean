/- Data as plain trees, and what the laws' first look at them (their size) comes to. -/
import Derived.IntWalk
import Derived.Test.YtlahkdflngobiaaGreatDoorKa
set_option linter.unusedVariables false
set_option linter.unusedSimpArgs false
namespace Go.Proofs.YtlahkdflngobiaaGreatDoor
open Go Go.Proofs Go.Proofs.Tryz Go.IntWalk
inductive Ty where
 | mk (k:Int) (l:List Ty)
mutual
/-- data that reads as this type -/
def Ty.Is:Ty->D->Prop
 | .mk k l,d=>∃ a es c,d=.ag [.j k,.sl a 2 es c]/\es.length<=4611686018427387904/\TysIs l es
def TysIs:List Ty->List D->Prop
 | [],es=>es=[]
 | t::I,es=>∃ d ds,es=d::ds/\t.Is d/\TysIs I ds
end
theorem TysIs.len:∀ {I:List Ty} {es:List D},TysIs I es->es.length=I.length
 | [],es,h=>by simp [TysIs] at h;subst h;rfl
 | t::I,es,h=>by
   simp only [TysIs] at h
   obtain ⟨d,ds,rfl,_,h⟩:=h
   simp [TysIs.len h]
mutual
def zI6:Ty->Int->Int
 | .mk _ l,n=>if n - l.length<0 then -1 else zLe l (n - l.length)
def zLe:List Ty->Int->Int
 | [],n=>n
 | t::I,n=>if zI6 t n<0 then -1 else zLe I (zI6 t n)
end
theorem Br.of {v:Bool} {A B:Prop} (I:v=true->A) (J:v=false->B):Br v A B:=by
 cases v
 ·exact J rfl
 ·exact I rfl
theorem rM {pre ds:List D} {d:D}:(pre++d::ds).getD pre.length default=d:=by
 simp [oB]
mutual
theorem zMS:∀ (t:Ty) (n:Int),0<=n->zI6 t n = -1\/(0<=zI6 t n/\zI6 t n<=n)
 | .mk _ l,n,h=>by
   simp only [zI6]
   split
   ·exact .inl rfl
   ·rcases zP7 l (n - l.length) (by omega) with h | h
    ·exact .inl h
    ·exact .inr (by omega)
theorem zP7:∀ (l:List Ty) (n:Int),0<=n->zLe l n = -1\/(0<=zLe l n/\zLe l n<=n)
 | [],n,h=>.inr (by simp [zLe,h])
 | t :: I,n,h=>by
   simp only [zLe]
   split
   ·exact .inl rfl
   ·rcases zMS t n h with h1 | h1
    ·omega
    ·rcases zP7 I (zI6 t n) (by omega) with h2 | h2
     ·exact .inl h2
     ·exact .inr (by omega)
end
mutual
theorem zNL:∀ (t:Ty) (d:D),t.Is d->∀ (n:Int),0<=n->n<=1048576->∀ (N:Nat) (Q:QT [.i]),(∀ N',N<=N'->Q (zI6 t n) N')->ACalls prog 32 [.i] [.dg 2 d,.j n] N Q
 | .mk k l,d,hd,n,h0,h1,N,Q,hQ=>by
   simp only [Ty.Is] at hd
   obtain ⟨a,es,c,rfl,hlen,ah⟩:=hd
   refine zIV N _ n Q λ_=>⟨a,es,c,rfl,λN1 ai=>?_⟩
   refine zO5 l es ah hlen a c n h0 h1 N1 _ λN2 ab _=>?_
   have J:=hQ
   simp only [zI6] at J
   refine Br.of (λhc N' O=>?_) λhc N' O=>J N' (by omega)
   have I:=nP hc
   have:=J N' (by omega)
   rcases zMS (.mk k l) n h0 with h | h
   ·simp only [zI6] at h
    rwa [h] at this
   ·simp only [zI6] at h
    omega
theorem zO5:∀ (l:List Ty) (es:List D),TysIs l es->es.length<=4611686018427387904->∀ (a:Option Addr) (c:Nat) (n:Int),0<=n->n<=1048576->∀ (N:Nat) (Q:QT [.i]),
  (∀ N',N<=N'->Q (if n - l.length<0 then -1 else zLe l (n - l.length)) N')->ACalls prog 75 [.i] [.sv a 2 es c,.j n] N Q
 | l,es,ac,hlen,a,c,n,h0,h1,N,Q,hQ=>by
   have hl:=ac.len
   refine zHA N a es c n Q λ_=>?_
   rw [i64_in _ (by omega),hl]
   refine Br.of (λhc N' O=>?_) λhc=>?_
   ·have:=nP hc
    have:=hQ N' O
    rwa [if_pos (by omega)] at this
   ·have I:¬(n - l.length<0):=nl hc
    have aj:=zSC l es ac [] es rfl hlen a c (n - l.length) (by omega) (by omega) N Q (λN' O=>by have:=hQ N' O;rwa [if_neg I] at this) N (oA _)
    exact aj
theorem zSC:∀ (l:List Ty) (rest:List D),TysIs l rest->∀ (pre es:List D),es=pre++rest->es.length<=4611686018427387904->∀ (a:Option Addr) (c:Nat) (n:Int),0<=n->n<=1048576->∀ (N:Nat) (Q:QT [.i]),
  (∀ N',N<=N'->Q (zLe l n) N')->∀ N',N<=N'->wn Q N a es c n pre.length N'
 | [],rest,hr,pre,es,he,hlen,a,c,n,h0,h1,N,Q,hQ,N',O=>by
   simp [TysIs] at hr
   subst hr
   rw [oY] at he
   subst he
   refine qQ Q N a es c n es.length N' (Br.of (λhc=>?_) λ_ N2 ab=>hQ N2 (by omega))
   have:=nP hc
   omega
 | t::ts,rest,hr,pre,es,he,hlen,a,c,n,h0,h1,N,Q,hQ,N',O=>by
   simp only [TysIs] at hr
   obtain ⟨d,ds,rfl,hd,ak⟩:=hr
   subst he
   have aa:(pre.length:Int)<((pre++d::ds).length:Int):=by simp;omega
   refine qQ Q N a _ c n pre.length N' (Br.of (λ_=>⟨⟨by omega,aa⟩,λN1 ai=>?_⟩) λhc=>absurd aa (nl hc))
   rw [oH,rM]
   refine zNL t d hd n h0 h1 N1 _ λN2 ab _=>?_
   rw [i64_in _ (by simp at aa hlen;omega)]
   have J:=hQ
   simp only [zLe] at J
   refine Br.of (λhc N3 ae=>?_) λhc=>?_
   ·have I:=nP hc
    have:=J N3 (by omega)
    rwa [if_pos I] at this
   ·have I:¬(zI6 t n<0):=nl hc
    have al:zI6 t n<=n:=by rcases zMS t n h0 with h | h<;>omega
    have:=zSC ts ds ak (pre++[d]) (pre++d::ds) (by simp) hlen a c (zI6 t n) (by omega) (by omega) N Q (λN3 ae=>by have:=J N3 ae;rwa [if_neg I] at this) N2 (by omega)
    have e1:((pre++[d]).length:Int)=(pre.length:Int)+1:=by simp
    rw [e1] at this
    exact this
end
/-- lies in blocks of its own, made between two moments -/
structure OwnL (N N':Nat) (es:List D):Prop where
 nd:(zB es).Nodup
 fl:y7 es
 lo:∀ b∈zB es,N<=b
 hi:∀ b∈zB es,b<N'
structure Own (N N':Nat) (d:D):Prop where
 nd:d.foot.Nodup
 fl:d.Flat0
 lo:∀ b∈d.foot,N<=b
 hi:∀ b∈d.foot,b<N'
theorem Own.mono {N1 N2 J O:Nat} {d:D} (h:Own N1 N2 d) (h1:J<=N1) (h2:N2<=O):Own J O d:=⟨h.nd,h.fl,λb I=>oe h1 (h.lo b I),λb I=>o5 (h.hi b I) h2⟩
theorem OwnL.mono {N1 N2 J O:Nat} {es:List D} (h:OwnL N1 N2 es) (h1:J<=N1) (h2:N2<=O):OwnL J O es:=⟨h.nd,h.fl,λb I=>oe h1 (h.lo b I),λb I=>o5 (h.hi b I) h2⟩
theorem uv {N N':Nat}:OwnL N N' []:=⟨by simp [zB],trivial,by simp [zB],by simp [zB]⟩
theorem xZ:∀ {a b:List D},y7 a->y7 b->y7 (a++b)
 | [],b,_,h=>h
 | x::a,b,I,J=>⟨I.1,xZ I.2 J⟩
theorem zm {N N1 N2:Nat} {es fs:List D} (I:OwnL N N1 es) (J:OwnL N1 N2 fs) (hN:N<=N1) (O:N1<=N2):OwnL N N2 (es++fs):=by
 refine ⟨?_,xZ I.fl J.fl,λb hb=>?_,λb hb=>?_⟩
 ·rw [zE,oc]
  refine ⟨I.nd,J.nd,λx hx y hy aa=>?_⟩
  have:=I.hi x hx;have:=J.lo y hy;omega
 ·rw [zE] at hb
  rcases oF.1 hb with hb | hb
  ·exact I.lo b hb
  ·have:=J.lo b hb;omega
 ·rw [zE] at hb
  rcases oF.1 hb with hb | hb
  ·have:=I.hi b hb;omega
  ·exact J.hi b hb
theorem zo {N N':Nat} {d:D} (h:Own N N' d):OwnL N N' [d]:=⟨by simpa [zB] using h.nd,⟨h.fl,trivial⟩,by simpa [zB] using h.lo,by simpa [zB] using h.hi⟩
theorem zR {N N':Nat} {x:Value} {es:List D} (h:OwnL N N' es):OwnL N N' (.lit x::es):=⟨by simpa [zB,D.foot] using h.nd,⟨trivial,h.fl⟩,by simpa [zB,D.foot] using h.lo,by simpa [zB,D.foot] using h.hi⟩
theorem s9 {N N':Nat} {cs:List D} (h:OwnL N N' cs):Own N N' (.ag cs):=⟨by simpa only [D.foot] using h.nd,h.fl,by simpa only [D.foot] using h.lo,by simpa only [D.foot] using h.hi⟩
theorem tf {N N1 N3:Nat} {a:Option Addr} {z c:Nat} {es ds:List D} (h:OwnL N N1 es) (O:Fresh N N3 a (.ag es::ds)) (hN:N1<=N3):Own N N3 (.sl a z es c):=by
 cases a with
 | none=>exact ⟨by simpa only [D.foot] using h.nd,⟨by simp,h.fl⟩,by simpa only [D.foot] using h.lo,λb hb=>by simp only [D.foot] at hb;have:=h.hi b hb;omega⟩
 | some ad=>
   have J:=O.ap ad rfl (.ag es) (by simp)
   simp only [D.foot] at J
   have I:∀ b∈(D.sl (some ad) z es c).foot,b=ad.block\/b∈zB es:=λb hb=>by
    simp only [D.foot] at hb
    split at hb
    ·simp at hb
    ·exact oJ.1 hb
   refine ⟨?_,⟨λaa h'=>by cases h';exact O.off ad rfl,h.fl⟩,λb hb=>?_,λb hb=>?_⟩
   ·simp only [D.foot]
    split
    ·exact mJ
    ·exact nG.2 ⟨J,h.nd⟩
   ·rcases I b hb with rfl | hb
    ·exact O.lo ad rfl
    ·exact h.lo b hb
   ·rcases I b hb with rfl | hb
    ·exact O.hi ad rfl
    ·have:=h.hi b hb;omega
mutual
/-- few enough for a copy -/
def Ty.Sm:Ty->Prop
 | .mk _ l=>l.length<=1073741824/\zPM l
def zPM:List Ty->Prop
 | []=>True
 | t::I=>t.Sm/\zPM I
end
theorem TysIs.snoc:∀ {I:List Ty} {es:List D} {t:Ty} {d:D},TysIs I es->t.Is d->TysIs (I++[t]) (es++[d])
 | [],es,t,d,h,J=>by simp [TysIs] at h;subst h;exact ⟨d,[],rfl,J,rfl⟩
 | u::I,es,t,d,h,J=>by
   simp only [TysIs] at h
   obtain ⟨x,ds,rfl,O,h4⟩:=h
   exact ⟨x,ds++[d],rfl,O,TysIs.snoc h4 J⟩
theorem zDf {done junk:List D} {x y:D}:(done++y::junk).set done.length x=done++x::junk:=by simp
mutual
theorem zMo:∀ (t:Ty) (d:D),t.Is d->t.Sm->∀ (N:Nat) (Q:QT [.ag 2]),(∀ d' N',N<=N'->t.Is d'->Own N N' d'->Q d' N')->ACalls prog 41 [.ag 2] [.dg 2 d] N Q
 | .mk k l,d,hd,hs,N,Q,hQ=>by
   simp only [Ty.Is] at hd
   obtain ⟨a,es,c,rfl,hlen,aj⟩:=hd
   refine zH8 N _ Q λ_=>⟨k,rfl,a,es,c,rfl,λN1 ae=>zQK l es aj hlen hs.1 hs.2 a c N1 _ λa' es' c' N2 ah h1 h2 h3 _ _ N3 O=>?_⟩
   exact hQ _ N3 (by omega) ⟨a',es',c',rfl,h2,h1⟩ (s9 (zR (zo (h3.mono ae O))))
theorem zQK:∀ (l:List Ty) (es:List D),TysIs l es->es.length<=4611686018427387904->l.length<=1073741824->zPM l->∀ (a:Option Addr) (c:Nat) (N:Nat) (Q:QT [.sl 2]),
  (∀ a' es' c' N',N<=N'->TysIs l es'->es'.length<=4611686018427387904->Own N N' (.sl a' 2 es' c')->Q a' es' c' N')->ACalls prog 84 [.sl 2] [.sv a 2 es c] N Q
 | l,es,ai,hlen,aq,hs,a,c,N,Q,hQ=>by
   have hl:=ai.len
   refine zGn N a es c Q λ_=>⟨⟨by omega,by omega,by omega,by omega⟩,?_⟩
   rw [oH]
   have:=zSH l es ai hs [] [] [] (by simp [TysIs]) rfl (by simpa using hlen) a c N Q (by simpa using hQ) es.length N (List.replicate es.length (.ag [.j 0,.sl none 2 [] 0])) (oA _) uv (by simp)
   simpa using this
theorem zSH:∀ (l:List Ty) (rest:List D),TysIs l rest->zPM l->∀ (I:List Ty) (pre done:List D),TysIs I done->done.length=pre.length->(pre++rest).length<=4611686018427387904->∀ (a:Option Addr) (c N:Nat) (Q:QT [.sl 2]),
  (∀ a' es' c' N',N<=N'->TysIs (I++l) es'->es'.length<=4611686018427387904->Own N N' (.sl a' 2 es' c')->Q a' es' c' N')->∀ (q N1:Nat) (junk:List D),N<=N1->OwnL N N1 done->junk.length=rest.length ->
  wx Q N a (pre++rest) c (pre++rest).length q pre.length (done++junk) q N1
 | [],rest,hr,_,I,pre,done,hd,J,hlen,a,c,N,Q,hQ,q,N1,junk,ae,aa,hj=>by
   simp [TysIs] at hr
   subst hr
   have:junk=[]:=oM (by simpa using hj)
   subst this
   rw [oY] at *
   rw [oY]
   refine qB _ _ _ _ _ _ _ _ _ _ _ (Br.of (λhc=>?_) λ_=>?_)
   ·have:=nP hc;omega
   ·exact ⟨⟨J.symm,rfl⟩,⟨J.symm,rfl⟩,⟨J.symm,rfl⟩,λa' N3 O hf N4 ak=>hQ a' done q N4 (by omega) hd (by omega) ((tf aa hf O).mono (oA _) ak)⟩
 | t :: ts,rest,hr,hs,I,pre,done,hd,J,hlen,a,c,N,Q,hQ,q,N1,junk,ae,aa,hj=>by
   simp only [TysIs] at hr
   obtain ⟨d,ds,rfl,al,am⟩:=hr
   cases junk with
   | nil=>simp at hj
   | cons y junk=>
     have ab:(pre.length:Int)<((pre++d::ds).length:Int):=by simp;omega
     have ac:pre.length<(done++y::junk).length:=by simp;omega
     refine qB _ _ _ _ _ _ _ _ _ _ _ (Br.of (λ_=>⟨⟨by omega,ab⟩,λN2 ah=>?_⟩) λhc=>absurd ab (nl hc))
     rw [oH,rM]
     refine zMo t d al hs.1 N2 _ λx N3 O hx ao _ _=>?_
     rw [o6]
     refine ⟨⟨by omega,ab,ac⟩,ac,?_⟩
     rw [i64_in _ (by simp at ab hlen;omega),<-J,zDf]
     have:=zSH ts ds am hs.2 (I++[t]) (pre++[d]) (done++[x]) (hd.snoc hx) (by simp [J]) (by simpa using hlen) a c N Q (by simpa using hQ) q N3 junk (by omega)
      (zm (aa.mono (oA _) ah) (zo ao) (by omega) O) (by simpa using hj)
     have e1:((pre++[d]).length:Int)=(done.length:Int)+1:=by simp [J]
     rw [e1] at this
     simpa using this
end
mutual
def Ty.cnt:Ty->Nat
 | .mk _ l=>1+zI l
def zI:List Ty->Nat
 | []=>0
 | t::I=>t.cnt+zI I
end
mutual
def zOP:Ty->Int->Ty × Int
 | .mk _ l,k=>(.mk k (ze l (k+1)).1,(ze l (k+1)).2)
def ze:List Ty->Int->List Ty × Int
 | [],k=>([],k)
 | t::I,k=>((zOP t k).1::(ze I (zOP t k).2).1,(ze I (zOP t k).2).2)
end
mutual
theorem zT4:∀ (t:Ty) (k:Int),(zOP t k).2=k+t.cnt
 | .mk _ l,k=>by simp only [zOP,Ty.cnt,wb l (k+1)];omega
theorem wb:∀ (l:List Ty) (k:Int),(ze l k).2=k+zI l
 | [],k=>by simp [ze,zI]
 | t::I,k=>by simp only [ze,zI,wb I,zT4 t k];omega
end
theorem zMU {P:Program} {f:FuncId} {z c:Nat} {es:List D} {k:Int} {N:Nat} {R:D->Int->Nat->Prop} (hc:yD P f=true) (I:es≠[]):MC P f (.sl none z es c) k N R:=
 ⟨hc,λw0 _ _ _ J _=>by cases J;exact absurd rfl I⟩
theorem qo {done ds:List D} {d d':D} (h:(zB (done++d::ds)).Nodup) (I:d'.foot=d.foot):(zB (done++d'::ds)).Nodup:=by
 simpa only [zE,zB,I] using h
theorem zDJ {done ds:List D} {d d':D} (I:d'.foot=d.foot):zB (done++d'::ds)=zB (done++d::ds):=by
 simp only [zE,zB,I]
theorem rT {a:Option Addr} {z c:Nat} {es es':List D} (J:es'.length=es.length) (I:zB es'=zB es):(D.sl a z es' c).foot=(D.sl a z es c).foot:=by
 cases a with
 | none=>simp only [D.foot,I]
 | some ad=>
   have:es'.isEmpty=es.isEmpty:=by
    cases es<;>cases es'<;>simp at J ⊢
   simp only [D.foot,I,this]
mutual
theorem tL:∀ (l:List Ty) (es:List D),TysIs l es->∀ (a:Option Addr) (c:Nat),Tree (.sl a 2 es c)->es.length<=4611686018427387904->∀ (k:Int),0<=k->k+zI l<=4611686018427387904->∀ (N:Nat) (R:D->Int->Nat->Prop),
  (∀ es' N',N<=N'->TysIs (ze l k).1 es'->zB es'=zB es->es'.length=es.length->R (.sl a 2 es' c) (ze l k).2 N')->MC prog 52 (.sl a 2 es c) k N R
 | l, es,au,a,c,ac,hlen,k,hk,aj,N,R,hR=>by
   by_cases ak:es=[]
   ·subst ak
    have hl:l=[]:=by have:=au.len;simp at this;exact oM this.symm
    subst hl
    refine zOe (zEF N a [] c k _ λ_=>zBZ _ _ _ _ _ _ _ _ (Br.of (λhc=>?_) λ_ N2 aw=>?_))
    ·simp at hc
    ·exact hR [] N2 aw (by simp [ze,TysIs]) rfl rfl
   ·cases a with
    | none=>exact zMU (by kernel_rfl) ak
    | some ad=>
      refine zDj N ad es c k R (λk' x N'=>N<=N'/\∃ es',x=.ag es'/\es'.length=es.length/\zB es'=zB es/\TysIs (ze l k).1 es'/\k'=(ze l k).2) ac ak (by unfold maxLen;omega) (λt=>?_) ?_
      ·have aa:=ac.nd
       have ae:(D.sl (some ad) 2 es c).foot=ad.block::zB es:=by simp [D.foot,ak]
       have ah:∀ b∈zB es,b∈(D.sl (some ad) 2 es c).foot:=λb hb=>by rw [ae];simp [hb]
       rw [ae] at aa
       have:=zMw l es au [] [] (by simp [TysIs]) es rfl (nG.1 aa).2 ac.fl.2 hlen (D.sl (some ad) 2 es c).foot ah ad.block N es.length c t k hk aj (ze l k).1 (ze l k).2 (by simp) rfl es.length N (oA _)
       simpa using this
      ·rintro k' x N' ⟨az,es',rfl,h1,h2,h3,rfl⟩
       exact ⟨es',rfl,h1,h2,hR es' N' az h3 h2 h1⟩
theorem zMw:∀ (l:List Ty) (rest:List D),TysIs l rest->∀ (J:List Ty) (done:List D),TysIs J done->∀ (es:List D),zB (done++rest)=zB es->(zB (done++rest)).Nodup->y7 rest->(done++rest).length<=4611686018427387904 ->
  ∀ (T:List Nat),(∀ b∈zB es,b∈T)->∀ (b0 N m c t:Nat) (k:Int),0<=k->k+zI l<=4611686018427387904->∀ (L:List Ty) (K:Int),L=J++(ze l k).1->K=(ze l k).2->∀ (q N1:Nat),N<=N1->m=(done++rest).length ->
  yp T b0 (λk' x N'=>N<=N'/\∃ es',x=.ag es'/\es'.length=m/\zB es'=zB es/\TysIs L es'/\k'=K) N m c k done.length t (done++rest) q N1
 | [],rest,hr,J,done,hd,es,hf,aa,ao,hlen,T,hT,b0,N,m,c,t,k,hk,aj,L,K,hL,hK,q,N1,a6,hm=>by
   simp [TysIs] at hr
   subst hr
   rw [oY] at *
   refine uT _ _ _ _ _ _ _ _ _ _ _ _ (Br.of (λhc=>?_) λ_=>⟨rfl,λN3 a7=>⟨by omega,done,rfl,hm.symm,hf,?_,?_⟩⟩)
   ·have:=nP hc;omega
   ·rw [hL];simpa [ze] using hd
   ·rw [hK];simp [ze]
 | .mk kk lt::ts,rest,hr,J,done,hd,es,hf,aa,ao,hlen,T,hT,b0,N,m,c,t,k,hk,aj,L,K,hL,hK,q,N1,a6,hm=>by
   simp only [TysIs] at hr
   obtain ⟨d,ds,rfl,ax,a8⟩:=hr
   simp only [Ty.Is] at ax
   obtain ⟨a1,I,c1,rfl,aq,ba⟩:=ax
   simp only [zI,Ty.cnt] at aj
   have ai:(done.length:Int)<(m:Int):=by rw [hm];simp;omega
   have ab:∀ d:D,done.length<(done++d::ds).length:=λd=>by simp
   have bb:∀ x:Value,(D.ag [.lit x,.sl a1 2 I c1]).foot=(D.ag [.j kk,.sl a1 2 I c1]).foot:=λx=>by simp only [D.foot,zB]
   have ah:∀ b∈(D.sl a1 2 I c1).foot,b∈zB (done++D.ag [.j kk,.sl a1 2 I c1]::ds):=λb hb=>by
    rw [zE]
    refine oX _ ?_
    simp only [zB,D.foot] at hb ⊢
    simp [hb]
   have al:(D.sl a1 2 I c1).foot.Nodup:=by
    rw [zE,oc] at aa
    have:=aa.2.1
    simp only [zB] at this
    rw [oc] at this
    have:=this.1
    simpa only [D.foot,zB,oR,oY] using this
   have am:(D.sl a1 2 I c1).Flat0:=ao.1.2.1
   have bc:yk 0 [(D.j k)] (D.cells (.ag [.j kk,.sl a1 2 I c1]))=[.j k,.sl a1 2 I c1]:=rfl
   refine uT _ _ _ _ _ _ _ _ _ _ _ _ (Br.of (λ_=>?_) λhc=>absurd ai (nl hc))
   rw [oH,o6,rM,bc,zDf,rM]
   refine ⟨⟨by omega,ai,ab _⟩,ab _,⟨by omega,ai,ab _⟩,ab _,a1,I,c1,rfl,⟨al,am⟩,⟨λb hb=>hT b (hf ▸ ah b hb)⟩,ab _,by simp [D.cells],rfl,⟨qo aa (bb _)⟩,⟨by simp⟩,λN2 aw=>?_⟩
   rw [i64_in (k+1) (by omega)]
   refine tL lt I ba a1 c1 ⟨al,am⟩ aq (k+1) (by omega) (by omega) N2 _ λO N3 a7 h1 h2 h3 _=>?_
   rw [zDf,i64_in _ (by rw [hm] at ai;simp at ai hlen;omega)]
   have bd:yk 1 [D.sl a1 2 O c1] (D.cells (.ag [.j k,.sl a1 2 I c1]))=[.j k,.sl a1 2 O c1]:=rfl
   rw [bd]
   have ay:(D.ag [.j k,.sl a1 2 O c1]).foot=(D.ag [.j kk,.sl a1 2 I c1]).foot:=by
    have:=rT (a:=a1) (z:=2) (c:=c1) h3 h2
    simp only [D.foot,zB] at this ⊢
    rw [this]
   have bg:=wb lt (k+1)
   have:=zMw ts ds a8 (J++[.mk k (ze lt (k+1)).1]) (done++[.ag [.j k,.sl a1 2 O c1]]) (hd.snoc (t:=.mk k (ze lt (k+1)).1) (by simp only [Ty.Is];exact ⟨a1,O,c1,rfl,by omega,h1⟩)) es
    (by rw [o0,nq,zDJ ay];exact hf) (by rw [o0,nq];exact qo aa ay) ao.2 (by simpa using hlen) T hT b0 N m c t (ze lt (k+1)).2
    (by omega) (by rw [bg];omega) L K (by rw [hL];simp [ze,zOP]) (by rw [hK];simp [ze,zOP]) q N3 (by omega) (by rw [hm];simp)
   have e1:((done++[D.ag [.j k,.sl a1 2 O c1]]).length:Int)=(done.length:Int)+1:=by simp
   rw [e1] at this
   simpa using this
end
mutual
def tW:Ty->Ty->Bool
 | .mk k l,.mk k' I=>k==k'&&uX l I
def uX:List Ty->List Ty->Bool
 | [],[]=>true
 | t::J,u::us=>tW t u&&uX J us
 | _,_=>false
end
mutual
theorem ri:∀ (t u:Ty),tW t u=true↔t=u
 | .mk k l,.mk k' J=>by simp [tW,zKo l J]
theorem zKo:∀ (l m:List Ty),uX l m=true↔l=m
 | [],[]=>by simp [uX]
 | t::I,u::us=>by simp [uX,ri t u,zKo I us]
 | [],u::us=>by simp [uX]
 | t::I,[]=>by simp [uX]
end
theorem zBI:∀ {l m:List Ty},l.length≠m.length->uX l m=false
 | [],[],h=>absurd rfl h
 | t::I,u::us,h=>by simp only [uX,zBI (l:=I) (m:=us) (by simpa using h),mf]
 | [],u::us,_=>rfl
 | t::I,[],_=>rfl
mutual
theorem zMa:∀ (t u:Ty) (d e:D),t.Is d->u.Is e->∀ (N:Nat) (Q:QT [.bool]),(∀ N',N<=N'->Q (tW t u) N')->ACalls prog 48 [.bool] [.dg 2 d,.dg 2 e] N Q
 | .mk k l,.mk k' l',d,e,hd,he,N,Q,J=>by
   simp only [Ty.Is] at hd he
   obtain ⟨a,es,c,rfl,h1,h2⟩:=hd
   obtain ⟨a',es',c',rfl,aj,ak⟩:=he
   simp only [tW] at J
   refine zIE N _ _ Q λ_ _=>⟨k,rfl,k',rfl,Br.of (λhc N' aa=>?_) λhc=>⟨a,es,c,rfl,a',es',c',rfl,λN1 ae=>?_⟩⟩
   ·have:=J N' aa
    have hk:(k==k')=false:=by simpa using hc
    rwa [hk,Bool.false_and] at this
   ·have hk:(k==k')=true:=by simpa using hc
    rw [hk] at J
    refine zQL l l' es es' h2 ak h1 aj a c a' c' N1 _ λN2 ah _=>Br.of (λhb N' aa=>?_) λhb N' aa=>?_
    ·have:=J N' (by omega)
     have O:uX l l'=false:=by simpa using hb
     rwa [O] at this
    ·have:=J N' (by omega)
     have O:uX l l'=true:=by simpa using hb
     rwa [O] at this
theorem zQL:∀ (l m:List Ty) (es fs:List D),TysIs l es->TysIs m fs->es.length<=4611686018427387904->fs.length<=4611686018427387904->∀ (a:Option Addr) (c:Nat) (b:Option Addr) (c' N:Nat) (Q:QT [.bool]),
  (∀ N',N<=N'->Q (uX l m) N')->ACalls prog 92 [.bool] [.sv a 2 es c,.sv b 2 fs c'] N Q
 | l,m,es,fs,he,hf,h1,h2,a,c,b,c',N,Q,J=>by
   have hl:=he.len
   have hm:=hf.len
   refine zGT N a es c b fs c' Q λ_ _=>Br.of (λhc N' aa=>?_) λhc=>?_
   ·have:=J N' aa
    rwa [zBI (by simp at hc;omega)] at this
   ·have:=zR8 l m es fs he hf [] [] (by simp at hc;omega) rfl (by simpa using h1) a c b c' N Q J N (oA _)
    simpa using this
theorem zR8:∀ (l m:List Ty) (es fs:List D),TysIs l es->TysIs m fs->∀ (pre I:List D),l.length=m.length->pre.length=I.length->(pre++es).length<=4611686018427387904->∀ (a:Option Addr) (c:Nat) (b:Option Addr) (c' N:Nat) (Q:QT [.bool]),
  (∀ N',N<=N'->Q (uX l m) N')->∀ N1,N<=N1->wv Q N a (pre++es) c b (I++fs) c' pre.length N1
 | [],[],es,fs,he,hf,pre,I,_,hp,h1,a,c,b,c',N,Q,J,N1,ae=>by
   simp [TysIs] at he hf
   subst he;subst hf
   refine qK _ _ _ _ _ _ _ _ _ _ (Br.of (λhc=>?_) λ_ N2 ah=>by have:=J N2 (by omega);rwa [uX] at this)
   have:=nP hc
   simp at this
 | t::ts,u::us,es,fs,he,hf,pre,I,ab,hp,h1,a,c,b,c',N,Q,J,N1,ae=>by
   simp only [TysIs] at he hf
   obtain ⟨d,ds,rfl,hd,al⟩:=he
   obtain ⟨x,xs,rfl,hx,am⟩:=hf
   have ac:(pre.length:Int)<((pre++d::ds).length:Int):=by simp;omega
   have ai:(pre.length:Int)<((I++x::xs).length:Int):=by simp;omega
   refine qK _ _ _ _ _ _ _ _ _ _ (Br.of (λ_=>⟨⟨by omega,ac⟩,⟨by omega,ai⟩,λN2 ah=>?_⟩) λhc=>absurd ac (nl hc))
   have e0:(I++x::xs).getD pre.length default=x:=by rw [hp];exact rM
   rw [oH,rM,e0]
   simp only [uX] at J
   refine zMa t u d x hd hx N2 _ λN3 ao _=>Br.of (λhb N' aa=>?_) λhb=>?_
   ·have:=J N' (by omega)
    have O:tW t u=false:=by simpa using hb
    rwa [O,Bool.false_and] at this
   ·have O:tW t u=true:=by simpa using hb
    rw [O] at J
    rw [i64_in _ (by simp at ac h1;omega)]
    have:=zR8 ts us ds xs al am (pre++[d]) (I++[x]) (by simpa using ab) (by simp [hp]) (by simpa using h1) a c b c' N Q (by simpa using J) N3 (by omega)
    have e1:((pre++[d]).length:Int)=(pre.length:Int)+1:=by simp
    rw [e1] at this
    simpa using this
 | [],u::us,es,fs,he,hf,pre,I,ab,_,_,_,_,_,_,_,_,_,_,_=>by simp at ab
 | t::ts,[],es,fs,he,hf,pre,I,ab,_,_,_,_,_,_,_,_,_,_,_=>by simp at ab
end
mutual
/-- what the laws' second look at marked types comes to -/
def zUg:Ty->Int->Int
 | .mk _ l,k=>sN l k
def sN:List Ty->Int->Int
 | [],k=>k
 | .mk kk l::I,k=>if kk≠k then -1 else if sN l (k+1)<0 then -1 else sN I (sN l (k+1))
end
mutual
theorem zVQ:∀ (t:Ty) (k:Int),0<=k->sN [(zOP t k).1] k=(zOP t k).2
 | .mk _ l,k,J=>by
   have I:=zHk l (k+1) (by omega)
   have O:=wb l (k+1)
   simp only [zOP,sN,I]
   rw [if_neg (by simp),if_neg (by omega)]
theorem zHk:∀ (l:List Ty) (k:Int),0<=k->sN (ze l k).1 k=(ze l k).2
 | [],k,_=>by simp [ze,sN]
 | .mk kk l::ts,k,J=>by
   have I:=zHk l (k+1) (by omega)
   have O:=wb l (k+1)
   have h3:=zHk ts (ze l (k+1)).2 (by omega)
   simp only [ze,zOP,sN,I,h3]
   rw [if_neg (by simp),if_neg (by omega)]
end
theorem zQE {A B:Prop}:Br true A B=A:=rfl
theorem zNM {A B:Prop}:Br false A B=B:=rfl
theorem Br.not {v:Bool} {A B:Prop} (I:v=false->A) (J:v=true->B):Br (!v) A B:=by
 cases v
 ·exact I rfl
 ·exact J rfl
theorem Br.dec {p:Prop} [Decidable p] {A B:Prop} (I:p->A) (J:¬p->B):Br (decide p) A B:=Br.of (λh=>I (nP h)) λh=>J (nl h)
theorem Br.ndec {p:Prop} [Decidable p] {A B:Prop} (I:¬p->A) (J:p->B):Br (!(decide p)) A B:=Br.not (λh=>I (nl h)) λh=>J (nP h)
theorem Br.beq {a b:Int} {A B:Prop} (I:a=b->A) (J:¬a=b->B):Br (a==b) A B:=Br.of (λh=>I (by simpa using h)) λh=>J (by simpa using h)
theorem Br.bne {a b:Int} {A B:Prop} (I:¬a=b->A) (J:a=b->B):Br (bne a b) A B:=Br.of (λh=>I (by simpa using h)) λh=>J (by simpa using h)
theorem zP5 {s t:ByteArray} (h:s.toList=t.toList):s=t:=by
 rw [ByteArray.toList_eq,ByteArray.toList_eq] at h
 cases s;cases t
 simpa using h
theorem ti {s t:ByteArray}:(s.toList==t.toList)=decide (s=t):=by
 by_cases h:s=t
 ·simp [h]
 ·have:¬s.toList=t.toList:=λhc=>h (zP5 hc)
  simp [h,this]
theorem Br.str {s t:ByteArray} {A B:Prop} (I:s=t->A) (J:¬s=t->B):Br (s.toList==t.toList) A B:=by rw [ti];exact Br.dec I J
theorem Br.nstr {s t:ByteArray} {A B:Prop} (I:¬s=t->A) (J:s=t->B):Br (!(s.toList==t.toList)) A B:=by rw [ti];exact Br.ndec I J
/-- returns this truth value -/
def vn (f:FuncId) (args:List PV) (b:Bool):Prop:=∀ (N:Nat) (Q:QT [.bool]),(∀ N',N<=N'->Q b N')->ACalls prog f [.bool] args N Q
/-- returns this number -/
def p9 (f:FuncId) (args:List PV) (n:Int):Prop:=∀ (N:Nat) (Q:QT [.i]),(∀ N',N<=N'->Q n N')->ACalls prog f [.i] args N Q
theorem Qi {Q:QT [.i]} {n m:Int} {N:Nat} (h:Q n N) (e:n=m):Q m N:=e ▸ h
theorem Qb {Q:QT [.bool]} {n m:Bool} {N:Nat} (h:Q n N) (e:n=m):Q m N:=e ▸ h
def All2 {α:Type} (R:α->D->Prop):List α->List D->Prop
 | [],es=>es=[]
 | t::I,es=>∃ d ds,es=d::ds/\R t d/\All2 R I ds
theorem All2.len {α:Type} {R:α->D->Prop}:∀ {l:List α} {es:List D},All2 R l es->es.length=l.length
 | [],es,h=>by cases h;rfl
 | t::J,es,⟨d,ds,I,_,h⟩=>by subst I;simp [h.len]
theorem All2.get {α:Type} {R:α->D->Prop}:∀ {l:List α} {es:List D} {i:Nat} {x:α},All2 R l es->l[i]?=some x->R x (es.getD i default)
 | [],es,i,x,h,I=>by simp at I
 | t::ts,es,i,x,⟨d,ds,J,O,h2⟩,I=>by
   subst J
   cases i with
   | zero=>simp at I;subst I;simpa [oB] using O
   | succ i=>simpa [oB] using h2.get (by simpa using I)
theorem All2.snoc {α:Type} {R:α->D->Prop}:∀ {l:List α} {es:List D} {t:α} {d:D},All2 R l es->R t d->All2 R (l++[t]) (es++[d])
 | [],es,t,d,h,I=>by cases h;exact ⟨d,[],rfl,I,rfl⟩
 | u::ts,es,t,d,⟨x,ds,J,O,h4⟩,I=>by subst J;exact ⟨x,ds++[d],rfl,O,h4.snoc I⟩
theorem All2.app {α:Type} {R:α->D->Prop}:∀ {l m:List α} {es fs:List D},All2 R l es->All2 R m fs->All2 R (l++m) (es++fs)
 | [],m,es,fs,h,I=>by cases h;exact I
 | u::ts,m,es,fs,⟨x,ds,J,O,h4⟩,I=>by subst J;exact ⟨x,ds++fs,rfl,O,h4.app I⟩
theorem All2.mono {α:Type} {R S:α->D->Prop} (I:∀ x d,R x d->S x d):∀ {l:List α} {es:List D},All2 R l es->All2 S l es
 | [],es,h=>h
 | u::ts,es,⟨x,ds,J,O,h4⟩=>⟨x,ds,J,I _ _ O,h4.mono I⟩
/-- the loop stands at this one -/
structure At {α:Type} (R:α->D->Prop) (l:List α) (es:List D) (i:Nat) (x:α):Prop where
 lt:decide ((i:Int)<(es.length:Int))=true
 b:(0:Int)<=(i:Int)/\(i:Int)<(es.length:Int)
 w:IntKind.i64.wrap ((i:Int)+1)=((i+1:Nat):Int)
 r:R x (es.getD i default)
 m:x∈l
 g:l[i]?=some x
theorem up {α:Type} {R:α->D->Prop} {l:List α} {es:List D} (h:All2 R l es) (hlen:es.length<=4611686018427387904) (P:Nat->List α->Prop)
  (O:∀ n:Nat,decide ((n:Int)<(es.length:Int))=false->n=es.length->P n []) (I:∀ (i:Nat) x xs,At R l es i x->l.drop (i+1)=xs->P (i+1) xs->P i (x::xs)):P 0 l:=by
 have hl:=h.len
 have key:∀ (rest pre:List α),l=pre++rest->P pre.length rest:=by
  intro rest
  induction rest with
  | nil=>
    intro pre J
    rw [oY] at J
    subst J
    exact O _ (by simp [hl]) hl.symm
  | cons x xs ih=>
    intro pre J
    have hi:l[pre.length]?=some x:=by rw [J];simp
    have aa:pre.length<l.length:=(oC.1 hi).1
    have hx:=h.get hi
    refine I pre.length x xs ⟨mu (by omega),⟨by omega,by omega⟩,?_,hx,by rw [J];simp,hi⟩ (by rw [J];simp) ?_
    ·rw [i64_in _ (by omega)];simp
    ·have:=ih (pre++[x]) (by rw [J];simp)
     simpa using this
 exact key l [] rfl
theorem uw:∀ {l:List Ty} {es:List D},TysIs l es->All2 Ty.Is l es
 | [],es,h=>by simp only [TysIs] at h;exact h
 | t::ts,es,h=>by
   simp only [TysIs] at h
   obtain ⟨d,ds,I,J,O⟩:=h
   exact ⟨d,ds,I,J,uw O⟩
theorem zEb:∀ {l:List Ty} {es:List D},All2 Ty.Is l es->TysIs l es
 | [],es,h=>by simp only [TysIs];exact h
 | t::ts,es,⟨d,ds,I,J,O⟩=>by
   simp only [TysIs]
   exact ⟨d,ds,I,J,zEb O⟩
def Ty.k:Ty->Int
 | .mk k _=>k
def Ty.as:Ty->List Ty
 | .mk _ l=>l
theorem Ty.is_mk {k:Int} {l:List Ty} {d:D}:(Ty.mk k l).Is d↔∃ a es c,d=.ag [.j k,.sl a 2 es c]/\es.length<=4611686018427387904/\All2 Ty.Is l es:=by
 simp only [Ty.Is]
 exact ⟨λ⟨a,es,c,I,J,O⟩=>⟨a,es,c,I,J,uw O⟩,λ⟨a,es,c,I,J,O⟩=>⟨a,es,c,I,J,zEb O⟩⟩
theorem Ty.ind {P:Ty->Prop} (h:∀ k l,(∀ t∈l,P t)->P (.mk k l)):∀ t,P t:=λt=>
 Ty.rec (motive_1:=P) (motive_2:=λl=>∀ t∈l,P t) (λk l I=>h k l I) (by simp) (λt l J O u hu=>by
  rcases oJ.1 hu with rfl | hu
  ·exact J
  ·exact O u hu) t
/-- what a branch's test says -/
class Dv (v:Bool) (P Q:outParam Prop):Prop where
 t:v=true->P
 f:v=false->Q
instance (priority:=100) dv9 {v:Bool}:Dv v (v=true) (v=false):=⟨id,id⟩
instance (priority:=500) dv4 {v:Bool}:Dv (!v) (v=false) (v=true):=⟨by simp,by simp⟩
instance dv1 {p:Prop} [Decidable p]:Dv (!(decide p)) (¬p) p:=⟨by simp,by simp⟩
instance dv2 {s t:ByteArray}:Dv (!(s.toList==t.toList)) (¬s=t) (s=t):=⟨by rw [ti];simp,by rw [ti];simp⟩
instance dv3 {a b:Int}:Dv (!(a==b)) (¬a=b) (a=b):=⟨by simp,by simp⟩
instance dv5 {p:Prop} [Decidable p]:Dv (decide p) p (¬p):=⟨by simp,by simp⟩
instance dv6 {s t:ByteArray}:Dv (s.toList==t.toList) (s=t) (¬s=t):=⟨by rw [ti];simp,by rw [ti];simp⟩
instance dv7 {a b:Int}:Dv (a==b) (a=b) (¬a=b):=⟨by simp,by simp⟩
instance dv8 {a b:Int}:Dv (bne a b) (¬a=b) (a=b):=⟨by simp,by simp⟩
theorem X {v:Bool} {P Q A B:Prop} [h:Dv v P Q] (I:P->A) (J:Q->B):Br v A B:=Br.of (λg=>I (h.t g)) λg=>J (h.f g)
theorem Y1:(!true)=false:=rfl
theorem Y2:(!false)=true:=rfl
theorem Y3 {A B:Prop}:Br true A B=A:=rfl
theorem Y4 {A B:Prop}:Br false A B=B:=rfl
end Go.Proofs.YtlahkdflngobiaaGreatDoor
