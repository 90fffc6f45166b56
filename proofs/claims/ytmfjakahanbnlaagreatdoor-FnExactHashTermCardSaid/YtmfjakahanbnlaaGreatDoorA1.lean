/- Data as plain trees, and what the laws' first look at them (their size) comes to. -/
import Derived.IntWalk
import Derived.Test.YtmfjakahanbnlaaGreatDoorKa
import Derived.Test.YtmfjakahanbnlaaGreatDoorJh
set_option linter.unusedVariables false
namespace Go.Proofs.YtmfjakahanbnlaaGreatDoor
open Go Go.Proofs Go.Proofs.Tryz Go.IntWalk
inductive Ty where
 | mk (k:Int) (l:List Ty)
mutual
/-- data that reads as this type -/
def Ty.Is:Ty->D->Prop
 | .mk k l,d=>∃ a es c,d=.ag [.lit (.int .i64 k),.sl a 2 es c]/\es.length<=4611686018427387904/\TysIs l es
def TysIs:List Ty->List D->Prop
 | [],es=>es=[]
 | t::ts,es=>∃ d ds,es=d::ds/\t.Is d/\TysIs ts ds
end
theorem TysIs.len:∀ {ts:List Ty} {es:List D},TysIs ts es->es.length=ts.length
 | [],es,h=>by simp [TysIs] at h;subst h;rfl
 | t::ts,es,h=>by
   simp only [TysIs] at h
   obtain ⟨d,ds,rfl,_,h⟩:=h
   simp [TysIs.len h]
mutual
def zA9:Ty->Int->Int
 | .mk _ l,n=>if n - l.length<0 then -1 else zEC l (n - l.length)
def zEC:List Ty->Int->Int
 | [],n=>n
 | t::ts,n=>if zA9 t n<0 then -1 else zEC ts (zA9 t n)
end
theorem Br.of {v:Bool} {A B:Prop} (ht:v=true->A) (hf:v=false->B):Br v A B:=by
 cases v
 ·exact hf rfl
 ·exact ht rfl
theorem zBj {pre ds:List D} {d:D}:(pre++d::ds).getD pre.length default=d:=by
 simp [oA]
mutual
theorem zDc:∀ (t:Ty) (n:Int),0<=n->zA9 t n = -1\/(0<=zA9 t n/\zA9 t n<=n)
 | .mk _ l,n,h=>by
   simp only [zA9]
   split
   ·exact .inl rfl
   ·rcases zF1 l (n - l.length) (by omega) with h | h
    ·exact .inl h
    ·exact .inr (by omega)
theorem zF1:∀ (l:List Ty) (n:Int),0<=n->zEC l n = -1\/(0<=zEC l n/\zEC l n<=n)
 | [],n,h=>.inr (by simp [zEC,h])
 | t :: ts,n,h=>by
   simp only [zEC]
   split
   ·exact .inl rfl
   ·rcases zDc t n h with h1 | h1
    ·omega
    ·rcases zF1 ts (zA9 t n) (by omega) with h2 | h2
     ·exact .inl h2
     ·exact .inr (by omega)
end
mutual
theorem zEa:∀ (t:Ty) (d:D),t.Is d->∀ (n:Int),0<=n->n<=1048576->∀ (N:Nat) (Q:QT [.int .i64]),(∀ N',N<=N'->Q (zA9 t n) N')->ACalls prog 44 [.int .i64] [.dg 2 d,.int .i64 n] N Q
 | .mk k l,d,hd,n,h0,h1,N,Q,hQ=>by
   simp only [Ty.Is] at hd
   obtain ⟨a,es,c,rfl,hlen,hts⟩:=hd
   refine zCF N _ n Q fun _=>⟨a,es,c,rfl,fun N1 hN1=>?_⟩
   refine zF5 l es hts hlen a c n h0 h1 N1 _ fun N2 hN2 _=>?_
   have hQ':=hQ
   simp only [zA9] at hQ'
   refine Br.of (fun hc N' hN'=>?_) fun hc N' hN'=>hQ' N' (by omega)
   have hneg:=nT hc
   have:=hQ' N' (by omega)
   rcases zDc (.mk k l) n h0 with h | h
   ·simp only [zA9] at h
    rwa [h] at this
   ·simp only [zA9] at h
    omega
theorem zF5:∀ (l:List Ty) (es:List D),TysIs l es->es.length<=4611686018427387904->∀ (a:Option Addr) (c:Nat) (n:Int),0<=n->n<=1048576->∀ (N:Nat) (Q:QT [.int .i64]),
  (∀ N',N<=N'->Q (if n - l.length<0 then -1 else zEC l (n - l.length)) N')->ACalls prog 105 [.int .i64] [.sv a 2 es c,.int .i64 n] N Q
 | l,es,hes,hlen,a,c,n,h0,h1,N,Q,hQ=>by
   have hl:=hes.len
   refine zAI N a es c n Q fun _=>?_
   rw [i64_in _ (by omega),hl]
   refine Br.of (fun hc N' hN'=>?_) fun hc=>?_
   ·have:=nT hc
    have:=hQ N' hN'
    rwa [if_pos (by omega)] at this
   ·have hneg:¬(n - l.length<0):=np hc
    have hgo:=zI0 l es hes [] es rfl hlen a c (n - l.length) (by omega) (by omega) N Q (fun N' hN'=>by have:=hQ N' hN';rwa [if_neg hneg] at this) N (oF _)
    exact hgo
theorem zI0:∀ (l:List Ty) (rest:List D),TysIs l rest->∀ (pre es:List D),es=pre++rest->es.length<=4611686018427387904->∀ (a:Option Addr) (c:Nat) (n:Int),0<=n->n<=1048576->∀ (N:Nat) (Q:QT [.int .i64]),
  (∀ N',N<=N'->Q (zEC l n) N')->∀ N',N<=N'->yy Q N a es c n pre.length N'
 | [],rest,hr,pre,es,he,hlen,a,c,n,h0,h1,N,Q,hQ,N',hN'=>by
   simp [TysIs] at hr
   subst hr
   rw [od] at he
   subst he
   refine vb Q N a es c n es.length N' (Br.of (fun hc=>?_) fun _ N2 hN2=>hQ N2 (by omega))
   have:=nT hc
   omega
 | t::ts,rest,hr,pre,es,he,hlen,a,c,n,h0,h1,N,Q,hQ,N',hN'=>by
   simp only [TysIs] at hr
   obtain ⟨d,ds,rfl,hd,hds⟩:=hr
   subst he
   have hlt:(pre.length:Int)<((pre++d::ds).length:Int):=by simp;omega
   refine vb Q N a _ c n pre.length N' (Br.of (fun _=>⟨⟨by omega,hlt⟩,fun N1 hN1=>?_⟩) fun hc=>absurd hlt (np hc))
   rw [oJ,zBj]
   refine zEa t d hd n h0 h1 N1 _ fun N2 hN2 _=>?_
   rw [i64_in _ (by simp at hlt hlen;omega)]
   have hQ':=hQ
   simp only [zEC] at hQ'
   refine Br.of (fun hc N3 hN3=>?_) fun hc=>?_
   ·have hneg:=nT hc
    have:=hQ' N3 (by omega)
    rwa [if_pos hneg] at this
   ·have hneg:¬(zA9 t n<0):=np hc
    have hle:zA9 t n<=n:=by rcases zDc t n h0 with h | h<;>omega
    have:=zI0 ts ds hds (pre++[d]) (pre++d::ds) (by simp) hlen a c (zA9 t n) (by omega) (by omega) N Q (fun N3 hN3=>by have:=hQ' N3 hN3;rwa [if_neg hneg] at this) N2 (by omega)
    have e1:((pre++[d]).length:Int)=(pre.length:Int)+1:=by simp
    rw [e1] at this
    exact this
end
/-- lies in blocks of its own, made between two moments -/
structure OwnL (N N':Nat) (es:List D):Prop where
 nd:(zM es).Nodup
 fl:xU es
 lo:∀ b∈zM es,N<=b
 hi:∀ b∈zM es,b<N'
structure Own (N N':Nat) (d:D):Prop where
 nd:d.foot.Nodup
 fl:d.Flat0
 lo:∀ b∈d.foot,N<=b
 hi:∀ b∈d.foot,b<N'
theorem Own.mono {N1 N2 M1 M2:Nat} {d:D} (h:Own N1 N2 d) (h1:M1<=N1) (h2:N2<=M2):Own M1 M2 d:=⟨h.nd,h.fl,fun b hb=>ol h1 (h.lo b hb),fun b hb=>ow (h.hi b hb) h2⟩
theorem OwnL.mono {N1 N2 M1 M2:Nat} {es:List D} (h:OwnL N1 N2 es) (h1:M1<=N1) (h2:N2<=M2):OwnL M1 M2 es:=⟨h.nd,h.fl,fun b hb=>ol h1 (h.lo b hb),fun b hb=>ow (h.hi b hb) h2⟩
theorem zBI {N N':Nat}:OwnL N N' []:=⟨by simp [zM],trivial,by simp [zM],by simp [zM]⟩
theorem yS:∀ {a b:List D},xU a->xU b->xU (a++b)
 | [],b,_,h=>h
 | x::a,b,h1,h2=>⟨h1.1,yS h1.2 h2⟩
theorem y3 {N N1 N2:Nat} {es fs:List D} (h1:OwnL N N1 es) (h2:OwnL N1 N2 fs) (hN:N<=N1) (hN2:N1<=N2):OwnL N N2 (es++fs):=by
 refine ⟨?_,yS h1.fl h2.fl,fun b hb=>?_,fun b hb=>?_⟩
 ·rw [zK,nq]
  refine ⟨h1.nd,h2.nd,fun x hx y hy hxy=>?_⟩
  have:=h1.hi x hx;have:=h2.lo y hy;omega
 ·rw [zK] at hb
  rcases oO.1 hb with hb | hb
  ·exact h1.lo b hb
  ·have:=h2.lo b hb;omega
 ·rw [zK] at hb
  rcases oO.1 hb with hb | hb
  ·have:=h1.hi b hb;omega
  ·exact h2.hi b hb
theorem xe {N N':Nat} {d:D} (h:Own N N' d):OwnL N N' [d]:=⟨by simpa [zM] using h.nd,⟨h.fl,trivial⟩,by simpa [zM] using h.lo,by simpa [zM] using h.hi⟩
theorem vL {N N':Nat} {x:Value} {es:List D} (h:OwnL N N' es):OwnL N N' (.lit x::es):=⟨by simpa [zM,D.foot] using h.nd,⟨trivial,h.fl⟩,by simpa [zM,D.foot] using h.lo,by simpa [zM,D.foot] using h.hi⟩
theorem zE3 {N N':Nat} {cs:List D} (h:OwnL N N' cs):Own N N' (.ag cs):=⟨by simpa only [D.foot] using h.nd,h.fl,by simpa only [D.foot] using h.lo,by simpa only [D.foot] using h.hi⟩
theorem zDC {N N1 N3:Nat} {a:Option Addr} {z c:Nat} {es ds:List D} (h:OwnL N N1 es) (hf:Fresh N N3 a (.ag es::ds)) (hN:N1<=N3):Own N N3 (.sl a z es c):=by
 cases a with
 | none=>exact ⟨by simpa only [D.foot] using h.nd,⟨by simp,h.fl⟩,by simpa only [D.foot] using h.lo,fun b hb=>by simp only [D.foot] at hb;have:=h.hi b hb;omega⟩
 | some ad=>
   have hap:=hf.ap ad rfl (.ag es) (by simp)
   simp only [D.foot] at hap
   have hsub:∀ b∈(D.sl (some ad) z es c).foot,b=ad.block\/b∈zM es:=fun b hb=>by
    simp only [D.foot] at hb
    split at hb
    ·simp at hb
    ·exact oI.1 hb
   refine ⟨?_,⟨fun ad' h'=>by cases h';exact hf.off ad rfl,h.fl⟩,fun b hb=>?_,fun b hb=>?_⟩
   ·simp only [D.foot]
    split
    ·exact mA
    ·exact nP.2 ⟨hap,h.nd⟩
   ·rcases hsub b hb with rfl | hb
    ·exact hf.lo ad rfl
    ·exact h.lo b hb
   ·rcases hsub b hb with rfl | hb
    ·exact hf.hi ad rfl
    ·have:=h.hi b hb;omega
mutual
/-- few enough for a copy -/
def Ty.Sm:Ty->Prop
 | .mk _ l=>l.length<=1073741824/\zHO l
def zHO:List Ty->Prop
 | []=>True
 | t::ts=>t.Sm/\zHO ts
end
theorem TysIs.snoc:∀ {ts:List Ty} {es:List D} {t:Ty} {d:D},TysIs ts es->t.Is d->TysIs (ts++[t]) (es++[d])
 | [],es,t,d,h,h2=>by simp [TysIs] at h;subst h;exact ⟨d,[],rfl,h2,rfl⟩
 | u::ts,es,t,d,h,h2=>by
   simp only [TysIs] at h
   obtain ⟨x,ds,rfl,h3,h4⟩:=h
   exact ⟨x,ds++[d],rfl,h3,TysIs.snoc h4 h2⟩
theorem zI1 {done junk:List D} {x y:D}:(done++y::junk).set done.length x=done++x::junk:=by simp
mutual
theorem zE5:∀ (t:Ty) (d:D),t.Is d->t.Sm->∀ (N:Nat) (Q:QT [.ag 2]),(∀ d' N',N<=N'->t.Is d'->Own N N' d'->Q d' N')->ACalls prog 48 [.ag 2] [.dg 2 d] N Q
 | .mk k l,d,hd,hs,N,Q,hQ=>by
   simp only [Ty.Is] at hd
   obtain ⟨a,es,c,rfl,hlen,hts⟩:=hd
   refine zBY N _ Q fun _=>⟨k,rfl,a,es,c,rfl,fun N1 hN1=>zHK l es hts hlen hs.1 hs.2 a c N1 _ fun a' es' c' N2 hN2 h1 h2 h3 _ _ N3 hN3=>?_⟩
   exact hQ _ N3 (by omega) ⟨a',es',c',rfl,h2,h1⟩ (zE3 (vL (xe (h3.mono hN1 hN3))))
theorem zHK:∀ (l:List Ty) (es:List D),TysIs l es->es.length<=4611686018427387904->l.length<=1073741824->zHO l->∀ (a:Option Addr) (c:Nat) (N:Nat) (Q:QT [.sl 2]),
  (∀ a' es' c' N',N<=N'->TysIs l es'->es'.length<=4611686018427387904->Own N N' (.sl a' 2 es' c')->Q a' es' c' N')->ACalls prog 110 [.sl 2] [.sv a 2 es c] N Q
 | l,es,hes,hlen,hll,hs,a,c,N,Q,hQ=>by
   have hl:=hes.len
   refine p4 N a es c Q fun _=>⟨⟨by omega,by omega,by omega,by omega⟩,?_⟩
   rw [oJ]
   have:=zIr l es hes hs [] [] [] (by simp [TysIs]) rfl (by simpa using hlen) a c N Q (by simpa using hQ) es.length N (List.replicate es.length (.ag [.lit (.int .i64 0),.sl none 2 [] 0])) (oF _) zBI (by simp)
   simpa using this
theorem zIr:∀ (l:List Ty) (rest:List D),TysIs l rest->zHO l->∀ (tdone:List Ty) (pre done:List D),TysIs tdone done->done.length=pre.length->(pre++rest).length<=4611686018427387904->∀ (a:Option Addr) (c N:Nat) (Q:QT [.sl 2]),
  (∀ a' es' c' N',N<=N'->TysIs (tdone++l) es'->es'.length<=4611686018427387904->Own N N' (.sl a' 2 es' c')->Q a' es' c' N')->∀ (q N1:Nat) (junk:List D),N<=N1->OwnL N N1 done->junk.length=rest.length ->
  yw Q N a (pre++rest) c (pre++rest).length q pre.length (done++junk) q N1
 | [],rest,hr,_,tdone,pre,done,hd,hdl,hlen,a,c,N,Q,hQ,q,N1,junk,hN1,hown,hj=>by
   simp [TysIs] at hr
   subst hr
   have:junk=[]:=oX (by simpa using hj)
   subst this
   rw [od] at *
   rw [od]
   refine vS _ _ _ _ _ _ _ _ _ _ _ (Br.of (fun hc=>?_) fun _=>?_)
   ·have:=nT hc;omega
   ·exact ⟨⟨hdl.symm,rfl⟩,⟨hdl.symm,rfl⟩,⟨hdl.symm,rfl⟩,fun a' N3 hN3 hf N4 hN4=>hQ a' done q N4 (by omega) hd (by omega) ((zDC hown hf hN3).mono (oF _) hN4)⟩
 | t :: ts,rest,hr,hs,tdone,pre,done,hd,hdl,hlen,a,c,N,Q,hQ,q,N1,junk,hN1,hown,hj=>by
   simp only [TysIs] at hr
   obtain ⟨d,ds,rfl,hdi,hds⟩:=hr
   cases junk with
   | nil=>simp at hj
   | cons y junk=>
     have hlt:(pre.length:Int)<((pre++d::ds).length:Int):=by simp;omega
     have hlt2:pre.length<(done++y::junk).length:=by simp;omega
     refine vS _ _ _ _ _ _ _ _ _ _ _ (Br.of (fun _=>⟨⟨by omega,hlt⟩,fun N2 hN2=>?_⟩) fun hc=>absurd hlt (np hc))
     rw [oJ,zBj]
     refine zE5 t d hdi hs.1 N2 _ fun x N3 hN3 hx hxo _ _=>?_
     rw [nE]
     refine ⟨⟨by omega,hlt,hlt2⟩,hlt2,?_⟩
     rw [i64_in _ (by simp at hlt hlen;omega),<-hdl,zI1]
     have:=zIr ts ds hds hs.2 (tdone++[t]) (pre++[d]) (done++[x]) (hd.snoc hx) (by simp [hdl]) (by simpa using hlen) a c N Q (by simpa using hQ) q N3 junk (by omega)
      (y3 (hown.mono (oF _) hN2) (xe hxo) (by omega) hN3) (by simpa using hj)
     have e1:((pre++[d]).length:Int)=(done.length:Int)+1:=by simp [hdl]
     rw [e1] at this
     simpa using this
end
mutual
def Ty.cnt:Ty->Nat
 | .mk _ l=>1+yb l
def yb:List Ty->Nat
 | []=>0
 | t::ts=>t.cnt+yb ts
end
mutual
def zE2:Ty->Ty->Bool
 | .mk k l,.mk k' l'=>k==k'&&wo l l'
def wo:List Ty->List Ty->Bool
 | [],[]=>true
 | t::ts,u::us=>zE2 t u&&wo ts us
 | _,_=>false
end
mutual
theorem zB7:∀ (t u:Ty),zE2 t u=true↔t=u
 | .mk k l,.mk k' l'=>by simp [zE2,zDD l l']
theorem zDD:∀ (l m:List Ty),wo l m=true↔l=m
 | [],[]=>by simp [wo]
 | t::ts,u::us=>by simp [wo,zB7 t u,zDD ts us]
 | [],u::us=>by simp [wo]
 | t::ts,[]=>by simp [wo]
end
theorem pn:∀ {l m:List Ty},l.length≠m.length->wo l m=false
 | [],[],h=>absurd rfl h
 | t::ts,u::us,h=>by simp only [wo,pn (l:=ts) (m:=us) (by simpa using h),Bool.and_false]
 | [],u::us,_=>rfl
 | t::ts,[],_=>rfl
mutual
theorem zEm:∀ (t u:Ty) (d e:D),t.Is d->u.Is e->∀ (N:Nat) (Q:QT [.bool]),(∀ N',N<=N'->Q (zE2 t u) N')->ACalls prog 53 [.bool] [.dg 2 d,.dg 2 e] N Q
 | .mk k l,.mk k' l',d,e,hd,he,N,Q,hQ=>by
   simp only [Ty.Is] at hd he
   obtain ⟨a,es,c,rfl,h1,h2⟩:=hd
   obtain ⟨a',es',c',rfl,h1',h2'⟩:=he
   simp only [zE2] at hQ
   refine zBQ N _ _ Q fun _ _=>⟨k,rfl,k',rfl,Br.of (fun hc N' hN'=>?_) fun hc=>⟨a,es,c,rfl,a',es',c',rfl,fun N1 hN1=>?_⟩⟩
   ·have:=hQ N' hN'
    have hk:(k==k')=false:=by simpa using hc
    rwa [hk,Bool.false_and] at this
   ·have hk:(k==k')=true:=by simpa using hc
    rw [hk] at hQ
    refine zG3 l l' es es' h2 h2' h1 h1' a c a' c' N1 _ fun N2 hN2 _=>Br.of (fun hb N' hN'=>?_) fun hb N' hN'=>?_
    ·have:=hQ N' (by omega)
     have hb':wo l l'=false:=by simpa using hb
     rwa [hb'] at this
    ·have:=hQ N' (by omega)
     have hb':wo l l'=true:=by simpa using hb
     rwa [hb'] at this
theorem zG3:∀ (l m:List Ty) (es fs:List D),TysIs l es->TysIs m fs->es.length<=4611686018427387904->fs.length<=4611686018427387904->∀ (a:Option Addr) (c:Nat) (b:Option Addr) (c' N:Nat) (Q:QT [.bool]),
  (∀ N',N<=N'->Q (wo l m) N')->ACalls prog 118 [.bool] [.sv a 2 es c,.sv b 2 fs c'] N Q
 | l,m,es,fs,he,hf,h1,h2,a,c,b,c',N,Q,hQ=>by
   have hl:=he.len
   have hm:=hf.len
   refine p9 N a es c b fs c' Q fun _ _=>Br.of (fun hc N' hN'=>?_) fun hc=>?_
   ·have:=hQ N' hN'
    rwa [pn (by simp at hc;omega)] at this
   ·have:=zI2 l m es fs he hf [] [] (by simp at hc;omega) rfl (by simpa using h1) a c b c' N Q hQ N (oF _)
    simpa using this
theorem zI2:∀ (l m:List Ty) (es fs:List D),TysIs l es->TysIs m fs->∀ (pre qre:List D),l.length=m.length->pre.length=qre.length->(pre++es).length<=4611686018427387904->∀ (a:Option Addr) (c:Nat) (b:Option Addr) (c' N:Nat) (Q:QT [.bool]),
  (∀ N',N<=N'->Q (wo l m) N')->∀ N1,N<=N1->yu Q N a (pre++es) c b (qre++fs) c' pre.length N1
 | [],[],es,fs,he,hf,pre,qre,_,hp,h1,a,c,b,c',N,Q,hQ,N1,hN1=>by
   simp [TysIs] at he hf
   subst he;subst hf
   refine vY _ _ _ _ _ _ _ _ _ _ (Br.of (fun hc=>?_) fun _ N2 hN2=>by have:=hQ N2 (by omega);rwa [wo] at this)
   have:=nT hc
   simp at this
 | t::ts,u::us,es,fs,he,hf,pre,qre,hlm,hp,h1,a,c,b,c',N,Q,hQ,N1,hN1=>by
   simp only [TysIs] at he hf
   obtain ⟨d,ds,rfl,hd,hds⟩:=he
   obtain ⟨x,xs,rfl,hx,hxs⟩:=hf
   have hlt:(pre.length:Int)<((pre++d::ds).length:Int):=by simp;omega
   have hlt2:(pre.length:Int)<((qre++x::xs).length:Int):=by simp;omega
   refine vY _ _ _ _ _ _ _ _ _ _ (Br.of (fun _=>⟨⟨by omega,hlt⟩,⟨by omega,hlt2⟩,fun N2 hN2=>?_⟩) fun hc=>absurd hlt (np hc))
   have e0:(qre++x::xs).getD pre.length default=x:=by rw [hp];exact zBj
   rw [oJ,zBj,e0]
   simp only [wo] at hQ
   refine zEm t u d x hd hx N2 _ fun N3 hN3 _=>Br.of (fun hb N' hN'=>?_) fun hb=>?_
   ·have:=hQ N' (by omega)
    have hb':zE2 t u=false:=by simpa using hb
    rwa [hb',Bool.false_and] at this
   ·have hb':zE2 t u=true:=by simpa using hb
    rw [hb'] at hQ
    rw [i64_in _ (by simp at hlt h1;omega)]
    have:=zI2 ts us ds xs hds hxs (pre++[d]) (qre++[x]) (by simpa using hlm) (by simp [hp]) (by simpa using h1) a c b c' N Q (by simpa using hQ) N3 (by omega)
    have e1:((pre++[d]).length:Int)=(pre.length:Int)+1:=by simp
    rw [e1] at this
    simpa using this
 | [],u::us,es,fs,he,hf,pre,qre,hlm,_,_,_,_,_,_,_,_,_,_,_=>by simp at hlm
 | t::ts,[],es,fs,he,hf,pre,qre,hlm,_,_,_,_,_,_,_,_,_,_,_=>by simp at hlm
end
theorem Br.not {v:Bool} {A B:Prop} (ht:v=false->A) (hf:v=true->B):Br (!v) A B:=by
 cases v
 ·exact ht rfl
 ·exact hf rfl
theorem Br.dec {p:Prop} [Decidable p] {A B:Prop} (ht:p->A) (hf:¬p->B):Br (decide p) A B:=Br.of (fun h=>ht (nT h)) fun h=>hf (np h)
theorem Br.ndec {p:Prop} [Decidable p] {A B:Prop} (ht:¬p->A) (hf:p->B):Br (!(decide p)) A B:=Br.not (fun h=>ht (np h)) fun h=>hf (nT h)
theorem Br.beq {a b:Int} {A B:Prop} (ht:a=b->A) (hf:¬a=b->B):Br (a==b) A B:=Br.of (fun h=>ht (by simpa using h)) fun h=>hf (by simpa using h)
theorem Br.bne {a b:Int} {A B:Prop} (ht:¬a=b->A) (hf:a=b->B):Br (bne a b) A B:=Br.of (fun h=>ht (by simpa using h)) fun h=>hf (by simpa using h)
theorem zG4 {s t:ByteArray} (h:s.toList=t.toList):s=t:=by
 rw [ByteArray.toList_eq,ByteArray.toList_eq] at h
 cases s;cases t
 simpa using h
theorem wc {s t:ByteArray}:(s.toList==t.toList)=decide (s=t):=by
 by_cases h:s=t
 ·simp [h]
 ·have:¬s.toList=t.toList:=fun hc=>h (zG4 hc)
  simp [h,this]
theorem Br.str {s t:ByteArray} {A B:Prop} (ht:s=t->A) (hf:¬s=t->B):Br (s.toList==t.toList) A B:=by rw [wc];exact Br.dec ht hf
theorem Br.nstr {s t:ByteArray} {A B:Prop} (ht:¬s=t->A) (hf:s=t->B):Br (!(s.toList==t.toList)) A B:=by rw [wc];exact Br.ndec ht hf
/-- returns this truth value -/
def tW (f:FuncId) (args:List PV) (b:Bool):Prop:=∀ (N:Nat) (Q:QT [.bool]),(∀ N',N<=N'->Q b N')->ACalls prog f [.bool] args N Q
/-- returns this number -/
def zCJ (f:FuncId) (args:List PV) (n:Int):Prop:=∀ (N:Nat) (Q:QT [.int .i64]),(∀ N',N<=N'->Q n N')->ACalls prog f [.int .i64] args N Q
theorem Qi {Q:QT [.int .i64]} {n m:Int} {N:Nat} (h:Q n N) (e:n=m):Q m N:=e ▸ h
theorem Qb {Q:QT [.bool]} {n m:Bool} {N:Nat} (h:Q n N) (e:n=m):Q m N:=e ▸ h
def All2 {α:Type} (R:α->D->Prop):List α->List D->Prop
 | [],es=>es=[]
 | t::ts,es=>∃ d ds,es=d::ds/\R t d/\All2 R ts ds
theorem All2.len {α:Type} {R:α->D->Prop}:∀ {l:List α} {es:List D},All2 R l es->es.length=l.length
 | [],es,h=>by cases h;rfl
 | t::ts,es,⟨d,ds,he,_,h⟩=>by subst he;simp [h.len]
theorem All2.get {α:Type} {R:α->D->Prop}:∀ {l:List α} {es:List D} {i:Nat} {x:α},All2 R l es->l[i]?=some x->R x (es.getD i default)
 | [],es,i,x,h,hx=>by simp at hx
 | t::ts,es,i,x,⟨d,ds,he,h1,h2⟩,hx=>by
   subst he
   cases i with
   | zero=>simp at hx;subst hx;simpa [oA] using h1
   | succ i=>simpa [oA] using h2.get (by simpa using hx)
theorem All2.snoc {α:Type} {R:α->D->Prop}:∀ {l:List α} {es:List D} {t:α} {d:D},All2 R l es->R t d->All2 R (l++[t]) (es++[d])
 | [],es,t,d,h,h2=>by cases h;exact ⟨d,[],rfl,h2,rfl⟩
 | u::ts,es,t,d,⟨x,ds,he,h3,h4⟩,h2=>by subst he;exact ⟨x,ds++[d],rfl,h3,h4.snoc h2⟩
theorem All2.mono {α:Type} {R S:α->D->Prop} (hRS:∀ x d,R x d->S x d):∀ {l:List α} {es:List D},All2 R l es->All2 S l es
 | [],es,h=>h
 | u::ts,es,⟨x,ds,he,h3,h4⟩=>⟨x,ds,he,hRS _ _ h3,h4.mono hRS⟩
/-- the loop stands at this one -/
structure At {α:Type} (R:α->D->Prop) (l:List α) (es:List D) (i:Nat) (x:α):Prop where
 lt:decide ((i:Int)<(es.length:Int))=true
 b:(0:Int)<=(i:Int)/\(i:Int)<(es.length:Int)
 w:IntKind.i64.wrap ((i:Int)+1)=((i+1:Nat):Int)
 r:R x (es.getD i default)
 m:x∈l
 g:l[i]?=some x
theorem up {α:Type} {R:α->D->Prop} {l:List α} {es:List D} (h:All2 R l es) (hlen:es.length<=4611686018427387904) (P:Nat->List α->Prop)
  (hnil:∀ n:Nat,decide ((n:Int)<(es.length:Int))=false->n=es.length->P n []) (hcons:∀ (i:Nat) x xs,At R l es i x->l.drop (i+1)=xs->P (i+1) xs->P i (x::xs)):P 0 l:=by
 have hl:=h.len
 have key:∀ (rest pre:List α),l=pre++rest->P pre.length rest:=by
  intro rest
  induction rest with
  | nil=>
    intro pre hp
    rw [od] at hp
    subst hp
    exact hnil _ (by simp [hl]) hl.symm
  | cons x xs ih=>
    intro pre hp
    have hi:l[pre.length]?=some x:=by rw [hp];simp
    have hlt:pre.length<l.length:=(oB.1 hi).1
    have hx:=h.get hi
    refine hcons pre.length x xs ⟨decide_eq_true (by omega),⟨by omega,by omega⟩,?_,hx,by rw [hp];simp,hi⟩ (by rw [hp];simp) ?_
    ·rw [i64_in _ (by omega)];simp
    ·have:=ih (pre++[x]) (by rw [hp];simp)
     simpa using this
 exact key l [] rfl
theorem zEb:∀ {l:List Ty} {es:List D},TysIs l es->All2 Ty.Is l es
 | [],es,h=>by simp only [TysIs] at h;exact h
 | t::ts,es,h=>by
   simp only [TysIs] at h
   obtain ⟨d,ds,h1,h2,h3⟩:=h
   exact ⟨d,ds,h1,h2,zEb h3⟩
theorem zEi:∀ {l:List Ty} {es:List D},All2 Ty.Is l es->TysIs l es
 | [],es,h=>by simp only [TysIs];exact h
 | t::ts,es,⟨d,ds,h1,h2,h3⟩=>by
   simp only [TysIs]
   exact ⟨d,ds,h1,h2,zEi h3⟩
def Ty.k:Ty->Int
 | .mk k _=>k
def Ty.as:Ty->List Ty
 | .mk _ l=>l
theorem Ty.is_mk {k:Int} {l:List Ty} {d:D}:(Ty.mk k l).Is d↔∃ a es c,d=.ag [.lit (.int .i64 k),.sl a 2 es c]/\es.length<=4611686018427387904/\All2 Ty.Is l es:=by
 simp only [Ty.Is]
 exact ⟨fun ⟨a,es,c,h1,h2,h3⟩=>⟨a,es,c,h1,h2,zEb h3⟩,fun ⟨a,es,c,h1,h2,h3⟩=>⟨a,es,c,h1,h2,zEi h3⟩⟩
theorem Ty.ind {P:Ty->Prop} (h:∀ k l,(∀ t∈l,P t)->P (.mk k l)):∀ t,P t:=fun t=>
 Ty.rec (motive_1:=P) (motive_2:=fun l=>∀ t∈l,P t) (fun k l ih=>h k l ih) (by simp) (fun t l h1 h2 u hu=>by
  rcases oI.1 hu with rfl | hu
  ·exact h1
  ·exact h2 u hu) t
/-- what a branch's test says -/
class Dv (v:Bool) (P Q:outParam Prop):Prop where
 t:v=true->P
 f:v=false->Q
instance (priority:=100) dv9 {v:Bool}:Dv v (v=true) (v=false):=⟨id,id⟩
instance (priority:=500) dv4 {v:Bool}:Dv (!v) (v=false) (v=true):=⟨by simp,by simp⟩
instance dv1 {p:Prop} [Decidable p]:Dv (!(decide p)) (¬p) p:=⟨by simp,by simp⟩
instance dv2 {s t:ByteArray}:Dv (!(s.toList==t.toList)) (¬s=t) (s=t):=⟨by rw [wc];simp,by rw [wc];simp⟩
instance dv3 {a b:Int}:Dv (!(a==b)) (¬a=b) (a=b):=⟨by simp,by simp⟩
instance dv5 {p:Prop} [Decidable p]:Dv (decide p) p (¬p):=⟨by simp,by simp⟩
instance dv6 {s t:ByteArray}:Dv (s.toList==t.toList) (s=t) (¬s=t):=⟨by rw [wc];simp,by rw [wc];simp⟩
instance dv7 {a b:Int}:Dv (a==b) (a=b) (¬a=b):=⟨by simp,by simp⟩
instance dv8 {a b:Int}:Dv (bne a b) (¬a=b) (a=b):=⟨by simp,by simp⟩
theorem X {v:Bool} {P Q A B:Prop} [h:Dv v P Q] (ht:P->A) (hf:Q->B):Br v A B:=Br.of (fun g=>ht (h.t g)) fun g=>hf (h.f g)
theorem Y1:(!true)=false:=rfl
theorem Y2:(!false)=true:=rfl
theorem Y3 {A B:Prop}:Br true A B=A:=rfl
theorem Y4 {A B:Prop}:Br false A B=B:=rfl
end Go.Proofs.YtmfjakahanbnlaaGreatDoor
