/- Substitution: how deep, how great (no program in sight). -/
import Derived.Test.YtkdjhkfiolhkiaaGreatXa
import Derived.Test.YtkdjhkfiolhkiaaGreatXf
import Derived.Test.YtkdjhkfiolhkiaaGreatKf
set_option linter.unusedVariables false
set_option linter.unusedSimpArgs false
namespace Go.Proofs.YtkdjhkfiolhkiaaGreat
open Go Go.Proofs Go.Proofs.Tryz Go.IntWalk
mutual
/-- variables have no parts -/
def Tm.V:Tm->Prop
 | .mk k _ _ _ _ _ l=>(k=1->l=[])/\zOJ l
def zOJ:List Tm->Prop
 | []=>True
 | t::ts=>t.V/\zOJ ts
end
theorem vv:∀ {l:List Tm},zOJ l↔∀ x∈l,x.V
 | []=>by simp [zOJ]
 | t::ts=>by simp only [zOJ,vv (l:=ts),oG,mn]
theorem uz:∀ {l:List Tm} {n:Nat},t7 l<=n↔∀ x∈l,x.dp<=n
 | [],n=>by simp [t7]
 | t::ts,n=>by simp only [t7,Nat.max_le,uz (l:=ts),oG,mn]
theorem Tm.dp_pos (t:Tm):1<=t.dp:=by cases t;simp only [Tm.dp];omega
/-- no greater, no deeper -/
structure LeT (t' t:Tm):Prop where
 c:t'.vc<=t.vc
 d:t'.dp<=t.dp
 v:t.V->t'.V
 g:t.G->t'.G
 s:t'.sz<=t.sz
 n:t'.cnt<=t.cnt
theorem LeT.rfl {t:Tm}:LeT t t:=⟨oD _,oD _,id,id,oD _,oD _⟩
theorem LeT.trans {a b c:Tm} (h:LeT a b) (h':LeT b c):LeT a c:=⟨oS h.c h'.c,oS h.d h'.d,fun hv=>h.v (h'.v hv),fun hv=>h.g (h'.g hv),oS h.s h'.s,oS h.n h'.n⟩
theorem zJM:∀ {l' l:List Tm},l'.length=l.length->(∀ (i:Nat) (t' t:Tm),l'[i]?=some t'->l[i]?=some t->LeT t' t)->wT l'<=wT l/\t7 l'<=t7 l/\(zOJ l->zOJ l')/\(zJa l->zJa l')/\za l'<=za l/\zI l'<=zI l
 | [],[],_,_=>⟨oD _,oD _,id,id,oD _,oD _⟩
 | [],_::_,h,_=>by simp at h
 | _::_,[],h,_=>by simp at h
 | t'::ts',t::ts,h,hr=>by
   obtain ⟨h1,h2,h3,h4,h5,h6⟩:=zJM (l':=ts') (l:=ts) (by simpa using h) fun i a b ha hb=>hr (i+1) a b (by simpa using ha) (by simpa using hb)
   have h0:=hr 0 t' t (by simp) (by simp)
   have:=h0.c
   have:=h0.d
   have:=h0.s
   have:=h0.n
   refine ⟨by simp only [wT];omega,by simp only [t7];omega,fun hv=>⟨h0.v hv.1,h3 hv.2⟩,fun hv=>⟨h0.g hv.1,h4 hv.2⟩,by simp only [za];omega,by simp only [zI];omega⟩
theorem zF1 {l:List Tm} {g:Tm->Tm} {j:Nat} {v t' t:Tm} {i:Nat} (h:((l.map g).set j v)[i]?=some t') (ht:l[i]?=some t):(i=j/\t'=v)\/(i≠j/\t'=g t):=by
 rw [nC] at h
 split at h
 ·rename_i hj
  split at h
  ·exact .inl ⟨hj.symm,(oT h).symm⟩
  ·cases h
 ·rename_i hj
  rw [oE,ht] at h
  exact .inr ⟨fun hc=>hj hc.symm,(oT h).symm⟩
theorem zLH {k:Int} {nm ot nm' ot':ByteArray} {n:Int} {ty re:Ty} {l l':List Tm} (hk:k≠1) (h:l'.length=l.length) (hr:∀ (i:Nat) (t' t:Tm),l'[i]?=some t'->l[i]?=some t->LeT t' t):LeT (.mk k nm' ot' n ty re l') (.mk k nm ot n ty re l):=by
 obtain ⟨h1,h2,h3,h4,h5,h6⟩:=zJM h hr
 exact ⟨by simp only [Tm.vc,if_neg hk];omega,by simp only [Tm.dp];omega,fun hv=>⟨fun hc=>absurd hc hk,h3 hv.2⟩,fun hv=>⟨hv.1,hv.2.1,h ▸ hv.2.2.1,h4 hv.2.2.2⟩,by simp only [Tm.sz];omega,by simp only [Tm.cnt];omega⟩
theorem zIP {S:Tm->ByteArray->Tm->Tm} (hS:∀ t x y,LeT (S t x (zCX y)) t) (k:Int) (n:Nat) (fb:List ByteArray) (x old:ByteArray) (s:ByteArray × ByteArray × Tm):LeT (rn1 S k n fb x old s).2.2 s.2.2:=by
 unfold rn1
 split
 ·split
  ·exact hS _ _ _
  ·exact hS _ _ _
 ·exact LeT.rfl
theorem u5 {S:Tm->ByteArray->Tm->Tm} (hS:∀ t x y,LeT (S t x (zCX y)) t) (k:Int) (n:Nat) (fb:List ByteArray) (x:ByteArray):∀ (l:List ByteArray) (s:ByteArray × ByteArray × Tm),LeT (rns S k n fb x l s).2.2 s.2.2
 | [],s=>LeT.rfl
 | old::l,s=>(u5 hS k n fb x l _).trans (zIP hS k n fb x old s)
/-- a name put for a name -/
theorem wy:∀ (f:Nat) (t:Tm) (x y:ByteArray),LeT (t.sub f x (zCX y)) t
 | 0,t,x,y=>by simp only [Tm.sub];exact LeT.rfl
 | f + 1,.mk k nm ot n ty re l,x,y=>by
   have ih:=wy f
   simp only [Tm.sub]
   split
   ·rename_i hk
    split
    ·exact ⟨by simp only [zCX,Tm.vc,if_pos hk,md];exact oD _,by simp only [zCX,Tm.dp,t7];omega,fun _=>⟨fun _=>rfl,trivial⟩,fun _=>by simp [zCX,Tm.G,zJa,Ty.cnt,zT],by simp only [zCX,Tm.sz,za];omega,by have:=Ty.cnt_pos ty;have:=Ty.cnt_pos re;simp only [zCX,Tm.cnt,zI,Ty.cnt,zT];omega⟩
    ·exact LeT.rfl
   ·rename_i hk
    split
    ·refine zLH hk (by simp) fun i t' t ht' ht=>?_
     rw [oE,ht] at ht'
     cases ht'
     exact ih t x y
    ·rename_i hb
     obtain ⟨g1,g2⟩:=wx hb
     split
     ·refine zLH hk (by simp) fun i t' t ht' ht=>?_
      rcases zF1 ht' ht with ⟨h1,h2⟩ | ⟨h1,h2⟩
      ·rw [h1,zo g1] at ht
       rw [h2,<-oT ht]
       exact LeT.rfl
      ·rw [h2];exact ih t x y
     ·refine zLH hk (by simp) fun i t' t ht' ht=>?_
      rcases zF1 ht' ht with ⟨h1,h2⟩ | ⟨h1,h2⟩
      ·rw [h1,zo g1] at ht
       rw [h2,<-oT ht]
       exact (ih _ x y).trans (u5 ih _ _ _ _ _ _)
      ·rw [h2];exact ih t x y
/-- what holds of each node of what is put in -/
theorem zPY:∀ (f:Nat) (t:Tm) (x:ByteArray) (b:Tm),t.G->b.G->(t.sub f x b).G
 | 0,t,x,b,h,_=>by simp only [Tm.sub];exact h
 | f + 1,.mk k nm ot n ty re l,x,b,h,hb=>by
   have ih:=zPY f
   obtain ⟨h1,h2,h3,h4⟩:=h
   have vG:∀ y,(zCX y).G:=fun y=>by simp [zCX,Tm.G,zJa,Ty.cnt,zT]
   simp only [Tm.sub]
   split
   ·split
    ·exact hb
    ·exact ⟨h1,h2,h3,h4⟩
   ·split
    ·refine ⟨h1,h2,by simpa using h3,zDJ fun y hy=>?_⟩
     obtain ⟨z,hz,rfl⟩:=oQ.1 hy
     exact ih z x b (yF h4 hz) hb
    ·rename_i hbd
     obtain ⟨g1,g2⟩:=wx hbd
     have hpt:=yF h4 (oB (zo g1))
     have key:∀ v:Tm,v.G->zJa ((l.map fun t=>Tm.sub f t x b).set (yZ k l.length).toNat v):=fun v hv=>zDJ fun y hy=>by
      rcases nK hy with hy | rfl
      ·obtain ⟨z,hz,rfl⟩:=oQ.1 hy
       exact ih z x b (yF h4 hz) hb
      ·exact hv
     split
     ·exact ⟨h1,h2,by simpa using h3,key _ hpt⟩
     ·refine ⟨h1,h2,by simpa using h3,key _ (ih _ x b ?_ hb)⟩
      have r1:∀ (old:ByteArray) (s:ByteArray × ByteArray × Tm),s.2.2.G->(rn1 (Tm.sub f) k l.length b.fv x old s).2.2.G:=fun old s hs=>by
       unfold rn1
       split
       ·split
        ·exact ih _ _ _ hs (vG _)
        ·exact ih _ _ _ hs (vG _)
       ·exact hs
      have rs:∀ (ns:List ByteArray) (s:ByteArray × ByteArray × Tm),s.2.2.G->(rns (Tm.sub f) k l.length b.fv x ns s).2.2.G:=by
       intro ns
       induction ns with
       | nil=>exact fun s hs=>hs
       | cons o os ih2=>exact fun s hs=>ih2 _ (r1 o s hs)
      exact rs _ _ hpt
theorem zO9:∀ (f:Nat) (t:Tm) (x:ByteArray) (b:Tm),t.V->b.V->(t.sub f x b).V
 | 0,t,x,b,h,_=>by simp only [Tm.sub];exact h
 | f + 1,.mk k nm ot n ty re l,x,b,h,hb=>by
   have ih:=zO9 f
   obtain ⟨h1,h2⟩:=h
   have h2:=vv.1 h2
   simp only [Tm.sub]
   split
   ·split
    ·exact hb
    ·exact ⟨h1,vv.2 h2⟩
   ·rename_i hk
    have hk1:∀ l':List Tm,k=1->l'=[]:=fun _ hc=>absurd hc hk
    split
    ·refine ⟨hk1 _,vv.2 fun y hy=>?_⟩
     obtain ⟨z,hz,rfl⟩:=oQ.1 hy
     exact ih z x b (h2 z hz) hb
    ·rename_i hbd
     obtain ⟨g1,g2⟩:=wx hbd
     have hpt:=h2 _ (oB (zo g1))
     have key:∀ v:Tm,v.V->zOJ ((l.map fun t=>Tm.sub f t x b).set (yZ k l.length).toNat v):=fun v hv=>vv.2 fun y hy=>by
      rcases nK hy with hy | rfl
      ·obtain ⟨z,hz,rfl⟩:=oQ.1 hy
       exact ih z x b (h2 z hz) hb
      ·exact hv
     split
     ·exact ⟨hk1 _,key _ hpt⟩
     ·exact ⟨hk1 _,key _ (ih _ x b ((u5 (wy f) _ _ _ _ _ _).v hpt) hb)⟩
theorem zDW {g:Tm->Tm} {m:Nat}:∀ {l:List Tm},(∀ t∈l,(g t).vc<=t.vc*m)->wT (l.map g)<=wT l*m
 | [],_=>by simp [wT]
 | t::l,h=>by
   have h1:=zDW (l:=l) fun x hx=>h x (by simp [hx])
   have h2:=h t (by simp)
   simp only [o6,wT,o8]
   omega
theorem zCl {g:Tm->Tm} {m:Nat} {v:Tm}:∀ {l:List Tm} {j:Nat},(∀ t∈l,(g t).vc<=t.vc*m)->(∀ t,l[j]?=some t->v.vc<=t.vc*m)->wT ((l.map g).set j v)<=wT l*m
 | [],_,_,_=>by simp [wT]
 | t::l,0,h,hv=>by
   have h1:=zDW (l:=l) fun x hx=>h x (by simp [hx])
   have h2:=hv t rfl
   simp only [o6,ny,wT,o8]
   omega
 | t::l,j+1,h,hv=>by
   have h1:=zCl (l:=l) (j:=j) (v:=v) (fun x hx=>h x (by simp [hx])) fun x hx=>hv x (by simpa using hx)
   have h2:=h t (by simp)
   simp only [o6,mK,wT,o8]
   omega
/-- how many variables: each may become what is put in -/
theorem zOg:∀ (f:Nat) (t:Tm) (x:ByteArray) (b:Tm),(t.sub f x b).vc<=t.vc*(b.vc+1)
 | 0,t,x,b=>by simp only [Tm.sub];exact np _ (by omega)
 | f + 1,.mk k nm ot n ty re l,x,b=>by
   have ih:=zOg f
   simp only [Tm.sub]
   split
   ·rename_i hk
    split
    ·simp only [Tm.vc,if_pos hk];omega
    ·exact np _ (by omega)
   ·rename_i hk
    split
    ·simp only [Tm.vc,if_neg hk]
     exact zDW fun t _=>ih t x b
    ·rename_i hbd
     obtain ⟨g1,g2⟩:=wx hbd
     split
     ·simp only [Tm.vc,if_neg hk]
      refine zCl (fun t _=>ih t x b) fun t ht=>?_
      rw [zo g1] at ht
      rw [<-oT ht]
      exact np _ (by omega)
     ·simp only [Tm.vc,if_neg hk]
      refine zCl (fun t _=>ih t x b) fun t ht=>?_
      rw [zo g1] at ht
      rw [<-oT ht]
      exact oS (ih _ x b) (oh _ (u5 (wy f) _ _ _ _ _ _).c)
/-- not too great to be copied, its free names to be listed -/
structure Tm.Z (t:Tm):Prop where
 g:t.G
 c:t.vc<=2199023255552
 v:t.V
theorem Tm.Z.mem {k:Int} {nm ot:ByteArray} {n:Int} {ty re:Ty} {l:List Tm} (h:(Tm.mk k nm ot n ty re l).Z):∀ y∈l,y.Z:=fun y hy=>by
 have hc:=h.c
 have:=pi hy
 simp only [Tm.vc] at hc
 split at hc
 ·rename_i hk
  rw [h.v.1 hk] at hy
  simp at hy
 ·exact ⟨yF h.g.2.2.2 hy,by omega,vv.1 h.v.2 y hy⟩
theorem LeT.z {t' t:Tm} (h:LeT t' t) (hz:t.Z):t'.Z:=⟨h.g hz.g,oS h.c hz.c,h.v hz.v⟩
theorem zQE (s:ByteArray):(zCX s).Z:=⟨by simp [zCX,Tm.G,zJa,Ty.cnt,zT],by simp only [zCX,Tm.vc,md];omega,fun _=>rfl,trivial⟩
theorem zHz:∀ {l:List D} {j:Nat} {x:D} {b:Nat},b∈zE (l.set j x)->b∈zE l\/b∈x.foot
 | [],j,x,b,h=>by simp [zE] at h
 | a::l,0,x,b,h=>by
   simp only [ny,zE,oI] at h ⊢
   rcases h with h | h
   ·exact .inr h
   ·exact .inl (.inr h)
 | a::l,j+1,x,b,h=>by
   simp only [mK,zE,oI] at h ⊢
   rcases h with h | h
   ·exact .inl (.inl h)
   ·rcases zHz h with h | h
    ·exact .inl (.inr h)
    ·exact .inr h
theorem zJg {N N1 N2 N3:Nat} {x:D} (hx:Own N2 N3 x) (h1:N<=N2) (h2:N1<=N2) (h3:N2<=N3):∀ {l:List D} {j:Nat},OwnL N N1 l->OwnL N N3 (l.set j x)
 | [],j,h=>by simp only [List.set_nil];exact h.mono (oD _) (by omega)
 | a::l,0,h=>by
   have hn:=h.nd
   simp only [zE,ou] at hn
   simp only [ny]
   refine ⟨?_,⟨hx.fl,h.fl.2⟩,fun b hb=>?_,fun b hb=>?_⟩
   ·simp only [zE,ou]
    refine ⟨hx.nd,hn.2.1,fun u hu v hv huv=>?_⟩
    have:=hx.lo u hu
    have:=h.hi v (by simp only [zE,oI];exact .inr hv)
    omega
   ·simp only [zE,oI] at hb
    rcases hb with hb | hb
    ·have:=hx.lo b hb;omega
    ·exact h.lo b (by simp only [zE,oI];exact .inr hb)
   ·simp only [zE,oI] at hb
    rcases hb with hb | hb
    ·exact hx.hi b hb
    ·have:=h.hi b (by simp only [zE,oI];exact .inr hb);omega
 | a :: l,j+1,h=>by
   have hn:=h.nd
   simp only [zE,ou] at hn
   have hl:OwnL N N1 l:=⟨hn.2.1,h.fl.2,fun b hb=>h.lo b (by simp only [zE,oI];exact .inr hb),fun b hb=>h.hi b (by simp only [zE,oI];exact .inr hb)⟩
   have ih:=zJg hx h1 h2 h3 (l:=l) (j:=j) hl
   simp only [mK]
   refine ⟨?_,⟨h.fl.1,ih.fl⟩,fun b hb=>?_,fun b hb=>?_⟩
   ·simp only [zE,ou]
    refine ⟨hn.1,ih.nd,fun u hu v hv huv=>?_⟩
    rcases zHz hv with hv | hv
    ·exact hn.2.2 u hu v hv huv
    ·have:=hx.lo v hv
     have:=h.hi u (by simp only [zE,oI];exact .inl hu)
     omega
   ·simp only [zE,oI] at hb
    rcases hb with hb | hb
    ·exact h.lo b (by simp only [zE,oI];exact .inl hb)
    ·exact ih.lo b hb
   ·simp only [zE,oI] at hb
    rcases hb with hb | hb
    ·have:=h.hi b (by simp only [zE,oI];exact .inl hb);omega
    ·exact ih.hi b hb
/-- behind four cells -/
theorem zG7 {N N1 N2 N3:Nat} {x x4 x5 x6 x7:D} {es:List D} {j:Nat} (h:OwnL N N1 ([x4,x5,x6,x7]++es)) (hx:Own N2 N3 x) (h1:N<=N2) (h2:N1<=N2) (h3:N2<=N3):OwnL N N3 ([x4,x5,x6,x7]++es.set j x):=
 zJg hx h1 h2 h3 (l:=[x4,x5,x6,x7]++es) (j:=j+4) h
theorem zAS:∀ {u v:List D},xQ (u++v)->xQ u/\xQ v
 | [],v,h=>⟨trivial,h⟩
 | x::u,v,h=>⟨⟨h.1,(zAS h.2).1⟩,(zAS h.2).2⟩
theorem zNE {N0 N1 N3:Nat} {hd es ds:List D} {a:Option Addr} {z c:Nat} (h:OwnL N0 N1 (hd++es)) (hf:Fresh N0 N3 a (.ag es::(hd++ds))) (hN:N1<=N3):OwnL N0 N3 (hd++[.sl a z es c]):=by
 obtain ⟨fl1,fl2⟩:=zAS h.fl
 have hn:=h.nd
 rw [zD,ou] at hn
 have e:zE (hd++[D.sl a z es c])=zE hd++(D.sl a z es c).foot:=by simp only [zD,zE,nW]
 have hE:∀ ad,a=some ad->ad.block∉zE es:=fun ad h=>hf.ap ad h (.ag es) (by simp)
 have hH:∀ ad,a=some ad->ad.block∉zE hd:=fun ad h hc=>by
  obtain ⟨d,hd',hb⟩:=zG.1 hc
  exact hf.ap ad h d (by simp [hd']) hb
 refine ⟨?_,ya fl1 ⟨⟨fun ad h=>hf.off ad h,fl2⟩,trivial⟩,fun b hb=>?_,fun b hb=>?_⟩
 ·rw [e,ou]
  refine ⟨hn.1,zJD hn.2.1 hE,fun x hx y hy hxy=>?_⟩
  subst hxy
  rcases vU x hy with h9 | ⟨ad,h9,h'⟩
  ·exact hn.2.2 x hx x h9 rfl
  ·subst h';exact hH ad h9 hx
 ·rw [e] at hb
  rcases oI.1 hb with hb | hb
  ·exact h.lo b (by rw [zD];exact oY _ hb)
  ·rcases vU b hb with h9 | ⟨ad,h9,h'⟩
   ·exact h.lo b (by rw [zD];exact oi _ h9)
   ·subst h';exact hf.lo ad h9
 ·rw [e] at hb
  rcases oI.1 hb with hb | hb
  ·have:=h.hi b (by rw [zD];exact oY _ hb);omega
  ·rcases vU b hb with h9 | ⟨ad,h9,h'⟩
   ·have:=h.hi b (by rw [zD];exact oi _ h9);omega
   ·subst h';exact hf.hi ad h9
theorem zFu {N N1 N2:Nat} {v0 v1 v2 v3:Value} {x4 x5 x6 x7:D} {es:List D} {a:Option Addr} {c:Nat} (h:OwnL N N1 ([x4,x5,x6,x7]++es)) (hf:Fresh N N2 a [.ag es,x4,x5,x6,x7]) (hN:N1<=N2):Own N N2 (.ag [.lit v0,.lit v1,.lit v2,.lit v3,x4,x5,x6,x7,.sl a 9 es c]):=
 zEP (yu (yu (yu (yu (zNE (hd:=[x4,x5,x6,x7]) (ds:=[]) h hf hN)))))
theorem zBa {α:Type} {R:α->D->Prop}:∀ {l:List α} {es:List D} {t:α} {d:D} {j:Nat},All2 R l es->R t d->All2 R (l.set j t) (es.set j d)
 | [],es,t,d,j,h,_=>by cases h;exact rfl
 | x::l,es,t,d,0,h,ht=>by
   obtain ⟨y,ys,rfl,h1,h2⟩:=h
   exact ⟨_,_,rfl,ht,h2⟩
 | x::l,es,t,d,j+1,h,ht=>by
   obtain ⟨y,ys,rfl,h1,h2⟩:=h
   exact ⟨_,_,rfl,h1,zBa h2 ht⟩
theorem zPQ {α:Type} {T l:List α} {i:Nat} {t:α} (hT:T.length=l.length) (hi:i<l.length) (ht:T[i]?=some t):(T.take i++l.drop i).set i t=T.take (i+1)++l.drop (i+1):=by
 have h1:(T.take i).length=i:=by rw [nH];omega
 rw [mw _ _ (by omega),h1,Nat.sub_self,mR hi,ny,wt ht,nc]
 rfl
theorem zN8 {α:Type} {T l:List α} {i:Nat} {t:α} (hi:i<l.length) (hl:l[i]?=some t) (ht:T[i]?=some t):T.take i++l.drop i=T.take (i+1)++l.drop (i+1):=by
 rw [mR hi,wt ht,nc]
 rw [oF hi] at hl
 rw [oT hl]
 rfl
theorem wV {l:List Tm} {es:List D} (h:All2 Tm.Is l es) {j:Nat} (hj:j<l.length):(l.getD j tm0).Is (es.getD j default):=by
 have:=h.get (zo hj)
 exact this
def zQg (f:FuncId) (args:List PV) (t:Tm):Prop:=∀ (N:Nat) (Q:QT [.ag 9]),(∀ d N',N<=N'->t.Is d->Own N N' d->Q d N')->ACalls prog f [.ag 9] args N Q
/-- puts b for x, at terms of some depth -/
def zRe (F:FuncId) (f:Nat):Prop:=∀ (e:Tm) (d:D) (x:ByteArray) (b:Tm) (db:D),e.Is d->b.Is db->e.dp<=f->e.Z->b.Z->zQg F [.dg 9 d,.str x,.dg 9 db] (e.sub f x b)
theorem zOn {s:ByteArray} (hs:s.size<=4611686018427387904):(zCX s).Is (.ag [.lit (.int .i64 1),.lit (.string s),.lit (.string (bytes [])),.lit (.int .i64 0),.lit (.int .i64 0),.sl none 2 [] 0,.lit (.int .i64 0),.sl none 2 [] 0,.sl none 9 [] 0]):=
 Tm.is_mk.2 ⟨_,_,_,_,_,_,_,rfl,⟨hs,by decide,Ty.is_mk.2 ⟨_,_,_,rfl,by simp,rfl⟩,Ty.is_mk.2 ⟨_,_,_,rfl,by simp,rfl⟩⟩,by simp,rfl⟩
theorem zJy {l:List ByteArray} (h:l.length<=8796093022208):(fresh l).size<=4611686018427387904:=by
 obtain ⟨k,e,_,h2,_,_⟩:=uT l
 rw [e]
 have:=zJ0 k (by omega)
 omega
theorem zJL (s:ByteArray) (l:List ByteArray):decide (zBQ (fun x=>decide (x=s)) l 0≥0)=decide (s∈l):=by
 have h:=zCW s l
 rw [mE,mA,mA] at h ⊢
 constructor
 ·intro h2;exact mC.1 fun h3=>by have:=h.2 h3;omega
 ·intro h2;exact Int.not_lt.1 fun h3=>h.1 h3 h2
/-- what a node binds, away from some names -/
theorem zMf {f:Nat} (hS:zRe 249 f) {k n0:Int} {nm ot:ByteArray} {ty re:Ty} {l:List Tm} {d:D} (hd:(Tm.mk k nm ot n0 ty re l).Is d) (hG:(Tm.mk k nm ot n0 ty re l).G) {j:Nat} (hat:yZ k l.length=(j:Int))
  {p:Tm} (hp:l.getD j tm0=p) (hdp:p.dp<=f) (hc:p.Z) (x:ByteArray) (fb:List ByteArray) (hfb:fb.length<=2199023255552) (a:Option Addr) (c:Nat) (N:Nat) {T:ByteArray × ByteArray × Tm} (hT:rns (Tm.sub f) k l.length fb x (bdN k nm ot l.length) (nm,ot,p)=T)
  (Q:QT [.pk,.int .i64,.str,.str,.int .i64,.dc,.dc,.dc,.dc,.row 30 9]) (hQ:zAy (.mk k T.1 T.2.1 n0 ty re (l.set j T.2.2)) N Q) :
  ACalls prog 259 [.pk,.int .i64,.str,.str,.int .i64,.dc,.dc,.dc,.dc,.row 30 9] [.dg 9 d,.int .i64 (j:Int),.str x,.sv a 0 (zA fb) c] N Q:=by
 obtain ⟨t0,t1,r0,r1,a8,es,c8,rfl,hh,hlen,hes⟩:=Tm.is_mk.1 hd
 have hl:=hes.len
 obtain ⟨g1,_⟩:=wx (k:=k) (n:=l.length) (by omega)
 rw [hat,oJ] at g1
 have hns:=zAO k nm ot l.length
 have hnw:=zH (bdN k nm ot l.length)
 have htl:=hG.2.2.1
 refine zDb N _ _ x a _ c Q fun _ _ N1 hN1=>uu _ _ hd hG N1 _ ?_
 simp only [zAy] at hQ ⊢
 intro x4 x5 x6 x7 es' c' N2 hN2 hh' hes' ho' _ _ N3 hN3
 refine rz (n:=l.length) (by omega) N3 _ fun a1 c1 N4 hN4 _ _ _=>?_
 have hl':=hes'.len
 have hset0:l.set j p=l:=by
  apply o7
  intro i
  rw [nC]
  split
  ·rename_i hi
   subst hi
   rw [zo g1,hp]
  ·rfl
 refine up (yx (bdN k nm ot l.length)) (by omega) (fun i xs=>∀ (s:ByteArray × ByteArray × Tm) (y4 y5 y6 y7:D) (r:List D) (q N':Nat),N<=N'->Tm.Hd s.1 s.2.1 ty re y4 y5 y6 y7->All2 Tm.Is (l.set j s.2.2) r->OwnL N N' ([y4,y5,y6,y7]++r)->LeT s.2.2 p->rns (Tm.sub f) k l.length fb x xs s=T ->
  (i=0->s=(nm,ot,p))->(0<i->∀ o∈xs,o∈fb->s.1≠o) ->
  yG Q N j x a (zA fb) c a1 (zA (bdN k nm ot l.length)) c1 i 0 (bytes []) (bytes []) 0 0 none [] 0 0 none [] 0 none [] 0 k s.1 s.2.1 n0 y4 y5 y6 y7 r.length q r q N') ?_ ?_ (nm,ot,p) x4 x5 x6 x7 es' c' N4 (by omega) hh' (by rw [hset0];exact hes') (ho'.mono hN1 (by omega)) LeT.rfl hT (fun _=>rfl) (fun h=>absurd h (by omega))
 ·intro i hlt hi s y4 y5 y6 y7 r q N' hN' hH hA hO hle hs _ _
  simp only [rns] at hs
  subst hs
  refine tB _ _ _ _ _ _ _ _ _ _ _ _ _ _ _ _ _ _ _ _ _ _ _ _ _ _ _ _ _ _ _ _ _ _ _ _ _ _ _ ?_
  rw [hlt]
  exact ⟨⟨rfl,rfl⟩,fun N5 hN5=>hQ _ _ _ _ _ _ _ (by omega) hH hA (hO.mono (oD _) hN5)⟩
 ·intro i old xs hat2 hxs ih2 s y4 y5 y6 y7 r q N' hN' hH hA hO hle hs h0 h1
  have hbd:=hat2.b
  have hr:=hat2.r
  have hrl:=hA.len
  simp only [nY] at hrl
  simp only [rns] at hs
  refine tB _ _ _ _ _ _ _ _ _ _ _ _ _ _ _ _ _ _ _ _ _ _ _ _ _ _ _ _ _ _ _ _ _ _ _ _ _ _ _ ?_
  rw [hat2.lt,oJ,hat2.w,hr]
  refine ⟨⟨by omega,by omega⟩,old,rfl,fun N5 hN5=>yg fb (by omega) a c old N5 _ fun N6 hN6 _=>?_⟩
  rw [zCW]
  have hold:i=0->s.1=old:=fun hi=>by
   subst hi
   have h2:=hat2.g
   rw [h0 rfl]
   unfold bdN at h2
   (repeat' split at h2)<;>simp at h2<;>exact h2
  have hne:0<i->old∈fb->s.1≠old:=fun hi ho=>h1 hi old (by simp) ho
  have hnext:∀ s':ByteArray × ByteArray × Tm,rn1 (Tm.sub f) k l.length fb x old s=s'->0<i+1->∀ o∈xs,o∈fb->s'.1≠o:=fun s' hs' _ o ho hof=>by
   have hi0:i=0:=by
    have h3:=oN.1 ho
    obtain ⟨m,hm⟩:=h3
    rw [<-hxs,nG] at hm
    have:=(oC.1 hm).1
    omega
   have hs0:=h0 hi0
   subst hi0
   have hom:o∈bdN k nm ot l.length:=by rw [<-hxs] at ho;exact oX ho
   have hold':=hold rfl
   subst hs'
   unfold rn1
   by_cases hof2:old∈fb
   ·have hfr:=zCH (fb++(s.2.2.fv++([x]++bdN k s.1 s.2.1 l.length)))
    rw [if_pos hof2,if_pos hold']
    intro hc
    refine hfr ?_
    simp only at hc
    rw [hc,hs0]
    simp [hom]
   ·rw [if_neg hof2]
    intro hc
    exact hof2 (by rw [<-hold',hc];exact hof)
  refine Br.dec (fun ho=>?_) fun ho=>?_
  ·have e1:rn1 (Tm.sub f) k l.length fb x old s=s:=by unfold rn1;rw [if_neg ho]
   have hnx:=hnext s e1
   rw [e1] at hs
   exact ih2 _ _ _ _ _ _ _ _ (by omega) hH hA (hO.mono (oD _) (by omega)) hle hs (fun h=>absurd h (by omega)) hnx
  ·have ho:old∈fb:=mC.1 ho
   have hpi2:=wV hA (j:=j) (by simpa using g1)
   have hgd:(l.set j s.2.2).getD j tm0=s.2.2:=by rw [oA,nL (by simpa using g1)];rfl
   rw [hgd] at hpi2
   have hz2:=hle.z hc
   have hvc:=hz2.c
   have hfv:=Tm.fv_len s.2.2
   have hul:=zDF fb s.2.2.fv
   have hns2:=zAO k s.1 s.2.1 l.length
   have hnw2:=zH (bdN k s.1 s.2.1 l.length)
   have hled:=hle.d
   refine ⟨⟨rfl,rfl⟩,fun a5 _ N7 hN7 hbel=>rz (n:=l.length) (by omega) N7 _ fun a6 c6 N8 hN8 ho8 _=>⟨wC hbel ho8,fun _=>⟨⟨by omega,by omega,by omega⟩,by omega,fun N9 hN9=>?_⟩⟩⟩
   rw [oJ,nE]
   refine xy s.2.2 _ hpi2 (by omega) N9 _ fun a7 c7 N10 hN10 _ _ _ N11 hN11=>?_
   refine uS fb s.2.2.fv (by omega) (by omega) a a7 c c7 N11 _ fun c8 N12 hN12 _ _=>?_
   rw [wX,zEX]
   have hcl:(t4 fb s.2.2.fv++[x]++bdN k s.1 s.2.1 l.length).length<=8796093022208:=by simp only [oH,oP,od];omega
   have hnow:fresh (t4 fb s.2.2.fv++[x]++bdN k s.1 s.2.1 l.length)=fresh (fb++(s.2.2.fv++([x]++bdN k s.1 s.2.1 l.length))):=zNe fun y=>by simp [zGo,or_assoc]
   refine ⟨⟨rfl,rfl⟩,qJ (by omega),fun c9=>⟨⟨rfl,rfl⟩,by unfold zB;rw [oH,zH,zH,oH,oP,od];omega,fun c10=>⟨⟨rfl,rfl⟩,fun a11 _ N13 hN13 _=>?_⟩⟩⟩
   refine zBF _ hcl a11 c10 N13 _ fun N14 hN14 _=>⟨⟨by omega,by omega,by omega⟩,by omega,⟨by omega,by omega⟩,old,rfl,fun N15 hN15=>?_⟩
   have hsz:=zJy hcl
   rw [hnow] at hsz ⊢
   have e1:rn1 (Tm.sub f) k l.length fb x old s=(if s.1=old then fresh (fb++(s.2.2.fv++([x]++bdN k s.1 s.2.1 l.length))) else s.1,if s.1=old then s.2.1 else fresh (fb++(s.2.2.fv++([x]++bdN k s.1 s.2.1 l.length))),s.2.2.sub f old (zCX (fresh (fb++(s.2.2.fv++([x]++bdN k s.1 s.2.1 l.length)))))):=by
    unfold rn1
    rw [if_pos ho]
    split<;>rfl
   have hnx:=hnext _ e1
   rw [e1] at hs
   generalize fresh (fb++(s.2.2.fv++([x]++bdN k s.1 s.2.1 l.length)))=now at hsz hs hnx ⊢
   refine zAg N15 now _ fun N16 hN16 _ _ N17 hN17=>?_
   refine hS s.2.2 _ old (zCX now) _ hpi2 (zOn hsz) (by omega) hz2 (zQE _) N17 _ fun dx N18 hN18 hx hox _ _=>⟨⟨by omega,by omega,by omega⟩,by omega,?_⟩
   have hset:All2 Tm.Is (l.set j (s.2.2.sub f old (zCX now))) (r.set j dx):=by have:=zBa (j:=j) hA hx;rwa [List.set_set] at this
   have hown:OwnL N N18 ([y4,y5,y6,y7]++r.set j dx):=zG7 hO hox (by omega) (by omega) (by omega)
   have hrs:(r.set j dx).length=r.length:=nY
   refine Br.beq (fun hi=>?_) fun hi=>?_
   ·have hi:i=0:=by omega
    rw [if_pos (hold hi),if_pos (hold hi)] at hs hnx
    have:=ih2 (now,s.2.1,s.2.2.sub f old (zCX now)) y4 y5 y6 y7 (r.set j dx) q N18 (by omega) ⟨hsz,hH.ot,hH.ty,hH.re⟩ hset hown ((wy f _ _ _).trans hle) hs (fun h=>absurd h (by omega)) hnx
    rwa [hrs] at this
   ·have hi:0<i:=by omega
    rw [if_neg (hne hi ho),if_neg (hne hi ho)] at hs hnx
    have:=ih2 (s.1,now,s.2.2.sub f old (zCX now)) y4 y5 y6 y7 (r.set j dx) q N18 (by omega) ⟨hH.nm,hsz,hH.ty,hH.re⟩ hset hown ((wy f _ _ _).trans hle) hs (fun h=>absurd h (by omega)) hnx
    rwa [hrs] at this
/-- the parts, each put through, but for one -/
theorem pV {f:Nat} (hS:zRe 249 f) {k n0:Int} {nm ot:ByteArray} {ty re:Ty} {L Lf:List Tm} {x:ByteArray} {b:Tm} {db:D} (hb:b.Is db) (hbz:b.Z) (hL:∀ y∈L,y.dp<=f/\y.Z) (hLl:L.length<=1073741824) {at_:Int} {hid:Bool}
  (hlf:Lf.length=L.length) (hf:∀ (i:Nat) (y:Tm),L[i]?=some y->Lf[i]?=some (if hid=true/\(i:Int)=at_ then y else y.sub f x b)) {y4 y5 y6 y7:D} (hH:Tm.Hd nm ot ty re y4 y5 y6 y7) {r:List D} (hA:All2 Tm.Is L r) (q N N':Nat) (hN':N<=N') (hO:OwnL N N' ([y4,y5,y6,y7]++r))
  (Q:QT [.ag 9]) (hQ:∀ d' N'',N<=N''->(Tm.mk k nm ot n0 ty re Lf).Is d'->Own N N'' d'->Q d' N'') :
  zC Q N x at_ hid 0 db 0 (bytes []) (bytes []) 0 0 none [] 0 0 none [] 0 none [] 0 k nm ot n0 y4 y5 y6 y7 r.length q r q N':=by
 have hrl:=hA.len
 refine up hA (by omega) (fun i xs=>∀ (r':List D) (q N':Nat),N<=N'->All2 Tm.Is (Lf.take i++L.drop i) r'->r'.length=r.length->OwnL N N' ([y4,y5,y6,y7]++r') ->
  zC Q N x at_ hid i db 0 (bytes []) (bytes []) 0 0 none [] 0 0 none [] 0 none [] 0 k nm ot n0 y4 y5 y6 y7 r.length q r' q N') ?_ ?_ r q N' hN' (by simpa using hA) rfl hO
 ·intro i hlt hi r' q N' hN' hA' hr' hO'
  rw [nB (by omega),mG (by omega),nW] at hA'
  refine uC _ _ _ _ _ _ _ _ _ _ _ _ _ _ _ _ _ _ _ _ _ _ _ _ _ _ _ _ _ _ _ _ _ _ _ ?_
  rw [hlt]
  exact ⟨⟨by omega,rfl⟩,⟨by omega,rfl⟩,⟨by omega,rfl⟩,⟨by omega,rfl⟩,fun a2 N5 hN5 hf N6 hN6=>hQ _ _ (by omega) (Tm.is_mk.2 ⟨_,_,_,_,_,_,_,rfl,hH,by omega,hA'⟩) ((zFu hO' hf hN5).mono (oD _) hN6)⟩
 ·intro i y xs hat _ ih2 r' q N' hN' hA' hr' hO'
  have hbd:=hat.b
  obtain ⟨hyd,hyz⟩:=hL y hat.m
  have hil:i<L.length:=(oC.1 hat.g).1
  have hfi:=hf i y hat.g
  have hyi:y.Is (r'.getD i default):=by
   refine hA'.get ?_
   rw [oO (by rw [nH];omega),nH,show i - min i Lf.length=0 by omega,nG]
   exact hat.g
  have put:(if hid=true/\(i:Int)=at_ then y else y.sub f x b)=y.sub f x b->∀ N5,N'<=N5->ACalls prog 249 [.ag 9] [.dg 9 (List.getD r' i default),.str x,.dg 9 db] N5 (fun x_1 N6=>N5<=N6->Bel N6 x_1->((0:Int)<=(i:Int)/\(i:Int)<(r.length:Int)/\i<r'.length)/\i<r'.length /\
    zC Q N x at_ hid ((i+1:Nat):Int) db 0 (bytes []) (bytes []) 0 0 none [] 0 0 none [] 0 none [] 0 k nm ot n0 y4 y5 y6 y7 r.length q (List.set r' i x_1) q N6):=fun e N5 hN5=>
   hS y _ x b db hyi hb hyd hyz hbz N5 _ fun dx N6 hN6 hx hox _ _=>⟨⟨by omega,by omega,by omega⟩,by omega,by
    rw [e] at hfi
    have h2:=zBa (j:=i) hA' hx
    rw [zPQ hlf hil hfi] at h2
    exact ih2 (r'.set i dx) q N6 (by omega) h2 (by simpa using hr') (zG7 hO' hox (by omega) (by omega) (by omega))⟩
  refine uC _ _ _ _ _ _ _ _ _ _ _ _ _ _ _ _ _ _ _ _ _ _ _ _ _ _ _ _ _ _ _ _ _ _ _ ?_
  rw [hat.lt,oJ,hat.w,nE]
  refine Br.bne (fun hne=>⟨⟨by omega,by omega,by omega⟩,by omega,put (if_neg fun h=>hne h.2)⟩) fun heq=>?_
  refine Br.not (fun hh=>⟨⟨by omega,by omega,by omega⟩,by omega,put (if_neg fun h=>by rw [hh] at h;exact absurd h.1 (by decide))⟩) fun hh=>?_
  rw [if_pos ⟨hh,heq⟩] at hfi
  rw [zN8 hil hat.g hfi] at hA'
  exact ih2 r' q N' hN' hA' hr' hO'
theorem zJE {g:Tm->Tm} {l:List Tm} {i:Nat} {y:Tm} (h:l[i]?=some y):(l.map g)[i]?=some (g y):=by rw [oE,h];rfl
theorem zEa:∀ f,zRe 249 f
 | 0=>fun e d x b db _ _ hdp=>absurd (Tm.dp_pos e) (by omega)
 | f + 1=>fun e d x b db he hb hdp hc hcb N Q hQ=>by
   have ih:=zEa f
   have hG:=hc.g
   have hGb:=hcb.g
   have hvb:=hcb.c
   cases e with
   | mk k nm ot n0 ty re l=>
   simp only [Tm.dp] at hdp
   have hp:∀ y∈l,y.dp<=f/\y.Z:=fun y hy=>⟨uz.1 (ma hdp) y hy,hc.mem y hy⟩
   obtain ⟨t0,t1,r0,r1,a,es,c,rfl,hh,hlen,hes⟩:=Tm.is_mk.1 he
   have hl:=hes.len
   have htl:=hG.2.2.1
   have hns:=zAO k nm ot l.length
   have hnw:=zH (bdN k nm ot l.length)
   refine zBU N _ x db Q fun _ _=>⟨_,rfl,?_⟩
   have sub1:¬(k=1/\nm=x)->(Tm.mk k nm ot n0 ty re l).sub (f+1) x b=if yZ k l.length<0 then .mk k nm ot n0 ty re (l.map fun t=>Tm.sub f t x b)
     else if x∈bdN k nm ot l.length\/x∉(l.getD (yZ k l.length).toNat tm0).fv then
      .mk k nm ot n0 ty re ((l.map fun t=>Tm.sub f t x b).set (yZ k l.length).toNat (l.getD (yZ k l.length).toNat tm0))
     else
      .mk k (rns (Tm.sub f) k l.length b.fv x (bdN k nm ot l.length) (nm,ot,l.getD (yZ k l.length).toNat tm0)).1
       (rns (Tm.sub f) k l.length b.fv x (bdN k nm ot l.length) (nm,ot,l.getD (yZ k l.length).toNat tm0)).2.1 n0 ty re
       ((l.map fun t=>Tm.sub f t x b).set (yZ k l.length).toNat (Tm.sub f (rns (Tm.sub f) k l.length b.fv x (bdN k nm ot l.length) (nm,ot,l.getD (yZ k l.length).toNat tm0)).2.2 x b)):=fun hn=>by
    simp only [Tm.sub]
    by_cases hk:k=1
    ·rw [if_pos hk,if_neg (fun h=>hn ⟨hk,h⟩)]
     have:l=[]:=hc.v.1 hk
     subst this
     subst hk
     rw [if_pos (by decide)]
     rfl
    ·rw [if_neg hk]
   refine Br.beq (fun h1=>⟨_,rfl,Br.str (fun h2 N1 hN1=>?_) fun h2=>?_⟩) fun h1=>?_
   ·simp only [Tm.sub] at hQ
    rw [if_pos h1,if_pos h2] at hQ
    refine uu b db hb hGb N1 _ ?_
    cases b with
    | mk k2 nm2 ot2 n2 ty2 re2 l2=>
    simp only [zAy]
    intro x4 x5 x6 x7 es' c' N2 hN2 hh' hes' ho' _ _
    have hl':=hes'.len
    have hgl:=hGb.2.2.1
    exact ⟨⟨trivial,trivial⟩,⟨trivial,trivial⟩,fun a2 N3 hN3 hf N4 hN4=>hQ _ _ (by omega) (Tm.is_mk.2 ⟨_,_,_,_,_,_,_,rfl,hh',by omega,hes'⟩) ((zFu (ho'.mono hN1 (oD _)) hf hN3).mono (oD _) hN4)⟩
   all_goals
    rw [sub1 (fun h=>by first | exact h2 h.2 | exact h1 h.1)] at hQ
    intro N1 hN1
    refine uu _ _ he hG N1 _ ?_
    simp only [zAy]
    intro x4 x5 x6 x7 es' c' N2 hN2 hh' hes' ho' _ _ N3 hN3
    have hl':=hes'.len
    refine rz (n:=l.length) (by omega) N3 _ fun a1 c1 N4 hN4 _ _ _ N5 hN5=>?_
    refine yg _ (by omega) a1 c1 x N5 _ fun N6 hN6 _=>?_
    rw [zJL]
    have hO0:OwnL N N6 ([x4,x5,x6,x7]++es'):=ho'.mono hN1 (by omega)
    refine Br.dec (fun hge=>?_) fun hlt=>?_
    ·rw [if_neg (by omega)] at hQ
     obtain ⟨g1,g2⟩:=wx (k:=k) (n:=l.length) (by omega)
     obtain ⟨j,hat⟩:∃ j:Nat,yZ k l.length=(j:Int):=⟨_,g2.symm⟩
     rw [hat] at g1 hQ ⊢
     rw [oJ] at g1 hQ ⊢
     generalize hpp:l.getD j tm0=p at hQ
     have hpl:l[j]?=some p:=hpp ▸ zo g1
     obtain ⟨hpd,hpc⟩:=hp p (oB hpl)
     have hpvc:=hpc.c
     have hpi:=wV hes g1
     rw [hpp] at hpi
     refine Br.ndec (fun hx=>⟨_,_,_,rfl,⟨by omega,by omega⟩,fun N7 hN7=>?_⟩) fun hx=>?_
     ·have hfv:=Tm.fv_len p
      refine xy p _ hpi hpvc N7 _ fun a8 c8 N8 hN8 _ _ _ N9 hN9=>yg _ (by omega) a8 c8 x N9 _ fun N10 hN10 _=>?_
      rw [zJL]
      rw [mT hx]
      refine Br.dec (fun hx2 N11 hN11=>?_) fun hx2=>?_
      ·rw [if_neg (by rintro (h | h);exact hx h;exact h hx2)] at hQ
       have hfvb:=Tm.fv_len b
       refine xy b _ hb hvb N11 _ fun a12 c12 N12 hN12 _ _ _ N13 hN13=>?_
       generalize hT:rns (Tm.sub f) k l.length b.fv x (bdN k nm ot l.length) (nm,ot,p)=T at hQ
       have hle:=u5 (wy f) k l.length b.fv x (bdN k nm ot l.length) (nm,ot,p)
       rw [hT] at hle
       have hled:=hle.d
       refine zMf ih he hG hat hpp hpd hpc x b.fv (by omega) a12 c12 N13 hT _ ?_
       simp only [zAy]
       intro z4 z5 z6 z7 es9 c9 N17 hN17 hh9 hes9 ho9 _ _
       refine pV ih hb hcb (L:=l.set j T.2.2) (Lf:=(l.map fun t=>t.sub f x b).set j (T.2.2.sub f x b)) (fun y hy=>?_) (by simpa using htl) (by simp) (fun i y hy=>?_) hh9 hes9 c9 N N17 (by omega) (ho9.mono (by omega) (oD _)) Q hQ
       ·rcases nK hy with hy | rfl
        ·exact hp y hy
        ·exact ⟨oS hled hpd,hle.z hpc⟩
       ·rw [if_neg (fun h=>by simp at h)]
        rw [<-List.map_set]
        exact zJE hy
      ·rw [if_pos (.inr hx2)] at hQ
       refine pV ih hb hcb hp htl (by simp) (fun i y hy=>?_) hh' hes' c' N N10 (by omega) (hO0.mono (oD _) (by omega)) Q hQ
       rw [if_neg (fun h=>by simp at h)]
       by_cases hij:j=i
       ·subst hij
        have:y=p:=oT (hy.symm.trans hpl)
        rw [nL (by simpa using g1),this,zOh f p x b hx2]
       ·rw [o9 hij];exact zJE hy
     ·rw [if_pos (.inl hx)] at hQ
      rw [mN hx]
      refine pV ih hb hcb hp htl (by simp) (fun i y hy=>?_) hh' hes' c' N N6 (by omega) hO0 Q hQ
      by_cases hij:j=i
      ·subst hij
       have:y=p:=oT (hy.symm.trans hpl)
       rw [if_pos ⟨rfl,rfl⟩,nL (by simpa using g1),this]
      ·rw [if_neg (fun h=>hij (by omega)),o9 hij];exact zJE hy
    ·rw [if_pos (by omega)] at hQ
     refine pV ih hb hcb hp htl (by simp) (fun i y hy=>?_) hh' hes' c' N N6 (by omega) hO0 Q hQ
     rw [if_neg (fun h=>by have:=h.2;omega)]
     exact zJE hy
end Go.Proofs.YtkdjhkfiolhkiaaGreat
