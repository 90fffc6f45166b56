/- Typings: which name is bound to what. -/
import Derived.Test.YtkdjhkfiolhkiaaGreatVi
import Derived.Test.YtkdjhkfiolhkiaaGreatWg
import Derived.Test.YtkdjhkfiolhkiaaGreatWy
import Derived.Test.YtkdjhkfiolhkiaaGreatVn
import Derived.Test.YtkdjhkfiolhkiaaGreatWn
import Derived.Test.YtkdjhkfiolhkiaaGreatWx
set_option linter.unusedVariables false
set_option linter.unusedSimpArgs false
namespace Go.Proofs.YtkdjhkfiolhkiaaGreat
open Go Go.Proofs Go.Proofs.Tryz Go.IntWalk
theorem zId {α:Type} {P:List α->Prop} (h0:P []) (h1:∀ l x,P l->P (l++[x])) (l:List α):P l:=by
 have key:∀ n,∀ l:List α,l.length=n->P l:=by
  intro n
  induction n with
  | zero=>intro l hl;rw [om hl];exact h0
  | succ n ih=>
    intro l hl
    have hne:l≠[]:=fun hc=>by subst hc;simp at hl
    rw [<-List.dropLast_concat_getLast hne]
    exact h1 _ _ (ih _ (by simp [hl]))
 exact key _ l rfl
theorem zBC (g:List Tg) (y:Tg) (s:ByteArray):∀ n,n<=g.length->xc (g++[y]) s n=xc g s n
 | 0,_=>rfl
 | n+1,h=>by
   have e:(g++[y]).getD n tg0=g.getD n tg0:=by rw [oA,oA,oJ (by omega)]
   simp only [xc,e,zBC g y s n (by omega)]
theorem w6 (g:List Tg) (y:Tg) (s:ByteArray) (n:Int):xB (g++[y]) s n=if y.nm=s then (if y.lv=n then some y.ty else none) else xB g s n:=by
 have e:(g++[y]).getD g.length tg0=y:=by simp [oA]
 have hl:zC (g++[y]) s=if y.nm=s then (g.length:Int) else zC g s:=by
  unfold zC
  rw [oH,nK]
  simp only [xc,e,zBC g y s _ (oF _)]
 unfold xB
 rw [hl]
 by_cases hs:y.nm=s
 ·simp only [if_pos hs]
  rw [if_neg (by omega),oM,e]
 ·simp only [if_neg hs]
  by_cases h0:zC g s<0
  ·rw [if_pos h0,if_pos h0]
  ·rw [if_neg h0,if_neg h0]
   have hr:=uF g s g.length
   have hr:zC g s = -1\/(0<=zC g s/\zC g s<g.length):=hr
   have e2:(g++[y]).getD (zC g s).toNat tg0=g.getD (zC g s).toNat tg0:=by
    rw [oA,oA,oJ (by omega)]
   rw [e2]
/-- what the last typing of a name is -/
theorem zBs (g:List Tg) (s:ByteArray):∀ n,xc g s n = -1\/(g.getD (xc g s n).toNat tg0).nm=s
 | 0=>.inl rfl
 | n+1=>by
   simp only [xc]
   split
   ·rename_i h
    right
    rw [oM];exact h
   ·exact zBs g s n
theorem zHE (p:Tg) {s:ByteArray} {n:Int} {t:Ty} (g:List Tg):xB g s n=some t->xB (p::g) s n=some t:=by
 induction g using zId with
 | h0=>intro h;cases h
 | h1 b q ih=>
   rw [<-nB,w6,w6]
   split
   ·exact id
   ·exact ih
theorem zA3 (g:List Tg) (n:Int) (y:Tg):∀ (l:List Tg) (i:Nat),yB g n (l++[y]) i=yB g n l i++(if wJ g n y (i+l.length) then [y] else [])
 | [],i=>by simp [yB]
 | x::xs,i=>by
   have h:=zA3 g n y xs (i+1)
   simp only [nB,yB,h,oN]
   rw [show i+1+xs.length=i+(xs.length+1) by omega]
   split<;>simp
/-- what is safe: names of base types of levels not above -/
theorem zDN (g:List Tg) (s:ByteArray) (n m:Int):xB (xA g n) s m=(match xB g s m with | some t=>if m<=n/\t.base=true then some t else none | none=>none):=by
 have key:∀ b:List Tg,∀ r,g=b++r->xB (yB g n b 0) s m=if 0<=zC g s/\zC g s<b.length then (match xB g s m with | some t=>if m<=n/\t.base=true then some t else none | none=>none) else none:=by
  intro b
  induction b using zId with
  | h0=>
    intro r _
    rw [if_neg (by simp)];rfl
  | h1 b y ih=>
    intro r hr
    have hg:g.getD b.length tg0=y:=by rw [hr];simp [oA]
    have hnm:=zBs g s g.length
    have hnm:zC g s = -1\/(g.getD (zC g s).toNat tg0).nm=s:=hnm
    rw [zA3,nh,oH,nK]
    have ih:=ih (y::r) (by simp [hr])
    have pos:zC g s<=b.length->0<=zC g s->(0<=zC g s/\zC g s<((b.length+1:Nat):Int)):=fun h1 h2=>by omega
    have neg:¬(0<=zC g s/\zC g s<(b.length:Int))->zC g s≠b.length->¬(0<=zC g s/\zC g s<((b.length+1:Nat):Int)):=fun h1 h2 h3=>h1 (by omega)
    by_cases hys:y.nm=s
    ·by_cases hl:zC g s=b.length
     ·have hv:xB g s m=if y.lv=m then some y.ty else none:=by
       unfold xB
       rw [if_neg (by omega),hl,oM,hg]
      rw [if_pos (pos (by omega) (by omega)),hv]
      rw [if_neg (by omega)] at ih
      have hs:wJ g n y b.length=(y.ty.base&&decide (y.lv<=n)):=by
       unfold wJ;rw [hys];simp [hl]
      rw [hs]
      by_cases hb:y.ty.base=true/\y.lv<=n
      ·rw [if_pos (by simp [hb]),w6,if_pos hys]
       by_cases hm:y.lv=m
       ·rw [if_pos hm];simp only;rw [if_pos ⟨by omega,hb.1⟩]
       ·rw [if_neg hm]
      ·rw [if_neg (by simpa using hb),nF,ih]
       by_cases hm:y.lv=m
       ·rw [if_pos hm];simp only;rw [if_neg fun h=>hb ⟨h.2,by omega⟩]
       ·rw [if_neg hm]
     ·have hs:wJ g n y b.length=false:=by unfold wJ;rw [hys];simp [hl]
      rw [hs]
      simp only [mM,nT,nF]
      rw [ih]
      by_cases h0:0<=zC g s/\zC g s<b.length
      ·rw [if_pos h0,if_pos (pos (by omega) h0.1)]
      ·rw [if_neg h0,if_neg (neg h0 hl)]
    ·have e:xB (yB g n b 0++if wJ g n y b.length=true then [y] else []) s m=xB (yB g n b 0) s m:=by
      split
      ·rw [w6,if_neg hys]
      ·rw [nF]
     rw [e,ih]
     have hne:zC g s≠b.length:=fun h=>by
      rcases hnm with h1 | h1
      ·omega
      ·rw [h,oM,hg] at h1;exact hys h1
     by_cases h0:0<=zC g s/\zC g s<b.length
     ·rw [if_pos h0,if_pos (pos (by omega) h0.1)]
     ·rw [if_neg h0,if_neg (neg h0 hne)]
 have h:=key g [] (by simp)
 have hin:zC g s = -1\/(0<=zC g s/\zC g s<g.length):=uF g s g.length
 unfold xA
 rw [h]
 by_cases h0:0<=zC g s/\zC g s<g.length
 ·rw [if_pos h0]
 ·rw [if_neg h0]
  have:xB g s m=none:=by unfold xB;rw [if_pos (by omega)]
  rw [this]
/-- what a context says, another says -/
def Ext (g g':List Tg):Prop:=∀ s n t,xB g s n=some t->xB g' s n=some t
theorem Ext.snoc {g g':List Tg} (h:Ext g g') (y:Tg):Ext (g++[y]) (g'++[y]):=fun s n t ht=>by
 rw [w6] at ht ⊢
 split
 ·rename_i hs;rw [if_pos hs] at ht;exact ht
 ·rename_i hs;rw [if_neg hs] at ht;exact h s n t ht
theorem Ext.safe {g g':List Tg} (h:Ext g g') (n:Int):Ext (xA g n) (xA g' n):=fun s m t ht=>by
 rw [zDN] at ht ⊢
 cases hv:xB g s m with
 | none=>rw [hv] at ht;cases ht
 | some u=>rw [hv] at ht;rw [h s m u hv];exact ht
theorem zDf {g g':List Tg} {n:Int}:∀ {l:List Tm} {us:List Ty},(∀ x∈l,∀ u,x.type g n=some u->x.type g' n=some u)->zY l g n=some us->zY l g' n=some us
 | [],_,_,h=>h
 | x :: l,us,ih,h=>by
   simp only [zY] at h ⊢
   split at h
   ·rename_i u hu
    rw [ih x (by simp) u hu]
    split at h
    ·rename_i vs hvs
     rw [zDf (fun y hy=>ih y (nE x hy)) hvs]
     exact h
    ·cases h
   ·cases h
theorem zGL {g g':List Tg} {n:Int}:∀ {l:List Tm} {i:Nat} {u:Ty},(∀ x∈l,∀ u,x.type g n=some u->x.type g' n=some u)->xZ l i g n=some u->xZ l i g' n=some u
 | [],_,_,_,h=>h
 | x::l,0,u,ih,h=>by simp only [xZ] at h ⊢;exact ih x (by simp) u h
 | x::l,i+1,u,ih,h=>by simp only [xZ] at h ⊢;exact zGL (fun y hy=>ih y (nE x hy)) h
theorem zNT {a b:Option Ty} {u:Ty} (h:vld a=some u) (hab:a=some u->b=some u):vld b=some u:=by
 obtain ⟨h1,h2⟩:=zD5 h
 rw [hab h1];simp [vld,h2]
theorem zLE:∀ (t:Tm) (g g':List Tg) (n:Int) (u:Ty),Ext g g'->t.type g n=some u->t.type g' n=some u:=by
 refine Tm.ind fun k nm ot m ty re l ih g g' n u hE h=>?_
 simp only [Tm.type] at h ⊢
 refine zNT h fun h=>?_
 have at_:∀ {g g':List Tg} {i:Nat} {n:Int} {u:Ty},Ext g g'->xZ l i g n=some u->xZ l i g' n=some u:=fun hE h=>zGL (fun x hx u hu=>ih x hx _ _ _ u hE hu) h
 split
 ·rename_i hk;rw [if_pos hk] at h;exact hE _ _ _ h
 rename_i hk;rw [if_neg hk] at h
 split
 ·rename_i hk;rw [if_pos hk] at h;exact h
 rename_i hk;rw [if_neg hk] at h
 split
 ·rename_i hk;rw [if_pos hk] at h;exact h
 rename_i hk;rw [if_neg hk] at h
 split
 ·rename_i hk
  rw [if_pos hk] at h
  split at h
  ·rename_i b hb;rw [at_ (hE.snoc _) hb];exact h
  ·cases h
 rename_i hk;rw [if_neg hk] at h
 split
 ·rename_i hk
  rw [if_pos hk] at h
  split at h
  ·rename_i a ha;rw [at_ hE ha];exact at_ (hE.snoc _) h
  ·cases h
 rename_i hk;rw [if_neg hk] at h
 split
 ·rename_i hk
  rw [if_pos hk] at h
  split at h
  ·rename_i b hb;rw [at_ ((hE.snoc _).snoc _) hb];exact h
  ·cases h
 rename_i hk;rw [if_neg hk] at h
 split
 ·rename_i hk
  rw [if_pos hk] at h
  split at h
  ·rename_i b hb
   have hE2:Ext (if k=12 then xA g n else g) (if k=12 then xA g' n else g'):=by
    split
    ·exact hE.safe n
    ·exact hE
   rw [at_ hE2 hb];exact h
  ·cases h
 ·rename_i hk
  rw [if_neg hk] at h
  split at h
  ·rename_i us hus;rw [zDf (fun x hx u hu=>ih x hx _ _ _ u hE hu) hus];exact h
  ·cases h
/-- the free names of a typed term are bound -/
def Bnd (g:List Tg) (s:ByteArray):Prop:=∃ m t,xB g s m=some t
theorem Bnd.snoc {g:List Tg} {y:Tg} {s:ByteArray} (h:Bnd (g++[y]) s) (hs:y.nm≠s):Bnd g s:=by
 obtain ⟨m,t,h⟩:=h
 rw [w6,if_neg hs] at h
 exact ⟨m,t,h⟩
theorem Bnd.safe {g:List Tg} {n:Int} {s:ByteArray} (h:Bnd (xA g n) s):Bnd g s:=by
 obtain ⟨m,t,h⟩:=h
 rw [zDN] at h
 cases hv:xB g s m with
 | none=>rw [hv] at h;cases h
 | some u=>exact ⟨m,u,hv⟩
theorem w8 {g:List Tg} {n:Int}:∀ {l:List Tm} {i:Nat} {u:Ty},xZ l i g n=some u->∃ x,l[i]?=some x/\x.type g n=some u
 | [],_,_,h=>by cases h
 | x::l,0,u,h=>⟨x,rfl,h⟩
 | x::l,i+1,u,h=>by simp only [xZ] at h;simpa using w8 h
theorem zB5 {g:List Tg} {n:Int}:∀ {l:List Tm} {us:List Ty},zY l g n=some us->∀ x∈l,∃ u,x.type g n=some u
 | [],_,_,x,hx=>by simp at hx
 | y :: l,us,h,x,hx=>by
   simp only [zY] at h
   split at h
   ·rename_i u hu
    split at h
    ·rename_i vs hvs
     rcases oG.1 hx with rfl | hx
     ·exact ⟨u,hu⟩
     ·exact zB5 hvs x hx
    ·cases h
   ·cases h
theorem zKC {l:List Tm} (h:l.length=1) {j:Nat} {x y:Tm} (hx:l[0]?=some x) (hy:l[j]?=some y):j=0/\y=x:=by
 have:j<l.length:=(oB.1 hy).1
 obtain rfl:j=0:=by omega
 rw [hx] at hy;cases hy;exact ⟨rfl,rfl⟩
theorem zO5:∀ (t:Tm),t.ok=true->∀ (g:List Tg) (n:Int) (u:Ty),t.type g n=some u->∀ s∈t.fv,Bnd g s:=by
 refine Tm.ind fun k nm ot m ty re l ih hok g n u h s hs=>?_
 have node:=yU hok
 have har:=node.ar
 simp only [Tm.type] at h
 replace h:=(zD5 h).1
 rcases Tm.fv_mem.1 hs with ⟨hk,rfl⟩ | ⟨hk,j,x,hj,hx⟩
 ·rw [if_pos hk] at h;exact ⟨_,_,h⟩
 have hm:=oC hj
 have use:∀ {g n u},x.type g n=some u->s∈x.fv->Bnd g s:=fun h1 h2=>ih x hm (node.sub x hm) _ _ _ h1 s h2
 rw [if_neg hk] at h
 have leaf:k=2\/k=3->False:=fun h=>by
  have:l.length=0:=by rcases h with rfl | rfl<;>(have:(l.length:Int)=0:=har;omega)
  have:j<l.length:=(oB.1 hj).1
  omega
 rw [if_neg fun h=>leaf (.inl h),if_neg fun h=>leaf (.inr h)] at h
 unfold fvI at hx
 split at h
 ·rename_i h6
  subst h6
  have hl:l.length=1:=by have:(l.length:Int)=1:=har;omega
  split at h
  ·rename_i b hb
   obtain ⟨y,hy,hty⟩:=w8 hb
   obtain ⟨rfl,rfl⟩:=zKC hl hy hj
   rw [hl] at hx
   have hx:s∈zBT [nm] x.fv:=hx
   rw [zFN] at hx
   exact (use hty hx.1).snoc fun e=>hx.2 (by simp [<-e])
  ·cases h
 rename_i h6
 split at h
 ·rename_i h8
  subst h8
  have hl:l.length=2:=by have:(l.length:Int)=2:=har;omega
  split at h
  ·rename_i a ha
   obtain ⟨y,hy,hty⟩:=w8 ha
   obtain ⟨z,hz,htz⟩:=w8 h
   rw [hl] at hx
   have:j<l.length:=(oB.1 hj).1
   have hj2:j=0\/j=1:=by omega
   rcases hj2 with rfl | rfl
   ·rw [hy] at hj;cases hj
    exact use hty (by simpa [zEN] using hx)
   ·rw [hz] at hj;cases hj
    have hx:s∈zBT [nm] x.fv:=hx
    rw [zFN] at hx
    exact (use htz hx.1).snoc fun e=>hx.2 (by simp [<-e])
  ·cases h
 rename_i h8
 split at h
 ·rename_i h9
  subst h9
  have hl:l.length=1:=by have:(l.length:Int)=1:=har;omega
  split at h
  ·rename_i b hb
   obtain ⟨y,hy,hty⟩:=w8 hb
   obtain ⟨rfl,rfl⟩:=zKC hl hy hj
   rw [hl] at hx
   have hx:s∈zBT [nm,ot] x.fv:=hx
   rw [zFN] at hx
   exact ((use hty hx.1).snoc fun e=>hx.2 (by simp [<-e])).snoc fun e=>hx.2 (by simp [<-e])
  ·cases h
 rename_i h9
 have hb:zEN k l.length = -1:=by unfold zEN;rw [if_neg (by omega),if_neg (by omega),if_neg (by omega)]
 rw [hb,if_neg (by omega)] at hx
 split at h
 ·rename_i hs4
  have hl:l.length=1:=by rcases hs4 with rfl | rfl | rfl | rfl<;>(have:(l.length:Int)=1:=har;omega)
  split at h
  ·rename_i b hb
   obtain ⟨y,hy,hty⟩:=w8 hb
   obtain ⟨rfl,rfl⟩:=zKC hl hy hj
   have:=use hty hx
   split at this
   ·exact this.safe
   ·exact this
  ·cases h
 ·split at h
  ·rename_i us hus
   obtain ⟨v,hv⟩:=zB5 hus x hm
   exact use hv hx
  ·cases h
theorem zM8 {t:Tm} (hok:t.ok=true) {n:Int} {u:Ty} (h:t.type [] n=some u):t.fv=[]:=
 o6.2 fun s hs=>by
  obtain ⟨m,t,h⟩:=zO5 t hok [] n u h s hs
  cases h
theorem q9 (g:List Tg) (n:Int):∀ (l:List Tg) (i:Nat) (x:Tg),x∈yB g n l i->∃ j,l[j]?=some x/\wJ g n x (i+j)=true
 | [],_,_,h=>by simp [yB] at h
 | y::l,i,x,h=>by
   have step:x∈yB g n l (i+1)->∃ j,(y::l)[j]?=some x/\wJ g n x (i+j)=true:=fun h=>by
    obtain ⟨j,h1,h2⟩:=q9 g n l (i+1) x h
    exact ⟨j+1,by simpa using h1,by rw [show i+(j+1)=i+1+j by omega];exact h2⟩
   simp only [yB] at h
   split at h
   ·rename_i hy
    rcases oG.1 h with rfl | h
    ·exact ⟨0,rfl,hy⟩
    ·exact step h
   ·exact step h
theorem pm (g:List Tg) (n:Int):∀ (l:List Tg) (i:Nat),((yB g n l i).map (·.nm)).Nodup
 | [],_=>by simp [yB]
 | y::l,i=>by
   have h:=pm g n l (i+1)
   simp only [yB]
   split
   ·rename_i hy
    rw [o8,nW]
    refine ⟨fun hc=>?_,h⟩
    obtain ⟨x,hx,hn⟩:=oS.1 hc
    obtain ⟨j,h1,h2⟩:=q9 g n l (i+1) x hx
    simp only [wJ,oL,nC] at hy h2
    rw [hn] at h2
    omega
   ·exact h
theorem zGJ (g:List Tg) (s:ByteArray):∀ n i,i<n->(g.getD i tg0).nm=s->(i:Int)<=xc g s n
 | 0,i,h,_=>by omega
 | n+1,i,h,hs=>by
   simp only [xc]
   split
   ·omega
   ·rename_i hn
    by_cases hi:i=n
    ·subst hi;exact absurd hs hn
    ·exact zGJ g s n i (by omega) hs
theorem zFu {g:List Tg} (h:(g.map (·.nm)).Nodup) {i:Nat} {x:Tg} (hx:g[i]?=some x):zC g x.nm=i:=by
 have hi:i<g.length:=(oB.1 hx).1
 have h1:=zGJ g x.nm g.length i hi (by rw [zCD hx])
 have h2:=zBs g x.nm g.length
 have h3:=uF g x.nm g.length
 unfold zC
 generalize xc g x.nm g.length=k at *
 obtain ⟨j,rfl⟩:∃ j:Nat,k=j:=⟨k.toNat,by omega⟩
 rcases h2 with h2 | h2
 ·omega
 rw [oM] at h2
 have hj:j<g.length:=by omega
 have e:(g.map (·.nm))[i]?=(g.map (·.nm))[j]?:=by
  rw [oE,oE,hx,oD hj]
  rw [oA,oD hj] at h2
  simpa using h2.symm
 rw [oD (by simpa using hi),oD (by simpa using hj),oi] at e
 have hp:=List.pairwise_iff_getElem.1 h
 rcases Nat.lt_trichotomy i j with h4 | h4 | h4
 ·exact absurd e (hp i j (by simpa using hi) (by simpa using hj) h4)
 ·rw [h4]
 ·exact absurd e.symm (hp j i (by simpa using hj) (by simpa using hi) h4)
theorem zF5 (g:List Tg) (n:Int):∀ (l:List Tg) (i:Nat),(∀ j x,l[j]?=some x->wJ g n x (i+j)=true)->yB g n l i=l
 | [],_,_=>rfl
 | y::l,i,h=>by
   simp only [yB]
   rw [if_pos (by simpa using h 0 y rfl),zF5 g n l (i+1) fun j x hx=>by rw [show i+1+j=i+(j+1) by omega];exact h (j+1) x (by simpa using hx)]
theorem zJz (g:List Tg) (n:Int):xA (xA g n) n=xA g n:=by
 refine zF5 _ n _ 0 fun j x hx=>?_
 have hm:=oC hx
 obtain ⟨i,_,h2⟩:=q9 g n g 0 x hm
 simp only [wJ,oL,nC,nh] at h2 ⊢
 exact ⟨h2.1,h2.2.1,zFu (pm g n g 0) hx⟩
end Go.Proofs.YtkdjhkfiolhkiaaGreat
set_option maxRecDepth 100000
namespace Go.Proofs.YtkdjhkfiolhkiaaGreat
open Go Go.Proofs Go.Proofs.Tryz Go.IntWalk
theorem zLK {es:List D} (hb:∀ d∈es,∃ n:Int,d=.lit (.int .u8 n)) (hl:es.length<=1073741824) (a:Option Addr) (c:Nat) (N:Nat) (Q:QT [.sl 4,.ag 9,.int .i64])
  (hQ:∀ a1 e1 c1 d n N',N<=N'->zOK e1->Some 2100000 d->Q a1 e1 c1 d n N'):ACalls prog 30 [.sl 4,.ag 9,.int .i64] [.sv a 0 es c] N Q:=by
 refine pA N a es c Q fun _ N1 hN1=>zNU hb hl a c N1 _ fun h N2 hN2 hcu _ N3 hN3=>zm hcu 4 (by omega) a c h N3 _ fun r a1 es1 c1 i1 h1 N4 hN4 hc1 _ _ _ _ _=>Br.of (fun _ N5 hN5=>?_) fun _=>Br.of (fun _ N5 hN5=>?_) fun _ N5 hN5=>?_
 ·exact zH5 hc1 a1 c1 h1 N5 _ fun d a2 es2 c2 i2 h2 N6 hN6 hc2 hd _ _ _=>⟨⟨rfl,rfl⟩,⟨rfl,rfl⟩,fun a3 N7 hN7 _ N8 hN8=>hQ _ _ _ _ _ _ (by omega) ⟨[],⟨by simp,rfl⟩,by simp,by simp⟩ hd⟩
 ·refine zMm hc1 a1 c1 h1 N5 _ fun a2 e2 c2 a3 es3 c3 i3 h3 N6 hN6 hc3 hctx _ _ _ N7 hN7=>zKG hc3 a3 c3 h3 N7 _ fun d a4 es4 c4 i4 h4 N8 hN8 hc4 hd _ _ _ N9 hN9=>?_
  exact zm hc4 3 (by omega) a4 c4 h4 N9 _ fun n a5 es5 c5 i5 h5 N10 hN10 hc5 _ _ _ _ _ N11 hN11=>hQ _ _ _ _ _ _ (by omega) hctx (hd.mono (by omega))
 ·refine zm hc1 3 (by omega) a1 c1 h1 N5 _ fun n a2 es2 c2 i2 h2 N6 hN6 hc2 n0 n3 _ _ _=>?_
  have n3:=n3 (by omega)
  have key:∀ (m:Nat) (k:Int) (g:List Tg) (r:List D) (q:Nat) {es:List D} {i:Int} (_:Cu es i) a c h N',k+m=n->0<=k->N<=N'->All2 Tg.Is g r->(g.length:Int)=k->(∀ x∈g,x.ty.cnt<=3)->yP Q N r.length q n k 0 (bytes []) (bytes []) 0 0 none [] 0 0 none [] 0 none [] 0 a es c i h r q N':=by
   intro m
   induction m with
   | zero=>
     intro k g r q es i hcu a c h N' hk hk0 hN' hg hgl hgc
     have hrl:=hg.len
     refine wr _ _ _ _ _ _ _ _ _ _ _ _ _ _ _ _ _ _ _ _ _ _ _ _ _ _ _ _ _ (Br.dec (fun h=>by omega) fun _ N7 hN7=>zm hcu 2 (by omega) a c h N7 _ fun v a3 es3 c3 i3 h3 N8 hN8 hc3 _ _ _ _ _ N9 hN9=>zN8 2 (by omega) hc3 a3 c3 h3 N9 _ fun x a4 es4 c4 i4 h4 N10 hN10 hc4 hx _ _ _=>⟨⟨rfl,rfl⟩,⟨rfl,rfl⟩,⟨rfl,rfl⟩,fun a5 N11 hN11 _ N12 hN12=>?_⟩)
     obtain ⟨t,hw,ht,htc⟩:=hx
     exact zN3 (k:=4) (by omega) (by omega) t hw (by omega) ht ⟨by omega,hg⟩ (by omega) (fun x hx=>oW (hgc x hx) (by omega)) v a5 q hc4 a4 c4 h4 N12 _ fun d a6 es6 c6 i6 h6 N13 hN13 hc6 hd _ _ _ N14 hN14=>hQ _ _ _ _ _ _ (by omega) ⟨g,⟨by omega,hg⟩,by omega,hgc⟩ (hd.mono (by omega))
   | succ m ih=>
     intro k g r q es i hcu a c h N' hk hk0 hN' hg hgl hgc
     have hrl:=hg.len
     have nm:∃ s,List.getD [D.lit (.string (bytes [120])),D.lit (.string (bytes [121]))] (0+k.toNat) default=D.lit (.string s)/\s.size<=1000:=by
      have:k=0\/k=1:=by omega
      rcases this with rfl | rfl<;>exact ⟨_,rfl,by decide⟩
     obtain ⟨s,hs,hsz⟩:=nm
     refine wr _ _ _ _ _ _ _ _ _ _ _ _ _ _ _ _ _ _ _ _ _ _ _ _ _ _ _ _ _ (Br.dec (fun _=>⟨⟨hk0,by omega,by omega⟩,by omega,s,hs,fun N7 hN7=>zJ7 0 hcu a c h N7 _ fun x a3 es3 c3 i3 h3 N8 hN8 hc3 hx _ _ _ N9 hN9=>zm hc3 2 (by omega) a3 c3 h3 N9 _ fun v a4 es4 c4 i4 h4 N10 hN10 hc4 _ _ _ _ _=>⟨⟨rfl,rfl⟩,by unfold zA;rw [oH];simp only [oN,oP];omega,fun c6=>?_⟩⟩) fun h=>by omega)
     obtain ⟨t,hw,ht,htc⟩:=hx
     rw [i64_in (k+1) (by omega)]
     exact ih (k+1) (g++[⟨s,t,v⟩]) _ c6 hc4 a4 c4 h4 N10 (by omega) (by omega) (by omega) (hg.snoc (t:=(⟨s,t,v⟩:Tg)) ⟨_,_,rfl,by show s.size<=_;omega,Ty.is_cells ht⟩) (by simp;omega) fun z hz=>by
      rcases oK.1 hz with hz | hz
      ·exact hgc z hz
      ·rw [oh] at hz;subst hz;exact htc
  exact key n.toNat 0 [] [] 0 hc2 a2 c2 h2 N6 (by omega) (by omega) (by omega) rfl rfl (by simp)
theorem zHf {es:List D} (hb:∀ d∈es,∃ n:Int,d=.lit (.int .u8 n)) (hl:es.length<=1073741824) (a:Option Addr) (c:Nat) (N:Nat) (Q:QT [.ag 9])
  (hQ:∀ d N',N<=N'->Some 2100000 d->Q d N'):ACalls prog 35 [.ag 9] [.sv a 0 es c] N Q:=
 sW N a es c Q fun _ N1 hN1=>zNU hb hl a c N1 _ fun h N2 hN2 hcu _ N3 hN3=>wu hcu 4 (by omega) a c h N3 _ fun b a1 es1 c1 i1 h1 N4 hN4 hc1 _ _=>Br.of (fun _ N5 hN5=>zKG hc1 a1 c1 h1 N5 _ fun d a2 es2 c2 i2 h2 N6 hN6 hc2 hd _ _ _ N7 hN7=>hQ _ _ (by omega) (hd.mono (by omega))) fun _ N5 hN5=>zH5 hc1 a1 c1 h1 N5 _ fun d a2 es2 c2 i2 h2 N6 hN6 hc2 hd _ _ _ N7 hN7=>hQ _ _ (by omega) hd
theorem zJw {es:List D} (hb:∀ d∈es,∃ n:Int,d=.lit (.int .u8 n)) (hl:es.length<=1073741824) (a:Option Addr) (c:Nat) (N:Nat) (Q:QT [.sl 4,.int .i64])
  (hQ:∀ a1 e1 c1 n N',N<=N'->zOK e1->Q a1 e1 c1 n N'):ACalls prog 36 [.sl 4,.int .i64] [.sv a 0 es c] N Q:=
 rl N a es c Q fun _ N1 hN1=>zNU hb hl a c N1 _ fun h N2 hN2 hcu _ N3 hN3=>zMm hcu a c h N3 _ fun a2 e2 c2 a3 es3 c3 i3 h3 N6 hN6 hc3 hctx _ _ _ N7 hN7=>zm hc3 4 (by omega) a3 c3 h3 N7 _ fun n a5 es5 c5 i5 h5 N10 hN10 hc5 _ _ _ _ _ N11 hN11=>hQ _ _ _ _ _ (by omega) hctx
theorem zGj {g:List Tg} {es fs:List D} (h:Ctx g es) (h':Ctx g fs) (a b:Option Addr) (c c':Nat):v3 41 [.sv a 4 es c,.sv b 4 fs c'] true:=fun N Q hQ=>by
 have hl:=h.all.len
 have hl':=h'.all.len
 refine zCv N a es c b fs c' Q fun _ _=>Br.bne (fun h=>by omega) fun _=>?_
 refine up h.all h.len (fun i xs=>∀ (N':Nat),N<=N'->xS Q N a es c b fs c' i N') ?_ ?_ N (oF _)
 ·intro i hlt hi N' hN'
  exact u7 _ _ _ _ _ _ _ _ _ _ (Br.of (fun h=>by rw [hlt] at h;cases h) fun _ N2 hN2=>hQ _ (by omega))
 ·intro i x xs hat _ ih N' hN'
  have hb:=hat.b
  obtain ⟨t0,t1,hd,hnm,hty⟩:=hat.r
  obtain ⟨u0,u1,he,hnm',hty'⟩:=h'.all.get hat.g
  have bd:(0:Int)<=(i:Int)/\(i:Int)<(fs.length:Int):=⟨by omega,by omega⟩
  refine u7 _ _ _ _ _ _ _ _ _ _ (Br.of (fun _=>?_) fun h=>by rw [hat.lt] at h;cases h)
  rw [oM,hd,he,hat.w]
  exact ⟨hb,x.nm,rfl,bd,x.nm,rfl,Br.of (fun h=>by simp at h) fun _=>⟨hb,x.lv,rfl,bd,x.lv,rfl,Br.bne (fun h=>absurd rfl h) fun _=>⟨hb,bd,fun N1 hN1=>yd x.ty x.ty _ _ hty hty' N1 _ fun N2 hN2 _=>Br.of (fun h=>by rw [t8] at h;cases h) fun _=>ih N2 (by omega)⟩⟩⟩
/-- what a program is -/
def Tm.isP (t:Tm):Bool:=(wt [] t 0).isSome&&t.vd
theorem uz (t:Tm) (d:D) (hd:t.Is d) (hc:t.cnt<=524288000):v3 38 [.dg 9 d] t.isP:=fun N Q hQ=>by
 refine zAl N d Q fun _ N1 hN1=>ue (g:=[]) ⟨by simp,rfl⟩ (by simp) hd (by omega) none 0 0 N1 _ fun x N2 hN2 _ _ _ _=>Br.of (fun h N3 hN3=>qJ t d hd (by omega) N3 _ fun N4 hN4 _ N5 hN5=>?_) fun h N3 hN3=>?_
 ·have:=hQ N5 (by omega);rw [Tm.isP,h,Bool.true_and] at this;exact this
 ·have:=hQ N3 (by omega);rw [Tm.isP,h,Bool.false_and] at this;exact this
theorem zAI (t:Tm) (d:D) (hd:t.Is d) (hc:t.cnt<=524288000):v3 39 [.dg 9 d] t.isP:=fun N Q hQ=>by
 refine zAP N d Q fun _=>⟨⟨rfl,rfl⟩,fun a N0 hN0 _ N1 hN1=>qU (g:=[]) ⟨by simp,rfl⟩ (by simp) hd (by omega) a 0 0 N1 _ fun x N2 hN2 _ _ _=>Br.of (fun h N3 hN3=>vp t d hd (by omega) N3 _ fun N4 hN4 _ N5 hN5=>?_) fun h N3 hN3=>?_⟩
 ·have:=hQ N5 (by omega);rw [Tm.isP,h,Bool.true_and] at this;exact this
 ·have:=hQ N3 (by omega);rw [Tm.isP,h,Bool.false_and] at this;exact this
theorem zGM {g:List Tg} {e:Tm} {n:Int} {t:Ty} (h:wt g e n=some t) (hl:(g.length:Int)+1<=12):wt (⟨bytes [113,57],tInt,0⟩::g) e n=some t:=by
 unfold wt at h ⊢
 split at h
 ·rename_i h2
  have hq:Tg.ok ⟨bytes [113,57],tInt,0⟩=true:=by decide +kernel
  have h3:=h2.1
  simp only [zBy,oL] at h3
  rw [if_pos ⟨by simp only [zBy,zAx,hq,h3.1,Bool.true_and];simp;omega,h2.2⟩]
  exact zLE e g _ n t (fun s m u hu=>zHE _ g hu) h
 ·cases h
theorem zKE {es:List D} (hb:∀ d∈es,∃ n:Int,d=.lit (.int .u8 n)) (a:Option Addr) (c:Nat) (N:Nat) :
  ACalls prog 5 [.bool] [.sv a 0 es c] N (fun r _=>r=true):=by
 refine zCu N a es c _ fun _ N1 hN1=>zIx N1 a es c _ fun _ N2 hN2 _=>Br.dec (fun _ N3 _=>rfl) fun hlen N4 hN4=>?_
 have L12:∀ N',yV (fun r _=>r=true) N a es c N':=fun N'=>by
  refine pG _ _ _ _ _ _ fun N1 hN1=>zHf hb (by omega) a c N1 _ fun p N2 hN2 hp _ _ N3 hN3=>zJw hb (by omega) a c N3 _ fun a3 e3 c3 m N4 hN4 hctx _ _ N5 hN5=>?_
  obtain ⟨t,ht,htc⟩:=hp
  obtain ⟨g,ctx,hgl,hgc⟩:=hctx
  have gc2:∀ x∈g,x.ty.cnt<=1073741824:=fun x hx=>by have:=hgc x hx;omega
  have hvc:=Tm.vc_cnt t
  refine zB2 ctx (by omega) gc2 a3 c3 m N5 _ fun a4 e4 c4 N6 hN6 hsafe _ _ N7 hN7=>uz t p ht (by omega) N7 _ fun N8 hN8 _ N9 hN9=>zAI t p ht (by omega) N9 _ fun N10 hN10 _=>Br.of (fun h=>by simp at h) fun _ N12 hN12=>uz t p ht (by omega) N12 _ fun N13 hN13 _=>?_
  obtain ⟨s1,s2⟩:=zII (m:=0) (M:=1000) (g:=g) (by omega) (fun x hx=>oW (hgc x hx) (by omega)) m
  refine Br.of (fun hP N14 hN14=>zA9 N14 p _ fun _ N15 hN15=>zCO t p ht (by omega) N15 _ fun a5 c5 N16 hN16 _ _ _ N17 hN17 _=>Br.of (fun h=>?_) fun _ N18 hN18=>?_) fun _ N18 hN18=>?_
  ·have hfv:t.fv=[]:=by
    simp only [Tm.isP,wt,oL] at hP
    obtain ⟨h1,h2⟩:=hP
    split at h1
    ·cases hx:t.type [] 0 with
     | none=>rw [hx] at h1;cases h1
     | some u=>
       simp only [Tm.vd,oL] at h2
       exact zM8 h2.2 hx
    ·cases h1
   rw [hfv] at h;simp [zB] at h
  all_goals
   refine wW ctx (by omega) gc2 a3 c3 m N18 _ fun a6 e6 c6 N19 hN19 hs6 _ _ N20 hN20=>zGj hsafe hs6 a4 a6 c4 c6 N20 _ fun N21 hN21 _=>Br.of (fun h=>by cases h) fun _ N22 hN22=>vk ctx gc2 a3 c3 N22 _ fun N23 hN23 _ N24 hN24=>vq ctx gc2 a3 c3 N24 _ fun N25 hN25 _=>Br.of (fun h=>by simp at h) fun _=>?_
   refine qy _ _ _ _ _ _ _ fun N26 hN26=>zB2 hsafe (by omega) (fun x hx=>oW (s2 x hx) (by omega)) a4 c4 m N26 _ fun a7 e7 c7 N27 hN27 hs7 _ _ N28 hN28=>?_
   rw [zJz] at hs7
   exact zGj hs7 hsafe a7 a4 c7 c4 N28 _ fun N29 hN29 _ N30 hN30=>rfl
 refine zLK hb (by omega) a c N4 _ fun a1 e1 c1 d n N5 hN5 hctx hd _ _ _ N6 hN6=>?_
 obtain ⟨g,ctx,hgl,hgc⟩:=hctx
 obtain ⟨t,ht,htc⟩:=hd
 have hel:=ctx.all.len
 have gc2:∀ x∈g,x.ty.cnt<=1073741824:=fun x hx=>by have:=hgc x hx;omega
 refine ue ctx gc2 ht (by omega) a1 c1 n N6 _ fun x N7 hN7 hx _ _ _ N8 hN8=>qU ctx gc2 ht (by omega) a1 c1 n N8 _ fun y N9 hN9 hy _ _=>Br.of (fun h=>by simp at h) fun _ N10 hN10=>?_
 refine zH _ _ x y hx hy N10 _ fun N11 hN11 _=>Br.of (fun h=>by rw [t8] at h;cases h) fun _=>?_
 have val:∀ u,wt g t n=some u->u.valid=true:=fun u hu=>by
  unfold wt at hu
  split at hu
  ·exact Tm.type_valid hu
  ·cases hu
 have L8:∀ N',xN (fun r _=>r=true) N a es c a1 e1 c1 n (wt g t n).isSome d x N':=fun N'=>by
  have ctx2:Ctx (⟨bytes [113,57],tInt,0⟩::g) ([D.ag [D.lit (.string (bytes [113,57])),D.lit (.int .i64 1),D.sl Option.none 2 [] 0,D.lit (.int .i64 0)]]++e1):=⟨by simp;omega,_,_,rfl,⟨_,_,rfl,by show (bytes [113,57]).size<=_;decide,yv 1⟩,ctx.all⟩
  refine zAM _ _ _ _ _ _ _ _ _ _ _ _ _ ⟨⟨rfl,rfl⟩,by unfold zA;rw [oH];simp only [oN,oP];omega,fun c2=>⟨⟨rfl,rfl⟩,fun a2 _ _ N1 hN1 hbel=>?_⟩⟩
  refine ue ctx2 (fun z hz=>?_) ht (by omega) a2 c2 n N1 _ fun z N2 hN2 hz ho _=>⟨xV hbel ho,fun _=>Br.of (fun hs=>Br.dec (fun hle=>?_) fun _=>L12 _) fun _=>L12 _⟩
  ·rcases oG.1 hz with rfl | hz
   ·decide
   ·exact gc2 z hz
  ·obtain ⟨u,hu⟩:=ma.1 hs
   have e:=zGM hu (by simp at hle;omega)
   rw [e] at hz ⊢
   rw [hu] at hx
   exact Br.of (fun h=>by cases h) fun _ N4 hN4=>zH u u z x hz hx N4 _ fun N5 hN5 _=>Br.of (fun h=>by rw [t8] at h;cases h) fun _=>L12 _
 refine Br.of (fun hs N12 hN12=>?_) fun _=>L8 _
 obtain ⟨u,hu⟩:=ma.1 hs
 have hv:=val u hu
 have hux:u.Is x:=by rw [hu] at hx;exact hx
 have:=Ty.valid_cnt hv
 exact zo u x hux (by omega) N12 _ fun N13 hN13 _=>Br.of (fun h=>by rw [hv] at h;cases h) fun _=>L8 _
end Go.Proofs.YtkdjhkfiolhkiaaGreat
