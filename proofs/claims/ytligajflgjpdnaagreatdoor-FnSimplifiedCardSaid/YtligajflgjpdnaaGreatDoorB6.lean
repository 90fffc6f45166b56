/- Typings: which name is bound to what. -/
import Derived.Test.YtligajflgjpdnaaGreatDoorA1
import Derived.Test.YtligajflgjpdnaaGreatDoorA5
import Derived.Test.YtligajflgjpdnaaGreatDoorA9
import Derived.Test.YtligajflgjpdnaaGreatDoorB2
import Derived.Test.YtligajflgjpdnaaGreatDoorC1
import Derived.Test.YtligajflgjpdnaaGreatDoorKf
set_option linter.unusedVariables false
set_option linter.unusedSimpArgs false
namespace Go.Proofs.YtligajflgjpdnaaGreatDoor
open Go Go.Proofs Go.Proofs.Tryz Go.IntWalk
theorem Ng {α:Type}{P:List α->Prop}(sN:P [])(sC:∀ l x,P l->P (l++[x]))(l:List α):P l:=by
 have key:∀ n,∀ l:List α,l.length=n->P l:=by
  intro n
  induction n with
  | zero=>intro l I;rw[oM I];exact sN
  | succ n O=>
    intro l I;have J:l≠[]:=λhc=>by subst hc;simp at I
    rw[<-List.dropLast_concat_getLast J];exact sC _ _ (O _ (by simp[I]))
 exact key _ l rfl
theorem Fa (g:List Tg)(y:Tg)(s:ByteArray):∀ n,n<=g.length->tT (g++[y]) s n=tT g s n
 | 0,_=>rfl
 | n+1,h=>by
   have e:(g++[y]).getD n tg0=g.getD n tg0:=by rw[oA,oA,oN (by omega)]
   simp only[tT,e,Fa g y s n (by omega)]
theorem tC (g:List Tg)(y:Tg)(s:ByteArray)(n:Int):xj (g++[y]) s n=if y.nm=s then(if y.lv=n then some y.ty else none)else xj g s n:=by
 have e:(g++[y]).getD g.length tg0=y:=by simp[oA]
 have O:zV (g++[y]) s=if y.nm=s then(g.length:Int)else zV g s:=by unfold zV;rw[oJ,nZ];simp only[tT,e,Fa g y s _ (oC _)]
 unfold xj;rw[O];by_cases hs:y.nm=s
 ·simp only[if_pos hs];rw[if_neg (by omega),oH,e]
 ·simp only[if_neg hs];by_cases I:zV g s<0
  ·rw[if_pos I,if_pos I]
  ·rw[if_neg I,if_neg I];have J:=Cf g s g.length;have J:zV g s = -1\/(0<=zV g s/\zV g s<g.length):=J;have U:(g++[y]).getD (zV g s).toNat tg0=g.getD (zV g s).toNat tg0:=by rw[oA,oA,oN (by omega)]
   rw[U]
theorem If {s:ByteArray}(n:Int)(g:List Tg):(∀ y∈g,y.nm≠s)->xj g s n=none:=by
 induction g using Ng with
 | sN=>intro _;rfl
 | sC b q I=>intro h;rw[tC,if_neg (h q (by simp)),I λy J=>h y (by simp[J])]
theorem Ka (g:List Tg)(s:ByteArray):∀ n,tT g s n = -1\/(g.getD (tT g s n).toNat tg0).nm=s
 | 0=>.inl rfl
 | n+1=>by
   simp only[tT];split
   ·rename_i h;right;rw[oH];exact h
   ·exact Ka g s n
theorem GJ (g:List Tg)(n:Int)(y:Tg):∀(l:List Tg)(i:Nat),vo g n (l++[y]) i=vo g n l i++(if AV g n y (i+l.length)then [y]else [])
 | [],i=>by simp[vo]
 | x::xs,i=>by have h:=GJ g n y xs (i+1);simp only[nS,vo,h,oO];rw[show i+1+xs.length=i+(xs.length+1) by omega];split<;>simp
theorem Hn (g:List Tg)(s:ByteArray)(n m:Int):xj (rH g n) s m=(match xj g s m with | some t=>if m<=n/\t.base=true then some t else none | none=>none):=by
 have key:∀ b:List Tg,∀ r,g=b++r->xj (vo g n b 0) s m=if 0<=zV g s/\zV g s<b.length then(match xj g s m with | some t=>if m<=n/\t.base=true then some t else none | none=>none)else none:=by
  intro b
  induction b using Ng with
  | sN=>intro r _;rw[if_neg (by simp)];rfl
  | sC b y U=>
    intro r hr;have hg:g.getD b.length tg0=y:=by rw[hr];simp[oA]
    have O:=Ka g s g.length;have O:zV g s = -1\/(g.getD (zV g s).toNat tg0).nm=s:=O;rw[GJ,ow,oJ,nZ];have U:=U (y::r) (by simp[hr]);have pos:zV g s<=b.length->0<=zV g s->(0<=zV g s/\zV g s<((b.length+1:Nat):Int)):=λh1 h2=>by omega
    have neg:¬(0<=zV g s/\zV g s<(b.length:Int))->zV g s≠b.length->¬(0<=zV g s/\zV g s<((b.length+1:Nat):Int)):=λh1 h2 h3=>h1 (by omega);by_cases J:y.nm=s
    ·by_cases hl:zV g s=b.length
     ·have hv:xj g s m=if y.lv=m then some y.ty else none:=by unfold xj;rw[if_neg (by omega),hl,oH,hg]
      rw[if_pos (pos (by omega) (by omega)),hv];rw[if_neg (by omega)]at U;have hs:AV g n y b.length=(y.ty.base&&decide (y.lv<=n)):=by unfold AV;rw[J];simp[hl]
      rw[hs];by_cases hb:y.ty.base=true/\y.lv<=n
      ·rw[if_pos (by simp[hb]),tC,if_pos J];by_cases Y:y.lv=m
       ·rw[if_pos Y];simp only;rw[if_pos ⟨by omega,hb.1⟩]
       ·rw[if_neg Y]
      ·rw[if_neg (by simpa using hb),nH,U];by_cases Y:y.lv=m
       ·rw[if_pos Y];simp only;rw[if_neg λh=>hb ⟨h.2,by omega⟩]
       ·rw[if_neg Y]
     ·have hs:AV g n y b.length=false:=by unfold AV;rw[J];simp[hl]
      rw[hs];simp only[mu,nz,nH];rw[U];by_cases I:0<=zV g s/\zV g s<b.length
      ·rw[if_pos I,if_pos (pos (by omega) I.1)]
      ·rw[if_neg I,if_neg (neg I hl)]
    ·have e:xj (vo g n b 0++if AV g n y b.length=true then [y]else []) s m=xj (vo g n b 0) s m:=by
      split
      ·rw[tC,if_neg J]
      ·rw[nH]
     rw[e,U];have aa:zV g s≠b.length:=λh=>by
      rcases O with h1 | h1
      ·omega
      ·rw[h,oH,hg]at h1;exact J h1
     by_cases I:0<=zV g s/\zV g s<b.length
     ·rw[if_pos I,if_pos (pos (by omega) I.1)]
     ·rw[if_neg I,if_neg (neg I aa)]
 have h:=key g [] (by simp);have ab:zV g s = -1\/(0<=zV g s/\zV g s<g.length):=Cf g s g.length;unfold rH;rw[h];by_cases I:0<=zV g s/\zV g s<g.length
 ·rw[if_pos I]
 ·rw[if_neg I];have:xj g s m=none:=by unfold xj;rw[if_pos (by omega)]
  rw[this]
def Ext (g g':List Tg):Prop:=∀ s n t,xj g s n=some t->xj g' s n=some t
theorem Ext.snoc {g g':List Tg}(h:Ext g g')(y:Tg):Ext (g++[y]) (g'++[y]):=λs n t I=>by
 rw[tC]at I ⊢;split
 ·rename_i hs;rw[if_pos hs]at I;exact I
 ·rename_i hs;rw[if_neg hs]at I;exact h s n t I
def Bnd (g:List Tg)(s:ByteArray):Prop:=∃ m t,xj g s m=some t
theorem Bnd.snoc {g:List Tg}{y:Tg}{s:ByteArray}(h:Bnd (g++[y]) s)(hs:y.nm≠s):Bnd g s:=by obtain⟨m,t,h⟩:=h;rw[tC,if_neg hs]at h;exact⟨m,t,h⟩
theorem Bnd.safe {g:List Tg}{n:Int}{s:ByteArray}(h:Bnd (rH g n) s):Bnd g s:=by
 obtain⟨m,t,h⟩:=h;rw[Hn]at h;cases I:xj g s m with
 | none=>rw[I]at h;cases h
 | some u=>exact⟨m,u,I⟩
theorem tH {g:List Tg}{n:Int}:∀ {l:List Tm}{i:Nat}{u:Ty},sk l i g n=some u->∃ x,l[i]?=some x/\x.type g n=some u
 | [],_,_,h=>by cases h
 | x::l,0,u,h=>⟨x,rfl,h⟩
 | x::l,i+1,u,h=>by simp only[sk]at h;simpa using tH h
theorem GG {g:List Tg}{n:Int}:∀ {l:List Tm}{us:List Ty},yn l g n=some us->∀ x∈l,∃ u,x.type g n=some u
 | [],_,_,x,hx=>by simp at hx
 | y :: l,us,h,x,hx=>by
   simp only[yn]at h;split at h
   ·rename_i u J;split at h
    ·rename_i vs I;rcases oF.1 hx with rfl | hx
     ·exact⟨u,J⟩
     ·exact GG I x hx
    ·cases h
   ·cases h
theorem P3 {l:List Tm}(h:l.length=1){j:Nat}{x y:Tm}(J:l[0]?=some x)(I:l[j]?=some y):j=0/\y=x:=by
 have:j<l.length:=(oD.1 I).1;obtain rfl:j=0:=by omega
 rw[J]at I;cases I;exact⟨rfl,rfl⟩
theorem ZE:∀(t:Tm),t.ok=true->∀(g:List Tg)(n:Int)(u:Ty),t.type g n=some u->∀ s∈t.fv,Bnd g s:=by
 refine Tm.ind λk nm ot m ty re l ih aa g n u h s hs=>?_;have node:=v8 aa;have O:=node.ar;simp only[Tm.type]at h
 replace h:=(J4 h).1
 rcases Tm.fv_mem.1 hs with⟨hk,rfl⟩ | ⟨hk,j,x,U,I⟩
 ·rw[if_pos hk]at h;exact⟨_,_,h⟩
 have hm:=oB U;have use:∀ {g n u},x.type g n=some u->s∈x.fv->Bnd g s:=λh1 h2=>ih x hm (node.sub x hm) _ _ _ h1 s h2;rw[if_neg hk]at h;have leaf:k=2\/k=3->False:=λh=>by
  have:l.length=0:=by rcases h with rfl | rfl<;>(have:(l.length:Int)=0:=O;omega)
  have:j<l.length:=(oD.1 U).1;omega
 rw[if_neg λh=>leaf (.inl h),if_neg λh=>leaf (.inr h)]at h;unfold fvI at I;split at h
 ·rename_i h6;subst h6;have Y:l.length=1:=by have:(l.length:Int)=1:=O;omega
  split at h
  ·rename_i b hb;obtain⟨y,hy,J⟩:=tH hb;obtain⟨rfl,rfl⟩:=P3 Y hy U;rw[Y]at I;have I:s∈sG [nm] x.fv:=I;rw[yD]at I;exact(use J I.1).snoc λe=>I.2 (by simp[<-e])
  ·cases h
 rename_i h6;split at h
 ·rename_i h8;subst h8;have Y:l.length=2:=by have:(l.length:Int)=2:=O;omega
  split at h
  ·rename_i a ha;obtain⟨y,hy,J⟩:=tH ha;obtain⟨z,hz,ab⟩:=tH h;rw[Y]at I;have:j<l.length:=(oD.1 U).1;have ac:j=0\/j=1:=by omega
   rcases ac with rfl | rfl
   ·rw[hy]at U;cases U;exact use J (by simpa [zN]using I)
   ·rw[hz]at U;cases U;have I:s∈sG [nm] x.fv:=I;rw[yD]at I;exact(use ab I.1).snoc λe=>I.2 (by simp[<-e])
  ·cases h
 rename_i h8;split at h
 ·rename_i h9;subst h9;have Y:l.length=1:=by have:(l.length:Int)=1:=O;omega
  split at h
  ·rename_i b hb;obtain⟨y,hy,J⟩:=tH hb;obtain⟨rfl,rfl⟩:=P3 Y hy U;rw[Y]at I;have I:s∈sG [nm,ot] x.fv:=I;rw[yD]at I;exact((use J I.1).snoc λe=>I.2 (by simp[<-e])).snoc λe=>I.2 (by simp[<-e])
  ·cases h
 rename_i h9;have hb:zN k l.length = -1:=by unfold zN;rw[if_neg (by omega),if_neg (by omega),if_neg (by omega)]
 rw[hb,if_neg (by omega)]at I;split at h
 ·rename_i ae;have Y:l.length=1:=by rcases ae with rfl | rfl | rfl | rfl<;>(have:(l.length:Int)=1:=O;omega)
  split at h
  ·rename_i b hb;obtain⟨y,hy,J⟩:=tH hb;obtain⟨rfl,rfl⟩:=P3 Y hy U
   have:=use J I
   split at this
   ·exact this.safe
   ·exact this
  ·cases h
 ·split at h
  ·rename_i us ah;obtain⟨v,hv⟩:=GG ah x hm;exact use hv I
  ·cases h
theorem WW {t:Tm}(I:t.ok=true){n:Int}{u:Ty}(h:t.type [] n=some u):t.fv=[]:=
 nR.2 λs hs=>by obtain⟨m,t,h⟩:=ZE t I [] n u h s hs;cases h
abbrev Rho:=ByteArray->Int->Option Ty
def Rho.set (r:Rho)(x:ByteArray)(n:Int)(t:Ty):Rho:=λs m=>if x=s then(if n=m then some t else none)else r s m
def Rho.safe (r:Rho)(n:Int):Rho:=λs m=>match r s m with
 | some t=>if m<=n/\t.base=true then some t else none
 | none=>none
class LvB (n:Int):Prop where
 h:0<=n/\n<=2
instance:LvB 0:=⟨by omega⟩
instance:LvB 1:=⟨by omega⟩
instance:LvB (0+1):=⟨by omega⟩
inductive HT:Rho->Tm->Int->Ty->Prop
 | var {r nm ot m ty re l n u} [LvB n]:r nm n=some u->u.valid=true->HT r (.mk 1 nm ot m ty re l) n u
 | int {r nm ot m ty re l n} [LvB n]:HT r (.mk 2 nm ot m ty re l) n tInt
 | bool {r nm ot m ty re l n} [LvB n]:HT r (.mk 3 nm ot m ty re l) n tBool
 | op {r nm ot m ty re l n} [LvB n]:(∀ x∈l,HT r x n (if Fh nm=1 then tInt else tBool))->HT r (.mk 4 nm ot m ty re l) n (vv nm)
 | ite {r nm ot m ty re a b c n u} [LvB n]:HT r a n tBool->HT r b n u->HT r c n u->HT r (.mk 5 nm ot m ty re [a,b,c]) n u
 | lam {r nm ot m ty re b n v} [LvB n]:HT (r.set nm n ty) b n v->(vV ty v).valid=true->HT r (.mk 6 nm ot m ty re [b]) n (vV ty v)
 | app {r nm ot m ty re f x n a b} [LvB n]:HT r f n (vV a b)->HT r x n a->HT r (.mk 7 nm ot m ty re [f,x]) n b
 | lt {r nm ot m ty re a b n t u} [LvB n]:HT r a n t->HT (r.set nm n t) b n u->HT r (.mk 8 nm ot m ty re [a,b]) n u
 | fix {r nm ot m ty re b n} [LvB n]:nm≠ot->HT ((r.set nm n (vV ty re)).set ot n ty) b n re->(vV ty re).valid=true->HT r (.mk 9 nm ot m ty re [b]) n (vV ty re)
 | quote {r nm ot m ty re b n t} [LvB n]:HT r b (n+1) t->(xZ t).valid=true->HT r (.mk 10 nm ot m ty re [b]) n (xZ t)
 | splice {r nm ot m ty re b n t} [LvB n]:HT r b (n - 1) (xZ t)->HT r (.mk 11 nm ot m ty re [b]) n t
 | run {r nm ot m ty re b n t} [LvB n]:HT (r.safe n) b n (xZ t)->HT r (.mk 12 nm ot m ty re [b]) n t
 | lift {r nm ot m ty re b n t} [LvB n]:HT r b n t->t.base=true->(xZ t).valid=true->HT r (.mk 13 nm ot m ty re [b]) n (xZ t)
theorem KL {t:Ty}(I:t.cnt<=30)(J:t.dep<=8)(O:t.form=true):t.valid=true:=by simp only[Ty.valid,oG,o9];exact⟨⟨I,J⟩,O⟩
theorem Ni {t:Ty}(h:t.valid=true):t.cnt<=30/\t.dep<=8/\t.form=true:=by simp only[Ty.valid,oG,o9]at h;exact⟨h.1.1,h.1.2,h.2⟩
theorem Ij {t:Ty}(h:(xZ t).valid=true):t.valid=true:=by obtain⟨O,U,I⟩:=Ni h;have e1:(xZ t).cnt=1+(t.cnt+0):=rfl;have Y:(xZ t).dep=max t.dep 0+1:=rfl;have J:(xZ t).form=(wL [t]&&pV 4 1):=rfl;rw[J]at I;simp only[wL,oG]at I;exact KL (by omega) (by omega) I.1.1
theorem Q3 {a b:Ty}(h:(vV a b).valid=true):a.valid=true/\b.valid=true:=by obtain⟨O,U,I⟩:=Ni h;have e1:(vV a b).cnt=1+(a.cnt+(b.cnt+0)):=rfl;have Y:(vV a b).dep=max a.dep (max b.dep 0)+1:=rfl;have J:(vV a b).form=(wL [a,b]&&pV 3 2):=rfl;rw[J]at I;simp only[wL,oG]at I;exact⟨KL (by omega) (by omega) I.1.1,KL (by omega) (by omega) I.1.2.1⟩
theorem Mj (s:ByteArray):(vv s).valid=true:=by unfold vv;(repeat' split)<;>decide
theorem HT.valid {r:Rho}{e:Tm}{n:Int}{u:Ty}(h:HT r e n u):u.valid=true:=by
 induction h with
 | var _ h=>exact h
 | int=>decide
 | bool=>decide
 | op _ _=>exact Mj _
 | ite _ _ _ _ I _=>exact I
 | lam _ h _=>exact h
 | app _ _ I _=>exact(Q3 I).2
 | lt _ _ _ I=>exact I
 | fix _ _ h _=>exact h
 | quote _ h _=>exact h
 | splice _ I=>exact Ij I
 | run _ I=>exact Ij I
 | lift _ _ h _=>exact h
theorem si (g:List Tg)(y:Tg):xj (g++[y])=Rho.set (xj g) y.nm y.lv y.ty:=by funext s m;rw[tC];rfl
theorem OP (g:List Tg)(n:Int):xj (rH g n)=Rho.safe (xj g) n:=by funext s m;rw[Hn];rfl
theorem FA {t:Ty}(h:t.valid=true)(I:t.k=1\/t.k=2):t=if t.k=1 then tInt else tBool:=by
 cases t with
 | mk k l=>
 have I:k=1\/k=2:=I;simp only[Ty.valid,Ty.form,oG]at h;have J:=h.2.2;unfold pV at J;rw[if_pos I]at J;have:l=[]:=oM (by have:=nM.1 J;omega);subst this;rcases I with rfl | rfl<;>rfl
theorem To {t:Ty}(h:t.valid=true)(I:t.k=3):∃ a b,t=vV a b:=by
 cases t with
 | mk k l=>
 have I:k=3:=I;subst I;simp only[Ty.valid,Ty.form,oG]at h;have J:=h.2.2;unfold pV at J;rw[if_neg (by decide),if_pos rfl]at J;have:l.length=2:=by have:=nM.1 J;omega
 match l,this with
 | [a,b],_=>exact⟨a,b,rfl⟩
theorem LC {t:Ty}(h:t.valid=true)(I:t.k=4):∃ a,t=xZ a:=by
 cases t with
 | mk k l=>
 have I:k=4:=I;subst I;simp only[Ty.valid,Ty.form,oG]at h;have J:=h.2.2;unfold pV at J;rw[if_neg (by decide),if_neg (by decide),if_pos rfl]at J;have:l.length=1:=by have:=nM.1 J;omega
 match l,this with
 | [a],_=>exact⟨a,rfl⟩
theorem len1 {l:List Tm}(h:l.length=1):∃ b,l=[b]:=by
 match l,h with
 | [b],_=>exact⟨b,rfl⟩
theorem Wq {l:List Tm}(h:l.length=2):∃ a b,l=[a,b]:=by
 match l,h with
 | [a,b],_=>exact⟨a,b,rfl⟩
theorem Z3 {l:List Tm}(h:l.length=3):∃ a b c,l=[a,b,c]:=by
 match l,h with
 | [a,b,c],_=>exact⟨a,b,c,rfl⟩
theorem Ps (s:ByteArray):Fh s=1\/Fh s=2:=by unfold Fh;(repeat' split)<;>simp
theorem OV {w:Int}:∀ {I:List Ty},R4 w I=true->∀ t∈I,t.k=w
 | [],_,t,ht=>by simp at ht
 | x::I,h,t,ht=>by
   simp only[R4,oG,nM,o9]at h;rcases oF.1 ht with rfl | ht
   ·exact h.1
   ·exact OV h.2 t ht
theorem Fi {g:List Tg}{n:Int}:∀ {l:List Tm}{us:List Ty},yn l g n=some us->∀ x∈l,∃ u∈us,x.type g n=some u
 | [],us,h,x,hx=>by simp at hx
 | y :: l,us,h,x,hx=>by
   simp only[yn]at h;split at h
   ·rename_i u J;split at h
    ·rename_i vs I;cases h;rcases oF.1 hx with rfl | hx
     ·exact⟨u,by simp,J⟩
     ·obtain⟨v,O,U⟩:=Fi I x hx;exact⟨v,by simp[O],U⟩
    ·cases h
   ·cases h
theorem PM:∀(t:Tm),t.ok=true->∀(g:List Tg)(n:Int)(u:Ty),t.lev n=true->t.type g n=some u->HT (xj g) t n u:=by
 refine Tm.ind λk nm ot m ty re l U ab g n u aa h=>?_;simp only[Tm.lev,oG]at aa
 haveI:LvB n:=⟨zw.1 aa.1⟩
 have lv:=λx hx=>p9 (x:=x) aa.2 hx;have nd:=v8 ab;have O:=nd.ar;have ac:=KV (k:=k) (nm:=nm) (by omega);simp only[Tm.type]at h;obtain⟨h,hv⟩:=J4 h;have sub:=nd.sub;rcases ac with rfl | rfl | rfl | rfl | rfl | rfl | rfl | rfl | rfl | rfl | rfl | rfl | rfl
 ·exact .var h hv
 ·cases h;exact .int
 ·cases h;exact .bool
 ·have h:(match yn l g n with | some ts=>xS 4 nm ts | none=>none)=some u:=h;split at h
  ·rename_i ts ah;have h:Sf nm ts=some u:=h;unfold Sf at h;split at h
   ·rename_i ae;cases h;refine .op λx hx=>?_;obtain⟨v,ai,I⟩:=Fi ah x hx;have hk:=OV ae v ai;have Y:=FA (Tm.type_valid I) (by rw[hk];exact Ps nm);rw[hk]at Y;rw[<-Y];exact U x hx (sub x hx) g n v (lv x hx) I
   ·cases h
  ·cases h
 ·have hl:l.length=3:=by have:(l.length:Int)=3:=O;omega
  obtain⟨a,b,c,rfl⟩:=Z3 hl;have h:(match yn [a,b,c] g n with | some ts=>xS 5 nm ts | none=>none)=some u:=h;simp only[yn]at h;cases ha:a.type g n with
  | none=>rw[ha]at h;cases h
  | some ta=>
  cases Y:b.type g n with
  | none=>rw[ha,Y]at h;cases h
  | some tb=>
  cases hc:c.type g n with
  | none=>rw[ha,Y,hc]at h;cases h
  | some tc=>
  rw[ha,Y,hc]at h;have h:xS 5 nm [ta,tb,tc]=some u:=h;unfold xS at h;rw[if_neg (by decide),if_pos rfl]at h;split at h
  ·rename_i J;cases h;simp only[lB,lC]at J ⊢;obtain⟨c1,c2⟩:ta.k=2/\DH tb tc=true:=by first | exact⟨by simpa using J.1,by simpa using J.2⟩ | (simp at J;exact J)
   have e2:=(sc tb tc).1 c2;subst e2;have e1:=FA (Tm.type_valid ha) (.inr c1);rw[if_neg (by omega)]at e1;subst e1;exact .ite (U a (by simp) (sub a (by simp)) g n _ (lv a (by simp)) ha) (U b (by simp) (sub b (by simp)) g n _ (lv b (by simp)) Y) (U c (by simp) (sub c (by simp)) g n _ (lv c (by simp)) hc)
  ·cases h
 ·obtain⟨b,rfl⟩:=len1 (l:=l) (by have:(l.length:Int)=1:=O;omega);have h:(match b.type (g++[⟨nm,ty,n⟩]) n with | some b=>some (vV ty b) | none=>none)=some u:=h;split at h
  ·rename_i v I;cases h
   have:=U b (by simp) (sub b (by simp)) _ n v (lv b (by simp)) I
   rw[si]at this;exact .lam this hv
  ·cases h
 ·obtain⟨f,x,rfl⟩:=Wq (l:=l) (by have:(l.length:Int)=2:=O;omega);have h:(match yn [f,x] g n with | some ts=>xS 7 nm ts | none=>none)=some u:=h;simp only[yn]at h;cases ha:f.type g n with
  | none=>rw[ha]at h;cases h
  | some ta=>
  cases Y:x.type g n with
  | none=>rw[ha,Y]at h;cases h
  | some tb=>
  rw[ha,Y]at h;have h:xS 7 nm [ta,tb]=some u:=h;unfold xS at h;rw[if_neg (by decide),if_neg (by decide)]at h;split at h
  ·rename_i J;cases h;simp only[lB,lC]at J ⊢;obtain⟨c1,c2⟩:ta.k=3/\DH (ta.as.getD 0 tZero) tb=true:=by first | exact⟨by simpa using J.1,by simpa using J.2⟩ | (simp at J;exact J)
   obtain⟨a1,b1,rfl⟩:=To (Tm.type_valid ha) c1;have e2:=(sc _ _).1 c2;have e2:a1=tb:=e2;subst e2;exact .app (U f (by simp) (sub f (by simp)) g n _ (lv f (by simp)) ha) (U x (by simp) (sub x (by simp)) g n _ (lv x (by simp)) Y)
  ·cases h
 ·obtain⟨a,b,rfl⟩:=Wq (l:=l) (by have:(l.length:Int)=2:=O;omega);have h:(match a.type g n with | some a=>b.type (g++[⟨nm,a,n⟩]) n | none=>none)=some u:=h;split at h
  ·rename_i v I
   have:=U b (by simp) (sub b (by simp)) _ n u (lv b (by simp)) h
   rw[si]at this;exact .lt (U a (by simp) (sub a (by simp)) _ n v (lv a (by simp)) I) this
  ·cases h
 ·obtain⟨b,rfl⟩:=len1 (l:=l) (by have:(l.length:Int)=1:=O;omega);have h:(match b.type ((g++[⟨nm,vV ty re,n⟩])++[⟨ot,ty,n⟩]) n with | some b=>if DH b re then some (vV ty re)else none | none=>none)=some u:=h;split at h
  ·rename_i v I;split at h
   ·rename_i he;cases h
    have:=U b (by simp) (sub b (by simp)) _ n v (lv b (by simp)) I
    rw[si,si,(sc v re).1 he]at this;exact .fix ((Ep (m:=1) (by decide) (Tm.ok_mk.1 ab).2.1).2 rfl).2 this hv
   ·cases h
  ·cases h
 ·obtain⟨b,rfl⟩:=len1 (l:=l) (by have:(l.length:Int)=1:=O;omega);have h:(match b.type g (n+1)with | some t=>yL 10 t | none=>none)=some u:=h;split at h
  ·rename_i v I;have h:some (xZ v)=some u:=h;cases h;exact .quote (U b (by simp) (sub b (by simp)) g (n+1) v (lv b (by simp)) I) hv
  ·cases h
 ·obtain⟨b,rfl⟩:=len1 (l:=l) (by have:(l.length:Int)=1:=O;omega);have h:(match b.type g (n - 1)with | some t=>yL 11 t | none=>none)=some u:=h;split at h
  ·rename_i v I;have h:(if v.k=4 then some (v.as.getD 0 tZero)else none)=some u:=h;split at h
   ·rename_i h4;obtain⟨a,rfl⟩:=LC (Tm.type_valid I) h4;cases h;exact .splice (U b (by simp) (sub b (by simp)) g (n - 1) _ (lv b (by simp)) I)
   ·cases h
  ·cases h
 ·obtain⟨b,rfl⟩:=len1 (l:=l) (by have:(l.length:Int)=1:=O;omega);have h:(match b.type (rH g n) n with | some t=>yL 12 t | none=>none)=some u:=h;split at h
  ·rename_i v I;have h:(if v.k=4 then some (v.as.getD 0 tZero)else none)=some u:=h;split at h
   ·rename_i h4;obtain⟨a,rfl⟩:=LC (Tm.type_valid I) h4;cases h
    have:=U b (by simp) (sub b (by simp)) _ n _ (lv b (by simp)) I
    rw[OP]at this;exact .run this
   ·cases h
  ·cases h
 ·obtain⟨b,rfl⟩:=len1 (l:=l) (by have:(l.length:Int)=1:=O;omega);have h:(match b.type g n with | some t=>yL 13 t | none=>none)=some u:=h;split at h
  ·rename_i v I;have h:(if v.base then some (xZ v)else none)=some u:=h;split at h
   ·rename_i Y;cases h;exact .lift (U b (by simp) (sub b (by simp)) g n v (lv b (by simp)) I) Y hv
   ·cases h
  ·cases h
theorem rK {o:Option Ty}{u:Ty}(h:o=some u)(I:u.valid=true):vld o=some u:=by rw[h];simp[vld,I]
theorem Kv {g:List Tg}{n:Int}{w:Int}{v:Ty}(I:v.k=w):∀ {l:List Tm},(∀ x∈l,x.type g n=some v)->∃ us,yn l g n=some us/\R4 w us=true
 | [],_=>⟨[],rfl,rfl⟩
 | x::l,h=>by obtain⟨us,J,O⟩:=Kv I (l:=l) λy U=>h y (by simp[U]);refine⟨v::us,by simp only[yn,h x (by simp),J],by simp[R4,I,O]⟩
theorem PF {r:Rho}{t:Tm}{n:Int}{u:Ty}(h:HT r t n u):∀ g:List Tg,r=xj g->t.type g n=some u:=by
 have I:=h.valid
 induction h with
 | var h hv=>intro g J;subst J;simp only[Tm.type];exact rK h hv
 | int=>intro g J;simp only[Tm.type];exact rK rfl (by decide)
 | bool=>intro g J;simp only[Tm.type];exact rK rfl (by decide)
 | @op r nm ot m ty re l n _ hx U=>
   intro g J;have hk:(if Fh nm=1 then tInt else tBool).k=Fh nm:=by rcases Ps nm with h | h<;>rw[h]<;>rfl
   obtain⟨us,h1,h2⟩:=Kv (g:=g) (n:=n) hk (l:=l) λx ab=>U x ab (hx x ab).valid g J;simp only[Tm.type];refine rK ?_ I;show(match yn l g n with | some ts=>xS 4 nm ts | none=>none)=_;rw[h1];show Sf nm us=_;unfold Sf;rw[if_pos h2]
 | @ite r nm ot m ty re a b c n u _ ha O hc Y aa ac=>intro g J;simp only[Tm.type];refine rK ?_ I;show(match yn [a,b,c] g n with | some ts=>xS 5 nm ts | none=>none)=_;simp only[yn,Y ha.valid g J,aa O.valid g J,ac hc.valid g J];have:DH u u=true:=(sc u u).2 rfl;simp[xS,this,tBool,Ty.k]
 | @lam r nm ot m ty re b n v _ O hv U=>intro g J;simp only[Tm.type];refine rK ?_ I;show(match b.type (g++[⟨nm,ty,n⟩]) n with | some b=>some (vV ty b) | none=>none)=_;have e:=U O.valid (g++[(⟨nm,ty,n⟩:Tg)]) (by rw[si,J]);rw[e]
 | @app r nm ot m ty re f x n a b _ hf hx ae ah=>intro g J;simp only[Tm.type];refine rK ?_ I;show(match yn [f,x] g n with | some ts=>xS 7 nm ts | none=>none)=_;simp only[yn,ae hf.valid g J,ah hx.valid g J];have:DH a a=true:=(sc a a).2 rfl;simp[xS,this,vV,Ty.k,Ty.as]
 | @lt r nm ot m ty re a b n t u _ ha O Y aa=>intro g J;simp only[Tm.type];refine rK ?_ I;show(match a.type g n with | some a=>b.type (g++[(⟨nm,a,n⟩:Tg)]) n | none=>none)=_;rw[Y ha.valid g J];exact aa O.valid (g++[(⟨nm,t,n⟩:Tg)]) (by rw[si,J])
 | @fix r nm ot m ty re b n _ ai O hv U=>intro g J;simp only[Tm.type];refine rK ?_ I;show(match b.type ((g++[⟨nm,vV ty re,n⟩])++[⟨ot,ty,n⟩]) n with | some b=>if DH b re then some (vV ty re)else none | none=>none)=_;have e:=U O.valid ((g++[(⟨nm,vV ty re,n⟩:Tg)])++[(⟨ot,ty,n⟩:Tg)]) (by rw[si,si,J]);rw[e];simp only;rw[if_pos ((sc re re).2 rfl)]
 | @quote r nm ot m ty re b n t _ O hv U=>intro g J;simp only[Tm.type];refine rK ?_ I;show(match b.type g (n+1)with | some t=>yL 10 t | none=>none)=_;rw[U O.valid g J];rfl
 | @splice r nm ot m ty re b n t _ O U=>intro g J;simp only[Tm.type];refine rK ?_ I;show(match b.type g (n - 1)with | some t=>yL 11 t | none=>none)=_;rw[U O.valid g J];rfl
 | @run r nm ot m ty re b n t _ O U=>intro g J;simp only[Tm.type];refine rK ?_ I;show(match b.type (rH g n) n with | some t=>yL 12 t | none=>none)=_;rw[U O.valid (rH g n) (by rw[OP,J])];rfl
 | @lift r nm ot m ty re b n t _ O ht hv U=>intro g J;simp only[Tm.type];refine rK ?_ I;show(match b.type g n with | some t=>yL 13 t | none=>none)=_;rw[U O.valid g J];show(if t.base then some (xZ t)else none)=_;rw[if_pos ht]
theorem Vd {e b:Tm}{x:ByteArray}:(e.sb x b).bd<=e.bd+b.bd:=Ub _ _ _ _ (oC _)
theorem OS {e b:Tm}{x:ByteArray}(I:e.ok=true)(J:b.ok=true)(h:b.fv.length+(e.fv.length+e.bd)<=995):(e.sb x b).ok=true:=Rw _ e x b (oC _) I J h
theorem YV {e b:Tm}{x:ByteArray}{s:ByteArray}(h:s∈(e.sb x b).fv):(s∈e.fv/\s≠x)\/(s∈b.fv/\x∈e.fv):=Hr _ _ _ _ (oC _) s h
theorem ZS {e b:Tm}{x:ByteArray}:(e.sb x b).fv.length<=e.fv.length+b.fv.length:=R9 (oC _)
theorem Wb {e:Tm}(J:e.ok=true)(hs:e.fv.length+e.bd<=331):e.apl.1.ok=true:=by
 cases e with
 | mk k nm ot n ty re l=>
 obtain⟨h1,h2,h3⟩:=Tm.ok_mk.1 J;obtain⟨a1,a2,a3,a4,a5⟩:=xq J;have g:∀ i,i<l.length->(l.getD i tm0).ok=true:=λi hi=>h1 _ (zB hi);have mb:k≠1->∀ i,i<l.length->(l.getD i tm0).fv.length+(l.getD i tm0).bd<=331:=λI i hi=>oL (Ah I (nm:=nm) (ot:=ot) (n:=n) (ty:=ty) (re:=re) (zB hi)).2 hs;simp only[Tm.apl];split
 ·rename_i I;unfold Tm.opr;split
  ·refine Q2 ?_;simp only[Tm.nm];have Y:=C3 nm (l.getD 0 tm0).no (l.getD 1 tm0).no;unfold w7;by_cases U:DE nm=true
   ·rw[if_pos U];exact .inl ⟨rfl,Y.1,Y.2⟩
   ·rw[if_neg U];simp only[DE,nI,o9,not_or]at U
    have:=qc U.1 U.2.1 U.2.2 (l.getD 0 tm0).no (l.getD 1 tm0).no
    exact .inr ⟨rfl,this.1,this.2⟩
  ·exact J
 ·split
  ·rename_i I;split
   ·rename_i hb
    have:=BA (g 0 (by have:=a3 I;omega)) hb
    refine g _ ?_
    have:=a3 I
    omega
   ·exact J
  ·split
   ·rename_i I;have hl:=a2 (.inl I);have O:=g 0 (by omega);have q1:=g 1 (by omega);have m0:=mb (by omega) 0 (by omega);have m1:=mb (by omega) 1 (by omega);generalize l.getD 0 tm0=p at O m0 ⊢;generalize l.getD 1 tm0=q at q1 m1 ⊢;have hp:(p.kd=6\/p.kd=9)->(p.pt 0).ok=true/\(p.pt 0).fv.length+(p.pt 0).bd<=331:=λh=>by
     cases p with
     | mk pk pn po pm pt pr pl=>
     have hl:=(xq O).1 (by simp only[Tm.kd]at h;omega);exact⟨QB O (by simp only[Tm.as];omega),oL (Ah (by simp only[Tm.kd]at h;omega) (zB (l:=pl) (i:=0) (by omega))).2 m0⟩
    split
    ·rename_i h6;obtain⟨p1,p2⟩:=hp (.inl h6);exact OS p1 q1 (by omega)
    ·split
     ·rename_i h9;obtain⟨p1,p2⟩:=hp (.inr h9);have p5:=ZS (e:=p.pt 0) (b:=p) (x:=p.nm);have p6:=Vd (e:=p.pt 0) (b:=p) (x:=p.nm);exact OS (OS p1 O (by omega)) q1 (by omega)
     ·exact J
   ·split
    ·rename_i I;have hl:=a2 (.inr I);have m0:=mb (by omega) 0 (by omega);have m1:=mb (by omega) 1 (by omega);exact OS (g 1 (by omega)) (g 0 (by omega)) (by omega)
    ·split
     ·rename_i I;split
      ·rename_i aa;have O:=g 0 (by have:=a1 (by omega);omega);refine QB O ?_;generalize l.getD 0 tm0=p at O aa ⊢;cases p with
       | mk pk pn po pm pt pr pl=>
       have:=(xq O).1 (by simp only[Tm.kd]at aa;omega)
       simp only[Tm.as];omega
      ·exact J
     ·split
      ·rename_i I;split
       ·exact Ue (g 0 (by have:=a1 (by omega);omega))
       ·exact J
      ·exact J
theorem IZ:∀ {l:List Tm}{n:Int},rG l n=true↔∀ x∈l,x.lev n=true
 | [],n=>by simp[rG]
 | t::I,n=>by simp only[rG,oG,IZ (l:=I),oF,nT]
theorem Fn:∀ {l:List Tm}{n:Int},vh l n=true↔∀ x∈l,x.made n=true
 | [],n=>by simp[vh]
 | t::I,n=>by simp only[vh,oG,Fn (l:=I),oF,nT]
theorem zT (r:Rho)(x:ByteArray)(n:Int)(t:Ty)(m:Int):r.set x n t x m=if n=m then some t else none:=by unfold Rho.set;rw[if_pos rfl]
theorem zD (r:Rho){x s:ByteArray}(h:s≠x)(n:Int)(t:Ty)(m:Int):r.set x n t s m=r s m:=by unfold Rho.set;rw[if_neg (λI=>h I.symm)]
theorem ua {r:Rho}{n:Int}{s:ByteArray}{m:Int}{t:Ty}:r.safe n s m=some t↔r s m=some t/\m<=n/\t.base=true:=by
 unfold Rho.safe;split
 ·rename_i u I;rw[I];split
  ·rename_i h;constructor
   ·intro e;cases e;exact⟨rfl,h⟩
   ·intro e;exact e.1
  ·rename_i h;constructor
   ·intro e;cases e
   ·intro e;cases e.1;exact absurd e.2 h
 ·rename_i I;rw[I];simp
theorem AH {k:Int}(I:k≠1){nm ot:ByteArray}{n:Int}{ty re:Ty}{l:List Tm}{j:Nat}{p:Tm}{s:ByteArray}(J:l[j]?=some p)(hs:s∈p.fv)(O:s∉bdN k nm ot l.length):s∈(Tm.mk k nm ot n ty re l).fv:=by
 refine Tm.fv_mem.2 (.inr ⟨I,j,p,J,?_⟩);unfold fvI;split
 ·exact yD.2 ⟨hs,O⟩
 ·exact hs
theorem VG {k:Int}(I:k≠1){nm ot:ByteArray}{n:Int}{ty re:Ty}{l:List Tm}{j:Nat}{p:Tm}{s:ByteArray}(J:l[j]?=some p)(hs:s∈p.fv)(O:(j:Int)≠zN k l.length):s∈(Tm.mk k nm ot n ty re l).fv:=by refine Tm.fv_mem.2 (.inr ⟨I,j,p,J,?_⟩);unfold fvI;rw[if_neg O];exact hs
theorem DM {r:Rho}{e:Tm}{n:Int}{u:Ty}(h:HT r e n u):∀ r':Rho,(∀ s∈e.fv,∀ m,r s m=r' s m)->HT r' e n u:=by
 induction h with
 | @var r nm ot m ty re l n u _ h O=>exact λr' I=>.var (by rw[<-I nm (Tm.fv_mem.2 (.inl ⟨rfl,rfl⟩))];exact h) O
 | int=>exact λr' I=>.int
 | bool=>exact λr' I=>.bool
 | op h J=>exact λr' I=>.op λx hx=>J x hx r' λs hs m=>I s (by obtain⟨j,hj,aa⟩:=List.getElem_of_mem hx;exact AH (by decide) (oD.2 ⟨hj,aa⟩) hs (by simp[bdN])) m
 | ite _ _ _ U Y ab=>
   exact λr' I=>.ite (U r' λs hs m=>I s (AH (by decide) (j:=0) rfl hs (by simp[bdN])) m) (Y r' λs hs m=>I s (AH (by decide) (j:=1) rfl hs (by simp[bdN])) m)
    (ab r' λs hs m=>I s (AH (by decide) (j:=2) rfl hs (by simp[bdN])) m)
 | @lam r nm ot m ty re b n v _ _ O J=>
   refine λr' I=>.lam (J _ λs hs m'=>?_) O;by_cases e:s=nm
   ·subst e;rw[zT,zT]
   ·rw[zD _ e,zD _ e];exact I s (AH (by decide) (j:=0) rfl hs (by simpa [bdN]using e)) m'
 | app _ _ ac ae=>exact λr' I=>.app (ac r' λs hs m=>I s (AH (by decide) (j:=0) rfl hs (by simp[bdN])) m) (ae r' λs hs m=>I s (AH (by decide) (j:=1) rfl hs (by simp[bdN])) m)
 | @lt r nm ot m ty re a b n t u _ _ _ U Y=>
   refine λr' I=>.lt (U r' λs hs m'=>I s (VG (by decide) (j:=0) rfl hs (by simp[zN])) m') (Y _ λs hs m'=>?_);by_cases e:s=nm
   ·subst e;rw[zT,zT]
   ·rw[zD _ e,zD _ e];exact I s (AH (by decide) (j:=1) rfl hs (by simpa [bdN]using e)) m'
 | @fix r nm ot m ty re b n _ ah _ O J=>
   refine λr' I=>.fix ah (J _ λs hs m'=>?_) O;by_cases e:s=ot
   ·subst e;rw[zT,zT]
   ·rw[zD _ e,zD _ e];by_cases e2:s=nm
    ·subst e2;rw[zT,zT]
    ·rw[zD _ e2,zD _ e2];exact I s (AH (by decide) (j:=0) rfl hs (by simp[bdN,e,e2])) m'
 | quote _ O J=>exact λr' I=>.quote (J r' λs hs m=>I s (AH (by decide) (j:=0) rfl hs (by simp[bdN])) m) O
 | splice _ J=>exact λr' I=>.splice (J r' λs hs m=>I s (AH (by decide) (j:=0) rfl hs (by simp[bdN])) m)
 | run _ J=>exact λr' I=>.run (J _ λs hs m=>by unfold Rho.safe;rw[I s (AH (by decide) (j:=0) rfl hs (by simp[bdN])) m])
 | lift _ hb O J=>exact λr' I=>.lift (J r' λs hs m=>I s (AH (by decide) (j:=0) rfl hs (by simp[bdN])) m) hb O
theorem XR {r:Rho}{e:Tm}{n:Int}{u:Ty}(h:HT r e n u):∀ r':Rho,(∀ s m t,r s m=some t->r' s m=some t)->HT r' e n u:=by
 have J:∀ {r r':Rho} {x:ByteArray} {n:Int} {t:Ty},(∀ s m t,r s m=some t->r' s m=some t)->∀ s m u,r.set x n t s m=some u->r'.set x n t s m=some u:=by
  intro r r' x n t h s m u hu;by_cases e:s=x
  ·subst e;rw[zT]at hu ⊢;exact hu
  ·rw[zD _ e]at hu ⊢;exact h _ _ _ hu
 induction h with
 | var h U=>exact λr' I=>.var (I _ _ _ h) U
 | int=>exact λr' I=>.int
 | bool=>exact λr' I=>.bool
 | op h O=>exact λr' I=>.op λx hx=>O x hx r' I
 | ite _ _ _ Y aa ab=>exact λr' I=>.ite (Y r' I) (aa r' I) (ab r' I)
 | lam _ U O=>exact λr' I=>.lam (O _ (J I)) U
 | app _ _ ac ae=>exact λr' I=>.app (ac r' I) (ae r' I)
 | lt _ _ Y aa=>exact λr' I=>.lt (Y r' I) (aa _ (J I))
 | fix ah _ U O=>exact λr' I=>.fix ah (O _ (J (J I))) U
 | quote _ U O=>exact λr' I=>.quote (O r' I) U
 | splice _ O=>exact λr' I=>.splice (O r' I)
 | run _ O=>exact λr' I=>.run (O _ λs m t ht=>by obtain⟨h1,h2⟩:=ua.1 ht;exact ua.2 ⟨I _ _ _ h1,h2⟩)
 | lift _ hb U O=>exact λr' I=>.lift (O r' I) hb U
theorem WF {r:Rho}{e:Tm}{n:Int}{u:Ty}(h:HT r e n u):e.made n=true->1<=n->HT (λs m=>r s (m+1)) e (n - 1) u:=by
 have O:∀(r:Rho) (x:ByteArray) (n:Int) (t:Ty),(λs m=>r.set x n t s (m+1))=Rho.set (λs m=>r s (m+1)) x (n - 1) t:=by
  intro r x n t;funext s m;unfold Rho.set;split
  ·by_cases e:n=m+1
   ·rw[if_pos e,if_pos (by omega)]
   ·rw[if_neg e,if_neg (by omega)]
  ·rfl
 have aa:∀(r:Rho) (n:Int),(λs m=>r.safe n s (m+1))=Rho.safe (λs m=>r s (m+1)) (n - 1):=by
  intro r n;funext s m;unfold Rho.safe;split
  ·rename_i t ht;simp only[ht];by_cases e:m+1<=n/\t.base=true
   ·rw[if_pos e,if_pos ⟨by omega,e.2⟩]
   ·rw[if_neg e,if_neg (λh=>e ⟨by omega,h.2⟩)]
  ·rename_i ht;simp only[ht]
 have lv:∀ {n:Int},LvB n->1<=n->LvB (n - 1):=λh I=>⟨by have:=h.h;omega⟩
 have mp:∀ {k:Int} {nm ot:ByteArray} {m:Int} {ty re:Ty} {l:List Tm} {n:Int},(Tm.mk k nm ot m ty re l).made n=true->∀ x∈l,x.made (zf k n)=true:=λh x hx=>by simp only[Tm.made,oG]at h;exact Fn.1 h.2 x hx
 have m0:∀ {k:Int} {nm ot:ByteArray} {m:Int} {ty re:Ty} {b:Tm} {n:Int},(Tm.mk k nm ot m ty re [b]).made n=true->b.made (zf k n)=true:=λh=>mp h _ (by simp)
 induction h with
 | @var _ _ _ _ _ _ _ _ _ i h Y=>exact λJ I=>haveI:=lv i I;.var (by simpa using h) Y
 | @int _ _ _ _ _ _ _ _ i=>exact λJ I=>haveI:=lv i I;.int
 | @bool _ _ _ _ _ _ _ _ i=>exact λJ I=>haveI:=lv i I;.bool
 | @op _ _ _ _ _ _ _ _ i h U=>exact λJ I=>haveI:=lv i I;.op λx hx=>U x hx (mp J x hx) I
 | @ite _ _ _ _ _ _ _ _ _ _ _ i _ _ _ ab ac ae=>exact λJ I=>haveI:=lv i I;.ite (ab (mp J _ (by simp)) I) (ac (mp J _ (by simp)) I) (ae (mp J _ (by simp)) I)
 | @lam _ _ _ _ _ _ _ _ _ i _ Y U=>exact λJ I=>haveI:=lv i I;.lam (by have:=U (m0 J) I;rwa[O]at this) Y
 | @app _ _ _ _ _ _ _ _ _ _ _ i _ _ ah ai=>exact λJ I=>haveI:=lv i I;.app (ah (mp J _ (by simp)) I) (ai (mp J _ (by simp)) I)
 | @lt _ _ _ _ _ _ _ _ _ _ _ i _ _ ab ac=>exact λJ I=>haveI:=lv i I;.lt (ab (mp J _ (by simp)) I) (by have:=ac (mp J _ (by simp)) I;rwa[O]at this)
 | @fix _ _ _ _ _ _ _ _ i aj _ Y U=>exact λJ I=>haveI:=lv i I;.fix aj (by have:=U (m0 J) I;rwa[O,O]at this) Y
 | @quote _ _ _ _ _ _ _ n _ i _ Y U=>exact λJ I=>haveI:=lv i I;.quote (by have:=U (m0 J) (by omega);rwa[show n+1 - 1=n - 1+1 from by omega]at this) Y
 | @splice _ _ _ _ _ _ _ n _ i hb U=>
   intro J I
   haveI:=lv i I
   have h2:¬n=1:=λe=>by
    simp only[Tm.made,oG]at J
    have:=J.1
    rw[e]at this;exact absurd this (by decide)
   exact .splice (U (m0 J) (by omega))
 | @run _ _ _ _ _ _ _ _ _ i _ U=>exact λJ I=>haveI:=lv i I;.run (by have:=U (m0 J) I;rwa[aa]at this)
 | @lift _ _ _ _ _ _ _ _ _ i _ hb Y U=>exact λJ I=>haveI:=lv i I;.lift (U (m0 J) I) hb Y
def PutOk (b:Tm)(r:Rho)(k:Int)(t:Ty):Prop:=(HT r b k t/\(t.base=true->∀ I,HT I b k t))\/∃ y,b=xk y/\r y k=some t
theorem PutOk.cong {b:Tm}{r r':Rho}{k:Int}{t:Ty}(h:PutOk b r k t)(I:∀ s∈b.fv,∀ m,r s m=r' s m):PutOk b r' k t:=by
 rcases h with⟨J,O⟩ | ⟨y,rfl,U⟩
 ·exact .inl ⟨DM J r' I,O⟩
 ·exact .inr ⟨y,rfl,by rw[<-I y (by rw[A9];simp)];exact U⟩
theorem PutOk.safe {b:Tm}{r:Rho}{k n:Int}{t:Ty}(h:PutOk b r k t)(I:t.base=true)(O:k<=n):PutOk b (r.safe n) k t:=by
 rcases h with⟨Y,J⟩ | ⟨y,rfl,U⟩
 ·exact .inl ⟨J I _,J⟩
 ·exact .inr ⟨y,rfl,ua.2 ⟨U,O,I⟩⟩
def Tn (f:Nat):Prop:=∀(e:Tm) (x:ByteArray) (b:Tm) (r r':Rho) (n:Int) (u:Ty),e.dp<=f->HT r e n u->(∀ s,s≠x->∀ m,r s m=r' s m)->(∀ k t,r x k=some t->PutOk b r' k t)->HT r' (e.sub f x b) n u
theorem NF {f:Nat} (U:Tn f) {p:Tm} {old w:ByteArray} {R R':Rho} {n:Int} {u:Ty} (hd:p.dp<=f) (h:HT R p n u) (Y:∀ s,s≠old->s≠w->∀ m,R s m=R' s m) (hw:w∉p.fv) (I:w≠old) (J:∀ k,R old k=R' w k) :
  HT R' (p.sub f old (xk w)) n u:=by
 have h2:=DM h (λs m=>if s=w then R' w m else R s m) λs hs m=>by have e:¬s=w:=λe=>hw (e ▸ hs);rw[if_neg e]
 refine U p old (xk w) _ R' n u hd h2 (λs hs m=>?_) λk t O=>?_
 ·split
  ·rename_i e;rw[e]
  ·rename_i e;exact Y s hs e m
 ·rw[if_neg (λe=>I e.symm),J]at O;exact .inr ⟨w,rfl,O⟩
theorem Y6 (f:Nat) (nm ot:ByteArray) (m:Int) (ty re:Ty) (p:Tm) (x:ByteArray) (b:Tm):(Tm.mk 6 nm ot m ty re [p]).sub (f+1) x b =
  if x∈[nm]\/x∉p.fv then .mk 6 nm ot m ty re [p]else .mk 6 (rn1 (Tm.sub f) 6 1 b.fv x nm (nm,ot,p)).1 (rn1 (Tm.sub f) 6 1 b.fv x nm (nm,ot,p)).2.1 m ty re [Tm.sub f (rn1 (Tm.sub f) 6 1 b.fv x nm (nm,ot,p)).2.2 x b]:=by
 simp only[Tm.sub];rfl
theorem Y5 (f:Nat) (nm ot:ByteArray) (m:Int) (ty re:Ty) (a p:Tm) (x:ByteArray) (b:Tm):(Tm.mk 8 nm ot m ty re [a,p]).sub (f+1) x b =
  if x∈[nm]\/x∉p.fv then .mk 8 nm ot m ty re [a.sub f x b,p]else .mk 8 (rn1 (Tm.sub f) 8 2 b.fv x nm (nm,ot,p)).1 (rn1 (Tm.sub f) 8 2 b.fv x nm (nm,ot,p)).2.1 m ty re [a.sub f x b,Tm.sub f (rn1 (Tm.sub f) 8 2 b.fv x nm (nm,ot,p)).2.2 x b]:=by
 simp only[Tm.sub];rfl
theorem Y0 (f:Nat) (nm ot:ByteArray) (m:Int) (ty re:Ty) (p:Tm) (x:ByteArray) (b:Tm):(Tm.mk 9 nm ot m ty re [p]).sub (f+1) x b =
  if x∈[nm,ot]\/x∉p.fv then .mk 9 nm ot m ty re [p]else .mk 9 (rn1 (Tm.sub f) 9 1 b.fv x ot (rn1 (Tm.sub f) 9 1 b.fv x nm (nm,ot,p))).1 (rn1 (Tm.sub f) 9 1 b.fv x ot (rn1 (Tm.sub f) 9 1 b.fv x nm (nm,ot,p))).2.1 m ty re
   [Tm.sub f (rn1 (Tm.sub f) 9 1 b.fv x ot (rn1 (Tm.sub f) 9 1 b.fv x nm (nm,ot,p))).2.2 x b]:=by
 simp only[Tm.sub];rfl
theorem r9 {f:Nat}{k:Int}{nm ot:ByteArray}{m:Int}{ty re:Ty}{l:List Tm}{x:ByteArray}{b:Tm}(I:¬k=1)(J:zN k l.length<0):(Tm.mk k nm ot m ty re l).sub (f+1) x b=.mk k nm ot m ty re (l.map λt=>t.sub f x b):=by simp only[Tm.sub];rw[if_neg I,if_pos J]
theorem Nt {f:Nat} (hS:Tn f) {k:Int} {c:Nat} {nm ot x:ByteArray} {p b:Tm} {r r':Rho} {n:Int} {ty u:Ty} (hd:p.dp<=f) (hm:nm∈bdN k nm ot c) (h:HT (r.set nm n ty) p n u) (hr:∀ s,s≠x->∀ m,r s m=r' s m)
  (hg:∀ k t,r x k=some t->PutOk b r' k t) (hx:x≠nm):HT (r'.set (rn1 (Tm.sub f) k c b.fv x nm (nm,ot,p)).1 n ty) (Tm.sub f (rn1 (Tm.sub f) k c b.fv x nm (nm,ot,p)).2.2 x b) n u:=by
 have fin:∀(w:ByteArray) (q:Tm),q.dp<=f->w∉b.fv->x≠w->HT (r.set w n ty) q n u->HT (r'.set w n ty) (Tm.sub f q x b) n u:=by
  intro w q hq O U h2;refine hS q x b _ _ n u hq h2 (λs hs m=>?_) λk t ht=>?_
  ·by_cases e:s=w
   ·subst e;rw[zT,zT]
   ·rw[zD _ e,zD _ e];exact hr s hs m
  ·rw[zD _ U]at ht;refine(hg k t ht).cong λs hs m=>?_;have e:s≠w:=λe=>O (e ▸ hs);rw[zD _ e]
 have I:=(qm (yJ f) k c b.fv x nm (nm,ot,p)).d;unfold rn1 at I ⊢;split
 ·rename_i hold;rw[if_pos hold]at I;simp only[mU]at I ⊢;have J:=yb (b.fv++(p.fv++([x]++bdN k nm ot c)));generalize fresh (b.fv++(p.fv++([x]++bdN k nm ot c)))=w at J I ⊢;simp only[oK,oF,oZ,nh,not_or]at J;obtain⟨Y,aa,ab,ac⟩:=J;refine fin w _ (oL I hd) Y (λe=>ab e.symm) (NF hS hd h (λs hs O m=>?_) aa (λe=>ac (e ▸ hm)) λk=>?_)
  ·rw[zD _ hs,zD _ O]
  ·rw[zT,zT]
 ·rename_i hold;exact fin nm p hd hold hx h
theorem P1 {f:Nat} (hS:Tn f) {nm ot x:ByteArray} {p b:Tm} {r r':Rho} {n:Int} {tf ty u:Ty} (hd:p.dp<=f) (ae:nm≠ot) (h:HT ((r.set nm n tf).set ot n ty) p n u) (hr:∀ s,s≠x->∀ m,r s m=r' s m)
  (hg:∀ k t,r x k=some t->PutOk b r' k t) (hx:x≠nm) (ah:x≠ot):∃ a c q,rn1 (Tm.sub f) 9 1 b.fv x ot (rn1 (Tm.sub f) 9 1 b.fv x nm (nm,ot,p))=(a,c,q)/\a≠c/\HT ((r'.set a n tf).set c n ty) (Tm.sub f q x b) n u:=by
 have fin:∀(a c:ByteArray) (q:Tm),q.dp<=f->a∉b.fv->c∉b.fv->x≠a->x≠c->HT ((r.set a n tf).set c n ty) q n u->HT ((r'.set a n tf).set c n ty) (Tm.sub f q x b) n u:=by
  intro a c q hq ha hc ai aj h2;refine hS q x b _ _ n u hq h2 (λs hs m=>?_) λk t ht=>?_
  ·by_cases e:s=c
   ·subst e;rw[zT,zT]
   ·rw[zD _ e,zD _ e];by_cases e2:s=a
    ·subst e2;rw[zT,zT]
    ·rw[zD _ e2,zD _ e2];exact hr s hs m
  ·rw[zD _ aj,zD _ ai]at ht;refine(hg k t ht).cong λs hs m=>?_;have e:s≠c:=λe=>hc (e ▸ hs);have e2:s≠a:=λe=>ha (e ▸ hs);rw[zD _ e,zD _ e2]
 obtain⟨a,O,e1,d1,a1,a2,a3,h1⟩:∃ a O,rn1 (Tm.sub f) 9 1 b.fv x nm (nm,ot,p)=(a,ot,O)/\O.dp<=f/\a∉b.fv/\x≠a/\a≠ot/\HT ((r.set a n tf).set ot n ty) O n u:=by
  have I:=(qm (yJ f) 9 1 b.fv x nm (nm,ot,p)).d;unfold rn1 at I ⊢;split
  ·rename_i hold;rw[if_pos hold]at I;simp only[mU]at I ⊢;have J:=yb (b.fv++(p.fv++([x]++bdN 9 nm ot 1)));generalize fresh (b.fv++(p.fv++([x]++bdN 9 nm ot 1)))=w at J I ⊢;rw[show bdN 9 nm ot 1=[nm,ot]from rfl]at J;simp only[oK,oF,oZ,nh,not_or]at J;obtain⟨Y,aa,ab,ac,U⟩:=J;refine⟨w,_,rfl,oL I hd,Y,λe=>ab e.symm,U,NF hS hd h (λs hs hw m=>?_) aa ac λk=>?_⟩
   ·by_cases e:s=ot
    ·subst e;rw[zT,zT]
    ·rw[zD _ e,zD _ e,zD _ hs,zD _ hw]
   ·rw[zD _ ae,zD _ U,zT,zT]
  ·rename_i hold;exact⟨nm,p,rfl,hd,hold,hx,ae,h⟩
 rw[e1];have I:=(qm (yJ f) 9 1 b.fv x ot (a,ot,O)).d;unfold rn1 at I ⊢;split
 ·rename_i hold;rw[if_pos hold]at I;simp only[if_neg a3]at I ⊢;have J:=yb (b.fv++(O.fv++([x]++bdN 9 a ot 1)));generalize fresh (b.fv++(O.fv++([x]++bdN 9 a ot 1)))=w at J I ⊢;rw[show bdN 9 a ot 1=[a,ot]from rfl]at J;simp only[oK,oF,oZ,nh,not_or]at J;obtain⟨Y,aa,ab,ac,U⟩:=J;refine⟨a,w,_,rfl,λe=>ac e.symm,fin a w _ (oL I d1) a1 Y a2 (λe=>ab e.symm) (NF hS d1 h1 (λs hs hw m=>?_) aa U λk=>?_)⟩
  ·rw[zD _ hs,zD _ hw]
  ·rw[zT,zT]
 ·rename_i hold;exact⟨a,ot,O,rfl,a3,fin a ot O d1 a1 hold a2 ah h1⟩
theorem U8:∀ f,Tn f
 | 0,e,x,b,r,r',n,u,h,_,_,_=>absurd (Tm.dp_pos e) (by omega)
 | f + 1,e,x,b,r,r',n,u,hd,h,J,U=>by
   have Y:=U8 f;have I:∀ {k nm ot m ty re l},(Tm.mk k nm ot m ty re l).dp<=f+1->∀ y∈l,y.dp<=f:=λh y hy=>by simp only[Tm.dp]at h;exact wC.1 (mP h) y hy
   cases h with
   | @var _ nm ot m ty re l _ _ _ hv aa=>
     simp only[Tm.sub,mU];split
     ·rename_i e;subst e;rcases U _ _ hv with⟨h1,_⟩ | ⟨y,rfl,hy⟩
      ·exact h1
      ·exact .var hy aa
     ·rename_i e;exact .var (by rw[<-J nm e];exact hv) aa
   | int=>rw[r9 (by decide) (by simp[zN])];exact .int
   | bool=>rw[r9 (by decide) (by simp[zN])];exact .bool
   | op h1=>rw[r9 (by decide) (by simp[zN])];refine .op λy hy=>?_;obtain⟨z,hz,rfl⟩:=oP.1 hy;exact Y z x b r r' n _ (I hd z hz) (h1 z hz) J U
   | ite ha O hc=>rw[r9 (by decide) (by simp[zN])];exact .ite (Y _ x b r r' n _ (I hd _ (by simp)) ha J U) (Y _ x b r r' n _ (I hd _ (by simp)) O J U) (Y _ x b r r' n _ (I hd _ (by simp)) hc J U)
   | @lam _ nm ot m ty re p _ v _ O hv=>
     rw[Y6];split
     ·rename_i hc;refine .lam (DM O _ λs hs k=>?_) hv;by_cases e:s=nm
      ·subst e;rw[zT,zT]
      ·rw[zD _ e,zD _ e];refine J s (λe2=>?_) k;subst e2;rcases hc with hc | hc
       ·exact e (by simpa using hc)
       ·exact hc hs
     ·rename_i hc;exact .lam (Nt Y (I hd _ (by simp)) (by simp[bdN]) O J U (λe=>hc (.inl (by simp[e])))) hv
   | app hf hx=>rw[r9 (by decide) (by simp[zN])];exact .app (Y _ x b r r' n _ (I hd _ (by simp)) hf J U) (Y _ x b r r' n _ (I hd _ (by simp)) hx J U)
   | @lt _ nm ot m ty re a p _ t _ _ ha O=>
     have ab:=Y _ x b r r' n _ (I hd a (by simp)) ha J U;rw[Y5];split
     ·rename_i hc;refine .lt ab (DM O _ λs hs k=>?_);by_cases e:s=nm
      ·subst e;rw[zT,zT]
      ·rw[zD _ e,zD _ e];refine J s (λe2=>?_) k;subst e2;rcases hc with hc | hc
       ·exact e (by simpa using hc)
       ·exact hc hs
     ·rename_i hc;exact .lt ab (Nt Y (I hd p (by simp)) (by simp[bdN]) O J U (λe=>hc (.inl (by simp[e]))))
   | @fix _ nm ot m ty re p _ _ ac O hv=>
     rw[Y0];split
     ·rename_i hc;refine .fix ac (DM O _ λs hs k=>?_) hv;by_cases e:s=ot
      ·subst e;rw[zT,zT]
      ·rw[zD _ e,zD _ e];by_cases e1:s=nm
       ·subst e1;rw[zT,zT]
       ·rw[zD _ e1,zD _ e1];refine J s (λe2=>?_) k;subst e2;rcases hc with hc | hc
        ·simp[e,e1]at hc
        ·exact hc hs
     ·rename_i hc;obtain⟨a,c,q,e1,e2,e3⟩:=P1 Y (I hd p (by simp)) ac O J U (λe=>hc (.inl (by simp[e]))) (λe=>hc (.inl (by simp[e])));rw[e1];exact .fix e2 e3 hv
   | quote O hv=>rw[r9 (by decide) (by simp[zN])];exact .quote (Y _ x b r r' _ _ (I hd _ (by simp)) O J U) hv
   | splice O=>rw[r9 (by decide) (by simp[zN])];exact .splice (Y _ x b r r' _ _ (I hd _ (by simp)) O J U)
   | run O=>rw[r9 (by decide) (by simp[zN])];refine .run (Y _ x b _ _ _ _ (I hd _ (by simp)) O (λs hs m=>by unfold Rho.safe;rw[J s hs m]) λk t ht=>?_);obtain⟨h1,h2,h3⟩:=ua.1 ht;exact(U k t h1).safe h3 h2
   | lift O ht hv=>rw[r9 (by decide) (by simp[zN])];exact .lift (Y _ x b r r' _ _ (I hd _ (by simp)) O J U) ht hv
theorem YC {e:Tm}{x:ByteArray}{b:Tm}{r r':Rho}{n:Int}{u:Ty}(h:HT r e n u)(I:∀ s,s≠x->∀ m,r s m=r' s m)(J:∀ k t,r x k=some t->PutOk b r' k t):HT r' (e.sb x b) n u:=
 U8 _ e x b r r' n u (oC _) h I J
def Lv (r:Rho):Prop:=∀ s m t,r s m=some t->1<=m
theorem Lv.set {r:Rho}(h:Lv r){x:ByteArray}{n:Int}{t:Ty}(J:1<=n):Lv (r.set x n t):=by
 intro s m u I;by_cases e:s=x
 ·subst e;rw[zT]at I;split at I
  ·omega
  ·cases I
 ·rw[zD _ e]at I;exact h _ _ _ I
theorem Lv.safe {r:Rho}(h:Lv r)(n:Int):Lv (r.safe n):=λs m t I=>h _ _ _ (ua.1 I).1
theorem Ya {r nm ot m ty re l n u}(h:HT r (.mk 6 nm ot m ty re l) n u):∃ b v,l=[b]/\u=vV ty v/\HT (r.set nm n ty) b n v:=by cases h;exact⟨_,_,rfl,rfl,‹_›⟩
theorem ZZ {r nm ot m ty re l n u}(h:HT r (.mk 9 nm ot m ty re l) n u):∃ b,l=[b]/\u=vV ty re/\nm≠ot/\HT ((r.set nm n (vV ty re)).set ot n ty) b n re:=by cases h;exact⟨_,rfl,rfl,‹_›,‹_›⟩
theorem Wg {r nm ot m ty re l n u}(h:HT r (.mk 10 nm ot m ty re l) n u):∃ b t,l=[b]/\u=xZ t/\HT r b (n+1) t/\(xZ t).valid=true:=by cases h;exact⟨_,_,rfl,rfl,‹_›,‹_›⟩
theorem ZB {r nm ot m ty re l n u}(h:HT r (.mk 11 nm ot m ty re l) n u):∃ b,l=[b]/\HT r b (n - 1) (xZ u):=by cases h;exact⟨_,rfl,‹_›⟩
theorem De {a b c d:Ty}(h:vV a b=vV c d):a=c/\b=d:=by have h:Ty.mk 3 [a,b]=Ty.mk 3 [c,d]:=h;simpa using h
theorem Nb {a b:Ty}(h:xZ a=xZ b):a=b:=by have h:Ty.mk 4 [a]=Ty.mk 4 [b]:=h;simpa using h
theorem Ml {a x:Tm}{j:Nat}(h:[a][j]?=some x):j=0/\x=a:=by
 match j,h with
 | 0,h=>exact⟨rfl,by simpa using h.symm⟩
theorem TJ {a b x:Tm}{j:Nat}(h:[a,b][j]?=some x):(j=0/\x=a)\/(j=1/\x=b):=by
 match j,h with
 | 0,h=>exact .inl ⟨rfl,by simpa using h.symm⟩
 | 1,h=>exact .inr ⟨rfl,by simpa using h.symm⟩
theorem SB {a b c x:Tm}{j:Nat}(h:[a,b,c][j]?=some x):(j=0/\x=a)\/(j=1/\x=b)\/(j=2/\x=c):=by
 match j,h with
 | 0,h=>exact .inl ⟨rfl,by simpa using h.symm⟩
 | 1,h=>exact .inr (.inl ⟨rfl,by simpa using h.symm⟩)
 | 2,h=>exact .inr (.inr ⟨rfl,by simpa using h.symm⟩)
theorem QC {k:Int} {nm ot:ByteArray} {m:Int} {ty re:Ty} {l:List Tm} {r:Rho} {n:Int} {u:Ty} (h:HT r (.mk k nm ot m ty re l) n u) {j:Nat} {x y:Tm} (U:l[j]?=some x)
  (J:∀ r1 u1,Lv r1->HT r1 x (zf k n) u1->HT r1 y (zf k n) u1) (O:Lv r) (hn:1<=n\/(k≠6/\k≠9/\(k=8->j=0))):HT r (.mk k nm ot m ty re (l.set j y)) n u:=by
 cases h with
 | var h Y=>exact .var h Y
 | int=>exact .int
 | bool=>exact .bool
 | op h=>
   refine .op λz hz=>?_;rcases oe hz with hz | rfl
   ·exact h z hz
   ·exact J r _ O (h x (oB U))
 | ite ha I hc=>
   rcases SB U with⟨rfl,rfl⟩ | ⟨rfl,rfl⟩ | ⟨rfl,rfl⟩
   ·exact .ite (J r _ O ha) I hc
   ·exact .ite ha (J r _ O I) hc
   ·exact .ite ha I (J r _ O hc)
 | lam I Y=>
   obtain⟨rfl,rfl⟩:=Ml U;rcases hn with hn | hn
   ·exact .lam (J _ _ (O.set hn) I) Y
   ·exact absurd rfl hn.1
 | app hf hx=>
   rcases TJ U with⟨rfl,rfl⟩ | ⟨rfl,rfl⟩
   ·exact .app (J r _ O hf) hx
   ·exact .app hf (J r _ O hx)
 | lt ha I=>
   rcases TJ U with⟨rfl,rfl⟩ | ⟨rfl,rfl⟩
   ·exact .lt (J r _ O ha) I
   ·rcases hn with hn | hn
    ·exact .lt ha (J _ _ (O.set hn) I)
    ·exact absurd (hn.2.2 rfl) (by decide)
 | fix aa I Y=>
   obtain⟨rfl,rfl⟩:=Ml U;rcases hn with hn | hn
   ·exact .fix aa (J _ _ ((O.set hn).set hn) I) Y
   ·exact absurd rfl hn.2.1
 | quote I Y=>obtain⟨rfl,rfl⟩:=Ml U;exact .quote (J r _ O I) Y
 | splice I=>obtain⟨rfl,rfl⟩:=Ml U;exact .splice (J r _ O I)
 | run I=>obtain⟨rfl,rfl⟩:=Ml U;exact .run (J _ _ (O.safe _) I)
 | lift I ht Y=>obtain⟨rfl,rfl⟩:=Ml U;exact .lift (J r _ O I) ht Y
theorem QX {v:Tm}{r:Rho}{n:Int}{t:Ty}(h:HT r v n t)(I:v.res=true)(J:t.base=true):∀ r' m,LvB m->HT r' v m t:=by
 intro r' m O;cases h with
 | int=>exact .int
 | bool=>exact .bool
 | lam _ _=>cases J
 | fix _ _ _=>cases J
 | quote _ _=>cases J
 | var _ _=>cases I
 | op _=>cases I
 | ite _ _ _=>cases I
 | app _ _=>cases I
 | lt _ _=>cases I
 | splice _=>cases I
 | run _=>cases I
 | lift _ _ _=>cases I
theorem Fl {v:Tm}{r:Rho}{t:Ty}(h:HT r v 0 t)(I:v.res=true):PutOk v r 0 t:=.inl ⟨h,λJ r'=>QX h I J r' 0 inferInstance⟩
theorem Xl {b v:Tm}{x:ByteArray}{r:Rho}{t u:Ty}(I:HT (r.set x 0 t) b 0 u)(J:PutOk v r 0 t):HT r (b.sb x v) 0 u:=by
 refine YC I (λs hs m=>zD _ hs _ _ _) λk t' h=>?_;rw[zT]at h;split at h
 ·rename_i e;cases h;subst e;exact J
 ·cases h
theorem VJ {nm ot:ByteArray}{m:Int}{ty re:Ty}{b:Tm}:ot∉(Tm.mk 9 nm ot m ty re [b]).fv:=by
 intro h;rcases Tm.fv_mem.1 h with⟨h,_⟩ | ⟨_,j,x,J,I⟩
 ·cases h
 ·obtain⟨rfl,rfl⟩:=Ml J;have I:ot∈sG [nm,ot] x.fv:=I;exact(yD.1 I).2 (by simp)
theorem TZ {nm ot:ByteArray}{m:Int}{ty re:Ty}{b v:Tm}{r:Rho}(h:HT r (.mk 9 nm ot m ty re [b]) 0 (vV ty re))(O:PutOk v r 0 ty):HT r ((b.sb nm (.mk 9 nm ot m ty re [b])).sb ot v) 0 re:=by
 obtain⟨Y,e,_,J,U⟩:=ZZ h;cases e;refine Xl (YC U (r':=r.set ot 0 ty) (λs hs k=>?_) λk t I=>?_) O
 ·by_cases e:s=ot
  ·subst e;rw[zT,zT]
  ·rw[zD _ e,zD _ e,zD _ hs]
 ·rw[zD _ J,zT]at I;split at I
  ·rename_i e;cases I;subst e;refine(Fl h rfl).cong λs hs k=>?_;have e:s≠ot:=λe=>VJ (e ▸ hs);rw[zD _ e]
  ·cases I
theorem Xq {e:Tm}{r:Rho}{u:Ty}(he:e.ok=true)(h:HT r e 0 u)(hr:Lv r)(J:∀ x∈e.as.take (vn e.kd e.as.length),x.res=true):HT r e.apl.1 0 u:=by
 cases h with
 | var h O=>exact .var h O
 | int=>exact .int
 | bool=>exact .bool
 | @op _ nm ot m ty re l _ _ h1=>
   show HT r ((Tm.mk 4 nm ot m ty re l).opr l).1 0 _;unfold Tm.opr;split
   ·show HT r (Co (w7 nm) _) 0 (vv nm);have key:(w7 nm=2/\vv nm=tInt)\/(w7 nm=3/\vv nm=tBool):=by
     unfold w7 DE vv;by_cases e1:nm=bytes [43]
     ·simp[e1]
     ·by_cases Y:nm=bytes [45]
      ·simp[e1,Y]
      ·by_cases e3:nm=bytes [42]
       ·simp[e1,Y,e3]
       ·simp[e1,Y,e3]
    rcases key with⟨e1,Y⟩ | ⟨e1,Y⟩
    ·rw[e1,Y];exact .int
    ·rw[e1,Y];exact .bool
   ·exact .op h1
 | @ite _ nm ot m ty re a b c _ _ _ ha I hc=>
   show HT r (if a.kd=3 then(([a,b,c].getD (2 - a.no).toNat tm0,2):Tm × Int)else(.mk 5 nm ot m ty re [a,b,c],0)).1 0 u;split
   ·rename_i hk;have ai:=(Tm.ok_mk.1 he).1 a (by simp);cases a with
    | mk k aa ab m2 ac ae l2=>
    have hk:k=3:=hk;subst hk;have U:=(Tm.ok_mk.1 ai).2.1;unfold zK at U;simp only[oG]at U;have hn:=zw.1 U.2.2.2.2.1;have am:m2<=1:=hn.2;have aj:(Tm.mk 3 aa ab m2 ac ae l2).no=m2:=rfl;rw[aj];rcases(by omega:m2=0\/m2=1)with rfl | rfl
    ·exact hc
    ·exact I
   ·exact .ite ha I hc
 | lam I O=>exact .lam I O
 | @app _ nm ot m ty re f x _ ta _ _ U hx=>
   have rf:=J f (by simp[Tm.as,Tm.kd,vn]);have rx:=J x (by simp[Tm.as,Tm.kd,vn]);show HT r (if f.kd=6 then(((f.pt 0).sb f.nm x,3):Tm × Int)else if f.kd=9 then((((f.pt 0).sb f.nm f).sb f.ot x),4)else(.mk 7 nm ot m ty re [f,x],0)).1 0 u;cases f with
   | mk k aa ab m2 ac ae l2=>
   split
   ·rename_i hk;have hk:k=6:=hk;subst hk;obtain⟨b,v,rfl,e,I⟩:=Ya U;obtain⟨rfl,rfl⟩:=De e;exact Xl I (Fl hx rx)
   ·split
    ·rename_i hk;have hk:k=9:=hk;subst hk;obtain⟨b,rfl,e,ah,I⟩:=ZZ U;obtain⟨rfl,rfl⟩:=De e;exact TZ U (Fl hx rx)
    ·exact .app U hx
 | @lt _ nm ot m ty re a b _ t _ _ ha I=>have ra:=J a (by simp[Tm.as,Tm.kd,vn]);exact Xl I (Fl ha ra)
 | fix ah I O=>exact .fix ah I O
 | quote I O=>exact .quote I O
 | splice I=>exact .splice I
 | @run _ nm ot m ty re b _ t _ I=>
   show HT r (if b.kd=10 then((b.pt 0,7):Tm × Int)else(.mk 12 nm ot m ty re [b],0)).1 0 u;split
   ·rename_i hk;cases b with
    | mk k aa ab m2 ac ae l2=>
    have hk:k=10:=hk;subst hk;obtain⟨c,t,rfl,e,hc,_⟩:=Wg I;cases Nb e;have rb:=J _ (oB (i:=0) rfl);have ak:c.made 1=true:=(Bool.and_eq_true_iff.1 (show(_&&_)=true from rb)).2;refine XR (WF hc ak (by omega)) r λs m t ht=>?_;obtain⟨h1,h2,_⟩:=ua.1 ht
    have:=hr _ _ _ h1
    omega
   ·exact .run I
 | @lift _ nm ot m ty re b _ t _ I ht O=>
   show HT r (if b.kd=2\/b.kd=3 then((Tm.nod 10 [b],8):Tm × Int)else(.mk 13 nm ot m ty re [b],0)).1 0 _;split
   ·rename_i hk;have al:b.res=true:=by unfold Tm.res HX;rcases hk with hk | hk<;>rw[hk]<;>rfl
    exact .quote (QX I al ht _ _ ⟨by omega⟩) O
   ·exact .lift I ht O
theorem Ia {S:Tm->Tm × Int}{m:Int}:∀ {xs l':List Tm}{r:Int},yQ S xs m=some (l',r)->∃ j x,xs[j]?=some x/\l'=xs.set j (x.cod S m).1
 | [],_,_,h=>by simp[yQ]at h
 | x :: xs,l',r,h=>by
   simp only[yQ]at h;split at h
   ·cases h;exact⟨0,x,rfl,rfl⟩
   ·split at h
    ·cases h
    ·rename_i l2 O I;cases h;obtain⟨j,y,J,rfl⟩:=Ia I;exact⟨j+1,y,by simpa using J,rfl⟩
def YI (S:Tm->Tm × Int)(f:Nat):Prop:=∀ e r u,e.dp<=f->e.ok=true->HT r e 0 u->Lv r->HT r (S e).1 0 u
theorem XG {S:Tm->Tm × Int}{f:Nat}(hS:YI S f):∀(t:Tm)(m:Int)(r:Rho)(u:Ty),t.dp<=f->t.ok=true->1<=m->HT r t m u->Lv r->HT r (t.cod S m).1 m u:=by
 refine Tm.ind λk nm ot n ty re l ih m r u hd he hm h hr=>?_;have J:=(Tm.ok_mk.1 he).1;have O:∀ x∈l,x.dp<=f:=λx U=>by
  have:=Tm.dp_mem (k:=k) (nm:=nm) (ot:=ot) (n:=n) (ty:=ty) (re:=re) U
  omega
 simp only[Tm.cod];split
 ·rename_i I;obtain⟨rfl,rfl⟩:=I;obtain⟨b,rfl,hb⟩:=ZB h;show HT r (if b.res then(if b.kd=10 then((b.pt 0,6,true):Tm × Int × Bool)else(.mk 11 nm ot n ty re [b],0,true))else(.mk 11 nm ot n ty re [(S b).1],(S b).2,true)).1 1 u;split
  ·split
   ·rename_i I;cases b with
    | mk k ab ac m2 ae ah l2=>
    have I:k=10:=I;subst I;obtain⟨c,t,rfl,e,hc,_⟩:=Wg hb;cases Nb e;exact hc
   ·exact h
  ·exact .splice (hS b r _ (O b (by simp)) (J b (by simp)) hb hr)
 ·rename_i I;cases hc:yQ S l (zf k m)with
  | none=>exact h
  | some p=>
    obtain⟨l',r2⟩:=p;obtain⟨j,x,hj,rfl⟩:=Ia hc;have U:=oB hj;have Y:1<=zf k m:=by
     unfold zf;split
     ·omega
     ·split
      ·rename_i aa;have:¬m=1:=λe=>I ⟨aa,e⟩;omega
      ·exact hm
    exact QC h hj (λr1 u1 h1 h2=>ih x U _ r1 u1 (O x U) (J x U) Y h2 h1) hr (.inl hm)
theorem Oe:∀ f,YI (Tm.stp f) f
 | 0,e,r,u,hd,_,_,_=>absurd (Tm.dp_pos e) (by omega)
 | f + 1,.mk k nm ot n ty re l,r,u,hd,he,h,hr=>by
   have ih:=Oe f;have O:=(Tm.ok_mk.1 he).1;have U:∀ x∈l,x.dp<=f:=λx hx=>by
    have:=Tm.dp_mem (k:=k) (nm:=nm) (ot:=ot) (n:=n) (ty:=ty) (re:=re) hx
    omega
   simp only[Tm.stp];split
   ·exact h
   ·split
    ·rename_i I;have I:k=10:=I;subst I;obtain⟨b,t,rfl,rfl,hb,hv⟩:=Wg h;exact .quote (XG ih b 1 r t (U b (by simp)) (O b (by simp)) (by decide) hb hr) hv
    ·rename_i I;have I:¬k=10:=I;cases hg:goS (Tm.stp f) (Tm.mk k nm ot n ty re l) (l.take (vn k l.length)) 0 with
     | none=>exact Xq he h hr (Eh.1 hg)
     | some p=>
       obtain⟨j,x,g1,g2,rfl⟩:=sJ hg;obtain⟨J,Y⟩:j<vn k l.length/\l[j]?=some x:=by
        rw[oc]at g1;split at g1
        ·exact⟨‹_›,g1⟩
        ·cases g1
       have hm:=oB Y;simp only[ow];have hn0:k=11\/zf k 0=0:=by
        unfold zf;rw[if_neg I];by_cases e:k=11
        ·exact .inl e
        ·rw[if_neg e];exact .inr rfl
       rcases hn0 with rfl | hn0
       ·exact absurd J (by simp[vn])
       ·refine QC h Y (λr1 u1 h1 h2=>?_) hr (.inr ⟨λe=>?_,λe=>?_,λe=>?_⟩)
        ·rw[hn0]at h2 ⊢;exact ih x r1 u1 (U x hm) (O x hm) h2 h1
        ·subst e;exact absurd J (by simp[vn])
        ·subst e;exact absurd J (by simp[vn])
        ·subst e;have:vn 8 l.length=1:=by simp[vn]
         omega
theorem SM:∀(m n:Nat)(x:Tm),(sx m n x).1.1≠3->x.sz<=400:=by
 intro m n x h;rw[A7]at h;split at h
 ·exact absurd rfl h
 ·omega
theorem Va {u:Ty}{r:Rho}(U:Lv r):∀(m n:Nat)(x:Tm),x.ok=true->HT r x 0 u->(sx m n x).1.1=1->(sx m n x).1.2.1.ok=true/\(sx m n x).1.2.1.sz<=400/\(sx m n x).1.2.1.res=true/\HT r (sx m n x).1.2.1 0 u:=by
 intro m
 induction m with
 | zero=>
   intro n x J h hd;rw[A7]at hd ⊢;split at hd
   ·cases hd
   ·rename_i hs;rw[if_neg hs];split at hd
    ·rename_i I;rw[if_pos I];exact⟨J,lL hs,I,h⟩
    ·cases hd
 | succ m Y=>
   intro n x J h hd;rw[A7]at hd ⊢;split at hd
   ·cases hd
   ·rename_i hs;rw[if_neg hs];split at hd
    ·rename_i I;rw[if_pos I];exact⟨J,lL hs,I,h⟩
    ·rename_i I;rw[if_neg I];simp only at hd ⊢;split at hd
     ·cases hd
     ·rename_i hz;rw[if_neg hz];have O:=SM m (n+1) (x.stp x.dp).1 (by rw[show(sx m (n+1) (x.stp x.dp).1).1.1=1 from hd];decide);exact Y _ _ (FV _ x (oC _) J O) (Oe _ x r u (oC _) J h U) hd
theorem NZ {r:Rho}{t:Tm}{n:Int}{u:Ty}(h:HT r t n u):t.ok=true->t.lev n=true:=by
 have iv:∀ {n:Int},LvB n->inB n 0 2=true:=λh=>zw.2 h.h;have nil:∀ {k:Int} {nm ot:ByteArray} {m:Int} {ty re:Ty} {l:List Tm},(k=1\/k=2\/k=3)->(Tm.mk k nm ot m ty re l).ok=true->l=[]:=λhk h=>oM ((xq h).2.2.2.1 hk);have mk:∀ {k:Int} {nm ot:ByteArray} {m:Int} {ty re:Ty} {l:List Tm} {n:Int},LvB n->(∀ x∈l,x.lev (zf k n)=true)->(Tm.mk k nm ot m ty re l).lev n=true:=λh J=>by simp only[Tm.lev,oG];exact⟨iv h,IZ.2 J⟩
 induction h with
 | @var _ _ _ _ _ _ _ _ _ i _ _=>exact λI=>by have:=nil (.inl rfl) I;subst this;exact mk i (by simp)
 | @int _ _ _ _ _ _ _ _ i=>exact λI=>by have:=nil (.inr (.inl rfl)) I;subst this;exact mk i (by simp)
 | @bool _ _ _ _ _ _ _ _ i=>exact λI=>by have:=nil (.inr (.inr rfl)) I;subst this;exact mk i (by simp)
 | @op _ _ _ _ _ _ _ _ i _ O=>exact λI=>mk i λx J=>O x J ((Tm.ok_mk.1 I).1 x J)
 | @ite _ _ _ _ _ _ _ _ _ _ _ i _ _ _ U Y aa=>
   intro I
   have:=(Tm.ok_mk.1 I).1
   refine mk i λx J=>?_;simp only[oF,oZ,nh]at J;rcases J with rfl | rfl | rfl
   ·exact U (this _ (by simp))
   ·exact Y (this _ (by simp))
   ·exact aa (this _ (by simp))
 | @app _ _ _ _ _ _ _ _ _ _ _ i _ _ ab ac=>
   intro I
   have:=(Tm.ok_mk.1 I).1
   refine mk i λx J=>?_;simp only[oF,oZ,nh]at J;rcases J with rfl | rfl
   ·exact ab (this _ (by simp))
   ·exact ac (this _ (by simp))
 | @lt _ _ _ _ _ _ _ _ _ _ _ i _ _ U Y=>
   intro I
   have:=(Tm.ok_mk.1 I).1
   refine mk i λx J=>?_;simp only[oF,oZ,nh]at J;rcases J with rfl | rfl
   ·exact U (this _ (by simp))
   ·exact Y (this _ (by simp))
 | @lam _ _ _ _ _ _ _ _ _ i _ _ O=>exact λI=>mk i λx J=>by rw[oV]at J;subst J;exact O ((Tm.ok_mk.1 I).1 _ (by simp))
 | @fix _ _ _ _ _ _ _ _ i _ _ _ O=>exact λI=>mk i λx J=>by rw[oV]at J;subst J;exact O ((Tm.ok_mk.1 I).1 _ (by simp))
 | @quote _ _ _ _ _ _ _ _ _ i _ _ O=>exact λI=>mk i λx J=>by rw[oV]at J;subst J;exact O ((Tm.ok_mk.1 I).1 _ (by simp))
 | @splice _ _ _ _ _ _ _ _ _ i _ O=>exact λI=>mk i λx J=>by rw[oV]at J;subst J;exact O ((Tm.ok_mk.1 I).1 _ (by simp))
 | @run _ _ _ _ _ _ _ _ _ i _ O=>exact λI=>mk i λx J=>by rw[oV]at J;subst J;exact O ((Tm.ok_mk.1 I).1 _ (by simp))
 | @lift _ _ _ _ _ _ _ _ _ i _ _ _ O=>exact λI=>mk i λx J=>by rw[oV]at J;subst J;exact O ((Tm.ok_mk.1 I).1 _ (by simp))
theorem uc {e:Tm} {r:Rho} {n:Int} {u:Ty} (h:HT r e n u) (I:e.res=true) :
  (u=tInt->e.kd=2)/\(u=tBool->e.kd=3)/\(∀ a b,u=vV a b->e.kd=6\/e.kd=9)/\(∀ t,u=xZ t->e.kd=10):=by
 have e1:∀ {a:Ty},xZ a=.mk 4 [a]:=rfl;have J:∀ {a b:Ty},vV a b=.mk 3 [a,b]:=rfl;have O:tInt=.mk 1 []:=rfl;have U:tBool=.mk 2 []:=rfl;cases h with
 | int=>simp[Tm.kd,e1,J,O,U]
 | bool=>simp[Tm.kd,e1,J,O,U]
 | lam _ _=>simp[Tm.kd,e1,J,O,U]
 | fix _ _ _=>simp[Tm.kd,e1,J,O,U]
 | quote _ _=>simp[Tm.kd,e1,J,O,U]
 | var _ _=>cases I
 | op _=>cases I
 | ite _ _ _=>cases I
 | app _ _=>cases I
 | lt _ _=>cases I
 | splice _=>cases I
 | run _=>cases I
 | lift _ _ _=>cases I
theorem TD {t:Ty}(h:t.valid=true)(I:t.base=true):t=tInt\/t=tBool:=by
 have hk:t.k=1\/t.k=2:=by
  cases t with
  | mk k l=>
    have J:(k=1\/k=2)/\(Ty.mk k l).as=[]:=by simpa [Ty.base,Ty.k]using I
    exact J.1
 have:=FA h hk
 rcases hk with hk | hk
 ·rw[if_pos hk]at this;exact .inl this
 ·rw[if_neg (by omega)]at this;exact .inr this
theorem TR {k:Int} {nm ot:ByteArray} {m:Int} {ty re:Ty} {l:List Tm} {r:Rho} {n:Int} {u:Ty} (h:HT r (.mk k nm ot m ty re l) n u) (Y:k=1\/k=2\/k=3->l=[]) (O:Lv r) (U:1<=n) :
  ∀ x∈l,∃ r' u',Lv r'/\HT r' x (zf k n) u':=by
 intro x I;cases h with
 | var _ _=>rw[Y (.inl rfl)]at I;simp at I
 | int=>rw[Y (.inr (.inl rfl))]at I;simp at I
 | bool=>rw[Y (.inr (.inr rfl))]at I;simp at I
 | op h=>exact⟨_,_,O,h x I⟩
 | ite ha J hc=>
   simp only[oF,oZ,nh]at I;rcases I with rfl | rfl | rfl
   ·exact⟨_,_,O,ha⟩
   ·exact⟨_,_,O,J⟩
   ·exact⟨_,_,O,hc⟩
 | lam J _=>rw[oV]at I;subst I;exact⟨_,_,O.set U,J⟩
 | app hf aa=>
   simp only[oF,oZ,nh]at I;rcases I with rfl | rfl
   ·exact⟨_,_,O,hf⟩
   ·exact⟨_,_,O,aa⟩
 | lt ha J=>
   simp only[oF,oZ,nh]at I;rcases I with rfl | rfl
   ·exact⟨_,_,O,ha⟩
   ·exact⟨_,_,O.set U,J⟩
 | fix _ J _=>rw[oV]at I;subst I;exact⟨_,_,(O.set U).set U,J⟩
 | quote J _=>rw[oV]at I;subst I;exact⟨_,_,O,J⟩
 | splice J=>rw[oV]at I;subst I;exact⟨_,_,O,J⟩
 | run J=>rw[oV]at I;subst I;exact⟨_,_,O.safe _,J⟩
 | lift J _ _=>rw[oV]at I;subst I;exact⟨_,_,O,J⟩
theorem Ry (s:ByteArray):(if Fh s=1 then tInt else tBool)=(if zR s=2 then tInt else tBool)/\(zR s=2\/zR s=3):=by
 unfold Fh zR xM;by_cases I:s=bytes [38]
 ·simp[I]
 ·by_cases J:s=bytes [124]
  ·simp[J]
  ·by_cases O:s=bytes [33]
   ·simp[O]
   ·simp[I,J,O]
theorem Wy {e:Tm}{r:Rho}{u:Ty}(he:e.ok=true)(hl:e.lev 0=true)(h:HT r e 0 u)(hr:Lv r)(J:e.res=false)(Y:e.kd≠10)(I:∀ x∈e.as.take (vn e.kd e.as.length),x.res=true):e.apl.2≠0:=by
 cases h with
 | var h _=>exact absurd (hr _ _ _ h) (by decide)
 | int=>cases J
 | bool=>cases J
 | lam _ _=>cases J
 | fix _ _ _=>cases J
 | quote _ _=>exact absurd rfl Y
 | @op _ nm ot m ty re l _ _ h1=>
   show((Tm.mk 4 nm ot m ty re l).opr l).2≠0;unfold Tm.opr;rw[if_pos]
   ·exact(by decide:(1:Int)≠0)
   ·rw[oY];intro x hx;have aa:=I x (by simpa [Tm.as,Tm.kd,vn]using hx);have U:=h1 x hx;obtain⟨a1,a2⟩:=Ry nm;rw[a1]at U;obtain⟨c1,c2,_,_⟩:=uc U aa;show(x.kd==zR nm)=true;rw[nM];rcases a2 with a2 | a2
    ·rw[a2];exact c1 (if_pos a2)
    ·rw[a2];exact c2 (if_neg (by omega))
 | @ite _ nm ot m ty re a b c _ _ _ ha O hc=>have ra:=I a (by simp[Tm.as,Tm.kd,vn]);show(if a.kd=3 then(([a,b,c].getD (2 - a.no).toNat tm0,2):Tm × Int)else(.mk 5 nm ot m ty re [a,b,c],0)).2≠0;rw[if_pos ((uc ha ra).2.1 rfl)];exact(by decide:(2:Int)≠0)
 | @app _ nm ot m ty re f x _ ta _ _ hf hx=>
   have rf:=I f (by simp[Tm.as,Tm.kd,vn]);show(if f.kd=6 then(((f.pt 0).sb f.nm x,3):Tm × Int)else if f.kd=9 then((((f.pt 0).sb f.nm f).sb f.ot x),4)else(.mk 7 nm ot m ty re [f,x],0)).2≠0;rcases(uc hf rf).2.2.1 _ _ rfl with h | h
   ·rw[if_pos h];exact(by decide:(3:Int)≠0)
   ·rw[if_neg (by omega),if_pos h];exact(by decide:(4:Int)≠0)
 | @lt _ nm ot m ty re a b _ t _ _ ha O=>exact(by decide:(5:Int)≠0)
 | @splice _ nm ot m ty re b _ _ _ O=>
   have h2:(inB 0 0 2&&rG [b] (0 - 1))=true:=hl;simp only[rG,oG]at h2;cases b with
   | mk k2 ab ac m2 ae ah l2=>
   have h3:=h2.2.1;simp only[Tm.lev,oG]at h3;exact absurd h3.1 (by decide)
 | @run _ nm ot m ty re b _ t _ O=>have rb:=I b (by simp[Tm.as,Tm.kd,vn]);show(if b.kd=10 then((b.pt 0,7):Tm × Int)else(.mk 12 nm ot m ty re [b],0)).2≠0;rw[if_pos ((uc O rb).2.2.2 _ rfl)];exact(by decide:(7:Int)≠0)
 | @lift _ nm ot m ty re b _ t _ O U hv=>
   have rb:=I b (by simp[Tm.as,Tm.kd,vn]);show(if b.kd=2\/b.kd=3 then((Tm.nod 10 [b],8):Tm × Int)else(.mk 13 nm ot m ty re [b],0)).2≠0;obtain⟨c1,c2,_,_⟩:=uc O rb;rw[if_pos]
   ·exact(by decide:(8:Int)≠0)
   ·rcases TD O.valid U with h | h
    ·exact .inl (c1 h)
    ·exact .inr (c2 h)
def YT (S:Tm->Tm × Int)(f:Nat):Prop:=∀ e r u,e.dp<=f->e.ok=true->e.lev 0=true->HT r e 0 u->Lv r->e.res=false->(S e).2≠0
theorem OE {k:Int}{nm ot:ByteArray}{m:Int}{ty re:Ty}{l:List Tm}{n:Int}(h:(Tm.mk k nm ot m ty re l).lev n=true):∀ x∈l,x.lev (zf k n)=true:=λx I=>by simp only[Tm.lev,oG]at h;exact p9 h.2 I
theorem W5 {S:Tm->Tm × Int} {f:Nat} (hS:YT S f):∀(t:Tm) (m:Int) (r:Rho) (u:Ty),t.dp<=f->t.ok=true->t.lev m=true->1<=m->HT r t m u->Lv r ->
  (t.made m=true->(t.cod S m).2.2=false)/\(t.made m=false->(t.cod S m).2.2=true/\(t.cod S m).2.1≠0):=by
 refine Tm.ind λk nm ot n ty re l ih m r u hd he hl hm h hr=>?_;have nd:=v8 he;have Y:∀ x∈l,x.dp<=f:=λx O=>by
  have:=dp_mem (k:=k) (nm:=nm) (ot:=ot) (n:=n) (ty:=ty) (re:=re) O
  omega
 have aa:=OE hl;simp only[Tm.cod,Tm.made];by_cases hk:k=11/\m=1
 ·rw[if_pos hk];obtain⟨rfl,rfl⟩:=hk;refine⟨λh=>by simp at h,λ_=>?_⟩;cases h with
  | @splice _ _ _ _ _ _ b _ _ _ hb=>
  show(if b.res then(if b.kd=10 then((b.pt 0,6,true):Tm × Int × Bool)else(.mk 11 nm ot n ty re [b],0,true))else(.mk 11 nm ot n ty re [(S b).1],(S b).2,true)).2.2=true/\(if b.res then(if b.kd=10 then((b.pt 0,6,true):Tm × Int × Bool)else(.mk 11 nm ot n ty re [b],0,true))else(.mk 11 nm ot n ty re [(S b).1],(S b).2,true)).2.1≠0;by_cases J:b.res=true
  ·rw[if_pos J,if_pos ((uc hb J).2.2.2 _ rfl)];exact⟨rfl,(by decide:(6:Int)≠0)⟩
  ·rw[if_neg J];exact⟨rfl,hS b r _ (Y b (by simp)) (nd.sub b (by simp)) (aa b (by simp)) hb hr (by simpa using J)⟩
 ·rw [if_neg hk];have e1:(!(k==11&&m==1))=true:=by
   simp only[nc,Bool.and_eq_false_iff,beq_eq_false_iff_ne];by_cases U:k=11
   ·exact .inr λh2=>hk ⟨U,h2⟩
   ·exact .inl U
  rw[e1,Bool.true_and];have ac:1<=zf k m:=by
   unfold zf;split
   ·omega
   ·split
    ·rename_i ae;have:¬m=1:=λe=>hk ⟨ae,e⟩;omega
    ·exact hm
  have ak:=nd.ar;have hp:=TR h (λh=>by
   have:Cw k nm=0:=by unfold Cw;rw[if_pos h]
   exact oM (by omega)) hr hm
  have key:∀ xs:List Tm,(∀ x∈xs,x∈l)->(vh xs (zf k m)=true->yQ S xs (zf k m)=none)/\(vh xs (zf k m)=false->∃ l' r,yQ S xs (zf k m)=some (l',r)/\r≠0):=by
   intro xs
   induction xs with
   | nil=>intro _;exact⟨λ_=>rfl,λh=>by simp[vh]at h⟩
   | cons x xs ah=>
     intro O;have I:=O x (by simp);obtain⟨r',u',ai,aj⟩:=hp x I;obtain⟨p1,p2⟩:=ih x I _ r' u' (Y x I) (nd.sub x I) (aa x I) ac aj ai;obtain⟨q1,q2⟩:=ah λy hy=>O y (by simp[hy]);simp only[vh,yQ];cases ab:x.made (zf k m)with
     | false=>obtain⟨p3,p4⟩:=p2 ab;rw[p3];exact⟨λh=>by simp at h,λ_=>⟨_,_,rfl,p4⟩⟩
     | true=>rw[p1 ab,Bool.true_and];refine⟨λh=>by rw[q1 h];rfl,λh=>?_⟩;obtain⟨l',r2,U,h2⟩:=q2 h;rw[U];exact⟨_,_,rfl,h2⟩
  obtain⟨k1,k2⟩:=key l λx O=>O;refine⟨λh=>by rw[k1 h],λh=>?_⟩;obtain⟨l',r2,U,h2⟩:=k2 h;rw[U];exact⟨rfl,h2⟩
theorem RY:∀ f,YT (Tm.stp f) f
 | 0,e,r,u,hd,_,_,_,_,_=>absurd (Tm.dp_pos e) (by omega)
 | f + 1,.mk k nm ot n ty re l,r,u,hd,he,hl,h,O,U=>by
   have ih:=RY f;have nd:=v8 he;have ab:∀ x∈l,x.dp<=f:=λx hx=>by
    have:=dp_mem (k:=k) (nm:=nm) (ot:=ot) (n:=n) (ty:=ty) (re:=re) hx
    omega
   have ac:=OE hl;simp only[Tm.stp];rw[if_neg (by rw[U];decide)];by_cases Y:(Tm.mk k nm ot n ty re l).kd=10
   ·rw[if_pos Y];have Y:k=10:=Y;subst Y;cases h with
    | @quote _ _ _ _ _ _ b _ t _ hb hv=>
    have ah:b.made 1=false:=by unfold Tm.res at U;rw[hl]at U;exact U
    exact((W5 ih b 1 r t (ab b (by simp)) (nd.sub b (by simp)) (ac b (by simp)) (by decide) hb O).2 ah).2
   ·rw [if_neg Y];cases hg:goS (Tm.stp f) (Tm.mk k nm ot n ty re l) (l.take (vn k l.length)) 0 with
    | none=>exact Wy he hl h O U Y (Eh.1 hg)
    | some p=>
      obtain⟨j,x,g1,g2,rfl⟩:=sJ hg;obtain⟨I,ae⟩:j<vn k l.length/\l[j]?=some x:=by
       rw[oc]at g1;split at g1
       ·exact⟨‹_›,g1⟩
       ·cases g1
      have J:=oB ae;have ai:zf k 0=0:=by unfold zf;rw[if_neg (show ¬k=10 from Y),if_neg];intro e;subst e;exact absurd I (by simp[vn])
      have aa:=ac x J;rw[ai]at aa;have typed:∃ r' u',Lv r'/\HT r' x 0 u':=by
       cases h with
       | var _ _=>exact absurd I (by simp[vn])
       | int=>exact absurd I (by simp[vn])
       | bool=>exact absurd I (by simp[vn])
       | op h=>exact⟨_,_,O,h x J⟩
       | ite ha hb hc=>
         simp only[oF,oZ,nh]at J;rcases J with rfl | rfl | rfl
         ·exact⟨_,_,O,ha⟩
         ·exact⟨_,_,O,hb⟩
         ·exact⟨_,_,O,hc⟩
       | lam _ _=>exact absurd I (by simp[vn])
       | app hf aj=>
         simp only[oF,oZ,nh]at J;rcases J with rfl | rfl
         ·exact⟨_,_,O,hf⟩
         ·exact⟨_,_,O,aj⟩
       | @lt _ _ _ _ _ _ a b _ t _ _ ha hb=>
         have h1:j<1:=I;have:j=0:=by omega
         subst this;cases ae;exact⟨_,_,O,ha⟩
       | fix _ _ _=>exact absurd I (by simp[vn])
       | quote _ _=>exact absurd rfl Y
       | splice _=>exact absurd I (by simp[vn])
       | run hb=>rw[oV]at J;subst J;exact⟨_,_,O.safe _,hb⟩
       | lift hb _ _=>rw[oV]at J;subst J;exact⟨_,_,O,hb⟩
      obtain⟨r',u',ak,al⟩:=typed;exact ih x r' u' (ab x J) (nd.sub x J) aa al ak g2
mutual
def Ty.has4:Ty->Bool
 | .mk k l=>pH l||k==4
def pH:List Ty->Bool
 | []=>false
 | t::I=>t.has4||pH I
end
mutual
def Tm.plainB:Tm->Bool
 | .mk k _ _ _ ty re l=>wO l&&(decide (k<10)&&(!ty.has4&&!re.has4))
def wO:List Tm->Bool
 | []=>true
 | t::I=>t.plainB&&wO I
end
def Tm.isPl (t:Tm):Bool:=t.ok&&t.plainB
structure WkN (k:Int) (nm:ByteArray) (n:Int) (ty re:Ty) (m:Nat):Prop where
 lt:k<10
 len:(m:Int)=Cw k nm
 o:k=4->0<rU nm
 i:k=2->0<=n/\n<=10006
 b:k=3->n=0\/n=1
 z:(k=1\/k=2\/k=3)->ty.cnt=1/\re.cnt=1
mutual
def Tm.wk:Tm->Prop
 | .mk k nm _ n ty re l=>WkN k nm n ty re l.length/\Om l
def Om:List Tm->Prop
 | []=>True
 | t::I=>t.wk/\Om I
end
theorem zU:∀ {l:List Tm},Om l↔∀ x∈l,x.wk
 | []=>by simp[Om]
 | t::I=>by simp only[Om,zU (l:=I),oF,nT]
theorem WkN.ar {k:Int}{nm:ByteArray}{n:Int}{ty re:Ty}{m:Nat}(h:WkN k nm n ty re m):(1<=k)/\((k=6\/k=9)->m=1)/\((k=7\/k=8)->m=2)/\(k=5->m=3)/\((k=1\/k=2\/k=3)->m=0)/\(k=4->(m:Int)=rU nm):=by
 have I:=h.len;have J:=h.lt;unfold Cw at I;refine⟨?_,?_,?_,?_,?_,?_⟩
 ·(repeat' split at I)<;>omega
 ·rintro(rfl | rfl)<;>(simp at I;omega)
 ·rintro(rfl | rfl)<;>(simp at I;omega)
 ·rintro rfl;simp at I;omega
 ·rintro(rfl | rfl | rfl)<;>(simp at I;omega)
 ·rintro rfl;simpa using I
theorem Cb:∀ {l:List Tm},wO l=true↔∀ x∈l,x.plainB=true
 | []=>by simp[wO]
 | t::I=>by simp only[wO,oG,Cb (l:=I),oF,nT]
theorem SG:∀ t:Tm,t.ok=true->t.plainB=true->t.wk:=by
 refine Tm.ind λk nm ot n ty re l ih h O=>?_;have U:=h;simp only[Tm.ok,oG,nM]at h;simp only[Tm.plainB,oG,o9]at O;have h5:∀ x∈l,x.ok=true:=λx J=>By h.1 J;refine⟨⟨O.2.1,h.2.2,λI=>?_,λI=>?_,λI=>?_,λI=>?_⟩,zU.2 λx J=>ih x J (h5 x J) (Cb.1 O.1 x J)⟩
 ·subst I;exact Yi U
 ·subst I;exact RO U (.inl rfl)
 ·subst I;exact BA U rfl
 ·have Y:=h.2.1;simp only[zK,oG,nI,nM]at Y;have z1:∀ {t:Ty},t.zero=true->t.cnt=1:=λ{t} ht=>by
   cases t with
   | mk k l=>
   simp only[Ty.zero,Ty.as,oG,nM]at ht;have:l=[]:=oM (by omega);subst this;simp[Ty.cnt,zL]
  have n1:sB k=false:=by unfold sB;rcases I with rfl | rfl | rfl<;>rfl
  have n2:¬k=9:=by omega
  exact⟨z1 (Y.2.1.resolve_left (by rw[n1];decide)),z1 (Y.2.2.2.1.resolve_left n2)⟩
theorem Zv:∀ t:Tm,t.wk->t.V:=by refine Tm.ind λk nm ot n ty re l J h=>?_;exact⟨λO=>oM (h.1.ar.2.2.2.2.1 (.inl O)),uR.2 λx I=>J x I (zU.1 h.2 x I)⟩
theorem Pr (s:ByteArray):(xk s).wk:=⟨⟨by decide,rfl,λh=>absurd h (by decide),λh=>absurd h (by decide),λh=>absurd h (by decide),λ_=>⟨by simp[Ty.cnt,zL],by simp[Ty.cnt,zL]⟩⟩,trivial⟩
theorem WkN.rn {k:Int}{nm I:ByteArray}{n:Int}{ty re:Ty}{m m':Nat}(h:WkN k nm n ty re m)(U:m'=m)(O:k≠4):WkN k I n ty re m':=by subst U;refine⟨h.lt,?_,λhc=>absurd hc O,h.i,h.b,h.z⟩;have J:=h.len;unfold Cw at J ⊢;rw[if_neg O]at J ⊢;exact J
theorem RK:∀(f:Nat) (t:Tm) (x:ByteArray) (b:Tm),t.wk->b.wk->(t.sub f x b).wk
 | 0,t,x,b,h,_=>by simp only[Tm.sub];exact h
 | f + 1,.mk k nm ot n ty re l,x,b,h,hb=>by
   have J:=RK f;obtain⟨h1,I⟩:=h;have I:=zU.1 I;simp only[Tm.sub];split
   ·split
    ·exact hb
    ·exact⟨h1,zU.2 I⟩
   ·rename_i hk;split
    ·refine⟨by simpa using h1,zU.2 λy O=>?_⟩;obtain⟨z,hz,rfl⟩:=oP.1 O;exact J z x b (I z hz) hb
    ·rename_i U;obtain⟨g1,g2⟩:=yM U;have Y:=I _ (oB (zH g1));have aa:k≠4:=by
      rintro rfl
      exact U (by unfold zN;simp)
     have key:∀ v:Tm,v.wk->Om ((l.map λt=>Tm.sub f t x b).set (zN k l.length).toNat v):=λv hv=>zU.2 λy O=>by
      rcases oe O with O | rfl
      ·obtain⟨z,hz,rfl⟩:=oP.1 O;exact J z x b (I z hz) hb
      ·exact hv
     split
     ·exact⟨h1.rn (by simp) aa,key _ Y⟩
     ·refine⟨h1.rn (by simp) aa,key _ (J _ x b ?_ hb)⟩;have r1:∀(old:ByteArray) (s:ByteArray × ByteArray × Tm),s.2.2.wk->(rn1 (Tm.sub f) k l.length b.fv x old s).2.2.wk:=λold s hs=>by
       unfold rn1;split
       ·split
        ·exact J _ _ _ hs (Pr _)
        ·exact J _ _ _ hs (Pr _)
       ·exact hs
      have rs:∀(ns:List ByteArray) (s:ByteArray × ByteArray × Tm),s.2.2.wk->(rns (Tm.sub f) k l.length b.fv x ns s).2.2.wk:=by
       intro ns
       induction ns with
       | nil=>exact λs hs=>hs
       | cons o os ab=>exact λs hs=>ab _ (r1 o s hs)
      exact rs _ _ Y
theorem MS {b:Tm}(hb:∀(nm ot:ByteArray)(n:Int)(ty re:Ty)(l:List Tm),LeT b (.mk 1 nm ot n ty re l)):∀(f:Nat)(t:Tm)(x:ByteArray),LeT (t.sub f x b) t
 | 0,t,x=>by simp only[Tm.sub];exact LeT.rfl
 | f + 1,.mk k nm ot n ty re l,x=>by
   have ih:=MS hb f;simp only[Tm.sub];split
   ·rename_i U;split
    ·subst U;exact hb _ _ _ _ _ _
    ·exact LeT.rfl
   ·rename_i U;split
    ·refine Ff U (by simp) λi t' t I J=>?_;rw[oE,J]at I;cases I;exact ih t x
    ·rename_i aa;obtain⟨g1,g2⟩:=yM aa;split
     ·refine Ff U (by simp) λi t' t I J=>?_;rcases pK I J with⟨Y,O⟩ | ⟨Y,O⟩
      ·rw[Y,zH g1]at J;rw[O,<-oT J];exact LeT.rfl
      ·rw[O];exact ih t x
     ·refine Ff U (by simp) λi t' t I J=>?_;rcases pK I J with⟨Y,O⟩ | ⟨Y,O⟩
      ·rw[Y,zH g1]at J;rw[O,<-oT J];exact(ih _ x).trans (ut (yJ f) _ _ _ _ _ _)
      ·rw[O];exact ih t x
def Tm.atm (t:Tm):Bool:=t.kd==2||(t.kd==3||t.kd==1)
mutual
def Tm.qui:Tm->Bool
 | .mk k _ _ _ _ _ l=>Fm l&&k != 7
def Fm:List Tm->Bool
 | []=>true
 | t::I=>t.qui&&Fm I
end
def Tm.isI (t:Tm)(n:Int):Bool:=t.kd==2&&t.no==n
def Ax (e:Tm)(nm:ByteArray)(l:List Tm):Tm:=
 if(Hu nm l).2=true then(Hu nm l).1
 else if(nm=bytes [43]/\(l.getD 0 tm0).isI 0=true)\/(nm=bytes [42]/\(l.getD 0 tm0).isI 1=true)then l.getD 1 tm0
 else if(nm=bytes [43]/\(l.getD 1 tm0).isI 0=true)\/(nm=bytes [42]/\(l.getD 1 tm0).isI 1=true)\/(nm=bytes [45]/\(l.getD 1 tm0).isI 0=true)then l.getD 0 tm0
 else e
def L4:Tm->Tm
 | .mk k nm ot n ty re l=>
   if k=4 then Ax (.mk k nm ot n ty re l) nm l
   else if k=5 then(if(l.getD 0 tm0).kd=3 then l.getD (2 - (l.getD 0 tm0).no).toNat tm0 else .mk k nm ot n ty re l)
   else if k=7 then(if(l.getD 0 tm0).kd=6/\(l.getD 1 tm0).atm=true then((l.getD 0 tm0).pt 0).sb (l.getD 0 tm0).nm (l.getD 1 tm0)else .mk k nm ot n ty re l)
   else if k=8 then(if(l.getD 0 tm0).atm=true then(l.getD 1 tm0).sb nm (l.getD 0 tm0)
    else if(l.getD 0 tm0).qui=true/\nm∉(l.getD 1 tm0).fv then l.getD 1 tm0 else .mk k nm ot n ty re l)
   else .mk k nm ot n ty re l
mutual
def Tm.sim:Tm->Tm
 | .mk k nm ot n ty re l=>L4 (.mk k nm ot n ty re (u4 l))
def u4:List Tm->List Tm
 | []=>[]
 | t::I=>t.sim::u4 I
end
theorem zZ:∀ l:List Tm,u4 l=l.map Tm.sim
 | []=>rfl
 | t::I=>by simp only[u4,oh,zZ I]
def Tm.simplify (t:Tm):Tm:=if t.isPl=true then t.sim else t
theorem SI:∀ {l:List Tm}{t:Tm},t∈l->t.sz<=yB l
 | u::us,t,h=>by
   simp only[yB];rcases oF.1 h with rfl | h
   ·omega
   ·have:=SI h;omega
theorem KE {k:Int}{nm ot:ByteArray}{n:Int}{ty re:Ty}{l:List Tm}{x:Tm}(I:x∈l)(J:k≠1):LeT x (.mk k nm ot n ty re l):=by have O:=DO I;have h2:=dp_mem (k:=k) (nm:=nm) (ot:=ot) (n:=n) (ty:=ty) (re:=re) I;have h3:=SI I;have h4:=xz I;exact⟨by simp only[Tm.vc,if_neg J];exact O,by omega,λU=>uR.1 U.2 x I,λY=>zh Y.2.2.2 I,by simp only[Tm.sz];omega,by simp only[Tm.cnt];omega⟩
theorem VK {b:Tm}(O:b.wk)(U:b.atm=true)(nm ot:ByteArray)(n:Int)(ty re:Ty)(l:List Tm):LeT b (.mk 1 nm ot n ty re l):=by
 cases b with
 | mk bk bn bo bm bt br bl=>
 have I:bk=1\/bk=2\/bk=3:=by simp only[Tm.atm,Tm.kd,nI,nM]at U;omega
 obtain⟨J,h2⟩:=O;obtain⟨z1,z2⟩:=J.z I;have Y:bl=[]:=oM (J.ar.2.2.2.2.1 I);subst Y
 have:=Ty.cnt_pos ty
 have:=Ty.cnt_pos re
 refine⟨?_,?_,?_,?_,?_,?_⟩
 ·simp only[Tm.vc,mU,uB];split<;>omega
 ·simp only[Tm.dp,r8];omega
 ·exact λ_=>⟨λ_=>rfl,trivial⟩
 ·exact λ_=>⟨by omega,by omega,by simp,trivial⟩
 ·simp only[Tm.sz,yB];omega
 ·simp only[Tm.cnt,zj];omega
theorem WK {k n:Int}(O:k=2\/k=3){I:Int}{nm ot:ByteArray}{J:Int}{ty re:Ty}{l:List Tm}:LeT (Co k n) (.mk I nm ot J ty re l):=by
 have:=Ty.cnt_pos ty
 have:=Ty.cnt_pos re
 refine⟨?_,?_,?_,?_,?_,?_⟩
 ·simp only[Co,Tm.vc,uB];rw[if_neg (by omega)];omega
 ·simp only[Co,Tm.dp,r8];omega
 ·exact λ_=>⟨λ_=>rfl,trivial⟩
 ·exact λ_=>⟨by simp[Ty.cnt,zL],by simp[Ty.cnt,zL],by simp,trivial⟩
 ·simp only[Co,Tm.sz,yB];omega
 ·simp only[Co,Tm.cnt,zj,Ty.cnt,zL];omega
theorem VP {k n:Int}(h:(k=2/\0<=n/\n<=10006)\/(k=3/\0<=n/\n<=1)):(Co k n).wk:=by
 have I:(Ty.mk 0 []).cnt=1:=by simp[Ty.cnt,zL]
 rcases h with⟨rfl,J,O⟩ | ⟨rfl,J,O⟩
 ·exact⟨⟨by decide,rfl,λh=>absurd h (by decide),λ_=>⟨J,O⟩,λh=>absurd h (by decide),λ_=>⟨I,I⟩⟩,trivial⟩
 ·exact⟨⟨by decide,rfl,λh=>absurd h (by decide),λh=>absurd h (by decide),λ_=>by omega,λ_=>⟨I,I⟩⟩,trivial⟩
theorem YN (nm:ByteArray)(a b:Int):(Co (w7 nm) (zE nm a b).1).wk:=by
 refine VP ?_;have h:=C3 nm a b;unfold w7;split
 ·exact .inl ⟨rfl,h⟩
 ·rename_i I;simp only[DE,nI,o9,not_or]at I;exact .inr ⟨rfl,qc I.1 I.2.1 I.2.2 _ _⟩
theorem A8 (s:ByteArray):w7 s=2\/w7 s=3:=by unfold w7;split<;>simp
theorem UR {n:Int}{nm ot:ByteArray}{ty re:Ty}{l:List Tm}(h:(Tm.mk 4 nm ot n ty re l).wk):LeT (Ax (.mk 4 nm ot n ty re l) nm l) (.mk 4 nm ot n ty re l)/\(Ax (.mk 4 nm ot n ty re l) nm l).wk:=by
 have Y:=zU.1 h.2;have I:∀ i,i<l.length->LeT (l.getD i tm0) (.mk 4 nm ot n ty re l)/\(l.getD i tm0).wk:=λi hi=>⟨KE (zB hi) (by decide),Y _ (zB hi)⟩
 have O:∀ {i:Nat} {m:Int},(l.getD i tm0).isI m=true->i<l.length:=λ{i m} hi=>by
  by_cases hc:i<l.length
  ·exact hc
  ·rw[CY (by omega)]at hi;simp[Tm.isI,tm0,Tm.kd]at hi
 have h2:=(h.1.ar.2.2.2.2.2 rfl)
 unfold Ax;split
 ·rename_i U;unfold Hu at U ⊢;split
  ·exact⟨WK (A8 nm),YN _ _ _⟩
  ·rename_i J;rw[if_neg J]at U;simp at U
 ·split
  ·rename_i J;refine I 1 ?_;have:rU nm=2:=by rcases J with⟨rfl,_⟩ | ⟨rfl,_⟩<;>decide +kernel
   omega
  ·split
   ·rename_i J;refine I 0 ?_;have:rU nm=2:=by rcases J with⟨rfl,_⟩ | ⟨rfl,_⟩ | ⟨rfl,_⟩<;>decide +kernel
    omega
   ·exact⟨LeT.rfl,h⟩
theorem Qx:∀ {e:Tm},e.wk->LeT (L4 e) e/\(L4 e).wk
 | .mk k nm ot n ty re l,h=>by
   have hp:=zU.1 h.2;obtain⟨a0,a1,a2,a3,_⟩:=h.1.ar;have I:k≠1->∀ i,i<l.length->LeT (l.getD i tm0) (.mk k nm ot n ty re l)/\(l.getD i tm0).wk:=λJ i hi=>⟨KE (zB hi) J,hp _ (zB hi)⟩
   simp only[L4];split
   ·rename_i J;subst J;exact UR h
   split
   ·rename_i J;have hl:=a3 J;split
    ·rename_i h3;have hw:=hp _ (zB (l:=l) (i:=0) (by omega));have hn:(l.getD 0 tm0).no=0\/(l.getD 0 tm0).no=1:=by
      generalize l.getD 0 tm0=p at h3 hw ⊢;cases p with
      | mk pk pn po pm pt pr pl=>exact hw.1.b h3
     exact I (by omega) _ (by omega)
    ·exact⟨LeT.rfl,h⟩
   split
   ·rename_i J;have hl:=a2 (.inl J);split
    ·rename_i Y;obtain⟨Y,ha⟩:=Y;have O:=I (by omega) 0 (by omega);have U:=I (by omega) 1 (by omega);generalize l.getD 0 tm0=p at Y O ⊢;generalize l.getD 1 tm0=q at ha U ⊢;cases p with
     | mk pk pn po pm pt pr pl=>
     have aa:=O.2.1.ar.2.1 (.inl Y);have hm:=zB (l:=pl) (i:=0) (by omega);have hw:=zU.1 O.2.2 _ hm;simp only[Tm.pt];exact⟨((MS (VK U.2 ha) _ _ _).trans (KE hm (by have:pk=6:=Y;omega))).trans O.1,RK _ _ _ _ hw U.2⟩
    ·exact⟨LeT.rfl,h⟩
   split
   ·rename_i J;have hl:=a2 (.inr J);have O:=I (by omega) 0 (by omega);have U:=I (by omega) 1 (by omega);split
    ·rename_i ha;exact⟨(MS (VK O.2 ha) _ _ _).trans U.1,RK _ _ _ _ U.2 O.2⟩
    ·split
     ·exact U
     ·exact⟨LeT.rfl,h⟩
   ·exact⟨LeT.rfl,h⟩
theorem Gf:∀ t:Tm,t.wk->LeT t.sim t/\t.sim.wk:=by
 refine Tm.ind λk nm ot n ty re l O h=>?_;have U:=zU.1 h.2;have Y:(Tm.mk k nm ot n ty re (u4 l)).wk:=by refine⟨by rw[zZ,oW];exact h.1,zU.2 λx hx=>?_⟩;rw[zZ]at hx;obtain⟨z,hz,rfl⟩:=oP.1 hx;exact(O z hz (U z hz)).2
 simp only[Tm.sim];refine⟨(Qx Y).1.trans ?_,(Qx Y).2⟩;by_cases hk:k=1
 ·have hl:l=[]:=oM (h.1.ar.2.2.2.2.1 (.inl hk));subst hl;exact LeT.rfl
 refine Ff hk (by rw[zZ];simp) λi t' t I J=>?_;rw[zZ,oE,J]at I;cases I;exact(O t (oB J) (U t (oB J))).1
theorem GV (t:Tm):LeT t.simplify t:=by
 unfold Tm.simplify;split
 ·rename_i h;simp only[Tm.isPl,oG]at h;exact(Gf t (SG t h.1 h.2)).1
 ·exact LeT.rfl
structure Tm.W (e:Tm):Prop where
 k:e.wk
 c:e.cnt<=4000000
theorem Tm.W.z {e:Tm}(h:e.W):e.Z:=⟨Tm.G_cnt _ (by have:=h.c;omega),by have:=h.c;have:=Tm.vc_cnt e;have:=e.wd_vc;omega,Zv _ h.k⟩
theorem Tm.W.mem {k:Int}{nm ot:ByteArray}{n:Int}{ty re:Ty}{l:List Tm}(h:(Tm.mk k nm ot n ty re l).W):∀ y∈l,y.W:=λy I=>by have J:=h.c;simp only[Tm.cnt]at J;have O:=xz I;exact⟨zU.1 h.k.2 y I,by omega⟩
theorem Yk {e b:Tm}{x:ByteArray}(I:e.W)(J:b.W):(e.sb x b).Z:=by have O:=Uq e.dp e x b;have U:=Tm.vc_cnt e;have Y:=Tm.vc_cnt b;have h5:=I.c;have h6:=J.c;have h4:e.vc*(b.vc+1)<=1333333*1333334:=Nat.mul_le_mul (by omega) (by omega);have h7:=(Tm.sub e.dp e x b).wd_vc;exact⟨P7 _ _ _ _ I.z.g J.z.g,by unfold Tm.sb;omega,Sp _ _ _ _ I.z.v J.z.v⟩
theorem Tm.W.sim {e:Tm}(h:e.W):e.sim.W:=⟨(Gf e h.k).2,oL (Gf e h.k).1.n h.c⟩
theorem Ds:∀(t:Ty)(d:D),t.Is d->ws 96 [.dg 2 d,.j 4] t.has4:=by
 refine Ty.ind λk l ih d hd N Q hQ=>?_;obtain⟨a,es,c,rfl,O,U⟩:=Ty.is_mk.1 hd;refine Kh N _ 4 Q λ_=>?_;simp only[Ty.has4]at hQ;refine up U O (λi xs=>∀(N':Nat),N<=N'->(∀ N'',N'<=N''->Q (pH xs||k==4) N'')->uL Q N 4 i (.ag [.j k,.sl a 2 es c]) N') ?_ ?_ N (oC _) hQ
 ·intro i Y _ N' aa I;refine Am ?_
  repeat' first|with_reducible intro _|simp only[Y,Y1,Y2,Y3,Y4]|with_reducible refine X ?_ ?_|refine⟨_,_,_,rfl,?_⟩|refine⟨_,rfl,?_⟩|refine X0 ?_|fail
  exact Qb (I _ (by omega)) (by simp[pH])
 ·intro i x xs J _ ab N' aa I;have hb:=J.b;simp only[pH]at I;refine Am ?_
  repeat' first|with_reducible intro _|simp only[J.lt,J.w,oH,Y1,Y2,Y3,Y4]|with_reducible refine X ?_ ?_|refine⟨_,_,_,rfl,?_⟩|refine⟨_,rfl,?_⟩|refine X0 ?_|refine(ih x J.m _ J.r) _ _ ?_|fail
  ·refine Qb (I _ (by omega)) ?_;simp[*]
  ·exact ab _ (by omega) λN'' h=>Qb (I N'' (by omega)) (by simp[*])
theorem G6:∀(t:Tm)(d:D),t.Is d->ws 54 [.dg 9 d] t.plainB:=by
 refine Tm.ind λk nm ot n ty re l ih d hd N Q hQ=>?_;obtain⟨t0,t1,r0,r1,a,es,c,rfl,hh,O,U⟩:=Tm.is_mk.1 hd;refine HB N _ Q λ_=>?_;simp only[Tm.plainB]at hQ;refine up U O (λi xs=>∀(N':Nat),N<=N'->(∀ N'',N'<=N''->Q (wO xs&&(decide (k<10)&&(!ty.has4&&!re.has4))) N'')->we Q N i (.ag [.j k,.t nm,.t ot,.j n,t0,t1,r0,r1,.sl a 9 es c]) N') ?_ ?_ N (oC _) hQ
 ·intro i Y _ N' aa I;refine qT ?_
  repeat' first|with_reducible intro _|simp only[Y,Y1,Y2,Y3,Y4]|with_reducible refine X ?_ ?_|refine⟨_,_,_,rfl,?_⟩|refine⟨_,rfl,?_⟩|refine X0 ?_|refine(Ds _ _ hh.ty) _ _ ?_|refine(Ds _ _ hh.re) _ _ ?_|fail
  all_goals(refine Qb (I _ (by omega)) ?_;simp[wO, *];done)
 ·intro i x xs J _ ab N' aa I;have hb:=J.b;simp only[wO]at I;refine qT ?_
  repeat' first|with_reducible intro _|simp only[J.lt,J.w,oH,Y1,Y2,Y3,Y4]|with_reducible refine X ?_ ?_|refine⟨_,_,_,rfl,?_⟩|refine⟨_,rfl,?_⟩|refine X0 ?_|refine(ih x J.m _ J.r) _ _ ?_|fail
  ·refine Qb (I _ (by omega)) ?_;simp[*]
  ·exact ab _ (by omega) λN'' h=>Qb (I N'' (by omega)) (by simp[*])
theorem Hc (t:Tm)(d:D)(hd:t.Is d)(hc:t.cnt<=1073741824):ws 26 [.dg 9 d] t.isPl:=λN Q I=>by
 refine Hb N _ Q λ_=>?_
 repeat' first|with_reducible intro _|simp only[Y1,Y2,Y3,Y4]|with_reducible refine X ?_ ?_|refine⟨_,_,_,rfl,?_⟩|refine⟨_,rfl,?_⟩|refine X0 ?_|refine(JH t d hd hc) _ _ ?_|refine(G6 t d hd) _ _ ?_|fail
 all_goals(refine Qb (I _ (by omega)) ?_;simp[Tm.isPl, *])
theorem ru (t:Tm)(d:D)(hd:t.Is d):ws 13 [.dg 9 d] t.atm:=λN Q J=>by
 cases t with
 | mk k nm ot n ty re l=>
 obtain⟨t0,t1,r0,r1,a,es,c,rfl,U,I,O⟩:=Tm.is_mk.1 hd;refine JS N _ Q λ_=>?_
 repeat' first|with_reducible intro _|simp only[Y1,Y2,Y3,Y4]|with_reducible refine X ?_ ?_|refine⟨_,_,_,rfl,?_⟩|refine⟨_,rfl,?_⟩|refine X0 ?_|refine(yx _ _ _) _ _ ?_|fail
 all_goals
  refine Qb (J _ (by omega)) ?_;simp only[Tm.atm,Tm.kd,inB];rw[nj];simp only[nI,oG,nM,o9];omega
theorem ui (t:Tm)(d:D)(hd:t.Is d)(m:Int):ws 141 [.dg 9 d,.j m] (t.isI m):=λN Q J=>by
 cases t with
 | mk k nm ot n ty re l=>
 obtain⟨t0,t1,r0,r1,a,es,c,rfl,U,I,O⟩:=Tm.is_mk.1 hd;refine Le N _ m Q λ_=>?_
 repeat' first|with_reducible intro _|simp only[Y1,Y2,Y3,Y4]|with_reducible refine X ?_ ?_|refine⟨_,_,_,rfl,?_⟩|refine⟨_,rfl,?_⟩|refine X0 ?_|fail
 all_goals(refine Qb (J _ (by omega)) ?_;simp[Tm.isI,Tm.kd,Tm.no, *])
theorem Aq:∀(t:Tm)(d:D),t.Is d->ws 11 [.dg 9 d] t.qui:=by
 refine Tm.ind λk nm ot n ty re l ih d hd N Q hQ=>?_;obtain⟨t0,t1,r0,r1,a,es,c,rfl,hh,O,U⟩:=Tm.is_mk.1 hd;refine Gt N _ Q λ_=>?_;simp only[Tm.qui]at hQ;refine up U O (λi xs=>∀(N':Nat),N<=N'->(∀ N'',N'<=N''->Q (Fm xs&&k != 7) N'')->wg Q N i (.ag [.j k,.t nm,.t ot,.j n,t0,t1,r0,r1,.sl a 9 es c]) N') ?_ ?_ N (oC _) hQ
 ·intro i Y _ N' aa I;refine qJ ?_
  repeat' first|with_reducible intro _|simp only[Y,Y1,Y2,Y3,Y4]|with_reducible refine X ?_ ?_|refine⟨_,_,_,rfl,?_⟩|refine⟨_,rfl,?_⟩|refine X0 ?_|fail
  exact Qb (I _ (by omega)) (by simp[Fm])
 ·intro i x xs J _ ab N' aa I;have hb:=J.b;simp only[Fm]at I;refine qJ ?_
  repeat' first|with_reducible intro _|simp only[J.lt,J.w,oH,Y1,Y2,Y3,Y4]|with_reducible refine X ?_ ?_|refine⟨_,_,_,rfl,?_⟩|refine⟨_,rfl,?_⟩|refine X0 ?_|refine(ih x J.m _ J.r) _ _ ?_|fail
  ·refine Qb (I _ (by omega)) ?_;simp[*]
  ·exact ab _ (by omega) λN'' h=>Qb (I N'' (by omega)) (by simp[*])
theorem GY (t:Ty)(d:D)(hd:t.Is d):ws 89 [.dg 2 d] (t.k != 4):=λN Q J=>by
 cases t with
 | mk k l=>
 obtain⟨a,es,c,rfl,I,O⟩:=Ty.is_mk.1 hd;refine AE N _ Q λ_=>?_
 repeat' first|with_reducible intro _|simp only[Y1,Y2,Y3,Y4]|with_reducible refine X ?_ ?_|refine⟨_,_,_,rfl,?_⟩|refine⟨_,rfl,?_⟩|refine X0 ?_|fail
 exact Qb (J _ (by omega)) rfl
theorem EQ {p:Ty->Bool} {l:List Ty} {es:List D} (h:All2 Ty.Is l es) (O:es.length<=4611686018427387904) (ad:Addr) (hp:∀ x∈l,∀ d,x.Is d->ws 128 [.dg 2 d,.pd ad 0 (.fn 89 [])] (p x)) (a:Option Addr) (c:Nat) :
  ws 127 [.sv a 2 es c,.fn 128 [.pd ad 0 (.fn 89 [])]] (l.any p):=λN Q U=>by
 have hi:Dx 154 [.sv a 2 es c,.fn 128 [.pd ad 0 (.fn 89 [])]] (AR p l 0):=λN Q U=>by
  refine t6 N a es c ad Q λ_=>?_;refine up h O (λi xs=>∀(N':Nat),N<=N'->(∀ N'',N'<=N''->Q (AR p xs i) N'')->zx Q N a es c ad es.length i N') ?_ ?_ N (oC _) U
  ·intro i Y _ N' aa I;refine wI ?_
   repeat' first|with_reducible intro _|simp only[Y,Y1,Y2,Y3,Y4]|with_reducible refine X ?_ ?_|refine⟨_,_,_,rfl,?_⟩|refine⟨_,rfl,?_⟩|refine X0 ?_|fail
   exact I _ (by omega)
  ·intro i x xs J _ ab N' aa I;have hb:=J.b;simp only[AR]at I;refine wI ?_
   repeat' first|with_reducible intro _|simp only[J.lt,J.w,oH,Y1,Y2,Y3,Y4]|with_reducible refine X ?_ ?_|refine⟨_,_,_,rfl,?_⟩|refine⟨_,rfl,?_⟩|refine X0 ?_|refine(hp x J.m _ J.r) _ _ ?_|fail
   ·exact Qi (I _ (by omega)) (by rw[if_pos (by assumption)])
   ·rename_i h;exact ab _ (by omega) λN'' h2=>Qi (I _ (by omega)) (by rw[h];simp)
 refine ud N a es c ad Q λ_=>?_
 repeat' first|with_reducible intro _|simp only[Y1,Y2,Y3,Y4]|with_reducible refine X ?_ ?_|refine⟨_,_,_,rfl,?_⟩|refine⟨_,rfl,?_⟩|refine X0 ?_|refine hi _ _ ?_|fail
 exact Qb (U _ (by omega)) (rZ _ l 0 (by omega)).symm
theorem FE:∀ l:List Ty,pH l=l.any λx=>!!x.has4
 | []=>rfl
 | t::I=>by simp only[pH,mw,FE I];cases t.has4<;>simp
theorem Mx:∀(t:Ty)(d:D),t.Is d->ws 88 [.dg 2 d,.fn 89 []] (!t.has4):=by
 refine Ty.ind λk l ih d hd N Q J=>?_;have O:=hd;obtain⟨a,es,c,rfl,I,U⟩:=Ty.is_mk.1 hd;refine Ay N _ Q λ_=>?_;simp only[Ty.has4,FE]at J;have Y:=GY _ _ O;simp only[Ty.k]at Y
 repeat' first|with_reducible intro _|simp only[Y1,Y2,Y3,Y4]|with_reducible refine X ?_ ?_|refine⟨_,_,_,rfl,?_⟩|refine⟨_,rfl,?_⟩|refine X0 ?_|refine Y _ _ ?_|refine(EQ U I _ (λx hx d hd=>λN Q J=>qp N d _ Q λ_ N1 aa=>ih x hx d hd N1 _ λN2 ab ac N3 ae=>J N3 (by omega)) _ _) _ _ ?_|fail
 all_goals(refine Qb (J _ (by omega)) ?_;simp_all)
theorem sd (t:Ty)(d:D)(hd:t.Is d)(hc:t.cnt<=1073741824):ws 50 [.dg 2 d] (t.valid&&!t.has4):=λN Q I=>by
 refine CC N _ Q λ_=>?_
 repeat' first|with_reducible intro _|simp only[Y1,Y2,Y3,Y4]|with_reducible refine X ?_ ?_|refine⟨_,_,_,rfl,?_⟩|refine⟨_,rfl,?_⟩|refine X0 ?_|refine(vm t d hd hc) _ _ ?_|refine(Mx t d hd) _ _ ?_|fail
 all_goals(refine Qb (I _ (by omega)) ?_;simp[*])
theorem Qc (k:Int):ws 49 [.j k] (inB k 10 13):=λN Q I=>by
 refine Gr N k Q ?_
 repeat' first|with_reducible intro _|simp only[Y1,Y2,Y3,Y4]|with_reducible refine X ?_ ?_|refine⟨_,_,_,rfl,?_⟩|refine⟨_,rfl,?_⟩|refine X0 ?_|refine(wA _ _ _) _ _ ?_|fail
 exact I _ (by omega)
def plN (k:Int)(ty re:Ty):Bool:=!inB k 10 13&&(!(k==6||k==9)||((ty.valid&&!ty.has4)&&(k==6||(re.valid&&!re.has4))))
theorem M9 {k n:Int} {nm ot:ByteArray} {ty re:Ty} {t0 t1 r0 r1 x:D} (h:Tm.Hd nm ot ty re t0 t1 r0 r1) (hc:ty.cnt<=1073741824) (I:re.cnt<=1073741824) :
  ws 48 [.dg 9 (.ag [.j k,.t nm,.t ot,.j n,t0,t1,r0,r1,x])] (plN k ty re):=λN Q J=>by
 refine EX N _ Q λ_=>?_
 repeat' first|with_reducible intro _|simp only[Y1,Y2,Y3,Y4]|with_reducible refine X ?_ ?_|refine⟨_,_,_,rfl,?_⟩|refine⟨_,rfl,?_⟩|refine X0 ?_|refine(Qc _) _ _ ?_|refine(sd _ _ h.ty hc) _ _ ?_|refine(sd _ _ h.re I) _ _ ?_|fail
 all_goals(refine Qb (J _ (by omega)) ?_;simp_all[plN])
theorem D7 {p:Tm->Bool} {l:List Tm} {es:List D} (h:All2 Tm.Is l es) (O:es.length<=4611686018427387904) (ad:Addr) (hp:∀ x∈l,∀ d,x.Is d->ws 85 [.dg 9 d,.pd ad 0 (.fn 48 [])] (p x)) (a:Option Addr) (c:Nat) :
  ws 84 [.sv a 9 es c,.fn 85 [.pd ad 0 (.fn 48 [])]] (l.any p):=λN Q U=>by
 have hi:Dx 123 [.sv a 9 es c,.fn 85 [.pd ad 0 (.fn 48 [])]] (AR p l 0):=λN Q U=>by
  refine tw N a es c ad Q λ_=>?_;refine up h O (λi xs=>∀(N':Nat),N<=N'->(∀ N'',N'<=N''->Q (AR p xs i) N'')->zy Q N a es c ad es.length i N') ?_ ?_ N (oC _) U
  ·intro i Y _ N' aa I;refine wJ ?_
   repeat' first|with_reducible intro _|simp only[Y,Y1,Y2,Y3,Y4]|with_reducible refine X ?_ ?_|refine⟨_,_,_,rfl,?_⟩|refine⟨_,rfl,?_⟩|refine X0 ?_|fail
   exact I _ (by omega)
  ·intro i x xs J _ ab N' aa I;have hb:=J.b;simp only[AR]at I;refine wJ ?_
   repeat' first|with_reducible intro _|simp only[J.lt,J.w,oH,Y1,Y2,Y3,Y4]|with_reducible refine X ?_ ?_|refine⟨_,_,_,rfl,?_⟩|refine⟨_,rfl,?_⟩|refine X0 ?_|refine(hp x J.m _ J.r) _ _ ?_|fail
   ·exact Qi (I _ (by omega)) (by rw[if_pos (by assumption)])
   ·rename_i h;exact ab _ (by omega) λN'' h2=>Qi (I _ (by omega)) (by rw[h];simp)
 refine uh N a es c ad Q λ_=>?_
 repeat' first|with_reducible intro _|simp only[Y1,Y2,Y3,Y4]|with_reducible refine X ?_ ?_|refine⟨_,_,_,rfl,?_⟩|refine⟨_,rfl,?_⟩|refine X0 ?_|refine hi _ _ ?_|fail
 exact Qb (U _ (by omega)) (rZ _ l 0 (by omega)).symm
mutual
def Tm.plI:Tm->Bool
 | .mk k _ _ _ ty re l=>plN k ty re&&qIo l
def qIo:List Tm->Bool
 | []=>true
 | t::I=>t.plI&&qIo I
end
theorem H4:∀ l:List Tm,qIo l=!(l.any λx=>!x.plI)
 | []=>rfl
 | t::I=>by simp only[qIo,mw,H4 I];cases t.plI<;>simp
theorem MM:∀(t:Tm)(d:D),t.Is d->t.cnt<=1073741824->ws 47 [.dg 9 d,.fn 48 []] t.plI:=by
 refine Tm.ind λk nm ot n ty re l Y d hd hc N Q J=>?_;obtain⟨t0,t1,r0,r1,a,es,c,rfl,hh,I,O⟩:=Tm.is_mk.1 hd;simp only[Tm.cnt]at hc;have hb:=M9 (k:=k) (n:=n) (x:=.sl a 9 es c) hh (by omega) (by omega);refine As N _ Q λ_=>?_;simp only[Tm.plI,H4]at J
 repeat' first|with_reducible intro _|simp only[Y1,Y2,Y3,Y4]|with_reducible refine X ?_ ?_|refine⟨_,_,_,rfl,?_⟩|refine⟨_,rfl,?_⟩|refine X0 ?_|refine hb _ _ ?_|refine(D7 O I _ (λx U d hd=>λN Q J=>pE N d _ Q λ_ N1 aa=>Y x U d hd (by have:=xz U;omega) N1 _ λN2 ab ac N3 ae=>J N3 (by omega)) _ _) _ _ ?_|fail
 all_goals(refine Qb (J _ (by omega)) ?_;simp[*])
theorem O9:∀ t:Tm,t.ok=true->t.plI=t.plainB:=by
 refine Tm.ind λk nm ot n ty re l ih h=>?_;have hp:qIo l=wO l:=by
  have I:∀ x∈l,x.ok=true:=λx I=>by simp only[Tm.ok,oG]at h;exact By h.1 I
  clear h
  induction l with
  | nil=>rfl
  | cons t ts O=>simp only[qIo,wO];rw[ih t (by simp) (I t (by simp)),O (λx h=>ih x (by simp[h])) λx h=>I x (by simp[h])]
 simp only[Tm.plI,Tm.plainB,hp];rw[Bool.and_comm];congr 1;simp only[Tm.ok,oG,zK,nI,nM]at h;obtain⟨_,⟨h1,h2,h3,h4,_⟩,h5⟩:=h;have z4:∀ {t:Ty},t.zero=true->t.has4=false:=λ{t} ht=>by
  cases t with
  | mk k l=>
  simp only[Ty.zero,Ty.as,Ty.k,oG,nM]at ht;have:l=[]:=oM (by omega);subst this;simp[Ty.has4,pH,ht.1]
 have aa:k<=13:=by
  unfold Cw at h5
  (repeat' split at h5)<;>omega
 have hs:inB k 10 13=!decide (k<10):=by rw[nj,zw];simp;omega
 unfold plN;rw[hs];by_cases U:k=6
 ·subst U;have Y:=z4 (h4.resolve_left (by decide));have v1:ty.valid=true:=by rw[<-h1];rfl
  simp[Y,v1]
 by_cases J:k=9
 ·subst J;have v1:ty.valid=true:=by rw[<-h1];rfl
  have v2:re.valid=true:=by rw[<-h3];decide
  simp[v1,v2]
 ·have n1:sB k=false:=by unfold sB;simp[U,J]
  have Y:=z4 (h4.resolve_left (by simpa using J));have t4:=z4 (h2.resolve_left (by rw[n1];decide));simp[Y,t4,U,J]
theorem HP (t:Tm)(d:D)(hd:t.Is d)(hc:t.cnt<=1073741824):ws 23 [.dg 9 d] t.isPl:=λN Q I=>by
 refine HV N _ Q λ_=>?_;have h:=O9 t
 repeat' first|with_reducible intro _|simp only[Y1,Y2,Y3,Y4]|with_reducible refine X ?_ ?_|refine⟨_,_,_,rfl,?_⟩|refine⟨_,rfl,?_⟩|refine X0 ?_|refine(I3 t d hd hc) _ _ ?_|refine(MM t d hd hc) _ _ ?_|fail
 all_goals(refine Qb (I _ (by omega)) ?_;simp_all[Tm.isPl])
theorem M6 (t:Tm)(d:D)(hd:t.Is d)(m:Int):ws 131 [.dg 9 d,.j m] (t.isI m):=λN Q J=>by
 cases t with
 | mk k nm ot n ty re l=>
 obtain⟨t0,t1,r0,r1,a,es,c,rfl,U,I,O⟩:=Tm.is_mk.1 hd;refine LG N _ m Q λ_=>?_
 repeat' first|with_reducible intro _|simp only[Y1,Y2,Y3,Y4]|with_reducible refine X ?_ ?_|refine⟨_,_,_,rfl,?_⟩|refine⟨_,rfl,?_⟩|refine X0 ?_|fail
 all_goals(refine Qb (J _ (by omega)) ?_;simp[Tm.isI,Tm.kd,Tm.no, *])
theorem r7 (t:Tm)(d:D)(hd:t.Is d):ws 12 [.dg 9 d] t.atm:=λN Q I=>by
 cases t with
 | mk k nm ot n ty re l=>
 obtain⟨t0,t1,r0,r1,a,es,c,rfl,hh,O,U⟩:=Tm.is_mk.1 hd;exact Jn N _ Q λ_=>⟨_,rfl,Br.beq (λh N1 J=>Qb (I _ (by omega)) (by simp[Tm.atm,Tm.kd,h])) λY=>⟨_,rfl,Br.beq (λh N1 J=>Qb (I _ (by omega)) (by simp[Tm.atm,Tm.kd,h])) λh3=>⟨_,rfl,λN3 aa=>Qb (I _ (by omega)) (by simp only[Tm.atm,Tm.kd,show(k==2)=false by simpa using Y,show(k==3)=false by simpa using h3,Bool.false_or])⟩⟩⟩
mutual
def Tm.apc:Tm->Nat
 | .mk k _ _ _ _ _ l=>(if k=7 then 1 else 0)+BU l
def BU:List Tm->Nat
 | []=>0
 | t::I=>t.apc+BU I
end
mutual
theorem Mn:∀ t:Tm,t.qui=decide (t.apc=0)/\t.apc<=t.cnt
 | .mk k nm ot n ty re l=>by
   obtain⟨I,O⟩:=IG l
   refine⟨?_,by simp only[Tm.apc,Tm.cnt];split<;>omega⟩
   simp only[Tm.qui,Tm.apc,I]
   by_cases J:k=7
   ·subst J;simp
   ·simp[J]
theorem IG:∀ l:List Tm,Fm l=decide (BU l=0)/\BU l<=zj l
 | []=>⟨rfl,oC _⟩
 | t::U=>by
   obtain⟨I,O⟩:=Mn t
   obtain⟨Y,h4⟩:=IG U
   refine⟨?_,by simp only[BU,zj];omega⟩
   simp only[Fm,BU,I,Y]
   rw[nj]
   simp
end
theorem Vv:∀(t:Tm)(d:D),t.Is d->t.cnt<=1073741824->Dx 29 [.dg 9 d,.fn 30 []] t.apc:=by
 refine Tm.ind λk nm ot n ty re l ih d hd hc N Q U=>?_;obtain⟨t0,t1,r0,r1,a,es,c,rfl,hh,O,Y⟩:=Tm.is_mk.1 hd;simp only[Tm.cnt]at hc;have aa:ws 30 [.dg 9 (.ag [.j k,.t nm,.t ot,.j n,t0,t1,r0,r1,.sl a 9 es c])] (k==7):=λN Q U=>by
  refine EH N _ Q λ_=>?_
  repeat' first|with_reducible intro _|simp only[Y1,Y2,Y3,Y4]|with_reducible refine X ?_ ?_|refine⟨_,_,_,rfl,?_⟩|refine⟨_,rfl,?_⟩|refine X0 ?_|fail
  exact U _ (by omega)
 have key:=up Y O (λi xs=>∀(m:Int) (N':Nat),N<=N'->0<=m->m<=4000000000->zj xs<=1073741824->m+zj xs<=4000000000->(∀ N'',N'<=N''->Q (m+BU xs) N'')->uK Q N m a es c es.length i N') ?_ ?_
 ·refine GE N _ Q λ_ N1 aj=>aa N1 _ λN2 ak _ N3 al=>VA _ N3 _ λN4 am _=>⟨_,_,_,rfl,?_⟩
  have ab:=E6 (k==7);refine key _ N4 (by omega) ab.1 (by omega) (by omega) (by omega) λN'' ai=>Qi (U _ (by omega)) ?_;simp only[Tm.apc];by_cases hk:k=7
  ·subst hk;simp[bI]
  ·rw[if_neg hk,show(k==7)=false by simpa using hk];simp[bI]
 ·intro i ac _ m N' ae h0 h1 h2 h3 J;refine AM ?_
  repeat' first|with_reducible intro _|simp only[ac,Y1,Y2,Y3,Y4]|with_reducible refine X ?_ ?_|refine⟨_,_,_,rfl,?_⟩|refine⟨_,rfl,?_⟩|refine X0 ?_|fail
  exact Qi (J _ (by omega)) (by simp[BU])
 ·intro i x xs I _ ah m N' ae h0 h1 h2 h3 J;have hb:=I.b;have hx:=(Mn x).2;have ao:=xz I.m;simp only[zj]at h2 h3;refine AM ?_;have hw:IntKind.i64.wrap (m+(x.apc:Int))=m+x.apc:=i64_in _ (by omega)
  repeat' first|with_reducible intro _|simp only[I.lt,I.w,oH,hw,Y1,Y2,Y3,Y4]|with_reducible refine X ?_ ?_|refine⟨_,_,_,rfl,?_⟩|refine⟨_,rfl,?_⟩|refine X0 ?_|refine(ih x I.m _ I.r (by omega)) _ _ ?_|fail
  refine ah _ _ (by omega) (by omega) (by omega) (by omega) (by omega) λN'' h=>Qi (J N'' (by omega)) ?_;simp only[BU];omega
theorem AP (t:Tm)(d:D)(hd:t.Is d)(hc:t.cnt<=1073741824):ws 10 [.dg 9 d] t.qui:=λN Q I=>by
 refine Gq N _ Q λ_=>?_
 repeat' first|with_reducible intro _|simp only[Y1,Y2,Y3,Y4]|with_reducible refine X ?_ ?_|refine⟨_,_,_,rfl,?_⟩|refine⟨_,rfl,?_⟩|refine X0 ?_|refine(Vv t d hd hc) _ _ ?_|fail
 refine Qb (I _ (by omega)) ?_;rw[(Mn t).1,nj];simp
def HI (f:FuncId)(args:List PV):Prop:=∀(N:Nat) (Q:QT [.ag 9,.i]),(∀ d n N',N<=N'->(∃ t:Tm,t.Is d)->Q d n N')->ACalls prog f [.ag 9,.i] args N Q
theorem H8 {e:Tm}{d:D}(he:e.Is d)(hw:e.wk):ws 35 [.dg 9 d] (HX e.kd):=λN Q J=>by
 cases e with
 | mk k nm ot n0 ty re l=>
 obtain⟨t0,t1,r0,r1,a,es,c,rfl,hh,aa,ab⟩:=Tm.is_mk.1 he;have hk:=hw.1.lt;refine qH N _ Q λ_=>⟨_,rfl,?_⟩
 refine Br.beq (λU N1 I=>Qb (J _ I) (by simp[HX,Tm.kd,U])) λU=>?_;refine Br.beq (λY N1 I=>Qb (J _ I) (by simp[HX,Tm.kd,Y])) λY=>?_;refine Br.beq (λh6 N1 I=>Qb (J _ I) (by simp[HX,Tm.kd,h6])) λh6=>?_;refine Br.beq (λh9 N1 I=>Qb (J _ I) (by simp[HX,Tm.kd,h9])) λh9=>?_;exact Br.beq (λO=>absurd O (by omega)) λO N1 I=>Qb (J _ I) (by simp[HX,Tm.kd,U,Y,h6,h9])
theorem KJ {k n0:Int} {nm ot:ByteArray} {ty re:Ty} {l:List Tm} {d:D} (h:(Tm.mk k nm ot n0 ty re l).Is d) (hG:(Tm.mk k nm ot n0 ty re l).G) (hS:∀ y∈l,∀ dy,y.Is dy->HI 36 [.dg 9 dy]) {i:Nat} (hi:i<l.length) :
  HI 110 [.dg 9 d,.j (i:Int)]:=λN Q U=>by
 obtain⟨t0,t1,r0,r1,a,es,c,rfl,hh,Y,I⟩:=Tm.is_mk.1 h;have hl:=I.len;refine Dz N _ _ Q λ_=>⟨_,_,_,rfl,⟨by omega,by omega⟩,λN1 aa=>?_⟩
 rw[oH];refine hS _ (zB hi) _ (zO I hi) N1 _ λdx nx N2 ab J _ _=>Br.beq (λh0 N3 ac=>U _ _ _ (by omega) ⟨_,h⟩) λh0 N4 ae=>?_;obtain⟨tx,J⟩:=J;exact Bq h hG J hi N4 _ λd' N5 ah O _ _ N6 ai=>U _ _ _ (by omega) ⟨_,O⟩
theorem Nz {n0:Int} {nm ot:ByteArray} {ty re:Ty} {l:List Tm} {d:D} (hd:(Tm.mk 4 nm ot n0 ty re l).Is d) (hW:(Tm.mk 4 nm ot n0 ty re l).W) (hS:∀ y∈l,∀ dy,y.Is dy->HI 36 [.dg 9 dy])
  (N:Nat) (Q:QT [.ag 9,.i]) (hQ:∀ d n N',N<=N'->(∃ t:Tm,t.Is d)->((∀ x∈l,HX x.kd=true)->((Tm.mk 4 nm ot n0 ty re l).opr l).1.Is d/\n=((Tm.mk 4 nm ot n0 ty re l).opr l).2)->Q d n N') :
  ACalls prog 63 [.ag 9,.i] [.dg 9 d] N Q:=by
 have U:=hd;obtain⟨t0,t1,r0,r1,a,es,c,rfl,hh,J,O⟩:=Tm.is_mk.1 hd;have hl:=O.len;have ab:l.length<=2:=by have h1:=hW.k.1.ar.2.2.2.2.2 rfl;have h2:=KF nm;omega
 have first:zi Q N (zR nm) 2 2 0 (.ag [.j 4,.t nm,.t ot,.j n0,t0,t1,r0,r1,.sl a 9 es c]) 0 (bytes []) (bytes []) 0 0 none [] 0 0 none [] 0 none [] 0 [.j 0,.j 0] 2 N:=by
  refine up O J (λi xs=>∀ N',N<=N'->zi Q N (zR nm) 2 2 i (.ag [.j 4,.t nm,.t ot,.j n0,t0,t1,r0,r1,.sl a 9 es c]) 0 (bytes []) (bytes []) 0 0 none [] 0 0 none [] 0 none [] 0 [.j 0,.j 0] 2 N') ?_ ?_ N (oC _)
  ·intro i ac hi N' Y;refine uJ ⟨_,_,_,rfl,?_⟩;rw[ac];exact Km U O J ab (λd N' h1 h2=>hQ d _ N' h1 ⟨_,h2⟩ λ_=>⟨h2,rfl⟩) N' Y
  ·intro i x xs I aj ae N' Y;have hb:=I.b;have ah:i<l.length:=(oD.1 I.g).1;have ai:=(hW.mem _ I.m).k;refine uJ ⟨_,_,_,rfl,?_⟩;rw[I.lt,oH,I.w];refine⟨_,_,_,rfl,⟨by omega,by omega⟩,λN1 ak=>H8 I.r ai N1 _ λN2 al _=>Br.not (λhv N3 am=>?_) λhv=>ae _ (by omega)⟩;exact KJ U hW.z.g hS ah N3 _ λdx nx N4 ao hx _ _ N5 aq=>hQ _ _ _ (by omega) hx λaa=>absurd (aa x I.m) (by rw[hv];decide)
 refine Dj N _ Q λ_=>⟨_,rfl,Br.str (λe1=>?_) λe1=>⟨_,rfl,Br.str (λe2=>?_) λe2=>⟨_,rfl,Br.str (λe3=>?_) λe3=>?_⟩⟩⟩
 ·have:zR nm=3:=by simp[zR,xM,e1]
  rw[this]at first;exact first
 ·have:zR nm=3:=by simp[zR,xM,e2]
  rw[this]at first;exact first
 ·have:zR nm=3:=by simp[zR,xM,e3]
  rw[this]at first;exact first
 ·have:zR nm=2:=by simp[zR,xM,e1,e2,e3]
  rw[this]at first;exact first
theorem SL {n0:Int} {nm ot:ByteArray} {ty re:Ty} {l:List Tm} {d:D} (hd:(Tm.mk 7 nm ot n0 ty re l).Is d) (hW:(Tm.mk 7 nm ot n0 ty re l).W) (hS:∀ y∈l,∀ dy,y.Is dy->HI 36 [.dg 9 dy]) :
  HI 64 [.dg 9 d]:=λN Q hQ=>by
 have ah:=hd;obtain⟨t0,t1,r0,r1,a,es,c,rfl,hh,ai,U⟩:=Tm.is_mk.1 hd;have hl:=U.len;have a7:=hW.k.1.ar.2.2.1 (.inl rfl);have e2:(es.length:Int)=2:=by omega
 refine Bk N _ Q λ_=>⟨_,_,_,rfl,⟨by omega,by omega⟩,?_⟩
 refine up U ai (λi xs=>∀ N',N<=N' ->
  xp Q N i (.ag [.j 7,.t nm,.t ot,.j n0,t0,t1,r0,r1,.sl a 9 es c]) 0 (bytes []) (bytes []) 0 0 none [] 0 0 none [] 0 none [] 0 (List.getD es 0 default) N') ?_ ?_ N (oC _)
 ·intro i Y hi N' ak;refine va ?_;rw[<-e2,Y];have aa:=zO U (j:=0) (by omega);have ab:=zO U (j:=1) (by omega);have J:=hW.mem _ (zB (l:=l) (i:=0) (by omega));have ac:=hW.mem _ (zB (l:=l) (i:=1) (by omega));generalize l.getD 0 tm0=p at aa J;generalize l.getD 1 tm0=q at ab ac;have aj:=aa;cases p with
  | mk pk pn po pm pt pr pl=>
  obtain⟨u0,u1,v0,v1,a2,a8,c2,heq,ba,al,O⟩:=Tm.is_mk.1 aa;have bc:=O.len;rw[heq]at aj ⊢;have one:(pk=6\/pk=9)->pl.length=1:=J.k.1.ar.2.1;have ae:pl.length=1->(pl.getD 0 tm0).W:=λh=>J.mem _ (zB (l:=pl) (i:=0) (by omega));refine⟨_,rfl,Br.beq (λh6=>?_) λh6=>Br.beq (λh9=>?_) λh9 bg aw=>hQ _ _ _ (by omega) ⟨_,ah⟩⟩
  ·have h1:=one (.inl h6);refine⟨_,_,_,rfl,⟨by omega,by omega⟩,_,rfl,_,_,_,rfl,⟨by omega,by omega⟩,λN6 bh=>?_⟩;exact uF (zO O (j:=0) (by omega)) ab pn (ae h1).z ac.z N6 _ λdx N7 bi hx _ _ _ N8 bj=>hQ _ _ _ (by omega) ⟨_,hx⟩
  ·have h1:=one (.inr h9);refine⟨_,_,_,rfl,⟨by omega,by omega⟩,_,rfl,_,rfl,_,_,_,rfl,⟨by omega,by omega⟩,λN9 bm=>?_⟩;refine uF (zO O (j:=0) (by omega)) aj pn (ae h1).z J.z N9 _ λdx bp ax hx _ _ _ am ay=>?_;exact uF hx ab po (Yk (ae h1) J) ac.z am _ λdy bq az hy _ _ _ bt a6=>hQ _ _ _ (by omega) ⟨_,hy⟩
 ·intro i x xs I bv ao N' ak;have hb:=I.b;have aq:i<l.length:=(oD.1 I.g).1;have au:=(hW.mem _ I.m).k;have Y:=I.lt;rw[e2]at Y;refine va ?_;rw[Y,oH,I.w];refine⟨_,_,_,rfl,⟨by omega,by omega⟩,λN1 bw=>H8 I.r au N1 _ λN2 bz _=>Br.not (λhv N3 b1=>?_) λhv=>ao _ (by omega)⟩;exact KJ ah hW.z.g hS aq N3 _ λdx nx N4 b2 hx _ _ N5 b3=>hQ _ _ _ (by omega) hx
theorem Pv {k n0:Int} {nm ot:ByteArray} {ty re:Ty} {l:List Tm} {d:D} (hk:k=5\/k=8) (hd:(Tm.mk k nm ot n0 ty re l).Is d) (Y:(Tm.mk k nm ot n0 ty re l).W) (hS:∀ y∈l,∀ dy,y.Is dy->HI 36 [.dg 9 dy]) :
  HI 67 [.dg 9 d]:=λN Q hQ=>by
 have aa:=hd;obtain⟨t0,t1,r0,r1,a,es,c,rfl,hh,al,I⟩:=Tm.is_mk.1 hd;have hl:=I.len;obtain⟨_,_,a2,a3,_⟩:=Y.k.1.ar;have U:0<l.length:=by
  rcases hk with h | h
  ·have:=a3 h;omega
  ·have:=a2 (.inr h);omega
 have J:=zO I U;have O:=Y.mem _ (zB U);refine B3 N _ Q λ_=>⟨_,_,_,rfl,⟨by omega,by omega⟩,λN1 ao=>H8 J O.k N1 _ λN2 aq _=>Br.not (λhv N3 au=>?_) λhv=>?_⟩
 ·exact KJ aa Y.z.g hS U N3 _ λdx nx N4 aw hx _ _ N5 ax=>hQ _ _ _ (by omega) hx
 generalize ay:l.getD 0 tm0=p at J O hv;have ab:=J;cases p with
 | mk pk pn po pm pt pr pl=>
 obtain⟨u0,u1,v0,v1,az,a6,c2,heq,a7,ac,am⟩:=Tm.is_mk.1 J;rw[heq]at ab ⊢;rcases hk with rfl | rfl
 ·have a8:=a3 rfl;refine⟨_,rfl,Br.beq (λ_=>⟨_,rfl,Br.beq (λh3=>?_) λh3=>?_⟩) (λh=>absurd rfl h)⟩
  ·have hn:=O.k.1.b h3;have hw:IntKind.i64.wrap (2 - pm)=2 - pm:=i64_in _ (by omega);refine⟨_,_,_,rfl,_,rfl,?_⟩;rw[hw];refine⟨⟨by omega,by omega⟩,λN6 ae=>?_⟩;refine qn wr (zO I (j:=(2 - pm).toNat) (by omega)) (zh Y.z.g.2.2.2 (zB (by omega))) (N0:=N) (by omega) (λd N=>Q d 2 N) λd' N7 ah ai _=>hQ _ _ _ (by omega) ⟨_,ai⟩
  ·repeat' first | refine⟨_,rfl,?_⟩ | refine Br.beq (λh=>absurd h (by decide)) λ_=>?_
   all_goals exact λN hN=>hQ _ _ _ (by omega) ⟨_,aa⟩
 ·have ba:=a2 (.inr rfl);have aj:=Y.mem _ (zB (l:=l) (i:=1) (by omega));have ak:=zO I (j:=1) (by omega)
  repeat' first | refine⟨_,rfl,?_⟩ | refine Br.beq (λh=>absurd h (by decide)) λ_=>?_ | refine Br.beq (λ_=>?_) (λh=>absurd rfl h)
  all_goals
   refine⟨_,_,_,rfl,⟨by omega,by omega⟩,_,rfl,λN6 ae=>?_⟩;exact uF ak ab nm aj.z O.z N6 _ λdx N7 ah hx _ _ _ N8 bc=>hQ _ _ _ (by omega) ⟨_,hx⟩
theorem PO:∀(e:Tm)(d:D),e.Is d->e.W->HI 36 [.dg 9 d]:=by
 refine Tm.ind λk nm ot n0 ty re l ih d hd hW N Q hQ=>?_;have I:=hd;have hk:=hW.k.1.lt;have hS:∀ y∈l,∀ dy,y.Is dy->HI 36 [.dg 9 dy]:=λy hy dy h=>ih y hy dy h (hW.mem y hy);have c4:=λ(h:k=4)=>Nz (n0:=n0) (nm:=nm) (ot:=ot) (ty:=ty) (re:=re) (l:=l) (d:=d) (by subst h;exact I) (by subst h;exact hW) hS;have c7:=λ(h:k=7)=>SL (n0:=n0) (nm:=nm) (ot:=ot) (ty:=ty) (re:=re) (l:=l) (d:=d) (by subst h;exact I) (by subst h;exact hW) hS;have c5:=λ(h:k=5\/k=8)=>Pv h I hW hS;have fin:∀ N',N<=N'->Q d 0 N':=λN' h=>hQ _ _ _ h ⟨_,I⟩;have ab:=H8 I hW.k;obtain⟨t0,t1,r0,r1,a,es,c,rfl,hh,ai,aj⟩:=Tm.is_mk.1 hd;refine An N _ Q λ_ N1 ak=>ab N1 _ λN2 al _=>Br.of (λhv N3 am=>fin _ (by omega)) λhv=>⟨_,rfl,?_⟩
 refine Br.beq (λh4 O J=>?_) λh4=>Br.beq (λh7 O J=>?_) λh7=>Br.beq (λac=>absurd ac (by omega)) λac=>Br.beq (λh5 O J=>?_) λh5=>Br.beq (λh8 O J=>?_) λh8=>Br.beq (λae=>absurd ae (by omega)) λae=>Br.beq (λah=>absurd ah (by omega)) λah O J=>fin _ (by omega)
 ·exact c4 h4 O _ λx n N5 U Y _ _ _ N6 aa=>hQ _ _ _ (by omega) Y
 ·exact c7 h7 O _ λx n N5 U Y _ _ N6 aa=>hQ _ _ _ (by omega) Y
 ·exact c5 (.inl h5) O _ λx n N5 U Y _ _ N6 aa=>hQ _ _ _ (by omega) Y
 ·exact c5 (.inr h8) O _ λx n N5 U Y _ _ N6 aa=>hQ _ _ _ (by omega) Y
end Go.Proofs.YtligajflgjpdnaaGreatDoor
