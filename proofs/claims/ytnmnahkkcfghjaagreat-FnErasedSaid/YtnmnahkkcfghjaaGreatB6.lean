/- Typings: which name is bound to what. -/
import Derived.Test.YtnmnahkkcfghjaaGreatA3
import Derived.Test.YtnmnahkkcfghjaaGreatA7
import Derived.Test.YtnmnahkkcfghjaaGreatB1
import Derived.Test.YtnmnahkkcfghjaaGreatB3
import Derived.Test.YtnmnahkkcfghjaaGreatB4
set_option linter.unusedVariables false
set_option linter.unusedSimpArgs false
namespace Go.Proofs.YtnmnahkkcfghjaaGreat
open Go Go.Proofs Go.Proofs.Tryz Go.IntWalk
theorem zFB {α:Type} {P:List α->Prop} (sN:P []) (sC:∀ l x,P l->P (l++[x])) (l:List α):P l:=by
 have key:∀ n,∀ l:List α,l.length=n->P l:=by
  intro n
  induction n with
  | zero=>intro l I;rw [oP I];exact sN
  | succ n O=>
    intro l I
    have J:l≠[]:=λhc=>by subst hc;simp at I
    rw [<-List.dropLast_concat_getLast J]
    exact sC _ _ (O _ (by simp [I]))
 exact key _ l rfl
theorem zCU (g:List Tg) (y:Tg) (s:ByteArray):∀ n,n<=g.length->vu (g++[y]) s n=vu g s n
 | 0,_=>rfl
 | n+1,h=>by
   have e:(g++[y]).getD n tg0=g.getD n tg0:=by rw [oA,oA,oM (by omega)]
   simp only [vu,e,zCU g y s n (by omega)]
theorem xv (g:List Tg) (y:Tg) (s:ByteArray) (n:Int):xF (g++[y]) s n=if y.nm=s then (if y.lv=n then some y.ty else none) else xF g s n:=by
 have e:(g++[y]).getD g.length tg0=y:=by simp [oA]
 have O:zM (g++[y]) s=if y.nm=s then (g.length:Int) else zM g s:=by
  unfold zM
  rw [oI,nB]
  simp only [vu,e,zCU g y s _ (oD _)]
 unfold xF
 rw [O]
 by_cases hs:y.nm=s
 ·simp only [if_pos hs]
  rw [if_neg (by omega),oK,e]
 ·simp only [if_neg hs]
  by_cases I:zM g s<0
  ·rw [if_pos I,if_pos I]
  ·rw [if_neg I,if_neg I]
   have J:=p7 g s g.length
   have J:zM g s = -1\/(0<=zM g s/\zM g s<g.length):=J
   have U:(g++[y]).getD (zM g s).toNat tg0=g.getD (zM g s).toNat tg0:=by
    rw [oA,oA,oM (by omega)]
   rw [U]
theorem zEj {s:ByteArray} (n:Int) (g:List Tg):(∀ y∈g,y.nm≠s)->xF g s n=none:=by
 induction g using zFB with
 | sN=>intro _;rfl
 | sC b q I=>intro h;rw [xv,if_neg (h q (by simp)),I λy J=>h y (by simp [J])]
/-- what the last typing of a name is -/
theorem zGf (g:List Tg) (s:ByteArray):∀ n,vu g s n = -1\/(g.getD (vu g s n).toNat tg0).nm=s
 | 0=>.inl rfl
 | n+1=>by
   simp only [vu]
   split
   ·rename_i h
    right
    rw [oK];exact h
   ·exact zGf g s n
theorem zC8 (g:List Tg) (n:Int) (y:Tg):∀ (l:List Tg) (i:Nat),wi g n (l++[y]) i=wi g n l i++(if r9 g n y (i+l.length) then [y] else [])
 | [],i=>by simp [wi]
 | x::xs,i=>by
   have h:=zC8 g n y xs (i+1)
   simp only [nG,wi,h,oO]
   rw [show i+1+xs.length=i+(xs.length+1) by omega]
   split<;>simp
/-- what is safe: names of base types of levels not above -/
theorem zD4 (g:List Tg) (s:ByteArray) (n m:Int):xF (uy g n) s m=(match xF g s m with | some t=>if m<=n/\t.base=true then some t else none | none=>none):=by
 have key:∀ b:List Tg,∀ r,g=b++r->xF (wi g n b 0) s m=if 0<=zM g s/\zM g s<b.length then (match xF g s m with | some t=>if m<=n/\t.base=true then some t else none | none=>none) else none:=by
  intro b
  induction b using zFB with
  | sN=>
    intro r _
    rw [if_neg (by simp)];rfl
  | sC b y U=>
    intro r hr
    have hg:g.getD b.length tg0=y:=by rw [hr];simp [oA]
    have O:=zGf g s g.length
    have O:zM g s = -1\/(g.getD (zM g s).toNat tg0).nm=s:=O
    rw [zC8,nJ,oI,nB]
    have U:=U (y::r) (by simp [hr])
    have pos:zM g s<=b.length->0<=zM g s->(0<=zM g s/\zM g s<((b.length+1:Nat):Int)):=λh1 h2=>by omega
    have neg:¬(0<=zM g s/\zM g s<(b.length:Int))->zM g s≠b.length->¬(0<=zM g s/\zM g s<((b.length+1:Nat):Int)):=λh1 h2 h3=>h1 (by omega)
    by_cases J:y.nm=s
    ·by_cases hl:zM g s=b.length
     ·have hv:xF g s m=if y.lv=m then some y.ty else none:=by
       unfold xF
       rw [if_neg (by omega),hl,oK,hg]
      rw [if_pos (pos (by omega) (by omega)),hv]
      rw [if_neg (by omega)] at U
      have hs:r9 g n y b.length=(y.ty.base&&decide (y.lv<=n)):=by
       unfold r9;rw [J];simp [hl]
      rw [hs]
      by_cases hb:y.ty.base=true/\y.lv<=n
      ·rw [if_pos (by simp [hb]),xv,if_pos J]
       by_cases Y:y.lv=m
       ·rw [if_pos Y];simp only;rw [if_pos ⟨by omega,hb.1⟩]
       ·rw [if_neg Y]
      ·rw [if_neg (by simpa using hb),nO,U]
       by_cases Y:y.lv=m
       ·rw [if_pos Y];simp only;rw [if_neg λh=>hb ⟨h.2,by omega⟩]
       ·rw [if_neg Y]
     ·have hs:r9 g n y b.length=false:=by unfold r9;rw [J];simp [hl]
      rw [hs]
      simp only [mc,na,nO]
      rw [U]
      by_cases I:0<=zM g s/\zM g s<b.length
      ·rw [if_pos I,if_pos (pos (by omega) I.1)]
      ·rw [if_neg I,if_neg (neg I hl)]
    ·have e:xF (wi g n b 0++if r9 g n y b.length=true then [y] else []) s m=xF (wi g n b 0) s m:=by
      split
      ·rw [xv,if_neg J]
      ·rw [nO]
     rw [e,U]
     have aa:zM g s≠b.length:=λh=>by
      rcases O with h1 | h1
      ·omega
      ·rw [h,oK,hg] at h1;exact J h1
     by_cases I:0<=zM g s/\zM g s<b.length
     ·rw [if_pos I,if_pos (pos (by omega) I.1)]
     ·rw [if_neg I,if_neg (neg I aa)]
 have h:=key g [] (by simp)
 have ab:zM g s = -1\/(0<=zM g s/\zM g s<g.length):=p7 g s g.length
 unfold uy
 rw [h]
 by_cases I:0<=zM g s/\zM g s<g.length
 ·rw [if_pos I]
 ·rw [if_neg I]
  have:xF g s m=none:=by unfold xF;rw [if_pos (by omega)]
  rw [this]
/-- what a context says, another says -/
def Ext (g g':List Tg):Prop:=∀ s n t,xF g s n=some t->xF g' s n=some t
theorem Ext.snoc {g g':List Tg} (h:Ext g g') (y:Tg):Ext (g++[y]) (g'++[y]):=λs n t I=>by
 rw [xv] at I ⊢
 split
 ·rename_i hs;rw [if_pos hs] at I;exact I
 ·rename_i hs;rw [if_neg hs] at I;exact h s n t I
/-- the free names of a typed term are bound -/
def Bnd (g:List Tg) (s:ByteArray):Prop:=∃ m t,xF g s m=some t
theorem Bnd.snoc {g:List Tg} {y:Tg} {s:ByteArray} (h:Bnd (g++[y]) s) (hs:y.nm≠s):Bnd g s:=by
 obtain ⟨m,t,h⟩:=h
 rw [xv,if_neg hs] at h
 exact ⟨m,t,h⟩
theorem Bnd.safe {g:List Tg} {n:Int} {s:ByteArray} (h:Bnd (uy g n) s):Bnd g s:=by
 obtain ⟨m,t,h⟩:=h
 rw [zD4] at h
 cases I:xF g s m with
 | none=>rw [I] at h;cases h
 | some u=>exact ⟨m,u,I⟩
theorem zEh:∀ {l:List Tm} {n:Int},sR l n=true↔∀ x∈l,x.lev n=true
 | [],n=>by simp [sR]
 | t::I,n=>by simp only [sR,oG,zEh (l:=I),oF,nY]
theorem zCe:∀ {l:List Tm} {n:Int},ur l n=true↔∀ x∈l,x.made n=true
 | [],n=>by simp [ur]
 | t::I,n=>by simp only [ur,oG,zCe (l:=I),oF,nY]
abbrev Rho:=ByteArray->Int->Option Ty
def Rho.set (r:Rho) (x:ByteArray) (n:Int) (t:Ty):Rho:=λs m=>if x=s then (if n=m then some t else none) else r s m
def Rho.safe (r:Rho) (n:Int):Rho:=λs m=>match r s m with
 | some t=>if m<=n/\t.base=true then some t else none
 | none=>none
/-- a level that is one -/
class LvB (n:Int):Prop where
 h:0<=n/\n<=2
instance:LvB 0:=⟨by omega⟩
instance:LvB 1:=⟨by omega⟩
instance:LvB (0+1):=⟨by omega⟩
inductive HT:Rho->Tm->Int->Ty->Prop
 | var {r nm ot m ty re l n u} [LvB n]:r nm n=some u->u.valid=true->HT r (.mk 1 nm ot m ty re l) n u
 | int {r nm ot m ty re l n} [LvB n]:HT r (.mk 2 nm ot m ty re l) n tInt
 | bool {r nm ot m ty re l n} [LvB n]:HT r (.mk 3 nm ot m ty re l) n tBool
 | op {r nm ot m ty re l n} [LvB n]:(∀ x∈l,HT r x n (if zDi nm=1 then tInt else tBool))->HT r (.mk 4 nm ot m ty re l) n (uH nm)
 | ite {r nm ot m ty re a b c n u} [LvB n]:HT r a n tBool->HT r b n u->HT r c n u->HT r (.mk 5 nm ot m ty re [a,b,c]) n u
 | lam {r nm ot m ty re b n v} [LvB n]:HT (r.set nm n ty) b n v->(wA ty v).valid=true->HT r (.mk 6 nm ot m ty re [b]) n (wA ty v)
 | app {r nm ot m ty re f x n a b} [LvB n]:HT r f n (wA a b)->HT r x n a->HT r (.mk 7 nm ot m ty re [f,x]) n b
 | lt {r nm ot m ty re a b n t u} [LvB n]:HT r a n t->HT (r.set nm n t) b n u->HT r (.mk 8 nm ot m ty re [a,b]) n u
 | fix {r nm ot m ty re b n} [LvB n]:nm≠ot->HT ((r.set nm n (wA ty re)).set ot n ty) b n re->(wA ty re).valid=true->HT r (.mk 9 nm ot m ty re [b]) n (wA ty re)
 | quote {r nm ot m ty re b n t} [LvB n]:HT r b (n+1) t->(yd t).valid=true->HT r (.mk 10 nm ot m ty re [b]) n (yd t)
 | splice {r nm ot m ty re b n t} [LvB n]:HT r b (n - 1) (yd t)->HT r (.mk 11 nm ot m ty re [b]) n t
 | run {r nm ot m ty re b n t} [LvB n]:HT (r.safe n) b n (yd t)->HT r (.mk 12 nm ot m ty re [b]) n t
 | lift {r nm ot m ty re b n t} [LvB n]:HT r b n t->t.base=true->(yd t).valid=true->HT r (.mk 13 nm ot m ty re [b]) n (yd t)
theorem zBy {t:Ty} (I:t.cnt<=30) (J:t.dep<=8) (O:t.form=true):t.valid=true:=by
 simp only [Ty.valid,oG,o3];exact ⟨⟨I,J⟩,O⟩
theorem rO {t:Ty} (h:t.valid=true):t.cnt<=30/\t.dep<=8/\t.form=true:=by
 simp only [Ty.valid,oG,o3] at h;exact ⟨h.1.1,h.1.2,h.2⟩
theorem zEn {t:Ty} (h:(yd t).valid=true):t.valid=true:=by
 obtain ⟨O,U,I⟩:=rO h
 have e1:(yd t).cnt=1+(t.cnt+0):=rfl
 have Y:(yd t).dep=max t.dep 0+1:=rfl
 have J:(yd t).form=(xU [t]&&rp 4 1):=rfl
 rw [J] at I
 simp only [xU,oG] at I
 exact zBy (by omega) (by omega) I.1.1
theorem zLn {a b:Ty} (h:(wA a b).valid=true):a.valid=true/\b.valid=true:=by
 obtain ⟨O,U,I⟩:=rO h
 have e1:(wA a b).cnt=1+(a.cnt+(b.cnt+0)):=rfl
 have Y:(wA a b).dep=max a.dep (max b.dep 0)+1:=rfl
 have J:(wA a b).form=(xU [a,b]&&rp 3 2):=rfl
 rw [J] at I
 simp only [xU,oG] at I
 exact ⟨zBy (by omega) (by omega) I.1.1,zBy (by omega) (by omega) I.1.2.1⟩
theorem zIO (s:ByteArray):(uH s).valid=true:=by unfold uH;(repeat' split)<;>decide
theorem HT.valid {r:Rho} {e:Tm} {n:Int} {u:Ty} (h:HT r e n u):u.valid=true:=by
 induction h with
 | var _ h=>exact h
 | int=>decide
 | bool=>decide
 | op _ _=>exact zIO _
 | ite _ _ _ _ I _=>exact I
 | lam _ h _=>exact h
 | app _ _ I _=>exact (zLn I).2
 | lt _ _ _ I=>exact I
 | fix _ _ h _=>exact h
 | quote _ h _=>exact h
 | splice _ I=>exact zEn I
 | run _ I=>exact zEn I
 | lift _ _ h _=>exact h
theorem ui (g:List Tg) (y:Tg):xF (g++[y])=Rho.set (xF g) y.nm y.lv y.ty:=by
 funext s m;rw [xv];rfl
theorem zJV (g:List Tg) (n:Int):xF (uy g n)=Rho.safe (xF g) n:=by
 funext s m;rw [zD4];rfl
theorem zGn {t:Ty} (h:t.valid=true) (I:t.k=1\/t.k=2):t=if t.k=1 then tInt else tBool:=by
 cases t with
 | mk k l=>
 have I:k=1\/k=2:=I
 simp only [Ty.valid,Ty.form,oG] at h
 have J:=h.2.2
 unfold rp at J
 rw [if_pos I] at J
 have:l=[]:=oP (by have:=nK.1 J;omega)
 subst this
 rcases I with rfl | rfl<;>rfl
theorem zNy {t:Ty} (h:t.valid=true) (I:t.k=3):∃ a b,t=wA a b:=by
 cases t with
 | mk k l=>
 have I:k=3:=I
 subst I
 simp only [Ty.valid,Ty.form,oG] at h
 have J:=h.2.2
 unfold rp at J
 rw [if_neg (by decide),if_pos rfl] at J
 have:l.length=2:=by have:=nK.1 J;omega
 match l,this with
 | [a,b],_=>exact ⟨a,b,rfl⟩
theorem zHB {t:Ty} (h:t.valid=true) (I:t.k=4):∃ a,t=yd a:=by
 cases t with
 | mk k l=>
 have I:k=4:=I
 subst I
 simp only [Ty.valid,Ty.form,oG] at h
 have J:=h.2.2
 unfold rp at J
 rw [if_neg (by decide),if_neg (by decide),if_pos rfl] at J
 have:l.length=1:=by have:=nK.1 J;omega
 match l,this with
 | [a],_=>exact ⟨a,rfl⟩
theorem len1 {l:List Tm} (h:l.length=1):∃ b,l=[b]:=by
 match l,h with
 | [b],_=>exact ⟨b,rfl⟩
theorem zSE {l:List Tm} (h:l.length=2):∃ a b,l=[a,b]:=by
 match l,h with
 | [a,b],_=>exact ⟨a,b,rfl⟩
theorem zTP {l:List Tm} (h:l.length=3):∃ a b c,l=[a,b,c]:=by
 match l,h with
 | [a,b,c],_=>exact ⟨a,b,c,rfl⟩
theorem zKn (s:ByteArray):zDi s=1\/zDi s=2:=by unfold zDi;(repeat' split)<;>simp
theorem zJa {w:Int}:∀ {I:List Ty},zMa w I=true->∀ t∈I,t.k=w
 | [],_,t,ht=>by simp at ht
 | x::I,h,t,ht=>by
   simp only [zMa,oG,nK,o3] at h
   rcases oF.1 ht with rfl | ht
   ·exact h.1
   ·exact zJa h.2 t ht
theorem zCc {g:List Tg} {n:Int}:∀ {l:List Tm} {us:List Ty},ya l g n=some us->∀ x∈l,∃ u∈us,x.type g n=some u
 | [],us,h,x,hx=>by simp at hx
 | y :: l,us,h,x,hx=>by
   simp only [ya] at h
   split at h
   ·rename_i u J
    split at h
    ·rename_i vs I
     cases h
     rcases oF.1 hx with rfl | hx
     ·exact ⟨u,by simp,J⟩
     ·obtain ⟨v,O,U⟩:=zCc I x hx
      exact ⟨v,by simp [O],U⟩
    ·cases h
   ·cases h
theorem zET:∀ (t:Tm),t.ok=true->∀ (g:List Tg) (n:Int) (u:Ty),t.lev n=true->t.type g n=some u->HT (xF g) t n u:=by
 refine Tm.ind λk nm ot m ty re l U ab g n u aa h=>?_
 simp only [Tm.lev,oG] at aa
 haveI:LvB n:=⟨vm.1 aa.1⟩
 have lv:=λx hx=>zAz (x:=x) aa.2 hx
 have nd:=wT ab
 have O:=nd.ar
 have ac:=zB1 (k:=k) (nm:=nm) (by omega)
 simp only [Tm.type] at h
 obtain ⟨h,hv⟩:=zJd h
 have sub:=nd.sub
 rcases ac with rfl | rfl | rfl | rfl | rfl | rfl | rfl | rfl | rfl | rfl | rfl | rfl | rfl
 ·exact .var h hv
 ·cases h;exact .int
 ·cases h;exact .bool
 ·have h:(match ya l g n with | some ts=>yo 4 nm ts | none=>none)=some u:=h
  split at h
  ·rename_i ts ah
   have h:zM7 nm ts=some u:=h
   unfold zM7 at h
   split at h
   ·rename_i ae
    cases h
    refine .op λx hx=>?_
    obtain ⟨v,ai,I⟩:=zCc ah x hx
    have hk:=zJa ae v ai
    have Y:=zGn (Tm.type_valid I) (by rw [hk];exact zKn nm)
    rw [hk] at Y
    rw [<-Y]
    exact U x hx (sub x hx) g n v (lv x hx) I
   ·cases h
  ·cases h
 ·have hl:l.length=3:=by have:(l.length:Int)=3:=O;omega
  obtain ⟨a,b,c,rfl⟩:=zTP hl
  have h:(match ya [a,b,c] g n with | some ts=>yo 5 nm ts | none=>none)=some u:=h
  simp only [ya] at h
  cases ha:a.type g n with
  | none=>rw [ha] at h;cases h
  | some ta=>
  cases Y:b.type g n with
  | none=>rw [ha,Y] at h;cases h
  | some tb=>
  cases hc:c.type g n with
  | none=>rw [ha,Y,hc] at h;cases h
  | some tc=>
  rw [ha,Y,hc] at h
  have h:yo 5 nm [ta,tb,tc]=some u:=h
  unfold yo at h
  rw [if_neg (by decide),if_pos rfl] at h
  split at h
  ·rename_i J
   cases h
   simp only [mu,mv] at J ⊢
   obtain ⟨c1,c2⟩:ta.k=2/\zDj tb tc=true:=by
    first | exact ⟨by simpa using J.1,by simpa using J.2⟩ | (simp at J;exact J)
   have e2:=(ud tb tc).1 c2
   subst e2
   have e1:=zGn (Tm.type_valid ha) (.inr c1)
   rw [if_neg (by omega)] at e1
   subst e1
   exact .ite (U a (by simp) (sub a (by simp)) g n _ (lv a (by simp)) ha) (U b (by simp) (sub b (by simp)) g n _ (lv b (by simp)) Y) (U c (by simp) (sub c (by simp)) g n _ (lv c (by simp)) hc)
  ·cases h
 ·obtain ⟨b,rfl⟩:=len1 (l:=l) (by have:(l.length:Int)=1:=O;omega)
  have h:(match b.type (g++[⟨nm,ty,n⟩]) n with | some b=>some (wA ty b) | none=>none)=some u:=h
  split at h
  ·rename_i v I
   cases h
   have:=U b (by simp) (sub b (by simp)) _ n v (lv b (by simp)) I
   rw [ui] at this
   exact .lam this hv
  ·cases h
 ·obtain ⟨f,x,rfl⟩:=zSE (l:=l) (by have:(l.length:Int)=2:=O;omega)
  have h:(match ya [f,x] g n with | some ts=>yo 7 nm ts | none=>none)=some u:=h
  simp only [ya] at h
  cases ha:f.type g n with
  | none=>rw [ha] at h;cases h
  | some ta=>
  cases Y:x.type g n with
  | none=>rw [ha,Y] at h;cases h
  | some tb=>
  rw [ha,Y] at h
  have h:yo 7 nm [ta,tb]=some u:=h
  unfold yo at h
  rw [if_neg (by decide),if_neg (by decide)] at h
  split at h
  ·rename_i J
   cases h
   simp only [mu,mv] at J ⊢
   obtain ⟨c1,c2⟩:ta.k=3/\zDj (ta.as.getD 0 tZero) tb=true:=by
    first | exact ⟨by simpa using J.1,by simpa using J.2⟩ | (simp at J;exact J)
   obtain ⟨a1,b1,rfl⟩:=zNy (Tm.type_valid ha) c1
   have e2:=(ud _ _).1 c2
   have e2:a1=tb:=e2
   subst e2
   exact .app (U f (by simp) (sub f (by simp)) g n _ (lv f (by simp)) ha) (U x (by simp) (sub x (by simp)) g n _ (lv x (by simp)) Y)
  ·cases h
 ·obtain ⟨a,b,rfl⟩:=zSE (l:=l) (by have:(l.length:Int)=2:=O;omega)
  have h:(match a.type g n with | some a=>b.type (g++[⟨nm,a,n⟩]) n | none=>none)=some u:=h
  split at h
  ·rename_i v I
   have:=U b (by simp) (sub b (by simp)) _ n u (lv b (by simp)) h
   rw [ui] at this
   exact .lt (U a (by simp) (sub a (by simp)) _ n v (lv a (by simp)) I) this
  ·cases h
 ·obtain ⟨b,rfl⟩:=len1 (l:=l) (by have:(l.length:Int)=1:=O;omega)
  have h:(match b.type ((g++[⟨nm,wA ty re,n⟩])++[⟨ot,ty,n⟩]) n with | some b=>if zDj b re then some (wA ty re) else none | none=>none)=some u:=h
  split at h
  ·rename_i v I
   split at h
   ·rename_i he
    cases h
    have:=U b (by simp) (sub b (by simp)) _ n v (lv b (by simp)) I
    rw [ui,ui,(ud v re).1 he] at this
    exact .fix ((zGP (m:=1) (by decide) (Tm.ok_mk.1 ab).2.1).2 rfl).2 this hv
   ·cases h
  ·cases h
 ·obtain ⟨b,rfl⟩:=len1 (l:=l) (by have:(l.length:Int)=1:=O;omega)
  have h:(match b.type g (n+1) with | some t=>zu 10 t | none=>none)=some u:=h
  split at h
  ·rename_i v I
   have h:some (yd v)=some u:=h
   cases h
   exact .quote (U b (by simp) (sub b (by simp)) g (n+1) v (lv b (by simp)) I) hv
  ·cases h
 ·obtain ⟨b,rfl⟩:=len1 (l:=l) (by have:(l.length:Int)=1:=O;omega)
  have h:(match b.type g (n - 1) with | some t=>zu 11 t | none=>none)=some u:=h
  split at h
  ·rename_i v I
   have h:(if v.k=4 then some (v.as.getD 0 tZero) else none)=some u:=h
   split at h
   ·rename_i h4
    obtain ⟨a,rfl⟩:=zHB (Tm.type_valid I) h4
    cases h
    exact .splice (U b (by simp) (sub b (by simp)) g (n - 1) _ (lv b (by simp)) I)
   ·cases h
  ·cases h
 ·obtain ⟨b,rfl⟩:=len1 (l:=l) (by have:(l.length:Int)=1:=O;omega)
  have h:(match b.type (uy g n) n with | some t=>zu 12 t | none=>none)=some u:=h
  split at h
  ·rename_i v I
   have h:(if v.k=4 then some (v.as.getD 0 tZero) else none)=some u:=h
   split at h
   ·rename_i h4
    obtain ⟨a,rfl⟩:=zHB (Tm.type_valid I) h4
    cases h
    have:=U b (by simp) (sub b (by simp)) _ n _ (lv b (by simp)) I
    rw [zJV] at this
    exact .run this
   ·cases h
  ·cases h
 ·obtain ⟨b,rfl⟩:=len1 (l:=l) (by have:(l.length:Int)=1:=O;omega)
  have h:(match b.type g n with | some t=>zu 13 t | none=>none)=some u:=h
  split at h
  ·rename_i v I
   have h:(if v.base then some (yd v) else none)=some u:=h
   split at h
   ·rename_i Y
    cases h
    exact .lift (U b (by simp) (sub b (by simp)) g n v (lv b (by simp)) I) Y hv
   ·cases h
  ·cases h
theorem u4 {o:Option Ty} {u:Ty} (h:o=some u) (I:u.valid=true):vld o=some u:=by rw [h];simp [vld,I]
theorem zGz {g:List Tg} {n:Int} {w:Int} {v:Ty} (I:v.k=w):∀ {l:List Tm},(∀ x∈l,x.type g n=some v)->∃ us,ya l g n=some us/\zMa w us=true
 | [],_=>⟨[],rfl,rfl⟩
 | x::l,h=>by
   obtain ⟨us,J,O⟩:=zGz I (l:=l) λy U=>h y (by simp [U])
   refine ⟨v::us,by simp only [ya,h x (by simp),J],by simp [zMa,I,O]⟩
theorem zKH {r:Rho} {t:Tm} {n:Int} {u:Ty} (h:HT r t n u):∀ g:List Tg,r=xF g->t.type g n=some u:=by
 have I:=h.valid
 induction h with
 | var h hv=>intro g J;subst J;simp only [Tm.type];exact u4 h hv
 | int=>intro g J;simp only [Tm.type];exact u4 rfl (by decide)
 | bool=>intro g J;simp only [Tm.type];exact u4 rfl (by decide)
 | @op r nm ot m ty re l n _ hx U=>
   intro g J
   have hk:(if zDi nm=1 then tInt else tBool).k=zDi nm:=by
    rcases zKn nm with h | h<;>rw [h]<;>rfl
   obtain ⟨us,h1,h2⟩:=zGz (g:=g) (n:=n) hk (l:=l) λx ab=>U x ab (hx x ab).valid g J
   simp only [Tm.type]
   refine u4 ?_ I
   show (match ya l g n with | some ts=>yo 4 nm ts | none=>none)=_
   rw [h1]
   show zM7 nm us=_
   unfold zM7
   rw [if_pos h2]
 | @ite r nm ot m ty re a b c n u _ ha O hc Y aa ac=>
   intro g J
   simp only [Tm.type]
   refine u4 ?_ I
   show (match ya [a,b,c] g n with | some ts=>yo 5 nm ts | none=>none)=_
   simp only [ya,Y ha.valid g J,aa O.valid g J,ac hc.valid g J]
   have:zDj u u=true:=(ud u u).2 rfl
   simp [yo,this,tBool,Ty.k]
 | @lam r nm ot m ty re b n v _ O hv U=>
   intro g J
   simp only [Tm.type]
   refine u4 ?_ I
   show (match b.type (g++[⟨nm,ty,n⟩]) n with | some b=>some (wA ty b) | none=>none)=_
   have e:=U O.valid (g++[(⟨nm,ty,n⟩:Tg)]) (by rw [ui,J])
   rw [e]
 | @app r nm ot m ty re f x n a b _ hf hx ae ah=>
   intro g J
   simp only [Tm.type]
   refine u4 ?_ I
   show (match ya [f,x] g n with | some ts=>yo 7 nm ts | none=>none)=_
   simp only [ya,ae hf.valid g J,ah hx.valid g J]
   have:zDj a a=true:=(ud a a).2 rfl
   simp [yo,this,wA,Ty.k,Ty.as]
 | @lt r nm ot m ty re a b n t u _ ha O Y aa=>
   intro g J
   simp only [Tm.type]
   refine u4 ?_ I
   show (match a.type g n with | some a=>b.type (g++[(⟨nm,a,n⟩:Tg)]) n | none=>none)=_
   rw [Y ha.valid g J]
   exact aa O.valid (g++[(⟨nm,t,n⟩:Tg)]) (by rw [ui,J])
 | @fix r nm ot m ty re b n _ ai O hv U=>
   intro g J
   simp only [Tm.type]
   refine u4 ?_ I
   show (match b.type ((g++[⟨nm,wA ty re,n⟩])++[⟨ot,ty,n⟩]) n with | some b=>if zDj b re then some (wA ty re) else none | none=>none)=_
   have e:=U O.valid ((g++[(⟨nm,wA ty re,n⟩:Tg)])++[(⟨ot,ty,n⟩:Tg)]) (by rw [ui,ui,J])
   rw [e]
   simp only
   rw [if_pos ((ud re re).2 rfl)]
 | @quote r nm ot m ty re b n t _ O hv U=>
   intro g J
   simp only [Tm.type]
   refine u4 ?_ I
   show (match b.type g (n+1) with | some t=>zu 10 t | none=>none)=_
   rw [U O.valid g J];rfl
 | @splice r nm ot m ty re b n t _ O U=>
   intro g J
   simp only [Tm.type]
   refine u4 ?_ I
   show (match b.type g (n - 1) with | some t=>zu 11 t | none=>none)=_
   rw [U O.valid g J];rfl
 | @run r nm ot m ty re b n t _ O U=>
   intro g J
   simp only [Tm.type]
   refine u4 ?_ I
   show (match b.type (uy g n) n with | some t=>zu 12 t | none=>none)=_
   rw [U O.valid (uy g n) (by rw [zJV,J])];rfl
 | @lift r nm ot m ty re b n t _ O ht hv U=>
   intro g J
   simp only [Tm.type]
   refine u4 ?_ I
   show (match b.type g n with | some t=>zu 13 t | none=>none)=_
   rw [U O.valid g J]
   show (if t.base then some (yd t) else none)=_
   rw [if_pos ht]
theorem zL (r:Rho) (x:ByteArray) (n:Int) (t:Ty) (m:Int):r.set x n t x m=if n=m then some t else none:=by unfold Rho.set;rw [if_pos rfl]
theorem zC (r:Rho) {x s:ByteArray} (h:s≠x) (n:Int) (t:Ty) (m:Int):r.set x n t s m=r s m:=by unfold Rho.set;rw [if_neg (λI=>h I.symm)]
theorem w6 {r:Rho} {n:Int} {s:ByteArray} {m:Int} {t:Ty}:r.safe n s m=some t↔r s m=some t/\m<=n/\t.base=true:=by
 unfold Rho.safe
 split
 ·rename_i u I
  rw [I]
  split
  ·rename_i h
   constructor
   ·intro e;cases e;exact ⟨rfl,h⟩
   ·intro e;exact e.1
  ·rename_i h
   constructor
   ·intro e;cases e
   ·intro e;cases e.1;exact absurd e.2 h
 ·rename_i I
  rw [I];simp
theorem zAe {k:Int} (I:k≠1) {nm ot:ByteArray} {n:Int} {ty re:Ty} {l:List Tm} {j:Nat} {p:Tm} {s:ByteArray} (J:l[j]?=some p) (hs:s∈p.fv) (O:s∉bdN k nm ot l.length):s∈(Tm.mk k nm ot n ty re l).fv:=by
 refine Tm.fv_mem.2 (.inr ⟨I,j,p,J,?_⟩)
 unfold fvI
 split
 ·exact xf.2 ⟨hs,O⟩
 ·exact hs
theorem zRu {k:Int} (I:k≠1) {nm ot:ByteArray} {n:Int} {ty re:Ty} {l:List Tm} {j:Nat} {p:Tm} {s:ByteArray} (J:l[j]?=some p) (hs:s∈p.fv) (O:(j:Int)≠ze k l.length):s∈(Tm.mk k nm ot n ty re l).fv:=by
 refine Tm.fv_mem.2 (.inr ⟨I,j,p,J,?_⟩)
 unfold fvI
 rw [if_neg O]
 exact hs
theorem zCm {r:Rho} {e:Tm} {n:Int} {u:Ty} (h:HT r e n u):∀ r':Rho,(∀ s∈e.fv,∀ m,r s m=r' s m)->HT r' e n u:=by
 induction h with
 | @var r nm ot m ty re l n u _ h O=>exact λr' I=>.var (by rw [<-I nm (Tm.fv_mem.2 (.inl ⟨rfl,rfl⟩))];exact h) O
 | int=>exact λr' I=>.int
 | bool=>exact λr' I=>.bool
 | op h J=>
   exact λr' I=>.op λx hx=>J x hx r' λs hs m=>I s (by
    obtain ⟨j,hj,aa⟩:=List.getElem_of_mem hx
    exact zAe (by decide) (oC.2 ⟨hj,aa⟩) hs (by simp [bdN])) m
 | ite _ _ _ U Y ab=>
   exact λr' I=>.ite (U r' λs hs m=>I s (zAe (by decide) (j:=0) rfl hs (by simp [bdN])) m) (Y r' λs hs m=>I s (zAe (by decide) (j:=1) rfl hs (by simp [bdN])) m)
    (ab r' λs hs m=>I s (zAe (by decide) (j:=2) rfl hs (by simp [bdN])) m)
 | @lam r nm ot m ty re b n v _ _ O J=>
   refine λr' I=>.lam (J _ λs hs m'=>?_) O
   by_cases e:s=nm
   ·subst e;rw [zL,zL]
   ·rw [zC _ e,zC _ e];exact I s (zAe (by decide) (j:=0) rfl hs (by simpa [bdN] using e)) m'
 | app _ _ ac ae=>
   exact λr' I=>.app (ac r' λs hs m=>I s (zAe (by decide) (j:=0) rfl hs (by simp [bdN])) m) (ae r' λs hs m=>I s (zAe (by decide) (j:=1) rfl hs (by simp [bdN])) m)
 | @lt r nm ot m ty re a b n t u _ _ _ U Y=>
   refine λr' I=>.lt (U r' λs hs m'=>I s (zRu (by decide) (j:=0) rfl hs (by simp [ze])) m') (Y _ λs hs m'=>?_)
   by_cases e:s=nm
   ·subst e;rw [zL,zL]
   ·rw [zC _ e,zC _ e];exact I s (zAe (by decide) (j:=1) rfl hs (by simpa [bdN] using e)) m'
 | @fix r nm ot m ty re b n _ ah _ O J=>
   refine λr' I=>.fix ah (J _ λs hs m'=>?_) O
   by_cases e:s=ot
   ·subst e;rw [zL,zL]
   ·rw [zC _ e,zC _ e]
    by_cases e2:s=nm
    ·subst e2;rw [zL,zL]
    ·rw [zC _ e2,zC _ e2];exact I s (zAe (by decide) (j:=0) rfl hs (by simp [bdN,e,e2])) m'
 | quote _ O J=>exact λr' I=>.quote (J r' λs hs m=>I s (zAe (by decide) (j:=0) rfl hs (by simp [bdN])) m) O
 | splice _ J=>exact λr' I=>.splice (J r' λs hs m=>I s (zAe (by decide) (j:=0) rfl hs (by simp [bdN])) m)
 | run _ J=>
   exact λr' I=>.run (J _ λs hs m=>by unfold Rho.safe;rw [I s (zAe (by decide) (j:=0) rfl hs (by simp [bdN])) m])
 | lift _ hb O J=>exact λr' I=>.lift (J r' λs hs m=>I s (zAe (by decide) (j:=0) rfl hs (by simp [bdN])) m) hb O
theorem zRF {r:Rho} {e:Tm} {n:Int} {u:Ty} (h:HT r e n u):∀ r':Rho,(∀ s m t,r s m=some t->r' s m=some t)->HT r' e n u:=by
 have J:∀ {r r':Rho} {x:ByteArray} {n:Int} {t:Ty},(∀ s m t,r s m=some t->r' s m=some t)->∀ s m u,r.set x n t s m=some u->r'.set x n t s m=some u:=by
  intro r r' x n t h s m u hu
  by_cases e:s=x
  ·subst e;rw [zL] at hu ⊢;exact hu
  ·rw [zC _ e] at hu ⊢;exact h _ _ _ hu
 induction h with
 | var h U=>exact λr' I=>.var (I _ _ _ h) U
 | int=>exact λr' I=>.int
 | bool=>exact λr' I=>.bool
 | op h O=>exact λr' I=>.op λx hx=>O x hx r' I
 | ite _ _ _ Y aa ab=>exact λr' I=>.ite (Y r' I) (aa r' I) (ab r' I)
 | lam _ U O=>exact λr' I=>.lam (O _ (J I)) U
 | app _ _ ac ae=>exact λr' I=>.app (ac r' I) (ae r' I)
 | lt _ _ Y aa=>exact λr' I=>.lt (Y r' I) (aa _ (J I))
 | fix ah _ U O=>exact λr' I=>.fix ah (O _ (J (J I))) U
 | quote _ U O=>exact λr' I=>.quote (O r' I) U
 | splice _ O=>exact λr' I=>.splice (O r' I)
 | run _ O=>exact λr' I=>.run (O _ λs m t ht=>by
  obtain ⟨h1,h2⟩:=w6.1 ht
  exact w6.2 ⟨I _ _ _ h1,h2⟩)
 | lift _ hb U O=>exact λr' I=>.lift (O r' I) hb U
theorem zP0 {r:Rho} {e:Tm} {n:Int} {u:Ty} (h:HT r e n u):e.made n=true->1<=n->HT (λs m=>r s (m+1)) e (n - 1) u:=by
 have O:∀ (r:Rho) (x:ByteArray) (n:Int) (t:Ty),(λs m=>r.set x n t s (m+1))=Rho.set (λs m=>r s (m+1)) x (n - 1) t:=by
  intro r x n t
  funext s m
  unfold Rho.set
  split
  ·by_cases e:n=m+1
   ·rw [if_pos e,if_pos (by omega)]
   ·rw [if_neg e,if_neg (by omega)]
  ·rfl
 have aa:∀ (r:Rho) (n:Int),(λs m=>r.safe n s (m+1))=Rho.safe (λs m=>r s (m+1)) (n - 1):=by
  intro r n
  funext s m
  unfold Rho.safe
  split
  ·rename_i t ht
   simp only [ht]
   by_cases e:m+1<=n/\t.base=true
   ·rw [if_pos e,if_pos ⟨by omega,e.2⟩]
   ·rw [if_neg e,if_neg (λh=>e ⟨by omega,h.2⟩)]
  ·rename_i ht
   simp only [ht]
 have lv:∀ {n:Int},LvB n->1<=n->LvB (n - 1):=λh I=>⟨by have:=h.h;omega⟩
 have mp:∀ {k:Int} {nm ot:ByteArray} {m:Int} {ty re:Ty} {l:List Tm} {n:Int},(Tm.mk k nm ot m ty re l).made n=true->∀ x∈l,x.made (zW k n)=true:=λh x hx=>by
  simp only [Tm.made,oG] at h
  exact zCe.1 h.2 x hx
 have m0:∀ {k:Int} {nm ot:ByteArray} {m:Int} {ty re:Ty} {b:Tm} {n:Int},(Tm.mk k nm ot m ty re [b]).made n=true->b.made (zW k n)=true:=λh=>mp h _ (by simp)
 induction h with
 | @var _ _ _ _ _ _ _ _ _ i h Y=>exact λJ I=>haveI:=lv i I;.var (by simpa using h) Y
 | @int _ _ _ _ _ _ _ _ i=>exact λJ I=>haveI:=lv i I;.int
 | @bool _ _ _ _ _ _ _ _ i=>exact λJ I=>haveI:=lv i I;.bool
 | @op _ _ _ _ _ _ _ _ i h U=>exact λJ I=>haveI:=lv i I;.op λx hx=>U x hx (mp J x hx) I
 | @ite _ _ _ _ _ _ _ _ _ _ _ i _ _ _ ab ac ae=>exact λJ I=>haveI:=lv i I;.ite (ab (mp J _ (by simp)) I) (ac (mp J _ (by simp)) I) (ae (mp J _ (by simp)) I)
 | @lam _ _ _ _ _ _ _ _ _ i _ Y U=>exact λJ I=>haveI:=lv i I;.lam (by have:=U (m0 J) I;rwa [O] at this) Y
 | @app _ _ _ _ _ _ _ _ _ _ _ i _ _ ah ai=>exact λJ I=>haveI:=lv i I;.app (ah (mp J _ (by simp)) I) (ai (mp J _ (by simp)) I)
 | @lt _ _ _ _ _ _ _ _ _ _ _ i _ _ ab ac=>exact λJ I=>haveI:=lv i I;.lt (ab (mp J _ (by simp)) I) (by have:=ac (mp J _ (by simp)) I;rwa [O] at this)
 | @fix _ _ _ _ _ _ _ _ i aj _ Y U=>exact λJ I=>haveI:=lv i I;.fix aj (by have:=U (m0 J) I;rwa [O,O] at this) Y
 | @quote _ _ _ _ _ _ _ n _ i _ Y U=>exact λJ I=>haveI:=lv i I;.quote (by have:=U (m0 J) (by omega);rwa [show n+1 - 1=n - 1+1 from by omega] at this) Y
 | @splice _ _ _ _ _ _ _ n _ i hb U=>
   intro J I
   haveI:=lv i I
   have h2:¬n=1:=λe=>by
    simp only [Tm.made,oG] at J
    have:=J.1
    rw [e] at this
    exact absurd this (by decide)
   exact .splice (U (m0 J) (by omega))
 | @run _ _ _ _ _ _ _ _ _ i _ U=>exact λJ I=>haveI:=lv i I;.run (by have:=U (m0 J) I;rwa [aa] at this)
 | @lift _ _ _ _ _ _ _ _ _ i _ hb Y U=>exact λJ I=>haveI:=lv i I;.lift (U (m0 J) I) hb Y
def PutOk (b:Tm) (r:Rho) (k:Int) (t:Ty):Prop:=(HT r b k t/\(t.base=true->∀ I,HT I b k t))\/∃ y,b=vL y/\r y k=some t
theorem PutOk.cong {b:Tm} {r r':Rho} {k:Int} {t:Ty} (h:PutOk b r k t) (I:∀ s∈b.fv,∀ m,r s m=r' s m):PutOk b r' k t:=by
 rcases h with ⟨J,O⟩ | ⟨y,rfl,U⟩
 ·exact .inl ⟨zCm J r' I,O⟩
 ·exact .inr ⟨y,rfl,by rw [<-I y (by rw [zCy];simp)];exact U⟩
theorem PutOk.safe {b:Tm} {r:Rho} {k n:Int} {t:Ty} (h:PutOk b r k t) (I:t.base=true) (O:k<=n):PutOk b (r.safe n) k t:=by
 rcases h with ⟨Y,J⟩ | ⟨y,rfl,U⟩
 ·exact .inl ⟨J I _,J⟩
 ·exact .inr ⟨y,rfl,w6.2 ⟨U,O,I⟩⟩
def zNx (f:Nat):Prop:=∀ (e:Tm) (x:ByteArray) (b:Tm) (r r':Rho) (n:Int) (u:Ty),e.dp<=f->HT r e n u->(∀ s,s≠x->∀ m,r s m=r' s m)->(∀ k t,r x k=some t->PutOk b r' k t)->HT r' (e.sub f x b) n u
/-- a new name for a bound one -/
theorem zIh {f:Nat} (U:zNx f) {p:Tm} {old w:ByteArray} {R R':Rho} {n:Int} {u:Ty} (hd:p.dp<=f) (h:HT R p n u) (Y:∀ s,s≠old->s≠w->∀ m,R s m=R' s m) (hw:w∉p.fv) (I:w≠old) (J:∀ k,R old k=R' w k) :
  HT R' (p.sub f old (vL w)) n u:=by
 have h2:=zCm h (λs m=>if s=w then R' w m else R s m) λs hs m=>by
  have e:¬s=w:=λe=>hw (e ▸ hs)
  rw [if_neg e]
 refine U p old (vL w) _ R' n u hd h2 (λs hs m=>?_) λk t O=>?_
 ·split
  ·rename_i e;rw [e]
  ·rename_i e;exact Y s hs e m
 ·rw [if_neg (λe=>I e.symm),J] at O
  exact .inr ⟨w,rfl,O⟩
theorem zSa (f:Nat) (nm ot:ByteArray) (m:Int) (ty re:Ty) (p:Tm) (x:ByteArray) (b:Tm):(Tm.mk 6 nm ot m ty re [p]).sub (f+1) x b =
  if x∈[nm]\/x∉p.fv then .mk 6 nm ot m ty re [p] else .mk 6 (rn1 (Tm.sub f) 6 1 b.fv x nm (nm,ot,p)).1 (rn1 (Tm.sub f) 6 1 b.fv x nm (nm,ot,p)).2.1 m ty re [Tm.sub f (rn1 (Tm.sub f) 6 1 b.fv x nm (nm,ot,p)).2.2 x b]:=by
 simp only [Tm.sub];rfl
theorem zSY (f:Nat) (nm ot:ByteArray) (m:Int) (ty re:Ty) (a p:Tm) (x:ByteArray) (b:Tm):(Tm.mk 8 nm ot m ty re [a,p]).sub (f+1) x b =
  if x∈[nm]\/x∉p.fv then .mk 8 nm ot m ty re [a.sub f x b,p] else .mk 8 (rn1 (Tm.sub f) 8 2 b.fv x nm (nm,ot,p)).1 (rn1 (Tm.sub f) 8 2 b.fv x nm (nm,ot,p)).2.1 m ty re [a.sub f x b,Tm.sub f (rn1 (Tm.sub f) 8 2 b.fv x nm (nm,ot,p)).2.2 x b]:=by
 simp only [Tm.sub];rfl
theorem zSX (f:Nat) (nm ot:ByteArray) (m:Int) (ty re:Ty) (p:Tm) (x:ByteArray) (b:Tm):(Tm.mk 9 nm ot m ty re [p]).sub (f+1) x b =
  if x∈[nm,ot]\/x∉p.fv then .mk 9 nm ot m ty re [p] else .mk 9 (rn1 (Tm.sub f) 9 1 b.fv x ot (rn1 (Tm.sub f) 9 1 b.fv x nm (nm,ot,p))).1 (rn1 (Tm.sub f) 9 1 b.fv x ot (rn1 (Tm.sub f) 9 1 b.fv x nm (nm,ot,p))).2.1 m ty re
   [Tm.sub f (rn1 (Tm.sub f) 9 1 b.fv x ot (rn1 (Tm.sub f) 9 1 b.fv x nm (nm,ot,p))).2.2 x b]:=by
 simp only [Tm.sub];rfl
theorem tY {f:Nat} {k:Int} {nm ot:ByteArray} {m:Int} {ty re:Ty} {l:List Tm} {x:ByteArray} {b:Tm} (I:¬k=1) (J:ze k l.length<0):(Tm.mk k nm ot m ty re l).sub (f+1) x b=.mk k nm ot m ty re (l.map λt=>t.sub f x b):=by
 simp only [Tm.sub];rw [if_neg I,if_pos J]
/-- one bound name and what is put in -/
theorem zJC {f:Nat} (hS:zNx f) {k:Int} {c:Nat} {nm ot x:ByteArray} {p b:Tm} {r r':Rho} {n:Int} {ty u:Ty} (hd:p.dp<=f) (hm:nm∈bdN k nm ot c) (h:HT (r.set nm n ty) p n u) (hr:∀ s,s≠x->∀ m,r s m=r' s m)
  (hg:∀ k t,r x k=some t->PutOk b r' k t) (hx:x≠nm):HT (r'.set (rn1 (Tm.sub f) k c b.fv x nm (nm,ot,p)).1 n ty) (Tm.sub f (rn1 (Tm.sub f) k c b.fv x nm (nm,ot,p)).2.2 x b) n u:=by
 have fin:∀ (w:ByteArray) (q:Tm),q.dp<=f->w∉b.fv->x≠w->HT (r.set w n ty) q n u->HT (r'.set w n ty) (Tm.sub f q x b) n u:=by
  intro w q hq O U h2
  refine hS q x b _ _ n u hq h2 (λs hs m=>?_) λk t ht=>?_
  ·by_cases e:s=w
   ·subst e;rw [zL,zL]
   ·rw [zC _ e,zC _ e];exact hr s hs m
  ·rw [zC _ U] at ht
   refine (hg k t ht).cong λs hs m=>?_
   have e:s≠w:=λe=>O (e ▸ hs)
   rw [zC _ e]
 have I:=(qP (yr f) k c b.fv x nm (nm,ot,p)).d
 unfold rn1 at I ⊢
 split
 ·rename_i hold
  rw [if_pos hold] at I
  simp only [mV] at I ⊢
  have J:=ym (b.fv++(p.fv++([x]++bdN k nm ot c)))
  generalize fresh (b.fv++(p.fv++([x]++bdN k nm ot c)))=w at J I ⊢
  simp only [oJ,oF,od,nl,not_or] at J
  obtain ⟨Y,aa,ab,ac⟩:=J
  refine fin w _ (oN I hd) Y (λe=>ab e.symm) (zIh hS hd h (λs hs O m=>?_) aa (λe=>ac (e ▸ hm)) λk=>?_)
  ·rw [zC _ hs,zC _ O]
  ·rw [zL,zL]
 ·rename_i hold
  exact fin nm p hd hold hx h
theorem zKt {f:Nat} (hS:zNx f) {nm ot x:ByteArray} {p b:Tm} {r r':Rho} {n:Int} {tf ty u:Ty} (hd:p.dp<=f) (ae:nm≠ot) (h:HT ((r.set nm n tf).set ot n ty) p n u) (hr:∀ s,s≠x->∀ m,r s m=r' s m)
  (hg:∀ k t,r x k=some t->PutOk b r' k t) (hx:x≠nm) (ah:x≠ot):∃ a c q,rn1 (Tm.sub f) 9 1 b.fv x ot (rn1 (Tm.sub f) 9 1 b.fv x nm (nm,ot,p))=(a,c,q)/\a≠c/\HT ((r'.set a n tf).set c n ty) (Tm.sub f q x b) n u:=by
 have fin:∀ (a c:ByteArray) (q:Tm),q.dp<=f->a∉b.fv->c∉b.fv->x≠a->x≠c->HT ((r.set a n tf).set c n ty) q n u->HT ((r'.set a n tf).set c n ty) (Tm.sub f q x b) n u:=by
  intro a c q hq ha hc ai aj h2
  refine hS q x b _ _ n u hq h2 (λs hs m=>?_) λk t ht=>?_
  ·by_cases e:s=c
   ·subst e;rw [zL,zL]
   ·rw [zC _ e,zC _ e]
    by_cases e2:s=a
    ·subst e2;rw [zL,zL]
    ·rw [zC _ e2,zC _ e2];exact hr s hs m
  ·rw [zC _ aj,zC _ ai] at ht
   refine (hg k t ht).cong λs hs m=>?_
   have e:s≠c:=λe=>hc (e ▸ hs)
   have e2:s≠a:=λe=>ha (e ▸ hs)
   rw [zC _ e,zC _ e2]
 obtain ⟨a,O,e1,d1,a1,a2,a3,h1⟩:∃ a O,rn1 (Tm.sub f) 9 1 b.fv x nm (nm,ot,p)=(a,ot,O)/\O.dp<=f/\a∉b.fv/\x≠a/\a≠ot/\HT ((r.set a n tf).set ot n ty) O n u:=by
  have I:=(qP (yr f) 9 1 b.fv x nm (nm,ot,p)).d
  unfold rn1 at I ⊢
  split
  ·rename_i hold
   rw [if_pos hold] at I
   simp only [mV] at I ⊢
   have J:=ym (b.fv++(p.fv++([x]++bdN 9 nm ot 1)))
   generalize fresh (b.fv++(p.fv++([x]++bdN 9 nm ot 1)))=w at J I ⊢
   rw [show bdN 9 nm ot 1=[nm,ot] from rfl] at J
   simp only [oJ,oF,od,nl,not_or] at J
   obtain ⟨Y,aa,ab,ac,U⟩:=J
   refine ⟨w,_,rfl,oN I hd,Y,λe=>ab e.symm,U,zIh hS hd h (λs hs hw m=>?_) aa ac λk=>?_⟩
   ·by_cases e:s=ot
    ·subst e;rw [zL,zL]
    ·rw [zC _ e,zC _ e,zC _ hs,zC _ hw]
   ·rw [zC _ ae,zC _ U,zL,zL]
  ·rename_i hold
   exact ⟨nm,p,rfl,hd,hold,hx,ae,h⟩
 rw [e1]
 have I:=(qP (yr f) 9 1 b.fv x ot (a,ot,O)).d
 unfold rn1 at I ⊢
 split
 ·rename_i hold
  rw [if_pos hold] at I
  simp only [if_neg a3] at I ⊢
  have J:=ym (b.fv++(O.fv++([x]++bdN 9 a ot 1)))
  generalize fresh (b.fv++(O.fv++([x]++bdN 9 a ot 1)))=w at J I ⊢
  rw [show bdN 9 a ot 1=[a,ot] from rfl] at J
  simp only [oJ,oF,od,nl,not_or] at J
  obtain ⟨Y,aa,ab,ac,U⟩:=J
  refine ⟨a,w,_,rfl,λe=>ac e.symm,fin a w _ (oN I d1) a1 Y a2 (λe=>ab e.symm) (zIh hS d1 h1 (λs hs hw m=>?_) aa U λk=>?_)⟩
  ·rw [zC _ hs,zC _ hw]
  ·rw [zL,zL]
 ·rename_i hold
  exact ⟨a,ot,O,rfl,a3,fin a ot O d1 a1 hold a2 ah h1⟩
theorem zO4:∀ f,zNx f
 | 0,e,x,b,r,r',n,u,h,_,_,_=>absurd (Tm.dp_pos e) (by omega)
 | f + 1,e,x,b,r,r',n,u,hd,h,J,U=>by
   have Y:=zO4 f
   have I:∀ {k nm ot m ty re l},(Tm.mk k nm ot m ty re l).dp<=f+1->∀ y∈l,y.dp<=f:=λh y hy=>by
    simp only [Tm.dp] at h
    exact va.1 (mL h) y hy
   cases h with
   | @var _ nm ot m ty re l _ _ _ hv aa=>
     simp only [Tm.sub,mV]
     split
     ·rename_i e
      subst e
      rcases U _ _ hv with ⟨h1,_⟩ | ⟨y,rfl,hy⟩
      ·exact h1
      ·exact .var hy aa
     ·rename_i e
      exact .var (by rw [<-J nm e];exact hv) aa
   | int=>rw [tY (by decide) (by simp [ze])];exact .int
   | bool=>rw [tY (by decide) (by simp [ze])];exact .bool
   | op h1=>
     rw [tY (by decide) (by simp [ze])]
     refine .op λy hy=>?_
     obtain ⟨z,hz,rfl⟩:=oQ.1 hy
     exact Y z x b r r' n _ (I hd z hz) (h1 z hz) J U
   | ite ha O hc=>
     rw [tY (by decide) (by simp [ze])]
     exact .ite (Y _ x b r r' n _ (I hd _ (by simp)) ha J U) (Y _ x b r r' n _ (I hd _ (by simp)) O J U) (Y _ x b r r' n _ (I hd _ (by simp)) hc J U)
   | @lam _ nm ot m ty re p _ v _ O hv=>
     rw [zSa]
     split
     ·rename_i hc
      refine .lam (zCm O _ λs hs k=>?_) hv
      by_cases e:s=nm
      ·subst e;rw [zL,zL]
      ·rw [zC _ e,zC _ e]
       refine J s (λe2=>?_) k
       subst e2
       rcases hc with hc | hc
       ·exact e (by simpa using hc)
       ·exact hc hs
     ·rename_i hc
      exact .lam (zJC Y (I hd _ (by simp)) (by simp [bdN]) O J U (λe=>hc (.inl (by simp [e])))) hv
   | app hf hx=>
     rw [tY (by decide) (by simp [ze])]
     exact .app (Y _ x b r r' n _ (I hd _ (by simp)) hf J U) (Y _ x b r r' n _ (I hd _ (by simp)) hx J U)
   | @lt _ nm ot m ty re a p _ t _ _ ha O=>
     have ab:=Y _ x b r r' n _ (I hd a (by simp)) ha J U
     rw [zSY]
     split
     ·rename_i hc
      refine .lt ab (zCm O _ λs hs k=>?_)
      by_cases e:s=nm
      ·subst e;rw [zL,zL]
      ·rw [zC _ e,zC _ e]
       refine J s (λe2=>?_) k
       subst e2
       rcases hc with hc | hc
       ·exact e (by simpa using hc)
       ·exact hc hs
     ·rename_i hc
      exact .lt ab (zJC Y (I hd p (by simp)) (by simp [bdN]) O J U (λe=>hc (.inl (by simp [e]))))
   | @fix _ nm ot m ty re p _ _ ac O hv=>
     rw [zSX]
     split
     ·rename_i hc
      refine .fix ac (zCm O _ λs hs k=>?_) hv
      by_cases e:s=ot
      ·subst e;rw [zL,zL]
      ·rw [zC _ e,zC _ e]
       by_cases e1:s=nm
       ·subst e1;rw [zL,zL]
       ·rw [zC _ e1,zC _ e1]
        refine J s (λe2=>?_) k
        subst e2
        rcases hc with hc | hc
        ·simp [e,e1] at hc
        ·exact hc hs
     ·rename_i hc
      obtain ⟨a,c,q,e1,e2,e3⟩:=zKt Y (I hd p (by simp)) ac O J U (λe=>hc (.inl (by simp [e]))) (λe=>hc (.inl (by simp [e])))
      rw [e1]
      exact .fix e2 e3 hv
   | quote O hv=>rw [tY (by decide) (by simp [ze])];exact .quote (Y _ x b r r' _ _ (I hd _ (by simp)) O J U) hv
   | splice O=>rw [tY (by decide) (by simp [ze])];exact .splice (Y _ x b r r' _ _ (I hd _ (by simp)) O J U)
   | run O=>
     rw [tY (by decide) (by simp [ze])]
     refine .run (Y _ x b _ _ _ _ (I hd _ (by simp)) O (λs hs m=>by unfold Rho.safe;rw [J s hs m]) λk t ht=>?_)
     obtain ⟨h1,h2,h3⟩:=w6.1 ht
     exact (U k t h1).safe h3 h2
   | lift O ht hv=>rw [tY (by decide) (by simp [ze])];exact .lift (Y _ x b r r' _ _ (I hd _ (by simp)) O J U) ht hv
theorem zRr {e:Tm} {x:ByteArray} {b:Tm} {r r':Rho} {n:Int} {u:Ty} (h:HT r e n u) (I:∀ s,s≠x->∀ m,r s m=r' s m) (J:∀ k t,r x k=some t->PutOk b r' k t):HT r' (e.sb x b) n u:=
 zO4 _ e x b r r' n u (oD _) h I J
def Lv (r:Rho):Prop:=∀ s m t,r s m=some t->1<=m
theorem Lv.set {r:Rho} (h:Lv r) {x:ByteArray} {n:Int} {t:Ty} (J:1<=n):Lv (r.set x n t):=by
 intro s m u I
 by_cases e:s=x
 ·subst e
  rw [zL] at I
  split at I
  ·omega
  ·cases I
 ·rw [zC _ e] at I;exact h _ _ _ I
theorem Lv.safe {r:Rho} (h:Lv r) (n:Int):Lv (r.safe n):=λs m t I=>h _ _ _ (w6.1 I).1
theorem zTF {r nm ot m ty re l n u} (h:HT r (.mk 6 nm ot m ty re l) n u):∃ b v,l=[b]/\u=wA ty v/\HT (r.set nm n ty) b n v:=by cases h;exact ⟨_,_,rfl,rfl,‹_›⟩
theorem zSy {r nm ot m ty re l n u} (h:HT r (.mk 9 nm ot m ty re l) n u):∃ b,l=[b]/\u=wA ty re/\nm≠ot/\HT ((r.set nm n (wA ty re)).set ot n ty) b n re:=by cases h;exact ⟨_,rfl,rfl,‹_›,‹_›⟩
theorem zOb {r nm ot m ty re l n u} (h:HT r (.mk 10 nm ot m ty re l) n u):∃ b t,l=[b]/\u=yd t/\HT r b (n+1) t/\(yd t).valid=true:=by cases h;exact ⟨_,_,rfl,rfl,‹_›,‹_›⟩
theorem zRT {r nm ot m ty re l n u} (h:HT r (.mk 11 nm ot m ty re l) n u):∃ b,l=[b]/\HT r b (n - 1) (yd u):=by cases h;exact ⟨_,rfl,‹_›⟩
theorem zGU {a b c d:Ty} (h:wA a b=wA c d):a=c/\b=d:=by
 have h:Ty.mk 3 [a,b]=Ty.mk 3 [c,d]:=h
 simpa using h
theorem zIz {a b:Ty} (h:yd a=yd b):a=b:=by
 have h:Ty.mk 4 [a]=Ty.mk 4 [b]:=h
 simpa using h
theorem zAh {a x:Tm} {j:Nat} (h:[a][j]?=some x):j=0/\x=a:=by
 match j,h with
 | 0,h=>exact ⟨rfl,by simpa using h.symm⟩
theorem zNc {a b x:Tm} {j:Nat} (h:[a,b][j]?=some x):(j=0/\x=a)\/(j=1/\x=b):=by
 match j,h with
 | 0,h=>exact .inl ⟨rfl,by simpa using h.symm⟩
 | 1,h=>exact .inr ⟨rfl,by simpa using h.symm⟩
theorem zMi {a b c x:Tm} {j:Nat} (h:[a,b,c][j]?=some x):(j=0/\x=a)\/(j=1/\x=b)\/(j=2/\x=c):=by
 match j,h with
 | 0,h=>exact .inl ⟨rfl,by simpa using h.symm⟩
 | 1,h=>exact .inr (.inl ⟨rfl,by simpa using h.symm⟩)
 | 2,h=>exact .inr (.inr ⟨rfl,by simpa using h.symm⟩)
/-- one part another of its type -/
theorem zK2 {k:Int} {nm ot:ByteArray} {m:Int} {ty re:Ty} {l:List Tm} {r:Rho} {n:Int} {u:Ty} (h:HT r (.mk k nm ot m ty re l) n u) {j:Nat} {x y:Tm} (U:l[j]?=some x)
  (J:∀ r1 u1,Lv r1->HT r1 x (zW k n) u1->HT r1 y (zW k n) u1) (O:Lv r) (hn:1<=n\/(k≠6/\k≠9/\(k=8->j=0))):HT r (.mk k nm ot m ty re (l.set j y)) n u:=by
 cases h with
 | var h Y=>exact .var h Y
 | int=>exact .int
 | bool=>exact .bool
 | op h=>
   refine .op λz hz=>?_
   rcases nF hz with hz | rfl
   ·exact h z hz
   ·exact J r _ O (h x (oB U))
 | ite ha I hc=>
   rcases zMi U with ⟨rfl,rfl⟩ | ⟨rfl,rfl⟩ | ⟨rfl,rfl⟩
   ·exact .ite (J r _ O ha) I hc
   ·exact .ite ha (J r _ O I) hc
   ·exact .ite ha I (J r _ O hc)
 | lam I Y=>
   obtain ⟨rfl,rfl⟩:=zAh U
   rcases hn with hn | hn
   ·exact .lam (J _ _ (O.set hn) I) Y
   ·exact absurd rfl hn.1
 | app hf hx=>
   rcases zNc U with ⟨rfl,rfl⟩ | ⟨rfl,rfl⟩
   ·exact .app (J r _ O hf) hx
   ·exact .app hf (J r _ O hx)
 | lt ha I=>
   rcases zNc U with ⟨rfl,rfl⟩ | ⟨rfl,rfl⟩
   ·exact .lt (J r _ O ha) I
   ·rcases hn with hn | hn
    ·exact .lt ha (J _ _ (O.set hn) I)
    ·exact absurd (hn.2.2 rfl) (by decide)
 | fix aa I Y=>
   obtain ⟨rfl,rfl⟩:=zAh U
   rcases hn with hn | hn
   ·exact .fix aa (J _ _ ((O.set hn).set hn) I) Y
   ·exact absurd rfl hn.2.1
 | quote I Y=>obtain ⟨rfl,rfl⟩:=zAh U;exact .quote (J r _ O I) Y
 | splice I=>obtain ⟨rfl,rfl⟩:=zAh U;exact .splice (J r _ O I)
 | run I=>obtain ⟨rfl,rfl⟩:=zAh U;exact .run (J _ _ (O.safe _) I)
 | lift I ht Y=>obtain ⟨rfl,rfl⟩:=zAh U;exact .lift (J r _ O I) ht Y
theorem zLJ {v:Tm} {r:Rho} {n:Int} {t:Ty} (h:HT r v n t) (I:v.res=true) (J:t.base=true):∀ r' m,LvB m->HT r' v m t:=by
 intro r' m O
 cases h with
 | int=>exact .int
 | bool=>exact .bool
 | lam _ _=>cases J
 | fix _ _ _=>cases J
 | quote _ _=>cases J
 | var _ _=>cases I
 | op _=>cases I
 | ite _ _ _=>cases I
 | app _ _=>cases I
 | lt _ _=>cases I
 | splice _=>cases I
 | run _=>cases I
 | lift _ _ _=>cases I
theorem zFj {v:Tm} {r:Rho} {t:Ty} (h:HT r v 0 t) (I:v.res=true):PutOk v r 0 t:=.inl ⟨h,λJ r'=>zLJ h I J r' 0 inferInstance⟩
theorem zSg {b v:Tm} {x:ByteArray} {r:Rho} {t u:Ty} (I:HT (r.set x 0 t) b 0 u) (J:PutOk v r 0 t):HT r (b.sb x v) 0 u:=by
 refine zRr I (λs hs m=>zC _ hs _ _ _) λk t' h=>?_
 rw [zL] at h
 split at h
 ·rename_i e;cases h;subst e;exact J
 ·cases h
theorem zO9 {nm ot:ByteArray} {m:Int} {ty re:Ty} {b:Tm}:ot∉(Tm.mk 9 nm ot m ty re [b]).fv:=by
 intro h
 rcases Tm.fv_mem.1 h with ⟨h,_⟩ | ⟨_,j,x,J,I⟩
 ·cases h
 ·obtain ⟨rfl,rfl⟩:=zAh J
  have I:ot∈zAd [nm,ot] x.fv:=I
  exact (xf.1 I).2 (by simp)
theorem zNm {nm ot:ByteArray} {m:Int} {ty re:Ty} {b v:Tm} {r:Rho} (h:HT r (.mk 9 nm ot m ty re [b]) 0 (wA ty re)) (O:PutOk v r 0 ty):HT r ((b.sb nm (.mk 9 nm ot m ty re [b])).sb ot v) 0 re:=by
 obtain ⟨Y,e,_,J,U⟩:=zSy h
 cases e
 refine zSg (zRr U (r':=r.set ot 0 ty) (λs hs k=>?_) λk t I=>?_) O
 ·by_cases e:s=ot
  ·subst e;rw [zL,zL]
  ·rw [zC _ e,zC _ e,zC _ hs]
 ·rw [zC _ J,zL] at I
  split at I
  ·rename_i e
   cases I;subst e
   refine (zFj h rfl).cong λs hs k=>?_
   have e:s≠ot:=λe=>zO9 (e ▸ hs)
   rw [zC _ e]
  ·cases I
theorem zRa {e:Tm} {r:Rho} {u:Ty} (he:e.ok=true) (h:HT r e 0 u) (hr:Lv r) (J:∀ x∈e.as.take (qQ e.kd e.as.length),x.res=true):HT r e.apl.1 0 u:=by
 cases h with
 | var h O=>exact .var h O
 | int=>exact .int
 | bool=>exact .bool
 | @op _ nm ot m ty re l _ _ h1=>
   show HT r ((Tm.mk 4 nm ot m ty re l).opr l).1 0 _
   unfold Tm.opr
   split
   ·show HT r (zKO (zAq nm) _) 0 (uH nm)
    have key:(zAq nm=2/\uH nm=tInt)\/(zAq nm=3/\uH nm=tBool):=by
     unfold zAq zFb uH
     by_cases e1:nm=bytes [43]
     ·simp [e1]
     ·by_cases Y:nm=bytes [45]
      ·simp [e1,Y]
      ·by_cases e3:nm=bytes [42]
       ·simp [e1,Y,e3]
       ·simp [e1,Y,e3]
    rcases key with ⟨e1,Y⟩ | ⟨e1,Y⟩
    ·rw [e1,Y];exact .int
    ·rw [e1,Y];exact .bool
   ·exact .op h1
 | @ite _ nm ot m ty re a b c _ _ _ ha I hc=>
   show HT r (if a.kd=3 then (([a,b,c].getD (2 - a.no).toNat tm0,2):Tm × Int) else (.mk 5 nm ot m ty re [a,b,c],0)).1 0 u
   split
   ·rename_i hk
    have ai:=(Tm.ok_mk.1 he).1 a (by simp)
    cases a with
    | mk k aa ab m2 ac ae l2=>
    have hk:k=3:=hk
    subst hk
    have U:=(Tm.ok_mk.1 ai).2.1
    unfold zJ at U
    simp only [oG] at U
    have hn:=vm.1 U.2.2.2.2.1
    have am:m2<=1:=hn.2
    have aj:(Tm.mk 3 aa ab m2 ac ae l2).no=m2:=rfl
    rw [aj]
    rcases (by omega:m2=0\/m2=1) with rfl | rfl
    ·exact hc
    ·exact I
   ·exact .ite ha I hc
 | lam I O=>exact .lam I O
 | @app _ nm ot m ty re f x _ ta _ _ U hx=>
   have rf:=J f (by simp [Tm.as,Tm.kd,qQ])
   have rx:=J x (by simp [Tm.as,Tm.kd,qQ])
   show HT r (if f.kd=6 then (((f.pt 0).sb f.nm x,3):Tm × Int) else if f.kd=9 then ((((f.pt 0).sb f.nm f).sb f.ot x),4) else (.mk 7 nm ot m ty re [f,x],0)).1 0 u
   cases f with
   | mk k aa ab m2 ac ae l2=>
   split
   ·rename_i hk
    have hk:k=6:=hk
    subst hk
    obtain ⟨b,v,rfl,e,I⟩:=zTF U
    obtain ⟨rfl,rfl⟩:=zGU e
    exact zSg I (zFj hx rx)
   ·split
    ·rename_i hk
     have hk:k=9:=hk
     subst hk
     obtain ⟨b,rfl,e,ah,I⟩:=zSy U
     obtain ⟨rfl,rfl⟩:=zGU e
     exact zNm U (zFj hx rx)
    ·exact .app U hx
 | @lt _ nm ot m ty re a b _ t _ _ ha I=>
   have ra:=J a (by simp [Tm.as,Tm.kd,qQ])
   exact zSg I (zFj ha ra)
 | fix ah I O=>exact .fix ah I O
 | quote I O=>exact .quote I O
 | splice I=>exact .splice I
 | @run _ nm ot m ty re b _ t _ I=>
   show HT r (if b.kd=10 then ((b.pt 0,7):Tm × Int) else (.mk 12 nm ot m ty re [b],0)).1 0 u
   split
   ·rename_i hk
    cases b with
    | mk k aa ab m2 ac ae l2=>
    have hk:k=10:=hk
    subst hk
    obtain ⟨c,t,rfl,e,hc,_⟩:=zOb I
    cases zIz e
    have rb:=J _ (oB (i:=0) rfl)
    have ak:c.made 1=true:=(Bool.and_eq_true_iff.1 (show (_&&_)=true from rb)).2
    refine zRF (zP0 hc ak (by omega)) r λs m t ht=>?_
    obtain ⟨h1,h2,_⟩:=w6.1 ht
    have:=hr _ _ _ h1
    omega
   ·exact .run I
 | @lift _ nm ot m ty re b _ t _ I ht O=>
   show HT r (if b.kd=2\/b.kd=3 then ((Tm.nod 10 [b],8):Tm × Int) else (.mk 13 nm ot m ty re [b],0)).1 0 _
   split
   ·rename_i hk
    have al:b.res=true:=by
     unfold Tm.res zOC
     rcases hk with hk | hk<;>rw [hk]<;>rfl
    exact .quote (zLJ I al ht _ _ ⟨by omega⟩) O
   ·exact .lift I ht O
theorem zAt {S:Tm->Tm × Int} {m:Int}:∀ {xs l':List Tm} {r:Int},yG S xs m=some (l',r)->∃ j x,xs[j]?=some x/\l'=xs.set j (x.cod S m).1
 | [],_,_,h=>by simp [yG] at h
 | x :: xs,l',r,h=>by
   simp only [yG] at h
   split at h
   ·cases h;exact ⟨0,x,rfl,rfl⟩
   ·split at h
    ·cases h
    ·rename_i l2 O I
     cases h
     obtain ⟨j,y,J,rfl⟩:=zAt I
     exact ⟨j+1,y,by simpa using J,rfl⟩
def zRv (S:Tm->Tm × Int) (f:Nat):Prop:=∀ e r u,e.dp<=f->e.ok=true->HT r e 0 u->Lv r->HT r (S e).1 0 u
theorem zQ2 {S:Tm->Tm × Int} {f:Nat} (hS:zRv S f):∀ (t:Tm) (m:Int) (r:Rho) (u:Ty),t.dp<=f->t.ok=true->1<=m->HT r t m u->Lv r->HT r (t.cod S m).1 m u:=by
 refine Tm.ind λk nm ot n ty re l ih m r u hd he hm h hr=>?_
 have J:=(Tm.ok_mk.1 he).1
 have O:∀ x∈l,x.dp<=f:=λx U=>by
  have:=Tm.dp_mem (k:=k) (nm:=nm) (ot:=ot) (n:=n) (ty:=ty) (re:=re) U
  omega
 simp only [Tm.cod]
 split
 ·rename_i I
  obtain ⟨rfl,rfl⟩:=I
  obtain ⟨b,rfl,hb⟩:=zRT h
  show HT r (if b.res then (if b.kd=10 then ((b.pt 0,6,true):Tm × Int × Bool) else (.mk 11 nm ot n ty re [b],0,true)) else (.mk 11 nm ot n ty re [(S b).1],(S b).2,true)).1 1 u
  split
  ·split
   ·rename_i I
    cases b with
    | mk k ab ac m2 ae ah l2=>
    have I:k=10:=I
    subst I
    obtain ⟨c,t,rfl,e,hc,_⟩:=zOb hb
    cases zIz e
    exact hc
   ·exact h
  ·exact .splice (hS b r _ (O b (by simp)) (J b (by simp)) hb hr)
 ·rename_i I
  cases hc:yG S l (zW k m) with
  | none=>exact h
  | some p=>
    obtain ⟨l',r2⟩:=p
    obtain ⟨j,x,hj,rfl⟩:=zAt hc
    have U:=oB hj
    have Y:1<=zW k m:=by
     unfold zW
     split
     ·omega
     ·split
      ·rename_i aa
       have:¬m=1:=λe=>I ⟨aa,e⟩
       omega
      ·exact hm
    exact zK2 h hj (λr1 u1 h1 h2=>ih x U _ r1 u1 (O x U) (J x U) Y h2 h1) hr (.inl hm)
theorem zMs:∀ f,zRv (Tm.stp f) f
 | 0,e,r,u,hd,_,_,_=>absurd (Tm.dp_pos e) (by omega)
 | f + 1,.mk k nm ot n ty re l,r,u,hd,he,h,hr=>by
   have ih:=zMs f
   have O:=(Tm.ok_mk.1 he).1
   have U:∀ x∈l,x.dp<=f:=λx hx=>by
    have:=Tm.dp_mem (k:=k) (nm:=nm) (ot:=ot) (n:=n) (ty:=ty) (re:=re) hx
    omega
   simp only [Tm.stp]
   split
   ·exact h
   ·split
    ·rename_i I
     have I:k=10:=I
     subst I
     obtain ⟨b,t,rfl,rfl,hb,hv⟩:=zOb h
     exact .quote (zQ2 ih b 1 r t (U b (by simp)) (O b (by simp)) (by decide) hb hr) hv
    ·rename_i I
     have I:¬k=10:=I
     cases hg:goS (Tm.stp f) (Tm.mk k nm ot n ty re l) (l.take (qQ k l.length)) 0 with
     | none=>exact zRa he h hr (zIv.1 hg)
     | some p=>
       obtain ⟨j,x,g1,g2,rfl⟩:=rI hg
       obtain ⟨J,Y⟩:j<qQ k l.length/\l[j]?=some x:=by
        rw [oa] at g1
        split at g1
        ·exact ⟨‹_›,g1⟩
        ·cases g1
       have hm:=oB Y
       simp only [nJ]
       have hn0:k=11\/zW k 0=0:=by
        unfold zW;rw [if_neg I]
        by_cases e:k=11
        ·exact .inl e
        ·rw [if_neg e];exact .inr rfl
       rcases hn0 with rfl | hn0
       ·exact absurd J (by simp [qQ])
       ·refine zK2 h Y (λr1 u1 h1 h2=>?_) hr (.inr ⟨λe=>?_,λe=>?_,λe=>?_⟩)
        ·rw [hn0] at h2 ⊢
         exact ih x r1 u1 (U x hm) (O x hm) h2 h1
        ·subst e;exact absurd J (by simp [qQ])
        ·subst e;exact absurd J (by simp [qQ])
        ·subst e
         have:qQ 8 l.length=1:=by simp [qQ]
         omega
def rho0:Rho:=λ_ _=>none
theorem zMr:∀ (m n:Nat) (x:Tm),(zBC m n x).1.1≠3->x.sz<=400:=by
 intro m n x h
 rw [zAi] at h
 split at h
 ·exact absurd rfl h
 ·omega
theorem zK1 {u:Ty} {r:Rho} (U:Lv r):∀ (m n:Nat) (x:Tm),x.ok=true->HT r x 0 u->(zBC m n x).1.1=1->(zBC m n x).1.2.1.ok=true/\(zBC m n x).1.2.1.sz<=400/\(zBC m n x).1.2.1.res=true/\HT r (zBC m n x).1.2.1 0 u:=by
 intro m
 induction m with
 | zero=>
   intro n x J h hd
   rw [zAi] at hd ⊢
   split at hd
   ·cases hd
   ·rename_i hs
    rw [if_neg hs]
    split at hd
    ·rename_i I
     rw [if_pos I]
     exact ⟨J,lE hs,I,h⟩
    ·cases hd
 | succ m Y=>
   intro n x J h hd
   rw [zAi] at hd ⊢
   split at hd
   ·cases hd
   ·rename_i hs
    rw [if_neg hs]
    split at hd
    ·rename_i I
     rw [if_pos I]
     exact ⟨J,lE hs,I,h⟩
    ·rename_i I
     rw [if_neg I]
     simp only at hd ⊢
     split at hd
     ·cases hd
     ·rename_i hz
      rw [if_neg hz]
      have O:=zMr m (n+1) (x.stp x.dp).1 (by rw [show (zBC m (n+1) (x.stp x.dp).1).1.1=1 from hd];decide)
      exact Y _ _ (zFX _ x (oD _) J O) (zMs _ x r u (oD _) J h U) hd
/-- what is typed lies at levels that are some -/
theorem zQt {r:Rho} {t:Tm} {n:Int} {u:Ty} (h:HT r t n u):t.ok=true->t.lev n=true:=by
 have iv:∀ {n:Int},LvB n->inB n 0 2=true:=λh=>vm.2 h.h
 have nil:∀ {k:Int} {nm ot:ByteArray} {m:Int} {ty re:Ty} {l:List Tm},(k=1\/k=2\/k=3)->(Tm.mk k nm ot m ty re l).ok=true->l=[]:=λhk h=>oP ((vp h).2.2.2.1 hk)
 have mk:∀ {k:Int} {nm ot:ByteArray} {m:Int} {ty re:Ty} {l:List Tm} {n:Int},LvB n->(∀ x∈l,x.lev (zW k n)=true)->(Tm.mk k nm ot m ty re l).lev n=true:=λh J=>by
  simp only [Tm.lev,oG]
  exact ⟨iv h,zEh.2 J⟩
 induction h with
 | @var _ _ _ _ _ _ _ _ _ i _ _=>exact λI=>by have:=nil (.inl rfl) I;subst this;exact mk i (by simp)
 | @int _ _ _ _ _ _ _ _ i=>exact λI=>by have:=nil (.inr (.inl rfl)) I;subst this;exact mk i (by simp)
 | @bool _ _ _ _ _ _ _ _ i=>exact λI=>by have:=nil (.inr (.inr rfl)) I;subst this;exact mk i (by simp)
 | @op _ _ _ _ _ _ _ _ i _ O=>exact λI=>mk i λx J=>O x J ((Tm.ok_mk.1 I).1 x J)
 | @ite _ _ _ _ _ _ _ _ _ _ _ i _ _ _ U Y aa=>
   intro I
   have:=(Tm.ok_mk.1 I).1
   refine mk i λx J=>?_
   simp only [oF,od,nl] at J
   rcases J with rfl | rfl | rfl
   ·exact U (this _ (by simp))
   ·exact Y (this _ (by simp))
   ·exact aa (this _ (by simp))
 | @app _ _ _ _ _ _ _ _ _ _ _ i _ _ ab ac=>
   intro I
   have:=(Tm.ok_mk.1 I).1
   refine mk i λx J=>?_
   simp only [oF,od,nl] at J
   rcases J with rfl | rfl
   ·exact ab (this _ (by simp))
   ·exact ac (this _ (by simp))
 | @lt _ _ _ _ _ _ _ _ _ _ _ i _ _ U Y=>
   intro I
   have:=(Tm.ok_mk.1 I).1
   refine mk i λx J=>?_
   simp only [oF,od,nl] at J
   rcases J with rfl | rfl
   ·exact U (this _ (by simp))
   ·exact Y (this _ (by simp))
 | @lam _ _ _ _ _ _ _ _ _ i _ _ O=>exact λI=>mk i λx J=>by rw [oY] at J;subst J;exact O ((Tm.ok_mk.1 I).1 _ (by simp))
 | @fix _ _ _ _ _ _ _ _ i _ _ _ O=>exact λI=>mk i λx J=>by rw [oY] at J;subst J;exact O ((Tm.ok_mk.1 I).1 _ (by simp))
 | @quote _ _ _ _ _ _ _ _ _ i _ _ O=>exact λI=>mk i λx J=>by rw [oY] at J;subst J;exact O ((Tm.ok_mk.1 I).1 _ (by simp))
 | @splice _ _ _ _ _ _ _ _ _ i _ O=>exact λI=>mk i λx J=>by rw [oY] at J;subst J;exact O ((Tm.ok_mk.1 I).1 _ (by simp))
 | @run _ _ _ _ _ _ _ _ _ i _ O=>exact λI=>mk i λx J=>by rw [oY] at J;subst J;exact O ((Tm.ok_mk.1 I).1 _ (by simp))
 | @lift _ _ _ _ _ _ _ _ _ i _ _ _ O=>exact λI=>mk i λx J=>by rw [oY] at J;subst J;exact O ((Tm.ok_mk.1 I).1 _ (by simp))
end Go.Proofs.YtnmnahkkcfghjaaGreat
