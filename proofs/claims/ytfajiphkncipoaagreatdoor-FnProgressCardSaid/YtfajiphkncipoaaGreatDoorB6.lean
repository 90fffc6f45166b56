/- Typings: which name is bound to what. -/
import Derived.Test.YtfajiphkncipoaaGreatDoorA3
import Derived.Test.YtfajiphkncipoaaGreatDoorA7
import Derived.Test.YtfajiphkncipoaaGreatDoorB1
import Derived.Test.YtfajiphkncipoaaGreatDoorB3
set_option linter.unusedVariables false
set_option linter.unusedSimpArgs false
namespace Go.Proofs.YtfajiphkncipoaaGreatDoor
open Go Go.Proofs Go.Proofs.Tryz Go.IntWalk
theorem zKO {α:Type} {P:List α->Prop} (sN:P []) (sC:∀ l x,P l->P (l++[x])) (l:List α):P l:=by
 have key:∀ n,∀ l:List α,l.length=n->P l:=by
  intro n
  induction n with
  | zero=>intro l I;rw [oU I];exact sN
  | succ n O=>
    intro l I
    have J:l≠[]:=λhc=>by subst hc;simp at I
    rw [<-List.dropLast_concat_getLast J]
    exact sC _ _ (O _ (by simp [I]))
 exact key _ l rfl
theorem zDQ (g:List Tg) (y:Tg) (s:ByteArray):∀ n,n<=g.length->uF (g++[y]) s n=uF g s n
 | 0,_=>rfl
 | n+1,h=>by
   have e:(g++[y]).getD n tg0=g.getD n tg0:=by rw [oA,oA,oN (by omega)]
   simp only [uF,e,zDQ g y s n (by omega)]
theorem vp (g:List Tg) (y:Tg) (s:ByteArray) (n:Int):xW (g++[y]) s n=if y.nm=s then (if y.lv=n then some y.ty else none) else xW g s n:=by
 have e:(g++[y]).getD g.length tg0=y:=by simp [oA]
 have O:zL (g++[y]) s=if y.nm=s then (g.length:Int) else zL g s:=by
  unfold zL
  rw [oI,nk]
  simp only [uF,e,zDQ g y s _ (oD _)]
 unfold xW
 rw [O]
 by_cases hs:y.nm=s
 ·simp only [if_pos hs]
  rw [if_neg (by omega),oH,e]
 ·simp only [if_neg hs]
  by_cases I:zL g s<0
  ·rw [if_pos I,if_pos I]
  ·rw [if_neg I,if_neg I]
   have J:=zAd g s g.length
   have J:zL g s = -1\/(0<=zL g s/\zL g s<g.length):=J
   have U:(g++[y]).getD (zL g s).toNat tg0=g.getD (zL g s).toNat tg0:=by
    rw [oA,oA,oN (by omega)]
   rw [U]
theorem zL0 {s:ByteArray} (n:Int) (g:List Tg):(∀ y∈g,y.nm≠s)->xW g s n=none:=by
 induction g using zKO with
 | sN=>intro _;rfl
 | sC b q I=>intro h;rw [vp,if_neg (h q (by simp)),I λy J=>h y (by simp [J])]
/-- what the last typing of a name is -/
theorem zHi (g:List Tg) (s:ByteArray):∀ n,uF g s n = -1\/(g.getD (uF g s n).toNat tg0).nm=s
 | 0=>.inl rfl
 | n+1=>by
   simp only [uF]
   split
   ·rename_i h
    right
    rw [oH];exact h
   ·exact zHi g s n
theorem zD3 (g:List Tg) (n:Int) (y:Tg):∀ (l:List Tg) (i:Nat),ww g n (l++[y]) i=ww g n l i++(if qY g n y (i+l.length) then [y] else [])
 | [],i=>by simp [ww]
 | x::xs,i=>by
   have h:=zD3 g n y xs (i+1)
   simp only [o5,ww,h,oM]
   rw [show i+1+xs.length=i+(xs.length+1) by omega]
   split<;>simp
/-- what is safe: names of base types of levels not above -/
theorem zFF (g:List Tg) (s:ByteArray) (n m:Int):xW (sd g n) s m=(match xW g s m with | some t=>if m<=n/\t.base=true then some t else none | none=>none):=by
 have key:∀ b:List Tg,∀ r,g=b++r->xW (ww g n b 0) s m=if 0<=zL g s/\zL g s<b.length then (match xW g s m with | some t=>if m<=n/\t.base=true then some t else none | none=>none) else none:=by
  intro b
  induction b using zKO with
  | sN=>
    intro r _
    rw [if_neg (by simp)];rfl
  | sC b y U=>
    intro r hr
    have hg:g.getD b.length tg0=y:=by rw [hr];simp [oA]
    have O:=zHi g s g.length
    have O:zL g s = -1\/(g.getD (zL g s).toNat tg0).nm=s:=O
    rw [zD3,o6,oI,nk]
    have U:=U (y::r) (by simp [hr])
    have pos:zL g s<=b.length->0<=zL g s->(0<=zL g s/\zL g s<((b.length+1:Nat):Int)):=λh1 h2=>by omega
    have neg:¬(0<=zL g s/\zL g s<(b.length:Int))->zL g s≠b.length->¬(0<=zL g s/\zL g s<((b.length+1:Nat):Int)):=λh1 h2 h3=>h1 (by omega)
    by_cases J:y.nm=s
    ·by_cases hl:zL g s=b.length
     ·have hv:xW g s m=if y.lv=m then some y.ty else none:=by
       unfold xW
       rw [if_neg (by omega),hl,oH,hg]
      rw [if_pos (pos (by omega) (by omega)),hv]
      rw [if_neg (by omega)] at U
      have hs:qY g n y b.length=(y.ty.base&&decide (y.lv<=n)):=by
       unfold qY;rw [J];simp [hl]
      rw [hs]
      by_cases hb:y.ty.base=true/\y.lv<=n
      ·rw [if_pos (by simp [hb]),vp,if_pos J]
       by_cases Y:y.lv=m
       ·rw [if_pos Y];simp only;rw [if_pos ⟨by omega,hb.1⟩]
       ·rw [if_neg Y]
      ·rw [if_neg (by simpa using hb),nD,U]
       by_cases Y:y.lv=m
       ·rw [if_pos Y];simp only;rw [if_neg λh=>hb ⟨h.2,by omega⟩]
       ·rw [if_neg Y]
     ·have hs:qY g n y b.length=false:=by unfold qY;rw [J];simp [hl]
      rw [hs]
      simp only [mc,na,nD]
      rw [U]
      by_cases I:0<=zL g s/\zL g s<b.length
      ·rw [if_pos I,if_pos (pos (by omega) I.1)]
      ·rw [if_neg I,if_neg (neg I hl)]
    ·have e:xW (ww g n b 0++if qY g n y b.length=true then [y] else []) s m=xW (ww g n b 0) s m:=by
      split
      ·rw [vp,if_neg J]
      ·rw [nD]
     rw [e,U]
     have aa:zL g s≠b.length:=λh=>by
      rcases O with h1 | h1
      ·omega
      ·rw [h,oH,hg] at h1;exact J h1
     by_cases I:0<=zL g s/\zL g s<b.length
     ·rw [if_pos I,if_pos (pos (by omega) I.1)]
     ·rw [if_neg I,if_neg (neg I aa)]
 have h:=key g [] (by simp)
 have ab:zL g s = -1\/(0<=zL g s/\zL g s<g.length):=zAd g s g.length
 unfold sd
 rw [h]
 by_cases I:0<=zL g s/\zL g s<g.length
 ·rw [if_pos I]
 ·rw [if_neg I]
  have:xW g s m=none:=by unfold xW;rw [if_pos (by omega)]
  rw [this]
/-- what a context says, another says -/
def Ext (g g':List Tg):Prop:=∀ s n t,xW g s n=some t->xW g' s n=some t
theorem Ext.snoc {g g':List Tg} (h:Ext g g') (y:Tg):Ext (g++[y]) (g'++[y]):=λs n t I=>by
 rw [vp] at I ⊢
 split
 ·rename_i hs;rw [if_pos hs] at I;exact I
 ·rename_i hs;rw [if_neg hs] at I;exact h s n t I
/-- the free names of a typed term are bound -/
def Bnd (g:List Tg) (s:ByteArray):Prop:=∃ m t,xW g s m=some t
theorem Bnd.snoc {g:List Tg} {y:Tg} {s:ByteArray} (h:Bnd (g++[y]) s) (hs:y.nm≠s):Bnd g s:=by
 obtain ⟨m,t,h⟩:=h
 rw [vp,if_neg hs] at h
 exact ⟨m,t,h⟩
theorem Bnd.safe {g:List Tg} {n:Int} {s:ByteArray} (h:Bnd (sd g n) s):Bnd g s:=by
 obtain ⟨m,t,h⟩:=h
 rw [zFF] at h
 cases I:xW g s m with
 | none=>rw [I] at h;cases h
 | some u=>exact ⟨m,u,I⟩
abbrev Rho:=ByteArray->Int->Option Ty
def Rho.set (r:Rho) (x:ByteArray) (n:Int) (t:Ty):Rho:=λs m=>if x=s then (if n=m then some t else none) else r s m
def Rho.safe (r:Rho) (n:Int):Rho:=λs m=>match r s m with
 | some t=>if m<=n/\t.base=true then some t else none
 | none=>none
inductive HT:Rho->Tm->Int->Ty->Prop
 | var {r nm ot m ty re l n u}:r nm n=some u->u.valid=true->HT r (.mk 1 nm ot m ty re l) n u
 | int {r nm ot m ty re l n}:HT r (.mk 2 nm ot m ty re l) n tInt
 | bool {r nm ot m ty re l n}:HT r (.mk 3 nm ot m ty re l) n tBool
 | op {r nm ot m ty re l n}:(∀ x∈l,HT r x n (if zGg nm=1 then tInt else tBool))->HT r (.mk 4 nm ot m ty re l) n (zBB nm)
 | ite {r nm ot m ty re a b c n u}:HT r a n tBool->HT r b n u->HT r c n u->HT r (.mk 5 nm ot m ty re [a,b,c]) n u
 | lam {r nm ot m ty re b n v}:HT (r.set nm n ty) b n v->(vP ty v).valid=true->HT r (.mk 6 nm ot m ty re [b]) n (vP ty v)
 | app {r nm ot m ty re f x n a b}:HT r f n (vP a b)->HT r x n a->HT r (.mk 7 nm ot m ty re [f,x]) n b
 | lt {r nm ot m ty re a b n t u}:HT r a n t->HT (r.set nm n t) b n u->HT r (.mk 8 nm ot m ty re [a,b]) n u
 | fix {r nm ot m ty re b n}:nm≠ot->HT ((r.set nm n (vP ty re)).set ot n ty) b n re->(vP ty re).valid=true->HT r (.mk 9 nm ot m ty re [b]) n (vP ty re)
 | quote {r nm ot m ty re b n t}:HT r b (n+1) t->(xN t).valid=true->HT r (.mk 10 nm ot m ty re [b]) n (xN t)
 | splice {r nm ot m ty re b n t}:HT r b (n - 1) (xN t)->HT r (.mk 11 nm ot m ty re [b]) n t
 | run {r nm ot m ty re b n t}:HT (r.safe n) b n (xN t)->HT r (.mk 12 nm ot m ty re [b]) n t
 | lift {r nm ot m ty re b n t}:HT r b n t->t.base=true->(xN t).valid=true->HT r (.mk 13 nm ot m ty re [b]) n (xN t)
theorem zHY {t:Ty} (I:t.cnt<=30) (J:t.dep<=8) (O:t.form=true):t.valid=true:=by
 simp only [Ty.valid,oJ,nM];exact ⟨⟨I,J⟩,O⟩
theorem zKR {t:Ty} (h:t.valid=true):t.cnt<=30/\t.dep<=8/\t.form=true:=by
 simp only [Ty.valid,oJ,nM] at h;exact ⟨h.1.1,h.1.2,h.2⟩
theorem zFv {t:Ty} (h:(xN t).valid=true):t.valid=true:=by
 obtain ⟨O,U,I⟩:=zKR h
 have e1:(xN t).cnt=1+(t.cnt+0):=rfl
 have Y:(xN t).dep=max t.dep 0+1:=rfl
 have J:(xN t).form=(wO [t]&&t8 4 1):=rfl
 rw [J] at I
 simp only [wO,oJ] at I
 exact zHY (by omega) (by omega) I.1.1
theorem zMx {a b:Ty} (h:(vP a b).valid=true):a.valid=true/\b.valid=true:=by
 obtain ⟨O,U,I⟩:=zKR h
 have e1:(vP a b).cnt=1+(a.cnt+(b.cnt+0)):=rfl
 have Y:(vP a b).dep=max a.dep (max b.dep 0)+1:=rfl
 have J:(vP a b).form=(wO [a,b]&&t8 3 2):=rfl
 rw [J] at I
 simp only [wO,oJ] at I
 exact ⟨zHY (by omega) (by omega) I.1.1,zHY (by omega) (by omega) I.1.2.1⟩
theorem zJk (s:ByteArray):(zBB s).valid=true:=by unfold zBB;(repeat' split)<;>decide
theorem HT.valid {r:Rho} {e:Tm} {n:Int} {u:Ty} (h:HT r e n u):u.valid=true:=by
 induction h with
 | var _ h=>exact h
 | int=>decide
 | bool=>decide
 | op _ _=>exact zJk _
 | ite _ _ _ _ I _=>exact I
 | lam _ h _=>exact h
 | app _ _ I _=>exact (zMx I).2
 | lt _ _ _ I=>exact I
 | fix _ _ h _=>exact h
 | quote _ h _=>exact h
 | splice _ I=>exact zFv I
 | run _ I=>exact zFv I
 | lift _ _ h _=>exact h
theorem zCo (g:List Tg) (y:Tg):xW (g++[y])=Rho.set (xW g) y.nm y.lv y.ty:=by
 funext s m;rw [vp];rfl
theorem zO6 (g:List Tg) (n:Int):xW (sd g n)=Rho.safe (xW g) n:=by
 funext s m;rw [zFF];rfl
theorem zC4 {t:Ty} (h:t.valid=true) (I:t.k=1\/t.k=2):t=if t.k=1 then tInt else tBool:=by
 cases t with
 | mk k l=>
 have I:k=1\/k=2:=I
 simp only [Ty.valid,Ty.form,oJ] at h
 have J:=h.2.2
 unfold t8 at J
 rw [if_pos I] at J
 have:l=[]:=oU (by have:=nj.1 J;omega)
 subst this
 rcases I with rfl | rfl<;>rfl
theorem zOq {t:Ty} (h:t.valid=true) (I:t.k=3):∃ a b,t=vP a b:=by
 cases t with
 | mk k l=>
 have I:k=3:=I
 subst I
 simp only [Ty.valid,Ty.form,oJ] at h
 have J:=h.2.2
 unfold t8 at J
 rw [if_neg (by decide),if_pos rfl] at J
 have:l.length=2:=by have:=nj.1 J;omega
 match l,this with
 | [a,b],_=>exact ⟨a,b,rfl⟩
theorem zIH {t:Ty} (h:t.valid=true) (I:t.k=4):∃ a,t=xN a:=by
 cases t with
 | mk k l=>
 have I:k=4:=I
 subst I
 simp only [Ty.valid,Ty.form,oJ] at h
 have J:=h.2.2
 unfold t8 at J
 rw [if_neg (by decide),if_neg (by decide),if_pos rfl] at J
 have:l.length=1:=by have:=nj.1 J;omega
 match l,this with
 | [a],_=>exact ⟨a,rfl⟩
theorem len1 {l:List Tm} (h:l.length=1):∃ b,l=[b]:=by
 match l,h with
 | [b],_=>exact ⟨b,rfl⟩
theorem zTE {l:List Tm} (h:l.length=2):∃ a b,l=[a,b]:=by
 match l,h with
 | [a,b],_=>exact ⟨a,b,rfl⟩
theorem zTQ {l:List Tm} (h:l.length=3):∃ a b c,l=[a,b,c]:=by
 match l,h with
 | [a,b,c],_=>exact ⟨a,b,c,rfl⟩
theorem zP6 (s:ByteArray):zGg s=1\/zGg s=2:=by unfold zGg;(repeat' split)<;>simp
theorem zK0 {w:Int}:∀ {I:List Ty},zPB w I=true->∀ t∈I,t.k=w
 | [],_,t,ht=>by simp at ht
 | x::I,h,t,ht=>by
   simp only [zPB,oJ,nj,nM] at h
   rcases oF.1 ht with rfl | ht
   ·exact h.1
   ·exact zK0 h.2 t ht
theorem zDZ {g:List Tg} {n:Int}:∀ {l:List Tm} {us:List Ty},wF l g n=some us->∀ x∈l,∃ u∈us,x.type g n=some u
 | [],us,h,x,hx=>by simp at hx
 | y :: l,us,h,x,hx=>by
   simp only [wF] at h
   split at h
   ·rename_i u J
    split at h
    ·rename_i vs I
     cases h
     rcases oF.1 hx with rfl | hx
     ·exact ⟨u,by simp,J⟩
     ·obtain ⟨v,O,U⟩:=zDZ I x hx
      exact ⟨v,by simp [O],U⟩
    ·cases h
   ·cases h
theorem zLh:∀ (t:Tm),t.ok=true->∀ (g:List Tg) (n:Int) (u:Ty),t.type g n=some u->HT (xW g) t n u:=by
 refine Tm.ind λk nm ot m ty re l U aa g n u h=>?_
 have nd:=yz aa
 have O:=nd.ar
 have ab:=zCr (k:=k) (nm:=nm) (by omega)
 simp only [Tm.type] at h
 obtain ⟨h,hv⟩:=zK3 h
 have sub:=nd.sub
 rcases ab with rfl | rfl | rfl | rfl | rfl | rfl | rfl | rfl | rfl | rfl | rfl | rfl | rfl
 ·exact .var h hv
 ·cases h;exact .int
 ·cases h;exact .bool
 ·have h:(match wF l g n with | some ts=>wI 4 nm ts | none=>none)=some u:=h
  split at h
  ·rename_i ts ae
   have h:zPw nm ts=some u:=h
   unfold zPw at h
   split at h
   ·rename_i ac
    cases h
    refine .op λx hx=>?_
    obtain ⟨v,ah,I⟩:=zDZ ae x hx
    have hk:=zK0 ac v ah
    have Y:=zC4 (Tm.type_valid I) (by rw [hk];exact zP6 nm)
    rw [hk] at Y
    rw [<-Y]
    exact U x hx (sub x hx) g n v I
   ·cases h
  ·cases h
 ·have hl:l.length=3:=by have:(l.length:Int)=3:=O;omega
  obtain ⟨a,b,c,rfl⟩:=zTQ hl
  have h:(match wF [a,b,c] g n with | some ts=>wI 5 nm ts | none=>none)=some u:=h
  simp only [wF] at h
  cases ha:a.type g n with
  | none=>rw [ha] at h;cases h
  | some ta=>
  cases Y:b.type g n with
  | none=>rw [ha,Y] at h;cases h
  | some tb=>
  cases hc:c.type g n with
  | none=>rw [ha,Y,hc] at h;cases h
  | some tc=>
  rw [ha,Y,hc] at h
  have h:wI 5 nm [ta,tb,tc]=some u:=h
  unfold wI at h
  rw [if_neg (by decide),if_pos rfl] at h
  split at h
  ·rename_i J
   cases h
   simp only [ms,List.getD_cons_succ] at J ⊢
   obtain ⟨c1,c2⟩:ta.k=2/\zCg tb tc=true:=by
    first | exact ⟨by simpa using J.1,by simpa using J.2⟩ | (simp at J;exact J)
   have e2:=(zAL tb tc).1 c2
   subst e2
   have e1:=zC4 (Tm.type_valid ha) (.inr c1)
   rw [if_neg (by omega)] at e1
   subst e1
   exact .ite (U a (by simp) (sub a (by simp)) g n _ ha) (U b (by simp) (sub b (by simp)) g n _ Y) (U c (by simp) (sub c (by simp)) g n _ hc)
  ·cases h
 ·obtain ⟨b,rfl⟩:=len1 (l:=l) (by have:(l.length:Int)=1:=O;omega)
  have h:(match b.type (g++[⟨nm,ty,n⟩]) n with | some b=>some (vP ty b) | none=>none)=some u:=h
  split at h
  ·rename_i v I
   cases h
   have:=U b (by simp) (sub b (by simp)) _ n v I
   rw [zCo] at this
   exact .lam this hv
  ·cases h
 ·obtain ⟨f,x,rfl⟩:=zTE (l:=l) (by have:(l.length:Int)=2:=O;omega)
  have h:(match wF [f,x] g n with | some ts=>wI 7 nm ts | none=>none)=some u:=h
  simp only [wF] at h
  cases ha:f.type g n with
  | none=>rw [ha] at h;cases h
  | some ta=>
  cases Y:x.type g n with
  | none=>rw [ha,Y] at h;cases h
  | some tb=>
  rw [ha,Y] at h
  have h:wI 7 nm [ta,tb]=some u:=h
  unfold wI at h
  rw [if_neg (by decide),if_neg (by decide)] at h
  split at h
  ·rename_i J
   cases h
   simp only [ms,List.getD_cons_succ] at J ⊢
   obtain ⟨c1,c2⟩:ta.k=3/\zCg (ta.as.getD 0 tZero) tb=true:=by
    first | exact ⟨by simpa using J.1,by simpa using J.2⟩ | (simp at J;exact J)
   obtain ⟨a1,b1,rfl⟩:=zOq (Tm.type_valid ha) c1
   have e2:=(zAL _ _).1 c2
   have e2:a1=tb:=e2
   subst e2
   exact .app (U f (by simp) (sub f (by simp)) g n _ ha) (U x (by simp) (sub x (by simp)) g n _ Y)
  ·cases h
 ·obtain ⟨a,b,rfl⟩:=zTE (l:=l) (by have:(l.length:Int)=2:=O;omega)
  have h:(match a.type g n with | some a=>b.type (g++[⟨nm,a,n⟩]) n | none=>none)=some u:=h
  split at h
  ·rename_i v I
   have:=U b (by simp) (sub b (by simp)) _ n u h
   rw [zCo] at this
   exact .lt (U a (by simp) (sub a (by simp)) _ n v I) this
  ·cases h
 ·obtain ⟨b,rfl⟩:=len1 (l:=l) (by have:(l.length:Int)=1:=O;omega)
  have h:(match b.type ((g++[⟨nm,vP ty re,n⟩])++[⟨ot,ty,n⟩]) n with | some b=>if zCg b re then some (vP ty re) else none | none=>none)=some u:=h
  split at h
  ·rename_i v I
   split at h
   ·rename_i he
    cases h
    have:=U b (by simp) (sub b (by simp)) _ n v I
    rw [zCo,zCo,(zAL v re).1 he] at this
    exact .fix ((zPP (m:=1) (by decide) (Tm.ok_mk.1 aa).2.1).2 rfl).2 this hv
   ·cases h
  ·cases h
 ·obtain ⟨b,rfl⟩:=len1 (l:=l) (by have:(l.length:Int)=1:=O;omega)
  have h:(match b.type g (n+1) with | some t=>yO 10 t | none=>none)=some u:=h
  split at h
  ·rename_i v I
   have h:some (xN v)=some u:=h
   cases h
   exact .quote (U b (by simp) (sub b (by simp)) g (n+1) v I) hv
  ·cases h
 ·obtain ⟨b,rfl⟩:=len1 (l:=l) (by have:(l.length:Int)=1:=O;omega)
  have h:(match b.type g (n - 1) with | some t=>yO 11 t | none=>none)=some u:=h
  split at h
  ·rename_i v I
   have h:(if v.k=4 then some (v.as.getD 0 tZero) else none)=some u:=h
   split at h
   ·rename_i h4
    obtain ⟨a,rfl⟩:=zIH (Tm.type_valid I) h4
    cases h
    exact .splice (U b (by simp) (sub b (by simp)) g (n - 1) _ I)
   ·cases h
  ·cases h
 ·obtain ⟨b,rfl⟩:=len1 (l:=l) (by have:(l.length:Int)=1:=O;omega)
  have h:(match b.type (sd g n) n with | some t=>yO 12 t | none=>none)=some u:=h
  split at h
  ·rename_i v I
   have h:(if v.k=4 then some (v.as.getD 0 tZero) else none)=some u:=h
   split at h
   ·rename_i h4
    obtain ⟨a,rfl⟩:=zIH (Tm.type_valid I) h4
    cases h
    have:=U b (by simp) (sub b (by simp)) _ n _ I
    rw [zO6] at this
    exact .run this
   ·cases h
  ·cases h
 ·obtain ⟨b,rfl⟩:=len1 (l:=l) (by have:(l.length:Int)=1:=O;omega)
  have h:(match b.type g n with | some t=>yO 13 t | none=>none)=some u:=h
  split at h
  ·rename_i v I
   have h:(if v.base then some (xN v) else none)=some u:=h
   split at h
   ·rename_i Y
    cases h
    exact .lift (U b (by simp) (sub b (by simp)) g n v I) Y hv
   ·cases h
  ·cases h
end Go.Proofs.YtfajiphkncipoaaGreatDoor
