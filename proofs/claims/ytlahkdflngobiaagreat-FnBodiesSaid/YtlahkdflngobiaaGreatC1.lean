/- Steps: what they come to (no program in sight). -/
import Derived.Test.YtlahkdflngobiaaGreatB7
import Derived.Test.YtlahkdflngobiaaGreatB2
import Derived.Test.YtlahkdflngobiaaGreatB3
import Derived.Test.YtlahkdflngobiaaGreatKg
set_option linter.unusedVariables false
set_option linter.unusedSimpArgs false
namespace Go.Proofs.YtlahkdflngobiaaGreat
open Go Go.Proofs Go.Proofs.Tryz Go.IntWalk
def zNG (k n:Int):Tm:=.mk k (bytes []) (bytes []) n (.mk 0 []) (.mk 0 []) []
def Tm.kd:Tm->Int | .mk k _ _ _ _ _ _=>k
def Tm.no:Tm->Int | .mk _ _ _ n _ _ _=>n
def Tm.nm:Tm->ByteArray | .mk _ nm _ _ _ _ _=>nm
def Tm.ot:Tm->ByteArray | .mk _ _ ot _ _ _ _=>ot
def Tm.pt:Tm->Nat->Tm | .mk _ _ _ _ _ _ l,i=>l.getD i tm0
def Tm.wth:Tm->Nat->Tm->Tm | .mk k nm ot n ty re l,i,x=>.mk k nm ot n ty re (l.set i x)
mutual
/-- no splice of level 1 -/
def Tm.made:Tm->Int->Bool
 | .mk k _ _ _ _ _ l,n=>!(k==11&&n==1)&&zAC l (zN k n)
def zAC:List Tm->Int->Bool
 | [],_=>true
 | t::I,n=>t.made n&&zAC I n
end
def zQb (k:Int):Bool:=k==2||(k==3||(k==6||k==9))
/-- a result, of what is a term -/
def Tm.res (t:Tm):Bool:=zQb t.kd||(t.kd==10&&(t.lev 0&&(t.pt 0).made 1))
def zAp (s:ByteArray):Bool:=decide (s=bytes [38])||(decide (s=bytes [124])||decide (s=bytes [33]))
def zJL (s:ByteArray):Bool:=decide (s=bytes [43])||(decide (s=bytes [45])||decide (s=bytes [42]))
def vh (nm:ByteArray):Int:=if zAp nm then 3 else 2
def zDQ (nm:ByteArray):Int:=if zJL nm then 2 else 3
/-- an operation of literals -/
def Tm.opr (e:Tm) (l:List Tm):Tm × Int:=
 if l.all (λx=>x.kd==vh e.nm) then
  (zNG (zDQ e.nm) (yF e.nm (l.getD 0 tm0).no (l.getD 1 tm0).no).1,1)
 else (e,0)
def Tm.sb (e:Tm) (x:ByteArray) (b:Tm):Tm:=e.sub e.dp x b
/-- the rule for a form whose parts that must be are results -/
def Tm.apl:Tm->Tm × Int
 | .mk k nm ot n ty re l=>
   if k=4 then (Tm.mk k nm ot n ty re l).opr l
   else if k=5 then (if (l.getD 0 tm0).kd=3 then (l.getD (2 - (l.getD 0 tm0).no).toNat tm0,2) else (.mk k nm ot n ty re l,0))
   else if k=7 then
    (if (l.getD 0 tm0).kd=6 then (((l.getD 0 tm0).pt 0).sb (l.getD 0 tm0).nm (l.getD 1 tm0),3)
    else if (l.getD 0 tm0).kd=9 then ((((l.getD 0 tm0).pt 0).sb (l.getD 0 tm0).nm (l.getD 0 tm0)).sb (l.getD 0 tm0).ot (l.getD 1 tm0),4)
    else (.mk k nm ot n ty re l,0))
   else if k=8 then ((l.getD 1 tm0).sb nm (l.getD 0 tm0),5)
   else if k=12 then (if (l.getD 0 tm0).kd=10 then ((l.getD 0 tm0).pt 0,7) else (.mk k nm ot n ty re l,0))
   else if k=13 then (if (l.getD 0 tm0).kd=2\/(l.getD 0 tm0).kd=3 then (Tm.nod 10 [l.getD 0 tm0],8) else (.mk k nm ot n ty re l,0))
   else (.mk k nm ot n ty re l,0)
/-- how many parts must be results -/
def zFO (k:Int) (n:Nat):Nat:=if k=4\/k=7 then n else if k=5\/k=8\/k=12\/k=13 then 1 else 0
/-- the first part that is no result, stepped -/
def goS (S:Tm->Tm × Int) (e:Tm):List Tm->Nat->Option (Tm × Int)
 | [],_=>none
 | x::xs,i=>if x.res then goS S e xs (i+1) else some (e.wth i (S x).1,(S x).2)
/-- a splice of level 1 -/
def zSr (S:Tm->Tm × Int) (e:Tm):Tm × Int × Bool:=
 if (e.pt 0).res then (if (e.pt 0).kd=10 then ((e.pt 0).pt 0,6,true) else (e,0,true)) else (e.wth 0 (S (e.pt 0)).1,(S (e.pt 0)).2,true)
mutual
/-- the first splice of level 1 in a part at a level -/
def Tm.cod (S:Tm->Tm × Int):Tm->Int->Tm × Int × Bool
 | .mk k nm ot n ty re l,m=>if k=11/\m=1 then zSr S (.mk k nm ot n ty re l) else
   match xC S l (zN k m) with
   | none=>(.mk k nm ot n ty re l,0,false)
   | some (l',r)=>(.mk k nm ot n ty re l',r,true)
def xC (S:Tm->Tm × Int):List Tm->Int->Option (List Tm × Int)
 | [],_=>none
 | t::I,m=>if (t.cod S m).2.2 then some ((t.cod S m).1::I,(t.cod S m).2.1) else
   match xC S I m with
   | none=>none
   | some (l',r)=>some (t::l',r)
end
def Tm.stp:Nat->Tm->Tm × Int
 | 0,e=>(e,0)
 | f+1,e=>if e.res then (e,0) else if e.kd=10 then (e.wth 0 ((e.pt 0).cod (Tm.stp f) 1).1,((e.pt 0).cod (Tm.stp f) 1).2.1)
   else match e with
    | .mk k nm ot n ty re l=>match goS (Tm.stp f) (.mk k nm ot n ty re l) (l.take (zFO k l.length)) 0 with
      | some r=>r
      | none=>(Tm.mk k nm ot n ty re l).apl
theorem zL4 (e:Tm) (i:Nat):e.wth i (e.pt i)=e:=by
 cases e with
 | mk k nm ot n ty re l=>
 simp only [Tm.wth,Tm.pt]
 congr 1
 apply nH
 intro j
 rw [nM]
 split
 ·rename_i h
  subst h
  split
  ·rename_i h;rw [zy h]
  ·rename_i h;rw [oV (by omega)]
 ·rfl
/-- no rule, no other term -/
def NoR (S:Tm->Tm × Int):Prop:=∀ x,(S x).2=0->(S x).1=x
theorem zTE {S:Tm->Tm × Int} (hS:NoR S):∀ (t:Tm) (m:Int),(t.cod S m).2.1=0->(t.cod S m).1=t:=by
 refine Tm.ind λk nm ot n ty re l ih m h=>?_
 simp only [Tm.cod] at h ⊢
 by_cases U:k=11/\m=1
 ·rw [if_pos U] at h ⊢
  unfold zSr at h ⊢
  split
  ·rename_i I
   rw [if_pos I] at h
   split
   ·rename_i J;rw [if_pos J] at h;exact absurd (show (6:Int)=0 from h) (by decide)
   ·rfl
  ·rename_i I
   rw [if_neg I] at h
   simp only at h ⊢
   rw [hS _ h,zL4]
 ·rw [if_neg U] at h ⊢
  have key:∀ xs:List Tm,(∀ x∈xs,x∈l)->∀ l' r,xC S xs (zN k m)=some (l',r)->r=0->l'=xs:=by
   intro xs
   induction xs with
   | nil=>intro _ l' r h;simp [xC] at h
   | cons x xs O=>
     intro Y l' r h hr
     simp only [xC] at h
     split at h
     ·cases h
      rw [ih x (Y x (by simp)) _ hr]
     ·split at h
      ·cases h
      ·rename_i l2 r2 J
       cases h
       rw [O (λy hy=>Y y (by simp [hy])) _ _ J hr]
  cases hc:xC S l (zN k m) with
  | none=>rfl
  | some p=>
    obtain ⟨l',r⟩:=p
    rw [hc] at h
    simp only at h ⊢
    rw [key l (λx hx=>hx) l' r hc h]
theorem zQ9 {S:Tm->Tm × Int} (J:NoR S) {e:Tm}:∀ {l:List Tm} {i:Nat} {r:Tm × Int},goS S e l i=some r->(∀ j x,l[j]?=some x->e.pt (i+j)=x)->r.2=0->r.1=e
 | [],_,_,h,_,_=>by simp [goS] at h
 | x::l,i,r,h,O,I=>by
   simp only [goS] at h
   split at h
   ·exact zQ9 J h (λj y U=>by rw [show i+1+j=i+(j+1) by omega];exact O (j+1) y (by simpa using U)) I
   ·cases h
    simp only at I ⊢
    rw [J x I]
    have:=O 0 x rfl
    rw [mi] at this
    rw [<-this,zL4]
theorem zS8 {c:Prop} [Decidable c] {x y:Tm × Int} {e:Tm} (I:x.2=0->x.1=e) (J:y.2=0->y.1=e) (h:(if c then x else y).2=0):(if c then x else y).1=e:=by
 by_cases hc:c
 ·rw [if_pos hc] at h ⊢;exact I h
 ·rw [if_neg hc] at h ⊢;exact J h
theorem zUY {t e:Tm} {r:Int} (I:r≠0) (h:((t,r):Tm × Int).2=0):((t,r):Tm × Int).1=e:=absurd h I
theorem zTd (e:Tm) (h:e.apl.2=0):e.apl.1=e:=by
 cases e with
 | mk k nm ot n ty re l=>
 revert h
 simp only [Tm.apl,Tm.opr]
 repeat' first | exact λh=>zUY (by decide) h | exact λ_=>rfl | refine zS8 ?_ ?_
theorem zRT:∀ f,NoR (Tm.stp f)
 | 0,e,_=>rfl
 | f + 1,.mk k nm ot n ty re l,h=>by
   have O:=zRT f
   simp only [Tm.stp] at h ⊢
   split
   ·rfl
   ·rename_i Y
    rw [if_neg Y] at h
    by_cases U:(Tm.mk k nm ot n ty re l).kd=10
    ·rw [if_pos U] at h ⊢
     simp only at h ⊢
     rw [zTE O _ _ h,zL4]
    ·rw [if_neg U] at h ⊢
     cases J:goS (Tm.stp f) (Tm.mk k nm ot n ty re l) (l.take (zFO k l.length)) 0 with
     | none=>
       rw [J] at h
       exact zTd _ h
     | some r=>
       rw [J] at h
       refine zQ9 O J (λj x I=>?_) h
       rw [nU]
       rw [oZ] at I
       split at I
       ·simp only [Tm.pt];rw [oA,I];rfl
       ·cases I
/-- one step of a program -/
def Tm.step (e:Tm):Tm × Int:=if zDU e 0 then (if (e.stp e.dp).2=0 then (e,0) else e.stp e.dp) else (e,0)
theorem zJT:∀ {l:List D} {j:Nat} {x:D} {b:Nat},b∈zD (l.set j x)->b∈zD l\/b∈x.foot
 | [],j,x,b,h=>by simp [zD] at h
 | a::l,0,x,b,h=>by
   simp only [mH,zD,oK] at h ⊢
   rcases h with h | h
   ·exact .inr h
   ·exact .inl (.inr h)
 | a::l,j+1,x,b,h=>by
   simp only [mQ,zD,oK] at h ⊢
   rcases h with h | h
   ·exact .inl (.inl h)
   ·rcases zJT h with h | h
    ·exact .inl (.inr h)
    ·exact .inr h
theorem zL6 {N N1 N2 N3:Nat} {x:D} (I:Own N2 N3 x) (h1:N<=N2) (h2:N1<=N2) (h3:N2<=N3):∀ {l:List D} {j:Nat},OwnL N N1 l->OwnL N N3 (l.set j x)
 | [],j,h=>by simp only [List.set_nil];exact h.mono (oD _) (by omega)
 | a::l,0,h=>by
   have J:=h.nd
   simp only [zD,nN] at J
   simp only [mH]
   refine ⟨?_,⟨I.fl,h.fl.2⟩,λb hb=>?_,λb hb=>?_⟩
   ·simp only [zD,nN]
    refine ⟨I.nd,J.2.1,λu U v hv O=>?_⟩
    have:=I.lo u U
    have:=h.hi v (by simp only [zD,oK];exact .inr hv)
    omega
   ·simp only [zD,oK] at hb
    rcases hb with hb | hb
    ·have:=I.lo b hb;omega
    ·exact h.lo b (by simp only [zD,oK];exact .inr hb)
   ·simp only [zD,oK] at hb
    rcases hb with hb | hb
    ·exact I.hi b hb
    ·have:=h.hi b (by simp only [zD,oK];exact .inr hb);omega
 | a :: l,j+1,h=>by
   have J:=h.nd
   simp only [zD,nN] at J
   have hl:OwnL N N1 l:=⟨J.2.1,h.fl.2,λb hb=>h.lo b (by simp only [zD,oK];exact .inr hb),λb hb=>h.hi b (by simp only [zD,oK];exact .inr hb)⟩
   have Y:=zL6 I h1 h2 h3 (l:=l) (j:=j) hl
   simp only [mQ]
   refine ⟨?_,⟨h.fl.1,Y.fl⟩,λb hb=>?_,λb hb=>?_⟩
   ·simp only [zD,nN]
    refine ⟨J.1,Y.nd,λu U v hv O=>?_⟩
    rcases zJT hv with hv | hv
    ·exact J.2.2 u U v hv O
    ·have:=I.lo v hv
     have:=h.hi u (by simp only [zD,oK];exact .inl U)
     omega
   ·simp only [zD,oK] at hb
    rcases hb with hb | hb
    ·exact h.lo b (by simp only [zD,oK];exact .inl hb)
    ·exact Y.lo b hb
   ·simp only [zD,oK] at hb
    rcases hb with hb | hb
    ·have:=h.hi b (by simp only [zD,oK];exact .inl hb);omega
    ·exact Y.hi b hb
/-- behind four cells -/
theorem zJY {N N1 N2 N3:Nat} {x I J O U:D} {es:List D} {j:Nat} (h:OwnL N N1 ([I,J,O,U]++es)) (Y:Own N2 N3 x) (h1:N<=N2) (h2:N1<=N2) (h3:N2<=N3):OwnL N N3 ([I,J,O,U]++es.set j x):=
 zL6 Y h1 h2 h3 (l:=[I,J,O,U]++es) (j:=j+4) h
theorem zBv:∀ {u v:List D},xD (u++v)->xD u/\xD v
 | [],v,h=>⟨trivial,h⟩
 | x::u,v,h=>⟨⟨h.1,(zBv h.2).1⟩,(zBv h.2).2⟩
theorem zPr {N0 N1 N3:Nat} {hd es ds:List D} {a:Option Addr} {z c:Nat} (h:OwnL N0 N1 (hd++es)) (J:Fresh N0 N3 a (.ag es::(hd++ds))) (hN:N1<=N3):OwnL N0 N3 (hd++[.sl a z es c]):=by
 obtain ⟨Y,aa⟩:=zBv h.fl
 have U:=h.nd
 rw [zB,nN] at U
 have e:zD (hd++[D.sl a z es c])=zD hd++(D.sl a z es c).foot:=by simp only [zB,zD,nR]
 have hE:∀ ad,a=some ad->ad.block∉zD es:=λad h=>J.ap ad h (.ag es) (by simp)
 have hH:∀ ad,a=some ad->ad.block∉zD hd:=λad h hc=>by
  obtain ⟨d,ab,hb⟩:=zL.1 hc
  exact J.ap ad h d (by simp [ab]) hb
 refine ⟨?_,yZ Y ⟨⟨λad h=>J.off ad h,aa⟩,trivial⟩,λb hb=>?_,λb hb=>?_⟩
 ·rw [e,nN]
  refine ⟨U.1,zG0 U.2.1 hE,λx hx y hy ac=>?_⟩
  subst ac
  rcases xJ x hy with I | ⟨ad,I,O⟩
  ·exact U.2.2 x hx x I rfl
  ·subst O;exact hH ad I hx
 ·rw [e] at hb
  rcases oK.1 hb with hb | hb
  ·exact h.lo b (by rw [zB];exact oi _ hb)
  ·rcases xJ b hb with I | ⟨ad,I,O⟩
   ·exact h.lo b (by rw [zB];exact nK _ I)
   ·subst O;exact J.lo ad I
 ·rw [e] at hb
  rcases oK.1 hb with hb | hb
  ·have:=h.hi b (by rw [zB];exact oi _ hb);omega
  ·rcases xJ b hb with I | ⟨ad,I,O⟩
   ·have:=h.hi b (by rw [zB];exact nK _ I);omega
   ·subst O;exact J.hi ad I
theorem zHg {N N1 N2:Nat} {v0 v1 v2 Y:Value} {I J O U:D} {es:List D} {a:Option Addr} {c:Nat} (h:OwnL N N1 ([I,J,O,U]++es)) (hf:Fresh N N2 a [.ag es,I,J,O,U]) (hN:N1<=N2):Own N N2 (.ag [.lit v0,.lit v1,.lit v2,.lit Y,I,J,O,U,.sl a 9 es c]):=
 sB (zH (zH (zH (zH (zPr (hd:=[I,J,O,U]) (ds:=[]) h hf hN)))))
theorem zDY {α:Type} {R:α->D->Prop}:∀ {l:List α} {es:List D} {t:α} {d:D} {j:Nat},All2 R l es->R t d->All2 R (l.set j t) (es.set j d)
 | [],es,t,d,j,h,_=>by cases h;exact rfl
 | x::l,es,t,d,0,h,I=>by
   obtain ⟨y,ys,rfl,O,J⟩:=h
   exact ⟨_,_,rfl,I,J⟩
 | x::l,es,t,d,j+1,h,I=>by
   obtain ⟨y,ys,rfl,O,J⟩:=h
   exact ⟨_,_,rfl,O,zDY J I⟩
theorem zSb {α:Type} {T l:List α} {i:Nat} {t:α} (O:T.length=l.length) (hi:i<l.length) (I:T[i]?=some t):(T.take i++l.drop i).set i t=T.take (i+1)++l.drop (i+1):=by
 have J:(T.take i).length=i:=by rw [ou];omega
 rw [List.set_append_right _ _ (by omega),J,Nat.sub_self,nw hi,mH,zX I,nh]
 rfl
theorem zPj {α:Type} {T l:List α} {i:Nat} {t:α} (hi:i<l.length) (I:l[i]?=some t) (J:T[i]?=some t):T.take i++l.drop i=T.take (i+1)++l.drop (i+1):=by
 rw [nw hi,zX J,nh]
 rw [oE hi] at I
 rw [oT I]
 rfl
theorem ui {l:List Tm} {es:List D} (h:All2 Tm.Is l es) {j:Nat} (I:j<l.length):(l.getD j tm0).Is (es.getD j default):=by
 have:=h.get (zy I)
 exact this
def zTH (f:FuncId) (args:List PV) (t:Tm):Prop:=∀ (N:Nat) (Q:QT [.ag 9]),(∀ d N',N<=N'->t.Is d->Own N N' d->Q d N')->ACalls prog f [.ag 9] args N Q
/-- puts b for x, at terms of some depth -/
def zUE (F:FuncId) (f:Nat):Prop:=∀ (e:Tm) (d:D) (x:ByteArray) (b:Tm) (I:D),e.Is d->b.Is I->e.dp<=f->e.Z->b.Z->zTH F [.dg 9 d,.str x,.dg 9 I] (e.sub f x b)
theorem zRl {s:ByteArray} (hs:s.size<=4611686018427387904):(zEg s).Is (.ag [.j 1,.t s,.t (bytes []),.j 0,.j 0,.sl none 2 [] 0,.j 0,.sl none 2 [] 0,.sl none 9 [] 0]):=
 Tm.is_mk.2 ⟨_,_,_,_,_,_,_,rfl,⟨hs,by decide,Ty.is_mk.2 ⟨_,_,_,rfl,by simp,rfl⟩,Ty.is_mk.2 ⟨_,_,_,rfl,by simp,rfl⟩⟩,by simp,rfl⟩
theorem zMv {l:List ByteArray} (h:l.length<=8796093022208):(fresh l).size<=4611686018427387904:=by
 obtain ⟨k,e,_,I,_,_⟩:=t9 l
 rw [e]
 have:=zMt k (by omega)
 omega
theorem zMI (s:ByteArray) (l:List ByteArray):decide (pp (λx=>decide (x=s)) l 0≥0)=decide (s∈l):=by
 have h:=zD9 s l
 rw [nz,nT,nT] at h ⊢
 constructor
 ·intro J;exact mU.1 λI=>by have:=h.2 I;omega
 ·intro J;exact Int.not_lt.1 λI=>h.1 I J
/-- what a node binds, away from some names -/
theorem zOW {f:Nat} (hS:zUE 147 f) {k n0:Int} {nm ot:ByteArray} {ty re:Ty} {l:List Tm} {d:D} (hd:(Tm.mk k nm ot n0 ty re l).Is d) (hG:(Tm.mk k nm ot n0 ty re l).G) {j:Nat} (a4:xW k l.length=(j:Int))
  {p:Tm} (hp:l.getD j tm0=p) (cp:p.dp<=f) (hc:p.Z) (x:ByteArray) (fb:List ByteArray) (cq:fb.length<=2199023255552) (a:Option Addr) (c:Nat) (N:Nat) {T:ByteArray × ByteArray × Tm} (hT:rns (Tm.sub f) k l.length fb x (bdN k nm ot l.length) (nm,ot,p)=T)
  (Q:QT [.pk,.i,.str,.str,.i,.dc,.dc,.dc,.dc,.row 30 9]) (hQ:zFo (.mk k T.1 T.2.1 n0 ty re (l.set j T.2.2)) N Q) :
  ACalls prog 174 [.pk,.i,.str,.str,.i,.dc,.dc,.dc,.dc,.row 30 9] [.dg 9 d,.j (j:Int),.str x,.sv a 0 (zC fb) c] N Q:=by
 obtain ⟨t0,t1,r0,r1,a8,es,c8,rfl,hh,ca,a9⟩:=Tm.is_mk.1 hd
 have hl:=a9.len
 obtain ⟨g1,_⟩:=vL (k:=k) (n:=l.length) (by omega)
 rw [a4,oH] at g1
 have cr:=zER k nm ot l.length
 have ct:=zW (bdN k nm ot l.length)
 have cw:=hG.2.2.1
 refine zFR N _ _ x a _ c Q λ_ _ N1 ba=>qE _ _ hd hG N1 _ ?_
 simp only [zFo] at hQ ⊢
 intro x4 x5 x6 x7 bb c' N2 cx bc ai bd _ _ N3 cy
 refine zBJ (n:=l.length) (by omega) N3 _ λa1 c1 N4 cz _ _ _=>?_
 have c0:=ai.len
 have al:l.set j p=l:=by
  apply nH
  intro i
  rw [nM]
  split
  ·rename_i hi
   subst hi
   rw [zy g1,hp]
  ·rfl
 refine up (va (bdN k nm ot l.length)) (by omega) (λi xs=>∀ (s:ByteArray × ByteArray × Tm) (y4 y5 y6 y7:D) (r:List D) (q N':Nat),N<=N'->Tm.Hd s.1 s.2.1 ty re y4 y5 y6 y7->All2 Tm.Is (l.set j s.2.2) r->OwnL N N' ([y4,y5,y6,y7]++r)->LeT s.2.2 p->rns (Tm.sub f) k l.length fb x xs s=T ->
  (i=0->s=(nm,ot,p))->(0<i->∀ o∈xs,o∈fb->s.1≠o) ->
  yY Q N j x a (zC fb) c a1 (zC (bdN k nm ot l.length)) c1 i 0 (bytes []) (bytes []) 0 0 none [] 0 0 none [] 0 none [] 0 k s.1 s.2.1 n0 y4 y5 y6 y7 r.length q r q N') ?_ ?_ (nm,ot,p) x4 x5 x6 x7 bb c' N4 (by omega) bc (by rw [al];exact ai) (bd.mono ba (by omega)) LeT.rfl hT (λ_=>rfl) (λh=>absurd h (by omega))
 ·intro i bg hi s y4 y5 y6 y7 r q N' bh hH hA hO U hs _ _
  simp only [rns] at hs
  subst hs
  refine sx _ _ _ _ _ _ _ _ _ _ _ _ _ _ _ _ _ _ _ _ _ _ _ _ _ _ _ _ _ _ _ _ _ _ _ _ _ _ _ ?_
  rw [bg]
  exact ⟨⟨rfl,rfl⟩,λN5 aq=>hQ _ _ _ _ _ _ _ (by omega) hH hA (hO.mono (oD _) aq)⟩
 ·intro i old xs I au am s y4 y5 y6 y7 r q N' bh hH hA hO U hs h0 h1
  have c2:=I.b
  have hr:=I.r
  have bi:=hA.len
  simp only [ny] at bi
  simp only [rns] at hs
  refine sx _ _ _ _ _ _ _ _ _ _ _ _ _ _ _ _ _ _ _ _ _ _ _ _ _ _ _ _ _ _ _ _ _ _ _ _ _ _ _ ?_
  rw [I.lt,oH,I.w,hr]
  refine ⟨⟨by omega,by omega⟩,old,rfl,λN5 aq=>yj fb (by omega) a c old N5 _ λN6 c3 _=>?_⟩
  show Br (decide (pp (λx=>decide (x=old)) fb 0<0)) _ _
  rw [zD9]
  have hold:i=0->s.1=old:=λhi=>by
   subst hi
   have h2:=I.g
   rw [h0 rfl]
   unfold bdN at h2
   (repeat' split at h2)<;>simp at h2<;>exact h2
  have aw:0<i->old∈fb->s.1≠old:=λhi Y=>h1 hi old (by simp) Y
  have aa:∀ s':ByteArray × ByteArray × Tm,rn1 (Tm.sub f) k l.length fb x old s=s'->0<i+1->∀ o∈xs,o∈fb->s'.1≠o:=λs' bj _ o Y bm=>by
   have ax:i=0:=by
    have h3:=oO.1 Y
    obtain ⟨m,hm⟩:=h3
    rw [<-au,nL] at hm
    have:=(oC.1 hm).1
    omega
   have bn:=h0 ax
   subst ax
   have bp:o∈bdN k nm ot l.length:=by rw [<-au] at Y;exact oq Y
   have ab:=hold rfl
   subst bj
   unfold rn1
   by_cases ac:old∈fb
   ·have bq:=zEc (fb++(s.2.2.fv++([x]++bdN k s.1 s.2.1 l.length)))
    rw [if_pos ac,if_pos ab]
    intro hc
    refine bq ?_
    simp only at hc
    rw [hc,bn]
    simp [bp]
   ·rw [if_neg ac]
    intro hc
    exact ac (by rw [<-ab,hc];exact bm)
  refine Br.dec (λY=>?_) λY=>?_
  ·have e1:rn1 (Tm.sub f) k l.length fb x old s=s:=by unfold rn1;rw [if_neg Y]
   have J:=aa s e1
   rw [e1] at hs
   exact am _ _ _ _ _ _ _ _ (by omega) hH hA (hO.mono (oD _) (by omega)) U hs (λh=>absurd h (by omega)) J
  ·have Y:old∈fb:=mU.1 Y
   have ae:=ui hA (j:=j) (by simpa using g1)
   have bt:(l.set j s.2.2).getD j tm0=s.2.2:=by rw [oA,nV (by simpa using g1)];rfl
   rw [bt] at ae
   have ay:=U.z hc
   have c4:=ay.c
   have c5:=Tm.fv_len s.2.2
   have da:=zKC fb s.2.2.fv
   have cc:=zER k s.1 s.2.1 l.length
   have cd:=zW (bdN k s.1 s.2.1 l.length)
   have ce:=U.d
   refine ⟨⟨rfl,rfl⟩,λa5 _ N7 db az=>zBJ (n:=l.length) (by omega) N7 _ λa6 c6 N8 de bv _=>⟨wU az bv,λ_=>⟨⟨by omega,by omega,by omega⟩,by omega,λN9 df=>?_⟩⟩⟩
   rw [oH,nU]
   refine uZ s.2.2 _ ae (by omega) N9 _ λa7 c7 dh cf _ _ _ bw cg=>?_
   refine tq fb s.2.2.fv (by omega) (by omega) a a7 c c7 bw _ λc8 di ch _ _=>?_
   rw [vU,zMy]
   have a0:(zAl fb s.2.2.fv++[x]++bdN k s.1 s.2.1 l.length).length<=8796093022208:=by simp only [oL,oJ,oM];omega
   have a2:fresh (zAl fb s.2.2.fv++[x]++bdN k s.1 s.2.1 l.length)=fresh (fb++(s.2.2.fv++([x]++bdN k s.1 s.2.1 l.length))):=zPs λy=>by simp [zIt,or_assoc]
   refine ⟨⟨rfl,rfl⟩,zDW (by omega),λc9=>⟨⟨rfl,rfl⟩,by unfold zA;rw [oL,zW,zW,oL,oJ,oM];omega,λbz=>⟨⟨rfl,rfl⟩,λb1 _ b2 ci _=>?_⟩⟩⟩
   refine zDD _ a0 b1 bz b2 _ λdj cj _=>⟨⟨by omega,by omega,by omega⟩,by omega,⟨by omega,by omega⟩,old,rfl,λb6 ck=>?_⟩
   have ah:=zMv a0
   rw [a2] at ah ⊢
   have e1:rn1 (Tm.sub f) k l.length fb x old s=(if s.1=old then fresh (fb++(s.2.2.fv++([x]++bdN k s.1 s.2.1 l.length))) else s.1,if s.1=old then s.2.1 else fresh (fb++(s.2.2.fv++([x]++bdN k s.1 s.2.1 l.length))),s.2.2.sub f old (zEg (fresh (fb++(s.2.2.fv++([x]++bdN k s.1 s.2.1 l.length)))))):=by
    unfold rn1
    rw [if_pos Y]
    split<;>rfl
   have J:=aa _ e1
   rw [e1] at hs
   generalize fresh (fb++(s.2.2.fv++([x]++bdN k s.1 s.2.1 l.length)))=O at ah hs J ⊢
   refine zCf b6 O _ λdk cm _ _ b7 cn=>?_
   refine hS s.2.2 _ old (zEg O) _ ae (zRl ah) (by omega) ay (zTr _) b7 _ λdx ao co hx b9 _ _=>⟨⟨by omega,by omega,by omega⟩,by omega,?_⟩
   have aj:All2 Tm.Is (l.set j (s.2.2.sub f old (zEg O))) (r.set j dx):=by have:=zDY (j:=j) hA hx;rwa [List.set_set] at this
   have ak:OwnL N ao ([y4,y5,y6,y7]++r.set j dx):=zJY hO b9 (by omega) (by omega) (by omega)
   have a3:(r.set j dx).length=r.length:=ny
   refine Br.beq (λhi=>?_) λhi=>?_
   ·have hi:i=0:=by omega
    rw [if_pos (hold hi),if_pos (hold hi)] at hs J
    have:=am (O,s.2.1,s.2.2.sub f old (zEg O)) y4 y5 y6 y7 (r.set j dx) q ao (by omega) ⟨ah,hH.ot,hH.ty,hH.re⟩ aj ak ((vn f _ _ _).trans U) hs (λh=>absurd h (by omega)) J
    rwa [a3] at this
   ·have hi:0<i:=by omega
    rw [if_neg (aw hi Y),if_neg (aw hi Y)] at hs J
    have:=am (s.1,O,s.2.2.sub f old (zEg O)) y4 y5 y6 y7 (r.set j dx) q ao (by omega) ⟨hH.nm,ah,hH.ty,hH.re⟩ aj ak ((vn f _ _ _).trans U) hs (λh=>absurd h (by omega)) J
    rwa [a3] at this
/-- the parts, each put through, but for one -/
theorem zA1 {f:Nat} (hS:zUE 147 f) {k n0:Int} {nm ot:ByteArray} {ty re:Ty} {L Lf:List Tm} {x:ByteArray} {b:Tm} {db:D} (hb:b.Is db) (al:b.Z) (hL:∀ y∈L,y.dp<=f/\y.Z) (az:L.length<=1073741824) {at_:Int} {U:Bool}
  (am:Lf.length=L.length) (hf:∀ (i:Nat) (y:Tm),L[i]?=some y->Lf[i]?=some (if U=true/\(i:Int)=at_ then y else y.sub f x b)) {y4 y5 y6 y7:D} (hH:Tm.Hd nm ot ty re y4 y5 y6 y7) {r:List D} (hA:All2 Tm.Is L r) (q N N':Nat) (Y:N<=N') (hO:OwnL N N' ([y4,y5,y6,y7]++r))
  (Q:QT [.ag 9]) (hQ:∀ d' N'',N<=N''->(Tm.mk k nm ot n0 ty re Lf).Is d'->Own N N'' d'->Q d' N'') :
  zF Q N x at_ U 0 db 0 (bytes []) (bytes []) 0 0 none [] 0 0 none [] 0 none [] 0 k nm ot n0 y4 y5 y6 y7 r.length q r q N':=by
 have a0:=hA.len
 refine up hA (by omega) (λi xs=>∀ (O:List D) (q N':Nat),N<=N'->All2 Tm.Is (Lf.take i++L.drop i) O->O.length=r.length->OwnL N N' ([y4,y5,y6,y7]++O) ->
  zF Q N x at_ U i db 0 (bytes []) (bytes []) 0 0 none [] 0 0 none [] 0 none [] 0 k nm ot n0 y4 y5 y6 y7 r.length q O q N') ?_ ?_ r q N' Y (by simpa using hA) rfl hO
 ·intro i ao hi O q N' Y J ac aa
  rw [oa (by omega),ma (by omega),nR] at J
  refine tI _ _ _ _ _ _ _ _ _ _ _ _ _ _ _ _ _ _ _ _ _ _ _ _ _ _ _ _ _ _ _ _ _ _ _ ?_
  rw [ao]
  exact ⟨⟨by omega,rfl⟩,⟨by omega,rfl⟩,⟨by omega,rfl⟩,⟨by omega,rfl⟩,λa2 N5 ae hf N6 ah=>hQ _ _ (by omega) (Tm.is_mk.2 ⟨_,_,_,_,_,_,_,rfl,hH,by omega,J⟩) ((zHg aa hf ae).mono (oD _) ah)⟩
 ·intro i y xs I _ ai O q N' Y J ac aa
  have a3:=I.b
  obtain ⟨aq,au⟩:=hL y I.m
  have aj:i<L.length:=(oC.1 I.g).1
  have ab:=hf i y I.g
  have aw:y.Is (O.getD i default):=by
   refine J.get ?_
   rw [oQ (by rw [ou];omega),ou,show i - min i Lf.length=0 by omega,nL]
   exact I.g
  have put:(if U=true/\(i:Int)=at_ then y else y.sub f x b)=y.sub f x b->∀ N5,N'<=N5->ACalls prog 147 [.ag 9] [.dg 9 (List.getD O i default),.str x,.dg 9 db] N5 (λak N6=>N5<=N6->Bel N6 ak->((0:Int)<=(i:Int)/\(i:Int)<(r.length:Int)/\i<O.length)/\i<O.length /\
    zF Q N x at_ U ((i+1:Nat):Int) db 0 (bytes []) (bytes []) 0 0 none [] 0 0 none [] 0 none [] 0 k nm ot n0 y4 y5 y6 y7 r.length q (List.set O i ak) q N6):=λe N5 ae=>
   hS y _ x b db aw hb aq au al N5 _ λdx N6 ah hx ax _ _=>⟨⟨by omega,by omega,by omega⟩,by omega,by
    rw [e] at ab
    have h2:=zDY (j:=i) J hx
    rw [zSb am aj ab] at h2
    exact ai (O.set i dx) q N6 (by omega) h2 (by simpa using ac) (zJY aa ax (by omega) (by omega) (by omega))⟩
  refine tI _ _ _ _ _ _ _ _ _ _ _ _ _ _ _ _ _ _ _ _ _ _ _ _ _ _ _ _ _ _ _ _ _ _ _ ?_
  rw [I.lt,oH,I.w,nU]
  refine Br.bne (λay=>⟨⟨by omega,by omega,by omega⟩,by omega,put (if_neg λh=>ay h.2)⟩) λheq=>?_
  refine Br.not (λhh=>⟨⟨by omega,by omega,by omega⟩,by omega,put (if_neg λh=>by rw [hh] at h;exact absurd h.1 (by decide))⟩) λhh=>?_
  rw [if_pos ⟨hh,heq⟩] at ab
  rw [zPj aj I.g ab] at J
  exact ai O q N' Y J ac aa
theorem zMD {g:Tm->Tm} {l:List Tm} {i:Nat} {y:Tm} (h:l[i]?=some y):(l.map g)[i]?=some (g y):=by rw [oF,h];rfl
theorem zGO:∀ f,zUE 147 f
 | 0=>λe d x b db _ _ ae=>absurd (Tm.dp_pos e) (by omega)
 | f + 1=>λe d x b db he hb ae hc U N Q J=>by
   have ih:=zGO f
   have hG:=hc.g
   have aq:=U.g
   have a9:=U.c
   cases e with
   | mk k nm ot n0 ty re l=>
   simp only [Tm.dp] at ae
   have hp:∀ y∈l,y.dp<=f/\y.Z:=λy O=>⟨tU.1 (mb ae) y O,hc.mem y O⟩
   obtain ⟨t0,t1,r0,r1,a,es,c,rfl,hh,bp,au⟩:=Tm.is_mk.1 he
   have hl:=au.len
   have ab:=hG.2.2.1
   have b2:=zER k nm ot l.length
   have b6:=zW (bdN k nm ot l.length)
   refine zDJ N _ x db Q λ_ _=>⟨_,rfl,?_⟩
   have aw:¬(k=1/\nm=x)->(Tm.mk k nm ot n0 ty re l).sub (f+1) x b=if xW k l.length<0 then .mk k nm ot n0 ty re (l.map λt=>Tm.sub f t x b)
     else if x∈bdN k nm ot l.length\/x∉(l.getD (xW k l.length).toNat tm0).fv then
      .mk k nm ot n0 ty re ((l.map λt=>Tm.sub f t x b).set (xW k l.length).toNat (l.getD (xW k l.length).toNat tm0))
     else
      .mk k (rns (Tm.sub f) k l.length b.fv x (bdN k nm ot l.length) (nm,ot,l.getD (xW k l.length).toNat tm0)).1
       (rns (Tm.sub f) k l.length b.fv x (bdN k nm ot l.length) (nm,ot,l.getD (xW k l.length).toNat tm0)).2.1 n0 ty re
       ((l.map λt=>Tm.sub f t x b).set (xW k l.length).toNat (Tm.sub f (rns (Tm.sub f) k l.length b.fv x (bdN k nm ot l.length) (nm,ot,l.getD (xW k l.length).toNat tm0)).2.2 x b)):=λhn=>by
    simp only [Tm.sub]
    by_cases hk:k=1
    ·rw [if_pos hk,if_neg (λh=>hn ⟨hk,h⟩)]
     have:l=[]:=hc.v.1 hk
     subst this
     subst hk
     rw [if_pos (by decide)]
     rfl
    ·rw [if_neg hk]
   refine Br.beq (λh1=>⟨_,rfl,Br.str (λh2 N1 ah=>?_) λh2=>?_⟩) λh1=>?_
   ·simp only [Tm.sub] at J
    rw [if_pos h1,if_pos h2] at J
    refine qE b db hb aq N1 _ ?_
    cases b with
    | mk k2 b7 b9 n2 ca cc l2=>
    simp only [zFo]
    intro x4 x5 x6 x7 ax c' N2 ba aa I ai _ _
    have bb:=I.len
    have cd:=aq.2.2.1
    exact ⟨⟨trivial,trivial⟩,⟨trivial,trivial⟩,λa2 N3 ay hf N4 az=>J _ _ (by omega) (Tm.is_mk.2 ⟨_,_,_,_,_,_,_,rfl,aa,by omega,I⟩) ((zHg (ai.mono ah (oD _)) hf ay).mono (oD _) az)⟩
   all_goals
    rw [aw (λh=>by first | exact h2 h.2 | exact h1 h.1)] at J
    intro N1 ah
    refine qE _ _ he hG N1 _ ?_
    simp only [zFo]
    intro x4 x5 x6 x7 ax c' N2 ba aa I ai _ _ N3 ay
    have bb:=I.len
    refine zBJ (n:=l.length) (by omega) N3 _ λa1 c1 N4 az _ _ _ N5 ce=>?_
    refine yj _ (by omega) a1 c1 x N5 _ λN6 cf _=>?_
    rw [zMI]
    have aj:OwnL N N6 ([x4,x5,x6,x7]++ax):=ai.mono ah (by omega)
    refine Br.dec (λcg=>?_) λch=>?_
    ·rw [if_neg (by omega)] at J
     obtain ⟨g1,g2⟩:=vL (k:=k) (n:=l.length) (by omega)
     obtain ⟨j,a0⟩:∃ j:Nat,xW k l.length=(j:Int):=⟨_,g2.symm⟩
     rw [a0] at g1 J ⊢
     rw [oH] at g1 J ⊢
     generalize ak:l.getD j tm0=p at J
     have al:l[j]?=some p:=ak ▸ zy g1
     obtain ⟨a3,am⟩:=hp p (oB al)
     have a4:=am.c
     have a5:=ui au g1
     rw [ak] at a5
     refine Br.ndec (λhx=>⟨_,_,_,rfl,⟨by omega,by omega⟩,λN7 ci=>?_⟩) λhx=>?_
     ·have cj:=Tm.fv_len p
      refine uZ p _ a5 a4 N7 _ λa8 c8 N8 ck _ _ _ N9 cm=>yj _ (by omega) a8 c8 x N9 _ λbc bq _=>?_
      rw [zMI]
      rw [mX hx]
      refine Br.dec (λac bd bt=>?_) λac=>?_
      ·rw [if_neg (by rintro (h | h);exact hx h;exact h ac)] at J
       have bv:=Tm.fv_len b
       refine uZ b _ hb a9 bd _ λbg bh cn bw _ _ _ bi bz=>?_
       generalize hT:rns (Tm.sub f) k l.length b.fv x (bdN k nm ot l.length) (nm,ot,p)=T at J
       have ao:=sY (vn f) k l.length b.fv x (bdN k nm ot l.length) (nm,ot,p)
       rw [hT] at ao
       have a6:=ao.d
       refine zOW ih he hG a0 ak a3 am x b.fv (by omega) bg bh bi hT _ ?_
       simp only [zFo]
       intro z4 z5 z6 z7 co c9 bj b1 bm a7 bn _ _
       refine zA1 ih hb U (L:=l.set j T.2.2) (Lf:=(l.map λt=>t.sub f x b).set j (T.2.2.sub f x b)) (λy O=>?_) (by simpa using ab) (by simp) (λi y O=>?_) bm a7 c9 N bj (by omega) (bn.mono (by omega) (oD _)) Q J
       ·rcases nI O with O | rfl
        ·exact hp y O
        ·exact ⟨oR a6 a3,ao.z am⟩
       ·rw [if_neg (λh=>by simp at h)]
        rw [<-List.map_set]
        exact zMD O
      ·rw [if_pos (.inr ac)] at J
       refine zA1 ih hb U hp ab (by simp) (λi y O=>?_) aa I c' N bc (by omega) (aj.mono (oD _) (by omega)) Q J
       rw [if_neg (λh=>by simp at h)]
       by_cases Y:j=i
       ·subst Y
        have:y=p:=oT (O.symm.trans al)
        rw [nV (by simpa using g1),this,zQ6 f p x b ac]
       ·rw [nJ Y];exact zMD O
     ·rw [if_pos (.inl hx)] at J
      rw [mG hx]
      refine zA1 ih hb U hp ab (by simp) (λi y O=>?_) aa I c' N N6 (by omega) aj Q J
      by_cases Y:j=i
      ·subst Y
       have:y=p:=oT (O.symm.trans al)
       rw [if_pos ⟨rfl,rfl⟩,nV (by simpa using g1),this]
      ·rw [if_neg (λh=>Y (by omega)),nJ Y];exact zMD O
    ·rw [if_pos (by omega)] at J
     refine zA1 ih hb U hp ab (by simp) (λi y O=>?_) aa I c' N N6 (by omega) aj Q J
     rw [if_neg (λh=>by have:=h.2;omega)]
     exact zMD O
end Go.Proofs.YtlahkdflngobiaaGreat
