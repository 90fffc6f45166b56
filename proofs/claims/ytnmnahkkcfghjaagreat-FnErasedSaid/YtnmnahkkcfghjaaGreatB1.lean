/- Steps: what they come to (no program in sight). -/
import Derived.Test.YtnmnahkkcfghjaaGreatA9
import Derived.Test.YtnmnahkkcfghjaaGreatA6
import Derived.Test.YtnmnahkkcfghjaaGreatKf
import Derived.Test.YtnmnahkkcfghjaaGreatKh
set_option linter.unusedVariables false
set_option linter.unusedSimpArgs false
namespace Go.Proofs.YtnmnahkkcfghjaaGreat
open Go Go.Proofs Go.Proofs.Tryz Go.IntWalk
def red (n:Int):Int:=n % 10007
def bI (b:Bool):Int:=if b then 1 else 0
def yS (s:ByteArray) (a b:Int):Int × Bool:=
 if inB a 0 10006=true then (if inB b 0 10006=true then
  (if s=bytes [43] then (red (a+b),true) else if s=bytes [45] then (red (a - b),true) else if s=bytes [42] then (red (a*b),true)
  else if s=bytes [61] then (bI (a==b),true) else if s=bytes [60] then (bI (decide (a<b)),true)
  else if s=bytes [38] then (bI (a==1&&b==1),true) else if s=bytes [124] then (bI (a==1||b==1),true)
  else if s=bytes [33] then (bI (a==0),true) else (0,false)) else (0,false)) else (0,false)
theorem zDZ (b:Bool):0<=bI b/\bI b<=1:=by cases b<;>decide
theorem zMA (n:Int):0<=red n/\red n<=10006:=by unfold red;omega
theorem zJz (s:ByteArray) (a b:Int):0<=(yS s a b).1/\(yS s a b).1<=10006:=by
 have I:=zMA (a+b);have J:=zMA (a - b);have O:=zMA (a*b)
 have U:=zDZ (a==b);have Y:=zDZ (decide (a<b));have h6:=zDZ (a==1&&b==1);have h7:=zDZ (a==1||b==1);have h8:=zDZ (a==0)
 unfold yS
 (repeat' split)<;>constructor<;>first | omega | (simp only;omega)
theorem zGc {s:ByteArray} (n1:¬s=bytes [43]) (I:¬s=bytes [45]) (J:¬s=bytes [42]) (a b:Int):0<=(yS s a b).1/\(yS s a b).1<=1:=by
 have O:=zDZ (a==b);have U:=zDZ (decide (a<b));have Y:=zDZ (a==1&&b==1);have h7:=zDZ (a==1||b==1);have h8:=zDZ (a==0)
 unfold yS
 rw [if_neg n1,if_neg I,if_neg J]
 (repeat' split)<;>constructor<;>first | omega | (simp only;omega)
def zKO (k n:Int):Tm:=.mk k (bytes []) (bytes []) n (.mk 0 []) (.mk 0 []) []
def Tm.kd:Tm->Int | .mk k _ _ _ _ _ _=>k
def Tm.no:Tm->Int | .mk _ _ _ n _ _ _=>n
def Tm.nm:Tm->ByteArray | .mk _ nm _ _ _ _ _=>nm
def Tm.ot:Tm->ByteArray | .mk _ _ ot _ _ _ _=>ot
def Tm.pt:Tm->Nat->Tm | .mk _ _ _ _ _ _ l,i=>l.getD i tm0
def Tm.wth:Tm->Nat->Tm->Tm | .mk k nm ot n ty re l,i,x=>.mk k nm ot n ty re (l.set i x)
mutual
/-- no splice of level 1 -/
def Tm.made:Tm->Int->Bool
 | .mk k _ _ _ _ _ l,n=>!(k==11&&n==1)&&ur l (zW k n)
def ur:List Tm->Int->Bool
 | [],_=>true
 | t::I,n=>t.made n&&ur I n
end
def zOC (k:Int):Bool:=k==2||(k==3||(k==6||k==9))
/-- a result, of what is a term -/
def Tm.res (t:Tm):Bool:=zOC t.kd||(t.kd==10&&(t.lev 0&&(t.pt 0).made 1))
def qt (s:ByteArray):Bool:=decide (s=bytes [38])||(decide (s=bytes [124])||decide (s=bytes [33]))
def zFb (s:ByteArray):Bool:=decide (s=bytes [43])||(decide (s=bytes [45])||decide (s=bytes [42]))
def wh (nm:ByteArray):Int:=if qt nm then 3 else 2
def zAq (nm:ByteArray):Int:=if zFb nm then 2 else 3
/-- an operation of literals -/
def Tm.opr (e:Tm) (l:List Tm):Tm × Int:=
 if l.all (λx=>x.kd==wh e.nm) then
  (zKO (zAq e.nm) (yS e.nm (l.getD 0 tm0).no (l.getD 1 tm0).no).1,1)
 else (e,0)
def Tm.sb (e:Tm) (x:ByteArray) (b:Tm):Tm:=e.sub e.dp x b
/-- the rule for a form whose parts that must be are results -/
def Tm.apl:Tm->Tm × Int
 | .mk k nm ot n ty re l=>
   if k=4 then (Tm.mk k nm ot n ty re l).opr l
   else if k=5 then (if (l.getD 0 tm0).kd=3 then (l.getD (2 - (l.getD 0 tm0).no).toNat tm0,2) else (.mk k nm ot n ty re l,0))
   else if k=7 then
    (if (l.getD 0 tm0).kd=6 then (((l.getD 0 tm0).pt 0).sb (l.getD 0 tm0).nm (l.getD 1 tm0),3)
    else if (l.getD 0 tm0).kd=9 then ((((l.getD 0 tm0).pt 0).sb (l.getD 0 tm0).nm (l.getD 0 tm0)).sb (l.getD 0 tm0).ot (l.getD 1 tm0),4)
    else (.mk k nm ot n ty re l,0))
   else if k=8 then ((l.getD 1 tm0).sb nm (l.getD 0 tm0),5)
   else if k=12 then (if (l.getD 0 tm0).kd=10 then ((l.getD 0 tm0).pt 0,7) else (.mk k nm ot n ty re l,0))
   else if k=13 then (if (l.getD 0 tm0).kd=2\/(l.getD 0 tm0).kd=3 then (Tm.nod 10 [l.getD 0 tm0],8) else (.mk k nm ot n ty re l,0))
   else (.mk k nm ot n ty re l,0)
/-- how many parts must be results -/
def qQ (k:Int) (n:Nat):Nat:=if k=4\/k=7 then n else if k=5\/k=8\/k=12\/k=13 then 1 else 0
/-- the first part that is no result, stepped -/
def goS (S:Tm->Tm × Int) (e:Tm):List Tm->Nat->Option (Tm × Int)
 | [],_=>none
 | x::xs,i=>if x.res then goS S e xs (i+1) else some (e.wth i (S x).1,(S x).2)
/-- a splice of level 1 -/
def zQY (S:Tm->Tm × Int) (e:Tm):Tm × Int × Bool:=
 if (e.pt 0).res then (if (e.pt 0).kd=10 then ((e.pt 0).pt 0,6,true) else (e,0,true)) else (e.wth 0 (S (e.pt 0)).1,(S (e.pt 0)).2,true)
mutual
/-- the first splice of level 1 in a part at a level -/
def Tm.cod (S:Tm->Tm × Int):Tm->Int->Tm × Int × Bool
 | .mk k nm ot n ty re l,m=>if k=11/\m=1 then zQY S (.mk k nm ot n ty re l) else
   match yG S l (zW k m) with
   | none=>(.mk k nm ot n ty re l,0,false)
   | some (l',r)=>(.mk k nm ot n ty re l',r,true)
def yG (S:Tm->Tm × Int):List Tm->Int->Option (List Tm × Int)
 | [],_=>none
 | t::I,m=>if (t.cod S m).2.2 then some ((t.cod S m).1::I,(t.cod S m).2.1) else
   match yG S I m with
   | none=>none
   | some (l',r)=>some (t::l',r)
end
def Tm.stp:Nat->Tm->Tm × Int
 | 0,e=>(e,0)
 | f+1,e=>if e.res then (e,0) else if e.kd=10 then (e.wth 0 ((e.pt 0).cod (Tm.stp f) 1).1,((e.pt 0).cod (Tm.stp f) 1).2.1)
   else match e with
    | .mk k nm ot n ty re l=>match goS (Tm.stp f) (.mk k nm ot n ty re l) (l.take (qQ k l.length)) 0 with
      | some r=>r
      | none=>(Tm.mk k nm ot n ty re l).apl
theorem zJX (e:Tm) (i:Nat):e.wth i (e.pt i)=e:=by
 cases e with
 | mk k nm ot n ty re l=>
 simp only [Tm.wth,Tm.pt]
 congr 1
 apply nD
 intro j
 rw [nL]
 split
 ·rename_i h
  subst h
  split
  ·rename_i h;rw [zN h]
  ·rename_i h;rw [oT (by omega)]
 ·rfl
/-- no rule, no other term -/
def NoR (S:Tm->Tm × Int):Prop:=∀ x,(S x).2=0->(S x).1=x
theorem zQ8 {S:Tm->Tm × Int} (hS:NoR S):∀ (t:Tm) (m:Int),(t.cod S m).2.1=0->(t.cod S m).1=t:=by
 refine Tm.ind λk nm ot n ty re l ih m h=>?_
 simp only [Tm.cod] at h ⊢
 by_cases U:k=11/\m=1
 ·rw [if_pos U] at h ⊢
  unfold zQY at h ⊢
  split
  ·rename_i I
   rw [if_pos I] at h
   split
   ·rename_i J;rw [if_pos J] at h;exact absurd (show (6:Int)=0 from h) (by decide)
   ·rfl
  ·rename_i I
   rw [if_neg I] at h
   simp only at h ⊢
   rw [hS _ h,zJX]
 ·rw [if_neg U] at h ⊢
  have key:∀ xs:List Tm,(∀ x∈xs,x∈l)->∀ l' r,yG S xs (zW k m)=some (l',r)->r=0->l'=xs:=by
   intro xs
   induction xs with
   | nil=>intro _ l' r h;simp [yG] at h
   | cons x xs O=>
     intro Y l' r h hr
     simp only [yG] at h
     split at h
     ·cases h
      rw [ih x (Y x (by simp)) _ hr]
     ·split at h
      ·cases h
      ·rename_i l2 r2 J
       cases h
       rw [O (λy hy=>Y y (by simp [hy])) _ _ J hr]
  cases hc:yG S l (zW k m) with
  | none=>rfl
  | some p=>
    obtain ⟨l',r⟩:=p
    rw [hc] at h
    simp only at h ⊢
    rw [key l (λx hx=>hx) l' r hc h]
theorem zOh {S:Tm->Tm × Int} (J:NoR S) {e:Tm}:∀ {l:List Tm} {i:Nat} {r:Tm × Int},goS S e l i=some r->(∀ j x,l[j]?=some x->e.pt (i+j)=x)->r.2=0->r.1=e
 | [],_,_,h,_,_=>by simp [goS] at h
 | x::l,i,r,h,O,I=>by
   simp only [goS] at h
   split at h
   ·exact zOh J h (λj y U=>by rw [show i+1+j=i+(j+1) by omega];exact O (j+1) y (by simpa using U)) I
   ·cases h
    simp only at I ⊢
    rw [J x I]
    have:=O 0 x rfl
    rw [mW] at this
    rw [<-this,zJX]
theorem zQx {c:Prop} [Decidable c] {x y:Tm × Int} {e:Tm} (I:x.2=0->x.1=e) (J:y.2=0->y.1=e) (h:(if c then x else y).2=0):(if c then x else y).1=e:=by
 by_cases hc:c
 ·rw [if_pos hc] at h ⊢;exact I h
 ·rw [if_neg hc] at h ⊢;exact J h
theorem zSW {t e:Tm} {r:Int} (I:r≠0) (h:((t,r):Tm × Int).2=0):((t,r):Tm × Int).1=e:=absurd h I
theorem zRX (e:Tm) (h:e.apl.2=0):e.apl.1=e:=by
 cases e with
 | mk k nm ot n ty re l=>
 revert h
 simp only [Tm.apl,Tm.opr]
 repeat' first | exact λh=>zSW (by decide) h | exact λ_=>rfl | refine zQx ?_ ?_
theorem zOy:∀ f,NoR (Tm.stp f)
 | 0,e,_=>rfl
 | f + 1,.mk k nm ot n ty re l,h=>by
   have O:=zOy f
   simp only [Tm.stp] at h ⊢
   split
   ·rfl
   ·rename_i Y
    rw [if_neg Y] at h
    by_cases U:(Tm.mk k nm ot n ty re l).kd=10
    ·rw [if_pos U] at h ⊢
     simp only at h ⊢
     rw [zQ8 O _ _ h,zJX]
    ·rw [if_neg U] at h ⊢
     cases J:goS (Tm.stp f) (Tm.mk k nm ot n ty re l) (l.take (qQ k l.length)) 0 with
     | none=>
       rw [J] at h
       exact zRX _ h
     | some r=>
       rw [J] at h
       refine zOh O J (λj x I=>?_) h
       rw [nJ]
       rw [oa] at I
       split at I
       ·simp only [Tm.pt];rw [oA,I];rfl
       ·cases I
/-- one step of a program -/
def Tm.step (e:Tm):Tm × Int:=if zAw e 0 then (if (e.stp e.dp).2=0 then (e,0) else e.stp e.dp) else (e,0)
theorem zQi {a b:Int} (I:0<=a/\a<=10006) (J:0<=b/\b<=10006):0<=a*b/\a*b<=100120036:=by
 refine ⟨Int.mul_nonneg I.1 J.1,?_⟩
 have O:a*b<=10006*b:=Int.mul_le_mul_of_nonneg_right I.2 J.1
 omega
theorem zOS (n:Int):(if Int.tmod n 10007<0 then Int.tmod n 10007+10007 else Int.tmod n 10007)=red n:=by
 unfold red
 by_cases h:0<=n
 ·rw [np h,if_neg (by omega)]
 ·obtain ⟨m,rfl⟩:∃ m,n = -m:=⟨-n,by omega⟩
  rw [Int.neg_tmod,np (by omega)]
  split<;>omega
theorem zQ4 (n:Int) : -10007<Int.tmod n 10007/\Int.tmod n 10007<10007:=by
 by_cases h:0<=n
 ·rw [np h];omega
 ·obtain ⟨m,rfl⟩:∃ m,n = -m:=⟨-n,by omega⟩
  rw [Int.neg_tmod,np (by omega)]
  omega
theorem zF6 (n:Int):zGX 109 [.j n] (red n):=λN Q U=>by
 have Y:=zQ4 n
 have I:=zOS n
 refine zFY N n Q ⟨by omega,Br.dec (λh N1 J=>?_) λh N2 O=>?_⟩
 ·rw [i64_in _ (by omega)]
  rw [if_pos h] at I
  exact Qi (U _ J) I.symm
 ·rw [if_neg h] at I
  exact Qi (U _ O) I.symm
/-- returns this number and this truth value -/
def zSm (f:FuncId) (args:List PV) (r:Int × Bool):Prop:=∀ (N:Nat) (Q:QT [.i,.bool]),(∀ N',N<=N'->Q r.1 r.2 N')->ACalls prog f [.i,.bool] args N Q
theorem Qp {Q:QT [.i,.bool]} {a b:Int × Bool} {N:Nat} (h:Q a.1 a.2 N) (e:a=b):Q b.1 b.2 N:=e ▸ h
theorem zJj (b:Bool):zGX 34 [.bool b] (bI b):=λN Q J=>zHq N b Q (Br.of (λh N1 I=>Qi (J _ I) (by rw [h];rfl)) λh N1 I=>Qi (J _ I) (by rw [h];rfl))
theorem zRm (b:Bool):zGX 58 [.bool b] (bI b):=λN Q J=>zKb N b Q (Br.of (λh N1 I=>Qi (J _ I) (by rw [h];rfl)) λh N1 I=>Qi (J _ I) (by rw [h];rfl))
theorem zDs (s:ByteArray) (a b:Int):zSm 100 [.str s,.j a,.j b] (yS s a b):=λN Q O=>by
 refine zDb N s a b Q λN1 ab=>yR _ _ _ N1 _ λN2 ac _=>?_
 by_cases I:inB a 0 10006=true
 rotate_left
 ·have I:inB a 0 10006=false:=by simpa using I
  rw [I]
  simp only [Bool.not_false,zMq]
  have e:yS s a b=(0,false):=by unfold yS;rw [if_neg (by rw [I];decide)]
  exact λN3 U=>Qp (b:=(0,false)) (O N3 (by omega)) e
 rw [I]
 simp only [Bool.not_true,zJi]
 intro N4 ae
 refine yR _ _ _ N4 _ λN5 ah _=>?_
 by_cases J:inB b 0 10006=true
 rotate_left
 ·have J:inB b 0 10006=false:=by simpa using J
  rw [J]
  simp only [Bool.not_false,zMq]
  have e:yS s a b=(0,false):=by unfold yS;rw [if_pos I,if_neg (by rw [J];decide)]
  exact λN3 U=>Qp (b:=(0,false)) (O N3 (by omega)) e
 rw [J]
 simp only [Bool.not_true,zJi]
 have Y:=vm.1 I
 have aa:=vm.1 J
 have hm:=zQi Y aa
 rw [i64_in (a+b) (by omega),i64_in (a - b) (by omega),i64_in (a*b) (by omega)]
 have fin:∀ (x:Int) (y:Bool) (N':Nat),N<=N'->yS s a b=(x,y)->Q x y N':=λx y N' h e=>Qp (b:=(x,y)) (O N' h) e
 unfold yS at fin
 rw [if_pos I,if_pos J] at fin
 clear O
 repeat' first|with_reducible intro _|simp only[Y1,Y2,Y3,Y4]|with_reducible refine X ?_ ?_|refine⟨_,_,_,rfl,?_⟩|refine⟨_,rfl,?_⟩|refine And.intro (by first|omega|trivial|(show _=_;rfl)|(with_reducible constructor)<;>first|omega|trivial|rfl) ?_|refine (zF6 _) _ _ ?_|refine (zJj _) _ _ ?_|fail
 all_goals
  refine fin _ _ _ (by omega) ?_
  (repeat' split)<;>first | rfl | contradiction | (simp_all;done) | (congr 1;rw [show (a==1)=false by simpa using ‹¬a=1›];rfl)
/-- a term, not too deep, not too great -/
structure Tm.F (e:Tm) (f:Nat):Prop where
 ok:e.ok=true
 d:e.dp<=f
 g:e.G
 b:e.dp<=1073741824
 w:e.wd<=137438953472
theorem Tm.F.up {e:Tm} {f g:Nat} (h:e.F f) (I:f<=g):e.F g:=⟨h.ok,oN h.d I,h.g,h.b,h.w⟩
/-- how many parts a form has -/
theorem vp {k:Int} {nm ot:ByteArray} {n:Int} {ty re:Ty} {l:List Tm} (h:(Tm.mk k nm ot n ty re l).ok=true) :
  ((k=6\/k=9\/k=10\/k=11\/k=12\/k=13)->l.length=1)/\((k=7\/k=8)->l.length=2)/\(k=5->l.length=3)/\((k=1\/k=2\/k=3)->l.length=0)/\(k=4->(l.length:Int)=zGY nm):=by
 simp only [Tm.ok,oG,nK] at h
 obtain ⟨_,_,h⟩:=h
 unfold zIt at h
 refine ⟨?_,?_,?_,?_,?_⟩
 ·rintro (rfl | rfl | rfl | rfl | rfl | rfl)<;>(simp at h;omega)
 ·rintro (rfl | rfl)<;>(simp at h;omega)
 ·rintro rfl;simp at h;omega
 ·rintro (rfl | rfl | rfl)<;>simpa using h
 ·rintro rfl;simpa using h
theorem Tm.F.mem {k:Int} {nm ot:ByteArray} {n:Int} {ty re:Ty} {l:List Tm} {f:Nat} (h:(Tm.mk k nm ot n ty re l).F (f+1)):∀ y∈l,y.F f:=λy I=>by
 have J:=h.ok
 have O:=h.d
 have Y:=h.b
 have U:=h.w
 have h7:=(vp h.ok).2.2.2.1
 simp only [Tm.ok,oG] at J
 simp only [Tm.dp] at O Y
 have h4:=vh I
 have h5:∀ {l:List Tm},qR l=true->∀ x∈l,x.ok=true:=λ{l}=>by
  induction l with
  | nil=>intro _ x hx;simp at hx
  | cons t ts ih=>
    intro h x hx
    simp only [qR,oG] at h
    rcases oF.1 hx with rfl | hx
    ·exact h.1
    ·exact ih h.2 x hx
 refine ⟨h5 J.1 y I,va.1 (mL O) y I,yK h.g.2.2.2 I,by omega,?_⟩
 have h8:=zAc I
 simp only [Tm.wd] at U
 split at U
 ·rename_i hk
  rw [oP (h7 (.inl hk))] at I
  simp at I
 ·omega
theorem zQd:∀ t:Tm,t.ok=true->t.V:=by
 refine Tm.ind λk nm ot n ty re l I h=>?_
 refine ⟨λJ=>oP ((vp h).2.2.2.1 (.inl J)),uh.2 λx hx=>I x hx ?_⟩
 simp only [Tm.ok,oG] at h
 have O:∀ {l:List Tm},qR l=true->∀ x∈l,x.ok=true:=λ{l}=>by
  induction l with
  | nil=>intro _ x hx;simp at hx
  | cons t U I=>
    intro h x hx
    simp only [qR,oG] at h
    rcases oF.1 hx with rfl | hx
    ·exact h.1
    ·exact I h.2 x hx
 exact O h.1 x hx
theorem zSp:∀ t:Tm,t.ok=true->t.A3:=by
 refine Tm.ind λk nm ot n ty re l J h=>?_
 have nd:=wT h
 have O:=nd.ar
 have U:=uo k nm
 exact ⟨by omega,uB.2 λx I=>J x I (nd.sub x I)⟩
theorem Tm.F.of {e:Tm} {f:Nat} (I:e.ok=true) (J:e.dp<=f) (O:e.cnt<=4000000):e.F f:=⟨I,J,Tm.G_cnt e (by omega),by have:=e.dp_cnt;omega,by have:=Tm.vc_cnt e;have:=e.wd_vc;omega⟩
theorem Tm.F.z {e:Tm} {f:Nat} (h:e.F f):e.Z:=⟨h.g,by have:=h.w;omega,zQd _ h.ok⟩
theorem zU {l:List Tm} {i:Nat} (h:i<l.length):l.getD i tm0∈l:=oB (zN h)
theorem zIS {e:Tm} (I:e.ok=true) (J:e.kd=3):e.no=0\/e.no=1:=by
 cases e with
 | mk k nm ot n ty re l=>
 simp only [Tm.kd] at J
 subst J
 simp only [Tm.ok,oG] at I
 have O:=I.2.1
 simp only [zJ,oG,inB] at O
 simp at O
 simp only [Tm.no]
 omega
/-- a term and a number -/
def zLy (f:FuncId) (args:List PV) (r:Tm × Int):Prop:=∀ (N:Nat) (Q:QT [.ag 9,.i]),(∀ d N',N<=N'->r.1.Is d->Q d r.2 N')->ACalls prog f [.ag 9,.i] args N Q
def zRM (f:FuncId) (args:List PV) (r:Tm × Int × Bool):Prop:=∀ (N:Nat) (Q:QT [.ag 9,.i,.bool]),(∀ d N',N<=N'->r.1.Is d->Q d r.2.1 r.2.2 N')->ACalls prog f [.ag 9,.i,.bool] args N Q
/-- copies -/
def zRE (F:FuncId):Prop:=∀ (t:Tm) (d:D),t.Is d->t.G->∀ (N:Nat) (Q:QT [.pk,.i,.str,.str,.i,.dc,.dc,.dc,.dc,.row 29 9]),zDh t N Q->ACalls prog F [.pk,.i,.str,.str,.i,.dc,.dc,.dc,.dc,.row 29 9] [.dg 9 d] N Q
theorem zLI {F:FuncId} (hF:zRE F) {t:Tm} {d:D} (h:t.Is d) (hG:t.G) {N0 N:Nat} (h0:N0<=N) (Q':D->Nat->Prop) (hq:∀ d' N',N<=N'->t.Is d'->Own N0 N' d'->Q' d' N') :
  ACalls prog F [.pk,.i,.str,.str,.i,.dc,.dc,.dc,.dc,.row 29 9] [.dg 9 d] N (λn s Y aa x J O U es c N2=>N<=N2->Bel N2 (D.ag es)->(es.length=es.length/\c=c)/\(es.length=es.length/\c=c)/\∀ a N3,N2<=N3->Fresh N0 N3 a [D.ag es,x,J,O,U]->∀ N4,N3<=N4 ->
   Q' (D.ag [D.j n,D.t s,D.t Y,D.j aa,x,J,O,U,D.sl a 9 es c]) N4):=by
 refine hF t d h hG N _ ?_
 cases t with
 | mk k2 ai aj n2 ak al l2=>
 simp only [zDh]
 intro x4 x5 x6 x7 am c' N2 ao ab I ac _ _
 have aq:=I.len
 have au:=hG.2.2.1
 exact ⟨⟨trivial,trivial⟩,⟨trivial,trivial⟩,λa2 N3 ae hf N4 ah=>hq _ _ (by omega) (Tm.is_mk.2 ⟨_,_,_,_,_,_,_,rfl,ab,by omega,I⟩) ((zFR (ac.mono h0 (oD _)) hf ae).mono (oD _) ah)⟩
theorem zST {F:FuncId} (hF:zRE F) {t y:Tm} {d dy:D} (h:t.Is d) (hG:t.G) (hy:y.Is dy) {i:Nat} (hi:i<t.as.length) {N0 N:Nat} (Q':D->Nat->Prop) (hq:∀ d' N',N<=N'->(t.wth i y).Is d'->Q' d' N') :
  ACalls prog F [.pk,.i,.str,.str,.i,.dc,.dc,.dc,.dc,.row 29 9] [.dg 9 d] N (λn s aa ab x J O U es c N2=>N<=N2->Bel N2 (D.ag es)->(0<=(i:Int)/\(i:Int)<(es.length:Int)/\(0+(i:Int).toNat:Nat)<es.length)/\(0+(i:Int).toNat:Nat)<es.length /\
   (es.length=(List.set es (0+(i:Int).toNat:Nat) dy).length/\c=c)/\(es.length=(List.set es (0+(i:Int).toNat:Nat) dy).length/\c=c)/\(es.length=(List.set es (0+(i:Int).toNat:Nat) dy).length/\c=c)/\(es.length=(List.set es (0+(i:Int).toNat:Nat) dy).length/\c=c)/\(es.length=(List.set es (0+(i:Int).toNat:Nat) dy).length/\c=c) /\
   ∀ a N3,N2<=N3->Fresh N0 N3 a [D.ag (List.set es (0+(i:Int).toNat:Nat) dy),x,J,O,U]->∀ N4,N3<=N4 ->
   Q' (D.ag [D.j n,D.t s,D.t aa,D.j ab,x,J,O,U,D.sl a 9 (List.set es (0+(i:Int).toNat:Nat) dy) c]) N4):=by
 refine hF t d h hG N _ ?_
 cases t with
 | mk k2 ae ah n2 ai aj l2=>
 simp only [zDh]
 simp only [Tm.as] at hi
 intro x4 x5 x6 x7 Y c' N2 ak ac I al _ _
 have am:=I.len
 have ao:=hG.2.2.1
 rw [oK,nJ]
 have hs:(List.set Y i dy).length=Y.length:=nP
 exact ⟨⟨by omega,by omega,by omega⟩,by omega,⟨hs.symm,trivial⟩,⟨hs.symm,trivial⟩,⟨hs.symm,trivial⟩,⟨hs.symm,trivial⟩,⟨hs.symm,trivial⟩,λa2 N3 aq hf N4 au=>hq _ _ (by omega) (Tm.is_mk.2 ⟨_,_,_,_,_,_,_,rfl,ac,by omega,zBt I hy⟩)⟩
theorem zLv {k n:Int}:(zKO k n).Is (.ag [.j k,.t (bytes []),.t (bytes []),.j n,.j 0,.sl none 2 [] 0,.j 0,.sl none 2 [] 0,.sl none 9 [] 0]):=
 Tm.is_mk.2 ⟨_,_,_,_,_,_,_,rfl,⟨by decide,by decide,Ty.is_mk.2 ⟨_,_,_,rfl,by simp,rfl⟩,Ty.is_mk.2 ⟨_,_,_,rfl,by simp,rfl⟩⟩,by simp,rfl⟩
/-- the level of a node's parts, at any level -/
theorem zGv {k n m:Int} {c1 I J O U Y c8:D} (h : -1152921504606846976<=m/\m<=1152921504606846976):zGX 95 [.dg 9 (.ag [.j k,c1,I,.j n,J,O,U,Y,c8]),.j m] (zW k m):=λN Q hQ=>by
 refine qk N _ m Q λ_=>?_
 rw [i64_in (m+1) (by omega),i64_in (m - 1) (by omega)]
 repeat' first|with_reducible intro _|simp only[Y1,Y2,Y3,Y4]|with_reducible refine X ?_ ?_|refine⟨_,_,_,rfl,?_⟩|refine⟨_,rfl,?_⟩|refine And.intro (by first|omega|trivial|(show _=_;rfl)|(with_reducible constructor)<;>first|omega|trivial|rfl) ?_|fail
 all_goals (refine Qi (hQ _ (by omega)) ?_;simp [zW, *])
/-- a level that stays far from the ends, however deep -/
def LvIn (m:Int) (d:Nat):Prop := -1152921504606846976<=m - (d:Int)/\m+(d:Int)<=1152921504606846976
theorem LvIn.next {k m:Int} {d d':Nat} (h:LvIn m d) (hd:d'+1<=d):LvIn (zW k m) d':=by
 unfold LvIn zW at *
 split
 ·omega
 ·split<;>omega
theorem LvIn.b {m:Int} {d:Nat} (h:LvIn m d) : -1152921504606846976<=m/\m<=1152921504606846976:=by unfold LvIn at h;omega
theorem dp_mem {k:Int} {nm ot:ByteArray} {n:Int} {ty re:Ty} {l:List Tm} {y:Tm} (h:y∈l):y.dp+1<=(Tm.mk k nm ot n ty re l).dp:=by
 have:=va.1 (oD (uq l)) y h
 simp only [Tm.dp];omega
theorem zGL:∀ (t:Tm) (d:D),t.Is d->∀ m:Int,LvIn m t.dp->zBz 74 [.dg 9 d,.j m] (t.made m):=by
 refine Tm.ind λk nm ot n ty re l ih d hd m hm N Q hQ=>?_
 obtain ⟨t0,t1,r0,r1,a,es,c,rfl,hh,O,U⟩:=Tm.is_mk.1 hd
 have hl:=U.len
 have key:∀ (N':Nat),N<=N'->(∀ N'',N'<=N''->Q (ur l (zW k m)) N'')->yb Q N m 0 (.ag [.j k,.t nm,.t ot,.j n,t0,t1,r0,r1,.sl a 9 es c]) N':=by
  refine up U O (λi xs=>∀ (N':Nat),N<=N'->(∀ N'',N'<=N''->Q (ur xs (zW k m)) N'')->yb Q N m i (.ag [.j k,.t nm,.t ot,.j n,t0,t1,r0,r1,.sl a 9 es c]) N') ?_ ?_
  ·intro i aa _ N' ab J
   refine sJ _ _ _ _ _ _ ?_
   repeat' first|with_reducible intro _|simp only[aa,Y1,Y2,Y3,Y4]|with_reducible refine X ?_ ?_|refine⟨_,_,_,rfl,?_⟩|refine⟨_,rfl,?_⟩|refine And.intro (by first|omega|trivial|(show _=_;rfl)|(with_reducible constructor)<;>first|omega|trivial|rfl) ?_|fail
   exact Qb (J _ (by omega)) (by simp [ur])
  ·intro i x xs I _ ac N' ab J
   have ah:=I.b
   refine sJ _ _ _ _ _ _ ?_
   repeat' first|with_reducible intro _|simp only[I.lt,I.w,oK,Y1,Y2,Y3,Y4]|with_reducible refine X ?_ ?_|refine⟨_,_,_,rfl,?_⟩|refine⟨_,rfl,?_⟩|refine And.intro (by first|omega|trivial|(show _=_;rfl)|(with_reducible constructor)<;>first|omega|trivial|rfl) ?_|refine (zGv hm.b) _ _ ?_|refine (ih x I.m _ I.r _ (hm.next (dp_mem I.m))) _ _ ?_|fail
   ·refine Qb (J _ (by omega)) ?_;simp [ur, *]
   ·exact ac _ (by omega) λN'' h=>Qb (J N'' (by omega)) (by simp [ur, *])
 refine zFC N _ m Q λ_=>⟨_,rfl,Br.beq (λY=>Br.beq (λh2 N1 ae=>?_) λh2=>?_) λY=>?_⟩
 ·exact Qb (hQ _ ae) (by simp [Tm.made,Y,h2])
 ·exact key N (oD _) λN'' h=>Qb (hQ _ h) (by simp [Tm.made,Y,h2])
 ·exact key N (oD _) λN'' h=>Qb (hQ _ h) (by simp [Tm.made,Y])
theorem zi {e:Tm} {d:D} (he:e.Is d) (Y:e.ok=true) (ac:e.dp<=1073741824):zBz 44 [.dg 9 d] e.res:=λN Q J=>by
 cases e with
 | mk k nm ot n0 ty re l=>
 obtain ⟨t0,t1,r0,r1,a,es,c,rfl,hh,ab,U⟩:=Tm.is_mk.1 he
 have hl:=U.len
 refine zBM N _ Q λ_=>⟨_,rfl,?_⟩
 refine Br.beq (λh2 N1 I=>Qb (J _ I) (by simp [Tm.res,zOC,Tm.kd,h2])) λh2=>?_
 refine Br.beq (λh3 N1 I=>Qb (J _ I) (by simp [Tm.res,zOC,Tm.kd,h3])) λh3=>?_
 refine Br.beq (λh6 N1 I=>Qb (J _ I) (by simp [Tm.res,zOC,Tm.kd,h6])) λh6=>?_
 refine Br.beq (λh9 N1 I=>Qb (J _ I) (by simp [Tm.res,zOC,Tm.kd,h9])) λh9=>?_
 refine Br.beq (λO N1 I=>?_) λO N1 I=>Qb (J _ I) (by simp [Tm.res,zOC,Tm.kd,h2,h3,h6,h9,O])
 subst O
 have ae:=(vp Y).1 (by omega)
 have hm:=zU (l:=l) (i:=0) (by omega)
 have ah:=dp_mem (k:=10) (nm:=nm) (ot:=ot) (n:=n0) (ty:=ty) (re:=re) hm
 refine zCS _ _ he 0 N1 _ λN2 ai _=>Br.of (λhv=>⟨_,_,_,rfl,⟨by omega,by omega⟩,λN3 aa=>?_⟩) λhv N3 aa=>Qb (J _ (by omega)) (by simp [Tm.res,zOC,Tm.kd,hv])
 refine zGL _ _ (v6 U (j:=0) (by omega)) 1 (by unfold LvIn;omega) N3 _ λN4 aj _ N5 ak=>Qb (J _ (by omega)) ?_
 simp [Tm.res,zOC,Tm.kd,hv,Tm.pt]
theorem rI {S:Tm->Tm × Int} {e:Tm}:∀ {l:List Tm} {i:Nat} {r:Tm × Int},goS S e l i=some r->∃ j x,l[j]?=some x/\x.res=false/\r=(e.wth (i+j) (S x).1,(S x).2)
 | [],_,_,h=>by simp [goS] at h
 | x::l,i,r,h=>by
   simp only [goS] at h
   split at h
   ·obtain ⟨j,y,I,J,O⟩:=rI h
    exact ⟨j+1,y,by simpa using I,J,by rw [O,show i+1+j=i+(j+1) by omega]⟩
   ·rename_i U
    exact ⟨0,x,rfl,by simpa using U,(oW h).symm⟩
theorem zIv {S:Tm->Tm × Int} {e:Tm}:∀ {l:List Tm} {i:Nat},goS S e l i=none↔∀ x∈l,x.res=true
 | [],_=>by simp [goS]
 | x::l,i=>by
   simp only [goS,oF,nY]
   split
   ·rename_i I;rw [zIv (l:=l)];simp [I]
   ·rename_i I;simp [I]
theorem zSo:tm0.G:=by simp [tm0,Tm.G,zJb,Ty.cnt,zG]
theorem zQg {e:Tm} {i:Nat} (h:e.G):(e.pt i).G:=by
 cases e with
 | mk k nm ot n ty re l=>
 simp only [Tm.pt]
 by_cases hi:i<l.length
 ·exact yK h.2.2.2 (zU hi)
 ·rw [oA,oT (by omega)];exact zSo
theorem zQS {e x:Tm} {i:Nat} (h:e.G) (J:x.G):(e.wth i x).G:=by
 cases e with
 | mk k nm ot n ty re l=>
 refine ⟨h.1,h.2.1,by simpa using h.2.2.1,zCa λy I=>?_⟩
 rcases nF I with I | rfl
 ·exact yK h.2.2.2 I
 ·exact J
theorem zSU {e:Tm} (h:e.G):e.apl.1.G:=by
 cases e with
 | mk k nm ot n ty re l=>
 have g:∀ i,(l.getD i tm0).G:=λi=>zQg (e:=.mk k nm ot n ty re l) h
 have I:∀ i j,((l.getD i tm0).pt j).G:=λi j=>zQg (g i)
 simp only [Tm.apl,Tm.opr]
 have s:∀ (t b:Tm) (x:ByteArray),t.G->b.G->(t.sb x b).G:=λt b x J O=>zPO _ t x b J O
 have U:∀ k n,(zKO k n).G:=λk n=>by simp [zKO,Tm.G,zJb,Ty.cnt,zG]
 have nn:∀ x:Tm,x.G->(Tm.nod 10 [x]).G:=λx Y=>by simpa [Tm.nod,Tm.G,zJb,Ty.cnt,zG] using Y
 (repeat' split)<;>first | exact h | exact g _ | exact I _ _ | exact s _ _ _ (I _ _) (g _) | exact s _ _ _ (s _ _ _ (I _ _) (g _)) (g _) | exact s _ _ _ (g _) (g _) | exact U _ _ | exact nn _ (g _)
theorem zSI {S:Tm->Tm × Int} (hS:∀ x:Tm,x.G->(S x).1.G):∀ (t:Tm) (m:Int),t.G->(t.cod S m).1.G:=by
 refine Tm.ind λk nm ot n ty re l ih m h=>?_
 simp only [Tm.cod]
 split
 ·unfold zQY
  split
  ·split
   ·exact zQg (zQg h)
   ·exact h
  ·exact zQS h (hS _ (zQg h))
 ·have key:∀ (xs:List Tm),(∀ x∈xs,x∈l)->∀ l' r,yG S xs (zW k m)=some (l',r)->l'.length=xs.length/\∀ x∈l',x.G:=by
   intro xs
   induction xs with
   | nil=>intro _ l' r h;simp [yG] at h
   | cons x xs O=>
     intro U l' r I
     have J:=U x (by simp)
     simp only [yG] at I
     split at I
     ·cases I
      refine ⟨by simp,λy hy=>?_⟩
      rcases oF.1 hy with rfl | hy
      ·exact ih x J _ (yK h.2.2.2 J)
      ·exact yK h.2.2.2 (U y (by simp [hy]))
     ·split at I
      ·cases I
      ·rename_i l2 r2 h3
       cases I
       obtain ⟨Y,b2⟩:=O (λy hy=>U y (by simp [hy])) _ _ h3
       refine ⟨by simp [Y],λy hy=>?_⟩
       rcases oF.1 hy with rfl | hy
       ·exact yK h.2.2.2 J
       ·exact b2 y hy
  cases hc:yG S l (zW k m) with
  | none=>exact h
  | some p=>
    obtain ⟨l',r⟩:=p
    obtain ⟨Y,b2⟩:=key l (λx J=>J) l' r hc
    exact ⟨h.1,h.2.1,by rw [Y];exact h.2.2.1,zCa b2⟩
theorem zQs:∀ (f:Nat) (e:Tm),e.G->(e.stp f).1.G
 | 0,e,h=>h
 | f + 1,.mk k nm ot n ty re l,h=>by
   have I:=zQs f
   simp only [Tm.stp]
   split
   ·exact h
   ·by_cases J:(Tm.mk k nm ot n ty re l).kd=10
    ·rw [if_pos J]
     exact zQS h (zSI I _ 1 (zQg h))
    ·rw [if_neg J]
     cases O:goS (Tm.stp f) (Tm.mk k nm ot n ty re l) (l.take (qQ k l.length)) 0 with
     | none=>exact zSU h
     | some r=>
       obtain ⟨j,x,U,Y,rfl⟩:=rI O
       exact zQS h (I x (yK h.2.2.2 (List.take_subset _ _ (oB U))))
/-- steps of parts -/
def zQf (F:FuncId) (f:Nat):Prop:=∀ (e:Tm) (d:D),e.Is d->e.F f->zLy F [.dg 9 d] (e.stp f)
theorem Tm.F.dp {e:Tm} {f:Nat} (h:e.F f):e.dp<=1073741824:=h.b
theorem zRf {k:Int} {nm ot:ByteArray} {n:Int} {ty re:Ty} {l:List Tm} {i:Nat}:(Tm.mk k nm ot n ty re l).pt i=l.getD i tm0:=rfl
theorem zCZ {t y:Tm} {d dy:D} (h:t.Is d) (I:t.G) (J:y.Is dy) {i:Nat} (hi:i<t.as.length) (N:Nat) (Q:QT [.ag 9]) (O:∀ d' N',N<=N'->(t.wth i y).Is d'->Q d' N') :
  ACalls prog 78 [.ag 9] [.dg 9 d,.j (i:Int),.dg 9 dy] N Q:=
 zDl N _ _ _ Q λ_ _ N1 U=>zST s5 h I J hi (λd N=>Q d N) λd' N' h1 Y=>O _ _ (by omega) Y
theorem zEu {f:Nat} (hS:zQf 45 f) {k n0:Int} {nm ot:ByteArray} {ty re:Ty} {l:List Tm} {d:D} (h:(Tm.mk k nm ot n0 ty re l).Is d) (O:(Tm.mk k nm ot n0 ty re l).F (f+1)) {i:Nat} (hi:i<l.length) :
  zLy 99 [.dg 9 d,.j (i:Int)] ((Tm.mk k nm ot n0 ty re l).wth i (Tm.stp f (l.getD i tm0)).1,(Tm.stp f (l.getD i tm0)).2):=λN Q U=>by
 obtain ⟨t0,t1,r0,r1,a,es,c,rfl,hh,Y,I⟩:=Tm.is_mk.1 h
 have hl:=I.len
 refine zHf N _ _ Q λ_=>⟨_,_,_,rfl,⟨by omega,by omega⟩,λN1 aa=>?_⟩
 rw [oK]
 refine hS _ _ (v6 I hi) (O.mem _ (zU hi)) N1 _ λdx N2 ab hx _ _=>Br.beq (λh0 N3 ac=>?_) λh0 N4 ae=>?_
 ·refine U _ _ (by omega) ?_
  have e1:=zOy f _ h0
  simp only
  rw [e1,<-zRf (k:=k) (nm:=nm) (ot:=ot) (n:=n0) (ty:=ty) (re:=re),zJX]
  exact h
 ·exact zCZ h O.z.g hx hi N4 _ λd' N5 ah J _ _ N6 ai=>U _ _ (by omega) J
theorem zMc {f:Nat} (hS:zQf 45 f):∀ (t:Tm) (d:D),t.Is d->t.F (f+1)->∀ m:Int,LvIn m t.dp->zRM 77 [.dg 9 d,.j m] (t.cod (Tm.stp f) m):=by
 refine Tm.ind λk nm ot n0 ty re l ih d hd hF m hm N Q J=>?_
 have Y:=hd
 obtain ⟨t0,t1,r0,r1,a,es,c,rfl,hh,aj,ab⟩:=Tm.is_mk.1 hd
 have hl:=ab.len
 have loop:¬(k=11/\m=1)->yF Q N m 0 (.ag [.j k,.t nm,.t ot,.j n0,t0,t1,r0,r1,.sl a 9 es c]) 0 (bytes []) (bytes []) 0 0 none [] 0 0 none [] 0 none [] 0 N:=λao=>by
  simp only [Tm.cod] at J
  rw [if_neg ao] at J
  refine up ab aj (λi xs=>∀ N',N<=N'->(match yG (Tm.stp f) xs (zW k m) with | none=>yG (Tm.stp f) l (zW k m)=none | some (l',r)=>yG (Tm.stp f) l (zW k m)=some (l.take i++l',r)) ->
   yF Q N m i (.ag [.j k,.t nm,.t ot,.j n0,t0,t1,r0,r1,.sl a 9 es c]) 0 (bytes []) (bytes []) 0 0 none [] 0 0 none [] 0 none [] 0 N') ?_ ?_ N (oD _) ?_
  ·intro i aq hi N' au O
   simp only [yG] at O
   rw [O] at J
   refine u5 _ _ _ _ _ _ _ _ _ _ _ _ _ _ _ _ _ _ _ _ _ ⟨_,_,_,rfl,?_⟩
   rw [aq]
   exact λN2 ak=>J _ _ (by omega) Y
  ·intro i x xs I aw ax N' au O
   have hb:=I.b
   have al:i<l.length:=(oC.1 I.g).1
   refine u5 _ _ _ _ _ _ _ _ _ _ _ _ _ _ _ _ _ _ _ _ _ ⟨_,_,_,rfl,?_⟩
   rw [I.lt,oK,I.w]
   refine ⟨_,_,_,rfl,⟨by omega,by omega⟩,λN1 ay=>zGv hm.b N1 _ λN2 ak _ N3 az=>?_⟩
   refine ih x I.m _ I.r ((hF.mem x I.m).up (by omega)) _ (hm.next (dp_mem I.m)) N3 _ λdx N4 a3 hx _ _=>Br.of (λhv N5 a4=>?_) λhv=>?_
   ·simp only [yG] at O
    rw [if_pos hv] at O
    simp only at O
    rw [O] at J
    refine zCZ Y hF.z.g hx al N5 _ λd' N6 a5 ac _ _ N7 a6=>J _ _ (by omega) ?_
    have:l.take i++(x.cod (Tm.stp f) (zW k m)).1::xs=l.set i (x.cod (Tm.stp f) (zW k m)).1:=by
     rw [List.set_eq_take_append_cons_drop,if_pos al,aw]
    simp only
    rw [this]
    exact ac
   ·refine ax _ (by omega) ?_
    simp only [yG] at O
    rw [if_neg (by rw [hv];decide)] at O
    cases hc:yG (Tm.stp f) xs (zW k m) with
    | none=>rw [hc] at O;exact O
    | some p=>
      obtain ⟨l',r⟩:=p
      rw [hc] at O
      simp only at O ⊢
      rw [O,vH I.g,nw];rfl
  ·cases hc:yG (Tm.stp f) l (zW k m) with
   | none=>rfl
   | some p=>obtain ⟨l',r⟩:=p;simp
 refine zDa N _ m Q λ_=>⟨_,rfl,Br.beq (λh1=>Br.beq (λh2=>?_) λh2=>loop λh=>h2 h.2) λh1=>loop λh=>h1 h.1⟩
 have ba:=(vp hF.ok).1 (by omega)
 have ae:0<l.length:=by omega
 have am:=zU ae
 have U:=hF.mem _ am
 have ah:=v6 ab ae
 simp only [Tm.cod] at J
 rw [if_pos ⟨h1,h2⟩] at J
 unfold zQY at J
 rw [zRf] at J
 refine ⟨_,_,_,rfl,⟨by omega,by omega⟩,λN1 ay=>zi ah U.ok U.dp N1 _ λN2 ak _=>Br.not (λhr N3 az=>?_) λhr=>?_⟩
 ·rw [if_neg (by rw [hr];decide)] at J
  exact zEu hS Y hF ae N3 _ λdx N4 a3 hx _ _ N5 a4=>J _ _ (by omega) hx
 ·rw [if_pos hr] at J
  generalize l.getD 0 tm0=p at ah U hr J am
  cases p with
  | mk pk pn po pm pt pr pl=>
  obtain ⟨u0,u1,v0,v1,a2,bb,c2,heq,bc,a7,aa⟩:=Tm.is_mk.1 ah
  have bg:=aa.len
  rw [heq]
  refine ⟨_,rfl,Br.beq (λai=>?_) λai bh a9=>?_⟩
  ·rw [if_pos (by exact ai)] at J
   have bi:=(vp U.ok).1 (by omega)
   have a8:=zU (l:=pl) (i:=0) (by omega)
   refine ⟨_,_,_,rfl,⟨by omega,by omega⟩,λN6 a5=>?_⟩
   refine zLI s5 (v6 aa (j:=0) (by omega)) (yK U.z.g.2.2.2 a8) (N0:=N) (by omega) (λd N=>Q d 6 true N) λd' N7 a6 ac _=>J _ _ (by omega) ac
  ·rw [if_neg (by exact ai)] at J
   exact J _ _ (by omega) Y
def zH6 (l:List Tm) (i:Nat):List D:=[.j (if 0<i then (l.getD 0 tm0).no else 0),.j (if 1<i then (l.getD 1 tm0).no else 0)]
theorem zNq {l:List Tm} {i:Nat} (hi:i<2):(zH6 l i).set i (.j ((l.getD i tm0).no))=zH6 l (i+1):=by
 match i,hi with
 | 0,_=>rfl
 | 1,_=>rfl
theorem zGC {l:List Tm} {i:Nat} (h:l.length<=i):l.getD i tm0=tm0:=by rw [oA,oT h];rfl
theorem zNH {l:List Tm} (h:l.length<=2):zH6 l l.length=[.j ((l.getD 0 tm0).no),.j ((l.getD 1 tm0).no)]:=by
 unfold zH6
 by_cases I:0<l.length
 ·by_cases J:1<l.length
  ·rw [if_pos I,if_pos J]
  ·rw [if_pos I,if_neg J,zGC (i:=1) (by omega)];rfl
 ·rw [if_neg I,if_neg (by omega),zGC (i:=0) (by omega),zGC (i:=1) (by omega)];rfl
theorem zQR (s:ByteArray):zGY s<=2:=by unfold zGY;(repeat' split)<;>decide
theorem zN2 (n:Int) (N:Nat) (Q:QT [.ag 9]) (J:∀ d N',N<=N'->(zKO 2 n).Is d->Q d N'):ACalls prog 85 [.ag 9] [.j n] N Q:=zA3 N n Q λN1 I=>J _ _ I zLv
theorem zLQ (n:Int) (N:Nat) (Q:QT [.ag 9]) (J:∀ d N',N<=N'->(zKO 3 n).Is d->Q d N'):ACalls prog 86 [.ag 9] [.j n] N Q:=zAF N n Q λN1 I=>J _ _ I zLv
theorem zEw {S:Tm->Tm × Int} {e:Tm} {i:Nat} {x:Tm} {xs:List Tm} (h:x.res=true):goS S e (x::xs) i=goS S e xs (i+1):=by simp [goS,h]
theorem zPD {n0:Int} {nm ot:ByteArray} {ty re:Ty} {l:List Tm} (h:∀ x∈l,x.kd=wh nm):(Tm.mk 4 nm ot n0 ty re l).opr l=(zKO (zAq nm) (yS nm (l.getD 0 tm0).no (l.getD 1 tm0).no).1,1):=by
 unfold Tm.opr
 rw [if_pos (oZ.2 λx I=>by rw [h x I];exact beq_self_eq_true _)]
 rfl
theorem zPZ {n0:Int} {nm ot:ByteArray} {ty re:Ty} {l:List Tm} {x:Tm} (I:x∈l) (h:x.kd≠wh nm):(Tm.mk 4 nm ot n0 ty re l).opr l=(Tm.mk 4 nm ot n0 ty re l,0):=by
 unfold Tm.opr
 rw [if_neg λhc=>h (by have:=oZ.1 hc _ I;simpa [Tm.nm] using this)]
/-- an operation of results -/
theorem zLF {n0:Int} {nm ot:ByteArray} {ty re:Ty} {l:List Tm} {t0 t1 r0 r1:D} {a:Option Addr} {es:List D} {c:Nat} (ae:(Tm.mk 4 nm ot n0 ty re l).Is (.ag [.j 4,.t nm,.t ot,.j n0,t0,t1,r0,r1,.sl a 9 es c])) (ab:All2 Tm.Is l es) (ac:es.length<=4611686018427387904) (ah:l.length<=2) {N:Nat} {Q:QT [.ag 9,.i]} (U:∀ d N',N<=N'->((Tm.mk 4 nm ot n0 ty re l).opr l).1.Is d->Q d ((Tm.mk 4 nm ot n0 ty re l).opr l).2 N') (N':Nat) (O:N<=N') :
  yY Q N (wh nm) 2 2 0 (.ag [.j 4,.t nm,.t ot,.j n0,t0,t1,r0,r1,.sl a 9 es c]) 0 (bytes []) (bytes []) 0 0 none [] 0 0 none [] 0 none [] 0 [.j 0,.j 0] 2 N':=by
 have hl:=ab.len
 refine up ab ac (λi xs=>∀ N',N<=N'->(∀ j x,j<i->l[j]?=some x->x.kd=wh nm)->yY Q N (wh nm) 2 2 i (.ag [.j 4,.t nm,.t ot,.j n0,t0,t1,r0,r1,.sl a 9 es c]) 0 (bytes []) (bytes []) 0 0 none [] 0 0 none [] 0 none [] 0 (zH6 l i) 2 N') ?_ ?_ N' O (λj x h=>absurd h (by omega))
 ·intro i ai hi N' O hk
  rw [zPD λx Y=>by
   obtain ⟨j,hj⟩:=oR.1 Y
   exact hk j x (by have:=(oC.1 hj).1;omega) hj] at U
  refine sx _ _ _ _ _ _ _ _ _ _ _ _ _ _ _ _ _ _ _ _ _ _ _ _ _ ⟨_,_,_,rfl,?_⟩
  rw [ai]
  have aj:i=l.length:=by omega
  rw [aj,zNH ah]
  refine ⟨_,rfl,⟨⟨by omega,by omega,by simp⟩,by simp,_,rfl,⟨by omega,by omega,by simp⟩,by simp,_,rfl,λN2 az=>zDs _ _ _ N2 _ λN3 a3 _=>⟨_,rfl,?_⟩⟩⟩
  have J:zFb nm=true->∀ N4,N3<=N4->ACalls prog 85 [.ag 9] [.j (yS nm (l.getD 0 tm0).no (l.getD 1 tm0).no).1] N4 (λx N5=>N4<=N5->Bel N5 x->∀ N6,N5<=N6->Q x 1 N6):=λho N4 ak=>by
   rw [show zAq nm=2 by unfold zAq;rw [if_pos ho]] at U
   exact zN2 _ N4 _ λx N5 al Y _ _ N6 am=>U _ _ (by omega) Y
  refine Br.str (λe1=>J (by simp [zFb,e1])) λe1=>⟨_,rfl,Br.str (λe2=>J (by simp [zFb,e2])) λe2=>⟨_,rfl,Br.str (λe3=>J (by simp [zFb,e3])) λe3 N4 ak=>?_⟩⟩
  rw [show zAq nm=3 by unfold zAq;rw [if_neg (by simp [zFb,e1,e2,e3])]] at U
  exact zLQ _ N4 _ λx N5 al Y _ _ N6 am=>U _ _ (by omega) Y
 ·intro i x xs I a4 ao N' O hk
  have hb:=I.b
  have Y:=I.r
  refine sx _ _ _ _ _ _ _ _ _ _ _ _ _ _ _ _ _ _ _ _ _ _ _ _ _ ⟨_,_,_,rfl,?_⟩
  rw [I.lt,oK,I.w]
  have aq:l.getD i tm0=x:=by rw [oA,I.g];rfl
  cases x with
  | mk pk pn po pm pt pr pl=>
  obtain ⟨u0,u1,v0,v1,a2,a5,c2,heq,a6,au,ay⟩:=Tm.is_mk.1 Y
  refine ⟨_,_,_,rfl,⟨by omega,by omega⟩,pk,by rw [heq];rfl,Br.bne (λaw N1 a7=>?_) λhe=>⟨_,_,_,rfl,⟨by omega,by omega⟩,pm,by rw [heq];rfl,⟨by omega,by omega,by simp only [zH6,oO,oX];omega⟩,by simp only [zH6,oO,oX];omega,?_⟩⟩
  ·rw [zPZ I.m aw] at U
   exact U _ _ (by omega) ae
  ·rw [nJ]
   have aa:=zNq (l:=l) (i:=i) (by omega)
   rw [aq] at aa
   simp only [Tm.no] at aa
   rw [aa]
   refine ao _ O λj y hj hy=>?_
   by_cases ax:j<i
   ·exact hk j y ax hy
   ·have:j=i:=by omega
    subst this
    rw [I.g] at hy
    rw [<-oW hy];exact he
/-- an operation -/
theorem zPe {f:Nat} (hS:zQf 45 f) {n0:Int} {nm ot:ByteArray} {ty re:Ty} {l:List Tm} {d:D} (hd:(Tm.mk 4 nm ot n0 ty re l).Is d) (hF:(Tm.mk 4 nm ot n0 ty re l).F (f+1)) {r:Tm × Int} (hr:(match goS (Tm.stp f) (Tm.mk 4 nm ot n0 ty re l) l 0 with | some r=>r | none=>(Tm.mk 4 nm ot n0 ty re l).opr l)=r) :
  zLy 75 [.dg 9 d] r:=λN Q hQ=>by
 have aa:=hd
 obtain ⟨t0,t1,r0,r1,a,es,c,rfl,hh,U,Y⟩:=Tm.is_mk.1 hd
 have hl:=Y.len
 have ae:l.length<=2:=by
  have h1:=(vp hF.ok).2.2.2.2 rfl
  have h2:=zQR nm
  omega
 have J:(∀ x∈l,x.res=true)->∀ N',N<=N'->yY Q N (wh nm) 2 2 0 (.ag [.j 4,.t nm,.t ot,.j n0,t0,t1,r0,r1,.sl a 9 es c]) 0 (bytes []) (bytes []) 0 0 none [] 0 0 none [] 0 none [] 0 [.j 0,.j 0] 2 N':=λab N' O=>by
  have hg:goS (Tm.stp f) (Tm.mk 4 nm ot n0 ty re l) l 0=none:=by
   have:∀ (xs:List Tm) (i:Nat),(∀ x∈xs,x.res=true)->goS (Tm.stp f) (Tm.mk 4 nm ot n0 ty re l) xs i=none:=by
    intro xs
    induction xs with
    | nil=>intro i _;rfl
    | cons x xs ih=>intro i h;rw [zEw (h x (by simp))];exact ih _ λy hy=>h y (by simp [hy])
   exact this l 0 ab
  rw [hg] at hr
  simp only at hr
  subst hr
  exact zLF aa Y U ae hQ N' O
 have first:yE Q N (wh nm) 2 2 0 (.ag [.j 4,.t nm,.t ot,.j n0,t0,t1,r0,r1,.sl a 9 es c]) 0 (bytes []) (bytes []) 0 0 none [] 0 0 none [] 0 none [] 0 [.j 0,.j 0] 2 N:=by
  refine up Y U (λi xs=>∀ N',N<=N'->(∀ j x,j<i->l[j]?=some x->x.res=true)->(match goS (Tm.stp f) (Tm.mk 4 nm ot n0 ty re l) xs i with | some r=>r | none=>(Tm.mk 4 nm ot n0 ty re l).opr l)=r->yE Q N (wh nm) 2 2 i (.ag [.j 4,.t nm,.t ot,.j n0,t0,t1,r0,r1,.sl a 9 es c]) 0 (bytes []) (bytes []) 0 0 none [] 0 0 none [] 0 none [] 0 [.j 0,.j 0] 2 N') ?_ ?_ N (oD _) (λj x h=>absurd h (by omega)) hr
  ·intro i ah hi N' O hk _
   refine ry _ _ _ _ _ _ _ _ _ _ _ _ _ _ _ _ _ _ _ _ _ _ _ _ _ ⟨_,_,_,rfl,?_⟩
   rw [ah]
   refine J (λx hx=>?_) N' O
   obtain ⟨j,hj⟩:=oR.1 hx
   exact hk j x (by have:=(oC.1 hj).1;omega) hj
  ·intro i x xs I al ai N' O hk he
   have hb:=I.b
   have aj:i<l.length:=(oC.1 I.g).1
   obtain rfl:l.getD i tm0=x:=by rw [oA,I.g];rfl
   have ac:=hF.mem _ I.m
   refine ry _ _ _ _ _ _ _ _ _ _ _ _ _ _ _ _ _ _ _ _ _ _ _ _ _ ⟨_,_,_,rfl,?_⟩
   rw [I.lt,oK,I.w]
   refine ⟨_,_,_,rfl,⟨by omega,by omega⟩,λN1 am=>zi I.r ac.ok ac.dp N1 _ λN2 ao _=>Br.not (λhv N3 aq=>?_) λhv=>?_⟩
   ·simp only [goS] at he
    rw [if_neg (by rw [hv];decide)] at he
    simp only at he
    subst he
    exact zEu hS aa hF aj N3 _ λdx N4 au hx _ _ N5 aw=>hQ _ _ (by omega) hx
   ·rw [zEw hv] at he
    refine ai _ (by omega) (λj y hj hy=>?_) he
    by_cases ak:j<i
    ·exact hk j y ak hy
    ·have:j=i:=by omega
     subst this
     rw [I.g] at hy
     rw [<-oW hy];exact hv
 refine zGp N _ Q λ_=>⟨_,rfl,Br.str (λe1=>?_) λe1=>⟨_,rfl,Br.str (λe2=>?_) λe2=>⟨_,rfl,Br.str (λe3=>?_) λe3=>?_⟩⟩⟩
 ·have:wh nm=3:=by simp [wh,qt,e1]
  rw [this] at first;exact first
 ·have:wh nm=3:=by simp [wh,qt,e2]
  rw [this] at first;exact first
 ·have:wh nm=3:=by simp [wh,qt,e3]
  rw [this] at first;exact first
 ·have:wh nm=2:=by simp [wh,qt,e1,e2,e3]
  rw [this] at first;exact first
end Go.Proofs.YtnmnahkkcfghjaaGreat
