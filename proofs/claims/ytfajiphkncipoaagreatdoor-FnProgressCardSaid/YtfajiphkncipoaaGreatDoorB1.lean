/- Steps: what they come to (no program in sight). -/
import Derived.Test.YtfajiphkncipoaaGreatDoorA9
import Derived.Test.YtfajiphkncipoaaGreatDoorA6
import Derived.Test.YtfajiphkncipoaaGreatDoorKf
import Derived.Test.YtfajiphkncipoaaGreatDoorKh
set_option linter.unusedVariables false
set_option linter.unusedSimpArgs false
namespace Go.Proofs.YtfajiphkncipoaaGreatDoor
open Go Go.Proofs Go.Proofs.Tryz Go.IntWalk
def red (n:Int):Int:=n % 10007
def bI (b:Bool):Int:=if b then 1 else 0
def yZ (s:ByteArray) (a b:Int):Int × Bool:=
 if inB a 0 10006=true then (if inB b 0 10006=true then
  (if s=bytes [43] then (red (a+b),true) else if s=bytes [45] then (red (a - b),true) else if s=bytes [42] then (red (a*b),true)
  else if s=bytes [61] then (bI (a==b),true) else if s=bytes [60] then (bI (decide (a<b)),true)
  else if s=bytes [38] then (bI (a==1&&b==1),true) else if s=bytes [124] then (bI (a==1||b==1),true)
  else if s=bytes [33] then (bI (a==0),true) else (0,false)) else (0,false)) else (0,false)
def zKp (k n:Int):Tm:=.mk k (bytes []) (bytes []) n (.mk 0 []) (.mk 0 []) []
def Tm.kd:Tm->Int | .mk k _ _ _ _ _ _=>k
def Tm.no:Tm->Int | .mk _ _ _ n _ _ _=>n
def Tm.nm:Tm->ByteArray | .mk _ nm _ _ _ _ _=>nm
def Tm.ot:Tm->ByteArray | .mk _ _ ot _ _ _ _=>ot
def Tm.pt:Tm->Nat->Tm | .mk _ _ _ _ _ _ l,i=>l.getD i tm0
def Tm.wth:Tm->Nat->Tm->Tm | .mk k nm ot n ty re l,i,x=>.mk k nm ot n ty re (l.set i x)
mutual
/-- no splice of level 1 -/
def Tm.made:Tm->Int->Bool
 | .mk k _ _ _ _ _ l,n=>!(k==11&&n==1)&&wB l (zR k n)
def wB:List Tm->Int->Bool
 | [],_=>true
 | t::I,n=>t.made n&&wB I n
end
def zKu (k:Int):Bool:=k==2||(k==3||(k==6||k==9))
/-- a result, of what is a term -/
def Tm.res (t:Tm):Bool:=zKu t.kd||(t.kd==10&&(t.lev 0&&(t.pt 0).made 1))
def wW (s:ByteArray):Bool:=decide (s=bytes [38])||(decide (s=bytes [124])||decide (s=bytes [33]))
def zLX (s:ByteArray):Bool:=decide (s=bytes [43])||(decide (s=bytes [45])||decide (s=bytes [42]))
def zf (nm:ByteArray):Int:=if wW nm then 3 else 2
def zEB (nm:ByteArray):Int:=if zLX nm then 2 else 3
/-- an operation of literals -/
def Tm.opr (e:Tm) (l:List Tm):Tm × Int:=
 if l.all (λx=>x.kd==zf e.nm) then
  (zKp (zEB e.nm) (yZ e.nm (l.getD 0 tm0).no (l.getD 1 tm0).no).1,1)
 else (e,0)
def Tm.sb (e:Tm) (x:ByteArray) (b:Tm):Tm:=e.sub e.dp x b
/-- the rule for a form whose parts that must be are results -/
def Tm.apl:Tm->Tm × Int
 | .mk k nm ot n ty re l=>
   if k=4 then (Tm.mk k nm ot n ty re l).opr l
   else if k=5 then (if (l.getD 0 tm0).kd=3 then (l.getD (2 - (l.getD 0 tm0).no).toNat tm0,2) else (.mk k nm ot n ty re l,0))
   else if k=7 then
    (if (l.getD 0 tm0).kd=6 then (((l.getD 0 tm0).pt 0).sb (l.getD 0 tm0).nm (l.getD 1 tm0),3)
    else if (l.getD 0 tm0).kd=9 then ((((l.getD 0 tm0).pt 0).sb (l.getD 0 tm0).nm (l.getD 0 tm0)).sb (l.getD 0 tm0).ot (l.getD 1 tm0),4)
    else (.mk k nm ot n ty re l,0))
   else if k=8 then ((l.getD 1 tm0).sb nm (l.getD 0 tm0),5)
   else if k=12 then (if (l.getD 0 tm0).kd=10 then ((l.getD 0 tm0).pt 0,7) else (.mk k nm ot n ty re l,0))
   else if k=13 then (if (l.getD 0 tm0).kd=2\/(l.getD 0 tm0).kd=3 then (Tm.nod 10 [l.getD 0 tm0],8) else (.mk k nm ot n ty re l,0))
   else (.mk k nm ot n ty re l,0)
/-- how many parts must be results -/
def uZ (k:Int) (n:Nat):Nat:=if k=4\/k=7 then n else if k=5\/k=8\/k=12\/k=13 then 1 else 0
/-- the first part that is no result, stepped -/
def goS (S:Tm->Tm × Int) (e:Tm):List Tm->Nat->Option (Tm × Int)
 | [],_=>none
 | x::xs,i=>if x.res then goS S e xs (i+1) else some (e.wth i (S x).1,(S x).2)
/-- a splice of level 1 -/
def zRD (S:Tm->Tm × Int) (e:Tm):Tm × Int × Bool:=
 if (e.pt 0).res then (if (e.pt 0).kd=10 then ((e.pt 0).pt 0,6,true) else (e,0,true)) else (e.wth 0 (S (e.pt 0)).1,(S (e.pt 0)).2,true)
mutual
/-- the first splice of level 1 in a part at a level -/
def Tm.cod (S:Tm->Tm × Int):Tm->Int->Tm × Int × Bool
 | .mk k nm ot n ty re l,m=>if k=11/\m=1 then zRD S (.mk k nm ot n ty re l) else
   match yB S l (zR k m) with
   | none=>(.mk k nm ot n ty re l,0,false)
   | some (l',r)=>(.mk k nm ot n ty re l',r,true)
def yB (S:Tm->Tm × Int):List Tm->Int->Option (List Tm × Int)
 | [],_=>none
 | t::I,m=>if (t.cod S m).2.2 then some ((t.cod S m).1::I,(t.cod S m).2.1) else
   match yB S I m with
   | none=>none
   | some (l',r)=>some (t::l',r)
end
def Tm.stp:Nat->Tm->Tm × Int
 | 0,e=>(e,0)
 | f+1,e=>if e.res then (e,0) else if e.kd=10 then (e.wth 0 ((e.pt 0).cod (Tm.stp f) 1).1,((e.pt 0).cod (Tm.stp f) 1).2.1)
   else match e with
    | .mk k nm ot n ty re l=>match goS (Tm.stp f) (.mk k nm ot n ty re l) (l.take (uZ k l.length)) 0 with
      | some r=>r
      | none=>(Tm.mk k nm ot n ty re l).apl
theorem zKw (e:Tm) (i:Nat):e.wth i (e.pt i)=e:=by
 cases e with
 | mk k nm ot n ty re l=>
 simp only [Tm.wth,Tm.pt]
 congr 1
 apply o8
 intro j
 rw [nJ]
 split
 ·rename_i h
  subst h
  split
  ·rename_i h;rw [zw h]
  ·rename_i h;rw [oX (by omega)]
 ·rfl
/-- no rule, no other term -/
def NoR (S:Tm->Tm × Int):Prop:=∀ x,(S x).2=0->(S x).1=x
theorem zRd {S:Tm->Tm × Int} (hS:NoR S):∀ (t:Tm) (m:Int),(t.cod S m).2.1=0->(t.cod S m).1=t:=by
 refine Tm.ind λk nm ot n ty re l ih m h=>?_
 simp only [Tm.cod] at h ⊢
 by_cases U:k=11/\m=1
 ·rw [if_pos U] at h ⊢
  unfold zRD at h ⊢
  split
  ·rename_i I
   rw [if_pos I] at h
   split
   ·rename_i J;rw [if_pos J] at h;exact absurd (show (6:Int)=0 from h) (by decide)
   ·rfl
  ·rename_i I
   rw [if_neg I] at h
   simp only at h ⊢
   rw [hS _ h,zKw]
 ·rw [if_neg U] at h ⊢
  have key:∀ xs:List Tm,(∀ x∈xs,x∈l)->∀ l' r,yB S xs (zR k m)=some (l',r)->r=0->l'=xs:=by
   intro xs
   induction xs with
   | nil=>intro _ l' r h;simp [yB] at h
   | cons x xs O=>
     intro Y l' r h hr
     simp only [yB] at h
     split at h
     ·cases h
      rw [ih x (Y x (by simp)) _ hr]
     ·split at h
      ·cases h
      ·rename_i l2 r2 J
       cases h
       rw [O (λy hy=>Y y (by simp [hy])) _ _ J hr]
  cases hc:yB S l (zR k m) with
  | none=>rfl
  | some p=>
    obtain ⟨l',r⟩:=p
    rw [hc] at h
    simp only at h ⊢
    rw [key l (λx hx=>hx) l' r hc h]
theorem zPY {S:Tm->Tm × Int} (J:NoR S) {e:Tm}:∀ {l:List Tm} {i:Nat} {r:Tm × Int},goS S e l i=some r->(∀ j x,l[j]?=some x->e.pt (i+j)=x)->r.2=0->r.1=e
 | [],_,_,h,_,_=>by simp [goS] at h
 | x::l,i,r,h,O,I=>by
   simp only [goS] at h
   split at h
   ·exact zPY J h (λj y U=>by rw [show i+1+j=i+(j+1) by omega];exact O (j+1) y (by simpa using U)) I
   ·cases h
    simp only at I ⊢
    rw [J x I]
    have:=O 0 x rfl
    rw [mO] at this
    rw [<-this,zKw]
theorem zRX {c:Prop} [Decidable c] {x y:Tm × Int} {e:Tm} (I:x.2=0->x.1=e) (J:y.2=0->y.1=e) (h:(if c then x else y).2=0):(if c then x else y).1=e:=by
 by_cases hc:c
 ·rw [if_pos hc] at h ⊢;exact I h
 ·rw [if_neg hc] at h ⊢;exact J h
theorem zSe {t e:Tm} {r:Int} (I:r≠0) (h:((t,r):Tm × Int).2=0):((t,r):Tm × Int).1=e:=absurd h I
theorem zRu (e:Tm) (h:e.apl.2=0):e.apl.1=e:=by
 cases e with
 | mk k nm ot n ty re l=>
 revert h
 simp only [Tm.apl,Tm.opr]
 repeat' first | exact λh=>zSe (by decide) h | exact λ_=>rfl | refine zRX ?_ ?_
theorem zPo:∀ f,NoR (Tm.stp f)
 | 0,e,_=>rfl
 | f + 1,.mk k nm ot n ty re l,h=>by
   have O:=zPo f
   simp only [Tm.stp] at h ⊢
   split
   ·rfl
   ·rename_i Y
    rw [if_neg Y] at h
    by_cases U:(Tm.mk k nm ot n ty re l).kd=10
    ·rw [if_pos U] at h ⊢
     simp only at h ⊢
     rw [zRd O _ _ h,zKw]
    ·rw [if_neg U] at h ⊢
     cases J:goS (Tm.stp f) (Tm.mk k nm ot n ty re l) (l.take (uZ k l.length)) 0 with
     | none=>
       rw [J] at h
       exact zRu _ h
     | some r=>
       rw [J] at h
       refine zPY O J (λj x I=>?_) h
       rw [o6]
       rw [ob] at I
       split at I
       ·simp only [Tm.pt];rw [oA,I];rfl
       ·cases I
/-- one step of a program -/
def Tm.step (e:Tm):Tm × Int:=if qx e 0 then (if (e.stp e.dp).2=0 then (e,0) else e.stp e.dp) else (e,0)
theorem zPW {a b:Int} (I:0<=a/\a<=10006) (J:0<=b/\b<=10006):0<=a*b/\a*b<=100120036:=by
 refine ⟨Int.mul_nonneg I.1 J.1,?_⟩
 have O:a*b<=10006*b:=Int.mul_le_mul_of_nonneg_right I.2 J.1
 omega
theorem zK7 (n:Int):(if Int.tmod n 10007<0 then Int.tmod n 10007+10007 else Int.tmod n 10007)=red n:=by
 unfold red
 by_cases h:0<=n
 ·rw [nW h,if_neg (by omega)]
 ·obtain ⟨m,rfl⟩:∃ m,n = -m:=⟨-n,by omega⟩
  rw [Int.neg_tmod,nW (by omega)]
  split<;>omega
theorem zPc (n:Int) : -10007<Int.tmod n 10007/\Int.tmod n 10007<10007:=by
 by_cases h:0<=n
 ·rw [nW h];omega
 ·obtain ⟨m,rfl⟩:∃ m,n = -m:=⟨-n,by omega⟩
  rw [Int.neg_tmod,nW (by omega)]
  omega
theorem zHB (n:Int):zBs 154 [.j n] (red n):=λN Q U=>by
 have Y:=zPc n
 have I:=zK7 n
 refine zGd N n Q ⟨by omega,Br.dec (λh N1 J=>?_) λh N2 O=>?_⟩
 ·rw [i64_in _ (by omega)]
  rw [if_pos h] at I
  exact Qi (U _ J) I.symm
 ·rw [if_neg h] at I
  exact Qi (U _ O) I.symm
theorem zGO (n:Int):zBs 169 [.j n] (red n):=λN Q J=>by
 have U:=zPc n
 have O:=zK7 n
 refine zGY N n Q ⟨by omega,by omega,λN1 I=>?_⟩
 rw [i64_in _ (by omega)]
 refine Qi (J _ I) ?_
 rw [<-O]
 generalize Int.tmod n 10007=m at *
 rw [nW (by omega)]
 split<;>omega
/-- returns this number and this truth value -/
def zRz (f:FuncId) (args:List PV) (r:Int × Bool):Prop:=∀ (N:Nat) (Q:QT [.i,.bool]),(∀ N',N<=N'->Q r.1 r.2 N')->ACalls prog f [.i,.bool] args N Q
theorem Qp {Q:QT [.i,.bool]} {a b:Int × Bool} {N:Nat} (h:Q a.1 a.2 N) (e:a=b):Q b.1 b.2 N:=e ▸ h
theorem zPM (b:Bool):zBs 155 [.bool b] (bI b):=λN Q J=>zIz N b Q (Br.of (λh N1 I=>Qi (J _ I) (by rw [h];rfl)) λh N1 I=>Qi (J _ I) (by rw [h];rfl))
theorem zR6 (b:Bool):zBs 170 [.bool b] (bI b):=λN Q J=>zLy N b Q (Br.of (λh N1 I=>Qi (J _ I) (by rw [h];rfl)) λh N1 I=>Qi (J _ I) (by rw [h];rfl))
theorem zE2 (s:ByteArray) (a b:Int):zRz 119 [.str s,.j a,.j b] (yZ s a b):=λN Q O=>by
 refine zEf N s a b Q λN1 ab=>xv _ _ _ N1 _ λN2 ac _=>?_
 by_cases I:inB a 0 10006=true
 rotate_left
 ·have I:inB a 0 10006=false:=by simpa using I
  rw [I]
  simp only [Bool.not_false,zHR]
  have e:yZ s a b=(0,false):=by unfold yZ;rw [if_neg (by rw [I];decide)]
  exact λN3 U=>Qp (b:=(0,false)) (O N3 (by omega)) e
 rw [I]
 simp only [lC,zCn]
 intro N4 ae
 refine xv _ _ _ N4 _ λN5 ah _=>?_
 by_cases J:inB b 0 10006=true
 rotate_left
 ·have J:inB b 0 10006=false:=by simpa using J
  rw [J]
  simp only [Bool.not_false,zHR]
  have e:yZ s a b=(0,false):=by unfold yZ;rw [if_pos I,if_neg (by rw [J];decide)]
  exact λN3 U=>Qp (b:=(0,false)) (O N3 (by omega)) e
 rw [J]
 simp only [lC,zCn]
 have Y:=xu.1 I
 have aa:=xu.1 J
 have hm:=zPW Y aa
 rw [i64_in (a+b) (by omega),i64_in (a - b) (by omega),i64_in (a*b) (by omega)]
 have fin:∀ (x:Int) (y:Bool) (N':Nat),N<=N'->yZ s a b=(x,y)->Q x y N':=λx y N' h e=>Qp (b:=(x,y)) (O N' h) e
 unfold yZ at fin
 rw [if_pos I,if_pos J] at fin
 clear O
 repeat' first|with_reducible intro _|simp only[Y1,Y2,Y3,Y4]|with_reducible refine X ?_ ?_|refine⟨_,_,_,rfl,?_⟩|refine⟨_,rfl,?_⟩|refine And.intro (by first|omega|trivial|(show _=_;rfl)|(with_reducible constructor)<;>first|omega|trivial|rfl) ?_|refine (zHB _) _ _ ?_|refine (zPM _) _ _ ?_|fail
 all_goals
  refine fin _ _ _ (by omega) ?_
  (repeat' split)<;>first | rfl | contradiction | (simp_all;done) | (congr 1;rw [show (a==1)=false by simpa using ‹¬a=1›];rfl)
theorem zEk (s:ByteArray) (a b:Int):zRz 142 [.str s,.j a,.j b] (yZ s a b):=λN Q O=>by
 refine zEc N s a b Q λN1 ab=>uO _ N1 _ λN2 ac _=>?_
 by_cases I:inB a 0 10006=true
 rotate_left
 ·have I:inB a 0 10006=false:=by simpa using I
  rw [I]
  simp only [Bool.not_false,zHR]
  have e:yZ s a b=(0,false):=by unfold yZ;rw [if_neg (by rw [I];decide)]
  exact λN3 U=>Qp (b:=(0,false)) (O N3 (by omega)) e
 rw [I]
 simp only [lC,zCn]
 intro N4 ae
 refine uO _ N4 _ λN5 ah _=>?_
 by_cases J:inB b 0 10006=true
 rotate_left
 ·have J:inB b 0 10006=false:=by simpa using J
  rw [J]
  simp only [Bool.not_false,zHR]
  have e:yZ s a b=(0,false):=by unfold yZ;rw [if_pos I,if_neg (by rw [J];decide)]
  exact λN3 U=>Qp (b:=(0,false)) (O N3 (by omega)) e
 rw [J]
 simp only [lC,zCn]
 have Y:=xu.1 I
 have aa:=xu.1 J
 have hm:=zPW Y aa
 rw [i64_in (a+b) (by omega),i64_in (a - b) (by omega),i64_in (a*b) (by omega)]
 have fin:∀ (x:Int) (y:Bool) (N':Nat),N<=N'->yZ s a b=(x,y)->Q x y N':=λx y N' h e=>Qp (b:=(x,y)) (O N' h) e
 unfold yZ at fin
 rw [if_pos I,if_pos J] at fin
 clear O
 repeat' first|with_reducible intro _|simp only[Y1,Y2,Y3,Y4]|with_reducible refine X ?_ ?_|refine⟨_,_,_,rfl,?_⟩|refine⟨_,rfl,?_⟩|refine And.intro (by first|omega|trivial|(show _=_;rfl)|(with_reducible constructor)<;>first|omega|trivial|rfl) ?_|refine (zGO _) _ _ ?_|refine (zR6 _) _ _ ?_|fail
 all_goals
  refine fin _ _ _ (by omega) ?_
  (repeat' split)<;>first | rfl | contradiction | (simp_all;done) | (congr 1;rw [show (a==1)=false by simpa using ‹¬a=1›];rfl)
/-- a term, not too deep, not too great -/
structure Tm.F (e:Tm) (f:Nat):Prop where
 ok:e.ok=true
 d:e.dp<=f
 g:e.G
 b:e.dp<=1073741824
 w:e.wd<=137438953472
theorem Tm.F.up {e:Tm} {f g:Nat} (h:e.F f) (I:f<=g):e.F g:=⟨h.ok,oS h.d I,h.g,h.b,h.w⟩
/-- how many parts a form has -/
theorem xH {k:Int} {nm ot:ByteArray} {n:Int} {ty re:Ty} {l:List Tm} (h:(Tm.mk k nm ot n ty re l).ok=true) :
  ((k=6\/k=9\/k=10\/k=11\/k=12\/k=13)->l.length=1)/\((k=7\/k=8)->l.length=2)/\(k=5->l.length=3)/\((k=1\/k=2\/k=3)->l.length=0)/\(k=4->(l.length:Int)=zCk nm):=by
 simp only [Tm.ok,oJ,nj] at h
 obtain ⟨_,_,h⟩:=h
 unfold zEX at h
 refine ⟨?_,?_,?_,?_,?_⟩
 ·rintro (rfl | rfl | rfl | rfl | rfl | rfl)<;>(simp at h;omega)
 ·rintro (rfl | rfl)<;>(simp at h;omega)
 ·rintro rfl;simp at h;omega
 ·rintro (rfl | rfl | rfl)<;>simpa using h
 ·rintro rfl;simpa using h
theorem Tm.F.mem {k:Int} {nm ot:ByteArray} {n:Int} {ty re:Ty} {l:List Tm} {f:Nat} (h:(Tm.mk k nm ot n ty re l).F (f+1)):∀ y∈l,y.F f:=λy I=>by
 have J:=h.ok
 have O:=h.d
 have Y:=h.b
 have U:=h.w
 have h7:=(xH h.ok).2.2.2.1
 simp only [Tm.ok,oJ] at J
 simp only [Tm.dp] at O Y
 have h4:=wE I
 have h5:∀ {l:List Tm},tK l=true->∀ x∈l,x.ok=true:=λ{l}=>by
  induction l with
  | nil=>intro _ x hx;simp at hx
  | cons t ts ih=>
    intro h x hx
    simp only [tK,oJ] at h
    rcases oF.1 hx with rfl | hx
    ·exact h.1
    ·exact ih h.2 x hx
 refine ⟨h5 J.1 y I,r9.1 (m8 O) y I,zj h.g.2.2.2 I,by omega,?_⟩
 have h8:=zx I
 simp only [Tm.wd] at U
 split at U
 ·rename_i hk
  rw [oU (h7 (.inl hk))] at I
  simp at I
 ·omega
theorem zTK:∀ t:Tm,t.ok=true->t.V:=by
 refine Tm.ind λk nm ot n ty re l I h=>?_
 refine ⟨λJ=>oU ((xH h).2.2.2.1 (.inl J)),t7.2 λx hx=>I x hx ?_⟩
 simp only [Tm.ok,oJ] at h
 have O:∀ {l:List Tm},tK l=true->∀ x∈l,x.ok=true:=λ{l}=>by
  induction l with
  | nil=>intro _ x hx;simp at hx
  | cons t U I=>
    intro h x hx
    simp only [tK,oJ] at h
    rcases oF.1 hx with rfl | hx
    ·exact h.1
    ·exact I h.2 x hx
 exact O h.1 x hx
theorem zNP:∀ t:Tm,t.ok=true->t.A3:=by
 refine Tm.ind λk nm ot n ty re l J h=>?_
 have nd:=yz h
 have O:=nd.ar
 have U:=tC k nm
 exact ⟨by omega,uT.2 λx I=>J x I (nd.sub x I)⟩
theorem Tm.F.ofW {e:Tm} {f:Nat} (I:e.ok=true) (J:e.dp<=f) (O:e.G) (U:e.dp<=1073741824) (Y:e.wd<=137438953472):e.F f:=⟨I,J,O,U,Y⟩
theorem Tm.F.of {e:Tm} {f:Nat} (I:e.ok=true) (J:e.dp<=f) (O:e.cnt<=4000000):e.F f:=⟨I,J,Tm.G_cnt e (by omega),by have:=e.dp_cnt;omega,by have:=Tm.vc_cnt e;have:=e.wd_vc;omega⟩
theorem Tm.F.z {e:Tm} {f:Nat} (h:e.F f):e.Z:=⟨h.g,by have:=h.w;omega,zTK _ h.ok⟩
theorem zJ {l:List Tm} {i:Nat} (h:i<l.length):l.getD i tm0∈l:=oB (zw h)
theorem zJq {e:Tm} (I:e.ok=true) (J:e.kd=3):e.no=0\/e.no=1:=by
 cases e with
 | mk k nm ot n ty re l=>
 simp only [Tm.kd] at J
 subst J
 simp only [Tm.ok,oJ] at I
 have O:=I.2.1
 simp only [zU,oJ,inB] at O
 simp at O
 simp only [Tm.no]
 omega
/-- a term and a number -/
def zJh (f:FuncId) (args:List PV) (r:Tm × Int):Prop:=∀ (N:Nat) (Q:QT [.ag 9,.i]),(∀ d N',N<=N'->r.1.Is d->Q d r.2 N')->ACalls prog f [.ag 9,.i] args N Q
def zPn (f:FuncId) (args:List PV) (r:Tm × Int × Bool):Prop:=∀ (N:Nat) (Q:QT [.ag 9,.i,.bool]),(∀ d N',N<=N'->r.1.Is d->Q d r.2.1 r.2.2 N')->ACalls prog f [.ag 9,.i,.bool] args N Q
/-- copies -/
def zRg (F:FuncId):Prop:=∀ (t:Tm) (d:D),t.Is d->t.G->∀ (N:Nat) (Q:QT [.pk,.i,.str,.str,.i,.dc,.dc,.dc,.dc,.row 29 9]),u7 t N Q->ACalls prog F [.pk,.i,.str,.str,.i,.dc,.dc,.dc,.dc,.row 29 9] [.dg 9 d] N Q
theorem qV {F:FuncId} (hF:zRg F) {t:Tm} {d:D} (h:t.Is d) (hG:t.G) {N0 N:Nat} (h0:N0<=N) (Q':D->Nat->Prop) (hq:∀ d' N',N<=N'->t.Is d'->Own N0 N' d'->Q' d' N') :
  ACalls prog F [.pk,.i,.str,.str,.i,.dc,.dc,.dc,.dc,.row 29 9] [.dg 9 d] N (λn s Y aa x J O U es c N2=>N<=N2->Bel N2 (D.ag es)->(es.length=es.length/\c=c)/\(es.length=es.length/\c=c)/\∀ a N3,N2<=N3->Fresh N0 N3 a [D.ag es,x,J,O,U]->∀ N4,N3<=N4 ->
   Q' (D.ag [D.j n,D.t s,D.t Y,D.j aa,x,J,O,U,D.sl a 9 es c]) N4):=by
 refine hF t d h hG N _ ?_
 cases t with
 | mk k2 ai aj n2 ak al l2=>
 simp only [u7]
 intro x4 x5 x6 x7 am c' N2 ao ab I ac _ _
 have aq:=I.len
 have au:=hG.2.2.1
 exact ⟨⟨trivial,trivial⟩,⟨trivial,trivial⟩,λa2 N3 ae hf N4 ah=>hq _ _ (by omega) (Tm.is_mk.2 ⟨_,_,_,_,_,_,_,rfl,ab,by omega,I⟩) ((tj (ac.mono h0 (oD _)) hf ae).mono (oD _) ah)⟩
theorem zQP {F:FuncId} (hF:zRg F) {t y:Tm} {d dy:D} (h:t.Is d) (hG:t.G) (hy:y.Is dy) {i:Nat} (hi:i<t.as.length) {N0 N:Nat} (Q':D->Nat->Prop) (hq:∀ d' N',N<=N'->(t.wth i y).Is d'->Q' d' N') :
  ACalls prog F [.pk,.i,.str,.str,.i,.dc,.dc,.dc,.dc,.row 29 9] [.dg 9 d] N (λn s aa ab x J O U es c N2=>N<=N2->Bel N2 (D.ag es)->(0<=(i:Int)/\(i:Int)<(es.length:Int)/\(0+(i:Int).toNat:Nat)<es.length)/\(0+(i:Int).toNat:Nat)<es.length /\
   (es.length=(List.set es (0+(i:Int).toNat:Nat) dy).length/\c=c)/\(es.length=(List.set es (0+(i:Int).toNat:Nat) dy).length/\c=c)/\(es.length=(List.set es (0+(i:Int).toNat:Nat) dy).length/\c=c)/\(es.length=(List.set es (0+(i:Int).toNat:Nat) dy).length/\c=c)/\(es.length=(List.set es (0+(i:Int).toNat:Nat) dy).length/\c=c) /\
   ∀ a N3,N2<=N3->Fresh N0 N3 a [D.ag (List.set es (0+(i:Int).toNat:Nat) dy),x,J,O,U]->∀ N4,N3<=N4 ->
   Q' (D.ag [D.j n,D.t s,D.t aa,D.j ab,x,J,O,U,D.sl a 9 (List.set es (0+(i:Int).toNat:Nat) dy) c]) N4):=by
 refine hF t d h hG N _ ?_
 cases t with
 | mk k2 ae ah n2 ai aj l2=>
 simp only [u7]
 simp only [Tm.as] at hi
 intro x4 x5 x6 x7 Y c' N2 ak ac I al _ _
 have am:=I.len
 have ao:=hG.2.2.1
 rw [oH,o6]
 have hs:(List.set Y i dy).length=Y.length:=nc
 exact ⟨⟨by omega,by omega,by omega⟩,by omega,⟨hs.symm,trivial⟩,⟨hs.symm,trivial⟩,⟨hs.symm,trivial⟩,⟨hs.symm,trivial⟩,⟨hs.symm,trivial⟩,λa2 N3 aq hf N4 au=>hq _ _ (by omega) (Tm.is_mk.2 ⟨_,_,_,_,_,_,_,rfl,ac,by omega,tZ I hy⟩)⟩
theorem zGo {k n:Int}:(zKp k n).Is (.ag [.j k,.t (bytes []),.t (bytes []),.j n,.j 0,.sl none 2 [] 0,.j 0,.sl none 2 [] 0,.sl none 9 [] 0]):=
 Tm.is_mk.2 ⟨_,_,_,_,_,_,_,rfl,⟨by decide,by decide,Ty.is_mk.2 ⟨_,_,_,rfl,by simp,rfl⟩,Ty.is_mk.2 ⟨_,_,_,rfl,by simp,rfl⟩⟩,by simp,rfl⟩
/-- the level of a node's parts, at any level -/
theorem zHy {k n m:Int} {c1 I J O U Y c8:D} (h : -1152921504606846976<=m/\m<=1152921504606846976):zBs 110 [.dg 9 (.ag [.j k,c1,I,.j n,J,O,U,Y,c8]),.j m] (zR k m):=λN Q hQ=>by
 refine pR N _ m Q λ_=>?_
 rw [i64_in (m+1) (by omega),i64_in (m - 1) (by omega)]
 repeat' first|with_reducible intro _|simp only[Y1,Y2,Y3,Y4]|with_reducible refine X ?_ ?_|refine⟨_,_,_,rfl,?_⟩|refine⟨_,rfl,?_⟩|refine And.intro (by first|omega|trivial|(show _=_;rfl)|(with_reducible constructor)<;>first|omega|trivial|rfl) ?_|fail
 all_goals (refine Qi (hQ _ (by omega)) ?_;simp [zR, *])
theorem zBu {k n m:Int} {c1 I J O U Y c8:D} (h : -1152921504606846976<=m/\m<=1152921504606846976):zBs 100 [.dg 9 (.ag [.j k,c1,I,.j n,J,O,U,Y,c8]),.j m] (zR k m):=λN Q hQ=>by
 refine sR N _ m Q λ_=>?_
 rw [i64_in (m+1) (by omega),i64_in (m - 1) (by omega)]
 repeat' first|with_reducible intro _|simp only[Y1,Y2,Y3,Y4]|with_reducible refine X ?_ ?_|refine⟨_,_,_,rfl,?_⟩|refine⟨_,rfl,?_⟩|refine And.intro (by first|omega|trivial|(show _=_;rfl)|(with_reducible constructor)<;>first|omega|trivial|rfl) ?_|fail
 all_goals (refine Qi (hQ _ (by omega)) ?_;simp [zR, *])
/-- a level that stays far from the ends, however deep -/
def LvIn (m:Int) (d:Nat):Prop := -1152921504606846976<=m - (d:Int)/\m+(d:Int)<=1152921504606846976
theorem LvIn.next {k m:Int} {d d':Nat} (h:LvIn m d) (hd:d'+1<=d):LvIn (zR k m) d':=by
 unfold LvIn zR at *
 split
 ·omega
 ·split<;>omega
theorem LvIn.b {m:Int} {d:Nat} (h:LvIn m d) : -1152921504606846976<=m/\m<=1152921504606846976:=by unfold LvIn at h;omega
theorem uD {k:Int} {nm ot:ByteArray} {n:Int} {ty re:Ty} {l:List Tm} {y:Tm} (h:y∈l):y.dp+1<=(Tm.mk k nm ot n ty re l).dp:=by
 have:=r9.1 (oD (wr l)) y h
 simp only [Tm.dp];omega
theorem zHS:∀ (t:Tm) (d:D),t.Is d->∀ m:Int,LvIn m t.dp->uX 73 [.dg 9 d,.j m] (t.made m):=by
 refine Tm.ind λk nm ot n ty re l ih d hd m hm N Q hQ=>?_
 obtain ⟨t0,t1,r0,r1,a,es,c,rfl,hh,O,U⟩:=Tm.is_mk.1 hd
 have hl:=U.len
 have key:∀ (N':Nat),N<=N'->(∀ N'',N'<=N''->Q (wB l (zR k m)) N'')->yj Q N m 0 (.ag [.j k,.t nm,.t ot,.j n,t0,t1,r0,r1,.sl a 9 es c]) N':=by
  refine up U O (λi xs=>∀ (N':Nat),N<=N'->(∀ N'',N'<=N''->Q (wB xs (zR k m)) N'')->yj Q N m i (.ag [.j k,.t nm,.t ot,.j n,t0,t1,r0,r1,.sl a 9 es c]) N') ?_ ?_
  ·intro i aa _ N' ab J
   refine sn _ _ _ _ _ _ ?_
   repeat' first|with_reducible intro _|simp only[aa,Y1,Y2,Y3,Y4]|with_reducible refine X ?_ ?_|refine⟨_,_,_,rfl,?_⟩|refine⟨_,rfl,?_⟩|refine And.intro (by first|omega|trivial|(show _=_;rfl)|(with_reducible constructor)<;>first|omega|trivial|rfl) ?_|fail
   exact Qb (J _ (by omega)) (by simp [wB])
  ·intro i x xs I _ ac N' ab J
   have ah:=I.b
   refine sn _ _ _ _ _ _ ?_
   repeat' first|with_reducible intro _|simp only[I.lt,I.w,oH,Y1,Y2,Y3,Y4]|with_reducible refine X ?_ ?_|refine⟨_,_,_,rfl,?_⟩|refine⟨_,rfl,?_⟩|refine And.intro (by first|omega|trivial|(show _=_;rfl)|(with_reducible constructor)<;>first|omega|trivial|rfl) ?_|refine (zHy hm.b) _ _ ?_|refine (ih x I.m _ I.r _ (hm.next (uD I.m))) _ _ ?_|fail
   ·refine Qb (J _ (by omega)) ?_;simp [wB, *]
   ·exact ac _ (by omega) λN'' h=>Qb (J N'' (by omega)) (by simp [wB, *])
 refine zGI N _ m Q λ_=>⟨_,rfl,Br.beq (λY=>Br.beq (λh2 N1 ae=>?_) λh2=>?_) λY=>?_⟩
 ·exact Qb (hQ _ ae) (by simp [Tm.made,Y,h2])
 ·exact key N (oD _) λN'' h=>Qb (hQ _ h) (by simp [Tm.made,Y,h2])
 ·exact key N (oD _) λN'' h=>Qb (hQ _ h) (by simp [Tm.made,Y])
theorem yQ {e:Tm} {d:D} (he:e.Is d) (Y:e.ok=true) (ac:e.dp<=1073741824):uX 39 [.dg 9 d] e.res:=λN Q J=>by
 cases e with
 | mk k nm ot n0 ty re l=>
 obtain ⟨t0,t1,r0,r1,a,es,c,rfl,hh,ab,U⟩:=Tm.is_mk.1 he
 have hl:=U.len
 refine zB5 N _ Q λ_=>⟨_,rfl,?_⟩
 refine Br.beq (λh2 N1 I=>Qb (J _ I) (by simp [Tm.res,zKu,Tm.kd,h2])) λh2=>?_
 refine Br.beq (λh3 N1 I=>Qb (J _ I) (by simp [Tm.res,zKu,Tm.kd,h3])) λh3=>?_
 refine Br.beq (λh6 N1 I=>Qb (J _ I) (by simp [Tm.res,zKu,Tm.kd,h6])) λh6=>?_
 refine Br.beq (λh9 N1 I=>Qb (J _ I) (by simp [Tm.res,zKu,Tm.kd,h9])) λh9=>?_
 refine Br.beq (λO N1 I=>?_) λO N1 I=>Qb (J _ I) (by simp [Tm.res,zKu,Tm.kd,h2,h3,h6,h9,O])
 subst O
 have ae:=(xH Y).1 (by omega)
 have hm:=zJ (l:=l) (i:=0) (by omega)
 have ah:=uD (k:=10) (nm:=nm) (ot:=ot) (n:=n0) (ty:=ty) (re:=re) hm
 refine zDO _ _ he 0 N1 _ λN2 ai _=>Br.of (λhv=>⟨_,_,_,rfl,⟨by omega,by omega⟩,λN3 aa=>?_⟩) λhv N3 aa=>Qb (J _ (by omega)) (by simp [Tm.res,zKu,Tm.kd,hv])
 refine zHS _ _ (yK U (j:=0) (by omega)) 1 (by unfold LvIn;omega) N3 _ λN4 aj _ N5 ak=>Qb (J _ (by omega)) ?_
 simp [Tm.res,zKu,Tm.kd,hv,Tm.pt]
theorem zCb {S:Tm->Tm × Int} {e:Tm}:∀ {l:List Tm} {i:Nat} {r:Tm × Int},goS S e l i=some r->∃ j x,l[j]?=some x/\x.res=false/\r=(e.wth (i+j) (S x).1,(S x).2)
 | [],_,_,h=>by simp [goS] at h
 | x::l,i,r,h=>by
   simp only [goS] at h
   split at h
   ·obtain ⟨j,y,I,J,O⟩:=zCb h
    exact ⟨j+1,y,by simpa using I,J,by rw [O,show i+1+j=i+(j+1) by omega]⟩
   ·rename_i U
    exact ⟨0,x,rfl,by simpa using U,(oW h).symm⟩
theorem zKH {S:Tm->Tm × Int} {e:Tm}:∀ {l:List Tm} {i:Nat},goS S e l i=none↔∀ x∈l,x.res=true
 | [],_=>by simp [goS]
 | x::l,i=>by
   simp only [goS,oF,mH]
   split
   ·rename_i I;rw [zKH (l:=l)];simp [I]
   ·rename_i I;simp [I]
theorem zSp:tm0.G:=by simp [tm0,Tm.G,zK1,Ty.cnt,zK]
theorem zRH {e:Tm} {i:Nat} (h:e.G):(e.pt i).G:=by
 cases e with
 | mk k nm ot n ty re l=>
 simp only [Tm.pt]
 by_cases hi:i<l.length
 ·exact zj h.2.2.2 (zJ hi)
 ·rw [oA,oX (by omega)];exact zSp
theorem zQ7 {e x:Tm} {i:Nat} (h:e.G) (J:x.G):(e.wth i x).G:=by
 cases e with
 | mk k nm ot n ty re l=>
 refine ⟨h.1,h.2.1,by simpa using h.2.2.1,zBE λy I=>?_⟩
 rcases nE I with I | rfl
 ·exact zj h.2.2.2 I
 ·exact J
theorem zSc {e:Tm} (h:e.G):e.apl.1.G:=by
 cases e with
 | mk k nm ot n ty re l=>
 have g:∀ i,(l.getD i tm0).G:=λi=>zRH (e:=.mk k nm ot n ty re l) h
 have I:∀ i j,((l.getD i tm0).pt j).G:=λi j=>zRH (g i)
 simp only [Tm.apl,Tm.opr]
 have s:∀ (t b:Tm) (x:ByteArray),t.G->b.G->(t.sb x b).G:=λt b x J O=>zOC _ t x b J O
 have U:∀ k n,(zKp k n).G:=λk n=>by simp [zKp,Tm.G,zK1,Ty.cnt,zK]
 have nn:∀ x:Tm,x.G->(Tm.nod 10 [x]).G:=λx Y=>by simpa [Tm.nod,Tm.G,zK1,Ty.cnt,zK] using Y
 (repeat' split)<;>first | exact h | exact g _ | exact I _ _ | exact s _ _ _ (I _ _) (g _) | exact s _ _ _ (s _ _ _ (I _ _) (g _)) (g _) | exact s _ _ _ (g _) (g _) | exact U _ _ | exact nn _ (g _)
theorem zSR {S:Tm->Tm × Int} (hS:∀ x:Tm,x.G->(S x).1.G):∀ (t:Tm) (m:Int),t.G->(t.cod S m).1.G:=by
 refine Tm.ind λk nm ot n ty re l ih m h=>?_
 simp only [Tm.cod]
 split
 ·unfold zRD
  split
  ·split
   ·exact zRH (zRH h)
   ·exact h
  ·exact zQ7 h (hS _ (zRH h))
 ·have key:∀ (xs:List Tm),(∀ x∈xs,x∈l)->∀ l' r,yB S xs (zR k m)=some (l',r)->l'.length=xs.length/\∀ x∈l',x.G:=by
   intro xs
   induction xs with
   | nil=>intro _ l' r h;simp [yB] at h
   | cons x xs O=>
     intro U l' r I
     have J:=U x (by simp)
     simp only [yB] at I
     split at I
     ·cases I
      refine ⟨by simp,λy hy=>?_⟩
      rcases oF.1 hy with rfl | hy
      ·exact ih x J _ (zj h.2.2.2 J)
      ·exact zj h.2.2.2 (U y (by simp [hy]))
     ·split at I
      ·cases I
      ·rename_i l2 r2 h3
       cases I
       obtain ⟨Y,b2⟩:=O (λy hy=>U y (by simp [hy])) _ _ h3
       refine ⟨by simp [Y],λy hy=>?_⟩
       rcases oF.1 hy with rfl | hy
       ·exact zj h.2.2.2 J
       ·exact b2 y hy
  cases hc:yB S l (zR k m) with
  | none=>exact h
  | some p=>
    obtain ⟨l',r⟩:=p
    obtain ⟨Y,b2⟩:=key l (λx J=>J) l' r hc
    exact ⟨h.1,h.2.1,by rw [Y];exact h.2.2.1,zBE b2⟩
theorem zP9:∀ (f:Nat) (e:Tm),e.G->(e.stp f).1.G
 | 0,e,h=>h
 | f + 1,.mk k nm ot n ty re l,h=>by
   have I:=zP9 f
   simp only [Tm.stp]
   split
   ·exact h
   ·by_cases J:(Tm.mk k nm ot n ty re l).kd=10
    ·rw [if_pos J]
     exact zQ7 h (zSR I _ 1 (zRH h))
    ·rw [if_neg J]
     cases O:goS (Tm.stp f) (Tm.mk k nm ot n ty re l) (l.take (uZ k l.length)) 0 with
     | none=>exact zSc h
     | some r=>
       obtain ⟨j,x,U,Y,rfl⟩:=zCb O
       exact zQ7 h (I x (zj h.2.2.2 (List.take_subset _ _ (oB U))))
/-- steps of parts -/
def zPx (F:FuncId) (f:Nat):Prop:=∀ (e:Tm) (d:D),e.Is d->e.F f->zJh F [.dg 9 d] (e.stp f)
theorem Tm.F.dp {e:Tm} {f:Nat} (h:e.F f):e.dp<=1073741824:=h.b
theorem zQq {k:Int} {nm ot:ByteArray} {n:Int} {ty re:Ty} {l:List Tm} {i:Nat}:(Tm.mk k nm ot n ty re l).pt i=l.getD i tm0:=rfl
theorem zDW {t y:Tm} {d dy:D} (h:t.Is d) (I:t.G) (J:y.Is dy) {i:Nat} (hi:i<t.as.length) (N:Nat) (Q:QT [.ag 9]) (O:∀ d' N',N<=N'->(t.wth i y).Is d'->Q d' N') :
  ACalls prog 78 [.ag 9] [.dg 9 d,.j (i:Int),.dg 9 dy] N Q:=
 zEr N _ _ _ Q λ_ _ N1 U=>zQP tB h I J hi (λd N=>Q d N) λd' N' h1 Y=>O _ _ (by omega) Y
theorem zF2 {f:Nat} (hS:zPx 41 f) {k n0:Int} {nm ot:ByteArray} {ty re:Ty} {l:List Tm} {d:D} (h:(Tm.mk k nm ot n0 ty re l).Is d) (O:(Tm.mk k nm ot n0 ty re l).F (f+1)) {i:Nat} (hi:i<l.length) :
  zJh 118 [.dg 9 d,.j (i:Int)] ((Tm.mk k nm ot n0 ty re l).wth i (Tm.stp f (l.getD i tm0)).1,(Tm.stp f (l.getD i tm0)).2):=λN Q U=>by
 obtain ⟨t0,t1,r0,r1,a,es,c,rfl,hh,Y,I⟩:=Tm.is_mk.1 h
 have hl:=I.len
 refine zIn N _ _ Q λ_=>⟨_,_,_,rfl,⟨by omega,by omega⟩,λN1 aa=>?_⟩
 rw [oH]
 refine hS _ _ (yK I hi) (O.mem _ (zJ hi)) N1 _ λdx N2 ab hx _ _=>Br.beq (λh0 N3 ac=>?_) λh0 N4 ae=>?_
 ·refine U _ _ (by omega) ?_
  have e1:=zPo f _ h0
  simp only
  rw [e1,<-zQq (k:=k) (nm:=nm) (ot:=ot) (n:=n0) (ty:=ty) (re:=re),zKw]
  exact h
 ·exact zDW h O.z.g hx hi N4 _ λd' N5 ah J _ _ N6 ai=>U _ _ (by omega) J
theorem zNg {f:Nat} (hS:zPx 41 f):∀ (t:Tm) (d:D),t.Is d->t.F (f+1)->∀ m:Int,LvIn m t.dp->zPn 77 [.dg 9 d,.j m] (t.cod (Tm.stp f) m):=by
 refine Tm.ind λk nm ot n0 ty re l ih d hd hF m hm N Q J=>?_
 have Y:=hd
 obtain ⟨t0,t1,r0,r1,a,es,c,rfl,hh,aj,ab⟩:=Tm.is_mk.1 hd
 have hl:=ab.len
 have loop:¬(k=11/\m=1)->yF Q N m 0 (.ag [.j k,.t nm,.t ot,.j n0,t0,t1,r0,r1,.sl a 9 es c]) 0 (bytes []) (bytes []) 0 0 none [] 0 0 none [] 0 none [] 0 N:=λao=>by
  simp only [Tm.cod] at J
  rw [if_neg ao] at J
  refine up ab aj (λi xs=>∀ N',N<=N'->(match yB (Tm.stp f) xs (zR k m) with | none=>yB (Tm.stp f) l (zR k m)=none | some (l',r)=>yB (Tm.stp f) l (zR k m)=some (l.take i++l',r)) ->
   yF Q N m i (.ag [.j k,.t nm,.t ot,.j n0,t0,t1,r0,r1,.sl a 9 es c]) 0 (bytes []) (bytes []) 0 0 none [] 0 0 none [] 0 none [] 0 N') ?_ ?_ N (oD _) ?_
  ·intro i aq hi N' au O
   simp only [yB] at O
   rw [O] at J
   refine tL _ _ _ _ _ _ _ _ _ _ _ _ _ _ _ _ _ _ _ _ _ ⟨_,_,_,rfl,?_⟩
   rw [aq]
   exact λN2 ak=>J _ _ (by omega) Y
  ·intro i x xs I aw ax N' au O
   have hb:=I.b
   have al:i<l.length:=(oC.1 I.g).1
   refine tL _ _ _ _ _ _ _ _ _ _ _ _ _ _ _ _ _ _ _ _ _ ⟨_,_,_,rfl,?_⟩
   rw [I.lt,oH,I.w]
   refine ⟨_,_,_,rfl,⟨by omega,by omega⟩,λN1 ay=>zHy hm.b N1 _ λN2 ak _ N3 az=>?_⟩
   refine ih x I.m _ I.r ((hF.mem x I.m).up (by omega)) _ (hm.next (uD I.m)) N3 _ λdx N4 a6 hx _ _=>Br.of (λhv N5 a7=>?_) λhv=>?_
   ·simp only [yB] at O
    rw [if_pos hv] at O
    simp only at O
    rw [O] at J
    refine zDW Y hF.z.g hx al N5 _ λd' N6 a8 ac _ _ N7 ba=>J _ _ (by omega) ?_
    have:l.take i++(x.cod (Tm.stp f) (zR k m)).1::xs=l.set i (x.cod (Tm.stp f) (zR k m)).1:=by
     rw [mw,if_pos al,aw]
    simp only
    rw [this]
    exact ac
   ·refine ax _ (by omega) ?_
    simp only [yB] at O
    rw [if_neg (by rw [hv];decide)] at O
    cases hc:yB (Tm.stp f) xs (zR k m) with
    | none=>rw [hc] at O;exact O
    | some p=>
      obtain ⟨l',r⟩:=p
      rw [hc] at O
      simp only at O ⊢
      rw [O,wK I.g,nX];rfl
  ·cases hc:yB (Tm.stp f) l (zR k m) with
   | none=>rfl
   | some p=>obtain ⟨l',r⟩:=p;simp
 refine zEe N _ m Q λ_=>⟨_,rfl,Br.beq (λh1=>Br.beq (λh2=>?_) λh2=>loop λh=>h2 h.2) λh1=>loop λh=>h1 h.1⟩
 have bg:=(xH hF.ok).1 (by omega)
 have ae:0<l.length:=by omega
 have am:=zJ ae
 have U:=hF.mem _ am
 have ah:=yK ab ae
 simp only [Tm.cod] at J
 rw [if_pos ⟨h1,h2⟩] at J
 unfold zRD at J
 rw [zQq] at J
 refine ⟨_,_,_,rfl,⟨by omega,by omega⟩,λN1 ay=>yQ ah U.ok U.dp N1 _ λN2 ak _=>Br.not (λhr N3 az=>?_) λhr=>?_⟩
 ·rw [if_neg (by rw [hr];decide)] at J
  exact zF2 hS Y hF ae N3 _ λdx N4 a6 hx _ _ N5 a7=>J _ _ (by omega) hx
 ·rw [if_pos hr] at J
  generalize l.getD 0 tm0=p at ah U hr J am
  cases p with
  | mk pk pn po pm pt pr pl=>
  obtain ⟨u0,u1,v0,v1,a2,bh,c2,heq,bi,bb,aa⟩:=Tm.is_mk.1 ah
  have bj:=aa.len
  rw [heq]
  refine ⟨_,rfl,Br.beq (λai=>?_) λai bm bd=>?_⟩
  ·rw [if_pos (by exact ai)] at J
   have bn:=(xH U.ok).1 (by omega)
   have bc:=zJ (l:=pl) (i:=0) (by omega)
   refine ⟨_,_,_,rfl,⟨by omega,by omega⟩,λN6 a8=>?_⟩
   refine qV tB (yK aa (j:=0) (by omega)) (zj U.z.g.2.2.2 bc) (N0:=N) (by omega) (λd N=>Q d 6 true N) λd' N7 ba ac _=>J _ _ (by omega) ac
  ·rw [if_neg (by exact ai)] at J
   exact J _ _ (by omega) Y
def zEi (l:List Tm) (i:Nat):List D:=[.j (if 0<i then (l.getD 0 tm0).no else 0),.j (if 1<i then (l.getD 1 tm0).no else 0)]
theorem zKd {l:List Tm} {i:Nat} (hi:i<2):(zEi l i).set i (.j ((l.getD i tm0).no))=zEi l (i+1):=by
 match i,hi with
 | 0,_=>rfl
 | 1,_=>rfl
theorem zCl {l:List Tm} {i:Nat} (h:l.length<=i):l.getD i tm0=tm0:=by rw [oA,oX h];rfl
theorem zKG {l:List Tm} (h:l.length<=2):zEi l l.length=[.j ((l.getD 0 tm0).no),.j ((l.getD 1 tm0).no)]:=by
 unfold zEi
 by_cases I:0<l.length
 ·by_cases J:1<l.length
  ·rw [if_pos I,if_pos J]
  ·rw [if_pos I,if_neg J,zCl (i:=1) (by omega)];rfl
 ·rw [if_neg I,if_neg (by omega),zCl (i:=0) (by omega),zCl (i:=1) (by omega)];rfl
theorem zNr (s:ByteArray):zCk s<=2:=by unfold zCk;(repeat' split)<;>decide
theorem zOv (n:Int) (N:Nat) (Q:QT [.ag 9]) (J:∀ d N',N<=N'->(zKp 2 n).Is d->Q d N'):ACalls prog 120 [.ag 9] [.j n] N Q:=zBf N n Q λN1 I=>J _ _ I zGo
theorem zMf (n:Int) (N:Nat) (Q:QT [.ag 9]) (J:∀ d N',N<=N'->(zKp 3 n).Is d->Q d N'):ACalls prog 121 [.ag 9] [.j n] N Q:=zAm N n Q λN1 I=>J _ _ I zGo
theorem zCc {S:Tm->Tm × Int} {e:Tm} {i:Nat} {x:Tm} {xs:List Tm} (h:x.res=true):goS S e (x::xs) i=goS S e xs (i+1):=by simp [goS,h]
theorem zP2 {n0:Int} {nm ot:ByteArray} {ty re:Ty} {l:List Tm} (h:∀ x∈l,x.kd=zf nm):(Tm.mk 4 nm ot n0 ty re l).opr l=(zKp (zEB nm) (yZ nm (l.getD 0 tm0).no (l.getD 1 tm0).no).1,1):=by
 unfold Tm.opr
 rw [if_pos (oV.2 λx I=>by rw [h x I];exact beq_self_eq_true _)]
 rfl
theorem zQI {n0:Int} {nm ot:ByteArray} {ty re:Ty} {l:List Tm} {x:Tm} (I:x∈l) (h:x.kd≠zf nm):(Tm.mk 4 nm ot n0 ty re l).opr l=(Tm.mk 4 nm ot n0 ty re l,0):=by
 unfold Tm.opr
 rw [if_neg λhc=>h (by have:=oV.1 hc _ I;simpa [Tm.nm] using this)]
/-- an operation of results -/
theorem zMX {n0:Int} {nm ot:ByteArray} {ty re:Ty} {l:List Tm} {t0 t1 r0 r1:D} {a:Option Addr} {es:List D} {c:Nat} (ae:(Tm.mk 4 nm ot n0 ty re l).Is (.ag [.j 4,.t nm,.t ot,.j n0,t0,t1,r0,r1,.sl a 9 es c])) (ab:All2 Tm.Is l es) (ac:es.length<=4611686018427387904) (ah:l.length<=2) {N:Nat} {Q:QT [.ag 9,.i]} (U:∀ d N',N<=N'->((Tm.mk 4 nm ot n0 ty re l).opr l).1.Is d->Q d ((Tm.mk 4 nm ot n0 ty re l).opr l).2 N') (N':Nat) (O:N<=N') :
  yg Q N (zf nm) 2 2 0 (.ag [.j 4,.t nm,.t ot,.j n0,t0,t1,r0,r1,.sl a 9 es c]) 0 (bytes []) (bytes []) 0 0 none [] 0 0 none [] 0 none [] 0 [.j 0,.j 0] 2 N':=by
 have hl:=ab.len
 refine up ab ac (λi xs=>∀ N',N<=N'->(∀ j x,j<i->l[j]?=some x->x.kd=zf nm)->yg Q N (zf nm) 2 2 i (.ag [.j 4,.t nm,.t ot,.j n0,t0,t1,r0,r1,.sl a 9 es c]) 0 (bytes []) (bytes []) 0 0 none [] 0 0 none [] 0 none [] 0 (zEi l i) 2 N') ?_ ?_ N' O (λj x h=>absurd h (by omega))
 ·intro i ai hi N' O hk
  rw [zP2 λx Y=>by
   obtain ⟨j,hj⟩:=oO.1 Y
   exact hk j x (by have:=(oC.1 hj).1;omega) hj] at U
  refine rW _ _ _ _ _ _ _ _ _ _ _ _ _ _ _ _ _ _ _ _ _ _ _ _ _ ⟨_,_,_,rfl,?_⟩
  rw [ai]
  have aj:i=l.length:=by omega
  rw [aj,zKG ah]
  refine ⟨_,rfl,⟨⟨by omega,by omega,by simp⟩,by simp,_,rfl,⟨by omega,by omega,by simp⟩,by simp,_,rfl,λN2 az=>zE2 _ _ _ N2 _ λN3 a6 _=>⟨_,rfl,?_⟩⟩⟩
  have J:zLX nm=true->∀ N4,N3<=N4->ACalls prog 120 [.ag 9] [.j (yZ nm (l.getD 0 tm0).no (l.getD 1 tm0).no).1] N4 (λx N5=>N4<=N5->Bel N5 x->∀ N6,N5<=N6->Q x 1 N6):=λho N4 ak=>by
   rw [show zEB nm=2 by unfold zEB;rw [if_pos ho]] at U
   exact zOv _ N4 _ λx N5 al Y _ _ N6 am=>U _ _ (by omega) Y
  refine Br.str (λe1=>J (by simp [zLX,e1])) λe1=>⟨_,rfl,Br.str (λe2=>J (by simp [zLX,e2])) λe2=>⟨_,rfl,Br.str (λe3=>J (by simp [zLX,e3])) λe3 N4 ak=>?_⟩⟩
  rw [show zEB nm=3 by unfold zEB;rw [if_neg (by simp [zLX,e1,e2,e3])]] at U
  exact zMf _ N4 _ λx N5 al Y _ _ N6 am=>U _ _ (by omega) Y
 ·intro i x xs I a7 ao N' O hk
  have hb:=I.b
  have Y:=I.r
  refine rW _ _ _ _ _ _ _ _ _ _ _ _ _ _ _ _ _ _ _ _ _ _ _ _ _ ⟨_,_,_,rfl,?_⟩
  rw [I.lt,oH,I.w]
  have aq:l.getD i tm0=x:=by rw [oA,I.g];rfl
  cases x with
  | mk pk pn po pm pt pr pl=>
  obtain ⟨u0,u1,v0,v1,a2,a8,c2,heq,ba,au,ay⟩:=Tm.is_mk.1 Y
  refine ⟨_,_,_,rfl,⟨by omega,by omega⟩,pk,by rw [heq];rfl,Br.bne (λaw N1 bb=>?_) λhe=>⟨_,_,_,rfl,⟨by omega,by omega⟩,pm,by rw [heq];rfl,⟨by omega,by omega,by simp only [zEi,oM,oQ];omega⟩,by simp only [zEi,oM,oQ];omega,?_⟩⟩
  ·rw [zQI I.m aw] at U
   exact U _ _ (by omega) ae
  ·rw [o6]
   have aa:=zKd (l:=l) (i:=i) (by omega)
   rw [aq] at aa
   simp only [Tm.no] at aa
   rw [aa]
   refine ao _ O λj y hj hy=>?_
   by_cases ax:j<i
   ·exact hk j y ax hy
   ·have:j=i:=by omega
    subst this
    rw [I.g] at hy
    rw [<-oW hy];exact he
/-- an operation -/
theorem zQN {f:Nat} (hS:zPx 41 f) {n0:Int} {nm ot:ByteArray} {ty re:Ty} {l:List Tm} {d:D} (hd:(Tm.mk 4 nm ot n0 ty re l).Is d) (hF:(Tm.mk 4 nm ot n0 ty re l).F (f+1)) {r:Tm × Int} (hr:(match goS (Tm.stp f) (Tm.mk 4 nm ot n0 ty re l) l 0 with | some r=>r | none=>(Tm.mk 4 nm ot n0 ty re l).opr l)=r) :
  zJh 75 [.dg 9 d] r:=λN Q hQ=>by
 have aa:=hd
 obtain ⟨t0,t1,r0,r1,a,es,c,rfl,hh,U,Y⟩:=Tm.is_mk.1 hd
 have hl:=Y.len
 have ae:l.length<=2:=by
  have h1:=(xH hF.ok).2.2.2.2 rfl
  have h2:=zNr nm
  omega
 have J:(∀ x∈l,x.res=true)->∀ N',N<=N'->yg Q N (zf nm) 2 2 0 (.ag [.j 4,.t nm,.t ot,.j n0,t0,t1,r0,r1,.sl a 9 es c]) 0 (bytes []) (bytes []) 0 0 none [] 0 0 none [] 0 none [] 0 [.j 0,.j 0] 2 N':=λab N' O=>by
  have hg:goS (Tm.stp f) (Tm.mk 4 nm ot n0 ty re l) l 0=none:=by
   have:∀ (xs:List Tm) (i:Nat),(∀ x∈xs,x.res=true)->goS (Tm.stp f) (Tm.mk 4 nm ot n0 ty re l) xs i=none:=by
    intro xs
    induction xs with
    | nil=>intro i _;rfl
    | cons x xs ih=>intro i h;rw [zCc (h x (by simp))];exact ih _ λy hy=>h y (by simp [hy])
   exact this l 0 ab
  rw [hg] at hr
  simp only at hr
  subst hr
  exact zMX aa Y U ae hQ N' O
 have first:yE Q N (zf nm) 2 2 0 (.ag [.j 4,.t nm,.t ot,.j n0,t0,t1,r0,r1,.sl a 9 es c]) 0 (bytes []) (bytes []) 0 0 none [] 0 0 none [] 0 none [] 0 [.j 0,.j 0] 2 N:=by
  refine up Y U (λi xs=>∀ N',N<=N'->(∀ j x,j<i->l[j]?=some x->x.res=true)->(match goS (Tm.stp f) (Tm.mk 4 nm ot n0 ty re l) xs i with | some r=>r | none=>(Tm.mk 4 nm ot n0 ty re l).opr l)=r->yE Q N (zf nm) 2 2 i (.ag [.j 4,.t nm,.t ot,.j n0,t0,t1,r0,r1,.sl a 9 es c]) 0 (bytes []) (bytes []) 0 0 none [] 0 0 none [] 0 none [] 0 [.j 0,.j 0] 2 N') ?_ ?_ N (oD _) (λj x h=>absurd h (by omega)) hr
  ·intro i ah hi N' O hk _
   refine qT _ _ _ _ _ _ _ _ _ _ _ _ _ _ _ _ _ _ _ _ _ _ _ _ _ ⟨_,_,_,rfl,?_⟩
   rw [ah]
   refine J (λx hx=>?_) N' O
   obtain ⟨j,hj⟩:=oO.1 hx
   exact hk j x (by have:=(oC.1 hj).1;omega) hj
  ·intro i x xs I al ai N' O hk he
   have hb:=I.b
   have aj:i<l.length:=(oC.1 I.g).1
   obtain rfl:l.getD i tm0=x:=by rw [oA,I.g];rfl
   have ac:=hF.mem _ I.m
   refine qT _ _ _ _ _ _ _ _ _ _ _ _ _ _ _ _ _ _ _ _ _ _ _ _ _ ⟨_,_,_,rfl,?_⟩
   rw [I.lt,oH,I.w]
   refine ⟨_,_,_,rfl,⟨by omega,by omega⟩,λN1 am=>yQ I.r ac.ok ac.dp N1 _ λN2 ao _=>Br.not (λhv N3 aq=>?_) λhv=>?_⟩
   ·simp only [goS] at he
    rw [if_neg (by rw [hv];decide)] at he
    simp only at he
    subst he
    exact zF2 hS aa hF aj N3 _ λdx N4 au hx _ _ N5 aw=>hQ _ _ (by omega) hx
   ·rw [zCc hv] at he
    refine ai _ (by omega) (λj y hj hy=>?_) he
    by_cases ak:j<i
    ·exact hk j y ak hy
    ·have:j=i:=by omega
     subst this
     rw [I.g] at hy
     rw [<-oW hy];exact hv
 refine zHr N _ Q λ_=>⟨_,rfl,Br.str (λe1=>?_) λe1=>⟨_,rfl,Br.str (λe2=>?_) λe2=>⟨_,rfl,Br.str (λe3=>?_) λe3=>?_⟩⟩⟩
 ·have:zf nm=3:=by simp [zf,wW,e1]
  rw [this] at first;exact first
 ·have:zf nm=3:=by simp [zf,wW,e2]
  rw [this] at first;exact first
 ·have:zf nm=3:=by simp [zf,wW,e3]
  rw [this] at first;exact first
 ·have:zf nm=2:=by simp [zf,wW,e1,e2,e3]
  rw [this] at first;exact first
end Go.Proofs.YtfajiphkncipoaaGreatDoor
