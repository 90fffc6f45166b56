/- Steps: what they come to (no program in sight). -/
import Derived.Test.YtkdjhkfiolhkiaaGreatXj
import Derived.Test.YtkdjhkfiolhkiaaGreatWc
import Derived.Test.YtkdjhkfiolhkiaaGreatKf
import Derived.Test.YtkdjhkfiolhkiaaGreatKh
set_option linter.unusedVariables false
set_option linter.unusedSimpArgs false
namespace Go.Proofs.YtkdjhkfiolhkiaaGreat
open Go Go.Proofs Go.Proofs.Tryz Go.IntWalk
def red (n:Int):Int:=n % 10007
def bI (b:Bool):Int:=if b then 1 else 0
def xH (s:ByteArray) (a b:Int):Int × Bool:=
 if inB a 0 10006=true then (if inB b 0 10006=true then
  (if s=bytes [43] then (red (a+b),true) else if s=bytes [45] then (red (a - b),true) else if s=bytes [42] then (red (a*b),true)
  else if s=bytes [61] then (bI (a==b),true) else if s=bytes [60] then (bI (decide (a<b)),true)
  else if s=bytes [38] then (bI (a==1&&b==1),true) else if s=bytes [124] then (bI (a==1||b==1),true)
  else if s=bytes [33] then (bI (a==0),true) else (0,false)) else (0,false)) else (0,false)
theorem zD5 (b:Bool):0<=bI b/\bI b<=1:=by cases b<;>decide
theorem zLd (n:Int):0<=red n/\red n<=10006:=by unfold red;omega
theorem zKi (s:ByteArray) (a b:Int):0<=(xH s a b).1/\(xH s a b).1<=10006:=by
 have h1:=zLd (a+b);have h2:=zLd (a - b);have h3:=zLd (a*b)
 have h4:=zD5 (a==b);have h5:=zD5 (decide (a<b));have h6:=zD5 (a==1&&b==1);have h7:=zD5 (a==1||b==1);have h8:=zD5 (a==0)
 unfold xH
 (repeat' split)<;>constructor<;>first | omega | (simp only;omega)
theorem zHY {s:ByteArray} (n1:¬s=bytes [43]) (n2:¬s=bytes [45]) (n3:¬s=bytes [42]) (a b:Int):0<=(xH s a b).1/\(xH s a b).1<=1:=by
 have h4:=zD5 (a==b);have h5:=zD5 (decide (a<b));have h6:=zD5 (a==1&&b==1);have h7:=zD5 (a==1||b==1);have h8:=zD5 (a==0)
 unfold xH
 rw [if_neg n1,if_neg n2,if_neg n3]
 (repeat' split)<;>constructor<;>first | omega | (simp only;omega)
def zM8 (k n:Int):Tm:=.mk k (bytes []) (bytes []) n (.mk 0 []) (.mk 0 []) []
def Tm.kd:Tm->Int | .mk k _ _ _ _ _ _=>k
def Tm.no:Tm->Int | .mk _ _ _ n _ _ _=>n
def Tm.nm:Tm->ByteArray | .mk _ nm _ _ _ _ _=>nm
def Tm.ot:Tm->ByteArray | .mk _ _ ot _ _ _ _=>ot
def Tm.pt:Tm->Nat->Tm | .mk _ _ _ _ _ _ l,i=>l.getD i tm0
def Tm.wth:Tm->Nat->Tm->Tm | .mk k nm ot n ty re l,i,x=>.mk k nm ot n ty re (l.set i x)
mutual
/-- no splice of level 1 -/
def Tm.made:Tm->Int->Bool
 | .mk k _ _ _ _ _ l,n=>!(k==11&&n==1)&&vP l (xC k n)
def vP:List Tm->Int->Bool
 | [],_=>true
 | t::ts,n=>t.made n&&vP ts n
end
def zJA (k:Int):Bool:=k==2||(k==3||(k==6||k==9))
/-- a result, of what is a term -/
def Tm.res (t:Tm):Bool:=zJA t.kd||(t.kd==10&&(t.lev 0&&(t.pt 0).made 1))
def qX (s:ByteArray):Bool:=decide (s=bytes [38])||(decide (s=bytes [124])||decide (s=bytes [33]))
def zHx (s:ByteArray):Bool:=decide (s=bytes [43])||(decide (s=bytes [45])||decide (s=bytes [42]))
def wo (nm:ByteArray):Int:=if qX nm then 3 else 2
def zIl (nm:ByteArray):Int:=if zHx nm then 2 else 3
/-- an operation of literals -/
def Tm.opr (e:Tm) (l:List Tm):Tm × Int:=
 if l.all (fun x=>x.kd==wo e.nm) then
  (zM8 (zIl e.nm) (xH e.nm (l.getD 0 tm0).no (l.getD 1 tm0).no).1,1)
 else (e,0)
def Tm.sb (e:Tm) (x:ByteArray) (b:Tm):Tm:=e.sub e.dp x b
/-- the rule for a form whose parts that must be are results -/
def Tm.apl:Tm->Tm × Int
 | .mk k nm ot n ty re l=>
   if k=4 then (Tm.mk k nm ot n ty re l).opr l
   else if k=5 then (if (l.getD 0 tm0).kd=3 then (l.getD (2 - (l.getD 0 tm0).no).toNat tm0,2) else (.mk k nm ot n ty re l,0))
   else if k=7 then
    (if (l.getD 0 tm0).kd=6 then (((l.getD 0 tm0).pt 0).sb (l.getD 0 tm0).nm (l.getD 1 tm0),3)
    else if (l.getD 0 tm0).kd=9 then ((((l.getD 0 tm0).pt 0).sb (l.getD 0 tm0).nm (l.getD 0 tm0)).sb (l.getD 0 tm0).ot (l.getD 1 tm0),4)
    else (.mk k nm ot n ty re l,0))
   else if k=8 then ((l.getD 1 tm0).sb nm (l.getD 0 tm0),5)
   else if k=12 then (if (l.getD 0 tm0).kd=10 then ((l.getD 0 tm0).pt 0,7) else (.mk k nm ot n ty re l,0))
   else if k=13 then (if (l.getD 0 tm0).kd=2\/(l.getD 0 tm0).kd=3 then (Tm.nod 10 [l.getD 0 tm0],8) else (.mk k nm ot n ty re l,0))
   else (.mk k nm ot n ty re l,0)
/-- how many parts must be results -/
def zKW (k:Int) (n:Nat):Nat:=if k=4\/k=7 then n else if k=5\/k=8\/k=12\/k=13 then 1 else 0
/-- the first part that is no result, stepped -/
def goS (S:Tm->Tm × Int) (e:Tm):List Tm->Nat->Option (Tm × Int)
 | [],_=>none
 | x::xs,i=>if x.res then goS S e xs (i+1) else some (e.wth i (S x).1,(S x).2)
/-- a splice of level 1 -/
def zPs (S:Tm->Tm × Int) (e:Tm):Tm × Int × Bool:=
 if (e.pt 0).res then (if (e.pt 0).kd=10 then ((e.pt 0).pt 0,6,true) else (e,0,true)) else (e.wth 0 (S (e.pt 0)).1,(S (e.pt 0)).2,true)
mutual
/-- the first splice of level 1 in a part at a level -/
def Tm.cod (S:Tm->Tm × Int):Tm->Int->Tm × Int × Bool
 | .mk k nm ot n ty re l,m=>if k=11/\m=1 then zPs S (.mk k nm ot n ty re l) else
   match yX S l (xC k m) with
   | none=>(.mk k nm ot n ty re l,0,false)
   | some (l',r)=>(.mk k nm ot n ty re l',r,true)
def yX (S:Tm->Tm × Int):List Tm->Int->Option (List Tm × Int)
 | [],_=>none
 | t::ts,m=>if (t.cod S m).2.2 then some ((t.cod S m).1::ts,(t.cod S m).2.1) else
   match yX S ts m with
   | none=>none
   | some (l',r)=>some (t::l',r)
end
def Tm.stp:Nat->Tm->Tm × Int
 | 0,e=>(e,0)
 | f+1,e=>if e.res then (e,0) else if e.kd=10 then (e.wth 0 ((e.pt 0).cod (Tm.stp f) 1).1,((e.pt 0).cod (Tm.stp f) 1).2.1)
   else match e with
    | .mk k nm ot n ty re l=>match goS (Tm.stp f) (.mk k nm ot n ty re l) (l.take (zKW k l.length)) 0 with
      | some r=>r
      | none=>(Tm.mk k nm ot n ty re l).apl
theorem zJH (e:Tm) (i:Nat):e.wth i (e.pt i)=e:=by
 cases e with
 | mk k nm ot n ty re l=>
 simp only [Tm.wth,Tm.pt]
 congr 1
 apply o7
 intro j
 rw [nC]
 split
 ·rename_i h
  subst h
  split
  ·rename_i h;rw [zo h]
  ·rename_i h;rw [oV (by omega)]
 ·rfl
/-- no rule, no other term -/
def NoR (S:Tm->Tm × Int):Prop:=∀ x,(S x).2=0->(S x).1=x
theorem zQb {S:Tm->Tm × Int} (hS:NoR S):∀ (t:Tm) (m:Int),(t.cod S m).2.1=0->(t.cod S m).1=t:=by
 refine Tm.ind fun k nm ot n ty re l ih m h=>?_
 simp only [Tm.cod] at h ⊢
 by_cases hk:k=11/\m=1
 ·rw [if_pos hk] at h ⊢
  unfold zPs at h ⊢
  split
  ·rename_i h1
   rw [if_pos h1] at h
   split
   ·rename_i h2;rw [if_pos h2] at h;exact absurd (show (6:Int)=0 from h) (by decide)
   ·rfl
  ·rename_i h1
   rw [if_neg h1] at h
   simp only at h ⊢
   rw [hS _ h,zJH]
 ·rw [if_neg hk] at h ⊢
  have key:∀ xs:List Tm,(∀ x∈xs,x∈l)->∀ l' r,yX S xs (xC k m)=some (l',r)->r=0->l'=xs:=by
   intro xs
   induction xs with
   | nil=>intro _ l' r h;simp [yX] at h
   | cons x xs ihx=>
     intro hm l' r h hr
     simp only [yX] at h
     split at h
     ·cases h
      rw [ih x (hm x (by simp)) _ hr]
     ·split at h
      ·cases h
      ·rename_i l2 r2 h2
       cases h
       rw [ihx (fun y hy=>hm y (by simp [hy])) _ _ h2 hr]
  cases hc:yX S l (xC k m) with
  | none=>rfl
  | some p=>
    obtain ⟨l',r⟩:=p
    rw [hc] at h
    simp only at h ⊢
    rw [key l (fun x hx=>hx) l' r hc h]
theorem zOP {S:Tm->Tm × Int} (hS:NoR S) {e:Tm}:∀ {l:List Tm} {i:Nat} {r:Tm × Int},goS S e l i=some r->(∀ j x,l[j]?=some x->e.pt (i+j)=x)->r.2=0->r.1=e
 | [],_,_,h,_,_=>by simp [goS] at h
 | x::l,i,r,h,hp,hr=>by
   simp only [goS] at h
   split at h
   ·exact zOP hS h (fun j y hy=>by rw [show i+1+j=i+(j+1) by omega];exact hp (j+1) y (by simpa using hy)) hr
   ·cases h
    simp only at hr ⊢
    rw [hS x hr]
    have:=hp 0 x rfl
    rw [mF] at this
    rw [<-this,zJH]
theorem zQf {c:Prop} [Decidable c] {x y:Tm × Int} {e:Tm} (hx:x.2=0->x.1=e) (hy:y.2=0->y.1=e) (h:(if c then x else y).2=0):(if c then x else y).1=e:=by
 by_cases hc:c
 ·rw [if_pos hc] at h ⊢;exact hx h
 ·rw [if_neg hc] at h ⊢;exact hy h
theorem zRl {t e:Tm} {r:Int} (hr:r≠0) (h:((t,r):Tm × Int).2=0):((t,r):Tm × Int).1=e:=absurd h hr
theorem zQ1 (e:Tm) (h:e.apl.2=0):e.apl.1=e:=by
 cases e with
 | mk k nm ot n ty re l=>
 revert h
 simp only [Tm.apl,Tm.opr]
 repeat' first | exact fun h=>zRl (by decide) h | exact fun _=>rfl | refine zQf ?_ ?_
theorem zOY:∀ f,NoR (Tm.stp f)
 | 0,e,_=>rfl
 | f + 1,.mk k nm ot n ty re l,h=>by
   have ih:=zOY f
   simp only [Tm.stp] at h ⊢
   split
   ·rfl
   ·rename_i hr
    rw [if_neg hr] at h
    by_cases hk:(Tm.mk k nm ot n ty re l).kd=10
    ·rw [if_pos hk] at h ⊢
     simp only at h ⊢
     rw [zQb ih _ _ h,zJH]
    ·rw [if_neg hk] at h ⊢
     cases hg:goS (Tm.stp f) (Tm.mk k nm ot n ty re l) (l.take (zKW k l.length)) 0 with
     | none=>
       rw [hg] at h
       exact zQ1 _ h
     | some r=>
       rw [hg] at h
       refine zOP ih hg (fun j x hx=>?_) h
       rw [nE]
       rw [oe] at hx
       split at hx
       ·simp only [Tm.pt];rw [oA,hx];rfl
       ·cases hx
/-- one step of a program -/
def Tm.step (e:Tm):Tm × Int:=if zB9 e 0 then (if (e.stp e.dp).2=0 then (e,0) else e.stp e.dp) else (e,0)
theorem zQP {a b:Int} (ha:0<=a/\a<=10006) (hb:0<=b/\b<=10006):0<=a*b/\a*b<=100120036:=by
 refine ⟨Int.mul_nonneg ha.1 hb.1,?_⟩
 have h1:a*b<=10006*b:=Int.mul_le_mul_of_nonneg_right ha.2 hb.1
 omega
theorem zNM (n:Int):(if Int.tmod n 10007<0 then Int.tmod n 10007+10007 else Int.tmod n 10007)=red n:=by
 unfold red
 by_cases h:0<=n
 ·rw [ni h,if_neg (by omega)]
 ·obtain ⟨m,rfl⟩:∃ m,n = -m:=⟨-n,by omega⟩
  rw [Int.neg_tmod,ni (by omega)]
  split<;>omega
theorem zP3 (n:Int) : -10007<Int.tmod n 10007/\Int.tmod n 10007<10007:=by
 by_cases h:0<=n
 ·rw [ni h];omega
 ·obtain ⟨m,rfl⟩:∃ m,n = -m:=⟨-n,by omega⟩
  rw [Int.neg_tmod,ni (by omega)]
  omega
theorem zFx (n:Int):zBW 194 [.int .i64 n] (red n):=fun N Q hQ=>by
 have hb:=zP3 n
 have hr:=zNM n
 refine zGC N n Q ⟨by omega,Br.dec (fun h N1 hN1=>?_) fun h N2 hN2=>?_⟩
 ·rw [i64_in _ (by omega)]
  rw [if_pos h] at hr
  exact Qi (hQ _ hN1) hr.symm
 ·rw [if_neg h] at hr
  exact Qi (hQ _ hN2) hr.symm
/-- returns this number and this truth value -/
def zRK (f:FuncId) (args:List PV) (r:Int × Bool):Prop:=∀ (N:Nat) (Q:QT [.int .i64,.bool]),(∀ N',N<=N'->Q r.1 r.2 N')->ACalls prog f [.int .i64,.bool] args N Q
theorem Qp {Q:QT [.int .i64,.bool]} {a b:Int × Bool} {N:Nat} (h:Q a.1 a.2 N) (e:a=b):Q b.1 b.2 N:=e ▸ h
theorem zNZ (b:Bool):zBW 73 [.bool b] (bI b):=fun N Q hQ=>zHp N b Q (Br.of (fun h N1 hN1=>Qi (hQ _ hN1) (by rw [h];rfl)) fun h N1 hN1=>Qi (hQ _ hN1) (by rw [h];rfl))
theorem zDz (s:ByteArray) (a b:Int):zRK 142 [.str s,.int .i64 a,.int .i64 b] (xH s a b):=fun N Q hQ=>by
 refine zEA N s a b Q fun N1 hN1=>xB _ _ _ N1 _ fun N2 hN2 _=>?_
 by_cases ha:inB a 0 10006=true
 rotate_left
 ·have ha:inB a 0 10006=false:=by simpa using ha
  rw [ha]
  simp only [Bool.not_false,zMY]
  have e:xH s a b=(0,false):=by unfold xH;rw [if_neg (by rw [ha];decide)]
  exact fun N3 hN3=>Qp (b:=(0,false)) (hQ N3 (by omega)) e
 rw [ha]
 simp only [Bool.not_true,zJC]
 intro N4 hN4
 refine xB _ _ _ N4 _ fun N5 hN5 _=>?_
 by_cases hb:inB b 0 10006=true
 rotate_left
 ·have hb:inB b 0 10006=false:=by simpa using hb
  rw [hb]
  simp only [Bool.not_false,zMY]
  have e:xH s a b=(0,false):=by unfold xH;rw [if_pos ha,if_neg (by rw [hb];decide)]
  exact fun N3 hN3=>Qp (b:=(0,false)) (hQ N3 (by omega)) e
 rw [hb]
 simp only [Bool.not_true,zJC]
 have hai:=xz.1 ha
 have hbi:=xz.1 hb
 have hm:=zQP hai hbi
 rw [i64_in (a+b) (by omega),i64_in (a - b) (by omega),i64_in (a*b) (by omega)]
 have fin:∀ (x:Int) (y:Bool) (N':Nat),N<=N'->xH s a b=(x,y)->Q x y N':=fun x y N' h e=>Qp (b:=(x,y)) (hQ N' h) e
 unfold xH at fin
 rw [if_pos ha,if_pos hb] at fin
 clear hQ
 repeat' first|with_reducible intro _|simp only[Y1,Y2,Y3,Y4]|with_reducible refine X ?_ ?_|refine⟨_,_,_,rfl,?_⟩|refine⟨_,rfl,?_⟩|refine And.intro (by first|omega|trivial|(show _=_;rfl)|(with_reducible constructor)<;>first|omega|trivial|rfl) ?_|refine (zFx _) _ _ ?_|refine (zNZ _) _ _ ?_|fail
 all_goals
  refine fin _ _ _ (by omega) ?_
  (repeat' split)<;>first | rfl | contradiction | (simp_all;done) | (congr 1;rw [show (a==1)=false by simpa using ‹¬a=1›];rfl)
/-- a term, not too deep, not too great -/
structure Tm.F (e:Tm) (f:Nat):Prop where
 ok:e.ok=true
 d:e.dp<=f
 c:e.cnt<=1073741824
 w:e.vc<=1333333
theorem Tm.F.up {e:Tm} {f g:Nat} (h:e.F f) (hg:f<=g):e.F g:=⟨h.ok,oS h.d hg,h.c,h.w⟩
/-- how many parts a form has -/
theorem uK {k:Int} {nm ot:ByteArray} {n:Int} {ty re:Ty} {l:List Tm} (h:(Tm.mk k nm ot n ty re l).ok=true) :
  ((k=6\/k=9\/k=10\/k=11\/k=12\/k=13)->l.length=1)/\((k=7\/k=8)->l.length=2)/\(k=5->l.length=3)/\((k=1\/k=2\/k=3)->l.length=0)/\(k=4->(l.length:Int)=zFJ nm):=by
 simp only [Tm.ok,oL,nz] at h
 obtain ⟨_,_,h⟩:=h
 unfold zDY at h
 refine ⟨?_,?_,?_,?_,?_⟩
 ·rintro (rfl | rfl | rfl | rfl | rfl | rfl)<;>(simp at h;omega)
 ·rintro (rfl | rfl)<;>(simp at h;omega)
 ·rintro rfl;simp at h;omega
 ·rintro (rfl | rfl | rfl)<;>simpa using h
 ·rintro rfl;simpa using h
theorem Tm.F.mem {k:Int} {nm ot:ByteArray} {n:Int} {ty re:Ty} {l:List Tm} {f:Nat} (h:(Tm.mk k nm ot n ty re l).F (f+1)):∀ y∈l,y.F f:=fun y hy=>by
 have h1:=h.ok
 have h2:=h.d
 have h3:=h.c
 have h6:=h.w
 have h7:=(uK h.ok).2.2.2.1
 simp only [Tm.ok,oL] at h1
 simp only [Tm.dp] at h2
 simp only [Tm.cnt] at h3
 have h4:=wc hy
 have h5:∀ {l:List Tm},ut l=true->∀ x∈l,x.ok=true:=fun {l}=>by
  induction l with
  | nil=>intro _ x hx;simp at hx
  | cons t ts ih=>
    intro h x hx
    simp only [ut,oL] at h
    rcases oG.1 hx with rfl | hx
    ·exact h.1
    ·exact ih h.2 x hx
 refine ⟨h5 h1.1 y hy,uz.1 (ma h2) y hy,by omega,?_⟩
 have h8:=pi hy
 simp only [Tm.vc] at h6
 split at h6
 ·rename_i hk
  rw [oa (h7 (.inl hk))] at hy
  simp at hy
 ·omega
theorem zP1:∀ t:Tm,t.ok=true->t.V:=by
 refine Tm.ind fun k nm ot n ty re l ih h=>?_
 refine ⟨fun hk=>oa ((uK h).2.2.2.1 (.inl hk)),vv.2 fun x hx=>ih x hx ?_⟩
 simp only [Tm.ok,oL] at h
 have h5:∀ {l:List Tm},ut l=true->∀ x∈l,x.ok=true:=fun {l}=>by
  induction l with
  | nil=>intro _ x hx;simp at hx
  | cons t ts ih=>
    intro h x hx
    simp only [ut,oL] at h
    rcases oG.1 hx with rfl | hx
    ·exact h.1
    ·exact ih h.2 x hx
 exact h5 h.1 x hx
theorem Tm.F.vc {e:Tm} {f:Nat} (h:e.F f):e.vc<=1333333:=h.w
theorem Tm.F.of {e:Tm} {f:Nat} (h1:e.ok=true) (h2:e.dp<=f) (h3:e.cnt<=4000000):e.F f:=⟨h1,h2,by omega,by have:=Tm.vc_cnt e;omega⟩
theorem Tm.F.z {e:Tm} {f:Nat} (h:e.F f):e.Z:=⟨Tm.G_cnt _ (by have:=h.c;omega),by have:=h.vc;omega,zP1 _ h.ok⟩
theorem zl {l:List Tm} {i:Nat} (h:i<l.length):l.getD i tm0∈l:=oB (zo h)
theorem zKs {e:Tm} (he:e.ok=true) (hk:e.kd=3):e.no=0\/e.no=1:=by
 cases e with
 | mk k nm ot n ty re l=>
 simp only [Tm.kd] at hk
 subst hk
 simp only [Tm.ok,oL] at he
 have h2:=he.2.1
 simp only [zJ,oL,inB] at h2
 simp at h2
 simp only [Tm.no]
 omega
/-- a term and a number -/
def zME (f:FuncId) (args:List PV) (r:Tm × Int):Prop:=∀ (N:Nat) (Q:QT [.ag 9,.int .i64]),(∀ d N',N<=N'->r.1.Is d->Q d r.2 N')->ACalls prog f [.ag 9,.int .i64] args N Q
def zQu (f:FuncId) (args:List PV) (r:Tm × Int × Bool):Prop:=∀ (N:Nat) (Q:QT [.ag 9,.int .i64,.bool]),(∀ d N',N<=N'->r.1.Is d->Q d r.2.1 r.2.2 N')->ACalls prog f [.ag 9,.int .i64,.bool] args N Q
/-- copies -/
def zQl (F:FuncId):Prop:=∀ (t:Tm) (d:D),t.Is d->t.G->∀ (N:Nat) (Q:QT [.pk,.int .i64,.str,.str,.int .i64,.dc,.dc,.dc,.dc,.row 30 9]),zAy t N Q->ACalls prog F [.pk,.int .i64,.str,.str,.int .i64,.dc,.dc,.dc,.dc,.row 30 9] [.dg 9 d] N Q
theorem zH0 {F:FuncId} (hF:zQl F) {t:Tm} {d:D} (h:t.Is d) (hG:t.G) {N0 N:Nat} (h0:N0<=N) (Q':D->Nat->Prop) (hq:∀ d' N',N<=N'->t.Is d'->Own N0 N' d'->Q' d' N') :
  ACalls prog F [.pk,.int .i64,.str,.str,.int .i64,.dc,.dc,.dc,.dc,.row 30 9] [.dg 9 d] N (fun n s s_1 n_1 x x_1 x_2 x_3 es c N2=>N<=N2->Bel N2 (D.ag es)->(es.length=es.length/\c=c)/\(es.length=es.length/\c=c)/\∀ a N3,N2<=N3->Fresh N0 N3 a [D.ag es,x,x_1,x_2,x_3]->∀ N4,N3<=N4 ->
   Q' (D.ag [D.lit (.int .i64 n),D.lit (.string s),D.lit (.string s_1),D.lit (.int .i64 n_1),x,x_1,x_2,x_3,D.sl a 9 es c]) N4):=by
 refine hF t d h hG N _ ?_
 cases t with
 | mk k2 nm2 ot2 n2 ty2 re2 l2=>
 simp only [zAy]
 intro x4 x5 x6 x7 es' c' N2 hN2 hh' hes' ho' _ _
 have hl':=hes'.len
 have hgl:=hG.2.2.1
 exact ⟨⟨trivial,trivial⟩,⟨trivial,trivial⟩,fun a2 N3 hN3 hf N4 hN4=>hq _ _ (by omega) (Tm.is_mk.2 ⟨_,_,_,_,_,_,_,rfl,hh',by omega,hes'⟩) ((zFu (ho'.mono h0 (oD _)) hf hN3).mono (oD _) hN4)⟩
theorem zRQ {F:FuncId} (hF:zQl F) {t y:Tm} {d dy:D} (h:t.Is d) (hG:t.G) (hy:y.Is dy) {i:Nat} (hi:i<t.as.length) {N0 N:Nat} (Q':D->Nat->Prop) (hq:∀ d' N',N<=N'->(t.wth i y).Is d'->Q' d' N') :
  ACalls prog F [.pk,.int .i64,.str,.str,.int .i64,.dc,.dc,.dc,.dc,.row 30 9] [.dg 9 d] N (fun n s s_1 n_1 x x_1 x_2 x_3 es c N2=>N<=N2->Bel N2 (D.ag es)->(0<=(i:Int)/\(i:Int)<(es.length:Int)/\(0+(i:Int).toNat:Nat)<es.length)/\(0+(i:Int).toNat:Nat)<es.length /\
   (es.length=(List.set es (0+(i:Int).toNat:Nat) dy).length/\c=c)/\(es.length=(List.set es (0+(i:Int).toNat:Nat) dy).length/\c=c)/\(es.length=(List.set es (0+(i:Int).toNat:Nat) dy).length/\c=c)/\(es.length=(List.set es (0+(i:Int).toNat:Nat) dy).length/\c=c)/\(es.length=(List.set es (0+(i:Int).toNat:Nat) dy).length/\c=c) /\
   ∀ a N3,N2<=N3->Fresh N0 N3 a [D.ag (List.set es (0+(i:Int).toNat:Nat) dy),x,x_1,x_2,x_3]->∀ N4,N3<=N4 ->
   Q' (D.ag [D.lit (.int .i64 n),D.lit (.string s),D.lit (.string s_1),D.lit (.int .i64 n_1),x,x_1,x_2,x_3,D.sl a 9 (List.set es (0+(i:Int).toNat:Nat) dy) c]) N4):=by
 refine hF t d h hG N _ ?_
 cases t with
 | mk k2 nm2 ot2 n2 ty2 re2 l2=>
 simp only [zAy]
 simp only [Tm.as] at hi
 intro x4 x5 x6 x7 es' c' N2 hN2 hh' hes' ho' _ _
 have hl':=hes'.len
 have hgl:=hG.2.2.1
 rw [oJ,nE]
 have hs:(List.set es' i dy).length=es'.length:=nY
 exact ⟨⟨by omega,by omega,by omega⟩,by omega,⟨hs.symm,trivial⟩,⟨hs.symm,trivial⟩,⟨hs.symm,trivial⟩,⟨hs.symm,trivial⟩,⟨hs.symm,trivial⟩,fun a2 N3 hN3 hf N4 hN4=>hq _ _ (by omega) (Tm.is_mk.2 ⟨_,_,_,_,_,_,_,rfl,hh',by omega,zBa hes' hy⟩)⟩
theorem zLj {k n:Int}:(zM8 k n).Is (.ag [.lit (.int .i64 k),.lit (.string (bytes [])),.lit (.string (bytes [])),.lit (.int .i64 n),.lit (.int .i64 0),.sl none 2 [] 0,.lit (.int .i64 0),.sl none 2 [] 0,.sl none 9 [] 0]):=
 Tm.is_mk.2 ⟨_,_,_,_,_,_,_,rfl,⟨by decide,by decide,Ty.is_mk.2 ⟨_,_,_,rfl,by simp,rfl⟩,Ty.is_mk.2 ⟨_,_,_,rfl,by simp,rfl⟩⟩,by simp,rfl⟩
/-- the level of a node's parts, at any level -/
theorem zHK {k n m:Int} {c1 c2 c4 c5 c6 c7 c8:D} (h : -1152921504606846976<=m/\m<=1152921504606846976):zBW 215 [.dg 9 (.ag [.lit (.int .i64 k),c1,c2,.lit (.int .i64 n),c4,c5,c6,c7,c8]),.int .i64 m] (xC k m):=fun N Q hQ=>by
 refine qv N _ m Q fun _=>?_
 rw [i64_in (m+1) (by omega),i64_in (m - 1) (by omega)]
 repeat' first|with_reducible intro _|simp only[Y1,Y2,Y3,Y4]|with_reducible refine X ?_ ?_|refine⟨_,_,_,rfl,?_⟩|refine⟨_,rfl,?_⟩|refine And.intro (by first|omega|trivial|(show _=_;rfl)|(with_reducible constructor)<;>first|omega|trivial|rfl) ?_|fail
 all_goals (refine Qi (hQ _ (by omega)) ?_;simp [xC, *])
theorem zHZ {k n m:Int} {c1 c2 c4 c5 c6 c7 c8:D} (h : -1152921504606846976<=m/\m<=1152921504606846976):zBW 207 [.dg 9 (.ag [.lit (.int .i64 k),c1,c2,.lit (.int .i64 n),c4,c5,c6,c7,c8]),.int .i64 m] (xC k m):=fun N Q hQ=>by
 refine tN N _ m Q fun _=>?_
 rw [i64_in (m+1) (by omega),i64_in (m - 1) (by omega)]
 repeat' first|with_reducible intro _|simp only[Y1,Y2,Y3,Y4]|with_reducible refine X ?_ ?_|refine⟨_,_,_,rfl,?_⟩|refine⟨_,rfl,?_⟩|refine And.intro (by first|omega|trivial|(show _=_;rfl)|(with_reducible constructor)<;>first|omega|trivial|rfl) ?_|fail
 all_goals (refine Qi (hQ _ (by omega)) ?_;simp [xC, *])
/-- a level that stays far from the ends, however deep -/
def LvIn (m:Int) (d:Nat):Prop := -1152921504606846976<=m - (d:Int)/\m+(d:Int)<=1152921504606846976
theorem LvIn.next {k m:Int} {d d':Nat} (h:LvIn m d) (hd:d'+1<=d):LvIn (xC k m) d':=by
 unfold LvIn xC at *
 split
 ·omega
 ·split<;>omega
theorem LvIn.b {m:Int} {d:Nat} (h:LvIn m d) : -1152921504606846976<=m/\m<=1152921504606846976:=by unfold LvIn at h;omega
theorem dp_mem {k:Int} {nm ot:ByteArray} {n:Int} {ty re:Ty} {l:List Tm} {y:Tm} (h:y∈l):y.dp+1<=(Tm.mk k nm ot n ty re l).dp:=by
 have:=uz.1 (oD (t7 l)) y h
 simp only [Tm.dp];omega
theorem zFy:∀ (t:Tm) (d:D),t.Is d->∀ m:Int,LvIn m t.dp->vK 184 [.dg 9 d,.int .i64 m] (t.made m):=by
 refine Tm.ind fun k nm ot n ty re l ih d hd m hm N Q hQ=>?_
 obtain ⟨t0,t1,r0,r1,a,es,c,rfl,hh,hlen,hes⟩:=Tm.is_mk.1 hd
 have hl:=hes.len
 have key:∀ (N':Nat),N<=N'->(∀ N'',N'<=N''->Q (vP l (xC k m)) N'')->yS Q N m 0 (.ag [.lit (.int .i64 k),.lit (.string nm),.lit (.string ot),.lit (.int .i64 n),t0,t1,r0,r1,.sl a 9 es c]) N':=by
  refine up hes hlen (fun i xs=>∀ (N':Nat),N<=N'->(∀ N'',N'<=N''->Q (vP xs (xC k m)) N'')->yS Q N m i (.ag [.lit (.int .i64 k),.lit (.string nm),.lit (.string ot),.lit (.int .i64 n),t0,t1,r0,r1,.sl a 9 es c]) N') ?_ ?_
  ·intro i hlt _ N' hN' hQ'
   refine sY _ _ _ _ _ _ ?_
   repeat' first|with_reducible intro _|simp only[hlt,Y1,Y2,Y3,Y4]|with_reducible refine X ?_ ?_|refine⟨_,_,_,rfl,?_⟩|refine⟨_,rfl,?_⟩|refine And.intro (by first|omega|trivial|(show _=_;rfl)|(with_reducible constructor)<;>first|omega|trivial|rfl) ?_|fail
   exact Qb (hQ' _ (by omega)) (by simp [vP])
  ·intro i x xs hat _ ih2 N' hN' hQ'
   have hb2:=hat.b
   refine sY _ _ _ _ _ _ ?_
   repeat' first|with_reducible intro _|simp only[hat.lt,hat.w,oJ,Y1,Y2,Y3,Y4]|with_reducible refine X ?_ ?_|refine⟨_,_,_,rfl,?_⟩|refine⟨_,rfl,?_⟩|refine And.intro (by first|omega|trivial|(show _=_;rfl)|(with_reducible constructor)<;>first|omega|trivial|rfl) ?_|refine (zHK hm.b) _ _ ?_|refine (ih x hat.m _ hat.r _ (hm.next (dp_mem hat.m))) _ _ ?_|fail
   ·refine Qb (hQ' _ (by omega)) ?_;simp [vP, *]
   ·exact ih2 _ (by omega) fun N'' h=>Qb (hQ' N'' (by omega)) (by simp [vP, *])
 refine zE9 N _ m Q fun _=>⟨_,rfl,Br.beq (fun h1=>Br.beq (fun h2 N1 hN1=>?_) fun h2=>?_) fun h1=>?_⟩
 ·exact Qb (hQ _ hN1) (by simp [Tm.made,h1,h2])
 ·exact key N (oD _) fun N'' h=>Qb (hQ _ h) (by simp [Tm.made,h1,h2])
 ·exact key N (oD _) fun N'' h=>Qb (hQ _ h) (by simp [Tm.made,h1])
theorem zQ {e:Tm} {d:D} (he:e.Is d) (hok:e.ok=true) (hdp:e.dp<=1073741824):vK 126 [.dg 9 d] e.res:=fun N Q hQ=>by
 cases e with
 | mk k nm ot n0 ty re l=>
 obtain ⟨t0,t1,r0,r1,a,es,c,rfl,hh,hlen,hes⟩:=Tm.is_mk.1 he
 have hl:=hes.len
 refine zAw N _ Q fun _=>⟨_,rfl,?_⟩
 refine Br.beq (fun h2 N1 hN1=>Qb (hQ _ hN1) (by simp [Tm.res,zJA,Tm.kd,h2])) fun h2=>?_
 refine Br.beq (fun h3 N1 hN1=>Qb (hQ _ hN1) (by simp [Tm.res,zJA,Tm.kd,h3])) fun h3=>?_
 refine Br.beq (fun h6 N1 hN1=>Qb (hQ _ hN1) (by simp [Tm.res,zJA,Tm.kd,h6])) fun h6=>?_
 refine Br.beq (fun h9 N1 hN1=>Qb (hQ _ hN1) (by simp [Tm.res,zJA,Tm.kd,h9])) fun h9=>?_
 refine Br.beq (fun h10 N1 hN1=>?_) fun h10 N1 hN1=>Qb (hQ _ hN1) (by simp [Tm.res,zJA,Tm.kd,h2,h3,h6,h9,h10])
 subst h10
 have hl1:=(uK hok).1 (by omega)
 have hm:=zl (l:=l) (i:=0) (by omega)
 have hdm:=dp_mem (k:=10) (nm:=nm) (ot:=ot) (n:=n0) (ty:=ty) (re:=re) hm
 refine zB4 _ _ he 0 N1 _ fun N2 hN2 _=>Br.of (fun hv=>⟨_,_,_,rfl,⟨by omega,by omega⟩,fun N3 hN3=>?_⟩) fun hv N3 hN3=>Qb (hQ _ (by omega)) (by simp [Tm.res,zJA,Tm.kd,hv])
 refine zFy _ _ (wV hes (j:=0) (by omega)) 1 (by unfold LvIn;omega) N3 _ fun N4 hN4 _ N5 hN5=>Qb (hQ _ (by omega)) ?_
 simp [Tm.res,zJA,Tm.kd,hv,Tm.pt]
theorem zBc {S:Tm->Tm × Int} {e:Tm}:∀ {l:List Tm} {i:Nat} {r:Tm × Int},goS S e l i=some r->∃ j x,l[j]?=some x/\x.res=false/\r=(e.wth (i+j) (S x).1,(S x).2)
 | [],_,_,h=>by simp [goS] at h
 | x::l,i,r,h=>by
   simp only [goS] at h
   split at h
   ·obtain ⟨j,y,h1,h2,h3⟩:=zBc h
    exact ⟨j+1,y,by simpa using h1,h2,by rw [h3,show i+1+j=i+(j+1) by omega]⟩
   ·rename_i hx
    exact ⟨0,x,rfl,by simpa using hx,(oT h).symm⟩
theorem zRL:tm0.G:=by simp [tm0,Tm.G,zJa,Ty.cnt,zT]
theorem zPv {e:Tm} {i:Nat} (h:e.G):(e.pt i).G:=by
 cases e with
 | mk k nm ot n ty re l=>
 simp only [Tm.pt]
 by_cases hi:i<l.length
 ·exact yF h.2.2.2 (zl hi)
 ·rw [oA,oV (by omega)];exact zRL
theorem zPg {e x:Tm} {i:Nat} (h:e.G) (hx:x.G):(e.wth i x).G:=by
 cases e with
 | mk k nm ot n ty re l=>
 refine ⟨h.1,h.2.1,by simpa using h.2.2.1,zDJ fun y hy=>?_⟩
 rcases nK hy with hy | rfl
 ·exact yF h.2.2.2 hy
 ·exact hx
theorem zRM {e:Tm} (h:e.G):e.apl.1.G:=by
 cases e with
 | mk k nm ot n ty re l=>
 have g:∀ i,(l.getD i tm0).G:=fun i=>zPv (e:=.mk k nm ot n ty re l) h
 have gp:∀ i j,((l.getD i tm0).pt j).G:=fun i j=>zPv (g i)
 simp only [Tm.apl,Tm.opr]
 have s:∀ (t b:Tm) (x:ByteArray),t.G->b.G->(t.sb x b).G:=fun t b x h1 h2=>zPY _ t x b h1 h2
 have ln:∀ k n,(zM8 k n).G:=fun k n=>by simp [zM8,Tm.G,zJa,Ty.cnt,zT]
 have nn:∀ x:Tm,x.G->(Tm.nod 10 [x]).G:=fun x hx=>by simpa [Tm.nod,Tm.G,zJa,Ty.cnt,zT] using hx
 (repeat' split)<;>first | exact h | exact g _ | exact gp _ _ | exact s _ _ _ (gp _ _) (g _) | exact s _ _ _ (s _ _ _ (gp _ _) (g _)) (g _) | exact s _ _ _ (g _) (g _) | exact ln _ _ | exact nn _ (g _)
theorem zRm {S:Tm->Tm × Int} (hS:∀ x:Tm,x.G->(S x).1.G):∀ (t:Tm) (m:Int),t.G->(t.cod S m).1.G:=by
 refine Tm.ind fun k nm ot n ty re l ih m h=>?_
 simp only [Tm.cod]
 split
 ·unfold zPs
  split
  ·split
   ·exact zPv (zPv h)
   ·exact h
  ·exact zPg h (hS _ (zPv h))
 ·have key:∀ (xs:List Tm),(∀ x∈xs,x∈l)->∀ l' r,yX S xs (xC k m)=some (l',r)->l'.length=xs.length/\∀ x∈l',x.G:=by
   intro xs
   induction xs with
   | nil=>intro _ l' r h;simp [yX] at h
   | cons x xs ihx=>
     intro hm l' r h2
     have hx:=hm x (by simp)
     simp only [yX] at h2
     split at h2
     ·cases h2
      refine ⟨by simp,fun y hy=>?_⟩
      rcases oG.1 hy with rfl | hy
      ·exact ih x hx _ (yF h.2.2.2 hx)
      ·exact yF h.2.2.2 (hm y (by simp [hy]))
     ·split at h2
      ·cases h2
      ·rename_i l2 r2 h3
       cases h2
       obtain ⟨b1,b2⟩:=ihx (fun y hy=>hm y (by simp [hy])) _ _ h3
       refine ⟨by simp [b1],fun y hy=>?_⟩
       rcases oG.1 hy with rfl | hy
       ·exact yF h.2.2.2 hx
       ·exact b2 y hy
  cases hc:yX S l (xC k m) with
  | none=>exact h
  | some p=>
    obtain ⟨l',r⟩:=p
    obtain ⟨b1,b2⟩:=key l (fun x hx=>hx) l' r hc
    exact ⟨h.1,h.2.1,by rw [b1];exact h.2.2.1,zDJ b2⟩
theorem zQi:∀ (f:Nat) (e:Tm),e.G->(e.stp f).1.G
 | 0,e,h=>h
 | f + 1,.mk k nm ot n ty re l,h=>by
   have ih:=zQi f
   simp only [Tm.stp]
   split
   ·exact h
   ·by_cases hk:(Tm.mk k nm ot n ty re l).kd=10
    ·rw [if_pos hk]
     exact zPg h (zRm ih _ 1 (zPv h))
    ·rw [if_neg hk]
     cases hg:goS (Tm.stp f) (Tm.mk k nm ot n ty re l) (l.take (zKW k l.length)) 0 with
     | none=>exact zRM h
     | some r=>
       obtain ⟨j,x,g1,g2,rfl⟩:=zBc hg
       exact zPg h (ih x (yF h.2.2.2 (List.take_subset _ _ (oB g1))))
/-- steps of parts -/
def zPu (F:FuncId) (f:Nat):Prop:=∀ (e:Tm) (d:D),e.Is d->e.F f->zME F [.dg 9 d] (e.stp f)
theorem Tm.F.dp {e:Tm} {f:Nat} (h:e.F f):e.dp<=1073741824:=by
 have:=Tm.dp_cnt e
 have:=h.c
 omega
theorem zQq {k:Int} {nm ot:ByteArray} {n:Int} {ty re:Ty} {l:List Tm} {i:Nat}:(Tm.mk k nm ot n ty re l).pt i=l.getD i tm0:=rfl
theorem zC2 {t y:Tm} {d dy:D} (h:t.Is d) (hG:t.G) (hy:y.Is dy) {i:Nat} (hi:i<t.as.length) (N:Nat) (Q:QT [.ag 9]) (hq:∀ d' N',N<=N'->(t.wth i y).Is d'->Q d' N') :
  ACalls prog 225 [.ag 9] [.dg 9 d,.int .i64 (i:Int),.dg 9 dy] N Q:=
 zDl N _ _ _ Q fun _ _ N1 hN1=>zRQ uu h hG hy hi (fun d N=>Q d N) fun d' N' h1 h2=>hq _ _ (by omega) h2
theorem zE5 {f:Nat} (hS:zPu 178 f) {k n0:Int} {nm ot:ByteArray} {ty re:Ty} {l:List Tm} {d:D} (h:(Tm.mk k nm ot n0 ty re l).Is d) (hF:(Tm.mk k nm ot n0 ty re l).F (f+1)) {i:Nat} (hi:i<l.length) :
  zME 248 [.dg 9 d,.int .i64 (i:Int)] ((Tm.mk k nm ot n0 ty re l).wth i (Tm.stp f (l.getD i tm0)).1,(Tm.stp f (l.getD i tm0)).2):=fun N Q hQ=>by
 obtain ⟨t0,t1,r0,r1,a,es,c,rfl,hh,hlen,hes⟩:=Tm.is_mk.1 h
 have hl:=hes.len
 refine zHU N _ _ Q fun _=>⟨_,_,_,rfl,⟨by omega,by omega⟩,fun N1 hN1=>?_⟩
 rw [oJ]
 refine hS _ _ (wV hes hi) (hF.mem _ (zl hi)) N1 _ fun dx N2 hN2 hx _ _=>Br.beq (fun h0 N3 hN3=>?_) fun h0 N4 hN4=>?_
 ·refine hQ _ _ (by omega) ?_
  have e1:=zOY f _ h0
  simp only
  rw [e1,<-zQq (k:=k) (nm:=nm) (ot:=ot) (n:=n0) (ty:=ty) (re:=re),zJH]
  exact h
 ·exact zC2 h hF.z.g hx hi N4 _ fun d' N5 hN5 hd' _ _ N6 hN6=>hQ _ _ (by omega) hd'
theorem zLy {f:Nat} (hS:zPu 178 f):∀ (t:Tm) (d:D),t.Is d->t.F (f+1)->∀ m:Int,LvIn m t.dp->zQu 224 [.dg 9 d,.int .i64 m] (t.cod (Tm.stp f) m):=by
 refine Tm.ind fun k nm ot n0 ty re l ih d hd hF m hm N Q hQ=>?_
 have hd0:=hd
 obtain ⟨t0,t1,r0,r1,a,es,c,rfl,hh,hlen,hes⟩:=Tm.is_mk.1 hd
 have hl:=hes.len
 have loop:¬(k=11/\m=1)->yA Q N m 0 (.ag [.lit (.int .i64 k),.lit (.string nm),.lit (.string ot),.lit (.int .i64 n0),t0,t1,r0,r1,.sl a 9 es c]) 0 (bytes []) (bytes []) 0 0 none [] 0 0 none [] 0 none [] 0 N:=fun hne=>by
  simp only [Tm.cod] at hQ
  rw [if_neg hne] at hQ
  refine up hes hlen (fun i xs=>∀ N',N<=N'->(match yX (Tm.stp f) xs (xC k m) with | none=>yX (Tm.stp f) l (xC k m)=none | some (l',r)=>yX (Tm.stp f) l (xC k m)=some (l.take i++l',r)) ->
   yA Q N m i (.ag [.lit (.int .i64 k),.lit (.string nm),.lit (.string ot),.lit (.int .i64 n0),t0,t1,r0,r1,.sl a 9 es c]) 0 (bytes []) (bytes []) 0 0 none [] 0 0 none [] 0 none [] 0 N') ?_ ?_ N (oD _) ?_
  ·intro i hlt hi N' hN' he
   simp only [yX] at he
   rw [he] at hQ
   refine ua _ _ _ _ _ _ _ _ _ _ _ _ _ _ _ _ _ _ _ _ _ ⟨_,_,_,rfl,?_⟩
   rw [hlt]
   exact fun N2 hN2=>hQ _ _ (by omega) hd0
  ·intro i x xs hat hxs ih2 N' hN' he
   have hb:=hat.b
   have hil:i<l.length:=(oC.1 hat.g).1
   refine ua _ _ _ _ _ _ _ _ _ _ _ _ _ _ _ _ _ _ _ _ _ ⟨_,_,_,rfl,?_⟩
   rw [hat.lt,oJ,hat.w]
   refine ⟨_,_,_,rfl,⟨by omega,by omega⟩,fun N1 hN1=>zHK hm.b N1 _ fun N2 hN2 _ N3 hN3=>?_⟩
   refine ih x hat.m _ hat.r ((hF.mem x hat.m).up (by omega)) _ (hm.next (dp_mem hat.m)) N3 _ fun dx N4 hN4 hx _ _=>Br.of (fun hv N5 hN5=>?_) fun hv=>?_
   ·simp only [yX] at he
    rw [if_pos hv] at he
    simp only at he
    rw [he] at hQ
    refine zC2 hd0 hF.z.g hx hil N5 _ fun d' N6 hN6 hd' _ _ N7 hN7=>hQ _ _ (by omega) ?_
    have:l.take i++(x.cod (Tm.stp f) (xC k m)).1::xs=l.set i (x.cod (Tm.stp f) (xC k m)).1:=by
     rw [mQ,if_pos hil,hxs]
    simp only
    rw [this]
    exact hd'
   ·refine ih2 _ (by omega) ?_
    simp only [yX] at he
    rw [if_neg (by rw [hv];decide)] at he
    cases hc:yX (Tm.stp f) xs (xC k m) with
    | none=>rw [hc] at he;exact he
    | some p=>
      obtain ⟨l',r⟩:=p
      rw [hc] at he
      simp only at he ⊢
      rw [he,wt hat.g,nc];rfl
  ·cases hc:yX (Tm.stp f) l (xC k m) with
   | none=>rfl
   | some p=>obtain ⟨l',r⟩:=p;simp
 refine zD6 N _ m Q fun _=>⟨_,rfl,Br.beq (fun h1=>Br.beq (fun h2=>?_) fun h2=>loop fun h=>h2 h.2) fun h1=>loop fun h=>h1 h.1⟩
 have hl1:=(uK hF.ok).1 (by omega)
 have hi0:0<l.length:=by omega
 have hm0:=zl hi0
 have hF0:=hF.mem _ hm0
 have hp0:=wV hes hi0
 simp only [Tm.cod] at hQ
 rw [if_pos ⟨h1,h2⟩] at hQ
 unfold zPs at hQ
 rw [zQq] at hQ
 refine ⟨_,_,_,rfl,⟨by omega,by omega⟩,fun N1 hN1=>zQ hp0 hF0.ok hF0.dp N1 _ fun N2 hN2 _=>Br.not (fun hr N3 hN3=>?_) fun hr=>?_⟩
 ·rw [if_neg (by rw [hr];decide)] at hQ
  exact zE5 hS hd0 hF hi0 N3 _ fun dx N4 hN4 hx _ _ N5 hN5=>hQ _ _ (by omega) hx
 ·rw [if_pos hr] at hQ
  generalize l.getD 0 tm0=p at hp0 hF0 hr hQ hm0
  cases p with
  | mk pk pn po pm pt pr pl=>
  obtain ⟨u0,u1,v0,v1,a2,es2,c2,heq,hh2,hlen2,hes2⟩:=Tm.is_mk.1 hp0
  have hl2:=hes2.len
  rw [heq]
  refine ⟨_,rfl,Br.beq (fun h10=>?_) fun h10 N10 hN10=>?_⟩
  ·rw [if_pos (by exact h10)] at hQ
   have hl3:=(uK hF0.ok).1 (by omega)
   have hmm:=zl (l:=pl) (i:=0) (by omega)
   refine ⟨_,_,_,rfl,⟨by omega,by omega⟩,fun N6 hN6=>?_⟩
   refine zH0 uu (wV hes2 (j:=0) (by omega)) (yF hF0.z.g.2.2.2 hmm) (N0:=N) (by omega) (fun d N=>Q d 6 true N) fun d' N7 hN7 hd' _=>hQ _ _ (by omega) hd'
  ·rw [if_neg (by exact h10)] at hQ
   exact hQ _ _ (by omega) hd0
def zIC (l:List Tm) (i:Nat):List D:=[.lit (.int .i64 (if 0<i then (l.getD 0 tm0).no else 0)),.lit (.int .i64 (if 1<i then (l.getD 1 tm0).no else 0))]
theorem zNl {l:List Tm} {i:Nat} (hi:i<2):(zIC l i).set i (.lit (.int .i64 (l.getD i tm0).no))=zIC l (i+1):=by
 match i,hi with
 | 0,_=>rfl
 | 1,_=>rfl
theorem zFW {l:List Tm} {i:Nat} (h:l.length<=i):l.getD i tm0=tm0:=by rw [oA,oV h];rfl
theorem zNz {l:List Tm} (h:l.length<=2):zIC l l.length=[.lit (.int .i64 (l.getD 0 tm0).no),.lit (.int .i64 (l.getD 1 tm0).no)]:=by
 unfold zIC
 by_cases h0:0<l.length
 ·by_cases h1:1<l.length
  ·rw [if_pos h0,if_pos h1]
  ·rw [if_pos h0,if_neg h1,zFW (i:=1) (by omega)];rfl
 ·rw [if_neg h0,if_neg (by omega),zFW (i:=0) (by omega),zFW (i:=1) (by omega)];rfl
theorem zPd (s:ByteArray):zFJ s<=2:=by unfold zFJ;(repeat' split)<;>decide
theorem zMu (n:Int) (N:Nat) (Q:QT [.ag 9]) (hQ:∀ d N',N<=N'->(zM8 2 n).Is d->Q d N'):ACalls prog 204 [.ag 9] [.int .i64 n] N Q:=zAm N n Q fun N1 hN1=>hQ _ _ hN1 zLj
theorem zLB (n:Int) (N:Nat) (Q:QT [.ag 9]) (hQ:∀ d N',N<=N'->(zM8 3 n).Is d->Q d N'):ACalls prog 205 [.ag 9] [.int .i64 n] N Q:=qx N n Q fun N1 hN1=>hQ _ _ hN1 zLj
theorem zFF {S:Tm->Tm × Int} {e:Tm} {i:Nat} {x:Tm} {xs:List Tm} (h:x.res=true):goS S e (x::xs) i=goS S e xs (i+1):=by simp [goS,h]
theorem zPM {n0:Int} {nm ot:ByteArray} {ty re:Ty} {l:List Tm} (h:∀ x∈l,x.kd=wo nm):(Tm.mk 4 nm ot n0 ty re l).opr l=(zM8 (zIl nm) (xH nm (l.getD 0 tm0).no (l.getD 1 tm0).no).1,1):=by
 unfold Tm.opr
 rw [if_pos (oW.2 fun x hx=>by rw [h x hx];exact beq_self_eq_true _)]
 rfl
theorem zOv {n0:Int} {nm ot:ByteArray} {ty re:Ty} {l:List Tm} {x:Tm} (hx:x∈l) (h:x.kd≠wo nm):(Tm.mk 4 nm ot n0 ty re l).opr l=(Tm.mk 4 nm ot n0 ty re l,0):=by
 unfold Tm.opr
 rw [if_neg fun hc=>h (by have:=oW.1 hc _ hx;simpa [Tm.nm] using this)]
/-- an operation of results -/
theorem zMi {n0:Int} {nm ot:ByteArray} {ty re:Ty} {l:List Tm} {t0 t1 r0 r1:D} {a:Option Addr} {es:List D} {c:Nat} (hd0:(Tm.mk 4 nm ot n0 ty re l).Is (.ag [.lit (.int .i64 4),.lit (.string nm),.lit (.string ot),.lit (.int .i64 n0),t0,t1,r0,r1,.sl a 9 es c])) (hes:All2 Tm.Is l es) (hlen:es.length<=4611686018427387904) (hl2:l.length<=2) {N:Nat} {Q:QT [.ag 9,.int .i64]} (hQ:∀ d N',N<=N'->((Tm.mk 4 nm ot n0 ty re l).opr l).1.Is d->Q d ((Tm.mk 4 nm ot n0 ty re l).opr l).2 N') (N':Nat) (hN':N<=N') :
  yT Q N (wo nm) 2 2 0 (.ag [.lit (.int .i64 4),.lit (.string nm),.lit (.string ot),.lit (.int .i64 n0),t0,t1,r0,r1,.sl a 9 es c]) 0 (bytes []) (bytes []) 0 0 none [] 0 0 none [] 0 none [] 0 [.lit (.int .i64 0),.lit (.int .i64 0)] 2 N':=by
 have hl:=hes.len
 refine up hes hlen (fun i xs=>∀ N',N<=N'->(∀ j x,j<i->l[j]?=some x->x.kd=wo nm)->yT Q N (wo nm) 2 2 i (.ag [.lit (.int .i64 4),.lit (.string nm),.lit (.string ot),.lit (.int .i64 n0),t0,t1,r0,r1,.sl a 9 es c]) 0 (bytes []) (bytes []) 0 0 none [] 0 0 none [] 0 none [] 0 (zIC l i) 2 N') ?_ ?_ N' hN' (fun j x h=>absurd h (by omega))
 ·intro i hlt hi N' hN' hk
  rw [zPM fun x hx=>by
   obtain ⟨j,hj⟩:=oN.1 hx
   exact hk j x (by have:=(oC.1 hj).1;omega) hj] at hQ
  refine te _ _ _ _ _ _ _ _ _ _ _ _ _ _ _ _ _ _ _ _ _ _ _ _ _ ⟨_,_,_,rfl,?_⟩
  rw [hlt]
  have hin:i=l.length:=by omega
  rw [hin,zNz hl2]
  refine ⟨_,rfl,⟨⟨by omega,by omega,by simp⟩,by simp,_,rfl,⟨by omega,by omega,by simp⟩,by simp,_,rfl,fun N2 hN2=>zDz _ _ _ N2 _ fun N3 hN3 _=>⟨_,rfl,?_⟩⟩⟩
  have fin2:zHx nm=true->∀ N4,N3<=N4->ACalls prog 204 [.ag 9] [.int .i64 (xH nm (l.getD 0 tm0).no (l.getD 1 tm0).no).1] N4 (fun x N5=>N4<=N5->Bel N5 x->∀ N6,N5<=N6->Q x 1 N6):=fun ho N4 hN4=>by
   rw [show zIl nm=2 by unfold zIl;rw [if_pos ho]] at hQ
   exact zMu _ N4 _ fun x N5 hN5 hx _ _ N6 hN6=>hQ _ _ (by omega) hx
  refine Br.str (fun e1=>fin2 (by simp [zHx,e1])) fun e1=>⟨_,rfl,Br.str (fun e2=>fin2 (by simp [zHx,e2])) fun e2=>⟨_,rfl,Br.str (fun e3=>fin2 (by simp [zHx,e3])) fun e3 N4 hN4=>?_⟩⟩
  rw [show zIl nm=3 by unfold zIl;rw [if_neg (by simp [zHx,e1,e2,e3])]] at hQ
  exact zLB _ N4 _ fun x N5 hN5 hx _ _ N6 hN6=>hQ _ _ (by omega) hx
 ·intro i x xs hat hxs ih2 N' hN' hk
  have hb:=hat.b
  have hx:=hat.r
  refine te _ _ _ _ _ _ _ _ _ _ _ _ _ _ _ _ _ _ _ _ _ _ _ _ _ ⟨_,_,_,rfl,?_⟩
  rw [hat.lt,oJ,hat.w]
  have hgx:l.getD i tm0=x:=by rw [oA,hat.g];rfl
  cases x with
  | mk pk pn po pm pt pr pl=>
  obtain ⟨u0,u1,v0,v1,a2,es2,c2,heq,hh2,hlen2,hes2⟩:=Tm.is_mk.1 hx
  refine ⟨_,_,_,rfl,⟨by omega,by omega⟩,pk,by rw [heq];rfl,Br.bne (fun hne N1 hN1=>?_) fun he=>⟨_,_,_,rfl,⟨by omega,by omega⟩,pm,by rw [heq];rfl,⟨by omega,by omega,by simp only [zIC,oP,od];omega⟩,by simp only [zIC,oP,od];omega,?_⟩⟩
  ·rw [zOv hat.m hne] at hQ
   exact hQ _ _ (by omega) hd0
  ·rw [nE]
   have hns:=zNl (l:=l) (i:=i) (by omega)
   rw [hgx] at hns
   simp only [Tm.no] at hns
   rw [hns]
   refine ih2 _ hN' fun j y hj hy=>?_
   by_cases hji:j<i
   ·exact hk j y hji hy
   ·have:j=i:=by omega
    subst this
    rw [hat.g] at hy
    rw [<-oT hy];exact he
/-- an operation -/
theorem zPE {f:Nat} (hS:zPu 178 f) {n0:Int} {nm ot:ByteArray} {ty re:Ty} {l:List Tm} {d:D} (hd:(Tm.mk 4 nm ot n0 ty re l).Is d) (hF:(Tm.mk 4 nm ot n0 ty re l).F (f+1)) {r:Tm × Int} (hr:(match goS (Tm.stp f) (Tm.mk 4 nm ot n0 ty re l) l 0 with | some r=>r | none=>(Tm.mk 4 nm ot n0 ty re l).opr l)=r) :
  zME 222 [.dg 9 d] r:=fun N Q hQ=>by
 have hd0:=hd
 obtain ⟨t0,t1,r0,r1,a,es,c,rfl,hh,hlen,hes⟩:=Tm.is_mk.1 hd
 have hl:=hes.len
 have hl2:l.length<=2:=by
  have h1:=(uK hF.ok).2.2.2.2 rfl
  have h2:=zPd nm
  omega
 have second:(∀ x∈l,x.res=true)->∀ N',N<=N'->yT Q N (wo nm) 2 2 0 (.ag [.lit (.int .i64 4),.lit (.string nm),.lit (.string ot),.lit (.int .i64 n0),t0,t1,r0,r1,.sl a 9 es c]) 0 (bytes []) (bytes []) 0 0 none [] 0 0 none [] 0 none [] 0 [.lit (.int .i64 0),.lit (.int .i64 0)] 2 N':=fun hres N' hN'=>by
  have hg:goS (Tm.stp f) (Tm.mk 4 nm ot n0 ty re l) l 0=none:=by
   have:∀ (xs:List Tm) (i:Nat),(∀ x∈xs,x.res=true)->goS (Tm.stp f) (Tm.mk 4 nm ot n0 ty re l) xs i=none:=by
    intro xs
    induction xs with
    | nil=>intro i _;rfl
    | cons x xs ih=>intro i h;rw [zFF (h x (by simp))];exact ih _ fun y hy=>h y (by simp [hy])
   exact this l 0 hres
  rw [hg] at hr
  simp only at hr
  subst hr
  exact zMi hd0 hes hlen hl2 hQ N' hN'
 have first:z9 Q N (wo nm) 2 2 0 (.ag [.lit (.int .i64 4),.lit (.string nm),.lit (.string ot),.lit (.int .i64 n0),t0,t1,r0,r1,.sl a 9 es c]) 0 (bytes []) (bytes []) 0 0 none [] 0 0 none [] 0 none [] 0 [.lit (.int .i64 0),.lit (.int .i64 0)] 2 N:=by
  refine up hes hlen (fun i xs=>∀ N',N<=N'->(∀ j x,j<i->l[j]?=some x->x.res=true)->(match goS (Tm.stp f) (Tm.mk 4 nm ot n0 ty re l) xs i with | some r=>r | none=>(Tm.mk 4 nm ot n0 ty re l).opr l)=r->z9 Q N (wo nm) 2 2 i (.ag [.lit (.int .i64 4),.lit (.string nm),.lit (.string ot),.lit (.int .i64 n0),t0,t1,r0,r1,.sl a 9 es c]) 0 (bytes []) (bytes []) 0 0 none [] 0 0 none [] 0 none [] 0 [.lit (.int .i64 0),.lit (.int .i64 0)] 2 N') ?_ ?_ N (oD _) (fun j x h=>absurd h (by omega)) hr
  ·intro i hlt hi N' hN' hk _
   refine rh _ _ _ _ _ _ _ _ _ _ _ _ _ _ _ _ _ _ _ _ _ _ _ _ _ ⟨_,_,_,rfl,?_⟩
   rw [hlt]
   refine second (fun x hx=>?_) N' hN'
   obtain ⟨j,hj⟩:=oN.1 hx
   exact hk j x (by have:=(oC.1 hj).1;omega) hj
  ·intro i x xs hat hxs ih2 N' hN' hk he
   have hb:=hat.b
   have hil:i<l.length:=(oC.1 hat.g).1
   obtain rfl:l.getD i tm0=x:=by rw [oA,hat.g];rfl
   have hFx:=hF.mem _ hat.m
   refine rh _ _ _ _ _ _ _ _ _ _ _ _ _ _ _ _ _ _ _ _ _ _ _ _ _ ⟨_,_,_,rfl,?_⟩
   rw [hat.lt,oJ,hat.w]
   refine ⟨_,_,_,rfl,⟨by omega,by omega⟩,fun N1 hN1=>zQ hat.r hFx.ok hFx.dp N1 _ fun N2 hN2 _=>Br.not (fun hv N3 hN3=>?_) fun hv=>?_⟩
   ·simp only [goS] at he
    rw [if_neg (by rw [hv];decide)] at he
    simp only at he
    subst he
    exact zE5 hS hd0 hF hil N3 _ fun dx N4 hN4 hx _ _ N5 hN5=>hQ _ _ (by omega) hx
   ·rw [zFF hv] at he
    refine ih2 _ (by omega) (fun j y hj hy=>?_) he
    by_cases hji:j<i
    ·exact hk j y hji hy
    ·have:j=i:=by omega
     subst this
     rw [hat.g] at hy
     rw [<-oT hy];exact hv
 refine zHI N _ Q fun _=>⟨_,rfl,Br.str (fun e1=>?_) fun e1=>⟨_,rfl,Br.str (fun e2=>?_) fun e2=>⟨_,rfl,Br.str (fun e3=>?_) fun e3=>?_⟩⟩⟩
 ·have:wo nm=3:=by simp [wo,qX,e1]
  rw [this] at first;exact first
 ·have:wo nm=3:=by simp [wo,qX,e2]
  rw [this] at first;exact first
 ·have:wo nm=3:=by simp [wo,qX,e3]
  rw [this] at first;exact first
 ·have:wo nm=2:=by simp [wo,qX,e1,e2,e3]
  rw [this] at first;exact first
/-- what a substitution makes is not too great for another -/
theorem zR1 {e b:Tm} {x:ByteArray} {f g:Nat} (he:e.F f) (hb:b.F g):(e.sb x b).Z:=by
 have h1:=zOg e.dp e x b
 have h2:=he.vc
 have h3:=hb.vc
 have h4:e.vc*(b.vc+1)<=1333333*1333334:=Nat.mul_le_mul h2 (by omega)
 exact ⟨zPY _ _ _ _ he.z.g hb.z.g,by unfold Tm.sb;omega,zO9 _ _ _ _ he.z.v hb.z.v⟩
theorem zBb {e b:Tm} {d db:D} (he:e.Is d) (hb:b.Is db) (x:ByteArray) (h1:e.Z) (h2:b.Z):zQg 249 [.dg 9 d,.str x,.dg 9 db] (e.sb x b):=zEa e.dp e d x b db he hb (oD _) h1 h2
/-- the step of a form whose parts are searched -/
def zOK (f:Nat):Tm->Nat->Tm × Int
 | .mk k nm ot n ty re l,m=>match goS (Tm.stp f) (.mk k nm ot n ty re l) (l.take m) 0 with
   | some r=>r
   | none=>(Tm.mk k nm ot n ty re l).apl
theorem zNd {f:Nat} (hS:zPu 178 f) {n0:Int} {nm ot:ByteArray} {ty re:Ty} {l:List Tm} {d:D} (hd:(Tm.mk 7 nm ot n0 ty re l).Is d) (hF:(Tm.mk 7 nm ot n0 ty re l).F (f+1)) :
  zME 223 [.dg 9 d] (zOK f (Tm.mk 7 nm ot n0 ty re l) l.length):=fun N Q hQ=>by
 have hd0:=hd
 obtain ⟨t0,t1,r0,r1,a,es,c,rfl,hh,hlen,hes⟩:=Tm.is_mk.1 hd
 have hl:=hes.len
 have hl2:=(uK hF.ok).2.1 (.inl rfl)
 simp only [zOK,List.take_length] at hQ
 have e2:(es.length:Int)=2:=by omega
 refine zFz N _ Q fun _=>⟨_,_,_,rfl,⟨by omega,by omega⟩,?_⟩
 refine up hes hlen (fun i xs=>∀ N',N<=N'->(∀ r:Tm × Int,(match goS (Tm.stp f) (Tm.mk 7 nm ot n0 ty re l) xs i with | some r=>r | none=>(Tm.mk 7 nm ot n0 ty re l).apl)=r->∀ d N'',N<=N''->r.1.Is d->Q d r.2 N'') ->
  wR Q N i (.ag [.lit (.int .i64 7),.lit (.string nm),.lit (.string ot),.lit (.int .i64 n0),t0,t1,r0,r1,.sl a 9 es c]) 0 (bytes []) (bytes []) 0 0 none [] 0 0 none [] 0 none [] 0 (List.getD es 0 default) N') ?_ ?_ N (oD _) (fun r hr d N'' h1 h2=>by rw [<-hr];rw [<-hr] at h2;exact hQ d N'' h1 h2)
 ·intro i hlt hi N' hN' hr
  have hr:=hr _ rfl
  simp only [goS,Tm.apl] at hr
  rw [if_neg (by decide),if_neg (by decide),if_pos trivial] at hr
  refine sE _ _ _ _ _ _ _ _ _ _ _ _ _ _ _ _ _ _ _ _ _ ?_
  rw [<-e2,hlt]
  have hp0:=wV hes (j:=0) (by omega)
  have hq0:=wV hes (j:=1) (by omega)
  have hFp:=hF.mem _ (zl (l:=l) (i:=0) (by omega))
  have hFq:=hF.mem _ (zl (l:=l) (i:=1) (by omega))
  generalize l.getD 0 tm0=p at hp0 hFp hr
  generalize l.getD 1 tm0=q at hq0 hFq hr
  have hp1:=hp0
  cases p with
  | mk pk pn po pm pt pr pl=>
  obtain ⟨u0,u1,v0,v1,a2,es2,c2,heq,hh2,hlen2,hes2⟩:=Tm.is_mk.1 hp0
  have hl3:=hes2.len
  rw [heq] at hp1 ⊢
  have one:(pk=6\/pk=9)->pl.length=1:=fun h=>(uK hFp.ok).1 (by omega)
  have hF1:pl.length=1->(pl.getD 0 tm0).F f:=fun h=>((hFp.up (g:=f+1) (by omega)).mem _ (zl (l:=pl) (i:=0) (by omega)))
  refine ⟨_,rfl,Br.beq (fun h6=>?_) fun h6=>Br.beq (fun h9=>?_) fun h9 N14 hN14=>?_⟩
  ·have h1:=one (.inl h6)
   rw [if_pos (show (Tm.mk pk pn po pm pt pr pl).kd=6 from h6)] at hr
   refine ⟨_,_,_,rfl,⟨by omega,by omega⟩,_,rfl,_,_,_,rfl,⟨by omega,by omega⟩,fun N6 hN6=>?_⟩
   exact zBb (wV hes2 (j:=0) (by omega)) hq0 pn (hF1 h1).z hFq.z N6 _ fun dx N7 hN7 hx _ _ _ N8 hN8=>hr _ _ (by omega) hx
  ·have h1:=one (.inr h9)
   rw [if_neg (show ¬(Tm.mk pk pn po pm pt pr pl).kd=6 from h6),if_pos (show (Tm.mk pk pn po pm pt pr pl).kd=9 from h9)] at hr
   refine ⟨_,_,_,rfl,⟨by omega,by omega⟩,_,rfl,_,rfl,_,_,_,rfl,⟨by omega,by omega⟩,fun N9 hN9=>?_⟩
   refine zBb (wV hes2 (j:=0) (by omega)) hp1 pn (hF1 h1).z hFp.z N9 _ fun dx N10 hN10 hx _ _ _ N11 hN11=>?_
   exact zBb hx hq0 po (zR1 (hF1 h1) hFp) hFq.z N11 _ fun dy N12 hN12 hy _ _ _ N13 hN13=>hr _ _ (by omega) hy
  ·rw [if_neg (show ¬(Tm.mk pk pn po pm pt pr pl).kd=6 from h6),if_neg (show ¬(Tm.mk pk pn po pm pt pr pl).kd=9 from h9)] at hr
   exact hr _ _ (by omega) hd0
 ·intro i x xs hat hxs ih2 N' hN' hr
  have hb:=hat.b
  have hil:i<l.length:=(oC.1 hat.g).1
  obtain rfl:l.getD i tm0=x:=by rw [oA,hat.g];rfl
  have hFx:=hF.mem _ hat.m
  have hlt:=hat.lt
  rw [e2] at hlt
  refine sE _ _ _ _ _ _ _ _ _ _ _ _ _ _ _ _ _ _ _ _ _ ?_
  rw [hlt,oJ,hat.w]
  refine ⟨_,_,_,rfl,⟨by omega,by omega⟩,fun N1 hN1=>zQ hat.r hFx.ok hFx.dp N1 _ fun N2 hN2 _=>Br.not (fun hv N3 hN3=>?_) fun hv=>?_⟩
  ·have hr:=hr _ rfl
   simp only [goS] at hr
   rw [if_neg (by rw [hv];decide)] at hr
   exact zE5 hS hd0 hF hil N3 _ fun dx N4 hN4 hx _ _ N5 hN5=>hr _ _ (by omega) hx
  ·rw [zFF hv] at hr
   exact ih2 _ (by omega) hr
theorem zMw {l:List Tm} (h:0<l.length):l.take 1=[l.getD 0 tm0]:=by
 cases l with
 | nil=>simp at h
 | cons x xs=>rfl
theorem zLX (k:Int) {p:Tm} {d:D} (h:p.Is d) (hc:p.cnt<=1073741824) (a:Option Addr) (N:Nat) (Q:QT [.ag 9]) (hQ:∀ d' N',N<=N'->(Tm.nod k [p]).Is d'->Own N N' d'->Q d' N') :
 ACalls prog 123 [.ag 9] [.int .i64 k,.sv a 9 [d] 1] N Q:=si k (l:=[p]) (es:=[d]) ⟨d,[],rfl,h,rfl⟩ (by simp) (by simpa using hc) a 1 N Q hQ
/-- a form whose first part is searched -/
theorem zBX {f:Nat} (hS:zPu 178 f) {k n0:Int} {nm ot:ByteArray} {ty re:Ty} {l:List Tm} {d:D} (hk:k=5\/k=8\/k=12\/k=13) (hd:(Tm.mk k nm ot n0 ty re l).Is d) (hF:(Tm.mk k nm ot n0 ty re l).F (f+1)) :
  zME 226 [.dg 9 d] (zOK f (Tm.mk k nm ot n0 ty re l) 1):=fun N Q hQ=>by
 have hd0:=hd
 obtain ⟨t0,t1,r0,r1,a,es,c,rfl,hh,hlen,hes⟩:=Tm.is_mk.1 hd
 have hl:=hes.len
 have hl1:0<l.length:=by
  obtain ⟨a1,a2,a3,_⟩:=uK hF.ok
  rcases hk with h | h | h | h
  ·have:=a3 h;omega
  ·have:=a2 (.inr h);omega
  ·have:=a1 (by omega);omega
  ·have:=a1 (by omega);omega
 have hp0:=wV hes hl1
 have hFp:=hF.mem _ (zl hl1)
 simp only [zOK] at hQ
 rw [zMw hl1] at hQ
 simp only [goS] at hQ
 refine zGR N _ Q fun _=>⟨_,_,_,rfl,⟨by omega,by omega⟩,fun N1 hN1=>zQ hp0 hFp.ok hFp.dp N1 _ fun N2 hN2 _=>Br.not (fun hv N3 hN3=>?_) fun hv=>?_⟩
 ·rw [if_neg (by rw [hv];decide)] at hQ
  exact zE5 hS hd0 hF hl1 N3 _ fun dx N4 hN4 hx _ _ N5 hN5=>hQ _ _ (by omega) hx
 rw [if_pos hv] at hQ
 simp only [Tm.apl] at hQ
 generalize hpp:l.getD 0 tm0=p at hp0 hFp hv hQ
 have hp1:=hp0
 have hno:=fun h=>zKs hFp.ok h
 cases p with
 | mk pk pn po pm pt pr pl=>
 obtain ⟨u0,u1,v0,v1,a2,es2,c2,heq,hh2,hlen2,hes2⟩:=Tm.is_mk.1 hp0
 have hl3:=hes2.len
 simp only [Tm.kd,Tm.no] at hno
 rw [heq] at hp1 ⊢
 have lift:∀ (N:Nat) (a:Option Addr) (N':Nat) (hN:N2<=N) (_:ww N [a]),(∀ d N',N2<=N'->(Tm.nod 10 [Tm.mk pk pn po pm pt pr pl]).Is d->Q d 8 N') ->
   ACalls prog 123 [.ag 9] [.int .i64 10,.sv a 9 [.ag [.lit (.int .i64 pk),.lit (.string pn),.lit (.string po),.lit (.int .i64 pm),u0,u1,v0,v1,.sl a2 9 es2 c2]] 1] N (fun x N7=>N<=N7->Off [a] x/\(Bel N7 x->∀ N8,N7<=N8->Q x 8 N8)):=fun N3 a N' hN hb hq=>
  zLX 10 hp1 (by have:=hFp.c;omega) a N3 _ fun dx N4 hN4 hx ho _=>⟨wC hb ho,fun _ N5 hN5=>hq _ _ (by omega) hx⟩
 rcases hk with rfl | rfl | rfl | rfl
 ·have hl5:=(uK hF.ok).2.2.1 rfl
  rw [if_neg (by decide),if_pos rfl] at hQ
  refine ⟨_,rfl,Br.beq (fun _=>⟨_,rfl,Br.beq (fun h3=>?_) fun h3=>?_⟩) (fun h=>absurd rfl h)⟩
  ·have hn:=hno h3
   rw [if_pos (show (Tm.mk pk pn po pm pt pr pl).kd=3 from h3)] at hQ
   have hw:IntKind.i64.wrap (2 - pm)=2 - pm:=i64_in _ (by omega)
   refine ⟨_,_,_,rfl,_,rfl,?_⟩
   rw [hw]
   refine ⟨⟨by omega,by omega⟩,fun N6 hN6=>?_⟩
   refine zH0 uu (wV hes (j:=(2 - pm).toNat) (by omega)) (yF hF.z.g.2.2.2 (zl (by omega))) (N0:=N) (by omega) (fun d N=>Q d 2 N) fun d' N7 hN7 hd' _=>hQ _ _ (by omega) hd'
  ·rw [if_neg (show ¬(Tm.mk pk pn po pm pt pr pl).kd=3 from h3)] at hQ
   repeat' first | refine ⟨_,rfl,?_⟩ | refine Br.beq (fun h=>absurd h (by decide)) fun _=>?_
   all_goals exact fun N hN=>hQ _ _ (by omega) hd0
 ·have hl8:=(uK hF.ok).2.1 (.inr rfl)
  rw [if_neg (by decide),if_neg (by decide),if_neg (by decide),if_pos rfl] at hQ
  have hFq:=hF.mem _ (zl (l:=l) (i:=1) (by omega))
  have hq0:=wV hes (j:=1) (by omega)
  repeat' first | refine ⟨_,rfl,?_⟩ | refine Br.beq (fun h=>absurd h (by decide)) fun _=>?_ | refine Br.beq (fun _=>?_) (fun h=>absurd rfl h)
  all_goals
   refine ⟨_,_,_,rfl,⟨by omega,by omega⟩,_,rfl,fun N6 hN6=>?_⟩
   exact zBb hq0 hp1 nm hFq.z hFp.z N6 _ fun dx N7 hN7 hx _ _ _ N8 hN8=>hQ _ _ (by omega) hx
 ·rw [if_neg (by decide),if_neg (by decide),if_neg (by decide),if_neg (by decide),if_pos rfl] at hQ
  repeat' first | refine ⟨_,rfl,?_⟩ | refine Br.beq (fun h=>absurd h (by decide)) fun _=>?_ | refine Br.beq (fun _=>?_) (fun h=>absurd rfl h)
  all_goals
   refine Br.beq (fun h10=>?_) fun h10=>?_
   ·rw [if_pos (show (Tm.mk pk pn po pm pt pr pl).kd=10 from h10)] at hQ
    have h1:=(uK hFp.ok).1 (by omega)
    refine ⟨_,_,_,rfl,⟨by omega,by omega⟩,fun N6 hN6=>?_⟩
    refine zH0 uu (wV hes2 (j:=0) (by omega)) (yF hFp.z.g.2.2.2 (zl (by omega))) (N0:=N) (by omega) (fun d N=>Q d 7 N) fun d' N7 hN7 hd' _=>hQ _ _ (by omega) hd'
   ·rw [if_neg (show ¬(Tm.mk pk pn po pm pt pr pl).kd=10 from h10)] at hQ
    repeat' first | refine ⟨_,rfl,?_⟩ | refine Br.beq (fun h=>absurd h (by decide)) fun _=>?_
    all_goals exact fun N hN=>hQ _ _ (by omega) hd0
 ·rw [if_neg (by decide),if_neg (by decide),if_neg (by decide),if_neg (by decide),if_neg (by decide),if_pos rfl] at hQ
  repeat' first | refine ⟨_,rfl,?_⟩ | refine Br.beq (fun h=>absurd h (by decide)) fun _=>?_ | refine Br.beq (fun _=>?_) (fun h=>absurd rfl h)
  all_goals
   refine Br.beq (fun h2=>⟨⟨rfl,rfl⟩,fun a6 _ N17 hN17 hb=>?_⟩) fun h2=>⟨_,rfl,Br.beq (fun h3=>⟨⟨rfl,rfl⟩,fun a6 _ N17 hN17 hb=>?_⟩) fun h3 N23 hN23=>?_⟩
   ·rw [if_pos (show (Tm.mk pk pn po pm pt pr pl).kd=2\/(Tm.mk pk pn po pm pt pr pl).kd=3 from .inl h2)] at hQ
    exact lift N17 a6 0 (by omega) hb fun d N' h1 h2=>hQ _ _ (by omega) h2
   ·rw [if_pos (show (Tm.mk pk pn po pm pt pr pl).kd=2\/(Tm.mk pk pn po pm pt pr pl).kd=3 from .inr h3)] at hQ
    exact lift N17 a6 0 (by omega) hb fun d N' h1 h2=>hQ _ _ (by omega) h2
   ·rw [if_neg (show ¬((Tm.mk pk pn po pm pt pr pl).kd=2\/(Tm.mk pk pn po pm pt pr pl).kd=3) from fun h=>h.elim h2 h3)] at hQ
    exact hQ _ _ (by omega) hd0
theorem zB8:∀ f,zPu 178 f
 | 0=>fun e d _ hF=>absurd (Tm.dp_pos e) (by have:=hF.d;omega)
 | f+1=>fun e d hd hF N Q hQ=>by
   have ih:=zB8 f
   cases e with
   | mk k nm ot n0 ty re l=>
   have hd0:=hd
   obtain ⟨t0,t1,r0,r1,a,es,c,rfl,hh,hlen,hes⟩:=Tm.is_mk.1 hd
   have hl:=hes.len
   simp only [Tm.stp] at hQ
   refine zD0 N _ Q fun _ N1 hN1=>zQ hd0 hF.ok hF.dp N1 _ fun N2 hN2 _=>Br.of (fun hv N3 hN3=>?_) fun hv=>⟨_,rfl,?_⟩
   ·rw [if_pos hv] at hQ
    exact hQ _ _ (by omega) hd0
   rw [if_neg (by rw [hv];decide)] at hQ
   have other:k≠10->∀ m,zKW k l.length=m->∀ d N',N<=N'->(zOK f (Tm.mk k nm ot n0 ty re l) m).1.Is d->Q d (zOK f (Tm.mk k nm ot n0 ty re l) m).2 N':=fun hk m hm=>by
    rw [if_neg (show ¬(Tm.mk k nm ot n0 ty re l).kd=10 from hk),hm] at hQ
    exact hQ
   refine Br.beq (fun h4 N4 hN4=>?_) fun h4=>Br.beq (fun h7 N4 hN4=>?_) fun h7=>Br.beq (fun h10=>?_) fun h10=>Br.beq (fun h5 N4 hN4=>?_) fun h5=>Br.beq (fun h8 N4 hN4=>?_) fun h8=>Br.beq (fun h12 N4 hN4=>?_) fun h12=>Br.beq (fun h13 N4 hN4=>?_) fun h13 N4 hN4=>?_
   ·subst h4
    have hq:=other (by decide) l.length (by simp [zKW])
    simp only [zOK,List.take_length,Tm.apl,md] at hq
    exact zPE ih hd0 hF rfl N4 _ fun x N5 hN5 hx _ _ N6 hN6=>hq _ _ (by omega) hx
   ·subst h7
    have hq:=other (by decide) l.length (by simp [zKW])
    exact zNd ih hd0 hF N4 _ fun x N5 hN5 hx _ _ N6 hN6=>hq _ _ (by omega) hx
   ·rw [if_pos (by exact h10)] at hQ
    have hl1:=(uK hF.ok).1 (by omega)
    have hm0:=zl (l:=l) (i:=0) (by omega)
    refine ⟨_,_,_,rfl,⟨by omega,by omega⟩,fun N10 hN10=>?_⟩
    have hdm:=dp_mem (k:=k) (nm:=nm) (ot:=ot) (n:=n0) (ty:=ty) (re:=re) hm0
    have hdd:=hF.dp
    refine zLy ih _ _ (wV hes (j:=0) (by omega)) ((hF.mem _ hm0).up (by omega)) 1 (by unfold LvIn;omega) N10 _ fun dx N11 hN11 hx _ _ N12 hN12=>?_
    exact zC2 hd0 hF.z.g hx (i:=0) (by simp only [Tm.as];omega) N12 _ fun d' N13 hN13 hd' _ _ N14 hN14=>hQ _ _ (by omega) hd'
   ·have hq:=other h10 1 (by simp [zKW,h4,h7,h5])
    exact zBX ih (.inl h5) hd0 hF N4 _ fun x N5 hN5 hx _ _ N6 hN6=>hq _ _ (by omega) hx
   ·have hq:=other h10 1 (by simp [zKW,h4,h7,h8])
    exact zBX ih (.inr (.inl h8)) hd0 hF N4 _ fun x N5 hN5 hx _ _ N6 hN6=>hq _ _ (by omega) hx
   ·have hq:=other h10 1 (by simp [zKW,h4,h7,h12])
    exact zBX ih (.inr (.inr (.inl h12))) hd0 hF N4 _ fun x N5 hN5 hx _ _ N6 hN6=>hq _ _ (by omega) hx
   ·have hq:=other h10 1 (by simp [zKW,h4,h7,h13])
    exact zBX ih (.inr (.inr (.inr h13))) hd0 hF N4 _ fun x N5 hN5 hx _ _ N6 hN6=>hq _ _ (by omega) hx
   ·have hq:=other h10 0 (by simp [zKW,h4,h7,h5,h8,h12,h13])
    simp only [zOK,mg,goS,Tm.apl] at hq
    rw [if_neg h4,if_neg h5,if_neg h7,if_neg h8,if_neg h12,if_neg h13] at hq
    exact hq _ _ (by omega) hd0
end Go.Proofs.YtkdjhkfiolhkiaaGreat
