/- Steps: what they come to (no program in sight). -/
import Derived.Test.YtnpjpplbkoammaaGreatDoorXj
import Derived.Test.YtnpjpplbkoammaaGreatDoorKf
import Derived.Test.YtnpjpplbkoammaaGreatDoorKh
set_option linter.unusedVariables false
set_option linter.unusedSimpArgs false
namespace Go.Proofs.YtnpjpplbkoammaaGreatDoor
open Go Go.Proofs Go.Proofs.Tryz Go.IntWalk
def red (n:Int):Int:=n % 10007
def bI (b:Bool):Int:=if b then 1 else 0
def zj (s:ByteArray) (a b:Int):Int × Bool:=
 if inB a 0 10006=true then (if inB b 0 10006=true then
  (if s=bytes [43] then (red (a+b),true) else if s=bytes [45] then (red (a - b),true) else if s=bytes [42] then (red (a*b),true)
  else if s=bytes [61] then (bI (a==b),true) else if s=bytes [60] then (bI (decide (a<b)),true)
  else if s=bytes [38] then (bI (a==1&&b==1),true) else if s=bytes [124] then (bI (a==1||b==1),true)
  else if s=bytes [33] then (bI (a==0),true) else (0,false)) else (0,false)) else (0,false)
theorem zD1 (b:Bool):0≤bI b∧bI b≤1:=by cases b<;>decide
theorem zLf (n:Int):0≤red n∧red n≤10006:=by unfold red;omega
theorem zJz (s:ByteArray) (a b:Int):0≤(zj s a b).1∧(zj s a b).1≤10006:=by
 have h1:=zLf (a+b);have h2:=zLf (a - b);have h3:=zLf (a*b)
 have h4:=zD1 (a==b);have h5:=zD1 (decide (a<b));have h6:=zD1 (a==1&&b==1);have h7:=zD1 (a==1||b==1);have h8:=zD1 (a==0)
 unfold zj
 (repeat' split)<;>constructor<;>first | omega | (simp only;omega)
theorem zGS {s:ByteArray} (n1:¬s=bytes [43]) (n2:¬s=bytes [45]) (n3:¬s=bytes [42]) (a b:Int):0≤(zj s a b).1∧(zj s a b).1≤1:=by
 have h4:=zD1 (a==b);have h5:=zD1 (decide (a<b));have h6:=zD1 (a==1&&b==1);have h7:=zD1 (a==1||b==1);have h8:=zD1 (a==0)
 unfold zj
 rw [if_neg n1,if_neg n2,if_neg n3]
 (repeat' split)<;>constructor<;>first | omega | (simp only;omega)
def Tm.nod (k:Int) (l:List Tm):Tm:=.mk k (bytes []) (bytes []) 0 (.mk 0 []) (.mk 0 []) l
def zMl (k n:Int):Tm:=.mk k (bytes []) (bytes []) n (.mk 0 []) (.mk 0 []) []
def Tm.kd:Tm→Int | .mk k _ _ _ _ _ _=>k
def Tm.no:Tm→Int | .mk _ _ _ n _ _ _=>n
def Tm.nm:Tm→ByteArray | .mk _ nm _ _ _ _ _=>nm
def Tm.ot:Tm→ByteArray | .mk _ _ ot _ _ _ _=>ot
def Tm.pt:Tm→Nat→Tm | .mk _ _ _ _ _ _ l,i=>l.getD i tm0
def Tm.wth:Tm→Nat→Tm→Tm | .mk k nm ot n ty re l,i,x=>.mk k nm ot n ty re (l.set i x)
mutual
/-- no splice of level 1 -/
def Tm.made:Tm→Int→Bool
 | .mk k _ _ _ _ _ l,n=>!(k==11&&n==1)&&yr l (zS k n)
def yr:List Tm→Int→Bool
 | [],_=>true
 | t::ts,n=>t.made n&&yr ts n
end
def zIX (k:Int):Bool:=k==2||(k==3||(k==6||k==9))
/-- a result, of what is a term -/
def Tm.res (t:Tm):Bool:=zIX t.kd||(t.kd==10&&(t.lev 0&&(t.pt 0).made 1))
def wq (s:ByteArray):Bool:=decide (s=bytes [38])||(decide (s=bytes [124])||decide (s=bytes [33]))
def zHH (s:ByteArray):Bool:=decide (s=bytes [43])||(decide (s=bytes [45])||decide (s=bytes [42]))
def yA (nm:ByteArray):Int:=if wq nm then 3 else 2
def zDt (nm:ByteArray):Int:=if zHH nm then 2 else 3
/-- an operation of literals -/
def Tm.opr (e:Tm) (l:List Tm):Tm × Int:=
 if l.all (fun x=>x.kd==yA e.nm) then
  (zMl (zDt e.nm) (zj e.nm (l.getD 0 tm0).no (l.getD 1 tm0).no).1,1)
 else (e,0)
def Tm.sb (e:Tm) (x:ByteArray) (b:Tm):Tm:=e.sub e.dp x b
/-- the rule for a form whose parts that must be are results -/
def Tm.apl:Tm→Tm × Int
 | .mk k nm ot n ty re l=>
   if k=4 then (Tm.mk k nm ot n ty re l).opr l
   else if k=5 then (if (l.getD 0 tm0).kd=3 then (l.getD (2 - (l.getD 0 tm0).no).toNat tm0,2) else (.mk k nm ot n ty re l,0))
   else if k=7 then
    (if (l.getD 0 tm0).kd=6 then (((l.getD 0 tm0).pt 0).sb (l.getD 0 tm0).nm (l.getD 1 tm0),3)
    else if (l.getD 0 tm0).kd=9 then ((((l.getD 0 tm0).pt 0).sb (l.getD 0 tm0).nm (l.getD 0 tm0)).sb (l.getD 0 tm0).ot (l.getD 1 tm0),4)
    else (.mk k nm ot n ty re l,0))
   else if k=8 then ((l.getD 1 tm0).sb nm (l.getD 0 tm0),5)
   else if k=12 then (if (l.getD 0 tm0).kd=10 then ((l.getD 0 tm0).pt 0,7) else (.mk k nm ot n ty re l,0))
   else if k=13 then (if (l.getD 0 tm0).kd=2∨(l.getD 0 tm0).kd=3 then (Tm.nod 10 [l.getD 0 tm0],8) else (.mk k nm ot n ty re l,0))
   else (.mk k nm ot n ty re l,0)
/-- how many parts must be results -/
def wA (k:Int) (n:Nat):Nat:=if k=4∨k=7 then n else if k=5∨k=8∨k=12∨k=13 then 1 else 0
/-- the first part that is no result, stepped -/
def goS (S:Tm→Tm × Int) (e:Tm):List Tm→Nat→Option (Tm × Int)
 | [],_=>none
 | x::xs,i=>if x.res then goS S e xs (i+1) else some (e.wth i (S x).1,(S x).2)
/-- a splice of level 1 -/
def zPI (S:Tm→Tm × Int) (e:Tm):Tm × Int × Bool:=
 if (e.pt 0).res then (if (e.pt 0).kd=10 then ((e.pt 0).pt 0,6,true) else (e,0,true)) else (e.wth 0 (S (e.pt 0)).1,(S (e.pt 0)).2,true)
mutual
/-- the first splice of level 1 in a part at a level -/
def Tm.cod (S:Tm→Tm × Int):Tm→Int→Tm × Int × Bool
 | .mk k nm ot n ty re l,m=>if k=11∧m=1 then zPI S (.mk k nm ot n ty re l) else
   match zn S l (zS k m) with
   | none=>(.mk k nm ot n ty re l,0,false)
   | some (l',r)=>(.mk k nm ot n ty re l',r,true)
def zn (S:Tm→Tm × Int):List Tm→Int→Option (List Tm × Int)
 | [],_=>none
 | t::ts,m=>if (t.cod S m).2.2 then some ((t.cod S m).1::ts,(t.cod S m).2.1) else
   match zn S ts m with
   | none=>none
   | some (l',r)=>some (t::l',r)
end
def Tm.stp:Nat→Tm→Tm × Int
 | 0,e=>(e,0)
 | f+1,e=>if e.res then (e,0) else if e.kd=10 then (e.wth 0 ((e.pt 0).cod (Tm.stp f) 1).1,((e.pt 0).cod (Tm.stp f) 1).2.1)
   else match e with
    | .mk k nm ot n ty re l=>match goS (Tm.stp f) (.mk k nm ot n ty re l) (l.take (wA k l.length)) 0 with
      | some r=>r
      | none=>(Tm.mk k nm ot n ty re l).apl
theorem zJV (e:Tm) (i:Nat):e.wth i (e.pt i)=e:=by
 cases e with
 | mk k nm ot n ty re l=>
 simp only [Tm.wth,Tm.pt]
 congr 1
 apply List.ext_getElem?
 intro j
 rw [List.getElem?_set]
 split
 ·rename_i h
  subst h
  split
  ·rename_i h;rw [zU h]
  ·rename_i h;rw [List.getElem?_eq_none (by omega)]
 ·rfl
/-- no rule, no other term -/
def NoR (S:Tm→Tm × Int):Prop:=∀ x,(S x).2=0→(S x).1=x
theorem zQP {S:Tm→Tm × Int} (hS:NoR S):∀ (t:Tm) (m:Int),(t.cod S m).2.1=0→(t.cod S m).1=t:=by
 refine Tm.ind fun k nm ot n ty re l ih m h=>?_
 simp only [Tm.cod] at h ⊢
 by_cases hk:k=11∧m=1
 ·rw [if_pos hk] at h ⊢
  unfold zPI at h ⊢
  split
  ·rename_i h1
   rw [if_pos h1] at h
   split
   ·rename_i h2;rw [if_pos h2] at h;exact absurd (show (6:Int)=0 from h) (by decide)
   ·rfl
  ·rename_i h1
   rw [if_neg h1] at h
   simp only at h ⊢
   rw [hS _ h,zJV]
 ·rw [if_neg hk] at h ⊢
  have key:∀ xs:List Tm,(∀ x∈xs,x∈l)→∀ l' r,zn S xs (zS k m)=some (l',r)→r=0→l'=xs:=by
   intro xs
   induction xs with
   | nil=>intro _ l' r h;simp [zn] at h
   | cons x xs ihx=>
     intro hm l' r h hr
     simp only [zn] at h
     split at h
     ·cases h
      rw [ih x (hm x (by simp)) _ hr]
     ·split at h
      ·cases h
      ·rename_i l2 r2 h2
       cases h
       rw [ihx (fun y hy=>hm y (by simp [hy])) _ _ h2 hr]
  cases hc:zn S l (zS k m) with
  | none=>rfl
  | some p=>
    obtain ⟨l',r⟩:=p
    rw [hc] at h
    simp only at h ⊢
    rw [key l (fun x hx=>hx) l' r hc h]
theorem zOB {S:Tm→Tm × Int} (hS:NoR S) {e:Tm}:∀ {l:List Tm} {i:Nat} {r:Tm × Int},goS S e l i=some r→(∀ j x,l[j]?=some x→e.pt (i+j)=x)→r.2=0→r.1=e
 | [],_,_,h,_,_=>by simp [goS] at h
 | x::l,i,r,h,hp,hr=>by
   simp only [goS] at h
   split at h
   ·exact zOB hS h (fun j y hy=>by rw [show i+1+j=i+(j+1) by omega];exact hp (j+1) y (by simpa using hy)) hr
   ·cases h
    simp only at hr ⊢
    rw [hS x hr]
    have:=hp 0 x rfl
    rw [Nat.add_zero] at this
    rw [←this,zJV]
theorem zQI {c:Prop} [Decidable c] {x y:Tm × Int} {e:Tm} (hx:x.2=0→x.1=e) (hy:y.2=0→y.1=e) (h:(if c then x else y).2=0):(if c then x else y).1=e:=by
 by_cases hc:c
 ·rw [if_pos hc] at h ⊢;exact hx h
 ·rw [if_neg hc] at h ⊢;exact hy h
theorem zQo {t e:Tm} {r:Int} (hr:r≠0) (h:((t,r):Tm × Int).2=0):((t,r):Tm × Int).1=e:=absurd h hr
theorem zQQ (e:Tm) (h:e.apl.2=0):e.apl.1=e:=by
 cases e with
 | mk k nm ot n ty re l=>
 revert h
 simp only [Tm.apl,Tm.opr]
 repeat' first | exact fun h=>zQo (by decide) h | exact fun _=>rfl | refine zQI ?_ ?_
theorem zOG:∀ f,NoR (Tm.stp f)
 | 0,e,_=>rfl
 | f + 1,.mk k nm ot n ty re l,h=>by
   have ih:=zOG f
   simp only [Tm.stp] at h ⊢
   split
   ·rfl
   ·rename_i hr
    rw [if_neg hr] at h
    by_cases hk:(Tm.mk k nm ot n ty re l).kd=10
    ·rw [if_pos hk] at h ⊢
     simp only at h ⊢
     rw [zQP ih _ _ h,zJV]
    ·rw [if_neg hk] at h ⊢
     cases hg:goS (Tm.stp f) (Tm.mk k nm ot n ty re l) (l.take (wA k l.length)) 0 with
     | none=>
       rw [hg] at h
       exact zQQ _ h
     | some r=>
       rw [hg] at h
       refine zOB ih hg (fun j x hx=>?_) h
       rw [Nat.zero_add]
       rw [List.getElem?_take] at hx
       split at hx
       ·simp only [Tm.pt];rw [List.getD_eq_getElem?_getD,hx];rfl
       ·cases hx
/-- one step of a program -/
def Tm.step (e:Tm):Tm × Int:=if zCj e 0 then (if (e.stp e.dp).2=0 then (e,0) else e.stp e.dp) else (e,0)
theorem zOK {a b:Int} (ha:0≤a∧a≤10006) (hb:0≤b∧b≤10006):0≤a*b∧a*b≤100120036:=by
 refine ⟨Int.mul_nonneg ha.1 hb.1,?_⟩
 have h1:a*b≤10006*b:=Int.mul_le_mul_of_nonneg_right ha.2 hb.1
 omega
theorem zJA (n:Int):(if Int.tmod n 10007<0 then Int.tmod n 10007+10007 else Int.tmod n 10007)=red n:=by
 unfold red
 by_cases h:0≤n
 ·rw [Int.tmod_eq_emod_of_nonneg h,if_neg (by omega)]
 ·obtain ⟨m,rfl⟩:∃ m,n = -m:=⟨-n,by omega⟩
  rw [Int.neg_tmod,Int.tmod_eq_emod_of_nonneg (by omega)]
  split<;>omega
theorem zN3 (n:Int) : -10007<Int.tmod n 10007∧Int.tmod n 10007<10007:=by
 by_cases h:0≤n
 ·rw [Int.tmod_eq_emod_of_nonneg h];omega
 ·obtain ⟨m,rfl⟩:∃ m,n = -m:=⟨-n,by omega⟩
  rw [Int.neg_tmod,Int.tmod_eq_emod_of_nonneg (by omega)]
  omega
theorem zFz (n:Int):qN 137 [.int .i64 n] (red n):=fun N Q hQ=>by
 have hb:=zN3 n
 have hr:=zJA n
 refine zFp N n Q ⟨by omega,Br.dec (fun h N1 hN1=>?_) fun h N2 hN2=>?_⟩
 ·rw [i64_in _ (by omega)]
  rw [if_pos h] at hr
  exact Qi (hQ _ hN1) hr.symm
 ·rw [if_neg h] at hr
  exact Qi (hQ _ hN2) hr.symm
theorem zGA (n:Int):qN 179 [.int .i64 n] (red n):=fun N Q hQ=>by
 have hb:=zN3 n
 have hr:=zJA n
 refine zFx N n Q ⟨by omega,by omega,fun N1 hN1=>?_⟩
 rw [i64_in _ (by omega)]
 refine Qi (hQ _ hN1) ?_
 rw [←hr]
 generalize Int.tmod n 10007=m at *
 rw [Int.tmod_eq_emod_of_nonneg (by omega)]
 split<;>omega
/-- returns this number and this truth value -/
def zPi (f:FuncId) (args:List PV) (r:Int × Bool):Prop:=∀ (N:Nat) (Q:QT [.int .i64,.bool]),(∀ N',N≤N'→Q r.1 r.2 N')→ACalls prog f [.int .i64,.bool] args N Q
theorem Qp {Q:QT [.int .i64,.bool]} {a b:Int × Bool} {N:Nat} (h:Q a.1 a.2 N) (e:a=b):Q b.1 b.2 N:=e ▸ h
theorem zNP (b:Bool):qN 138 [.bool b] (bI b):=fun N Q hQ=>zHX N b Q (Br.of (fun h N1 hN1=>Qi (hQ _ hN1) (by rw [h];rfl)) fun h N1 hN1=>Qi (hQ _ hN1) (by rw [h];rfl))
theorem zPs (b:Bool):qN 180 [.bool b] (bI b):=fun N Q hQ=>zJ5 N b Q (Br.of (fun h N1 hN1=>Qi (hQ _ hN1) (by rw [h];rfl)) fun h N1 hN1=>Qi (hQ _ hN1) (by rw [h];rfl))
theorem zDS (s:ByteArray) (a b:Int):zPi 102 [.str s,.int .i64 a,.int .i64 b] (zj s a b):=fun N Q hQ=>by
 refine zDr N s a b Q fun N1 hN1=>xv _ _ _ N1 _ fun N2 hN2 _=>?_
 by_cases ha:inB a 0 10006=true
 rotate_left
 ·have ha:inB a 0 10006=false:=by simpa using ha
  rw [ha]
  simp only [Bool.not_false,zAJ]
  have e:zj s a b=(0,false):=by unfold zj;rw [if_neg (by rw [ha];decide)]
  exact fun N3 hN3=>Qp (b:=(0,false)) (hQ N3 (by omega)) e
 rw [ha]
 simp only [Bool.not_true,vL]
 intro N4 hN4
 refine xv _ _ _ N4 _ fun N5 hN5 _=>?_
 by_cases hb:inB b 0 10006=true
 rotate_left
 ·have hb:inB b 0 10006=false:=by simpa using hb
  rw [hb]
  simp only [Bool.not_false,zAJ]
  have e:zj s a b=(0,false):=by unfold zj;rw [if_pos ha,if_neg (by rw [hb];decide)]
  exact fun N3 hN3=>Qp (b:=(0,false)) (hQ N3 (by omega)) e
 rw [hb]
 simp only [Bool.not_true,vL]
 have hai:=xC.1 ha
 have hbi:=xC.1 hb
 have hm:=zOK hai hbi
 rw [i64_in (a+b) (by omega),i64_in (a - b) (by omega),i64_in (a*b) (by omega)]
 have fin:∀ (x:Int) (y:Bool) (N':Nat),N≤N'→zj s a b=(x,y)→Q x y N':=fun x y N' h e=>Qp (b:=(x,y)) (hQ N' h) e
 unfold zj at fin
 rw [if_pos ha,if_pos hb] at fin
 clear hQ
 repeat' first|with_reducible intro _|simp only[Y1,Y2,Y3,Y4]|(with_reducible first|refine X1 ?_ ?_|refine X2 ?_ ?_|refine X3 ?_ ?_|refine X4 ?_ ?_|refine X5 ?_ ?_|refine X6 ?_ ?_|refine X7 ?_ ?_|refine X8 ?_ ?_|refine X9 ?_ ?_)|refine⟨_,_,_,rfl,?_⟩|refine⟨_,rfl,?_⟩|((with_reducible refine And.intro ?_ ?_);·first|omega|trivial|(show _=_;rfl)|((with_reducible refine And.intro ?_ ?_)<;>first|omega|trivial|(show _=_;rfl)))|refine (zFz _) _ _ ?_|refine (zNP _) _ _ ?_|fail
 all_goals
  refine fin _ _ _ (by omega) ?_
  (repeat' split)<;>first | rfl | contradiction | (simp_all;done) | (congr 1;rw [show (a==1)=false by simpa using ‹¬a=1›];rfl)
theorem zDY (s:ByteArray) (a b:Int):zPi 146 [.str s,.int .i64 a,.int .i64 b] (zj s a b):=fun N Q hQ=>by
 refine zDn N s a b Q fun N1 hN1=>vX _ N1 _ fun N2 hN2 _=>?_
 by_cases ha:inB a 0 10006=true
 rotate_left
 ·have ha:inB a 0 10006=false:=by simpa using ha
  rw [ha]
  simp only [Bool.not_false,zAJ]
  have e:zj s a b=(0,false):=by unfold zj;rw [if_neg (by rw [ha];decide)]
  exact fun N3 hN3=>Qp (b:=(0,false)) (hQ N3 (by omega)) e
 rw [ha]
 simp only [Bool.not_true,vL]
 intro N4 hN4
 refine vX _ N4 _ fun N5 hN5 _=>?_
 by_cases hb:inB b 0 10006=true
 rotate_left
 ·have hb:inB b 0 10006=false:=by simpa using hb
  rw [hb]
  simp only [Bool.not_false,zAJ]
  have e:zj s a b=(0,false):=by unfold zj;rw [if_pos ha,if_neg (by rw [hb];decide)]
  exact fun N3 hN3=>Qp (b:=(0,false)) (hQ N3 (by omega)) e
 rw [hb]
 simp only [Bool.not_true,vL]
 have hai:=xC.1 ha
 have hbi:=xC.1 hb
 have hm:=zOK hai hbi
 rw [i64_in (a+b) (by omega),i64_in (a - b) (by omega),i64_in (a*b) (by omega)]
 have fin:∀ (x:Int) (y:Bool) (N':Nat),N≤N'→zj s a b=(x,y)→Q x y N':=fun x y N' h e=>Qp (b:=(x,y)) (hQ N' h) e
 unfold zj at fin
 rw [if_pos ha,if_pos hb] at fin
 clear hQ
 repeat' first|with_reducible intro _|simp only[Y1,Y2,Y3,Y4]|(with_reducible first|refine X1 ?_ ?_|refine X2 ?_ ?_|refine X3 ?_ ?_|refine X4 ?_ ?_|refine X5 ?_ ?_|refine X6 ?_ ?_|refine X7 ?_ ?_|refine X8 ?_ ?_|refine X9 ?_ ?_)|refine⟨_,_,_,rfl,?_⟩|refine⟨_,rfl,?_⟩|((with_reducible refine And.intro ?_ ?_);·first|omega|trivial|(show _=_;rfl)|((with_reducible refine And.intro ?_ ?_)<;>first|omega|trivial|(show _=_;rfl)))|refine (zGA _) _ _ ?_|refine (zPs _) _ _ ?_|fail
 all_goals
  refine fin _ _ _ (by omega) ?_
  (repeat' split)<;>first | rfl | contradiction | (simp_all;done) | (congr 1;rw [show (a==1)=false by simpa using ‹¬a=1›];rfl)
/-- a term, not too deep, not too great -/
structure Tm.F (e:Tm) (f:Nat):Prop where
 ok:e.ok=true
 d:e.dp≤f
 c:e.cnt≤1073741824
 w:e.vc≤1333333
theorem Tm.F.up {e:Tm} {f g:Nat} (h:e.F f) (hg:f≤g):e.F g:=⟨h.ok,Nat.le_trans h.d hg,h.c,h.w⟩
/-- how many parts a form has -/
theorem yv {k:Int} {nm ot:ByteArray} {n:Int} {ty re:Ty} {l:List Tm} (h:(Tm.mk k nm ot n ty re l).ok=true) :
  ((k=6∨k=9∨k=10∨k=11∨k=12∨k=13)→l.length=1)∧((k=7∨k=8)→l.length=2)∧(k=5→l.length=3)∧((k=1∨k=2∨k=3)→l.length=0)∧(k=4→(l.length:Int)=zHu nm):=by
 simp only [Tm.ok,Bool.and_eq_true,beq_iff_eq] at h
 obtain ⟨_,_,h⟩:=h
 unfold zGN at h
 refine ⟨?_,?_,?_,?_,?_⟩
 ·rintro (rfl | rfl | rfl | rfl | rfl | rfl)<;>(simp at h;omega)
 ·rintro (rfl | rfl)<;>(simp at h;omega)
 ·rintro rfl;simp at h;omega
 ·rintro (rfl | rfl | rfl)<;>simpa using h
 ·rintro rfl;simpa using h
theorem Tm.F.mem {k:Int} {nm ot:ByteArray} {n:Int} {ty re:Ty} {l:List Tm} {f:Nat} (h:(Tm.mk k nm ot n ty re l).F (f+1)):∀ y∈l,y.F f:=fun y hy=>by
 have h1:=h.ok
 have h2:=h.d
 have h3:=h.c
 have h6:=h.w
 have h7:=(yv h.ok).2.2.2.1
 simp only [Tm.ok,Bool.and_eq_true] at h1
 simp only [Tm.dp] at h2
 simp only [Tm.cnt] at h3
 have h4:=wh hy
 have h5:∀ {l:List Tm},u6 l=true→∀ x∈l,x.ok=true:=fun {l}=>by
  induction l with
  | nil=>intro _ x hx;simp at hx
  | cons t ts ih=>
    intro h x hx
    simp only [u6,Bool.and_eq_true] at h
    rcases List.mem_cons.1 hx with rfl | hx
    ·exact h.1
    ·exact ih h.2 x hx
 refine ⟨h5 h1.1 y hy,wH.1 (Nat.le_of_succ_le_succ h2) y hy,by omega,?_⟩
 have h8:=p4 hy
 simp only [Tm.vc] at h6
 split at h6
 ·rename_i hk
  rw [List.eq_nil_of_length_eq_zero (h7 (.inl hk))] at hy
  simp at hy
 ·omega
theorem zPW:∀ t:Tm,t.ok=true→t.V:=by
 refine Tm.ind fun k nm ot n ty re l ih h=>?_
 refine ⟨fun hk=>List.eq_nil_of_length_eq_zero ((yv h).2.2.2.1 (.inl hk)),uD.2 fun x hx=>ih x hx ?_⟩
 simp only [Tm.ok,Bool.and_eq_true] at h
 have h5:∀ {l:List Tm},u6 l=true→∀ x∈l,x.ok=true:=fun {l}=>by
  induction l with
  | nil=>intro _ x hx;simp at hx
  | cons t ts ih=>
    intro h x hx
    simp only [u6,Bool.and_eq_true] at h
    rcases List.mem_cons.1 hx with rfl | hx
    ·exact h.1
    ·exact ih h.2 x hx
 exact h5 h.1 x hx
theorem Tm.F.vc {e:Tm} {f:Nat} (h:e.F f):e.vc≤1333333:=h.w
theorem Tm.F.of {e:Tm} {f:Nat} (h1:e.ok=true) (h2:e.dp≤f) (h3:e.cnt≤4000000):e.F f:=⟨h1,h2,by omega,by have:=Tm.vc_cnt e;omega⟩
theorem Tm.F.z {e:Tm} {f:Nat} (h:e.F f):e.Z:=⟨Tm.G_cnt _ (by have:=h.c;omega),by have:=h.vc;omega,zPW _ h.ok⟩
theorem zG {l:List Tm} {i:Nat} (h:i<l.length):l.getD i tm0∈l:=List.mem_of_getElem? (zU h)
theorem zH6 {e:Tm} (he:e.ok=true) (hk:e.kd=3):e.no=0∨e.no=1:=by
 cases e with
 | mk k nm ot n ty re l=>
 simp only [Tm.kd] at hk
 subst hk
 simp only [Tm.ok,Bool.and_eq_true] at he
 have h2:=he.2.1
 simp only [zK,Bool.and_eq_true,inB] at h2
 simp at h2
 simp only [Tm.no]
 omega
/-- a term and a number -/
def zKG (f:FuncId) (args:List PV) (r:Tm × Int):Prop:=∀ (N:Nat) (Q:QT [.ag 9,.int .i64]),(∀ d N',N≤N'→r.1.Is d→Q d r.2 N')→ACalls prog f [.ag 9,.int .i64] args N Q
def zOY (f:FuncId) (args:List PV) (r:Tm × Int × Bool):Prop:=∀ (N:Nat) (Q:QT [.ag 9,.int .i64,.bool]),(∀ d N',N≤N'→r.1.Is d→Q d r.2.1 r.2.2 N')→ACalls prog f [.ag 9,.int .i64,.bool] args N Q
/-- copies -/
def zQR (F:FuncId):Prop:=∀ (t:Tm) (d:D),t.Is d→t.G→∀ (N:Nat) (Q:QT [.pk,.int .i64,.str,.str,.int .i64,.dc,.dc,.dc,.dc,.row 34 9]),ue t N Q→ACalls prog F [.pk,.int .i64,.str,.str,.int .i64,.dc,.dc,.dc,.dc,.row 34 9] [.dg 9 d] N Q
theorem zHj {F:FuncId} (hF:zQR F) {t:Tm} {d:D} (h:t.Is d) (hG:t.G) {N0 N:Nat} (h0:N0≤N) (Q':D→Nat→Prop) (hq:∀ d' N',N≤N'→t.Is d'→Own N0 N' d'→Q' d' N') :
  ACalls prog F [.pk,.int .i64,.str,.str,.int .i64,.dc,.dc,.dc,.dc,.row 34 9] [.dg 9 d] N (fun n s s_1 n_1 x x_1 x_2 x_3 es c N2=>N≤N2→Bel N2 (D.ag es)→(es.length=es.length∧c=c)∧(es.length=es.length∧c=c)∧∀ a N3,N2≤N3→Fresh N0 N3 a [D.ag es,x,x_1,x_2,x_3]→∀ N4,N3≤N4 →
   Q' (D.ag [D.lit (.int .i64 n),D.lit (.string s),D.lit (.string s_1),D.lit (.int .i64 n_1),x,x_1,x_2,x_3,D.sl a 9 es c]) N4):=by
 refine hF t d h hG N _ ?_
 cases t with
 | mk k2 nm2 ot2 n2 ty2 re2 l2=>
 simp only [ue]
 intro x4 x5 x6 x7 es' c' N2 hN2 hh' hes' ho' _ _
 have hl':=hes'.len
 have hgl:=hG.2.2.1
 exact ⟨⟨trivial,trivial⟩,⟨trivial,trivial⟩,fun a2 N3 hN3 hf N4 hN4=>hq _ _ (by omega) (Tm.is_mk.2 ⟨_,_,_,_,_,_,_,rfl,hh',by omega,hes'⟩) ((uS (ho'.mono h0 (Nat.le_refl _)) hf hN3).mono (Nat.le_refl _) hN4)⟩
theorem zO5 {F:FuncId} (hF:zQR F) {t y:Tm} {d dy:D} (h:t.Is d) (hG:t.G) (hy:y.Is dy) {i:Nat} (hi:i<t.as.length) {N0 N:Nat} (Q':D→Nat→Prop) (hq:∀ d' N',N≤N'→(t.wth i y).Is d'→Q' d' N') :
  ACalls prog F [.pk,.int .i64,.str,.str,.int .i64,.dc,.dc,.dc,.dc,.row 34 9] [.dg 9 d] N (fun n s s_1 n_1 x x_1 x_2 x_3 es c N2=>N≤N2→Bel N2 (D.ag es)→(0≤(i:Int)∧(i:Int)<(es.length:Int)∧(0+(i:Int).toNat:Nat)<es.length)∧(0+(i:Int).toNat:Nat)<es.length ∧
   (es.length=(List.set es (0+(i:Int).toNat:Nat) dy).length∧c=c)∧(es.length=(List.set es (0+(i:Int).toNat:Nat) dy).length∧c=c)∧(es.length=(List.set es (0+(i:Int).toNat:Nat) dy).length∧c=c)∧(es.length=(List.set es (0+(i:Int).toNat:Nat) dy).length∧c=c)∧(es.length=(List.set es (0+(i:Int).toNat:Nat) dy).length∧c=c) ∧
   ∀ a N3,N2≤N3→Fresh N0 N3 a [D.ag (List.set es (0+(i:Int).toNat:Nat) dy),x,x_1,x_2,x_3]→∀ N4,N3≤N4 →
   Q' (D.ag [D.lit (.int .i64 n),D.lit (.string s),D.lit (.string s_1),D.lit (.int .i64 n_1),x,x_1,x_2,x_3,D.sl a 9 (List.set es (0+(i:Int).toNat:Nat) dy) c]) N4):=by
 refine hF t d h hG N _ ?_
 cases t with
 | mk k2 nm2 ot2 n2 ty2 re2 l2=>
 simp only [ue]
 simp only [Tm.as] at hi
 intro x4 x5 x6 x7 es' c' N2 hN2 hh' hes' ho' _ _
 have hl':=hes'.len
 have hgl:=hG.2.2.1
 rw [Int.toNat_natCast,Nat.zero_add]
 have hs:(List.set es' i dy).length=es'.length:=List.length_set
 exact ⟨⟨by omega,by omega,by omega⟩,by omega,⟨hs.symm,trivial⟩,⟨hs.symm,trivial⟩,⟨hs.symm,trivial⟩,⟨hs.symm,trivial⟩,⟨hs.symm,trivial⟩,fun a2 N3 hN3 hf N4 hN4=>hq _ _ (by omega) (Tm.is_mk.2 ⟨_,_,_,_,_,_,_,rfl,hh',by omega,xO hes' hy⟩)⟩
theorem zFE {k n:Int}:(zMl k n).Is (.ag [.lit (.int .i64 k),.lit (.string (bytes [])),.lit (.string (bytes [])),.lit (.int .i64 n),.lit (.int .i64 0),.sl none 2 [] 0,.lit (.int .i64 0),.sl none 2 [] 0,.sl none 9 [] 0]):=
 Tm.is_mk.2 ⟨_,_,_,_,_,_,_,rfl,⟨by decide,by decide,Ty.is_mk.2 ⟨_,_,_,rfl,by simp,rfl⟩,Ty.is_mk.2 ⟨_,_,_,rfl,by simp,rfl⟩⟩,by simp,rfl⟩
/-- the level of a node's parts, at any level -/
theorem qx {k n m:Int} {c1 c2 c4 c5 c6 c7 c8:D} (h : -1152921504606846976≤m∧m≤1152921504606846976):qN 100 [.dg 9 (.ag [.lit (.int .i64 k),c1,c2,.lit (.int .i64 n),c4,c5,c6,c7,c8]),.int .i64 m] (zS k m):=fun N Q hQ=>by
 refine pV N _ m Q fun _=>?_
 rw [i64_in (m+1) (by omega),i64_in (m - 1) (by omega)]
 repeat' first|with_reducible intro _|simp only[Y1,Y2,Y3,Y4]|(with_reducible first|refine X1 ?_ ?_|refine X2 ?_ ?_|refine X3 ?_ ?_|refine X4 ?_ ?_|refine X5 ?_ ?_|refine X6 ?_ ?_|refine X7 ?_ ?_|refine X8 ?_ ?_|refine X9 ?_ ?_)|refine⟨_,_,_,rfl,?_⟩|refine⟨_,rfl,?_⟩|((with_reducible refine And.intro ?_ ?_);·first|omega|trivial|(show _=_;rfl)|((with_reducible refine And.intro ?_ ?_)<;>first|omega|trivial|(show _=_;rfl)))|fail
 all_goals (refine Qi (hQ _ (by omega)) ?_;simp [zS, *])
theorem uQ {k n m:Int} {c1 c2 c4 c5 c6 c7 c8:D} (h : -1152921504606846976≤m∧m≤1152921504606846976):qN 107 [.dg 9 (.ag [.lit (.int .i64 k),c1,c2,.lit (.int .i64 n),c4,c5,c6,c7,c8]),.int .i64 m] (zS k m):=fun N Q hQ=>by
 refine tW N _ m Q fun _=>?_
 rw [i64_in (m+1) (by omega),i64_in (m - 1) (by omega)]
 repeat' first|with_reducible intro _|simp only[Y1,Y2,Y3,Y4]|(with_reducible first|refine X1 ?_ ?_|refine X2 ?_ ?_|refine X3 ?_ ?_|refine X4 ?_ ?_|refine X5 ?_ ?_|refine X6 ?_ ?_|refine X7 ?_ ?_|refine X8 ?_ ?_|refine X9 ?_ ?_)|refine⟨_,_,_,rfl,?_⟩|refine⟨_,rfl,?_⟩|((with_reducible refine And.intro ?_ ?_);·first|omega|trivial|(show _=_;rfl)|((with_reducible refine And.intro ?_ ?_)<;>first|omega|trivial|(show _=_;rfl)))|fail
 all_goals (refine Qi (hQ _ (by omega)) ?_;simp [zS, *])
/-- a level that stays far from the ends, however deep -/
def LvIn (m:Int) (d:Nat):Prop := -1152921504606846976≤m - (d:Int)∧m+(d:Int)≤1152921504606846976
theorem LvIn.next {k m:Int} {d d':Nat} (h:LvIn m d) (hd:d'+1≤d):LvIn (zS k m) d':=by
 unfold LvIn zS at *
 split
 ·omega
 ·split<;>omega
theorem LvIn.b {m:Int} {d:Nat} (h:LvIn m d) : -1152921504606846976≤m∧m≤1152921504606846976:=by unfold LvIn at h;omega
theorem dp_mem {k:Int} {nm ot:ByteArray} {n:Int} {ty re:Ty} {l:List Tm} {y:Tm} (h:y∈l):y.dp+1≤(Tm.mk k nm ot n ty re l).dp:=by
 have:=wH.1 (Nat.le_refl (w5 l)) y h
 simp only [Tm.dp];omega
theorem zE0:∀ (t:Tm) (d:D),t.Is d→∀ m:Int,LvIn m t.dp→ub 85 [.dg 9 d,.int .i64 m] (t.made m):=by
 refine Tm.ind fun k nm ot n ty re l ih d hd m hm N Q hQ=>?_
 obtain ⟨t0,t1,r0,r1,a,es,c,rfl,hh,hlen,hes⟩:=Tm.is_mk.1 hd
 have hl:=hes.len
 have key:∀ (N':Nat),N≤N'→(∀ N'',N'≤N''→Q (yr l (zS k m)) N'')→yf Q N m 0 (.ag [.lit (.int .i64 k),.lit (.string nm),.lit (.string ot),.lit (.int .i64 n),t0,t1,r0,r1,.sl a 9 es c]) N':=by
  refine up hes hlen (fun i xs=>∀ (N':Nat),N≤N'→(∀ N'',N'≤N''→Q (yr xs (zS k m)) N'')→yf Q N m i (.ag [.lit (.int .i64 k),.lit (.string nm),.lit (.string ot),.lit (.int .i64 n),t0,t1,r0,r1,.sl a 9 es c]) N') ?_ ?_
  ·intro i hlt _ N' hN' hQ'
   refine sj _ _ _ _ _ _ ?_
   repeat' first|with_reducible intro _|simp only[hlt,Y1,Y2,Y3,Y4]|(with_reducible first|refine X1 ?_ ?_|refine X2 ?_ ?_|refine X3 ?_ ?_|refine X4 ?_ ?_|refine X5 ?_ ?_|refine X6 ?_ ?_|refine X7 ?_ ?_|refine X8 ?_ ?_|refine X9 ?_ ?_)|refine⟨_,_,_,rfl,?_⟩|refine⟨_,rfl,?_⟩|((with_reducible refine And.intro ?_ ?_);·first|omega|trivial|(show _=_;rfl)|((with_reducible refine And.intro ?_ ?_)<;>first|omega|trivial|(show _=_;rfl)))|fail
   exact Qb (hQ' _ (by omega)) (by simp [yr])
  ·intro i x xs hat _ ih2 N' hN' hQ'
   have hb2:=hat.b
   refine sj _ _ _ _ _ _ ?_
   repeat' first|with_reducible intro _|simp only[hat.lt,hat.w,Int.toNat_natCast,Y1,Y2,Y3,Y4]|(with_reducible first|refine X1 ?_ ?_|refine X2 ?_ ?_|refine X3 ?_ ?_|refine X4 ?_ ?_|refine X5 ?_ ?_|refine X6 ?_ ?_|refine X7 ?_ ?_|refine X8 ?_ ?_|refine X9 ?_ ?_)|refine⟨_,_,_,rfl,?_⟩|refine⟨_,rfl,?_⟩|((with_reducible refine And.intro ?_ ?_);·first|omega|trivial|(show _=_;rfl)|((with_reducible refine And.intro ?_ ?_)<;>first|omega|trivial|(show _=_;rfl)))|refine (qx hm.b) _ _ ?_|refine (ih x hat.m _ hat.r _ (hm.next (dp_mem hat.m))) _ _ ?_|fail
   ·refine Qb (hQ' _ (by omega)) ?_;simp [yr, *]
   ·exact ih2 _ (by omega) fun N'' h=>Qb (hQ' N'' (by omega)) (by simp [yr, *])
 refine zF1 N _ m Q fun _=>⟨_,rfl,Br.beq (fun h1=>Br.beq (fun h2 N1 hN1=>?_) fun h2=>?_) fun h1=>?_⟩
 ·exact Qb (hQ _ hN1) (by simp [Tm.made,h1,h2])
 ·exact key N (Nat.le_refl _) fun N'' h=>Qb (hQ _ h) (by simp [Tm.made,h1,h2])
 ·exact key N (Nat.le_refl _) fun N'' h=>Qb (hQ _ h) (by simp [Tm.made,h1])
theorem zw {e:Tm} {d:D} (he:e.Is d) (hok:e.ok=true) (hdp:e.dp≤1073741824):ub 53 [.dg 9 d] e.res:=fun N Q hQ=>by
 cases e with
 | mk k nm ot n0 ty re l=>
 obtain ⟨t0,t1,r0,r1,a,es,c,rfl,hh,hlen,hes⟩:=Tm.is_mk.1 he
 have hl:=hes.len
 refine zBP N _ Q fun _=>⟨_,rfl,?_⟩
 refine Br.beq (fun h2 N1 hN1=>Qb (hQ _ hN1) (by simp [Tm.res,zIX,Tm.kd,h2])) fun h2=>?_
 refine Br.beq (fun h3 N1 hN1=>Qb (hQ _ hN1) (by simp [Tm.res,zIX,Tm.kd,h3])) fun h3=>?_
 refine Br.beq (fun h6 N1 hN1=>Qb (hQ _ hN1) (by simp [Tm.res,zIX,Tm.kd,h6])) fun h6=>?_
 refine Br.beq (fun h9 N1 hN1=>Qb (hQ _ hN1) (by simp [Tm.res,zIX,Tm.kd,h9])) fun h9=>?_
 refine Br.beq (fun h10 N1 hN1=>?_) fun h10 N1 hN1=>Qb (hQ _ hN1) (by simp [Tm.res,zIX,Tm.kd,h2,h3,h6,h9,h10])
 subst h10
 have hl1:=(yv hok).1 (by omega)
 have hm:=zG (l:=l) (i:=0) (by omega)
 have hdm:=dp_mem (k:=10) (nm:=nm) (ot:=ot) (n:=n0) (ty:=ty) (re:=re) hm
 refine zCU _ _ he 0 N1 _ fun N2 hN2 _=>Br.of (fun hv=>⟨_,_,_,rfl,⟨by omega,by omega⟩,fun N3 hN3=>?_⟩) fun hv N3 hN3=>Qb (hQ _ (by omega)) (by simp [Tm.res,zIX,Tm.kd,hv])
 refine zE0 _ _ (zZ hes (j:=0) (by omega)) 1 (by unfold LvIn;omega) N3 _ fun N4 hN4 _ N5 hN5=>Qb (hQ _ (by omega)) ?_
 simp [Tm.res,zIX,Tm.kd,hv,Tm.pt]
theorem zRT:tm0.G:=by simp [tm0,Tm.G,zJ3,Ty.cnt,zJ]
/-- steps of parts -/
def zOI (F:FuncId) (f:Nat):Prop:=∀ (e:Tm) (d:D),e.Is d→e.F f→zKG F [.dg 9 d] (e.stp f)
theorem Tm.F.dp {e:Tm} {f:Nat} (h:e.F f):e.dp≤1073741824:=by
 have:=Tm.dp_cnt e
 have:=h.c
 omega
theorem zKx {k:Int} {nm ot:ByteArray} {n:Int} {ty re:Ty} {l:List Tm} {i:Nat}:(Tm.mk k nm ot n ty re l).pt i=l.getD i tm0:=rfl
theorem zBf {t y:Tm} {d dy:D} (h:t.Is d) (hG:t.G) (hy:y.Is dy) {i:Nat} (hi:i<t.as.length) (N:Nat) (Q:QT [.ag 9]) (hq:∀ d' N',N≤N'→(t.wth i y).Is d'→Q d' N') :
  ACalls prog 69 [.ag 9] [.dg 9 d,.int .i64 (i:Int),.dg 9 dy] N Q:=
 zD6 N _ _ _ Q fun _ _ N1 hN1=>zO5 w4 h hG hy hi (fun d N=>Q d N) fun d' N' h1 h2=>hq _ _ (by omega) h2
theorem zFs {f:Nat} (hS:zOI 36 f) {k n0:Int} {nm ot:ByteArray} {ty re:Ty} {l:List Tm} {d:D} (h:(Tm.mk k nm ot n0 ty re l).Is d) (hF:(Tm.mk k nm ot n0 ty re l).F (f+1)) {i:Nat} (hi:i<l.length) :
  zKG 101 [.dg 9 d,.int .i64 (i:Int)] ((Tm.mk k nm ot n0 ty re l).wth i (Tm.stp f (l.getD i tm0)).1,(Tm.stp f (l.getD i tm0)).2):=fun N Q hQ=>by
 obtain ⟨t0,t1,r0,r1,a,es,c,rfl,hh,hlen,hes⟩:=Tm.is_mk.1 h
 have hl:=hes.len
 refine zGl N _ _ Q fun _=>⟨_,_,_,rfl,⟨by omega,by omega⟩,fun N1 hN1=>?_⟩
 rw [Int.toNat_natCast]
 refine hS _ _ (zZ hes hi) (hF.mem _ (zG hi)) N1 _ fun dx N2 hN2 hx _ _=>Br.beq (fun h0 N3 hN3=>?_) fun h0 N4 hN4=>?_
 ·refine hQ _ _ (by omega) ?_
  have e1:=zOG f _ h0
  simp only
  rw [e1,←zKx (k:=k) (nm:=nm) (ot:=ot) (n:=n0) (ty:=ty) (re:=re),zJV]
  exact h
 ·exact zBf h hF.z.g hx hi N4 _ fun d' N5 hN5 hd' _ _ N6 hN6=>hQ _ _ (by omega) hd'
theorem zL0 {f:Nat} (hS:zOI 36 f):∀ (t:Tm) (d:D),t.Is d→t.F (f+1)→∀ m:Int,LvIn m t.dp→zOY 68 [.dg 9 d,.int .i64 m] (t.cod (Tm.stp f) m):=by
 refine Tm.ind fun k nm ot n0 ty re l ih d hd hF m hm N Q hQ=>?_
 have hd0:=hd
 obtain ⟨t0,t1,r0,r1,a,es,c,rfl,hh,hlen,hes⟩:=Tm.is_mk.1 hd
 have hl:=hes.len
 have loop:¬(k=11∧m=1)→yD Q N m 0 (.ag [.lit (.int .i64 k),.lit (.string nm),.lit (.string ot),.lit (.int .i64 n0),t0,t1,r0,r1,.sl a 9 es c]) 0 (bytes []) (bytes []) 0 0 none [] 0 0 none [] 0 none [] 0 N:=fun hne=>by
  simp only [Tm.cod] at hQ
  rw [if_neg hne] at hQ
  refine up hes hlen (fun i xs=>∀ N',N≤N'→(match zn (Tm.stp f) xs (zS k m) with | none=>zn (Tm.stp f) l (zS k m)=none | some (l',r)=>zn (Tm.stp f) l (zS k m)=some (l.take i++l',r)) →
   yD Q N m i (.ag [.lit (.int .i64 k),.lit (.string nm),.lit (.string ot),.lit (.int .i64 n0),t0,t1,r0,r1,.sl a 9 es c]) 0 (bytes []) (bytes []) 0 0 none [] 0 0 none [] 0 none [] 0 N') ?_ ?_ N (Nat.le_refl _) ?_
  ·intro i hlt hi N' hN' he
   simp only [zn] at he
   rw [he] at hQ
   refine uz _ _ _ _ _ _ _ _ _ _ _ _ _ _ _ _ _ _ _ _ _ ⟨_,_,_,rfl,?_⟩
   rw [hlt]
   exact fun N2 hN2=>hQ _ _ (by omega) hd0
  ·intro i x xs hat hxs ih2 N' hN' he
   have hb:=hat.b
   have hil:i<l.length:=(List.getElem?_eq_some_iff.1 hat.g).1
   refine uz _ _ _ _ _ _ _ _ _ _ _ _ _ _ _ _ _ _ _ _ _ ⟨_,_,_,rfl,?_⟩
   rw [hat.lt,Int.toNat_natCast,hat.w]
   refine ⟨_,_,_,rfl,⟨by omega,by omega⟩,fun N1 hN1=>qx hm.b N1 _ fun N2 hN2 _ N3 hN3=>?_⟩
   refine ih x hat.m _ hat.r ((hF.mem x hat.m).up (by omega)) _ (hm.next (dp_mem hat.m)) N3 _ fun dx N4 hN4 hx _ _=>Br.of (fun hv N5 hN5=>?_) fun hv=>?_
   ·simp only [zn] at he
    rw [if_pos hv] at he
    simp only at he
    rw [he] at hQ
    refine zBf hd0 hF.z.g hx hil N5 _ fun d' N6 hN6 hd' _ _ N7 hN7=>hQ _ _ (by omega) ?_
    have:l.take i++(x.cod (Tm.stp f) (zS k m)).1::xs=l.set i (x.cod (Tm.stp f) (zS k m)).1:=by
     rw [List.set_eq_take_append_cons_drop,if_pos hil,hxs]
    simp only
    rw [this]
    exact hd'
   ·refine ih2 _ (by omega) ?_
    simp only [zn] at he
    rw [if_neg (by rw [hv];decide)] at he
    cases hc:zn (Tm.stp f) xs (zS k m) with
    | none=>rw [hc] at he;exact he
    | some p=>
      obtain ⟨l',r⟩:=p
      rw [hc] at he
      simp only at he ⊢
      rw [he,yu hat.g,List.append_assoc];rfl
  ·cases hc:zn (Tm.stp f) l (zS k m) with
   | none=>rfl
   | some p=>obtain ⟨l',r⟩:=p;simp
 refine zDc N _ m Q fun _=>⟨_,rfl,Br.beq (fun h1=>Br.beq (fun h2=>?_) fun h2=>loop fun h=>h2 h.2) fun h1=>loop fun h=>h1 h.1⟩
 have hl1:=(yv hF.ok).1 (by omega)
 have hi0:0<l.length:=by omega
 have hm0:=zG hi0
 have hF0:=hF.mem _ hm0
 have hp0:=zZ hes hi0
 simp only [Tm.cod] at hQ
 rw [if_pos ⟨h1,h2⟩] at hQ
 unfold zPI at hQ
 rw [zKx] at hQ
 refine ⟨_,_,_,rfl,⟨by omega,by omega⟩,fun N1 hN1=>zw hp0 hF0.ok hF0.dp N1 _ fun N2 hN2 _=>Br.not (fun hr N3 hN3=>?_) fun hr=>?_⟩
 ·rw [if_neg (by rw [hr];decide)] at hQ
  exact zFs hS hd0 hF hi0 N3 _ fun dx N4 hN4 hx _ _ N5 hN5=>hQ _ _ (by omega) hx
 ·rw [if_pos hr] at hQ
  generalize l.getD 0 tm0=p at hp0 hF0 hr hQ hm0
  cases p with
  | mk pk pn po pm pt pr pl=>
  obtain ⟨u0,u1,v0,v1,a2,es2,c2,heq,hh2,hlen2,hes2⟩:=Tm.is_mk.1 hp0
  have hl2:=hes2.len
  rw [heq]
  refine ⟨_,rfl,Br.beq (fun h10=>?_) fun h10 N10 hN10=>?_⟩
  ·rw [if_pos (by exact h10)] at hQ
   have hl3:=(yv hF0.ok).1 (by omega)
   have hmm:=zG (l:=pl) (i:=0) (by omega)
   refine ⟨_,_,_,rfl,⟨by omega,by omega⟩,fun N6 hN6=>?_⟩
   refine zHj w4 (zZ hes2 (j:=0) (by omega)) (yU hF0.z.g.2.2.2 hmm) (N0:=N) (by omega) (fun d N=>Q d 6 true N) fun d' N7 hN7 hd' _=>hQ _ _ (by omega) hd'
  ·rw [if_neg (by exact h10)] at hQ
   exact hQ _ _ (by omega) hd0
def zDQ (l:List Tm) (i:Nat):List D:=[.lit (.int .i64 (if 0<i then (l.getD 0 tm0).no else 0)),.lit (.int .i64 (if 1<i then (l.getD 1 tm0).no else 0))]
theorem zI9 {l:List Tm} {i:Nat} (hi:i<2):(zDQ l i).set i (.lit (.int .i64 (l.getD i tm0).no))=zDQ l (i+1):=by
 match i,hi with
 | 0,_=>rfl
 | 1,_=>rfl
theorem zBU {l:List Tm} {i:Nat} (h:l.length≤i):l.getD i tm0=tm0:=by rw [List.getD_eq_getElem?_getD,List.getElem?_eq_none h];rfl
theorem zJM {l:List Tm} (h:l.length≤2):zDQ l l.length=[.lit (.int .i64 (l.getD 0 tm0).no),.lit (.int .i64 (l.getD 1 tm0).no)]:=by
 unfold zDQ
 by_cases h0:0<l.length
 ·by_cases h1:1<l.length
  ·rw [if_pos h0,if_pos h1]
  ·rw [if_pos h0,if_neg h1,zBU (i:=1) (by omega)];rfl
 ·rw [if_neg h0,if_neg (by omega),zBU (i:=0) (by omega),zBU (i:=1) (by omega)];rfl
theorem zLy (s:ByteArray):zHu s≤2:=by unfold zHu;(repeat' split)<;>decide
theorem zMq (n:Int) (N:Nat) (Q:QT [.ag 9]) (hQ:∀ d N',N≤N'→(zMl 2 n).Is d→Q d N'):ACalls prog 103 [.ag 9] [.int .i64 n] N Q:=zGh N n Q fun N1 hN1=>hQ _ _ hN1 zFE
theorem zK2 (n:Int) (N:Nat) (Q:QT [.ag 9]) (hQ:∀ d N',N≤N'→(zMl 3 n).Is d→Q d N'):ACalls prog 104 [.ag 9] [.int .i64 n] N Q:=zGE N n Q fun N1 hN1=>hQ _ _ hN1 zFE
theorem qj {S:Tm→Tm × Int} {e:Tm} {i:Nat} {x:Tm} {xs:List Tm} (h:x.res=true):goS S e (x::xs) i=goS S e xs (i+1):=by simp [goS,h]
theorem zOi {n0:Int} {nm ot:ByteArray} {ty re:Ty} {l:List Tm} (h:∀ x∈l,x.kd=yA nm):(Tm.mk 4 nm ot n0 ty re l).opr l=(zMl (zDt nm) (zj nm (l.getD 0 tm0).no (l.getD 1 tm0).no).1,1):=by
 unfold Tm.opr
 rw [if_pos (List.all_eq_true.2 fun x hx=>by rw [h x hx];exact beq_self_eq_true _)]
 rfl
theorem zOc {n0:Int} {nm ot:ByteArray} {ty re:Ty} {l:List Tm} {x:Tm} (hx:x∈l) (h:x.kd≠yA nm):(Tm.mk 4 nm ot n0 ty re l).opr l=(Tm.mk 4 nm ot n0 ty re l,0):=by
 unfold Tm.opr
 rw [if_neg fun hc=>h (by have:=List.all_eq_true.1 hc _ hx;simpa [Tm.nm] using this)]
/-- an operation -/
theorem zPE {f:Nat} (hS:zOI 36 f) {n0:Int} {nm ot:ByteArray} {ty re:Ty} {l:List Tm} {d:D} (hd:(Tm.mk 4 nm ot n0 ty re l).Is d) (hF:(Tm.mk 4 nm ot n0 ty re l).F (f+1)) {r:Tm × Int} (hr:(match goS (Tm.stp f) (Tm.mk 4 nm ot n0 ty re l) l 0 with | some r=>r | none=>(Tm.mk 4 nm ot n0 ty re l).opr l)=r) :
  zKG 66 [.dg 9 d] r:=fun N Q hQ=>by
 have hd0:=hd
 obtain ⟨t0,t1,r0,r1,a,es,c,rfl,hh,hlen,hes⟩:=Tm.is_mk.1 hd
 have hl:=hes.len
 have hl2:l.length≤2:=by
  have h1:=(yv hF.ok).2.2.2.2 rfl
  have h2:=zLy nm
  omega
 have second:(∀ x∈l,x.res=true)→∀ N',N≤N'→xK Q N (yA nm) 2 2 0 (.ag [.lit (.int .i64 4),.lit (.string nm),.lit (.string ot),.lit (.int .i64 n0),t0,t1,r0,r1,.sl a 9 es c]) 0 (bytes []) (bytes []) 0 0 none [] 0 0 none [] 0 none [] 0 [.lit (.int .i64 0),.lit (.int .i64 0)] 2 N':=fun hres N' hN'=>by
  have hg:goS (Tm.stp f) (Tm.mk 4 nm ot n0 ty re l) l 0=none:=by
   have:∀ (xs:List Tm) (i:Nat),(∀ x∈xs,x.res=true)→goS (Tm.stp f) (Tm.mk 4 nm ot n0 ty re l) xs i=none:=by
    intro xs
    induction xs with
    | nil=>intro i _;rfl
    | cons x xs ih=>intro i h;rw [qj (h x (by simp))];exact ih _ fun y hy=>h y (by simp [hy])
   exact this l 0 hres
  rw [hg] at hr
  simp only at hr
  subst hr
  refine up hes hlen (fun i xs=>∀ N',N≤N'→(∀ j x,j<i→l[j]?=some x→x.kd=yA nm)→xK Q N (yA nm) 2 2 i (.ag [.lit (.int .i64 4),.lit (.string nm),.lit (.string ot),.lit (.int .i64 n0),t0,t1,r0,r1,.sl a 9 es c]) 0 (bytes []) (bytes []) 0 0 none [] 0 0 none [] 0 none [] 0 (zDQ l i) 2 N') ?_ ?_ N' hN' (fun j x h=>absurd h (by omega))
  ·intro i hlt hi N' hN' hk
   rw [zOi fun x hx=>by
    obtain ⟨j,hj⟩:=List.mem_iff_getElem?.1 hx
    exact hk j x (by have:=(List.getElem?_eq_some_iff.1 hj).1;omega) hj] at hQ
   refine sy _ _ _ _ _ _ _ _ _ _ _ _ _ _ _ _ _ _ _ _ _ _ _ _ _ ⟨_,_,_,rfl,?_⟩
   rw [hlt]
   have hin:i=l.length:=by omega
   rw [hin,zJM hl2]
   refine ⟨_,rfl,⟨⟨by omega,by omega,by simp⟩,by simp,_,rfl,⟨by omega,by omega,by simp⟩,by simp,_,rfl,fun N2 hN2=>zDS _ _ _ N2 _ fun N3 hN3 _=>⟨_,rfl,?_⟩⟩⟩
   have fin2:zHH nm=true→∀ N4,N3≤N4→ACalls prog 103 [.ag 9] [.int .i64 (zj nm (l.getD 0 tm0).no (l.getD 1 tm0).no).1] N4 (fun x N5=>N4≤N5→Bel N5 x→∀ N6,N5≤N6→Q x 1 N6):=fun ho N4 hN4=>by
    rw [show zDt nm=2 by unfold zDt;rw [if_pos ho]] at hQ
    exact zMq _ N4 _ fun x N5 hN5 hx _ _ N6 hN6=>hQ _ _ (by omega) hx
   refine Br.str (fun e1=>fin2 (by simp [zHH,e1])) fun e1=>⟨_,rfl,Br.str (fun e2=>fin2 (by simp [zHH,e2])) fun e2=>⟨_,rfl,Br.str (fun e3=>fin2 (by simp [zHH,e3])) fun e3 N4 hN4=>?_⟩⟩
   rw [show zDt nm=3 by unfold zDt;rw [if_neg (by simp [zHH,e1,e2,e3])]] at hQ
   exact zK2 _ N4 _ fun x N5 hN5 hx _ _ N6 hN6=>hQ _ _ (by omega) hx
  ·intro i x xs hat hxs ih2 N' hN' hk
   have hb:=hat.b
   have hx:=hat.r
   refine sy _ _ _ _ _ _ _ _ _ _ _ _ _ _ _ _ _ _ _ _ _ _ _ _ _ ⟨_,_,_,rfl,?_⟩
   rw [hat.lt,Int.toNat_natCast,hat.w]
   have hgx:l.getD i tm0=x:=by rw [List.getD_eq_getElem?_getD,hat.g];rfl
   cases x with
   | mk pk pn po pm pt pr pl=>
   obtain ⟨u0,u1,v0,v1,a2,es2,c2,heq,hh2,hlen2,hes2⟩:=Tm.is_mk.1 hx
   refine ⟨_,_,_,rfl,⟨by omega,by omega⟩,pk,by rw [heq];rfl,Br.bne (fun hne N1 hN1=>?_) fun he=>⟨_,_,_,rfl,⟨by omega,by omega⟩,pm,by rw [heq];rfl,⟨by omega,by omega,by simp only [zDQ,List.length_cons,List.length_nil];omega⟩,by simp only [zDQ,List.length_cons,List.length_nil];omega,?_⟩⟩
   ·rw [zOc hat.m hne] at hQ
    exact hQ _ _ (by omega) hd0
   ·rw [Nat.zero_add]
    have hns:=zI9 (l:=l) (i:=i) (by omega)
    rw [hgx] at hns
    simp only [Tm.no] at hns
    rw [hns]
    refine ih2 _ hN' fun j y hj hy=>?_
    by_cases hji:j<i
    ·exact hk j y hji hy
    ·have:j=i:=by omega
     subst this
     rw [hat.g] at hy
     rw [←Option.some.inj hy];exact he
 have first:yB Q N (yA nm) 2 2 0 (.ag [.lit (.int .i64 4),.lit (.string nm),.lit (.string ot),.lit (.int .i64 n0),t0,t1,r0,r1,.sl a 9 es c]) 0 (bytes []) (bytes []) 0 0 none [] 0 0 none [] 0 none [] 0 [.lit (.int .i64 0),.lit (.int .i64 0)] 2 N:=by
  refine up hes hlen (fun i xs=>∀ N',N≤N'→(∀ j x,j<i→l[j]?=some x→x.res=true)→(match goS (Tm.stp f) (Tm.mk 4 nm ot n0 ty re l) xs i with | some r=>r | none=>(Tm.mk 4 nm ot n0 ty re l).opr l)=r→yB Q N (yA nm) 2 2 i (.ag [.lit (.int .i64 4),.lit (.string nm),.lit (.string ot),.lit (.int .i64 n0),t0,t1,r0,r1,.sl a 9 es c]) 0 (bytes []) (bytes []) 0 0 none [] 0 0 none [] 0 none [] 0 [.lit (.int .i64 0),.lit (.int .i64 0)] 2 N') ?_ ?_ N (Nat.le_refl _) (fun j x h=>absurd h (by omega)) hr
  ·intro i hlt hi N' hN' hk _
   refine rz _ _ _ _ _ _ _ _ _ _ _ _ _ _ _ _ _ _ _ _ _ _ _ _ _ ⟨_,_,_,rfl,?_⟩
   rw [hlt]
   refine second (fun x hx=>?_) N' hN'
   obtain ⟨j,hj⟩:=List.mem_iff_getElem?.1 hx
   exact hk j x (by have:=(List.getElem?_eq_some_iff.1 hj).1;omega) hj
  ·intro i x xs hat hxs ih2 N' hN' hk he
   have hb:=hat.b
   have hil:i<l.length:=(List.getElem?_eq_some_iff.1 hat.g).1
   obtain rfl:l.getD i tm0=x:=by rw [List.getD_eq_getElem?_getD,hat.g];rfl
   have hFx:=hF.mem _ hat.m
   refine rz _ _ _ _ _ _ _ _ _ _ _ _ _ _ _ _ _ _ _ _ _ _ _ _ _ ⟨_,_,_,rfl,?_⟩
   rw [hat.lt,Int.toNat_natCast,hat.w]
   refine ⟨_,_,_,rfl,⟨by omega,by omega⟩,fun N1 hN1=>zw hat.r hFx.ok hFx.dp N1 _ fun N2 hN2 _=>Br.not (fun hv N3 hN3=>?_) fun hv=>?_⟩
   ·simp only [goS] at he
    rw [if_neg (by rw [hv];decide)] at he
    simp only at he
    subst he
    exact zFs hS hd0 hF hil N3 _ fun dx N4 hN4 hx _ _ N5 hN5=>hQ _ _ (by omega) hx
   ·rw [qj hv] at he
    refine ih2 _ (by omega) (fun j y hj hy=>?_) he
    by_cases hji:j<i
    ·exact hk j y hji hy
    ·have:j=i:=by omega
     subst this
     rw [hat.g] at hy
     rw [←Option.some.inj hy];exact hv
 refine zHp N _ Q fun _=>⟨_,rfl,Br.str (fun e1=>?_) fun e1=>⟨_,rfl,Br.str (fun e2=>?_) fun e2=>⟨_,rfl,Br.str (fun e3=>?_) fun e3=>?_⟩⟩⟩
 ·have:yA nm=3:=by simp [yA,wq,e1]
  rw [this] at first;exact first
 ·have:yA nm=3:=by simp [yA,wq,e2]
  rw [this] at first;exact first
 ·have:yA nm=3:=by simp [yA,wq,e3]
  rw [this] at first;exact first
 ·have:yA nm=2:=by simp [yA,wq,e1,e2,e3]
  rw [this] at first;exact first
/-- what a substitution makes is not too great for another -/
theorem zRQ {e b:Tm} {x:ByteArray} {f g:Nat} (he:e.F f) (hb:b.F g):(e.sb x b).Z:=by
 have h1:=zOL e.dp e x b
 have h2:=he.vc
 have h3:=hb.vc
 have h4:e.vc*(b.vc+1)≤1333333*1333334:=Nat.mul_le_mul h2 (by omega)
 exact ⟨zPL _ _ _ _ he.z.g hb.z.g,by unfold Tm.sb;omega,zPG _ _ _ _ he.z.v hb.z.v⟩
theorem zBV {e b:Tm} {d db:D} (he:e.Is d) (hb:b.Is db) (x:ByteArray) (h1:e.Z) (h2:b.Z):zPA 105 [.dg 9 d,.str x,.dg 9 db] (e.sb x b):=zEa e.dp e d x b db he hb (Nat.le_refl _) h1 h2
/-- the step of a form whose parts are searched -/
def zOP (f:Nat):Tm→Nat→Tm × Int
 | .mk k nm ot n ty re l,m=>match goS (Tm.stp f) (.mk k nm ot n ty re l) (l.take m) 0 with
   | some r=>r
   | none=>(Tm.mk k nm ot n ty re l).apl
theorem zMv {f:Nat} (hS:zOI 36 f) {n0:Int} {nm ot:ByteArray} {ty re:Ty} {l:List Tm} {d:D} (hd:(Tm.mk 7 nm ot n0 ty re l).Is d) (hF:(Tm.mk 7 nm ot n0 ty re l).F (f+1)) :
  zKG 67 [.dg 9 d] (zOP f (Tm.mk 7 nm ot n0 ty re l) l.length):=fun N Q hQ=>by
 have hd0:=hd
 obtain ⟨t0,t1,r0,r1,a,es,c,rfl,hh,hlen,hes⟩:=Tm.is_mk.1 hd
 have hl:=hes.len
 have hl2:=(yv hF.ok).2.1 (.inl rfl)
 simp only [zOP,List.take_length] at hQ
 have e2:(es.length:Int)=2:=by omega
 refine zFf N _ Q fun _=>⟨_,_,_,rfl,⟨by omega,by omega⟩,?_⟩
 refine up hes hlen (fun i xs=>∀ N',N≤N'→(∀ r:Tm × Int,(match goS (Tm.stp f) (Tm.mk 7 nm ot n0 ty re l) xs i with | some r=>r | none=>(Tm.mk 7 nm ot n0 ty re l).apl)=r→∀ d N'',N≤N''→r.1.Is d→Q d r.2 N'') →
  wP Q N i (.ag [.lit (.int .i64 7),.lit (.string nm),.lit (.string ot),.lit (.int .i64 n0),t0,t1,r0,r1,.sl a 9 es c]) 0 (bytes []) (bytes []) 0 0 none [] 0 0 none [] 0 none [] 0 (List.getD es 0 default) N') ?_ ?_ N (Nat.le_refl _) (fun r hr d N'' h1 h2=>by rw [←hr];rw [←hr] at h2;exact hQ d N'' h1 h2)
 ·intro i hlt hi N' hN' hr
  have hr:=hr _ rfl
  simp only [goS,Tm.apl] at hr
  rw [if_neg (by decide),if_neg (by decide),if_pos trivial] at hr
  refine sZ _ _ _ _ _ _ _ _ _ _ _ _ _ _ _ _ _ _ _ _ _ ?_
  rw [←e2,hlt]
  have hp0:=zZ hes (j:=0) (by omega)
  have hq0:=zZ hes (j:=1) (by omega)
  have hFp:=hF.mem _ (zG (l:=l) (i:=0) (by omega))
  have hFq:=hF.mem _ (zG (l:=l) (i:=1) (by omega))
  generalize l.getD 0 tm0=p at hp0 hFp hr
  generalize l.getD 1 tm0=q at hq0 hFq hr
  have hp1:=hp0
  cases p with
  | mk pk pn po pm pt pr pl=>
  obtain ⟨u0,u1,v0,v1,a2,es2,c2,heq,hh2,hlen2,hes2⟩:=Tm.is_mk.1 hp0
  have hl3:=hes2.len
  rw [heq] at hp1 ⊢
  have one:(pk=6∨pk=9)→pl.length=1:=fun h=>(yv hFp.ok).1 (by omega)
  have hF1:pl.length=1→(pl.getD 0 tm0).F f:=fun h=>((hFp.up (g:=f+1) (by omega)).mem _ (zG (l:=pl) (i:=0) (by omega)))
  refine ⟨_,rfl,Br.beq (fun h6=>?_) fun h6=>Br.beq (fun h9=>?_) fun h9 N14 hN14=>?_⟩
  ·have h1:=one (.inl h6)
   rw [if_pos (show (Tm.mk pk pn po pm pt pr pl).kd=6 from h6)] at hr
   refine ⟨_,_,_,rfl,⟨by omega,by omega⟩,_,rfl,_,_,_,rfl,⟨by omega,by omega⟩,fun N6 hN6=>?_⟩
   exact zBV (zZ hes2 (j:=0) (by omega)) hq0 pn (hF1 h1).z hFq.z N6 _ fun dx N7 hN7 hx _ _ _ N8 hN8=>hr _ _ (by omega) hx
  ·have h1:=one (.inr h9)
   rw [if_neg (show ¬(Tm.mk pk pn po pm pt pr pl).kd=6 from h6),if_pos (show (Tm.mk pk pn po pm pt pr pl).kd=9 from h9)] at hr
   refine ⟨_,_,_,rfl,⟨by omega,by omega⟩,_,rfl,_,rfl,_,_,_,rfl,⟨by omega,by omega⟩,fun N9 hN9=>?_⟩
   refine zBV (zZ hes2 (j:=0) (by omega)) hp1 pn (hF1 h1).z hFp.z N9 _ fun dx N10 hN10 hx _ _ _ N11 hN11=>?_
   exact zBV hx hq0 po (zRQ (hF1 h1) hFp) hFq.z N11 _ fun dy N12 hN12 hy _ _ _ N13 hN13=>hr _ _ (by omega) hy
  ·rw [if_neg (show ¬(Tm.mk pk pn po pm pt pr pl).kd=6 from h6),if_neg (show ¬(Tm.mk pk pn po pm pt pr pl).kd=9 from h9)] at hr
   exact hr _ _ (by omega) hd0
 ·intro i x xs hat hxs ih2 N' hN' hr
  have hb:=hat.b
  have hil:i<l.length:=(List.getElem?_eq_some_iff.1 hat.g).1
  obtain rfl:l.getD i tm0=x:=by rw [List.getD_eq_getElem?_getD,hat.g];rfl
  have hFx:=hF.mem _ hat.m
  have hlt:=hat.lt
  rw [e2] at hlt
  refine sZ _ _ _ _ _ _ _ _ _ _ _ _ _ _ _ _ _ _ _ _ _ ?_
  rw [hlt,Int.toNat_natCast,hat.w]
  refine ⟨_,_,_,rfl,⟨by omega,by omega⟩,fun N1 hN1=>zw hat.r hFx.ok hFx.dp N1 _ fun N2 hN2 _=>Br.not (fun hv N3 hN3=>?_) fun hv=>?_⟩
  ·have hr:=hr _ rfl
   simp only [goS] at hr
   rw [if_neg (by rw [hv];decide)] at hr
   exact zFs hS hd0 hF hil N3 _ fun dx N4 hN4 hx _ _ N5 hN5=>hr _ _ (by omega) hx
  ·rw [qj hv] at hr
   exact ih2 _ (by omega) hr
theorem zMw {l:List Tm} (h:0<l.length):l.take 1=[l.getD 0 tm0]:=by
 cases l with
 | nil=>simp at h
 | cons x xs=>rfl
theorem zLx (k:Int) {p:Tm} {d:D} (h:p.Is d) (hc:p.cnt≤1073741824) (a:Option Addr) (N:Nat) (Q:QT [.ag 9]) (hQ:∀ d' N',N≤N'→(Tm.nod k [p]).Is d'→Own N N' d'→Q d' N') :
 ACalls prog 86 [.ag 9] [.int .i64 k,.sv a 9 [d] 1] N Q:=zNl k (l:=[p]) (es:=[d]) ⟨d,[],rfl,h,rfl⟩ (by simp) (by simpa using hc) a 1 N Q hQ
/-- a form whose first part is searched -/
theorem zBX {f:Nat} (hS:zOI 36 f) {k n0:Int} {nm ot:ByteArray} {ty re:Ty} {l:List Tm} {d:D} (hk:k=5∨k=8∨k=12∨k=13) (hd:(Tm.mk k nm ot n0 ty re l).Is d) (hF:(Tm.mk k nm ot n0 ty re l).F (f+1)) :
  zKG 70 [.dg 9 d] (zOP f (Tm.mk k nm ot n0 ty re l) 1):=fun N Q hQ=>by
 have hd0:=hd
 obtain ⟨t0,t1,r0,r1,a,es,c,rfl,hh,hlen,hes⟩:=Tm.is_mk.1 hd
 have hl:=hes.len
 have hl1:0<l.length:=by
  obtain ⟨a1,a2,a3,_⟩:=yv hF.ok
  rcases hk with h | h | h | h
  ·have:=a3 h;omega
  ·have:=a2 (.inr h);omega
  ·have:=a1 (by omega);omega
  ·have:=a1 (by omega);omega
 have hp0:=zZ hes hl1
 have hFp:=hF.mem _ (zG hl1)
 simp only [zOP] at hQ
 rw [zMw hl1] at hQ
 simp only [goS] at hQ
 refine zFm N _ Q fun _=>⟨_,_,_,rfl,⟨by omega,by omega⟩,fun N1 hN1=>zw hp0 hFp.ok hFp.dp N1 _ fun N2 hN2 _=>Br.not (fun hv N3 hN3=>?_) fun hv=>?_⟩
 ·rw [if_neg (by rw [hv];decide)] at hQ
  exact zFs hS hd0 hF hl1 N3 _ fun dx N4 hN4 hx _ _ N5 hN5=>hQ _ _ (by omega) hx
 rw [if_pos hv] at hQ
 simp only [Tm.apl] at hQ
 generalize hpp:l.getD 0 tm0=p at hp0 hFp hv hQ
 have hp1:=hp0
 have hno:=fun h=>zH6 hFp.ok h
 cases p with
 | mk pk pn po pm pt pr pl=>
 obtain ⟨u0,u1,v0,v1,a2,es2,c2,heq,hh2,hlen2,hes2⟩:=Tm.is_mk.1 hp0
 have hl3:=hes2.len
 simp only [Tm.kd,Tm.no] at hno
 rw [heq] at hp1 ⊢
 have lift:∀ (N:Nat) (a:Option Addr) (N':Nat) (hN:N2≤N) (_:w8 N [a]),(∀ d N',N2≤N'→(Tm.nod 10 [Tm.mk pk pn po pm pt pr pl]).Is d→Q d 8 N') →
   ACalls prog 86 [.ag 9] [.int .i64 10,.sv a 9 [.ag [.lit (.int .i64 pk),.lit (.string pn),.lit (.string po),.lit (.int .i64 pm),u0,u1,v0,v1,.sl a2 9 es2 c2]] 1] N (fun x N7=>N≤N7→Off [a] x∧(Bel N7 x→∀ N8,N7≤N8→Q x 8 N8)):=fun N3 a N' hN hb hq=>
  zLx 10 hp1 (by have:=hFp.c;omega) a N3 _ fun dx N4 hN4 hx ho _=>⟨zAS hb ho,fun _ N5 hN5=>hq _ _ (by omega) hx⟩
 rcases hk with rfl | rfl | rfl | rfl
 ·have hl5:=(yv hF.ok).2.2.1 rfl
  rw [if_neg (by decide),if_pos rfl] at hQ
  refine ⟨_,rfl,Br.beq (fun _=>⟨_,rfl,Br.beq (fun h3=>?_) fun h3=>?_⟩) (fun h=>absurd rfl h)⟩
  ·have hn:=hno h3
   rw [if_pos (show (Tm.mk pk pn po pm pt pr pl).kd=3 from h3)] at hQ
   have hw:IntKind.i64.wrap (2 - pm)=2 - pm:=i64_in _ (by omega)
   refine ⟨_,_,_,rfl,_,rfl,?_⟩
   rw [hw]
   refine ⟨⟨by omega,by omega⟩,fun N6 hN6=>?_⟩
   refine zHj w4 (zZ hes (j:=(2 - pm).toNat) (by omega)) (yU hF.z.g.2.2.2 (zG (by omega))) (N0:=N) (by omega) (fun d N=>Q d 2 N) fun d' N7 hN7 hd' _=>hQ _ _ (by omega) hd'
  ·rw [if_neg (show ¬(Tm.mk pk pn po pm pt pr pl).kd=3 from h3)] at hQ
   repeat' first | refine ⟨_,rfl,?_⟩ | refine Br.beq (fun h=>absurd h (by decide)) fun _=>?_
   all_goals exact fun N hN=>hQ _ _ (by omega) hd0
 ·have hl8:=(yv hF.ok).2.1 (.inr rfl)
  rw [if_neg (by decide),if_neg (by decide),if_neg (by decide),if_pos rfl] at hQ
  have hFq:=hF.mem _ (zG (l:=l) (i:=1) (by omega))
  have hq0:=zZ hes (j:=1) (by omega)
  repeat' first | refine ⟨_,rfl,?_⟩ | refine Br.beq (fun h=>absurd h (by decide)) fun _=>?_ | refine Br.beq (fun _=>?_) (fun h=>absurd rfl h)
  all_goals
   refine ⟨_,_,_,rfl,⟨by omega,by omega⟩,_,rfl,fun N6 hN6=>?_⟩
   exact zBV hq0 hp1 nm hFq.z hFp.z N6 _ fun dx N7 hN7 hx _ _ _ N8 hN8=>hQ _ _ (by omega) hx
 ·rw [if_neg (by decide),if_neg (by decide),if_neg (by decide),if_neg (by decide),if_pos rfl] at hQ
  repeat' first | refine ⟨_,rfl,?_⟩ | refine Br.beq (fun h=>absurd h (by decide)) fun _=>?_ | refine Br.beq (fun _=>?_) (fun h=>absurd rfl h)
  all_goals
   refine Br.beq (fun h10=>?_) fun h10=>?_
   ·rw [if_pos (show (Tm.mk pk pn po pm pt pr pl).kd=10 from h10)] at hQ
    have h1:=(yv hFp.ok).1 (by omega)
    refine ⟨_,_,_,rfl,⟨by omega,by omega⟩,fun N6 hN6=>?_⟩
    refine zHj w4 (zZ hes2 (j:=0) (by omega)) (yU hFp.z.g.2.2.2 (zG (by omega))) (N0:=N) (by omega) (fun d N=>Q d 7 N) fun d' N7 hN7 hd' _=>hQ _ _ (by omega) hd'
   ·rw [if_neg (show ¬(Tm.mk pk pn po pm pt pr pl).kd=10 from h10)] at hQ
    repeat' first | refine ⟨_,rfl,?_⟩ | refine Br.beq (fun h=>absurd h (by decide)) fun _=>?_
    all_goals exact fun N hN=>hQ _ _ (by omega) hd0
 ·rw [if_neg (by decide),if_neg (by decide),if_neg (by decide),if_neg (by decide),if_neg (by decide),if_pos rfl] at hQ
  repeat' first | refine ⟨_,rfl,?_⟩ | refine Br.beq (fun h=>absurd h (by decide)) fun _=>?_ | refine Br.beq (fun _=>?_) (fun h=>absurd rfl h)
  all_goals
   refine Br.beq (fun h2=>⟨⟨rfl,rfl⟩,fun a6 _ N17 hN17 hb=>?_⟩) fun h2=>⟨_,rfl,Br.beq (fun h3=>⟨⟨rfl,rfl⟩,fun a6 _ N17 hN17 hb=>?_⟩) fun h3 N23 hN23=>?_⟩
   ·rw [if_pos (show (Tm.mk pk pn po pm pt pr pl).kd=2∨(Tm.mk pk pn po pm pt pr pl).kd=3 from .inl h2)] at hQ
    exact lift N17 a6 0 (by omega) hb fun d N' h1 h2=>hQ _ _ (by omega) h2
   ·rw [if_pos (show (Tm.mk pk pn po pm pt pr pl).kd=2∨(Tm.mk pk pn po pm pt pr pl).kd=3 from .inr h3)] at hQ
    exact lift N17 a6 0 (by omega) hb fun d N' h1 h2=>hQ _ _ (by omega) h2
   ·rw [if_neg (show ¬((Tm.mk pk pn po pm pt pr pl).kd=2∨(Tm.mk pk pn po pm pt pr pl).kd=3) from fun h=>h.elim h2 h3)] at hQ
    exact hQ _ _ (by omega) hd0
theorem zGr:∀ f,zOI 36 f
 | 0=>fun e d _ hF=>absurd (Tm.dp_pos e) (by have:=hF.d;omega)
 | f+1=>fun e d hd hF N Q hQ=>by
   have ih:=zGr f
   cases e with
   | mk k nm ot n0 ty re l=>
   have hd0:=hd
   obtain ⟨t0,t1,r0,r1,a,es,c,rfl,hh,hlen,hes⟩:=Tm.is_mk.1 hd
   have hl:=hes.len
   simp only [Tm.stp] at hQ
   refine zDZ N _ Q fun _ N1 hN1=>zw hd0 hF.ok hF.dp N1 _ fun N2 hN2 _=>Br.of (fun hv N3 hN3=>?_) fun hv=>⟨_,rfl,?_⟩
   ·rw [if_pos hv] at hQ
    exact hQ _ _ (by omega) hd0
   rw [if_neg (by rw [hv];decide)] at hQ
   have other:k≠10→∀ m,wA k l.length=m→∀ d N',N≤N'→(zOP f (Tm.mk k nm ot n0 ty re l) m).1.Is d→Q d (zOP f (Tm.mk k nm ot n0 ty re l) m).2 N':=fun hk m hm=>by
    rw [if_neg (show ¬(Tm.mk k nm ot n0 ty re l).kd=10 from hk),hm] at hQ
    exact hQ
   refine Br.beq (fun h4 N4 hN4=>?_) fun h4=>Br.beq (fun h7 N4 hN4=>?_) fun h7=>Br.beq (fun h10=>?_) fun h10=>Br.beq (fun h5 N4 hN4=>?_) fun h5=>Br.beq (fun h8 N4 hN4=>?_) fun h8=>Br.beq (fun h12 N4 hN4=>?_) fun h12=>Br.beq (fun h13 N4 hN4=>?_) fun h13 N4 hN4=>?_
   ·subst h4
    have hq:=other (by decide) l.length (by simp [wA])
    simp only [zOP,List.take_length,Tm.apl,if_true] at hq
    exact zPE ih hd0 hF rfl N4 _ fun x N5 hN5 hx _ _ N6 hN6=>hq _ _ (by omega) hx
   ·subst h7
    have hq:=other (by decide) l.length (by simp [wA])
    exact zMv ih hd0 hF N4 _ fun x N5 hN5 hx _ _ N6 hN6=>hq _ _ (by omega) hx
   ·rw [if_pos (by exact h10)] at hQ
    have hl1:=(yv hF.ok).1 (by omega)
    have hm0:=zG (l:=l) (i:=0) (by omega)
    refine ⟨_,_,_,rfl,⟨by omega,by omega⟩,fun N10 hN10=>?_⟩
    have hdm:=dp_mem (k:=k) (nm:=nm) (ot:=ot) (n:=n0) (ty:=ty) (re:=re) hm0
    have hdd:=hF.dp
    refine zL0 ih _ _ (zZ hes (j:=0) (by omega)) ((hF.mem _ hm0).up (by omega)) 1 (by unfold LvIn;omega) N10 _ fun dx N11 hN11 hx _ _ N12 hN12=>?_
    exact zBf hd0 hF.z.g hx (i:=0) (by simp only [Tm.as];omega) N12 _ fun d' N13 hN13 hd' _ _ N14 hN14=>hQ _ _ (by omega) hd'
   ·have hq:=other h10 1 (by simp [wA,h4,h7,h5])
    exact zBX ih (.inl h5) hd0 hF N4 _ fun x N5 hN5 hx _ _ N6 hN6=>hq _ _ (by omega) hx
   ·have hq:=other h10 1 (by simp [wA,h4,h7,h8])
    exact zBX ih (.inr (.inl h8)) hd0 hF N4 _ fun x N5 hN5 hx _ _ N6 hN6=>hq _ _ (by omega) hx
   ·have hq:=other h10 1 (by simp [wA,h4,h7,h12])
    exact zBX ih (.inr (.inr (.inl h12))) hd0 hF N4 _ fun x N5 hN5 hx _ _ N6 hN6=>hq _ _ (by omega) hx
   ·have hq:=other h10 1 (by simp [wA,h4,h7,h13])
    exact zBX ih (.inr (.inr (.inr h13))) hd0 hF N4 _ fun x N5 hN5 hx _ _ N6 hN6=>hq _ _ (by omega) hx
   ·have hq:=other h10 0 (by simp [wA,h4,h7,h5,h8,h12,h13])
    simp only [zOP,List.take_zero,goS,Tm.apl] at hq
    rw [if_neg h4,if_neg h5,if_neg h7,if_neg h8,if_neg h12,if_neg h13] at hq
    exact hq _ _ (by omega) hd0
end Go.Proofs.YtnpjpplbkoammaaGreatDoor
