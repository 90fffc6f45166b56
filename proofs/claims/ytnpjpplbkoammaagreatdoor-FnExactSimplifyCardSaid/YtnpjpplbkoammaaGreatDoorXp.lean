/- Steps: what they come to (no program in sight). -/
import Derived.Test.YtnpjpplbkoammaaGreatDoorXj
import Derived.Test.YtnpjpplbkoammaaGreatDoorKf
import Derived.Test.YtnpjpplbkoammaaGreatDoorKh
set_option linter.unusedVariables false
set_option linter.unusedSimpArgs false
namespace Go.Proofs.YtnpjpplbkoammaaGreatDoor
open Go Go.Proofs Go.Proofs.Tryz Go.IntWalk
def red (n:Int):Int:=n % 10007
def bI (b:Bool):Int:=if b then 1 else 0
def zY (s:ByteArray) (a b:Int):Int × Bool:=
 if inB a 0 10006=true then (if inB b 0 10006=true then
  (if s=bytes [43] then (red (a+b),true) else if s=bytes [45] then (red (a - b),true) else if s=bytes [42] then (red (a*b),true)
  else if s=bytes [61] then (bI (a==b),true) else if s=bytes [60] then (bI (decide (a<b)),true)
  else if s=bytes [38] then (bI (a==1&&b==1),true) else if s=bytes [124] then (bI (a==1||b==1),true)
  else if s=bytes [33] then (bI (a==0),true) else (0,false)) else (0,false)) else (0,false)
theorem zBj (b:Bool):0≤bI b∧bI b≤1:=by cases b<;>decide
theorem zKy (n:Int):0≤red n∧red n≤10006:=by unfold red;omega
theorem zJp (s:ByteArray) (a b:Int):0≤(zY s a b).1∧(zY s a b).1≤10006:=by
 have h1:=zKy (a+b);have h2:=zKy (a - b);have h3:=zKy (a*b)
 have h4:=zBj (a==b);have h5:=zBj (decide (a<b));have h6:=zBj (a==1&&b==1);have h7:=zBj (a==1||b==1);have h8:=zBj (a==0)
 unfold zY
 (repeat' split)<;>constructor<;>first | omega | (simp only;omega)
theorem zHY {s:ByteArray} (n1:¬s=bytes [43]) (n2:¬s=bytes [45]) (n3:¬s=bytes [42]) (a b:Int):0≤(zY s a b).1∧(zY s a b).1≤1:=by
 have h4:=zBj (a==b);have h5:=zBj (decide (a<b));have h6:=zBj (a==1&&b==1);have h7:=zBj (a==1||b==1);have h8:=zBj (a==0)
 unfold zY
 rw [if_neg n1,if_neg n2,if_neg n3]
 (repeat' split)<;>constructor<;>first | omega | (simp only;omega)
def Tm.nod (k:Int) (l:List Tm):Tm:=.mk k (bytes []) (bytes []) 0 (.mk 0 []) (.mk 0 []) l
def zHs (k n:Int):Tm:=.mk k (bytes []) (bytes []) n (.mk 0 []) (.mk 0 []) []
def Tm.kd:Tm→Int | .mk k _ _ _ _ _ _=>k
def Tm.no:Tm→Int | .mk _ _ _ n _ _ _=>n
def Tm.nm:Tm→ByteArray | .mk _ nm _ _ _ _ _=>nm
def Tm.ot:Tm→ByteArray | .mk _ _ ot _ _ _ _=>ot
def Tm.pt:Tm→Nat→Tm | .mk _ _ _ _ _ _ l,i=>l.getD i tm0
def Tm.wth:Tm→Nat→Tm→Tm | .mk k nm ot n ty re l,i,x=>.mk k nm ot n ty re (l.set i x)
mutual
/-- no splice of level 1 -/
def Tm.made:Tm→Int→Bool
 | .mk k _ _ _ _ _ l,n=>!(k==11&&n==1)&&zLh l (zMT k n)
def zLh:List Tm→Int→Bool
 | [],_=>true
 | t::ts,n=>t.made n&&zLh ts n
end
def zKe (k:Int):Bool:=k==2||(k==3||(k==6||k==9))
/-- a result, of what is a term -/
def Tm.res (t:Tm):Bool:=zKe t.kd||(t.kd==10&&(t.lev 0&&(t.pt 0).made 1))
def wa (s:ByteArray):Bool:=decide (s=bytes [38])||(decide (s=bytes [124])||decide (s=bytes [33]))
def zHn (s:ByteArray):Bool:=decide (s=bytes [43])||(decide (s=bytes [45])||decide (s=bytes [42]))
def zm (nm:ByteArray):Int:=if wa nm then 3 else 2
def qg (nm:ByteArray):Int:=if zHn nm then 2 else 3
/-- an operation of literals -/
def Tm.opr (e:Tm) (l:List Tm):Tm × Int:=
 if l.all (fun x=>x.kd==zm e.nm) then
  (zHs (qg e.nm) (zY e.nm (l.getD 0 tm0).no (l.getD 1 tm0).no).1,1)
 else (e,0)
def Tm.sb (e:Tm) (x:ByteArray) (b:Tm):Tm:=e.sub e.dp x b
/-- how many parts must be results -/
def zQv (k:Int) (n:Nat):Nat:=if k=4∨k=7 then n else if k=5∨k=8∨k=12∨k=13 then 1 else 0
/-- the first part that is no result, stepped -/
def goS (S:Tm→Tm × Int) (e:Tm):List Tm→Nat→Option (Tm × Int)
 | [],_=>none
 | x::xs,i=>if x.res then goS S e xs (i+1) else some (e.wth i (S x).1,(S x).2)
/-- a splice of level 1 -/
def zQy (S:Tm→Tm × Int) (e:Tm):Tm × Int × Bool:=
 if (e.pt 0).res then (if (e.pt 0).kd=10 then ((e.pt 0).pt 0,6,true) else (e,0,true)) else (e.wth 0 (S (e.pt 0)).1,(S (e.pt 0)).2,true)
theorem zNf {a b:Int} (ha:0≤a∧a≤10006) (hb:0≤b∧b≤10006):0≤a*b∧a*b≤100120036:=by
 refine ⟨Int.mul_nonneg ha.1 hb.1,?_⟩
 have h1:a*b≤10006*b:=Int.mul_le_mul_of_nonneg_right ha.2 hb.1
 omega
theorem zJB (n:Int):(if Int.tmod n 10007<0 then Int.tmod n 10007+10007 else Int.tmod n 10007)=red n:=by
 unfold red
 by_cases h:0≤n
 ·rw [Int.tmod_eq_emod_of_nonneg h,if_neg (by omega)]
 ·obtain ⟨m,rfl⟩:∃ m,n = -m:=⟨-n,by omega⟩
  rw [Int.neg_tmod,Int.tmod_eq_emod_of_nonneg (by omega)]
  split<;>omega
theorem zNq (n:Int) : -10007<Int.tmod n 10007∧Int.tmod n 10007<10007:=by
 by_cases h:0≤n
 ·rw [Int.tmod_eq_emod_of_nonneg h];omega
 ·obtain ⟨m,rfl⟩:∃ m,n = -m:=⟨-n,by omega⟩
  rw [Int.neg_tmod,Int.tmod_eq_emod_of_nonneg (by omega)]
  omega
theorem zFC (n:Int):zAa 137 [.int .i64 n] (red n):=fun N Q hQ=>by
 have hb:=zNq n
 have hr:=zJB n
 refine zFJ N n Q ⟨by omega,Br.dec (fun h N1 hN1=>?_) fun h N2 hN2=>?_⟩
 ·rw [i64_in _ (by omega)]
  rw [if_pos h] at hr
  exact Qi (hQ _ hN1) hr.symm
 ·rw [if_neg h] at hr
  exact Qi (hQ _ hN2) hr.symm
theorem zFd (n:Int):zAa 179 [.int .i64 n] (red n):=fun N Q hQ=>by
 have hb:=zNq n
 have hr:=zJB n
 refine zEw N n Q ⟨by omega,by omega,fun N1 hN1=>?_⟩
 rw [i64_in _ (by omega)]
 refine Qi (hQ _ hN1) ?_
 rw [←hr]
 generalize Int.tmod n 10007=m at *
 rw [Int.tmod_eq_emod_of_nonneg (by omega)]
 split<;>omega
/-- returns this number and this truth value -/
def zO5 (f:FuncId) (args:List PV) (r:Int × Bool):Prop:=∀ (N:Nat) (Q:QT [.int .i64,.bool]),(∀ N',N≤N'→Q r.1 r.2 N')→ACalls prog f [.int .i64,.bool] args N Q
theorem Qp {Q:QT [.int .i64,.bool]} {a b:Int × Bool} {N:Nat} (h:Q a.1 a.2 N) (e:a=b):Q b.1 b.2 N:=e ▸ h
theorem zMc (b:Bool):zAa 138 [.bool b] (bI b):=fun N Q hQ=>zGI N b Q (Br.of (fun h N1 hN1=>Qi (hQ _ hN1) (by rw [h];rfl)) fun h N1 hN1=>Qi (hQ _ hN1) (by rw [h];rfl))
theorem zN0 (b:Bool):zAa 180 [.bool b] (bI b):=fun N Q hQ=>zJr N b Q (Br.of (fun h N1 hN1=>Qi (hQ _ hN1) (by rw [h];rfl)) fun h N1 hN1=>Qi (hQ _ hN1) (by rw [h];rfl))
theorem zDr (s:ByteArray) (a b:Int):zO5 102 [.str s,.int .i64 a,.int .i64 b] (zY s a b):=fun N Q hQ=>by
 refine zDL N s a b Q fun N1 hN1=>vY _ _ _ N1 _ fun N2 hN2 _=>?_
 by_cases ha:inB a 0 10006=true
 rotate_left
 ·have ha:inB a 0 10006=false:=by simpa using ha
  rw [ha]
  simp only [Bool.not_false,zEr]
  have e:zY s a b=(0,false):=by unfold zY;rw [if_neg (by rw [ha];decide)]
  exact fun N3 hN3=>Qp (b:=(0,false)) (hQ N3 (by omega)) e
 rw [ha]
 simp only [Bool.not_true,zBQ]
 intro N4 hN4
 refine vY _ _ _ N4 _ fun N5 hN5 _=>?_
 by_cases hb:inB b 0 10006=true
 rotate_left
 ·have hb:inB b 0 10006=false:=by simpa using hb
  rw [hb]
  simp only [Bool.not_false,zEr]
  have e:zY s a b=(0,false):=by unfold zY;rw [if_pos ha,if_neg (by rw [hb];decide)]
  exact fun N3 hN3=>Qp (b:=(0,false)) (hQ N3 (by omega)) e
 rw [hb]
 simp only [Bool.not_true,zBQ]
 have hai:=wt.1 ha
 have hbi:=wt.1 hb
 have hm:=zNf hai hbi
 rw [i64_in (a+b) (by omega),i64_in (a - b) (by omega),i64_in (a*b) (by omega)]
 have fin:∀ (x:Int) (y:Bool) (N':Nat),N≤N'→zY s a b=(x,y)→Q x y N':=fun x y N' h e=>Qp (b:=(x,y)) (hQ N' h) e
 unfold zY at fin
 rw [if_pos ha,if_pos hb] at fin
 clear hQ
 repeat' first|with_reducible intro _|simp only[Y1,Y2,Y3,Y4]|(with_reducible first|refine X1 ?_ ?_|refine X2 ?_ ?_|refine X3 ?_ ?_|refine X4 ?_ ?_|refine X5 ?_ ?_|refine X6 ?_ ?_|refine X7 ?_ ?_|refine X8 ?_ ?_|refine X9 ?_ ?_)|refine⟨_,_,_,rfl,?_⟩|refine⟨_,rfl,?_⟩|((with_reducible refine And.intro ?_ ?_);·first|omega|trivial|(show _=_;rfl)|((with_reducible refine And.intro ?_ ?_)<;>first|omega|trivial|(show _=_;rfl)))|refine (zFC _) _ _ ?_|refine (zMc _) _ _ ?_|fail
 all_goals
  refine fin _ _ _ (by omega) ?_
  (repeat' split)<;>first | rfl | contradiction | (simp_all;done) | (congr 1;rw [show (a==1)=false by simpa using ‹¬a=1›];rfl)
theorem zDV (s:ByteArray) (a b:Int):zO5 146 [.str s,.int .i64 a,.int .i64 b] (zY s a b):=fun N Q hQ=>by
 refine zC9 N s a b Q fun N1 hN1=>vH _ N1 _ fun N2 hN2 _=>?_
 by_cases ha:inB a 0 10006=true
 rotate_left
 ·have ha:inB a 0 10006=false:=by simpa using ha
  rw [ha]
  simp only [Bool.not_false,zEr]
  have e:zY s a b=(0,false):=by unfold zY;rw [if_neg (by rw [ha];decide)]
  exact fun N3 hN3=>Qp (b:=(0,false)) (hQ N3 (by omega)) e
 rw [ha]
 simp only [Bool.not_true,zBQ]
 intro N4 hN4
 refine vH _ N4 _ fun N5 hN5 _=>?_
 by_cases hb:inB b 0 10006=true
 rotate_left
 ·have hb:inB b 0 10006=false:=by simpa using hb
  rw [hb]
  simp only [Bool.not_false,zEr]
  have e:zY s a b=(0,false):=by unfold zY;rw [if_pos ha,if_neg (by rw [hb];decide)]
  exact fun N3 hN3=>Qp (b:=(0,false)) (hQ N3 (by omega)) e
 rw [hb]
 simp only [Bool.not_true,zBQ]
 have hai:=wt.1 ha
 have hbi:=wt.1 hb
 have hm:=zNf hai hbi
 rw [i64_in (a+b) (by omega),i64_in (a - b) (by omega),i64_in (a*b) (by omega)]
 have fin:∀ (x:Int) (y:Bool) (N':Nat),N≤N'→zY s a b=(x,y)→Q x y N':=fun x y N' h e=>Qp (b:=(x,y)) (hQ N' h) e
 unfold zY at fin
 rw [if_pos ha,if_pos hb] at fin
 clear hQ
 repeat' first|with_reducible intro _|simp only[Y1,Y2,Y3,Y4]|(with_reducible first|refine X1 ?_ ?_|refine X2 ?_ ?_|refine X3 ?_ ?_|refine X4 ?_ ?_|refine X5 ?_ ?_|refine X6 ?_ ?_|refine X7 ?_ ?_|refine X8 ?_ ?_|refine X9 ?_ ?_)|refine⟨_,_,_,rfl,?_⟩|refine⟨_,rfl,?_⟩|((with_reducible refine And.intro ?_ ?_);·first|omega|trivial|(show _=_;rfl)|((with_reducible refine And.intro ?_ ?_)<;>first|omega|trivial|(show _=_;rfl)))|refine (zFd _) _ _ ?_|refine (zN0 _) _ _ ?_|fail
 all_goals
  refine fin _ _ _ (by omega) ?_
  (repeat' split)<;>first | rfl | contradiction | (simp_all;done) | (congr 1;rw [show (a==1)=false by simpa using ‹¬a=1›];rfl)
/-- a term, not too deep, not too great -/
structure Tm.F (e:Tm) (f:Nat):Prop where
 ok:e.ok=true
 d:e.dp≤f
 c:e.cnt≤1073741824
 w:e.vc≤1333333
theorem Tm.F.up {e:Tm} {f g:Nat} (h:e.F f) (hg:f≤g):e.F g:=⟨h.ok,Nat.le_trans h.d hg,h.c,h.w⟩
theorem Tm.F.vc {e:Tm} {f:Nat} (h:e.F f):e.vc≤1333333:=h.w
theorem Tm.F.of {e:Tm} {f:Nat} (h1:e.ok=true) (h2:e.dp≤f) (h3:e.cnt≤4000000):e.F f:=⟨h1,h2,by omega,by have:=Tm.vc_cnt e;omega⟩
theorem zT {l:List Tm} {i:Nat} (h:i<l.length):l.getD i tm0∈l:=List.mem_of_getElem? (yV h)
theorem zOM {e:Tm} (he:e.ok=true) (hk:e.kd=3):e.no=0∨e.no=1:=by
 cases e with
 | mk k nm ot n ty re l=>
 simp only [Tm.kd] at hk
 subst hk
 simp only [Tm.ok,Bool.and_eq_true] at he
 have h2:=he.2.1
 simp only [yK,Bool.and_eq_true,inB] at h2
 simp at h2
 simp only [Tm.no]
 omega
/-- copies -/
def zPJ (F:FuncId):Prop:=∀ (t:Tm) (d:D),t.Is d→t.G→∀ (N:Nat) (Q:QT [.pk,.int .i64,.str,.str,.int .i64,.dc,.dc,.dc,.dc,.row 34 9]),vr t N Q→ACalls prog F [.pk,.int .i64,.str,.str,.int .i64,.dc,.dc,.dc,.dc,.row 34 9] [.dg 9 d] N Q
theorem zAS {F:FuncId} (hF:zPJ F) {t:Tm} {d:D} (h:t.Is d) (hG:t.G) {N0 N:Nat} (h0:N0≤N) (Q':D→Nat→Prop) (hq:∀ d' N',N≤N'→t.Is d'→Own N0 N' d'→Q' d' N') :
  ACalls prog F [.pk,.int .i64,.str,.str,.int .i64,.dc,.dc,.dc,.dc,.row 34 9] [.dg 9 d] N (fun n s s_1 n_1 x x_1 x_2 x_3 es c N2=>N≤N2→Bel N2 (D.ag es)→(es.length=es.length∧c=c)∧(es.length=es.length∧c=c)∧∀ a N3,N2≤N3→Fresh N0 N3 a [D.ag es,x,x_1,x_2,x_3]→∀ N4,N3≤N4 →
   Q' (D.ag [D.lit (.int .i64 n),D.lit (.string s),D.lit (.string s_1),D.lit (.int .i64 n_1),x,x_1,x_2,x_3,D.sl a 9 es c]) N4):=by
 refine hF t d h hG N _ ?_
 cases t with
 | mk k2 nm2 ot2 n2 ty2 re2 l2=>
 simp only [vr]
 intro x4 x5 x6 x7 es' c' N2 hN2 hh' hes' ho' _ _
 have hl':=hes'.len
 have hgl:=hG.2.2.1
 exact ⟨⟨trivial,trivial⟩,⟨trivial,trivial⟩,fun a2 N3 hN3 hf N4 hN4=>hq _ _ (by omega) (Tm.is_mk.2 ⟨_,_,_,_,_,_,_,rfl,hh',by omega,hes'⟩) ((ux (ho'.mono h0 (Nat.le_refl _)) hf hN3).mono (Nat.le_refl _) hN4)⟩
theorem zQN {F:FuncId} (hF:zPJ F) {t y:Tm} {d dy:D} (h:t.Is d) (hG:t.G) (hy:y.Is dy) {i:Nat} (hi:i<t.as.length) {N0 N:Nat} (Q':D→Nat→Prop) (hq:∀ d' N',N≤N'→(t.wth i y).Is d'→Q' d' N') :
  ACalls prog F [.pk,.int .i64,.str,.str,.int .i64,.dc,.dc,.dc,.dc,.row 34 9] [.dg 9 d] N (fun n s s_1 n_1 x x_1 x_2 x_3 es c N2=>N≤N2→Bel N2 (D.ag es)→(0≤(i:Int)∧(i:Int)<(es.length:Int)∧(0+(i:Int).toNat:Nat)<es.length)∧(0+(i:Int).toNat:Nat)<es.length ∧
   (es.length=(List.set es (0+(i:Int).toNat:Nat) dy).length∧c=c)∧(es.length=(List.set es (0+(i:Int).toNat:Nat) dy).length∧c=c)∧(es.length=(List.set es (0+(i:Int).toNat:Nat) dy).length∧c=c)∧(es.length=(List.set es (0+(i:Int).toNat:Nat) dy).length∧c=c)∧(es.length=(List.set es (0+(i:Int).toNat:Nat) dy).length∧c=c) ∧
   ∀ a N3,N2≤N3→Fresh N0 N3 a [D.ag (List.set es (0+(i:Int).toNat:Nat) dy),x,x_1,x_2,x_3]→∀ N4,N3≤N4 →
   Q' (D.ag [D.lit (.int .i64 n),D.lit (.string s),D.lit (.string s_1),D.lit (.int .i64 n_1),x,x_1,x_2,x_3,D.sl a 9 (List.set es (0+(i:Int).toNat:Nat) dy) c]) N4):=by
 refine hF t d h hG N _ ?_
 cases t with
 | mk k2 nm2 ot2 n2 ty2 re2 l2=>
 simp only [vr]
 simp only [Tm.as] at hi
 intro x4 x5 x6 x7 es' c' N2 hN2 hh' hes' ho' _ _
 have hl':=hes'.len
 have hgl:=hG.2.2.1
 rw [Int.toNat_natCast,Nat.zero_add]
 have hs:(List.set es' i dy).length=es'.length:=List.length_set
 exact ⟨⟨by omega,by omega,by omega⟩,by omega,⟨hs.symm,trivial⟩,⟨hs.symm,trivial⟩,⟨hs.symm,trivial⟩,⟨hs.symm,trivial⟩,⟨hs.symm,trivial⟩,fun a2 N3 hN3 hf N4 hN4=>hq _ _ (by omega) (Tm.is_mk.2 ⟨_,_,_,_,_,_,_,rfl,hh',by omega,uI hes' hy⟩)⟩
theorem zE8 {k n:Int}:(zHs k n).Is (.ag [.lit (.int .i64 k),.lit (.string (bytes [])),.lit (.string (bytes [])),.lit (.int .i64 n),.lit (.int .i64 0),.sl none 2 [] 0,.lit (.int .i64 0),.sl none 2 [] 0,.sl none 9 [] 0]):=
 Tm.is_mk.2 ⟨_,_,_,_,_,_,_,rfl,⟨by decide,by decide,Ty.is_mk.2 ⟨_,_,_,rfl,by simp,rfl⟩,Ty.is_mk.2 ⟨_,_,_,rfl,by simp,rfl⟩⟩,by simp,rfl⟩
/-- a level that stays far from the ends, however deep -/
def LvIn (m:Int) (d:Nat):Prop := -1152921504606846976≤m - (d:Int)∧m+(d:Int)≤1152921504606846976
theorem LvIn.next {k m:Int} {d d':Nat} (h:LvIn m d) (hd:d'+1≤d):LvIn (zMT k m) d':=by
 unfold LvIn zMT at *
 split
 ·omega
 ·split<;>omega
theorem LvIn.b {m:Int} {d:Nat} (h:LvIn m d) : -1152921504606846976≤m∧m≤1152921504606846976:=by unfold LvIn at h;omega
theorem zO1 {k:Int} {nm ot:ByteArray} {n:Int} {ty re:Ty} {l:List Tm} {y:Tm} (h:y∈l):y.dp+1≤(Tm.mk k nm ot n ty re l).dp:=by
 have:=zBL.1 (Nat.le_refl (zA8 l)) y h
 simp only [Tm.dp];omega
theorem zLq {t y:Tm} {d dy:D} (h:t.Is d) (hG:t.G) (hy:y.Is dy) {i:Nat} (hi:i<t.as.length) (N:Nat) (Q:QT [.ag 9]) (hq:∀ d' N',N≤N'→(t.wth i y).Is d'→Q d' N') :
  ACalls prog 69 [.ag 9] [.dg 9 d,.int .i64 (i:Int),.dg 9 dy] N Q:=
 zDi N _ _ _ Q fun _ _ N1 hN1=>zQN vJ h hG hy hi (fun d N=>Q d N) fun d' N' h1 h2=>hq _ _ (by omega) h2
def zDw (l:List Tm) (i:Nat):List D:=[.lit (.int .i64 (if 0<i then (l.getD 0 tm0).no else 0)),.lit (.int .i64 (if 1<i then (l.getD 1 tm0).no else 0))]
theorem zIe {l:List Tm} {i:Nat} (hi:i<2):(zDw l i).set i (.lit (.int .i64 (l.getD i tm0).no))=zDw l (i+1):=by
 match i,hi with
 | 0,_=>rfl
 | 1,_=>rfl
theorem qY {l:List Tm} {i:Nat} (h:l.length≤i):l.getD i tm0=tm0:=by rw [List.getD_eq_getElem?_getD,List.getElem?_eq_none h];rfl
theorem zIv {l:List Tm} (h:l.length≤2):zDw l l.length=[.lit (.int .i64 (l.getD 0 tm0).no),.lit (.int .i64 (l.getD 1 tm0).no)]:=by
 unfold zDw
 by_cases h0:0<l.length
 ·by_cases h1:1<l.length
  ·rw [if_pos h0,if_pos h1]
  ·rw [if_pos h0,if_neg h1,qY (i:=1) (by omega)];rfl
 ·rw [if_neg h0,if_neg (by omega),qY (i:=0) (by omega),qY (i:=1) (by omega)];rfl
theorem zIO (s:ByteArray):zCx s≤2:=by unfold zCx;(repeat' split)<;>decide
theorem zMf (n:Int) (N:Nat) (Q:QT [.ag 9]) (hQ:∀ d N',N≤N'→(zHs 2 n).Is d→Q d N'):ACalls prog 103 [.ag 9] [.int .i64 n] N Q:=zHG N n Q fun N1 hN1=>hQ _ _ hN1 zE8
theorem zKq (n:Int) (N:Nat) (Q:QT [.ag 9]) (hQ:∀ d N',N≤N'→(zHs 3 n).Is d→Q d N'):ACalls prog 104 [.ag 9] [.int .i64 n] N Q:=zFH N n Q fun N1 hN1=>hQ _ _ hN1 zE8
theorem zOE {n0:Int} {nm ot:ByteArray} {ty re:Ty} {l:List Tm} (h:∀ x∈l,x.kd=zm nm):(Tm.mk 4 nm ot n0 ty re l).opr l=(zHs (qg nm) (zY nm (l.getD 0 tm0).no (l.getD 1 tm0).no).1,1):=by
 unfold Tm.opr
 rw [if_pos (List.all_eq_true.2 fun x hx=>by rw [h x hx];exact beq_self_eq_true _)]
 rfl
theorem zOj {n0:Int} {nm ot:ByteArray} {ty re:Ty} {l:List Tm} {x:Tm} (hx:x∈l) (h:x.kd≠zm nm):(Tm.mk 4 nm ot n0 ty re l).opr l=(Tm.mk 4 nm ot n0 ty re l,0):=by
 unfold Tm.opr
 rw [if_neg fun hc=>h (by have:=List.all_eq_true.1 hc _ hx;simpa [Tm.nm] using this)]
/-- an operation of results -/
theorem zMB {n0:Int} {nm ot:ByteArray} {ty re:Ty} {l:List Tm} {t0 t1 r0 r1:D} {a:Option Addr} {es:List D} {c:Nat} (hd0:(Tm.mk 4 nm ot n0 ty re l).Is (.ag [.lit (.int .i64 4),.lit (.string nm),.lit (.string ot),.lit (.int .i64 n0),t0,t1,r0,r1,.sl a 9 es c])) (hes:All2 Tm.Is l es) (hlen:es.length≤4611686018427387904) (hl2:l.length≤2) {N:Nat} {Q:QT [.ag 9,.int .i64]} (hQ:∀ d N',N≤N'→((Tm.mk 4 nm ot n0 ty re l).opr l).1.Is d→Q d ((Tm.mk 4 nm ot n0 ty re l).opr l).2 N') (N':Nat) (hN':N≤N') :
  yu Q N (zm nm) 2 2 0 (.ag [.lit (.int .i64 4),.lit (.string nm),.lit (.string ot),.lit (.int .i64 n0),t0,t1,r0,r1,.sl a 9 es c]) 0 (bytes []) (bytes []) 0 0 none [] 0 0 none [] 0 none [] 0 [.lit (.int .i64 0),.lit (.int .i64 0)] 2 N':=by
 have hl:=hes.len
 refine up hes hlen (fun i xs=>∀ N',N≤N'→(∀ j x,j<i→l[j]?=some x→x.kd=zm nm)→yu Q N (zm nm) 2 2 i (.ag [.lit (.int .i64 4),.lit (.string nm),.lit (.string ot),.lit (.int .i64 n0),t0,t1,r0,r1,.sl a 9 es c]) 0 (bytes []) (bytes []) 0 0 none [] 0 0 none [] 0 none [] 0 (zDw l i) 2 N') ?_ ?_ N' hN' (fun j x h=>absurd h (by omega))
 ·intro i hlt hi N' hN' hk
  rw [zOE fun x hx=>by
   obtain ⟨j,hj⟩:=List.mem_iff_getElem?.1 hx
   exact hk j x (by have:=(List.getElem?_eq_some_iff.1 hj).1;omega) hj] at hQ
  refine tz _ _ _ _ _ _ _ _ _ _ _ _ _ _ _ _ _ _ _ _ _ _ _ _ _ ⟨_,_,_,rfl,?_⟩
  rw [hlt]
  have hin:i=l.length:=by omega
  rw [hin,zIv hl2]
  refine ⟨_,rfl,⟨⟨by omega,by omega,by simp⟩,by simp,_,rfl,⟨by omega,by omega,by simp⟩,by simp,_,rfl,fun N2 hN2=>zDr _ _ _ N2 _ fun N3 hN3 _=>⟨_,rfl,?_⟩⟩⟩
  have fin2:zHn nm=true→∀ N4,N3≤N4→ACalls prog 103 [.ag 9] [.int .i64 (zY nm (l.getD 0 tm0).no (l.getD 1 tm0).no).1] N4 (fun x N5=>N4≤N5→Bel N5 x→∀ N6,N5≤N6→Q x 1 N6):=fun ho N4 hN4=>by
   rw [show qg nm=2 by unfold qg;rw [if_pos ho]] at hQ
   exact zMf _ N4 _ fun x N5 hN5 hx _ _ N6 hN6=>hQ _ _ (by omega) hx
  refine Br.str (fun e1=>fin2 (by simp [zHn,e1])) fun e1=>⟨_,rfl,Br.str (fun e2=>fin2 (by simp [zHn,e2])) fun e2=>⟨_,rfl,Br.str (fun e3=>fin2 (by simp [zHn,e3])) fun e3 N4 hN4=>?_⟩⟩
  rw [show qg nm=3 by unfold qg;rw [if_neg (by simp [zHn,e1,e2,e3])]] at hQ
  exact zKq _ N4 _ fun x N5 hN5 hx _ _ N6 hN6=>hQ _ _ (by omega) hx
 ·intro i x xs hat hxs ih2 N' hN' hk
  have hb:=hat.b
  have hx:=hat.r
  refine tz _ _ _ _ _ _ _ _ _ _ _ _ _ _ _ _ _ _ _ _ _ _ _ _ _ ⟨_,_,_,rfl,?_⟩
  rw [hat.lt,Int.toNat_natCast,hat.w]
  have hgx:l.getD i tm0=x:=by rw [List.getD_eq_getElem?_getD,hat.g];rfl
  cases x with
  | mk pk pn po pm pt pr pl=>
  obtain ⟨u0,u1,v0,v1,a2,es2,c2,heq,hh2,hlen2,hes2⟩:=Tm.is_mk.1 hx
  refine ⟨_,_,_,rfl,⟨by omega,by omega⟩,pk,by rw [heq];rfl,Br.bne (fun hne N1 hN1=>?_) fun he=>⟨_,_,_,rfl,⟨by omega,by omega⟩,pm,by rw [heq];rfl,⟨by omega,by omega,by simp only [zDw,List.length_cons,List.length_nil];omega⟩,by simp only [zDw,List.length_cons,List.length_nil];omega,?_⟩⟩
  ·rw [zOj hat.m hne] at hQ
   exact hQ _ _ (by omega) hd0
  ·rw [Nat.zero_add]
   have hns:=zIe (l:=l) (i:=i) (by omega)
   rw [hgx] at hns
   simp only [Tm.no] at hns
   rw [hns]
   refine ih2 _ hN' fun j y hj hy=>?_
   by_cases hji:j<i
   ·exact hk j y hji hy
   ·have:j=i:=by omega
    subst this
    rw [hat.g] at hy
    rw [←Option.some.inj hy];exact he
theorem si {e b:Tm} {d db:D} (he:e.Is d) (hb:b.Is db) (x:ByteArray) (h1:e.Z) (h2:b.Z):zMp 105 [.dg 9 d,.str x,.dg 9 db] (e.sb x b):=zEX e.dp e d x b db he hb (Nat.le_refl _) h1 h2
end Go.Proofs.YtnpjpplbkoammaaGreatDoor
