/- Terms and typings as plain data; well-formed terms and contexts: the reference's functions. -/
import Derived.Test.YtnpjpplbkoammaaGreatDoorVf
set_option linter.unusedVariables false
set_option linter.unusedSimpArgs false
namespace Go.Proofs.YtnpjpplbkoammaaGreatDoor
open Go Go.Proofs Go.Proofs.Tryz Go.IntWalk
inductive Tm where
 | mk (k:Int) (nm ot:ByteArray) (n:Int) (ty re:Ty) (l:List Tm)
def Tm.as:Tm→List Tm
 | .mk _ _ _ _ _ _ l=>l
/-- the cells of a term ahead of its parts -/
structure Tm.Hd (nm ot:ByteArray) (ty re:Ty) (t0 t1 r0 r1:D):Prop where
 nm:nm.size≤4611686018427387904
 ot:ot.size≤4611686018427387904
 ty:ty.Is (.ag [t0,t1])
 re:re.Is (.ag [r0,r1])
mutual
def Tm.Is:Tm→D→Prop
 | .mk k nm ot n ty re l,d=>∃ t0 t1 r0 r1 a es c,d=.ag [.lit (.int .i64 k),.lit (.string nm),.lit (.string ot),.lit (.int .i64 n),t0,t1,r0,r1,.sl a 9 es c]∧Tm.Hd nm ot ty re t0 t1 r0 r1∧es.length≤4611686018427387904∧zAg l es
def zAg:List Tm→List D→Prop
 | [],es=>es=[]
 | t::ts,es=>∃ d ds,es=d::ds∧t.Is d∧zAg ts ds
end
theorem tA:∀ {l:List Tm} {es:List D},zAg l es↔All2 Tm.Is l es
 | [],es=>by simp only [zAg,All2]
 | t::ts,es=>by
   simp only [zAg,All2]
   exact ⟨fun ⟨d,ds,h1,h2,h3⟩=>⟨d,ds,h1,h2,tA.1 h3⟩,fun ⟨d,ds,h1,h2,h3⟩=>⟨d,ds,h1,h2,tA.2 h3⟩⟩
theorem Tm.is_mk {k:Int} {nm ot:ByteArray} {n:Int} {ty re:Ty} {l:List Tm} {d:D}:(Tm.mk k nm ot n ty re l).Is d ↔
  ∃ t0 t1 r0 r1 a es c,d=.ag [.lit (.int .i64 k),.lit (.string nm),.lit (.string ot),.lit (.int .i64 n),t0,t1,r0,r1,.sl a 9 es c]∧Tm.Hd nm ot ty re t0 t1 r0 r1∧es.length≤4611686018427387904∧All2 Tm.Is l es:=by
 simp only [Tm.Is,tA]
theorem Tm.ind {P:Tm→Prop} (h:∀ k nm ot n ty re l,(∀ t∈l,P t)→P (.mk k nm ot n ty re l)):∀ t,P t:=fun t=>
 Tm.rec (motive_1:=P) (motive_2:=fun l=>∀ t∈l,P t) (fun k nm ot n ty re l ih=>h k nm ot n ty re l ih) (by simp) (fun t l h1 h2 u hu=>by
  rcases List.mem_cons.1 hu with rfl | hu
  ·exact h1
  ·exact h2 u hu) t
mutual
def Tm.cnt:Tm→Nat
 | .mk _ _ _ _ ty re l=>1+ty.cnt+re.cnt+zX l
def zX:List Tm→Nat
 | []=>0
 | t::ts=>t.cnt+zX ts
end
theorem yy:∀ {l:List Tm} {t:Tm},t∈l→t.cnt≤zX l
 | u::us,t,h=>by
   simp only [zX]
   rcases List.mem_cons.1 h with rfl | h
   ·omega
   ·have:=yy h;omega
theorem qC:∀ l:List Tm,l.length≤zX l
 | []=>Nat.le_refl _
 | .mk _ _ _ _ _ _ _::ts=>by simp only [zX,Tm.cnt,List.length_cons];have:=qC ts;omega
structure Tg where
 nm:ByteArray
 ty:Ty
 lv:Int
def Tg.Is (g:Tg) (d:D):Prop:=∃ t0 t1,d=.ag [.lit (.string g.nm),t0,t1,.lit (.int .i64 g.lv)]∧g.nm.size≤4611686018427387904∧g.ty.Is (.ag [t0,t1])
theorem Tg.is_mk {nm:ByteArray} {ty:Ty} {lv:Int} {d:D}:(Tg.mk nm ty lv).Is d↔∃ t0 t1,d=.ag [.lit (.string nm),t0,t1,.lit (.int .i64 lv)]∧nm.size≤4611686018427387904∧ty.Is (.ag [t0,t1]):=Iff.rfl
def zCx (s:ByteArray):Int:=if s=bytes [43] then 2 else if s=bytes [45] then 2 else if s=bytes [42] then 2 else if s=bytes [61] then 2 else if s=bytes [60] then 2 else if s=bytes [38] then 2 else if s=bytes [124] then 2 else if s=bytes [33] then 1 else 0
theorem rq (s:ByteArray):zAa 136 [.str s] (zCx s):=fun N Q hQ=>by
 refine zDu N s Q ?_
 repeat' first|with_reducible intro _|simp only[Y1,Y2,Y3,Y4]|(with_reducible first|refine X1 ?_ ?_|refine X2 ?_ ?_|refine X3 ?_ ?_|refine X4 ?_ ?_|refine X5 ?_ ?_|refine X6 ?_ ?_|refine X7 ?_ ?_|refine X8 ?_ ?_|refine X9 ?_ ?_)|refine⟨_,_,_,rfl,?_⟩|refine⟨_,rfl,?_⟩|((with_reducible refine And.intro ?_ ?_);·first|omega|trivial|(show _=_;rfl)|((with_reducible refine And.intro ?_ ?_)<;>first|omega|trivial|(show _=_;rfl)))|fail
 all_goals (refine Qi (hQ _ (by assumption)) ?_;unfold zCx;(repeat' split)<;>first | rfl | contradiction)
def Ty.zero (t:Ty):Bool:=t.k==0&&(t.as.length:Int)==0
theorem qZ (t:Ty) (d:D) (hd:t.Is d):wU 134 [.dg 2 d] t.zero:=fun N Q hQ=>by
 cases t with
 | mk k l=>
 obtain ⟨a,es,c,rfl,hlen,hes⟩:=Ty.is_mk.1 hd
 have hl:=hes.len
 refine zFR N _ Q fun _=>?_
 repeat' first|with_reducible intro _|simp only[Y1,Y2,Y3,Y4]|(with_reducible first|refine X1 ?_ ?_|refine X2 ?_ ?_|refine X3 ?_ ?_|refine X4 ?_ ?_|refine X5 ?_ ?_|refine X6 ?_ ?_|refine X7 ?_ ?_|refine X8 ?_ ?_|refine X9 ?_ ?_)|refine⟨_,_,_,rfl,?_⟩|refine⟨_,rfl,?_⟩|((with_reducible refine And.intro ?_ ?_);·first|omega|trivial|(show _=_;rfl)|((with_reducible refine And.intro ?_ ?_)<;>first|omega|trivial|(show _=_;rfl)))|fail
 all_goals refine Qb (hQ _ (by assumption)) ?_
 all_goals simp [Ty.zero,Ty.k,Ty.as,hl, *]
def zB4 (k:Int) (nm ot:ByteArray):Bool:=
 if k=4 then decide (zCx nm>0)&&decide (ot=bytes []) else if k=1∨k=6∨k=8 then rd nm&&decide (ot=bytes []) else if k=9 then rd nm&&(rd ot&&!decide (nm=ot)) else decide (nm=bytes [])&&decide (ot=bytes [])
theorem zP1 (a b:Int):(a==b)=decide (a=b):=by rw [Bool.eq_iff_iff];simp
def rZ (k:Int):Bool:=k==6||k==9
def yK (k:Int) (nm ot:ByteArray) (n:Int) (ty re:Ty):Bool:=
 (rZ k==ty.valid)&&((rZ k||ty.zero)&&(((k==9)==re.valid)&&((k==9||re.zero)&&(inB n 0 (if k=2 then 10006 else if k=3 then 1 else 0)&&zB4 k nm ot))))
def zGz (k:Int) (nm:ByteArray):Int:=
 if k=1∨k=2∨k=3 then 0 else if k=4 then zCx nm else if k=6∨k=9∨k=10∨k=11∨k=12∨k=13 then 1 else if k=7∨k=8 then 2 else if k=5 then 3 else -1
mutual
def Tm.ok:Tm→Bool
 | .mk k nm ot n ty re l=>zAz l&&(yK k nm ot n ty re&&(l.length:Int)==zGz k nm)
def zAz:List Tm→Bool
 | []=>true
 | t::ts=>t.ok&&zAz ts
end
theorem zDE {k n:Int} {nm ot:ByteArray} {ty re:Ty} {t0 t1 r0 r1 x:D} (h:Tm.Hd nm ot ty re t0 t1 r0 r1):wU 135 [.dg 9 (.ag [.lit (.int .i64 k),.lit (.string nm),.lit (.string ot),.lit (.int .i64 n),t0,t1,r0,r1,x])] (zB4 k nm ot):=fun N Q hQ=>by
 refine zDn N _ Q fun _=>?_
 repeat' first|with_reducible intro _|simp only[Y1,Y2,Y3,Y4]|(with_reducible first|refine X1 ?_ ?_|refine X2 ?_ ?_|refine X3 ?_ ?_|refine X4 ?_ ?_|refine X5 ?_ ?_|refine X6 ?_ ?_|refine X7 ?_ ?_|refine X8 ?_ ?_|refine X9 ?_ ?_)|refine⟨_,_,_,rfl,?_⟩|refine⟨_,rfl,?_⟩|((with_reducible refine And.intro ?_ ?_);·first|omega|trivial|(show _=_;rfl)|((with_reducible refine And.intro ?_ ?_)<;>first|omega|trivial|(show _=_;rfl)))|refine (rq _) _ _ ?_|refine (qW _ h.nm) _ _ ?_|refine (qW _ h.ot) _ _ ?_|fail
 all_goals (refine Qb (hQ _ (by omega)) ?_;simp [zB4,rC, *])
theorem zBd {k n:Int} {nm ot:ByteArray} {ty re:Ty} {t0 t1 r0 r1 x:D} (h:Tm.Hd nm ot ty re t0 t1 r0 r1) (hc:ty.cnt≤1073741824) (hc2:re.cnt≤1073741824) :
  wU 98 [.dg 9 (.ag [.lit (.int .i64 k),.lit (.string nm),.lit (.string ot),.lit (.int .i64 n),t0,t1,r0,r1,x])] (yK k nm ot n ty re):=fun N Q hQ=>by
 refine zCl N _ Q fun _=>?_
 repeat' first|with_reducible intro _|simp only[Y1,Y2,Y3,Y4]|(with_reducible first|refine X1 ?_ ?_|refine X2 ?_ ?_|refine X3 ?_ ?_|refine X4 ?_ ?_|refine X5 ?_ ?_|refine X6 ?_ ?_|refine X7 ?_ ?_|refine X8 ?_ ?_|refine X9 ?_ ?_)|refine⟨_,_,_,rfl,?_⟩|refine⟨_,rfl,?_⟩|((with_reducible refine And.intro ?_ ?_);·first|omega|trivial|(show _=_;rfl)|((with_reducible refine And.intro ?_ ?_)<;>first|omega|trivial|(show _=_;rfl)))|refine (uN _ _ h.ty hc) _ _ ?_|refine (uN _ _ h.re hc2) _ _ ?_|refine (qZ _ _ h.ty) _ _ ?_|refine (qZ _ _ h.re) _ _ ?_|refine (vY _ _ _) _ _ ?_|refine (zDE h) _ _ ?_|fail
 all_goals first | (exfalso;omega) | (refine Qb (hQ _ (by omega)) ?_;simp [yK,rZ, *];done) | (refine Qb (hQ _ (by omega)) ?_;simp_all [yK,rZ];done) | (refine Qb (hQ _ (by omega)) ?_;simp_all only [yK,rZ,zP1];simp_all;done)
theorem zDc {k n:Int} {nm ot:ByteArray} {t0 t1 r0 r1 x:D}:zAa 99 [.dg 9 (.ag [.lit (.int .i64 k),.lit (.string nm),.lit (.string ot),.lit (.int .i64 n),t0,t1,r0,r1,x])] (zGz k nm):=fun N Q hQ=>by
 refine zDm N _ Q fun _=>?_
 repeat' first|with_reducible intro _|simp only[Y1,Y2,Y3,Y4]|(with_reducible first|refine X1 ?_ ?_|refine X2 ?_ ?_|refine X3 ?_ ?_|refine X4 ?_ ?_|refine X5 ?_ ?_|refine X6 ?_ ?_|refine X7 ?_ ?_|refine X8 ?_ ?_|refine X9 ?_ ?_)|refine⟨_,_,_,rfl,?_⟩|refine⟨_,rfl,?_⟩|((with_reducible refine And.intro ?_ ?_);·first|omega|trivial|(show _=_;rfl)|((with_reducible refine And.intro ?_ ?_)<;>first|omega|trivial|(show _=_;rfl)))|refine (rq _) _ _ ?_|fail
 all_goals (refine Qi (hQ _ (by omega)) ?_;simp [zGz, *])
theorem zF3:∀ (t:Tm) (d:D),t.Is d→t.cnt≤1073741824→wU 63 [.dg 9 d] t.ok:=by
 refine Tm.ind fun k nm ot n ty re l ih d hd hc N Q hQ=>?_
 obtain ⟨t0,t1,r0,r1,a,es,c,rfl,hh,hlen,hes⟩:=Tm.is_mk.1 hd
 have hl:=hes.len
 simp only [Tm.cnt] at hc
 refine zF5 N _ Q fun _=>?_
 have key:=up hes hlen (fun i xs=>∀ (N':Nat),N≤N'→(∀ N'',N'≤N''→Q (zAz xs&&(yK k nm ot n ty re&&(l.length:Int)==zGz k nm)) N'')→x9 Q N i (.ag [.lit (.int .i64 k),.lit (.string nm),.lit (.string ot),.lit (.int .i64 n),t0,t1,r0,r1,.sl a 9 es c]) N') ?_ ?_
 ·exact key N (Nat.le_refl _) hQ
 ·intro i hlt _ N' hN' hQ'
  refine t7 _ _ _ _ _ ?_
  repeat' first|with_reducible intro _|simp only[hlt,Y1,Y2,Y3,Y4]|(with_reducible first|refine X1 ?_ ?_|refine X2 ?_ ?_|refine X3 ?_ ?_|refine X4 ?_ ?_|refine X5 ?_ ?_|refine X6 ?_ ?_|refine X7 ?_ ?_|refine X8 ?_ ?_|refine X9 ?_ ?_)|refine⟨_,_,_,rfl,?_⟩|refine⟨_,rfl,?_⟩|((with_reducible refine And.intro ?_ ?_);·first|omega|trivial|(show _=_;rfl)|((with_reducible refine And.intro ?_ ?_)<;>first|omega|trivial|(show _=_;rfl)))|refine (zBd hh (by omega) (by omega)) _ _ ?_|refine zDc _ _ ?_|fail
  all_goals (refine Qb (hQ' _ (by omega)) ?_;simp [zAz, *])
 ·intro i x xs hat _ ih2 N' hN' hQ'
  have hb:=hat.b
  have hxc:=yy hat.m
  refine t7 _ _ _ _ _ ?_
  repeat' first|with_reducible intro _|simp only[hat.lt,hat.w,Int.toNat_natCast,Y1,Y2,Y3,Y4]|(with_reducible first|refine X1 ?_ ?_|refine X2 ?_ ?_|refine X3 ?_ ?_|refine X4 ?_ ?_|refine X5 ?_ ?_|refine X6 ?_ ?_|refine X7 ?_ ?_|refine X8 ?_ ?_|refine X9 ?_ ?_)|refine⟨_,_,_,rfl,?_⟩|refine⟨_,rfl,?_⟩|((with_reducible refine And.intro ?_ ?_);·first|omega|trivial|(show _=_;rfl)|((with_reducible refine And.intro ?_ ?_)<;>first|omega|trivial|(show _=_;rfl)))|refine (ih x hat.m _ hat.r (by omega)) _ _ ?_|fail
  ·refine Qb (hQ' _ (by omega)) ?_;simp [zAz, *]
  ·exact ih2 _ (by omega) fun N'' h=>Qb (hQ' N'' (by omega)) (by simp [zAz, *])
theorem wt {n a b:Int}:inB n a b=true↔a≤n∧n≤b:=by simp [inB]
def zMT (k n:Int):Int:=if k=10 then n+1 else if k=11 then n - 1 else n
mutual
def Tm.lev:Tm→Int→Bool
 | .mk k _ _ _ _ _ l,n=>inB n 0 2&&zNZ l (zMT k n)
def zNZ:List Tm→Int→Bool
 | [],_=>true
 | t::ts,n=>t.lev n&&zNZ ts n
end
def zQp (t:Tm) (n:Int):Bool:=t.ok&&t.lev n
def Tg.ok (g:Tg):Bool:=rd g.nm&&(g.ty.valid&&inB g.lv 0 2)
def tg0:Tg:=⟨bytes [],tZero,0⟩
def zNv (g:List Tg) (s:ByteArray):Nat→Int
 | 0 => -1
 | k+1=>if (g.getD k tg0).nm=s then k else zNv g s k
def zJY (g:List Tg) (s:ByteArray):Int:=zNv g s g.length
theorem Ty.is_cells {t:Ty} {d:D} (h:t.Is d):t.Is (.ag [D.cell d 0,D.cell d 1]):=by
 cases t with
 | mk k l=>obtain ⟨a,es,c,rfl,_,_⟩:=Ty.is_mk.1 h;exact h
def zOy (g:List Tg) (n:Int) (x:Tg) (i:Nat):Bool:=x.ty.base&&(decide (x.lv≤n)&&decide (zJY g x.nm=(i:Int)))
def zLv (g:List Tg) (n:Int):List Tg→Nat→List Tg
 | [],_=>[]
 | x::xs,i=>if zOy g n x i then x::zLv g n xs (i+1) else zLv g n xs (i+1)
def zQm (g:List Tg) (n:Int):List Tg:=zLv g n g 0
/-- the kind of what an operation works on -/
def zQr (s:ByteArray):Int:=if s=bytes [38] then 2 else if s=bytes [124] then 2 else if s=bytes [33] then 2 else 1
def zQJ (s:ByteArray):Ty:=if s=bytes [43] then zPy else if s=bytes [45] then zPy else if s=bytes [42] then zPy else zP3
def zQT (w:Int):List Ty→Bool
 | []=>true
 | t::ts=>decide (t.k=w)&&zQT w ts
def zQw (s:ByteArray) (ts:List Ty):Option Ty:=if zQT (zQr s) ts then some (zQJ s) else none
def vld (o:Option Ty):Option Ty:=match o with
 | some t=>if t.valid then some t else none
 | none=>none
def zQu (g:List Tg) (s:ByteArray) (n:Int):Option Ty:=
 if zJY g s<0 then none else if (g.getD (zJY g s).toNat tg0).lv=n then some (g.getD (zJY g s).toNat tg0).ty else none
/-- what typing may count on -/
structure Pre (g:List Tg) (e:Tm) (n:Int):Prop where
 ok:e.ok=true
 lev:e.lev n=true
 len:g.length+2*e.cnt≤1073741824
 ty:∀ x∈g,x.ty.cnt≤64
/-- the facts of a well-formed node -/
structure Node (k:Int) (nm ot:ByteArray) (n:Int) (ty re:Ty) (l:List Tm):Prop where
 f:yK k nm ot n ty re=true
 ar:(l.length:Int)=zGz k nm
 sub:∀ x∈l,x.ok=true
theorem zLb:∀ {l:List Tm} {x:Tm},zAz l=true→x∈l→x.ok=true
 | t::ts,x,h,hx=>by
   simp only [zAz,Bool.and_eq_true] at h
   rcases List.mem_cons.1 hx with rfl | hx
   ·exact h.1
   ·exact zLb h.2 hx
theorem Ty.cnt_pos (t:Ty):1≤t.cnt:=by cases t;simp only [Ty.cnt];omega
theorem Pre.lv {g:List Tg} {e:Tm} {n:Int} (h:Pre g e n):0≤n∧n≤2:=by
 have:=h.lev
 cases e
 simp only [Tm.lev,Bool.and_eq_true] at this
 exact wt.1 this.1
theorem zLo:tZero.Is (.ag [.lit (.int .i64 0),.sl none 2 [] 0]):=zG4 0
end Go.Proofs.YtnpjpplbkoammaaGreatDoor
