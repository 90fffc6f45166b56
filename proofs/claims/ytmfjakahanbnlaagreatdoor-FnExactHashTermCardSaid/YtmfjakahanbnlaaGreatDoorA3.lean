/- Terms and typings as plain data; well-formed terms and contexts: the reference's functions. -/
import Derived.Test.YtmfjakahanbnlaaGreatDoorA2
set_option linter.unusedVariables false
set_option linter.unusedSimpArgs false
namespace Go.Proofs.YtmfjakahanbnlaaGreatDoor
open Go Go.Proofs Go.Proofs.Tryz Go.IntWalk
inductive Tm where
 | mk (k:Int) (nm ot:ByteArray) (n:Int) (ty re:Ty) (l:List Tm)
def Tm.as:Tm->List Tm
 | .mk _ _ _ _ _ _ l=>l
/-- the cells of a term ahead of its parts -/
structure Tm.Hd (nm ot:ByteArray) (ty re:Ty) (t0 t1 r0 r1:D):Prop where
 nm:nm.size<=4611686018427387904
 ot:ot.size<=4611686018427387904
 ty:ty.Is (.ag [t0,t1])
 re:re.Is (.ag [r0,r1])
mutual
def Tm.Is:Tm->D->Prop
 | .mk k nm ot n ty re l,d=>∃ t0 t1 r0 r1 a es c,d=.ag [.lit (.int .i64 k),.lit (.string nm),.lit (.string ot),.lit (.int .i64 n),t0,t1,r0,r1,.sl a 9 es c]/\Tm.Hd nm ot ty re t0 t1 r0 r1/\es.length<=4611686018427387904/\zG0 l es
def zG0:List Tm->List D->Prop
 | [],es=>es=[]
 | t::ts,es=>∃ d ds,es=d::ds/\t.Is d/\zG0 ts ds
end
theorem zA8:∀ {l:List Tm} {es:List D},zG0 l es↔All2 Tm.Is l es
 | [],es=>by simp only [zG0,All2]
 | t::ts,es=>by
   simp only [zG0,All2]
   exact ⟨fun ⟨d,ds,h1,h2,h3⟩=>⟨d,ds,h1,h2,zA8.1 h3⟩,fun ⟨d,ds,h1,h2,h3⟩=>⟨d,ds,h1,h2,zA8.2 h3⟩⟩
theorem Tm.is_mk {k:Int} {nm ot:ByteArray} {n:Int} {ty re:Ty} {l:List Tm} {d:D}:(Tm.mk k nm ot n ty re l).Is d ↔
  ∃ t0 t1 r0 r1 a es c,d=.ag [.lit (.int .i64 k),.lit (.string nm),.lit (.string ot),.lit (.int .i64 n),t0,t1,r0,r1,.sl a 9 es c]/\Tm.Hd nm ot ty re t0 t1 r0 r1/\es.length<=4611686018427387904/\All2 Tm.Is l es:=by
 simp only [Tm.Is,zA8]
theorem Tm.ind {P:Tm->Prop} (h:∀ k nm ot n ty re l,(∀ t∈l,P t)->P (.mk k nm ot n ty re l)):∀ t,P t:=fun t=>
 Tm.rec (motive_1:=P) (motive_2:=fun l=>∀ t∈l,P t) (fun k nm ot n ty re l ih=>h k nm ot n ty re l ih) (by simp) (fun t l h1 h2 u hu=>by
  rcases oI.1 hu with rfl | hu
  ·exact h1
  ·exact h2 u hu) t
mutual
def Tm.cnt:Tm->Nat
 | .mk _ _ _ _ ty re l=>1+ty.cnt+re.cnt+z8 l
def z8:List Tm->Nat
 | []=>0
 | t::ts=>t.cnt+z8 ts
end
theorem vH:∀ {l:List Tm} {t:Tm},t∈l->t.cnt<=z8 l
 | u::us,t,h=>by
   simp only [z8]
   rcases oI.1 h with rfl | h
   ·omega
   ·have:=vH h;omega
theorem tH:∀ l:List Tm,l.length<=z8 l
 | []=>oF _
 | .mk _ _ _ _ _ _ _::ts=>by simp only [z8,Tm.cnt,oR];have:=tH ts;omega
structure Tg where
 nm:ByteArray
 ty:Ty
 lv:Int
def Tg.Is (g:Tg) (d:D):Prop:=∃ t0 t1,d=.ag [.lit (.string g.nm),t0,t1,.lit (.int .i64 g.lv)]/\g.nm.size<=4611686018427387904/\g.ty.Is (.ag [t0,t1])
theorem Tg.is_mk {nm:ByteArray} {ty:Ty} {lv:Int} {d:D}:(Tg.mk nm ty lv).Is d↔∃ t0 t1,d=.ag [.lit (.string nm),t0,t1,.lit (.int .i64 lv)]/\nm.size<=4611686018427387904/\ty.Is (.ag [t0,t1]):=mS
def zEl (s:ByteArray):Int:=if s=bytes [43] then 2 else if s=bytes [45] then 2 else if s=bytes [42] then 2 else if s=bytes [61] then 2 else if s=bytes [60] then 2 else if s=bytes [38] then 2 else if s=bytes [124] then 2 else if s=bytes [33] then 1 else 0
theorem uz (s:ByteArray):zCJ 170 [.str s] (zEl s):=fun N Q hQ=>by
 refine zAP N s Q ?_
 repeat' first|with_reducible intro _|simp only[Y1,Y2,Y3,Y4]|with_reducible refine X ?_ ?_|refine⟨_,_,_,rfl,?_⟩|refine⟨_,rfl,?_⟩|refine And.intro (by first|omega|trivial|(show _=_;rfl)|(with_reducible constructor)<;>first|omega|trivial|rfl) ?_|fail
 all_goals (refine Qi (hQ _ (by assumption)) ?_;unfold zEl;(repeat' split)<;>first | rfl | contradiction)
def Ty.zero (t:Ty):Bool:=t.k==0&&(t.as.length:Int)==0
theorem sU (t:Ty) (d:D) (hd:t.Is d):tW 168 [.dg 2 d] t.zero:=fun N Q hQ=>by
 cases t with
 | mk k l=>
 obtain ⟨a,es,c,rfl,hlen,hes⟩:=Ty.is_mk.1 hd
 have hl:=hes.len
 refine zBF N _ Q fun _=>?_
 repeat' first|with_reducible intro _|simp only[Y1,Y2,Y3,Y4]|with_reducible refine X ?_ ?_|refine⟨_,_,_,rfl,?_⟩|refine⟨_,rfl,?_⟩|refine And.intro (by first|omega|trivial|(show _=_;rfl)|(with_reducible constructor)<;>first|omega|trivial|rfl) ?_|fail
 all_goals refine Qb (hQ _ (by assumption)) ?_
 all_goals simp [Ty.zero,Ty.k,Ty.as,hl, *]
def tT (k:Int) (nm ot:ByteArray):Bool:=
 if k=4 then decide (zEl nm>0)&&decide (ot=bytes []) else if k=1\/k=6\/k=8 then vf nm&&decide (ot=bytes []) else if k=9 then vf nm&&(vf ot&&!decide (nm=ot)) else decide (nm=bytes [])&&decide (ot=bytes [])
theorem zLB (a b:Int):(a==b)=decide (a=b):=by rw [mG];simp
def qI (k:Int):Bool:=k==6||k==9
def yC (k:Int) (nm ot:ByteArray) (n:Int) (ty re:Ty):Bool:=
 (qI k==ty.valid)&&((qI k||ty.zero)&&(((k==9)==re.valid)&&((k==9||re.zero)&&(inB n 0 (if k=2 then 10006 else if k=3 then 1 else 0)&&tT k nm ot))))
def zCH (k:Int) (nm:ByteArray):Int:=
 if k=1\/k=2\/k=3 then 0 else if k=4 then zEl nm else if k=6\/k=9\/k=10\/k=11\/k=12\/k=13 then 1 else if k=7\/k=8 then 2 else if k=5 then 3 else -1
mutual
def Tm.ok:Tm->Bool
 | .mk k nm ot n ty re l=>sn l&&(yC k nm ot n ty re&&(l.length:Int)==zCH k nm)
def sn:List Tm->Bool
 | []=>true
 | t::ts=>t.ok&&sn ts
end
theorem zAJ {k n:Int} {nm ot:ByteArray} {ty re:Ty} {t0 t1 r0 r1 x:D} (h:Tm.Hd nm ot ty re t0 t1 r0 r1):tW 169 [.dg 9 (.ag [.lit (.int .i64 k),.lit (.string nm),.lit (.string ot),.lit (.int .i64 n),t0,t1,r0,r1,x])] (tT k nm ot):=fun N Q hQ=>by
 refine zAL N _ Q fun _=>?_
 repeat' first|with_reducible intro _|simp only[Y1,Y2,Y3,Y4]|with_reducible refine X ?_ ?_|refine⟨_,_,_,rfl,?_⟩|refine⟨_,rfl,?_⟩|refine And.intro (by first|omega|trivial|(show _=_;rfl)|(with_reducible constructor)<;>first|omega|trivial|rfl) ?_|refine (uz _) _ _ ?_|refine (sK _ h.nm) _ _ ?_|refine (sK _ h.ot) _ _ ?_|fail
 all_goals (refine Qb (hQ _ (by omega)) ?_;simp [tT,wc, *])
theorem qm {k n:Int} {nm ot:ByteArray} {ty re:Ty} {t0 t1 r0 r1 x:D} (h:Tm.Hd nm ot ty re t0 t1 r0 r1) (hc:ty.cnt<=1073741824) (hc2:re.cnt<=1073741824) :
  tW 106 [.dg 9 (.ag [.lit (.int .i64 k),.lit (.string nm),.lit (.string ot),.lit (.int .i64 n),t0,t1,r0,r1,x])] (yC k nm ot n ty re):=fun N Q hQ=>by
 refine q9 N _ Q fun _=>?_
 repeat' first|with_reducible intro _|simp only[Y1,Y2,Y3,Y4]|with_reducible refine X ?_ ?_|refine⟨_,_,_,rfl,?_⟩|refine⟨_,rfl,?_⟩|refine And.intro (by first|omega|trivial|(show _=_;rfl)|(with_reducible constructor)<;>first|omega|trivial|rfl) ?_|refine (we _ _ h.ty hc) _ _ ?_|refine (we _ _ h.re hc2) _ _ ?_|refine (sU _ _ h.ty) _ _ ?_|refine (sU _ _ h.re) _ _ ?_|refine (qv _ _ _) _ _ ?_|refine (zAJ h) _ _ ?_|fail
 all_goals first | (exfalso;omega) | (refine Qb (hQ _ (by omega)) ?_;simp [yC,qI, *];done) | (refine Qb (hQ _ (by omega)) ?_;simp_all [yC,qI];done) | (refine Qb (hQ _ (by omega)) ?_;simp_all only [yC,qI,zLB];simp_all;done)
theorem zAW {k n:Int} {nm ot:ByteArray} {t0 t1 r0 r1 x:D}:zCJ 107 [.dg 9 (.ag [.lit (.int .i64 k),.lit (.string nm),.lit (.string ot),.lit (.int .i64 n),t0,t1,r0,r1,x])] (zCH k nm):=fun N Q hQ=>by
 refine zAR N _ Q fun _=>?_
 repeat' first|with_reducible intro _|simp only[Y1,Y2,Y3,Y4]|with_reducible refine X ?_ ?_|refine⟨_,_,_,rfl,?_⟩|refine⟨_,rfl,?_⟩|refine And.intro (by first|omega|trivial|(show _=_;rfl)|(with_reducible constructor)<;>first|omega|trivial|rfl) ?_|refine (uz _) _ _ ?_|fail
 all_goals (refine Qi (hQ _ (by omega)) ?_;simp [zCH, *])
theorem zBV:∀ (t:Tm) (d:D),t.Is d->t.cnt<=1073741824->tW 46 [.dg 9 d] t.ok:=by
 refine Tm.ind fun k nm ot n ty re l ih d hd hc N Q hQ=>?_
 obtain ⟨t0,t1,r0,r1,a,es,c,rfl,hh,hlen,hes⟩:=Tm.is_mk.1 hd
 have hl:=hes.len
 simp only [Tm.cnt] at hc
 refine zB3 N _ Q fun _=>?_
 have key:=up hes hlen (fun i xs=>∀ (N':Nat),N<=N'->(∀ N'',N'<=N''->Q (sn xs&&(yC k nm ot n ty re&&(l.length:Int)==zCH k nm)) N'')->xE Q N i (.ag [.lit (.int .i64 k),.lit (.string nm),.lit (.string ot),.lit (.int .i64 n),t0,t1,r0,r1,.sl a 9 es c]) N') ?_ ?_
 ·exact key N (oF _) hQ
 ·intro i hlt _ N' hN' hQ'
  refine uN _ _ _ _ _ ?_
  repeat' first|with_reducible intro _|simp only[hlt,Y1,Y2,Y3,Y4]|with_reducible refine X ?_ ?_|refine⟨_,_,_,rfl,?_⟩|refine⟨_,rfl,?_⟩|refine And.intro (by first|omega|trivial|(show _=_;rfl)|(with_reducible constructor)<;>first|omega|trivial|rfl) ?_|refine (qm hh (by omega) (by omega)) _ _ ?_|refine zAW _ _ ?_|fail
  all_goals (refine Qb (hQ' _ (by omega)) ?_;simp [sn, *])
 ·intro i x xs hat _ ih2 N' hN' hQ'
  have hb:=hat.b
  have hxc:=vH hat.m
  refine uN _ _ _ _ _ ?_
  repeat' first|with_reducible intro _|simp only[hat.lt,hat.w,oJ,Y1,Y2,Y3,Y4]|with_reducible refine X ?_ ?_|refine⟨_,_,_,rfl,?_⟩|refine⟨_,rfl,?_⟩|refine And.intro (by first|omega|trivial|(show _=_;rfl)|(with_reducible constructor)<;>first|omega|trivial|rfl) ?_|refine (ih x hat.m _ hat.r (by omega)) _ _ ?_|fail
  ·refine Qb (hQ' _ (by omega)) ?_;simp [sn, *]
  ·exact ih2 _ (by omega) fun N'' h=>Qb (hQ' N'' (by omega)) (by simp [sn, *])
theorem tJ {n a b:Int}:inB n a b=true↔a<=n/\n<=b:=by simp [inB]
def zLA (k n:Int):Int:=if k=10 then n+1 else if k=11 then n - 1 else n
mutual
def Tm.lev:Tm->Int->Bool
 | .mk k _ _ _ _ _ l,n=>inB n 0 2&&zIq l (zLA k n)
def zIq:List Tm->Int->Bool
 | [],_=>true
 | t::ts,n=>t.lev n&&zIq ts n
end
def Tg.ok (g:Tg):Bool:=vf g.nm&&(g.ty.valid&&inB g.lv 0 2)
theorem Ty.is_cells {t:Ty} {d:D} (h:t.Is d):t.Is (.ag [D.cell d 0,D.cell d 1]):=by
 cases t with
 | mk k l=>obtain ⟨a,es,c,rfl,_,_⟩:=Ty.is_mk.1 h;exact h
theorem Ty.valid_cnt {t:Ty} (h:t.valid=true):t.cnt<=30:=by
 simp only [Ty.valid,oL,na] at h
 exact h.1.1
/-- what typing may count on -/
structure Pre (g:List Tg) (e:Tm) (n:Int):Prop where
 ok:e.ok=true
 lev:e.lev n=true
 len:g.length+2*e.cnt<=1073741824
 ty:∀ x∈g,x.ty.cnt<=64
/-- the facts of a well-formed node -/
structure Node (k:Int) (nm ot:ByteArray) (n:Int) (ty re:Ty) (l:List Tm):Prop where
 f:yC k nm ot n ty re=true
 ar:(l.length:Int)=zCH k nm
 sub:∀ x∈l,x.ok=true
theorem zDK:∀ {l:List Tm} {x:Tm},sn l=true->x∈l->x.ok=true
 | t::ts,x,h,hx=>by
   simp only [sn,oL] at h
   rcases oI.1 hx with rfl | hx
   ·exact h.1
   ·exact zDK h.2 hx
theorem zJo {k:Int} {nm ot:ByteArray} {n:Int} {ty re:Ty} {l:List Tm} (h:(Tm.mk k nm ot n ty re l).ok=true):Node k nm ot n ty re l:=by
 simp only [Tm.ok,oL] at h
 exact ⟨h.2.1,by simpa using h.2.2,fun x hx=>zDK h.1 hx⟩
theorem Node.vt {k n:Int} {nm ot:ByteArray} {ty re:Ty} {l:List Tm} (h:Node k nm ot n ty re l) (hk:k=6\/k=9):ty.valid=true:=by
 have:=h.f
 have e:qI k=true:=by rcases hk with rfl | rfl<;>rfl
 simp only [yC,oL,e] at this
 simpa using this.1
theorem Node.vr {k n:Int} {nm ot:ByteArray} {ty re:Ty} {l:List Tm} (h:Node k nm ot n ty re l) (hk:k=9):re.valid=true:=by
 have:=h.f
 subst hk
 simp only [yC,oL] at this
 simpa using this.2.2.1
theorem zHD {k:Int} {nm:ByteArray} (h:0<=zCH k nm):k=1\/k=2\/k=3\/k=4\/k=5\/k=6\/k=7\/k=8\/k=9\/k=10\/k=11\/k=12\/k=13:=by
 unfold zCH at h
 (repeat' split at h)<;>omega
theorem Ty.cnt_pos (t:Ty):1<=t.cnt:=by cases t;simp only [Ty.cnt];omega
theorem Pre.lv {g:List Tg} {e:Tm} {n:Int} (h:Pre g e n):0<=n/\n<=2:=by
 have:=h.lev
 cases e
 simp only [Tm.lev,oL] at this
 exact tJ.1 this.1
theorem zF9:tZero.Is (.ag [.lit (.int .i64 0),.sl none 2 [] 0]):=zGi 0
end Go.Proofs.YtmfjakahanbnlaaGreatDoor
