/- Terms and typings as plain data; well-formed terms and contexts: the reference's functions. -/
import Derived.Test.YtmfjakahanbnlaaGreatDoorA2
set_option linter.unusedVariables false
set_option linter.unusedSimpArgs false
namespace Go.Proofs.YtmfjakahanbnlaaGreatDoor
open Go Go.Proofs Go.Proofs.Tryz Go.IntWalk
inductive Tm where
 | mk (k:Int) (nm ot:ByteArray) (n:Int) (ty re:Ty) (l:List Tm)
def Tm.as:Tm→List Tm
 | .mk _ _ _ _ _ _ l=>l
/-- the cells of a term ahead of its parts -/
structure Tm.Hd (nm ot:ByteArray) (ty re:Ty) (t0 t1 r0 r1:D):Prop where
 nm:nm.size≤4611686018427387904
 ot:ot.size≤4611686018427387904
 ty:ty.Is (.ag [t0,t1])
 re:re.Is (.ag [r0,r1])
mutual
def Tm.Is:Tm→D→Prop
 | .mk k nm ot n ty re l,d=>∃ t0 t1 r0 r1 a es c,d=.ag [.lit (.int .i64 k),.lit (.string nm),.lit (.string ot),.lit (.int .i64 n),t0,t1,r0,r1,.sl a 9 es c]∧Tm.Hd nm ot ty re t0 t1 r0 r1∧es.length≤4611686018427387904∧zGD l es
def zGD:List Tm→List D→Prop
 | [],es=>es=[]
 | t::ts,es=>∃ d ds,es=d::ds∧t.Is d∧zGD ts ds
end
theorem zA5:∀ {l:List Tm} {es:List D},zGD l es↔All2 Tm.Is l es
 | [],es=>by simp only [zGD,All2]
 | t::ts,es=>by
   simp only [zGD,All2]
   exact ⟨fun ⟨d,ds,h1,h2,h3⟩=>⟨d,ds,h1,h2,zA5.1 h3⟩,fun ⟨d,ds,h1,h2,h3⟩=>⟨d,ds,h1,h2,zA5.2 h3⟩⟩
theorem Tm.is_mk {k:Int} {nm ot:ByteArray} {n:Int} {ty re:Ty} {l:List Tm} {d:D}:(Tm.mk k nm ot n ty re l).Is d ↔
  ∃ t0 t1 r0 r1 a es c,d=.ag [.lit (.int .i64 k),.lit (.string nm),.lit (.string ot),.lit (.int .i64 n),t0,t1,r0,r1,.sl a 9 es c]∧Tm.Hd nm ot ty re t0 t1 r0 r1∧es.length≤4611686018427387904∧All2 Tm.Is l es:=by
 simp only [Tm.Is,zA5]
theorem Tm.ind {P:Tm→Prop} (h:∀ k nm ot n ty re l,(∀ t∈l,P t)→P (.mk k nm ot n ty re l)):∀ t,P t:=fun t=>
 Tm.rec (motive_1:=P) (motive_2:=fun l=>∀ t∈l,P t) (fun k nm ot n ty re l ih=>h k nm ot n ty re l ih) (by simp) (fun t l h1 h2 u hu=>by
  rcases List.mem_cons.1 hu with rfl | hu
  ·exact h1
  ·exact h2 u hu) t
mutual
def Tm.cnt:Tm→Nat
 | .mk _ _ _ _ ty re l=>1+ty.cnt+re.cnt+yT l
def yT:List Tm→Nat
 | []=>0
 | t::ts=>t.cnt+yT ts
end
theorem w9:∀ {l:List Tm} {t:Tm},t∈l→t.cnt≤yT l
 | u::us,t,h=>by
   simp only [yT]
   rcases List.mem_cons.1 h with rfl | h
   ·omega
   ·have:=w9 h;omega
theorem tC:∀ l:List Tm,l.length≤yT l
 | []=>Nat.le_refl _
 | .mk _ _ _ _ _ _ _::ts=>by simp only [yT,Tm.cnt,List.length_cons];have:=tC ts;omega
structure Tg where
 nm:ByteArray
 ty:Ty
 lv:Int
def Tg.Is (g:Tg) (d:D):Prop:=∃ t0 t1,d=.ag [.lit (.string g.nm),t0,t1,.lit (.int .i64 g.lv)]∧g.nm.size≤4611686018427387904∧g.ty.Is (.ag [t0,t1])
theorem Tg.is_mk {nm:ByteArray} {ty:Ty} {lv:Int} {d:D}:(Tg.mk nm ty lv).Is d↔∃ t0 t1,d=.ag [.lit (.string nm),t0,t1,.lit (.int .i64 lv)]∧nm.size≤4611686018427387904∧ty.Is (.ag [t0,t1]):=Iff.rfl
def zHl (s:ByteArray):Int:=if s=bytes [43] then 2 else if s=bytes [45] then 2 else if s=bytes [42] then 2 else if s=bytes [61] then 2 else if s=bytes [60] then 2 else if s=bytes [38] then 2 else if s=bytes [124] then 2 else if s=bytes [33] then 1 else 0
theorem uw (s:ByteArray):zDY 170 [.str s] (zHl s):=fun N Q hQ=>by
 refine pX N s Q ?_
 repeat' first|with_reducible intro _|simp only[Y1,Y2,Y3,Y4]|with_reducible refine X ?_ ?_|refine⟨_,_,_,rfl,?_⟩|refine⟨_,rfl,?_⟩|refine And.intro (by first|omega|trivial|(show _=_;rfl)|(with_reducible constructor)<;>first|omega|trivial|rfl) ?_|fail
 all_goals (refine Qi (hQ _ (by assumption)) ?_;unfold zHl;(repeat' split)<;>first | rfl | contradiction)
def Ty.zero (t:Ty):Bool:=t.k==0&&(t.as.length:Int)==0
theorem tc (t:Ty) (d:D) (hd:t.Is d):vb 168 [.dg 2 d] t.zero:=fun N Q hQ=>by
 cases t with
 | mk k l=>
 obtain ⟨a,es,c,rfl,hlen,hes⟩:=Ty.is_mk.1 hd
 have hl:=hes.len
 refine zAx N _ Q fun _=>?_
 repeat' first|with_reducible intro _|simp only[Y1,Y2,Y3,Y4]|with_reducible refine X ?_ ?_|refine⟨_,_,_,rfl,?_⟩|refine⟨_,rfl,?_⟩|refine And.intro (by first|omega|trivial|(show _=_;rfl)|(with_reducible constructor)<;>first|omega|trivial|rfl) ?_|fail
 all_goals refine Qb (hQ _ (by assumption)) ?_
 all_goals simp [Ty.zero,Ty.k,Ty.as,hl, *]
def zBM (k:Int) (nm ot:ByteArray):Bool:=
 if k=4 then decide (zHl nm>0)&&decide (ot=bytes []) else if k=1∨k=6∨k=8 then uv nm&&decide (ot=bytes []) else if k=9 then uv nm&&(uv ot&&!decide (nm=ot)) else decide (nm=bytes [])&&decide (ot=bytes [])
theorem zJz (a b:Int):(a==b)=decide (a=b):=by rw [Bool.eq_iff_iff];simp
def px (k:Int):Bool:=k==6||k==9
def y6 (k:Int) (nm ot:ByteArray) (n:Int) (ty re:Ty):Bool:=
 (px k==ty.valid)&&((px k||ty.zero)&&(((k==9)==re.valid)&&((k==9||re.zero)&&(inB n 0 (if k=2 then 10006 else if k=3 then 1 else 0)&&zBM k nm ot))))
def zDt (k:Int) (nm:ByteArray):Int:=
 if k=1∨k=2∨k=3 then 0 else if k=4 then zHl nm else if k=6∨k=9∨k=10∨k=11∨k=12∨k=13 then 1 else if k=7∨k=8 then 2 else if k=5 then 3 else -1
mutual
def Tm.ok:Tm→Bool
 | .mk k nm ot n ty re l=>pA l&&(y6 k nm ot n ty re&&(l.length:Int)==zDt k nm)
def pA:List Tm→Bool
 | []=>true
 | t::ts=>t.ok&&pA ts
end
theorem pQ {k n:Int} {nm ot:ByteArray} {ty re:Ty} {t0 t1 r0 r1 x:D} (h:Tm.Hd nm ot ty re t0 t1 r0 r1):vb 169 [.dg 9 (.ag [.lit (.int .i64 k),.lit (.string nm),.lit (.string ot),.lit (.int .i64 n),t0,t1,r0,r1,x])] (zBM k nm ot):=fun N Q hQ=>by
 refine pO N _ Q fun _=>?_
 repeat' first|with_reducible intro _|simp only[Y1,Y2,Y3,Y4]|with_reducible refine X ?_ ?_|refine⟨_,_,_,rfl,?_⟩|refine⟨_,rfl,?_⟩|refine And.intro (by first|omega|trivial|(show _=_;rfl)|(with_reducible constructor)<;>first|omega|trivial|rfl) ?_|refine (uw _) _ _ ?_|refine (sD _ h.nm) _ _ ?_|refine (sD _ h.ot) _ _ ?_|fail
 all_goals (refine Qb (hQ _ (by omega)) ?_;simp [zBM,wR, *])
theorem qU {k n:Int} {nm ot:ByteArray} {ty re:Ty} {t0 t1 r0 r1 x:D} (h:Tm.Hd nm ot ty re t0 t1 r0 r1) (hc:ty.cnt≤1073741824) (hc2:re.cnt≤1073741824) :
  vb 106 [.dg 9 (.ag [.lit (.int .i64 k),.lit (.string nm),.lit (.string ot),.lit (.int .i64 n),t0,t1,r0,r1,x])] (y6 k nm ot n ty re):=fun N Q hQ=>by
 refine qw N _ Q fun _=>?_
 repeat' first|with_reducible intro _|simp only[Y1,Y2,Y3,Y4]|with_reducible refine X ?_ ?_|refine⟨_,_,_,rfl,?_⟩|refine⟨_,rfl,?_⟩|refine And.intro (by first|omega|trivial|(show _=_;rfl)|(with_reducible constructor)<;>first|omega|trivial|rfl) ?_|refine (wT _ _ h.ty hc) _ _ ?_|refine (wT _ _ h.re hc2) _ _ ?_|refine (tc _ _ h.ty) _ _ ?_|refine (tc _ _ h.re) _ _ ?_|refine (rx _ _ _) _ _ ?_|refine (pQ h) _ _ ?_|fail
 all_goals first | (exfalso;omega) | (refine Qb (hQ _ (by omega)) ?_;simp [y6,px, *];done) | (refine Qb (hQ _ (by omega)) ?_;simp_all [y6,px];done) | (refine Qb (hQ _ (by omega)) ?_;simp_all only [y6,px,zJz];simp_all;done)
theorem pL {k n:Int} {nm ot:ByteArray} {t0 t1 r0 r1 x:D}:zDY 107 [.dg 9 (.ag [.lit (.int .i64 k),.lit (.string nm),.lit (.string ot),.lit (.int .i64 n),t0,t1,r0,r1,x])] (zDt k nm):=fun N Q hQ=>by
 refine pa N _ Q fun _=>?_
 repeat' first|with_reducible intro _|simp only[Y1,Y2,Y3,Y4]|with_reducible refine X ?_ ?_|refine⟨_,_,_,rfl,?_⟩|refine⟨_,rfl,?_⟩|refine And.intro (by first|omega|trivial|(show _=_;rfl)|(with_reducible constructor)<;>first|omega|trivial|rfl) ?_|refine (uw _) _ _ ?_|fail
 all_goals (refine Qi (hQ _ (by omega)) ?_;simp [zDt, *])
theorem tM:∀ (t:Tm) (d:D),t.Is d→t.cnt≤1073741824→vb 46 [.dg 9 d] t.ok:=by
 refine Tm.ind fun k nm ot n ty re l ih d hd hc N Q hQ=>?_
 obtain ⟨t0,t1,r0,r1,a,es,c,rfl,hh,hlen,hes⟩:=Tm.is_mk.1 hd
 have hl:=hes.len
 simp only [Tm.cnt] at hc
 refine zAn N _ Q fun _=>?_
 have key:=up hes hlen (fun i xs=>∀ (N':Nat),N≤N'→(∀ N'',N'≤N''→Q (pA xs&&(y6 k nm ot n ty re&&(l.length:Int)==zDt k nm)) N'')→xA Q N i (.ag [.lit (.int .i64 k),.lit (.string nm),.lit (.string ot),.lit (.int .i64 n),t0,t1,r0,r1,.sl a 9 es c]) N') ?_ ?_
 ·exact key N (Nat.le_refl _) hQ
 ·intro i hlt _ N' hN' hQ'
  refine vq _ _ _ _ _ ?_
  repeat' first|with_reducible intro _|simp only[hlt,Y1,Y2,Y3,Y4]|with_reducible refine X ?_ ?_|refine⟨_,_,_,rfl,?_⟩|refine⟨_,rfl,?_⟩|refine And.intro (by first|omega|trivial|(show _=_;rfl)|(with_reducible constructor)<;>first|omega|trivial|rfl) ?_|refine (qU hh (by omega) (by omega)) _ _ ?_|refine pL _ _ ?_|fail
  all_goals (refine Qb (hQ' _ (by omega)) ?_;simp [pA, *])
 ·intro i x xs hat _ ih2 N' hN' hQ'
  have hb:=hat.b
  have hxc:=w9 hat.m
  refine vq _ _ _ _ _ ?_
  repeat' first|with_reducible intro _|simp only[hat.lt,hat.w,Int.toNat_natCast,Y1,Y2,Y3,Y4]|with_reducible refine X ?_ ?_|refine⟨_,_,_,rfl,?_⟩|refine⟨_,rfl,?_⟩|refine And.intro (by first|omega|trivial|(show _=_;rfl)|(with_reducible constructor)<;>first|omega|trivial|rfl) ?_|refine (ih x hat.m _ hat.r (by omega)) _ _ ?_|fail
  ·refine Qb (hQ' _ (by omega)) ?_;simp [pA, *]
  ·exact ih2 _ (by omega) fun N'' h=>Qb (hQ' N'' (by omega)) (by simp [pA, *])
theorem qf {n a b:Int}:inB n a b=true↔a≤n∧n≤b:=by simp [inB]
def zJ3 (k n:Int):Int:=if k=10 then n+1 else if k=11 then n - 1 else n
mutual
def Tm.lev:Tm→Int→Bool
 | .mk k _ _ _ _ _ l,n=>inB n 0 2&&zHe l (zJ3 k n)
def zHe:List Tm→Int→Bool
 | [],_=>true
 | t::ts,n=>t.lev n&&zHe ts n
end
def Tg.ok (g:Tg):Bool:=uv g.nm&&(g.ty.valid&&inB g.lv 0 2)
theorem Ty.is_cells {t:Ty} {d:D} (h:t.Is d):t.Is (.ag [D.cell d 0,D.cell d 1]):=by
 cases t with
 | mk k l=>obtain ⟨a,es,c,rfl,_,_⟩:=Ty.is_mk.1 h;exact h
/-- what typing may count on -/
structure Pre (g:List Tg) (e:Tm) (n:Int):Prop where
 ok:e.ok=true
 lev:e.lev n=true
 len:g.length+2*e.cnt≤1073741824
 ty:∀ x∈g,x.ty.cnt≤64
theorem Ty.cnt_pos (t:Ty):1≤t.cnt:=by cases t;simp only [Ty.cnt];omega
theorem Pre.lv {g:List Tg} {e:Tm} {n:Int} (h:Pre g e n):0≤n∧n≤2:=by
 have:=h.lev
 cases e
 simp only [Tm.lev,Bool.and_eq_true] at this
 exact qf.1 this.1
theorem zFu:tZero.Is (.ag [.lit (.int .i64 0),.sl none 2 [] 0]):=zFW 0
end Go.Proofs.YtmfjakahanbnlaaGreatDoor
