/- Terms and typings as plain data; well-formed terms and contexts: the reference's functions. -/
import Derived.Test.YtlahkdflngobiaaGreatDoorA2
set_option linter.unusedVariables false
set_option linter.unusedSimpArgs false
namespace Go.Proofs.YtlahkdflngobiaaGreatDoor
open Go Go.Proofs Go.Proofs.Tryz Go.IntWalk
inductive Tm where
 | mk (k:Int) (nm ot:ByteArray) (n:Int) (ty re:Ty) (l:List Tm)
def Tm.as:Tm->List Tm
 | .mk _ _ _ _ _ _ l=>l
/-- the cells of a term ahead of its parts -/
structure Tm.Hd (nm ot:ByteArray) (ty re:Ty) (t0 t1 r0 r1:D):Prop where
 nm:nm.size<=4611686018427387904
 ot:ot.size<=4611686018427387904
 ty:ty.Is (.ag [t0,t1])
 re:re.Is (.ag [r0,r1])
mutual
def Tm.Is:Tm->D->Prop
 | .mk k nm ot n ty re l,d=>∃ t0 t1 r0 r1 a es c,d=.ag [.j k,.t nm,.t ot,.j n,t0,t1,r0,r1,.sl a 9 es c]/\Tm.Hd nm ot ty re t0 t1 r0 r1/\es.length<=4611686018427387904/\zPd l es
def zPd:List Tm->List D->Prop
 | [],es=>es=[]
 | t::I,es=>∃ d ds,es=d::ds/\t.Is d/\zPd I ds
end
theorem zJT:∀ {l:List Tm} {es:List D},zPd l es↔All2 Tm.Is l es
 | [],es=>by simp only [zPd,All2]
 | t::ts,es=>by
   simp only [zPd,All2]
   exact ⟨λ⟨d,ds,I,J,O⟩=>⟨d,ds,I,J,zJT.1 O⟩,λ⟨d,ds,I,J,O⟩=>⟨d,ds,I,J,zJT.2 O⟩⟩
theorem Tm.is_mk {k:Int} {nm ot:ByteArray} {n:Int} {ty re:Ty} {l:List Tm} {d:D}:(Tm.mk k nm ot n ty re l).Is d ↔
  ∃ t0 t1 r0 r1 a es c,d=.ag [.j k,.t nm,.t ot,.j n,t0,t1,r0,r1,.sl a 9 es c]/\Tm.Hd nm ot ty re t0 t1 r0 r1/\es.length<=4611686018427387904/\All2 Tm.Is l es:=by
 simp only [Tm.Is,zJT]
theorem Tm.ind {P:Tm->Prop} (h:∀ k nm ot n ty re l,(∀ t∈l,P t)->P (.mk k nm ot n ty re l)):∀ t,P t:=λt=>
 Tm.rec (motive_1:=P) (motive_2:=λl=>∀ t∈l,P t) (λk nm ot n ty re l I=>h k nm ot n ty re l I) (by simp) (λt l J O u hu=>by
  rcases oH.1 hu with rfl | hu
  ·exact J
  ·exact O u hu) t
mutual
def Tm.cnt:Tm->Nat
 | .mk _ _ _ _ ty re l=>1+ty.cnt+re.cnt+za l
def za:List Tm->Nat
 | []=>0
 | t::I=>t.cnt+za I
end
theorem zu:∀ {l:List Tm} {t:Tm},t∈l->t.cnt<=za l
 | u::us,t,h=>by
   simp only [za]
   rcases oH.1 h with rfl | h
   ·omega
   ·have:=zu h;omega
theorem y6:∀ l:List Tm,l.length<=za l
 | []=>oB _
 | .mk _ _ _ _ _ _ _::I=>by simp only [za,Tm.cnt,oJ];have:=y6 I;omega
structure Tg where
 nm:ByteArray
 ty:Ty
 lv:Int
def Tg.Is (g:Tg) (d:D):Prop:=∃ t0 t1,d=.ag [.t g.nm,t0,t1,.j g.lv]/\g.nm.size<=4611686018427387904/\g.ty.Is (.ag [t0,t1])
theorem Tg.is_mk {nm:ByteArray} {ty:Ty} {lv:Int} {d:D}:(Tg.mk nm ty lv).Is d↔∃ t0 t1,d=.ag [.t nm,t0,t1,.j lv]/\nm.size<=4611686018427387904/\ty.Is (.ag [t0,t1]):=mw
def zJx (s:ByteArray):Int:=if s=bytes [43] then 2 else if s=bytes [45] then 2 else if s=bytes [42] then 2 else if s=bytes [61] then 2 else if s=bytes [60] then 2 else if s=bytes [38] then 2 else if s=bytes [124] then 2 else if s=bytes [33] then 1 else 0
theorem zA4 (s:ByteArray):zAO 180 [.str s] (zJx s):=λN Q I=>by
 refine zHE N s Q ?_
 repeat' first|with_reducible intro _|simp only[Y1,Y2,Y3,Y4]|with_reducible refine X ?_ ?_|refine⟨_,_,_,rfl,?_⟩|refine⟨_,rfl,?_⟩|refine And.intro (by first|omega|trivial|(show _=_;rfl)|(with_reducible constructor)<;>first|omega|trivial|rfl) ?_|fail
 all_goals (refine Qi (I _ (by assumption)) ?_;unfold zJx;(repeat' split)<;>first | rfl | contradiction)
def Ty.zero (t:Ty):Bool:=t.k==0&&(t.as.length:Int)==0
theorem zCL (t:Ty) (d:D) (hd:t.Is d):uN 209 [.dg 2 d] t.zero:=λN Q J=>by
 cases t with
 | mk k l=>
 obtain ⟨a,es,c,rfl,hlen,I⟩:=Ty.is_mk.1 hd
 have O:=I.len
 refine zIP N _ Q λ_=>?_
 repeat' first|with_reducible intro _|simp only[Y1,Y2,Y3,Y4]|with_reducible refine X ?_ ?_|refine⟨_,_,_,rfl,?_⟩|refine⟨_,rfl,?_⟩|refine And.intro (by first|omega|trivial|(show _=_;rfl)|(with_reducible constructor)<;>first|omega|trivial|rfl) ?_|fail
 all_goals refine Qb (J _ (by assumption)) ?_
 all_goals simp [Ty.zero,Ty.k,Ty.as,O, *]
def zDd (k:Int) (nm ot:ByteArray):Bool:=
 if k=4 then decide (zJx nm>0)&&decide (ot=bytes []) else if k=1\/k=6\/k=8 then rE nm&&decide (ot=bytes []) else if k=9 then rE nm&&(rE ot&&!decide (nm=ot)) else decide (nm=bytes [])&&decide (ot=bytes [])
theorem zVj (a b:Int):(a==b)=decide (a=b):=by rw [nP];simp
def zGf (k:Int):Bool:=k==6||k==9
def yf (k:Int) (nm ot:ByteArray) (n:Int) (ty re:Ty):Bool:=
 (zGf k==ty.valid)&&((zGf k||ty.zero)&&(((k==9)==re.valid)&&((k==9||re.zero)&&(inB n 0 (if k=2 then 10006 else if k=3 then 1 else 0)&&zDd k nm ot))))
def zGm (k:Int) (nm:ByteArray):Int:=
 if k=1\/k=2\/k=3 then 0 else if k=4 then zJx nm else if k=6\/k=9\/k=10\/k=11\/k=12\/k=13 then 1 else if k=7\/k=8 then 2 else if k=5 then 3 else -1
mutual
def Tm.ok:Tm->Bool
 | .mk k nm ot n ty re l=>zBO l&&(yf k nm ot n ty re&&(l.length:Int)==zGm k nm)
def zBO:List Tm->Bool
 | []=>true
 | t::I=>t.ok&&zBO I
end
theorem zG7 {k n:Int} {nm ot:ByteArray} {ty re:Ty} {t0 t1 r0 r1 x:D} (h:Tm.Hd nm ot ty re t0 t1 r0 r1):uN 210 [.dg 9 (.ag [.j k,.t nm,.t ot,.j n,t0,t1,r0,r1,x])] (zDd k nm ot):=λN Q I=>by
 refine zG8 N _ Q λ_=>?_
 repeat' first|with_reducible intro _|simp only[Y1,Y2,Y3,Y4]|with_reducible refine X ?_ ?_|refine⟨_,_,_,rfl,?_⟩|refine⟨_,rfl,?_⟩|refine And.intro (by first|omega|trivial|(show _=_;rfl)|(with_reducible constructor)<;>first|omega|trivial|rfl) ?_|refine (zA4 _) _ _ ?_|refine (rt _ h.nm) _ _ ?_|refine (rt _ h.ot) _ _ ?_|fail
 all_goals (refine Qb (I _ (by omega)) ?_;simp [zDd,sJ, *])
theorem zFf {k n:Int} {nm ot:ByteArray} {ty re:Ty} {t0 t1 r0 r1 x:D} (h:Tm.Hd nm ot ty re t0 t1 r0 r1) (hc:ty.cnt<=1073741824) (I:re.cnt<=1073741824) :
  uN 182 [.dg 9 (.ag [.j k,.t nm,.t ot,.j n,t0,t1,r0,r1,x])] (yf k nm ot n ty re):=λN Q J=>by
 refine zFr N _ Q λ_=>?_
 repeat' first|with_reducible intro _|simp only[Y1,Y2,Y3,Y4]|with_reducible refine X ?_ ?_|refine⟨_,_,_,rfl,?_⟩|refine⟨_,rfl,?_⟩|refine And.intro (by first|omega|trivial|(show _=_;rfl)|(with_reducible constructor)<;>first|omega|trivial|rfl) ?_|refine (wB _ _ h.ty hc) _ _ ?_|refine (wB _ _ h.re I) _ _ ?_|refine (zCL _ _ h.ty) _ _ ?_|refine (zCL _ _ h.re) _ _ ?_|refine (vF _ _ _) _ _ ?_|refine (zG7 h) _ _ ?_|fail
 all_goals first | (exfalso;omega) | (refine Qb (J _ (by omega)) ?_;simp [yf,zGf, *];done) | (refine Qb (J _ (by omega)) ?_;simp_all [yf,zGf];done) | (refine Qb (J _ (by omega)) ?_;simp_all only [yf,zGf,zVj];simp_all;done)
theorem wo {k n:Int} {nm ot:ByteArray} {t0 t1 r0 r1 x:D}:zAO 147 [.dg 9 (.ag [.j k,.t nm,.t ot,.j n,t0,t1,r0,r1,x])] (zGm k nm):=λN Q I=>by
 refine zHH N _ Q λ_=>?_
 repeat' first|with_reducible intro _|simp only[Y1,Y2,Y3,Y4]|with_reducible refine X ?_ ?_|refine⟨_,_,_,rfl,?_⟩|refine⟨_,rfl,?_⟩|refine And.intro (by first|omega|trivial|(show _=_;rfl)|(with_reducible constructor)<;>first|omega|trivial|rfl) ?_|refine (zA4 _) _ _ ?_|fail
 all_goals (refine Qi (I _ (by omega)) ?_;simp [zGm, *])
theorem zIo:∀ (t:Tm) (d:D),t.Is d->t.cnt<=1073741824->uN 155 [.dg 9 d] t.ok:=by
 refine Tm.ind λk nm ot n ty re l ih d hd hc N Q hQ=>?_
 obtain ⟨t0,t1,r0,r1,a,es,c,rfl,hh,hlen,O⟩:=Tm.is_mk.1 hd
 have hl:=O.len
 simp only [Tm.cnt] at hc
 refine zIW N _ Q λ_=>?_
 have key:=up O hlen (λi xs=>∀ (N':Nat),N<=N'->(∀ N'',N'<=N''->Q (zBO xs&&(yf k nm ot n ty re&&(l.length:Int)==zGm k nm)) N'')->uG Q N i (.ag [.j k,.t nm,.t ot,.j n,t0,t1,r0,r1,.sl a 9 es c]) N') ?_ ?_
 ·exact key N (oB _) hQ
 ·intro i aa _ N' ab J
  refine zAC _ _ _ _ _ ?_
  repeat' first|with_reducible intro _|simp only[aa,Y1,Y2,Y3,Y4]|with_reducible refine X ?_ ?_|refine⟨_,_,_,rfl,?_⟩|refine⟨_,rfl,?_⟩|refine And.intro (by first|omega|trivial|(show _=_;rfl)|(with_reducible constructor)<;>first|omega|trivial|rfl) ?_|refine (zFf hh (by omega) (by omega)) _ _ ?_|refine wo _ _ ?_|fail
  all_goals (refine Qb (J _ (by omega)) ?_;simp [zBO, *])
 ·intro i x xs I _ ac N' ab J
  have hb:=I.b
  have ae:=zu I.m
  refine zAC _ _ _ _ _ ?_
  repeat' first|with_reducible intro _|simp only[I.lt,I.w,oK,Y1,Y2,Y3,Y4]|with_reducible refine X ?_ ?_|refine⟨_,_,_,rfl,?_⟩|refine⟨_,rfl,?_⟩|refine And.intro (by first|omega|trivial|(show _=_;rfl)|(with_reducible constructor)<;>first|omega|trivial|rfl) ?_|refine (ih x I.m _ I.r (by omega)) _ _ ?_|fail
  ·refine Qb (J _ (by omega)) ?_;simp [zBO, *]
  ·exact ac _ (by omega) λN'' h=>Qb (J N'' (by omega)) (by simp [zBO, *])
theorem wl {n a b:Int}:inB n a b=true↔a<=n/\n<=b:=by simp [inB]
def ya (k n:Int):Int:=if k=10 then n+1 else if k=11 then n - 1 else n
mutual
def Tm.lev:Tm->Int->Bool
 | .mk k _ _ _ _ _ l,n=>inB n 0 2&&zAp l (ya k n)
def zAp:List Tm->Int->Bool
 | [],_=>true
 | t::I,n=>t.lev n&&zAp I n
end
theorem zB9 {k n m:Int} {c1 I J O c6 c7 c8:D} (h:0<=m/\m<=2):zAO 212 [.dg 9 (.ag [.j k,c1,I,.j n,J,O,c6,c7,c8]),.j m] (ya k m):=λN Q hQ=>by
 refine zIb N _ m Q λ_=>?_
 rw [i64_in (m+1) (by omega),i64_in (m - 1) (by omega)]
 repeat' first|with_reducible intro _|simp only[Y1,Y2,Y3,Y4]|with_reducible refine X ?_ ?_|refine⟨_,_,_,rfl,?_⟩|refine⟨_,rfl,?_⟩|refine And.intro (by first|omega|trivial|(show _=_;rfl)|(with_reducible constructor)<;>first|omega|trivial|rfl) ?_|fail
 all_goals (refine Qi (hQ _ (by omega)) ?_;simp [ya, *])
def zMq (t:Tm) (n:Int):Bool:=t.ok&&t.lev n
structure Ctx (g:List Tg) (es:List D):Prop where
 len:es.length<=4611686018427387904
 all:All2 Tg.Is g es
def Tg.ok (g:Tg):Bool:=rE g.nm&&(g.ty.valid&&inB g.lv 0 2)
def zKG:List Tg->Bool
 | []=>true
 | g::I=>g.ok&&zKG I
def zIl (g:List Tg):Bool:=zKG g&&decide ((g.length:Int)<=12)
def tg0:Tg:=⟨bytes [],tZero,0⟩
def tX (g:List Tg) (s:ByteArray):Nat->Int
 | 0 => -1
 | k+1=>if (g.getD k tg0).nm=s then k else tX g s k
def yg (g:List Tg) (s:ByteArray):Int:=tX g s g.length
theorem zGU (g:List Tg) (s:ByteArray):∀ n:Nat,tX g s n = -1\/(0<=tX g s n/\tX g s n<n)
 | 0=>.inl rfl
 | n+1=>by
   simp only [tX]
   split
   ·exact .inr (by omega)
   ·rcases zGU g s n with h | h
    ·exact .inl h
    ·exact .inr (by omega)
theorem zVx {α:Type} {R:α->D->Prop} {l:List α} {es:List D} (h:All2 R l es) (hlen:es.length<=4611686018427387904) (P:Int->Prop) (O:P (-1))
  (hs:∀ (i:Nat) x,At R l es i x->decide ((i:Int)≥0)=true->IntKind.i64.wrap ((i:Int) - 1)=(i:Int) - 1->P ((i:Int) - 1)->P i):P ((es.length:Int) - 1):=by
 have hl:=h.len
 have key:∀ n:Nat,n<=l.length->P ((n:Int) - 1):=by
  intro n
  induction n with
  | zero=>intro _;exact O
  | succ n ih=>
    intro I
    have J:l[n]?=some l[n]:=oF I
    have e:((n+1:Nat):Int) - 1=n:=by omega
    rw [e]
    exact hs n _ ⟨mF (by omega),⟨by omega,by omega⟩,by rw [i64_in _ (by omega)];simp,h.get J,nz I,J⟩ (mF (by omega)) (i64_in _ (by omega)) (ih (by omega))
 rw [hl]
 exact key _ (oB _)
theorem zJR {α:Type} {l:List α} {i:Nat} {x d:α} (h:l[i]?=some x):l.getD i d=x:=by simp [oA,h]
theorem tG {g:List Tg} {es:List D} (h:Ctx g es) (a:Option Addr) (c:Nat) (s:ByteArray):zAO 183 [.sv a 4 es c,.str s] (yg g s):=λN Q hQ=>by
 have hl:=h.all.len
 have h1:=h.len
 refine zIt N a es c s Q λ_=>?_
 have key:=zVx h.all h.len (λm=>∀ (N':Nat),N<=N'->(∀ N'',N'<=N''->Q (tX g s (m+1).toNat) N'')->vu Q N a es c s m N') ?_ ?_
 ·rw [i64_in _ (by omega)]
  exact key N (oB _) λN' J=>Qi (hQ N' J) (by rw [yg,<-hl];congr 1;omega)
 ·intro N' J I
  refine pw _ _ _ _ _ _ _ _ ?_
  repeat' first|with_reducible intro _|simp only[Y1,Y2,Y3,Y4]|with_reducible refine X ?_ ?_|refine⟨_,_,_,rfl,?_⟩|refine⟨_,rfl,?_⟩|refine And.intro (by first|omega|trivial|(show _=_;rfl)|(with_reducible constructor)<;>first|omega|trivial|rfl) ?_|fail
  ·omega
  ·exact I _ (by assumption)
 ·intro i x O aa hw ih N' J I
  have hb:=O.b
  obtain ⟨t0,t1,hd,hs,ht⟩:=O.r
  have e1:((i:Int)+1).toNat=i+1:=by omega
  have e2:((i:Int) - 1+1).toNat=i:=by omega
  rw [e1] at I
  simp only [tX,zJR O.g] at I
  rw [e2] at ih
  refine pw _ _ _ _ _ _ _ _ ?_
  repeat' first|with_reducible intro _|simp only[aa,hw,oK,hd,Y1,Y2,Y3,Y4]|with_reducible refine X ?_ ?_|refine⟨_,_,_,rfl,?_⟩|refine⟨_,rfl,?_⟩|refine And.intro (by first|omega|trivial|(show _=_;rfl)|(with_reducible constructor)<;>first|omega|trivial|rfl) ?_|fail
  ·rename_i hx _ _;exact Qi (I _ (by omega)) (by rw [if_pos hx])
  ·rename_i hx;exact ih _ (by omega) λN'' h=>Qi (I N'' (by omega)) (by rw [if_neg hx])
theorem Ty.is_cells {t:Ty} {d:D} (h:t.Is d):t.Is (.ag [D.cell d 0,D.cell d 1]):=by
 cases t with
 | mk k l=>obtain ⟨a,es,c,rfl,_,_⟩:=Ty.is_mk.1 h;exact h
def zFj (g:List Tg) (n:Int) (x:Tg) (i:Nat):Bool:=x.ty.base&&(decide (x.lv<=n)&&decide (yg g x.nm=(i:Int)))
def rV (g:List Tg) (n:Int):List Tg->Nat->List Tg
 | [],_=>[]
 | x::xs,i=>if zFj g n x i then x::rV g n xs (i+1) else rV g n xs (i+1)
def sg (g:List Tg) (n:Int):List Tg:=rV g n g 0
theorem zC8 (g:List Tg) (n:Int):∀ (l:List Tg) (i:Nat),(∀ x∈rV g n l i,x∈l)/\(rV g n l i).length<=l.length
 | [],i=>by simp [rV]
 | x::xs,i=>by
   have h:=zC8 g n xs (i+1)
   simp only [rV]
   split
   ·refine ⟨λy hy=>?_,by simp;exact h.2⟩
    rcases oH.1 hy with rfl | hy
    ·exact nS
    ·exact nj _ (h.1 y hy)
   ·exact ⟨λy hy=>nj _ (h.1 y hy),by have:=h.2;simp;omega⟩
theorem zAr {g:List Tg} {es:List D} (h:Ctx g es) (hg:g.length<=1073741824) (hc:∀ x∈g,x.ty.cnt<=1073741824) (a:Option Addr) (c:Nat) (n:Int) :
  ∀ (N:Nat) (Q:QT [.sl 4]),(∀ a' J c' N',N<=N'->Ctx (sg g n) J->Q a' J c' N')->ACalls prog 211 [.sl 4] [.sv a 4 es c,.j n] N Q:=λN Q hQ=>by
 have hl:=h.all.len
 refine zHF N a es c n Q λ_=>?_
 have key:=up h.all h.len (λi xs=>∀ (r:List D) (m q:Nat) (N':Nat) (done:List Tg),N<=N'->m=r.length->All2 Tg.Is done r->done.length<=i->done++rV g n xs i=sg g n->yY Q N a es c n m q i r q N') ?_ ?_
 ·exact key [] 0 0 N [] (oB _) rfl rfl (oB _) rfl
 ·intro i ab hi r m q N' done ac hm O ae hd
  refine qS _ _ _ _ _ _ _ _ _ _ _ _ ?_
  repeat' first|with_reducible intro _|simp only[ab,Y1,Y2,Y3,Y4]|with_reducible refine X ?_ ?_|refine⟨_,_,_,rfl,?_⟩|refine⟨_,rfl,?_⟩|refine And.intro (by first|omega|trivial|(show _=_;rfl)|(with_reducible constructor)<;>first|omega|trivial|rfl) ?_|fail
  refine hQ _ _ _ _ (by omega) ⟨by have:=O.len;omega,?_⟩
  simp only [rV,o6] at hd
  rwa [<-hd]
 ·intro i x xs I _ aa r m q N' done ac hm O ae hd
  have hb:=I.b
  have ai:=O.len
  obtain ⟨t0,t1,he,hs,ht⟩:=I.r
  simp only [rV] at hd
  refine qS _ _ _ _ _ _ _ _ _ _ _ _ ?_
  repeat' first|with_reducible intro _|simp only[I.lt,I.w,oK,he,Y1,Y2,Y3,Y4]|with_reducible refine X ?_ ?_|refine⟨_,_,_,rfl,?_⟩|refine⟨_,rfl,?_⟩|refine And.intro (by first|omega|trivial|(show _=_;rfl)|(with_reducible constructor)<;>first|omega|trivial|rfl) ?_|refine (r8 _ _ ht) _ _ ?_|refine (tG h a c _) _ _ ?_|refine (zT _ _ ht (hc x I.m)) _ _ ?_|fail
  ·rename_i N2 aj x' N3 ak hx ho _ _
   have ah:zFj g n x i=true:=by simp [zFj, *]
   rw [if_pos ah] at hd
   refine ⟨by unfold zB;simp only [oE,np];omega,λc2=>aa _ _ _ _ (done++[x]) (by omega) rfl (O.snoc ⟨_,_,rfl,hs,Ty.is_cells hx⟩) (by simp;omega) (by simpa using hd)⟩
  all_goals (refine aa _ _ _ _ done (by omega) hm O (by omega) ?_;rw [<-hd,if_neg (by simp [zFj, *])])
theorem xe {g:List Tg} {es:List D} (h:Ctx g es) (hg:g.length<=1073741824) (a:Option Addr) (c:Nat) {s:ByteArray} (hs:s.size<=4611686018427387904) {t:Ty} {d:D} (J:t.Is d) (n:Int) :
  ∀ (N:Nat) (Q:QT [.sl 4]),(∀ O I c' N',N<=N'->Ctx (g++[⟨s,t,n⟩]) I->Q O I c' N')->ACalls prog 169 [.sl 4] [.sv a 4 es c,.str s,.dg 2 d,.j n] N Q:=λN Q hQ=>by
 have hl:=h.all.len
 have hb:∀ x:D,zB ([]++es) [x] 56:=λx=>by unfold zB;simp only [oW,oE,np];omega
 have aa:zB [] es 56:=by unfold zB;simp only [oW];omega
 refine zJt N a es c s d n Q λ_ _=>?_
 repeat' first|with_reducible intro _|simp only[Y1,Y2,Y3,Y4]|with_reducible refine X ?_ ?_|refine⟨_,_,_,rfl,?_⟩|refine⟨_,rfl,?_⟩|refine And.intro (by first|omega|trivial|(show _=_;rfl)|(with_reducible constructor)<;>first|omega|trivial|rfl) ?_|fail
 refine ⟨hb _,λc2=>?_⟩
 repeat' first|with_reducible intro _|simp only[Y1,Y2,Y3,Y4]|with_reducible refine X ?_ ?_|refine⟨_,_,_,rfl,?_⟩|refine⟨_,rfl,?_⟩|refine And.intro (by first|omega|trivial|(show _=_;rfl)|(with_reducible constructor)<;>first|omega|trivial|rfl) ?_|fail
 refine hQ _ _ _ _ (by omega) ⟨by simp;omega,?_⟩
 simp only [oW]
 exact h.all.snoc ⟨_,_,rfl,hs,Ty.is_cells J⟩
def zN2 (o:Option Ty) (d:D) (b:Bool):Prop:=match o with
 | some t=>b=true/\t.Is d
 | none=>b=false
/-- the kind of what an operation works on -/
def zKg (s:ByteArray):Int:=if s=bytes [38] then 2 else if s=bytes [124] then 2 else if s=bytes [33] then 2 else 1
def zER (s:ByteArray):Ty:=if s=bytes [43] then tInt else if s=bytes [45] then tInt else if s=bytes [42] then tInt else tBool
def zSE (w:Int):List Ty->Bool
 | []=>true
 | t::I=>decide (t.k=w)&&zSE w I
def zSx (s:ByteArray) (I:List Ty):Option Ty:=if zSE (zKg s) I then some (zER s) else none
theorem zMP {ts:List Ty} {es:List D} (h:All2 Ty.Is ts es) (hlen:es.length<=4611686018427387904) (a:Option Addr) (c:Nat) (s:ByteArray) :
  ∀ (N:Nat) (Q:QT [.ag 2,.bool]),(∀ d b N',N<=N'->zN2 (zSx s ts) d b->(∀ x∈d.foot,N<=x)->Q d b N')->ACalls prog 213 [.ag 2,.bool] [.str s,.sv a 2 es c] N Q:=fun N Q hQ=>by
 refine zMa N s a es c Q fun _=>?_
 have key:yr Q N s a es c (zKg s) (0:Nat) 0 none [] 0 N:=by
  refine up h hlen (fun i xs=>∀ (N':Nat),N<=N'->zSE (zKg s) xs=zSE (zKg s) ts->yr Q N s a es c (zKg s) i 0 none [] 0 N') ?_ ?_ N (oB _) rfl
  ·intro i hlt _ N' hN' hk
   refine zCI _ _ _ _ _ _ _ _ _ _ _ _ _ ?_
   have ho:zSx s ts=some (zER s):=by rw [zSx,<-hk];rfl
   rw [ho] at hQ
   repeat' first|with_reducible intro _|simp only[hlt,Y1,Y2,Y3,Y4]|with_reducible refine X ?_ ?_|refine⟨_,_,_,rfl,?_⟩|refine⟨_,rfl,?_⟩|refine And.intro (by first|omega|trivial|(show _=_;rfl)|(with_reducible constructor)<;>first|omega|trivial|rfl) ?_|refine xW _ _ ?_|refine tE _ _ ?_|fail
   all_goals
    rename_i hx ho _ _ _ _
    refine hQ _ _ _ (by omega) ⟨rfl,?_⟩ fun b hb=>by have:=ho.lo b hb;omega
    have e:zER s=tInt\/zER s=tBool:=by unfold zER;(repeat' split)<;>simp
    first
     | (have e:zER s=tInt:=by unfold zER;(repeat' split)<;>first | rfl | contradiction
        rw [e];exact hx)
     | (have e:zER s=tBool:=by unfold zER;(repeat' split)<;>first | rfl | contradiction
        rw [e];exact hx)
  ·intro i x xs hat _ ih2 N' hN' hk
   have hb:=hat.b
   cases x with
   | mk k l=>
   obtain ⟨a1,es1,c1,he,_,_⟩:=Ty.is_mk.1 hat.r
   refine zCI _ _ _ _ _ _ _ _ _ _ _ _ _ ?_
   repeat' first|with_reducible intro _|simp only[hat.lt,hat.w,oK,he,Y1,Y2,Y3,Y4]|with_reducible refine X ?_ ?_|refine⟨_,_,_,rfl,?_⟩|refine⟨_,rfl,?_⟩|refine And.intro (by first|omega|trivial|(show _=_;rfl)|(with_reducible constructor)<;>first|omega|trivial|rfl) ?_|fail
   ·rename_i hne _ _
    refine hQ _ _ _ (by omega) ?_ (by simp [D.foot,zC])
    have:zSE (zKg s) ts=false:=by rw [<-hk];simp [zSE,Ty.k,hne]
    rw [zSx,this];rfl
   ·rename_i hne
    exact ih2 _ hN' (by rw [<-hk];simp [zSE,Ty.k,hne])
 have e:zKg s=2\/zKg s=1:=by unfold zKg;(repeat' split)<;>simp
 repeat' first|with_reducible intro _|simp only[Y1,Y2,Y3,Y4]|with_reducible refine X ?_ ?_|refine⟨_,_,_,rfl,?_⟩|refine⟨_,rfl,?_⟩|refine And.intro (by first|omega|trivial|(show _=_;rfl)|(with_reducible constructor)<;>first|omega|trivial|rfl) ?_|fail
 all_goals
  first
   | (have e:zKg s=2:=by unfold zKg;(repeat' split)<;>first | rfl | contradiction
      rw [e] at key;exact key)
   | (have e:zKg s=1:=by unfold zKg;(repeat' split)<;>first | rfl | contradiction
      rw [e] at key;exact key)
/-- the type of a form of parts of these types -/
def xa (k:Int) (s:ByteArray) (I:List Ty):Option Ty:=
 if k=4 then zSx s I
 else if k=5 then (if (I.getD 0 tZero).k=2/\sn (I.getD 1 tZero) (I.getD 2 tZero) then some (I.getD 1 tZero) else none)
 else if (I.getD 0 tZero).k=3/\sn ((I.getD 0 tZero).as.getD 0 tZero) (I.getD 1 tZero) then some ((I.getD 0 tZero).as.getD 1 tZero) else none
theorem Ty.form_len {k:Int} {l:List Ty} (h:(Ty.mk k l).valid=true):zAj k l.length=true:=by
 simp only [Ty.valid,Ty.form,oL] at h
 exact h.2.2
theorem Ty.valid_cnt {t:Ty} (h:t.valid=true):t.cnt<=30:=by
 simp only [Ty.valid,oL,nD] at h
 exact h.1.1
theorem zIi {I:List Ty} {es:List D} (h:All2 Ty.Is I es) (hlen:es.length<=4611686018427387904) (a:Option Addr) (c:Nat) {k n:Int} {s:ByteArray} {c2 c4 c5 c6 c7 c8:D}
  (hv:∀ t∈I,t.valid=true) (hk:k=4\/k=5/\I.length=3\/k=7/\I.length=2) :
  ∀ (N:Nat) (Q:QT [.ag 2,.bool]),(∀ d b N',N<=N'->zN2 (xa k s I) d b->(∀ x∈d.foot,x∈zC es\/N<=x)->Q d b N') ->
  ACalls prog 186 [.ag 2,.bool] [.dg 9 (.ag [.j k,.t s,c2,.j n,c4,c5,c6,c7,c8]),.sv a 2 es c] N Q:=λN Q hQ=>by
 refine zI6 N _ a es c Q λ_ _=>?_
 rcases hk with rfl | ⟨rfl,hl⟩ | ⟨rfl,hl⟩
 ·repeat' first|with_reducible intro _|simp only[Y1,Y2,Y3,Y4]|with_reducible refine X ?_ ?_|refine⟨_,_,_,rfl,?_⟩|refine⟨_,rfl,?_⟩|refine And.intro (by first|omega|trivial|(show _=_;rfl)|(with_reducible constructor)<;>first|omega|trivial|rfl) ?_|refine (zMP h hlen a c s) _ _ ?_|fail
  ·rename_i N1 ac d b N2 ae ho ah _ _ N3 ai
   exact hQ _ _ _ (by omega) (by simpa [xa] using ho) λx hx=>.inr (by have:=ah x hx;omega)
  all_goals (exfalso;omega)
 ·obtain ⟨t0,t1,t2,rfl⟩:∃ t0 t1 t2,I=[t0,t1,t2]:=by
   match I,hl with
   | [t0,t1,t2],_=>exact ⟨t0,t1,t2,rfl⟩
  obtain ⟨d0,_,rfl,h0,d1,_,rfl,h1,d2,_,rfl,h2,rfl⟩:=h
  cases t0 with
  | mk k0 J=>
  obtain ⟨a0,aj,c0,rfl,ak,aa⟩:=Ty.is_mk.1 h0
  have hq:∀ (b:Bool) (N':Nat),N<=N'->(k0=2/\sn t1 t2=b\/¬k0=2/\b=false)->Q d1 b N':=λb N' O hb=>by
   refine hQ _ _ _ O ?_ λx hx=>.inl (by simp only [zC,oG];exact .inr (.inl hx))
   rcases hb with ⟨e1,e2⟩ | ⟨e1,rfl⟩
   ·cases b<;>simp [xa,Ty.k,e1,e2,zN2,h1]
   ·simp [xa,Ty.k,e1,zN2]
  repeat' first|with_reducible intro _|simp only[oJ,oM,Y1,Y2,Y3,Y4]|with_reducible refine X ?_ ?_|refine⟨_,_,_,rfl,?_⟩|refine⟨_,rfl,?_⟩|refine And.intro (by first|omega|trivial|(show _=_;rfl)|(with_reducible constructor)<;>first|omega|trivial|rfl) ?_|refine (yo _ _ _ _ h1 h2) _ _ ?_|fail
  all_goals first | (exfalso;omega) | skip
  ·exact hq _ _ (by omega) (.inl ⟨by assumption,rfl⟩)
  ·exact hq _ _ (by omega) (.inr ⟨by assumption,rfl⟩)
 ·obtain ⟨t0,t1,rfl⟩:∃ t0 t1,I=[t0,t1]:=by
   match I,hl with
   | [t0,t1],_=>exact ⟨t0,t1,rfl⟩
  obtain ⟨d0,_,rfl,h0,d1,_,rfl,h1,rfl⟩:=h
  cases t0 with
  | mk k0 J=>
  obtain ⟨a0,aj,c0,rfl,ak,aa⟩:=Ty.is_mk.1 h0
  have hf:=Ty.form_len (hv _ nS)
  have al:=Ty.valid_cnt (hv _ nS)
  have hz:∀ N',N<=N'->¬(k0=3/\sn (J.getD 0 tZero) t1=true)->Q (.ag [.j 0,.sl none 2 [] 0]) false N':=λN' O hb=>by
   refine hQ _ _ _ O ?_ (by simp [D.foot,zC])
   have:xa 7 s [.mk k0 J,t1]=none:=by
    simp only [xa]
    rw [if_neg (by omega),if_neg (by omega)]
    exact if_neg hb
   rw [this];rfl
  by_cases hk:k0=3
  ·subst hk
   have ab:(J.length:Int)=2:=by simpa [zAj] using hf
   have ab:J.length=2:=by omega
   obtain ⟨u0,u1,rfl⟩:∃ t0 t1,J=[t0,t1]:=by
    match J,ab with
    | [t0,t1],_=>exact ⟨t0,t1,rfl⟩
   obtain ⟨x0,_,rfl,am,x1,_,rfl,ao,rfl⟩:=aa
   simp only [Ty.cnt,zV] at al
   repeat' first|with_reducible intro _|simp only[oJ,oM,Y1,Y2,Y3,Y4]|with_reducible refine X ?_ ?_|refine⟨_,_,_,rfl,?_⟩|refine⟨_,rfl,?_⟩|refine And.intro (by first|omega|trivial|(show _=_;rfl)|(with_reducible constructor)<;>first|omega|trivial|rfl) ?_|refine (yo _ _ _ _ am h1) _ _ ?_|refine (zT _ _ ao (by omega)) _ _ ?_|fail
   all_goals first | (exfalso;omega) | skip
   ·rename_i he N1 ac d' N2 ae aq ho _ _ N3 ai
    refine hQ _ _ _ (by omega) ?_ λx hx=>.inr (by have:=ho.lo x hx;omega)
    simp [xa,Ty.k,Ty.as,he,zN2,aq]
   ·rename_i he _ _
    exact hz _ (by omega) (by simp [he])
  ·repeat' first|with_reducible intro _|simp only[oJ,oM,Y1,Y2,Y3,Y4]|with_reducible refine X ?_ ?_|refine⟨_,_,_,rfl,?_⟩|refine⟨_,rfl,?_⟩|refine And.intro (by first|omega|trivial|(show _=_;rfl)|(with_reducible constructor)<;>first|omega|trivial|rfl) ?_|fail
   all_goals first | (exfalso;omega) | skip
   exact hz _ (by omega) λhc=>hk hc.1
def vld (o:Option Ty):Option Ty:=match o with
 | some t=>if t.valid then some t else none
 | none=>none
/-- the type of code, a splice, a run or a lift over this type -/
def xU (k:Int) (t:Ty):Option Ty:=
 if k=10 then some (zAk t) else if k=13 then (if t.base then some (zAk t) else none) else if t.k=4 then some (t.as.getD 0 tZero) else none
def zBN (g:List Tg) (s:ByteArray) (n:Int):Option Ty:=
 if yg g s<0 then none else if (g.getD (yg g s).toNat tg0).lv=n then some (g.getD (yg g s).toNat tg0).ty else none
mutual
def Tm.type:Tm->List Tg->Int->Option Ty
 | .mk k nm ot _ ty re l,g,n=>vld (
   if k=1 then zBN g nm n
   else if k=2 then some tInt
   else if k=3 then some tBool
   else if k=6 then (match uw l 0 (g++[⟨nm,ty,n⟩]) n with | some b=>some (tH ty b) | none=>none)
   else if k=8 then (match uw l 0 g n with | some a=>uw l 1 (g++[⟨nm,a,n⟩]) n | none=>none)
   else if k=9 then (match uw l 0 ((g++[⟨nm,tH ty re,n⟩])++[⟨ot,ty,n⟩]) n with | some b=>if sn b re then some (tH ty re) else none | none=>none)
   else if k=10\/k=11\/k=12\/k=13 then (match uw l 0 (if k=12 then sg g n else g) (ya k n) with | some t=>xU k t | none=>none)
   else (match yE l g n with | some I=>xa k nm I | none=>none))
def uw:List Tm->Nat->List Tg->Int->Option Ty
 | [],_,_,_=>none
 | t::_,0,g,n=>t.type g n
 | _::I,i+1,g,n=>uw I i g n
def yE:List Tm->List Tg->Int->Option (List Ty)
 | [],_,_=>some []
 | t::I,g,n=>match t.type g n with
   | some u=>(match yE I g n with | some us=>some (u::us) | none=>none)
   | none=>none
end
theorem zEy {o:Option Ty} {t:Ty} (h:vld o=some t):o=some t/\t.valid=true:=by
 cases o with
 | none=>cases h
 | some u=>
   simp only [vld] at h
   split at h
   ·cases h;exact ⟨rfl,by assumption⟩
   ·cases h
theorem Tm.type_valid {e:Tm} {g:List Tg} {n:Int} {t:Ty} (h:e.type g n=some t):t.valid=true:=by
 cases e with
 | mk k nm ot m ty re l=>
   simp only [Tm.type] at h
   exact (zEy h).2
theorem zHd:∀ {l:List Tm} {g:List Tg} {n:Int} {I:List Ty},yE l g n=some I->I.length=l.length/\∀ t∈I,t.valid=true
 | [],g,n,I,h=>by simp [yE] at h;subst h;simp
 | e :: es,g,n,I,h=>by
   simp only [yE] at h
   split at h
   ·rename_i u O
    split at h
    ·rename_i us J
     cases h
     have:=zHd J
     refine ⟨by simp [this.1],λt ht=>?_⟩
     rcases oH.1 ht with rfl | ht
     ·exact Tm.type_valid O
     ·exact this.2 t ht
    ·cases h
   ·cases h
/-- what typing may count on -/
structure Pre (g:List Tg) (e:Tm) (n:Int):Prop where
 ok:e.ok=true
 lev:e.lev n=true
 len:g.length+2*e.cnt<=1073741824
 ty:∀ x∈g,x.ty.cnt<=64
/-- the facts of a well-formed node -/
structure Node (k:Int) (nm ot:ByteArray) (n:Int) (ty re:Ty) (l:List Tm):Prop where
 f:yf k nm ot n ty re=true
 ar:(l.length:Int)=zGm k nm
 sub:∀ x∈l,x.ok=true
theorem zKn:∀ {l:List Tm} {x:Tm},zBO l=true->x∈l->x.ok=true
 | t::I,x,h,hx=>by
   simp only [zBO,oL] at h
   rcases oH.1 hx with rfl | hx
   ·exact h.1
   ·exact zKn h.2 hx
theorem zH9:∀ {l:List Tm} {n:Int} {x:Tm},zAp l n=true->x∈l->x.lev n=true
 | t::I,n,x,h,hx=>by
   simp only [zAp,oL] at h
   rcases oH.1 hx with rfl | hx
   ·exact h.1
   ·exact zH9 h.2 hx
theorem y8 {k:Int} {nm ot:ByteArray} {n:Int} {ty re:Ty} {l:List Tm} (h:(Tm.mk k nm ot n ty re l).ok=true):Node k nm ot n ty re l:=by
 simp only [Tm.ok,oL] at h
 exact ⟨h.2.1,by simpa using h.2.2,λx I=>zKn h.1 I⟩
theorem Node.vt {k n:Int} {nm ot:ByteArray} {ty re:Ty} {l:List Tm} (h:Node k nm ot n ty re l) (I:k=6\/k=9):ty.valid=true:=by
 have:=h.f
 have e:zGf k=true:=by rcases I with rfl | rfl<;>rfl
 simp only [yf,oL,e] at this
 simpa using this.1
theorem Node.vr {k n:Int} {nm ot:ByteArray} {ty re:Ty} {l:List Tm} (h:Node k nm ot n ty re l) (I:k=9):re.valid=true:=by
 have:=h.f
 subst I
 simp only [yf,oL] at this
 simpa using this.2.2.1
theorem zJ0 {k:Int} {nm:ByteArray} (h:0<=zGm k nm):k=1\/k=2\/k=3\/k=4\/k=5\/k=6\/k=7\/k=8\/k=9\/k=10\/k=11\/k=12\/k=13:=by
 unfold zGm at h
 (repeat' split at h)<;>omega
theorem Ty.cnt_pos (t:Ty):1<=t.cnt:=by cases t;simp only [Ty.cnt];omega
theorem Pre.sub {g g':List Tg} {k:Int} {nm ot:ByteArray} {m:Int} {ty re:Ty} {l:List Tm} {n:Int} {x:Tm} (h:Pre g (.mk k nm ot m ty re l) n) (I:x∈l) (hl:g'.length<=g.length+2) (J:∀ y∈g',y.ty.cnt<=64):Pre g' x (ya k n):=by
 have O:=h.len
 have h2:=zu I
 have h3:=ty.cnt_pos
 have h4:=re.cnt_pos
 simp only [Tm.cnt] at O
 refine ⟨(y8 h.ok).sub x I,?_,by omega,J⟩
 have:=h.lev
 simp only [Tm.lev,oL] at this
 exact zH9 this.2 I
theorem Pre.lv {g:List Tg} {e:Tm} {n:Int} (h:Pre g e n):0<=n/\n<=2:=by
 have:=h.lev
 cases e
 simp only [Tm.lev,oL] at this
 exact wl.1 this.1
theorem qq {g:List Tg} (h:∀ y∈g,y.ty.cnt<=64) {x:Tg} (I:x.ty.cnt<=64):∀ y∈g++[x],y.ty.cnt<=64:=λy hy=>by
 rcases oG.1 hy with hy | hy
 ·exact h y hy
 ·rw [oR] at hy;subst hy;exact I
theorem zJk (e:Tm) (g:List Tg) (n:Int):((e.type g n).getD tZero).cnt<=30:=by
 cases h:e.type g n with
 | none=>simp [tZero,Ty.cnt,zV]
 | some t=>simpa using Ty.valid_cnt (Tm.type_valid h)
/-- returns this type and true, or the zero type and false -/
def zUe (f:FuncId) (args:List PV) (o:Option Ty):Prop:=∀ (N:Nat) (Q:QT [.ag 2,.bool]),(∀ d N',N<=N'->(o.getD tZero).Is d->Q d o.isSome N')->ACalls prog f [.ag 2,.bool] args N Q
/-- returns this type and true, or false -/
def zUn (f:FuncId) (args:List PV) (o:Option Ty):Prop:=∀ (N:Nat) (Q:QT [.ag 2,.bool]),(∀ d N',N<=N'->(∀ t,o=some t->t.Is d)->Q d o.isSome N')->ACalls prog f [.ag 2,.bool] args N Q
def IH (l:List Tm):Prop:=∀ x∈l,∀ d,x.Is d->∀ g es a c n,Pre g x n->Ctx g es->zUe 115 [.sv a 4 es c,.dg 9 d,.j n] (x.type g n)
theorem zS2 {nm ot:ByteArray} {m n:Int} {ty re:Ty} {e0:Tm} {t0 t1 r0 r1 d0:D} {a1 a:Option Addr} {c1 c:Nat} {g:List Tg} {es:List D} (ih:IH [e0]) (O:Tm.Hd nm ot ty re t0 t1 r0 r1) (h0:e0.Is d0)
  (pre:Pre g (.mk 6 nm ot m ty re [e0]) n) (aa:Ctx g es) :
  zUn 184 [.sv a 4 es c,.dg 9 (.ag [.j 6,.t nm,.t ot,.j m,t0,t1,r0,r1,.sl a1 9 [d0] c1]),.j n] (match e0.type (g++[⟨nm,ty,n⟩]) n with | some b=>some (tH ty b) | none=>none):=λN Q J=>by
 have hlen:=pre.len
 have hv:=Ty.valid_cnt ((y8 pre.ok).vt (.inl rfl))
 have hp:Pre (g++[⟨nm,ty,n⟩]) e0 n:=by simpa [ya] using pre.sub (x:=e0) (by simp) (g':=g++[⟨nm,ty,n⟩]) (by simp) (qq pre.ty (show ty.cnt<=64 by omega))
 have hc:=zJk e0 (g++[⟨nm,ty,n⟩]) n
 refine rk N a es c _ n Q λ_ _=>?_
 repeat' first|with_reducible intro _|simp only[oJ,oM,Y1,Y2,Y3,Y4]|with_reducible refine X ?_ ?_|refine⟨_,_,_,rfl,?_⟩|refine⟨_,rfl,?_⟩|refine And.intro (by first|omega|trivial|(show _=_;rfl)|(with_reducible constructor)<;>first|omega|trivial|rfl) ?_|refine (xe aa (by omega) a c O.nm O.ty n) _ _ ?_|refine (ih e0 nS d0 h0 (g++[⟨nm,ty,n⟩]) _ _ _ n hp (by assumption)) _ _ ?_|refine (qv ty ((e0.type (g++[⟨nm,ty,n⟩]) n).getD tZero) _ _ O.ty (by assumption) (by omega) (by omega)) _ _ ?_|fail
 all_goals first | (exfalso;omega) | skip
 rename_i x1 N6 ab I ho _ _ N7 ac
 cases h:e0.type (g++[⟨nm,ty,n⟩]) n with
 | none=>rw [h] at J;exact J _ _ (by omega) (by simp)
 | some b=>rw [h] at J I;exact J _ _ (by omega) (by simpa using I)
theorem zSz {nm ot:ByteArray} {m n:Int} {ty re:Ty} {e0 e1:Tm} {t0 t1 r0 r1 d0 d1:D} {a1 a:Option Addr} {c1 c:Nat} {g:List Tg} {es:List D} (ih:IH [e0,e1]) (hh:Tm.Hd nm ot ty re t0 t1 r0 r1) (h0:e0.Is d0) (h1:e1.Is d1)
  (pre:Pre g (.mk 8 nm ot m ty re [e0,e1]) n) (J:Ctx g es) :
  zUn 184 [.sv a 4 es c,.dg 9 (.ag [.j 8,.t nm,.t ot,.j m,t0,t1,r0,r1,.sl a1 9 [d0,d1] c1]),.j n] (match e0.type g n with | some b=>e1.type (g++[⟨nm,b,n⟩]) n | none=>none):=λN Q O=>by
 have hlen:=pre.len
 have hp:Pre g e0 n:=by simpa [ya] using pre.sub (x:=e0) (by simp) (g':=g) (by simp) pre.ty
 have hc:=zJk e0 g n
 have I:=ih e0 nS d0 h0 g es a c n hp J
 refine rk N a es c _ n Q λ_ _=>?_
 cases h:e0.type g n with
 | none=>
   rw [h] at O I
   repeat' first|with_reducible intro _|simp only[oJ,oM,mP,Y1,Y2,Y3,Y4]|with_reducible refine X ?_ ?_|refine⟨_,_,_,rfl,?_⟩|refine⟨_,rfl,?_⟩|refine And.intro (by first|omega|trivial|(show _=_;rfl)|(with_reducible constructor)<;>first|omega|trivial|rfl) ?_|refine I _ _ ?_|fail
   all_goals first | (exfalso;omega) | skip
   exact O _ _ (by omega) (by simp)
 | some b=>
   rw [h] at O hc I
   dsimp only at O
   have aa:Pre (g++[⟨nm,b,n⟩]) e1 n:=by simpa [ya] using pre.sub (x:=e1) (by simp) (g':=g++[⟨nm,b,n⟩]) (by simp) (qq pre.ty (by simpa using oZ hc (by omega)))
   repeat' first|with_reducible intro _|simp only[oJ,oM,mR,Y1,Y2,Y3,Y4]|with_reducible refine X ?_ ?_|refine⟨_,_,_,rfl,?_⟩|refine⟨_,rfl,?_⟩|refine And.intro (by first|omega|trivial|(show _=_;rfl)|(with_reducible constructor)<;>first|omega|trivial|rfl) ?_|refine I _ _ ?_|refine (xe J (by omega) a c hh.nm (t:=b) (by assumption) n) _ _ ?_|refine (ih e1 (by simp) d1 h1 (g++[⟨nm,b,n⟩]) _ _ _ n aa (by assumption)) _ _ ?_|fail
   all_goals first | (exfalso;omega) | skip
   rename_i hx _ _ _ _
   refine O _ _ (by omega) λt ht=>?_
   rw [ht] at hx
   exact hx
theorem zTX {nm ot:ByteArray} {m n:Int} {ty re:Ty} {e0:Tm} {t0 t1 r0 r1 d0:D} {a1 a:Option Addr} {c1 c:Nat} {g:List Tg} {es:List D} (ih:IH [e0]) (I:Tm.Hd nm ot ty re t0 t1 r0 r1) (h0:e0.Is d0)
  (pre:Pre g (.mk 9 nm ot m ty re [e0]) n) (aa:Ctx g es) :
  zUn 184 [.sv a 4 es c,.dg 9 (.ag [.j 9,.t nm,.t ot,.j m,t0,t1,r0,r1,.sl a1 9 [d0] c1]),.j n]
   (match e0.type ((g++[⟨nm,tH ty re,n⟩])++[⟨ot,ty,n⟩]) n with | some b=>if sn b re then some (tH ty re) else none | none=>none):=λN Q J=>by
 have hlen:=pre.len
 have hv:=Ty.valid_cnt ((y8 pre.ok).vt (.inr rfl))
 have hr:=Ty.valid_cnt ((y8 pre.ok).vr rfl)
 have ac:=qq (x:=⟨nm,tH ty re,n⟩) pre.ty (show (tH ty re).cnt<=64 by simp only [tH,Ty.cnt,zV];omega)
 have hp:=pre.sub (x:=e0) (by simp) (g':=(g++[⟨nm,tH ty re,n⟩])++[⟨ot,ty,n⟩]) (by simp) (qq ac (show ty.cnt<=64 by omega))
 rw [show ya 9 n=n by simp [ya]] at hp
 have ae:1<=(Tm.mk 9 nm ot m ty re [e0]).cnt:=by simp only [Tm.cnt];omega
 have ab:(g++[⟨nm,tH ty re,n⟩]:List Tg).length<=1073741824:=by rw [oE,np];omega
 have O:∀ es a c,Ctx ((g++[⟨nm,tH ty re,n⟩])++[⟨ot,ty,n⟩]) es->zUe 115 [.sv a 4 es c,.dg 9 d0,.j n] (e0.type ((g++[⟨nm,tH ty re,n⟩])++[⟨ot,ty,n⟩]) n):=λes a c hc=>ih e0 nS d0 h0 _ es a c n hp hc
 refine rk N a es c _ n Q λ_ _=>?_
 cases h:e0.type ((g++[⟨nm,tH ty re,n⟩])++[⟨ot,ty,n⟩]) n with
 | none=>
   rw [h] at J O
   dsimp only at J
   repeat' first|with_reducible intro _|simp only[oJ,oM,mP,Y1,Y2,Y3,Y4]|with_reducible refine X ?_ ?_|refine⟨_,_,_,rfl,?_⟩|refine⟨_,rfl,?_⟩|refine And.intro (by first|omega|trivial|(show _=_;rfl)|(with_reducible constructor)<;>first|omega|trivial|rfl) ?_|refine (qv ty re _ _ I.ty I.re (by omega) (by omega)) _ _ ?_|refine (xe aa (by omega) a c I.nm (t:=tH ty re) (by assumption) n) _ _ ?_|refine (xe (g:=g++[⟨nm,tH ty re,n⟩]) (by assumption) ab _ _ I.ot I.ty n) _ _ ?_|refine (O _ _ _ (by assumption)) _ _ ?_|fail
   all_goals first | (exfalso;omega) | skip
   exact J _ _ (by omega) (by simp)
 | some b=>
   rw [h] at J O
   dsimp only at J
   repeat' first|with_reducible intro _|simp only[oJ,oM,mR,Y1,Y2,Y3,Y4]|with_reducible refine X ?_ ?_|refine⟨_,_,_,rfl,?_⟩|refine⟨_,rfl,?_⟩|refine And.intro (by first|omega|trivial|(show _=_;rfl)|(with_reducible constructor)<;>first|omega|trivial|rfl) ?_|refine (qv ty re _ _ I.ty I.re (by omega) (by omega)) _ _ ?_|refine (xe aa (by omega) a c I.nm (t:=tH ty re) (by assumption) n) _ _ ?_|refine (xe (g:=g++[⟨nm,tH ty re,n⟩]) (by assumption) ab _ _ I.ot I.ty n) _ _ ?_|refine (O _ _ _ (by assumption)) _ _ ?_|refine (yo b re _ _ (by assumption) I.re) _ _ ?_|fail
   all_goals first | (exfalso;omega) | skip
   cases he:sn b re with
   | false=>rw [he] at J;exact J _ _ (by omega) (by simp)
   | true=>rw [he] at J;exact J _ _ (by omega) λt ht=>by cases ht;assumption
/-- code, splices, runs and lifts -/
theorem zS7 {k:Int} {nm ot:ByteArray} {m n:Int} {ty re:Ty} {e0:Tm} {t0 t1 r0 r1 d0:D} {a1 a:Option Addr} {c1 c:Nat} {g:List Tg} {es:List D} (hk:k=10\/k=11\/k=12\/k=13) (ih:IH [e0]) (h0:e0.Is d0)
  (pre:Pre g (.mk k nm ot m ty re [e0]) n) (aj:Ctx g es) :
  zUn 185 [.sv a 4 es c,.dg 9 (.ag [.j k,.t nm,.t ot,.j m,t0,t1,r0,r1,.sl a1 9 [d0] c1]),.j n]
   (match e0.type (if k=12 then sg g n else g) (ya k n) with | some t=>xU k t | none=>none):=λN Q I=>by
 have hlen:=pre.len
 have ak:=zC8 g n g 0
 have hp:=pre.sub (x:=e0) (by simp) (g':=if k=12 then sg g n else g) (by split<;>simp [sg];omega) (by split;exact λy hy=>pre.ty y (ak.1 y hy);exact pre.ty)
 have ac:∀ es a c,Ctx (if k=12 then sg g n else g) es->zUe 115 [.sv a 4 es c,.dg 9 d0,.j (ya k n)] (e0.type (if k=12 then sg g n else g) (ya k n)):=λes a c hc=>ih e0 nS d0 h0 _ es a c _ hp hc
 have al:∀ x∈g,x.ty.cnt<=1073741824:=λx hx=>oZ (pre.ty x hx) (by omega)
 refine zHQ N a es c _ n Q λ_ _=>?_
 cases h:e0.type (if k=12 then sg g n else g) (ya k n) with
 | none=>
   rw [h] at I ac
   dsimp only at I
   repeat' first|with_reducible intro _|simp only[oJ,oM,mP,Y1,Y2,Y3,Y4]|with_reducible refine X ?_ ?_|refine⟨_,_,_,rfl,?_⟩|refine⟨_,rfl,?_⟩|refine And.intro (by first|omega|trivial|(show _=_;rfl)|(with_reducible constructor)<;>first|omega|trivial|rfl) ?_|refine (zAr aj (by omega) al a c n) _ _ ?_|refine (zB9 pre.lv) _ _ ?_|refine (ac _ _ _ (by first | (rw [if_pos (by assumption)];assumption) | (rw [if_neg (by assumption)];assumption))) _ _ ?_|fail
   all_goals first | (exfalso;omega) | skip
   all_goals exact I _ _ (by omega) (by simp)
 | some t=>
   have hv:=Tm.type_valid h
   rw [h] at I ac
   dsimp only at I
   cases t with
   | mk O J=>
   have hf:=Ty.form_len hv
   have am:=Ty.valid_cnt hv
   repeat' first|with_reducible intro _|simp only[oJ,oM,mR,Y1,Y2,Y3,Y4]|with_reducible refine X ?_ ?_|refine⟨_,_,_,rfl,?_⟩|refine⟨_,rfl,?_⟩|refine And.intro (by first|omega|trivial|(show _=_;rfl)|(with_reducible constructor)<;>first|omega|trivial|rfl) ?_|refine (zAr aj (by omega) al a c n) _ _ ?_|refine (zB9 pre.lv) _ _ ?_|refine (ac _ _ _ (by first | (rw [if_pos (by assumption)];assumption) | (rw [if_neg (by assumption)];assumption))) _ _ ?_|refine (zJd (.mk O J) _ (by assumption) (by omega)) _ _ ?_|refine (r8 (.mk O J) _ (by assumption)) _ _ ?_|fail
   all_goals first | (exfalso;omega) | skip
   ·rename_i hd _ _ aa ab
    obtain ⟨a2,es2,c2,rfl,ao,ae⟩:=Ty.is_mk.1 hd
    by_cases h4:O=4
    ·subst h4
     have ah:(J.length:Int)=1:=by simpa [zAj] using hf
     obtain ⟨u,rfl⟩:∃ u,J=[u]:=by
      match J,ah with
      | [u],_=>exact ⟨u,rfl⟩
      | [],h=>simp at h
      | _::_::_,h=>simp at h;omega
     obtain ⟨x0,_,rfl,ai,rfl⟩:=ae
     simp only [Ty.cnt,zV] at am
     have hs:xU k (.mk 4 [u])=some u:=by simp [xU,aa,ab,Ty.k,Ty.as]
     rw [hs] at I
     repeat' first|with_reducible intro _|simp only[oJ,oM,Y1,Y2,Y3,Y4]|with_reducible refine X ?_ ?_|refine⟨_,_,_,rfl,?_⟩|refine⟨_,rfl,?_⟩|refine And.intro (by first|omega|trivial|(show _=_;rfl)|(with_reducible constructor)<;>first|omega|trivial|rfl) ?_|refine (zT u _ ai (by omega)) _ _ ?_|fail
     all_goals first | (exfalso;omega) | skip
     exact I _ _ (by omega) λt ht=>by cases ht;assumption
    ·have hs:xU k (.mk O J)=none:=by simp [xU,aa,ab,Ty.k,h4]
     rw [hs] at I
     repeat' first|with_reducible intro _|simp only[oJ,oM,Y1,Y2,Y3,Y4]|with_reducible refine X ?_ ?_|refine⟨_,_,_,rfl,?_⟩|refine⟨_,rfl,?_⟩|refine And.intro (by first|omega|trivial|(show _=_;rfl)|(with_reducible constructor)<;>first|omega|trivial|rfl) ?_|fail
     all_goals first | (exfalso;omega) | skip
     exact I _ _ (by omega) (by simp)
   ·have hs:xU k (.mk O J)=some (zAk (.mk O J)):=by rw [xU,if_pos (by assumption)]
    rw [hs] at I
    exact I _ _ (by omega) λt ht=>by cases ht;assumption
   ·have hs:xU k (.mk O J)=if (Ty.mk O J).base then some (zAk (.mk O J)) else none:=by rw [xU,if_neg (by assumption),if_pos (by assumption)]
    rw [hs] at I
    cases hb:(Ty.mk O J).base with
    | false=>rw [hb] at I;exact I _ _ (by omega) (by simp)
    | true=>rw [hb] at I;exact I _ _ (by omega) λt ht=>by cases ht;assumption
   ·rename_i hd _ _ aa ab
    obtain ⟨a2,es2,c2,rfl,ao,ae⟩:=Ty.is_mk.1 hd
    by_cases h4:O=4
    ·subst h4
     have ah:(J.length:Int)=1:=by simpa [zAj] using hf
     obtain ⟨u,rfl⟩:∃ u,J=[u]:=by
      match J,ah with
      | [u],_=>exact ⟨u,rfl⟩
      | [],h=>simp at h
      | _::_::_,h=>simp at h;omega
     obtain ⟨x0,_,rfl,ai,rfl⟩:=ae
     simp only [Ty.cnt,zV] at am
     have hs:xU k (.mk 4 [u])=some u:=by simp [xU,aa,ab,Ty.k,Ty.as]
     rw [hs] at I
     repeat' first|with_reducible intro _|simp only[oJ,oM,Y1,Y2,Y3,Y4]|with_reducible refine X ?_ ?_|refine⟨_,_,_,rfl,?_⟩|refine⟨_,rfl,?_⟩|refine And.intro (by first|omega|trivial|(show _=_;rfl)|(with_reducible constructor)<;>first|omega|trivial|rfl) ?_|refine (zT u _ ai (by omega)) _ _ ?_|fail
     all_goals first | (exfalso;omega) | skip
     exact I _ _ (by omega) λt ht=>by cases ht;assumption
    ·have hs:xU k (.mk O J)=none:=by simp [xU,aa,ab,Ty.k,h4]
     rw [hs] at I
     repeat' first|with_reducible intro _|simp only[oJ,oM,Y1,Y2,Y3,Y4]|with_reducible refine X ?_ ?_|refine⟨_,_,_,rfl,?_⟩|refine⟨_,rfl,?_⟩|refine And.intro (by first|omega|trivial|(show _=_;rfl)|(with_reducible constructor)<;>first|omega|trivial|rfl) ?_|fail
     all_goals first | (exfalso;omega) | skip
     exact I _ _ (by omega) (by simp)
/-- the type of a term ahead of the test that it is valid -/
def Tm.raw:Tm->List Tg->Int->Option Ty
 | .mk k nm ot _ ty re l,g,n=>
   if k=1 then zBN g nm n
   else if k=2 then some tInt
   else if k=3 then some tBool
   else if k=6 then (match uw l 0 (g++[⟨nm,ty,n⟩]) n with | some b=>some (tH ty b) | none=>none)
   else if k=8 then (match uw l 0 g n with | some a=>uw l 1 (g++[⟨nm,a,n⟩]) n | none=>none)
   else if k=9 then (match uw l 0 ((g++[⟨nm,tH ty re,n⟩])++[⟨ot,ty,n⟩]) n with | some b=>if sn b re then some (tH ty re) else none | none=>none)
   else if k=10\/k=11\/k=12\/k=13 then (match uw l 0 (if k=12 then sg g n else g) (ya k n) with | some t=>xU k t | none=>none)
   else (match yE l g n with | some I=>xa k nm I | none=>none)
theorem Tm.type_eq (e:Tm) (g:List Tg) (n:Int):e.type g n=vld (e.raw g n):=by
 cases e;simp only [Tm.type,Tm.raw]<;>rfl
theorem zMz {a:Option Addr} {r:List D} {d:D} {N:Nat} (ha:ApA a r) (hb:wa N [a]) (h:∀ x∈d.foot,x∈zC r\/N<=x):Off [a] d:=by
 intro a' I ad J O
 rw [oR] at I
 subst I
 rcases h _ O with h | h
 ·have:∀ r:List D,ad.block∈zC r->∃ d∈r,ad.block∈d.foot:=by
   intro r
   induction r with
   | nil=>intro h;simp [zC] at h
   | cons x r ih=>
     intro h
     simp only [zC,oG] at h
     rcases h with h | h
     ·exact ⟨x,by simp,h⟩
     ·obtain ⟨d,hd,O⟩:=ih h
      exact ⟨d,by simp [hd],O⟩
  obtain ⟨d',aa,ab⟩:=this r h
  exact ha ad J d' aa ab
 ·have:=hb a' (by simp) ad J
  omega
theorem zQe {k:Int} {nm ot:ByteArray} {m n:Int} {ty re:Ty} {l:List Tm} {t0 t1 r0 r1:D} {es1:List D} {a1 a:Option Addr} {c1 c:Nat} {g:List Tg} {es:List D} (hk:k=4\/k=5\/k=7) (ih:IH l) (h0:All2 Tm.Is l es1) (hl1:es1.length<=4611686018427387904)
  (pre:Pre g (.mk k nm ot m ty re l) n) (ctx:Ctx g es) (N:Nat) (Q:QT [.ag 2,.bool]) (hQ:∀ d N',N<=N'->(∀ t,Tm.raw (.mk k nm ot m ty re l) g n=some t->t.Is d)->Q d (Tm.raw (.mk k nm ot m ty re l) g n).isSome N') :
  xt Q N a es c n 0 0 (0:Nat) (.ag [.j k,.t nm,.t ot,.j m,t0,t1,r0,r1,.sl a1 9 es1 c1]) 0 none [] 0 [] 0 N:=by
 have hlen:=pre.len
 have hcl:=y6 l
 have hln:=h0.len
 have nd:=y8 pre.ok
 simp only [Tm.cnt] at hlen
 have hraw:Tm.raw (.mk k nm ot m ty re l) g n=(match yE l g n with | some ts=>xa k nm ts | none=>none):=by
  simp only [Tm.raw]
  rw [if_neg (by omega),if_neg (by omega),if_neg (by omega),if_neg (by omega),if_neg (by omega),if_neg (by omega),if_neg (by omega)]
 rw [hraw] at hQ
 refine up h0 hl1 (fun i xs=>∀ (r:List D) (q p:Nat) (N':Nat) (ts:List Ty),N<=N'->p=r.length->All2 Ty.Is ts r->ts.length=i->(∀ t∈ts,t.valid=true) ->
  yE l g n=(match yE xs g n with | some us=>some (ts++us) | none=>none) ->
  xt Q N a es c n p q i (.ag [.j k,.t nm,.t ot,.j m,t0,t1,r0,r1,.sl a1 9 es1 c1]) 0 none [] 0 r q N') ?_ ?_ [] 0 0 N [] (oB _) rfl rfl rfl (by simp) ?_
 ·intro i hlt hi r q p N' ts hN' hp hr hti hv hargs
  have hrl:=hr.len
  simp only [yE,o6] at hargs
  rw [hargs] at hQ
  dsimp only at hQ
  have hk2:k=4\/k=5/\ts.length=3\/k=7/\ts.length=2:=by
   have:=nd.ar
   rcases hk with rfl | rfl | rfl
   ·exact .inl rfl
   ·exact .inr (.inl ⟨rfl, by have:(l.length:Int)=3:=this
                              omega⟩)
   ·exact .inr (.inr ⟨rfl, by have:(l.length:Int)=2:=this
                              omega⟩)
  refine qG _ _ _ _ _ _ _ _ _ _ _ _ _ _ _ _ _ ?_
  repeat' first|with_reducible intro _|simp only[hlt,Y1,Y2,Y3,Y4]|with_reducible refine X ?_ ?_|refine⟨_,_,_,rfl,?_⟩|refine⟨_,rfl,?_⟩|refine And.intro (by first|omega|trivial|(show _=_;rfl)|(with_reducible constructor)<;>first|omega|trivial|rfl) ?_|refine (zIi hr (by omega) _ _ hv hk2) _ _ ?_|fail
  rename_i a2 hap hoff N4 hN4 hba d b N5 hN5 ho hfo _
  refine ⟨zMz hap hba hfo,fun _ N6 hN6=>?_⟩
  cases h:xa k nm ts with
  | none=>rw [h] at ho hQ;simp only [zN2] at ho;subst ho;exact hQ _ _ (by omega) (by simp)
  | some t=>rw [h] at ho hQ;obtain ⟨rfl,ho⟩:=ho;exact hQ _ _ (by omega) fun t ht=>by cases ht;exact ho
 ·intro i x xs hat _ ih2 r q p N' ts hN' hp hr hti hv hargs
  have hb:=hat.b
  have hrl:=hr.len
  have hpx:=pre.sub hat.m (g':=g) (by omega) pre.ty
  rw [show ya k n=n by simp only [ya];rw [if_neg (by omega),if_neg (by omega)]] at hpx
  have ih0:=ih x hat.m _ hat.r g es a c n hpx ctx
  simp only [yE] at hargs
  refine qG _ _ _ _ _ _ _ _ _ _ _ _ _ _ _ _ _ ?_
  cases h:x.type g n with
  | none=>
    rw [h] at ih0 hargs
    dsimp only at hargs
    rw [hargs] at hQ
    repeat' first|with_reducible intro _|simp only[hat.lt,hat.w,oK,mP,Y1,Y2,Y3,Y4]|with_reducible refine X ?_ ?_|refine⟨_,_,_,rfl,?_⟩|refine⟨_,rfl,?_⟩|refine And.intro (by first|omega|trivial|(show _=_;rfl)|(with_reducible constructor)<;>first|omega|trivial|rfl) ?_|refine ih0 _ _ ?_|fail
    all_goals first | (exfalso;omega) | skip
    exact hQ _ _ (by omega) (by simp)
  | some t=>
    have hvt:=Tm.type_valid h
    rw [h] at ih0 hargs
    dsimp only at hargs
    repeat' first|with_reducible intro _|simp only[hat.lt,hat.w,oK,mR,Y1,Y2,Y3,Y4]|with_reducible refine X ?_ ?_|refine⟨_,_,_,rfl,?_⟩|refine⟨_,rfl,?_⟩|refine And.intro (by first|omega|trivial|(show _=_;rfl)|(with_reducible constructor)<;>first|omega|trivial|rfl) ?_|refine ih0 _ _ ?_|fail
    all_goals first | (exfalso;omega) | skip
    rename_i N2 hN2 d N3 hN3 hd _ _
    refine ⟨by unfold zB;simp only [oE,np];omega,fun c2=>ih2 _ _ _ _ (ts++[t]) (by omega) rfl (hr.snoc hd) (by simp [hti]) (fun u hu=>?_) ?_⟩
    ·rcases oG.1 hu with hu | hu
     ·exact hv u hu
     ·rw [oR] at hu;subst hu;exact hvt
    ·rw [hargs];cases yE xs g n<;>simp
 ·cases yE l g n<;>simp
theorem zDz {α:Type} {l:List α} (h:l.length=1):∃ a,l=[a]:=by
 match l,h with
 | [a],_=>exact ⟨a,rfl⟩
theorem zNS {α:Type} {l:List α} (h:l.length=2):∃ a b,l=[a,b]:=by
 match l,h with
 | [a,b],_=>exact ⟨a,b,rfl⟩
theorem zIn {e:Tm} {d:D} (he:e.Is d) (ih:match e with | .mk _ _ _ _ _ _ l=>IH l) {g:List Tg} {es:List D} {a:Option Addr} {c:Nat} {n:Int} (pre:Pre g e n) (ctx:Ctx g es) :
  zUn 156 [.sv a 4 es c,.dg 9 d,.j n] (e.raw g n):=fun N Q hQ=>by
 cases e with
 | mk k nm ot m ty re l=>
 dsimp only at ih
 obtain ⟨t0,t1,r0,r1,a1,es1,c1,rfl,hh,hlen1,hes1⟩:=Tm.is_mk.1 he
 have hl:=hes1.len
 have hl2:=ctx.all.len
 have nd:=y8 pre.ok
 have har:=nd.ar
 have hkk:=zJ0 (k:=k) (nm:=nm) (by omega)
 refine zI9 N a es c _ n Q fun _ _=>?_
 rcases hkk with rfl | rfl | rfl | h | h | rfl | h | rfl | rfl | h | h | h | h
 ·-- a variable
  have hraw:Tm.raw (.mk 1 nm ot m ty re l) g n=zBN g nm n:=by simp [Tm.raw]
  rw [hraw] at hQ
  rcases zGU g nm g.length with hlx | hlx
  ·have hlx:yg g nm = -1:=hlx
   have:zBN g nm n=none:=by simp [zBN,hlx]
   rw [this] at hQ
   repeat' first|with_reducible intro _|simp only[hlx,Y1,Y2,Y3,Y4]|with_reducible refine X ?_ ?_|refine⟨_,_,_,rfl,?_⟩|refine⟨_,rfl,?_⟩|refine And.intro (by first|omega|trivial|(show _=_;rfl)|(with_reducible constructor)<;>first|omega|trivial|rfl) ?_|refine (tG ctx a c nm) _ _ ?_|fail
   all_goals first | (exfalso;omega) | skip
   exact hQ _ _ (by omega) (by simp)
  ·have hlx:0<=yg g nm/\yg g nm<g.length:=hlx
   have hg:g[(yg g nm).toNat]?=some g[(yg g nm).toNat]:=oF (by omega)
   have hx:=ctx.all.get hg
   have hgd:g.getD (yg g nm).toNat tg0=g[(yg g nm).toNat]:=zJR hg
   obtain ⟨u0,u1,hd,hs,ht⟩:=hx
   have hm:g[(yg g nm).toNat]∈g:=nz _
   have hcn:=pre.ty _ hm
   have:zBN g nm n=if g[(yg g nm).toNat].lv=n then some g[(yg g nm).toNat].ty else none:=by
    rw [zBN,if_neg (by omega),hgd]
   rw [this] at hQ
   generalize g[(yg g nm).toNat]=x at *
   repeat' first|with_reducible intro _|simp only[hd,Y1,Y2,Y3,Y4]|with_reducible refine X ?_ ?_|refine⟨_,_,_,rfl,?_⟩|refine⟨_,rfl,?_⟩|refine And.intro (by first|omega|trivial|(show _=_;rfl)|(with_reducible constructor)<;>first|omega|trivial|rfl) ?_|refine (tG ctx a c nm) _ _ ?_|refine (zT _ _ ht (by omega)) _ _ ?_|fail
   all_goals first | (exfalso;omega) | skip
   ·rw [if_neg (by assumption)] at hQ;exact hQ _ _ (by omega) (by simp)
   ·rw [if_pos (by assumption)] at hQ;exact hQ _ _ (by omega) fun t ht=>by cases ht;assumption
 ·have hraw:Tm.raw (.mk 2 nm ot m ty re l) g n=some tInt:=by simp [Tm.raw]
  rw [hraw] at hQ
  repeat' first|with_reducible intro _|simp only[Y1,Y2,Y3,Y4]|with_reducible refine X ?_ ?_|refine⟨_,_,_,rfl,?_⟩|refine⟨_,rfl,?_⟩|refine And.intro (by first|omega|trivial|(show _=_;rfl)|(with_reducible constructor)<;>first|omega|trivial|rfl) ?_|refine xW _ _ ?_|fail
  all_goals first | (exfalso;omega) | skip
  exact hQ _ _ (by omega) fun t ht=>by cases ht;assumption
 ·have hraw:Tm.raw (.mk 3 nm ot m ty re l) g n=some tBool:=by simp [Tm.raw]
  rw [hraw] at hQ
  repeat' first|with_reducible intro _|simp only[Y1,Y2,Y3,Y4]|with_reducible refine X ?_ ?_|refine⟨_,_,_,rfl,?_⟩|refine⟨_,rfl,?_⟩|refine And.intro (by first|omega|trivial|(show _=_;rfl)|(with_reducible constructor)<;>first|omega|trivial|rfl) ?_|refine tE _ _ ?_|fail
  all_goals first | (exfalso;omega) | skip
  exact hQ _ _ (by omega) fun t ht=>by cases ht;assumption
 ·have hk:k=4\/k=5\/k=7:=by omega
  have:=zQe hk ih hes1 hlen1 pre ctx (a:=a) (c:=c) (t0:=t0) (t1:=t1) (r0:=r0) (r1:=r1) (a1:=a1) (c1:=c1) N Q hQ
  repeat' first|with_reducible intro _|simp only[Y1,Y2,Y3,Y4]|with_reducible refine X ?_ ?_|refine⟨_,_,_,rfl,?_⟩|refine⟨_,rfl,?_⟩|refine And.intro (by first|omega|trivial|(show _=_;rfl)|(with_reducible constructor)<;>first|omega|trivial|rfl) ?_|fail
  all_goals first | (exfalso;omega) | exact this
 ·have hk:k=4\/k=5\/k=7:=by omega
  have:=zQe hk ih hes1 hlen1 pre ctx (a:=a) (c:=c) (t0:=t0) (t1:=t1) (r0:=r0) (r1:=r1) (a1:=a1) (c1:=c1) N Q hQ
  repeat' first|with_reducible intro _|simp only[Y1,Y2,Y3,Y4]|with_reducible refine X ?_ ?_|refine⟨_,_,_,rfl,?_⟩|refine⟨_,rfl,?_⟩|refine And.intro (by first|omega|trivial|(show _=_;rfl)|(with_reducible constructor)<;>first|omega|trivial|rfl) ?_|fail
  all_goals first | (exfalso;omega) | exact this
 ·have h1 : l.length = 1 := by have:(l.length:Int)=1:=har
                               omega
  obtain ⟨e0,rfl⟩:=zDz h1
  obtain ⟨d0,_,rfl,h0,rfl⟩:=hes1
  have hraw:Tm.raw (.mk 6 nm ot m ty re [e0]) g n=(match e0.type (g++[⟨nm,ty,n⟩]) n with | some b=>some (tH ty b) | none=>none):=by simp [Tm.raw,uw]
  rw [hraw] at hQ
  repeat' first|with_reducible intro _|simp only[Y1,Y2,Y3,Y4]|with_reducible refine X ?_ ?_|refine⟨_,_,_,rfl,?_⟩|refine⟨_,rfl,?_⟩|refine And.intro (by first|omega|trivial|(show _=_;rfl)|(with_reducible constructor)<;>first|omega|trivial|rfl) ?_|refine (zS2 ih hh h0 pre ctx) _ _ ?_|fail
  all_goals first | (exfalso;omega) | skip
  exact hQ _ _ (by omega) (by assumption)
 ·have hk:k=4\/k=5\/k=7:=by omega
  have:=zQe hk ih hes1 hlen1 pre ctx (a:=a) (c:=c) (t0:=t0) (t1:=t1) (r0:=r0) (r1:=r1) (a1:=a1) (c1:=c1) N Q hQ
  repeat' first|with_reducible intro _|simp only[Y1,Y2,Y3,Y4]|with_reducible refine X ?_ ?_|refine⟨_,_,_,rfl,?_⟩|refine⟨_,rfl,?_⟩|refine And.intro (by first|omega|trivial|(show _=_;rfl)|(with_reducible constructor)<;>first|omega|trivial|rfl) ?_|fail
  all_goals first | (exfalso;omega) | exact this
 ·have h1 : l.length = 2 := by have:(l.length:Int)=2:=har
                               omega
  obtain ⟨e0,e1,rfl⟩:=zNS h1
  obtain ⟨d0,_,rfl,h0,d1,_,rfl,h1,rfl⟩:=hes1
  have hraw:Tm.raw (.mk 8 nm ot m ty re [e0,e1]) g n=(match e0.type g n with | some b=>e1.type (g++[⟨nm,b,n⟩]) n | none=>none):=by simp [Tm.raw,uw]
  rw [hraw] at hQ
  repeat' first|with_reducible intro _|simp only[Y1,Y2,Y3,Y4]|with_reducible refine X ?_ ?_|refine⟨_,_,_,rfl,?_⟩|refine⟨_,rfl,?_⟩|refine And.intro (by first|omega|trivial|(show _=_;rfl)|(with_reducible constructor)<;>first|omega|trivial|rfl) ?_|refine (zSz ih hh h0 h1 pre ctx) _ _ ?_|fail
  all_goals first | (exfalso;omega) | skip
  exact hQ _ _ (by omega) (by assumption)
 ·have h1 : l.length = 1 := by have:(l.length:Int)=1:=har
                               omega
  obtain ⟨e0,rfl⟩:=zDz h1
  obtain ⟨d0,_,rfl,h0,rfl⟩:=hes1
  have hraw:Tm.raw (.mk 9 nm ot m ty re [e0]) g n=(match e0.type ((g++[⟨nm,tH ty re,n⟩])++[⟨ot,ty,n⟩]) n with | some b=>if sn b re then some (tH ty re) else none | none=>none):=by simp only [Tm.raw,uw];rfl
  rw [hraw] at hQ
  repeat' first|with_reducible intro _|simp only[Y1,Y2,Y3,Y4]|with_reducible refine X ?_ ?_|refine⟨_,_,_,rfl,?_⟩|refine⟨_,rfl,?_⟩|refine And.intro (by first|omega|trivial|(show _=_;rfl)|(with_reducible constructor)<;>first|omega|trivial|rfl) ?_|refine (zTX ih hh h0 pre ctx) _ _ ?_|fail
  all_goals first | (exfalso;omega) | skip
  exact hQ _ _ (by omega) (by assumption)
 all_goals
  have h1:l.length=1:=by
   have hk:k=10\/k=11\/k=12\/k=13:=by omega
   have:(l.length:Int)=1:=by rw [har];rcases hk with rfl | rfl | rfl | rfl<;>rfl
   omega
  obtain ⟨e0,rfl⟩:=zDz h1
  obtain ⟨d0,_,rfl,h0,rfl⟩:=hes1
  have hk:k=10\/k=11\/k=12\/k=13:=by omega
  have hraw:Tm.raw (.mk k nm ot m ty re [e0]) g n=(match e0.type (if k=12 then sg g n else g) (ya k n) with | some t=>xU k t | none=>none):=by
   simp only [Tm.raw,uw]
   rw [if_neg (by omega),if_neg (by omega),if_neg (by omega),if_neg (by omega),if_neg (by omega),if_neg (by omega),if_pos hk]
  rw [hraw] at hQ
  repeat' first|with_reducible intro _|simp only[Y1,Y2,Y3,Y4]|with_reducible refine X ?_ ?_|refine⟨_,_,_,rfl,?_⟩|refine⟨_,rfl,?_⟩|refine And.intro (by first|omega|trivial|(show _=_;rfl)|(with_reducible constructor)<;>first|omega|trivial|rfl) ?_|refine (zS7 hk ih h0 pre ctx) _ _ ?_|fail
  all_goals first | (exfalso;omega) | skip
  exact hQ _ _ (by omega) (by assumption)
theorem rj:∀ {l:List Tm} {i:Nat} {g:List Tg} {n:Int} {t:Ty},uw l i g n=some t->t.valid=true
 | [],i,g,n,t,h=>by simp [uw] at h
 | e::es,0,g,n,t,h=>by simp only [uw] at h;exact Tm.type_valid h
 | e::es,i+1,g,n,t,h=>by simp only [uw] at h;exact rj h
theorem zJo {l:List Ty} {m:Nat} (h:∀ t∈l,t.cnt<=m) (I:1<=m) (i:Nat):(l.getD i tZero).cnt<=m:=by
 rw [oA]
 cases hi:l[i]? with
 | none=>simpa [tZero,Ty.cnt,zV] using I
 | some t=>exact h t (oC hi)
theorem zSw (t:Ty) (i:Nat):(t.as.getD i tZero).cnt<=t.cnt:=by
 cases t with
 | mk k l=>exact zJo (l:=l) (λu I=>by have:=vE (l:=l) I;simp only [Ty.cnt];omega) (by simp only [Ty.cnt];omega) i
theorem zTa {g:List Tg} {m:Nat} (h:∀ x∈g,x.ty.cnt<=m) (I:1<=m) (i:Nat):(g.getD i tg0).ty.cnt<=m:=by
 rw [oA]
 cases hi:g[i]? with
 | none=>simpa [tg0,tZero,Ty.cnt,zV] using I
 | some t=>exact h t (oC hi)
theorem zNx {k:Int} {s:ByteArray} {I:List Ty} {t:Ty} (J:∀ t∈I,t.cnt<=64) (h:xa k s I=some t):t.cnt<=64:=by
 simp only [xa] at h
 split at h
 ·simp only [zSx] at h
  split at h
  ·cases h;unfold zER;(repeat' split)<;>simp [tInt,tBool,Ty.cnt,zV]
  ·cases h
 ·split at h
  ·split at h
   ·cases h;exact zJo J (by omega) _
   ·cases h
  ·split at h
   ·cases h;exact oZ (zSw _ _) (zJo J (by omega) _)
   ·cases h
theorem zMN {k:Int} {u t:Ty} (J:u.cnt<=30) (h:xU k u=some t):t.cnt<=64:=by
 have I:(zAk u).cnt<=64:=by simp only [zAk,Ty.cnt,zV];omega
 have O:=zSw u 0
 simp only [xU] at h
 (repeat' split at h)<;>cases h<;>first | exact I | omega
theorem zPb {e:Tm} {g:List Tg} {n:Int} {t:Ty} (pre:Pre g e n) (h:e.raw g n=some t):t.cnt<=64:=by
 cases e with
 | mk k nm ot m ty re l=>
 have nd:=y8 pre.ok
 simp only [Tm.raw] at h
 split at h
 ·simp only [zBN] at h
  (repeat' split at h)<;>cases h
  exact zTa pre.ty (by omega) _
 split at h
 ·cases h;simp [tInt,Ty.cnt,zV]
 split at h
 ·cases h;simp [tBool,Ty.cnt,zV]
 split at h
 ·rename_i h6
  have hv:=Ty.valid_cnt (nd.vt (.inl h6))
  split at h
  ·rename_i b I
   have:=Ty.valid_cnt (rj I)
   cases h;simp only [tH,Ty.cnt,zV];omega
  ·cases h
 split at h
 ·split at h
  ·have:=Ty.valid_cnt (rj h);omega
  ·cases h
 split at h
 ·rename_i O
  have hv:=Ty.valid_cnt (nd.vt (.inr O))
  have hr:=Ty.valid_cnt (nd.vr O)
  split at h
  ·split at h
   ·cases h;simp only [tH,Ty.cnt,zV];omega
   ·cases h
  ·cases h
 split at h
 ·split at h
  ·rename_i b I
   exact zMN (Ty.valid_cnt (rj I)) h
  ·cases h
 ·split at h
  ·rename_i ts J
   exact zNx (λu hu=>oZ (Ty.valid_cnt ((zHd J).2 u hu)) (by omega)) h
  ·cases h
theorem xg:tZero.Is (.ag [.j 0,.sl none 2 [] 0]):=wD 0
theorem zIZ:∀ (e:Tm),∀ d,e.Is d->∀ g es a c n,Pre g e n->Ctx g es->zUe 115 [.sv a 4 es c,.dg 9 d,.j n] (e.type g n):=by
 refine Tm.ind λk nm ot m ty re l ih d hd g es a c n pre O N Q I=>?_
 have hs:=zIn (a:=a) (c:=c) hd ih pre O
 rw [Tm.type_eq] at I
 refine zJZ N a es c _ n Q λ_ _=>?_
 cases h:Tm.raw (.mk k nm ot m ty re l) g n with
 | none=>
   rw [h] at hs I
   repeat' first|with_reducible intro _|simp only[mP,Y1,Y2,Y3,Y4]|with_reducible refine X ?_ ?_|refine⟨_,_,_,rfl,?_⟩|refine⟨_,rfl,?_⟩|refine And.intro (by first|omega|trivial|(show _=_;rfl)|(with_reducible constructor)<;>first|omega|trivial|rfl) ?_|refine hs _ _ ?_|fail
   all_goals first | (exfalso;omega) | skip
   exact I _ _ (by omega) xg
 | some t=>
   have hc:=zPb pre h
   rw [h] at hs I
   simp only [vld] at I
   cases J:t.valid with
   | false=>
     rw [J] at I
     repeat' first|with_reducible intro _|simp only[mR,J,Y1,Y2,Y3,Y4]|with_reducible refine X ?_ ?_|refine⟨_,_,_,rfl,?_⟩|refine⟨_,rfl,?_⟩|refine And.intro (by first|omega|trivial|(show _=_;rfl)|(with_reducible constructor)<;>first|omega|trivial|rfl) ?_|refine hs _ _ ?_|refine (wB t _ (by rename_i h _ _ _ _;exact h t rfl) (by omega)) _ _ ?_|fail
     all_goals first | (exfalso;omega) | skip
     exact I _ _ (by omega) xg
   | true=>
     rw [J] at I
     repeat' first|with_reducible intro _|simp only[mR,J,Y1,Y2,Y3,Y4]|with_reducible refine X ?_ ?_|refine⟨_,_,_,rfl,?_⟩|refine⟨_,rfl,?_⟩|refine And.intro (by first|omega|trivial|(show _=_;rfl)|(with_reducible constructor)<;>first|omega|trivial|rfl) ?_|refine hs _ _ ?_|refine (wB t _ (by rename_i h _ _ _ _;exact h t rfl) (by omega)) _ _ ?_|fail
     all_goals first | (exfalso;omega) | skip
     rename_i hx _ _ _ _ _ _ _ _ _
     exact I _ _ (by omega) (hx t rfl)
/-- what TypeOf comes to -/
def zHS (g:List Tg) (e:Tm) (n:Int):Option Ty:=if zIl g/\zMq e n then e.type g n else none
theorem zLs:∀ {g:List Tg},zKG g=true->∀ x∈g,x.ty.valid=true
 | y::ys,h,x,hx=>by
   simp only [zKG,Tg.ok,oL] at h
   rcases oH.1 hx with rfl | hx
   ·exact h.1.2.1
   ·exact zLs h.2 x hx
theorem zUU {g:List Tg} {e:Tm} {n:Int} (J:zIl g=true) (I:zMq e n=true) (hc:e.cnt<=1048576000 / 2):Pre g e n:=by
 simp only [zIl,oL,nD] at J
 simp only [zMq,oL] at I
 exact ⟨I.1,I.2,by omega,λx O=>oZ (Ty.valid_cnt (zLs J.1 x O)) (by omega)⟩
end Go.Proofs.YtlahkdflngobiaaGreatDoor
