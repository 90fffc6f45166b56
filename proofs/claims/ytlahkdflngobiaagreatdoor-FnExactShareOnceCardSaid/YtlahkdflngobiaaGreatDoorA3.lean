/- Terms and typings as plain data; well-formed terms and contexts: the reference's functions. -/
import Derived.Test.YtlahkdflngobiaaGreatDoorA2
set_option linter.unusedVariables false
set_option linter.unusedSimpArgs false
namespace Go.Proofs.YtlahkdflngobiaaGreatDoor
open Go Go.Proofs Go.Proofs.Tryz Go.IntWalk
inductive Tm where
 | mk (k:Int) (nm ot:ByteArray) (n:Int) (ty re:Ty) (l:List Tm)
def Tm.as:Tm->List Tm
 | .mk _ _ _ _ _ _ l=>l
/-- the cells of a term ahead of its parts -/
structure Tm.Hd (nm ot:ByteArray) (ty re:Ty) (t0 t1 r0 r1:D):Prop where
 nm:nm.size<=4611686018427387904
 ot:ot.size<=4611686018427387904
 ty:ty.Is (.ag [t0,t1])
 re:re.Is (.ag [r0,r1])
mutual
def Tm.Is:Tm->D->Prop
 | .mk k nm ot n ty re l,d=>∃ t0 t1 r0 r1 a es c,d=.ag [.j k,.t nm,.t ot,.j n,t0,t1,r0,r1,.sl a 9 es c]/\Tm.Hd nm ot ty re t0 t1 r0 r1/\es.length<=4611686018427387904/\zDj l es
def zDj:List Tm->List D->Prop
 | [],es=>es=[]
 | t::I,es=>∃ d ds,es=d::ds/\t.Is d/\zDj I ds
end
theorem rY:∀ {l:List Tm} {es:List D},zDj l es↔All2 Tm.Is l es
 | [],es=>by simp only [zDj,All2]
 | t::ts,es=>by
   simp only [zDj,All2]
   exact ⟨λ⟨d,ds,I,J,O⟩=>⟨d,ds,I,J,rY.1 O⟩,λ⟨d,ds,I,J,O⟩=>⟨d,ds,I,J,rY.2 O⟩⟩
theorem Tm.is_mk {k:Int} {nm ot:ByteArray} {n:Int} {ty re:Ty} {l:List Tm} {d:D}:(Tm.mk k nm ot n ty re l).Is d ↔
  ∃ t0 t1 r0 r1 a es c,d=.ag [.j k,.t nm,.t ot,.j n,t0,t1,r0,r1,.sl a 9 es c]/\Tm.Hd nm ot ty re t0 t1 r0 r1/\es.length<=4611686018427387904/\All2 Tm.Is l es:=by
 simp only [Tm.Is,rY]
theorem Tm.ind {P:Tm->Prop} (h:∀ k nm ot n ty re l,(∀ t∈l,P t)->P (.mk k nm ot n ty re l)):∀ t,P t:=λt=>
 Tm.rec (motive_1:=P) (motive_2:=λl=>∀ t∈l,P t) (λk nm ot n ty re l I=>h k nm ot n ty re l I) (by simp) (λt l J O u hu=>by
  rcases oJ.1 hu with rfl | hu
  ·exact J
  ·exact O u hu) t
mutual
def Tm.cnt:Tm->Nat
 | .mk _ _ _ _ ty re l=>1+ty.cnt+re.cnt+zh l
def zh:List Tm->Nat
 | []=>0
 | t::I=>t.cnt+zh I
end
theorem zn:∀ {l:List Tm} {t:Tm},t∈l->t.cnt<=zh l
 | u::us,t,h=>by
   simp only [zh]
   rcases oJ.1 h with rfl | h
   ·omega
   ·have:=zn h;omega
theorem yg:∀ l:List Tm,l.length<=zh l
 | []=>oA _
 | .mk _ _ _ _ _ _ _::I=>by simp only [zh,Tm.cnt,oK];have:=yg I;omega
structure Tg where
 nm:ByteArray
 ty:Ty
 lv:Int
def Tg.Is (g:Tg) (d:D):Prop:=∃ t0 t1,d=.ag [.t g.nm,t0,t1,.j g.lv]/\g.nm.size<=4611686018427387904/\g.ty.Is (.ag [t0,t1])
theorem Tg.is_mk {nm:ByteArray} {ty:Ty} {lv:Int} {d:D}:(Tg.mk nm ty lv).Is d↔∃ t0 t1,d=.ag [.t nm,t0,t1,.j lv]/\nm.size<=4611686018427387904/\ty.Is (.ag [t0,t1]):=lD
def zPm (s:ByteArray):Int:=if s=bytes [43] then 2 else if s=bytes [45] then 2 else if s=bytes [42] then 2 else if s=bytes [61] then 2 else if s=bytes [60] then 2 else if s=bytes [38] then 2 else if s=bytes [124] then 2 else if s=bytes [33] then 1 else 0
theorem zAd (s:ByteArray):pp 180 [.str s] (zPm s):=λN Q I=>by
 refine zGg N s Q ?_
 repeat' first|with_reducible intro _|simp only[Y1,Y2,Y3,Y4]|with_reducible refine X ?_ ?_|refine⟨_,_,_,rfl,?_⟩|refine⟨_,rfl,?_⟩|refine And.intro (by first|omega|trivial|(show _=_;rfl)|(with_reducible constructor)<;>first|omega|trivial|rfl) ?_|fail
 all_goals (refine Qi (I _ (by assumption)) ?_;unfold zPm;(repeat' split)<;>first | rfl | contradiction)
def Ty.zero (t:Ty):Bool:=t.k==0&&(t.as.length:Int)==0
theorem zBl (t:Ty) (d:D) (hd:t.Is d):vh 209 [.dg 2 d] t.zero:=λN Q J=>by
 cases t with
 | mk k l=>
 obtain ⟨a,es,c,rfl,hlen,I⟩:=Ty.is_mk.1 hd
 have O:=I.len
 refine zHv N _ Q λ_=>?_
 repeat' first|with_reducible intro _|simp only[Y1,Y2,Y3,Y4]|with_reducible refine X ?_ ?_|refine⟨_,_,_,rfl,?_⟩|refine⟨_,rfl,?_⟩|refine And.intro (by first|omega|trivial|(show _=_;rfl)|(with_reducible constructor)<;>first|omega|trivial|rfl) ?_|fail
 all_goals refine Qb (J _ (by assumption)) ?_
 all_goals simp [Ty.zero,Ty.k,Ty.as,O, *]
def zFp (k:Int) (nm ot:ByteArray):Bool:=
 if k=4 then decide (zPm nm>0)&&decide (ot=bytes []) else if k=1\/k=6\/k=8 then sZ nm&&decide (ot=bytes []) else if k=9 then sZ nm&&(sZ ot&&!decide (nm=ot)) else decide (nm=bytes [])&&decide (ot=bytes [])
theorem zUZ (a b:Int):(a==b)=decide (a=b):=by rw [nQ];simp
def zF6 (k:Int):Bool:=k==6||k==9
def xF (k:Int) (nm ot:ByteArray) (n:Int) (ty re:Ty):Bool:=
 (zF6 k==ty.valid)&&((zF6 k||ty.zero)&&(((k==9)==re.valid)&&((k==9||re.zero)&&(inB n 0 (if k=2 then 10006 else if k=3 then 1 else 0)&&zFp k nm ot))))
def zLS (k:Int) (nm:ByteArray):Int:=
 if k=1\/k=2\/k=3 then 0 else if k=4 then zPm nm else if k=6\/k=9\/k=10\/k=11\/k=12\/k=13 then 1 else if k=7\/k=8 then 2 else if k=5 then 3 else -1
mutual
def Tm.ok:Tm->Bool
 | .mk k nm ot n ty re l=>zDq l&&(xF k nm ot n ty re&&(l.length:Int)==zLS k nm)
def zDq:List Tm->Bool
 | []=>true
 | t::I=>t.ok&&zDq I
end
theorem zGX {k n:Int} {nm ot:ByteArray} {ty re:Ty} {t0 t1 r0 r1 x:D} (h:Tm.Hd nm ot ty re t0 t1 r0 r1):vh 210 [.dg 9 (.ag [.j k,.t nm,.t ot,.j n,t0,t1,r0,r1,x])] (zFp k nm ot):=λN Q I=>by
 refine zGZ N _ Q λ_=>?_
 repeat' first|with_reducible intro _|simp only[Y1,Y2,Y3,Y4]|with_reducible refine X ?_ ?_|refine⟨_,_,_,rfl,?_⟩|refine⟨_,rfl,?_⟩|refine And.intro (by first|omega|trivial|(show _=_;rfl)|(with_reducible constructor)<;>first|omega|trivial|rfl) ?_|refine (zAd _) _ _ ?_|refine (rS _ h.nm) _ _ ?_|refine (rS _ h.ot) _ _ ?_|fail
 all_goals (refine Qb (I _ (by omega)) ?_;simp [zFp,ta, *])
theorem zE4 {k n:Int} {nm ot:ByteArray} {ty re:Ty} {t0 t1 r0 r1 x:D} (h:Tm.Hd nm ot ty re t0 t1 r0 r1) (hc:ty.cnt<=1073741824) (I:re.cnt<=1073741824) :
  vh 182 [.dg 9 (.ag [.j k,.t nm,.t ot,.j n,t0,t1,r0,r1,x])] (xF k nm ot n ty re):=λN Q J=>by
 refine zFH N _ Q λ_=>?_
 repeat' first|with_reducible intro _|simp only[Y1,Y2,Y3,Y4]|with_reducible refine X ?_ ?_|refine⟨_,_,_,rfl,?_⟩|refine⟨_,rfl,?_⟩|refine And.intro (by first|omega|trivial|(show _=_;rfl)|(with_reducible constructor)<;>first|omega|trivial|rfl) ?_|refine (xt _ _ h.ty hc) _ _ ?_|refine (xt _ _ h.re I) _ _ ?_|refine (zBl _ _ h.ty) _ _ ?_|refine (zBl _ _ h.re) _ _ ?_|refine (zAo _ _ _) _ _ ?_|refine (zGX h) _ _ ?_|fail
 all_goals first | (exfalso;omega) | (refine Qb (J _ (by omega)) ?_;simp [xF,zF6, *];done) | (refine Qb (J _ (by omega)) ?_;simp_all [xF,zF6];done) | (refine Qb (J _ (by omega)) ?_;simp_all only [xF,zF6,zUZ];simp_all;done)
theorem zGA {k n:Int} {nm ot:ByteArray} {t0 t1 r0 r1 x:D}:pp 147 [.dg 9 (.ag [.j k,.t nm,.t ot,.j n,t0,t1,r0,r1,x])] (zLS k nm):=λN Q I=>by
 refine zGj N _ Q λ_=>?_
 repeat' first|with_reducible intro _|simp only[Y1,Y2,Y3,Y4]|with_reducible refine X ?_ ?_|refine⟨_,_,_,rfl,?_⟩|refine⟨_,rfl,?_⟩|refine And.intro (by first|omega|trivial|(show _=_;rfl)|(with_reducible constructor)<;>first|omega|trivial|rfl) ?_|refine (zAd _) _ _ ?_|fail
 all_goals (refine Qi (I _ (by omega)) ?_;simp [zLS, *])
theorem zIP:∀ (t:Tm) (d:D),t.Is d->t.cnt<=1073741824->vh 155 [.dg 9 d] t.ok:=by
 refine Tm.ind λk nm ot n ty re l ih d hd hc N Q hQ=>?_
 obtain ⟨t0,t1,r0,r1,a,es,c,rfl,hh,hlen,O⟩:=Tm.is_mk.1 hd
 have hl:=O.len
 simp only [Tm.cnt] at hc
 refine zH3 N _ Q λ_=>?_
 have key:=up O hlen (λi xs=>∀ (N':Nat),N<=N'->(∀ N'',N'<=N''->Q (zDq xs&&(xF k nm ot n ty re&&(l.length:Int)==zLS k nm)) N'')->ve Q N i (.ag [.j k,.t nm,.t ot,.j n,t0,t1,r0,r1,.sl a 9 es c]) N') ?_ ?_
 ·exact key N (oA _) hQ
 ·intro i aa _ N' ab J
  refine pV _ _ _ _ _ ?_
  repeat' first|with_reducible intro _|simp only[aa,Y1,Y2,Y3,Y4]|with_reducible refine X ?_ ?_|refine⟨_,_,_,rfl,?_⟩|refine⟨_,rfl,?_⟩|refine And.intro (by first|omega|trivial|(show _=_;rfl)|(with_reducible constructor)<;>first|omega|trivial|rfl) ?_|refine (zE4 hh (by omega) (by omega)) _ _ ?_|refine zGA _ _ ?_|fail
  all_goals (refine Qb (J _ (by omega)) ?_;simp [zDq, *])
 ·intro i x xs I _ ac N' ab J
  have hb:=I.b
  have ae:=zn I.m
  refine pV _ _ _ _ _ ?_
  repeat' first|with_reducible intro _|simp only[I.lt,I.w,oH,Y1,Y2,Y3,Y4]|with_reducible refine X ?_ ?_|refine⟨_,_,_,rfl,?_⟩|refine⟨_,rfl,?_⟩|refine And.intro (by first|omega|trivial|(show _=_;rfl)|(with_reducible constructor)<;>first|omega|trivial|rfl) ?_|refine (ih x I.m _ I.r (by omega)) _ _ ?_|fail
  ·refine Qb (J _ (by omega)) ?_;simp [zDq, *]
  ·exact ac _ (by omega) λN'' h=>Qb (J N'' (by omega)) (by simp [zDq, *])
theorem qY {n a b:Int}:inB n a b=true↔a<=n/\n<=b:=by simp [inB]
def yX (k n:Int):Int:=if k=10 then n+1 else if k=11 then n - 1 else n
mutual
def Tm.lev:Tm->Int->Bool
 | .mk k _ _ _ _ _ l,n=>inB n 0 2&&zAN l (yX k n)
def zAN:List Tm->Int->Bool
 | [],_=>true
 | t::I,n=>t.lev n&&zAN I n
end
theorem zBa {k n m:Int} {c1 I J O c6 c7 c8:D} (h:0<=m/\m<=2):pp 212 [.dg 9 (.ag [.j k,c1,I,.j n,J,O,c6,c7,c8]),.j m] (yX k m):=λN Q hQ=>by
 refine zH9 N _ m Q λ_=>?_
 rw [i64_in (m+1) (by omega),i64_in (m - 1) (by omega)]
 repeat' first|with_reducible intro _|simp only[Y1,Y2,Y3,Y4]|with_reducible refine X ?_ ?_|refine⟨_,_,_,rfl,?_⟩|refine⟨_,rfl,?_⟩|refine And.intro (by first|omega|trivial|(show _=_;rfl)|(with_reducible constructor)<;>first|omega|trivial|rfl) ?_|fail
 all_goals (refine Qi (hQ _ (by omega)) ?_;simp [yX, *])
def zL9 (t:Tm) (n:Int):Bool:=t.ok&&t.lev n
structure Ctx (g:List Tg) (es:List D):Prop where
 len:es.length<=4611686018427387904
 all:All2 Tg.Is g es
def Tg.ok (g:Tg):Bool:=sZ g.nm&&(g.ty.valid&&inB g.lv 0 2)
def zJh:List Tg->Bool
 | []=>true
 | g::I=>g.ok&&zJh I
def zIK (g:List Tg):Bool:=zJh g&&decide ((g.length:Int)<=12)
def tg0:Tg:=⟨bytes [],tZero,0⟩
def zAO (g:List Tg) (s:ByteArray):Nat->Int
 | 0 => -1
 | k+1=>if (g.getD k tg0).nm=s then k else zAO g s k
def ym (g:List Tg) (s:ByteArray):Int:=zAO g s g.length
theorem zFx (g:List Tg) (s:ByteArray):∀ n:Nat,zAO g s n = -1\/(0<=zAO g s n/\zAO g s n<n)
 | 0=>.inl rfl
 | n+1=>by
   simp only [zAO]
   split
   ·exact .inr (by omega)
   ·rcases zFx g s n with h | h
    ·exact .inl h
    ·exact .inr (by omega)
theorem zUr {α:Type} {R:α->D->Prop} {l:List α} {es:List D} (h:All2 R l es) (hlen:es.length<=4611686018427387904) (P:Int->Prop) (O:P (-1))
  (hs:∀ (i:Nat) x,At R l es i x->decide ((i:Int)≥0)=true->IntKind.i64.wrap ((i:Int) - 1)=(i:Int) - 1->P ((i:Int) - 1)->P i):P ((es.length:Int) - 1):=by
 have hl:=h.len
 have key:∀ n:Nat,n<=l.length->P ((n:Int) - 1):=by
  intro n
  induction n with
  | zero=>intro _;exact O
  | succ n ih=>
    intro I
    have J:l[n]?=some l[n]:=oI I
    have e:((n+1:Nat):Int) - 1=n:=by omega
    rw [e]
    exact hs n _ ⟨mu (by omega),⟨by omega,by omega⟩,by rw [i64_in _ (by omega)];simp,h.get J,mN I,J⟩ (mu (by omega)) (i64_in _ (by omega)) (ih (by omega))
 rw [hl]
 exact key _ (oA _)
theorem zI1 {α:Type} {l:List α} {i:Nat} {x d:α} (h:l[i]?=some x):l.getD i d=x:=by simp [oB,h]
theorem rH {g:List Tg} {es:List D} (h:Ctx g es) (a:Option Addr) (c:Nat) (s:ByteArray):pp 183 [.sv a 4 es c,.str s] (ym g s):=λN Q hQ=>by
 have hl:=h.all.len
 have h1:=h.len
 refine zIU N a es c s Q λ_=>?_
 have key:=zUr h.all h.len (λm=>∀ (N':Nat),N<=N'->(∀ N'',N'<=N''->Q (zAO g s (m+1).toNat) N'')->vS Q N a es c s m N') ?_ ?_
 ·rw [i64_in _ (by omega)]
  exact key N (oA _) λN' J=>Qi (hQ N' J) (by rw [ym,<-hl];congr 1;omega)
 ·intro N' J I
  refine pJ _ _ _ _ _ _ _ _ ?_
  repeat' first|with_reducible intro _|simp only[Y1,Y2,Y3,Y4]|with_reducible refine X ?_ ?_|refine⟨_,_,_,rfl,?_⟩|refine⟨_,rfl,?_⟩|refine And.intro (by first|omega|trivial|(show _=_;rfl)|(with_reducible constructor)<;>first|omega|trivial|rfl) ?_|fail
  ·omega
  ·exact I _ (by assumption)
 ·intro i x O aa hw ih N' J I
  have hb:=O.b
  obtain ⟨t0,t1,hd,hs,ht⟩:=O.r
  have e1:((i:Int)+1).toNat=i+1:=by omega
  have e2:((i:Int) - 1+1).toNat=i:=by omega
  rw [e1] at I
  simp only [zAO,zI1 O.g] at I
  rw [e2] at ih
  refine pJ _ _ _ _ _ _ _ _ ?_
  repeat' first|with_reducible intro _|simp only[aa,hw,oH,hd,Y1,Y2,Y3,Y4]|with_reducible refine X ?_ ?_|refine⟨_,_,_,rfl,?_⟩|refine⟨_,rfl,?_⟩|refine And.intro (by first|omega|trivial|(show _=_;rfl)|(with_reducible constructor)<;>first|omega|trivial|rfl) ?_|fail
  ·rename_i hx _ _;exact Qi (I _ (by omega)) (by rw [if_pos hx])
  ·rename_i hx;exact ih _ (by omega) λN'' h=>Qi (I N'' (by omega)) (by rw [if_neg hx])
theorem Ty.is_cells {t:Ty} {d:D} (h:t.Is d):t.Is (.ag [D.cell d 0,D.cell d 1]):=by
 cases t with
 | mk k l=>obtain ⟨a,es,c,rfl,_,_⟩:=Ty.is_mk.1 h;exact h
def zFA (g:List Tg) (n:Int) (x:Tg) (i:Nat):Bool:=x.ty.base&&(decide (x.lv<=n)&&decide (ym g x.nm=(i:Int)))
def s8 (g:List Tg) (n:Int):List Tg->Nat->List Tg
 | [],_=>[]
 | x::xs,i=>if zFA g n x i then x::s8 g n xs (i+1) else s8 g n xs (i+1)
def sH (g:List Tg) (n:Int):List Tg:=s8 g n g 0
theorem zCT (g:List Tg) (n:Int):∀ (l:List Tg) (i:Nat),(∀ x∈s8 g n l i,x∈l)/\(s8 g n l i).length<=l.length
 | [],i=>by simp [s8]
 | x::xs,i=>by
   have h:=zCT g n xs (i+1)
   simp only [s8]
   split
   ·refine ⟨λy hy=>?_,by simp;exact h.2⟩
    rcases oJ.1 hy with rfl | hy
    ·exact nT
    ·exact nj _ (h.1 y hy)
   ·exact ⟨λy hy=>nj _ (h.1 y hy),by have:=h.2;simp;omega⟩
theorem zAQ {g:List Tg} {es:List D} (h:Ctx g es) (hg:g.length<=1073741824) (hc:∀ x∈g,x.ty.cnt<=1073741824) (a:Option Addr) (c:Nat) (n:Int) :
  ∀ (N:Nat) (Q:QT [.sl 4]),(∀ a' es' c' N',N<=N'->Ctx (sH g n) es'->Q a' es' c' N')->ACalls prog 211 [.sl 4] [.sv a 4 es c,.j n] N Q:=λN Q hQ=>by
 have hl:=h.all.len
 refine zGh N a es c n Q λ_=>?_
 have key:=up h.all h.len (λi xs=>∀ (r:List D) (m q:Nat) (N':Nat) (done:List Tg),N<=N'->m=r.length->All2 Tg.Is done r->done.length<=i->done++s8 g n xs i=sH g n->yW Q N a es c n m q i r q N') ?_ ?_
 ·exact key [] 0 0 N [] (oA _) rfl rfl (oA _) rfl
 ·intro i aa hi r m q N' done ab hm J ac hd
  refine r7 _ _ _ _ _ _ _ _ _ _ _ _ ?_
  repeat' first|with_reducible intro _|simp only[aa,Y1,Y2,Y3,Y4]|with_reducible refine X ?_ ?_|refine⟨_,_,_,rfl,?_⟩|refine⟨_,rfl,?_⟩|refine And.intro (by first|omega|trivial|(show _=_;rfl)|(with_reducible constructor)<;>first|omega|trivial|rfl) ?_|fail
  refine hQ _ _ _ _ (by omega) ⟨by have:=J.len;omega,?_⟩
  simp only [s8,oY] at hd
  rwa [<-hd]
 ·intro i x xs I _ O r m q N' done ab hm J ac hd
  have hb:=I.b
  have ah:=J.len
  obtain ⟨t0,t1,he,hs,ht⟩:=I.r
  simp only [s8] at hd
  refine r7 _ _ _ _ _ _ _ _ _ _ _ _ ?_
  repeat' first|with_reducible intro _|simp only[I.lt,I.w,oH,he,Y1,Y2,Y3,Y4]|with_reducible refine X ?_ ?_|refine⟨_,_,_,rfl,?_⟩|refine⟨_,rfl,?_⟩|refine And.intro (by first|omega|trivial|(show _=_;rfl)|(with_reducible constructor)<;>first|omega|trivial|rfl) ?_|refine (ri _ _ ht) _ _ ?_|refine (rH h a c _) _ _ ?_|refine (zu _ _ ht (hc x I.m)) _ _ ?_|fail
  ·rename_i N2 ai x' N3 aj hx ho _ _
   have ae:zFA g n x i=true:=by simp [zFA, *]
   rw [if_pos ae] at hd
   refine ⟨by unfold zC;simp only [oE,nu];omega,λc2=>O _ _ _ _ (done++[x]) (by omega) rfl (J.snoc ⟨_,_,rfl,hs,Ty.is_cells hx⟩) (by simp;omega) (by simpa using hd)⟩
  all_goals (refine O _ _ _ _ done (by omega) hm J (by omega) ?_;rw [<-hd,if_neg (by simp [zFA, *])])
theorem wP {g:List Tg} {es:List D} (h:Ctx g es) (hg:g.length<=1073741824) (a:Option Addr) (c:Nat) {s:ByteArray} (hs:s.size<=4611686018427387904) {t:Ty} {d:D} (I:t.Is d) (n:Int) :
  ∀ (N:Nat) (Q:QT [.sl 4]),(∀ J es' O N',N<=N'->Ctx (g++[⟨s,t,n⟩]) es'->Q J es' O N')->ACalls prog 169 [.sl 4] [.sv a 4 es c,.str s,.dg 2 d,.j n] N Q:=λN Q hQ=>by
 have hl:=h.all.len
 have hb:∀ x:D,zC ([]++es) [x] 56:=λx=>by unfold zC;simp only [oR,oE,nu];omega
 have aa:zC [] es 56:=by unfold zC;simp only [oR];omega
 refine zJR N a es c s d n Q λ_ _=>?_
 repeat' first|with_reducible intro _|simp only[Y1,Y2,Y3,Y4]|with_reducible refine X ?_ ?_|refine⟨_,_,_,rfl,?_⟩|refine⟨_,rfl,?_⟩|refine And.intro (by first|omega|trivial|(show _=_;rfl)|(with_reducible constructor)<;>first|omega|trivial|rfl) ?_|fail
 refine ⟨hb _,λc2=>?_⟩
 repeat' first|with_reducible intro _|simp only[Y1,Y2,Y3,Y4]|with_reducible refine X ?_ ?_|refine⟨_,_,_,rfl,?_⟩|refine⟨_,rfl,?_⟩|refine And.intro (by first|omega|trivial|(show _=_;rfl)|(with_reducible constructor)<;>first|omega|trivial|rfl) ?_|fail
 refine hQ _ _ _ _ (by omega) ⟨by simp;omega,?_⟩
 simp only [oR]
 exact h.all.snoc ⟨_,_,rfl,hs,Ty.is_cells I⟩
def zNG (o:Option Ty) (d:D) (b:Bool):Prop:=match o with
 | some t=>b=true/\t.Is d
 | none=>b=false
/-- the kind of what an operation works on -/
def zJ8 (s:ByteArray):Int:=if s=bytes [38] then 2 else if s=bytes [124] then 2 else if s=bytes [33] then 2 else 1
def zE6 (s:ByteArray):Ty:=if s=bytes [43] then tInt else if s=bytes [45] then tInt else if s=bytes [42] then tInt else tBool
def zRO (w:Int):List Ty->Bool
 | []=>true
 | t::I=>decide (t.k=w)&&zRO w I
def zS0 (s:ByteArray) (I:List Ty):Option Ty:=if zRO (zJ8 s) I then some (zE6 s) else none
theorem zLn {ts:List Ty} {es:List D} (h:All2 Ty.Is ts es) (hlen:es.length<=4611686018427387904) (a:Option Addr) (c:Nat) (s:ByteArray) :
  ∀ (N:Nat) (Q:QT [.ag 2,.bool]),(∀ d b N',N<=N'->zNG (zS0 s ts) d b->(∀ x∈d.foot,N<=x)->Q d b N')->ACalls prog 213 [.ag 2,.bool] [.str s,.sv a 2 es c] N Q:=fun N Q hQ=>by
 refine zLv N s a es c Q fun _=>?_
 have key:yq Q N s a es c (zJ8 s) (0:Nat) 0 none [] 0 N:=by
  refine up h hlen (fun i xs=>∀ (N':Nat),N<=N'->zRO (zJ8 s) xs=zRO (zJ8 s) ts->yq Q N s a es c (zJ8 s) i 0 none [] 0 N') ?_ ?_ N (oA _) rfl
  ·intro i hlt _ N' hN' hk
   refine zBi _ _ _ _ _ _ _ _ _ _ _ _ _ ?_
   have ho:zS0 s ts=some (zE6 s):=by rw [zS0,<-hk];rfl
   rw [ho] at hQ
   repeat' first|with_reducible intro _|simp only[hlt,Y1,Y2,Y3,Y4]|with_reducible refine X ?_ ?_|refine⟨_,_,_,rfl,?_⟩|refine⟨_,rfl,?_⟩|refine And.intro (by first|omega|trivial|(show _=_;rfl)|(with_reducible constructor)<;>first|omega|trivial|rfl) ?_|refine zC8 _ _ ?_|refine zA6 _ _ ?_|fail
   all_goals
    rename_i hx ho _ _ _ _
    refine hQ _ _ _ (by omega) ⟨rfl,?_⟩ fun b hb=>by have:=ho.lo b hb;omega
    have e:zE6 s=tInt\/zE6 s=tBool:=by unfold zE6;(repeat' split)<;>simp
    first
     | (have e:zE6 s=tInt:=by unfold zE6;(repeat' split)<;>first | rfl | contradiction
        rw [e];exact hx)
     | (have e:zE6 s=tBool:=by unfold zE6;(repeat' split)<;>first | rfl | contradiction
        rw [e];exact hx)
  ·intro i x xs hat _ ih2 N' hN' hk
   have hb:=hat.b
   cases x with
   | mk k l=>
   obtain ⟨a1,es1,c1,he,_,_⟩:=Ty.is_mk.1 hat.r
   refine zBi _ _ _ _ _ _ _ _ _ _ _ _ _ ?_
   repeat' first|with_reducible intro _|simp only[hat.lt,hat.w,oH,he,Y1,Y2,Y3,Y4]|with_reducible refine X ?_ ?_|refine⟨_,_,_,rfl,?_⟩|refine⟨_,rfl,?_⟩|refine And.intro (by first|omega|trivial|(show _=_;rfl)|(with_reducible constructor)<;>first|omega|trivial|rfl) ?_|fail
   ·rename_i hne _ _
    refine hQ _ _ _ (by omega) ?_ (by simp [D.foot,zB])
    have:zRO (zJ8 s) ts=false:=by rw [<-hk];simp [zRO,Ty.k,hne]
    rw [zS0,this];rfl
   ·rename_i hne
    exact ih2 _ hN' (by rw [<-hk];simp [zRO,Ty.k,hne])
 have e:zJ8 s=2\/zJ8 s=1:=by unfold zJ8;(repeat' split)<;>simp
 repeat' first|with_reducible intro _|simp only[Y1,Y2,Y3,Y4]|with_reducible refine X ?_ ?_|refine⟨_,_,_,rfl,?_⟩|refine⟨_,rfl,?_⟩|refine And.intro (by first|omega|trivial|(show _=_;rfl)|(with_reducible constructor)<;>first|omega|trivial|rfl) ?_|fail
 all_goals
  first
   | (have e:zJ8 s=2:=by unfold zJ8;(repeat' split)<;>first | rfl | contradiction
      rw [e] at key;exact key)
   | (have e:zJ8 s=1:=by unfold zJ8;(repeat' split)<;>first | rfl | contradiction
      rw [e] at key;exact key)
/-- the type of a form of parts of these types -/
def wW (k:Int) (s:ByteArray) (I:List Ty):Option Ty:=
 if k=4 then zS0 s I
 else if k=5 then (if (I.getD 0 tZero).k=2/\tO (I.getD 1 tZero) (I.getD 2 tZero) then some (I.getD 1 tZero) else none)
 else if (I.getD 0 tZero).k=3/\tO ((I.getD 0 tZero).as.getD 0 tZero) (I.getD 1 tZero) then some ((I.getD 0 tZero).as.getD 1 tZero) else none
theorem Ty.form_len {k:Int} {l:List Ty} (h:(Ty.mk k l).valid=true):zAF k l.length=true:=by
 simp only [Ty.valid,Ty.form,oL] at h
 exact h.2.2
theorem Ty.valid_cnt {t:Ty} (h:t.valid=true):t.cnt<=30:=by
 simp only [Ty.valid,oL,nC] at h
 exact h.1.1
theorem zIG {I:List Ty} {es:List D} (h:All2 Ty.Is I es) (hlen:es.length<=4611686018427387904) (a:Option Addr) (c:Nat) {k n:Int} {s:ByteArray} {c2 c4 c5 c6 c7 c8:D}
  (hv:∀ t∈I,t.valid=true) (hk:k=4\/k=5/\I.length=3\/k=7/\I.length=2) :
  ∀ (N:Nat) (Q:QT [.ag 2,.bool]),(∀ d b N',N<=N'->zNG (wW k s I) d b->(∀ x∈d.foot,x∈zB es\/N<=x)->Q d b N') ->
  ACalls prog 186 [.ag 2,.bool] [.dg 9 (.ag [.j k,.t s,c2,.j n,c4,c5,c6,c7,c8]),.sv a 2 es c] N Q:=λN Q hQ=>by
 refine zIe N _ a es c Q λ_ _=>?_
 rcases hk with rfl | ⟨rfl,hl⟩ | ⟨rfl,hl⟩
 ·repeat' first|with_reducible intro _|simp only[Y1,Y2,Y3,Y4]|with_reducible refine X ?_ ?_|refine⟨_,_,_,rfl,?_⟩|refine⟨_,rfl,?_⟩|refine And.intro (by first|omega|trivial|(show _=_;rfl)|(with_reducible constructor)<;>first|omega|trivial|rfl) ?_|refine (zLn h hlen a c s) _ _ ?_|fail
  ·rename_i N1 ac d b N2 ae ho ah _ _ N3 ai
   exact hQ _ _ _ (by omega) (by simpa [wW] using ho) λx hx=>.inr (by have:=ah x hx;omega)
  all_goals (exfalso;omega)
 ·obtain ⟨t0,t1,t2,rfl⟩:∃ t0 t1 t2,I=[t0,t1,t2]:=by
   match I,hl with
   | [t0,t1,t2],_=>exact ⟨t0,t1,t2,rfl⟩
  obtain ⟨d0,_,rfl,h0,d1,_,rfl,h1,d2,_,rfl,h2,rfl⟩:=h
  cases t0 with
  | mk k0 J=>
  obtain ⟨a0,aj,c0,rfl,ak,aa⟩:=Ty.is_mk.1 h0
  have hq:∀ (b:Bool) (N':Nat),N<=N'->(k0=2/\tO t1 t2=b\/¬k0=2/\b=false)->Q d1 b N':=λb N' O hb=>by
   refine hQ _ _ _ O ?_ λx hx=>.inl (by simp only [zB,oF];exact .inr (.inl hx))
   rcases hb with ⟨e1,e2⟩ | ⟨e1,rfl⟩
   ·cases b<;>simp [wW,Ty.k,e1,e2,zNG,h1]
   ·simp [wW,Ty.k,e1,zNG]
  repeat' first|with_reducible intro _|simp only[oK,oO,Y1,Y2,Y3,Y4]|with_reducible refine X ?_ ?_|refine⟨_,_,_,rfl,?_⟩|refine⟨_,rfl,?_⟩|refine And.intro (by first|omega|trivial|(show _=_;rfl)|(with_reducible constructor)<;>first|omega|trivial|rfl) ?_|refine (xi _ _ _ _ h1 h2) _ _ ?_|fail
  all_goals first | (exfalso;omega) | skip
  ·exact hq _ _ (by omega) (.inl ⟨by assumption,rfl⟩)
  ·exact hq _ _ (by omega) (.inr ⟨by assumption,rfl⟩)
 ·obtain ⟨t0,t1,rfl⟩:∃ t0 t1,I=[t0,t1]:=by
   match I,hl with
   | [t0,t1],_=>exact ⟨t0,t1,rfl⟩
  obtain ⟨d0,_,rfl,h0,d1,_,rfl,h1,rfl⟩:=h
  cases t0 with
  | mk k0 J=>
  obtain ⟨a0,aj,c0,rfl,ak,aa⟩:=Ty.is_mk.1 h0
  have hf:=Ty.form_len (hv _ nT)
  have al:=Ty.valid_cnt (hv _ nT)
  have hz:∀ N',N<=N'->¬(k0=3/\tO (J.getD 0 tZero) t1=true)->Q (.ag [.j 0,.sl none 2 [] 0]) false N':=λN' O hb=>by
   refine hQ _ _ _ O ?_ (by simp [D.foot,zB])
   have:wW 7 s [.mk k0 J,t1]=none:=by
    simp only [wW]
    rw [if_neg (by omega),if_neg (by omega)]
    exact if_neg hb
   rw [this];rfl
  by_cases hk:k0=3
  ·subst hk
   have ab:(J.length:Int)=2:=by simpa [zAF] using hf
   have ab:J.length=2:=by omega
   obtain ⟨u0,u1,rfl⟩:∃ t0 t1,J=[t0,t1]:=by
    match J,ab with
    | [t0,t1],_=>exact ⟨t0,t1,rfl⟩
   obtain ⟨x0,_,rfl,am,x1,_,rfl,ao,rfl⟩:=aa
   simp only [Ty.cnt,zI] at al
   repeat' first|with_reducible intro _|simp only[oK,oO,Y1,Y2,Y3,Y4]|with_reducible refine X ?_ ?_|refine⟨_,_,_,rfl,?_⟩|refine⟨_,rfl,?_⟩|refine And.intro (by first|omega|trivial|(show _=_;rfl)|(with_reducible constructor)<;>first|omega|trivial|rfl) ?_|refine (xi _ _ _ _ am h1) _ _ ?_|refine (zu _ _ ao (by omega)) _ _ ?_|fail
   all_goals first | (exfalso;omega) | skip
   ·rename_i he N1 ac d' N2 ae aq ho _ _ N3 ai
    refine hQ _ _ _ (by omega) ?_ λx hx=>.inr (by have:=ho.lo x hx;omega)
    simp [wW,Ty.k,Ty.as,he,zNG,aq]
   ·rename_i he _ _
    exact hz _ (by omega) (by simp [he])
  ·repeat' first|with_reducible intro _|simp only[oK,oO,Y1,Y2,Y3,Y4]|with_reducible refine X ?_ ?_|refine⟨_,_,_,rfl,?_⟩|refine⟨_,rfl,?_⟩|refine And.intro (by first|omega|trivial|(show _=_;rfl)|(with_reducible constructor)<;>first|omega|trivial|rfl) ?_|fail
   all_goals first | (exfalso;omega) | skip
   exact hz _ (by omega) λhc=>hk hc.1
def vld (o:Option Ty):Option Ty:=match o with
 | some t=>if t.valid then some t else none
 | none=>none
/-- the type of code, a splice, a run or a lift over this type -/
def xS (k:Int) (t:Ty):Option Ty:=
 if k=10 then some (zED t) else if k=13 then (if t.base then some (zED t) else none) else if t.k=4 then some (t.as.getD 0 tZero) else none
def zCe (g:List Tg) (s:ByteArray) (n:Int):Option Ty:=
 if ym g s<0 then none else if (g.getD (ym g s).toNat tg0).lv=n then some (g.getD (ym g s).toNat tg0).ty else none
mutual
def Tm.type:Tm->List Tg->Int->Option Ty
 | .mk k nm ot _ ty re l,g,n=>vld (
   if k=1 then zCe g nm n
   else if k=2 then some tInt
   else if k=3 then some tBool
   else if k=6 then (match uy l 0 (g++[⟨nm,ty,n⟩]) n with | some b=>some (tV ty b) | none=>none)
   else if k=8 then (match uy l 0 g n with | some a=>uy l 1 (g++[⟨nm,a,n⟩]) n | none=>none)
   else if k=9 then (match uy l 0 ((g++[⟨nm,tV ty re,n⟩])++[⟨ot,ty,n⟩]) n with | some b=>if tO b re then some (tV ty re) else none | none=>none)
   else if k=10\/k=11\/k=12\/k=13 then (match uy l 0 (if k=12 then sH g n else g) (yX k n) with | some t=>xS k t | none=>none)
   else (match ya l g n with | some I=>wW k nm I | none=>none))
def uy:List Tm->Nat->List Tg->Int->Option Ty
 | [],_,_,_=>none
 | t::_,0,g,n=>t.type g n
 | _::I,i+1,g,n=>uy I i g n
def ya:List Tm->List Tg->Int->Option (List Ty)
 | [],_,_=>some []
 | t::I,g,n=>match t.type g n with
   | some u=>(match ya I g n with | some us=>some (u::us) | none=>none)
   | none=>none
end
theorem zRS {o:Option Ty} {t:Ty} (h:vld o=some t):o=some t/\t.valid=true:=by
 cases o with
 | none=>cases h
 | some u=>
   simp only [vld] at h
   split at h
   ·cases h;exact ⟨rfl,by assumption⟩
   ·cases h
theorem Tm.type_valid {e:Tm} {g:List Tg} {n:Int} {t:Ty} (h:e.type g n=some t):t.valid=true:=by
 cases e with
 | mk k nm ot m ty re l=>
   simp only [Tm.type] at h
   exact (zRS h).2
theorem zHB:∀ {l:List Tm} {g:List Tg} {n:Int} {I:List Ty},ya l g n=some I->I.length=l.length/\∀ t∈I,t.valid=true
 | [],g,n,I,h=>by simp [ya] at h;subst h;simp
 | e :: es,g,n,I,h=>by
   simp only [ya] at h
   split at h
   ·rename_i u O
    split at h
    ·rename_i us J
     cases h
     have:=zHB J
     refine ⟨by simp [this.1],λt ht=>?_⟩
     rcases oJ.1 ht with rfl | ht
     ·exact Tm.type_valid O
     ·exact this.2 t ht
    ·cases h
   ·cases h
/-- what typing may count on -/
structure Pre (g:List Tg) (e:Tm) (n:Int):Prop where
 ok:e.ok=true
 lev:e.lev n=true
 len:g.length+2*e.cnt<=1073741824
 ty:∀ x∈g,x.ty.cnt<=64
/-- the facts of a well-formed node -/
structure Node (k:Int) (nm ot:ByteArray) (n:Int) (ty re:Ty) (l:List Tm):Prop where
 f:xF k nm ot n ty re=true
 ar:(l.length:Int)=zLS k nm
 sub:∀ x∈l,x.ok=true
theorem zKG:∀ {l:List Tm} {x:Tm},zDq l=true->x∈l->x.ok=true
 | t::I,x,h,hx=>by
   simp only [zDq,oL] at h
   rcases oJ.1 hx with rfl | hx
   ·exact h.1
   ·exact zKG h.2 hx
theorem zHg:∀ {l:List Tm} {n:Int} {x:Tm},zAN l n=true->x∈l->x.lev n=true
 | t::I,n,x,h,hx=>by
   simp only [zAN,oL] at h
   rcases oJ.1 hx with rfl | hx
   ·exact h.1
   ·exact zHg h.2 hx
theorem xp {k:Int} {nm ot:ByteArray} {n:Int} {ty re:Ty} {l:List Tm} (h:(Tm.mk k nm ot n ty re l).ok=true):Node k nm ot n ty re l:=by
 simp only [Tm.ok,oL] at h
 exact ⟨h.2.1,by simpa using h.2.2,λx I=>zKG h.1 I⟩
theorem Node.vt {k n:Int} {nm ot:ByteArray} {ty re:Ty} {l:List Tm} (h:Node k nm ot n ty re l) (I:k=6\/k=9):ty.valid=true:=by
 have:=h.f
 have e:zF6 k=true:=by rcases I with rfl | rfl<;>rfl
 simp only [xF,oL,e] at this
 simpa using this.1
theorem Node.vr {k n:Int} {nm ot:ByteArray} {ty re:Ty} {l:List Tm} (h:Node k nm ot n ty re l) (I:k=9):re.valid=true:=by
 have:=h.f
 subst I
 simp only [xF,oL] at this
 simpa using this.2.2.1
theorem zJV {k:Int} {nm:ByteArray} (h:0<=zLS k nm):k=1\/k=2\/k=3\/k=4\/k=5\/k=6\/k=7\/k=8\/k=9\/k=10\/k=11\/k=12\/k=13:=by
 unfold zLS at h
 (repeat' split at h)<;>omega
theorem Ty.cnt_pos (t:Ty):1<=t.cnt:=by cases t;simp only [Ty.cnt];omega
theorem Pre.sub {g g':List Tg} {k:Int} {nm ot:ByteArray} {m:Int} {ty re:Ty} {l:List Tm} {n:Int} {x:Tm} (h:Pre g (.mk k nm ot m ty re l) n) (I:x∈l) (hl:g'.length<=g.length+2) (J:∀ y∈g',y.ty.cnt<=64):Pre g' x (yX k n):=by
 have O:=h.len
 have h2:=zn I
 have h3:=ty.cnt_pos
 have h4:=re.cnt_pos
 simp only [Tm.cnt] at O
 refine ⟨(xp h.ok).sub x I,?_,by omega,J⟩
 have:=h.lev
 simp only [Tm.lev,oL] at this
 exact zHg this.2 I
theorem Pre.lv {g:List Tg} {e:Tm} {n:Int} (h:Pre g e n):0<=n/\n<=2:=by
 have:=h.lev
 cases e
 simp only [Tm.lev,oL] at this
 exact qY.1 this.1
theorem qS {g:List Tg} (h:∀ y∈g,y.ty.cnt<=64) {x:Tg} (I:x.ty.cnt<=64):∀ y∈g++[x],y.ty.cnt<=64:=λy hy=>by
 rcases oF.1 hy with hy | hy
 ·exact h y hy
 ·rw [oZ] at hy;subst hy;exact I
theorem zJK (e:Tm) (g:List Tg) (n:Int):((e.type g n).getD tZero).cnt<=30:=by
 cases h:e.type g n with
 | none=>simp [tZero,Ty.cnt,zI]
 | some t=>simpa using Ty.valid_cnt (Tm.type_valid h)
/-- returns this type and true, or the zero type and false -/
def zTZ (f:FuncId) (args:List PV) (o:Option Ty):Prop:=∀ (N:Nat) (Q:QT [.ag 2,.bool]),(∀ d N',N<=N'->(o.getD tZero).Is d->Q d o.isSome N')->ACalls prog f [.ag 2,.bool] args N Q
/-- returns this type and true, or false -/
def zTf (f:FuncId) (args:List PV) (o:Option Ty):Prop:=∀ (N:Nat) (Q:QT [.ag 2,.bool]),(∀ d N',N<=N'->(∀ t,o=some t->t.Is d)->Q d o.isSome N')->ACalls prog f [.ag 2,.bool] args N Q
def IH (l:List Tm):Prop:=∀ x∈l,∀ d,x.Is d->∀ g es a c n,Pre g x n->Ctx g es->zTZ 115 [.sv a 4 es c,.dg 9 d,.j n] (x.type g n)
theorem zSA {nm ot:ByteArray} {m n:Int} {ty re:Ty} {e0:Tm} {t0 t1 r0 r1 d0:D} {a1 a:Option Addr} {c1 c:Nat} {g:List Tg} {es:List D} (ih:IH [e0]) (O:Tm.Hd nm ot ty re t0 t1 r0 r1) (h0:e0.Is d0)
  (pre:Pre g (.mk 6 nm ot m ty re [e0]) n) (aa:Ctx g es) :
  zTf 184 [.sv a 4 es c,.dg 9 (.ag [.j 6,.t nm,.t ot,.j m,t0,t1,r0,r1,.sl a1 9 [d0] c1]),.j n] (match e0.type (g++[⟨nm,ty,n⟩]) n with | some b=>some (tV ty b) | none=>none):=λN Q J=>by
 have hlen:=pre.len
 have hv:=Ty.valid_cnt ((xp pre.ok).vt (.inl rfl))
 have hp:Pre (g++[⟨nm,ty,n⟩]) e0 n:=by simpa [yX] using pre.sub (x:=e0) (by simp) (g':=g++[⟨nm,ty,n⟩]) (by simp) (qS pre.ty (show ty.cnt<=64 by omega))
 have hc:=zJK e0 (g++[⟨nm,ty,n⟩]) n
 refine rI N a es c _ n Q λ_ _=>?_
 repeat' first|with_reducible intro _|simp only[oK,oO,Y1,Y2,Y3,Y4]|with_reducible refine X ?_ ?_|refine⟨_,_,_,rfl,?_⟩|refine⟨_,rfl,?_⟩|refine And.intro (by first|omega|trivial|(show _=_;rfl)|(with_reducible constructor)<;>first|omega|trivial|rfl) ?_|refine (wP aa (by omega) a c O.nm O.ty n) _ _ ?_|refine (ih e0 nT d0 h0 (g++[⟨nm,ty,n⟩]) _ _ _ n hp (by assumption)) _ _ ?_|refine (qX ty ((e0.type (g++[⟨nm,ty,n⟩]) n).getD tZero) _ _ O.ty (by assumption) (by omega) (by omega)) _ _ ?_|fail
 all_goals first | (exfalso;omega) | skip
 rename_i x1 N6 ab I ho _ _ N7 ac
 cases h:e0.type (g++[⟨nm,ty,n⟩]) n with
 | none=>rw [h] at J;exact J _ _ (by omega) (by simp)
 | some b=>rw [h] at J I;exact J _ _ (by omega) (by simpa using I)
theorem zR5 {nm ot:ByteArray} {m n:Int} {ty re:Ty} {e0 e1:Tm} {t0 t1 r0 r1 d0 d1:D} {a1 a:Option Addr} {c1 c:Nat} {g:List Tg} {es:List D} (ih:IH [e0,e1]) (hh:Tm.Hd nm ot ty re t0 t1 r0 r1) (h0:e0.Is d0) (h1:e1.Is d1)
  (pre:Pre g (.mk 8 nm ot m ty re [e0,e1]) n) (J:Ctx g es) :
  zTf 184 [.sv a 4 es c,.dg 9 (.ag [.j 8,.t nm,.t ot,.j m,t0,t1,r0,r1,.sl a1 9 [d0,d1] c1]),.j n] (match e0.type g n with | some b=>e1.type (g++[⟨nm,b,n⟩]) n | none=>none):=λN Q O=>by
 have hlen:=pre.len
 have hp:Pre g e0 n:=by simpa [yX] using pre.sub (x:=e0) (by simp) (g':=g) (by simp) pre.ty
 have hc:=zJK e0 g n
 have I:=ih e0 nT d0 h0 g es a c n hp J
 refine rI N a es c _ n Q λ_ _=>?_
 cases h:e0.type g n with
 | none=>
   rw [h] at O I
   repeat' first|with_reducible intro _|simp only[oK,oO,mO,Y1,Y2,Y3,Y4]|with_reducible refine X ?_ ?_|refine⟨_,_,_,rfl,?_⟩|refine⟨_,rfl,?_⟩|refine And.intro (by first|omega|trivial|(show _=_;rfl)|(with_reducible constructor)<;>first|omega|trivial|rfl) ?_|refine I _ _ ?_|fail
   all_goals first | (exfalso;omega) | skip
   exact O _ _ (by omega) (by simp)
 | some b=>
   rw [h] at O hc I
   dsimp only at O
   have aa:Pre (g++[⟨nm,b,n⟩]) e1 n:=by simpa [yX] using pre.sub (x:=e1) (by simp) (g':=g++[⟨nm,b,n⟩]) (by simp) (qS pre.ty (by simpa using oe hc (by omega)))
   repeat' first|with_reducible intro _|simp only[oK,oO,mS,Y1,Y2,Y3,Y4]|with_reducible refine X ?_ ?_|refine⟨_,_,_,rfl,?_⟩|refine⟨_,rfl,?_⟩|refine And.intro (by first|omega|trivial|(show _=_;rfl)|(with_reducible constructor)<;>first|omega|trivial|rfl) ?_|refine I _ _ ?_|refine (wP J (by omega) a c hh.nm (t:=b) (by assumption) n) _ _ ?_|refine (ih e1 (by simp) d1 h1 (g++[⟨nm,b,n⟩]) _ _ _ n aa (by assumption)) _ _ ?_|fail
   all_goals first | (exfalso;omega) | skip
   rename_i hx _ _ _ _
   refine O _ _ (by omega) λt ht=>?_
   rw [ht] at hx
   exact hx
theorem zSc {nm ot:ByteArray} {m n:Int} {ty re:Ty} {e0:Tm} {t0 t1 r0 r1 d0:D} {a1 a:Option Addr} {c1 c:Nat} {g:List Tg} {es:List D} (ih:IH [e0]) (I:Tm.Hd nm ot ty re t0 t1 r0 r1) (h0:e0.Is d0)
  (pre:Pre g (.mk 9 nm ot m ty re [e0]) n) (aa:Ctx g es) :
  zTf 184 [.sv a 4 es c,.dg 9 (.ag [.j 9,.t nm,.t ot,.j m,t0,t1,r0,r1,.sl a1 9 [d0] c1]),.j n]
   (match e0.type ((g++[⟨nm,tV ty re,n⟩])++[⟨ot,ty,n⟩]) n with | some b=>if tO b re then some (tV ty re) else none | none=>none):=λN Q J=>by
 have hlen:=pre.len
 have hv:=Ty.valid_cnt ((xp pre.ok).vt (.inr rfl))
 have hr:=Ty.valid_cnt ((xp pre.ok).vr rfl)
 have ac:=qS (x:=⟨nm,tV ty re,n⟩) pre.ty (show (tV ty re).cnt<=64 by simp only [tV,Ty.cnt,zI];omega)
 have hp:=pre.sub (x:=e0) (by simp) (g':=(g++[⟨nm,tV ty re,n⟩])++[⟨ot,ty,n⟩]) (by simp) (qS ac (show ty.cnt<=64 by omega))
 rw [show yX 9 n=n by simp [yX]] at hp
 have ae:1<=(Tm.mk 9 nm ot m ty re [e0]).cnt:=by simp only [Tm.cnt];omega
 have ab:(g++[⟨nm,tV ty re,n⟩]:List Tg).length<=1073741824:=by rw [oE,nu];omega
 have O:∀ es a c,Ctx ((g++[⟨nm,tV ty re,n⟩])++[⟨ot,ty,n⟩]) es->zTZ 115 [.sv a 4 es c,.dg 9 d0,.j n] (e0.type ((g++[⟨nm,tV ty re,n⟩])++[⟨ot,ty,n⟩]) n):=λes a c hc=>ih e0 nT d0 h0 _ es a c n hp hc
 refine rI N a es c _ n Q λ_ _=>?_
 cases h:e0.type ((g++[⟨nm,tV ty re,n⟩])++[⟨ot,ty,n⟩]) n with
 | none=>
   rw [h] at J O
   dsimp only at J
   repeat' first|with_reducible intro _|simp only[oK,oO,mO,Y1,Y2,Y3,Y4]|with_reducible refine X ?_ ?_|refine⟨_,_,_,rfl,?_⟩|refine⟨_,rfl,?_⟩|refine And.intro (by first|omega|trivial|(show _=_;rfl)|(with_reducible constructor)<;>first|omega|trivial|rfl) ?_|refine (qX ty re _ _ I.ty I.re (by omega) (by omega)) _ _ ?_|refine (wP aa (by omega) a c I.nm (t:=tV ty re) (by assumption) n) _ _ ?_|refine (wP (g:=g++[⟨nm,tV ty re,n⟩]) (by assumption) ab _ _ I.ot I.ty n) _ _ ?_|refine (O _ _ _ (by assumption)) _ _ ?_|fail
   all_goals first | (exfalso;omega) | skip
   exact J _ _ (by omega) (by simp)
 | some b=>
   rw [h] at J O
   dsimp only at J
   repeat' first|with_reducible intro _|simp only[oK,oO,mS,Y1,Y2,Y3,Y4]|with_reducible refine X ?_ ?_|refine⟨_,_,_,rfl,?_⟩|refine⟨_,rfl,?_⟩|refine And.intro (by first|omega|trivial|(show _=_;rfl)|(with_reducible constructor)<;>first|omega|trivial|rfl) ?_|refine (qX ty re _ _ I.ty I.re (by omega) (by omega)) _ _ ?_|refine (wP aa (by omega) a c I.nm (t:=tV ty re) (by assumption) n) _ _ ?_|refine (wP (g:=g++[⟨nm,tV ty re,n⟩]) (by assumption) ab _ _ I.ot I.ty n) _ _ ?_|refine (O _ _ _ (by assumption)) _ _ ?_|refine (xi b re _ _ (by assumption) I.re) _ _ ?_|fail
   all_goals first | (exfalso;omega) | skip
   cases he:tO b re with
   | false=>rw [he] at J;exact J _ _ (by omega) (by simp)
   | true=>rw [he] at J;exact J _ _ (by omega) λt ht=>by cases ht;assumption
/-- code, splices, runs and lifts -/
theorem zSE {k:Int} {nm ot:ByteArray} {m n:Int} {ty re:Ty} {e0:Tm} {t0 t1 r0 r1 d0:D} {a1 a:Option Addr} {c1 c:Nat} {g:List Tg} {es:List D} (hk:k=10\/k=11\/k=12\/k=13) (ih:IH [e0]) (h0:e0.Is d0)
  (pre:Pre g (.mk k nm ot m ty re [e0]) n) (aj:Ctx g es) :
  zTf 185 [.sv a 4 es c,.dg 9 (.ag [.j k,.t nm,.t ot,.j m,t0,t1,r0,r1,.sl a1 9 [d0] c1]),.j n]
   (match e0.type (if k=12 then sH g n else g) (yX k n) with | some t=>xS k t | none=>none):=λN Q I=>by
 have hlen:=pre.len
 have ak:=zCT g n g 0
 have hp:=pre.sub (x:=e0) (by simp) (g':=if k=12 then sH g n else g) (by split<;>simp [sH];omega) (by split;exact λy hy=>pre.ty y (ak.1 y hy);exact pre.ty)
 have ac:∀ es a c,Ctx (if k=12 then sH g n else g) es->zTZ 115 [.sv a 4 es c,.dg 9 d0,.j (yX k n)] (e0.type (if k=12 then sH g n else g) (yX k n)):=λes a c hc=>ih e0 nT d0 h0 _ es a c _ hp hc
 have al:∀ x∈g,x.ty.cnt<=1073741824:=λx hx=>oe (pre.ty x hx) (by omega)
 refine zGu N a es c _ n Q λ_ _=>?_
 cases h:e0.type (if k=12 then sH g n else g) (yX k n) with
 | none=>
   rw [h] at I ac
   dsimp only at I
   repeat' first|with_reducible intro _|simp only[oK,oO,mO,Y1,Y2,Y3,Y4]|with_reducible refine X ?_ ?_|refine⟨_,_,_,rfl,?_⟩|refine⟨_,rfl,?_⟩|refine And.intro (by first|omega|trivial|(show _=_;rfl)|(with_reducible constructor)<;>first|omega|trivial|rfl) ?_|refine (zAQ aj (by omega) al a c n) _ _ ?_|refine (zBa pre.lv) _ _ ?_|refine (ac _ _ _ (by first | (rw [if_pos (by assumption)];assumption) | (rw [if_neg (by assumption)];assumption))) _ _ ?_|fail
   all_goals first | (exfalso;omega) | skip
   all_goals exact I _ _ (by omega) (by simp)
 | some t=>
   have hv:=Tm.type_valid h
   rw [h] at I ac
   dsimp only at I
   cases t with
   | mk O J=>
   have hf:=Ty.form_len hv
   have am:=Ty.valid_cnt hv
   repeat' first|with_reducible intro _|simp only[oK,oO,mS,Y1,Y2,Y3,Y4]|with_reducible refine X ?_ ?_|refine⟨_,_,_,rfl,?_⟩|refine⟨_,rfl,?_⟩|refine And.intro (by first|omega|trivial|(show _=_;rfl)|(with_reducible constructor)<;>first|omega|trivial|rfl) ?_|refine (zAQ aj (by omega) al a c n) _ _ ?_|refine (zBa pre.lv) _ _ ?_|refine (ac _ _ _ (by first | (rw [if_pos (by assumption)];assumption) | (rw [if_neg (by assumption)];assumption))) _ _ ?_|refine (zJD (.mk O J) _ (by assumption) (by omega)) _ _ ?_|refine (ri (.mk O J) _ (by assumption)) _ _ ?_|fail
   all_goals first | (exfalso;omega) | skip
   ·rename_i hd _ _ aa ab
    obtain ⟨a2,ao,c2,rfl,aq,ae⟩:=Ty.is_mk.1 hd
    by_cases h4:O=4
    ·subst h4
     have ah:(J.length:Int)=1:=by simpa [zAF] using hf
     obtain ⟨u,rfl⟩:∃ u,J=[u]:=by
      match J,ah with
      | [u],_=>exact ⟨u,rfl⟩
      | [],h=>simp at h
      | _::_::_,h=>simp at h;omega
     obtain ⟨x0,_,rfl,ai,rfl⟩:=ae
     simp only [Ty.cnt,zI] at am
     have hs:xS k (.mk 4 [u])=some u:=by simp [xS,aa,ab,Ty.k,Ty.as]
     rw [hs] at I
     repeat' first|with_reducible intro _|simp only[oK,oO,Y1,Y2,Y3,Y4]|with_reducible refine X ?_ ?_|refine⟨_,_,_,rfl,?_⟩|refine⟨_,rfl,?_⟩|refine And.intro (by first|omega|trivial|(show _=_;rfl)|(with_reducible constructor)<;>first|omega|trivial|rfl) ?_|refine (zu u _ ai (by omega)) _ _ ?_|fail
     all_goals first | (exfalso;omega) | skip
     exact I _ _ (by omega) λt ht=>by cases ht;assumption
    ·have hs:xS k (.mk O J)=none:=by simp [xS,aa,ab,Ty.k,h4]
     rw [hs] at I
     repeat' first|with_reducible intro _|simp only[oK,oO,Y1,Y2,Y3,Y4]|with_reducible refine X ?_ ?_|refine⟨_,_,_,rfl,?_⟩|refine⟨_,rfl,?_⟩|refine And.intro (by first|omega|trivial|(show _=_;rfl)|(with_reducible constructor)<;>first|omega|trivial|rfl) ?_|fail
     all_goals first | (exfalso;omega) | skip
     exact I _ _ (by omega) (by simp)
   ·have hs:xS k (.mk O J)=some (zED (.mk O J)):=by rw [xS,if_pos (by assumption)]
    rw [hs] at I
    exact I _ _ (by omega) λt ht=>by cases ht;assumption
   ·have hs:xS k (.mk O J)=if (Ty.mk O J).base then some (zED (.mk O J)) else none:=by rw [xS,if_neg (by assumption),if_pos (by assumption)]
    rw [hs] at I
    cases hb:(Ty.mk O J).base with
    | false=>rw [hb] at I;exact I _ _ (by omega) (by simp)
    | true=>rw [hb] at I;exact I _ _ (by omega) λt ht=>by cases ht;assumption
   ·rename_i hd _ _ aa ab
    obtain ⟨a2,ao,c2,rfl,aq,ae⟩:=Ty.is_mk.1 hd
    by_cases h4:O=4
    ·subst h4
     have ah:(J.length:Int)=1:=by simpa [zAF] using hf
     obtain ⟨u,rfl⟩:∃ u,J=[u]:=by
      match J,ah with
      | [u],_=>exact ⟨u,rfl⟩
      | [],h=>simp at h
      | _::_::_,h=>simp at h;omega
     obtain ⟨x0,_,rfl,ai,rfl⟩:=ae
     simp only [Ty.cnt,zI] at am
     have hs:xS k (.mk 4 [u])=some u:=by simp [xS,aa,ab,Ty.k,Ty.as]
     rw [hs] at I
     repeat' first|with_reducible intro _|simp only[oK,oO,Y1,Y2,Y3,Y4]|with_reducible refine X ?_ ?_|refine⟨_,_,_,rfl,?_⟩|refine⟨_,rfl,?_⟩|refine And.intro (by first|omega|trivial|(show _=_;rfl)|(with_reducible constructor)<;>first|omega|trivial|rfl) ?_|refine (zu u _ ai (by omega)) _ _ ?_|fail
     all_goals first | (exfalso;omega) | skip
     exact I _ _ (by omega) λt ht=>by cases ht;assumption
    ·have hs:xS k (.mk O J)=none:=by simp [xS,aa,ab,Ty.k,h4]
     rw [hs] at I
     repeat' first|with_reducible intro _|simp only[oK,oO,Y1,Y2,Y3,Y4]|with_reducible refine X ?_ ?_|refine⟨_,_,_,rfl,?_⟩|refine⟨_,rfl,?_⟩|refine And.intro (by first|omega|trivial|(show _=_;rfl)|(with_reducible constructor)<;>first|omega|trivial|rfl) ?_|fail
     all_goals first | (exfalso;omega) | skip
     exact I _ _ (by omega) (by simp)
/-- the type of a term ahead of the test that it is valid -/
def Tm.raw:Tm->List Tg->Int->Option Ty
 | .mk k nm ot _ ty re l,g,n=>
   if k=1 then zCe g nm n
   else if k=2 then some tInt
   else if k=3 then some tBool
   else if k=6 then (match uy l 0 (g++[⟨nm,ty,n⟩]) n with | some b=>some (tV ty b) | none=>none)
   else if k=8 then (match uy l 0 g n with | some a=>uy l 1 (g++[⟨nm,a,n⟩]) n | none=>none)
   else if k=9 then (match uy l 0 ((g++[⟨nm,tV ty re,n⟩])++[⟨ot,ty,n⟩]) n with | some b=>if tO b re then some (tV ty re) else none | none=>none)
   else if k=10\/k=11\/k=12\/k=13 then (match uy l 0 (if k=12 then sH g n else g) (yX k n) with | some t=>xS k t | none=>none)
   else (match ya l g n with | some I=>wW k nm I | none=>none)
theorem Tm.type_eq (e:Tm) (g:List Tg) (n:Int):e.type g n=vld (e.raw g n):=by
 cases e;simp only [Tm.type,Tm.raw]<;>rfl
theorem zTB {a:Option Addr} {r:List D} {d:D} {N:Nat} (ha:ApA a r) (hb:uW N [a]) (h:∀ x∈d.foot,x∈zB r\/N<=x):Off [a] d:=by
 intro a' I ad J O
 rw [oZ] at I
 subst I
 rcases h _ O with h | h
 ·have:∀ r:List D,ad.block∈zB r->∃ d∈r,ad.block∈d.foot:=by
   intro r
   induction r with
   | nil=>intro h;simp [zB] at h
   | cons x r ih=>
     intro h
     simp only [zB,oF] at h
     rcases h with h | h
     ·exact ⟨x,by simp,h⟩
     ·obtain ⟨d,hd,O⟩:=ih h
      exact ⟨d,by simp [hd],O⟩
  obtain ⟨d',aa,ab⟩:=this r h
  exact ha ad J d' aa ab
 ·have:=hb a' (by simp) ad J
  omega
theorem zPx {k:Int} {nm ot:ByteArray} {m n:Int} {ty re:Ty} {l:List Tm} {t0 t1 r0 r1:D} {es1:List D} {a1 a:Option Addr} {c1 c:Nat} {g:List Tg} {es:List D} (hk:k=4\/k=5\/k=7) (ih:IH l) (h0:All2 Tm.Is l es1) (hl1:es1.length<=4611686018427387904)
  (pre:Pre g (.mk k nm ot m ty re l) n) (ctx:Ctx g es) (N:Nat) (Q:QT [.ag 2,.bool]) (hQ:∀ d N',N<=N'->(∀ t,Tm.raw (.mk k nm ot m ty re l) g n=some t->t.Is d)->Q d (Tm.raw (.mk k nm ot m ty re l) g n).isSome N') :
  xj Q N a es c n 0 0 (0:Nat) (.ag [.j k,.t nm,.t ot,.j m,t0,t1,r0,r1,.sl a1 9 es1 c1]) 0 none [] 0 [] 0 N:=by
 have hlen:=pre.len
 have hcl:=yg l
 have hln:=h0.len
 have nd:=xp pre.ok
 simp only [Tm.cnt] at hlen
 have hraw:Tm.raw (.mk k nm ot m ty re l) g n=(match ya l g n with | some ts=>wW k nm ts | none=>none):=by
  simp only [Tm.raw]
  rw [if_neg (by omega),if_neg (by omega),if_neg (by omega),if_neg (by omega),if_neg (by omega),if_neg (by omega),if_neg (by omega)]
 rw [hraw] at hQ
 refine up h0 hl1 (fun i xs=>∀ (r:List D) (q p:Nat) (N':Nat) (ts:List Ty),N<=N'->p=r.length->All2 Ty.Is ts r->ts.length=i->(∀ t∈ts,t.valid=true) ->
  ya l g n=(match ya xs g n with | some us=>some (ts++us) | none=>none) ->
  xj Q N a es c n p q i (.ag [.j k,.t nm,.t ot,.j m,t0,t1,r0,r1,.sl a1 9 es1 c1]) 0 none [] 0 r q N') ?_ ?_ [] 0 0 N [] (oA _) rfl rfl rfl (by simp) ?_
 ·intro i hlt hi r q p N' ts hN' hp hr hti hv hargs
  have hrl:=hr.len
  simp only [ya,oY] at hargs
  rw [hargs] at hQ
  dsimp only at hQ
  have hk2:k=4\/k=5/\ts.length=3\/k=7/\ts.length=2:=by
   have:=nd.ar
   rcases hk with rfl | rfl | rfl
   ·exact .inl rfl
   ·exact .inr (.inl ⟨rfl, by have:(l.length:Int)=3:=this
                              omega⟩)
   ·exact .inr (.inr ⟨rfl, by have:(l.length:Int)=2:=this
                              omega⟩)
  refine rt _ _ _ _ _ _ _ _ _ _ _ _ _ _ _ _ _ ?_
  repeat' first|with_reducible intro _|simp only[hlt,Y1,Y2,Y3,Y4]|with_reducible refine X ?_ ?_|refine⟨_,_,_,rfl,?_⟩|refine⟨_,rfl,?_⟩|refine And.intro (by first|omega|trivial|(show _=_;rfl)|(with_reducible constructor)<;>first|omega|trivial|rfl) ?_|refine (zIG hr (by omega) _ _ hv hk2) _ _ ?_|fail
  rename_i a2 hap hoff N4 hN4 hba d b N5 hN5 ho hfo _
  refine ⟨zTB hap hba hfo,fun _ N6 hN6=>?_⟩
  cases h:wW k nm ts with
  | none=>rw [h] at ho hQ;simp only [zNG] at ho;subst ho;exact hQ _ _ (by omega) (by simp)
  | some t=>rw [h] at ho hQ;obtain ⟨rfl,ho⟩:=ho;exact hQ _ _ (by omega) fun t ht=>by cases ht;exact ho
 ·intro i x xs hat _ ih2 r q p N' ts hN' hp hr hti hv hargs
  have hb:=hat.b
  have hrl:=hr.len
  have hpx:=pre.sub hat.m (g':=g) (by omega) pre.ty
  rw [show yX k n=n by simp only [yX];rw [if_neg (by omega),if_neg (by omega)]] at hpx
  have ih0:=ih x hat.m _ hat.r g es a c n hpx ctx
  simp only [ya] at hargs
  refine rt _ _ _ _ _ _ _ _ _ _ _ _ _ _ _ _ _ ?_
  cases h:x.type g n with
  | none=>
    rw [h] at ih0 hargs
    dsimp only at hargs
    rw [hargs] at hQ
    repeat' first|with_reducible intro _|simp only[hat.lt,hat.w,oH,mO,Y1,Y2,Y3,Y4]|with_reducible refine X ?_ ?_|refine⟨_,_,_,rfl,?_⟩|refine⟨_,rfl,?_⟩|refine And.intro (by first|omega|trivial|(show _=_;rfl)|(with_reducible constructor)<;>first|omega|trivial|rfl) ?_|refine ih0 _ _ ?_|fail
    all_goals first | (exfalso;omega) | skip
    exact hQ _ _ (by omega) (by simp)
  | some t=>
    have hvt:=Tm.type_valid h
    rw [h] at ih0 hargs
    dsimp only at hargs
    repeat' first|with_reducible intro _|simp only[hat.lt,hat.w,oH,mS,Y1,Y2,Y3,Y4]|with_reducible refine X ?_ ?_|refine⟨_,_,_,rfl,?_⟩|refine⟨_,rfl,?_⟩|refine And.intro (by first|omega|trivial|(show _=_;rfl)|(with_reducible constructor)<;>first|omega|trivial|rfl) ?_|refine ih0 _ _ ?_|fail
    all_goals first | (exfalso;omega) | skip
    rename_i N2 hN2 d N3 hN3 hd _ _
    refine ⟨by unfold zC;simp only [oE,nu];omega,fun c2=>ih2 _ _ _ _ (ts++[t]) (by omega) rfl (hr.snoc hd) (by simp [hti]) (fun u hu=>?_) ?_⟩
    ·rcases oF.1 hu with hu | hu
     ·exact hv u hu
     ·rw [oZ] at hu;subst hu;exact hvt
    ·rw [hargs];cases ya xs g n<;>simp
 ·cases ya l g n<;>simp
theorem zDP {α:Type} {l:List α} (h:l.length=1):∃ a,l=[a]:=by
 match l,h with
 | [a],_=>exact ⟨a,rfl⟩
theorem zMm {α:Type} {l:List α} (h:l.length=2):∃ a b,l=[a,b]:=by
 match l,h with
 | [a,b],_=>exact ⟨a,b,rfl⟩
theorem zIN {e:Tm} {d:D} (he:e.Is d) (ih:match e with | .mk _ _ _ _ _ _ l=>IH l) {g:List Tg} {es:List D} {a:Option Addr} {c:Nat} {n:Int} (pre:Pre g e n) (ctx:Ctx g es) :
  zTf 156 [.sv a 4 es c,.dg 9 d,.j n] (e.raw g n):=fun N Q hQ=>by
 cases e with
 | mk k nm ot m ty re l=>
 dsimp only at ih
 obtain ⟨t0,t1,r0,r1,a1,es1,c1,rfl,hh,hlen1,hes1⟩:=Tm.is_mk.1 he
 have hl:=hes1.len
 have hl2:=ctx.all.len
 have nd:=xp pre.ok
 have har:=nd.ar
 have hkk:=zJV (k:=k) (nm:=nm) (by omega)
 refine zIh N a es c _ n Q fun _ _=>?_
 rcases hkk with rfl | rfl | rfl | h | h | rfl | h | rfl | rfl | h | h | h | h
 ·-- a variable
  have hraw:Tm.raw (.mk 1 nm ot m ty re l) g n=zCe g nm n:=by simp [Tm.raw]
  rw [hraw] at hQ
  rcases zFx g nm g.length with hlx | hlx
  ·have hlx:ym g nm = -1:=hlx
   have:zCe g nm n=none:=by simp [zCe,hlx]
   rw [this] at hQ
   repeat' first|with_reducible intro _|simp only[hlx,Y1,Y2,Y3,Y4]|with_reducible refine X ?_ ?_|refine⟨_,_,_,rfl,?_⟩|refine⟨_,rfl,?_⟩|refine And.intro (by first|omega|trivial|(show _=_;rfl)|(with_reducible constructor)<;>first|omega|trivial|rfl) ?_|refine (rH ctx a c nm) _ _ ?_|fail
   all_goals first | (exfalso;omega) | skip
   exact hQ _ _ (by omega) (by simp)
  ·have hlx:0<=ym g nm/\ym g nm<g.length:=hlx
   have hg:g[(ym g nm).toNat]?=some g[(ym g nm).toNat]:=oI (by omega)
   have hx:=ctx.all.get hg
   have hgd:g.getD (ym g nm).toNat tg0=g[(ym g nm).toNat]:=zI1 hg
   obtain ⟨u0,u1,hd,hs,ht⟩:=hx
   have hm:g[(ym g nm).toNat]∈g:=mN _
   have hcn:=pre.ty _ hm
   have:zCe g nm n=if g[(ym g nm).toNat].lv=n then some g[(ym g nm).toNat].ty else none:=by
    rw [zCe,if_neg (by omega),hgd]
   rw [this] at hQ
   generalize g[(ym g nm).toNat]=x at *
   repeat' first|with_reducible intro _|simp only[hd,Y1,Y2,Y3,Y4]|with_reducible refine X ?_ ?_|refine⟨_,_,_,rfl,?_⟩|refine⟨_,rfl,?_⟩|refine And.intro (by first|omega|trivial|(show _=_;rfl)|(with_reducible constructor)<;>first|omega|trivial|rfl) ?_|refine (rH ctx a c nm) _ _ ?_|refine (zu _ _ ht (by omega)) _ _ ?_|fail
   all_goals first | (exfalso;omega) | skip
   ·rw [if_neg (by assumption)] at hQ;exact hQ _ _ (by omega) (by simp)
   ·rw [if_pos (by assumption)] at hQ;exact hQ _ _ (by omega) fun t ht=>by cases ht;assumption
 ·have hraw:Tm.raw (.mk 2 nm ot m ty re l) g n=some tInt:=by simp [Tm.raw]
  rw [hraw] at hQ
  repeat' first|with_reducible intro _|simp only[Y1,Y2,Y3,Y4]|with_reducible refine X ?_ ?_|refine⟨_,_,_,rfl,?_⟩|refine⟨_,rfl,?_⟩|refine And.intro (by first|omega|trivial|(show _=_;rfl)|(with_reducible constructor)<;>first|omega|trivial|rfl) ?_|refine zC8 _ _ ?_|fail
  all_goals first | (exfalso;omega) | skip
  exact hQ _ _ (by omega) fun t ht=>by cases ht;assumption
 ·have hraw:Tm.raw (.mk 3 nm ot m ty re l) g n=some tBool:=by simp [Tm.raw]
  rw [hraw] at hQ
  repeat' first|with_reducible intro _|simp only[Y1,Y2,Y3,Y4]|with_reducible refine X ?_ ?_|refine⟨_,_,_,rfl,?_⟩|refine⟨_,rfl,?_⟩|refine And.intro (by first|omega|trivial|(show _=_;rfl)|(with_reducible constructor)<;>first|omega|trivial|rfl) ?_|refine zA6 _ _ ?_|fail
  all_goals first | (exfalso;omega) | skip
  exact hQ _ _ (by omega) fun t ht=>by cases ht;assumption
 ·have hk:k=4\/k=5\/k=7:=by omega
  have:=zPx hk ih hes1 hlen1 pre ctx (a:=a) (c:=c) (t0:=t0) (t1:=t1) (r0:=r0) (r1:=r1) (a1:=a1) (c1:=c1) N Q hQ
  repeat' first|with_reducible intro _|simp only[Y1,Y2,Y3,Y4]|with_reducible refine X ?_ ?_|refine⟨_,_,_,rfl,?_⟩|refine⟨_,rfl,?_⟩|refine And.intro (by first|omega|trivial|(show _=_;rfl)|(with_reducible constructor)<;>first|omega|trivial|rfl) ?_|fail
  all_goals first | (exfalso;omega) | exact this
 ·have hk:k=4\/k=5\/k=7:=by omega
  have:=zPx hk ih hes1 hlen1 pre ctx (a:=a) (c:=c) (t0:=t0) (t1:=t1) (r0:=r0) (r1:=r1) (a1:=a1) (c1:=c1) N Q hQ
  repeat' first|with_reducible intro _|simp only[Y1,Y2,Y3,Y4]|with_reducible refine X ?_ ?_|refine⟨_,_,_,rfl,?_⟩|refine⟨_,rfl,?_⟩|refine And.intro (by first|omega|trivial|(show _=_;rfl)|(with_reducible constructor)<;>first|omega|trivial|rfl) ?_|fail
  all_goals first | (exfalso;omega) | exact this
 ·have h1 : l.length = 1 := by have:(l.length:Int)=1:=har
                               omega
  obtain ⟨e0,rfl⟩:=zDP h1
  obtain ⟨d0,_,rfl,h0,rfl⟩:=hes1
  have hraw:Tm.raw (.mk 6 nm ot m ty re [e0]) g n=(match e0.type (g++[⟨nm,ty,n⟩]) n with | some b=>some (tV ty b) | none=>none):=by simp [Tm.raw,uy]
  rw [hraw] at hQ
  repeat' first|with_reducible intro _|simp only[Y1,Y2,Y3,Y4]|with_reducible refine X ?_ ?_|refine⟨_,_,_,rfl,?_⟩|refine⟨_,rfl,?_⟩|refine And.intro (by first|omega|trivial|(show _=_;rfl)|(with_reducible constructor)<;>first|omega|trivial|rfl) ?_|refine (zSA ih hh h0 pre ctx) _ _ ?_|fail
  all_goals first | (exfalso;omega) | skip
  exact hQ _ _ (by omega) (by assumption)
 ·have hk:k=4\/k=5\/k=7:=by omega
  have:=zPx hk ih hes1 hlen1 pre ctx (a:=a) (c:=c) (t0:=t0) (t1:=t1) (r0:=r0) (r1:=r1) (a1:=a1) (c1:=c1) N Q hQ
  repeat' first|with_reducible intro _|simp only[Y1,Y2,Y3,Y4]|with_reducible refine X ?_ ?_|refine⟨_,_,_,rfl,?_⟩|refine⟨_,rfl,?_⟩|refine And.intro (by first|omega|trivial|(show _=_;rfl)|(with_reducible constructor)<;>first|omega|trivial|rfl) ?_|fail
  all_goals first | (exfalso;omega) | exact this
 ·have h1 : l.length = 2 := by have:(l.length:Int)=2:=har
                               omega
  obtain ⟨e0,e1,rfl⟩:=zMm h1
  obtain ⟨d0,_,rfl,h0,d1,_,rfl,h1,rfl⟩:=hes1
  have hraw:Tm.raw (.mk 8 nm ot m ty re [e0,e1]) g n=(match e0.type g n with | some b=>e1.type (g++[⟨nm,b,n⟩]) n | none=>none):=by simp [Tm.raw,uy]
  rw [hraw] at hQ
  repeat' first|with_reducible intro _|simp only[Y1,Y2,Y3,Y4]|with_reducible refine X ?_ ?_|refine⟨_,_,_,rfl,?_⟩|refine⟨_,rfl,?_⟩|refine And.intro (by first|omega|trivial|(show _=_;rfl)|(with_reducible constructor)<;>first|omega|trivial|rfl) ?_|refine (zR5 ih hh h0 h1 pre ctx) _ _ ?_|fail
  all_goals first | (exfalso;omega) | skip
  exact hQ _ _ (by omega) (by assumption)
 ·have h1 : l.length = 1 := by have:(l.length:Int)=1:=har
                               omega
  obtain ⟨e0,rfl⟩:=zDP h1
  obtain ⟨d0,_,rfl,h0,rfl⟩:=hes1
  have hraw:Tm.raw (.mk 9 nm ot m ty re [e0]) g n=(match e0.type ((g++[⟨nm,tV ty re,n⟩])++[⟨ot,ty,n⟩]) n with | some b=>if tO b re then some (tV ty re) else none | none=>none):=by simp only [Tm.raw,uy];rfl
  rw [hraw] at hQ
  repeat' first|with_reducible intro _|simp only[Y1,Y2,Y3,Y4]|with_reducible refine X ?_ ?_|refine⟨_,_,_,rfl,?_⟩|refine⟨_,rfl,?_⟩|refine And.intro (by first|omega|trivial|(show _=_;rfl)|(with_reducible constructor)<;>first|omega|trivial|rfl) ?_|refine (zSc ih hh h0 pre ctx) _ _ ?_|fail
  all_goals first | (exfalso;omega) | skip
  exact hQ _ _ (by omega) (by assumption)
 all_goals
  have h1:l.length=1:=by
   have hk:k=10\/k=11\/k=12\/k=13:=by omega
   have:(l.length:Int)=1:=by rw [har];rcases hk with rfl | rfl | rfl | rfl<;>rfl
   omega
  obtain ⟨e0,rfl⟩:=zDP h1
  obtain ⟨d0,_,rfl,h0,rfl⟩:=hes1
  have hk:k=10\/k=11\/k=12\/k=13:=by omega
  have hraw:Tm.raw (.mk k nm ot m ty re [e0]) g n=(match e0.type (if k=12 then sH g n else g) (yX k n) with | some t=>xS k t | none=>none):=by
   simp only [Tm.raw,uy]
   rw [if_neg (by omega),if_neg (by omega),if_neg (by omega),if_neg (by omega),if_neg (by omega),if_neg (by omega),if_pos hk]
  rw [hraw] at hQ
  repeat' first|with_reducible intro _|simp only[Y1,Y2,Y3,Y4]|with_reducible refine X ?_ ?_|refine⟨_,_,_,rfl,?_⟩|refine⟨_,rfl,?_⟩|refine And.intro (by first|omega|trivial|(show _=_;rfl)|(with_reducible constructor)<;>first|omega|trivial|rfl) ?_|refine (zSE hk ih h0 pre ctx) _ _ ?_|fail
  all_goals first | (exfalso;omega) | skip
  exact hQ _ _ (by omega) (by assumption)
theorem rG:∀ {l:List Tm} {i:Nat} {g:List Tg} {n:Int} {t:Ty},uy l i g n=some t->t.valid=true
 | [],i,g,n,t,h=>by simp [uy] at h
 | e::es,0,g,n,t,h=>by simp only [uy] at h;exact Tm.type_valid h
 | e::es,i+1,g,n,t,h=>by simp only [uy] at h;exact rG h
theorem zJN {l:List Ty} {m:Nat} (h:∀ t∈l,t.cnt<=m) (I:1<=m) (i:Nat):(l.getD i tZero).cnt<=m:=by
 rw [oB]
 cases hi:l[i]? with
 | none=>simpa [tZero,Ty.cnt,zI] using I
 | some t=>exact h t (oD hi)
theorem zR4 (t:Ty) (i:Nat):(t.as.getD i tZero).cnt<=t.cnt:=by
 cases t with
 | mk k l=>exact zJN (l:=l) (λu I=>by have:=ww (l:=l) I;simp only [Ty.cnt];omega) (by simp only [Ty.cnt];omega) i
theorem zSg {g:List Tg} {m:Nat} (h:∀ x∈g,x.ty.cnt<=m) (I:1<=m) (i:Nat):(g.getD i tg0).ty.cnt<=m:=by
 rw [oB]
 cases hi:g[i]? with
 | none=>simpa [tg0,tZero,Ty.cnt,zI] using I
 | some t=>exact h t (oD hi)
theorem zND {k:Int} {s:ByteArray} {I:List Ty} {t:Ty} (J:∀ t∈I,t.cnt<=64) (h:wW k s I=some t):t.cnt<=64:=by
 simp only [wW] at h
 split at h
 ·simp only [zS0] at h
  split at h
  ·cases h;unfold zE6;(repeat' split)<;>simp [tInt,tBool,Ty.cnt,zI]
  ·cases h
 ·split at h
  ·split at h
   ·cases h;exact zJN J (by omega) _
   ·cases h
  ·split at h
   ·cases h;exact oe (zR4 _ _) (zJN J (by omega) _)
   ·cases h
theorem zLl {k:Int} {u t:Ty} (J:u.cnt<=30) (h:xS k u=some t):t.cnt<=64:=by
 have I:(zED u).cnt<=64:=by simp only [zED,Ty.cnt,zI];omega
 have O:=zR4 u 0
 simp only [xS] at h
 (repeat' split at h)<;>cases h<;>first | exact I | omega
theorem zOv {e:Tm} {g:List Tg} {n:Int} {t:Ty} (pre:Pre g e n) (h:e.raw g n=some t):t.cnt<=64:=by
 cases e with
 | mk k nm ot m ty re l=>
 have nd:=xp pre.ok
 simp only [Tm.raw] at h
 split at h
 ·simp only [zCe] at h
  (repeat' split at h)<;>cases h
  exact zSg pre.ty (by omega) _
 split at h
 ·cases h;simp [tInt,Ty.cnt,zI]
 split at h
 ·cases h;simp [tBool,Ty.cnt,zI]
 split at h
 ·rename_i h6
  have hv:=Ty.valid_cnt (nd.vt (.inl h6))
  split at h
  ·rename_i b I
   have:=Ty.valid_cnt (rG I)
   cases h;simp only [tV,Ty.cnt,zI];omega
  ·cases h
 split at h
 ·split at h
  ·have:=Ty.valid_cnt (rG h);omega
  ·cases h
 split at h
 ·rename_i O
  have hv:=Ty.valid_cnt (nd.vt (.inr O))
  have hr:=Ty.valid_cnt (nd.vr O)
  split at h
  ·split at h
   ·cases h;simp only [tV,Ty.cnt,zI];omega
   ·cases h
  ·cases h
 split at h
 ·split at h
  ·rename_i b I
   exact zLl (Ty.valid_cnt (rG I)) h
  ·cases h
 ·split at h
  ·rename_i ts J
   exact zND (λu hu=>oe (Ty.valid_cnt ((zHB J).2 u hu)) (by omega)) h
  ·cases h
theorem xa:tZero.Is (.ag [.j 0,.sl none 2 [] 0]):=vL 0
theorem zH7:∀ (e:Tm),∀ d,e.Is d->∀ g es a c n,Pre g e n->Ctx g es->zTZ 115 [.sv a 4 es c,.dg 9 d,.j n] (e.type g n):=by
 refine Tm.ind λk nm ot m ty re l ih d hd g es a c n pre O N Q I=>?_
 have hs:=zIN (a:=a) (c:=c) hd ih pre O
 rw [Tm.type_eq] at I
 refine zI9 N a es c _ n Q λ_ _=>?_
 cases h:Tm.raw (.mk k nm ot m ty re l) g n with
 | none=>
   rw [h] at hs I
   repeat' first|with_reducible intro _|simp only[mO,Y1,Y2,Y3,Y4]|with_reducible refine X ?_ ?_|refine⟨_,_,_,rfl,?_⟩|refine⟨_,rfl,?_⟩|refine And.intro (by first|omega|trivial|(show _=_;rfl)|(with_reducible constructor)<;>first|omega|trivial|rfl) ?_|refine hs _ _ ?_|fail
   all_goals first | (exfalso;omega) | skip
   exact I _ _ (by omega) xa
 | some t=>
   have hc:=zOv pre h
   rw [h] at hs I
   simp only [vld] at I
   cases J:t.valid with
   | false=>
     rw [J] at I
     repeat' first|with_reducible intro _|simp only[mS,J,Y1,Y2,Y3,Y4]|with_reducible refine X ?_ ?_|refine⟨_,_,_,rfl,?_⟩|refine⟨_,rfl,?_⟩|refine And.intro (by first|omega|trivial|(show _=_;rfl)|(with_reducible constructor)<;>first|omega|trivial|rfl) ?_|refine hs _ _ ?_|refine (xt t _ (by rename_i h _ _ _ _;exact h t rfl) (by omega)) _ _ ?_|fail
     all_goals first | (exfalso;omega) | skip
     exact I _ _ (by omega) xa
   | true=>
     rw [J] at I
     repeat' first|with_reducible intro _|simp only[mS,J,Y1,Y2,Y3,Y4]|with_reducible refine X ?_ ?_|refine⟨_,_,_,rfl,?_⟩|refine⟨_,rfl,?_⟩|refine And.intro (by first|omega|trivial|(show _=_;rfl)|(with_reducible constructor)<;>first|omega|trivial|rfl) ?_|refine hs _ _ ?_|refine (xt t _ (by rename_i h _ _ _ _;exact h t rfl) (by omega)) _ _ ?_|fail
     all_goals first | (exfalso;omega) | skip
     rename_i hx _ _ _ _ _ _ _ _ _
     exact I _ _ (by omega) (hx t rfl)
/-- what TypeOf comes to -/
def zGy (g:List Tg) (e:Tm) (n:Int):Option Ty:=if zIK g/\zL9 e n then e.type g n else none
theorem zLI:∀ {g:List Tg},zJh g=true->∀ x∈g,x.ty.valid=true
 | y::ys,h,x,hx=>by
   simp only [zJh,Tg.ok,oL] at h
   rcases oJ.1 hx with rfl | hx
   ·exact h.1.2.1
   ·exact zLI h.2 x hx
theorem zTS {g:List Tg} {e:Tm} {n:Int} (J:zIK g=true) (I:zL9 e n=true) (hc:e.cnt<=1048576000 / 2):Pre g e n:=by
 simp only [zIK,oL,nC] at J
 simp only [zL9,oL] at I
 exact ⟨I.1,I.2,by omega,λx O=>oe (Ty.valid_cnt (zLI J.1 x O)) (by omega)⟩
end Go.Proofs.YtlahkdflngobiaaGreatDoor
