/- Terms and typings as plain data; well-formed terms and contexts: the reference's functions. -/
import Derived.Test.YtlahkdflngobiaaGreatDoorA2
set_option linter.unusedVariables false
set_option linter.unusedSimpArgs false
namespace Go.Proofs.YtlahkdflngobiaaGreatDoor
open Go Go.Proofs Go.Proofs.Tryz Go.IntWalk
inductive Tm where
 | mk (k:Int) (nm ot:ByteArray) (n:Int) (ty re:Ty) (l:List Tm)
def Tm.as:Tm->List Tm
 | .mk _ _ _ _ _ _ l=>l
/-- the cells of a term ahead of its parts -/
structure Tm.Hd (nm ot:ByteArray) (ty re:Ty) (t0 t1 r0 r1:D):Prop where
 nm:nm.size<=4611686018427387904
 ot:ot.size<=4611686018427387904
 ty:ty.Is (.ag [t0,t1])
 re:re.Is (.ag [r0,r1])
mutual
def Tm.Is:Tm->D->Prop
 | .mk k nm ot n ty re l,d=>∃ t0 t1 r0 r1 a es c,d=.ag [.j k,.t nm,.t ot,.j n,t0,t1,r0,r1,.sl a 9 es c]/\Tm.Hd nm ot ty re t0 t1 r0 r1/\es.length<=4611686018427387904/\zD0 l es
def zD0:List Tm->List D->Prop
 | [],es=>es=[]
 | t::I,es=>∃ d ds,es=d::ds/\t.Is d/\zD0 I ds
end
theorem rm:∀ {l:List Tm} {es:List D},zD0 l es↔All2 Tm.Is l es
 | [],es=>by simp only [zD0,All2]
 | t::ts,es=>by
   simp only [zD0,All2]
   exact ⟨λ⟨d,ds,I,J,O⟩=>⟨d,ds,I,J,rm.1 O⟩,λ⟨d,ds,I,J,O⟩=>⟨d,ds,I,J,rm.2 O⟩⟩
theorem Tm.is_mk {k:Int} {nm ot:ByteArray} {n:Int} {ty re:Ty} {l:List Tm} {d:D}:(Tm.mk k nm ot n ty re l).Is d ↔
  ∃ t0 t1 r0 r1 a es c,d=.ag [.j k,.t nm,.t ot,.j n,t0,t1,r0,r1,.sl a 9 es c]/\Tm.Hd nm ot ty re t0 t1 r0 r1/\es.length<=4611686018427387904/\All2 Tm.Is l es:=by
 simp only [Tm.Is,rm]
theorem Tm.ind {P:Tm->Prop} (h:∀ k nm ot n ty re l,(∀ t∈l,P t)->P (.mk k nm ot n ty re l)):∀ t,P t:=λt=>
 Tm.rec (motive_1:=P) (motive_2:=λl=>∀ t∈l,P t) (λk nm ot n ty re l I=>h k nm ot n ty re l I) (by simp) (λt l J O u hu=>by
  rcases oJ.1 hu with rfl | hu
  ·exact J
  ·exact O u hu) t
mutual
def Tm.cnt:Tm->Nat
 | .mk _ _ _ _ ty re l=>1+ty.cnt+re.cnt+zh l
def zh:List Tm->Nat
 | []=>0
 | t::I=>t.cnt+zh I
end
theorem zn:∀ {l:List Tm} {t:Tm},t∈l->t.cnt<=zh l
 | u::us,t,h=>by
   simp only [zh]
   rcases oJ.1 h with rfl | h
   ·omega
   ·have:=zn h;omega
theorem yg:∀ l:List Tm,l.length<=zh l
 | []=>oA _
 | .mk _ _ _ _ _ _ _::I=>by simp only [zh,Tm.cnt,oK];have:=yg I;omega
structure Tg where
 nm:ByteArray
 ty:Ty
 lv:Int
def Tg.Is (g:Tg) (d:D):Prop:=∃ t0 t1,d=.ag [.t g.nm,t0,t1,.j g.lv]/\g.nm.size<=4611686018427387904/\g.ty.Is (.ag [t0,t1])
theorem Tg.is_mk {nm:ByteArray} {ty:Ty} {lv:Int} {d:D}:(Tg.mk nm ty lv).Is d↔∃ t0 t1,d=.ag [.t nm,t0,t1,.j lv]/\nm.size<=4611686018427387904/\ty.Is (.ag [t0,t1]):=lD
def zP4 (s:ByteArray):Int:=if s=bytes [43] then 2 else if s=bytes [45] then 2 else if s=bytes [42] then 2 else if s=bytes [61] then 2 else if s=bytes [60] then 2 else if s=bytes [38] then 2 else if s=bytes [124] then 2 else if s=bytes [33] then 1 else 0
theorem zAr (s:ByteArray):p9 180 [.str s] (zP4 s):=λN Q I=>by
 refine zGy N s Q ?_
 repeat' first|with_reducible intro _|simp only[Y1,Y2,Y3,Y4]|with_reducible refine X ?_ ?_|refine⟨_,_,_,rfl,?_⟩|refine⟨_,rfl,?_⟩|refine And.intro (by first|omega|trivial|(show _=_;rfl)|(with_reducible constructor)<;>first|omega|trivial|rfl) ?_|fail
 all_goals (refine Qi (I _ (by assumption)) ?_;unfold zP4;(repeat' split)<;>first | rfl | contradiction)
def Ty.zero (t:Ty):Bool:=t.k==0&&(t.as.length:Int)==0
theorem zBy (t:Ty) (d:D) (hd:t.Is d):vn 209 [.dg 2 d] t.zero:=λN Q J=>by
 cases t with
 | mk k l=>
 obtain ⟨a,es,c,rfl,hlen,I⟩:=Ty.is_mk.1 hd
 have O:=I.len
 refine zID N _ Q λ_=>?_
 repeat' first|with_reducible intro _|simp only[Y1,Y2,Y3,Y4]|with_reducible refine X ?_ ?_|refine⟨_,_,_,rfl,?_⟩|refine⟨_,rfl,?_⟩|refine And.intro (by first|omega|trivial|(show _=_;rfl)|(with_reducible constructor)<;>first|omega|trivial|rfl) ?_|fail
 all_goals refine Qb (J _ (by assumption)) ?_
 all_goals simp [Ty.zero,Ty.k,Ty.as,O, *]
def zF6 (k:Int) (nm ot:ByteArray):Bool:=
 if k=4 then decide (zP4 nm>0)&&decide (ot=bytes []) else if k=1\/k=6\/k=8 then sk nm&&decide (ot=bytes []) else if k=9 then sk nm&&(sk ot&&!decide (nm=ot)) else decide (nm=bytes [])&&decide (ot=bytes [])
theorem zUq (a b:Int):(a==b)=decide (a=b):=by rw [nQ];simp
def zGO (k:Int):Bool:=k==6||k==9
def xG (k:Int) (nm ot:ByteArray) (n:Int) (ty re:Ty):Bool:=
 (zGO k==ty.valid)&&((zGO k||ty.zero)&&(((k==9)==re.valid)&&((k==9||re.zero)&&(inB n 0 (if k=2 then 10006 else if k=3 then 1 else 0)&&zF6 k nm ot))))
def zLk (k:Int) (nm:ByteArray):Int:=
 if k=1\/k=2\/k=3 then 0 else if k=4 then zP4 nm else if k=6\/k=9\/k=10\/k=11\/k=12\/k=13 then 1 else if k=7\/k=8 then 2 else if k=5 then 3 else -1
mutual
def Tm.ok:Tm->Bool
 | .mk k nm ot n ty re l=>zD7 l&&(xG k nm ot n ty re&&(l.length:Int)==zLk k nm)
def zD7:List Tm->Bool
 | []=>true
 | t::I=>t.ok&&zD7 I
end
theorem zGp {k n:Int} {nm ot:ByteArray} {ty re:Ty} {t0 t1 r0 r1 x:D} (h:Tm.Hd nm ot ty re t0 t1 r0 r1):vn 210 [.dg 9 (.ag [.j k,.t nm,.t ot,.j n,t0,t1,r0,r1,x])] (zF6 k nm ot):=λN Q I=>by
 refine zGr N _ Q λ_=>?_
 repeat' first|with_reducible intro _|simp only[Y1,Y2,Y3,Y4]|with_reducible refine X ?_ ?_|refine⟨_,_,_,rfl,?_⟩|refine⟨_,rfl,?_⟩|refine And.intro (by first|omega|trivial|(show _=_;rfl)|(with_reducible constructor)<;>first|omega|trivial|rfl) ?_|refine (zAr _) _ _ ?_|refine (rc _ h.nm) _ _ ?_|refine (rc _ h.ot) _ _ ?_|fail
 all_goals (refine Qb (I _ (by omega)) ?_;simp [zF6,ti, *])
theorem zFL {k n:Int} {nm ot:ByteArray} {ty re:Ty} {t0 t1 r0 r1 x:D} (h:Tm.Hd nm ot ty re t0 t1 r0 r1) (hc:ty.cnt<=1073741824) (I:re.cnt<=1073741824) :
  vn 182 [.dg 9 (.ag [.j k,.t nm,.t ot,.j n,t0,t1,r0,r1,x])] (xG k nm ot n ty re):=λN Q J=>by
 refine zFY N _ Q λ_=>?_
 repeat' first|with_reducible intro _|simp only[Y1,Y2,Y3,Y4]|with_reducible refine X ?_ ?_|refine⟨_,_,_,rfl,?_⟩|refine⟨_,rfl,?_⟩|refine And.intro (by first|omega|trivial|(show _=_;rfl)|(with_reducible constructor)<;>first|omega|trivial|rfl) ?_|refine (xu _ _ h.ty hc) _ _ ?_|refine (xu _ _ h.re I) _ _ ?_|refine (zBy _ _ h.ty) _ _ ?_|refine (zBy _ _ h.re) _ _ ?_|refine (zA1 _ _ _) _ _ ?_|refine (zGp h) _ _ ?_|fail
 all_goals first | (exfalso;omega) | (refine Qb (J _ (by omega)) ?_;simp [xG,zGO, *];done) | (refine Qb (J _ (by omega)) ?_;simp_all [xG,zGO];done) | (refine Qb (J _ (by omega)) ?_;simp_all only [xG,zGO,zUq];simp_all;done)
theorem zGS {k n:Int} {nm ot:ByteArray} {t0 t1 r0 r1 x:D}:p9 147 [.dg 9 (.ag [.j k,.t nm,.t ot,.j n,t0,t1,r0,r1,x])] (zLk k nm):=λN Q I=>by
 refine zG1 N _ Q λ_=>?_
 repeat' first|with_reducible intro _|simp only[Y1,Y2,Y3,Y4]|with_reducible refine X ?_ ?_|refine⟨_,_,_,rfl,?_⟩|refine⟨_,rfl,?_⟩|refine And.intro (by first|omega|trivial|(show _=_;rfl)|(with_reducible constructor)<;>first|omega|trivial|rfl) ?_|refine (zAr _) _ _ ?_|fail
 all_goals (refine Qi (I _ (by omega)) ?_;simp [zLk, *])
theorem zIg:∀ (t:Tm) (d:D),t.Is d->t.cnt<=1073741824->vn 155 [.dg 9 d] t.ok:=by
 refine Tm.ind λk nm ot n ty re l ih d hd hc N Q hQ=>?_
 obtain ⟨t0,t1,r0,r1,a,es,c,rfl,hh,hlen,O⟩:=Tm.is_mk.1 hd
 have hl:=O.len
 simp only [Tm.cnt] at hc
 refine zIL N _ Q λ_=>?_
 have key:=up O hlen (λi xs=>∀ (N':Nat),N<=N'->(∀ N'',N'<=N''->Q (zD7 xs&&(xG k nm ot n ty re&&(l.length:Int)==zLk k nm)) N'')->vk Q N i (.ag [.j k,.t nm,.t ot,.j n,t0,t1,r0,r1,.sl a 9 es c]) N') ?_ ?_
 ·exact key N (oA _) hQ
 ·intro i aa _ N' ab J
  refine pn _ _ _ _ _ ?_
  repeat' first|with_reducible intro _|simp only[aa,Y1,Y2,Y3,Y4]|with_reducible refine X ?_ ?_|refine⟨_,_,_,rfl,?_⟩|refine⟨_,rfl,?_⟩|refine And.intro (by first|omega|trivial|(show _=_;rfl)|(with_reducible constructor)<;>first|omega|trivial|rfl) ?_|refine (zFL hh (by omega) (by omega)) _ _ ?_|refine zGS _ _ ?_|fail
  all_goals (refine Qb (J _ (by omega)) ?_;simp [zD7, *])
 ·intro i x xs I _ ac N' ab J
  have hb:=I.b
  have ae:=zn I.m
  refine pn _ _ _ _ _ ?_
  repeat' first|with_reducible intro _|simp only[I.lt,I.w,oH,Y1,Y2,Y3,Y4]|with_reducible refine X ?_ ?_|refine⟨_,_,_,rfl,?_⟩|refine⟨_,rfl,?_⟩|refine And.intro (by first|omega|trivial|(show _=_;rfl)|(with_reducible constructor)<;>first|omega|trivial|rfl) ?_|refine (ih x I.m _ I.r (by omega)) _ _ ?_|fail
  ·refine Qb (J _ (by omega)) ?_;simp [zD7, *]
  ·exact ac _ (by omega) λN'' h=>Qb (J N'' (by omega)) (by simp [zD7, *])
theorem qk {n a b:Int}:inB n a b=true↔a<=n/\n<=b:=by simp [inB]
def yX (k n:Int):Int:=if k=10 then n+1 else if k=11 then n - 1 else n
mutual
def Tm.lev:Tm->Int->Bool
 | .mk k _ _ _ _ _ l,n=>inB n 0 2&&zAb l (yX k n)
def zAb:List Tm->Int->Bool
 | [],_=>true
 | t::I,n=>t.lev n&&zAb I n
end
theorem zBn {k n m:Int} {c1 I J O c6 c7 c8:D} (h:0<=m/\m<=2):p9 212 [.dg 9 (.ag [.j k,c1,I,.j n,J,O,c6,c7,c8]),.j m] (yX k m):=λN Q hQ=>by
 refine zIR N _ m Q λ_=>?_
 rw [i64_in (m+1) (by omega),i64_in (m - 1) (by omega)]
 repeat' first|with_reducible intro _|simp only[Y1,Y2,Y3,Y4]|with_reducible refine X ?_ ?_|refine⟨_,_,_,rfl,?_⟩|refine⟨_,rfl,?_⟩|refine And.intro (by first|omega|trivial|(show _=_;rfl)|(with_reducible constructor)<;>first|omega|trivial|rfl) ?_|fail
 all_goals (refine Qi (hQ _ (by omega)) ?_;simp [yX, *])
def zMR (t:Tm) (n:Int):Bool:=t.ok&&t.lev n
structure Ctx (g:List Tg) (es:List D):Prop where
 len:es.length<=4611686018427387904
 all:All2 Tg.Is g es
def Tg.ok (g:Tg):Bool:=sk g.nm&&(g.ty.valid&&inB g.lv 0 2)
def zJz:List Tg->Bool
 | []=>true
 | g::I=>g.ok&&zJz I
def zIb (g:List Tg):Bool:=zJz g&&decide ((g.length:Int)<=12)
def tg0:Tg:=⟨bytes [],tZero,0⟩
def zAc (g:List Tg) (s:ByteArray):Nat->Int
 | 0 => -1
 | k+1=>if (g.getD k tg0).nm=s then k else zAc g s k
def ym (g:List Tg) (s:ByteArray):Int:=zAc g s g.length
theorem zGF (g:List Tg) (s:ByteArray):∀ n:Nat,zAc g s n = -1\/(0<=zAc g s n/\zAc g s n<n)
 | 0=>.inl rfl
 | n+1=>by
   simp only [zAc]
   split
   ·exact .inr (by omega)
   ·rcases zGF g s n with h | h
    ·exact .inl h
    ·exact .inr (by omega)
theorem zU8 {α:Type} {R:α->D->Prop} {l:List α} {es:List D} (h:All2 R l es) (hlen:es.length<=4611686018427387904) (P:Int->Prop) (O:P (-1))
  (hs:∀ (i:Nat) x,At R l es i x->decide ((i:Int)≥0)=true->IntKind.i64.wrap ((i:Int) - 1)=(i:Int) - 1->P ((i:Int) - 1)->P i):P ((es.length:Int) - 1):=by
 have hl:=h.len
 have key:∀ n:Nat,n<=l.length->P ((n:Int) - 1):=by
  intro n
  induction n with
  | zero=>intro _;exact O
  | succ n ih=>
    intro I
    have J:l[n]?=some l[n]:=oI I
    have e:((n+1:Nat):Int) - 1=n:=by omega
    rw [e]
    exact hs n _ ⟨mu (by omega),⟨by omega,by omega⟩,by rw [i64_in _ (by omega)];simp,h.get J,mN I,J⟩ (mu (by omega)) (i64_in _ (by omega)) (ih (by omega))
 rw [hl]
 exact key _ (oA _)
theorem zJJ {α:Type} {l:List α} {i:Nat} {x d:α} (h:l[i]?=some x):l.getD i d=x:=by simp [oB,h]
theorem rQ {g:List Tg} {es:List D} (h:Ctx g es) (a:Option Addr) (c:Nat) (s:ByteArray):p9 183 [.sv a 4 es c,.str s] (ym g s):=λN Q hQ=>by
 have hl:=h.all.len
 have h1:=h.len
 refine zIl N a es c s Q λ_=>?_
 have key:=zU8 h.all h.len (λm=>∀ (N':Nat),N<=N'->(∀ N'',N'<=N''->Q (zAc g s (m+1).toNat) N'')->vX Q N a es c s m N') ?_ ?_
 ·rw [i64_in _ (by omega)]
  exact key N (oA _) λN' J=>Qi (hQ N' J) (by rw [ym,<-hl];congr 1;omega)
 ·intro N' J I
  refine pW _ _ _ _ _ _ _ _ ?_
  repeat' first|with_reducible intro _|simp only[Y1,Y2,Y3,Y4]|with_reducible refine X ?_ ?_|refine⟨_,_,_,rfl,?_⟩|refine⟨_,rfl,?_⟩|refine And.intro (by first|omega|trivial|(show _=_;rfl)|(with_reducible constructor)<;>first|omega|trivial|rfl) ?_|fail
  ·omega
  ·exact I _ (by assumption)
 ·intro i x O aa hw ih N' J I
  have hb:=O.b
  obtain ⟨t0,t1,hd,hs,ht⟩:=O.r
  have e1:((i:Int)+1).toNat=i+1:=by omega
  have e2:((i:Int) - 1+1).toNat=i:=by omega
  rw [e1] at I
  simp only [zAc,zJJ O.g] at I
  rw [e2] at ih
  refine pW _ _ _ _ _ _ _ _ ?_
  repeat' first|with_reducible intro _|simp only[aa,hw,oH,hd,Y1,Y2,Y3,Y4]|with_reducible refine X ?_ ?_|refine⟨_,_,_,rfl,?_⟩|refine⟨_,rfl,?_⟩|refine And.intro (by first|omega|trivial|(show _=_;rfl)|(with_reducible constructor)<;>first|omega|trivial|rfl) ?_|fail
  ·rename_i hx _ _;exact Qi (I _ (by omega)) (by rw [if_pos hx])
  ·rename_i hx;exact ih _ (by omega) λN'' h=>Qi (I N'' (by omega)) (by rw [if_neg hx])
theorem Ty.is_cells {t:Ty} {d:D} (h:t.Is d):t.Is (.ag [D.cell d 0,D.cell d 1]):=by
 cases t with
 | mk k l=>obtain ⟨a,es,c,rfl,_,_⟩:=Ty.is_mk.1 h;exact h
def zFR (g:List Tg) (n:Int) (x:Tg) (i:Nat):Bool:=x.ty.base&&(decide (x.lv<=n)&&decide (ym g x.nm=(i:Int)))
def rH (g:List Tg) (n:Int):List Tg->Nat->List Tg
 | [],_=>[]
 | x::xs,i=>if zFR g n x i then x::rH g n xs (i+1) else rH g n xs (i+1)
def sO (g:List Tg) (n:Int):List Tg:=rH g n g 0
theorem zCh (g:List Tg) (n:Int):∀ (l:List Tg) (i:Nat),(∀ x∈rH g n l i,x∈l)/\(rH g n l i).length<=l.length
 | [],i=>by simp [rH]
 | x::xs,i=>by
   have h:=zCh g n xs (i+1)
   simp only [rH]
   split
   ·refine ⟨λy hy=>?_,by simp;exact h.2⟩
    rcases oJ.1 hy with rfl | hy
    ·exact nT
    ·exact nj _ (h.1 y hy)
   ·exact ⟨λy hy=>nj _ (h.1 y hy),by have:=h.2;simp;omega⟩
theorem zAe {g:List Tg} {es:List D} (h:Ctx g es) (hg:g.length<=1073741824) (hc:∀ x∈g,x.ty.cnt<=1073741824) (a:Option Addr) (c:Nat) (n:Int) :
  ∀ (N:Nat) (Q:QT [.sl 4]),(∀ a' es' c' N',N<=N'->Ctx (sO g n) es'->Q a' es' c' N')->ACalls prog 211 [.sl 4] [.sv a 4 es c,.j n] N Q:=λN Q hQ=>by
 have hl:=h.all.len
 refine zGz N a es c n Q λ_=>?_
 have key:=up h.all h.len (λi xs=>∀ (r:List D) (m q:Nat) (N':Nat) (done:List Tg),N<=N'->m=r.length->All2 Tg.Is done r->done.length<=i->done++rH g n xs i=sO g n->yW Q N a es c n m q i r q N') ?_ ?_
 ·exact key [] 0 0 N [] (oA _) rfl rfl (oA _) rfl
 ·intro i aa hi r m q N' done ab hm J ac hd
  refine qJ _ _ _ _ _ _ _ _ _ _ _ _ ?_
  repeat' first|with_reducible intro _|simp only[aa,Y1,Y2,Y3,Y4]|with_reducible refine X ?_ ?_|refine⟨_,_,_,rfl,?_⟩|refine⟨_,rfl,?_⟩|refine And.intro (by first|omega|trivial|(show _=_;rfl)|(with_reducible constructor)<;>first|omega|trivial|rfl) ?_|fail
  refine hQ _ _ _ _ (by omega) ⟨by have:=J.len;omega,?_⟩
  simp only [rH,oY] at hd
  rwa [<-hd]
 ·intro i x xs I _ O r m q N' done ab hm J ac hd
  have hb:=I.b
  have ah:=J.len
  obtain ⟨t0,t1,he,hs,ht⟩:=I.r
  simp only [rH] at hd
  refine qJ _ _ _ _ _ _ _ _ _ _ _ _ ?_
  repeat' first|with_reducible intro _|simp only[I.lt,I.w,oH,he,Y1,Y2,Y3,Y4]|with_reducible refine X ?_ ?_|refine⟨_,_,_,rfl,?_⟩|refine⟨_,rfl,?_⟩|refine And.intro (by first|omega|trivial|(show _=_;rfl)|(with_reducible constructor)<;>first|omega|trivial|rfl) ?_|refine (rx _ _ ht) _ _ ?_|refine (rQ h a c _) _ _ ?_|refine (zw _ _ ht (hc x I.m)) _ _ ?_|fail
  ·rename_i N2 ai x' N3 aj hx ho _ _
   have ae:zFR g n x i=true:=by simp [zFR, *]
   rw [if_pos ae] at hd
   refine ⟨by unfold zC;simp only [oE,nu];omega,λc2=>O _ _ _ _ (done++[x]) (by omega) rfl (J.snoc ⟨_,_,rfl,hs,Ty.is_cells hx⟩) (by simp;omega) (by simpa using hd)⟩
  all_goals (refine O _ _ _ _ done (by omega) hm J (by omega) ?_;rw [<-hd,if_neg (by simp [zFR, *])])
theorem wT {g:List Tg} {es:List D} (h:Ctx g es) (hg:g.length<=1073741824) (a:Option Addr) (c:Nat) {s:ByteArray} (hs:s.size<=4611686018427387904) {t:Ty} {d:D} (I:t.Is d) (n:Int) :
  ∀ (N:Nat) (Q:QT [.sl 4]),(∀ J es' O N',N<=N'->Ctx (g++[⟨s,t,n⟩]) es'->Q J es' O N')->ACalls prog 169 [.sl 4] [.sv a 4 es c,.str s,.dg 2 d,.j n] N Q:=λN Q hQ=>by
 have hl:=h.all.len
 have hb:∀ x:D,zC ([]++es) [x] 56:=λx=>by unfold zC;simp only [oR,oE,nu];omega
 have aa:zC [] es 56:=by unfold zC;simp only [oR];omega
 refine zJi N a es c s d n Q λ_ _=>?_
 repeat' first|with_reducible intro _|simp only[Y1,Y2,Y3,Y4]|with_reducible refine X ?_ ?_|refine⟨_,_,_,rfl,?_⟩|refine⟨_,rfl,?_⟩|refine And.intro (by first|omega|trivial|(show _=_;rfl)|(with_reducible constructor)<;>first|omega|trivial|rfl) ?_|fail
 refine ⟨hb _,λc2=>?_⟩
 repeat' first|with_reducible intro _|simp only[Y1,Y2,Y3,Y4]|with_reducible refine X ?_ ?_|refine⟨_,_,_,rfl,?_⟩|refine⟨_,rfl,?_⟩|refine And.intro (by first|omega|trivial|(show _=_;rfl)|(with_reducible constructor)<;>first|omega|trivial|rfl) ?_|fail
 refine hQ _ _ _ _ (by omega) ⟨by simp;omega,?_⟩
 simp only [oR]
 exact h.all.snoc ⟨_,_,rfl,hs,Ty.is_cells I⟩
def zNZ (o:Option Ty) (d:D) (b:Bool):Prop:=match o with
 | some t=>b=true/\t.Is d
 | none=>b=false
/-- the kind of what an operation works on -/
def zKQ (s:ByteArray):Int:=if s=bytes [38] then 2 else if s=bytes [124] then 2 else if s=bytes [33] then 2 else 1
def zFN (s:ByteArray):Ty:=if s=bytes [43] then tInt else if s=bytes [45] then tInt else if s=bytes [42] then tInt else tBool
def zRg (w:Int):List Ty->Bool
 | []=>true
 | t::I=>decide (t.k=w)&&zRg w I
def zTI (s:ByteArray) (I:List Ty):Option Ty:=if zRg (zKQ s) I then some (zFN s) else none
theorem zL5 {ts:List Ty} {es:List D} (h:All2 Ty.Is ts es) (hlen:es.length<=4611686018427387904) (a:Option Addr) (c:Nat) (s:ByteArray) :
  ∀ (N:Nat) (Q:QT [.ag 2,.bool]),(∀ d b N',N<=N'->zNZ (zTI s ts) d b->(∀ x∈d.foot,N<=x)->Q d b N')->ACalls prog 213 [.ag 2,.bool] [.str s,.sv a 2 es c] N Q:=fun N Q hQ=>by
 refine zMD N s a es c Q fun _=>?_
 have key:yq Q N s a es c (zKQ s) (0:Nat) 0 none [] 0 N:=by
  refine up h hlen (fun i xs=>∀ (N':Nat),N<=N'->zRg (zKQ s) xs=zRg (zKQ s) ts->yq Q N s a es c (zKQ s) i 0 none [] 0 N') ?_ ?_ N (oA _) rfl
  ·intro i hlt _ N' hN' hk
   refine zBv _ _ _ _ _ _ _ _ _ _ _ _ _ ?_
   have ho:zTI s ts=some (zFN s):=by rw [zTI,<-hk];rfl
   rw [ho] at hQ
   repeat' first|with_reducible intro _|simp only[hlt,Y1,Y2,Y3,Y4]|with_reducible refine X ?_ ?_|refine⟨_,_,_,rfl,?_⟩|refine⟨_,rfl,?_⟩|refine And.intro (by first|omega|trivial|(show _=_;rfl)|(with_reducible constructor)<;>first|omega|trivial|rfl) ?_|refine zDN _ _ ?_|refine zBJ _ _ ?_|fail
   all_goals
    rename_i hx ho _ _ _ _
    refine hQ _ _ _ (by omega) ⟨rfl,?_⟩ fun b hb=>by have:=ho.lo b hb;omega
    have e:zFN s=tInt\/zFN s=tBool:=by unfold zFN;(repeat' split)<;>simp
    first
     | (have e:zFN s=tInt:=by unfold zFN;(repeat' split)<;>first | rfl | contradiction
        rw [e];exact hx)
     | (have e:zFN s=tBool:=by unfold zFN;(repeat' split)<;>first | rfl | contradiction
        rw [e];exact hx)
  ·intro i x xs hat _ ih2 N' hN' hk
   have hb:=hat.b
   cases x with
   | mk k l=>
   obtain ⟨a1,es1,c1,he,_,_⟩:=Ty.is_mk.1 hat.r
   refine zBv _ _ _ _ _ _ _ _ _ _ _ _ _ ?_
   repeat' first|with_reducible intro _|simp only[hat.lt,hat.w,oH,he,Y1,Y2,Y3,Y4]|with_reducible refine X ?_ ?_|refine⟨_,_,_,rfl,?_⟩|refine⟨_,rfl,?_⟩|refine And.intro (by first|omega|trivial|(show _=_;rfl)|(with_reducible constructor)<;>first|omega|trivial|rfl) ?_|fail
   ·rename_i hne _ _
    refine hQ _ _ _ (by omega) ?_ (by simp [D.foot,zB])
    have:zRg (zKQ s) ts=false:=by rw [<-hk];simp [zRg,Ty.k,hne]
    rw [zTI,this];rfl
   ·rename_i hne
    exact ih2 _ hN' (by rw [<-hk];simp [zRg,Ty.k,hne])
 have e:zKQ s=2\/zKQ s=1:=by unfold zKQ;(repeat' split)<;>simp
 repeat' first|with_reducible intro _|simp only[Y1,Y2,Y3,Y4]|with_reducible refine X ?_ ?_|refine⟨_,_,_,rfl,?_⟩|refine⟨_,rfl,?_⟩|refine And.intro (by first|omega|trivial|(show _=_;rfl)|(with_reducible constructor)<;>first|omega|trivial|rfl) ?_|fail
 all_goals
  first
   | (have e:zKQ s=2:=by unfold zKQ;(repeat' split)<;>first | rfl | contradiction
      rw [e] at key;exact key)
   | (have e:zKQ s=1:=by unfold zKQ;(repeat' split)<;>first | rfl | contradiction
      rw [e] at key;exact key)
/-- the type of a form of parts of these types -/
def wa (k:Int) (s:ByteArray) (I:List Ty):Option Ty:=
 if k=4 then zTI s I
 else if k=5 then (if (I.getD 0 tZero).k=2/\tW (I.getD 1 tZero) (I.getD 2 tZero) then some (I.getD 1 tZero) else none)
 else if (I.getD 0 tZero).k=3/\tW ((I.getD 0 tZero).as.getD 0 tZero) (I.getD 1 tZero) then some ((I.getD 0 tZero).as.getD 1 tZero) else none
theorem Ty.form_len {k:Int} {l:List Ty} (h:(Ty.mk k l).valid=true):zAT k l.length=true:=by
 simp only [Ty.valid,Ty.form,oL] at h
 exact h.2.2
theorem Ty.valid_cnt {t:Ty} (h:t.valid=true):t.cnt<=30:=by
 simp only [Ty.valid,oL,nC] at h
 exact h.1.1
theorem zIX {I:List Ty} {es:List D} (h:All2 Ty.Is I es) (hlen:es.length<=4611686018427387904) (a:Option Addr) (c:Nat) {k n:Int} {s:ByteArray} {c2 c4 c5 c6 c7 c8:D}
  (hv:∀ t∈I,t.valid=true) (hk:k=4\/k=5/\I.length=3\/k=7/\I.length=2) :
  ∀ (N:Nat) (Q:QT [.ag 2,.bool]),(∀ d b N',N<=N'->zNZ (wa k s I) d b->(∀ x∈d.foot,x∈zB es\/N<=x)->Q d b N') ->
  ACalls prog 186 [.ag 2,.bool] [.dg 9 (.ag [.j k,.t s,c2,.j n,c4,c5,c6,c7,c8]),.sv a 2 es c] N Q:=λN Q hQ=>by
 refine zIv N _ a es c Q λ_ _=>?_
 rcases hk with rfl | ⟨rfl,hl⟩ | ⟨rfl,hl⟩
 ·repeat' first|with_reducible intro _|simp only[Y1,Y2,Y3,Y4]|with_reducible refine X ?_ ?_|refine⟨_,_,_,rfl,?_⟩|refine⟨_,rfl,?_⟩|refine And.intro (by first|omega|trivial|(show _=_;rfl)|(with_reducible constructor)<;>first|omega|trivial|rfl) ?_|refine (zL5 h hlen a c s) _ _ ?_|fail
  ·rename_i N1 ac d b N2 ae ho ah _ _ N3 ai
   exact hQ _ _ _ (by omega) (by simpa [wa] using ho) λx hx=>.inr (by have:=ah x hx;omega)
  all_goals (exfalso;omega)
 ·obtain ⟨t0,t1,t2,rfl⟩:∃ t0 t1 t2,I=[t0,t1,t2]:=by
   match I,hl with
   | [t0,t1,t2],_=>exact ⟨t0,t1,t2,rfl⟩
  obtain ⟨d0,_,rfl,h0,d1,_,rfl,h1,d2,_,rfl,h2,rfl⟩:=h
  cases t0 with
  | mk k0 J=>
  obtain ⟨a0,aj,c0,rfl,ak,aa⟩:=Ty.is_mk.1 h0
  have hq:∀ (b:Bool) (N':Nat),N<=N'->(k0=2/\tW t1 t2=b\/¬k0=2/\b=false)->Q d1 b N':=λb N' O hb=>by
   refine hQ _ _ _ O ?_ λx hx=>.inl (by simp only [zB,oF];exact .inr (.inl hx))
   rcases hb with ⟨e1,e2⟩ | ⟨e1,rfl⟩
   ·cases b<;>simp [wa,Ty.k,e1,e2,zNZ,h1]
   ·simp [wa,Ty.k,e1,zNZ]
  repeat' first|with_reducible intro _|simp only[oK,oO,Y1,Y2,Y3,Y4]|with_reducible refine X ?_ ?_|refine⟨_,_,_,rfl,?_⟩|refine⟨_,rfl,?_⟩|refine And.intro (by first|omega|trivial|(show _=_;rfl)|(with_reducible constructor)<;>first|omega|trivial|rfl) ?_|refine (xj _ _ _ _ h1 h2) _ _ ?_|fail
  all_goals first | (exfalso;omega) | skip
  ·exact hq _ _ (by omega) (.inl ⟨by assumption,rfl⟩)
  ·exact hq _ _ (by omega) (.inr ⟨by assumption,rfl⟩)
 ·obtain ⟨t0,t1,rfl⟩:∃ t0 t1,I=[t0,t1]:=by
   match I,hl with
   | [t0,t1],_=>exact ⟨t0,t1,rfl⟩
  obtain ⟨d0,_,rfl,h0,d1,_,rfl,h1,rfl⟩:=h
  cases t0 with
  | mk k0 J=>
  obtain ⟨a0,aj,c0,rfl,ak,aa⟩:=Ty.is_mk.1 h0
  have hf:=Ty.form_len (hv _ nT)
  have al:=Ty.valid_cnt (hv _ nT)
  have hz:∀ N',N<=N'->¬(k0=3/\tW (J.getD 0 tZero) t1=true)->Q (.ag [.j 0,.sl none 2 [] 0]) false N':=λN' O hb=>by
   refine hQ _ _ _ O ?_ (by simp [D.foot,zB])
   have:wa 7 s [.mk k0 J,t1]=none:=by
    simp only [wa]
    rw [if_neg (by omega),if_neg (by omega)]
    exact if_neg hb
   rw [this];rfl
  by_cases hk:k0=3
  ·subst hk
   have ab:(J.length:Int)=2:=by simpa [zAT] using hf
   have ab:J.length=2:=by omega
   obtain ⟨u0,u1,rfl⟩:∃ t0 t1,J=[t0,t1]:=by
    match J,ab with
    | [t0,t1],_=>exact ⟨t0,t1,rfl⟩
   obtain ⟨x0,_,rfl,am,x1,_,rfl,ao,rfl⟩:=aa
   simp only [Ty.cnt,zI] at al
   repeat' first|with_reducible intro _|simp only[oK,oO,Y1,Y2,Y3,Y4]|with_reducible refine X ?_ ?_|refine⟨_,_,_,rfl,?_⟩|refine⟨_,rfl,?_⟩|refine And.intro (by first|omega|trivial|(show _=_;rfl)|(with_reducible constructor)<;>first|omega|trivial|rfl) ?_|refine (xj _ _ _ _ am h1) _ _ ?_|refine (zw _ _ ao (by omega)) _ _ ?_|fail
   all_goals first | (exfalso;omega) | skip
   ·rename_i he N1 ac d' N2 ae aq ho _ _ N3 ai
    refine hQ _ _ _ (by omega) ?_ λx hx=>.inr (by have:=ho.lo x hx;omega)
    simp [wa,Ty.k,Ty.as,he,zNZ,aq]
   ·rename_i he _ _
    exact hz _ (by omega) (by simp [he])
  ·repeat' first|with_reducible intro _|simp only[oK,oO,Y1,Y2,Y3,Y4]|with_reducible refine X ?_ ?_|refine⟨_,_,_,rfl,?_⟩|refine⟨_,rfl,?_⟩|refine And.intro (by first|omega|trivial|(show _=_;rfl)|(with_reducible constructor)<;>first|omega|trivial|rfl) ?_|fail
   all_goals first | (exfalso;omega) | skip
   exact hz _ (by omega) λhc=>hk hc.1
def vld (o:Option Ty):Option Ty:=match o with
 | some t=>if t.valid then some t else none
 | none=>none
/-- the type of code, a splice, a run or a lift over this type -/
def xT (k:Int) (t:Ty):Option Ty:=
 if k=10 then some (zEU t) else if k=13 then (if t.base then some (zEU t) else none) else if t.k=4 then some (t.as.getD 0 tZero) else none
def zCs (g:List Tg) (s:ByteArray) (n:Int):Option Ty:=
 if ym g s<0 then none else if (g.getD (ym g s).toNat tg0).lv=n then some (g.getD (ym g s).toNat tg0).ty else none
mutual
def Tm.type:Tm->List Tg->Int->Option Ty
 | .mk k nm ot _ ty re l,g,n=>vld (
   if k=1 then zCs g nm n
   else if k=2 then some tInt
   else if k=3 then some tBool
   else if k=6 then (match u7 l 0 (g++[⟨nm,ty,n⟩]) n with | some b=>some (tc ty b) | none=>none)
   else if k=8 then (match u7 l 0 g n with | some a=>u7 l 1 (g++[⟨nm,a,n⟩]) n | none=>none)
   else if k=9 then (match u7 l 0 ((g++[⟨nm,tc ty re,n⟩])++[⟨ot,ty,n⟩]) n with | some b=>if tW b re then some (tc ty re) else none | none=>none)
   else if k=10\/k=11\/k=12\/k=13 then (match u7 l 0 (if k=12 then sO g n else g) (yX k n) with | some t=>xT k t | none=>none)
   else (match ya l g n with | some I=>wa k nm I | none=>none))
def u7:List Tm->Nat->List Tg->Int->Option Ty
 | [],_,_,_=>none
 | t::_,0,g,n=>t.type g n
 | _::I,i+1,g,n=>u7 I i g n
def ya:List Tm->List Tg->Int->Option (List Ty)
 | [],_,_=>some []
 | t::I,g,n=>match t.type g n with
   | some u=>(match ya I g n with | some us=>some (u::us) | none=>none)
   | none=>none
end
theorem zRk {o:Option Ty} {t:Ty} (h:vld o=some t):o=some t/\t.valid=true:=by
 cases o with
 | none=>cases h
 | some u=>
   simp only [vld] at h
   split at h
   ·cases h;exact ⟨rfl,by assumption⟩
   ·cases h
theorem Tm.type_valid {e:Tm} {g:List Tg} {n:Int} {t:Ty} (h:e.type g n=some t):t.valid=true:=by
 cases e with
 | mk k nm ot m ty re l=>
   simp only [Tm.type] at h
   exact (zRk h).2
theorem zHT:∀ {l:List Tm} {g:List Tg} {n:Int} {I:List Ty},ya l g n=some I->I.length=l.length/\∀ t∈I,t.valid=true
 | [],g,n,I,h=>by simp [ya] at h;subst h;simp
 | e :: es,g,n,I,h=>by
   simp only [ya] at h
   split at h
   ·rename_i u O
    split at h
    ·rename_i us J
     cases h
     have:=zHT J
     refine ⟨by simp [this.1],λt ht=>?_⟩
     rcases oJ.1 ht with rfl | ht
     ·exact Tm.type_valid O
     ·exact this.2 t ht
    ·cases h
   ·cases h
/-- what typing may count on -/
structure Pre (g:List Tg) (e:Tm) (n:Int):Prop where
 ok:e.ok=true
 lev:e.lev n=true
 len:g.length+2*e.cnt<=1073741824
 ty:∀ x∈g,x.ty.cnt<=64
/-- the facts of a well-formed node -/
structure Node (k:Int) (nm ot:ByteArray) (n:Int) (ty re:Ty) (l:List Tm):Prop where
 f:xG k nm ot n ty re=true
 ar:(l.length:Int)=zLk k nm
 sub:∀ x∈l,x.ok=true
theorem zKY:∀ {l:List Tm} {x:Tm},zD7 l=true->x∈l->x.ok=true
 | t::I,x,h,hx=>by
   simp only [zD7,oL] at h
   rcases oJ.1 hx with rfl | hx
   ·exact h.1
   ·exact zKY h.2 hx
theorem zHy:∀ {l:List Tm} {n:Int} {x:Tm},zAb l n=true->x∈l->x.lev n=true
 | t::I,n,x,h,hx=>by
   simp only [zAb,oL] at h
   rcases oJ.1 hx with rfl | hx
   ·exact h.1
   ·exact zHy h.2 hx
theorem xq {k:Int} {nm ot:ByteArray} {n:Int} {ty re:Ty} {l:List Tm} (h:(Tm.mk k nm ot n ty re l).ok=true):Node k nm ot n ty re l:=by
 simp only [Tm.ok,oL] at h
 exact ⟨h.2.1,by simpa using h.2.2,λx I=>zKY h.1 I⟩
theorem Node.vt {k n:Int} {nm ot:ByteArray} {ty re:Ty} {l:List Tm} (h:Node k nm ot n ty re l) (I:k=6\/k=9):ty.valid=true:=by
 have:=h.f
 have e:zGO k=true:=by rcases I with rfl | rfl<;>rfl
 simp only [xG,oL,e] at this
 simpa using this.1
theorem Node.vr {k n:Int} {nm ot:ByteArray} {ty re:Ty} {l:List Tm} (h:Node k nm ot n ty re l) (I:k=9):re.valid=true:=by
 have:=h.f
 subst I
 simp only [xG,oL] at this
 simpa using this.2.2.1
theorem zJm {k:Int} {nm:ByteArray} (h:0<=zLk k nm):k=1\/k=2\/k=3\/k=4\/k=5\/k=6\/k=7\/k=8\/k=9\/k=10\/k=11\/k=12\/k=13:=by
 unfold zLk at h
 (repeat' split at h)<;>omega
theorem Ty.cnt_pos (t:Ty):1<=t.cnt:=by cases t;simp only [Ty.cnt];omega
theorem Pre.sub {g g':List Tg} {k:Int} {nm ot:ByteArray} {m:Int} {ty re:Ty} {l:List Tm} {n:Int} {x:Tm} (h:Pre g (.mk k nm ot m ty re l) n) (I:x∈l) (hl:g'.length<=g.length+2) (J:∀ y∈g',y.ty.cnt<=64):Pre g' x (yX k n):=by
 have O:=h.len
 have h2:=zn I
 have h3:=ty.cnt_pos
 have h4:=re.cnt_pos
 simp only [Tm.cnt] at O
 refine ⟨(xq h.ok).sub x I,?_,by omega,J⟩
 have:=h.lev
 simp only [Tm.lev,oL] at this
 exact zHy this.2 I
theorem Pre.lv {g:List Tg} {e:Tm} {n:Int} (h:Pre g e n):0<=n/\n<=2:=by
 have:=h.lev
 cases e
 simp only [Tm.lev,oL] at this
 exact qk.1 this.1
theorem qe {g:List Tg} (h:∀ y∈g,y.ty.cnt<=64) {x:Tg} (I:x.ty.cnt<=64):∀ y∈g++[x],y.ty.cnt<=64:=λy hy=>by
 rcases oF.1 hy with hy | hy
 ·exact h y hy
 ·rw [oZ] at hy;subst hy;exact I
theorem zJb (e:Tm) (g:List Tg) (n:Int):((e.type g n).getD tZero).cnt<=30:=by
 cases h:e.type g n with
 | none=>simp [tZero,Ty.cnt,zI]
 | some t=>simpa using Ty.valid_cnt (Tm.type_valid h)
/-- returns this type and true, or the zero type and false -/
def zTr (f:FuncId) (args:List PV) (o:Option Ty):Prop:=∀ (N:Nat) (Q:QT [.ag 2,.bool]),(∀ d N',N<=N'->(o.getD tZero).Is d->Q d o.isSome N')->ACalls prog f [.ag 2,.bool] args N Q
/-- returns this type and true, or false -/
def zTx (f:FuncId) (args:List PV) (o:Option Ty):Prop:=∀ (N:Nat) (Q:QT [.ag 2,.bool]),(∀ d N',N<=N'->(∀ t,o=some t->t.Is d)->Q d o.isSome N')->ACalls prog f [.ag 2,.bool] args N Q
def IH (l:List Tm):Prop:=∀ x∈l,∀ d,x.Is d->∀ g es a c n,Pre g x n->Ctx g es->zTr 115 [.sv a 4 es c,.dg 9 d,.j n] (x.type g n)
theorem zSS {nm ot:ByteArray} {m n:Int} {ty re:Ty} {e0:Tm} {t0 t1 r0 r1 d0:D} {a1 a:Option Addr} {c1 c:Nat} {g:List Tg} {es:List D} (ih:IH [e0]) (O:Tm.Hd nm ot ty re t0 t1 r0 r1) (h0:e0.Is d0)
  (pre:Pre g (.mk 6 nm ot m ty re [e0]) n) (aa:Ctx g es) :
  zTx 184 [.sv a 4 es c,.dg 9 (.ag [.j 6,.t nm,.t ot,.j m,t0,t1,r0,r1,.sl a1 9 [d0] c1]),.j n] (match e0.type (g++[⟨nm,ty,n⟩]) n with | some b=>some (tc ty b) | none=>none):=λN Q J=>by
 have hlen:=pre.len
 have hv:=Ty.valid_cnt ((xq pre.ok).vt (.inl rfl))
 have hp:Pre (g++[⟨nm,ty,n⟩]) e0 n:=by simpa [yX] using pre.sub (x:=e0) (by simp) (g':=g++[⟨nm,ty,n⟩]) (by simp) (qe pre.ty (show ty.cnt<=64 by omega))
 have hc:=zJb e0 (g++[⟨nm,ty,n⟩]) n
 refine rR N a es c _ n Q λ_ _=>?_
 repeat' first|with_reducible intro _|simp only[oK,oO,Y1,Y2,Y3,Y4]|with_reducible refine X ?_ ?_|refine⟨_,_,_,rfl,?_⟩|refine⟨_,rfl,?_⟩|refine And.intro (by first|omega|trivial|(show _=_;rfl)|(with_reducible constructor)<;>first|omega|trivial|rfl) ?_|refine (wT aa (by omega) a c O.nm O.ty n) _ _ ?_|refine (ih e0 nT d0 h0 (g++[⟨nm,ty,n⟩]) _ _ _ n hp (by assumption)) _ _ ?_|refine (qj ty ((e0.type (g++[⟨nm,ty,n⟩]) n).getD tZero) _ _ O.ty (by assumption) (by omega) (by omega)) _ _ ?_|fail
 all_goals first | (exfalso;omega) | skip
 rename_i x1 N6 ab I ho _ _ N7 ac
 cases h:e0.type (g++[⟨nm,ty,n⟩]) n with
 | none=>rw [h] at J;exact J _ _ (by omega) (by simp)
 | some b=>rw [h] at J I;exact J _ _ (by omega) (by simpa using I)
theorem zSN {nm ot:ByteArray} {m n:Int} {ty re:Ty} {e0 e1:Tm} {t0 t1 r0 r1 d0 d1:D} {a1 a:Option Addr} {c1 c:Nat} {g:List Tg} {es:List D} (ih:IH [e0,e1]) (hh:Tm.Hd nm ot ty re t0 t1 r0 r1) (h0:e0.Is d0) (h1:e1.Is d1)
  (pre:Pre g (.mk 8 nm ot m ty re [e0,e1]) n) (J:Ctx g es) :
  zTx 184 [.sv a 4 es c,.dg 9 (.ag [.j 8,.t nm,.t ot,.j m,t0,t1,r0,r1,.sl a1 9 [d0,d1] c1]),.j n] (match e0.type g n with | some b=>e1.type (g++[⟨nm,b,n⟩]) n | none=>none):=λN Q O=>by
 have hlen:=pre.len
 have hp:Pre g e0 n:=by simpa [yX] using pre.sub (x:=e0) (by simp) (g':=g) (by simp) pre.ty
 have hc:=zJb e0 g n
 have I:=ih e0 nT d0 h0 g es a c n hp J
 refine rR N a es c _ n Q λ_ _=>?_
 cases h:e0.type g n with
 | none=>
   rw [h] at O I
   repeat' first|with_reducible intro _|simp only[oK,oO,mO,Y1,Y2,Y3,Y4]|with_reducible refine X ?_ ?_|refine⟨_,_,_,rfl,?_⟩|refine⟨_,rfl,?_⟩|refine And.intro (by first|omega|trivial|(show _=_;rfl)|(with_reducible constructor)<;>first|omega|trivial|rfl) ?_|refine I _ _ ?_|fail
   all_goals first | (exfalso;omega) | skip
   exact O _ _ (by omega) (by simp)
 | some b=>
   rw [h] at O hc I
   dsimp only at O
   have aa:Pre (g++[⟨nm,b,n⟩]) e1 n:=by simpa [yX] using pre.sub (x:=e1) (by simp) (g':=g++[⟨nm,b,n⟩]) (by simp) (qe pre.ty (by simpa using oe hc (by omega)))
   repeat' first|with_reducible intro _|simp only[oK,oO,mS,Y1,Y2,Y3,Y4]|with_reducible refine X ?_ ?_|refine⟨_,_,_,rfl,?_⟩|refine⟨_,rfl,?_⟩|refine And.intro (by first|omega|trivial|(show _=_;rfl)|(with_reducible constructor)<;>first|omega|trivial|rfl) ?_|refine I _ _ ?_|refine (wT J (by omega) a c hh.nm (t:=b) (by assumption) n) _ _ ?_|refine (ih e1 (by simp) d1 h1 (g++[⟨nm,b,n⟩]) _ _ _ n aa (by assumption)) _ _ ?_|fail
   all_goals first | (exfalso;omega) | skip
   rename_i hx _ _ _ _
   refine O _ _ (by omega) λt ht=>?_
   rw [ht] at hx
   exact hx
theorem zSu {nm ot:ByteArray} {m n:Int} {ty re:Ty} {e0:Tm} {t0 t1 r0 r1 d0:D} {a1 a:Option Addr} {c1 c:Nat} {g:List Tg} {es:List D} (ih:IH [e0]) (I:Tm.Hd nm ot ty re t0 t1 r0 r1) (h0:e0.Is d0)
  (pre:Pre g (.mk 9 nm ot m ty re [e0]) n) (aa:Ctx g es) :
  zTx 184 [.sv a 4 es c,.dg 9 (.ag [.j 9,.t nm,.t ot,.j m,t0,t1,r0,r1,.sl a1 9 [d0] c1]),.j n]
   (match e0.type ((g++[⟨nm,tc ty re,n⟩])++[⟨ot,ty,n⟩]) n with | some b=>if tW b re then some (tc ty re) else none | none=>none):=λN Q J=>by
 have hlen:=pre.len
 have hv:=Ty.valid_cnt ((xq pre.ok).vt (.inr rfl))
 have hr:=Ty.valid_cnt ((xq pre.ok).vr rfl)
 have ac:=qe (x:=⟨nm,tc ty re,n⟩) pre.ty (show (tc ty re).cnt<=64 by simp only [tc,Ty.cnt,zI];omega)
 have hp:=pre.sub (x:=e0) (by simp) (g':=(g++[⟨nm,tc ty re,n⟩])++[⟨ot,ty,n⟩]) (by simp) (qe ac (show ty.cnt<=64 by omega))
 rw [show yX 9 n=n by simp [yX]] at hp
 have ae:1<=(Tm.mk 9 nm ot m ty re [e0]).cnt:=by simp only [Tm.cnt];omega
 have ab:(g++[⟨nm,tc ty re,n⟩]:List Tg).length<=1073741824:=by rw [oE,nu];omega
 have O:∀ es a c,Ctx ((g++[⟨nm,tc ty re,n⟩])++[⟨ot,ty,n⟩]) es->zTr 115 [.sv a 4 es c,.dg 9 d0,.j n] (e0.type ((g++[⟨nm,tc ty re,n⟩])++[⟨ot,ty,n⟩]) n):=λes a c hc=>ih e0 nT d0 h0 _ es a c n hp hc
 refine rR N a es c _ n Q λ_ _=>?_
 cases h:e0.type ((g++[⟨nm,tc ty re,n⟩])++[⟨ot,ty,n⟩]) n with
 | none=>
   rw [h] at J O
   dsimp only at J
   repeat' first|with_reducible intro _|simp only[oK,oO,mO,Y1,Y2,Y3,Y4]|with_reducible refine X ?_ ?_|refine⟨_,_,_,rfl,?_⟩|refine⟨_,rfl,?_⟩|refine And.intro (by first|omega|trivial|(show _=_;rfl)|(with_reducible constructor)<;>first|omega|trivial|rfl) ?_|refine (qj ty re _ _ I.ty I.re (by omega) (by omega)) _ _ ?_|refine (wT aa (by omega) a c I.nm (t:=tc ty re) (by assumption) n) _ _ ?_|refine (wT (g:=g++[⟨nm,tc ty re,n⟩]) (by assumption) ab _ _ I.ot I.ty n) _ _ ?_|refine (O _ _ _ (by assumption)) _ _ ?_|fail
   all_goals first | (exfalso;omega) | skip
   exact J _ _ (by omega) (by simp)
 | some b=>
   rw [h] at J O
   dsimp only at J
   repeat' first|with_reducible intro _|simp only[oK,oO,mS,Y1,Y2,Y3,Y4]|with_reducible refine X ?_ ?_|refine⟨_,_,_,rfl,?_⟩|refine⟨_,rfl,?_⟩|refine And.intro (by first|omega|trivial|(show _=_;rfl)|(with_reducible constructor)<;>first|omega|trivial|rfl) ?_|refine (qj ty re _ _ I.ty I.re (by omega) (by omega)) _ _ ?_|refine (wT aa (by omega) a c I.nm (t:=tc ty re) (by assumption) n) _ _ ?_|refine (wT (g:=g++[⟨nm,tc ty re,n⟩]) (by assumption) ab _ _ I.ot I.ty n) _ _ ?_|refine (O _ _ _ (by assumption)) _ _ ?_|refine (xj b re _ _ (by assumption) I.re) _ _ ?_|fail
   all_goals first | (exfalso;omega) | skip
   cases he:tW b re with
   | false=>rw [he] at J;exact J _ _ (by omega) (by simp)
   | true=>rw [he] at J;exact J _ _ (by omega) λt ht=>by cases ht;assumption
/-- code, splices, runs and lifts -/
theorem zSW {k:Int} {nm ot:ByteArray} {m n:Int} {ty re:Ty} {e0:Tm} {t0 t1 r0 r1 d0:D} {a1 a:Option Addr} {c1 c:Nat} {g:List Tg} {es:List D} (hk:k=10\/k=11\/k=12\/k=13) (ih:IH [e0]) (h0:e0.Is d0)
  (pre:Pre g (.mk k nm ot m ty re [e0]) n) (aj:Ctx g es) :
  zTx 185 [.sv a 4 es c,.dg 9 (.ag [.j k,.t nm,.t ot,.j m,t0,t1,r0,r1,.sl a1 9 [d0] c1]),.j n]
   (match e0.type (if k=12 then sO g n else g) (yX k n) with | some t=>xT k t | none=>none):=λN Q I=>by
 have hlen:=pre.len
 have ak:=zCh g n g 0
 have hp:=pre.sub (x:=e0) (by simp) (g':=if k=12 then sO g n else g) (by split<;>simp [sO];omega) (by split;exact λy hy=>pre.ty y (ak.1 y hy);exact pre.ty)
 have ac:∀ es a c,Ctx (if k=12 then sO g n else g) es->zTr 115 [.sv a 4 es c,.dg 9 d0,.j (yX k n)] (e0.type (if k=12 then sO g n else g) (yX k n)):=λes a c hc=>ih e0 nT d0 h0 _ es a c _ hp hc
 have al:∀ x∈g,x.ty.cnt<=1073741824:=λx hx=>oe (pre.ty x hx) (by omega)
 refine zHC N a es c _ n Q λ_ _=>?_
 cases h:e0.type (if k=12 then sO g n else g) (yX k n) with
 | none=>
   rw [h] at I ac
   dsimp only at I
   repeat' first|with_reducible intro _|simp only[oK,oO,mO,Y1,Y2,Y3,Y4]|with_reducible refine X ?_ ?_|refine⟨_,_,_,rfl,?_⟩|refine⟨_,rfl,?_⟩|refine And.intro (by first|omega|trivial|(show _=_;rfl)|(with_reducible constructor)<;>first|omega|trivial|rfl) ?_|refine (zAe aj (by omega) al a c n) _ _ ?_|refine (zBn pre.lv) _ _ ?_|refine (ac _ _ _ (by first | (rw [if_pos (by assumption)];assumption) | (rw [if_neg (by assumption)];assumption))) _ _ ?_|fail
   all_goals first | (exfalso;omega) | skip
   all_goals exact I _ _ (by omega) (by simp)
 | some t=>
   have hv:=Tm.type_valid h
   rw [h] at I ac
   dsimp only at I
   cases t with
   | mk O J=>
   have hf:=Ty.form_len hv
   have am:=Ty.valid_cnt hv
   repeat' first|with_reducible intro _|simp only[oK,oO,mS,Y1,Y2,Y3,Y4]|with_reducible refine X ?_ ?_|refine⟨_,_,_,rfl,?_⟩|refine⟨_,rfl,?_⟩|refine And.intro (by first|omega|trivial|(show _=_;rfl)|(with_reducible constructor)<;>first|omega|trivial|rfl) ?_|refine (zAe aj (by omega) al a c n) _ _ ?_|refine (zBn pre.lv) _ _ ?_|refine (ac _ _ _ (by first | (rw [if_pos (by assumption)];assumption) | (rw [if_neg (by assumption)];assumption))) _ _ ?_|refine (zJU (.mk O J) _ (by assumption) (by omega)) _ _ ?_|refine (rx (.mk O J) _ (by assumption)) _ _ ?_|fail
   all_goals first | (exfalso;omega) | skip
   ·rename_i hd _ _ aa ab
    obtain ⟨a2,ao,c2,rfl,aq,ae⟩:=Ty.is_mk.1 hd
    by_cases h4:O=4
    ·subst h4
     have ah:(J.length:Int)=1:=by simpa [zAT] using hf
     obtain ⟨u,rfl⟩:∃ u,J=[u]:=by
      match J,ah with
      | [u],_=>exact ⟨u,rfl⟩
      | [],h=>simp at h
      | _::_::_,h=>simp at h;omega
     obtain ⟨x0,_,rfl,ai,rfl⟩:=ae
     simp only [Ty.cnt,zI] at am
     have hs:xT k (.mk 4 [u])=some u:=by simp [xT,aa,ab,Ty.k,Ty.as]
     rw [hs] at I
     repeat' first|with_reducible intro _|simp only[oK,oO,Y1,Y2,Y3,Y4]|with_reducible refine X ?_ ?_|refine⟨_,_,_,rfl,?_⟩|refine⟨_,rfl,?_⟩|refine And.intro (by first|omega|trivial|(show _=_;rfl)|(with_reducible constructor)<;>first|omega|trivial|rfl) ?_|refine (zw u _ ai (by omega)) _ _ ?_|fail
     all_goals first | (exfalso;omega) | skip
     exact I _ _ (by omega) λt ht=>by cases ht;assumption
    ·have hs:xT k (.mk O J)=none:=by simp [xT,aa,ab,Ty.k,h4]
     rw [hs] at I
     repeat' first|with_reducible intro _|simp only[oK,oO,Y1,Y2,Y3,Y4]|with_reducible refine X ?_ ?_|refine⟨_,_,_,rfl,?_⟩|refine⟨_,rfl,?_⟩|refine And.intro (by first|omega|trivial|(show _=_;rfl)|(with_reducible constructor)<;>first|omega|trivial|rfl) ?_|fail
     all_goals first | (exfalso;omega) | skip
     exact I _ _ (by omega) (by simp)
   ·have hs:xT k (.mk O J)=some (zEU (.mk O J)):=by rw [xT,if_pos (by assumption)]
    rw [hs] at I
    exact I _ _ (by omega) λt ht=>by cases ht;assumption
   ·have hs:xT k (.mk O J)=if (Ty.mk O J).base then some (zEU (.mk O J)) else none:=by rw [xT,if_neg (by assumption),if_pos (by assumption)]
    rw [hs] at I
    cases hb:(Ty.mk O J).base with
    | false=>rw [hb] at I;exact I _ _ (by omega) (by simp)
    | true=>rw [hb] at I;exact I _ _ (by omega) λt ht=>by cases ht;assumption
   ·rename_i hd _ _ aa ab
    obtain ⟨a2,ao,c2,rfl,aq,ae⟩:=Ty.is_mk.1 hd
    by_cases h4:O=4
    ·subst h4
     have ah:(J.length:Int)=1:=by simpa [zAT] using hf
     obtain ⟨u,rfl⟩:∃ u,J=[u]:=by
      match J,ah with
      | [u],_=>exact ⟨u,rfl⟩
      | [],h=>simp at h
      | _::_::_,h=>simp at h;omega
     obtain ⟨x0,_,rfl,ai,rfl⟩:=ae
     simp only [Ty.cnt,zI] at am
     have hs:xT k (.mk 4 [u])=some u:=by simp [xT,aa,ab,Ty.k,Ty.as]
     rw [hs] at I
     repeat' first|with_reducible intro _|simp only[oK,oO,Y1,Y2,Y3,Y4]|with_reducible refine X ?_ ?_|refine⟨_,_,_,rfl,?_⟩|refine⟨_,rfl,?_⟩|refine And.intro (by first|omega|trivial|(show _=_;rfl)|(with_reducible constructor)<;>first|omega|trivial|rfl) ?_|refine (zw u _ ai (by omega)) _ _ ?_|fail
     all_goals first | (exfalso;omega) | skip
     exact I _ _ (by omega) λt ht=>by cases ht;assumption
    ·have hs:xT k (.mk O J)=none:=by simp [xT,aa,ab,Ty.k,h4]
     rw [hs] at I
     repeat' first|with_reducible intro _|simp only[oK,oO,Y1,Y2,Y3,Y4]|with_reducible refine X ?_ ?_|refine⟨_,_,_,rfl,?_⟩|refine⟨_,rfl,?_⟩|refine And.intro (by first|omega|trivial|(show _=_;rfl)|(with_reducible constructor)<;>first|omega|trivial|rfl) ?_|fail
     all_goals first | (exfalso;omega) | skip
     exact I _ _ (by omega) (by simp)
/-- the type of a term ahead of the test that it is valid -/
def Tm.raw:Tm->List Tg->Int->Option Ty
 | .mk k nm ot _ ty re l,g,n=>
   if k=1 then zCs g nm n
   else if k=2 then some tInt
   else if k=3 then some tBool
   else if k=6 then (match u7 l 0 (g++[⟨nm,ty,n⟩]) n with | some b=>some (tc ty b) | none=>none)
   else if k=8 then (match u7 l 0 g n with | some a=>u7 l 1 (g++[⟨nm,a,n⟩]) n | none=>none)
   else if k=9 then (match u7 l 0 ((g++[⟨nm,tc ty re,n⟩])++[⟨ot,ty,n⟩]) n with | some b=>if tW b re then some (tc ty re) else none | none=>none)
   else if k=10\/k=11\/k=12\/k=13 then (match u7 l 0 (if k=12 then sO g n else g) (yX k n) with | some t=>xT k t | none=>none)
   else (match ya l g n with | some I=>wa k nm I | none=>none)
theorem Tm.type_eq (e:Tm) (g:List Tg) (n:Int):e.type g n=vld (e.raw g n):=by
 cases e;simp only [Tm.type,Tm.raw]<;>rfl
theorem zTT {a:Option Addr} {r:List D} {d:D} {N:Nat} (ha:ApA a r) (hb:ud N [a]) (h:∀ x∈d.foot,x∈zB r\/N<=x):Off [a] d:=by
 intro a' I ad J O
 rw [oZ] at I
 subst I
 rcases h _ O with h | h
 ·have:∀ r:List D,ad.block∈zB r->∃ d∈r,ad.block∈d.foot:=by
   intro r
   induction r with
   | nil=>intro h;simp [zB] at h
   | cons x r ih=>
     intro h
     simp only [zB,oF] at h
     rcases h with h | h
     ·exact ⟨x,by simp,h⟩
     ·obtain ⟨d,hd,O⟩:=ih h
      exact ⟨d,by simp [hd],O⟩
  obtain ⟨d',aa,ab⟩:=this r h
  exact ha ad J d' aa ab
 ·have:=hb a' (by simp) ad J
  omega
theorem zQF {k:Int} {nm ot:ByteArray} {m n:Int} {ty re:Ty} {l:List Tm} {t0 t1 r0 r1:D} {es1:List D} {a1 a:Option Addr} {c1 c:Nat} {g:List Tg} {es:List D} (hk:k=4\/k=5\/k=7) (ih:IH l) (h0:All2 Tm.Is l es1) (hl1:es1.length<=4611686018427387904)
  (pre:Pre g (.mk k nm ot m ty re l) n) (ctx:Ctx g es) (N:Nat) (Q:QT [.ag 2,.bool]) (hQ:∀ d N',N<=N'->(∀ t,Tm.raw (.mk k nm ot m ty re l) g n=some t->t.Is d)->Q d (Tm.raw (.mk k nm ot m ty re l) g n).isSome N') :
  xk Q N a es c n 0 0 (0:Nat) (.ag [.j k,.t nm,.t ot,.j m,t0,t1,r0,r1,.sl a1 9 es1 c1]) 0 none [] 0 [] 0 N:=by
 have hlen:=pre.len
 have hcl:=yg l
 have hln:=h0.len
 have nd:=xq pre.ok
 simp only [Tm.cnt] at hlen
 have hraw:Tm.raw (.mk k nm ot m ty re l) g n=(match ya l g n with | some ts=>wa k nm ts | none=>none):=by
  simp only [Tm.raw]
  rw [if_neg (by omega),if_neg (by omega),if_neg (by omega),if_neg (by omega),if_neg (by omega),if_neg (by omega),if_neg (by omega)]
 rw [hraw] at hQ
 refine up h0 hl1 (fun i xs=>∀ (r:List D) (q p:Nat) (N':Nat) (ts:List Ty),N<=N'->p=r.length->All2 Ty.Is ts r->ts.length=i->(∀ t∈ts,t.valid=true) ->
  ya l g n=(match ya xs g n with | some us=>some (ts++us) | none=>none) ->
  xk Q N a es c n p q i (.ag [.j k,.t nm,.t ot,.j m,t0,t1,r0,r1,.sl a1 9 es1 c1]) 0 none [] 0 r q N') ?_ ?_ [] 0 0 N [] (oA _) rfl rfl rfl (by simp) ?_
 ·intro i hlt hi r q p N' ts hN' hp hr hti hv hargs
  have hrl:=hr.len
  simp only [ya,oY] at hargs
  rw [hargs] at hQ
  dsimp only at hQ
  have hk2:k=4\/k=5/\ts.length=3\/k=7/\ts.length=2:=by
   have:=nd.ar
   rcases hk with rfl | rfl | rfl
   ·exact .inl rfl
   ·exact .inr (.inl ⟨rfl, by have:(l.length:Int)=3:=this
                              omega⟩)
   ·exact .inr (.inr ⟨rfl, by have:(l.length:Int)=2:=this
                              omega⟩)
  refine qA _ _ _ _ _ _ _ _ _ _ _ _ _ _ _ _ _ ?_
  repeat' first|with_reducible intro _|simp only[hlt,Y1,Y2,Y3,Y4]|with_reducible refine X ?_ ?_|refine⟨_,_,_,rfl,?_⟩|refine⟨_,rfl,?_⟩|refine And.intro (by first|omega|trivial|(show _=_;rfl)|(with_reducible constructor)<;>first|omega|trivial|rfl) ?_|refine (zIX hr (by omega) _ _ hv hk2) _ _ ?_|fail
  rename_i a2 hap hoff N4 hN4 hba d b N5 hN5 ho hfo _
  refine ⟨zTT hap hba hfo,fun _ N6 hN6=>?_⟩
  cases h:wa k nm ts with
  | none=>rw [h] at ho hQ;simp only [zNZ] at ho;subst ho;exact hQ _ _ (by omega) (by simp)
  | some t=>rw [h] at ho hQ;obtain ⟨rfl,ho⟩:=ho;exact hQ _ _ (by omega) fun t ht=>by cases ht;exact ho
 ·intro i x xs hat _ ih2 r q p N' ts hN' hp hr hti hv hargs
  have hb:=hat.b
  have hrl:=hr.len
  have hpx:=pre.sub hat.m (g':=g) (by omega) pre.ty
  rw [show yX k n=n by simp only [yX];rw [if_neg (by omega),if_neg (by omega)]] at hpx
  have ih0:=ih x hat.m _ hat.r g es a c n hpx ctx
  simp only [ya] at hargs
  refine qA _ _ _ _ _ _ _ _ _ _ _ _ _ _ _ _ _ ?_
  cases h:x.type g n with
  | none=>
    rw [h] at ih0 hargs
    dsimp only at hargs
    rw [hargs] at hQ
    repeat' first|with_reducible intro _|simp only[hat.lt,hat.w,oH,mO,Y1,Y2,Y3,Y4]|with_reducible refine X ?_ ?_|refine⟨_,_,_,rfl,?_⟩|refine⟨_,rfl,?_⟩|refine And.intro (by first|omega|trivial|(show _=_;rfl)|(with_reducible constructor)<;>first|omega|trivial|rfl) ?_|refine ih0 _ _ ?_|fail
    all_goals first | (exfalso;omega) | skip
    exact hQ _ _ (by omega) (by simp)
  | some t=>
    have hvt:=Tm.type_valid h
    rw [h] at ih0 hargs
    dsimp only at hargs
    repeat' first|with_reducible intro _|simp only[hat.lt,hat.w,oH,mS,Y1,Y2,Y3,Y4]|with_reducible refine X ?_ ?_|refine⟨_,_,_,rfl,?_⟩|refine⟨_,rfl,?_⟩|refine And.intro (by first|omega|trivial|(show _=_;rfl)|(with_reducible constructor)<;>first|omega|trivial|rfl) ?_|refine ih0 _ _ ?_|fail
    all_goals first | (exfalso;omega) | skip
    rename_i N2 hN2 d N3 hN3 hd _ _
    refine ⟨by unfold zC;simp only [oE,nu];omega,fun c2=>ih2 _ _ _ _ (ts++[t]) (by omega) rfl (hr.snoc hd) (by simp [hti]) (fun u hu=>?_) ?_⟩
    ·rcases oF.1 hu with hu | hu
     ·exact hv u hu
     ·rw [oZ] at hu;subst hu;exact hvt
    ·rw [hargs];cases ya xs g n<;>simp
 ·cases ya l g n<;>simp
theorem zDe {α:Type} {l:List α} (h:l.length=1):∃ a,l=[a]:=by
 match l,h with
 | [a],_=>exact ⟨a,rfl⟩
theorem zM5 {α:Type} {l:List α} (h:l.length=2):∃ a b,l=[a,b]:=by
 match l,h with
 | [a,b],_=>exact ⟨a,b,rfl⟩
theorem zIe {e:Tm} {d:D} (he:e.Is d) (ih:match e with | .mk _ _ _ _ _ _ l=>IH l) {g:List Tg} {es:List D} {a:Option Addr} {c:Nat} {n:Int} (pre:Pre g e n) (ctx:Ctx g es) :
  zTx 156 [.sv a 4 es c,.dg 9 d,.j n] (e.raw g n):=fun N Q hQ=>by
 cases e with
 | mk k nm ot m ty re l=>
 dsimp only at ih
 obtain ⟨t0,t1,r0,r1,a1,es1,c1,rfl,hh,hlen1,hes1⟩:=Tm.is_mk.1 he
 have hl:=hes1.len
 have hl2:=ctx.all.len
 have nd:=xq pre.ok
 have har:=nd.ar
 have hkk:=zJm (k:=k) (nm:=nm) (by omega)
 refine zIy N a es c _ n Q fun _ _=>?_
 rcases hkk with rfl | rfl | rfl | h | h | rfl | h | rfl | rfl | h | h | h | h
 ·-- a variable
  have hraw:Tm.raw (.mk 1 nm ot m ty re l) g n=zCs g nm n:=by simp [Tm.raw]
  rw [hraw] at hQ
  rcases zGF g nm g.length with hlx | hlx
  ·have hlx:ym g nm = -1:=hlx
   have:zCs g nm n=none:=by simp [zCs,hlx]
   rw [this] at hQ
   repeat' first|with_reducible intro _|simp only[hlx,Y1,Y2,Y3,Y4]|with_reducible refine X ?_ ?_|refine⟨_,_,_,rfl,?_⟩|refine⟨_,rfl,?_⟩|refine And.intro (by first|omega|trivial|(show _=_;rfl)|(with_reducible constructor)<;>first|omega|trivial|rfl) ?_|refine (rQ ctx a c nm) _ _ ?_|fail
   all_goals first | (exfalso;omega) | skip
   exact hQ _ _ (by omega) (by simp)
  ·have hlx:0<=ym g nm/\ym g nm<g.length:=hlx
   have hg:g[(ym g nm).toNat]?=some g[(ym g nm).toNat]:=oI (by omega)
   have hx:=ctx.all.get hg
   have hgd:g.getD (ym g nm).toNat tg0=g[(ym g nm).toNat]:=zJJ hg
   obtain ⟨u0,u1,hd,hs,ht⟩:=hx
   have hm:g[(ym g nm).toNat]∈g:=mN _
   have hcn:=pre.ty _ hm
   have:zCs g nm n=if g[(ym g nm).toNat].lv=n then some g[(ym g nm).toNat].ty else none:=by
    rw [zCs,if_neg (by omega),hgd]
   rw [this] at hQ
   generalize g[(ym g nm).toNat]=x at *
   repeat' first|with_reducible intro _|simp only[hd,Y1,Y2,Y3,Y4]|with_reducible refine X ?_ ?_|refine⟨_,_,_,rfl,?_⟩|refine⟨_,rfl,?_⟩|refine And.intro (by first|omega|trivial|(show _=_;rfl)|(with_reducible constructor)<;>first|omega|trivial|rfl) ?_|refine (rQ ctx a c nm) _ _ ?_|refine (zw _ _ ht (by omega)) _ _ ?_|fail
   all_goals first | (exfalso;omega) | skip
   ·rw [if_neg (by assumption)] at hQ;exact hQ _ _ (by omega) (by simp)
   ·rw [if_pos (by assumption)] at hQ;exact hQ _ _ (by omega) fun t ht=>by cases ht;assumption
 ·have hraw:Tm.raw (.mk 2 nm ot m ty re l) g n=some tInt:=by simp [Tm.raw]
  rw [hraw] at hQ
  repeat' first|with_reducible intro _|simp only[Y1,Y2,Y3,Y4]|with_reducible refine X ?_ ?_|refine⟨_,_,_,rfl,?_⟩|refine⟨_,rfl,?_⟩|refine And.intro (by first|omega|trivial|(show _=_;rfl)|(with_reducible constructor)<;>first|omega|trivial|rfl) ?_|refine zDN _ _ ?_|fail
  all_goals first | (exfalso;omega) | skip
  exact hQ _ _ (by omega) fun t ht=>by cases ht;assumption
 ·have hraw:Tm.raw (.mk 3 nm ot m ty re l) g n=some tBool:=by simp [Tm.raw]
  rw [hraw] at hQ
  repeat' first|with_reducible intro _|simp only[Y1,Y2,Y3,Y4]|with_reducible refine X ?_ ?_|refine⟨_,_,_,rfl,?_⟩|refine⟨_,rfl,?_⟩|refine And.intro (by first|omega|trivial|(show _=_;rfl)|(with_reducible constructor)<;>first|omega|trivial|rfl) ?_|refine zBJ _ _ ?_|fail
  all_goals first | (exfalso;omega) | skip
  exact hQ _ _ (by omega) fun t ht=>by cases ht;assumption
 ·have hk:k=4\/k=5\/k=7:=by omega
  have:=zQF hk ih hes1 hlen1 pre ctx (a:=a) (c:=c) (t0:=t0) (t1:=t1) (r0:=r0) (r1:=r1) (a1:=a1) (c1:=c1) N Q hQ
  repeat' first|with_reducible intro _|simp only[Y1,Y2,Y3,Y4]|with_reducible refine X ?_ ?_|refine⟨_,_,_,rfl,?_⟩|refine⟨_,rfl,?_⟩|refine And.intro (by first|omega|trivial|(show _=_;rfl)|(with_reducible constructor)<;>first|omega|trivial|rfl) ?_|fail
  all_goals first | (exfalso;omega) | exact this
 ·have hk:k=4\/k=5\/k=7:=by omega
  have:=zQF hk ih hes1 hlen1 pre ctx (a:=a) (c:=c) (t0:=t0) (t1:=t1) (r0:=r0) (r1:=r1) (a1:=a1) (c1:=c1) N Q hQ
  repeat' first|with_reducible intro _|simp only[Y1,Y2,Y3,Y4]|with_reducible refine X ?_ ?_|refine⟨_,_,_,rfl,?_⟩|refine⟨_,rfl,?_⟩|refine And.intro (by first|omega|trivial|(show _=_;rfl)|(with_reducible constructor)<;>first|omega|trivial|rfl) ?_|fail
  all_goals first | (exfalso;omega) | exact this
 ·have h1 : l.length = 1 := by have:(l.length:Int)=1:=har
                               omega
  obtain ⟨e0,rfl⟩:=zDe h1
  obtain ⟨d0,_,rfl,h0,rfl⟩:=hes1
  have hraw:Tm.raw (.mk 6 nm ot m ty re [e0]) g n=(match e0.type (g++[⟨nm,ty,n⟩]) n with | some b=>some (tc ty b) | none=>none):=by simp [Tm.raw,u7]
  rw [hraw] at hQ
  repeat' first|with_reducible intro _|simp only[Y1,Y2,Y3,Y4]|with_reducible refine X ?_ ?_|refine⟨_,_,_,rfl,?_⟩|refine⟨_,rfl,?_⟩|refine And.intro (by first|omega|trivial|(show _=_;rfl)|(with_reducible constructor)<;>first|omega|trivial|rfl) ?_|refine (zSS ih hh h0 pre ctx) _ _ ?_|fail
  all_goals first | (exfalso;omega) | skip
  exact hQ _ _ (by omega) (by assumption)
 ·have hk:k=4\/k=5\/k=7:=by omega
  have:=zQF hk ih hes1 hlen1 pre ctx (a:=a) (c:=c) (t0:=t0) (t1:=t1) (r0:=r0) (r1:=r1) (a1:=a1) (c1:=c1) N Q hQ
  repeat' first|with_reducible intro _|simp only[Y1,Y2,Y3,Y4]|with_reducible refine X ?_ ?_|refine⟨_,_,_,rfl,?_⟩|refine⟨_,rfl,?_⟩|refine And.intro (by first|omega|trivial|(show _=_;rfl)|(with_reducible constructor)<;>first|omega|trivial|rfl) ?_|fail
  all_goals first | (exfalso;omega) | exact this
 ·have h1 : l.length = 2 := by have:(l.length:Int)=2:=har
                               omega
  obtain ⟨e0,e1,rfl⟩:=zM5 h1
  obtain ⟨d0,_,rfl,h0,d1,_,rfl,h1,rfl⟩:=hes1
  have hraw:Tm.raw (.mk 8 nm ot m ty re [e0,e1]) g n=(match e0.type g n with | some b=>e1.type (g++[⟨nm,b,n⟩]) n | none=>none):=by simp [Tm.raw,u7]
  rw [hraw] at hQ
  repeat' first|with_reducible intro _|simp only[Y1,Y2,Y3,Y4]|with_reducible refine X ?_ ?_|refine⟨_,_,_,rfl,?_⟩|refine⟨_,rfl,?_⟩|refine And.intro (by first|omega|trivial|(show _=_;rfl)|(with_reducible constructor)<;>first|omega|trivial|rfl) ?_|refine (zSN ih hh h0 h1 pre ctx) _ _ ?_|fail
  all_goals first | (exfalso;omega) | skip
  exact hQ _ _ (by omega) (by assumption)
 ·have h1 : l.length = 1 := by have:(l.length:Int)=1:=har
                               omega
  obtain ⟨e0,rfl⟩:=zDe h1
  obtain ⟨d0,_,rfl,h0,rfl⟩:=hes1
  have hraw:Tm.raw (.mk 9 nm ot m ty re [e0]) g n=(match e0.type ((g++[⟨nm,tc ty re,n⟩])++[⟨ot,ty,n⟩]) n with | some b=>if tW b re then some (tc ty re) else none | none=>none):=by simp only [Tm.raw,u7];rfl
  rw [hraw] at hQ
  repeat' first|with_reducible intro _|simp only[Y1,Y2,Y3,Y4]|with_reducible refine X ?_ ?_|refine⟨_,_,_,rfl,?_⟩|refine⟨_,rfl,?_⟩|refine And.intro (by first|omega|trivial|(show _=_;rfl)|(with_reducible constructor)<;>first|omega|trivial|rfl) ?_|refine (zSu ih hh h0 pre ctx) _ _ ?_|fail
  all_goals first | (exfalso;omega) | skip
  exact hQ _ _ (by omega) (by assumption)
 all_goals
  have h1:l.length=1:=by
   have hk:k=10\/k=11\/k=12\/k=13:=by omega
   have:(l.length:Int)=1:=by rw [har];rcases hk with rfl | rfl | rfl | rfl<;>rfl
   omega
  obtain ⟨e0,rfl⟩:=zDe h1
  obtain ⟨d0,_,rfl,h0,rfl⟩:=hes1
  have hk:k=10\/k=11\/k=12\/k=13:=by omega
  have hraw:Tm.raw (.mk k nm ot m ty re [e0]) g n=(match e0.type (if k=12 then sO g n else g) (yX k n) with | some t=>xT k t | none=>none):=by
   simp only [Tm.raw,u7]
   rw [if_neg (by omega),if_neg (by omega),if_neg (by omega),if_neg (by omega),if_neg (by omega),if_neg (by omega),if_pos hk]
  rw [hraw] at hQ
  repeat' first|with_reducible intro _|simp only[Y1,Y2,Y3,Y4]|with_reducible refine X ?_ ?_|refine⟨_,_,_,rfl,?_⟩|refine⟨_,rfl,?_⟩|refine And.intro (by first|omega|trivial|(show _=_;rfl)|(with_reducible constructor)<;>first|omega|trivial|rfl) ?_|refine (zSW hk ih h0 pre ctx) _ _ ?_|fail
  all_goals first | (exfalso;omega) | skip
  exact hQ _ _ (by omega) (by assumption)
theorem rP:∀ {l:List Tm} {i:Nat} {g:List Tg} {n:Int} {t:Ty},u7 l i g n=some t->t.valid=true
 | [],i,g,n,t,h=>by simp [u7] at h
 | e::es,0,g,n,t,h=>by simp only [u7] at h;exact Tm.type_valid h
 | e::es,i+1,g,n,t,h=>by simp only [u7] at h;exact rP h
theorem zJe {l:List Ty} {m:Nat} (h:∀ t∈l,t.cnt<=m) (I:1<=m) (i:Nat):(l.getD i tZero).cnt<=m:=by
 rw [oB]
 cases hi:l[i]? with
 | none=>simpa [tZero,Ty.cnt,zI] using I
 | some t=>exact h t (oD hi)
theorem zSM (t:Ty) (i:Nat):(t.as.getD i tZero).cnt<=t.cnt:=by
 cases t with
 | mk k l=>exact zJe (l:=l) (λu I=>by have:=w6 (l:=l) I;simp only [Ty.cnt];omega) (by simp only [Ty.cnt];omega) i
theorem zSy {g:List Tg} {m:Nat} (h:∀ x∈g,x.ty.cnt<=m) (I:1<=m) (i:Nat):(g.getD i tg0).ty.cnt<=m:=by
 rw [oB]
 cases hi:g[i]? with
 | none=>simpa [tg0,tZero,Ty.cnt,zI] using I
 | some t=>exact h t (oD hi)
theorem zNW {k:Int} {s:ByteArray} {I:List Ty} {t:Ty} (J:∀ t∈I,t.cnt<=64) (h:wa k s I=some t):t.cnt<=64:=by
 simp only [wa] at h
 split at h
 ·simp only [zTI] at h
  split at h
  ·cases h;unfold zFN;(repeat' split)<;>simp [tInt,tBool,Ty.cnt,zI]
  ·cases h
 ·split at h
  ·split at h
   ·cases h;exact zJe J (by omega) _
   ·cases h
  ·split at h
   ·cases h;exact oe (zSM _ _) (zJe J (by omega) _)
   ·cases h
theorem zL3 {k:Int} {u t:Ty} (J:u.cnt<=30) (h:xT k u=some t):t.cnt<=64:=by
 have I:(zEU u).cnt<=64:=by simp only [zEU,Ty.cnt,zI];omega
 have O:=zSM u 0
 simp only [xT] at h
 (repeat' split at h)<;>cases h<;>first | exact I | omega
theorem zPC {e:Tm} {g:List Tg} {n:Int} {t:Ty} (pre:Pre g e n) (h:e.raw g n=some t):t.cnt<=64:=by
 cases e with
 | mk k nm ot m ty re l=>
 have nd:=xq pre.ok
 simp only [Tm.raw] at h
 split at h
 ·simp only [zCs] at h
  (repeat' split at h)<;>cases h
  exact zSy pre.ty (by omega) _
 split at h
 ·cases h;simp [tInt,Ty.cnt,zI]
 split at h
 ·cases h;simp [tBool,Ty.cnt,zI]
 split at h
 ·rename_i h6
  have hv:=Ty.valid_cnt (nd.vt (.inl h6))
  split at h
  ·rename_i b I
   have:=Ty.valid_cnt (rP I)
   cases h;simp only [tc,Ty.cnt,zI];omega
  ·cases h
 split at h
 ·split at h
  ·have:=Ty.valid_cnt (rP h);omega
  ·cases h
 split at h
 ·rename_i O
  have hv:=Ty.valid_cnt (nd.vt (.inr O))
  have hr:=Ty.valid_cnt (nd.vr O)
  split at h
  ·split at h
   ·cases h;simp only [tc,Ty.cnt,zI];omega
   ·cases h
  ·cases h
 split at h
 ·split at h
  ·rename_i b I
   exact zL3 (Ty.valid_cnt (rP I)) h
  ·cases h
 ·split at h
  ·rename_i ts J
   exact zNW (λu hu=>oe (Ty.valid_cnt ((zHT J).2 u hu)) (by omega)) h
  ·cases h
theorem xb:tZero.Is (.ag [.j 0,.sl none 2 [] 0]):=vP 0
theorem zIP:∀ (e:Tm),∀ d,e.Is d->∀ g es a c n,Pre g e n->Ctx g es->zTr 115 [.sv a 4 es c,.dg 9 d,.j n] (e.type g n):=by
 refine Tm.ind λk nm ot m ty re l ih d hd g es a c n pre O N Q I=>?_
 have hs:=zIe (a:=a) (c:=c) hd ih pre O
 rw [Tm.type_eq] at I
 refine zJQ N a es c _ n Q λ_ _=>?_
 cases h:Tm.raw (.mk k nm ot m ty re l) g n with
 | none=>
   rw [h] at hs I
   repeat' first|with_reducible intro _|simp only[mO,Y1,Y2,Y3,Y4]|with_reducible refine X ?_ ?_|refine⟨_,_,_,rfl,?_⟩|refine⟨_,rfl,?_⟩|refine And.intro (by first|omega|trivial|(show _=_;rfl)|(with_reducible constructor)<;>first|omega|trivial|rfl) ?_|refine hs _ _ ?_|fail
   all_goals first | (exfalso;omega) | skip
   exact I _ _ (by omega) xb
 | some t=>
   have hc:=zPC pre h
   rw [h] at hs I
   simp only [vld] at I
   cases J:t.valid with
   | false=>
     rw [J] at I
     repeat' first|with_reducible intro _|simp only[mS,J,Y1,Y2,Y3,Y4]|with_reducible refine X ?_ ?_|refine⟨_,_,_,rfl,?_⟩|refine⟨_,rfl,?_⟩|refine And.intro (by first|omega|trivial|(show _=_;rfl)|(with_reducible constructor)<;>first|omega|trivial|rfl) ?_|refine hs _ _ ?_|refine (xu t _ (by rename_i h _ _ _ _;exact h t rfl) (by omega)) _ _ ?_|fail
     all_goals first | (exfalso;omega) | skip
     exact I _ _ (by omega) xb
   | true=>
     rw [J] at I
     repeat' first|with_reducible intro _|simp only[mS,J,Y1,Y2,Y3,Y4]|with_reducible refine X ?_ ?_|refine⟨_,_,_,rfl,?_⟩|refine⟨_,rfl,?_⟩|refine And.intro (by first|omega|trivial|(show _=_;rfl)|(with_reducible constructor)<;>first|omega|trivial|rfl) ?_|refine hs _ _ ?_|refine (xu t _ (by rename_i h _ _ _ _;exact h t rfl) (by omega)) _ _ ?_|fail
     all_goals first | (exfalso;omega) | skip
     rename_i hx _ _ _ _ _ _ _ _ _
     exact I _ _ (by omega) (hx t rfl)
/-- what TypeOf comes to -/
def zHG (g:List Tg) (e:Tm) (n:Int):Option Ty:=if zIb g/\zMR e n then e.type g n else none
theorem zLa:∀ {g:List Tg},zJz g=true->∀ x∈g,x.ty.valid=true
 | y::ys,h,x,hx=>by
   simp only [zJz,Tg.ok,oL] at h
   rcases oJ.1 hx with rfl | hx
   ·exact h.1.2.1
   ·exact zLa h.2 x hx
theorem zTk {g:List Tg} {e:Tm} {n:Int} (J:zIb g=true) (I:zMR e n=true) (hc:e.cnt<=1048576000 / 2):Pre g e n:=by
 simp only [zIb,oL,nC] at J
 simp only [zMR,oL] at I
 exact ⟨I.1,I.2,by omega,λx O=>oe (Ty.valid_cnt (zLa J.1 x O)) (by omega)⟩
end Go.Proofs.YtlahkdflngobiaaGreatDoor
