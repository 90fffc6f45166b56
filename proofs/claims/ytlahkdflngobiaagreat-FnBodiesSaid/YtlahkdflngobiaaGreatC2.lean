/- Steps: the functions that both sides' steps lean on. -/
import Derived.Test.YtlahkdflngobiaaGreatC1
import Derived.Test.YtlahkdflngobiaaGreatB3
import Derived.Test.YtlahkdflngobiaaGreatKg
import Derived.Test.YtlahkdflngobiaaGreatKa
import Derived.Test.YtlahkdflngobiaaGreatKu
set_option linter.unusedVariables false
set_option linter.unusedSimpArgs false
namespace Go.Proofs.YtlahkdflngobiaaGreat
open Go Go.Proofs Go.Proofs.Tryz Go.IntWalk
/-- a term, not too deep, not too great -/
structure Tm.F (e:Tm) (f:Nat):Prop where
 ok:e.ok=true
 d:e.dp<=f
 c:e.cnt<=1073741824
 w:e.vc<=1333333
theorem Tm.F.up {e:Tm} {f g:Nat} (h:e.F f) (I:f<=g):e.F g:=⟨h.ok,oR h.d I,h.c,h.w⟩
/-- how many parts a form has -/
theorem sO {k:Int} {nm ot:ByteArray} {n:Int} {ty re:Ty} {l:List Tm} (h:(Tm.mk k nm ot n ty re l).ok=true) :
  ((k=6\/k=9\/k=10\/k=11\/k=12\/k=13)->l.length=1)/\((k=7\/k=8)->l.length=2)/\(k=5->l.length=3)/\((k=1\/k=2\/k=3)->l.length=0)/\(k=4->(l.length:Int)=zF6 nm):=by
 simp only [Tm.ok,oI,nl] at h
 obtain ⟨_,_,h⟩:=h
 unfold zCx at h
 refine ⟨?_,?_,?_,?_,?_⟩
 ·rintro (rfl | rfl | rfl | rfl | rfl | rfl)<;>(simp at h;omega)
 ·rintro (rfl | rfl)<;>(simp at h;omega)
 ·rintro rfl;simp at h;omega
 ·rintro (rfl | rfl | rfl)<;>simpa using h
 ·rintro rfl;simpa using h
theorem Tm.F.mem {k:Int} {nm ot:ByteArray} {n:Int} {ty re:Ty} {l:List Tm} {f:Nat} (h:(Tm.mk k nm ot n ty re l).F (f+1)):∀ y∈l,y.F f:=λy I=>by
 have J:=h.ok
 have O:=h.d
 have Y:=h.c
 have U:=h.w
 have h7:=(sO h.ok).2.2.2.1
 simp only [Tm.ok,oI] at J
 simp only [Tm.dp] at O
 simp only [Tm.cnt] at Y
 have h4:=ym I
 have h5:∀ {l:List Tm},rt l=true->∀ x∈l,x.ok=true:=λ{l}=>by
  induction l with
  | nil=>intro _ x hx;simp at hx
  | cons t ts ih=>
    intro h x hx
    simp only [rt,oI] at h
    rcases oG.1 hx with rfl | hx
    ·exact h.1
    ·exact ih h.2 x hx
 refine ⟨h5 J.1 y I,tU.1 (mb O) y I,by omega,?_⟩
 have h8:=zCJ I
 simp only [Tm.vc] at U
 split at U
 ·rename_i hk
  rw [oW (h7 (.inl hk))] at I
  simp at I
 ·omega
theorem zSu:∀ t:Tm,t.ok=true->t.V:=by
 refine Tm.ind λk nm ot n ty re l I h=>?_
 refine ⟨λJ=>oW ((sO h).2.2.2.1 (.inl J)),tY.2 λx hx=>I x hx ?_⟩
 simp only [Tm.ok,oI] at h
 have O:∀ {l:List Tm},rt l=true->∀ x∈l,x.ok=true:=λ{l}=>by
  induction l with
  | nil=>intro _ x hx;simp at hx
  | cons t U I=>
    intro h x hx
    simp only [rt,oI] at h
    rcases oG.1 hx with rfl | hx
    ·exact h.1
    ·exact I h.2 x hx
 exact O h.1 x hx
theorem Tm.F.vc {e:Tm} {f:Nat} (h:e.F f):e.vc<=1333333:=h.w
theorem Tm.F.of {e:Tm} {f:Nat} (I:e.ok=true) (J:e.dp<=f) (O:e.cnt<=4000000):e.F f:=⟨I,J,by omega,by have:=Tm.vc_cnt e;omega⟩
theorem Tm.F.z {e:Tm} {f:Nat} (h:e.F f):e.Z:=⟨Tm.G_cnt _ (by have:=h.c;omega),by have:=h.vc;omega,zSu _ h.ok⟩
theorem za {l:List Tm} {i:Nat} (h:i<l.length):l.getD i tm0∈l:=oB (zy h)
theorem zOm {e:Tm} (I:e.ok=true) (J:e.kd=3):e.no=0\/e.no=1:=by
 cases e with
 | mk k nm ot n ty re l=>
 simp only [Tm.kd] at J
 subst J
 simp only [Tm.ok,oI] at I
 have O:=I.2.1
 simp only [zK,oI,inB] at O
 simp at O
 simp only [Tm.no]
 omega
/-- a term and a number -/
def zOO (f:FuncId) (args:List PV) (r:Tm × Int):Prop:=∀ (N:Nat) (Q:QT [.ag 9,.i]),(∀ d N',N<=N'->r.1.Is d->Q d r.2 N')->ACalls prog f [.ag 9,.i] args N Q
def zTS (f:FuncId) (args:List PV) (r:Tm × Int × Bool):Prop:=∀ (N:Nat) (Q:QT [.ag 9,.i,.bool]),(∀ d N',N<=N'->r.1.Is d->Q d r.2.1 r.2.2 N')->ACalls prog f [.ag 9,.i,.bool] args N Q
/-- copies -/
def zTK (F:FuncId):Prop:=∀ (t:Tm) (d:D),t.Is d->t.G->∀ (N:Nat) (Q:QT [.pk,.i,.str,.str,.i,.dc,.dc,.dc,.dc,.row 30 9]),zFo t N Q->ACalls prog F [.pk,.i,.str,.str,.i,.dc,.dc,.dc,.dc,.row 30 9] [.dg 9 d] N Q
theorem zNn {F:FuncId} (hF:zTK F) {t:Tm} {d:D} (h:t.Is d) (hG:t.G) {N0 N:Nat} (h0:N0<=N) (Q':D->Nat->Prop) (hq:∀ d' N',N<=N'->t.Is d'->Own N0 N' d'->Q' d' N') :
  ACalls prog F [.pk,.i,.str,.str,.i,.dc,.dc,.dc,.dc,.row 30 9] [.dg 9 d] N (λn s Y aa x J O U es c N2=>N<=N2->Bel N2 (D.ag es)->(es.length=es.length/\c=c)/\(es.length=es.length/\c=c)/\∀ a N3,N2<=N3->Fresh N0 N3 a [D.ag es,x,J,O,U]->∀ N4,N3<=N4 ->
   Q' (D.ag [D.j n,D.t s,D.t Y,D.j aa,x,J,O,U,D.sl a 9 es c]) N4):=by
 refine hF t d h hG N _ ?_
 cases t with
 | mk k2 ai aj n2 ak al l2=>
 simp only [zFo]
 intro x4 x5 x6 x7 am c' N2 ao ab I ac _ _
 have aq:=I.len
 have au:=hG.2.2.1
 exact ⟨⟨trivial,trivial⟩,⟨trivial,trivial⟩,λa2 N3 ae hf N4 ah=>hq _ _ (by omega) (Tm.is_mk.2 ⟨_,_,_,_,_,_,_,rfl,ab,by omega,I⟩) ((zHg (ac.mono h0 (oD _)) hf ae).mono (oD _) ah)⟩
theorem zUU {F:FuncId} (hF:zTK F) {t y:Tm} {d dy:D} (h:t.Is d) (hG:t.G) (hy:y.Is dy) {i:Nat} (hi:i<t.as.length) {N0 N:Nat} (Q':D->Nat->Prop) (hq:∀ d' N',N<=N'->(t.wth i y).Is d'->Q' d' N') :
  ACalls prog F [.pk,.i,.str,.str,.i,.dc,.dc,.dc,.dc,.row 30 9] [.dg 9 d] N (λn s aa ab x J O U es c N2=>N<=N2->Bel N2 (D.ag es)->(0<=(i:Int)/\(i:Int)<(es.length:Int)/\(0+(i:Int).toNat:Nat)<es.length)/\(0+(i:Int).toNat:Nat)<es.length /\
   (es.length=(List.set es (0+(i:Int).toNat:Nat) dy).length/\c=c)/\(es.length=(List.set es (0+(i:Int).toNat:Nat) dy).length/\c=c)/\(es.length=(List.set es (0+(i:Int).toNat:Nat) dy).length/\c=c)/\(es.length=(List.set es (0+(i:Int).toNat:Nat) dy).length/\c=c)/\(es.length=(List.set es (0+(i:Int).toNat:Nat) dy).length/\c=c) /\
   ∀ a N3,N2<=N3->Fresh N0 N3 a [D.ag (List.set es (0+(i:Int).toNat:Nat) dy),x,J,O,U]->∀ N4,N3<=N4 ->
   Q' (D.ag [D.j n,D.t s,D.t aa,D.j ab,x,J,O,U,D.sl a 9 (List.set es (0+(i:Int).toNat:Nat) dy) c]) N4):=by
 refine hF t d h hG N _ ?_
 cases t with
 | mk k2 ae ah n2 ai aj l2=>
 simp only [zFo]
 simp only [Tm.as] at hi
 intro x4 x5 x6 x7 Y c' N2 ak ac I al _ _
 have am:=I.len
 have ao:=hG.2.2.1
 rw [oH,nU]
 have hs:(List.set Y i dy).length=Y.length:=ny
 exact ⟨⟨by omega,by omega,by omega⟩,by omega,⟨hs.symm,trivial⟩,⟨hs.symm,trivial⟩,⟨hs.symm,trivial⟩,⟨hs.symm,trivial⟩,⟨hs.symm,trivial⟩,λa2 N3 aq hf N4 au=>hq _ _ (by omega) (Tm.is_mk.2 ⟨_,_,_,_,_,_,_,rfl,ac,by omega,zDY I hy⟩)⟩
theorem zOK {k n:Int}:(zNG k n).Is (.ag [.j k,.t (bytes []),.t (bytes []),.j n,.j 0,.sl none 2 [] 0,.j 0,.sl none 2 [] 0,.sl none 9 [] 0]):=
 Tm.is_mk.2 ⟨_,_,_,_,_,_,_,rfl,⟨by decide,by decide,Ty.is_mk.2 ⟨_,_,_,rfl,by simp,rfl⟩,Ty.is_mk.2 ⟨_,_,_,rfl,by simp,rfl⟩⟩,by simp,rfl⟩
/-- the level of a node's parts, at any level -/
theorem zJE {k n m:Int} {c1 I J O U Y c8:D} (h : -1152921504606846976<=m/\m<=1152921504606846976):rN 145 [.dg 9 (.ag [.j k,c1,I,.j n,J,O,U,Y,c8]),.j m] (zN k m):=λN Q hQ=>by
 refine zAZ N _ m Q λ_=>?_
 rw [i64_in (m+1) (by omega),i64_in (m - 1) (by omega)]
 repeat' first|with_reducible intro _|simp only[Y1,Y2,Y3,Y4]|with_reducible refine X ?_ ?_|refine⟨_,_,_,rfl,?_⟩|refine⟨_,rfl,?_⟩|refine And.intro (by first|omega|trivial|(show _=_;rfl)|(with_reducible constructor)<;>first|omega|trivial|rfl) ?_|fail
 all_goals (refine Qi (hQ _ (by omega)) ?_;simp [zN, *])
/-- a level that stays far from the ends, however deep -/
def LvIn (m:Int) (d:Nat):Prop := -1152921504606846976<=m - (d:Int)/\m+(d:Int)<=1152921504606846976
theorem LvIn.next {k m:Int} {d d':Nat} (h:LvIn m d) (hd:d'+1<=d):LvIn (zN k m) d':=by
 unfold LvIn zN at *
 split
 ·omega
 ·split<;>omega
theorem LvIn.b {m:Int} {d:Nat} (h:LvIn m d) : -1152921504606846976<=m/\m<=1152921504606846976:=by unfold LvIn at h;omega
theorem dp_mem {k:Int} {nm ot:ByteArray} {n:Int} {ty re:Ty} {l:List Tm} {y:Tm} (h:y∈l):y.dp+1<=(Tm.mk k nm ot n ty re l).dp:=by
 have:=tU.1 (oD (tf l)) y h
 simp only [Tm.dp];omega
theorem zIf:∀ (t:Tm) (d:D),t.Is d->∀ m:Int,LvIn m t.dp->vl 101 [.dg 9 d,.j m] (t.made m):=by
 refine Tm.ind λk nm ot n ty re l ih d hd m hm N Q hQ=>?_
 obtain ⟨t0,t1,r0,r1,a,es,c,rfl,hh,O,U⟩:=Tm.is_mk.1 hd
 have hl:=U.len
 have key:∀ (N':Nat),N<=N'->(∀ N'',N'<=N''->Q (zAC l (zN k m)) N'')->yx Q N m 0 (.ag [.j k,.t nm,.t ot,.j n,t0,t1,r0,r1,.sl a 9 es c]) N':=by
  refine up U O (λi xs=>∀ (N':Nat),N<=N'->(∀ N'',N'<=N''->Q (zAC xs (zN k m)) N'')->yx Q N m i (.ag [.j k,.t nm,.t ot,.j n,t0,t1,r0,r1,.sl a 9 es c]) N') ?_ ?_
  ·intro i aa _ N' ab J
   refine rT _ _ _ _ _ _ ?_
   repeat' first|with_reducible intro _|simp only[aa,Y1,Y2,Y3,Y4]|with_reducible refine X ?_ ?_|refine⟨_,_,_,rfl,?_⟩|refine⟨_,rfl,?_⟩|refine And.intro (by first|omega|trivial|(show _=_;rfl)|(with_reducible constructor)<;>first|omega|trivial|rfl) ?_|fail
   exact Qb (J _ (by omega)) (by simp [zAC])
  ·intro i x xs I _ ac N' ab J
   have ah:=I.b
   refine rT _ _ _ _ _ _ ?_
   repeat' first|with_reducible intro _|simp only[I.lt,I.w,oH,Y1,Y2,Y3,Y4]|with_reducible refine X ?_ ?_|refine⟨_,_,_,rfl,?_⟩|refine⟨_,rfl,?_⟩|refine And.intro (by first|omega|trivial|(show _=_;rfl)|(with_reducible constructor)<;>first|omega|trivial|rfl) ?_|refine (zJE hm.b) _ _ ?_|refine (ih x I.m _ I.r _ (hm.next (dp_mem I.m))) _ _ ?_|fail
   ·refine Qb (J _ (by omega)) ?_;simp [zAC, *]
   ·exact ac _ (by omega) λN'' h=>Qb (J N'' (by omega)) (by simp [zAC, *])
 refine zHR N _ m Q λ_=>⟨_,rfl,Br.beq (λY=>Br.beq (λh2 N1 ae=>?_) λh2=>?_) λY=>?_⟩
 ·exact Qb (hQ _ ae) (by simp [Tm.made,Y,h2])
 ·exact key N (oD _) λN'' h=>Qb (hQ _ h) (by simp [Tm.made,Y,h2])
 ·exact key N (oD _) λN'' h=>Qb (hQ _ h) (by simp [Tm.made,Y])
theorem zg {e:Tm} {d:D} (he:e.Is d) (Y:e.ok=true) (ac:e.dp<=1073741824):vl 65 [.dg 9 d] e.res:=λN Q J=>by
 cases e with
 | mk k nm ot n0 ty re l=>
 obtain ⟨t0,t1,r0,r1,a,es,c,rfl,hh,ab,U⟩:=Tm.is_mk.1 he
 have hl:=U.len
 refine zC5 N _ Q λ_=>⟨_,rfl,?_⟩
 refine Br.beq (λh2 N1 I=>Qb (J _ I) (by simp [Tm.res,zQb,Tm.kd,h2])) λh2=>?_
 refine Br.beq (λh3 N1 I=>Qb (J _ I) (by simp [Tm.res,zQb,Tm.kd,h3])) λh3=>?_
 refine Br.beq (λh6 N1 I=>Qb (J _ I) (by simp [Tm.res,zQb,Tm.kd,h6])) λh6=>?_
 refine Br.beq (λh9 N1 I=>Qb (J _ I) (by simp [Tm.res,zQb,Tm.kd,h9])) λh9=>?_
 refine Br.beq (λO N1 I=>?_) λO N1 I=>Qb (J _ I) (by simp [Tm.res,zQb,Tm.kd,h2,h3,h6,h9,O])
 subst O
 have ae:=(sO Y).1 (by omega)
 have hm:=za (l:=l) (i:=0) (by omega)
 have ah:=dp_mem (k:=10) (nm:=nm) (ot:=ot) (n:=n0) (ty:=ty) (re:=re) hm
 refine zEG _ _ he 0 N1 _ λN2 ai _=>Br.of (λhv=>⟨_,_,_,rfl,⟨by omega,by omega⟩,λN3 aa=>?_⟩) λhv N3 aa=>Qb (J _ (by omega)) (by simp [Tm.res,zQb,Tm.kd,hv])
 refine zIf _ _ (ui U (j:=0) (by omega)) 1 (by unfold LvIn;omega) N3 _ λN4 aj _ N5 ak=>Qb (J _ (by omega)) ?_
 simp [Tm.res,zQb,Tm.kd,hv,Tm.pt]
theorem zAI {S:Tm->Tm × Int} {e:Tm}:∀ {l:List Tm} {i:Nat} {r:Tm × Int},goS S e l i=some r->∃ j x,l[j]?=some x/\x.res=false/\r=(e.wth (i+j) (S x).1,(S x).2)
 | [],_,_,h=>by simp [goS] at h
 | x::l,i,r,h=>by
   simp only [goS] at h
   split at h
   ·obtain ⟨j,y,I,J,O⟩:=zAI h
    exact ⟨j+1,y,by simpa using I,J,by rw [O,show i+1+j=i+(j+1) by omega]⟩
   ·rename_i U
    exact ⟨0,x,rfl,by simpa using U,(oT h).symm⟩
theorem zLS {S:Tm->Tm × Int} {e:Tm}:∀ {l:List Tm} {i:Nat},goS S e l i=none↔∀ x∈l,x.res=true
 | [],_=>by simp [goS]
 | x::l,i=>by
   simp only [goS,oG,mc]
   split
   ·rename_i I;rw [zLS (l:=l)];simp [I]
   ·rename_i I;simp [I]
theorem zUl:tm0.G:=by simp [tm0,Tm.G,zL8,Ty.cnt,zJ]
theorem zSx {e:Tm} {i:Nat} (h:e.G):(e.pt i).G:=by
 cases e with
 | mk k nm ot n ty re l=>
 simp only [Tm.pt]
 by_cases hi:i<l.length
 ·exact xF h.2.2.2 (za hi)
 ·rw [oA,oV (by omega)];exact zUl
theorem zSn {e x:Tm} {i:Nat} (h:e.G) (J:x.G):(e.wth i x).G:=by
 cases e with
 | mk k nm ot n ty re l=>
 refine ⟨h.1,h.2.1,by simpa using h.2.2.1,zEQ λy I=>?_⟩
 rcases nI I with I | rfl
 ·exact xF h.2.2.2 I
 ·exact J
theorem zUW {e:Tm} (h:e.G):e.apl.1.G:=by
 cases e with
 | mk k nm ot n ty re l=>
 have g:∀ i,(l.getD i tm0).G:=λi=>zSx (e:=.mk k nm ot n ty re l) h
 have I:∀ i j,((l.getD i tm0).pt j).G:=λi j=>zSx (g i)
 simp only [Tm.apl,Tm.opr]
 have s:∀ (t b:Tm) (x:ByteArray),t.G->b.G->(t.sb x b).G:=λt b x J O=>zRp _ t x b J O
 have U:∀ k n,(zNG k n).G:=λk n=>by simp [zNG,Tm.G,zL8,Ty.cnt,zJ]
 have nn:∀ x:Tm,x.G->(Tm.nod 10 [x]).G:=λx Y=>by simpa [Tm.nod,Tm.G,zL8,Ty.cnt,zJ] using Y
 (repeat' split)<;>first | exact h | exact g _ | exact I _ _ | exact s _ _ _ (I _ _) (g _) | exact s _ _ _ (s _ _ _ (I _ _) (g _)) (g _) | exact s _ _ _ (g _) (g _) | exact U _ _ | exact nn _ (g _)
theorem zUF {S:Tm->Tm × Int} (hS:∀ x:Tm,x.G->(S x).1.G):∀ (t:Tm) (m:Int),t.G->(t.cod S m).1.G:=by
 refine Tm.ind λk nm ot n ty re l ih m h=>?_
 simp only [Tm.cod]
 split
 ·unfold zSr
  split
  ·split
   ·exact zSx (zSx h)
   ·exact h
  ·exact zSn h (hS _ (zSx h))
 ·have key:∀ (xs:List Tm),(∀ x∈xs,x∈l)->∀ l' r,xC S xs (zN k m)=some (l',r)->l'.length=xs.length/\∀ x∈l',x.G:=by
   intro xs
   induction xs with
   | nil=>intro _ l' r h;simp [xC] at h
   | cons x xs O=>
     intro U l' r I
     have J:=U x (by simp)
     simp only [xC] at I
     split at I
     ·cases I
      refine ⟨by simp,λy hy=>?_⟩
      rcases oG.1 hy with rfl | hy
      ·exact ih x J _ (xF h.2.2.2 J)
      ·exact xF h.2.2.2 (U y (by simp [hy]))
     ·split at I
      ·cases I
      ·rename_i l2 r2 h3
       cases I
       obtain ⟨Y,b2⟩:=O (λy hy=>U y (by simp [hy])) _ _ h3
       refine ⟨by simp [Y],λy hy=>?_⟩
       rcases oG.1 hy with rfl | hy
       ·exact xF h.2.2.2 J
       ·exact b2 y hy
  cases hc:xC S l (zN k m) with
  | none=>exact h
  | some p=>
    obtain ⟨l',r⟩:=p
    obtain ⟨Y,b2⟩:=key l (λx J=>J) l' r hc
    exact ⟨h.1,h.2.1,by rw [Y];exact h.2.2.1,zEQ b2⟩
theorem zS5:∀ (f:Nat) (e:Tm),e.G->(e.stp f).1.G
 | 0,e,h=>h
 | f + 1,.mk k nm ot n ty re l,h=>by
   have I:=zS5 f
   simp only [Tm.stp]
   split
   ·exact h
   ·by_cases J:(Tm.mk k nm ot n ty re l).kd=10
    ·rw [if_pos J]
     exact zSn h (zUF I _ 1 (zSx h))
    ·rw [if_neg J]
     cases O:goS (Tm.stp f) (Tm.mk k nm ot n ty re l) (l.take (zFO k l.length)) 0 with
     | none=>exact zUW h
     | some r=>
       obtain ⟨j,x,U,Y,rfl⟩:=zAI O
       exact zSn h (I x (xF h.2.2.2 (List.take_subset _ _ (oB U))))
/-- steps of parts -/
def zSw (F:FuncId) (f:Nat):Prop:=∀ (e:Tm) (d:D),e.Is d->e.F f->zOO F [.dg 9 d] (e.stp f)
theorem Tm.F.dp {e:Tm} {f:Nat} (h:e.F f):e.dp<=1073741824:=by
 have:=Tm.dp_cnt e
 have:=h.c
 omega
theorem zTk {k:Int} {nm ot:ByteArray} {n:Int} {ty re:Ty} {l:List Tm} {i:Nat}:(Tm.mk k nm ot n ty re l).pt i=l.getD i tm0:=rfl
theorem zEN {t y:Tm} {d dy:D} (h:t.Is d) (I:t.G) (J:y.Is dy) {i:Nat} (hi:i<t.as.length) (N:Nat) (Q:QT [.ag 9]) (O:∀ d' N',N<=N'->(t.wth i y).Is d'->Q d' N') :
  ACalls prog 105 [.ag 9] [.dg 9 d,.j (i:Int),.dg 9 dy] N Q:=
 zFr N _ _ _ Q λ_ _ N1 U=>zUU qE h I J hi (λd N=>Q d N) λd' N' h1 Y=>O _ _ (by omega) Y
theorem zG5 {f:Nat} (hS:zSw 66 f) {k n0:Int} {nm ot:ByteArray} {ty re:Ty} {l:List Tm} {d:D} (h:(Tm.mk k nm ot n0 ty re l).Is d) (O:(Tm.mk k nm ot n0 ty re l).F (f+1)) {i:Nat} (hi:i<l.length) :
  zOO 146 [.dg 9 d,.j (i:Int)] ((Tm.mk k nm ot n0 ty re l).wth i (Tm.stp f (l.getD i tm0)).1,(Tm.stp f (l.getD i tm0)).2):=λN Q U=>by
 obtain ⟨t0,t1,r0,r1,a,es,c,rfl,hh,Y,I⟩:=Tm.is_mk.1 h
 have hl:=I.len
 refine zJ5 N _ _ Q λ_=>⟨_,_,_,rfl,⟨by omega,by omega⟩,λN1 aa=>?_⟩
 rw [oH]
 refine hS _ _ (ui I hi) (O.mem _ (za hi)) N1 _ λdx N2 ab hx _ _=>Br.beq (λh0 N3 ac=>?_) λh0 N4 ae=>?_
 ·refine U _ _ (by omega) ?_
  have e1:=zRT f _ h0
  simp only
  rw [e1,<-zTk (k:=k) (nm:=nm) (ot:=ot) (n:=n0) (ty:=ty) (re:=re),zL4]
  exact h
 ·exact zEN h O.z.g hx hi N4 _ λd' N5 ah J _ _ N6 ai=>U _ _ (by omega) J
theorem zO6 {f:Nat} (hS:zSw 66 f):∀ (t:Tm) (d:D),t.Is d->t.F (f+1)->∀ m:Int,LvIn m t.dp->zTS 104 [.dg 9 d,.j m] (t.cod (Tm.stp f) m):=by
 refine Tm.ind λk nm ot n0 ty re l ih d hd hF m hm N Q J=>?_
 have Y:=hd
 obtain ⟨t0,t1,r0,r1,a,es,c,rfl,hh,aj,ab⟩:=Tm.is_mk.1 hd
 have hl:=ab.len
 have loop:¬(k=11/\m=1)->yR Q N m 0 (.ag [.j k,.t nm,.t ot,.j n0,t0,t1,r0,r1,.sl a 9 es c]) 0 (bytes []) (bytes []) 0 0 none [] 0 0 none [] 0 none [] 0 N:=λao=>by
  simp only [Tm.cod] at J
  rw [if_neg ao] at J
  refine up ab aj (λi xs=>∀ N',N<=N'->(match xC (Tm.stp f) xs (zN k m) with | none=>xC (Tm.stp f) l (zN k m)=none | some (l',r)=>xC (Tm.stp f) l (zN k m)=some (l.take i++l',r)) ->
   yR Q N m i (.ag [.j k,.t nm,.t ot,.j n0,t0,t1,r0,r1,.sl a 9 es c]) 0 (bytes []) (bytes []) 0 0 none [] 0 0 none [] 0 none [] 0 N') ?_ ?_ N (oD _) ?_
  ·intro i aq hi N' au O
   simp only [xC] at O
   rw [O] at J
   refine tw _ _ _ _ _ _ _ _ _ _ _ _ _ _ _ _ _ _ _ _ _ ⟨_,_,_,rfl,?_⟩
   rw [aq]
   exact λN2 ak=>J _ _ (by omega) Y
  ·intro i x xs I aw ax N' au O
   have hb:=I.b
   have al:i<l.length:=(oC.1 I.g).1
   refine tw _ _ _ _ _ _ _ _ _ _ _ _ _ _ _ _ _ _ _ _ _ ⟨_,_,_,rfl,?_⟩
   rw [I.lt,oH,I.w]
   refine ⟨_,_,_,rfl,⟨by omega,by omega⟩,λN1 ay=>zJE hm.b N1 _ λN2 ak _ N3 az=>?_⟩
   refine ih x I.m _ I.r ((hF.mem x I.m).up (by omega)) _ (hm.next (dp_mem I.m)) N3 _ λdx N4 a0 hx _ _=>Br.of (λhv N5 a3=>?_) λhv=>?_
   ·simp only [xC] at O
    rw [if_pos hv] at O
    simp only at O
    rw [O] at J
    refine zEN Y hF.z.g hx al N5 _ λd' N6 a4 ac _ _ N7 a5=>J _ _ (by omega) ?_
    have:l.take i++(x.cod (Tm.stp f) (zN k m)).1::xs=l.set i (x.cod (Tm.stp f) (zN k m)).1:=by
     rw [List.set_eq_take_append_cons_drop,if_pos al,aw]
    simp only
    rw [this]
    exact ac
   ·refine ax _ (by omega) ?_
    simp only [xC] at O
    rw [if_neg (by rw [hv];decide)] at O
    cases hc:xC (Tm.stp f) xs (zN k m) with
    | none=>rw [hc] at O;exact O
    | some p=>
      obtain ⟨l',r⟩:=p
      rw [hc] at O
      simp only at O ⊢
      rw [O,zX I.g,nh];rfl
  ·cases hc:xC (Tm.stp f) l (zN k m) with
   | none=>rfl
   | some p=>obtain ⟨l',r⟩:=p;simp
 refine zFW N _ m Q λ_=>⟨_,rfl,Br.beq (λh1=>Br.beq (λh2=>?_) λh2=>loop λh=>h2 h.2) λh1=>loop λh=>h1 h.1⟩
 have a9:=(sO hF.ok).1 (by omega)
 have ae:0<l.length:=by omega
 have am:=za ae
 have U:=hF.mem _ am
 have ah:=ui ab ae
 simp only [Tm.cod] at J
 rw [if_pos ⟨h1,h2⟩] at J
 unfold zSr at J
 rw [zTk] at J
 refine ⟨_,_,_,rfl,⟨by omega,by omega⟩,λN1 ay=>zg ah U.ok U.dp N1 _ λN2 ak _=>Br.not (λhr N3 az=>?_) λhr=>?_⟩
 ·rw [if_neg (by rw [hr];decide)] at J
  exact zG5 hS Y hF ae N3 _ λdx N4 a0 hx _ _ N5 a3=>J _ _ (by omega) hx
 ·rw [if_pos hr] at J
  generalize l.getD 0 tm0=p at ah U hr J am
  cases p with
  | mk pk pn po pm pt pr pl=>
  obtain ⟨u0,u1,v0,v1,a2,ba,c2,heq,bb,a6,aa⟩:=Tm.is_mk.1 ah
  have bc:=aa.len
  rw [heq]
  refine ⟨_,rfl,Br.beq (λai=>?_) λai bd a8=>?_⟩
  ·rw [if_pos (by exact ai)] at J
   have bg:=(sO U.ok).1 (by omega)
   have a7:=za (l:=pl) (i:=0) (by omega)
   refine ⟨_,_,_,rfl,⟨by omega,by omega⟩,λN6 a4=>?_⟩
   refine zNn qE (ui aa (j:=0) (by omega)) (xF U.z.g.2.2.2 a7) (N0:=N) (by omega) (λd N=>Q d 6 true N) λd' N7 a5 ac _=>J _ _ (by omega) ac
  ·rw [if_neg (by exact ai)] at J
   exact J _ _ (by omega) Y
def zKZ (l:List Tm) (i:Nat):List D:=[.j (if 0<i then (l.getD 0 tm0).no else 0),.j (if 1<i then (l.getD 1 tm0).no else 0)]
theorem zQC {l:List Tm} {i:Nat} (hi:i<2):(zKZ l i).set i (.j ((l.getD i tm0).no))=zKZ l (i+1):=by
 match i,hi with
 | 0,_=>rfl
 | 1,_=>rfl
theorem zIR {l:List Tm} {i:Nat} (h:l.length<=i):l.getD i tm0=tm0:=by rw [oA,oV h];rfl
theorem zPf {l:List Tm} (h:l.length<=2):zKZ l l.length=[.j ((l.getD 0 tm0).no),.j ((l.getD 1 tm0).no)]:=by
 unfold zKZ
 by_cases I:0<l.length
 ·by_cases J:1<l.length
  ·rw [if_pos I,if_pos J]
  ·rw [if_pos I,if_neg J,zIR (i:=1) (by omega)];rfl
 ·rw [if_neg I,if_neg (by omega),zIR (i:=0) (by omega),zIR (i:=1) (by omega)];rfl
theorem zSm (s:ByteArray):zF6 s<=2:=by unfold zF6;(repeat' split)<;>decide
theorem zQO (n:Int) (N:Nat) (Q:QT [.ag 9]) (J:∀ d N',N<=N'->(zNG 2 n).Is d->Q d N'):ACalls prog 95 [.ag 9] [.j n] N Q:=rd N n Q λN1 I=>J _ _ I zOK
theorem zNt (n:Int) (N:Nat) (Q:QT [.ag 9]) (J:∀ d N',N<=N'->(zNG 3 n).Is d->Q d N'):ACalls prog 94 [.ag 9] [.j n] N Q:=sc N n Q λN1 I=>J _ _ I zOK
theorem zG9 {S:Tm->Tm × Int} {e:Tm} {i:Nat} {x:Tm} {xs:List Tm} (h:x.res=true):goS S e (x::xs) i=goS S e xs (i+1):=by simp [goS,h]
theorem zRh {n0:Int} {nm ot:ByteArray} {ty re:Ty} {l:List Tm} (h:∀ x∈l,x.kd=vh nm):(Tm.mk 4 nm ot n0 ty re l).opr l=(zNG (zDQ nm) (yF nm (l.getD 0 tm0).no (l.getD 1 tm0).no).1,1):=by
 unfold Tm.opr
 rw [if_pos (oX.2 λx I=>by rw [h x I];exact beq_self_eq_true _)]
 rfl
theorem zR1 {n0:Int} {nm ot:ByteArray} {ty re:Ty} {l:List Tm} {x:Tm} (I:x∈l) (h:x.kd≠vh nm):(Tm.mk 4 nm ot n0 ty re l).opr l=(Tm.mk 4 nm ot n0 ty re l,0):=by
 unfold Tm.opr
 rw [if_neg λhc=>h (by have:=oX.1 hc _ I;simpa [Tm.nm] using this)]
/-- an operation of results -/
theorem zNk {n0:Int} {nm ot:ByteArray} {ty re:Ty} {l:List Tm} {t0 t1 r0 r1:D} {a:Option Addr} {es:List D} {c:Nat} (ae:(Tm.mk 4 nm ot n0 ty re l).Is (.ag [.j 4,.t nm,.t ot,.j n0,t0,t1,r0,r1,.sl a 9 es c])) (ab:All2 Tm.Is l es) (ac:es.length<=4611686018427387904) (ah:l.length<=2) {N:Nat} {Q:QT [.ag 9,.i]} (U:∀ d N',N<=N'->((Tm.mk 4 nm ot n0 ty re l).opr l).1.Is d->Q d ((Tm.mk 4 nm ot n0 ty re l).opr l).2 N') (N':Nat) (O:N<=N') :
  yv Q N (vh nm) 2 2 0 (.ag [.j 4,.t nm,.t ot,.j n0,t0,t1,r0,r1,.sl a 9 es c]) 0 (bytes []) (bytes []) 0 0 none [] 0 0 none [] 0 none [] 0 [.j 0,.j 0] 2 N':=by
 have hl:=ab.len
 refine up ab ac (λi xs=>∀ N',N<=N'->(∀ j x,j<i->l[j]?=some x->x.kd=vh nm)->yv Q N (vh nm) 2 2 i (.ag [.j 4,.t nm,.t ot,.j n0,t0,t1,r0,r1,.sl a 9 es c]) 0 (bytes []) (bytes []) 0 0 none [] 0 0 none [] 0 none [] 0 (zKZ l i) 2 N') ?_ ?_ N' O (λj x h=>absurd h (by omega))
 ·intro i ai hi N' O hk
  rw [zRh λx Y=>by
   obtain ⟨j,hj⟩:=oO.1 Y
   exact hk j x (by have:=(oC.1 hj).1;omega) hj] at U
  refine qD _ _ _ _ _ _ _ _ _ _ _ _ _ _ _ _ _ _ _ _ _ _ _ _ _ ⟨_,_,_,rfl,?_⟩
  rw [ai]
  have aj:i=l.length:=by omega
  rw [aj,zPf ah]
  refine ⟨_,rfl,⟨⟨by omega,by omega,by simp⟩,by simp,_,rfl,⟨by omega,by omega,by simp⟩,by simp,_,rfl,λN2 az=>te _ _ _ N2 _ λN3 a0 _=>⟨_,rfl,?_⟩⟩⟩
  have J:zJL nm=true->∀ N4,N3<=N4->ACalls prog 95 [.ag 9] [.j (yF nm (l.getD 0 tm0).no (l.getD 1 tm0).no).1] N4 (λx N5=>N4<=N5->Bel N5 x->∀ N6,N5<=N6->Q x 1 N6):=λho N4 ak=>by
   rw [show zDQ nm=2 by unfold zDQ;rw [if_pos ho]] at U
   exact zQO _ N4 _ λx N5 al Y _ _ N6 am=>U _ _ (by omega) Y
  refine Br.str (λe1=>J (by simp [zJL,e1])) λe1=>⟨_,rfl,Br.str (λe2=>J (by simp [zJL,e2])) λe2=>⟨_,rfl,Br.str (λe3=>J (by simp [zJL,e3])) λe3 N4 ak=>?_⟩⟩
  rw [show zDQ nm=3 by unfold zDQ;rw [if_neg (by simp [zJL,e1,e2,e3])]] at U
  exact zNt _ N4 _ λx N5 al Y _ _ N6 am=>U _ _ (by omega) Y
 ·intro i x xs I a3 ao N' O hk
  have hb:=I.b
  have Y:=I.r
  refine qD _ _ _ _ _ _ _ _ _ _ _ _ _ _ _ _ _ _ _ _ _ _ _ _ _ ⟨_,_,_,rfl,?_⟩
  rw [I.lt,oH,I.w]
  have aq:l.getD i tm0=x:=by rw [oA,I.g];rfl
  cases x with
  | mk pk pn po pm pt pr pl=>
  obtain ⟨u0,u1,v0,v1,a2,a4,c2,heq,a5,au,ay⟩:=Tm.is_mk.1 Y
  refine ⟨_,_,_,rfl,⟨by omega,by omega⟩,pk,by rw [heq];rfl,Br.bne (λaw N1 a6=>?_) λhe=>⟨_,_,_,rfl,⟨by omega,by omega⟩,pm,by rw [heq];rfl,⟨by omega,by omega,by simp only [zKZ,oJ,oM];omega⟩,by simp only [zKZ,oJ,oM];omega,?_⟩⟩
  ·rw [zR1 I.m aw] at U
   exact U _ _ (by omega) ae
  ·rw [nU]
   have aa:=zQC (l:=l) (i:=i) (by omega)
   rw [aq] at aa
   simp only [Tm.no] at aa
   rw [aa]
   refine ao _ O λj y hj hy=>?_
   by_cases ax:j<i
   ·exact hk j y ax hy
   ·have:j=i:=by omega
    subst this
    rw [I.g] at hy
    rw [<-oT hy];exact he
/-- an operation -/
theorem zR5 {f:Nat} (hS:zSw 66 f) {n0:Int} {nm ot:ByteArray} {ty re:Ty} {l:List Tm} {d:D} (hd:(Tm.mk 4 nm ot n0 ty re l).Is d) (hF:(Tm.mk 4 nm ot n0 ty re l).F (f+1)) {r:Tm × Int} (hr:(match goS (Tm.stp f) (Tm.mk 4 nm ot n0 ty re l) l 0 with | some r=>r | none=>(Tm.mk 4 nm ot n0 ty re l).opr l)=r) :
  zOO 102 [.dg 9 d] r:=λN Q hQ=>by
 have aa:=hd
 obtain ⟨t0,t1,r0,r1,a,es,c,rfl,hh,U,Y⟩:=Tm.is_mk.1 hd
 have hl:=Y.len
 have ae:l.length<=2:=by
  have h1:=(sO hF.ok).2.2.2.2 rfl
  have h2:=zSm nm
  omega
 have J:(∀ x∈l,x.res=true)->∀ N',N<=N'->yv Q N (vh nm) 2 2 0 (.ag [.j 4,.t nm,.t ot,.j n0,t0,t1,r0,r1,.sl a 9 es c]) 0 (bytes []) (bytes []) 0 0 none [] 0 0 none [] 0 none [] 0 [.j 0,.j 0] 2 N':=λab N' O=>by
  have hg:goS (Tm.stp f) (Tm.mk 4 nm ot n0 ty re l) l 0=none:=by
   have:∀ (xs:List Tm) (i:Nat),(∀ x∈xs,x.res=true)->goS (Tm.stp f) (Tm.mk 4 nm ot n0 ty re l) xs i=none:=by
    intro xs
    induction xs with
    | nil=>intro i _;rfl
    | cons x xs ih=>intro i h;rw [zG9 (h x (by simp))];exact ih _ λy hy=>h y (by simp [hy])
   exact this l 0 ab
  rw [hg] at hr
  simp only at hr
  subst hr
  exact zNk aa Y U ae hQ N' O
 have first:yP Q N (vh nm) 2 2 0 (.ag [.j 4,.t nm,.t ot,.j n0,t0,t1,r0,r1,.sl a 9 es c]) 0 (bytes []) (bytes []) 0 0 none [] 0 0 none [] 0 none [] 0 [.j 0,.j 0] 2 N:=by
  refine up Y U (λi xs=>∀ N',N<=N'->(∀ j x,j<i->l[j]?=some x->x.res=true)->(match goS (Tm.stp f) (Tm.mk 4 nm ot n0 ty re l) xs i with | some r=>r | none=>(Tm.mk 4 nm ot n0 ty re l).opr l)=r->yP Q N (vh nm) 2 2 i (.ag [.j 4,.t nm,.t ot,.j n0,t0,t1,r0,r1,.sl a 9 es c]) 0 (bytes []) (bytes []) 0 0 none [] 0 0 none [] 0 none [] 0 [.j 0,.j 0] 2 N') ?_ ?_ N (oD _) (λj x h=>absurd h (by omega)) hr
  ·intro i ah hi N' O hk _
   refine pC _ _ _ _ _ _ _ _ _ _ _ _ _ _ _ _ _ _ _ _ _ _ _ _ _ ⟨_,_,_,rfl,?_⟩
   rw [ah]
   refine J (λx hx=>?_) N' O
   obtain ⟨j,hj⟩:=oO.1 hx
   exact hk j x (by have:=(oC.1 hj).1;omega) hj
  ·intro i x xs I al ai N' O hk he
   have hb:=I.b
   have aj:i<l.length:=(oC.1 I.g).1
   obtain rfl:l.getD i tm0=x:=by rw [oA,I.g];rfl
   have ac:=hF.mem _ I.m
   refine pC _ _ _ _ _ _ _ _ _ _ _ _ _ _ _ _ _ _ _ _ _ _ _ _ _ ⟨_,_,_,rfl,?_⟩
   rw [I.lt,oH,I.w]
   refine ⟨_,_,_,rfl,⟨by omega,by omega⟩,λN1 am=>zg I.r ac.ok ac.dp N1 _ λN2 ao _=>Br.not (λhv N3 aq=>?_) λhv=>?_⟩
   ·simp only [goS] at he
    rw [if_neg (by rw [hv];decide)] at he
    simp only at he
    subst he
    exact zG5 hS aa hF aj N3 _ λdx N4 au hx _ _ N5 aw=>hQ _ _ (by omega) hx
   ·rw [zG9 hv] at he
    refine ai _ (by omega) (λj y hj hy=>?_) he
    by_cases ak:j<i
    ·exact hk j y ak hy
    ·have:j=i:=by omega
     subst this
     rw [I.g] at hy
     rw [<-oT hy];exact hv
 refine zI5 N _ Q λ_=>⟨_,rfl,Br.str (λe1=>?_) λe1=>⟨_,rfl,Br.str (λe2=>?_) λe2=>⟨_,rfl,Br.str (λe3=>?_) λe3=>?_⟩⟩⟩
 ·have:vh nm=3:=by simp [vh,zAp,e1]
  rw [this] at first;exact first
 ·have:vh nm=3:=by simp [vh,zAp,e2]
  rw [this] at first;exact first
 ·have:vh nm=3:=by simp [vh,zAp,e3]
  rw [this] at first;exact first
 ·have:vh nm=2:=by simp [vh,zAp,e1,e2,e3]
  rw [this] at first;exact first
theorem vO:∀ {l:List Tm} {t:Tm},t∈l->t.sz<=zw l
 | u::us,t,h=>by
   simp only [zw]
   rcases oG.1 h with rfl | h
   ·omega
   ·have:=vO h;omega
theorem Tm.sz_pos (t:Tm):1<=t.sz:=by cases t;simp only [Tm.sz];omega
theorem zKL:∀ {l:List Tm},rt l=true↔∀ x∈l,x.ok=true
 | []=>by simp [rt]
 | t::I=>by simp only [rt,oI,zKL (l:=I),oG,mc]
theorem szL:∀ {l' l:List Tm},l'.length=l.length->(∀ (i:Nat) (t' t:Tm),l'[i]?=some t'->l[i]?=some t->t.sz<=t'.sz)->zw l<=zw l'
 | [],[],_,_=>oD _
 | [],_::_,h,_=>by simp at h
 | _::_,[],h,_=>by simp at h
 | t'::I,t::O,h,J=>by
   have h1:=szL (l':=I) (l:=O) (by simpa using h) λi a b U Y=>J (i+1) a b (by simpa using U) (by simpa using Y)
   have h0:=J 0 t' t (by simp) (by simp)
   simp only [zw];omega
theorem zNm {f:Nat} (I:∀ t x y,t.V->t.sz<=(Tm.sub f t x (zEg y)).sz) (k:Int) (n:Nat) (fb:List ByteArray) (x:ByteArray):∀ (l:List ByteArray) (s:ByteArray × ByteArray × Tm),s.2.2.V->s.2.2.sz<=(rns (Tm.sub f) k n fb x l s).2.2.sz
 | [],s,_=>oD _
 | old::l,s,J=>by
   have O:=zNm I k n fb x l (rn1 (Tm.sub f) k n fb x old s) ((zKY (vn f) k n fb x old s).v J)
   have U:s.2.2.sz<=(rn1 (Tm.sub f) k n fb x old s).2.2.sz:=by
    unfold rn1
    split
    ·split<;>exact I _ _ _ J
    ·exact oD _
   simp only [rns];omega
theorem zGV:∀ (f:Nat) (t:Tm) (x:ByteArray) (b:Tm),t.V->t.sz<=(t.sub f x b).sz
 | 0,t,x,b,_=>by simp only [Tm.sub];exact oD _
 | f + 1,.mk k nm ot n ty re l,x,b,hv=>by
   have Y:=zGV f
   have O:=tY.1 hv.2
   simp only [Tm.sub]
   split
   ·rename_i hk
    split
    ·rw [hv.1 (by assumption)]
     simp only [Tm.sz,zw];exact Tm.sz_pos b
    ·exact oD _
   ·split
    ·simp only [Tm.sz]
     have:=szL (l':=l.map λt=>Tm.sub f t x b) (l:=l) (by simp) λi t' t I J=>by
      rw [oF,J] at I
      cases I
      exact Y t x b (O t (oB J))
     omega
    ·rename_i hb
     obtain ⟨g1,g2⟩:=vL hb
     split
     ·simp only [Tm.sz]
      have:=szL (l':=(l.map λt=>Tm.sub f t x b).set (xW k l.length).toNat (l.getD (xW k l.length).toNat tm0)) (l:=l) (by simp) λi t' t I J=>by
       rcases zIN I J with ⟨h1,U⟩ | ⟨h1,U⟩
       ·rw [h1,zy g1] at J
        rw [U,<-oT J]
        exact oD _
       ·rw [U];exact Y t x b (O t (oB J))
      omega
     ·simp only [Tm.sz]
      have:=szL (l':=(l.map λt=>Tm.sub f t x b).set (xW k l.length).toNat (Tm.sub f (rns (Tm.sub f) k l.length b.fv x (bdN k nm ot l.length) (nm,ot,l.getD (xW k l.length).toNat tm0)).2.2 x b)) (l:=l) (by simp) λi t' t I J=>by
       rcases zIN I J with ⟨h1,U⟩ | ⟨h1,U⟩
       ·rw [h1,zy g1] at J
        rw [U,<-oT J]
        have aa:=O _ (oB (zy g1))
        exact oR (zNm (λt x y h=>Y t x _ h) k l.length b.fv x (bdN k nm ot l.length) (nm,ot,l.getD (xW k l.length).toNat tm0) aa) (Y _ x b ((sY (vn f) _ _ _ _ _ _).v aa))
       ·rw [U];exact Y t x b (O t (oB J))
      omega
theorem zR6 {k:Int} {s w ot:ByteArray} {n:Nat} (v:ByteArray) (h:s∈bdN k w ot n):s=w\/s∈bdN k v ot n:=by
 unfold bdN at h ⊢
 split at h
 ·simp at h;exact .inl h
 ·rename_i I
  rw [if_neg I]
  split at h
  ·simp at h;exact .inl h
  ·rename_i J
   rw [if_neg J]
   split at h
   ·rename_i O
    rw [if_pos O]
    simp at h
    rcases h with h | h
    ·exact .inl h
    ·exact .inr (by simp [h])
   ·simp at h
theorem zRm {k:Int} {s nm w:ByteArray} {n:Nat} (v:ByteArray) (h:s∈bdN k nm w n):s=w\/s∈bdN k nm v n:=by
 unfold bdN at h ⊢
 split at h
 ·rename_i I
  rw [if_pos I];exact .inr h
 ·rename_i I
  rw [if_neg I]
  split at h
  ·rename_i J
   rw [if_pos J];exact .inr h
  ·rename_i J
   rw [if_neg J]
   split at h
   ·rename_i O
    rw [if_pos O]
    simp at h
    rcases h with h | h
    ·exact .inr (by simp [h])
    ·exact .inl h
   ·simp at h
/-- a free name stays free where another is put in -/
theorem zOn:∀ (f:Nat) (t:Tm) (s x:ByteArray) (b:Tm),s∈t.fv->s≠x->s∈(t.sub f x b).fv
 | 0,t,s,x,b,h,_=>by simp only [Tm.sub];exact h
 | f + 1, .mk k nm ot n ty re l,s,x,b,h,J=>by
   have ih:=zOn f
   rw [Tm.fv_mem] at h
   simp only [Tm.sub]
   split
   ·rename_i O
    rcases h with ⟨_,h⟩ | ⟨h,_⟩
    ·rw [if_neg (λhc=>J (by rw [h,hc]))]
     rw [Tm.fv_mem]
     exact .inl ⟨O,h⟩
    ·exact absurd O h
   ·rename_i O
    obtain ⟨j,p,hj,hs⟩:∃ (j:Nat) (x:Tm),l[j]?=some x/\s∈fvI (xW k l.length) (bdN k nm ot l.length) j x:=by
     rcases h with ⟨h,_⟩ | ⟨_,h⟩
     ·exact absurd h O
     ·exact h
    unfold fvI at hs
    split
    ·rename_i hb
     rw [Tm.fv_mem]
     refine .inr ⟨O,j,p.sub f x b,by rw [oF,hj];rfl,?_⟩
     rw [if_neg (by omega)] at hs
     unfold fvI
     rw [nF,if_neg (by omega)]
     exact ih p s x b hs J
    ·rename_i hb
     obtain ⟨g1,g2⟩:=vL hb
     have aa:j<l.length:=(oC.1 hj).1
     have U:=zy g1
     split
     ·rw [Tm.fv_mem]
      by_cases I:(j:Int)=xW k l.length
      ·refine .inr ⟨O,j,p,?_,?_⟩
       ·have:(xW k l.length).toNat=j:=by omega
        rw [this] at U ⊢
        rw [nV (by simpa using aa),<-oT (U.symm.trans hj)]
       ·unfold fvI;simp only [ny,nF];exact hs
      ·refine .inr ⟨O,j,p.sub f x b,?_,?_⟩
       ·rw [nJ (by omega),oF,hj];rfl
       ·rw [if_neg I] at hs
        unfold fvI
        simp only [ny,nF]
        rw [if_neg I]
        exact ih p s x b hs J
     ·rw [Tm.fv_mem]
      by_cases I:(j:Int)=xW k l.length
      ·have ae:(xW k l.length).toNat=j:=by omega
       rw [ae] at U ⊢
       have ah:l.getD j tm0=p:=oT (U.symm.trans hj)
       rw [ah]
       rw [if_pos I,sK] at hs
       obtain ⟨ai,ab⟩:=hs
       have r1:∀ (old:ByteArray) (st:ByteArray × ByteArray × Tm),s≠old->s∈st.2.2.fv->s∉bdN k st.1 st.2.1 l.length->s∈(rn1 (Tm.sub f) k l.length b.fv x old st).2.2.fv/\s∉bdN k (rn1 (Tm.sub f) k l.length b.fv x old st).1 (rn1 (Tm.sub f) k l.length b.fv x old st).2.1 l.length:=λold st h1 Y h3=>by
        unfold rn1
        have ac:=zEc (b.fv++(st.2.2.fv++([x]++bdN k st.1 st.2.1 l.length)))
        generalize fresh (b.fv++(st.2.2.fv++([x]++bdN k st.1 st.2.1 l.length)))=w at ac
        have hw:s≠w:=λhc=>ac (by rw [<-hc];simp [Y])
        split
        ·split
         ·exact ⟨ih _ _ _ _ Y h1,λhc=>(zR6 st.1 hc).elim hw h3⟩
         ·exact ⟨ih _ _ _ _ Y h1,λhc=>(zRm st.2.1 hc).elim hw h3⟩
        ·exact ⟨Y,h3⟩
       have rs:∀ (ns:List ByteArray) (st:ByteArray × ByteArray × Tm),(∀ o∈ns,s≠o)->s∈st.2.2.fv->s∉bdN k st.1 st.2.1 l.length->s∈(rns (Tm.sub f) k l.length b.fv x ns st).2.2.fv/\s∉bdN k (rns (Tm.sub f) k l.length b.fv x ns st).1 (rns (Tm.sub f) k l.length b.fv x ns st).2.1 l.length:=by
        intro ns
        induction ns with
        | nil=>exact λst _ Y h3=>⟨Y,h3⟩
        | cons o os aj=>
          intro st h1 Y h3
          obtain ⟨a1,a2⟩:=r1 o st (h1 o (by simp)) Y h3
          exact aj _ (λo' ho=>h1 o' (by simp [ho])) a1 a2
       obtain ⟨a1,a2⟩:=rs (bdN k nm ot l.length) (nm,ot,p) (λo ho hc=>ab (hc ▸ ho)) ai ab
       refine .inr ⟨O,j,_,nV (by simpa using aa),?_⟩
       unfold fvI
       simp only [ny,nF]
       rw [if_pos I,sK]
       exact ⟨ih _ _ _ _ a1 J,a2⟩
      ·refine .inr ⟨O,j,p.sub f x b,?_,?_⟩
       ·rw [nJ (by omega),oF,hj];rfl
       ·rw [if_neg I] at hs
        unfold fvI
        simp only [ny,nF]
        rw [if_neg I]
        exact ih p s x b hs J
/-- what is put in is there -/
theorem zNd {f:Nat} (k:Int) (n:Nat) (fb:List ByteArray) (x:ByteArray):∀ (l:List ByteArray) (s:ByteArray × ByteArray × Tm),x∉l->x∈s.2.2.fv->x∈(rns (Tm.sub f) k n fb x l s).2.2.fv
 | [],s,_,h=>h
 | old::l,s,J,h=>by
   refine zNd k n fb x l _ (λhc=>J (by simp [hc])) ?_
   unfold rn1
   have I:x≠old:=λhc=>J (by simp [hc])
   split
   ·split<;>exact zOn f _ _ _ _ h I
   ·exact h
theorem zO9:∀ (f:Nat) (t:Tm) (x:ByteArray) (b:Tm),t.dp<=f->x∈t.fv->b.sz<=(t.sub f x b).sz
 | 0,t,x,b,h,_=>absurd (Tm.dp_pos t) (by omega)
 | f + 1,.mk k nm ot n ty re l,x,b,hd,h=>by
   have ih:=zO9 f
   rw [Tm.fv_mem] at h
   simp only [Tm.dp] at hd
   have ae:=λy hy=>tU.1 (mb hd) y hy
   simp only [Tm.sub]
   split
   ·rename_i hk
    rcases h with ⟨_,h⟩ | ⟨h,_⟩
    ·rw [if_pos h.symm];exact oD _
    ·exact absurd hk h
   ·rename_i hk
    obtain ⟨j,p,U,hs⟩:∃ (j:Nat) (y:Tm),l[j]?=some y/\x∈fvI (xW k l.length) (bdN k nm ot l.length) j y:=by
     rcases h with ⟨h,_⟩ | ⟨_,h⟩
     ·exact absurd h hk
     ·exact h
    unfold fvI at hs
    have J:=ae p (oB U)
    have fin:∀ (aa ab:ByteArray) (l':List Tm) (y:Tm),l'[j]?=some y->b.sz<=y.sz->b.sz<=(Tm.mk k aa ab n ty re l').sz:=λaa ab l' y h1 h2=>by
     have:=vO (oB h1)
     simp only [Tm.sz];omega
    split
    ·rename_i hb
     rw [if_neg (by omega)] at hs
     exact fin _ _ _ (p.sub f x b) (by rw [oF,U];rfl) (ih p x b J hs)
    ·rename_i hb
     obtain ⟨g1,g2⟩:=vL hb
     have ah:j<l.length:=(oC.1 U).1
     have O:=zy g1
     split
     ·rename_i hc
      by_cases I:(j:Int)=xW k l.length
      ·exfalso
       have:(xW k l.length).toNat=j:=by omega
       rw [this] at O hc
       have Y:l.getD j tm0=p:=oT (O.symm.trans U)
       rw [if_pos I,sK] at hs
       rw [Y] at hc
       rcases hc with hc | hc
       ·exact hs.2 hc
       ·exact hc hs.1
      ·rw [if_neg I] at hs
       exact fin _ _ _ (p.sub f x b) (by rw [nJ (by omega),oF,U];rfl) (ih p x b J hs)
     ·rename_i hc
      by_cases I:(j:Int)=xW k l.length
      ·have ai:(xW k l.length).toNat=j:=by omega
       rw [ai] at O ⊢
       have Y:l.getD j tm0=p:=oT (O.symm.trans U)
       rw [Y]
       rw [if_pos I,sK] at hs
       have aj:=sY (vn f) k l.length b.fv x (bdN k nm ot l.length) (nm,ot,p)
       have ac:=aj.d
       refine fin _ _ _ _ (nV (by simpa using ah)) (ih _ x b (oR ac J) (zNd _ _ _ _ _ _ hs.2 hs.1))
      ·rw [if_neg I] at hs
       exact fin _ _ _ (p.sub f x b) (by rw [nJ (by omega),oF,U];rfl) (ih p x b J hs)
theorem zOj {k:Nat} (h:k<=999):Lib.decDigits k=(if k<10 then [UInt8.ofNat (48+k)] else if k<100 then [UInt8.ofNat (48+k / 10),UInt8.ofNat (48+k % 10)] else [UInt8.ofNat (48+k / 10 / 10),UInt8.ofNat (48+k / 10 % 10),UInt8.ofNat (48+k % 10)]):=by
 have e1:∀ u,u<10->Lib.decDigits u=[UInt8.ofNat (48+u)]:=λu h=>by rw [Lib.decDigits,dif_pos h]
 have J:∀ u,¬u<10->Lib.decDigits u=Lib.decDigits (u / 10)++[UInt8.ofNat (48+u % 10)]:=λu h=>by rw [Lib.decDigits,dif_neg h]
 split
 ·rename_i I;exact e1 k I
 ·rename_i I
  rw [J k I]
  split
  ·rename_i O;rw [e1 _ (by omega)];rfl
  ·rename_i O
   rw [J (k / 10) (by omega),e1 _ (by omega)];rfl
theorem zPK:∀ a:_root_.Fin 10,yb ⟨#[118,UInt8.ofNat (48+a.val)]⟩=true:=by decide +kernel
theorem zNW:∀ a b:_root_.Fin 10,yb ⟨#[118,UInt8.ofNat (48+a.val),UInt8.ofNat (48+b.val)]⟩=true:=by decide +kernel
theorem zNz:∀ a b c:_root_.Fin 10,yb ⟨#[118,UInt8.ofNat (48+a.val),UInt8.ofNat (48+b.val),UInt8.ofNat (48+c.val)]⟩=true:=by decide +kernel
theorem zQK {k:Nat} (h:k<=999):yb (u3 k)=true:=by
 unfold u3
 rw [zOj h]
 split
 ·rename_i I;exact zPK ⟨k,I⟩
 ·split
  ·rename_i I J;exact zNW ⟨k / 10,by omega⟩ ⟨k % 10,by omega⟩
  ·rename_i I J;exact zNz ⟨k / 10 / 10,by omega⟩ ⟨k / 10 % 10,by omega⟩ ⟨k % 10,by omega⟩
theorem zJa {l:List ByteArray} (h:l.length<=998):yb (fresh l)=true:=by
 obtain ⟨k,e,_,I,_,_⟩:=t9 l
 rw [e]
 exact zQK (by omega)
theorem Tm.vc_sz:∀ t:Tm,t.vc<=t.sz:=by
 refine Tm.ind λk nm ot n ty re l J=>?_
 have key:∀ l:List Tm,(∀ t∈l,t.vc<=t.sz)->vq l<=zw l:=by
  intro l
  induction l with
  | nil=>intro _;exact oD _
  | cons t U I=>
    intro h
    have Y:=h t (by simp)
    have h2:=I λx O=>h x (by simp [O])
    simp only [vq,zw];omega
 have:=key l J
 simp only [Tm.vc,Tm.sz]
 split<;>omega
theorem Tm.ok_mk {k:Int} {nm ot:ByteArray} {n:Int} {ty re:Ty} {l:List Tm}:(Tm.mk k nm ot n ty re l).ok=true↔(∀ x∈l,x.ok=true)/\zK k nm ot n ty re=true/\(l.length:Int)=zCx k nm:=by
 simp only [Tm.ok,oI,zKL,nl]
theorem zNU {s:ByteArray} (h:yb s=true):(zEg s).ok=true:=by
 refine Tm.ok_mk.2 ⟨by simp,?_,rfl⟩
 have:(Ty.mk 0 []).valid=false:=by decide +kernel
 simp [zK,qS,this,Ty.zero,Ty.k,Ty.as,inB,x9,h]
/-- the names of a form that binds can be others -/
theorem zNv {k:Int} {nm ot I J:ByteArray} {n:Int} {ty re:Ty} {m:Nat} (hb:¬xW k m<0) (h:zK k nm ot n ty re=true) (U:yb I=true) (Y:k=9->yb J=true/\I≠J) (O:k≠9->J=ot):zK k I J n ty re=true/\(zCx k I=zCx k nm):=by
 have hk:k=6\/k=8\/k=9:=by
  rcases uQ k m with h | ⟨_,_,h | h⟩ | ⟨_,_,h⟩
  ·omega
  ·exact .inl h
  ·exact .inr (.inr h)
  ·exact .inr (.inl h)
 rcases hk with rfl | rfl | rfl
 ·have O:=O (by decide)
  subst O
  refine ⟨?_,rfl⟩
  simp only [zK,x9,oI] at h ⊢
  simp [U] at h ⊢
  exact ⟨h.1,h.2.1,h.2.2.1,h.2.2.2.1,h.2.2.2.2.1,h.2.2.2.2.2.2⟩
 ·have O:=O (by decide)
  subst O
  refine ⟨?_,rfl⟩
  simp only [zK,x9,oI] at h ⊢
  simp [U] at h ⊢
  exact ⟨h.1,h.2.1,h.2.2.1,h.2.2.2.1,h.2.2.2.2.1,h.2.2.2.2.2.2⟩
 ·obtain ⟨h4,h5⟩:=Y rfl
  refine ⟨?_,rfl⟩
  simp only [zK,x9,oI] at h ⊢
  simp [U,h4,h5] at h ⊢
  exact ⟨h.1,h.2.1,h.2.2.1,h.2.2.2.1⟩
theorem zQy {k:Int} {nm ot:ByteArray} {n:Int} {ty re:Ty} {m:Nat} (J:¬xW k m<0) (h:zK k nm ot n ty re=true):yb nm=true/\(k=9->yb ot=true/\nm≠ot):=by
 have I:k=6\/k=8\/k=9:=by
  rcases uQ k m with h | ⟨_,_,h | h⟩ | ⟨_,_,h⟩
  ·omega
  ·exact .inl h
  ·exact .inr (.inr h)
  ·exact .inr (.inl h)
 rcases I with rfl | rfl | rfl
 ·simp only [zK,x9,oI] at h
  refine ⟨?_,λh=>absurd h (by decide)⟩
  simp at h;exact h.2.2.2.2.2.1
 ·simp only [zK,x9,oI] at h
  refine ⟨?_,λh=>absurd h (by decide)⟩
  simp at h;exact h.2.2.2.2.2.1
 ·simp only [zK,x9,oI] at h
  simp at h
  exact ⟨h.2.2.2.2.1,λ_=>⟨h.2.2.2.2.2.1,h.2.2.2.2.2.2⟩⟩
/-- a term in which a small term is put for a name is a term, if it is small -/
theorem zRX:∀ (f:Nat) (e:Tm) (x:ByteArray) (b:Tm),e.dp<=f->e.ok=true->b.ok=true->(e.sub f x b).sz<=400->(e.sub f x b).ok=true
 | 0,e,x,b,h,_,_,_=>absurd (Tm.dp_pos e) (by omega)
 | f + 1, .mk k nm ot n ty re l,x,b,hd,he,hb,hs=>by
   have ih:=zRX f
   obtain ⟨h1,h2,h3⟩:=Tm.ok_mk.1 he
   simp only [Tm.dp] at hd
   have ae:=λy hy=>tU.1 (mb hd) y hy
   simp only [Tm.sub] at hs ⊢
   split
   ·rename_i hk
    rw [if_pos hk] at hs
    split
    ·exact hb
    ·exact he
   ·rename_i hk
    rw [if_neg hk] at hs
    split
    ·rename_i O
     rw [if_pos O] at hs
     refine Tm.ok_mk.2 ⟨λy hy=>?_,h2,by simpa using h3⟩
     obtain ⟨z,hz,rfl⟩:=oS.1 hy
     have:=vO hy
     simp only [Tm.sz] at hs
     exact ih z x b (ae z hz) (h1 z hz) hb (by omega)
    ·rename_i O
     rw [if_neg O] at hs
     obtain ⟨g1,g2⟩:=vL O
     have ai:=zy g1
     have U:=oB ai
     generalize hp:l.getD (xW k l.length).toNat tm0=p at hs ai U ⊢
     have parts:∀ (v:Tm) (s:Nat),v.ok=true->zw ((l.map λt=>Tm.sub f t x b).set (xW k l.length).toNat v)<=400->∀ y∈(l.map λt=>Tm.sub f t x b).set (xW k l.length).toNat v,y.ok=true:=λv s hv hs y hy=>by
      have a6:=vO hy
      rcases nI hy with hy | rfl
      ·obtain ⟨z,hz,rfl⟩:=oS.1 hy
       exact ih z x b (ae z hz) (h1 z hz) hb (by omega)
      ·exact hv
     split
     ·rename_i hc
      rw [if_pos hc] at hs
      simp only [Tm.sz] at hs
      exact Tm.ok_mk.2 ⟨parts _ 0 (h1 p U) (by omega),h2,by simpa using h3⟩
     ·rename_i hc
      rw [if_neg hc] at hs
      have ao:x∉bdN k nm ot l.length:=λh=>hc (.inl h)
      have aq:x∈p.fv:=mU.1 λh=>hc (.inr h)
      have aj:=zSu p (h1 p U)
      have Y:=ae p U
      obtain ⟨n1,n2⟩:=zQy O h2
      have ab:=sY (vn f) k l.length b.fv x (bdN k nm ot l.length) (nm,ot,p)
      have ac:=ab.d
      have au:=vO (oB (nV (l:=l.map λt=>Tm.sub f t x b) (i:=(xW k l.length).toNat) (a:=Tm.sub f (rns (Tm.sub f) k l.length b.fv x (bdN k nm ot l.length) (nm,ot,p)).2.2 x b) (by simpa using g1)))
      simp only [Tm.sz] at hs
      have aw:=zNd (f:=f) k l.length b.fv x (bdN k nm ot l.length) (nm,ot,p) ao aq
      have a7:=zO9 f _ x b (oR ac Y) aw
      have a8:=zGV f (rns (Tm.sub f) k l.length b.fv x (bdN k nm ot l.length) (nm,ot,p)).2.2 x b (ab.v aj)
      have a9:=Tm.fv_len b
      have ba:=Tm.vc_sz b
      have bb:b.fv.length<=400:=by omega
      -- one name
      have r1:∀ (old:ByteArray) (st:ByteArray × ByteArray × Tm),old∈bdN k st.1 st.2.1 l.length->st.2.2.ok=true->st.2.2.dp<=f->(rn1 (Tm.sub f) k l.length b.fv x old st).2.2.sz<=400->yb st.1=true->(k=9->yb st.2.1=true/\st.1≠st.2.1) ->
        (rn1 (Tm.sub f) k l.length b.fv x old st).2.2.ok=true/\yb (rn1 (Tm.sub f) k l.length b.fv x old st).1=true/\(k=9->yb (rn1 (Tm.sub f) k l.length b.fv x old st).2.1=true/\(rn1 (Tm.sub f) k l.length b.fv x old st).1≠(rn1 (Tm.sub f) k l.length b.fv x old st).2.1)/\(k≠9->(rn1 (Tm.sub f) k l.length b.fv x old st).2.1=st.2.1):=λold st ho a1 a2 a3 a4 a5=>by
       have ak:=zEc (b.fv++(st.2.2.fv++([x]++bdN k st.1 st.2.1 l.length)))
       unfold rn1 at a3 ⊢
       split
       ·rename_i hold
        rw [if_pos hold] at a3
        have bc:st.2.2.sz<=400:=by
         split at a3
         ·exact oR (zGV f _ _ _ (zSu _ a1)) a3
         ·exact oR (zGV f _ _ _ (zSu _ a1)) a3
        have bd:=Tm.fv_len st.2.2
        have bg:=Tm.vc_sz st.2.2
        have bh:=zER k st.1 st.2.1 l.length
        have aa:=zJa (l:=b.fv++(st.2.2.fv++([x]++bdN k st.1 st.2.1 l.length))) (by simp only [oL,oJ,oM];omega)
        generalize fresh (b.fv++(st.2.2.fv++([x]++bdN k st.1 st.2.1 l.length)))=w at ak aa a3 ⊢
        have hw:w∉bdN k st.1 st.2.1 l.length:=λh=>ak (by simp [h])
        split
        ·rename_i hq
         rw [if_pos hq] at a3
         refine ⟨ih _ _ _ a2 a1 (zNU aa) a3,aa,λh9=>⟨(a5 h9).1,λJ=>hw ?_⟩,λ_=>rfl⟩
         subst h9
         have h9:l.length=1:=by rcases uQ 9 l.length with h | ⟨_,h,_⟩ | ⟨_,_,h⟩<;>first | exact h | omega
         have J:w=st.2.1:=J
         rw [h9,J];simp [bdN]
        ·rename_i hq
         rw [if_neg hq] at a3
         have h9:k=9:=by
          unfold bdN at ho
          (repeat' split at ho)<;>simp_all
         subst h9
         have ah:l.length=1:=by rcases uQ 9 l.length with h | ⟨_,h,_⟩ | ⟨_,_,h⟩<;>first | exact h | omega
         refine ⟨ih _ _ _ a2 a1 (zNU aa) a3,a4,λ_=>⟨aa,λJ=>hw ?_⟩,λh=>absurd rfl h⟩
         have J:st.1=w:=J
         rw [ah,<-J];simp [bdN]
       ·exact ⟨a1,a4,a5,λ_=>rfl⟩
      have al:∀ (os:List ByteArray) (st:ByteArray × ByteArray × Tm),st.2.2.V->(rns (Tm.sub f) k l.length b.fv x os st).2.2.sz<=400->st.2.2.sz<=400:=λos st hv h=>oR (zNm (λt x y h=>zGV f t x _ h) _ _ _ _ _ _ hv) h
      have fin:(rns (Tm.sub f) k l.length b.fv x (bdN k nm ot l.length) (nm,ot,p)).2.2.ok=true/\yb (rns (Tm.sub f) k l.length b.fv x (bdN k nm ot l.length) (nm,ot,p)).1=true /\
        (k=9->yb (rns (Tm.sub f) k l.length b.fv x (bdN k nm ot l.length) (nm,ot,p)).2.1=true/\(rns (Tm.sub f) k l.length b.fv x (bdN k nm ot l.length) (nm,ot,p)).1≠(rns (Tm.sub f) k l.length b.fv x (bdN k nm ot l.length) (nm,ot,p)).2.1) /\
        (k≠9->(rns (Tm.sub f) k l.length b.fv x (bdN k nm ot l.length) (nm,ot,p)).2.1=ot):=by
       have I:(rns (Tm.sub f) k l.length b.fv x (bdN k nm ot l.length) (nm,ot,p)).2.2.sz<=400:=by omega
       have ax:bdN k nm ot l.length=[nm]\/(k=9/\l.length=1/\bdN k nm ot l.length=[nm,ot]):=by
        rcases uQ k l.length with h | ⟨_,h,h | h⟩ | ⟨_,h,h'⟩
        ·omega
        ·left;subst h;rw [show l.length=1 from ‹_›];simp [bdN]
        ·right;subst h;rw [show l.length=1 from ‹_›];simp [bdN]
        ·left;subst h';rw [h];simp [bdN]
       rcases ax with e | ⟨am,ah,e⟩
       ·rw [e] at I ⊢
        simp only [rns] at I ⊢
        exact r1 nm (nm,ot,p) (by rw [e];simp) (h1 p U) Y I n1 n2
       ·rw [e] at I ⊢
        simp only [rns] at I ⊢
        have q1:=zKY (vn f) k l.length b.fv x nm (nm,ot,p)
        have q2:=al [ot] _ (q1.v aj) (by simpa only [rns] using I)
        obtain ⟨b1,b2,b3,b4⟩:=r1 nm (nm,ot,p) (by rw [e];simp) (h1 p U) Y q2 n1 n2
        have ay:=q1.d
        have az:ot∈bdN k (rn1 (Tm.sub f) k l.length b.fv x nm (nm,ot,p)).1 (rn1 (Tm.sub f) k l.length b.fv x nm (nm,ot,p)).2.1 l.length:=by
         have:(rn1 (Tm.sub f) k l.length b.fv x nm (nm,ot,p)).2.1=ot:=by
          unfold rn1
          simp only [mE]
          split<;>rfl
         rw [this,am,ah];simp [bdN]
        obtain ⟨d1,d2,d3,d4⟩:=r1 ot _ az b1 (oR ay Y) I b2 b3
        exact ⟨d1,d2,d3,λh=>absurd am h⟩
      obtain ⟨fa,a0,fc,fd⟩:=fin
      obtain ⟨u1,u2⟩:=zNv O h2 a0 fc fd
      exact Tm.ok_mk.2 ⟨parts _ 0 (ih _ x b (oR ac Y) fa hb (by omega)) (by omega),u1,by rw [u2];simpa using h3⟩
end Go.Proofs.YtlahkdflngobiaaGreat
