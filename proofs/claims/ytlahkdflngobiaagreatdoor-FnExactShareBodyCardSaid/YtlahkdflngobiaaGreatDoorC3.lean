/- Equal terms. -/
import Derived.Test.YtlahkdflngobiaaGreatDoorB2
import Derived.Test.YtlahkdflngobiaaGreatDoorKc
import Derived.Test.YtlahkdflngobiaaGreatDoorC2
import Derived.Test.YtlahkdflngobiaaGreatDoorB5
import Derived.Test.YtlahkdflngobiaaGreatDoorKu
import Derived.Test.YtlahkdflngobiaaGreatDoorB4
set_option linter.unusedVariables false
set_option linter.unusedSimpArgs false
namespace Go.Proofs.YtlahkdflngobiaaGreatDoor
open Go Go.Proofs Go.Proofs.Tryz Go.IntWalk
mutual
def uc:Tm->Tm->Bool
 | .mk k nm ot n ty re l,.mk k' I J n' O aa l'=>decide (k=k')&&(decide (nm=I)&&(decide (ot=J)&&(decide (n=n')&&(tW ty O&&(tW re aa&&pM l l')))))
def pM:List Tm->List Tm->Bool
 | [],[]=>true
 | x::xs,y::ys=>uc x y&&pM xs ys
 | _,_=>false
end
theorem zFz:∀ {l m:List Tm},(∀ t∈l,∀ u,uc t u=true↔t=u)->(pM l m=true↔l=m)
 | [],[],_=>by simp [pM]
 | [],_::_,_=>by simp [pM]
 | _::_,[],_=>by simp [pM]
 | x::l,y::m,h=>by
   have I:=h x (by simp) y
   have J:=zFz (l:=l) (m:=m) λt O=>h t (by simp [O])
   simp only [pM,oL,I,J,List.cons.injEq]
theorem sH:∀ (t u:Tm),uc t u=true↔t=u:=by
 refine Tm.ind λk nm ot n ty re l I u=>?_
 cases u with
 | mk k' J O n' aa ab l'=>
   have h1:=zFz (m:=l') I
   simp only [uc,oL,nC,ri,h1,Tm.mk.injEq]
theorem zKy (t u:Tm):uc t u=uc u t:=by
 rw [nQ,sH,sH];exact eq_comm
theorem zKT (t:Tm):uc t t=true:=(sH t t).2 rfl
theorem zLH {l m:List Tm} (h:l.length≠m.length):pM l m=false:=by
 cases hc:pM l m with
 | false=>rfl
 | true=>exact absurd (nH List.length ((zFz λt _=>sH t).1 hc)) h
theorem r7:∀ (t u:Tm) (d e:D),t.Is d->u.Is e->vn 22 [.dg 9 d,.dg 9 e] (uc t u):=by
 refine Tm.ind λk nm ot m ty re l ih u d e hd he N Q hQ=>?_
 cases u with
 | mk k' ab ac m' au aw O=>
 obtain ⟨t0,t1,r0,r1,a,es,c,rfl,hh,hlen,ae⟩:=Tm.is_mk.1 hd
 obtain ⟨u0,u1,v0,v1,a',es',c',rfl,ah,aj,aa⟩:=Tm.is_mk.1 he
 have hl:=ae.len
 have ax:=aa.len
 simp only [uc] at hQ
 have key:l.length=O.length->∀ (N':Nat),N<=N'->(∀ N'',N'<=N''->Q (pM l (O.drop 0)) N'')->yr Q N (0:Nat) (.ag [.j k,.t nm,.t ot,.j m,t0,t1,r0,r1,.sl a 9 es c]) (.ag [.j k',.t ab,.t ac,.j m',u0,u1,v0,v1,.sl a' 9 es' c']) N':=by
  intro ay
  refine up ae hlen (λi xs=>∀ (N':Nat),N<=N'->(∀ N'',N'<=N''->Q (pM xs (O.drop i)) N'')->yr Q N i (.ag [.j k,.t nm,.t ot,.j m,t0,t1,r0,r1,.sl a 9 es c]) (.ag [.j k',.t ab,.t ac,.j m',u0,u1,v0,v1,.sl a' 9 es' c']) N') ?_ ?_
  ·intro i ak hi N' al I
   refine sF _ _ _ _ _ _ ?_
   repeat' first|with_reducible intro _|simp only[ak,Y1,Y2,Y3,Y4]|with_reducible refine X ?_ ?_|refine⟨_,_,_,rfl,?_⟩|refine⟨_,rfl,?_⟩|refine And.intro (by first|omega|trivial|(show _=_;rfl)|(with_reducible constructor)<;>first|omega|trivial|rfl) ?_|fail
   refine Qb (I _ (by assumption)) ?_
   rw [mC (by omega)]
   rfl
  ·intro i x xs J _ am N' al I
   have hb:=J.b
   have ai:i<O.length:=by omega
   have hg:O[i]?=some O[i]:=oI ai
   have ao:O.drop i=O[i]::O.drop (i+1):=mF ai
   refine sF _ _ _ _ _ _ ?_
   rw [ao] at I
   repeat' first|with_reducible intro _|simp only[J.lt,J.w,oH,Y1,Y2,Y3,Y4]|with_reducible refine X ?_ ?_|refine⟨_,_,_,rfl,?_⟩|refine⟨_,rfl,?_⟩|refine And.intro (by first|omega|trivial|(show _=_;rfl)|(with_reducible constructor)<;>first|omega|trivial|rfl) ?_|refine (ih x J.m _ _ _ J.r (aa.get hg)) _ _ ?_|fail
   ·exact Qb (I _ (by omega)) (by simp [pM, *])
   ·exact am _ (by omega) λN'' h=>Qb (I N'' (by omega)) (by simp [pM, *])
 refine zEE N _ _ Q λ_ _=>?_
 repeat' first|with_reducible intro _|simp only[Y1,Y2,Y3,Y4]|with_reducible refine X ?_ ?_|refine⟨_,_,_,rfl,?_⟩|refine⟨_,rfl,?_⟩|refine And.intro (by first|omega|trivial|(show _=_;rfl)|(with_reducible constructor)<;>first|omega|trivial|rfl) ?_|refine (xj _ _ _ _ hh.ty ah.ty) _ _ ?_|refine (xj _ _ _ _ hh.re ah.re) _ _ ?_|fail
 all_goals first | exact key (by omega) _ (by omega) λN'' aq=>Qb (hQ _ (by omega)) (by simp [*]) | exact Qb (hQ _ (by omega)) (by rw [zLH (l:=l) (m:=O) (by omega)];simp) | exact Qb (hQ _ (by omega)) (by simp [*])
theorem zDs {l O:List Tm} {es es':List D} (ab:All2 Tm.Is l es) (aa:All2 Tm.Is O es') (hlen:es.length<=4611686018427387904) (ae:es'.length<=4611686018427387904) (a a':Option Addr) (c c':Nat)
  (ih:∀ t∈l,∀ (u:Tm) (d e:D),t.Is d->u.Is e->vn 61 [.dg 9 d,.dg 9 e] (uc t u)):vn 104 [.sv a 9 es c,.sv a' 9 es' c',.fn 61 []] (pM l O):=λN Q hQ=>by
 have hl:=ab.len
 have am:=aa.len
 refine tZ N _ _ _ _ _ _ Q λ_ _=>Br.bne (λh N1 ah=>Qb (hQ _ ah) (zLH (by omega))) λh=>?_
 refine up ab hlen (λi xs=>∀ (N':Nat),N<=N'->(∀ N'',N'<=N''->Q (pM xs (O.drop i)) N'')->yO Q N a' es' c' a es c es.length i N') ?_ ?_ N (oA _) hQ
 ·intro i ai hi N' aj I
  refine wi _ _ _ _ _ _ _ _ _ _ _ ?_
  repeat' first|with_reducible intro _|simp only[ai,Y1,Y2,Y3,Y4]|with_reducible refine X ?_ ?_|refine⟨_,_,_,rfl,?_⟩|refine⟨_,rfl,?_⟩|refine And.intro (by first|omega|trivial|(show _=_;rfl)|(with_reducible constructor)<;>first|omega|trivial|rfl) ?_|fail
  refine Qb (I _ (by assumption)) ?_
  rw [mC (by omega)]
  rfl
 ·intro i x xs J _ ak N' aj I
  have hb:=J.b
  have ac:i<O.length:=by omega
  have hg:O[i]?=some O[i]:=oI ac
  have al:O.drop i=O[i]::O.drop (i+1):=mF ac
  refine wi _ _ _ _ _ _ _ _ _ _ _ ?_
  rw [al] at I
  repeat' first|with_reducible intro _|simp only[J.lt,J.w,oH,Y1,Y2,Y3,Y4]|with_reducible refine X ?_ ?_|refine⟨_,_,_,rfl,?_⟩|refine⟨_,rfl,?_⟩|refine And.intro (by first|omega|trivial|(show _=_;rfl)|(with_reducible constructor)<;>first|omega|trivial|rfl) ?_|refine (ih x J.m _ _ _ J.r (aa.get hg)) _ _ ?_|fail
  ·exact Qb (I _ (by omega)) (by simp [pM, *])
  ·exact ak _ (by omega) λN'' h=>Qb (I N'' (by omega)) (by simp [pM, *])
theorem qM:∀ (t u:Tm) (d e:D),t.Is d->u.Is e->vn 61 [.dg 9 d,.dg 9 e] (uc t u):=by
 refine Tm.ind λk nm ot m ty re l ih u d e hd he N Q hQ=>?_
 cases u with
 | mk k' ab ac m' ae ah l'=>
 obtain ⟨t0,t1,r0,r1,a,es,c,rfl,hh,hlen,aa⟩:=Tm.is_mk.1 hd
 obtain ⟨u0,u1,v0,v1,a',es',c',rfl,J,I,O⟩:=Tm.is_mk.1 he
 simp only [uc] at hQ
 refine zEC N _ _ Q λ_ _=>?_
 repeat' first|with_reducible intro _|simp only[Y1,Y2,Y3,Y4]|with_reducible refine X ?_ ?_|refine⟨_,_,_,rfl,?_⟩|refine⟨_,rfl,?_⟩|refine And.intro (by first|omega|trivial|(show _=_;rfl)|(with_reducible constructor)<;>first|omega|trivial|rfl) ?_|refine (zZ _ _ _ _ hh.ty J.ty) _ _ ?_|refine (zZ _ _ _ _ hh.re J.re) _ _ ?_|refine (zDs aa O hlen I _ _ _ _ ih) _ _ ?_|fail
 all_goals first | exact Qb (hQ _ (by omega)) (by simp [*]) | skip
/-- a part that could be computed once -/
def zDQ (ps ar:List ByteArray):Tm->Bool
 | .mk k nm ot n ty re l=>(decide (k=4)||decide (k=5))&&(decide (3<=(Tm.mk k nm ot n ty re l).sz)&&(Tm.mk k nm ot n ty re l).fv.all λs=>decide (s∈ps)&&!decide (s∈ar))
/-- the names bound around a part -/
def zBC (ar:List ByteArray) (k:Int) (nm:ByteArray) (i:Nat):List ByteArray:=if k=8/\i=1 then ar++[nm] else ar
mutual
def zAN (ps:List ByteArray):List ByteArray->Tm->List Tm
 | ar,.mk k nm ot n ty re l=>(if zDQ ps ar (.mk k nm ot n ty re l)=true then [.mk k nm ot n ty re l] else [])++vq ps ar k nm 0 l
def vq (ps:List ByteArray):List ByteArray->Int->ByteArray->Nat->List Tm->List Tm
 | _,_,_,_,[]=>[]
 | ar,k,nm,i,x::xs=>zAN ps (zBC ar k nm i) x++vq ps ar k nm (i+1) xs
end
theorem zOB {ps ar br:List ByteArray} (h:∀ s,s∈ar↔s∈br) (t:Tm):zDQ ps ar t=zDQ ps br t:=by
 cases t with
 | mk k nm ot n ty re l=>
   simp only [zDQ]
   have:(λs=>decide (s∈ps)&&!decide (s∈ar))=λs=>decide (s∈ps)&&!decide (s∈br):=funext λs=>by simp [h s]
   rw [this]
theorem zNF {ar br:List ByteArray} (h:∀ s,s∈ar↔s∈br) (k:Int) (nm:ByteArray) (i:Nat) (s:ByteArray):s∈zBC ar k nm i↔s∈zBC br k nm i:=by
 unfold zBC
 split
 ·simp [h s]
 ·exact h s
mutual
theorem zHn {ps:List ByteArray}:∀ (t:Tm) {ar br:List ByteArray},(∀ s,s∈ar↔s∈br)->zAN ps ar t=zAN ps br t
 | .mk k nm ot n ty re l,ar,br,h=>by simp only [zAN];rw [zOB h,zFm l k nm 0 h]
theorem zFm {ps:List ByteArray}:∀ (l:List Tm) (k:Int) (nm:ByteArray) (i:Nat) {ar br:List ByteArray},(∀ s,s∈ar↔s∈br)->vq ps ar k nm i l=vq ps br k nm i l
 | [],_,_,_,_,_,_=>by simp only [vq]
 | x::xs,k,nm,i,ar,br,h=>by simp only [vq];rw [zHn x (zNF h k nm i),zFm xs k nm (i+1) h]
end
mutual
theorem zCC (ps:List ByteArray):∀ (t:Tm) (ar:List ByteArray),(zAN ps ar t).length<=t.sz
 | .mk k nm ot n ty re l,ar=>by
   have:=zJl ps l k nm 0 ar
   simp only [zAN,oE,Tm.sz]
   split<;>simp<;>omega
theorem zJl (ps:List ByteArray):∀ (l:List Tm) (k:Int) (nm:ByteArray) (i:Nat) (ar:List ByteArray),(vq ps ar k nm i l).length<=uM l
 | [],_,_,_,_=>by simp [vq]
 | x::xs,k,nm,i,ar=>by
   have I:=zCC ps x (zBC ar k nm i)
   have J:=zJl ps xs k nm (i+1) ar
   simp only [vq,oE,uM]
   omega
end
mutual
theorem p4 (ps:List ByteArray):∀ (t:Tm) (ar:List ByteArray),∀ u∈zAN ps ar t,u.cnt<=t.cnt
 | .mk k nm ot n ty re l,ar=>by
   intro u hu
   have h:=zK1 ps l k nm 0 ar
   simp only [zAN,oF] at hu
   rcases hu with hu | hu
   ·split at hu
    ·simp only [oZ] at hu;subst hu;exact oA _
    ·simp at hu
   ·have:=h u hu
    simp only [Tm.cnt];omega
theorem zK1 (ps:List ByteArray):∀ (l:List Tm) (k:Int) (nm:ByteArray) (i:Nat) (ar:List ByteArray),∀ u∈vq ps ar k nm i l,u.cnt<=zh l
 | [],_,_,_,_=>by simp [vq]
 | x::xs,k,nm,i,ar=>by
   intro u hu
   simp only [vq,oF] at hu
   simp only [zh]
   rcases hu with hu | hu
   ·have:=p4 ps x _ u hu;omega
   ·have:=zK1 ps xs _ _ _ _ u hu;omega
end
/-- terms, handed back -/
def zTM (own:Bool) (f:FuncId) (args:List PV) (l:List Tm):Prop:=∀ (N:Nat) (Q:QT [.sl 9]),(∀ a es c N',N<=N'->All2 Tm.Is l es->(own=true->Own N N' (.sl a 9 es c))->Q a es c N')->ACalls prog f [.sl 9] args N Q
theorem zOJ (l:List ByteArray) (hl:l.length<=2199023255552) (a:Option Addr) (c:Nat):zRH 126 [.sv a 0 (zA l) c] l:=λN Q hQ=>by
 have hlen:=zQ l
 have O:zC [] (zA l) 16:=by unfold zC;simp only [oR];omega
 have I:(a=none->zA l=[])->ACalls prog 126 [.row 9 0] [.sv a 0 (zA l) c] N Q:=λhn=>by
  refine zA5 N a _ c Q λ_=>Br.of (λhi N1 aa=>?_) λhi=>⟨⟨rfl,rfl⟩,O,λc1=>⟨⟨rfl,rfl⟩,λN2 ab=>?_⟩⟩
  ·have:zA l=[]:=hn (by simpa using hi)
   have h0:=hQ 0 N1 aa
   rwa [this] at h0
  ·exact hQ _ _ (by omega)
 cases a with
 | some ad=>exact I (by simp)
 | none=>
   by_cases J:zA l=[]
   ·exact I λ_=>J
   ·exact zR4 (z:=0) (c:=c) (es:=zA l) (by kernel_rfl) (by simp) J
theorem sP:∀ (t:Tm) (d:D),t.Is d->t.cnt<=1073741824->p9 29 [.dg 9 d] t.sz:=by
 refine Tm.ind λk nm ot n0 ty re l ih d hd hc N Q hQ=>?_
 obtain ⟨t0,t1,r0,r1,a,es,c,rfl,hh,hlen,J⟩:=Tm.is_mk.1 hd
 simp only [Tm.cnt] at hc
 have ae:=pE l
 refine zIo N _ Q λ_=>?_
 refine up J hlen (λi xs=>∀ (m:Nat) (N':Nat),N<=N'->m+uM xs=1+uM l->vS Q N m i (.ag [.j k,.t nm,.t ot,.j n0,t0,t1,r0,r1,.sl a 9 es c]) N') ?_ ?_ 1 N (oA _) rfl
 ·intro i O _ m N' aa hm
  refine qa _ _ _ _ _ _ ⟨_,_,_,rfl,?_⟩
  simp only [uM] at hm
  rw [O]
  exact λN2 ab=>Qi (hQ _ (by omega)) (by simp only [Tm.sz];omega)
 ·intro i x xs I _ ac m N' aa hm
  have hb:=I.b
  have ah:=zn I.m
  simp only [uM] at hm
  refine qa _ _ _ _ _ _ ⟨_,_,_,rfl,?_⟩
  rw [I.lt,I.w,oH]
  refine ⟨_,_,_,rfl,⟨by omega,by omega⟩,λN1 ai=>ih x I.m _ I.r (by omega) N1 _ λN2 ab _=>?_⟩
  rw [i64_in _ (by omega)]
  have:=ac (m+x.sz) N2 (by omega) (by omega)
  simpa using this
theorem zLz (s:ByteArray) (ps ar:List ByteArray) (hp:ps.length<=4611686018427387904) (ha:ar.length<=4611686018427387904) (ad I:Addr) (a J:Option Addr) (c O:Nat) :
  vn 125 [.str s,.pd ad 0 (.sl a 0 (zA ps) c),.pd I 0 (.sl J 0 (zA ar) O)] (!(decide (s∈ps)&&!decide (s∈ar))):=λN Q hQ=>by
 refine zA9 N s ad _ I _ Q ⟨_,_,_,rfl,λN1 aa=>xn ps hp a c s N1 _ λN2 ab _=>?_⟩
 rw [zC2]
 refine Br.ndec (λh N3 ac=>Qb (hQ _ (by omega)) (by simp [h])) λh=>⟨_,_,_,rfl,λN4 ae=>xn ar ha J O s N4 _ λN5 ah _ N6 ai=>Qb (hQ _ (by omega)) ?_⟩
 rw [zC2]
 simp [h]
theorem zJ0 (l ps ar:List ByteArray) (hl:l.length<=2199023255552) (hp:ps.length<=4611686018427387904) (ha:ar.length<=4611686018427387904) (b:Option Addr) (cb:Nat) (ad J:Addr) (a a':Option Addr) (c c':Nat) :
  p9 162 [.sv b 0 (zA l) cb,.fn 125 [.pd ad 0 (.sl a 0 (zA ps) c),.pd J 0 (.sl a' 0 (zA ar) c')]] (sd (λs=>!(decide (s∈ps)&&!decide (s∈ar))) l 0):=λN Q hQ=>by
 have hlen:=zQ l
 refine tK N b _ cb ad _ J _ Q λ_=>?_
 refine up (wE l) (by omega) (λi xs=>∀ (N':Nat),N<=N'->(∀ N'',N'<=N''->Q (sd (λs=>!(decide (s∈ps)&&!decide (s∈ar))) xs i) N'')->yJ Q N b (zA l) cb ad (.sl a 0 (zA ps) c) J (.sl a' 0 (zA ar) c') ((zA l).length:Int) i N') ?_ ?_ N (oA _) hQ
 ·intro i aa _ N' ab I
  refine wY _ _ _ _ _ _ _ _ _ _ _ _ ?_
  rw [aa]
  exact λN'' h=>I _ (by omega)
 ·intro i x xs O _ ac N' ab I
  have hb:=O.b
  have hr:=O.r
  simp only [sd] at I
  refine wY _ _ _ _ _ _ _ _ _ _ _ _ ?_
  rw [O.lt,O.w,oH,hr]
  refine ⟨⟨by omega,by omega⟩,x,rfl,λN1 ae=>zLz x ps ar hp ha ad J a a' c c' N1 _ λN2 ah _=>Br.of (λh N3 ai=>Qi (I _ (by omega)) (by rw [if_pos h])) λh=>ac _ (by omega) λN'' h2=>Qi (I _ (by omega)) (by rw [if_neg (by rw [h];simp)];simp)⟩
theorem zKx {t:Tm} {d:D} (hd:t.Is d) (hc:t.cnt<=1073741824) (ps ar:List ByteArray) (hp:ps.length<=4611686018427387904) (ha:ar.length<=4611686018427387904) (a a':Option Addr) (c c':Nat) :
  vn 88 [.sv a 0 (zA ps) c,.sv a' 0 (zA ar) c',.dg 9 d] (zDQ ps ar t):=λN Q hQ=>by
 have ak:=t.vc_cnt
 have al:=t.fv_len
 cases t with
 | mk k nm ot n0 ty re l=>
 have aa:=hd
 obtain ⟨t0,t1,r0,r1,a9,es,c9,rfl,hh,hlen,am⟩:=Tm.is_mk.1 hd
 simp only [zDQ] at hQ
 have rest:∀ (M:Nat),N<=M->(k=4\/k=5)->∀ N2,M<=N2->ACalls prog 65 [.i] [.dg 9 (.ag [.j k,.t nm,.t ot,.j n0,t0,t1,r0,r1,.sl a9 9 es c9])] N2 (λae N3=>N2<=N3->Br (decide (ae<3)) (∀ N4,N3<=N4->Q false N4) (∀ N5,N3<=N5->ACalls prog 124 [.row 9 0] [.dg 9 (.ag [.j k,.t nm,.t ot,.j n0,t0,t1,r0,r1,.sl a9 9 es c9])] N5 (λes J N6=>N5<=N6->Bel N6 (D.ag es)
   -> (es.length=es.length/\J=J)/\∀ b,ApA b es->∀ ad,ApA (Option.some ad) [D.sl a 0 (zA ps) c]->∀ I,ApA (Option.some I) [D.sl a' 0 (zA ar) c']->∀ O,N6
   <= O->ud O [b,Option.some ad,Option.some I]->ACalls prog 123 [.bool] [.sv b 0 es J,.fn 125 [.pd ad 0 (D.sl a 0 (zA ps) c),.pd I 0 (D.sl a' 0 (zA ar) c')]]
   O (λb N8=>O<=N8->∀ N9,N8<=N9->Q (!b) N9)))):=by
  intro M hM hk N2 ao
  have ab:(decide (k=4)||decide (k=5))=true:=by simpa using hk
  refine ur _ _ aa hc N2 _ λN3 aq _=>Br.dec (λh N4 au=>Qb (hQ _ (by omega)) ?_) λh N5 aw=>?_
  ·rw [ab]
   have:¬3<=(Tm.mk k nm ot n0 ty re l).sz:=by omega
   simp [this]
  ·refine zFK _ _ aa (by omega) N5 _ λc1 N6 ax _ _=>⟨⟨rfl,rfl⟩,λb _ ad _ ac _ O ay _=>?_⟩
   refine ua O b _ c1 ad _ ac _ _ λ_ N8 az=>zJ0 _ ps ar (by omega) hp ha b c1 ad ac a a' c c' N8 _ λN9 a6 _ N10 ai _ a7 aj=>Qb (hQ _ (by omega)) ?_
   rw [ab,wP _ _ 0 (by omega)]
   have h3:3<=(Tm.mk k nm ot n0 ty re l).sz:=by omega
   simp only [h3,decide_true,mo,List.not_any_eq_all_not,Bool.not_not]
 refine zGm N a _ c a' _ c' _ Q λ_ _ _=>⟨k,rfl,Br.bne (λh4=>⟨k,rfl,Br.bne (λh5 N1 ah=>Qb (hQ _ ah) (by simp [h4,h5])) λh5=>rest N (oA _) (.inr h5)⟩) λh4=>rest N (oA _) (.inl h4)⟩
theorem zO9 {k:Int} {nm:ByteArray} {I n0 t0 t1 r0 r1 x:D} (ar:List ByteArray) (ha:ar.length<=2199023255552) (i:Nat) (a:Option Addr) (c:Nat) (N:Nat) (Q:QT [.sl 0]) (J:∀ a' c' N',N<=N'->Q a' (zA (zBC ar k nm i)) c' N') :
  ACalls prog 90 [.sl 0] [.sv a 0 (zA ar) c,.dg 9 (.ag [.j k,.t nm,I,n0,t0,t1,r0,r1,x]),.j i] N Q:=by
 have hlen:=zQ ar
 refine zKa N a _ c _ i Q λ_ _=>⟨k,rfl,Br.beq (λO=>Br.beq (λh1=>⟨nm,rfl,λN1 aa=>?_⟩) λh1 N5 ab=>?_) λO N6 ac=>?_⟩
 ·refine zOJ ar ha a c N1 _ λc1 N2 ae _ _=>⟨⟨rfl,rfl⟩,by unfold zC;rw [oE,hlen];simp only [oK,oO];omega,λI=>⟨⟨rfl,rfl⟩,⟨rfl,rfl⟩,λa2 N3 ah _ N4 ai=>?_⟩⟩
  have e:zBC ar k nm i=ar++[nm]:=by unfold zBC;rw [if_pos ⟨O,by omega⟩]
  have:=J a2 I N4 (by omega)
  rw [e,<-xd] at this
  exact this
 ·have e:zBC ar k nm i=ar:=by unfold zBC;rw [if_neg (λh=>h1 (by omega))]
  have:=J a c N5 (by omega)
  rwa [e] at this
 ·have e:zBC ar k nm i=ar:=by unfold zBC;rw [if_neg (λh=>O h.1)]
  have:=J a c N6 (by omega)
  rwa [e] at this
theorem zF7 {N N':Nat} {a:Option Addr} {z c:Nat} {es:List D} (h:Own N N' (.sl a z es c)):OwnL N N' es:=by
 have hs:∀ x∈zB es,x∈(D.sl a z es c).foot:=zEf
 refine ⟨?_,h.fl.2,λb I=>h.lo b (hs b I),λb I=>h.hi b (hs b I)⟩
 have:=h.nd
 cases a with
 | none=>simpa only [D.foot] using this
 | some ad=>
   simp only [D.foot] at this
   split at this
   ·rename_i J
    have:es=[]:=by simpa using J
    subst this
    exact mJ
   ·exact (nG.1 this).2
theorem zOI:∀ (t:Tm) (d:D),t.Is d->t.cnt<=1073741824->∀ (ps ar:List ByteArray),ps.length<=2199023255552->ar.length+t.cnt<=2199023255552->∀ (a a':Option Addr) (c c':Nat),zTM true 59 [.sv a 0 (zA ps) c,.sv a' 0 (zA ar) c',.dg 9 d] (zAN ps ar t):=by
 refine Tm.ind λk nm ot n0 ty re l ih d hd hc ps ar hp ha a a' c c' N Q hQ=>?_
 have ai:=hd
 have ak:=hc
 obtain ⟨t0,t1,r0,r1,a9,es,c9,rfl,hh,hlen,aj⟩:=Tm.is_mk.1 hd
 have hG:=Tm.G_cnt _ hc
 have hl:=aj.len
 have ba:=zCC ps (Tm.mk k nm ot n0 ty re l) ar
 have a7:=sz_cnt (Tm.mk k nm ot n0 ty re l)
 simp only [Tm.cnt] at hc ha
 have key:=up aj hlen (λi xs=>∀ (done:List D) (pre:List Tm) (q N':Nat),N<=N'->All2 Tm.Is pre done->OwnL N N' done->pre++vq ps ar k nm i xs=zAN ps ar (Tm.mk k nm ot n0 ty re l) ->
  xK Q N a (zA ps) c a' (zA ar) c' done.length q a9 es c9 (es.length:Int) i (.ag [.j k,.t nm,.t ot,.j n0,t0,t1,r0,r1,.sl a9 9 es c9]) done q N') ?_ ?_
 ·refine zFc N a _ c a' _ c' _ Q λ_ _ _ N1 al=>zKx ai ak ps ar (by omega) (by omega) a a' c c' N1 _ λN2 am _=>Br.of (λJ N3 ao=>?_) λJ=>⟨_,_,_,rfl,?_⟩
  ·refine zSK _ _ ai hG N3 _ ?_
   intro x4 x5 x6 x7 es' c1 N4 ac aq aa ho _ _
   refine ⟨⟨rfl,rfl⟩,λa1 N5 ae hf=>⟨⟨rfl,rfl⟩,by unfold zC;simp,λc2=>⟨_,_,_,rfl,?_⟩⟩⟩
   have bb:=aa.len
   have au:(Tm.mk k nm ot n0 ty re l).Is (.ag [.j k,.t nm,.t ot,.j n0,x4,x5,x6,x7,.sl a1 9 es' c1]):=Tm.is_mk.2 ⟨_,_,_,_,_,_,_,rfl,aq,by omega,aa⟩
   have hO:OwnL N N5 [.ag [.j k,.t nm,.t ot,.j n0,x4,x5,x6,x7,.sl a1 9 es' c1]]:=by
    have h0:OwnL N N3 ([]++[]):=uv
    exact zK6 (hd:=[]) (r:=[]) (xs:=[x4,x5,x6,x7]) h0 ho hf (by omega) ac ae (by simp [zB]) (qi hf λb hb=>by
     simp only [nB,oR,zB,oF] at hb
     simp only [oJ,nK,mm,exists_eq_or_imp,exists_eq_left,D.foot]
     rcases hb with h | h | h | h | h
     ·exact .inr (.inl h)
     ·exact .inr (.inr (.inl h))
     ·exact .inr (.inr (.inr (.inl h)))
     ·exact .inr (.inr (.inr (.inr (.inl h))))
     ·exact .inl h)
   exact key [_] [Tm.mk k nm ot n0 ty re l] c2 N5 (by omega) ⟨_,_,rfl,au,rfl⟩ hO (by simp only [zAN];rw [if_pos J])
  ·exact key [] [] 0 N2 (by omega) rfl uv (by simp only [zAN];rw [if_neg (by rw [J];simp)])
 ·intro i aw hi done pre q N' ax O ho he
  refine rB _ _ _ _ _ _ _ _ _ _ _ _ _ _ _ _ _ _ _ ?_
  rw [aw]
  simp only [vq,oY] at he
  refine ⟨⟨rfl,rfl⟩,⟨rfl,rfl⟩,⟨rfl,rfl⟩,λa2 N5 ae hf N6 ay=>hQ a2 done q N6 (by omega) (he ▸ O) λ_=>(tf ho hf ae).mono (oA _) ay⟩
 ·intro i x xs I _ az done pre q N' ax O ho he
  have hb:=I.b
  have bc:=zn I.m
  have bd:(zBC ar k nm i).length<=ar.length+1:=by unfold zBC;split<;>simp
  refine rB _ _ _ _ _ _ _ _ _ _ _ _ _ _ _ _ _ _ _ ?_
  rw [I.lt]
  refine ⟨⟨by omega,by omega⟩,λN1 al=>zO9 ar (by omega) i a' c' N1 _ λa2 c2 N2 am _ _ N3 ao=>?_⟩
  rw [oH,I.w]
  refine ih x I.m _ I.r (by omega) ps _ hp (by omega) a a2 c c2 N3 _ λa3 bg c3 N4 ac ab a6 _ _=>?_
  have a8:=ab.len
  have bh:=O.len
  simp only [vq] at he
  have ah:=nH List.length he
  simp only [oE] at ah
  refine ⟨⟨rfl,rfl⟩,by unfold zC;rw [oE];omega,λc4=>?_⟩
  exact az _ (pre++zAN ps (zBC ar k nm i) x) c4 N4 (by omega) (O.app ab) (zm (ho.mono (oA _) (by omega)) (zF7 (a6 rfl)) (by omega) ac) (by rw [o0];exact he)
theorem zUp {n:Int}:decide (n<0)=!decide (n≥0):=by
 by_cases h:n<0
 ·have:¬n≥0:=by omega
  simp [h,this]
 ·have:n≥0:=by omega
  simp [h,this]
theorem zMz (s:ByteArray) (l:List ByteArray):(l.any λx=>decide (x=s))=decide (s∈l):=by
 rw [<-zC2];congr 1;funext x;exact decide_eq_decide.2 eq_comm
theorem zLG {t:Tm} {d:D} (hd:t.Is d) (hc:t.cnt<=1073741824) (ps ar:List ByteArray) (hp:ps.length<=4611686018427387904) (ha:ar.length<=4611686018427387904) (a O:Option Addr) (c c':Nat) :
  vn 80 [.dg 9 d,.sv a 0 (zA ps) c,.sv O 0 (zA ar) c'] (t.fv.all λs=>decide (s∈ps)&&!decide (s∈ar)):=λN Q hQ=>by
 have ai:=t.vc_cnt
 have aj:=t.fv_len
 refine zGR N _ a _ c O _ c' Q λ_ _ _ N1 aa=>qq _ _ hd (by omega) N1 _ λa1 c1 N2 ak _ _ _=>?_
 have hlen:=zQ t.fv
 refine up (wE t.fv) (by omega) (λi xs=>∀ (N':Nat),N<=N'->(∀ N'',N'<=N''->Q (xs.all λs=>decide (s∈ps)&&!decide (s∈ar)) N'')->wz Q N a (zA ps) c O (zA ar) c' a1 (zA t.fv) c1 i N') ?_ ?_ N2 (by omega) (λN'' h=>hQ N'' (by omega))
 ·intro i ab _ N' ac I
  refine qC _ _ _ _ _ _ _ _ _ _ _ _ _ ?_
  rw [ab]
  exact λN'' h=>I _ (by omega)
 ·intro i x xs J _ ae N' ac I
  have hb:=J.b
  have hr:=J.r
  simp only [List.all_cons] at I
  refine qC _ _ _ _ _ _ _ _ _ _ _ _ _ ?_
  rw [J.lt,J.w,oH,hr]
  refine ⟨⟨by omega,by omega⟩,x,rfl,λN1 aa=>xl ar ha O c' x N1 _ λN3 al _=>?_⟩
  rw [wP _ _ 0 (by omega),zMz]
  refine Br.dec (λh N4 ah=>Qb (I _ (by omega)) (by simp [h])) λh=>⟨⟨by omega,by omega⟩,x,rfl,λN4 ah=>xl ps hp a c x N4 _ λN5 am _=>?_⟩
  rw [zUp,wP _ _ 0 (by omega),zMz]
  refine Br.ndec (λh2 N6 ao=>Qb (I _ (by omega)) (by simp [h2])) λh2=>ae _ (by omega) λN'' h3=>Qb (I N'' (by omega)) (by simp [h,h2])
def zB8 (ar:List ByteArray) (k:Int) (nm:ByteArray) (i:Nat):List ByteArray:=if k=8/\i=1 then sf ar [nm] else ar
theorem zKb {ar:List ByteArray} {k:Int} {nm:ByteArray} {i:Nat} (s:ByteArray):s∈zB8 ar k nm i↔s∈zBC ar k nm i:=by
 unfold zB8 zBC
 split
 ·rw [zJs,oF]
 ·rfl
theorem zHt {k:Int} {nm:ByteArray} {c2 n0 t0 t1 r0 r1 x:D} (ar:List ByteArray) (ha:ar.length<=2199023255552) (i:Nat) (a:Option Addr) (c:Nat) (N:Nat) (Q:QT [.sl 0]) (I:∀ a' c' N',N<=N'->Q a' (zA (zB8 ar k nm i)) c' N') :
  ACalls prog 83 [.sl 0] [.dg 9 (.ag [.j k,.t nm,c2,n0,t0,t1,r0,r1,x]),.j i,.sv a 0 (zA ar) c] N Q:=by
 refine zFf N _ i a _ c Q λ_ _=>⟨k,rfl,Br.beq (λJ=>Br.beq (λO=>⟨nm,rfl,⟨rfl,rfl⟩,λb _ _ N1 aa _=>?_⟩) λO N5 ab=>?_) λJ N6 ac=>?_⟩
 ·refine wS ar [nm] ha (by simp) a b c 1 N1 _ λc3 N2 ae _=>⟨rF _,λ_=>⟨⟨rfl,rfl⟩,⟨rfl,rfl⟩,λa2 N3 ah _ N4 ai=>?_⟩⟩
  have e:zB8 ar k nm i=sf ar [nm]:=by unfold zB8;rw [if_pos ⟨J,by omega⟩]
  have:=I a2 c3 N4 (by omega)
  rwa [e] at this
 ·have e:zB8 ar k nm i=ar:=by unfold zB8;rw [if_neg (λh=>O (by omega))]
  have:=I a c N5 (by omega)
  rwa [e] at this
 ·have e:zB8 ar k nm i=ar:=by unfold zB8;rw [if_neg (λh=>J h.1)]
  have:=I a c N6 (by omega)
  rwa [e] at this
/-- terms, handed back: parts of what is given, in a row made anew -/
def zUl (f:FuncId) (args:List PV) (l:List Tm) (d:D):Prop:=∀ (N:Nat) (Q:QT [.sl 9]),(∀ a es c N',N<=N'->All2 Tm.Is l es->(∀ x∈(D.sl a 9 es c).foot,x∈d.foot\/N<=x)->Q a es c N')->ACalls prog f [.sl 9] args N Q
theorem zNo:∀ (t:Tm) (d:D),t.Is d->t.cnt<=1073741824->∀ (ps ar:List ByteArray),ps.length<=2199023255552->ar.length+t.cnt<=2199023255552->∀ (a a':Option Addr) (c c':Nat),zUl 70 [.dg 9 d,.sv a 0 (zA ps) c,.sv a' 0 (zA ar) c'] (zAN ps ar t) d:=by
 refine Tm.ind fun k nm ot n0 ty re l ih d hd hc ps ar hp ha a a' c c' N Q hQ=>?_
 have hd0:=hd
 have hc0:=hc
 obtain ⟨t0,t1,r0,r1,a9,es,c9,rfl,hh,hlen,hes⟩:=Tm.is_mk.1 hd
 have hl:=hes.len
 have hpl:=zCC ps (Tm.mk k nm ot n0 ty re l) ar
 have hszc:=sz_cnt (Tm.mk k nm ot n0 ty re l)
 simp only [Tm.cnt] at hc ha
 have key:=up hes hlen (fun i xs=>∀ (done:List D) (pre:List Tm) (q N':Nat),N<=N'->All2 Tm.Is pre done->(∀ x∈zB done,x∈(D.ag [.j k,.t nm,.t ot,.j n0,t0,t1,r0,r1,.sl a9 9 es c9]).foot\/N<=x)->pre++vq ps ar k nm i xs=zAN ps ar (Tm.mk k nm ot n0 ty re l) ->
  zJ Q N a (zA ps) c a' (zA ar) c' done.length q i (.ag [.j k,.t nm,.t ot,.j n0,t0,t1,r0,r1,.sl a9 9 es c9]) done q N') ?_ ?_
 ·have none_:∀ N',N<=N'->zDQ ps ar (Tm.mk k nm ot n0 ty re l)=false->zJ Q N a (zA ps) c a' (zA ar) c' 0 0 0 (.ag [.j k,.t nm,.t ot,.j n0,t0,t1,r0,r1,.sl a9 9 es c9]) [] 0 N':=fun N' hN' h=>key [] [] 0 N' hN' rfl (by simp [zB]) (by simp only [zAN];rw [if_neg (by rw [h];simp)])
  have rest:∀ (M:Nat),N<=M->(k=4\/k=5)->∀ N1,M<=N1->ACalls prog 29 [.i] [.dg 9 (.ag [.j k,.t nm,.t ot,.j n0,t0,t1,r0,r1,.sl a9 9 es c9])] N1 (fun n_1 N2=>N1<=N2->Br (decide (n_1≥3)) (∀ N3,N2<=N3->ACalls prog 80 [.bool] [.dg 9 (.ag [.j k,.t nm,.t ot,.j n0,t0,t1,r0,r1,.sl a9 9 es c9]),.sv a 0 (zA ps) c,.sv a' 0 (zA ar) c'] N3
    (fun b N4=>N3<=N4->Br b ((0=0/\0=0)/\zC [] [.ag [.j k,.t nm,.t ot,.j n0,t0,t1,r0,r1,.sl a9 9 es c9]] 136/\∀ (q:Nat),zJ Q N a (zA ps) c a' (zA ar) c' ([]++[D.ag [.j k,.t nm,.t ot,.j n0,t0,t1,r0,r1,.sl a9 9 es c9]]).length q 0 (.ag [.j k,.t nm,.t ot,.j n0,t0,t1,r0,r1,.sl a9 9 es c9]) ([]++[D.ag [.j k,.t nm,.t ot,.j n0,t0,t1,r0,r1,.sl a9 9 es c9]])
     q N4) (zJ Q N a (zA ps) c a' (zA ar) c' 0 0 0 (.ag [.j k,.t nm,.t ot,.j n0,t0,t1,r0,r1,.sl a9 9 es c9]) [] 0 N4))) (zJ Q N a (zA ps) c a' (zA ar) c' 0 0 0 (.ag [.j k,.t nm,.t ot,.j n0,t0,t1,r0,r1,.sl a9 9 es c9]) [] 0 N2)):=by
   intro M hM hk N1 hN1
   have hkk:(decide (k=4)||decide (k=5))=true:=by simpa using hk
   refine sP _ _ hd0 hc0 N1 _ fun N2 hN2 _=>Br.dec (fun h N3 hN3=>?_) fun h=>none_ N2 (by omega) ?_
   ·have h3:3<=(Tm.mk k nm ot n0 ty re l).sz:=by omega
    refine zLG hd0 hc0 ps ar (by omega) (by omega) a a' c c' N3 _ fun N4 hN4 _=>Br.of (fun hf=>⟨⟨rfl,rfl⟩,by unfold zC;simp,fun q=>?_⟩) fun hf=>none_ N4 (by omega) ?_
    ·exact key [_] [Tm.mk k nm ot n0 ty re l] q N4 (by omega) ⟨_,_,rfl,hd0,rfl⟩ (fun x hx=>.inl (by simpa [zB] using hx)) (by simp only [zAN];rw [if_pos (by simp only [zDQ,hkk,h3,hf,decide_true,mo])])
    ·simp only [zDQ,hkk,h3,hf,decide_true,mo]
   ·have h3:¬3<=(Tm.mk k nm ot n0 ty re l).sz:=by omega
    simp [zDQ,h3]
  refine zGC N _ a _ c a' _ c' Q fun _ _ _=>⟨k,rfl,Br.beq (fun h4=>rest N (oA _) (.inl h4)) fun h4=>⟨k,rfl,Br.beq (fun h5=>rest N (oA _) (.inr h5)) fun h5=>none_ N (oA _) (by simp [zDQ,h4,h5])⟩⟩
 ·intro i hlt hi done pre q N' hN' hdn hft he
  refine sZ _ _ _ _ _ _ _ _ _ _ _ _ _ _ _ ⟨_,_,_,rfl,?_⟩
  rw [hlt]
  simp only [vq,oY] at he
  refine ⟨⟨rfl,rfl⟩,⟨rfl,rfl⟩,⟨rfl,rfl⟩,fun a2 N5 hN5 hf N6 hN6=>hQ a2 done q N6 (by omega) (he ▸ hdn) fun x hx=>by
   rcases w8 x hx with hx | ⟨ad,h1,rfl⟩
   ·exact hft x hx
   ·exact .inr (hf.lo ad h1)⟩
 ·intro i x xs hat _ ih2 done pre q N' hN' hdn hft he
  have hb:=hat.b
  have hxc:=zn hat.m
  have hil:(zB8 ar k nm i).length<=ar.length+1:=by
   unfold zB8
   split
   ·have:=uR ar [nm];simpa using this
   ·omega
  refine sZ _ _ _ _ _ _ _ _ _ _ _ _ _ _ _ ⟨_,_,_,rfl,?_⟩
  rw [hat.lt]
  refine ⟨_,_,_,rfl,⟨by omega,by omega⟩,fun N1 hN1=>zHt ar (by omega) i a' c' N1 _ fun a2 c2 N2 hN2 _ _ N3 hN3=>?_⟩
  rw [oH,hat.w]
  refine ih x hat.m _ hat.r (by omega) ps _ hp (by omega) a a2 c c2 N3 _ fun a3 es3 c3 N4 hN4 hes3 hf3 _ _=>?_
  have hel3:=hes3.len
  have hdl:=hdn.len
  simp only [vq] at he
  rw [<-zHn x (fun s=>zKb s)] at he
  have hlens:=nH List.length he
  simp only [oE] at hlens
  refine ⟨⟨rfl,rfl⟩,by unfold zC;rw [oE];omega,fun c4=>?_⟩
  exact ih2 _ (pre++zAN ps (zB8 ar k nm i) x) c4 N4 (by omega) (hdn.app hes3) (fun x hx=>by
   rw [zE] at hx
   rcases oF.1 hx with hx | hx
   ·exact hft x hx
   ·rcases hf3 x (zEf x hx) with h | h
    ·refine .inl ?_
     have hmem:es.getD i default∈es:=by
      have hlt2:i<es.length:=by omega
      rw [oB,oI hlt2]
      exact mN hlt2
     have h5:x∈zB es:=zF.2 ⟨_,hmem,h⟩
     have h6:x∈(D.sl a9 9 es c9).foot:=zEf x h5
     exact zF.2 ⟨_,by simp,h6⟩
    ·exact .inr (by omega)) (by rw [o0];exact he)
theorem zHm {g:List Pm} {es:List D} (h:Pms g es) (hg:g.length<=1073741824) (a:Option Addr) (c:Nat) (N:Nat) (Q:QT [.sl 0])
  (hQ:∀ a' c' N',N<=N'->Q a' (zA (zq g)) c' N'):ACalls prog 37 [.sl 0] [.sv a 4 es c] N Q:=by
 have hl:=h.all.len
 refine zEp N a es c Q λ_=>?_
 have key:=up h.all h.len (λi xs=>∀ (q:Nat) (N':Nat),N<=N'->wQ Q N a es c (zA ((zq g).take i)).length q i (zA ((zq g).take i)) q N') ?_ ?_
 ·exact key 0 N (oA _)
 ·intro i aa hi q N' J
  refine sg _ _ _ _ _ _ _ _ _ _ _ ?_
  rw [oi (by rw [tI];omega)]
  repeat' first|with_reducible intro _|simp only[aa,Y1,Y2,Y3,Y4]|with_reducible refine X ?_ ?_|refine⟨_,_,_,rfl,?_⟩|refine⟨_,rfl,?_⟩|refine And.intro (by first|omega|trivial|(show _=_;rfl)|(with_reducible constructor)<;>first|omega|trivial|rfl) ?_|fail
  exact hQ _ _ _ (by omega)
 ·intro i x xs I _ ab q N' J
  have hb:=I.b
  have hm:=I.m
  obtain ⟨t0,t1,ac,ae,ah⟩:=I.r
  refine sg _ _ _ _ _ _ _ _ _ _ _ ?_
  have O:(zq g)[i]?=some x.nm:=by rw [zq,oG,I.g];rfl
  rw [I.lt,I.w,oH,ac]
  refine ⟨⟨by omega,by omega⟩,_,rfl,⟨rfl,rfl⟩,by unfold zC;rw [oE,zQ,o8];simp only [oK,oO];omega,λc1=>?_⟩
  rw [xd,<-xo O]
  exact ab _ _ J
end Go.Proofs.YtlahkdflngobiaaGreatDoor
