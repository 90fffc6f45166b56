/- Equal terms. -/
import Derived.Test.YtlahkdflngobiaaGreatDoorB2
import Derived.Test.YtlahkdflngobiaaGreatDoorKc
import Derived.Test.YtlahkdflngobiaaGreatDoorC2
import Derived.Test.YtlahkdflngobiaaGreatDoorB5
import Derived.Test.YtlahkdflngobiaaGreatDoorKu
import Derived.Test.YtlahkdflngobiaaGreatDoorB4
set_option linter.unusedVariables false
set_option linter.unusedSimpArgs false
namespace Go.Proofs.YtlahkdflngobiaaGreatDoor
open Go Go.Proofs Go.Proofs.Tryz Go.IntWalk
mutual
def u3:Tm->Tm->Bool
 | .mk k nm ot n ty re l,.mk k' I J n' O aa l'=>decide (k=k')&&(decide (nm=I)&&(decide (ot=J)&&(decide (n=n')&&(sn ty O&&(sn re aa&&pi l l')))))
def pi:List Tm->List Tm->Bool
 | [],[]=>true
 | x::xs,y::ys=>u3 x y&&pi xs ys
 | _,_=>false
end
theorem zGF:∀ {l m:List Tm},(∀ t∈l,∀ u,u3 t u=true↔t=u)->(pi l m=true↔l=m)
 | [],[],_=>by simp [pi]
 | [],_::_,_=>by simp [pi]
 | _::_,[],_=>by simp [pi]
 | x::l,y::m,h=>by
   have I:=h x (by simp) y
   have J:=zGF (l:=l) (m:=m) λt O=>h t (by simp [O])
   simp only [pi,oL,I,J,List.cons.injEq]
theorem tJ:∀ (t u:Tm),u3 t u=true↔t=u:=by
 refine Tm.ind λk nm ot n ty re l I u=>?_
 cases u with
 | mk k' J O n' aa ab l'=>
   have h1:=zGF (m:=l') I
   simp only [u3,oL,nD,rx,h1,Tm.mk.injEq]
theorem zLD (t u:Tm):u3 t u=u3 u t:=by
 rw [nP,tJ,tJ];exact eq_comm
theorem pL (t:Tm):u3 t t=true:=(tJ t t).2 rfl
theorem zLV {l m:List Tm} (h:l.length≠m.length):pi l m=false:=by
 cases hc:pi l m with
 | false=>rfl
 | true=>exact absurd (nL List.length ((zGF λt _=>tJ t).1 hc)) h
theorem xj:∀ (t u:Tm) (d e:D),t.Is d->u.Is e->uN 22 [.dg 9 d,.dg 9 e] (u3 t u):=by
 refine Tm.ind λk nm ot m ty re l ih u d e hd he N Q hQ=>?_
 cases u with
 | mk k' ab ac m' aw ax O=>
 obtain ⟨t0,t1,r0,r1,a,es,c,rfl,hh,hlen,ae⟩:=Tm.is_mk.1 hd
 obtain ⟨u0,u1,v0,v1,a',ah,c',rfl,ai,ak,aa⟩:=Tm.is_mk.1 he
 have hl:=ae.len
 have ay:=aa.len
 simp only [u3] at hQ
 have key:l.length=O.length->∀ (N':Nat),N<=N'->(∀ N'',N'<=N''->Q (pi l (O.drop 0)) N'')->yu Q N (0:Nat) (.ag [.j k,.t nm,.t ot,.j m,t0,t1,r0,r1,.sl a 9 es c]) (.ag [.j k',.t ab,.t ac,.j m',u0,u1,v0,v1,.sl a' 9 ah c']) N':=by
  intro az
  refine up ae hlen (λi xs=>∀ (N':Nat),N<=N'->(∀ N'',N'<=N''->Q (pi xs (O.drop i)) N'')->yu Q N i (.ag [.j k,.t nm,.t ot,.j m,t0,t1,r0,r1,.sl a 9 es c]) (.ag [.j k',.t ab,.t ac,.j m',u0,u1,v0,v1,.sl a' 9 ah c']) N') ?_ ?_
  ·intro i al hi N' am I
   refine sX _ _ _ _ _ _ ?_
   repeat' first|with_reducible intro _|simp only[al,Y1,Y2,Y3,Y4]|with_reducible refine X ?_ ?_|refine⟨_,_,_,rfl,?_⟩|refine⟨_,rfl,?_⟩|refine And.intro (by first|omega|trivial|(show _=_;rfl)|(with_reducible constructor)<;>first|omega|trivial|rfl) ?_|fail
   refine Qb (I _ (by assumption)) ?_
   rw [mA (by omega)]
   rfl
  ·intro i x xs J _ ao N' am I
   have hb:=J.b
   have aj:i<O.length:=by omega
   have hg:O[i]?=some O[i]:=oF aj
   have aq:O.drop i=O[i]::O.drop (i+1):=mG aj
   refine sX _ _ _ _ _ _ ?_
   rw [aq] at I
   repeat' first|with_reducible intro _|simp only[J.lt,J.w,oK,Y1,Y2,Y3,Y4]|with_reducible refine X ?_ ?_|refine⟨_,_,_,rfl,?_⟩|refine⟨_,rfl,?_⟩|refine And.intro (by first|omega|trivial|(show _=_;rfl)|(with_reducible constructor)<;>first|omega|trivial|rfl) ?_|refine (ih x J.m _ _ _ J.r (aa.get hg)) _ _ ?_|fail
   ·exact Qb (I _ (by omega)) (by simp [pi, *])
   ·exact ao _ (by omega) λN'' h=>Qb (I N'' (by omega)) (by simp [pi, *])
 refine zEe N _ _ Q λ_ _=>?_
 repeat' first|with_reducible intro _|simp only[Y1,Y2,Y3,Y4]|with_reducible refine X ?_ ?_|refine⟨_,_,_,rfl,?_⟩|refine⟨_,rfl,?_⟩|refine And.intro (by first|omega|trivial|(show _=_;rfl)|(with_reducible constructor)<;>first|omega|trivial|rfl) ?_|refine (yo _ _ _ _ hh.ty ai.ty) _ _ ?_|refine (yo _ _ _ _ hh.re ai.re) _ _ ?_|fail
 all_goals first | exact key (by omega) _ (by omega) λN'' au=>Qb (hQ _ (by omega)) (by simp [*]) | exact Qb (hQ _ (by omega)) (by rw [zLV (l:=l) (m:=O) (by omega)];simp) | exact Qb (hQ _ (by omega)) (by simp [*])
theorem zEI {l O:List Tm} {es aa:List D} (ac:All2 Tm.Is l es) (ab:All2 Tm.Is O aa) (hlen:es.length<=4611686018427387904) (ah:aa.length<=4611686018427387904) (a a':Option Addr) (c c':Nat)
  (ih:∀ t∈l,∀ (u:Tm) (d e:D),t.Is d->u.Is e->uN 61 [.dg 9 d,.dg 9 e] (u3 t u)):uN 104 [.sv a 9 es c,.sv a' 9 aa c',.fn 61 []] (pi l O):=λN Q hQ=>by
 have hl:=ac.len
 have ao:=ab.len
 refine t8 N _ _ _ _ _ _ Q λ_ _=>Br.bne (λh N1 ai=>Qb (hQ _ ai) (zLV (by omega))) λh=>?_
 refine up ac hlen (λi xs=>∀ (N':Nat),N<=N'->(∀ N'',N'<=N''->Q (pi xs (O.drop i)) N'')->yN Q N a' aa c' a es c es.length i N') ?_ ?_ N (oB _) hQ
 ·intro i aj hi N' ak I
  refine wt _ _ _ _ _ _ _ _ _ _ _ ?_
  repeat' first|with_reducible intro _|simp only[aj,Y1,Y2,Y3,Y4]|with_reducible refine X ?_ ?_|refine⟨_,_,_,rfl,?_⟩|refine⟨_,rfl,?_⟩|refine And.intro (by first|omega|trivial|(show _=_;rfl)|(with_reducible constructor)<;>first|omega|trivial|rfl) ?_|fail
  refine Qb (I _ (by assumption)) ?_
  rw [mA (by omega)]
  rfl
 ·intro i x xs J _ al N' ak I
  have hb:=J.b
  have ae:i<O.length:=by omega
  have hg:O[i]?=some O[i]:=oF ae
  have am:O.drop i=O[i]::O.drop (i+1):=mG ae
  refine wt _ _ _ _ _ _ _ _ _ _ _ ?_
  rw [am] at I
  repeat' first|with_reducible intro _|simp only[J.lt,J.w,oK,Y1,Y2,Y3,Y4]|with_reducible refine X ?_ ?_|refine⟨_,_,_,rfl,?_⟩|refine⟨_,rfl,?_⟩|refine And.intro (by first|omega|trivial|(show _=_;rfl)|(with_reducible constructor)<;>first|omega|trivial|rfl) ?_|refine (ih x J.m _ _ _ J.r (ab.get hg)) _ _ ?_|fail
  ·exact Qb (I _ (by omega)) (by simp [pi, *])
  ·exact al _ (by omega) λN'' h=>Qb (I N'' (by omega)) (by simp [pi, *])
theorem qV:∀ (t u:Tm) (d e:D),t.Is d->u.Is e->uN 61 [.dg 9 d,.dg 9 e] (u3 t u):=by
 refine Tm.ind λk nm ot m ty re l ih u d e hd he N Q hQ=>?_
 cases u with
 | mk k' ab ac m' ae ah l'=>
 obtain ⟨t0,t1,r0,r1,a,es,c,rfl,hh,hlen,aa⟩:=Tm.is_mk.1 hd
 obtain ⟨u0,u1,v0,v1,a',ai,c',rfl,J,I,O⟩:=Tm.is_mk.1 he
 simp only [u3] at hQ
 refine zEb N _ _ Q λ_ _=>?_
 repeat' first|with_reducible intro _|simp only[Y1,Y2,Y3,Y4]|with_reducible refine X ?_ ?_|refine⟨_,_,_,rfl,?_⟩|refine⟨_,rfl,?_⟩|refine And.intro (by first|omega|trivial|(show _=_;rfl)|(with_reducible constructor)<;>first|omega|trivial|rfl) ?_|refine (zY _ _ _ _ hh.ty J.ty) _ _ ?_|refine (zY _ _ _ _ hh.re J.re) _ _ ?_|refine (zEI aa O hlen I _ _ _ _ ih) _ _ ?_|fail
 all_goals first | exact Qb (hQ _ (by omega)) (by simp [*]) | skip
/-- a part that could be computed once -/
def zDm (ps ar:List ByteArray):Tm->Bool
 | .mk k nm ot n ty re l=>(decide (k=4)||decide (k=5))&&(decide (3<=(Tm.mk k nm ot n ty re l).sz)&&(Tm.mk k nm ot n ty re l).fv.all λs=>decide (s∈ps)&&!decide (s∈ar))
/-- the names bound around a part -/
def qE (ar:List ByteArray) (k:Int) (nm:ByteArray) (i:Nat):List ByteArray:=if k=8/\i=1 then ar++[nm] else ar
mutual
def qf (ps:List ByteArray):List ByteArray->Tm->List Tm
 | ar,.mk k nm ot n ty re l=>(if zDm ps ar (.mk k nm ot n ty re l)=true then [.mk k nm ot n ty re l] else [])++vJ ps ar k nm 0 l
def vJ (ps:List ByteArray):List ByteArray->Int->ByteArray->Nat->List Tm->List Tm
 | _,_,_,_,[]=>[]
 | ar,k,nm,i,x::xs=>qf ps (qE ar k nm i) x++vJ ps ar k nm (i+1) xs
end
theorem zOY {ps ar br:List ByteArray} (h:∀ s,s∈ar↔s∈br) (t:Tm):zDm ps ar t=zDm ps br t:=by
 cases t with
 | mk k nm ot n ty re l=>
   simp only [zDm]
   have:(λs=>decide (s∈ps)&&!decide (s∈ar))=λs=>decide (s∈ps)&&!decide (s∈br):=funext λs=>by simp [h s]
   rw [this]
theorem zNf {ar br:List ByteArray} (h:∀ s,s∈ar↔s∈br) (k:Int) (nm:ByteArray) (i:Nat) (s:ByteArray):s∈qE ar k nm i↔s∈qE br k nm i:=by
 unfold qE
 split
 ·simp [h s]
 ·exact h s
mutual
theorem zHw {ps:List ByteArray}:∀ (t:Tm) {ar br:List ByteArray},(∀ s,s∈ar↔s∈br)->qf ps ar t=qf ps br t
 | .mk k nm ot n ty re l,ar,br,h=>by simp only [qf];rw [zOY h,zF2 l k nm 0 h]
theorem zF2 {ps:List ByteArray}:∀ (l:List Tm) (k:Int) (nm:ByteArray) (i:Nat) {ar br:List ByteArray},(∀ s,s∈ar↔s∈br)->vJ ps ar k nm i l=vJ ps br k nm i l
 | [],_,_,_,_,_,_=>by simp only [vJ]
 | x::xs,k,nm,i,ar,br,h=>by simp only [vJ];rw [zHw x (zNf h k nm i),zF2 xs k nm (i+1) h]
end
mutual
theorem zAR (ps:List ByteArray):∀ (t:Tm) (ar:List ByteArray),(qf ps ar t).length<=t.sz
 | .mk k nm ot n ty re l,ar=>by
   have:=zJz ps l k nm 0 ar
   simp only [qf,oE,Tm.sz]
   split<;>simp<;>omega
theorem zJz (ps:List ByteArray):∀ (l:List Tm) (k:Int) (nm:ByteArray) (i:Nat) (ar:List ByteArray),(vJ ps ar k nm i l).length<=ui l
 | [],_,_,_,_=>by simp [vJ]
 | x::xs,k,nm,i,ar=>by
   have I:=zAR ps x (qE ar k nm i)
   have J:=zJz ps xs k nm (i+1) ar
   simp only [vJ,oE,ui]
   omega
end
mutual
theorem zAK (ps:List ByteArray):∀ (t:Tm) (ar:List ByteArray),∀ u∈qf ps ar t,u.cnt<=t.cnt
 | .mk k nm ot n ty re l,ar=>by
   intro u hu
   have h:=zLG ps l k nm 0 ar
   simp only [qf,oG] at hu
   rcases hu with hu | hu
   ·split at hu
    ·simp only [oR] at hu;subst hu;exact oB _
    ·simp at hu
   ·have:=h u hu
    simp only [Tm.cnt];omega
theorem zLG (ps:List ByteArray):∀ (l:List Tm) (k:Int) (nm:ByteArray) (i:Nat) (ar:List ByteArray),∀ u∈vJ ps ar k nm i l,u.cnt<=za l
 | [],_,_,_,_=>by simp [vJ]
 | x::xs,k,nm,i,ar=>by
   intro u hu
   simp only [vJ,oG] at hu
   simp only [za]
   rcases hu with hu | hu
   ·have:=zAK ps x _ u hu;omega
   ·have:=zLG ps xs _ _ _ _ u hu;omega
end
/-- terms, handed back -/
def zTz (own:Bool) (f:FuncId) (args:List PV) (l:List Tm):Prop:=∀ (N:Nat) (Q:QT [.sl 9]),(∀ a es c N',N<=N'->All2 Tm.Is l es->(own=true->Own N N' (.sl a 9 es c))->Q a es c N')->ACalls prog f [.sl 9] args N Q
theorem zOh (l:List ByteArray) (hl:l.length<=2199023255552) (a:Option Addr) (c:Nat):zRm 126 [.sv a 0 (zA l) c] l:=λN Q hQ=>by
 have hlen:=zO l
 have O:zB [] (zA l) 16:=by unfold zB;simp only [oW];omega
 have I:(a=none->zA l=[])->ACalls prog 126 [.row 9 0] [.sv a 0 (zA l) c] N Q:=λhn=>by
  refine zBR N a _ c Q λ_=>Br.of (λhi N1 aa=>?_) λhi=>⟨⟨rfl,rfl⟩,O,λc1=>⟨⟨rfl,rfl⟩,λN2 ab=>?_⟩⟩
  ·have:zA l=[]:=hn (by simpa using hi)
   have h0:=hQ 0 N1 aa
   rwa [this] at h0
  ·exact hQ _ _ (by omega)
 cases a with
 | some ad=>exact I (by simp)
 | none=>
   by_cases J:zA l=[]
   ·exact I λ_=>J
   ·exact zSf (z:=0) (c:=c) (es:=zA l) (by kernel_rfl) (by simp) J
theorem wu:∀ (t:Tm) (d:D),t.Is d->t.cnt<=1073741824->zAO 29 [.dg 9 d] t.sz:=by
 refine Tm.ind λk nm ot n0 ty re l ih d hd hc N Q hQ=>?_
 obtain ⟨t0,t1,r0,r1,a,es,c,rfl,hh,hlen,J⟩:=Tm.is_mk.1 hd
 simp only [Tm.cnt] at hc
 have ae:=pU l
 refine zIx N _ Q λ_=>?_
 refine up J hlen (λi xs=>∀ (m:Nat) (N':Nat),N<=N'->m+ui xs=1+ui l->vh Q N m i (.ag [.j k,.t nm,.t ot,.j n0,t0,t1,r0,r1,.sl a 9 es c]) N') ?_ ?_ 1 N (oB _) rfl
 ·intro i O _ m N' aa hm
  refine ql _ _ _ _ _ _ ⟨_,_,_,rfl,?_⟩
  simp only [ui] at hm
  rw [O]
  exact λN2 ab=>Qi (hQ _ (by omega)) (by simp only [Tm.sz];omega)
 ·intro i x xs I _ ac m N' aa hm
  have hb:=I.b
  have ah:=zu I.m
  simp only [ui] at hm
  refine ql _ _ _ _ _ _ ⟨_,_,_,rfl,?_⟩
  rw [I.lt,I.w,oK]
  refine ⟨_,_,_,rfl,⟨by omega,by omega⟩,λN1 ai=>ih x I.m _ I.r (by omega) N1 _ λN2 ab _=>?_⟩
  rw [i64_in _ (by omega)]
  have:=ac (m+x.sz) N2 (by omega) (by omega)
  simpa using this
theorem zMJ (s:ByteArray) (ps ar:List ByteArray) (hp:ps.length<=4611686018427387904) (ha:ar.length<=4611686018427387904) (ad I:Addr) (a J:Option Addr) (c O:Nat) :
  uN 125 [.str s,.pd ad 0 (.sl a 0 (zA ps) c),.pd I 0 (.sl J 0 (zA ar) O)] (!(decide (s∈ps)&&!decide (s∈ar))):=λN Q hQ=>by
 refine zBV N s ad _ I _ Q ⟨_,_,_,rfl,λN1 aa=>xw ps hp a c s N1 _ λN2 ab _=>?_⟩
 rw [zDS]
 refine Br.ndec (λh N3 ac=>Qb (hQ _ (by omega)) (by simp [h])) λh=>⟨_,_,_,rfl,λN4 ae=>xw ar ha J O s N4 _ λN5 ah _ N6 ai=>Qb (hQ _ (by omega)) ?_⟩
 rw [zDS]
 simp [h]
theorem zKH (l ps ar:List ByteArray) (hl:l.length<=2199023255552) (hp:ps.length<=4611686018427387904) (ha:ar.length<=4611686018427387904) (b:Option Addr) (cb:Nat) (ad J:Addr) (a a':Option Addr) (c c':Nat) :
  zAO 162 [.sv b 0 (zA l) cb,.fn 125 [.pd ad 0 (.sl a 0 (zA ps) c),.pd J 0 (.sl a' 0 (zA ar) c')]] (s8 (λs=>!(decide (s∈ps)&&!decide (s∈ar))) l 0):=λN Q hQ=>by
 have hlen:=zO l
 refine tj N b _ cb ad _ J _ Q λ_=>?_
 refine up (xk l) (by omega) (λi xs=>∀ (N':Nat),N<=N'->(∀ N'',N'<=N''->Q (s8 (λs=>!(decide (s∈ps)&&!decide (s∈ar))) xs i) N'')->yI Q N b (zA l) cb ad (.sl a 0 (zA ps) c) J (.sl a' 0 (zA ar) c') ((zA l).length:Int) i N') ?_ ?_ N (oB _) hQ
 ·intro i aa _ N' ab I
  refine wj _ _ _ _ _ _ _ _ _ _ _ _ ?_
  rw [aa]
  exact λN'' h=>I _ (by omega)
 ·intro i x xs O _ ac N' ab I
  have hb:=O.b
  have hr:=O.r
  simp only [s8] at I
  refine wj _ _ _ _ _ _ _ _ _ _ _ _ ?_
  rw [O.lt,O.w,oK,hr]
  refine ⟨⟨by omega,by omega⟩,x,rfl,λN1 ae=>zMJ x ps ar hp ha ad J a a' c c' N1 _ λN2 ah _=>Br.of (λh N3 ai=>Qi (I _ (by omega)) (by rw [if_pos h])) λh=>ac _ (by omega) λN'' h2=>Qi (I _ (by omega)) (by rw [if_neg (by rw [h];simp)];simp)⟩
theorem zLC {t:Tm} {d:D} (hd:t.Is d) (hc:t.cnt<=1073741824) (ps ar:List ByteArray) (hp:ps.length<=4611686018427387904) (ha:ar.length<=4611686018427387904) (a a':Option Addr) (c c':Nat) :
  uN 88 [.sv a 0 (zA ps) c,.sv a' 0 (zA ar) c',.dg 9 d] (zDm ps ar t):=λN Q hQ=>by
 have ak:=t.vc_cnt
 have al:=t.fv_len
 cases t with
 | mk k nm ot n0 ty re l=>
 have aa:=hd
 obtain ⟨t0,t1,r0,r1,a9,es,c9,rfl,hh,hlen,am⟩:=Tm.is_mk.1 hd
 simp only [zDm] at hQ
 have rest:∀ (M:Nat),N<=M->(k=4\/k=5)->∀ N2,M<=N2->ACalls prog 65 [.i] [.dg 9 (.ag [.j k,.t nm,.t ot,.j n0,t0,t1,r0,r1,.sl a9 9 es c9])] N2 (λae N3=>N2<=N3->Br (decide (ae<3)) (∀ N4,N3<=N4->Q false N4) (∀ N5,N3<=N5->ACalls prog 124 [.row 9 0] [.dg 9 (.ag [.j k,.t nm,.t ot,.j n0,t0,t1,r0,r1,.sl a9 9 es c9])] N5 (λes J N6=>N5<=N6->Bel N6 (D.ag es)
   -> (es.length=es.length/\J=J)/\∀ b,ApA b es->∀ ad,ApA (Option.some ad) [D.sl a 0 (zA ps) c]->∀ I,ApA (Option.some I) [D.sl a' 0 (zA ar) c']->∀ O,N6
   <= O->wa O [b,Option.some ad,Option.some I]->ACalls prog 123 [.bool] [.sv b 0 es J,.fn 125 [.pd ad 0 (D.sl a 0 (zA ps) c),.pd I 0 (D.sl a' 0 (zA ar) c')]]
   O (λb N8=>O<=N8->∀ N9,N8<=N9->Q (!b) N9)))):=by
  intro M hM hk N2 ao
  have ab:(decide (k=4)||decide (k=5))=true:=by simpa using hk
  refine tF _ _ aa hc N2 _ λN3 aq _=>Br.dec (λh N4 au=>Qb (hQ _ (by omega)) ?_) λh N5 aw=>?_
  ·rw [ab]
   have:¬3<=(Tm.mk k nm ot n0 ty re l).sz:=by omega
   simp [this]
  ·refine zFe _ _ aa (by omega) N5 _ λc1 N6 ax _ _=>⟨⟨rfl,rfl⟩,λb _ ad _ ac _ O ay _=>?_⟩
   refine uy O b _ c1 ad _ ac _ _ λ_ N8 az=>zKH _ ps ar (by omega) hp ha b c1 ad ac a a' c c' N8 _ λN9 a6 _ N10 ai _ a7 aj=>Qb (hQ _ (by omega)) ?_
   rw [ab,wb _ _ 0 (by omega)]
   have h3:3<=(Tm.mk k nm ot n0 ty re l).sz:=by omega
   simp only [h3,decide_true,mX,List.not_any_eq_all_not,Bool.not_not]
 refine zG6 N a _ c a' _ c' _ Q λ_ _ _=>⟨k,rfl,Br.bne (λh4=>⟨k,rfl,Br.bne (λh5 N1 ah=>Qb (hQ _ ah) (by simp [h4,h5])) λh5=>rest N (oB _) (.inr h5)⟩) λh4=>rest N (oB _) (.inl h4)⟩
theorem zPY {k:Int} {nm:ByteArray} {I n0 t0 t1 r0 r1 x:D} (ar:List ByteArray) (ha:ar.length<=2199023255552) (i:Nat) (a:Option Addr) (c:Nat) (N:Nat) (Q:QT [.sl 0]) (J:∀ a' c' N',N<=N'->Q a' (zA (qE ar k nm i)) c' N') :
  ACalls prog 90 [.sl 0] [.sv a 0 (zA ar) c,.dg 9 (.ag [.j k,.t nm,I,n0,t0,t1,r0,r1,x]),.j i] N Q:=by
 have hlen:=zO ar
 refine zKq N a _ c _ i Q λ_ _=>⟨k,rfl,Br.beq (λO=>Br.beq (λh1=>⟨nm,rfl,λN1 aa=>?_⟩) λh1 N5 ab=>?_) λO N6 ac=>?_⟩
 ·refine zOh ar ha a c N1 _ λc1 N2 ae _ _=>⟨⟨rfl,rfl⟩,by unfold zB;rw [oE,hlen];simp only [oJ,oM];omega,λI=>⟨⟨rfl,rfl⟩,⟨rfl,rfl⟩,λa2 N3 ah _ N4 ai=>?_⟩⟩
  have e:qE ar k nm i=ar++[nm]:=by unfold qE;rw [if_pos ⟨O,by omega⟩]
  have:=J a2 I N4 (by omega)
  rw [e,<-xi] at this
  exact this
 ·have e:qE ar k nm i=ar:=by unfold qE;rw [if_neg (λh=>h1 (by omega))]
  have:=J a c N5 (by omega)
  rwa [e] at this
 ·have e:qE ar k nm i=ar:=by unfold qE;rw [if_neg (λh=>O h.1)]
  have:=J a c N6 (by omega)
  rwa [e] at this
theorem zGL {N N':Nat} {a:Option Addr} {z c:Nat} {es:List D} (h:Own N N' (.sl a z es c)):OwnL N N' es:=by
 have hs:∀ x∈zC es,x∈(D.sl a z es c).foot:=zEz
 refine ⟨?_,h.fl.2,λb I=>h.lo b (hs b I),λb I=>h.hi b (hs b I)⟩
 have:=h.nd
 cases a with
 | none=>simpa only [D.foot] using this
 | some ad=>
   simp only [D.foot] at this
   split at this
   ·rename_i J
    have:es=[]:=by simpa using J
    subst this
    exact mK
   ·exact (nh.1 this).2
theorem zOg:∀ (t:Tm) (d:D),t.Is d->t.cnt<=1073741824->∀ (ps ar:List ByteArray),ps.length<=2199023255552->ar.length+t.cnt<=2199023255552->∀ (a a':Option Addr) (c c':Nat),zTz true 59 [.sv a 0 (zA ps) c,.sv a' 0 (zA ar) c',.dg 9 d] (qf ps ar t):=by
 refine Tm.ind λk nm ot n0 ty re l ih d hd hc ps ar hp ha a a' c c' N Q hQ=>?_
 have ai:=hd
 have al:=hc
 obtain ⟨t0,t1,r0,r1,a9,es,c9,rfl,hh,hlen,aj⟩:=Tm.is_mk.1 hd
 have hG:=Tm.G_cnt _ hc
 have hl:=aj.len
 have bb:=zAR ps (Tm.mk k nm ot n0 ty re l) ar
 have a8:=sz_cnt (Tm.mk k nm ot n0 ty re l)
 simp only [Tm.cnt] at hc ha
 have key:=up aj hlen (λi xs=>∀ (done:List D) (pre:List Tm) (q N':Nat),N<=N'->All2 Tm.Is pre done->OwnL N N' done->pre++vJ ps ar k nm i xs=qf ps ar (Tm.mk k nm ot n0 ty re l) ->
  xN Q N a (zA ps) c a' (zA ar) c' done.length q a9 es c9 (es.length:Int) i (.ag [.j k,.t nm,.t ot,.j n0,t0,t1,r0,r1,.sl a9 9 es c9]) done q N') ?_ ?_
 ·refine zFv N a _ c a' _ c' _ Q λ_ _ _ N1 am=>zLC ai al ps ar (by omega) (by omega) a a' c c' N1 _ λN2 ao _=>Br.of (λJ N3 aq=>?_) λJ=>⟨_,_,_,rfl,?_⟩
  ·refine zSu _ _ ai hG N3 _ ?_
   intro x4 x5 x6 x7 ak c1 N4 ac au aa ho _ _
   refine ⟨⟨rfl,rfl⟩,λa1 N5 ae hf=>⟨⟨rfl,rfl⟩,by unfold zB;simp,λc2=>⟨_,_,_,rfl,?_⟩⟩⟩
   have bc:=aa.len
   have aw:(Tm.mk k nm ot n0 ty re l).Is (.ag [.j k,.t nm,.t ot,.j n0,x4,x5,x6,x7,.sl a1 9 ak c1]):=Tm.is_mk.2 ⟨_,_,_,_,_,_,_,rfl,au,by omega,aa⟩
   have hO:OwnL N N5 [.ag [.j k,.t nm,.t ot,.j n0,x4,x5,x6,x7,.sl a1 9 ak c1]]:=by
    have h0:OwnL N N3 ([]++[]):=zBw
    exact zLL (hd:=[]) (r:=[]) (xs:=[x4,x5,x6,x7]) h0 ho hf (by omega) ac ae (by simp [zC]) (qu hf λb hb=>by
     simp only [o9,oW,zC,oG] at hb
     simp only [oH,om,mB,exists_eq_or_imp,exists_eq_left,D.foot]
     rcases hb with h | h | h | h | h
     ·exact .inr (.inl h)
     ·exact .inr (.inr (.inl h))
     ·exact .inr (.inr (.inr (.inl h)))
     ·exact .inr (.inr (.inr (.inr (.inl h))))
     ·exact .inl h)
   exact key [_] [Tm.mk k nm ot n0 ty re l] c2 N5 (by omega) ⟨_,_,rfl,aw,rfl⟩ hO (by simp only [qf];rw [if_pos J])
  ·exact key [] [] 0 N2 (by omega) rfl zBw (by simp only [qf];rw [if_neg (by rw [J];simp)])
 ·intro i ax hi done pre q N' ay O ho he
  refine rP _ _ _ _ _ _ _ _ _ _ _ _ _ _ _ _ _ _ _ ?_
  rw [ax]
  simp only [vJ,o6] at he
  refine ⟨⟨rfl,rfl⟩,⟨rfl,rfl⟩,⟨rfl,rfl⟩,λa2 N5 ae hf N6 az=>hQ a2 done q N6 (by omega) (he ▸ O) λ_=>(qm ho hf ae).mono (oB _) az⟩
 ·intro i x xs I _ a6 done pre q N' ay O ho he
  have hb:=I.b
  have bd:=zu I.m
  have bg:(qE ar k nm i).length<=ar.length+1:=by unfold qE;split<;>simp
  refine rP _ _ _ _ _ _ _ _ _ _ _ _ _ _ _ _ _ _ _ ?_
  rw [I.lt]
  refine ⟨⟨by omega,by omega⟩,λN1 am=>zPY ar (by omega) i a' c' N1 _ λa2 c2 N2 ao _ _ N3 aq=>?_⟩
  rw [oK,I.w]
  refine ih x I.m _ I.r (by omega) ps _ hp (by omega) a a2 c c2 N3 _ λa3 bh c3 N4 ac ab a7 _ _=>?_
  have ba:=ab.len
  have bi:=O.len
  simp only [vJ] at he
  have ah:=nL List.length he
  simp only [oE] at ah
  refine ⟨⟨rfl,rfl⟩,by unfold zB;rw [oE];omega,λc4=>?_⟩
  exact a6 _ (pre++qf ps (qE ar k nm i) x) c4 N4 (by omega) (O.app ab) (y7 (ho.mono (oB _) (by omega)) (zGL (a7 rfl)) (by omega) ac) (by rw [nG];exact he)
theorem zVi {n:Int}:decide (n<0)=!decide (n≥0):=by
 by_cases h:n<0
 ·have:¬n≥0:=by omega
  simp [h,this]
 ·have:n≥0:=by omega
  simp [h,this]
theorem zNL (s:ByteArray) (l:List ByteArray):(l.any λx=>decide (x=s))=decide (s∈l):=by
 rw [<-zDS];congr 1;funext x;exact decide_eq_decide.2 eq_comm
theorem zLU {t:Tm} {d:D} (hd:t.Is d) (hc:t.cnt<=1073741824) (ps ar:List ByteArray) (hp:ps.length<=4611686018427387904) (ha:ar.length<=4611686018427387904) (a O:Option Addr) (c c':Nat) :
  uN 80 [.dg 9 d,.sv a 0 (zA ps) c,.sv O 0 (zA ar) c'] (t.fv.all λs=>decide (s∈ps)&&!decide (s∈ar)):=λN Q hQ=>by
 have ai:=t.vc_cnt
 have aj:=t.fv_len
 refine zGj N _ a _ c O _ c' Q λ_ _ _ N1 aa=>qz _ _ hd (by omega) N1 _ λa1 c1 N2 ak _ _ _=>?_
 have hlen:=zO t.fv
 refine up (xk t.fv) (by omega) (λi xs=>∀ (N':Nat),N<=N'->(∀ N'',N'<=N''->Q (xs.all λs=>decide (s∈ps)&&!decide (s∈ar)) N'')->vD Q N a (zA ps) c O (zA ar) c' a1 (zA t.fv) c1 i N') ?_ ?_ N2 (by omega) (λN'' h=>hQ N'' (by omega))
 ·intro i ab _ N' ac I
  refine qH _ _ _ _ _ _ _ _ _ _ _ _ _ ?_
  rw [ab]
  exact λN'' h=>I _ (by omega)
 ·intro i x xs J _ ae N' ac I
  have hb:=J.b
  have hr:=J.r
  simp only [List.all_cons] at I
  refine qH _ _ _ _ _ _ _ _ _ _ _ _ _ ?_
  rw [J.lt,J.w,oK,hr]
  refine ⟨⟨by omega,by omega⟩,x,rfl,λN1 aa=>xu ar ha O c' x N1 _ λN3 al _=>?_⟩
  rw [wb _ _ 0 (by omega),zNL]
  refine Br.dec (λh N4 ah=>Qb (I _ (by omega)) (by simp [h])) λh=>⟨⟨by omega,by omega⟩,x,rfl,λN4 ah=>xu ps hp a c x N4 _ λN5 am _=>?_⟩
  rw [zVi,wb _ _ 0 (by omega),zNL]
  refine Br.ndec (λh2 N6 ao=>Qb (I _ (by omega)) (by simp [h2])) λh2=>ae _ (by omega) λN'' h3=>Qb (I N'' (by omega)) (by simp [h,h2])
def zCW (ar:List ByteArray) (k:Int) (nm:ByteArray) (i:Nat):List ByteArray:=if k=8/\i=1 then si ar [nm] else ar
theorem zKs {ar:List ByteArray} {k:Int} {nm:ByteArray} {i:Nat} (s:ByteArray):s∈zCW ar k nm i↔s∈qE ar k nm i:=by
 unfold zCW qE
 split
 ·rw [zBj,oG]
 ·rfl
theorem zH5 {k:Int} {nm:ByteArray} {c2 n0 t0 t1 r0 r1 x:D} (ar:List ByteArray) (ha:ar.length<=2199023255552) (i:Nat) (a:Option Addr) (c:Nat) (N:Nat) (Q:QT [.sl 0]) (I:∀ a' c' N',N<=N'->Q a' (zA (zCW ar k nm i)) c' N') :
  ACalls prog 83 [.sl 0] [.dg 9 (.ag [.j k,.t nm,c2,n0,t0,t1,r0,r1,x]),.j i,.sv a 0 (zA ar) c] N Q:=by
 refine zFx N _ i a _ c Q λ_ _=>⟨k,rfl,Br.beq (λJ=>Br.beq (λO=>⟨nm,rfl,⟨rfl,rfl⟩,λb _ _ N1 aa _=>?_⟩) λO N5 ab=>?_) λJ N6 ac=>?_⟩
 ·refine we ar [nm] ha (by simp) a b c 1 N1 _ λc3 N2 ae _=>⟨rT _,λ_=>⟨⟨rfl,rfl⟩,⟨rfl,rfl⟩,λa2 N3 ah _ N4 ai=>?_⟩⟩
  have e:zCW ar k nm i=si ar [nm]:=by unfold zCW;rw [if_pos ⟨J,by omega⟩]
  have:=I a2 c3 N4 (by omega)
  rwa [e] at this
 ·have e:zCW ar k nm i=ar:=by unfold zCW;rw [if_neg (λh=>O (by omega))]
  have:=I a c N5 (by omega)
  rwa [e] at this
 ·have e:zCW ar k nm i=ar:=by unfold zCW;rw [if_neg (λh=>J h.1)]
  have:=I a c N6 (by omega)
  rwa [e] at this
/-- terms, handed back: parts of what is given, in a row made anew -/
def zVe (f:FuncId) (args:List PV) (l:List Tm) (d:D):Prop:=∀ (N:Nat) (Q:QT [.sl 9]),(∀ a es c N',N<=N'->All2 Tm.Is l es->(∀ x∈(D.sl a 9 es c).foot,x∈d.foot\/N<=x)->Q a es c N')->ACalls prog f [.sl 9] args N Q
theorem zOF:∀ (t:Tm) (d:D),t.Is d->t.cnt<=1073741824->∀ (ps ar:List ByteArray),ps.length<=2199023255552->ar.length+t.cnt<=2199023255552->∀ (a a':Option Addr) (c c':Nat),zVe 70 [.dg 9 d,.sv a 0 (zA ps) c,.sv a' 0 (zA ar) c'] (qf ps ar t) d:=by
 refine Tm.ind fun k nm ot n0 ty re l ih d hd hc ps ar hp ha a a' c c' N Q hQ=>?_
 have hd0:=hd
 have hc0:=hc
 obtain ⟨t0,t1,r0,r1,a9,es,c9,rfl,hh,hlen,hes⟩:=Tm.is_mk.1 hd
 have hl:=hes.len
 have hpl:=zAR ps (Tm.mk k nm ot n0 ty re l) ar
 have hszc:=sz_cnt (Tm.mk k nm ot n0 ty re l)
 simp only [Tm.cnt] at hc ha
 have key:=up hes hlen (fun i xs=>∀ (done:List D) (pre:List Tm) (q N':Nat),N<=N'->All2 Tm.Is pre done->(∀ x∈zC done,x∈(D.ag [.j k,.t nm,.t ot,.j n0,t0,t1,r0,r1,.sl a9 9 es c9]).foot\/N<=x)->pre++vJ ps ar k nm i xs=qf ps ar (Tm.mk k nm ot n0 ty re l) ->
  zI Q N a (zA ps) c a' (zA ar) c' done.length q i (.ag [.j k,.t nm,.t ot,.j n0,t0,t1,r0,r1,.sl a9 9 es c9]) done q N') ?_ ?_
 ·have none_:∀ N',N<=N'->zDm ps ar (Tm.mk k nm ot n0 ty re l)=false->zI Q N a (zA ps) c a' (zA ar) c' 0 0 0 (.ag [.j k,.t nm,.t ot,.j n0,t0,t1,r0,r1,.sl a9 9 es c9]) [] 0 N':=fun N' hN' h=>key [] [] 0 N' hN' rfl (by simp [zC]) (by simp only [qf];rw [if_neg (by rw [h];simp)])
  have rest:∀ (M:Nat),N<=M->(k=4\/k=5)->∀ N1,M<=N1->ACalls prog 29 [.i] [.dg 9 (.ag [.j k,.t nm,.t ot,.j n0,t0,t1,r0,r1,.sl a9 9 es c9])] N1 (fun n_1 N2=>N1<=N2->Br (decide (n_1≥3)) (∀ N3,N2<=N3->ACalls prog 80 [.bool] [.dg 9 (.ag [.j k,.t nm,.t ot,.j n0,t0,t1,r0,r1,.sl a9 9 es c9]),.sv a 0 (zA ps) c,.sv a' 0 (zA ar) c'] N3
    (fun b N4=>N3<=N4->Br b ((0=0/\0=0)/\zB [] [.ag [.j k,.t nm,.t ot,.j n0,t0,t1,r0,r1,.sl a9 9 es c9]] 136/\∀ (q:Nat),zI Q N a (zA ps) c a' (zA ar) c' ([]++[D.ag [.j k,.t nm,.t ot,.j n0,t0,t1,r0,r1,.sl a9 9 es c9]]).length q 0 (.ag [.j k,.t nm,.t ot,.j n0,t0,t1,r0,r1,.sl a9 9 es c9]) ([]++[D.ag [.j k,.t nm,.t ot,.j n0,t0,t1,r0,r1,.sl a9 9 es c9]])
     q N4) (zI Q N a (zA ps) c a' (zA ar) c' 0 0 0 (.ag [.j k,.t nm,.t ot,.j n0,t0,t1,r0,r1,.sl a9 9 es c9]) [] 0 N4))) (zI Q N a (zA ps) c a' (zA ar) c' 0 0 0 (.ag [.j k,.t nm,.t ot,.j n0,t0,t1,r0,r1,.sl a9 9 es c9]) [] 0 N2)):=by
   intro M hM hk N1 hN1
   have hkk:(decide (k=4)||decide (k=5))=true:=by simpa using hk
   refine wu _ _ hd0 hc0 N1 _ fun N2 hN2 _=>Br.dec (fun h N3 hN3=>?_) fun h=>none_ N2 (by omega) ?_
   ·have h3:3<=(Tm.mk k nm ot n0 ty re l).sz:=by omega
    refine zLU hd0 hc0 ps ar (by omega) (by omega) a a' c c' N3 _ fun N4 hN4 _=>Br.of (fun hf=>⟨⟨rfl,rfl⟩,by unfold zB;simp,fun q=>?_⟩) fun hf=>none_ N4 (by omega) ?_
    ·exact key [_] [Tm.mk k nm ot n0 ty re l] q N4 (by omega) ⟨_,_,rfl,hd0,rfl⟩ (fun x hx=>.inl (by simpa [zC] using hx)) (by simp only [qf];rw [if_pos (by simp only [zDm,hkk,h3,hf,decide_true,mX])])
    ·simp only [zDm,hkk,h3,hf,decide_true,mX]
   ·have h3:¬3<=(Tm.mk k nm ot n0 ty re l).sz:=by omega
    simp [zDm,h3]
  refine zGR N _ a _ c a' _ c' Q fun _ _ _=>⟨k,rfl,Br.beq (fun h4=>rest N (oB _) (.inl h4)) fun h4=>⟨k,rfl,Br.beq (fun h5=>rest N (oB _) (.inr h5)) fun h5=>none_ N (oB _) (by simp [zDm,h4,h5])⟩⟩
 ·intro i hlt hi done pre q N' hN' hdn hft he
  refine s5 _ _ _ _ _ _ _ _ _ _ _ _ _ _ _ ⟨_,_,_,rfl,?_⟩
  rw [hlt]
  simp only [vJ,o6] at he
  refine ⟨⟨rfl,rfl⟩,⟨rfl,rfl⟩,⟨rfl,rfl⟩,fun a2 N5 hN5 hf N6 hN6=>hQ a2 done q N6 (by omega) (he ▸ hdn) fun x hx=>by
   rcases vH x hx with hx | ⟨ad,h1,rfl⟩
   ·exact hft x hx
   ·exact .inr (hf.lo ad h1)⟩
 ·intro i x xs hat _ ih2 done pre q N' hN' hdn hft he
  have hb:=hat.b
  have hxc:=zu hat.m
  have hil:(zCW ar k nm i).length<=ar.length+1:=by
   unfold zCW
   split
   ·have:=uq ar [nm];simpa using this
   ·omega
  refine s5 _ _ _ _ _ _ _ _ _ _ _ _ _ _ _ ⟨_,_,_,rfl,?_⟩
  rw [hat.lt]
  refine ⟨_,_,_,rfl,⟨by omega,by omega⟩,fun N1 hN1=>zH5 ar (by omega) i a' c' N1 _ fun a2 c2 N2 hN2 _ _ N3 hN3=>?_⟩
  rw [oK,hat.w]
  refine ih x hat.m _ hat.r (by omega) ps _ hp (by omega) a a2 c c2 N3 _ fun a3 es3 c3 N4 hN4 hes3 hf3 _ _=>?_
  have hel3:=hes3.len
  have hdl:=hdn.len
  simp only [vJ] at he
  rw [<-zHw x (fun s=>zKs s)] at he
  have hlens:=nL List.length he
  simp only [oE] at hlens
  refine ⟨⟨rfl,rfl⟩,by unfold zB;rw [oE];omega,fun c4=>?_⟩
  exact ih2 _ (pre++qf ps (zCW ar k nm i) x) c4 N4 (by omega) (hdn.app hes3) (fun x hx=>by
   rw [zE] at hx
   rcases oG.1 hx with hx | hx
   ·exact hft x hx
   ·rcases hf3 x (zEz x hx) with h | h
    ·refine .inl ?_
     have hmem:es.getD i default∈es:=by
      have hlt2:i<es.length:=by omega
      rw [oA,oF hlt2]
      exact nz hlt2
     have h5:x∈zC es:=zH.2 ⟨_,hmem,h⟩
     have h6:x∈(D.sl a9 9 es c9).foot:=zEz x h5
     exact zH.2 ⟨_,by simp,h6⟩
    ·exact .inr (by omega)) (by rw [nG];exact he)
theorem zHv {g:List Pm} {es:List D} (h:Pms g es) (hg:g.length<=1073741824) (a:Option Addr) (c:Nat) (N:Nat) (Q:QT [.sl 0])
  (hQ:∀ a' c' N',N<=N'->Q a' (zA (zk g)) c' N'):ACalls prog 37 [.sl 0] [.sv a 4 es c] N Q:=by
 have hl:=h.all.len
 refine zFB N a es c Q λ_=>?_
 have key:=up h.all h.len (λi xs=>∀ (q:Nat) (N':Nat),N<=N'->wc Q N a es c (zA ((zk g).take i)).length q i (zA ((zk g).take i)) q N') ?_ ?_
 ·exact key 0 N (oB _)
 ·intro i aa hi q N' J
  refine s9 _ _ _ _ _ _ _ _ _ _ _ ?_
  rw [od (by rw [th];omega)]
  repeat' first|with_reducible intro _|simp only[aa,Y1,Y2,Y3,Y4]|with_reducible refine X ?_ ?_|refine⟨_,_,_,rfl,?_⟩|refine⟨_,rfl,?_⟩|refine And.intro (by first|omega|trivial|(show _=_;rfl)|(with_reducible constructor)<;>first|omega|trivial|rfl) ?_|fail
  exact hQ _ _ _ (by omega)
 ·intro i x xs I _ ab q N' J
  have hb:=I.b
  have hm:=I.m
  obtain ⟨t0,t1,ac,ae,ah⟩:=I.r
  refine s9 _ _ _ _ _ _ _ _ _ _ _ ?_
  have O:(zk g)[i]?=some x.nm:=by rw [zk,oI,I.g];rfl
  rw [I.lt,I.w,oK,ac]
  refine ⟨⟨by omega,by omega⟩,_,rfl,⟨rfl,rfl⟩,by unfold zB;rw [oE,zO,o8];simp only [oJ,oM];omega,λc1=>?_⟩
  rw [xi,<-xK O]
  exact ab _ _ J
end Go.Proofs.YtlahkdflngobiaaGreatDoor
