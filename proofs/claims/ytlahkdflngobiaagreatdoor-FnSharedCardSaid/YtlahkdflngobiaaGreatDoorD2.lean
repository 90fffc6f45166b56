/- What bodies come to: the reference's and the program's functions. -/
import Derived.Test.YtlahkdflngobiaaGreatDoorD1
import Derived.Test.YtlahkdflngobiaaGreatDoorKe
import Derived.Test.YtlahkdflngobiaaGreatDoorB3
import Derived.Test.YtlahkdflngobiaaGreatDoorKu
import Derived.Test.YtlahkdflngobiaaGreatDoorKa
set_option linter.unusedVariables false
set_option linter.unusedSimpArgs false
namespace Go.Proofs.YtlahkdflngobiaaGreatDoor
open Go Go.Proofs Go.Proofs.Tryz Go.IntWalk
theorem zTe (b:Bool):zAO 160 [.bool b] ((if b then 1 else 0:Nat):Int):=λN Q J=>zLn N b Q (Br.of (λh N1 I=>Qi (J _ I) (by rw [h];rfl)) λh N1 I=>Qi (J _ I) (by rw [h];rfl))
theorem zT6 {a b:Int} (I:0<=a/\a<=10006) (J:0<=b/\b<=10006):0<=a*b/\a*b<=100120036:=by
 refine ⟨Int.mul_nonneg I.1 J.1,?_⟩
 have O:a*b<=10006*b:=Int.mul_le_mul_of_nonneg_right I.2 J.1
 omega
theorem zSQ (n:Int):(if Int.tmod n 10007<0 then Int.tmod n 10007+10007 else Int.tmod n 10007)=red n:=by
 unfold red
 by_cases h:0<=n
 ·rw [nu h,if_neg (by omega)]
 ·obtain ⟨m,rfl⟩:∃ m,n = -m:=⟨-n,by omega⟩
  rw [Int.neg_tmod,nu (by omega)]
  split<;>omega
theorem zUH (n:Int) : -10007<Int.tmod n 10007/\Int.tmod n 10007<10007:=by
 by_cases h:0<=n
 ·rw [nu h];omega
 ·obtain ⟨m,rfl⟩:∃ m,n = -m:=⟨-n,by omega⟩
  rw [Int.neg_tmod,nu (by omega)]
  omega
theorem zJQ (n:Int):zAO 159 [.j n] (red n):=λN Q hQ=>by
 have hb:=zUH n
 have I:=zSQ n
 refine zIw N n Q ⟨by omega,Br.dec (λh N1 J=>?_) λh N2 O=>?_⟩
 ·rw [i64_in _ (by omega)]
  rw [if_pos h] at I
  exact Qi (hQ _ J) I.symm
 ·rw [if_neg h] at I
  exact Qi (hQ _ O) I.symm
/-- returns this number and this truth value -/
def zUf (f:FuncId) (args:List PV) (r:Int × Bool):Prop:=∀ (N:Nat) (Q:QT [.i,.bool]),(∀ N',N<=N'->Q r.1 r.2 N')->ACalls prog f [.i,.bool] args N Q
theorem Qp {Q:QT [.i,.bool]} {a b:Int × Bool} {N:Nat} (h:Q a.1 a.2 N) (e:a=b):Q b.1 b.2 N:=e ▸ h
theorem zSV (b:Bool):zAO 160 [.bool b] (bI b):=λN Q I=>zTe b N Q λN' h=>Qi (I N' h) (by cases b<;>rfl)
theorem zA1 (s:ByteArray) (a b:Int):zUf 119 [.str s,.j a,.j b] (vk s a b):=λN Q O=>by
 refine zGp N s a b Q λN1 ae=>vF _ _ _ N1 _ λN2 ah _=>?_
 by_cases I:inB a 0 10006=true
 rotate_left
 ·have I:inB a 0 10006=false:=by simpa using I
  rw [I]
  simp only [Bool.not_false,zJm]
  have e:vk s a b=(0,false):=by unfold vk;rw [if_neg (by rw [I];decide)]
  exact λN3 aa=>Qp (b:=(0,false)) (O N3 (by omega)) e
 rw [I]
 simp only [lL,zE0]
 intro N4 ai
 refine vF _ _ _ N4 _ λN5 aj _=>?_
 by_cases J:inB b 0 10006=true
 rotate_left
 ·have J:inB b 0 10006=false:=by simpa using J
  rw [J]
  simp only [Bool.not_false,zJm]
  have e:vk s a b=(0,false):=by unfold vk;rw [if_pos I,if_neg (by rw [J];decide)]
  exact λN3 aa=>Qp (b:=(0,false)) (O N3 (by omega)) e
 rw [J]
 simp only [lL,zE0]
 have ab:=wl.1 I
 have ac:=wl.1 J
 have hm:=zT6 ab ac
 rw [i64_in (a+b) (by omega),i64_in (a - b) (by omega),i64_in (a*b) (by omega)]
 have fin:∀ (x:Int) (y:Bool) (N':Nat),N<=N'->vk s a b=(x,y)->Q x y N':=λx y N' h e=>Qp (b:=(x,y)) (O N' h) e
 unfold vk at fin
 rw [if_pos I,if_pos J] at fin
 clear O
 repeat' first|with_reducible intro _|simp only[Y1,Y2,Y3,Y4]|with_reducible refine X ?_ ?_|refine⟨_,_,_,rfl,?_⟩|refine⟨_,rfl,?_⟩|refine And.intro (by first|omega|trivial|(show _=_;rfl)|(with_reducible constructor)<;>first|omega|trivial|rfl) ?_|refine (zJQ _) _ _ ?_|refine (zSV _) _ _ ?_|fail
 all_goals
  refine fin _ _ _ (by omega) ?_
  (repeat' split)<;>first | rfl | contradiction | (simp_all;done) | (congr 1;rw [show (a==1)=false by simpa using ‹¬a=1›];rfl)
theorem zGq {t:Ty} {d:D} (hd:t.Is d) (n:Int):uN 73 [.dg 2 d,.j n] (zKA t n):=λN Q O=>by
 cases t with
 | mk k l=>
 obtain ⟨a,es,c,rfl,hlen,aa⟩:=Ty.is_mk.1 hd
 refine zG2 N _ n Q λ_=>⟨_,rfl,Br.beq (λh N1 ab=>?_) λh N4 ac=>?_⟩
 ·refine vF _ _ _ N1 _ λN2 I _ N3 J=>Qb (O _ (by omega)) ?_
  unfold zKA;rw [show (Ty.mk k l).k=k from rfl,if_pos h]
 ·refine vF _ _ _ N4 _ λN2 I _ N3 J=>Qb (O _ (by omega)) ?_
  unfold zKA;rw [show (Ty.mk k l).k=k from rfl,if_neg h]
def nbD (b:Nb):D:=.ag [.t b.1,.j b.2]
theorem zT8 {v:List Nb} {i:Nat} {b:Nb} (h:v[i]?=some b):(v.map nbD).getD i default=nbD b:=by simp [oA,h]
theorem zHa:∀ {l:List Tm} {g:List Tg} {n:Int} {I:List Ty},yE l g n=some I->∀ x∈l,∃ u,x.type g n=some u
 | y::ys,g,n,I,h,x,hx=>by
   obtain ⟨u,vs,J,O,_⟩:=uX h
   rcases oH.1 hx with rfl | hx
   ·exact ⟨u,J⟩
   ·exact zHa O x hx
theorem zHx {k:Int} {nm ot:ByteArray} {n m:Int} {ty re:Ty} {l:List Tm} {g:List Tg} {u:Ty} (h:(Tm.mk k nm ot n ty re l).type g m=some u) (J:k=4\/k=5):∃ I,yE l g m=some I/\xa k nm I=some u:=by
 simp only [Tm.type] at h
 obtain ⟨h,_⟩:=zEy h
 rw [if_neg (by omega),if_neg (by omega),if_neg (by omega),if_neg (by omega),if_neg (by omega),if_neg (by omega),if_neg (by omega)] at h
 split at h
 ·exact ⟨_,by assumption,h⟩
 ·cases h
theorem zRA {nm ot:ByteArray} {n m:Int} {ty re:Ty} {I J:Tm} {g:List Tg} {u:Ty} (h:(Tm.mk 8 nm ot n ty re [I,J]).type g m=some u):∃ a,I.type g m=some a/\J.type (g++[⟨nm,a,m⟩]) m=some u:=by
 simp only [Tm.type] at h
 obtain ⟨h,_⟩:=zEy h
 rw [if_neg (by omega),if_neg (by omega),if_neg (by omega),if_neg (by omega)] at h
 simp only [mf,uw] at h
 split at h
 ·exact ⟨_,by assumption,h⟩
 ·cases h
theorem zTE (s:ByteArray):zJx s=0\/zJx s=1\/zJx s=2:=by unfold zJx;(repeat' split)<;>simp
/-- an operation's parts: one or two -/
theorem zSS {nm ot:ByteArray} {n:Int} {ty re:Ty} {l:List Tm} {es:List D} (h:(Tm.mk 4 nm ot n ty re l).ok=true) (aa:All2 Tm.Is l es):(∃ I d0,l=[I]/\es=[d0]/\I.Is d0)\/∃ I O d0 d1,l=[I,O]/\es=[d0,d1]/\I.Is d0/\O.Is d1:=by
 have node:=y8 h
 have J:=node.ar
 have hf:=node.f
 simp only [yf,zDd,oL] at hf
 have hn:=hf.2.2.2.2.2
 simp only [mf,oL,nD] at hn
 rw [show zGm 4 nm=zJx nm from rfl] at J
 have ho:=zTE nm
 match l,es,aa with
 | [I],_,⟨d0,ds,e1,h0,e2⟩=>subst e2;subst e1;exact .inl ⟨I,d0,rfl,rfl,h0⟩
 | [I,O],_,⟨d0,ds,e1,h0,d1,ab,e2,h1,e3⟩=>subst e3;subst e2;subst e1;exact .inr ⟨I,O,d0,d1,rfl,rfl,h0,h1⟩
 | [],_,_=>simp at J;omega
 | _::_::_::_,_,_=>simp at J;omega
theorem zQj:∀ (t:Tm) (d:D),t.Is d->t.ok=true->t.isB=true->∀ (g:List Tg) (u:Ty),t.type g 0=some u->∀ (v:List Nb),Fit v g->∀ (a:Option Addr) (c:Nat),v.length+t.cnt<=1073741824 ->
  zAO 74 [.dg 9 d,.sv a 2 (v.map nbD) c] (t.ev v):=by
 refine Tm.ind λk nm ot n0 ty re l ih d hd am hb g u hu v hf a c hc N Q I=>?_
 obtain ⟨t0,t1,r0,r1,a1,es,c1,rfl,hh,hlen,ae⟩:=Tm.is_mk.1 hd
 have node:=y8 am
 have ao:=hb
 simp only [Tm.isB,oL,zKB,nk,wl,mE] at ao
 obtain ⟨ah,hk⟩:=ao
 simp only [Tm.cnt] at hc
 have ay:(v.map nbD).length=v.length:=by simp
 have O:∀ x∈l,∀ d,x.Is d->∀ g u,x.type g 0=some u->∀ v,Fit v g->∀ a c,v.length+x.cnt<=1073741824->zAO 74 [.dg 9 d,.sv a 2 (v.map nbD) c] (x.ev v):=λx hx d hd=>ih x hx d hd (node.sub x hx) (zCp ah hx)
 refine zGk N _ a _ c Q λ_ _=>⟨_,rfl,Br.beq (λh1=>?_) λh1=>Br.beq (λh4=>?_) λh4=>Br.beq (λh5=>?_) λh5=>Br.beq (λh8=>?_) λh8=>?_⟩
 ·-- a name
  simp only [Tm.ev] at I
  rw [if_pos h1] at I
  have look:∀ (i:Nat),i<=v.length->∀ N1,N<=N1->(∀ N',N1<=N'->Q ((zBJ nm (v.take i)).getD n0) N')->vA Q N a (v.map nbD) c ((i:Int) - 1) (.ag [.j k,.t nm,.t ot,.j n0,t0,t1,r0,r1,.sl a1 9 es c1]) N1:=by
   intro i
   induction i with
   | zero=>
     intro hi N1 az aa
     refine qc _ _ _ _ _ _ _ _ ?_
     have e:decide (((0:Nat):Int) - 1≥0)=false:=by simp
     repeat' first|with_reducible intro _|simp only[e,Y1,Y2,Y3,Y4]|with_reducible refine X ?_ ?_|refine⟨_,_,_,rfl,?_⟩|refine⟨_,rfl,?_⟩|refine And.intro (by first|omega|trivial|(show _=_;rfl)|(with_reducible constructor)<;>first|omega|trivial|rfl) ?_|fail
     exact Qi (aa _ (by omega)) rfl
   | succ i a6=>
     intro hi N1 az aa
     have a8:i<v.length:=by omega
     have hg:v[i]?=some v[i]:=oF a8
     have ba:=zT8 hg
     refine qc _ _ _ _ _ _ _ _ ?_
     have e0:(((i+1:Nat):Int) - 1)=(i:Int):=by omega
     have e:decide ((i:Int)≥0)=true:=mF (by omega)
     have ew:IntKind.i64.wrap ((i:Int) - 1)=(i:Int) - 1:=i64_in _ (by omega)
     rw [e0]
     rw [xK hg,xy] at aa
     repeat' first|with_reducible intro _|simp only[e,ew,oK,ba,nbD,mf,eq_self,Y1,Y2,Y3,Y4]|with_reducible refine X ?_ ?_|refine⟨_,_,_,rfl,?_⟩|refine⟨_,rfl,?_⟩|refine And.intro (by first|omega|trivial|(show _=_;rfl)|(with_reducible constructor)<;>first|omega|trivial|rfl) ?_|fail
     ·rename_i hs _ _
      exact Qi (aa _ (by omega)) (by rw [if_pos hs];rfl)
     ·rename_i hs
      exact a6 (by omega) N1 (by omega) λN' h=>Qi (aa N' h) (by rw [if_neg hs])
  rw [ay,i64_in _ (by omega)]
  exact look v.length (oB _) N (oB _) (by rw [lK];exact I)
 ·-- an operation
  simp only [Tm.ev] at I
  rw [if_neg h1,if_pos h4] at I
  subst h4
  obtain ⟨ts,ai,_⟩:=zHx hu (.inl rfl)
  have aj:=zHa ai
  rcases zSS am ae with ⟨J,d0,rfl,rfl,i0⟩ | ⟨J,x1,d0,d1,rfl,rfl,i0,i1⟩
  ·obtain ⟨u0,ab⟩:=aj J (by simp)
   simp only [za] at hc
   have c0:=O J (by simp) d0 i0 g u0 ab v hf a c (by omega)
   have ak:=zA1 nm (J.ev v) 0
   have e1:(([d0]:List D).length:Int)=1:=rfl
   repeat' first|with_reducible intro _|simp only[mN,oJ,oM,Y1,Y2,Y3,Y4]|with_reducible refine X ?_ ?_|refine⟨_,_,_,rfl,?_⟩|refine⟨_,rfl,?_⟩|refine And.intro (by first|omega|trivial|(show _=_;rfl)|(with_reducible constructor)<;>first|omega|trivial|rfl) ?_|refine c0 _ _ ?_|refine ak _ _ ?_|fail
   all_goals first
    | exact Qi (I _ (by omega)) rfl
    | (rename_i h _ _;simp at h)
  ·obtain ⟨u0,ab⟩:=aj J (by simp)
   obtain ⟨u1,bb⟩:=aj x1 (by simp)
   simp only [za] at hc
   have c0:=O J (by simp) d0 i0 g u0 ab v hf a c (by omega)
   have c1:=O x1 (by simp) d1 i1 g u1 bb v hf a c (by omega)
   have ak:=zA1 nm (J.ev v) (x1.ev v)
   repeat' first|with_reducible intro _|simp only[mN,mv,oJ,oM,Y1,Y2,Y3,Y4]|with_reducible refine X ?_ ?_|refine⟨_,_,_,rfl,?_⟩|refine⟨_,rfl,?_⟩|refine And.intro (by first|omega|trivial|(show _=_;rfl)|(with_reducible constructor)<;>first|omega|trivial|rfl) ?_|refine c0 _ _ ?_|refine c1 _ _ ?_|refine ak _ _ ?_|fail
   all_goals first
    | exact Qi (I _ (by omega)) rfl
    | (rename_i h _ _;simp at h)
 ·-- a condition
  have bq:=zL1
  simp only [Tm.ev] at I
  rw [if_neg h1,if_neg h4,if_pos h5] at I
  subst h5
  obtain ⟨ts,ai,ac⟩:=zHx hu (.inr rfl)
  obtain ⟨J,x1,x2,d0,d1,d2,rfl,rfl,i0,i1,i2⟩:=zMf ae (node.ar.trans rfl)
  obtain ⟨u0,b4,e0,q6,e3⟩:=uX ai
  obtain ⟨u1,b5,e1,q7,e4⟩:=uX q6
  obtain ⟨u2,b6,e2,q8,e5⟩:=uX q7
  subst e5;subst e4;subst e3
  simp only [za] at hc
  have c0:=O J (by simp) d0 i0 g u0 e0 v hf a c (by omega)
  have c1:=O x1 (by simp) d1 i1 g u1 e1 v hf a c (by omega)
  have c2:=O x2 (by simp) d2 i2 g u2 e2 v hf a c (by omega)
  have ab:u0.k=2:=by
   unfold xa at ac
   rw [if_neg (by omega),if_pos rfl] at ac
   split at ac
   ·rename_i bc;exact bc.1
   ·cases ac
  have hv:=zLW ab (zL1 J (node.sub _ (by simp)) (zCp ah (by simp)) g v hf u0 e0)
  refine ⟨_,_,_,rfl,_,_,_,rfl,⟨by omega,by simp⟩,λbd bt=>c0 bd _ λb7 bv _=>?_⟩
  have bg:zFg [J,x1,x2] 0 v=J.ev v:=rfl
  rw [bg] at I
  rcases hv with hv | hv
  ·rw [hv] at I ⊢
   rw [show IntKind.i64.wrap (2 - 0)=2 from rfl]
   refine ⟨⟨by omega,by simp⟩,λal aq=>c2 al _ λbh au _ bi aw=>I _ (by omega)⟩
  ·rw [hv] at I ⊢
   rw [show IntKind.i64.wrap (2 - 1)=1 from rfl]
   refine ⟨⟨by omega,by simp⟩,λal aq=>c1 al _ λbh au _ bi aw=>I _ (by omega)⟩
 ·-- a let
  simp only [Tm.ev] at I
  rw [if_neg h1,if_neg h4,if_neg h5,if_pos h8] at I
  subst h8
  obtain ⟨J,x1,d0,d1,rfl,rfl,i0,i1⟩:=zQU ae (node.ar.trans rfl)
  obtain ⟨u0,e0,e1⟩:=zRA hu
  simp only [za] at hc
  have b8:=J.cnt_pos
  have c0:=O J (by simp) d0 i0 g u0 e0 v hf a c (by omega)
  have bj:=hf.snoc (x:=⟨nm,u0,0⟩) (y:=(nm,J.ev v)) rfl (zL1 J (node.sub _ (by simp)) (zCp ah (by simp)) g v hf u0 e0)
  have bm:([]++v.map nbD)++[D.ag [.t nm,.j (J.ev v)]]=(v++[(nm,J.ev v)]).map nbD:=by simp [nbD]
  refine ⟨⟨rfl,rfl⟩,by unfold zB;simp;omega,λc5=>⟨_,_,_,rfl,⟨by omega,by simp⟩,_,rfl,_,_,_,rfl,⟨by omega,by simp⟩,λbn bw=>c0 bn _ λb9 bz _=>⟨⟨rfl,rfl⟩,by unfold zB;simp;omega,λc8=>⟨⟨rfl,rfl⟩,λa7 _ _ bp b1 _=>?_⟩⟩⟩⟩
  rw [bm]
  refine O x1 (by simp) d1 i1 _ u e1 _ bj a7 c8 (by simp;omega) bp _ λca b2 _ cc b3=>?_
  exact I _ (by omega)
 ·simp only [Tm.ev] at I
  rw [if_neg h1,if_neg h4,if_neg h5,if_neg h8] at I
  exact ⟨_,rfl,λcd ax=>I _ ax⟩
def zAa (l:List Int):List D:=l.map λn=>.j n
theorem zGb (l:List Int):(zAa l).length=l.length:=by simp [zAa]
theorem zUG (k n:Int):(Tm.mk k (bytes []) (bytes []) n (.mk 0 []) (.mk 0 []) []).Is (.ag [.j k,.t (bytes []),.t (bytes []),.j n,.j 0,.sl none 2 [] 0,.j 0,.sl none 2 [] 0,.sl none 9 [] 0]):=
 Tm.is_mk.2 ⟨_,_,_,_,_,_,_,rfl,⟨by decide,by decide,wD _,wD _⟩,by simp,rfl⟩
theorem zPJ {l:List Int} {i:Nat} {b:Int} (h:l[i]?=some b):(zAa l).getD i default=.j b:=by simp [zAa,oA,oI,h]
def pW:List Pm->List Int->Bool
 | [],_=>true
 | p::g,[]=>true
 | p::g,n::ns=>zKA p.ty n&&pW g ns
def vm:List Pm->List Int->List Nb
 | p::g,n::ns=>(p.nm,n)::vm g ns
 | _,_=>[]
theorem r6:∀ {g:List Pm} {ns:List Int},ns.length=g.length->(vm g ns).length=g.length
 | [],[],_=>rfl
 | p::g,n::ns,h=>by simp only [vm,oJ] at h ⊢;rw [r6 (by omega)]
 | [],_::_,h=>by simp at h
 | _::_,[],h=>by simp at h
theorem zBK:∀ {g:List Pm} {ns:List Int} {i:Nat} {p:Pm} {n:Int},g[i]?=some p->ns[i]?=some n->(vm g ns)[i]?=some (p.nm,n)
 | q::g,m::ns,0,p,n,h,I=>by simp at h I;subst h;subst I;rfl
 | q::g,m::ns,i+1,p,n,h,I=>by simp only [vm,nA] at h I ⊢;exact zBK h I
 | [],_,i,p,n,h,I=>by simp at h
 | _::_,[],i,p,n,h,I=>by simp at I
theorem zHr:∀ {g:List Pm} {ns:List Int} {i:Nat} {p:Pm} {n:Int},pW g ns=true->g[i]?=some p->ns[i]?=some n->zKA p.ty n=true
 | q::g,m::ns,0,p,n,J,h,I=>by
   simp only [pW,oL] at J
   simp at h I;subst h;subst I;exact J.1
 | q::g,m::ns,i+1,p,n,J,h,I=>by
   simp only [pW,oL] at J
   simp only [nA] at h I
   exact zHr J.2 h I
 | [],_,i,p,n,J,h,I=>by simp at h
 | _::_,[],i,p,n,J,h,I=>by simp at I
theorem zP0 {g:List Pm} {ns:List Int} (hl:ns.length=g.length) (h:pW g ns=true):Fit (vm g ns) (uS g):=by
 refine ⟨by rw [r6 hl,vZ],λi x y hx I=>?_⟩
 have J:i<g.length:=by have:=(oD.1 I).1;rw [r6 hl] at this;exact this
 have O:g[i]?=some g[i]:=oF J
 have hn:ns[i]?=some (ns[i]'(by omega)):=oF (by omega)
 rw [zBK O hn] at I
 rw [uS,oI,O] at hx
 cases hx;cases I
 exact ⟨rfl,zHr h O hn⟩
def qR (g:List Pm) (e:Tm) (ns:List Int):Int × Bool:=if (yk g e).isSome=true then (if ns.length=g.length then (if pW g ns=true then (e.ev (vm g ns),true) else (0,false)) else (0,false)) else (0,false)
theorem zMC {g:List Pm} {e:Tm} (h:(yk g e).isSome=true):∃ u,e.type (uS g) 0=some u:=by
 unfold yk at h
 split at h
 ·exact Option.isSome_iff_exists.1 h
 ·cases h
theorem p6 {g:List Pm} {es:List D} (h:Pms g es) (hg:g.length<=536870000) {e:Tm} {d:D} (he:e.Is d) (hc:e.cnt<=536870000) (ns:List Int) (hn:ns.length<=1073741824) (a a2:Option Addr) (c c2:Nat) :
  zUf 30 [.sv a 4 es c,.dg 9 d,.sv a2 0 (zAa ns) c2] (qR g e ns):=λN Q hQ=>by
 have hl:=h.all.len
 have a6:=zGb ns
 refine zGN N a es c d a2 _ c2 Q λ_ _ _ N1 a7=>?_
 refine pZ h (by omega) he hc a c N1 _ λx N2 a8 _ _ _=>Br.not (λhb N3 ba=>?_) λhb=>Br.bne (λbb N4 ak=>?_) λheq=>?_
 ·have e1:qR g e ns=(0,false):=by unfold qR;rw [if_neg (by simp [hb])]
  exact Qp (b:=(0,false)) (hQ N3 (by omega)) e1
 ·have e1:qR g e ns=(0,false):=by unfold qR;rw [if_pos hb,if_neg (by omega)]
  exact Qp (b:=(0,false)) (hQ N4 (by omega)) e1
 ·have aa:ns.length=g.length:=by omega
  obtain ⟨_,hv,al⟩:=zMp hb
  obtain ⟨u,hu⟩:=zMC hb
  have ay:=r6 aa
  have ac:∀ r,pW g ns=r->qR g e ns=if r=true then (e.ev (vm g ns),true) else (0,false):=λr hr=>by unfold qR;rw [if_pos hb,if_pos aa,hr]
  have key:=up h.all h.len (λi xs=>∀ (q N':Nat),N<=N'->(pW g ns=pW xs (ns.drop i))->wg Q N a es c a2 (zAa ns) c2 (((vm g ns).take i).map nbD).length q i d (((vm g ns).take i).map nbD) q N') ?_ ?_
  ·exact key 0 N2 (by omega) rfl
  ·intro i ab hi q N' am I
   refine rX _ _ _ _ _ _ _ _ _ _ _ _ _ _ _ ?_
   rw [ab]
   have ae:pW g ns=true:=by rw [I];rfl
   have e1:=ac true ae
   rw [if_pos rfl] at e1
   rw [od (by omega)]
   refine ⟨⟨rfl,rfl⟩,λa4 _ _ N4 ak _=>?_⟩
   refine zQj e d he (zVW hv) al (uS g) u hu _ (zP0 aa ae) a4 q (by omega) N4 _ λN5 bc _ N6 bd=>?_
   exact Qp (b:=(e.ev (vm g ns),true)) (hQ N6 (by omega)) e1
  ·intro i x xs J bg ao q N' am I
   have bh:=J.b
   have ab:i<ns.length:=by omega
   have ah:ns[i]?=some ns[i]:=oF ab
   have aq:=zPJ ah
   obtain ⟨t0,t1,au,bi,aw⟩:=J.r
   have O:=zBK J.g ah
   have ax:ns.drop i=ns[i]::ns.drop (i+1):=by rw [List.getElem_cons_drop]
   rw [ax] at I
   simp only [pW] at I
   refine rX _ _ _ _ _ _ _ _ _ _ _ _ _ _ _ ?_
   have ai:((vm g ns).take i).map nbD++[D.ag [.t x.nm,.j (ns[i])]]=((vm g ns).take (i+1)).map nbD:=by rw [xK O,nW];rfl
   have az:(((vm g ns).take (i+1)).map nbD).length<=i+1:=by rw [nO,o8];omega
   have aj:=zGq aw ns[i]
   repeat' first|with_reducible intro _|simp only[J.lt,J.w,oK,au,aq,mf,eq_self,Y1,Y2,Y3,Y4]|with_reducible refine X ?_ ?_|refine⟨_,_,_,rfl,?_⟩|refine⟨_,rfl,?_⟩|refine And.intro (by first|omega|trivial|(show _=_;rfl)|(with_reducible constructor)<;>first|omega|trivial|rfl) ?_|refine aj _ _ ?_|fail
   ·have e1:=ac false (by rw [I];rename_i hx _ _;rw [hx];rfl)
    exact Qp (b:=(0,false)) (hQ _ (by omega)) e1
   ·refine ⟨by unfold zB;rw [ai];omega,λc1=>?_⟩
    rw [ai]
    refine ao _ _ (by omega) ?_
    rename_i hx
    rw [I,hx,mX]
end Go.Proofs.YtlahkdflngobiaaGreatDoor
