/- What bodies come to: values, and that a typed body's value fits its type. -/
import Derived.Test.YtlahkdflngobiaaGreatB1
import Derived.Test.YtlahkdflngobiaaGreatKt
set_option linter.unusedVariables false
set_option linter.unusedSimpArgs false
namespace Go.Proofs.YtlahkdflngobiaaGreat
open Go Go.Proofs Go.Proofs.Tryz Go.IntWalk
/-- a name and its number -/
abbrev Nb:=ByteArray × Int
def u4 (nm:ByteArray) (v:List Nb):Option Int:=(v.reverse.find? λp=>decide (p.1=nm)).map (·.2)
theorem xA {nm:ByteArray} {v:List Nb} {b:Nb}:u4 nm (v++[b])=if b.1=nm then some b.2 else u4 nm v:=by
 unfold u4
 rw [List.reverse_append]
 by_cases h:b.1=nm<;>simp [h]
def red (n:Int):Int:=n % 10007
def bI (b:Bool):Int:=if b then 1 else 0
def yF (s:ByteArray) (a b:Int):Int × Bool:=
 if inB a 0 10006=true then (if inB b 0 10006=true then
  (if s=bytes [43] then (red (a+b),true) else if s=bytes [45] then (red (a - b),true) else if s=bytes [42] then (red (a*b),true)
  else if s=bytes [61] then (bI (a==b),true) else if s=bytes [60] then (bI (decide (a<b)),true)
  else if s=bytes [38] then (bI (a==1&&b==1),true) else if s=bytes [124] then (bI (a==1||b==1),true)
  else if s=bytes [33] then (bI (a==0),true) else (0,false)) else (0,false)) else (0,false)
mutual
def Tm.ev:Tm->List Nb->Int
 | .mk k nm _ n _ _ l,v=>if k=1 then (u4 nm v).getD n else if k=4 then (yF nm (sw l 0 v) (sw l 1 v)).1 else if k=5 then sw l (2 - sw l 0 v).toNat v
   else if k=8 then sw l 1 (v++[(nm,sw l 0 v)]) else n
def sw:List Tm->Nat->List Nb->Int
 | [],_,_=>0
 | t::_,0,v=>t.ev v
 | _::I,i+1,v=>sw I i v
end
def zFZ (t:Ty) (n:Int):Bool:=if t.k=2 then inB n 0 1 else inB n 0 10006
theorem zFU (b:Bool):0<=bI b/\bI b<=1:=by cases b<;>decide
theorem zOc (n:Int):0<=red n/\red n<=10006:=by unfold red;omega
theorem zGM (s:ByteArray) (a b:Int):0<=(yF s a b).1/\(yF s a b).1<=10006:=by
 have I:=zOc (a+b);have J:=zOc (a - b);have O:=zOc (a*b)
 have U:=zFU (a==b);have Y:=zFU (decide (a<b));have h6:=zFU (a==1&&b==1);have h7:=zFU (a==1||b==1);have h8:=zFU (a==0)
 unfold yF
 (repeat' split)<;>constructor<;>first | omega | (simp only;omega)
theorem zCZ {s:ByteArray} (I:¬s=bytes [43]) (J:¬s=bytes [45]) (O:¬s=bytes [42]) (a b:Int):0<=(yF s a b).1/\(yF s a b).1<=1:=by
 have U:=zFU (a==b);have Y:=zFU (decide (a<b));have h6:=zFU (a==1&&b==1);have h7:=zFU (a==1||b==1);have h8:=zFU (a==0)
 unfold yF
 rw [if_neg I,if_neg J,if_neg O]
 (repeat' split)<;>constructor<;>first | omega | (simp only;omega)
/-- numbers for the names of a typing -/
structure Fit (v:List Nb) (g:List Tg):Prop where
 len:v.length=g.length
 at_:∀ (i:Nat) (x:Tg) (y:Nb),g[i]?=some x->v[i]?=some y->x.nm=y.1/\zFZ x.ty y.2=true
theorem Fit.snoc {v:List Nb} {g:List Tg} (h:Fit v g) {x:Tg} {y:Nb} (U:x.nm=y.1) (Y:zFZ x.ty y.2=true):Fit (v++[y]) (g++[x]):=by
 refine ⟨by simp [h.len],λi a b I J=>?_⟩
 by_cases hi:i<g.length
 ·rw [oN hi] at I
  rw [oN (by have:=h.len;omega)] at J
  exact h.at_ i a b I J
 ·rw [oQ (by omega)] at I
  rw [oQ (by have:=h.len;omega),h.len] at J
  cases O:i - g.length with
  | zero=>rw [O] at I J;simp at I J;subst I;subst J;exact ⟨U,Y⟩
  | succ j=>rw [O] at I;simp at I
theorem zLQ {v:List Nb} {g:List Tg} (h:Fit v g) (s:ByteArray):∀ n:Nat,n<=g.length->0<=ua g s n->∃ m,u4 s (v.take n)=some m/\zFZ (g.getD (ua g s n).toNat tg0).ty m=true
 | 0,_,I=>by simp [ua] at I
 | n+1,hn,I=>by
   have O:n<v.length:=by have:=h.len;omega
   have U:n<g.length:=by omega
   have Y:v[n]?=some v[n]:=oE O
   have hg:g[n]?=some g[n]:=oE U
   have J:g.getD n tg0=g[n]:=by simp [oA,hg]
   obtain ⟨e1,e2⟩:=h.at_ n _ _ hg Y
   rw [zX Y,xA]
   simp only [ua,J] at I ⊢
   by_cases hs:g[n].nm=s
   ·rw [if_pos (by rw [<-e1];exact hs),if_pos hs]
    exact ⟨_,rfl,by rw [oH,J];exact e2⟩
   ·rw [if_neg (by rw [<-e1];exact hs)]
    rw [if_neg hs] at I ⊢
    exact zLQ h s n (by omega) I
theorem zOw {v:List Nb} {g:List Tg} (h:Fit v g) {s:ByteArray} {t:Ty} (I:qo g s 0=some t):∃ m,u4 s v=some m/\zFZ t m=true:=by
 unfold qo at I
 split at I
 ·cases I
 ·rename_i J
  split at I
  ·cases I
   have:=zLQ h s g.length (oD _) (by unfold yQ at J;omega)
   rw [<-h.len,lH] at this
   have e:ua g s v.length=yQ g s:=by rw [h.len];rfl
   rw [e] at this
   exact this
  ·cases I
theorem xU {x:Tm} {J:List Tm} {g:List Tg} {n:Int} {us:List Ty} (h:zh (x::J) g n=some us):∃ u vs,x.type g n=some u/\zh J g n=some vs/\us=u::vs:=by
 simp only [zh] at h
 split at h
 ·rename_i u O
  split at h
  ·rename_i vs I
   cases h
   exact ⟨u,vs,O,I,rfl⟩
  ·cases h
 ·cases h
theorem zE2 {n:Int} {t:Ty} (I:t.k=2) (h:zFZ t n=true):n=0\/n=1:=by
 unfold zFZ at h
 rw [if_pos I,yE] at h
 omega
theorem zKi {n:Int} {t:Ty} (h:0<=n/\n<=(if t.k=2 then 1 else 10006)):zFZ t n=true:=by
 unfold zFZ
 split at h<;>rename_i I
 ·rw [if_pos I,yE];omega
 ·rw [if_neg I,yE];omega
theorem zDs:∀ (t:Tm),t.ok=true->t.isB=true->∀ (g:List Tg) (v:List Nb),Fit v g->∀ u,t.type g 0=some u->zFZ u (t.ev v)=true:=by
 refine Tm.ind λk nm ot n ty re l ih ae hb g v Y u I=>?_
 have node:=yW ae
 simp only [Tm.isB,oI,zAT,nS,yE,nl] at hb
 obtain ⟨ah,hk⟩:=hb
 have J:∀ x∈l,∀ g v,Fit v g->∀ u,x.type g 0=some u->zFZ u (x.ev v)=true:=λx hx=>ih x hx (node.sub x hx) (tZ ah hx)
 have U:=node.ar
 have aa:=node.f
 simp only [zK,oI] at aa
 have O:=aa.2.2.2.2.1
 rw [yE] at O
 simp only [Tm.type] at I
 obtain ⟨I,aj⟩:=zBV I
 simp only [Tm.ev]
 by_cases h1:k=1
 ·rw [if_pos h1] at I ⊢
  obtain ⟨m,e1,e2⟩:=zOw Y I
  rw [e1];exact e2
 rw [if_neg h1] at I ⊢
 by_cases h4:k=4
 ·subst h4
  rw [if_neg (by omega),if_neg (by omega),if_neg (by omega),if_neg (by omega),if_neg (by omega),if_neg (by omega)] at I
  rw [if_pos rfl]
  split at I
  ·rename_i ts ab
   unfold y9 at I
   rw [if_pos rfl] at I
   unfold zRb at I
   split at I
   ·cases I
    refine zKi ?_
    have O:=zGM nm (sw l 0 v) (sw l 1 v)
    split
    ·rename_i h2
     unfold zDB at h2
     by_cases c1:nm=bytes [43]
     ·simp [c1,tInt,Ty.k] at h2
     by_cases c2:nm=bytes [45]
     ·simp [c1,c2,tInt,Ty.k] at h2
     by_cases c3:nm=bytes [42]
     ·simp [c1,c2,c3,tInt,Ty.k] at h2
     exact zCZ c1 c2 c3 _ _
    ·exact O
   ·cases I
  ·cases I
 rw [if_neg h4]
 by_cases h5:k=5
 ·subst h5
  rw [if_neg (by omega),if_neg (by omega),if_neg (by omega),if_neg (by omega),if_neg (by omega),if_neg (by omega)] at I
  rw [if_pos rfl]
  rw [show zCx 5 nm=3 from rfl] at U
  match l,U with
  | [x0,x1,x2],_=>
    split at I
    ·rename_i ts ab
     obtain ⟨u0,ak,e0,h6,e3⟩:=xU ab
     obtain ⟨u1,al,e1,h7,e4⟩:=xU h6
     obtain ⟨u2,am,e2,h8,e5⟩:=xU h7
     subst e5;subst e4;subst e3
     unfold y9 at I
     rw [if_neg (by omega),if_pos rfl] at I
     split at I
     ·rename_i hc
      simp only [mM,mm,uI] at hc I
      cases I
      have hc0:=zE2 hc.1 (J x0 (by simp) g v Y _ e0)
      have ai:sw [x0,x1,x2] 0 v=x0.ev v:=rfl
      rw [ai]
      rcases hc0 with hc0 | hc0
      ·rw [hc0];rw [hc.2];exact J x2 (by simp) g v Y _ e2
      ·rw [hc0];exact J x1 (by simp) g v Y _ e1
     ·cases I
    ·cases I
  | [],h=>simp at h
  | [_],h=>simp at h
  | [_,_],h=>simp at h
  | _::_::_::_::_,h=>simp at h;omega
 rw [if_neg h5]
 by_cases h8:k=8
 ·subst h8
  rw [if_neg (by omega),if_neg (by omega),if_neg (by omega),if_pos rfl] at I
  rw [if_pos rfl]
  rw [show zCx 8 nm=2 from rfl] at U
  match l,U with
  | [x0,x1],_=>
    simp only [vo] at I
    split at I
    ·rename_i a ha
     exact J x1 (by simp) _ _ (Y.snoc rfl (J x0 (by simp) g v Y _ ha)) _ I
    ·cases I
  | [],h=>simp at h
  | [_],h=>simp at h
  | _::_::_::_,h=>simp at h;omega
 rw [if_neg h8]
 have ac:k=2\/k=3:=by omega
 rcases ac with rfl | rfl
 ·rw [if_pos rfl] at I;cases I
  refine zKi ?_
  simpa [tInt,Ty.k] using O
 ·rw [if_neg (by omega),if_pos rfl] at I;cases I
  refine zKi ?_
  simpa [tBool,Ty.k] using O
theorem zSR (b:Bool):rN 124 [.bool b] ((if b then 1 else 0:Nat):Int):=λN Q J=>zKJ N b Q (Br.of (λh N1 I=>Qi (J _ I) (by rw [h];rfl)) λh N1 I=>Qi (J _ I) (by rw [h];rfl))
theorem zUN (b:Bool):rN 122 [.bool b] ((if b then 1 else 0:Nat):Int):=λN Q J=>zM9 N b Q (Br.of (λh N1 I=>Qi (J _ I) (by rw [h];rfl)) λh N1 I=>Qi (J _ I) (by rw [h];rfl))
theorem zQ4 {a b:Int} (I:0<=a/\a<=10006) (J:0<=b/\b<=10006):0<=a*b/\a*b<=100120036:=by
 refine ⟨Int.mul_nonneg I.1 J.1,?_⟩
 have O:a*b<=10006*b:=Int.mul_le_mul_of_nonneg_right I.2 J.1
 omega
theorem zME (n:Int):(if Int.tmod n 10007<0 then Int.tmod n 10007+10007 else Int.tmod n 10007)=red n:=by
 unfold red
 by_cases h:0<=n
 ·rw [np h,if_neg (by omega)]
 ·obtain ⟨m,rfl⟩:∃ m,n = -m:=⟨-n,by omega⟩
  rw [Int.neg_tmod,np (by omega)]
  split<;>omega
theorem zRE (n:Int) : -10007<Int.tmod n 10007/\Int.tmod n 10007<10007:=by
 by_cases h:0<=n
 ·rw [np h];omega
 ·obtain ⟨m,rfl⟩:∃ m,n = -m:=⟨-n,by omega⟩
  rw [Int.neg_tmod,np (by omega)]
  omega
theorem zIE (n:Int):rN 123 [.j n] (red n):=λN Q U=>by
 have Y:=zRE n
 have I:=zME n
 refine zHl N n Q ⟨by omega,Br.dec (λh N1 J=>?_) λh N2 O=>?_⟩
 ·rw [i64_in _ (by omega)]
  rw [if_pos h] at I
  exact Qi (U _ J) I.symm
 ·rw [if_neg h] at I
  exact Qi (U _ O) I.symm
theorem zHY (n:Int):rN 121 [.j n] (red n):=λN Q J=>by
 have U:=zRE n
 have O:=zME n
 refine zHf N n Q ⟨by omega,by omega,λN1 I=>?_⟩
 rw [i64_in _ (by omega)]
 refine Qi (J _ I) ?_
 rw [<-O]
 generalize Int.tmod n 10007=m at *
 rw [np (by omega)]
 split<;>omega
/-- returns this number and this truth value -/
def zQP (f:FuncId) (args:List PV) (r:Int × Bool):Prop:=∀ (N:Nat) (Q:QT [.i,.bool]),(∀ N',N<=N'->Q r.1 r.2 N')->ACalls prog f [.i,.bool] args N Q
theorem Qp {Q:QT [.i,.bool]} {a b:Int × Bool} {N:Nat} (h:Q a.1 a.2 N) (e:a=b):Q b.1 b.2 N:=e ▸ h
theorem zQu (b:Bool):rN 124 [.bool b] (bI b):=λN Q I=>zSR b N Q λN' h=>Qi (I N' h) (by cases b<;>rfl)
theorem zTq (b:Bool):rN 122 [.bool b] (bI b):=λN Q I=>zUN b N Q λN' h=>Qi (I N' h) (by cases b<;>rfl)
theorem te (s:ByteArray) (a b:Int):zQP 78 [.str s,.j a,.j b] (yF s a b):=λN Q O=>by
 refine zFX N s a b Q λN1 ab=>yk _ _ _ N1 _ λN2 ac _=>?_
 by_cases I:inB a 0 10006=true
 rotate_left
 ·have I:inB a 0 10006=false:=by simpa using I
  rw [I]
  simp only [Bool.not_false,zIe]
  have e:yF s a b=(0,false):=by unfold yF;rw [if_neg (by rw [I];decide)]
  exact λN3 U=>Qp (b:=(0,false)) (O N3 (by omega)) e
 rw [I]
 simp only [lI,zDd]
 intro N4 ae
 refine yk _ _ _ N4 _ λN5 ah _=>?_
 by_cases J:inB b 0 10006=true
 rotate_left
 ·have J:inB b 0 10006=false:=by simpa using J
  rw [J]
  simp only [Bool.not_false,zIe]
  have e:yF s a b=(0,false):=by unfold yF;rw [if_pos I,if_neg (by rw [J];decide)]
  exact λN3 U=>Qp (b:=(0,false)) (O N3 (by omega)) e
 rw [J]
 simp only [lI,zDd]
 have Y:=yE.1 I
 have aa:=yE.1 J
 have hm:=zQ4 Y aa
 rw [i64_in (a+b) (by omega),i64_in (a - b) (by omega),i64_in (a*b) (by omega)]
 have fin:∀ (x:Int) (y:Bool) (N':Nat),N<=N'->yF s a b=(x,y)->Q x y N':=λx y N' h e=>Qp (b:=(x,y)) (O N' h) e
 unfold yF at fin
 rw [if_pos I,if_pos J] at fin
 clear O
 repeat' first|with_reducible intro _|simp only[Y1,Y2,Y3,Y4]|with_reducible refine X ?_ ?_|refine⟨_,_,_,rfl,?_⟩|refine⟨_,rfl,?_⟩|refine And.intro (by first|omega|trivial|(show _=_;rfl)|(with_reducible constructor)<;>first|omega|trivial|rfl) ?_|refine (zIE _) _ _ ?_|refine (zQu _) _ _ ?_|fail
 all_goals
  refine fin _ _ _ (by omega) ?_
  (repeat' split)<;>first | rfl | contradiction | (simp_all;done) | (congr 1;rw [show (a==1)=false by simpa using ‹¬a=1›];rfl)
theorem pE (s:ByteArray) (a b:Int):zQP 77 [.str s,.j a,.j b] (yF s a b):=λN Q O=>by
 refine zFV N s a b Q λN1 ab=>wo _ N1 _ λN2 ac _=>?_
 by_cases I:inB a 0 10006=true
 rotate_left
 ·have I:inB a 0 10006=false:=by simpa using I
  rw [I]
  simp only [Bool.not_false,zIe]
  have e:yF s a b=(0,false):=by unfold yF;rw [if_neg (by rw [I];decide)]
  exact λN3 U=>Qp (b:=(0,false)) (O N3 (by omega)) e
 rw [I]
 simp only [lI,zDd]
 intro N4 ae
 refine wo _ N4 _ λN5 ah _=>?_
 by_cases J:inB b 0 10006=true
 rotate_left
 ·have J:inB b 0 10006=false:=by simpa using J
  rw [J]
  simp only [Bool.not_false,zIe]
  have e:yF s a b=(0,false):=by unfold yF;rw [if_pos I,if_neg (by rw [J];decide)]
  exact λN3 U=>Qp (b:=(0,false)) (O N3 (by omega)) e
 rw [J]
 simp only [lI,zDd]
 have Y:=yE.1 I
 have aa:=yE.1 J
 have hm:=zQ4 Y aa
 rw [i64_in (a+b) (by omega),i64_in (a - b) (by omega),i64_in (a*b) (by omega)]
 have fin:∀ (x:Int) (y:Bool) (N':Nat),N<=N'->yF s a b=(x,y)->Q x y N':=λx y N' h e=>Qp (b:=(x,y)) (O N' h) e
 unfold yF at fin
 rw [if_pos I,if_pos J] at fin
 clear O
 repeat' first|with_reducible intro _|simp only[Y1,Y2,Y3,Y4]|with_reducible refine X ?_ ?_|refine⟨_,_,_,rfl,?_⟩|refine⟨_,rfl,?_⟩|refine And.intro (by first|omega|trivial|(show _=_;rfl)|(with_reducible constructor)<;>first|omega|trivial|rfl) ?_|refine (zHY _) _ _ ?_|refine (zTq _) _ _ ?_|fail
 all_goals
  refine fin _ _ _ (by omega) ?_
  (repeat' split)<;>first | rfl | contradiction | (simp_all;done) | (congr 1;rw [show (a==1)=false by simpa using ‹¬a=1›];rfl)
theorem zFY {t:Ty} {d:D} (hd:t.Is d) (n:Int):vl 33 [.dg 2 d,.j n] (zFZ t n):=λN Q O=>by
 cases t with
 | mk k l=>
 obtain ⟨a,es,c,rfl,U,Y⟩:=Ty.is_mk.1 hd
 refine zFl N _ n Q λ_=>⟨_,rfl,Br.beq (λh N1 aa=>?_) λh N4 ab=>?_⟩
 ·refine yk _ _ _ N1 _ λN2 I _ N3 J=>Qb (O _ (by omega)) ?_
  unfold zFZ;rw [show (Ty.mk k l).k=k from rfl,if_pos h]
 ·refine yk _ _ _ N4 _ λN2 I _ N3 J=>Qb (O _ (by omega)) ?_
  unfold zFZ;rw [show (Ty.mk k l).k=k from rfl,if_neg h]
theorem zI1 {t:Ty} {d:D} (hd:t.Is d) (n:Int):vl 74 [.dg 2 d,.j n] (zFZ t n):=λN Q O=>by
 cases t with
 | mk k l=>
 obtain ⟨a,es,c,rfl,U,Y⟩:=Ty.is_mk.1 hd
 refine zIw N _ n Q λ_=>⟨_,rfl,Br.beq (λh N1 aa=>?_) λh N4 ab=>?_⟩
 ·refine z9 _ _ _ N1 _ λN2 I _ N3 J=>Qb (O _ (by omega)) ?_
  unfold zFZ;rw [show (Ty.mk k l).k=k from rfl,if_pos h]
 ·refine wo _ N4 _ λN2 I _ N3 J=>Qb (O _ (by omega)) ?_
  unfold zFZ;rw [show (Ty.mk k l).k=k from rfl,if_neg h]
def nbD (b:Nb):D:=.ag [.t b.1,.j b.2]
theorem zS0 {v:List Nb} {i:Nat} {b:Nb} (h:v[i]?=some b):(v.map nbD).getD i default=nbD b:=by simp [oA,h]
theorem zB1:∀ {l:List Tm} {g:List Tg} {n:Int} {I:List Ty},zh l g n=some I->∀ x∈l,∃ u,x.type g n=some u
 | y::ys,g,n,I,h,x,hx=>by
   obtain ⟨u,vs,J,O,_⟩:=xU h
   rcases oG.1 hx with rfl | hx
   ·exact ⟨u,J⟩
   ·exact zB1 O x hx
theorem qb {k:Int} {nm ot:ByteArray} {n m:Int} {ty re:Ty} {l:List Tm} {g:List Tg} {u:Ty} (h:(Tm.mk k nm ot n ty re l).type g m=some u) (J:k=4\/k=5):∃ I,zh l g m=some I/\y9 k nm I=some u:=by
 simp only [Tm.type] at h
 obtain ⟨h,_⟩:=zBV h
 rw [if_neg (by omega),if_neg (by omega),if_neg (by omega),if_neg (by omega),if_neg (by omega),if_neg (by omega),if_neg (by omega)] at h
 split at h
 ·exact ⟨_,by assumption,h⟩
 ·cases h
theorem zLU {nm ot:ByteArray} {n m:Int} {ty re:Ty} {I J:Tm} {g:List Tg} {u:Ty} (h:(Tm.mk 8 nm ot n ty re [I,J]).type g m=some u):∃ a,I.type g m=some a/\J.type (g++[⟨nm,a,m⟩]) m=some u:=by
 simp only [Tm.type] at h
 obtain ⟨h,_⟩:=zBV h
 rw [if_neg (by omega),if_neg (by omega),if_neg (by omega),if_neg (by omega)] at h
 simp only [mE,vo] at h
 split at h
 ·exact ⟨_,by assumption,h⟩
 ·cases h
theorem zP7 {nm ot:ByteArray} {n m:Int} {ty re:Ty} {l:List Tm} {g:List Tg} {u:Ty} (h:(Tm.mk 1 nm ot n ty re l).type g m=some u):qo g nm m=some u:=by
 simp only [Tm.type] at h
 exact (zBV h).1
theorem zRy (s:ByteArray):zF6 s=0\/zF6 s=1\/zF6 s=2:=by unfold zF6;(repeat' split)<;>simp
/-- an operation's parts: one or two -/
theorem zMF {nm ot:ByteArray} {n:Int} {ty re:Ty} {l:List Tm} {es:List D} (h:(Tm.mk 4 nm ot n ty re l).ok=true) (U:All2 Tm.Is l es):(∃ I d0,l=[I]/\es=[d0]/\I.Is d0)\/∃ I O d0 d1,l=[I,O]/\es=[d0,d1]/\I.Is d0/\O.Is d1:=by
 have node:=yW h
 have J:=node.ar
 have hf:=node.f
 simp only [zK,x9,oI] at hf
 have hn:=hf.2.2.2.2.2
 simp only [mE,oI,nO] at hn
 rw [show zCx 4 nm=zF6 nm from rfl] at J
 have ho:=zRy nm
 match l,es,U with
 | [I],_,⟨d0,ds,e1,Y,e2⟩=>subst e2;subst e1;exact .inl ⟨I,d0,rfl,rfl,Y⟩
 | [I,O],_,⟨d0,ds,e1,Y,d1,aa,e2,h1,e3⟩=>subst e3;subst e2;subst e1;exact .inr ⟨I,O,d0,d1,rfl,rfl,Y,h1⟩
 | [],_,_=>simp at J;omega
 | _::_::_::_,_,_=>simp at J;omega
theorem zPL:∀ (t:Tm) (d:D),t.Is d->t.ok=true->t.isB=true->∀ (g:List Tg) (u:Ty),t.type g 0=some u->∀ (v:List Nb),Fit v g->∀ (a:Option Addr) (c:Nat),v.length+t.cnt<=1073741824 ->
  rN 34 [.dg 9 d,.sv a 2 (v.map nbD) c] (t.ev v):=by
 refine Tm.ind λk nm ot n0 ty re l ih d hd al hb g u hu v hf a c hc N Q I=>?_
 obtain ⟨t0,t1,r0,r1,a1,es,c1,rfl,hh,bg,ac⟩:=Tm.is_mk.1 hd
 have node:=yW al
 have am:=hb
 simp only [Tm.isB,oI,zAT,nS,yE,nl] at am
 obtain ⟨ae,hk⟩:=am
 simp only [Tm.cnt] at hc
 have ax:(v.map nbD).length=v.length:=by simp
 have O:∀ x∈l,∀ d,x.Is d->∀ g u,x.type g 0=some u->∀ v,Fit v g->∀ a c,v.length+x.cnt<=1073741824->rN 34 [.dg 9 d,.sv a 2 (v.map nbD) c] (x.ev v):=λx hx d hd=>ih x hx d hd (node.sub x hx) (tZ ae hx)
 refine zFS N _ a _ c Q λ_ _=>⟨_,rfl,Br.beq (λh1=>?_) λh1=>Br.beq (λh4=>?_) λh4=>Br.beq (λh5=>?_) λh5=>Br.beq (λh8=>?_) λh8=>?_⟩
 ·-- a name
  simp only [Tm.ev] at I
  rw [if_pos h1] at I
  have look:∀ (i:Nat),i<=v.length->∀ N1,N<=N1->(∀ N',N1<=N'->Q ((u4 nm (v.take i)).getD n0) N')->wL Q N a (v.map nbD) c ((i:Int) - 1) (.ag [.j k,.t nm,.t ot,.j n0,t0,t1,r0,r1,.sl a1 9 es c1]) N1:=by
   intro i
   induction i with
   | zero=>
     intro hi N1 ay U
     refine rJ _ _ _ _ _ _ _ _ ?_
     have e:decide (((0:Nat):Int) - 1≥0)=false:=by simp
     repeat' first|with_reducible intro _|simp only[e,Y1,Y2,Y3,Y4]|with_reducible refine X ?_ ?_|refine⟨_,_,_,rfl,?_⟩|refine⟨_,rfl,?_⟩|refine And.intro (by first|omega|trivial|(show _=_;rfl)|(with_reducible constructor)<;>first|omega|trivial|rfl) ?_|fail
     exact Qi (U _ (by omega)) rfl
   | succ i az=>
     intro hi N1 ay U
     have a0:i<v.length:=by omega
     have hg:v[i]?=some v[i]:=oE a0
     have a2:=zS0 hg
     refine rJ _ _ _ _ _ _ _ _ ?_
     have e0:(((i+1:Nat):Int) - 1)=(i:Int):=by omega
     have e:decide ((i:Int)≥0)=true:=mG (by omega)
     have ew:IntKind.i64.wrap ((i:Int) - 1)=(i:Int) - 1:=i64_in _ (by omega)
     rw [e0]
     rw [zX hg,xA] at U
     repeat' first|with_reducible intro _|simp only[e,ew,oH,a2,nbD,mE,eq_self,Y1,Y2,Y3,Y4]|with_reducible refine X ?_ ?_|refine⟨_,_,_,rfl,?_⟩|refine⟨_,rfl,?_⟩|refine And.intro (by first|omega|trivial|(show _=_;rfl)|(with_reducible constructor)<;>first|omega|trivial|rfl) ?_|fail
     ·rename_i hs _ _
      exact Qi (U _ (by omega)) (by rw [if_pos hs];rfl)
     ·rename_i hs
      exact az (by omega) N1 (by omega) λN' h=>Qi (U N' h) (by rw [if_neg hs])
  rw [ax,i64_in _ (by omega)]
  exact look v.length (oD _) N (oD _) (by rw [lH];exact I)
 ·-- an operation
  simp only [Tm.ev] at I
  rw [if_neg h1,if_pos h4] at I
  subst h4
  obtain ⟨ts,ah,_⟩:=qb hu (.inl rfl)
  have ai:=zB1 ah
  rcases zMF al ac with ⟨J,d0,rfl,rfl,i0⟩ | ⟨J,x1,d0,d1,rfl,rfl,i0,i1⟩
  ·obtain ⟨Y,aa⟩:=ai J (by simp)
   simp only [zR] at hc
   have c0:=O J (by simp) d0 i0 g Y aa v hf a c (by omega)
   have aj:=te nm (J.ev v) 0
   have e1:(([d0]:List D).length:Int)=1:=rfl
   repeat' first|with_reducible intro _|simp only[mM,oJ,oM,Y1,Y2,Y3,Y4]|with_reducible refine X ?_ ?_|refine⟨_,_,_,rfl,?_⟩|refine⟨_,rfl,?_⟩|refine And.intro (by first|omega|trivial|(show _=_;rfl)|(with_reducible constructor)<;>first|omega|trivial|rfl) ?_|refine c0 _ _ ?_|refine aj _ _ ?_|fail
   all_goals first
    | exact Qi (I _ (by omega)) rfl
    | (rename_i h _ _;simp at h)
  ·obtain ⟨Y,aa⟩:=ai J (by simp)
   obtain ⟨u1,a3⟩:=ai x1 (by simp)
   simp only [zR] at hc
   have c0:=O J (by simp) d0 i0 g Y aa v hf a c (by omega)
   have c1:=O x1 (by simp) d1 i1 g u1 a3 v hf a c (by omega)
   have aj:=te nm (J.ev v) (x1.ev v)
   repeat' first|with_reducible intro _|simp only[mM,mm,oJ,oM,Y1,Y2,Y3,Y4]|with_reducible refine X ?_ ?_|refine⟨_,_,_,rfl,?_⟩|refine⟨_,rfl,?_⟩|refine And.intro (by first|omega|trivial|(show _=_;rfl)|(with_reducible constructor)<;>first|omega|trivial|rfl) ?_|refine c0 _ _ ?_|refine c1 _ _ ?_|refine aj _ _ ?_|fail
   all_goals first
    | exact Qi (I _ (by omega)) rfl
    | (rename_i h _ _;simp at h)
 ·-- a condition
  have bh:=zDs
  simp only [Tm.ev] at I
  rw [if_neg h1,if_neg h4,if_pos h5] at I
  subst h5
  obtain ⟨ts,ah,ab⟩:=qb hu (.inr rfl)
  obtain ⟨J,x1,x2,d0,d1,d2,rfl,rfl,i0,i1,i2⟩:=zEy ac (node.ar.trans rfl)
  obtain ⟨Y,bv,e0,q6,e3⟩:=xU ah
  obtain ⟨u1,bw,e1,q7,e4⟩:=xU q6
  obtain ⟨u2,bz,e2,q8,e5⟩:=xU q7
  subst e5;subst e4;subst e3
  simp only [zR] at hc
  have c0:=O J (by simp) d0 i0 g Y e0 v hf a c (by omega)
  have c1:=O x1 (by simp) d1 i1 g u1 e1 v hf a c (by omega)
  have c2:=O x2 (by simp) d2 i2 g u2 e2 v hf a c (by omega)
  have aa:Y.k=2:=by
   unfold y9 at ab
   rw [if_neg (by omega),if_pos rfl] at ab
   split at ab
   ·rename_i a4;exact a4.1
   ·cases ab
  have hv:=zE2 aa (zDs J (node.sub _ (by simp)) (tZ ae (by simp)) g v hf Y e0)
  refine ⟨_,_,_,rfl,_,_,_,rfl,⟨by omega,by simp⟩,λa5 bi=>c0 a5 _ λb1 bj _=>?_⟩
  have a6:sw [J,x1,x2] 0 v=J.ev v:=rfl
  rw [a6] at I
  rcases hv with hv | hv
  ·rw [hv] at I ⊢
   rw [show IntKind.i64.wrap (2 - 0)=2 from rfl]
   refine ⟨⟨by omega,by simp⟩,λak ao=>c2 ak _ λa8 aq _ a9 au=>I _ (by omega)⟩
  ·rw [hv] at I ⊢
   rw [show IntKind.i64.wrap (2 - 1)=1 from rfl]
   refine ⟨⟨by omega,by simp⟩,λak ao=>c1 ak _ λa8 aq _ a9 au=>I _ (by omega)⟩
 ·-- a let
  simp only [Tm.ev] at I
  rw [if_neg h1,if_neg h4,if_neg h5,if_pos h8] at I
  subst h8
  obtain ⟨J,x1,d0,d1,rfl,rfl,i0,i1⟩:=zJ2 ac (node.ar.trans rfl)
  obtain ⟨Y,e0,e1⟩:=zLU hu
  simp only [zR] at hc
  have b2:=J.cnt_pos
  have c0:=O J (by simp) d0 i0 g Y e0 v hf a c (by omega)
  have ba:=hf.snoc (x:=⟨nm,Y,0⟩) (y:=(nm,J.ev v)) rfl (zDs J (node.sub _ (by simp)) (tZ ae (by simp)) g v hf Y e0)
  have bb:([]++v.map nbD)++[D.ag [.t nm,.j (J.ev v)]]=(v++[(nm,J.ev v)]).map nbD:=by simp [nbD]
  refine ⟨⟨rfl,rfl⟩,by unfold zA;simp;omega,λc5=>⟨_,_,_,rfl,⟨by omega,by simp⟩,_,rfl,_,_,_,rfl,⟨by omega,by simp⟩,λbc bm=>c0 bc _ λb6 bn _=>⟨⟨rfl,rfl⟩,by unfold zA;simp;omega,λc8=>⟨⟨rfl,rfl⟩,λa7 _ _ bd bp _=>?_⟩⟩⟩⟩
  rw [bb]
  refine O x1 (by simp) d1 i1 _ u e1 _ ba a7 c8 (by simp;omega) bd _ λb7 bq _ b9 bt=>?_
  exact I _ (by omega)
 ·simp only [Tm.ev] at I
  rw [if_neg h1,if_neg h4,if_neg h5,if_neg h8] at I
  exact ⟨_,rfl,λca aw=>I _ aw⟩
def plN (p:Pl):Nb:=(p.1,p.2.1)
theorem zNK (nm:ByteArray) (v:List Pl):(zM0 nm v).2.1=(u4 nm (v.map plN)).getD 0:=by
 unfold zM0 u4
 rw [<-List.map_reverse,List.find?_map]
 generalize v.reverse=u
 induction u with
 | nil=>rfl
 | cons x u I=>
   by_cases h:x.1=nm
   ·simp [plN,h]
   ·simp only [List.find?_cons,Function.comp,plN,h,decide_false] at I ⊢
    exact I
theorem zSj:∀ (t:Tm) (d:D),t.Is d->t.ok=true->t.isB=true->∀ (g:List Tg) (u:Ty),t.type g 0=some u->∀ (v:List Pl),Fit (v.map plN) g->∀ (a:Option Addr) (c:Nat),v.length+t.cnt<=1073741824 ->
  rN 32 [.sv a 3 (v.map plD) c,.dg 9 d] (t.ev (v.map plN)):=by
 refine Tm.ind λk nm ot n0 ty re l ih d hd ay hb g u hu v U a c hc N Q I=>?_
 obtain ⟨t0,t1,r0,r1,a1,es,c1,rfl,hh,bd,aj⟩:=Tm.is_mk.1 hd
 have node:=yW ay
 have az:=hb
 simp only [Tm.isB,oI,zAT,nS,yE,nl] at az
 obtain ⟨ak,hk⟩:=az
 simp only [Tm.cnt] at hc
 have O:∀ x∈l,∀ d,x.Is d->∀ g u,x.type g 0=some u->∀ v:List Pl,Fit (v.map plN) g->∀ a c,v.length+x.cnt<=1073741824->rN 32 [.sv a 3 (v.map plD) c,.dg 9 d] (x.ev (v.map plN)):=λx hx d hd=>ih x hx d hd (node.sub x hx) (tZ ak hx)
 refine p9 N a _ c _ Q λ_ _=>⟨_,rfl,Br.beq (λh1=>?_) λh1=>Br.beq (λh2=>?_) λh2=>Br.beq (λh3=>?_) λh3=>Br.beq (λh5=>?_) λh5=>Br.beq (λh8=>?_) λh8=>?_⟩
 ·simp only [Tm.ev] at I
  rw [if_pos h1] at I
  subst h1
  obtain ⟨m,e1,_⟩:=zOw U (zP7 hu)
  refine ⟨_,rfl,λN1 al=>?_⟩
  refine zSz v a c nm (by omega) N1 _ λN2 a0 _ _=>⟨_,rfl,λN3 am=>?_⟩
  exact Qi (I _ (by omega)) (by rw [zNK,e1];rfl)
 ·simp only [Tm.ev] at I
  rw [if_neg h1,if_neg (by omega),if_neg (by omega),if_neg (by omega)] at I
  exact ⟨_,rfl,λN5 ao=>I _ (by omega)⟩
 ·simp only [Tm.ev] at I
  rw [if_neg h1,if_neg (by omega),if_neg (by omega),if_neg (by omega)] at I
  exact ⟨_,rfl,λN5 ao=>I _ (by omega)⟩
 ·-- a condition
  simp only [Tm.ev] at I
  rw [if_neg h1,if_neg (by omega),if_pos h5] at I
  subst h5
  obtain ⟨ts,aq,ac⟩:=qb hu (.inr rfl)
  obtain ⟨J,x1,x2,d0,d1,d2,rfl,rfl,i0,i1,i2⟩:=zEy aj (node.ar.trans rfl)
  obtain ⟨Y,bi,e0,q6,e3⟩:=xU aq
  obtain ⟨u1,bj,e1,q7,e4⟩:=xU q6
  obtain ⟨u2,bm,e2,q8,e5⟩:=xU q7
  subst e5;subst e4;subst e3
  simp only [zR] at hc
  have c0:=O J (by simp) d0 i0 g Y e0 v U a c (by omega)
  have c1:=O x1 (by simp) d1 i1 g u1 e1 v U a c (by omega)
  have c2:=O x2 (by simp) d2 i2 g u2 e2 v U a c (by omega)
  have aa:Y.k=2:=by
   unfold y9 at ac
   rw [if_neg (by omega),if_pos rfl] at ac
   split at ac
   ·rename_i a8;exact a8.1
   ·cases ac
  have hv:=zE2 aa (zDs J (node.sub _ (by simp)) (tZ ak (by simp)) g _ U Y e0)
  refine ⟨_,_,_,rfl,_,_,_,rfl,⟨by omega,by simp⟩,λau a2=>c0 au _ λa9 a3 _=>?_⟩
  have ba:sw [J,x1,x2] 0 (v.map plN)=J.ev (v.map plN):=rfl
  rw [ba] at I
  rcases hv with hv | hv
  ·rw [hv] at I ⊢
   rw [show IntKind.i64.wrap (2 - 0)=2 from rfl]
   refine ⟨⟨by omega,by simp⟩,λab ae=>c2 ab _ λa5 ah _ aw ai=>I _ (by omega)⟩
  ·rw [hv] at I ⊢
   rw [show IntKind.i64.wrap (2 - 1)=1 from rfl]
   refine ⟨⟨by omega,by simp⟩,λab ae=>c1 ab _ λa5 ah _ aw ai=>I _ (by omega)⟩
 ·-- a let
  simp only [Tm.ev] at I
  rw [if_neg h1,if_neg (by omega),if_neg h5,if_pos h8] at I
  subst h8
  obtain ⟨J,x1,d0,d1,rfl,rfl,i0,i1⟩:=zJ2 aj (node.ar.trans rfl)
  obtain ⟨Y,e0,e1⟩:=zLU hu
  simp only [zR] at hc
  have bn:=J.cnt_pos
  have c0:=O J (by simp) d0 i0 g Y e0 v U a c (by omega)
  have a6:=U.snoc (x:=⟨nm,Y,0⟩) (y:=(nm,J.ev (v.map plN))) rfl (zDs J (node.sub _ (by simp)) (tZ ak (by simp)) g _ U Y e0)
  have a7:v.map plN++[(nm,J.ev (v.map plN))]=(v++[(nm,J.ev (v.map plN),false)]).map plN:=by simp [plN]
  rw [a7] at a6
  refine ⟨_,rfl,_,_,_,rfl,⟨by omega,by simp⟩,_,_,_,rfl,⟨by omega,by simp⟩,λau a2=>c0 au _ λa9 a3 _ ab ae=>?_⟩
  refine zSg v (by omega) (nm,J.ev (v.map plN),false) a c ab _ λa4 c4 a5 ah _ _ _ aw ai=>?_
  refine O x1 (by simp) d1 i1 _ u e1 _ a6 a4 c4 (by simp;omega) aw _ λbp bg _ bq bh=>?_
  rw [<-a7]
  exact I _ (by omega)
 ·-- an operation
  have h4:k=4:=by omega
  simp only [Tm.ev] at I
  rw [if_neg h1,if_pos h4] at I
  subst h4
  obtain ⟨ts,aq,_⟩:=qb hu (.inl rfl)
  have ax:=zB1 aq
  have w1:IntKind.i64.wrap ((0:Int)+1)=1:=rfl
  have w2:IntKind.i64.wrap ((1:Int)+1)=2:=rfl
  refine ⟨_,_,_,rfl,?_⟩
  rcases zMF ay aj with ⟨J,d0,rfl,rfl,i0⟩ | ⟨J,x1,d0,d1,rfl,rfl,i0,i1⟩
  ·obtain ⟨Y,aa⟩:=ax J (by simp)
   simp only [zR] at hc
   have c0:=O J (by simp) d0 i0 g Y aa v U a c (by omega)
   refine zr _ _ _ _ _ _ _ _ _ _ _ _ _ _ _ _ (Br.dec (λ_=>⟨⟨by omega,by simp⟩,λN1 al=>c0 N1 _ λN2 a0 _=>⟨⟨by omega,by omega,by simp⟩,by simp,?_⟩⟩) λh=>absurd h (by simp))
   rw [w1]
   refine zr _ _ _ _ _ _ _ _ _ _ _ _ _ _ _ _ (Br.dec (λh=>absurd h (by simp)) λ_=>⟨_,rfl,⟨by omega,by omega,by simp⟩,by simp,_,rfl,⟨by omega,by omega,by simp⟩,by simp,_,rfl,λN3 am=>?_⟩)
   exact pE nm (J.ev (v.map plN)) 0 N3 _ λN4 bb _ N5 ao=>I _ (by omega)
  ·obtain ⟨Y,aa⟩:=ax J (by simp)
   obtain ⟨u1,bc⟩:=ax x1 (by simp)
   simp only [zR] at hc
   have c0:=O J (by simp) d0 i0 g Y aa v U a c (by omega)
   have c1:=O x1 (by simp) d1 i1 g u1 bc v U a c (by omega)
   refine zr _ _ _ _ _ _ _ _ _ _ _ _ _ _ _ _ (Br.dec (λ_=>⟨⟨by omega,by simp⟩,λN1 al=>c0 N1 _ λN2 a0 _=>⟨⟨by omega,by omega,by simp⟩,by simp,?_⟩⟩) λh=>absurd h (by simp))
   rw [w1]
   refine zr _ _ _ _ _ _ _ _ _ _ _ _ _ _ _ _ (Br.dec (λ_=>⟨⟨by omega,by simp⟩,λN1 al=>c1 N1 _ λN3 am _=>⟨⟨by omega,by omega,by simp⟩,by simp,?_⟩⟩) λh=>absurd h (by simp))
   rw [w2]
   refine zr _ _ _ _ _ _ _ _ _ _ _ _ _ _ _ _ (Br.dec (λh=>absurd h (by simp)) λ_=>⟨_,rfl,⟨by omega,by omega,by simp⟩,by simp,_,rfl,⟨by omega,by omega,by simp⟩,by simp,_,rfl,λN3 am=>?_⟩)
   exact pE nm (J.ev (v.map plN)) (x1.ev (v.map plN)) N3 _ λN4 bb _ N5 ao=>I _ (by omega)
end Go.Proofs.YtlahkdflngobiaaGreat
