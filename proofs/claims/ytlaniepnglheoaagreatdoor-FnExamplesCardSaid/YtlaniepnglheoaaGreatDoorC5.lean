/- Binders, one within the other; a weight that counts them (no program in sight). -/
import Derived.Test.YtlaniepnglheoaaGreatDoorA9
import Derived.Test.YtlaniepnglheoaaGreatDoorA5
import Derived.Test.YtlaniepnglheoaaGreatDoorA1
import Derived.Test.YtlaniepnglheoaaGreatDoorKa
import Derived.Test.YtlaniepnglheoaaGreatDoorKf
import Derived.Test.YtlaniepnglheoaaGreatDoorKe
import Derived.Test.YtlaniepnglheoaaGreatDoorKd
import Derived.Test.YtlaniepnglheoaaGreatDoorC1
set_option linter.unusedVariables false
set_option linter.unusedSimpArgs false
namespace Go.Proofs.YtlaniepnglheoaaGreatDoor
open Go Go.Proofs Go.Proofs.Tryz Go.IntWalk
def bn (k:Int):Nat:=if k=6 then 1 else if k=8 then 1 else if k=9 then 2 else 0
theorem zAz k:bn k<=2:=by
 unfold bn;split
 ·decide
 ·split
  ·decide
  ·split<;>decide
mutual
def Tm.bd:Tm->Nat
 | .mk k _ _ _ _ _ l=>bn k+zAa l
def zAa:aP->Nat
 | []=>0
 | t::ts=>max t.bd (zAa ts)
end
mutual
def Tm.wt:Tm->Nat
 | .mk k _ _ _ ty re l=>1+ty.cnt+re.cnt+2 ^ bn k*rd l
def rd:aP->Nat
 | []=>0
 | t::ts=>t.wt+rd ts
end
theorem zAf k n:n<=2 ^ bn k*n:=Nat.le_mul_of_pos_left _ (Nat.two_pow_pos _)
theorem Qd {f}:∀ {l:aP},(∀ x∈l,f x<=x.wt)->(l.map f).sum<=rd l
 | [],_=>by simp[rd]
 | t::ts,h=>by have J:=h t aB;have O:=Qd (l:=ts) λx I=>h x (by simp[I]);simp only[o9,List.sum_cons,rd];omega
theorem J2:∀ l:aP,xC l=(l.map Tm.cnt).sum
 | []=>rfl
 | t::ts=>by simp only[xC,o9,List.sum_cons,J2 ts]
theorem Tm.cnt_wt:∀ t:Tm,t.cnt<=t.wt:=by
 refine Tm.ind λk nm ot n ty re l I=>?_;have h:=Qd I
 have:=zAf k (rd l)
 simp only[Tm.cnt,Tm.wt,J2];omega
def Oj (l:List Int):aM:=l.map λn=>.j n
theorem TD l:(Oj l).length=l.length:=by simp[Oj]
theorem Z6 k n:(Tm.mk k (bytes []) (bytes []) n (.mk 0 []) (.mk 0 []) []).Is (.ag [.j k,.t (bytes []),.t (bytes []),.j n,.j 0,.sl none 2 [] 0,.j 0,.sl none 2 [] 0,.sl none 9 [] 0]):=
 Tm.is_mk.2 ⟨_,_,_,_,_,_,_,rfl,⟨aD,aD,wB _,wB _⟩,aB,rfl⟩
end Go.Proofs.YtlaniepnglheoaaGreatDoor
set_option maxRecDepth 100000
namespace Go.Proofs.YtlaniepnglheoaaGreatDoor
open Go Go.Proofs Go.Proofs.Tryz Go.IntWalk
variable {es:aM} {i:Int}
theorem K0 {l:aM}{i}(h:i<l.length):l.getD i default∈l:=by rw[oA,oH h];exact mN h
structure Cu (es:aM) (i:Int):Prop where
 b:∀ d∈es,∃ n:Int,d=.lit (.int .u8 n)
 l:es.length<=1073741824
 lo:0<=i
 hi:i<=es.length
theorem Pe x:0<=IntKind.i64.wrap ((BitVec.ofInt 64 x &&& BitVec.ofInt 64 255).toNat:Int)/\IntKind.i64.wrap ((BitVec.ofInt 64 x &&& BitVec.ofInt 64 255).toNat:Int)<=255:=by
 have h:(BitVec.ofInt 64 x &&& BitVec.ofInt 64 255).toNat<=255:=by rw[BitVec.toNat_and];exact oR Nat.and_le_right aD
 rw[i64_in _ aA];omega
theorem Zl (hb:∀ d∈es,∃ n:Int,d=.lit (.int .u8 n))(hl:es.length<=1073741824) a c N(Q:QT [.cu])(O:∀ h N',N<=N'->Cu es 0->Q a es c 0 h N'):ACalls prog 32 [.cu] [.sv a 0 es c] N Q:=by
 refine Nv N a es c Q λ_=>?_;have fin:∀ h N',N<=N'->Q a es c 0 h N':=λh N' I=>O h N' I ⟨hb,hl,aA,aA⟩;have key:∀(n i:Nat) (h:Int) (N':Nat),i+n=es.length->N<=N'->uT Q N a es c h i N':=by
  intro n
  induction n with
  | zero=>intro i h N' hi I;refine BT ?_;rw[nX aA];exact λN1 J=>fin _ _ aA
  | succ n U=>
    intro i h N' hi I;refine BT ?_;rw[nh aA];rw[Y1.2.2.1];rcases Int.lt_or_le (i:Int) 4000 with h4 | h4
    rotate_left
    ·rw[nX aA];exact λN1 J=>fin _ _ aA
    rw[nh h4,Y1.2.2.1];refine And.intro ⟨aA,aA⟩ ?_;rw[oI];obtain⟨x,Y⟩:=hb (es.getD i default) (K0 aA);refine⟨x,Y,?_⟩;rw[i64_in ((i:Int)+1) aA];exact U (i+1) _ N' aA I
 exact key es.length 0 _ N aA (oC _)
theorem Mc (hc:Cu es i) a c h N(Q:QT [.i,.sl 0,.i,.i])(U:∀ x Y J c' i' h' N',N<=N'->Cu J i'->0<=x->x<=255->Q x Y J c' i' h' N'):BCalls prog 67 [.i,.sl 0,.i,.i] [.pb 0 0 0 0] [.var [.sv a 0 es c,.j i,.j h]] N Q:=by
 have h1:=hc.lo;have h2:=hc.hi;have h3:=hc.l;refine Fr N a es c i h Q λE _=>⟨aA,aA,Br.dec (λO=>⟨⟨h1,O⟩,?_⟩) λ_=>⟨zN,λN1 I=>U _ _ _ _ _ _ _ I hc (Pe _).1 (Pe _).2⟩⟩
 obtain⟨x,hx⟩:=hc.b (es.getD i.toNat default) (K0 aA);refine⟨x,hx,zN,λN1 I=>U _ _ _ _ _ _ _ I ?_ (Pe _).1 (Pe _).2⟩;rw[i64_in (i+1) aA];exact⟨hc.b,hc.l,aA,aA⟩
theorem xE (hc:Cu es i) n(hn:n<=4294967296) a c h N(Q:QT [.i,.sl 0,.i,.i])(hQ:∀ x O J U i' Y N',N<=N'->Cu J i'->0<=x->(0<n->x<n)->(n<=0->x=0)->Q x O J U i' Y N'):BCalls prog 31 [.i,.sl 0,.i,.i] [.pb 0 0 0 0,.j n] [.var [.sv a 0 es c,.j i,.j h]] N Q:=by
 have tm:∀ x:Int,0<=x->0<n->0<=Int.tmod x n/\Int.tmod x n<n:=λx hx h0=>⟨Int.tmod_nonneg _ hx,Int.tmod_lt_of_pos _ h0⟩
 refine El N n a es c i h Q λE _=>Br.dec (λh0=>⟨zN,λN1 aa=>hQ _ _ _ _ _ _ _ aa hc aA aA λ_=>rfl⟩) λh0=>Br.dec (λhs N1 aa=>?_) λhs N1 aa=>?_
 ·exact Mc hc a c h N1 _ λx O J U i' Y N2 ab I x0 x1 _ _=>⟨aA,zN,λN3 ac=>hQ _ _ _ _ _ _ _ aA I (tm x x0 aA).1 (λg=>(tm x x0 g).2) λg=>aA⟩
 ·refine Mc hc a c h N1 _ λx O J U i' Y N2 ab I x0 x1 _ _ N3 ac=>?_;refine Mc I O U Y N3 _ λy O J U i' Y N4 ae I y0 y1 _ _ N5 ah=>?_;refine Mc I O U Y N5 _ λz O J U i' Y N6 ai I z0 z1 _ _ N7 aj=>?_;refine Mc I O U Y N7 _ λw O J U i' Y N8 ak I w0 w1 _ _=>⟨aA,zN,λN9 al=>?_⟩
  have e:IntKind.i64.wrap (IntKind.i64.wrap (IntKind.i64.wrap (IntKind.i64.wrap (x*16777216)+IntKind.i64.wrap (y*65536))+IntKind.i64.wrap (z*256))+w)=x*16777216+y*65536+z*256+w:=by rw[i64_in (x*16777216) aA,i64_in (y*65536) aA,i64_in (z*256) aA,i64_in (x*16777216+y*65536) aA,i64_in (x*16777216+y*65536+z*256) aA,i64_in _ aA]
  have hq:=hQ (Int.tmod (x*16777216+y*65536+z*256+w) n) O J U i' Y N9 aA I (tm _ aA aA).1 (λg=>(tm _ aA g).2) λg=>aA
  rw[<-e]at hq;exact hq
theorem pH (hc:Cu es i) n(hn:n<=4294967296) a c h N(Q:QT [.bool,.sl 0,.i,.i])(hQ:∀ b O I U i' Y N',N<=N'->Cu I i'->Q b O I U i' Y N'):BCalls prog 33 [.bool,.sl 0,.i,.i] [.pb 0 0 0 0,.j n] [.var [.sv a 0 es c,.j i,.j h]] N Q:=
 Fs N n a es c i h Q λE _ N1 aa=>xE hc n hn a c h N1 _ λx O I U i' Y N2 ab J _ _ _ _ _=>⟨zN,λN3 ac=>hQ _ _ _ _ _ _ _ aA J⟩
theorem sQ (hc:Cu es i) l(h0:0<l.length)(hl:l.length<=4294967296) a c h k q N(Q:QT [.str,.sl 0,.i,.i,.sl 0])(hQ:∀ s U I Y i' h' N',N<=N'->Cu I i'->s∈l->Q s U I Y i' h' none (zA l) q N'):BCalls prog 74 [.str,.sl 0,.i,.i,.sl 0] [.pb 0 0 0 0,.sb 1 0 0 l.length k] [.var [.sv a 0 es c,.j i,.j h],.arr 9 0 (zA l) q] N Q:=by
 have aa:=zG l;refine Ft N l.length k a es c i h (zA l) q Q λE _ _ N1 ab=>?_;refine xE hc l.length aA a c h N1 _ λx U I Y i' h' N2 ac J x0 O _ _ _=>?_;have O:=O aA;have hx:x.toNat<l.length:=aA
 refine⟨⟨x0,O,aA⟩,aA,l[x.toNat],?_,zN,λN3 ae=>hQ _ _ _ _ _ _ _ aA J (mN hx)⟩;simp[zA,oA,oF,oH hx]
theorem pI (hc:Cu es i) l(h0:0<l.length)(hl:l.length<=4294967296) a c h k q N(Q:QT [.i,.sl 0,.i,.i,.sl 0])(hQ:∀ s U I Y i' h' N',N<=N'->Cu I i'->s∈l->Q s U I Y i' h' none (Oj l) q N'):BCalls prog 76 [.i,.sl 0,.i,.i,.sl 0] [.pb 0 0 0 0,.sb 1 0 0 l.length k] [.var [.sv a 0 es c,.j i,.j h],.arr 3 0 (Oj l) q] N Q:=by
 have aa:=TD l;refine Bp N l.length k a es c i h (Oj l) q Q λE _ _ N1 ab=>?_;refine xE hc l.length aA a c h N1 _ λx U I Y i' h' N2 ac J x0 O _ _ _=>?_;have O:=O aA;have hx:x.toNat<l.length:=aA
 refine⟨⟨x0,O,aA⟩,aA,l[x.toNat],?_,zN,λN3 ae=>hQ _ _ _ _ _ _ _ aA J (mN hx)⟩;simp[Oj,oA,oF,oH hx]
end Go.Proofs.YtlaniepnglheoaaGreatDoor
set_option maxRecDepth 100000
namespace Go.Proofs.YtlaniepnglheoaaGreatDoor
open Go Go.Proofs Go.Proofs.Tryz Go.IntWalk
variable {d:D} {es:aM} {m:Nat} {s:aG} {t:Ty}
def Some m d:=∃ t:Tm,t.Is d/\t.wt<=m
def SomB m d:=∃ t:Tm,t.Is d/\t.cnt<=m/\t.bd<=20
theorem SomB.mono {n}(h:SomB m d)(O:m<=n):SomB n d:=by obtain⟨t,I,U,J⟩:=h;exact⟨t,I,aA,J⟩
theorem Some.mono {n}(h:Some m d)(J:m<=n):Some n d:=by obtain⟨t,I,O⟩:=h;exact⟨t,I,aA⟩
theorem zAV:∀ {es:aM},(∀ d∈es,Some m d)->∃ l,All2 Tm.Is l es/\(∀ x∈l,x.wt<=m)
 | [],_=>⟨[],rfl,aB⟩
 | d::es,h=>by
   obtain⟨t,I,J⟩:=h d aB;obtain⟨l,O,U⟩:=zAV λx hx=>h x (nj d hx);exact⟨t::l,⟨d,es,rfl,I,O⟩,λx hx=>by
    rcases oK.1 hx with rfl | hx
    ·exact J
    ·exact U x hx⟩
theorem NY:∀ {l:aP},(∀ x∈l,x.wt<=m)->rd l<=l.length*m
 | [],_=>by simp[rd]
 | x::l,h=>by have J:=NY (l:=l) λy I=>h y (by simp[I]);have O:=h x aB;simp only[rd,oJ,nJ,mu];omega
theorem Ja k(hm:m<=1073741824)(I:∀ d∈es,Some m d)(hl:es.length<=1000) a c N(Q:QT [.ag 9])(hQ:∀ d' N',N<=N'->Some (3+es.length*m) d'->Own N N' d'->Q d' N')(hk:bn k=0:=by decide):ACalls prog 141 [.ag 9] [.j k,.sv a 9 es c] N Q:=by
 obtain⟨l,U,Y⟩:=zAV I;have J:=U.len;refine F9 k U aA (λx hx=>oR x.cnt_wt (oR (Y x hx) hm)) a c N _ λd' N' O hd ho=>hQ d' N' O ⟨_,hd,?_⟩ ho
 have:=NY Y
 simp only[Tm.wt,Ty.cnt,zI,hk,Nat.pow_zero,mu];rw[J];omega
theorem NK (h:Some m d)(hs:s.size<=4611686018427387904):Some m (.ag [d.cell 0,.t s,d.cell 2,d.cell 3,d.cell 4,d.cell 5,d.cell 6,d.cell 7,d.cell 8]):=by
 obtain⟨t,U,Y⟩:=h;cases t with
 | mk k nm ot n ty re l=>obtain⟨t0,t1,r0,r1,a,es,c,rfl,J,I,O⟩:=Tm.is_mk.1 U;exact⟨.mk k s ot n ty re l,Tm.is_mk.2 ⟨_,_,_,_,_,_,_,rfl,⟨hs,J.ot,J.ty,J.re⟩,I,O⟩,Y⟩
theorem Vw {N N'}(h:Some m d)(J:Own N N' d) s:Own N N' (.ag [d.cell 0,.t s,d.cell 2,d.cell 3,d.cell 4,d.cell 5,d.cell 6,d.cell 7,d.cell 8]):=by
 obtain⟨t,O,Y⟩:=h;cases t with
 | mk k nm ot n ty re l=>obtain⟨t0,t1,r0,r1,a,es,c,rfl,hh,I,U⟩:=Tm.is_mk.1 O;exact QE (v2:=.string s) J
theorem zBl (hs:s.size<=4611686018427387904)(U:m<=1073741824)(I:∀ d∈es,Some m d)(hl:es.length<=1000) a c N(Q:QT [.ag 9])(Y:∀ d' N',N<=N'->Some (3+es.length*m) d'->Own N N' d'->Q d' N'):ACalls prog 204 [.ag 9] [.str s,.sv a 9 es c] N Q:=
 PY N s a es c Q λ_ N1 J=>Ja 4 U I hl a c N1 _ λd' N2 aa hd ho _ _ N3 O=>Y _ _ aA (NK hd hs) ((Vw hd ho s).mono J O)
theorem C7 k n s(hs:s.size<=4611686018427387904):Some 3 (.ag [.j k,.t s,.t (bytes []),.j n,.j 0,.sl none 2 [] 0,.j 0,.sl none 2 [] 0,.sl none 9 [] 0]):=
 NK (s:=s) ⟨_,Z6 k n,by simp only[Tm.wt,Ty.cnt,zI,rd,Nat.mul_zero];omega⟩ hs
theorem zBA s(hs:s.size<=4611686018427387904) N(Q:QT [.ag 9])(J:∀ d' N',N<=N'->Some 3 d'->Q d' N'):ACalls prog 77 [.ag 9] [.str s] N Q:=
 AP N s Q λN1 I=>J _ _ I (C7 1 0 s hs)
theorem zA8 n N(Q:QT [.ag 9])(J:∀ d' N',N<=N'->Some 3 d'->Q d' N'):ACalls prog 149 [.ag 9] [.j n] N Q:=
 sk N n Q λN1 I=>J _ _ I (C7 2 n (bytes []) aD)
theorem Zk n N(Q:QT [.ag 9])(J:∀ d' N',N<=N'->Some 3 d'->Q d' N'):ACalls prog 80 [.ag 9] [.j n] N Q:=
 tI N n Q λN1 I=>J _ _ I (C7 3 n (bytes []) aD)
theorem zA9 (hs:s.size<=4611686018427387904)(hm:m<=1073741824){e}(hd:Some m d)(J:Some m e) N(Q:QT [.ag 9])(O:∀ d' N',N<=N'->Some (3+4*m) d'->Q d' N'):ACalls prog 201 [.ag 9] [.str s,.dg 9 d,.dg 9 e] N Q:=by
 obtain⟨t,U,h2⟩:=hd;obtain⟨u,Y,h4⟩:=J;have w1:=t.cnt_wt;have w2:=u.cnt_wt;refine Xh s hs t u d e U Y aA aA N _ λd' N' I hx _=>O d' N' I ⟨_,hx,?_⟩;simp only[Tm.letN,Tm.wt,Ty.cnt,zI,rd,show bn 8=1 from rfl];omega
theorem Xp (hs:s.size<=4611686018427387904){ty:Ty}{O}(h1:ty.Is O)(U:ty.cnt<=1073741824)(hm:m<=1073741824)(hd:Some m d) N(Q:QT [.ag 9])(hQ:∀ d' N',N<=N'->Some (2+ty.cnt+2*m) d'->Q d' N'):ACalls prog 138 [.ag 9] [.str s,.dg 2 O,.dg 9 d] N Q:=by
 obtain⟨t,h2,h3⟩:=hd;have w1:=t.cnt_wt;refine Nx N s O d Q λ_ _=>⟨⟨rfl,rfl⟩,λa _ N1 ab I=>?_⟩
 refine F9 6 (CP h2) aB (by simpa using(by omega:t.cnt<=1073741824)) a 1 N1 _ λx N2 ac hx ho _=>⟨xk I ho,λ_ N3 ae=>?_⟩
 refine zL ty O h1 U N3 _ λx' N4 ah Y ai _ _ N5 aj=>?_;obtain⟨t0,t1,r0,r1,a',es,c,rfl,hh,J,aa⟩:=Tm.is_mk.1 hx;refine hQ _ _ aA ⟨.mk 6 s (bytes []) 0 ty (.mk 0 []) [t],Tm.is_mk.2 ⟨_,_,_,_,_,_,_,rfl,⟨hs,hh.ot,Ty.is_cells Y,hh.re⟩,J,aa⟩,?_⟩;simp only[Tm.wt,Ty.cnt,zI,rd,show bn 6=1 from rfl];omega
theorem VG (hw:Wf t):t.cnt<=20->∀ {d:D} (_:t.Is d) (n:Int) {es:aM} {i:Int} (_:Cu es i) (a:aH) (c:Nat) (h:Int) (N:Nat) (Q:QT [.ag 9,.sl 0,.i,.i])
  (_:∀ d' a' O c' i' h' N',N<=N'->Cu O i'->Some (3*2 ^ t.cnt) d'->Q d' a' O c' i' h' N'),BCalls prog 135 [.ag 9,.sl 0,.i,.i] [.pb 0 0 0 0,.dg 2 d,.j n] [.var [.sv a 0 es c,.j i,.j h]] N Q:=by
 induction hw with
 | int=>
   intro hc d hd n es i I a c h N Q U;obtain⟨b,fs,k,rfl,_,h2⟩:=Ty.is_mk.1 hd;refine wJ N _ n a es c i h Q λE _ _=>⟨1,rfl,Br.beq (λ_ N1 Y=>?_) λh=>absurd rfl h⟩
   exact xE I 4 aA a c h N1 _ λx a' O c' i' h' N2 aa J _ _ _ _ _ N3 ab=>zA8 x N3 _ λd' N4 ac ae _ _=>⟨zN,λN5 ai=>U _ _ _ _ _ _ _ aA J (ae.mono (by simp[tInt,Ty.cnt,zI]))⟩
 | bool=>
   intro hc d hd n es i I a c h N Q U;obtain⟨b,fs,k,rfl,_,h2⟩:=Ty.is_mk.1 hd;refine wJ N _ n a es c i h Q λE _ _=>⟨2,rfl,Br.beq (λh=>absurd h aD) λ_=>Br.beq (λ_ N1 Y=>?_) λh=>absurd rfl h⟩
   exact xE I 2 aA a c h N1 _ λx a' O c' i' h' N2 aa J _ _ _ _ _ N3 ab=>Zk x N3 _ λd' N4 ac ae _ _=>⟨zN,λN5 ai=>U _ _ _ _ _ _ _ aA J (ae.mono (by simp[tBool,Ty.cnt,zI]))⟩
 | @fn u v hu hv aj ak=>
   intro hc d hd n es i I a c h N Q U;have ah:(wP u v).cnt=1+(u.cnt+(v.cnt+0)):=rfl;obtain⟨b,fs,k,rfl,al,d1,_,rfl,h3,d2,_,rfl,h4,rfl⟩:=Ty.is_mk.1 hd;refine wJ N _ n a es c i h Q λE _ _=>⟨3,rfl,Br.beq (λh=>absurd h aD) λ_=>Br.beq (λh=>absurd h aD) λ_=>Br.beq (λ_=>⟨_,_,_,rfl,⟨aB,aB⟩,_,_,_,rfl,⟨aB,aB⟩,λN1 Y=>?_⟩) λh=>absurd rfl h⟩
   refine ak aA h4 n I a c h N1 _ λx a' O c' i' h' N2 aa J hx _ _ _ N3 ab=>?_;have p6:2 ^ v.cnt<=2 ^ 20:=mH aA aA;refine Xp aD h3 aA aA hx N3 _ λy N4 ac hy _ _=>⟨zN,λN5 ai=>U _ _ _ _ _ _ _ aA J (hy.mono ?_)⟩
   have p1:=Nat.two_pow_pos v.cnt;have p2:2 ^ 1<=2 ^ u.cnt:=mH aA (by cases u;simp only[Ty.cnt];omega);have p3:u.cnt<2 ^ u.cnt:=Nat.lt_two_pow_self;have p4:=ol (2 ^ v.cnt) p2;have p5:=lE (2 ^ u.cnt) p1;rw[ah,show 1+(u.cnt+(v.cnt+0))=u.cnt+v.cnt+1 by omega,mo,Nat.pow_add];omega
 | @code u hu aj=>
   intro hc d hd n es i I a c h N Q U;have ah:(xW u).cnt=1+(u.cnt+0):=rfl;obtain⟨b,fs,k,rfl,al,d1,_,rfl,h3,rfl⟩:=Ty.is_mk.1 hd;refine wJ N _ n a es c i h Q λE _ _=>⟨4,rfl,Br.beq (λh=>absurd h aD) λ_=>Br.beq (λh=>absurd h aD) λ_=>Br.beq (λh=>absurd h aD) λ_=>⟨_,_,_,rfl,⟨aB,aB⟩,λN1 Y=>?_⟩⟩
   refine aj aA h3 _ I a c h N1 _ λx a' O c' i' h' N2 aa J hx _ _ _=>⟨⟨rfl,rfl⟩,⟨rfl,rfl⟩,⟨rfl,rfl⟩,λa7 N3 ab _=>⟨zN,λN4 ac=>U _ _ _ _ _ _ _ aA J ?_⟩⟩
   obtain⟨e,h5,h6⟩:=hx;refine⟨.mk 10 (bytes []) (bytes []) 0 (.mk 0 []) (.mk 0 []) [e],Tm.is_mk.2 ⟨_,_,_,_,_,_,_,rfl,⟨aD,aD,wB 0,wB 0⟩,aB,CP h5⟩,?_⟩;have p1:=Nat.two_pow_pos u.cnt;simp only[Tm.wt,Ty.cnt,zI,rd,show bn 10=0 from rfl];rw[ah,show 1+(u.cnt+0)=u.cnt+1 by omega,mo];omega
theorem OY (hw:Wf t)(hc:t.cnt<=9)(hd:t.Is d) n{i}(J:Cu es i) a c h N(Q:QT [.ag 9,.sl 0,.i,.i])(hQ:∀ d' O I U i' Y N',N<=N'->Cu I i'->Some 1536 d'->Q d' O I U i' Y N'):BCalls prog 135 [.ag 9,.sl 0,.i,.i] [.pb 0 0 0 0,.dg 2 d,.j n] [.var [.sv a 0 es c,.j i,.j h]] N Q:=
 VG hw aA hd n J a c h N Q λd' O I U i' Y N' h1 h2 h3=>hQ d' O I U i' Y N' h1 h2 (h3.mono (by have:2 ^ t.cnt<=2 ^ 9:=mH aA hc;omega))
theorem WL:Some 3 (.ag [.j 0,.t (bytes []),.t (bytes []),.j 0,.j 0,.sl none 2 [] 0,.j 0,.sl none 2 [] 0,.sl none 9 [] 0]):=C7 0 0 (bytes []) aD
theorem So {g es0}(J:Ctx g es0)(hg:g.length<=1000000)(hd:t.Is d) n a0 c0{i}(U:Cu es i) a c h N(Q:QT [.ag 9,.bool,.sl 0,.i,.i])(hQ:∀ d' b a' O c' i' h' N',N<=N'->Cu O i'->Some 3 d'->Q d' b a' O c' i' h' N'):BCalls prog 134 [.ag 9,.bool,.sl 0,.i,.i] [.pb 0 0 0 0,.sv a0 4 es0 c0,.dg 2 d,.j n] [.var [.sv a 0 es c,.j i,.j h]] N Q:=by
 have hl:=J.all.len;refine Em N a0 es0 c0 d n a es c i h Q λE _ _ _=>?_;refine up J.all J.len (λk xs=>∀(r:aM) (q N':Nat),N<=N'->(∀ x∈r,Some 3 x)->r.length<=k->zt E Q N a0 es0 c0 n r.length q k a es c i h d 0 (bytes []) (bytes []) 0 0 none [] 0 0 none [] 0 none [] 0 r q N') ?_ ?_ [] 0 N (oC _) aB aB
 ·intro k ab hk r q N' Y hr ac;refine qf _ _ _ _ _ _ _ _ _ _ _ _ _ _ _ _ _ _ _ _ _ _ _ _ _ _ _ _ _ _ _ _ _ _ ?_;rw[ab];refine Br.beq (λ_=>⟨zN,λN1 aa=>hQ _ _ _ _ _ _ _ _ aA U WL⟩) λh0 N1 aa=>?_;refine xE U _ aA a c h N1 _ λx a' O c' i' h' N2 ae ah x0 x1 _ _ _=>?_;have x1:=x1 aA;exact⟨⟨x0,x1,aA⟩,aA,zN,λN3 ai=>hQ _ _ _ _ _ _ _ _ aA ah (hr _ (K0 aA))⟩
 ·intro k x xs I _ ih r q N' Y hr ac;have hb:=I.b;obtain⟨t0,t1,aj,ak,al⟩:=I.r;have skip:∀ N'',N<=N''->zt E Q N a0 es0 c0 n r.length q (IntKind.i64.wrap ((k:Int)+1)) a es c i h d 0 (bytes []) (bytes []) 0 0 none [] 0 0 none [] 0 none [] 0 r q N'':=λN'' h=>by rw[I.w];exact ih r q N'' h hr aA
  refine qf _ _ _ _ _ _ _ _ _ _ _ _ _ _ _ _ _ _ _ _ _ _ _ _ _ _ _ _ _ _ _ _ _ _ ?_;rw[I.lt];simp only[oI];rw[aj];have bd:(0:Int)<=(k:Int)/\(k:Int)<(es0.length:Int):=⟨aA,aA⟩
  refine⟨bd,x.lv,rfl,Br.beq (λ_=>⟨bd,λN1 aa=>?_⟩) λ_=>skip N' Y⟩;refine wn x.ty t _ d al hd N1 _ λN2 ae _=>Br.of (λ_=>⟨bd,x.nm,rfl,λN3 ai=>?_⟩) λ_=>skip N2 aA;refine tC J a0 c0 x.nm N3 _ λN4 ao _=>Br.beq (λ_=>⟨bd,x.nm,rfl,λN5 aq=>?_⟩) λ_=>skip N4 aA;refine zBA x.nm ak N5 _ λy N6 au hy _ _=>⟨⟨by trivial,by trivial⟩,by unfold zB;rw[oG];simp only[oJ,oN];omega,λc1=>?_⟩
  rw[I.w];exact ih (r++[y]) c1 N6 aA (λz hz=>by
   rcases oM.1 hz with hz | hz
   ·exact hr z hz
   ·rw[oi]at hz;subst hz;exact hy) aF
end Go.Proofs.YtlaniepnglheoaaGreatDoor
set_option maxRecDepth 100000
namespace Go.Proofs.YtlaniepnglheoaaGreatDoor
open Go Go.Proofs Go.Proofs.Tryz Go.IntWalk
variable {t:Ty}
def Bs t:=t=tInt\/t=tBool
theorem Bs.wf (h:Bs t):Wf t:=by rcases h with rfl | rfl;exact .int;exact .bool
theorem Bs.cnt (h:Bs t):t.cnt=1:=by rcases h with rfl | rfl<;>rfl
theorem Bs.cell {d}(h:Bs t)(hd:t.Is d):∃ n:Int,d.cell 0=.j n:=by rcases h with rfl | rfl<;>obtain⟨b,fs,k,rfl,_,_⟩:=Ty.is_mk.1 hd<;>exact⟨_,rfl⟩
end Go.Proofs.YtlaniepnglheoaaGreatDoor
set_option maxRecDepth 100000
namespace Go.Proofs.YtlaniepnglheoaaGreatDoor
open Go Go.Proofs Go.Proofs.Tryz Go.IntWalk
variable {E:Env} {I s:aG} {J O U d x:D} {N N' m:Nat} {b i m6 n:Int} {es:aM}
def SmT m d:=∃ t:Ty,t.Is d/\t.cnt<=m
theorem SmT.mono {n}(h:SmT m d)(J:m<=n):SmT n d:=by obtain⟨t,I,O⟩:=h;exact⟨t,I,aA⟩
theorem SmT.cells (h:SmT m d):SmT m (.ag [d.cell 0,d.cell 1]):=by obtain⟨t,I,J⟩:=h;exact⟨t,Ty.is_cells I,J⟩
def Ex (d:D):Prop:=∃ k a es c,d=.ag [.j k,.sl a 2 es c]/\(c=es.length/\es.length<=1000)
theorem PE k:SmT 1 (.ag [.j k,.sl none 2 [] 0]):=⟨_,wB k,by simp[Ty.cnt,zI]⟩
theorem Sn (hm:m<=1073741824)(hd:SmT m d) N(Q:QT [.ag 2])(I:∀ d' N',N<=N'->SmT (1+m) d'->Ex d'->Q d' N'):ACalls prog 71 [.ag 2] [.dg 2 d] N Q:=by
 obtain⟨t,J,h2⟩:=hd;refine DW N d Q λ_ N1 O=>zL t d J aA N1 _ λx N2 U Y _ _ _=>⟨⟨rfl,rfl⟩,⟨rfl,rfl⟩,⟨rfl,rfl⟩,λa N3 aa _ N4 ab=>I _ _ aA ⟨xW t,Ty.is_mk.2 ⟨_,_,_,rfl,aB,x,[],rfl,Y,rfl⟩,?_⟩ ⟨_,_,_,_,rfl,rfl,aB⟩⟩
 simp only[xW,Ty.cnt,zI];omega
theorem Wj (hm:m<=1073741824){e}(hd:SmT m d)(I:SmT m e) N(Q:QT [.ag 2])(J:∀ d' N',N<=N'->SmT (1+2*m) d'->Ex d'->Q d' N'):ACalls prog 72 [.ag 2] [.dg 2 d,.dg 2 e] N Q:=by
 obtain⟨t,O,h2⟩:=hd;obtain⟨u,U,h4⟩:=I;refine FA N d e Q λ_ _ N1 Y=>zL t d O aA N1 _ λx N2 aa hx _ _ _ N3 ab=>zL u e U aA N3 _ λy N4 ac hy _ _ _=>⟨⟨rfl,rfl⟩,⟨rfl,rfl⟩,⟨rfl,rfl⟩,λa N5 ae _ N6 ah=>J _ _ aA ⟨wP t u,Ty.is_mk.2 ⟨_,_,_,rfl,aB,x,[y],rfl,hx,y,[],rfl,hy,rfl⟩,?_⟩ ⟨_,_,_,_,rfl,rfl,aB⟩⟩
 simp only[wP,Ty.cnt,zI];omega
def TyC (b:Int) (X:Nat):Prop:=∀(n:Int),n<=b->∀ {es:aM} {i:Int} (_:Cu es i) (a:aH) (c:Nat) (h:Int) (N:Nat) (Q:QT [.ag 2,.sl 0,.i,.i])
    (_:∀ d' J I O i' U N',N<=N'->Cu I i'->SmT X d'->Ex d'->Q d' J I O i' U N'),BCalls prog 143 [.ag 2,.sl 0,.i,.i] [.pb 0 0 0 0,.j n] [.var [.sv a 0 es c,.j i,.j h]] N Q
theorem zAd:TyC 1 1:=λn hn es i I a c h N Q O=>by refine qk N n a es c i h Q λE _=>Br.dec (λ_ N1 U=>?_) λg=>absurd aA g;exact pI (l:=[1,1,2]) I aD aD a c h 3 3 N1 _ λk a' Y c' i' h' N2 aa J _ _ _ _=>⟨zN,λN3 ab=>O _ _ _ _ _ _ _ aA J (PE k) ⟨_,_,_,_,rfl,rfl,aB⟩⟩
theorem PN {X}(hb:b<=1000)(hX:1<=X)(a8:X<=1000000)(ih:TyC b X):TyC (b+1) (1+2*X):=λn hn es i I a c h N Q hQ=>by
 have pk:∀(E:Env) {es:aM} {i:Int} (_:Cu es i) a c h N1,N<=N1->BCalls prog 76 [.i,.sl 0,.i,.i,.sl 0] [.pb 0 0 0 0,.sb 1 0 0 3 3] [.var [.sv a 0 es c,.j i,.j h],.arr 3 0 (Oj [1,1,2]) 3] N1
   (λn a es c ac ae ah U ai N2=>N1<=N2->Bel N2 (D.sl a 0 es c)->Bel N2 (D.sl ah 0 U ai)->yg E [.var [.sv none 0 [] 0,.j 0,.j 0]]/\∀ N3,N2<=N3->Q (D.ag [D.j n,D.sl Option.none 2 [] 0]) a es c ac ae N3):=λE es i I a c h N1 J=>
  pI (l:=[1,1,2]) I aD aD a c h 3 3 N1 _ λk a' ba c' i' h' N2 aj ak _ _ _ _=>⟨zN,λN3 Y=>hQ _ _ _ _ _ _ _ aA ak ((PE k).mono aA) ⟨_,_,_,_,rfl,rfl,aB⟩⟩
 refine qk N n a es c i h Q λE _=>Br.dec (λ_ N1 J=>pk E I _ _ _ N1 J) λbb N1 J=>pH I 2 aA a c h N1 _ λb1 a1 bc c1 i1 h1 N2 aj aa _ _=>Br.of (λ_ N3 Y=>pk E aa _ _ _ N3 aA) λ_ N3 Y=>?_;refine pH aa 2 aA a1 c1 h1 N3 _ λb2 a2 bg c2 i2 h2 N4 bh ab _ _=>Br.of (λ_ N5 al=>?_) λ_ N5 al=>?_
 ·rw[i64_in (n - 1) aA];exact ih (n - 1) aA ab a2 c2 h2 N5 _ λd a3 ao c3 i3 h3 N6 aq O hd _ _ _ _ N7 au=>Sn aA hd N7 _ λe N8 aw he hx _ _=>⟨zN,λN9 ax=>hQ _ _ _ _ _ _ _ aA O (he.mono aA) hx⟩
 ·rw[i64_in (n - 1) aA];refine ih (n - 1) aA ab a2 c2 h2 N5 _ λd a3 ao c3 i3 h3 N6 aq O hd _ _ _ _ N7 au=>?_;exact ih (n - 1) aA O a3 c3 h3 N7 _ λd2 a4 bi c4 i4 h4 N8 aw ay az _ _ _ _ N9 ax=>Wj aA hd az N9 _ λe bj a6 he hx _ _=>⟨zN,λbm a7=>hQ _ _ _ _ _ _ _ aA ay he hx⟩
theorem Nd:TyC 2 3:=PN (b:=1) aA aA aA zAd
theorem Yw:TyC 4 15:=PN (b:=3) aA aA aA (PN (b:=2) aA aA aA Nd)
theorem Xn (I:Cu es i) a c h N(Q:QT [.ag 2,.sl 0,.i,.i])(hQ:∀ d' a' ae c' i' h' N',N<=N'->Cu ae i'->SmT 200 d'->Q d' a' ae c' i' h' N'):BCalls prog 78 [.ag 2,.sl 0,.i,.i] [.pb 0 0 0 0] [.var [.sv a 0 es c,.j i,.j h]] N Q:=by
 refine Fu N a es c i h Q λE _ N1 au=>Yw 4 aA I a c h N1 _ λd a1 aw c1 i1 h1 N2 ax aj hd hx _ _ _ N3 ay=>?_;have lc:∀(m:Nat) (y:D) (a es c i h) (N':Nat) (n4 n5:Int),n4<=n5+m->0<=n5->n4<=1000->m<=6->N<=N'->Cu es i->SmT (21 - m) y->wl E Q N n4 n5 a es c i h 0 none [] 0 y N':=by
  intro m
  induction m with
  | zero=>intro y a es c i h N' n4 n5 h1 h2 h5 h6 h3 I O;exact qc _ _ _ _ _ _ _ _ _ _ _ _ _ _ _ _ (Br.dec (λg=>aA) λ_=>⟨zN,λN4 J=>hQ _ _ _ _ _ _ _ aA I (O.mono aA)⟩)
  | succ m ab=>intro y a es c i h N' n4 n5 h1 h2 h5 h6 h3 I O;refine qc _ _ _ _ _ _ _ _ _ _ _ _ _ _ _ _ (Br.dec (λg N4 J=>Sn aA O N4 _ λe N5 U he _ _ _=>?_) λ_=>⟨zN,λN4 J=>hQ _ _ _ _ _ _ _ aA I (O.mono aA)⟩);rw[i64_in (n5+1) aA];exact ab _ _ _ _ _ _ _ _ _ aA aA aA aA aA I (he.mono aA)
 have lf:∀(m k:Nat) (y:D) (a es c i h) (N':Nat),m+k=3->N<=N'->Cu es i->SmT (16*2 ^ k - 1) y->wm E Q N k a es c i h 0 none [] 0 y N':=by
  have p3:∀ k:Nat,k<=3->2 ^ k<=8:=λk hk=>by rcases(by omega:k=0\/k=1\/k=2\/k=3)with rfl | rfl | rfl | rfl<;>decide
  intro m
  induction m with
  | zero=>
    intro k y a es c i h N' h1 h3 I O
    have:=p3 k aA
    exact qd _ _ _ _ _ _ _ _ _ _ _ _ _ _ _ (Br.dec (λg=>aA) λ_=>⟨zN,λN4 J=>hQ _ _ _ _ _ _ _ aA I (O.mono aA)⟩)
  | succ m ab=>
    intro k y a es c i h N' h1 h3 I O
    have:=p3 k aA
    have h0:1<=2 ^ k:=Nat.one_le_two_pow;refine qd _ _ _ _ _ _ _ _ _ _ _ _ _ _ _ (Br.dec (λg N4 J=>Wj aA O O N4 _ λe N5 U he _ _ _=>?_) λ_=>⟨zN,λN4 J=>hQ _ _ _ _ _ _ _ aA I (O.mono aA)⟩);rw[i64_in ((k:Int)+1) aA];exact ab (k+1) _ _ _ _ _ _ _ aA aA I (he.mono (by rw[mo];omega))
 obtain⟨k,ra,rs,rc,rfl,ak,az⟩:=hx;obtain⟨t,ht,ah⟩:=hd;obtain⟨k',l,rfl⟩:∃ k l,t=Ty.mk k l:=by cases t;exact⟨_,_,rfl⟩
 obtain⟨_,_,_,he,hl,Y⟩:=Ty.is_mk.1 ht;cases he;simp only[Ty.cnt]at ah;refine xE aj 10 aA a1 c1 h1 N3 _ λx a2 a6 c2 i2 h2 N4 J aa _ _ _ _ _=>Br.beq (λ_ N5 U=>?_) λ_=>Br.beq (λ_=>⟨_,_,_,rfl,λN5 U=>?_⟩) λ_=>Br.beq (λ_ N5 U=>?_) λ_=>Br.beq (λ_=>?_) λ_=>⟨zN,λN5 U=>hQ _ _ _ _ _ _ _ aA aa ⟨_,ht,by simp only[Ty.cnt];omega⟩⟩
 ·exact xE aa 6 aA a2 c2 h2 N5 _ λy a3 al c3 i3 h3 N6 ai ac _ _ _ _ _=>⟨zN,λN7 ao=>hQ _ _ _ _ _ _ _ aA ac ⟨.mk y l,Ty.is_mk.2 ⟨_,_,_,rfl,hl,Y⟩,by simp only[Ty.cnt];omega⟩⟩
 ·refine xy N5 _ λy N6 ai O _ _ _=>⟨?_,by unfold zB;rw[oG];simp only[oJ,oN];omega,λc4=>⟨⟨rfl,rfl⟩,⟨rfl,rfl⟩,⟨rfl,rfl⟩,⟨rfl,rfl⟩,λa4 N7 ao _=>⟨zN,λN8 a7=>hQ _ _ _ _ _ _ _ aA aa ⟨.mk k (l++[tInt]),Ty.is_mk.2 ⟨_,_,_,rfl,aF,Y.snoc O⟩,?_⟩⟩⟩⟩
  ·unfold Wb;split
   ·trivial
   ·exact⟨ak,aB⟩
  ·have:zI (l++[tInt])=zI l+1:=by
    clear ht ah Y hl
    induction l with
    | nil=>rfl
    | cons u l aq=>simp only[oq,zI,aq];omega
   simp only[Ty.cnt];omega
 ·refine xE aa 6 aA a2 c2 h2 N5 _ λy a3 al c3 i3 h3 N6 ai ac y0 y1 _ _ _=>?_;have y1:=y1 aA;simp only[i64_in (1+y) aA];exact lc 6 _ _ _ _ _ _ _ _ _ aA aA aA aA aA ac ⟨_,ht,by simp only[Ty.cnt];omega⟩
 ·exact lf 3 0 _ _ _ _ _ _ _ aA aA aa ⟨_,ht,by simp only[Ty.cnt];omega⟩
def PkT m(s I:aG) x J O U es:=∃(ty re:Ty) (l:aP),s.size<=4611686018427387904/\I.size<=4611686018427387904/\ty.Is (.ag [x,J])/\re.Is (.ag [O,U])/\All2 Tm.Is l es/\es.length<=1000/\1+ty.cnt+re.cnt+4*rd l<=m
theorem PkT.some (h:PkT m s I x J O U es) k n a c:Some m (.ag [.j k,.t s,.t I,.j n,x,J,O,U,.sl a 9 es c]):=by obtain⟨ty,re,l,Y,h2,h3,h4,h5,h6,h7⟩:=h;exact⟨.mk k s I n ty re l,Tm.is_mk.2 ⟨_,_,_,_,_,_,_,rfl,⟨Y,h2,h3,h4⟩,aA,h5⟩,by have h8:2 ^ bn k<=2 ^ 2:=mH aA (zAz k);have h9:=ol (rd l) h8;simp only[Tm.wt];omega⟩
theorem PkT.mono {n}(h:PkT m s I x J O U es)(hn:m<=n):PkT n s I x J O U es:=by obtain⟨ty,re,l,Y,h2,h3,h4,h5,h6,h7⟩:=h;exact⟨ty,re,l,Y,h2,h3,h4,h5,h6,aA⟩
theorem PkT.name (h:PkT m s I x J O U es){t}(ht:t.size<=1000):PkT m t I x J O U es:=by obtain⟨ty,re,l,h1,Y,h3,h4,h5,h6,h7⟩:=h;exact⟨ty,re,l,aA,Y,h3,h4,h5,h6,h7⟩
theorem PkT.other {U I}(h:PkT m s U x I J O es){t}(ht:t.size<=1000):PkT m s t x I J O es:=by obtain⟨ty,re,l,Y,h2,h3,h4,h5,h6,h7⟩:=h;exact⟨ty,re,l,Y,aA,h3,h4,h5,h6,h7⟩
theorem PkT.type {M Y y}(h:PkT m s I x Y J O es)(hy:SmT M (.ag [y,U])):PkT (m+M) s I y U J O es:=by obtain⟨ty,re,l,h1,h2,h3,h4,h5,h6,h7⟩:=h;obtain⟨t,h8,h9⟩:=hy;exact⟨t,re,l,h1,h2,h8,h4,h5,h6,aA⟩
theorem J4 t:∀ l:aP,rd (l++[t])=rd l+t.wt
 | []=>by simp[rd]
 | x::l=>by simp only[oq,rd,J4 t l];omega
theorem PkT.snoc {M}(h:PkT m s I x J O U es)(hd:Some M d)(hl:es.length<=999):PkT (m+4*M) s I x J O U (es++[d]):=by obtain⟨ty,re,l,Y,h2,h3,h4,h5,h6,h7⟩:=h;obtain⟨t,h8,h9⟩:=hd;exact⟨ty,re,l++[t],Y,h2,h3,h4,h5.snoc h8,aF,by rw[J4];omega⟩
theorem Js (hs:s.size<=1000)(Y:I.size<=1000)(h1:SmT 7 (.ag [x,J]))(h2:SmT 7 (.ag [O,U])):PkT 15 s I x J O U []:=by obtain⟨t,h3,h4⟩:=h1;obtain⟨u,h5,h6⟩:=h2;exact⟨t,u,[],aA,aA,h3,h5,rfl,aB,by simp only[rd];omega⟩
theorem PF:SmT 7 (.ag [D.j 0,D.sl none 2 [] 0]):=(PE 0).mono aA
def Pb (b:Int) (X:Nat):Prop:=∀(n:Int),n<=b->∀ {es:aM} {i:Int} (_:Cu es i) (a:aH) (c:Nat) (h:Int) (N:Nat) (Q:QT [.pk,.i,.str,.str,.i,.dc,.dc,.dc,.dc,.row 35 9,.sl 0,.i,.i])
    (_:∀ k s J n' x O U Y r q a' I c' i' h' N',N<=N'->Cu I i'->PkT X s J x O U Y r->r.length<=3->Q k s J n' x O U Y r q a' I c' i' h' N'),BCalls prog 75 [.pk,.i,.str,.str,.i,.dc,.dc,.dc,.dc,.row 35 9,.sl 0,.i,.i] [.pb 0 0 0 0,.j n] [.var [.sv a 0 es c,.j i,.j h]] N Q
theorem Wk (ah:Cu es i) a c h N(Q:QT [.pk,.i,.str,.str,.i,.dc,.dc,.dc,.dc,.row 35 9,.sl 0,.i,.i])(hQ:∀ k s s1 n' x x1 x2 x3 r q a' O c' i' h' N',N<=N'->Cu O i'->PkT 15 s s1 x x1 x2 x3 r->r.length<=3->Q k s s1 n' x x1 x2 x3 r q a' O c' i' h' N'):BCalls prog 142 [.pk,.i,.str,.str,.i,.dc,.dc,.dc,.dc,.row 35 9,.sl 0,.i,.i] [.pb 0 0 0 0] [.var [.sv a 0 es c,.j i,.j h]] N Q:=by
 have z:PkT 15 (bytes []) (bytes []) (D.j 0) (D.sl none 2 [] 0) (D.j 0) (D.sl none 2 [] 0) []:=Js aD aD PF PF;refine F0 N a es c i h Q λE _ N1 ai=>xE ah 4 aA a c h N1 _ λx a1 aj c1 i1 h1 N2 ak J _ _ _ _ _=>Br.beq (λ_ N3 U=>?_) λ_=>Br.beq (λ_ N3 U=>?_) λ_ N3 U=>?_
 ·exact pI (l:=[0,1,2,3,10006]) J aD aD a1 c1 h1 5 5 N3 _ λk a2 Y c2 i2 h2 N4 aa I _ _ _ _ N5 ab=>JH N5 k _ λN6 ac _ _=>⟨zN,⟨rfl,rfl⟩,λN7 ae=>hQ _ _ _ _ _ _ _ _ _ _ _ _ _ _ _ _ aA I z aB⟩
 ·exact xE J 2 aA a1 c1 h1 N3 _ λk a2 Y c2 i2 h2 N4 aa I _ _ _ _ _ N5 ab=>IE N5 k _ λN6 ac _ _=>⟨zN,⟨rfl,rfl⟩,λN7 ae=>hQ _ _ _ _ _ _ _ _ _ _ _ _ _ _ _ _ aA I z aB⟩
 ·refine sQ (l:=[bytes [120],bytes [121],bytes [102]]) J aD aD a1 c1 h1 3 3 N3 _ λs a2 Y c2 i2 h2 N4 aa I hs _ _ _ N5 ab=>BZ N5 s _ λN6 ac _ _=>⟨zN,⟨rfl,rfl⟩,λN7 ae=>hQ _ _ _ _ _ _ _ _ _ _ _ _ _ _ _ _ aA I (z.name ?_) aB⟩
  simp only[oK,nP,mn]at hs;rcases hs with rfl | rfl | rfl<;>decide
theorem XV:Pb 1 15:=λn hn es i I a c h N Q O=>AO N n a es c i h Q λE _=>Br.dec (λ_ N1 U=>Wk I a c h N1 _ λk s s1 n' x x1 x2 x3 r q a' Y c' i' h' N2 aa J hp hr _ _ _=>⟨zN,⟨rfl,rfl⟩,λN3 ab=>O _ _ _ _ _ _ _ _ _ _ _ _ _ _ _ _ aA J hp hr⟩) λg=>absurd aA g
theorem zAu {X}(hb:b<=1000)(hX:15<=X)(ih:Pb b X){Q:QT [.pk,.i,.str,.str,.i,.dc,.dc,.dc,.dc,.row 35 9,.sl 0,.i,.i]}(hn:n - 1<=b)(ah:2<=n) kd n3 s J O U Y x7(hm:m6<=3)(hQ:∀ r q a es c i h N',N<=N'->Cu es i->PkT (15+3*(4*X)) s J O U Y x7 r->r.length<=3->Q kd s J n3 O U Y x7 r q a es c i h N'):
  ∀(rem k:Nat) (r:aM) (q:Nat) a es c i h N',m6<=k+rem->k<=3->r.length=k->N<=N'->Cu es i->PkT (15+k*(4*X)) s J O U Y x7 r->vW E Q N n m6 k a es c i h 0 (bytes []) (bytes []) 0 0 none [] 0 0 none [] 0 none [] 0 kd s J n3 O U Y x7 r.length q r q N':=by
 intro rem
 induction rem with
 | zero=>intro k r q a es c i h N' h1 h2 h3 h4 I hp;have hk:k*(4*X)<=3*(4*X):=ol _ h2;refine ph _ _ _ _ _ _ _ _ _ _ _ _ _ _ _ _ _ _ _ _ _ _ _ _ _ _ _ _ _ _ _ _ _ _ _ _ _ _ _ (Br.dec (λg=>aA) λ_=>⟨zN,⟨rfl,rfl⟩,λN4 aa=>hQ _ _ _ _ _ _ _ _ aA I (hp.mono aA) aA⟩)
 | succ rem ab=>
   intro k r q a es c i h N' h1 h2 h3 h4 I hp;have hk:k*(4*X)<=3*(4*X):=ol _ h2;refine ph _ _ _ _ _ _ _ _ _ _ _ _ _ _ _ _ _ _ _ _ _ _ _ _ _ _ _ _ _ _ _ _ _ _ _ _ _ _ _ (Br.dec (λg N1 ai=>?_) λ_=>⟨zN,⟨rfl,rfl⟩,λN4 aa=>hQ _ _ _ _ _ _ _ _ aA I (hp.mono aA) aA⟩);rw[i64_in (n - 1) aA];refine ih (n - 1) hn I a c h N1 _ λk' t t1 n' y y1 y2 y3 aj c' a' ak c2 i2 h2 N2 al ac ae _ _ _ _=>⟨⟨rfl,rfl⟩,λa1 N3 ao _=>⟨⟨rfl,rfl⟩,by unfold zB;rw[oG];simp only[oJ,oN];omega,λc3=>?_⟩⟩
   rw[i64_in ((k:Int)+1) aA];exact ab (k+1) _ c3 _ _ _ _ _ _ aA aA (by simp[h3]) aA ac ((hp.snoc (ae.some _ _ _ _) aA).mono (by rw[nJ,mu];omega))
theorem zAt {X}(hb:b<=1000)(hX:15<=X)(ih:Pb b X){Q:QT [.pk,.i,.str,.str,.i,.dc,.dc,.dc,.dc,.row 35 9,.sl 0,.i,.i]}(hn:n - 1<=b)(J:2<=n) kd n3(hs:s.size<=1000)(O:I.size<=1000) U Y x6 x7(hT:SmT 7 (.ag [U,Y]))(hR:SmT 7 (.ag [x6,x7]))(hQ:∀ k s I n' x x1 x2 x3 r q a es c i h N',N<=N'->Cu es i->PkT (15+3*(4*X)) s I x x1 x2 x3 r->r.length<=3->Q k s I n' x x1 x2 x3 r q a es c i h N')(aa:Cu es i) a c h(ab:N<=N'):
  tS E Q N n a es c i h 0 (bytes []) (bytes []) 0 0 none [] 0 0 none [] 0 none [] 0 kd s I n3 U Y x6 x7 0 0 [] 0 N':=by
 refine HI _ _ _ _ _ _ _ _ _ _ _ _ _ _ _ _ _ _ _ _ _ _ _ _ _ _ _ _ _ _ _ _ _ _ _ _ _ ⟨⟨rfl,rfl⟩,λa7 _ N1 ac _=>wS N1 _ λN2 ae _=>zAu hb hX ih hn J kd n3 s I U Y x6 x7 (tT _ _) (λr q a es c i h N'=>hQ _ _ _ _ _ _ _ _ r q a es c i h N') 3 0 [] 0 a es c i h N2 (by have:=tT kd s;omega) aA rfl aA aa ((Js hs O hT hR).mono aA)⟩
theorem Ur {X}(hb:b<=1000)(hX:15<=X)(ih:Pb b X){Q:QT [.pk,.i,.str,.str,.i,.dc,.dc,.dc,.dc,.row 35 9,.sl 0,.i,.i]}(hn:n - 1<=b)(ah:2<=n) kd n3 s J O U(hm:m6<=3)(hQ:∀ r q a es c i h N',N<=N'->Cu es i->PkT (15+3*(4*X)) s J O U (D.j 0) (D.sl none 2 [] 0) r->r.length<=3->Q kd s J n3 O U (D.j 0) (D.sl none 2 [] 0) r q a es c i h N'):
  ∀(rem k:Nat) (r:aM) (q:Nat) a es c i h N',m6<=k+rem->k<=3->r.length=k->N<=N'->Cu es i->PkT (15+k*(4*X)) s J O U (D.j 0) (D.sl none 2 [] 0) r->xo E Q N n m6 k a es c i h 0 (bytes []) (bytes []) 0 0 none [] 0 0 none [] 0 none [] 0 kd s J n3 O U 0 none [] 0 r.length q r q N':=by
 intro rem
 induction rem with
 | zero=>intro k r q a es c i h N' h1 Y h3 h4 I hp;have hk:k*(4*X)<=3*(4*X):=ol _ Y;refine sY _ _ _ _ _ _ _ _ _ _ _ _ _ _ _ _ _ _ _ _ _ _ _ _ _ _ _ _ _ _ _ _ _ _ _ _ _ _ _ _ _ (Br.dec (λg=>aA) λ_=>⟨zN,⟨rfl,rfl⟩,λN4 aa=>hQ _ _ _ _ _ _ _ _ aA I (hp.mono aA) aA⟩)
 | succ rem ab=>
   intro k r q a es c i h N' h1 Y h3 h4 I hp;have hk:k*(4*X)<=3*(4*X):=ol _ Y;refine sY _ _ _ _ _ _ _ _ _ _ _ _ _ _ _ _ _ _ _ _ _ _ _ _ _ _ _ _ _ _ _ _ _ _ _ _ _ _ _ _ _ (Br.dec (λg N1 ai=>?_) λ_=>⟨zN,⟨rfl,rfl⟩,λN4 aa=>hQ _ _ _ _ _ _ _ _ aA I (hp.mono aA) aA⟩);rw[i64_in (n - 1) aA];refine ih (n - 1) hn I a c h N1 _ λk' t t1 n' y y1 y2 y3 aj c' a' ak c2 i2 Y N2 al ac ae _ _ _ _=>⟨⟨rfl,rfl⟩,λa1 N3 ao _=>⟨⟨rfl,rfl⟩,by unfold zB;rw[oG];simp only[oJ,oN];omega,λc3=>?_⟩⟩
   rw[i64_in ((k:Int)+1) aA];exact ab (k+1) _ c3 _ _ _ _ _ _ aA aA (by simp[h3]) aA ac ((hp.snoc (ae.some _ _ _ _) aA).mono (by rw[nJ,mu];omega))
theorem Uo {X}(hb:b<=1000)(hX:15<=X)(ih:Pb b X){Q:QT [.pk,.i,.str,.str,.i,.dc,.dc,.dc,.dc,.row 35 9,.sl 0,.i,.i]}(hn:n - 1<=b)(J:2<=n) kd n3(hs:s.size<=1000)(O:I.size<=1000) U Y(hT:SmT 7 (.ag [U,Y]))(hR:SmT 7 (.ag [(D.j 0),(D.sl none 2 [] 0)]))(hQ:∀ k s I n' x x1 x2 x3 r q a es c i h N',N<=N'->Cu es i->PkT (15+3*(4*X)) s I x x1 x2 x3 r->r.length<=3->Q k s I n' x x1 x2 x3 r q a es c i h N')(aa:Cu es i) a c h(ab:N<=N'):
  vT E Q N n a es c i h 0 (bytes []) (bytes []) 0 0 none [] 0 0 none [] 0 none [] 0 kd s I n3 U Y 0 none [] 0 0 0 [] 0 N':=by
 refine Cq _ _ _ _ _ _ _ _ _ _ _ _ _ _ _ _ _ _ _ _ _ _ _ _ _ _ _ _ _ _ _ _ _ _ _ _ _ _ _ ⟨⟨rfl,rfl⟩,λa7 _ N1 ac _=>wS N1 _ λN2 ae _=>Ur hb hX ih hn J kd n3 s I U Y (tT _ _) (λr q a es c i h N'=>hQ _ _ _ _ _ _ _ _ r q a es c i h N') 3 0 [] 0 a es c i h N2 (by have:=tT kd s;omega) aA rfl aA aa ((Js hs O hT hR).mono aA)⟩
theorem Us {X}(hb:b<=1000)(hX:15<=X)(ih:Pb b X){Q:QT [.pk,.i,.str,.str,.i,.dc,.dc,.dc,.dc,.row 35 9,.sl 0,.i,.i]}(hn:n - 1<=b)(ah:2<=n) kd n3 s J O U(hm:m6<=3)(hQ:∀ r q a es c i h N',N<=N'->Cu es i->PkT (15+3*(4*X)) s J (D.j 0) (D.sl none 2 [] 0) O U r->r.length<=3->Q kd s J n3 (D.j 0) (D.sl none 2 [] 0) O U r q a es c i h N'):
  ∀(rem k:Nat) (r:aM) (q:Nat) a es c i h N',m6<=k+rem->k<=3->r.length=k->N<=N'->Cu es i->PkT (15+k*(4*X)) s J (D.j 0) (D.sl none 2 [] 0) O U r->xp E Q N n m6 k a es c i h 0 (bytes []) (bytes []) 0 0 none [] 0 0 none [] 0 none [] 0 kd s J n3 0 none [] 0 O U r.length q r q N':=by
 intro rem
 induction rem with
 | zero=>intro k r q a es c i h N' h1 Y h3 h4 I hp;have hk:k*(4*X)<=3*(4*X):=ol _ Y;refine sZ _ _ _ _ _ _ _ _ _ _ _ _ _ _ _ _ _ _ _ _ _ _ _ _ _ _ _ _ _ _ _ _ _ _ _ _ _ _ _ _ _ (Br.dec (λg=>aA) λ_=>⟨zN,⟨rfl,rfl⟩,λN4 aa=>hQ _ _ _ _ _ _ _ _ aA I (hp.mono aA) aA⟩)
 | succ rem ab=>
   intro k r q a es c i h N' h1 Y h3 h4 I hp;have hk:k*(4*X)<=3*(4*X):=ol _ Y;refine sZ _ _ _ _ _ _ _ _ _ _ _ _ _ _ _ _ _ _ _ _ _ _ _ _ _ _ _ _ _ _ _ _ _ _ _ _ _ _ _ _ _ (Br.dec (λg N1 ai=>?_) λ_=>⟨zN,⟨rfl,rfl⟩,λN4 aa=>hQ _ _ _ _ _ _ _ _ aA I (hp.mono aA) aA⟩);rw[i64_in (n - 1) aA];refine ih (n - 1) hn I a c h N1 _ λk' t t1 n' y y1 y2 y3 aj c' a' ak c2 i2 Y N2 al ac ae _ _ _ _=>⟨⟨rfl,rfl⟩,λa1 N3 ao _=>⟨⟨rfl,rfl⟩,by unfold zB;rw[oG];simp only[oJ,oN];omega,λc3=>?_⟩⟩
   rw[i64_in ((k:Int)+1) aA];exact ab (k+1) _ c3 _ _ _ _ _ _ aA aA (by simp[h3]) aA ac ((hp.snoc (ae.some _ _ _ _) aA).mono (by rw[nJ,mu];omega))
theorem Up {X}(hb:b<=1000)(hX:15<=X)(ih:Pb b X){Q:QT [.pk,.i,.str,.str,.i,.dc,.dc,.dc,.dc,.row 35 9,.sl 0,.i,.i]}(hn:n - 1<=b)(J:2<=n) kd n3(hs:s.size<=1000)(O:I.size<=1000) U Y(hT:SmT 7 (.ag [(D.j 0),(D.sl none 2 [] 0)]))(hR:SmT 7 (.ag [U,Y]))(hQ:∀ k s I n' x x1 x2 x3 r q a es c i h N',N<=N'->Cu es i->PkT (15+3*(4*X)) s I x x1 x2 x3 r->r.length<=3->Q k s I n' x x1 x2 x3 r q a es c i h N')(aa:Cu es i) a c h(ab:N<=N'):
  vU E Q N n a es c i h 0 (bytes []) (bytes []) 0 0 none [] 0 0 none [] 0 none [] 0 kd s I n3 0 none [] 0 U Y 0 0 [] 0 N':=by
 refine Cr _ _ _ _ _ _ _ _ _ _ _ _ _ _ _ _ _ _ _ _ _ _ _ _ _ _ _ _ _ _ _ _ _ _ _ _ _ _ _ ⟨⟨rfl,rfl⟩,λa7 _ N1 ac _=>wS N1 _ λN2 ae _=>Us hb hX ih hn J kd n3 s I U Y (tT _ _) (λr q a es c i h N'=>hQ _ _ _ _ _ _ _ _ r q a es c i h N') 3 0 [] 0 a es c i h N2 (by have:=tT kd s;omega) aA rfl aA aa ((Js hs O hT hR).mono aA)⟩
theorem Ut {X}(hb:b<=1000)(hX:15<=X)(ih:Pb b X){Q:QT [.pk,.i,.str,.str,.i,.dc,.dc,.dc,.dc,.row 35 9,.sl 0,.i,.i]}(hn:n - 1<=b)(ah:2<=n) kd n3 s J{Y:Int}(hm:Y<=3)(hQ:∀ r q a es c i h N',N<=N'->Cu es i->PkT (15+3*(4*X)) s J (D.j 0) (D.sl none 2 [] 0) (D.j 0) (D.sl none 2 [] 0) r->r.length<=3->Q kd s J n3 (D.j 0) (D.sl none 2 [] 0) (D.j 0) (D.sl none 2 [] 0) r q a es c i h N'):
  ∀(rem k:Nat) (r:aM) (q:Nat) a es c i h N',Y<=k+rem->k<=3->r.length=k->N<=N'->Cu es i->PkT (15+k*(4*X)) s J (D.j 0) (D.sl none 2 [] 0) (D.j 0) (D.sl none 2 [] 0) r->xq E Q N n Y k a es c i h 0 (bytes []) (bytes []) 0 0 none [] 0 0 none [] 0 none [] 0 kd s J n3 0 none [] 0 0 none [] 0 r.length q r q N':=by
 intro rem
 induction rem with
 | zero=>intro k r q a es c i h N' h1 O h3 h4 I U;have hk:k*(4*X)<=3*(4*X):=ol _ O;refine sa _ _ _ _ _ _ _ _ _ _ _ _ _ _ _ _ _ _ _ _ _ _ _ _ _ _ _ _ _ _ _ _ _ _ _ _ _ _ _ _ _ _ _ (Br.dec (λg=>aA) λ_=>⟨zN,⟨rfl,rfl⟩,λN4 aa=>hQ _ _ _ _ _ _ _ _ aA I (U.mono aA) aA⟩)
 | succ rem ab=>
   intro k r q a es c i h N' h1 O h3 h4 I U;have hk:k*(4*X)<=3*(4*X):=ol _ O;refine sa _ _ _ _ _ _ _ _ _ _ _ _ _ _ _ _ _ _ _ _ _ _ _ _ _ _ _ _ _ _ _ _ _ _ _ _ _ _ _ _ _ _ _ (Br.dec (λg N1 ai=>?_) λ_=>⟨zN,⟨rfl,rfl⟩,λN4 aa=>hQ _ _ _ _ _ _ _ _ aA I (U.mono aA) aA⟩);rw[i64_in (n - 1) aA];refine ih (n - 1) hn I a c h N1 _ λk' t t1 n' y y1 y2 y3 aj c' a' ak c2 i2 O N2 al ac ae _ _ _ _=>⟨⟨rfl,rfl⟩,λa1 N3 ao _=>⟨⟨rfl,rfl⟩,by unfold zB;rw[oG];simp only[oJ,oN];omega,λc3=>?_⟩⟩
   rw[i64_in ((k:Int)+1) aA];exact ab (k+1) _ c3 _ _ _ _ _ _ aA aA (by simp[h3]) aA ac ((U.snoc (ae.some _ _ _ _) aA).mono (by rw[nJ,mu];omega))
theorem Uq {X}(hb:b<=1000)(hX:15<=X)(ih:Pb b X){Q:QT [.pk,.i,.str,.str,.i,.dc,.dc,.dc,.dc,.row 35 9,.sl 0,.i,.i]}(hn:n - 1<=b)(J:2<=n) kd Y(hs:s.size<=1000)(O:I.size<=1000)(hT:SmT 7 (.ag [(D.j 0),(D.sl none 2 [] 0)]))(hR:SmT 7 (.ag [(D.j 0),(D.sl none 2 [] 0)]))(hQ:∀ k s I n' x x1 x2 x3 r q a es c i h N',N<=N'->Cu es i->PkT (15+3*(4*X)) s I x x1 x2 x3 r->r.length<=3->Q k s I n' x x1 x2 x3 r q a es c i h N')(U:Cu es i) a c h(aa:N<=N'):
  vV E Q N n a es c i h 0 (bytes []) (bytes []) 0 0 none [] 0 0 none [] 0 none [] 0 kd s I Y 0 none [] 0 0 none [] 0 0 0 [] 0 N':=by
 refine Cs _ _ _ _ _ _ _ _ _ _ _ _ _ _ _ _ _ _ _ _ _ _ _ _ _ _ _ _ _ _ _ _ _ _ _ _ _ _ _ _ _ ⟨⟨rfl,rfl⟩,λa7 _ N1 ab _=>wS N1 _ λN2 ac _=>Ut hb hX ih hn J kd Y s I  (tT _ _) (λr q a es c i h N'=>hQ _ _ _ _ _ _ _ _ r q a es c i h N') 3 0 [] 0 a es c i h N2 (by have:=tT kd s;omega) aA rfl aA U ((Js hs O hT hR).mono aA)⟩
theorem ZR {X}(hb:b<=1000)(hX:15<=X)(ih:Pb b X){Q:QT [.pk,.i,.str,.str,.i,.dc,.dc,.dc,.dc,.row 35 9,.sl 0,.i,.i]}(hn:n - 1<=b)(I:2<=n) kd n3(hs:s.size<=1000) O U(hT:SmT 7 (.ag [O,U]))(hQ:∀ k s s1 n' x x1 x2 x3 r q a es c i h N',N<=N'->Cu es i->PkT (15+3*(4*X)) s s1 x x1 x2 x3 r->r.length<=3->Q k s s1 n' x x1 x2 x3 r q a es c i h N')(J:Cu es i) a c h(aa:N<=N'):
  vR E Q N n a es c i h 0 (bytes []) (bytes []) 0 0 none [] 0 0 none [] 0 none [] 0 kd s (bytes []) n3 O U 0 none [] 0 0 0 [] 0 N':=by
 refine HH _ _ _ _ _ _ _ _ _ _ _ _ _ _ _ _ _ _ _ _ _ _ _ _ _ _ _ _ _ _ _ _ _ _ _ _ _ _ _ (Br.beq (λ_ N1 ae=>?_) λ_=>Uo hb hX ih hn I kd n3 hs aD O U hT PF hQ J a c h aa);refine sQ (l:=[bytes [122],bytes [119]]) J aD aD a c h 2 2 N1 _ λt a1 ah c1 i1 h1 N2 ai ab Y _ _ _ N3 aj=>?_;have Y:t.size<=1000:=by simp only[oK,nP,mn]at Y;rcases Y with rfl | rfl<;>decide
 exact Nd 2 aA ab a1 c1 h1 N3 _ λd a2 ak c2 i2 h2 N4 al ac hd _ _ _ _=>zAt hb hX ih hn I kd n3 hs Y O U _ _ hT (hd.cells.mono aA) hQ ac a2 c2 h2 aA
theorem Un {X}(hb:b<=1000)(hX:15<=X)(ih:Pb b X){Q:QT [.pk,.i,.str,.str,.i,.dc,.dc,.dc,.dc,.row 35 9,.sl 0,.i,.i]}(hn:n - 1<=b)(I:2<=n) kd U(hs:s.size<=1000)(hT:SmT 7 (.ag [(D.j 0),(D.sl none 2 [] 0)]))(hQ:∀ k s s1 n' x x1 x2 x3 r q a es c i h N',N<=N'->Cu es i->PkT (15+3*(4*X)) s s1 x x1 x2 x3 r->r.length<=3->Q k s s1 n' x x1 x2 x3 r q a es c i h N')(J:Cu es i) a c h(Y:N<=N'):
  vS E Q N n a es c i h 0 (bytes []) (bytes []) 0 0 none [] 0 0 none [] 0 none [] 0 kd s (bytes []) U 0 none [] 0 0 none [] 0 0 0 [] 0 N':=by
 refine Cp _ _ _ _ _ _ _ _ _ _ _ _ _ _ _ _ _ _ _ _ _ _ _ _ _ _ _ _ _ _ _ _ _ _ _ _ _ _ _ _ _ (Br.beq (λ_ N1 ac=>?_) λ_=>Uq hb hX ih hn I kd U hs aD hT PF hQ J a c h Y);refine sQ (l:=[bytes [122],bytes [119]]) J aD aD a c h 2 2 N1 _ λt a1 ae c1 i1 h1 N2 ah aa O _ _ _ N3 ai=>?_;have O:t.size<=1000:=by simp only[oK,nP,mn]at O;rcases O with rfl | rfl<;>decide
 exact Nd 2 aA aa a1 c1 h1 N3 _ λd a2 aj c2 i2 h2 N4 ak ab hd _ _ _ _=>Up hb hX ih hn I kd U hs O _ _ hT (hd.cells.mono aA) hQ ab a2 c2 h2 aA
theorem KZ {X}(hb:b<=1000)(hX:15<=X)(ih:Pb b X):Pb (b+1) (15+3*(4*X)):=λn hn es i J a c h N Q hQ=>by
 have lf:∀(E:Env) {es:aM} {i:Int} (_:Cu es i) a c h N1,N<=N1->BCalls prog 142 [.pk,.i,.str,.str,.i,.dc,.dc,.dc,.dc,.row 35 9,.sl 0,.i,.i] [.pb 0 0 0 0] [.var [.sv a 0 es c,.j i,.j h]] N1 (λn s aq ab x au aw ax es c a Y aa ac ay N2=>N1<=N2->Bel N2 (D.sl a 0 Y aa)->Bel N2 (D.ag es)->yg E [.var [.sv none 0 [] 0,.j 0,.j 0]]/\(es.length=es.length/\c=c)/\∀ N3,N2<=N3->Q n s aq ab x au aw ax es c a Y aa ac ay N3):=λE es i J a c h N1 ae=>Wk J a c h N1 _ λk s s1 n' x x1 x2 x3 r q a' bb c' i' h' N2 az a6 hp hr _ _ _=>⟨zN,⟨rfl,rfl⟩,λN3 al=>hQ _ _ _ _ _ _ _ _ _ _ _ _ _ _ _ _ aA a6 (hp.mono aA) hr⟩
 refine AO N n a es c i h Q λE _=>Br.dec (λ_ N1 ae=>lf E J a c h N1 ae) λbc N1 ae=>pH J 5 aA a c h N1 _ λb1 a1 bg c1 i1 h1 N2 az ao _ _=>Br.of (λ_ N3 al=>lf E ao a1 c1 h1 N3 aA) λ_ N3 al=>?_;refine pI (l:=[4,5,6,7,8,9,10,11,12,13,10,4]) ao aD aD a1 c1 h1 12 12 N3 _ λkd a2 ah c2 i2 h2 N4 bh U _ _ _ _=>?_;have ai:∀ {s:aG} (_:s.size<=1000) {es:aM} {i:Int} (_:Cu es i) a c h N',N<=N'->yJ E Q N n a es c i h 0 (bytes []) (bytes []) 0 0 none [] 0 0 none [] 0 none [] 0 kd s (bytes []) 0 0 none [] 0 0 none [] 0 0 0 [] 0 N':=λhs es i J a c h N' a7=>by refine HG _ _ _ _ _ _ _ _ _ _ _ _ _ _ _ _ _ _ _ _ _ _ _ _ _ _ _ _ _ _ _ _ _ _ _ _ _ _ _ _ _ (Br.beq (λ_ O I=>Nd 2 aA J a c h O _ λd a2 ah c2 i2 h2 N6 aj U hd _ _ _ _=>ZR hb hX ih aA aA kd 0 hs _ _ (hd.cells.mono aA) hQ U a2 c2 h2 aA) λ_=>Br.beq (λ_ O I=>Nd 2 aA J a c h O _ λd a2 ah c2 i2 h2 N6 aj U hd _ _ _ _=>ZR hb hX ih aA aA kd 0 hs _ _ (hd.cells.mono aA) hQ U a2 c2 h2 aA) λ_=>Un hb hX ih aA aA kd 0 hs PF hQ J a c h a7)
 have L3:∀ O,N4<=O->BCalls prog 74 [.str,.sl 0,.i,.i,.sl 0] [.pb 0 0 0 0,.sb 1 0 0 3 3] [.var [.sv a2 0 ah c2,.j i2,.j h2],.arr 9 0 (zA [bytes [120],bytes [121],bytes [102]]) 3] O (λs a es c ab ac a8 Y aa N6=>O<=N6->Bel N6 (D.sl a 0 es c)->Bel N6 (D.sl a8 0 Y aa)->yJ E Q N n a es c ab ac 0 (bytes []) (bytes []) 0 0 none [] 0 0 none [] 0 none [] 0 kd s (bytes []) 0 0 none [] 0 0 none [] 0 0 0 [] 0 N6):=λO I=>sQ (l:=[bytes [120],bytes [121],bytes [102]]) U aD aD a2 c2 h2 3 3 O _ λt a3 ba c3 i3 h3 N6 aj ak ht _ _ _=>ai (by simp only[oK,nP,mn]at ht;rcases ht with rfl | rfl | rfl<;>decide) ak a3 c3 h3 N6 aA;refine Br.beq (λ_ O I=>?_) λ_=>Br.beq (λ_ O I=>L3 O I) λ_=>Br.beq (λ_ O I=>L3 O I) λ_=>Br.beq (λ_ O I=>L3 O I) λ_=>ai aD U a2 c2 h2 N4 aA;refine sQ (l:=[bytes [43],bytes [45],bytes [42],bytes [61],bytes [60],bytes [38],bytes [124],bytes [33]]) U aD aD a2 c2 h2 8 8 O _ λt a3 ba c3 i3 h3 N6 aj ak ht _ _ _=>ai ?_ ak a3 c3 h3 N6 aA;simp only[oK,nP,mn]at ht;rcases ht with rfl | rfl | rfl | rfl | rfl | rfl | rfl | rfl<;>decide
theorem Uu:Pb 4 28275:=by have h:=KZ (b:=3) aA aA (KZ (b:=2) aA aA (KZ (b:=1) aA aA XV));exact λn hn es i I a c J N Q O=>h n aA I a c J N Q λk s s1 n' x x1 x2 x3 r q a' U c' i' J N' Y h2 h3 h4=>O _ _ _ _ _ _ _ _ _ _ _ _ _ _ _ _ Y h2 (h3.mono aA) h4
theorem Xo (ah:Cu es i) a c h N(Q:QT [.ag 9,.sl 0,.i,.i])(hQ:∀ d' a' ae c' i' h' N',N<=N'->Cu ae i'->Some 30000 d'->Q d' a' ae c' i' h' N'):BCalls prog 37 [.ag 9,.sl 0,.i,.i] [.pb 0 0 0 0] [.var [.sv a 0 es c,.j i,.j h]] N Q:=by
 have z:PkT 15 (bytes [120]) (bytes []) (D.j 0) (D.sl none 2 [] 0) (D.j 0) (D.sl none 2 [] 0) []:=Js aD aD PF PF;refine Fy N a es c i h Q λE _ N1 al=>xE ah 4 aA a c h N1 _ λx a1 ao c1 i1 h1 N2 aq ai x0 x1 _ _ _ N3 au=>?_;have x1:=x1 aA;rw[i64_in (1+x) aA];refine Uu (1+x) aA ai a1 c1 h1 N3 _ λk s s1 n y y1 y2 y3 r q a2 aw c2 i2 h2 N4 ax aj hp hr _ _ _ N5 ay=>?_;refine xE aj 14 aA a2 c2 h2 N5 _ λz1 a3 az c3 i3 h3 N6 a7 O _ _ _ _ _=>Br.beq (λ_ N7 aa=>?_) λ_=>Br.beq (λ_ N7 aa=>?_) λ_=>Br.beq (λ_ N7 aa=>?_) λ_=>Br.beq (λ_ N7 aa=>?_) λ_=>Br.beq (λ_ N7 aa=>?_) λ_=>Br.beq (λ_ N7 aa=>?_) λ_=>?_
 ·exact xE O 15 aA a3 c3 h3 N7 _ λw a4 ac c4 i4 h4 N8 ab J _ _ _ _ _=>⟨⟨rfl,rfl⟩,⟨rfl,rfl⟩,⟨rfl,rfl⟩,⟨rfl,rfl⟩,λa5 N9 U _=>⟨zN,λY I=>hQ _ _ _ _ _ _ _ aA J ((hp.some _ _ _ _).mono aA)⟩⟩
 ·exact pI (l:=[0,1,10006,10007, -1]) O aD aD a3 c3 h3 5 5 N7 _ λw a4 ac c4 i4 h4 N8 ab J _ _ _ _=>⟨⟨rfl,rfl⟩,⟨rfl,rfl⟩,⟨rfl,rfl⟩,⟨rfl,rfl⟩,λa5 N9 U _=>⟨zN,λY I=>hQ _ _ _ _ _ _ _ aA J ((hp.some _ _ _ _).mono aA)⟩⟩
 ·refine sQ (l:=[bytes [],bytes [120],bytes [108,101,116],bytes [97,98,99,100,101],bytes [43]]) O aD aD a3 c3 h3 5 5 N7 _ λw a4 ac c4 i4 h4 N8 ab J hw _ _ _=>⟨⟨rfl,rfl⟩,⟨rfl,rfl⟩,⟨rfl,rfl⟩,⟨rfl,rfl⟩,λa5 N9 U _=>⟨zN,λY I=>hQ _ _ _ _ _ _ _ aA J (((hp.name ?_).some _ _ _ _).mono aA)⟩⟩
  simp only[oK,nP,mn]at hw;rcases hw with rfl | rfl | rfl | rfl | rfl<;>decide
 ·exact BZ N7 _ _ λN8 ab _ _=>⟨⟨rfl,rfl⟩,λa5 N9 U _=>⟨⟨rfl,rfl⟩,by unfold zB;rw[oG];simp only[oJ,oN];omega,λc9=>⟨⟨rfl,rfl⟩,⟨rfl,rfl⟩,⟨rfl,rfl⟩,⟨rfl,rfl⟩,λa6 Y I _=>⟨zN,λa8 ak=>hQ _ _ _ _ _ _ _ aA O (((hp.snoc (z.some _ _ _ _) aA).some _ _ _ _).mono aA)⟩⟩⟩⟩
 ·exact Xn O a3 c3 h3 N7 _ λw a4 ac c4 i4 h4 N8 ab J hw _ _ _=>⟨⟨rfl,rfl⟩,⟨rfl,rfl⟩,⟨rfl,rfl⟩,⟨rfl,rfl⟩,λa5 N9 U _=>⟨zN,λY I=>hQ _ _ _ _ _ _ _ aA J (((hp.type hw.cells).some _ _ _ _).mono aA)⟩⟩
 ·refine sQ (l:=[bytes [120],bytes [122]]) O aD aD a3 c3 h3 2 2 N7 _ λw a4 ac c4 i4 h4 N8 ab J hw _ _ _=>⟨⟨rfl,rfl⟩,⟨rfl,rfl⟩,⟨rfl,rfl⟩,⟨rfl,rfl⟩,λa5 N9 U _=>⟨zN,λY I=>hQ _ _ _ _ _ _ _ aA J (((hp.other ?_).some _ _ _ _).mono aA)⟩⟩
  simp only[oK,nP,mn]at hw;rcases hw with rfl | rfl<;>decide
 ·exact⟨⟨rfl,rfl⟩,⟨rfl,rfl⟩,⟨rfl,rfl⟩,⟨rfl,rfl⟩,λa5 N9 U _=>⟨zN,λY I=>hQ _ _ _ _ _ _ _ aA O ((hp.some _ _ _ _).mono aA)⟩⟩
end Go.Proofs.YtlaniepnglheoaaGreatDoor
set_option maxRecDepth 100000
namespace Go.Proofs.YtlaniepnglheoaaGreatDoor
open Go Go.Proofs Go.Proofs.Tryz Go.IntWalk
variable {S k m:Nat} {d:D} {es:aM} {g:aQ} {i:Int} {t:Ty}
def WfD m d:=∃ t:Ty,Wf t/\t.Is d/\t.cnt<=m
theorem WfD.mono {n}(h:WfD m d)(O:m<=n):WfD n d:=by obtain⟨t,I,J,U⟩:=h;exact⟨t,I,J,aA⟩
theorem Wp n(O:Cu es i) a c h N(Q:QT [.ag 2,.sl 0,.i,.i])(hQ:∀ d' a' ai c' i' h' N',N<=N'->Cu ai i'->WfD 3 d'->Q d' a' ai c' i' h' N'):BCalls prog 200 [.ag 2,.sl 0,.i,.i] [.pb 0 0 0 0,.j n] [.var [.sv a 0 es c,.j i,.j h]] N Q:=by
 refine F4 N n a es c i h Q λE _ N1 a7=>xy N1 _ λx N2 a8 hx _ _ _=>?_;have i3:WfD 3 x:=⟨_,.int,hx,aD⟩
 have fn:∀ N3,ACalls prog 72 [.ag 2] [.dg 2 x,.dg 2 x] N3 (λy N4=>N3<=N4->Bel N4 y->yg E [.var [.sv none 0 [] 0,.j 0,.j 0]]/\∀ U,N4<=U->WfD 3 y/\N3<=U):=λN3=>xw tInt tInt x x hx hx aD aD N3 _ λy N4 aj hy _ _ _=>⟨zN,λU aa=>⟨⟨_,.fn .int .int,hy,aD⟩,aA⟩⟩
 have last:∀ {es:aM} {i:Int} (_:Cu es i) a c h N3,N2<=N3->BCalls prog 33 [.bool,.sl 0,.i,.i] [.pb 0 0 0 0,.j 3] [.var [.sv a 0 es c,.j i,.j h]] N3 (λay ab I ac ak al Y=>N3<=Y->Bel Y (D.sl ab 0 I ac)->Br ay (∀ ae,Y
  <= ae->ACalls prog 72 [.ag 2] [.dg 2 x,.dg 2 x] ae (λao ah=>ae<=ah->Bel ah ao->yg E [.var [.sv none 0 [] 0,.j 0,.j 0]]
  /\ ∀ aq,ah<=aq->Q ao ab I ac ak al aq)) (yg E [.var [.sv none 0 [] 0,.j 0,.j 0]]/\∀ au,Y<=au->Q x ab I ac ak
  al au)):=λ{es i} O a c h N3 aw=>pH O 3 aA a c h N3 _ λb a1 az c1 i1 h1 N4 aj J _ _=>Br.of (λ_ U aa=>xw tInt tInt x x hx hx aD aD U _ λy N6 a6 hy _ _ _=>⟨zN,λN7 ax=>hQ _ _ _ _ _ _ _ aA J ⟨_,.fn .int .int,hy,aD⟩⟩) λ_=>⟨zN,λN7 ax=>hQ _ _ _ _ _ _ _ aA J i3⟩
 refine Br.of (λ_ N3 aw=>?_) λ_ N3 aw=>last O a c h N3 aA;exact pH O 2 aA a c h N3 _ λb a1 az c1 i1 h1 N4 aj J _ _=>Br.of (λ_ U aa=>wI tInt x hx aD U _ λy N6 a6 hy _ _ _=>⟨zN,λN7 ax=>hQ _ _ _ _ _ _ _ aA J ⟨_,.code .int,hy,aD⟩⟩) λ_ U aa=>last J a1 c1 h1 U aA
def Qt (k S:Nat):Prop:=∀(t:Ty) (_:Wf t) (_:t.cnt+k<=10) {d:D} (_:t.Is d) {g:aQ} {es0:aM} (_:Ctx g es0) (_:g.length+k<=1000) (_:∀ x∈g,x.ty.cnt<=1000) (n:Int) (a0:aH) (c0:Nat) {es:aM} {i:Int} (_:Cu es i) (a:aH) (c:Nat) (h:Int) (N:Nat) (Q:QT [.ag 9,.sl 0,.i,.i])
    (_:∀ d' J I O i' U N',N<=N'->Cu I i'->Some S d'->Q d' J I O i' U N'),
    BCalls prog 73 [.ag 9,.sl 0,.i,.i] [.pb 0 0 0 0,.sv a0 4 es0 c0,.dg 2 d,.j n,.j k] [.var [.sv a 0 es c,.j i,.j h]] N Q
theorem Qg {x y}(I:Some m x)(J:Some m y):∀ d∈[x,y],Some m d:=λd hd=>by simp only[oK,nP,mn]at hd;rcases hd with rfl | rfl<;>assumption
theorem GH {x}(I:Some m x):∀ d∈[x],Some m d:=λd hd=>by rw[oi]at hd;subst hd;exact I
theorem rW {l:List aG}{s}(h:s∈l)(hl:(l.all λs=>decide (s.size<=1000))=true):s.size<=1000:=by
 have:=ob.1 hl s h
 simpa using this
theorem Zv (hk:k<=5)(hS:S<=100000000)(hG:Qt k S)(hd:t.Is d){es0}(al:Ctx g es0)(hg:g.length+k<=1000)(ao:∀ x∈g,x.ty.cnt<=1000) n a0 c0(ab:Cu es i) a c h N(Q:QT [.ag 9,.sl 0,.i,.i])(hQ:∀ d' a' a6 c' i' h' N',N<=N'->Cu a6 i'->Some (3+2*S) d'->Q d' a' a6 c' i' h' N'):
  BCalls prog 137 [.ag 9,.sl 0,.i,.i] [.pb 0 0 0 0,.sv a0 4 es0 c0,.dg 2 d,.j n,.j ((k+1:Nat):Int)] [.var [.sv a 0 es c,.j i,.j h]] N Q:=by
 obtain⟨kt,l,rfl⟩:∃ k l,t=Ty.mk k l:=by cases t;exact⟨_,_,rfl⟩
 obtain⟨ta,b3,tc,rfl,_,_⟩:=Ty.is_mk.1 hd;have ek:IntKind.i64.wrap (((k+1:Nat):Int) - 1)=(k:Int):=by rw[i64_in _ aA];omega
 have ci:tInt.cnt+k<=10:=by have:tInt.cnt=1:=rfl;omega
 have cb:tBool.cnt+k<=10:=by have:tBool.cnt=1:=rfl;omega
 refine F3 N a0 es0 c0 _ n _ a es c i h Q λE _ _ _ N1 b7=>xy N1 _ λx N2 b8 hx _ _ _ N3 b9=>wH N3 _ λy N4 ca hy _ _ _=>⟨kt,rfl,?_⟩
 rw[ek];have bin:∀ {u:Ty} {z:D} (_:Wf u) (_:u.cnt+k<=10) (_:u.Is z) {s:aG} (_:s.size<=1000) {es:aM} {i:Int} (_:Cu es i) a c h N5,N4<=N5->BCalls prog 73 [.ag 9,.sl 0,.i,.i] [.pb 0 0 0 0,.sv a0 4 es0 c0,.dg 2 z,.j n,.j k] [.var [.sv a 0 es c,.j i,.j h]] N5 (λac a7 aj a8 bm bp N8=>N5<=N8->Bel N8 ac->Bel N8 (D.sl a7 0 aj a8)->∀ U,N8<=U->BCalls prog 73 [.ag 9,.sl 0,.i,.i] [.pb 0 0 0 0,.sv
   a0 4 es0 c0,.dg 2 z,.j n,.j k] [Bx.var [.sv a7 0 aj a8,.j bm,.j bp]] U (λae ba ak bb bq
   bt J=>U<=J->Bel J ae->Bel J (D.sl ba 0 ak bb)->(2=([ac,ae]).length/\2=2)/\∀ ah,ApA ah [ac,ae]->∀ O,J<=O->xj
   O [ah]->ACalls prog 204 [.ag 9] [.str s,.sv ah 9 [ac,ae] 2] O (λaq au=>O<=au->Off [ah] aq/\(Bel au aq->yg E [.var [.sv none
   0 [] 0,.j 0,.j 0]]/\∀ bc,au<=bc->Q aq ba ak bb bq bt bc)))):=λ{u z} hw hc hz {s} hs {es i} ab a c h N5 bg=>
  hG _ hw hc hz al hg ao n a0 c0 ab a c h N5 _ λx2 a2 aw c2 i2 h2 N6 bh I ax _ _ _ N7 ai=>hG _ hw hc hz al hg ao n a0 c0 I a2 c2 h2 N7 _ λx3 a3 cc c3 i3 h3 N8 ay bv bw _ _ _=>⟨⟨rfl,rfl⟩,λa4 _ U az Y=>zBl aA aA (Qg ax bw) aB a4 2 U _ λw J bi hw ho _=>⟨xk Y ho,λ_=>⟨zN,λO bj=>hQ _ _ _ _ _ _ _ aA bv (hw.mono aB)⟩⟩⟩
 refine Br.of (λ_ N5 bg=>?_) λ_ N5 bg=>?_
 ·exact sQ (l:=[bytes [43],bytes [42],bytes [45],bytes [43]]) ab aD aD a c h 4 4 N5 _ λs a1 bz c1 i1 h1 N6 bh aa hs _ _ _ N7 ai=>bin .int ci hx (rW hs aD) aa a1 c1 h1 N7 aA
 ·refine xE ab 4 aA a c h N5 _ λr a1 bz c1 i1 h1 N6 bh aa _ _ _ _ _=>Br.of (λ_ N7 ai=>?_) λ_=>Br.of (λ_ N7 ai=>?_) λ_ N7 ai=>?_
  ·exact hG _ .bool cb hy al hg ao n a0 c0 aa a1 c1 h1 N7 _ λx2 a2 aw c2 i2 h2 N8 ay I ax _ _ _=>⟨⟨rfl,rfl⟩,λa4 _ U az Y=>zBl aD aA (GH ax) aB a4 1 U _ λw J bi hw ho _=>⟨xk Y ho,λ_=>⟨zN,λO bj=>hQ _ _ _ _ _ _ _ aA I (hw.mono aF)⟩⟩⟩
  ·exact sQ (l:=[bytes [38],bytes [124]]) aa aD aD a1 c1 h1 2 2 N7 _ λs a2 aw c2 i2 h2 N8 ay I hs _ _ _ U az=>bin .bool cb hy (rW hs aD) I a2 c2 h2 U aA
  ·exact sQ (l:=[bytes [61],bytes [60]]) aa aD aD a1 c1 h1 2 2 N7 _ λs a2 aw c2 i2 h2 N8 ay I hs _ _ _ U az=>bin .int ci hx (rW hs aD) I a2 c2 h2 U aA
theorem Zw (O:Wf t):∀ {d:D}(_:t.Is d)(N:Nat)(Q:QT [.i])(_:∀ r N',N<=N'->Q r N'),ACalls prog 202 [.i] [.dg 2 d] N Q:=by
 have yM:∀ {k:Int} {l:aR} {d:D} (_:(Ty.mk k l).Is d) (_:k≠4) (N:Nat) (Q:QT [.i]) (_:∀ r N',N<=N'->Q r N'),ACalls prog 202 [.i] [.dg 2 d] N Q:=λ{k l d} hd U N Q I=>by obtain⟨b,fs,c,rfl,_,_⟩:=Ty.is_mk.1 hd;exact Db N _ Q λ_=>⟨k,rfl,Br.beq (λh=>absurd h U) λ_ N4 J=>I _ _ J⟩
 induction O with
 | int=>exact λhd=>yM hd aD
 | bool=>exact λhd=>yM hd aD
 | fn _ _ _ _=>exact λhd=>yM hd aD
 | @code u _ Y=>intro d hd N Q I;obtain⟨b,fs,c,rfl,_,d1,_,rfl,h3,rfl⟩:=Ty.is_mk.1 hd;exact Db N _ Q λ_=>⟨4,rfl,Br.beq (λ_=>⟨_,_,_,rfl,⟨aB,aB⟩,λN1 aa=>Y h3 N1 _ λr N2 ab _ N3 ac=>I _ _ aA⟩) λh=>absurd rfl h⟩
theorem VF {M}(O:g.length+m<=M)(I:∀ x∈g,x.ty.cnt<=1000) n:(tn g n).length+m<=M/\∀ x∈tn g n,x.ty.cnt<=1000:=by have h:=Ao g n g 0;exact⟨by have U:=h.2;show(sf g n g 0).length+m<=M;omega,λx J=>I x (h.1 x J)⟩
theorem Kr (O:g.length+(k+1)<=1000)(I:∀ x∈g,x.ty.cnt<=1000){y}(J:y.ty.cnt<=1000):(g++[y]).length+k<=1000/\∀ x∈g++[y],x.ty.cnt<=1000:=by
 refine⟨aF,λx hx=>?_⟩;rcases oM.1 hx with hx | hx
 ·exact I x hx
 ·rw[oi]at hx;subst hx;exact J
theorem zBD (hk:k<=5)(cz:1600<=S)(hS:S<=100000000)(hG:Qt k S)(hw:Wf t)(hc:t.cnt+(k+1)<=10)(hd:t.Is d){es0}(J:Ctx g es0)(hg:g.length+(k+1)<=1000)(I:∀ x∈g,x.ty.cnt<=1000) n a0 c0(bt:Cu es i) a c h N(Q:QT [.ag 9,.sl 0,.i,.i])(hQ:∀ d' a' b3 c' i' h' N',N<=N'->Cu b3 i'->Some (5*S) d'->Q d' a' b3 c' i' h' N'):
  BCalls prog 136 [.ag 9,.sl 0,.i,.i] [.pb 0 0 0 0,.sv a0 4 es0 c0,.dg 2 d,.j n,.j ((k+1:Nat):Int)] [.var [.sv a 0 es c,.j i,.j h]] N Q:=by
 have ek:IntKind.i64.wrap (((k+1:Nat):Int) - 1)=(k:Int):=by rw[i64_in _ aA];omega
 have cb:tBool.cnt+k<=10:=by have:tBool.cnt=1:=rfl;omega
 have cc:(xW t).cnt+k<=10:=by have:(xW t).cnt=1+(t.cnt+0):=rfl;omega
 have aa:g.length+k<=1000:=aA
 have e3:∀ x y z:D,∀ {m:Nat},Some m x->Some m y->Some m z->∀ d∈[x,y,z],Some m d:=λx y z m hx hy hz d hd=>by simp only[oK,nP,mn]at hd;rcases hd with rfl | rfl | rfl<;>assumption
 refine II N a0 es0 c0 d n _ a es c i h Q λE _ _ _ N1 db=>sQ (l:=[bytes [120],bytes [121],bytes [122]]) bt aD aD a c h 3 3 N1 _ λs a1 de c1 i1 h1 N2 dh cf hs _ _ _ N3 di=>xE cf 5 aA a1 c1 h1 N3 _ λr a2 cg c2 i2 h2 N4 dj al _ _ _ _ _=>?_;have hs:=rW hs aD;rw[ek];have ay:∀ O,N4<=O->BCalls prog 135 [.ag 9,.sl 0,.i,.i] [.pb 0 0 0 0,.dg 2 d,.j n] [.var [.sv a2 0 cg c2,.j i2,.j h2]] O (λx a es c ch cj N6=>O<=N6->Bel N6 x->Bel N6 (D.sl a 0 es c)->yg E [.var [.sv none 0 [] 0,.j 0,.j 0]]/\∀ U,N6<=U->Q x a es c ch cj U):=λO ab=>OY hw aA hd n al a2 c2 h2 O _ λx a3 bc c3 i3 h3 N6 az ao hx _ _ _=>⟨zN,λU aq=>hQ _ _ _ _ _ _ _ aA ao (hx.mono aA)⟩
 have nod:∀(kk:Int) (_:bn kk=0) {x:D} (_:Some S x) {es:aM} {i:Int} (_:Cu es i) a c h O,N4<=O->(1=([x]).length/\1=1)/\∀ bg,ApA bg [x]->∀ N6,O<=N6->xj N6 [bg]->ACalls prog 141 [.ag 9] [.j kk,.sv bg 9 [x] 1] N6 (λbv U=>N6<=U->Off [bg] bv/\(Bel U bv->yg E [.var [.sv none 0 [] 0,.j 0,.j 0]]/\∀ N8,U<=N8->Q bv a es c i h N8)):=λkk ck {x} hx {es i} bt a c h O ab=>⟨⟨rfl,rfl⟩,λa4 _ N9 ba ac=>Ja kk aA (GH hx) aB a4 1 N9 _ (λw bh au hw ho _=>⟨xk ac ho,λ_=>⟨zN,λae aw=>hQ _ _ _ _ _ _ _ aA bt (hw.mono aF)⟩⟩) ck⟩
 refine Br.of (λ_ O ab=>?_) λ_=>Br.of (λ_ O ab=>?_) λ_=>Br.of (λ_ O ab=>?_) λ_=>Br.of (λ_ O ab=>?_) λ_=>Br.of (λ_ O ab=>?_) λ_ O ab=>ay O ab
 ·refine wH O _ λy N6 az hy _ _ _ U aq=>hG _ .bool cb hy J aa I n a0 c0 al a2 c2 h2 U _ λx1 a3 bc c3 i3 h3 N8 bi ao cm _ _ _ N9 ba=>hG _ hw aA hd J aa I n a0 c0 ao a3 c3 h3 N9 _ λx2 a4 bj c4 i4 h4 bh au Y cn _ _ _ ae aw=>hG _ hw aA hd J aa I n a0 c0 Y a4 c4 h4 ae _ λx3 a5 b7 c5 i5 h5 ah ai co cp _ _ _=>⟨⟨rfl,rfl⟩,λa6 _ bb bm ac=>?_⟩
  exact Ja 5 aA (e3 x1 x2 x3 cm cn cp) aB a6 3 bb _ λw b8 bp hw ho _=>⟨xk ac ho,λ_=>⟨zN,λbw bq=>hQ _ _ _ _ _ _ _ aA co (hw.mono aF)⟩⟩
 ·refine Wp n al a2 c2 h2 O _ λy a3 bc c3 i3 h3 N6 az ao hy _ _ _ U aq=>?_;obtain⟨u,hu,ax,cq⟩:=hy;refine hG _ hu aA ax J aa I n a0 c0 ao a3 c3 h3 U _ λx6 a4 bj c4 i4 h4 N8 bi Y cr _ _ _ N9 ba=>?_;refine yV J aA a0 c0 (s:=s) aA ax n N9 _ λa5 b7 c5 bh au aj _ _ ae aw=>?_;obtain⟨g2,g3⟩:=Kr hg I (y:=⟨s,u,n⟩) (by show u.cnt<=1000;omega);exact hG _ hw aA hd aj g2 g3 n a5 c5 Y a4 c4 h4 ae _ λx7 a6 ct c6 i6 h6 ah ai bz cw _ _ _ bb bm=>zA9 aA aA cr cw bb _ λx8 b8 bp cx _ _=>⟨zN,λbw bq=>hQ _ _ _ _ _ _ _ aA bz (cx.mono aA)⟩
 ·refine Wp n al a2 c2 h2 O _ λy a3 bc c3 i3 h3 N6 az ao hy _ _ _ U aq=>?_;obtain⟨u,hu,ax,cq⟩:=hy;refine yV J aA a0 c0 (s:=s) aA ax n U _ λa5 b7 c5 N8 bi aj _ _ N9 ba=>?_;obtain⟨g2,g3⟩:=Kr hg I (y:=⟨s,u,n⟩) (by show u.cnt<=1000;omega);refine hG _ hw aA hd aj g2 g3 n a5 c5 ao a3 c3 h3 N9 _ λdk a6 ct c6 i6 h6 bh au bz b9 _ _ _ ae aw=>Xp aA ax aA aA b9 ae _ λdl ah ai ca _ _ bb bm=>?_;exact hG _ hu aA ax J aa I n a0 c0 bz a6 c6 h6 bb _ λdm a7 dn c7 i7 h7 b8 bp cy cd _ _ _=>⟨⟨rfl,rfl⟩,λa8 _ bw bq ac=>Ja 7 (m:=5+2*S) aA (Qg (ca.mono aA) (cd.mono aA)) aB a8 2 bw _ λw dq c8 hw ho _=>⟨xk ac ho,λ_=>⟨zN,λdr da=>hQ _ _ _ _ _ _ _ aA cy (hw.mono aF)⟩⟩⟩
 ·refine Zw hw hd O _ λr2 N6 az _=>Br.of (λ_ U aq=>?_) λ_=>Br.of (λ_ U aq=>?_) λ_ U aq=>ay U aA
  ·refine sw J aA (λx hx=>oR (I x hx) aA) a0 c0 n U _ λa3 bc c3 N8 bi aj _ _ N9 ba=>?_;obtain⟨g2,g3⟩:=VF aa I n;refine wI t d hd aA N9 _ λy bh au hy _ _ _ ae aw=>?_;exact hG _ (.code hw) cc hy aj g2 g3 n a3 c3 al a2 c2 h2 ae _ λce a4 bj c4 i4 h4 ah ai Y ak _ _ _=>nod 12 rfl ak Y a4 c4 h4 ah aA
  ·refine wI t d hd aA U _ λy N8 bi hy _ _ _ N9 ba=>?_;exact hG _ (.code hw) cc hy J aa I _ a0 c0 al a2 c2 h2 N9 _ λce a4 bj c4 i4 h4 ah ai Y ak _ _ _=>nod 11 rfl ak Y a4 c4 h4 ah aA
 ·refine wI t d hd aA O _ λy N6 az hy _ _ _ U aq=>?_;exact hG _ (.code hw) cc hy J aa I _ a0 c0 al a2 c2 h2 U _ λce a4 bj c4 i4 h4 ah ai Y ak _ _ _=>nod 11 rfl ak Y a4 c4 h4 ah aA
theorem X8 k(hk:k=1):Qt k 1600:=by
 intro t hw hc d hd g es0 U hg ab n a0 c0 es i I a c h N Q hQ;refine AQ N a0 es0 c0 d n _ a es c i h Q λE _ _ _ N1 ac=>?_;have L5:∀ {es:aM} {i:Int} (_:Cu es i) a c h N',N<=N'->wR E Q N a0 es0 c0 n k a es c i h d 0 (bytes []) (bytes []) 0 0 none [] 0 0 none [] 0 none [] 0 N':=λ{es i} I a c h N' ae=>by refine BU _ _ _ _ _ _ _ _ _ _ _ _ _ _ _ _ _ _ _ _ _ _ _ _ _ _ _ _ _ _ (Br.dec (λ_ N2 Y=>?_) λh=>aA);exact OY hw aA hd n I a c h N2 _ λx a3 ah c3 i3 h3 N6 ai aa hx _ _ _=>⟨zN,λN7 aj=>hQ _ _ _ _ _ _ _ aA aa (hx.mono aA)⟩
 exact pH I 3 aA a c h N1 _ λb a1 ak c1 i1 h1 N2 Y J _ _=>Br.of (λ_ N3 al=>So U aA hd n a0 c0 J a1 c1 h1 N3 _ λx b2 a2 ao c2 i2 h2 N4 aq O hx _ _ _=>Br.of (λ_=>⟨zN,λN5 au=>hQ _ _ _ _ _ _ _ aA O (hx.mono aA)⟩) λ_=>L5 O a2 c2 h2 N4 aA) λ_=>L5 J a1 c1 h1 N2 aA
theorem Ps (hk:k<=5)(ax:1600<=S)(hS:S<=100000000)(hG:Qt k S):Qt (k+1) (5*S):=by
 intro t hw hc d hd g es0 aa hg ac n a0 c0 es i U a c h N Q hQ;have ek:IntKind.i64.wrap (((k+1:Nat):Int) - 1)=(k:Int):=by rw[i64_in _ aA];omega
 have au:g.length+k<=1000:=aA
 refine AQ N a0 es0 c0 d n _ a es c i h Q λE _ _ _ N1 b8=>?_;have ay:∀ {u:Ty} (_:t=xW u) {es:aM} {i:Int} (_:Cu es i) a c h N',N<=N'->va E Q N a0 es0 c0 n ((k+1:Nat):Int) a es c i h d 0 (bytes []) (bytes []) 0 0 none [] 0 0 none [] 0 none [] 0 N':=λ{u} hu {es i} U a c h N' bp=>by
  subst hu;obtain⟨b,fs,kk,rfl,az,d1,_,rfl,h3,rfl⟩:=Ty.is_mk.1 hd;have a7:(xW u).cnt=1+(u.cnt+0):=rfl;have bq:Wf u:=by cases hw;assumption
  refine HJ _ _ _ _ _ _ _ _ _ _ _ _ _ _ _ _ _ _ _ _ _ _ _ _ _ _ _ _ _ _ ⟨_,_,_,rfl,⟨aB,aB⟩,λN2 aw=>?_⟩;rw[ek];exact hG _ bq aA h3 aa au ac _ a0 c0 U a c h N2 _ λx a3 ai c3 i3 h3 N3 a8 I hx _ _ _=>⟨⟨rfl,rfl⟩,λa4 _ N4 ab ae=>Ja 10 aA (GH hx) aB a4 1 N4 _ λw N5 aj hw ho _=>⟨xk ae ho,λ_=>⟨zN,λN6 ak=>hQ _ _ _ _ _ _ _ aA I (hw.mono aF)⟩⟩⟩
 have L5:∀ {es:aM} {i:Int} (_:Cu es i) a c h N',N<=N'->wR E Q N a0 es0 c0 n ((k+1:Nat):Int) a es c i h d 0 (bytes []) (bytes []) 0 0 none [] 0 0 none [] 0 none [] 0 N':=λ{es i} U a c h N' bp=>by
  have base:∀ {es:aM} {i:Int} (_:Cu es i) a c h N9,N<=N9->BCalls prog 137 [.ag 9,.sl 0,.i,.i] [.pb 0 0 0 0,.sv a0 4 es0 c0,.dg 2 d,.j n,.j ((k+1:Nat):Int)] [.var [.sv a 0 es c,.j i,.j h]] N9 (λba bb al bc bt bv J=>N9<=J->Bel J ba->Bel J (D.sl bb 0 al bc)->yg E [.var [.sv none 0 [] 0,.j 0,.j 0]]/\∀ ah,J<=ah->Q ba bb al bc bt bv ah):=λ{es i} U a c h N9 bg=>Zv hk hS hG hd aa au ac n a0 c0 U a c h N9 _ λx a3 ai c3 i3 h3 J ao I hx _ _ _=>⟨zN,λah aq=>hQ _ _ _ _ _ _ _ aA I (hx.mono aA)⟩
  refine BU _ _ _ _ _ _ _ _ _ _ _ _ _ _ _ _ _ _ _ _ _ _ _ _ _ _ _ _ _ _ (Br.of (λ_ N2 aw=>?_) λ_ N2 aw=>pH U 3 aA a c h N2 _ λb a1 bw c1 i1 h1 N3 a8 O _ _=>Br.of (λ_ N4 ab=>?_) λ_=>?_)
  ·exact OY hw aA hd n U a c h N2 _ λx a3 ai c3 i3 h3 N6 ak I hx _ _ _=>⟨zN,λN7 bh=>hQ _ _ _ _ _ _ _ aA I (hx.mono aA)⟩
  ·exact zBD hk ax hS hG hw hc hd aa hg ac n a0 c0 O a1 c1 h1 N4 _ λx a3 ai c3 i3 h3 N5 aj I hx _ _ _=>⟨zN,λN6 ak=>hQ _ _ _ _ _ _ _ aA I hx⟩
  ·cases hw with
   | int=>obtain⟨b,fs,kk,rfl,_,_⟩:=Ty.is_mk.1 hd;exact⟨1,rfl,Br.of (λ_ N4 ab=>base O a1 c1 h1 N4 aA) λh=>by cases h⟩
   | bool=>obtain⟨b,fs,kk,rfl,_,_⟩:=Ty.is_mk.1 hd;exact⟨2,rfl,Br.beq (λh=>absurd h aD) λ_=>Br.of (λ_ N4 ab=>base O a1 c1 h1 N4 aA) λh=>by cases h⟩
   | @fn u v hu hv=>
     obtain⟨b,fs,kk,rfl,az,d1,_,rfl,h3,d2,_,rfl,h4,rfl⟩:=Ty.is_mk.1 hd;have a7:(wP u v).cnt=1+(u.cnt+(v.cnt+0)):=rfl;refine⟨3,rfl,Br.beq (λh=>absurd h aD) λ_=>Br.beq (λh=>absurd h aD) λ_=>Br.beq (λ_ N4 ab=>?_) λh=>absurd rfl h⟩;refine sQ (l:=[bytes [120],bytes [121]]) O aD aD a1 c1 h1 2 2 N4 _ λs a2 bi c2 i2 h2 N5 aj Y hs _ _ _=>⟨_,_,_,rfl,⟨aB,aB⟩,_,_,_,rfl,⟨aB,aB⟩,_,_,_,rfl,⟨aB,aB⟩,λN6 ak=>?_⟩
     have hs:=rW hs aD;rw[ek];refine yV aa aA a0 c0 (s:=s) aA h3 n N6 _ λa5 b9 c5 N7 bh bj _ _ N8 bz=>?_;obtain⟨g2,g3⟩:=Kr hg ac (y:=⟨s,u,n⟩) (by show u.cnt<=1000;omega);exact hG _ hv aA h4 bj g2 g3 n a5 c5 Y a2 c2 h2 N8 _ λx a6 ca c6 i6 h6 N9 bg b3 hx _ _ _ J ao=>Xp aA h3 aA aA hx J _ λy ah aq hy _ _=>⟨zN,λb7 bm=>hQ _ _ _ _ _ _ _ aA b3 (hy.mono aA)⟩
   | @code u hu=>obtain⟨b,fs,kk,rfl,az,d1,_,rfl,h3,rfl⟩:=Ty.is_mk.1 hd;have a7:(xW u).cnt=1+(u.cnt+0):=rfl;refine⟨4,rfl,Br.beq (λh=>absurd h aD) λ_=>Br.beq (λh=>absurd h aD) λ_=>Br.beq (λh=>absurd h aD) λ_=>⟨_,_,_,rfl,⟨aB,aB⟩,λN4 ab=>?_⟩⟩;refine rr u _ h3 N4 _ λN5 aj _=>Br.of (λ_ N6 ak=>?_) λ_=>ay rfl O a1 c1 h1 N5 aA;refine pH O 4 aA a1 c1 h1 N6 _ λb2 a2 bi c2 i2 h2 N7 bh Y _ _=>Br.of (λ_=>⟨_,_,_,rfl,⟨aB,aB⟩,λN8 bz=>?_⟩) λ_=>ay rfl Y a2 c2 h2 N7 aA;rw[ek];exact hG _ hu aA h3 aa au ac n a0 c0 Y a2 c2 h2 N8 _ λx a3 ai c3 i3 h3 N9 bg I hx _ _ _=>⟨⟨rfl,rfl⟩,λa4 _ J ao ae=>Ja 13 aA (GH hx) aB a4 1 J _ λw ah aq hw ho _=>⟨xk ae ho,λ_=>⟨zN,λb7 bm=>hQ _ _ _ _ _ _ _ aA I (hw.mono aF)⟩⟩⟩
 exact pH U 3 aA a c h N1 _ λb a1 bw c1 i1 h1 N2 aw O _ _=>Br.of (λ_ N3 a8=>So aa aA hd n a0 c0 O a1 c1 h1 N3 _ λx b2 a2 bi c2 i2 h2 N4 ab Y hx _ _ _=>Br.of (λ_=>⟨zN,λN5 aj=>hQ _ _ _ _ _ _ _ aA Y (hx.mono aA)⟩) λ_=>L5 Y a2 c2 h2 N4 aA) λ_=>L5 O a1 c1 h1 N2 aA
theorem zBE (hk:1<=k)(ah:k<=5):Qt k 1000000:=by
 have up:∀ {k S T:Nat},Qt k S->S<=T->Qt k T:=λh U=>λt hw hc {d} hd {g es0} Y hg aa n a0 c0 {es i} ab a c h' N Q hQ=>h t hw hc hd Y hg aa n a0 c0 ab a c h' N Q λd' a' ac c' i' ae N' I J O=>hQ d' a' ac c' i' ae N' I J (O.mono U);have I:Qt 1 1600:=X8 1 aA;have J:Qt 2 8000:=Ps aA aA aA I;have O:Qt 3 40000:=Ps aA aA aA J;have h4:Qt 4 200000:=Ps aA aA aA O;have h5:Qt 5 1000000:=Ps aA aA aA h4;rcases(by omega:k=1\/k=2\/k=3\/k=4\/k=5)with rfl | rfl | rfl | rfl | rfl
 ·exact up (k:=1) (S:=1600) (T:=1000000) I aA
 ·exact up (k:=2) (S:=8000) (T:=1000000) J aA
 ·exact up (k:=3) (S:=40000) (T:=1000000) O aA
 ·exact up (k:=4) (S:=200000) (T:=1000000) h4 aA
 ·exact up (k:=5) (S:=1000000) (T:=1000000) h5 aA
end Go.Proofs.YtlaniepnglheoaaGreatDoor
set_option maxRecDepth 100000
namespace Go.Proofs.YtlaniepnglheoaaGreatDoor
open Go Go.Proofs Go.Proofs.Tryz Go.IntWalk
def SomC m d:=∃ t:Tm,t.Is d/\t.cnt<=m
theorem SomC.mono {m n d}(h:SomC m d)(J:m<=n):SomC n d:=by obtain⟨t,I,O⟩:=h;exact⟨t,I,aA⟩
theorem Some.c {m d}(h:Some m d):SomC m d:=by obtain⟨t,I,J⟩:=h;exact⟨t,I,oR t.cnt_wt J⟩
theorem YY {s}(I:1<=s.size)(hs:s.size<=104) N(Q:QT [.ag 9,.bool])(J:∀ d b N',N<=N'->SomC 2100000 d->Q d b N'):ACalls prog 13 [.ag 9,.bool] [.str s] N Q:=
 uv s aA N Q λb o d N' hN O hd _=>J d b N' hN ⟨o,hd,by have:=O.cnt;omega⟩
end Go.Proofs.YtlaniepnglheoaaGreatDoor
set_option maxRecDepth 100000
namespace Go.Proofs.YtlaniepnglheoaaGreatDoor
open Go Go.Proofs Go.Proofs.Tryz Go.IntWalk
theorem V0 {l:List aG}{s}(h:s∈l)(hl:(l.all λs=>decide (1<=s.size/\s.size<=104))=true):1<=s.size/\s.size<=104:=by
 have:=ob.1 hl s h
 simpa using this
theorem VU {es i}(J:Cu es i) a c h N(Q:QT [.ag 9,.sl 0,.i,.i])(U:∀ d' Y I c' i' h' N',N<=N'->Cu I i'->SomC 2100000 d'->Q d' Y I c' i' h' N'):BCalls prog 68 [.ag 9,.sl 0,.i,.i] [.pb 0 0 0 0] [.var [.sv a 0 es c,.j i,.j h]] N Q:=by
 refine Dc N a es c i h Q λE _ N1 aa=>sQ (l:=[_,_,_,_,_,_,_,_,_,_,_]) J aB aB a c h 11 11 N1 _ λs a1 ab c1 i1 h1 N2 ac O hs _ _ _ N3 ae=>?_;have hs:=V0 hs aD;exact YY hs.1 hs.2 N3 _ λd b N4 ah hd _ _=>⟨zN,λN5 ai=>U _ _ _ _ _ _ _ aA O hd⟩
theorem zBf {l:aM}(h:∀ d∈l,WfD 5 d){j}(I:j<l.length):WfD 5 (l.getD j default):=h _ (K0 I)
theorem VT {es i}(ac:Cu es i) a c h N(Q:QT [.ag 9,.sl 0,.i,.i])(hQ:∀ d' a' Y c' i' h' N',N<=N'->Cu Y i'->SomC 2100000 d'->Q d' a' Y c' i' h' N'):BCalls prog 35 [.ag 9,.sl 0,.i,.i] [.pb 0 0 0 0] [.var [.sv a 0 es c,.j i,.j h]] N Q:=by
 refine Da N a es c i h Q λE _ N1 b9=>pH ac 4 aA a c h N1 _ λb a1 ca c1 i1 h1 N2 cc aa _ _=>Br.of (λ_ N3 ae=>VU aa a1 c1 h1 N3 _ λd a2 ah c2 i2 h2 N4 ai O hd _ _ _=>⟨zN,λN5 aj=>hQ _ _ _ _ _ _ _ aA O hd⟩) λ_ N3 ae=>?_;have cd:∀ {t:Ty} {d:D} (_:t.Is d) (_:t.cnt<=100) (N:Nat) (Q:QT [.ag 2]) (_:∀ d' N',N<=N'->(xW t).Is d'->Q d' N'),ACalls prog 71 [.ag 2] [.dg 2 d] N Q:=λ{t d} ht hc N Q hQ=>wI t d ht aA N _ λe N' h he _=>hQ e N' h he;have ii:(wP tInt tInt).cnt<=100:=aD
 refine xy N3 _ λJ N4 ai I _ _ _ N5 aj=>wH N5 _ λx2 N6 ce k2 _ _ _ N7 cf=>cd I aD N7 _ λx3 N8 cg k3 _ _ N9 ch=>xw tInt tInt J J I I aD aD N9 _ λx4 cj a7 k4 _ _ _ ak a8=>cd k4 ii ak _ λx5 ck ba k5 _ _ al bb=>xw tInt tInt J J I I aD aD al _ λx6 cm bc k6 _ _ _ ao bg=>cd I aD ao _ λx7 cn bh k7 _ _ aq bi=>cd k7 aD aq _ λx8 co bj k8 _ _ au bm=>cd I aD au _ λx9 cp bp k9 _ _ aw bq=>?_;refine xE aa 8 aA a1 c1 h1 aw _ λr a2 ah c2 i2 h2 cq bt O r0 r8 _ _ _=>?_;have r8:=r8 aA;have ab:∀ d∈[J,x2,x3,x5,x6,x8,J,x9],WfD 5 d:=λd hd=>by
  simp only[oK,nP,mn]at hd;rcases hd with rfl | rfl | rfl | rfl | rfl | rfl | rfl | rfl
  ·exact⟨_,.int,I,aD⟩
  ·exact⟨_,.bool,k2,aD⟩
  ·exact⟨_,.code .int,k3,aD⟩
  ·exact⟨_,.code (.fn .int .int),k5,aD⟩
  ·exact⟨_,.fn .int .int,k6,aD⟩
  ·exact⟨_,.code (.code .int),k8,aD⟩
  ·exact⟨_,.int,I,aD⟩
  ·exact⟨_,.code .int,k9,aD⟩
 have U:0+r.toNat<[J,x2,x3,x5,x6,x8,J,x9].length:=aF
 refine⟨⟨r0,r8,U⟩,U,λax bv=>xE O 3 aA a2 c2 h2 ax _ λq a3 cr c3 i3 h3 ct bw ay q0 q3 _ _ _=>⟨⟨rfl,rfl⟩,λa4 cw bz _ az b3=>?_⟩⟩;have q3:=q3 aA;obtain⟨t,hw,ht,cx⟩:=zBf ab U;have e:IntKind.i64.wrap (3+q)=((3+q).toNat:Int):=by rw[i64_in _ aA];omega
 rw[e];exact zBE (k:=(3+q).toNat) aA aA t hw aA ht (g:=[]) ⟨aB,rfl⟩ aF aB 0 a4 0 ay a3 c3 h3 az _ λd a5 cy c5 i5 h5 cz b7 a6 hd _ _ _=>⟨zN,λc6 b8=>hQ _ _ _ _ _ _ _ aA a6 (hd.c.mono aA)⟩
end Go.Proofs.YtlaniepnglheoaaGreatDoor
