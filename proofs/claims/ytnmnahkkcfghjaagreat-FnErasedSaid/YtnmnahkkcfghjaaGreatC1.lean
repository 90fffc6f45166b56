/- Binders, one within the other; a weight that counts them (no program in sight). -/
import Derived.Test.YtnmnahkkcfghjaaGreatA3
import Derived.Test.YtnmnahkkcfghjaaGreatA6
import Derived.Test.YtnmnahkkcfghjaaGreatKu
import Derived.Test.YtnmnahkkcfghjaaGreatKf
import Derived.Test.YtnmnahkkcfghjaaGreatKd
import Derived.Test.YtnmnahkkcfghjaaGreatKe
set_option linter.unusedVariables false
set_option linter.unusedSimpArgs false
namespace Go.Proofs.YtnmnahkkcfghjaaGreat
open Go Go.Proofs Go.Proofs.Tryz Go.IntWalk
/-- how many names a node of a kind may bind -/
def bn (k:Int):Nat:=if k=6 then 1 else if k=8 then 1 else if k=9 then 2 else 0
theorem zPN (k:Int):bn k<=2:=by
 unfold bn
 split
 ·decide
 ·split
  ·decide
  ·split<;>decide
theorem zLs (k:Int):k=6\/k=8\/k=9\/bn k=0:=by
 unfold bn
 by_cases I:k=6
 ·exact .inl I
 ·by_cases J:k=8
  ·exact .inr (.inl J)
  ·by_cases O:k=9
   ·exact .inr (.inr (.inl O))
   ·exact .inr (.inr (.inr (by rw [if_neg I,if_neg J,if_neg O])))
theorem zQj (k:Int):bn k<=2/\(k=9\/bn k<=1):=by
 refine ⟨zPN k,?_⟩
 by_cases I:k=9
 ·exact .inl I
 ·right
  unfold bn
  rw [if_neg I]
  split
  ·decide
  ·split<;>decide
mutual
def Tm.bd:Tm->Nat
 | .mk k _ _ _ _ _ l=>bn k+pz l
def pz:List Tm->Nat
 | []=>0
 | t::I=>max t.bd (pz I)
end
mutual
def Tm.wt:Tm->Nat
 | .mk k _ _ _ ty re l=>1+ty.cnt+re.cnt+2 ^ bn k*vB l
def vB:List Tm->Nat
 | []=>0
 | t::I=>t.wt+vB I
end
theorem zQp (k:Int) (n:Nat):n<=2 ^ bn k*n:=Nat.le_mul_of_pos_left _ (Nat.two_pow_pos _)
theorem zJU {f:Tm->Nat}:∀ {l:List Tm},(∀ x∈l,f x<=x.wt)->(l.map f).sum<=vB l
 | [],_=>by simp [vB]
 | t::I,h=>by
   have O:=h t (by simp)
   have U:=zJU (l:=I) λx J=>h x (by simp [J])
   simp only [ol,List.sum_cons,vB];omega
theorem zEd:∀ l:List Tm,zI l=(l.map Tm.cnt).sum
 | []=>rfl
 | t::I=>by simp only [zI,ol,List.sum_cons,zEd I]
theorem Tm.cnt_wt:∀ t:Tm,t.cnt<=t.wt:=by
 refine Tm.ind λk nm ot n ty re l I=>?_
 have h:=zJU I
 have:=zQp k (vB l)
 simp only [Tm.cnt,Tm.wt,zEd];omega
theorem Tm.two_bd:∀ t:Tm,2 ^ t.bd<=2*t.wt:=by
 refine Tm.ind λk nm ot n ty re l U=>?_
 have key:∀ l:List Tm,(∀ t∈l,2 ^ t.bd<=2*t.wt)->2 ^ pz l<=1+2*vB l/\(l≠[]->2 ^ pz l<=2*vB l):=by
  intro l
  induction l with
  | nil=>intro _;simp [pz,vB]
  | cons x l I=>
    intro h
    have J:=h x (by simp)
    have h2:=(I λy Y=>h y (by simp [Y])).1
    have h3:2 ^ max x.bd (pz l)<=2*(x.wt+vB l):=by
     rcases Nat.le_total x.bd (pz l) with hc | hc
     ·rw [Nat.max_eq_right hc]
      have:1<=2*x.wt:=oN (Nat.two_pow_pos _) J
      omega
     ·rw [Nat.max_eq_left hc];omega
    simp only [pz,vB]
    exact ⟨by omega,λ_=>h3⟩
 obtain ⟨k1,k2⟩:=key l U
 simp only [Tm.bd,Tm.wt,Nat.pow_add]
 have hc:∀ t:Ty,1<=t.cnt:=λt=>by cases t;simp only [Ty.cnt];omega
 have:=hc ty
 have:=hc re
 by_cases O:l=[]
 ·subst O
  have:2 ^ bn k<=2 ^ 2:=nk (by omega) (zPN k)
  simp only [pz,vB,Nat.pow_zero]
  omega
 ·have J:=mY (2 ^ bn k) (k2 O)
  rw [Nat.mul_left_comm] at J
  omega
theorem Tm.bd_of {t:Tm} {m:Nat} (h:t.wt<=m) (J:m<1048576):t.bd<=20:=by
 have O:=t.two_bd
 have I:2 ^ t.bd<2 ^ 21:=by rw [show (2:Nat) ^ 21=2097152 from rfl];omega
 have:=(Nat.pow_lt_pow_iff_right (a:=2) (by omega)).1 I
 omega
def zG0 (l:List Int):List D:=l.map λn=>.j n
theorem zMz (l:List Int):(zG0 l).length=l.length:=by simp [zG0]
theorem zQ3 (k n:Int):(Tm.mk k (bytes []) (bytes []) n (.mk 0 []) (.mk 0 []) []).Is (.ag [.j k,.t (bytes []),.t (bytes []),.j n,.j 0,.sl none 2 [] 0,.j 0,.sl none 2 [] 0,.sl none 9 [] 0]):=
 Tm.is_mk.2 ⟨_,_,_,_,_,_,_,rfl,⟨by decide,by decide,yz _,yz _⟩,by simp,rfl⟩
end Go.Proofs.YtnmnahkkcfghjaaGreat
set_option maxRecDepth 100000
namespace Go.Proofs.YtnmnahkkcfghjaaGreat
open Go Go.Proofs Go.Proofs.Tryz Go.IntWalk
theorem zGN {l:List D} {i:Nat} (h:i<l.length):l.getD i default∈l:=by
 rw [oA,oH h];exact mG h
/-- a cursor over bytes -/
structure Cu (es:List D) (i:Int):Prop where
 b:∀ d∈es,∃ n:Int,d=.lit (.int .u8 n)
 l:es.length<=1073741824
 lo:0<=i
 hi:i<=es.length
theorem zIw (x:Int):0<=IntKind.i64.wrap ((BitVec.ofInt 64 x &&& BitVec.ofInt 64 255).toNat:Int)/\IntKind.i64.wrap ((BitVec.ofInt 64 x &&& BitVec.ofInt 64 255).toNat:Int)<=255:=by
 have h:(BitVec.ofInt 64 x &&& BitVec.ofInt 64 255).toNat<=255:=by
  rw [BitVec.toNat_and]
  exact oN Nat.and_le_right (by decide)
 rw [i64_in _ (by omega)]
 omega
theorem zQJ {es:List D} (O:∀ d∈es,∃ n:Int,d=.lit (.int .u8 n)) (U:es.length<=1073741824) (a:Option Addr) (c:Nat) (N:Nat) (Q:QT [.cu])
  (Y:∀ h N',N<=N'->Cu es 0->Q a es c 0 h N'):ACalls prog 23 [.cu] [.sv a 0 es c] N Q:=by
 refine zGZ N a es c Q λ_=>?_
 have fin:∀ h N',N<=N'->Q a es c 0 h N':=λh N' I=>Y h N' I ⟨O,U,by omega,by omega⟩
 have key:∀ (n i:Nat) (h:Int) (N':Nat),i+n=es.length->N<=N'->wr Q N a es c h i N':=by
  intro n
  induction n with
  | zero=>
    intro i h N' hi I
    refine qH _ _ _ _ _ _ _ _ ?_
    rw [mg (by omega)]
    exact λN1 J=>fin _ _ (by omega)
  | succ n ih=>
    intro i h N' hi I
    refine qH _ _ _ _ _ _ _ _ ?_
    rw [mQ (by omega)]
    rw [Y3]
    rcases Int.lt_or_le (i:Int) 4000 with h4 | h4
    rotate_left
    ·rw [mg (by omega)]
     exact λN1 J=>fin _ _ (by omega)
    rw [mQ h4,Y3]
    refine And.intro ⟨by omega,by omega⟩ ?_
    rw [oK]
    obtain ⟨x,hx⟩:=O (es.getD i default) (zGN (by omega))
    refine ⟨x,hx,?_⟩
    rw [i64_in ((i:Int)+1) (by omega)]
    exact ih (i+1) _ N' (by omega) I
 exact key es.length 0 _ N (by omega) (oD _)
theorem zGs {es:List D} {i:Int} (hc:Cu es i) (a:Option Addr) (c:Nat) (h:Int) (N:Nat) (Q:QT [.i,.sl 0,.i,.i])
  (U:∀ x Y J c' i' h' N',N<=N'->Cu J i'->0<=x->x<=255->Q x Y J c' i' h' N'):BCalls prog 59 [.i,.sl 0,.i,.i] [.pb 0 0 0 0] [.var [.sv a 0 es c,.j i,.j h]] N Q:=by
 have h1:=hc.lo
 have h2:=hc.hi
 have h3:=hc.l
 refine zBN N a es c i h Q λE _=>⟨by omega,by omega,Br.dec (λO=>⟨⟨h1,O⟩,?_⟩) λ_=>⟨zV,λN1 I=>U _ _ _ _ _ _ _ I hc (zIw _).1 (zIw _).2⟩⟩
 obtain ⟨x,hx⟩:=hc.b (es.getD i.toNat default) (zGN (by omega))
 refine ⟨x,hx,zV,λN1 I=>U _ _ _ _ _ _ _ I ?_ (zIw _).1 (zIw _).2⟩
 rw [i64_in (i+1) (by omega)]
 exact ⟨hc.b,hc.l,by omega,by omega⟩
theorem zw {es:List D} {i:Int} (hc:Cu es i) (n:Int) (hn:n<=4294967296) (a:Option Addr) (c:Nat) (h:Int) (N:Nat) (Q:QT [.i,.sl 0,.i,.i])
  (hQ:∀ x O J U i' Y N',N<=N'->Cu J i'->0<=x->(0<n->x<n)->(n<=0->x=0)->Q x O J U i' Y N'):BCalls prog 35 [.i,.sl 0,.i,.i] [.pb 0 0 0 0,.j n] [.var [.sv a 0 es c,.j i,.j h]] N Q:=by
 have tm:∀ x:Int,0<=x->0<n->0<=Int.tmod x n/\Int.tmod x n<n:=λx hx h0=>⟨Int.tmod_nonneg _ hx,Int.tmod_lt_of_pos _ h0⟩
 refine zAv N n a es c i h Q λE _=>Br.dec (λh0=>⟨zV,λN1 aa=>hQ _ _ _ _ _ _ _ aa hc (by omega) (by omega) λ_=>rfl⟩) λh0=>Br.dec (λhs N1 aa=>?_) λhs N1 aa=>?_
 ·exact zGs hc a c h N1 _ λx O J U i' Y N2 ab I x0 x1 _ _=>⟨by omega,zV,λN3 ac=>hQ _ _ _ _ _ _ _ (by omega) I (tm x x0 (by omega)).1 (λg=>(tm x x0 g).2) λg=>by omega⟩
 ·refine zGs hc a c h N1 _ λx O J U i' Y N2 ab I x0 x1 _ _ N3 ac=>?_
  refine zGs I O U Y N3 _ λy O J U i' Y N4 ae I y0 y1 _ _ N5 ah=>?_
  refine zGs I O U Y N5 _ λz O J U i' Y N6 ai I z0 z1 _ _ N7 aj=>?_
  refine zGs I O U Y N7 _ λw O J U i' Y N8 ak I w0 w1 _ _=>⟨by omega,zV,λN9 al=>?_⟩
  have e:IntKind.i64.wrap (IntKind.i64.wrap (IntKind.i64.wrap (IntKind.i64.wrap (x*16777216)+IntKind.i64.wrap (y*65536))+IntKind.i64.wrap (z*256))+w)=x*16777216+y*65536+z*256+w:=by
   rw [i64_in (x*16777216) (by omega),i64_in (y*65536) (by omega),i64_in (z*256) (by omega),i64_in (x*16777216+y*65536) (by omega),i64_in (x*16777216+y*65536+z*256) (by omega),i64_in _ (by omega)]
  have hq:=hQ (Int.tmod (x*16777216+y*65536+z*256+w) n) O J U i' Y N9 (by omega) I (tm _ (by omega) (by omega)).1 (λg=>(tm _ (by omega) g).2) λg=>by omega
  rw [<-e] at hq
  exact hq
theorem vW {es:List D} {i:Int} (hc:Cu es i) (n:Int) (hn:n<=4294967296) (a:Option Addr) (c:Nat) (h:Int) (N:Nat) (Q:QT [.bool,.sl 0,.i,.i])
  (hQ:∀ b O I U i' Y N',N<=N'->Cu I i'->Q b O I U i' Y N'):BCalls prog 24 [.bool,.sl 0,.i,.i] [.pb 0 0 0 0,.j n] [.var [.sv a 0 es c,.j i,.j h]] N Q:=
 zBR N n a es c i h Q λE _ N1 aa=>zw hc n hn a c h N1 _ λx O I U i' Y N2 ab J _ _ _ _ _=>⟨zV,λN3 ac=>hQ _ _ _ _ _ _ _ (by omega) J⟩
theorem uV {es:List D} {i:Int} (hc:Cu es i) (l:List ByteArray) (h0:0<l.length) (hl:l.length<=4294967296) (a:Option Addr) (c:Nat) (h:Int) (k q:Nat) (N:Nat) (Q:QT [.str,.sl 0,.i,.i,.sl 0])
  (hQ:∀ s U I Y i' h' N',N<=N'->Cu I i'->s∈l->Q s U I Y i' h' none (zB l) q N'):BCalls prog 48 [.str,.sl 0,.i,.i,.sl 0] [.pb 0 0 0 0,.sb 1 0 0 l.length k] [.var [.sv a 0 es c,.j i,.j h],.arr 9 0 (zB l) q] N Q:=by
 have aa:=zS l
 refine zBW N l.length k a es c i h (zB l) q Q λE _ _ N1 ab=>?_
 refine zw hc l.length (by omega) a c h N1 _ λx U I Y i' h' N2 ac J x0 O _ _ _=>?_
 have O:=O (by omega)
 have hx:x.toNat<l.length:=by omega
 refine ⟨⟨x0,O,by omega⟩,by omega,l[x.toNat],?_,zV,λN3 ae=>hQ _ _ _ _ _ _ _ (by omega) J (mG hx)⟩
 simp [zB,oA,oE,oH hx]
theorem vC {es:List D} {i:Int} (hc:Cu es i) (l:List Int) (h0:0<l.length) (hl:l.length<=4294967296) (a:Option Addr) (c:Nat) (h:Int) (k q:Nat) (N:Nat) (Q:QT [.i,.sl 0,.i,.i,.sl 0])
  (hQ:∀ s U I Y i' h' N',N<=N'->Cu I i'->s∈l->Q s U I Y i' h' none (zG0 l) q N'):BCalls prog 47 [.i,.sl 0,.i,.i,.sl 0] [.pb 0 0 0 0,.sb 1 0 0 l.length k] [.var [.sv a 0 es c,.j i,.j h],.arr 3 0 (zG0 l) q] N Q:=by
 have aa:=zMz l
 refine qN N l.length k a es c i h (zG0 l) q Q λE _ _ N1 ab=>?_
 refine zw hc l.length (by omega) a c h N1 _ λx U I Y i' h' N2 ac J x0 O _ _ _=>?_
 have O:=O (by omega)
 have hx:x.toNat<l.length:=by omega
 refine ⟨⟨x0,O,by omega⟩,by omega,l[x.toNat],?_,zV,λN3 ae=>hQ _ _ _ _ _ _ _ (by omega) J (mG hx)⟩
 simp [zG0,oA,oE,oH hx]
end Go.Proofs.YtnmnahkkcfghjaaGreat
set_option maxRecDepth 100000
namespace Go.Proofs.YtnmnahkkcfghjaaGreat
open Go Go.Proofs Go.Proofs.Tryz Go.IntWalk
/-- some term of at most this weight -/
def Some (m:Nat) (d:D):Prop:=∃ t:Tm,t.Is d/\t.wt<=m
/-- some term of at most this many nodes, and of few names one within the other -/
def SomB (m:Nat) (d:D):Prop:=∃ t:Tm,t.Is d/\t.cnt<=m/\t.bd<=20
theorem SomB.mono {m n:Nat} {d:D} (h:SomB m d) (O:m<=n):SomB n d:=by obtain ⟨t,I,U,J⟩:=h;exact ⟨t,I,by omega,J⟩
theorem Some.b {m:Nat} {d:D} (h:Some m d) (J:m<1048576):SomB m d:=by obtain ⟨t,O,I⟩:=h;exact ⟨t,O,oN t.cnt_wt I,Tm.bd_of I J⟩
theorem Some.mono {m n:Nat} {d:D} (h:Some m d) (J:m<=n):Some n d:=by obtain ⟨t,I,O⟩:=h;exact ⟨t,I,by omega⟩
theorem zRo {m:Nat}:∀ {es:List D},(∀ d∈es,Some m d)->∃ l,All2 Tm.Is l es/\(∀ x∈l,x.wt<=m)
 | [],_=>⟨[],rfl,by simp⟩
 | d::es,h=>by
   obtain ⟨t,I,J⟩:=h d (by simp)
   obtain ⟨l,O,U⟩:=zRo λx hx=>h x (nZ d hx)
   exact ⟨t::l,⟨d,es,rfl,I,O⟩,λx hx=>by
    rcases oF.1 hx with rfl | hx
    ·exact J
    ·exact U x hx⟩
theorem zGh {m:Nat}:∀ {l:List Tm},(∀ x∈l,x.wt<=m)->vB l<=l.length*m
 | [],_=>by simp [vB]
 | x::l,h=>by
   have J:=zGh (l:=l) λy I=>h y (by simp [I])
   have O:=h x (by simp)
   simp only [vB,oO,o8,mb]
   omega
theorem zD5 (k:Int) {m:Nat} (hm:m<=1073741824) {es:List D} (I:∀ d∈es,Some m d) (hl:es.length<=1000) (a:Option Addr) (c:Nat) (N:Nat) (Q:QT [.ag 9])
  (hQ:∀ d' N',N<=N'->Some (3+es.length*m) d'->Own N N' d'->Q d' N') (hk:bn k=0:=by decide):ACalls prog 67 [.ag 9] [.j k,.sv a 9 es c] N Q:=by
 obtain ⟨l,U,Y⟩:=zRo I
 have J:=U.len
 refine zBx k U (by omega) (λx hx=>oN x.cnt_wt (oN (Y x hx) hm)) a c N _ λd' N' O hd ho=>hQ d' N' O ⟨_,hd,?_⟩ ho
 have:=zGh Y
 simp only [Tm.wt,Ty.cnt,zG,hk,Nat.pow_zero,mb]
 rw [J]
 omega
/-- another name -/
theorem zHU {m:Nat} {d:D} (h:Some m d) {s:ByteArray} (hs:s.size<=4611686018427387904):Some m (.ag [d.cell 0,.t s,d.cell 2,d.cell 3,d.cell 4,d.cell 5,d.cell 6,d.cell 7,d.cell 8]):=by
 obtain ⟨t,U,Y⟩:=h
 cases t with
 | mk k nm ot n ty re l=>
   obtain ⟨t0,t1,r0,r1,a,es,c,rfl,J,I,O⟩:=Tm.is_mk.1 U
   exact ⟨.mk k s ot n ty re l,Tm.is_mk.2 ⟨_,_,_,_,_,_,_,rfl,⟨hs,J.ot,J.ty,J.re⟩,I,O⟩,Y⟩
theorem zND {m N N':Nat} {d:D} (h:Some m d) (J:Own N N' d) (s:ByteArray):Own N N' (.ag [d.cell 0,.t s,d.cell 2,d.cell 3,d.cell 4,d.cell 5,d.cell 6,d.cell 7,d.cell 8]):=by
 obtain ⟨t,O,Y⟩:=h
 cases t with
 | mk k nm ot n ty re l=>
   obtain ⟨t0,t1,r0,r1,a,es,c,rfl,hh,I,U⟩:=Tm.is_mk.1 O
   exact zI1 (v2:=.string s) J
theorem zTD {s:ByteArray} (hs:s.size<=4611686018427387904) {m:Nat} (U:m<=1073741824) {es:List D} (I:∀ d∈es,Some m d) (Y:es.length<=1000) (a:Option Addr) (c:Nat) (N:Nat) (Q:QT [.ag 9])
  (hQ:∀ d' N',N<=N'->Some (3+es.length*m) d'->Own N N' d'->Q d' N'):ACalls prog 90 [.ag 9] [.str s,.sv a 9 es c] N Q:=
 zH4 N s a es c Q λ_ N1 J=>zD5 4 U I Y a c N1 _ λd' N2 aa hd ho _ _ N3 O=>hQ _ _ (by omega) (zHU hd hs) ((zND hd ho s).mono J O)
theorem pZ (k n:Int) (s:ByteArray) (hs:s.size<=4611686018427387904):Some 3 (.ag [.j k,.t s,.t (bytes []),.j n,.j 0,.sl none 2 [] 0,.j 0,.sl none 2 [] 0,.sl none 9 [] 0]):=
 zHU (s:=s) ⟨_,zQ3 k n,by simp only [Tm.wt,Ty.cnt,zG,vB,Nat.mul_zero];omega⟩ hs
theorem zQo (s:ByteArray) (hs:s.size<=4611686018427387904) (N:Nat) (Q:QT [.ag 9]) (J:∀ d' N',N<=N'->Some 3 d'->Q d' N'):ACalls prog 49 [.ag 9] [.str s] N Q:=
 zA7 N s Q λN1 I=>J _ _ I (pZ 1 0 s hs)
theorem zQG (n:Int) (N:Nat) (Q:QT [.ag 9]) (J:∀ d' N',N<=N'->Some 3 d'->Q d' N'):ACalls prog 85 [.ag 9] [.j n] N Q:=
 zA3 N n Q λN1 I=>J _ _ I (pZ 2 n (bytes []) (by decide))
theorem zMK (n:Int) (N:Nat) (Q:QT [.ag 9]) (J:∀ d' N',N<=N'->Some 3 d'->Q d' N'):ACalls prog 86 [.ag 9] [.j n] N Q:=
 zAF N n Q λN1 I=>J _ _ I (pZ 3 n (bytes []) (by decide))
theorem zSS {s:ByteArray} (hs:s.size<=4611686018427387904) {m:Nat} (hm:m<=1073741824) {d e:D} (hd:Some m d) (J:Some m e) (N:Nat) (Q:QT [.ag 9])
  (O:∀ d' N',N<=N'->Some (3+4*m) d'->Q d' N'):ACalls prog 87 [.ag 9] [.str s,.dg 9 d,.dg 9 e] N Q:=by
 obtain ⟨t,U,h2⟩:=hd
 obtain ⟨u,Y,h4⟩:=J
 have w1:=t.cnt_wt
 have w2:=u.cnt_wt
 refine zPC s hs t u d e U Y (by omega) (by omega) N _ λd' N' I hx _=>O d' N' I ⟨_,hx,?_⟩
 simp only [Tm.letN,Tm.wt,Ty.cnt,zG,vB,show bn 8=1 from rfl]
 omega
theorem zPc {s:ByteArray} (hs:s.size<=4611686018427387904) {ty:Ty} {O:D} (h1:ty.Is O) (U:ty.cnt<=1073741824) {m:Nat} (hm:m<=1073741824) {d:D} (hd:Some m d) (N:Nat) (Q:QT [.ag 9])
  (hQ:∀ d' N',N<=N'->Some (2+ty.cnt+2*m) d'->Q d' N'):ACalls prog 64 [.ag 9] [.str s,.dg 2 O,.dg 9 d] N Q:=by
 obtain ⟨t,h2,h3⟩:=hd
 have w1:=t.cnt_wt
 refine zHJ N s O d Q λ_ _=>⟨⟨rfl,rfl⟩,λa _ N1 ab I=>?_⟩
 refine zBx 6 (rK h2) (by simp) (by simpa using (by omega:t.cnt<=1073741824)) a 1 N1 _ λx N2 ac hx ho _=>⟨uD I ho,λ_ N3 ae=>?_⟩
 refine zH ty O h1 U N3 _ λx' N4 ah Y ai _ _ N5 aj=>?_
 obtain ⟨t0,t1,r0,r1,a',es,c,rfl,hh,J,aa⟩:=Tm.is_mk.1 hx
 refine hQ _ _ (by omega) ⟨.mk 6 s (bytes []) 0 ty (.mk 0 []) [t],Tm.is_mk.2 ⟨_,_,_,_,_,_,_,rfl,⟨hs,hh.ot,Ty.is_cells Y,hh.re⟩,J,aa⟩,?_⟩
 simp only [Tm.wt,Ty.cnt,zG,vB,show bn 6=1 from rfl]
 omega
/-- a type by its form -/
inductive Wf:Ty->Prop
 | int:Wf tInt
 | bool:Wf tBool
 | fn {a b:Ty}:Wf a->Wf b->Wf (wA a b)
 | code {a:Ty}:Wf a->Wf (yd a)
theorem zNQ {t:Ty} (hw:Wf t):t.cnt<=20->∀ {d:D} (_:t.Is d) (n:Int) {es:List D} {i:Int} (_:Cu es i) (a:Option Addr) (c:Nat) (h:Int) (N:Nat) (Q:QT [.ag 9,.sl 0,.i,.i])
  (_:∀ d' a' O c' i' h' N',N<=N'->Cu O i'->Some (3*2 ^ t.cnt) d'->Q d' a' O c' i' h' N'),BCalls prog 61 [.ag 9,.sl 0,.i,.i] [.pb 0 0 0 0,.dg 2 d,.j n] [.var [.sv a 0 es c,.j i,.j h]] N Q:=by
 induction hw with
 | int=>
   intro hc d hd n es i I a c h N Q U
   obtain ⟨b,fs,k,rfl,_,h2⟩:=Ty.is_mk.1 hd
   refine xR N _ n a es c i h Q λE _ _=>⟨1,rfl,Br.beq (λ_ N1 Y=>?_) λh=>absurd rfl h⟩
   exact zw I 4 (by omega) a c h N1 _ λx a' O c' i' h' N2 aa J _ _ _ _ _ N3 ab=>zQG x N3 _ λd' N4 ac ae _ _=>⟨zV,λN5 ai=>U _ _ _ _ _ _ _ (by omega) J (ae.mono (by simp [tInt,Ty.cnt,zG]))⟩
 | bool=>
   intro hc d hd n es i I a c h N Q U
   obtain ⟨b,fs,k,rfl,_,h2⟩:=Ty.is_mk.1 hd
   refine xR N _ n a es c i h Q λE _ _=>⟨2,rfl,Br.beq (λh=>absurd h (by decide)) λ_=>Br.beq (λ_ N1 Y=>?_) λh=>absurd rfl h⟩
   exact zw I 2 (by omega) a c h N1 _ λx a' O c' i' h' N2 aa J _ _ _ _ _ N3 ab=>zMK x N3 _ λd' N4 ac ae _ _=>⟨zV,λN5 ai=>U _ _ _ _ _ _ _ (by omega) J (ae.mono (by simp [tBool,Ty.cnt,zG]))⟩
 | @fn u v hu hv aj ak=>
   intro hc d hd n es i I a c h N Q U
   have ah:(wA u v).cnt=1+(u.cnt+(v.cnt+0)):=rfl
   obtain ⟨b,fs,k,rfl,al,d1,_,rfl,h3,d2,_,rfl,h4,rfl⟩:=Ty.is_mk.1 hd
   refine xR N _ n a es c i h Q λE _ _=>⟨3,rfl,Br.beq (λh=>absurd h (by decide)) λ_=>Br.beq (λh=>absurd h (by decide)) λ_=>Br.beq (λ_=>⟨_,_,_,rfl,⟨by simp,by simp⟩,_,_,_,rfl,⟨by simp,by simp⟩,λN1 Y=>?_⟩) λh=>absurd rfl h⟩
   refine ak (by omega) h4 n I a c h N1 _ λx a' O c' i' h' N2 aa J hx _ _ _ N3 ab=>?_
   have p6:2 ^ v.cnt<=2 ^ 20:=nk (by omega) (by omega)
   refine zPc (by decide) h3 (by omega) (by omega) hx N3 _ λy N4 ac hy _ _=>⟨zV,λN5 ai=>U _ _ _ _ _ _ _ (by omega) J (hy.mono ?_)⟩
   have p1:=Nat.two_pow_pos v.cnt
   have p2:2 ^ 1<=2 ^ u.cnt:=nk (by omega) (by cases u;simp only [Ty.cnt];omega)
   have p3:u.cnt<2 ^ u.cnt:=Nat.lt_two_pow_self
   have p4:=oe (2 ^ v.cnt) p2
   have p5:=mY (2 ^ u.cnt) p1
   rw [ah,show 1+(u.cnt+(v.cnt+0))=u.cnt+v.cnt+1 by omega,ms,Nat.pow_add]
   omega
 | @code u hu aj=>
   intro hc d hd n es i I a c h N Q U
   have ah:(yd u).cnt=1+(u.cnt+0):=rfl
   obtain ⟨b,fs,k,rfl,al,d1,_,rfl,h3,rfl⟩:=Ty.is_mk.1 hd
   refine xR N _ n a es c i h Q λE _ _=>⟨4,rfl,Br.beq (λh=>absurd h (by decide)) λ_=>Br.beq (λh=>absurd h (by decide)) λ_=>Br.beq (λh=>absurd h (by decide)) λ_=>⟨_,_,_,rfl,⟨by simp,by simp⟩,λN1 Y=>?_⟩⟩
   refine aj (by omega) h3 _ I a c h N1 _ λx a' O c' i' h' N2 aa J hx _ _ _=>⟨⟨rfl,rfl⟩,⟨rfl,rfl⟩,⟨rfl,rfl⟩,λa7 N3 ab _=>⟨zV,λN4 ac=>U _ _ _ _ _ _ _ (by omega) J ?_⟩⟩
   obtain ⟨e,h5,h6⟩:=hx
   refine ⟨.mk 10 (bytes []) (bytes []) 0 (.mk 0 []) (.mk 0 []) [e],Tm.is_mk.2 ⟨_,_,_,_,_,_,_,rfl,⟨by decide,by decide,yz 0,yz 0⟩,by simp,rK h5⟩,?_⟩
   have p1:=Nat.two_pow_pos u.cnt
   simp only [Tm.wt,Ty.cnt,zG,vB,show bn 10=0 from rfl]
   rw [ah,show 1+(u.cnt+0)=u.cnt+1 by omega,ms]
   omega
theorem zIG {t:Ty} (hw:Wf t) (hc:t.cnt<=9) {d:D} (hd:t.Is d) (n:Int) {es:List D} {i:Int} (J:Cu es i) (a:Option Addr) (c:Nat) (h:Int) (N:Nat) (Q:QT [.ag 9,.sl 0,.i,.i])
  (hQ:∀ d' O I U i' Y N',N<=N'->Cu I i'->Some 1536 d'->Q d' O I U i' Y N'):BCalls prog 61 [.ag 9,.sl 0,.i,.i] [.pb 0 0 0 0,.dg 2 d,.j n] [.var [.sv a 0 es c,.j i,.j h]] N Q:=
 zNQ hw (by omega) hd n J a c h N Q λd' O I U i' Y N' h1 h2 h3=>hQ d' O I U i' Y N' h1 h2 (h3.mono (by have:2 ^ t.cnt<=2 ^ 9:=nk (by omega) hc;omega))
theorem some_nod:Some 3 (.ag [.j 0,.t (bytes []),.t (bytes []),.j 0,.j 0,.sl none 2 [] 0,.j 0,.sl none 2 [] 0,.sl none 9 [] 0]):=pZ 0 0 (bytes []) (by decide)
/-- a variable of a type, if there is one -/
theorem zMW {g:List Tg} {I:List D} (O:Ctx g I) (hg:g.length<=1000000) {t:Ty} {d:D} (hd:t.Is d) (n:Int) (a0:Option Addr) (c0:Nat) {es:List D} {i:Int} (Y:Cu es i) (a:Option Addr) (c:Nat) (h:Int) (N:Nat) (Q:QT [.ag 9,.bool,.sl 0,.i,.i])
  (hQ:∀ d' b a' U c' i' h' N',N<=N'->Cu U i'->Some 3 d'->Q d' b a' U c' i' h' N'):BCalls prog 60 [.ag 9,.bool,.sl 0,.i,.i] [.pb 0 0 0 0,.sv a0 4 I c0,.dg 2 d,.j n] [.var [.sv a 0 es c,.j i,.j h]] N Q:=by
 have hl:=O.all.len
 refine zAu N a0 I c0 d n a es c i h Q λE _ _ _=>?_
 refine up O.all O.len (λk xs=>∀ (r:List D) (q N':Nat),N<=N'->(∀ x∈r,Some 3 x)->r.length<=k->zl E Q N a0 I c0 n r.length q k a es c i h d 0 (bytes []) (bytes []) 0 0 none [] 0 0 none [] 0 none [] 0 r q N') ?_ ?_ [] 0 N (oD _) (by simp) (by simp)
 ·intro k ac hk r q N' aa hr ae
  refine sA _ _ _ _ _ _ _ _ _ _ _ _ _ _ _ _ _ _ _ _ _ _ _ _ _ _ _ _ _ _ _ _ _ _ ?_
  rw [ac]
  refine Br.beq (λ_=>⟨zV,λN1 ab=>hQ _ _ _ _ _ _ _ _ (by omega) Y some_nod⟩) λh0 N1 ab=>?_
  refine zw Y _ (by omega) a c h N1 _ λx a' U c' i' h' N2 ah ai x0 x1 _ _ _=>?_
  have x1:=x1 (by omega)
  exact ⟨⟨x0,x1,by omega⟩,by omega,zV,λN3 aj=>hQ _ _ _ _ _ _ _ _ (by omega) ai (hr _ (zGN (by omega)))⟩
 ·intro k x xs J _ ih r q N' aa hr ae
  have hb:=J.b
  obtain ⟨t0,t1,ak,al,am⟩:=J.r
  have skip:∀ N'',N<=N''->zl E Q N a0 I c0 n r.length q (IntKind.i64.wrap ((k:Int)+1)) a es c i h d 0 (bytes []) (bytes []) 0 0 none [] 0 0 none [] 0 none [] 0 r q N'':=λN'' h=>by
   rw [J.w];exact ih r q N'' h hr (by omega)
  refine sA _ _ _ _ _ _ _ _ _ _ _ _ _ _ _ _ _ _ _ _ _ _ _ _ _ _ _ _ _ _ _ _ _ _ ?_
  rw [J.lt]
  simp only [oK]
  rw [ak]
  have bd:(0:Int)<=(k:Int)/\(k:Int)<(I.length:Int):=⟨by omega,by omega⟩
  refine ⟨bd,x.lv,rfl,Br.beq (λ_=>⟨bd,λN1 ab=>?_⟩) λ_=>skip N' aa⟩
  refine zj x.ty t _ d am hd N1 _ λN2 ah _=>Br.of (λ_=>⟨bd,x.nm,rfl,λN3 aj=>?_⟩) λ_=>skip N2 (by omega)
  refine vX O a0 c0 x.nm N3 _ λN4 ao _=>Br.beq (λ_=>⟨bd,x.nm,rfl,λN5 aq=>?_⟩) λ_=>skip N4 (by omega)
  refine zQo x.nm al N5 _ λy N6 au hy _ _=>⟨⟨by trivial,by trivial⟩,by unfold zA;rw [oI];simp only [oO,oX];omega,λc1=>?_⟩
  rw [J.w]
  exact ih (r++[y]) c1 N6 (by omega) (λz hz=>by
   rcases oJ.1 hz with hz | hz
   ·exact hr z hz
   ·rw [oY] at hz;subst hz;exact hy) (by simp;omega)
end Go.Proofs.YtnmnahkkcfghjaaGreat
