/- Drawing: cursors, numbers, picks. -/
import Derived.Test.YtlahkdflngobiaaGreatKd
import Derived.Test.YtlahkdflngobiaaGreatB4
import Derived.Test.YtlahkdflngobiaaGreatKu
set_option linter.unusedVariables false
set_option linter.unusedSimpArgs false
set_option maxRecDepth 100000
namespace Go.Proofs.YtlahkdflngobiaaGreat
open Go Go.Proofs Go.Proofs.Tryz Go.IntWalk
theorem zIi {l:List D} {i:Nat} (h:i<l.length):l.getD i default∈l:=by
 rw [oA,oE h];exact mD h
/-- a cursor over bytes -/
structure Cu (es:List D) (i:Int):Prop where
 b:∀ d∈es,∃ n:Int,d=.lit (.int .u8 n)
 l:es.length<=1073741824
 lo:0<=i
 hi:i<=es.length
theorem zLT (x:Int):0<=IntKind.i64.wrap ((BitVec.ofInt 64 x &&& BitVec.ofInt 64 255).toNat:Int)/\IntKind.i64.wrap ((BitVec.ofInt 64 x &&& BitVec.ofInt 64 255).toNat:Int)<=255:=by
 have h:(BitVec.ofInt 64 x &&& BitVec.ofInt 64 255).toNat<=255:=by
  rw [BitVec.toNat_and]
  exact oR Nat.and_le_right (by decide)
 rw [i64_in _ (by omega)]
 omega
theorem zTy {es:List D} (O:∀ d∈es,∃ n:Int,d=.lit (.int .u8 n)) (U:es.length<=1073741824) (a:Option Addr) (c:Nat) (N:Nat) (Q:QT [.cu])
  (Y:∀ h N',N<=N'->Cu es 0->Q a es c 0 h N'):ACalls prog 24 [.cu] [.sv a 0 es c] N Q:=by
 refine zIo N a es c Q λ_=>?_
 have fin:∀ h N',N<=N'->Q a es c 0 h N':=λh N' I=>Y h N' I ⟨O,U,by omega,by omega⟩
 have key:∀ (n i:Nat) (h:Int) (N':Nat),i+n=es.length->N<=N'->vW Q N a es c h i N':=by
  intro n
  induction n with
  | zero=>
    intro i h N' hi I
    refine pO _ _ _ _ _ _ _ _ ?_
    rw [mX (by omega)]
    exact λN1 J=>fin _ _ (by omega)
  | succ n ih=>
    intro i h N' hi I
    refine pO _ _ _ _ _ _ _ _ ?_
    rw [mG (by omega)]
    rw [Y3]
    rcases Int.lt_or_le (i:Int) 4000 with h4 | h4
    rotate_left
    ·rw [mX (by omega)]
     exact λN1 J=>fin _ _ (by omega)
    rw [mG h4,Y3]
    refine And.intro ⟨by omega,by omega⟩ ?_
    rw [oH]
    obtain ⟨x,hx⟩:=O (es.getD i default) (zIi (by omega))
    refine ⟨x,hx,?_⟩
    rw [i64_in ((i:Int)+1) (by omega)]
    exact ih (i+1) _ N' (by omega) I
 exact key es.length 0 _ N (by omega) (oD _)
theorem zJA {es:List D} {i:Int} (hc:Cu es i) (a:Option Addr) (c:Nat) (h:Int) (N:Nat) (Q:QT [.i,.sl 0,.i,.i])
  (U:∀ x Y J c' i' h' N',N<=N'->Cu J i'->0<=x->x<=255->Q x Y J c' i' h' N'):BCalls prog 70 [.i,.sl 0,.i,.i] [.pb 0 0 0 0] [.var [.sv a 0 es c,.j i,.j h]] N Q:=by
 have h1:=hc.lo
 have h2:=hc.hi
 have h3:=hc.l
 refine zC7 N a es c i h Q λE _=>⟨by omega,by omega,Br.dec (λO=>⟨⟨h1,O⟩,?_⟩) λ_=>⟨vD,λN1 I=>U _ _ _ _ _ _ _ I hc (zLT _).1 (zLT _).2⟩⟩
 obtain ⟨x,hx⟩:=hc.b (es.getD i.toNat default) (zIi (by omega))
 refine ⟨x,hx,vD,λN1 I=>U _ _ _ _ _ _ _ I ?_ (zLT _).1 (zLT _).2⟩
 rw [i64_in (i+1) (by omega)]
 exact ⟨hc.b,hc.l,by omega,by omega⟩
theorem xG {es:List D} {i:Int} (hc:Cu es i) (n:Int) (hn:n<=4294967296) (a:Option Addr) (c:Nat) (h:Int) (N:Nat) (Q:QT [.i,.sl 0,.i,.i])
  (hQ:∀ x O J U i' Y N',N<=N'->Cu J i'->0<=x->(0<n->x<n)->(n<=0->x=0)->Q x O J U i' Y N'):BCalls prog 27 [.i,.sl 0,.i,.i] [.pb 0 0 0 0,.j n] [.var [.sv a 0 es c,.j i,.j h]] N Q:=by
 have tm:∀ x:Int,0<=x->0<n->0<=Int.tmod x n/\Int.tmod x n<n:=λx hx h0=>⟨Int.tmod_nonneg _ hx,Int.tmod_lt_of_pos _ h0⟩
 refine zCX N n a es c i h Q λE _=>Br.dec (λh0=>⟨vD,λN1 aa=>hQ _ _ _ _ _ _ _ aa hc (by omega) (by omega) λ_=>rfl⟩) λh0=>Br.dec (λhs N1 aa=>?_) λhs N1 aa=>?_
 ·exact zJA hc a c h N1 _ λx O J U i' Y N2 ab I x0 x1 _ _=>⟨by omega,vD,λN3 ac=>hQ _ _ _ _ _ _ _ (by omega) I (tm x x0 (by omega)).1 (λg=>(tm x x0 g).2) λg=>by omega⟩
 ·refine zJA hc a c h N1 _ λx O J U i' Y N2 ab I x0 x1 _ _ N3 ac=>?_
  refine zJA I O U Y N3 _ λy O J U i' Y N4 ae I y0 y1 _ _ N5 ah=>?_
  refine zJA I O U Y N5 _ λz O J U i' Y N6 ai I z0 z1 _ _ N7 aj=>?_
  refine zJA I O U Y N7 _ λw O J U i' Y N8 ak I w0 w1 _ _=>⟨by omega,vD,λN9 al=>?_⟩
  have e:IntKind.i64.wrap (IntKind.i64.wrap (IntKind.i64.wrap (IntKind.i64.wrap (x*16777216)+IntKind.i64.wrap (y*65536))+IntKind.i64.wrap (z*256))+w)=x*16777216+y*65536+z*256+w:=by
   rw [i64_in (x*16777216) (by omega),i64_in (y*65536) (by omega),i64_in (z*256) (by omega),i64_in (x*16777216+y*65536) (by omega),i64_in (x*16777216+y*65536+z*256) (by omega),i64_in _ (by omega)]
  have hq:=hQ (Int.tmod (x*16777216+y*65536+z*256+w) n) O J U i' Y N9 (by omega) I (tm _ (by omega) (by omega)).1 (λg=>(tm _ (by omega) g).2) λg=>by omega
  rw [<-e] at hq
  exact hq
theorem zCt {es:List D} {i:Int} (hc:Cu es i) (n:Int) (hn:n<=4294967296) (a:Option Addr) (c:Nat) (h:Int) (N:Nat) (Q:QT [.bool,.sl 0,.i,.i])
  (hQ:∀ b O I U i' Y N',N<=N'->Cu I i'->Q b O I U i' Y N'):BCalls prog 108 [.bool,.sl 0,.i,.i] [.pb 0 0 0 0,.j n] [.var [.sv a 0 es c,.j i,.j h]] N Q:=
 zDA N n a es c i h Q λE _ N1 aa=>xG hc n hn a c h N1 _ λx O I U i' Y N2 ab J _ _ _ _ _=>⟨vD,λN3 ac=>hQ _ _ _ _ _ _ _ (by omega) J⟩
theorem rq {es:List D} {i:Int} (hc:Cu es i) (l:List ByteArray) (h0:0<l.length) (hl:l.length<=4294967296) (a:Option Addr) (c:Nat) (h:Int) (k q:Nat) (N:Nat) (Q:QT [.str,.sl 0,.i,.i,.sl 0])
  (hQ:∀ s U I Y i' h' N',N<=N'->Cu I i'->s∈l->Q s U I Y i' h' none (zC l) q N'):BCalls prog 71 [.str,.sl 0,.i,.i,.sl 0] [.pb 0 0 0 0,.sb 1 0 0 l.length k] [.var [.sv a 0 es c,.j i,.j h],.arr 9 0 (zC l) q] N Q:=by
 have aa:=zW l
 refine zDH N l.length k a es c i h (zC l) q Q λE _ _ N1 ab=>?_
 refine xG hc l.length (by omega) a c h N1 _ λx U I Y i' h' N2 ac J x0 O _ _ _=>?_
 have O:=O (by omega)
 have hx:x.toNat<l.length:=by omega
 refine ⟨⟨x0,O,by omega⟩,by omega,l[x.toNat],?_,vD,λN3 ae=>hQ _ _ _ _ _ _ _ (by omega) J (mD hx)⟩
 simp [zC,oA,oF,oE hx]
theorem ut {es:List D} {i:Int} (hc:Cu es i) (l:List Int) (h0:0<l.length) (hl:l.length<=4294967296) (a:Option Addr) (c:Nat) (h:Int) (k q:Nat) (N:Nat) (Q:QT [.i,.sl 0,.i,.i,.sl 0])
  (hQ:∀ s U I Y i' h' N',N<=N'->Cu I i'->s∈l->Q s U I Y i' h' none (xj l) q N'):BCalls prog 29 [.i,.sl 0,.i,.i,.sl 0] [.pb 0 0 0 0,.sb 1 0 0 l.length k] [.var [.sv a 0 es c,.j i,.j h],.arr 3 0 (xj l) q] N Q:=by
 have aa:=vk l
 refine pc N l.length k a es c i h (xj l) q Q λE _ _ N1 ab=>?_
 refine xG hc l.length (by omega) a c h N1 _ λx U I Y i' h' N2 ac J x0 O _ _ _=>?_
 have O:=O (by omega)
 have hx:x.toNat<l.length:=by omega
 refine ⟨⟨x0,O,by omega⟩,by omega,l[x.toNat],?_,vD,λN3 ae=>hQ _ _ _ _ _ _ _ (by omega) J (mD hx)⟩
 simp [xj,oA,oF,oE hx]
end Go.Proofs.YtlahkdflngobiaaGreat
set_option maxRecDepth 100000
namespace Go.Proofs.YtlahkdflngobiaaGreat
open Go Go.Proofs Go.Proofs.Tryz Go.IntWalk
/-- some term of at most this many nodes -/
def Some (m:Nat) (d:D):Prop:=∃ t:Tm,t.Is d/\t.cnt<=m
theorem Some.mono {m n:Nat} {d:D} (h:Some m d) (J:m<=n):Some n d:=by obtain ⟨t,I,O⟩:=h;exact ⟨t,I,by omega⟩
theorem zTt {m:Nat}:∀ {es:List D},(∀ d∈es,Some m d)->∃ l,All2 Tm.Is l es/\(∀ x∈l,x.cnt<=m)
 | [],_=>⟨[],rfl,by simp⟩
 | d::es,h=>by
   obtain ⟨t,I,J⟩:=h d (by simp)
   obtain ⟨l,O,U⟩:=zTt λx hx=>h x (nq d hx)
   exact ⟨t::l,⟨d,es,rfl,I,O⟩,λx hx=>by
    rcases oG.1 hx with rfl | hx
    ·exact J
    ·exact U x hx⟩
theorem zGu {m:Nat}:∀ {l:List Tm},(∀ x∈l,x.cnt<=m)->zR l<=l.length*m
 | [],_=>by simp [zR]
 | x::l,h=>by
   have J:=zGu (l:=l) λy I=>h y (by simp [I])
   have O:=h x (by simp)
   simp only [zR,oJ,nE,Nat.one_mul]
   omega
theorem zRA (k:Int) {m:Nat} (hm:m<=1073741824) {es:List D} (I:∀ d∈es,Some m d) (hl:es.length<=1000) (a:Option Addr) (c:Nat) (N:Nat) (Q:QT [.ag 9])
  (hQ:∀ d' N',N<=N'->Some (3+es.length*m) d'->Own N N' d'->Q d' N'):ACalls prog 45 [.ag 9] [.j k,.sv a 9 es c] N Q:=by
 obtain ⟨l,U,Y⟩:=zTt I
 have J:=U.len
 refine qg k U (by omega) (λx hx=>oR (Y x hx) hm) a c N _ λd' N' O hd ho=>hQ d' N' O ⟨_,hd,?_⟩ ho
 have:=zGu Y
 simp only [Tm.cnt,Ty.cnt,zJ]
 rw [J]
 omega
/-- another name -/
theorem zJp {m:Nat} {d:D} (h:Some m d) {s:ByteArray} (hs:s.size<=4611686018427387904):Some m (.ag [d.cell 0,.t s,d.cell 2,d.cell 3,d.cell 4,d.cell 5,d.cell 6,d.cell 7,d.cell 8]):=by
 obtain ⟨t,U,Y⟩:=h
 cases t with
 | mk k nm ot n ty re l=>
   obtain ⟨t0,t1,r0,r1,a,es,c,rfl,J,I,O⟩:=Tm.is_mk.1 U
   exact ⟨.mk k s ot n ty re l,Tm.is_mk.2 ⟨_,_,_,_,_,_,_,rfl,⟨hs,J.ot,J.ty,J.re⟩,I,O⟩,Y⟩
theorem zPb {m N N':Nat} {d:D} (h:Some m d) (J:Own N N' d) (s:ByteArray):Own N N' (.ag [d.cell 0,.t s,d.cell 2,d.cell 3,d.cell 4,d.cell 5,d.cell 6,d.cell 7,d.cell 8]):=by
 obtain ⟨t,O,Y⟩:=h
 cases t with
 | mk k nm ot n ty re l=>
   obtain ⟨t0,t1,r0,r1,a,es,c,rfl,hh,I,U⟩:=Tm.is_mk.1 O
   exact zLY (v2:=.string s) J
theorem zUb {s:ByteArray} (hs:s.size<=4611686018427387904) {m:Nat} (U:m<=1073741824) {es:List D} (I:∀ d∈es,Some m d) (Y:es.length<=1000) (a:Option Addr) (c:Nat) (N:Nat) (Q:QT [.ag 9])
  (hQ:∀ d' N',N<=N'->Some (3+es.length*m) d'->Own N N' d'->Q d' N'):ACalls prog 113 [.ag 9] [.str s,.sv a 9 es c] N Q:=
 zKX N s a es c Q λ_ N1 J=>zRA 4 U I Y a c N1 _ λd' N2 aa hd ho _ _ N3 O=>hQ _ _ (by omega) (zJp hd hs) ((zPb hd ho s).mono J O)
theorem zBN (k n:Int) (s:ByteArray) (hs:s.size<=4611686018427387904):Some 3 (.ag [.j k,.t s,.t (bytes []),.j n,.j 0,.sl none 2 [] 0,.j 0,.sl none 2 [] 0,.sl none 9 [] 0]):=
 zJp (s:=s) ⟨_,zI6 k n,by simp only [Tm.cnt,Ty.cnt,zJ,zR];omega⟩ hs
theorem zUG (s:ByteArray) (hs:s.size<=4611686018427387904) (N:Nat) (Q:QT [.ag 9]) (J:∀ d' N',N<=N'->Some 3 d'->Q d' N'):ACalls prog 117 [.ag 9] [.str s] N Q:=
 zCf N s Q λN1 I=>J _ _ I (zBN 1 0 s hs)
theorem zUo (n:Int) (N:Nat) (Q:QT [.ag 9]) (J:∀ d' N',N<=N'->Some 3 d'->Q d' N'):ACalls prog 95 [.ag 9] [.j n] N Q:=
 rd N n Q λN1 I=>J _ _ I (zBN 2 n (bytes []) (by decide))
theorem zTm (n:Int) (N:Nat) (Q:QT [.ag 9]) (J:∀ d' N',N<=N'->Some 3 d'->Q d' N'):ACalls prog 94 [.ag 9] [.j n] N Q:=
 sc N n Q λN1 I=>J _ _ I (zBN 3 n (bytes []) (by decide))
theorem zUV {s:ByteArray} (hs:s.size<=4611686018427387904) {m:Nat} (hm:m<=1073741824) {d e:D} (hd:Some m d) (J:Some m e) (N:Nat) (Q:QT [.ag 9])
  (O:∀ d' N',N<=N'->Some (3+2*m) d'->Q d' N'):ACalls prog 111 [.ag 9] [.str s,.dg 9 d,.dg 9 e] N Q:=by
 obtain ⟨t,U,h2⟩:=hd
 obtain ⟨u,Y,h4⟩:=J
 refine zRg s hs t u d e U Y (by omega) (by omega) N _ λd' N' I hx _=>O d' N' I ⟨_,hx,?_⟩
 simp only [Tm.letN,Tm.cnt,Ty.cnt,zJ,zR]
 omega
theorem zUR {s:ByteArray} (hs:s.size<=4611686018427387904) {ty:Ty} {O:D} (h1:ty.Is O) (U:ty.cnt<=1073741824) {m:Nat} (hm:m<=1073741824) {d:D} (hd:Some m d) (N:Nat) (Q:QT [.ag 9])
  (hQ:∀ d' N',N<=N'->Some (2+ty.cnt+m) d'->Q d' N'):ACalls prog 51 [.ag 9] [.str s,.dg 2 O,.dg 9 d] N Q:=by
 obtain ⟨t,h2,h3⟩:=hd
 refine zCg N s O d Q λ_ _=>⟨⟨rfl,rfl⟩,λa _ N1 ab I=>?_⟩
 refine qg 6 (zAO h2) (by simp) (by simpa using (by omega:t.cnt<=1073741824)) a 1 N1 _ λx N2 ac hx ho _=>⟨wU I ho,λ_ N3 ae=>?_⟩
 refine zI ty O h1 U N3 _ λx' N4 ah Y ai _ _ N5 aj=>?_
 obtain ⟨t0,t1,r0,r1,a',es,c,rfl,hh,J,aa⟩:=Tm.is_mk.1 hx
 refine hQ _ _ (by omega) ⟨.mk 6 s (bytes []) 0 ty (.mk 0 []) [t],Tm.is_mk.2 ⟨_,_,_,_,_,_,_,rfl,⟨hs,hh.ot,Ty.is_cells Y,hh.re⟩,J,aa⟩,?_⟩
 simp only [Tm.cnt,Ty.cnt,zJ,zR]
 omega
/-- a type by its form -/
inductive Wf:Ty->Prop
 | int:Wf tInt
 | bool:Wf tBool
 | fn {a b:Ty}:Wf a->Wf b->Wf (uJ a b)
 | code {a:Ty}:Wf a->Wf (qx a)
theorem zOI {t:Ty} (hw:Wf t):t.cnt<=1000->∀ {d:D} (_:t.Is d) (n:Int) {es:List D} {i:Int} (_:Cu es i) (a:Option Addr) (c:Nat) (h:Int) (N:Nat) (Q:QT [.ag 9,.sl 0,.i,.i])
  (_:∀ d' a' O c' i' h' N',N<=N'->Cu O i'->Some (4*t.cnt) d'->Q d' a' O c' i' h' N'),BCalls prog 110 [.ag 9,.sl 0,.i,.i] [.pb 0 0 0 0,.dg 2 d,.j n] [.var [.sv a 0 es c,.j i,.j h]] N Q:=by
 induction hw with
 | int=>
   intro hc d hd n es i I a c h N Q U
   obtain ⟨b,fs,k,rfl,_,h2⟩:=Ty.is_mk.1 hd
   refine xu N _ n a es c i h Q λE _ _=>⟨1,rfl,Br.beq (λ_ N1 Y=>?_) λh=>absurd rfl h⟩
   exact xG I 4 (by omega) a c h N1 _ λx a' O c' i' h' N2 aa J _ _ _ _ _ N3 ab=>zUo x N3 _ λd' N4 ac ae _ _=>⟨vD,λN5 ah=>U _ _ _ _ _ _ _ (by omega) J (ae.mono (by simp [tInt,Ty.cnt,zJ]))⟩
 | bool=>
   intro hc d hd n es i I a c h N Q U
   obtain ⟨b,fs,k,rfl,_,h2⟩:=Ty.is_mk.1 hd
   refine xu N _ n a es c i h Q λE _ _=>⟨2,rfl,Br.beq (λh=>absurd h (by decide)) λ_=>Br.beq (λ_ N1 Y=>?_) λh=>absurd rfl h⟩
   exact xG I 2 (by omega) a c h N1 _ λx a' O c' i' h' N2 aa J _ _ _ _ _ N3 ab=>zTm x N3 _ λd' N4 ac ae _ _=>⟨vD,λN5 ah=>U _ _ _ _ _ _ _ (by omega) J (ae.mono (by simp [tBool,Ty.cnt,zJ]))⟩
 | @fn u v hu hv ai aj=>
   intro hc d hd n es i I a c h N Q U
   have ak:(uJ u v).cnt=1+(u.cnt+(v.cnt+0)):=rfl
   obtain ⟨b,fs,k,rfl,al,d1,_,rfl,h3,d2,_,rfl,h4,rfl⟩:=Ty.is_mk.1 hd
   refine xu N _ n a es c i h Q λE _ _=>⟨3,rfl,Br.beq (λh=>absurd h (by decide)) λ_=>Br.beq (λh=>absurd h (by decide)) λ_=>Br.beq (λ_=>⟨_,_,_,rfl,⟨by simp,by simp⟩,_,_,_,rfl,⟨by simp,by simp⟩,λN1 Y=>?_⟩) λh=>absurd rfl h⟩
   refine aj (by omega) h4 n I a c h N1 _ λx a' O c' i' h' N2 aa J hx _ _ _ N3 ab=>?_
   exact zUR (by decide) h3 (by omega) (by omega) hx N3 _ λy N4 ac hy _ _=>⟨vD,λN5 ah=>U _ _ _ _ _ _ _ (by omega) J (hy.mono (by omega))⟩
 | @code u hu ai=>
   intro hc d hd n es i I a c h N Q U
   have ak:(qx u).cnt=1+(u.cnt+0):=rfl
   obtain ⟨b,fs,k,rfl,al,d1,_,rfl,h3,rfl⟩:=Ty.is_mk.1 hd
   refine xu N _ n a es c i h Q λE _ _=>⟨4,rfl,Br.beq (λh=>absurd h (by decide)) λ_=>Br.beq (λh=>absurd h (by decide)) λ_=>Br.beq (λh=>absurd h (by decide)) λ_=>⟨_,_,_,rfl,⟨by simp,by simp⟩,λN1 Y=>?_⟩⟩
   refine ai (by omega) h3 _ I a c h N1 _ λx a' O c' i' h' N2 aa J hx _ _ _=>⟨⟨rfl,rfl⟩,⟨rfl,rfl⟩,⟨rfl,rfl⟩,λa7 N3 ab _=>⟨vD,λN4 ac=>U _ _ _ _ _ _ _ (by omega) J ?_⟩⟩
   obtain ⟨e,h5,h6⟩:=hx
   refine ⟨.mk 10 (bytes []) (bytes []) 0 (.mk 0 []) (.mk 0 []) [e],Tm.is_mk.2 ⟨_,_,_,_,_,_,_,rfl,⟨by decide,by decide,xP 0,xP 0⟩,by simp,zAO h5⟩,?_⟩
   simp only [Tm.cnt,Ty.cnt,zJ,zR]
   omega
theorem zPl:Some 3 (.ag [.j 0,.t (bytes []),.t (bytes []),.j 0,.j 0,.sl none 2 [] 0,.j 0,.sl none 2 [] 0,.sl none 9 [] 0]):=zBN 0 0 (bytes []) (by decide)
/-- a variable of a type, if there is one -/
theorem zO0 {g:List Tg} {I:List D} (O:Ctx g I) (hg:g.length<=1000000) {t:Ty} {d:D} (hd:t.Is d) (n:Int) (Y:Option Addr) (c0:Nat) {es:List D} {i:Int} (aa:Cu es i) (a:Option Addr) (c:Nat) (h:Int) (N:Nat) (Q:QT [.ag 9,.bool,.sl 0,.i,.i])
  (hQ:∀ d' b a' U c' i' h' N',N<=N'->Cu U i'->Some 3 d'->Q d' b a' U c' i' h' N'):BCalls prog 109 [.ag 9,.bool,.sl 0,.i,.i] [.pb 0 0 0 0,.sv Y 4 I c0,.dg 2 d,.j n] [.var [.sv a 0 es c,.j i,.j h]] N Q:=by
 have hl:=O.all.len
 refine zCW N Y I c0 d n a es c i h Q λE _ _ _=>?_
 refine up O.all O.len (λk xs=>∀ (r:List D) (q N':Nat),N<=N'->(∀ x∈r,Some 3 x)->r.length<=k->zl E Q N Y I c0 n r.length q k a es c i h d 0 (bytes []) (bytes []) 0 0 none [] 0 0 none [] 0 none [] 0 r q N') ?_ ?_ [] 0 N (oD _) (by simp) (by simp)
 ·intro k ae hk r q N' ab hr ah
  refine rG _ _ _ _ _ _ _ _ _ _ _ _ _ _ _ _ _ _ _ _ _ _ _ _ _ _ _ _ _ _ _ _ _ _ ?_
  rw [ae]
  refine Br.beq (λ_=>⟨vD,λN1 ac=>hQ _ _ _ _ _ _ _ _ (by omega) aa zPl⟩) λh0 N1 ac=>?_
  refine xG aa _ (by omega) a c h N1 _ λx a' U c' i' h' N2 ai aj x0 x1 _ _ _=>?_
  have x1:=x1 (by omega)
  exact ⟨⟨x0,x1,by omega⟩,by omega,vD,λN3 ak=>hQ _ _ _ _ _ _ _ _ (by omega) aj (hr _ (zIi (by omega)))⟩
 ·intro k x xs J _ ih r q N' ab hr ah
  have hb:=J.b
  obtain ⟨t0,t1,al,am,ao⟩:=J.r
  have skip:∀ N'',N<=N''->zl E Q N Y I c0 n r.length q (IntKind.i64.wrap ((k:Int)+1)) a es c i h d 0 (bytes []) (bytes []) 0 0 none [] 0 0 none [] 0 none [] 0 r q N'':=λN'' h=>by
   rw [J.w];exact ih r q N'' h hr (by omega)
  refine rG _ _ _ _ _ _ _ _ _ _ _ _ _ _ _ _ _ _ _ _ _ _ _ _ _ _ _ _ _ _ _ _ _ _ ?_
  rw [J.lt]
  simp only [oH]
  rw [al]
  have bd:(0:Int)<=(k:Int)/\(k:Int)<(I.length:Int):=⟨by omega,by omega⟩
  refine ⟨bd,x.lv,rfl,Br.beq (λ_=>⟨bd,λN1 ac=>?_⟩) λ_=>skip N' ab⟩
  refine zi x.ty t _ d ao hd N1 _ λN2 ai _=>Br.of (λ_=>⟨bd,x.nm,rfl,λN3 ak=>?_⟩) λ_=>skip N2 (by omega)
  refine uH O Y c0 x.nm N3 _ λN4 aq _=>Br.beq (λ_=>⟨bd,x.nm,rfl,λN5 au=>?_⟩) λ_=>skip N4 (by omega)
  refine zUG x.nm am N5 _ λy N6 aw hy _ _=>⟨⟨by trivial,by trivial⟩,by unfold zA;rw [oL];simp only [oJ,oM];omega,λc1=>?_⟩
  rw [J.w]
  exact ih (r++[y]) c1 N6 (by omega) (λz hz=>by
   rcases oK.1 hz with hz | hz
   ·exact hr z hz
   ·rw [nG] at hz;subst hz;exact hy) (by simp;omega)
/-- parameters -/
theorem zQq {es:List D} {i:Int} (I:Cu es i) (a:Option Addr) (c:Nat) (h:Int) (N:Nat) (Q:QT [.row 62 4,.sl 0,.i,.i])
  (hQ:∀ g e1 c1 a' J c' i' h' N',N<=N'->Cu J i'->Pms g e1->1<=g.length->g.length<=4->(∀ x∈g,x.ty.cnt<=1)->Q e1 c1 a' J c' i' h' N'):BCalls prog 67 [.row 62 4,.sl 0,.i,.i] [.pb 0 0 0 0] [.var [.sv a 0 es c,.j i,.j h]] N Q:=by
 refine zAB N a es c i h Q λE _ N1 am=>xG I 4 (by omega) a c h N1 _ λx a' J c' i' h' N2 ao O x0 x1 _ _ _=>?_
 have x1:=x1 (by omega)
 rw [i64_in (1+x) (by omega)]
 have key:∀ (m k:Nat) (g:List Pm) (r:List D) (q N':Nat) (a es c i h),(k:Int)+m=1+x->N<=N'->Cu es i->All2 Pm.Is g r->g.length=k->(∀ x∈g,x.ty.cnt<=1)->yI E Q N r.length q (1+x) k a es c i h r q N':=by
  intro m
  induction m with
  | zero=>
    intro k g r q N' a es c i h hk ac I hr aa U
    have ae:=hr.len
    refine u9 _ _ _ _ _ _ _ _ _ _ _ _ _ _ _ (Br.dec (λah=>by omega) λ_=>⟨vD,⟨rfl,rfl⟩,λN4 ai=>hQ g _ _ _ _ _ _ _ _ (by omega) I ⟨by omega,hr⟩ (by omega) (by omega) U⟩)
  | succ m ih=>
    intro k g r q N' a es c i h hk ac I hr aa U
    have ae:=hr.len
    refine u9 _ _ _ _ _ _ _ _ _ _ _ _ _ _ _ (Br.dec (λ_ N3 aq=>?_) λah=>by omega)
    have nm:∃ s,List.getD [D.t (bytes [120]),D.t (bytes [121]),D.t (bytes [110]),D.t (bytes [98])] (0+(k:Int).toNat) default=D.t s/\s.size<=4611686018427387904:=by
     have:k=0\/k=1\/k=2\/k=3:=by omega
     rcases this with rfl | rfl | rfl | rfl<;>exact ⟨_,rfl,by decide⟩
    obtain ⟨s,hs,aj⟩:=nm
    have next:∀ (t:Ty) (y:D) (b:Bool) (a es c i h) (N'' Y:Nat),t.Is y->t.cnt<=1->N<=N''->Cu es i->yI E Q N (r++[D.ag [.t s,y.cell 0,y.cell 1,.lit (.bool b)]]).length Y (1+x) (IntKind.i64.wrap ((k:Int)+1)) a es c i h (r++[D.ag [.t s,y.cell 0,y.cell 1,.lit (.bool b)]]) Y N'':=λt y b a es c i h N'' Y hy ht hN I=>by
     rw [i64_in ((k:Int)+1) (by omega)]
     have:=ih (k+1) (g++[⟨s,t,b⟩]) _ Y N'' a es c i h (by omega) hN I (hr.snoc (t:=(⟨s,t,b⟩:Pm)) ⟨_,_,rfl,aj,Ty.is_cells hy⟩) (by simp [aa]) (λz hz=>by
      rcases oK.1 hz with hz | hz
      ·exact U z hz
      ·rw [nG] at hz;subst hz;exact ht)
     exact this
    have ab:∀ z:D,zA r [z] 56:=λz=>by unfold zA;rw [oL];simp only [oJ,oM];omega
    refine wW N3 _ λy N4 ai hy _ _ _=>Br.beq (λ_ N5 ak=>?_) λ_=>⟨⟨by omega,by omega,by omega⟩,by omega,s,hs,λN5 ak=>?_⟩
    ·refine uF N5 _ λy N6 au hy _ _ _=>⟨⟨by omega,by omega,by omega⟩,by omega,s,hs,λN7 aw=>?_⟩
     exact zCt I 2 (by omega) a c h N7 _ λb a' J c' i' h' N8 al O _ _=>⟨⟨rfl,rfl⟩,ab _,λY=>next tBool y b _ _ _ _ _ _ _ hy (by simp [tBool,Ty.cnt,zJ]) (by omega) O⟩
    ·exact zCt I 2 (by omega) a c h N5 _ λb a' J c' i' h' N8 al O _ _=>⟨⟨rfl,rfl⟩,ab _,λY=>next tInt y b _ _ _ _ _ _ _ hy (by simp [tInt,Ty.cnt,zJ]) (by omega) O⟩
 exact key (1+x).toNat 0 [] [] 0 N2 a' J c' i' h' (by omega) (by omega) O rfl rfl (by simp)
/-- arguments -/
theorem zTO {g:List Pm} {I:List D} (hg:Pms g I) (al:g.length<=1000000) (a0:Option Addr) (c0:Nat) {es:List D} {i:Int} (J:Cu es i) (a:Option Addr) (c:Nat) (h:Int) (N:Nat) (Q:QT [.row 3 0,.sl 0,.i,.i])
  (hQ:∀ ns c1 a' O c' i' h' N',N<=N'->Cu O i'->ns.length=g.length->Q (xj ns) c1 a' O c' i' h' N'):BCalls prog 26 [.row 3 0,.sl 0,.i,.i] [.pb 0 0 0 0,.sv a0 4 I c0] [.var [.sv a 0 es c,.j i,.j h]] N Q:=by
 have hl:=hg.all.len
 refine zBu N a0 I c0 a es c i h Q λE _ _=>?_
 refine up hg.all hg.len (λk xs=>∀ (ns:List Int) (q N':Nat) (a es c i h),N<=N'->Cu es i->ns.length=k->yX E Q N a0 I c0 (xj ns).length q k a es c i h (xj ns) q N') ?_ ?_ [] 0 N a es c i h (oD _) J rfl
 ·intro k ae hk ns q N' a es c i h ah J aa
  refine rA _ _ _ _ _ _ _ _ _ _ _ _ _ _ _ _ _ ?_
  rw [ae]
  exact ⟨vD,⟨rfl,rfl⟩,λN4 am=>hQ ns _ _ _ _ _ _ _ (by omega) J (by omega)⟩
 ·intro k x xs U _ ih ns q N' a es c i h ah J aa
  have hb:=U.b
  have ak:=vk ns
  obtain ⟨t0,t1,ai,ao,ab⟩:=U.r
  obtain ⟨b,fs,kk,ht,_,_⟩:∃ b fs kk,(D.ag [t0,t1])=.ag [.j x.ty.k,.sl b 2 fs kk]/\True/\True:=by
   cases hx:x.ty with
   | mk k l=>rw [hx] at ab;obtain ⟨b,fs,kk,h1,_,_⟩:=Ty.is_mk.1 ab;exact ⟨b,fs,kk,h1,trivial,trivial⟩
  obtain ⟨rfl,rfl⟩:t0=.j x.ty.k/\t1=.sl b 2 fs kk:=by simpa using ht
  refine rA _ _ _ _ _ _ _ _ _ _ _ _ _ _ _ _ _ ?_
  rw [U.lt]
  simp only [oH]
  rw [ai]
  refine λN1 aq=>?_
  refine ut (l:=[0,1,2,3,10006,500]) J (by decide) (by decide) a c h 6 6 N1 _ λs a' O c' i' h' N2 au aj _ _ _ _=>⟨⟨by omega,by omega⟩,x.ty.k,rfl,?_⟩
  have next:∀ (m:Int) (Y:Nat),yX E Q N a0 I c0 (xj ns++[D.j m]).length Y (IntKind.i64.wrap ((k:Int)+1)) a' O c' i' h' (xj ns++[D.j m]) Y N2:=λm Y=>by
   have e:xj ns++[D.j m]=xj (ns++[m]):=by simp [xj]
   rw [e,U.w]
   exact ih (ns++[m]) Y N2 _ _ _ _ _ (by omega) aj (by simp [aa])
  have ac:∀ z:D,zA (xj ns) [z] 8:=λz=>by unfold zA;rw [oL];simp only [oJ,oM];omega
  exact Br.beq (λ_=>⟨by decide,⟨by trivial,by trivial⟩,ac _,λY=>next _ Y⟩) λ_=>⟨⟨by trivial,by trivial⟩,ac _,λY=>next _ Y⟩
end Go.Proofs.YtlahkdflngobiaaGreat
set_option maxRecDepth 100000
namespace Go.Proofs.YtlahkdflngobiaaGreat
open Go Go.Proofs Go.Proofs.Tryz Go.IntWalk
/-- a base type -/
def Bs (t:Ty):Prop:=t=tInt\/t=tBool
theorem Bs.wf {t:Ty} (h:Bs t):Wf t:=by rcases h with rfl | rfl;exact .int;exact .bool
theorem Bs.cnt {t:Ty} (h:Bs t):t.cnt=1:=by rcases h with rfl | rfl<;>rfl
theorem Bs.cell {t:Ty} {d:D} (h:Bs t) (hd:t.Is d):∃ n:Int,d.cell 0=.j n:=by
 rcases h with rfl | rfl<;>obtain ⟨b,fs,k,rfl,_,_⟩:=Ty.is_mk.1 hd<;>exact ⟨_,rfl⟩
theorem zPZ {f:Nat} (h:1<=f):3+3*4 ^ f<=4 ^ (f+1)/\4<=4 ^ f:=by
 have I:4 ^ 1<=4 ^ f:=Nat.pow_le_pow_right (by decide) h
 rw [Nat.pow_succ]
 omega
theorem zTs {f:Nat} (h:f<=10):4 ^ (f+1)<=1073741824:=oR (Nat.pow_le_pow_right (by decide) (by omega:f+1<=11)) (by decide)
theorem zVF {s a b c d:ByteArray} (h:s∈[a,b,c,d]) (I:a.size<=1000) (J:b.size<=1000) (hc:c.size<=1000) (hd:d.size<=1000):s.size<=1000:=by
 simp only [oG,oe,mL] at h
 rcases h with rfl | rfl | rfl | rfl<;>assumption
theorem zUJ:∀ (f:Nat),f<=10->∀ {g:List Tg} {U:List D} (_:Ctx g U) (_:g.length+f<=1000) {t:Ty} (_:Bs t) {d:D} (_:t.Is d) (n:Int) (_:n<=f) (a0:Option Addr) (c0:Nat) {es:List D} {i:Int} (_:Cu es i) (a:Option Addr) (c:Nat) (h:Int) (N:Nat) (Q:QT [.ag 9,.sl 0,.i,.i])
  (_:∀ d' a' ae c' i' h' N',N<=N'->Cu ae i'->Some (4 ^ (f+1)) d'->Q d' a' ae c' i' h' N'),BCalls prog 68 [.ag 9,.sl 0,.i,.i] [.pb 0 0 0 0,.sv a0 4 U c0,.dg 2 d,.j n] [.var [.sv a 0 es c,.j i,.j h]] N Q:=by
 intro f
 induction f with
 | zero=>
   intro _ g U O hg t hb d hd n hn a0 c0 es i Y a c h N Q hQ
   have J:∀ (E:Env) a es c i h N',N<=N'->Cu es i->yH E Q N a0 U c0 n a es c i h d 0 (bytes []) (bytes []) 0 0 none [] 0 0 none [] 0 none [] 0 N':=λE a es c i h N' bw Y=>by
    refine qN _ _ _ _ _ _ _ _ _ _ _ _ _ _ _ _ _ _ _ _ _ _ _ _ _ _ _ _ _ (Br.dec (λ_ N1 ao=>zOI hb.wf (by rw [hb.cnt];omega) hd 0 Y a c h N1 _ λx a' ae c' i' h' N2 aq I hx _ _ _=>⟨vD,λN3 ah=>hQ _ _ _ _ _ _ _ (by omega) I (hx.mono (by rw [hb.cnt];decide))⟩) λbz=>by omega)
   have K:∀ (E:Env) a es c i h N1,N<=N1->Cu es i->BCalls prog 109 [.ag 9,.bool,.sl 0,.i,.i] [.pb 0 0 0 0,.sv a0 4 U c0,.dg 2 d,.j 0] [.var [.sv a 0 es c,.j i,.j h]] N1 (λx b a es c i h N4=>N1<=N4->Bel N4 x->Bel N4 (D.sl a 0 es c)->Br b (vH E [.var [.sv none 0 [] 0,.j 0,.j 0]]/\∀ N5,N4<=N5->Q x a es c i h N5) (yH E Q N a0 U c0 n a es c i h d 0 (bytes []) (bytes []) 0 0 none [] 0 0 none [] 0 none [] 0 N4)):=λE a es c i h N1 ao Y=>
    zO0 O (by omega) hd 0 a0 c0 Y a c h N1 _ λx b a' ae c' i' h' N2 aq I hx _ _ _=>Br.of (λ_=>⟨vD,λN3 ah=>hQ _ _ _ _ _ _ _ (by omega) I (hx.mono (by decide))⟩) λ_=>J E _ _ _ _ _ N2 (by omega) I
   exact su N a0 U c0 d n a es c i h Q λE _ _ _ N1 ao=>zCt Y 3 (by omega) a c h N1 _ λb a' ae c' i' h' N2 aq I _ _=>Br.not (λ_ N3 ah=>K E _ _ _ _ _ N3 (by omega) I) λ_=>Br.dec (λ_ N3 ah=>K E _ _ _ _ _ N3 (by omega) I) λ_=>J E _ _ _ _ _ N2 (by omega) I
 | succ f ih1x=>
   intro b6 g U O hg t hb d hd n hn a0 c0 es i Y a c h N Q hQ
   have ps:=zPZ (f:=f+1) (by omega)
   have au:=zTs (f:=f) (by omega)
   have ih:=@ih1x (by omega)
   have J:∀ (E:Env) a es c i h N',N<=N'->Cu es i->yH E Q N a0 U c0 n a es c i h d 0 (bytes []) (bytes []) 0 0 none [] 0 0 none [] 0 none [] 0 N':=λE a es c i h N' bw Y=>by
    refine qN _ _ _ _ _ _ _ _ _ _ _ _ _ _ _ _ _ _ _ _ _ _ _ _ _ _ _ _ _ (Br.dec (λ_ N1 ao=>zOI hb.wf (by rw [hb.cnt];omega) hd 0 Y a c h N1 _ λx a' ae c' i' h' N2 aq I hx _ _ _=>⟨vD,λN3 ah=>hQ _ _ _ _ _ _ _ (by omega) I (hx.mono (by rw [hb.cnt];omega))⟩) λbz N1 ao=>?_)
    rw [i64_in (n - 1) (by omega)]
    obtain ⟨kk,b1⟩:=hb.cell hd
    refine wW N1 _ λy N2 aq hy _ _ _ N3 ah=>xG Y 5 (by omega) a c h N3 _ λx a1 b7 c1 i1 h1 N4 b9 az _ _ _ _ _=>Br.beq (λ_ N5 bi=>?_) λ_=>Br.beq (λ_ N5 bi=>?_) λ_=>⟨kk,b1,Br.beq (λ_ N5 bi=>?_) λ_ N5 bi=>?_⟩
    ·refine uF N5 _ λz N6 bj hz _ _ _ N7 a7=>?_
     refine ih O (by omega) (.inr rfl) hz _ (by omega) a0 c0 az a1 c1 h1 N7 _ λx1 a2 bm c2 i2 h2 N8 a8 ai aw _ _ _ N9 bn=>?_
     refine ih O (by omega) hb hd _ (by omega) a0 c0 ai a2 c2 h2 N9 _ λx2 a3 ba c3 i3 h3 bp ax ab bb _ _ _ ay bg=>?_
     refine ih O (by omega) hb hd _ (by omega) a0 c0 ab a3 c3 h3 ay _ λx3 a4 bq c4 i4 h4 bt bh aj ca _ _ _=>⟨⟨rfl,rfl⟩,λa5 _ ac ak aa=>?_⟩
     refine zRA 5 au (es:=[x1,x2,x3]) (by simp only [oG,oe,mL];rintro _ (rfl | rfl | rfl)<;>assumption) (by simp) a5 3 ac _ λu bc al hu ho _=>⟨wU aa ho,λ_=>⟨vD,λbd am=>hQ _ _ _ _ _ _ _ (by omega) aj (hu.mono (by simp only [oJ,oM];omega))⟩⟩
    ·refine rq (l:=[bytes [120],bytes [117],bytes [118],bytes [121]]) az (by decide) (by decide) a1 c1 h1 4 4 N5 _ λs a2 bm c2 i2 h2 N6 bj ai hs _ _ _ N7 a7=>?_
     have hs:=zVF hs (by decide) (by decide) (by decide) (by decide)
     refine ih O (by omega) (.inl rfl) hy _ (by omega) a0 c0 ai a2 c2 h2 N7 _ λx1 a3 ba c3 i3 h3 N8 a8 ab aw _ _ _ N9 bn=>?_
     refine xH O (by omega) a0 c0 (s:=s) (by omega) hy 0 N9 _ λa9 cc c9 bp ax bv _ _ ay bg=>?_
     refine ih bv (by simp;omega) hb hd _ (by omega) a9 c9 ab a3 c3 h3 ay _ λx2 a4 bq c4 i4 h4 bt bh aj bb _ _ _ ac ak=>?_
     refine zUV (by omega) au aw bb ac _ λu bc al hu _ _=>⟨vD,λbd am=>hQ _ _ _ _ _ _ _ (by omega) aj (hu.mono (by omega))⟩
    ·refine rq (l:=[bytes [43],bytes [42],bytes [45]]) az (by decide) (by decide) a1 c1 h1 3 3 N5 _ λs a2 bm c2 i2 h2 N6 bj ai hs _ _ _ N7 a7=>?_
     have hs:s.size<=1000:=by
      simp only [oG,oe,mL] at hs
      rcases hs with rfl | rfl | rfl<;>decide
     refine ih O (by omega) (.inl rfl) hy _ (by omega) a0 c0 ai a2 c2 h2 N7 _ λx1 a3 ba c3 i3 h3 N8 a8 ab aw _ _ _ N9 bn=>?_
     refine ih O (by omega) (.inl rfl) hy _ (by omega) a0 c0 ab a3 c3 h3 N9 _ λx2 a4 bq c4 i4 h4 bp ax aj bb _ _ _=>⟨⟨rfl,rfl⟩,λa5 _ ac ak aa=>?_⟩
     refine zUb (by omega) au (es:=[x1,x2]) (by simp only [oG,oe,mL];rintro _ (rfl | rfl)<;>assumption) (by simp) a5 2 ac _ λu bc al hu ho _=>⟨wU aa ho,λ_=>⟨vD,λbd am=>hQ _ _ _ _ _ _ _ (by omega) aj (hu.mono (by simp only [oJ,oM];omega))⟩⟩
    ·refine zCt az 4 (by omega) a1 c1 h1 N5 _ λb a2 bm c2 i2 h2 N6 bj ai _ _=>Br.of (λ_ N7 a7=>?_) λ_ N7 a7=>?_
     ·refine ih O (by omega) hb hd _ (by omega) a0 c0 ai a2 c2 h2 N7 _ λx1 a3 ba c3 i3 h3 N8 a8 ab aw _ _ _=>⟨⟨rfl,rfl⟩,λa5 _ ac ak aa=>?_⟩
      refine zUb (by decide) au (es:=[x1]) (by simp only [oG,oe,mL];rintro _ rfl;assumption) (by simp) a5 1 ac _ λu bc al hu ho _=>⟨wU aa ho,λ_=>⟨vD,λbd am=>hQ _ _ _ _ _ _ _ (by omega) ab (hu.mono (by simp only [oJ,oM];omega))⟩⟩
     ·refine rq (l:=[bytes [61],bytes [60]]) ai (by decide) (by decide) a2 c2 h2 2 2 N7 _ λs a3 ba c3 i3 h3 N8 a8 ab hs _ _ _ N9 bn=>?_
      have hs:s.size<=1000:=by
       simp only [oG,oe,mL] at hs
       rcases hs with rfl | rfl<;>decide
      refine ih O (by omega) (.inl rfl) hy _ (by omega) a0 c0 ab a3 c3 h3 N9 _ λx1 a4 bq c4 i4 h4 bp ax aj aw _ _ _ ay bg=>?_
      refine ih O (by omega) (.inl rfl) hy _ (by omega) a0 c0 aj a4 c4 h4 ay _ λx2 a5 cd c5 i5 h5 bt bh b2 bb _ _ _=>⟨⟨rfl,rfl⟩,λa6 _ ac ak aa=>?_⟩
      refine zUb (by omega) au (es:=[x1,x2]) (by simp only [oG,oe,mL];rintro _ (rfl | rfl)<;>assumption) (by simp) a6 2 ac _ λu bc al hu ho _=>⟨wU aa ho,λ_=>⟨vD,λbd am=>hQ _ _ _ _ _ _ _ (by omega) b2 (hu.mono (by simp only [oJ,oM];omega))⟩⟩
   have K:∀ (E:Env) a es c i h N1,N<=N1->Cu es i->BCalls prog 109 [.ag 9,.bool,.sl 0,.i,.i] [.pb 0 0 0 0,.sv a0 4 U c0,.dg 2 d,.j 0] [.var [.sv a 0 es c,.j i,.j h]] N1 (λx b a es c i h N4=>N1<=N4->Bel N4 x->Bel N4 (D.sl a 0 es c)->Br b (vH E [.var [.sv none 0 [] 0,.j 0,.j 0]]/\∀ N5,N4<=N5->Q x a es c i h N5) (yH E Q N a0 U c0 n a es c i h d 0 (bytes []) (bytes []) 0 0 none [] 0 0 none [] 0 none [] 0 N4)):=λE a es c i h N1 ao Y=>
    zO0 O (by omega) hd 0 a0 c0 Y a c h N1 _ λx b a' ae c' i' h' N2 aq I hx _ _ _=>Br.of (λ_=>⟨vD,λN3 ah=>hQ _ _ _ _ _ _ _ (by omega) I (hx.mono (by omega))⟩) λ_=>J E _ _ _ _ _ N2 (by omega) I
   exact su N a0 U c0 d n a es c i h Q λE _ _ _ N1 ao=>zCt Y 3 (by omega) a c h N1 _ λb a' ae c' i' h' N2 aq I _ _=>Br.not (λ_ N3 ah=>K E _ _ _ _ _ N3 (by omega) I) λ_=>Br.dec (λ_ N3 ah=>K E _ _ _ _ _ N3 (by omega) I) λ_=>J E _ _ _ _ _ N2 (by omega) I
theorem zNs {g:List Pm} {es:List D} (h:Pms g es) (hg:g.length<=1000000) (a:Option Addr) (c:Nat) (N:Nat) (Q:QT [.sl 4])
  (hQ:∀ a' J c' N',N<=N'->Ctx (vF g) J->(∀ x∈(D.sl a' 4 J c').foot,x∈zD es\/N<=x)->Q a' J c' N'):ACalls prog 44 [.sl 4] [.sv a 4 es c] N Q:=by
 have hl:=h.all.len
 refine zAR N a es c Q λ_=>?_
 refine up h.all h.len (λi xs=>∀ (done:List D) (q:Nat) (N':Nat),N<=N'->All2 Tg.Is ((vF g).take i) done->done.length=i->(∀ x∈zD done,x∈zD es)->xq Q N a es c done.length q i done q N') ?_ ?_ [] 0 N (oD _) rfl rfl (by simp [zD])
 ·intro i aa hi done q N' O hd hs Y
  refine wy _ _ _ _ _ _ _ _ _ _ _ ?_
  rw [oa (by rw [uU];omega)] at hd
  rw [aa]
  refine ⟨⟨rfl,rfl⟩,⟨rfl,rfl⟩,⟨rfl,rfl⟩,λa2 N2 ak ab N3 al=>hQ _ _ _ _ (by omega) ⟨by omega,hd⟩ λx hx=>?_⟩
  cases a2 with
  | none=>simp only [D.foot] at hx;exact .inl (Y x hx)
  | some ad=>
    simp only [D.foot] at hx
    split at hx
    ·simp at hx
    ·rcases oG.1 hx with rfl | hx
     ·exact .inr (ab.lo ad rfl)
     ·exact .inl (Y x hx)
 ·intro i x xs I _ ac done q N' O hd hs Y
  have hb:=I.b
  obtain ⟨t0,t1,ae,ah,ai⟩:=I.r
  refine wy _ _ _ _ _ _ _ _ _ _ _ ?_
  have U:(vF g)[i]?=some ⟨x.nm,x.ty,0⟩:=by rw [vF,oF,I.g];rfl
  have aj:es.getD i default∈es:=zIi (by omega)
  rw [I.lt]
  simp only [oH]
  rw [ae,I.w] at *
  refine ⟨⟨by omega,by omega⟩,x.nm,rfl,⟨by omega,by omega⟩,⟨by trivial,by trivial⟩,by unfold zA;rw [oL];simp only [oJ,oM];omega,λc1=>?_⟩
  exact ac _ _ _ O (by rw [zX U];exact hd.snoc ⟨_,_,rfl,ah,ai⟩) (by simp [hs]) (λy hy=>by
   rw [zB] at hy
   rcases oK.1 hy with hy | hy
   ·exact Y y hy
   ·refine zL.2 ⟨_,aj,?_⟩
    simpa [D.foot,zD,D.cell,D.sub,D.cells] using hy)
/-- parameters and a body -/
theorem zRO {es:List D} {i:Int} (O:Cu es i) (a:Option Addr) (c:Nat) (h:Int) (N:Nat) (Q:QT [.row 62 4,.ag 9,.sl 0,.i,.i])
  (hQ:∀ g e1 c1 d a' I c' i' h' N',N<=N'->Cu I i'->Pms g e1->1<=g.length->g.length<=4->(∀ x∈g,x.ty.cnt<=1)->Some 4096 d->Q e1 c1 d a' I c' i' h' N'):BCalls prog 25 [.row 62 4,.ag 9,.sl 0,.i,.i] [.pb 0 0 0 0] [.var [.sv a 0 es c,.j i,.j h]] N Q:=by
 refine zBz N a es c i h Q λE _ N1 aj=>zQq O a c h N1 _ λg e1 c1 a2 ak c2 i2 h2 N2 al U hg g1 g4 gc _ _ _=>⟨⟨rfl,rfl⟩,λa1 Y N3 am J=>?_⟩
 refine zNs hg (by omega) a1 c1 N3 _ λa3 e3 c3 N4 ao aa ab _=>⟨zQ7 Y J ab,λ_ N5 aq=>wW N5 _ λy N6 au hy _ _ _ N7 aw=>?_⟩
 refine xG U 4 (by omega) a2 c2 h2 N7 _ λx a4 ax c4 i4 h4 N8 ay ac x0 x1 _ _ _ N9 az=>?_
 have x1:=x1 (by omega)
 rw [i64_in (2+x) (by omega)]
 exact zUJ 5 (by omega) aa (by rw [uU];omega) (.inl rfl) hy (2+x) (by omega) a3 c3 ac a4 c4 h4 N9 _ λd a5 a0 c5 i5 h5 a6 ah ae hd _ _ _=>⟨vD,⟨rfl,rfl⟩,λa7 ai=>hQ g _ _ _ _ _ _ _ _ _ (by omega) ae hg g1 g4 gc (hd.mono (by decide))⟩
end Go.Proofs.YtlahkdflngobiaaGreat
