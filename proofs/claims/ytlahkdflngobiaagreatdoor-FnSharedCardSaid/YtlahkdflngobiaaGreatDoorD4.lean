/- Drawing: cursors, numbers, picks. -/
import Derived.Test.YtlahkdflngobiaaGreatDoorKe
import Derived.Test.YtlahkdflngobiaaGreatDoorKf
import Derived.Test.YtlahkdflngobiaaGreatDoorD2
import Derived.Test.YtlahkdflngobiaaGreatDoorKa
set_option linter.unusedVariables false
set_option linter.unusedSimpArgs false
set_option maxRecDepth 100000
namespace Go.Proofs.YtlahkdflngobiaaGreatDoor
open Go Go.Proofs Go.Proofs.Tryz Go.IntWalk
theorem zJp {l:List D} {i:Nat} (h:i<l.length):l.getD i default∈l:=by
 rw [oA,oF h];exact nz h
/-- a cursor over bytes -/
structure Cu (es:List D) (i:Int):Prop where
 b:∀ d∈es,∃ n:Int,d=.lit (.int .u8 n)
 l:es.length<=1073741824
 lo:0<=i
 hi:i<=es.length
theorem zM2 (x:Int):0<=IntKind.i64.wrap ((BitVec.ofInt 64 x &&& BitVec.ofInt 64 255).toNat:Int)/\IntKind.i64.wrap ((BitVec.ofInt 64 x &&& BitVec.ofInt 64 255).toNat:Int)<=255:=by
 have h:(BitVec.ofInt 64 x &&& BitVec.ofInt 64 255).toNat<=255:=by
  rw [BitVec.toNat_and]
  exact oZ Nat.and_le_right (by decide)
 rw [i64_in _ (by omega)]
 omega
theorem zUu {es:List D} (O:∀ d∈es,∃ n:Int,d=.lit (.int .u8 n)) (hl:es.length<=1073741824) (a:Option Addr) (c:Nat) (N:Nat) (Q:QT [.cu])
  (hQ:∀ h N',N<=N'->Cu es 0->Q a es c 0 h N'):ACalls prog 67 [.cu] [.sv a 0 es c] N Q:=by
 refine zJy N a es c Q λ_=>?_
 have fin:∀ h N',N<=N'->Q a es c 0 h N':=λh N' I=>hQ h N' I ⟨O,hl,by omega,by omega⟩
 have key:∀ (n i:Nat) (h:Int) (N':Nat),i+n=es.length->N<=N'->uY Q N a es c h i N':=by
  intro n
  induction n with
  | zero=>
    intro i h N' hi I
    refine zAx _ _ _ _ _ _ _ _ ?_
    rw [mM (by omega)]
    exact λN1 J=>fin _ _ (by omega)
  | succ n ih=>
    intro i h N' hi I
    refine zAx _ _ _ _ _ _ _ _ ?_
    rw [mF (by omega)]
    rw [Y3]
    rcases Int.lt_or_le (i:Int) 4000 with h4 | h4
    rotate_left
    ·rw [mM (by omega)]
     exact λN1 J=>fin _ _ (by omega)
    rw [mF h4,Y3]
    refine And.intro ⟨by omega,by omega⟩ ?_
    rw [oK]
    obtain ⟨x,hx⟩:=O (es.getD i default) (zJp (by omega))
    refine ⟨x,hx,?_⟩
    rw [i64_in ((i:Int)+1) (by omega)]
    exact ih (i+1) _ N' (by omega) I
 exact key es.length 0 _ N (by omega) (oB _)
theorem zKP {es:List D} {i:Int} (hc:Cu es i) (a:Option Addr) (c:Nat) (h:Int) (N:Nat) (Q:QT [.i,.sl 0,.i,.i])
  (hQ:∀ x a' J c' i' h' N',N<=N'->Cu J i'->0<=x->x<=255->Q x a' J c' i' h' N'):BCalls prog 148 [.i,.sl 0,.i,.i] [.pb 0 0 0 0] [.var [.sv a 0 es c,.j i,.j h]] N Q:=by
 have h1:=hc.lo
 have h2:=hc.hi
 have h3:=hc.l
 refine zEL N a es c i h Q λE _=>⟨by omega,by omega,Br.dec (λO=>⟨⟨h1,O⟩,?_⟩) λ_=>⟨vV,λN1 I=>hQ _ _ _ _ _ _ _ I hc (zM2 _).1 (zM2 _).2⟩⟩
 obtain ⟨x,hx⟩:=hc.b (es.getD i.toNat default) (zJp (by omega))
 refine ⟨x,hx,vV,λN1 I=>hQ _ _ _ _ _ _ _ I ?_ (zM2 _).1 (zM2 _).2⟩
 rw [i64_in (i+1) (by omega)]
 exact ⟨hc.b,hc.l,by omega,by omega⟩
theorem xd {es:List D} {i:Int} (hc:Cu es i) (n:Int) (hn:n<=4294967296) (a:Option Addr) (c:Nat) (h:Int) (N:Nat) (Q:QT [.i,.sl 0,.i,.i])
  (hQ:∀ x O J c' i' h' N',N<=N'->Cu J i'->0<=x->(0<n->x<n)->(n<=0->x=0)->Q x O J c' i' h' N'):BCalls prog 108 [.i,.sl 0,.i,.i] [.pb 0 0 0 0,.j n] [.var [.sv a 0 es c,.j i,.j h]] N Q:=by
 have tm:∀ x:Int,0<=x->0<n->0<=Int.tmod x n/\Int.tmod x n<n:=λx hx h0=>⟨Int.tmod_nonneg _ hx,Int.tmod_lt_of_pos _ h0⟩
 refine zDg N n a es c i h Q λE _=>Br.dec (λh0=>⟨vV,λN1 aa=>hQ _ _ _ _ _ _ _ aa hc (by omega) (by omega) λ_=>rfl⟩) λh0=>Br.dec (λhs N1 aa=>?_) λhs N1 aa=>?_
 ·exact zKP hc a c h N1 _ λx O J c' i' h' N2 ab I x0 x1 _ _=>⟨by omega,vV,λN3 ac=>hQ _ _ _ _ _ _ _ (by omega) I (tm x x0 (by omega)).1 (λg=>(tm x x0 g).2) λg=>by omega⟩
 ·refine zKP hc a c h N1 _ λx O J c' i' h' N2 ab I x0 x1 _ _ N3 ac=>?_
  refine zKP I O c' h' N3 _ λy O J c' i' h' N4 ae I y0 y1 _ _ N5 ah=>?_
  refine zKP I O c' h' N5 _ λz O J c' i' h' N6 ai I z0 z1 _ _ N7 aj=>?_
  refine zKP I O c' h' N7 _ λw O J c' i' h' N8 ak I w0 w1 _ _=>⟨by omega,vV,λN9 al=>?_⟩
  have e:IntKind.i64.wrap (IntKind.i64.wrap (IntKind.i64.wrap (IntKind.i64.wrap (x*16777216)+IntKind.i64.wrap (y*65536))+IntKind.i64.wrap (z*256))+w)=x*16777216+y*65536+z*256+w:=by
   rw [i64_in (x*16777216) (by omega),i64_in (y*65536) (by omega),i64_in (z*256) (by omega),i64_in (x*16777216+y*65536) (by omega),i64_in (x*16777216+y*65536+z*256) (by omega),i64_in _ (by omega)]
  have hq:=hQ (Int.tmod (x*16777216+y*65536+z*256+w) n) O J c' i' h' N9 (by omega) I (tm _ (by omega) (by omega)).1 (λg=>(tm _ (by omega) g).2) λg=>by omega
  rw [<-e] at hq
  exact hq
theorem zBA {es:List D} {i:Int} (hc:Cu es i) (n:Int) (hn:n<=4294967296) (a:Option Addr) (c:Nat) (h:Int) (N:Nat) (Q:QT [.bool,.sl 0,.i,.i])
  (hQ:∀ b O I c' i' h' N',N<=N'->Cu I i'->Q b O I c' i' h' N'):BCalls prog 94 [.bool,.sl 0,.i,.i] [.pb 0 0 0 0,.j n] [.var [.sv a 0 es c,.j i,.j h]] N Q:=
 zEQ N n a es c i h Q λE _ N1 aa=>xd hc n hn a c h N1 _ λx O I c' i' h' N2 ab J _ _ _ _ _=>⟨vV,λN3 ac=>hQ _ _ _ _ _ _ _ (by omega) J⟩
theorem rB {es:List D} {i:Int} (hc:Cu es i) (l:List ByteArray) (h0:0<l.length) (hl:l.length<=4294967296) (a:Option Addr) (c:Nat) (h:Int) (k q:Nat) (N:Nat) (Q:QT [.str,.sl 0,.i,.i,.sl 0])
  (hQ:∀ s a' I c' i' h' N',N<=N'->Cu I i'->s∈l->Q s a' I c' i' h' none (zA l) q N'):BCalls prog 110 [.str,.sl 0,.i,.i,.sl 0] [.pb 0 0 0 0,.sb 1 0 0 l.length k] [.var [.sv a 0 es c,.j i,.j h],.arr 9 0 (zA l) q] N Q:=by
 have aa:=zO l
 refine zEW N l.length k a es c i h (zA l) q Q λE _ _ N1 ab=>?_
 refine xd hc l.length (by omega) a c h N1 _ λx a' I c' i' h' N2 ac J x0 O _ _ _=>?_
 have O:=O (by omega)
 have hx:x.toNat<l.length:=by omega
 refine ⟨⟨x0,O,by omega⟩,by omega,l[x.toNat],?_,vV,λN3 ae=>hQ _ _ _ _ _ _ _ (by omega) J (nz hx)⟩
 simp [zA,oA,oI,oF hx]
theorem po {es:List D} {i:Int} (hc:Cu es i) (l:List Int) (h0:0<l.length) (hl:l.length<=4294967296) (a:Option Addr) (c:Nat) (h:Int) (k q:Nat) (N:Nat) (Q:QT [.i,.sl 0,.i,.i,.sl 0])
  (hQ:∀ s a' I c' i' h' N',N<=N'->Cu I i'->s∈l->Q s a' I c' i' h' none (zAa l) q N'):BCalls prog 109 [.i,.sl 0,.i,.i,.sl 0] [.pb 0 0 0 0,.sb 1 0 0 l.length k] [.var [.sv a 0 es c,.j i,.j h],.arr 3 0 (zAa l) q] N Q:=by
 have aa:=zGb l
 refine zBG N l.length k a es c i h (zAa l) q Q λE _ _ N1 ab=>?_
 refine xd hc l.length (by omega) a c h N1 _ λx a' I c' i' h' N2 ac J x0 O _ _ _=>?_
 have O:=O (by omega)
 have hx:x.toNat<l.length:=by omega
 refine ⟨⟨x0,O,by omega⟩,by omega,l[x.toNat],?_,vV,λN3 ae=>hQ _ _ _ _ _ _ _ (by omega) J (nz hx)⟩
 simp [zAa,oA,oI,oF hx]
end Go.Proofs.YtlahkdflngobiaaGreatDoor
set_option maxRecDepth 100000
namespace Go.Proofs.YtlahkdflngobiaaGreatDoor
open Go Go.Proofs Go.Proofs.Tryz Go.IntWalk
/-- some term of at most this many nodes -/
def Some (m:Nat) (d:D):Prop:=∃ t:Tm,t.Is d/\t.cnt<=m
theorem Some.mono {m n:Nat} {d:D} (h:Some m d) (J:m<=n):Some n d:=by obtain ⟨t,I,O⟩:=h;exact ⟨t,I,by omega⟩
theorem zUr {m:Nat}:∀ {es:List D},(∀ d∈es,Some m d)->∃ l,All2 Tm.Is l es/\(∀ x∈l,x.cnt<=m)
 | [],_=>⟨[],rfl,by simp⟩
 | d::es,h=>by
   obtain ⟨t,I,J⟩:=h d (by simp)
   obtain ⟨l,O,h4⟩:=zUr λx hx=>h x (nj d hx)
   exact ⟨t::l,⟨d,es,rfl,I,O⟩,λx hx=>by
    rcases oH.1 hx with rfl | hx
    ·exact J
    ·exact h4 x hx⟩
theorem zIB {m:Nat}:∀ {l:List Tm},(∀ x∈l,x.cnt<=m)->za l<=l.length*m
 | [],_=>by simp [za]
 | x::l,h=>by
   have J:=zIB (l:=l) λy I=>h y (by simp [I])
   have O:=h x (by simp)
   simp only [za,oJ,nN,Nat.one_mul]
   omega
theorem zSh (k:Int) {m:Nat} (hm:m<=1073741824) {es:List D} (I:∀ d∈es,Some m d) (hl:es.length<=1000) (a:Option Addr) (c:Nat) (N:Nat) (Q:QT [.ag 9])
  (hQ:∀ d' N',N<=N'->Some (3+es.length*m) d'->Own N N' d'->Q d' N'):ACalls prog 79 [.ag 9] [.j k,.sv a 9 es c] N Q:=by
 obtain ⟨l,h1,h2⟩:=zUr I
 have J:=h1.len
 refine zJe k h1 (by omega) (λx hx=>oZ (h2 x hx) hm) a c N _ λd' N' O hd ho=>hQ d' N' O ⟨_,hd,?_⟩ ho
 have:=zIB h2
 simp only [Tm.cnt,Ty.cnt,zV]
 rw [J]
 omega
/-- another name -/
theorem zK7 {m:Nat} {d:D} (h:Some m d) {s:ByteArray} (hs:s.size<=4611686018427387904):Some m (.ag [d.cell 0,.t s,d.cell 2,d.cell 3,d.cell 4,d.cell 5,d.cell 6,d.cell 7,d.cell 8]):=by
 obtain ⟨t,O,h2⟩:=h
 cases t with
 | mk k nm ot n ty re l=>
   obtain ⟨t0,t1,r0,r1,a,es,c,rfl,I,hlen,J⟩:=Tm.is_mk.1 O
   exact ⟨.mk k s ot n ty re l,Tm.is_mk.2 ⟨_,_,_,_,_,_,_,rfl,⟨hs,I.ot,I.ty,I.re⟩,hlen,J⟩,h2⟩
theorem zQ4 {m N N':Nat} {d:D} (h:Some m d) (I:Own N N' d) (s:ByteArray):Own N N' (.ag [d.cell 0,.t s,d.cell 2,d.cell 3,d.cell 4,d.cell 5,d.cell 6,d.cell 7,d.cell 8]):=by
 obtain ⟨t,J,h2⟩:=h
 cases t with
 | mk k nm ot n ty re l=>
   obtain ⟨t0,t1,r0,r1,a,es,c,rfl,hh,hlen,O⟩:=Tm.is_mk.1 J
   exact zM9 (v2:=.string s) I
theorem zT3 {s:ByteArray} (hs:s.size<=4611686018427387904) {m:Nat} (hm:m<=1073741824) {es:List D} (I:∀ d∈es,Some m d) (hl:es.length<=1000) (a:Option Addr) (c:Nat) (N:Nat) (Q:QT [.ag 9])
  (hQ:∀ d' N',N<=N'->Some (3+es.length*m) d'->Own N N' d'->Q d' N'):ACalls prog 133 [.ag 9] [.str s,.sv a 9 es c] N Q:=
 zL8 N s a es c Q λ_ N1 J=>zSh 4 hm I hl a c N1 _ λd' N2 aa hd ho _ _ N3 O=>hQ _ _ (by omega) (zK7 hd hs) ((zQ4 hd ho s).mono J O)
theorem zCX (k n:Int) (s:ByteArray) (hs:s.size<=4611686018427387904):Some 3 (.ag [.j k,.t s,.t (bytes []),.j n,.j 0,.sl none 2 [] 0,.j 0,.sl none 2 [] 0,.sl none 9 [] 0]):=
 zK7 (s:=s) ⟨_,zUG k n,by simp only [Tm.cnt,Ty.cnt,zV,za];omega⟩ hs
theorem zU9 (s:ByteArray) (hs:s.size<=4611686018427387904) (N:Nat) (Q:QT [.ag 9]) (J:∀ d' N',N<=N'->Some 3 d'->Q d' N'):ACalls prog 82 [.ag 9] [.str s] N Q:=
 zDr N s Q λN1 I=>J _ _ I (zCX 1 0 s hs)
theorem zVa (n:Int) (N:Nat) (Q:QT [.ag 9]) (J:∀ d' N',N<=N'->Some 3 d'->Q d' N'):ACalls prog 178 [.ag 9] [.j n] N Q:=
 zKF N n Q λN1 I=>J _ _ I (zCX 2 n (bytes []) (by decide))
theorem zUm (n:Int) (N:Nat) (Q:QT [.ag 9]) (J:∀ d' N',N<=N'->Some 3 d'->Q d' N'):ACalls prog 179 [.ag 9] [.j n] N Q:=
 zJv N n Q λN1 I=>J _ _ I (zCX 3 n (bytes []) (by decide))
theorem zUL {s:ByteArray} (hs:s.size<=4611686018427387904) {m:Nat} (hm:m<=1073741824) {d e:D} (hd:Some m d) (J:Some m e) (N:Nat) (Q:QT [.ag 9])
  (O:∀ d' N',N<=N'->Some (3+2*m) d'->Q d' N'):ACalls prog 38 [.ag 9] [.str s,.dg 9 d,.dg 9 e] N Q:=by
 obtain ⟨t,h1,h2⟩:=hd
 obtain ⟨u,h3,h4⟩:=J
 refine zO2 s hs t u d e h1 h3 (by omega) (by omega) N _ λd' N' I hx _=>O d' N' I ⟨_,hx,?_⟩
 simp only [Tm.letN,Tm.cnt,Ty.cnt,zV,za]
 omega
theorem zVG {s:ByteArray} (hs:s.size<=4611686018427387904) {ty:Ty} {J:D} (h1:ty.Is J) (O:ty.cnt<=1073741824) {m:Nat} (hm:m<=1073741824) {d:D} (hd:Some m d) (N:Nat) (Q:QT [.ag 9])
  (hQ:∀ d' N',N<=N'->Some (2+ty.cnt+m) d'->Q d' N'):ACalls prog 191 [.ag 9] [.str s,.dg 2 J,.dg 9 d] N Q:=by
 obtain ⟨t,h2,h3⟩:=hd
 refine zKp N s J d Q λ_ _=>⟨⟨rfl,rfl⟩,λa _ N1 ac I=>?_⟩
 refine zJe 6 (zIS h2) (by simp) (by simpa using (by omega:t.cnt<=1073741824)) a 1 N1 _ λx N2 ae hx ho _=>⟨wW I ho,λ_ N3 ah=>?_⟩
 refine zT ty J h1 O N3 _ λx' N4 ai aa aj _ _ N5 ak=>?_
 obtain ⟨t0,t1,r0,r1,a',es,c,rfl,hh,hlen,ab⟩:=Tm.is_mk.1 hx
 refine hQ _ _ (by omega) ⟨.mk 6 s (bytes []) 0 ty (.mk 0 []) [t],Tm.is_mk.2 ⟨_,_,_,_,_,_,_,rfl,⟨hs,hh.ot,Ty.is_cells aa,hh.re⟩,hlen,ab⟩,?_⟩
 simp only [Tm.cnt,Ty.cnt,zV,za]
 omega
/-- a type by its form -/
inductive Wf:Ty->Prop
 | int:Wf tInt
 | bool:Wf tBool
 | fn {a b:Ty}:Wf a->Wf b->Wf (tH a b)
 | code {a:Ty}:Wf a->Wf (zAk a)
theorem zPp {t:Ty} (hw:Wf t):t.cnt<=1000->∀ {d:D} (_:t.Is d) (n:Int) {es:List D} {i:Int} (_:Cu es i) (a:Option Addr) (c:Nat) (h:Int) (N:Nat) (Q:QT [.ag 9,.sl 0,.i,.i])
  (_:∀ d' a' O c' i' h' N',N<=N'->Cu O i'->Some (4*t.cnt) d'->Q d' a' O c' i' h' N'),BCalls prog 168 [.ag 9,.sl 0,.i,.i] [.pb 0 0 0 0,.dg 2 d,.j n] [.var [.sv a 0 es c,.j i,.j h]] N Q:=by
 induction hw with
 | int=>
   intro hc d hd n es i I a c h N Q hQ
   obtain ⟨b,fs,k,rfl,_,h2⟩:=Ty.is_mk.1 hd
   refine wd N _ n a es c i h Q λE _ _=>⟨1,rfl,Br.beq (λ_ N1 aa=>?_) λh=>absurd rfl h⟩
   exact xd I 4 (by omega) a c h N1 _ λx a' O c' i' h' N2 ab J _ _ _ _ _ N3 ac=>zVa x N3 _ λd' N4 ae ah _ _=>⟨vV,λN5 ai=>hQ _ _ _ _ _ _ _ (by omega) J (ah.mono (by simp [tInt,Ty.cnt,zV]))⟩
 | bool=>
   intro hc d hd n es i I a c h N Q hQ
   obtain ⟨b,fs,k,rfl,_,h2⟩:=Ty.is_mk.1 hd
   refine wd N _ n a es c i h Q λE _ _=>⟨2,rfl,Br.beq (λh=>absurd h (by decide)) λ_=>Br.beq (λ_ N1 aa=>?_) λh=>absurd rfl h⟩
   exact xd I 2 (by omega) a c h N1 _ λx a' O c' i' h' N2 ab J _ _ _ _ _ N3 ac=>zUm x N3 _ λd' N4 ae ah _ _=>⟨vV,λN5 ai=>hQ _ _ _ _ _ _ _ (by omega) J (ah.mono (by simp [tBool,Ty.cnt,zV]))⟩
 | @fn u v hu hv aj ak=>
   intro hc d hd n es i I a c h N Q hQ
   have al:(tH u v).cnt=1+(u.cnt+(v.cnt+0)):=rfl
   obtain ⟨b,fs,k,rfl,am,d1,_,rfl,h3,d2,_,rfl,h4,rfl⟩:=Ty.is_mk.1 hd
   refine wd N _ n a es c i h Q λE _ _=>⟨3,rfl,Br.beq (λh=>absurd h (by decide)) λ_=>Br.beq (λh=>absurd h (by decide)) λ_=>Br.beq (λ_=>⟨_,_,_,rfl,⟨by simp,by simp⟩,_,_,_,rfl,⟨by simp,by simp⟩,λN1 aa=>?_⟩) λh=>absurd rfl h⟩
   refine ak (by omega) h4 n I a c h N1 _ λx a' O c' i' h' N2 ab J hx _ _ _ N3 ac=>?_
   exact zVG (by decide) h3 (by omega) (by omega) hx N3 _ λy N4 ae hy _ _=>⟨vV,λN5 ai=>hQ _ _ _ _ _ _ _ (by omega) J (hy.mono (by omega))⟩
 | @code u hu aj=>
   intro hc d hd n es i I a c h N Q hQ
   have al:(zAk u).cnt=1+(u.cnt+0):=rfl
   obtain ⟨b,fs,k,rfl,am,d1,_,rfl,h3,rfl⟩:=Ty.is_mk.1 hd
   refine wd N _ n a es c i h Q λE _ _=>⟨4,rfl,Br.beq (λh=>absurd h (by decide)) λ_=>Br.beq (λh=>absurd h (by decide)) λ_=>Br.beq (λh=>absurd h (by decide)) λ_=>⟨_,_,_,rfl,⟨by simp,by simp⟩,λN1 aa=>?_⟩⟩
   refine aj (by omega) h3 _ I a c h N1 _ λx a' O c' i' h' N2 ab J hx _ _ _=>⟨⟨rfl,rfl⟩,⟨rfl,rfl⟩,⟨rfl,rfl⟩,λa7 N3 ac _=>⟨vV,λN4 ae=>hQ _ _ _ _ _ _ _ (by omega) J ?_⟩⟩
   obtain ⟨e,h5,h6⟩:=hx
   refine ⟨.mk 10 (bytes []) (bytes []) 0 (.mk 0 []) (.mk 0 []) [e],Tm.is_mk.2 ⟨_,_,_,_,_,_,_,rfl,⟨by decide,by decide,wD 0,wD 0⟩,by simp,zIS h5⟩,?_⟩
   simp only [Tm.cnt,Ty.cnt,zV,za]
   omega
theorem zRI:Some 3 (.ag [.j 0,.t (bytes []),.t (bytes []),.j 0,.j 0,.sl none 2 [] 0,.j 0,.sl none 2 [] 0,.sl none 9 [] 0]):=zCX 0 0 (bytes []) (by decide)
/-- a variable of a type, if there is one -/
theorem zQO {g:List Tg} {I:List D} (O:Ctx g I) (hg:g.length<=1000000) {t:Ty} {d:D} (hd:t.Is d) (n:Int) (a0:Option Addr) (c0:Nat) {es:List D} {i:Int} (ab:Cu es i) (a:Option Addr) (c:Nat) (h:Int) (N:Nat) (Q:QT [.ag 9,.bool,.sl 0,.i,.i])
  (hQ:∀ d' b a' aa c' i' h' N',N<=N'->Cu aa i'->Some 3 d'->Q d' b a' aa c' i' h' N'):BCalls prog 167 [.ag 9,.bool,.sl 0,.i,.i] [.pb 0 0 0 0,.sv a0 4 I c0,.dg 2 d,.j n] [.var [.sv a 0 es c,.j i,.j h]] N Q:=by
 have hl:=O.all.len
 refine zDf N a0 I c0 d n a es c i h Q λE _ _ _=>?_
 refine up O.all O.len (λk xs=>∀ (r:List D) (q N':Nat),N<=N'->(∀ x∈r,Some 3 x)->r.length<=k->yG E Q N a0 I c0 n r.length q k a es c i h d 0 (bytes []) (bytes []) 0 0 none [] 0 0 none [] 0 none [] 0 r q N') ?_ ?_ [] 0 N (oB _) (by simp) (by simp)
 ·intro k ah hk r q N' ac hr ai
  refine qY _ _ _ _ _ _ _ _ _ _ _ _ _ _ _ _ _ _ _ _ _ _ _ _ _ _ _ _ _ _ _ _ _ _ ?_
  rw [ah]
  refine Br.beq (λ_=>⟨vV,λN1 ae=>hQ _ _ _ _ _ _ _ _ (by omega) ab zRI⟩) λh0 N1 ae=>?_
  refine xd ab _ (by omega) a c h N1 _ λx a' aa c' i' h' N2 aj ak x0 x1 _ _ _=>?_
  have x1:=x1 (by omega)
  exact ⟨⟨x0,x1,by omega⟩,by omega,vV,λN3 al=>hQ _ _ _ _ _ _ _ _ (by omega) ak (hr _ (zJp (by omega)))⟩
 ·intro k x xs J _ ih r q N' ac hr ai
  have hb:=J.b
  obtain ⟨t0,t1,am,ao,aq⟩:=J.r
  have skip:∀ N'',N<=N''->yG E Q N a0 I c0 n r.length q (IntKind.i64.wrap ((k:Int)+1)) a es c i h d 0 (bytes []) (bytes []) 0 0 none [] 0 0 none [] 0 none [] 0 r q N'':=λN'' h=>by
   rw [J.w];exact ih r q N'' h hr (by omega)
  refine qY _ _ _ _ _ _ _ _ _ _ _ _ _ _ _ _ _ _ _ _ _ _ _ _ _ _ _ _ _ _ _ _ _ _ ?_
  rw [J.lt]
  simp only [oK]
  rw [am]
  have bd:(0:Int)<=(k:Int)/\(k:Int)<(I.length:Int):=⟨by omega,by omega⟩
  refine ⟨bd,x.lv,rfl,Br.beq (λ_=>⟨bd,λN1 ae=>?_⟩) λ_=>skip N' ac⟩
  refine yo x.ty t _ d aq hd N1 _ λN2 aj _=>Br.of (λ_=>⟨bd,x.nm,rfl,λN3 al=>?_⟩) λ_=>skip N2 (by omega)
  refine tG O a0 c0 x.nm N3 _ λN4 au _=>Br.beq (λ_=>⟨bd,x.nm,rfl,λN5 aw=>?_⟩) λ_=>skip N4 (by omega)
  refine zU9 x.nm ao N5 _ λy N6 ax hy _ _=>⟨⟨by trivial,by trivial⟩,by unfold zB;rw [oE];simp only [oJ,oM];omega,λc1=>?_⟩
  rw [J.w]
  exact ih (r++[y]) c1 N6 (by omega) (λz hz=>by
   rcases oG.1 hz with hz | hz
   ·exact hr z hz
   ·rw [oR] at hz;subst hz;exact hy) (by simp;omega)
/-- parameters -/
theorem zNn {es:List D} {i:Int} (I:Cu es i) (a:Option Addr) (c:Nat) (h:Int) (N:Nat) (Q:QT [.row 74 4,.sl 0,.i,.i])
  (hQ:∀ g e1 c1 a' J c' i' h' N',N<=N'->Cu J i'->Pms g e1->1<=g.length->g.length<=4->(∀ x∈g,x.ty.cnt<=1)->Q e1 c1 a' J c' i' h' N'):BCalls prog 130 [.row 74 4,.sl 0,.i,.i] [.pb 0 0 0 0] [.var [.sv a 0 es c,.j i,.j h]] N Q:=by
 refine zBY N a es c i h Q λE _ N1 ao=>xd I 4 (by omega) a c h N1 _ λx a' J c' i' h' N2 aq O x0 x1 _ _ _=>?_
 have x1:=x1 (by omega)
 rw [i64_in (1+x) (by omega)]
 have key:∀ (m k:Nat) (g:List Pm) (r:List D) (q N':Nat) (a es c i h),(k:Int)+m=1+x->N<=N'->Cu es i->All2 Pm.Is g r->g.length=k->(∀ x∈g,x.ty.cnt<=1)->yV E Q N r.length q (1+x) k a es c i h r q N':=by
  intro m
  induction m with
  | zero=>
    intro k g r q N' a es c i h hk ae I hr ab aa
    have ah:=hr.len
    refine sE _ _ _ _ _ _ _ _ _ _ _ _ _ _ _ (Br.dec (λai=>by omega) λ_=>⟨vV,⟨rfl,rfl⟩,λN4 aj=>hQ g _ _ _ _ _ _ _ _ (by omega) I ⟨by omega,hr⟩ (by omega) (by omega) aa⟩)
  | succ m ih=>
    intro k g r q N' a es c i h hk ae I hr ab aa
    have ah:=hr.len
    refine sE _ _ _ _ _ _ _ _ _ _ _ _ _ _ _ (Br.dec (λ_ N3 au=>?_) λai=>by omega)
    have nm:∃ s,List.getD [D.t (bytes [120]),D.t (bytes [121]),D.t (bytes [110]),D.t (bytes [98])] (0+(k:Int).toNat) default=D.t s/\s.size<=4611686018427387904:=by
     have:k=0\/k=1\/k=2\/k=3:=by omega
     rcases this with rfl | rfl | rfl | rfl<;>exact ⟨_,rfl,by decide⟩
    obtain ⟨s,hs,ak⟩:=nm
    have next:∀ (t:Ty) (y:D) (b:Bool) (a es c i h) (N'' c2:Nat),t.Is y->t.cnt<=1->N<=N''->Cu es i->yV E Q N (r++[D.ag [.t s,y.cell 0,y.cell 1,.lit (.bool b)]]).length c2 (1+x) (IntKind.i64.wrap ((k:Int)+1)) a es c i h (r++[D.ag [.t s,y.cell 0,y.cell 1,.lit (.bool b)]]) c2 N'':=λt y b a es c i h N'' c2 hy ht hN I=>by
     rw [i64_in ((k:Int)+1) (by omega)]
     have:=ih (k+1) (g++[⟨s,t,b⟩]) _ c2 N'' a es c i h (by omega) hN I (hr.snoc (t:=(⟨s,t,b⟩:Pm)) ⟨_,_,rfl,ak,Ty.is_cells hy⟩) (by simp [ab]) (λz hz=>by
      rcases oG.1 hz with hz | hz
      ·exact aa z hz
      ·rw [oR] at hz;subst hz;exact ht)
     exact this
    have ac:∀ z:D,zB r [z] 56:=λz=>by unfold zB;rw [oE];simp only [oJ,oM];omega
    refine xW N3 _ λy N4 aj hy _ _ _=>Br.beq (λ_ N5 al=>?_) λ_=>⟨⟨by omega,by omega,by omega⟩,by omega,s,hs,λN5 al=>?_⟩
    ·refine tE N5 _ λy N6 aw hy _ _ _=>⟨⟨by omega,by omega,by omega⟩,by omega,s,hs,λN7 ax=>?_⟩
     exact zBA I 2 (by omega) a c h N7 _ λb a' J c' i' h' N8 am O _ _=>⟨⟨rfl,rfl⟩,ac _,λc2=>next tBool y b _ _ _ _ _ _ _ hy (by simp [tBool,Ty.cnt,zV]) (by omega) O⟩
    ·exact zBA I 2 (by omega) a c h N5 _ λb a' J c' i' h' N8 am O _ _=>⟨⟨rfl,rfl⟩,ac _,λc2=>next tInt y b _ _ _ _ _ _ _ hy (by simp [tInt,Ty.cnt,zV]) (by omega) O⟩
 exact key (1+x).toNat 0 [] [] 0 N2 a' J c' i' h' (by omega) (by omega) O rfl rfl (by simp)
end Go.Proofs.YtlahkdflngobiaaGreatDoor
set_option maxRecDepth 100000
namespace Go.Proofs.YtlahkdflngobiaaGreatDoor
open Go Go.Proofs Go.Proofs.Tryz Go.IntWalk
/-- a base type -/
def Bs (t:Ty):Prop:=t=tInt\/t=tBool
theorem Bs.wf {t:Ty} (h:Bs t):Wf t:=by rcases h with rfl | rfl;exact .int;exact .bool
theorem Bs.cnt {t:Ty} (h:Bs t):t.cnt=1:=by rcases h with rfl | rfl<;>rfl
theorem Bs.cell {t:Ty} {d:D} (h:Bs t) (hd:t.Is d):∃ n:Int,d.cell 0=.j n:=by
 rcases h with rfl | rfl<;>obtain ⟨b,fs,k,rfl,_,_⟩:=Ty.is_mk.1 hd<;>exact ⟨_,rfl⟩
theorem zQ2 {f:Nat} (h:1<=f):3+3*4 ^ f<=4 ^ (f+1)/\4<=4 ^ f:=by
 have I:4 ^ 1<=4 ^ f:=Nat.pow_le_pow_right (by decide) h
 rw [Nat.pow_succ]
 omega
theorem zUq {f:Nat} (h:f<=10):4 ^ (f+1)<=1073741824:=oZ (Nat.pow_le_pow_right (by decide) (by omega:f+1<=11)) (by decide)
theorem zWC {s a b c d:ByteArray} (h:s∈[a,b,c,d]) (I:a.size<=1000) (J:b.size<=1000) (hc:c.size<=1000) (hd:d.size<=1000):s.size<=1000:=by
 simp only [oH,om,mB] at h
 rcases h with rfl | rfl | rfl | rfl<;>assumption
theorem zS8:∀ (f:Nat),f<=10->∀ {g:List Tg} {aa:List D} (_:Ctx g aa) (_:g.length+f<=1000) {t:Ty} (_:Bs t) {d:D} (_:t.Is d) (n:Int) (_:n<=f) (a0:Option Addr) (c0:Nat) {es:List D} {i:Int} (_:Cu es i) (a:Option Addr) (c:Nat) (h:Int) (N:Nat) (Q:QT [.ag 9,.sl 0,.i,.i])
  (_:∀ d' a' ai c' i' h' N',N<=N'->Cu ai i'->Some (4 ^ (f+1)) d'->Q d' a' ai c' i' h' N'),BCalls prog 131 [.ag 9,.sl 0,.i,.i] [.pb 0 0 0 0,.sv a0 4 aa c0,.dg 2 d,.j n] [.var [.sv a 0 es c,.j i,.j h]] N Q:=by
 intro f
 induction f with
 | zero=>
   intro _ g aa O hg t hb d hd n hn a0 c0 es i ab a c h N Q hQ
   have J:∀ (E:Env) a es c i h N',N<=N'->Cu es i->yU E Q N a0 aa c0 n a es c i h d 0 (bytes []) (bytes []) 0 0 none [] 0 0 none [] 0 none [] 0 N':=λE a es c i h N' bw ab=>by
    refine p7 _ _ _ _ _ _ _ _ _ _ _ _ _ _ _ _ _ _ _ _ _ _ _ _ _ _ _ _ _ (Br.dec (λ_ N1 au=>zPp hb.wf (by rw [hb.cnt];omega) hd 0 ab a c h N1 _ λx a' ai c' i' h' N2 aw I hx _ _ _=>⟨vV,λN3 aj=>hQ _ _ _ _ _ _ _ (by omega) I (hx.mono (by rw [hb.cnt];decide))⟩) λbz=>by omega)
   have K:∀ (E:Env) a es c i h N1,N<=N1->Cu es i->BCalls prog 167 [.ag 9,.bool,.sl 0,.i,.i] [.pb 0 0 0 0,.sv a0 4 aa c0,.dg 2 d,.j 0] [.var [.sv a 0 es c,.j i,.j h]] N1 (λx b a es c i h N4=>N1<=N4->Bel N4 x->Bel N4 (D.sl a 0 es c)->Br b (vW E [.var [.sv none 0 [] 0,.j 0,.j 0]]/\∀ N5,N4<=N5->Q x a es c i h N5) (yU E Q N a0 aa c0 n a es c i h d 0 (bytes []) (bytes []) 0 0 none [] 0 0 none [] 0 none [] 0 N4)):=λE a es c i h N1 au ab=>
    zQO O (by omega) hd 0 a0 c0 ab a c h N1 _ λx b a' ai c' i' h' N2 aw I hx _ _ _=>Br.of (λ_=>⟨vV,λN3 aj=>hQ _ _ _ _ _ _ _ (by omega) I (hx.mono (by decide))⟩) λ_=>J E _ _ _ _ _ N2 (by omega) I
   exact qL N a0 aa c0 d n a es c i h Q λE _ _ _ N1 au=>zBA ab 3 (by omega) a c h N1 _ λb a' ai c' i' h' N2 aw I _ _=>Br.not (λ_ N3 aj=>K E _ _ _ _ _ N3 (by omega) I) λ_=>Br.dec (λ_ N3 aj=>K E _ _ _ _ _ N3 (by omega) I) λ_=>J E _ _ _ _ _ N2 (by omega) I
 | succ f ih1x=>
   intro b3 g aa O hg t hb d hd n hn a0 c0 es i ab a c h N Q hQ
   have ps:=zQ2 (f:=f+1) (by omega)
   have ax:=zUq (f:=f) (by omega)
   have ih:=@ih1x (by omega)
   have J:∀ (E:Env) a es c i h N',N<=N'->Cu es i->yU E Q N a0 aa c0 n a es c i h d 0 (bytes []) (bytes []) 0 0 none [] 0 0 none [] 0 none [] 0 N':=λE a es c i h N' bw ab=>by
    refine p7 _ _ _ _ _ _ _ _ _ _ _ _ _ _ _ _ _ _ _ _ _ _ _ _ _ _ _ _ _ (Br.dec (λ_ N1 au=>zPp hb.wf (by rw [hb.cnt];omega) hd 0 ab a c h N1 _ λx a' ai c' i' h' N2 aw I hx _ _ _=>⟨vV,λN3 aj=>hQ _ _ _ _ _ _ _ (by omega) I (hx.mono (by rw [hb.cnt];omega))⟩) λbz N1 au=>?_)
    rw [i64_in (n - 1) (by omega)]
    obtain ⟨kk,b1⟩:=hb.cell hd
    refine xW N1 _ λy N2 aw hy _ _ _ N3 aj=>xd ab 5 (by omega) a c h N3 _ λx a1 b4 c1 i1 h1 N4 b5 a8 _ _ _ _ _=>Br.beq (λ_ N5 bm=>?_) λ_=>Br.beq (λ_ N5 bm=>?_) λ_=>⟨kk,b1,Br.beq (λ_ N5 bm=>?_) λ_ N5 bm=>?_⟩
    ·refine tE N5 _ λz N6 bn hz _ _ _ N7 ba=>?_
     refine ih O (by omega) (.inr rfl) hz _ (by omega) a0 c0 a8 a1 c1 h1 N7 _ λx1 a2 es2 c2 i2 h2 N8 bb ak ay _ _ _ N9 bp=>?_
     refine ih O (by omega) hb hd _ (by omega) a0 c0 ak a2 c2 h2 N9 _ λx2 a3 bc c3 i3 h3 N10 az ae bd _ _ _ a7 bi=>?_
     refine ih O (by omega) hb hd _ (by omega) a0 c0 ae a3 c3 h3 a7 _ λx3 a4 bq c4 i4 h4 bt bj al b6 _ _ _=>⟨⟨rfl,rfl⟩,λa5 _ ah am ac=>?_⟩
     refine zSh 5 ax (es:=[x1,x2,x3]) (by simp only [oH,om,mB];rintro _ (rfl | rfl | rfl)<;>assumption) (by simp) a5 3 ah _ λu bg ao hu ho _=>⟨wW ac ho,λ_=>⟨vV,λbh aq=>hQ _ _ _ _ _ _ _ (by omega) al (hu.mono (by simp only [oJ,oM];omega))⟩⟩
    ·refine rB (l:=[bytes [120],bytes [117],bytes [118],bytes [121]]) a8 (by decide) (by decide) a1 c1 h1 4 4 N5 _ λs a2 es2 c2 i2 h2 N6 bn ak hs _ _ _ N7 ba=>?_
     have hs:=zWC hs (by decide) (by decide) (by decide) (by decide)
     refine ih O (by omega) (.inl rfl) hy _ (by omega) a0 c0 ak a2 c2 h2 N7 _ λx1 a3 bc c3 i3 h3 N8 bb ae ay _ _ _ N9 bp=>?_
     refine xe O (by omega) a0 c0 (s:=s) (by omega) hy 0 N9 _ λa9 b7 c9 N10 az bv _ _ a7 bi=>?_
     refine ih bv (by simp;omega) hb hd _ (by omega) a9 c9 ae a3 c3 h3 a7 _ λx2 a4 bq c4 i4 h4 bt bj al bd _ _ _ ah am=>?_
     refine zUL (by omega) ax ay bd ah _ λu bg ao hu _ _=>⟨vV,λbh aq=>hQ _ _ _ _ _ _ _ (by omega) al (hu.mono (by omega))⟩
    ·refine rB (l:=[bytes [43],bytes [42],bytes [45]]) a8 (by decide) (by decide) a1 c1 h1 3 3 N5 _ λs a2 es2 c2 i2 h2 N6 bn ak hs _ _ _ N7 ba=>?_
     have hs:s.size<=1000:=by
      simp only [oH,om,mB] at hs
      rcases hs with rfl | rfl | rfl<;>decide
     refine ih O (by omega) (.inl rfl) hy _ (by omega) a0 c0 ak a2 c2 h2 N7 _ λx1 a3 bc c3 i3 h3 N8 bb ae ay _ _ _ N9 bp=>?_
     refine ih O (by omega) (.inl rfl) hy _ (by omega) a0 c0 ae a3 c3 h3 N9 _ λx2 a4 bq c4 i4 h4 N10 az al bd _ _ _=>⟨⟨rfl,rfl⟩,λa5 _ ah am ac=>?_⟩
     refine zT3 (by omega) ax (es:=[x1,x2]) (by simp only [oH,om,mB];rintro _ (rfl | rfl)<;>assumption) (by simp) a5 2 ah _ λu bg ao hu ho _=>⟨wW ac ho,λ_=>⟨vV,λbh aq=>hQ _ _ _ _ _ _ _ (by omega) al (hu.mono (by simp only [oJ,oM];omega))⟩⟩
    ·refine zBA a8 4 (by omega) a1 c1 h1 N5 _ λb a2 es2 c2 i2 h2 N6 bn ak _ _=>Br.of (λ_ N7 ba=>?_) λ_ N7 ba=>?_
     ·refine ih O (by omega) hb hd _ (by omega) a0 c0 ak a2 c2 h2 N7 _ λx1 a3 bc c3 i3 h3 N8 bb ae ay _ _ _=>⟨⟨rfl,rfl⟩,λa5 _ ah am ac=>?_⟩
      refine zT3 (by decide) ax (es:=[x1]) (by simp only [oH,om,mB];rintro _ rfl;assumption) (by simp) a5 1 ah _ λu bg ao hu ho _=>⟨wW ac ho,λ_=>⟨vV,λbh aq=>hQ _ _ _ _ _ _ _ (by omega) ae (hu.mono (by simp only [oJ,oM];omega))⟩⟩
     ·refine rB (l:=[bytes [61],bytes [60]]) ak (by decide) (by decide) a2 c2 h2 2 2 N7 _ λs a3 bc c3 i3 h3 N8 bb ae hs _ _ _ N9 bp=>?_
      have hs:s.size<=1000:=by
       simp only [oH,om,mB] at hs
       rcases hs with rfl | rfl<;>decide
      refine ih O (by omega) (.inl rfl) hy _ (by omega) a0 c0 ae a3 c3 h3 N9 _ λx1 a4 bq c4 i4 h4 N10 az al ay _ _ _ a7 bi=>?_
      refine ih O (by omega) (.inl rfl) hy _ (by omega) a0 c0 al a4 c4 h4 a7 _ λx2 a5 es5 c5 i5 h5 bt bj b2 bd _ _ _=>⟨⟨rfl,rfl⟩,λa6 _ ah am ac=>?_⟩
      refine zT3 (by omega) ax (es:=[x1,x2]) (by simp only [oH,om,mB];rintro _ (rfl | rfl)<;>assumption) (by simp) a6 2 ah _ λu bg ao hu ho _=>⟨wW ac ho,λ_=>⟨vV,λbh aq=>hQ _ _ _ _ _ _ _ (by omega) b2 (hu.mono (by simp only [oJ,oM];omega))⟩⟩
   have K:∀ (E:Env) a es c i h N1,N<=N1->Cu es i->BCalls prog 167 [.ag 9,.bool,.sl 0,.i,.i] [.pb 0 0 0 0,.sv a0 4 aa c0,.dg 2 d,.j 0] [.var [.sv a 0 es c,.j i,.j h]] N1 (λx b a es c i h N4=>N1<=N4->Bel N4 x->Bel N4 (D.sl a 0 es c)->Br b (vW E [.var [.sv none 0 [] 0,.j 0,.j 0]]/\∀ N5,N4<=N5->Q x a es c i h N5) (yU E Q N a0 aa c0 n a es c i h d 0 (bytes []) (bytes []) 0 0 none [] 0 0 none [] 0 none [] 0 N4)):=λE a es c i h N1 au ab=>
    zQO O (by omega) hd 0 a0 c0 ab a c h N1 _ λx b a' ai c' i' h' N2 aw I hx _ _ _=>Br.of (λ_=>⟨vV,λN3 aj=>hQ _ _ _ _ _ _ _ (by omega) I (hx.mono (by omega))⟩) λ_=>J E _ _ _ _ _ N2 (by omega) I
   exact qL N a0 aa c0 d n a es c i h Q λE _ _ _ N1 au=>zBA ab 3 (by omega) a c h N1 _ λb a' ai c' i' h' N2 aw I _ _=>Br.not (λ_ N3 aj=>K E _ _ _ _ _ N3 (by omega) I) λ_=>Br.dec (λ_ N3 aj=>K E _ _ _ _ _ N3 (by omega) I) λ_=>J E _ _ _ _ _ N2 (by omega) I
theorem zFX {g:List Pm} {es:List D} (h:Pms g es) (hg:g.length<=1000000) (a:Option Addr) (c:Nat) (N:Nat) (Q:QT [.sl 4])
  (hQ:∀ a' J c' N',N<=N'->Ctx (uS g) J->(∀ x∈(D.sl a' 4 J c').foot,x∈zC es\/N<=x)->Q a' J c' N'):ACalls prog 116 [.sl 4] [.sv a 4 es c] N Q:=by
 have hl:=h.all.len
 refine zBn N a es c Q λ_=>?_
 refine up h.all h.len (λi xs=>∀ (done:List D) (q:Nat) (N':Nat),N<=N'->All2 Tg.Is ((uS g).take i) done->done.length=i->(∀ x∈zC done,x∈zC es)->wX Q N a es c done.length q i done q N') ?_ ?_ [] 0 N (oB _) rfl rfl (by simp [zC])
 ·intro i ab hi done q N' O hd hs hf
  refine v8 _ _ _ _ _ _ _ _ _ _ _ ?_
  rw [od (by rw [vZ];omega)] at hd
  rw [ab]
  refine ⟨⟨rfl,rfl⟩,⟨rfl,rfl⟩,⟨rfl,rfl⟩,λa2 N2 al ac N3 am=>hQ _ _ _ _ (by omega) ⟨by omega,hd⟩ λx hx=>?_⟩
  cases a2 with
  | none=>simp only [D.foot] at hx;exact .inl (hf x hx)
  | some ad=>
    simp only [D.foot] at hx
    split at hx
    ·simp at hx
    ·rcases oH.1 hx with rfl | hx
     ·exact .inr (ac.lo ad rfl)
     ·exact .inl (hf x hx)
 ·intro i x xs I _ ae done q N' O hd hs hf
  have hb:=I.b
  obtain ⟨t0,t1,ah,ai,aj⟩:=I.r
  refine v8 _ _ _ _ _ _ _ _ _ _ _ ?_
  have aa:(uS g)[i]?=some ⟨x.nm,x.ty,0⟩:=by rw [uS,oI,I.g];rfl
  have ak:es.getD i default∈es:=zJp (by omega)
  rw [I.lt]
  simp only [oK]
  rw [ah,I.w] at *
  refine ⟨⟨by omega,by omega⟩,x.nm,rfl,⟨by omega,by omega⟩,⟨by trivial,by trivial⟩,by unfold zB;rw [oE];simp only [oJ,oM];omega,λc1=>?_⟩
  exact ae _ _ _ O (by rw [xK aa];exact hd.snoc ⟨_,_,rfl,ai,aj⟩) (by simp [hs]) (λy hy=>by
   rw [zE] at hy
   rcases oG.1 hy with hy | hy
   ·exact hf y hy
   ·refine zH.2 ⟨_,ak,?_⟩
    simpa [D.foot,zC,D.cell,D.sub,D.cells] using hy)
/-- parameters and a body -/
theorem zUP {es:List D} {i:Int} (O:Cu es i) (a:Option Addr) (c:Nat) (h:Int) (N:Nat) (Q:QT [.row 74 4,.ag 9,.sl 0,.i,.i])
  (hQ:∀ g e1 c1 d a' I c' i' h' N',N<=N'->Cu I i'->Pms g e1->1<=g.length->g.length<=4->(∀ x∈g,x.ty.cnt<=1)->Some 4096 d->Q e1 c1 d a' I c' i' h' N'):BCalls prog 128 [.row 74 4,.ag 9,.sl 0,.i,.i] [.pb 0 0 0 0] [.var [.sv a 0 es c,.j i,.j h]] N Q:=by
 refine zC3 N a es c i h Q λE _ N1 al=>zNn O a c h N1 _ λg e1 c1 a2 es2 c2 i2 h2 N2 am aa hg g1 g4 gc _ _ _=>⟨⟨rfl,rfl⟩,λa1 ab N3 ao J=>?_⟩
 refine zFX hg (by omega) a1 c1 N3 _ λa3 e3 c3 N4 aq ac ae _=>⟨zMz ab J ae,λ_ N5 au=>xW N5 _ λy N6 aw hy _ _ _ N7 ax=>?_⟩
 refine xd aa 4 (by omega) a2 c2 h2 N7 _ λx a4 ay c4 i4 h4 N8 az ah x0 x1 _ _ _ N9 a6=>?_
 have x1:=x1 (by omega)
 rw [i64_in (2+x) (by omega)]
 exact zS8 5 (by omega) ac (by rw [vZ];omega) (.inl rfl) hy (2+x) (by omega) a3 c3 ah a4 c4 h4 N9 _ λd a5 es5 c5 i5 h5 N10 aj ai hd _ _ _=>⟨vV,⟨rfl,rfl⟩,λa7 ak=>hQ g _ _ _ _ _ _ _ _ _ (by omega) ai hg g1 g4 gc (hd.mono (by decide))⟩
end Go.Proofs.YtlahkdflngobiaaGreatDoor
