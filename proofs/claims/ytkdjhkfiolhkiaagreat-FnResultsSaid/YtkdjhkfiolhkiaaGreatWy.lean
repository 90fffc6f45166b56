/- Drawing: what it leans on (seats without binding times). -/
import Derived.Test.YtkdjhkfiolhkiaaGreatWc
import Derived.Test.YtkdjhkfiolhkiaaGreatKu
import Derived.Test.YtkdjhkfiolhkiaaGreatKf
import Derived.Test.YtkdjhkfiolhkiaaGreatKd
import Derived.Test.YtkdjhkfiolhkiaaGreatWn
set_option linter.unusedVariables false
set_option linter.unusedSimpArgs false
namespace Go.Proofs.YtkdjhkfiolhkiaaGreat
open Go Go.Proofs Go.Proofs.Tryz Go.IntWalk
def zIn (l:List Int):List D:=l.map fun n=>.lit (.int .i64 n)
theorem zLk (l:List Int):(zIn l).length=l.length:=by simp [zIn]
theorem zQS (k n:Int):(Tm.mk k (bytes []) (bytes []) n (.mk 0 []) (.mk 0 []) []).Is (.ag [.lit (.int .i64 k),.lit (.string (bytes [])),.lit (.string (bytes [])),.lit (.int .i64 n),.lit (.int .i64 0),.sl none 2 [] 0,.lit (.int .i64 0),.sl none 2 [] 0,.sl none 9 [] 0]):=
 Tm.is_mk.2 ⟨_,_,_,_,_,_,_,rfl,⟨by decide,by decide,xE _,xE _⟩,by simp,rfl⟩
end Go.Proofs.YtkdjhkfiolhkiaaGreat
set_option maxRecDepth 100000
namespace Go.Proofs.YtkdjhkfiolhkiaaGreat
open Go Go.Proofs Go.Proofs.Tryz Go.IntWalk
theorem zFT {l:List D} {i:Nat} (h:i<l.length):l.getD i default∈l:=by
 rw [oA,oF h];exact mJ h
/-- a cursor over bytes -/
structure Cu (es:List D) (i:Int):Prop where
 b:∀ d∈es,∃ n:Int,d=.lit (.int .u8 n)
 l:es.length<=1073741824
 lo:0<=i
 hi:i<=es.length
theorem zJB (x:Int):0<=IntKind.i64.wrap ((BitVec.ofInt 64 x &&& BitVec.ofInt 64 255).toNat:Int)/\IntKind.i64.wrap ((BitVec.ofInt 64 x &&& BitVec.ofInt 64 255).toNat:Int)<=255:=by
 have h:(BitVec.ofInt 64 x &&& BitVec.ofInt 64 255).toNat<=255:=by
  rw [BitVec.toNat_and]
  exact oS Nat.and_le_right (by decide)
 rw [i64_in _ (by omega)]
 omega
theorem zP5 {es:List D} (hb:∀ d∈es,∃ n:Int,d=.lit (.int .u8 n)) (hl:es.length<=1073741824) (a:Option Addr) (c:Nat) (N:Nat) (Q:QT [.cu])
  (hQ:∀ h N',N<=N'->Cu es 0->Q a es c 0 h N'):ACalls prog 58 [.cu] [.sv a 0 es c] N Q:=by
 refine zHP N a es c Q fun _=>?_
 have fin:∀ h N',N<=N'->Q a es c 0 h N':=fun h N' hN'=>hQ h N' hN' ⟨hb,hl,by omega,by omega⟩
 have key:∀ (n i:Nat) (h:Int) (N':Nat),i+n=es.length->N<=N'->wh Q N a es c h i N':=by
  intro n
  induction n with
  | zero=>
    intro i h N' hi hN'
    refine rV _ _ _ _ _ _ _ _ ?_
    rw [mT (by omega)]
    exact fun N1 hN1=>fin _ _ (by omega)
  | succ n ih=>
    intro i h N' hi hN'
    refine rV _ _ _ _ _ _ _ _ ?_
    rw [mN (by omega)]
    rw [Y3]
    rcases Int.lt_or_le (i:Int) 4000 with h4 | h4
    rotate_left
    ·rw [mT (by omega)]
     exact fun N1 hN1=>fin _ _ (by omega)
    rw [mN h4,Y3]
    refine And.intro ⟨by omega,by omega⟩ ?_
    rw [oJ]
    obtain ⟨x,hx⟩:=hb (es.getD i default) (zFT (by omega))
    refine ⟨x,hx,?_⟩
    rw [i64_in ((i:Int)+1) (by omega)]
    exact ih (i+1) _ N' (by omega) hN'
 exact key es.length 0 _ N (by omega) (oD _)
theorem zHj {es:List D} {i:Int} (hc:Cu es i) (a:Option Addr) (c:Nat) (h:Int) (N:Nat) (Q:QT [.int .i64,.sl 0,.int .i64,.int .i64])
  (hQ:∀ x a' es' c' i' h' N',N<=N'->Cu es' i'->0<=x->x<=255->Q x a' es' c' i' h' N'):BCalls prog 131 [.int .i64,.sl 0,.int .i64,.int .i64] [.pb 0 0 0 0] [.var [.sv a 0 es c,.int .i64 i,.int .i64 h]] N Q:=by
 have h1:=hc.lo
 have h2:=hc.hi
 have h3:=hc.l
 refine zAv N a es c i h Q fun E _=>⟨by omega,by omega,Br.dec (fun hlt=>⟨⟨h1,hlt⟩,?_⟩) fun _=>⟨zZ,fun N1 hN1=>hQ _ _ _ _ _ _ _ hN1 hc (zJB _).1 (zJB _).2⟩⟩
 obtain ⟨x,hx⟩:=hc.b (es.getD i.toNat default) (zFT (by omega))
 refine ⟨x,hx,zZ,fun N1 hN1=>hQ _ _ _ _ _ _ _ hN1 ?_ (zJB _).1 (zJB _).2⟩
 rw [i64_in (i+1) (by omega)]
 exact ⟨hc.b,hc.l,by omega,by omega⟩
theorem yW {es:List D} {i:Int} (hc:Cu es i) (n:Int) (hn:n<=4294967296) (a:Option Addr) (c:Nat) (h:Int) (N:Nat) (Q:QT [.int .i64,.sl 0,.int .i64,.int .i64])
  (hQ:∀ x a' es' c' i' h' N',N<=N'->Cu es' i'->0<=x->(0<n->x<n)->(n<=0->x=0)->Q x a' es' c' i' h' N'):BCalls prog 61 [.int .i64,.sl 0,.int .i64,.int .i64] [.pb 0 0 0 0,.int .i64 n] [.var [.sv a 0 es c,.int .i64 i,.int .i64 h]] N Q:=by
 have tm:∀ x:Int,0<=x->0<n->0<=Int.tmod x n/\Int.tmod x n<n:=fun x hx h0=>⟨Int.tmod_nonneg _ hx,Int.tmod_lt_of_pos _ h0⟩
 refine pp N n a es c i h Q fun E _=>Br.dec (fun h0=>⟨zZ,fun N1 hN1=>hQ _ _ _ _ _ _ _ hN1 hc (by omega) (by omega) fun _=>rfl⟩) fun h0=>Br.dec (fun hs N1 hN1=>?_) fun hs N1 hN1=>?_
 ·exact zHj hc a c h N1 _ fun x a' es' c' i' h' N2 hN2 hc' x0 x1 _ _=>⟨by omega,zZ,fun N3 hN3=>hQ _ _ _ _ _ _ _ (by omega) hc' (tm x x0 (by omega)).1 (fun g=>(tm x x0 g).2) fun g=>by omega⟩
 ·refine zHj hc a c h N1 _ fun x a' es' c' i' h' N2 hN2 hc' x0 x1 _ _ N3 hN3=>?_
  refine zHj hc' a' c' h' N3 _ fun y a' es' c' i' h' N4 hN4 hc' y0 y1 _ _ N5 hN5=>?_
  refine zHj hc' a' c' h' N5 _ fun z a' es' c' i' h' N6 hN6 hc' z0 z1 _ _ N7 hN7=>?_
  refine zHj hc' a' c' h' N7 _ fun w a' es' c' i' h' N8 hN8 hc' w0 w1 _ _=>⟨by omega,zZ,fun N9 hN9=>?_⟩
  have e:IntKind.i64.wrap (IntKind.i64.wrap (IntKind.i64.wrap (IntKind.i64.wrap (x*16777216)+IntKind.i64.wrap (y*65536))+IntKind.i64.wrap (z*256))+w)=x*16777216+y*65536+z*256+w:=by
   rw [i64_in (x*16777216) (by omega),i64_in (y*65536) (by omega),i64_in (z*256) (by omega),i64_in (x*16777216+y*65536) (by omega),i64_in (x*16777216+y*65536+z*256) (by omega),i64_in _ (by omega)]
  have hq:=hQ (Int.tmod (x*16777216+y*65536+z*256+w) n) a' es' c' i' h' N9 (by omega) hc' (tm _ (by omega) (by omega)).1 (fun g=>(tm _ (by omega) g).2) fun g=>by omega
  rw [<-e] at hq
  exact hq
theorem rS {es:List D} {i:Int} (hc:Cu es i) (n:Int) (hn:n<=4294967296) (a:Option Addr) (c:Nat) (h:Int) (N:Nat) (Q:QT [.bool,.sl 0,.int .i64,.int .i64])
  (hQ:∀ b a' es' c' i' h' N',N<=N'->Cu es' i'->Q b a' es' c' i' h' N'):BCalls prog 81 [.bool,.sl 0,.int .i64,.int .i64] [.pb 0 0 0 0,.int .i64 n] [.var [.sv a 0 es c,.int .i64 i,.int .i64 h]] N Q:=
 zBD N n a es c i h Q fun E _ N1 hN1=>yW hc n hn a c h N1 _ fun x a' es' c' i' h' N2 hN2 hc' _ _ _ _ _=>⟨zZ,fun N3 hN3=>hQ _ _ _ _ _ _ _ (by omega) hc'⟩
theorem ud {es:List D} {i:Int} (hc:Cu es i) (l:List ByteArray) (h0:0<l.length) (hl:l.length<=4294967296) (a:Option Addr) (c:Nat) (h:Int) (k q:Nat) (N:Nat) (Q:QT [.str,.sl 0,.int .i64,.int .i64,.sl 0])
  (hQ:∀ s a' es' c' i' h' N',N<=N'->Cu es' i'->s∈l->Q s a' es' c' i' h' none (zA l) q N'):BCalls prog 132 [.str,.sl 0,.int .i64,.int .i64,.sl 0] [.pb 0 0 0 0,.sb 1 0 0 l.length k] [.var [.sv a 0 es c,.int .i64 i,.int .i64 h],.arr 9 0 (zA l) q] N Q:=by
 have hwl:=zH l
 refine zBN N l.length k a es c i h (zA l) q Q fun E _ _ N1 hN1=>?_
 refine yW hc l.length (by omega) a c h N1 _ fun x a' es' c' i' h' N2 hN2 hc' x0 x1 _ _ _=>?_
 have x1:=x1 (by omega)
 have hx:x.toNat<l.length:=by omega
 refine ⟨⟨x0,x1,by omega⟩,by omega,l[x.toNat],?_,zZ,fun N3 hN3=>hQ _ _ _ _ _ _ _ (by omega) hc' (mJ hx)⟩
 simp [zA,oA,oE,oF hx]
theorem sB {es:List D} {i:Int} (hc:Cu es i) (l:List Int) (h0:0<l.length) (hl:l.length<=4294967296) (a:Option Addr) (c:Nat) (h:Int) (k q:Nat) (N:Nat) (Q:QT [.int .i64,.sl 0,.int .i64,.int .i64,.sl 0])
  (hQ:∀ s a' es' c' i' h' N',N<=N'->Cu es' i'->s∈l->Q s a' es' c' i' h' none (zIn l) q N'):BCalls prog 63 [.int .i64,.sl 0,.int .i64,.int .i64,.sl 0] [.pb 0 0 0 0,.sb 1 0 0 l.length k] [.var [.sv a 0 es c,.int .i64 i,.int .i64 h],.arr 3 0 (zIn l) q] N Q:=by
 have hwl:=zLk l
 refine rj N l.length k a es c i h (zIn l) q Q fun E _ _ N1 hN1=>?_
 refine yW hc l.length (by omega) a c h N1 _ fun x a' es' c' i' h' N2 hN2 hc' x0 x1 _ _ _=>?_
 have x1:=x1 (by omega)
 have hx:x.toNat<l.length:=by omega
 refine ⟨⟨x0,x1,by omega⟩,by omega,l[x.toNat],?_,zZ,fun N3 hN3=>hQ _ _ _ _ _ _ _ (by omega) hc' (mJ hx)⟩
 simp [zIn,oA,oE,oF hx]
end Go.Proofs.YtkdjhkfiolhkiaaGreat
set_option maxRecDepth 100000
namespace Go.Proofs.YtkdjhkfiolhkiaaGreat
open Go Go.Proofs Go.Proofs.Tryz Go.IntWalk
/-- some term of at most this many nodes -/
def Some (m:Nat) (d:D):Prop:=∃ t:Tm,t.Is d/\t.cnt<=m
theorem Some.mono {m n:Nat} {d:D} (h:Some m d) (hn:m<=n):Some n d:=by obtain ⟨t,h1,h2⟩:=h;exact ⟨t,h1,by omega⟩
theorem zQy {m:Nat}:∀ {es:List D},(∀ d∈es,Some m d)->∃ l,All2 Tm.Is l es/\(∀ x∈l,x.cnt<=m)
 | [],_=>⟨[],rfl,by simp⟩
 | d::es,h=>by
   obtain ⟨t,h1,h2⟩:=h d (by simp)
   obtain ⟨l,h3,h4⟩:=zQy fun x hx=>h x (nh d hx)
   exact ⟨t::l,⟨d,es,rfl,h1,h3⟩,fun x hx=>by
    rcases oG.1 hx with rfl | hx
    ·exact h2
    ·exact h4 x hx⟩
theorem zEE {m:Nat}:∀ {l:List Tm},(∀ x∈l,x.cnt<=m)->zI l<=l.length*m
 | [],_=>by simp [zI]
 | x::l,h=>by
   have h1:=zEE (l:=l) fun y hy=>h y (by simp [hy])
   have h2:=h x (by simp)
   simp only [zI,oP,o8,Nat.one_mul]
   omega
theorem zEV (k:Int) {m:Nat} (hm:m<=1073741824) {es:List D} (hes:∀ d∈es,Some m d) (hl:es.length<=1000) (a:Option Addr) (c:Nat) (N:Nat) (Q:QT [.ag 9])
  (hQ:∀ d' N',N<=N'->Some (3+es.length*m) d'->Own N N' d'->Q d' N'):ACalls prog 123 [.ag 9] [.int .i64 k,.sv a 9 es c] N Q:=by
 obtain ⟨l,h1,h2⟩:=zQy hes
 have hll:=h1.len
 refine si k h1 (by omega) (fun x hx=>oS (h2 x hx) hm) a c N _ fun d' N' hN' hd ho=>hQ d' N' hN' ⟨_,hd,?_⟩ ho
 have:=zEE h2
 simp only [Tm.cnt,Ty.cnt,zT]
 rw [hll]
 omega
/-- another name -/
theorem zHQ {m:Nat} {d:D} (h:Some m d) {s:ByteArray} (hs:s.size<=4611686018427387904):Some m (.ag [d.cell 0,.lit (.string s),d.cell 2,d.cell 3,d.cell 4,d.cell 5,d.cell 6,d.cell 7,d.cell 8]):=by
 obtain ⟨t,h1,h2⟩:=h
 cases t with
 | mk k nm ot n ty re l=>
   obtain ⟨t0,t1,r0,r1,a,es,c,rfl,hh,hlen,hes⟩:=Tm.is_mk.1 h1
   exact ⟨.mk k s ot n ty re l,Tm.is_mk.2 ⟨_,_,_,_,_,_,_,rfl,⟨hs,hh.ot,hh.ty,hh.re⟩,hlen,hes⟩,h2⟩
theorem zNh {m N N':Nat} {d:D} (h:Some m d) (ho:Own N N' d) (s:ByteArray):Own N N' (.ag [d.cell 0,.lit (.string s),d.cell 2,d.cell 3,d.cell 4,d.cell 5,d.cell 6,d.cell 7,d.cell 8]):=by
 obtain ⟨t,h1,h2⟩:=h
 cases t with
 | mk k nm ot n ty re l=>
   obtain ⟨t0,t1,r0,r1,a,es,c,rfl,hh,hlen,hes⟩:=Tm.is_mk.1 h1
   exact zJb (v2:=.string s) ho
theorem zRn {s:ByteArray} (hs:s.size<=4611686018427387904) {m:Nat} (hm:m<=1073741824) {es:List D} (hes:∀ d∈es,Some m d) (hl:es.length<=1000) (a:Option Addr) (c:Nat) (N:Nat) (Q:QT [.ag 9])
  (hQ:∀ d' N',N<=N'->Some (3+es.length*m) d'->Own N N' d'->Q d' N'):ACalls prog 187 [.ag 9] [.str s,.sv a 9 es c] N Q:=
 zII N s a es c Q fun _ N1 hN1=>zEV 4 hm hes hl a c N1 _ fun d' N2 hN2 hd ho _ _ N3 hN3=>hQ _ _ (by omega) (zHQ hd hs) ((zNh hd ho s).mono hN1 hN3)
theorem qz (k n:Int) (s:ByteArray) (hs:s.size<=4611686018427387904):Some 3 (.ag [.lit (.int .i64 k),.lit (.string s),.lit (.string (bytes [])),.lit (.int .i64 n),.lit (.int .i64 0),.sl none 2 [] 0,.lit (.int .i64 0),.sl none 2 [] 0,.sl none 9 [] 0]):=
 zHQ (s:=s) ⟨_,zQS k n,by simp only [Tm.cnt,Ty.cnt,zT,zI];omega⟩ hs
theorem zP2 (s:ByteArray) (hs:s.size<=4611686018427387904) (N:Nat) (Q:QT [.ag 9]) (hQ:∀ d' N',N<=N'->Some 3 d'->Q d' N'):ACalls prog 155 [.ag 9] [.str s] N Q:=
 zAg N s Q fun N1 hN1=>hQ _ _ hN1 (qz 1 0 s hs)
theorem zPe (n:Int) (N:Nat) (Q:QT [.ag 9]) (hQ:∀ d' N',N<=N'->Some 3 d'->Q d' N'):ACalls prog 204 [.ag 9] [.int .i64 n] N Q:=
 zAm N n Q fun N1 hN1=>hQ _ _ hN1 (qz 2 n (bytes []) (by decide))
theorem zMd (n:Int) (N:Nat) (Q:QT [.ag 9]) (hQ:∀ d' N',N<=N'->Some 3 d'->Q d' N'):ACalls prog 205 [.ag 9] [.int .i64 n] N Q:=
 qx N n Q fun N1 hN1=>hQ _ _ hN1 (qz 3 n (bytes []) (by decide))
theorem zRP {s:ByteArray} (hs:s.size<=4611686018427387904) {m:Nat} (hm:m<=1073741824) {d e:D} (hd:Some m d) (he:Some m e) (N:Nat) (Q:QT [.ag 9])
  (hQ:∀ d' N',N<=N'->Some (3+2*m) d'->Q d' N'):ACalls prog 186 [.ag 9] [.str s,.dg 9 d,.dg 9 e] N Q:=by
 obtain ⟨t,h1,h2⟩:=hd
 obtain ⟨u,h3,h4⟩:=he
 refine zPP s hs t u d e h1 h3 (by omega) (by omega) N _ fun d' N' hN' hx _=>hQ d' N' hN' ⟨_,hx,?_⟩
 simp only [Tm.letN,Tm.cnt,Ty.cnt,zT,zI]
 omega
theorem zPb {s:ByteArray} (hs:s.size<=4611686018427387904) {ty:Ty} {x1:D} (h1:ty.Is x1) (hc1:ty.cnt<=1073741824) {m:Nat} (hm:m<=1073741824) {d:D} (hd:Some m d) (N:Nat) (Q:QT [.ag 9])
  (hQ:∀ d' N',N<=N'->Some (2+ty.cnt+m) d'->Q d' N'):ACalls prog 161 [.ag 9] [.str s,.dg 2 x1,.dg 9 d] N Q:=by
 obtain ⟨t,h2,h3⟩:=hd
 refine zHA N s x1 d Q fun _ _=>⟨⟨rfl,rfl⟩,fun a _ N1 hN1 hbel=>?_⟩
 refine si 6 (uI h2) (by simp) (by simpa using (by omega:t.cnt<=1073741824)) a 1 N1 _ fun x N2 hN2 hx ho _=>⟨wC hbel ho,fun _ N3 hN3=>?_⟩
 refine zR ty x1 h1 hc1 N3 _ fun x' N4 hN4 hx' ho' _ _ N5 hN5=>?_
 obtain ⟨t0,t1,r0,r1,a',es,c,rfl,hh,hlen,hes⟩:=Tm.is_mk.1 hx
 refine hQ _ _ (by omega) ⟨.mk 6 s (bytes []) 0 ty (.mk 0 []) [t],Tm.is_mk.2 ⟨_,_,_,_,_,_,_,rfl,⟨hs,hh.ot,Ty.is_cells hx',hh.re⟩,hlen,hes⟩,?_⟩
 simp only [Tm.cnt,Ty.cnt,zT,zI]
 omega
/-- a type by its form -/
inductive Wf:Ty->Prop
 | int:Wf tInt
 | bool:Wf tBool
 | fn {a b:Ty}:Wf a->Wf b->Wf (zMl a b)
 | code {a:Ty}:Wf a->Wf (r6 a)
theorem zH4 {t:Ty} (hw:Wf t):t.cnt<=1000->∀ {d:D} (_:t.Is d) (n:Int) {es:List D} {i:Int} (_:Cu es i) (a:Option Addr) (c:Nat) (h:Int) (N:Nat) (Q:QT [.ag 9,.sl 0,.int .i64,.int .i64])
  (_:∀ d' a' es' c' i' h' N',N<=N'->Cu es' i'->Some (4*t.cnt) d'->Q d' a' es' c' i' h' N'),BCalls prog 158 [.ag 9,.sl 0,.int .i64,.int .i64] [.pb 0 0 0 0,.dg 2 d,.int .i64 n] [.var [.sv a 0 es c,.int .i64 i,.int .i64 h]] N Q:=by
 induction hw with
 | int=>
   intro hc d hd n es i hcu a c h N Q hQ
   obtain ⟨b,fs,k,rfl,_,h2⟩:=Ty.is_mk.1 hd
   refine xD N _ n a es c i h Q fun E _ _=>⟨1,rfl,Br.beq (fun _ N1 hN1=>?_) fun h=>absurd rfl h⟩
   exact yW hcu 4 (by omega) a c h N1 _ fun x a' es' c' i' h' N2 hN2 hc' _ _ _ _ _ N3 hN3=>zPe x N3 _ fun d' N4 hN4 hd' _ _=>⟨zZ,fun N5 hN5=>hQ _ _ _ _ _ _ _ (by omega) hc' (hd'.mono (by simp [tInt,Ty.cnt,zT]))⟩
 | bool=>
   intro hc d hd n es i hcu a c h N Q hQ
   obtain ⟨b,fs,k,rfl,_,h2⟩:=Ty.is_mk.1 hd
   refine xD N _ n a es c i h Q fun E _ _=>⟨2,rfl,Br.beq (fun h=>absurd h (by decide)) fun _=>Br.beq (fun _ N1 hN1=>?_) fun h=>absurd rfl h⟩
   exact yW hcu 2 (by omega) a c h N1 _ fun x a' es' c' i' h' N2 hN2 hc' _ _ _ _ _ N3 hN3=>zMd x N3 _ fun d' N4 hN4 hd' _ _=>⟨zZ,fun N5 hN5=>hQ _ _ _ _ _ _ _ (by omega) hc' (hd'.mono (by simp [tBool,Ty.cnt,zT]))⟩
 | @fn u v hu hv ihu ihv=>
   intro hc d hd n es i hcu a c h N Q hQ
   have hcc:(zMl u v).cnt=1+(u.cnt+(v.cnt+0)):=rfl
   obtain ⟨b,fs,k,rfl,hfl,d1,_,rfl,h3,d2,_,rfl,h4,rfl⟩:=Ty.is_mk.1 hd
   refine xD N _ n a es c i h Q fun E _ _=>⟨3,rfl,Br.beq (fun h=>absurd h (by decide)) fun _=>Br.beq (fun h=>absurd h (by decide)) fun _=>Br.beq (fun _=>⟨_,_,_,rfl,⟨by simp,by simp⟩,_,_,_,rfl,⟨by simp,by simp⟩,fun N1 hN1=>?_⟩) fun h=>absurd rfl h⟩
   refine ihv (by omega) h4 n hcu a c h N1 _ fun x a' es' c' i' h' N2 hN2 hc' hx _ _ _ N3 hN3=>?_
   exact zPb (by decide) h3 (by omega) (by omega) hx N3 _ fun y N4 hN4 hy _ _=>⟨zZ,fun N5 hN5=>hQ _ _ _ _ _ _ _ (by omega) hc' (hy.mono (by omega))⟩
 | @code u hu ihu=>
   intro hc d hd n es i hcu a c h N Q hQ
   have hcc:(r6 u).cnt=1+(u.cnt+0):=rfl
   obtain ⟨b,fs,k,rfl,hfl,d1,_,rfl,h3,rfl⟩:=Ty.is_mk.1 hd
   refine xD N _ n a es c i h Q fun E _ _=>⟨4,rfl,Br.beq (fun h=>absurd h (by decide)) fun _=>Br.beq (fun h=>absurd h (by decide)) fun _=>Br.beq (fun h=>absurd h (by decide)) fun _=>⟨_,_,_,rfl,⟨by simp,by simp⟩,fun N1 hN1=>?_⟩⟩
   refine ihu (by omega) h3 _ hcu a c h N1 _ fun x a' es' c' i' h' N2 hN2 hc' hx _ _ _=>⟨⟨rfl,rfl⟩,⟨rfl,rfl⟩,⟨rfl,rfl⟩,fun a7 N3 hN3 _=>⟨zZ,fun N4 hN4=>hQ _ _ _ _ _ _ _ (by omega) hc' ?_⟩⟩
   obtain ⟨e,h5,h6⟩:=hx
   refine ⟨.mk 10 (bytes []) (bytes []) 0 (.mk 0 []) (.mk 0 []) [e],Tm.is_mk.2 ⟨_,_,_,_,_,_,_,rfl,⟨by decide,by decide,xE 0,xE 0⟩,by simp,uI h5⟩,?_⟩
   simp only [Tm.cnt,Ty.cnt,zT,zI]
   omega
theorem some_nod:Some 3 (.ag [.lit (.int .i64 0),.lit (.string (bytes [])),.lit (.string (bytes [])),.lit (.int .i64 0),.lit (.int .i64 0),.sl none 2 [] 0,.lit (.int .i64 0),.sl none 2 [] 0,.sl none 9 [] 0]):=qz 0 0 (bytes []) (by decide)
/-- a variable of a type, if there is one -/
theorem zLo {g:List Tg} {es0:List D} (ctx:Ctx g es0) (hg:g.length<=1000000) {t:Ty} {d:D} (hd:t.Is d) (n:Int) (a0:Option Addr) (c0:Nat) {es:List D} {i:Int} (hcu:Cu es i) (a:Option Addr) (c:Nat) (h:Int) (N:Nat) (Q:QT [.ag 9,.bool,.sl 0,.int .i64,.int .i64])
  (hQ:∀ d' b a' es' c' i' h' N',N<=N'->Cu es' i'->Some 3 d'->Q d' b a' es' c' i' h' N'):BCalls prog 157 [.ag 9,.bool,.sl 0,.int .i64,.int .i64] [.pb 0 0 0 0,.sv a0 4 es0 c0,.dg 2 d,.int .i64 n] [.var [.sv a 0 es c,.int .i64 i,.int .i64 h]] N Q:=by
 have hl:=ctx.all.len
 refine pq N a0 es0 c0 d n a es c i h Q fun E _ _ _=>?_
 refine up ctx.all ctx.len (fun k xs=>∀ (r:List D) (q N':Nat),N<=N'->(∀ x∈r,Some 3 x)->r.length<=k->ze E Q N a0 es0 c0 n r.length q k a es c i h d 0 (bytes []) (bytes []) 0 0 none [] 0 0 none [] 0 none [] 0 r q N') ?_ ?_ [] 0 N (oD _) (by simp) (by simp)
 ·intro k hlt hk r q N' hN' hr hrl
  refine tE _ _ _ _ _ _ _ _ _ _ _ _ _ _ _ _ _ _ _ _ _ _ _ _ _ _ _ _ _ _ _ _ _ _ ?_
  rw [hlt]
  refine Br.beq (fun _=>⟨zZ,fun N1 hN1=>hQ _ _ _ _ _ _ _ _ (by omega) hcu some_nod⟩) fun h0 N1 hN1=>?_
  refine yW hcu _ (by omega) a c h N1 _ fun x a' es' c' i' h' N2 hN2 hc' x0 x1 _ _ _=>?_
  have x1:=x1 (by omega)
  exact ⟨⟨x0,x1,by omega⟩,by omega,zZ,fun N3 hN3=>hQ _ _ _ _ _ _ _ _ (by omega) hc' (hr _ (zFT (by omega)))⟩
 ·intro k x xs hat _ ih r q N' hN' hr hrl
  have hb:=hat.b
  obtain ⟨t0,t1,hd',hnm,hty⟩:=hat.r
  have skip:∀ N'',N<=N''->ze E Q N a0 es0 c0 n r.length q (IntKind.i64.wrap ((k:Int)+1)) a es c i h d 0 (bytes []) (bytes []) 0 0 none [] 0 0 none [] 0 none [] 0 r q N'':=fun N'' h=>by
   rw [hat.w];exact ih r q N'' h hr (by omega)
  refine tE _ _ _ _ _ _ _ _ _ _ _ _ _ _ _ _ _ _ _ _ _ _ _ _ _ _ _ _ _ _ _ _ _ _ ?_
  rw [hat.lt]
  simp only [oJ]
  rw [hd']
  have bd:(0:Int)<=(k:Int)/\(k:Int)<(es0.length:Int):=⟨by omega,by omega⟩
  refine ⟨bd,x.lv,rfl,Br.beq (fun _=>⟨bd,fun N1 hN1=>?_⟩) fun _=>skip N' hN'⟩
  refine wr x.ty t _ d hty hd N1 _ fun N2 hN2 _=>Br.of (fun _=>⟨bd,x.nm,rfl,fun N3 hN3=>?_⟩) fun _=>skip N2 (by omega)
  refine q9 ctx a0 c0 x.nm N3 _ fun N4 hN4 _=>Br.beq (fun _=>⟨bd,x.nm,rfl,fun N5 hN5=>?_⟩) fun _=>skip N4 (by omega)
  refine zP2 x.nm hnm N5 _ fun y N6 hN6 hy _ _=>⟨⟨by trivial,by trivial⟩,by unfold zB;rw [oH];simp only [oP,od];omega,fun c1=>?_⟩
  rw [hat.w]
  exact ih (r++[y]) c1 N6 (by omega) (fun z hz=>by
   rcases oI.1 hz with hz | hz
   ·exact hr z hz
   ·rw [nJ] at hz;subst hz;exact hy) (by simp;omega)
end Go.Proofs.YtkdjhkfiolhkiaaGreat
set_option maxRecDepth 100000
namespace Go.Proofs.YtkdjhkfiolhkiaaGreat
open Go Go.Proofs Go.Proofs.Tryz Go.IntWalk
/-- some type of at most this many nodes -/
def SmT (m:Nat) (d:D):Prop:=∃ t:Ty,t.Is d/\t.cnt<=m
theorem SmT.mono {m n:Nat} {d:D} (h:SmT m d) (hn:m<=n):SmT n d:=by obtain ⟨t,h1,h2⟩:=h;exact ⟨t,h1,by omega⟩
theorem SmT.cells {m:Nat} {d:D} (h:SmT m d):SmT m (.ag [d.cell 0,d.cell 1]):=by obtain ⟨t,h1,h2⟩:=h;exact ⟨t,Ty.is_cells h1,h2⟩
/-- its row has no room behind it -/
def Ex (d:D):Prop:=∃ k a es c,d=.ag [.lit (.int .i64 k),.sl a 2 es c]/\(c=es.length/\es.length<=1000)
theorem zIk (k:Int):SmT 1 (.ag [.lit (.int .i64 k),.sl none 2 [] 0]):=⟨_,xE k,by simp [Ty.cnt,zT]⟩
theorem zLZ {m:Nat} (hm:m<=1073741824) {d:D} (hd:SmT m d) (N:Nat) (Q:QT [.ag 2]) (hQ:∀ d' N',N<=N'->SmT (1+m) d'->Ex d'->Q d' N'):ACalls prog 152 [.ag 2] [.dg 2 d] N Q:=by
 obtain ⟨t,h1,h2⟩:=hd
 refine pX N d Q fun _ N1 hN1=>zR t d h1 (by omega) N1 _ fun x N2 hN2 hx _ _ _=>⟨⟨rfl,rfl⟩,⟨rfl,rfl⟩,⟨rfl,rfl⟩,fun a N3 hN3 _ N4 hN4=>hQ _ _ (by omega) ⟨r6 t,Ty.is_mk.2 ⟨_,_,_,rfl,by simp,x,[],rfl,hx,rfl⟩,?_⟩ ⟨_,_,_,_,rfl,rfl,by simp⟩⟩
 simp only [r6,Ty.cnt,zT]
 omega
theorem zOZ {m:Nat} (hm:m<=1073741824) {d e:D} (hd:SmT m d) (he:SmT m e) (N:Nat) (Q:QT [.ag 2]) (hQ:∀ d' N',N<=N'->SmT (1+2*m) d'->Ex d'->Q d' N'):ACalls prog 153 [.ag 2] [.dg 2 d,.dg 2 e] N Q:=by
 obtain ⟨t,h1,h2⟩:=hd
 obtain ⟨u,h3,h4⟩:=he
 refine zAq N d e Q fun _ _ N1 hN1=>zR t d h1 (by omega) N1 _ fun x N2 hN2 hx _ _ _ N3 hN3=>zR u e h3 (by omega) N3 _ fun y N4 hN4 hy _ _ _=>⟨⟨rfl,rfl⟩,⟨rfl,rfl⟩,⟨rfl,rfl⟩,fun a N5 hN5 _ N6 hN6=>hQ _ _ (by omega) ⟨zMl t u,Ty.is_mk.2 ⟨_,_,_,rfl,by simp,x,[y],rfl,hx,y,[],rfl,hy,rfl⟩,?_⟩ ⟨_,_,_,_,rfl,rfl,by simp⟩⟩
 simp only [zMl,Ty.cnt,zT]
 omega
def TyC (b:Int) (X:Nat):Prop:=∀ (n:Int),n<=b->∀ {es:List D} {i:Int} (_:Cu es i) (a:Option Addr) (c:Nat) (h:Int) (N:Nat) (Q:QT [.ag 2,.sl 0,.int .i64,.int .i64])
    (_:∀ d' a' es' c' i' h' N',N<=N'->Cu es' i'->SmT X d'->Ex d'->Q d' a' es' c' i' h' N'),BCalls prog 93 [.ag 2,.sl 0,.int .i64,.int .i64] [.pb 0 0 0 0,.int .i64 n] [.var [.sv a 0 es c,.int .i64 i,.int .i64 h]] N Q
theorem zQo:TyC 1 1:=fun n hn es i hcu a c h N Q hQ=>by
 refine tL N n a es c i h Q fun E _=>Br.dec (fun _ N1 hN1=>?_) fun g=>absurd (by omega) g
 exact sB (l:=[1,1,2]) hcu (by decide) (by decide) a c h 3 3 N1 _ fun k a' es' c' i' h' N2 hN2 hc' _ _ _ _=>⟨zZ,fun N3 hN3=>hQ _ _ _ _ _ _ _ (by omega) hc' (zIk k) ⟨_,_,_,_,rfl,rfl,by simp⟩⟩
theorem zH8 {b:Int} {X:Nat} (hb:b<=1000) (hX:1<=X) (hX2:X<=1000000) (ih:TyC b X):TyC (b+1) (1+2*X):=fun n hn es i hcu a c h N Q hQ=>by
 have pk:∀ (E:Env) {es:List D} {i:Int} (_:Cu es i) a c h N1,N<=N1->BCalls prog 63 [.int .i64,.sl 0,.int .i64,.int .i64,.sl 0] [.pb 0 0 0 0,.sb 1 0 0 3 3] [.var [.sv a 0 es c,.int .i64 i,.int .i64 h],.arr 3 0 (zIn [1,1,2]) 3] N1
   (fun n a es c n_1 n_2 a_1 es_1 c_1 N2=>N1<=N2->Bel N2 (D.sl a 0 es c)->Bel N2 (D.sl a_1 0 es_1 c_1)->zO E [.var [.sv none 0 [] 0,.int .i64 0,.int .i64 0]]/\∀ N3,N2<=N3->Q (D.ag [D.lit (.int .i64 n),D.sl Option.none 2 [] 0]) a es c n_1 n_2 N3):=fun E es i hcu a c h N1 hN1=>
  sB (l:=[1,1,2]) hcu (by decide) (by decide) a c h 3 3 N1 _ fun k a' es' c' i' h' N2 hN2 hc' _ _ _ _=>⟨zZ,fun N3 hN3=>hQ _ _ _ _ _ _ _ (by omega) hc' ((zIk k).mono (by omega)) ⟨_,_,_,_,rfl,rfl,by simp⟩⟩
 refine tL N n a es c i h Q fun E _=>Br.dec (fun _ N1 hN1=>pk E hcu _ _ _ N1 hN1) fun hlt N1 hN1=>rS hcu 2 (by omega) a c h N1 _ fun b1 a1 es1 c1 i1 h1 N2 hN2 hc1 _ _=>Br.of (fun _ N3 hN3=>pk E hc1 _ _ _ N3 (by omega)) fun _ N3 hN3=>?_
 refine rS hc1 2 (by omega) a1 c1 h1 N3 _ fun b2 a2 es2 c2 i2 h2 N4 hN4 hc2 _ _=>Br.of (fun _ N5 hN5=>?_) fun _ N5 hN5=>?_
 ·rw [i64_in (n - 1) (by omega)]
  exact ih (n - 1) (by omega) hc2 a2 c2 h2 N5 _ fun d a3 es3 c3 i3 h3 N6 hN6 hc3 hd _ _ _ _ N7 hN7=>zLZ (by omega) hd N7 _ fun e N8 hN8 he hx _ _=>⟨zZ,fun N9 hN9=>hQ _ _ _ _ _ _ _ (by omega) hc3 (he.mono (by omega)) hx⟩
 ·rw [i64_in (n - 1) (by omega)]
  refine ih (n - 1) (by omega) hc2 a2 c2 h2 N5 _ fun d a3 es3 c3 i3 h3 N6 hN6 hc3 hd _ _ _ _ N7 hN7=>?_
  exact ih (n - 1) (by omega) hc3 a3 c3 h3 N7 _ fun d2 a4 es4 c4 i4 h4 N8 hN8 hc4 hd2 _ _ _ _ N9 hN9=>zOZ (by omega) hd hd2 N9 _ fun e N10 hN10 he hx _ _=>⟨zZ,fun N11 hN11=>hQ _ _ _ _ _ _ _ (by omega) hc4 he hx⟩
theorem zHc:TyC 2 3:=zH8 (b:=1) (by omega) (by omega) (by omega) zQo
theorem zO2:TyC 4 15:=zH8 (b:=3) (by omega) (by omega) (by omega) (zH8 (b:=2) (by omega) (by omega) (by omega) zHc)
theorem zPA {es:List D} {i:Int} (hcu:Cu es i) (a:Option Addr) (c:Nat) (h:Int) (N:Nat) (Q:QT [.ag 2,.sl 0,.int .i64,.int .i64])
  (hQ:∀ d' a' es' c' i' h' N',N<=N'->Cu es' i'->SmT 200 d'->Q d' a' es' c' i' h' N'):BCalls prog 156 [.ag 2,.sl 0,.int .i64,.int .i64] [.pb 0 0 0 0] [.var [.sv a 0 es c,.int .i64 i,.int .i64 h]] N Q:=by
 refine zA7 N a es c i h Q fun E _ N1 hN1=>zO2 4 (by omega) hcu a c h N1 _ fun d a1 es1 c1 i1 h1 N2 hN2 hc1 hd hx _ _ _ N3 hN3=>?_
 have lc:∀ (m:Nat) (y:D) (a es c i h) (N':Nat) (n4 n5:Int),n4<=n5+m->0<=n5->n4<=1000->m<=6->N<=N'->Cu es i->SmT (21 - m) y->xX E Q N n4 n5 a es c i h 0 none [] 0 y N':=by
  intro m
  induction m with
  | zero=>
    intro y a es c i h N' n4 n5 h1 h2 h5 h6 h3 hcu hy
    exact tQ _ _ _ _ _ _ _ _ _ _ _ _ _ _ _ _ (Br.dec (fun g=>by omega) fun _=>⟨zZ,fun N4 hN4=>hQ _ _ _ _ _ _ _ (by omega) hcu (hy.mono (by omega))⟩)
  | succ m ihm=>
    intro y a es c i h N' n4 n5 h1 h2 h5 h6 h3 hcu hy
    refine tQ _ _ _ _ _ _ _ _ _ _ _ _ _ _ _ _ (Br.dec (fun g N4 hN4=>zLZ (by omega) hy N4 _ fun e N5 hN5 he _ _ _=>?_) fun _=>⟨zZ,fun N4 hN4=>hQ _ _ _ _ _ _ _ (by omega) hcu (hy.mono (by omega))⟩)
    rw [i64_in (n5+1) (by omega)]
    exact ihm _ _ _ _ _ _ _ _ _ (by omega) (by omega) (by omega) (by omega) (by omega) hcu (he.mono (by omega))
 have lf:∀ (m k:Nat) (y:D) (a es c i h) (N':Nat),m+k=3->N<=N'->Cu es i->SmT (16*2 ^ k - 1) y->xW E Q N k a es c i h 0 none [] 0 y N':=by
  have p3:∀ k:Nat,k<=3->2 ^ k<=8:=fun k hk=>by rcases (by omega:k=0\/k=1\/k=2\/k=3) with rfl | rfl | rfl | rfl<;>decide
  intro m
  induction m with
  | zero=>
    intro k y a es c i h N' h1 h3 hcu hy
    have:=p3 k (by omega)
    exact tI _ _ _ _ _ _ _ _ _ _ _ _ _ _ _ (Br.dec (fun g=>by omega) fun _=>⟨zZ,fun N4 hN4=>hQ _ _ _ _ _ _ _ (by omega) hcu (hy.mono (by omega))⟩)
  | succ m ihm=>
    intro k y a es c i h N' h1 h3 hcu hy
    have:=p3 k (by omega)
    have h0:1<=2 ^ k:=Nat.one_le_two_pow
    refine tI _ _ _ _ _ _ _ _ _ _ _ _ _ _ _ (Br.dec (fun g N4 hN4=>zOZ (by omega) hy hy N4 _ fun e N5 hN5 he _ _ _=>?_) fun _=>⟨zZ,fun N4 hN4=>hQ _ _ _ _ _ _ _ (by omega) hcu (hy.mono (by omega))⟩)
    rw [i64_in ((k:Int)+1) (by omega)]
    exact ihm (k+1) _ _ _ _ _ _ _ (by omega) (by omega) hcu (he.mono (by rw [Nat.pow_succ];omega))
 obtain ⟨k,ra,rs,rc,rfl,hrc,hrl⟩:=hx
 obtain ⟨t,ht,htc⟩:=hd
 obtain ⟨k',l,rfl⟩:∃ k l,t=Ty.mk k l:=by cases t;exact ⟨_,_,rfl⟩
 obtain ⟨_,_,_,he,hl,hall⟩:=Ty.is_mk.1 ht
 cases he
 simp only [Ty.cnt] at htc
 refine yW hc1 10 (by omega) a1 c1 h1 N3 _ fun x a2 es2 c2 i2 h2 N4 hN4 hc2 _ _ _ _ _=>Br.beq (fun _ N5 hN5=>?_) fun _=>Br.beq (fun _=>⟨_,_,_,rfl,fun N5 hN5=>?_⟩) fun _=>Br.beq (fun _ N5 hN5=>?_) fun _=>Br.beq (fun _=>?_) fun _=>⟨zZ,fun N5 hN5=>hQ _ _ _ _ _ _ _ (by omega) hc2 ⟨_,ht,by simp only [Ty.cnt];omega⟩⟩
 ·exact yW hc2 6 (by omega) a2 c2 h2 N5 _ fun y a3 es3 c3 i3 h3 N6 hN6 hc3 _ _ _ _ _=>⟨zZ,fun N7 hN7=>hQ _ _ _ _ _ _ _ (by omega) hc3 ⟨.mk y l,Ty.is_mk.2 ⟨_,_,_,rfl,hl,hall⟩,by simp only [Ty.cnt];omega⟩⟩
 ·refine wl N5 _ fun y N6 hN6 hy _ _ _=>⟨?_,by unfold zB;rw [oH];simp only [oP,od];omega,fun c4=>⟨⟨rfl,rfl⟩,⟨rfl,rfl⟩,⟨rfl,rfl⟩,⟨rfl,rfl⟩,fun a4 N7 hN7 _=>⟨zZ,fun N8 hN8=>hQ _ _ _ _ _ _ _ (by omega) hc2 ⟨.mk k (l++[tInt]),Ty.is_mk.2 ⟨_,_,_,rfl,by simp;omega,hall.snoc hy⟩,?_⟩⟩⟩⟩
  ·unfold zOR
   split
   ·trivial
   ·exact ⟨hrc,by simp⟩
  ·have:zT (l++[tInt])=zT l+1:=by
    clear ht htc hall hl
    induction l with
    | nil=>rfl
    | cons u l ihl=>simp only [nA,zT,ihl];omega
   simp only [Ty.cnt]
   omega
 ·refine yW hc2 6 (by omega) a2 c2 h2 N5 _ fun y a3 es3 c3 i3 h3 N6 hN6 hc3 y0 y1 _ _ _=>?_
  have y1:=y1 (by omega)
  rw [i64_in (1+y) (by omega)]
  exact lc 6 _ _ _ _ _ _ _ _ _ (by omega) (by omega) (by omega) (by omega) (by omega) hc3 ⟨_,ht,by simp only [Ty.cnt];omega⟩
 ·exact lf 3 0 _ _ _ _ _ _ _ (by omega) (by omega) hc2 ⟨_,ht,by simp only [Ty.cnt];omega⟩
/-- the cells of some term, but for its kind and number and the place of its row -/
def PkT (m:Nat) (s s1:ByteArray) (x x1 x2 x3:D) (es:List D):Prop:=∃ (ty re:Ty) (l:List Tm),s.size<=4611686018427387904/\s1.size<=4611686018427387904/\ty.Is (.ag [x,x1])/\re.Is (.ag [x2,x3])/\All2 Tm.Is l es/\es.length<=1000/\1+ty.cnt+re.cnt+zI l<=m
theorem PkT.some {m:Nat} {s s1:ByteArray} {x x1 x2 x3:D} {es:List D} (h:PkT m s s1 x x1 x2 x3 es) (k n:Int) (a:Option Addr) (c:Nat):Some m (.ag [.lit (.int .i64 k),.lit (.string s),.lit (.string s1),.lit (.int .i64 n),x,x1,x2,x3,.sl a 9 es c]):=by
 obtain ⟨ty,re,l,h1,h2,h3,h4,h5,h6,h7⟩:=h
 exact ⟨.mk k s s1 n ty re l,Tm.is_mk.2 ⟨_,_,_,_,_,_,_,rfl,⟨h1,h2,h3,h4⟩,by omega,h5⟩,by simpa only [Tm.cnt] using h7⟩
theorem PkT.mono {m n:Nat} {s s1:ByteArray} {x x1 x2 x3:D} {es:List D} (h:PkT m s s1 x x1 x2 x3 es) (hn:m<=n):PkT n s s1 x x1 x2 x3 es:=by
 obtain ⟨ty,re,l,h1,h2,h3,h4,h5,h6,h7⟩:=h
 exact ⟨ty,re,l,h1,h2,h3,h4,h5,h6,by omega⟩
theorem PkT.name {m:Nat} {s s1:ByteArray} {x x1 x2 x3:D} {es:List D} (h:PkT m s s1 x x1 x2 x3 es) {t:ByteArray} (ht:t.size<=1000):PkT m t s1 x x1 x2 x3 es:=by
 obtain ⟨ty,re,l,h1,h2,h3,h4,h5,h6,h7⟩:=h
 exact ⟨ty,re,l,by omega,h2,h3,h4,h5,h6,h7⟩
theorem PkT.other {m:Nat} {s s1:ByteArray} {x x1 x2 x3:D} {es:List D} (h:PkT m s s1 x x1 x2 x3 es) {t:ByteArray} (ht:t.size<=1000):PkT m s t x x1 x2 x3 es:=by
 obtain ⟨ty,re,l,h1,h2,h3,h4,h5,h6,h7⟩:=h
 exact ⟨ty,re,l,h1,by omega,h3,h4,h5,h6,h7⟩
theorem PkT.type {m M:Nat} {s s1:ByteArray} {x x1 x2 x3 y y1:D} {es:List D} (h:PkT m s s1 x x1 x2 x3 es) (hy:SmT M (.ag [y,y1])):PkT (m+M) s s1 y y1 x2 x3 es:=by
 obtain ⟨ty,re,l,h1,h2,h3,h4,h5,h6,h7⟩:=h
 obtain ⟨t,h8,h9⟩:=hy
 exact ⟨t,re,l,h1,h2,h8,h4,h5,h6,by omega⟩
theorem zCb (t:Tm):∀ l:List Tm,zI (l++[t])=zI l+t.cnt
 | []=>by simp [zI]
 | x::l=>by simp only [nA,zI,zCb t l];omega
theorem PkT.snoc {m M:Nat} {s s1:ByteArray} {x x1 x2 x3 d:D} {es:List D} (h:PkT m s s1 x x1 x2 x3 es) (hd:Some M d) (hl:es.length<=999):PkT (m+M) s s1 x x1 x2 x3 (es++[d]):=by
 obtain ⟨ty,re,l,h1,h2,h3,h4,h5,h6,h7⟩:=h
 obtain ⟨t,h8,h9⟩:=hd
 exact ⟨ty,re,l++[t],h1,h2,h3,h4,h5.snoc h8,by simp;omega,by rw [zCb];omega⟩
theorem zEO {s s1:ByteArray} (hs:s.size<=1000) (hs1:s1.size<=1000) {x x1 x2 x3:D} (h1:SmT 7 (.ag [x,x1])) (h2:SmT 7 (.ag [x2,x3])):PkT 15 s s1 x x1 x2 x3 []:=by
 obtain ⟨t,h3,h4⟩:=h1
 obtain ⟨u,h5,h6⟩:=h2
 exact ⟨t,u,[],by omega,by omega,h3,h5,rfl,by simp,by simp only [zI];omega⟩
theorem zIJ:SmT 7 (.ag [D.lit (.int .i64 0),D.sl none 2 [] 0]):=(zIk 0).mono (by omega)
theorem zNF (s:ByteArray):zFJ s<=3:=by
 unfold zFJ
 repeat' split
 all_goals decide
theorem tu (k:Int) (s:ByteArray):zDY k s<=3:=by
 unfold zDY
 have:=zNF s
 repeat' split
 all_goals first | omega | decide
def zJG (b:Int) (X:Nat):Prop:=∀ (n:Int),n<=b->∀ {es:List D} {i:Int} (_:Cu es i) (a:Option Addr) (c:Nat) (h:Int) (N:Nat) (Q:QT [.pk,.int .i64,.str,.str,.int .i64,.dc,.dc,.dc,.dc,.row 30 9,.sl 0,.int .i64,.int .i64])
    (_:∀ k s s1 n' x x1 x2 x3 r q a' es' c' i' h' N',N<=N'->Cu es' i'->PkT X s s1 x x1 x2 x3 r->r.length<=3->Q k s s1 n' x x1 x2 x3 r q a' es' c' i' h' N'),BCalls prog 154 [.pk,.int .i64,.str,.str,.int .i64,.dc,.dc,.dc,.dc,.row 30 9,.sl 0,.int .i64,.int .i64] [.pb 0 0 0 0,.int .i64 n] [.var [.sv a 0 es c,.int .i64 i,.int .i64 h]] N Q
theorem zOS {es:List D} {i:Int} (hcu:Cu es i) (a:Option Addr) (c:Nat) (h:Int) (N:Nat) (Q:QT [.pk,.int .i64,.str,.str,.int .i64,.dc,.dc,.dc,.dc,.row 30 9,.sl 0,.int .i64,.int .i64])
  (hQ:∀ k s s1 n' x x1 x2 x3 r q a' es' c' i' h' N',N<=N'->Cu es' i'->PkT 15 s s1 x x1 x2 x3 r->r.length<=3->Q k s s1 n' x x1 x2 x3 r q a' es' c' i' h' N'):BCalls prog 203 [.pk,.int .i64,.str,.str,.int .i64,.dc,.dc,.dc,.dc,.row 30 9,.sl 0,.int .i64,.int .i64] [.pb 0 0 0 0] [.var [.sv a 0 es c,.int .i64 i,.int .i64 h]] N Q:=by
 have z:PkT 15 (bytes []) (bytes []) (D.lit (.int .i64 0)) (D.sl none 2 [] 0) (D.lit (.int .i64 0)) (D.sl none 2 [] 0) []:=zEO (by decide) (by decide) zIJ zIJ
 refine zBV N a es c i h Q fun E _ N1 hN1=>yW hcu 4 (by omega) a c h N1 _ fun x a1 es1 c1 i1 h1 N2 hN2 hc1 _ _ _ _ _=>Br.beq (fun _ N3 hN3=>?_) fun _=>Br.beq (fun _ N3 hN3=>?_) fun _ N3 hN3=>?_
 ·exact sB (l:=[0,1,2,3,10006]) hc1 (by decide) (by decide) a1 c1 h1 5 5 N3 _ fun k a2 es2 c2 i2 h2 N4 hN4 hc2 _ _ _ _ N5 hN5=>zDd N5 k _ fun N6 hN6 _ _=>⟨zZ,⟨rfl,rfl⟩,fun N7 hN7=>hQ _ _ _ _ _ _ _ _ _ _ _ _ _ _ _ _ (by omega) hc2 z (by simp)⟩
 ·exact yW hc1 2 (by omega) a1 c1 h1 N3 _ fun k a2 es2 c2 i2 h2 N4 hN4 hc2 _ _ _ _ _ N5 hN5=>zB0 N5 k _ fun N6 hN6 _ _=>⟨zZ,⟨rfl,rfl⟩,fun N7 hN7=>hQ _ _ _ _ _ _ _ _ _ _ _ _ _ _ _ _ (by omega) hc2 z (by simp)⟩
 ·refine ud (l:=[bytes [120],bytes [121],bytes [102]]) hc1 (by decide) (by decide) a1 c1 h1 3 3 N3 _ fun s a2 es2 c2 i2 h2 N4 hN4 hc2 hs _ _ _ N5 hN5=>rT N5 s _ fun N6 hN6 _ _=>⟨zZ,⟨rfl,rfl⟩,fun N7 hN7=>hQ _ _ _ _ _ _ _ _ _ _ _ _ _ _ _ _ (by omega) hc2 (z.name ?_) (by simp)⟩
  simp only [oG,nN,mi] at hs
  rcases hs with rfl | rfl | rfl<;>decide
theorem zO0:zJG 1 15:=fun n hn es i hcu a c h N Q hQ=>sQ N n a es c i h Q fun E _=>Br.dec (fun _ N1 hN1=>zOS hcu a c h N1 _ fun k s s1 n' x x1 x2 x3 r q a' es' c' i' h' N2 hN2 hc' hp hr _ _ _=>⟨zZ,⟨rfl,rfl⟩,fun N3 hN3=>hQ _ _ _ _ _ _ _ _ _ _ _ _ _ _ _ _ (by omega) hc' hp hr⟩) fun g=>absurd (by omega) g
theorem zRS {b:Int} {X:Nat} (hb:b<=1000) (hX:15<=X) (ih:zJG b X) {E:Env} {N:Nat} {Q:QT [.pk,.int .i64,.str,.str,.int .i64,.dc,.dc,.dc,.dc,.row 30 9,.sl 0,.int .i64,.int .i64]} {n:Int} (hn:n - 1<=b) (hn2:2<=n) (kd n3:Int) (s s1:ByteArray) (x4 x5 x6 x7:D) {m6:Int} (hm:m6<=3)
  (hQ:∀ r q a es c i h N',N<=N'->Cu es i->PkT (15+3*X) s s1 x4 x5 x6 x7 r->r.length<=3->Q kd s s1 n3 x4 x5 x6 x7 r q a es c i h N') :
  ∀ (rem k:Nat) (r:List D) (q:Nat) a es c i h N',m6<=k+rem->k<=3->r.length=k->N<=N'->Cu es i->PkT (15+k*X) s s1 x4 x5 x6 x7 r->xw E Q N n m6 k a es c i h 0 (bytes []) (bytes []) 0 0 none [] 0 0 none [] 0 none [] 0 kd s s1 n3 x4 x5 x6 x7 r.length q r q N':=by
 intro rem
 induction rem with
 | zero=>
   intro k r q a es c i h N' h1 h2 h3 h4 hcu hp
   have hk:k*X<=3*X:=oh _ h2
   refine t5 _ _ _ _ _ _ _ _ _ _ _ _ _ _ _ _ _ _ _ _ _ _ _ _ _ _ _ _ _ _ _ _ _ _ _ _ _ _ _ (Br.dec (fun g=>by omega) fun _=>⟨zZ,⟨rfl,rfl⟩,fun N4 hN4=>hQ _ _ _ _ _ _ _ _ (by omega) hcu (hp.mono (by omega)) (by omega)⟩)
 | succ rem ihr=>
   intro k r q a es c i h N' h1 h2 h3 h4 hcu hp
   have hk:k*X<=3*X:=oh _ h2
   refine t5 _ _ _ _ _ _ _ _ _ _ _ _ _ _ _ _ _ _ _ _ _ _ _ _ _ _ _ _ _ _ _ _ _ _ _ _ _ _ _ (Br.dec (fun g N1 hN1=>?_) fun _=>⟨zZ,⟨rfl,rfl⟩,fun N4 hN4=>hQ _ _ _ _ _ _ _ _ (by omega) hcu (hp.mono (by omega)) (by omega)⟩)
   rw [i64_in (n - 1) (by omega)]
   refine ih (n - 1) hn hcu a c h N1 _ fun k' t t1 n' y y1 y2 y3 es' c' a' es2 c2 i2 h2 N2 hN2 hc2 hp2 _ _ _ _=>⟨⟨rfl,rfl⟩,fun a1 N3 hN3 _=>⟨⟨rfl,rfl⟩,by unfold zB;rw [oH];simp only [oP,od];omega,fun c3=>?_⟩⟩
   rw [i64_in ((k:Int)+1) (by omega)]
   exact ihr (k+1) _ c3 _ _ _ _ _ _ (by omega) (by omega) (by simp [h3]) (by omega) hc2 ((hp.snoc (hp2.some _ _ _ _) (by omega)).mono (by rw [Nat.succ_mul];omega))
theorem zRY {b:Int} {X:Nat} (hb:b<=1000) (hX:15<=X) (ih:zJG b X) {E:Env} {N:Nat} {Q:QT [.pk,.int .i64,.str,.str,.int .i64,.dc,.dc,.dc,.dc,.row 30 9,.sl 0,.int .i64,.int .i64]} {n:Int} (hn:n - 1<=b) (hn2:2<=n) (kd n3:Int) {s s1:ByteArray} (hs:s.size<=1000) (hs1:s1.size<=1000) (x4 x5 x6 x7:D) (hT:SmT 7 (.ag [x4,x5])) (hR:SmT 7 (.ag [x6,x7]))
  (hQ:∀ k s s1 n' x x1 x2 x3 r q a es c i h N',N<=N'->Cu es i->PkT (15+3*X) s s1 x x1 x2 x3 r->r.length<=3->Q k s s1 n' x x1 x2 x3 r q a es c i h N') {es:List D} {i:Int} (hcu:Cu es i) (a:Option Addr) (c:Nat) (h:Int) {N':Nat} (hN':N<=N') :
  va E Q N n a es c i h 0 (bytes []) (bytes []) 0 0 none [] 0 0 none [] 0 none [] 0 kd s s1 n3 x4 x5 x6 x7 0 0 [] 0 N':=by
 refine zBo _ _ _ _ _ _ _ _ _ _ _ _ _ _ _ _ _ _ _ _ _ _ _ _ _ _ _ _ _ _ _ _ _ _ _ _ _ ⟨⟨rfl,rfl⟩,fun a7 _ N1 hN1 _=>xP N1 _ fun N2 hN2 _=>zRS hb hX ih hn hn2 kd n3 s s1 x4 x5 x6 x7 (tu _ _) (fun r q a es c i h N'=>hQ _ _ _ _ _ _ _ _ r q a es c i h N') 3 0 [] 0 a es c i h N2 (by have:=tu kd s;omega) (by omega) rfl (by omega) hcu ((zEO hs hs1 hT hR).mono (by omega))⟩
theorem zM2 {b:Int} {X:Nat} (hb:b<=1000) (hX:15<=X) (ih:zJG b X) {E:Env} {N:Nat} {Q:QT [.pk,.int .i64,.str,.str,.int .i64,.dc,.dc,.dc,.dc,.row 30 9,.sl 0,.int .i64,.int .i64]} {n:Int} (hn:n - 1<=b) (hn2:2<=n) (kd n3:Int) (s s1:ByteArray) (x4 x5:D) {m6:Int} (hm:m6<=3)
  (hQ:∀ r q a es c i h N',N<=N'->Cu es i->PkT (15+3*X) s s1 x4 x5 (D.lit (.int .i64 0)) (D.sl none 2 [] 0) r->r.length<=3->Q kd s s1 n3 x4 x5 (D.lit (.int .i64 0)) (D.sl none 2 [] 0) r q a es c i h N') :
  ∀ (rem k:Nat) (r:List D) (q:Nat) a es c i h N',m6<=k+rem->k<=3->r.length=k->N<=N'->Cu es i->PkT (15+k*X) s s1 x4 x5 (D.lit (.int .i64 0)) (D.sl none 2 [] 0) r->yv E Q N n m6 k a es c i h 0 (bytes []) (bytes []) 0 0 none [] 0 0 none [] 0 none [] 0 kd s s1 n3 x4 x5 0 none [] 0 r.length q r q N':=by
 intro rem
 induction rem with
 | zero=>
   intro k r q a es c i h N' h1 h2 h3 h4 hcu hp
   have hk:k*X<=3*X:=oh _ h2
   refine vq _ _ _ _ _ _ _ _ _ _ _ _ _ _ _ _ _ _ _ _ _ _ _ _ _ _ _ _ _ _ _ _ _ _ _ _ _ _ _ _ _ (Br.dec (fun g=>by omega) fun _=>⟨zZ,⟨rfl,rfl⟩,fun N4 hN4=>hQ _ _ _ _ _ _ _ _ (by omega) hcu (hp.mono (by omega)) (by omega)⟩)
 | succ rem ihr=>
   intro k r q a es c i h N' h1 h2 h3 h4 hcu hp
   have hk:k*X<=3*X:=oh _ h2
   refine vq _ _ _ _ _ _ _ _ _ _ _ _ _ _ _ _ _ _ _ _ _ _ _ _ _ _ _ _ _ _ _ _ _ _ _ _ _ _ _ _ _ (Br.dec (fun g N1 hN1=>?_) fun _=>⟨zZ,⟨rfl,rfl⟩,fun N4 hN4=>hQ _ _ _ _ _ _ _ _ (by omega) hcu (hp.mono (by omega)) (by omega)⟩)
   rw [i64_in (n - 1) (by omega)]
   refine ih (n - 1) hn hcu a c h N1 _ fun k' t t1 n' y y1 y2 y3 es' c' a' es2 c2 i2 h2 N2 hN2 hc2 hp2 _ _ _ _=>⟨⟨rfl,rfl⟩,fun a1 N3 hN3 _=>⟨⟨rfl,rfl⟩,by unfold zB;rw [oH];simp only [oP,od];omega,fun c3=>?_⟩⟩
   rw [i64_in ((k:Int)+1) (by omega)]
   exact ihr (k+1) _ c3 _ _ _ _ _ _ (by omega) (by omega) (by simp [h3]) (by omega) hc2 ((hp.snoc (hp2.some _ _ _ _) (by omega)).mono (by rw [Nat.succ_mul];omega))
theorem zM4 {b:Int} {X:Nat} (hb:b<=1000) (hX:15<=X) (ih:zJG b X) {E:Env} {N:Nat} {Q:QT [.pk,.int .i64,.str,.str,.int .i64,.dc,.dc,.dc,.dc,.row 30 9,.sl 0,.int .i64,.int .i64]} {n:Int} (hn:n - 1<=b) (hn2:2<=n) (kd n3:Int) {s s1:ByteArray} (hs:s.size<=1000) (hs1:s1.size<=1000) (x4 x5:D) (hT:SmT 7 (.ag [x4,x5])) (hR:SmT 7 (.ag [(D.lit (.int .i64 0)),(D.sl none 2 [] 0)]))
  (hQ:∀ k s s1 n' x x1 x2 x3 r q a es c i h N',N<=N'->Cu es i->PkT (15+3*X) s s1 x x1 x2 x3 r->r.length<=3->Q k s s1 n' x x1 x2 x3 r q a es c i h N') {es:List D} {i:Int} (hcu:Cu es i) (a:Option Addr) (c:Nat) (h:Int) {N':Nat} (hN':N<=N') :
  wL E Q N n a es c i h 0 (bytes []) (bytes []) 0 0 none [] 0 0 none [] 0 none [] 0 kd s s1 n3 x4 x5 0 none [] 0 0 0 [] 0 N':=by
 refine pP _ _ _ _ _ _ _ _ _ _ _ _ _ _ _ _ _ _ _ _ _ _ _ _ _ _ _ _ _ _ _ _ _ _ _ _ _ _ _ ⟨⟨rfl,rfl⟩,fun a7 _ N1 hN1 _=>xP N1 _ fun N2 hN2 _=>zM2 hb hX ih hn hn2 kd n3 s s1 x4 x5 (tu _ _) (fun r q a es c i h N'=>hQ _ _ _ _ _ _ _ _ r q a es c i h N') 3 0 [] 0 a es c i h N2 (by have:=tu kd s;omega) (by omega) rfl (by omega) hcu ((zEO hs hs1 hT hR).mono (by omega))⟩
theorem zNW {b:Int} {X:Nat} (hb:b<=1000) (hX:15<=X) (ih:zJG b X) {E:Env} {N:Nat} {Q:QT [.pk,.int .i64,.str,.str,.int .i64,.dc,.dc,.dc,.dc,.row 30 9,.sl 0,.int .i64,.int .i64]} {n:Int} (hn:n - 1<=b) (hn2:2<=n) (kd n3:Int) (s s1:ByteArray) (x6 x7:D) {m6:Int} (hm:m6<=3)
  (hQ:∀ r q a es c i h N',N<=N'->Cu es i->PkT (15+3*X) s s1 (D.lit (.int .i64 0)) (D.sl none 2 [] 0) x6 x7 r->r.length<=3->Q kd s s1 n3 (D.lit (.int .i64 0)) (D.sl none 2 [] 0) x6 x7 r q a es c i h N') :
  ∀ (rem k:Nat) (r:List D) (q:Nat) a es c i h N',m6<=k+rem->k<=3->r.length=k->N<=N'->Cu es i->PkT (15+k*X) s s1 (D.lit (.int .i64 0)) (D.sl none 2 [] 0) x6 x7 r->yn E Q N n m6 k a es c i h 0 (bytes []) (bytes []) 0 0 none [] 0 0 none [] 0 none [] 0 kd s s1 n3 0 none [] 0 x6 x7 r.length q r q N':=by
 intro rem
 induction rem with
 | zero=>
   intro k r q a es c i h N' h1 h2 h3 h4 hcu hp
   have hk:k*X<=3*X:=oh _ h2
   refine v5 _ _ _ _ _ _ _ _ _ _ _ _ _ _ _ _ _ _ _ _ _ _ _ _ _ _ _ _ _ _ _ _ _ _ _ _ _ _ _ _ _ (Br.dec (fun g=>by omega) fun _=>⟨zZ,⟨rfl,rfl⟩,fun N4 hN4=>hQ _ _ _ _ _ _ _ _ (by omega) hcu (hp.mono (by omega)) (by omega)⟩)
 | succ rem ihr=>
   intro k r q a es c i h N' h1 h2 h3 h4 hcu hp
   have hk:k*X<=3*X:=oh _ h2
   refine v5 _ _ _ _ _ _ _ _ _ _ _ _ _ _ _ _ _ _ _ _ _ _ _ _ _ _ _ _ _ _ _ _ _ _ _ _ _ _ _ _ _ (Br.dec (fun g N1 hN1=>?_) fun _=>⟨zZ,⟨rfl,rfl⟩,fun N4 hN4=>hQ _ _ _ _ _ _ _ _ (by omega) hcu (hp.mono (by omega)) (by omega)⟩)
   rw [i64_in (n - 1) (by omega)]
   refine ih (n - 1) hn hcu a c h N1 _ fun k' t t1 n' y y1 y2 y3 es' c' a' es2 c2 i2 h2 N2 hN2 hc2 hp2 _ _ _ _=>⟨⟨rfl,rfl⟩,fun a1 N3 hN3 _=>⟨⟨rfl,rfl⟩,by unfold zB;rw [oH];simp only [oP,od];omega,fun c3=>?_⟩⟩
   rw [i64_in ((k:Int)+1) (by omega)]
   exact ihr (k+1) _ c3 _ _ _ _ _ _ (by omega) (by omega) (by simp [h3]) (by omega) hc2 ((hp.snoc (hp2.some _ _ _ _) (by omega)).mono (by rw [Nat.succ_mul];omega))
theorem zM5 {b:Int} {X:Nat} (hb:b<=1000) (hX:15<=X) (ih:zJG b X) {E:Env} {N:Nat} {Q:QT [.pk,.int .i64,.str,.str,.int .i64,.dc,.dc,.dc,.dc,.row 30 9,.sl 0,.int .i64,.int .i64]} {n:Int} (hn:n - 1<=b) (hn2:2<=n) (kd n3:Int) {s s1:ByteArray} (hs:s.size<=1000) (hs1:s1.size<=1000) (x6 x7:D) (hT:SmT 7 (.ag [(D.lit (.int .i64 0)),(D.sl none 2 [] 0)])) (hR:SmT 7 (.ag [x6,x7]))
  (hQ:∀ k s s1 n' x x1 x2 x3 r q a es c i h N',N<=N'->Cu es i->PkT (15+3*X) s s1 x x1 x2 x3 r->r.length<=3->Q k s s1 n' x x1 x2 x3 r q a es c i h N') {es:List D} {i:Int} (hcu:Cu es i) (a:Option Addr) (c:Nat) (h:Int) {N':Nat} (hN':N<=N') :
  wO E Q N n a es c i h 0 (bytes []) (bytes []) 0 0 none [] 0 0 none [] 0 none [] 0 kd s s1 n3 0 none [] 0 x6 x7 0 0 [] 0 N':=by
 refine qV _ _ _ _ _ _ _ _ _ _ _ _ _ _ _ _ _ _ _ _ _ _ _ _ _ _ _ _ _ _ _ _ _ _ _ _ _ _ _ ⟨⟨rfl,rfl⟩,fun a7 _ N1 hN1 _=>xP N1 _ fun N2 hN2 _=>zNW hb hX ih hn hn2 kd n3 s s1 x6 x7 (tu _ _) (fun r q a es c i h N'=>hQ _ _ _ _ _ _ _ _ r q a es c i h N') 3 0 [] 0 a es c i h N2 (by have:=tu kd s;omega) (by omega) rfl (by omega) hcu ((zEO hs hs1 hT hR).mono (by omega))⟩
theorem zMt {b:Int} {X:Nat} (hb:b<=1000) (hX:15<=X) (ih:zJG b X) {E:Env} {N:Nat} {Q:QT [.pk,.int .i64,.str,.str,.int .i64,.dc,.dc,.dc,.dc,.row 30 9,.sl 0,.int .i64,.int .i64]} {n:Int} (hn:n - 1<=b) (hn2:2<=n) (kd n3:Int) (s s1:ByteArray) {m6:Int} (hm:m6<=3)
  (hQ:∀ r q a es c i h N',N<=N'->Cu es i->PkT (15+3*X) s s1 (D.lit (.int .i64 0)) (D.sl none 2 [] 0) (D.lit (.int .i64 0)) (D.sl none 2 [] 0) r->r.length<=3->Q kd s s1 n3 (D.lit (.int .i64 0)) (D.sl none 2 [] 0) (D.lit (.int .i64 0)) (D.sl none 2 [] 0) r q a es c i h N') :
  ∀ (rem k:Nat) (r:List D) (q:Nat) a es c i h N',m6<=k+rem->k<=3->r.length=k->N<=N'->Cu es i->PkT (15+k*X) s s1 (D.lit (.int .i64 0)) (D.sl none 2 [] 0) (D.lit (.int .i64 0)) (D.sl none 2 [] 0) r->ym E Q N n m6 k a es c i h 0 (bytes []) (bytes []) 0 0 none [] 0 0 none [] 0 none [] 0 kd s s1 n3 0 none [] 0 0 none [] 0 r.length q r q N':=by
 intro rem
 induction rem with
 | zero=>
   intro k r q a es c i h N' h1 h2 h3 h4 hcu hp
   have hk:k*X<=3*X:=oh _ h2
   refine vp _ _ _ _ _ _ _ _ _ _ _ _ _ _ _ _ _ _ _ _ _ _ _ _ _ _ _ _ _ _ _ _ _ _ _ _ _ _ _ _ _ _ _ (Br.dec (fun g=>by omega) fun _=>⟨zZ,⟨rfl,rfl⟩,fun N4 hN4=>hQ _ _ _ _ _ _ _ _ (by omega) hcu (hp.mono (by omega)) (by omega)⟩)
 | succ rem ihr=>
   intro k r q a es c i h N' h1 h2 h3 h4 hcu hp
   have hk:k*X<=3*X:=oh _ h2
   refine vp _ _ _ _ _ _ _ _ _ _ _ _ _ _ _ _ _ _ _ _ _ _ _ _ _ _ _ _ _ _ _ _ _ _ _ _ _ _ _ _ _ _ _ (Br.dec (fun g N1 hN1=>?_) fun _=>⟨zZ,⟨rfl,rfl⟩,fun N4 hN4=>hQ _ _ _ _ _ _ _ _ (by omega) hcu (hp.mono (by omega)) (by omega)⟩)
   rw [i64_in (n - 1) (by omega)]
   refine ih (n - 1) hn hcu a c h N1 _ fun k' t t1 n' y y1 y2 y3 es' c' a' es2 c2 i2 h2 N2 hN2 hc2 hp2 _ _ _ _=>⟨⟨rfl,rfl⟩,fun a1 N3 hN3 _=>⟨⟨rfl,rfl⟩,by unfold zB;rw [oH];simp only [oP,od];omega,fun c3=>?_⟩⟩
   rw [i64_in ((k:Int)+1) (by omega)]
   exact ihr (k+1) _ c3 _ _ _ _ _ _ (by omega) (by omega) (by simp [h3]) (by omega) hc2 ((hp.snoc (hp2.some _ _ _ _) (by omega)).mono (by rw [Nat.succ_mul];omega))
theorem zMy {b:Int} {X:Nat} (hb:b<=1000) (hX:15<=X) (ih:zJG b X) {E:Env} {N:Nat} {Q:QT [.pk,.int .i64,.str,.str,.int .i64,.dc,.dc,.dc,.dc,.row 30 9,.sl 0,.int .i64,.int .i64]} {n:Int} (hn:n - 1<=b) (hn2:2<=n) (kd n3:Int) {s s1:ByteArray} (hs:s.size<=1000) (hs1:s1.size<=1000) (hT:SmT 7 (.ag [(D.lit (.int .i64 0)),(D.sl none 2 [] 0)])) (hR:SmT 7 (.ag [(D.lit (.int .i64 0)),(D.sl none 2 [] 0)]))
  (hQ:∀ k s s1 n' x x1 x2 x3 r q a es c i h N',N<=N'->Cu es i->PkT (15+3*X) s s1 x x1 x2 x3 r->r.length<=3->Q k s s1 n' x x1 x2 x3 r q a es c i h N') {es:List D} {i:Int} (hcu:Cu es i) (a:Option Addr) (c:Nat) (h:Int) {N':Nat} (hN':N<=N') :
  xn E Q N n a es c i h 0 (bytes []) (bytes []) 0 0 none [] 0 0 none [] 0 none [] 0 kd s s1 n3 0 none [] 0 0 none [] 0 0 0 [] 0 N':=by
 refine qW _ _ _ _ _ _ _ _ _ _ _ _ _ _ _ _ _ _ _ _ _ _ _ _ _ _ _ _ _ _ _ _ _ _ _ _ _ _ _ _ _ ⟨⟨rfl,rfl⟩,fun a7 _ N1 hN1 _=>xP N1 _ fun N2 hN2 _=>zMt hb hX ih hn hn2 kd n3 s s1  (tu _ _) (fun r q a es c i h N'=>hQ _ _ _ _ _ _ _ _ r q a es c i h N') 3 0 [] 0 a es c i h N2 (by have:=tu kd s;omega) (by omega) rfl (by omega) hcu ((zEO hs hs1 hT hR).mono (by omega))⟩
theorem zQR {b:Int} {X:Nat} (hb:b<=1000) (hX:15<=X) (ih:zJG b X) {E:Env} {N:Nat} {Q:QT [.pk,.int .i64,.str,.str,.int .i64,.dc,.dc,.dc,.dc,.row 30 9,.sl 0,.int .i64,.int .i64]} {n:Int} (hn:n - 1<=b) (hn2:2<=n) (kd n3:Int) {s:ByteArray} (hs:s.size<=1000) (x4 x5:D) (hT:SmT 7 (.ag [x4,x5]))
  (hQ:∀ k s s1 n' x x1 x2 x3 r q a es c i h N',N<=N'->Cu es i->PkT (15+3*X) s s1 x x1 x2 x3 r->r.length<=3->Q k s s1 n' x x1 x2 x3 r q a es c i h N') {es:List D} {i:Int} (hcu:Cu es i) (a:Option Addr) (c:Nat) (h:Int) {N':Nat} (hN':N<=N') :
  xl E Q N n a es c i h 0 (bytes []) (bytes []) 0 0 none [] 0 0 none [] 0 none [] 0 kd s (bytes []) n3 x4 x5 0 none [] 0 0 0 [] 0 N':=by
 refine zCP _ _ _ _ _ _ _ _ _ _ _ _ _ _ _ _ _ _ _ _ _ _ _ _ _ _ _ _ _ _ _ _ _ _ _ _ _ _ _ (Br.beq (fun _ N1 hN1=>?_) fun _=>zM4 hb hX ih hn hn2 kd n3 hs (by decide) x4 x5 hT zIJ hQ hcu a c h hN')
 refine ud (l:=[bytes [122],bytes [119]]) hcu (by decide) (by decide) a c h 2 2 N1 _ fun t a1 es1 c1 i1 h1 N2 hN2 hc1 ht _ _ _ N3 hN3=>?_
 have ht:t.size<=1000:=by
  simp only [oG,nN,mi] at ht
  rcases ht with rfl | rfl<;>decide
 exact zHc 2 (by omega) hc1 a1 c1 h1 N3 _ fun d a2 es2 c2 i2 h2 N4 hN4 hc2 hd _ _ _ _=>zRY hb hX ih hn hn2 kd n3 hs ht x4 x5 _ _ hT (hd.cells.mono (by omega)) hQ hc2 a2 c2 h2 (by omega)
theorem zNL {b:Int} {X:Nat} (hb:b<=1000) (hX:15<=X) (ih:zJG b X) {E:Env} {N:Nat} {Q:QT [.pk,.int .i64,.str,.str,.int .i64,.dc,.dc,.dc,.dc,.row 30 9,.sl 0,.int .i64,.int .i64]} {n:Int} (hn:n - 1<=b) (hn2:2<=n) (kd n3:Int) {s:ByteArray} (hs:s.size<=1000) (hT:SmT 7 (.ag [(D.lit (.int .i64 0)),(D.sl none 2 [] 0)]))
  (hQ:∀ k s s1 n' x x1 x2 x3 r q a es c i h N',N<=N'->Cu es i->PkT (15+3*X) s s1 x x1 x2 x3 r->r.length<=3->Q k s s1 n' x x1 x2 x3 r q a es c i h N') {es:List D} {i:Int} (hcu:Cu es i) (a:Option Addr) (c:Nat) (h:Int) {N':Nat} (hN':N<=N') :
  wE E Q N n a es c i h 0 (bytes []) (bytes []) 0 0 none [] 0 0 none [] 0 none [] 0 kd s (bytes []) n3 0 none [] 0 0 none [] 0 0 0 [] 0 N':=by
 refine ry _ _ _ _ _ _ _ _ _ _ _ _ _ _ _ _ _ _ _ _ _ _ _ _ _ _ _ _ _ _ _ _ _ _ _ _ _ _ _ _ _ (Br.beq (fun _ N1 hN1=>?_) fun _=>zMy hb hX ih hn hn2 kd n3 hs (by decide) hT zIJ hQ hcu a c h hN')
 refine ud (l:=[bytes [122],bytes [119]]) hcu (by decide) (by decide) a c h 2 2 N1 _ fun t a1 es1 c1 i1 h1 N2 hN2 hc1 ht _ _ _ N3 hN3=>?_
 have ht:t.size<=1000:=by
  simp only [oG,nN,mi] at ht
  rcases ht with rfl | rfl<;>decide
 exact zHc 2 (by omega) hc1 a1 c1 h1 N3 _ fun d a2 es2 c2 i2 h2 N4 hN4 hc2 hd _ _ _ _=>zM5 hb hX ih hn hn2 kd n3 hs ht _ _ hT (hd.cells.mono (by omega)) hQ hc2 a2 c2 h2 (by omega)
theorem zFo {b:Int} {X:Nat} (hb:b<=1000) (hX:15<=X) (ih:zJG b X):zJG (b+1) (15+3*X):=fun n hn es i hcu a c h N Q hQ=>by
 have lf:∀ (E:Env) {es:List D} {i:Int} (_:Cu es i) a c h N1,N<=N1->BCalls prog 203 [.pk,.int .i64,.str,.str,.int .i64,.dc,.dc,.dc,.dc,.row 30 9,.sl 0,.int .i64,.int .i64] [.pb 0 0 0 0] [.var [.sv a 0 es c,.int .i64 i,.int .i64 h]] N1 (fun n s s_1 n_1 x x_1 x_2 x_3 es c a es_1 c_1 n_2 n_3 N2=>N1<=N2->Bel N2 (D.sl a 0 es_1 c_1)->Bel N2 (D.ag es)->zO E [.var [.sv none 0 [] 0,.int .i64 0,.int .i64 0]]/\(es.length=es.length/\c=c)/\∀ N3,N2<=N3->Q n s s_1 n_1 x x_1 x_2 x_3 es c a es_1 c_1 n_2 n_3 N3):=fun E es i hcu a c h N1 hN1=>
  zOS hcu a c h N1 _ fun k s s1 n' x x1 x2 x3 r q a' es' c' i' h' N2 hN2 hc' hp hr _ _ _=>⟨zZ,⟨rfl,rfl⟩,fun N3 hN3=>hQ _ _ _ _ _ _ _ _ _ _ _ _ _ _ _ _ (by omega) hc' (hp.mono (by omega)) hr⟩
 refine sQ N n a es c i h Q fun E _=>Br.dec (fun _ N1 hN1=>lf E hcu a c h N1 hN1) fun hlt N1 hN1=>rS hcu 5 (by omega) a c h N1 _ fun b1 a1 es1 c1 i1 h1 N2 hN2 hc1 _ _=>Br.of (fun _ N3 hN3=>lf E hc1 a1 c1 h1 N3 (by omega)) fun _ N3 hN3=>?_
 refine sB (l:=[4,5,6,7,8,9,10,11,12,13,10,4]) hc1 (by decide) (by decide) a1 c1 h1 12 12 N3 _ fun kd a2 es2 c2 i2 h2 N4 hN4 hc2 _ _ _ _=>?_
 have L11:∀ {s:ByteArray} (_:s.size<=1000) {es:List D} {i:Int} (_:Cu es i) a c h N',N<=N'->zq E Q N n a es c i h 0 (bytes []) (bytes []) 0 0 none [] 0 0 none [] 0 none [] 0 kd s (bytes []) 0 0 none [] 0 0 none [] 0 0 0 [] 0 N':=fun hs es i hcu a c h N' hN'=>by
  refine zBp _ _ _ _ _ _ _ _ _ _ _ _ _ _ _ _ _ _ _ _ _ _ _ _ _ _ _ _ _ _ _ _ _ _ _ _ _ _ _ _ _ (Br.beq (fun _ N5 hN5=>zHc 2 (by omega) hcu a c h N5 _ fun d a2 es2 c2 i2 h2 N6 hN6 hc2 hd _ _ _ _=>zQR hb hX ih (by omega) (by omega) kd 0 hs _ _ (hd.cells.mono (by omega)) hQ hc2 a2 c2 h2 (by omega)) fun _=>Br.beq (fun _ N5 hN5=>zHc 2 (by omega) hcu a c h N5 _ fun d a2 es2 c2 i2 h2 N6 hN6 hc2 hd _ _ _ _=>zQR hb hX ih (by omega) (by omega) kd 0 hs _ _ (hd.cells.mono (by omega)) hQ hc2 a2 c2 h2 (by omega)) fun _=>zNL hb hX ih (by omega) (by omega) kd 0 hs zIJ hQ hcu a c h hN')
 have L3:∀ N5,N4<=N5->BCalls prog 132 [.str,.sl 0,.int .i64,.int .i64,.sl 0] [.pb 0 0 0 0,.sb 1 0 0 3 3] [.var [.sv a2 0 es2 c2,.int .i64 i2,.int .i64 h2],.arr 9 0 (zA [bytes [120],bytes [121],bytes [102]]) 3] N5 (fun s a es c n_1 n_2 a_1 es_1 c_1 N6=>N5<=N6->Bel N6 (D.sl a 0 es c)->Bel N6 (D.sl a_1 0 es_1 c_1)->zq E Q N n a es c n_1 n_2 0 (bytes []) (bytes []) 0 0 none [] 0 0 none [] 0 none [] 0 kd s (bytes []) 0 0 none [] 0 0 none [] 0 0 0 [] 0 N6):=fun N5 hN5=>
  ud (l:=[bytes [120],bytes [121],bytes [102]]) hc2 (by decide) (by decide) a2 c2 h2 3 3 N5 _ fun t a3 es3 c3 i3 h3 N6 hN6 hc3 ht _ _ _=>L11 (by
   simp only [oG,nN,mi] at ht
   rcases ht with rfl | rfl | rfl<;>decide) hc3 a3 c3 h3 N6 (by omega)
 refine Br.beq (fun _ N5 hN5=>?_) fun _=>Br.beq (fun _ N5 hN5=>L3 N5 hN5) fun _=>Br.beq (fun _ N5 hN5=>L3 N5 hN5) fun _=>Br.beq (fun _ N5 hN5=>L3 N5 hN5) fun _=>L11 (by decide) hc2 a2 c2 h2 N4 (by omega)
 refine ud (l:=[bytes [43],bytes [45],bytes [42],bytes [61],bytes [60],bytes [38],bytes [124],bytes [33]]) hc2 (by decide) (by decide) a2 c2 h2 8 8 N5 _ fun t a3 es3 c3 i3 h3 N6 hN6 hc3 ht _ _ _=>L11 ?_ hc3 a3 c3 h3 N6 (by omega)
 simp only [oG,nN,mi] at ht
 rcases ht with rfl | rfl | rfl | rfl | rfl | rfl | rfl | rfl<;>decide
theorem zN6:zJG 4 600:=by
 have h:=zFo (b:=3) (by omega) (by omega) (zFo (b:=2) (by omega) (by omega) (zFo (b:=1) (by omega) (by omega) zO0))
 exact fun n hn es i hcu a c h' N Q hQ=>h n (by omega) hcu a c h' N Q fun k s s1 n' x x1 x2 x3 r q a' es' c' i' h' N' h1 h2 h3 h4=>hQ _ _ _ _ _ _ _ _ _ _ _ _ _ _ _ _ h1 h2 (h3.mono (by omega)) h4
theorem zPU {es:List D} {i:Int} (hcu:Cu es i) (a:Option Addr) (c:Nat) (h:Int) (N:Nat) (Q:QT [.ag 9,.sl 0,.int .i64,.int .i64])
  (hQ:∀ d' a' es' c' i' h' N',N<=N'->Cu es' i'->Some 1000 d'->Q d' a' es' c' i' h' N'):BCalls prog 90 [.ag 9,.sl 0,.int .i64,.int .i64] [.pb 0 0 0 0] [.var [.sv a 0 es c,.int .i64 i,.int .i64 h]] N Q:=by
 have z:PkT 15 (bytes [120]) (bytes []) (D.lit (.int .i64 0)) (D.sl none 2 [] 0) (D.lit (.int .i64 0)) (D.sl none 2 [] 0) []:=zEO (by decide) (by decide) zIJ zIJ
 refine zA5 N a es c i h Q fun E _ N1 hN1=>yW hcu 4 (by omega) a c h N1 _ fun x a1 es1 c1 i1 h1 N2 hN2 hc1 x0 x1 _ _ _ N3 hN3=>?_
 have x1:=x1 (by omega)
 rw [i64_in (1+x) (by omega)]
 refine zN6 (1+x) (by omega) hc1 a1 c1 h1 N3 _ fun k s s1 n y y1 y2 y3 r q a2 es2 c2 i2 h2 N4 hN4 hc2 hp hr _ _ _ N5 hN5=>?_
 refine yW hc2 14 (by omega) a2 c2 h2 N5 _ fun z1 a3 es3 c3 i3 h3 N6 hN6 hc3 _ _ _ _ _=>Br.beq (fun _ N7 hN7=>?_) fun _=>Br.beq (fun _ N7 hN7=>?_) fun _=>Br.beq (fun _ N7 hN7=>?_) fun _=>Br.beq (fun _ N7 hN7=>?_) fun _=>Br.beq (fun _ N7 hN7=>?_) fun _=>Br.beq (fun _ N7 hN7=>?_) fun _=>?_
 ·exact yW hc3 15 (by omega) a3 c3 h3 N7 _ fun w a4 es4 c4 i4 h4 N8 hN8 hc4 _ _ _ _ _=>⟨⟨rfl,rfl⟩,⟨rfl,rfl⟩,⟨rfl,rfl⟩,⟨rfl,rfl⟩,fun a5 N9 hN9 _=>⟨zZ,fun N10 hN10=>hQ _ _ _ _ _ _ _ (by omega) hc4 ((hp.some _ _ _ _).mono (by omega))⟩⟩
 ·exact sB (l:=[0,1,10006,10007, -1]) hc3 (by decide) (by decide) a3 c3 h3 5 5 N7 _ fun w a4 es4 c4 i4 h4 N8 hN8 hc4 _ _ _ _=>⟨⟨rfl,rfl⟩,⟨rfl,rfl⟩,⟨rfl,rfl⟩,⟨rfl,rfl⟩,fun a5 N9 hN9 _=>⟨zZ,fun N10 hN10=>hQ _ _ _ _ _ _ _ (by omega) hc4 ((hp.some _ _ _ _).mono (by omega))⟩⟩
 ·refine ud (l:=[bytes [],bytes [120],bytes [108,101,116],bytes [97,98,99,100,101],bytes [43]]) hc3 (by decide) (by decide) a3 c3 h3 5 5 N7 _ fun w a4 es4 c4 i4 h4 N8 hN8 hc4 hw _ _ _=>⟨⟨rfl,rfl⟩,⟨rfl,rfl⟩,⟨rfl,rfl⟩,⟨rfl,rfl⟩,fun a5 N9 hN9 _=>⟨zZ,fun N10 hN10=>hQ _ _ _ _ _ _ _ (by omega) hc4 (((hp.name ?_).some _ _ _ _).mono (by omega))⟩⟩
  simp only [oG,nN,mi] at hw
  rcases hw with rfl | rfl | rfl | rfl | rfl<;>decide
 ·exact rT N7 _ _ fun N8 hN8 _ _=>⟨⟨rfl,rfl⟩,fun a5 N9 hN9 _=>⟨⟨rfl,rfl⟩,by unfold zB;rw [oH];simp only [oP,od];omega,fun c9=>⟨⟨rfl,rfl⟩,⟨rfl,rfl⟩,⟨rfl,rfl⟩,⟨rfl,rfl⟩,fun a6 N10 hN10 _=>⟨zZ,fun N11 hN11=>hQ _ _ _ _ _ _ _ (by omega) hc3 (((hp.snoc (z.some _ _ _ _) (by omega)).some _ _ _ _).mono (by omega))⟩⟩⟩⟩
 ·exact zPA hc3 a3 c3 h3 N7 _ fun w a4 es4 c4 i4 h4 N8 hN8 hc4 hw _ _ _=>⟨⟨rfl,rfl⟩,⟨rfl,rfl⟩,⟨rfl,rfl⟩,⟨rfl,rfl⟩,fun a5 N9 hN9 _=>⟨zZ,fun N10 hN10=>hQ _ _ _ _ _ _ _ (by omega) hc4 (((hp.type hw.cells).some _ _ _ _).mono (by omega))⟩⟩
 ·refine ud (l:=[bytes [120],bytes [122]]) hc3 (by decide) (by decide) a3 c3 h3 2 2 N7 _ fun w a4 es4 c4 i4 h4 N8 hN8 hc4 hw _ _ _=>⟨⟨rfl,rfl⟩,⟨rfl,rfl⟩,⟨rfl,rfl⟩,⟨rfl,rfl⟩,fun a5 N9 hN9 _=>⟨zZ,fun N10 hN10=>hQ _ _ _ _ _ _ _ (by omega) hc4 (((hp.other ?_).some _ _ _ _).mono (by omega))⟩⟩
  simp only [oG,nN,mi] at hw
  rcases hw with rfl | rfl<;>decide
 ·exact ⟨⟨rfl,rfl⟩,⟨rfl,rfl⟩,⟨rfl,rfl⟩,⟨rfl,rfl⟩,fun a5 N9 hN9 _=>⟨zZ,fun N10 hN10=>hQ _ _ _ _ _ _ _ (by omega) hc3 ((hp.some _ _ _ _).mono (by omega))⟩⟩
end Go.Proofs.YtkdjhkfiolhkiaaGreat
set_option maxRecDepth 100000
namespace Go.Proofs.YtkdjhkfiolhkiaaGreat
open Go Go.Proofs Go.Proofs.Tryz Go.IntWalk
/-- some string of at most this many letters -/
def zP0 (f:FuncId) (args:List PV) (n:Nat):Prop:=∀ (N:Nat) (Q:QT [.str]),(∀ s N',N<=N'->s.size<=n->Q s N')->ACalls prog f [.str] args N Q
theorem zGU (l:List Int):∀ b:ByteArray,(l.foldl (fun r n=>r.push (UInt8.ofNat n.toNat)) b).size=b.size+l.length:=by
 induction l with
 | nil=>intro b;simp
 | cons x l ih=>intro b;simp only [List.foldl_cons,ih,ByteArray.size_push,oP];omega
theorem tw (l:List Int):(bytesOf l).size=l.length:=by
 unfold bytesOf;rw [zGU];simp
theorem zPV (n:Int) (h:n.natAbs<10000000000):zP0 266 [.int .i64 n] 11:=fun N Q hQ=>by
 refine tJ N n Q (Br.beq (fun _ N1 hN1=>hQ _ _ hN1 (by decide)) fun _=>?_)
 have key:∀ (m:Nat) (x:Int) (s:ByteArray),x.natAbs<10 ^ m->m+s.size<=10->∀ b,zU Q N x b s N:=by
  intro m
  induction m with
  | zero=>
    intro x s hx hs b
    refine wB _ _ _ _ _ _ (Br.bne (fun h=>by omega) fun _=>Br.of (fun _=>⟨by omega,fun N1 hN1=>hQ _ _ hN1 ?_⟩) fun _ N1 hN1=>hQ _ _ hN1 (by omega))
    rw [oK]
    have:(bytes [45]).size=1:=rfl
    omega
  | succ m ih=>
    intro x s hx hs b
    have hb:x.natAbs<10000000000:=oq hx (by rw [show (10000000000:Nat)=10 ^ 10 from rfl];exact Nat.pow_le_pow_right (by omega) (by omega))
    have hq:(Int.tdiv x 10).natAbs=x.natAbs / 10:=Int.natAbs_tdiv x 10
    have hd:IntKind.i64.wrap (Int.tdiv x 10)=Int.tdiv x 10:=i64_in _ (by omega)
    have nx:∀ es:List Int,es.length=1->zU Q N (IntKind.i64.wrap (Int.tdiv x 10)) b (bytesOf es++s) N:=fun es he=>by
     rw [hd]
     refine ih _ _ ?_ ?_ b
     ·rw [hq]
      rw [Nat.pow_succ] at hx
      omega
     ·rw [oK,tw];omega
    have sz:∀ es:List Int,es.length=1->(bytesOf es).size+s.size<=9223372036854775807:=fun es he=>by rw [tw];omega
    refine wB _ _ _ _ _ _ (Br.bne (fun _=>⟨by decide,Br.of (fun _=>⟨by simp,[_],rfl,sz _ rfl,by decide,nx _ rfl⟩) fun _=>⟨by simp,[_],rfl,sz _ rfl,by decide,nx _ rfl⟩⟩) fun _=>Br.of (fun _=>⟨by omega,fun N1 hN1=>hQ _ _ hN1 ?_⟩) fun _ N1 hN1=>hQ _ _ hN1 (by omega))
    rw [oK]
    have:(bytes [45]).size=1:=rfl
    omega
 exact key 10 n _ (by simpa using h) (by decide) _
theorem zOp:∀ t:Ty,t.form=true->Wf t:=by
 refine Ty.ind fun k l ih h=>?_
 simp only [Ty.form,oL] at h
 obtain ⟨h1,h2⟩:=h
 have sub:∀ t∈l,Wf t:=fun t ht=>ih t ht (by
  have key:∀ l:List Ty,uO l=true->∀ t∈l,t.form=true:=by
   intro l
   induction l with
   | nil=>intro _ t ht;simp at ht
   | cons x l ihl=>
     intro h t ht
     simp only [uO,oL] at h
     rcases oG.1 ht with rfl | ht
     ·exact h.1
     ·exact ihl h.2 t ht
  exact key l (by first | exact h1 | exact h2) t ht)
 have hk:zDk k l.length=true:=by first | exact h1 | exact h2
 unfold zDk at hk
 split at hk
 ·rename_i hk2
  have:l=[]:=oa (by have:=nz.1 hk;omega)
  subst this
  rcases hk2 with rfl | rfl
  ·exact .int
  ·exact .bool
 split at hk
 ·rename_i hk3;subst hk3
  have h2:l.length=2:=by have:=nz.1 hk;omega
  match l,h2,sub with
  | [a,b],_,sub=>exact .fn (sub a (by simp)) (sub b (by simp))
 split at hk
 ·rename_i hk4;subst hk4
  have h1:l.length=1:=by have:=nz.1 hk;omega
  match l,h1,sub with
  | [a],_,sub=>exact .code (sub a (by simp))
 ·cases hk
theorem zLW {t:Ty} (hw:Wf t):t.cnt<=1000000->∀ {d:D},t.Is d->zP0 271 [.dg 2 d] (3*t.cnt):=by
 have b1:∀ x,(bytes [x]).size=1:=fun _=>rfl
 induction hw with
 | int=>
   intro hc d hd N Q hQ
   obtain ⟨b,fs,k,rfl,_,h2⟩:=Ty.is_mk.1 hd
   exact vC N _ Q fun _=>⟨1,rfl,Br.beq (fun _ N1 hN1=>hQ _ _ hN1 (by decide)) fun h=>absurd rfl h⟩
 | bool=>
   intro hc d hd N Q hQ
   obtain ⟨b,fs,k,rfl,_,h2⟩:=Ty.is_mk.1 hd
   exact vC N _ Q fun _=>⟨2,rfl,Br.beq (fun h=>absurd h (by decide)) fun _=>Br.beq (fun _ N1 hN1=>hQ _ _ hN1 (by decide)) fun h=>absurd rfl h⟩
 | @fn u v hu hv ihu ihv=>
   intro hc d hd N Q hQ
   have hcc:(zMl u v).cnt=1+(u.cnt+(v.cnt+0)):=rfl
   obtain ⟨b,fs,k,rfl,hfl,d1,_,rfl,h3,d2,_,rfl,h4,rfl⟩:=Ty.is_mk.1 hd
   refine vC N _ Q fun _=>⟨3,rfl,Br.beq (fun h=>absurd h (by decide)) fun _=>Br.beq (fun h=>absurd h (by decide)) fun _=>Br.beq (fun _=>⟨_,_,_,rfl,⟨by simp,by simp⟩,_,_,_,rfl,⟨by simp,by simp⟩,fun N1 hN1=>?_⟩) fun h=>absurd rfl h⟩
   refine ihu (by omega) h3 N1 _ fun s N2 hN2 hs _=>⟨by omega,by rw [oK,b1];omega,fun N3 hN3=>?_⟩
   refine ihv (by omega) h4 N3 _ fun s' N4 hN4 hs' _=>⟨by simp only [oK,b1];omega,by simp only [oK,b1];omega,fun N5 hN5=>hQ _ _ (by omega) (by simp only [oK,b1];omega)⟩
 | @code u hu ihu=>
   intro hc d hd N Q hQ
   have hcc:(r6 u).cnt=1+(u.cnt+0):=rfl
   obtain ⟨b,fs,k,rfl,hfl,d1,_,rfl,h3,rfl⟩:=Ty.is_mk.1 hd
   refine vC N _ Q fun _=>⟨4,rfl,Br.beq (fun h=>absurd h (by decide)) fun _=>Br.beq (fun h=>absurd h (by decide)) fun _=>Br.beq (fun h=>absurd h (by decide)) fun _=>⟨_,_,_,rfl,⟨by simp,by simp⟩,fun N1 hN1=>?_⟩⟩
   exact ihu (by omega) h3 N1 _ fun s N2 hN2 hs _=>⟨by omega,by rw [oK,b1];omega,fun N3 hN3=>hQ _ _ (by omega) (by simp only [oK,b1];omega)⟩
/-- how long strings are, one behind the other -/
def tot:List ByteArray->Nat
 | []=>0
 | s::l=>s.size+1+tot l
theorem zJd (s:ByteArray):∀ l:List ByteArray,tot (l++[s])=tot l+s.size+1
 | []=>by simp [tot]
 | x::l=>by simp only [nA,tot,zJd s l];omega
theorem zIO:∀ l:List ByteArray,l.length<=tot l
 | []=>by simp [tot]
 | x::l=>by have:=zIO l;simp only [tot,oP];omega
theorem zMe (ws:List ByteArray) (h:tot ws<=1000000000) (by_:ByteArray) (hby:by_.size<=1) (a:Option Addr) (c:Nat):zP0 270 [.sv a 0 (zA ws) c,.str by_] (tot ws):=fun N Q hQ=>by
 have hwl:=zH ws
 have hlt:=zIO ws
 refine zIG N a _ c by_ Q fun _=>?_
 refine up (yx ws) (by omega) (fun i xs=>∀ (ns:List Int) (r:List D) (q N':Nat),N<=N'->r=ns.map (fun n=>D.lit (.int .u8 n))->ns.length+tot xs<=tot ws->xt Q N a (zA ws) c by_ r.length q i r q N') ?_ ?_ [] [] 0 N (oD _) rfl (by simp)
 ·intro k hlt hk ns r q N' hN' hr hn
  subst hr
  refine qr _ _ _ _ _ _ _ _ _ _ _ _ ?_
  rw [hlt]
  exact ⟨oD _,ns,nB (oD _),fun N1 hN1=>hQ _ _ (by omega) (by rw [tw];omega)⟩
 ·intro k x xs hat _ ih ns r q N' hN' hr hn
  have hb:=hat.b
  simp only [tot] at hn
  have bd:∀ s:ByteArray,yy s=(s.data.toList.map fun b=>((b.toNat:Nat):Int)).map (fun n=>D.lit (.int .u8 n)):=fun s=>by simp [yy,mB,Function.comp_def]
  have bl:∀ s:ByteArray,(s.data.toList.map fun b=>((b.toNat:Nat):Int)).length=s.size:=fun s=>by simp
  have hrl:r.length=ns.length:=by rw [hr];simp
  refine qr _ _ _ _ _ _ _ _ _ _ _ _ ?_
  rw [hat.w,oJ]
  refine Br.of (fun _=>?_) fun h=>by rw [hat.lt] at h;cases h
  refine Br.of (fun _=>⟨⟨rfl,rfl⟩,by unfold zB;rw [oH,s8];omega,fun c1=>⟨hb,x,hat.r,⟨by trivial,by trivial⟩,by unfold zB;simp only [oH,s8];omega,fun c2=>ih (ns++_++_) _ c2 N' hN' (by rw [hr,bd,bd,<-nj,<-nj]) (by simp only [oH,bl];omega)⟩⟩) fun _=>⟨hb,x,hat.r,⟨rfl,rfl⟩,by unfold zB;rw [oH,s8];omega,fun c2=>ih (ns++_) _ c2 N' hN' (by rw [hr,bd,<-nj]) (by simp only [oH,bl];omega)⟩
theorem zC1 {s:ByteArray} (h:yL s=true):s.size<=4:=by
 simp only [yL,zDG,oL] at h
 have:=(xz.1 h.2.1).2
 omega
theorem zKv {s:ByteArray} (h:zFJ s>0):s.size<=4:=by
 unfold zFJ at h
 (repeat' split at h)<;>first | (rename_i e;rw [e];decide) | (exfalso;revert h;decide)
theorem zEm {k:Int} {nm ot:ByteArray} (h:xA k nm ot=true):nm.size<=4/\ot.size<=4:=by
 unfold xA at h
 (repeat' split at h)<;>simp only [oL,nP,nO,decide_eq_false_iff_not] at h
 ·exact ⟨zKv h.1,by rw [h.2];decide⟩
 ·exact ⟨zC1 h.1,by rw [h.2];decide⟩
 ·exact ⟨zC1 h.1,zC1 h.2.1⟩
 ·rw [h.1,h.2];decide
theorem s6 {t:Ty} (h:t.valid=true):Wf t/\t.cnt<=30:=by
 refine ⟨zOp t ?_,Ty.valid_cnt h⟩
 simp only [Ty.valid,oL] at h
 exact h.2
theorem zQX {k n:Int} {nm ot:ByteArray} {ty re:Ty} {l:List Tm} (nd:Node k nm ot n ty re l) {t0 t1 r0 r1 x:D} (hh:Tm.Hd nm ot ty re t0 t1 r0 r1) {ws:List ByteArray} (hws:tot ws<=400000000) (hl:ws.length=l.length) (hk:k≠1/\k≠2/\k≠3/\k≠4/\k≠10/\k≠11) (a:Option Addr) (c:Nat) :
  zP0 267 [.dg 9 (.ag [.lit (.int .i64 k),.lit (.string nm),.lit (.string ot),.lit (.int .i64 n),t0,t1,r0,r1,x]),.sv a 0 (zA ws) c] (tot ws+300):=fun N Q hQ=>by
 have f:=nd.f
 have har:=nd.ar
 have hwl:=zH ws
 simp only [zJ,oL] at f
 obtain ⟨n4,o4⟩:=zEm f.2.2.2.2.2
 have b1:∀ a,(bytes [a]).size=1:=fun _=>rfl
 have b2:∀ a b,(bytes [a,b]).size=2:=fun _ _=>rfl
 have b4:∀ a b c d,(bytes [a,b,c,d]).size=4:=fun _ _ _ _=>rfl
 have b5:∀ a b c d e,(bytes [a,b,c,d,e]).size=5:=fun _ _ _ _ _=>rfl
 have b6:∀ a b c d e f,(bytes [a,b,c,d,e,f]).size=6:=fun _ _ _ _ _ _=>rfl
 have one:ws≠[]->((0:Int)<=(0:Int)/\0<((zA ws).length:Int))/\∃ s,List.getD (zA ws) 0 default=D.lit (.string s)/\s.size<=tot ws:=fun h=>by
  match ws,h with
  | s::l,_=>exact ⟨⟨by simp,by simp [zA]⟩,s,rfl,by simp only [tot];omega⟩
 have ne:zDY k nm=1->ws≠[]:=fun h hc=>by subst hc;simp at hl;omega
 refine zFc N _ a _ c Q fun _ _=>⟨k,rfl,Br.beq (fun _ N1 hN1=>?_) fun h5=>Br.beq (fun h6=>?_) fun h6=>Br.beq (fun _ N1 hN1=>?_) fun h7=>Br.beq (fun _=>⟨nm,rfl,by omega,by simp only [oK,b5];omega,fun N1 hN1=>?_⟩) fun h8=>Br.beq (fun h9=>?_) fun h9=>Br.beq (fun h12=>?_) fun h12=>?_⟩
 ·exact zMe ws (by omega) _ (by decide) a c N1 _ fun s N2 hN2 hs _=>⟨by omega,by simp only [oK,b4];omega,fun N3 hN3=>hQ _ _ (by omega) (by simp only [oK,b4,b1];omega)⟩
 ·obtain ⟨bd,s,hs,hsz⟩:=one (ne (by subst h6;rfl))
  have hv:=nd.vt (.inl h6)
  refine ⟨nm,rfl,by omega,by simp only [oK,b2];omega,bd,s,hs,fun N1 hN1=>?_⟩
  have:=(s6 hv).2
  exact zLW (s6 hv).1 (by omega) hh.ty N1 _ fun z N2 hN2 hz _=>⟨by simp only [oK,b2,b1];omega,by simp only [oK,b2,b1];omega,by simp only [oK,b2,b1];omega,by simp only [oK,b2,b1];omega,fun N3 hN3=>hQ _ _ (by omega) (by simp only [oK,b2,b1];omega)⟩
 ·exact zMe ws (by omega) _ (by decide) a c N1 _ fun s N2 hN2 hs _=>⟨by omega,by simp only [oK,b1];omega,fun N3 hN3=>hQ _ _ (by omega) (by simp only [oK,b1];omega)⟩
 ·exact zMe ws (by omega) _ (by decide) a c N1 _ fun s N2 hN2 hs _=>⟨by simp only [oK,b5,b1];omega,by simp only [oK,b5,b1];omega,fun N3 hN3=>hQ _ _ (by omega) (by simp only [oK,b5,b1];omega)⟩
 ·obtain ⟨bd,s,hs,hsz⟩:=one (ne (by subst h9;rfl))
  have hv:=nd.vt (.inr h9)
  have hv2:=nd.vr h9
  have:=(s6 hv).2
  have:=(s6 hv2).2
  refine ⟨nm,rfl,by omega,by simp only [oK,b5];omega,ot,rfl,by simp only [oK,b5,b1];omega,by simp only [oK,b5,b1];omega,bd,s,hs,fun N1 hN1=>?_⟩
  refine zLW (s6 hv).1 (by omega) hh.ty N1 _ fun z N2 hN2 hz _=>⟨by simp only [oK,b5,b1];omega,by simp only [oK,b5,b1];omega,fun N3 hN3=>?_⟩
  exact zLW (s6 hv2).1 (by omega) hh.re N3 _ fun y N4 hN4 hy _=>⟨by simp only [oK,b5,b1];omega,by simp only [oK,b5,b1];omega,by simp only [oK,b5,b1];omega,by simp only [oK,b5,b1];omega,fun N5 hN5=>hQ _ _ (by omega) (by simp only [oK,b5,b1];omega)⟩
 ·obtain ⟨bd,s,hs,hsz⟩:=one (ne (by subst h12;rfl))
  exact ⟨bd,s,hs,by omega,by simp only [oK,b5];omega,fun N1 hN1=>hQ _ _ (by omega) (by simp only [oK,b5,b1];omega)⟩
 ·have hc := zL3 (k := k) (nm := nm) (by omega)
  obtain ⟨bd, s, hs, hsz⟩ := one (ne (by obtain rfl:k=13:=by omega
                                         rfl))
  exact ⟨bd,s,hs,by omega,by simp only [oK,b6];omega,fun N1 hN1=>hQ _ _ (by omega) (by simp only [oK,b6,b1];omega)⟩
theorem zGn:∀ {l:List Tm} {t:Tm},t∈l->t.sz<=za l
 | x::l,t,h=>by
   simp only [za]
   rcases oG.1 h with rfl | h
   ·omega
   ·have:=zGn h;omega
theorem zQd:∀ t:Tm,t.ok=true->t.sz<=100000->∀ d,t.Is d->zP0 258 [.dg 9 d] (500*t.sz - 1):=by
 refine Tm.ind fun k nm ot n ty re l ih hok hsz d hd N Q hQ=>?_
 obtain ⟨t0,t1,r0,r1,a,es,c,rfl,hh,hlen,hes⟩:=Tm.is_mk.1 hd
 have nd:=zLm hok
 have har:=nd.ar
 have hel:=hes.len
 have f:=nd.f
 simp only [zJ,oL] at f
 obtain ⟨n4,o4⟩:=zEm f.2.2.2.2.2
 have hn:=xz.1 f.2.2.2.2.1
 have b1:∀ a,(bytes [a]).size=1:=fun _=>rfl
 have b2:∀ a b,(bytes [a,b]).size=2:=fun _ _=>rfl
 have hs:(Tm.mk k nm ot n ty re l).sz=1+za l:=by simp only [Tm.sz]
 rw [hs] at hsz hQ
 refine zFD N _ Q fun _=>?_
 refine up hes hlen (fun i xs=>∀ (ws:List ByteArray) (q N':Nat),N<=N'->ws.length=i->tot ws+500*za xs<=500*za l->xo Q N (zA ws).length q i _ (zA ws) q N') ?_ ?_ [] 0 N (oD _) rfl (by simp [tot])
 ·intro i hlt hi ws q N' hN' hwl htot
  have hwd:=zH ws
  have ps:(0:Int)<((zA ws).length:Int)->((0:Int)<=(0:Int)/\0<((zA ws).length:Int)/\0<(zA ws).length):=fun h=>⟨by omega,h,by omega⟩
  have one:0<ws.length->∃ s,List.getD (zA ws) 0 default=D.lit (.string s)/\s.size+1<=tot ws:=fun h=>by
   match ws,h with
   | s::l,_=>exact ⟨s,rfl,by simp only [tot];omega⟩
  have two:1<ws.length->∃ s s',List.getD (zA ws) 0 default=D.lit (.string s)/\List.getD (zA ws) 1 default=D.lit (.string s')/\s.size+s'.size+2<=tot ws:=fun h=>by
   match ws,h with
   | s::s'::l,_=>exact ⟨s,s',rfl,rfl,by simp only [tot];omega⟩
  refine t9 _ _ _ _ _ _ _ _ _ ⟨a,es,c,rfl,Br.of (fun h=>by rw [hlt] at h;cases h) fun _=>⟨k,rfl,Br.beq (fun _=>⟨nm,rfl,fun N1 hN1=>hQ _ _ (by omega) (by omega)⟩) fun h1=>Br.beq (fun h2=>⟨n,rfl,fun N1 hN1=>?_⟩) fun h2=>Br.beq (fun h3=>⟨n,rfl,n,rfl,?_⟩) fun h3=>Br.beq (fun h4=>?_) fun h4=>Br.beq (fun h10=>?_) fun h10=>Br.beq (fun h11=>?_) fun h11=>⟨⟨rfl,rfl⟩,fun a2 _ _ N1 hN1 _=>?_⟩⟩⟩
  ·rw [if_pos h2] at hn
   exact zPV n (by omega) N1 _ fun s N2 hN2 hs _ N3 hN3=>hQ _ _ (by omega) (by omega)
  ·rw [if_neg h2,if_pos h3] at hn
   rw [i64_in (n+1) (by omega)]
   exact ⟨⟨by omega,by omega,by omega⟩,by rw [mH];omega,fun N1 hN1=>hQ _ _ (by omega) (by rw [oK,mH,b1,b2];omega)⟩
  ·subst h4
   have har:(l.length:Int)=zFJ nm:=har
   have hop:zFJ nm=1\/zFJ nm=2:=by
    have h:=f.2.2.2.2.2
    simp only [xA] at h
    rw [if_pos trivial] at h
    simp only [oL,nP] at h
    have:=h.1
    revert this
    unfold zFJ
    (repeat' split)<;>simp
   refine Br.beq (fun hw=>?_) fun hw=>?_
   ·obtain ⟨s,e1,e2⟩:=one (by omega)
    exact ⟨ps (by omega),by omega,s,e1,by omega,by simp only [oK,b2];omega,fun N1 hN1=>hQ _ _ (by omega) (by simp only [oK,b2,b1];omega)⟩
   ·obtain ⟨s,s',e1,e3,e2⟩:=two (by omega)
    exact ⟨ps (by omega),by omega,s,e1,by omega,nm,rfl,by simp only [oK,b1];omega,⟨by omega,by omega,by omega⟩,by omega,s',e3,by simp only [oK,b1];omega,by simp only [oK,b1];omega,fun N1 hN1=>hQ _ _ (by omega) (by simp only [oK,b1];omega)⟩
  ·subst h10
   have har:(l.length:Int)=1:=har
   obtain ⟨s,e1,e2⟩:=one (by omega)
   exact ⟨ps (by omega),by omega,s,e1,by omega,by simp only [oK,b1];omega,fun N1 hN1=>hQ _ _ (by omega) (by simp only [oK,b1];omega)⟩
  ·subst h11
   have har:(l.length:Int)=1:=har
   obtain ⟨s,e1,e2⟩:=one (by omega)
   exact ⟨ps (by omega),by omega,s,e1,by omega,fun N1 hN1=>hQ _ _ (by omega) (by simp only [oK,b1];omega)⟩
  ·exact zQX nd hh (by omega) (by omega) ⟨h1,h2,h3,h4,h10,h11⟩ a2 q N1 _ fun s N2 hN2 hs _ N3 hN3=>hQ _ _ (by omega) (by omega)
 ·intro i x xs hat _ ih2 ws q N' hN' hwl htot
  have hb:=hat.b
  have hx:x.sz<=za l:=zGn hat.m
  have hwt:=zIO ws
  have hp:1<=x.sz:=by cases x;simp only [Tm.sz];omega
  simp only [za] at htot
  refine t9 _ _ _ _ _ _ _ _ _ ⟨a,es,c,rfl,Br.of (fun _=>⟨a,es,c,rfl,hb,fun N1 hN1=>?_⟩) fun h=>by rw [hat.lt] at h;cases h⟩
  rw [oJ]
  refine ih x hat.m (nd.sub x hat.m) (by omega) _ hat.r N1 _ fun s N2 hN2 hs _=>⟨⟨rfl,rfl⟩,by unfold zB;rw [oH,zH];simp only [oP,od];omega,fun c2=>?_⟩
  have e:zA ws++[D.lit (.string s)]=zA (ws++[s]):=by simp [zA]
  rw [e,hat.w]
  exact ih2 (ws++[s]) c2 N2 (by omega) (by simp [hwl]) (by rw [zJd];omega)
theorem zP4 (t:Tm) (d:D) (hd:t.Is d) (hc:t.cnt<=1073741824):zP0 242 [.dg 9 d] 50000:=fun N Q hQ=>by
 refine px N d Q fun _ N1 hN1=>pY t d hd hc N1 _ fun N2 hN2 _=>Br.not (fun _ N3 hN3=>hQ _ _ (by omega) (by decide)) fun hv N3 hN3=>?_
 simp only [Tm.vd,oL,nP] at hv
 exact zQd t hv.2 (by omega) d hd N3 _ fun s N4 hN4 hs _ N5 hN5=>hQ _ _ (by omega) (by omega)
end Go.Proofs.YtkdjhkfiolhkiaaGreat
set_option maxRecDepth 100000
namespace Go.Proofs.YtkdjhkfiolhkiaaGreat
open Go Go.Proofs Go.Proofs.Tryz Go.IntWalk
/-- a reader's place in a short text -/
structure Rs (s:ByteArray) (n:Int):Prop where
 l:s.size<=1000
 lo:0<=n
 hi:n<=s.size
theorem wq {s:ByteArray} {n:Int} (hr:Rs s n) (t:ByteArray) (ht:t.size<=100) (b:Bool) (N:Nat) (Q:QT [.bool,.str,.int .i64,.bool])
  (hQ:∀ b' n' N',N<=N'->Rs s n'->n<=n'->(b'=false->n'=n)->(b'=true->n'=n+t.size)->Q b' s n' b N'):BCalls prog 253 [.bool,.str,.int .i64,.bool] [.pb 0 0 0 0,.str t] [.var [.str s,.int .i64 n,.bool b]] N Q:=by
 have h1:=hr.lo
 have h2:=hr.hi
 have h3:=hr.l
 have no:∀ N1,N<=N1->Q false s n b N1:=fun N1 hN1=>hQ _ _ _ hN1 hr (mI _) (fun _=>rfl) (by simp)
 have e:IntKind.i64.wrap (n+(t.size:Int))=n+t.size:=i64_in _ (by omega)
 refine zBJ N t s n b Q fun E=>Br.of (fun _=>⟨zZ,no⟩) fun _=>?_
 rw [e]
 exact Br.dec (fun _=>⟨zZ,no⟩) fun hg=>⟨⟨h1,by omega,by omega⟩,Br.of (fun _=>⟨zZ,no⟩) fun _=>⟨zZ,fun N1 hN1=>hQ _ _ _ hN1 ⟨h3,by omega,by omega⟩ (by omega) (by simp) fun _=>rfl⟩⟩
theorem w9 {s:ByteArray} {n:Int} (hr:Rs s n) (t:ByteArray) (ht:t.size<=100) (b:Bool) (N:Nat) (Q:QT [.str,.int .i64,.bool])
  (hQ:∀ b' n' N',N<=N'->Rs s n'->n<=n'->(b'=false->n'=n+t.size)->Q s n' b' N'):BCalls prog 254 [.str,.int .i64,.bool] [.pb 0 0 0 0,.str t] [.var [.str s,.int .i64 n,.bool b]] N Q:=
 zBM N t s n b Q fun E=>Br.of (fun _=>⟨zZ,fun N1 hN1=>hQ _ _ _ hN1 hr (mI _) (by simp)⟩) fun _ N1 hN1=>wq hr t ht b N1 _ fun b' n' N2 hN2 hr' hn' h0 h1 _=>⟨zZ,fun N3 hN3=>hQ _ _ _ (by omega) hr' hn' (by
  cases b' with
  | false=>simp
  | true=>exact fun _=>h1 rfl)⟩
theorem zEb {s:ByteArray} {n:Int} (hr:Rs s n) (b:Bool) (N:Nat) (Q:QT [.str,.str,.int .i64,.bool])
  (hQ:∀ w n' N',N<=N'->Rs s n'->n<=n'->w.size<=1000->Q w s n' b N'):BCalls prog 257 [.str,.str,.int .i64,.bool] [.pb 0 0 0 0] [.var [.str s,.int .i64 n,.bool b]] N Q:=by
 have h1:=hr.lo
 have h2:=hr.hi
 have h3:=hr.l
 refine zBB N s n b Q fun E=>?_
 have key:∀ (m:Nat) (k:Int),n<=k->k+m=s.size->yB E Q N n s k b N:=by
  intro m
  induction m with
  | zero=>
    intro k hk he
    exact tq _ _ _ _ _ _ _ _ (Br.dec (fun h=>by omega) fun _=>⟨⟨h1,hk,by omega⟩,zZ,fun N1 hN1=>hQ _ _ _ hN1 ⟨h3,by omega,by omega⟩ hk (by rw [mH];omega)⟩)
  | succ m ih=>
    intro k hk he
    have nx:yB E Q N n s (IntKind.i64.wrap (k+1)) b N:=by
     rw [i64_in (k+1) (by omega)];exact ih (k+1) (by omega) (by omega)
    have out:(0<=n/\n<=k/\k<=(s.size:Int))/\zO E [.var [.str (bytes []),.int .i64 0,.bool false]]/\∀ N1,N<=N1->Q (ByteArray.extract s n.toNat k.toNat) s k b N1:=⟨⟨h1,hk,by omega⟩,zZ,fun N1 hN1=>hQ _ _ _ hN1 ⟨h3,by omega,by omega⟩ hk (by rw [mH];omega)⟩
    have bd:0<=k/\k<(s.size:Int):=⟨by omega,by omega⟩
    have az:∀ (v w:Bool) {A B:Prop},A->B->(0<=k/\k<(s.size:Int))/\Br v ((0<=k/\k<(s.size:Int))/\Br w A B) B:=fun v w A B a b=>⟨bd,Br.of (fun _=>⟨bd,Br.of (fun _=>a) fun _=>b⟩) fun _=>b⟩
    exact tq _ _ _ _ _ _ _ _ (Br.of (fun _=>⟨bd,Br.of (fun _=>⟨bd,Br.of (fun _=>nx) fun _=>az _ _ nx out⟩) fun _=>az _ _ nx out⟩) fun _=>out)
 exact key (s.size - n).toNat n (mI _) (by omega)
theorem zKm:∀ (j:Nat),j<=8->∀ (n1:Int),n1+j=9->∀ {s:ByteArray} {n:Int} (_:Rs s n) (b:Bool) (N:Nat) (Q:QT [.ag 2,.str,.int .i64,.bool])
  (_:∀ (t:Ty) d n' b' N',N<=N'->Rs s n'->n<=n'->t.Is d->t.cnt+1<=2 ^ (j+1)->Q d s n' b' N'),BCalls prog 261 [.ag 2,.str,.int .i64,.bool] [.pb 0 0 0 0,.int .i64 n1] [.var [.str s,.int .i64 n,.bool b]] N Q:=by
 intro j
 have one:∀ k:Int,∀ j:Nat,(Ty.mk k []).cnt+1<=2 ^ (j+1):=fun k j=>by
  have:1<=2 ^ j:=Nat.one_le_two_pow
  rw [Nat.pow_succ];simp only [Ty.cnt,zT];omega
 induction j with
 | zero=>
   intro _ n1 hn1 s n hr b N Q hQ
   exact tD N n1 s n b Q fun E=>Br.of (fun _=>⟨zZ,fun N1 hN1=>hQ (.mk 0 []) _ _ _ _ hN1 hr (mI _) (xE 0) (one 0 0)⟩) fun _=>Br.dec (fun _=>⟨zZ,fun N1 hN1=>hQ (.mk 0 []) _ _ _ _ hN1 hr (mI _) (xE 0) (one 0 0)⟩) fun h=>by omega
 | succ j ih=>
   intro hj n1 hn1 s n hr b N Q hQ
   have e1:IntKind.i64.wrap (n1+1)=n1+1:=i64_in _ (by omega)
   have z:∀ n' b' N',N<=N'->Rs s n'->n<=n'->Q (D.ag [D.lit (.int .i64 0),D.sl Option.none 2 [] 0]) s n' b' N':=fun n' b' N' h hr' hn=>hQ (.mk 0 []) _ _ _ _ h hr' hn (xE 0) (one 0 _)
   refine tD N n1 s n b Q fun E=>Br.of (fun _=>⟨zZ,fun N1 hN1=>z _ _ _ hN1 hr (mI _)⟩) fun _=>Br.dec (fun _=>by omega) fun _ N1 hN1=>?_
   refine wq hr _ (by decide) _ N1 _ fun b2 n2 N2 hN2 hr2 hn2 z2 _ _=>Br.of (fun _ N3 hN3=>wl N3 _ fun y N4 hN4 hy _ _ _=>⟨zZ,fun N5 hN5=>hQ tInt _ _ _ _ (by omega) hr2 hn2 hy (one _ _)⟩) fun hb2 N3 hN3=>?_
   have z2:=z2 hb2;subst z2
   refine wq hr2 _ (by decide) _ N3 _ fun b4 n4 N4 hN4 hr4 hn4 z4 g4 _=>Br.of (fun _ N5 hN5=>vB N5 _ fun y N6 hN6 hy _ _ _=>⟨zZ,fun N7 hN7=>hQ tBool _ _ _ _ (by omega) hr4 (by omega) hy (one _ _)⟩) fun hb4 N5 hN5=>?_
   have z4:=z4 hb4;subst z4
   have hpow:2 ^ (j+1+1)=2*2 ^ (j+1):=by rw [Nat.pow_succ];omega
   refine wq hr4 _ (by decide) _ N5 _ fun b6 n6 N6 hN6 hr6 hn6 z6 g6 _=>Br.of (fun hb6 N7 hN7=>?_) fun hb6 N7 hN7=>?_
   ·have g6:=g6 hb6
    rw [e1]
    refine ih (by omega) (n1+1) (by omega) hr6 _ N7 _ fun t d n8 b8 N8 hN8 hr8 hn8 hd hc _ _ N9 hN9=>?_
    refine w9 hr8 _ (by decide) _ N9 _ fun b10 n10 N10 hN10 hr10 hn10 _ _=>⟨⟨rfl,rfl⟩,⟨rfl,rfl⟩,⟨rfl,rfl⟩,⟨rfl,rfl⟩,⟨rfl,rfl⟩,fun a N11 hN11 _=>⟨zZ,fun N12 hN12=>hQ (r6 t) _ _ _ _ (by omega) hr10 (by omega) (Ty.is_mk.2 ⟨_,_,_,rfl,by simp,d,[],rfl,hd,rfl⟩) ?_⟩⟩
    have:(r6 t).cnt=1+(t.cnt+0):=rfl
    have:2<=2 ^ (j+1):=by rw [Nat.pow_succ];have:1<=2 ^ j:=Nat.one_le_two_pow;omega
    omega
   ·have z6:=z6 hb6;subst z6
    refine w9 hr6 _ (by decide) _ N7 _ fun b8 n8 N8 hN8 hr8 hn8 _ _=>Br.of (fun _=>⟨zZ,fun N9 hN9=>z _ _ _ (by omega) hr8 (by omega)⟩) fun _ N9 hN9=>?_
    rw [e1]
    refine ih (by omega) (n1+1) (by omega) hr8 _ N9 _ fun t d n10 b10 N10 hN10 hr10 hn10 hd hc _ _ N11 hN11=>?_
    refine w9 hr10 _ (by decide) _ N11 _ fun b12 n12 N12 hN12 hr12 hn12 _ _=>Br.of (fun _=>⟨zZ,fun N13 hN13=>z _ _ _ (by omega) hr12 (by omega)⟩) fun _ N13 hN13=>?_
    refine ih (by omega) (n1+1) (by omega) hr12 _ N13 _ fun u e n14 b14 N14 hN14 hr14 hn14 he hc2 _ _ N15 hN15=>?_
    refine w9 hr14 _ (by decide) _ N15 _ fun b16 n16 N16 hN16 hr16 hn16 _ _=>⟨⟨rfl,rfl⟩,⟨rfl,rfl⟩,⟨rfl,rfl⟩,fun a N17 hN17 _=>⟨zZ,fun N18 hN18=>hQ (zMl t u) _ _ _ _ (by omega) hr16 (by omega) (Ty.is_mk.2 ⟨_,_,_,rfl,by simp,d,[e],rfl,hd,e,[],rfl,he,rfl⟩) ?_⟩⟩
    have:(zMl t u).cnt=1+(t.cnt+(u.cnt+0)):=rfl
    omega
/-- what the parser does at this depth -/
def zJ1 (dep:Int):Prop:=∀ (s:ByteArray) (n:Int) (b:Bool) (N:Nat) (Q:QT [.ag 9,.str,.int .i64,.bool]),Rs s n->(∀ d n' b' N',N<=N'->Rs s n'->n<=n'->Some (3+2000*(n' - n).toNat) d->Q d s n' b' N')->BCalls prog 241 [.ag 9,.str,.int .i64,.bool] [.pb 0 0 0 0,.int .i64 dep] [.var [.str s,.int .i64 n,.bool b]] N Q
theorem zJj {dep:Int} (hP:zJ1 dep) {k m:Int} {nm ot:ByteArray} {ty re:Ty} {t0 t1 r0 r1:D} (hh:Tm.Hd nm ot ty re t0 t1 r0 r1) {l0:List Tm} {es0:List D} (h0:All2 Tm.Is l0 es0) (hl0:es0.length<=1) {a0:Option Addr} {c0:Nat} (hap:∀ x,zOR a0 es0 c0 [x])
  {w:Nat} (hw:1+ty.cnt+re.cnt+zI l0<=w) (n2:Int) (hn2:0<=n2/\n2<=3) {s:ByteArray} {n:Int} (hr:Rs s n) (b:Bool) (N:Nat) (Q:QT [.ag 9,.str,.int .i64,.bool])
  (hQ:∀ d n' b' N',N<=N'->Rs s n'->n<=n'->Some (w+9+2000*(n' - n).toNat) d->Q d s n' b' N'):BCalls prog 262 [.ag 9,.str,.int .i64,.bool] [.pb 0 0 0 0,.dg 9 (.ag [.lit (.int .i64 k),.lit (.string nm),.lit (.string ot),.lit (.int .i64 m),t0,t1,r0,r1,.sl a0 9 es0 c0]),.int .i64 n2,.int .i64 dep] [.var [.str s,.int .i64 n,.bool b]] N Q:=by
 refine zBO N _ n2 dep s n b Q fun E _=>?_
 have fin:∀ (l:List Tm) (es:List D) (a:Option Addr) (c:Nat) (n':Int) (b':Bool) (N':Nat),N<=N'->Rs s n'->n<=n'->All2 Tm.Is l es->es.length<=10->zI l<=zI l0+9+2000*(n' - n).toNat->Q (.ag [.lit (.int .i64 k),.lit (.string nm),.lit (.string ot),.lit (.int .i64 m),t0,t1,r0,r1,.sl a 9 es c]) s n' b' N':=fun l es a c n' b' N' h hr' hn hes hl hc=>
  hQ _ _ _ _ h hr' hn ⟨.mk k nm ot m ty re l,Tm.is_mk.2 ⟨_,_,_,_,_,_,_,rfl,hh,by omega,hes⟩,by simp only [Tm.cnt];omega⟩
 have key:∀ (j:Nat) (k9:Int) (n1:Int) (b1:Bool) (l:List Tm) (es:List D) (q N':Nat),k9+j=n2->0<=k9->Rs s n1->n<=n1->All2 Tm.Is l es->(es.length:Int)<=1+k9->zI l<=zI l0+3*k9.toNat+2000*(n1 - n).toNat->N<=N' ->
   zV E Q N n2 dep k9 s n1 b1 (.lit (.int .i64 k)) (.lit (.string nm)) (.lit (.string ot)) (.lit (.int .i64 m)) t0 t1 r0 r1 es.length q 0 (bytes []) (bytes []) 0 0 none [] 0 0 none [] 0 none [] 0 es q N':=by
  intro j
  induction j with
  | zero=>
    intro k9 n1 b1 l es q N' hk hk0 hr1 hn1 hes hel hc hN'
    refine v7 _ _ _ _ _ _ _ _ _ _ _ _ _ _ _ _ _ _ _ _ _ _ _ _ _ _ _ _ _ _ _ _ _ _ _ _ _ (Br.dec (fun h=>by omega) fun _ N1 hN1=>w9 hr1 _ (by decide) _ N1 _ fun b2 n2 N2 hN2 hr2 hn2 _ _=>⟨⟨rfl,rfl⟩,⟨rfl,rfl⟩,⟨rfl,rfl⟩,fun a N3 hN3 _=>⟨zZ,fun N4 hN4=>fin l es a q n2 b2 N4 (by omega) hr2 (by omega) hes (by omega) (by omega)⟩⟩)
  | succ j ih=>
    intro k9 n1 b1 l es q N' hk hk0 hr1 hn1 hes hel hc hN'
    have e1:IntKind.i64.wrap (k9+1)=k9+1:=i64_in _ (by omega)
    have nx:∀ (n3:Int) (b3:Bool) (x:D) (N3 c1:Nat),N<=N3->Rs s n3->n1<=n3->Some (3+2000*(n3 - n1).toNat) x->zV E Q N n2 dep (IntKind.i64.wrap (k9+1)) s n3 b3 (.lit (.int .i64 k)) (.lit (.string nm)) (.lit (.string ot)) (.lit (.int .i64 m)) t0 t1 r0 r1 (es++[x]).length c1 0 (bytes []) (bytes []) 0 0 none [] 0 0 none [] 0 none [] 0 (es++[x]) c1 N3:=fun n3 b3 x N3 c1 h hr3 hn3 hx=>by
     obtain ⟨t,ht,hct⟩:=hx
     rw [e1]
     refine ih (k9+1) n3 b3 (l++[t]) (es++[x]) c1 N3 (by omega) (by omega) hr3 (by omega) (hes.snoc ht) (by simp;omega) ?_ h
     have:zI (l++[t])=zI l+t.cnt:=by
      clear hes hc
      induction l with
      | nil=>simp [zI]
      | cons y l ihl=>simp only [nA,zI,ihl];omega
     omega
    have bnd:∀ x:D,zB es [x] 136:=fun x=>by unfold zB;rw [oH];simp only [oP,od];omega
    refine v7 _ _ _ _ _ _ _ _ _ _ _ _ _ _ _ _ _ _ _ _ _ _ _ _ _ _ _ _ _ _ _ _ _ _ _ _ _ (Br.dec (fun _=>Br.of (fun _=>Br.of (fun _ N1 hN1=>?_) fun _ N1 hN1=>?_) fun _ N1 hN1=>w9 hr1 _ (by decide) _ N1 _ fun b2 n2 N2 hN2 hr2 hn2 _ _=>⟨⟨rfl,rfl⟩,⟨rfl,rfl⟩,⟨rfl,rfl⟩,fun a N3 hN3 _=>⟨zZ,fun N4 hN4=>fin l es a q n2 b2 N4 (by omega) hr2 (by omega) hes (by omega) (by omega)⟩⟩) fun h=>by omega)
    ·refine w9 hr1 _ (by decide) _ N1 _ fun b2 n2 N2 hN2 hr2 hn2 _ _ N3 hN3=>hP s n2 b2 N3 _ hr2 fun x n4 b4 N4 hN4 hr4 hn4 hx _ _=>⟨⟨rfl,rfl⟩,bnd x,fun c1=>nx n4 b4 x N4 c1 (by omega) hr4 (by omega) (hx.mono (by omega))⟩
    ·exact hP s n1 b1 N1 _ hr1 fun x n4 b4 N4 hN4 hr4 hn4 hx _ _=>⟨⟨rfl,rfl⟩,bnd x,fun c1=>nx n4 b4 x N4 c1 (by omega) hr4 (by omega) hx⟩
 have e1:IntKind.i64.wrap ((0:Int)+1)=0+1:=rfl
 have bnd:∀ x:D,zB es0 [x] 136:=fun x=>by unfold zB;rw [oH];simp only [oP,od];omega
 have endd:∀ N1,N<=N1->∀ b',BCalls prog 254 [.str,.int .i64,.bool] [.pb 0 0 0 0,.str (bytes [41])] [.var [.str s,.int .i64 n,.bool b']] N1 (fun s n b N2=>N1<=N2->zO E [.var [.str (bytes []),.int .i64 0,.bool false]]/\∀ N3,N2<=N3->Q (.ag [.lit (.int .i64 k),.lit (.string nm),.lit (.string ot),.lit (.int .i64 m),t0,t1,r0,r1,.sl a0 9 es0 c0]) s n b N3):=fun N1 hN1 b'=>
  w9 hr _ (by decide) _ N1 _ fun b2 n2 N2 hN2 hr2 hn2 _ _=>⟨zZ,fun N3 hN3=>fin l0 es0 a0 c0 n2 b2 N3 (by omega) hr2 hn2 h0 (by omega) (by omega)⟩
 refine zCk _ _ _ _ _ _ _ _ _ _ _ _ _ _ _ _ _ _ _ _ _ _ _ _ _ _ (Br.dec (fun _=>Br.of (fun _=>Br.dec (fun h=>by omega) fun _=>⟨_,_,_,rfl,fun N1 hN1=>?_⟩) fun _ N1 hN1=>endd N1 hN1 _) fun _ N1 hN1=>endd N1 hN1 _)
 refine hP s n b N1 _ hr fun x n4 b4 N4 hN4 hr4 hn4 hx _ _=>⟨hap x,bnd x,fun c1=>?_⟩
 obtain ⟨t,ht,hct⟩:=hx
 refine key (n2 - 1).toNat 1 n4 b4 (l0++[t]) (es0++[x]) c1 N4 (by omega) (by omega) hr4 (by omega) (h0.snoc ht) (by simp;omega) ?_ (by omega)
 have:zI (l0++[t])=zI l0+t.cnt:=by
  clear key fin endd hw h0
  induction l0 with
  | nil=>simp [zI]
  | cons y l ihl=>simp only [nA,zI,ihl];omega
 omega
theorem zJW {nm ot:ByteArray} (h1:nm.size<=1000) (h2:ot.size<=1000):Tm.Hd nm ot (.mk 0 []) (.mk 0 []) (.lit (.int .i64 0)) (.sl none 2 [] 0) (.lit (.int .i64 0)) (.sl none 2 [] 0):=⟨by omega,by omega,xE 0,xE 0⟩
theorem zBv:(Ty.mk 0 []).cnt=1:=rfl
/-- a form without parts yet -/
theorem zHt {dep:Int} (hP:zJ1 dep) (k:Int) {nm:ByteArray} (h1:nm.size<=1000) (n2:Int) (hn2:0<=n2/\n2<=3) {s:ByteArray} {n:Int} (hr:Rs s n) (b:Bool) (N:Nat) (Q:QT [.ag 9,.str,.int .i64,.bool])
  (hQ:∀ d n' b' N',N<=N'->Rs s n'->n<=n'->Some (1100+2000*(n' - n).toNat) d->Q d s n' b' N'):BCalls prog 262 [.ag 9,.str,.int .i64,.bool] [.pb 0 0 0 0,.dg 9 (.ag [.lit (.int .i64 k),.lit (.string nm),.lit (.string (bytes [])),.lit (.int .i64 0),.lit (.int .i64 0),.sl none 2 [] 0,.lit (.int .i64 0),.sl none 2 [] 0,.sl none 9 [] 0]),.int .i64 n2,.int .i64 dep] [.var [.str s,.int .i64 n,.bool b]] N Q:=
 zJj hP (zJW h1 (by decide)) (l0:=[]) rfl (by simp) (a0:=none) (c0:=0) (fun _=>trivial) (w:=3) (by simp [zBv,zI]) n2 hn2 hr b N Q fun d n' b' N' h hr' hn hd=>hQ d n' b' N' h hr' hn (hd.mono (by omega))
theorem zQA {dep:Int} (hP:zJ1 dep) {m1:Nat} {x:D} (hx:Some m1 x) {s:ByteArray} {n:Int} (hr:Rs s n) (b:Bool) (N:Nat) (Q:QT [.ag 9,.str,.int .i64,.bool])
  (hQ:∀ d n' b' N',N<=N'->Rs s n'->n<=n'->Some (m1+20+2000*(n' - n).toNat) d->Q d s n' b' N'):BCalls prog 264 [.ag 9,.str,.int .i64,.bool] [.pb 0 0 0 0,.dg 9 x,.int .i64 dep] [.var [.str s,.int .i64 n,.bool b]] N Q:=by
 obtain ⟨t,ht,hc⟩:=hx
 have h1:=hr.lo
 have h2:=hr.hi
 have h3:=hr.l
 have app:∀ (n':Int) (b':Bool) (a:Option Addr) (N':Nat),N<=N'->Rs s n'->n<=n'->Q (.ag [.lit (.int .i64 7),.lit (.string (bytes [])),.lit (.string (bytes [])),.lit (.int .i64 0),.lit (.int .i64 0),.sl none 2 [] 0,.lit (.int .i64 0),.sl none 2 [] 0,.sl a 9 [x] 1]) s n' b' N':=fun n' b' a N' h hr' hn=>hQ _ _ _ _ h hr' hn ⟨.mk 7 (bytes []) (bytes []) 0 (.mk 0 []) (.mk 0 []) [t],Tm.is_mk.2 ⟨_,_,_,_,_,_,_,rfl,zJW (by decide) (by decide),by simp,uI ht⟩,by simp only [Tm.cnt,zBv,zI];omega⟩
 have args:∀ (k:Int) (nm:ByteArray) (hnm:nm.size<=1000) (a:Option Addr) (n1:Int) (hr1:Rs s n1) (_:n<=n1) (b':Bool) (N1:Nat) (_:N<=N1) (Q1:QT [.ag 9,.str,.int .i64,.bool]) (_:∀ d n' b' N',N1<=N'->Rs s n'->n1<=n'->Some (m1+20+2000*(n' - n).toNat) d->Q1 d s n' b' N'),BCalls prog 262 [.ag 9,.str,.int .i64,.bool] [.pb 0 0 0 0,.dg 9 (.ag [.lit (.int .i64 k),.lit (.string nm),.lit (.string (bytes [])),.lit (.int .i64 0),.lit (.int .i64 0),.sl none 2 [] 0,.lit (.int .i64 0),.sl none 2 [] 0,.sl a 9 [x] 1]),.int .i64 1,.int .i64 dep] [.var [.str s,.int .i64 n1,.bool b']] N1 Q1:=fun k nm hnm a n1 hr1 hn1 b' N1 hN1 Q1 hQ1=>
  zJj hP (zJW hnm (by decide)) (uI ht) (by simp) (fun y=>by cases a<;>exact ⟨rfl,by simp⟩) (w:=3+m1) (by simp only [zBv,zI];omega) 1 ⟨by omega,by omega⟩ hr1 b' N1 Q1 fun d n' b2 N' h hr' hn' hd=>hQ1 d n' b2 N' h hr' hn' (hd.mono (by omega))
 refine zA6 N x dep s n b Q fun E _ N1 hN1=>wq hr _ (by decide) _ N1 _ fun b2 n2 N2 hN2 hr2 hn2 z2 _ _=>Br.of (fun _=>⟨⟨rfl,rfl⟩,⟨rfl,rfl⟩,⟨rfl,rfl⟩,⟨rfl,rfl⟩,fun a N3 hN3 _ N4 hN4=>?_⟩) fun hb2=>Br.of (fun _=>⟨⟨rfl,rfl⟩,⟨rfl,rfl⟩,⟨rfl,rfl⟩,⟨rfl,rfl⟩,⟨rfl,rfl⟩,fun a N3 hN3 _=>⟨zZ,fun N4 hN4=>app _ _ _ _ (by omega) hr2 hn2⟩⟩) fun _=>Br.dec (fun _=>⟨⟨rfl,rfl⟩,⟨rfl,rfl⟩,⟨rfl,rfl⟩,⟨rfl,rfl⟩,⟨rfl,rfl⟩,fun a N3 hN3 _=>⟨zZ,fun N4 hN4=>app _ _ _ _ (by omega) hr2 hn2⟩⟩) fun hlt=>?_
 ·exact args 7 _ (by decide) a n2 hr2 hn2 _ N4 (by omega) _ fun d n' b' N' h hr' hn hd _ _=>⟨zZ,fun N5 hN5=>hQ _ _ _ _ (by omega) hr' (by omega) hd⟩
 ·have z2:=z2 hb2;subst z2
  have h1:=hr2.lo
  have e1:IntKind.i64.wrap (n2+1)=n2+1:=i64_in _ (by omega)
  rw [e1]
  refine ⟨⟨h1,by omega,by omega⟩,fun N3 hN3=>uP _ N3 _ fun N4 hN4 _=>Br.bne (fun _=>⟨⟨rfl,rfl⟩,⟨rfl,rfl⟩,⟨rfl,rfl⟩,⟨rfl,rfl⟩,⟨rfl,rfl⟩,fun a N5 hN5 _=>⟨zZ,fun N6 hN6=>app _ _ _ _ (by omega) hr2 hn2⟩⟩) fun _=>⟨⟨h1,by omega,by omega⟩,⟨rfl,rfl⟩,⟨rfl,rfl⟩,⟨rfl,rfl⟩,⟨rfl,rfl⟩,fun a N5 hN5 _ N6 hN6=>?_⟩⟩
  exact args 4 _ (by rw [mH];omega) a (n2+1) ⟨h3,by omega,by omega⟩ (by omega) _ N6 (by omega) _ fun d n' b' N' h hr' hn hd _ _=>⟨zZ,fun N7 hN7=>hQ _ _ _ _ (by omega) hr' (by omega) hd⟩
theorem zRJ {dep:Int} (hP:zJ1 dep) {s:ByteArray} {n:Int} (hr:Rs s n) (b:Bool) (N:Nat) (Q:QT [.ag 9,.str,.int .i64,.bool])
  (hQ:∀ d n' b' N',N<=N'->Rs s n'->n<=n'->Some (1100+2000*(n' - n).toNat) d->Q d s n' b' N'):BCalls prog 263 [.ag 9,.str,.int .i64,.bool] [.pb 0 0 0 0,.int .i64 dep] [.var [.str s,.int .i64 n,.bool b]] N Q:=by
 refine zC0 N dep s n b Q fun E N1 hN1=>zEb hr _ N1 _ fun nm n2 N2 hN2 hr2 hn2 hnm _ N3 hN3=>w9 hr2 _ (by decide) _ N3 _ fun b4 n4 N4 hN4 hr4 hn4 _ _ N5 hN5=>zEb hr4 _ N5 _ fun ot n6 N6 hN6 hr6 hn6 hot _ N7 hN7=>w9 hr6 _ (by decide) _ N7 _ fun b8 n8 N8 hN8 hr8 hn8 _ _ N9 hN9=>?_
 refine zKm 8 (by omega) 1 (by omega) hr8 _ N9 _ fun ty d n10 b10 N10 hN10 hr10 hn10 hty hcty _ _ N11 hN11=>w9 hr10 _ (by decide) _ N11 _ fun b12 n12 N12 hN12 hr12 hn12 _ _ N13 hN13=>?_
 refine zKm 8 (by omega) 1 (by omega) hr12 _ N13 _ fun re e n14 b14 N14 hN14 hr14 hn14 hre hcre _ _ N15 hN15=>w9 hr14 _ (by decide) _ N15 _ fun b16 n16 N16 hN16 hr16 hn16 _ _ N17 hN17=>?_
 have hp:2 ^ (8+1)=512:=rfl
 refine zJj hP (k:=9) (m:=0) (ty:=ty) (re:=re) ⟨by omega,by omega,Ty.is_cells hty,Ty.is_cells hre⟩ (l0:=[]) rfl (by simp) (a0:=none) (c0:=0) (fun _=>trivial) (w:=1025) (by simp only [zI];omega) 1 ⟨by omega,by omega⟩ hr16 b16 N17 _ fun x n' b' N' h hr' hn hx _ _=>⟨zZ,fun N18 hN18=>hQ _ _ _ _ (by omega) hr' (by omega) (hx.mono (by omega))⟩
theorem zNg {s:ByteArray} {n:Int} (hr:Rs s n) (b:Bool) (N:Nat) (Q:QT [.ag 9,.str,.int .i64,.bool])
  (hQ:∀ d n' b' N',N<=N'->Rs s n'->n<=n'->Some 3 d->Q d s n' b' N'):BCalls prog 256 [.ag 9,.str,.int .i64,.bool] [.pb 0 0 0 0] [.var [.str s,.int .i64 n,.bool b]] N Q:=by
 have rd:∀ (w:ByteArray) (hw:w.size<=1000) (N:Nat) (Q:QT [.int .i64,.bool]) (hQ:∀ n b N',N<=N'->Q n b N'),ACalls prog 265 [.int .i64,.bool] [.str w] N Q:=fun w hw N Q hQ=>by
  refine pW N w Q fun N1 hN1=>?_
  have en:∀ n b N2,N1<=N2->Br (!b) (∀ N3,N2<=N3->Q 0 false N3) (Br (decide (n<0)) (∀ N4,N2<=N4->Q 0 false N4) (∀ N5,N2<=N5->Q n true N5)):=fun n b N2 hN2=>Br.of (fun _ N3 hN3=>hQ _ _ _ (by omega)) fun _=>Br.of (fun _ N3 hN3=>hQ _ _ _ (by omega)) fun _ N3 hN3=>hQ _ _ _ (by omega)
  have key:∀ (b6:Bool) (t:ByteArray),t.size<=6->zr (fun n b N2=>N1<=N2->Br (!b) (∀ N3,N2<=N3->Q 0 false N3) (Br (decide (n<0)) (∀ N4,N2<=N4->Q 0 false N4) (∀ N5,N2<=N5->Q n true N5))) N1 w b6 t 0 0 N1:=fun b6 t ht=>by
   have lp:∀ (m:Nat) (k:Nat) (v:Int),k+m=t.size->0<=v->v<10 ^ k->zr (fun n b N2=>N1<=N2->Br (!b) (∀ N3,N2<=N3->Q 0 false N3) (Br (decide (n<0)) (∀ N4,N2<=N4->Q 0 false N4) (∀ N5,N2<=N5->Q n true N5))) N1 w b6 t v k N1:=by
    intro m
    induction m with
    | zero=>
      intro k v hk hv0 hv
      have hv6:v<1000000:=Int.lt_of_lt_of_le hv (by
       have:(10:Nat) ^ k<=10 ^ 6:=Nat.pow_le_pow_right (by omega) (by omega)
       have:((10 ^ k:Nat):Int)<=((10 ^ 6:Nat):Int):=Int.ofNat_le.2 this
       simpa using this)
      have e0:IntKind.i64.wrap (0 - v)=0 - v:=i64_in _ (by omega)
      refine sC _ _ _ _ _ _ _ _ (Br.dec (fun h=>by omega) fun _=>Br.of (fun _ N3 hN3=>?_) fun _ N3 hN3=>?_)
      ·rw [e0]
       exact zPV _ (by omega) N3 _ fun z N4 hN4 hz _=>Br.of (fun _ N5 hN5 _=>en _ _ _ (by omega)) fun _ N5 hN5 _=>en _ _ _ (by omega)
      ·exact zPV _ (by omega) N3 _ fun z N4 hN4 hz _=>Br.of (fun _ N5 hN5 _=>en _ _ _ (by omega)) fun _ N5 hN5 _=>en _ _ _ (by omega)
    | succ m ih=>
      intro k v hk hv0 hv
      have hv6:v<1000000:=Int.lt_of_lt_of_le hv (by
       have:(10:Nat) ^ k<=10 ^ 6:=Nat.pow_le_pow_right (by omega) (by omega)
       have:((10 ^ k:Nat):Int)<=((10 ^ 6:Nat):Int):=Int.ofNat_le.2 this
       simpa using this)
      have bd:0<=(k:Int)/\(k:Int)<(t.size:Int):=⟨by omega,by omega⟩
      refine sC _ _ _ _ _ _ _ _ (Br.of (fun _=>⟨bd,Br.dec (fun _ N3 hN3 _=>en _ _ _ (by omega)) fun h1=>⟨bd,Br.dec (fun _ N3 hN3 _=>en _ _ _ (by omega)) fun h2=>⟨bd,?_⟩⟩⟩) fun h=>by
       rw [decide_eq_false_iff_not] at h;omega)
      generalize ((t.data.getD (k:Int).toNat (OfNat.ofNat 0)).toNat:Int)=c at h1 h2 ⊢
      have e3:IntKind.u8.wrap (c - 48)=c - 48:=u8_in _ (by omega)
      rw [e3,i64_in (10*v) (by omega),i64_in (c - 48) (by omega),i64_in (10*v+(c - 48)) (by omega),i64_in ((k:Int)+1) (by omega)]
      refine ih (k+1) _ (by omega) (by omega) ?_
      rw [Int.pow_succ]
      omega
   exact lp t.size 0 0 (by omega) (by omega) (by decide)
  have cut:∀ b6:Bool,∀ t:ByteArray,Br (decide ((t.size:Int)<1)) (∀ N2,N1<=N2->N1<=N2->Br (!false) (∀ N3,N2<=N3->Q 0 false N3) (Br (decide ((0:Int)<0)) (∀ N4,N2<=N4->Q 0 false N4) (∀ N5,N2<=N5->Q 0 true N5))) (Br (decide ((t.size:Int)>6)) (∀ N2,N1<=N2->N1<=N2->Br (!false) (∀ N3,N2<=N3->Q 0 false N3) (Br (decide ((0:Int)<0)) (∀ N4,N2<=N4->Q 0 false N4) (∀ N5,N2<=N5->Q 0 true N5))) (zr (fun n b N2=>N1<=N2->Br (!b) (∀ N3,N2<=N3->Q 0 false N3) (Br (decide (n<0)) (∀ N4,N2<=N4->Q 0 false N4) (∀ N5,N2<=N5->Q n true N5))) N1 w b6 t 0 0 N1)):=fun b6 t=>
   Br.of (fun _ N2 hN2 _=>en 0 false _ (by omega)) fun _=>Br.dec (fun _ N2 hN2 _=>en 0 false _ (by omega)) fun h=>key b6 t (by omega)
  refine zFv N1 w 6 _ (Br.dec (fun h=>⟨⟨by omega,by omega⟩,Br.of (fun _=>⟨⟨by omega,by omega,by omega⟩,cut _ _⟩) fun _=>cut _ _⟩) fun h=>cut _ _)
 refine qq N s n b Q fun E N1 hN1=>zEb hr _ N1 _ fun w n2 N2 hN2 hr2 hn2 hw _ N3 hN3=>rd w hw N3 _ fun v bv N4 hN4 _=>Br.of (fun _ N5 hN5=>zPe v N5 _ fun d N6 hN6 hd _ _=>⟨zZ,fun N7 hN7=>hQ _ _ _ _ (by omega) hr2 hn2 hd⟩) fun _ N5 hN5=>zPe v N5 _ fun d N6 hN6 hd _ _=>⟨zZ,fun N7 hN7=>hQ _ _ _ _ (by omega) hr2 hn2 hd⟩
theorem zQH {dep:Int} (hP:zJ1 dep) {s:ByteArray} {n:Int} (hr:Rs s n) (b:Bool) (N:Nat) (Q:QT [.ag 9,.str,.int .i64,.bool])
  (hQ:∀ d n' b' N',N<=N'->Rs s n'->n<=n'->Some (1100+2000*(n' - n).toNat) d->Q d s n' b' N'):BCalls prog 255 [.ag 9,.str,.int .i64,.bool] [.pb 0 0 0 0,.int .i64 dep] [.var [.str s,.int .i64 n,.bool b]] N Q:=by
 have hp:2 ^ (8+1)=512:=rfl
 refine zBS N dep s n b Q fun E N1 hN1=>wq hr _ (by decide) _ N1 _ fun b2 n2 N2 hN2 hr2 hn2 _ _ _=>Br.of (fun _ N3 hN3=>?_) fun _ N3 hN3=>wq hr2 _ (by decide) _ N3 _ fun b4 n4 N4 hN4 hr4 hn4 _ _ _=>Br.of (fun _ N5 hN5=>?_) fun _ N5 hN5=>wq hr4 _ (by decide) _ N5 _ fun b6 n6 N6 hN6 hr6 hn6 _ _ _=>Br.of (fun _ N7 hN7=>?_) fun _ N7 hN7=>wq hr6 _ (by decide) _ N7 _ fun b8 n8 N8 hN8 hr8 hn8 _ _ _=>Br.of (fun _ N9 hN9=>?_) fun _ N9 hN9=>wq hr8 _ (by decide) _ N9 _ fun b10 n10 N10 hN10 hr10 hn10 _ _ _=>Br.of (fun _ N11 hN11=>?_) fun _ N11 hN11=>wq hr10 _ (by decide) _ N11 _ fun b12 n12 N12 hN12 hr12 hn12 _ _ _=>Br.of (fun _ N13 hN13=>?_) fun _ N13 hN13=>wq hr12 _ (by decide) _ N13 _ fun b14 n14 N14 hN14 hr14 hn14 _ _ _=>Br.of (fun _ N15 hN15=>?_) fun _ N15 hN15=>?_
 ·refine zEb hr2 _ N3 _ fun nm n4 N4 hN4 hr4 hn4 hnm _ N5 hN5=>w9 hr4 _ (by decide) _ N5 _ fun b6 n6 N6 hN6 hr6 hn6 _ _ N7 hN7=>?_
  refine zKm 8 (by omega) 1 (by omega) hr6 _ N7 _ fun ty d n8 b8 N8 hN8 hr8 hn8 hty hcty _ _ N9 hN9=>w9 hr8 _ (by decide) _ N9 _ fun b10 n10 N10 hN10 hr10 hn10 _ _ N11 hN11=>?_
  exact zJj hP (k:=6) (m:=0) (ty:=ty) (re:=.mk 0 []) ⟨by omega,by decide,Ty.is_cells hty,xE 0⟩ (l0:=[]) rfl (by simp) (a0:=none) (c0:=0) (fun _=>trivial) (w:=1025) (by simp only [zI,zBv];omega) 1 ⟨by omega,by omega⟩ hr10 b10 N11 _ fun x n' b' N' h hr' hn hx _ _=>⟨zZ,fun N18 hN18=>hQ _ _ _ _ (by omega) hr' (by omega) (hx.mono (by omega))⟩
 ·refine zEb hr4 _ N5 _ fun nm n6 N6 hN6 hr6 hn6 hnm _ N7 hN7=>w9 hr6 _ (by decide) _ N7 _ fun b8 n8 N8 hN8 hr8 hn8 _ _ N9 hN9=>?_
  exact zHt hP 8 (by omega) 2 ⟨by omega,by omega⟩ hr8 b8 N9 _ fun x n' b' N' h hr' hn hx _ _=>⟨zZ,fun N18 hN18=>hQ _ _ _ _ (by omega) hr' (by omega) (hx.mono (by omega))⟩
 ·exact zRJ hP hr6 _ N7 _ fun x n' b' N' h hr' hn hx _ _=>⟨zZ,fun N18 hN18=>hQ _ _ _ _ (by omega) hr' (by omega) (hx.mono (by omega))⟩
 ·exact zHt hP 5 (by decide) 3 ⟨by omega,by omega⟩ hr8 _ N9 _ fun x n' b' N' h hr' hn hx _ _=>⟨zZ,fun N18 hN18=>hQ _ _ _ _ (by omega) hr' (by omega) (hx.mono (by omega))⟩
 ·exact zHt hP 12 (by decide) 1 ⟨by omega,by omega⟩ hr10 _ N11 _ fun x n' b' N' h hr' hn hx _ _=>⟨zZ,fun N18 hN18=>hQ _ _ _ _ (by omega) hr' (by omega) (hx.mono (by omega))⟩
 ·exact zHt hP 13 (by decide) 1 ⟨by omega,by omega⟩ hr12 _ N13 _ fun x n' b' N' h hr' hn hx _ _=>⟨zZ,fun N18 hN18=>hQ _ _ _ _ (by omega) hr' (by omega) (hx.mono (by omega))⟩
 ·exact zHt hP 4 (by decide) 1 ⟨by omega,by omega⟩ hr14 _ N15 _ fun x n' b' N' h hr' hn hx _ _=>⟨zZ,fun N18 hN18=>hQ _ _ _ _ (by omega) hr' (by omega) (hx.mono (by omega))⟩
 ·refine hP s n14 _ N15 _ hr14 fun x n16 b16 N16 hN16 hr16 hn16 hx _ _ N17 hN17=>?_
  exact zQA hP hx hr16 b16 N17 _ fun x n' b' N' h hr' hn hx _ _=>⟨zZ,fun N18 hN18=>hQ _ _ _ _ (by omega) hr' (by omega) (hx.mono (by omega))⟩
theorem zQQ:∀ (j:Nat),j<=20->∀ n1:Int,n1+j=21->zJ1 n1:=by
 have nod:∀ (k:Int) {m:Nat} {x:D} (a:Option Addr),Some m x->Some (3+m) (.ag [.lit (.int .i64 k),.lit (.string (bytes [])),.lit (.string (bytes [])),.lit (.int .i64 0),.lit (.int .i64 0),.sl none 2 [] 0,.lit (.int .i64 0),.sl none 2 [] 0,.sl a 9 [x] 1]):=fun k m x a ⟨t,ht,hc⟩=>
  ⟨.mk k (bytes []) (bytes []) 0 (.mk 0 []) (.mk 0 []) [t],Tm.is_mk.2 ⟨_,_,_,_,_,_,_,rfl,zJW (by decide) (by decide),by simp,uI ht⟩,by simp only [Tm.cnt,zBv,zI];omega⟩
 intro j
 induction j with
 | zero=>
   intro _ n1 hn1 s n b N Q hr hQ
   exact tF N n1 s n b Q fun E=>Br.of (fun _=>⟨zZ,fun N1 hN1=>hQ _ _ _ _ hN1 hr (mI _) (some_nod.mono (by omega))⟩) fun _=>Br.dec (fun _=>⟨zZ,fun N1 hN1=>hQ _ _ _ _ hN1 hr (mI _) (some_nod.mono (by omega))⟩) fun h=>by omega
 | succ j ih=>
   intro hj n1 hn1 s n b N Q hr hQ
   have e1:IntKind.i64.wrap (n1+1)=n1+1:=i64_in _ (by omega)
   have hP:=ih (by omega) (n1+1) (by omega)
   have sz:∀ x,((bytes [x]).size:Int)=1:=fun _=>rfl
   refine tF N n1 s n b Q fun E=>Br.of (fun _=>⟨zZ,fun N1 hN1=>hQ _ _ _ _ hN1 hr (mI _) (some_nod.mono (by omega))⟩) fun _=>Br.dec (fun _=>⟨zZ,fun N1 hN1=>hQ _ _ _ _ hN1 hr (mI _) (some_nod.mono (by omega))⟩) fun _=>Br.dec (fun _=>⟨zZ,fun N1 hN1=>hQ _ _ _ _ hN1 hr (mI _) (some_nod.mono (by omega))⟩) fun hlt N1 hN1=>?_
   rw [e1]
   refine wq hr _ (by decide) _ N1 _ fun b2 n2 N2 hN2 hr2 hn2 z2 _ _=>Br.of (fun _ N3 hN3=>zMd 1 N3 _ fun d N4 hN4 hd _ _=>⟨zZ,fun N5 hN5=>hQ _ _ _ _ (by omega) hr2 (by omega) (hd.mono (by omega))⟩) fun hb2 N3 hN3=>?_
   have z2:=z2 hb2;subst z2
   refine wq hr2 _ (by decide) _ N3 _ fun b4 n4 N4 hN4 hr4 hn4 z4 _ _=>Br.of (fun _ N5 hN5=>zMd 0 N5 _ fun d N6 hN6 hd _ _=>⟨zZ,fun N7 hN7=>hQ _ _ _ _ (by omega) hr4 (by omega) (hd.mono (by omega))⟩) fun hb4 N5 hN5=>?_
   have z4:=z4 hb4;subst z4
   refine wq hr4 _ (by decide) _ N5 _ fun b6 n6 N6 hN6 hr6 hn6 z6 g6 _=>Br.of (fun hb6 N7 hN7=>?_) fun hb6 N7 hN7=>?_
   ·have g6:=g6 hb6
    rw [sz] at g6
    exact hP s n6 _ N7 _ hr6 fun x n8 b8 N8 hN8 hr8 hn8 hx _ _=>⟨⟨rfl,rfl⟩,⟨rfl,rfl⟩,⟨rfl,rfl⟩,fun a N9 hN9 _=>⟨zZ,fun N10 hN10=>hQ _ _ _ _ (by omega) hr8 (by omega) ((nod 11 a hx).mono (by omega))⟩⟩
   have z6:=z6 hb6;subst z6
   refine wq hr6 _ (by decide) _ N7 _ fun b8 n8 N8 hN8 hr8 hn8 z8 g8 _=>Br.of (fun hb8 N9 hN9=>?_) fun hb8 N9 hN9=>?_
   ·have g8:=g8 hb8
    rw [sz] at g8
    exact hP s n8 _ N9 _ hr8 fun x n10 b10 N10 hN10 hr10 hn10 hx _ _ N11 hN11=>w9 hr10 _ (by decide) _ N11 _ fun b12 n12 N12 hN12 hr12 hn12 _ _=>⟨⟨rfl,rfl⟩,⟨rfl,rfl⟩,⟨rfl,rfl⟩,⟨rfl,rfl⟩,⟨rfl,rfl⟩,fun a N13 hN13 _=>⟨zZ,fun N14 hN14=>hQ _ _ _ _ (by omega) hr12 (by omega) ((nod 10 a hx).mono (by omega))⟩⟩
   have z8:=z8 hb8;subst z8
   refine wq hr8 _ (by decide) _ N9 _ fun b10 n10 N10 hN10 hr10 hn10 z10 g10 _=>Br.of (fun hb10 N11 hN11=>?_) fun hb10=>?_
   ·have g10:=g10 hb10
    rw [sz] at g10
    exact zQH hP hr10 _ N11 _ fun x n12 b12 N12 hN12 hr12 hn12 hx _ _=>⟨zZ,fun N13 hN13=>hQ _ _ _ _ (by omega) hr12 (by omega) (hx.mono (by omega))⟩
   have z10:=z10 hb10;subst z10
   have bd:0<=n10/\n10<(s.size:Int):=⟨hr10.lo,by omega⟩
   have word:∀ N11,N10<=N11->∀ (b':Bool),BCalls prog 257 [.str,.str,.int .i64,.bool] [.pb 0 0 0 0] [.var [.str s,.int .i64 n10,.bool b']] N11 (fun s_10 s_11 n_10 b_15 N37=>N11<=N37->∀ N38,N37<=N38->ACalls prog 155 [.ag 9] [.str s_10] N38 (fun x_6 N39=>N38<=N39->Bel N39 x_6->zO E [.var [.str (bytes []),.int .i64 0,.bool false]]/\∀ N40,N39<=N40->Q x_6 s_11 n_10 b_15 N40)):=fun N11 hN11 b'=>
    zEb hr10 _ N11 _ fun w n12 N12 hN12 hr12 hn12 hw _ N13 hN13=>zP2 w (by omega) N13 _ fun d N14 hN14 hd _ _=>⟨zZ,fun N15 hN15=>hQ _ _ _ _ (by omega) hr12 hn12 (hd.mono (by omega))⟩
   exact ⟨bd,Br.of (fun _=>⟨bd,Br.of (fun _ N11 hN11=>zNg hr10 _ N11 _ fun d n12 b12 N12 hN12 hr12 hn12 hd _ _=>⟨zZ,fun N13 hN13=>hQ _ _ _ _ (by omega) hr12 hn12 (hd.mono (by omega))⟩) fun _ N11 hN11=>word N11 hN11 _⟩) fun _ N11 hN11=>word N11 hN11 _⟩
/-- what a short text is parsed to -/
theorem zPK {s:ByteArray} (hs:s.size<=1000) (N:Nat) (Q:QT [.ag 9,.bool]) (hQ:∀ d b N',N<=N'->Some 2100000 d->Q d b N'):ACalls prog 202 [.ag 9,.bool] [.str s] N Q:=by
 have z:=some_nod.mono (show 3<=2100000 by omega)
 refine zA9 N s Q fun N1 hN1=>zQQ 20 (by omega) 1 (by omega) s 0 _ N1 _ ⟨hs,by omega,by omega⟩ fun x n2 b2 N2 hN2 hr2 hn2 hx _ _=>Br.of (fun _ N3 hN3=>hQ _ _ _ (by omega) z) fun _=>Br.of (fun _ N3 hN3=>hQ _ _ _ (by omega) z) fun _ N3 hN3=>?_
 have:=hr2.hi
 obtain ⟨t,ht,hc⟩:=hx
 exact zP4 t x ht (by omega) N3 _ fun w N4 hN4 _ _=>Br.of (fun _ N5 hN5=>hQ _ _ _ (by omega) z) fun _ N5 hN5=>hQ _ _ _ (by omega) ⟨t,ht,by omega⟩
end Go.Proofs.YtkdjhkfiolhkiaaGreat
set_option maxRecDepth 100000
namespace Go.Proofs.YtkdjhkfiolhkiaaGreat
open Go Go.Proofs Go.Proofs.Tryz Go.IntWalk
/-- some type of at most this many nodes, by its form -/
def WfD (m:Nat) (d:D):Prop:=∃ t:Ty,Wf t/\t.Is d/\t.cnt<=m
theorem WfD.mono {m n:Nat} {d:D} (h:WfD m d) (hn:m<=n):WfD n d:=by obtain ⟨t,h0,h1,h2⟩:=h;exact ⟨t,h0,h1,by omega⟩
theorem zOO (n:Int) {es:List D} {i:Int} (hcu:Cu es i) (a:Option Addr) (c:Nat) (h:Int) (N:Nat) (Q:QT [.ag 2,.sl 0,.int .i64,.int .i64])
  (hQ:∀ d' a' es' c' i' h' N',N<=N'->Cu es' i'->WfD 3 d'->Q d' a' es' c' i' h' N'):BCalls prog 91 [.ag 2,.sl 0,.int .i64,.int .i64] [.pb 0 0 0 0,.int .i64 n] [.var [.sv a 0 es c,.int .i64 i,.int .i64 h]] N Q:=by
 refine zA1 N n a es c i h Q fun E _ N1 hN1=>wl N1 _ fun x N2 hN2 hx _ _ _=>?_
 have i3:WfD 3 x:=⟨_,.int,hx,by decide⟩
 have fn:∀ N3,ACalls prog 153 [.ag 2] [.dg 2 x,.dg 2 x] N3 (fun y N4=>N3<=N4->Bel N4 y->zO E [.var [.sv none 0 [] 0,.int .i64 0,.int .i64 0]]/\∀ N5,N4<=N5->WfD 3 y/\N3<=N5):=fun N3=>
  v4 tInt tInt x x hx hx (by decide) (by decide) N3 _ fun y N4 hN4 hy _ _ _=>⟨zZ,fun N5 hN5=>⟨⟨_,.fn .int .int,hy,by decide⟩,by omega⟩⟩
 have last:∀ {es:List D} {i:Int} (_:Cu es i) a c h N3,N2<=N3->BCalls prog 81 [.bool,.sl 0,.int .i64,.int .i64] [.pb 0 0 0 0,.int .i64 3] [.var [.sv a 0 es c,.int .i64 i,.int .i64 h]] N3 (fun b_2 a_2 es_2 c_2 n_4 n_5 N15=>N3<=N15->Bel N15 (D.sl a_2 0 es_2 c_2)->Br b_2 (∀ N16,N15
  <= N16->ACalls prog 153 [.ag 2] [.dg 2 x,.dg 2 x] N16 (fun x_3 N17=>N16<=N17->Bel N17 x_3->zO E [.var [.sv none 0 [] 0,.int .i64 0,.int .i64 0]]
  /\ ∀ N18,N17<=N18->Q x_3 a_2 es_2 c_2 n_4 n_5 N18)) (zO E [.var [.sv none 0 [] 0,.int .i64 0,.int .i64 0]]/\∀ N19,N15<=N19->Q x a_2 es_2 c_2 n_4
  n_5 N19)):=fun {es i} hcu a c h N3 hN3=>rS hcu 3 (by omega) a c h N3 _ fun b a1 es1 c1 i1 h1 N4 hN4 hc1 _ _=>Br.of (fun _ N5 hN5=>v4 tInt tInt x x hx hx (by decide) (by decide) N5 _ fun y N6 hN6 hy _ _ _=>⟨zZ,fun N7 hN7=>hQ _ _ _ _ _ _ _ (by omega) hc1 ⟨_,.fn .int .int,hy,by decide⟩⟩) fun _=>⟨zZ,fun N7 hN7=>hQ _ _ _ _ _ _ _ (by omega) hc1 i3⟩
 refine Br.of (fun _ N3 hN3=>?_) fun _ N3 hN3=>last hcu a c h N3 (by omega)
 exact rS hcu 2 (by omega) a c h N3 _ fun b a1 es1 c1 i1 h1 N4 hN4 hc1 _ _=>Br.of (fun _ N5 hN5=>wJ tInt x hx (by decide) N5 _ fun y N6 hN6 hy _ _ _=>⟨zZ,fun N7 hN7=>hQ _ _ _ _ _ _ _ (by omega) hc1 ⟨_,.code .int,hy,by decide⟩⟩) fun _ N5 hN5=>last hc1 a1 c1 h1 N5 (by omega)
/-- what l9Gen does at this depth: terms of at most S nodes -/
def zKM (k S:Nat):Prop:=∀ (t:Ty) (_:Wf t) (_:t.cnt+k<=20) {d:D} (_:t.Is d) {g:List Tg} {es0:List D} (_:Ctx g es0) (_:g.length+k<=1000) (_:∀ x∈g,x.ty.cnt<=1000) (n:Int) (a0:Option Addr) (c0:Nat) {es:List D} {i:Int} (_:Cu es i) (a:Option Addr) (c:Nat) (h:Int) (N:Nat) (Q:QT [.ag 9,.sl 0,.int .i64,.int .i64])
    (_:∀ d' a' es' c' i' h' N',N<=N'->Cu es' i'->Some S d'->Q d' a' es' c' i' h' N'),
    BCalls prog 92 [.ag 9,.sl 0,.int .i64,.int .i64] [.pb 0 0 0 0,.sv a0 4 es0 c0,.dg 2 d,.int .i64 n,.int .i64 k] [.var [.sv a 0 es c,.int .i64 i,.int .i64 h]] N Q
theorem zJO {m:Nat} {x y:D} (hx:Some m x) (hy:Some m y):∀ d∈[x,y],Some m d:=fun d hd=>by
 simp only [oG,nN,mi] at hd
 rcases hd with rfl | rfl<;>assumption
theorem zBZ {m:Nat} {x:D} (hx:Some m x):∀ d∈[x],Some m d:=fun d hd=>by rw [nJ] at hd;subst hd;exact hx
theorem vL {l:List ByteArray} {s:ByteArray} (h:s∈l) (hl:(l.all fun s=>decide (s.size<=1000))=true):s.size<=1000:=by
 have:=oW.1 hl s h
 simpa using this
theorem zQN {k S:Nat} (hk:k<=15) (hS:S<=100000000) (hG:zKM k S) {t:Ty} {d:D} (hd:t.Is d) {g:List Tg} {es0:List D} (ctx:Ctx g es0) (hg:g.length+k<=1000) (hgc:∀ x∈g,x.ty.cnt<=1000) (n:Int) (a0:Option Addr) (c0:Nat) {es:List D} {i:Int} (hcu:Cu es i) (a:Option Addr) (c:Nat) (h:Int) (N:Nat) (Q:QT [.ag 9,.sl 0,.int .i64,.int .i64])
  (hQ:∀ d' a' es' c' i' h' N',N<=N'->Cu es' i'->Some (3+2*S) d'->Q d' a' es' c' i' h' N') :
  BCalls prog 160 [.ag 9,.sl 0,.int .i64,.int .i64] [.pb 0 0 0 0,.sv a0 4 es0 c0,.dg 2 d,.int .i64 n,.int .i64 ((k+1:Nat):Int)] [.var [.sv a 0 es c,.int .i64 i,.int .i64 h]] N Q:=by
 obtain ⟨kt,l,rfl⟩:∃ k l,t=Ty.mk k l:=by cases t;exact ⟨_,_,rfl⟩
 obtain ⟨ta,tes,tc,rfl,_,_⟩:=Ty.is_mk.1 hd
 have ek:IntKind.i64.wrap (((k+1:Nat):Int) - 1)=(k:Int):=by rw [i64_in _ (by omega)];omega
 have ci:tInt.cnt+k<=20:=by have:tInt.cnt=1:=rfl;omega
 have cb:tBool.cnt+k<=20:=by have:tBool.cnt=1:=rfl;omega
 refine zBL N a0 es0 c0 _ n _ a es c i h Q fun E _ _ _ N1 hN1=>wl N1 _ fun x N2 hN2 hx _ _ _ N3 hN3=>vB N3 _ fun y N4 hN4 hy _ _ _=>⟨kt,rfl,?_⟩
 rw [ek]
 have bin:∀ {u:Ty} {z:D} (_:Wf u) (_:u.cnt+k<=20) (_:u.Is z) {s:ByteArray} (_:s.size<=1000) {es:List D} {i:Int} (_:Cu es i) a c h N5,N4<=N5->BCalls prog 92 [.ag 9,.sl 0,.int .i64,.int .i64] [.pb 0 0 0 0,.sv a0 4 es0 c0,.dg 2 z,.int .i64 n,.int .i64 k] [.var [.sv a 0 es c,.int .i64 i,.int .i64 h]] N5 (fun x_2 a_2 es_2 c_2 n_3 n_4 N8=>N5<=N8->Bel N8 x_2->Bel N8 (D.sl a_2 0 es_2 c_2)->∀ N9,N8<=N9->BCalls prog 92 [.ag 9,.sl 0,.int .i64,.int .i64] [.pb 0 0 0 0,.sv
   a0 4 es0 c0,.dg 2 z,.int .i64 n,.int .i64 k] [Bx.var [.sv a_2 0 es_2 c_2,.int .i64 n_3,.int .i64 n_4]] N9 (fun x_3 a_3 es_3 c_3 n_5
   n_6 N10=>N9<=N10->Bel N10 x_3->Bel N10 (D.sl a_3 0 es_3 c_3)->(2=([x_2,x_3]).length/\2=2)/\∀ a_4,ApA a_4 [x_2,x_3]->∀ N11,N10<=N11->ww
   N11 [a_4]->ACalls prog 187 [.ag 9] [.str s,.sv a_4 9 [x_2,x_3] 2] N11 (fun x_4 N12=>N11<=N12->Off [a_4] x_4/\(Bel N12 x_4->zO E [.var [.sv none
   0 [] 0,.int .i64 0,.int .i64 0]]/\∀ N13,N12<=N13->Q x_4 a_3 es_3 c_3 n_5 n_6 N13)))):=fun {u z} hw hc hz {s} hs {es i} hcu a c h N5 hN5=>
  hG _ hw hc hz ctx hg hgc n a0 c0 hcu a c h N5 _ fun x2 a2 es2 c2 i2 h2 N6 hN6 hc2 hx2 _ _ _ N7 hN7=>hG _ hw hc hz ctx hg hgc n a0 c0 hc2 a2 c2 h2 N7 _ fun x3 a3 es3 c3 i3 h3 N8 hN8 hc3 hx3 _ _ _=>⟨⟨rfl,rfl⟩,fun a4 _ N9 hN9 hbel=>zRn (by omega) (by omega) (zJO hx2 hx3) (by simp) a4 2 N9 _ fun w N10 hN10 hw ho _=>⟨wC hbel ho,fun _=>⟨zZ,fun N11 hN11=>hQ _ _ _ _ _ _ _ (by omega) hc3 (hw.mono (by simp))⟩⟩⟩
 refine Br.of (fun _ N5 hN5=>?_) fun _ N5 hN5=>?_
 ·exact ud (l:=[bytes [43],bytes [42],bytes [45],bytes [43]]) hcu (by decide) (by decide) a c h 4 4 N5 _ fun s a1 es1 c1 i1 h1 N6 hN6 hc1 hs _ _ _ N7 hN7=>bin .int ci hx (vL hs (by decide)) hc1 a1 c1 h1 N7 (by omega)
 ·refine yW hcu 4 (by omega) a c h N5 _ fun r a1 es1 c1 i1 h1 N6 hN6 hc1 _ _ _ _ _=>Br.of (fun _ N7 hN7=>?_) fun _=>Br.of (fun _ N7 hN7=>?_) fun _ N7 hN7=>?_
  ·exact hG _ .bool cb hy ctx hg hgc n a0 c0 hc1 a1 c1 h1 N7 _ fun x2 a2 es2 c2 i2 h2 N8 hN8 hc2 hx2 _ _ _=>⟨⟨rfl,rfl⟩,fun a4 _ N9 hN9 hbel=>zRn (by decide) (by omega) (zBZ hx2) (by simp) a4 1 N9 _ fun w N10 hN10 hw ho _=>⟨wC hbel ho,fun _=>⟨zZ,fun N11 hN11=>hQ _ _ _ _ _ _ _ (by omega) hc2 (hw.mono (by simp;omega))⟩⟩⟩
  ·exact ud (l:=[bytes [38],bytes [124]]) hc1 (by decide) (by decide) a1 c1 h1 2 2 N7 _ fun s a2 es2 c2 i2 h2 N8 hN8 hc2 hs _ _ _ N9 hN9=>bin .bool cb hy (vL hs (by decide)) hc2 a2 c2 h2 N9 (by omega)
  ·exact ud (l:=[bytes [61],bytes [60]]) hc1 (by decide) (by decide) a1 c1 h1 2 2 N7 _ fun s a2 es2 c2 i2 h2 N8 hN8 hc2 hs _ _ _ N9 hN9=>bin .int ci hx (vL hs (by decide)) hc2 a2 c2 h2 N9 (by omega)
theorem zQz {t:Ty} (hw:Wf t):∀ {d:D} (_:t.Is d) (N:Nat) (Q:QT [.int .i64]) (_:∀ r N',N<=N'->Q r N'),ACalls prog 206 [.int .i64] [.dg 2 d] N Q:=by
 have zt:∀ {k:Int} {l:List Ty} {d:D} (_:(Ty.mk k l).Is d) (_:k≠4) (N:Nat) (Q:QT [.int .i64]) (_:∀ r N',N<=N'->Q r N'),ACalls prog 206 [.int .i64] [.dg 2 d] N Q:=fun {k l d} hd hk N Q hQ=>by
  obtain ⟨b,fs,c,rfl,_,_⟩:=Ty.is_mk.1 hd
  exact pE N _ Q fun _=>⟨k,rfl,Br.beq (fun h=>absurd h hk) fun _ N4 hN4=>hQ _ _ hN4⟩
 induction hw with
 | int=>exact fun hd=>zt hd (by decide)
 | bool=>exact fun hd=>zt hd (by decide)
 | fn _ _ _ _=>exact fun hd=>zt hd (by decide)
 | @code u _ ih=>
   intro d hd N Q hQ
   obtain ⟨b,fs,c,rfl,_,d1,_,rfl,h3,rfl⟩:=Ty.is_mk.1 hd
   exact pE N _ Q fun _=>⟨4,rfl,Br.beq (fun _=>⟨_,_,_,rfl,⟨by simp,by simp⟩,fun N1 hN1=>ih h3 N1 _ fun r N2 hN2 _ N3 hN3=>hQ _ _ (by omega)⟩) fun h=>absurd rfl h⟩
theorem zNn {g:List Tg} {m M:Nat} (hg:g.length+m<=M) (hgc:∀ x∈g,x.ty.cnt<=1000) (n:Int):(zN2 g n).length+m<=M/\∀ x∈zN2 g n,x.ty.cnt<=1000:=by
 have h:=zEJ g n g 0
 exact ⟨by have h2:=h.2;show (sK g n g 0).length+m<=M;omega,fun x hx=>hgc x (h.1 x hx)⟩
theorem zFH {g:List Tg} {k:Nat} (hg:g.length+(k+1)<=1000) (hgc:∀ x∈g,x.ty.cnt<=1000) {y:Tg} (hy:y.ty.cnt<=1000):(g++[y]).length+k<=1000/\∀ x∈g++[y],x.ty.cnt<=1000:=by
 refine ⟨by simp;omega,fun x hx=>?_⟩
 rcases oI.1 hx with hx | hx
 ·exact hgc x hx
 ·rw [nJ] at hx;subst hx;exact hy
theorem zRU {k S:Nat} (hk:k<=15) (h100:100<=S) (hS:S<=100000000) (hG:zKM k S) {t:Ty} (hw:Wf t) (hc:t.cnt+(k+1)<=20) {d:D} (hd:t.Is d) {g:List Tg} {es0:List D} (ctx:Ctx g es0) (hg:g.length+(k+1)<=1000) (hgc:∀ x∈g,x.ty.cnt<=1000) (n:Int) (a0:Option Addr) (c0:Nat) {es:List D} {i:Int} (hcu:Cu es i) (a:Option Addr) (c:Nat) (h:Int) (N:Nat) (Q:QT [.ag 9,.sl 0,.int .i64,.int .i64])
  (hQ:∀ d' a' es' c' i' h' N',N<=N'->Cu es' i'->Some (4*S) d'->Q d' a' es' c' i' h' N') :
  BCalls prog 159 [.ag 9,.sl 0,.int .i64,.int .i64] [.pb 0 0 0 0,.sv a0 4 es0 c0,.dg 2 d,.int .i64 n,.int .i64 ((k+1:Nat):Int)] [.var [.sv a 0 es c,.int .i64 i,.int .i64 h]] N Q:=by
 have ek:IntKind.i64.wrap (((k+1:Nat):Int) - 1)=(k:Int):=by rw [i64_in _ (by omega)];omega
 have cb:tBool.cnt+k<=20:=by have:tBool.cnt=1:=rfl;omega
 have cc:(r6 t).cnt+k<=20:=by have:(r6 t).cnt=1+(t.cnt+0):=rfl;omega
 have hg':g.length+k<=1000:=by omega
 have e3:∀ x y z:D,∀ {m:Nat},Some m x->Some m y->Some m z->∀ d∈[x,y,z],Some m d:=fun x y z m hx hy hz d hd=>by
  simp only [oG,nN,mi] at hd
  rcases hd with rfl | rfl | rfl<;>assumption
 refine zB5 N a0 es0 c0 d n _ a es c i h Q fun E _ _ _ N1 hN1=>ud (l:=[bytes [120],bytes [121],bytes [122]]) hcu (by decide) (by decide) a c h 3 3 N1 _ fun s a1 es1 c1 i1 h1 N2 hN2 hc1 hs _ _ _ N3 hN3=>yW hc1 5 (by omega) a1 c1 h1 N3 _ fun r a2 es2 c2 i2 h2 N4 hN4 hc2 _ _ _ _ _=>?_
 have hs:=vL hs (by decide)
 rw [ek]
 have small:∀ N5,N4<=N5->BCalls prog 158 [.ag 9,.sl 0,.int .i64,.int .i64] [.pb 0 0 0 0,.dg 2 d,.int .i64 n] [.var [.sv a2 0 es2 c2,.int .i64 i2,.int .i64 h2]] N5 (fun x a es c n_1 n_2 N6=>N5<=N6->Bel N6 x->Bel N6 (D.sl a 0 es c)->zO E [.var [.sv none 0 [] 0,.int .i64 0,.int .i64 0]]/\∀ N7,N6<=N7->Q x a es c n_1 n_2 N7):=fun N5 hN5=>
  zH4 hw (by omega) hd n hc2 a2 c2 h2 N5 _ fun x a3 es3 c3 i3 h3 N6 hN6 hc3 hx _ _ _=>⟨zZ,fun N7 hN7=>hQ _ _ _ _ _ _ _ (by omega) hc3 (hx.mono (by omega))⟩
 have nod:∀ (kk:Int) {x:D} (_:Some S x) {es:List D} {i:Int} (_:Cu es i) a c h N5,N4<=N5->(1=([x]).length/\1=1)/\∀ a_2,ApA a_2 [x]->∀ N6,N5<=N6->ww N6 [a_2]->ACalls prog 123 [.ag 9] [.int .i64 kk,.sv a_2 9 [x] 1] N6 (fun x_1 N7=>N6<=N7->Off [a_2] x_1/\(Bel N7 x_1->zO E [.var [.sv none 0 [] 0,.int .i64 0,.int .i64 0]]/\∀ N8,N7<=N8->Q x_1 a es c i h N8)):=fun kk {x} hx {es i} hcu a c h N5 hN5=>
  ⟨⟨rfl,rfl⟩,fun a4 _ N9 hN9 hbel=>zEV kk (by omega) (zBZ hx) (by simp) a4 1 N9 _ fun w N10 hN10 hw ho _=>⟨wC hbel ho,fun _=>⟨zZ,fun N11 hN11=>hQ _ _ _ _ _ _ _ (by omega) hcu (hw.mono (by simp;omega))⟩⟩⟩
 refine Br.of (fun _ N5 hN5=>?_) fun _=>Br.of (fun _ N5 hN5=>?_) fun _=>Br.of (fun _ N5 hN5=>?_) fun _=>Br.of (fun _ N5 hN5=>?_) fun _=>Br.of (fun _ N5 hN5=>?_) fun _ N5 hN5=>small N5 hN5
 ·refine vB N5 _ fun y N6 hN6 hy _ _ _ N7 hN7=>hG _ .bool cb hy ctx hg' hgc n a0 c0 hc2 a2 c2 h2 N7 _ fun x1 a3 es3 c3 i3 h3 N8 hN8 hc3 hx1 _ _ _ N9 hN9=>hG _ hw (by omega) hd ctx hg' hgc n a0 c0 hc3 a3 c3 h3 N9 _ fun x2 a4 es4 c4 i4 h4 N10 hN10 hc4 hx2 _ _ _ N11 hN11=>hG _ hw (by omega) hd ctx hg' hgc n a0 c0 hc4 a4 c4 h4 N11 _ fun x3 a5 es5 c5 i5 h5 N12 hN12 hc5 hx3 _ _ _=>⟨⟨rfl,rfl⟩,fun a6 _ N13 hN13 hbel=>?_⟩
  exact zEV 5 (by omega) (e3 x1 x2 x3 hx1 hx2 hx3) (by simp) a6 3 N13 _ fun w N14 hN14 hw ho _=>⟨wC hbel ho,fun _=>⟨zZ,fun N15 hN15=>hQ _ _ _ _ _ _ _ (by omega) hc5 (hw.mono (by simp;omega))⟩⟩
 ·refine zOO n hc2 a2 c2 h2 N5 _ fun y a3 es3 c3 i3 h3 N6 hN6 hc3 hy _ _ _ N7 hN7=>?_
  obtain ⟨u,hu,hud,huc⟩:=hy
  refine hG _ hu (by omega) hud ctx hg' hgc n a0 c0 hc3 a3 c3 h3 N7 _ fun x6 a4 es4 c4 i4 h4 N8 hN8 hc4 hx6 _ _ _ N9 hN9=>?_
  refine uv ctx (by omega) a0 c0 (s:=s) (by omega) hud n N9 _ fun a5 es5 c5 N10 hN10 ctx2 _ _ N11 hN11=>?_
  obtain ⟨g2,g3⟩:=zFH hg hgc (y:=⟨s,u,n⟩) (by show u.cnt<=1000;omega)
  exact hG _ hw (by omega) hd ctx2 g2 g3 n a5 c5 hc4 a4 c4 h4 N11 _ fun x7 a6 es6 c6 i6 h6 N12 hN12 hc6 hx7 _ _ _ N13 hN13=>zRP (by omega) (by omega) hx6 hx7 N13 _ fun x8 N14 hN14 hx8 _ _=>⟨zZ,fun N15 hN15=>hQ _ _ _ _ _ _ _ (by omega) hc6 (hx8.mono (by omega))⟩
 ·refine zOO n hc2 a2 c2 h2 N5 _ fun y a3 es3 c3 i3 h3 N6 hN6 hc3 hy _ _ _ N7 hN7=>?_
  obtain ⟨u,hu,hud,huc⟩:=hy
  refine uv ctx (by omega) a0 c0 (s:=s) (by omega) hud n N7 _ fun a5 es5 c5 N8 hN8 ctx2 _ _ N9 hN9=>?_
  obtain ⟨g2,g3⟩:=zFH hg hgc (y:=⟨s,u,n⟩) (by show u.cnt<=1000;omega)
  refine hG _ hw (by omega) hd ctx2 g2 g3 n a5 c5 hc3 a3 c3 h3 N9 _ fun x10 a6 es6 c6 i6 h6 N10 hN10 hc6 hx10 _ _ _ N11 hN11=>zPb (by omega) hud (by omega) (by omega) hx10 N11 _ fun x11 N12 hN12 hx11 _ _ N13 hN13=>?_
  exact hG _ hu (by omega) hud ctx hg' hgc n a0 c0 hc6 a6 c6 h6 N13 _ fun x12 a7 es7 c7 i7 h7 N14 hN14 hc7 hx12 _ _ _=>⟨⟨rfl,rfl⟩,fun a8 _ N15 hN15 hbel=>zEV 7 (m:=5+S) (by omega) (zJO (hx11.mono (by omega)) (hx12.mono (by omega))) (by simp) a8 2 N15 _ fun w N16 hN16 hw ho _=>⟨wC hbel ho,fun _=>⟨zZ,fun N17 hN17=>hQ _ _ _ _ _ _ _ (by omega) hc7 (hw.mono (by simp;omega))⟩⟩⟩
 ·refine zQz hw hd N5 _ fun r2 N6 hN6 _=>Br.of (fun _ N7 hN7=>?_) fun _=>Br.of (fun _ N7 hN7=>?_) fun _ N7 hN7=>small N7 (by omega)
  ·refine zDn ctx (by omega) (fun x hx=>oS (hgc x hx) (by omega)) a0 c0 n N7 _ fun a3 es3 c3 N8 hN8 ctx2 _ _ N9 hN9=>?_
   obtain ⟨g2,g3⟩:=zNn hg' hgc n
   refine wJ t d hd (by omega) N9 _ fun y N10 hN10 hy _ _ _ N11 hN11=>?_
   exact hG _ (.code hw) cc hy ctx2 g2 g3 n a3 c3 hc2 a2 c2 h2 N11 _ fun x15 a4 es4 c4 i4 h4 N12 hN12 hc4 hx15 _ _ _=>nod 12 hx15 hc4 a4 c4 h4 N12 (by omega)
  ·refine wJ t d hd (by omega) N7 _ fun y N8 hN8 hy _ _ _ N9 hN9=>?_
   exact hG _ (.code hw) cc hy ctx hg' hgc _ a0 c0 hc2 a2 c2 h2 N9 _ fun x15 a4 es4 c4 i4 h4 N12 hN12 hc4 hx15 _ _ _=>nod 11 hx15 hc4 a4 c4 h4 N12 (by omega)
 ·refine wJ t d hd (by omega) N5 _ fun y N6 hN6 hy _ _ _ N7 hN7=>?_
  exact hG _ (.code hw) cc hy ctx hg' hgc _ a0 c0 hc2 a2 c2 h2 N7 _ fun x15 a4 es4 c4 i4 h4 N12 hN12 hc4 hx15 _ _ _=>nod 11 hx15 hc4 a4 c4 h4 N12 (by omega)
theorem zPk (k:Nat) (hk:k<2):zKM k 100:=by
 intro t hw hc d hd g es0 ctx hg hgc n a0 c0 es i hcu a c h N Q hQ
 refine ti N a0 es0 c0 d n _ a es c i h Q fun E _ _ _ N1 hN1=>?_
 have L5:∀ {es:List D} {i:Int} (_:Cu es i) a c h N',N<=N'->xJ E Q N a0 es0 c0 n k a es c i h d 0 (bytes []) (bytes []) 0 0 none [] 0 0 none [] 0 none [] 0 N':=fun {es i} hcu a c h N' hN'=>by
  refine rg _ _ _ _ _ _ _ _ _ _ _ _ _ _ _ _ _ _ _ _ _ _ _ _ _ _ _ _ _ _ (Br.dec (fun _ N2 hN2=>?_) fun h=>by omega)
  exact zH4 hw (by omega) hd n hcu a c h N2 _ fun x a3 es3 c3 i3 h3 N6 hN6 hc3 hx _ _ _=>⟨zZ,fun N7 hN7=>hQ _ _ _ _ _ _ _ (by omega) hc3 (hx.mono (by omega))⟩
 exact rS hcu 3 (by omega) a c h N1 _ fun b a1 es1 c1 i1 h1 N2 hN2 hc1 _ _=>Br.of (fun _ N3 hN3=>zLo ctx (by omega) hd n a0 c0 hc1 a1 c1 h1 N3 _ fun x b2 a2 es2 c2 i2 h2 N4 hN4 hc2 hx _ _ _=>Br.of (fun _=>⟨zZ,fun N5 hN5=>hQ _ _ _ _ _ _ _ (by omega) hc2 (hx.mono (by omega))⟩) fun _=>L5 hc2 a2 c2 h2 N4 (by omega)) fun _=>L5 hc1 a1 c1 h1 N2 (by omega)
theorem zJk {k S:Nat} (hk:k<=15) (h100:100<=S) (hS:S<=100000000) (hG:zKM k S):zKM (k+1) (4*S):=by
 intro t hw hc d hd g es0 ctx hg hgc n a0 c0 es i hcu a c h N Q hQ
 have ek:IntKind.i64.wrap (((k+1:Nat):Int) - 1)=(k:Int):=by rw [i64_in _ (by omega)];omega
 have hg':g.length+k<=1000:=by omega
 refine ti N a0 es0 c0 d n _ a es c i h Q fun E _ _ _ N1 hN1=>?_
 have L18:∀ {u:Ty} (_:t=r6 u) {es:List D} {i:Int} (_:Cu es i) a c h N',N<=N'->xk E Q N a0 es0 c0 n ((k+1:Nat):Int) a es c i h d 0 (bytes []) (bytes []) 0 0 none [] 0 0 none [] 0 none [] 0 N':=fun {u} hu {es i} hcu a c h N' hN'=>by
  subst hu
  obtain ⟨b,fs,kk,rfl,hfl,d1,_,rfl,h3,rfl⟩:=Ty.is_mk.1 hd
  have hcc:(r6 u).cnt=1+(u.cnt+0):=rfl
  have hwu:Wf u:=by cases hw;assumption
  refine zB1 _ _ _ _ _ _ _ _ _ _ _ _ _ _ _ _ _ _ _ _ _ _ _ _ _ _ _ _ _ _ ⟨_,_,_,rfl,⟨by simp,by simp⟩,fun N2 hN2=>?_⟩
  rw [ek]
  exact hG _ hwu (by omega) h3 ctx hg' hgc _ a0 c0 hcu a c h N2 _ fun x a3 es3 c3 i3 h3 N3 hN3 hc3 hx _ _ _=>⟨⟨rfl,rfl⟩,fun a4 _ N4 hN4 hbel=>zEV 10 (by omega) (zBZ hx) (by simp) a4 1 N4 _ fun w N5 hN5 hw ho _=>⟨wC hbel ho,fun _=>⟨zZ,fun N6 hN6=>hQ _ _ _ _ _ _ _ (by omega) hc3 (hw.mono (by simp;omega))⟩⟩⟩
 have L5:∀ {es:List D} {i:Int} (_:Cu es i) a c h N',N<=N'->xJ E Q N a0 es0 c0 n ((k+1:Nat):Int) a es c i h d 0 (bytes []) (bytes []) 0 0 none [] 0 0 none [] 0 none [] 0 N':=fun {es i} hcu a c h N' hN'=>by
  have base:∀ {es:List D} {i:Int} (_:Cu es i) a c h N9,N<=N9->BCalls prog 160 [.ag 9,.sl 0,.int .i64,.int .i64] [.pb 0 0 0 0,.sv a0 4 es0 c0,.dg 2 d,.int .i64 n,.int .i64 ((k+1:Nat):Int)] [.var [.sv a 0 es c,.int .i64 i,.int .i64 h]] N9 (fun x_2 a_3 es_3 c_3 n_7 n_8 N10=>N9<=N10->Bel N10 x_2->Bel N10 (D.sl a_3 0 es_3 c_3)->zO E [.var [.sv none 0 [] 0,.int .i64 0,.int .i64 0]]/\∀ N11,N10<=N11->Q x_2 a_3 es_3 c_3 n_7 n_8 N11):=fun {es i} hcu a c h N9 hN9=>
   zQN hk hS hG hd ctx hg' hgc n a0 c0 hcu a c h N9 _ fun x a3 es3 c3 i3 h3 N10 hN10 hc3 hx _ _ _=>⟨zZ,fun N11 hN11=>hQ _ _ _ _ _ _ _ (by omega) hc3 (hx.mono (by omega))⟩
  refine rg _ _ _ _ _ _ _ _ _ _ _ _ _ _ _ _ _ _ _ _ _ _ _ _ _ _ _ _ _ _ (Br.of (fun _ N2 hN2=>?_) fun _ N2 hN2=>rS hcu 3 (by omega) a c h N2 _ fun b a1 es1 c1 i1 h1 N3 hN3 hc1 _ _=>Br.of (fun _ N4 hN4=>?_) fun _=>?_)
  ·exact zH4 hw (by omega) hd n hcu a c h N2 _ fun x a3 es3 c3 i3 h3 N6 hN6 hc3 hx _ _ _=>⟨zZ,fun N7 hN7=>hQ _ _ _ _ _ _ _ (by omega) hc3 (hx.mono (by omega))⟩
  ·exact zRU hk h100 hS hG hw hc hd ctx hg hgc n a0 c0 hc1 a1 c1 h1 N4 _ fun x a3 es3 c3 i3 h3 N5 hN5 hc3 hx _ _ _=>⟨zZ,fun N6 hN6=>hQ _ _ _ _ _ _ _ (by omega) hc3 hx⟩
  ·cases hw with
   | int=>
     obtain ⟨b,fs,kk,rfl,_,_⟩:=Ty.is_mk.1 hd
     exact ⟨1,rfl,Br.of (fun _ N4 hN4=>base hc1 a1 c1 h1 N4 (by omega)) fun h=>by cases h⟩
   | bool=>
     obtain ⟨b,fs,kk,rfl,_,_⟩:=Ty.is_mk.1 hd
     exact ⟨2,rfl,Br.beq (fun h=>absurd h (by decide)) fun _=>Br.of (fun _ N4 hN4=>base hc1 a1 c1 h1 N4 (by omega)) fun h=>by cases h⟩
   | @fn u v hu hv=>
     obtain ⟨b,fs,kk,rfl,hfl,d1,_,rfl,h3,d2,_,rfl,h4,rfl⟩:=Ty.is_mk.1 hd
     have hcc:(zMl u v).cnt=1+(u.cnt+(v.cnt+0)):=rfl
     refine ⟨3,rfl,Br.beq (fun h=>absurd h (by decide)) fun _=>Br.beq (fun h=>absurd h (by decide)) fun _=>Br.beq (fun _ N4 hN4=>?_) fun h=>absurd rfl h⟩
     refine ud (l:=[bytes [120],bytes [121]]) hc1 (by decide) (by decide) a1 c1 h1 2 2 N4 _ fun s a2 es2 c2 i2 h2 N5 hN5 hc2 hs _ _ _=>⟨_,_,_,rfl,⟨by simp,by simp⟩,_,_,_,rfl,⟨by simp,by simp⟩,_,_,_,rfl,⟨by simp,by simp⟩,fun N6 hN6=>?_⟩
     have hs:=vL hs (by decide)
     rw [ek]
     refine uv ctx (by omega) a0 c0 (s:=s) (by omega) h3 n N6 _ fun a5 es5 c5 N7 hN7 ctx2 _ _ N8 hN8=>?_
     obtain ⟨g2,g3⟩:=zFH hg hgc (y:=⟨s,u,n⟩) (by show u.cnt<=1000;omega)
     exact hG _ hv (by omega) h4 ctx2 g2 g3 n a5 c5 hc2 a2 c2 h2 N8 _ fun x a6 es6 c6 i6 h6 N9 hN9 hc6 hx _ _ _ N10 hN10=>zPb (by omega) h3 (by omega) (by omega) hx N10 _ fun y N11 hN11 hy _ _=>⟨zZ,fun N12 hN12=>hQ _ _ _ _ _ _ _ (by omega) hc6 (hy.mono (by omega))⟩
   | @code u hu=>
     obtain ⟨b,fs,kk,rfl,hfl,d1,_,rfl,h3,rfl⟩:=Ty.is_mk.1 hd
     have hcc:(r6 u).cnt=1+(u.cnt+0):=rfl
     refine ⟨4,rfl,Br.beq (fun h=>absurd h (by decide)) fun _=>Br.beq (fun h=>absurd h (by decide)) fun _=>Br.beq (fun h=>absurd h (by decide)) fun _=>⟨_,_,_,rfl,⟨by simp,by simp⟩,fun N4 hN4=>?_⟩⟩
     refine pC u _ h3 N4 _ fun N5 hN5 _=>Br.of (fun _ N6 hN6=>?_) fun _=>L18 rfl hc1 a1 c1 h1 N5 (by omega)
     refine rS hc1 4 (by omega) a1 c1 h1 N6 _ fun b2 a2 es2 c2 i2 h2 N7 hN7 hc2 _ _=>Br.of (fun _=>⟨_,_,_,rfl,⟨by simp,by simp⟩,fun N8 hN8=>?_⟩) fun _=>L18 rfl hc2 a2 c2 h2 N7 (by omega)
     rw [ek]
     exact hG _ hu (by omega) h3 ctx hg' hgc n a0 c0 hc2 a2 c2 h2 N8 _ fun x a3 es3 c3 i3 h3 N9 hN9 hc3 hx _ _ _=>⟨⟨rfl,rfl⟩,fun a4 _ N10 hN10 hbel=>zEV 13 (by omega) (zBZ hx) (by simp) a4 1 N10 _ fun w N11 hN11 hw ho _=>⟨wC hbel ho,fun _=>⟨zZ,fun N12 hN12=>hQ _ _ _ _ _ _ _ (by omega) hc3 (hw.mono (by simp;omega))⟩⟩⟩
 exact rS hcu 3 (by omega) a c h N1 _ fun b a1 es1 c1 i1 h1 N2 hN2 hc1 _ _=>Br.of (fun _ N3 hN3=>zLo ctx (by omega) hd n a0 c0 hc1 a1 c1 h1 N3 _ fun x b2 a2 es2 c2 i2 h2 N4 hN4 hc2 hx _ _ _=>Br.of (fun _=>⟨zZ,fun N5 hN5=>hQ _ _ _ _ _ _ _ (by omega) hc2 (hx.mono (by omega))⟩) fun _=>L5 hc2 a2 c2 h2 N4 (by omega)) fun _=>L5 hc1 a1 c1 h1 N2 (by omega)
/-- terms of at most this depth -/
theorem zRV {k:Nat} (hk:1<=k) (hk5:k<=5):zKM k 25600:=by
 have up:∀ {k S T:Nat},zKM k S->S<=T->zKM k T:=fun h hST=>fun t hw hc {d} hd {g es0} ctx hg hgc n a0 c0 {es i} hcu a c h' N Q hQ=>h t hw hc hd ctx hg hgc n a0 c0 hcu a c h' N Q fun d' a' es' c' i' h'' N' h1 h2 h3=>hQ d' a' es' c' i' h'' N' h1 h2 (h3.mono hST)
 have h1:zKM 1 100:=zPk 1 (by omega)
 have h2:zKM 2 400:=zJk (by omega) (by omega) (by omega) h1
 have h3:zKM 3 1600:=zJk (by omega) (by omega) (by omega) h2
 have h4:zKM 4 6400:=zJk (by omega) (by omega) (by omega) h3
 have h5:zKM 5 25600:=zJk (by omega) (by omega) (by omega) h4
 rcases (by omega:k=1\/k=2\/k=3\/k=4\/k=5) with rfl | rfl | rfl | rfl | rfl
 ·exact up (k:=1) (S:=100) (T:=25600) h1 (by omega)
 ·exact up (k:=2) (S:=400) (T:=25600) h2 (by omega)
 ·exact up (k:=3) (S:=1600) (T:=25600) h3 (by omega)
 ·exact up (k:=4) (S:=6400) (T:=25600) h4 (by omega)
 ·exact up (k:=5) (S:=25600) (T:=25600) h5 (by omega)
end Go.Proofs.YtkdjhkfiolhkiaaGreat
set_option maxRecDepth 100000
namespace Go.Proofs.YtkdjhkfiolhkiaaGreat
open Go Go.Proofs Go.Proofs.Tryz Go.IntWalk
theorem zNY {es:List D} {i:Int} (hcu:Cu es i) (a:Option Addr) (c:Nat) (h:Int) (N:Nat) (Q:QT [.ag 9,.sl 0,.int .i64,.int .i64])
  (hQ:∀ d' a' es' c' i' h' N',N<=N'->Cu es' i'->Some 2100000 d'->Q d' a' es' c' i' h' N'):BCalls prog 150 [.ag 9,.sl 0,.int .i64,.int .i64] [.pb 0 0 0 0] [.var [.sv a 0 es c,.int .i64 i,.int .i64 h]] N Q:=by
 refine pL N a es c i h Q fun E _ N1 hN1=>ud (l:=[_,_,_,_,_,_,_,_,_,_,_]) hcu (by simp) (by simp) a c h 11 11 N1 _ fun s a1 es1 c1 i1 h1 N2 hN2 hc1 hs _ _ _ N3 hN3=>?_
 have hs:=vL hs (by decide)
 exact zPK hs N3 _ fun d b N4 hN4 hd _ _=>⟨zZ,fun N5 hN5=>hQ _ _ _ _ _ _ _ (by omega) hc1 hd⟩
theorem zRh {l:List D} (h:∀ d∈l,WfD 5 d) {j:Nat} (hj:j<l.length):WfD 5 (l.getD j default):=h _ (zFT hj)
theorem zI7 {es:List D} {i:Int} (hcu:Cu es i) (a:Option Addr) (c:Nat) (h:Int) (N:Nat) (Q:QT [.ag 9,.sl 0,.int .i64,.int .i64])
  (hQ:∀ d' a' es' c' i' h' N',N<=N'->Cu es' i'->Some 2100000 d'->Q d' a' es' c' i' h' N'):BCalls prog 88 [.ag 9,.sl 0,.int .i64,.int .i64] [.pb 0 0 0 0] [.var [.sv a 0 es c,.int .i64 i,.int .i64 h]] N Q:=by
 refine r7 N a es c i h Q fun E _ N1 hN1=>rS hcu 4 (by omega) a c h N1 _ fun b a1 es1 c1 i1 h1 N2 hN2 hc1 _ _=>Br.of (fun _ N3 hN3=>zNY hc1 a1 c1 h1 N3 _ fun d a2 es2 c2 i2 h2 N4 hN4 hc2 hd _ _ _=>⟨zZ,fun N5 hN5=>hQ _ _ _ _ _ _ _ (by omega) hc2 hd⟩) fun _ N3 hN3=>?_
 have cd:∀ {t:Ty} {d:D} (_:t.Is d) (_:t.cnt<=100) (N:Nat) (Q:QT [.ag 2]) (_:∀ d' N',N<=N'->(r6 t).Is d'->Q d' N'),ACalls prog 152 [.ag 2] [.dg 2 d] N Q:=fun {t d} ht hc N Q hQ=>wJ t d ht (by omega) N _ fun e N' h he _=>hQ e N' h he
 have ii:(zMl tInt tInt).cnt<=100:=by decide
 refine wl N3 _ fun x1 N4 hN4 k1 _ _ _ N5 hN5=>vB N5 _ fun x2 N6 hN6 k2 _ _ _ N7 hN7=>cd k1 (by decide) N7 _ fun x3 N8 hN8 k3 _ _ N9 hN9=>v4 tInt tInt x1 x1 k1 k1 (by decide) (by decide) N9 _ fun x4 N10 hN10 k4 _ _ _ N11 hN11=>cd k4 ii N11 _ fun x5 N12 hN12 k5 _ _ N13 hN13=>v4 tInt tInt x1 x1 k1 k1 (by decide) (by decide) N13 _ fun x6 N14 hN14 k6 _ _ _ N15 hN15=>cd k1 (by decide) N15 _ fun x7 N16 hN16 k7 _ _ N17 hN17=>cd k7 (by decide) N17 _ fun x8 N18 hN18 k8 _ _ N19 hN19=>cd k1 (by decide) N19 _ fun x9 N20 hN20 k9 _ _ N21 hN21=>?_
 refine yW hc1 8 (by omega) a1 c1 h1 N21 _ fun r a2 es2 c2 i2 h2 N22 hN22 hc2 r0 r8 _ _ _=>?_
 have r8:=r8 (by omega)
 have hall:∀ d∈[x1,x2,x3,x5,x6,x8,x1,x9],WfD 5 d:=fun d hd=>by
  simp only [oG,nN,mi] at hd
  rcases hd with rfl | rfl | rfl | rfl | rfl | rfl | rfl | rfl
  ·exact ⟨_,.int,k1,by decide⟩
  ·exact ⟨_,.bool,k2,by decide⟩
  ·exact ⟨_,.code .int,k3,by decide⟩
  ·exact ⟨_,.code (.fn .int .int),k5,by decide⟩
  ·exact ⟨_,.fn .int .int,k6,by decide⟩
  ·exact ⟨_,.code (.code .int),k8,by decide⟩
  ·exact ⟨_,.int,k1,by decide⟩
  ·exact ⟨_,.code .int,k9,by decide⟩
 have hlt:0+r.toNat<[x1,x2,x3,x5,x6,x8,x1,x9].length:=by simp;omega
 refine ⟨⟨r0,r8,hlt⟩,hlt,fun N23 hN23=>yW hc2 3 (by omega) a2 c2 h2 N23 _ fun q a3 es3 c3 i3 h3 N24 hN24 hc3 q0 q3 _ _ _=>⟨⟨rfl,rfl⟩,fun a4 N25 hN25 _ N26 hN26=>?_⟩⟩
 have q3:=q3 (by omega)
 obtain ⟨t,hw,ht,htc⟩:=zRh hall hlt
 have e:IntKind.i64.wrap (3+q)=((3+q).toNat:Int):=by rw [i64_in _ (by omega)];omega
 rw [e]
 exact zRV (k:=(3+q).toNat) (by omega) (by omega) t hw (by omega) ht (g:=[]) ⟨by simp,rfl⟩ (by simp;omega) (by simp) 0 a4 0 hc3 a3 c3 h3 N26 _ fun d a5 es5 c5 i5 h5 N27 hN27 hc5 hd _ _ _=>⟨zZ,fun N28 hN28=>hQ _ _ _ _ _ _ _ (by omega) hc5 (hd.mono (by omega))⟩
end Go.Proofs.YtkdjhkfiolhkiaaGreat
