/- Drawing: cursors, numbers, picks. -/
import Derived.Test.YtkdjhkfiolhkiaaGreatWx
import Derived.Test.YtkdjhkfiolhkiaaGreatWs
import Derived.Test.YtkdjhkfiolhkiaaGreatWn
set_option linter.unusedVariables false
set_option linter.unusedSimpArgs false
set_option maxRecDepth 100000
namespace Go.Proofs.YtkdjhkfiolhkiaaGreat
open Go Go.Proofs Go.Proofs.Tryz Go.IntWalk
theorem zD8 {l:List D} {i:Nat} (h:i<l.length):l.getD i default∈l:=by
 rw [oA,oD h];exact nk h
/-- a cursor over bytes -/
structure Cu (es:List D) (i:Int):Prop where
 b:∀ d∈es,∃ n:Int,d=.lit (.int .u8 n)
 l:es.length<=1073741824
 lo:0<=i
 hi:i<=es.length
theorem zIP (x:Int):0<=IntKind.i64.wrap ((BitVec.ofInt 64 x &&& BitVec.ofInt 64 255).toNat:Int)/\IntKind.i64.wrap ((BitVec.ofInt 64 x &&& BitVec.ofInt 64 255).toNat:Int)<=255:=by
 have h:(BitVec.ofInt 64 x &&& BitVec.ofInt 64 255).toNat<=255:=by
  rw [BitVec.toNat_and]
  exact oW Nat.and_le_right (by decide)
 rw [i64_in _ (by omega)]
 omega
theorem zNU {es:List D} (hb:∀ d∈es,∃ n:Int,d=.lit (.int .u8 n)) (hl:es.length<=1073741824) (a:Option Addr) (c:Nat) (N:Nat) (Q:QT [.cu])
  (hQ:∀ h N',N<=N'->Cu es 0->Q a es c 0 h N'):ACalls prog 58 [.cu] [.sv a 0 es c] N Q:=by
 refine zGw N a es c Q fun _=>?_
 have fin:∀ h N',N<=N'->Q a es c 0 h N':=fun h N' hN'=>hQ h N' hN' ⟨hb,hl,by omega,by omega⟩
 have key:∀ (n i:Nat) (h:Int) (N':Nat),i+n=es.length->N<=N'->wZ Q N a es c h i N':=by
  intro n
  induction n with
  | zero=>
    intro i h N' hi hN'
    refine rB _ _ _ _ _ _ _ _ ?_
    rw [decide_eq_false (by omega)]
    exact fun N1 hN1=>fin _ _ (by omega)
  | succ n ih=>
    intro i h N' hi hN'
    refine rB _ _ _ _ _ _ _ _ ?_
    rw [mU (by omega)]
    rw [Y3]
    rcases Int.lt_or_le (i:Int) 4000 with h4 | h4
    rotate_left
    ·rw [decide_eq_false (by omega)]
     exact fun N1 hN1=>fin _ _ (by omega)
    rw [mU h4,Y3]
    refine And.intro ⟨by omega,by omega⟩ ?_
    rw [oM]
    obtain ⟨x,hx⟩:=hb (es.getD i default) (zD8 (by omega))
    refine ⟨x,hx,?_⟩
    rw [i64_in ((i:Int)+1) (by omega)]
    exact ih (i+1) _ N' (by omega) hN'
 exact key es.length 0 _ N (by omega) (oF _)
theorem zGA {es:List D} {i:Int} (hc:Cu es i) (a:Option Addr) (c:Nat) (h:Int) (N:Nat) (Q:QT [.int .i64,.sl 0,.int .i64,.int .i64])
  (hQ:∀ x a' es' c' i' h' N',N<=N'->Cu es' i'->0<=x->x<=255->Q x a' es' c' i' h' N'):BCalls prog 131 [.int .i64,.sl 0,.int .i64,.int .i64] [.pb 0 0 0 0] [.var [.sv a 0 es c,.int .i64 i,.int .i64 h]] N Q:=by
 have h1:=hc.lo
 have h2:=hc.hi
 have h3:=hc.l
 refine zAk N a es c i h Q fun E _=>⟨by omega,by omega,Br.dec (fun hlt=>⟨⟨h1,hlt⟩,?_⟩) fun _=>⟨zS,fun N1 hN1=>hQ _ _ _ _ _ _ _ hN1 hc (zIP _).1 (zIP _).2⟩⟩
 obtain ⟨x,hx⟩:=hc.b (es.getD i.toNat default) (zD8 (by omega))
 refine ⟨x,hx,zS,fun N1 hN1=>hQ _ _ _ _ _ _ _ hN1 ?_ (zIP _).1 (zIP _).2⟩
 rw [i64_in (i+1) (by omega)]
 exact ⟨hc.b,hc.l,by omega,by omega⟩
theorem zm {es:List D} {i:Int} (hc:Cu es i) (n:Int) (hn:n<=4294967296) (a:Option Addr) (c:Nat) (h:Int) (N:Nat) (Q:QT [.int .i64,.sl 0,.int .i64,.int .i64])
  (hQ:∀ x a' es' c' i' h' N',N<=N'->Cu es' i'->0<=x->(0<n->x<n)->(n<=0->x=0)->Q x a' es' c' i' h' N'):BCalls prog 61 [.int .i64,.sl 0,.int .i64,.int .i64] [.pb 0 0 0 0,.int .i64 n] [.var [.sv a 0 es c,.int .i64 i,.int .i64 h]] N Q:=by
 have tm:∀ x:Int,0<=x->0<n->0<=Int.tmod x n/\Int.tmod x n<n:=fun x hx h0=>⟨Int.tmod_nonneg _ hx,Int.tmod_lt_of_pos _ h0⟩
 refine pP N n a es c i h Q fun E _=>Br.dec (fun h0=>⟨zS,fun N1 hN1=>hQ _ _ _ _ _ _ _ hN1 hc (by omega) (by omega) fun _=>rfl⟩) fun h0=>Br.dec (fun hs N1 hN1=>?_) fun hs N1 hN1=>?_
 ·exact zGA hc a c h N1 _ fun x a' es' c' i' h' N2 hN2 hc' x0 x1 _ _=>⟨by omega,zS,fun N3 hN3=>hQ _ _ _ _ _ _ _ (by omega) hc' (tm x x0 (by omega)).1 (fun g=>(tm x x0 g).2) fun g=>by omega⟩
 ·refine zGA hc a c h N1 _ fun x a' es' c' i' h' N2 hN2 hc' x0 x1 _ _ N3 hN3=>?_
  refine zGA hc' a' c' h' N3 _ fun y a' es' c' i' h' N4 hN4 hc' y0 y1 _ _ N5 hN5=>?_
  refine zGA hc' a' c' h' N5 _ fun z a' es' c' i' h' N6 hN6 hc' z0 z1 _ _ N7 hN7=>?_
  refine zGA hc' a' c' h' N7 _ fun w a' es' c' i' h' N8 hN8 hc' w0 w1 _ _=>⟨by omega,zS,fun N9 hN9=>?_⟩
  have e:IntKind.i64.wrap (IntKind.i64.wrap (IntKind.i64.wrap (IntKind.i64.wrap (x*16777216)+IntKind.i64.wrap (y*65536))+IntKind.i64.wrap (z*256))+w)=x*16777216+y*65536+z*256+w:=by
   rw [i64_in (x*16777216) (by omega),i64_in (y*65536) (by omega),i64_in (z*256) (by omega),i64_in (x*16777216+y*65536) (by omega),i64_in (x*16777216+y*65536+z*256) (by omega),i64_in _ (by omega)]
  have hq:=hQ (Int.tmod (x*16777216+y*65536+z*256+w) n) a' es' c' i' h' N9 (by omega) hc' (tm _ (by omega) (by omega)).1 (fun g=>(tm _ (by omega) g).2) fun g=>by omega
  rw [<-e] at hq
  exact hq
theorem wu {es:List D} {i:Int} (hc:Cu es i) (n:Int) (hn:n<=4294967296) (a:Option Addr) (c:Nat) (h:Int) (N:Nat) (Q:QT [.bool,.sl 0,.int .i64,.int .i64])
  (hQ:∀ b a' es' c' i' h' N',N<=N'->Cu es' i'->Q b a' es' c' i' h' N'):BCalls prog 81 [.bool,.sl 0,.int .i64,.int .i64] [.pb 0 0 0 0,.int .i64 n] [.var [.sv a 0 es c,.int .i64 i,.int .i64 h]] N Q:=
 zAY N n a es c i h Q fun E _ N1 hN1=>zm hc n hn a c h N1 _ fun x a' es' c' i' h' N2 hN2 hc' _ _ _ _ _=>⟨zS,fun N3 hN3=>hQ _ _ _ _ _ _ _ (by omega) hc'⟩
theorem vh {es:List D} {i:Int} (hc:Cu es i) (l:List ByteArray) (h0:0<l.length) (hl:l.length<=4294967296) (a:Option Addr) (c:Nat) (h:Int) (k q:Nat) (N:Nat) (Q:QT [.str,.sl 0,.int .i64,.int .i64,.sl 0])
  (hQ:∀ s a' es' c' i' h' N',N<=N'->Cu es' i'->s∈l->Q s a' es' c' i' h' none (zB l) q N'):BCalls prog 132 [.str,.sl 0,.int .i64,.int .i64,.sl 0] [.pb 0 0 0 0,.sb 1 0 0 l.length k] [.var [.sv a 0 es c,.int .i64 i,.int .i64 h],.arr 9 0 (zB l) q] N Q:=by
 have hwl:=z7 l
 refine zAH N l.length k a es c i h (zB l) q Q fun E _ _ N1 hN1=>?_
 refine zm hc l.length (by omega) a c h N1 _ fun x a' es' c' i' h' N2 hN2 hc' x0 x1 _ _ _=>?_
 have x1:=x1 (by omega)
 have hx:x.toNat<l.length:=by omega
 refine ⟨⟨x0,x1,by omega⟩,by omega,l[x.toNat],?_,zS,fun N3 hN3=>hQ _ _ _ _ _ _ _ (by omega) hc' (nk hx)⟩
 simp [zB,oA,oE,oD hx]
theorem wh {es:List D} {i:Int} (hc:Cu es i) (l:List Int) (h0:0<l.length) (hl:l.length<=4294967296) (a:Option Addr) (c:Nat) (h:Int) (k q:Nat) (N:Nat) (Q:QT [.int .i64,.sl 0,.int .i64,.int .i64,.sl 0])
  (hQ:∀ s a' es' c' i' h' N',N<=N'->Cu es' i'->s∈l->Q s a' es' c' i' h' none (zFt l) q N'):BCalls prog 63 [.int .i64,.sl 0,.int .i64,.int .i64,.sl 0] [.pb 0 0 0 0,.sb 1 0 0 l.length k] [.var [.sv a 0 es c,.int .i64 i,.int .i64 h],.arr 3 0 (zFt l) q] N Q:=by
 have hwl:=zKr l
 refine rL N l.length k a es c i h (zFt l) q Q fun E _ _ N1 hN1=>?_
 refine zm hc l.length (by omega) a c h N1 _ fun x a' es' c' i' h' N2 hN2 hc' x0 x1 _ _ _=>?_
 have x1:=x1 (by omega)
 have hx:x.toNat<l.length:=by omega
 refine ⟨⟨x0,x1,by omega⟩,by omega,l[x.toNat],?_,zS,fun N3 hN3=>hQ _ _ _ _ _ _ _ (by omega) hc' (nk hx)⟩
 simp [zFt,oA,oE,oD hx]
end Go.Proofs.YtkdjhkfiolhkiaaGreat
set_option maxRecDepth 100000
namespace Go.Proofs.YtkdjhkfiolhkiaaGreat
open Go Go.Proofs Go.Proofs.Tryz Go.IntWalk
/-- some term of at most this many nodes -/
def Some (m:Nat) (d:D):Prop:=∃ t:Tm,t.Is d/\t.cnt<=m
theorem Some.mono {m n:Nat} {d:D} (h:Some m d) (hn:m<=n):Some n d:=by obtain ⟨t,h1,h2⟩:=h;exact ⟨t,h1,by omega⟩
theorem zOp {m:Nat}:∀ {es:List D},(∀ d∈es,Some m d)->∃ l,All2 Tm.Is l es/\(∀ x∈l,x.cnt<=m)
 | [],_=>⟨[],rfl,by simp⟩
 | d::es,h=>by
   obtain ⟨t,h1,h2⟩:=h d (by simp)
   obtain ⟨l,h3,h4⟩:=zOp fun x hx=>h x (nE d hx)
   exact ⟨t::l,⟨d,es,rfl,h1,h3⟩,fun x hx=>by
    rcases oG.1 hx with rfl | hx
    ·exact h2
    ·exact h4 x hx⟩
theorem zDJ {m:Nat}:∀ {l:List Tm},(∀ x∈l,x.cnt<=m)->zO l<=l.length*m
 | [],_=>by simp [zO]
 | x::l,h=>by
   have h1:=zDJ (l:=l) fun y hy=>h y (by simp [hy])
   have h2:=h x (by simp)
   simp only [zO,oN,nN,Nat.one_mul]
   omega
theorem zDi (k:Int) {m:Nat} (hm:m<=1073741824) {es:List D} (hes:∀ d∈es,Some m d) (hl:es.length<=1000) (a:Option Addr) (c:Nat) (N:Nat) (Q:QT [.ag 9])
  (hQ:∀ d' N',N<=N'->Some (3+es.length*m) d'->Own N N' d'->Q d' N'):ACalls prog 123 [.ag 9] [.int .i64 k,.sv a 9 es c] N Q:=by
 obtain ⟨l,h1,h2⟩:=zOp hes
 have hll:=h1.len
 refine zDl k h1 (by omega) (fun x hx=>oW (h2 x hx) hm) a c N _ fun d' N' hN' hd ho=>hQ d' N' hN' ⟨_,hd,?_⟩ ho
 have:=zDJ h2
 simp only [Tm.cnt,Ty.cnt,zI]
 rw [hll]
 omega
/-- another name -/
theorem zFk {m:Nat} {d:D} (h:Some m d) {s:ByteArray} (hs:s.size<=4611686018427387904):Some m (.ag [d.cell 0,.lit (.string s),d.cell 2,d.cell 3,d.cell 4,d.cell 5,d.cell 6,d.cell 7,d.cell 8]):=by
 obtain ⟨t,h1,h2⟩:=h
 cases t with
 | mk k nm ot n ty re l=>
   obtain ⟨t0,t1,r0,r1,a,es,c,rfl,hh,hlen,hes⟩:=Tm.is_mk.1 h1
   exact ⟨.mk k s ot n ty re l,Tm.is_mk.2 ⟨_,_,_,_,_,_,_,rfl,⟨hs,hh.ot,hh.ty,hh.re⟩,hlen,hes⟩,h2⟩
theorem zLh {m N N':Nat} {d:D} (h:Some m d) (ho:Own N N' d) (s:ByteArray):Own N N' (.ag [d.cell 0,.lit (.string s),d.cell 2,d.cell 3,d.cell 4,d.cell 5,d.cell 6,d.cell 7,d.cell 8]):=by
 obtain ⟨t,h1,h2⟩:=h
 cases t with
 | mk k nm ot n ty re l=>
   obtain ⟨t0,t1,r0,r1,a,es,c,rfl,hh,hlen,hes⟩:=Tm.is_mk.1 h1
   exact zH6 (v2:=.string s) ho
theorem zPZ {s:ByteArray} (hs:s.size<=4611686018427387904) {m:Nat} (hm:m<=1073741824) {es:List D} (hes:∀ d∈es,Some m d) (hl:es.length<=1000) (a:Option Addr) (c:Nat) (N:Nat) (Q:QT [.ag 9])
  (hQ:∀ d' N',N<=N'->Some (3+es.length*m) d'->Own N N' d'->Q d' N'):ACalls prog 187 [.ag 9] [.str s,.sv a 9 es c] N Q:=
 zG9 N s a es c Q fun _ N1 hN1=>zDi 4 hm hes hl a c N1 _ fun d' N2 hN2 hd ho _ _ N3 hN3=>hQ _ _ (by omega) (zFk hd hs) ((zLh hd ho s).mono hN1 hN3)
theorem rP (k n:Int) (s:ByteArray) (hs:s.size<=4611686018427387904):Some 3 (.ag [.lit (.int .i64 k),.lit (.string s),.lit (.string (bytes [])),.lit (.int .i64 n),.lit (.int .i64 0),.sl none 2 [] 0,.lit (.int .i64 0),.sl none 2 [] 0,.sl none 9 [] 0]):=
 zFk (s:=s) ⟨_,zON k n,by simp only [Tm.cnt,Ty.cnt,zI,zO];omega⟩ hs
theorem zOC (s:ByteArray) (hs:s.size<=4611686018427387904) (N:Nat) (Q:QT [.ag 9]) (hQ:∀ d' N',N<=N'->Some 3 d'->Q d' N'):ACalls prog 155 [.ag 9] [.str s] N Q:=
 zGQ N s Q fun N1 hN1=>hQ _ _ hN1 (rP 1 0 s hs)
theorem zM2 (n:Int) (N:Nat) (Q:QT [.ag 9]) (hQ:∀ d' N',N<=N'->Some 3 d'->Q d' N'):ACalls prog 204 [.ag 9] [.int .i64 n] N Q:=
 zF7 N n Q fun N1 hN1=>hQ _ _ hN1 (rP 2 n (bytes []) (by decide))
theorem zKk (n:Int) (N:Nat) (Q:QT [.ag 9]) (hQ:∀ d' N',N<=N'->Some 3 d'->Q d' N'):ACalls prog 205 [.ag 9] [.int .i64 n] N Q:=
 zFV N n Q fun N1 hN1=>hQ _ _ hN1 (rP 3 n (bytes []) (by decide))
theorem zO4 {s:ByteArray} (hs:s.size<=4611686018427387904) {m:Nat} (hm:m<=1073741824) {d e:D} (hd:Some m d) (he:Some m e) (N:Nat) (Q:QT [.ag 9])
  (hQ:∀ d' N',N<=N'->Some (3+2*m) d'->Q d' N'):ACalls prog 186 [.ag 9] [.str s,.dg 9 d,.dg 9 e] N Q:=by
 obtain ⟨t,h1,h2⟩:=hd
 obtain ⟨u,h3,h4⟩:=he
 refine zNE s hs t u d e h1 h3 (by omega) (by omega) N _ fun d' N' hN' hx _=>hQ d' N' hN' ⟨_,hx,?_⟩
 simp only [Tm.letN,Tm.cnt,Ty.cnt,zI,zO]
 omega
theorem zNp {s:ByteArray} (hs:s.size<=4611686018427387904) {ty:Ty} {x1:D} (h1:ty.Is x1) (hc1:ty.cnt<=1073741824) {m:Nat} (hm:m<=1073741824) {d:D} (hd:Some m d) (N:Nat) (Q:QT [.ag 9])
  (hQ:∀ d' N',N<=N'->Some (2+ty.cnt+m) d'->Q d' N'):ACalls prog 161 [.ag 9] [.str s,.dg 2 x1,.dg 9 d] N Q:=by
 obtain ⟨t,h2,h3⟩:=hd
 refine zF6 N s x1 d Q fun _ _=>⟨⟨rfl,rfl⟩,fun a _ N1 hN1 hbel=>?_⟩
 refine zDl 6 (sP h2) (by simp) (by simpa using (by omega:t.cnt<=1073741824)) a 1 N1 _ fun x N2 hN2 hx ho _=>⟨xV hbel ho,fun _ N3 hN3=>?_⟩
 refine zJ ty x1 h1 hc1 N3 _ fun x' N4 hN4 hx' ho' _ _ N5 hN5=>?_
 obtain ⟨t0,t1,r0,r1,a',es,c,rfl,hh,hlen,hes⟩:=Tm.is_mk.1 hx
 refine hQ _ _ (by omega) ⟨.mk 6 s (bytes []) 0 ty (.mk 0 []) [t],Tm.is_mk.2 ⟨_,_,_,_,_,_,_,rfl,⟨hs,hh.ot,Ty.is_cells hx',hh.re⟩,hlen,hes⟩,?_⟩
 simp only [Tm.cnt,Ty.cnt,zI,zO]
 omega
/-- a type by its form -/
inductive Wf:Ty->Prop
 | int:Wf tInt
 | bool:Wf tBool
 | fn {a b:Ty}:Wf a->Wf b->Wf (wQ a b)
 | code {a:Ty}:Wf a->Wf (wg a)
theorem zHP {t:Ty} (hw:Wf t):t.cnt<=1000->∀ {d:D} (_:t.Is d) (n:Int) {es:List D} {i:Int} (_:Cu es i) (a:Option Addr) (c:Nat) (h:Int) (N:Nat) (Q:QT [.ag 9,.sl 0,.int .i64,.int .i64])
  (_:∀ d' a' es' c' i' h' N',N<=N'->Cu es' i'->Some (4*t.cnt) d'->Q d' a' es' c' i' h' N'),BCalls prog 158 [.ag 9,.sl 0,.int .i64,.int .i64] [.pb 0 0 0 0,.dg 2 d,.int .i64 n] [.var [.sv a 0 es c,.int .i64 i,.int .i64 h]] N Q:=by
 induction hw with
 | int=>
   intro hc d hd n es i hcu a c h N Q hQ
   obtain ⟨b,fs,k,rfl,_,h2⟩:=Ty.is_mk.1 hd
   refine y5 N _ n a es c i h Q fun E _ _=>⟨1,rfl,Br.beq (fun _ N1 hN1=>?_) fun h=>absurd rfl h⟩
   exact zm hcu 4 (by omega) a c h N1 _ fun x a' es' c' i' h' N2 hN2 hc' _ _ _ _ _ N3 hN3=>zM2 x N3 _ fun d' N4 hN4 hd' _ _=>⟨zS,fun N5 hN5=>hQ _ _ _ _ _ _ _ (by omega) hc' (hd'.mono (by simp [tInt,Ty.cnt,zI]))⟩
 | bool=>
   intro hc d hd n es i hcu a c h N Q hQ
   obtain ⟨b,fs,k,rfl,_,h2⟩:=Ty.is_mk.1 hd
   refine y5 N _ n a es c i h Q fun E _ _=>⟨2,rfl,Br.beq (fun h=>absurd h (by decide)) fun _=>Br.beq (fun _ N1 hN1=>?_) fun h=>absurd rfl h⟩
   exact zm hcu 2 (by omega) a c h N1 _ fun x a' es' c' i' h' N2 hN2 hc' _ _ _ _ _ N3 hN3=>zKk x N3 _ fun d' N4 hN4 hd' _ _=>⟨zS,fun N5 hN5=>hQ _ _ _ _ _ _ _ (by omega) hc' (hd'.mono (by simp [tBool,Ty.cnt,zI]))⟩
 | @fn u v hu hv ihu ihv=>
   intro hc d hd n es i hcu a c h N Q hQ
   have hcc:(wQ u v).cnt=1+(u.cnt+(v.cnt+0)):=rfl
   obtain ⟨b,fs,k,rfl,hfl,d1,_,rfl,h3,d2,_,rfl,h4,rfl⟩:=Ty.is_mk.1 hd
   refine y5 N _ n a es c i h Q fun E _ _=>⟨3,rfl,Br.beq (fun h=>absurd h (by decide)) fun _=>Br.beq (fun h=>absurd h (by decide)) fun _=>Br.beq (fun _=>⟨_,_,_,rfl,⟨by simp,by simp⟩,_,_,_,rfl,⟨by simp,by simp⟩,fun N1 hN1=>?_⟩) fun h=>absurd rfl h⟩
   refine ihv (by omega) h4 n hcu a c h N1 _ fun x a' es' c' i' h' N2 hN2 hc' hx _ _ _ N3 hN3=>?_
   exact zNp (by decide) h3 (by omega) (by omega) hx N3 _ fun y N4 hN4 hy _ _=>⟨zS,fun N5 hN5=>hQ _ _ _ _ _ _ _ (by omega) hc' (hy.mono (by omega))⟩
 | @code u hu ihu=>
   intro hc d hd n es i hcu a c h N Q hQ
   have hcc:(wg u).cnt=1+(u.cnt+0):=rfl
   obtain ⟨b,fs,k,rfl,hfl,d1,_,rfl,h3,rfl⟩:=Ty.is_mk.1 hd
   refine y5 N _ n a es c i h Q fun E _ _=>⟨4,rfl,Br.beq (fun h=>absurd h (by decide)) fun _=>Br.beq (fun h=>absurd h (by decide)) fun _=>Br.beq (fun h=>absurd h (by decide)) fun _=>⟨_,_,_,rfl,⟨by simp,by simp⟩,fun N1 hN1=>?_⟩⟩
   refine ihu (by omega) h3 _ hcu a c h N1 _ fun x a' es' c' i' h' N2 hN2 hc' hx _ _ _=>⟨⟨rfl,rfl⟩,⟨rfl,rfl⟩,⟨rfl,rfl⟩,fun a7 N3 hN3 _=>⟨zS,fun N4 hN4=>hQ _ _ _ _ _ _ _ (by omega) hc' ?_⟩⟩
   obtain ⟨e,h5,h6⟩:=hx
   refine ⟨.mk 10 (bytes []) (bytes []) 0 (.mk 0 []) (.mk 0 []) [e],Tm.is_mk.2 ⟨_,_,_,_,_,_,_,rfl,⟨by decide,by decide,yv 0,yv 0⟩,by simp,sP h5⟩,?_⟩
   simp only [Tm.cnt,Ty.cnt,zI,zO]
   omega
theorem some_nod:Some 3 (.ag [.lit (.int .i64 0),.lit (.string (bytes [])),.lit (.string (bytes [])),.lit (.int .i64 0),.lit (.int .i64 0),.sl none 2 [] 0,.lit (.int .i64 0),.sl none 2 [] 0,.sl none 9 [] 0]):=rP 0 0 (bytes []) (by decide)
/-- a variable of a type, if there is one -/
theorem zKn {g:List Tg} {es0:List D} (ctx:Ctx g es0) (hg:g.length<=1000000) {t:Ty} {d:D} (hd:t.Is d) (n:Int) (a0:Option Addr) (c0:Nat) {es:List D} {i:Int} (hcu:Cu es i) (a:Option Addr) (c:Nat) (h:Int) (N:Nat) (Q:QT [.ag 9,.bool,.sl 0,.int .i64,.int .i64])
  (hQ:∀ d' b a' es' c' i' h' N',N<=N'->Cu es' i'->Some 3 d'->Q d' b a' es' c' i' h' N'):BCalls prog 157 [.ag 9,.bool,.sl 0,.int .i64,.int .i64] [.pb 0 0 0 0,.sv a0 4 es0 c0,.dg 2 d,.int .i64 n] [.var [.sv a 0 es c,.int .i64 i,.int .i64 h]] N Q:=by
 have hl:=ctx.all.len
 refine pY N a0 es0 c0 d n a es c i h Q fun E _ _ _=>?_
 refine up ctx.all ctx.len (fun k xs=>∀ (r:List D) (q N':Nat),N<=N'->(∀ x∈r,Some 3 x)->r.length<=k->zZ E Q N a0 es0 c0 n r.length q k a es c i h d 0 (bytes []) (bytes []) 0 0 none [] 0 0 none [] 0 none [] 0 r q N') ?_ ?_ [] 0 N (oF _) (by simp) (by simp)
 ·intro k hlt hk r q N' hN' hr hrl
  refine um _ _ _ _ _ _ _ _ _ _ _ _ _ _ _ _ _ _ _ _ _ _ _ _ _ _ _ _ _ _ _ _ _ _ ?_
  rw [hlt]
  refine Br.beq (fun _=>⟨zS,fun N1 hN1=>hQ _ _ _ _ _ _ _ _ (by omega) hcu some_nod⟩) fun h0 N1 hN1=>?_
  refine zm hcu _ (by omega) a c h N1 _ fun x a' es' c' i' h' N2 hN2 hc' x0 x1 _ _ _=>?_
  have x1:=x1 (by omega)
  exact ⟨⟨x0,x1,by omega⟩,by omega,zS,fun N3 hN3=>hQ _ _ _ _ _ _ _ _ (by omega) hc' (hr _ (zD8 (by omega)))⟩
 ·intro k x xs hat _ ih r q N' hN' hr hrl
  have hb:=hat.b
  obtain ⟨t0,t1,hd',hnm,hty⟩:=hat.r
  have skip:∀ N'',N<=N''->zZ E Q N a0 es0 c0 n r.length q (IntKind.i64.wrap ((k:Int)+1)) a es c i h d 0 (bytes []) (bytes []) 0 0 none [] 0 0 none [] 0 none [] 0 r q N'':=fun N'' h=>by
   rw [hat.w];exact ih r q N'' h hr (by omega)
  refine um _ _ _ _ _ _ _ _ _ _ _ _ _ _ _ _ _ _ _ _ _ _ _ _ _ _ _ _ _ _ _ _ _ _ ?_
  rw [hat.lt]
  simp only [oM]
  rw [hd']
  have bd:(0:Int)<=(k:Int)/\(k:Int)<(es0.length:Int):=⟨by omega,by omega⟩
  refine ⟨bd,x.lv,rfl,Br.beq (fun _=>⟨bd,fun N1 hN1=>?_⟩) fun _=>skip N' hN'⟩
  refine yd x.ty t _ d hty hd N1 _ fun N2 hN2 _=>Br.of (fun _=>⟨bd,x.nm,rfl,fun N3 hN3=>?_⟩) fun _=>skip N2 (by omega)
  refine wx ctx a0 c0 x.nm N3 _ fun N4 hN4 _=>Br.beq (fun _=>⟨bd,x.nm,rfl,fun N5 hN5=>?_⟩) fun _=>skip N4 (by omega)
  refine zOC x.nm hnm N5 _ fun y N6 hN6 hy _ _=>⟨⟨by trivial,by trivial⟩,by unfold zA;rw [oH];simp only [oN,oP];omega,fun c1=>?_⟩
  rw [hat.w]
  exact ih (r++[y]) c1 N6 (by omega) (fun z hz=>by
   rcases oK.1 hz with hz | hz
   ·exact hr z hz
   ·rw [oh] at hz;subst hz;exact hy) (by simp;omega)
end Go.Proofs.YtkdjhkfiolhkiaaGreat
set_option maxRecDepth 100000
namespace Go.Proofs.YtkdjhkfiolhkiaaGreat
open Go Go.Proofs Go.Proofs.Tryz Go.IntWalk
/-- a base type -/
def Bs (t:Ty):Prop:=t=tInt\/t=tBool
theorem Bs.wf {t:Ty} (h:Bs t):Wf t:=by rcases h with rfl | rfl;exact .int;exact .bool
theorem Bs.cnt {t:Ty} (h:Bs t):t.cnt=1:=by rcases h with rfl | rfl<;>rfl
theorem Bs.cell {t:Ty} {d:D} (h:Bs t) (hd:t.Is d):∃ n:Int,d.cell 0=.lit (.int .i64 n):=by
 rcases h with rfl | rfl<;>obtain ⟨b,fs,k,rfl,_,_⟩:=Ty.is_mk.1 hd<;>exact ⟨_,rfl⟩
end Go.Proofs.YtkdjhkfiolhkiaaGreat
set_option maxRecDepth 100000
namespace Go.Proofs.YtkdjhkfiolhkiaaGreat
open Go Go.Proofs Go.Proofs.Tryz Go.IntWalk
/-- some type of at most this many nodes -/
def SmT (m:Nat) (d:D):Prop:=∃ t:Ty,t.Is d/\t.cnt<=m
theorem SmT.mono {m n:Nat} {d:D} (h:SmT m d) (hn:m<=n):SmT n d:=by obtain ⟨t,h1,h2⟩:=h;exact ⟨t,h1,by omega⟩
theorem SmT.cells {m:Nat} {d:D} (h:SmT m d):SmT m (.ag [d.cell 0,d.cell 1]):=by obtain ⟨t,h1,h2⟩:=h;exact ⟨t,Ty.is_cells h1,h2⟩
/-- its row has no room behind it -/
def Ex (d:D):Prop:=∃ k a es c,d=.ag [.lit (.int .i64 k),.sl a 2 es c]/\(c=es.length/\es.length<=1000)
theorem zHS (k:Int):SmT 1 (.ag [.lit (.int .i64 k),.sl none 2 [] 0]):=⟨_,yv k,by simp [Ty.cnt,zI]⟩
theorem zJv {m:Nat} (hm:m<=1073741824) {d:D} (hd:SmT m d) (N:Nat) (Q:QT [.ag 2]) (hQ:∀ d' N',N<=N'->SmT (1+m) d'->Ex d'->Q d' N'):ACalls prog 152 [.ag 2] [.dg 2 d] N Q:=by
 obtain ⟨t,h1,h2⟩:=hd
 refine rh N d Q fun _ N1 hN1=>zJ t d h1 (by omega) N1 _ fun x N2 hN2 hx _ _ _=>⟨⟨rfl,rfl⟩,⟨rfl,rfl⟩,⟨rfl,rfl⟩,fun a N3 hN3 _ N4 hN4=>hQ _ _ (by omega) ⟨wg t,Ty.is_mk.2 ⟨_,_,_,rfl,by simp,x,[],rfl,hx,rfl⟩,?_⟩ ⟨_,_,_,_,rfl,rfl,by simp⟩⟩
 simp only [wg,Ty.cnt,zI]
 omega
theorem zMh {m:Nat} (hm:m<=1073741824) {d e:D} (hd:SmT m d) (he:SmT m e) (N:Nat) (Q:QT [.ag 2]) (hQ:∀ d' N',N<=N'->SmT (1+2*m) d'->Ex d'->Q d' N'):ACalls prog 153 [.ag 2] [.dg 2 d,.dg 2 e] N Q:=by
 obtain ⟨t,h1,h2⟩:=hd
 obtain ⟨u,h3,h4⟩:=he
 refine pu N d e Q fun _ _ N1 hN1=>zJ t d h1 (by omega) N1 _ fun x N2 hN2 hx _ _ _ N3 hN3=>zJ u e h3 (by omega) N3 _ fun y N4 hN4 hy _ _ _=>⟨⟨rfl,rfl⟩,⟨rfl,rfl⟩,⟨rfl,rfl⟩,fun a N5 hN5 _ N6 hN6=>hQ _ _ (by omega) ⟨wQ t u,Ty.is_mk.2 ⟨_,_,_,rfl,by simp,x,[y],rfl,hx,y,[],rfl,hy,rfl⟩,?_⟩ ⟨_,_,_,_,rfl,rfl,by simp⟩⟩
 simp only [wQ,Ty.cnt,zI]
 omega
def TyC (b:Int) (X:Nat):Prop:=∀ (n:Int),n<=b->∀ {es:List D} {i:Int} (_:Cu es i) (a:Option Addr) (c:Nat) (h:Int) (N:Nat) (Q:QT [.ag 2,.sl 0,.int .i64,.int .i64])
    (_:∀ d' a' es' c' i' h' N',N<=N'->Cu es' i'->SmT X d'->Ex d'->Q d' a' es' c' i' h' N'),BCalls prog 93 [.ag 2,.sl 0,.int .i64,.int .i64] [.pb 0 0 0 0,.int .i64 n] [.var [.sv a 0 es c,.int .i64 i,.int .i64 h]] N Q
theorem zOf:TyC 1 1:=fun n hn es i hcu a c h N Q hQ=>by
 refine xK N n a es c i h Q fun E _=>Br.dec (fun _ N1 hN1=>?_) fun g=>absurd (by omega) g
 exact wh (l:=[1,1,2]) hcu (by decide) (by decide) a c h 3 3 N1 _ fun k a' es' c' i' h' N2 hN2 hc' _ _ _ _=>⟨zS,fun N3 hN3=>hQ _ _ _ _ _ _ _ (by omega) hc' (zHS k) ⟨_,_,_,_,rfl,rfl,by simp⟩⟩
theorem zHh {b:Int} {X:Nat} (hb:b<=1000) (hX:1<=X) (hX2:X<=1000000) (ih:TyC b X):TyC (b+1) (1+2*X):=fun n hn es i hcu a c h N Q hQ=>by
 have pk:∀ (E:Env) {es:List D} {i:Int} (_:Cu es i) a c h N1,N<=N1->BCalls prog 63 [.int .i64,.sl 0,.int .i64,.int .i64,.sl 0] [.pb 0 0 0 0,.sb 1 0 0 3 3] [.var [.sv a 0 es c,.int .i64 i,.int .i64 h],.arr 3 0 (zFt [1,1,2]) 3] N1
   (fun n a es c n_1 n_2 a_1 es_1 c_1 N2=>N1<=N2->Bel N2 (D.sl a 0 es c)->Bel N2 (D.sl a_1 0 es_1 c_1)->zP E [.var [.sv none 0 [] 0,.int .i64 0,.int .i64 0]]/\∀ N3,N2<=N3->Q (D.ag [D.lit (.int .i64 n),D.sl Option.none 2 [] 0]) a es c n_1 n_2 N3):=fun E es i hcu a c h N1 hN1=>
  wh (l:=[1,1,2]) hcu (by decide) (by decide) a c h 3 3 N1 _ fun k a' es' c' i' h' N2 hN2 hc' _ _ _ _=>⟨zS,fun N3 hN3=>hQ _ _ _ _ _ _ _ (by omega) hc' ((zHS k).mono (by omega)) ⟨_,_,_,_,rfl,rfl,by simp⟩⟩
 refine xK N n a es c i h Q fun E _=>Br.dec (fun _ N1 hN1=>pk E hcu _ _ _ N1 hN1) fun hlt N1 hN1=>wu hcu 2 (by omega) a c h N1 _ fun b1 a1 es1 c1 i1 h1 N2 hN2 hc1 _ _=>Br.of (fun _ N3 hN3=>pk E hc1 _ _ _ N3 (by omega)) fun _ N3 hN3=>?_
 refine wu hc1 2 (by omega) a1 c1 h1 N3 _ fun b2 a2 es2 c2 i2 h2 N4 hN4 hc2 _ _=>Br.of (fun _ N5 hN5=>?_) fun _ N5 hN5=>?_
 ·rw [i64_in (n - 1) (by omega)]
  exact ih (n - 1) (by omega) hc2 a2 c2 h2 N5 _ fun d a3 es3 c3 i3 h3 N6 hN6 hc3 hd _ _ _ _ N7 hN7=>zJv (by omega) hd N7 _ fun e N8 hN8 he hx _ _=>⟨zS,fun N9 hN9=>hQ _ _ _ _ _ _ _ (by omega) hc3 (he.mono (by omega)) hx⟩
 ·rw [i64_in (n - 1) (by omega)]
  refine ih (n - 1) (by omega) hc2 a2 c2 h2 N5 _ fun d a3 es3 c3 i3 h3 N6 hN6 hc3 hd _ _ _ _ N7 hN7=>?_
  exact ih (n - 1) (by omega) hc3 a3 c3 h3 N7 _ fun d2 a4 es4 c4 i4 h4 N8 hN8 hc4 hd2 _ _ _ _ N9 hN9=>zMh (by omega) hd hd2 N9 _ fun e N10 hN10 he hx _ _=>⟨zS,fun N11 hN11=>hQ _ _ _ _ _ _ _ (by omega) hc4 he hx⟩
theorem zFl:TyC 2 3:=zHh (b:=1) (by omega) (by omega) (by omega) zOf
theorem zNI:TyC 4 15:=zHh (b:=3) (by omega) (by omega) (by omega) (zHh (b:=2) (by omega) (by omega) (by omega) zFl)
theorem zMs {es:List D} {i:Int} (hcu:Cu es i) (a:Option Addr) (c:Nat) (h:Int) (N:Nat) (Q:QT [.ag 2,.sl 0,.int .i64,.int .i64])
  (hQ:∀ d' a' es' c' i' h' N',N<=N'->Cu es' i'->SmT 200 d'->Q d' a' es' c' i' h' N'):BCalls prog 156 [.ag 2,.sl 0,.int .i64,.int .i64] [.pb 0 0 0 0] [.var [.sv a 0 es c,.int .i64 i,.int .i64 h]] N Q:=by
 refine zAL N a es c i h Q fun E _ N1 hN1=>zNI 4 (by omega) hcu a c h N1 _ fun d a1 es1 c1 i1 h1 N2 hN2 hc1 hd hx _ _ _ N3 hN3=>?_
 have lc:∀ (m:Nat) (y:D) (a es c i h) (N':Nat) (n4 n5:Int),n4<=n5+m->0<=n5->n4<=1000->m<=6->N<=N'->Cu es i->SmT (21 - m) y->xL E Q N n4 n5 a es c i h 0 none [] 0 y N':=by
  intro m
  induction m with
  | zero=>
    intro y a es c i h N' n4 n5 h1 h2 h5 h6 h3 hcu hy
    exact u2 _ _ _ _ _ _ _ _ _ _ _ _ _ _ _ _ (Br.dec (fun g=>by omega) fun _=>⟨zS,fun N4 hN4=>hQ _ _ _ _ _ _ _ (by omega) hcu (hy.mono (by omega))⟩)
  | succ m ihm=>
    intro y a es c i h N' n4 n5 h1 h2 h5 h6 h3 hcu hy
    refine u2 _ _ _ _ _ _ _ _ _ _ _ _ _ _ _ _ (Br.dec (fun g N4 hN4=>zJv (by omega) hy N4 _ fun e N5 hN5 he _ _ _=>?_) fun _=>⟨zS,fun N4 hN4=>hQ _ _ _ _ _ _ _ (by omega) hcu (hy.mono (by omega))⟩)
    rw [i64_in (n5+1) (by omega)]
    exact ihm _ _ _ _ _ _ _ _ _ (by omega) (by omega) (by omega) (by omega) (by omega) hcu (he.mono (by omega))
 have lf:∀ (m k:Nat) (y:D) (a es c i h) (N':Nat),m+k=3->N<=N'->Cu es i->SmT (16*2 ^ k - 1) y->xO E Q N k a es c i h 0 none [] 0 y N':=by
  have p3:∀ k:Nat,k<=3->2 ^ k<=8:=fun k hk=>by rcases (by omega:k=0\/k=1\/k=2\/k=3) with rfl | rfl | rfl | rfl<;>decide
  intro m
  induction m with
  | zero=>
    intro k y a es c i h N' h1 h3 hcu hy
    have:=p3 k (by omega)
    exact u3 _ _ _ _ _ _ _ _ _ _ _ _ _ _ _ (Br.dec (fun g=>by omega) fun _=>⟨zS,fun N4 hN4=>hQ _ _ _ _ _ _ _ (by omega) hcu (hy.mono (by omega))⟩)
  | succ m ihm=>
    intro k y a es c i h N' h1 h3 hcu hy
    have:=p3 k (by omega)
    have h0:1<=2 ^ k:=Nat.one_le_two_pow
    refine u3 _ _ _ _ _ _ _ _ _ _ _ _ _ _ _ (Br.dec (fun g N4 hN4=>zMh (by omega) hy hy N4 _ fun e N5 hN5 he _ _ _=>?_) fun _=>⟨zS,fun N4 hN4=>hQ _ _ _ _ _ _ _ (by omega) hcu (hy.mono (by omega))⟩)
    rw [i64_in ((k:Int)+1) (by omega)]
    exact ihm (k+1) _ _ _ _ _ _ _ (by omega) (by omega) hcu (he.mono (by rw [Nat.pow_succ];omega))
 obtain ⟨k,ra,rs,rc,rfl,hrc,hrl⟩:=hx
 obtain ⟨t,ht,htc⟩:=hd
 obtain ⟨k',l,rfl⟩:∃ k l,t=Ty.mk k l:=by cases t;exact ⟨_,_,rfl⟩
 obtain ⟨_,_,_,he,hl,hall⟩:=Ty.is_mk.1 ht
 cases he
 simp only [Ty.cnt] at htc
 refine zm hc1 10 (by omega) a1 c1 h1 N3 _ fun x a2 es2 c2 i2 h2 N4 hN4 hc2 _ _ _ _ _=>Br.beq (fun _ N5 hN5=>?_) fun _=>Br.beq (fun _=>⟨_,_,_,rfl,fun N5 hN5=>?_⟩) fun _=>Br.beq (fun _ N5 hN5=>?_) fun _=>Br.beq (fun _=>?_) fun _=>⟨zS,fun N5 hN5=>hQ _ _ _ _ _ _ _ (by omega) hc2 ⟨_,ht,by simp only [Ty.cnt];omega⟩⟩
 ·exact zm hc2 6 (by omega) a2 c2 h2 N5 _ fun y a3 es3 c3 i3 h3 N6 hN6 hc3 _ _ _ _ _=>⟨zS,fun N7 hN7=>hQ _ _ _ _ _ _ _ (by omega) hc3 ⟨.mk y l,Ty.is_mk.2 ⟨_,_,_,rfl,hl,hall⟩,by simp only [Ty.cnt];omega⟩⟩
 ·refine yz N5 _ fun y N6 hN6 hy _ _ _=>⟨?_,by unfold zA;rw [oH];simp only [oN,oP];omega,fun c4=>⟨⟨rfl,rfl⟩,⟨rfl,rfl⟩,⟨rfl,rfl⟩,⟨rfl,rfl⟩,fun a4 N7 hN7 _=>⟨zS,fun N8 hN8=>hQ _ _ _ _ _ _ _ (by omega) hc2 ⟨.mk k (l++[tInt]),Ty.is_mk.2 ⟨_,_,_,rfl,by simp;omega,hall.snoc hy⟩,?_⟩⟩⟩⟩
  ·unfold zMn
   split
   ·trivial
   ·exact ⟨hrc,by simp⟩
  ·have:zI (l++[tInt])=zI l+1:=by
    clear ht htc hall hl
    induction l with
    | nil=>rfl
    | cons u l ihl=>simp only [nB,zI,ihl];omega
   simp only [Ty.cnt]
   omega
 ·refine zm hc2 6 (by omega) a2 c2 h2 N5 _ fun y a3 es3 c3 i3 h3 N6 hN6 hc3 y0 y1 _ _ _=>?_
  have y1:=y1 (by omega)
  rw [i64_in (1+y) (by omega)]
  exact lc 6 _ _ _ _ _ _ _ _ _ (by omega) (by omega) (by omega) (by omega) (by omega) hc3 ⟨_,ht,by simp only [Ty.cnt];omega⟩
 ·exact lf 3 0 _ _ _ _ _ _ _ (by omega) (by omega) hc2 ⟨_,ht,by simp only [Ty.cnt];omega⟩
/-- the cells of some term, but for its kind and number and the place of its row -/
def PkT (m:Nat) (s s1:ByteArray) (x x1 x2 x3:D) (es:List D):Prop:=∃ (ty re:Ty) (l:List Tm),s.size<=4611686018427387904/\s1.size<=4611686018427387904/\ty.Is (.ag [x,x1])/\re.Is (.ag [x2,x3])/\All2 Tm.Is l es/\es.length<=1000/\1+ty.cnt+re.cnt+zO l<=m
theorem PkT.some {m:Nat} {s s1:ByteArray} {x x1 x2 x3:D} {es:List D} (h:PkT m s s1 x x1 x2 x3 es) (k n:Int) (a:Option Addr) (c:Nat):Some m (.ag [.lit (.int .i64 k),.lit (.string s),.lit (.string s1),.lit (.int .i64 n),x,x1,x2,x3,.sl a 9 es c]):=by
 obtain ⟨ty,re,l,h1,h2,h3,h4,h5,h6,h7⟩:=h
 exact ⟨.mk k s s1 n ty re l,Tm.is_mk.2 ⟨_,_,_,_,_,_,_,rfl,⟨h1,h2,h3,h4⟩,by omega,h5⟩,by simpa only [Tm.cnt] using h7⟩
theorem PkT.mono {m n:Nat} {s s1:ByteArray} {x x1 x2 x3:D} {es:List D} (h:PkT m s s1 x x1 x2 x3 es) (hn:m<=n):PkT n s s1 x x1 x2 x3 es:=by
 obtain ⟨ty,re,l,h1,h2,h3,h4,h5,h6,h7⟩:=h
 exact ⟨ty,re,l,h1,h2,h3,h4,h5,h6,by omega⟩
theorem PkT.name {m:Nat} {s s1:ByteArray} {x x1 x2 x3:D} {es:List D} (h:PkT m s s1 x x1 x2 x3 es) {t:ByteArray} (ht:t.size<=1000):PkT m t s1 x x1 x2 x3 es:=by
 obtain ⟨ty,re,l,h1,h2,h3,h4,h5,h6,h7⟩:=h
 exact ⟨ty,re,l,by omega,h2,h3,h4,h5,h6,h7⟩
theorem PkT.other {m:Nat} {s s1:ByteArray} {x x1 x2 x3:D} {es:List D} (h:PkT m s s1 x x1 x2 x3 es) {t:ByteArray} (ht:t.size<=1000):PkT m s t x x1 x2 x3 es:=by
 obtain ⟨ty,re,l,h1,h2,h3,h4,h5,h6,h7⟩:=h
 exact ⟨ty,re,l,h1,by omega,h3,h4,h5,h6,h7⟩
theorem PkT.type {m M:Nat} {s s1:ByteArray} {x x1 x2 x3 y y1:D} {es:List D} (h:PkT m s s1 x x1 x2 x3 es) (hy:SmT M (.ag [y,y1])):PkT (m+M) s s1 y y1 x2 x3 es:=by
 obtain ⟨ty,re,l,h1,h2,h3,h4,h5,h6,h7⟩:=h
 obtain ⟨t,h8,h9⟩:=hy
 exact ⟨t,re,l,h1,h2,h8,h4,h5,h6,by omega⟩
theorem zBj (t:Tm):∀ l:List Tm,zO (l++[t])=zO l+t.cnt
 | []=>by simp [zO]
 | x::l=>by simp only [nB,zO,zBj t l];omega
theorem PkT.snoc {m M:Nat} {s s1:ByteArray} {x x1 x2 x3 d:D} {es:List D} (h:PkT m s s1 x x1 x2 x3 es) (hd:Some M d) (hl:es.length<=999):PkT (m+M) s s1 x x1 x2 x3 (es++[d]):=by
 obtain ⟨ty,re,l,h1,h2,h3,h4,h5,h6,h7⟩:=h
 obtain ⟨t,h8,h9⟩:=hd
 exact ⟨ty,re,l++[t],h1,h2,h3,h4,h5.snoc h8,by simp;omega,by rw [zBj];omega⟩
theorem zDK {s s1:ByteArray} (hs:s.size<=1000) (hs1:s1.size<=1000) {x x1 x2 x3:D} (h1:SmT 7 (.ag [x,x1])) (h2:SmT 7 (.ag [x2,x3])):PkT 15 s s1 x x1 x2 x3 []:=by
 obtain ⟨t,h3,h4⟩:=h1
 obtain ⟨u,h5,h6⟩:=h2
 exact ⟨t,u,[],by omega,by omega,h3,h5,rfl,by simp,by simp only [zO];omega⟩
theorem zHQ:SmT 7 (.ag [D.lit (.int .i64 0),D.sl none 2 [] 0]):=(zHS 0).mono (by omega)
theorem zNh (s:ByteArray):zEb s<=3:=by
 unfold zEb
 repeat' split
 all_goals decide
theorem tE (k:Int) (s:ByteArray):zFf k s<=3:=by
 unfold zFf
 have:=zNh s
 repeat' split
 all_goals first | omega | decide
def zHz (b:Int) (X:Nat):Prop:=∀ (n:Int),n<=b->∀ {es:List D} {i:Int} (_:Cu es i) (a:Option Addr) (c:Nat) (h:Int) (N:Nat) (Q:QT [.pk,.int .i64,.str,.str,.int .i64,.dc,.dc,.dc,.dc,.row 30 9,.sl 0,.int .i64,.int .i64])
    (_:∀ k s s1 n' x x1 x2 x3 r q a' es' c' i' h' N',N<=N'->Cu es' i'->PkT X s s1 x x1 x2 x3 r->r.length<=3->Q k s s1 n' x x1 x2 x3 r q a' es' c' i' h' N'),BCalls prog 154 [.pk,.int .i64,.str,.str,.int .i64,.dc,.dc,.dc,.dc,.row 30 9,.sl 0,.int .i64,.int .i64] [.pb 0 0 0 0,.int .i64 n] [.var [.sv a 0 es c,.int .i64 i,.int .i64 h]] N Q
theorem zMa {es:List D} {i:Int} (hcu:Cu es i) (a:Option Addr) (c:Nat) (h:Int) (N:Nat) (Q:QT [.pk,.int .i64,.str,.str,.int .i64,.dc,.dc,.dc,.dc,.row 30 9,.sl 0,.int .i64,.int .i64])
  (hQ:∀ k s s1 n' x x1 x2 x3 r q a' es' c' i' h' N',N<=N'->Cu es' i'->PkT 15 s s1 x x1 x2 x3 r->r.length<=3->Q k s s1 n' x x1 x2 x3 r q a' es' c' i' h' N'):BCalls prog 203 [.pk,.int .i64,.str,.str,.int .i64,.dc,.dc,.dc,.dc,.row 30 9,.sl 0,.int .i64,.int .i64] [.pb 0 0 0 0] [.var [.sv a 0 es c,.int .i64 i,.int .i64 h]] N Q:=by
 have z:PkT 15 (bytes []) (bytes []) (D.lit (.int .i64 0)) (D.sl none 2 [] 0) (D.lit (.int .i64 0)) (D.sl none 2 [] 0) []:=zDK (by decide) (by decide) zHQ zHQ
 refine zAE N a es c i h Q fun E _ N1 hN1=>zm hcu 4 (by omega) a c h N1 _ fun x a1 es1 c1 i1 h1 N2 hN2 hc1 _ _ _ _ _=>Br.beq (fun _ N3 hN3=>?_) fun _=>Br.beq (fun _ N3 hN3=>?_) fun _ N3 hN3=>?_
 ·exact wh (l:=[0,1,2,3,10006]) hc1 (by decide) (by decide) a1 c1 h1 5 5 N3 _ fun k a2 es2 c2 i2 h2 N4 hN4 hc2 _ _ _ _ N5 hN5=>zCe N5 k _ fun N6 hN6 _ _=>⟨zS,⟨rfl,rfl⟩,fun N7 hN7=>hQ _ _ _ _ _ _ _ _ _ _ _ _ _ _ _ _ (by omega) hc2 z (by simp)⟩
 ·exact zm hc1 2 (by omega) a1 c1 h1 N3 _ fun k a2 es2 c2 i2 h2 N4 hN4 hc2 _ _ _ _ _ N5 hN5=>zCT N5 k _ fun N6 hN6 _ _=>⟨zS,⟨rfl,rfl⟩,fun N7 hN7=>hQ _ _ _ _ _ _ _ _ _ _ _ _ _ _ _ _ (by omega) hc2 z (by simp)⟩
 ·refine vh (l:=[bytes [120],bytes [121],bytes [102]]) hc1 (by decide) (by decide) a1 c1 h1 3 3 N3 _ fun s a2 es2 c2 i2 h2 N4 hN4 hc2 hs _ _ _ N5 hN5=>s3 N5 s _ fun N6 hN6 _ _=>⟨zS,⟨rfl,rfl⟩,fun N7 hN7=>hQ _ _ _ _ _ _ _ _ _ _ _ _ _ _ _ _ (by omega) hc2 (z.name ?_) (by simp)⟩
  simp only [oG,nD,mP] at hs
  rcases hs with rfl | rfl | rfl<;>decide
theorem zNZ:zHz 1 15:=fun n hn es i hcu a c h N Q hQ=>tu N n a es c i h Q fun E _=>Br.dec (fun _ N1 hN1=>zMa hcu a c h N1 _ fun k s s1 n' x x1 x2 x3 r q a' es' c' i' h' N2 hN2 hc' hp hr _ _ _=>⟨zS,⟨rfl,rfl⟩,fun N3 hN3=>hQ _ _ _ _ _ _ _ _ _ _ _ _ _ _ _ _ (by omega) hc' hp hr⟩) fun g=>absurd (by omega) g
theorem zPT {b:Int} {X:Nat} (hb:b<=1000) (hX:15<=X) (ih:zHz b X) {E:Env} {N:Nat} {Q:QT [.pk,.int .i64,.str,.str,.int .i64,.dc,.dc,.dc,.dc,.row 30 9,.sl 0,.int .i64,.int .i64]} {n:Int} (hn:n - 1<=b) (hn2:2<=n) (kd n3:Int) (s s1:ByteArray) (x4 x5 x6 x7:D) {m6:Int} (hm:m6<=3)
  (hQ:∀ r q a es c i h N',N<=N'->Cu es i->PkT (15+3*X) s s1 x4 x5 x6 x7 r->r.length<=3->Q kd s s1 n3 x4 x5 x6 x7 r q a es c i h N') :
  ∀ (rem k:Nat) (r:List D) (q:Nat) a es c i h N',m6<=k+rem->k<=3->r.length=k->N<=N'->Cu es i->PkT (15+k*X) s s1 x4 x5 x6 x7 r->xj E Q N n m6 k a es c i h 0 (bytes []) (bytes []) 0 0 none [] 0 0 none [] 0 none [] 0 kd s s1 n3 x4 x5 x6 x7 r.length q r q N':=by
 intro rem
 induction rem with
 | zero=>
   intro k r q a es c i h N' h1 h2 h3 h4 hcu hp
   have hk:k*X<=3*X:=oq _ h2
   refine tz _ _ _ _ _ _ _ _ _ _ _ _ _ _ _ _ _ _ _ _ _ _ _ _ _ _ _ _ _ _ _ _ _ _ _ _ _ _ _ (Br.dec (fun g=>by omega) fun _=>⟨zS,⟨rfl,rfl⟩,fun N4 hN4=>hQ _ _ _ _ _ _ _ _ (by omega) hcu (hp.mono (by omega)) (by omega)⟩)
 | succ rem ihr=>
   intro k r q a es c i h N' h1 h2 h3 h4 hcu hp
   have hk:k*X<=3*X:=oq _ h2
   refine tz _ _ _ _ _ _ _ _ _ _ _ _ _ _ _ _ _ _ _ _ _ _ _ _ _ _ _ _ _ _ _ _ _ _ _ _ _ _ _ (Br.dec (fun g N1 hN1=>?_) fun _=>⟨zS,⟨rfl,rfl⟩,fun N4 hN4=>hQ _ _ _ _ _ _ _ _ (by omega) hcu (hp.mono (by omega)) (by omega)⟩)
   rw [i64_in (n - 1) (by omega)]
   refine ih (n - 1) hn hcu a c h N1 _ fun k' t t1 n' y y1 y2 y3 es' c' a' es2 c2 i2 h2 N2 hN2 hc2 hp2 _ _ _ _=>⟨⟨rfl,rfl⟩,fun a1 N3 hN3 _=>⟨⟨rfl,rfl⟩,by unfold zA;rw [oH];simp only [oN,oP];omega,fun c3=>?_⟩⟩
   rw [i64_in ((k:Int)+1) (by omega)]
   exact ihr (k+1) _ c3 _ _ _ _ _ _ (by omega) (by omega) (by simp [h3]) (by omega) hc2 ((hp.snoc (hp2.some _ _ _ _) (by omega)).mono (by rw [Nat.succ_mul];omega))
theorem zO9 {b:Int} {X:Nat} (hb:b<=1000) (hX:15<=X) (ih:zHz b X) {E:Env} {N:Nat} {Q:QT [.pk,.int .i64,.str,.str,.int .i64,.dc,.dc,.dc,.dc,.row 30 9,.sl 0,.int .i64,.int .i64]} {n:Int} (hn:n - 1<=b) (hn2:2<=n) (kd n3:Int) {s s1:ByteArray} (hs:s.size<=1000) (hs1:s1.size<=1000) (x4 x5 x6 x7:D) (hT:SmT 7 (.ag [x4,x5])) (hR:SmT 7 (.ag [x6,x7]))
  (hQ:∀ k s s1 n' x x1 x2 x3 r q a es c i h N',N<=N'->Cu es i->PkT (15+3*X) s s1 x x1 x2 x3 r->r.length<=3->Q k s s1 n' x x1 x2 x3 r q a es c i h N') {es:List D} {i:Int} (hcu:Cu es i) (a:Option Addr) (c:Nat) (h:Int) {N':Nat} (hN':N<=N') :
  vL E Q N n a es c i h 0 (bytes []) (bytes []) 0 0 none [] 0 0 none [] 0 none [] 0 kd s s1 n3 x4 x5 x6 x7 0 0 [] 0 N':=by
 refine zA1 _ _ _ _ _ _ _ _ _ _ _ _ _ _ _ _ _ _ _ _ _ _ _ _ _ _ _ _ _ _ _ _ _ _ _ _ _ ⟨⟨rfl,rfl⟩,fun a7 _ N1 hN1 _=>xI N1 _ fun N2 hN2 _=>zPT hb hX ih hn hn2 kd n3 s s1 x4 x5 x6 x7 (tE _ _) (fun r q a es c i h N'=>hQ _ _ _ _ _ _ _ _ r q a es c i h N') 3 0 [] 0 a es c i h N2 (by have:=tE kd s;omega) (by omega) rfl (by omega) hcu ((zDK hs hs1 hT hR).mono (by omega))⟩
theorem zLk {b:Int} {X:Nat} (hb:b<=1000) (hX:15<=X) (ih:zHz b X) {E:Env} {N:Nat} {Q:QT [.pk,.int .i64,.str,.str,.int .i64,.dc,.dc,.dc,.dc,.row 30 9,.sl 0,.int .i64,.int .i64]} {n:Int} (hn:n - 1<=b) (hn2:2<=n) (kd n3:Int) (s s1:ByteArray) (x4 x5:D) {m6:Int} (hm:m6<=3)
  (hQ:∀ r q a es c i h N',N<=N'->Cu es i->PkT (15+3*X) s s1 x4 x5 (D.lit (.int .i64 0)) (D.sl none 2 [] 0) r->r.length<=3->Q kd s s1 n3 x4 x5 (D.lit (.int .i64 0)) (D.sl none 2 [] 0) r q a es c i h N') :
  ∀ (rem k:Nat) (r:List D) (q:Nat) a es c i h N',m6<=k+rem->k<=3->r.length=k->N<=N'->Cu es i->PkT (15+k*X) s s1 x4 x5 (D.lit (.int .i64 0)) (D.sl none 2 [] 0) r->yk E Q N n m6 k a es c i h 0 (bytes []) (bytes []) 0 0 none [] 0 0 none [] 0 none [] 0 kd s s1 n3 x4 x5 0 none [] 0 r.length q r q N':=by
 intro rem
 induction rem with
 | zero=>
   intro k r q a es c i h N' h1 h2 h3 h4 hcu hp
   have hk:k*X<=3*X:=oq _ h2
   refine vv _ _ _ _ _ _ _ _ _ _ _ _ _ _ _ _ _ _ _ _ _ _ _ _ _ _ _ _ _ _ _ _ _ _ _ _ _ _ _ _ _ (Br.dec (fun g=>by omega) fun _=>⟨zS,⟨rfl,rfl⟩,fun N4 hN4=>hQ _ _ _ _ _ _ _ _ (by omega) hcu (hp.mono (by omega)) (by omega)⟩)
 | succ rem ihr=>
   intro k r q a es c i h N' h1 h2 h3 h4 hcu hp
   have hk:k*X<=3*X:=oq _ h2
   refine vv _ _ _ _ _ _ _ _ _ _ _ _ _ _ _ _ _ _ _ _ _ _ _ _ _ _ _ _ _ _ _ _ _ _ _ _ _ _ _ _ _ (Br.dec (fun g N1 hN1=>?_) fun _=>⟨zS,⟨rfl,rfl⟩,fun N4 hN4=>hQ _ _ _ _ _ _ _ _ (by omega) hcu (hp.mono (by omega)) (by omega)⟩)
   rw [i64_in (n - 1) (by omega)]
   refine ih (n - 1) hn hcu a c h N1 _ fun k' t t1 n' y y1 y2 y3 es' c' a' es2 c2 i2 h2 N2 hN2 hc2 hp2 _ _ _ _=>⟨⟨rfl,rfl⟩,fun a1 N3 hN3 _=>⟨⟨rfl,rfl⟩,by unfold zA;rw [oH];simp only [oN,oP];omega,fun c3=>?_⟩⟩
   rw [i64_in ((k:Int)+1) (by omega)]
   exact ihr (k+1) _ c3 _ _ _ _ _ _ (by omega) (by omega) (by simp [h3]) (by omega) hc2 ((hp.snoc (hp2.some _ _ _ _) (by omega)).mono (by rw [Nat.succ_mul];omega))
theorem zLM {b:Int} {X:Nat} (hb:b<=1000) (hX:15<=X) (ih:zHz b X) {E:Env} {N:Nat} {Q:QT [.pk,.int .i64,.str,.str,.int .i64,.dc,.dc,.dc,.dc,.row 30 9,.sl 0,.int .i64,.int .i64]} {n:Int} (hn:n - 1<=b) (hn2:2<=n) (kd n3:Int) {s s1:ByteArray} (hs:s.size<=1000) (hs1:s1.size<=1000) (x4 x5:D) (hT:SmT 7 (.ag [x4,x5])) (hR:SmT 7 (.ag [(D.lit (.int .i64 0)),(D.sl none 2 [] 0)]))
  (hQ:∀ k s s1 n' x x1 x2 x3 r q a es c i h N',N<=N'->Cu es i->PkT (15+3*X) s s1 x x1 x2 x3 r->r.length<=3->Q k s s1 n' x x1 x2 x3 r q a es c i h N') {es:List D} {i:Int} (hcu:Cu es i) (a:Option Addr) (c:Nat) (h:Int) {N':Nat} (hN':N<=N') :
  xn E Q N n a es c i h 0 (bytes []) (bytes []) 0 0 none [] 0 0 none [] 0 none [] 0 kd s s1 n3 x4 x5 0 none [] 0 0 0 [] 0 N':=by
 refine qX _ _ _ _ _ _ _ _ _ _ _ _ _ _ _ _ _ _ _ _ _ _ _ _ _ _ _ _ _ _ _ _ _ _ _ _ _ _ _ ⟨⟨rfl,rfl⟩,fun a7 _ N1 hN1 _=>xI N1 _ fun N2 hN2 _=>zLk hb hX ih hn hn2 kd n3 s s1 x4 x5 (tE _ _) (fun r q a es c i h N'=>hQ _ _ _ _ _ _ _ _ r q a es c i h N') 3 0 [] 0 a es c i h N2 (by have:=tE kd s;omega) (by omega) rfl (by omega) hcu ((zDK hs hs1 hT hR).mono (by omega))⟩
theorem zLO {b:Int} {X:Nat} (hb:b<=1000) (hX:15<=X) (ih:zHz b X) {E:Env} {N:Nat} {Q:QT [.pk,.int .i64,.str,.str,.int .i64,.dc,.dc,.dc,.dc,.row 30 9,.sl 0,.int .i64,.int .i64]} {n:Int} (hn:n - 1<=b) (hn2:2<=n) (kd n3:Int) (s s1:ByteArray) (x6 x7:D) {m6:Int} (hm:m6<=3)
  (hQ:∀ r q a es c i h N',N<=N'->Cu es i->PkT (15+3*X) s s1 (D.lit (.int .i64 0)) (D.sl none 2 [] 0) x6 x7 r->r.length<=3->Q kd s s1 n3 (D.lit (.int .i64 0)) (D.sl none 2 [] 0) x6 x7 r q a es c i h N') :
  ∀ (rem k:Nat) (r:List D) (q:Nat) a es c i h N',m6<=k+rem->k<=3->r.length=k->N<=N'->Cu es i->PkT (15+k*X) s s1 (D.lit (.int .i64 0)) (D.sl none 2 [] 0) x6 x7 r->yj E Q N n m6 k a es c i h 0 (bytes []) (bytes []) 0 0 none [] 0 0 none [] 0 none [] 0 kd s s1 n3 0 none [] 0 x6 x7 r.length q r q N':=by
 intro rem
 induction rem with
 | zero=>
   intro k r q a es c i h N' h1 h2 h3 h4 hcu hp
   have hk:k*X<=3*X:=oq _ h2
   refine vW _ _ _ _ _ _ _ _ _ _ _ _ _ _ _ _ _ _ _ _ _ _ _ _ _ _ _ _ _ _ _ _ _ _ _ _ _ _ _ _ _ (Br.dec (fun g=>by omega) fun _=>⟨zS,⟨rfl,rfl⟩,fun N4 hN4=>hQ _ _ _ _ _ _ _ _ (by omega) hcu (hp.mono (by omega)) (by omega)⟩)
 | succ rem ihr=>
   intro k r q a es c i h N' h1 h2 h3 h4 hcu hp
   have hk:k*X<=3*X:=oq _ h2
   refine vW _ _ _ _ _ _ _ _ _ _ _ _ _ _ _ _ _ _ _ _ _ _ _ _ _ _ _ _ _ _ _ _ _ _ _ _ _ _ _ _ _ (Br.dec (fun g N1 hN1=>?_) fun _=>⟨zS,⟨rfl,rfl⟩,fun N4 hN4=>hQ _ _ _ _ _ _ _ _ (by omega) hcu (hp.mono (by omega)) (by omega)⟩)
   rw [i64_in (n - 1) (by omega)]
   refine ih (n - 1) hn hcu a c h N1 _ fun k' t t1 n' y y1 y2 y3 es' c' a' es2 c2 i2 h2 N2 hN2 hc2 hp2 _ _ _ _=>⟨⟨rfl,rfl⟩,fun a1 N3 hN3 _=>⟨⟨rfl,rfl⟩,by unfold zA;rw [oH];simp only [oN,oP];omega,fun c3=>?_⟩⟩
   rw [i64_in ((k:Int)+1) (by omega)]
   exact ihr (k+1) _ c3 _ _ _ _ _ _ (by omega) (by omega) (by simp [h3]) (by omega) hc2 ((hp.snoc (hp2.some _ _ _ _) (by omega)).mono (by rw [Nat.succ_mul];omega))
theorem zME {b:Int} {X:Nat} (hb:b<=1000) (hX:15<=X) (ih:zHz b X) {E:Env} {N:Nat} {Q:QT [.pk,.int .i64,.str,.str,.int .i64,.dc,.dc,.dc,.dc,.row 30 9,.sl 0,.int .i64,.int .i64]} {n:Int} (hn:n - 1<=b) (hn2:2<=n) (kd n3:Int) {s s1:ByteArray} (hs:s.size<=1000) (hs1:s1.size<=1000) (x6 x7:D) (hT:SmT 7 (.ag [(D.lit (.int .i64 0)),(D.sl none 2 [] 0)])) (hR:SmT 7 (.ag [x6,x7]))
  (hQ:∀ k s s1 n' x x1 x2 x3 r q a es c i h N',N<=N'->Cu es i->PkT (15+3*X) s s1 x x1 x2 x3 r->r.length<=3->Q k s s1 n' x x1 x2 x3 r q a es c i h N') {es:List D} {i:Int} (hcu:Cu es i) (a:Option Addr) (c:Nat) (h:Int) {N':Nat} (hN':N<=N') :
  xt E Q N n a es c i h 0 (bytes []) (bytes []) 0 0 none [] 0 0 none [] 0 none [] 0 kd s s1 n3 0 none [] 0 x6 x7 0 0 [] 0 N':=by
 refine qC _ _ _ _ _ _ _ _ _ _ _ _ _ _ _ _ _ _ _ _ _ _ _ _ _ _ _ _ _ _ _ _ _ _ _ _ _ _ _ ⟨⟨rfl,rfl⟩,fun a7 _ N1 hN1 _=>xI N1 _ fun N2 hN2 _=>zLO hb hX ih hn hn2 kd n3 s s1 x6 x7 (tE _ _) (fun r q a es c i h N'=>hQ _ _ _ _ _ _ _ _ r q a es c i h N') 3 0 [] 0 a es c i h N2 (by have:=tE kd s;omega) (by omega) rfl (by omega) hcu ((zDK hs hs1 hT hR).mono (by omega))⟩
theorem zLG {b:Int} {X:Nat} (hb:b<=1000) (hX:15<=X) (ih:zHz b X) {E:Env} {N:Nat} {Q:QT [.pk,.int .i64,.str,.str,.int .i64,.dc,.dc,.dc,.dc,.row 30 9,.sl 0,.int .i64,.int .i64]} {n:Int} (hn:n - 1<=b) (hn2:2<=n) (kd n3:Int) (s s1:ByteArray) {m6:Int} (hm:m6<=3)
  (hQ:∀ r q a es c i h N',N<=N'->Cu es i->PkT (15+3*X) s s1 (D.lit (.int .i64 0)) (D.sl none 2 [] 0) (D.lit (.int .i64 0)) (D.sl none 2 [] 0) r->r.length<=3->Q kd s s1 n3 (D.lit (.int .i64 0)) (D.sl none 2 [] 0) (D.lit (.int .i64 0)) (D.sl none 2 [] 0) r q a es c i h N') :
  ∀ (rem k:Nat) (r:List D) (q:Nat) a es c i h N',m6<=k+rem->k<=3->r.length=k->N<=N'->Cu es i->PkT (15+k*X) s s1 (D.lit (.int .i64 0)) (D.sl none 2 [] 0) (D.lit (.int .i64 0)) (D.sl none 2 [] 0) r->ym E Q N n m6 k a es c i h 0 (bytes []) (bytes []) 0 0 none [] 0 0 none [] 0 none [] 0 kd s s1 n3 0 none [] 0 0 none [] 0 r.length q r q N':=by
 intro rem
 induction rem with
 | zero=>
   intro k r q a es c i h N' h1 h2 h3 h4 hcu hp
   have hk:k*X<=3*X:=oq _ h2
   refine vu _ _ _ _ _ _ _ _ _ _ _ _ _ _ _ _ _ _ _ _ _ _ _ _ _ _ _ _ _ _ _ _ _ _ _ _ _ _ _ _ _ _ _ (Br.dec (fun g=>by omega) fun _=>⟨zS,⟨rfl,rfl⟩,fun N4 hN4=>hQ _ _ _ _ _ _ _ _ (by omega) hcu (hp.mono (by omega)) (by omega)⟩)
 | succ rem ihr=>
   intro k r q a es c i h N' h1 h2 h3 h4 hcu hp
   have hk:k*X<=3*X:=oq _ h2
   refine vu _ _ _ _ _ _ _ _ _ _ _ _ _ _ _ _ _ _ _ _ _ _ _ _ _ _ _ _ _ _ _ _ _ _ _ _ _ _ _ _ _ _ _ (Br.dec (fun g N1 hN1=>?_) fun _=>⟨zS,⟨rfl,rfl⟩,fun N4 hN4=>hQ _ _ _ _ _ _ _ _ (by omega) hcu (hp.mono (by omega)) (by omega)⟩)
   rw [i64_in (n - 1) (by omega)]
   refine ih (n - 1) hn hcu a c h N1 _ fun k' t t1 n' y y1 y2 y3 es' c' a' es2 c2 i2 h2 N2 hN2 hc2 hp2 _ _ _ _=>⟨⟨rfl,rfl⟩,fun a1 N3 hN3 _=>⟨⟨rfl,rfl⟩,by unfold zA;rw [oH];simp only [oN,oP];omega,fun c3=>?_⟩⟩
   rw [i64_in ((k:Int)+1) (by omega)]
   exact ihr (k+1) _ c3 _ _ _ _ _ _ (by omega) (by omega) (by simp [h3]) (by omega) hc2 ((hp.snoc (hp2.some _ _ _ _) (by omega)).mono (by rw [Nat.succ_mul];omega))
theorem zLF {b:Int} {X:Nat} (hb:b<=1000) (hX:15<=X) (ih:zHz b X) {E:Env} {N:Nat} {Q:QT [.pk,.int .i64,.str,.str,.int .i64,.dc,.dc,.dc,.dc,.row 30 9,.sl 0,.int .i64,.int .i64]} {n:Int} (hn:n - 1<=b) (hn2:2<=n) (kd n3:Int) {s s1:ByteArray} (hs:s.size<=1000) (hs1:s1.size<=1000) (hT:SmT 7 (.ag [(D.lit (.int .i64 0)),(D.sl none 2 [] 0)])) (hR:SmT 7 (.ag [(D.lit (.int .i64 0)),(D.sl none 2 [] 0)]))
  (hQ:∀ k s s1 n' x x1 x2 x3 r q a es c i h N',N<=N'->Cu es i->PkT (15+3*X) s s1 x x1 x2 x3 r->r.length<=3->Q k s s1 n' x x1 x2 x3 r q a es c i h N') {es:List D} {i:Int} (hcu:Cu es i) (a:Option Addr) (c:Nat) (h:Int) {N':Nat} (hN':N<=N') :
  wG E Q N n a es c i h 0 (bytes []) (bytes []) 0 0 none [] 0 0 none [] 0 none [] 0 kd s s1 n3 0 none [] 0 0 none [] 0 0 0 [] 0 N':=by
 refine ro _ _ _ _ _ _ _ _ _ _ _ _ _ _ _ _ _ _ _ _ _ _ _ _ _ _ _ _ _ _ _ _ _ _ _ _ _ _ _ _ _ ⟨⟨rfl,rfl⟩,fun a7 _ N1 hN1 _=>xI N1 _ fun N2 hN2 _=>zLG hb hX ih hn hn2 kd n3 s s1  (tE _ _) (fun r q a es c i h N'=>hQ _ _ _ _ _ _ _ _ r q a es c i h N') 3 0 [] 0 a es c i h N2 (by have:=tE kd s;omega) (by omega) rfl (by omega) hcu ((zDK hs hs1 hT hR).mono (by omega))⟩
theorem zN1 {b:Int} {X:Nat} (hb:b<=1000) (hX:15<=X) (ih:zHz b X) {E:Env} {N:Nat} {Q:QT [.pk,.int .i64,.str,.str,.int .i64,.dc,.dc,.dc,.dc,.row 30 9,.sl 0,.int .i64,.int .i64]} {n:Int} (hn:n - 1<=b) (hn2:2<=n) (kd n3:Int) {s:ByteArray} (hs:s.size<=1000) (x4 x5:D) (hT:SmT 7 (.ag [x4,x5]))
  (hQ:∀ k s s1 n' x x1 x2 x3 r q a es c i h N',N<=N'->Cu es i->PkT (15+3*X) s s1 x x1 x2 x3 r->r.length<=3->Q k s s1 n' x x1 x2 x3 r q a es c i h N') {es:List D} {i:Int} (hcu:Cu es i) (a:Option Addr) (c:Nat) (h:Int) {N':Nat} (hN':N<=N') :
  xm E Q N n a es c i h 0 (bytes []) (bytes []) 0 0 none [] 0 0 none [] 0 none [] 0 kd s (bytes []) n3 x4 x5 0 none [] 0 0 0 [] 0 N':=by
 refine zBo _ _ _ _ _ _ _ _ _ _ _ _ _ _ _ _ _ _ _ _ _ _ _ _ _ _ _ _ _ _ _ _ _ _ _ _ _ _ _ (Br.beq (fun _ N1 hN1=>?_) fun _=>zLM hb hX ih hn hn2 kd n3 hs (by decide) x4 x5 hT zHQ hQ hcu a c h hN')
 refine vh (l:=[bytes [122],bytes [119]]) hcu (by decide) (by decide) a c h 2 2 N1 _ fun t a1 es1 c1 i1 h1 N2 hN2 hc1 ht _ _ _ N3 hN3=>?_
 have ht:t.size<=1000:=by
  simp only [oG,nD,mP] at ht
  rcases ht with rfl | rfl<;>decide
 exact zFl 2 (by omega) hc1 a1 c1 h1 N3 _ fun d a2 es2 c2 i2 h2 N4 hN4 hc2 hd _ _ _ _=>zO9 hb hX ih hn hn2 kd n3 hs ht x4 x5 _ _ hT (hd.cells.mono (by omega)) hQ hc2 a2 c2 h2 (by omega)
theorem zMN {b:Int} {X:Nat} (hb:b<=1000) (hX:15<=X) (ih:zHz b X) {E:Env} {N:Nat} {Q:QT [.pk,.int .i64,.str,.str,.int .i64,.dc,.dc,.dc,.dc,.row 30 9,.sl 0,.int .i64,.int .i64]} {n:Int} (hn:n - 1<=b) (hn2:2<=n) (kd n3:Int) {s:ByteArray} (hs:s.size<=1000) (hT:SmT 7 (.ag [(D.lit (.int .i64 0)),(D.sl none 2 [] 0)]))
  (hQ:∀ k s s1 n' x x1 x2 x3 r q a es c i h N',N<=N'->Cu es i->PkT (15+3*X) s s1 x x1 x2 x3 r->r.length<=3->Q k s s1 n' x x1 x2 x3 r q a es c i h N') {es:List D} {i:Int} (hcu:Cu es i) (a:Option Addr) (c:Nat) (h:Int) {N':Nat} (hN':N<=N') :
  wA E Q N n a es c i h 0 (bytes []) (bytes []) 0 0 none [] 0 0 none [] 0 none [] 0 kd s (bytes []) n3 0 none [] 0 0 none [] 0 0 0 [] 0 N':=by
 refine qk _ _ _ _ _ _ _ _ _ _ _ _ _ _ _ _ _ _ _ _ _ _ _ _ _ _ _ _ _ _ _ _ _ _ _ _ _ _ _ _ _ (Br.beq (fun _ N1 hN1=>?_) fun _=>zLF hb hX ih hn hn2 kd n3 hs (by decide) hT zHQ hQ hcu a c h hN')
 refine vh (l:=[bytes [122],bytes [119]]) hcu (by decide) (by decide) a c h 2 2 N1 _ fun t a1 es1 c1 i1 h1 N2 hN2 hc1 ht _ _ _ N3 hN3=>?_
 have ht:t.size<=1000:=by
  simp only [oG,nD,mP] at ht
  rcases ht with rfl | rfl<;>decide
 exact zFl 2 (by omega) hc1 a1 c1 h1 N3 _ fun d a2 es2 c2 i2 h2 N4 hN4 hc2 hd _ _ _ _=>zME hb hX ih hn hn2 kd n3 hs ht _ _ hT (hd.cells.mono (by omega)) hQ hc2 a2 c2 h2 (by omega)
theorem zFM {b:Int} {X:Nat} (hb:b<=1000) (hX:15<=X) (ih:zHz b X):zHz (b+1) (15+3*X):=fun n hn es i hcu a c h N Q hQ=>by
 have lf:∀ (E:Env) {es:List D} {i:Int} (_:Cu es i) a c h N1,N<=N1->BCalls prog 203 [.pk,.int .i64,.str,.str,.int .i64,.dc,.dc,.dc,.dc,.row 30 9,.sl 0,.int .i64,.int .i64] [.pb 0 0 0 0] [.var [.sv a 0 es c,.int .i64 i,.int .i64 h]] N1 (fun n s s_1 n_1 x x_1 x_2 x_3 es c a es_1 c_1 n_2 n_3 N2=>N1<=N2->Bel N2 (D.sl a 0 es_1 c_1)->Bel N2 (D.ag es)->zP E [.var [.sv none 0 [] 0,.int .i64 0,.int .i64 0]]/\(es.length=es.length/\c=c)/\∀ N3,N2<=N3->Q n s s_1 n_1 x x_1 x_2 x_3 es c a es_1 c_1 n_2 n_3 N3):=fun E es i hcu a c h N1 hN1=>
  zMa hcu a c h N1 _ fun k s s1 n' x x1 x2 x3 r q a' es' c' i' h' N2 hN2 hc' hp hr _ _ _=>⟨zS,⟨rfl,rfl⟩,fun N3 hN3=>hQ _ _ _ _ _ _ _ _ _ _ _ _ _ _ _ _ (by omega) hc' (hp.mono (by omega)) hr⟩
 refine tu N n a es c i h Q fun E _=>Br.dec (fun _ N1 hN1=>lf E hcu a c h N1 hN1) fun hlt N1 hN1=>wu hcu 5 (by omega) a c h N1 _ fun b1 a1 es1 c1 i1 h1 N2 hN2 hc1 _ _=>Br.of (fun _ N3 hN3=>lf E hc1 a1 c1 h1 N3 (by omega)) fun _ N3 hN3=>?_
 refine wh (l:=[4,5,6,7,8,9,10,11,12,13,10,4]) hc1 (by decide) (by decide) a1 c1 h1 12 12 N3 _ fun kd a2 es2 c2 i2 h2 N4 hN4 hc2 _ _ _ _=>?_
 have L11:∀ {s:ByteArray} (_:s.size<=1000) {es:List D} {i:Int} (_:Cu es i) a c h N',N<=N'->zl E Q N n a es c i h 0 (bytes []) (bytes []) 0 0 none [] 0 0 none [] 0 none [] 0 kd s (bytes []) 0 0 none [] 0 0 none [] 0 0 0 [] 0 N':=fun hs es i hcu a c h N' hN'=>by
  refine zCE _ _ _ _ _ _ _ _ _ _ _ _ _ _ _ _ _ _ _ _ _ _ _ _ _ _ _ _ _ _ _ _ _ _ _ _ _ _ _ _ _ (Br.beq (fun _ N5 hN5=>zFl 2 (by omega) hcu a c h N5 _ fun d a2 es2 c2 i2 h2 N6 hN6 hc2 hd _ _ _ _=>zN1 hb hX ih (by omega) (by omega) kd 0 hs _ _ (hd.cells.mono (by omega)) hQ hc2 a2 c2 h2 (by omega)) fun _=>Br.beq (fun _ N5 hN5=>zFl 2 (by omega) hcu a c h N5 _ fun d a2 es2 c2 i2 h2 N6 hN6 hc2 hd _ _ _ _=>zN1 hb hX ih (by omega) (by omega) kd 0 hs _ _ (hd.cells.mono (by omega)) hQ hc2 a2 c2 h2 (by omega)) fun _=>zMN hb hX ih (by omega) (by omega) kd 0 hs zHQ hQ hcu a c h hN')
 have L3:∀ N5,N4<=N5->BCalls prog 132 [.str,.sl 0,.int .i64,.int .i64,.sl 0] [.pb 0 0 0 0,.sb 1 0 0 3 3] [.var [.sv a2 0 es2 c2,.int .i64 i2,.int .i64 h2],.arr 9 0 (zB [bytes [120],bytes [121],bytes [102]]) 3] N5 (fun s a es c n_1 n_2 a_1 es_1 c_1 N6=>N5<=N6->Bel N6 (D.sl a 0 es c)->Bel N6 (D.sl a_1 0 es_1 c_1)->zl E Q N n a es c n_1 n_2 0 (bytes []) (bytes []) 0 0 none [] 0 0 none [] 0 none [] 0 kd s (bytes []) 0 0 none [] 0 0 none [] 0 0 0 [] 0 N6):=fun N5 hN5=>
  vh (l:=[bytes [120],bytes [121],bytes [102]]) hc2 (by decide) (by decide) a2 c2 h2 3 3 N5 _ fun t a3 es3 c3 i3 h3 N6 hN6 hc3 ht _ _ _=>L11 (by
   simp only [oG,nD,mP] at ht
   rcases ht with rfl | rfl | rfl<;>decide) hc3 a3 c3 h3 N6 (by omega)
 refine Br.beq (fun _ N5 hN5=>?_) fun _=>Br.beq (fun _ N5 hN5=>L3 N5 hN5) fun _=>Br.beq (fun _ N5 hN5=>L3 N5 hN5) fun _=>Br.beq (fun _ N5 hN5=>L3 N5 hN5) fun _=>L11 (by decide) hc2 a2 c2 h2 N4 (by omega)
 refine vh (l:=[bytes [43],bytes [45],bytes [42],bytes [61],bytes [60],bytes [38],bytes [124],bytes [33]]) hc2 (by decide) (by decide) a2 c2 h2 8 8 N5 _ fun t a3 es3 c3 i3 h3 N6 hN6 hc3 ht _ _ _=>L11 ?_ hc3 a3 c3 h3 N6 (by omega)
 simp only [oG,nD,mP] at ht
 rcases ht with rfl | rfl | rfl | rfl | rfl | rfl | rfl | rfl<;>decide
theorem zLf:zHz 4 600:=by
 have h:=zFM (b:=3) (by omega) (by omega) (zFM (b:=2) (by omega) (by omega) (zFM (b:=1) (by omega) (by omega) zNZ))
 exact fun n hn es i hcu a c h' N Q hQ=>h n (by omega) hcu a c h' N Q fun k s s1 n' x x1 x2 x3 r q a' es' c' i' h' N' h1 h2 h3 h4=>hQ _ _ _ _ _ _ _ _ _ _ _ _ _ _ _ _ h1 h2 (h3.mono (by omega)) h4
theorem zKG {es:List D} {i:Int} (hcu:Cu es i) (a:Option Addr) (c:Nat) (h:Int) (N:Nat) (Q:QT [.ag 9,.sl 0,.int .i64,.int .i64])
  (hQ:∀ d' a' es' c' i' h' N',N<=N'->Cu es' i'->Some 1000 d'->Q d' a' es' c' i' h' N'):BCalls prog 90 [.ag 9,.sl 0,.int .i64,.int .i64] [.pb 0 0 0 0] [.var [.sv a 0 es c,.int .i64 i,.int .i64 h]] N Q:=by
 have z:PkT 15 (bytes [120]) (bytes []) (D.lit (.int .i64 0)) (D.sl none 2 [] 0) (D.lit (.int .i64 0)) (D.sl none 2 [] 0) []:=zDK (by decide) (by decide) zHQ zHQ
 refine zAo N a es c i h Q fun E _ N1 hN1=>zm hcu 4 (by omega) a c h N1 _ fun x a1 es1 c1 i1 h1 N2 hN2 hc1 x0 x1 _ _ _ N3 hN3=>?_
 have x1:=x1 (by omega)
 rw [i64_in (1+x) (by omega)]
 refine zLf (1+x) (by omega) hc1 a1 c1 h1 N3 _ fun k s s1 n y y1 y2 y3 r q a2 es2 c2 i2 h2 N4 hN4 hc2 hp hr _ _ _ N5 hN5=>?_
 refine zm hc2 14 (by omega) a2 c2 h2 N5 _ fun z1 a3 es3 c3 i3 h3 N6 hN6 hc3 _ _ _ _ _=>Br.beq (fun _ N7 hN7=>?_) fun _=>Br.beq (fun _ N7 hN7=>?_) fun _=>Br.beq (fun _ N7 hN7=>?_) fun _=>Br.beq (fun _ N7 hN7=>?_) fun _=>Br.beq (fun _ N7 hN7=>?_) fun _=>Br.beq (fun _ N7 hN7=>?_) fun _=>?_
 ·exact zm hc3 15 (by omega) a3 c3 h3 N7 _ fun w a4 es4 c4 i4 h4 N8 hN8 hc4 _ _ _ _ _=>⟨⟨rfl,rfl⟩,⟨rfl,rfl⟩,⟨rfl,rfl⟩,⟨rfl,rfl⟩,fun a5 N9 hN9 _=>⟨zS,fun N10 hN10=>hQ _ _ _ _ _ _ _ (by omega) hc4 ((hp.some _ _ _ _).mono (by omega))⟩⟩
 ·exact wh (l:=[0,1,10006,10007, -1]) hc3 (by decide) (by decide) a3 c3 h3 5 5 N7 _ fun w a4 es4 c4 i4 h4 N8 hN8 hc4 _ _ _ _=>⟨⟨rfl,rfl⟩,⟨rfl,rfl⟩,⟨rfl,rfl⟩,⟨rfl,rfl⟩,fun a5 N9 hN9 _=>⟨zS,fun N10 hN10=>hQ _ _ _ _ _ _ _ (by omega) hc4 ((hp.some _ _ _ _).mono (by omega))⟩⟩
 ·refine vh (l:=[bytes [],bytes [120],bytes [108,101,116],bytes [97,98,99,100,101],bytes [43]]) hc3 (by decide) (by decide) a3 c3 h3 5 5 N7 _ fun w a4 es4 c4 i4 h4 N8 hN8 hc4 hw _ _ _=>⟨⟨rfl,rfl⟩,⟨rfl,rfl⟩,⟨rfl,rfl⟩,⟨rfl,rfl⟩,fun a5 N9 hN9 _=>⟨zS,fun N10 hN10=>hQ _ _ _ _ _ _ _ (by omega) hc4 (((hp.name ?_).some _ _ _ _).mono (by omega))⟩⟩
  simp only [oG,nD,mP] at hw
  rcases hw with rfl | rfl | rfl | rfl | rfl<;>decide
 ·exact s3 N7 _ _ fun N8 hN8 _ _=>⟨⟨rfl,rfl⟩,fun a5 N9 hN9 _=>⟨⟨rfl,rfl⟩,by unfold zA;rw [oH];simp only [oN,oP];omega,fun c9=>⟨⟨rfl,rfl⟩,⟨rfl,rfl⟩,⟨rfl,rfl⟩,⟨rfl,rfl⟩,fun a6 N10 hN10 _=>⟨zS,fun N11 hN11=>hQ _ _ _ _ _ _ _ (by omega) hc3 (((hp.snoc (z.some _ _ _ _) (by omega)).some _ _ _ _).mono (by omega))⟩⟩⟩⟩
 ·exact zMs hc3 a3 c3 h3 N7 _ fun w a4 es4 c4 i4 h4 N8 hN8 hc4 hw _ _ _=>⟨⟨rfl,rfl⟩,⟨rfl,rfl⟩,⟨rfl,rfl⟩,⟨rfl,rfl⟩,fun a5 N9 hN9 _=>⟨zS,fun N10 hN10=>hQ _ _ _ _ _ _ _ (by omega) hc4 (((hp.type hw.cells).some _ _ _ _).mono (by omega))⟩⟩
 ·refine vh (l:=[bytes [120],bytes [122]]) hc3 (by decide) (by decide) a3 c3 h3 2 2 N7 _ fun w a4 es4 c4 i4 h4 N8 hN8 hc4 hw _ _ _=>⟨⟨rfl,rfl⟩,⟨rfl,rfl⟩,⟨rfl,rfl⟩,⟨rfl,rfl⟩,fun a5 N9 hN9 _=>⟨zS,fun N10 hN10=>hQ _ _ _ _ _ _ _ (by omega) hc4 (((hp.other ?_).some _ _ _ _).mono (by omega))⟩⟩
  simp only [oG,nD,mP] at hw
  rcases hw with rfl | rfl<;>decide
 ·exact ⟨⟨rfl,rfl⟩,⟨rfl,rfl⟩,⟨rfl,rfl⟩,⟨rfl,rfl⟩,fun a5 N9 hN9 _=>⟨zS,fun N10 hN10=>hQ _ _ _ _ _ _ _ (by omega) hc3 ((hp.some _ _ _ _).mono (by omega))⟩⟩
end Go.Proofs.YtkdjhkfiolhkiaaGreat
set_option maxRecDepth 100000
namespace Go.Proofs.YtkdjhkfiolhkiaaGreat
open Go Go.Proofs Go.Proofs.Tryz Go.IntWalk
/-- some string of at most this many letters -/
def zNu (f:FuncId) (args:List PV) (n:Nat):Prop:=∀ (N:Nat) (Q:QT [.str]),(∀ s N',N<=N'->s.size<=n->Q s N')->ACalls prog f [.str] args N Q
theorem zEf (l:List Int):∀ b:ByteArray,(l.foldl (fun r n=>r.push (UInt8.ofNat n.toNat)) b).size=b.size+l.length:=by
 induction l with
 | nil=>intro b;simp
 | cons x l ih=>intro b;simp only [List.foldl_cons,ih,ByteArray.size_push,oN];omega
theorem tM (l:List Int):(bytesOf l).size=l.length:=by
 unfold bytesOf;rw [zEf];simp
theorem zNM (n:Int) (h:n.natAbs<10000000000):zNu 266 [.int .i64 n] 11:=fun N Q hQ=>by
 refine zAF N n Q (Br.beq (fun _ N1 hN1=>hQ _ _ hN1 (by decide)) fun _=>?_)
 have key:∀ (m:Nat) (x:Int) (s:ByteArray),x.natAbs<10 ^ m->m+s.size<=10->∀ b,zq Q N x b s N:=by
  intro m
  induction m with
  | zero=>
    intro x s hx hs b
    refine vf _ _ _ _ _ _ (Br.bne (fun h=>by omega) fun _=>Br.of (fun _=>⟨by omega,fun N1 hN1=>hQ _ _ hN1 ?_⟩) fun _ N1 hN1=>hQ _ _ hN1 (by omega))
    rw [oI]
    have:(bytes [45]).size=1:=rfl
    omega
  | succ m ih=>
    intro x s hx hs b
    have hb:x.natAbs<10000000000:=oe hx (by rw [show (10000000000:Nat)=10 ^ 10 from rfl];exact Nat.pow_le_pow_right (by omega) (by omega))
    have hq:(Int.tdiv x 10).natAbs=x.natAbs / 10:=Int.natAbs_tdiv x 10
    have hd:IntKind.i64.wrap (Int.tdiv x 10)=Int.tdiv x 10:=i64_in _ (by omega)
    have nx:∀ es:List Int,es.length=1->zq Q N (IntKind.i64.wrap (Int.tdiv x 10)) b (bytesOf es++s) N:=fun es he=>by
     rw [hd]
     refine ih _ _ ?_ ?_ b
     ·rw [hq]
      rw [Nat.pow_succ] at hx
      omega
     ·rw [oI,tM];omega
    have sz:∀ es:List Int,es.length=1->(bytesOf es).size+s.size<=9223372036854775807:=fun es he=>by rw [tM];omega
    refine vf _ _ _ _ _ _ (Br.bne (fun _=>⟨by decide,Br.of (fun _=>⟨by simp,[_],rfl,sz _ rfl,by decide,nx _ rfl⟩) fun _=>⟨by simp,[_],rfl,sz _ rfl,by decide,nx _ rfl⟩⟩) fun _=>Br.of (fun _=>⟨by omega,fun N1 hN1=>hQ _ _ hN1 ?_⟩) fun _ N1 hN1=>hQ _ _ hN1 (by omega))
    rw [oI]
    have:(bytes [45]).size=1:=rfl
    omega
 exact key 10 n _ (by simpa using h) (by decide) _
theorem zNV:∀ t:Ty,t.form=true->Wf t:=by
 refine Ty.ind fun k l ih h=>?_
 simp only [Ty.form,oL] at h
 obtain ⟨h1,h2⟩:=h
 have sub:∀ t∈l,Wf t:=fun t ht=>ih t ht (by
  have key:∀ l:List Ty,vO l=true->∀ t∈l,t.form=true:=by
   intro l
   induction l with
   | nil=>intro _ t ht;simp at ht
   | cons x l ihl=>
     intro h t ht
     simp only [vO,oL] at h
     rcases oG.1 ht with rfl | ht
     ·exact h.1
     ·exact ihl h.2 t ht
  exact key l (by first | exact h1 | exact h2) t ht)
 have hk:tO k l.length=true:=by first | exact h1 | exact h2
 unfold tO at hk
 split at hk
 ·rename_i hk2
  have:l=[]:=om (by have:=mH.1 hk;omega)
  subst this
  rcases hk2 with rfl | rfl
  ·exact .int
  ·exact .bool
 split at hk
 ·rename_i hk3;subst hk3
  have h2:l.length=2:=by have:=mH.1 hk;omega
  match l,h2,sub with
  | [a,b],_,sub=>exact .fn (sub a (by simp)) (sub b (by simp))
 split at hk
 ·rename_i hk4;subst hk4
  have h1:l.length=1:=by have:=mH.1 hk;omega
  match l,h1,sub with
  | [a],_,sub=>exact .code (sub a (by simp))
 ·cases hk
theorem zKg {t:Ty} (hw:Wf t):t.cnt<=1000000->∀ {d:D},t.Is d->zNu 271 [.dg 2 d] (3*t.cnt):=by
 have b1:∀ x,(bytes [x]).size=1:=fun _=>rfl
 induction hw with
 | int=>
   intro hc d hd N Q hQ
   obtain ⟨b,fs,k,rfl,_,h2⟩:=Ty.is_mk.1 hd
   exact wy N _ Q fun _=>⟨1,rfl,Br.beq (fun _ N1 hN1=>hQ _ _ hN1 (by decide)) fun h=>absurd rfl h⟩
 | bool=>
   intro hc d hd N Q hQ
   obtain ⟨b,fs,k,rfl,_,h2⟩:=Ty.is_mk.1 hd
   exact wy N _ Q fun _=>⟨2,rfl,Br.beq (fun h=>absurd h (by decide)) fun _=>Br.beq (fun _ N1 hN1=>hQ _ _ hN1 (by decide)) fun h=>absurd rfl h⟩
 | @fn u v hu hv ihu ihv=>
   intro hc d hd N Q hQ
   have hcc:(wQ u v).cnt=1+(u.cnt+(v.cnt+0)):=rfl
   obtain ⟨b,fs,k,rfl,hfl,d1,_,rfl,h3,d2,_,rfl,h4,rfl⟩:=Ty.is_mk.1 hd
   refine wy N _ Q fun _=>⟨3,rfl,Br.beq (fun h=>absurd h (by decide)) fun _=>Br.beq (fun h=>absurd h (by decide)) fun _=>Br.beq (fun _=>⟨_,_,_,rfl,⟨by simp,by simp⟩,_,_,_,rfl,⟨by simp,by simp⟩,fun N1 hN1=>?_⟩) fun h=>absurd rfl h⟩
   refine ihu (by omega) h3 N1 _ fun s N2 hN2 hs _=>⟨by omega,by rw [oI,b1];omega,fun N3 hN3=>?_⟩
   refine ihv (by omega) h4 N3 _ fun s' N4 hN4 hs' _=>⟨by simp only [oI,b1];omega,by simp only [oI,b1];omega,fun N5 hN5=>hQ _ _ (by omega) (by simp only [oI,b1];omega)⟩
 | @code u hu ihu=>
   intro hc d hd N Q hQ
   have hcc:(wg u).cnt=1+(u.cnt+0):=rfl
   obtain ⟨b,fs,k,rfl,hfl,d1,_,rfl,h3,rfl⟩:=Ty.is_mk.1 hd
   refine wy N _ Q fun _=>⟨4,rfl,Br.beq (fun h=>absurd h (by decide)) fun _=>Br.beq (fun h=>absurd h (by decide)) fun _=>Br.beq (fun h=>absurd h (by decide)) fun _=>⟨_,_,_,rfl,⟨by simp,by simp⟩,fun N1 hN1=>?_⟩⟩
   exact ihu (by omega) h3 N1 _ fun s N2 hN2 hs _=>⟨by omega,by rw [oI,b1];omega,fun N3 hN3=>hQ _ _ (by omega) (by simp only [oI,b1];omega)⟩
/-- how long strings are, one behind the other -/
def tot:List ByteArray->Nat
 | []=>0
 | s::l=>s.size+1+tot l
theorem zIG (s:ByteArray):∀ l:List ByteArray,tot (l++[s])=tot l+s.size+1
 | []=>by simp [tot]
 | x::l=>by simp only [nB,tot,zIG s l];omega
theorem zHC:∀ l:List ByteArray,l.length<=tot l
 | []=>by simp [tot]
 | x::l=>by have:=zHC l;simp only [tot,oN];omega
theorem zKc (ws:List ByteArray) (h:tot ws<=1000000000) (by_:ByteArray) (hby:by_.size<=1) (a:Option Addr) (c:Nat):zNu 270 [.sv a 0 (zB ws) c,.str by_] (tot ws):=fun N Q hQ=>by
 have hwl:=z7 ws
 have hlt:=zHC ws
 refine zHH N a _ c by_ Q fun _=>?_
 refine up (wb ws) (by omega) (fun i xs=>∀ (ns:List Int) (r:List D) (q N':Nat),N<=N'->r=ns.map (fun n=>D.lit (.int .u8 n))->ns.length+tot xs<=tot ws->xe Q N a (zB ws) c by_ r.length q i r q N') ?_ ?_ [] [] 0 N (oF _) rfl (by simp)
 ·intro k hlt hk ns r q N' hN' hr hn
  subst hr
  refine rQ _ _ _ _ _ _ _ _ _ _ _ _ ?_
  rw [hlt]
  exact ⟨oF _,ns,nU (oF _),fun N1 hN1=>hQ _ _ (by omega) (by rw [tM];omega)⟩
 ·intro k x xs hat _ ih ns r q N' hN' hr hn
  have hb:=hat.b
  simp only [tot] at hn
  have bd:∀ s:ByteArray,y4 s=(s.data.toList.map fun b=>((b.toNat:Nat):Int)).map (fun n=>D.lit (.int .u8 n)):=fun s=>by simp [y4,nw,Function.comp_def]
  have bl:∀ s:ByteArray,(s.data.toList.map fun b=>((b.toNat:Nat):Int)).length=s.size:=fun s=>by simp
  have hrl:r.length=ns.length:=by rw [hr];simp
  refine rQ _ _ _ _ _ _ _ _ _ _ _ _ ?_
  rw [hat.w,oM]
  refine Br.of (fun _=>?_) fun h=>by rw [hat.lt] at h;cases h
  refine Br.of (fun _=>⟨⟨rfl,rfl⟩,by unfold zA;rw [oH,sN];omega,fun c1=>⟨hb,x,hat.r,⟨by trivial,by trivial⟩,by unfold zA;simp only [oH,sN];omega,fun c2=>ih (ns++_++_) _ c2 N' hN' (by rw [hr,bd,bd,<-nc,<-nc]) (by simp only [oH,bl];omega)⟩⟩) fun _=>⟨hb,x,hat.r,⟨rfl,rfl⟩,by unfold zA;rw [oH,sN];omega,fun c2=>ih (ns++_) _ c2 N' hN' (by rw [hr,bd,<-nc]) (by simp only [oH,bl];omega)⟩
theorem zBe {s:ByteArray} (h:u4 s=true):s.size<=4:=by
 simp only [u4,zA5,oL] at h
 have:=(xl.1 h.2.1).2
 omega
theorem zKa {s:ByteArray} (h:zEb s>0):s.size<=4:=by
 unfold zEb at h
 (repeat' split at h)<;>first | (rename_i e;rw [e];decide) | (exfalso;revert h;decide)
theorem zDO {k:Int} {nm ot:ByteArray} (h:tL k nm ot=true):nm.size<=4/\ot.size<=4:=by
 unfold tL at h
 (repeat' split at h)<;>simp only [oL,nC,nG,decide_eq_false_iff_not] at h
 ·exact ⟨zKa h.1,by rw [h.2];decide⟩
 ·exact ⟨zBe h.1,by rw [h.2];decide⟩
 ·exact ⟨zBe h.1,zBe h.2.1⟩
 ·rw [h.1,h.2];decide
theorem sJ {t:Ty} (h:t.valid=true):Wf t/\t.cnt<=30:=by
 refine ⟨zNV t ?_,Ty.valid_cnt h⟩
 simp only [Ty.valid,oL] at h
 exact h.2
theorem zOl {k n:Int} {nm ot:ByteArray} {ty re:Ty} {l:List Tm} (nd:Node k nm ot n ty re l) {t0 t1 r0 r1 x:D} (hh:Tm.Hd nm ot ty re t0 t1 r0 r1) {ws:List ByteArray} (hws:tot ws<=400000000) (hl:ws.length=l.length) (hk:k≠1/\k≠2/\k≠3/\k≠4/\k≠10/\k≠11) (a:Option Addr) (c:Nat) :
  zNu 267 [.dg 9 (.ag [.lit (.int .i64 k),.lit (.string nm),.lit (.string ot),.lit (.int .i64 n),t0,t1,r0,r1,x]),.sv a 0 (zB ws) c] (tot ws+300):=fun N Q hQ=>by
 have f:=nd.f
 have har:=nd.ar
 have hwl:=z7 ws
 simp only [yG,oL] at f
 obtain ⟨n4,o4⟩:=zDO f.2.2.2.2.2
 have b1:∀ a,(bytes [a]).size=1:=fun _=>rfl
 have b2:∀ a b,(bytes [a,b]).size=2:=fun _ _=>rfl
 have b4:∀ a b c d,(bytes [a,b,c,d]).size=4:=fun _ _ _ _=>rfl
 have b5:∀ a b c d e,(bytes [a,b,c,d,e]).size=5:=fun _ _ _ _ _=>rfl
 have b6:∀ a b c d e f,(bytes [a,b,c,d,e,f]).size=6:=fun _ _ _ _ _ _=>rfl
 have one:ws≠[]->((0:Int)<=(0:Int)/\0<((zB ws).length:Int))/\∃ s,List.getD (zB ws) 0 default=D.lit (.string s)/\s.size<=tot ws:=fun h=>by
  match ws,h with
  | s::l,_=>exact ⟨⟨by simp,by simp [zB]⟩,s,rfl,by simp only [tot];omega⟩
 have ne:zFf k nm=1->ws≠[]:=fun h hc=>by subst hc;simp at hl;omega
 refine zEZ N _ a _ c Q fun _ _=>⟨k,rfl,Br.beq (fun _ N1 hN1=>?_) fun h5=>Br.beq (fun h6=>?_) fun h6=>Br.beq (fun _ N1 hN1=>?_) fun h7=>Br.beq (fun _=>⟨nm,rfl,by omega,by simp only [oI,b5];omega,fun N1 hN1=>?_⟩) fun h8=>Br.beq (fun h9=>?_) fun h9=>Br.beq (fun h12=>?_) fun h12=>?_⟩
 ·exact zKc ws (by omega) _ (by decide) a c N1 _ fun s N2 hN2 hs _=>⟨by omega,by simp only [oI,b4];omega,fun N3 hN3=>hQ _ _ (by omega) (by simp only [oI,b4,b1];omega)⟩
 ·obtain ⟨bd,s,hs,hsz⟩:=one (ne (by subst h6;rfl))
  have hv:=nd.vt (.inl h6)
  refine ⟨nm,rfl,by omega,by simp only [oI,b2];omega,bd,s,hs,fun N1 hN1=>?_⟩
  have:=(sJ hv).2
  exact zKg (sJ hv).1 (by omega) hh.ty N1 _ fun z N2 hN2 hz _=>⟨by simp only [oI,b2,b1];omega,by simp only [oI,b2,b1];omega,by simp only [oI,b2,b1];omega,by simp only [oI,b2,b1];omega,fun N3 hN3=>hQ _ _ (by omega) (by simp only [oI,b2,b1];omega)⟩
 ·exact zKc ws (by omega) _ (by decide) a c N1 _ fun s N2 hN2 hs _=>⟨by omega,by simp only [oI,b1];omega,fun N3 hN3=>hQ _ _ (by omega) (by simp only [oI,b1];omega)⟩
 ·exact zKc ws (by omega) _ (by decide) a c N1 _ fun s N2 hN2 hs _=>⟨by simp only [oI,b5,b1];omega,by simp only [oI,b5,b1];omega,fun N3 hN3=>hQ _ _ (by omega) (by simp only [oI,b5,b1];omega)⟩
 ·obtain ⟨bd,s,hs,hsz⟩:=one (ne (by subst h9;rfl))
  have hv:=nd.vt (.inr h9)
  have hv2:=nd.vr h9
  have:=(sJ hv).2
  have:=(sJ hv2).2
  refine ⟨nm,rfl,by omega,by simp only [oI,b5];omega,ot,rfl,by simp only [oI,b5,b1];omega,by simp only [oI,b5,b1];omega,bd,s,hs,fun N1 hN1=>?_⟩
  refine zKg (sJ hv).1 (by omega) hh.ty N1 _ fun z N2 hN2 hz _=>⟨by simp only [oI,b5,b1];omega,by simp only [oI,b5,b1];omega,fun N3 hN3=>?_⟩
  exact zKg (sJ hv2).1 (by omega) hh.re N3 _ fun y N4 hN4 hy _=>⟨by simp only [oI,b5,b1];omega,by simp only [oI,b5,b1];omega,by simp only [oI,b5,b1];omega,by simp only [oI,b5,b1];omega,fun N5 hN5=>hQ _ _ (by omega) (by simp only [oI,b5,b1];omega)⟩
 ·obtain ⟨bd,s,hs,hsz⟩:=one (ne (by subst h12;rfl))
  exact ⟨bd,s,hs,by omega,by simp only [oI,b5];omega,fun N1 hN1=>hQ _ _ (by omega) (by simp only [oI,b5,b1];omega)⟩
 ·have hc := zA6 (k := k) (nm := nm) (by omega)
  obtain ⟨bd, s, hs, hsz⟩ := one (ne (by obtain rfl:k=13:=by omega
                                         rfl))
  exact ⟨bd,s,hs,by omega,by simp only [oI,b6];omega,fun N1 hN1=>hQ _ _ (by omega) (by simp only [oI,b6,b1];omega)⟩
theorem zGN:∀ {l:List Tm} {t:Tm},t∈l->t.sz<=uZ l
 | x::l,t,h=>by
   simp only [uZ]
   rcases oG.1 h with rfl | h
   ·omega
   ·have:=zGN h;omega
theorem zOa:∀ t:Tm,t.ok=true->t.sz<=100000->∀ d,t.Is d->zNu 258 [.dg 9 d] (500*t.sz - 1):=by
 refine Tm.ind fun k nm ot n ty re l ih hok hsz d hd N Q hQ=>?_
 obtain ⟨t0,t1,r0,r1,a,es,c,rfl,hh,hlen,hes⟩:=Tm.is_mk.1 hd
 have nd:=yU hok
 have har:=nd.ar
 have hel:=hes.len
 have f:=nd.f
 simp only [yG,oL] at f
 obtain ⟨n4,o4⟩:=zDO f.2.2.2.2.2
 have hn:=xl.1 f.2.2.2.2.1
 have b1:∀ a,(bytes [a]).size=1:=fun _=>rfl
 have b2:∀ a b,(bytes [a,b]).size=2:=fun _ _=>rfl
 have hs:(Tm.mk k nm ot n ty re l).sz=1+uZ l:=by simp only [Tm.sz]
 rw [hs] at hsz hQ
 refine zEP N _ Q fun _=>?_
 refine up hes hlen (fun i xs=>∀ (ws:List ByteArray) (q N':Nat),N<=N'->ws.length=i->tot ws+500*uZ xs<=500*uZ l->xq Q N (zB ws).length q i _ (zB ws) q N') ?_ ?_ [] 0 N (oF _) rfl (by simp [tot])
 ·intro i hlt hi ws q N' hN' hwl htot
  have hwd:=z7 ws
  have ps:(0:Int)<((zB ws).length:Int)->((0:Int)<=(0:Int)/\0<((zB ws).length:Int)/\0<(zB ws).length):=fun h=>⟨by omega,h,by omega⟩
  have one:0<ws.length->∃ s,List.getD (zB ws) 0 default=D.lit (.string s)/\s.size+1<=tot ws:=fun h=>by
   match ws,h with
   | s::l,_=>exact ⟨s,rfl,by simp only [tot];omega⟩
  have two:1<ws.length->∃ s s',List.getD (zB ws) 0 default=D.lit (.string s)/\List.getD (zB ws) 1 default=D.lit (.string s')/\s.size+s'.size+2<=tot ws:=fun h=>by
   match ws,h with
   | s::s'::l,_=>exact ⟨s,s',rfl,rfl,by simp only [tot];omega⟩
  refine tT _ _ _ _ _ _ _ _ _ ⟨a,es,c,rfl,Br.of (fun h=>by rw [hlt] at h;cases h) fun _=>⟨k,rfl,Br.beq (fun _=>⟨nm,rfl,fun N1 hN1=>hQ _ _ (by omega) (by omega)⟩) fun h1=>Br.beq (fun h2=>⟨n,rfl,fun N1 hN1=>?_⟩) fun h2=>Br.beq (fun h3=>⟨n,rfl,n,rfl,?_⟩) fun h3=>Br.beq (fun h4=>?_) fun h4=>Br.beq (fun h10=>?_) fun h10=>Br.beq (fun h11=>?_) fun h11=>⟨⟨rfl,rfl⟩,fun a2 _ _ N1 hN1 _=>?_⟩⟩⟩
  ·rw [if_pos h2] at hn
   exact zNM n (by omega) N1 _ fun s N2 hN2 hs _ N3 hN3=>hQ _ _ (by omega) (by omega)
  ·rw [if_neg h2,if_pos h3] at hn
   rw [i64_in (n+1) (by omega)]
   exact ⟨⟨by omega,by omega,by omega⟩,by rw [mA];omega,fun N1 hN1=>hQ _ _ (by omega) (by rw [oI,mA,b1,b2];omega)⟩
  ·subst h4
   have har:(l.length:Int)=zEb nm:=har
   have hop:zEb nm=1\/zEb nm=2:=by
    have h:=f.2.2.2.2.2
    simp only [tL] at h
    rw [if_pos trivial] at h
    simp only [oL,nC] at h
    have:=h.1
    revert this
    unfold zEb
    (repeat' split)<;>simp
   refine Br.beq (fun hw=>?_) fun hw=>?_
   ·obtain ⟨s,e1,e2⟩:=one (by omega)
    exact ⟨ps (by omega),by omega,s,e1,by omega,by simp only [oI,b2];omega,fun N1 hN1=>hQ _ _ (by omega) (by simp only [oI,b2,b1];omega)⟩
   ·obtain ⟨s,s',e1,e3,e2⟩:=two (by omega)
    exact ⟨ps (by omega),by omega,s,e1,by omega,nm,rfl,by simp only [oI,b1];omega,⟨by omega,by omega,by omega⟩,by omega,s',e3,by simp only [oI,b1];omega,by simp only [oI,b1];omega,fun N1 hN1=>hQ _ _ (by omega) (by simp only [oI,b1];omega)⟩
  ·subst h10
   have har:(l.length:Int)=1:=har
   obtain ⟨s,e1,e2⟩:=one (by omega)
   exact ⟨ps (by omega),by omega,s,e1,by omega,by simp only [oI,b1];omega,fun N1 hN1=>hQ _ _ (by omega) (by simp only [oI,b1];omega)⟩
  ·subst h11
   have har:(l.length:Int)=1:=har
   obtain ⟨s,e1,e2⟩:=one (by omega)
   exact ⟨ps (by omega),by omega,s,e1,by omega,fun N1 hN1=>hQ _ _ (by omega) (by simp only [oI,b1];omega)⟩
  ·exact zOl nd hh (by omega) (by omega) ⟨h1,h2,h3,h4,h10,h11⟩ a2 q N1 _ fun s N2 hN2 hs _ N3 hN3=>hQ _ _ (by omega) (by omega)
 ·intro i x xs hat _ ih2 ws q N' hN' hwl htot
  have hb:=hat.b
  have hx:x.sz<=uZ l:=zGN hat.m
  have hwt:=zHC ws
  have hp:1<=x.sz:=by cases x;simp only [Tm.sz];omega
  simp only [uZ] at htot
  refine tT _ _ _ _ _ _ _ _ _ ⟨a,es,c,rfl,Br.of (fun _=>⟨a,es,c,rfl,hb,fun N1 hN1=>?_⟩) fun h=>by rw [hat.lt] at h;cases h⟩
  rw [oM]
  refine ih x hat.m (nd.sub x hat.m) (by omega) _ hat.r N1 _ fun s N2 hN2 hs _=>⟨⟨rfl,rfl⟩,by unfold zA;rw [oH,z7];simp only [oN,oP];omega,fun c2=>?_⟩
  have e:zB ws++[D.lit (.string s)]=zB (ws++[s]):=by simp [zB]
  rw [e,hat.w]
  exact ih2 (ws++[s]) c2 N2 (by omega) (by simp [hwl]) (by rw [zIG];omega)
theorem zOW (t:Tm) (d:D) (hd:t.Is d) (hc:t.cnt<=1073741824):zNu 242 [.dg 9 d] 50000:=fun N Q hQ=>by
 refine pM N d Q fun _ N1 hN1=>vp t d hd hc N1 _ fun N2 hN2 _=>Br.not (fun _ N3 hN3=>hQ _ _ (by omega) (by decide)) fun hv N3 hN3=>?_
 simp only [Tm.vd,oL,nC] at hv
 exact zOa t hv.2 (by omega) d hd N3 _ fun s N4 hN4 hs _ N5 hN5=>hQ _ _ (by omega) (by omega)
end Go.Proofs.YtkdjhkfiolhkiaaGreat
set_option maxRecDepth 100000
namespace Go.Proofs.YtkdjhkfiolhkiaaGreat
open Go Go.Proofs Go.Proofs.Tryz Go.IntWalk
/-- a reader's place in a short text -/
structure Rs (s:ByteArray) (n:Int):Prop where
 l:s.size<=1000
 lo:0<=n
 hi:n<=s.size
theorem wi {s:ByteArray} {n:Int} (hr:Rs s n) (t:ByteArray) (ht:t.size<=100) (b:Bool) (N:Nat) (Q:QT [.bool,.str,.int .i64,.bool])
  (hQ:∀ b' n' N',N<=N'->Rs s n'->n<=n'->(b'=false->n'=n)->(b'=true->n'=n+t.size)->Q b' s n' b N'):BCalls prog 253 [.bool,.str,.int .i64,.bool] [.pb 0 0 0 0,.str t] [.var [.str s,.int .i64 n,.bool b]] N Q:=by
 have h1:=hr.lo
 have h2:=hr.hi
 have h3:=hr.l
 have no:∀ N1,N<=N1->Q false s n b N1:=fun N1 hN1=>hQ _ _ _ hN1 hr (mB _) (fun _=>rfl) (by simp)
 have e:IntKind.i64.wrap (n+(t.size:Int))=n+t.size:=i64_in _ (by omega)
 refine zAZ N t s n b Q fun E=>Br.of (fun _=>⟨zS,no⟩) fun _=>?_
 rw [e]
 exact Br.dec (fun _=>⟨zS,no⟩) fun hg=>⟨⟨h1,by omega,by omega⟩,Br.of (fun _=>⟨zS,no⟩) fun _=>⟨zS,fun N1 hN1=>hQ _ _ _ hN1 ⟨h3,by omega,by omega⟩ (by omega) (by simp) fun _=>rfl⟩⟩
theorem wm {s:ByteArray} {n:Int} (hr:Rs s n) (t:ByteArray) (ht:t.size<=100) (b:Bool) (N:Nat) (Q:QT [.str,.int .i64,.bool])
  (hQ:∀ b' n' N',N<=N'->Rs s n'->n<=n'->(b'=false->n'=n+t.size)->Q s n' b' N'):BCalls prog 254 [.str,.int .i64,.bool] [.pb 0 0 0 0,.str t] [.var [.str s,.int .i64 n,.bool b]] N Q:=
 zAa N t s n b Q fun E=>Br.of (fun _=>⟨zS,fun N1 hN1=>hQ _ _ _ hN1 hr (mB _) (by simp)⟩) fun _ N1 hN1=>wi hr t ht b N1 _ fun b' n' N2 hN2 hr' hn' h0 h1 _=>⟨zS,fun N3 hN3=>hQ _ _ _ (by omega) hr' hn' (by
  cases b' with
  | false=>simp
  | true=>exact fun _=>h1 rfl)⟩
theorem zDM {s:ByteArray} {n:Int} (hr:Rs s n) (b:Bool) (N:Nat) (Q:QT [.str,.str,.int .i64,.bool])
  (hQ:∀ w n' N',N<=N'->Rs s n'->n<=n'->w.size<=1000->Q w s n' b N'):BCalls prog 257 [.str,.str,.int .i64,.bool] [.pb 0 0 0 0] [.var [.str s,.int .i64 n,.bool b]] N Q:=by
 have h1:=hr.lo
 have h2:=hr.hi
 have h3:=hr.l
 refine zAc N s n b Q fun E=>?_
 have key:∀ (m:Nat) (k:Int),n<=k->k+m=s.size->z9 E Q N n s k b N:=by
  intro m
  induction m with
  | zero=>
    intro k hk he
    exact tv _ _ _ _ _ _ _ _ (Br.dec (fun h=>by omega) fun _=>⟨⟨h1,hk,by omega⟩,zS,fun N1 hN1=>hQ _ _ _ hN1 ⟨h3,by omega,by omega⟩ hk (by rw [mA];omega)⟩)
  | succ m ih=>
    intro k hk he
    have nx:z9 E Q N n s (IntKind.i64.wrap (k+1)) b N:=by
     rw [i64_in (k+1) (by omega)];exact ih (k+1) (by omega) (by omega)
    have out:(0<=n/\n<=k/\k<=(s.size:Int))/\zP E [.var [.str (bytes []),.int .i64 0,.bool false]]/\∀ N1,N<=N1->Q (ByteArray.extract s n.toNat k.toNat) s k b N1:=⟨⟨h1,hk,by omega⟩,zS,fun N1 hN1=>hQ _ _ _ hN1 ⟨h3,by omega,by omega⟩ hk (by rw [mA];omega)⟩
    have bd:0<=k/\k<(s.size:Int):=⟨by omega,by omega⟩
    have az:∀ (v w:Bool) {A B:Prop},A->B->(0<=k/\k<(s.size:Int))/\Br v ((0<=k/\k<(s.size:Int))/\Br w A B) B:=fun v w A B a b=>⟨bd,Br.of (fun _=>⟨bd,Br.of (fun _=>a) fun _=>b⟩) fun _=>b⟩
    exact tv _ _ _ _ _ _ _ _ (Br.of (fun _=>⟨bd,Br.of (fun _=>⟨bd,Br.of (fun _=>nx) fun _=>az _ _ nx out⟩) fun _=>az _ _ nx out⟩) fun _=>out)
 exact key (s.size - n).toNat n (mB _) (by omega)
theorem zJ0:∀ (j:Nat),j<=8->∀ (n1:Int),n1+j=9->∀ {s:ByteArray} {n:Int} (_:Rs s n) (b:Bool) (N:Nat) (Q:QT [.ag 2,.str,.int .i64,.bool])
  (_:∀ (t:Ty) d n' b' N',N<=N'->Rs s n'->n<=n'->t.Is d->t.cnt+1<=2 ^ (j+1)->Q d s n' b' N'),BCalls prog 261 [.ag 2,.str,.int .i64,.bool] [.pb 0 0 0 0,.int .i64 n1] [.var [.str s,.int .i64 n,.bool b]] N Q:=by
 intro j
 have one:∀ k:Int,∀ j:Nat,(Ty.mk k []).cnt+1<=2 ^ (j+1):=fun k j=>by
  have:1<=2 ^ j:=Nat.one_le_two_pow
  rw [Nat.pow_succ];simp only [Ty.cnt,zI];omega
 induction j with
 | zero=>
   intro _ n1 hn1 s n hr b N Q hQ
   exact u5 N n1 s n b Q fun E=>Br.of (fun _=>⟨zS,fun N1 hN1=>hQ (.mk 0 []) _ _ _ _ hN1 hr (mB _) (yv 0) (one 0 0)⟩) fun _=>Br.dec (fun _=>⟨zS,fun N1 hN1=>hQ (.mk 0 []) _ _ _ _ hN1 hr (mB _) (yv 0) (one 0 0)⟩) fun h=>by omega
 | succ j ih=>
   intro hj n1 hn1 s n hr b N Q hQ
   have e1:IntKind.i64.wrap (n1+1)=n1+1:=i64_in _ (by omega)
   have z:∀ n' b' N',N<=N'->Rs s n'->n<=n'->Q (D.ag [D.lit (.int .i64 0),D.sl Option.none 2 [] 0]) s n' b' N':=fun n' b' N' h hr' hn=>hQ (.mk 0 []) _ _ _ _ h hr' hn (yv 0) (one 0 _)
   refine u5 N n1 s n b Q fun E=>Br.of (fun _=>⟨zS,fun N1 hN1=>z _ _ _ hN1 hr (mB _)⟩) fun _=>Br.dec (fun _=>by omega) fun _ N1 hN1=>?_
   refine wi hr _ (by decide) _ N1 _ fun b2 n2 N2 hN2 hr2 hn2 z2 _ _=>Br.of (fun _ N3 hN3=>yz N3 _ fun y N4 hN4 hy _ _ _=>⟨zS,fun N5 hN5=>hQ tInt _ _ _ _ (by omega) hr2 hn2 hy (one _ _)⟩) fun hb2 N3 hN3=>?_
   have z2:=z2 hb2;subst z2
   refine wi hr2 _ (by decide) _ N3 _ fun b4 n4 N4 hN4 hr4 hn4 z4 g4 _=>Br.of (fun _ N5 hN5=>y7 N5 _ fun y N6 hN6 hy _ _ _=>⟨zS,fun N7 hN7=>hQ tBool _ _ _ _ (by omega) hr4 (by omega) hy (one _ _)⟩) fun hb4 N5 hN5=>?_
   have z4:=z4 hb4;subst z4
   have hpow:2 ^ (j+1+1)=2*2 ^ (j+1):=by rw [Nat.pow_succ];omega
   refine wi hr4 _ (by decide) _ N5 _ fun b6 n6 N6 hN6 hr6 hn6 z6 g6 _=>Br.of (fun hb6 N7 hN7=>?_) fun hb6 N7 hN7=>?_
   ·have g6:=g6 hb6
    rw [e1]
    refine ih (by omega) (n1+1) (by omega) hr6 _ N7 _ fun t d n8 b8 N8 hN8 hr8 hn8 hd hc _ _ N9 hN9=>?_
    refine wm hr8 _ (by decide) _ N9 _ fun b10 n10 N10 hN10 hr10 hn10 _ _=>⟨⟨rfl,rfl⟩,⟨rfl,rfl⟩,⟨rfl,rfl⟩,⟨rfl,rfl⟩,⟨rfl,rfl⟩,fun a N11 hN11 _=>⟨zS,fun N12 hN12=>hQ (wg t) _ _ _ _ (by omega) hr10 (by omega) (Ty.is_mk.2 ⟨_,_,_,rfl,by simp,d,[],rfl,hd,rfl⟩) ?_⟩⟩
    have:(wg t).cnt=1+(t.cnt+0):=rfl
    have:2<=2 ^ (j+1):=by rw [Nat.pow_succ];have:1<=2 ^ j:=Nat.one_le_two_pow;omega
    omega
   ·have z6:=z6 hb6;subst z6
    refine wm hr6 _ (by decide) _ N7 _ fun b8 n8 N8 hN8 hr8 hn8 _ _=>Br.of (fun _=>⟨zS,fun N9 hN9=>z _ _ _ (by omega) hr8 (by omega)⟩) fun _ N9 hN9=>?_
    rw [e1]
    refine ih (by omega) (n1+1) (by omega) hr8 _ N9 _ fun t d n10 b10 N10 hN10 hr10 hn10 hd hc _ _ N11 hN11=>?_
    refine wm hr10 _ (by decide) _ N11 _ fun b12 n12 N12 hN12 hr12 hn12 _ _=>Br.of (fun _=>⟨zS,fun N13 hN13=>z _ _ _ (by omega) hr12 (by omega)⟩) fun _ N13 hN13=>?_
    refine ih (by omega) (n1+1) (by omega) hr12 _ N13 _ fun u e n14 b14 N14 hN14 hr14 hn14 he hc2 _ _ N15 hN15=>?_
    refine wm hr14 _ (by decide) _ N15 _ fun b16 n16 N16 hN16 hr16 hn16 _ _=>⟨⟨rfl,rfl⟩,⟨rfl,rfl⟩,⟨rfl,rfl⟩,fun a N17 hN17 _=>⟨zS,fun N18 hN18=>hQ (wQ t u) _ _ _ _ (by omega) hr16 (by omega) (Ty.is_mk.2 ⟨_,_,_,rfl,by simp,d,[e],rfl,hd,e,[],rfl,he,rfl⟩) ?_⟩⟩
    have:(wQ t u).cnt=1+(t.cnt+(u.cnt+0)):=rfl
    omega
/-- what the parser does at this depth -/
def zIt (dep:Int):Prop:=∀ (s:ByteArray) (n:Int) (b:Bool) (N:Nat) (Q:QT [.ag 9,.str,.int .i64,.bool]),Rs s n->(∀ d n' b' N',N<=N'->Rs s n'->n<=n'->Some (3+2000*(n' - n).toNat) d->Q d s n' b' N')->BCalls prog 241 [.ag 9,.str,.int .i64,.bool] [.pb 0 0 0 0,.int .i64 dep] [.var [.str s,.int .i64 n,.bool b]] N Q
theorem zIM {dep:Int} (hP:zIt dep) {k m:Int} {nm ot:ByteArray} {ty re:Ty} {t0 t1 r0 r1:D} (hh:Tm.Hd nm ot ty re t0 t1 r0 r1) {l0:List Tm} {es0:List D} (h0:All2 Tm.Is l0 es0) (hl0:es0.length<=1) {a0:Option Addr} {c0:Nat} (hap:∀ x,zMn a0 es0 c0 [x])
  {w:Nat} (hw:1+ty.cnt+re.cnt+zO l0<=w) (n2:Int) (hn2:0<=n2/\n2<=3) {s:ByteArray} {n:Int} (hr:Rs s n) (b:Bool) (N:Nat) (Q:QT [.ag 9,.str,.int .i64,.bool])
  (hQ:∀ d n' b' N',N<=N'->Rs s n'->n<=n'->Some (w+9+2000*(n' - n).toNat) d->Q d s n' b' N'):BCalls prog 262 [.ag 9,.str,.int .i64,.bool] [.pb 0 0 0 0,.dg 9 (.ag [.lit (.int .i64 k),.lit (.string nm),.lit (.string ot),.lit (.int .i64 m),t0,t1,r0,r1,.sl a0 9 es0 c0]),.int .i64 n2,.int .i64 dep] [.var [.str s,.int .i64 n,.bool b]] N Q:=by
 refine zAU N _ n2 dep s n b Q fun E _=>?_
 have fin:∀ (l:List Tm) (es:List D) (a:Option Addr) (c:Nat) (n':Int) (b':Bool) (N':Nat),N<=N'->Rs s n'->n<=n'->All2 Tm.Is l es->es.length<=10->zO l<=zO l0+9+2000*(n' - n).toNat->Q (.ag [.lit (.int .i64 k),.lit (.string nm),.lit (.string ot),.lit (.int .i64 m),t0,t1,r0,r1,.sl a 9 es c]) s n' b' N':=fun l es a c n' b' N' h hr' hn hes hl hc=>
  hQ _ _ _ _ h hr' hn ⟨.mk k nm ot m ty re l,Tm.is_mk.2 ⟨_,_,_,_,_,_,_,rfl,hh,by omega,hes⟩,by simp only [Tm.cnt];omega⟩
 have key:∀ (j:Nat) (k9:Int) (n1:Int) (b1:Bool) (l:List Tm) (es:List D) (q N':Nat),k9+j=n2->0<=k9->Rs s n1->n<=n1->All2 Tm.Is l es->(es.length:Int)<=1+k9->zO l<=zO l0+3*k9.toNat+2000*(n1 - n).toNat->N<=N' ->
   zU E Q N n2 dep k9 s n1 b1 (.lit (.int .i64 k)) (.lit (.string nm)) (.lit (.string ot)) (.lit (.int .i64 m)) t0 t1 r0 r1 es.length q 0 (bytes []) (bytes []) 0 0 none [] 0 0 none [] 0 none [] 0 es q N':=by
  intro j
  induction j with
  | zero=>
    intro k9 n1 b1 l es q N' hk hk0 hr1 hn1 hes hel hc hN'
    refine vZ _ _ _ _ _ _ _ _ _ _ _ _ _ _ _ _ _ _ _ _ _ _ _ _ _ _ _ _ _ _ _ _ _ _ _ _ _ (Br.dec (fun h=>by omega) fun _ N1 hN1=>wm hr1 _ (by decide) _ N1 _ fun b2 n2 N2 hN2 hr2 hn2 _ _=>⟨⟨rfl,rfl⟩,⟨rfl,rfl⟩,⟨rfl,rfl⟩,fun a N3 hN3 _=>⟨zS,fun N4 hN4=>fin l es a q n2 b2 N4 (by omega) hr2 (by omega) hes (by omega) (by omega)⟩⟩)
  | succ j ih=>
    intro k9 n1 b1 l es q N' hk hk0 hr1 hn1 hes hel hc hN'
    have e1:IntKind.i64.wrap (k9+1)=k9+1:=i64_in _ (by omega)
    have nx:∀ (n3:Int) (b3:Bool) (x:D) (N3 c1:Nat),N<=N3->Rs s n3->n1<=n3->Some (3+2000*(n3 - n1).toNat) x->zU E Q N n2 dep (IntKind.i64.wrap (k9+1)) s n3 b3 (.lit (.int .i64 k)) (.lit (.string nm)) (.lit (.string ot)) (.lit (.int .i64 m)) t0 t1 r0 r1 (es++[x]).length c1 0 (bytes []) (bytes []) 0 0 none [] 0 0 none [] 0 none [] 0 (es++[x]) c1 N3:=fun n3 b3 x N3 c1 h hr3 hn3 hx=>by
     obtain ⟨t,ht,hct⟩:=hx
     rw [e1]
     refine ih (k9+1) n3 b3 (l++[t]) (es++[x]) c1 N3 (by omega) (by omega) hr3 (by omega) (hes.snoc ht) (by simp;omega) ?_ h
     have:zO (l++[t])=zO l+t.cnt:=by
      clear hes hc
      induction l with
      | nil=>simp [zO]
      | cons y l ihl=>simp only [nB,zO,ihl];omega
     omega
    have bnd:∀ x:D,zA es [x] 136:=fun x=>by unfold zA;rw [oH];simp only [oN,oP];omega
    refine vZ _ _ _ _ _ _ _ _ _ _ _ _ _ _ _ _ _ _ _ _ _ _ _ _ _ _ _ _ _ _ _ _ _ _ _ _ _ (Br.dec (fun _=>Br.of (fun _=>Br.of (fun _ N1 hN1=>?_) fun _ N1 hN1=>?_) fun _ N1 hN1=>wm hr1 _ (by decide) _ N1 _ fun b2 n2 N2 hN2 hr2 hn2 _ _=>⟨⟨rfl,rfl⟩,⟨rfl,rfl⟩,⟨rfl,rfl⟩,fun a N3 hN3 _=>⟨zS,fun N4 hN4=>fin l es a q n2 b2 N4 (by omega) hr2 (by omega) hes (by omega) (by omega)⟩⟩) fun h=>by omega)
    ·refine wm hr1 _ (by decide) _ N1 _ fun b2 n2 N2 hN2 hr2 hn2 _ _ N3 hN3=>hP s n2 b2 N3 _ hr2 fun x n4 b4 N4 hN4 hr4 hn4 hx _ _=>⟨⟨rfl,rfl⟩,bnd x,fun c1=>nx n4 b4 x N4 c1 (by omega) hr4 (by omega) (hx.mono (by omega))⟩
    ·exact hP s n1 b1 N1 _ hr1 fun x n4 b4 N4 hN4 hr4 hn4 hx _ _=>⟨⟨rfl,rfl⟩,bnd x,fun c1=>nx n4 b4 x N4 c1 (by omega) hr4 (by omega) hx⟩
 have e1:IntKind.i64.wrap ((0:Int)+1)=0+1:=rfl
 have bnd:∀ x:D,zA es0 [x] 136:=fun x=>by unfold zA;rw [oH];simp only [oN,oP];omega
 have endd:∀ N1,N<=N1->∀ b',BCalls prog 254 [.str,.int .i64,.bool] [.pb 0 0 0 0,.str (bytes [41])] [.var [.str s,.int .i64 n,.bool b']] N1 (fun s n b N2=>N1<=N2->zP E [.var [.str (bytes []),.int .i64 0,.bool false]]/\∀ N3,N2<=N3->Q (.ag [.lit (.int .i64 k),.lit (.string nm),.lit (.string ot),.lit (.int .i64 m),t0,t1,r0,r1,.sl a0 9 es0 c0]) s n b N3):=fun N1 hN1 b'=>
  wm hr _ (by decide) _ N1 _ fun b2 n2 N2 hN2 hr2 hn2 _ _=>⟨zS,fun N3 hN3=>fin l0 es0 a0 c0 n2 b2 N3 (by omega) hr2 hn2 h0 (by omega) (by omega)⟩
 refine zCR _ _ _ _ _ _ _ _ _ _ _ _ _ _ _ _ _ _ _ _ _ _ _ _ _ _ (Br.dec (fun _=>Br.of (fun _=>Br.dec (fun h=>by omega) fun _=>⟨_,_,_,rfl,fun N1 hN1=>?_⟩) fun _ N1 hN1=>endd N1 hN1 _) fun _ N1 hN1=>endd N1 hN1 _)
 refine hP s n b N1 _ hr fun x n4 b4 N4 hN4 hr4 hn4 hx _ _=>⟨hap x,bnd x,fun c1=>?_⟩
 obtain ⟨t,ht,hct⟩:=hx
 refine key (n2 - 1).toNat 1 n4 b4 (l0++[t]) (es0++[x]) c1 N4 (by omega) (by omega) hr4 (by omega) (h0.snoc ht) (by simp;omega) ?_ (by omega)
 have:zO (l0++[t])=zO l0+t.cnt:=by
  clear key fin endd hw h0
  induction l0 with
  | nil=>simp [zO]
  | cons y l ihl=>simp only [nB,zO,ihl];omega
 omega
theorem zH0 {nm ot:ByteArray} (h1:nm.size<=1000) (h2:ot.size<=1000):Tm.Hd nm ot (.mk 0 []) (.mk 0 []) (.lit (.int .i64 0)) (.sl none 2 [] 0) (.lit (.int .i64 0)) (.sl none 2 [] 0):=⟨by omega,by omega,yv 0,yv 0⟩
theorem zCJ:(Ty.mk 0 []).cnt=1:=rfl
/-- a form without parts yet -/
theorem zGo {dep:Int} (hP:zIt dep) (k:Int) {nm:ByteArray} (h1:nm.size<=1000) (n2:Int) (hn2:0<=n2/\n2<=3) {s:ByteArray} {n:Int} (hr:Rs s n) (b:Bool) (N:Nat) (Q:QT [.ag 9,.str,.int .i64,.bool])
  (hQ:∀ d n' b' N',N<=N'->Rs s n'->n<=n'->Some (1100+2000*(n' - n).toNat) d->Q d s n' b' N'):BCalls prog 262 [.ag 9,.str,.int .i64,.bool] [.pb 0 0 0 0,.dg 9 (.ag [.lit (.int .i64 k),.lit (.string nm),.lit (.string (bytes [])),.lit (.int .i64 0),.lit (.int .i64 0),.sl none 2 [] 0,.lit (.int .i64 0),.sl none 2 [] 0,.sl none 9 [] 0]),.int .i64 n2,.int .i64 dep] [.var [.str s,.int .i64 n,.bool b]] N Q:=
 zIM hP (zH0 h1 (by decide)) (l0:=[]) rfl (by simp) (a0:=none) (c0:=0) (fun _=>trivial) (w:=3) (by simp [zCJ,zO]) n2 hn2 hr b N Q fun d n' b' N' h hr' hn hd=>hQ d n' b' N' h hr' hn (hd.mono (by omega))
theorem zOm {dep:Int} (hP:zIt dep) {m1:Nat} {x:D} (hx:Some m1 x) {s:ByteArray} {n:Int} (hr:Rs s n) (b:Bool) (N:Nat) (Q:QT [.ag 9,.str,.int .i64,.bool])
  (hQ:∀ d n' b' N',N<=N'->Rs s n'->n<=n'->Some (m1+20+2000*(n' - n).toNat) d->Q d s n' b' N'):BCalls prog 264 [.ag 9,.str,.int .i64,.bool] [.pb 0 0 0 0,.dg 9 x,.int .i64 dep] [.var [.str s,.int .i64 n,.bool b]] N Q:=by
 obtain ⟨t,ht,hc⟩:=hx
 have h1:=hr.lo
 have h2:=hr.hi
 have h3:=hr.l
 have app:∀ (n':Int) (b':Bool) (a:Option Addr) (N':Nat),N<=N'->Rs s n'->n<=n'->Q (.ag [.lit (.int .i64 7),.lit (.string (bytes [])),.lit (.string (bytes [])),.lit (.int .i64 0),.lit (.int .i64 0),.sl none 2 [] 0,.lit (.int .i64 0),.sl none 2 [] 0,.sl a 9 [x] 1]) s n' b' N':=fun n' b' a N' h hr' hn=>hQ _ _ _ _ h hr' hn ⟨.mk 7 (bytes []) (bytes []) 0 (.mk 0 []) (.mk 0 []) [t],Tm.is_mk.2 ⟨_,_,_,_,_,_,_,rfl,zH0 (by decide) (by decide),by simp,sP ht⟩,by simp only [Tm.cnt,zCJ,zO];omega⟩
 have args:∀ (k:Int) (nm:ByteArray) (hnm:nm.size<=1000) (a:Option Addr) (n1:Int) (hr1:Rs s n1) (_:n<=n1) (b':Bool) (N1:Nat) (_:N<=N1) (Q1:QT [.ag 9,.str,.int .i64,.bool]) (_:∀ d n' b' N',N1<=N'->Rs s n'->n1<=n'->Some (m1+20+2000*(n' - n).toNat) d->Q1 d s n' b' N'),BCalls prog 262 [.ag 9,.str,.int .i64,.bool] [.pb 0 0 0 0,.dg 9 (.ag [.lit (.int .i64 k),.lit (.string nm),.lit (.string (bytes [])),.lit (.int .i64 0),.lit (.int .i64 0),.sl none 2 [] 0,.lit (.int .i64 0),.sl none 2 [] 0,.sl a 9 [x] 1]),.int .i64 1,.int .i64 dep] [.var [.str s,.int .i64 n1,.bool b']] N1 Q1:=fun k nm hnm a n1 hr1 hn1 b' N1 hN1 Q1 hQ1=>
  zIM hP (zH0 hnm (by decide)) (sP ht) (by simp) (fun y=>by cases a<;>exact ⟨rfl,by simp⟩) (w:=3+m1) (by simp only [zCJ,zO];omega) 1 ⟨by omega,by omega⟩ hr1 b' N1 Q1 fun d n' b2 N' h hr' hn' hd=>hQ1 d n' b2 N' h hr' hn' (hd.mono (by omega))
 refine zAe N x dep s n b Q fun E _ N1 hN1=>wi hr _ (by decide) _ N1 _ fun b2 n2 N2 hN2 hr2 hn2 z2 _ _=>Br.of (fun _=>⟨⟨rfl,rfl⟩,⟨rfl,rfl⟩,⟨rfl,rfl⟩,⟨rfl,rfl⟩,fun a N3 hN3 _ N4 hN4=>?_⟩) fun hb2=>Br.of (fun _=>⟨⟨rfl,rfl⟩,⟨rfl,rfl⟩,⟨rfl,rfl⟩,⟨rfl,rfl⟩,⟨rfl,rfl⟩,fun a N3 hN3 _=>⟨zS,fun N4 hN4=>app _ _ _ _ (by omega) hr2 hn2⟩⟩) fun _=>Br.dec (fun _=>⟨⟨rfl,rfl⟩,⟨rfl,rfl⟩,⟨rfl,rfl⟩,⟨rfl,rfl⟩,⟨rfl,rfl⟩,fun a N3 hN3 _=>⟨zS,fun N4 hN4=>app _ _ _ _ (by omega) hr2 hn2⟩⟩) fun hlt=>?_
 ·exact args 7 _ (by decide) a n2 hr2 hn2 _ N4 (by omega) _ fun d n' b' N' h hr' hn hd _ _=>⟨zS,fun N5 hN5=>hQ _ _ _ _ (by omega) hr' (by omega) hd⟩
 ·have z2:=z2 hb2;subst z2
  have h1:=hr2.lo
  have e1:IntKind.i64.wrap (n2+1)=n2+1:=i64_in _ (by omega)
  rw [e1]
  refine ⟨⟨h1,by omega,by omega⟩,fun N3 hN3=>v4 _ N3 _ fun N4 hN4 _=>Br.bne (fun _=>⟨⟨rfl,rfl⟩,⟨rfl,rfl⟩,⟨rfl,rfl⟩,⟨rfl,rfl⟩,⟨rfl,rfl⟩,fun a N5 hN5 _=>⟨zS,fun N6 hN6=>app _ _ _ _ (by omega) hr2 hn2⟩⟩) fun _=>⟨⟨h1,by omega,by omega⟩,⟨rfl,rfl⟩,⟨rfl,rfl⟩,⟨rfl,rfl⟩,⟨rfl,rfl⟩,fun a N5 hN5 _ N6 hN6=>?_⟩⟩
  exact args 4 _ (by rw [mA];omega) a (n2+1) ⟨h3,by omega,by omega⟩ (by omega) _ N6 (by omega) _ fun d n' b' N' h hr' hn hd _ _=>⟨zS,fun N7 hN7=>hQ _ _ _ _ (by omega) hr' (by omega) hd⟩
theorem zPC {dep:Int} (hP:zIt dep) {s:ByteArray} {n:Int} (hr:Rs s n) (b:Bool) (N:Nat) (Q:QT [.ag 9,.str,.int .i64,.bool])
  (hQ:∀ d n' b' N',N<=N'->Rs s n'->n<=n'->Some (1100+2000*(n' - n).toNat) d->Q d s n' b' N'):BCalls prog 263 [.ag 9,.str,.int .i64,.bool] [.pb 0 0 0 0,.int .i64 dep] [.var [.str s,.int .i64 n,.bool b]] N Q:=by
 refine zBM N dep s n b Q fun E N1 hN1=>zDM hr _ N1 _ fun nm n2 N2 hN2 hr2 hn2 hnm _ N3 hN3=>wm hr2 _ (by decide) _ N3 _ fun b4 n4 N4 hN4 hr4 hn4 _ _ N5 hN5=>zDM hr4 _ N5 _ fun ot n6 N6 hN6 hr6 hn6 hot _ N7 hN7=>wm hr6 _ (by decide) _ N7 _ fun b8 n8 N8 hN8 hr8 hn8 _ _ N9 hN9=>?_
 refine zJ0 8 (by omega) 1 (by omega) hr8 _ N9 _ fun ty d n10 b10 N10 hN10 hr10 hn10 hty hcty _ _ N11 hN11=>wm hr10 _ (by decide) _ N11 _ fun b12 n12 N12 hN12 hr12 hn12 _ _ N13 hN13=>?_
 refine zJ0 8 (by omega) 1 (by omega) hr12 _ N13 _ fun re e n14 b14 N14 hN14 hr14 hn14 hre hcre _ _ N15 hN15=>wm hr14 _ (by decide) _ N15 _ fun b16 n16 N16 hN16 hr16 hn16 _ _ N17 hN17=>?_
 have hp:2 ^ (8+1)=512:=rfl
 refine zIM hP (k:=9) (m:=0) (ty:=ty) (re:=re) ⟨by omega,by omega,Ty.is_cells hty,Ty.is_cells hre⟩ (l0:=[]) rfl (by simp) (a0:=none) (c0:=0) (fun _=>trivial) (w:=1025) (by simp only [zO];omega) 1 ⟨by omega,by omega⟩ hr16 b16 N17 _ fun x n' b' N' h hr' hn hx _ _=>⟨zS,fun N18 hN18=>hQ _ _ _ _ (by omega) hr' (by omega) (hx.mono (by omega))⟩
theorem zL1 {s:ByteArray} {n:Int} (hr:Rs s n) (b:Bool) (N:Nat) (Q:QT [.ag 9,.str,.int .i64,.bool])
  (hQ:∀ d n' b' N',N<=N'->Rs s n'->n<=n'->Some 3 d->Q d s n' b' N'):BCalls prog 256 [.ag 9,.str,.int .i64,.bool] [.pb 0 0 0 0] [.var [.str s,.int .i64 n,.bool b]] N Q:=by
 have rd:∀ (w:ByteArray) (hw:w.size<=1000) (N:Nat) (Q:QT [.int .i64,.bool]) (hQ:∀ n b N',N<=N'->Q n b N'),ACalls prog 265 [.int .i64,.bool] [.str w] N Q:=fun w hw N Q hQ=>by
  refine qi N w Q fun N1 hN1=>?_
  have en:∀ n b N2,N1<=N2->Br (!b) (∀ N3,N2<=N3->Q 0 false N3) (Br (decide (n<0)) (∀ N4,N2<=N4->Q 0 false N4) (∀ N5,N2<=N5->Q n true N5)):=fun n b N2 hN2=>Br.of (fun _ N3 hN3=>hQ _ _ _ (by omega)) fun _=>Br.of (fun _ N3 hN3=>hQ _ _ _ (by omega)) fun _ N3 hN3=>hQ _ _ _ (by omega)
  have key:∀ (b6:Bool) (t:ByteArray),t.size<=6->zk (fun n b N2=>N1<=N2->Br (!b) (∀ N3,N2<=N3->Q 0 false N3) (Br (decide (n<0)) (∀ N4,N2<=N4->Q 0 false N4) (∀ N5,N2<=N5->Q n true N5))) N1 w b6 t 0 0 N1:=fun b6 t ht=>by
   have lp:∀ (m:Nat) (k:Nat) (v:Int),k+m=t.size->0<=v->v<10 ^ k->zk (fun n b N2=>N1<=N2->Br (!b) (∀ N3,N2<=N3->Q 0 false N3) (Br (decide (n<0)) (∀ N4,N2<=N4->Q 0 false N4) (∀ N5,N2<=N5->Q n true N5))) N1 w b6 t v k N1:=by
    intro m
    induction m with
    | zero=>
      intro k v hk hv0 hv
      have hv6:v<1000000:=Int.lt_of_lt_of_le hv (by
       have:(10:Nat) ^ k<=10 ^ 6:=Nat.pow_le_pow_right (by omega) (by omega)
       have:((10 ^ k:Nat):Int)<=((10 ^ 6:Nat):Int):=Int.ofNat_le.2 this
       simpa using this)
      have e0:IntKind.i64.wrap (0 - v)=0 - v:=i64_in _ (by omega)
      refine t6 _ _ _ _ _ _ _ _ (Br.dec (fun h=>by omega) fun _=>Br.of (fun _ N3 hN3=>?_) fun _ N3 hN3=>?_)
      ·rw [e0]
       exact zNM _ (by omega) N3 _ fun z N4 hN4 hz _=>Br.of (fun _ N5 hN5 _=>en _ _ _ (by omega)) fun _ N5 hN5 _=>en _ _ _ (by omega)
      ·exact zNM _ (by omega) N3 _ fun z N4 hN4 hz _=>Br.of (fun _ N5 hN5 _=>en _ _ _ (by omega)) fun _ N5 hN5 _=>en _ _ _ (by omega)
    | succ m ih=>
      intro k v hk hv0 hv
      have hv6:v<1000000:=Int.lt_of_lt_of_le hv (by
       have:(10:Nat) ^ k<=10 ^ 6:=Nat.pow_le_pow_right (by omega) (by omega)
       have:((10 ^ k:Nat):Int)<=((10 ^ 6:Nat):Int):=Int.ofNat_le.2 this
       simpa using this)
      have bd:0<=(k:Int)/\(k:Int)<(t.size:Int):=⟨by omega,by omega⟩
      refine t6 _ _ _ _ _ _ _ _ (Br.of (fun _=>⟨bd,Br.dec (fun _ N3 hN3 _=>en _ _ _ (by omega)) fun h1=>⟨bd,Br.dec (fun _ N3 hN3 _=>en _ _ _ (by omega)) fun h2=>⟨bd,?_⟩⟩⟩) fun h=>by
       rw [decide_eq_false_iff_not] at h;omega)
      generalize ((t.data.getD (k:Int).toNat (OfNat.ofNat 0)).toNat:Int)=c at h1 h2 ⊢
      have e3:IntKind.u8.wrap (c - 48)=c - 48:=u8_in _ (by omega)
      rw [e3,i64_in (10*v) (by omega),i64_in (c - 48) (by omega),i64_in (10*v+(c - 48)) (by omega),i64_in ((k:Int)+1) (by omega)]
      refine ih (k+1) _ (by omega) (by omega) ?_
      rw [Int.pow_succ]
      omega
   exact lp t.size 0 0 (by omega) (by omega) (by decide)
  have cut:∀ b6:Bool,∀ t:ByteArray,Br (decide ((t.size:Int)<1)) (∀ N2,N1<=N2->N1<=N2->Br (!false) (∀ N3,N2<=N3->Q 0 false N3) (Br (decide ((0:Int)<0)) (∀ N4,N2<=N4->Q 0 false N4) (∀ N5,N2<=N5->Q 0 true N5))) (Br (decide ((t.size:Int)>6)) (∀ N2,N1<=N2->N1<=N2->Br (!false) (∀ N3,N2<=N3->Q 0 false N3) (Br (decide ((0:Int)<0)) (∀ N4,N2<=N4->Q 0 false N4) (∀ N5,N2<=N5->Q 0 true N5))) (zk (fun n b N2=>N1<=N2->Br (!b) (∀ N3,N2<=N3->Q 0 false N3) (Br (decide (n<0)) (∀ N4,N2<=N4->Q 0 false N4) (∀ N5,N2<=N5->Q n true N5))) N1 w b6 t 0 0 N1)):=fun b6 t=>
   Br.of (fun _ N2 hN2 _=>en 0 false _ (by omega)) fun _=>Br.dec (fun _ N2 hN2 _=>en 0 false _ (by omega)) fun h=>key b6 t (by omega)
  refine zFK N1 w 6 _ (Br.dec (fun h=>⟨⟨by omega,by omega⟩,Br.of (fun _=>⟨⟨by omega,by omega,by omega⟩,cut _ _⟩) fun _=>cut _ _⟩) fun h=>cut _ _)
 refine rX N s n b Q fun E N1 hN1=>zDM hr _ N1 _ fun w n2 N2 hN2 hr2 hn2 hw _ N3 hN3=>rd w hw N3 _ fun v bv N4 hN4 _=>Br.of (fun _ N5 hN5=>zM2 v N5 _ fun d N6 hN6 hd _ _=>⟨zS,fun N7 hN7=>hQ _ _ _ _ (by omega) hr2 hn2 hd⟩) fun _ N5 hN5=>zM2 v N5 _ fun d N6 hN6 hd _ _=>⟨zS,fun N7 hN7=>hQ _ _ _ _ (by omega) hr2 hn2 hd⟩
theorem zOS {dep:Int} (hP:zIt dep) {s:ByteArray} {n:Int} (hr:Rs s n) (b:Bool) (N:Nat) (Q:QT [.ag 9,.str,.int .i64,.bool])
  (hQ:∀ d n' b' N',N<=N'->Rs s n'->n<=n'->Some (1100+2000*(n' - n).toNat) d->Q d s n' b' N'):BCalls prog 255 [.ag 9,.str,.int .i64,.bool] [.pb 0 0 0 0,.int .i64 dep] [.var [.str s,.int .i64 n,.bool b]] N Q:=by
 have hp:2 ^ (8+1)=512:=rfl
 refine zAW N dep s n b Q fun E N1 hN1=>wi hr _ (by decide) _ N1 _ fun b2 n2 N2 hN2 hr2 hn2 _ _ _=>Br.of (fun _ N3 hN3=>?_) fun _ N3 hN3=>wi hr2 _ (by decide) _ N3 _ fun b4 n4 N4 hN4 hr4 hn4 _ _ _=>Br.of (fun _ N5 hN5=>?_) fun _ N5 hN5=>wi hr4 _ (by decide) _ N5 _ fun b6 n6 N6 hN6 hr6 hn6 _ _ _=>Br.of (fun _ N7 hN7=>?_) fun _ N7 hN7=>wi hr6 _ (by decide) _ N7 _ fun b8 n8 N8 hN8 hr8 hn8 _ _ _=>Br.of (fun _ N9 hN9=>?_) fun _ N9 hN9=>wi hr8 _ (by decide) _ N9 _ fun b10 n10 N10 hN10 hr10 hn10 _ _ _=>Br.of (fun _ N11 hN11=>?_) fun _ N11 hN11=>wi hr10 _ (by decide) _ N11 _ fun b12 n12 N12 hN12 hr12 hn12 _ _ _=>Br.of (fun _ N13 hN13=>?_) fun _ N13 hN13=>wi hr12 _ (by decide) _ N13 _ fun b14 n14 N14 hN14 hr14 hn14 _ _ _=>Br.of (fun _ N15 hN15=>?_) fun _ N15 hN15=>?_
 ·refine zDM hr2 _ N3 _ fun nm n4 N4 hN4 hr4 hn4 hnm _ N5 hN5=>wm hr4 _ (by decide) _ N5 _ fun b6 n6 N6 hN6 hr6 hn6 _ _ N7 hN7=>?_
  refine zJ0 8 (by omega) 1 (by omega) hr6 _ N7 _ fun ty d n8 b8 N8 hN8 hr8 hn8 hty hcty _ _ N9 hN9=>wm hr8 _ (by decide) _ N9 _ fun b10 n10 N10 hN10 hr10 hn10 _ _ N11 hN11=>?_
  exact zIM hP (k:=6) (m:=0) (ty:=ty) (re:=.mk 0 []) ⟨by omega,by decide,Ty.is_cells hty,yv 0⟩ (l0:=[]) rfl (by simp) (a0:=none) (c0:=0) (fun _=>trivial) (w:=1025) (by simp only [zO,zCJ];omega) 1 ⟨by omega,by omega⟩ hr10 b10 N11 _ fun x n' b' N' h hr' hn hx _ _=>⟨zS,fun N18 hN18=>hQ _ _ _ _ (by omega) hr' (by omega) (hx.mono (by omega))⟩
 ·refine zDM hr4 _ N5 _ fun nm n6 N6 hN6 hr6 hn6 hnm _ N7 hN7=>wm hr6 _ (by decide) _ N7 _ fun b8 n8 N8 hN8 hr8 hn8 _ _ N9 hN9=>?_
  exact zGo hP 8 (by omega) 2 ⟨by omega,by omega⟩ hr8 b8 N9 _ fun x n' b' N' h hr' hn hx _ _=>⟨zS,fun N18 hN18=>hQ _ _ _ _ (by omega) hr' (by omega) (hx.mono (by omega))⟩
 ·exact zPC hP hr6 _ N7 _ fun x n' b' N' h hr' hn hx _ _=>⟨zS,fun N18 hN18=>hQ _ _ _ _ (by omega) hr' (by omega) (hx.mono (by omega))⟩
 ·exact zGo hP 5 (by decide) 3 ⟨by omega,by omega⟩ hr8 _ N9 _ fun x n' b' N' h hr' hn hx _ _=>⟨zS,fun N18 hN18=>hQ _ _ _ _ (by omega) hr' (by omega) (hx.mono (by omega))⟩
 ·exact zGo hP 12 (by decide) 1 ⟨by omega,by omega⟩ hr10 _ N11 _ fun x n' b' N' h hr' hn hx _ _=>⟨zS,fun N18 hN18=>hQ _ _ _ _ (by omega) hr' (by omega) (hx.mono (by omega))⟩
 ·exact zGo hP 13 (by decide) 1 ⟨by omega,by omega⟩ hr12 _ N13 _ fun x n' b' N' h hr' hn hx _ _=>⟨zS,fun N18 hN18=>hQ _ _ _ _ (by omega) hr' (by omega) (hx.mono (by omega))⟩
 ·exact zGo hP 4 (by decide) 1 ⟨by omega,by omega⟩ hr14 _ N15 _ fun x n' b' N' h hr' hn hx _ _=>⟨zS,fun N18 hN18=>hQ _ _ _ _ (by omega) hr' (by omega) (hx.mono (by omega))⟩
 ·refine hP s n14 _ N15 _ hr14 fun x n16 b16 N16 hN16 hr16 hn16 hx _ _ N17 hN17=>?_
  exact zOm hP hx hr16 b16 N17 _ fun x n' b' N' h hr' hn hx _ _=>⟨zS,fun N18 hN18=>hQ _ _ _ _ (by omega) hr' (by omega) (hx.mono (by omega))⟩
theorem zOE:∀ (j:Nat),j<=20->∀ n1:Int,n1+j=21->zIt n1:=by
 have nod:∀ (k:Int) {m:Nat} {x:D} (a:Option Addr),Some m x->Some (3+m) (.ag [.lit (.int .i64 k),.lit (.string (bytes [])),.lit (.string (bytes [])),.lit (.int .i64 0),.lit (.int .i64 0),.sl none 2 [] 0,.lit (.int .i64 0),.sl none 2 [] 0,.sl a 9 [x] 1]):=fun k m x a ⟨t,ht,hc⟩=>
  ⟨.mk k (bytes []) (bytes []) 0 (.mk 0 []) (.mk 0 []) [t],Tm.is_mk.2 ⟨_,_,_,_,_,_,_,rfl,zH0 (by decide) (by decide),by simp,sP ht⟩,by simp only [Tm.cnt,zCJ,zO];omega⟩
 intro j
 induction j with
 | zero=>
   intro _ n1 hn1 s n b N Q hr hQ
   exact ut N n1 s n b Q fun E=>Br.of (fun _=>⟨zS,fun N1 hN1=>hQ _ _ _ _ hN1 hr (mB _) (some_nod.mono (by omega))⟩) fun _=>Br.dec (fun _=>⟨zS,fun N1 hN1=>hQ _ _ _ _ hN1 hr (mB _) (some_nod.mono (by omega))⟩) fun h=>by omega
 | succ j ih=>
   intro hj n1 hn1 s n b N Q hr hQ
   have e1:IntKind.i64.wrap (n1+1)=n1+1:=i64_in _ (by omega)
   have hP:=ih (by omega) (n1+1) (by omega)
   have sz:∀ x,((bytes [x]).size:Int)=1:=fun _=>rfl
   refine ut N n1 s n b Q fun E=>Br.of (fun _=>⟨zS,fun N1 hN1=>hQ _ _ _ _ hN1 hr (mB _) (some_nod.mono (by omega))⟩) fun _=>Br.dec (fun _=>⟨zS,fun N1 hN1=>hQ _ _ _ _ hN1 hr (mB _) (some_nod.mono (by omega))⟩) fun _=>Br.dec (fun _=>⟨zS,fun N1 hN1=>hQ _ _ _ _ hN1 hr (mB _) (some_nod.mono (by omega))⟩) fun hlt N1 hN1=>?_
   rw [e1]
   refine wi hr _ (by decide) _ N1 _ fun b2 n2 N2 hN2 hr2 hn2 z2 _ _=>Br.of (fun _ N3 hN3=>zKk 1 N3 _ fun d N4 hN4 hd _ _=>⟨zS,fun N5 hN5=>hQ _ _ _ _ (by omega) hr2 (by omega) (hd.mono (by omega))⟩) fun hb2 N3 hN3=>?_
   have z2:=z2 hb2;subst z2
   refine wi hr2 _ (by decide) _ N3 _ fun b4 n4 N4 hN4 hr4 hn4 z4 _ _=>Br.of (fun _ N5 hN5=>zKk 0 N5 _ fun d N6 hN6 hd _ _=>⟨zS,fun N7 hN7=>hQ _ _ _ _ (by omega) hr4 (by omega) (hd.mono (by omega))⟩) fun hb4 N5 hN5=>?_
   have z4:=z4 hb4;subst z4
   refine wi hr4 _ (by decide) _ N5 _ fun b6 n6 N6 hN6 hr6 hn6 z6 g6 _=>Br.of (fun hb6 N7 hN7=>?_) fun hb6 N7 hN7=>?_
   ·have g6:=g6 hb6
    rw [sz] at g6
    exact hP s n6 _ N7 _ hr6 fun x n8 b8 N8 hN8 hr8 hn8 hx _ _=>⟨⟨rfl,rfl⟩,⟨rfl,rfl⟩,⟨rfl,rfl⟩,fun a N9 hN9 _=>⟨zS,fun N10 hN10=>hQ _ _ _ _ (by omega) hr8 (by omega) ((nod 11 a hx).mono (by omega))⟩⟩
   have z6:=z6 hb6;subst z6
   refine wi hr6 _ (by decide) _ N7 _ fun b8 n8 N8 hN8 hr8 hn8 z8 g8 _=>Br.of (fun hb8 N9 hN9=>?_) fun hb8 N9 hN9=>?_
   ·have g8:=g8 hb8
    rw [sz] at g8
    exact hP s n8 _ N9 _ hr8 fun x n10 b10 N10 hN10 hr10 hn10 hx _ _ N11 hN11=>wm hr10 _ (by decide) _ N11 _ fun b12 n12 N12 hN12 hr12 hn12 _ _=>⟨⟨rfl,rfl⟩,⟨rfl,rfl⟩,⟨rfl,rfl⟩,⟨rfl,rfl⟩,⟨rfl,rfl⟩,fun a N13 hN13 _=>⟨zS,fun N14 hN14=>hQ _ _ _ _ (by omega) hr12 (by omega) ((nod 10 a hx).mono (by omega))⟩⟩
   have z8:=z8 hb8;subst z8
   refine wi hr8 _ (by decide) _ N9 _ fun b10 n10 N10 hN10 hr10 hn10 z10 g10 _=>Br.of (fun hb10 N11 hN11=>?_) fun hb10=>?_
   ·have g10:=g10 hb10
    rw [sz] at g10
    exact zOS hP hr10 _ N11 _ fun x n12 b12 N12 hN12 hr12 hn12 hx _ _=>⟨zS,fun N13 hN13=>hQ _ _ _ _ (by omega) hr12 (by omega) (hx.mono (by omega))⟩
   have z10:=z10 hb10;subst z10
   have bd:0<=n10/\n10<(s.size:Int):=⟨hr10.lo,by omega⟩
   have word:∀ N11,N10<=N11->∀ (b':Bool),BCalls prog 257 [.str,.str,.int .i64,.bool] [.pb 0 0 0 0] [.var [.str s,.int .i64 n10,.bool b']] N11 (fun s_10 s_11 n_10 b_15 N37=>N11<=N37->∀ N38,N37<=N38->ACalls prog 155 [.ag 9] [.str s_10] N38 (fun x_6 N39=>N38<=N39->Bel N39 x_6->zP E [.var [.str (bytes []),.int .i64 0,.bool false]]/\∀ N40,N39<=N40->Q x_6 s_11 n_10 b_15 N40)):=fun N11 hN11 b'=>
    zDM hr10 _ N11 _ fun w n12 N12 hN12 hr12 hn12 hw _ N13 hN13=>zOC w (by omega) N13 _ fun d N14 hN14 hd _ _=>⟨zS,fun N15 hN15=>hQ _ _ _ _ (by omega) hr12 hn12 (hd.mono (by omega))⟩
   exact ⟨bd,Br.of (fun _=>⟨bd,Br.of (fun _ N11 hN11=>zL1 hr10 _ N11 _ fun d n12 b12 N12 hN12 hr12 hn12 hd _ _=>⟨zS,fun N13 hN13=>hQ _ _ _ _ (by omega) hr12 hn12 (hd.mono (by omega))⟩) fun _ N11 hN11=>word N11 hN11 _⟩) fun _ N11 hN11=>word N11 hN11 _⟩
/-- what a short text is parsed to -/
theorem zMq {s:ByteArray} (hs:s.size<=1000) (N:Nat) (Q:QT [.ag 9,.bool]) (hQ:∀ d b N',N<=N'->Some 2100000 d->Q d b N'):ACalls prog 202 [.ag 9,.bool] [.str s] N Q:=by
 have z:=some_nod.mono (show 3<=2100000 by omega)
 refine zAJ N s Q fun N1 hN1=>zOE 20 (by omega) 1 (by omega) s 0 _ N1 _ ⟨hs,by omega,by omega⟩ fun x n2 b2 N2 hN2 hr2 hn2 hx _ _=>Br.of (fun _ N3 hN3=>hQ _ _ _ (by omega) z) fun _=>Br.of (fun _ N3 hN3=>hQ _ _ _ (by omega) z) fun _ N3 hN3=>?_
 have:=hr2.hi
 obtain ⟨t,ht,hc⟩:=hx
 exact zOW t x ht (by omega) N3 _ fun w N4 hN4 _ _=>Br.of (fun _ N5 hN5=>hQ _ _ _ (by omega) z) fun _ N5 hN5=>hQ _ _ _ (by omega) ⟨t,ht,by omega⟩
end Go.Proofs.YtkdjhkfiolhkiaaGreat
set_option maxRecDepth 100000
namespace Go.Proofs.YtkdjhkfiolhkiaaGreat
open Go Go.Proofs Go.Proofs.Tryz Go.IntWalk
/-- some type of at most this many nodes, by its form -/
def WfD (m:Nat) (d:D):Prop:=∃ t:Ty,Wf t/\t.Is d/\t.cnt<=m
theorem WfD.mono {m n:Nat} {d:D} (h:WfD m d) (hn:m<=n):WfD n d:=by obtain ⟨t,h0,h1,h2⟩:=h;exact ⟨t,h0,h1,by omega⟩
theorem zMe {k:Int} (h:k∈[1,1,(2:Int)]):WfD 1 (.ag [.lit (.int .i64 k),.sl none 2 [] 0]):=by
 simp only [oG,nD,mP] at h
 have h:k=1\/k=2:=by omega
 rcases h with rfl | rfl
 ·exact ⟨tInt,.int,yv 1,by decide⟩
 ·exact ⟨tBool,.bool,yv 2,by decide⟩
def zOn (b:Int) (X:Nat):Prop:=∀ (n:Int),n<=b->∀ {es:List D} {i:Int} (_:Cu es i) (a:Option Addr) (c:Nat) (h:Int) (N:Nat) (Q:QT [.ag 2,.sl 0,.int .i64,.int .i64])
    (_:∀ d' a' es' c' i' h' N',N<=N'->Cu es' i'->WfD X d'->Q d' a' es' c' i' h' N'),BCalls prog 93 [.ag 2,.sl 0,.int .i64,.int .i64] [.pb 0 0 0 0,.int .i64 n] [.var [.sv a 0 es c,.int .i64 i,.int .i64 h]] N Q
theorem zMu:zOn 1 1:=fun n hn es i hcu a c h N Q hQ=>by
 refine xK N n a es c i h Q fun E _=>Br.dec (fun _ N1 hN1=>?_) fun g=>absurd (by omega) g
 exact wh (l:=[1,1,2]) hcu (by decide) (by decide) a c h 3 3 N1 _ fun k a' es' c' i' h' N2 hN2 hc' hk _ _ _=>⟨zS,fun N3 hN3=>hQ _ _ _ _ _ _ _ (by omega) hc' (zMe hk)⟩
theorem zN8:zOn 2 3:=fun n hn es i hcu a c h N Q hQ=>by
 have pk:∀ (E:Env) {es:List D} {i:Int} (_:Cu es i) a c h N1,N<=N1->BCalls prog 63 [.int .i64,.sl 0,.int .i64,.int .i64,.sl 0] [.pb 0 0 0 0,.sb 1 0 0 3 3] [.var [.sv a 0 es c,.int .i64 i,.int .i64 h],.arr 3 0 (zFt [1,1,2]) 3] N1
   (fun n a es c n_1 n_2 a_1 es_1 c_1 N2=>N1<=N2->Bel N2 (D.sl a 0 es c)->Bel N2 (D.sl a_1 0 es_1 c_1)->zP E [.var [.sv none 0 [] 0,.int .i64 0,.int .i64 0]]/\∀ N3,N2<=N3->Q (D.ag [D.lit (.int .i64 n),D.sl Option.none 2 [] 0]) a es c n_1 n_2 N3):=fun E es i hcu a c h N1 hN1=>
  wh (l:=[1,1,2]) hcu (by decide) (by decide) a c h 3 3 N1 _ fun k a' es' c' i' h' N2 hN2 hc' hk _ _ _=>⟨zS,fun N3 hN3=>hQ _ _ _ _ _ _ _ (by omega) hc' ((zMe hk).mono (by omega))⟩
 refine xK N n a es c i h Q fun E _=>Br.dec (fun _ N1 hN1=>pk E hcu _ _ _ N1 hN1) fun hlt N1 hN1=>wu hcu 2 (by omega) a c h N1 _ fun b1 a1 es1 c1 i1 h1 N2 hN2 hc1 _ _=>Br.of (fun _ N3 hN3=>pk E hc1 _ _ _ N3 (by omega)) fun _ N3 hN3=>?_
 refine wu hc1 2 (by omega) a1 c1 h1 N3 _ fun b2 a2 es2 c2 i2 h2 N4 hN4 hc2 _ _=>Br.of (fun _ N5 hN5=>?_) fun _ N5 hN5=>?_
 ·rw [i64_in (n - 1) (by omega)]
  refine zMu (n - 1) (by omega) hc2 a2 c2 h2 N5 _ fun d a3 es3 c3 i3 h3 N6 hN6 hc3 hd _ _ _ N7 hN7=>?_
  obtain ⟨t,hw,ht,hc⟩:=hd
  exact yY t d ht (by omega) N7 _ fun e N8 hN8 he _ _ _=>⟨zS,fun N9 hN9=>hQ _ _ _ _ _ _ _ (by omega) hc3 ⟨_,.code hw,he,by simp only [wg,Ty.cnt,zI];omega⟩⟩
 ·rw [i64_in (n - 1) (by omega)]
  refine zMu (n - 1) (by omega) hc2 a2 c2 h2 N5 _ fun d a3 es3 c3 i3 h3 N6 hN6 hc3 hd _ _ _ N7 hN7=>?_
  obtain ⟨t,hw,ht,hc⟩:=hd
  refine zMu (n - 1) (by omega) hc3 a3 c3 h3 N7 _ fun d2 a4 es4 c4 i4 h4 N8 hN8 hc4 hd2 _ _ _ N9 hN9=>?_
  obtain ⟨u,hw2,ht2,hcu2⟩:=hd2
  exact yX t u d d2 ht ht2 (by omega) (by omega) N9 _ fun e N10 hN10 he _ _ _=>⟨zS,fun N11 hN11=>hQ _ _ _ _ _ _ _ (by omega) hc4 ⟨_,.fn hw hw2,he,by simp only [wQ,Ty.cnt,zI];omega⟩⟩
theorem zJ7 (n:Int) {es:List D} {i:Int} (hcu:Cu es i) (a:Option Addr) (c:Nat) (h:Int) (N:Nat) (Q:QT [.ag 2,.sl 0,.int .i64,.int .i64])
  (hQ:∀ d' a' es' c' i' h' N',N<=N'->Cu es' i'->WfD 3 d'->Q d' a' es' c' i' h' N'):BCalls prog 91 [.ag 2,.sl 0,.int .i64,.int .i64] [.pb 0 0 0 0,.int .i64 n] [.var [.sv a 0 es c,.int .i64 i,.int .i64 h]] N Q:=by
 refine zAV N n a es c i h Q fun E _ N1 hN1=>yz N1 _ fun x N2 hN2 hx _ _ _=>?_
 have i3:WfD 3 x:=⟨_,.int,hx,by decide⟩
 have fn:∀ N3,ACalls prog 153 [.ag 2] [.dg 2 x,.dg 2 x] N3 (fun y N4=>N3<=N4->Bel N4 y->zP E [.var [.sv none 0 [] 0,.int .i64 0,.int .i64 0]]/\∀ N5,N4<=N5->WfD 3 y/\N3<=N5):=fun N3=>
  yX tInt tInt x x hx hx (by decide) (by decide) N3 _ fun y N4 hN4 hy _ _ _=>⟨zS,fun N5 hN5=>⟨⟨_,.fn .int .int,hy,by decide⟩,by omega⟩⟩
 have last:∀ {es:List D} {i:Int} (_:Cu es i) a c h N3,N2<=N3->BCalls prog 81 [.bool,.sl 0,.int .i64,.int .i64] [.pb 0 0 0 0,.int .i64 3] [.var [.sv a 0 es c,.int .i64 i,.int .i64 h]] N3 (fun b_2 a_2 es_2 c_2 n_4 n_5 N15=>N3<=N15->Bel N15 (D.sl a_2 0 es_2 c_2)->Br b_2 (∀ N16,N15
  <= N16->ACalls prog 153 [.ag 2] [.dg 2 x,.dg 2 x] N16 (fun x_3 N17=>N16<=N17->Bel N17 x_3->zP E [.var [.sv none 0 [] 0,.int .i64 0,.int .i64 0]]
  /\ ∀ N18,N17<=N18->Q x_3 a_2 es_2 c_2 n_4 n_5 N18)) (zP E [.var [.sv none 0 [] 0,.int .i64 0,.int .i64 0]]/\∀ N19,N15<=N19->Q x a_2 es_2 c_2 n_4
  n_5 N19)):=fun {es i} hcu a c h N3 hN3=>wu hcu 3 (by omega) a c h N3 _ fun b a1 es1 c1 i1 h1 N4 hN4 hc1 _ _=>Br.of (fun _ N5 hN5=>yX tInt tInt x x hx hx (by decide) (by decide) N5 _ fun y N6 hN6 hy _ _ _=>⟨zS,fun N7 hN7=>hQ _ _ _ _ _ _ _ (by omega) hc1 ⟨_,.fn .int .int,hy,by decide⟩⟩) fun _=>⟨zS,fun N7 hN7=>hQ _ _ _ _ _ _ _ (by omega) hc1 i3⟩
 refine Br.of (fun _ N3 hN3=>?_) fun _ N3 hN3=>last hcu a c h N3 (by omega)
 exact wu hcu 2 (by omega) a c h N3 _ fun b a1 es1 c1 i1 h1 N4 hN4 hc1 _ _=>Br.of (fun _ N5 hN5=>yY tInt x hx (by decide) N5 _ fun y N6 hN6 hy _ _ _=>⟨zS,fun N7 hN7=>hQ _ _ _ _ _ _ _ (by omega) hc1 ⟨_,.code .int,hy,by decide⟩⟩) fun _ N5 hN5=>last hc1 a1 c1 h1 N5 (by omega)
/-- what l9Gen does at this depth: terms of at most S nodes -/
def zI2 (k S:Nat):Prop:=∀ (t:Ty) (_:Wf t) (_:t.cnt+k<=20) {d:D} (_:t.Is d) {g:List Tg} {es0:List D} (_:Ctx g es0) (_:g.length+k<=1000) (_:∀ x∈g,x.ty.cnt<=1000) (n:Int) (a0:Option Addr) (c0:Nat) {es:List D} {i:Int} (_:Cu es i) (a:Option Addr) (c:Nat) (h:Int) (N:Nat) (Q:QT [.ag 9,.sl 0,.int .i64,.int .i64])
    (_:∀ d' a' es' c' i' h' N',N<=N'->Cu es' i'->Some S d'->Q d' a' es' c' i' h' N'),
    BCalls prog 92 [.ag 9,.sl 0,.int .i64,.int .i64] [.pb 0 0 0 0,.sv a0 4 es0 c0,.dg 2 d,.int .i64 n,.int .i64 k] [.var [.sv a 0 es c,.int .i64 i,.int .i64 h]] N Q
theorem zIH {m:Nat} {x y:D} (hx:Some m x) (hy:Some m y):∀ d∈[x,y],Some m d:=fun d hd=>by
 simp only [oG,nD,mP] at hd
 rcases hd with rfl | rfl<;>assumption
theorem zAt {m:Nat} {x:D} (hx:Some m x):∀ d∈[x],Some m d:=fun d hd=>by rw [oh] at hd;subst hd;exact hx
theorem wN {l:List ByteArray} {s:ByteArray} (h:s∈l) (hl:(l.all fun s=>decide (s.size<=1000))=true):s.size<=1000:=by
 have:=oU.1 hl s h
 simpa using this
theorem zOh {k S:Nat} (hk:k<=15) (hS:S<=100000000) (hG:zI2 k S) {t:Ty} {d:D} (hd:t.Is d) {g:List Tg} {es0:List D} (ctx:Ctx g es0) (hg:g.length+k<=1000) (hgc:∀ x∈g,x.ty.cnt<=1000) (n:Int) (a0:Option Addr) (c0:Nat) {es:List D} {i:Int} (hcu:Cu es i) (a:Option Addr) (c:Nat) (h:Int) (N:Nat) (Q:QT [.ag 9,.sl 0,.int .i64,.int .i64])
  (hQ:∀ d' a' es' c' i' h' N',N<=N'->Cu es' i'->Some (3+2*S) d'->Q d' a' es' c' i' h' N') :
  BCalls prog 160 [.ag 9,.sl 0,.int .i64,.int .i64] [.pb 0 0 0 0,.sv a0 4 es0 c0,.dg 2 d,.int .i64 n,.int .i64 ((k+1:Nat):Int)] [.var [.sv a 0 es c,.int .i64 i,.int .i64 h]] N Q:=by
 obtain ⟨kt,l,rfl⟩:∃ k l,t=Ty.mk k l:=by cases t;exact ⟨_,_,rfl⟩
 obtain ⟨ta,tes,tc,rfl,_,_⟩:=Ty.is_mk.1 hd
 have ek:IntKind.i64.wrap (((k+1:Nat):Int) - 1)=(k:Int):=by rw [i64_in _ (by omega)];omega
 have ci:tInt.cnt+k<=20:=by have:tInt.cnt=1:=rfl;omega
 have cb:tBool.cnt+k<=20:=by have:tBool.cnt=1:=rfl;omega
 refine zAB N a0 es0 c0 _ n _ a es c i h Q fun E _ _ _ N1 hN1=>yz N1 _ fun x N2 hN2 hx _ _ _ N3 hN3=>y7 N3 _ fun y N4 hN4 hy _ _ _=>⟨kt,rfl,?_⟩
 rw [ek]
 have bin:∀ {u:Ty} {z:D} (_:Wf u) (_:u.cnt+k<=20) (_:u.Is z) {s:ByteArray} (_:s.size<=1000) {es:List D} {i:Int} (_:Cu es i) a c h N5,N4<=N5->BCalls prog 92 [.ag 9,.sl 0,.int .i64,.int .i64] [.pb 0 0 0 0,.sv a0 4 es0 c0,.dg 2 z,.int .i64 n,.int .i64 k] [.var [.sv a 0 es c,.int .i64 i,.int .i64 h]] N5 (fun x_2 a_2 es_2 c_2 n_3 n_4 N8=>N5<=N8->Bel N8 x_2->Bel N8 (D.sl a_2 0 es_2 c_2)->∀ N9,N8<=N9->BCalls prog 92 [.ag 9,.sl 0,.int .i64,.int .i64] [.pb 0 0 0 0,.sv
   a0 4 es0 c0,.dg 2 z,.int .i64 n,.int .i64 k] [Bx.var [.sv a_2 0 es_2 c_2,.int .i64 n_3,.int .i64 n_4]] N9 (fun x_3 a_3 es_3 c_3 n_5
   n_6 N10=>N9<=N10->Bel N10 x_3->Bel N10 (D.sl a_3 0 es_3 c_3)->(2=([x_2,x_3]).length/\2=2)/\∀ a_4,ApA a_4 [x_2,x_3]->∀ N11,N10<=N11->vQ
   N11 [a_4]->ACalls prog 187 [.ag 9] [.str s,.sv a_4 9 [x_2,x_3] 2] N11 (fun x_4 N12=>N11<=N12->Off [a_4] x_4/\(Bel N12 x_4->zP E [.var [.sv none
   0 [] 0,.int .i64 0,.int .i64 0]]/\∀ N13,N12<=N13->Q x_4 a_3 es_3 c_3 n_5 n_6 N13)))):=fun {u z} hw hc hz {s} hs {es i} hcu a c h N5 hN5=>
  hG _ hw hc hz ctx hg hgc n a0 c0 hcu a c h N5 _ fun x2 a2 es2 c2 i2 h2 N6 hN6 hc2 hx2 _ _ _ N7 hN7=>hG _ hw hc hz ctx hg hgc n a0 c0 hc2 a2 c2 h2 N7 _ fun x3 a3 es3 c3 i3 h3 N8 hN8 hc3 hx3 _ _ _=>⟨⟨rfl,rfl⟩,fun a4 _ N9 hN9 hbel=>zPZ (by omega) (by omega) (zIH hx2 hx3) (by simp) a4 2 N9 _ fun w N10 hN10 hw ho _=>⟨xV hbel ho,fun _=>⟨zS,fun N11 hN11=>hQ _ _ _ _ _ _ _ (by omega) hc3 (hw.mono (by simp))⟩⟩⟩
 refine Br.of (fun _ N5 hN5=>?_) fun _ N5 hN5=>?_
 ·exact vh (l:=[bytes [43],bytes [42],bytes [45],bytes [43]]) hcu (by decide) (by decide) a c h 4 4 N5 _ fun s a1 es1 c1 i1 h1 N6 hN6 hc1 hs _ _ _ N7 hN7=>bin .int ci hx (wN hs (by decide)) hc1 a1 c1 h1 N7 (by omega)
 ·refine zm hcu 4 (by omega) a c h N5 _ fun r a1 es1 c1 i1 h1 N6 hN6 hc1 _ _ _ _ _=>Br.of (fun _ N7 hN7=>?_) fun _=>Br.of (fun _ N7 hN7=>?_) fun _ N7 hN7=>?_
  ·exact hG _ .bool cb hy ctx hg hgc n a0 c0 hc1 a1 c1 h1 N7 _ fun x2 a2 es2 c2 i2 h2 N8 hN8 hc2 hx2 _ _ _=>⟨⟨rfl,rfl⟩,fun a4 _ N9 hN9 hbel=>zPZ (by decide) (by omega) (zAt hx2) (by simp) a4 1 N9 _ fun w N10 hN10 hw ho _=>⟨xV hbel ho,fun _=>⟨zS,fun N11 hN11=>hQ _ _ _ _ _ _ _ (by omega) hc2 (hw.mono (by simp;omega))⟩⟩⟩
  ·exact vh (l:=[bytes [38],bytes [124]]) hc1 (by decide) (by decide) a1 c1 h1 2 2 N7 _ fun s a2 es2 c2 i2 h2 N8 hN8 hc2 hs _ _ _ N9 hN9=>bin .bool cb hy (wN hs (by decide)) hc2 a2 c2 h2 N9 (by omega)
  ·exact vh (l:=[bytes [61],bytes [60]]) hc1 (by decide) (by decide) a1 c1 h1 2 2 N7 _ fun s a2 es2 c2 i2 h2 N8 hN8 hc2 hs _ _ _ N9 hN9=>bin .int ci hx (wN hs (by decide)) hc2 a2 c2 h2 N9 (by omega)
theorem zOD {t:Ty} (hw:Wf t):∀ {d:D} (_:t.Is d) (N:Nat) (Q:QT [.int .i64]) (_:∀ r N',N<=N'->Q r N'),ACalls prog 206 [.int .i64] [.dg 2 d] N Q:=by
 have zn:∀ {k:Int} {l:List Ty} {d:D} (_:(Ty.mk k l).Is d) (_:k≠4) (N:Nat) (Q:QT [.int .i64]) (_:∀ r N',N<=N'->Q r N'),ACalls prog 206 [.int .i64] [.dg 2 d] N Q:=fun {k l d} hd hk N Q hQ=>by
  obtain ⟨b,fs,c,rfl,_,_⟩:=Ty.is_mk.1 hd
  exact qP N _ Q fun _=>⟨k,rfl,Br.beq (fun h=>absurd h hk) fun _ N4 hN4=>hQ _ _ hN4⟩
 induction hw with
 | int=>exact fun hd=>zn hd (by decide)
 | bool=>exact fun hd=>zn hd (by decide)
 | fn _ _ _ _=>exact fun hd=>zn hd (by decide)
 | @code u _ ih=>
   intro d hd N Q hQ
   obtain ⟨b,fs,c,rfl,_,d1,_,rfl,h3,rfl⟩:=Ty.is_mk.1 hd
   exact qP N _ Q fun _=>⟨4,rfl,Br.beq (fun _=>⟨_,_,_,rfl,⟨by simp,by simp⟩,fun N1 hN1=>ih h3 N1 _ fun r N2 hN2 _ N3 hN3=>hQ _ _ (by omega)⟩) fun h=>absurd rfl h⟩
theorem zII {g:List Tg} {m M:Nat} (hg:g.length+m<=M) (hgc:∀ x∈g,x.ty.cnt<=1000) (n:Int):(xA g n).length+m<=M/\∀ x∈xA g n,x.ty.cnt<=1000:=by
 have h:=sR g n g 0
 exact ⟨by have h2:=h.2;show (yB g n g 0).length+m<=M;omega,fun x hx=>hgc x (h.1 x hx)⟩
theorem zEr {g:List Tg} {k:Nat} (hg:g.length+(k+1)<=1000) (hgc:∀ x∈g,x.ty.cnt<=1000) {y:Tg} (hy:y.ty.cnt<=1000):(g++[y]).length+k<=1000/\∀ x∈g++[y],x.ty.cnt<=1000:=by
 refine ⟨by simp;omega,fun x hx=>?_⟩
 rcases oK.1 hx with hx | hx
 ·exact hgc x hx
 ·rw [oh] at hx;subst hx;exact hy
theorem zO6 {k S:Nat} (hk:k<=15) (h100:100<=S) (hS:S<=100000000) (hG:zI2 k S) {t:Ty} (hw:Wf t) (hc:t.cnt+(k+1)<=20) {d:D} (hd:t.Is d) {g:List Tg} {es0:List D} (ctx:Ctx g es0) (hg:g.length+(k+1)<=1000) (hgc:∀ x∈g,x.ty.cnt<=1000) (n:Int) (a0:Option Addr) (c0:Nat) {es:List D} {i:Int} (hcu:Cu es i) (a:Option Addr) (c:Nat) (h:Int) (N:Nat) (Q:QT [.ag 9,.sl 0,.int .i64,.int .i64])
  (hQ:∀ d' a' es' c' i' h' N',N<=N'->Cu es' i'->Some (4*S) d'->Q d' a' es' c' i' h' N') :
  BCalls prog 159 [.ag 9,.sl 0,.int .i64,.int .i64] [.pb 0 0 0 0,.sv a0 4 es0 c0,.dg 2 d,.int .i64 n,.int .i64 ((k+1:Nat):Int)] [.var [.sv a 0 es c,.int .i64 i,.int .i64 h]] N Q:=by
 have ek:IntKind.i64.wrap (((k+1:Nat):Int) - 1)=(k:Int):=by rw [i64_in _ (by omega)];omega
 have cb:tBool.cnt+k<=20:=by have:tBool.cnt=1:=rfl;omega
 have cc:(wg t).cnt+k<=20:=by have:(wg t).cnt=1+(t.cnt+0):=rfl;omega
 have hg':g.length+k<=1000:=by omega
 have e3:∀ x y z:D,∀ {m:Nat},Some m x->Some m y->Some m z->∀ d∈[x,y,z],Some m d:=fun x y z m hx hy hz d hd=>by
  simp only [oG,nD,mP] at hd
  rcases hd with rfl | rfl | rfl<;>assumption
 refine zBD N a0 es0 c0 d n _ a es c i h Q fun E _ _ _ N1 hN1=>vh (l:=[bytes [120],bytes [121],bytes [122]]) hcu (by decide) (by decide) a c h 3 3 N1 _ fun s a1 es1 c1 i1 h1 N2 hN2 hc1 hs _ _ _ N3 hN3=>zm hc1 5 (by omega) a1 c1 h1 N3 _ fun r a2 es2 c2 i2 h2 N4 hN4 hc2 _ _ _ _ _=>?_
 have hs:=wN hs (by decide)
 rw [ek]
 have small:∀ N5,N4<=N5->BCalls prog 158 [.ag 9,.sl 0,.int .i64,.int .i64] [.pb 0 0 0 0,.dg 2 d,.int .i64 n] [.var [.sv a2 0 es2 c2,.int .i64 i2,.int .i64 h2]] N5 (fun x a es c n_1 n_2 N6=>N5<=N6->Bel N6 x->Bel N6 (D.sl a 0 es c)->zP E [.var [.sv none 0 [] 0,.int .i64 0,.int .i64 0]]/\∀ N7,N6<=N7->Q x a es c n_1 n_2 N7):=fun N5 hN5=>
  zHP hw (by omega) hd n hc2 a2 c2 h2 N5 _ fun x a3 es3 c3 i3 h3 N6 hN6 hc3 hx _ _ _=>⟨zS,fun N7 hN7=>hQ _ _ _ _ _ _ _ (by omega) hc3 (hx.mono (by omega))⟩
 have nod:∀ (kk:Int) {x:D} (_:Some S x) {es:List D} {i:Int} (_:Cu es i) a c h N5,N4<=N5->(1=([x]).length/\1=1)/\∀ a_2,ApA a_2 [x]->∀ N6,N5<=N6->vQ N6 [a_2]->ACalls prog 123 [.ag 9] [.int .i64 kk,.sv a_2 9 [x] 1] N6 (fun x_1 N7=>N6<=N7->Off [a_2] x_1/\(Bel N7 x_1->zP E [.var [.sv none 0 [] 0,.int .i64 0,.int .i64 0]]/\∀ N8,N7<=N8->Q x_1 a es c i h N8)):=fun kk {x} hx {es i} hcu a c h N5 hN5=>
  ⟨⟨rfl,rfl⟩,fun a4 _ N9 hN9 hbel=>zDi kk (by omega) (zAt hx) (by simp) a4 1 N9 _ fun w N10 hN10 hw ho _=>⟨xV hbel ho,fun _=>⟨zS,fun N11 hN11=>hQ _ _ _ _ _ _ _ (by omega) hcu (hw.mono (by simp;omega))⟩⟩⟩
 refine Br.of (fun _ N5 hN5=>?_) fun _=>Br.of (fun _ N5 hN5=>?_) fun _=>Br.of (fun _ N5 hN5=>?_) fun _=>Br.of (fun _ N5 hN5=>?_) fun _=>Br.of (fun _ N5 hN5=>?_) fun _ N5 hN5=>small N5 hN5
 ·refine y7 N5 _ fun y N6 hN6 hy _ _ _ N7 hN7=>hG _ .bool cb hy ctx hg' hgc n a0 c0 hc2 a2 c2 h2 N7 _ fun x1 a3 es3 c3 i3 h3 N8 hN8 hc3 hx1 _ _ _ N9 hN9=>hG _ hw (by omega) hd ctx hg' hgc n a0 c0 hc3 a3 c3 h3 N9 _ fun x2 a4 es4 c4 i4 h4 N10 hN10 hc4 hx2 _ _ _ N11 hN11=>hG _ hw (by omega) hd ctx hg' hgc n a0 c0 hc4 a4 c4 h4 N11 _ fun x3 a5 es5 c5 i5 h5 N12 hN12 hc5 hx3 _ _ _=>⟨⟨rfl,rfl⟩,fun a6 _ N13 hN13 hbel=>?_⟩
  exact zDi 5 (by omega) (e3 x1 x2 x3 hx1 hx2 hx3) (by simp) a6 3 N13 _ fun w N14 hN14 hw ho _=>⟨xV hbel ho,fun _=>⟨zS,fun N15 hN15=>hQ _ _ _ _ _ _ _ (by omega) hc5 (hw.mono (by simp;omega))⟩⟩
 ·refine zJ7 n hc2 a2 c2 h2 N5 _ fun y a3 es3 c3 i3 h3 N6 hN6 hc3 hy _ _ _ N7 hN7=>?_
  obtain ⟨u,hu,hud,huc⟩:=hy
  refine hG _ hu (by omega) hud ctx hg' hgc n a0 c0 hc3 a3 c3 h3 N7 _ fun x6 a4 es4 c4 i4 h4 N8 hN8 hc4 hx6 _ _ _ N9 hN9=>?_
  refine z5 ctx (by omega) a0 c0 (s:=s) (by omega) hud n N9 _ fun a5 es5 c5 N10 hN10 ctx2 _ _ N11 hN11=>?_
  obtain ⟨g2,g3⟩:=zEr hg hgc (y:=⟨s,u,n⟩) (by show u.cnt<=1000;omega)
  exact hG _ hw (by omega) hd ctx2 g2 g3 n a5 c5 hc4 a4 c4 h4 N11 _ fun x7 a6 es6 c6 i6 h6 N12 hN12 hc6 hx7 _ _ _ N13 hN13=>zO4 (by omega) (by omega) hx6 hx7 N13 _ fun x8 N14 hN14 hx8 _ _=>⟨zS,fun N15 hN15=>hQ _ _ _ _ _ _ _ (by omega) hc6 (hx8.mono (by omega))⟩
 ·refine zJ7 n hc2 a2 c2 h2 N5 _ fun y a3 es3 c3 i3 h3 N6 hN6 hc3 hy _ _ _ N7 hN7=>?_
  obtain ⟨u,hu,hud,huc⟩:=hy
  refine z5 ctx (by omega) a0 c0 (s:=s) (by omega) hud n N7 _ fun a5 es5 c5 N8 hN8 ctx2 _ _ N9 hN9=>?_
  obtain ⟨g2,g3⟩:=zEr hg hgc (y:=⟨s,u,n⟩) (by show u.cnt<=1000;omega)
  refine hG _ hw (by omega) hd ctx2 g2 g3 n a5 c5 hc3 a3 c3 h3 N9 _ fun x10 a6 es6 c6 i6 h6 N10 hN10 hc6 hx10 _ _ _ N11 hN11=>zNp (by omega) hud (by omega) (by omega) hx10 N11 _ fun x11 N12 hN12 hx11 _ _ N13 hN13=>?_
  exact hG _ hu (by omega) hud ctx hg' hgc n a0 c0 hc6 a6 c6 h6 N13 _ fun x12 a7 es7 c7 i7 h7 N14 hN14 hc7 hx12 _ _ _=>⟨⟨rfl,rfl⟩,fun a8 _ N15 hN15 hbel=>zDi 7 (m:=5+S) (by omega) (zIH (hx11.mono (by omega)) (hx12.mono (by omega))) (by simp) a8 2 N15 _ fun w N16 hN16 hw ho _=>⟨xV hbel ho,fun _=>⟨zS,fun N17 hN17=>hQ _ _ _ _ _ _ _ (by omega) hc7 (hw.mono (by simp;omega))⟩⟩⟩
 ·refine zOD hw hd N5 _ fun r2 N6 hN6 _=>Br.of (fun _ N7 hN7=>?_) fun _=>Br.of (fun _ N7 hN7=>?_) fun _ N7 hN7=>small N7 (by omega)
  ·refine wW ctx (by omega) (fun x hx=>oW (hgc x hx) (by omega)) a0 c0 n N7 _ fun a3 es3 c3 N8 hN8 ctx2 _ _ N9 hN9=>?_
   obtain ⟨g2,g3⟩:=zII hg' hgc n
   refine yY t d hd (by omega) N9 _ fun y N10 hN10 hy _ _ _ N11 hN11=>?_
   exact hG _ (.code hw) cc hy ctx2 g2 g3 n a3 c3 hc2 a2 c2 h2 N11 _ fun x15 a4 es4 c4 i4 h4 N12 hN12 hc4 hx15 _ _ _=>nod 12 hx15 hc4 a4 c4 h4 N12 (by omega)
  ·refine yY t d hd (by omega) N7 _ fun y N8 hN8 hy _ _ _ N9 hN9=>?_
   exact hG _ (.code hw) cc hy ctx hg' hgc _ a0 c0 hc2 a2 c2 h2 N9 _ fun x15 a4 es4 c4 i4 h4 N12 hN12 hc4 hx15 _ _ _=>nod 11 hx15 hc4 a4 c4 h4 N12 (by omega)
 ·refine yY t d hd (by omega) N5 _ fun y N6 hN6 hy _ _ _ N7 hN7=>?_
  exact hG _ (.code hw) cc hy ctx hg' hgc _ a0 c0 hc2 a2 c2 h2 N7 _ fun x15 a4 es4 c4 i4 h4 N12 hN12 hc4 hx15 _ _ _=>nod 11 hx15 hc4 a4 c4 h4 N12 (by omega)
theorem zM9 (k:Nat) (hk:k<2):zI2 k 100:=by
 intro t hw hc d hd g es0 ctx hg hgc n a0 c0 es i hcu a c h N Q hQ
 refine t7 N a0 es0 c0 d n _ a es c i h Q fun E _ _ _ N1 hN1=>?_
 have L5:∀ {es:List D} {i:Int} (_:Cu es i) a c h N',N<=N'->xG E Q N a0 es0 c0 n k a es c i h d 0 (bytes []) (bytes []) 0 0 none [] 0 0 none [] 0 none [] 0 N':=fun {es i} hcu a c h N' hN'=>by
  refine s6 _ _ _ _ _ _ _ _ _ _ _ _ _ _ _ _ _ _ _ _ _ _ _ _ _ _ _ _ _ _ (Br.dec (fun _ N2 hN2=>?_) fun h=>by omega)
  exact zHP hw (by omega) hd n hcu a c h N2 _ fun x a3 es3 c3 i3 h3 N6 hN6 hc3 hx _ _ _=>⟨zS,fun N7 hN7=>hQ _ _ _ _ _ _ _ (by omega) hc3 (hx.mono (by omega))⟩
 exact wu hcu 3 (by omega) a c h N1 _ fun b a1 es1 c1 i1 h1 N2 hN2 hc1 _ _=>Br.of (fun _ N3 hN3=>zKn ctx (by omega) hd n a0 c0 hc1 a1 c1 h1 N3 _ fun x b2 a2 es2 c2 i2 h2 N4 hN4 hc2 hx _ _ _=>Br.of (fun _=>⟨zS,fun N5 hN5=>hQ _ _ _ _ _ _ _ (by omega) hc2 (hx.mono (by omega))⟩) fun _=>L5 hc2 a2 c2 h2 N4 (by omega)) fun _=>L5 hc1 a1 c1 h1 N2 (by omega)
theorem zIR {k S:Nat} (hk:k<=15) (h100:100<=S) (hS:S<=100000000) (hG:zI2 k S):zI2 (k+1) (4*S):=by
 intro t hw hc d hd g es0 ctx hg hgc n a0 c0 es i hcu a c h N Q hQ
 have ek:IntKind.i64.wrap (((k+1:Nat):Int) - 1)=(k:Int):=by rw [i64_in _ (by omega)];omega
 have hg':g.length+k<=1000:=by omega
 refine t7 N a0 es0 c0 d n _ a es c i h Q fun E _ _ _ N1 hN1=>?_
 have L18:∀ {u:Ty} (_:t=wg u) {es:List D} {i:Int} (_:Cu es i) a c h N',N<=N'->xw E Q N a0 es0 c0 n ((k+1:Nat):Int) a es c i h d 0 (bytes []) (bytes []) 0 0 none [] 0 0 none [] 0 none [] 0 N':=fun {u} hu {es i} hcu a c h N' hN'=>by
  subst hu
  obtain ⟨b,fs,kk,rfl,hfl,d1,_,rfl,h3,rfl⟩:=Ty.is_mk.1 hd
  have hcc:(wg u).cnt=1+(u.cnt+0):=rfl
  have hwu:Wf u:=by cases hw;assumption
  refine zBQ _ _ _ _ _ _ _ _ _ _ _ _ _ _ _ _ _ _ _ _ _ _ _ _ _ _ _ _ _ _ ⟨_,_,_,rfl,⟨by simp,by simp⟩,fun N2 hN2=>?_⟩
  rw [ek]
  exact hG _ hwu (by omega) h3 ctx hg' hgc _ a0 c0 hcu a c h N2 _ fun x a3 es3 c3 i3 h3 N3 hN3 hc3 hx _ _ _=>⟨⟨rfl,rfl⟩,fun a4 _ N4 hN4 hbel=>zDi 10 (by omega) (zAt hx) (by simp) a4 1 N4 _ fun w N5 hN5 hw ho _=>⟨xV hbel ho,fun _=>⟨zS,fun N6 hN6=>hQ _ _ _ _ _ _ _ (by omega) hc3 (hw.mono (by simp;omega))⟩⟩⟩
 have L5:∀ {es:List D} {i:Int} (_:Cu es i) a c h N',N<=N'->xG E Q N a0 es0 c0 n ((k+1:Nat):Int) a es c i h d 0 (bytes []) (bytes []) 0 0 none [] 0 0 none [] 0 none [] 0 N':=fun {es i} hcu a c h N' hN'=>by
  have base:∀ {es:List D} {i:Int} (_:Cu es i) a c h N9,N<=N9->BCalls prog 160 [.ag 9,.sl 0,.int .i64,.int .i64] [.pb 0 0 0 0,.sv a0 4 es0 c0,.dg 2 d,.int .i64 n,.int .i64 ((k+1:Nat):Int)] [.var [.sv a 0 es c,.int .i64 i,.int .i64 h]] N9 (fun x_2 a_3 es_3 c_3 n_7 n_8 N10=>N9<=N10->Bel N10 x_2->Bel N10 (D.sl a_3 0 es_3 c_3)->zP E [.var [.sv none 0 [] 0,.int .i64 0,.int .i64 0]]/\∀ N11,N10<=N11->Q x_2 a_3 es_3 c_3 n_7 n_8 N11):=fun {es i} hcu a c h N9 hN9=>
   zOh hk hS hG hd ctx hg' hgc n a0 c0 hcu a c h N9 _ fun x a3 es3 c3 i3 h3 N10 hN10 hc3 hx _ _ _=>⟨zS,fun N11 hN11=>hQ _ _ _ _ _ _ _ (by omega) hc3 (hx.mono (by omega))⟩
  refine s6 _ _ _ _ _ _ _ _ _ _ _ _ _ _ _ _ _ _ _ _ _ _ _ _ _ _ _ _ _ _ (Br.of (fun _ N2 hN2=>?_) fun _ N2 hN2=>wu hcu 3 (by omega) a c h N2 _ fun b a1 es1 c1 i1 h1 N3 hN3 hc1 _ _=>Br.of (fun _ N4 hN4=>?_) fun _=>?_)
  ·exact zHP hw (by omega) hd n hcu a c h N2 _ fun x a3 es3 c3 i3 h3 N6 hN6 hc3 hx _ _ _=>⟨zS,fun N7 hN7=>hQ _ _ _ _ _ _ _ (by omega) hc3 (hx.mono (by omega))⟩
  ·exact zO6 hk h100 hS hG hw hc hd ctx hg hgc n a0 c0 hc1 a1 c1 h1 N4 _ fun x a3 es3 c3 i3 h3 N5 hN5 hc3 hx _ _ _=>⟨zS,fun N6 hN6=>hQ _ _ _ _ _ _ _ (by omega) hc3 hx⟩
  ·cases hw with
   | int=>
     obtain ⟨b,fs,kk,rfl,_,_⟩:=Ty.is_mk.1 hd
     exact ⟨1,rfl,Br.of (fun _ N4 hN4=>base hc1 a1 c1 h1 N4 (by omega)) fun h=>by cases h⟩
   | bool=>
     obtain ⟨b,fs,kk,rfl,_,_⟩:=Ty.is_mk.1 hd
     exact ⟨2,rfl,Br.beq (fun h=>absurd h (by decide)) fun _=>Br.of (fun _ N4 hN4=>base hc1 a1 c1 h1 N4 (by omega)) fun h=>by cases h⟩
   | @fn u v hu hv=>
     obtain ⟨b,fs,kk,rfl,hfl,d1,_,rfl,h3,d2,_,rfl,h4,rfl⟩:=Ty.is_mk.1 hd
     have hcc:(wQ u v).cnt=1+(u.cnt+(v.cnt+0)):=rfl
     refine ⟨3,rfl,Br.beq (fun h=>absurd h (by decide)) fun _=>Br.beq (fun h=>absurd h (by decide)) fun _=>Br.beq (fun _ N4 hN4=>?_) fun h=>absurd rfl h⟩
     refine vh (l:=[bytes [120],bytes [121]]) hc1 (by decide) (by decide) a1 c1 h1 2 2 N4 _ fun s a2 es2 c2 i2 h2 N5 hN5 hc2 hs _ _ _=>⟨_,_,_,rfl,⟨by simp,by simp⟩,_,_,_,rfl,⟨by simp,by simp⟩,_,_,_,rfl,⟨by simp,by simp⟩,fun N6 hN6=>?_⟩
     have hs:=wN hs (by decide)
     rw [ek]
     refine z5 ctx (by omega) a0 c0 (s:=s) (by omega) h3 n N6 _ fun a5 es5 c5 N7 hN7 ctx2 _ _ N8 hN8=>?_
     obtain ⟨g2,g3⟩:=zEr hg hgc (y:=⟨s,u,n⟩) (by show u.cnt<=1000;omega)
     exact hG _ hv (by omega) h4 ctx2 g2 g3 n a5 c5 hc2 a2 c2 h2 N8 _ fun x a6 es6 c6 i6 h6 N9 hN9 hc6 hx _ _ _ N10 hN10=>zNp (by omega) h3 (by omega) (by omega) hx N10 _ fun y N11 hN11 hy _ _=>⟨zS,fun N12 hN12=>hQ _ _ _ _ _ _ _ (by omega) hc6 (hy.mono (by omega))⟩
   | @code u hu=>
     obtain ⟨b,fs,kk,rfl,hfl,d1,_,rfl,h3,rfl⟩:=Ty.is_mk.1 hd
     have hcc:(wg u).cnt=1+(u.cnt+0):=rfl
     refine ⟨4,rfl,Br.beq (fun h=>absurd h (by decide)) fun _=>Br.beq (fun h=>absurd h (by decide)) fun _=>Br.beq (fun h=>absurd h (by decide)) fun _=>⟨_,_,_,rfl,⟨by simp,by simp⟩,fun N4 hN4=>?_⟩⟩
     refine uR u _ h3 N4 _ fun N5 hN5 _=>Br.of (fun _ N6 hN6=>?_) fun _=>L18 rfl hc1 a1 c1 h1 N5 (by omega)
     refine wu hc1 4 (by omega) a1 c1 h1 N6 _ fun b2 a2 es2 c2 i2 h2 N7 hN7 hc2 _ _=>Br.of (fun _=>⟨_,_,_,rfl,⟨by simp,by simp⟩,fun N8 hN8=>?_⟩) fun _=>L18 rfl hc2 a2 c2 h2 N7 (by omega)
     rw [ek]
     exact hG _ hu (by omega) h3 ctx hg' hgc n a0 c0 hc2 a2 c2 h2 N8 _ fun x a3 es3 c3 i3 h3 N9 hN9 hc3 hx _ _ _=>⟨⟨rfl,rfl⟩,fun a4 _ N10 hN10 hbel=>zDi 13 (by omega) (zAt hx) (by simp) a4 1 N10 _ fun w N11 hN11 hw ho _=>⟨xV hbel ho,fun _=>⟨zS,fun N12 hN12=>hQ _ _ _ _ _ _ _ (by omega) hc3 (hw.mono (by simp;omega))⟩⟩⟩
 exact wu hcu 3 (by omega) a c h N1 _ fun b a1 es1 c1 i1 h1 N2 hN2 hc1 _ _=>Br.of (fun _ N3 hN3=>zKn ctx (by omega) hd n a0 c0 hc1 a1 c1 h1 N3 _ fun x b2 a2 es2 c2 i2 h2 N4 hN4 hc2 hx _ _ _=>Br.of (fun _=>⟨zS,fun N5 hN5=>hQ _ _ _ _ _ _ _ (by omega) hc2 (hx.mono (by omega))⟩) fun _=>L5 hc2 a2 c2 h2 N4 (by omega)) fun _=>L5 hc1 a1 c1 h1 N2 (by omega)
/-- terms of at most this depth -/
theorem zN3 {k:Nat} (hk:1<=k) (hk5:k<=5):zI2 k 25600:=by
 have up:∀ {k S T:Nat},zI2 k S->S<=T->zI2 k T:=fun h hST=>fun t hw hc {d} hd {g es0} ctx hg hgc n a0 c0 {es i} hcu a c h' N Q hQ=>h t hw hc hd ctx hg hgc n a0 c0 hcu a c h' N Q fun d' a' es' c' i' h'' N' h1 h2 h3=>hQ d' a' es' c' i' h'' N' h1 h2 (h3.mono hST)
 have h1:zI2 1 100:=zM9 1 (by omega)
 have h2:zI2 2 400:=zIR (by omega) (by omega) (by omega) h1
 have h3:zI2 3 1600:=zIR (by omega) (by omega) (by omega) h2
 have h4:zI2 4 6400:=zIR (by omega) (by omega) (by omega) h3
 have h5:zI2 5 25600:=zIR (by omega) (by omega) (by omega) h4
 rcases (by omega:k=1\/k=2\/k=3\/k=4\/k=5) with rfl | rfl | rfl | rfl | rfl
 ·exact up (k:=1) (S:=100) (T:=25600) h1 (by omega)
 ·exact up (k:=2) (S:=400) (T:=25600) h2 (by omega)
 ·exact up (k:=3) (S:=1600) (T:=25600) h3 (by omega)
 ·exact up (k:=4) (S:=6400) (T:=25600) h4 (by omega)
 ·exact up (k:=5) (S:=25600) (T:=25600) h5 (by omega)
end Go.Proofs.YtkdjhkfiolhkiaaGreat
set_option maxRecDepth 100000
namespace Go.Proofs.YtkdjhkfiolhkiaaGreat
open Go Go.Proofs Go.Proofs.Tryz Go.IntWalk
theorem zMF {es:List D} {i:Int} (hcu:Cu es i) (a:Option Addr) (c:Nat) (h:Int) (N:Nat) (Q:QT [.ag 9,.sl 0,.int .i64,.int .i64])
  (hQ:∀ d' a' es' c' i' h' N',N<=N'->Cu es' i'->Some 2100000 d'->Q d' a' es' c' i' h' N'):BCalls prog 150 [.ag 9,.sl 0,.int .i64,.int .i64] [.pb 0 0 0 0] [.var [.sv a 0 es c,.int .i64 i,.int .i64 h]] N Q:=by
 refine qE N a es c i h Q fun E _ N1 hN1=>vh (l:=[_,_,_,_,_,_,_,_,_,_,_]) hcu (by simp) (by simp) a c h 11 11 N1 _ fun s a1 es1 c1 i1 h1 N2 hN2 hc1 hs _ _ _ N3 hN3=>?_
 have hs:=wN hs (by decide)
 exact zMq hs N3 _ fun d b N4 hN4 hd _ _=>⟨zS,fun N5 hN5=>hQ _ _ _ _ _ _ _ (by omega) hc1 hd⟩
theorem zPE {l:List D} (h:∀ d∈l,WfD 5 d) {j:Nat} (hj:j<l.length):WfD 5 (l.getD j default):=h _ (zD8 hj)
theorem zH5 {es:List D} {i:Int} (hcu:Cu es i) (a:Option Addr) (c:Nat) (h:Int) (N:Nat) (Q:QT [.ag 9,.sl 0,.int .i64,.int .i64])
  (hQ:∀ d' a' es' c' i' h' N',N<=N'->Cu es' i'->Some 2100000 d'->Q d' a' es' c' i' h' N'):BCalls prog 88 [.ag 9,.sl 0,.int .i64,.int .i64] [.pb 0 0 0 0] [.var [.sv a 0 es c,.int .i64 i,.int .i64 h]] N Q:=by
 refine rW N a es c i h Q fun E _ N1 hN1=>wu hcu 4 (by omega) a c h N1 _ fun b a1 es1 c1 i1 h1 N2 hN2 hc1 _ _=>Br.of (fun _ N3 hN3=>zMF hc1 a1 c1 h1 N3 _ fun d a2 es2 c2 i2 h2 N4 hN4 hc2 hd _ _ _=>⟨zS,fun N5 hN5=>hQ _ _ _ _ _ _ _ (by omega) hc2 hd⟩) fun _ N3 hN3=>?_
 have cd:∀ {t:Ty} {d:D} (_:t.Is d) (_:t.cnt<=100) (N:Nat) (Q:QT [.ag 2]) (_:∀ d' N',N<=N'->(wg t).Is d'->Q d' N'),ACalls prog 152 [.ag 2] [.dg 2 d] N Q:=fun {t d} ht hc N Q hQ=>yY t d ht (by omega) N _ fun e N' h he _=>hQ e N' h he
 have ii:(wQ tInt tInt).cnt<=100:=by decide
 refine yz N3 _ fun x1 N4 hN4 k1 _ _ _ N5 hN5=>y7 N5 _ fun x2 N6 hN6 k2 _ _ _ N7 hN7=>cd k1 (by decide) N7 _ fun x3 N8 hN8 k3 _ _ N9 hN9=>yX tInt tInt x1 x1 k1 k1 (by decide) (by decide) N9 _ fun x4 N10 hN10 k4 _ _ _ N11 hN11=>cd k4 ii N11 _ fun x5 N12 hN12 k5 _ _ N13 hN13=>yX tInt tInt x1 x1 k1 k1 (by decide) (by decide) N13 _ fun x6 N14 hN14 k6 _ _ _ N15 hN15=>cd k1 (by decide) N15 _ fun x7 N16 hN16 k7 _ _ N17 hN17=>cd k7 (by decide) N17 _ fun x8 N18 hN18 k8 _ _ N19 hN19=>cd k1 (by decide) N19 _ fun x9 N20 hN20 k9 _ _ N21 hN21=>?_
 refine zm hc1 8 (by omega) a1 c1 h1 N21 _ fun r a2 es2 c2 i2 h2 N22 hN22 hc2 r0 r8 _ _ _=>?_
 have r8:=r8 (by omega)
 have hall:∀ d∈[x1,x2,x3,x5,x6,x8,x1,x9],WfD 5 d:=fun d hd=>by
  simp only [oG,nD,mP] at hd
  rcases hd with rfl | rfl | rfl | rfl | rfl | rfl | rfl | rfl
  ·exact ⟨_,.int,k1,by decide⟩
  ·exact ⟨_,.bool,k2,by decide⟩
  ·exact ⟨_,.code .int,k3,by decide⟩
  ·exact ⟨_,.code (.fn .int .int),k5,by decide⟩
  ·exact ⟨_,.fn .int .int,k6,by decide⟩
  ·exact ⟨_,.code (.code .int),k8,by decide⟩
  ·exact ⟨_,.int,k1,by decide⟩
  ·exact ⟨_,.code .int,k9,by decide⟩
 have hlt:0+r.toNat<[x1,x2,x3,x5,x6,x8,x1,x9].length:=by simp;omega
 refine ⟨⟨r0,r8,hlt⟩,hlt,fun N23 hN23=>zm hc2 3 (by omega) a2 c2 h2 N23 _ fun q a3 es3 c3 i3 h3 N24 hN24 hc3 q0 q3 _ _ _=>⟨⟨rfl,rfl⟩,fun a4 N25 hN25 _ N26 hN26=>?_⟩⟩
 have q3:=q3 (by omega)
 obtain ⟨t,hw,ht,htc⟩:=zPE hall hlt
 have e:IntKind.i64.wrap (3+q)=((3+q).toNat:Int):=by rw [i64_in _ (by omega)];omega
 rw [e]
 exact zN3 (k:=(3+q).toNat) (by omega) (by omega) t hw (by omega) ht (g:=[]) ⟨by simp,rfl⟩ (by simp;omega) (by simp) 0 a4 0 hc3 a3 c3 h3 N26 _ fun d a5 es5 c5 i5 h5 N27 hN27 hc5 hd _ _ _=>⟨zS,fun N28 hN28=>hQ _ _ _ _ _ _ _ (by omega) hc5 (hd.mono (by omega))⟩
/-- some context of few typings of small types -/
def zOK (es:List D):Prop:=∃ g:List Tg,Ctx g es/\g.length<=13/\∀ x∈g,x.ty.cnt<=3
theorem zMm {es:List D} {i:Int} (hcu:Cu es i) (a:Option Addr) (c:Nat) (h:Int) (N:Nat) (Q:QT [.sl 4,.sl 0,.int .i64,.int .i64])
  (hQ:∀ a1 e1 c1 a' es' c' i' h' N',N<=N'->Cu es' i'->zOK e1->Q a1 e1 c1 a' es' c' i' h' N'):BCalls prog 89 [.sl 4,.sl 0,.int .i64,.int .i64] [.pb 0 0 0 0] [.var [.sv a 0 es c,.int .i64 i,.int .i64 h]] N Q:=by
 refine zAS N a es c i h Q fun E _ N1 hN1=>zm hcu 5 (by omega) a c h N1 _ fun n a1 es1 c1 i1 h1 N2 hN2 hc1 n0 n5 _ _ _ N3 hN3=>wu hc1 16 (by omega) a1 c1 h1 N3 _ fun b a2 es2 c2 i2 h2 N4 hN4 hc2 _ _=>?_
 have n5:=n5 (by omega)
 have L11:∀ (n:Int) (g:List Tg) (r:List D) (q:Nat) {es:List D} {i:Int} (_:Cu es i) a c h N',N<=N'->All2 Tg.Is g r->g.length<=13->(∀ x∈g,x.ty.cnt<=3)->(0<n->0<g.length)->yf E Q N r.length q n a es c i h r q N':=fun n g r q {es i} hcu a c h N' hN' hg hgl hgc hn=>by
  have hrl:=hg.len
  have out:zOK r:=⟨g,⟨by omega,hg⟩,hgl,hgc⟩
  refine zAO _ _ _ _ _ _ _ _ _ _ _ _ _ _ (Br.dec (fun h0 N5 hN5=>wu hcu 8 (by omega) a c h N5 _ fun b a3 es3 c3 i3 h3 N6 hN6 hc3 _ _=>Br.of (fun _=>?_) fun _=>⟨⟨rfl,rfl⟩,⟨rfl,rfl⟩,⟨rfl,rfl⟩,fun a4 N7 hN7 _=>⟨zS,fun N8 hN8=>hQ _ _ _ _ _ _ _ _ _ (by omega) hc3 out⟩⟩) fun _=>⟨⟨rfl,rfl⟩,⟨rfl,rfl⟩,⟨rfl,rfl⟩,fun a4 N7 hN7 _=>⟨zS,fun N8 hN8=>hQ _ _ _ _ _ _ _ _ _ (by omega) hcu out⟩⟩)
  have hp:=hn h0
  obtain ⟨y,g',rfl⟩:∃ y g',g=y::g':=by
   cases g with
   | nil=>simp at hp
   | cons y g'=>exact ⟨y,g',rfl⟩
  obtain ⟨d,ds,rfl,⟨t0,t1,rfl,hnm,hty⟩,hall⟩:=hg
  have out2:zOK (D.ag [.lit (.string (bytes [108,101,116])),t0,t1,.lit (.int .i64 y.lv)]::ds):=⟨⟨bytes [108,101,116],y.ty,y.lv⟩::g',⟨by have:=hall.len;simp at hgl ⊢;omega,⟨_,_,rfl,⟨t0,t1,rfl,by show (bytes [108,101,116]).size<=_;decide,hty⟩,hall⟩⟩,by simpa using hgl,by simpa using hgc⟩
  refine ⟨⟨by omega,by simp,by simp⟩,by simp,⟨by simp,rfl⟩,⟨by simp,rfl⟩,⟨by simp,rfl⟩,⟨by simp,rfl⟩,fun a4 N7 hN7 _=>⟨zS,fun N8 hN8=>?_⟩⟩
  exact hQ _ _ _ _ _ _ _ _ _ (by omega) hc3 (by simpa [v5,D.cells] using out2)
 have L6:∀ (n:Int),0<=n->n<=13->∀ (m:Nat) (k:Int) (g:List Tg) (r:List D) (q:Nat) {es:List D} {i:Int} (_:Cu es i) a c h N',k+m=n->0<=k->N<=N'->All2 Tg.Is g r->(g.length:Int)=k->(∀ x∈g,x.ty.cnt<=3)->yy E Q N r.length q n k a es c i h r q N':=by
  intro n hn0 hn m
  induction m with
  | zero=>
    intro k g r q es i hcu a c h N' hk hk0 hN' hg hgl hgc
    refine tR _ _ _ _ _ _ _ _ _ _ _ _ _ _ _ (Br.dec (fun h=>by omega) fun _=>Br.dec (fun h0 N5 hN5=>wu hcu 8 (by omega) a c h N5 _ fun b a3 es3 c3 i3 h3 N6 hN6 hc3 _ _=>Br.of (fun _ N7 hN7=>?_) fun _=>L11 n g r q hc3 a3 c3 h3 N6 (by omega) hg (by omega) hgc (by omega)) fun h0=>L11 n g r q hcu a c h N' hN' hg (by omega) hgc (by omega))
    refine wh (l:=[-1,3]) hc3 (by decide) (by decide) a3 c3 h3 2 2 N7 _ fun w a4 es4 c4 i4 h4 N8 hN8 hc4 _ _ _ _=>?_
    obtain ⟨y,g',rfl⟩:∃ y g',g=y::g':=by
     cases g with
     | nil=>simp at hgl;omega
     | cons y g'=>exact ⟨y,g',rfl⟩
    obtain ⟨d,ds,rfl,⟨t0,t1,rfl,hnm,hty⟩,hall⟩:=hg
    refine ⟨⟨by omega,by simp,by simp⟩,by simp,?_⟩
    have:=L11 n (⟨y.nm,y.ty,w⟩::g') (D.ag [.lit (.string y.nm),t0,t1,.lit (.int .i64 w)]::ds) q hc4 a4 c4 h4 N8 (by omega) ⟨_,_,rfl,⟨t0,t1,rfl,hnm,hty⟩,hall⟩ (by simp at hgl ⊢;omega) (by simpa using hgc) (by simp)
    simpa [v5,D.cells] using this
  | succ m ih=>
    intro k g r q es i hcu a c h N' hk hk0 hN' hg hgl hgc
    have hrl:=hg.len
    refine tR _ _ _ _ _ _ _ _ _ _ _ _ _ _ _ (Br.dec (fun _ N5 hN5=>?_) fun h=>by omega)
    refine vh (l:=[bytes [120],bytes [121],bytes [102],bytes [120]]) hcu (by decide) (by decide) a c h 4 4 N5 _ fun s a3 es3 c3 i3 h3 N6 hN6 hc3 hs _ _ _ N7 hN7=>?_
    have hs:=wN hs (by decide)
    refine zN8 2 (by omega) hc3 a3 c3 h3 N7 _ fun x a4 es4 c4 i4 h4 N8 hN8 hc4 hx _ _ _ N9 hN9=>zm hc4 3 (by omega) a4 c4 h4 N9 _ fun v a5 es5 c5 i5 h5 N10 hN10 hc5 _ _ _ _ _=>⟨⟨rfl,rfl⟩,by unfold zA;rw [oH];simp only [oN,oP];omega,fun c6=>?_⟩
    obtain ⟨t,hw,ht,htc⟩:=hx
    rw [i64_in (k+1) (by omega)]
    exact ih (k+1) (g++[⟨s,t,v⟩]) _ c6 hc5 a5 c5 h5 N10 (by omega) (by omega) (by omega) (hg.snoc (t:=(⟨s,t,v⟩:Tg)) ⟨_,_,rfl,by show s.size<=_;omega,Ty.is_cells ht⟩) (by simp;omega) fun z hz=>by
     rcases oK.1 hz with hz | hz
     ·exact hgc z hz
     ·rw [oh] at hz;subst hz;exact htc
 exact Br.of (fun _=>L6 13 (by omega) (by omega) 13 0 [] [] 0 hc2 a2 c2 h2 N4 (by omega) (by omega) (by omega) rfl rfl (by simp)) fun _=>L6 n n0 (by omega) n.toNat 0 [] [] 0 hc2 a2 c2 h2 N4 (by omega) (by omega) (by omega) rfl rfl (by simp)
end Go.Proofs.YtkdjhkfiolhkiaaGreat
