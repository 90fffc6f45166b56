/- Drawing: texts of types and terms, roughly: some string, not too long. -/
import Derived.Test.YtnmnahkkcfghjaaGreatKp
import Derived.Test.YtnmnahkkcfghjaaGreatC1
import Derived.Test.YtnmnahkkcfghjaaGreatA5
set_option linter.unusedVariables false
set_option linter.unusedSimpArgs false
set_option maxRecDepth 100000
namespace Go.Proofs.YtnmnahkkcfghjaaGreat
open Go Go.Proofs Go.Proofs.Tryz Go.IntWalk
/-- some string of at most this many letters -/
def zSF (f:FuncId) (args:List PV) (P:ByteArray->Prop):Prop:=∀ (N:Nat) (Q:QT [.str]),(∀ s N',N<=N'->P s->Q s N')->ACalls prog f [.str] args N Q
def zTH (f:FuncId) (args:List PV) (n:Nat):Prop:=∀ (N:Nat) (Q:QT [.str]),(∀ s N',N<=N'->s.size<=n->Q s N')->ACalls prog f [.str] args N Q
theorem zFr (l:List Int):∀ b:ByteArray,(l.foldl (λr n=>r.push (UInt8.ofNat n.toNat)) b).size=b.size+l.length:=by
 induction l with
 | nil=>intro b;simp
 | cons x l I=>intro b;simp only [List.foldl_cons,I,ByteArray.size_push,oO];omega
theorem sQ (l:List Int):(bytesOf l).size=l.length:=by
 unfold bytesOf;rw [zFr];simp
theorem zPj (n:Int) (h:n.natAbs<10000000000):zTH 131 [.j n] 11:=λN Q J=>by
 refine ti N n Q (Br.beq (λ_ N1 I=>J _ _ I (by decide)) λ_=>?_)
 have key:∀ (m:Nat) (x:Int) (s:ByteArray),x.natAbs<10 ^ m->m+s.size<=10->∀ b,zZ Q N x b s N:=by
  intro m
  induction m with
  | zero=>
    intro x s O hs b
    refine wZ _ _ _ _ _ _ (Br.bne (λh=>by omega) λ_=>Br.of (λ_=>⟨by omega,λN1 I=>J _ _ I ?_⟩) λ_ N1 I=>J _ _ I (by omega))
    rw [oL]
    have:(bytes [45]).size=1:=rfl
    omega
  | succ m Y=>
    intro x s O hs b
    have hb:x.natAbs<10000000000:=o7 O (by rw [show (10000000000:Nat)=10 ^ 10 from rfl];exact nk (by omega) (by omega))
    have hq:(Int.tdiv x 10).natAbs=x.natAbs / 10:=Int.natAbs_tdiv x 10
    have hd:IntKind.i64.wrap (Int.tdiv x 10)=Int.tdiv x 10:=i64_in _ (by omega)
    have U:∀ es:List Int,es.length=1->zZ Q N (IntKind.i64.wrap (Int.tdiv x 10)) b (bytesOf es++s) N:=λes he=>by
     rw [hd]
     refine Y _ _ ?_ ?_ b
     ·rw [hq]
      rw [ms] at O
      omega
     ·rw [oL,sQ];omega
    have sz:∀ es:List Int,es.length=1->(bytesOf es).size+s.size<=9223372036854775807:=λes he=>by rw [sQ];omega
    refine wZ _ _ _ _ _ _ (Br.bne (λ_=>⟨by decide,Br.of (λ_=>⟨by simp,[_],rfl,sz _ rfl,by decide,U _ rfl⟩) λ_=>⟨by simp,[_],rfl,sz _ rfl,by decide,U _ rfl⟩⟩) λ_=>Br.of (λ_=>⟨by omega,λN1 I=>J _ _ I ?_⟩) λ_ N1 I=>J _ _ I (by omega))
    rw [oL]
    have:(bytes [45]).size=1:=rfl
    omega
 exact key 10 n _ (by simpa using h) (by decide) _
theorem zPb:∀ t:Ty,t.form=true->Wf t:=by
 refine Ty.ind λk l ih h=>?_
 simp only [Ty.form,oG] at h
 obtain ⟨J,O⟩:=h
 have sub:∀ t∈l,Wf t:=λt ht=>ih t ht (by
  have key:∀ l:List Ty,xU l=true->∀ t∈l,t.form=true:=by
   intro l
   induction l with
   | nil=>intro _ t ht;simp at ht
   | cons x l U=>
     intro h t ht
     simp only [xU,oG] at h
     rcases oF.1 ht with rfl | ht
     ·exact h.1
     ·exact U h.2 t ht
  exact key l (by first | exact J | exact O) t ht)
 have I:rp k l.length=true:=by first | exact J | exact O
 unfold rp at I
 split at I
 ·rename_i Y
  have:l=[]:=oP (by have:=nK.1 I;omega)
  subst this
  rcases Y with rfl | rfl
  ·exact .int
  ·exact .bool
 split at I
 ·rename_i aa;subst aa
  have O:l.length=2:=by have:=nK.1 I;omega
  match l,O,sub with
  | [a,b],_,sub=>exact .fn (sub a (by simp)) (sub b (by simp))
 split at I
 ·rename_i ab;subst ab
  have J:l.length=1:=by have:=nK.1 I;omega
  match l,J,sub with
  | [a],_,sub=>exact .code (sub a (by simp))
 ·cases I
theorem zMd {t:Ty} (hw:Wf t):t.cnt<=1000000->∀ {d:D},t.Is d->zTH 135 [.dg 2 d] (3*t.cnt):=by
 have U:∀ x,(bytes [x]).size=1:=λ_=>rfl
 induction hw with
 | int=>
   intro hc d hd N Q J
   obtain ⟨b,fs,k,rfl,_,h2⟩:=Ty.is_mk.1 hd
   exact vY N _ Q λ_=>⟨1,rfl,Br.beq (λ_ N1 I=>J _ _ I (by decide)) λh=>absurd rfl h⟩
 | bool=>
   intro hc d hd N Q J
   obtain ⟨b,fs,k,rfl,_,h2⟩:=Ty.is_mk.1 hd
   exact vY N _ Q λ_=>⟨2,rfl,Br.beq (λh=>absurd h (by decide)) λ_=>Br.beq (λ_ N1 I=>J _ _ I (by decide)) λh=>absurd rfl h⟩
 | @fn u v hu hv O Y=>
   intro hc d hd N Q J
   have aa:(wA u v).cnt=1+(u.cnt+(v.cnt+0)):=rfl
   obtain ⟨b,fs,k,rfl,ab,d1,_,rfl,h3,d2,_,rfl,h4,rfl⟩:=Ty.is_mk.1 hd
   refine vY N _ Q λ_=>⟨3,rfl,Br.beq (λh=>absurd h (by decide)) λ_=>Br.beq (λh=>absurd h (by decide)) λ_=>Br.beq (λ_=>⟨_,_,_,rfl,⟨by simp,by simp⟩,_,_,_,rfl,⟨by simp,by simp⟩,λN1 I=>?_⟩) λh=>absurd rfl h⟩
   refine O (by omega) h3 N1 _ λs N2 ac hs _=>⟨by omega,by rw [oL,U];omega,λN3 ae=>?_⟩
   refine Y (by omega) h4 N3 _ λs' N4 ah ai _=>⟨by simp only [oL,U];omega,by simp only [oL,U];omega,λN5 aj=>J _ _ (by omega) (by simp only [oL,U];omega)⟩
 | @code u hu O=>
   intro hc d hd N Q J
   have aa:(yd u).cnt=1+(u.cnt+0):=rfl
   obtain ⟨b,fs,k,rfl,ab,d1,_,rfl,h3,rfl⟩:=Ty.is_mk.1 hd
   refine vY N _ Q λ_=>⟨4,rfl,Br.beq (λh=>absurd h (by decide)) λ_=>Br.beq (λh=>absurd h (by decide)) λ_=>Br.beq (λh=>absurd h (by decide)) λ_=>⟨_,_,_,rfl,⟨by simp,by simp⟩,λN1 I=>?_⟩⟩
   exact O (by omega) h3 N1 _ λs N2 ac hs _=>⟨by omega,by rw [oL,U];omega,λN3 ae=>J _ _ (by omega) (by simp only [oL,U];omega)⟩
/-- the longest string -/
def mx:List ByteArray->Nat
 | []=>0
 | s::l=>max s.size (mx l)
theorem zLu (s:ByteArray):∀ l:List ByteArray,mx (l++[s])=max (mx l) s.size
 | []=>by simp [mx]
 | x::l=>by simp only [nG,mx,zLu s l];omega
/-- how long strings are, one behind the other -/
def tot:List ByteArray->Nat
 | []=>0
 | s::l=>s.size+1+tot l
theorem zI3 (s:ByteArray):∀ l:List ByteArray,tot (l++[s])=tot l+s.size+1
 | []=>by simp [tot]
 | x::l=>by simp only [nG,tot,zI3 s l];omega
theorem zIM:∀ l:List ByteArray,l.length<=tot l
 | []=>by simp [tot]
 | x::l=>by have:=zIM l;simp only [tot,oO];omega
theorem zKk (J:List ByteArray) (h:tot J<=1000000000) (O:ByteArray) (aa:O.size<=1) (a:Option Addr) (c:Nat):zSF 134 [.sv a 0 (zB J) c,.str O] (λs=>s.size<=tot J/\mx J<=s.size):=λN Q hQ=>by
 have ab:=zS J
 have Y:=zIM J
 refine zIA N a _ c O Q λ_=>?_
 refine up (wx J) (by omega) (λi xs=>∀ (ns:List Int) (r:List D) (q N':Nat),N<=N'->r=ns.map (λn=>D.lit (.int .u8 n))->ns.length+tot xs<=tot J->mx J<=max ns.length (mx xs)->wJ Q N a (zB J) c O r.length q i r q N') ?_ ?_ [] [] 0 N (oD _) rfl (by simp) (by simp)
 ·intro k Y hk ns r q N' U hr hn hm
  subst hr
  refine qe _ _ _ _ _ _ _ _ _ _ _ _ ?_
  rw [Y]
  exact ⟨oD _,ns,oi (oD _),λN1 ac=>hQ _ _ (by omega) (by show (bytesOf ns).size<=_/\_<=(bytesOf ns).size;rw [sQ];simp only [mx,tot] at hm hn;omega)⟩
 ·intro k x xs I _ ih ns r q N' U hr hn hm
  have hb:=I.b
  simp only [tot] at hn
  simp only [mx] at hm
  have bd:∀ s:ByteArray,xM s=(s.data.toList.map λb=>((b.toNat:Nat):Int)).map (λn=>D.lit (.int .u8 n)):=λs=>by simp [xM,mH,Function.comp_def]
  have bl:∀ s:ByteArray,(s.data.toList.map λb=>((b.toNat:Nat):Int)).length=s.size:=λs=>by simp
  have ae:r.length=ns.length:=by rw [hr];simp
  refine qe _ _ _ _ _ _ _ _ _ _ _ _ ?_
  rw [I.w,oK]
  refine Br.of (λ_=>?_) λh=>by rw [I.lt] at h;cases h
  refine Br.of (λ_=>⟨⟨rfl,rfl⟩,by unfold zA;rw [oI,rN];omega,λc1=>⟨hb,x,I.r,⟨by trivial,by trivial⟩,by unfold zA;simp only [oI,rN];omega,λc2=>ih (ns++_++_) _ c2 N' U (by rw [hr,bd,bd,<-nc,<-nc]) (by simp only [oI,bl];omega) (by simp only [oI,bl];omega)⟩⟩) λ_=>⟨hb,x,I.r,⟨rfl,rfl⟩,by unfold zA;rw [oI,rN];omega,λc2=>ih (ns++_) _ c2 N' U (by rw [hr,bd,<-nc]) (by simp only [oI,bl];omega) (by simp only [oI,bl];omega)⟩
theorem zB9 {s:ByteArray} (h:xJ s=true):s.size<=4:=by
 simp only [xJ,zJf,oG] at h
 have:=(vm.1 h.2.1).2
 omega
theorem zK9 {s:ByteArray} (h:zGY s>0):s.size<=4:=by
 unfold zGY at h
 (repeat' split at h)<;>first | (rename_i e;rw [e];decide) | (exfalso;revert h;decide)
theorem zEN {k:Int} {nm ot:ByteArray} (h:yu k nm ot=true):nm.size<=4/\ot.size<=4:=by
 unfold yu at h
 (repeat' split at h)<;>simp only [oG,o3,nR,decide_eq_false_iff_not] at h
 ·exact ⟨zK9 h.1,by rw [h.2];decide⟩
 ·exact ⟨zB9 h.1,by rw [h.2];decide⟩
 ·exact ⟨zB9 h.1,zB9 h.2.1⟩
 ·rw [h.1,h.2];decide
theorem rW {t:Ty} (h:t.valid=true):Wf t/\t.cnt<=30:=by
 refine ⟨zPb t ?_,Ty.valid_cnt h⟩
 simp only [Ty.valid,oG] at h
 exact h.2
theorem zRQ {k n:Int} {nm ot:ByteArray} {ty re:Ty} {l:List Tm} (nd:Node k nm ot n ty re l) {t0 t1 r0 r1 x:D} (hh:Tm.Hd nm ot ty re t0 t1 r0 r1) {O:List ByteArray} (ah:tot O<=400000000) (hl:O.length=l.length) (hk:k≠1/\k≠2/\k≠3/\k≠4/\k≠10/\k≠11) (a:Option Addr) (c:Nat) :
  zSF 132 [.dg 9 (.ag [.j k,.t nm,.t ot,.j n,t0,t1,r0,r1,x]),.sv a 0 (zB O) c] (λs=>s.size<=tot O+300/\5*bn k+mx O<=s.size):=λN Q hQ=>by
 have f:=nd.f
 have ai:=nd.ar
 have aj:=zS O
 simp only [zJ,oG] at f
 obtain ⟨n4,o4⟩:=zEN f.2.2.2.2.2
 have I:∀ a,(bytes [a]).size=1:=λ_=>rfl
 have b2:∀ a b,(bytes [a,b]).size=2:=λ_ _=>rfl
 have b4:∀ a b c d,(bytes [a,b,c,d]).size=4:=λ_ _ _ _=>rfl
 have J:∀ a b c d e,(bytes [a,b,c,d,e]).size=5:=λ_ _ _ _ _=>rfl
 have b6:∀ a b c d e f,(bytes [a,b,c,d,e,f]).size=6:=λ_ _ _ _ _ _=>rfl
 have one:Unit->zIt k nm=1->((0:Int)<=(0:Int)/\0<((zB O).length:Int))/\∃ s,List.getD (zB O) 0 default=D.t s/\s.size<=tot O/\mx O=s.size:=λ_ h=>by
  match O,(by omega:(O.length:Int)=1) with
  | [s],_=>exact ⟨⟨by simp,by simp [zB]⟩,s,rfl,by simp only [tot];omega,by simp [mx]⟩
 have q3:=zLs k
 have q9:=zQj k
 refine zFt N _ a _ c Q λ_ _=>⟨k,rfl,Br.beq (λ_ N1 U=>?_) λh5=>Br.beq (λh6=>?_) λh6=>Br.beq (λ_ N1 U=>?_) λh7=>Br.beq (λ_=>⟨nm,rfl,by omega,by simp only [oL,J];omega,λN1 U=>?_⟩) λh8=>Br.beq (λh9=>?_) λh9=>Br.beq (λac=>?_) λac=>?_⟩
 ·exact zKk O (by omega) _ (by decide) a c N1 _ λs N2 Y hs _=>⟨by omega,by simp only [oL,b4];omega,λN3 aa=>hQ _ _ (by omega) (by simp only [oL,b4,I];omega)⟩
 ·obtain ⟨bd,s,hs,ab⟩:=one () (by subst h6;rfl)
  have hv:=nd.vt (.inl h6)
  refine ⟨nm,rfl,by omega,by simp only [oL,b2];omega,bd,s,hs,λN1 U=>?_⟩
  have:=(rW hv).2
  exact zMd (rW hv).1 (by omega) hh.ty N1 _ λz N2 Y hz _=>⟨by simp only [oL,b2,I];omega,by simp only [oL,b2,I];omega,by simp only [oL,b2,I];omega,by simp only [oL,b2,I];omega,λN3 aa=>hQ _ _ (by omega) (by simp only [oL,b2,I];omega)⟩
 ·exact zKk O (by omega) _ (by decide) a c N1 _ λs N2 Y hs _=>⟨by omega,by simp only [oL,I];omega,λN3 aa=>hQ _ _ (by omega) (by simp only [oL,I];omega)⟩
 ·exact zKk O (by omega) _ (by decide) a c N1 _ λs N2 Y hs _=>⟨by simp only [oL,J,I];omega,by simp only [oL,J,I];omega,λN3 aa=>hQ _ _ (by omega) (by simp only [oL,J,I];omega)⟩
 ·obtain ⟨bd,s,hs,ab⟩:=one () (by subst h9;rfl)
  have hv:=nd.vt (.inr h9)
  have ae:=nd.vr h9
  have:=(rW hv).2
  have:=(rW ae).2
  refine ⟨nm,rfl,by omega,by simp only [oL,J];omega,ot,rfl,by simp only [oL,J,I];omega,by simp only [oL,J,I];omega,bd,s,hs,λN1 U=>?_⟩
  refine zMd (rW hv).1 (by omega) hh.ty N1 _ λz N2 Y hz _=>⟨by simp only [oL,J,I];omega,by simp only [oL,J,I];omega,λN3 aa=>?_⟩
  exact zMd (rW ae).1 (by omega) hh.re N3 _ λy N4 ak hy _=>⟨by simp only [oL,J,I];omega,by simp only [oL,J,I];omega,by simp only [oL,J,I];omega,by simp only [oL,J,I];omega,λN5 al=>hQ _ _ (by omega) (by simp only [oL,J,I];omega)⟩
 ·obtain ⟨bd,s,hs,ab⟩:=one () (by subst ac;rfl)
  exact ⟨bd,s,hs,by omega,by simp only [oL,J];omega,λN1 U=>hQ _ _ (by omega) (by simp only [oL,J,I];omega)⟩
 ·have hc:=zB1 (k:=k) (nm:=nm) (by omega)
  obtain ⟨bd,s,hs,ab⟩:=one () (by
   obtain rfl:k=13:=by omega
   rfl)
  exact ⟨bd,s,hs,by omega,by simp only [oL,b6];omega,λN1 U=>hQ _ _ (by omega) (by simp only [oL,b6,I];omega)⟩
theorem zHd:∀ {l:List Tm} {t:Tm},t∈l->t.sz<=zg l
 | x::l,t,h=>by
   simp only [zg]
   rcases oF.1 h with rfl | h
   ·omega
   ·have:=zHd h;omega
theorem zQm:∀ t:Tm,t.ok=true->t.sz<=100000->∀ d,t.Is d->zSF 120 [.dg 9 d] (λs=>s.size<=500*t.sz - 1/\5*t.bd<=s.size):=by
 refine Tm.ind λk nm ot n ty re l ih al am d hd N Q Y=>?_
 obtain ⟨t0,t1,r0,r1,a,es,c,rfl,hh,ah,ai⟩:=Tm.is_mk.1 hd
 have nd:=wT al
 have O:=nd.ar
 have a3:=ai.len
 have f:=nd.f
 simp only [zJ,oG] at f
 obtain ⟨n4,o4⟩:=zEN f.2.2.2.2.2
 have hn:=vm.1 f.2.2.2.2.1
 have b1:∀ a,(bytes [a]).size=1:=λ_=>rfl
 have b2:∀ a b,(bytes [a,b]).size=2:=λ_ _=>rfl
 have hs:(Tm.mk k nm ot n ty re l).sz=1+zg l:=by simp only [Tm.sz]
 have ao:(Tm.mk k nm ot n ty re l).bd=bn k+pz l:=by simp only [Tm.bd]
 rw [hs] at am Y
 rw [ao] at Y
 have q3:=zLs k
 refine zFu N _ Q λ_=>?_
 refine up ai ah (λi xs=>∀ (I:List ByteArray) (q N':Nat),N<=N'->I.length=i->tot I+500*zg xs<=500*zg l->5*pz l<=max (mx I) (5*pz xs)->wS Q N (zB I).length q i _ (zB I) q N') ?_ ?_ [] 0 N (oD _) rfl (by simp [tot]) (by simp [mx])
 ·intro i aq hi I q N' au aj aa ab
  simp only [pz] at ab
  have a4:=zS I
  have ps:(0:Int)<((zB I).length:Int)->((0:Int)<=(0:Int)/\0<((zB I).length:Int)/\0<(zB I).length):=λh=>⟨by omega,h,by omega⟩
  have none:Unit->l.length=0->mx I=0:=λ_ h=>by
   match I,(by omega:I.length=0) with
   | [],_=>rfl
  have one:Unit->l.length=1->∃ s,List.getD (zB I) 0 default=D.t s/\s.size+1<=tot I/\mx I=s.size:=λ_ h=>by
   match I,(by omega:I.length=1) with
   | [s],_=>exact ⟨s,rfl,by simp only [tot];omega,by simp [mx]⟩
  have aw:Unit->l.length=2->∃ s s',List.getD (zB I) 0 default=D.t s/\List.getD (zB I) 1 default=D.t s'/\s.size+s'.size+2<=tot I/\mx I=max s.size s'.size:=λ_ h=>by
   match I,(by omega:I.length=2) with
   | [s,s'],_=>exact ⟨s,s',rfl,rfl,by simp only [tot];omega,by simp [mx]⟩
  have leaf:k=1\/k=2\/k=3->l.length=0:=λh=>by
   rcases h with h | h | h<;>(subst h;have:(l.length:Int)=0:=O;omega)
  refine sf _ _ _ _ _ _ _ _ _ ⟨a,es,c,rfl,Br.of (λh=>by rw [aq] at h;cases h) λ_=>⟨k,rfl,Br.beq (λh1=>⟨nm,rfl,λN1 J=>Y _ _ (by omega) (by have:=none () (leaf (.inl h1));omega)⟩) λh1=>Br.beq (λh2=>⟨n,rfl,λN1 J=>?_⟩) λh2=>Br.beq (λh3=>⟨n,rfl,n,rfl,?_⟩) λh3=>Br.beq (λh4=>?_) λh4=>Br.beq (λac=>?_) λac=>Br.beq (λae=>?_) λae=>⟨⟨rfl,rfl⟩,λa2 _ _ N1 J _=>?_⟩⟩⟩
  ·have ax:=none () (leaf (.inr (.inl h2)))
   rw [if_pos h2] at hn
   exact zPj n (by omega) N1 _ λs N2 ak hs _ N3 ay=>Y _ _ (by omega) (by omega)
  ·have ax:=none () (leaf (.inr (.inr h3)))
   rw [if_neg h2,if_pos h3] at hn
   rw [i64_in (n+1) (by omega)]
   exact ⟨⟨by omega,by omega,by omega⟩,by rw [mK];omega,λN1 J=>Y _ _ (by omega) (by simp only [oL,mK,b1,b2];omega)⟩
  ·subst h4
   have O:(l.length:Int)=zGY nm:=O
   have a5:zGY nm=1\/zGY nm=2:=by
    have h:=f.2.2.2.2.2
    simp only [yu] at h
    rw [if_pos trivial] at h
    simp only [oG,o3] at h
    have:=h.1
    revert this
    unfold zGY
    (repeat' split)<;>simp
   refine Br.beq (λhw=>?_) λhw=>?_
   ·obtain ⟨s,e1,e2⟩:=one () (by omega)
    exact ⟨ps (by omega),by omega,s,e1,by omega,by simp only [oL,b2];omega,λN1 J=>Y _ _ (by omega) (by simp only [oL,b2,b1];omega)⟩
   ·obtain ⟨s,s',e1,e3,e2⟩:=aw () (by omega)
    exact ⟨ps (by omega),by omega,s,e1,by omega,nm,rfl,by simp only [oL,b1];omega,⟨by omega,by omega,by omega⟩,by omega,s',e3,by simp only [oL,b1];omega,by simp only [oL,b1];omega,λN1 J=>Y _ _ (by omega) (by simp only [oL,b1];omega)⟩
  ·subst ac
   have O:(l.length:Int)=1:=O
   obtain ⟨s,e1,e2⟩:=one () (by omega)
   exact ⟨ps (by omega),by omega,s,e1,by omega,by simp only [oL,b1];omega,λN1 J=>Y _ _ (by omega) (by simp only [oL,b1];omega)⟩
  ·subst ae
   have O:(l.length:Int)=1:=O
   obtain ⟨s,e1,e2⟩:=one () (by omega)
   exact ⟨ps (by omega),by omega,s,e1,by omega,λN1 J=>Y _ _ (by omega) (by simp only [oL,b1];omega)⟩
  ·exact zRQ nd hh (by omega) (by omega) ⟨h1,h2,h3,h4,ac,ae⟩ a2 q N1 _ λs N2 ak hs _ N3 ay=>Y _ _ (by omega) (by omega)
 ·intro i x xs U _ az I q N' au aj aa ab
  simp only [pz] at ab
  have hb:=U.b
  have hx:x.sz<=zg l:=zHd U.m
  have a6:=zIM I
  have hp:1<=x.sz:=by cases x;simp only [Tm.sz];omega
  simp only [zg] at aa
  refine sf _ _ _ _ _ _ _ _ _ ⟨a,es,c,rfl,Br.of (λ_=>⟨a,es,c,rfl,hb,λN1 J=>?_⟩) λh=>by rw [U.lt] at h;cases h⟩
  rw [oK]
  refine ih x U.m (nd.sub x U.m) (by omega) _ U.r N1 _ λs N2 ak hs _=>⟨⟨rfl,rfl⟩,by unfold zA;rw [oI,zS];simp only [oO,oX];omega,λc2=>?_⟩
  have e:zB I++[D.t s]=zB (I++[s]):=by simp [zB]
  rw [e,U.w]
  exact az (I++[s]) c2 N2 (by omega) (by simp [aj]) (by rw [zI3];omega) (by rw [zLu];omega)
theorem zRc (t:Tm) (d:D) (hd:t.Is d) (hc:t.cnt<=1073741824):zSF 104 [.dg 9 d] (λs=>s.size<=50000/\(s.size=0\/5*t.bd<=s.size)):=λN Q J=>by
 refine zAb N d Q λ_ N1 U=>qZ t d hd hc N1 _ λN2 Y _=>Br.not (λ_ N3 I=>J _ _ (by omega) ⟨by decide,.inl rfl⟩) λO N3 I=>?_
 simp only [Tm.vd,oG,o3] at O
 exact zQm t O.2 (by omega) d hd N3 _ λs N4 aa hs _ N5 ab=>J _ _ (by omega) (by omega)
end Go.Proofs.YtnmnahkkcfghjaaGreat
set_option maxRecDepth 100000
namespace Go.Proofs.YtnmnahkkcfghjaaGreat
open Go Go.Proofs Go.Proofs.Tryz Go.IntWalk
/-- some term of at most this many nodes -/
def SomC (m:Nat) (d:D):Prop:=∃ t:Tm,t.Is d/\t.cnt<=m
theorem SomC.mono {m n:Nat} {d:D} (h:SomC m d) (J:m<=n):SomC n d:=by obtain ⟨t,I,O⟩:=h;exact ⟨t,I,by omega⟩
theorem Some.c {m:Nat} {d:D} (h:Some m d):SomC m d:=by obtain ⟨t,I,J⟩:=h;exact ⟨t,I,oN t.cnt_wt J⟩
/-- a reader's place in a short text -/
structure Rs (s:ByteArray) (n:Int):Prop where
 l:s.size<=1000
 lo:0<=n
 hi:n<=s.size
theorem w9 {s:ByteArray} {n:Int} (O:Rs s n) (t:ByteArray) (ht:t.size<=100) (b:Bool) (N:Nat) (Q:QT [.bool,.str,.i,.bool])
  (Y:∀ U J N',N<=N'->Rs s J->n<=J->(U=false->J=n)->(U=true->J=n+t.size)->Q U s J b N'):BCalls prog 114 [.bool,.str,.i,.bool] [.pb 0 0 0 0,.str t] [.var [.str s,.j n,.bool b]] N Q:=by
 have h1:=O.lo
 have h2:=O.hi
 have h3:=O.l
 have no:∀ N1,N<=N1->Q false s n b N1:=λN1 I=>Y _ _ _ I O (mM _) (λ_=>rfl) (by simp)
 have e:IntKind.i64.wrap (n+(t.size:Int))=n+t.size:=i64_in _ (by omega)
 refine zBK N t s n b Q λE=>Br.of (λ_=>⟨zV,no⟩) λ_=>?_
 rw [e]
 exact Br.dec (λ_=>⟨zV,no⟩) λhg=>⟨⟨h1,by omega,by omega⟩,Br.of (λ_=>⟨zV,no⟩) λ_=>⟨zV,λN1 I=>Y _ _ _ I ⟨h3,by omega,by omega⟩ (by omega) (by simp) λ_=>rfl⟩⟩
theorem vR {s:ByteArray} {n:Int} (hr:Rs s n) (t:ByteArray) (ht:t.size<=100) (b:Bool) (N:Nat) (Q:QT [.str,.i,.bool])
  (hQ:∀ O I N',N<=N'->Rs s I->n<=I->(O=false->I=n+t.size)->Q s I O N'):BCalls prog 115 [.str,.i,.bool] [.pb 0 0 0 0,.str t] [.var [.str s,.j n,.bool b]] N Q:=
 zBa N t s n b Q λE=>Br.of (λ_=>⟨zV,λN1 J=>hQ _ _ _ J hr (mM _) (by simp)⟩) λ_ N1 J=>w9 hr t ht b N1 _ λO I N2 aa U Y h0 h1 _=>⟨zV,λN3 ab=>hQ _ _ _ (by omega) U Y (by
  cases O with
  | false=>simp
  | true=>exact λ_=>h1 rfl)⟩
theorem zEX {s:ByteArray} {n:Int} (O:Rs s n) (b:Bool) (N:Nat) (Q:QT [.str,.str,.i,.bool])
  (hQ:∀ w U N',N<=N'->Rs s U->n<=U->w.size<=1000->Q w s U b N'):BCalls prog 118 [.str,.str,.i,.bool] [.pb 0 0 0 0] [.var [.str s,.j n,.bool b]] N Q:=by
 have h1:=O.lo
 have h2:=O.hi
 have h3:=O.l
 refine zBp N s n b Q λE=>?_
 have key:∀ (m:Nat) (k:Int),n<=k->k+m=s.size->yI E Q N n s k b N:=by
  intro m
  induction m with
  | zero=>
    intro k J he
    exact si _ _ _ _ _ _ _ _ (Br.dec (λh=>by omega) λ_=>⟨⟨h1,J,by omega⟩,zV,λN1 I=>hQ _ _ _ I ⟨h3,by omega,by omega⟩ J (by rw [mK];omega)⟩)
  | succ m ih=>
    intro k J he
    have Y:yI E Q N n s (IntKind.i64.wrap (k+1)) b N:=by
     rw [i64_in (k+1) (by omega)];exact ih (k+1) (by omega) (by omega)
    have out:(0<=n/\n<=k/\k<=(s.size:Int))/\zR E [.var [.str (bytes []),.j 0,.bool false]]/\∀ N1,N<=N1->Q (ByteArray.extract s n.toNat k.toNat) s k b N1:=⟨⟨h1,J,by omega⟩,zV,λN1 I=>hQ _ _ _ I ⟨h3,by omega,by omega⟩ J (by rw [mK];omega)⟩
    have bd:0<=k/\k<(s.size:Int):=⟨by omega,by omega⟩
    have az:∀ (v w:Bool) {A B:Prop},A->B->(0<=k/\k<(s.size:Int))/\Br v ((0<=k/\k<(s.size:Int))/\Br w A B) B:=λv w A B a b=>⟨bd,Br.of (λ_=>⟨bd,Br.of (λ_=>a) λ_=>b⟩) λ_=>b⟩
    exact si _ _ _ _ _ _ _ _ (Br.of (λ_=>⟨bd,Br.of (λ_=>⟨bd,Br.of (λ_=>Y) λ_=>az _ _ Y out⟩) λ_=>az _ _ Y out⟩) λ_=>out)
 exact key (s.size - n).toNat n (mM _) (by omega)
theorem zLt:∀ (j:Nat),j<=8->∀ (n1:Int),n1+j=9->∀ {s:ByteArray} {n:Int} (_:Rs s n) (b:Bool) (N:Nat) (Q:QT [.ag 2,.str,.i,.bool])
  (_:∀ (t:Ty) d U b' N',N<=N'->Rs s U->n<=U->t.Is d->t.cnt+1<=2 ^ (j+1)->Q d s U b' N'),BCalls prog 124 [.ag 2,.str,.i,.bool] [.pb 0 0 0 0,.j n1] [.var [.str s,.j n,.bool b]] N Q:=by
 intro j
 have one:∀ k:Int,∀ j:Nat,(Ty.mk k []).cnt+1<=2 ^ (j+1):=λk j=>by
  have:1<=2 ^ j:=Nat.one_le_two_pow
  rw [ms];simp only [Ty.cnt,zG];omega
 induction j with
 | zero=>
   intro _ n1 a2 s n hr b N Q Y
   exact tn N n1 s n b Q λE=>Br.of (λ_=>⟨zV,λN1 I=>Y (.mk 0 []) _ _ _ _ I hr (mM _) (yz 0) (one 0 0)⟩) λ_=>Br.dec (λ_=>⟨zV,λN1 I=>Y (.mk 0 []) _ _ _ _ I hr (mM _) (yz 0) (one 0 0)⟩) λh=>by omega
 | succ j ih=>
   intro hj n1 a2 s n hr b N Q Y
   have e1:IntKind.i64.wrap (n1+1)=n1+1:=i64_in _ (by omega)
   have z:∀ U b' N',N<=N'->Rs s U->n<=U->Q (D.ag [D.j 0,D.sl Option.none 2 [] 0]) s U b' N':=λU b' N' h a3 hn=>Y (.mk 0 []) _ _ _ _ h a3 hn (yz 0) (one 0 _)
   refine tn N n1 s n b Q λE=>Br.of (λ_=>⟨zV,λN1 I=>z _ _ _ I hr (mM _)⟩) λ_=>Br.dec (λ_=>by omega) λ_ N1 I=>?_
   refine w9 hr _ (by decide) _ N1 _ λb2 n2 N2 b5 ac a4 z2 _ _=>Br.of (λ_ N3 a5=>xG N3 _ λy N4 a6 hy _ _ _=>⟨zV,λN5 ae=>Y tInt _ _ _ _ (by omega) ac a4 hy (one _ _)⟩) λa7 N3 a5=>?_
   have z2:=z2 a7;subst z2
   refine w9 ac _ (by decide) _ N3 _ λb4 n4 N4 a6 ah b7 z4 g4 _=>Br.of (λ_ N5 ae=>xO N5 _ λy N6 a8 hy _ _ _=>⟨zV,λN7 ai=>Y tBool _ _ _ _ (by omega) ah (by omega) hy (one _ _)⟩) λa9 N5 ae=>?_
   have z4:=z4 a9;subst z4
   have bm:2 ^ (j+1+1)=2*2 ^ (j+1):=by rw [ms];omega
   refine w9 ah _ (by decide) _ N5 _ λb6 n6 N6 a8 aj b9 z6 g6 _=>Br.of (λab N7 ai=>?_) λab N7 ai=>?_
   ·have g6:=g6 ab
    rw [e1]
    refine ih (by omega) (n1+1) (by omega) aj _ N7 _ λt d n8 b8 N8 ba O bb hd hc _ _ N9 ak=>?_
    refine vR O _ (by decide) _ N9 _ λbc bg bh al J am _ _=>⟨⟨rfl,rfl⟩,⟨rfl,rfl⟩,⟨rfl,rfl⟩,⟨rfl,rfl⟩,⟨rfl,rfl⟩,λa ao aq _=>⟨zV,λbi au=>Y (yd t) _ _ _ _ (by omega) J (by omega) (Ty.is_mk.2 ⟨_,_,_,rfl,by simp,d,[],rfl,hd,rfl⟩) ?_⟩⟩
    have:(yd t).cnt=1+(t.cnt+0):=rfl
    have:2<=2 ^ (j+1):=by rw [ms];have:1<=2 ^ j:=Nat.one_le_two_pow;omega
    omega
   ·have z6:=z6 ab;subst z6
    refine vR aj _ (by decide) _ N7 _ λb8 n8 N8 ba O bb _ _=>Br.of (λ_=>⟨zV,λN9 ak=>z _ _ _ (by omega) O (by omega)⟩) λ_ N9 ak=>?_
    rw [e1]
    refine ih (by omega) (n1+1) (by omega) O _ N9 _ λt d bg bc bh al J am hd hc _ _ ao aq=>?_
    refine vR J _ (by decide) _ ao _ λca cc bi au aa bp _ _=>Br.of (λ_=>⟨zV,λaw ax=>z _ _ _ (by omega) aa (by omega)⟩) λ_ aw ax=>?_
    refine ih (by omega) (n1+1) (by omega) aa _ aw _ λu e cd ce cf bq ay bt he cg _ _ bj bv=>?_
    refine vR ay _ (by decide) _ bj _ λch cj ck bw az bz _ _=>⟨⟨rfl,rfl⟩,⟨rfl,rfl⟩,⟨rfl,rfl⟩,λa cm b1 _=>⟨zV,λcn b3=>Y (wA t u) _ _ _ _ (by omega) az (by omega) (Ty.is_mk.2 ⟨_,_,_,rfl,by simp,d,[e],rfl,hd,e,[],rfl,he,rfl⟩) ?_⟩⟩
    have:(wA t u).cnt=1+(t.cnt+(u.cnt+0)):=rfl
    omega
/-- what the parser does at this depth -/
def zKY (dep:Int):Prop:=∀ (s:ByteArray) (n:Int) (b:Bool) (N:Nat) (Q:QT [.ag 9,.str,.i,.bool]),Rs s n->(∀ d I J N',N<=N'->Rs s I->n<=I->SomC (3+2000*(I - n).toNat) d->Q d s I J N')->BCalls prog 103 [.ag 9,.str,.i,.bool] [.pb 0 0 0 0,.j dep] [.var [.str s,.j n,.bool b]] N Q
theorem zJl {dep:Int} (hP:zKY dep) {k m:Int} {nm ot:ByteArray} {ty re:Ty} {t0 t1 r0 r1:D} (hh:Tm.Hd nm ot ty re t0 t1 r0 r1) {l0:List Tm} {J:List D} (h0:All2 Tm.Is l0 J) (a3:J.length<=1) {a0:Option Addr} {c0:Nat} (ao:∀ x,zLT a0 J c0 [x])
  {w:Nat} (hw:1+ty.cnt+re.cnt+zI l0<=w) (O:Int) (aa:0<=O/\O<=3) {s:ByteArray} {n:Int} (hr:Rs s n) (b:Bool) (N:Nat) (Q:QT [.ag 9,.str,.i,.bool])
  (hQ:∀ d n' b' N',N<=N'->Rs s n'->n<=n'->SomC (w+9+2000*(n' - n).toNat) d->Q d s n' b' N'):BCalls prog 125 [.ag 9,.str,.i,.bool] [.pb 0 0 0 0,.dg 9 (.ag [.j k,.t nm,.t ot,.j m,t0,t1,r0,r1,.sl a0 9 J c0]),.j O,.j dep] [.var [.str s,.j n,.bool b]] N Q:=by
 refine zBg N _ O dep s n b Q λE _=>?_
 have fin:∀ (l:List Tm) (es:List D) (a:Option Addr) (c:Nat) (n':Int) (b':Bool) (N':Nat),N<=N'->Rs s n'->n<=n'->All2 Tm.Is l es->es.length<=10->zI l<=zI l0+9+2000*(n' - n).toNat->Q (.ag [.j k,.t nm,.t ot,.j m,t0,t1,r0,r1,.sl a 9 es c]) s n' b' N':=λl es a c n' b' N' h aq hn U hl hc=>
  hQ _ _ _ _ h aq hn ⟨.mk k nm ot m ty re l,Tm.is_mk.2 ⟨_,_,_,_,_,_,_,rfl,hh,by omega,U⟩,by simp only [Tm.cnt];omega⟩
 have key:∀ (j:Nat) (k9:Int) (n1:Int) (b1:Bool) (l:List Tm) (es:List D) (q N':Nat),k9+j=O->0<=k9->Rs s n1->n<=n1->All2 Tm.Is l es->(es.length:Int)<=1+k9->zI l<=zI l0+3*k9.toNat+2000*(n1 - n).toNat->N<=N' ->
   zX E Q N O dep k9 s n1 b1 (.j k) (.t nm) (.t ot) (.j m) t0 t1 r0 r1 es.length q 0 (bytes []) (bytes []) 0 0 none [] 0 0 none [] 0 none [] 0 es q N':=by
  intro j
  induction j with
  | zero=>
    intro k9 n1 b1 l es q N' hk au ab aw U ax hc ay
    refine uI _ _ _ _ _ _ _ _ _ _ _ _ _ _ _ _ _ _ _ _ _ _ _ _ _ _ _ _ _ _ _ _ _ _ _ _ _ (Br.dec (λh=>by omega) λ_ N1 I=>vR ab _ (by decide) _ N1 _ λb2 O N2 aj Y aa _ _=>⟨⟨rfl,rfl⟩,⟨rfl,rfl⟩,⟨rfl,rfl⟩,λa N3 ak _=>⟨zV,λN4 ah=>fin l es a q O b2 N4 (by omega) Y (by omega) U (by omega) (by omega)⟩⟩)
  | succ j ih=>
    intro k9 n1 b1 l es q N' hk au ab aw U ax hc ay
    have e1:IntKind.i64.wrap (k9+1)=k9+1:=i64_in _ (by omega)
    have nx:∀ (n3:Int) (b3:Bool) (x:D) (N3 c1:Nat),N<=N3->Rs s n3->n1<=n3->SomC (3+2000*(n3 - n1).toNat) x->zX E Q N O dep (IntKind.i64.wrap (k9+1)) s n3 b3 (.j k) (.t nm) (.t ot) (.j m) t0 t1 r0 r1 (es++[x]).length c1 0 (bytes []) (bytes []) 0 0 none [] 0 0 none [] 0 none [] 0 (es++[x]) c1 N3:=λn3 b3 x N3 c1 h az a4 hx=>by
     obtain ⟨t,ht,a2⟩:=hx
     rw [e1]
     refine ih (k9+1) n3 b3 (l++[t]) (es++[x]) c1 N3 (by omega) (by omega) az (by omega) (U.snoc ht) (by simp;omega) ?_ h
     have:zI (l++[t])=zI l+t.cnt:=by
      clear U hc
      induction l with
      | nil=>simp [zI]
      | cons y l al=>simp only [nG,zI,al];omega
     omega
    have ai:∀ x:D,zA es [x] 136:=λx=>by unfold zA;rw [oI];simp only [oO,oX];omega
    refine uI _ _ _ _ _ _ _ _ _ _ _ _ _ _ _ _ _ _ _ _ _ _ _ _ _ _ _ _ _ _ _ _ _ _ _ _ _ (Br.dec (λ_=>Br.of (λ_=>Br.of (λ_ N1 I=>?_) λ_ N1 I=>?_) λ_ N1 I=>vR ab _ (by decide) _ N1 _ λb2 O N2 aj Y aa _ _=>⟨⟨rfl,rfl⟩,⟨rfl,rfl⟩,⟨rfl,rfl⟩,λa N3 ak _=>⟨zV,λN4 ah=>fin l es a q O b2 N4 (by omega) Y (by omega) U (by omega) (by omega)⟩⟩) λh=>by omega)
    ·refine vR ab _ (by decide) _ N1 _ λb2 O N2 aj Y aa _ _ N3 ak=>hP s O b2 N3 _ Y λx n4 b4 N4 ah ac am hx _ _=>⟨⟨rfl,rfl⟩,ai x,λc1=>nx n4 b4 x N4 c1 (by omega) ac (by omega) (hx.mono (by omega))⟩
    ·exact hP s n1 b1 N1 _ ab λx n4 b4 N4 ah ac am hx _ _=>⟨⟨rfl,rfl⟩,ai x,λc1=>nx n4 b4 x N4 c1 (by omega) ac (by omega) hx⟩
 have e1:IntKind.i64.wrap ((0:Int)+1)=0+1:=rfl
 have ai:∀ x:D,zA J [x] 136:=λx=>by unfold zA;rw [oI];simp only [oO,oX];omega
 have ae:∀ N1,N<=N1->∀ b',BCalls prog 115 [.str,.i,.bool] [.pb 0 0 0 0,.str (bytes [41])] [.var [.str s,.j n,.bool b']] N1 (λs n b N2=>N1<=N2->zR E [.var [.str (bytes []),.j 0,.bool false]]/\∀ N3,N2<=N3->Q (.ag [.j k,.t nm,.t ot,.j m,t0,t1,r0,r1,.sl a0 9 J c0]) s n b N3):=λN1 I b'=>
  vR hr _ (by decide) _ N1 _ λb2 O N2 aj Y aa _ _=>⟨zV,λN3 ak=>fin l0 J a0 c0 O b2 N3 (by omega) Y aa h0 (by omega) (by omega)⟩
 refine zCd _ _ _ _ _ _ _ _ _ _ _ _ _ _ _ _ _ _ _ _ _ _ _ _ _ _ (Br.dec (λ_=>Br.of (λ_=>Br.dec (λh=>by omega) λ_=>⟨_,_,_,rfl,λN1 I=>?_⟩) λ_ N1 I=>ae N1 I _) λ_ N1 I=>ae N1 I _)
 refine hP s n b N1 _ hr λx n4 b4 N4 ah ac am hx _ _=>⟨ao x,ai x,λc1=>?_⟩
 obtain ⟨t,ht,a2⟩:=hx
 refine key (O - 1).toNat 1 n4 b4 (l0++[t]) (J++[x]) c1 N4 (by omega) (by omega) ac (by omega) (h0.snoc ht) (by simp;omega) ?_ (by omega)
 have:zI (l0++[t])=zI l0+t.cnt:=by
  clear key fin ae hw h0
  induction l0 with
  | nil=>simp [zI]
  | cons y l al=>simp only [nG,zI,al];omega
 omega
theorem zI7 {nm ot:ByteArray} (I:nm.size<=1000) (J:ot.size<=1000):Tm.Hd nm ot (.mk 0 []) (.mk 0 []) (.j 0) (.sl none 2 [] 0) (.j 0) (.sl none 2 [] 0):=⟨by omega,by omega,yz 0,yz 0⟩
theorem zCX:(Ty.mk 0 []).cnt=1:=rfl
/-- a form without parts yet -/
theorem zGj {dep:Int} (hP:zKY dep) (k:Int) {nm:ByteArray} (h1:nm.size<=1000) (J:Int) (O:0<=J/\J<=3) {s:ByteArray} {n:Int} (hr:Rs s n) (b:Bool) (N:Nat) (Q:QT [.ag 9,.str,.i,.bool])
  (hQ:∀ d I U N',N<=N'->Rs s I->n<=I->SomC (1100+2000*(I - n).toNat) d->Q d s I U N'):BCalls prog 125 [.ag 9,.str,.i,.bool] [.pb 0 0 0 0,.dg 9 (.ag [.j k,.t nm,.t (bytes []),.j 0,.j 0,.sl none 2 [] 0,.j 0,.sl none 2 [] 0,.sl none 9 [] 0]),.j J,.j dep] [.var [.str s,.j n,.bool b]] N Q:=
 zJl hP (zI7 h1 (by decide)) (l0:=[]) rfl (by simp) (a0:=none) (c0:=0) (λ_=>trivial) (w:=3) (by simp [zCX,zI]) J O hr b N Q λd I U N' h Y hn hd=>hQ d I U N' h Y hn (hd.mono (by omega))
theorem zRt {dep:Int} (hP:zKY dep) {m1:Nat} {x:D} (hx:SomC m1 x) {s:ByteArray} {n:Int} (hr:Rs s n) (b:Bool) (N:Nat) (Q:QT [.ag 9,.str,.i,.bool])
  (hQ:∀ d I O N',N<=N'->Rs s I->n<=I->SomC (m1+20+2000*(I - n).toNat) d->Q d s I O N'):BCalls prog 127 [.ag 9,.str,.i,.bool] [.pb 0 0 0 0,.dg 9 x,.j dep] [.var [.str s,.j n,.bool b]] N Q:=by
 obtain ⟨t,ht,hc⟩:=hx
 have h1:=hr.lo
 have h2:=hr.hi
 have h3:=hr.l
 have app:∀ (I:Int) (O:Bool) (a:Option Addr) (N':Nat),N<=N'->Rs s I->n<=I->Q (.ag [.j 7,.t (bytes []),.t (bytes []),.j 0,.j 0,.sl none 2 [] 0,.j 0,.sl none 2 [] 0,.sl a 9 [x] 1]) s I O N':=λI O a N' h J hn=>hQ _ _ _ _ h J hn ⟨.mk 7 (bytes []) (bytes []) 0 (.mk 0 []) (.mk 0 []) [t],Tm.is_mk.2 ⟨_,_,_,_,_,_,_,rfl,zI7 (by decide) (by decide),by simp,rK ht⟩,by simp only [Tm.cnt,zCX,zI];omega⟩
 have args:∀ (k:Int) (nm:ByteArray) (ac:nm.size<=1000) (a:Option Addr) (n1:Int) (ae:Rs s n1) (_:n<=n1) (O:Bool) (N1:Nat) (_:N<=N1) (Q1:QT [.ag 9,.str,.i,.bool]) (_:∀ d I O N',N1<=N'->Rs s I->n1<=I->SomC (m1+20+2000*(I - n).toNat) d->Q1 d s I O N'),BCalls prog 125 [.ag 9,.str,.i,.bool] [.pb 0 0 0 0,.dg 9 (.ag [.j k,.t nm,.t (bytes []),.j 0,.j 0,.sl none 2 [] 0,.j 0,.sl none 2 [] 0,.sl a 9 [x] 1]),.j 1,.j dep] [.var [.str s,.j n1,.bool O]] N1 Q1:=λk nm ac a n1 ae ao O N1 ai Q1 aj=>
  zJl hP (zI7 ac (by decide)) (rK ht) (by simp) (λy=>by cases a<;>exact ⟨rfl,by simp⟩) (w:=3+m1) (by simp only [zCX,zI];omega) 1 ⟨by omega,by omega⟩ ae O N1 Q1 λd I b2 N' h J ak hd=>aj d I b2 N' h J ak (hd.mono (by omega))
 refine zBl N x dep s n b Q λE _ N1 ai=>w9 hr _ (by decide) _ N1 _ λb2 n2 N2 aq U Y z2 _ _=>Br.of (λ_=>⟨⟨rfl,rfl⟩,⟨rfl,rfl⟩,⟨rfl,rfl⟩,⟨rfl,rfl⟩,λa N3 aa _ N4 ab=>?_⟩) λal=>Br.of (λ_=>⟨⟨rfl,rfl⟩,⟨rfl,rfl⟩,⟨rfl,rfl⟩,⟨rfl,rfl⟩,⟨rfl,rfl⟩,λa N3 aa _=>⟨zV,λN4 ab=>app _ _ _ _ (by omega) U Y⟩⟩) λ_=>Br.dec (λ_=>⟨⟨rfl,rfl⟩,⟨rfl,rfl⟩,⟨rfl,rfl⟩,⟨rfl,rfl⟩,⟨rfl,rfl⟩,λa N3 aa _=>⟨zV,λN4 ab=>app _ _ _ _ (by omega) U Y⟩⟩) λau=>?_
 ·exact args 7 _ (by decide) a n2 U Y _ N4 (by omega) _ λd I O N' h J hn hd _ _=>⟨zV,λN5 ah=>hQ _ _ _ _ (by omega) J (by omega) hd⟩
 ·have z2:=z2 al;subst z2
  have h1:=U.lo
  have e1:IntKind.i64.wrap (n2+1)=n2+1:=i64_in _ (by omega)
  rw [e1]
  refine ⟨⟨h1,by omega,by omega⟩,λN3 aa=>um _ N3 _ λN4 ab _=>Br.bne (λ_=>⟨⟨rfl,rfl⟩,⟨rfl,rfl⟩,⟨rfl,rfl⟩,⟨rfl,rfl⟩,⟨rfl,rfl⟩,λa N5 ah _=>⟨zV,λN6 am=>app _ _ _ _ (by omega) U Y⟩⟩) λ_=>⟨⟨h1,by omega,by omega⟩,⟨rfl,rfl⟩,⟨rfl,rfl⟩,⟨rfl,rfl⟩,⟨rfl,rfl⟩,λa N5 ah _ N6 am=>?_⟩⟩
  exact args 4 _ (by rw [mK];omega) a (n2+1) ⟨h3,by omega,by omega⟩ (by omega) _ N6 (by omega) _ λd I O N' h J hn hd _ _=>⟨zV,λN7 aw=>hQ _ _ _ _ (by omega) J (by omega) hd⟩
theorem zSl {dep:Int} (hP:zKY dep) {s:ByteArray} {n:Int} (hr:Rs s n) (b:Bool) (N:Nat) (Q:QT [.ag 9,.str,.i,.bool])
  (hQ:∀ d I b' N',N<=N'->Rs s I->n<=I->SomC (1100+2000*(I - n).toNat) d->Q d s I b' N'):BCalls prog 126 [.ag 9,.str,.i,.bool] [.pb 0 0 0 0,.j dep] [.var [.str s,.j n,.bool b]] N Q:=by
 refine zCY N dep s n b Q λE N1 bc=>zEX hr _ N1 _ λnm n2 N2 bg aa bh bi _ N3 bj=>vR aa _ (by decide) _ N3 _ λb4 n4 N4 bm ab bp _ _ N5 bq=>zEX ab _ N5 _ λot n6 N6 bt ac bv bw _ N7 bz=>vR ac _ (by decide) _ N7 _ λb8 n8 N8 b1 ae b2 _ _ N9 b3=>?_
 refine zLt 8 (by omega) 1 (by omega) ae _ N9 _ λty d b5 b6 b7 au J aw ah ax _ _ ai ay=>vR J _ (by decide) _ ai _ λb9 ca cc az O a2 _ _ aj a3=>?_
 refine zLt 8 (by omega) 1 (by omega) O _ aj _ λre e cd ce cf a4 U a5 ak a6 _ _ al a7=>vR U _ (by decide) _ al _ λam cg ch a8 Y a9 _ _ ao ba=>?_
 have hp:2 ^ (8+1)=512:=rfl
 refine zJl hP (k:=9) (m:=0) (ty:=ty) (re:=re) ⟨by omega,by omega,Ty.is_cells ah,Ty.is_cells ak⟩ (l0:=[]) rfl (by simp) (a0:=none) (c0:=0) (λ_=>trivial) (w:=1025) (by simp only [zI];omega) 1 ⟨by omega,by omega⟩ Y am ao _ λx I b' N' h aq hn hx _ _=>⟨zV,λcj bb=>hQ _ _ _ _ (by omega) aq (by omega) (hx.mono (by omega))⟩
theorem zNX {s:ByteArray} {n:Int} (hr:Rs s n) (b:Bool) (N:Nat) (Q:QT [.ag 9,.str,.i,.bool])
  (Y:∀ d n' b' N',N<=N'->Rs s n'->n<=n'->SomC 3 d->Q d s n' b' N'):BCalls prog 117 [.ag 9,.str,.i,.bool] [.pb 0 0 0 0] [.var [.str s,.j n,.bool b]] N Q:=by
 have rd:∀ (w:ByteArray) (hw:w.size<=1000) (N:Nat) (Q:QT [.i,.bool]) (Y:∀ n b N',N<=N'->Q n b N'),ACalls prog 128 [.i,.bool] [.str w] N Q:=λw hw N Q Y=>by
  refine ph N w Q λN1 ah=>?_
  have en:∀ n b N2,N1<=N2->Br (!b) (∀ N3,N2<=N3->Q 0 false N3) (Br (decide (n<0)) (∀ J,N2<=J->Q 0 false J) (∀ I,N2<=I->Q n true I)):=λn b N2 aa=>Br.of (λ_ N3 O=>Y _ _ _ (by omega)) λ_=>Br.of (λ_ N3 O=>Y _ _ _ (by omega)) λ_ N3 O=>Y _ _ _ (by omega)
  have key:∀ (b6:Bool) (t:ByteArray),t.size<=6->zr (λn b N2=>N1<=N2->Br (!b) (∀ N3,N2<=N3->Q 0 false N3) (Br (decide (n<0)) (∀ J,N2<=J->Q 0 false J) (∀ I,N2<=I->Q n true I))) N1 w b6 t 0 0 N1:=λb6 t ht=>by
   have lp:∀ (m:Nat) (k:Nat) (v:Int),k+m=t.size->0<=v->v<10 ^ k->zr (λn b N2=>N1<=N2->Br (!b) (∀ N3,N2<=N3->Q 0 false N3) (Br (decide (n<0)) (∀ J,N2<=J->Q 0 false J) (∀ I,N2<=I->Q n true I))) N1 w b6 t v k N1:=by
    intro m
    induction m with
    | zero=>
      intro k v hk ai hv
      have aj:v<1000000:=Int.lt_of_lt_of_le hv (by
       have:(10:Nat) ^ k<=10 ^ 6:=nk (by omega) (by omega)
       have:((10 ^ k:Nat):Int)<=((10 ^ 6:Nat):Int):=Int.ofNat_le.2 this
       simpa using this)
      have e0:IntKind.i64.wrap (0 - v)=0 - v:=i64_in _ (by omega)
      refine sk _ _ _ _ _ _ _ _ (Br.dec (λh=>by omega) λ_=>Br.of (λ_ N3 O=>?_) λ_ N3 O=>?_)
      ·rw [e0]
       exact zPj _ (by omega) N3 _ λz J ab hz _=>Br.of (λ_ I U _=>en _ _ _ (by omega)) λ_ I U _=>en _ _ _ (by omega)
      ·exact zPj _ (by omega) N3 _ λz J ab hz _=>Br.of (λ_ I U _=>en _ _ _ (by omega)) λ_ I U _=>en _ _ _ (by omega)
    | succ m ih=>
      intro k v hk ai hv
      have aj:v<1000000:=Int.lt_of_lt_of_le hv (by
       have:(10:Nat) ^ k<=10 ^ 6:=nk (by omega) (by omega)
       have:((10 ^ k:Nat):Int)<=((10 ^ 6:Nat):Int):=Int.ofNat_le.2 this
       simpa using this)
      have bd:0<=(k:Int)/\(k:Int)<(t.size:Int):=⟨by omega,by omega⟩
      refine sk _ _ _ _ _ _ _ _ (Br.of (λ_=>⟨bd,Br.dec (λ_ N3 O _=>en _ _ _ (by omega)) λh1=>⟨bd,Br.dec (λ_ N3 O _=>en _ _ _ (by omega)) λh2=>⟨bd,?_⟩⟩⟩) λh=>by
       rw [decide_eq_false_iff_not] at h;omega)
      generalize ((t.data.getD (k:Int).toNat (OfNat.ofNat 0)).toNat:Int)=c at h1 h2 ⊢
      have e3:IntKind.u8.wrap (c - 48)=c - 48:=u8_in _ (by omega)
      rw [e3,i64_in (10*v) (by omega),i64_in (c - 48) (by omega),i64_in (10*v+(c - 48)) (by omega),i64_in ((k:Int)+1) (by omega)]
      refine ih (k+1) _ (by omega) (by omega) ?_
      rw [Int.pow_succ]
      omega
   exact lp t.size 0 0 (by omega) (by omega) (by decide)
  have cut:∀ b6:Bool,∀ t:ByteArray,Br (decide ((t.size:Int)<1)) (∀ N2,N1<=N2->N1<=N2->Br (!false) (∀ N3,N2<=N3->Q 0 false N3) (Br (decide ((0:Int)<0)) (∀ J,N2<=J->Q 0 false J) (∀ I,N2<=I->Q 0 true I))) (Br (decide ((t.size:Int)>6)) (∀ N2,N1<=N2->N1<=N2->Br (!false) (∀ N3,N2<=N3->Q 0 false N3) (Br (decide ((0:Int)<0)) (∀ J,N2<=J->Q 0 false J) (∀ I,N2<=I->Q 0 true I))) (zr (λn b N2=>N1<=N2->Br (!b) (∀ N3,N2<=N3->Q 0 false N3) (Br (decide (n<0)) (∀ J,N2<=J->Q 0 false J) (∀ I,N2<=I->Q n true I))) N1 w b6 t 0 0 N1)):=λb6 t=>
   Br.of (λ_ N2 aa _=>en 0 false _ (by omega)) λ_=>Br.dec (λ_ N2 aa _=>en 0 false _ (by omega)) λh=>key b6 t (by omega)
  refine zFL N1 w 6 _ (Br.dec (λh=>⟨⟨by omega,by omega⟩,Br.of (λ_=>⟨⟨by omega,by omega,by omega⟩,cut _ _⟩) λ_=>cut _ _⟩) λh=>cut _ _)
 refine pC N s n b Q λE N1 ah=>zEX hr _ N1 _ λw n2 N2 aa ac ae hw _ N3 O=>rd w hw N3 _ λv bv J ab _=>Br.of (λ_ I U=>zQG v I _ λd N6 ak hd _ _=>⟨zV,λN7 al=>Y _ _ _ _ (by omega) ac ae hd.c⟩) λ_ I U=>zQG v I _ λd N6 ak hd _ _=>⟨zV,λN7 al=>Y _ _ _ _ (by omega) ac ae hd.c⟩
theorem zRs {dep:Int} (hP:zKY dep) {s:ByteArray} {n:Int} (hr:Rs s n) (b:Bool) (N:Nat) (Q:QT [.ag 9,.str,.i,.bool])
  (hQ:∀ d n' b' N',N<=N'->Rs s n'->n<=n'->SomC (1100+2000*(n' - n).toNat) d->Q d s n' b' N'):BCalls prog 116 [.ag 9,.str,.i,.bool] [.pb 0 0 0 0,.j dep] [.var [.str s,.j n,.bool b]] N Q:=by
 have hp:2 ^ (8+1)=512:=rfl
 refine zBQ N dep s n b Q λE N1 b5=>w9 hr _ (by decide) _ N1 _ λb2 n2 N2 b7 aq b9 _ _ _=>Br.of (λ_ N3 a8=>?_) λ_ N3 a8=>w9 aq _ (by decide) _ N3 _ λb4 n4 N4 a9 ae ba _ _ _=>Br.of (λ_ N5 au=>?_) λ_ N5 au=>w9 ae _ (by decide) _ N5 _ λb6 n6 N6 aw aa ax _ _ _=>Br.of (λ_ N7 ak=>?_) λ_ N7 ak=>w9 aa _ (by decide) _ N7 _ λb8 n8 N8 ay ab az _ _ _=>Br.of (λ_ N9 al=>?_) λ_ N9 al=>w9 ab _ (by decide) _ N9 _ λa2 bb bc a3 Y a4 _ _ _=>Br.of (λ_ ac ah=>?_) λ_ ac ah=>w9 Y _ (by decide) _ ac _ λca cc cd bp ai bq _ _ _=>Br.of (λ_ am a5=>?_) λ_ am a5=>w9 ai _ (by decide) _ am _ λce bg cf bt aj bv _ _ _=>Br.of (λ_ ao a6=>?_) λ_ ao a6=>?_
 ·refine zEX aq _ N3 _ λnm n4 N4 a9 ae ba bh _ N5 au=>vR ae _ (by decide) _ N5 _ λb6 n6 N6 aw aa ax _ _ N7 ak=>?_
  refine zLt 8 (by omega) 1 (by omega) aa _ N7 _ λty d n8 b8 N8 ay ab az bi bw _ _ N9 al=>vR ab _ (by decide) _ N9 _ λa2 bb bc a3 Y a4 _ _ ac ah=>?_
  exact zJl hP (k:=6) (m:=0) (ty:=ty) (re:=.mk 0 []) ⟨by omega,by decide,Ty.is_cells bi,yz 0⟩ (l0:=[]) rfl (by simp) (a0:=none) (c0:=0) (λ_=>trivial) (w:=1025) (by simp only [zI,zCX];omega) 1 ⟨by omega,by omega⟩ Y a2 ac _ λx n' b' N' h I hn O _ _=>⟨zV,λU J=>hQ _ _ _ _ (by omega) I (by omega) (O.mono (by omega))⟩
 ·refine zEX ae _ N5 _ λnm n6 N6 aw aa ax bh _ N7 ak=>vR aa _ (by decide) _ N7 _ λb8 n8 N8 ay ab az _ _ N9 al=>?_
  exact zGj hP 8 (by omega) 2 ⟨by omega,by omega⟩ ab b8 N9 _ λx n' b' N' h I hn O _ _=>⟨zV,λU J=>hQ _ _ _ _ (by omega) I (by omega) (O.mono (by omega))⟩
 ·exact zSl hP aa _ N7 _ λx n' b' N' h I hn O _ _=>⟨zV,λU J=>hQ _ _ _ _ (by omega) I (by omega) (O.mono (by omega))⟩
 ·exact zGj hP 5 (by decide) 3 ⟨by omega,by omega⟩ ab _ N9 _ λx n' b' N' h I hn O _ _=>⟨zV,λU J=>hQ _ _ _ _ (by omega) I (by omega) (O.mono (by omega))⟩
 ·exact zGj hP 12 (by decide) 1 ⟨by omega,by omega⟩ Y _ ac _ λx n' b' N' h I hn O _ _=>⟨zV,λU J=>hQ _ _ _ _ (by omega) I (by omega) (O.mono (by omega))⟩
 ·exact zGj hP 13 (by decide) 1 ⟨by omega,by omega⟩ ai _ am _ λx n' b' N' h I hn O _ _=>⟨zV,λU J=>hQ _ _ _ _ (by omega) I (by omega) (O.mono (by omega))⟩
 ·exact zGj hP 4 (by decide) 1 ⟨by omega,by omega⟩ aj _ ao _ λx n' b' N' h I hn O _ _=>⟨zV,λU J=>hQ _ _ _ _ (by omega) I (by omega) (O.mono (by omega))⟩
 ·refine hP s bg _ ao _ aj λx cg bj ch bz a7 b1 O _ _ bm b3=>?_
  exact zRt hP O a7 bj bm _ λx n' b' N' h I hn O _ _=>⟨zV,λU J=>hQ _ _ _ _ (by omega) I (by omega) (O.mono (by omega))⟩
theorem zQn:∀ (j:Nat),j<=20->∀ n1:Int,n1+j=21->zKY n1:=by
 have nod:∀ (k:Int) {m:Nat} {x:D} (a:Option Addr),SomC m x->SomC (3+m) (.ag [.j k,.t (bytes []),.t (bytes []),.j 0,.j 0,.sl none 2 [] 0,.j 0,.sl none 2 [] 0,.sl a 9 [x] 1]):=λk m x a ⟨t,ht,hc⟩=>
  ⟨.mk k (bytes []) (bytes []) 0 (.mk 0 []) (.mk 0 []) [t],Tm.is_mk.2 ⟨_,_,_,_,_,_,_,rfl,zI7 (by decide) (by decide),by simp,rK ht⟩,by simp only [Tm.cnt,zCX,zI];omega⟩
 intro j
 induction j with
 | zero=>
   intro _ n1 bp s n b N Q hr hQ
   exact tu N n1 s n b Q λE=>Br.of (λ_=>⟨zV,λN1 U=>hQ _ _ _ _ U hr (mM _) (some_nod.c.mono (by omega))⟩) λ_=>Br.dec (λ_=>⟨zV,λN1 U=>hQ _ _ _ _ U hr (mM _) (some_nod.c.mono (by omega))⟩) λh=>by omega
 | succ j ih=>
   intro hj n1 bp s n b N Q hr hQ
   have e1:IntKind.i64.wrap (n1+1)=n1+1:=i64_in _ (by omega)
   have hP:=ih (by omega) (n1+1) (by omega)
   have sz:∀ x,((bytes [x]).size:Int)=1:=λ_=>rfl
   refine tu N n1 s n b Q λE=>Br.of (λ_=>⟨zV,λN1 U=>hQ _ _ _ _ U hr (mM _) (some_nod.c.mono (by omega))⟩) λ_=>Br.dec (λ_=>⟨zV,λN1 U=>hQ _ _ _ _ U hr (mM _) (some_nod.c.mono (by omega))⟩) λ_=>Br.dec (λ_=>⟨zV,λN1 U=>hQ _ _ _ _ U hr (mM _) (some_nod.c.mono (by omega))⟩) λca N1 U=>?_
   rw [e1]
   refine w9 hr _ (by decide) _ N1 _ λb2 n2 N2 cc a2 cd z2 _ _=>Br.of (λ_ N3 bq=>zMK 1 N3 _ λd N4 bt hd _ _=>⟨zV,λN5 a3=>hQ _ _ _ _ (by omega) a2 (by omega) (hd.c.mono (by omega))⟩) λbv N3 bq=>?_
   have z2:=z2 bv;subst z2
   refine w9 a2 _ (by decide) _ N3 _ λb4 n4 N4 bt a4 ce z4 _ _=>Br.of (λ_ N5 a3=>zMK 0 N5 _ λd N6 bw hd _ _=>⟨zV,λN7 a5=>hQ _ _ _ _ (by omega) a4 (by omega) (hd.c.mono (by omega))⟩) λbz N5 a3=>?_
   have z4:=z4 bz;subst z4
   refine w9 a4 _ (by decide) _ N5 _ λb6 n6 N6 bw a6 cf z6 g6 _=>Br.of (λal N7 a5=>?_) λal N7 a5=>?_
   ·have g6:=g6 al
    rw [sz] at g6
    exact hP s n6 _ N7 _ a6 λx n8 b8 N8 b1 ah b3 hx _ _=>⟨⟨rfl,rfl⟩,⟨rfl,rfl⟩,⟨rfl,rfl⟩,λa N9 a7 _=>⟨zV,λam ak=>hQ _ _ _ _ (by omega) ah (by omega) ((nod 11 a hx).mono (by omega))⟩⟩
   have z6:=z6 al;subst z6
   refine w9 a6 _ (by decide) _ N7 _ λb8 n8 N8 b1 ah b3 z8 g8 _=>Br.of (λao N9 a7=>?_) λao N9 a7=>?_
   ·have g8:=g8 ao
    rw [sz] at g8
    exact hP s n8 _ N9 _ ah λx ai b5 am ak Y a8 hx _ _ I J=>vR Y _ (by decide) _ I _ λa9 aq au ab O aa _ _=>⟨⟨rfl,rfl⟩,⟨rfl,rfl⟩,⟨rfl,rfl⟩,⟨rfl,rfl⟩,⟨rfl,rfl⟩,λa aj ac _=>⟨zV,λb7 ba=>hQ _ _ _ _ (by omega) O (by omega) ((nod 10 a hx).mono (by omega))⟩⟩
   have z8:=z8 ao;subst z8
   refine w9 ah _ (by decide) _ N9 _ λb5 ai am ak Y a8 aw ax _=>Br.of (λae I J=>?_) λae=>?_
   ·have ax:=ax ae
    rw [sz] at ax
    exact zRs hP Y _ I _ λx aq a9 au ab O aa hx _ _=>⟨zV,λaj ac=>hQ _ _ _ _ (by omega) O (by omega) (hx.mono (by omega))⟩
   have aw:=aw ae;subst aw
   have bd:0<=ai/\ai<(s.size:Int):=⟨Y.lo,by omega⟩
   have word:∀ I,am<=I->∀ (b':Bool),BCalls prog 118 [.str,.str,.i,.bool] [.pb 0 0 0 0] [.var [.str s,.j ai,.bool b']] I (λbb bc bg bh bi=>I<=bi->∀ ay,bi<=ay->ACalls prog 49 [.ag 9] [.str bb] ay (λbj az=>ay<=az->Bel az bj->zR E [.var [.str (bytes []),.j 0,.bool false]]/\∀ bm,az<=bm->Q bj bc bg bh bm)):=λI J b'=>
    zEX Y _ I _ λw aq au ab O aa hw _ aj ac=>zQo w (by omega) aj _ λd b7 ba hd _ _=>⟨zV,λcg b9=>hQ _ _ _ _ (by omega) O aa (hd.c.mono (by omega))⟩
   exact ⟨bd,Br.of (λ_=>⟨bd,Br.of (λ_ I J=>zNX Y _ I _ λd aq a9 au ab O aa hd _ _=>⟨zV,λaj ac=>hQ _ _ _ _ (by omega) O aa (hd.mono (by omega))⟩) λ_ I J=>word I J _⟩) λ_ I J=>word I J _⟩
/-- what a short text is parsed to -/
theorem zQP {s:ByteArray} (aa:1<=s.size) (hs:s.size<=104) (N:Nat) (Q:QT [.ag 9,.bool]) (J:∀ d b N',N<=N'->SomB 2100000 d->Q d b N'):ACalls prog 82 [.ag 9,.bool] [.str s] N Q:=by
 have z:=some_nod.b (by omega) |>.mono (show 3<=2100000 by omega)
 refine zBd N s Q λN1 ab=>zQn 20 (by omega) 1 (by omega) s 0 _ N1 _ ⟨by omega,by omega,by omega⟩ λx n2 b2 N2 ac O ae hx _ _=>Br.of (λ_ N3 I=>J _ _ _ (by omega) z) λ_=>Br.of (λ_ N3 I=>J _ _ _ (by omega) z) λ_ N3 I=>?_
 have:=O.hi
 obtain ⟨t,Y,hc⟩:=hx
 refine zRc t x Y (by omega) N3 _ λw N4 ah hw _=>Br.nstr (λ_ N5 U=>J _ _ _ (by omega) z) λhe N5 U=>J _ _ _ (by omega) ⟨t,Y,by omega,?_⟩
 subst he
 omega
end Go.Proofs.YtnmnahkkcfghjaaGreat
