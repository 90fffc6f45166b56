/- Drawing: texts of types and terms, roughly: some string, not too long. -/
import Derived.Test.YtfajiphkncipoaaGreatDoorKp
import Derived.Test.YtfajiphkncipoaaGreatDoorC1
import Derived.Test.YtfajiphkncipoaaGreatDoorA5
set_option linter.unusedVariables false
set_option linter.unusedSimpArgs false
set_option maxRecDepth 100000
namespace Go.Proofs.YtfajiphkncipoaaGreatDoor
open Go Go.Proofs Go.Proofs.Tryz Go.IntWalk
/-- some string of at most this many letters -/
def zTz (f:FuncId) (args:List PV) (P:ByteArray->Prop):Prop:=∀ (N:Nat) (Q:QT [.str]),(∀ s N',N<=N'->P s->Q s N')->ACalls prog f [.str] args N Q
def zUw (f:FuncId) (args:List PV) (n:Nat):Prop:=∀ (N:Nat) (Q:QT [.str]),(∀ s N',N<=N'->s.size<=n->Q s N')->ACalls prog f [.str] args N Q
theorem zHa (l:List Int):∀ b:ByteArray,(l.foldl (λr n=>r.push (UInt8.ofNat n.toNat)) b).size=b.size+l.length:=by
 induction l with
 | nil=>intro b;simp
 | cons x l I=>intro b;simp only [List.foldl_cons,I,ByteArray.size_push,oM];omega
theorem rY (l:List Int):(bytesOf l).size=l.length:=by
 unfold bytesOf;rw [zHa];simp
theorem zRm (n:Int) (h:n.natAbs<10000000000):zUw 194 [.j n] 11:=λN Q J=>by
 refine sf N n Q (Br.beq (λ_ N1 I=>J _ _ I (by decide)) λ_=>?_)
 have key:∀ (m:Nat) (x:Int) (s:ByteArray),x.natAbs<10 ^ m->m+s.size<=10->∀ b,za Q N x b s N:=by
  intro m
  induction m with
  | zero=>
    intro x s O hs b
    refine w8 _ _ _ _ _ _ (Br.bne (λh=>by omega) λ_=>Br.of (λ_=>⟨by omega,λN1 I=>J _ _ I ?_⟩) λ_ N1 I=>J _ _ I (by omega))
    rw [oL]
    have:(bytes [45]).size=1:=rfl
    omega
  | succ m Y=>
    intro x s O hs b
    have hb:x.natAbs<10000000000:=o6 O (by rw [show (10000000000:Nat)=10 ^ 10 from rfl];exact nQ (by omega) (by omega))
    have hq:(Int.tdiv x 10).natAbs=x.natAbs / 10:=Int.natAbs_tdiv x 10
    have hd:IntKind.i64.wrap (Int.tdiv x 10)=Int.tdiv x 10:=i64_in _ (by omega)
    have U:∀ es:List Int,es.length=1->za Q N (IntKind.i64.wrap (Int.tdiv x 10)) b (bytesOf es++s) N:=λes he=>by
     rw [hd]
     refine Y _ _ ?_ ?_ b
     ·rw [hq]
      rw [mR] at O
      omega
     ·rw [oL,rY];omega
    have sz:∀ es:List Int,es.length=1->(bytesOf es).size+s.size<=9223372036854775807:=λes he=>by rw [rY];omega
    refine w8 _ _ _ _ _ _ (Br.bne (λ_=>⟨by decide,Br.of (λ_=>⟨by simp,[_],rfl,sz _ rfl,by decide,U _ rfl⟩) λ_=>⟨by simp,[_],rfl,sz _ rfl,by decide,U _ rfl⟩⟩) λ_=>Br.of (λ_=>⟨by omega,λN1 I=>J _ _ I ?_⟩) λ_ N1 I=>J _ _ I (by omega))
    rw [oL]
    have:(bytes [45]).size=1:=rfl
    omega
 exact key 10 n _ (by simpa using h) (by decide) _
theorem zRa:∀ t:Ty,t.form=true->Wf t:=by
 refine Ty.ind λk l ih h=>?_
 simp only [Ty.form,oI] at h
 obtain ⟨J,O⟩:=h
 have sub:∀ t∈l,Wf t:=λt ht=>ih t ht (by
  have key:∀ l:List Ty,wZ l=true->∀ t∈l,t.form=true:=by
   intro l
   induction l with
   | nil=>intro _ t ht;simp at ht
   | cons x l U=>
     intro h t ht
     simp only [wZ,oI] at h
     rcases oF.1 ht with rfl | ht
     ·exact h.1
     ·exact U h.2 t ht
  exact key l (by first | exact J | exact O) t ht)
 have I:sY k l.length=true:=by first | exact J | exact O
 unfold sY at I
 split at I
 ·rename_i Y
  have:l=[]:=oU (by have:=nw.1 I;omega)
  subst this
  rcases Y with rfl | rfl
  ·exact .int
  ·exact .bool
 split at I
 ·rename_i aa;subst aa
  have O:l.length=2:=by have:=nw.1 I;omega
  match l,O,sub with
  | [a,b],_,sub=>exact .fn (sub a (by simp)) (sub b (by simp))
 split at I
 ·rename_i ab;subst ab
  have J:l.length=1:=by have:=nw.1 I;omega
  match l,J,sub with
  | [a],_,sub=>exact .code (sub a (by simp))
 ·cases I
theorem zOq {t:Ty} (hw:Wf t):t.cnt<=1000000->∀ {d:D},t.Is d->zUw 208 [.dg 2 d] (3*t.cnt):=by
 have U:∀ x,(bytes [x]).size=1:=λ_=>rfl
 induction hw with
 | int=>
   intro hc d hd N Q J
   obtain ⟨b,fs,k,rfl,_,h2⟩:=Ty.is_mk.1 hd
   exact uD N _ Q λ_=>⟨1,rfl,Br.beq (λ_ N1 I=>J _ _ I (by decide)) λh=>absurd rfl h⟩
 | bool=>
   intro hc d hd N Q J
   obtain ⟨b,fs,k,rfl,_,h2⟩:=Ty.is_mk.1 hd
   exact uD N _ Q λ_=>⟨2,rfl,Br.beq (λh=>absurd h (by decide)) λ_=>Br.beq (λ_ N1 I=>J _ _ I (by decide)) λh=>absurd rfl h⟩
 | @fn u v hu hv O Y=>
   intro hc d hd N Q J
   have aa:(wR u v).cnt=1+(u.cnt+(v.cnt+0)):=rfl
   obtain ⟨b,fs,k,rfl,ab,d1,_,rfl,h3,d2,_,rfl,h4,rfl⟩:=Ty.is_mk.1 hd
   refine uD N _ Q λ_=>⟨3,rfl,Br.beq (λh=>absurd h (by decide)) λ_=>Br.beq (λh=>absurd h (by decide)) λ_=>Br.beq (λ_=>⟨_,_,_,rfl,⟨by simp,by simp⟩,_,_,_,rfl,⟨by simp,by simp⟩,λN1 I=>?_⟩) λh=>absurd rfl h⟩
   refine O (by omega) h3 N1 _ λs N2 ac hs _=>⟨by omega,by rw [oL,U];omega,λN3 ae=>?_⟩
   refine Y (by omega) h4 N3 _ λs' N4 ah ai _=>⟨by simp only [oL,U];omega,by simp only [oL,U];omega,λN5 aj=>J _ _ (by omega) (by simp only [oL,U];omega)⟩
 | @code u hu O=>
   intro hc d hd N Q J
   have aa:(xA u).cnt=1+(u.cnt+0):=rfl
   obtain ⟨b,fs,k,rfl,ab,d1,_,rfl,h3,rfl⟩:=Ty.is_mk.1 hd
   refine uD N _ Q λ_=>⟨4,rfl,Br.beq (λh=>absurd h (by decide)) λ_=>Br.beq (λh=>absurd h (by decide)) λ_=>Br.beq (λh=>absurd h (by decide)) λ_=>⟨_,_,_,rfl,⟨by simp,by simp⟩,λN1 I=>?_⟩⟩
   exact O (by omega) h3 N1 _ λs N2 ac hs _=>⟨by omega,by rw [oL,U];omega,λN3 ae=>J _ _ (by omega) (by simp only [oL,U];omega)⟩
/-- the longest string -/
def mx:List ByteArray->Nat
 | []=>0
 | s::l=>max s.size (mx l)
theorem zN5 (s:ByteArray):∀ l:List ByteArray,mx (l++[s])=max (mx l) s.size
 | []=>by simp [mx]
 | x::l=>by simp only [o0,mx,zN5 s l];omega
/-- how long strings are, one behind the other -/
def tot:List ByteArray->Nat
 | []=>0
 | s::l=>s.size+1+tot l
theorem zLI (s:ByteArray):∀ l:List ByteArray,tot (l++[s])=tot l+s.size+1
 | []=>by simp [tot]
 | x::l=>by simp only [o0,tot,zLI s l];omega
theorem zKX:∀ l:List ByteArray,l.length<=tot l
 | []=>by simp [tot]
 | x::l=>by have:=zKX l;simp only [tot,oM];omega
theorem zM1 (J:List ByteArray) (h:tot J<=1000000000) (O:ByteArray) (aa:O.size<=1) (a:Option Addr) (c:Nat):zTz 207 [.sv a 0 (zA J) c,.str O] (λs=>s.size<=tot J/\mx J<=s.size):=λN Q hQ=>by
 have ab:=zF J
 have Y:=zKX J
 refine zKG N a _ c O Q λ_=>?_
 refine up (xC J) (by omega) (λi xs=>∀ (ns:List Int) (r:List D) (q N':Nat),N<=N'->r=ns.map (λn=>D.lit (.int .u8 n))->ns.length+tot xs<=tot J->mx J<=max ns.length (mx xs)->wj Q N a (zA J) c O r.length q i r q N') ?_ ?_ [] [] 0 N (oD _) rfl (by simp) (by simp)
 ·intro k Y hk ns r q N' U hr hn hm
  subst hr
  refine zAC _ _ _ _ _ _ _ _ _ _ _ _ ?_
  rw [Y]
  exact ⟨oD _,ns,ow (oD _),λN1 ac=>hQ _ _ (by omega) (by show (bytesOf ns).size<=_/\_<=(bytesOf ns).size;rw [rY];simp only [mx,tot] at hm hn;omega)⟩
 ·intro k x xs I _ ih ns r q N' U hr hn hm
  have hb:=I.b
  simp only [tot] at hn
  simp only [mx] at hm
  have bd:∀ s:ByteArray,xZ s=(s.data.toList.map λb=>((b.toNat:Nat):Int)).map (λn=>D.lit (.int .u8 n)):=λs=>by simp [xZ,mK,Function.comp_def]
  have bl:∀ s:ByteArray,(s.data.toList.map λb=>((b.toNat:Nat):Int)).length=s.size:=λs=>by simp
  have ae:r.length=ns.length:=by rw [hr];simp
  refine zAC _ _ _ _ _ _ _ _ _ _ _ _ ?_
  rw [I.w,oJ]
  refine Br.of (λ_=>?_) λh=>by rw [I.lt] at h;cases h
  refine Br.of (λ_=>⟨⟨rfl,rfl⟩,by unfold zB;rw [oH,qT];omega,λc1=>⟨hb,x,I.r,⟨by trivial,by trivial⟩,by unfold zB;simp only [oH,qT];omega,λc2=>ih (ns++_++_) _ c2 N' U (by rw [hr,bd,bd,<-mB,<-mB]) (by simp only [oH,bl];omega) (by simp only [oH,bl];omega)⟩⟩) λ_=>⟨hb,x,I.r,⟨rfl,rfl⟩,by unfold zB;rw [oH,qT];omega,λc2=>ih (ns++_) _ c2 N' U (by rw [hr,bd,<-mB]) (by simp only [oH,bl];omega) (by simp only [oH,bl];omega)⟩
theorem zDf {s:ByteArray} (h:yg s=true):s.size<=4:=by
 simp only [yg,zEs,oI] at h
 have:=(yo.1 h.2.1).2
 omega
theorem zNP {s:ByteArray} (h:zDL s>0):s.size<=4:=by
 unfold zDL at h
 (repeat' split at h)<;>first | (rename_i e;rw [e];decide) | (exfalso;revert h;decide)
theorem zF9 {k:Int} {nm ot:ByteArray} (h:xK k nm ot=true):nm.size<=4/\ot.size<=4:=by
 unfold xK at h
 (repeat' split at h)<;>simp only [oI,nK,nS,decide_eq_false_iff_not] at h
 ·exact ⟨zNP h.1,by rw [h.2];decide⟩
 ·exact ⟨zDf h.1,by rw [h.2];decide⟩
 ·exact ⟨zDf h.1,zDf h.2.1⟩
 ·rw [h.1,h.2];decide
theorem qZ {t:Ty} (h:t.valid=true):Wf t/\t.cnt<=30:=by
 refine ⟨zRa t ?_,Ty.valid_cnt h⟩
 simp only [Ty.valid,oI] at h
 exact h.2
theorem zTH {k n:Int} {nm ot:ByteArray} {ty re:Ty} {l:List Tm} (nd:Node k nm ot n ty re l) {t0 t1 r0 r1 x:D} (hh:Tm.Hd nm ot ty re t0 t1 r0 r1) {O:List ByteArray} (ah:tot O<=400000000) (hl:O.length=l.length) (hk:k≠1/\k≠2/\k≠3/\k≠4/\k≠10/\k≠11) (a:Option Addr) (c:Nat) :
  zTz 202 [.dg 9 (.ag [.j k,.t nm,.t ot,.j n,t0,t1,r0,r1,x]),.sv a 0 (zA O) c] (λs=>s.size<=tot O+300/\5*bn k+mx O<=s.size):=λN Q hQ=>by
 have f:=nd.f
 have ai:=nd.ar
 have aj:=zF O
 simp only [zJ,oI] at f
 obtain ⟨n4,o4⟩:=zF9 f.2.2.2.2.2
 have I:∀ a,(bytes [a]).size=1:=λ_=>rfl
 have b2:∀ a b,(bytes [a,b]).size=2:=λ_ _=>rfl
 have b4:∀ a b c d,(bytes [a,b,c,d]).size=4:=λ_ _ _ _=>rfl
 have J:∀ a b c d e,(bytes [a,b,c,d,e]).size=5:=λ_ _ _ _ _=>rfl
 have b6:∀ a b c d e f,(bytes [a,b,c,d,e,f]).size=6:=λ_ _ _ _ _ _=>rfl
 have one:Unit->zE8 k nm=1->((0:Int)<=(0:Int)/\0<((zA O).length:Int))/\∃ s,List.getD (zA O) 0 default=D.t s/\s.size<=tot O/\mx O=s.size:=λ_ h=>by
  match O,(by omega:(O.length:Int)=1) with
  | [s],_=>exact ⟨⟨by simp,by simp [zA]⟩,s,rfl,by simp only [tot];omega,by simp [mx]⟩
 have q3:=zN3 k
 have q9:=zSh k
 refine zHc N _ a _ c Q λ_ _=>⟨k,rfl,Br.beq (λ_ N1 U=>?_) λh5=>Br.beq (λh6=>?_) λh6=>Br.beq (λ_ N1 U=>?_) λh7=>Br.beq (λ_=>⟨nm,rfl,by omega,by simp only [oL,J];omega,λN1 U=>?_⟩) λh8=>Br.beq (λh9=>?_) λh9=>Br.beq (λac=>?_) λac=>?_⟩
 ·exact zM1 O (by omega) _ (by decide) a c N1 _ λs N2 Y hs _=>⟨by omega,by simp only [oL,b4];omega,λN3 aa=>hQ _ _ (by omega) (by simp only [oL,b4,I];omega)⟩
 ·obtain ⟨bd,s,hs,ab⟩:=one () (by subst h6;rfl)
  have hv:=nd.vt (.inl h6)
  refine ⟨nm,rfl,by omega,by simp only [oL,b2];omega,bd,s,hs,λN1 U=>?_⟩
  have:=(qZ hv).2
  exact zOq (qZ hv).1 (by omega) hh.ty N1 _ λz N2 Y hz _=>⟨by simp only [oL,b2,I];omega,by simp only [oL,b2,I];omega,by simp only [oL,b2,I];omega,by simp only [oL,b2,I];omega,λN3 aa=>hQ _ _ (by omega) (by simp only [oL,b2,I];omega)⟩
 ·exact zM1 O (by omega) _ (by decide) a c N1 _ λs N2 Y hs _=>⟨by omega,by simp only [oL,I];omega,λN3 aa=>hQ _ _ (by omega) (by simp only [oL,I];omega)⟩
 ·exact zM1 O (by omega) _ (by decide) a c N1 _ λs N2 Y hs _=>⟨by simp only [oL,J,I];omega,by simp only [oL,J,I];omega,λN3 aa=>hQ _ _ (by omega) (by simp only [oL,J,I];omega)⟩
 ·obtain ⟨bd,s,hs,ab⟩:=one () (by subst h9;rfl)
  have hv:=nd.vt (.inr h9)
  have ae:=nd.vr h9
  have:=(qZ hv).2
  have:=(qZ ae).2
  refine ⟨nm,rfl,by omega,by simp only [oL,J];omega,ot,rfl,by simp only [oL,J,I];omega,by simp only [oL,J,I];omega,bd,s,hs,λN1 U=>?_⟩
  refine zOq (qZ hv).1 (by omega) hh.ty N1 _ λz N2 Y hz _=>⟨by simp only [oL,J,I];omega,by simp only [oL,J,I];omega,λN3 aa=>?_⟩
  exact zOq (qZ ae).1 (by omega) hh.re N3 _ λy N4 ak hy _=>⟨by simp only [oL,J,I];omega,by simp only [oL,J,I];omega,by simp only [oL,J,I];omega,by simp only [oL,J,I];omega,λN5 al=>hQ _ _ (by omega) (by simp only [oL,J,I];omega)⟩
 ·obtain ⟨bd,s,hs,ab⟩:=one () (by subst ac;rfl)
  exact ⟨bd,s,hs,by omega,by simp only [oL,J];omega,λN1 U=>hQ _ _ (by omega) (by simp only [oL,J,I];omega)⟩
 ·have hc:=zDR (k:=k) (nm:=nm) (by omega)
  obtain ⟨bd,s,hs,ab⟩:=one () (by
   obtain rfl:k=13:=by omega
   rfl)
  exact ⟨bd,s,hs,by omega,by simp only [oL,b6];omega,λN1 U=>hQ _ _ (by omega) (by simp only [oL,b6,I];omega)⟩
theorem zJZ:∀ {l:List Tm} {t:Tm},t∈l->t.sz<=ri l
 | x::l,t,h=>by
   simp only [ri]
   rcases oF.1 h with rfl | h
   ·omega
   ·have:=zJZ h;omega
theorem zSj:∀ t:Tm,t.ok=true->t.sz<=100000->∀ d,t.Is d->zTz 186 [.dg 9 d] (λs=>s.size<=500*t.sz - 1/\5*t.bd<=s.size):=by
 refine Tm.ind λk nm ot n ty re l ih al am d hd N Q Y=>?_
 obtain ⟨t0,t1,r0,r1,a,es,c,rfl,hh,ah,ai⟩:=Tm.is_mk.1 hd
 have nd:=xJ al
 have O:=nd.ar
 have a6:=ai.len
 have f:=nd.f
 simp only [zJ,oI] at f
 obtain ⟨n4,o4⟩:=zF9 f.2.2.2.2.2
 have hn:=yo.1 f.2.2.2.2.1
 have b1:∀ a,(bytes [a]).size=1:=λ_=>rfl
 have b2:∀ a b,(bytes [a,b]).size=2:=λ_ _=>rfl
 have hs:(Tm.mk k nm ot n ty re l).sz=1+ri l:=by simp only [Tm.sz]
 have ao:(Tm.mk k nm ot n ty re l).bd=bn k+wS l:=by simp only [Tm.bd]
 rw [hs] at am Y
 rw [ao] at Y
 have q3:=zN3 k
 refine zHd N _ Q λ_=>?_
 refine up ai ah (λi xs=>∀ (I:List ByteArray) (q N':Nat),N<=N'->I.length=i->tot I+500*ri xs<=500*ri l->5*wS l<=max (mx I) (5*wS xs)->wq Q N (zA I).length q i _ (zA I) q N') ?_ ?_ [] 0 N (oD _) rfl (by simp [tot]) (by simp [mx])
 ·intro i aq hi I q N' au aj aa ab
  simp only [wS] at ab
  have a7:=zF I
  have ps:(0:Int)<((zA I).length:Int)->((0:Int)<=(0:Int)/\0<((zA I).length:Int)/\0<(zA I).length):=λh=>⟨by omega,h,by omega⟩
  have none:Unit->l.length=0->mx I=0:=λ_ h=>by
   match I,(by omega:I.length=0) with
   | [],_=>rfl
  have one:Unit->l.length=1->∃ s,List.getD (zA I) 0 default=D.t s/\s.size+1<=tot I/\mx I=s.size:=λ_ h=>by
   match I,(by omega:I.length=1) with
   | [s],_=>exact ⟨s,rfl,by simp only [tot];omega,by simp [mx]⟩
  have aw:Unit->l.length=2->∃ s s',List.getD (zA I) 0 default=D.t s/\List.getD (zA I) 1 default=D.t s'/\s.size+s'.size+2<=tot I/\mx I=max s.size s'.size:=λ_ h=>by
   match I,(by omega:I.length=2) with
   | [s,s'],_=>exact ⟨s,s',rfl,rfl,by simp only [tot];omega,by simp [mx]⟩
  have leaf:k=1\/k=2\/k=3->l.length=0:=λh=>by
   rcases h with h | h | h<;>(subst h;have:(l.length:Int)=0:=O;omega)
  refine rr _ _ _ _ _ _ _ _ _ ⟨a,es,c,rfl,Br.of (λh=>by rw [aq] at h;cases h) λ_=>⟨k,rfl,Br.beq (λh1=>⟨nm,rfl,λN1 J=>Y _ _ (by omega) (by have:=none () (leaf (.inl h1));omega)⟩) λh1=>Br.beq (λh2=>⟨n,rfl,λN1 J=>?_⟩) λh2=>Br.beq (λh3=>⟨n,rfl,n,rfl,?_⟩) λh3=>Br.beq (λh4=>?_) λh4=>Br.beq (λac=>?_) λac=>Br.beq (λae=>?_) λae=>⟨⟨rfl,rfl⟩,λa2 _ _ N1 J _=>?_⟩⟩⟩
  ·have ax:=none () (leaf (.inr (.inl h2)))
   rw [if_pos h2] at hn
   exact zRm n (by omega) N1 _ λs N2 ak hs _ N3 ay=>Y _ _ (by omega) (by omega)
  ·have ax:=none () (leaf (.inr (.inr h3)))
   rw [if_neg h2,if_pos h3] at hn
   rw [i64_in (n+1) (by omega)]
   exact ⟨⟨by omega,by omega,by omega⟩,by rw [mS];omega,λN1 J=>Y _ _ (by omega) (by simp only [oL,mS,b1,b2];omega)⟩
  ·subst h4
   have O:(l.length:Int)=zDL nm:=O
   have a8:zDL nm=1\/zDL nm=2:=by
    have h:=f.2.2.2.2.2
    simp only [xK] at h
    rw [if_pos trivial] at h
    simp only [oI,nK] at h
    have:=h.1
    revert this
    unfold zDL
    (repeat' split)<;>simp
   refine Br.beq (λhw=>?_) λhw=>?_
   ·obtain ⟨s,e1,e2⟩:=one () (by omega)
    exact ⟨ps (by omega),by omega,s,e1,by omega,by simp only [oL,b2];omega,λN1 J=>Y _ _ (by omega) (by simp only [oL,b2,b1];omega)⟩
   ·obtain ⟨s,s',e1,e3,e2⟩:=aw () (by omega)
    exact ⟨ps (by omega),by omega,s,e1,by omega,nm,rfl,by simp only [oL,b1];omega,⟨by omega,by omega,by omega⟩,by omega,s',e3,by simp only [oL,b1];omega,by simp only [oL,b1];omega,λN1 J=>Y _ _ (by omega) (by simp only [oL,b1];omega)⟩
  ·subst ac
   have O:(l.length:Int)=1:=O
   obtain ⟨s,e1,e2⟩:=one () (by omega)
   exact ⟨ps (by omega),by omega,s,e1,by omega,by simp only [oL,b1];omega,λN1 J=>Y _ _ (by omega) (by simp only [oL,b1];omega)⟩
  ·subst ae
   have O:(l.length:Int)=1:=O
   obtain ⟨s,e1,e2⟩:=one () (by omega)
   exact ⟨ps (by omega),by omega,s,e1,by omega,λN1 J=>Y _ _ (by omega) (by simp only [oL,b1];omega)⟩
  ·exact zTH nd hh (by omega) (by omega) ⟨h1,h2,h3,h4,ac,ae⟩ a2 q N1 _ λs N2 ak hs _ N3 ay=>Y _ _ (by omega) (by omega)
 ·intro i x xs U _ az I q N' au aj aa ab
  simp only [wS] at ab
  have hb:=U.b
  have hx:x.sz<=ri l:=zJZ U.m
  have ba:=zKX I
  have hp:1<=x.sz:=by cases x;simp only [Tm.sz];omega
  simp only [ri] at aa
  refine rr _ _ _ _ _ _ _ _ _ ⟨a,es,c,rfl,Br.of (λ_=>⟨a,es,c,rfl,hb,λN1 J=>?_⟩) λh=>by rw [U.lt] at h;cases h⟩
  rw [oJ]
  refine ih x U.m (nd.sub x U.m) (by omega) _ U.r N1 _ λs N2 ak hs _=>⟨⟨rfl,rfl⟩,by unfold zB;rw [oH,zF];simp only [oM,oS];omega,λc2=>?_⟩
  have e:zA I++[D.t s]=zA (I++[s]):=by simp [zA]
  rw [e,U.w]
  exact az (I++[s]) c2 N2 (by omega) (by simp [aj]) (by rw [zLI];omega) (by rw [zN5];omega)
theorem zTS (t:Tm) (d:D) (hd:t.Is d) (hc:t.cnt<=1073741824):zTz 158 [.dg 9 d] (λs=>s.size<=50000/\(s.size=0\/5*t.bd<=s.size)):=λN Q J=>by
 refine zBq N d Q λ_ N1 U=>pw t d hd hc N1 _ λN2 Y _=>Br.not (λ_ N3 I=>J _ _ (by omega) ⟨by decide,.inl rfl⟩) λO N3 I=>?_
 simp only [Tm.vd,oI,nK] at O
 exact zSj t O.2 (by omega) d hd N3 _ λs N4 aa hs _ N5 ab=>J _ _ (by omega) (by omega)
end Go.Proofs.YtfajiphkncipoaaGreatDoor
set_option maxRecDepth 100000
namespace Go.Proofs.YtfajiphkncipoaaGreatDoor
open Go Go.Proofs Go.Proofs.Tryz Go.IntWalk
/-- some term of at most this many nodes -/
def SomC (m:Nat) (d:D):Prop:=∃ t:Tm,t.Is d/\t.cnt<=m
theorem SomC.mono {m n:Nat} {d:D} (h:SomC m d) (J:m<=n):SomC n d:=by obtain ⟨t,I,O⟩:=h;exact ⟨t,I,by omega⟩
theorem Some.c {m:Nat} {d:D} (h:Some m d):SomC m d:=by obtain ⟨t,I,J⟩:=h;exact ⟨t,I,oO t.cnt_wt J⟩
/-- a reader's place in a short text -/
structure Rs (s:ByteArray) (n:Int):Prop where
 l:s.size<=1000
 lo:0<=n
 hi:n<=s.size
theorem vi {s:ByteArray} {n:Int} (O:Rs s n) (t:ByteArray) (ht:t.size<=100) (b:Bool) (N:Nat) (Q:QT [.bool,.str,.i,.bool])
  (Y:∀ U J N',N<=N'->Rs s J->n<=J->(U=false->J=n)->(U=true->J=n+t.size)->Q U s J b N'):BCalls prog 180 [.bool,.str,.i,.bool] [.pb 0 0 0 0,.str t] [.var [.str s,.j n,.bool b]] N Q:=by
 have h1:=O.lo
 have h2:=O.hi
 have h3:=O.l
 have no:∀ N1,N<=N1->Q false s n b N1:=λN1 I=>Y _ _ _ I O (mT _) (λ_=>rfl) (by simp)
 have e:IntKind.i64.wrap (n+(t.size:Int))=n+t.size:=i64_in _ (by omega)
 refine zCc N t s n b Q λE=>Br.of (λ_=>⟨ze,no⟩) λ_=>?_
 rw [e]
 exact Br.dec (λ_=>⟨ze,no⟩) λhg=>⟨⟨h1,by omega,by omega⟩,Br.of (λ_=>⟨ze,no⟩) λ_=>⟨ze,λN1 I=>Y _ _ _ I ⟨h3,by omega,by omega⟩ (by omega) (by simp) λ_=>rfl⟩⟩
theorem v6 {s:ByteArray} {n:Int} (hr:Rs s n) (t:ByteArray) (ht:t.size<=100) (b:Bool) (N:Nat) (Q:QT [.str,.i,.bool])
  (hQ:∀ O I N',N<=N'->Rs s I->n<=I->(O=false->I=n+t.size)->Q s I O N'):BCalls prog 181 [.str,.i,.bool] [.pb 0 0 0 0,.str t] [.var [.str s,.j n,.bool b]] N Q:=
 zCt N t s n b Q λE=>Br.of (λ_=>⟨ze,λN1 J=>hQ _ _ _ J hr (mT _) (by simp)⟩) λ_ N1 J=>vi hr t ht b N1 _ λO I N2 aa U Y h0 h1 _=>⟨ze,λN3 ab=>hQ _ _ _ (by omega) U Y (by
  cases O with
  | false=>simp
  | true=>exact λ_=>h1 rfl)⟩
theorem zGG {s:ByteArray} {n:Int} (O:Rs s n) (b:Bool) (N:Nat) (Q:QT [.str,.str,.i,.bool])
  (hQ:∀ w U N',N<=N'->Rs s U->n<=U->w.size<=1000->Q w s U b N'):BCalls prog 184 [.str,.str,.i,.bool] [.pb 0 0 0 0] [.var [.str s,.j n,.bool b]] N Q:=by
 have h1:=O.lo
 have h2:=O.hi
 have h3:=O.l
 refine zC9 N s n b Q λE=>?_
 have key:∀ (m:Nat) (k:Int),n<=k->k+m=s.size->yR E Q N n s k b N:=by
  intro m
  induction m with
  | zero=>
    intro k J he
    exact ru _ _ _ _ _ _ _ _ (Br.dec (λh=>by omega) λ_=>⟨⟨h1,J,by omega⟩,ze,λN1 I=>hQ _ _ _ I ⟨h3,by omega,by omega⟩ J (by rw [mS];omega)⟩)
  | succ m ih=>
    intro k J he
    have Y:yR E Q N n s (IntKind.i64.wrap (k+1)) b N:=by
     rw [i64_in (k+1) (by omega)];exact ih (k+1) (by omega) (by omega)
    have out:(0<=n/\n<=k/\k<=(s.size:Int))/\zT E [.var [.str (bytes []),.j 0,.bool false]]/\∀ N1,N<=N1->Q (ByteArray.extract s n.toNat k.toNat) s k b N1:=⟨⟨h1,J,by omega⟩,ze,λN1 I=>hQ _ _ _ I ⟨h3,by omega,by omega⟩ J (by rw [mS];omega)⟩
    have bd:0<=k/\k<(s.size:Int):=⟨by omega,by omega⟩
    have az:∀ (v w:Bool) {A B:Prop},A->B->(0<=k/\k<(s.size:Int))/\Br v ((0<=k/\k<(s.size:Int))/\Br w A B) B:=λv w A B a b=>⟨bd,Br.of (λ_=>⟨bd,Br.of (λ_=>a) λ_=>b⟩) λ_=>b⟩
    exact ru _ _ _ _ _ _ _ _ (Br.of (λ_=>⟨bd,Br.of (λ_=>⟨bd,Br.of (λ_=>Y) λ_=>az _ _ Y out⟩) λ_=>az _ _ Y out⟩) λ_=>out)
 exact key (s.size - n).toNat n (mT _) (by omega)
theorem zN4:∀ (j:Nat),j<=8->∀ (n1:Int),n1+j=9->∀ {s:ByteArray} {n:Int} (_:Rs s n) (b:Bool) (N:Nat) (Q:QT [.ag 2,.str,.i,.bool])
  (_:∀ (t:Ty) d U b' N',N<=N'->Rs s U->n<=U->t.Is d->t.cnt+1<=2 ^ (j+1)->Q d s U b' N'),BCalls prog 195 [.ag 2,.str,.i,.bool] [.pb 0 0 0 0,.j n1] [.var [.str s,.j n,.bool b]] N Q:=by
 intro j
 have one:∀ k:Int,∀ j:Nat,(Ty.mk k []).cnt+1<=2 ^ (j+1):=λk j=>by
  have:1<=2 ^ j:=Nat.one_le_two_pow
  rw [mR];simp only [Ty.cnt,zM];omega
 induction j with
 | zero=>
   intro _ n1 a6 s n hr b N Q Y
   exact sn N n1 s n b Q λE=>Br.of (λ_=>⟨ze,λN1 I=>Y (.mk 0 []) _ _ _ _ I hr (mT _) (xh 0) (one 0 0)⟩) λ_=>Br.dec (λ_=>⟨ze,λN1 I=>Y (.mk 0 []) _ _ _ _ I hr (mT _) (xh 0) (one 0 0)⟩) λh=>by omega
 | succ j ih=>
   intro hj n1 a6 s n hr b N Q Y
   have e1:IntKind.i64.wrap (n1+1)=n1+1:=i64_in _ (by omega)
   have z:∀ U b' N',N<=N'->Rs s U->n<=U->Q (D.ag [D.j 0,D.sl Option.none 2 [] 0]) s U b' N':=λU b' N' h a7 hn=>Y (.mk 0 []) _ _ _ _ h a7 hn (xh 0) (one 0 _)
   refine sn N n1 s n b Q λE=>Br.of (λ_=>⟨ze,λN1 I=>z _ _ _ I hr (mT _)⟩) λ_=>Br.dec (λ_=>by omega) λ_ N1 I=>?_
   refine vi hr _ (by decide) _ N1 _ λb2 n2 N2 cd ac a8 z2 _ _=>Br.of (λ_ N3 ba=>xU N3 _ λy N4 bb hy _ _ _=>⟨ze,λN5 ae=>Y tInt _ _ _ _ (by omega) ac a8 hy (one _ _)⟩) λbc N3 ba=>?_
   have z2:=z2 bc;subst z2
   refine vi ac _ (by decide) _ N3 _ λb4 n4 N4 bb ah ce z4 g4 _=>Br.of (λ_ N5 ae=>xb N5 _ λy N6 bg hy _ _ _=>⟨ze,λN7 ai=>Y tBool _ _ _ _ (by omega) ah (by omega) hy (one _ _)⟩) λbh N5 ae=>?_
   have z4:=z4 bh;subst z4
   have bw:2 ^ (j+1+1)=2*2 ^ (j+1):=by rw [mR];omega
   refine vi ah _ (by decide) _ N5 _ λb6 n6 N6 bg aj cf z6 g6 _=>Br.of (λab N7 ai=>?_) λab N7 ai=>?_
   ·have g6:=g6 ab
    rw [e1]
    refine ih (by omega) (n1+1) (by omega) aj _ N7 _ λt d n8 b8 N8 bi O bj hd hc _ _ N9 ak=>?_
    refine v6 O _ (by decide) _ N9 _ λbm bp bq al J am _ _=>⟨⟨rfl,rfl⟩,⟨rfl,rfl⟩,⟨rfl,rfl⟩,⟨rfl,rfl⟩,⟨rfl,rfl⟩,λa ao aq _=>⟨ze,λbt au=>Y (xA t) _ _ _ _ (by omega) J (by omega) (Ty.is_mk.2 ⟨_,_,_,rfl,by simp,d,[],rfl,hd,rfl⟩) ?_⟩⟩
    have:(xA t).cnt=1+(t.cnt+0):=rfl
    have:2<=2 ^ (j+1):=by rw [mR];have:1<=2 ^ j:=Nat.one_le_two_pow;omega
    omega
   ·have z6:=z6 ab;subst z6
    refine v6 aj _ (by decide) _ N7 _ λb8 n8 N8 bi O bj _ _=>Br.of (λ_=>⟨ze,λN9 ak=>z _ _ _ (by omega) O (by omega)⟩) λ_ N9 ak=>?_
    rw [e1]
    refine ih (by omega) (n1+1) (by omega) O _ N9 _ λt d bp bm bq al J am hd hc _ _ ao aq=>?_
    refine v6 J _ (by decide) _ ao _ λcg ch bt au aa bz _ _=>Br.of (λ_=>⟨ze,λaw ax=>z _ _ _ (by omega) aa (by omega)⟩) λ_ aw ax=>?_
    refine ih (by omega) (n1+1) (by omega) aa _ aw _ λu e cj ck cm b1 ay b3 he cn _ _ bv b5=>?_
    refine v6 ay _ (by decide) _ bv _ λco cp cq b7 az b9 _ _=>⟨⟨rfl,rfl⟩,⟨rfl,rfl⟩,⟨rfl,rfl⟩,λa cr ca _=>⟨ze,λct cc=>Y (wR t u) _ _ _ _ (by omega) az (by omega) (Ty.is_mk.2 ⟨_,_,_,rfl,by simp,d,[e],rfl,hd,e,[],rfl,he,rfl⟩) ?_⟩⟩
    have:(wR t u).cnt=1+(t.cnt+(u.cnt+0)):=rfl
    omega
/-- what the parser does at this depth -/
def zMn (dep:Int):Prop:=∀ (s:ByteArray) (n:Int) (b:Bool) (N:Nat) (Q:QT [.ag 9,.str,.i,.bool]),Rs s n->(∀ d I J N',N<=N'->Rs s I->n<=I->SomC (3+2000*(I - n).toNat) d->Q d s I J N')->BCalls prog 157 [.ag 9,.str,.i,.bool] [.pb 0 0 0 0,.j dep] [.var [.str s,.j n,.bool b]] N Q
theorem zL2 {dep:Int} (hP:zMn dep) {k m:Int} {nm ot:ByteArray} {ty re:Ty} {t0 t1 r0 r1:D} (hh:Tm.Hd nm ot ty re t0 t1 r0 r1) {l0:List Tm} {J:List D} (h0:All2 Tm.Is l0 J) (a7:J.length<=1) {a0:Option Addr} {c0:Nat} (ao:∀ x,zQv a0 J c0 [x])
  {w:Nat} (hw:1+ty.cnt+re.cnt+zh l0<=w) (O:Int) (aa:0<=O/\O<=3) {s:ByteArray} {n:Int} (hr:Rs s n) (b:Bool) (N:Nat) (Q:QT [.ag 9,.str,.i,.bool])
  (hQ:∀ d n' b' N',N<=N'->Rs s n'->n<=n'->SomC (w+9+2000*(n' - n).toNat) d->Q d s n' b' N'):BCalls prog 196 [.ag 9,.str,.i,.bool] [.pb 0 0 0 0,.dg 9 (.ag [.j k,.t nm,.t ot,.j m,t0,t1,r0,r1,.sl a0 9 J c0]),.j O,.j dep] [.var [.str s,.j n,.bool b]] N Q:=by
 refine zCz N _ O dep s n b Q λE _=>?_
 have fin:∀ (l:List Tm) (es:List D) (a:Option Addr) (c:Nat) (n':Int) (b':Bool) (N':Nat),N<=N'->Rs s n'->n<=n'->All2 Tm.Is l es->es.length<=10->zh l<=zh l0+9+2000*(n' - n).toNat->Q (.ag [.j k,.t nm,.t ot,.j m,t0,t1,r0,r1,.sl a 9 es c]) s n' b' N':=λl es a c n' b' N' h aq hn U hl hc=>
  hQ _ _ _ _ h aq hn ⟨.mk k nm ot m ty re l,Tm.is_mk.2 ⟨_,_,_,_,_,_,_,rfl,hh,by omega,U⟩,by simp only [Tm.cnt];omega⟩
 have key:∀ (j:Nat) (k9:Int) (n1:Int) (b1:Bool) (l:List Tm) (es:List D) (q N':Nat),k9+j=O->0<=k9->Rs s n1->n<=n1->All2 Tm.Is l es->(es.length:Int)<=1+k9->zh l<=zh l0+3*k9.toNat+2000*(n1 - n).toNat->N<=N' ->
   zY E Q N O dep k9 s n1 b1 (.j k) (.t nm) (.t ot) (.j m) t0 t1 r0 r1 es.length q 0 (bytes []) (bytes []) 0 0 none [] 0 0 none [] 0 none [] 0 es q N':=by
  intro j
  induction j with
  | zero=>
    intro k9 n1 b1 l es q N' hk au ab aw U ax hc ay
    refine uy _ _ _ _ _ _ _ _ _ _ _ _ _ _ _ _ _ _ _ _ _ _ _ _ _ _ _ _ _ _ _ _ _ _ _ _ _ (Br.dec (λh=>by omega) λ_ N1 I=>v6 ab _ (by decide) _ N1 _ λb2 O N2 aj Y aa _ _=>⟨⟨rfl,rfl⟩,⟨rfl,rfl⟩,⟨rfl,rfl⟩,λa N3 ak _=>⟨ze,λN4 ah=>fin l es a q O b2 N4 (by omega) Y (by omega) U (by omega) (by omega)⟩⟩)
  | succ j ih=>
    intro k9 n1 b1 l es q N' hk au ab aw U ax hc ay
    have e1:IntKind.i64.wrap (k9+1)=k9+1:=i64_in _ (by omega)
    have nx:∀ (n3:Int) (b3:Bool) (x:D) (N3 c1:Nat),N<=N3->Rs s n3->n1<=n3->SomC (3+2000*(n3 - n1).toNat) x->zY E Q N O dep (IntKind.i64.wrap (k9+1)) s n3 b3 (.j k) (.t nm) (.t ot) (.j m) t0 t1 r0 r1 (es++[x]).length c1 0 (bytes []) (bytes []) 0 0 none [] 0 0 none [] 0 none [] 0 (es++[x]) c1 N3:=λn3 b3 x N3 c1 h az a8 hx=>by
     obtain ⟨t,ht,a6⟩:=hx
     rw [e1]
     refine ih (k9+1) n3 b3 (l++[t]) (es++[x]) c1 N3 (by omega) (by omega) az (by omega) (U.snoc ht) (by simp;omega) ?_ h
     have:zh (l++[t])=zh l+t.cnt:=by
      clear U hc
      induction l with
      | nil=>simp [zh]
      | cons y l al=>simp only [o0,zh,al];omega
     omega
    have ai:∀ x:D,zB es [x] 136:=λx=>by unfold zB;rw [oH];simp only [oM,oS];omega
    refine uy _ _ _ _ _ _ _ _ _ _ _ _ _ _ _ _ _ _ _ _ _ _ _ _ _ _ _ _ _ _ _ _ _ _ _ _ _ (Br.dec (λ_=>Br.of (λ_=>Br.of (λ_ N1 I=>?_) λ_ N1 I=>?_) λ_ N1 I=>v6 ab _ (by decide) _ N1 _ λb2 O N2 aj Y aa _ _=>⟨⟨rfl,rfl⟩,⟨rfl,rfl⟩,⟨rfl,rfl⟩,λa N3 ak _=>⟨ze,λN4 ah=>fin l es a q O b2 N4 (by omega) Y (by omega) U (by omega) (by omega)⟩⟩) λh=>by omega)
    ·refine v6 ab _ (by decide) _ N1 _ λb2 O N2 aj Y aa _ _ N3 ak=>hP s O b2 N3 _ Y λx n4 b4 N4 ah ac am hx _ _=>⟨⟨rfl,rfl⟩,ai x,λc1=>nx n4 b4 x N4 c1 (by omega) ac (by omega) (hx.mono (by omega))⟩
    ·exact hP s n1 b1 N1 _ ab λx n4 b4 N4 ah ac am hx _ _=>⟨⟨rfl,rfl⟩,ai x,λc1=>nx n4 b4 x N4 c1 (by omega) ac (by omega) hx⟩
 have e1:IntKind.i64.wrap ((0:Int)+1)=0+1:=rfl
 have ai:∀ x:D,zB J [x] 136:=λx=>by unfold zB;rw [oH];simp only [oM,oS];omega
 have ae:∀ N1,N<=N1->∀ b',BCalls prog 181 [.str,.i,.bool] [.pb 0 0 0 0,.str (bytes [41])] [.var [.str s,.j n,.bool b']] N1 (λs n b N2=>N1<=N2->zT E [.var [.str (bytes []),.j 0,.bool false]]/\∀ N3,N2<=N3->Q (.ag [.j k,.t nm,.t ot,.j m,t0,t1,r0,r1,.sl a0 9 J c0]) s n b N3):=λN1 I b'=>
  v6 hr _ (by decide) _ N1 _ λb2 O N2 aj Y aa _ _=>⟨ze,λN3 ak=>fin l0 J a0 c0 O b2 N3 (by omega) Y aa h0 (by omega) (by omega)⟩
 refine zD9 _ _ _ _ _ _ _ _ _ _ _ _ _ _ _ _ _ _ _ _ _ _ _ _ _ _ (Br.dec (λ_=>Br.of (λ_=>Br.dec (λh=>by omega) λ_=>⟨_,_,_,rfl,λN1 I=>?_⟩) λ_ N1 I=>ae N1 I _) λ_ N1 I=>ae N1 I _)
 refine hP s n b N1 _ hr λx n4 b4 N4 ah ac am hx _ _=>⟨ao x,ai x,λc1=>?_⟩
 obtain ⟨t,ht,a6⟩:=hx
 refine key (O - 1).toNat 1 n4 b4 (l0++[t]) (J++[x]) c1 N4 (by omega) (by omega) ac (by omega) (h0.snoc ht) (by simp;omega) ?_ (by omega)
 have:zh (l0++[t])=zh l0+t.cnt:=by
  clear key fin ae hw h0
  induction l0 with
  | nil=>simp [zh]
  | cons y l al=>simp only [o0,zh,al];omega
 omega
theorem zLO {nm ot:ByteArray} (I:nm.size<=1000) (J:ot.size<=1000):Tm.Hd nm ot (.mk 0 []) (.mk 0 []) (.j 0) (.sl none 2 [] 0) (.j 0) (.sl none 2 [] 0):=⟨by omega,by omega,xh 0,xh 0⟩
theorem zD3:(Ty.mk 0 []).cnt=1:=rfl
/-- a form without parts yet -/
theorem zIW {dep:Int} (hP:zMn dep) (k:Int) {nm:ByteArray} (h1:nm.size<=1000) (J:Int) (O:0<=J/\J<=3) {s:ByteArray} {n:Int} (hr:Rs s n) (b:Bool) (N:Nat) (Q:QT [.ag 9,.str,.i,.bool])
  (hQ:∀ d I U N',N<=N'->Rs s I->n<=I->SomC (1100+2000*(I - n).toNat) d->Q d s I U N'):BCalls prog 196 [.ag 9,.str,.i,.bool] [.pb 0 0 0 0,.dg 9 (.ag [.j k,.t nm,.t (bytes []),.j 0,.j 0,.sl none 2 [] 0,.j 0,.sl none 2 [] 0,.sl none 9 [] 0]),.j J,.j dep] [.var [.str s,.j n,.bool b]] N Q:=
 zL2 hP (zLO h1 (by decide)) (l0:=[]) rfl (by simp) (a0:=none) (c0:=0) (λ_=>trivial) (w:=3) (by simp [zD3,zh]) J O hr b N Q λd I U N' h Y hn hd=>hQ d I U N' h Y hn (hd.mono (by omega))
theorem zTi {dep:Int} (hP:zMn dep) {m1:Nat} {x:D} (hx:SomC m1 x) {s:ByteArray} {n:Int} (hr:Rs s n) (b:Bool) (N:Nat) (Q:QT [.ag 9,.str,.i,.bool])
  (hQ:∀ d I O N',N<=N'->Rs s I->n<=I->SomC (m1+20+2000*(I - n).toNat) d->Q d s I O N'):BCalls prog 198 [.ag 9,.str,.i,.bool] [.pb 0 0 0 0,.dg 9 x,.j dep] [.var [.str s,.j n,.bool b]] N Q:=by
 obtain ⟨t,ht,hc⟩:=hx
 have h1:=hr.lo
 have h2:=hr.hi
 have h3:=hr.l
 have app:∀ (I:Int) (O:Bool) (a:Option Addr) (N':Nat),N<=N'->Rs s I->n<=I->Q (.ag [.j 7,.t (bytes []),.t (bytes []),.j 0,.j 0,.sl none 2 [] 0,.j 0,.sl none 2 [] 0,.sl a 9 [x] 1]) s I O N':=λI O a N' h J hn=>hQ _ _ _ _ h J hn ⟨.mk 7 (bytes []) (bytes []) 0 (.mk 0 []) (.mk 0 []) [t],Tm.is_mk.2 ⟨_,_,_,_,_,_,_,rfl,zLO (by decide) (by decide),by simp,qQ ht⟩,by simp only [Tm.cnt,zD3,zh];omega⟩
 have args:∀ (k:Int) (nm:ByteArray) (ac:nm.size<=1000) (a:Option Addr) (n1:Int) (ae:Rs s n1) (_:n<=n1) (O:Bool) (N1:Nat) (_:N<=N1) (Q1:QT [.ag 9,.str,.i,.bool]) (_:∀ d I O N',N1<=N'->Rs s I->n1<=I->SomC (m1+20+2000*(I - n).toNat) d->Q1 d s I O N'),BCalls prog 196 [.ag 9,.str,.i,.bool] [.pb 0 0 0 0,.dg 9 (.ag [.j k,.t nm,.t (bytes []),.j 0,.j 0,.sl none 2 [] 0,.j 0,.sl none 2 [] 0,.sl a 9 [x] 1]),.j 1,.j dep] [.var [.str s,.j n1,.bool O]] N1 Q1:=λk nm ac a n1 ae ao O N1 ai Q1 aj=>
  zL2 hP (zLO ac (by decide)) (qQ ht) (by simp) (λy=>by cases a<;>exact ⟨rfl,by simp⟩) (w:=3+m1) (by simp only [zD3,zh];omega) 1 ⟨by omega,by omega⟩ ae O N1 Q1 λd I b2 N' h J ak hd=>aj d I b2 N' h J ak (hd.mono (by omega))
 refine zC5 N x dep s n b Q λE _ N1 ai=>vi hr _ (by decide) _ N1 _ λb2 n2 N2 aq U Y z2 _ _=>Br.of (λ_=>⟨⟨rfl,rfl⟩,⟨rfl,rfl⟩,⟨rfl,rfl⟩,⟨rfl,rfl⟩,λa N3 aa _ N4 ab=>?_⟩) λal=>Br.of (λ_=>⟨⟨rfl,rfl⟩,⟨rfl,rfl⟩,⟨rfl,rfl⟩,⟨rfl,rfl⟩,⟨rfl,rfl⟩,λa N3 aa _=>⟨ze,λN4 ab=>app _ _ _ _ (by omega) U Y⟩⟩) λ_=>Br.dec (λ_=>⟨⟨rfl,rfl⟩,⟨rfl,rfl⟩,⟨rfl,rfl⟩,⟨rfl,rfl⟩,⟨rfl,rfl⟩,λa N3 aa _=>⟨ze,λN4 ab=>app _ _ _ _ (by omega) U Y⟩⟩) λau=>?_
 ·exact args 7 _ (by decide) a n2 U Y _ N4 (by omega) _ λd I O N' h J hn hd _ _=>⟨ze,λN5 ah=>hQ _ _ _ _ (by omega) J (by omega) hd⟩
 ·have z2:=z2 al;subst z2
  have h1:=U.lo
  have e1:IntKind.i64.wrap (n2+1)=n2+1:=i64_in _ (by omega)
  rw [e1]
  refine ⟨⟨h1,by omega,by omega⟩,λN3 aa=>tS _ N3 _ λN4 ab _=>Br.bne (λ_=>⟨⟨rfl,rfl⟩,⟨rfl,rfl⟩,⟨rfl,rfl⟩,⟨rfl,rfl⟩,⟨rfl,rfl⟩,λa N5 ah _=>⟨ze,λN6 am=>app _ _ _ _ (by omega) U Y⟩⟩) λ_=>⟨⟨h1,by omega,by omega⟩,⟨rfl,rfl⟩,⟨rfl,rfl⟩,⟨rfl,rfl⟩,⟨rfl,rfl⟩,λa N5 ah _ N6 am=>?_⟩⟩
  exact args 4 _ (by rw [mS];omega) a (n2+1) ⟨h3,by omega,by omega⟩ (by omega) _ N6 (by omega) _ λd I O N' h J hn hd _ _=>⟨ze,λN7 aw=>hQ _ _ _ _ (by omega) J (by omega) hd⟩
theorem zUS {dep:Int} (hP:zMn dep) {s:ByteArray} {n:Int} (hr:Rs s n) (b:Bool) (N:Nat) (Q:QT [.ag 9,.str,.i,.bool])
  (hQ:∀ d I b' N',N<=N'->Rs s I->n<=I->SomC (1100+2000*(I - n).toNat) d->Q d s I b' N'):BCalls prog 197 [.ag 9,.str,.i,.bool] [.pb 0 0 0 0,.j dep] [.var [.str s,.j n,.bool b]] N Q:=by
 refine zD4 N dep s n b Q λE N1 bm=>zGG hr _ N1 _ λnm n2 N2 bp aa bq bt _ N3 bv=>v6 aa _ (by decide) _ N3 _ λb4 n4 N4 bw ab bz _ _ N5 b1=>zGG ab _ N5 _ λot n6 N6 b2 ac b3 b5 _ N7 b6=>v6 ac _ (by decide) _ N7 _ λb8 n8 N8 b7 ae b9 _ _ N9 ca=>?_
 refine zN4 8 (by omega) 1 (by omega) ae _ N9 _ λty d cc cd ce au J aw ah ax _ _ ai ay=>v6 J _ (by decide) _ ai _ λcf cg ch az O a6 _ _ aj a7=>?_
 refine zN4 8 (by omega) 1 (by omega) O _ aj _ λre e cj ck cm a8 U ba ak bb _ _ al bc=>v6 U _ (by decide) _ al _ λam cn co bg Y bh _ _ ao bi=>?_
 have hp:2 ^ (8+1)=512:=rfl
 refine zL2 hP (k:=9) (m:=0) (ty:=ty) (re:=re) ⟨by omega,by omega,Ty.is_cells ah,Ty.is_cells ak⟩ (l0:=[]) rfl (by simp) (a0:=none) (c0:=0) (λ_=>trivial) (w:=1025) (by simp only [zh];omega) 1 ⟨by omega,by omega⟩ Y am ao _ λx I b' N' h aq hn hx _ _=>⟨ze,λcp bj=>hQ _ _ _ _ (by omega) aq (by omega) (hx.mono (by omega))⟩
theorem zPi {s:ByteArray} {n:Int} (hr:Rs s n) (b:Bool) (N:Nat) (Q:QT [.ag 9,.str,.i,.bool])
  (Y:∀ d n' b' N',N<=N'->Rs s n'->n<=n'->SomC 3 d->Q d s n' b' N'):BCalls prog 183 [.ag 9,.str,.i,.bool] [.pb 0 0 0 0] [.var [.str s,.j n,.bool b]] N Q:=by
 have rd:∀ (w:ByteArray) (hw:w.size<=1000) (N:Nat) (Q:QT [.i,.bool]) (Y:∀ n b N',N<=N'->Q n b N'),ACalls prog 199 [.i,.bool] [.str w] N Q:=λw hw N Q Y=>by
  refine zA4 N w Q λN1 ah=>?_
  have en:∀ n b N2,N1<=N2->Br (!b) (∀ N3,N2<=N3->Q 0 false N3) (Br (decide (n<0)) (∀ J,N2<=J->Q 0 false J) (∀ I,N2<=I->Q n true I)):=λn b N2 aa=>Br.of (λ_ N3 O=>Y _ _ _ (by omega)) λ_=>Br.of (λ_ N3 O=>Y _ _ _ (by omega)) λ_ N3 O=>Y _ _ _ (by omega)
  have key:∀ (b6:Bool) (t:ByteArray),t.size<=6->yA (λn b N2=>N1<=N2->Br (!b) (∀ N3,N2<=N3->Q 0 false N3) (Br (decide (n<0)) (∀ J,N2<=J->Q 0 false J) (∀ I,N2<=I->Q n true I))) N1 w b6 t 0 0 N1:=λb6 t ht=>by
   have lp:∀ (m:Nat) (k:Nat) (v:Int),k+m=t.size->0<=v->v<10 ^ k->yA (λn b N2=>N1<=N2->Br (!b) (∀ N3,N2<=N3->Q 0 false N3) (Br (decide (n<0)) (∀ J,N2<=J->Q 0 false J) (∀ I,N2<=I->Q n true I))) N1 w b6 t v k N1:=by
    intro m
    induction m with
    | zero=>
      intro k v hk ai hv
      have aj:v<1000000:=Int.lt_of_lt_of_le hv (by
       have:(10:Nat) ^ k<=10 ^ 6:=nQ (by omega) (by omega)
       have:((10 ^ k:Nat):Int)<=((10 ^ 6:Nat):Int):=Int.ofNat_le.2 this
       simpa using this)
      have e0:IntKind.i64.wrap (0 - v)=0 - v:=i64_in _ (by omega)
      refine r6 _ _ _ _ _ _ _ _ (Br.dec (λh=>by omega) λ_=>Br.of (λ_ N3 O=>?_) λ_ N3 O=>?_)
      ·rw [e0]
       exact zRm _ (by omega) N3 _ λz J ab hz _=>Br.of (λ_ I U _=>en _ _ _ (by omega)) λ_ I U _=>en _ _ _ (by omega)
      ·exact zRm _ (by omega) N3 _ λz J ab hz _=>Br.of (λ_ I U _=>en _ _ _ (by omega)) λ_ I U _=>en _ _ _ (by omega)
    | succ m ih=>
      intro k v hk ai hv
      have aj:v<1000000:=Int.lt_of_lt_of_le hv (by
       have:(10:Nat) ^ k<=10 ^ 6:=nQ (by omega) (by omega)
       have:((10 ^ k:Nat):Int)<=((10 ^ 6:Nat):Int):=Int.ofNat_le.2 this
       simpa using this)
      have bd:0<=(k:Int)/\(k:Int)<(t.size:Int):=⟨by omega,by omega⟩
      refine r6 _ _ _ _ _ _ _ _ (Br.of (λ_=>⟨bd,Br.dec (λ_ N3 O _=>en _ _ _ (by omega)) λh1=>⟨bd,Br.dec (λ_ N3 O _=>en _ _ _ (by omega)) λh2=>⟨bd,?_⟩⟩⟩) λh=>by
       rw [decide_eq_false_iff_not] at h;omega)
      generalize ((t.data.getD (k:Int).toNat (OfNat.ofNat 0)).toNat:Int)=c at h1 h2 ⊢
      have e3:IntKind.u8.wrap (c - 48)=c - 48:=u8_in _ (by omega)
      rw [e3,i64_in (10*v) (by omega),i64_in (c - 48) (by omega),i64_in (10*v+(c - 48)) (by omega),i64_in ((k:Int)+1) (by omega)]
      refine ih (k+1) _ (by omega) (by omega) ?_
      rw [Int.pow_succ]
      omega
   exact lp t.size 0 0 (by omega) (by omega) (by decide)
  have cut:∀ b6:Bool,∀ t:ByteArray,Br (decide ((t.size:Int)<1)) (∀ N2,N1<=N2->N1<=N2->Br (!false) (∀ N3,N2<=N3->Q 0 false N3) (Br (decide ((0:Int)<0)) (∀ J,N2<=J->Q 0 false J) (∀ I,N2<=I->Q 0 true I))) (Br (decide ((t.size:Int)>6)) (∀ N2,N1<=N2->N1<=N2->Br (!false) (∀ N3,N2<=N3->Q 0 false N3) (Br (decide ((0:Int)<0)) (∀ J,N2<=J->Q 0 false J) (∀ I,N2<=I->Q 0 true I))) (yA (λn b N2=>N1<=N2->Br (!b) (∀ N3,N2<=N3->Q 0 false N3) (Br (decide (n<0)) (∀ J,N2<=J->Q 0 false J) (∀ I,N2<=I->Q n true I))) N1 w b6 t 0 0 N1)):=λb6 t=>
   Br.of (λ_ N2 aa _=>en 0 false _ (by omega)) λ_=>Br.dec (λ_ N2 aa _=>en 0 false _ (by omega)) λh=>key b6 t (by omega)
  refine zG4 N1 w 6 _ (Br.dec (λh=>⟨⟨by omega,by omega⟩,Br.of (λ_=>⟨⟨by omega,by omega,by omega⟩,cut _ _⟩) λ_=>cut _ _⟩) λh=>cut _ _)
 refine zAc N s n b Q λE N1 ah=>zGG hr _ N1 _ λw n2 N2 aa ac ae hw _ N3 O=>rd w hw N3 _ λv bv J ab _=>Br.of (λ_ I U=>zSG v I _ λd N6 ak hd _ _=>⟨ze,λN7 al=>Y _ _ _ _ (by omega) ac ae hd.c⟩) λ_ I U=>zSG v I _ λd N6 ak hd _ _=>⟨ze,λN7 al=>Y _ _ _ _ (by omega) ac ae hd.c⟩
theorem zTh {dep:Int} (hP:zMn dep) {s:ByteArray} {n:Int} (hr:Rs s n) (b:Bool) (N:Nat) (Q:QT [.ag 9,.str,.i,.bool])
  (hQ:∀ d n' b' N',N<=N'->Rs s n'->n<=n'->SomC (1100+2000*(n' - n).toNat) d->Q d s n' b' N'):BCalls prog 182 [.ag 9,.str,.i,.bool] [.pb 0 0 0 0,.j dep] [.var [.str s,.j n,.bool b]] N Q:=by
 have hp:2 ^ (8+1)=512:=rfl
 refine zCl N dep s n b Q λE N1 cd=>vi hr _ (by decide) _ N1 _ λb2 n2 N2 ce aq cf _ _ _=>Br.of (λ_ N3 bg=>?_) λ_ N3 bg=>vi aq _ (by decide) _ N3 _ λb4 n4 N4 bh ae bi _ _ _=>Br.of (λ_ N5 au=>?_) λ_ N5 au=>vi ae _ (by decide) _ N5 _ λb6 n6 N6 aw aa ax _ _ _=>Br.of (λ_ N7 ak=>?_) λ_ N7 ak=>vi aa _ (by decide) _ N7 _ λb8 n8 N8 ay ab az _ _ _=>Br.of (λ_ N9 al=>?_) λ_ N9 al=>vi ab _ (by decide) _ N9 _ λa6 bj bm a7 Y a8 _ _ _=>Br.of (λ_ ac ah=>?_) λ_ ac ah=>vi Y _ (by decide) _ ac _ λcg ch cj bz ai b1 _ _ _=>Br.of (λ_ am ba=>?_) λ_ am ba=>vi ai _ (by decide) _ am _ λck bp cm b3 aj b5 _ _ _=>Br.of (λ_ ao bb=>?_) λ_ ao bb=>?_
 ·refine zGG aq _ N3 _ λnm n4 N4 bh ae bi bq _ N5 au=>v6 ae _ (by decide) _ N5 _ λb6 n6 N6 aw aa ax _ _ N7 ak=>?_
  refine zN4 8 (by omega) 1 (by omega) aa _ N7 _ λty d n8 b8 N8 ay ab az bt b7 _ _ N9 al=>v6 ab _ (by decide) _ N9 _ λa6 bj bm a7 Y a8 _ _ ac ah=>?_
  exact zL2 hP (k:=6) (m:=0) (ty:=ty) (re:=.mk 0 []) ⟨by omega,by decide,Ty.is_cells bt,xh 0⟩ (l0:=[]) rfl (by simp) (a0:=none) (c0:=0) (λ_=>trivial) (w:=1025) (by simp only [zh,zD3];omega) 1 ⟨by omega,by omega⟩ Y a6 ac _ λx n' b' N' h I hn O _ _=>⟨ze,λU J=>hQ _ _ _ _ (by omega) I (by omega) (O.mono (by omega))⟩
 ·refine zGG ae _ N5 _ λnm n6 N6 aw aa ax bq _ N7 ak=>v6 aa _ (by decide) _ N7 _ λb8 n8 N8 ay ab az _ _ N9 al=>?_
  exact zIW hP 8 (by omega) 2 ⟨by omega,by omega⟩ ab b8 N9 _ λx n' b' N' h I hn O _ _=>⟨ze,λU J=>hQ _ _ _ _ (by omega) I (by omega) (O.mono (by omega))⟩
 ·exact zUS hP aa _ N7 _ λx n' b' N' h I hn O _ _=>⟨ze,λU J=>hQ _ _ _ _ (by omega) I (by omega) (O.mono (by omega))⟩
 ·exact zIW hP 5 (by decide) 3 ⟨by omega,by omega⟩ ab _ N9 _ λx n' b' N' h I hn O _ _=>⟨ze,λU J=>hQ _ _ _ _ (by omega) I (by omega) (O.mono (by omega))⟩
 ·exact zIW hP 12 (by decide) 1 ⟨by omega,by omega⟩ Y _ ac _ λx n' b' N' h I hn O _ _=>⟨ze,λU J=>hQ _ _ _ _ (by omega) I (by omega) (O.mono (by omega))⟩
 ·exact zIW hP 13 (by decide) 1 ⟨by omega,by omega⟩ ai _ am _ λx n' b' N' h I hn O _ _=>⟨ze,λU J=>hQ _ _ _ _ (by omega) I (by omega) (O.mono (by omega))⟩
 ·exact zIW hP 4 (by decide) 1 ⟨by omega,by omega⟩ aj _ ao _ λx n' b' N' h I hn O _ _=>⟨ze,λU J=>hQ _ _ _ _ (by omega) I (by omega) (O.mono (by omega))⟩
 ·refine hP s bp _ ao _ aj λx cn bv co b9 bc ca O _ _ bw cc=>?_
  exact zTi hP O bc bv bw _ λx n' b' N' h I hn O _ _=>⟨ze,λU J=>hQ _ _ _ _ (by omega) I (by omega) (O.mono (by omega))⟩
theorem zSk:∀ (j:Nat),j<=20->∀ n1:Int,n1+j=21->zMn n1:=by
 have nod:∀ (k:Int) {m:Nat} {x:D} (a:Option Addr),SomC m x->SomC (3+m) (.ag [.j k,.t (bytes []),.t (bytes []),.j 0,.j 0,.sl none 2 [] 0,.j 0,.sl none 2 [] 0,.sl a 9 [x] 1]):=λk m x a ⟨t,ht,hc⟩=>
  ⟨.mk k (bytes []) (bytes []) 0 (.mk 0 []) (.mk 0 []) [t],Tm.is_mk.2 ⟨_,_,_,_,_,_,_,rfl,zLO (by decide) (by decide),by simp,qQ ht⟩,by simp only [Tm.cnt,zD3,zh];omega⟩
 intro j
 induction j with
 | zero=>
   intro _ n1 bz s n b N Q hr hQ
   exact sw N n1 s n b Q λE=>Br.of (λ_=>⟨ze,λN1 U=>hQ _ _ _ _ U hr (mT _) (some_nod.c.mono (by omega))⟩) λ_=>Br.dec (λ_=>⟨ze,λN1 U=>hQ _ _ _ _ U hr (mT _) (some_nod.c.mono (by omega))⟩) λh=>by omega
 | succ j ih=>
   intro hj n1 bz s n b N Q hr hQ
   have e1:IntKind.i64.wrap (n1+1)=n1+1:=i64_in _ (by omega)
   have hP:=ih (by omega) (n1+1) (by omega)
   have sz:∀ x,((bytes [x]).size:Int)=1:=λ_=>rfl
   refine sw N n1 s n b Q λE=>Br.of (λ_=>⟨ze,λN1 U=>hQ _ _ _ _ U hr (mT _) (some_nod.c.mono (by omega))⟩) λ_=>Br.dec (λ_=>⟨ze,λN1 U=>hQ _ _ _ _ U hr (mT _) (some_nod.c.mono (by omega))⟩) λ_=>Br.dec (λ_=>⟨ze,λN1 U=>hQ _ _ _ _ U hr (mT _) (some_nod.c.mono (by omega))⟩) λcg N1 U=>?_
   rw [e1]
   refine vi hr _ (by decide) _ N1 _ λb2 n2 N2 ch a6 cj z2 _ _=>Br.of (λ_ N3 b1=>zOT 1 N3 _ λd N4 b3 hd _ _=>⟨ze,λN5 a7=>hQ _ _ _ _ (by omega) a6 (by omega) (hd.c.mono (by omega))⟩) λb5 N3 b1=>?_
   have z2:=z2 b5;subst z2
   refine vi a6 _ (by decide) _ N3 _ λb4 n4 N4 b3 a8 ck z4 _ _=>Br.of (λ_ N5 a7=>zOT 0 N5 _ λd N6 b7 hd _ _=>⟨ze,λN7 ba=>hQ _ _ _ _ (by omega) a8 (by omega) (hd.c.mono (by omega))⟩) λb9 N5 a7=>?_
   have z4:=z4 b9;subst z4
   refine vi a8 _ (by decide) _ N5 _ λb6 n6 N6 b7 bb cm z6 g6 _=>Br.of (λal N7 ba=>?_) λal N7 ba=>?_
   ·have g6:=g6 al
    rw [sz] at g6
    exact hP s n6 _ N7 _ bb λx n8 b8 N8 ca ah cc hx _ _=>⟨⟨rfl,rfl⟩,⟨rfl,rfl⟩,⟨rfl,rfl⟩,λa N9 bc _=>⟨ze,λam ak=>hQ _ _ _ _ (by omega) ah (by omega) ((nod 11 a hx).mono (by omega))⟩⟩
   have z6:=z6 al;subst z6
   refine vi bb _ (by decide) _ N7 _ λb8 n8 N8 ca ah cc z8 g8 _=>Br.of (λao N9 bc=>?_) λao N9 bc=>?_
   ·have g8:=g8 ao
    rw [sz] at g8
    exact hP s n8 _ N9 _ ah λx ai cd am ak Y bg hx _ _ I J=>v6 Y _ (by decide) _ I _ λbh aq au ab O aa _ _=>⟨⟨rfl,rfl⟩,⟨rfl,rfl⟩,⟨rfl,rfl⟩,⟨rfl,rfl⟩,⟨rfl,rfl⟩,λa aj ac _=>⟨ze,λce bi=>hQ _ _ _ _ (by omega) O (by omega) ((nod 10 a hx).mono (by omega))⟩⟩
   have z8:=z8 ao;subst z8
   refine vi ah _ (by decide) _ N9 _ λcd ai am ak Y bg aw ax _=>Br.of (λae I J=>?_) λae=>?_
   ·have ax:=ax ae
    rw [sz] at ax
    exact zTh hP Y _ I _ λx aq bh au ab O aa hx _ _=>⟨ze,λaj ac=>hQ _ _ _ _ (by omega) O (by omega) (hx.mono (by omega))⟩
   have aw:=aw ae;subst aw
   have bd:0<=ai/\ai<(s.size:Int):=⟨Y.lo,by omega⟩
   have word:∀ I,am<=I->∀ (b':Bool),BCalls prog 184 [.str,.str,.i,.bool] [.pb 0 0 0 0] [.var [.str s,.j ai,.bool b']] I (λbj bm bp bq bt=>I<=bt->∀ ay,bt<=ay->ACalls prog 55 [.ag 9] [.str bj] ay (λbv az=>ay<=az->Bel az bv->zT E [.var [.str (bytes []),.j 0,.bool false]]/\∀ bw,az<=bw->Q bv bm bp bq bw)):=λI J b'=>
    zGG Y _ I _ λw aq au ab O aa hw _ aj ac=>zSl w (by omega) aj _ λd ce bi hd _ _=>⟨ze,λcn cf=>hQ _ _ _ _ (by omega) O aa (hd.c.mono (by omega))⟩
   exact ⟨bd,Br.of (λ_=>⟨bd,Br.of (λ_ I J=>zPi Y _ I _ λd aq bh au ab O aa hd _ _=>⟨ze,λaj ac=>hQ _ _ _ _ (by omega) O aa (hd.mono (by omega))⟩) λ_ I J=>word I J _⟩) λ_ I J=>word I J _⟩
/-- what a short text is parsed to -/
theorem zSQ {s:ByteArray} (aa:1<=s.size) (hs:s.size<=104) (N:Nat) (Q:QT [.ag 9,.bool]) (J:∀ d b N',N<=N'->SomB 2100000 d->Q d b N'):ACalls prog 127 [.ag 9,.bool] [.str s] N Q:=by
 have z:=some_nod.b (by omega) |>.mono (show 3<=2100000 by omega)
 refine zCw N s Q λN1 ab=>zSk 20 (by omega) 1 (by omega) s 0 _ N1 _ ⟨by omega,by omega,by omega⟩ λx n2 b2 N2 ac O ae hx _ _=>Br.of (λ_ N3 I=>J _ _ _ (by omega) z) λ_=>Br.of (λ_ N3 I=>J _ _ _ (by omega) z) λ_ N3 I=>?_
 have:=O.hi
 obtain ⟨t,Y,hc⟩:=hx
 refine zTS t x Y (by omega) N3 _ λw N4 ah hw _=>Br.nstr (λ_ N5 U=>J _ _ _ (by omega) z) λhe N5 U=>J _ _ _ (by omega) ⟨t,Y,by omega,?_⟩
 subst he
 omega
end Go.Proofs.YtfajiphkncipoaaGreatDoor
