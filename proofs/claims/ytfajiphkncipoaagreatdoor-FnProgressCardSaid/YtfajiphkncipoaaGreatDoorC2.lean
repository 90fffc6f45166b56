/- Drawing: texts of types and terms, roughly: some string, not too long. -/
import Derived.Test.YtfajiphkncipoaaGreatDoorKp
import Derived.Test.YtfajiphkncipoaaGreatDoorC1
import Derived.Test.YtfajiphkncipoaaGreatDoorA5
set_option linter.unusedVariables false
set_option linter.unusedSimpArgs false
set_option maxRecDepth 100000
namespace Go.Proofs.YtfajiphkncipoaaGreatDoor
open Go Go.Proofs Go.Proofs.Tryz Go.IntWalk
/-- some string of at most this many letters -/
def zRJ (f:FuncId) (args:List PV) (n:Nat):Prop:=∀ (N:Nat) (Q:QT [.str]),(∀ s N',N<=N'->s.size<=n->Q s N')->ACalls prog f [.str] args N Q
theorem zGv (l:List Int):∀ b:ByteArray,(l.foldl (λr n=>r.push (UInt8.ofNat n.toNat)) b).size=b.size+l.length:=by
 induction l with
 | nil=>intro b;simp
 | cons x l I=>intro b;simp only [List.foldl_cons,I,ByteArray.size_push,oM];omega
theorem s5 (l:List Int):(bytesOf l).size=l.length:=by
 unfold bytesOf;rw [zGv];simp
theorem zQU (n:Int) (h:n.natAbs<10000000000):zRJ 194 [.j n] 11:=λN Q J=>by
 refine sF N n Q (Br.beq (λ_ N1 I=>J _ _ I (by decide)) λ_=>?_)
 have key:∀ (m:Nat) (x:Int) (s:ByteArray),x.natAbs<10 ^ m->m+s.size<=10->∀ b,zX Q N x b s N:=by
  intro m
  induction m with
  | zero=>
    intro x s O hs b
    refine wo _ _ _ _ _ _ (Br.bne (λh=>by omega) λ_=>Br.of (λ_=>⟨by omega,λN1 I=>J _ _ I ?_⟩) λ_ N1 I=>J _ _ I (by omega))
    rw [oL]
    have:(bytes [45]).size=1:=rfl
    omega
  | succ m Y=>
    intro x s O hs b
    have hb:x.natAbs<10000000000:=o7 O (by rw [show (10000000000:Nat)=10 ^ 10 from rfl];exact mX (by omega) (by omega))
    have hq:(Int.tdiv x 10).natAbs=x.natAbs / 10:=Int.natAbs_tdiv x 10
    have hd:IntKind.i64.wrap (Int.tdiv x 10)=Int.tdiv x 10:=i64_in _ (by omega)
    have U:∀ es:List Int,es.length=1->zX Q N (IntKind.i64.wrap (Int.tdiv x 10)) b (bytesOf es++s) N:=λes he=>by
     rw [hd]
     refine Y _ _ ?_ ?_ b
     ·rw [hq]
      rw [mq] at O
      omega
     ·rw [oL,s5];omega
    have sz:∀ es:List Int,es.length=1->(bytesOf es).size+s.size<=9223372036854775807:=λes he=>by rw [s5];omega
    refine wo _ _ _ _ _ _ (Br.bne (λ_=>⟨by decide,Br.of (λ_=>⟨by simp,[_],rfl,sz _ rfl,by decide,U _ rfl⟩) λ_=>⟨by simp,[_],rfl,sz _ rfl,by decide,U _ rfl⟩⟩) λ_=>Br.of (λ_=>⟨by omega,λN1 I=>J _ _ I ?_⟩) λ_ N1 I=>J _ _ I (by omega))
    rw [oL]
    have:(bytes [45]).size=1:=rfl
    omega
 exact key 10 n _ (by simpa using h) (by decide) _
theorem zQK:∀ t:Ty,t.form=true->Wf t:=by
 refine Ty.ind λk l ih h=>?_
 simp only [Ty.form,oJ] at h
 obtain ⟨J,O⟩:=h
 have sub:∀ t∈l,Wf t:=λt ht=>ih t ht (by
  have key:∀ l:List Ty,wO l=true->∀ t∈l,t.form=true:=by
   intro l
   induction l with
   | nil=>intro _ t ht;simp at ht
   | cons x l U=>
     intro h t ht
     simp only [wO,oJ] at h
     rcases oF.1 ht with rfl | ht
     ·exact h.1
     ·exact U h.2 t ht
  exact key l (by first | exact J | exact O) t ht)
 have I:t8 k l.length=true:=by first | exact J | exact O
 unfold t8 at I
 split at I
 ·rename_i Y
  have:l=[]:=oU (by have:=nj.1 I;omega)
  subst this
  rcases Y with rfl | rfl
  ·exact .int
  ·exact .bool
 split at I
 ·rename_i aa;subst aa
  have O:l.length=2:=by have:=nj.1 I;omega
  match l,O,sub with
  | [a,b],_,sub=>exact .fn (sub a (by simp)) (sub b (by simp))
 split at I
 ·rename_i ab;subst ab
  have J:l.length=1:=by have:=nj.1 I;omega
  match l,J,sub with
  | [a],_,sub=>exact .code (sub a (by simp))
 ·cases I
theorem zNh {t:Ty} (hw:Wf t):t.cnt<=1000000->∀ {d:D},t.Is d->zRJ 208 [.dg 2 d] (3*t.cnt):=by
 have U:∀ x,(bytes [x]).size=1:=λ_=>rfl
 induction hw with
 | int=>
   intro hc d hd N Q J
   obtain ⟨b,fs,k,rfl,_,h2⟩:=Ty.is_mk.1 hd
   exact vl N _ Q λ_=>⟨1,rfl,Br.beq (λ_ N1 I=>J _ _ I (by decide)) λh=>absurd rfl h⟩
 | bool=>
   intro hc d hd N Q J
   obtain ⟨b,fs,k,rfl,_,h2⟩:=Ty.is_mk.1 hd
   exact vl N _ Q λ_=>⟨2,rfl,Br.beq (λh=>absurd h (by decide)) λ_=>Br.beq (λ_ N1 I=>J _ _ I (by decide)) λh=>absurd rfl h⟩
 | @fn u v hu hv O Y=>
   intro hc d hd N Q J
   have aa:(vP u v).cnt=1+(u.cnt+(v.cnt+0)):=rfl
   obtain ⟨b,fs,k,rfl,ab,d1,_,rfl,h3,d2,_,rfl,h4,rfl⟩:=Ty.is_mk.1 hd
   refine vl N _ Q λ_=>⟨3,rfl,Br.beq (λh=>absurd h (by decide)) λ_=>Br.beq (λh=>absurd h (by decide)) λ_=>Br.beq (λ_=>⟨_,_,_,rfl,⟨by simp,by simp⟩,_,_,_,rfl,⟨by simp,by simp⟩,λN1 I=>?_⟩) λh=>absurd rfl h⟩
   refine O (by omega) h3 N1 _ λs N2 ac hs _=>⟨by omega,by rw [oL,U];omega,λN3 ae=>?_⟩
   refine Y (by omega) h4 N3 _ λs' N4 ah ai _=>⟨by simp only [oL,U];omega,by simp only [oL,U];omega,λN5 aj=>J _ _ (by omega) (by simp only [oL,U];omega)⟩
 | @code u hu O=>
   intro hc d hd N Q J
   have aa:(xN u).cnt=1+(u.cnt+0):=rfl
   obtain ⟨b,fs,k,rfl,ab,d1,_,rfl,h3,rfl⟩:=Ty.is_mk.1 hd
   refine vl N _ Q λ_=>⟨4,rfl,Br.beq (λh=>absurd h (by decide)) λ_=>Br.beq (λh=>absurd h (by decide)) λ_=>Br.beq (λh=>absurd h (by decide)) λ_=>⟨_,_,_,rfl,⟨by simp,by simp⟩,λN1 I=>?_⟩⟩
   exact O (by omega) h3 N1 _ λs N2 ac hs _=>⟨by omega,by rw [oL,U];omega,λN3 ae=>J _ _ (by omega) (by simp only [oL,U];omega)⟩
/-- how long strings are, one behind the other -/
def tot:List ByteArray->Nat
 | []=>0
 | s::l=>s.size+1+tot l
theorem zKQ (s:ByteArray):∀ l:List ByteArray,tot (l++[s])=tot l+s.size+1
 | []=>by simp [tot]
 | x::l=>by simp only [o5,tot,zKQ s l];omega
theorem zJi:∀ l:List ByteArray,l.length<=tot l
 | []=>by simp [tot]
 | x::l=>by have:=zJi l;simp only [tot,oM];omega
theorem zL7 (ws:List ByteArray) (h:tot ws<=1000000000) (J:ByteArray) (aa:J.size<=1) (a:Option Addr) (c:Nat):zRJ 207 [.sv a 0 (zA ws) c,.str J] (tot ws):=λN Q hQ=>by
 have ab:=zE ws
 have U:=zJi ws
 refine zJS N a _ c J Q λ_=>?_
 refine up (yu ws) (by omega) (λi xs=>∀ (ns:List Int) (r:List D) (q N':Nat),N<=N'->r=ns.map (λn=>D.lit (.int .u8 n))->ns.length+tot xs<=tot ws->wX Q N a (zA ws) c J r.length q i r q N') ?_ ?_ [] [] 0 N (oD _) rfl (by simp)
 ·intro k U hk ns r q N' O Y hn
  subst Y
  refine pL _ _ _ _ _ _ _ _ _ _ _ _ ?_
  rw [U]
  exact ⟨oD _,ns,oq (oD _),λN1 ac=>hQ _ _ (by omega) (by rw [s5];omega)⟩
 ·intro k x xs I _ ih ns r q N' O Y hn
  have hb:=I.b
  simp only [tot] at hn
  have bd:∀ s:ByteArray,xL s=(s.data.toList.map λb=>((b.toNat:Nat):Int)).map (λn=>D.lit (.int .u8 n)):=λs=>by simp [xL,mI,Function.comp_def]
  have bl:∀ s:ByteArray,(s.data.toList.map λb=>((b.toNat:Nat):Int)).length=s.size:=λs=>by simp
  have ae:r.length=ns.length:=by rw [Y];simp
  refine pL _ _ _ _ _ _ _ _ _ _ _ _ ?_
  rw [I.w,oH]
  refine Br.of (λ_=>?_) λh=>by rw [I.lt] at h;cases h
  refine Br.of (λ_=>⟨⟨rfl,rfl⟩,by unfold zB;rw [oI,ru];omega,λc1=>⟨hb,x,I.r,⟨by trivial,by trivial⟩,by unfold zB;simp only [oI,ru];omega,λc2=>ih (ns++_++_) _ c2 N' O (by rw [Y,bd,bd,<-nw,<-nw]) (by simp only [oI,bl];omega)⟩⟩) λ_=>⟨hb,x,I.r,⟨rfl,rfl⟩,by unfold zB;rw [oI,ru];omega,λc2=>ih (ns++_) _ c2 N' O (by rw [Y,bd,<-nw]) (by simp only [oI,bl];omega)⟩
theorem zC5 {s:ByteArray} (h:uu s=true):s.size<=4:=by
 simp only [uu,zEH,oJ] at h
 have:=(xu.1 h.2.1).2
 omega
theorem zMQ {s:ByteArray} (h:zCk s>0):s.size<=4:=by
 unfold zCk at h
 (repeat' split at h)<;>first | (rename_i e;rw [e];decide) | (exfalso;revert h;decide)
theorem zFZ {k:Int} {nm ot:ByteArray} (h:uS k nm ot=true):nm.size<=4/\ot.size<=4:=by
 unfold uS at h
 (repeat' split at h)<;>simp only [oJ,nM,nL,decide_eq_false_iff_not] at h
 ·exact ⟨zMQ h.1,by rw [h.2];decide⟩
 ·exact ⟨zC5 h.1,by rw [h.2];decide⟩
 ·exact ⟨zC5 h.1,zC5 h.2.1⟩
 ·rw [h.1,h.2];decide
theorem qA {t:Ty} (h:t.valid=true):Wf t/\t.cnt<=30:=by
 refine ⟨zQK t ?_,Ty.valid_cnt h⟩
 simp only [Ty.valid,oJ] at h
 exact h.2
theorem zRo {k n:Int} {nm ot:ByteArray} {ty re:Ty} {l:List Tm} (nd:Node k nm ot n ty re l) {t0 t1 r0 r1 x:D} (hh:Tm.Hd nm ot ty re t0 t1 r0 r1) {ws:List ByteArray} (hws:tot ws<=400000000) (hl:ws.length=l.length) (hk:k≠1/\k≠2/\k≠3/\k≠4/\k≠10/\k≠11) (a:Option Addr) (c:Nat) :
  zRJ 202 [.dg 9 (.ag [.j k,.t nm,.t ot,.j n,t0,t1,r0,r1,x]),.sv a 0 (zA ws) c] (tot ws+300):=fun N Q hQ=>by
 have f:=nd.f
 have har:=nd.ar
 have hwl:=zE ws
 simp only [zU,oJ] at f
 obtain ⟨n4,o4⟩:=zFZ f.2.2.2.2.2
 have b1:∀ a,(bytes [a]).size=1:=fun _=>rfl
 have b2:∀ a b,(bytes [a,b]).size=2:=fun _ _=>rfl
 have b4:∀ a b c d,(bytes [a,b,c,d]).size=4:=fun _ _ _ _=>rfl
 have b5:∀ a b c d e,(bytes [a,b,c,d,e]).size=5:=fun _ _ _ _ _=>rfl
 have b6:∀ a b c d e f,(bytes [a,b,c,d,e,f]).size=6:=fun _ _ _ _ _ _=>rfl
 have one:ws≠[]->((0:Int)<=(0:Int)/\0<((zA ws).length:Int))/\∃ s,List.getD (zA ws) 0 default=D.t s/\s.size<=tot ws:=fun h=>by
  match ws,h with
  | s::l,_=>exact ⟨⟨by simp,by simp [zA]⟩,s,rfl,by simp only [tot];omega⟩
 have ne:zEX k nm=1->ws≠[]:=fun h hc=>by subst hc;simp at hl;omega
 refine zGx N _ a _ c Q fun _ _=>⟨k,rfl,Br.beq (fun _ N1 hN1=>?_) fun h5=>Br.beq (fun h6=>?_) fun h6=>Br.beq (fun _ N1 hN1=>?_) fun h7=>Br.beq (fun _=>⟨nm,rfl,by omega,by simp only [oL,b5];omega,fun N1 hN1=>?_⟩) fun h8=>Br.beq (fun h9=>?_) fun h9=>Br.beq (fun h12=>?_) fun h12=>?_⟩
 ·exact zL7 ws (by omega) _ (by decide) a c N1 _ fun s N2 hN2 hs _=>⟨by omega,by simp only [oL,b4];omega,fun N3 hN3=>hQ _ _ (by omega) (by simp only [oL,b4,b1];omega)⟩
 ·obtain ⟨bd,s,hs,hsz⟩:=one (ne (by subst h6;rfl))
  have hv:=nd.vt (.inl h6)
  refine ⟨nm,rfl,by omega,by simp only [oL,b2];omega,bd,s,hs,fun N1 hN1=>?_⟩
  have:=(qA hv).2
  exact zNh (qA hv).1 (by omega) hh.ty N1 _ fun z N2 hN2 hz _=>⟨by simp only [oL,b2,b1];omega,by simp only [oL,b2,b1];omega,by simp only [oL,b2,b1];omega,by simp only [oL,b2,b1];omega,fun N3 hN3=>hQ _ _ (by omega) (by simp only [oL,b2,b1];omega)⟩
 ·exact zL7 ws (by omega) _ (by decide) a c N1 _ fun s N2 hN2 hs _=>⟨by omega,by simp only [oL,b1];omega,fun N3 hN3=>hQ _ _ (by omega) (by simp only [oL,b1];omega)⟩
 ·exact zL7 ws (by omega) _ (by decide) a c N1 _ fun s N2 hN2 hs _=>⟨by simp only [oL,b5,b1];omega,by simp only [oL,b5,b1];omega,fun N3 hN3=>hQ _ _ (by omega) (by simp only [oL,b5,b1];omega)⟩
 ·obtain ⟨bd,s,hs,hsz⟩:=one (ne (by subst h9;rfl))
  have hv:=nd.vt (.inr h9)
  have hv2:=nd.vr h9
  have:=(qA hv).2
  have:=(qA hv2).2
  refine ⟨nm,rfl,by omega,by simp only [oL,b5];omega,ot,rfl,by simp only [oL,b5,b1];omega,by simp only [oL,b5,b1];omega,bd,s,hs,fun N1 hN1=>?_⟩
  refine zNh (qA hv).1 (by omega) hh.ty N1 _ fun z N2 hN2 hz _=>⟨by simp only [oL,b5,b1];omega,by simp only [oL,b5,b1];omega,fun N3 hN3=>?_⟩
  exact zNh (qA hv2).1 (by omega) hh.re N3 _ fun y N4 hN4 hy _=>⟨by simp only [oL,b5,b1];omega,by simp only [oL,b5,b1];omega,by simp only [oL,b5,b1];omega,by simp only [oL,b5,b1];omega,fun N5 hN5=>hQ _ _ (by omega) (by simp only [oL,b5,b1];omega)⟩
 ·obtain ⟨bd,s,hs,hsz⟩:=one (ne (by subst h12;rfl))
  exact ⟨bd,s,hs,by omega,by simp only [oL,b5];omega,fun N1 hN1=>hQ _ _ (by omega) (by simp only [oL,b5,b1];omega)⟩
 ·have hc := zCr (k := k) (nm := nm) (by omega)
  obtain ⟨bd, s, hs, hsz⟩ := one (ne (by obtain rfl:k=13:=by omega
                                         rfl))
  exact ⟨bd,s,hs,by omega,by simp only [oL,b6];omega,fun N1 hN1=>hQ _ _ (by omega) (by simp only [oL,b6,b1];omega)⟩
theorem zIl:∀ {l:List Tm} {t:Tm},t∈l->t.sz<=rC l
 | x::l,t,h=>by
   simp only [rC]
   rcases oF.1 h with rfl | h
   ·omega
   ·have:=zIl h;omega
theorem zRM:∀ t:Tm,t.ok=true->t.sz<=100000->∀ d,t.Is d->zRJ 186 [.dg 9 d] (500*t.sz - 1):=by
 refine Tm.ind λk nm ot n ty re l ih ak al d hd N Q U=>?_
 obtain ⟨t0,t1,r0,r1,a,es,c,rfl,hh,ae,ah⟩:=Tm.is_mk.1 hd
 have nd:=yz ak
 have O:=nd.ar
 have ax:=ah.len
 have f:=nd.f
 simp only [zU,oJ] at f
 obtain ⟨n4,o4⟩:=zFZ f.2.2.2.2.2
 have hn:=xu.1 f.2.2.2.2.1
 have Y:∀ a,(bytes [a]).size=1:=λ_=>rfl
 have b2:∀ a b,(bytes [a,b]).size=2:=λ_ _=>rfl
 have hs:(Tm.mk k nm ot n ty re l).sz=1+rC l:=by simp only [Tm.sz]
 rw [hs] at al U
 refine zGy N _ Q λ_=>?_
 refine up ah ae (λi xs=>∀ (ws:List ByteArray) (q N':Nat),N<=N'->ws.length=i->tot ws+500*rC xs<=500*rC l->we Q N (zA ws).length q i _ (zA ws) q N') ?_ ?_ [] 0 N (oD _) rfl (by simp [tot])
 ·intro i am hi ws q N' ao ai aa
  have ay:=zE ws
  have ps:(0:Int)<((zA ws).length:Int)->((0:Int)<=(0:Int)/\0<((zA ws).length:Int)/\0<(zA ws).length):=λh=>⟨by omega,h,by omega⟩
  have one:0<ws.length->∃ s,List.getD (zA ws) 0 default=D.t s/\s.size+1<=tot ws:=λh=>by
   match ws,h with
   | s::l,_=>exact ⟨s,rfl,by simp only [tot];omega⟩
  have aq:1<ws.length->∃ s s',List.getD (zA ws) 0 default=D.t s/\List.getD (zA ws) 1 default=D.t s'/\s.size+s'.size+2<=tot ws:=λh=>by
   match ws,h with
   | s::s'::l,_=>exact ⟨s,s',rfl,rfl,by simp only [tot];omega⟩
  refine rL _ _ _ _ _ _ _ _ _ ⟨a,es,c,rfl,Br.of (λh=>by rw [am] at h;cases h) λ_=>⟨k,rfl,Br.beq (λ_=>⟨nm,rfl,λN1 I=>U _ _ (by omega) (by omega)⟩) λh1=>Br.beq (λh2=>⟨n,rfl,λN1 I=>?_⟩) λh2=>Br.beq (λh3=>⟨n,rfl,n,rfl,?_⟩) λh3=>Br.beq (λh4=>?_) λh4=>Br.beq (λab=>?_) λab=>Br.beq (λac=>?_) λac=>⟨⟨rfl,rfl⟩,λa2 _ _ N1 I _=>?_⟩⟩⟩
  ·rw [if_pos h2] at hn
   exact zQU n (by omega) N1 _ λs N2 aj hs _ N3 au=>U _ _ (by omega) (by omega)
  ·rw [if_neg h2,if_pos h3] at hn
   rw [i64_in (n+1) (by omega)]
   exact ⟨⟨by omega,by omega,by omega⟩,by rw [mP];omega,λN1 I=>U _ _ (by omega) (by rw [oL,mP,Y,b2];omega)⟩
  ·subst h4
   have O:(l.length:Int)=zCk nm:=O
   have az:zCk nm=1\/zCk nm=2:=by
    have h:=f.2.2.2.2.2
    simp only [uS] at h
    rw [if_pos trivial] at h
    simp only [oJ,nM] at h
    have:=h.1
    revert this
    unfold zCk
    (repeat' split)<;>simp
   refine Br.beq (λhw=>?_) λhw=>?_
   ·obtain ⟨s,e1,e2⟩:=one (by omega)
    exact ⟨ps (by omega),by omega,s,e1,by omega,by simp only [oL,b2];omega,λN1 I=>U _ _ (by omega) (by simp only [oL,b2,Y];omega)⟩
   ·obtain ⟨s,s',e1,e3,e2⟩:=aq (by omega)
    exact ⟨ps (by omega),by omega,s,e1,by omega,nm,rfl,by simp only [oL,Y];omega,⟨by omega,by omega,by omega⟩,by omega,s',e3,by simp only [oL,Y];omega,by simp only [oL,Y];omega,λN1 I=>U _ _ (by omega) (by simp only [oL,Y];omega)⟩
  ·subst ab
   have O:(l.length:Int)=1:=O
   obtain ⟨s,e1,e2⟩:=one (by omega)
   exact ⟨ps (by omega),by omega,s,e1,by omega,by simp only [oL,Y];omega,λN1 I=>U _ _ (by omega) (by simp only [oL,Y];omega)⟩
  ·subst ac
   have O:(l.length:Int)=1:=O
   obtain ⟨s,e1,e2⟩:=one (by omega)
   exact ⟨ps (by omega),by omega,s,e1,by omega,λN1 I=>U _ _ (by omega) (by simp only [oL,Y];omega)⟩
  ·exact zRo nd hh (by omega) (by omega) ⟨h1,h2,h3,h4,ab,ac⟩ a2 q N1 _ λs N2 aj hs _ N3 au=>U _ _ (by omega) (by omega)
 ·intro i x xs J _ aw ws q N' ao ai aa
  have hb:=J.b
  have hx:x.sz<=rC l:=zIl J.m
  have a6:=zJi ws
  have hp:1<=x.sz:=by cases x;simp only [Tm.sz];omega
  simp only [rC] at aa
  refine rL _ _ _ _ _ _ _ _ _ ⟨a,es,c,rfl,Br.of (λ_=>⟨a,es,c,rfl,hb,λN1 I=>?_⟩) λh=>by rw [J.lt] at h;cases h⟩
  rw [oH]
  refine ih x J.m (nd.sub x J.m) (by omega) _ J.r N1 _ λs N2 aj hs _=>⟨⟨rfl,rfl⟩,by unfold zB;rw [oI,zE];simp only [oM,oQ];omega,λc2=>?_⟩
  have e:zA ws++[D.t s]=zA (ws++[s]):=by simp [zA]
  rw [e,J.w]
  exact aw (ws++[s]) c2 N2 (by omega) (by simp [ai]) (by rw [zKQ];omega)
theorem zRy (t:Tm) (d:D) (hd:t.Is d) (hc:t.cnt<=1073741824):zRJ 158 [.dg 9 d] 50000:=λN Q J=>by
 refine zBJ N d Q λ_ N1 U=>pE t d hd hc N1 _ λN2 Y _=>Br.not (λ_ N3 I=>J _ _ (by omega) (by decide)) λO N3 I=>?_
 simp only [Tm.vd,oJ,nM] at O
 exact zRM t O.2 (by omega) d hd N3 _ λs N4 aa hs _ N5 ab=>J _ _ (by omega) (by omega)
end Go.Proofs.YtfajiphkncipoaaGreatDoor
set_option maxRecDepth 100000
namespace Go.Proofs.YtfajiphkncipoaaGreatDoor
open Go Go.Proofs Go.Proofs.Tryz Go.IntWalk
/-- a reader's place in a short text -/
structure Rs (s:ByteArray) (n:Int):Prop where
 l:s.size<=1000
 lo:0<=n
 hi:n<=s.size
theorem vO {s:ByteArray} {n:Int} (O:Rs s n) (t:ByteArray) (ht:t.size<=100) (b:Bool) (N:Nat) (Q:QT [.bool,.str,.i,.bool])
  (Y:∀ U J N',N<=N'->Rs s J->n<=J->(U=false->J=n)->(U=true->J=n+t.size)->Q U s J b N'):BCalls prog 180 [.bool,.str,.i,.bool] [.pb 0 0 0 0,.str t] [.var [.str s,.j n,.bool b]] N Q:=by
 have h1:=O.lo
 have h2:=O.hi
 have h3:=O.l
 have no:∀ N1,N<=N1->Q false s n b N1:=λN1 I=>Y _ _ _ I O (mQ _) (λ_=>rfl) (by simp)
 have e:IntKind.i64.wrap (n+(t.size:Int))=n+t.size:=i64_in _ (by omega)
 refine zB2 N t s n b Q λE=>Br.of (λ_=>⟨zY,no⟩) λ_=>?_
 rw [e]
 exact Br.dec (λ_=>⟨zY,no⟩) λhg=>⟨⟨h1,by omega,by omega⟩,Br.of (λ_=>⟨zY,no⟩) λ_=>⟨zY,λN1 I=>Y _ _ _ I ⟨h3,by omega,by omega⟩ (by omega) (by simp) λ_=>rfl⟩⟩
theorem ve {s:ByteArray} {n:Int} (hr:Rs s n) (t:ByteArray) (ht:t.size<=100) (b:Bool) (N:Nat) (Q:QT [.str,.i,.bool])
  (hQ:∀ O I N',N<=N'->Rs s I->n<=I->(O=false->I=n+t.size)->Q s I O N'):BCalls prog 181 [.str,.i,.bool] [.pb 0 0 0 0,.str t] [.var [.str s,.j n,.bool b]] N Q:=
 zCJ N t s n b Q λE=>Br.of (λ_=>⟨zY,λN1 J=>hQ _ _ _ J hr (mQ _) (by simp)⟩) λ_ N1 J=>vO hr t ht b N1 _ λO I N2 aa U Y h0 h1 _=>⟨zY,λN3 ab=>hQ _ _ _ (by omega) U Y (by
  cases O with
  | false=>simp
  | true=>exact λ_=>h1 rfl)⟩
theorem zFg {s:ByteArray} {n:Int} (U:Rs s n) (b:Bool) (N:Nat) (Q:QT [.str,.str,.i,.bool])
  (hQ:∀ w Y N',N<=N'->Rs s Y->n<=Y->w.size<=1000->Q w s Y b N'):BCalls prog 184 [.str,.str,.i,.bool] [.pb 0 0 0 0] [.var [.str s,.j n,.bool b]] N Q:=by
 have h1:=U.lo
 have h2:=U.hi
 have h3:=U.l
 refine zCY N s n b Q λE=>?_
 have key:∀ (m:Nat) (k:Int),n<=k->k+m=s.size->yL E Q N n s k b N:=by
  intro m
  induction m with
  | zero=>
    intro k J he
    exact rN _ _ _ _ _ _ _ _ (Br.dec (λh=>by omega) λ_=>⟨⟨h1,J,by omega⟩,zY,λN1 I=>hQ _ _ _ I ⟨h3,by omega,by omega⟩ J (by rw [mP];omega)⟩)
  | succ m ih=>
    intro k J he
    have nx:yL E Q N n s (IntKind.i64.wrap (k+1)) b N:=by
     rw [i64_in (k+1) (by omega)];exact ih (k+1) (by omega) (by omega)
    have out:(0<=n/\n<=k/\k<=(s.size:Int))/\zQ E [.var [.str (bytes []),.j 0,.bool false]]/\∀ N1,N<=N1->Q (ByteArray.extract s n.toNat k.toNat) s k b N1:=⟨⟨h1,J,by omega⟩,zY,λN1 I=>hQ _ _ _ I ⟨h3,by omega,by omega⟩ J (by rw [mP];omega)⟩
    have O:0<=k/\k<(s.size:Int):=⟨by omega,by omega⟩
    have az:∀ (v w:Bool) {A B:Prop},A->B->(0<=k/\k<(s.size:Int))/\Br v ((0<=k/\k<(s.size:Int))/\Br w A B) B:=λv w A B a b=>⟨O,Br.of (λ_=>⟨O,Br.of (λ_=>a) λ_=>b⟩) λ_=>b⟩
    exact rN _ _ _ _ _ _ _ _ (Br.of (λ_=>⟨O,Br.of (λ_=>⟨O,Br.of (λ_=>nx) λ_=>az _ _ nx out⟩) λ_=>az _ _ nx out⟩) λ_=>out)
 exact key (s.size - n).toNat n (mQ _) (by omega)
theorem zM1:∀ (j:Nat),j<=8->∀ (n1:Int),n1+j=9->∀ {s:ByteArray} {n:Int} (_:Rs s n) (b:Bool) (N:Nat) (Q:QT [.ag 2,.str,.i,.bool])
  (_:∀ (t:Ty) d U b' N',N<=N'->Rs s U->n<=U->t.Is d->t.cnt+1<=2 ^ (j+1)->Q d s U b' N'),BCalls prog 195 [.ag 2,.str,.i,.bool] [.pb 0 0 0 0,.j n1] [.var [.str s,.j n,.bool b]] N Q:=by
 intro j
 have one:∀ k:Int,∀ j:Nat,(Ty.mk k []).cnt+1<=2 ^ (j+1):=λk j=>by
  have:1<=2 ^ j:=Nat.one_le_two_pow
  rw [mq];simp only [Ty.cnt,zK];omega
 induction j with
 | zero=>
   intro _ n1 a6 s n hr b N Q Y
   exact sL N n1 s n b Q λE=>Br.of (λ_=>⟨zY,λN1 I=>Y (.mk 0 []) _ _ _ _ I hr (mQ _) (xV 0) (one 0 0)⟩) λ_=>Br.dec (λ_=>⟨zY,λN1 I=>Y (.mk 0 []) _ _ _ _ I hr (mQ _) (xV 0) (one 0 0)⟩) λh=>by omega
 | succ j ih=>
   intro hj n1 a6 s n hr b N Q Y
   have e1:IntKind.i64.wrap (n1+1)=n1+1:=i64_in _ (by omega)
   have z:∀ U b' N',N<=N'->Rs s U->n<=U->Q (D.ag [D.j 0,D.sl Option.none 2 [] 0]) s U b' N':=λU b' N' h a7 hn=>Y (.mk 0 []) _ _ _ _ h a7 hn (xV 0) (one 0 _)
   refine sL N n1 s n b Q λE=>Br.of (λ_=>⟨zY,λN1 I=>z _ _ _ I hr (mQ _)⟩) λ_=>Br.dec (λ_=>by omega) λ_ N1 I=>?_
   refine vO hr _ (by decide) _ N1 _ λb2 n2 N2 ca ac a8 z2 _ _=>Br.of (λ_ N3 ba=>xG N3 _ λy N4 bb hy _ _ _=>⟨zY,λN5 ae=>Y tInt _ _ _ _ (by omega) ac a8 hy (one _ _)⟩) λbc N3 ba=>?_
   have z2:=z2 bc;subst z2
   refine vO ac _ (by decide) _ N3 _ λb4 n4 N4 bb ah cc z4 g4 _=>Br.of (λ_ N5 ae=>xO N5 _ λy N6 bd hy _ _ _=>⟨zY,λN7 ai=>Y tBool _ _ _ _ (by omega) ah (by omega) hy (one _ _)⟩) λbg N5 ae=>?_
   have z4:=z4 bg;subst z4
   have bt:2 ^ (j+1+1)=2*2 ^ (j+1):=by rw [mq];omega
   refine vO ah _ (by decide) _ N5 _ λb6 n6 N6 bd aj cd z6 g6 _=>Br.of (λab N7 ai=>?_) λab N7 ai=>?_
   ·have g6:=g6 ab
    rw [e1]
    refine ih (by omega) (n1+1) (by omega) aj _ N7 _ λt d n8 b8 N8 bh O bi hd hc _ _ N9 ak=>?_
    refine ve O _ (by decide) _ N9 _ λbj bm bn al J am _ _=>⟨⟨rfl,rfl⟩,⟨rfl,rfl⟩,⟨rfl,rfl⟩,⟨rfl,rfl⟩,⟨rfl,rfl⟩,λa ao aq _=>⟨zY,λbp au=>Y (xN t) _ _ _ _ (by omega) J (by omega) (Ty.is_mk.2 ⟨_,_,_,rfl,by simp,d,[],rfl,hd,rfl⟩) ?_⟩⟩
    have:(xN t).cnt=1+(t.cnt+0):=rfl
    have:2<=2 ^ (j+1):=by rw [mq];have:1<=2 ^ j:=Nat.one_le_two_pow;omega
    omega
   ·have z6:=z6 ab;subst z6
    refine ve aj _ (by decide) _ N7 _ λb8 n8 N8 bh O bi _ _=>Br.of (λ_=>⟨zY,λN9 ak=>z _ _ _ (by omega) O (by omega)⟩) λ_ N9 ak=>?_
    rw [e1]
    refine ih (by omega) (n1+1) (by omega) O _ N9 _ λt d bm bj bn al J am hd hc _ _ ao aq=>?_
    refine ve J _ (by decide) _ ao _ λce cf bp au aa bv _ _=>Br.of (λ_=>⟨zY,λaw ax=>z _ _ _ (by omega) aa (by omega)⟩) λ_ aw ax=>?_
    refine ih (by omega) (n1+1) (by omega) aa _ aw _ λu e cg ch cj bw ay bz he ck _ _ bq b1=>?_
    refine ve ay _ (by decide) _ bq _ λcm cn co b3 az b5 _ _=>⟨⟨rfl,rfl⟩,⟨rfl,rfl⟩,⟨rfl,rfl⟩,λa cp b7 _=>⟨zY,λcq b9=>Y (vP t u) _ _ _ _ (by omega) az (by omega) (Ty.is_mk.2 ⟨_,_,_,rfl,by simp,d,[e],rfl,hd,e,[],rfl,he,rfl⟩) ?_⟩⟩
    have:(vP t u).cnt=1+(t.cnt+(u.cnt+0)):=rfl
    omega
/-- what the parser does at this depth -/
def zLt (dep:Int):Prop:=∀ (s:ByteArray) (n:Int) (b:Bool) (N:Nat) (Q:QT [.ag 9,.str,.i,.bool]),Rs s n->(∀ d I J N',N<=N'->Rs s I->n<=I->Some (3+2000*(I - n).toNat) d->Q d s I J N')->BCalls prog 157 [.ag 9,.str,.i,.bool] [.pb 0 0 0 0,.j dep] [.var [.str s,.j n,.bool b]] N Q
theorem zLA {dep:Int} (hP:zLt dep) {k m:Int} {nm ot:ByteArray} {ty re:Ty} {t0 t1 r0 r1:D} (hh:Tm.Hd nm ot ty re t0 t1 r0 r1) {l0:List Tm} {J:List D} (h0:All2 Tm.Is l0 J) (a7:J.length<=1) {a0:Option Addr} {c0:Nat} (ao:∀ x,zPg a0 J c0 [x])
  {w:Nat} (hw:1+ty.cnt+re.cnt+zM l0<=w) (O:Int) (aa:0<=O/\O<=3) {s:ByteArray} {n:Int} (hr:Rs s n) (b:Bool) (N:Nat) (Q:QT [.ag 9,.str,.i,.bool])
  (hQ:∀ d n' b' N',N<=N'->Rs s n'->n<=n'->Some (w+9+2000*(n' - n).toNat) d->Q d s n' b' N'):BCalls prog 196 [.ag 9,.str,.i,.bool] [.pb 0 0 0 0,.dg 9 (.ag [.j k,.t nm,.t ot,.j m,t0,t1,r0,r1,.sl a0 9 J c0]),.j O,.j dep] [.var [.str s,.j n,.bool b]] N Q:=by
 refine zCO N _ O dep s n b Q λE _=>?_
 have fin:∀ (l:List Tm) (es:List D) (a:Option Addr) (c:Nat) (n':Int) (b':Bool) (N':Nat),N<=N'->Rs s n'->n<=n'->All2 Tm.Is l es->es.length<=10->zM l<=zM l0+9+2000*(n' - n).toNat->Q (.ag [.j k,.t nm,.t ot,.j m,t0,t1,r0,r1,.sl a 9 es c]) s n' b' N':=λl es a c n' b' N' h aq hn U hl hc=>
  hQ _ _ _ _ h aq hn ⟨.mk k nm ot m ty re l,Tm.is_mk.2 ⟨_,_,_,_,_,_,_,rfl,hh,by omega,U⟩,by simp only [Tm.cnt];omega⟩
 have key:∀ (j:Nat) (k9:Int) (n1:Int) (b1:Bool) (l:List Tm) (es:List D) (q N':Nat),k9+j=O->0<=k9->Rs s n1->n<=n1->All2 Tm.Is l es->(es.length:Int)<=1+k9->zM l<=zM l0+3*k9.toNat+2000*(n1 - n).toNat->N<=N' ->
   zV E Q N O dep k9 s n1 b1 (.j k) (.t nm) (.t ot) (.j m) t0 t1 r0 r1 es.length q 0 (bytes []) (bytes []) 0 0 none [] 0 0 none [] 0 none [] 0 es q N':=by
  intro j
  induction j with
  | zero=>
    intro k9 n1 b1 l es q N' hk au ab aw U ax hc ay
    refine ud _ _ _ _ _ _ _ _ _ _ _ _ _ _ _ _ _ _ _ _ _ _ _ _ _ _ _ _ _ _ _ _ _ _ _ _ _ (Br.dec (λh=>by omega) λ_ N1 I=>ve ab _ (by decide) _ N1 _ λb2 O N2 aj Y aa _ _=>⟨⟨rfl,rfl⟩,⟨rfl,rfl⟩,⟨rfl,rfl⟩,λa N3 ak _=>⟨zY,λN4 ah=>fin l es a q O b2 N4 (by omega) Y (by omega) U (by omega) (by omega)⟩⟩)
  | succ j ih=>
    intro k9 n1 b1 l es q N' hk au ab aw U ax hc ay
    have e1:IntKind.i64.wrap (k9+1)=k9+1:=i64_in _ (by omega)
    have nx:∀ (n3:Int) (b3:Bool) (x:D) (N3 c1:Nat),N<=N3->Rs s n3->n1<=n3->Some (3+2000*(n3 - n1).toNat) x->zV E Q N O dep (IntKind.i64.wrap (k9+1)) s n3 b3 (.j k) (.t nm) (.t ot) (.j m) t0 t1 r0 r1 (es++[x]).length c1 0 (bytes []) (bytes []) 0 0 none [] 0 0 none [] 0 none [] 0 (es++[x]) c1 N3:=λn3 b3 x N3 c1 h az a8 hx=>by
     obtain ⟨t,ht,a6⟩:=hx
     rw [e1]
     refine ih (k9+1) n3 b3 (l++[t]) (es++[x]) c1 N3 (by omega) (by omega) az (by omega) (U.snoc ht) (by simp;omega) ?_ h
     have:zM (l++[t])=zM l+t.cnt:=by
      clear U hc
      induction l with
      | nil=>simp [zM]
      | cons y l al=>simp only [o5,zM,al];omega
     omega
    have ai:∀ x:D,zB es [x] 136:=λx=>by unfold zB;rw [oI];simp only [oM,oQ];omega
    refine ud _ _ _ _ _ _ _ _ _ _ _ _ _ _ _ _ _ _ _ _ _ _ _ _ _ _ _ _ _ _ _ _ _ _ _ _ _ (Br.dec (λ_=>Br.of (λ_=>Br.of (λ_ N1 I=>?_) λ_ N1 I=>?_) λ_ N1 I=>ve ab _ (by decide) _ N1 _ λb2 O N2 aj Y aa _ _=>⟨⟨rfl,rfl⟩,⟨rfl,rfl⟩,⟨rfl,rfl⟩,λa N3 ak _=>⟨zY,λN4 ah=>fin l es a q O b2 N4 (by omega) Y (by omega) U (by omega) (by omega)⟩⟩) λh=>by omega)
    ·refine ve ab _ (by decide) _ N1 _ λb2 O N2 aj Y aa _ _ N3 ak=>hP s O b2 N3 _ Y λx n4 b4 N4 ah ac am hx _ _=>⟨⟨rfl,rfl⟩,ai x,λc1=>nx n4 b4 x N4 c1 (by omega) ac (by omega) (hx.mono (by omega))⟩
    ·exact hP s n1 b1 N1 _ ab λx n4 b4 N4 ah ac am hx _ _=>⟨⟨rfl,rfl⟩,ai x,λc1=>nx n4 b4 x N4 c1 (by omega) ac (by omega) hx⟩
 have e1:IntKind.i64.wrap ((0:Int)+1)=0+1:=rfl
 have ai:∀ x:D,zB J [x] 136:=λx=>by unfold zB;rw [oI];simp only [oM,oQ];omega
 have ae:∀ N1,N<=N1->∀ b',BCalls prog 181 [.str,.i,.bool] [.pb 0 0 0 0,.str (bytes [41])] [.var [.str s,.j n,.bool b']] N1 (λs n b N2=>N1<=N2->zQ E [.var [.str (bytes []),.j 0,.bool false]]/\∀ N3,N2<=N3->Q (.ag [.j k,.t nm,.t ot,.j m,t0,t1,r0,r1,.sl a0 9 J c0]) s n b N3):=λN1 I b'=>
  ve hr _ (by decide) _ N1 _ λb2 O N2 aj Y aa _ _=>⟨zY,λN3 ak=>fin l0 J a0 c0 O b2 N3 (by omega) Y aa h0 (by omega) (by omega)⟩
 refine zDa _ _ _ _ _ _ _ _ _ _ _ _ _ _ _ _ _ _ _ _ _ _ _ _ _ _ (Br.dec (λ_=>Br.of (λ_=>Br.dec (λh=>by omega) λ_=>⟨_,_,_,rfl,λN1 I=>?_⟩) λ_ N1 I=>ae N1 I _) λ_ N1 I=>ae N1 I _)
 refine hP s n b N1 _ hr λx n4 b4 N4 ah ac am hx _ _=>⟨ao x,ai x,λc1=>?_⟩
 obtain ⟨t,ht,a6⟩:=hx
 refine key (O - 1).toNat 1 n4 b4 (l0++[t]) (J++[x]) c1 N4 (by omega) (by omega) ac (by omega) (h0.snoc ht) (by simp;omega) ?_ (by omega)
 have:zM (l0++[t])=zM l0+t.cnt:=by
  clear key fin ae hw h0
  induction l0 with
  | nil=>simp [zM]
  | cons y l al=>simp only [o5,zM,al];omega
 omega
theorem zKW {nm ot:ByteArray} (I:nm.size<=1000) (J:ot.size<=1000):Tm.Hd nm ot (.mk 0 []) (.mk 0 []) (.j 0) (.sl none 2 [] 0) (.j 0) (.sl none 2 [] 0):=⟨by omega,by omega,xV 0,xV 0⟩
theorem zDU:(Ty.mk 0 []).cnt=1:=rfl
/-- a form without parts yet -/
theorem zHl {dep:Int} (hP:zLt dep) (k:Int) {nm:ByteArray} (h1:nm.size<=1000) (J:Int) (O:0<=J/\J<=3) {s:ByteArray} {n:Int} (hr:Rs s n) (b:Bool) (N:Nat) (Q:QT [.ag 9,.str,.i,.bool])
  (hQ:∀ d I U N',N<=N'->Rs s I->n<=I->Some (1100+2000*(I - n).toNat) d->Q d s I U N'):BCalls prog 196 [.ag 9,.str,.i,.bool] [.pb 0 0 0 0,.dg 9 (.ag [.j k,.t nm,.t (bytes []),.j 0,.j 0,.sl none 2 [] 0,.j 0,.sl none 2 [] 0,.sl none 9 [] 0]),.j J,.j dep] [.var [.str s,.j n,.bool b]] N Q:=
 zLA hP (zKW h1 (by decide)) (l0:=[]) rfl (by simp) (a0:=none) (c0:=0) (λ_=>trivial) (w:=3) (by simp [zDU,zM]) J O hr b N Q λd I U N' h Y hn hd=>hQ d I U N' h Y hn (hd.mono (by omega))
theorem zSC {dep:Int} (hP:zLt dep) {m1:Nat} {x:D} (hx:Some m1 x) {s:ByteArray} {n:Int} (hr:Rs s n) (b:Bool) (N:Nat) (Q:QT [.ag 9,.str,.i,.bool])
  (hQ:∀ d I O N',N<=N'->Rs s I->n<=I->Some (m1+20+2000*(I - n).toNat) d->Q d s I O N'):BCalls prog 198 [.ag 9,.str,.i,.bool] [.pb 0 0 0 0,.dg 9 x,.j dep] [.var [.str s,.j n,.bool b]] N Q:=by
 obtain ⟨t,ht,hc⟩:=hx
 have h1:=hr.lo
 have h2:=hr.hi
 have h3:=hr.l
 have app:∀ (I:Int) (O:Bool) (a:Option Addr) (N':Nat),N<=N'->Rs s I->n<=I->Q (.ag [.j 7,.t (bytes []),.t (bytes []),.j 0,.j 0,.sl none 2 [] 0,.j 0,.sl none 2 [] 0,.sl a 9 [x] 1]) s I O N':=λI O a N' h J hn=>hQ _ _ _ _ h J hn ⟨.mk 7 (bytes []) (bytes []) 0 (.mk 0 []) (.mk 0 []) [t],Tm.is_mk.2 ⟨_,_,_,_,_,_,_,rfl,zKW (by decide) (by decide),by simp,rq ht⟩,by simp only [Tm.cnt,zDU,zM];omega⟩
 have args:∀ (k:Int) (nm:ByteArray) (ac:nm.size<=1000) (a:Option Addr) (n1:Int) (ae:Rs s n1) (_:n<=n1) (O:Bool) (N1:Nat) (_:N<=N1) (Q1:QT [.ag 9,.str,.i,.bool]) (_:∀ d I O N',N1<=N'->Rs s I->n1<=I->Some (m1+20+2000*(I - n).toNat) d->Q1 d s I O N'),BCalls prog 196 [.ag 9,.str,.i,.bool] [.pb 0 0 0 0,.dg 9 (.ag [.j k,.t nm,.t (bytes []),.j 0,.j 0,.sl none 2 [] 0,.j 0,.sl none 2 [] 0,.sl a 9 [x] 1]),.j 1,.j dep] [.var [.str s,.j n1,.bool O]] N1 Q1:=λk nm ac a n1 ae ao O N1 ai Q1 aj=>
  zLA hP (zKW ac (by decide)) (rq ht) (by simp) (λy=>by cases a<;>exact ⟨rfl,by simp⟩) (w:=3+m1) (by simp only [zDU,zM];omega) 1 ⟨by omega,by omega⟩ ae O N1 Q1 λd I b2 N' h J ak hd=>aj d I b2 N' h J ak (hd.mono (by omega))
 refine zCU N x dep s n b Q λE _ N1 ai=>vO hr _ (by decide) _ N1 _ λb2 n2 N2 aq U Y z2 _ _=>Br.of (λ_=>⟨⟨rfl,rfl⟩,⟨rfl,rfl⟩,⟨rfl,rfl⟩,⟨rfl,rfl⟩,λa N3 aa _ N4 ab=>?_⟩) λal=>Br.of (λ_=>⟨⟨rfl,rfl⟩,⟨rfl,rfl⟩,⟨rfl,rfl⟩,⟨rfl,rfl⟩,⟨rfl,rfl⟩,λa N3 aa _=>⟨zY,λN4 ab=>app _ _ _ _ (by omega) U Y⟩⟩) λ_=>Br.dec (λ_=>⟨⟨rfl,rfl⟩,⟨rfl,rfl⟩,⟨rfl,rfl⟩,⟨rfl,rfl⟩,⟨rfl,rfl⟩,λa N3 aa _=>⟨zY,λN4 ab=>app _ _ _ _ (by omega) U Y⟩⟩) λau=>?_
 ·exact args 7 _ (by decide) a n2 U Y _ N4 (by omega) _ λd I O N' h J hn hd _ _=>⟨zY,λN5 ah=>hQ _ _ _ _ (by omega) J (by omega) hd⟩
 ·have z2:=z2 al;subst z2
  have h1:=U.lo
  have e1:IntKind.i64.wrap (n2+1)=n2+1:=i64_in _ (by omega)
  rw [e1]
  refine ⟨⟨h1,by omega,by omega⟩,λN3 aa=>tA _ N3 _ λN4 ab _=>Br.bne (λ_=>⟨⟨rfl,rfl⟩,⟨rfl,rfl⟩,⟨rfl,rfl⟩,⟨rfl,rfl⟩,⟨rfl,rfl⟩,λa N5 ah _=>⟨zY,λN6 am=>app _ _ _ _ (by omega) U Y⟩⟩) λ_=>⟨⟨h1,by omega,by omega⟩,⟨rfl,rfl⟩,⟨rfl,rfl⟩,⟨rfl,rfl⟩,⟨rfl,rfl⟩,λa N5 ah _ N6 am=>?_⟩⟩
  exact args 4 _ (by rw [mP];omega) a (n2+1) ⟨h3,by omega,by omega⟩ (by omega) _ N6 (by omega) _ λd I O N' h J hn hd _ _=>⟨zY,λN7 aw=>hQ _ _ _ _ (by omega) J (by omega) hd⟩
theorem zSn {dep:Int} (hP:zLt dep) {s:ByteArray} {n:Int} (hr:Rs s n) (b:Bool) (N:Nat) (Q:QT [.ag 9,.str,.i,.bool])
  (hQ:∀ d I b' N',N<=N'->Rs s I->n<=I->Some (1100+2000*(I - n).toNat) d->Q d s I b' N'):BCalls prog 197 [.ag 9,.str,.i,.bool] [.pb 0 0 0 0,.j dep] [.var [.str s,.j n,.bool b]] N Q:=by
 refine zDV N dep s n b Q λE N1 bj=>zFg hr _ N1 _ λnm n2 N2 bm aa bn bp _ N3 bq=>ve aa _ (by decide) _ N3 _ λb4 n4 N4 bt ab bv _ _ N5 bw=>zFg ab _ N5 _ λot n6 N6 bz ac b1 b2 _ N7 b3=>ve ac _ (by decide) _ N7 _ λb8 n8 N8 b5 ae b6 _ _ N9 b7=>?_
 refine zM1 8 (by omega) 1 (by omega) ae _ N9 _ λty d b9 ca cc au J aw ah ax _ _ ai ay=>ve J _ (by decide) _ ai _ λcd ce cf az O a6 _ _ aj a7=>?_
 refine zM1 8 (by omega) 1 (by omega) O _ aj _ λre e cg ch cj a8 U ba ak bb _ _ al bc=>ve U _ (by decide) _ al _ λam ck cm bd Y bg _ _ ao bh=>?_
 have hp:2 ^ (8+1)=512:=rfl
 refine zLA hP (k:=9) (m:=0) (ty:=ty) (re:=re) ⟨by omega,by omega,Ty.is_cells ah,Ty.is_cells ak⟩ (l0:=[]) rfl (by simp) (a0:=none) (c0:=0) (λ_=>trivial) (w:=1025) (by simp only [zM];omega) 1 ⟨by omega,by omega⟩ Y am ao _ λx I b' N' h aq hn hx _ _=>⟨zY,λcn bi=>hQ _ _ _ _ (by omega) aq (by omega) (hx.mono (by omega))⟩
theorem zOT {s:ByteArray} {n:Int} (hr:Rs s n) (b:Bool) (N:Nat) (Q:QT [.ag 9,.str,.i,.bool])
  (Y:∀ d n' b' N',N<=N'->Rs s n'->n<=n'->Some 3 d->Q d s n' b' N'):BCalls prog 183 [.ag 9,.str,.i,.bool] [.pb 0 0 0 0] [.var [.str s,.j n,.bool b]] N Q:=by
 have rd:∀ (w:ByteArray) (hw:w.size<=1000) (N:Nat) (Q:QT [.i,.bool]) (Y:∀ n b N',N<=N'->Q n b N'),ACalls prog 199 [.i,.bool] [.str w] N Q:=λw hw N Q Y=>by
  refine zAU N w Q λN1 ah=>?_
  have en:∀ n b N2,N1<=N2->Br (!b) (∀ N3,N2<=N3->Q 0 false N3) (Br (decide (n<0)) (∀ J,N2<=J->Q 0 false J) (∀ I,N2<=I->Q n true I)):=λn b N2 aa=>Br.of (λ_ N3 O=>Y _ _ _ (by omega)) λ_=>Br.of (λ_ N3 O=>Y _ _ _ (by omega)) λ_ N3 O=>Y _ _ _ (by omega)
  have key:∀ (b6:Bool) (t:ByteArray),t.size<=6->zt (λn b N2=>N1<=N2->Br (!b) (∀ N3,N2<=N3->Q 0 false N3) (Br (decide (n<0)) (∀ J,N2<=J->Q 0 false J) (∀ I,N2<=I->Q n true I))) N1 w b6 t 0 0 N1:=λb6 t ht=>by
   have lp:∀ (m:Nat) (k:Nat) (v:Int),k+m=t.size->0<=v->v<10 ^ k->zt (λn b N2=>N1<=N2->Br (!b) (∀ N3,N2<=N3->Q 0 false N3) (Br (decide (n<0)) (∀ J,N2<=J->Q 0 false J) (∀ I,N2<=I->Q n true I))) N1 w b6 t v k N1:=by
    intro m
    induction m with
    | zero=>
      intro k v hk ai hv
      have aj:v<1000000:=Int.lt_of_lt_of_le hv (by
       have:(10:Nat) ^ k<=10 ^ 6:=mX (by omega) (by omega)
       have:((10 ^ k:Nat):Int)<=((10 ^ 6:Nat):Int):=Int.ofNat_le.2 this
       simpa using this)
      have e0:IntKind.i64.wrap (0 - v)=0 - v:=i64_in _ (by omega)
      refine rQ _ _ _ _ _ _ _ _ (Br.dec (λh=>by omega) λ_=>Br.of (λ_ N3 O=>?_) λ_ N3 O=>?_)
      ·rw [e0]
       exact zQU _ (by omega) N3 _ λz J ab hz _=>Br.of (λ_ I U _=>en _ _ _ (by omega)) λ_ I U _=>en _ _ _ (by omega)
      ·exact zQU _ (by omega) N3 _ λz J ab hz _=>Br.of (λ_ I U _=>en _ _ _ (by omega)) λ_ I U _=>en _ _ _ (by omega)
    | succ m ih=>
      intro k v hk ai hv
      have aj:v<1000000:=Int.lt_of_lt_of_le hv (by
       have:(10:Nat) ^ k<=10 ^ 6:=mX (by omega) (by omega)
       have:((10 ^ k:Nat):Int)<=((10 ^ 6:Nat):Int):=Int.ofNat_le.2 this
       simpa using this)
      have bd:0<=(k:Int)/\(k:Int)<(t.size:Int):=⟨by omega,by omega⟩
      refine rQ _ _ _ _ _ _ _ _ (Br.of (λ_=>⟨bd,Br.dec (λ_ N3 O _=>en _ _ _ (by omega)) λh1=>⟨bd,Br.dec (λ_ N3 O _=>en _ _ _ (by omega)) λh2=>⟨bd,?_⟩⟩⟩) λh=>by
       rw [decide_eq_false_iff_not] at h;omega)
      generalize ((t.data.getD (k:Int).toNat (OfNat.ofNat 0)).toNat:Int)=c at h1 h2 ⊢
      have e3:IntKind.u8.wrap (c - 48)=c - 48:=u8_in _ (by omega)
      rw [e3,i64_in (10*v) (by omega),i64_in (c - 48) (by omega),i64_in (10*v+(c - 48)) (by omega),i64_in ((k:Int)+1) (by omega)]
      refine ih (k+1) _ (by omega) (by omega) ?_
      rw [Int.pow_succ]
      omega
   exact lp t.size 0 0 (by omega) (by omega) (by decide)
  have cut:∀ b6:Bool,∀ t:ByteArray,Br (decide ((t.size:Int)<1)) (∀ N2,N1<=N2->N1<=N2->Br (!false) (∀ N3,N2<=N3->Q 0 false N3) (Br (decide ((0:Int)<0)) (∀ J,N2<=J->Q 0 false J) (∀ I,N2<=I->Q 0 true I))) (Br (decide ((t.size:Int)>6)) (∀ N2,N1<=N2->N1<=N2->Br (!false) (∀ N3,N2<=N3->Q 0 false N3) (Br (decide ((0:Int)<0)) (∀ J,N2<=J->Q 0 false J) (∀ I,N2<=I->Q 0 true I))) (zt (λn b N2=>N1<=N2->Br (!b) (∀ N3,N2<=N3->Q 0 false N3) (Br (decide (n<0)) (∀ J,N2<=J->Q 0 false J) (∀ I,N2<=I->Q n true I))) N1 w b6 t 0 0 N1)):=λb6 t=>
   Br.of (λ_ N2 aa _=>en 0 false _ (by omega)) λ_=>Br.dec (λ_ N2 aa _=>en 0 false _ (by omega)) λh=>key b6 t (by omega)
  refine zGR N1 w 6 _ (Br.dec (λh=>⟨⟨by omega,by omega⟩,Br.of (λ_=>⟨⟨by omega,by omega,by omega⟩,cut _ _⟩) λ_=>cut _ _⟩) λh=>cut _ _)
 refine pv N s n b Q λE N1 ah=>zFg hr _ N1 _ λw n2 N2 aa ac ae hw _ N3 O=>rd w hw N3 _ λv bv J ab _=>Br.of (λ_ I U=>zQw v I _ λd N6 ak hd _ _=>⟨zY,λN7 al=>Y _ _ _ _ (by omega) ac ae hd⟩) λ_ I U=>zQw v I _ λd N6 ak hd _ _=>⟨zY,λN7 al=>Y _ _ _ _ (by omega) ac ae hd⟩
theorem zSB {dep:Int} (hP:zLt dep) {s:ByteArray} {n:Int} (hr:Rs s n) (b:Bool) (N:Nat) (Q:QT [.ag 9,.str,.i,.bool])
  (hQ:∀ d n' b' N',N<=N'->Rs s n'->n<=n'->Some (1100+2000*(n' - n).toNat) d->Q d s n' b' N'):BCalls prog 182 [.ag 9,.str,.i,.bool] [.pb 0 0 0 0,.j dep] [.var [.str s,.j n,.bool b]] N Q:=by
 have hp:2 ^ (8+1)=512:=rfl
 refine zCB N dep s n b Q λE N1 ca=>vO hr _ (by decide) _ N1 _ λb2 n2 N2 cc aq cd _ _ _=>Br.of (λ_ N3 bd=>?_) λ_ N3 bd=>vO aq _ (by decide) _ N3 _ λb4 n4 N4 bg ae bh _ _ _=>Br.of (λ_ N5 au=>?_) λ_ N5 au=>vO ae _ (by decide) _ N5 _ λb6 n6 N6 aw aa ax _ _ _=>Br.of (λ_ N7 ak=>?_) λ_ N7 ak=>vO aa _ (by decide) _ N7 _ λb8 n8 N8 ay ab az _ _ _=>Br.of (λ_ N9 al=>?_) λ_ N9 al=>vO ab _ (by decide) _ N9 _ λa6 bi bj a7 Y a8 _ _ _=>Br.of (λ_ ac ah=>?_) λ_ ac ah=>vO Y _ (by decide) _ ac _ λce cf cg bv ai bw _ _ _=>Br.of (λ_ am ba=>?_) λ_ am ba=>vO ai _ (by decide) _ am _ λch bm cj bz aj b1 _ _ _=>Br.of (λ_ ao bb=>?_) λ_ ao bb=>?_
 ·refine zFg aq _ N3 _ λnm n4 N4 bg ae bh bn _ N5 au=>ve ae _ (by decide) _ N5 _ λb6 n6 N6 aw aa ax _ _ N7 ak=>?_
  refine zM1 8 (by omega) 1 (by omega) aa _ N7 _ λty d n8 b8 N8 ay ab az bp b3 _ _ N9 al=>ve ab _ (by decide) _ N9 _ λa6 bi bj a7 Y a8 _ _ ac ah=>?_
  exact zLA hP (k:=6) (m:=0) (ty:=ty) (re:=.mk 0 []) ⟨by omega,by decide,Ty.is_cells bp,xV 0⟩ (l0:=[]) rfl (by simp) (a0:=none) (c0:=0) (λ_=>trivial) (w:=1025) (by simp only [zM,zDU];omega) 1 ⟨by omega,by omega⟩ Y a6 ac _ λx n' b' N' h I hn O _ _=>⟨zY,λU J=>hQ _ _ _ _ (by omega) I (by omega) (O.mono (by omega))⟩
 ·refine zFg ae _ N5 _ λnm n6 N6 aw aa ax bn _ N7 ak=>ve aa _ (by decide) _ N7 _ λb8 n8 N8 ay ab az _ _ N9 al=>?_
  exact zHl hP 8 (by omega) 2 ⟨by omega,by omega⟩ ab b8 N9 _ λx n' b' N' h I hn O _ _=>⟨zY,λU J=>hQ _ _ _ _ (by omega) I (by omega) (O.mono (by omega))⟩
 ·exact zSn hP aa _ N7 _ λx n' b' N' h I hn O _ _=>⟨zY,λU J=>hQ _ _ _ _ (by omega) I (by omega) (O.mono (by omega))⟩
 ·exact zHl hP 5 (by decide) 3 ⟨by omega,by omega⟩ ab _ N9 _ λx n' b' N' h I hn O _ _=>⟨zY,λU J=>hQ _ _ _ _ (by omega) I (by omega) (O.mono (by omega))⟩
 ·exact zHl hP 12 (by decide) 1 ⟨by omega,by omega⟩ Y _ ac _ λx n' b' N' h I hn O _ _=>⟨zY,λU J=>hQ _ _ _ _ (by omega) I (by omega) (O.mono (by omega))⟩
 ·exact zHl hP 13 (by decide) 1 ⟨by omega,by omega⟩ ai _ am _ λx n' b' N' h I hn O _ _=>⟨zY,λU J=>hQ _ _ _ _ (by omega) I (by omega) (O.mono (by omega))⟩
 ·exact zHl hP 4 (by decide) 1 ⟨by omega,by omega⟩ aj _ ao _ λx n' b' N' h I hn O _ _=>⟨zY,λU J=>hQ _ _ _ _ (by omega) I (by omega) (O.mono (by omega))⟩
 ·refine hP s bm _ ao _ aj λx ck bq cm b5 bc b7 O _ _ bt b9=>?_
  exact zSC hP O bc bq bt _ λx n' b' N' h I hn O _ _=>⟨zY,λU J=>hQ _ _ _ _ (by omega) I (by omega) (O.mono (by omega))⟩
theorem zRN:∀ (j:Nat),j<=20->∀ n1:Int,n1+j=21->zLt n1:=by
 have nod:∀ (k:Int) {m:Nat} {x:D} (a:Option Addr),Some m x->Some (3+m) (.ag [.j k,.t (bytes []),.t (bytes []),.j 0,.j 0,.sl none 2 [] 0,.j 0,.sl none 2 [] 0,.sl a 9 [x] 1]):=λk m x a ⟨t,ht,hc⟩=>
  ⟨.mk k (bytes []) (bytes []) 0 (.mk 0 []) (.mk 0 []) [t],Tm.is_mk.2 ⟨_,_,_,_,_,_,_,rfl,zKW (by decide) (by decide),by simp,rq ht⟩,by simp only [Tm.cnt,zDU,zM];omega⟩
 intro j
 induction j with
 | zero=>
   intro _ n1 bw s n b N Q hr hQ
   exact sP N n1 s n b Q λE=>Br.of (λ_=>⟨zY,λN1 U=>hQ _ _ _ _ U hr (mQ _) (some_nod.mono (by omega))⟩) λ_=>Br.dec (λ_=>⟨zY,λN1 U=>hQ _ _ _ _ U hr (mQ _) (some_nod.mono (by omega))⟩) λh=>by omega
 | succ j ih=>
   intro hj n1 bw s n b N Q hr hQ
   have e1:IntKind.i64.wrap (n1+1)=n1+1:=i64_in _ (by omega)
   have hP:=ih (by omega) (n1+1) (by omega)
   have sz:∀ x,((bytes [x]).size:Int)=1:=λ_=>rfl
   refine sP N n1 s n b Q λE=>Br.of (λ_=>⟨zY,λN1 U=>hQ _ _ _ _ U hr (mQ _) (some_nod.mono (by omega))⟩) λ_=>Br.dec (λ_=>⟨zY,λN1 U=>hQ _ _ _ _ U hr (mQ _) (some_nod.mono (by omega))⟩) λ_=>Br.dec (λ_=>⟨zY,λN1 U=>hQ _ _ _ _ U hr (mQ _) (some_nod.mono (by omega))⟩) λcf N1 U=>?_
   rw [e1]
   refine vO hr _ (by decide) _ N1 _ λb2 n2 N2 cg a6 ch z2 _ _=>Br.of (λ_ N3 bz=>zNO 1 N3 _ λd N4 b1 hd _ _=>⟨zY,λN5 a7=>hQ _ _ _ _ (by omega) a6 (by omega) (hd.mono (by omega))⟩) λb3 N3 bz=>?_
   have z2:=z2 b3;subst z2
   refine vO a6 _ (by decide) _ N3 _ λb4 n4 N4 b1 a8 cj z4 _ _=>Br.of (λ_ N5 a7=>zNO 0 N5 _ λd N6 b5 hd _ _=>⟨zY,λN7 ba=>hQ _ _ _ _ (by omega) a8 (by omega) (hd.mono (by omega))⟩) λb7 N5 a7=>?_
   have z4:=z4 b7;subst z4
   refine vO a8 _ (by decide) _ N5 _ λb6 n6 N6 b5 bb ck z6 g6 _=>Br.of (λal N7 ba=>?_) λal N7 ba=>?_
   ·have g6:=g6 al
    rw [sz] at g6
    exact hP s n6 _ N7 _ bb λx n8 b8 N8 b9 ah ca hx _ _=>⟨⟨rfl,rfl⟩,⟨rfl,rfl⟩,⟨rfl,rfl⟩,λa N9 bc _=>⟨zY,λam ak=>hQ _ _ _ _ (by omega) ah (by omega) ((nod 11 a hx).mono (by omega))⟩⟩
   have z6:=z6 al;subst z6
   refine vO bb _ (by decide) _ N7 _ λb8 n8 N8 b9 ah ca z8 g8 _=>Br.of (λao N9 bc=>?_) λao N9 bc=>?_
   ·have g8:=g8 ao
    rw [sz] at g8
    exact hP s n8 _ N9 _ ah λx ai cc am ak Y bg hx _ _ I J=>ve Y _ (by decide) _ I _ λbh aq au ab O aa _ _=>⟨⟨rfl,rfl⟩,⟨rfl,rfl⟩,⟨rfl,rfl⟩,⟨rfl,rfl⟩,⟨rfl,rfl⟩,λa aj ac _=>⟨zY,λcd bi=>hQ _ _ _ _ (by omega) O (by omega) ((nod 10 a hx).mono (by omega))⟩⟩
   have z8:=z8 ao;subst z8
   refine vO ah _ (by decide) _ N9 _ λcc ai am ak Y bg aw ax _=>Br.of (λae I J=>?_) λae=>?_
   ·have ax:=ax ae
    rw [sz] at ax
    exact zSB hP Y _ I _ λx aq bh au ab O aa hx _ _=>⟨zY,λaj ac=>hQ _ _ _ _ (by omega) O (by omega) (hx.mono (by omega))⟩
   have aw:=aw ae;subst aw
   have bd:0<=ai/\ai<(s.size:Int):=⟨Y.lo,by omega⟩
   have word:∀ I,am<=I->∀ (b':Bool),BCalls prog 184 [.str,.str,.i,.bool] [.pb 0 0 0 0] [.var [.str s,.j ai,.bool b']] I (λbj bm bn bp bq=>I<=bq->∀ ay,bq<=ay->ACalls prog 55 [.ag 9] [.str bj] ay (λbt az=>ay<=az->Bel az bt->zQ E [.var [.str (bytes []),.j 0,.bool false]]/\∀ bv,az<=bv->Q bt bm bn bp bv)):=λI J b'=>
    zFg Y _ I _ λw aq au ab O aa hw _ aj ac=>zRO w (by omega) aj _ λd cd bi hd _ _=>⟨zY,λcm ce=>hQ _ _ _ _ (by omega) O aa (hd.mono (by omega))⟩
   exact ⟨bd,Br.of (λ_=>⟨bd,Br.of (λ_ I J=>zOT Y _ I _ λd aq bh au ab O aa hd _ _=>⟨zY,λaj ac=>hQ _ _ _ _ (by omega) O aa (hd.mono (by omega))⟩) λ_ I J=>word I J _⟩) λ_ I J=>word I J _⟩
/-- what a short text is parsed to -/
theorem zQ5 {s:ByteArray} (hs:s.size<=1000) (N:Nat) (Q:QT [.ag 9,.bool]) (J:∀ d b N',N<=N'->Some 2100000 d->Q d b N'):ACalls prog 127 [.ag 9,.bool] [.str s] N Q:=by
 have z:=some_nod.mono (show 3<=2100000 by omega)
 refine zCM N s Q λN1 aa=>zRN 20 (by omega) 1 (by omega) s 0 _ N1 _ ⟨hs,by omega,by omega⟩ λx n2 b2 N2 ab O ac hx _ _=>Br.of (λ_ N3 I=>J _ _ _ (by omega) z) λ_=>Br.of (λ_ N3 I=>J _ _ _ (by omega) z) λ_ N3 I=>?_
 have:=O.hi
 obtain ⟨t,Y,hc⟩:=hx
 exact zRy t x Y (by omega) N3 _ λw N4 ae _ _=>Br.of (λ_ N5 U=>J _ _ _ (by omega) z) λ_ N5 U=>J _ _ _ (by omega) ⟨t,Y,by omega⟩
end Go.Proofs.YtfajiphkncipoaaGreatDoor
