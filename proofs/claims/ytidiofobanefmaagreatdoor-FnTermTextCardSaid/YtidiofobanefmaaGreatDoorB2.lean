/- Reading texts: what both parsers read (no program in sight), and that they read back the text of a term. -/
import Derived.Test.YtidiofobanefmaaGreatDoorA9
import Derived.Test.YtidiofobanefmaaGreatDoorKa
import Derived.Test.YtidiofobanefmaaGreatDoorA5
set_option linter.unusedVariables false
set_option linter.unusedSimpArgs false
set_option maxRecDepth 100000
namespace Go.Proofs.YtidiofobanefmaaGreatDoor
open Go Go.Proofs Go.Proofs.Tryz Go.IntWalk
abbrev Bl:=List UInt8
def pre:Bl->Bl->Option Bl
 | [],l=>some l
 | _::_,[]=>none
 | c::p,d::l=>if c=d then pre p l else none
theorem wA (p l:Bl):pre p (p++l)=some l:=by
 induction p with
 | nil=>rfl
 | cons c p I=>simp[pre,I]
theorem zZ:∀ {p l r:Bl},pre p l=some r->l=p++r
 | [],l,r,h=>by simp only[pre,oZ]at h;simp[h]
 | c::p,[],r,h=>by simp[pre]at h
 | c::p,d::l,r,h=>by
   simp only[pre]at h;split at h
   ·rename_i e;rw[zZ h,e];rfl
   ·cases h
theorem ua {c d:UInt8}(h:c≠d)(p l:Bl):pre (c::p) (d::l)=none:=by simp[pre,h]
theorem Mp (c:UInt8)(p l:Bl):pre (c::p) (c::l)=pre p l:=by simp[pre]
def idC (b:UInt8):Bool:=decide (48<=b.toNat/\b.toNat<=57\/97<=b.toNat/\b.toNat<=122)
def rV (b:UInt8):Bool:=decide (48<=b.toNat/\b.toNat<=57)
def word:Bl->Bl × Bl
 | []=>([],[])
 | b::l=>if idC b then(b::(word l).1,(word l).2)else([],b::l)
def Stop (l:Bl):Prop:=∀ b r,l=b::r->idC b=false
theorem pR (w r:Bl)(I:∀ b∈w,idC b=true)(J:Stop r):word (w++r)=(w,r):=by
 induction w with
 | nil=>
   cases r with
   | nil=>rfl
   | cons b r=>simp[word,J b r rfl]
 | cons b w O=>simp[word,I b (by simp),O λc hc=>I c (by simp[hc])]
theorem GL:∀ l:Bl,(word l).1++(word l).2=l
 | []=>rfl
 | b::l=>by
   unfold word;split
   ·simp[GL l]
   ·rfl
open Classical in
noncomputable def yP (w:Bl):Option Nat:=if h:∃ n,n<=999999/\Lib.decDigits n=w then some h.choose else none
theorem AR {n:Nat}(h:n<=999999):yP (Lib.decDigits n)=some n:=by
 have I:∃ m,m<=999999/\Lib.decDigits m=Lib.decDigits n:=⟨n,h,rfl⟩
 unfold yP;rw[dif_pos I];exact oT some (LH _ _ I.choose_spec.2)
theorem qE {w:Bl}{n:Nat}(h:yP w=some n):n<=999999/\Lib.decDigits n=w:=by
 unfold yP at h;split at h
 ·rename_i I;cases h;exact I.choose_spec
 ·cases h
theorem u4 {w:Bl}(h:∀ n,n<=999999->Lib.decDigits n≠w):yP w=none:=by
 unfold yP;rw[dif_neg]
 rintro⟨n,I,J⟩;exact h n I J
theorem vQ:∀(n:Nat),∀ b∈Lib.decDigits n,rV b=true:=by
 intro n
 induction n using Nat.strongRecOn with
 | _ n I=>
   intro b hb;have hd:∀ k,k<10->rV (UInt8.ofNat (48+k))=true:=by
    intro k J;have:k=0\/k=1\/k=2\/k=3\/k=4\/k=5\/k=6\/k=7\/k=8\/k=9:=by omega
    rcases this with rfl | rfl | rfl | rfl | rfl | rfl | rfl | rfl | rfl | rfl<;>decide
   rw[Lib.decDigits]at hb;split at hb
   ·rename_i h;rw[nM]at hb;subst hb;exact hd n h
   ·rcases oO.1 hb with hb | hb
    ·exact I _ (by omega) b hb
    ·rw[nM]at hb;subst hb;exact hd _ (by omega)
theorem Dc (n:Nat):∃ b l,Lib.decDigits n=b::l:=by
 cases h:Lib.decDigits n with
 | nil=>exfalso;rw[Lib.decDigits]at h;split at h<;>simp at h
 | cons b l=>exact⟨b,l,rfl⟩
theorem Dd {b:UInt8}(h:rV b=true):idC b=true:=by simp only[rV,idC,oc]at h ⊢;exact .inl h
def wO : Nat->Bl->Option (Ty × Bl)
 | 0,_=>none
 | n + 1,l=>match pre [73] l with
   | some r=>some (tInt,r)
   | none=>match pre [66] l with
     | some r=>some (tBool,r)
     | none=>match pre [60] l with
       | some r=>(wO n r).bind λx=>(pre [62] x.2).map λr=>(vK x.1,r)
       | none=>(pre [40] l).bind λr=>(wO n r).bind λx=>(pre [62] x.2).bind λr=>(wO n r).bind λy=>(pre [41] y.2).map λr=>(B5 x.1 y.1,r)
def tyL (t:Ty):Bl:=(Ap t).data.toList
theorem L0:tyL tInt=[73]:=rfl
theorem KL:tyL tBool=[66]:=rfl
theorem NA (a b:Ty):tyL (B5 a b)=[40]++(tyL a++([62]++(tyL b++[41]))):=by unfold tyL;rw[Aq];simp only[zK,oM];rfl
theorem KM (a:Ty):tyL (vK a)=[60]++(tyL a++[62]):=by unfold tyL;rw[uh];simp only[zK,oM];rfl
theorem Kb (a b:Ty):(B5 a b).dep=max a.dep b.dep+1:=by simp[B5,Ty.dep,wy]
theorem Fb (a:Ty):(vK a).dep=a.dep+1:=by simp[vK,Ty.dep,wy]
theorem Kr (n:Nat)(l:Bl):wO (n+1) ([73]++l)=some (tInt,l):=by simp[wO,pre]
theorem Ko (n:Nat)(l:Bl):wO (n+1) ([66]++l)=some (tBool,l):=by simp[wO,pre]
theorem Kp (n:Nat)(l:Bl):wO (n+1) ([60]++l)=(wO n l).bind λx=>(pre [62] x.2).map λr=>(vK x.1,r):=by simp[wO,pre]
theorem Kq (n:Nat)(l:Bl):wO (n+1) ([40]++l)=(wO n l).bind λx=>(pre [62] x.2).bind λr=>(wO n r).bind λy=>(pre [41] y.2).map λr=>(B5 x.1 y.1,r):=by simp[wO,pre]
theorem FB {t:Ty}(O:Wf t):∀(n:Nat)(r:Bl),t.dep<=n->wO n (tyL t++r)=some (t,r):=by
 induction O with
 | int=>intro n r h;cases n with
   | zero=>exact absurd h (by decide)
   | succ n=>rw[L0,Kr]
 | bool=>intro n r h;cases n with
   | zero=>exact absurd h (by decide)
   | succ n=>rw[KL,Ko]
 | @fn u v U V I J=>intro n r h;cases n with
   | zero=>rw[Kb]at h;omega
   | succ n=>rw[Kb]at h;rw[NA];simp only[oM];rw[Kq];simp only[I n _ (by omega),J n _ (by omega),oI,wA,oR]
 | @code u U I=>intro n r h;cases n with
   | zero=>rw[Fb]at h;omega
   | succ n=>rw[Fb]at h;rw[KM];simp only[oM];rw[Kp];simp only[I n _ (by omega),oI,wA,oR]
def KI (n:Nat):Tm:=.mk 2 (bytes []) (bytes []) n tZero tZero []
def tBl (n:Int):Tm:=.mk 3 (bytes []) (bytes []) n tZero tZero []
def tVr (w:Bl):Tm:=.mk 1 ⟨w.toArray⟩ (bytes []) 0 tZero tZero []
noncomputable def EV (sp:Bool)(l:Bl):Option (Tm × Bl):=match l with
 | []=>none
 | b :: _=>match sp with
   | true=>if rV b then(yP (word l).1).map λn=>(KI n,(word l).2)else some (tVr (word l).1,(word l).2)
   | false=>match yP (word l).1 with
     | some n=>some (KI n,(word l).2)
     | none=>if(word l).1=[]then none else some (tVr (word l).1,(word l).2)
def yy (T:Bl->Option (Tm × Bl))(by_ e:Bl):Nat->Bool->Bl->Option (List Tm × Bl)
 | 0,_,l=>(pre e l).map λr=>([],r)
 | k+1,f,l=>(if f then some l else pre by_ l).bind λl=>(T l).bind λx=>(yy T by_ e k false x.2).map λy=>(x.1::y.1,y.2)
def mkF (k:Int)(nm ot:Bl)(ty re:Ty)(x:Option (List Tm × Bl)):Option (Tm × Bl):=x.map λy=>(.mk k ⟨nm.toArray⟩ ⟨ot.toArray⟩ 0 ty re y.1,y.2)
def F2 (sp:Bool)(T:Bl->Option (Tm × Bl))(t:Tm):Bl->Option (Tm × Bl)
 | []=>none
 | c::r=>if c=32 then(T r).bind λy=>(pre [41] y.2).map λr=>(.mk 7 (bytes []) (bytes []) 0 tZero tZero [t,y.1],r)
   else if sp=true/\rW ⟨#[c]⟩≠2 then none else(T r).bind λy=>(pre [41] y.2).map λr=>(.mk 4 ⟨#[c]⟩ (bytes []) 0 tZero tZero [t,y.1],r)
def IP (sp:Bool)(T:Bl->Option (Tm × Bl))(l:Bl):Option (Tm × Bl):=(T l).bind λx=>F2 sp T x.1 x.2
def Cj (T:Bl->Option (Tm × Bl))(l:Bl):Option (Tm × Bl):=(pre [61] (word l).2).bind λr=>mkF 8 (word l).1 [] tZero tZero (yy T [32] [41] 2 true r)
def FA (T:Bl->Option (Tm × Bl))(l:Bl):Option (Tm × Bl):=(pre [58] (word l).2).bind λr=>(wO 8 r).bind λt=>(pre [46] t.2).bind λr=>mkF 6 (word l).1 [] t.1 tZero (yy T [] [41] 1 true r)
def Ck (T:Bl->Option (Tm × Bl))(l:Bl):Option (Tm × Bl):=(pre [32] (word l).2).bind λm=>(pre [58] (word m).2).bind λr=>(wO 8 r).bind λt=>(pre [62] t.2).bind λr=>(wO 8 r).bind λu=>(pre [46] u.2).bind λr=>mkF 9 (word l).1 (word m).1 t.1 u.1 (yy T [] [41] 1 true r)
def v6 (sp : Bool) (T:Bl->Option (Tm × Bl)) (l:Bl):Option (Tm × Bl):=
 match pre [33] l with
 | some r=>mkF 4 [33] [] tZero tZero (yy T [] [41] 1 true r)
 | none => match pre [105,102,32] l with
   | some r=>mkF 5 [] [] tZero tZero (yy T [32] [41] 3 true r)
   | none => match pre [114,117,110,32] l with
     | some r=>mkF 12 [] [] tZero tZero (yy T [] [41] 1 true r)
     | none=>match pre [108,105,102,116,32] l with
       | some r=>mkF 13 [] [] tZero tZero (yy T [] [41] 1 true r)
       | none=>match pre [108,101,116,32] l with
         | some r=>Cj T r
         | none=>match pre [92] l with
           | some r=>FA T r
           | none=>match pre [114,101,99,32] l with
             | some r=>Ck T r
             | none=>IP sp T l
noncomputable def xz (sp:Bool):Nat->Bl->Option (Tm × Bl)
 | 0,_=>none
 | n + 1,l=>match pre [35,116] l with
   | some r=>some (tBl 1,r)
   | none=>match pre [35,102] l with
     | some r=>some (tBl 0,r)
     | none=>match pre [60] l with
       | some r=>mkF 10 [] [] tZero tZero (yy (xz sp n) [] [62] 1 true r)
       | none=>match pre [126] l with
         | some r=>mkF 11 [] [] tZero tZero (yy (xz sp n) [] [] 1 true r)
         | none=>match pre [40] l with
           | some r=>v6 sp (xz sp n) r
           | none=>EV sp l
end Go.Proofs.YtidiofobanefmaaGreatDoor
set_option maxRecDepth 100000
namespace Go.Proofs.YtidiofobanefmaaGreatDoor
open Go Go.Proofs Go.Proofs.Tryz Go.IntWalk
def tmL (t:Tm):Bl:=t.tx.data.toList
theorem xY {c:UInt8}(h:idC c=false)(r:Bl):Stop (c::r):=λb I e=>by cases e;exact h
structure NmL (w:Bl):Prop where
 id:∀ b∈w,idC b=true
 hd:∃ b l,w=b::l/\rV b=false
 kw:w≠[105,102]/\w≠[108,101,116]/\w≠[114,101,99]/\w≠[114,117,110]/\w≠[108,105,102,116]
theorem nmL {s:ByteArray}(h:xf s=true):NmL s.data.toList:=by
 simp only[xf,qh,oL,o6,nR]at h;obtain⟨U,h2,k1,k2,k3,k4,k5⟩:=h;have aa:=vS.1 h2;have ne:∀ l:List Nat,s≠bytes l->s.data.toList≠l.map UInt8.ofNat:=λl hs e=>hs (ze e);have J:∀ i,i<s.size->sX s i=true:=λi hi=>by unfold wI at U;rw[oW]at U;exact U i (List.mem_range'.2 ⟨i,by omega,by omega⟩)
 have O:∀(i:Nat) (hi:i<s.data.toList.length),tR s i=((s.data.toList[i]).toNat:Int):=λi hi=>by
  have V:i<s.data.size:=by simpa using hi
  unfold tR;rw[om,oe V];simp
 have Z:s.data.toList.length=s.size:=by simp
 refine⟨λb hb=>?_,?_,ne _ k1,ne _ k2,ne _ k3,ne _ k4,ne _ k5⟩
 ·obtain⟨i,hi,rfl⟩:=List.mem_iff_getElem.1 hb;have I:=J i (by omega);unfold sX at I;rw[O i hi]at I;simp only[idC,oc];simp only[ny,oL,oc,o6,nR]at I;omega
 ·have Y:0<s.data.toList.length:=by omega
  have I:=J 0 (by omega);unfold sX at I;rw[O 0 Y]at I;simp only[ny,oL,oc,o6,nR]at I;cases hl:s.data.toList with
  | nil=>rw[hl]at Y;simp at Y
  | cons b l=>refine⟨b,l,rfl,?_⟩;simp only[hl,List.getElem_cons_zero]at I;simp only[rV,nR];omega
theorem NmL.num {w:Bl}(h:NmL w):yP w=none:=u4 λn _ e=>by
 obtain⟨b,l,rfl,hb⟩:=h.hd
 have:=vQ n b (by rw[e];simp)
 rw[hb]at this;cases this
theorem NmL.word {w:Bl}(h:NmL w){r:Bl}(I:Stop r):word (w++r)=(w,r):=pR _ _ h.id I
theorem qG:∀ {k w r:Bl},(∀ b∈k,idC b=true)->(∀ b∈w,idC b=true)->Stop r->w≠k->pre (k++[32]) (w++r)=none
 | [],w,r,I,J,O,U=>by
   cases w with
   | nil=>exact absurd rfl U
   | cons b w=>exact ua (λe=>by have:=J b (by simp);rw[<-e]at this;revert this;decide) _ _
 | c::k,[],r,I,J,O,U=>by
   cases r with
   | nil=>rfl
   | cons b r=>exact ua (λe=>by have:=I c (by simp);rw[e,O b r rfl]at this;cases this) _ _
 | c::k,b::w,r,I,J,O,U=>by
   simp only[nA,pre];split
   ·rename_i e;exact qG (λx V=>I x (by simp[V])) (λx V=>J x (by simp[V])) O λh=>U (by rw[e,h])
   ·rfl
structure Fst (l:Bl):Prop where
 a:pre [33] l=none
 b:pre [105,102,32] l=none
 c:pre [114,117,110,32] l=none
 d:pre [108,105,102,116,32] l=none
 e:pre [108,101,116,32] l=none
 f:pre [92] l=none
 g:pre [114,101,99,32] l=none
theorem uF {b:UInt8}(h:b≠33/\b≠105/\b≠114/\b≠108/\b≠92)(l:Bl):Fst (b::l):=
 ⟨ua h.1.symm _ _,ua h.2.1.symm _ _,ua h.2.2.1.symm _ _,ua h.2.2.2.1.symm _ _,ua h.2.2.2.1.symm _ _,ua h.2.2.2.2.symm _ _,ua h.2.2.1.symm _ _⟩
theorem Fg {w r:Bl}(I:∀ b∈w,idC b=true)(O:∃ b l,w=b::l)(J:Stop r)(h:w≠[105,102]/\w≠[108,101,116]/\w≠[114,101,99]/\w≠[114,117,110]/\w≠[108,105,102,116]):Fst (w++r):=by
 have hc:∀ c:UInt8,idC c=false->pre [c] (w++r)=none:=λc hc=>by obtain⟨b,l,rfl⟩:=O;exact ua (λe=>by have:=I b (by simp);rw[<-e,hc]at this;cases this) _ _
 exact⟨hc _ (by decide),qG (k:=[105,102]) (by decide) I J h.1,qG (k:=[114,117,110]) (by decide) I J h.2.2.2.1,qG (k:=[108,105,102,116]) (by decide) I J h.2.2.2.2,qG (k:=[108,101,116]) (by decide) I J h.2.1,hc _ (by decide),qG (k:=[114,101,99]) (by decide) I J h.2.2.1⟩
theorem IR (sp:Bool)(n:Nat){b:UInt8}(hb:idC b=true)(l:Bl):xz sp (n+1) (b::l)=EV sp (b::l):=by have h:∀ c:UInt8,idC c=false->∀ p,pre (c::p) (b::l)=none:=λc hc p=>ua (λe=>by rw[<-e,hc]at hb;cases hb) _ _;simp only[xz,h 35 (by decide),h 60 (by decide),h 126 (by decide),h 40 (by decide)]
theorem Mu (sp:Bool)(n:Nat){m:Nat}(I:m<=999999){r:Bl}(J:Stop r):xz sp (n+1) (Lib.decDigits m++r)=some (KI m,r):=by
 obtain⟨b,l,e⟩:=Dc m;have hd:rV b=true:=vQ m b (by rw[e];simp);have O:word (b::l++r)=(b::l,r):=pR _ _ (λc hc=>Dd (vQ m c (by rw[e];exact hc))) J;have U:yP (b::l)=some m:=by rw[<-e];exact AR I
 rw[e,nA,IR sp n (Dd hd),<-nA];cases sp<;>simp only[EV,nA]<;>simp only[<-nA,O,U,hd,nl,oR]
theorem Lq (sp:Bool)(n:Nat){w:Bl}(h:NmL w){r:Bl}(I:Stop r):xz sp (n+1) (w++r)=some (tVr w,r):=by have J:=h.word I;have O:=h.num;obtain⟨b,l,rfl,hd⟩:=h.hd;rw[nA,IR sp n (h.id b (by simp)),<-nA];cases sp<;>simp only[EV,nA]<;>simp only[<-nA,J,O,hd,nf,nL,reduceCtorEq]
def RdT (T:Bl->Option (Tm × Bl))(t:Tm):Prop:=∀ r,Stop r->T (tmL t++r)=some (t,r)
theorem Dy {T:Bl->Option (Tm × Bl)}{b:ByteArray}{e r:Bl}(hb:∀ l,Stop (b.data.toList++l))(I:Stop (e++r)):∀(l:List Tm),(∀ t∈l,RdT T t)->yy T b.data.toList e l.length false ((uH b (txs l)).data.toList++(e++r))=some (l,r)/\Stop ((uH b (txs l)).data.toList++(e++r))
 | [],h=>by refine⟨?_,I⟩;show(pre e ([]++(e++r))).map _=_;rw[nB,wA];rfl
 | x::l,h=>by
   obtain⟨J,hs⟩:=Dy hb I l λt O=>h t (by simp[O]);have e1:(uH b (txs (x::l))).data.toList++(e++r)=b.data.toList++(tmL x++((uH b (txs l)).data.toList++(e++r))):=by simp only[txs,uH,zK,oM];rfl
   rw[e1];refine⟨?_,hb _⟩;simp only[oN,yy,nf,nL,wA,oI,h x (by simp) _ hs,J,oR]
theorem IN {T:Bl->Option (Tm × Bl)}{b:ByteArray}{e r:Bl}(hb:∀ l,Stop (b.data.toList++l))(I:Stop (e++r))(l:List Tm)(h:∀ t∈l,RdT T t){k:Nat}(J:k=l.length):yy T b.data.toList e k true ((xt b (txs l)).data.toList++(e++r))=some (l,r):=by
 subst J;cases l with
 | nil=>show(pre e ([]++(e++r))).map _=_;rw[nB,wA];rfl
 | cons x l=>
   obtain⟨O,hs⟩:=Dy hb I l λt U=>h t (by simp[U]);have e1:(xt b (txs (x::l))).data.toList++(e++r)=tmL x++((uH b (txs l)).data.toList++(e++r)):=by simp only[txs,xt,zK,oM];rfl
   rw[e1];simp only[oN,yy,nl,oI,h x (by simp) _ hs,O,oR]
theorem vV {T:Bl->Option (Tm × Bl)}{e r:Bl}(I:Stop (e++r)){t:Tm}(h:RdT T t)(b:Bl):yy T b e 1 true (tmL t++(e++r))=some ([t],r):=by simp only[yy,nl,oI,h _ I,wA,oR]
theorem NC {t:Ty}(h:t.zero=true):t=tZero:=by
 cases t with
 | mk k l=>
 simp only[Ty.zero,Ty.k,Ty.as,oL,mH]at h;obtain⟨rfl,h⟩:=h;have:l=[]:=oV (by omega);subst this;rfl
structure NodeZ (k:Int) (nm ot:ByteArray) (n:Int) (ty re:Ty):Prop where
 ty:k≠6->k≠9->ty=tZero
 re:k≠9->re=tZero
 n:k≠2->k≠3->n=0
 nm:yT k nm ot=true
theorem Jw {k:Int}{nm ot:ByteArray}{n:Int}{ty re:Ty}{l:List Tm}(nd:NodeS k nm ot n ty re l):NodeZ k nm ot n ty re:=by
 have f:=nd.f;simp only[zw,oL,ny]at f;obtain⟨Z,O,q3,U,V,Y⟩:=f;refine⟨λI J=>NC (O.resolve_left (by simp[qf,I,J])),λh=>NC (U.resolve_left (by simp[h])),λI J=>?_,Y⟩
 have:=vS.1 V
 rw[if_neg I,if_neg J]at this;omega
theorem Ce (s:ByteArray):(⟨s.data.toList.toArray⟩:ByteArray)=s:=ze rfl
theorem Jy {nm:ByteArray}(h:rW nm=2):∃ c:UInt8,nm=⟨#[c]⟩/\idC c=false/\c≠32:=by
 unfold rW at h
 (repeat' split at h)<;>first | (exfalso;revert h;decide) | (rename_i e;exact⟨_,e,by decide,by decide⟩)
theorem Mo {nm:ByteArray}(h:rW nm=1):nm=bytes [33]:=by
 unfold rW at h
 (repeat' split at h)<;>first | (exfalso;revert h;decide) | (rename_i e;exact e)
theorem D9 {t:Tm}(J:t.ok=true){r:Bl}(O:Stop r):Fst (tmL t++r):=by
 cases t with
 | mk k nm ot n ty re l=>
 have nd:=Ey J;have U:=Jw nd;unfold tmL;simp only[Tm.tx];rcases nd.kind with rfl | rfl | rfl | rfl | rfl | rfl | rfl | rfl | rfl | rfl | rfl | rfl | rfl
 ·rw[Lh];have V:xf nm=true:=by have:=U.nm;simp[yT]at this;exact this.1
  have h:=nmL V;obtain⟨b,w,e,_⟩:=h.hd;exact Fg h.id ⟨b,w,e⟩ O h.kw
 ·rw[Li];show Fst (Lib.decDigits n.toNat++r);obtain⟨b,w,e⟩:=Dc n.toNat;have hd:∀ c∈Lib.decDigits n.toNat,rV c=true:=vQ _;have I:∀(c:UInt8) (k:Bl),rV c=false->Lib.decDigits n.toNat≠c::k:=λc k hc e=>by have:=hd c (by rw[e];simp);rw[hc]at this;cases this
  exact Fg (λc hc=>Dd (hd c hc)) ⟨b,w,e⟩ O ⟨I _ _ (by decide),I _ _ (by decide),I _ _ (by decide),I _ _ (by decide),I _ _ (by decide)⟩
 ·rw[Lj];simp only[zK,oM];exact uF (b:=35) (by decide) _
 ·rw[Jx];split<;>(simp only[zK,oM];exact uF (b:=40) (by decide) _)
 ·rw[Lk];simp only[zK,oM];exact uF (b:=40) (by decide) _
 ·rw[Ll];simp only[zK,oM];exact uF (b:=40) (by decide) _
 ·rw[Lm];simp only[zK,oM];exact uF (b:=40) (by decide) _
 ·rw[Ln];simp only[zK,oM];exact uF (b:=40) (by decide) _
 ·rw[Lo];simp only[zK,oM];exact uF (b:=40) (by decide) _
 ·rw[E2];simp only[zK,oM];exact uF (b:=60) (by decide) _
 ·rw[E3];simp only[zK,oM];exact uF (b:=126) (by decide) _
 ·rw[E4];simp only[zK,oM];exact uF (b:=40) (by decide) _
 ·rw[E5];simp only[zK,oM];exact uF (b:=40) (by decide) _
end Go.Proofs.YtidiofobanefmaaGreatDoor
set_option maxRecDepth 100000
namespace Go.Proofs.YtidiofobanefmaaGreatDoor
open Go Go.Proofs Go.Proofs.Tryz Go.IntWalk
section
variable (sp:Bool) (T:Bl->Option (Tm × Bl)) (l:Bl)
theorem Fy:v6 sp T ([33]++l)=mkF 4 [33] [] tZero tZero (yy T [] [41] 1 true l):=by simp[v6,pre]
theorem qIo:v6 sp T ([105,102,32]++l)=mkF 5 [] [] tZero tZero (yy T [32] [41] 3 true l):=by simp[v6,pre]
theorem F1:v6 sp T ([114,117,110,32]++l)=mkF 12 [] [] tZero tZero (yy T [] [41] 1 true l):=by simp[v6,pre]
theorem Dz:v6 sp T ([108,105,102,116,32]++l)=mkF 13 [] [] tZero tZero (yy T [] [41] 1 true l):=by simp[v6,pre]
theorem Ch:v6 sp T ([108,101,116,32]++l)=Cj T l:=by simp[v6,pre]
theorem Fx:v6 sp T ([92]++l)=FA T l:=by simp[v6,pre]
theorem F0:v6 sp T ([114,101,99,32]++l)=Ck T l:=by simp[v6,pre]
theorem Ci (h:Fst l):v6 sp T l=IP sp T l:=by simp only[v6,h.a,h.b,h.c,h.d,h.e,h.f,h.g]
theorem tV (n:Nat):xz sp (n+1) ([40]++l)=v6 sp (xz sp n) l:=by simp[xz,pre]
theorem Kt (n:Nat):xz sp (n+1) ([60]++l)=mkF 10 [] [] tZero tZero (yy (xz sp n) [] [62] 1 true l):=by simp[xz,pre]
theorem Ku (n:Nat):xz sp (n+1) ([126]++l)=mkF 11 [] [] tZero tZero (yy (xz sp n) [] [] 1 true l):=by simp[xz,pre]
theorem OS (n:Nat):xz sp (n+1) ([35,116]++l)=some (tBl 1,l):=by simp[xz,pre]
theorem OR (n:Nat):xz sp (n+1) ([35,102]++l)=some (tBl 0,l):=by simp[xz,pre]
end
theorem s8 {c:UInt8}(h:idC c=false)(r:Bl):Stop ([c]++r):=xY h r
theorem uX {l:List Tm}(h:l.length=1):∃ a,l=[a]:=by
 match l,h with
 | [a],_=>exact⟨a,rfl⟩
theorem H3 {l:List Tm}(h:l.length=2):∃ a b,l=[a,b]:=by
 match l,h with
 | [a,b],_=>exact⟨a,b,rfl⟩
theorem IQ (sp:Bool) {T:Bl->Option (Tm × Bl)} {a b:Tm} (I:RdT T a) (hb:RdT T b) (c:UInt8) (hc:idC c=false) (r:Bl) :
  IP sp T (tmL a++(c::(tmL b++([41]++r))))=if c=32 then some (.mk 7 (bytes []) (bytes []) 0 tZero tZero [a,b],r)else if sp=true/\rW ⟨#[c]⟩≠2 then none else some (.mk 4 ⟨#[c]⟩ (bytes []) 0 tZero tZero [a,b],r):=by
 have J:∀ r,Stop ([41]++r:Bl):=λr=>xY (by decide) r;simp only[IP,F2,I _ (xY hc _),oI,hb _ (J r),wA,oR]
theorem Nv (sp:Bool):∀ t:Tm,t.ok=true->∀ n,t.dp<=n->RdT (xz sp n) t:=by
 refine Tm.ind λk nm ot n ty re l ih ab m hm r hr=>?_;simp only[Tm.dp]at hm;cases m with
 | zero=>omega
 | succ m=>
 have nd:=Ey ab;have I:=Jw nd;have J:=nd.ar;have sub:∀ t∈l,RdT (xz sp m) t:=λt ht=>ih t ht (nd.sub t ht) m (by have:=B8 ht;omega);have V:∀ r:Bl,Stop ([41]++r):=λr=>xY (by decide) r;have aa:∀ r:Bl,Stop ((bytes [32]).data.toList++r):=λr=>xY (by decide) r;have zz:k≠6->k≠9->ty=tZero:=I.ty;show xz sp (m+1) (tmL (.mk k nm ot n ty re l)++r)=_;unfold tmL;simp only[Tm.tx];have U:k≠1->k≠4->k≠6->k≠8->k≠9->nm=bytes []/\ot=bytes []:=λY h4 h6 h8 h9=>by
  have:=I.nm
  simp only[yT]at this;rw[if_neg h4,if_neg (by omega),if_neg h9]at this;simpa using this
 have Z:k=1\/k=6\/k=8->xf nm=true/\ot=bytes []:=λh=>by
  have:=I.nm
  simp only[yT]at this;rw[if_neg (by omega),if_pos h]at this;simpa using this
 have t0:∀ l:List Tm,(txs l).getD 0 (bytes [])=(match l with | []=>bytes [] | x::_=>x.tx):=λl=>by cases l<;>rfl
 rcases nd.kind with rfl | rfl | rfl | rfl | rfl | rfl | rfl | rfl | rfl | rfl | rfl | rfl | rfl
 ·obtain⟨Y,rfl⟩:=Z (.inl rfl);obtain rfl:=I.ty (by decide) (by decide);obtain rfl:=I.re (by decide);obtain rfl:=I.n (by decide) (by decide);obtain rfl:l=[]:=oV (by have:(l.length:Int)=0:=J;omega);rw[Lh,Lq sp m (nmL Y) hr];unfold tVr;rw[Ce]
 ·obtain⟨rfl,rfl⟩:=U (by decide) (by decide) (by decide) (by decide) (by decide);obtain rfl:=I.ty (by decide) (by decide);obtain rfl:=I.re (by decide);obtain rfl:l=[]:=oV (by have:(l.length:Int)=0:=J;omega);have hn:=nd.num rfl;rw[Li];show xz sp (m+1) (Lib.decDigits n.toNat++r)=_;rw[Mu sp m (by omega) hr];unfold KI;rw[Int.toNat_of_nonneg hn.1]
 ·obtain⟨rfl,rfl⟩:=U (by decide) (by decide) (by decide) (by decide) (by decide);obtain rfl:=I.ty (by decide) (by decide);obtain rfl:=I.re (by decide);obtain rfl:l=[]:=oV (by have:(l.length:Int)=0:=J;omega);rw[Lj];rcases nd.bit rfl with rfl | rfl
  ·exact OR sp r m
  ·exact OS sp r m
 ·obtain rfl:=I.ty (by decide) (by decide);obtain rfl:=I.re (by decide);obtain rfl:=I.n (by decide) (by decide);have O:=I.nm;simp only[yT]at O;rw[if_pos trivial]at O;simp only[oL,oc]at O;obtain⟨Y,rfl⟩:=O;have J:(l.length:Int)=rW nm:=J;rw[Jx];rcases nd.op rfl with h | h
  ·obtain⟨a,rfl⟩:=uX h;obtain rfl:=Mo (show rW nm=1 by rw[<-J,h];rfl);rw[if_pos (by rfl)];have e:(bytes [40,33]++(txs [a]).getD 0 (bytes [])++bytes [41]).data.toList++r=[40]++([33]++(tmL a++([41]++r))):=by simp only[zK,oM];rfl
   rw[e,tV,Fy,vV (V r) (sub a (by simp))];rfl
  ·obtain⟨a,b,rfl⟩:=H3 h;obtain⟨c,rfl,hc,ac⟩:=Jy (show rW nm=2 by rw[<-J,h];rfl);rw[if_neg (by simp[txs])];have e:(bytes [40]++(txs [a,b]).getD 0 (bytes [])++⟨#[c]⟩++(txs [a,b]).getD 1 (bytes [])++bytes [41]).data.toList++r=[40]++(tmL a++(c::(tmL b++([41]++r)))):=by simp only[zK,oM];rfl
   rw[e,tV,Ci _ _ _ (D9 (nd.sub a (by simp)) (xY hc _)),IQ sp (sub a (by simp)) (sub b (by simp)) c hc,if_neg ac,if_neg (by rw[<-J];simp)]
 ·obtain⟨rfl,rfl⟩:=U (by decide) (by decide) (by decide) (by decide) (by decide);obtain rfl:=I.ty (by decide) (by decide);obtain rfl:=I.re (by decide);obtain rfl:=I.n (by decide) (by decide);have hl:3=l.length:=by have:(l.length:Int)=3:=J;omega
  rw[Lk];have e:(bytes [40,105,102,32]++xt (bytes [32]) (txs l)++bytes [41]).data.toList++r=[40]++([105,102,32]++((xt (bytes [32]) (txs l)).data.toList++([41]++r))):=by simp only[zK,oM];rfl
  rw[e,tV,qIo]
  have:=IN aa (V r) l sub hl
  rw[show(bytes [32]).data.toList=[32]from rfl]at this;rw[this];rfl
 ·obtain⟨Y,rfl⟩:=Z (.inr (.inl rfl));obtain rfl:=I.re (by decide);obtain rfl:=I.n (by decide) (by decide);obtain⟨a,rfl⟩:=uX (nd.one (by decide));have hv:=zk (nd.vt (.inl rfl));have hd:ty.dep<=8:=by have:=nd.vt (.inl rfl);simp only[Ty.valid,oL,oc]at this;omega
  rw[Ll];have e:(bytes [40,92]++nm++bytes [58]++Ap ty++bytes [46]++(txs [a]).getD 0 (bytes [])++bytes [41]).data.toList++r=[40]++([92]++(nm.data.toList++([58]++(tyL ty++([46]++(tmL a++([41]++r))))))):=by simp only[zK,oM];rfl
  rw[e,tV,Fx,FA,(nmL Y).word (s8 (by decide) _)];simp only[wA,oI,FB hv.1 8 _ hd,vV (V r) (sub a (by simp)),mkF,oR,Ce];rfl
 ·obtain⟨rfl,rfl⟩:=U (by decide) (by decide) (by decide) (by decide) (by decide);obtain rfl:=I.ty (by decide) (by decide);obtain rfl:=I.re (by decide);obtain rfl:=I.n (by decide) (by decide);obtain⟨a,b,rfl⟩:=H3 (l:=l) (by have:(l.length:Int)=2:=J;omega);rw[Lm];have e:(bytes [40]++xt (bytes [32]) (txs [a,b])++bytes [41]).data.toList++r=[40]++(tmL a++(32::(tmL b++([41]++r)))):=by simp only[txs,xt,uH,zK,oM];rfl
  rw[e,tV,Ci _ _ _ (D9 (nd.sub a (by simp)) (xY (by decide) _)),IQ sp (sub a (by simp)) (sub b (by simp)) 32 (by decide),if_pos rfl]
 ·obtain⟨Y,rfl⟩:=Z (.inr (.inr rfl));obtain rfl:=I.ty (by decide) (by decide);obtain rfl:=I.re (by decide);obtain rfl:=I.n (by decide) (by decide);have hl:2=l.length:=by have:(l.length:Int)=2:=J;omega
  rw[Ln];have e:(bytes [40,108,101,116,32]++nm++bytes [61]++xt (bytes [32]) (txs l)++bytes [41]).data.toList++r=[40]++([108,101,116,32]++(nm.data.toList++([61]++((xt (bytes [32]) (txs l)).data.toList++([41]++r))))):=by simp only[zK,oM];rfl
  rw[e,tV,Ch,Cj,(nmL Y).word (s8 (by decide) _)]
  have:=IN aa (V r) l sub hl
  rw[show(bytes [32]).data.toList=[32]from rfl]at this;simp only[wA,oI,this,mkF,oR,Ce];rfl
 ·obtain rfl:=I.n (by decide) (by decide);have O:=I.nm;simp only[yT]at O;rw[if_neg (by decide),if_neg (by decide),if_pos trivial]at O;simp only[oL]at O;obtain⟨Y,h2, -⟩:=O;obtain⟨a,rfl⟩:=uX (nd.one (by decide));have hv:=zk (nd.vt (.inr rfl));have ae:=zk (nd.vr rfl);have hd:ty.dep<=8:=by have:=nd.vt (.inr rfl);simp only[Ty.valid,oL,oc]at this;omega
  have ah:re.dep<=8:=by have:=nd.vr rfl;simp only[Ty.valid,oL,oc]at this;omega
  rw[Lo];have e:(bytes [40,114,101,99,32]++nm++bytes [32]++ot++bytes [58]++Ap ty++bytes [62]++Ap re++bytes [46]++(txs [a]).getD 0 (bytes [])++bytes [41]).data.toList++r=[40]++([114,101,99,32]++(nm.data.toList++([32]++(ot.data.toList++([58]++(tyL ty++([62]++(tyL re++([46]++(tmL a++([41]++r))))))))))):=by simp only[zK,oM];rfl
  rw[e,tV,F0,Ck,(nmL Y).word (s8 (by decide) _)];simp only[wA,oI];rw[(nmL h2).word (s8 (by decide) _)];simp only[wA,oI,FB hv.1 8 _ hd,FB ae.1 8 _ ah,vV (V r) (sub a (by simp)),mkF,oR,Ce]
 ·obtain⟨rfl,rfl⟩:=U (by decide) (by decide) (by decide) (by decide) (by decide);obtain rfl:=I.ty (by decide) (by decide);obtain rfl:=I.re (by decide);obtain rfl:=I.n (by decide) (by decide);obtain⟨a,rfl⟩:=uX (nd.one (by decide));rw[E2];have e:(bytes [60]++(txs [a]).getD 0 (bytes [])++bytes [62]).data.toList++r=[60]++(tmL a++([62]++r)):=by simp only[zK,oM];rfl
  rw[e,Kt,vV (s8 (by decide) _) (sub a (by simp))];rfl
 ·obtain⟨rfl,rfl⟩:=U (by decide) (by decide) (by decide) (by decide) (by decide);obtain rfl:=I.ty (by decide) (by decide);obtain rfl:=I.re (by decide);obtain rfl:=I.n (by decide) (by decide);obtain⟨a,rfl⟩:=uX (nd.one (by decide));rw[E3];have e:(bytes [126]++(txs [a]).getD 0 (bytes [])).data.toList++r=[126]++(tmL a++([]++r)):=by simp only[zK,oM,nB];rfl
  rw[e,Ku,vV (e:=[]) hr (sub a (by simp))];rfl
 ·obtain⟨rfl,rfl⟩:=U (by decide) (by decide) (by decide) (by decide) (by decide);obtain rfl:=I.ty (by decide) (by decide);obtain rfl:=I.re (by decide);obtain rfl:=I.n (by decide) (by decide);obtain⟨a,rfl⟩:=uX (nd.one (by decide));rw[E4];have e:(bytes [40,114,117,110,32]++(txs [a]).getD 0 (bytes [])++bytes [41]).data.toList++r=[40]++([114,117,110,32]++(tmL a++([41]++r))):=by simp only[zK,oM];rfl
  rw[e,tV,F1,vV (V r) (sub a (by simp))];rfl
 ·obtain⟨rfl,rfl⟩:=U (by decide) (by decide) (by decide) (by decide) (by decide);obtain rfl:=I.ty (by decide) (by decide);obtain rfl:=I.re (by decide);obtain rfl:=I.n (by decide) (by decide);obtain⟨a,rfl⟩:=uX (nd.one (by decide));rw[E5];have e:(bytes [40,108,105,102,116,32]++(txs [a]).getD 0 (bytes [])++bytes [41]).data.toList++r=[40]++([108,105,102,116,32]++(tmL a++([41]++r))):=by simp only[zK,oM];rfl
  rw[e,tV,Dz,vV (V r) (sub a (by simp))];rfl
theorem tE (l:Bl):(word l).1.length+(word l).2.length=l.length/\(word l).2 <:+ l:=by have h:=GL l;exact⟨by rw[<-oH,h],⟨_,h⟩⟩
theorem zh {p l r:Bl}(h:pre p l=some r):r.length+p.length=l.length/\r <:+ l:=by have e:=zZ h;exact⟨by rw[e,oH];omega,⟨_,e.symm⟩⟩
theorem u7:∀ {n:Nat}{l:Bl}{t:Ty}{r:Bl},wO n l=some (t,r)->r.length+t.cnt<=l.length/\r <:+ l
 | 0,l,t,r,h=>by simp[wO]at h
 | n+1,l,t,r,h=>by
   simp only[wO]at h;split at h
   ·rename_i r0 I;simp only[oZ,mo]at h;obtain⟨rfl,rfl⟩:=h;obtain⟨a,b⟩:=zh I;exact⟨by rw[<-a];exact oJ _,b⟩
   split at h
   ·rename_i r0 I;simp only[oZ,mo]at h;obtain⟨rfl,rfl⟩:=h;obtain⟨a,b⟩:=zh I;exact⟨by rw[<-a];exact oJ _,b⟩
   split at h
   ·rename_i r0 I;obtain⟨⟨x,r1⟩,J,h⟩:=oY.1 h;obtain⟨U,O,h⟩:=nG.1 h;cases h;obtain⟨a0,b0⟩:=zh I;obtain⟨V,b1⟩:=u7 J;obtain⟨a2,b2⟩:=zh O;have:(vK x).cnt=1+(x.cnt+0):=rfl;simp only[oN,oa]at a0 a2;exact⟨by show _+(vK x).cnt<=_;omega,b2.trans (b1.trans b0)⟩
   ·obtain⟨r0,I,h⟩:=oY.1 h;obtain⟨⟨x,r1⟩,J,h⟩:=oY.1 h;obtain⟨U,O,h⟩:=oY.1 h;obtain⟨⟨y,r3⟩,Y,h⟩:=oY.1 h;obtain⟨r4,Z,h⟩:=nG.1 h;cases h;obtain⟨a0,b0⟩:=zh I;obtain⟨V,b1⟩:=u7 J;obtain⟨a2,b2⟩:=zh O;obtain⟨a3,b3⟩:=u7 Y;obtain⟨a4,b4⟩:=zh Z;have:(B5 x y).cnt=1+(x.cnt+(y.cnt+0)):=rfl;simp only[oN,oa]at a0 a2 a4;exact⟨by show _+(B5 x y).cnt<=_;omega,b4.trans (b3.trans (b2.trans (b1.trans b0)))⟩
def SfT (T:Bl->Option (Tm × Bl)):Prop:=∀ {l:Bl} {t:Tm} {r:Bl},T l=some (t,r)->t.cnt+3*r.length<=3*l.length+3/\r <:+ l
theorem u6 {T:Bl->Option (Tm × Bl)}(J:SfT T){b e:Bl}:∀ {k:Nat}{f:Bool}{l:Bl}{ts:List Tm}{r:Bl},yy T b e k f l=some (ts,r)->xZ ts+3*r.length+3*e.length<=3*l.length+3*k/\r <:+ l
 | 0,f,l,ts,r,h=>by simp only[yy]at h;obtain⟨r0,I,h⟩:=nG.1 h;cases h;obtain⟨a0,b0⟩:=zh I;exact⟨by simp only[xZ];omega,b0⟩
 | k+1,f,l,ts,r,h=>by
   simp only[yy]at h;obtain⟨r0,I,h⟩:=oY.1 h;obtain⟨⟨x,r1⟩,O,h⟩:=oY.1 h;obtain⟨⟨y,V⟩,U,h⟩:=nG.1 h;cases h;obtain⟨Y,b1⟩:=J O;obtain⟨a2,b2⟩:=u6 J U;have a0:r0.length<=l.length/\r0 <:+ l:=by
    cases f
    ·obtain⟨a,b⟩:=zh I;exact⟨by omega,b⟩
    ·simp at I;subst I;exact⟨oJ _,List.suffix_refl _⟩
   simp only[xZ];simp only at a2;exact⟨by omega,b2.trans (b1.trans a0.2)⟩
theorem sm {k:Int}{nm ot:Bl}{ty re:Ty}{x:Option (List Tm × Bl)}{t:Tm}{r:Bl}(h:mkF k nm ot ty re x=some (t,r)):∃ ts,x=some (ts,r)/\t.cnt=1+ty.cnt+re.cnt+xZ ts:=by obtain⟨⟨y,r1⟩,I,h⟩:=nG.1 h;cases h;exact⟨y,I,rfl⟩
theorem zc:tZero.cnt=1:=rfl
theorem J6 {sp:Bool}{T:Bl->Option (Tm × Bl)}(Y:SfT T){l:Bl}{t:Tm}{r:Bl}(h:v6 sp T l=some (t,r)):t.cnt+3*r.length<=3*l.length+6/\r <:+ l:=by
 have form:∀ {k:Int} {p b nm ot l0:Bl} {m:Nat} {l:Bl},1<=p.length->m<=p.length->pre p l=some l0->mkF k nm ot tZero tZero (yy T b [41] m true l0)=some (t,r)->t.cnt+3*r.length<=3*l.length+6/\r <:+ l:=λhp hm I h=>by obtain⟨a0,b0⟩:=zh I;obtain⟨ts,O,J⟩:=sm h;obtain⟨U,b1⟩:=u6 Y O;rw[zc]at J;simp only[oN,oa]at U;exact⟨by omega,b1.trans b0⟩
 simp only[v6]at h;split at h
 ·rename_i I;exact form (by decide) (by decide) I h
 split at h
 ·rename_i I;exact form (by decide) (by decide) I h
 split at h
 ·rename_i I;exact form (by decide) (by decide) I h
 split at h
 ·rename_i I;exact form (by decide) (by decide) I h
 split at h
 ·rename_i r0 I;simp only[Cj]at h;obtain⟨r1,O,h⟩:=oY.1 h;obtain⟨a0,b0⟩:=zh I;obtain⟨aw,Z⟩:=tE r0
  have:=form (by decide) (m:=2) (p:=[61,61]) (l:=61::61::r1) (by decide) rfl h
  obtain⟨U,b1⟩:=zh O;obtain⟨ts,J,V⟩:=sm h;obtain⟨a2,b2⟩:=u6 Y J;rw[zc]at V;simp only[oN,oa]at a0 U a2;exact⟨by omega,b2.trans (b1.trans (Z.trans b0))⟩
 split at h
 ·rename_i r0 I;simp only[FA]at h;obtain⟨r1,O,h⟩:=oY.1 h;obtain⟨⟨ty,r2⟩,J,h⟩:=oY.1 h;obtain⟨r3,V,h⟩:=oY.1 h;obtain⟨a0,b0⟩:=zh I;obtain⟨aw,Z⟩:=tE r0;obtain⟨U,b1⟩:=zh O;obtain⟨a2,b2⟩:=u7 J;obtain⟨a3,b3⟩:=zh V;obtain⟨ts,h4,h5⟩:=sm h;obtain⟨a4,b4⟩:=u6 Y h4;rw[zc]at h5;simp only[oN,oa]at a0 U a3 a4;simp only at h5;exact⟨by omega,b4.trans (b3.trans (b2.trans (b1.trans (Z.trans b0))))⟩
 split at h
 ·rename_i r0 I;simp only[Ck]at h;obtain⟨m,hm,h⟩:=oY.1 h;obtain⟨r1,O,h⟩:=oY.1 h;obtain⟨⟨ty,r2⟩,J,h⟩:=oY.1 h;obtain⟨r3,V,h⟩:=oY.1 h;obtain⟨⟨re,r4⟩,h4,h⟩:=oY.1 h;obtain⟨r5,h5,h⟩:=oY.1 h;obtain⟨a0,b0⟩:=zh I;obtain⟨aw,Z⟩:=tE r0;obtain⟨am,bm⟩:=zh hm;obtain⟨av,bv⟩:=tE m;obtain⟨U,b1⟩:=zh O;obtain⟨a2,b2⟩:=u7 J;obtain⟨a3,b3⟩:=zh V;obtain⟨a4,b4⟩:=u7 h4;obtain⟨a5,b5⟩:=zh h5;obtain⟨ts,h6,h7⟩:=sm h;obtain⟨a6,b6⟩:=u6 Y h6;simp only[oN,oa]at a0 am U a3 a5 a6;simp only at h7;exact⟨by omega,b6.trans (b5.trans (b4.trans (b3.trans (b2.trans (b1.trans (bv.trans (bm.trans (Z.trans b0))))))))⟩
 ·simp only[IP]at h;obtain⟨⟨x,r0⟩,I,h⟩:=oY.1 h;obtain⟨a0,b0⟩:=Y I;simp only at h;cases r0 with
  | nil=>simp[F2]at h
  | cons c r1=>
  simp only[F2]at h;have aa:∀ {k:Int} {nm ot:ByteArray},((T r1).bind λy=>(pre [41] y.2).map λr=>(Tm.mk k nm ot 0 tZero tZero [x,y.1],r))=some (t,r)->t.cnt+3*r.length<=3*l.length+6/\r <:+ l:=λh=>by obtain⟨⟨y,r2⟩,J,h⟩:=oY.1 h;obtain⟨r3,V,h⟩:=nG.1 h;cases h;obtain⟨a2,b2⟩:=Y J;obtain⟨a3,b3⟩:=zh V;simp only[oN,oa]at a0 a3;simp only[Tm.cnt,xZ,zc];exact⟨by omega,b3.trans (b2.trans ((List.suffix_cons _ _).trans b0))⟩
  split at h
  ·exact aa h
  split at h
  ·cases h
  ·exact aa h
theorem JI {sp:Bool}{l:Bl}{t:Tm}{r:Bl}(h:EV sp l=some (t,r)):t.cnt+3*r.length<=3*l.length+3/\r <:+ l:=by
 obtain⟨O,I⟩:=tE l;have J:∀ n,(KI n).cnt=3:=λ_=>rfl;have c2:∀ w,(tVr w).cnt=3:=λ_=>rfl;have n1:∀ n,some (KI n,(word l).2)=some (t,r)->t.cnt+3*r.length<=3*l.length+3/\r <:+ l:=λn h=>by cases h;rw[J];exact⟨by omega,I⟩
 have n2:∀ w,some (tVr w,(word l).2)=some (t,r)->t.cnt+3*r.length<=3*l.length+3/\r <:+ l:=λn h=>by cases h;rw[c2];exact⟨by omega,I⟩
 unfold EV at h;split at h
 ·cases h
 cases sp
 ·simp only at h;split at h
  ·exact n1 _ h
  split at h
  ·cases h
  ·exact n2 _ h
 ·simp only at h;split at h
  ·obtain⟨n,_,h⟩:=nG.1 h;exact n1 n (oT some h)
  ·exact n2 _ h
theorem Kv (sp:Bool):∀ n:Nat,SfT (xz sp n)
 | 0,l,t,r,h=>by simp[xz]at h
 | n+1,l,t,r,h=>by
   have J:SfT (xz sp n):=Kv sp n;simp only[xz]at h;have bl:∀ {p r0:Bl} {b:Int},p.length=2->pre p l=some r0->some (tBl b,r0)=some (t,r)->t.cnt+3*r.length<=3*l.length+3/\r <:+ l:=λY I h=>by cases h;obtain⟨a0,b0⟩:=zh I;exact⟨by show 3+_<=_;omega,b0⟩
   split at h
   ·rename_i I;exact bl rfl I h
   split at h
   ·rename_i I;exact bl rfl I h
   have un:∀ {c:UInt8} {k:Int} {e r0:Bl},pre [c] l=some r0->mkF k [] [] tZero tZero (yy (xz sp n) [] e 1 true r0)=some (t,r)->t.cnt+3*r.length<=3*l.length+3/\r <:+ l:=λI h=>by obtain⟨a0,b0⟩:=zh I;obtain⟨ts,O,U⟩:=sm h;obtain⟨V,b1⟩:=u6 J O;rw[zc]at U;simp only[oN,oa]at a0;exact⟨by omega,b1.trans b0⟩
   split at h
   ·rename_i I;exact un I h
   split at h
   ·rename_i I;exact un I h
   split at h
   ·rename_i r0 I;obtain⟨a0,b0⟩:=zh I;obtain⟨V,b1⟩:=J6 J h;simp only[oN,oa]at a0;exact⟨by omega,b1.trans b0⟩
   ·exact JI h
end Go.Proofs.YtidiofobanefmaaGreatDoor
set_option maxRecDepth 100000
namespace Go.Proofs.YtidiofobanefmaaGreatDoor
open Go Go.Proofs Go.Proofs.Tryz Go.IntWalk
structure Atl (s:ByteArray) (n:Int) (l:Bl):Prop where
 sz:s.size<=1073741824
 lo:0<=n
 hi:n<=s.size
 eq:s.data.toList.drop n.toNat=l
theorem Atl.len {s:ByteArray}{n:Int}{l:Bl}(h:Atl s n l):(l.length:Int)=s.size - n:=by
 have I:=h.lo;have J:=h.hi;have:s.data.toList.length=s.size:=by simp
 rw[<-h.eq,mE];omega
theorem Atl.app {s:ByteArray}{n:Int}{l p r:Bl}(h:Atl s n l)(e:l=p++r){m:Int}(I:m=n+p.length):Atl s m r:=by subst e;have hl:=h.len;have J:=h.lo;rw[oH]at hl;refine⟨h.sz,by omega,by omega,?_⟩;rw[I,show(n+(p.length:Int)).toNat=n.toNat+p.length by omega,<-List.drop_drop,h.eq,List.drop_left]
theorem Atl.get {s:ByteArray}{n:Int}{c:UInt8}{l:Bl}(h:Atl s n (c::l)):s.data.getD n.toNat (OfNat.ofNat 0)=c:=by
 have I:s.data.toList[n.toNat]?=some c:=by
  have:=oT List.head? h.eq
  rw[List.head?_drop]at this;simpa using this
 rw[om,<-nC,I];rfl
theorem Atl.nil {s:ByteArray}{n:Int}{l:Bl}(h:Atl s n l):l=[]↔n=s.size:=by
 have:=h.len
 constructor
 ·intro e;rw[e]at this;simp at this;omega
 ·intro e;exact oV (by omega)
theorem ur (s:ByteArray)(a b:Nat):(s.extract a b).data.toList=(s.data.toList.drop a).take (b - a):=by rw[ByteArray.data_extract,Array.toList_extract,List.extract_eq_take_drop]
theorem Atl.ext {s:ByteArray}{n:Int}{l:Bl}(h:Atl s n l)(k:Nat){m:Int}(I:m=n+k):(s.extract n.toNat m.toNat).data.toList=l.take k:=by have J:=h.lo;rw[ur,h.eq,I,show(n+(k:Int)).toNat - n.toNat=k by omega]
theorem pP {p l:Bl}:l.take p.length=p↔∃ r,pre p l=some r:=by
 constructor
 ·intro e;refine⟨l.drop p.length,?_⟩
  conv=>lhs;rw[<-nO p.length l,e]
  exact wA _ _
 ·rintro⟨r,e⟩
  rw[zZ e,List.take_left]
theorem II {p l:Bl}(h:l.length<p.length):pre p l=none:=by
 cases e:pre p l with
 | none=>rfl
 | some r=>have:=zZ e;rw[this,oH]at h;omega
abbrev bl (t:ByteArray):Bl:=t.data.toList
theorem xN (t:ByteArray):(bl t).length=t.size:=by simp
inductive Rd {α:Type} (is:α->D->Prop) (s:ByteArray) (b:Bool) (m:Option (α × Bl)):D->Int->Bool->Prop
 | ok {t:α} {r:Bl} {d:D} {n:Int}:b=false->m=some (t,r)->is t d->Atl s n r->Rd is s b m d n false
 | no {l:Bl} {d:D} {n:Int}:b=true\/m=none->Atl s n l->Rd is s b m d n true
theorem xv {s:ByteArray} {n:Int} {l:Bl} (J:Atl s n l) (t:ByteArray) (ht:t.size<=100) (b:Bool) (N:Nat) (Q:QT [.bool,.str,.i,.bool])
  (V:∀ r n' N',N<=N'->b=false->pre (bl t) l=some r->Atl s n' r->Q true s n' b N') (U:∀ N',N<=N'->(b=true\/pre (bl t) l=none)->Q false s n b N') :
  BCalls prog 62 [.bool,.str,.i,.bool] [.pb 0 0 0 0,.str t] [.var [.str s,.j n,.bool b]] N Q:=by
 have Y:=J.lo;have g2:=J.hi;have g3:=J.sz;have hl:=J.len;have e:IntKind.i64.wrap (n+(t.size:Int))=n+t.size:=i64_in _ (by omega);refine pF N t s n b Q λE=>Br.of (λhb=>⟨zG,λN1 I=>U _ I (.inl hb)⟩) λhb=>?_;rw[e];refine Br.dec (λZ=>⟨zG,λN1 I=>U _ I (.inr (II (by rw[xN];omega)))⟩) λZ=>⟨⟨Y,by omega,by omega⟩,Br.nstr (λhn=>⟨zG,λN1 I=>U _ I (.inr ?_)⟩) λhe=>⟨zG,λN1 I=>?_⟩⟩
 ·cases O:pre (bl t) l with
  | none=>rfl
  | some r=>exact absurd (ze ((J.ext (bl t).length (by rw[xN])).trans (pP.2 ⟨r,O⟩))) hn
 ·obtain⟨r,O⟩:=pP.1 ((J.ext (bl t).length (by rw[xN])).symm.trans (oT bl he));exact V r _ _ I hb O (J.app (zZ O) (by rw[xN]))
theorem ww {s:ByteArray} {n:Int} {l:Bl} (Z:Atl s n l) (t:ByteArray) (ht:t.size<=100) (b:Bool) (N:Nat) (Q:QT [.str,.i,.bool])
  (h1:∀ r n' N',N<=N'->b=false->pre (bl t) l=some r->Atl s n' r->Q s n' false N') (Y:∀ N',N<=N'->(b=true\/pre (bl t) l=none)->Q s n true N') :
  BCalls prog 64 [.str,.i,.bool] [.pb 0 0 0 0,.str t] [.var [.str s,.j n,.bool b]] N Q:=
 pE N t s n b Q λE=>Br.of (λhb=>by subst hb;exact⟨zG,λN1 I=>Y _ I (.inl rfl)⟩) λ_ N1 I=>xv Z t ht b N1 _ (λr n' N2 J hb O U _=>⟨zG,λN3 V=>h1 r _ _ (by omega) hb O U⟩) λN2 J O _=>⟨zG,λN3 V=>Y _ (by omega) O⟩
theorem Bw {s:ByteArray} {n:Int} {l:Bl} (U:Atl s n l) (b:Bool) (N:Nat) (Q:QT [.str,.str,.i,.bool])
  (hQ:∀ n' N',N<=N'->Atl s n' (word l).2->Q ⟨(word l).1.toArray⟩ s n' b N'):BCalls prog 67 [.str,.str,.i,.bool] [.pb 0 0 0 0] [.var [.str s,.j n,.bool b]] N Q:=by
 have g1:=U.lo;have g2:=U.hi;have g3:=U.sz;refine pG N s n b Q λE=>?_;have key:∀(l1 p:Bl) (k:Int),Atl s k l1->l=p++l1->k=n+p.length->(∀ c∈p,idC c=true)->zj E Q N n s k b N:=by
  intro l1;have out:∀(l1 p:Bl) (k:Int),Atl s k l1->l=p++l1->k=n+p.length->(∀ c∈p,idC c=true)->Stop l1->(0<=n/\n<=k/\k<=(s.size:Int))/\zC E [.var [.str (bytes []),.j 0,.bool false]]/\∀ N1,N<=N1->Q (ByteArray.extract s n.toNat k.toNat) s k b N1:=λl1 p k I J V O hs=>by
   have k2:=I.hi;refine⟨⟨g1,by omega,k2⟩,zG,λN1 aa=>?_⟩;have hw:word l=(p,l1):=by rw[J];exact pR p l1 O hs
   have hx:ByteArray.extract s n.toNat k.toNat=⟨p.toArray⟩:=ze (by rw[U.ext p.length V,J,List.take_left]);rw[hx]
   have:=hQ k N1 aa
   rw[hw]at this;exact this I
  induction l1 with
  | nil=>
    intro p k I J V O
    have:=(I.nil).1 rfl
    exact uR _ _ _ _ _ _ _ _ (Br.dec (λh=>by omega) λ_=>out _ p k I J V O λc r e=>by cases e)
  | cons c l1 ih=>
    intro p k I J V O;have hg:=I.get;have Y:=I.len;have k1:=I.lo;simp only[oN]at Y;have bd:0<=k/\k<(s.size:Int):=⟨k1,by omega⟩
    have nx:idC c=true->zj E Q N n s (IntKind.i64.wrap (k+1)) b N:=λhc=>by
     rw[i64_in (k+1) (by omega)];refine ih (p++[c]) (k+1) (I.app (p:=[c]) rfl rfl) (by rw[J,oM];rfl) (by rw[oH];simp only[oN,oa];omega) λx hx=>?_;rcases oO.1 hx with hx | hx
     ·exact O x hx
     ·rw[nM.1 hx];exact hc
    have ot:idC c=false->_:=λhc=>out _ p k I J V O (xY hc l1);have ci:∀ P:Prop,(idC c=true->P)->(48<=c.toNat/\c.toNat<=57\/97<=c.toNat/\c.toNat<=122)->P:=λP h g=>h (by unfold idC;exact nU g);have Z:∀ P:Prop,(idC c=false->P)->¬(48<=c.toNat/\c.toNat<=57\/97<=c.toNat/\c.toNat<=122)->P:=λP h g=>h (by unfold idC;exact nV g);refine uR _ _ _ _ _ _ _ _ (Br.dec (λ_=>?_) λh=>by omega);rw[hg];exact⟨bd,Br.dec (λa1=>⟨bd,Br.dec (λa2=>ci _ nx (by omega)) λa2=>⟨bd,Br.dec (λa3=>⟨bd,Br.dec (λa4=>ci _ nx (by omega)) λa4=>Z _ ot (by omega)⟩) λa3=>Z _ ot (by omega)⟩⟩) λa1=>⟨bd,Br.dec (λa3=>⟨bd,Br.dec (λa4=>ci _ nx (by omega)) λa4=>Z _ ot (by omega)⟩) λa3=>Z _ ot (by omega)⟩⟩
 exact key l [] n U rfl (by simp) (by simp)
theorem Mt:∀(j:Nat),j<=8->∀(n1:Int),n1+j=9->∀ {s:ByteArray} {n:Int} {l:Bl} (_:Atl s n l) (b:Bool) (N:Nat) (Q:QT [.ag 2,.str,.i,.bool])
  (_:∀ d n' b' N',N<=N'->Rd Ty.Is s b (wO j l) d n' b'->Q d s n' b' N'),BCalls prog 99 [.ag 2,.str,.i,.bool] [.pb 0 0 0 0,.j n1] [.var [.str s,.j n,.bool b]] N Q:=by
 intro j
 induction j with
 | zero=>intro _ n1 bp s n l hr b N Q J;exact vn N n1 s n b Q λE=>Br.of (λhb=>by subst hb;exact⟨zG,λN1 Z=>J _ _ _ _ Z (.no (.inl rfl) hr)⟩) λ_=>Br.dec (λh=>⟨zG,λN1 Z=>J _ _ _ _ Z (by rw[nU h];exact .no (.inr rfl) hr)⟩) λh=>by omega
 | succ j ih=>
   intro hj n1 bp s n l hr b N Q J;have e1:IntKind.i64.wrap (n1+1)=n1+1:=i64_in _ (by omega);refine vn N n1 s n b Q λE=>Br.of (λhb=>by subst hb;exact⟨zG,λN1 Z=>J _ _ _ _ Z (.no (.inl rfl) hr)⟩) λhb=>Br.dec (λ_=>by omega) λh8 N1 Z=>?_;subst hb;rw[nV h8];refine xv hr _ (by decide) _ N1 _ (λr n2 N2 bq _ hp bt _=>?_) λN2 bq hp _=>?_
   ·exact Br.of (λ_ N3 bv=>qX N3 _ λy N4 a1 hy _ _ _=>⟨zG,λN5 a6=>J _ _ _ _ (by omega) (.ok rfl (by simp only[wO];rw[show pre [73] l=_ from hp]) hy bt)⟩) λh=>by cases h
   have hp:=hp.resolve_left (by simp);refine Br.of (λh=>by cases h) λ_ N3 bv=>xv hr _ (by decide) _ N3 _ (λr n4 N4 a1 _ hq bw _=>?_) λN4 a1 hq _=>?_
   ·exact Br.of (λ_ N5 a6=>CT N5 _ λy N6 a7 hy _ _ _=>⟨zG,λN7 a8=>J _ _ _ _ (by omega) (.ok rfl (by simp only[wO];rw[show pre [73] l=_ from hp,show pre [66] l=_ from hq]) hy bw)⟩) λh=>by cases h
   have hq:=hq.resolve_left (by simp);refine Br.of (λh=>by cases h) λ_ N5 a6=>xv hr _ (by decide) _ N5 _ (λr n6 N6 a7 _ hu bz _=>Br.of (λ_ N7 a8=>?_) λh=>by cases h) λN6 a7 hu _=>Br.of (λh=>by cases h) λ_ N7 a8=>?_
   ·have em:wO (j+1) l=(wO j r).bind λx=>(pre [62] x.2).map λr=>(vK x.1,r):=by simp only[wO];rw[show pre [73] l=_ from hp,show pre [66] l=_ from hq,show pre [60] l=_ from hu]
    rw[em]at J;rw[e1];refine ih (by omega) (n1+1) (by omega) bz _ N7 _ λd n8 b8 N8 ba hd _ _ N9 bb=>?_;cases hd with
    | @ok t r8 _ _ _ hm hd V=>rw[hm]at J;refine ww V _ (by decide) _ N9 _ (λac bc aj Y _ hv I _=>⟨⟨rfl,rfl⟩,⟨rfl,rfl⟩,⟨rfl,rfl⟩,⟨rfl,rfl⟩,⟨rfl,rfl⟩,λa ae ah _=>⟨zG,λaa O=>J _ _ _ _ (by omega) (.ok rfl (by rw[oI];show(pre [62] r8).map _=_;rw[show pre [62] r8=_ from hv];rfl) (show(vK t).Is _ from Ty.is_mk.2 ⟨_,_,_,rfl,by simp,d,[],rfl,hd,rfl⟩) I)⟩⟩) λaj Y hv _=>⟨⟨rfl,rfl⟩,⟨rfl,rfl⟩,⟨rfl,rfl⟩,⟨rfl,rfl⟩,⟨rfl,rfl⟩,λa ae ah _=>⟨zG,λaa O=>J _ _ _ _ (by omega) (.no (.inr (by rw[oI];show(pre [62] r8).map _=_;rw[show pre [62] r8=_ from hv.resolve_left (by simp)];rfl)) V)⟩⟩
    | no hm V=>have hm:=hm.resolve_left (by simp);rw[hm]at J;exact ww V _ (by decide) _ N9 _ (λac bc aj Y h=>by cases h) λaj Y hv _=>⟨⟨rfl,rfl⟩,⟨rfl,rfl⟩,⟨rfl,rfl⟩,⟨rfl,rfl⟩,⟨rfl,rfl⟩,λa ae ah _=>⟨zG,λaa O=>J _ _ _ _ (by omega) (.no (.inr rfl) V)⟩⟩
   ·have hu:=hu.resolve_left (by simp);have em:wO (j+1) l=(pre [40] l).bind λr=>(wO j r).bind λx=>(pre [62] x.2).bind λr=>(wO j r).bind λy=>(pre [41] y.2).map λr=>(B5 x.1 y.1,r):=by simp only[wO];rw[show pre [73] l=_ from hp,show pre [66] l=_ from hq,show pre [60] l=_ from hu]
    rw[em]at J;refine ww hr _ (by decide) _ N7 _ (λr8 n8 N8 ba _ hv V _=>Br.of (λh=>by cases h) λ_ N9 bb=>?_) λN8 ba hv _=>Br.of (λ_=>⟨zG,λN9 bb=>J _ _ _ _ (by omega) (.no (.inr (by rw[show pre [40] l=_ from hv.resolve_left (by simp)];rfl)) hr)⟩) λh=>by cases h
    rw[show pre [40] l=_ from hv,oI]at J;rw[e1];refine ih (by omega) (n1+1) (by omega) V _ N9 _ λd bc ce aj Y hd _ _ ae ah=>?_;cases hd with
    | @ok t ac _ _ _ hm hd I=>
      rw[hm,oI]at J;refine ww I _ (by decide) _ ae _ (λb3 b7 aa O _ ak bg _=>Br.of (λh=>by cases h) λ_ ax aq=>?_) λaa O ak _=>Br.of (λ_=>⟨zG,λax aq=>J _ _ _ _ (by omega) (.no (.inr (by show(pre [62] ac).bind _=_;rw[show pre [62] ac=_ from ak.resolve_left (by simp)];rfl)) I)⟩) λh=>by cases h
      have ab:=J;simp only[show pre [62] ac=_ from ak,oI]at ab;refine ih (by omega) (n1+1) (by omega) bg _ ax _ λe cf cg ch cc he _ _ bh cd=>?_;cases he with
      | @ok u al _ _ _ ay he U=>rw[ay,oI]at ab;refine ww U _ (by decide) _ bh _ (λb9 ca az ai _ ao bi _=>⟨⟨rfl,rfl⟩,⟨rfl,rfl⟩,⟨rfl,rfl⟩,λa bj au _=>⟨zG,λbm aw=>ab _ _ _ _ (by omega) (.ok rfl (by show(pre [41] al).map _=_;rw[show pre [41] al=_ from ao];rfl) (show(B5 t u).Is _ from Ty.is_mk.2 ⟨_,_,_,rfl,by simp,d,[e],rfl,hd,e,[],rfl,he,rfl⟩) bi)⟩⟩) λaz ai ao _=>⟨⟨rfl,rfl⟩,⟨rfl,rfl⟩,⟨rfl,rfl⟩,λa bj au _=>⟨zG,λbm aw=>ab _ _ _ _ (by omega) (.no (.inr (by show(pre [41] al).map _=_;rw[show pre [41] al=_ from ao.resolve_left (by simp)];rfl)) U)⟩⟩
      | no ay U=>rw[ay.resolve_left (by simp)]at ab;exact ww U _ (by decide) _ bh _ (λb9 ca az ai h=>by cases h) λaz ai ao _=>⟨⟨rfl,rfl⟩,⟨rfl,rfl⟩,⟨rfl,rfl⟩,λa bj au _=>⟨zG,λbm aw=>ab _ _ _ _ (by omega) (.no (.inr rfl) U)⟩⟩
    | no hm I=>rw[hm.resolve_left (by simp)]at J;exact ww I _ (by decide) _ ae _ (λb3 b7 aa O h=>by cases h) λaa O ak _=>Br.of (λ_=>⟨zG,λax aq=>J _ _ _ _ (by omega) (.no (.inr rfl) I)⟩) λh=>by cases h
end Go.Proofs.YtidiofobanefmaaGreatDoor
set_option maxRecDepth 100000
namespace Go.Proofs.YtidiofobanefmaaGreatDoor
open Go Go.Proofs Go.Proofs.Tryz Go.IntWalk
theorem hdz {nm ot:ByteArray}(I:nm.size<=4611686018427387904)(J:ot.size<=4611686018427387904):Tm.Hd nm ot tZero tZero (.j 0) (.sl none 2 [] 0) (.j 0) (.sl none 2 [] 0):=⟨I,J,vG 0,vG 0⟩
theorem uW (k n:Int){s:ByteArray}(hs:s.size<=4611686018427387904):(Tm.mk k s (bytes []) n tZero tZero []).Is (.ag [.j k,.t s,.t (bytes []),.j n,.j 0,.sl none 2 [] 0,.j 0,.sl none 2 [] 0,.sl none 9 [] 0]):=
 Tm.is_mk.2 ⟨_,_,_,_,_,_,_,rfl,hdz hs (by decide),by simp,rfl⟩
theorem wa {s:ByteArray}{n:Int}{l:Bl}(h:Atl s n l):(⟨(word l).1.toArray⟩:ByteArray).size<=1073741824:=by have I:=h.len;have J:=h.lo;have O:=h.sz;have U:=(tE l).1;show(word l).1.toArray.size<=_;rw[na];omega
theorem MN (T:Bl->Option (Tm × Bl))(b e l:Bl):yy T b e 1 true l=(T l).bind λx=>(pre e x.2).map λr=>([x.1],r):=by
 simp only[yy,nl,oI];cases T l with
 | none=>rfl
 | some x=>simp only[oI];cases pre e x.2<;>rfl
def DR (dep:Int)(T:Bl->Option (Tm × Bl)):Prop:=∀(s:ByteArray) (n:Int) (l:Bl) (b:Bool) (N:Nat) (Q:QT [.ag 9,.str,.i,.bool]),Atl s n l->(∀ d n' b' N',N<=N'->Rd Tm.Is s b (T l) d n' b'->Q d s n' b' N')->BCalls prog 30 [.ag 9,.str,.i,.bool] [.pb 0 0 0 0,.j dep] [.var [.str s,.j n,.bool b]] N Q
structure Ar (T:Bl->Option (Tm × Bl)) (s:ByteArray) (b:Bool) (m:Nat) (l:Bl) (j:Nat) (n1:Int) (b1:Bool) (l0 ts:List Tm) (es:List D):Prop where
 at_:∃ l1,Atl s n1 l1/\(b1=false->b=false/\yy T [32] [41] m true l=(yy T [32] [41] j false l1).map fun y=>(ts++y.1,y.2))
 bad:b1=true->b=true\/yy T [32] [41] m true l=none
 es:b1=false->All2 Tm.Is (l0++ts) es
theorem Ar.next {T:Bl->Option (Tm × Bl)}{s:ByteArray}{b:Bool}{m:Nat}{l l2:Bl}{j:Nat}{l0 ts:List Tm}{es:List D}(hb:b=false)(h:yy T [32] [41] m true l=((T l2).bind λx=>(yy T [32] [41] j false x.2).map λy=>(x.1::y.1,y.2)).map λy=>(ts++y.1,y.2))(J:All2 Tm.Is (l0++ts) es){x:D}{Y:Int}{Z:Bool}(O:Rd Tm.Is s false (T l2) x Y Z):∃ U,Ar T s b m l j Y Z l0 U (es++[x]):=by
 cases O with
 | @ok t r _ _ _ V O I=>refine⟨ts++[t],⟨r,I,λ_=>⟨hb,?_⟩⟩,by simp,λ_=>by rw[<-oM];exact J.snoc O⟩;rw[h,V,oI,Option.map_map];congr 1;funext y;simp
 | no V I=>refine⟨[],⟨_,I,by simp⟩,λ_=>.inr ?_,by simp⟩;rw[h,V.resolve_left (by simp)];rfl
theorem IK {dep:Int} {T:Bl->Option (Tm × Bl)} (hT:DR dep T) {k m:Int} {nm ot:ByteArray} {ty re:Ty} {t0 t1 r0 r1:D} (hh:Tm.Hd nm ot ty re t0 t1 r0 r1) {l0:List Tm} {es0:List D} (h0:All2 Tm.Is l0 es0) (ay:es0.length<=1) {a0:Option Addr} {c0:Nat} (ak:∀ x,KT a0 es0 c0 [x])
  (n2:Nat) (az:1<=n2/\n2<=3) {s:ByteArray} {n:Int} {l:Bl} (hr:Atl s n l) (b:Bool) (N:Nat) (Q:QT [.ag 9,.str,.i,.bool])
  (hQ:∀ d n' b' N',N<=N'->Rd (λts d=>(Tm.mk k nm ot m ty re (l0++ts)).Is d) s b (yy T [32] [41] n2 true l) d n' b'->Q d s n' b' N'):BCalls prog 100 [.ag 9,.str,.i,.bool] [.pb 0 0 0 0,.dg 9 (.ag [.j k,.t nm,.t ot,.j m,t0,t1,r0,r1,.sl a0 9 es0 c0]),.j (n2:Int),.j dep] [.var [.str s,.j n,.bool b]] N Q:=by
 refine vo N _ n2 dep s n b Q λE _=>?_;have O:∀ {j:Nat} {ts:List Tm} {es:List D} {n1:Int} {b1:Bool},Ar T s b n2 l j n1 b1 l0 ts es->b1=true\/j=0->es.length<=10->∀(N1:Nat) (Q1:QT [.str,.i,.bool]),(∀ n' b' N2,N1<=N2->(∀ a c,Rd (λts d=>(Tm.mk k nm ot m ty re (l0++ts)).Is d) s b (yy T [32] [41] n2 true l) (.ag [.j k,.t nm,.t ot,.j m,t0,t1,r0,r1,.sl a 9 es c]) n' b')->Q1 s n' b' N2)->BCalls prog 64 [.str,.i,.bool] [.pb 0 0 0 0,.str (bytes [41])] [.var [.str s,.j n1,.bool b1]] N1 Q1:=λ{j ts es n1 b1} U hj ai N1 Q1 aj=>by
  obtain⟨l1,V,aa⟩:=U.at_;refine ww V _ (by decide) _ N1 _ (λr n' N2 I hb hp al=>aj _ _ _ I λa c=>?_) λN2 I hp=>aj _ _ _ I λa c=>.no ?_ V
  ·obtain⟨h1,h2⟩:=aa hb;obtain rfl:=hj.resolve_left (by simp[hb]);refine .ok h1 (t:=ts) (r:=r) ?_ (Tm.is_mk.2 ⟨_,_,_,_,_,_,_,rfl,hh,by omega,U.es hb⟩) al;rw[h2];simp only[yy];rw[show pre [41] l1=_ from hp];simp
  ·cases b1 with
   | true=>exact U.bad rfl
   | false=>obtain⟨h1,h2⟩:=aa rfl;obtain rfl:=hj.resolve_left (by simp);refine .inr ?_;rw[h2];simp only[yy];rw[show pre [41] l1=_ from hp.resolve_left (by simp)];rfl
 have ah:∀(es:List D) (x:D),es.length<=10->zA es [x] 136:=λes x h=>by unfold zA;rw[oH];simp only[oN,oa];omega
 have key:∀(j:Nat) (Z:Int) (n1:Int) (b1:Bool) (ts:List Tm) (es:List D) (q N':Nat),Z+j=n2->1<=Z->Ar T s b n2 l j n1 b1 l0 ts es->(es.length:Int)<=1+Z->N<=N' ->
   zO E Q N n2 dep Z s n1 b1 (.j k) (.t nm) (.t ot) (.j m) t0 t1 r0 r1 es.length q 0 (bytes []) (bytes []) 0 0 none [] 0 0 none [] 0 none [] 0 es q N':=by
  intro j
  induction j with
  | zero=>intro Z n1 b1 ts es q N' hk ao U ai aq;refine xT _ _ _ _ _ _ _ _ _ _ _ _ _ _ _ _ _ _ _ _ _ _ _ _ _ _ _ _ _ _ _ _ _ _ _ _ _ (Br.dec (λh=>by omega) λ_ N1 ab=>O U (.inr rfl) (by omega) N1 _ λn' b' N2 I hR _=>⟨⟨rfl,rfl⟩,⟨rfl,rfl⟩,⟨rfl,rfl⟩,λa N3 ac _=>⟨zG,λN4 ae=>hQ _ _ _ _ (by omega) (hR a q)⟩⟩)
  | succ j ih=>
    intro Z n1 b1 ts es q N' hk ao U ai aq;have e1:IntKind.i64.wrap (Z+1)=Z+1:=i64_in _ (by omega);cases b1 with
    | true=>refine xT _ _ _ _ _ _ _ _ _ _ _ _ _ _ _ _ _ _ _ _ _ _ _ _ _ _ _ _ _ _ _ _ _ _ _ _ _ (Br.dec (λ_=>Br.of (λh=>by simp at h) λ_ N1 ab=>O U (.inl rfl) (by omega) N1 _ λn' b' N2 I hR _=>⟨⟨rfl,rfl⟩,⟨rfl,rfl⟩,⟨rfl,rfl⟩,λa N3 ac _=>⟨zG,λN4 ae=>hQ _ _ _ _ (by omega) (hR a q)⟩⟩) λh=>by omega)
    | false=>
      obtain⟨l1,V,aa⟩:=U.at_;obtain⟨hb,hM⟩:=aa rfl;have au:=U.es rfl;have nx:∀(J:List Tm) (x:D) (n3:Int) (b3:Bool) (N3 c1:Nat),N<=N3->Ar T s b n2 l j n3 b3 l0 J (es++[x])->zO E Q N n2 dep (IntKind.i64.wrap (Z+1)) s n3 b3 (.j k) (.t nm) (.t ot) (.j m) t0 t1 r0 r1 (es++[x]).length c1 0 (bytes []) (bytes []) 0 0 none [] 0 0 none [] 0 none [] 0 (es++[x]) c1 N3:=λJ x n3 b3 N3 c1 h Y=>by rw[e1];exact ih (Z+1) n3 b3 J (es++[x]) c1 N3 (by omega) (by omega) Y (by rw[oH];simp only[oN,oa];omega) h
      simp only[yy,nf,nL]at hM;refine xT _ _ _ _ _ _ _ _ _ _ _ _ _ _ _ _ _ _ _ _ _ _ _ _ _ _ _ _ _ _ _ _ _ _ _ _ _ (Br.dec (λ_=>Br.of (λ_=>Br.dec (λ_ N1 ab=>?_) λh=>by omega) λh=>by simp at h) λh=>by omega);refine ww V _ (by decide) _ N1 _ (λr n2 N2 I _ hp aw _ N3 ac=>hT s n2 r false N3 _ aw λx n4 b4 N4 ae hx _ _=>⟨⟨rfl,rfl⟩,ah es x (by omega),λc1=>?_⟩) λN2 I hp _ N3 ac=>hT s n1 l1 true N3 _ V λx n4 b4 N4 ae hx _ _=>⟨⟨rfl,rfl⟩,ah es x (by omega),λc1=>?_⟩
      ·rw[show pre [32] l1=_ from hp,oI]at hM;obtain⟨J,Y⟩:=Ar.next hb hM au hx;exact nx J x n4 b4 N4 c1 (by omega) Y
      ·rw[show pre [32] l1=_ from hp.resolve_left (by simp)]at hM;cases hx with
       | no _ ax=>exact nx [] x n4 true N4 c1 (by omega) ⟨⟨_,ax,by simp⟩,λ_=>.inr (by rw[hM];rfl),by simp⟩
       | ok h=>cases h
 refine uU _ _ _ _ _ _ _ _ _ _ _ _ _ _ _ _ _ _ _ _ _ _ _ _ _ _ ?_;cases b with
 | true=>
   have U:Ar T s true n2 l n2 n true l0 [] es0:=⟨⟨l,hr,by simp⟩,λ_=>.inl rfl,by simp⟩
   exact Br.dec (λ_=>Br.of (λh=>by simp at h) λ_ N1 ab=>O U (.inl rfl) (by omega) N1 _ λn' b' N2 I hR _=>⟨zG,λN3 ac=>hQ _ _ _ _ (by omega) (hR a0 c0)⟩) λh=>by omega
 | false=>
   obtain⟨j,rfl⟩:∃ j,n2=j+1:=⟨n2 - 1,by omega⟩
   refine Br.dec (λ_=>Br.of (λ_=>Br.dec (λh=>by omega) λ_=>⟨_,_,_,rfl,λN1 ab=>?_⟩) λh=>by simp at h) λh=>by omega
   refine hT s n l false N1 _ hr λx n4 b4 N4 ae hx _ _=>⟨ak x,ah es0 x (by omega),λc1=>?_⟩
   obtain⟨J,Y⟩:=Ar.next (b:=false) (m:=j+1) (l:=l) (l2:=l) (j:=j) (ts:=[]) rfl (by simp only[yy,nl,oI,nB];simp) (by simpa using h0) hx;exact key j 1 n4 b4 J (es0++[x]) c1 N4 (by omega) (by omega) Y (by rw[oH];simp only[oN,oa];omega) (by omega)
theorem Rd.form {k:Int}{nm ot:Bl}{ty re:Ty}{s:ByteArray}{b b':Bool}{m:Option (List Tm × Bl)}{d:D}{n:Int}(h:Rd (λts d=>(Tm.mk k ⟨nm.toArray⟩ ⟨ot.toArray⟩ 0 ty re ([]++ts)).Is d) s b m d n b'):Rd Tm.Is s b (mkF k nm ot ty re m) d n b':=by
 cases h with
 | ok hb J hd I=>exact .ok hb (by rw[mkF,J];rfl) hd I
 | no h I=>exact .no (h.imp id λh=>by rw[mkF,h];rfl) I
theorem Km {dep:Int} {T:Bl->Option (Tm × Bl)} (J:DR dep T) (k:Int) {nm:Bl} (O:(⟨nm.toArray⟩:ByteArray).size<=4611686018427387904) (n2:Nat) (I:1<=n2/\n2<=3) {s:ByteArray} {n:Int} {l:Bl} (U:Atl s n l) (b:Bool) (N:Nat) (Q:QT [.ag 9,.str,.i,.bool])
  (V:∀ d n' b' N',N<=N'->Rd Tm.Is s b (mkF k nm [] tZero tZero (yy T [32] [41] n2 true l)) d n' b'->Q d s n' b' N'):BCalls prog 100 [.ag 9,.str,.i,.bool] [.pb 0 0 0 0,.dg 9 (.ag [.j k,.t (⟨nm.toArray⟩),.t (bytes []),.j 0,.j 0,.sl none 2 [] 0,.j 0,.sl none 2 [] 0,.sl none 9 [] 0]),.j (n2:Int),.j dep] [.var [.str s,.j n,.bool b]] N Q:=
 IK J (hdz O (by decide)) (l0:=[]) rfl (by simp) (a0:=none) (c0:=0) (λ_=>trivial) n2 I U b N Q λd n' b' N' h hd=>V d n' b' N' h hd.form
theorem Kn {dep:Int} {T:Bl->Option (Tm × Bl)} (hT:DR dep T) {t:Tm} {x:D} {s:ByteArray} {n:Int} {l:Bl} (I:Atl s n l) (b:Bool) (ht:b=false->t.Is x) (N:Nat) (Q:QT [.ag 9,.str,.i,.bool])
  (hQ:∀ d n' b' N',N<=N'->Rd Tm.Is s b (F2 true T t l) d n' b'->Q d s n' b' N'):BCalls prog 102 [.ag 9,.str,.i,.bool] [.pb 0 0 0 0,.dg 9 x,.j dep] [.var [.str s,.j n,.bool b]] N Q:=by
 have g1:=I.lo;have g2:=I.hi;have g3:=I.sz;have Z:=I.len;have args:∀(k:Int) (nm:ByteArray) (ab:nm.size<=1000) (a:Option Addr) (n1:Int) (l1:Bl) (J:Atl s n1 l1) (_:b=false) (N1:Nat) (_:N<=N1) (Q1:QT [.ag 9,.str,.i,.bool]) (_:∀ d n' b' N',N1<=N'->Rd Tm.Is s b ((T l1).bind λy=>(pre [41] y.2).map λr=>(Tm.mk k nm (bytes []) 0 tZero tZero [t,y.1],r)) d n' b'->Q1 d s n' b' N'),BCalls prog 100 [.ag 9,.str,.i,.bool] [.pb 0 0 0 0,.dg 9 (.ag [.j k,.t nm,.t (bytes []),.j 0,.j 0,.sl none 2 [] 0,.j 0,.sl none 2 [] 0,.sl a 9 [x] 1]),.j 1,.j dep] [.var [.str s,.j n1,.bool b]] N1 Q1:=λk nm ab a n1 l1 J hb N1 ac Q1 ae=>
  IK hT (hdz (by omega) (by decide)) (l0:=[t]) (FV (ht hb)) (by simp) (λy=>by cases a<;>exact⟨rfl,by simp⟩) 1 ⟨by omega,by omega⟩ J b N1 Q1 λd n' b2 N' h hd=>ae d n' b2 N' h (by
   rw[MN]at hd;cases hd with
   | @ok ts r _ _ hb hm hd I=>obtain⟨⟨y,l2⟩,h1,hm⟩:=oY.1 hm;obtain⟨r',h2,hm⟩:=nG.1 hm;cases hm;exact .ok hb (t:=.mk k nm (bytes []) 0 tZero tZero [t,y]) (r:=r) (by rw[h1,oI];show(pre [41] l2).map _=_;rw[show pre [41] l2=_ from h2];rfl) hd I
   | no h I=>
     refine .no (h.imp id λh=>?_) I;cases h1:T l1 with
     | none=>rfl
     | some y=>rw[h1,oI,Option.map_eq_none_iff]at h;rw[oI,h];rfl)
 have bad:∀(d:D) (l1:Bl) (n1:Int) (N1:Nat),N<=N1->Atl s n1 l1->(b=true\/F2 true T t l=none)->Q d s n1 true N1:=λd l1 n1 N1 h J hn=>hQ _ _ _ _ h (.no hn J);refine pK N x dep s n b Q λE _ N1 ac=>xv I _ (by decide) _ N1 _ (λr n2 N2 ah hb Y ai _=>Br.of (λ_=>⟨⟨rfl,rfl⟩,⟨rfl,rfl⟩,⟨rfl,rfl⟩,⟨rfl,rfl⟩,λa N3 O _ N4 U=>?_⟩) λh=>by cases h) λN2 ah Y _=>Br.of (λh=>by cases h) λ_=>?_
 ·have e:=zZ Y;have el:l=32::r:=e;exact args 7 _ (by decide) a n2 r ai hb N4 (by omega) _ λd n' b' N' h hd _ _=>⟨zG,λN5 aa=>hQ _ _ _ _ (by omega) (by rw[el];simp only[F2,nl];exact hd)⟩
 ·cases b with
  | true=>exact Br.of (λ_=>⟨⟨rfl,rfl⟩,⟨rfl,rfl⟩,⟨rfl,rfl⟩,⟨rfl,rfl⟩,⟨rfl,rfl⟩,λa N3 O _=>⟨zG,λN4 U=>bad _ _ _ _ (by omega) I (.inl rfl)⟩⟩) λh=>by cases h
  | false=>
    have Y:=Y.resolve_left (by simp);refine Br.of (λh=>by cases h) λ_=>?_;cases l with
    | nil=>
      have:=I.nil.1 rfl
      exact Br.dec (λ_=>⟨⟨rfl,rfl⟩,⟨rfl,rfl⟩,⟨rfl,rfl⟩,⟨rfl,rfl⟩,⟨rfl,rfl⟩,λa N3 O _=>⟨zG,λN4 U=>bad _ _ _ _ (by omega) I (.inr rfl)⟩⟩) λh=>by omega
    | cons c r=>
      simp only[oN]at Z;have hc:c≠32:=λe=>by rw[e]at Y;have:=Mp 32 [] r;rw[show pre [32] (32::r)=_ from Y]at this;cases this
      have e1:IntKind.i64.wrap (n+1)=n+1:=i64_in _ (by omega);have ex:ByteArray.extract s n.toNat (n+1).toNat=⟨#[c]⟩:=ze (I.ext 1 rfl);refine Br.dec (λh=>by omega) λaj=>?_;rw[e1,ex,nV aj];refine⟨⟨g1,by omega,by omega⟩,λN3 O=>w6 _ N3 _ λN4 U _=>Br.bne (λV=>⟨⟨rfl,rfl⟩,⟨rfl,rfl⟩,⟨rfl,rfl⟩,⟨rfl,rfl⟩,⟨rfl,rfl⟩,λa N5 aa _=>⟨zG,λN6 ak=>bad _ _ _ _ (by omega) I (.inr (by simp only[F2];rw[if_neg hc,if_pos ⟨trivial,V⟩]))⟩⟩) λV=>⟨⟨g1,by omega,by omega⟩,⟨rfl,rfl⟩,⟨rfl,rfl⟩,⟨rfl,rfl⟩,⟨rfl,rfl⟩,λa N5 aa _ N6 ak=>?_⟩⟩;refine args 4 ⟨#[c]⟩ (by show 1<=1000;omega) a (n+1) r (I.app (p:=[c]) rfl rfl) rfl N6 (by omega) _ λd n' b' N' h hd _ _=>⟨zG,λN7 al=>hQ _ _ _ _ (by omega) ?_⟩
      simp only[F2];rw[if_neg hc,if_neg (λh=>h.2 V)];exact hd
end Go.Proofs.YtidiofobanefmaaGreatDoor
set_option maxRecDepth 100000
namespace Go.Proofs.YtidiofobanefmaaGreatDoor
open Go Go.Proofs Go.Proofs.Tryz Go.IntWalk
def Bd (l:Bl):Nat:=l.foldl (λa c=>10*a+(c.toNat - 48)) 0
theorem p5 (l:Bl)(c:UInt8):Bd (l++[c])=10*Bd l+(c.toNat - 48):=by simp[Bd]
theorem Hl {n:Nat}(h:n<10):(UInt8.ofNat (48+n)).toNat - 48=n:=by
 have:n=0\/n=1\/n=2\/n=3\/n=4\/n=5\/n=6\/n=7\/n=8\/n=9:=by omega
 rcases this with rfl | rfl | rfl | rfl | rfl | rfl | rfl | rfl | rfl | rfl<;>decide
theorem Fd:∀ n:Nat,Bd (Lib.decDigits n)=n:=by
 intro n
 induction n using Nat.strongRecOn with
 | _ n I=>
   rw[Lib.decDigits];split
   ·rename_i h;show 10*0+((UInt8.ofNat (48+n)).toNat - 48)=n;rw[Hl h];omega
   ·rw[p5,I _ (by omega),Hl (by omega)];omega
theorem El:∀(k:Nat)(l:Bl),l.length=k->(∀ c∈l,rV c=true)->Bd l<10 ^ k:=by
 intro k
 induction k with
 | zero=>intro l hl _;rw[oV hl];decide
 | succ k J=>
   intro l hl hd;have I:l≠[]:=λe=>by rw[e]at hl;cases hl
   rw[<-List.dropLast_concat_getLast I,p5];have U:=J l.dropLast (by rw[List.length_dropLast];omega) λc hc=>hd c (List.dropLast_subset l hc);have O:=hd _ (List.getLast_mem I);simp only[rV,oc]at O;rw[mX];omega
theorem LI:∀(k n:Nat),1<=k->n<10 ^ k->(Lib.decDigits n).length<=k:=by
 intro k
 induction k with
 | zero=>intro n h;omega
 | succ k I=>
   intro n _ J;rw[Lib.decDigits];split
   ·simp
   ·rename_i h;rw[oH];have O:1<=k:=by
     rcases mG k with e | e
     ·subst e;omega
     ·exact e
    have:=I (n / 10) O (by rw[mX]at J;omega)
    simp only[oN,oa];omega
theorem LJ (n:Nat):1<=(Lib.decDigits n).length:=by obtain⟨b,l,e⟩:=Dc n;rw[e];simp
theorem Dt {w:Bl}(h:w.length<1\/6<w.length):yP w=none:=u4 λn O e=>by have I:=LI 6 n (by omega) (by omega);have J:=LJ n;rw[e]at I J;omega
theorem AS {w:Bl}{c:UInt8}(hc:c∈w)(h:rV c=false):yP w=none:=u4 λn I e=>by
 have:=vQ n c (by rw[e];exact hc)
 rw[h]at this;cases this
theorem K7 (l:List Int):∀ b:ByteArray,(l.foldl (λr n=>r.push (UInt8.ofNat n.toNat)) b).size=b.size+l.length:=by
 induction l with
 | nil=>intro b;simp
 | cons x l I=>intro b;simp only[List.foldl_cons,I,ByteArray.size_push,oN];omega
theorem HT (l:List Int):(bytesOf l).size=l.length:=by unfold bytesOf;rw[K7];simp
theorem Nq (n:Int)(h:n.natAbs<10000000000)(N:Nat)(Q:QT [.str])(J:∀ s N',N<=N'->Q s N'):ACalls prog 54 [.str] [.j n] N Q:=by
 refine vl N n Q (Br.beq (λ_ N1 I=>J _ _ I) λ_=>?_);have key:∀(m:Nat) (x:Int) (s:ByteArray),x.natAbs<10 ^ m->m+s.size<=10->∀ b,zN Q N x b s N:=by
  intro m
  induction m with
  | zero=>intro x s O hs b;exact xS (Br.bne (λh=>by omega) λ_=>Br.of (λ_=>⟨by omega,λN1 I=>J _ _ I⟩) λ_ N1 I=>J _ _ I)
  | succ m V=>
    intro x s O hs b;have hb:x.natAbs<10000000000:=oq O (by rw[show(10000000000:Nat)=10 ^ 10 from rfl];exact mN (by omega) (by omega));have Y:(Int.tdiv x 10).natAbs=x.natAbs / 10:=Int.natAbs_tdiv x 10;have hd:IntKind.i64.wrap (Int.tdiv x 10)=Int.tdiv x 10:=i64_in _ (by omega);have U:∀ es:List Int,es.length=1->zN Q N (IntKind.i64.wrap (Int.tdiv x 10)) b (bytesOf es++s) N:=λes Z=>by
     rw[hd];refine V _ _ ?_ ?_ b
     ·rw[Y];rw[mX]at O;omega
     ·rw[oD,HT];omega
    have sz:∀ es:List Int,es.length=1->(bytesOf es).size+s.size<=9223372036854775807:=λes Z=>by rw[HT];omega
    exact xS (Br.bne (λ_=>⟨by decide,Br.of (λ_=>⟨by simp,[_],rfl,sz _ rfl,by decide,U _ rfl⟩) λ_=>⟨by simp,[_],rfl,sz _ rfl,by decide,U _ rfl⟩⟩) λ_=>Br.of (λ_=>⟨by omega,λN1 I=>J _ _ I⟩) λ_ N1 I=>J _ _ I)
 exact key 10 n _ (by simpa using h) (by decide)  _
theorem Ns (w:ByteArray)(hw:w.size<=1073741824)(N:Nat)(Q:QT [.i,.bool])(h1:∀(m:Nat) N',N<=N'->yP (bl w)=some m->Q (m:Int) true N')(h0:∀ N',N<=N'->yP (bl w)=none->Q 0 false N'):ACalls prog 103 [.i,.bool] [.str w] N Q:=by
 refine rP N w Q λN1 aq=>?_;have aj:(bl w).length=w.size:=xN w;have Y:yP (bl w)=none->∀(n:Int) I,N1<=I->Br (!false) (∀ N3,I<=N3->Q 0 false N3) (Br (decide (n<0)) (∀ J,I<=J->Q 0 false J) (∀ O,I<=O->Q n true O)):=λhn n I ab=>Br.of (λ_ N3 V=>h0 _ (by omega) hn) λh=>by cases h
 have ah:∀(n:Int) I,N1<=I->(n<0/\yP (bl w)=none\/∃ m:Nat,n=m/\yP (bl w)=some m)->Br (!true) (∀ N3,I<=N3->Q 0 false N3) (Br (decide (n<0)) (∀ J,I<=J->Q 0 false J) (∀ O,I<=O->Q n true O)):=λn I ab h=>Br.of (λh=>by cases h) λ_=>Br.dec (λhn J ac=>h0 _ (by omega) (h.elim And.right λ⟨m,e,_⟩=>by omega)) λhn O Z=>by
  rcases h with⟨h,_⟩ | ⟨m,rfl,h⟩
  ·omega
  ·exact h1 m _ (by omega) h
 have key:∀(b6:Bool) (t:ByteArray),t.size<=6->(b6=true->∃ r,bl w=45::r)->(b6=false->t=w)->∀(rest p:Bl),bl t=p++rest->(∀ c∈p,rV c=true)->zi (λn b I=>N1<=I->Br (!b) (∀ N3,I<=N3->Q 0 false N3) (Br (decide (n<0)) (∀ J,I<=J->Q 0 false J) (∀ O,I<=O->Q n true O))) N1 w b6 t (Bd p:Int) (p.length:Int) N1:=λb6 t ht hb hf=>by
  have ai:(bl t).length=t.size:=xN t;have neg:b6=true->yP (bl w)=none:=λh=>by obtain⟨r,e⟩:=hb h;exact AS (c:=45) (by rw[e];simp) (by decide)
  intro rest
  induction rest with
  | nil=>
    intro p hp hd;rw[nh]at hp;have ak:p.length=t.size:=by rw[<-ai,hp]
    have hv:=El 6 (List.replicate (6 - p.length) 48++p) (by simp;omega) (λc hc=>by
     rcases oO.1 hc with hc | hc
     ·rw[nH hc];decide
     ·exact hd c hc)
    have al:Bd p<10 ^ 6:=oq (El p.length p rfl hd) (mN (by omega) (by omega));have e0:IntKind.i64.wrap (0 - (Bd p:Int))=0 - (Bd p:Int):=i64_in _ (by omega);refine uM (Br.dec (λh=>by omega) λ_=>Br.of (λU N3 V=>?_) λU N3 V=>?_)
    ·rw[e0];rcases mG (Bd p)with hz | hz
     ·rw[hz];exact x9 0 (by omega) N3 _ λJ ac _=>Br.nstr (λ_ O Z _=>Y (neg U) _ _ (by omega)) λhe=>by exfalso;obtain⟨r,e⟩:=hb U;have:bl (JW 0)=45::r:=(oT bl he).trans e;have h2:=vQ 0 45 (by show 45∈bl (JW 0);rw[this];simp);revert h2;decide
     ·exact Nq _ (by omega) N3 _ λz J ac _=>Br.of (λ_ O Z _=>Y (neg U) _ _ (by omega)) λ_ O Z _=>ah _ _ (by omega) (.inl ⟨by omega,neg U⟩)
    ·obtain rfl:=hf U;refine x9 (Bd p) (by omega) N3 _ λJ ac _=>Br.nstr (λao O Z _=>Y (u4 λn hn e=>ao ?_) _ _ (by omega)) λhe O Z _=>ah _ _ (by omega) (.inr ⟨Bd p,rfl,?_⟩)
     ·have:Bd p=n:=by rw[<-hp];exact(oT Bd e.symm).trans (Fd n)
      rw[this];exact ze e
     ·have:Lib.decDigits (Bd p)=bl t:=oT bl he;rw[<-this];exact AR (by omega)
  | cons c rest ih=>
    intro p hp hd;have ak:p.length+(rest.length+1)=t.size:=by rw[<-ai,hp,oH,oN]
    have ae:Atl t p.length (c::rest):=Atl.app (n:=0) ⟨by omega,by omega,by omega,rfl⟩ (p:=p) (by show bl t=_;rw[hp]) (by omega);have hg:=ae.get;have bd:0<=(p.length:Int)/\(p.length:Int)<(t.size:Int):=⟨by omega,by omega⟩
    have no:rV c=false->∀(N3:Nat),N1<=N3->Br (!false) (∀ J,N3<=J->Q 0 false J) (Br (decide ((0:Int)<0)) (∀ J,N3<=J->Q 0 false J) (∀ O,N3<=O->Q 0 true O)):=λhc N3 V=>Y (by
     cases U:b6 with
     | true=>exact neg U
     | false=>obtain rfl:=hf U;exact AS (c:=c) (by rw[hp];simp) hc) _ _ V
    refine uM (Br.dec (λ_=>?_) λh=>by omega);rw[hg];refine⟨bd,Br.dec (λh N3 V _=>no (by simp only[rV,nR];omega) _ V) λg1=>⟨bd,Br.dec (λh N3 V _=>no (by simp only[rV,nR];omega) _ V) λg2=>⟨bd,?_⟩⟩⟩;have al:Bd p<10 ^ 6:=oq (El p.length p rfl hd) (mN (by omega) (by omega));have e3:IntKind.u8.wrap ((c.toNat:Int) - 48)=(c.toNat:Int) - 48:=u8_in _ (by omega);rw[e3,i64_in (10*(Bd p:Int)) (by omega),i64_in ((c.toNat:Int) - 48) (by omega),i64_in (10*(Bd p:Int)+((c.toNat:Int) - 48)) (by omega),i64_in ((p.length:Int)+1) (by omega)]
    have:=ih (p++[c]) (by rw[hp,oM];rfl) λx hx=>by
     rcases oO.1 hx with hx | hx
     ·exact hd x hx
     ·rw[nM.1 hx];simp only[rV,oc];omega
    rw[p5,oH]at this;have e4:((10*Bd p+(c.toNat - 48):Nat):Int)=10*(Bd p:Int)+((c.toNat:Int) - 48):=by omega
    rw[e4]at this;exact this
 have cut:∀ b6:Bool,∀ t:ByteArray,(b6=true->∃ r,bl w=45::r)->(b6=false->t=w)->Br (decide ((t.size:Int)<1)) (∀ I,N1<=I->N1<=I->Br (!false) (∀ N3,I<=N3->Q 0 false N3) (Br (decide ((0:Int)<0)) (∀ J,I<=J->Q 0 false J) (∀ O,I<=O->Q 0 true O))) (Br (decide ((t.size:Int)>6)) (∀ I,N1<=I->N1<=I->Br (!false) (∀ N3,I<=N3->Q 0 false N3) (Br (decide ((0:Int)<0)) (∀ J,I<=J->Q 0 false J) (∀ O,I<=O->Q 0 true O))) (zi (λn b I=>N1<=I->Br (!b) (∀ N3,I<=N3->Q 0 false N3) (Br (decide (n<0)) (∀ J,I<=J->Q 0 false J) (∀ O,I<=O->Q n true O))) N1 w b6 t 0 0 N1)):=λb6 t hb hf=>by
  have sh:t.size<1\/6<t.size->yP (bl w)=none:=λh=>by
   cases U:b6 with
   | true=>obtain⟨r,e⟩:=hb U;exact AS (c:=45) (by rw[e];simp) (by decide)
   | false=>obtain rfl:=hf U;exact Dt (by rw[xN];exact h)
  exact Br.dec (λh I ab _=>Y (sh (by omega)) 0 _ (by omega)) λh1=>Br.dec (λh I ab _=>Y (sh (by omega)) 0 _ (by omega)) λh=>key b6 t (by omega) hb hf (bl t) [] rfl (by simp)
 refine C6 N1 w 6 _ (Br.dec (λh=>⟨⟨by omega,by omega⟩,Br.beq (λaa=>⟨⟨by omega,by omega,by omega⟩,?_⟩) λaa=>?_⟩) λh=>cut _ _ (by simp) (by simp))
 ·rw[show(((w.data.getD 0 (OfNat.ofNat 0)).toNat:Int)==45)=true from by simpa using aa];refine cut _ _ (λ_=>?_) (by simp);cases e:bl w with
  | nil=>rw[<-aj,e]at h;simp at h
  | cons c r=>
    have ae:Atl w 0 (c::r):=⟨hw,by omega,by omega,e⟩
    have hg:=ae.get;rw[show(0:Int).toNat=0 from rfl]at hg;rw[hg]at aa;refine⟨r,?_⟩;have:c=45:=UInt8.toNat_inj.1 (by show c.toNat=45;omega);rw[this]
 ·rw[show(((w.data.getD 0 (OfNat.ofNat 0)).toNat:Int)==45)=false from by simpa using aa];exact cut _ _ (by simp) (by simp)
end Go.Proofs.YtidiofobanefmaaGreatDoor
set_option maxRecDepth 100000
namespace Go.Proofs.YtidiofobanefmaaGreatDoor
open Go Go.Proofs Go.Proofs.Tryz Go.IntWalk
structure Ms (s:ByteArray) (b:Bool) (t l:Bl) (n':Int) (b':Bool) (l':Bl):Prop where
 at_:Atl s n' l'
 ok:b'=false->b=false/\pre t l=some l'
 no:b'=true->b=true\/pre t l=none
theorem MD {s:ByteArray} {n:Int} {l:Bl} (O:Atl s n l) (t:ByteArray) (V:t.size<=100) (b:Bool) (N:Nat) (Q:QT [.str,.i,.bool])
  (U:∀ l' n' b' N',N<=N'->Ms s b (bl t) l n' b' l'->Q s n' b' N'):BCalls prog 64 [.str,.i,.bool] [.pb 0 0 0 0,.str t] [.var [.str s,.j n,.bool b]] N Q:=
 ww O t V b N Q (λr n' N' h hb I J=>U r n' false N' h ⟨J,λ_=>⟨hb,I⟩,by simp⟩) λN' h I=>U l n true N' h ⟨O,by simp,λ_=>I⟩
structure Ts (s:ByteArray) (b:Bool) (l:Bl) (d:D) (n':Int) (b':Bool) (t:Ty) (l':Bl):Prop where
 at_:Atl s n' l'
 ok:b'=false->b=false/\wO 8 l=some (t,l')/\t.Is d
 no:b'=true->b=true\/wO 8 l=none
theorem Nu {s:ByteArray} {n:Int} {l:Bl} (U:Atl s n l) (b:Bool) (N:Nat) (Q:QT [.ag 2,.str,.i,.bool])
  (O:∀ t l' d n' b' N',N<=N'->Ts s b l d n' b' t l'->Q d s n' b' N'):BCalls prog 99 [.ag 2,.str,.i,.bool] [.pb 0 0 0 0,.j 1] [.var [.str s,.j n,.bool b]] N Q:=
 Mt 8 (by omega) 1 (by omega) U b N Q λd n' b' N' h hd=>by
  cases hd with
  | @ok t r _ _ hb J hd I=>exact O t r d n' false N' h ⟨I,λ_=>⟨hb,J,hd⟩,by simp⟩
  | no J I=>exact O tZero _ d n' true N' h ⟨I,by simp,λ_=>J⟩
theorem IL {dep:Int} (x:D) (n2:Nat) (J:1<=n2/\n2<=3) {s:ByteArray} {n:Int} {l:Bl} (O:Atl s n l) (N:Nat) (Q:QT [.ag 9,.str,.i,.bool])
  (U:∀ d N',N<=N'->Q d s n true N'):BCalls prog 100 [.ag 9,.str,.i,.bool] [.pb 0 0 0 0,.dg 9 x,.j (n2:Int),.j dep] [.var [.str s,.j n,.bool true]] N Q:=by
 refine vo N _ n2 dep s n true Q λE _=>?_;refine uU _ _ _ _ _ _ _ _ _ _ _ _ _ _ _ _ _ _ _ _ _ _ _ _ _ _ (Br.dec (λ_=>Br.of (λh=>by simp at h) λ_ N1 V=>?_) λh=>by omega);exact ww O _ (by decide) _ N1 _ (λr n' Y I h=>by cases h) λY I hp _=>⟨zG,λN3 Z=>U _ _ (by omega)⟩
theorem IM {dep:Int} {T:Bl->Option (Tm × Bl)} (O:DR dep T) {k:Int} {nm ot:Bl} {ty re:Ty} {x y:D} (Y:(⟨nm.toArray⟩:ByteArray).size<=1073741824) (Z:(⟨ot.toArray⟩:ByteArray).size<=1073741824)
  {s:ByteArray} {n:Int} {l:Bl} (I:Atl s n l) (b:Bool) (U:b=false->ty.Is x) (V:b=false->re.Is y) (N:Nat) (Q:QT [.ag 9,.str,.i,.bool])
  (J:∀ d n' b' N',N<=N'->Rd Tm.Is s b (mkF k nm ot ty re (yy T [] [41] 1 true l)) d n' b'->Q d s n' b' N'):BCalls prog 100 [.ag 9,.str,.i,.bool] [.pb 0 0 0 0,.dg 9 (.ag [.j k,.t (⟨nm.toArray⟩),.t (⟨ot.toArray⟩),.j 0,x.cell 0,x.cell 1,y.cell 0,y.cell 1,.sl none 9 [] 0]),.j 1,.j dep] [.var [.str s,.j n,.bool b]] N Q:=by
 cases b with
 | true=>exact IL _ 1 ⟨by omega,by omega⟩ I N Q λd N' h=>J _ _ _ _ h (.no (.inl rfl) I)
 | false=>exact IK O (k:=k) (m:=0) (nm:=⟨nm.toArray⟩) (ot:=⟨ot.toArray⟩) (ty:=ty) (re:=re) ⟨by omega,by omega,Ty.is_cells (U rfl),Ty.is_cells (V rfl)⟩ (l0:=[]) rfl (by simp) (a0:=none) (c0:=0) (λ_=>trivial) 1 ⟨by omega,by omega⟩ I false N Q λd n' b' N' h hd=>J d n' b' N' h hd.form
theorem Nt {dep:Int} {T:Bl->Option (Tm × Bl)} (hT:DR dep T) {s:ByteArray} {n:Int} {l:Bl} (hr:Atl s n l) (N:Nat) (Q:QT [.ag 9,.str,.i,.bool])
  (hQ:∀ d n' b' N',N<=N'->Rd Tm.Is s false (Ck T l) d n' b'->Q d s n' b' N'):BCalls prog 101 [.ag 9,.str,.i,.bool] [.pb 0 0 0 0,.j dep] [.var [.str s,.j n,.bool false]] N Q:=by
 refine A3 N dep s n false Q λE N1 bc=>Bw hr _ N1 _ λn2 N2 bg ai _ N3 bh=>MD ai _ (by decide) _ N3 _ λl4 n4 b4 N4 bi m4 _ N5 bj=>Bw m4.at_ _ N5 _ λn6 N6 bm aj _ N7 bp=>MD aj _ (by decide) _ N7 _ λl8 n8 b8 N8 bq m8 _ N9 bt=>?_;refine Nu m8.at_ _ N9 _ λty l10 d bv ae bw ax J _ _ ak ay=>MD J.at_ _ (by decide) _ ak _ λal bz aa b3 az Y _ ao a1=>?_;refine Nu Y.at_ _ ao _ λre ah e b7 ab b9 a6 O _ _ aq a7=>MD O.at_ _ (by decide) _ aq _ λau ca ac cc a8 m16 _ aw ba=>?_;have I:ac=false->ab=false:=λh=>(m16.ok h).1;have U:ab=false->aa=false:=λh=>(O.ok h).1;have Z:aa=false->ae=false:=λh=>(Y.ok h).1;refine IM hT (ty:=ty) (re:=re) (wa hr) (wa m4.at_) m16.at_ ac (λh=>(J.ok (Z (U (I h)))).2.2) (λh=>(O.ok (I h)).2.2) aw _ λx n' b' N' h hx _ _=>⟨zG,λcd bb=>hQ _ _ _ _ (by omega) ?_⟩
 have e:Ck T l=(pre [32] (word l).2).bind λm=>(pre [58] (word m).2).bind λr=>(wO 8 r).bind λt=>(pre [62] t.2).bind λr=>(wO 8 r).bind λu=>(pre [46] u.2).bind λr=>mkF 9 (word l).1 (word m).1 t.1 u.1 (yy T [] [41] 1 true r):=rfl;rw[e];cases b4 with
 | true=>
   rw[show pre [32] (word l).2=none from(m4.no rfl).resolve_left (by simp)];cases hx with
   | ok hb=>exact absurd ((m8.ok ((J.ok (Z (U (I hb)))).1)).1) (by simp)
   | no _ V=>exact .no (.inr rfl) V
 | false=>
 rw[show pre [32] (word l).2=some l4 from(m4.ok rfl).2,oI];cases b8 with
 | true=>
   rw[show pre [58] (word l4).2=none from(m8.no rfl).resolve_left (by simp)];cases hx with
   | ok hb=>exact absurd ((J.ok (Z (U (I hb)))).1) (by simp)
   | no _ V=>exact .no (.inr rfl) V
 | false=>
 rw[show pre [58] (word l4).2=some l8 from(m8.ok rfl).2,oI];cases ae with
 | true=>
   rw[(J.no rfl).resolve_left (by simp)];cases hx with
   | ok hb=>exact absurd (Z (U (I hb))) (by simp)
   | no _ V=>exact .no (.inr rfl) V
 | false=>
 rw[(J.ok rfl).2.1,oI];cases aa with
 | true=>
   rw[show pre [62] (ty,l10).2=none from(Y.no rfl).resolve_left (by simp)];cases hx with
   | ok hb=>exact absurd (U (I hb)) (by simp)
   | no _ V=>exact .no (.inr rfl) V
 | false=>
 rw[show pre [62] (ty,l10).2=some al from(Y.ok rfl).2,oI];cases ab with
 | true=>
   rw[(O.no rfl).resolve_left (by simp)];cases hx with
   | ok hb=>exact absurd (I hb) (by simp)
   | no _ V=>exact .no (.inr rfl) V
 | false=>
 rw[(O.ok rfl).2.1,oI];cases ac with
 | true=>
   rw[show pre [46] (re,ah).2=none from(m16.no rfl).resolve_left (by simp)];cases hx with
   | ok hb=>cases hb
   | no _ V=>exact .no (.inr rfl) V
 | false=>
 rw[show pre [46] (re,ah).2=some au from(m16.ok rfl).2,oI];exact hx
theorem Nr {dep:Int} {T:Bl->Option (Tm × Bl)} (hT:DR dep T) {s:ByteArray} {n:Int} {l:Bl} (hr:Atl s n l) (E:Env) (N:Nat) (Q:QT [.ag 9,.str,.i,.bool])
  (hQ:∀ d n' b' N',N<=N'->Rd Tm.Is s false (FA T l) d n' b'->Q d s n' b' N'):BCalls prog 67 [.str,.str,.i,.bool] [.pb 0 0 0 0] [.var [.str s,.j n,.bool false]] N (λac ae ah ai N4=>N<=N4->∀ U,N4<=U->BCalls prog 64 [.str,.i,.bool] [.pb 0 0 0 0,.str (bytes [58])] [.var [.str ae,.j ah,.bool ai]] U (λaj ak al N6=>U<=N6->∀ V,N6<=V->BCalls prog 99 [.ag 2,.str,.i,.bool] [.pb 0 0 0 0,.j 1] [.var [.str aj,.j ak,.bool al]] V (λx ao aq au N8=>V<=N8->Bel N8 x->∀ Y,N8<=Y->BCalls prog 64 [.str,.i,.bool] [.pb 0 0 0 0,.str (bytes [46])] [.var [.str ao,.j aq,.bool au]] Y (λaw ax ay Z=>Y<=Z->∀ I,Z<=I->BCalls prog 100 [.ag 9,.str,.i,.bool] [.pb 0 0 0 0,.dg 9 (.ag [.j 6,.t ac,.t (bytes []),.j 0,x.cell 0,x.cell 1,.j 0,.sl none 2 [] 0,.sl none 9 [] 0]),.j 1,.j dep] [.var [.str aw,.j ax,.bool ay]] I (λaa az a1 a6 J=>I<=J->Bel J aa->zC E [.var [.str (bytes []),.j 0,.bool false]]/\∀ ab,J<=ab->Q aa az a1 a6 ab))))):=by
 refine Bw hr _ N _ λn2 N2 ba a7 _ N3 bb=>MD a7 _ (by decide) _ N3 _ λl4 n4 b4 N4 bc m4 _ U bg=>Nu m4.at_ _ U _ λty l6 d n6 b6 N6 bh m6 _ _ V bi=>MD m6.at_ _ (by decide) _ V _ λl8 n8 b8 N8 bj O _ Y bm=>?_;refine IM hT (k:=6) (ot:=[]) (ty:=ty) (re:=tZero) (y:=.ag [.j 0,.sl none 2 [] 0]) (wa hr) (by decide) O.at_ b8 (λh=>(m6.ok (O.ok h).1).2.2) (λ_=>vG 0) Y _ λx n' b' N' h hx _ _=>⟨zG,λbp a8=>hQ _ _ _ _ (by omega) ?_⟩
 have e:FA T l=(pre [58] (word l).2).bind λr=>(wO 8 r).bind λt=>(pre [46] t.2).bind λr=>mkF 6 (word l).1 [] t.1 tZero (yy T [] [41] 1 true r):=rfl;rw[e];cases b4 with
 | true=>
   rw[show pre [58] (word l).2=none from(m4.no rfl).resolve_left (by simp)];cases hx with
   | ok hb=>exact absurd ((m6.ok (O.ok hb).1).1) (by simp)
   | no _ ha=>exact .no (.inr rfl) ha
 | false=>
 rw[show pre [58] (word l).2=some l4 from(m4.ok rfl).2,oI];cases b6 with
 | true=>
   rw[(m6.no rfl).resolve_left (by simp)];cases hx with
   | ok hb=>exact absurd ((O.ok hb).1) (by simp)
   | no _ ha=>exact .no (.inr rfl) ha
 | false=>
 rw[(m6.ok rfl).2.1,oI];cases b8 with
 | true=>
   rw[show pre [46] (ty,l6).2=none from(O.no rfl).resolve_left (by simp)];cases hx with
   | ok hb=>cases hb
   | no _ ha=>exact .no (.inr rfl) ha
 | false=>
 rw[show pre [46] (ty,l6).2=some l8 from(O.ok rfl).2,oI];exact hx
theorem J5 {s:ByteArray} {n:Int} {l:Bl} (hr:Atl s n l) (N:Nat) (Q:QT [.ag 9,.str,.i,.bool])
  (hQ:∀ d n' b' N',N<=N'->Rd Tm.Is s false ((yP (word l).1).map λn=>(KI n,(word l).2)) d n' b'->Q d s n' b' N'):BCalls prog 66 [.ag 9,.str,.i,.bool] [.pb 0 0 0 0] [.var [.str s,.j n,.bool false]] N Q:=by
 refine rT N s n false Q λE N1 aa=>Bw hr _ N1 _ λn2 N2 ab I _ N3 ac=>Ns _ (wa hr) N3 _ (λm N4 J O _=>Br.of (λh=>by cases h) λ_ U V=>qg U m _ λN6 Y _ _=>⟨zG,λN7 Z=>hQ _ _ _ _ (by omega) (.ok rfl (t:=KI m) (r:=(word l).2) ?_ (uW 2 m (by decide)) I)⟩) λN4 J O _=>Br.of (λh=>by cases h) λ_ U V=>qg U 0 _ λN6 Y _ _=>⟨zG,λN7 Z=>hQ _ _ _ _ (by omega) (.no (.inr ?_) I)⟩
 ·rw[show yP (word l).1=some m from O];rfl
 ·rw[show yP (word l).1=none from O];rfl
end Go.Proofs.YtidiofobanefmaaGreatDoor
set_option maxRecDepth 100000
namespace Go.Proofs.YtidiofobanefmaaGreatDoor
open Go Go.Proofs Go.Proofs.Tryz Go.IntWalk
theorem Mq {dep:Int} {T:Bl->Option (Tm × Bl)} (hT:DR dep T) {s:ByteArray} {n:Int} {l:Bl} (Y:Atl s n l) (N:Nat) (Q:QT [.ag 9,.str,.i,.bool])
  (hQ:∀ d n' b' N',N<=N'->Rd Tm.Is s false (v6 true T l) d n' b'->Q d s n' b' N'):BCalls prog 65 [.ag 9,.str,.i,.bool] [.pb 0 0 0 0,.j dep] [.var [.str s,.j n,.bool false]] N Q:=by
 refine pJ N dep s n false Q λE N1 bt=>?_;have fin:∀ {m:Option (Tm × Bl)},v6 true T l=m->∀ N1,N<=N1->∀ d n' b' N',N1<=N'->Rd Tm.Is s false m d n' b'->N1<=N'->Bel N' d->zC E [.var [.str (bytes []),.j 0,.bool false]]/\∀ N3,N'<=N3->Q d s n' b' N3:=λ{m} hm N1 h1 d n' b' N' h J _ _=>⟨zG,λN3 h3=>hQ _ _ _ _ (by omega) (by rw[hm];exact J)⟩
 have form:∀ {p r:Bl} {k:Int} {nm:Bl} {n2:Nat} {n':Int},pre p l=some r->Atl s n' r->(∀ r,v6 true T (p++r)=mkF k nm [] tZero tZero (yy T [32] [41] n2 true r))->(⟨nm.toArray⟩:ByteArray).size<=1000->1<=n2/\n2<=3->∀ N1,N<=N1->BCalls prog 100 [.ag 9,.str,.i,.bool] [.pb 0 0 0 0,.dg 9 (.ag [.j k,.t (⟨nm.toArray⟩),.t (bytes []),.j 0,.j 0,.sl none 2 [] 0,.j 0,.sl none 2 [] 0,.sl none 9 [] 0]),.j (n2:Int),.j dep] [.var [.str s,.j n',.bool false]] N1 (λd s n b N2=>N1<=N2->Bel N2 d->zC E [.var [.str (bytes []),.j 0,.bool false]]/\∀ N3,N2<=N3->Q d s n b N3):=λ{p r k nm n2 n'} I a8 hi hs hn N1 h1=>Km hT k (by omega) n2 hn a8 false N1 _ λd ba b' N' h J=>fin (by rw[zZ I];exact hi r) N1 h1 d ba b' N' h J;refine xv Y _ (by decide) _ N1 _ (λr n2 N2 bb _ I bc _=>Br.of (λ_ N3 bg=>?_) λh=>by cases h) λN2 bb h1 _=>Br.of (λh=>by cases h) λ_ N3 bg=>?_
 ·exact Nr hT bc E N3 _ λd n' b' N' h J=>hQ _ _ _ _ (by omega) (by rw[zZ I];exact(Fx true T r) ▸ J)
 refine xv Y _ (by decide) _ N3 _ (λr n4 N4 bh _ I aj _=>Br.of (λ_ N5 bi=>?_) λh=>by cases h) λN4 bh h2 _=>Br.of (λh=>by cases h) λ_ N5 bi=>?_
 ·refine Bw aj _ N5 _ λn6 N6 ak O _ N7 al=>ww O _ (by decide) _ N7 _ (λr8 n8 N8 aa _ hq ab _ Z ac=>?_) λN8 aa hq _ Z ac=>?_
  ·exact Km hT 8 (by have:=wa aj;omega) 2 ⟨by omega,by omega⟩ ab false Z _ λd n' b' N' h J=>fin (by rw[zZ I];exact(Ch true T r).trans (by unfold Cj;rw[show pre [61] (word r).2=some r8 from hq];rfl)) Z (by omega) d n' b' N' h J
  ·exact IL _ 2 ⟨by omega,by omega⟩ O Z _ λd N' h _ _=>⟨zG,λao bv=>hQ _ _ _ _ (by omega) (.no (.inr (by rw[zZ I];exact(Ch true T r).trans (by unfold Cj;rw[show pre [61] (word r).2=none from hq.resolve_left (by simp)];rfl))) O)⟩
 refine xv Y _ (by decide) _ N5 _ (λr n6 N6 ak _ I O _=>Br.of (λ_ N7 al=>?_) λh=>by cases h) λN6 ak h3 _=>Br.of (λh=>by cases h) λ_ N7 al=>?_
 ·exact Nt hT O N7 _ λd n' b' N' h J=>fin (by rw[zZ I];exact F0 true T r) N7 (by omega) d n' b' N' h J
 refine xv Y _ (by decide) _ N7 _ (λr n8 N8 aa _ I ab _=>Br.of (λ_ Z ac=>?_) λh=>by cases h) λN8 aa h4 _=>Br.of (λh=>by cases h) λ_ Z ac=>?_
 ·exact form (nm:=[]) (n2:=3) I ab (qIo true T) (by decide) ⟨by omega,by omega⟩ Z (by omega)
 refine xv Y _ (by decide) _ Z _ (λr bw ao aq _ I au _=>Br.of (λ_ ae aw=>?_) λh=>by cases h) λao aq h5 _=>Br.of (λh=>by cases h) λ_ ae aw=>?_
 ·exact form (nm:=[]) (n2:=1) I au (F1 true T) (by decide) ⟨by omega,by omega⟩ ae (by omega)
 refine xv Y _ (by decide) _ ae _ (λr bz bj ax _ I ay _=>Br.of (λ_ ah az=>?_) λh=>by cases h) λbj ax h6 _=>Br.of (λh=>by cases h) λ_ ah az=>?_
 ·exact form (nm:=[]) (n2:=1) I ay (Dz true T) (by decide) ⟨by omega,by omega⟩ ah (by omega)
 refine xv Y _ (by decide) _ ah _ (λr b3 bm a1 _ I a6 _=>Br.of (λ_ ai a7=>?_) λh=>by cases h) λbm a1 h7 _=>Br.of (λh=>by cases h) λ_ ai a7=>?_
 ·exact form (nm:=[33]) (n2:=1) I a6 (Fy true T) (by decide) ⟨by omega,by omega⟩ ai (by omega)
 have hf:Fst l:=⟨h7.resolve_left (by simp),h4.resolve_left (by simp),h5.resolve_left (by simp),h6.resolve_left (by simp),h2.resolve_left (by simp),h1.resolve_left (by simp),h3.resolve_left (by simp)⟩
 refine hT s n l false ai _ Y λx b7 b8 b9 bp J _ _ V bq=>?_;cases J with
 | @ok t r _ _ _ hm J U=>exact Kn hT U false (λ_=>J) V _ λd n' b' N' h hd=>fin (by rw[Ci true T l hf];unfold IP;rw[hm,oI]) V (by omega) d n' b' N' h hd
 | no hm U=>
   refine Kn hT (t:=tBl 0) U true (by simp) V _ λd n' b' N' h hd=>fin rfl V (by omega) d n' b' N' h ?_;have hm:=hm.resolve_left (by simp);cases hd with
   | ok h=>cases h
   | no _ ha=>exact .no (.inr (by rw[Ci true T l hf];unfold IP;rw[hm];rfl)) ha
theorem GH {k:Int}{t:Tm}{x:D}(h:t.Is x)(a:Option Addr):(Tm.mk k (bytes []) (bytes []) 0 tZero tZero [t]).Is (.ag [.j k,.t (bytes []),.t (bytes []),.j 0,.j 0,.sl none 2 [] 0,.j 0,.sl none 2 [] 0,.sl a 9 [x] 1]):=
 Tm.is_mk.2 ⟨_,_,_,_,_,_,_,rfl,hdz (by decide) (by decide),by simp,FV h⟩
theorem Mr:∀(j:Nat),j<=20->∀ n1:Int,n1+j=21->DR n1 (xz true j):=by
 intro j
 induction j with
 | zero=>intro _ n1 bm s n l b N Q V hQ;exact vp N n1 s n b Q λE=>Br.of (λhb=>⟨zG,λN1 Y=>hQ _ _ _ _ Y (by rw[hb];exact .no (.inl rfl) V)⟩) λ_=>Br.dec (λh=>⟨zG,λN1 Y=>hQ _ _ _ _ Y (by first | (rw[nU h];exact .no (.inr rfl) V) | exact .no (.inr rfl) V)⟩) λh=>by omega
 | succ j ih=>
   intro hj n1 bm s n l b N Q V hQ;have e1:IntKind.i64.wrap (n1+1)=n1+1:=i64_in _ (by omega);have hT:=ih (by omega) (n1+1) (by omega);have aw:=V.len;refine vp N n1 s n b Q λE=>Br.of (λhb=>⟨zG,λN1 Y=>hQ _ _ _ _ Y (by rw[hb];exact .no (.inl rfl) V)⟩) λhb=>Br.dec (λ_=>by omega) λhd=>Br.dec (λbp=>⟨zG,λN1 Y=>hQ _ _ _ _ Y ?_⟩) λbq N1 Y=>?_
   ·have:l=[]:=oV (by omega);subst this
    first | (rw[nU bp];exact .no (.inr (by simp[xz,pre,EV])) V) | exact .no (.inr (by simp[xz,pre,EV])) V
   subst hb;rw[e1]
   try rw[nV bq]
   have one:∀(T:Bl->Option (Tm × Bl)) (e l:Bl) (k:Int),mkF k [] [] tZero tZero (yy T [] e 1 true l)=(T l).bind λx=>(pre e x.2).map λr=>(.mk k (bytes []) (bytes []) 0 tZero tZero [x.1],r):=λT e l k=>by
    rw[MN];unfold mkF;cases T l with
    | none=>rfl
    | some x=>simp only[oI];cases pre e x.2<;>rfl
   refine xv V _ (by decide) _ N1 _ (λr n2 N2 bt _ hp U _=>Br.of (λ_ N3 bv=>rR N3 1 _ λN4 ax _ _=>⟨zG,λN5 ay=>hQ _ _ _ _ (by omega) ?_⟩) λh=>by cases h) λN2 bt h1 _=>Br.of (λh=>by cases h) λ_ N3 bv=>?_
   ·exact .ok rfl (t:=tBl 1) (by rw[zZ hp];exact OS true r j) (uW 3 1 (by decide)) U
   refine xv V _ (by decide) _ N3 _ (λr n2 N4 ax _ hp U _=>Br.of (λ_ N5 ay=>rR N5 0 _ λN6 az _ _=>⟨zG,λN7 a1=>hQ _ _ _ _ (by omega) ?_⟩) λh=>by cases h) λN4 ax h2 _=>Br.of (λh=>by cases h) λ_ N5 ay=>?_
   ·exact .ok rfl (t:=tBl 0) (by rw[zZ hp];exact OR true r j) (uW 3 0 (by decide)) U
   refine xv V _ (by decide) _ N5 _ (λr n2 N6 az _ hp U _=>Br.of (λ_ N7 a1=>?_) λh=>by cases h) λN6 az h3 _=>Br.of (λh=>by cases h) λ_ N7 a1=>?_
   ·have em:xz true (j+1) l=(xz true j r).bind λx=>(pre [] x.2).map λr=>(.mk 11 (bytes []) (bytes []) 0 tZero tZero [x.1],r):=by rw[zZ hp];exact(Ku true r j).trans (one _ _ _ _)
    refine hT s n2 r false N7 _ U λx n8 b8 N8 a6 hx _ _=>⟨⟨rfl,rfl⟩,⟨rfl,rfl⟩,⟨rfl,rfl⟩,λa N9 a7 _=>⟨zG,λaj ae=>hQ _ _ _ _ (by omega) ?_⟩⟩
    cases hx with
    | ok _ hm hx al=>exact .ok rfl (by rw[em,hm];rfl) (GH hx a) al
    | no hm al=>exact .no (.inr (by rw[em,hm.resolve_left (by simp)];rfl)) al
   refine xv V _ (by decide) _ N7 _ (λr n2 N8 a6 _ hp U _=>Br.of (λ_ N9 a7=>?_) λh=>by cases h) λN8 a6 h4 _=>Br.of (λh=>by cases h) λ_ N9 a7=>?_
   ·have em:xz true (j+1) l=(xz true j r).bind λx=>(pre [62] x.2).map λr=>(.mk 10 (bytes []) (bytes []) 0 tZero tZero [x.1],r):=by rw[zZ hp];exact(Kt true r j).trans (one _ _ _ _)
    refine hT s n2 r false N9 _ U λx b3 b7 aj ae hx _ _ I J=>?_;cases hx with
    | @ok t r' _ _ _ hm hx Z=>rw[hm,oI]at em;refine ww Z _ (by decide) _ I _ (λa8 ak ab O _ hq ah _=>⟨⟨rfl,rfl⟩,⟨rfl,rfl⟩,⟨rfl,rfl⟩,⟨rfl,rfl⟩,⟨rfl,rfl⟩,λa ac aa _=>⟨zG,λao ai=>hQ _ _ _ _ (by omega) (.ok rfl (by rw[em,show pre [62] (t,r').2=some a8 from hq];rfl) (GH hx a) ah)⟩⟩) λab O hq _=>⟨⟨rfl,rfl⟩,⟨rfl,rfl⟩,⟨rfl,rfl⟩,⟨rfl,rfl⟩,⟨rfl,rfl⟩,λa ac aa _=>⟨zG,λao ai=>hQ _ _ _ _ (by omega) (.no (.inr (by rw[em,show pre [62] (t,r').2=none from hq.resolve_left (by simp)];rfl)) Z)⟩⟩
    | no hm Z=>exact ww Z _ (by decide) _ I _ (λa8 ak ab O h=>by cases h) λab O hq _=>⟨⟨rfl,rfl⟩,⟨rfl,rfl⟩,⟨rfl,rfl⟩,⟨rfl,rfl⟩,⟨rfl,rfl⟩,λa ac aa _=>⟨zG,λao ai=>hQ _ _ _ _ (by omega) (.no (.inr (by rw[em,hm.resolve_left (by simp)];rfl)) Z)⟩⟩
   refine xv V _ (by decide) _ N9 _ (λr n2 aj ae _ hp U _=>Br.of (λ_ I J=>?_) λh=>by cases h) λaj ae h5 _=>Br.of (λh=>by cases h) λ_=>?_
   ·exact Mq hT U I _ λx ak bw ab O hx _ _=>⟨zG,λac aa=>hQ _ _ _ _ (by omega) (by rw[zZ hp];exact(tV true r j) ▸ hx)⟩
   cases l with
   | nil=>simp only[oa]at aw;omega
   | cons c l=>
   have em:xz true (j+1) (c::l)=EV true (c::l):=by simp only[xz,show pre [35,116] (c::l)=none from h1.resolve_left (by simp),show pre [35,102] (c::l)=none from h2.resolve_left (by simp),show pre [60] (c::l)=none from h4.resolve_left (by simp),show pre [126] (c::l)=none from h3.resolve_left (by simp),show pre [40] (c::l)=none from h5.resolve_left (by simp)]
   rw[em]at hQ;have hg:=V.get;have bd:0<=n/\n<(s.size:Int):=⟨V.lo,by omega⟩
   have wd:rV c=false->∀ I,aj<=I->BCalls prog 67 [.str,.str,.i,.bool] [.pb 0 0 0 0] [.var [.str s,.j n,.bool false]] I (λba bb bc bg bh=>I<=bh->∀ aq,bh<=aq->ACalls prog 35 [.ag 9] [.str ba] aq (λbi au=>aq<=au->Bel au bi->zC E [.var [.str (bytes []),.j 0,.bool false]]/\∀ bj,au<=bj->Q bi bb bc bg bj)):=λhc I J=>Bw V _ I _ λak ab O ah _ ac aa=>ES ac _ _ λao ai _ _=>⟨zG,λb9 bz=>hQ _ _ _ _ (by omega) (.ok rfl (t:=tVr (word (c::l)).1) (by simp only[EV,hc,nf,nL]) (uW 1 0 (o8 (wa V) (by omega))) ah)⟩
   have cd:∀ {P:Prop},(48<=c.toNat/\c.toNat<=57)->(rV c=true->P)->P:=λh k=>k (by unfold rV;exact nU h);have cn:¬(48<=c.toNat/\c.toNat<=57)->rV c=false:=λh=>by unfold rV;exact nV h
   rw[hg];exact⟨bd,Br.dec (λg1=>⟨bd,Br.dec (λg2 I J=>J5 V I _ λd ak bw ab O hd _ _=>⟨zG,λac aa=>hQ _ _ _ _ (by omega) (by have hc:rV c=true:=(by unfold rV;exact nU (by omega));simp only[EV,hc,nl];exact hd)⟩) λg2 I J=>wd (cn (by omega)) I J⟩) λg1 I J=>wd (cn (by omega)) I J⟩
end Go.Proofs.YtidiofobanefmaaGreatDoor
