/- Reading texts: what both parsers read (no program in sight), and that they read back the text of a term. -/
import Derived.Test.YtldbmnklnpfpfaaGreatDoorA9
import Derived.Test.YtldbmnklnpfpfaaGreatDoorKa
import Derived.Test.YtldbmnklnpfpfaaGreatDoorA5
set_option linter.unusedVariables false
set_option linter.unusedSimpArgs false
set_option maxRecDepth 100000
namespace Go.Proofs.YtldbmnklnpfpfaaGreatDoor
open Go Go.Proofs Go.Proofs.Tryz Go.IntWalk
abbrev Bl:=List UInt8
def pre:Bl->Bl->Option Bl
 | [],l=>some l
 | _::_,[]=>none
 | c::p,d::l=>if c=d then pre p l else none
theorem xw (p l:Bl):pre p (p++l)=some l:=by
 induction p with
 | nil=>rfl
 | cons c p I=>simp[pre,I]
theorem zg:∀ {p l r:Bl},pre p l=some r->l=p++r
 | [],l,r,h=>by simp only[pre,od]at h;simp[h]
 | c::p,[],r,h=>by simp[pre]at h
 | c::p,d::l,r,h=>by
   simp only[pre]at h;split at h
   ·rename_i e;rw[zg h,e];rfl
   ·cases h
theorem ub {c d:UInt8}(h:c≠d)(p l:Bl):pre (c::p) (d::l)=none:=by simp[pre,h]
theorem Ma (c:UInt8)(p l:Bl):pre (c::p) (c::l)=pre p l:=by simp[pre]
def idC (b:UInt8):Bool:=decide (48<=b.toNat/\b.toNat<=57\/97<=b.toNat/\b.toNat<=122)
def rN (b:UInt8):Bool:=decide (48<=b.toNat/\b.toNat<=57)
def word:Bl->Bl × Bl
 | []=>([],[])
 | b::l=>if idC b then(b::(word l).1,(word l).2)else([],b::l)
def Stop (l:Bl):Prop:=∀ b r,l=b::r->idC b=false
theorem pM (w r:Bl)(I:∀ b∈w,idC b=true)(J:Stop r):word (w++r)=(w,r):=by
 induction w with
 | nil=>
   cases r with
   | nil=>rfl
   | cons b r=>simp[word,J b r rfl]
 | cons b w O=>simp[word,I b (by simp),O λc hc=>I c (by simp[hc])]
theorem F8:∀ l:Bl,(word l).1++(word l).2=l
 | []=>rfl
 | b::l=>by
   unfold word;split
   ·simp[F8 l]
   ·rfl
open Classical in
noncomputable def yW (w:Bl):Option Nat:=if h:∃ n,n<=999999/\Lib.decDigits n=w then some h.choose else none
theorem AL {n:Nat}(h:n<=999999):yW (Lib.decDigits n)=some n:=by
 have I:∃ m,m<=999999/\Lib.decDigits m=Lib.decDigits n:=⟨n,h,rfl⟩
 unfold yW;rw[dif_pos I];exact oN some (Kx _ _ I.choose_spec.2)
theorem r9 {w:Bl}{n:Nat}(h:yW w=some n):n<=999999/\Lib.decDigits n=w:=by
 unfold yW at h;split at h
 ·rename_i I;cases h;exact I.choose_spec
 ·cases h
theorem u3 {w:Bl}(h:∀ n,n<=999999->Lib.decDigits n≠w):yW w=none:=by
 unfold yW;rw[dif_neg]
 rintro⟨n,I,J⟩;exact h n I J
theorem wv:∀(n:Nat),∀ b∈Lib.decDigits n,rN b=true:=by
 intro n
 induction n using Nat.strongRecOn with
 | _ n I=>
   intro b hb;have hd:∀ k,k<10->rN (UInt8.ofNat (48+k))=true:=by
    intro k J;have:k=0\/k=1\/k=2\/k=3\/k=4\/k=5\/k=6\/k=7\/k=8\/k=9:=by omega
    rcases this with rfl | rfl | rfl | rfl | rfl | rfl | rfl | rfl | rfl | rfl<;>decide
   rw[Lib.decDigits]at hb;split at hb
   ·rename_i h;rw[nG]at hb;subst hb;exact hd n h
   ·rcases oP.1 hb with hb | hb
    ·exact I _ (by omega) b hb
    ·rw[nG]at hb;subst hb;exact hd _ (by omega)
theorem Be (n:Nat):∃ b l,Lib.decDigits n=b::l:=by
 cases h:Lib.decDigits n with
 | nil=>exfalso;rw[Lib.decDigits]at h;split at h<;>simp at h
 | cons b l=>exact⟨b,l,rfl⟩
theorem Dd {b:UInt8}(h:rN b=true):idC b=true:=by simp only[rN,idC,oi]at h ⊢;exact .inl h
def wJ : Nat->Bl->Option (Ty × Bl)
 | 0,_=>none
 | n + 1,l=>match pre [73] l with
   | some r=>some (tInt,r)
   | none=>match pre [66] l with
     | some r=>some (tBool,r)
     | none=>match pre [60] l with
       | some r=>(wJ n r).bind λx=>(pre [62] x.2).map λr=>(v7 x.1,r)
       | none=>(pre [40] l).bind λr=>(wJ n r).bind λx=>(pre [62] x.2).bind λr=>(wJ n r).bind λy=>(pre [41] y.2).map λr=>(DJ x.1 y.1,r)
def tyL (t:Ty):Bl:=(Ai t).data.toList
theorem Lg:tyL tInt=[73]:=rfl
theorem J3:tyL tBool=[66]:=rfl
theorem Mr (a b:Ty):tyL (DJ a b)=[40]++(tyL a++([62]++(tyL b++[41]))):=by unfold tyL;rw[Aj];simp only[zL,oL];rfl
theorem J4 (a:Ty):tyL (v7 a)=[60]++(tyL a++[62]):=by unfold tyL;rw[ui];simp only[zL,oL];rfl
theorem KF (a b:Ty):(DJ a b).dep=max a.dep b.dep+1:=by simp[DJ,Ty.dep,wq]
theorem FR (a:Ty):(v7 a).dep=a.dep+1:=by simp[v7,Ty.dep,wq]
theorem KZ (n:Nat)(l:Bl):wJ (n+1) ([73]++l)=some (tInt,l):=by simp[wJ,pre]
theorem KW (n:Nat)(l:Bl):wJ (n+1) ([66]++l)=some (tBool,l):=by simp[wJ,pre]
theorem KX (n:Nat)(l:Bl):wJ (n+1) ([60]++l)=(wJ n l).bind λx=>(pre [62] x.2).map λr=>(v7 x.1,r):=by simp[wJ,pre]
theorem KY (n:Nat)(l:Bl):wJ (n+1) ([40]++l)=(wJ n l).bind λx=>(pre [62] x.2).bind λr=>(wJ n r).bind λy=>(pre [41] y.2).map λr=>(DJ x.1 y.1,r):=by simp[wJ,pre]
theorem E3 {t:Ty}(O:Wf t):∀(n:Nat)(r:Bl),t.dep<=n->wJ n (tyL t++r)=some (t,r):=by
 induction O with
 | int=>intro n r h;cases n with
   | zero=>exact absurd h (by decide)
   | succ n=>rw[Lg,KZ]
 | bool=>intro n r h;cases n with
   | zero=>exact absurd h (by decide)
   | succ n=>rw[J3,KW]
 | @fn u v U V I J=>intro n r h;cases n with
   | zero=>rw[KF]at h;omega
   | succ n=>rw[KF]at h;rw[Mr];simp only[oL];rw[KY];simp only[I n _ (by omega),J n _ (by omega),oI,xw,oU]
 | @code u U I=>intro n r h;cases n with
   | zero=>rw[FR]at h;omega
   | succ n=>rw[FR]at h;rw[J4];simp only[oL];rw[KX];simp only[I n _ (by omega),oI,xw,oU]
def J0 (n:Nat):Tm:=.mk 2 (bytes []) (bytes []) n tZero tZero []
def tBl (n:Int):Tm:=.mk 3 (bytes []) (bytes []) n tZero tZero []
def tVr (w:Bl):Tm:=.mk 1 ⟨w.toArray⟩ (bytes []) 0 tZero tZero []
noncomputable def ER (sp:Bool)(l:Bl):Option (Tm × Bl):=match l with
 | []=>none
 | b :: _=>match sp with
   | true=>if rN b then(yW (word l).1).map λn=>(J0 n,(word l).2)else some (tVr (word l).1,(word l).2)
   | false=>match yW (word l).1 with
     | some n=>some (J0 n,(word l).2)
     | none=>if(word l).1=[]then none else some (tVr (word l).1,(word l).2)
def y8 (T:Bl->Option (Tm × Bl))(by_ e:Bl):Nat->Bool->Bl->Option (List Tm × Bl)
 | 0,_,l=>(pre e l).map λr=>([],r)
 | k+1,f,l=>(if f then some l else pre by_ l).bind λl=>(T l).bind λx=>(y8 T by_ e k false x.2).map λy=>(x.1::y.1,y.2)
def mkF (k:Int)(nm ot:Bl)(ty re:Ty)(x:Option (List Tm × Bl)):Option (Tm × Bl):=x.map λy=>(.mk k ⟨nm.toArray⟩ ⟨ot.toArray⟩ 0 ty re y.1,y.2)
def Fs (sp:Bool)(T:Bl->Option (Tm × Bl))(t:Tm):Bl->Option (Tm × Bl)
 | []=>none
 | c::r=>if c=32 then(T r).bind λy=>(pre [41] y.2).map λr=>(.mk 7 (bytes []) (bytes []) 0 tZero tZero [t,y.1],r)
   else if sp=true/\qC ⟨#[c]⟩≠2 then none else(T r).bind λy=>(pre [41] y.2).map λr=>(.mk 4 ⟨#[c]⟩ (bytes []) 0 tZero tZero [t,y.1],r)
def H6 (sp:Bool)(T:Bl->Option (Tm × Bl))(l:Bl):Option (Tm × Bl):=(T l).bind λx=>Fs sp T x.1 x.2
def Cl (T:Bl->Option (Tm × Bl))(l:Bl):Option (Tm × Bl):=(pre [61] (word l).2).bind λr=>mkF 8 (word l).1 [] tZero tZero (y8 T [32] [41] 2 true r)
def E2 (T:Bl->Option (Tm × Bl))(l:Bl):Option (Tm × Bl):=(pre [58] (word l).2).bind λr=>(wJ 8 r).bind λt=>(pre [46] t.2).bind λr=>mkF 6 (word l).1 [] t.1 tZero (y8 T [] [41] 1 true r)
def Cm (T:Bl->Option (Tm × Bl))(l:Bl):Option (Tm × Bl):=(pre [32] (word l).2).bind λm=>(pre [58] (word m).2).bind λr=>(wJ 8 r).bind λt=>(pre [62] t.2).bind λr=>(wJ 8 r).bind λu=>(pre [46] u.2).bind λr=>mkF 9 (word l).1 (word m).1 t.1 u.1 (y8 T [] [41] 1 true r)
def uA (sp : Bool) (T:Bl->Option (Tm × Bl)) (l:Bl):Option (Tm × Bl):=
 match pre [33] l with
 | some r=>mkF 4 [33] [] tZero tZero (y8 T [] [41] 1 true r)
 | none => match pre [105,102,32] l with
   | some r=>mkF 5 [] [] tZero tZero (y8 T [32] [41] 3 true r)
   | none => match pre [114,117,110,32] l with
     | some r=>mkF 12 [] [] tZero tZero (y8 T [] [41] 1 true r)
     | none=>match pre [108,105,102,116,32] l with
       | some r=>mkF 13 [] [] tZero tZero (y8 T [] [41] 1 true r)
       | none=>match pre [108,101,116,32] l with
         | some r=>Cl T r
         | none=>match pre [92] l with
           | some r=>E2 T r
           | none=>match pre [114,101,99,32] l with
             | some r=>Cm T r
             | none=>H6 sp T l
noncomputable def xu (sp:Bool):Nat->Bl->Option (Tm × Bl)
 | 0,_=>none
 | n + 1,l=>match pre [35,116] l with
   | some r=>some (tBl 1,r)
   | none=>match pre [35,102] l with
     | some r=>some (tBl 0,r)
     | none=>match pre [60] l with
       | some r=>mkF 10 [] [] tZero tZero (y8 (xu sp n) [] [62] 1 true r)
       | none=>match pre [126] l with
         | some r=>mkF 11 [] [] tZero tZero (y8 (xu sp n) [] [] 1 true r)
         | none=>match pre [40] l with
           | some r=>uA sp (xu sp n) r
           | none=>ER sp l
end Go.Proofs.YtldbmnklnpfpfaaGreatDoor
set_option maxRecDepth 100000
namespace Go.Proofs.YtldbmnklnpfpfaaGreatDoor
open Go Go.Proofs Go.Proofs.Tryz Go.IntWalk
def tmL (t:Tm):Bl:=t.tx.data.toList
theorem xW {c:UInt8}(h:idC c=false)(r:Bl):Stop (c::r):=λb I e=>by cases e;exact h
structure NmL (w:Bl):Prop where
 id:∀ b∈w,idC b=true
 hd:∃ b l,w=b::l/\rN b=false
 kw:w≠[105,102]/\w≠[108,101,116]/\w≠[114,101,99]/\w≠[114,117,110]/\w≠[108,105,102,116]
theorem nmL {s:ByteArray}(h:xc s=true):NmL s.data.toList:=by
 simp only[xc,qX,oM,nC,nW]at h;obtain⟨U,h2,k1,k2,k3,k4,k5⟩:=h;have aa:=xv.1 h2;have ne:∀ l:List Nat,s≠bytes l->s.data.toList≠l.map UInt8.ofNat:=λl hs e=>hs (zZ e);have J:∀ i,i<s.size->sS s i=true:=λi hi=>by unfold wC at U;rw[oc]at U;exact U i (List.mem_range'.2 ⟨i,by omega,by omega⟩)
 have O:∀(i:Nat) (hi:i<s.data.toList.length),tS s i=((s.data.toList[i]).toNat:Int):=λi hi=>by
  have V:i<s.data.size:=by simpa using hi
  unfold tS;rw[o3,ol V];simp
 have Z:s.data.toList.length=s.size:=by simp
 refine⟨λb hb=>?_,?_,ne _ k1,ne _ k2,ne _ k3,ne _ k4,ne _ k5⟩
 ·obtain⟨i,hi,rfl⟩:=List.mem_iff_getElem.1 hb;have I:=J i (by omega);unfold sS at I;rw[O i hi]at I;simp only[idC,oi];simp only[mC,oM,oi,nC,nW]at I;omega
 ·have Y:0<s.data.toList.length:=by omega
  have I:=J 0 (by omega);unfold sS at I;rw[O 0 Y]at I;simp only[mC,oM,oi,nC,nW]at I;cases hl:s.data.toList with
  | nil=>rw[hl]at Y;simp at Y
  | cons b l=>refine⟨b,l,rfl,?_⟩;simp only[hl,List.getElem_cons_zero]at I;simp only[rN,nW];omega
theorem NmL.num {w:Bl}(h:NmL w):yW w=none:=u3 λn _ e=>by
 obtain⟨b,l,rfl,I⟩:=h.hd
 have:=wv n b (by rw[e];simp)
 rw[I]at this;cases this
theorem NmL.word {w:Bl}(h:NmL w){r:Bl}(I:Stop r):word (w++r)=(w,r):=pM _ _ h.id I
theorem qE:∀ {k w r:Bl},(∀ b∈k,idC b=true)->(∀ b∈w,idC b=true)->Stop r->w≠k->pre (k++[32]) (w++r)=none
 | [],w,r,I,J,O,U=>by
   cases w with
   | nil=>exact absurd rfl U
   | cons b w=>exact ub (λe=>by have:=J b (by simp);rw[<-e]at this;revert this;decide) _ _
 | c::k,[],r,I,J,O,U=>by
   cases r with
   | nil=>rfl
   | cons b r=>exact ub (λe=>by have:=I c (by simp);rw[e,O b r rfl]at this;cases this) _ _
 | c::k,b::w,r,I,J,O,U=>by
   simp only[nJ,pre];split
   ·rename_i e;exact qE (λx V=>I x (by simp[V])) (λx V=>J x (by simp[V])) O λh=>U (by rw[e,h])
   ·rfl
structure Fst (l:Bl):Prop where
 a:pre [33] l=none
 b:pre [105,102,32] l=none
 c:pre [114,117,110,32] l=none
 d:pre [108,105,102,116,32] l=none
 e:pre [108,101,116,32] l=none
 f:pre [92] l=none
 g:pre [114,101,99,32] l=none
theorem uG {b:UInt8}(h:b≠33/\b≠105/\b≠114/\b≠108/\b≠92)(l:Bl):Fst (b::l):=
 ⟨ub h.1.symm _ _,ub h.2.1.symm _ _,ub h.2.2.1.symm _ _,ub h.2.2.2.1.symm _ _,ub h.2.2.2.1.symm _ _,ub h.2.2.2.2.symm _ _,ub h.2.2.1.symm _ _⟩
theorem FY {w r:Bl}(I:∀ b∈w,idC b=true)(O:∃ b l,w=b::l)(J:Stop r)(h:w≠[105,102]/\w≠[108,101,116]/\w≠[114,101,99]/\w≠[114,117,110]/\w≠[108,105,102,116]):Fst (w++r):=by
 have hc:∀ c:UInt8,idC c=false->pre [c] (w++r)=none:=λc hc=>by obtain⟨b,l,rfl⟩:=O;exact ub (λe=>by have:=I b (by simp);rw[<-e,hc]at this;cases this) _ _
 exact⟨hc _ (by decide),qE (k:=[105,102]) (by decide) I J h.1,qE (k:=[114,117,110]) (by decide) I J h.2.2.2.1,qE (k:=[108,105,102,116]) (by decide) I J h.2.2.2.2,qE (k:=[108,101,116]) (by decide) I J h.2.1,hc _ (by decide),qE (k:=[114,101,99]) (by decide) I J h.2.2.1⟩
theorem H8 (sp:Bool)(n:Nat){b:UInt8}(I:idC b=true)(l:Bl):xu sp (n+1) (b::l)=ER sp (b::l):=by have h:∀ c:UInt8,idC c=false->∀ p,pre (c::p) (b::l)=none:=λc hc p=>ub (λe=>by rw[<-e,hc]at I;cases I) _ _;simp only[xu,h 35 (by decide),h 60 (by decide),h 126 (by decide),h 40 (by decide)]
theorem Mf (sp:Bool)(n:Nat){m:Nat}(I:m<=999999){r:Bl}(J:Stop r):xu sp (n+1) (Lib.decDigits m++r)=some (J0 m,r):=by
 obtain⟨b,l,e⟩:=Be m;have hd:rN b=true:=wv m b (by rw[e];simp);have O:word (b::l++r)=(b::l,r):=pM _ _ (λc hc=>Dd (wv m c (by rw[e];exact hc))) J;have U:yW (b::l)=some m:=by rw[<-e];exact AL I
 rw[e,nJ,H8 sp n (Dd hd),<-nJ];cases sp<;>simp only[ER,nJ]<;>simp only[<-nJ,O,U,hd,nu,oU]
theorem LW (sp:Bool)(n:Nat){w:Bl}(h:NmL w){r:Bl}(I:Stop r):xu sp (n+1) (w++r)=some (tVr w,r):=by have J:=h.word I;have O:=h.num;obtain⟨b,l,rfl,hd⟩:=h.hd;rw[nJ,H8 sp n (h.id b (by simp)),<-nJ];cases sp<;>simp only[ER,nJ]<;>simp only[<-nJ,J,O,hd,nh,nO,reduceCtorEq]
def RdT (T:Bl->Option (Tm × Bl))(t:Tm):Prop:=∀ r,Stop r->T (tmL t++r)=some (t,r)
theorem Dz {T:Bl->Option (Tm × Bl)}{b:ByteArray}{e r:Bl}(I:∀ l,Stop (b.data.toList++l))(J:Stop (e++r)):∀(l:List Tm),(∀ t∈l,RdT T t)->y8 T b.data.toList e l.length false ((uJ b (txs l)).data.toList++(e++r))=some (l,r)/\Stop ((uJ b (txs l)).data.toList++(e++r))
 | [],h=>by refine⟨?_,J⟩;show(pre e ([]++(e++r))).map _=_;rw[o6,xw];rfl
 | x::l,h=>by
   obtain⟨O,hs⟩:=Dz I J l λt U=>h t (by simp[U]);have e1:(uJ b (txs (x::l))).data.toList++(e++r)=b.data.toList++(tmL x++((uJ b (txs l)).data.toList++(e++r))):=by simp only[txs,uJ,zL,oL];rfl
   rw[e1];refine⟨?_,I _⟩;simp only[oR,y8,nh,nO,xw,oI,h x (by simp) _ hs,O,oU]
theorem H4 {T:Bl->Option (Tm × Bl)}{b:ByteArray}{e r:Bl}(I:∀ l,Stop (b.data.toList++l))(J:Stop (e++r))(l:List Tm)(h:∀ t∈l,RdT T t){k:Nat}(O:k=l.length):y8 T b.data.toList e k true ((xl b (txs l)).data.toList++(e++r))=some (l,r):=by
 subst O;cases l with
 | nil=>show(pre e ([]++(e++r))).map _=_;rw[o6,xw];rfl
 | cons x l=>
   obtain⟨U,hs⟩:=Dz I J l λt V=>h t (by simp[V]);have e1:(xl b (txs (x::l))).data.toList++(e++r)=tmL x++((uJ b (txs l)).data.toList++(e++r)):=by simp only[txs,xl,zL,oL];rfl
   rw[e1];simp only[oR,y8,nu,oI,h x (by simp) _ hs,U,oU]
theorem vT {T:Bl->Option (Tm × Bl)}{e r:Bl}(I:Stop (e++r)){t:Tm}(h:RdT T t)(b:Bl):y8 T b e 1 true (tmL t++(e++r))=some ([t],r):=by simp only[y8,nu,oI,h _ I,xw,oU]
theorem Mt {t:Ty}(h:t.zero=true):t=tZero:=by
 cases t with
 | mk k l=>
 simp only[Ty.zero,Ty.k,Ty.as,oM,mW]at h;obtain⟨rfl,h⟩:=h;have:l=[]:=oV (by omega);subst this;rfl
structure NodeZ (k:Int) (nm ot:ByteArray) (n:Int) (ty re:Ty):Prop where
 ty:k≠6->k≠9->ty=tZero
 re:k≠9->re=tZero
 n:k≠2->k≠3->n=0
 nm:yb k nm ot=true
theorem Jc {k:Int}{nm ot:ByteArray}{n:Int}{ty re:Ty}{l:List Tm}(nd:NodeS k nm ot n ty re l):NodeZ k nm ot n ty re:=by
 have f:=nd.f;simp only[yC,oM,mC]at f;obtain⟨Z,O,q3,U,V,Y⟩:=f;refine⟨λI J=>Mt (O.resolve_left (by simp[qV,I,J])),λh=>Mt (U.resolve_left (by simp[h])),λI J=>?_,Y⟩
 have:=xv.1 V
 rw[if_neg I,if_neg J]at this;omega
theorem Cf (s:ByteArray):(⟨s.data.toList.toArray⟩:ByteArray)=s:=zZ rfl
theorem Je {nm:ByteArray}(h:qC nm=2):∃ c:UInt8,nm=⟨#[c]⟩/\idC c=false/\c≠32:=by
 unfold qC at h
 (repeat' split at h)<;>first | (exfalso;revert h;decide) | (rename_i e;exact⟨_,e,by decide,by decide⟩)
theorem MY {nm:ByteArray}(h:qC nm=1):nm=bytes [33]:=by
 unfold qC at h
 (repeat' split at h)<;>first | (exfalso;revert h;decide) | (rename_i e;exact e)
theorem D9 {t:Tm}(J:t.ok=true){r:Bl}(O:Stop r):Fst (tmL t++r):=by
 cases t with
 | mk k nm ot n ty re l=>
 have nd:=Er J;have U:=Jc nd;unfold tmL;simp only[Tm.tx];rcases nd.kind with rfl | rfl | rfl | rfl | rfl | rfl | rfl | rfl | rfl | rfl | rfl | rfl | rfl
 ·rw[LM];have V:xc nm=true:=by have:=U.nm;simp[yb]at this;exact this.1
  have h:=nmL V;obtain⟨b,w,e,_⟩:=h.hd;exact FY h.id ⟨b,w,e⟩ O h.kw
 ·rw[LN];show Fst (Lib.decDigits n.toNat++r);obtain⟨b,w,e⟩:=Be n.toNat;have hd:∀ c∈Lib.decDigits n.toNat,rN c=true:=wv _;have I:∀(c:UInt8) (k:Bl),rN c=false->Lib.decDigits n.toNat≠c::k:=λc k hc e=>by have:=hd c (by rw[e];simp);rw[hc]at this;cases this
  exact FY (λc hc=>Dd (hd c hc)) ⟨b,w,e⟩ O ⟨I _ _ (by decide),I _ _ (by decide),I _ _ (by decide),I _ _ (by decide),I _ _ (by decide)⟩
 ·rw[LO];simp only[zL,oL];exact uG (b:=35) (by decide) _
 ·rw[Jd];split<;>(simp only[zL,oL];exact uG (b:=40) (by decide) _)
 ·rw[LP];simp only[zL,oL];exact uG (b:=40) (by decide) _
 ·rw[LQ];simp only[zL,oL];exact uG (b:=40) (by decide) _
 ·rw[LR];simp only[zL,oL];exact uG (b:=40) (by decide) _
 ·rw[LS];simp only[zL,oL];exact uG (b:=40) (by decide) _
 ·rw[LT];simp only[zL,oL];exact uG (b:=40) (by decide) _
 ·rw[Et];simp only[zL,oL];exact uG (b:=60) (by decide) _
 ·rw[Eu];simp only[zL,oL];exact uG (b:=126) (by decide) _
 ·rw[Ev];simp only[zL,oL];exact uG (b:=40) (by decide) _
 ·rw[Ew];simp only[zL,oL];exact uG (b:=40) (by decide) _
end Go.Proofs.YtldbmnklnpfpfaaGreatDoor
set_option maxRecDepth 100000
namespace Go.Proofs.YtldbmnklnpfpfaaGreatDoor
open Go Go.Proofs Go.Proofs.Tryz Go.IntWalk
section
variable (sp:Bool) (T:Bl->Option (Tm × Bl)) (l:Bl)
theorem Fp:uA sp T ([33]++l)=mkF 4 [33] [] tZero tZero (y8 T [] [41] 1 true l):=by simp[uA,pre]
theorem H5:uA sp T ([105,102,32]++l)=mkF 5 [] [] tZero tZero (y8 T [32] [41] 3 true l):=by simp[uA,pre]
theorem Fr:uA sp T ([114,117,110,32]++l)=mkF 12 [] [] tZero tZero (y8 T [] [41] 1 true l):=by simp[uA,pre]
theorem D0:uA sp T ([108,105,102,116,32]++l)=mkF 13 [] [] tZero tZero (y8 T [] [41] 1 true l):=by simp[uA,pre]
theorem Cj:uA sp T ([108,101,116,32]++l)=Cl T l:=by simp[uA,pre]
theorem Fo:uA sp T ([92]++l)=E2 T l:=by simp[uA,pre]
theorem Fq:uA sp T ([114,101,99,32]++l)=Cm T l:=by simp[uA,pre]
theorem Ck (h:Fst l):uA sp T l=H6 sp T l:=by simp only[uA,h.a,h.b,h.c,h.d,h.e,h.f,h.g]
theorem tX (n:Nat):xu sp (n+1) ([40]++l)=uA sp (xu sp n) l:=by simp[xu,pre]
theorem Ka (n:Nat):xu sp (n+1) ([60]++l)=mkF 10 [] [] tZero tZero (y8 (xu sp n) [] [62] 1 true l):=by simp[xu,pre]
theorem Kb (n:Nat):xu sp (n+1) ([126]++l)=mkF 11 [] [] tZero tZero (y8 (xu sp n) [] [] 1 true l):=by simp[xu,pre]
theorem OD (n:Nat):xu sp (n+1) ([35,116]++l)=some (tBl 1,l):=by simp[xu,pre]
theorem OC (n:Nat):xu sp (n+1) ([35,102]++l)=some (tBl 0,l):=by simp[xu,pre]
end
theorem sx {c:UInt8}(h:idC c=false)(r:Bl):Stop ([c]++r):=xW h r
theorem uX {l:List Tm}(h:l.length=1):∃ a,l=[a]:=by
 match l,h with
 | [a],_=>exact⟨a,rfl⟩
theorem Hj {l:List Tm}(h:l.length=2):∃ a b,l=[a,b]:=by
 match l,h with
 | [a,b],_=>exact⟨a,b,rfl⟩
theorem H7 (sp:Bool) {T:Bl->Option (Tm × Bl)} {a b:Tm} (I:RdT T a) (J:RdT T b) (c:UInt8) (hc:idC c=false) (r:Bl) :
  H6 sp T (tmL a++(c::(tmL b++([41]++r))))=if c=32 then some (.mk 7 (bytes []) (bytes []) 0 tZero tZero [a,b],r)else if sp=true/\qC ⟨#[c]⟩≠2 then none else some (.mk 4 ⟨#[c]⟩ (bytes []) 0 tZero tZero [a,b],r):=by
 have O:∀ r,Stop ([41]++r:Bl):=λr=>xW (by decide) r;simp only[H6,Fs,I _ (xW hc _),oI,J _ (O r),xw,oU]
theorem Nb (sp:Bool):∀ t:Tm,t.ok=true->∀ n,t.dp<=n->RdT (xu sp n) t:=by
 refine Tm.ind λk nm ot n ty re l ih ab m hm r hr=>?_;simp only[Tm.dp]at hm;cases m with
 | zero=>omega
 | succ m=>
 have nd:=Er ab;have I:=Jc nd;have J:=nd.ar;have sub:∀ t∈l,RdT (xu sp m) t:=λt ht=>ih t ht (nd.sub t ht) m (by have:=B9 ht;omega);have V:∀ r:Bl,Stop ([41]++r):=λr=>xW (by decide) r;have aa:∀ r:Bl,Stop ((bytes [32]).data.toList++r):=λr=>xW (by decide) r;have zz:k≠6->k≠9->ty=tZero:=I.ty;show xu sp (m+1) (tmL (.mk k nm ot n ty re l)++r)=_;unfold tmL;simp only[Tm.tx];have U:k≠1->k≠4->k≠6->k≠8->k≠9->nm=bytes []/\ot=bytes []:=λY h4 h6 h8 h9=>by
  have:=I.nm
  simp only[yb]at this;rw[if_neg h4,if_neg (by omega),if_neg h9]at this;simpa using this
 have Z:k=1\/k=6\/k=8->xc nm=true/\ot=bytes []:=λh=>by
  have:=I.nm
  simp only[yb]at this;rw[if_neg (by omega),if_pos h]at this;simpa using this
 have t0:∀ l:List Tm,(txs l).getD 0 (bytes [])=(match l with | []=>bytes [] | x::_=>x.tx):=λl=>by cases l<;>rfl
 rcases nd.kind with rfl | rfl | rfl | rfl | rfl | rfl | rfl | rfl | rfl | rfl | rfl | rfl | rfl
 ·obtain⟨Y,rfl⟩:=Z (.inl rfl);obtain rfl:=I.ty (by decide) (by decide);obtain rfl:=I.re (by decide);obtain rfl:=I.n (by decide) (by decide);obtain rfl:l=[]:=oV (by have:(l.length:Int)=0:=J;omega);rw[LM,LW sp m (nmL Y) hr];unfold tVr;rw[Cf]
 ·obtain⟨rfl,rfl⟩:=U (by decide) (by decide) (by decide) (by decide) (by decide);obtain rfl:=I.ty (by decide) (by decide);obtain rfl:=I.re (by decide);obtain rfl:l=[]:=oV (by have:(l.length:Int)=0:=J;omega);have hn:=nd.num rfl;rw[LN];show xu sp (m+1) (Lib.decDigits n.toNat++r)=_;rw[Mf sp m (by omega) hr];unfold J0;rw[Int.toNat_of_nonneg hn.1]
 ·obtain⟨rfl,rfl⟩:=U (by decide) (by decide) (by decide) (by decide) (by decide);obtain rfl:=I.ty (by decide) (by decide);obtain rfl:=I.re (by decide);obtain rfl:l=[]:=oV (by have:(l.length:Int)=0:=J;omega);rw[LO];rcases nd.bit rfl with rfl | rfl
  ·exact OC sp r m
  ·exact OD sp r m
 ·obtain rfl:=I.ty (by decide) (by decide);obtain rfl:=I.re (by decide);obtain rfl:=I.n (by decide) (by decide);have O:=I.nm;simp only[yb]at O;rw[if_pos trivial]at O;simp only[oM,oi]at O;obtain⟨Y,rfl⟩:=O;have J:(l.length:Int)=qC nm:=J;rw[Jd];rcases nd.op rfl with h | h
  ·obtain⟨a,rfl⟩:=uX h;obtain rfl:=MY (show qC nm=1 by rw[<-J,h];rfl);rw[if_pos (by rfl)];have e:(bytes [40,33]++(txs [a]).getD 0 (bytes [])++bytes [41]).data.toList++r=[40]++([33]++(tmL a++([41]++r))):=by simp only[zL,oL];rfl
   rw[e,tX,Fp,vT (V r) (sub a (by simp))];rfl
  ·obtain⟨a,b,rfl⟩:=Hj h;obtain⟨c,rfl,hc,ac⟩:=Je (show qC nm=2 by rw[<-J,h];rfl);rw[if_neg (by simp[txs])];have e:(bytes [40]++(txs [a,b]).getD 0 (bytes [])++⟨#[c]⟩++(txs [a,b]).getD 1 (bytes [])++bytes [41]).data.toList++r=[40]++(tmL a++(c::(tmL b++([41]++r)))):=by simp only[zL,oL];rfl
   rw[e,tX,Ck _ _ _ (D9 (nd.sub a (by simp)) (xW hc _)),H7 sp (sub a (by simp)) (sub b (by simp)) c hc,if_neg ac,if_neg (by rw[<-J];simp)]
 ·obtain⟨rfl,rfl⟩:=U (by decide) (by decide) (by decide) (by decide) (by decide);obtain rfl:=I.ty (by decide) (by decide);obtain rfl:=I.re (by decide);obtain rfl:=I.n (by decide) (by decide);have hl:3=l.length:=by have:(l.length:Int)=3:=J;omega
  rw[LP];have e:(bytes [40,105,102,32]++xl (bytes [32]) (txs l)++bytes [41]).data.toList++r=[40]++([105,102,32]++((xl (bytes [32]) (txs l)).data.toList++([41]++r))):=by simp only[zL,oL];rfl
  rw[e,tX,H5]
  have:=H4 aa (V r) l sub hl
  rw[show(bytes [32]).data.toList=[32]from rfl]at this;rw[this];rfl
 ·obtain⟨Y,rfl⟩:=Z (.inr (.inl rfl));obtain rfl:=I.re (by decide);obtain rfl:=I.n (by decide) (by decide);obtain⟨a,rfl⟩:=uX (nd.one (by decide));have hv:=zo (nd.vt (.inl rfl));have hd:ty.dep<=8:=by have:=nd.vt (.inl rfl);simp only[Ty.valid,oM,oi]at this;omega
  rw[LQ];have e:(bytes [40,92]++nm++bytes [58]++Ai ty++bytes [46]++(txs [a]).getD 0 (bytes [])++bytes [41]).data.toList++r=[40]++([92]++(nm.data.toList++([58]++(tyL ty++([46]++(tmL a++([41]++r))))))):=by simp only[zL,oL];rfl
  rw[e,tX,Fo,E2,(nmL Y).word (sx (by decide) _)];simp only[xw,oI,E3 hv.1 8 _ hd,vT (V r) (sub a (by simp)),mkF,oU,Cf];rfl
 ·obtain⟨rfl,rfl⟩:=U (by decide) (by decide) (by decide) (by decide) (by decide);obtain rfl:=I.ty (by decide) (by decide);obtain rfl:=I.re (by decide);obtain rfl:=I.n (by decide) (by decide);obtain⟨a,b,rfl⟩:=Hj (l:=l) (by have:(l.length:Int)=2:=J;omega);rw[LR];have e:(bytes [40]++xl (bytes [32]) (txs [a,b])++bytes [41]).data.toList++r=[40]++(tmL a++(32::(tmL b++([41]++r)))):=by simp only[txs,xl,uJ,zL,oL];rfl
  rw[e,tX,Ck _ _ _ (D9 (nd.sub a (by simp)) (xW (by decide) _)),H7 sp (sub a (by simp)) (sub b (by simp)) 32 (by decide),if_pos rfl]
 ·obtain⟨Y,rfl⟩:=Z (.inr (.inr rfl));obtain rfl:=I.ty (by decide) (by decide);obtain rfl:=I.re (by decide);obtain rfl:=I.n (by decide) (by decide);have hl:2=l.length:=by have:(l.length:Int)=2:=J;omega
  rw[LS];have e:(bytes [40,108,101,116,32]++nm++bytes [61]++xl (bytes [32]) (txs l)++bytes [41]).data.toList++r=[40]++([108,101,116,32]++(nm.data.toList++([61]++((xl (bytes [32]) (txs l)).data.toList++([41]++r))))):=by simp only[zL,oL];rfl
  rw[e,tX,Cj,Cl,(nmL Y).word (sx (by decide) _)]
  have:=H4 aa (V r) l sub hl
  rw[show(bytes [32]).data.toList=[32]from rfl]at this;simp only[xw,oI,this,mkF,oU,Cf];rfl
 ·obtain rfl:=I.n (by decide) (by decide);have O:=I.nm;simp only[yb]at O;rw[if_neg (by decide),if_neg (by decide),if_pos trivial]at O;simp only[oM]at O;obtain⟨Y,h2, -⟩:=O;obtain⟨a,rfl⟩:=uX (nd.one (by decide));have hv:=zo (nd.vt (.inr rfl));have ae:=zo (nd.vr rfl);have hd:ty.dep<=8:=by have:=nd.vt (.inr rfl);simp only[Ty.valid,oM,oi]at this;omega
  have ah:re.dep<=8:=by have:=nd.vr rfl;simp only[Ty.valid,oM,oi]at this;omega
  rw[LT];have e:(bytes [40,114,101,99,32]++nm++bytes [32]++ot++bytes [58]++Ai ty++bytes [62]++Ai re++bytes [46]++(txs [a]).getD 0 (bytes [])++bytes [41]).data.toList++r=[40]++([114,101,99,32]++(nm.data.toList++([32]++(ot.data.toList++([58]++(tyL ty++([62]++(tyL re++([46]++(tmL a++([41]++r))))))))))):=by simp only[zL,oL];rfl
  rw[e,tX,Fq,Cm,(nmL Y).word (sx (by decide) _)];simp only[xw,oI];rw[(nmL h2).word (sx (by decide) _)];simp only[xw,oI,E3 hv.1 8 _ hd,E3 ae.1 8 _ ah,vT (V r) (sub a (by simp)),mkF,oU,Cf]
 ·obtain⟨rfl,rfl⟩:=U (by decide) (by decide) (by decide) (by decide) (by decide);obtain rfl:=I.ty (by decide) (by decide);obtain rfl:=I.re (by decide);obtain rfl:=I.n (by decide) (by decide);obtain⟨a,rfl⟩:=uX (nd.one (by decide));rw[Et];have e:(bytes [60]++(txs [a]).getD 0 (bytes [])++bytes [62]).data.toList++r=[60]++(tmL a++([62]++r)):=by simp only[zL,oL];rfl
  rw[e,Ka,vT (sx (by decide) _) (sub a (by simp))];rfl
 ·obtain⟨rfl,rfl⟩:=U (by decide) (by decide) (by decide) (by decide) (by decide);obtain rfl:=I.ty (by decide) (by decide);obtain rfl:=I.re (by decide);obtain rfl:=I.n (by decide) (by decide);obtain⟨a,rfl⟩:=uX (nd.one (by decide));rw[Eu];have e:(bytes [126]++(txs [a]).getD 0 (bytes [])).data.toList++r=[126]++(tmL a++([]++r)):=by simp only[zL,oL,o6];rfl
  rw[e,Kb,vT (e:=[]) hr (sub a (by simp))];rfl
 ·obtain⟨rfl,rfl⟩:=U (by decide) (by decide) (by decide) (by decide) (by decide);obtain rfl:=I.ty (by decide) (by decide);obtain rfl:=I.re (by decide);obtain rfl:=I.n (by decide) (by decide);obtain⟨a,rfl⟩:=uX (nd.one (by decide));rw[Ev];have e:(bytes [40,114,117,110,32]++(txs [a]).getD 0 (bytes [])++bytes [41]).data.toList++r=[40]++([114,117,110,32]++(tmL a++([41]++r))):=by simp only[zL,oL];rfl
  rw[e,tX,Fr,vT (V r) (sub a (by simp))];rfl
 ·obtain⟨rfl,rfl⟩:=U (by decide) (by decide) (by decide) (by decide) (by decide);obtain rfl:=I.ty (by decide) (by decide);obtain rfl:=I.re (by decide);obtain rfl:=I.n (by decide) (by decide);obtain⟨a,rfl⟩:=uX (nd.one (by decide));rw[Ew];have e:(bytes [40,108,105,102,116,32]++(txs [a]).getD 0 (bytes [])++bytes [41]).data.toList++r=[40]++([108,105,102,116,32]++(tmL a++([41]++r))):=by simp only[zL,oL];rfl
  rw[e,tX,D0,vT (V r) (sub a (by simp))];rfl
theorem tD (l:Bl):(word l).1.length+(word l).2.length=l.length/\(word l).2 <:+ l:=by have h:=F8 l;exact⟨by rw[<-oK,h],⟨_,h⟩⟩
theorem zk {p l r:Bl}(h:pre p l=some r):r.length+p.length=l.length/\r <:+ l:=by have e:=zg h;exact⟨by rw[e,oK];omega,⟨_,e.symm⟩⟩
theorem u7:∀ {n:Nat}{l:Bl}{t:Ty}{r:Bl},wJ n l=some (t,r)->r.length+t.cnt<=l.length/\r <:+ l
 | 0,l,t,r,h=>by simp[wJ]at h
 | n+1,l,t,r,h=>by
   simp only[wJ]at h;split at h
   ·rename_i r0 I;simp only[od,mv]at h;obtain⟨rfl,rfl⟩:=h;obtain⟨a,b⟩:=zk I;exact⟨by rw[<-a];exact oG _,b⟩
   split at h
   ·rename_i r0 I;simp only[od,mv]at h;obtain⟨rfl,rfl⟩:=h;obtain⟨a,b⟩:=zk I;exact⟨by rw[<-a];exact oG _,b⟩
   split at h
   ·rename_i r0 I;obtain⟨⟨x,r1⟩,J,h⟩:=oY.1 h;obtain⟨U,O,h⟩:=nY.1 h;cases h;obtain⟨a0,b0⟩:=zk I;obtain⟨V,b1⟩:=u7 J;obtain⟨a2,b2⟩:=zk O;have:(v7 x).cnt=1+(x.cnt+0):=rfl;simp only[oR,o5]at a0 a2;exact⟨by show _+(v7 x).cnt<=_;omega,b2.trans (b1.trans b0)⟩
   ·obtain⟨r0,I,h⟩:=oY.1 h;obtain⟨⟨x,r1⟩,J,h⟩:=oY.1 h;obtain⟨U,O,h⟩:=oY.1 h;obtain⟨⟨y,r3⟩,Y,h⟩:=oY.1 h;obtain⟨r4,Z,h⟩:=nY.1 h;cases h;obtain⟨a0,b0⟩:=zk I;obtain⟨V,b1⟩:=u7 J;obtain⟨a2,b2⟩:=zk O;obtain⟨a3,b3⟩:=u7 Y;obtain⟨a4,b4⟩:=zk Z;have:(DJ x y).cnt=1+(x.cnt+(y.cnt+0)):=rfl;simp only[oR,o5]at a0 a2 a4;exact⟨by show _+(DJ x y).cnt<=_;omega,b4.trans (b3.trans (b2.trans (b1.trans b0)))⟩
def SfT (T:Bl->Option (Tm × Bl)):Prop:=∀ {l:Bl} {t:Tm} {r:Bl},T l=some (t,r)->t.cnt+3*r.length<=3*l.length+3/\r <:+ l
theorem u6 {T:Bl->Option (Tm × Bl)}(J:SfT T){b e:Bl}:∀ {k:Nat}{f:Bool}{l:Bl}{ts:List Tm}{r:Bl},y8 T b e k f l=some (ts,r)->zx ts+3*r.length+3*e.length<=3*l.length+3*k/\r <:+ l
 | 0,f,l,ts,r,h=>by simp only[y8]at h;obtain⟨r0,I,h⟩:=nY.1 h;cases h;obtain⟨a0,b0⟩:=zk I;exact⟨by simp only[zx];omega,b0⟩
 | k+1,f,l,ts,r,h=>by
   simp only[y8]at h;obtain⟨r0,I,h⟩:=oY.1 h;obtain⟨⟨x,r1⟩,O,h⟩:=oY.1 h;obtain⟨⟨y,V⟩,U,h⟩:=nY.1 h;cases h;obtain⟨Y,b1⟩:=J O;obtain⟨a2,b2⟩:=u6 J U;have a0:r0.length<=l.length/\r0 <:+ l:=by
    cases f
    ·obtain⟨a,b⟩:=zk I;exact⟨by omega,b⟩
    ·simp at I;subst I;exact⟨oG _,List.suffix_refl _⟩
   simp only[zx];simp only at a2;exact⟨by omega,b2.trans (b1.trans a0.2)⟩
theorem sg {k:Int}{nm ot:Bl}{ty re:Ty}{x:Option (List Tm × Bl)}{t:Tm}{r:Bl}(h:mkF k nm ot ty re x=some (t,r)):∃ ts,x=some (ts,r)/\t.cnt=1+ty.cnt+re.cnt+zx ts:=by obtain⟨⟨y,r1⟩,I,h⟩:=nY.1 h;cases h;exact⟨y,I,rfl⟩
theorem zc:tZero.cnt=1:=rfl
theorem Jn {sp:Bool}{T:Bl->Option (Tm × Bl)}(Y:SfT T){l:Bl}{t:Tm}{r:Bl}(h:uA sp T l=some (t,r)):t.cnt+3*r.length<=3*l.length+6/\r <:+ l:=by
 have form:∀ {k:Int} {p b nm ot l0:Bl} {m:Nat} {l:Bl},1<=p.length->m<=p.length->pre p l=some l0->mkF k nm ot tZero tZero (y8 T b [41] m true l0)=some (t,r)->t.cnt+3*r.length<=3*l.length+6/\r <:+ l:=λhp hm I h=>by obtain⟨a0,b0⟩:=zk I;obtain⟨ts,O,J⟩:=sg h;obtain⟨U,b1⟩:=u6 Y O;rw[zc]at J;simp only[oR,o5]at U;exact⟨by omega,b1.trans b0⟩
 simp only[uA]at h;split at h
 ·rename_i I;exact form (by decide) (by decide) I h
 split at h
 ·rename_i I;exact form (by decide) (by decide) I h
 split at h
 ·rename_i I;exact form (by decide) (by decide) I h
 split at h
 ·rename_i I;exact form (by decide) (by decide) I h
 split at h
 ·rename_i r0 I;simp only[Cl]at h;obtain⟨r1,O,h⟩:=oY.1 h;obtain⟨a0,b0⟩:=zk I;obtain⟨aw,Z⟩:=tD r0
  have:=form (by decide) (m:=2) (p:=[61,61]) (l:=61::61::r1) (by decide) rfl h
  obtain⟨U,b1⟩:=zk O;obtain⟨ts,J,V⟩:=sg h;obtain⟨a2,b2⟩:=u6 Y J;rw[zc]at V;simp only[oR,o5]at a0 U a2;exact⟨by omega,b2.trans (b1.trans (Z.trans b0))⟩
 split at h
 ·rename_i r0 I;simp only[E2]at h;obtain⟨r1,O,h⟩:=oY.1 h;obtain⟨⟨ty,r2⟩,J,h⟩:=oY.1 h;obtain⟨r3,V,h⟩:=oY.1 h;obtain⟨a0,b0⟩:=zk I;obtain⟨aw,Z⟩:=tD r0;obtain⟨U,b1⟩:=zk O;obtain⟨a2,b2⟩:=u7 J;obtain⟨a3,b3⟩:=zk V;obtain⟨ts,h4,h5⟩:=sg h;obtain⟨a4,b4⟩:=u6 Y h4;rw[zc]at h5;simp only[oR,o5]at a0 U a3 a4;simp only at h5;exact⟨by omega,b4.trans (b3.trans (b2.trans (b1.trans (Z.trans b0))))⟩
 split at h
 ·rename_i r0 I;simp only[Cm]at h;obtain⟨m,hm,h⟩:=oY.1 h;obtain⟨r1,O,h⟩:=oY.1 h;obtain⟨⟨ty,r2⟩,J,h⟩:=oY.1 h;obtain⟨r3,V,h⟩:=oY.1 h;obtain⟨⟨re,r4⟩,h4,h⟩:=oY.1 h;obtain⟨r5,h5,h⟩:=oY.1 h;obtain⟨a0,b0⟩:=zk I;obtain⟨aw,Z⟩:=tD r0;obtain⟨am,bm⟩:=zk hm;obtain⟨av,bv⟩:=tD m;obtain⟨U,b1⟩:=zk O;obtain⟨a2,b2⟩:=u7 J;obtain⟨a3,b3⟩:=zk V;obtain⟨a4,b4⟩:=u7 h4;obtain⟨a5,b5⟩:=zk h5;obtain⟨ts,h6,h7⟩:=sg h;obtain⟨a6,b6⟩:=u6 Y h6;simp only[oR,o5]at a0 am U a3 a5 a6;simp only at h7;exact⟨by omega,b6.trans (b5.trans (b4.trans (b3.trans (b2.trans (b1.trans (bv.trans (bm.trans (Z.trans b0))))))))⟩
 ·simp only[H6]at h;obtain⟨⟨x,r0⟩,I,h⟩:=oY.1 h;obtain⟨a0,b0⟩:=Y I;simp only at h;cases r0 with
  | nil=>simp[Fs]at h
  | cons c r1=>
  simp only[Fs]at h;have aa:∀ {k:Int} {nm ot:ByteArray},((T r1).bind λy=>(pre [41] y.2).map λr=>(Tm.mk k nm ot 0 tZero tZero [x,y.1],r))=some (t,r)->t.cnt+3*r.length<=3*l.length+6/\r <:+ l:=λh=>by obtain⟨⟨y,r2⟩,J,h⟩:=oY.1 h;obtain⟨r3,V,h⟩:=nY.1 h;cases h;obtain⟨a2,b2⟩:=Y J;obtain⟨a3,b3⟩:=zk V;simp only[oR,o5]at a0 a3;simp only[Tm.cnt,zx,zc];exact⟨by omega,b3.trans (b2.trans ((List.suffix_cons _ _).trans b0))⟩
  split at h
  ·exact aa h
  split at h
  ·cases h
  ·exact aa h
theorem Iu {sp:Bool}{l:Bl}{t:Tm}{r:Bl}(h:ER sp l=some (t,r)):t.cnt+3*r.length<=3*l.length+3/\r <:+ l:=by
 obtain⟨O,I⟩:=tD l;have J:∀ n,(J0 n).cnt=3:=λ_=>rfl;have c2:∀ w,(tVr w).cnt=3:=λ_=>rfl;have n1:∀ n,some (J0 n,(word l).2)=some (t,r)->t.cnt+3*r.length<=3*l.length+3/\r <:+ l:=λn h=>by cases h;rw[J];exact⟨by omega,I⟩
 have n2:∀ w,some (tVr w,(word l).2)=some (t,r)->t.cnt+3*r.length<=3*l.length+3/\r <:+ l:=λn h=>by cases h;rw[c2];exact⟨by omega,I⟩
 unfold ER at h;split at h
 ·cases h
 cases sp
 ·simp only at h;split at h
  ·exact n1 _ h
  split at h
  ·cases h
  ·exact n2 _ h
 ·simp only at h;split at h
  ·obtain⟨n,_,h⟩:=nY.1 h;exact n1 n (oN some h)
  ·exact n2 _ h
theorem Kc (sp:Bool):∀ n:Nat,SfT (xu sp n)
 | 0,l,t,r,h=>by simp[xu]at h
 | n+1,l,t,r,h=>by
   have J:SfT (xu sp n):=Kc sp n;simp only[xu]at h;have bl:∀ {p r0:Bl} {b:Int},p.length=2->pre p l=some r0->some (tBl b,r0)=some (t,r)->t.cnt+3*r.length<=3*l.length+3/\r <:+ l:=λY I h=>by cases h;obtain⟨a0,b0⟩:=zk I;exact⟨by show 3+_<=_;omega,b0⟩
   split at h
   ·rename_i I;exact bl rfl I h
   split at h
   ·rename_i I;exact bl rfl I h
   have un:∀ {c:UInt8} {k:Int} {e r0:Bl},pre [c] l=some r0->mkF k [] [] tZero tZero (y8 (xu sp n) [] e 1 true r0)=some (t,r)->t.cnt+3*r.length<=3*l.length+3/\r <:+ l:=λI h=>by obtain⟨a0,b0⟩:=zk I;obtain⟨ts,O,U⟩:=sg h;obtain⟨V,b1⟩:=u6 J O;rw[zc]at U;simp only[oR,o5]at a0;exact⟨by omega,b1.trans b0⟩
   split at h
   ·rename_i I;exact un I h
   split at h
   ·rename_i I;exact un I h
   split at h
   ·rename_i r0 I;obtain⟨a0,b0⟩:=zk I;obtain⟨V,b1⟩:=Jn J h;simp only[oR,o5]at a0;exact⟨by omega,b1.trans b0⟩
   ·exact Iu h
end Go.Proofs.YtldbmnklnpfpfaaGreatDoor
set_option maxRecDepth 100000
namespace Go.Proofs.YtldbmnklnpfpfaaGreatDoor
open Go Go.Proofs Go.Proofs.Tryz Go.IntWalk
structure Atl (s:ByteArray) (n:Int) (l:Bl):Prop where
 sz:s.size<=1073741824
 lo:0<=n
 hi:n<=s.size
 eq:s.data.toList.drop n.toNat=l
theorem Atl.len {s:ByteArray}{n:Int}{l:Bl}(h:Atl s n l):(l.length:Int)=s.size - n:=by
 have I:=h.lo;have J:=h.hi;have:s.data.toList.length=s.size:=by simp
 rw[<-h.eq,mK];omega
theorem Atl.app {s:ByteArray}{n:Int}{l p r:Bl}(h:Atl s n l)(e:l=p++r){m:Int}(I:m=n+p.length):Atl s m r:=by subst e;have J:=h.len;have O:=h.lo;rw[oK]at J;refine⟨h.sz,by omega,by omega,?_⟩;rw[I,show(n+(p.length:Int)).toNat=n.toNat+p.length by omega,<-List.drop_drop,h.eq,List.drop_left]
theorem Atl.get {s:ByteArray}{n:Int}{c:UInt8}{l:Bl}(h:Atl s n (c::l)):s.data.getD n.toNat (OfNat.ofNat 0)=c:=by
 have I:s.data.toList[n.toNat]?=some c:=by
  have:=oN List.head? h.eq
  rw[List.head?_drop]at this;simpa using this
 rw[o3,<-nF,I];rfl
theorem Atl.nil {s:ByteArray}{n:Int}{l:Bl}(h:Atl s n l):l=[]↔n=s.size:=by
 have:=h.len
 constructor
 ·intro e;rw[e]at this;simp at this;omega
 ·intro e;exact oV (by omega)
theorem ur (s:ByteArray)(a b:Nat):(s.extract a b).data.toList=(s.data.toList.drop a).take (b - a):=by rw[ByteArray.data_extract,Array.toList_extract,List.extract_eq_take_drop]
theorem Atl.ext {s:ByteArray}{n:Int}{l:Bl}(h:Atl s n l)(k:Nat){m:Int}(I:m=n+k):(s.extract n.toNat m.toNat).data.toList=l.take k:=by have J:=h.lo;rw[ur,h.eq,I,show(n+(k:Int)).toNat - n.toNat=k by omega]
theorem pJ {p l:Bl}:l.take p.length=p↔∃ r,pre p l=some r:=by
 constructor
 ·intro e;refine⟨l.drop p.length,?_⟩
  conv=>lhs;rw[<-nK p.length l,e]
  exact xw _ _
 ·rintro⟨r,e⟩
  rw[zg e,List.take_left]
theorem Hz {p l:Bl}(h:l.length<p.length):pre p l=none:=by
 cases e:pre p l with
 | none=>rfl
 | some r=>have:=zg e;rw[this,oK]at h;omega
abbrev bl (t:ByteArray):Bl:=t.data.toList
theorem xM (t:ByteArray):(bl t).length=t.size:=by simp
inductive Rd {α:Type} (is:α->D->Prop) (s:ByteArray) (b:Bool) (m:Option (α × Bl)):D->Int->Bool->Prop
 | ok {t:α} {r:Bl} {d:D} {n:Int}:b=false->m=some (t,r)->is t d->Atl s n r->Rd is s b m d n false
 | no {l:Bl} {d:D} {n:Int}:b=true\/m=none->Atl s n l->Rd is s b m d n true
theorem xp {s:ByteArray} {n:Int} {l:Bl} (J:Atl s n l) (t:ByteArray) (ht:t.size<=100) (b:Bool) (N:Nat) (Q:QT [.bool,.str,.i,.bool])
  (Y:∀ r n' N',N<=N'->b=false->pre (bl t) l=some r->Atl s n' r->Q true s n' b N') (U:∀ N',N<=N'->(b=true\/pre (bl t) l=none)->Q false s n b N') :
  BCalls prog 28 [.bool,.str,.i,.bool] [.pb 0 0 0 0,.str t] [.var [.str s,.j n,.bool b]] N Q:=by
 have g1:=J.lo;have g2:=J.hi;have g3:=J.sz;have hl:=J.len;have e:IntKind.i64.wrap (n+(t.size:Int))=n+t.size:=i64_in _ (by omega);refine pA N t s n b Q λE=>Br.of (λV=>⟨zn,λN1 I=>U _ I (.inl V)⟩) λV=>?_;rw[e];refine Br.dec (λZ=>⟨zn,λN1 I=>U _ I (.inr (Hz (by rw[xM];omega)))⟩) λZ=>⟨⟨g1,by omega,by omega⟩,Br.nstr (λhn=>⟨zn,λN1 I=>U _ I (.inr ?_)⟩) λhe=>⟨zn,λN1 I=>?_⟩⟩
 ·cases O:pre (bl t) l with
  | none=>rfl
  | some r=>exact absurd (zZ ((J.ext (bl t).length (by rw[xM])).trans (pJ.2 ⟨r,O⟩))) hn
 ·obtain⟨r,O⟩:=pJ.1 ((J.ext (bl t).length (by rw[xM])).symm.trans (oN bl he));exact Y r _ _ I V O (J.app (zg O) (by rw[xM]))
theorem wn {s:ByteArray} {n:Int} {l:Bl} (hr:Atl s n l) (t:ByteArray) (ht:t.size<=100) (b:Bool) (N:Nat) (Q:QT [.str,.i,.bool])
  (h1:∀ r n' N',N<=N'->b=false->pre (bl t) l=some r->Atl s n' r->Q s n' false N') (Z:∀ N',N<=N'->(b=true\/pre (bl t) l=none)->Q s n true N') :
  BCalls prog 30 [.str,.i,.bool] [.pb 0 0 0 0,.str t] [.var [.str s,.j n,.bool b]] N Q:=
 q9 N t s n b Q λE=>Br.of (λJ=>by subst J;exact⟨zn,λN1 I=>Z _ I (.inl rfl)⟩) λ_ N1 I=>xp hr t ht b N1 _ (λr n' N2 O J U V _=>⟨zn,λN3 Y=>h1 r _ _ (by omega) J U V⟩) λN2 O U _=>⟨zn,λN3 Y=>Z _ (by omega) U⟩
theorem B4 {s:ByteArray} {n:Int} {l:Bl} (V:Atl s n l) (b:Bool) (N:Nat) (Q:QT [.str,.str,.i,.bool])
  (hQ:∀ n' N',N<=N'->Atl s n' (word l).2->Q ⟨(word l).1.toArray⟩ s n' b N'):BCalls prog 34 [.str,.str,.i,.bool] [.pb 0 0 0 0] [.var [.str s,.j n,.bool b]] N Q:=by
 have g1:=V.lo;have g2:=V.hi;have g3:=V.sz;refine pC N s n b Q λE=>?_;have key:∀(l1 p:Bl) (k:Int),Atl s k l1->l=p++l1->k=n+p.length->(∀ c∈p,idC c=true)->zm E Q N n s k b N:=by
  intro l1;have out:∀(l1 p:Bl) (k:Int),Atl s k l1->l=p++l1->k=n+p.length->(∀ c∈p,idC c=true)->Stop l1->(0<=n/\n<=k/\k<=(s.size:Int))/\zO E [.var [.str (bytes []),.j 0,.bool false]]/\∀ N1,N<=N1->Q (ByteArray.extract s n.toNat k.toNat) s k b N1:=λl1 p k I J Y O hs=>by
   have k2:=I.hi;refine⟨⟨g1,by omega,k2⟩,zn,λN1 aa=>?_⟩;have hw:word l=(p,l1):=by rw[J];exact pM p l1 O hs
   have hx:ByteArray.extract s n.toNat k.toNat=⟨p.toArray⟩:=zZ (by rw[V.ext p.length Y,J,List.take_left]);rw[hx]
   have:=hQ k N1 aa
   rw[hw]at this;exact this I
  induction l1 with
  | nil=>
    intro p k I J Y O
    have:=(I.nil).1 rfl
    exact uT _ _ _ _ _ _ _ _ (Br.dec (λh=>by omega) λ_=>out _ p k I J Y O λc r e=>by cases e)
  | cons c l1 ih=>
    intro p k I J Y O;have hg:=I.get;have Z:=I.len;have k1:=I.lo;simp only[oR]at Z;have U:0<=k/\k<(s.size:Int):=⟨k1,by omega⟩
    have nx:idC c=true->zm E Q N n s (IntKind.i64.wrap (k+1)) b N:=λhc=>by
     rw[i64_in (k+1) (by omega)];refine ih (p++[c]) (k+1) (I.app (p:=[c]) rfl rfl) (by rw[J,oL];rfl) (by rw[oK];simp only[oR,o5];omega) λx hx=>?_;rcases oP.1 hx with hx | hx
     ·exact O x hx
     ·rw[nG.1 hx];exact hc
    have ot:idC c=false->_:=λhc=>out _ p k I J Y O (xW hc l1);have ci:∀ P:Prop,(idC c=true->P)->(48<=c.toNat/\c.toNat<=57\/97<=c.toNat/\c.toNat<=122)->P:=λP h g=>h (by unfold idC;exact mB g);have cn:∀ P:Prop,(idC c=false->P)->¬(48<=c.toNat/\c.toNat<=57\/97<=c.toNat/\c.toNat<=122)->P:=λP h g=>h (by unfold idC;exact nq g);refine uT _ _ _ _ _ _ _ _ (Br.dec (λ_=>?_) λh=>by omega);rw[hg];exact⟨U,Br.dec (λa1=>⟨U,Br.dec (λa2=>ci _ nx (by omega)) λa2=>⟨U,Br.dec (λa3=>⟨U,Br.dec (λa4=>ci _ nx (by omega)) λa4=>cn _ ot (by omega)⟩) λa3=>cn _ ot (by omega)⟩⟩) λa1=>⟨U,Br.dec (λa3=>⟨U,Br.dec (λa4=>ci _ nx (by omega)) λa4=>cn _ ot (by omega)⟩) λa3=>cn _ ot (by omega)⟩⟩
 exact key l [] n V rfl (by simp) (by simp)
theorem Md:∀(j:Nat),j<=8->∀(n1:Int),n1+j=9->∀ {s:ByteArray} {n:Int} {l:Bl} (_:Atl s n l) (b:Bool) (N:Nat) (Q:QT [.ag 2,.str,.i,.bool])
  (_:∀ d n' b' N',N<=N'->Rd Ty.Is s b (wJ j l) d n' b'->Q d s n' b' N'),BCalls prog 62 [.ag 2,.str,.i,.bool] [.pb 0 0 0 0,.j n1] [.var [.str s,.j n,.bool b]] N Q:=by
 intro j
 induction j with
 | zero=>intro _ n1 bm s n l hr b N Q J;exact vp N n1 s n b Q λE=>Br.of (λhb=>by subst hb;exact⟨zn,λN1 Z=>J _ _ _ _ Z (.no (.inl rfl) hr)⟩) λ_=>Br.dec (λh=>⟨zn,λN1 Z=>J _ _ _ _ Z (by rw[mB h];exact .no (.inr rfl) hr)⟩) λh=>by omega
 | succ j ih=>
   intro hj n1 bm s n l hr b N Q J;have e1:IntKind.i64.wrap (n1+1)=n1+1:=i64_in _ (by omega);refine vp N n1 s n b Q λE=>Br.of (λhb=>by subst hb;exact⟨zn,λN1 Z=>J _ _ _ _ Z (.no (.inl rfl) hr)⟩) λhb=>Br.dec (λ_=>by omega) λh8 N1 Z=>?_;subst hb;rw[nq h8];refine xp hr _ (by decide) _ N1 _ (λr n2 N2 bn _ hp bp _=>?_) λN2 bn hp _=>?_
   ·exact Br.of (λ_ N3 bq=>DW N3 _ λy N4 a1 hy _ _ _=>⟨zn,λN5 a6=>J _ _ _ _ (by omega) (.ok rfl (by simp only[wJ];rw[show pre [73] l=_ from hp]) hy bp)⟩) λh=>by cases h
   have hp:=hp.resolve_left (by simp);refine Br.of (λh=>by cases h) λ_ N3 bq=>xp hr _ (by decide) _ N3 _ (λr n4 N4 a1 _ hq bt _=>?_) λN4 a1 hq _=>?_
   ·exact Br.of (λ_ N5 a6=>CT N5 _ λy N6 a7 hy _ _ _=>⟨zn,λN7 a8=>J _ _ _ _ (by omega) (.ok rfl (by simp only[wJ];rw[show pre [73] l=_ from hp,show pre [66] l=_ from hq]) hy bt)⟩) λh=>by cases h
   have hq:=hq.resolve_left (by simp);refine Br.of (λh=>by cases h) λ_ N5 a6=>xp hr _ (by decide) _ N5 _ (λr n6 N6 a7 _ hu bv _=>Br.of (λ_ N7 a8=>?_) λh=>by cases h) λN6 a7 hu _=>Br.of (λh=>by cases h) λ_ N7 a8=>?_
   ·have em:wJ (j+1) l=(wJ j r).bind λx=>(pre [62] x.2).map λr=>(v7 x.1,r):=by simp only[wJ];rw[show pre [73] l=_ from hp,show pre [66] l=_ from hq,show pre [60] l=_ from hu]
    rw[em]at J;rw[e1];refine ih (by omega) (n1+1) (by omega) bv _ N7 _ λd n8 b8 N8 ba hd _ _ N9 bb=>?_;cases hd with
    | @ok t r8 _ _ _ hm hd V=>rw[hm]at J;refine wn V _ (by decide) _ N9 _ (λac bc aj Y _ hv I _=>⟨⟨rfl,rfl⟩,⟨rfl,rfl⟩,⟨rfl,rfl⟩,⟨rfl,rfl⟩,⟨rfl,rfl⟩,λa ae ah _=>⟨zn,λaa O=>J _ _ _ _ (by omega) (.ok rfl (by rw[oI];show(pre [62] r8).map _=_;rw[show pre [62] r8=_ from hv];rfl) (show(v7 t).Is _ from Ty.is_mk.2 ⟨_,_,_,rfl,by simp,d,[],rfl,hd,rfl⟩) I)⟩⟩) λaj Y hv _=>⟨⟨rfl,rfl⟩,⟨rfl,rfl⟩,⟨rfl,rfl⟩,⟨rfl,rfl⟩,⟨rfl,rfl⟩,λa ae ah _=>⟨zn,λaa O=>J _ _ _ _ (by omega) (.no (.inr (by rw[oI];show(pre [62] r8).map _=_;rw[show pre [62] r8=_ from hv.resolve_left (by simp)];rfl)) V)⟩⟩
    | no hm V=>have hm:=hm.resolve_left (by simp);rw[hm]at J;exact wn V _ (by decide) _ N9 _ (λac bc aj Y h=>by cases h) λaj Y hv _=>⟨⟨rfl,rfl⟩,⟨rfl,rfl⟩,⟨rfl,rfl⟩,⟨rfl,rfl⟩,⟨rfl,rfl⟩,λa ae ah _=>⟨zn,λaa O=>J _ _ _ _ (by omega) (.no (.inr rfl) V)⟩⟩
   ·have hu:=hu.resolve_left (by simp);have em:wJ (j+1) l=(pre [40] l).bind λr=>(wJ j r).bind λx=>(pre [62] x.2).bind λr=>(wJ j r).bind λy=>(pre [41] y.2).map λr=>(DJ x.1 y.1,r):=by simp only[wJ];rw[show pre [73] l=_ from hp,show pre [66] l=_ from hq,show pre [60] l=_ from hu]
    rw[em]at J;refine wn hr _ (by decide) _ N7 _ (λr8 n8 N8 ba _ hv V _=>Br.of (λh=>by cases h) λ_ N9 bb=>?_) λN8 ba hv _=>Br.of (λ_=>⟨zn,λN9 bb=>J _ _ _ _ (by omega) (.no (.inr (by rw[show pre [40] l=_ from hv.resolve_left (by simp)];rfl)) hr)⟩) λh=>by cases h
    rw[show pre [40] l=_ from hv,oI]at J;rw[e1];refine ih (by omega) (n1+1) (by omega) V _ N9 _ λd bc cc aj Y hd _ _ ae ah=>?_;cases hd with
    | @ok t ac _ _ _ hm hd I=>
      rw[hm,oI]at J;refine wn I _ (by decide) _ ae _ (λbw bz aa O _ ak bd _=>Br.of (λh=>by cases h) λ_ ax aq=>?_) λaa O ak _=>Br.of (λ_=>⟨zn,λax aq=>J _ _ _ _ (by omega) (.no (.inr (by show(pre [62] ac).bind _=_;rw[show pre [62] ac=_ from ak.resolve_left (by simp)];rfl)) I)⟩) λh=>by cases h
      have ab:=J;simp only[show pre [62] ac=_ from ak,oI]at ab;refine ih (by omega) (n1+1) (by omega) bd _ ax _ λe cd ce cf b9 he _ _ bg ca=>?_;cases he with
      | @ok u al _ _ _ ay he U=>rw[ay,oI]at ab;refine wn U _ (by decide) _ bg _ (λb3 b7 az ai _ ao bh _=>⟨⟨rfl,rfl⟩,⟨rfl,rfl⟩,⟨rfl,rfl⟩,λa bi au _=>⟨zn,λbj aw=>ab _ _ _ _ (by omega) (.ok rfl (by show(pre [41] al).map _=_;rw[show pre [41] al=_ from ao];rfl) (show(DJ t u).Is _ from Ty.is_mk.2 ⟨_,_,_,rfl,by simp,d,[e],rfl,hd,e,[],rfl,he,rfl⟩) bh)⟩⟩) λaz ai ao _=>⟨⟨rfl,rfl⟩,⟨rfl,rfl⟩,⟨rfl,rfl⟩,λa bi au _=>⟨zn,λbj aw=>ab _ _ _ _ (by omega) (.no (.inr (by show(pre [41] al).map _=_;rw[show pre [41] al=_ from ao.resolve_left (by simp)];rfl)) U)⟩⟩
      | no ay U=>rw[ay.resolve_left (by simp)]at ab;exact wn U _ (by decide) _ bg _ (λb3 b7 az ai h=>by cases h) λaz ai ao _=>⟨⟨rfl,rfl⟩,⟨rfl,rfl⟩,⟨rfl,rfl⟩,λa bi au _=>⟨zn,λbj aw=>ab _ _ _ _ (by omega) (.no (.inr rfl) U)⟩⟩
    | no hm I=>rw[hm.resolve_left (by simp)]at J;exact wn I _ (by decide) _ ae _ (λbw bz aa O h=>by cases h) λaa O ak _=>Br.of (λ_=>⟨zn,λax aq=>J _ _ _ _ (by omega) (.no (.inr rfl) I)⟩) λh=>by cases h
end Go.Proofs.YtldbmnklnpfpfaaGreatDoor
set_option maxRecDepth 100000
namespace Go.Proofs.YtldbmnklnpfpfaaGreatDoor
open Go Go.Proofs Go.Proofs.Tryz Go.IntWalk
theorem hdz {nm ot:ByteArray}(I:nm.size<=4611686018427387904)(J:ot.size<=4611686018427387904):Tm.Hd nm ot tZero tZero (.j 0) (.sl none 2 [] 0) (.j 0) (.sl none 2 [] 0):=⟨I,J,uI 0,uI 0⟩
theorem wO (k n:Int){s:ByteArray}(hs:s.size<=4611686018427387904):(Tm.mk k s (bytes []) n tZero tZero []).Is (.ag [.j k,.t s,.t (bytes []),.j n,.j 0,.sl none 2 [] 0,.j 0,.sl none 2 [] 0,.sl none 9 [] 0]):=
 Tm.is_mk.2 ⟨_,_,_,_,_,_,_,rfl,hdz hs (by decide),by simp,rfl⟩
theorem wU {s:ByteArray}{n:Int}{l:Bl}(h:Atl s n l):(⟨(word l).1.toArray⟩:ByteArray).size<=1073741824:=by have I:=h.len;have J:=h.lo;have O:=h.sz;have U:=(tD l).1;show(word l).1.toArray.size<=_;rw[nc];omega
theorem L1 (T:Bl->Option (Tm × Bl))(b e l:Bl):y8 T b e 1 true l=(T l).bind λx=>(pre e x.2).map λr=>([x.1],r):=by
 simp only[y8,nu,oI];cases T l with
 | none=>rfl
 | some x=>simp only[oI];cases pre e x.2<;>rfl
def DP (dep:Int)(T:Bl->Option (Tm × Bl)):Prop:=∀(s:ByteArray) (n:Int) (l:Bl) (b:Bool) (N:Nat) (Q:QT [.ag 9,.str,.i,.bool]),Atl s n l->(∀ d n' b' N',N<=N'->Rd Tm.Is s b (T l) d n' b'->Q d s n' b' N')->BCalls prog 12 [.ag 9,.str,.i,.bool] [.pb 0 0 0 0,.j dep] [.var [.str s,.j n,.bool b]] N Q
structure Ar (T:Bl->Option (Tm × Bl)) (s:ByteArray) (b:Bool) (m:Nat) (l:Bl) (j:Nat) (n1:Int) (b1:Bool) (l0 ts:List Tm) (es:List D):Prop where
 at_:∃ l1,Atl s n1 l1/\(b1=false->b=false/\y8 T [32] [41] m true l=(y8 T [32] [41] j false l1).map fun y=>(ts++y.1,y.2))
 bad:b1=true->b=true\/y8 T [32] [41] m true l=none
 es:b1=false->All2 Tm.Is (l0++ts) es
theorem Ar.next {T:Bl->Option (Tm × Bl)}{s:ByteArray}{b:Bool}{m:Nat}{l l2:Bl}{j:Nat}{l0 ts:List Tm}{es:List D}(hb:b=false)(h:y8 T [32] [41] m true l=((T l2).bind λx=>(y8 T [32] [41] j false x.2).map λy=>(x.1::y.1,y.2)).map λy=>(ts++y.1,y.2))(J:All2 Tm.Is (l0++ts) es){x:D}{Y:Int}{Z:Bool}(O:Rd Tm.Is s false (T l2) x Y Z):∃ U,Ar T s b m l j Y Z l0 U (es++[x]):=by
 cases O with
 | @ok t r _ _ _ V O I=>refine⟨ts++[t],⟨r,I,λ_=>⟨hb,?_⟩⟩,by simp,λ_=>by rw[<-oL];exact J.snoc O⟩;rw[h,V,oI,Option.map_map];congr 1;funext y;simp
 | no V I=>refine⟨[],⟨_,I,by simp⟩,λ_=>.inr ?_,by simp⟩;rw[h,V.resolve_left (by simp)];rfl
theorem H1 {dep:Int} {T:Bl->Option (Tm × Bl)} (hT:DP dep T) {k m:Int} {nm ot:ByteArray} {ty re:Ty} {t0 t1 r0 r1:D} (hh:Tm.Hd nm ot ty re t0 t1 r0 r1) {l0:List Tm} {es0:List D} (h0:All2 Tm.Is l0 es0) (ay:es0.length<=1) {a0:Option Addr} {c0:Nat} (ak:∀ x,Lt a0 es0 c0 [x])
  (n2:Nat) (az:1<=n2/\n2<=3) {s:ByteArray} {n:Int} {l:Bl} (hr:Atl s n l) (b:Bool) (N:Nat) (Q:QT [.ag 9,.str,.i,.bool])
  (hQ:∀ d n' b' N',N<=N'->Rd (λts d=>(Tm.mk k nm ot m ty re (l0++ts)).Is d) s b (y8 T [32] [41] n2 true l) d n' b'->Q d s n' b' N'):BCalls prog 63 [.ag 9,.str,.i,.bool] [.pb 0 0 0 0,.dg 9 (.ag [.j k,.t nm,.t ot,.j m,t0,t1,r0,r1,.sl a0 9 es0 c0]),.j (n2:Int),.j dep] [.var [.str s,.j n,.bool b]] N Q:=by
 refine vq N _ n2 dep s n b Q λE _=>?_;have O:∀ {j:Nat} {ts:List Tm} {es:List D} {n1:Int} {b1:Bool},Ar T s b n2 l j n1 b1 l0 ts es->b1=true\/j=0->es.length<=10->∀(N1:Nat) (Q1:QT [.str,.i,.bool]),(∀ n' b' N2,N1<=N2->(∀ a c,Rd (λts d=>(Tm.mk k nm ot m ty re (l0++ts)).Is d) s b (y8 T [32] [41] n2 true l) (.ag [.j k,.t nm,.t ot,.j m,t0,t1,r0,r1,.sl a 9 es c]) n' b')->Q1 s n' b' N2)->BCalls prog 30 [.str,.i,.bool] [.pb 0 0 0 0,.str (bytes [41])] [.var [.str s,.j n1,.bool b1]] N1 Q1:=λ{j ts es n1 b1} U hj ai N1 Q1 aj=>by
  obtain⟨l1,V,aa⟩:=U.at_;refine wn V _ (by decide) _ N1 _ (λr n' N2 I hb hp al=>aj _ _ _ I λa c=>?_) λN2 I hp=>aj _ _ _ I λa c=>.no ?_ V
  ·obtain⟨h1,h2⟩:=aa hb;obtain rfl:=hj.resolve_left (by simp[hb]);refine .ok h1 (t:=ts) (r:=r) ?_ (Tm.is_mk.2 ⟨_,_,_,_,_,_,_,rfl,hh,by omega,U.es hb⟩) al;rw[h2];simp only[y8];rw[show pre [41] l1=_ from hp];simp
  ·cases b1 with
   | true=>exact U.bad rfl
   | false=>obtain⟨h1,h2⟩:=aa rfl;obtain rfl:=hj.resolve_left (by simp);refine .inr ?_;rw[h2];simp only[y8];rw[show pre [41] l1=_ from hp.resolve_left (by simp)];rfl
 have ah:∀(es:List D) (x:D),es.length<=10->zK es [x] 136:=λes x h=>by unfold zK;rw[oK];simp only[oR,o5];omega
 have key:∀(j:Nat) (Z:Int) (n1:Int) (b1:Bool) (ts:List Tm) (es:List D) (q N':Nat),Z+j=n2->1<=Z->Ar T s b n2 l j n1 b1 l0 ts es->(es.length:Int)<=1+Z->N<=N' ->
   zT E Q N n2 dep Z s n1 b1 (.j k) (.t nm) (.t ot) (.j m) t0 t1 r0 r1 es.length q 0 (bytes []) (bytes []) 0 0 none [] 0 0 none [] 0 none [] 0 es q N':=by
  intro j
  induction j with
  | zero=>intro Z n1 b1 ts es q N' hk ao U ai aq;refine xS _ _ _ _ _ _ _ _ _ _ _ _ _ _ _ _ _ _ _ _ _ _ _ _ _ _ _ _ _ _ _ _ _ _ _ _ _ (Br.dec (λh=>by omega) λ_ N1 ab=>O U (.inr rfl) (by omega) N1 _ λn' b' N2 I hR _=>⟨⟨rfl,rfl⟩,⟨rfl,rfl⟩,⟨rfl,rfl⟩,λa N3 ac _=>⟨zn,λN4 ae=>hQ _ _ _ _ (by omega) (hR a q)⟩⟩)
  | succ j ih=>
    intro Z n1 b1 ts es q N' hk ao U ai aq;have e1:IntKind.i64.wrap (Z+1)=Z+1:=i64_in _ (by omega);cases b1 with
    | true=>refine xS _ _ _ _ _ _ _ _ _ _ _ _ _ _ _ _ _ _ _ _ _ _ _ _ _ _ _ _ _ _ _ _ _ _ _ _ _ (Br.dec (λ_=>Br.of (λh=>by simp at h) λ_ N1 ab=>O U (.inl rfl) (by omega) N1 _ λn' b' N2 I hR _=>⟨⟨rfl,rfl⟩,⟨rfl,rfl⟩,⟨rfl,rfl⟩,λa N3 ac _=>⟨zn,λN4 ae=>hQ _ _ _ _ (by omega) (hR a q)⟩⟩) λh=>by omega)
    | false=>
      obtain⟨l1,V,aa⟩:=U.at_;obtain⟨hb,hM⟩:=aa rfl;have au:=U.es rfl;have nx:∀(J:List Tm) (x:D) (n3:Int) (b3:Bool) (N3 c1:Nat),N<=N3->Ar T s b n2 l j n3 b3 l0 J (es++[x])->zT E Q N n2 dep (IntKind.i64.wrap (Z+1)) s n3 b3 (.j k) (.t nm) (.t ot) (.j m) t0 t1 r0 r1 (es++[x]).length c1 0 (bytes []) (bytes []) 0 0 none [] 0 0 none [] 0 none [] 0 (es++[x]) c1 N3:=λJ x n3 b3 N3 c1 h Y=>by rw[e1];exact ih (Z+1) n3 b3 J (es++[x]) c1 N3 (by omega) (by omega) Y (by rw[oK];simp only[oR,o5];omega) h
      simp only[y8,nh,nO]at hM;refine xS _ _ _ _ _ _ _ _ _ _ _ _ _ _ _ _ _ _ _ _ _ _ _ _ _ _ _ _ _ _ _ _ _ _ _ _ _ (Br.dec (λ_=>Br.of (λ_=>Br.dec (λ_ N1 ab=>?_) λh=>by omega) λh=>by simp at h) λh=>by omega);refine wn V _ (by decide) _ N1 _ (λr n2 N2 I _ hp aw _ N3 ac=>hT s n2 r false N3 _ aw λx n4 b4 N4 ae hx _ _=>⟨⟨rfl,rfl⟩,ah es x (by omega),λc1=>?_⟩) λN2 I hp _ N3 ac=>hT s n1 l1 true N3 _ V λx n4 b4 N4 ae hx _ _=>⟨⟨rfl,rfl⟩,ah es x (by omega),λc1=>?_⟩
      ·rw[show pre [32] l1=_ from hp,oI]at hM;obtain⟨J,Y⟩:=Ar.next hb hM au hx;exact nx J x n4 b4 N4 c1 (by omega) Y
      ·rw[show pre [32] l1=_ from hp.resolve_left (by simp)]at hM;cases hx with
       | no _ ax=>exact nx [] x n4 true N4 c1 (by omega) ⟨⟨_,ax,by simp⟩,λ_=>.inr (by rw[hM];rfl),by simp⟩
       | ok h=>cases h
 refine uV _ _ _ _ _ _ _ _ _ _ _ _ _ _ _ _ _ _ _ _ _ _ _ _ _ _ ?_;cases b with
 | true=>
   have U:Ar T s true n2 l n2 n true l0 [] es0:=⟨⟨l,hr,by simp⟩,λ_=>.inl rfl,by simp⟩
   exact Br.dec (λ_=>Br.of (λh=>by simp at h) λ_ N1 ab=>O U (.inl rfl) (by omega) N1 _ λn' b' N2 I hR _=>⟨zn,λN3 ac=>hQ _ _ _ _ (by omega) (hR a0 c0)⟩) λh=>by omega
 | false=>
   obtain⟨j,rfl⟩:∃ j,n2=j+1:=⟨n2 - 1,by omega⟩
   refine Br.dec (λ_=>Br.of (λ_=>Br.dec (λh=>by omega) λ_=>⟨_,_,_,rfl,λN1 ab=>?_⟩) λh=>by simp at h) λh=>by omega
   refine hT s n l false N1 _ hr λx n4 b4 N4 ae hx _ _=>⟨ak x,ah es0 x (by omega),λc1=>?_⟩
   obtain⟨J,Y⟩:=Ar.next (b:=false) (m:=j+1) (l:=l) (l2:=l) (j:=j) (ts:=[]) rfl (by simp only[y8,nu,oI,o6];simp) (by simpa using h0) hx;exact key j 1 n4 b4 J (es0++[x]) c1 N4 (by omega) (by omega) Y (by rw[oK];simp only[oR,o5];omega) (by omega)
theorem Rd.form {k:Int}{nm ot:Bl}{ty re:Ty}{s:ByteArray}{b b':Bool}{m:Option (List Tm × Bl)}{d:D}{n:Int}(h:Rd (λts d=>(Tm.mk k ⟨nm.toArray⟩ ⟨ot.toArray⟩ 0 ty re ([]++ts)).Is d) s b m d n b'):Rd Tm.Is s b (mkF k nm ot ty re m) d n b':=by
 cases h with
 | ok J O hd I=>exact .ok J (by rw[mkF,O];rfl) hd I
 | no h I=>exact .no (h.imp id λh=>by rw[mkF,h];rfl) I
theorem KT {dep:Int} {T:Bl->Option (Tm × Bl)} (J:DP dep T) (k:Int) {nm:Bl} (O:(⟨nm.toArray⟩:ByteArray).size<=4611686018427387904) (n2:Nat) (I:1<=n2/\n2<=3) {s:ByteArray} {n:Int} {l:Bl} (U:Atl s n l) (b:Bool) (N:Nat) (Q:QT [.ag 9,.str,.i,.bool])
  (V:∀ d n' b' N',N<=N'->Rd Tm.Is s b (mkF k nm [] tZero tZero (y8 T [32] [41] n2 true l)) d n' b'->Q d s n' b' N'):BCalls prog 63 [.ag 9,.str,.i,.bool] [.pb 0 0 0 0,.dg 9 (.ag [.j k,.t (⟨nm.toArray⟩),.t (bytes []),.j 0,.j 0,.sl none 2 [] 0,.j 0,.sl none 2 [] 0,.sl none 9 [] 0]),.j (n2:Int),.j dep] [.var [.str s,.j n,.bool b]] N Q:=
 H1 J (hdz O (by decide)) (l0:=[]) rfl (by simp) (a0:=none) (c0:=0) (λ_=>trivial) n2 I U b N Q λd n' b' N' h hd=>V d n' b' N' h hd.form
theorem KV {dep:Int} {T:Bl->Option (Tm × Bl)} (hT:DP dep T) {t:Tm} {x:D} {s:ByteArray} {n:Int} {l:Bl} (I:Atl s n l) (b:Bool) (ht:b=false->t.Is x) (N:Nat) (Q:QT [.ag 9,.str,.i,.bool])
  (hQ:∀ d n' b' N',N<=N'->Rd Tm.Is s b (Fs true T t l) d n' b'->Q d s n' b' N'):BCalls prog 65 [.ag 9,.str,.i,.bool] [.pb 0 0 0 0,.dg 9 x,.j dep] [.var [.str s,.j n,.bool b]] N Q:=by
 have g1:=I.lo;have g2:=I.hi;have g3:=I.sz;have Z:=I.len;have args:∀(k:Int) (nm:ByteArray) (ab:nm.size<=1000) (a:Option Addr) (n1:Int) (l1:Bl) (J:Atl s n1 l1) (_:b=false) (N1:Nat) (_:N<=N1) (Q1:QT [.ag 9,.str,.i,.bool]) (_:∀ d n' b' N',N1<=N'->Rd Tm.Is s b ((T l1).bind λy=>(pre [41] y.2).map λr=>(Tm.mk k nm (bytes []) 0 tZero tZero [t,y.1],r)) d n' b'->Q1 d s n' b' N'),BCalls prog 63 [.ag 9,.str,.i,.bool] [.pb 0 0 0 0,.dg 9 (.ag [.j k,.t nm,.t (bytes []),.j 0,.j 0,.sl none 2 [] 0,.j 0,.sl none 2 [] 0,.sl a 9 [x] 1]),.j 1,.j dep] [.var [.str s,.j n1,.bool b]] N1 Q1:=λk nm ab a n1 l1 J hb N1 ac Q1 ae=>
  H1 hT (hdz (by omega) (by decide)) (l0:=[t]) (FL (ht hb)) (by simp) (λy=>by cases a<;>exact⟨rfl,by simp⟩) 1 ⟨by omega,by omega⟩ J b N1 Q1 λd n' b2 N' h hd=>ae d n' b2 N' h (by
   rw[L1]at hd;cases hd with
   | @ok ts r _ _ hb hm hd I=>obtain⟨⟨y,l2⟩,h1,hm⟩:=oY.1 hm;obtain⟨r',h2,hm⟩:=nY.1 hm;cases hm;exact .ok hb (t:=.mk k nm (bytes []) 0 tZero tZero [t,y]) (r:=r) (by rw[h1,oI];show(pre [41] l2).map _=_;rw[show pre [41] l2=_ from h2];rfl) hd I
   | no h I=>
     refine .no (h.imp id λh=>?_) I;cases h1:T l1 with
     | none=>rfl
     | some y=>rw[h1,oI,Option.map_eq_none_iff]at h;rw[oI,h];rfl)
 have bad:∀(d:D) (l1:Bl) (n1:Int) (N1:Nat),N<=N1->Atl s n1 l1->(b=true\/Fs true T t l=none)->Q d s n1 true N1:=λd l1 n1 N1 h J hn=>hQ _ _ _ _ h (.no hn J);refine pE N x dep s n b Q λE _ N1 ac=>xp I _ (by decide) _ N1 _ (λr n2 N2 ah hb Y ai _=>Br.of (λ_=>⟨⟨rfl,rfl⟩,⟨rfl,rfl⟩,⟨rfl,rfl⟩,⟨rfl,rfl⟩,λa N3 O _ N4 U=>?_⟩) λh=>by cases h) λN2 ah Y _=>Br.of (λh=>by cases h) λ_=>?_
 ·have e:=zg Y;have el:l=32::r:=e;exact args 7 _ (by decide) a n2 r ai hb N4 (by omega) _ λd n' b' N' h hd _ _=>⟨zn,λN5 aa=>hQ _ _ _ _ (by omega) (by rw[el];simp only[Fs,nu];exact hd)⟩
 ·cases b with
  | true=>exact Br.of (λ_=>⟨⟨rfl,rfl⟩,⟨rfl,rfl⟩,⟨rfl,rfl⟩,⟨rfl,rfl⟩,⟨rfl,rfl⟩,λa N3 O _=>⟨zn,λN4 U=>bad _ _ _ _ (by omega) I (.inl rfl)⟩⟩) λh=>by cases h
  | false=>
    have Y:=Y.resolve_left (by simp);refine Br.of (λh=>by cases h) λ_=>?_;cases l with
    | nil=>
      have:=I.nil.1 rfl
      exact Br.dec (λ_=>⟨⟨rfl,rfl⟩,⟨rfl,rfl⟩,⟨rfl,rfl⟩,⟨rfl,rfl⟩,⟨rfl,rfl⟩,λa N3 O _=>⟨zn,λN4 U=>bad _ _ _ _ (by omega) I (.inr rfl)⟩⟩) λh=>by omega
    | cons c r=>
      simp only[oR]at Z;have hc:c≠32:=λe=>by rw[e]at Y;have:=Ma 32 [] r;rw[show pre [32] (32::r)=_ from Y]at this;cases this
      have e1:IntKind.i64.wrap (n+1)=n+1:=i64_in _ (by omega);have ex:ByteArray.extract s n.toNat (n+1).toNat=⟨#[c]⟩:=zZ (I.ext 1 rfl);refine Br.dec (λh=>by omega) λaj=>?_;rw[e1,ex,nq aj];refine⟨⟨g1,by omega,by omega⟩,λN3 O=>wt _ N3 _ λN4 U _=>Br.bne (λV=>⟨⟨rfl,rfl⟩,⟨rfl,rfl⟩,⟨rfl,rfl⟩,⟨rfl,rfl⟩,⟨rfl,rfl⟩,λa N5 aa _=>⟨zn,λN6 ak=>bad _ _ _ _ (by omega) I (.inr (by simp only[Fs];rw[if_neg hc,if_pos ⟨trivial,V⟩]))⟩⟩) λV=>⟨⟨g1,by omega,by omega⟩,⟨rfl,rfl⟩,⟨rfl,rfl⟩,⟨rfl,rfl⟩,⟨rfl,rfl⟩,λa N5 aa _ N6 ak=>?_⟩⟩;refine args 4 ⟨#[c]⟩ (by show 1<=1000;omega) a (n+1) r (I.app (p:=[c]) rfl rfl) rfl N6 (by omega) _ λd n' b' N' h hd _ _=>⟨zn,λN7 al=>hQ _ _ _ _ (by omega) ?_⟩
      simp only[Fs];rw[if_neg hc,if_neg (λh=>h.2 V)];exact hd
end Go.Proofs.YtldbmnklnpfpfaaGreatDoor
set_option maxRecDepth 100000
namespace Go.Proofs.YtldbmnklnpfpfaaGreatDoor
open Go Go.Proofs Go.Proofs.Tryz Go.IntWalk
def Bf (l:Bl):Nat:=l.foldl (λa c=>10*a+(c.toNat - 48)) 0
theorem pu (l:Bl)(c:UInt8):Bf (l++[c])=10*Bf l+(c.toNat - 48):=by simp[Bf]
theorem HU {n:Nat}(h:n<10):(UInt8.ofNat (48+n)).toNat - 48=n:=by
 have:n=0\/n=1\/n=2\/n=3\/n=4\/n=5\/n=6\/n=7\/n=8\/n=9:=by omega
 rcases this with rfl | rfl | rfl | rfl | rfl | rfl | rfl | rfl | rfl | rfl<;>decide
theorem FT:∀ n:Nat,Bf (Lib.decDigits n)=n:=by
 intro n
 induction n using Nat.strongRecOn with
 | _ n I=>
   rw[Lib.decDigits];split
   ·rename_i h;show 10*0+((UInt8.ofNat (48+n)).toNat - 48)=n;rw[HU h];omega
   ·rw[pu,I _ (by omega),HU (by omega)];omega
theorem Eh:∀(k:Nat)(l:Bl),l.length=k->(∀ c∈l,rN c=true)->Bf l<10 ^ k:=by
 intro k
 induction k with
 | zero=>intro l J _;rw[oV J];decide
 | succ k O=>
   intro l J hd;have I:l≠[]:=λe=>by rw[e]at J;cases J
   rw[<-List.dropLast_concat_getLast I,pu];have V:=O l.dropLast (by rw[List.length_dropLast];omega) λc hc=>hd c (List.dropLast_subset l hc);have U:=hd _ (List.getLast_mem I);simp only[rN,oi]at U;rw[mr];omega
theorem Ky:∀(k n:Nat),1<=k->n<10 ^ k->(Lib.decDigits n).length<=k:=by
 intro k
 induction k with
 | zero=>intro n h;omega
 | succ k I=>
   intro n _ J;rw[Lib.decDigits];split
   ·simp
   ·rename_i h;rw[oK];have O:1<=k:=by
     rcases mE k with e | e
     ·subst e;omega
     ·exact e
    have:=I (n / 10) O (by rw[mr]at J;omega)
    simp only[oR,o5];omega
theorem Kz (n:Nat):1<=(Lib.decDigits n).length:=by obtain⟨b,l,e⟩:=Be n;rw[e];simp
theorem Dt {w:Bl}(h:w.length<1\/6<w.length):yW w=none:=u3 λn O e=>by have I:=Ky 6 n (by omega) (by omega);have J:=Kz n;rw[e]at I J;omega
theorem AM {w:Bl}{c:UInt8}(hc:c∈w)(h:rN c=false):yW w=none:=u3 λn I e=>by
 have:=wv n c (by rw[e];exact hc)
 rw[h]at this;cases this
theorem Kp (l:List Int):∀ b:ByteArray,(l.foldl (λr n=>r.push (UInt8.ofNat n.toNat)) b).size=b.size+l.length:=by
 induction l with
 | nil=>intro b;simp
 | cons x l I=>intro b;simp only[List.foldl_cons,I,ByteArray.size_push,oR];omega
theorem HG (l:List Int):(zX l).size=l.length:=by unfold zX;rw[Kp];simp
theorem NW (n:Int)(h:n.natAbs<10000000000)(N:Nat)(Q:QT [.str])(J:∀ s N',N<=N'->Q s N'):ACalls prog 24 [.str] [.j n] N Q:=by
 refine vo N n Q (Br.beq (λ_ N1 I=>J _ _ I) λ_=>?_);have key:∀(m:Nat) (x:Int) (s:ByteArray),x.natAbs<10 ^ m->m+s.size<=10->∀ b,zS Q N x b s N:=by
  intro m
  induction m with
  | zero=>intro x s O hs b;exact xR (Br.bne (λh=>by omega) λ_=>Br.of (λ_=>⟨by omega,λN1 I=>J _ _ I⟩) λ_ N1 I=>J _ _ I)
  | succ m V=>
    intro x s O hs b;have hb:x.natAbs<10000000000:=om O (by rw[show(10000000000:Nat)=10 ^ 10 from rfl];exact ma (by omega) (by omega));have Y:(Int.tdiv x 10).natAbs=x.natAbs / 10:=Int.natAbs_tdiv x 10;have hd:IntKind.i64.wrap (Int.tdiv x 10)=Int.tdiv x 10:=i64_in _ (by omega);have U:∀ es:List Int,es.length=1->zS Q N (IntKind.i64.wrap (Int.tdiv x 10)) b (zX es++s) N:=λes Z=>by
     rw[hd];refine V _ _ ?_ ?_ b
     ·rw[Y];rw[mr]at O;omega
     ·rw[oC,HG];omega
    have sz:∀ es:List Int,es.length=1->(zX es).size+s.size<=9223372036854775807:=λes Z=>by rw[HG];omega
    exact xR (Br.bne (λ_=>⟨by decide,Br.of (λ_=>⟨by simp,[_],rfl,sz _ rfl,by decide,U _ rfl⟩) λ_=>⟨by simp,[_],rfl,sz _ rfl,by decide,U _ rfl⟩⟩) λ_=>Br.of (λ_=>⟨by omega,λN1 I=>J _ _ I⟩) λ_ N1 I=>J _ _ I)
 exact key 10 n _ (by simpa using h) (by decide)  _
theorem NY (w:ByteArray)(hw:w.size<=1073741824)(N:Nat)(Q:QT [.i,.bool])(h1:∀(m:Nat) N',N<=N'->yW (bl w)=some m->Q (m:Int) true N')(h0:∀ N',N<=N'->yW (bl w)=none->Q 0 false N'):ACalls prog 66 [.i,.bool] [.str w] N Q:=by
 refine rK N w Q λN1 aq=>?_;have aj:(bl w).length=w.size:=xM w;have Y:yW (bl w)=none->∀(n:Int) I,N1<=I->Br (!false) (∀ N3,I<=N3->Q 0 false N3) (Br (decide (n<0)) (∀ J,I<=J->Q 0 false J) (∀ O,I<=O->Q n true O)):=λhn n I ab=>Br.of (λ_ N3 V=>h0 _ (by omega) hn) λh=>by cases h
 have ah:∀(n:Int) I,N1<=I->(n<0/\yW (bl w)=none\/∃ m:Nat,n=m/\yW (bl w)=some m)->Br (!true) (∀ N3,I<=N3->Q 0 false N3) (Br (decide (n<0)) (∀ J,I<=J->Q 0 false J) (∀ O,I<=O->Q n true O)):=λn I ab h=>Br.of (λh=>by cases h) λ_=>Br.dec (λhn J ac=>h0 _ (by omega) (h.elim And.right λ⟨m,e,_⟩=>by omega)) λhn O Z=>by
  rcases h with⟨h,_⟩ | ⟨m,rfl,h⟩
  ·omega
  ·exact h1 m _ (by omega) h
 have key:∀(b6:Bool) (t:ByteArray),t.size<=6->(b6=true->∃ r,bl w=45::r)->(b6=false->t=w)->∀(rest p:Bl),bl t=p++rest->(∀ c∈p,rN c=true)->zl (λn b I=>N1<=I->Br (!b) (∀ N3,I<=N3->Q 0 false N3) (Br (decide (n<0)) (∀ J,I<=J->Q 0 false J) (∀ O,I<=O->Q n true O))) N1 w b6 t (Bf p:Int) (p.length:Int) N1:=λb6 t ht hb hf=>by
  have ai:(bl t).length=t.size:=xM t;have neg:b6=true->yW (bl w)=none:=λh=>by obtain⟨r,e⟩:=hb h;exact AM (c:=45) (by rw[e];simp) (by decide)
  intro rest
  induction rest with
  | nil=>
    intro p hp hd;rw[nH]at hp;have ak:p.length=t.size:=by rw[<-ai,hp]
    have hv:=Eh 6 (List.replicate (6 - p.length) 48++p) (by simp;omega) (λc hc=>by
     rcases oP.1 hc with hc | hc
     ·rw[nL hc];decide
     ·exact hd c hc)
    have al:Bf p<10 ^ 6:=om (Eh p.length p rfl hd) (ma (by omega) (by omega));have e0:IntKind.i64.wrap (0 - (Bf p:Int))=0 - (Bf p:Int):=i64_in _ (by omega);refine uQ (Br.dec (λh=>by omega) λ_=>Br.of (λU N3 V=>?_) λU N3 V=>?_)
    ·rw[e0];rcases mE (Bf p)with hz | hz
     ·rw[hz];exact ys 0 (by omega) N3 _ λJ ac _=>Br.nstr (λ_ O Z _=>Y (neg U) _ _ (by omega)) λhe=>by exfalso;obtain⟨r,e⟩:=hb U;have:bl (Dc 0)=45::r:=(oN bl he).trans e;have h2:=wv 0 45 (by show 45∈bl (Dc 0);rw[this];simp);revert h2;decide
     ·exact NW _ (by omega) N3 _ λz J ac _=>Br.of (λ_ O Z _=>Y (neg U) _ _ (by omega)) λ_ O Z _=>ah _ _ (by omega) (.inl ⟨by omega,neg U⟩)
    ·obtain rfl:=hf U;refine ys (Bf p) (by omega) N3 _ λJ ac _=>Br.nstr (λao O Z _=>Y (u3 λn hn e=>ao ?_) _ _ (by omega)) λhe O Z _=>ah _ _ (by omega) (.inr ⟨Bf p,rfl,?_⟩)
     ·have:Bf p=n:=by rw[<-hp];exact(oN Bf e.symm).trans (FT n)
      rw[this];exact zZ e
     ·have:Lib.decDigits (Bf p)=bl t:=oN bl he;rw[<-this];exact AL (by omega)
  | cons c rest ih=>
    intro p hp hd;have ak:p.length+(rest.length+1)=t.size:=by rw[<-ai,hp,oK,oR]
    have ae:Atl t p.length (c::rest):=Atl.app (n:=0) ⟨by omega,by omega,by omega,rfl⟩ (p:=p) (by show bl t=_;rw[hp]) (by omega);have hg:=ae.get;have bd:0<=(p.length:Int)/\(p.length:Int)<(t.size:Int):=⟨by omega,by omega⟩
    have no:rN c=false->∀(N3:Nat),N1<=N3->Br (!false) (∀ J,N3<=J->Q 0 false J) (Br (decide ((0:Int)<0)) (∀ J,N3<=J->Q 0 false J) (∀ O,N3<=O->Q 0 true O)):=λhc N3 V=>Y (by
     cases U:b6 with
     | true=>exact neg U
     | false=>obtain rfl:=hf U;exact AM (c:=c) (by rw[hp];simp) hc) _ _ V
    refine uQ (Br.dec (λ_=>?_) λh=>by omega);rw[hg];refine⟨bd,Br.dec (λh N3 V _=>no (by simp only[rN,nW];omega) _ V) λg1=>⟨bd,Br.dec (λh N3 V _=>no (by simp only[rN,nW];omega) _ V) λg2=>⟨bd,?_⟩⟩⟩;have al:Bf p<10 ^ 6:=om (Eh p.length p rfl hd) (ma (by omega) (by omega));have e3:IntKind.u8.wrap ((c.toNat:Int) - 48)=(c.toNat:Int) - 48:=u8_in _ (by omega);rw[e3,i64_in (10*(Bf p:Int)) (by omega),i64_in ((c.toNat:Int) - 48) (by omega),i64_in (10*(Bf p:Int)+((c.toNat:Int) - 48)) (by omega),i64_in ((p.length:Int)+1) (by omega)]
    have:=ih (p++[c]) (by rw[hp,oL];rfl) λx hx=>by
     rcases oP.1 hx with hx | hx
     ·exact hd x hx
     ·rw[nG.1 hx];simp only[rN,oi];omega
    rw[pu,oK]at this;have e4:((10*Bf p+(c.toNat - 48):Nat):Int)=10*(Bf p:Int)+((c.toNat:Int) - 48):=by omega
    rw[e4]at this;exact this
 have cut:∀ b6:Bool,∀ t:ByteArray,(b6=true->∃ r,bl w=45::r)->(b6=false->t=w)->Br (decide ((t.size:Int)<1)) (∀ I,N1<=I->N1<=I->Br (!false) (∀ N3,I<=N3->Q 0 false N3) (Br (decide ((0:Int)<0)) (∀ J,I<=J->Q 0 false J) (∀ O,I<=O->Q 0 true O))) (Br (decide ((t.size:Int)>6)) (∀ I,N1<=I->N1<=I->Br (!false) (∀ N3,I<=N3->Q 0 false N3) (Br (decide ((0:Int)<0)) (∀ J,I<=J->Q 0 false J) (∀ O,I<=O->Q 0 true O))) (zl (λn b I=>N1<=I->Br (!b) (∀ N3,I<=N3->Q 0 false N3) (Br (decide (n<0)) (∀ J,I<=J->Q 0 false J) (∀ O,I<=O->Q n true O))) N1 w b6 t 0 0 N1)):=λb6 t hb hf=>by
  have sh:t.size<1\/6<t.size->yW (bl w)=none:=λh=>by
   cases U:b6 with
   | true=>obtain⟨r,e⟩:=hb U;exact AM (c:=45) (by rw[e];simp) (by decide)
   | false=>obtain rfl:=hf U;exact Dt (by rw[xM];exact h)
  exact Br.dec (λh I ab _=>Y (sh (by omega)) 0 _ (by omega)) λh1=>Br.dec (λh I ab _=>Y (sh (by omega)) 0 _ (by omega)) λh=>key b6 t (by omega) hb hf (bl t) [] rfl (by simp)
 refine C7 N1 w 6 _ (Br.dec (λh=>⟨⟨by omega,by omega⟩,Br.beq (λaa=>⟨⟨by omega,by omega,by omega⟩,?_⟩) λaa=>?_⟩) λh=>cut _ _ (by simp) (by simp))
 ·rw[show(((w.data.getD 0 (OfNat.ofNat 0)).toNat:Int)==45)=true from by simpa using aa];refine cut _ _ (λ_=>?_) (by simp);cases e:bl w with
  | nil=>rw[<-aj,e]at h;simp at h
  | cons c r=>
    have ae:Atl w 0 (c::r):=⟨hw,by omega,by omega,e⟩
    have hg:=ae.get;rw[show(0:Int).toNat=0 from rfl]at hg;rw[hg]at aa;refine⟨r,?_⟩;have:c=45:=UInt8.toNat_inj.1 (by show c.toNat=45;omega);rw[this]
 ·rw[show(((w.data.getD 0 (OfNat.ofNat 0)).toNat:Int)==45)=false from by simpa using aa];exact cut _ _ (by simp) (by simp)
end Go.Proofs.YtldbmnklnpfpfaaGreatDoor
set_option maxRecDepth 100000
namespace Go.Proofs.YtldbmnklnpfpfaaGreatDoor
open Go Go.Proofs Go.Proofs.Tryz Go.IntWalk
structure Ms (s:ByteArray) (b:Bool) (t l:Bl) (n':Int) (b':Bool) (l':Bl):Prop where
 at_:Atl s n' l'
 ok:b'=false->b=false/\pre t l=some l'
 no:b'=true->b=true\/pre t l=none
theorem Lr {s:ByteArray} {n:Int} {l:Bl} (O:Atl s n l) (t:ByteArray) (V:t.size<=100) (b:Bool) (N:Nat) (Q:QT [.str,.i,.bool])
  (U:∀ l' n' b' N',N<=N'->Ms s b (bl t) l n' b' l'->Q s n' b' N'):BCalls prog 30 [.str,.i,.bool] [.pb 0 0 0 0,.str t] [.var [.str s,.j n,.bool b]] N Q:=
 wn O t V b N Q (λr n' N' h Y I J=>U r n' false N' h ⟨J,λ_=>⟨Y,I⟩,by simp⟩) λN' h I=>U l n true N' h ⟨O,by simp,λ_=>I⟩
structure Ts (s:ByteArray) (b:Bool) (l:Bl) (d:D) (n':Int) (b':Bool) (t:Ty) (l':Bl):Prop where
 at_:Atl s n' l'
 ok:b'=false->b=false/\wJ 8 l=some (t,l')/\t.Is d
 no:b'=true->b=true\/wJ 8 l=none
theorem Na {s:ByteArray} {n:Int} {l:Bl} (U:Atl s n l) (b:Bool) (N:Nat) (Q:QT [.ag 2,.str,.i,.bool])
  (O:∀ t l' d n' b' N',N<=N'->Ts s b l d n' b' t l'->Q d s n' b' N'):BCalls prog 62 [.ag 2,.str,.i,.bool] [.pb 0 0 0 0,.j 1] [.var [.str s,.j n,.bool b]] N Q:=
 Md 8 (by omega) 1 (by omega) U b N Q λd n' b' N' h hd=>by
  cases hd with
  | @ok t r _ _ V J hd I=>exact O t r d n' false N' h ⟨I,λ_=>⟨V,J,hd⟩,by simp⟩
  | no J I=>exact O tZero _ d n' true N' h ⟨I,by simp,λ_=>J⟩
theorem H2 {dep:Int} (x:D) (n2:Nat) (J:1<=n2/\n2<=3) {s:ByteArray} {n:Int} {l:Bl} (O:Atl s n l) (N:Nat) (Q:QT [.ag 9,.str,.i,.bool])
  (U:∀ d N',N<=N'->Q d s n true N'):BCalls prog 63 [.ag 9,.str,.i,.bool] [.pb 0 0 0 0,.dg 9 x,.j (n2:Int),.j dep] [.var [.str s,.j n,.bool true]] N Q:=by
 refine vq N _ n2 dep s n true Q λE _=>?_;refine uV _ _ _ _ _ _ _ _ _ _ _ _ _ _ _ _ _ _ _ _ _ _ _ _ _ _ (Br.dec (λ_=>Br.of (λh=>by simp at h) λ_ N1 V=>?_) λh=>by omega);exact wn O _ (by decide) _ N1 _ (λr n' Y I h=>by cases h) λY I hp _=>⟨zn,λN3 Z=>U _ _ (by omega)⟩
theorem H3 {dep:Int} {T:Bl->Option (Tm × Bl)} (O:DP dep T) {k:Int} {nm ot:Bl} {ty re:Ty} {x y:D} (Y:(⟨nm.toArray⟩:ByteArray).size<=1073741824) (Z:(⟨ot.toArray⟩:ByteArray).size<=1073741824)
  {s:ByteArray} {n:Int} {l:Bl} (I:Atl s n l) (b:Bool) (U:b=false->ty.Is x) (V:b=false->re.Is y) (N:Nat) (Q:QT [.ag 9,.str,.i,.bool])
  (J:∀ d n' b' N',N<=N'->Rd Tm.Is s b (mkF k nm ot ty re (y8 T [] [41] 1 true l)) d n' b'->Q d s n' b' N'):BCalls prog 63 [.ag 9,.str,.i,.bool] [.pb 0 0 0 0,.dg 9 (.ag [.j k,.t (⟨nm.toArray⟩),.t (⟨ot.toArray⟩),.j 0,x.cell 0,x.cell 1,y.cell 0,y.cell 1,.sl none 9 [] 0]),.j 1,.j dep] [.var [.str s,.j n,.bool b]] N Q:=by
 cases b with
 | true=>exact H2 _ 1 ⟨by omega,by omega⟩ I N Q λd N' h=>J _ _ _ _ h (.no (.inl rfl) I)
 | false=>exact H1 O (k:=k) (m:=0) (nm:=⟨nm.toArray⟩) (ot:=⟨ot.toArray⟩) (ty:=ty) (re:=re) ⟨by omega,by omega,Ty.is_cells (U rfl),Ty.is_cells (V rfl)⟩ (l0:=[]) rfl (by simp) (a0:=none) (c0:=0) (λ_=>trivial) 1 ⟨by omega,by omega⟩ I false N Q λd n' b' N' h hd=>J d n' b' N' h hd.form
theorem NZ {dep:Int} {T:Bl->Option (Tm × Bl)} (hT:DP dep T) {s:ByteArray} {n:Int} {l:Bl} (hr:Atl s n l) (N:Nat) (Q:QT [.ag 9,.str,.i,.bool])
  (hQ:∀ d n' b' N',N<=N'->Rd Tm.Is s false (Cm T l) d n' b'->Q d s n' b' N'):BCalls prog 64 [.ag 9,.str,.i,.bool] [.pb 0 0 0 0,.j dep] [.var [.str s,.j n,.bool false]] N Q:=by
 refine A0 N dep s n false Q λE N1 bd=>B4 hr _ N1 _ λn2 N2 bg aj _ N3 bh=>Lr aj _ (by decide) _ N3 _ λl4 n4 b4 N4 bi m4 _ N5 bj=>B4 m4.at_ _ N5 _ λn6 N6 bm ak _ N7 bn=>Lr ak _ (by decide) _ N7 _ λl8 n8 b8 N8 bp m8 _ N9 bq=>?_;refine Na m8.at_ _ N9 _ λty l10 d bt ah bv ay J _ _ al az=>Lr J.at_ _ (by decide) _ al _ λao bw ab bz a1 Z _ aq a6=>?_;refine Na Z.at_ _ aq _ λre ai e b3 ac b7 a7 O _ _ au a8=>Lr O.at_ _ (by decide) _ au _ λaw b9 ae ca ba m16 _ ax bb=>?_;have I:ae=false->ac=false:=λh=>(m16.ok h).1;have U:ac=false->ab=false:=λh=>(O.ok h).1;have aa:ab=false->ah=false:=λh=>(Z.ok h).1;refine H3 hT (ty:=ty) (re:=re) (wU hr) (wU m4.at_) m16.at_ ae (λh=>(J.ok (aa (U (I h)))).2.2) (λh=>(O.ok (I h)).2.2) ax _ λx n' b' N' h hx _ _=>⟨zn,λcc bc=>hQ _ _ _ _ (by omega) ?_⟩
 have e:Cm T l=(pre [32] (word l).2).bind λm=>(pre [58] (word m).2).bind λr=>(wJ 8 r).bind λt=>(pre [62] t.2).bind λr=>(wJ 8 r).bind λu=>(pre [46] u.2).bind λr=>mkF 9 (word l).1 (word m).1 t.1 u.1 (y8 T [] [41] 1 true r):=rfl;rw[e];cases b4 with
 | true=>
   rw[show pre [32] (word l).2=none from(m4.no rfl).resolve_left (by simp)];cases hx with
   | ok V=>exact absurd ((m8.ok ((J.ok (aa (U (I V)))).1)).1) (by simp)
   | no _ Y=>exact .no (.inr rfl) Y
 | false=>
 rw[show pre [32] (word l).2=some l4 from(m4.ok rfl).2,oI];cases b8 with
 | true=>
   rw[show pre [58] (word l4).2=none from(m8.no rfl).resolve_left (by simp)];cases hx with
   | ok V=>exact absurd ((J.ok (aa (U (I V)))).1) (by simp)
   | no _ Y=>exact .no (.inr rfl) Y
 | false=>
 rw[show pre [58] (word l4).2=some l8 from(m8.ok rfl).2,oI];cases ah with
 | true=>
   rw[(J.no rfl).resolve_left (by simp)];cases hx with
   | ok V=>exact absurd (aa (U (I V))) (by simp)
   | no _ Y=>exact .no (.inr rfl) Y
 | false=>
 rw[(J.ok rfl).2.1,oI];cases ab with
 | true=>
   rw[show pre [62] (ty,l10).2=none from(Z.no rfl).resolve_left (by simp)];cases hx with
   | ok V=>exact absurd (U (I V)) (by simp)
   | no _ Y=>exact .no (.inr rfl) Y
 | false=>
 rw[show pre [62] (ty,l10).2=some ao from(Z.ok rfl).2,oI];cases ac with
 | true=>
   rw[(O.no rfl).resolve_left (by simp)];cases hx with
   | ok V=>exact absurd (I V) (by simp)
   | no _ Y=>exact .no (.inr rfl) Y
 | false=>
 rw[(O.ok rfl).2.1,oI];cases ae with
 | true=>
   rw[show pre [46] (re,ai).2=none from(m16.no rfl).resolve_left (by simp)];cases hx with
   | ok V=>cases V
   | no _ Y=>exact .no (.inr rfl) Y
 | false=>
 rw[show pre [46] (re,ai).2=some aw from(m16.ok rfl).2,oI];exact hx
theorem NX {dep:Int} {T:Bl->Option (Tm × Bl)} (hT:DP dep T) {s:ByteArray} {n:Int} {l:Bl} (hr:Atl s n l) (E:Env) (N:Nat) (Q:QT [.ag 9,.str,.i,.bool])
  (hQ:∀ d n' b' N',N<=N'->Rd Tm.Is s false (E2 T l) d n' b'->Q d s n' b' N'):BCalls prog 34 [.str,.str,.i,.bool] [.pb 0 0 0 0] [.var [.str s,.j n,.bool false]] N (λac ae ah ai N4=>N<=N4->∀ U,N4<=U->BCalls prog 30 [.str,.i,.bool] [.pb 0 0 0 0,.str (bytes [58])] [.var [.str ae,.j ah,.bool ai]] U (λaj ak al N6=>U<=N6->∀ V,N6<=V->BCalls prog 62 [.ag 2,.str,.i,.bool] [.pb 0 0 0 0,.j 1] [.var [.str aj,.j ak,.bool al]] V (λx ao aq au N8=>V<=N8->Bel N8 x->∀ Y,N8<=Y->BCalls prog 30 [.str,.i,.bool] [.pb 0 0 0 0,.str (bytes [46])] [.var [.str ao,.j aq,.bool au]] Y (λaw ax ay Z=>Y<=Z->∀ I,Z<=I->BCalls prog 63 [.ag 9,.str,.i,.bool] [.pb 0 0 0 0,.dg 9 (.ag [.j 6,.t ac,.t (bytes []),.j 0,x.cell 0,x.cell 1,.j 0,.sl none 2 [] 0,.sl none 9 [] 0]),.j 1,.j dep] [.var [.str aw,.j ax,.bool ay]] I (λaa az a1 a6 J=>I<=J->Bel J aa->zO E [.var [.str (bytes []),.j 0,.bool false]]/\∀ ab,J<=ab->Q aa az a1 a6 ab))))):=by
 refine B4 hr _ N _ λn2 N2 ba a7 _ N3 bb=>Lr a7 _ (by decide) _ N3 _ λl4 n4 b4 N4 bc m4 _ U bd=>Na m4.at_ _ U _ λty l6 d n6 b6 N6 bg m6 _ _ V bh=>Lr m6.at_ _ (by decide) _ V _ λl8 n8 b8 N8 bi O _ Y bj=>?_;refine H3 hT (k:=6) (ot:=[]) (ty:=ty) (re:=tZero) (y:=.ag [.j 0,.sl none 2 [] 0]) (wU hr) (by decide) O.at_ b8 (λh=>(m6.ok (O.ok h).1).2.2) (λ_=>uI 0) Y _ λx n' b' N' h hx _ _=>⟨zn,λbm a8=>hQ _ _ _ _ (by omega) ?_⟩
 have e:E2 T l=(pre [58] (word l).2).bind λr=>(wJ 8 r).bind λt=>(pre [46] t.2).bind λr=>mkF 6 (word l).1 [] t.1 tZero (y8 T [] [41] 1 true r):=rfl;rw[e];cases b4 with
 | true=>
   rw[show pre [58] (word l).2=none from(m4.no rfl).resolve_left (by simp)];cases hx with
   | ok hb=>exact absurd ((m6.ok (O.ok hb).1).1) (by simp)
   | no _ ha=>exact .no (.inr rfl) ha
 | false=>
 rw[show pre [58] (word l).2=some l4 from(m4.ok rfl).2,oI];cases b6 with
 | true=>
   rw[(m6.no rfl).resolve_left (by simp)];cases hx with
   | ok hb=>exact absurd ((O.ok hb).1) (by simp)
   | no _ ha=>exact .no (.inr rfl) ha
 | false=>
 rw[(m6.ok rfl).2.1,oI];cases b8 with
 | true=>
   rw[show pre [46] (ty,l6).2=none from(O.no rfl).resolve_left (by simp)];cases hx with
   | ok hb=>cases hb
   | no _ ha=>exact .no (.inr rfl) ha
 | false=>
 rw[show pre [46] (ty,l6).2=some l8 from(O.ok rfl).2,oI];exact hx
theorem Jm {s:ByteArray} {n:Int} {l:Bl} (hr:Atl s n l) (N:Nat) (Q:QT [.ag 9,.str,.i,.bool])
  (hQ:∀ d n' b' N',N<=N'->Rd Tm.Is s false ((yW (word l).1).map λn=>(J0 n,(word l).2)) d n' b'->Q d s n' b' N'):BCalls prog 32 [.ag 9,.str,.i,.bool] [.pb 0 0 0 0] [.var [.str s,.j n,.bool false]] N Q:=by
 refine rM N s n false Q λE N1 aa=>B4 hr _ N1 _ λn2 N2 ab I _ N3 ac=>NY _ (wU hr) N3 _ (λm N4 J O _=>Br.of (λh=>by cases h) λ_ U V=>qW U m _ λN6 Y _ _=>⟨zn,λN7 Z=>hQ _ _ _ _ (by omega) (.ok rfl (t:=J0 m) (r:=(word l).2) ?_ (wO 2 m (by decide)) I)⟩) λN4 J O _=>Br.of (λh=>by cases h) λ_ U V=>qW U 0 _ λN6 Y _ _=>⟨zn,λN7 Z=>hQ _ _ _ _ (by omega) (.no (.inr ?_) I)⟩
 ·rw[show yW (word l).1=some m from O];rfl
 ·rw[show yW (word l).1=none from O];rfl
end Go.Proofs.YtldbmnklnpfpfaaGreatDoor
set_option maxRecDepth 100000
namespace Go.Proofs.YtldbmnklnpfpfaaGreatDoor
open Go Go.Proofs Go.Proofs.Tryz Go.IntWalk
theorem Mb {dep:Int} {T:Bl->Option (Tm × Bl)} (hT:DP dep T) {s:ByteArray} {n:Int} {l:Bl} (Y:Atl s n l) (N:Nat) (Q:QT [.ag 9,.str,.i,.bool])
  (hQ:∀ d n' b' N',N<=N'->Rd Tm.Is s false (uA true T l) d n' b'->Q d s n' b' N'):BCalls prog 31 [.ag 9,.str,.i,.bool] [.pb 0 0 0 0,.j dep] [.var [.str s,.j n,.bool false]] N Q:=by
 refine pD N dep s n false Q λE N1 bp=>?_;have fin:∀ {m:Option (Tm × Bl)},uA true T l=m->∀ N1,N<=N1->∀ d n' b' N',N1<=N'->Rd Tm.Is s false m d n' b'->N1<=N'->Bel N' d->zO E [.var [.str (bytes []),.j 0,.bool false]]/\∀ N3,N'<=N3->Q d s n' b' N3:=λ{m} hm N1 h1 d n' b' N' h J _ _=>⟨zn,λN3 h3=>hQ _ _ _ _ (by omega) (by rw[hm];exact J)⟩
 have form:∀ {p r:Bl} {k:Int} {nm:Bl} {n2:Nat} {n':Int},pre p l=some r->Atl s n' r->(∀ r,uA true T (p++r)=mkF k nm [] tZero tZero (y8 T [32] [41] n2 true r))->(⟨nm.toArray⟩:ByteArray).size<=1000->1<=n2/\n2<=3->∀ N1,N<=N1->BCalls prog 63 [.ag 9,.str,.i,.bool] [.pb 0 0 0 0,.dg 9 (.ag [.j k,.t (⟨nm.toArray⟩),.t (bytes []),.j 0,.j 0,.sl none 2 [] 0,.j 0,.sl none 2 [] 0,.sl none 9 [] 0]),.j (n2:Int),.j dep] [.var [.str s,.j n',.bool false]] N1 (λd s n b N2=>N1<=N2->Bel N2 d->zO E [.var [.str (bytes []),.j 0,.bool false]]/\∀ N3,N2<=N3->Q d s n b N3):=λ{p r k nm n2 n'} I a8 hi hs hn N1 h1=>KT hT k (by omega) n2 hn a8 false N1 _ λd ba b' N' h J=>fin (by rw[zg I];exact hi r) N1 h1 d ba b' N' h J;refine xp Y _ (by decide) _ N1 _ (λr n2 N2 bb _ I bc _=>Br.of (λ_ N3 bd=>?_) λh=>by cases h) λN2 bb h1 _=>Br.of (λh=>by cases h) λ_ N3 bd=>?_
 ·exact NX hT bc E N3 _ λd n' b' N' h J=>hQ _ _ _ _ (by omega) (by rw[zg I];exact(Fo true T r) ▸ J)
 refine xp Y _ (by decide) _ N3 _ (λr n4 N4 bg _ I aj _=>Br.of (λ_ N5 bh=>?_) λh=>by cases h) λN4 bg h2 _=>Br.of (λh=>by cases h) λ_ N5 bh=>?_
 ·refine B4 aj _ N5 _ λn6 N6 ak O _ N7 al=>wn O _ (by decide) _ N7 _ (λr8 n8 N8 aa _ hq ab _ Z ac=>?_) λN8 aa hq _ Z ac=>?_
  ·exact KT hT 8 (by have:=wU aj;omega) 2 ⟨by omega,by omega⟩ ab false Z _ λd n' b' N' h J=>fin (by rw[zg I];exact(Cj true T r).trans (by unfold Cl;rw[show pre [61] (word r).2=some r8 from hq];rfl)) Z (by omega) d n' b' N' h J
  ·exact H2 _ 2 ⟨by omega,by omega⟩ O Z _ λd N' h _ _=>⟨zn,λao bq=>hQ _ _ _ _ (by omega) (.no (.inr (by rw[zg I];exact(Cj true T r).trans (by unfold Cl;rw[show pre [61] (word r).2=none from hq.resolve_left (by simp)];rfl))) O)⟩
 refine xp Y _ (by decide) _ N5 _ (λr n6 N6 ak _ I O _=>Br.of (λ_ N7 al=>?_) λh=>by cases h) λN6 ak h3 _=>Br.of (λh=>by cases h) λ_ N7 al=>?_
 ·exact NZ hT O N7 _ λd n' b' N' h J=>fin (by rw[zg I];exact Fq true T r) N7 (by omega) d n' b' N' h J
 refine xp Y _ (by decide) _ N7 _ (λr n8 N8 aa _ I ab _=>Br.of (λ_ Z ac=>?_) λh=>by cases h) λN8 aa h4 _=>Br.of (λh=>by cases h) λ_ Z ac=>?_
 ·exact form (nm:=[]) (n2:=3) I ab (H5 true T) (by decide) ⟨by omega,by omega⟩ Z (by omega)
 refine xp Y _ (by decide) _ Z _ (λr bt ao aq _ I au _=>Br.of (λ_ ae aw=>?_) λh=>by cases h) λao aq h5 _=>Br.of (λh=>by cases h) λ_ ae aw=>?_
 ·exact form (nm:=[]) (n2:=1) I au (Fr true T) (by decide) ⟨by omega,by omega⟩ ae (by omega)
 refine xp Y _ (by decide) _ ae _ (λr bv bi ax _ I ay _=>Br.of (λ_ ah az=>?_) λh=>by cases h) λbi ax h6 _=>Br.of (λh=>by cases h) λ_ ah az=>?_
 ·exact form (nm:=[]) (n2:=1) I ay (D0 true T) (by decide) ⟨by omega,by omega⟩ ah (by omega)
 refine xp Y _ (by decide) _ ah _ (λr bw bj a1 _ I a6 _=>Br.of (λ_ ai a7=>?_) λh=>by cases h) λbj a1 h7 _=>Br.of (λh=>by cases h) λ_ ai a7=>?_
 ·exact form (nm:=[33]) (n2:=1) I a6 (Fp true T) (by decide) ⟨by omega,by omega⟩ ai (by omega)
 have hf:Fst l:=⟨h7.resolve_left (by simp),h4.resolve_left (by simp),h5.resolve_left (by simp),h6.resolve_left (by simp),h2.resolve_left (by simp),h1.resolve_left (by simp),h3.resolve_left (by simp)⟩
 refine hT s n l false ai _ Y λx bz b3 b7 bm J _ _ V bn=>?_;cases J with
 | @ok t r _ _ _ hm J U=>exact KV hT U false (λ_=>J) V _ λd n' b' N' h hd=>fin (by rw[Ck true T l hf];unfold H6;rw[hm,oI]) V (by omega) d n' b' N' h hd
 | no hm U=>
   refine KV hT (t:=tBl 0) U true (by simp) V _ λd n' b' N' h hd=>fin rfl V (by omega) d n' b' N' h ?_;have hm:=hm.resolve_left (by simp);cases hd with
   | ok h=>cases h
   | no _ ha=>exact .no (.inr (by rw[Ck true T l hf];unfold H6;rw[hm];rfl)) ha
theorem F5 {k:Int}{t:Tm}{x:D}(h:t.Is x)(a:Option Addr):(Tm.mk k (bytes []) (bytes []) 0 tZero tZero [t]).Is (.ag [.j k,.t (bytes []),.t (bytes []),.j 0,.j 0,.sl none 2 [] 0,.j 0,.sl none 2 [] 0,.sl a 9 [x] 1]):=
 Tm.is_mk.2 ⟨_,_,_,_,_,_,_,rfl,hdz (by decide) (by decide),by simp,FL h⟩
theorem Mc:∀(j:Nat),j<=20->∀ n1:Int,n1+j=21->DP n1 (xu true j):=by
 intro j
 induction j with
 | zero=>intro _ n1 bm s n l b N Q V hQ;exact vu N n1 s n b Q λE=>Br.of (λhb=>⟨zn,λN1 Y=>hQ _ _ _ _ Y (by rw[hb];exact .no (.inl rfl) V)⟩) λ_=>Br.dec (λh=>⟨zn,λN1 Y=>hQ _ _ _ _ Y (by first | (rw[mB h];exact .no (.inr rfl) V) | exact .no (.inr rfl) V)⟩) λh=>by omega
 | succ j ih=>
   intro hj n1 bm s n l b N Q V hQ;have e1:IntKind.i64.wrap (n1+1)=n1+1:=i64_in _ (by omega);have hT:=ih (by omega) (n1+1) (by omega);have aw:=V.len;refine vu N n1 s n b Q λE=>Br.of (λhb=>⟨zn,λN1 Y=>hQ _ _ _ _ Y (by rw[hb];exact .no (.inl rfl) V)⟩) λhb=>Br.dec (λ_=>by omega) λhd=>Br.dec (λbn=>⟨zn,λN1 Y=>hQ _ _ _ _ Y ?_⟩) λbp N1 Y=>?_
   ·have:l=[]:=oV (by omega);subst this
    first | (rw[mB bn];exact .no (.inr (by simp[xu,pre,ER])) V) | exact .no (.inr (by simp[xu,pre,ER])) V
   subst hb;rw[e1]
   try rw[nq bp]
   have one:∀(T:Bl->Option (Tm × Bl)) (e l:Bl) (k:Int),mkF k [] [] tZero tZero (y8 T [] e 1 true l)=(T l).bind λx=>(pre e x.2).map λr=>(.mk k (bytes []) (bytes []) 0 tZero tZero [x.1],r):=λT e l k=>by
    rw[L1];unfold mkF;cases T l with
    | none=>rfl
    | some x=>simp only[oI];cases pre e x.2<;>rfl
   refine xp V _ (by decide) _ N1 _ (λr n2 N2 bq _ hp U _=>Br.of (λ_ N3 bt=>rL N3 1 _ λN4 ax _ _=>⟨zn,λN5 ay=>hQ _ _ _ _ (by omega) ?_⟩) λh=>by cases h) λN2 bq h1 _=>Br.of (λh=>by cases h) λ_ N3 bt=>?_
   ·exact .ok rfl (t:=tBl 1) (by rw[zg hp];exact OD true r j) (wO 3 1 (by decide)) U
   refine xp V _ (by decide) _ N3 _ (λr n2 N4 ax _ hp U _=>Br.of (λ_ N5 ay=>rL N5 0 _ λN6 az _ _=>⟨zn,λN7 a1=>hQ _ _ _ _ (by omega) ?_⟩) λh=>by cases h) λN4 ax h2 _=>Br.of (λh=>by cases h) λ_ N5 ay=>?_
   ·exact .ok rfl (t:=tBl 0) (by rw[zg hp];exact OC true r j) (wO 3 0 (by decide)) U
   refine xp V _ (by decide) _ N5 _ (λr n2 N6 az _ hp U _=>Br.of (λ_ N7 a1=>?_) λh=>by cases h) λN6 az h3 _=>Br.of (λh=>by cases h) λ_ N7 a1=>?_
   ·have em:xu true (j+1) l=(xu true j r).bind λx=>(pre [] x.2).map λr=>(.mk 11 (bytes []) (bytes []) 0 tZero tZero [x.1],r):=by rw[zg hp];exact(Kb true r j).trans (one _ _ _ _)
    refine hT s n2 r false N7 _ U λx n8 b8 N8 a6 hx _ _=>⟨⟨rfl,rfl⟩,⟨rfl,rfl⟩,⟨rfl,rfl⟩,λa N9 a7 _=>⟨zn,λaj ae=>hQ _ _ _ _ (by omega) ?_⟩⟩
    cases hx with
    | ok _ hm hx al=>exact .ok rfl (by rw[em,hm];rfl) (F5 hx a) al
    | no hm al=>exact .no (.inr (by rw[em,hm.resolve_left (by simp)];rfl)) al
   refine xp V _ (by decide) _ N7 _ (λr n2 N8 a6 _ hp U _=>Br.of (λ_ N9 a7=>?_) λh=>by cases h) λN8 a6 h4 _=>Br.of (λh=>by cases h) λ_ N9 a7=>?_
   ·have em:xu true (j+1) l=(xu true j r).bind λx=>(pre [62] x.2).map λr=>(.mk 10 (bytes []) (bytes []) 0 tZero tZero [x.1],r):=by rw[zg hp];exact(Ka true r j).trans (one _ _ _ _)
    refine hT s n2 r false N9 _ U λx bz b3 aj ae hx _ _ I J=>?_;cases hx with
    | @ok t r' _ _ _ hm hx Z=>rw[hm,oI]at em;refine wn Z _ (by decide) _ I _ (λa8 ak ab O _ hq ah _=>⟨⟨rfl,rfl⟩,⟨rfl,rfl⟩,⟨rfl,rfl⟩,⟨rfl,rfl⟩,⟨rfl,rfl⟩,λa ac aa _=>⟨zn,λao ai=>hQ _ _ _ _ (by omega) (.ok rfl (by rw[em,show pre [62] (t,r').2=some a8 from hq];rfl) (F5 hx a) ah)⟩⟩) λab O hq _=>⟨⟨rfl,rfl⟩,⟨rfl,rfl⟩,⟨rfl,rfl⟩,⟨rfl,rfl⟩,⟨rfl,rfl⟩,λa ac aa _=>⟨zn,λao ai=>hQ _ _ _ _ (by omega) (.no (.inr (by rw[em,show pre [62] (t,r').2=none from hq.resolve_left (by simp)];rfl)) Z)⟩⟩
    | no hm Z=>exact wn Z _ (by decide) _ I _ (λa8 ak ab O h=>by cases h) λab O hq _=>⟨⟨rfl,rfl⟩,⟨rfl,rfl⟩,⟨rfl,rfl⟩,⟨rfl,rfl⟩,⟨rfl,rfl⟩,λa ac aa _=>⟨zn,λao ai=>hQ _ _ _ _ (by omega) (.no (.inr (by rw[em,hm.resolve_left (by simp)];rfl)) Z)⟩⟩
   refine xp V _ (by decide) _ N9 _ (λr n2 aj ae _ hp U _=>Br.of (λ_ I J=>?_) λh=>by cases h) λaj ae h5 _=>Br.of (λh=>by cases h) λ_=>?_
   ·exact Mb hT U I _ λx ak bv ab O hx _ _=>⟨zn,λac aa=>hQ _ _ _ _ (by omega) (by rw[zg hp];exact(tX true r j) ▸ hx)⟩
   cases l with
   | nil=>simp only[o5]at aw;omega
   | cons c l=>
   have em:xu true (j+1) (c::l)=ER true (c::l):=by simp only[xu,show pre [35,116] (c::l)=none from h1.resolve_left (by simp),show pre [35,102] (c::l)=none from h2.resolve_left (by simp),show pre [60] (c::l)=none from h4.resolve_left (by simp),show pre [126] (c::l)=none from h3.resolve_left (by simp),show pre [40] (c::l)=none from h5.resolve_left (by simp)]
   rw[em]at hQ;have hg:=V.get;have bd:0<=n/\n<(s.size:Int):=⟨V.lo,by omega⟩
   have wd:rN c=false->∀ I,aj<=I->BCalls prog 34 [.str,.str,.i,.bool] [.pb 0 0 0 0] [.var [.str s,.j n,.bool false]] I (λba bb bc bg bh=>I<=bh->∀ aq,bh<=aq->ACalls prog 33 [.ag 9] [.str ba] aq (λbi au=>aq<=au->Bel au bi->zO E [.var [.str (bytes []),.j 0,.bool false]]/\∀ bj,au<=bj->Q bi bb bc bg bj)):=λhc I J=>B4 V _ I _ λak ab O ah _ ac aa=>EO ac _ _ λao ai _ _=>⟨zn,λb7 bw=>hQ _ _ _ _ (by omega) (.ok rfl (t:=tVr (word (c::l)).1) (by simp only[ER,hc,nh,nO]) (wO 1 0 (o8 (wU V) (by omega))) ah)⟩
   have cd:∀ {P:Prop},(48<=c.toNat/\c.toNat<=57)->(rN c=true->P)->P:=λh k=>k (by unfold rN;exact mB h);have cn:¬(48<=c.toNat/\c.toNat<=57)->rN c=false:=λh=>by unfold rN;exact nq h
   rw[hg];exact⟨bd,Br.dec (λg1=>⟨bd,Br.dec (λg2 I J=>Jm V I _ λd ak bv ab O hd _ _=>⟨zn,λac aa=>hQ _ _ _ _ (by omega) (by have hc:rN c=true:=(by unfold rN;exact mB (by omega));simp only[ER,hc,nu];exact hd)⟩) λg2 I J=>wd (cn (by omega)) I J⟩) λg1 I J=>wd (cn (by omega)) I J⟩
end Go.Proofs.YtldbmnklnpfpfaaGreatDoor
