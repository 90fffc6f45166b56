/- Rows put in order: what a stable sort comes to, in plain Lean. -/
import Derived.Test.YtlahkdflngobiaaGreatDoorB2
import Derived.Test.YtlahkdflngobiaaGreatDoorKc
set_option linter.unusedVariables false
set_option linter.unusedSimpArgs false
namespace Go.Proofs.YtlahkdflngobiaaGreatDoor
open Go
section
variable {α:Type} {key:α->Nat}
/-- in order: the greater ahead -/
def Srt (key:α->Nat) (l:List α):Prop:=l.Pairwise λx y=>key y<=key x
/-- the same elements, and those of one size in the same order -/
structure Ste (key:α->Nat) (l m:List α):Prop where
 len:l.length=m.length
 f:∀ k,l.filter (fun x=>key x==k)=m.filter (fun x=>key x==k)
theorem Ste.rfl' {l:List α}:Ste key l l:=⟨rfl,λ_=>rfl⟩
theorem Ste.symm {l m:List α} (h:Ste key l m):Ste key m l:=⟨h.len.symm,λk=>(h.f k).symm⟩
theorem Ste.trans {l m n:List α} (h:Ste key l m) (g:Ste key m n):Ste key l n:=⟨h.len.trans g.len,λk=>(h.f k).trans (g.f k)⟩
theorem Ste.app {a b c d:List α} (h:Ste key a b) (g:Ste key c d):Ste key (a++c) (b++d):=⟨by simp [h.len,g.len],λk=>by rw [mi,mi,h.f,g.f]⟩
theorem Ste.mem {l m:List α} (h:Ste key l m) {x:α}:x∈l↔x∈m:=by
 have:=h.f (key x)
 have I:∀ n:List α,x∈n↔x∈n.filter (λy=>key y==key x):=λn=>by simp
 rw [I l,I m,this]
theorem Ste.swap {A B:List α} (h:∀ x∈A,∀ y∈B,key x≠key y):Ste key (A++B) (B++A):=by
 refine ⟨by simp [Nat.add_comm],λk=>?_⟩
 rw [mi,mi]
 by_cases J:A.filter (λx=>key x==k)=[]
 ·simp [J]
 ·obtain ⟨x,I⟩:=List.exists_mem_of_ne_nil _ J
  simp only [nx,mE] at I
  have O:B.filter (λx=>key x==k)=[]:=List.filter_eq_nil_iff.2 λy hy=>by
   have:=h x I.1 y hy
   rw [I.2] at this
   simpa using λhc=>this hc.symm
  simp [O]
theorem Ste.uniq:∀ {l m:List α},Srt key l->Srt key m->Ste key l m->l=m
 | [],m,_,_,h=>(oO h.len.symm).symm
 | x::l,[],_,_,h=>by have:=h.len;simp at this
 | x :: l,y::m,h1,h2,h=>by
   obtain ⟨a1,a2⟩:=nK.1 h1
   obtain ⟨b1,b2⟩:=nK.1 h2
   have J:key x=key y:=by
    have hx:x∈y::m:=h.mem.1 (by simp)
    have hy:y∈x::l:=h.mem.2 (by simp)
    have e1:key x<=key y:=by
     rcases oH.1 hx with rfl | hx
     ·exact oB _
     ·exact b1 x hx
    have e2:key y<=key x:=by
     rcases oH.1 hy with rfl | hy
     ·exact oB _
     ·exact a1 y hy
    omega
   have O:=h.f (key x)
   simp only [mr,J,beq_self_eq_true,mf] at O
   obtain ⟨rfl,aa⟩:=List.cons.inj O
   refine nL _ (Ste.uniq a2 b2 ⟨by simpa using h.len,λk=>?_⟩)
   have I:=h.f k
   simp only [mr] at I
   split at I
   ·exact (List.cons.inj I).2
   ·exact I
theorem Srt.app {A B:List α} (I:Srt key A) (J:Srt key B) (h:∀ x∈A,∀ y∈B,key y<=key x):Srt key (A++B):=List.pairwise_append.2 ⟨I,J,h⟩
theorem Srt.ap {A B:List α} (h:Srt key (A++B)):Srt key A/\Srt key B/\∀ x∈A,∀ y∈B,key y<=key x:=List.pairwise_append.1 h
/-- put behind all that are at least as great -/
def zGg (key:α->Nat) (x:α):List α->List α
 | []=>[x]
 | y::l=>if key x<=key y then y::zGg key x l else x::y::l
theorem zNi {x z:α}:∀ {l:List α},z∈zGg key x l->z=x\/z∈l
 | [],h=>by simp [zGg] at h;exact .inl h
 | y::l,h=>by
   simp only [zGg] at h
   split at h
   ·rcases oH.1 h with rfl | h
    ·exact .inr (by simp)
    ·exact (zNi h).imp id λh=>by simp [h]
   ·rcases oH.1 h with rfl | h
    ·exact .inl rfl
    ·exact .inr h
theorem zPR {x:α}:∀ {l:List α},Srt key l->Srt key (zGg key x l)/\Ste key (zGg key x l) (l++[x])
 | [],_=>⟨by simp [zGg,Srt],Ste.rfl'⟩
 | y :: l,h=>by
   obtain ⟨a1,a2⟩:=nK.1 h
   obtain ⟨O,h2⟩:=zPR (x:=x) a2
   simp only [zGg]
   split
   ·rename_i I
    refine ⟨nK.2 ⟨λz hz=>?_,O⟩,Ste.app (a:=[y]) (b:=[y]) Ste.rfl' h2⟩
    rcases zNi hz with rfl | hz
    ·exact I
    ·exact a1 z hz
   ·rename_i I
    refine ⟨nK.2 ⟨λz hz=>?_,h⟩,?_⟩
    ·rcases oH.1 hz with rfl | hz
     ·omega
     ·have:=a1 z hz;omega
    ·refine Ste.swap (A:=[x]) (B:=y::l) λu J v hv=>?_
     simp only [oR] at J
     subst J
     rcases oH.1 hv with rfl | hv
     ·omega
     ·have:=a1 v hv;omega
/-- the elements of a list put in order one by one -/
def u4 (key:α->Nat) (o l:List α):List α:=l.foldl (λo x=>zGg key x o) o
theorem zLT:∀ {l o:List α},Srt key o->Srt key (u4 key o l)/\Ste key (u4 key o l) (o++l)
 | [],o,h=>⟨h,by simp [u4];exact Ste.rfl'⟩
 | x::l,o,h=>by
   obtain ⟨I,J⟩:=zPR (x:=x) h
   obtain ⟨O,h4⟩:=zLT (l:=l) I
   exact ⟨O,h4.trans (by have:=Ste.app J (Ste.rfl' (key:=key) (l:=l));simpa using this)⟩
theorem zOV {l m:List α} (I:Srt key m) (J:Ste key m l):m=u4 key [] l:=by
 obtain ⟨O,h4⟩:=zLT (key:=key) (l:=l) (o:=[]) (by simp [Srt])
 exact Ste.uniq I O (J.trans (by simpa using h4.symm))
/-- full blocks, each in order -/
inductive Fb (key:α->Nat) (n:Nat):List α->Prop
 | nil:Fb key n []
 | snoc {P A:List α}:Fb key n P->A.length=n->Srt key A->Fb key n (P++A)
/-- blocks, each in order; the last may be short -/
inductive Blk (key:α->Nat) (n:Nat):List α->Prop
 | last {l:List α}:l.length<=n->Srt key l->Blk key n l
 | cons {A R:List α}:A.length=n->Srt key A->Blk key n R->Blk key n (A++R)
theorem Fb.blk {n:Nat} {P:List α} (h:Fb key n P):∀ {T:List α},Blk key n T->Blk key n (P++T):=by
 induction h with
 | nil=>intro T hT;simpa using hT
 | snoc _ I J O=>intro T hT;rw [nG];exact O (.cons I J hT)
theorem Blk.small {n:Nat} {R:List α} (h:Blk key n R) (I:R.length<=n):Srt key R:=by
 cases h with
 | last _ h=>exact h
 | cons O J h3=>
   rename_i A R
   simp only [oE] at I
   have:R=[]:=oO (by omega)
   subst this
   simpa using J
/-- two blocks at the front -/
theorem Blk.two {n:Nat} {R:List α} (h:Blk key n R) (hn:0<n) (hl:2*n<=R.length):∃ A B R',R=A++B++R'/\A.length=n/\B.length=n/\Srt key A/\Srt key B/\Blk key n R':=by
 cases h with
 | last h _=>omega
 | cons J O h3=>
   rename_i A R
   simp only [oE] at hl
   cases h3 with
   | last h4 I=>exact ⟨A,R,[],by simp,J,by omega,O,I,.last (by simp) (by simp [Srt])⟩
   | cons h4 I h6=>exact ⟨A,_,_,by rw [nG],J,h4,O,I,h6⟩
/-- a block and a short one -/
theorem Blk.rest {n:Nat} {R:List α} (h:Blk key n R) (J:n<R.length) (I:R.length<2*n):∃ A B,R=A++B/\A.length=n/\Srt key A/\Srt key B:=by
 cases h with
 | last h _=>omega
 | cons O h2 h3=>
   rename_i A R
   simp only [oE] at J I
   exact ⟨A,R,rfl,O,h2,h3.small (by omega)⟩
theorem zE1 {L R:List α} {x d:α} {i:Nat} (hi:i=L.length):(L++x::R).getD i d=x:=by
 subst hi;simp [oA]
theorem zFF {L R:List α} {x y:α} {i:Nat} (hi:i=L.length):(L++x::R).set i y=L++y::R:=by
 subst hi;simp
theorem zLo {L C R:List α} {x y d:α} {j:Nat} (I:j=L.length+1+C.length):(L++x::(C++y::R)).getD j d=y:=by
 have:L++x::(C++y::R)=(L++x::C)++y::R:=by simp
 rw [this];exact zE1 (by simp;omega)
theorem zNo {L C R:List α} {x y z:α} {j:Nat} (I:j=L.length+1+C.length):(L++x::(C++y::R)).set j z=L++x::(C++z::R):=by
 have:L++x::(C++y::R)=(L++x::C)++y::R:=by simp
 rw [this,zFF (by simp;omega)];simp
/-- a list at a place -/
theorem zEw {l:List α} {i:Nat} (h:i<l.length):∃ L x R,l=L++x::R/\L.length=i:=⟨l.take i,l[i],l.drop (i+1),by simp,by simp;omega⟩
theorem p8 {l:List α} {i:Nat} (h:i<=l.length):∃ L R,l=L++R/\L.length=i:=⟨l.take i,l.drop i,by simp,by simp;omega⟩
end
open Go Go.Proofs Go.Proofs.Tryz Go.IntWalk
/-- a term with its cells -/
abbrev TD:=Tm × D
def tz (p:TD):Nat:=p.1.sz
def zP (ps:List TD):List D:=ps.map (·.2)
def TDs (ps:List TD):Prop:=∀ p∈ps,p.1.Is p.2/\p.1.cnt<=1073741824
theorem zL (ps:List TD):(zP ps).length=ps.length:=by simp [zP]
theorem TDs.of {l m:List TD} (h:TDs l) (I:∀ p∈m,p∈l):TDs m:=λp J=>h p (I p J)
theorem sz_cnt:∀ t:Tm,t.sz<=t.cnt
 | .mk _ _ _ _ ty re l=>by simp only [Tm.sz,Tm.cnt];have:=pU l;omega
theorem zBs {L R:List TD} {x:TD} {i:Nat} (hi:i=L.length):(zP (L++x::R)).getD i default=x.2:=by
 rw [zP,nW,oh];exact zE1 (by simp [hi])
theorem swp {L C R:List TD} {x y:TD} {W:List TD} (J:W=L++x::(C++y::R)) {i j:Nat} (hi:i=L.length) (I:j=L.length+1+C.length) :
  ((zP W).set i ((zP W).getD j default)).set j ((zP W).getD i default)=zP (L++y::(C++x::R)):=by
 subst J
 simp only [zP,nW,oh]
 rw [zLo (j:=j) (by simp [I]),zE1 (i:=i) (by simp [hi]),zFF (i:=i) (by simp [hi]),zNo (j:=j) (by simp [I])]
theorem zVy {L C R:List TD} {x y:TD} {W:List TD} (J:W=L++x::(C++y::R)) {i j:Nat} (hi:i=L.length) (I:j=L.length+1+C.length) :
  ((zP W).set j ((zP W).getD i default)).set i ((zP W).getD j default)=zP (L++y::(C++x::R)):=by
 subst J
 simp only [zP,nW,oh]
 rw [zLo (j:=j) (by simp [I]),zE1 (i:=i) (by simp [hi]),zNo (j:=j) (by simp [I]),zFF (i:=i) (by simp [hi])]
theorem zR4 {p q:TD} (I:p.1.Is p.2/\p.1.cnt<=1073741824) (J:q.1.Is q.2/\q.1.cnt<=1073741824):zAO 64 [.dg 9 p.2,.dg 9 q.2] ((tz q:Int) - tz p):=λN Q O=>by
 have h1:=sz_cnt p.1
 have h2:=sz_cnt q.1
 refine zBQ N _ _ Q λ_ _ N1 aa=>tF _ _ J.1 J.2 N1 _ λN2 ab _ N3 ac=>tF _ _ I.1 I.2 N3 _ λN4 ae _ N5 ah=>?_
 rw [i64_in _ (by omega)]
 exact O _ (by omega)
theorem zBD {P A C B S:List TD} (ab:A.length=B.length) {m c:Nat} (hm:m=(P++(A++(C++(B++S)))).length) (ah:m<=1073741824) {n1 n2 n3:Int} (h1:n1=P.length) (h2:n2=(P.length+A.length+C.length:Nat)) (h3:n3=A.length)
  (N:Nat) (Q:QT [.sl 9]) (hQ:∀ N',N<=N'->Q none (zP (P++(B++(C++(A++S))))) c N') :
  XCalls prog 208 [.sl 9] [.sb 0 9 0 m c,.j n1,.j n2,.j n3,.fn 64 []] [.arr 36 9 (zP (P++(A++(C++(B++S))))) c] N Q:=by
 refine vY N m c n1 n2 n3 _ c Q λE hB=>?_
 have key:∀ (I J U V:List TD) (k:Nat) (N':Nat),I.length=J.length->n1+k=U.length->n2+k=(U.length+I.length+V.length:Nat)->n3=k+I.length->(U++(I++(V++(J++S)))).length=m->N<=N' ->
   (∀ N'',N<=N''->Q none (zP (U++(J++(V++(I++S))))) c N'') ->
   zf E Q N m c m c n1 n2 n3 k (zP (U++(I++(V++(J++S))))) c N':=by
  intro I
  induction I with
  | nil=>
    intro J U V k N' hl e1 e2 e3 hlen aa O
    have:J=[]:=oO hl.symm
    subst this
    refine y9 _ _ _ _ _ _ _ _ _ _ _ _ _ _ (Br.dec (λh=>?_) λ_=>⟨rfl,⟨by rw [zL];exact hlen,rfl⟩,λN1 ai=>O N1 (by omega)⟩)
    simp at e3;omega
  | cons x A' ih=>
    intro J U V k N' hl e1 e2 e3 hlen aa O
    cases J with
    | nil=>simp at hl
    | cons y B'=>
      have hW:U++((x::A')++(V++((y::B')++S)))=U++x::((A'++V)++y::(B'++S)):=by simp
      have ac:U.length+1+A'.length+V.length+1+B'.length+S.length=m:=by rw [<-hlen];simp;omega
      simp only [oJ] at hl e2 e3
      refine y9 _ _ _ _ _ _ _ _ _ _ _ _ _ _ (Br.dec (λh=>?_) λh=>by omega)
      have w1:=i64_in (n1+k) (by omega)
      have w2:=i64_in (n2+k) (by omega)
      have w3:=i64_in ((k:Int)+1) (by omega)
      rw [w1,w2,w3]
      have hs:=swp (W:=U++((x::A')++(V++((y::B')++S)))) hW (i:=0+(n1+k).toNat) (j:=0+(n2+k).toNat) (by omega) (by simp;omega)
      rw [hs]
      simp only [zL,nw,hlen]
      refine ⟨⟨by omega,by omega,by omega⟩,by omega,⟨by omega,by omega,by omega⟩,by omega,⟨by omega,by omega,by omega⟩,by omega,⟨by omega,by omega,by omega⟩,by omega,?_⟩
      have:=ih B' (U++[y]) (V++[x]) (k+1) N' (by omega) (by simp;omega) (by simp;omega) (by omega) (by simp;omega) aa (λN'' h=>by have:=O N'' h;simpa using this)
      simpa using this
 have ae:∀ N'',N<=N''->Q none (zP (P++(B++(C++(A++S))))) c N'':=hQ
 rw [zL,<-hm]
 exact key A B P C 0 N ab (by omega) (by omega) (by omega) hm.symm (oB _) ae
theorem zRy {P A B S:List TD} (hA:A≠[]) (hB:B≠[]) {m c:Nat} (hm:m=(P++(A++(B++S))).length) (J:m<=1073741824) {n1 n2 n3:Int} (h1:n1=P.length) (h2:n2=(P.length+A.length:Nat)) (h3:n3=(P.length+A.length+B.length:Nat))
  (N:Nat) (Q:QT [.sl 9]) (hQ:∀ N',N<=N'->Q none (zP (P++(B++(A++S)))) c N') :
  XCalls prog 177 [.sl 9] [.sb 0 9 0 m c,.j n1,.j n2,.j n3,.fn 64 []] [.arr 36 9 (zP (P++(A++(B++S)))) c] N Q:=by
 refine uj N m c n1 n2 n3 _ c Q λE ai=>?_
 have key:∀ (n:Nat) (P X Y S:List TD) (i j:Int) (N':Nat),X.length+Y.length<=n->X≠[]->Y≠[]->i=X.length->j=Y.length->n2=(P.length+X.length:Nat)->(P++(X++(Y++S))).length=m->N<=N' ->
   (∀ N'',N<=N''->Q none (zP (P++(Y++(X++S)))) c N'') ->
   zZ E Q N m c m c n2 i j (zP (P++(X++(Y++S)))) c N':=by
  intro n
  induction n with
  | zero=>
    intro P X Y S i j N' hn hX
    have:=oS.2 hX
    omega
  | succ n ih=>
    intro P X Y S i j N' hn hX hY hi hj ab hlen aj O
    have hx:=oS.2 hX
    have hy:=oS.2 hY
    have I:P.length+X.length+Y.length+S.length=m:=by rw [<-hlen];simp;omega
    refine uz _ _ _ _ _ _ _ _ _ _ _ _ _ (Br.bne (λak=>?_) λheq N5 al=>?_)
    ·refine Br.dec (λac N1 am=>?_) λac N3 ao=>?_
     ·obtain ⟨X1,X2,rfl,ae⟩:=p8 (l:=X) (i:=Y.length) (by omega)
      simp only [oE] at hi I ab hn hx
      rw [i64_in _ (by omega),i64_in _ (by omega)]
      have e1:P++((X1++X2)++(Y++S))=P++(X1++(X2++(Y++S))):=by simp
      rw [e1]
      refine zBD (P:=P) (A:=X1) (C:=X2) (B:=Y) (S:=S) ae (by simp;omega) J (by omega) (by omega) (by omega) N1 _ λN2 aa _ _ hl=>?_
      have:=ih (P++Y) X2 X1 S (i - j) j N2 (by omega) (oS.1 (by omega)) (oS.1 (by omega)) (by omega) (by omega) (by simp;omega) (by simp;omega) (by omega) (λN'' h=>by have:=O N'' h;simpa using this)
      simpa using this
     ·obtain ⟨Y1,Y2,rfl,ah⟩:=p8 (l:=Y) (i:=Y.length - X.length) (by omega)
      simp only [oE] at hj I hn ah hy
      have w1:=i64_in (n2+j) (by omega)
      rw [w1,i64_in _ (by omega),i64_in _ (by omega),i64_in _ (by omega)]
      have e1:P++(X++((Y1++Y2)++S))=P++(X++(Y1++(Y2++S))):=by simp
      rw [e1]
      refine zBD (P:=P) (A:=X) (C:=Y1) (B:=Y2) (S:=S) (by omega) (by simp;omega) J (by omega) (by omega) (by omega) N3 _ λN2 aa _ _ hl=>?_
      have:=ih P Y2 Y1 (X++S) i (j - i) N2 (by omega) (oS.1 (by omega)) (oS.1 (by omega)) (by omega) (by omega) (by omega) (by simp;omega) (by omega) (λN'' h=>by have:=O N'' h;simpa using this)
      simpa using this
    ·rw [i64_in _ (by omega)]
     have e1:P++(X++(Y++S))=P++(X++([]++(Y++S))):=by simp
     rw [e1]
     refine zBD (P:=P) (A:=X) (C:=[]) (B:=Y) (S:=S) (by omega) (by simp;omega) J (by omega) (by simp;omega) hi N5 _ λN2 aa _ _ hl=>?_
     refine ⟨rfl,⟨by rw [hl,zL];simp;omega,rfl⟩,λN7 aq=>?_⟩
     have:=O N7 (by omega)
     simpa using this
 rw [zL,<-hm,i64_in _ (by simp at hm;omega),i64_in _ (by simp at hm;omega)]
 have hx:=oS.2 hA
 exact key (A.length+B.length) P A B S _ _ N (oB _) hA hB (by omega) (by omega) (by omega) hm.symm (oB _) hQ
theorem pF {P M S:List TD} (hT:TDs M) {m c:Nat} (hm:m=(P++(M++S)).length) (a7:m<=1073741824) {n1 n2:Int} (h1:n1=P.length) (h2:n2=(P.length+M.length:Nat))
  (N:Nat) (Q:QT [.sl 9]) (hQ:∀ O N',N<=N'->Srt tz O->Ste tz O M->Q none (zP (P++(O++S))) c N') :
  XCalls prog 144 [.sl 9] [.sb 0 9 0 m c,.j n1,.j n2,.fn 64 []] [.arr 36 9 (zP (P++(M++S))) c] N Q:=by
 have aq:P.length+M.length+S.length=m:=by rw [hm];simp;omega
 refine wm N m c n1 n2 _ c Q λE hB=>?_
 have out : ∀ (R I:List TD) (i:Int) (N':Nat),TDs I->TDs R->I≠[]->Srt tz I->i=(P.length+I.length:Nat)->n2=(P.length+I.length+R.length:Nat)->(P++(I++(R++S))).length=m->N<=N' ->
   (∀ O N'',N<=N''->Srt tz O->Ste tz O (I++R)->Q none (zP (P++(O++S))) c N'') ->
   zM E Q N m c m c n1 n2 i (zP (P++(I++(R++S)))) c N':=by
  intro R
  induction R with
  | nil=>
    intro I i N' hM hR au hS hi aj hlen aw ab
    simp only [oM] at aj
    refine zn _ _ _ _ _ _ _ _ _ _ _ _ _ (Br.dec (λh=>by omega) λ_=>⟨rfl,⟨by rw [zL];exact hlen,rfl⟩,λN1 ak=>?_⟩)
    have:=ab I N1 (by omega) hS (by simpa using Ste.rfl')
    simpa using this
  | cons x R' ih=>
    intro I i N' hM hR au hS hi aj hlen aw ab
    simp only [oJ] at aj
    have ax:P.length+I.length+1+R'.length+S.length=m:=by rw [<-hlen];simp;omega
    refine zn _ _ _ _ _ _ _ _ _ _ _ _ _ (Br.dec (λh=>?_) λh=>by omega)
    have ay:∀ (n:Nat) (L T:List TD) (j:Int) (N'':Nat),L.length=n->TDs L->TDs T->Srt tz (L++T)->(∀ t∈T,tz t<tz x)->Ste tz (L++x::T) (I++[x])->j=(P.length+L.length:Nat)->N'<=N'' ->
      zU E Q N m c m c n1 n2 i j (zP (P++(L++x::(T++(R'++S))))) c N'':=by
     intro n
     induction n with
     | zero=>
       intro L T j N'' hL _ ac ae ah aa hj am
       have:=oO hL
       subst this
       refine yi _ _ _ _ _ _ _ _ _ _ _ _ _ _ (Br.dec (λh=>by simp at hj;omega) λ_=>?_)
       rw [i64_in _ (by omega)]
       have hl:=aa.len
       simp only [oE,oJ,oM] at hl
       have:=ih (x::T) (i+1) N'' (λp hp=>by
        rcases oH.1 hp with rfl | hp
        ·exact hR _ (by simp)
        ·exact ac p hp) (λp hp=>hR p (by simp [hp])) (by simp) (nK.2 ⟨λt ht=>by have:=ah t ht;omega,show Srt tz T by simpa using ae⟩) (by simp;omega) (by simp;omega) (by simp;omega) (by omega)
        λO N3 h3 h4 h5=>ab O N3 h3 h4 (h5.trans (by have:=Ste.app aa (Ste.rfl' (key:=tz) (l:=R'));simpa using this))
       simpa using this
     | succ n az=>
       intro L T j N'' hL ai ac ae ah aa hj am
       obtain ⟨J,y,rfl⟩:∃ J y,L=J++[y]:=by
        rcases ml L with rfl | ⟨J,y,rfl⟩
        ·simp at hL
        ·exact ⟨J,y,by simp⟩
       have hl:=aa.len
       simp only [oE,oJ,oM] at hl hL hj
       have hW:P++((J++[y])++x::(T++(R'++S)))=(P++J)++y::([]++x::(T++(R'++S))):=by simp
       have a6:P++((J++[y])++x::(T++(R'++S)))=(P++(J++[y]))++x::(T++(R'++S)):=by simp
       have al:(P++((J++[y])++x::(T++(R'++S)))).length=m:=by simp;omega
       have g1:(zP (P++((J++[y])++x::(T++(R'++S))))).getD (0+j.toNat) default=x.2:=by rw [a6];exact zBs (by simp;omega)
       have g2:(zP (P++((J++[y])++x::(T++(R'++S))))).getD (0+(j - 1).toNat) default=y.2:=by rw [hW];exact zBs (by simp;omega)
       have hs:=zVy hW (i:=0+(j - 1).toNat) (j:=0+j.toNat) (by simp;omega) (by simp;omega)
       refine yi _ _ _ _ _ _ _ _ _ _ _ _ _ _ (Br.dec (λh=>?_) λh=>by omega)
       rw [i64_in (j - 1) (by omega),hs,g1,g2]
       simp only [zL,nw,al]
       refine ⟨⟨by omega,by omega,by omega⟩,by omega,⟨by omega,by omega,by omega⟩,by omega,λN1 ak=>?_⟩
       refine zR4 (hR x (by simp)) (ai y (by simp)) N1 _ λN2 a8 _=>Br.dec (λhc=>?_) λhc=>?_
       ·refine ⟨⟨by omega,by omega,by omega⟩,by omega,⟨by omega,by omega,by omega⟩,by omega,⟨by omega,by omega,by omega⟩,by omega,⟨by omega,by omega,by omega⟩,by omega,?_⟩
        have:=az J (y::T) (j - 1) N2 (by omega) (λp hp=>ai p (by simp [hp])) (λp hp=>by
         rcases oH.1 hp with rfl | hp
         ·exact ai _ (by simp)
         ·exact ac p hp) (by simpa using ae) (λt ht=>by
         rcases oH.1 ht with rfl | ht
         ·omega
         ·exact ah t ht) (Ste.trans (by
          have h1:Ste tz ([x]++[y]) ([y]++[x]):=Ste.swap λu hu v hv=>by
           simp only [oR] at hu hv
           subst hu hv
           omega
          have:=Ste.app (Ste.rfl' (key:=tz) (l:=J)) (Ste.app h1 (Ste.rfl' (key:=tz) (l:=T)))
          simpa using this) aa) (by omega) (by omega)
        simpa using this
       ·rw [i64_in _ (by omega)]
        obtain ⟨s1,s2,s3⟩:=Srt.ap ae
        have ao:∀ u∈J++[y],tz x<=tz u:=λu hu=>by
         rcases oG.1 hu with hu | hu
         ·have:=(Srt.ap s1).2.2 u hu y (by simp);omega
         ·simp only [oR] at hu;subst hu;omega
        have:=ih ((J++[y])++x::T) (i+1) N2 (λp hp=>by
         simp only [oG,oH] at hp
         rcases hp with hp | rfl | hp
         ·exact ai p (by simpa using hp)
         ·exact hR _ (by simp)
         ·exact ac p hp) (λp hp=>hR p (by simp [hp])) (by simp) (Srt.app s1 (nK.2 ⟨λt ht=>by have:=ah t ht;omega,s2⟩) λu hu v hv=>by
          rcases oH.1 hv with rfl | hv
          ·exact ao u hu
          ·exact s3 u hu v hv) (by simp;omega) (by simp;omega) (by simp;omega) (by omega)
         λO N3 h3 h4 h5=>ab O N3 h3 h4 (h5.trans (by have:=Ste.app aa (Ste.rfl' (key:=tz) (l:=R'));simpa using this))
        simpa using this
    have:=ay I.length I [] i N' rfl hM (λp hp=>by simp at hp) (by simpa using hS) (by simp) (by simpa using Ste.rfl') hi (oB _)
    simpa using this
 rw [zL,<-hm]
 cases M with
 | nil=>
   simp only [oM] at h2
   rw [i64_in _ (by omega)]
   refine zn _ _ _ _ _ _ _ _ _ _ _ _ _ (Br.dec (λh=>by omega) λ_=>⟨rfl,⟨by rw [zL];exact hm.symm,rfl⟩,λN1 ak=>?_⟩)
   exact hQ [] N1 ak (by simp [Srt]) Ste.rfl'
 | cons x O=>
   simp only [oJ] at h2 aq
   rw [i64_in _ (by omega)]
   have:=out O [x] (n1+1) N (λp hp=>hT p (by simp only [oR] at hp;simp [hp])) (λp hp=>hT p (by simp [hp])) (by simp) (by simp [Srt]) (by simp;omega) (by simp;omega) (by simp;omega) (oB _) (λM2 N2 a b d=>hQ M2 N2 a b (by simpa using d))
   simpa using this
end Go.Proofs.YtlahkdflngobiaaGreatDoor
