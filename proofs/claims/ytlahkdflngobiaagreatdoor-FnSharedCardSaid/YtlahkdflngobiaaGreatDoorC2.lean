/- Rows put in order: the program's merge of two blocks. -/
import Derived.Test.YtlahkdflngobiaaGreatDoorC1
set_option linter.unusedVariables false
set_option linter.unusedSimpArgs false
namespace Go.Proofs.YtlahkdflngobiaaGreatDoor
open Go Go.Proofs Go.Proofs.Tryz Go.IntWalk
/-- the middle of two places -/
theorem zII {a b:Int} (J:0<=a) (O:0<=b) (h:a+b<=4611686018427387904):IntKind.i64.wrap (Int.fdiv (IntKind.u64.wrap (IntKind.i64.wrap (a+b))) 2)=(a+b) / 2:=by
 have e1:IntKind.i64.wrap (a+b)=a+b:=i64_in _ (by omega)
 have I:IntKind.u64.wrap (a+b)=a+b:=by
  simp only [IntKind.wrap,IntKind.bits,IntKind.signed]
  simp
  omega
 rw [e1,I,Int.fdiv_eq_ediv_of_nonneg _ (by omega)]
 exact i64_in _ (by omega)
theorem sc {α:Type} {W L R:List α} {x:α} {i:Nat} (I:W=L++x::R) (hi:i=L.length):W[i]?=some x:=by subst I;subst hi;simp
/-- moves an element to the right -/
theorem zR2 {E:Env} {m c:Nat} (ab:m<=1073741824) {N:Nat} {Q:QT [.sl 9]} {n10:Int} {x:TD}:∀ (B U T:List TD) (k:Int) (N':Nat),k=U.length->n10=(U.length+B.length+1:Nat)->(U++x::(B++T)).length=m->N<=N' ->
  (∀ N'',N<=N''->Q none (zP (U++(B++x::T))) c N'') ->
  zl E Q N m c m c n10 k (zP (U++x::(B++T))) c N':=by
 intro B
 induction B with
 | nil=>
   intro U T k N' hk I hlen J O
   simp only [oM] at I
   refine xM _ _ _ _ _ _ _ _ _ _ _ _ ?_
   rw [i64_in (n10 - 1) (by simp at hlen;omega)]
   refine Br.dec (λh=>by omega) λ_=>⟨rfl,⟨by rw [zL];exact hlen,rfl⟩,λN1 ac=>O N1 (by omega)⟩
 | cons y B' ih=>
   intro U T k N' hk I hlen J O
   simp only [oJ] at I
   have aa:U.length+1+1+B'.length+T.length=m:=by rw [<-hlen];simp;omega
   refine xM _ _ _ _ _ _ _ _ _ _ _ _ ?_
   have hW:U++x::((y::B')++T)=U++x::([]++y::(B'++T)):=by simp
   have hs:=swp hW (i:=0+k.toNat) (j:=0+(k+1).toNat) (by omega) (by simp;omega)
   rw [i64_in (n10 - 1) (by omega),i64_in (k+1) (by omega),hs]
   refine Br.dec (λh=>?_) λh=>by omega
   simp only [zL,nw,hlen]
   refine ⟨⟨by omega,by omega,by omega⟩,by omega,⟨by omega,by omega,by omega⟩,by omega,⟨by omega,by omega,by omega⟩,by omega,⟨by omega,by omega,by omega⟩,by omega,?_⟩
   have:=ih (U++[y]) T (k+1) N' (by simp;omega) (by simp;omega) (by simp;omega) J (λN'' h=>by have:=O N'' h;simpa using this)
   simpa using this
/-- moves an element to the left -/
theorem zS4 {E:Env} {m c:Nat} (ab:m<=1073741824) {N:Nat} {Q:QT [.sl 9]} {n14:Int} {x:TD} {U:List TD} (hU:n14=U.length):∀ (n:Nat) (W T:List TD) (k:Int) (N':Nat),W.length=n->k=(U.length+W.length:Nat)->(U++(W++x::T)).length=m->N<=N' ->
  (∀ N'',N<=N''->Q none (zP (U++x::(W++T))) c N'') ->
  zg E Q N m c m c n14 k (zP (U++(W++x::T))) c N':=by
 intro n
 induction n with
 | zero=>
   intro W T k N' I hk hlen O hQ
   have:=oO I
   subst this
   refine xA _ _ _ _ _ _ _ _ _ _ _ _ (Br.dec (λh=>by simp at hk;omega) λ_=>⟨rfl,⟨by rw [zL];exact hlen,rfl⟩,λN1 ac=>?_⟩)
   have:=hQ N1 (by omega)
   simpa using this
 | succ n ih=>
   intro W T k N' I hk hlen O hQ
   obtain ⟨J,y,rfl⟩:∃ J y,W=J++[y]:=by
    rcases ml W with rfl | ⟨J,y,rfl⟩
    ·simp at I
    ·exact ⟨J,y,by simp⟩
   simp only [oE,oJ,oM] at I hk
   have aa:U.length+J.length+1+1+T.length=m:=by rw [<-hlen];simp;omega
   have hW:U++((J++[y])++x::T)=(U++J)++y::([]++x::T):=by simp
   have hs:=zVy hW (i:=0+(k - 1).toNat) (j:=0+k.toNat) (by simp;omega) (by simp;omega)
   refine xA _ _ _ _ _ _ _ _ _ _ _ _ (Br.dec (λh=>?_) λh=>by omega)
   rw [i64_in (k - 1) (by omega),hs]
   simp only [zL,nw,hlen]
   refine ⟨⟨by omega,by omega,by omega⟩,by omega,⟨by omega,by omega,by omega⟩,by omega,⟨by omega,by omega,by omega⟩,by omega,⟨by omega,by omega,by omega⟩,by omega,?_⟩
   have:=ih J (y::T) (k - 1) N' (by omega) (by omega) (by simp;omega) O (λN'' h=>by have:=hQ N'' h;simpa using this)
   simpa using this
/-- where an element goes in a block in order behind it -/
theorem zN8 {E:Env} {m c:Nat} (ae:m<=1073741824) {N:Nat} {Q:QT [.sl 9]} {n1:Int} {x:TD} {P B S:List TD} (hT:TDs (x::B)) (hS:Srt tz B) (h1:n1=P.length) (hlen:(P++x::(B++S)).length=m)
  (hQ:∀ J B2 N',B=J++B2->N<=N'->(∀ u∈J,tz x<tz u)->(∀ u∈B2,tz u<=tz x)->Q none (zP (P++(J++x::(B2++S)))) c N') :
  ∀ (n:Nat) (J B2 O:List TD) (i j:Int) (N':Nat),B2.length<=n->B=J++(B2++O)->i=(P.length+1+J.length:Nat)->j=(P.length+1+J.length+B2.length:Nat)->(∀ u∈J,tz x<tz u)->(∀ u∈O,tz u<=tz x)->N<=N' ->
    zN E Q N m c m c n1 i j (zP (P++x::(B++S))) c N':=by
 intro n
 have ah:P.length+1+B.length+S.length=m:=by rw [<-hlen];simp;omega
 have fin:∀ (J O:List TD) (i j:Int) (N':Nat),B=J++O->i=(P.length+1+J.length:Nat)->j=i->(∀ u∈J,tz x<tz u)->(∀ u∈O,tz u<=tz x)->N<=N'->zN E Q N m c m c n1 i j (zP (P++x::(B++S))) c N':=by
  intro J O i j N' I hi hj aa ab ac
  subst I
  refine xO _ _ _ _ _ _ _ _ _ _ _ _ _ (Br.dec (λh=>by omega) λ_=>?_)
  have:=zR2 (E:=E) (c:=c) ae (Q:=Q) (x:=x) (n10:=i) J P (O++S) n1 N' h1 (by omega) (by simpa using hlen) ac (λN'' h=>hQ J O N'' rfl h aa ab)
  simpa using this
 induction n with
 | zero=>
   intro J B2 O i j N' hn I hi hj aa ab ac
   have:=oO (Nat.le_zero.1 hn)
   subst this
   exact fin J O i j N' (by simpa using I) hi (by simp at hj;omega) aa ab ac
 | succ n ih=>
   intro J B2 O i j N' hn I hi hj aa ab ac
   by_cases h0:B2=[]
   ·subst h0
    exact fin J O i j N' (by simpa using I) hi (by simp at hj;omega) aa ab ac
   have hp:=oS.2 h0
   have ai:B.length=J.length+B2.length+O.length:=by rw [I];simp;omega
   obtain ⟨C1,y,C2,rfl,ak⟩:=zEw (l:=B2) (i:=((i+j) / 2 - i).toNat) (by omega)
   simp only [oE,oJ] at hj hn ai
   have hW:P++x::(B++S)=(P++x::(J++C1))++y::(C2++(O++S)):=by rw [I];simp
   have al:P++x::(B++S)=P++x::(B++S):=rfl
   have g1:(zP (P++x::(B++S))).getD (0+((i+j) / 2).toNat) default=y.2:=by rw [hW];exact zBs (by simp;omega)
   have g2:(zP (P++x::(B++S))).getD (0+n1.toNat) default=x.2:=zBs (by omega)
   have aj:y∈B:=by rw [I];simp
   refine xO _ _ _ _ _ _ _ _ _ _ _ _ _ (Br.dec (λh=>?_) λh=>by omega)
   rw [zII (by omega) (by omega) (by omega),g1,g2]
   simp only [zL,hlen]
   refine ⟨by omega,⟨by omega,by omega,by omega⟩,by omega,⟨by omega,by omega,by omega⟩,by omega,λN1 am=>zR4 (hT y (by simp [aj])) (hT x (by simp)) N1 _ λN2 ao _=>Br.dec (λhc=>?_) λhc=>?_⟩
   ·rw [i64_in _ (by omega)]
    refine ih (J++(C1++[y])) C2 O _ _ N2 (by omega) (by rw [I];simp) (by simp;omega) (by simp;omega) (λu hu=>?_) ab (by omega)
    rw [I] at hS
    rcases oG.1 hu with hu | hu
    ·exact aa u hu
    ·rcases oG.1 hu with hu | hu
     ·have h3:=(Srt.ap (Srt.ap (Srt.ap hS).2.1).1).2.2 u hu y (by simp)
      omega
     ·simp only [oR] at hu;subst hu;omega
   ·refine ih J C1 (y::C2++O) _ _ N2 (by omega) (by rw [I];simp) hi (by omega) aa (λu hu=>?_) (by omega)
    rw [I] at hS
    have h3:∀ u∈C2,tz u<=tz y:=λu hu=>(nK.1 (Srt.ap (Srt.ap (Srt.ap hS).2.1).1).2.1).1 u hu
    simp only [o9,oH,oG] at hu
    rcases hu with rfl | hu | hu
    ·omega
    ·have:=h3 u hu;omega
    ·exact ab u hu
/-- where an element goes in a block in order ahead of it -/
theorem zPT {E:Env} {m c:Nat} (ae:m<=1073741824) {N:Nat} {Q:QT [.sl 9]} {n2:Int} {x:TD} {P A S:List TD} (hT:TDs (x::A)) (hS:Srt tz A) (h2:n2=(P.length+A.length:Nat)) (hlen:(P++(A++x::S)).length=m)
  (hQ:∀ J A2 N',A=J++A2->N<=N'->(∀ u∈J,tz x<=tz u)->(∀ u∈A2,tz u<tz x)->Q none (zP (P++(J++x::(A2++S)))) c N') :
  ∀ (n:Nat) (J A2 O:List TD) (i j:Int) (N':Nat),A2.length<=n->A=J++(A2++O)->i=(P.length+J.length:Nat)->j=(P.length+J.length+A2.length:Nat)->(∀ u∈J,tz x<=tz u)->(∀ u∈O,tz u<tz x)->N<=N' ->
    zK E Q N m c m c n2 i j (zP (P++(A++x::S))) c N':=by
 intro n
 have ah:P.length+1+A.length+S.length=m:=by rw [<-hlen];simp;omega
 have fin:∀ (J O:List TD) (i j:Int) (N':Nat),A=J++O->i=(P.length+J.length:Nat)->j=i->(∀ u∈J,tz x<=tz u)->(∀ u∈O,tz u<tz x)->N<=N'->zK E Q N m c m c n2 i j (zP (P++(A++x::S))) c N':=by
  intro J O i j N' I hi hj aa ab ac
  subst I
  refine xB _ _ _ _ _ _ _ _ _ _ _ _ _ (Br.dec (λh=>by omega) λ_=>?_)
  have:=zS4 (E:=E) (c:=c) ae (Q:=Q) (x:=x) (n14:=i) (U:=P++J) (by simp;omega) O.length O S n2 N' rfl (by rw [h2];simp;omega) (by simpa using hlen) ac (λN'' h=>by have:=hQ J O N'' rfl h aa ab;simpa using this)
  simpa using this
 induction n with
 | zero=>
   intro J A2 O i j N' hn I hi hj aa ab ac
   have:=oO (Nat.le_zero.1 hn)
   subst this
   exact fin J O i j N' (by simpa using I) hi (by simp at hj;omega) aa ab ac
 | succ n ih=>
   intro J A2 O i j N' hn I hi hj aa ab ac
   by_cases h0:A2=[]
   ·subst h0
    exact fin J O i j N' (by simpa using I) hi (by simp at hj;omega) aa ab ac
   have hp:=oS.2 h0
   have ai:A.length=J.length+A2.length+O.length:=by rw [I];simp;omega
   obtain ⟨C1,y,C2,rfl,al⟩:=zEw (l:=A2) (i:=((i+j) / 2 - i).toNat) (by omega)
   simp only [oE,oJ] at hj hn ai
   have hW:P++(A++x::S)=(P++(J++C1))++y::(C2++(O++x::S)):=by rw [I];simp
   have aj:P++(A++x::S)=(P++A)++x::S:=by simp
   have g1:(zP (P++(A++x::S))).getD (0+((i+j) / 2).toNat) default=y.2:=by rw [hW];exact zBs (by simp;omega)
   have g2:(zP (P++(A++x::S))).getD (0+n2.toNat) default=x.2:=by rw [aj];exact zBs (by simp;omega)
   have ak:y∈A:=by rw [I];simp
   refine xB _ _ _ _ _ _ _ _ _ _ _ _ _ (Br.dec (λh=>?_) λh=>by omega)
   rw [zII (by omega) (by omega) (by omega),g1,g2]
   simp only [zL,hlen]
   refine ⟨by omega,⟨by omega,by omega,by omega⟩,by omega,⟨by omega,by omega,by omega⟩,by omega,λN1 am=>zR4 (hT x (by simp)) (hT y (by simp [ak])) N1 _ λN2 ao _=>Br.ndec (λhc=>?_) λhc=>?_⟩
   ·rw [i64_in _ (by omega)]
    refine ih (J++(C1++[y])) C2 O _ _ N2 (by omega) (by rw [I];simp) (by simp;omega) (by simp;omega) (λu hu=>?_) ab (by omega)
    rw [I] at hS
    rcases oG.1 hu with hu | hu
    ·exact aa u hu
    ·rcases oG.1 hu with hu | hu
     ·have h3:=(Srt.ap (Srt.ap (Srt.ap hS).2.1).1).2.2 u hu y (by simp)
      omega
     ·simp only [oR] at hu;subst hu;omega
   ·refine ih J C1 (y::C2++O) _ _ N2 (by omega) (by rw [I];simp) hi (by omega) aa (λu hu=>?_) (by omega)
    rw [I] at hS
    have h3:∀ u∈C2,tz u<=tz y:=λu hu=>(nK.1 (Srt.ap (Srt.ap (Srt.ap hS).2.1).1).2.1).1 u hu
    simp only [o9,oH,oG] at hu
    rcases hu with rfl | hu | hu
    ·omega
    ·have:=h3 u hu;omega
    ·exact ab u hu
/-- the contract of a merge of two blocks in order -/
def zUd (A B:List TD):Prop:=∀ {P S:List TD} {m c:Nat} (_:TDs (P++(A++(B++S)))) (_:m=(P++(A++(B++S))).length) (_:m<=1073741824) {n1 n2 n3:Int} (_:n1=P.length) (_:n2=(P.length+A.length:Nat)) (_:n3=(P.length+A.length+B.length:Nat))
    (N:Nat) (Q:QT [.sl 9]) (_:∀ M N',N<=N'->Srt tz M->Ste tz M (A++B)->Q none (zP (P++(M++S))) c N'),
    XCalls prog 145 [.sl 9] [.sb 0 9 0 m c,.j n1,.j n2,.j n3,.fn 64 []] [.arr 36 9 (zP (P++(A++(B++S)))) c] N Q
theorem zNk {α:Type} {l:List α} (h:l≠[]):∃ I y,l=I++[y]:=by
 rcases ml l with rfl | ⟨J,y,rfl⟩
 ·exact absurd rfl h
 ·exact ⟨J,y,by simp⟩
def zVS (W:List TD) (i j:Int):Prop:=∃ x y,W[i.toNat]?=some x/\W[j.toNat]?=some y/\tz y<=tz x
def zVF (W:List TD) (i j:Int):Prop:=∃ x y,W[i.toNat]?=some x/\W[j.toNat]?=some y/\tz x<tz y
/-- a place found by halves: ahead of it no more, from it on less -/
theorem zH6 {E:Env} {m c:Nat} (hm2:m<=1073741824) {N:Nat} {Q:QT [.sl 9]} {n1 n2 n3 n18 n19 n22:Int} {W:List TD} (hT:TDs W) (hlen:W.length=m) {s0 r0:Int} (h22:n22=n19 - 1)
  (hs0:0<=s0) (hr0:r0<=m) (hp1:n19 - s0<=m) (hp2:0<=n19 - r0) (h19:n19<=2147483648)
  (fin:∀ (s:Int) (N':Nat),s0<=s->s<=r0->N<=N'->(s=s0\/zVS W (s - 1) (n22 - (s - 1)))->(s=r0\/zVF W s (n22 - s)) ->
   zF E Q N m c m c n1 n2 n3 n18 n19 s s n22 (zP W) c N') :
  ∀ (n:Nat) (s r:Int) (N':Nat),(r - s).toNat<=n->s0<=s->s<=r->r<=r0->N<=N' ->
    (s=s0\/zVS W (s - 1) (n22 - (s - 1)))->(r=r0\/zVF W r (n22 - r)) ->
    zF E Q N m c m c n1 n2 n3 n18 n19 s r n22 (zP W) c N':=by
 intro n
 induction n with
 | zero=>
   intro s r N' hn h1 h2 h3 hN' f1 f2
   have:s=r:=by omega
   subst this
   exact fin s N' h1 h3 hN' f1 f2
 | succ n ih=>
   intro s r N' hn h1 h2 h3 hN' f1 f2
   by_cases h0:s=r
   ·subst h0
    exact fin s N' h1 h3 hN' f1 f2
   have hc1:s<=(s+r) / 2:=by omega
   have hc2:(s+r) / 2<r:=by omega
   obtain ⟨L1,x,R1,hW1,hl1⟩:=zEw (l:=W) (i:=((s+r) / 2).toNat) (by omega)
   obtain ⟨L2,y,R2,hW2,hl2⟩:=zEw (l:=W) (i:=(n22 - (s+r) / 2).toNat) (by omega)
   have ex:W[((s+r) / 2).toNat]?=some x:=sc hW1 hl1.symm
   have ey:W[(n22 - (s+r) / 2).toNat]?=some y:=sc hW2 hl2.symm
   have g1:(zP W).getD (0+((s+r) / 2).toNat) default=x.2:=by rw [hW1];exact zBs (by omega)
   have g2:(zP W).getD (0+(n22 - (s+r) / 2).toNat) default=y.2:=by rw [hW2];exact zBs (by omega)
   refine xC _ _ _ _ _ _ _ _ _ _ _ _ _ _ _ _ _ _ (Br.dec (fun h=>?_) fun h=>by omega)
   rw [zII (by omega) (by omega) (by omega),i64_in (n22 - (s+r) / 2) (by omega),g1,g2]
   simp only [zL,hlen]
   refine ⟨by omega,⟨by omega,by omega,by omega⟩,by omega,⟨by omega,by omega,by omega⟩,by omega,fun N1 hN1=>zR4 (hT y (by rw [hW2];simp)) (hT x (by rw [hW1];simp)) N1 _ fun N2 hN2 _=>Br.ndec (fun hc=>?_) fun hc=>?_⟩
   ·rw [i64_in ((s+r) / 2+1) (by omega)]
    refine ih ((s+r) / 2+1) r N2 (by omega) (by omega) (by omega) h3 (by omega) (.inr ⟨x,y,?_,?_,by omega⟩) f2
    ·rw [Int.add_sub_cancel];exact ex
    ·rw [Int.add_sub_cancel];exact ey
   ·exact ih s ((s+r) / 2) N2 (by omega) h1 hc1 (by omega) (by omega) f1 (.inr ⟨x,y,ex,ey,by omega⟩)
theorem zHW:∀ (n:Nat) (A B:List TD),A.length+B.length<=n->A≠[]->B≠[]->Srt tz A->Srt tz B->zUd A B:=by
 intro n
 induction n with
 | zero=>
   intro A B hn hA
   have:=oS.2 hA
   omega
 | succ n ih=>
   intro A B hn hA hB ae ah P S m c aa hm ab n1 n2 n3 h1 h2 h3 N Q hQ
   have bd:TDs A:=aa.of λp hp=>by simp [hp]
   have bg:TDs B:=aa.of λp hp=>by simp [hp]
   have ha:=oS.2 hA
   have hb:=oS.2 hB
   have aw:P.length+A.length+B.length+S.length=m:=by rw [hm];simp;omega
   refine uL N m c n1 n2 n3 _ c Q λE b8=>?_
   rw [zL,<-hm,i64_in (n2 - n1) (by omega),i64_in (n3 - n2) (by omega),zII (by omega) (by omega) (by omega)]
   refine Br.beq (λhe=>?_) λak=>?_
   ·-- one element ahead
    obtain ⟨x,rfl⟩:∃ x,A=[x]:=List.length_eq_one_iff.1 (by omega)
    have:=zN8 (E:=E) ab (Q:=Q) (c:=c) (n1:=n1) (x:=x) (P:=P) (B:=B) (S:=S) (by
     intro p hp
     rcases oH.1 hp with rfl | hp
     ·exact bd _ (by simp)
     ·exact bg p hp) ah h1 (by rw [hm];simp) (λB1 O N' bq ac al am=>by
      subst bq
      have:=hQ (B1++x::O) N' ac (Srt.app (Srt.ap ah).1 (nK.2 ⟨am,(Srt.ap ah).2.1⟩) λu hu v hv=>by
       rcases oH.1 hv with rfl | hv
       ·have:=al u hu;omega
       ·exact (Srt.ap ah).2.2 u hu v hv) (by
       have h1:Ste tz (B1++[x]) ([x]++B1):=Ste.swap λu hu v hv=>by
        simp only [oR] at hv
        subst hv
        have:=al u hu;omega
       have:=Ste.app h1 (Ste.rfl' (key:=tz) (l:=O))
       simpa using this)
      simpa using this) B.length [] B [] n2 n3 N (oB _) (by simp) (by simp at h2;simp;omega) (by simp at h3;simp;omega) (by simp) (by simp) (oB _)
    simpa using this
   refine Br.beq (λhe=>?_) λb6=>⟨by omega,?_⟩
   ·-- one element behind
    obtain ⟨x,rfl⟩:∃ x,B=[x]:=List.length_eq_one_iff.1 (by omega)
    have:=zPT (E:=E) ab (Q:=Q) (c:=c) (n2:=n2) (x:=x) (P:=P) (A:=A) (S:=S) (by
     intro p hp
     rcases oH.1 hp with rfl | hp
     ·exact bg _ (by simp)
     ·exact bd p hp) ae h2 (by rw [hm];simp) (λA1 J N' bt ac al am=>by
      subst bt
      have:=hQ (A1++x::J) N' ac (Srt.app (Srt.ap ae).1 (nK.2 ⟨λv hv=>by have:=am v hv;omega,(Srt.ap ae).2.1⟩) λu hu v hv=>by
       rcases oH.1 hv with rfl | hv
       ·exact al u hu
       ·exact (Srt.ap ae).2.2 u hu v hv) (by
       have h1:Ste tz ([x]++J) (J++[x]):=Ste.swap λu hu v hv=>by
        simp only [oR] at hu
        subst hu
        have:=am v hv;omega
       have:=Ste.app (Ste.rfl' (key:=tz) (l:=A1)) h1
       simpa using this)
      simpa using this) A.length [] A [] n1 n2 N (oB _) (by simp) (by simp;omega) (by simp;omega) (by simp) (by simp) (oB _)
    simpa using this
   -- two blocks of two or more
   have ax:n1<(n1+n3) / 2:=by omega
   have ay:(n1+n3) / 2<n3:=by omega
   generalize b7:(n1+n3) / 2=I at ax ay
   have ai:(P++(A++(B++S))).length=m:=hm.symm
   have au:∀ (s0 r0:Int),n1<=s0->r0<=n2->r0<=I->s0<=r0->(s0=n1\/s0=I+n2 - n3)->(r0=n2\/r0=I)->I+n2 - s0<=n3 ->
     ∀ (s:Int) (N':Nat),s0<=s->s<=r0->N<=N'->(s=s0\/zVS (P++(A++(B++S))) (s - 1) (I+n2 - 1 - (s - 1))) ->
       (s=r0\/zVF (P++(A++(B++S))) s (I+n2 - 1 - s)) ->
       zF E Q N m c m c n1 n2 n3 I (I+n2) s s (I+n2 - 1) (zP (P++(A++(B++S)))) c N':=by
    intro s0 r0 a1 a2 a3 a4 a5 a6 a7 s N' b1 b2 ac f1 f2
    obtain ⟨A1,J,rfl,bh⟩:=p8 (l:=A) (i:=(s - n1).toNat) (by omega)
    obtain ⟨B1,O,rfl,bi⟩:=p8 (l:=B) (i:=(I - s).toNat) (by omega)
    simp only [oE] at h2 h3 ha hb aw hn bh bi
    obtain ⟨az,a8,sA⟩:=Srt.ap ae
    obtain ⟨ba,bb,sB⟩:=Srt.ap ah
    -- what stands in the middle
    have bj:∀ u∈B1,∀ v∈J,tz v<tz u:=by
     intro u hu v hv
     have ak:s≠r0:=by
      rintro rfl
      have:=oS.2 (mS hu)
      have:=oS.2 (mS hv)
      omega
     obtain ⟨x,y,ex,ey,bv⟩:=f2.resolve_left ak
     obtain ⟨B',yy,rfl⟩:=zNk (mS hu)
     cases J with
     | nil=>simp at hv
     | cons xx A'=>
       simp only [oE,oJ,oM] at h2 h3 aw bi
       have e1:=sc (W:=P++((A1++(xx::A'))++(((B'++[yy])++O)++S))) (L:=P++A1) (x:=xx) (R:=A'++(((B'++[yy])++O)++S)) (i:=s.toNat) (by simp) (by simp;omega)
       have e2:=sc (W:=P++((A1++(xx::A'))++(((B'++[yy])++O)++S))) (L:=P++(A1++xx::(A'++B'))) (x:=yy) (R:=O++S) (i:=(I+n2 - 1 - s).toNat) (by simp) (by simp;omega)
       rw [e1] at ex;rw [e2] at ey
       cases ex;cases ey
       have h4:tz v<=tz x:=by
        rcases oH.1 hv with rfl | hv
        ·exact oB _
        ·exact (nK.1 a8).1 v hv
       have h5:tz y<=tz u:=by
        rcases oG.1 hu with hu | hu
        ·exact (Srt.ap ba).2.2 u hu y (by simp)
        ·simp only [oR] at hu;subst hu;exact oB _
       omega
    have bw:∀ u∈A1,∀ v∈O,tz v<=tz u:=by
     intro u hu v hv
     have ak:s≠s0:=by
      rintro rfl
      have:=oS.2 (mS hu)
      have:=oS.2 (mS hv)
      omega
     obtain ⟨x,y,ex,ey,bv⟩:=f1.resolve_left ak
     obtain ⟨A',xx,rfl⟩:=zNk (mS hu)
     cases O with
     | nil=>simp at hv
     | cons yy B'=>
       simp only [oE,oJ,oM] at h2 h3 aw bh
       have e1:=sc (W:=P++(((A'++[xx])++J)++((B1++yy::B')++S))) (L:=P++A') (x:=xx) (R:=J++((B1++yy::B')++S)) (i:=(s - 1).toNat) (by simp) (by simp;omega)
       have e2:=sc (W:=P++(((A'++[xx])++J)++((B1++yy::B')++S))) (L:=P++(A'++xx::(J++B1))) (x:=yy) (R:=B'++S) (i:=(I+n2 - 1 - (s - 1)).toNat) (by simp) (by simp;omega)
       rw [e1] at ex;rw [e2] at ey
       cases ex;cases ey
       have h4:tz v<=tz y:=by
        rcases oH.1 hv with rfl | hv
        ·exact oB _
        ·exact (nK.1 bb).1 v hv
       have h5:tz x<=tz u:=by
        rcases oG.1 hu with hu | hu
        ·exact (Srt.ap az).2.2 u hu x (by simp)
        ·simp only [oR] at hu;subst hu;exact oB _
       omega
    -- the second merge
    have last:∀ (M1:List TD) (N2:Nat),N<=N2->Srt tz M1->Ste tz M1 (A1++B1)->zR E Q N m c m c n3 I (I+n2 - s) (zP (P++(M1++(J++(O++S))))) c N2:=by
     intro M1 N2 bc bz ao
     have b3:=ao.len
     simp only [oE] at b3
     have fin:∀ (M2:List TD) (N3:Nat),N<=N3->Srt tz M2->Ste tz M2 (J++O)->Q none (zP (P++(M1++(M2++S)))) c N3:=by
      intro M2 N3 aq b4 bm
      have:=hQ (M1++M2) N3 aq (Srt.app bz b4 λu hu v hv=>by
       have hu:=ao.mem.1 hu
       have hv:=bm.mem.1 hv
       rcases oG.1 hu with hu | hu<;>rcases oG.1 hv with hv | hv
       ·exact sA u hu v hv
       ·exact bw u hu v hv
       ·have:=bj u hu v hv;omega
       ·exact sB u hu v hv) (by
       have h5:Ste tz (B1++J) (J++B1):=Ste.swap λu hu v hv=>by have:=bj u hu v hv;omega
       have h6:=Ste.app ao bm
       have h7:=Ste.app (Ste.rfl' (key:=tz) (l:=A1)) (Ste.app h5 (Ste.rfl' (key:=tz) (l:=O)))
       have h8:Ste tz (M1++M2) (A1++((B1++J)++O)):=by simpa using h6
       exact h8.trans (by simpa using h7))
      simpa using this
     refine uJ _ _ _ _ _ _ _ _ _ _ _ _ _ (Br.dec (λg1=>Br.dec (λg2 N3 aq=>?_) λg2=>?_) λg1=>?_)
     ·have e1:P++(M1++(J++(O++S)))=(P++M1)++(J++(O++S)):=by simp
      rw [e1]
      refine ih J O (by omega) (oS.1 (by omega)) (oS.1 (by omega)) a8 bb (P:=P++M1) (S:=S) (aa.of λp hp=>by
       have:=ao.mem (x:=p)
       simp only [oG] at hp this ⊢
       rcases hp with (hp | hp) | hp | hp | hp
       ·exact .inl hp
       ·rcases this.1 hp with hp | hp<;>simp [hp]
       ·simp [hp]
       ·simp [hp]
       ·simp [hp]) (by simp;omega) ab (by simp;omega) (by simp;omega) (by simp;omega) N3 _ λM2 N4 bn k1 k2 _ _ hl=>?_
      refine ⟨rfl,⟨by rw [hl,zL];simp;omega,rfl⟩,λN5 bp=>?_⟩
      have:=fin M2 N5 (by omega) k1 k2
      simpa using this
     ·have hz:O=[]:=oO (by omega)
      refine ⟨rfl,⟨by rw [zL];simp;omega,rfl⟩,λN5 bp=>?_⟩
      have:=fin (J++O) N5 (by omega) (by rw [hz];simpa using a8) Ste.rfl'
      simpa using this
     ·have hz:J=[]:=oO (by omega)
      refine ⟨rfl,⟨by rw [zL];simp;omega,rfl⟩,λN5 bp=>?_⟩
      have:=fin (J++O) N5 (by omega) (by rw [hz];simpa using bb) Ste.rfl'
      simpa using this
    -- the first merge
    have aj:∀ (N2:Nat),N<=N2->zS E Q N m c m c n1 n3 I s (I+n2 - s) (zP (P++(A1++(B1++(J++(O++S)))))) c N2:=by
     intro N2 bc
     refine uK _ _ _ _ _ _ _ _ _ _ _ _ _ _ _ (Br.dec (λg1=>Br.dec (λg2 N3 aq=>?_) λg2=>?_) λg1=>?_)
     ·refine ih A1 B1 (by omega) (oS.1 (by omega)) (oS.1 (by omega)) az ba (P:=P) (S:=J++(O++S)) (aa.of λp hp=>by
       simp only [oG] at hp ⊢
       rcases hp with hp | hp | hp | hp | hp | hp<;>simp [hp]) (by simp;omega) ab (by omega) (by omega) (by omega) N3 _ λM1 N4 bn k1 k2 _ _ hl=>?_
      exact last M1 N4 (by omega) k1 k2
     ·have hz:B1=[]:=oO (by omega)
      have:=last (A1++B1) N2 bc (by rw [hz];simpa using az) Ste.rfl'
      simpa using this
     ·have hz:A1=[]:=oO (by omega)
      have:=last (A1++B1) N2 bc (by rw [hz];simpa using ba) Ste.rfl'
      simpa using this
    refine xC _ _ _ _ _ _ _ _ _ _ _ _ _ _ _ _ _ _ (Br.dec (λh=>by omega) λ_=>?_)
    rw [i64_in (I+n2 - s) (by omega)]
    refine Br.dec (λg1=>Br.dec (λg2 N3 aq=>?_) λg2=>?_) λg1=>?_
    ·have e1:P++((A1++J)++((B1++O)++S))=(P++A1)++(J++(B1++(O++S))):=by simp
     rw [e1]
     refine zRy (P:=P++A1) (A:=J) (B:=B1) (S:=O++S) (oS.1 (by omega)) (oS.1 (by omega)) (by simp;omega) ab (by simp;omega) (by simp;omega) (by simp;omega) N3 _ λN4 bn _ _ hl=>?_
     have:=aj N4 (by omega)
     simpa using this
    ·have hz:B1=[]:=oO (by omega)
     have:=aj N' ac
     subst hz
     simpa using this
    ·have hz:J=[]:=oO (by omega)
     have:=aj N' ac
     subst hz
     simpa using this
   rw [i64_in (I+n2) (by omega)]
   refine Br.dec (λb5=>?_) λb5=>?_
   ·rw [i64_in (I+n2 - n3) (by omega),i64_in (I+n2 - 1) (by omega)]
    exact zH6 ab (hT:=aa) (hlen:=ai) (s0:=I+n2 - n3) (r0:=I) rfl (by omega) (by omega) (by omega) (by omega) (by omega) (au _ _ (by omega) (by omega) (by omega) (by omega) (.inr rfl) (.inr rfl) (by omega)) _ _ _ N (oB _) (by omega) (by omega) (by omega) (oB _) (.inl rfl) (.inl rfl)
   ·rw [i64_in (I+n2 - 1) (by omega)]
    exact zH6 ab (hT:=aa) (hlen:=ai) (s0:=n1) (r0:=n2) rfl (by omega) (by omega) (by omega) (by omega) (by omega) (au _ _ (by omega) (by omega) (by omega) (by omega) (.inl rfl) (.inl rfl) (by omega)) _ _ _ N (oB _) (by omega) (by omega) (by omega) (oB _) (.inl rfl) (.inl rfl)
theorem zRX {W:List TD} (hT:TDs W) {m c:Nat} (hm:m=W.length) (ab:m<=1073741824) {n1:Int} (h1:n1=m)
  (N:Nat) (Q:QT [.sl 9]) (hQ:∀ M N',N<=N'->Srt tz M->Ste tz M W->Q none (zP M) c N') :
  XCalls prog 106 [.sl 9] [.sb 0 9 0 m c,.j n1,.fn 64 []] [.arr 36 9 (zP W) c] N Q:=by
 refine ur N m c n1 _ c Q λE ao=>?_
 rw [zL,<-hm]
 have k7 : ∀ (fuel bs:Nat) (V:List TD) (N':Nat),m - bs<=fuel->0<bs->Blk tz bs V->Ste tz V W->bs<=2147483648->N<=N'->zJ E Q N m c m c n1 bs (zP V) c N':=by
  intro fuel
  have stop:∀ (bs:Nat) (V:List TD) (N':Nat),m<=bs->Blk tz bs V->Ste tz V W->N<=N'->zJ E Q N m c m c n1 bs (zP V) c N':=by
   intro bs V N' hb hV hE I
   have J:=hE.len
   refine xm _ _ _ _ _ _ _ _ _ _ _ _ (Br.dec (λh=>by omega) λ_=>⟨rfl,⟨by rw [zL];omega,rfl⟩,λN1 ac=>hQ V N1 (by omega) (hV.small (by omega)) hE⟩)
  induction fuel with
  | zero=>
    intro bs V N' hf hb hV hE aj I
    exact stop bs V N' (by omega) hV hE I
  | succ fuel ih=>
    intro bs V N' hf hb hV hE aj I
    by_cases ak:m<=bs
    ·exact stop bs V N' ak hV hE I
    refine xm _ _ _ _ _ _ _ _ _ _ _ _ (Br.dec (λh=>?_) λh=>by omega)
    rw [i64_in _ (by omega)]
    have next:∀ (V:List TD) (N':Nat),Blk tz (2*bs) V->Ste tz V W->N<=N'->zJ E Q N m c m c n1 (IntKind.i64.wrap ((bs:Int)*2)) (zP V) c N':=by
     intro V N' hV hE I
     rw [i64_in _ (by omega)]
     have:=ih (2*bs) V N' (by omega) (by omega) hV hE (by omega) I
     have e:((2*bs:Nat):Int)=(bs:Int)*2:=by omega
     rwa [e] at this
    have k9:∀ (k:Nat) (P R:List TD) (a b:Int) (N':Nat),R.length<=k->Fb tz (2*bs) P->Blk tz bs R->Ste tz (P++R) W->a=P.length->b=(P.length+2*bs:Nat)->N<=N'->zr E Q N m c m c n1 bs a b (zP (P++R)) c N':=by
     intro k
     induction k with
     | zero=>
       intro P R a b N' hk hP hR hE ha ae I
       have J:=hE.len
       simp only [oE] at J
       have:=oO (Nat.le_zero.1 hk)
       subst this
       simp only [oM] at J
       refine xl _ _ _ _ _ _ _ _ _ _ _ _ _ _ (Br.dec (λh=>by omega) λ_=>?_)
       rw [i64_in (a+bs) (by omega)]
       exact Br.dec (λh=>by omega) λ_=>next _ _ (hP.blk (.last (by simp) (by simp [Srt]))) hE I
     | succ k al=>
       intro P R a b N' hk hP hR hE ha ae I
       have J:=hE.len
       simp only [oE] at J
       refine xl _ _ _ _ _ _ _ _ _ _ _ _ _ _ (Br.dec (λh=>?_) λh=>?_)
       ·rw [i64_in (a+bs) (by omega),i64_in (2*(bs:Int)) (by omega),i64_in (b+2*(bs:Int)) (by omega)]
        intro N1 ac
        obtain ⟨A,B,R',rfl,hA,hB,sA,sB,am⟩:=hR.two hb (by omega)
        simp only [oE] at J hk
        have e1:P++(A++B++R')=P++(A++(B++R')):=by simp
        rw [e1] at hE ⊢
        refine zHW (A.length+B.length) A B (oB _) (oS.1 (by omega)) (oS.1 (by omega)) sA sB (P:=P) (S:=R') (hT.of λp hp=>hE.mem.1 hp) (by simp;omega) ab ha (by omega) (by omega) N1 _ λM N2 ai hS O _ _ _=>?_
        have aa:=O.len
        simp only [oE] at aa
        have:=al (P++M) R' b (b+2*(bs:Int)) N2 (by omega) (.snoc hP (by omega) hS) am (Ste.trans (by
         have:=Ste.app (Ste.rfl' (key:=tz) (l:=P)) (Ste.app O (Ste.rfl' (key:=tz) (l:=R')))
         simpa using this) hE) (by simp;omega) (by simp;omega) (by omega)
        simpa using this
       ·rw [i64_in (a+bs) (by omega)]
        refine Br.dec (λh2 N1 ac=>?_) λh2=>?_
        ·obtain ⟨A,B,rfl,hA,sA,sB⟩:=hR.rest (by omega) (by omega)
         simp only [oE] at J hk
         have e1:P++(A++B)=P++(A++(B++[])):=by simp
         rw [e1] at hE ⊢
         refine zHW (A.length+B.length) A B (oB _) (oS.1 (by omega)) (oS.1 (by omega)) sA sB (P:=P) (S:=[]) (hT.of λp hp=>hE.mem.1 hp) (by simp;omega) ab ha (by omega) (by omega) N1 _ λM N2 ai hS O _ _ _=>?_
         have aa:=O.len
         simp only [oE] at aa
         have:=next (P++M) N2 (hP.blk (.last (by omega) hS)) (Ste.trans (by
          have:=Ste.app (Ste.rfl' (key:=tz) (l:=P)) O
          simpa using this) hE) (by omega)
         simpa using this
        ·exact next _ _ (hP.blk (.last (by omega) (hR.small (by omega)))) hE I
    have:=k9 V.length [] V 0 (2*(bs:Int)) N' (oB _) .nil hV (by simpa using hE) (by simp) (by simp) I
    simpa using this
 have k2:∀ (k:Nat) (P R:List TD) (a b:Int) (N':Nat),R.length<=k->Fb tz 20 P->Ste tz (P++R) W->a=P.length->b=(P.length+20:Nat)->N<=N'->zX E Q N m c m c n1 20 a b (zP (P++R)) c N':=by
  intro k
  have ah:∀ (P R:List TD) (a b:Int) (N':Nat),R.length<20->Fb tz 20 P->Ste tz (P++R) W->a=P.length->b=(P.length+20:Nat)->N<=N'->zX E Q N m c m c n1 20 a b (zP (P++R)) c N':=by
   intro P R a b N' hk hP hE ha ae I
   have J:=hE.len
   simp only [oE] at J
   refine xo _ _ _ _ _ _ _ _ _ _ _ _ _ _ (Br.dec (λh=>by omega) λ_ N1 ac=>?_)
   have e1:P++R=P++(R++[]):=by simp
   rw [e1] at hE ⊢
   refine pF (P:=P) (M:=R) (S:=[]) (hT.of λp hp=>hE.mem.1 (by simp [hp])) (by simp;omega) ab ha (by omega) N1 _ λM N2 ai hS O _ _ _=>?_
   have aa:=O.len
   have:=k7 (m - 20) 20 (P++M) N2 (oB _) (by omega) (hP.blk (.last (by omega) hS)) (Ste.trans (by
    have:=Ste.app (Ste.rfl' (key:=tz) (l:=P)) O
    simpa using this) hE) (by omega) (by omega)
   simpa using this
  induction k with
  | zero=>intro P R a b N' hk;exact ah P R a b N' (by omega)
  | succ k ih=>
    intro P R a b N' hk hP hE ha ae I
    by_cases hR:R.length<20
    ·exact ah P R a b N' hR hP hE ha ae I
    have J:=hE.len
    simp only [oE] at J
    obtain ⟨A,R',rfl,hA⟩:=p8 (l:=R) (i:=20) (by omega)
    simp only [oE] at J hk
    refine xo _ _ _ _ _ _ _ _ _ _ _ _ _ _ (Br.dec (λh N1 ac=>?_) λh=>by omega)
    rw [i64_in (b+20) (by omega)]
    refine pF (P:=P) (M:=A) (S:=R') (hT.of λp hp=>hE.mem.1 (by simp [hp])) (by simp;omega) ab ha (by omega) N1 _ λM N2 ai hS O _ _ _=>?_
    have aa:=O.len
    have:=ih (P++M) R' b (b+20) N2 (by omega) (.snoc hP (by omega) hS) (Ste.trans (by
     have:=Ste.app (Ste.rfl' (key:=tz) (l:=P)) (Ste.app O (Ste.rfl' (key:=tz) (l:=R')))
     simpa using this) hE) (by simp;omega) (by simp;omega) (by omega)
    simpa using this
 have:=k2 W.length [] W 0 20 N (oB _) .nil (by simpa using Ste.rfl') (by simp) (by simp) (oB _)
 simpa using this
theorem zKL {W:List TD} (hT:TDs W) {m c:Nat} (J:m=W.length) (I:m<=1073741824) (N:Nat) (Q:QT [.sl 9]) (O:∀ N',N<=N'->Q none (zP (u4 tz [] W)) c N') :
  XCalls prog 63 [.sl 9] [.sb 0 9 0 m c,.fn 64 []] [.arr 36 9 (zP W) c] N Q:=by
 refine uR N m c _ c Q λE aa N1 ab=>?_
 refine zRX hT J I rfl N1 _ λM N2 ac hS hM _ _ hl=>⟨rfl,⟨hl,rfl⟩,λN3 ae=>?_⟩
 rw [zOV hS hM]
 exact O N3 (by omega)
end Go.Proofs.YtlahkdflngobiaaGreatDoor
