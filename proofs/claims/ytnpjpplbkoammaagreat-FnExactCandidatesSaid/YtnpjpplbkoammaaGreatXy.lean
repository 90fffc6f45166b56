/- Rows put in order: the program's merge of two blocks. -/
import Derived.Test.YtnpjpplbkoammaaGreatXz
set_option linter.unusedVariables false
set_option linter.unusedSimpArgs false
namespace Go.Proofs.YtnpjpplbkoammaaGreat
open Go Go.Proofs Go.Proofs.Tryz Go.IntWalk
/-- the middle of two places -/
theorem zHF {a b:Int} (ha:0≤a) (hb:0≤b) (h:a+b≤4611686018427387904):IntKind.i64.wrap (Int.fdiv (IntKind.u64.wrap (IntKind.i64.wrap (a+b))) 2)=(a+b) / 2:=by
 have e1:IntKind.i64.wrap (a+b)=a+b:=i64_in _ (by omega)
 have e2:IntKind.u64.wrap (a+b)=a+b:=by
  simp only [IntKind.wrap,IntKind.bits,IntKind.signed]
  simp
  omega
 rw [e1,e2,Int.fdiv_eq_ediv_of_nonneg _ (by omega)]
 exact i64_in _ (by omega)
theorem tA {α:Type} {W L R:List α} {x:α} {i:Nat} (hW:W=L++x::R) (hi:i=L.length):W[i]?=some x:=by subst hW;subst hi;simp
/-- moves an element to the right -/
theorem zOe {E:Env} {m c:Nat} (hm2:m≤1073741824) {N:Nat} {Q:QT [.sl 9]} {n10:Int} {x:TD}:∀ (B U T:List TD) (k:Int) (N':Nat),k=U.length→n10=(U.length+B.length+1:Nat)→(U++x::(B++T)).length=m→N≤N' →
  (∀ N'',N≤N''→Q none (zQ (U++(B++x::T))) c N'') →
  zj E Q N m c m c n10 k (zQ (U++x::(B++T))) c N':=by
 intro B
 induction B with
 | nil=>
   intro U T k N' hk h10 hlen hN' hQ
   simp only [List.length_nil] at h10
   refine xA _ _ _ _ _ _ _ _ _ _ _ _ ?_
   rw [i64_in (n10 - 1) (by simp at hlen;omega)]
   refine Br.dec (fun h=>by omega) fun _=>⟨rfl,⟨by rw [zM];exact hlen,rfl⟩,fun N1 hN1=>hQ N1 (by omega)⟩
 | cons y B' ih=>
   intro U T k N' hk h10 hlen hN' hQ
   simp only [List.length_cons] at h10
   have hlen2:U.length+1+1+B'.length+T.length=m:=by rw [←hlen];simp;omega
   refine xA _ _ _ _ _ _ _ _ _ _ _ _ ?_
   have hW:U++x::((y::B')++T)=U++x::([]++y::(B'++T)):=by simp
   have hs:=swp hW (i:=0+k.toNat) (j:=0+(k+1).toNat) (by omega) (by simp;omega)
   rw [i64_in (n10 - 1) (by omega),i64_in (k+1) (by omega),hs]
   refine Br.dec (fun h=>?_) fun h=>by omega
   simp only [zM,List.length_set,hlen]
   refine ⟨⟨by omega,by omega,by omega⟩,by omega,⟨by omega,by omega,by omega⟩,by omega,⟨by omega,by omega,by omega⟩,by omega,⟨by omega,by omega,by omega⟩,by omega,?_⟩
   have:=ih (U++[y]) T (k+1) N' (by simp;omega) (by simp;omega) (by simp;omega) hN' (fun N'' h=>by have:=hQ N'' h;simpa using this)
   simpa using this
/-- moves an element to the left -/
theorem zPz {E:Env} {m c:Nat} (hm2:m≤1073741824) {N:Nat} {Q:QT [.sl 9]} {n14:Int} {x:TD} {U:List TD} (hU:n14=U.length):∀ (n:Nat) (W T:List TD) (k:Int) (N':Nat),W.length=n→k=(U.length+W.length:Nat)→(U++(W++x::T)).length=m→N≤N' →
  (∀ N'',N≤N''→Q none (zQ (U++x::(W++T))) c N'') →
  zf E Q N m c m c n14 k (zQ (U++(W++x::T))) c N':=by
 intro n
 induction n with
 | zero=>
   intro W T k N' hW0 hk hlen hN' hQ
   have:=List.eq_nil_of_length_eq_zero hW0
   subst this
   refine yq _ _ _ _ _ _ _ _ _ _ _ _ (Br.dec (fun h=>by simp at hk;omega) fun _=>⟨rfl,⟨by rw [zM];exact hlen,rfl⟩,fun N1 hN1=>?_⟩)
   have:=hQ N1 (by omega)
   simpa using this
 | succ n ih=>
   intro W T k N' hW0 hk hlen hN' hQ
   obtain ⟨L',y,rfl⟩:∃ L' y,W=L'++[y]:=by
    rcases List.eq_nil_or_concat W with rfl | ⟨L',y,rfl⟩
    ·simp at hW0
    ·exact ⟨L',y,by simp⟩
   simp only [List.length_append,List.length_cons,List.length_nil] at hW0 hk
   have hlen2:U.length+L'.length+1+1+T.length=m:=by rw [←hlen];simp;omega
   have hW:U++((L'++[y])++x::T)=(U++L')++y::([]++x::T):=by simp
   have hs:=zSJ hW (i:=0+(k - 1).toNat) (j:=0+k.toNat) (by simp;omega) (by simp;omega)
   refine yq _ _ _ _ _ _ _ _ _ _ _ _ (Br.dec (fun h=>?_) fun h=>by omega)
   rw [i64_in (k - 1) (by omega),hs]
   simp only [zM,List.length_set,hlen]
   refine ⟨⟨by omega,by omega,by omega⟩,by omega,⟨by omega,by omega,by omega⟩,by omega,⟨by omega,by omega,by omega⟩,by omega,⟨by omega,by omega,by omega⟩,by omega,?_⟩
   have:=ih L' (y::T) (k - 1) N' (by omega) (by omega) (by simp;omega) hN' (fun N'' h=>by have:=hQ N'' h;simpa using this)
   simpa using this
/-- where an element goes in a block in order behind it -/
theorem zMG {E:Env} {m c:Nat} (hm2:m≤1073741824) {N:Nat} {Q:QT [.sl 9]} {n1:Int} {x:TD} {P B S:List TD} (hT:TDs (x::B)) (hS:Srt tz B) (h1:n1=P.length) (hlen:(P++x::(B++S)).length=m)
  (hQ:∀ B1 B2 N',B=B1++B2→N≤N'→(∀ u∈B1,tz x<tz u)→(∀ u∈B2,tz u≤tz x)→Q none (zQ (P++(B1++x::(B2++S)))) c N') :
  ∀ (n:Nat) (B1 B2 B3:List TD) (i j:Int) (N':Nat),B2.length≤n→B=B1++(B2++B3)→i=(P.length+1+B1.length:Nat)→j=(P.length+1+B1.length+B2.length:Nat)→(∀ u∈B1,tz x<tz u)→(∀ u∈B3,tz u≤tz x)→N≤N' →
    zN E Q N m c m c n1 i j (zQ (P++x::(B++S))) c N':=by
 intro n
 have hlen2:P.length+1+B.length+S.length=m:=by rw [←hlen];simp;omega
 have fin:∀ (B1 B3:List TD) (i j:Int) (N':Nat),B=B1++B3→i=(P.length+1+B1.length:Nat)→j=i→(∀ u∈B1,tz x<tz u)→(∀ u∈B3,tz u≤tz x)→N≤N'→zN E Q N m c m c n1 i j (zQ (P++x::(B++S))) c N':=by
  intro B1 B3 i j N' hBe hi hj hx1 hx3 hN'
  subst hBe
  refine y7 _ _ _ _ _ _ _ _ _ _ _ _ _ (Br.dec (fun h=>by omega) fun _=>?_)
  have:=zOe (E:=E) (c:=c) hm2 (Q:=Q) (x:=x) (n10:=i) B1 P (B3++S) n1 N' h1 (by omega) (by simpa using hlen) hN' (fun N'' h=>hQ B1 B3 N'' rfl h hx1 hx3)
  simpa using this
 induction n with
 | zero=>
   intro B1 B2 B3 i j N' hn hBe hi hj hx1 hx3 hN'
   have:=List.eq_nil_of_length_eq_zero (Nat.le_zero.1 hn)
   subst this
   exact fin B1 B3 i j N' (by simpa using hBe) hi (by simp at hj;omega) hx1 hx3 hN'
 | succ n ih=>
   intro B1 B2 B3 i j N' hn hBe hi hj hx1 hx3 hN'
   by_cases h0:B2=[]
   ·subst h0
    exact fin B1 B3 i j N' (by simpa using hBe) hi (by simp at hj;omega) hx1 hx3 hN'
   have hp:=List.length_pos_iff.2 h0
   have hbl:B.length=B1.length+B2.length+B3.length:=by rw [hBe];simp;omega
   obtain ⟨C1,y,C2,rfl,hc1⟩:=zDG (l:=B2) (i:=((i+j) / 2 - i).toNat) (by omega)
   simp only [List.length_append,List.length_cons] at hj hn hbl
   have hW:P++x::(B++S)=(P++x::(B1++C1))++y::(C2++(B3++S)):=by rw [hBe];simp
   have hW1:P++x::(B++S)=P++x::(B++S):=rfl
   have g1:(zQ (P++x::(B++S))).getD (0+((i+j) / 2).toNat) default=y.2:=by rw [hW];exact zAd (by simp;omega)
   have g2:(zQ (P++x::(B++S))).getD (0+n1.toNat) default=x.2:=zAd (by omega)
   have hyB:y∈B:=by rw [hBe];simp
   refine y7 _ _ _ _ _ _ _ _ _ _ _ _ _ (Br.dec (fun h=>?_) fun h=>by omega)
   rw [zHF (by omega) (by omega) (by omega),g1,g2]
   simp only [zM,hlen]
   refine ⟨by omega,⟨by omega,by omega,by omega⟩,by omega,⟨by omega,by omega,by omega⟩,by omega,fun N1 hN1=>zPC (hT y (by simp [hyB])) (hT x (by simp)) N1 _ fun N2 hN2 _=>Br.dec (fun hc=>?_) fun hc=>?_⟩
   ·rw [i64_in _ (by omega)]
    refine ih (B1++(C1++[y])) C2 B3 _ _ N2 (by omega) (by rw [hBe];simp) (by simp;omega) (by simp;omega) (fun u hu=>?_) hx3 (by omega)
    rw [hBe] at hS
    rcases List.mem_append.1 hu with hu | hu
    ·exact hx1 u hu
    ·rcases List.mem_append.1 hu with hu | hu
     ·have h3:=(Srt.ap (Srt.ap (Srt.ap hS).2.1).1).2.2 u hu y (by simp)
      omega
     ·simp only [List.mem_singleton] at hu;subst hu;omega
   ·refine ih B1 C1 (y::C2++B3) _ _ N2 (by omega) (by rw [hBe];simp) hi (by omega) hx1 (fun u hu=>?_) (by omega)
    rw [hBe] at hS
    have h3:∀ u∈C2,tz u≤tz y:=fun u hu=>(List.pairwise_cons.1 (Srt.ap (Srt.ap (Srt.ap hS).2.1).1).2.1).1 u hu
    simp only [List.cons_append,List.mem_cons,List.mem_append] at hu
    rcases hu with rfl | hu | hu
    ·omega
    ·have:=h3 u hu;omega
    ·exact hx3 u hu
/-- where an element goes in a block in order ahead of it -/
theorem zMm {E:Env} {m c:Nat} (hm2:m≤1073741824) {N:Nat} {Q:QT [.sl 9]} {n2:Int} {x:TD} {P A S:List TD} (hT:TDs (x::A)) (hS:Srt tz A) (h2:n2=(P.length+A.length:Nat)) (hlen:(P++(A++x::S)).length=m)
  (hQ:∀ A1 A2 N',A=A1++A2→N≤N'→(∀ u∈A1,tz x≤tz u)→(∀ u∈A2,tz u<tz x)→Q none (zQ (P++(A1++x::(A2++S)))) c N') :
  ∀ (n:Nat) (A1 A2 A3:List TD) (i j:Int) (N':Nat),A2.length≤n→A=A1++(A2++A3)→i=(P.length+A1.length:Nat)→j=(P.length+A1.length+A2.length:Nat)→(∀ u∈A1,tz x≤tz u)→(∀ u∈A3,tz u<tz x)→N≤N' →
    zK E Q N m c m c n2 i j (zQ (P++(A++x::S))) c N':=by
 intro n
 have hlen2:P.length+1+A.length+S.length=m:=by rw [←hlen];simp;omega
 have fin:∀ (A1 A3:List TD) (i j:Int) (N':Nat),A=A1++A3→i=(P.length+A1.length:Nat)→j=i→(∀ u∈A1,tz x≤tz u)→(∀ u∈A3,tz u<tz x)→N≤N'→zK E Q N m c m c n2 i j (zQ (P++(A++x::S))) c N':=by
  intro A1 A3 i j N' hAe hi hj hx1 hx3 hN'
  subst hAe
  refine yu _ _ _ _ _ _ _ _ _ _ _ _ _ (Br.dec (fun h=>by omega) fun _=>?_)
  have:=zPz (E:=E) (c:=c) hm2 (Q:=Q) (x:=x) (n14:=i) (U:=P++A1) (by simp;omega) A3.length A3 S n2 N' rfl (by rw [h2];simp;omega) (by simpa using hlen) hN' (fun N'' h=>by have:=hQ A1 A3 N'' rfl h hx1 hx3;simpa using this)
  simpa using this
 induction n with
 | zero=>
   intro A1 A2 A3 i j N' hn hAe hi hj hx1 hx3 hN'
   have:=List.eq_nil_of_length_eq_zero (Nat.le_zero.1 hn)
   subst this
   exact fin A1 A3 i j N' (by simpa using hAe) hi (by simp at hj;omega) hx1 hx3 hN'
 | succ n ih=>
   intro A1 A2 A3 i j N' hn hAe hi hj hx1 hx3 hN'
   by_cases h0:A2=[]
   ·subst h0
    exact fin A1 A3 i j N' (by simpa using hAe) hi (by simp at hj;omega) hx1 hx3 hN'
   have hp:=List.length_pos_iff.2 h0
   have hbl:A.length=A1.length+A2.length+A3.length:=by rw [hAe];simp;omega
   obtain ⟨C1,y,C2,rfl,hc1⟩:=zDG (l:=A2) (i:=((i+j) / 2 - i).toNat) (by omega)
   simp only [List.length_append,List.length_cons] at hj hn hbl
   have hW:P++(A++x::S)=(P++(A1++C1))++y::(C2++(A3++x::S)):=by rw [hAe];simp
   have hW2:P++(A++x::S)=(P++A)++x::S:=by simp
   have g1:(zQ (P++(A++x::S))).getD (0+((i+j) / 2).toNat) default=y.2:=by rw [hW];exact zAd (by simp;omega)
   have g2:(zQ (P++(A++x::S))).getD (0+n2.toNat) default=x.2:=by rw [hW2];exact zAd (by simp;omega)
   have hyA:y∈A:=by rw [hAe];simp
   refine yu _ _ _ _ _ _ _ _ _ _ _ _ _ (Br.dec (fun h=>?_) fun h=>by omega)
   rw [zHF (by omega) (by omega) (by omega),g1,g2]
   simp only [zM,hlen]
   refine ⟨by omega,⟨by omega,by omega,by omega⟩,by omega,⟨by omega,by omega,by omega⟩,by omega,fun N1 hN1=>zPC (hT x (by simp)) (hT y (by simp [hyA])) N1 _ fun N2 hN2 _=>Br.ndec (fun hc=>?_) fun hc=>?_⟩
   ·rw [i64_in _ (by omega)]
    refine ih (A1++(C1++[y])) C2 A3 _ _ N2 (by omega) (by rw [hAe];simp) (by simp;omega) (by simp;omega) (fun u hu=>?_) hx3 (by omega)
    rw [hAe] at hS
    rcases List.mem_append.1 hu with hu | hu
    ·exact hx1 u hu
    ·rcases List.mem_append.1 hu with hu | hu
     ·have h3:=(Srt.ap (Srt.ap (Srt.ap hS).2.1).1).2.2 u hu y (by simp)
      omega
     ·simp only [List.mem_singleton] at hu;subst hu;omega
   ·refine ih A1 C1 (y::C2++A3) _ _ N2 (by omega) (by rw [hAe];simp) hi (by omega) hx1 (fun u hu=>?_) (by omega)
    rw [hAe] at hS
    have h3:∀ u∈C2,tz u≤tz y:=fun u hu=>(List.pairwise_cons.1 (Srt.ap (Srt.ap (Srt.ap hS).2.1).1).2.1).1 u hu
    simp only [List.cons_append,List.mem_cons,List.mem_append] at hu
    rcases hu with rfl | hu | hu
    ·omega
    ·have:=h3 u hu;omega
    ·exact hx3 u hu
/-- the contract of a merge of two blocks in order -/
def zRI (A B:List TD):Prop:=∀ {P S:List TD} {m c:Nat} (_:TDs (P++(A++(B++S)))) (_:m=(P++(A++(B++S))).length) (_:m≤1073741824) {n1 n2 n3:Int} (_:n1=P.length) (_:n2=(P.length+A.length:Nat)) (_:n3=(P.length+A.length+B.length:Nat))
    (N:Nat) (Q:QT [.sl 9]) (_:∀ M N',N≤N'→Srt tz M→Ste tz M (A++B)→Q none (zQ (P++(M++S))) c N'),
    XCalls prog 98 [.sl 9] [.sb 0 9 0 m c,.int .i64 n1,.int .i64 n2,.int .i64 n3,.fn 37 []] [.arr 39 9 (zQ (P++(A++(B++S)))) c] N Q
theorem zK5 {α:Type} {l:List α} (h:l≠[]):∃ l' y,l=l'++[y]:=by
 rcases List.eq_nil_or_concat l with rfl | ⟨L',y,rfl⟩
 ·exact absurd rfl h
 ·exact ⟨L',y,by simp⟩
def zRu (W:List TD) (i j:Int):Prop:=∃ x y,W[i.toNat]?=some x∧W[j.toNat]?=some y∧tz y≤tz x
def zRl (W:List TD) (i j:Int):Prop:=∃ x y,W[i.toNat]?=some x∧W[j.toNat]?=some y∧tz x<tz y
/-- a place found by halves: ahead of it no more, from it on less -/
theorem zGM {E:Env} {m c:Nat} (hm2:m≤1073741824) {N:Nat} {Q:QT [.sl 9]} {n1 n2 n3 n18 n19 n22:Int} {W:List TD} (hT:TDs W) (hlen:W.length=m) {s0 r0:Int} (h22:n22=n19 - 1)
  (hs0:0≤s0) (hr0:r0≤m) (hp1:n19 - s0≤m) (hp2:0≤n19 - r0) (h19:n19≤2147483648)
  (fin:∀ (s:Int) (N':Nat),s0≤s→s≤r0→N≤N'→(s=s0∨zRu W (s - 1) (n22 - (s - 1)))→(s=r0∨zRl W s (n22 - s)) →
   zE E Q N m c m c n1 n2 n3 n18 n19 s s n22 (zQ W) c N') :
  ∀ (n:Nat) (s r:Int) (N':Nat),(r - s).toNat≤n→s0≤s→s≤r→r≤r0→N≤N' →
    (s=s0∨zRu W (s - 1) (n22 - (s - 1)))→(r=r0∨zRl W r (n22 - r)) →
    zE E Q N m c m c n1 n2 n3 n18 n19 s r n22 (zQ W) c N':=by
 intro n
 induction n with
 | zero=>
   intro s r N' hn h1 h2 h3 hN' f1 f2
   have:s=r:=by omega
   subst this
   exact fin s N' h1 h3 hN' f1 f2
 | succ n ih=>
   intro s r N' hn h1 h2 h3 hN' f1 f2
   by_cases h0:s=r
   ·subst h0
    exact fin s N' h1 h3 hN' f1 f2
   have hc1:s≤(s+r) / 2:=by omega
   have hc2:(s+r) / 2<r:=by omega
   obtain ⟨L1,x,R1,hW1,hl1⟩:=zDG (l:=W) (i:=((s+r) / 2).toNat) (by omega)
   obtain ⟨L2,y,R2,hW2,hl2⟩:=zDG (l:=W) (i:=(n22 - (s+r) / 2).toNat) (by omega)
   have ex:W[((s+r) / 2).toNat]?=some x:=tA hW1 hl1.symm
   have ey:W[(n22 - (s+r) / 2).toNat]?=some y:=tA hW2 hl2.symm
   have g1:(zQ W).getD (0+((s+r) / 2).toNat) default=x.2:=by rw [hW1];exact zAd (by omega)
   have g2:(zQ W).getD (0+(n22 - (s+r) / 2).toNat) default=y.2:=by rw [hW2];exact zAd (by omega)
   refine yv _ _ _ _ _ _ _ _ _ _ _ _ _ _ _ _ _ _ (Br.dec (fun h=>?_) fun h=>by omega)
   rw [zHF (by omega) (by omega) (by omega),i64_in (n22 - (s+r) / 2) (by omega),g1,g2]
   simp only [zM,hlen]
   refine ⟨by omega,⟨by omega,by omega,by omega⟩,by omega,⟨by omega,by omega,by omega⟩,by omega,fun N1 hN1=>zPC (hT y (by rw [hW2];simp)) (hT x (by rw [hW1];simp)) N1 _ fun N2 hN2 _=>Br.ndec (fun hc=>?_) fun hc=>?_⟩
   ·rw [i64_in ((s+r) / 2+1) (by omega)]
    refine ih ((s+r) / 2+1) r N2 (by omega) (by omega) (by omega) h3 (by omega) (.inr ⟨x,y,?_,?_,by omega⟩) f2
    ·rw [Int.add_sub_cancel];exact ex
    ·rw [Int.add_sub_cancel];exact ey
   ·exact ih s ((s+r) / 2) N2 (by omega) h1 hc1 (by omega) (by omega) f1 (.inr ⟨x,y,ex,ey,by omega⟩)
theorem zFs:∀ (n:Nat) (A B:List TD),A.length+B.length≤n→A≠[]→B≠[]→Srt tz A→Srt tz B→zRI A B:=by
 intro n
 induction n with
 | zero=>
   intro A B hn hA
   have:=List.length_pos_iff.2 hA
   omega
 | succ n ih=>
   intro A B hn hA hB hSA hSB P S m c hTW0 hm hm2 n1 n2 n3 h1 h2 h3 N Q hQ
   have hTA:TDs A:=hTW0.of fun p hp=>by simp [hp]
   have hTB:TDs B:=hTW0.of fun p hp=>by simp [hp]
   have ha:=List.length_pos_iff.2 hA
   have hb:=List.length_pos_iff.2 hB
   have hpl:P.length+A.length+B.length+S.length=m:=by rw [hm];simp;omega
   refine vN N m c n1 n2 n3 _ c Q fun E hBl=>?_
   rw [zM,←hm,i64_in (n2 - n1) (by omega),i64_in (n3 - n2) (by omega),zHF (by omega) (by omega) (by omega)]
   refine Br.beq (fun he=>?_) fun hne=>?_
   ·-- one element ahead
    obtain ⟨x,rfl⟩:∃ x,A=[x]:=List.length_eq_one_iff.1 (by omega)
    have:=zMG (E:=E) hm2 (Q:=Q) (c:=c) (n1:=n1) (x:=x) (P:=P) (B:=B) (S:=S) (by
     intro p hp
     rcases List.mem_cons.1 hp with rfl | hp
     ·exact hTA _ (by simp)
     ·exact hTB p hp) hSB h1 (by rw [hm];simp) (fun B1 B2 N' hBe hN' hx1 hx2=>by
      subst hBe
      have:=hQ (B1++x::B2) N' hN' (Srt.app (Srt.ap hSB).1 (List.pairwise_cons.2 ⟨hx2,(Srt.ap hSB).2.1⟩) fun u hu v hv=>by
       rcases List.mem_cons.1 hv with rfl | hv
       ·have:=hx1 u hu;omega
       ·exact (Srt.ap hSB).2.2 u hu v hv) (by
       have h1:Ste tz (B1++[x]) ([x]++B1):=Ste.swap fun u hu v hv=>by
        simp only [List.mem_singleton] at hv
        subst hv
        have:=hx1 u hu;omega
       have:=Ste.app h1 (Ste.rfl' (key:=tz) (l:=B2))
       simpa using this)
      simpa using this) B.length [] B [] n2 n3 N (Nat.le_refl _) (by simp) (by simp at h2;simp;omega) (by simp at h3;simp;omega) (by simp) (by simp) (Nat.le_refl _)
    simpa using this
   refine Br.beq (fun he=>?_) fun hne2=>⟨by omega,?_⟩
   ·-- one element behind
    obtain ⟨x,rfl⟩:∃ x,B=[x]:=List.length_eq_one_iff.1 (by omega)
    have:=zMm (E:=E) hm2 (Q:=Q) (c:=c) (n2:=n2) (x:=x) (P:=P) (A:=A) (S:=S) (by
     intro p hp
     rcases List.mem_cons.1 hp with rfl | hp
     ·exact hTB _ (by simp)
     ·exact hTA p hp) hSA h2 (by rw [hm];simp) (fun A1 A2 N' hAe hN' hx1 hx2=>by
      subst hAe
      have:=hQ (A1++x::A2) N' hN' (Srt.app (Srt.ap hSA).1 (List.pairwise_cons.2 ⟨fun v hv=>by have:=hx2 v hv;omega,(Srt.ap hSA).2.1⟩) fun u hu v hv=>by
       rcases List.mem_cons.1 hv with rfl | hv
       ·exact hx1 u hu
       ·exact (Srt.ap hSA).2.2 u hu v hv) (by
       have h1:Ste tz ([x]++A2) (A2++[x]):=Ste.swap fun u hu v hv=>by
        simp only [List.mem_singleton] at hu
        subst hu
        have:=hx2 v hv;omega
       have:=Ste.app (Ste.rfl' (key:=tz) (l:=A1)) h1
       simpa using this)
      simpa using this) A.length [] A [] n1 n2 N (Nat.le_refl _) (by simp) (by simp;omega) (by simp;omega) (by simp) (by simp) (Nat.le_refl _)
    simpa using this
   -- two blocks of two or more
   have hmid1:n1<(n1+n3) / 2:=by omega
   have hmid2:(n1+n3) / 2<n3:=by omega
   generalize hmid:(n1+n3) / 2=mid at hmid1 hmid2
   have hWlen:(P++(A++(B++S))).length=m:=hm.symm
   have join:∀ (s0 r0:Int),n1≤s0→r0≤n2→r0≤mid→s0≤r0→(s0=n1∨s0=mid+n2 - n3)→(r0=n2∨r0=mid)→mid+n2 - s0≤n3 →
     ∀ (s:Int) (N':Nat),s0≤s→s≤r0→N≤N'→(s=s0∨zRu (P++(A++(B++S))) (s - 1) (mid+n2 - 1 - (s - 1))) →
       (s=r0∨zRl (P++(A++(B++S))) s (mid+n2 - 1 - s)) →
       zE E Q N m c m c n1 n2 n3 mid (mid+n2) s s (mid+n2 - 1) (zQ (P++(A++(B++S)))) c N':=by
    intro s0 r0 a1 a2 a3 a4 a5 a6 a7 s N' b1 b2 hN' f1 f2
    obtain ⟨A1,A2,rfl,hA1⟩:=qP (l:=A) (i:=(s - n1).toNat) (by omega)
    obtain ⟨B1,B2,rfl,hB1⟩:=qP (l:=B) (i:=(mid - s).toNat) (by omega)
    simp only [List.length_append] at h2 h3 ha hb hpl hn hA1 hB1
    obtain ⟨sA1,sA2,sA⟩:=Srt.ap hSA
    obtain ⟨sB1,sB2,sB⟩:=Srt.ap hSB
    -- what stands in the middle
    have hBA:∀ u∈B1,∀ v∈A2,tz v<tz u:=by
     intro u hu v hv
     have hne:s≠r0:=by
      rintro rfl
      have:=List.length_pos_iff.2 (List.ne_nil_of_mem hu)
      have:=List.length_pos_iff.2 (List.ne_nil_of_mem hv)
      omega
     obtain ⟨x,y,ex,ey,hxy⟩:=f2.resolve_left hne
     obtain ⟨B',yy,rfl⟩:=zK5 (List.ne_nil_of_mem hu)
     cases A2 with
     | nil=>simp at hv
     | cons xx A'=>
       simp only [List.length_append,List.length_cons,List.length_nil] at h2 h3 hpl hB1
       have e1:=tA (W:=P++((A1++(xx::A'))++(((B'++[yy])++B2)++S))) (L:=P++A1) (x:=xx) (R:=A'++(((B'++[yy])++B2)++S)) (i:=s.toNat) (by simp) (by simp;omega)
       have e2:=tA (W:=P++((A1++(xx::A'))++(((B'++[yy])++B2)++S))) (L:=P++(A1++xx::(A'++B'))) (x:=yy) (R:=B2++S) (i:=(mid+n2 - 1 - s).toNat) (by simp) (by simp;omega)
       rw [e1] at ex;rw [e2] at ey
       cases ex;cases ey
       have h4:tz v≤tz x:=by
        rcases List.mem_cons.1 hv with rfl | hv
        ·exact Nat.le_refl _
        ·exact (List.pairwise_cons.1 sA2).1 v hv
       have h5:tz y≤tz u:=by
        rcases List.mem_append.1 hu with hu | hu
        ·exact (Srt.ap sB1).2.2 u hu y (by simp)
        ·simp only [List.mem_singleton] at hu;subst hu;exact Nat.le_refl _
       omega
    have hAB:∀ u∈A1,∀ v∈B2,tz v≤tz u:=by
     intro u hu v hv
     have hne:s≠s0:=by
      rintro rfl
      have:=List.length_pos_iff.2 (List.ne_nil_of_mem hu)
      have:=List.length_pos_iff.2 (List.ne_nil_of_mem hv)
      omega
     obtain ⟨x,y,ex,ey,hxy⟩:=f1.resolve_left hne
     obtain ⟨A',xx,rfl⟩:=zK5 (List.ne_nil_of_mem hu)
     cases B2 with
     | nil=>simp at hv
     | cons yy B'=>
       simp only [List.length_append,List.length_cons,List.length_nil] at h2 h3 hpl hA1
       have e1:=tA (W:=P++(((A'++[xx])++A2)++((B1++yy::B')++S))) (L:=P++A') (x:=xx) (R:=A2++((B1++yy::B')++S)) (i:=(s - 1).toNat) (by simp) (by simp;omega)
       have e2:=tA (W:=P++(((A'++[xx])++A2)++((B1++yy::B')++S))) (L:=P++(A'++xx::(A2++B1))) (x:=yy) (R:=B'++S) (i:=(mid+n2 - 1 - (s - 1)).toNat) (by simp) (by simp;omega)
       rw [e1] at ex;rw [e2] at ey
       cases ex;cases ey
       have h4:tz v≤tz y:=by
        rcases List.mem_cons.1 hv with rfl | hv
        ·exact Nat.le_refl _
        ·exact (List.pairwise_cons.1 sB2).1 v hv
       have h5:tz x≤tz u:=by
        rcases List.mem_append.1 hu with hu | hu
        ·exact (Srt.ap sA1).2.2 u hu x (by simp)
        ·simp only [List.mem_singleton] at hu;subst hu;exact Nat.le_refl _
       omega
    -- the second merge
    have last:∀ (M1:List TD) (N2:Nat),N≤N2→Srt tz M1→Ste tz M1 (A1++B1)→zT E Q N m c m c n3 mid (mid+n2 - s) (zQ (P++(M1++(A2++(B2++S))))) c N2:=by
     intro M1 N2 hN2 hS1 hE1
     have hl1:=hE1.len
     simp only [List.length_append] at hl1
     have fin:∀ (M2:List TD) (N3:Nat),N≤N3→Srt tz M2→Ste tz M2 (A2++B2)→Q none (zQ (P++(M1++(M2++S)))) c N3:=by
      intro M2 N3 hN3 hS2 hE2
      have:=hQ (M1++M2) N3 hN3 (Srt.app hS1 hS2 fun u hu v hv=>by
       have hu:=hE1.mem.1 hu
       have hv:=hE2.mem.1 hv
       rcases List.mem_append.1 hu with hu | hu<;>rcases List.mem_append.1 hv with hv | hv
       ·exact sA u hu v hv
       ·exact hAB u hu v hv
       ·have:=hBA u hu v hv;omega
       ·exact sB u hu v hv) (by
       have h5:Ste tz (B1++A2) (A2++B1):=Ste.swap fun u hu v hv=>by have:=hBA u hu v hv;omega
       have h6:=Ste.app hE1 hE2
       have h7:=Ste.app (Ste.rfl' (key:=tz) (l:=A1)) (Ste.app h5 (Ste.rfl' (key:=tz) (l:=B2)))
       have h8:Ste tz (M1++M2) (A1++((B1++A2)++B2)):=by simpa using h6
       exact h8.trans (by simpa using h7))
      simpa using this
     refine vO _ _ _ _ _ _ _ _ _ _ _ _ _ (Br.dec (fun g1=>Br.dec (fun g2 N3 hN3=>?_) fun g2=>?_) fun g1=>?_)
     ·have e1:P++(M1++(A2++(B2++S)))=(P++M1)++(A2++(B2++S)):=by simp
      rw [e1]
      refine ih A2 B2 (by omega) (List.length_pos_iff.1 (by omega)) (List.length_pos_iff.1 (by omega)) sA2 sB2 (P:=P++M1) (S:=S) (hTW0.of fun p hp=>by
       have:=hE1.mem (x:=p)
       simp only [List.mem_append] at hp this ⊢
       rcases hp with (hp | hp) | hp | hp | hp
       ·exact .inl hp
       ·rcases this.1 hp with hp | hp<;>simp [hp]
       ·simp [hp]
       ·simp [hp]
       ·simp [hp]) (by simp;omega) hm2 (by simp;omega) (by simp;omega) (by simp;omega) N3 _ fun M2 N4 hN4 k1 k2 _ _ hl=>?_
      refine ⟨rfl,⟨by rw [hl,zM];simp;omega,rfl⟩,fun N5 hN5=>?_⟩
      have:=fin M2 N5 (by omega) k1 k2
      simpa using this
     ·have hz:B2=[]:=List.eq_nil_of_length_eq_zero (by omega)
      refine ⟨rfl,⟨by rw [zM];simp;omega,rfl⟩,fun N5 hN5=>?_⟩
      have:=fin (A2++B2) N5 (by omega) (by rw [hz];simpa using sA2) Ste.rfl'
      simpa using this
     ·have hz:A2=[]:=List.eq_nil_of_length_eq_zero (by omega)
      refine ⟨rfl,⟨by rw [zM];simp;omega,rfl⟩,fun N5 hN5=>?_⟩
      have:=fin (A2++B2) N5 (by omega) (by rw [hz];simpa using sB2) Ste.rfl'
      simpa using this
    -- the first merge
    have frst:∀ (N2:Nat),N≤N2→zS E Q N m c m c n1 n3 mid s (mid+n2 - s) (zQ (P++(A1++(B1++(A2++(B2++S)))))) c N2:=by
     intro N2 hN2
     refine vP _ _ _ _ _ _ _ _ _ _ _ _ _ _ _ (Br.dec (fun g1=>Br.dec (fun g2 N3 hN3=>?_) fun g2=>?_) fun g1=>?_)
     ·refine ih A1 B1 (by omega) (List.length_pos_iff.1 (by omega)) (List.length_pos_iff.1 (by omega)) sA1 sB1 (P:=P) (S:=A2++(B2++S)) (hTW0.of fun p hp=>by
       simp only [List.mem_append] at hp ⊢
       rcases hp with hp | hp | hp | hp | hp | hp<;>simp [hp]) (by simp;omega) hm2 (by omega) (by omega) (by omega) N3 _ fun M1 N4 hN4 k1 k2 _ _ hl=>?_
      exact last M1 N4 (by omega) k1 k2
     ·have hz:B1=[]:=List.eq_nil_of_length_eq_zero (by omega)
      have:=last (A1++B1) N2 hN2 (by rw [hz];simpa using sA1) Ste.rfl'
      simpa using this
     ·have hz:A1=[]:=List.eq_nil_of_length_eq_zero (by omega)
      have:=last (A1++B1) N2 hN2 (by rw [hz];simpa using sB1) Ste.rfl'
      simpa using this
    refine yv _ _ _ _ _ _ _ _ _ _ _ _ _ _ _ _ _ _ (Br.dec (fun h=>by omega) fun _=>?_)
    rw [i64_in (mid+n2 - s) (by omega)]
    refine Br.dec (fun g1=>Br.dec (fun g2 N3 hN3=>?_) fun g2=>?_) fun g1=>?_
    ·have e1:P++((A1++A2)++((B1++B2)++S))=(P++A1)++(A2++(B1++(B2++S))):=by simp
     rw [e1]
     refine zOV (P:=P++A1) (A:=A2) (B:=B1) (S:=B2++S) (List.length_pos_iff.1 (by omega)) (List.length_pos_iff.1 (by omega)) (by simp;omega) hm2 (by simp;omega) (by simp;omega) (by simp;omega) N3 _ fun N4 hN4 _ _ hl=>?_
     have:=frst N4 (by omega)
     simpa using this
    ·have hz:B1=[]:=List.eq_nil_of_length_eq_zero (by omega)
     have:=frst N' hN'
     subst hz
     simpa using this
    ·have hz:A2=[]:=List.eq_nil_of_length_eq_zero (by omega)
     have:=frst N' hN'
     subst hz
     simpa using this
   rw [i64_in (mid+n2) (by omega)]
   refine Br.dec (fun hgt=>?_) fun hgt=>?_
   ·rw [i64_in (mid+n2 - n3) (by omega),i64_in (mid+n2 - 1) (by omega)]
    exact zGM hm2 (hT:=hTW0) (hlen:=hWlen) (s0:=mid+n2 - n3) (r0:=mid) rfl (by omega) (by omega) (by omega) (by omega) (by omega) (join _ _ (by omega) (by omega) (by omega) (by omega) (.inr rfl) (.inr rfl) (by omega)) _ _ _ N (Nat.le_refl _) (by omega) (by omega) (by omega) (Nat.le_refl _) (.inl rfl) (.inl rfl)
   ·rw [i64_in (mid+n2 - 1) (by omega)]
    exact zGM hm2 (hT:=hTW0) (hlen:=hWlen) (s0:=n1) (r0:=n2) rfl (by omega) (by omega) (by omega) (by omega) (by omega) (join _ _ (by omega) (by omega) (by omega) (by omega) (.inl rfl) (.inl rfl) (by omega)) _ _ _ N (Nat.le_refl _) (by omega) (by omega) (by omega) (Nat.le_refl _) (.inl rfl) (.inl rfl)
theorem zOu {W:List TD} (hT:TDs W) {m c:Nat} (hm:m=W.length) (hm2:m≤1073741824) {n1:Int} (h1:n1=m)
  (N:Nat) (Q:QT [.sl 9]) (hQ:∀ M N',N≤N'→Srt tz M→Ste tz M W→Q none (zQ M) c N') :
  XCalls prog 68 [.sl 9] [.sb 0 9 0 m c,.int .i64 n1,.fn 37 []] [.arr 39 9 (zQ W) c] N Q:=by
 refine vn N m c n1 _ c Q fun E hBl=>?_
 rw [zM,←hm]
 have k7 : ∀ (fuel bs:Nat) (V:List TD) (N':Nat),m - bs≤fuel→0<bs→Blk tz bs V→Ste tz V W→bs≤2147483648→N≤N'→zJ E Q N m c m c n1 bs (zQ V) c N':=by
  intro fuel
  have stop:∀ (bs:Nat) (V:List TD) (N':Nat),m≤bs→Blk tz bs V→Ste tz V W→N≤N'→zJ E Q N m c m c n1 bs (zQ V) c N':=by
   intro bs V N' hb hV hE hN'
   have hl:=hE.len
   refine xT _ _ _ _ _ _ _ _ _ _ _ _ (Br.dec (fun h=>by omega) fun _=>⟨rfl,⟨by rw [zM];omega,rfl⟩,fun N1 hN1=>hQ V N1 (by omega) (hV.small (by omega)) hE⟩)
  induction fuel with
  | zero=>
    intro bs V N' hf hb hV hE hb2 hN'
    exact stop bs V N' (by omega) hV hE hN'
  | succ fuel ih=>
    intro bs V N' hf hb hV hE hb2 hN'
    by_cases hmb:m≤bs
    ·exact stop bs V N' hmb hV hE hN'
    refine xT _ _ _ _ _ _ _ _ _ _ _ _ (Br.dec (fun h=>?_) fun h=>by omega)
    rw [i64_in _ (by omega)]
    have next:∀ (V:List TD) (N':Nat),Blk tz (2*bs) V→Ste tz V W→N≤N'→zJ E Q N m c m c n1 (IntKind.i64.wrap ((bs:Int)*2)) (zQ V) c N':=by
     intro V N' hV hE hN'
     rw [i64_in _ (by omega)]
     have:=ih (2*bs) V N' (by omega) (by omega) hV hE (by omega) hN'
     have e:((2*bs:Nat):Int)=(bs:Int)*2:=by omega
     rwa [e] at this
    have k9:∀ (k:Nat) (P R:List TD) (a b:Int) (N':Nat),R.length≤k→Fb tz (2*bs) P→Blk tz bs R→Ste tz (P++R) W→a=P.length→b=(P.length+2*bs:Nat)→N≤N'→zo E Q N m c m c n1 bs a b (zQ (P++R)) c N':=by
     intro k
     induction k with
     | zero=>
       intro P R a b N' hk hP hR hE ha hb3 hN'
       have hl:=hE.len
       simp only [List.length_append] at hl
       have:=List.eq_nil_of_length_eq_zero (Nat.le_zero.1 hk)
       subst this
       simp only [List.length_nil] at hl
       refine xR _ _ _ _ _ _ _ _ _ _ _ _ _ _ (Br.dec (fun h=>by omega) fun _=>?_)
       rw [i64_in (a+bs) (by omega)]
       exact Br.dec (fun h=>by omega) fun _=>next _ _ (hP.blk (.last (by simp) (by simp [Srt]))) hE hN'
     | succ k ihk=>
       intro P R a b N' hk hP hR hE ha hb3 hN'
       have hl:=hE.len
       simp only [List.length_append] at hl
       refine xR _ _ _ _ _ _ _ _ _ _ _ _ _ _ (Br.dec (fun h=>?_) fun h=>?_)
       ·rw [i64_in (a+bs) (by omega),i64_in (2*(bs:Int)) (by omega),i64_in (b+2*(bs:Int)) (by omega)]
        intro N1 hN1
        obtain ⟨A,B,R',rfl,hA,hB,sA,sB,hR'⟩:=hR.two hb (by omega)
        simp only [List.length_append] at hl hk
        have e1:P++(A++B++R')=P++(A++(B++R')):=by simp
        rw [e1] at hE ⊢
        refine zFs (A.length+B.length) A B (Nat.le_refl _) (List.length_pos_iff.1 (by omega)) (List.length_pos_iff.1 (by omega)) sA sB (P:=P) (S:=R') (hT.of fun p hp=>hE.mem.1 hp) (by simp;omega) hm2 ha (by omega) (by omega) N1 _ fun M N2 hN2 hS hM _ _ _=>?_
        have hlM:=hM.len
        simp only [List.length_append] at hlM
        have:=ihk (P++M) R' b (b+2*(bs:Int)) N2 (by omega) (.snoc hP (by omega) hS) hR' (Ste.trans (by
         have:=Ste.app (Ste.rfl' (key:=tz) (l:=P)) (Ste.app hM (Ste.rfl' (key:=tz) (l:=R')))
         simpa using this) hE) (by simp;omega) (by simp;omega) (by omega)
        simpa using this
       ·rw [i64_in (a+bs) (by omega)]
        refine Br.dec (fun h2 N1 hN1=>?_) fun h2=>?_
        ·obtain ⟨A,B,rfl,hA,sA,sB⟩:=hR.rest (by omega) (by omega)
         simp only [List.length_append] at hl hk
         have e1:P++(A++B)=P++(A++(B++[])):=by simp
         rw [e1] at hE ⊢
         refine zFs (A.length+B.length) A B (Nat.le_refl _) (List.length_pos_iff.1 (by omega)) (List.length_pos_iff.1 (by omega)) sA sB (P:=P) (S:=[]) (hT.of fun p hp=>hE.mem.1 hp) (by simp;omega) hm2 ha (by omega) (by omega) N1 _ fun M N2 hN2 hS hM _ _ _=>?_
         have hlM:=hM.len
         simp only [List.length_append] at hlM
         have:=next (P++M) N2 (hP.blk (.last (by omega) hS)) (Ste.trans (by
          have:=Ste.app (Ste.rfl' (key:=tz) (l:=P)) hM
          simpa using this) hE) (by omega)
         simpa using this
        ·exact next _ _ (hP.blk (.last (by omega) (hR.small (by omega)))) hE hN'
    have:=k9 V.length [] V 0 (2*(bs:Int)) N' (Nat.le_refl _) .nil hV (by simpa using hE) (by simp) (by simp) hN'
    simpa using this
 have k2:∀ (k:Nat) (P R:List TD) (a b:Int) (N':Nat),R.length≤k→Fb tz 20 P→Ste tz (P++R) W→a=P.length→b=(P.length+20:Nat)→N≤N'→zX E Q N m c m c n1 20 a b (zQ (P++R)) c N':=by
  intro k
  have end_:∀ (P R:List TD) (a b:Int) (N':Nat),R.length<20→Fb tz 20 P→Ste tz (P++R) W→a=P.length→b=(P.length+20:Nat)→N≤N'→zX E Q N m c m c n1 20 a b (zQ (P++R)) c N':=by
   intro P R a b N' hk hP hE ha hb3 hN'
   have hl:=hE.len
   simp only [List.length_append] at hl
   refine xQ _ _ _ _ _ _ _ _ _ _ _ _ _ _ (Br.dec (fun h=>by omega) fun _ N1 hN1=>?_)
   have e1:P++R=P++(R++[]):=by simp
   rw [e1] at hE ⊢
   refine qM (P:=P) (M:=R) (S:=[]) (hT.of fun p hp=>hE.mem.1 (by simp [hp])) (by simp;omega) hm2 ha (by omega) N1 _ fun M N2 hN2 hS hM _ _ _=>?_
   have hlM:=hM.len
   have:=k7 (m - 20) 20 (P++M) N2 (Nat.le_refl _) (by omega) (hP.blk (.last (by omega) hS)) (Ste.trans (by
    have:=Ste.app (Ste.rfl' (key:=tz) (l:=P)) hM
    simpa using this) hE) (by omega) (by omega)
   simpa using this
  induction k with
  | zero=>intro P R a b N' hk;exact end_ P R a b N' (by omega)
  | succ k ih=>
    intro P R a b N' hk hP hE ha hb3 hN'
    by_cases hR:R.length<20
    ·exact end_ P R a b N' hR hP hE ha hb3 hN'
    have hl:=hE.len
    simp only [List.length_append] at hl
    obtain ⟨A,R',rfl,hA⟩:=qP (l:=R) (i:=20) (by omega)
    simp only [List.length_append] at hl hk
    refine xQ _ _ _ _ _ _ _ _ _ _ _ _ _ _ (Br.dec (fun h N1 hN1=>?_) fun h=>by omega)
    rw [i64_in (b+20) (by omega)]
    refine qM (P:=P) (M:=A) (S:=R') (hT.of fun p hp=>hE.mem.1 (by simp [hp])) (by simp;omega) hm2 ha (by omega) N1 _ fun M N2 hN2 hS hM _ _ _=>?_
    have hlM:=hM.len
    have:=ih (P++M) R' b (b+20) N2 (by omega) (.snoc hP (by omega) hS) (Ste.trans (by
     have:=Ste.app (Ste.rfl' (key:=tz) (l:=P)) (Ste.app hM (Ste.rfl' (key:=tz) (l:=R')))
     simpa using this) hE) (by simp;omega) (by simp;omega) (by omega)
    simpa using this
 have:=k2 W.length [] W 0 20 N (Nat.le_refl _) .nil (by simpa using Ste.rfl') (by simp) (by simp) (Nat.le_refl _)
 simpa using this
theorem zIW {W:List TD} (hT:TDs W) {m c:Nat} (hm:m=W.length) (hm2:m≤1073741824) (N:Nat) (Q:QT [.sl 9]) (hQ:∀ N',N≤N'→Q none (zQ (v4 tz [] W)) c N') :
  XCalls prog 36 [.sl 9] [.sb 0 9 0 m c,.fn 37 []] [.arr 39 9 (zQ W) c] N Q:=by
 refine vV N m c _ c Q fun E hBl N1 hN1=>?_
 refine zOu hT hm hm2 rfl N1 _ fun M N2 hN2 hS hM _ _ hl=>⟨rfl,⟨hl,rfl⟩,fun N3 hN3=>?_⟩
 rw [zLb hS hM]
 exact hQ N3 (by omega)
end Go.Proofs.YtnpjpplbkoammaaGreat
