/- Rows put in order: what a stable sort comes to, in plain Lean. -/
import Derived.Test.YtnpjpplbkoammaaGreatWn
import Derived.Test.YtnpjpplbkoammaaGreatKc
set_option linter.unusedVariables false
set_option linter.unusedSimpArgs false
namespace Go.Proofs.YtnpjpplbkoammaaGreat
open Go
section
variable {α:Type} {key:α→Nat}
/-- in order: the greater ahead -/
def Srt (key:α→Nat) (l:List α):Prop:=l.Pairwise fun x y=>key y≤key x
/-- the same elements, and those of one size in the same order -/
structure Ste (key:α→Nat) (l m:List α):Prop where
 len:l.length=m.length
 f:∀ k,l.filter (fun x=>key x==k)=m.filter (fun x=>key x==k)
theorem Ste.rfl' {l:List α}:Ste key l l:=⟨rfl,fun _=>rfl⟩
theorem Ste.symm {l m:List α} (h:Ste key l m):Ste key m l:=⟨h.len.symm,fun k=>(h.f k).symm⟩
theorem Ste.trans {l m n:List α} (h:Ste key l m) (g:Ste key m n):Ste key l n:=⟨h.len.trans g.len,fun k=>(h.f k).trans (g.f k)⟩
theorem Ste.app {a b c d:List α} (h:Ste key a b) (g:Ste key c d):Ste key (a++c) (b++d):=⟨by simp [h.len,g.len],fun k=>by rw [List.filter_append,List.filter_append,h.f,g.f]⟩
theorem Ste.mem {l m:List α} (h:Ste key l m) {x:α}:x∈l↔x∈m:=by
 have:=h.f (key x)
 have h1:∀ n:List α,x∈n↔x∈n.filter (fun y=>key y==key x):=fun n=>by simp
 rw [h1 l,h1 m,this]
theorem Ste.swap {A B:List α} (h:∀ x∈A,∀ y∈B,key x≠key y):Ste key (A++B) (B++A):=by
 refine ⟨by simp [Nat.add_comm],fun k=>?_⟩
 rw [List.filter_append,List.filter_append]
 by_cases hA:A.filter (fun x=>key x==k)=[]
 ·simp [hA]
 ·obtain ⟨x,hx⟩:=List.exists_mem_of_ne_nil _ hA
  simp only [List.mem_filter,beq_iff_eq] at hx
  have hB:B.filter (fun x=>key x==k)=[]:=List.filter_eq_nil_iff.2 fun y hy=>by
   have:=h x hx.1 y hy
   rw [hx.2] at this
   simpa using fun hc=>this hc.symm
  simp [hB]
theorem Ste.uniq:∀ {l m:List α},Srt key l→Srt key m→Ste key l m→l=m
 | [],m,_,_,h=>(List.eq_nil_of_length_eq_zero h.len.symm).symm
 | x::l,[],_,_,h=>by have:=h.len;simp at this
 | x :: l,y::m,h1,h2,h=>by
   obtain ⟨a1,a2⟩:=List.pairwise_cons.1 h1
   obtain ⟨b1,b2⟩:=List.pairwise_cons.1 h2
   have hxy:key x=key y:=by
    have hx:x∈y::m:=h.mem.1 (by simp)
    have hy:y∈x::l:=h.mem.2 (by simp)
    have e1:key x≤key y:=by
     rcases List.mem_cons.1 hx with rfl | hx
     ·exact Nat.le_refl _
     ·exact b1 x hx
    have e2:key y≤key x:=by
     rcases List.mem_cons.1 hy with rfl | hy
     ·exact Nat.le_refl _
     ·exact a1 y hy
    omega
   have hf:=h.f (key x)
   simp only [List.filter_cons,hxy,beq_self_eq_true,if_true] at hf
   obtain ⟨rfl,hf'⟩:=List.cons.inj hf
   refine congrArg _ (Ste.uniq a2 b2 ⟨by simpa using h.len,fun k=>?_⟩)
   have hk:=h.f k
   simp only [List.filter_cons] at hk
   split at hk
   ·exact (List.cons.inj hk).2
   ·exact hk
theorem Srt.app {A B:List α} (hA:Srt key A) (hB:Srt key B) (h:∀ x∈A,∀ y∈B,key y≤key x):Srt key (A++B):=List.pairwise_append.2 ⟨hA,hB,h⟩
theorem Srt.ap {A B:List α} (h:Srt key (A++B)):Srt key A∧Srt key B∧∀ x∈A,∀ y∈B,key y≤key x:=List.pairwise_append.1 h
/-- put behind all that are at least as great -/
def zEs (key:α→Nat) (x:α):List α→List α
 | []=>[x]
 | y::l=>if key x≤key y then y::zEs key x l else x::y::l
theorem zLM {x z:α}:∀ {l:List α},z∈zEs key x l→z=x∨z∈l
 | [],h=>by simp [zEs] at h;exact .inl h
 | y::l,h=>by
   simp only [zEs] at h
   split at h
   ·rcases List.mem_cons.1 h with rfl | h
    ·exact .inr (by simp)
    ·exact (zLM h).imp id fun h=>by simp [h]
   ·rcases List.mem_cons.1 h with rfl | h
    ·exact .inl rfl
    ·exact .inr h
theorem zNr {x:α}:∀ {l:List α},Srt key l→Srt key (zEs key x l)∧Ste key (zEs key x l) (l++[x])
 | [],_=>⟨by simp [zEs,Srt],Ste.rfl'⟩
 | y :: l,h=>by
   obtain ⟨a1,a2⟩:=List.pairwise_cons.1 h
   obtain ⟨h1,h2⟩:=zNr (x:=x) a2
   simp only [zEs]
   split
   ·rename_i hxy
    refine ⟨List.pairwise_cons.2 ⟨fun z hz=>?_,h1⟩,Ste.app (a:=[y]) (b:=[y]) Ste.rfl' h2⟩
    rcases zLM hz with rfl | hz
    ·exact hxy
    ·exact a1 z hz
   ·rename_i hxy
    refine ⟨List.pairwise_cons.2 ⟨fun z hz=>?_,h⟩,?_⟩
    ·rcases List.mem_cons.1 hz with rfl | hz
     ·omega
     ·have:=a1 z hz;omega
    ·refine Ste.swap (A:=[x]) (B:=y::l) fun u hu v hv=>?_
     simp only [List.mem_singleton] at hu
     subst hu
     rcases List.mem_cons.1 hv with rfl | hv
     ·omega
     ·have:=a1 v hv;omega
/-- the elements of a list put in order one by one -/
def v4 (key:α→Nat) (o l:List α):List α:=l.foldl (fun o x=>zEs key x o) o
theorem zIz:∀ {l o:List α},Srt key o→Srt key (v4 key o l)∧Ste key (v4 key o l) (o++l)
 | [],o,h=>⟨h,by simp [v4];exact Ste.rfl'⟩
 | x::l,o,h=>by
   obtain ⟨h1,h2⟩:=zNr (x:=x) h
   obtain ⟨h3,h4⟩:=zIz (l:=l) h1
   exact ⟨h3,h4.trans (by have:=Ste.app h2 (Ste.rfl' (key:=key) (l:=l));simpa using this)⟩
theorem zLb {l m:List α} (h1:Srt key m) (h2:Ste key m l):m=v4 key [] l:=by
 obtain ⟨h3,h4⟩:=zIz (key:=key) (l:=l) (o:=[]) (by simp [Srt])
 exact Ste.uniq h1 h3 (h2.trans (by simpa using h4.symm))
/-- full blocks, each in order -/
inductive Fb (key:α→Nat) (n:Nat):List α→Prop
 | nil:Fb key n []
 | snoc {P A:List α}:Fb key n P→A.length=n→Srt key A→Fb key n (P++A)
/-- blocks, each in order; the last may be short -/
inductive Blk (key:α→Nat) (n:Nat):List α→Prop
 | last {l:List α}:l.length≤n→Srt key l→Blk key n l
 | cons {A R:List α}:A.length=n→Srt key A→Blk key n R→Blk key n (A++R)
theorem Fb.blk {n:Nat} {P:List α} (h:Fb key n P):∀ {T:List α},Blk key n T→Blk key n (P++T):=by
 induction h with
 | nil=>intro T hT;simpa using hT
 | snoc _ h1 h2 ih=>intro T hT;rw [List.append_assoc];exact ih (.cons h1 h2 hT)
theorem Blk.small {n:Nat} {R:List α} (h:Blk key n R) (hl:R.length≤n):Srt key R:=by
 cases h with
 | last _ h=>exact h
 | cons h1 h2 h3=>
   rename_i A R
   simp only [List.length_append] at hl
   have:R=[]:=List.eq_nil_of_length_eq_zero (by omega)
   subst this
   simpa using h2
/-- two blocks at the front -/
theorem Blk.two {n:Nat} {R:List α} (h:Blk key n R) (hn:0<n) (hl:2*n≤R.length):∃ A B R',R=A++B++R'∧A.length=n∧B.length=n∧Srt key A∧Srt key B∧Blk key n R':=by
 cases h with
 | last h _=>omega
 | cons h1 h2 h3=>
   rename_i A R
   simp only [List.length_append] at hl
   cases h3 with
   | last h4 h5=>exact ⟨A,R,[],by simp,h1,by omega,h2,h5,.last (by simp) (by simp [Srt])⟩
   | cons h4 h5 h6=>exact ⟨A,_,_,by rw [List.append_assoc],h1,h4,h2,h5,h6⟩
/-- a block and a short one -/
theorem Blk.rest {n:Nat} {R:List α} (h:Blk key n R) (hl:n<R.length) (hl2:R.length<2*n):∃ A B,R=A++B∧A.length=n∧Srt key A∧Srt key B:=by
 cases h with
 | last h _=>omega
 | cons h1 h2 h3=>
   rename_i A R
   simp only [List.length_append] at hl hl2
   exact ⟨A,R,rfl,h1,h2,h3.small (by omega)⟩
theorem zDD {L R:List α} {x d:α} {i:Nat} (hi:i=L.length):(L++x::R).getD i d=x:=by
 subst hi;simp [List.getD_eq_getElem?_getD]
theorem zDi {L R:List α} {x y:α} {i:Nat} (hi:i=L.length):(L++x::R).set i y=L++y::R:=by
 subst hi;simp
theorem zH8 {L C R:List α} {x y d:α} {j:Nat} (hj:j=L.length+1+C.length):(L++x::(C++y::R)).getD j d=y:=by
 have:L++x::(C++y::R)=(L++x::C)++y::R:=by simp
 rw [this];exact zDD (by simp;omega)
theorem zKu {L C R:List α} {x y z:α} {j:Nat} (hj:j=L.length+1+C.length):(L++x::(C++y::R)).set j z=L++x::(C++z::R):=by
 have:L++x::(C++y::R)=(L++x::C)++y::R:=by simp
 rw [this,zDi (by simp;omega)];simp
/-- a list at a place -/
theorem zDG {l:List α} {i:Nat} (h:i<l.length):∃ L x R,l=L++x::R∧L.length=i:=⟨l.take i,l[i],l.drop (i+1),by simp,by simp;omega⟩
theorem qP {l:List α} {i:Nat} (h:i≤l.length):∃ L R,l=L++R∧L.length=i:=⟨l.take i,l.drop i,by simp,by simp;omega⟩
end
open Go Go.Proofs Go.Proofs.Tryz Go.IntWalk
/-- a term with its cells -/
abbrev TD:=Tm × D
def tz (p:TD):Nat:=p.1.sz
def zQ (ps:List TD):List D:=ps.map (·.2)
def TDs (ps:List TD):Prop:=∀ p∈ps,p.1.Is p.2∧p.1.cnt≤1073741824
theorem zM (ps:List TD):(zQ ps).length=ps.length:=by simp [zQ]
theorem TDs.of {l m:List TD} (h:TDs l) (hm:∀ p∈m,p∈l):TDs m:=fun p hp=>h p (hm p hp)
theorem sz_cnt:∀ t:Tm,t.sz≤t.cnt
 | .mk _ _ _ _ ty re l=>by simp only [Tm.sz,Tm.cnt];have:=rg l;omega
theorem zAd {L R:List TD} {x:TD} {i:Nat} (hi:i=L.length):(zQ (L++x::R)).getD i default=x.2:=by
 rw [zQ,List.map_append,List.map_cons];exact zDD (by simp [hi])
theorem swp {L C R:List TD} {x y:TD} {W:List TD} (hW:W=L++x::(C++y::R)) {i j:Nat} (hi:i=L.length) (hj:j=L.length+1+C.length) :
  ((zQ W).set i ((zQ W).getD j default)).set j ((zQ W).getD i default)=zQ (L++y::(C++x::R)):=by
 subst hW
 simp only [zQ,List.map_append,List.map_cons]
 rw [zH8 (j:=j) (by simp [hj]),zDD (i:=i) (by simp [hi]),zDi (i:=i) (by simp [hi]),zKu (j:=j) (by simp [hj])]
theorem zSJ {L C R:List TD} {x y:TD} {W:List TD} (hW:W=L++x::(C++y::R)) {i j:Nat} (hi:i=L.length) (hj:j=L.length+1+C.length) :
  ((zQ W).set j ((zQ W).getD i default)).set i ((zQ W).getD j default)=zQ (L++y::(C++x::R)):=by
 subst hW
 simp only [zQ,List.map_append,List.map_cons]
 rw [zH8 (j:=j) (by simp [hj]),zDD (i:=i) (by simp [hi]),zKu (j:=j) (by simp [hj]),zDi (i:=i) (by simp [hi])]
theorem zPC {p q:TD} (hp:p.1.Is p.2∧p.1.cnt≤1073741824) (hq:q.1.Is q.2∧q.1.cnt≤1073741824):pe 37 [.dg 9 p.2,.dg 9 q.2] ((tz q:Int) - tz p):=fun N Q hQ=>by
 have h1:=sz_cnt p.1
 have h2:=sz_cnt q.1
 refine zAC N _ _ Q fun _ _ N1 hN1=>uB _ _ hq.1 hq.2 N1 _ fun N2 hN2 _ N3 hN3=>uB _ _ hp.1 hp.2 N3 _ fun N4 hN4 _ N5 hN5=>?_
 rw [i64_in _ (by omega)]
 exact hQ _ (by omega)
theorem p3 {P A C B S:List TD} (hAB:A.length=B.length) {m c:Nat} (hm:m=(P++(A++(C++(B++S)))).length) (hm2:m≤1073741824) {n1 n2 n3:Int} (h1:n1=P.length) (h2:n2=(P.length+A.length+C.length:Nat)) (h3:n3=A.length)
  (N:Nat) (Q:QT [.sl 9]) (hQ:∀ N',N≤N'→Q none (zQ (P++(B++(C++(A++S))))) c N') :
  XCalls prog 155 [.sl 9] [.sb 0 9 0 m c,.int .i64 n1,.int .i64 n2,.int .i64 n3,.fn 37 []] [.arr 39 9 (zQ (P++(A++(C++(B++S))))) c] N Q:=by
 refine vC N m c n1 n2 n3 _ c Q fun E hB=>?_
 have key:∀ (A2 B2 U V:List TD) (k:Nat) (N':Nat),A2.length=B2.length→n1+k=U.length→n2+k=(U.length+A2.length+V.length:Nat)→n3=k+A2.length→(U++(A2++(V++(B2++S)))).length=m→N≤N' →
   (∀ N'',N≤N''→Q none (zQ (U++(B2++(V++(A2++S))))) c N'') →
   zg E Q N m c m c n1 n2 n3 k (zQ (U++(A2++(V++(B2++S))))) c N':=by
  intro A2
  induction A2 with
  | nil=>
    intro B2 U V k N' hl e1 e2 e3 hlen hN' hQ'
    have:B2=[]:=List.eq_nil_of_length_eq_zero hl.symm
    subst this
    refine yr _ _ _ _ _ _ _ _ _ _ _ _ _ _ (Br.dec (fun h=>?_) fun _=>⟨rfl,⟨by rw [zM];exact hlen,rfl⟩,fun N1 hN1=>hQ' N1 (by omega)⟩)
    simp at e3;omega
  | cons x A' ih=>
    intro B2 U V k N' hl e1 e2 e3 hlen hN' hQ'
    cases B2 with
    | nil=>simp at hl
    | cons y B'=>
      have hW:U++((x::A')++(V++((y::B')++S)))=U++x::((A'++V)++y::(B'++S)):=by simp
      have hlen2:U.length+1+A'.length+V.length+1+B'.length+S.length=m:=by rw [←hlen];simp;omega
      simp only [List.length_cons] at hl e2 e3
      refine yr _ _ _ _ _ _ _ _ _ _ _ _ _ _ (Br.dec (fun h=>?_) fun h=>by omega)
      have w1:=i64_in (n1+k) (by omega)
      have w2:=i64_in (n2+k) (by omega)
      have w3:=i64_in ((k:Int)+1) (by omega)
      rw [w1,w2,w3]
      have hs:=swp (W:=U++((x::A')++(V++((y::B')++S)))) hW (i:=0+(n1+k).toNat) (j:=0+(n2+k).toNat) (by omega) (by simp;omega)
      rw [hs]
      simp only [zM,List.length_set,hlen]
      refine ⟨⟨by omega,by omega,by omega⟩,by omega,⟨by omega,by omega,by omega⟩,by omega,⟨by omega,by omega,by omega⟩,by omega,⟨by omega,by omega,by omega⟩,by omega,?_⟩
      have:=ih B' (U++[y]) (V++[x]) (k+1) N' (by omega) (by simp;omega) (by simp;omega) (by omega) (by simp;omega) hN' (fun N'' h=>by have:=hQ' N'' h;simpa using this)
      simpa using this
 have hQ2:∀ N'',N≤N''→Q none (zQ (P++(B++(C++(A++S))))) c N'':=hQ
 rw [zM,←hm]
 exact key A B P C 0 N hAB (by omega) (by omega) (by omega) hm.symm (Nat.le_refl _) hQ2
theorem zOV {P A B S:List TD} (hA:A≠[]) (hB:B≠[]) {m c:Nat} (hm:m=(P++(A++(B++S))).length) (hm2:m≤1073741824) {n1 n2 n3:Int} (h1:n1=P.length) (h2:n2=(P.length+A.length:Nat)) (h3:n3=(P.length+A.length+B.length:Nat))
  (N:Nat) (Q:QT [.sl 9]) (hQ:∀ N',N≤N'→Q none (zQ (P++(B++(A++S)))) c N') :
  XCalls prog 127 [.sl 9] [.sb 0 9 0 m c,.int .i64 n1,.int .i64 n2,.int .i64 n3,.fn 37 []] [.arr 39 9 (zQ (P++(A++(B++S)))) c] N Q:=by
 refine vg N m c n1 n2 n3 _ c Q fun E hBl=>?_
 have key:∀ (n:Nat) (P X Y S:List TD) (i j:Int) (N':Nat),X.length+Y.length≤n→X≠[]→Y≠[]→i=X.length→j=Y.length→n2=(P.length+X.length:Nat)→(P++(X++(Y++S))).length=m→N≤N' →
   (∀ N'',N≤N''→Q none (zQ (P++(Y++(X++S)))) c N'') →
   zV E Q N m c m c n2 i j (zQ (P++(X++(Y++S)))) c N':=by
  intro n
  induction n with
  | zero=>
    intro P X Y S i j N' hn hX
    have:=List.length_pos_iff.2 hX
    omega
  | succ n ih=>
    intro P X Y S i j N' hn hX hY hi hj hn2 hlen hN' hQ'
    have hx:=List.length_pos_iff.2 hX
    have hy:=List.length_pos_iff.2 hY
    have hlen2:P.length+X.length+Y.length+S.length=m:=by rw [←hlen];simp;omega
    refine vu _ _ _ _ _ _ _ _ _ _ _ _ _ (Br.bne (fun hne=>?_) fun heq N5 hN5=>?_)
    ·refine Br.dec (fun hgt N1 hN1=>?_) fun hgt N3 hN3=>?_
     ·obtain ⟨X1,X2,rfl,hx1⟩:=qP (l:=X) (i:=Y.length) (by omega)
      simp only [List.length_append] at hi hlen2 hn2 hn hx
      rw [i64_in _ (by omega),i64_in _ (by omega)]
      have e1:P++((X1++X2)++(Y++S))=P++(X1++(X2++(Y++S))):=by simp
      rw [e1]
      refine p3 (P:=P) (A:=X1) (C:=X2) (B:=Y) (S:=S) hx1 (by simp;omega) hm2 (by omega) (by omega) (by omega) N1 _ fun N2 hN2 _ _ hl=>?_
      have:=ih (P++Y) X2 X1 S (i - j) j N2 (by omega) (List.length_pos_iff.1 (by omega)) (List.length_pos_iff.1 (by omega)) (by omega) (by omega) (by simp;omega) (by simp;omega) (by omega) (fun N'' h=>by have:=hQ' N'' h;simpa using this)
      simpa using this
     ·obtain ⟨Y1,Y2,rfl,hy1⟩:=qP (l:=Y) (i:=Y.length - X.length) (by omega)
      simp only [List.length_append] at hj hlen2 hn hy1 hy
      have w1:=i64_in (n2+j) (by omega)
      rw [w1,i64_in _ (by omega),i64_in _ (by omega),i64_in _ (by omega)]
      have e1:P++(X++((Y1++Y2)++S))=P++(X++(Y1++(Y2++S))):=by simp
      rw [e1]
      refine p3 (P:=P) (A:=X) (C:=Y1) (B:=Y2) (S:=S) (by omega) (by simp;omega) hm2 (by omega) (by omega) (by omega) N3 _ fun N2 hN2 _ _ hl=>?_
      have:=ih P Y2 Y1 (X++S) i (j - i) N2 (by omega) (List.length_pos_iff.1 (by omega)) (List.length_pos_iff.1 (by omega)) (by omega) (by omega) (by omega) (by simp;omega) (by omega) (fun N'' h=>by have:=hQ' N'' h;simpa using this)
      simpa using this
    ·rw [i64_in _ (by omega)]
     have e1:P++(X++(Y++S))=P++(X++([]++(Y++S))):=by simp
     rw [e1]
     refine p3 (P:=P) (A:=X) (C:=[]) (B:=Y) (S:=S) (by omega) (by simp;omega) hm2 (by omega) (by simp;omega) hi N5 _ fun N2 hN2 _ _ hl=>?_
     refine ⟨rfl,⟨by rw [hl,zM];simp;omega,rfl⟩,fun N7 hN7=>?_⟩
     have:=hQ' N7 (by omega)
     simpa using this
 rw [zM,←hm,i64_in _ (by simp at hm;omega),i64_in _ (by simp at hm;omega)]
 have hx:=List.length_pos_iff.2 hA
 exact key (A.length+B.length) P A B S _ _ N (Nat.le_refl _) hA hB (by omega) (by omega) (by omega) hm.symm (Nat.le_refl _) hQ
theorem qM {P M S:List TD} (hT:TDs M) {m c:Nat} (hm:m=(P++(M++S)).length) (hm2:m≤1073741824) {n1 n2:Int} (h1:n1=P.length) (h2:n2=(P.length+M.length:Nat))
  (N:Nat) (Q:QT [.sl 9]) (hQ:∀ M' N',N≤N'→Srt tz M'→Ste tz M' M→Q none (zQ (P++(M'++S))) c N') :
  XCalls prog 97 [.sl 9] [.sb 0 9 0 m c,.int .i64 n1,.int .i64 n2,.fn 37 []] [.arr 39 9 (zQ (P++(M++S))) c] N Q:=by
 have hpl:P.length+M.length+S.length=m:=by rw [hm];simp;omega
 refine wI N m c n1 n2 _ c Q fun E hB=>?_
 have out : ∀ (R M1:List TD) (i:Int) (N':Nat),TDs M1→TDs R→M1≠[]→Srt tz M1→i=(P.length+M1.length:Nat)→n2=(P.length+M1.length+R.length:Nat)→(P++(M1++(R++S))).length=m→N≤N' →
   (∀ M' N'',N≤N''→Srt tz M'→Ste tz M' (M1++R)→Q none (zQ (P++(M'++S))) c N'') →
   zL E Q N m c m c n1 n2 i (zQ (P++(M1++(R++S)))) c N':=by
  intro R
  induction R with
  | nil=>
    intro M1 i N' hM hR hne hS hi hn2 hlen hN' hQ'
    simp only [List.length_nil] at hn2
    refine zl _ _ _ _ _ _ _ _ _ _ _ _ _ (Br.dec (fun h=>by omega) fun _=>⟨rfl,⟨by rw [zM];exact hlen,rfl⟩,fun N1 hN1=>?_⟩)
    have:=hQ' M1 N1 (by omega) hS (by simpa using Ste.rfl')
    simpa using this
  | cons x R' ih=>
    intro M1 i N' hM hR hne hS hi hn2 hlen hN' hQ'
    simp only [List.length_cons] at hn2
    have hlen2:P.length+M1.length+1+R'.length+S.length=m:=by rw [←hlen];simp;omega
    refine zl _ _ _ _ _ _ _ _ _ _ _ _ _ (Br.dec (fun h=>?_) fun h=>by omega)
    have inn:∀ (n:Nat) (L T:List TD) (j:Int) (N'':Nat),L.length=n→TDs L→TDs T→Srt tz (L++T)→(∀ t∈T,tz t<tz x)→Ste tz (L++x::T) (M1++[x])→j=(P.length+L.length:Nat)→N'≤N'' →
      zU E Q N m c m c n1 n2 i j (zQ (P++(L++x::(T++(R'++S))))) c N'':=by
     intro n
     induction n with
     | zero=>
       intro L T j N'' hL _ hTT hS2 hlt hSt hj hN''
       have:=List.eq_nil_of_length_eq_zero hL
       subst this
       refine yW _ _ _ _ _ _ _ _ _ _ _ _ _ _ (Br.dec (fun h=>by simp at hj;omega) fun _=>?_)
       rw [i64_in _ (by omega)]
       have hl:=hSt.len
       simp only [List.length_append,List.length_cons,List.length_nil] at hl
       have:=ih (x::T) (i+1) N'' (fun p hp=>by
        rcases List.mem_cons.1 hp with rfl | hp
        ·exact hR _ (by simp)
        ·exact hTT p hp) (fun p hp=>hR p (by simp [hp])) (by simp) (List.pairwise_cons.2 ⟨fun t ht=>by have:=hlt t ht;omega,show Srt tz T by simpa using hS2⟩) (by simp;omega) (by simp;omega) (by simp;omega) (by omega)
        fun M' N3 h3 h4 h5=>hQ' M' N3 h3 h4 (h5.trans (by have:=Ste.app hSt (Ste.rfl' (key:=tz) (l:=R'));simpa using this))
       simpa using this
     | succ n ihn=>
       intro L T j N'' hL hTL hTT hS2 hlt hSt hj hN''
       obtain ⟨L',y,rfl⟩:∃ L' y,L=L'++[y]:=by
        rcases List.eq_nil_or_concat L with rfl | ⟨L',y,rfl⟩
        ·simp at hL
        ·exact ⟨L',y,by simp⟩
       have hl:=hSt.len
       simp only [List.length_append,List.length_cons,List.length_nil] at hl hL hj
       have hW:P++((L'++[y])++x::(T++(R'++S)))=(P++L')++y::([]++x::(T++(R'++S))):=by simp
       have hW2:P++((L'++[y])++x::(T++(R'++S)))=(P++(L'++[y]))++x::(T++(R'++S)):=by simp
       have hlenW:(P++((L'++[y])++x::(T++(R'++S)))).length=m:=by simp;omega
       have g1:(zQ (P++((L'++[y])++x::(T++(R'++S))))).getD (0+j.toNat) default=x.2:=by rw [hW2];exact zAd (by simp;omega)
       have g2:(zQ (P++((L'++[y])++x::(T++(R'++S))))).getD (0+(j - 1).toNat) default=y.2:=by rw [hW];exact zAd (by simp;omega)
       have hs:=zSJ hW (i:=0+(j - 1).toNat) (j:=0+j.toNat) (by simp;omega) (by simp;omega)
       refine yW _ _ _ _ _ _ _ _ _ _ _ _ _ _ (Br.dec (fun h=>?_) fun h=>by omega)
       rw [i64_in (j - 1) (by omega),hs,g1,g2]
       simp only [zM,List.length_set,hlenW]
       refine ⟨⟨by omega,by omega,by omega⟩,by omega,⟨by omega,by omega,by omega⟩,by omega,fun N1 hN1=>?_⟩
       refine zPC (hR x (by simp)) (hTL y (by simp)) N1 _ fun N2 hN2 _=>Br.dec (fun hc=>?_) fun hc=>?_
       ·refine ⟨⟨by omega,by omega,by omega⟩,by omega,⟨by omega,by omega,by omega⟩,by omega,⟨by omega,by omega,by omega⟩,by omega,⟨by omega,by omega,by omega⟩,by omega,?_⟩
        have:=ihn L' (y::T) (j - 1) N2 (by omega) (fun p hp=>hTL p (by simp [hp])) (fun p hp=>by
         rcases List.mem_cons.1 hp with rfl | hp
         ·exact hTL _ (by simp)
         ·exact hTT p hp) (by simpa using hS2) (fun t ht=>by
         rcases List.mem_cons.1 ht with rfl | ht
         ·omega
         ·exact hlt t ht) (Ste.trans (by
          have h1:Ste tz ([x]++[y]) ([y]++[x]):=Ste.swap fun u hu v hv=>by
           simp only [List.mem_singleton] at hu hv
           subst hu hv
           omega
          have:=Ste.app (Ste.rfl' (key:=tz) (l:=L')) (Ste.app h1 (Ste.rfl' (key:=tz) (l:=T)))
          simpa using this) hSt) (by omega) (by omega)
        simpa using this
       ·rw [i64_in _ (by omega)]
        obtain ⟨s1,s2,s3⟩:=Srt.ap hS2
        have hall:∀ u∈L'++[y],tz x≤tz u:=fun u hu=>by
         rcases List.mem_append.1 hu with hu | hu
         ·have:=(Srt.ap s1).2.2 u hu y (by simp);omega
         ·simp only [List.mem_singleton] at hu;subst hu;omega
        have:=ih ((L'++[y])++x::T) (i+1) N2 (fun p hp=>by
         simp only [List.mem_append,List.mem_cons] at hp
         rcases hp with hp | rfl | hp
         ·exact hTL p (by simpa using hp)
         ·exact hR _ (by simp)
         ·exact hTT p hp) (fun p hp=>hR p (by simp [hp])) (by simp) (Srt.app s1 (List.pairwise_cons.2 ⟨fun t ht=>by have:=hlt t ht;omega,s2⟩) fun u hu v hv=>by
          rcases List.mem_cons.1 hv with rfl | hv
          ·exact hall u hu
          ·exact s3 u hu v hv) (by simp;omega) (by simp;omega) (by simp;omega) (by omega)
         fun M' N3 h3 h4 h5=>hQ' M' N3 h3 h4 (h5.trans (by have:=Ste.app hSt (Ste.rfl' (key:=tz) (l:=R'));simpa using this))
        simpa using this
    have:=inn M1.length M1 [] i N' rfl hM (fun p hp=>by simp at hp) (by simpa using hS) (by simp) (by simpa using Ste.rfl') hi (Nat.le_refl _)
    simpa using this
 rw [zM,←hm]
 cases M with
 | nil=>
   simp only [List.length_nil] at h2
   rw [i64_in _ (by omega)]
   refine zl _ _ _ _ _ _ _ _ _ _ _ _ _ (Br.dec (fun h=>by omega) fun _=>⟨rfl,⟨by rw [zM];exact hm.symm,rfl⟩,fun N1 hN1=>?_⟩)
   exact hQ [] N1 hN1 (by simp [Srt]) Ste.rfl'
 | cons x M'=>
   simp only [List.length_cons] at h2 hpl
   rw [i64_in _ (by omega)]
   have:=out M' [x] (n1+1) N (fun p hp=>hT p (by simp only [List.mem_singleton] at hp;simp [hp])) (fun p hp=>hT p (by simp [hp])) (by simp) (by simp [Srt]) (by simp;omega) (by simp;omega) (by simp;omega) (Nat.le_refl _) (fun M2 N2 a b d=>hQ M2 N2 a b (by simpa using d))
   simpa using this
end Go.Proofs.YtnpjpplbkoammaaGreat
