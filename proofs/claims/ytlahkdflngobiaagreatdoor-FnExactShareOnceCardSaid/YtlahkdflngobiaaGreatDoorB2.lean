/- Parameters: what they are; the laws' sizes, copies, equality and marks on them. -/
import Derived.Test.YtlahkdflngobiaaGreatDoorA4
import Derived.Test.YtlahkdflngobiaaGreatDoorKa
import Derived.Test.YtlahkdflngobiaaGreatDoorA3
import Derived.Test.YtlahkdflngobiaaGreatDoorKi
set_option linter.unusedVariables false
set_option linter.unusedSimpArgs false
namespace Go.Proofs.YtlahkdflngobiaaGreatDoor
open Go Go.Proofs Go.Proofs.Tryz Go.IntWalk
structure Pm where
 nm:ByteArray
 ty:Ty
 dy:Bool
def Pm.Is (g:Pm) (d:D):Prop:=∃ t0 t1,d=.ag [.t g.nm,t0,t1,.lit (.bool g.dy)]/\g.nm.size<=4611686018427387904/\g.ty.Is (.ag [t0,t1])
structure Pms (g:List Pm) (es:List D):Prop where
 len:es.length<=4611686018427387904
 all:All2 Pm.Is g es
def zC1:List Pm->Nat
 | []=>0
 | g::I=>g.ty.cnt+zC1 I
theorem zNd {g:List Pm} {es:List D} (h:Pms g es) (a:Option Addr) (c:Nat) (n:Int) (h0:0<=n) (h1:n<=1048576):zTE 6 [.sv a 4 es c,.j n] λr=>r = -1\/(0<=r/\r<=n/\(g.length:Int)<=n/\∀ x∈g,(x.ty.cnt:Int)<=n+1):=λN Q hQ=>by
 have hl:=h.all.len
 have hlen:=h.len
 have hx:∀ x∈g,∀ d,x.Is d->∀ n:Int,0<=n->n<=1048576->zTE 31 [.dg 4 d,.j n] λr=>r = -1\/(0<=r/\r<=n/\(x.ty.cnt:Int)<=n+1):=λx _ d hd n h0 h1 N Q hQ=>by
  obtain ⟨t0,t1,rfl,hs,ht⟩:=hd
  have:=x.ty.cnt_pos
  refine zGa N _ n Q λ_=>⟨_,rfl,?_⟩
  rw [i64_in (n - (x.nm.size:Int)) (by omega)]
  refine Br.dec (λaa N' J=>hQ _ _ J (.inl rfl)) λal=>?_
  intro N1 am
  refine zSx _ _ ht _ (by omega) (by omega) _ _ λr1 N2 ae ao=>?_
  refine λ_=>Br.dec (λaa N' J=>hQ _ _ (by omega) (.inl rfl)) λah=>?_
  intro N3 aq
  exact hQ _ _ (by omega) (by omega)
 refine zE1 N a es c n Q λ_=>?_
 rw [i64_in _ (by omega)]
 have key:0<=n - (es.length:Int)->∀ (m:Int) (N':Nat),N<=N'->0<=m->m<=n->(∀ r N'',N'<=N''->(r = -1\/(0<=r/\r<=m/\∀ x∈g,(x.ty.cnt:Int)<=n+1))->Q r N'')->xR Q N a es c m (0:Nat) N':=λ_=>by
  refine up h.all h.len (λi xs=>∀ (m:Int) (N':Nat),N<=N'->0<=m->m<=n->(∀ r N'',N'<=N''->(r = -1\/(0<=r/\r<=m/\∀ x∈xs,(x.ty.cnt:Int)<=n+1))->Q r N'')->xR Q N a es c m i N') ?_ ?_
  ·intro i ai _ m N' J ab aj O
   refine sj _ _ _ _ _ _ _ _ ?_
   repeat' first|with_reducible intro _|simp only[ai,Y1,Y2,Y3,Y4]|with_reducible refine X ?_ ?_|refine⟨_,_,_,rfl,?_⟩|refine⟨_,rfl,?_⟩|refine And.intro (by first|omega|trivial|(show _=_;rfl)|(with_reducible constructor)<;>first|omega|trivial|rfl) ?_|fail
   exact O _ _ (by omega) (.inr ⟨ab,by omega,by simp⟩)
  ·intro i x xs I _ ak m N' J ab aj O
   have hb:=I.b
   refine sj _ _ _ _ _ _ _ _ ?_
   repeat' first|with_reducible intro _|simp only[I.lt,I.w,oH,Y1,Y2,Y3,Y4]|with_reducible refine X ?_ ?_|refine⟨_,_,_,rfl,?_⟩|refine⟨_,rfl,?_⟩|refine And.intro (by first|omega|trivial|(show _=_;rfl)|(with_reducible constructor)<;>first|omega|trivial|rfl) ?_|refine (hx x I.m _ I.r m ab (by omega)) _ _ ?_|fail
   ·exact O _ _ (by omega) (.inl rfl)
   ·rename_i r N2 ae hr au aa
    refine ak _ _ (by omega) (by omega) (by omega) λr2 N'' h2 ac=>O _ _ (by omega) ?_
    rcases ac with ac | ⟨h3,h4,h5⟩
    ·exact .inl ac
    ·refine .inr ⟨h3,by omega,λy hy=>?_⟩
     rcases oJ.1 hy with rfl | hy
     ·omega
     ·exact h5 y hy
 repeat' first|with_reducible intro _|simp only[Y1,Y2,Y3,Y4]|with_reducible refine X ?_ ?_|refine⟨_,_,_,rfl,?_⟩|refine⟨_,rfl,?_⟩|refine And.intro (by first|omega|trivial|(show _=_;rfl)|(with_reducible constructor)<;>first|omega|trivial|rfl) ?_|fail
 ·exact hQ _ _ (by omega) (.inl rfl)
 ·refine key (by omega) _ _ (oA _) (by omega) (by omega) λr N'' h2 hr=>hQ _ _ (by omega) ?_
  rcases hr with hr | ⟨h3,h4,h5⟩
  ·exact .inl hr
  ·exact .inr ⟨h3,by omega,by omega,h5⟩
theorem zPq (x:Pm) (d:D) (hd:x.Is d) (hc:x.ty.cnt<=1073741824):Cop 40 4 [.dg 4 d] x.Is:=λN Q hQ=>by
 obtain ⟨t0,t1,rfl,hs,ht⟩:=hd
 refine zGE N _ Q λ_=>?_
 repeat' first|with_reducible intro _|simp only[Y1,Y2,Y3,Y4]|with_reducible refine X ?_ ?_|refine⟨_,_,_,rfl,?_⟩|refine⟨_,rfl,?_⟩|refine And.intro (by first|omega|trivial|(show _=_;rfl)|(with_reducible constructor)<;>first|omega|trivial|rfl) ?_|refine (zSF _ _ ht hc) _ _ ?_|fail
 rename_i N1 I x' N2 aa O ho _ _ N3 J
 exact hQ _ _ (by omega) ⟨_,_,rfl,hs,Ty.is_cells O⟩ (sq (zR (zm ((vQ O ho).mono I J) (zR uk) (by omega) (oA _))))
theorem ph {g:List Pm} {es:List D} (h:Pms g es) (hg:g.length<=1073741824) (hc:∀ x∈g,x.ty.cnt<=1073741824) (a:Option Addr) (c:Nat):zUg 9 4 [.sv a 4 es c] (Pms g):=λN Q hQ=>by
 have hl:=h.all.len
 refine zFT N a es c Q λ_=>⟨⟨by omega,by omega,by omega,by omega⟩,?_⟩
 rw [oH]
 have key:=up h.all h.len (λi xs=>∀ (done junk:List D) (N':Nat),N<=N'->All2 Pm.Is (g.take i) done->done.length=i->junk.length=xs.length->OwnL N N' done->wI Q N a es c es.length es.length i (done++junk) es.length N') ?_ ?_
 ·simpa using key [] (List.replicate es.length (.ag [.t (bytes []),.j 0,.sl none 2 [] 0,.lit (.bool false)])) N (oA _) rfl rfl (by simp [hl]) uk
 ·intro i aa hi done junk N' ab hd J O ho
  have:junk=[]:=oM (by simpa using O)
  subst this
  rw [oY]
  refine sP _ _ _ _ _ _ _ _ _ _ _ ?_
  rw [oi (by omega)] at hd
  have al:es.length=done.length:=by omega
  repeat' first|with_reducible intro _|simp only[aa,Y1,Y2,Y3,Y4]|with_reducible refine X ?_ ?_|refine⟨_,_,_,rfl,?_⟩|refine⟨_,rfl,?_⟩|refine And.intro (by first|omega|trivial|(show _=_;rfl)|(with_reducible constructor)<;>first|omega|trivial|rfl) ?_|fail
  rename_i a' N3 ac hf N4 ae
  exact hQ _ _ _ _ (by omega) ⟨by omega,hd⟩ ((tX ho hf ac).mono (oA _) ae)
 ·intro i x xs I _ ah done junk N' ab hd J O ho
  have hb:=I.b
  cases junk with
  | nil=>simp at O
  | cons y junk=>
    subst J
    refine sP _ _ _ _ _ _ _ _ _ _ _ ?_
    repeat' first|with_reducible intro _|simp only[I.lt,I.w,oH,o6,oE,oK,Y1,Y2,Y3,Y4]|with_reducible refine X ?_ ?_|refine⟨_,_,_,rfl,?_⟩|refine⟨_,rfl,?_⟩|refine And.intro (by first|omega|trivial|(show _=_;rfl)|(with_reducible constructor)<;>first|omega|trivial|rfl) ?_|refine (zPq x _ I.r (hc x I.m)) _ _ ?_|fail
    all_goals first | (exfalso;omega) | skip
    rename_i N1 ai x' N2 aj hx ak _ _
    rw [zDQ]
    have:=ah (done++[x']) junk _ (by omega) (by rw [xn I.g];exact hd.snoc hx) (by simp) (by simpa using O) (zm (ho.mono (oA _) ai) (zo ak) (by omega) aj)
    simpa using this
theorem zPX (x:Pm) (d e:D) (hd:x.Is d) (J:x.Is e):vh 50 [.dg 4 d,.dg 4 e] true:=λN Q O=>by
 obtain ⟨t0,t1,rfl,hs,ht⟩:=hd
 obtain ⟨u0,u1,rfl,aa,I⟩:=J
 refine zGm N _ _ Q λ_ _=>?_
 repeat' first|with_reducible intro _|simp only[beq_self_eq_true,Y1,Y2,Y3,Y4]|with_reducible refine X ?_ ?_|refine⟨_,_,_,rfl,?_⟩|refine⟨_,rfl,?_⟩|refine And.intro (by first|omega|trivial|(show _=_;rfl)|(with_reducible constructor)<;>first|omega|trivial|rfl) ?_|refine (zCG _ _ _ ht I) _ _ ?_|fail
 all_goals first | exact absurd rfl (by assumption) | skip
 all_goals exact O _ (by omega)
theorem zOB {g:List Pm} {es fs:List D} (h:Pms g es) (h':Pms g fs) (a b:Option Addr) (c c':Nat):vh 13 [.sv a 4 es c,.sv b 4 fs c'] true:=λN Q hQ=>by
 have hl:=h.all.len
 have ab:=h'.all.len
 have key:=up h.all h.len (λi xs=>∀ (N':Nat),N<=N'->wN Q N a es c b fs c' i N') ?_ ?_
 ·refine zFM N _ _ _ _ _ _ Q λ_ _=>?_
  repeat' first|with_reducible intro _|simp only[Y1,Y2,Y3,Y4]|with_reducible refine X ?_ ?_|refine⟨_,_,_,rfl,?_⟩|refine⟨_,rfl,?_⟩|refine And.intro (by first|omega|trivial|(show _=_;rfl)|(with_reducible constructor)<;>first|omega|trivial|rfl) ?_|fail
  ·omega
  ·exact key N (oA _)
 ·intro i J hi N' O
  refine sO _ _ _ _ _ _ _ _ _ _ ?_
  repeat' first|with_reducible intro _|simp only[J,Y1,Y2,Y3,Y4]|with_reducible refine X ?_ ?_|refine⟨_,_,_,rfl,?_⟩|refine⟨_,rfl,?_⟩|refine And.intro (by first|omega|trivial|(show _=_;rfl)|(with_reducible constructor)<;>first|omega|trivial|rfl) ?_|fail
  exact hQ _ (by omega)
 ·intro i x xs I _ aa N' O
  have hb:=I.b
  refine sO _ _ _ _ _ _ _ _ _ _ ?_
  repeat' first|with_reducible intro _|simp only[I.lt,I.w,oH,Y1,Y2,Y3,Y4]|with_reducible refine X ?_ ?_|refine⟨_,_,_,rfl,?_⟩|refine⟨_,rfl,?_⟩|refine And.intro (by first|omega|trivial|(show _=_;rfl)|(with_reducible constructor)<;>first|omega|trivial|rfl) ?_|refine (zPX x _ _ I.r (h'.all.get I.g)) _ _ ?_|fail
  exact aa _ (by omega)
theorem zMM:∀ (l:List Pm) (rest:List D),All2 Pm.Is l rest->∀ (done es:List D),zB (done++rest)=zB es->(zB (done++rest)).Nodup->y6 rest->(done++rest).length<=4611686018427387904 ->
  ∀ (T:List Nat),(∀ b∈zB es,b∈T)->∀ (b0 N m c t:Nat) (k K:Int),0<=k->k+3*zC1 l<=K->K<=288230376151711744->∀ (q N1:Nat),N<=N1->m=(done++rest).length ->
  yi T b0 (λk' x N'=>N<=N'/\∃ es',x=.ag es'/\es'.length=m/\zB es'=zB es/\0<=k'/\k'<=K) N m c k done.length t (done++rest) q N1
 | [],rest,hr,done,es,hf,ae,ak,hlen,T,hT,b0,N,m,c,t,k,K,hk,hK,am,q,N1,ax,hm=>by
   cases hr
   rw [oY] at *
   simp only [zC1] at hK
   refine vn _ _ _ _ _ _ _ _ _ _ _ _ (Br.of (λhc=>?_) λ_=>⟨rfl,λN3 ay=>⟨by omega,done,rfl,hm.symm,hf,hk,by omega⟩⟩)
   have:=nP hc;omega
 | ⟨nm,ty,lv⟩::ts,rest,hr,done,es,hf,ae,ak,hlen,T,hT,b0,N,m,c,t,k,K,hk,hK,am,q,N1,ax,hm=>by
   obtain ⟨d,ds,rfl,az,a6⟩:=hr
   obtain ⟨t0,t1,rfl,hs,ht⟩:=az
   cases ty with
   | mk kk lt=>
   obtain ⟨O,I,cT,aa,al,ao⟩:=Ty.is_mk.1 ht
   injection aa with aa
   injection aa with e1 e2
   injection e2 with e2 _
   subst e1;subst e2
   simp only [zC1,Ty.cnt] at hK
   have ah:(done.length:Int)<(m:Int):=by rw [hm];simp;omega
   have J:∀ d:D,done.length<(done++d::ds).length:=λd=>by simp
   have ab:∀ (x y z:Value) (es':List D),zB es'=zB I->es'.length=I.length->(D.ag [.lit x,.lit y,.sl O 2 es' cT,.lit z]).foot=(D.ag [.t nm,.j kk,.sl O 2 I cT,.lit (.bool lv)]).foot:=λx y z es' h1 h2=>by
    have:=rK (a:=O) (z:=2) (c:=cT) h2 h1
    simp only [D.foot,zB] at this ⊢
    rw [this]
   have aq:(D.ag [.t nm,.j kk,.sl O 2 I cT,.lit (.bool lv)]).foot=(D.sl O 2 I cT).foot:=by simp only [D.foot,zB,oR,oY]
   have ai:(D.sl O 2 I cT).foot.Nodup:=by rw [<-aq];exact zJj (b:=[]) ae
   have aj:(D.sl O 2 I cT).Flat0:=ak.1.2.2.1
   have au:∀ b∈(D.sl O 2 I cT).foot,b∈T:=λb hb=>hT b (hf ▸ by rw [zD];exact oX _ (by simp only [zB];exact oV _ (aq ▸ hb)))
   refine vn _ _ _ _ _ _ _ _ _ _ _ _ (Br.of (λ_=>?_) λhc=>absurd ah (nl hc))
   intro N2 a8
   refine zNJ k hk (by omega) N2 _ λs N3 ay=>?_
   intro ba
   rw [i64_in (k+1) (by omega)]
   simp only [oH,o6,rD,zDQ,zIi,p40,p41]
   have B:∀ x:D,(0<=(done.length:Int)/\(done.length:Int)<(m:Int)/\done.length<(done++x::ds).length):=λx=>⟨by omega,ah,J x⟩
   refine ⟨B _,J _,B _,J _,B _,J _,O,I,cT,rfl,⟨ai,aj⟩,⟨au⟩,J _,by simp,rfl,⟨qc ae (ab _ _ _ I rfl rfl)⟩,⟨by simp⟩,λN4 bb=>?_⟩
   rw [i64_in (k+1+1) (by omega)]
   refine tF lt I (zEK ao) O cT ⟨ai,aj⟩ al (k+1+1) (by omega) (by omega) N4 _ λac N5 bc h1 h2 h3=>?_
   have bd:=wX lt (k+1+1)
   intro a7
   rw [i64_in ((ze lt (k+1+1)).2+1) (by omega),i64_in ((done.length:Int)+1) (by rw [hm] at ah;simp at ah hlen;omega)]
   simp only [oH,o6,rD,zDQ,zIi,p42,p43]
   refine ⟨by omega,B _,J _,?_⟩
   have aw:=ab (.string s) (.int .i64 (k+1)) (.bool (Int.tmod (ze lt (k+1+1)).2 3==0)) ac h2 h3
   have:=zMM ts ds a6 (done++[.ag [.t s,.j (k+1),.sl O 2 ac cT,.lit (.bool (Int.tmod (ze lt (k+1+1)).2 3==0))]]) es
    (by rw [o0,nq,zC4 aw];exact hf) (by rw [o0,nq];exact qc ae aw) ak.2 (by simpa using hlen) T hT b0 N m c t ((ze lt (k+1+1)).2+1) K
    (by omega) (by omega) am q N5 (by omega) (by rw [hm];simp)
   have e1:((done++[D.ag [.t s,.j (k+1),.sl O 2 ac cT,.lit (.bool (Int.tmod (ze lt (k+1+1)).2 3==0))]]).length:Int)=(done.length:Int)+1:=by simp
   rw [e1] at this
   simpa using this
theorem zJr {g:List Pm} {es:List D} (h:Pms g es) (a:Option Addr) (c:Nat) (ht:Tree (.sl a 4 es c)) (k:Int) (hk:0<=k) (aa:k+3*zC1 g<=288230376151711744) (N:Nat) (R:D->Int->Nat->Prop)
  (hR:∀ es' k' N',N<=N'->zB es'=zB es->es'.length=es.length->0<=k'->k'<=k+3*zC1 g->R (.sl a 4 es' c) k' N'):MC prog 14 (.sl a 4 es c) k N R:=by
 have hlen:=h.len
 by_cases J:es=[]
 ·subst J
  have hg:g=[]:=oM (by have:=h.all.len;simpa using this.symm)
  subst hg
  refine zOM (zC5 N a [] c k _ λ_=>zAg _ _ _ _ _ _ _ _ (Br.of (λhc=>?_) λ_ N2 ab=>?_))
  ·simp at hc
  ·exact hR [] k N2 ab rfl rfl hk (by simp [zC1])
 ·cases a with
  | none=>exact zMC (by kernel_rfl) J
  | some ad=>
    have I:(D.sl (some ad) 4 es c).foot=ad.block::zB es:=by simp [D.foot,J]
    have O:=ht.nd
    rw [I] at O
    refine zCa N ad es c k R (λk' x N'=>N<=N'/\∃ es',x=.ag es'/\es'.length=es.length/\zB es'=zB es/\0<=k'/\k'<=k+3*zC1 g) ht J (by unfold maxLen;omega) (λt=>?_) ?_
    ·have:=zMM g es h.all [] es rfl (nG.1 O).2 ht.fl.2 hlen (D.sl (some ad) 4 es c).foot (λb hb=>by rw [I];simp [hb]) ad.block N es.length c t k (k+3*zC1 g) hk (Int.le_refl _) aa es.length N (oA _) rfl
     simpa using this
    ·rintro k' x N' ⟨ac,es',rfl,h1,h2,h3,h4⟩
     exact ⟨es',rfl,h1,h2,hR es' k' N' ac h2 h1 h3 h4⟩
theorem yb (n a b:Int):vh 99 [.j n,.j a,.j b] (inB n a b):=λN Q I=>by
 refine zJJ N n a b Q ?_
 repeat' first|with_reducible intro _|simp only[Y1,Y2,Y3,Y4]|with_reducible refine X ?_ ?_|refine⟨_,_,_,rfl,?_⟩|refine⟨_,rfl,?_⟩|refine And.intro (by first|omega|trivial|(show _=_;rfl)|(with_reducible constructor)<;>first|omega|trivial|rfl) ?_|fail
 all_goals simpa [inB, *] using I _ (by omega)
def sU {α:Type} (p:α->Bool):List α->Int->Int
 | [],_ => -1
 | x::xs,i=>if p x then i else sU p xs (i+1)
theorem wL {α:Type} (p:α->Bool):∀ (l:List α) (i:Int),0<=i->decide (sU p l i≥0)=l.any p
 | [],i,h=>by simp [sU]
 | x::xs,i,h=>by
   have I:=wL p xs (i+1) (by omega)
   rw [nQ,nf] at I ⊢
   simp only [sU,mZ,mD]
   by_cases J:p x=true
   ·simp only [J,lJ,true_or,iff_true];exact h
   ·simpa [J] using I
/-- a row of words -/
def zA (l:List ByteArray):List D:=l.map λs=>.t s
theorem wC:∀ l:List ByteArray,All2 (λs d=>d=.t s) l (zA l)
 | []=>rfl
 | s::l=>⟨_,_,rfl,rfl,wC l⟩
theorem zF1 (l:List ByteArray) (hl:l.length<=4611686018427387904) (a:Option Addr) (c:Nat) (s:ByteArray):pp 158 [.sv a 0 (zA l) c,.str s] (sU (λx=>decide (s=x)) l 0):=λN Q hQ=>by
 have O:=wC l
 have hlen:(zA l).length<=4611686018427387904:=by rw [O.len];exact hl
 refine zAm N a _ c s Q λ_=>?_
 refine up O hlen (λi xs=>∀ (N':Nat),N<=N'->(∀ N'',N'<=N''->Q (sU (λx=>decide (s=x)) xs i) N'')->yx Q N a (zA l) c s ((zA l).length:Int) i N') ?_ ?_ N (oA _) hQ
 ·intro i ab _ N' aa I
  refine uF _ _ _ _ _ _ _ _ _ ?_
  repeat' first|with_reducible intro _|simp only[ab,Y1,Y2,Y3,Y4]|with_reducible refine X ?_ ?_|refine⟨_,_,_,rfl,?_⟩|refine⟨_,rfl,?_⟩|refine And.intro (by first|omega|trivial|(show _=_;rfl)|(with_reducible constructor)<;>first|omega|trivial|rfl) ?_|fail
  exact I _ (by omega)
 ·intro i x xs J _ ac N' aa I
  have hb:=J.b
  have hr:=J.r
  simp only [sU] at I
  refine uF _ _ _ _ _ _ _ _ _ ?_
  repeat' first|with_reducible intro _|simp only[J.lt,J.w,oH,hr,Y1,Y2,Y3,Y4]|with_reducible refine X ?_ ?_|refine⟨_,_,_,rfl,?_⟩|refine⟨_,rfl,?_⟩|refine And.intro (by first|omega|trivial|(show _=_;rfl)|(with_reducible constructor)<;>first|omega|trivial|rfl) ?_|fail
  ·rename_i h _ _;subst h;exact Qi (I _ (by omega)) (by simp)
  ·rename_i h;exact ac _ aa λN'' h2=>Qi (I _ h2) (by rw [if_neg (by simpa using h)];simp)
theorem xm (l:List ByteArray) (I:l.length<=4611686018427387904) (a:Option Addr) (c:Nat) (s:ByteArray):vh 117 [.sv a 0 (zA l) c,.str s] (l.any λx=>decide (s=x)):=λN Q J=>by
 refine qN N a _ c s Q λ_=>?_
 repeat' first|with_reducible intro _|simp only[Y1,Y2,Y3,Y4]|with_reducible refine X ?_ ?_|refine⟨_,_,_,rfl,?_⟩|refine⟨_,rfl,?_⟩|refine And.intro (by first|omega|trivial|(show _=_;rfl)|(with_reducible constructor)<;>first|omega|trivial|rfl) ?_|refine (zF1 l I a c s) _ _ ?_|fail
 exact Qb (J _ (by omega)) (wL _ l 0 (by omega)).symm
theorem uo (s:ByteArray) (hs:s.size<=4611686018427387904):vh 135 [.str s] (sZ s):=λN Q hQ=>by
 refine zIn N s Q ?_
 have key:=upN hs (λi=>∀ N',N<=N'->(∀ N'',N'<=N''->Q (t7 s i&&zHZ s) N'')->xT Q N s (s.size:Int) i N') ?_ ?_
 ·exact key N (oA _) hQ
 ·intro J N' O I
  have hc:=xm [bytes [105,102],bytes [108,101,116],bytes [108,105,102,116],bytes [114,101,99],bytes [114,117,110]] (by simp)
  simp only [zA,List.map] at hc
  refine qv _ _ _ _ _ _ ?_
  repeat' first|with_reducible intro _|simp only[J,Y1,Y2,Y3,Y4]|with_reducible refine X ?_ ?_|refine⟨_,_,_,rfl,?_⟩|refine⟨_,rfl,?_⟩|refine And.intro (by first|omega|trivial|(show _=_;rfl)|(with_reducible constructor)<;>first|omega|trivial|rfl) ?_|refine (yb _ _ _) _ _ ?_|refine (hc _ _ _) _ _ ?_|fail
  all_goals (refine Qb (I _ (by omega)) ?_;rw [zDD])
  ·simp only [zHZ,mZ,List.any_nil,Bool.or_false, *]
   cases decide (s=bytes [105,102])<;>cases decide (s=bytes [108,101,116])<;>cases decide (s=bytes [108,105,102,116])<;>cases decide (s=bytes [114,101,99])<;>cases decide (s=bytes [114,117,110])<;>rfl
  ·simp [zHZ, *]
 ·intro i hi J hw aa N' O I
  refine qv _ _ _ _ _ _ ?_
  rw [zBr hi] at I
  repeat' first|with_reducible intro _|simp only[J,hw,oH,Y1,Y2,Y3,Y4]|with_reducible refine X ?_ ?_|refine⟨_,_,_,rfl,?_⟩|refine⟨_,rfl,?_⟩|refine And.intro (by first|omega|trivial|(show _=_;rfl)|(with_reducible constructor)<;>first|omega|trivial|rfl) ?_|fail
  all_goals first
   | (refine Qb (I _ (by omega)) ?_;unfold zHW zDN;simp only [*];simp;done)
   | (refine aa _ (by omega) λN'' h=>Qb (I N'' (by omega)) ?_;unfold zHW zDN;simp only [*];simp;done)
theorem zCj:∀ (t:Ty) (d:D),t.Is d->t.cnt<=1073741824->pp 195 [.dg 2 d] t.cnt:=by
 refine Ty.ind λk l ih d hd hc N Q hQ=>?_
 obtain ⟨a,es,c,rfl,hlen,J⟩:=Ty.is_mk.1 hd
 simp only [Ty.cnt] at hc
 refine zCu N _ Q λ_=>⟨_,_,_,rfl,?_⟩
 refine up J hlen (λi xs=>∀ (m:Nat) (N':Nat),N<=N'->m+zI xs=1+zI l->xX Q N m a es c es.length i N') ?_ ?_ 1 N (oA _) rfl
 ·intro i O _ m N' aa hm
  refine u7 _ _ _ _ _ _ _ _ _ ?_
  simp only [zI] at hm
  repeat' first|with_reducible intro _|simp only[O,Y1,Y2,Y3,Y4]|with_reducible refine X ?_ ?_|refine⟨_,_,_,rfl,?_⟩|refine⟨_,rfl,?_⟩|refine And.intro (by first|omega|trivial|(show _=_;rfl)|(with_reducible constructor)<;>first|omega|trivial|rfl) ?_|fail
  exact Qi (hQ _ (by omega)) (by simp only [Ty.cnt];omega)
 ·intro i x xs I _ ab m N' aa hm
  have hb:=I.b
  have ac:=ww I.m
  simp only [zI] at hm
  refine u7 _ _ _ _ _ _ _ _ _ ?_
  repeat' first|with_reducible intro _|simp only[I.lt,I.w,oH,Y1,Y2,Y3,Y4]|with_reducible refine X ?_ ?_|refine⟨_,_,_,rfl,?_⟩|refine⟨_,rfl,?_⟩|refine And.intro (by first|omega|trivial|(show _=_;rfl)|(with_reducible constructor)<;>first|omega|trivial|rfl) ?_|refine (ih x I.m _ I.r (by omega)) _ _ ?_|fail
  rw [i64_in _ (by omega)]
  exact ab (m+x.cnt) _ (by omega) (by omega)
theorem zA3:∀ (t:Ty) (d:D),t.Is d->t.cnt<=1073741824->pp 196 [.dg 2 d] t.dep:=by
 refine Ty.ind λk l ih d hd hc N Q hQ=>?_
 obtain ⟨a,es,c,rfl,hlen,J⟩:=Ty.is_mk.1 hd
 simp only [Ty.cnt] at hc
 have ac:=pv l
 refine zBw N _ Q λ_=>⟨_,_,_,rfl,?_⟩
 refine up J hlen (λi xs=>∀ (m:Nat) (N':Nat),N<=N'->max m (sQ xs)=sQ l->xD Q N m a es c es.length i N') ?_ ?_ 0 N (oA _) (by omega)
 ·intro i O _ m N' aa hm
  refine ue _ _ _ _ _ _ _ _ _ ?_
  simp only [sQ] at hm
  repeat' first|with_reducible intro _|simp only[O,Y1,Y2,Y3,Y4]|with_reducible refine X ?_ ?_|refine⟨_,_,_,rfl,?_⟩|refine⟨_,rfl,?_⟩|refine And.intro (by first|omega|trivial|(show _=_;rfl)|(with_reducible constructor)<;>first|omega|trivial|rfl) ?_|fail
  rw [i64_in _ (by omega)]
  exact Qi (hQ _ (by omega)) (by simp only [Ty.dep];omega)
 ·intro i x xs I _ ab m N' aa hm
  have hb:=I.b
  have ae:=ww I.m
  simp only [sQ] at hm
  refine ue _ _ _ _ _ _ _ _ _ ?_
  repeat' first|with_reducible intro _|simp only[I.lt,I.w,oH,Y1,Y2,Y3,Y4]|with_reducible refine X ?_ ?_|refine⟨_,_,_,rfl,?_⟩|refine⟨_,rfl,?_⟩|refine And.intro (by first|omega|trivial|(show _=_;rfl)|(with_reducible constructor)<;>first|omega|trivial|rfl) ?_|refine (ih x I.m _ I.r (by omega)) _ _ ?_|fail
  have e:(if (x.dep:Int)>(m:Int) then (x.dep:Int) else (m:Int))=((max m x.dep:Nat):Int):=by split<;>omega
  rw [e]
  exact ab _ _ (by omega) (by omega)
theorem zEh (t:Ty) (d:D) (hd:t.Is d):vh 198 [.dg 2 d] (zAF t.k t.as.length):=λN Q J=>by
 cases t with
 | mk k l=>
 obtain ⟨a,es,c,rfl,hlen,O⟩:=Ty.is_mk.1 hd
 have hl:=O.len
 simp only [Ty.k,Ty.as] at J
 refine p8 N _ Q λ_=>?_
 cases I:inB k 1 4 with
 | false=>
   repeat' first|with_reducible intro _|simp only[I,Y1,Y2,Y3,Y4]|with_reducible refine X ?_ ?_|refine⟨_,_,_,rfl,?_⟩|refine⟨_,rfl,?_⟩|refine And.intro (by first|omega|trivial|(show _=_;rfl)|(with_reducible constructor)<;>first|omega|trivial|rfl) ?_|refine (yb _ _ _) _ _ ?_|fail
   refine Qb (J _ (by omega)) ?_
   have:¬(1<=k/\k<=4):=λh=>by rw [qY.2 h] at I;cases I
   unfold zAF
   rw [if_neg (by omega),if_neg (by omega),if_neg (by omega)]
 | true=>
   have hb:=qY.1 I
   have w0:IntKind.i64.wrap 0=0:=rfl
   have w1:IntKind.i64.wrap 1=1:=rfl
   have w2:IntKind.i64.wrap 2=2:=rfl
   have w3:IntKind.i64.wrap 3=3:=rfl
   have hk:k=1\/k=2\/k=3\/k=4:=by omega
   rcases hk with rfl | rfl | rfl | rfl
   all_goals
    repeat' first|with_reducible intro _|simp only[I,w0,w1,w2,w3,Y1,Y2,Y3,Y4]|with_reducible refine X ?_ ?_|refine⟨_,_,_,rfl,?_⟩|refine⟨_,rfl,?_⟩|refine And.intro (by first|omega|trivial|(show _=_;rfl)|(with_reducible constructor)<;>first|omega|trivial|rfl) ?_|refine (yb _ _ _) _ _ ?_|fail
    refine Qb (J _ (by omega)) ?_
    simp [zAF,hl]
theorem zFz:∀ l:List Ty,sF l=!(l.any λx=>!x.form)
 | []=>rfl
 | t::I=>by simp only [sF,mZ,zFz I];cases t.form<;>simp
theorem zEg {p:Ty->Bool} {l:List Ty} {es:List D} (h:All2 Ty.Is l es) (hlen:es.length<=4611686018427387904) (ad:Addr) (hp:∀ x∈l,∀ d,x.Is d->vh 218 [.dg 2 d,.pd ad 0 (.fn 198 [])] (p x)) (a:Option Addr) (c:Nat) :
  vh 217 [.sv a 2 es c,.fn 218 [.pd ad 0 (.fn 198 [])]] (l.any p):=λN Q O=>by
 have hi:pp 227 [.sv a 2 es c,.fn 218 [.pd ad 0 (.fn 198 [])]] (sU p l 0):=λN Q O=>by
  refine tU N a es c ad Q λ_=>?_
  refine up h hlen (λi xs=>∀ (N':Nat),N<=N'->(∀ N'',N'<=N''->Q (sU p xs i) N'')->yQ Q N a es c ad es.length i N') ?_ ?_ N (oA _) O
  ·intro i aa _ N' ab I
   refine we _ _ _ _ _ _ _ _ _ ?_
   repeat' first|with_reducible intro _|simp only[aa,Y1,Y2,Y3,Y4]|with_reducible refine X ?_ ?_|refine⟨_,_,_,rfl,?_⟩|refine⟨_,rfl,?_⟩|refine And.intro (by first|omega|trivial|(show _=_;rfl)|(with_reducible constructor)<;>first|omega|trivial|rfl) ?_|fail
   exact I _ (by omega)
  ·intro i x xs J _ ac N' ab I
   have hb:=J.b
   simp only [sU] at I
   refine we _ _ _ _ _ _ _ _ _ ?_
   repeat' first|with_reducible intro _|simp only[J.lt,J.w,oH,Y1,Y2,Y3,Y4]|with_reducible refine X ?_ ?_|refine⟨_,_,_,rfl,?_⟩|refine⟨_,rfl,?_⟩|refine And.intro (by first|omega|trivial|(show _=_;rfl)|(with_reducible constructor)<;>first|omega|trivial|rfl) ?_|refine (hp x J.m _ J.r) _ _ ?_|fail
   ·exact Qi (I _ (by omega)) (by rw [if_pos (by assumption)])
   ·rename_i h;exact ac _ (by omega) λN'' h2=>Qi (I _ (by omega)) (by rw [h];simp)
 refine uS N a es c ad Q λ_=>?_
 repeat' first|with_reducible intro _|simp only[Y1,Y2,Y3,Y4]|with_reducible refine X ?_ ?_|refine⟨_,_,_,rfl,?_⟩|refine⟨_,rfl,?_⟩|refine And.intro (by first|omega|trivial|(show _=_;rfl)|(with_reducible constructor)<;>first|omega|trivial|rfl) ?_|refine hi _ _ ?_|fail
 exact Qb (O _ (by omega)) (wL _ l 0 (by omega)).symm
theorem zNk:∀ (t:Ty) (d:D),t.Is d->vh 197 [.dg 2 d,.fn 198 []] t.form:=by
 refine Ty.ind λk l ih d hd N Q I=>?_
 have J:=hd
 obtain ⟨a,es,c,rfl,hlen,O⟩:=Ty.is_mk.1 hd
 refine zBS N _ Q λ_=>?_
 simp only [Ty.form,zFz] at I
 repeat' first|with_reducible intro _|simp only[Y1,Y2,Y3,Y4]|with_reducible refine X ?_ ?_|refine⟨_,_,_,rfl,?_⟩|refine⟨_,rfl,?_⟩|refine And.intro (by first|omega|trivial|(show _=_;rfl)|(with_reducible constructor)<;>first|omega|trivial|rfl) ?_|refine (zEh _ _ J) _ _ ?_|refine (zEg O hlen _ (λx hx d hd=>λN Q I=>p5 N d _ Q λ_ N1 aa=>ih x hx d hd N1 _ λN2 ab ac N3 ae=>I N3 (by omega)) _ _) _ _ ?_|fail
 ·have h:zAF (Ty.mk k l).k (Ty.mk k l).as.length=true:=by assumption
  exact Qb (I _ (by omega)) (by simp only [Ty.k,Ty.as] at h;rw [h,Bool.and_true])
 ·rename_i h _ _
  exact Qb (I _ (by omega)) (by simp only [Ty.k,Ty.as] at h;rw [h,mf])
theorem wA (t:Ty) (d:D) (hd:t.Is d) (hc:t.cnt<=1073741824):vh 173 [.dg 2 d] t.valid:=λN Q I=>by
 refine zBZ N _ Q λ_=>?_
 repeat' first|with_reducible intro _|simp only[Y1,Y2,Y3,Y4]|with_reducible refine X ?_ ?_|refine⟨_,_,_,rfl,?_⟩|refine⟨_,rfl,?_⟩|refine And.intro (by first|omega|trivial|(show _=_;rfl)|(with_reducible constructor)<;>first|omega|trivial|rfl) ?_|refine (zCj t d hd hc) _ _ ?_|refine (zA3 t d hd hc) _ _ ?_|refine (zNk t d hd) _ _ ?_|fail
 ·refine Qb (I _ (by omega)) ?_
  have J:t.cnt<=30:=by omega
  have O:t.dep<=8:=by omega
  simp [Ty.valid, *]
 ·refine Qb (I _ (by omega)) ?_
  have O:¬t.dep<=8:=by omega
  simp [Ty.valid, *]
 ·refine Qb (I _ (by omega)) ?_
  have J:¬t.cnt<=30:=by omega
  simp [Ty.valid, *]
theorem zZ:∀ (t u:Ty) (d e:D),t.Is d->u.Is e->vh 103 [.dg 2 d,.dg 2 e] (tO t u):=by
 refine Ty.ind λk l ih u d e hd he N Q hQ=>?_
 cases u with
 | mk k' O=>
 obtain ⟨a,es,c,rfl,hlen,ab⟩:=Ty.is_mk.1 hd
 obtain ⟨a',es',c',rfl,ae,aa⟩:=Ty.is_mk.1 he
 have hl:=ab.len
 have al:=aa.len
 simp only [tO] at hQ
 have hf:vh 143 [.sv a 2 es c,.sv a' 2 es' c',.fn 103 []] (uR l O):=λN Q hQ=>by
  have key:l.length=O.length->∀ (N':Nat),N<=N'->(∀ N'',N'<=N''->Q (uR l (O.drop 0)) N'')->zr Q N a' es' c' a es c es.length (0:Nat) N':=by
   intro am
   refine up ab hlen (λi xs=>∀ (N':Nat),N<=N'->(∀ N'',N'<=N''->Q (uR xs (O.drop i)) N'')->zr Q N a' es' c' a es c es.length i N') ?_ ?_
   ·intro i ah hi N' ai I
    refine wa _ _ _ _ _ _ _ _ _ _ _ ?_
    repeat' first|with_reducible intro _|simp only[ah,Y1,Y2,Y3,Y4]|with_reducible refine X ?_ ?_|refine⟨_,_,_,rfl,?_⟩|refine⟨_,rfl,?_⟩|refine And.intro (by first|omega|trivial|(show _=_;rfl)|(with_reducible constructor)<;>first|omega|trivial|rfl) ?_|fail
    refine Qb (I _ (by assumption)) ?_
    rw [mC (by omega)]
    rfl
   ·intro i x xs J _ aj N' ai I
    have hb:=J.b
    have ac:i<O.length:=by omega
    have hg:O[i]?=some O[i]:=oI ac
    have ak:O.drop i=O[i]::O.drop (i+1):=mF ac
    refine wa _ _ _ _ _ _ _ _ _ _ _ ?_
    rw [ak] at I
    repeat' first|with_reducible intro _|simp only[J.lt,J.w,oH,Y1,Y2,Y3,Y4]|with_reducible refine X ?_ ?_|refine⟨_,_,_,rfl,?_⟩|refine⟨_,rfl,?_⟩|refine And.intro (by first|omega|trivial|(show _=_;rfl)|(with_reducible constructor)<;>first|omega|trivial|rfl) ?_|refine (ih x J.m _ _ _ J.r (aa.get hg)) _ _ ?_|fail
    ·exact Qb (I _ (by omega)) (by simp [uR, *])
    ·exact aj _ (by omega) λN'' h=>Qb (I N'' (by omega)) (by simp [uR, *])
  refine tP N _ _ _ _ _ _ Q λ_ _=>?_
  repeat' first|with_reducible intro _|simp only[Y1,Y2,Y3,Y4]|with_reducible refine X ?_ ?_|refine⟨_,_,_,rfl,?_⟩|refine⟨_,rfl,?_⟩|refine And.intro (by first|omega|trivial|(show _=_;rfl)|(with_reducible constructor)<;>first|omega|trivial|rfl) ?_|fail
  ·exact Qb (hQ _ (by assumption)) (zA5 (by omega))
  ·exact key (by omega) N (oA _) hQ
 refine zDh N _ _ Q λ_ _=>?_
 repeat' first|with_reducible intro _|simp only[Y1,Y2,Y3,Y4]|with_reducible refine X ?_ ?_|refine⟨_,_,_,rfl,?_⟩|refine⟨_,rfl,?_⟩|refine And.intro (by first|omega|trivial|(show _=_;rfl)|(with_reducible constructor)<;>first|omega|trivial|rfl) ?_|refine hf _ _ ?_|fail
 ·exact Qb (hQ _ (by omega)) (by simp [*])
 ·exact Qb (hQ _ (by omega)) (by simp [*])
theorem rT (t:Ty) (d:D) (hd:t.Is d):vh 136 [.dg 2 d] t.base:=λN Q O=>by
 cases t with
 | mk k l=>
 obtain ⟨a,es,c,rfl,hlen,I⟩:=Ty.is_mk.1 hd
 have hl:=I.len
 have J:inB k 1 2=(k==1||k==2):=by
  rw [nQ,qY]
  simp
  omega
 refine zI3 N _ Q λ_=>?_
 repeat' first|with_reducible intro _|simp only[Y1,Y2,Y3,Y4]|with_reducible refine X ?_ ?_|refine⟨_,_,_,rfl,?_⟩|refine⟨_,rfl,?_⟩|refine And.intro (by first|omega|trivial|(show _=_;rfl)|(with_reducible constructor)<;>first|omega|trivial|rfl) ?_|refine (yb _ _ _) _ _ ?_|fail
 all_goals (rename_i h _ _;rw [J] at h;exact Qb (O _ (by omega)) (by simp only [Ty.base,Ty.k,Ty.as,h,hl];simp))
theorem zAa (s:ByteArray):pp 215 [.str s] (zPm s):=λN Q I=>by
 refine zGR N s Q ?_
 repeat' first|with_reducible intro _|simp only[Y1,Y2,Y3,Y4]|with_reducible refine X ?_ ?_|refine⟨_,_,_,rfl,?_⟩|refine⟨_,rfl,?_⟩|refine And.intro (by first|omega|trivial|(show _=_;rfl)|(with_reducible constructor)<;>first|omega|trivial|rfl) ?_|fail
 all_goals (refine Qi (I _ (by assumption)) ?_;unfold zPm;(repeat' split)<;>first | rfl | contradiction)
def arI (k:Int) (nm:ByteArray):Int:=
 if k=4 then zPm nm else if k=5 then 3 else if k=7\/k=8 then 2 else if k=6\/k=9\/k=10\/k=11\/k=12\/k=13 then 1 else 0
theorem zKR {k n:Int} {nm ot:ByteArray} {t0 t1 r0 r1 x:D}:pp 192 [.dg 9 (.ag [.j k,.t nm,.t ot,.j n,t0,t1,r0,r1,x])] (arI k nm):=λN Q I=>by
 refine zKQ N _ Q λ_=>?_
 repeat' first|with_reducible intro _|simp only[Y1,Y2,Y3,Y4]|with_reducible refine X ?_ ?_|refine⟨_,_,_,rfl,?_⟩|refine⟨_,rfl,?_⟩|refine And.intro (by first|omega|trivial|(show _=_;rfl)|(with_reducible constructor)<;>first|omega|trivial|rfl) ?_|refine (zAa _) _ _ ?_|fail
 all_goals (refine Qi (I _ (by omega)) ?_;simp [arI, *])
theorem zFK (n:Int):vh 216 [.j n] (inB n 0 10006):=λN Q I=>by
 refine zEv N n Q ?_
 repeat' first|with_reducible intro _|simp only[Y1,Y2,Y3,Y4]|with_reducible refine X ?_ ?_|refine⟨_,_,_,rfl,?_⟩|refine⟨_,rfl,?_⟩|refine And.intro (by first|omega|trivial|(show _=_;rfl)|(with_reducible constructor)<;>first|omega|trivial|rfl) ?_|refine (yb _ _ _) _ _ ?_|fail
 exact I _ (by omega)
def zGz (k:Int) (nm ot:ByteArray) (n:Int) (ty re:Ty):Bool:=
 if k=1\/k=8 then sZ nm else if k=2 then inB n 0 10006 else if k=3 then inB n 0 1 else if k=4 then decide (zPm nm>0)
 else if k=6 then sZ nm&&ty.valid else if k=9 then sZ nm&&(sZ ot&&(!decide (nm=ot)&&(ty.valid&&re.valid))) else inB k 1 13
theorem zGp {k n:Int} {nm ot:ByteArray} {ty re:Ty} {t0 t1 r0 r1 x:D} (h:Tm.Hd nm ot ty re t0 t1 r0 r1) (hc:ty.cnt<=1073741824) (I:re.cnt<=1073741824) :
  vh 193 [.dg 9 (.ag [.j k,.t nm,.t ot,.j n,t0,t1,r0,r1,x])] (zGz k nm ot n ty re):=λN Q J=>by
 refine zGf N _ Q λ_=>?_
 repeat' first|with_reducible intro _|simp only[Y1,Y2,Y3,Y4]|with_reducible refine X ?_ ?_|refine⟨_,_,_,rfl,?_⟩|refine⟨_,rfl,?_⟩|refine And.intro (by first|omega|trivial|(show _=_;rfl)|(with_reducible constructor)<;>first|omega|trivial|rfl) ?_|refine (zAa _) _ _ ?_|refine (uo _ h.nm) _ _ ?_|refine (uo _ h.ot) _ _ ?_|refine (zFK _) _ _ ?_|refine (yb _ _ _) _ _ ?_|refine (wA _ _ h.ty hc) _ _ ?_|refine (wA _ _ h.re I) _ _ ?_|fail
 all_goals (refine Qb (J _ (by omega)) ?_;simp [zGz, *])
theorem zKD (t:Ty):tO t t=true:=(rW t t).2 rfl
def zNl (k:Int) (nm ot:ByteArray) (n:Int) (ty re:Ty) (m:Int):Bool:=
 decide (m=arI k nm)&&(zGz k nm ot n ty re&&((decide (k=1\/k=8\/k=4\/k=6\/k=9)||decide (nm=bytes []))&&((decide (k=9)||decide (ot=bytes []))&&((decide (k=2\/k=3)||decide (n=0)) &&
  ((decide (k=6\/k=9)||tO ty tZero)&&(decide (k=9)||tO re tZero))))))
theorem zGO {k n:Int} {nm ot:ByteArray} {ty re:Ty} {t0 t1 r0 r1:D} {a:Option Addr} {es:List D} {c:Nat} (h:Tm.Hd nm ot ty re t0 t1 r0 r1) (hc:ty.cnt<=1073741824) (I:re.cnt<=1073741824) :
  vh 170 [.dg 9 (.ag [.j k,.t nm,.t ot,.j n,t0,t1,r0,r1,.sl a 9 es c])] (zNl k nm ot n ty re es.length):=λN Q J=>by
 refine zIj N _ Q λ_=>?_
 repeat' first|with_reducible intro _|simp only[Y1,Y2,Y3,Y4]|with_reducible refine X ?_ ?_|refine⟨_,_,_,rfl,?_⟩|refine⟨_,rfl,?_⟩|refine And.intro (by first|omega|trivial|(show _=_;rfl)|(with_reducible constructor)<;>first|omega|trivial|rfl) ?_|refine zKR _ _ ?_|refine (zGp h hc I) _ _ ?_|refine (zZ ty tZero _ _ h.ty xa) _ _ ?_|refine (zZ re tZero _ _ h.re xa) _ _ ?_|refine (zZ ty ty _ _ h.ty h.ty) _ _ ?_|refine (zZ re re _ _ h.re h.re) _ _ ?_|fail
 all_goals first | (exfalso;omega) | (refine Qb (J _ (by omega)) ?_;simp [zNl,zKD, *];done) | (refine Qb (J _ (by omega)) ?_;simp_all [zNl,zKD];done)
theorem zSQ (t:Ty):tO t tZero=t.zero:=by
 cases t with
 | mk k l => cases l<;>simp [tO,tZero,uR,Ty.zero,Ty.k,Ty.as]
             try omega
theorem zN5 {t:Ty} (h:t.zero=true):t.valid=false:=by
 cases t with
 | mk k l=>
   simp only [Ty.zero,Ty.k,Ty.as,oL,mP] at h
   simp [Ty.valid,Ty.form,zAF,h.1]
theorem zVA (n:Int):inB n 0 0=decide (n=0):=by
 rw [nQ,qY,nf];omega
theorem zp (t:Ty) (b:Bool):(!t.valid&&(t.zero&&b))=(t.zero&&b):=by
 cases h:t.zero with
 | false=>simp
 | true=>rw [zN5 h];simp
theorem zQ7 (k:Int) (nm ot:ByteArray) (n:Int) (ty re:Ty) (m:Int) (hm:0<=m):zNl k nm ot n ty re m=(xF k nm ot n ty re&&m==zLS k nm):=by
 by_cases hk:k=1\/k=2\/k=3\/k=4\/k=5\/k=6\/k=7\/k=8\/k=9\/k=10\/k=11\/k=12\/k=13
 ·rw [zUZ m]
  have b5:inB 5 1 13=true:=rfl
  have b7:inB 7 1 13=true:=rfl
  have I:inB 10 1 13=true:=rfl
  have J:inB 11 1 13=true:=rfl
  have O:inB 12 1 13=true:=rfl
  have aa:inB 13 1 13=true:=rfl
  rcases hk with rfl | rfl | rfl | rfl | rfl | rfl | rfl | rfl | rfl | rfl | rfl | rfl | rfl
  all_goals
   simp [zNl,arI,zGz,xF,zF6,zFp,zLS,zSQ,zVA,zp,b5,b7,I,J,O,aa]
   try (rw [nQ];simp [and_comm,and_left_comm,and_assoc])
 ·have h1:zLS k nm = -1:=by
   unfold zLS;rw [if_neg (by omega),if_neg (by omega),if_neg (by omega),if_neg (by omega),if_neg (by omega)]
  have h2:inB k 1 13=false:=by
   cases h:inB k 1 13 with
   | false=>rfl
   | true=>have:=qY.1 h;omega
  have h3:zGz k nm ot n ty re=false:=by
   unfold zGz;rw [if_neg (by omega),if_neg (by omega),if_neg (by omega),if_neg (by omega),if_neg (by omega),if_neg (by omega),h2]
  have h4:(m==zLS k nm)=false:=by rw [h1,zUZ];exact lF (by omega)
  rw [h4,zNl,h3]
  simp
theorem zRQ {k n:Int} {nm ot:ByteArray} {ty re:Ty} {t0 t1 r0 r1:D} {a:Option Addr} {es:List D} {c:Nat} (h:Tm.Hd nm ot ty re t0 t1 r0 r1) (hc:ty.cnt<=1073741824) (I:re.cnt<=1073741824) :
  vh 170 [.dg 9 (.ag [.j k,.t nm,.t ot,.j n,t0,t1,r0,r1,.sl a 9 es c])] (xF k nm ot n ty re&&(es.length:Int)==zLS k nm):=by
 rw [<-zQ7 _ _ _ _ _ _ _ (by omega)]
 exact zGO h hc I
theorem zJw:∀ l:List Tm,zDq l=!(l.any λx=>!x.ok)
 | []=>rfl
 | t::I=>by simp only [zDq,mZ,zJw I];cases t.ok<;>simp
theorem zEU {p:Tm->Bool} {l:List Tm} {es:List D} (h:All2 Tm.Is l es) (hlen:es.length<=4611686018427387904) (ad:Addr) (hp:∀ x∈l,∀ d,x.Is d->vh 134 [.dg 9 d,.pd ad 0 (.fn 170 [])] (p x)) (a:Option Addr) (c:Nat) :
  vh 62 [.sv a 9 es c,.fn 134 [.pd ad 0 (.fn 170 [])]] (l.any p):=λN Q O=>by
 have hi:pp 105 [.sv a 9 es c,.fn 134 [.pd ad 0 (.fn 170 [])]] (sU p l 0):=λN Q O=>by
  refine tW N a es c ad Q λ_=>?_
  refine up h hlen (λi xs=>∀ (N':Nat),N<=N'->(∀ N'',N'<=N''->Q (sU p xs i) N'')->yR Q N a es c ad es.length i N') ?_ ?_ N (oA _) O
  ·intro i aa _ N' ab I
   refine wb _ _ _ _ _ _ _ _ _ ?_
   repeat' first|with_reducible intro _|simp only[aa,Y1,Y2,Y3,Y4]|with_reducible refine X ?_ ?_|refine⟨_,_,_,rfl,?_⟩|refine⟨_,rfl,?_⟩|refine And.intro (by first|omega|trivial|(show _=_;rfl)|(with_reducible constructor)<;>first|omega|trivial|rfl) ?_|fail
   exact I _ (by omega)
  ·intro i x xs J _ ac N' ab I
   have hb:=J.b
   simp only [sU] at I
   refine wb _ _ _ _ _ _ _ _ _ ?_
   repeat' first|with_reducible intro _|simp only[J.lt,J.w,oH,Y1,Y2,Y3,Y4]|with_reducible refine X ?_ ?_|refine⟨_,_,_,rfl,?_⟩|refine⟨_,rfl,?_⟩|refine And.intro (by first|omega|trivial|(show _=_;rfl)|(with_reducible constructor)<;>first|omega|trivial|rfl) ?_|refine (hp x J.m _ J.r) _ _ ?_|fail
   ·exact Qi (I _ (by omega)) (by rw [if_pos (by assumption)])
   ·rename_i h;exact ac _ (by omega) λN'' h2=>Qi (I _ (by omega)) (by rw [h];simp)
 refine uQ N a es c ad Q λ_=>?_
 repeat' first|with_reducible intro _|simp only[Y1,Y2,Y3,Y4]|with_reducible refine X ?_ ?_|refine⟨_,_,_,rfl,?_⟩|refine⟨_,rfl,?_⟩|refine And.intro (by first|omega|trivial|(show _=_;rfl)|(with_reducible constructor)<;>first|omega|trivial|rfl) ?_|refine hi _ _ ?_|fail
 exact Qb (O _ (by omega)) (wL _ l 0 (by omega)).symm
theorem zNs:∀ (t:Tm) (d:D),t.Is d->t.cnt<=1073741824->vh 97 [.dg 9 d,.fn 170 []] t.ok:=by
 refine Tm.ind λk nm ot n ty re l ih d hd hc N Q I=>?_
 obtain ⟨t0,t1,r0,r1,a,es,c,rfl,hh,hlen,J⟩:=Tm.is_mk.1 hd
 have hl:=J.len
 simp only [Tm.cnt] at hc
 refine zBO N _ Q λ_=>?_
 simp only [Tm.ok,zJw,<-hl] at I
 repeat' first|with_reducible intro _|simp only[Y1,Y2,Y3,Y4]|with_reducible refine X ?_ ?_|refine⟨_,_,_,rfl,?_⟩|refine⟨_,rfl,?_⟩|refine And.intro (by first|omega|trivial|(show _=_;rfl)|(with_reducible constructor)<;>first|omega|trivial|rfl) ?_|refine (zRQ hh (by omega) (by omega)) _ _ ?_|refine (zEU J hlen _ (λx O d hd=>λN Q I=>p7 N d _ Q λ_ N1 aa=>ih x O d hd (by have:=zn O;omega) N1 _ λN2 ab ac N3 ae=>I N3 (by omega)) _ _) _ _ ?_|fail
 ·have h:(xF k nm ot n ty re&&(es.length:Int)==zLS k nm)=true:=by assumption
  exact Qb (I _ (by omega)) (by rw [h,Bool.and_true])
 ·have h:(xF k nm ot n ty re&&(es.length:Int)==zLS k nm)=false:=by assumption
  exact Qb (I _ (by omega)) (by rw [h,mf])
theorem zBD (t:Tm) (d:D) (hd:t.Is d) (hc:t.cnt<=1073741824):vh 138 [.dg 9 d] t.ok:=λN Q I=>by
 refine zJA N _ Q λ_=>?_
 repeat' first|with_reducible intro _|simp only[Y1,Y2,Y3,Y4]|with_reducible refine X ?_ ?_|refine⟨_,_,_,rfl,?_⟩|refine⟨_,rfl,?_⟩|refine And.intro (by first|omega|trivial|(show _=_;rfl)|(with_reducible constructor)<;>first|omega|trivial|rfl) ?_|refine (zNs t d hd hc) _ _ ?_|fail
 exact I _ (by omega)
theorem zLT {k n m:Int} {c1 I J O c6 c7 c8:D} (h:0<=m/\m<=2):pp 199 [.dg 9 (.ag [.j k,c1,I,.j n,J,O,c6,c7,c8]),.j m] (yX k m):=λN Q hQ=>by
 refine zDo N _ m Q λ_=>?_
 rw [i64_in (m+1) (by omega),i64_in (m - 1) (by omega)]
 repeat' first|with_reducible intro _|simp only[Y1,Y2,Y3,Y4]|with_reducible refine X ?_ ?_|refine⟨_,_,_,rfl,?_⟩|refine⟨_,rfl,?_⟩|refine And.intro (by first|omega|trivial|(show _=_;rfl)|(with_reducible constructor)<;>first|omega|trivial|rfl) ?_|fail
 all_goals (refine Qi (hQ _ (by omega)) ?_;simp [yX, *])
theorem zDR (d:D) (m:Int):vh 175 [.dg 9 d,.j m] (inB m 0 2):=λN Q I=>by
 refine zCX N _ m Q λ_=>?_
 repeat' first|with_reducible intro _|simp only[Y1,Y2,Y3,Y4]|with_reducible refine X ?_ ?_|refine⟨_,_,_,rfl,?_⟩|refine⟨_,rfl,?_⟩|refine And.intro (by first|omega|trivial|(show _=_;rfl)|(with_reducible constructor)<;>first|omega|trivial|rfl) ?_|refine (yb _ _ _) _ _ ?_|fail
 exact I _ (by omega)
theorem zRe:∀ (t:Tm) (d:D),t.Is d->∀ m:Int,vh 174 [.dg 9 d,.j m,.fn 175 []] (t.lev m):=by
 refine Tm.ind λk nm ot n ty re l ih d hd m N Q hQ=>?_
 obtain ⟨t0,t1,r0,r1,a,es,c,rfl,hh,hlen,aa⟩:=Tm.is_mk.1 hd
 have hl:=aa.len
 refine zDp N _ m Q λ_=>?_
 cases I:inB m 0 2 with
 | false=>
   repeat' first|with_reducible intro _|simp only[I,Y1,Y2,Y3,Y4]|with_reducible refine X ?_ ?_|refine⟨_,_,_,rfl,?_⟩|refine⟨_,rfl,?_⟩|refine And.intro (by first|omega|trivial|(show _=_;rfl)|(with_reducible constructor)<;>first|omega|trivial|rfl) ?_|refine (zDR _ _) _ _ ?_|fail
   exact Qb (hQ _ (by omega)) (by simp [Tm.lev,I])
 | true=>
   have hb:=qY.1 I
   have key:=up aa hlen (λi xs=>∀ (N':Nat),N<=N'->(∀ N'',N'<=N''->Q (zAN xs (yX k m)) N'')->vV Q N m a es c es.length i (.ag [.j k,.t nm,.t ot,.j n,t0,t1,r0,r1,.sl a 9 es c]) N') ?_ ?_
   ·repeat' first|with_reducible intro _|simp only[I,Y1,Y2,Y3,Y4]|with_reducible refine X ?_ ?_|refine⟨_,_,_,rfl,?_⟩|refine⟨_,rfl,?_⟩|refine And.intro (by first|omega|trivial|(show _=_;rfl)|(with_reducible constructor)<;>first|omega|trivial|rfl) ?_|refine (zDR _ _) _ _ ?_|fail
    exact key _ (by omega) λN'' h=>Qb (hQ N'' (by omega)) (by simp [Tm.lev,I])
   ·intro i ab _ N' ac O
    refine qg _ _ _ _ _ _ _ _ _ _ ?_
    repeat' first|with_reducible intro _|simp only[ab,Y1,Y2,Y3,Y4]|with_reducible refine X ?_ ?_|refine⟨_,_,_,rfl,?_⟩|refine⟨_,rfl,?_⟩|refine And.intro (by first|omega|trivial|(show _=_;rfl)|(with_reducible constructor)<;>first|omega|trivial|rfl) ?_|fail
    exact Qb (O _ (by omega)) (by simp [zAN])
   ·intro i x xs J _ ae N' ac O
    have ah:=J.b
    refine qg _ _ _ _ _ _ _ _ _ _ ?_
    repeat' first|with_reducible intro _|simp only[J.lt,J.w,oH,Y1,Y2,Y3,Y4]|with_reducible refine X ?_ ?_|refine⟨_,_,_,rfl,?_⟩|refine⟨_,rfl,?_⟩|refine And.intro (by first|omega|trivial|(show _=_;rfl)|(with_reducible constructor)<;>first|omega|trivial|rfl) ?_|refine (zLT hb) _ _ ?_|refine (ih x J.m _ J.r _) _ _ ?_|fail
    ·refine Qb (O _ (by omega)) ?_;simp [zAN, *]
    ·exact ae _ (by omega) λN'' h=>Qb (O N'' (by omega)) (by simp [zAN, *])
theorem pE (t:Tm) (d:D) (hd:t.Is d) (hc:t.cnt<=1073741824) (m:Int):vh 141 [.dg 9 d,.j m] (zL9 t m):=λN Q I=>by
 refine zFw N _ m Q λ_=>?_
 repeat' first|with_reducible intro _|simp only[Y1,Y2,Y3,Y4]|with_reducible refine X ?_ ?_|refine⟨_,_,_,rfl,?_⟩|refine⟨_,rfl,?_⟩|refine And.intro (by first|omega|trivial|(show _=_;rfl)|(with_reducible constructor)<;>first|omega|trivial|rfl) ?_|refine (zBD t d hd hc) _ _ ?_|refine (zRe t d hd m) _ _ ?_|fail
 all_goals (refine Qb (I _ (by omega)) ?_;simp [zL9, *])
theorem zPd (x:Tg) (d:D) (hd:x.Is d) (hc:x.ty.cnt<=1073741824):vh 172 [.dg 4 d] (!x.ok):=λN Q I=>by
 obtain ⟨t0,t1,rfl,hs,J⟩:=hd
 refine zGS N _ Q λ_=>?_
 repeat' first|with_reducible intro _|simp only[Y1,Y2,Y3,Y4]|with_reducible refine X ?_ ?_|refine⟨_,_,_,rfl,?_⟩|refine⟨_,rfl,?_⟩|refine And.intro (by first|omega|trivial|(show _=_;rfl)|(with_reducible constructor)<;>first|omega|trivial|rfl) ?_|refine (uo _ hs) _ _ ?_|refine (wA _ _ J hc) _ _ ?_|refine (yb _ _ _) _ _ ?_|fail
 all_goals (refine Qb (I _ (by omega)) ?_;simp [Tg.ok, *])
theorem zKq:∀ l:List Tg,zJh l=!(l.any λx=>!x.ok)
 | []=>rfl
 | t::I=>by simp only [zJh,mZ,zKq I];cases t.ok<;>simp
theorem pO {g:List Tg} {es:List D} (h:Ctx g es) (hc:∀ x∈g,x.ty.cnt<=1073741824) (a:Option Addr) (c:Nat):vh 140 [.sv a 4 es c] (zIK g):=fun N Q hQ=>by
 have hl:=h.all.len
 have hi:pp 194 [.sv a 4 es c,.fn 172 []] (sU (fun x=>!x.ok) g 0):=fun N Q hQ=>by
  refine uq N a es c Q fun _=>?_
  refine up h.all h.len (fun i xs=>∀ (N':Nat),N<=N'->(∀ N'',N'<=N''->Q (sU (fun x=>!x.ok) xs i) N'')->z8 Q N a es c es.length i N') ?_ ?_ N (oA _) hQ
  ·intro i hlt _ N' hN' hQ'
   refine wD _ _ _ _ _ _ _ _ ?_
   repeat' first|with_reducible intro _|simp only[hlt,Y1,Y2,Y3,Y4]|with_reducible refine X ?_ ?_|refine⟨_,_,_,rfl,?_⟩|refine⟨_,rfl,?_⟩|refine And.intro (by first|omega|trivial|(show _=_;rfl)|(with_reducible constructor)<;>first|omega|trivial|rfl) ?_|fail
   exact hQ' _ (by omega)
  ·intro i x xs hat _ ih2 N' hN' hQ'
   have hb:=hat.b
   simp only [sU] at hQ'
   refine wD _ _ _ _ _ _ _ _ ?_
   repeat' first|with_reducible intro _|simp only[hat.lt,hat.w,oH,Y1,Y2,Y3,Y4]|with_reducible refine X ?_ ?_|refine⟨_,_,_,rfl,?_⟩|refine⟨_,rfl,?_⟩|refine And.intro (by first|omega|trivial|(show _=_;rfl)|(with_reducible constructor)<;>first|omega|trivial|rfl) ?_|refine (zPd x _ hat.r (hc x hat.m)) _ _ ?_|fail
   all_goals first
    | exact Qi (hQ' _ (by omega)) (by rw [if_pos (by simp [*])])
    | exact ih2 _ (by omega) fun N'' h2=>Qi (hQ' _ (by omega)) (by rw [if_neg (by simp [*])];simp)
 have hcf:vh 171 [.sv a 4 es c,.fn 172 []] (g.any fun x=>!x.ok):=fun N Q hQ=>by
  refine vz N a es c Q fun _=>?_
  repeat' first|with_reducible intro _|simp only[Y1,Y2,Y3,Y4]|with_reducible refine X ?_ ?_|refine⟨_,_,_,rfl,?_⟩|refine⟨_,rfl,?_⟩|refine And.intro (by first|omega|trivial|(show _=_;rfl)|(with_reducible constructor)<;>first|omega|trivial|rfl) ?_|refine hi _ _ ?_|fail
  exact Qb (hQ _ (by omega)) (wL _ g 0 (by omega)).symm
 refine zK3 N a es c Q fun _=>?_
 repeat' first|with_reducible intro _|simp only[Y1,Y2,Y3,Y4]|with_reducible refine X ?_ ?_|refine⟨_,_,_,rfl,?_⟩|refine⟨_,rfl,?_⟩|refine And.intro (by first|omega|trivial|(show _=_;rfl)|(with_reducible constructor)<;>first|omega|trivial|rfl) ?_|refine hcf _ _ ?_|fail
 ·exact Qb (hQ _ (by omega)) (by have:(g.length:Int)<=12:=by omega
                                 simp [zIK,zKq,this])
 ·exact Qb (hQ _ (by omega)) (by have:¬(g.length:Int)<=12:=by omega
                                 simp [zIK,this])
theorem zC3 {g:List Tg} {es:List D} (h:Ctx g es) (a:Option Addr) (c:Nat) (s:ByteArray):pp 201 [.sv a 4 es c,.str s] (ym g s):=λN Q hQ=>by
 have hl:=h.all.len
 have h1:=h.len
 refine zEj N a es c s Q λ_=>?_
 have key:=zUr h.all h.len (λm=>∀ (N':Nat),N<=N'->(∀ N'',N'<=N''->Q (zAO g s (m+1).toNat) N'')->wK Q N a es c s m N') ?_ ?_
 ·rw [i64_in _ (by omega)]
  exact key N (oA _) λN' J=>Qi (hQ N' J) (by rw [ym,<-hl];congr 1;omega)
 ·intro N' J I
  refine sd _ _ _ _ _ _ _ _ ?_
  repeat' first|with_reducible intro _|simp only[Y1,Y2,Y3,Y4]|with_reducible refine X ?_ ?_|refine⟨_,_,_,rfl,?_⟩|refine⟨_,rfl,?_⟩|refine And.intro (by first|omega|trivial|(show _=_;rfl)|(with_reducible constructor)<;>first|omega|trivial|rfl) ?_|fail
  ·omega
  ·exact I _ (by assumption)
 ·intro i x O aa hw ih N' J I
  have hb:=O.b
  obtain ⟨t0,t1,hd,hs,ht⟩:=O.r
  have e1:((i:Int)+1).toNat=i+1:=by omega
  have e2:((i:Int) - 1+1).toNat=i:=by omega
  rw [e1] at I
  simp only [zAO,zI1 O.g] at I
  rw [e2] at ih
  refine sd _ _ _ _ _ _ _ _ ?_
  repeat' first|with_reducible intro _|simp only[aa,hw,oH,hd,Y1,Y2,Y3,Y4]|with_reducible refine X ?_ ?_|refine⟨_,_,_,rfl,?_⟩|refine⟨_,rfl,?_⟩|refine And.intro (by first|omega|trivial|(show _=_;rfl)|(with_reducible constructor)<;>first|omega|trivial|rfl) ?_|fail
  ·rename_i hx _ _;exact Qi (I _ (by omega)) (by rw [if_pos hx])
  ·rename_i hx;exact ih _ (by omega) λN'' h=>Qi (I N'' (by omega)) (by rw [if_neg hx])
theorem zIq:∀ (t:Ty) (d:D),t.Is d->t.cnt<=1073741824->zDC 127 [.dg 2 d] t:=by
 refine Ty.ind λk l ih d hd hc N Q hQ=>?_
 obtain ⟨a,es,c,rfl,hlen,aa⟩:=Ty.is_mk.1 hd
 have hl:=aa.len
 simp only [Ty.cnt] at hc
 have al:=rd l
 refine zFb N _ Q λ_=>⟨_,rfl,_,_,_,rfl,?_⟩
 have key:=up aa hlen (λi xs=>∀ (N':Nat),N<=N'->(i=0->vv Q N a es c es.length i 0 none [] 0 k none [] 0 N')/\∀ (m q:Nat) (r:List D),m=r.length->All2 Ty.Is (l.take i) r->OwnL N N' r ->
  xA Q N a es c es.length i 0 none [] 0 k m q r q N') ?_ ?_
 ·exact (key N (oA _)).1 rfl
 ·intro i ab hi N' ai
  refine ⟨λh0=>sn _ _ _ _ _ _ _ _ _ _ _ _ _ _ _ _ ?_,λm q r hm hr ho=>uf _ _ _ _ _ _ _ _ _ _ _ _ _ _ _ _ _ ?_⟩
  ·repeat' first|with_reducible intro _|simp only[ab,Y1,Y2,Y3,Y4]|with_reducible refine X ?_ ?_|refine⟨_,_,_,rfl,?_⟩|refine⟨_,rfl,?_⟩|refine And.intro (by first|omega|trivial|(show _=_;rfl)|(with_reducible constructor)<;>first|omega|trivial|rfl) ?_|fail
   have:l=[]:=oM (by omega)
   subst this
   exact hQ _ _ (by omega) (vL _) yc
  ·repeat' first|with_reducible intro _|simp only[ab,Y1,Y2,Y3,Y4]|with_reducible refine X ?_ ?_|refine⟨_,_,_,rfl,?_⟩|refine⟨_,rfl,?_⟩|refine And.intro (by first|omega|trivial|(show _=_;rfl)|(with_reducible constructor)<;>first|omega|trivial|rfl) ?_|fail
   rename_i a' N3 J hf N4 aj
   rw [oi (by omega)] at hr
   exact hQ _ _ (by omega) (Ty.is_mk.2 ⟨_,_,_,rfl,by have:=hr.len;omega,hr⟩) (sq (zR (zo ((tX ho hf (by omega)).mono (oA _) aj))))
 ·intro i x xs I _ ac N' ai
  have hb:=I.b
  have am:=ww I.m
  refine ⟨λh0=>sn _ _ _ _ _ _ _ _ _ _ _ _ _ _ _ _ ?_,λm q r hm hr ho=>uf _ _ _ _ _ _ _ _ _ _ _ _ _ _ _ _ _ ?_⟩
  ·repeat' first|with_reducible intro _|simp only[I.lt,I.w,oH,Y1,Y2,Y3,Y4]|with_reducible refine X ?_ ?_|refine⟨_,_,_,rfl,?_⟩|refine⟨_,rfl,?_⟩|refine And.intro (by first|omega|trivial|(show _=_;rfl)|(with_reducible constructor)<;>first|omega|trivial|rfl) ?_|refine (ih x I.m _ I.r (by omega)) _ _ ?_|fail
   rename_i N2 ae d' N3 J hx O ak ah
   subst h0
   exact ⟨by unfold zC;simp,λc2=>(ac _ (by omega)).2 _ _ _ rfl (by rw [xn I.g];exact ⟨_,_,rfl,hx,rfl⟩) (zo (O.mono (by omega) (oA _)))⟩
  ·repeat' first|with_reducible intro _|simp only[I.lt,I.w,oH,Y1,Y2,Y3,Y4]|with_reducible refine X ?_ ?_|refine⟨_,_,_,rfl,?_⟩|refine⟨_,rfl,?_⟩|refine And.intro (by first|omega|trivial|(show _=_;rfl)|(with_reducible constructor)<;>first|omega|trivial|rfl) ?_|refine (ih x I.m _ I.r (by omega)) _ _ ?_|fail
   rename_i N2 ae d' N3 J hx O ak ah
   have ao:=hr.len
   have aq:(l.take i).length=i:=by rw [o8];omega
   refine ⟨by unfold zC;simp only [oE,nu];omega,λc2=>?_⟩
   exact (ac _ (by omega)).2 _ _ _ rfl (by rw [xn I.g];exact hr.snoc hx) (zm (ho.mono (oA _) ae) (zo O) (by omega) J)
theorem zO9:zDC 202 [] tInt:=λN Q J=>zJf N Q λN' I=>J _ _ I (vL _) yc
theorem zIb:zDC 203 [] tBool:=λN Q J=>zHz N Q λN' I=>J _ _ I (vL _) yc
theorem zOL (t u:Ty) (d e:D) (hd:t.Is d) (he:u.Is e) (I:t.cnt<=1073741824) (J:u.cnt<=1073741824):zDC 206 [.dg 2 d,.dg 2 e] (tV t u):=λN Q hQ=>by
 refine zJc N _ _ Q λ_ _=>?_
 repeat' first|with_reducible intro _|simp only[Y1,Y2,Y3,Y4]|with_reducible refine X ?_ ?_|refine⟨_,_,_,rfl,?_⟩|refine⟨_,rfl,?_⟩|refine And.intro (by first|omega|trivial|(show _=_;rfl)|(with_reducible constructor)<;>first|omega|trivial|rfl) ?_|refine (zIq t d hd I) _ _ ?_|refine (zIq u e he J) _ _ ?_|fail
 rename_i N1 O d1 N2 ae h1 o1 ah b1 N3 aa d2 N4 ab h2 o2 ai b2 a' N5 aj hf N6 ac
 exact hQ _ _ (by omega) (Ty.is_mk.2 ⟨_,_,_,rfl,by simp,_,_,rfl,h1,_,_,rfl,h2,rfl⟩)
  (sq (zR (zo ((tX (zm ((zo o1).mono O aa) (zo o2) (by omega) ab) hf (by omega)).mono (oA _) ac))))
theorem zMb (t:Ty) (d:D) (hd:t.Is d) (I:t.cnt<=1073741824):zDC 220 [.dg 2 d] (zED t):=λN Q hQ=>by
 refine zIu N _ Q λ_=>?_
 repeat' first|with_reducible intro _|simp only[Y1,Y2,Y3,Y4]|with_reducible refine X ?_ ?_|refine⟨_,_,_,rfl,?_⟩|refine⟨_,rfl,?_⟩|refine And.intro (by first|omega|trivial|(show _=_;rfl)|(with_reducible constructor)<;>first|omega|trivial|rfl) ?_|refine (zIq t d hd I) _ _ ?_|fail
 rename_i N1 J d1 N2 aa h1 o1 ab b1 a' N5 ac hf N6 O
 exact hQ _ _ (by omega) (Ty.is_mk.2 ⟨_,_,_,rfl,by simp,_,_,rfl,h1,rfl⟩)
  (sq (zR (zo ((tX ((zo o1).mono J (oA _)) hf (by omega)).mono (oA _) O))))
/-- the part of a code type -/
def zDT (t:Ty):Ty:=if t.k=4 then t.as.getD 0 tZero else tZero
theorem zMO (t:Ty) (d:D) (hd:t.Is d) (hv:t.valid=true\/t=tZero):zDC 221 [.dg 2 d] (zDT t):=λN Q I=>by
 cases t with
 | mk k l=>
 obtain ⟨a,es,c,rfl,hlen,J⟩:=Ty.is_mk.1 hd
 refine zIf N _ Q λ_=>?_
 by_cases hk:k=4
 ·subst hk
  rcases hv with hv | hv
  ·have hf:=Ty.form_len hv
   have O:=Ty.valid_cnt hv
   have aa:(l.length:Int)=1:=by simpa [zAF] using hf
   obtain ⟨u,rfl⟩:=zDP (l:=l) (by omega)
   obtain ⟨x0,_,rfl,ab,rfl⟩:=J
   simp only [Ty.cnt,zI] at O
   have e:zDT (.mk 4 [u])=u:=rfl
   rw [e] at I
   repeat' first|with_reducible intro _|simp only[oK,oO,Y1,Y2,Y3,Y4]|with_reducible refine X ?_ ?_|refine⟨_,_,_,rfl,?_⟩|refine⟨_,rfl,?_⟩|refine And.intro (by first|omega|trivial|(show _=_;rfl)|(with_reducible constructor)<;>first|omega|trivial|rfl) ?_|refine (zIq u _ ab (by omega)) _ _ ?_|fail
   all_goals first | (exfalso;omega) | skip
   rename_i N1 ac d1 N2 ae h1 o1 aa b1 N3 ah
   exact I _ _ (by omega) h1 (o1.mono (by omega) (by omega))
  ·cases hv
 ·have e:zDT (.mk k l)=tZero:=by unfold zDT;exact if_neg hk
  rw [e] at I
  repeat' first|with_reducible intro _|simp only[Y1,Y2,Y3,Y4]|with_reducible refine X ?_ ?_|refine⟨_,_,_,rfl,?_⟩|refine⟨_,rfl,?_⟩|refine And.intro (by first|omega|trivial|(show _=_;rfl)|(with_reducible constructor)<;>first|omega|trivial|rfl) ?_|fail
  all_goals first | (exfalso;omega) | skip
  exact I _ _ (by omega) xa yc
def zCR (u:Ty):List Ty->Bool
 | []=>true
 | t::I=>tO t u&&zCR u I
def zAt (s:ByteArray):Ty:=if s=bytes [61] then tInt else if s=bytes [60] then tInt else if s=bytes [38] then tBool else if s=bytes [124] then tBool else if s=bytes [33] then tBool else tInt
def zDL (s:ByteArray):Ty:=if s=bytes [61] then tBool else if s=bytes [60] then tBool else if s=bytes [38] then tBool else if s=bytes [124] then tBool else if s=bytes [33] then tBool else tInt
theorem zRP {ts:List Ty} {es:List D} (h:All2 Ty.Is ts es) (hlen:es.length<=4611686018427387904) (a:Option Addr) (c:Nat) (s:ByteArray) :
  zDC 204 [.str s,.sv a 2 es c] (if zCR (zAt s) ts then zDL s else tZero):=λN Q O=>by
 have key:∀ (u v:Ty) (d e:D) (N0 N1:Nat),u.Is d->v.Is e->Own N N1 e->N<=N1->zAt s=u->zDL s=v->zj Q N a es c es.length (0:Nat) 0 none [] 0 d e N1:=by
  intro u v d e N0 N1 hd he ho ae hu hv
  subst hu hv
  refine up h hlen (λi xs=>∀ (N':Nat),N1<=N'->zCR (zAt s) xs=zCR (zAt s) ts->zj Q N a es c es.length i 0 none [] 0 d e N') ?_ ?_ N1 (oA _) rfl
  ·intro i aa _ N' ab hk
   refine qH _ _ _ _ _ _ _ _ _ _ _ _ _ _ ?_
   rw [<-hk] at O
   repeat' first|with_reducible intro _|simp only[aa,Y1,Y2,Y3,Y4]|with_reducible refine X ?_ ?_|refine⟨_,_,_,rfl,?_⟩|refine⟨_,rfl,?_⟩|refine And.intro (by first|omega|trivial|(show _=_;rfl)|(with_reducible constructor)<;>first|omega|trivial|rfl) ?_|fail
   exact O _ _ (by omega) he (ho.mono (oA _) (by omega))
  ·intro i x xs I _ ac N' ab hk
   have hb:=I.b
   refine qH _ _ _ _ _ _ _ _ _ _ _ _ _ _ ?_
   repeat' first|with_reducible intro _|simp only[I.lt,I.w,oH,Y1,Y2,Y3,Y4]|with_reducible refine X ?_ ?_|refine⟨_,_,_,rfl,?_⟩|refine⟨_,rfl,?_⟩|refine And.intro (by first|omega|trivial|(show _=_;rfl)|(with_reducible constructor)<;>first|omega|trivial|rfl) ?_|refine (zZ x _ _ _ I.r hd) _ _ ?_|fail
   ·rename_i J _ _
    rw [<-hk,zCR,J] at O
    exact O _ _ (by omega) xa yc
   ·rename_i J
    exact ac _ (by omega) (by rw [<-hk,zCR,J,mo])
 refine zH8 N s a es c Q λ_=>?_
 repeat' first|with_reducible intro _|simp only[Y1,Y2,Y3,Y4]|with_reducible refine X ?_ ?_|refine⟨_,_,_,rfl,?_⟩|refine⟨_,rfl,?_⟩|refine And.intro (by first|omega|trivial|(show _=_;rfl)|(with_reducible constructor)<;>first|omega|trivial|rfl) ?_|refine zO9 _ _ ?_|refine zIb _ _ ?_|fail
 all_goals first
  | exact key tInt tBool _ _ 0 _ (by assumption) (by assumption) (Own.mono (by assumption) (by omega) (by omega)) (by omega) (by unfold zAt;(repeat' split)<;>first | rfl | contradiction) (by unfold zDL;(repeat' split)<;>first | rfl | contradiction)
  | exact key tBool tBool _ _ 0 _ (by assumption) (by assumption) (Own.mono (by assumption) (by omega) (by omega)) (by omega) (by unfold zAt;(repeat' split)<;>first | rfl | contradiction) (by unfold zDL;(repeat' split)<;>first | rfl | contradiction)
  | exact key tInt tInt _ _ 0 _ (by assumption) (by assumption) (Own.mono (by assumption) (by omega) (by omega)) (by omega) (by unfold zAt;(repeat' split)<;>first | rfl | contradiction) (by unfold zDL;(repeat' split)<;>first | rfl | contradiction)
theorem zRm {f:FuncId} {rs:List Sh} {args:List PV} {N z c:Nat} {Q:QT rs} {es:List D} (hc:yD prog f=true) (O:PV.sv none z es c∈args) (I:es≠[]):ACalls prog f rs args N Q:=
 ⟨hc,λav w0 _ _ J=>by
  have h:=(J _ O).1.1
  cases h
  exact absurd rfl I⟩
theorem zSO {g:List Tg} {es:List D} (h:Ctx g es) (hg:g.length<=1073741824) (a:Option Addr) (c:Nat) (N:Nat) (Q:QT [.row 127 4]) (hQ:∀ c' N',N<=N'->Q es c' N'):ACalls prog 219 [.row 127 4] [.sv a 4 es c] N Q:=by
 have hl:=h.all.len
 have aa:zC [] es 56:=by unfold zC;simp only [oR];omega
 have I:(a=none->es=[])->ACalls prog 219 [.row 127 4] [.sv a 4 es c] N Q:=λhn=>by
  refine qq N a es c Q λ_=>?_
  repeat' first|with_reducible intro _|simp only[Y1,Y2,Y3,Y4]|with_reducible refine X ?_ ?_|refine⟨_,_,_,rfl,?_⟩|refine⟨_,rfl,?_⟩|refine And.intro (by first|omega|trivial|(show _=_;rfl)|(with_reducible constructor)<;>first|omega|trivial|rfl) ?_|fail
  ·rename_i hi N1 O
   have:es=[]:=hn (by simpa using hi)
   subst this
   exact hQ _ _ O
  ·simp only [oR]
   exact hQ _ _ (by omega)
 cases a with
 | some ad=>exact I (by simp)
 | none=>
   by_cases J:es=[]
   ·exact I λ_=>J
   ·exact zRm (z:=4) (c:=c) (es:=es) (by kernel_rfl) (by simp) J
theorem wy {a:Option Addr} {z c:Nat} {es:List D}:∀ x∈(D.sl a z es c).foot,x∈zB es\/∃ ad,a=some ad/\x=ad.block:=by
 intro x hx
 cases a with
 | none=>simp only [D.foot] at hx;exact .inl hx
 | some ad=>
   simp only [D.foot] at hx
   split at hx
   ·simp at hx
   ·rcases oJ.1 hx with rfl | hx
    ·exact .inr ⟨ad,rfl,rfl⟩
    ·exact .inl hx
theorem zEO {a:Option Addr} {z c:Nat} {es:List D}:∀ x∈zB es,x∈(D.sl a z es c).foot:=by
 intro x I
 cases a with
 | none=>simpa only [D.foot] using I
 | some ad=>
   simp only [D.foot]
   split
   ·rename_i h
    cases es with
    | nil=>simp [zB] at I
    | cons=>simp at h
   ·exact nj _ I
theorem zP5 {g h:List Tg} {es fs:List D} (I:Ctx g es) (O:Ctx h fs) (aa:g.length+h.length<=1073741824) (a b:Option Addr) (c e:Nat) (N:Nat) (Q:QT [.sl 4])
  (hQ:∀ J es' c' N',N<=N'->Ctx (g++h) es'->(∀ x∈(D.sl J 4 es' c').foot,x∈zB es\/x∈zB fs\/N<=x)->Q J es' c' N'):ACalls prog 205 [.sl 4] [.sv a 4 es c,.sv b 4 fs e] N Q:=by
 have hl:=I.all.len
 have ab:=O.all.len
 have hb:zC es fs 56:=by unfold zC;simp only [oE];omega
 refine zLg N a es c b fs e Q λ_ _=>?_
 repeat' first|with_reducible intro _|simp only[Y1,Y2,Y3,Y4]|with_reducible refine X ?_ ?_|refine⟨_,_,_,rfl,?_⟩|refine⟨_,rfl,?_⟩|refine And.intro (by first|omega|trivial|(show _=_;rfl)|(with_reducible constructor)<;>first|omega|trivial|rfl) ?_|refine (zSO I (by omega) _ _) _ _ ?_|fail
 rename_i J N3 ac hf N4 ae
 refine hQ _ _ _ _ (by omega) ⟨by simp;omega,I.all.app O.all⟩ λx hx=>?_
 rcases wy x hx with h1 | ⟨ad,rfl,rfl⟩
 ·rw [zD] at h1
  rcases oF.1 h1 with h1 | h1
  ·exact .inl h1
  ·exact .inr (.inl h1)
 ·have:=hf.lo ad rfl
  exact .inr (.inr (by omega))
theorem zOp {g:List Tg} {es:List D} (h:Ctx g es) (hg:g.length<=1073741824) (hc:∀ x∈g,x.ty.cnt<=1073741824) (a:Option Addr) (c:Nat) (n:Int) :
  ∀ (N:Nat) (Q:QT [.sl 4]),(∀ a' es' c' N',N<=N'->Ctx (sH g n) es'->Q a' es' c' N')->ACalls prog 222 [.sl 4] [.sv a 4 es c,.j n] N Q:=λN Q hQ=>by
 have hl:=h.all.len
 refine zGt N a es c n Q λ_=>?_
 have key:=up h.all h.len (λi xs=>∀ (r:List D) (m q:Nat) (N':Nat) (done:List Tg),N<=N'->m=r.length->All2 Tg.Is done r->done.length<=i->done++s8 g n xs i=sH g n->yV Q N a es c n m q a es c es.length i r q N') ?_ ?_
 ·exact key [] 0 0 N [] (oA _) rfl rfl (oA _) rfl
 ·intro i aa hi r m q N' done ab hm J ac hd
  refine qG _ _ _ _ _ _ _ _ _ _ _ _ _ _ _ _ ?_
  repeat' first|with_reducible intro _|simp only[aa,Y1,Y2,Y3,Y4]|with_reducible refine X ?_ ?_|refine⟨_,_,_,rfl,?_⟩|refine⟨_,rfl,?_⟩|refine And.intro (by first|omega|trivial|(show _=_;rfl)|(with_reducible constructor)<;>first|omega|trivial|rfl) ?_|fail
  refine hQ _ _ _ _ (by omega) ⟨by have:=J.len;omega,?_⟩
  simp only [s8,oY] at hd
  rwa [<-hd]
 ·intro i x xs I _ O r m q N' done ab hm J ac hd
  have hb:=I.b
  have ah:=J.len
  obtain ⟨t0,t1,he,hs,ht⟩:=I.r
  simp only [s8] at hd
  refine qG _ _ _ _ _ _ _ _ _ _ _ _ _ _ _ _ ?_
  repeat' first|with_reducible intro _|simp only[I.lt,I.w,oH,he,Y1,Y2,Y3,Y4]|with_reducible refine X ?_ ?_|refine⟨_,_,_,rfl,?_⟩|refine⟨_,rfl,?_⟩|refine And.intro (by first|omega|trivial|(show _=_;rfl)|(with_reducible constructor)<;>first|omega|trivial|rfl) ?_|refine (rT _ _ ht) _ _ ?_|refine (zC3 h a c _) _ _ ?_|refine (zIq _ _ ht (hc x I.m)) _ _ ?_|fail
  ·rename_i N2 ai x' N3 aj hx ho _ _
   have ae:zFA g n x i=true:=by simp [zFA, *]
   rw [if_pos ae] at hd
   refine ⟨by unfold zC;simp only [oE,nu];omega,λc2=>O _ _ _ _ (done++[x]) (by omega) rfl (J.snoc ⟨_,_,rfl,hs,Ty.is_cells hx⟩) (by simp;omega) (by simpa using hd)⟩
  all_goals (refine O _ _ _ _ done (by omega) hm J (by omega) ?_;rw [<-hd,if_neg (by simp [zFA, *])])
theorem rg {bs:List (Option Addr)} {N N':Nat} {d:D} (J:uW N bs) (O:Own N N' d):Off bs d:=λa ha ad I hm=>by
 have:=J a ha ad I
 have:=O.lo _ hm
 omega
theorem zI6 {a x b:Option Addr} {es fs O:List D} {c c' N:Nat} (h1:ApA a fs) (h2:Off [a] (.sl x 4 es c)) (h3:uW N [a]) (h4:∀ y∈(D.sl b 4 O c').foot,y∈zB es\/y∈zB fs\/N<=y):Off [a] (.sl b 4 O c'):=λa' J ad I hm=>by
 have e:=oZ.1 J
 subst e
 rcases h4 _ hm with h | h | h
 ·exact h2 a' J ad I (zEO _ h)
 ·obtain ⟨d,hd,hx⟩:=zF.1 h
  exact h1 ad I d hd hx
 ·have:=h3 a' J ad I
  omega
theorem Ty.valid_k {t:Ty} (h:t.valid=true):t.k=1/\t.as=[]\/t.k=2/\t.as=[]\/(t.k=3/\∃ a b,t.as=[a,b])\/(t.k=4/\∃ a,t.as=[a]):=by
 cases t with
 | mk k l=>
   have I:=Ty.form_len h
   simp only [Ty.k,Ty.as]
   unfold zAF at I
   split at I
   ·rename_i hk
    have J:l=[]:=by simpa using I
    rcases hk with hk | hk
    ·exact .inl ⟨hk,J⟩
    ·exact .inr (.inl ⟨hk,J⟩)
   ·split at I
    ·rename_i hk;exact .inr (.inr (.inl ⟨hk,zMm (by simp at I;omega)⟩))
    ·split at I
     ·rename_i hk;exact .inr (.inr (.inr ⟨hk,zDP (by simp at I;omega)⟩))
     ·cases I
theorem Ty.valid_nz {t:Ty} (h:t.valid=true):t.k≠0:=by
 rcases Ty.valid_k h with h | h | h | h<;>omega
theorem zOx {t:Ty} (h:t.valid=true):tO t tZero=false/\tO tZero t=false:=by
 have I:=Ty.valid_nz h
 cases t with
 | mk k l=>
   have I:k≠0:=I
   have J:0≠k:=λh=>I h.symm
   constructor<;>simp [tO,tZero,I,J]
theorem zPy {t:Ty} (h:t.valid=true):tO t tBool=decide (t.k=2):=by
 have I:=Ty.valid_k h
 cases t with
 | mk k l=>
   simp only [Ty.k,Ty.as] at I
   rw [nQ,rW,nf]
   simp only [tBool,Ty.k,Ty.mk.injEq]
   rcases I with ⟨I,J⟩ | ⟨I,J⟩ | ⟨I,_⟩ | ⟨I,_⟩<;>simp [I]
   exact J
theorem zTi {t:Ty} (h:t.valid=true):tO t tInt=decide (t.k=1):=by
 have I:=Ty.valid_k h
 cases t with
 | mk k l=>
   simp only [Ty.k,Ty.as] at I
   rw [nQ,rW,nf]
   simp only [tInt,Ty.k,Ty.mk.injEq]
   rcases I with ⟨I,J⟩ | ⟨I,J⟩ | ⟨I,_⟩ | ⟨I,_⟩<;>simp [I]
   exact J
/-- the type of a term, the zero type for none -/
def tyZ (e:Tm) (g:List Tg) (n:Int):Ty:=(e.type g n).getD tZero
theorem zL0 (e:Tm) (g:List Tg) (n:Int):(tyZ e g n).cnt<=30:=zJK e g n
theorem sk (e:Tm) (g:List Tg) (n:Int):(e.type g n=none/\tyZ e g n=tZero)\/(e.type g n=some (tyZ e g n)/\(tyZ e g n).valid=true):=by
 cases h:e.type g n with
 | none=>exact .inl ⟨rfl,by simp [tyZ,h]⟩
 | some t=>exact .inr ⟨by simp [tyZ,h],by simpa [tyZ,h] using Tm.type_valid h⟩
def IHi (l:List Tm):Prop:=∀ x∈l,∀ d,x.Is d->∀ g es a c n,Pre g x n->Ctx g es->zDC 142 [.sv a 4 es c,.dg 9 d,.j n] (tyZ x g n)
theorem zEs {k:Int} {nm ot:ByteArray} {m n:Int} {ty re:Ty} {l:List Tm} {t0 t1 r0 r1:D} {I:List D} {a1 a:Option Addr} {c1 c:Nat} {g:List Tg} {es:List D} (hk:yX k n=n) (ih:IHi l) (h0:All2 Tm.Is l I) (aa:I.length<=4611686018427387904)
  (pre:Pre g (.mk k nm ot m ty re l) n) (J:Ctx g es) (i:Nat) {x:Tm} (O:l[i]?=some x) (b1 b2 b3:Addr) :
  zDC 200 [.j i,.pd b1 0 (.sl a 4 es c),.pd b2 9 (.ag [.j k,.t nm,.t ot,.j m,t0,t1,r0,r1,.sl a1 9 I c1]),.pd b3 0 (.j n)] (tyZ x g n):=λN Q hQ=>by
 have ab:=(oC.1 O).1
 have ac:=h0.len
 have hm:=oD O
 have hp:=pre.sub hm (g':=g) (by omega) pre.ty
 rw [hk] at hp
 refine zAB N i b1 _ b2 _ b3 _ Q ?_
 refine ⟨_,_,_,rfl,_,_,_,rfl,⟨by omega,by omega⟩,_,rfl,?_⟩
 repeat' first|with_reducible intro _|simp only[oH,Y1,Y2,Y3,Y4]|with_reducible refine X ?_ ?_|refine⟨_,_,_,rfl,?_⟩|refine⟨_,rfl,?_⟩|refine And.intro (by first|omega|trivial|(show _=_;rfl)|(with_reducible constructor)<;>first|omega|trivial|rfl) ?_|refine (ih x hm _ (h0.get O) g _ _ _ n hp J) _ _ ?_|fail
 exact hQ _ _ (by omega) (by assumption) (Own.mono (by assumption) (by omega) (by omega))
theorem zU7 {e0 e1 I:Tm} {g:List Tg} {n:Int} {s:ByteArray}:((match ya [e0,e1,I] g n with | some ts=>wW 5 s ts | none=>none):Option Ty).getD tZero =
  if tO (tyZ e0 g n) tBool&&tO (tyZ e1 g n) (tyZ I g n) then tyZ e1 g n else tZero:=by
 rcases sk e0 g n with ⟨J,z0⟩ | ⟨J,v0⟩
 ·simp only [ya,J,z0];rfl
 ·rcases sk e1 g n with ⟨O,z1⟩ | ⟨O,v1⟩
  ·simp only [ya,J,O,z1];split<;>rfl
  ·rcases sk I g n with ⟨h2,z2⟩ | ⟨h2,v2⟩
   ·simp only [ya,J,O,h2,z2,(zOx v1).1,mf];rfl
   ·simp only [ya,J,O,h2]
    rw [zPy v0]
    show (wW 5 s [tyZ e0 g n,tyZ e1 g n,tyZ I g n]).getD tZero=_
    unfold wW
    rw [if_neg (by omega),if_pos rfl]
    simp only [List.getD_cons_zero,List.getD_cons_succ]
    by_cases hc:(tyZ e0 g n).k=2/\tO (tyZ e1 g n) (tyZ I g n)=true
    ·rw [if_pos hc,if_pos (by simp [hc.1,hc.2])];rfl
    ·rw [if_neg hc,if_neg (by simpa using hc)];rfl
theorem zUL {e0 e1:Tm} {g:List Tg} {n:Int} {s:ByteArray}:((match ya [e0,e1] g n with | some ts=>wW 7 s ts | none=>none):Option Ty).getD tZero =
  if (tyZ e0 g n).k=3/\tO ((tyZ e0 g n).as.getD 0 tZero) (tyZ e1 g n) then (tyZ e0 g n).as.getD 1 tZero else tZero:=by
 rcases sk e0 g n with ⟨J,z0⟩ | ⟨J,v0⟩
 ·simp only [ya,J,z0];rfl
 ·rcases sk e1 g n with ⟨O,z1⟩ | ⟨O,v1⟩
  ·simp only [ya,J,O,z1]
   rw [if_neg]
   ·rfl
   ·rintro ⟨hk,he⟩
    rcases Ty.valid_k v0 with h | h | ⟨_,a,b,I⟩ | h
    ·omega
    ·omega
    ·rw [I,rW] at he
     simp only [List.getD_cons_zero] at he
     subst he
     have:(tyZ e0 g n).form=true:=by simp only [Ty.valid,oL] at v0;exact v0.2
     cases hz:tyZ e0 g n with
     | mk k l=>
       rw [hz] at I this
       simp only [Ty.as] at I
       subst I
       simp [Ty.form,sF,zAF,tZero] at this
    ·omega
  ·simp only [ya,J,O]
   show (wW 7 s [tyZ e0 g n,tyZ e1 g n]).getD tZero=_
   unfold wW
   rw [if_neg (by omega),if_neg (by omega)]
   simp only [List.getD_cons_zero,List.getD_cons_succ]
   split<;>rfl
theorem zU0 {l:List Tm} {g:List Tg} {n:Int} {s:ByteArray} (hs:0<zPm s):((match ya l g n with | some I=>wW 4 s I | none=>none):Option Ty).getD tZero =
  if zCR (zAt s) (l.map λe=>tyZ e g n) then zDL s else tZero:=by
 have h2:zDL s=zE6 s/\(zAt s=tInt/\zJ8 s=1\/zAt s=tBool/\zJ8 s=2):=by
  unfold zPm at hs
  (repeat' split at hs)<;>first | omega | (subst_vars;exact ⟨rfl,.inl ⟨rfl,rfl⟩⟩) | (subst_vars;exact ⟨rfl,.inr ⟨rfl,rfl⟩⟩) | skip
 obtain ⟨h3,J⟩:=h2
 have key:∀ l:List Tm,(∀ I,ya l g n=some I->zCR (zAt s) (l.map λe=>tyZ e g n)=zRO (zJ8 s) I)/\(ya l g n=none->zCR (zAt s) (l.map λe=>tyZ e g n)=false):=by
  intro l
  induction l with
  | nil=>exact ⟨λI h=>by simp [ya] at h;subst h;rfl,λh=>by simp [ya] at h⟩
  | cons e l ih=>
    rcases sk e g n with ⟨h0,z0⟩ | ⟨h0,v0⟩
    ·have:tO tZero (zAt s)=false:=by rcases J with ⟨J,_⟩ | ⟨J,_⟩<;>rw [J]<;>rfl
     refine ⟨λI h=>by simp [ya,h0] at h,λ_=>by simp [zCR,z0,this]⟩
    ·have hk:tO (tyZ e g n) (zAt s)=decide ((tyZ e g n).k=zJ8 s):=by
      rcases J with ⟨J,h5⟩ | ⟨J,h5⟩<;>rw [J,h5]
      ·exact zTi v0
      ·exact zPy v0
     cases O:ya l g n with
     | none=>exact ⟨λI h=>by simp [ya,h0,O] at h,λ_=>by simp [zCR,ih.2 O]⟩
     | some us=>
       refine ⟨λI h=>?_,λh=>by simp [ya,h0,O] at h⟩
       simp only [ya,h0,O,o4] at h
       subst h
       simp only [om,zCR,zRO,hk,ih.1 us O]
 cases O:ya l g n with
 | none=>rw [(key l).2 O];rfl
 | some I=>
   rw [(key l).1 I O,h3]
   show (wW 4 s I).getD tZero=_
   unfold wW zS0
   rw [if_pos rfl]
   split<;>rfl
/-- a node's cells -/
abbrev zGK (k:Int) (nm ot:ByteArray) (m:Int) (t0 t1 r0 r1:D) (a:Option Addr) (es:List D) (c:Nat):D:=.ag [.j k,.t nm,.t ot,.j m,t0,t1,r0,r1,.sl a 9 es c]
theorem f5 {nm ot:ByteArray} {m n:Int} {ty re:Ty} {l:List Tm} {t0 t1 r0 r1:D} {es1:List D} {a1 a:Option Addr} {c1 c:Nat} {g:List Tg} {es:List D} (ih:IHi l) (hh:Tm.Hd nm ot ty re t0 t1 r0 r1) (h0:All2 Tm.Is l es1) (hl1:es1.length<=4611686018427387904)
  (pre:Pre g (.mk 5 nm ot m ty re l) n) (ctx:Ctx g es) :
  zDC 176 [.sv a 4 es c,.dg 9 (zGK 5 nm ot m t0 t1 r0 r1 a1 es1 c1),.j n] ((Tm.raw (.mk 5 nm ot m ty re l) g n).getD tZero):=fun N Q hQ=>by
 have hl : l.length = 3 := by have:(l.length:Int)=3:=(xp pre.ok).ar
                              omega
 obtain ⟨e0,e1,e2,rfl⟩:∃ a b c,l=[a,b,c]:=by
  match l,hl with
  | [a,b,c],_=>exact ⟨a,b,c,rfl⟩
 have hraw:(Tm.raw (.mk 5 nm ot m ty re [e0,e1,e2]) g n).getD tZero=if tO (tyZ e0 g n) tBool&&tO (tyZ e1 g n) (tyZ e2 g n) then tyZ e1 g n else tZero:=by
  rw [<-zU7 (s:=nm)]
  simp only [Tm.raw]
  rfl
 rw [hraw] at hQ
 have hn:yX 5 n=n:=by simp [yX]
 refine zt N a es c _ n Q fun _ _=>⟨_,rfl,?_⟩
 repeat' first|with_reducible intro _|simp only[Y1,Y2,Y3,Y4]|with_reducible refine X ?_ ?_|refine⟨_,_,_,rfl,?_⟩|refine⟨_,rfl,?_⟩|refine And.intro (by first|omega|trivial|(show _=_;rfl)|(with_reducible constructor)<;>first|omega|trivial|rfl) ?_|refine (zEs hn ih h0 hl1 pre ctx 1 rfl _ _ _) _ _ ?_|refine (zEs hn ih h0 hl1 pre ctx 2 rfl _ _ _) _ _ ?_|refine (zEs hn ih h0 hl1 pre ctx 0 rfl _ _ _) _ _ ?_|refine zIb _ _ ?_|refine (zZ (tyZ e0 g n) tBool _ _ (by assumption) (by assumption)) _ _ ?_|refine (zZ (tyZ e1 g n) (tyZ e2 g n) _ _ (by assumption) (by assumption)) _ _ ?_|(((with_reducible refine And.intro ?_ ?_);· exact rg (by assumption) (by assumption)))|fail
 all_goals first | (exfalso;omega) | skip
 all_goals first
  | exact hQ _ _ (by omega) (by rw [if_pos (by simp [*])];assumption) (Own.mono (by assumption) (by omega) (by omega))
  | exact hQ _ _ (by omega) (by rw [if_neg (by simp [*])];exact xa) yc
/-- the type of a call -/
def zPH (z0 I:Ty):Ty:=if z0.k=3/\tO (z0.as.getD 0 tZero) I then z0.as.getD 1 tZero else tZero
theorem f7 {nm ot:ByteArray} {m n:Int} {ty re:Ty} {l:List Tm} {t0 t1 r0 r1:D} {es1:List D} {a1 a:Option Addr} {c1 c:Nat} {g:List Tg} {es:List D} (ih:IHi l) (hh:Tm.Hd nm ot ty re t0 t1 r0 r1) (h0:All2 Tm.Is l es1) (hl1:es1.length<=4611686018427387904)
  (pre:Pre g (.mk 7 nm ot m ty re l) n) (ctx:Ctx g es) :
  zDC 176 [.sv a 4 es c,.dg 9 (zGK 7 nm ot m t0 t1 r0 r1 a1 es1 c1),.j n] ((Tm.raw (.mk 7 nm ot m ty re l) g n).getD tZero):=fun N Q hQ=>by
 have hl : l.length = 2 := by have:(l.length:Int)=2:=(xp pre.ok).ar
                              omega
 obtain ⟨e0,e1,rfl⟩:=zMm hl
 have hraw:(Tm.raw (.mk 7 nm ot m ty re [e0,e1]) g n).getD tZero=zPH (tyZ e0 g n) (tyZ e1 g n):=by
  unfold zPH
  rw [<-zUL (s:=nm)]
  simp only [Tm.raw]
  rfl
 rw [hraw] at hQ
 have hn:yX 7 n=n:=by simp [yX]
 refine zt N a es c _ n Q fun _ _=>⟨_,rfl,?_⟩
 repeat' first|with_reducible intro _|simp only[Y1,Y2,Y3,Y4]|with_reducible refine X ?_ ?_|refine⟨_,_,_,rfl,?_⟩|refine⟨_,rfl,?_⟩|refine And.intro (by first|omega|trivial|(show _=_;rfl)|(with_reducible constructor)<;>first|omega|trivial|rfl) ?_|refine (zEs hn ih h0 hl1 pre ctx 0 rfl _ _ _) _ _ ?_|refine (zEs hn ih h0 hl1 pre ctx 1 rfl _ _ _) _ _ ?_|(((with_reducible refine And.intro ?_ ?_);· exact rg (by assumption) (by assumption)))|fail
 all_goals first | (exfalso;omega) | skip
 rename_i hd0 ho0 _ _ _ _ _ _ _ _ _ _ _ _ _ _ hd1 ho1 _ _
 have hv:=sk e0 g n
 generalize tyZ e0 g n=z0 at *
 cases z0 with
 | mk k0 l0=>
 obtain ⟨a2,es2,c2,rfl,hl2,he2⟩:=Ty.is_mk.1 hd0
 by_cases hk:k0=3
 ·subst hk
  have hv:(Ty.mk 3 l0).valid=true:=by
   rcases hv with ⟨_,hv⟩ | ⟨_,hv⟩
   ·cases hv
   ·exact hv
  have hcn:=Ty.valid_cnt hv
  rcases Ty.valid_k hv with ⟨hk,_⟩ | ⟨hk,_⟩ | ⟨_,u,v,huv⟩ | ⟨hk,_⟩
  ·cases hk
  ·cases hk
  ·simp only [Ty.as] at huv
   subst huv
   obtain ⟨x0,_,rfl,hx0,x1,_,rfl,hx1,rfl⟩:=he2
   simp only [Ty.cnt,zI] at hcn
   have q1:tO u (tyZ e1 g n)=true->zPH (.mk 3 [u,v]) (tyZ e1 g n)=v:=fun h=>if_pos ⟨rfl,h⟩
   have q2:tO u (tyZ e1 g n)=false->zPH (.mk 3 [u,v]) (tyZ e1 g n)=tZero:=fun h=>if_neg fun hc=>by rw [show (Ty.mk 3 [u,v]).as.getD 0 tZero=u from rfl,h] at hc;cases hc.2
   repeat' first|with_reducible intro _|simp only[oK,oO,Y1,Y2,Y3,Y4]|with_reducible refine X ?_ ?_|refine⟨_,_,_,rfl,?_⟩|refine⟨_,rfl,?_⟩|refine And.intro (by first|omega|trivial|(show _=_;rfl)|(with_reducible constructor)<;>first|omega|trivial|rfl) ?_|refine (zZ u (tyZ e1 g n) _ _ hx0 hd1) _ _ ?_|refine (zIq v _ hx1 (by omega)) _ _ ?_|fail
   all_goals first | (exfalso;omega) | skip
   all_goals first
    | exact hQ _ _ (by omega) (by rw [q1 (by assumption)];assumption) (Own.mono (by assumption) (by omega) (by omega))
    | exact hQ _ _ (by omega) (by rw [q2 (by assumption)];exact xa) yc
  ·cases hk
 ·repeat' first|with_reducible intro _|simp only[Y1,Y2,Y3,Y4]|with_reducible refine X ?_ ?_|refine⟨_,_,_,rfl,?_⟩|refine⟨_,rfl,?_⟩|refine And.intro (by first|omega|trivial|(show _=_;rfl)|(with_reducible constructor)<;>first|omega|trivial|rfl) ?_|fail
  all_goals first | (exfalso;omega) | skip
  exact hQ _ _ (by omega) (by rw [show zPH (.mk k0 l0) (tyZ e1 g n)=tZero from if_neg fun h=>hk h.1];exact xa) yc
/-- the type of a function of this parameter -/
def zQq (t z:Ty):Ty:=if z.k=0 then tZero else tV t z
theorem f6 {nm ot:ByteArray} {m n:Int} {ty re:Ty} {l:List Tm} {t0 t1 r0 r1:D} {es1:List D} {a1 a:Option Addr} {c1 c:Nat} {g:List Tg} {es:List D} (ih:IHi l) (hh:Tm.Hd nm ot ty re t0 t1 r0 r1) (h0:All2 Tm.Is l es1) (hl1:es1.length<=4611686018427387904)
  (pre:Pre g (.mk 6 nm ot m ty re l) n) (ctx:Ctx g es) :
  zDC 176 [.sv a 4 es c,.dg 9 (zGK 6 nm ot m t0 t1 r0 r1 a1 es1 c1),.j n] ((Tm.raw (.mk 6 nm ot m ty re l) g n).getD tZero):=fun N Q hQ=>by
 have hl : l.length = 1 := by have:(l.length:Int)=1:=(xp pre.ok).ar
                              omega
 obtain ⟨e0,rfl⟩:=zDP hl
 obtain ⟨d0,_,rfl,h0,rfl⟩:=h0
 have hlen:=pre.len
 have hpc:1<=(Tm.mk 6 nm ot m ty re [e0]).cnt:=by simp only [Tm.cnt];omega
 have hv:=Ty.valid_cnt ((xp pre.ok).vt (.inl rfl))
 have hp:=pre.sub (x:=e0) (by simp) (g':=g++[⟨nm,ty,n⟩]) (by simp) (qS pre.ty (show ty.cnt<=64 by omega))
 rw [show yX 6 n=n by simp [yX]] at hp
 have hc:=zL0 e0 (g++[⟨nm,ty,n⟩]) n
 have hz:=sk e0 (g++[⟨nm,ty,n⟩]) n
 have hraw:(Tm.raw (.mk 6 nm ot m ty re [e0]) g n).getD tZero=zQq ty (tyZ e0 (g++[⟨nm,ty,n⟩]) n):=by
  have:Tm.raw (.mk 6 nm ot m ty re [e0]) g n=(match e0.type (g++[⟨nm,ty,n⟩]) n with | some b=>some (tV ty b) | none=>none):=by simp only [Tm.raw,uy];rfl
  rw [this]
  unfold zQq
  rcases hz with ⟨h1,h2⟩ | ⟨h1,h2⟩
  ·rw [h1,h2];rfl
  ·rw [h1,if_neg (Ty.valid_nz h2)];rfl
 rw [hraw] at hQ
 have hctx:Ctx [⟨nm,ty,n⟩] [.ag [.t nm,t0,t1,.j n]]:=⟨by simp,_,_,rfl,⟨_,_,rfl,hh.nm,hh.ty⟩,rfl⟩
 refine zt N a es c _ n Q fun _ _=>⟨_,rfl,?_⟩
 repeat' first|with_reducible intro _|simp only[oK,oO,Y1,Y2,Y3,Y4]|with_reducible refine X ?_ ?_|refine⟨_,_,_,rfl,?_⟩|refine⟨_,rfl,?_⟩|refine And.intro (by first|omega|trivial|(show _=_;rfl)|(with_reducible constructor)<;>first|omega|trivial|rfl) ?_|refine (zP5 ctx hctx (by simp;omega) _ _ _ _) _ _ ?_|refine (ih e0 nT d0 h0 (g++[⟨nm,ty,n⟩]) _ _ _ n hp (by assumption)) _ _ ?_|(((with_reducible refine And.intro ?_ ?_);· exact zI6 (by assumption) (by assumption) (by assumption) (by assumption)))|fail
 all_goals first | (exfalso;omega) | skip
 rename_i hd0 ho0 _ _
 generalize tyZ e0 (g++[⟨nm,ty,n⟩]) n=z0 at *
 cases z0 with
 | mk k0 l0=>
 have hd1:=hd0
 obtain ⟨a2,es2,c2,rfl,hl2,he2⟩:=Ty.is_mk.1 hd0
 repeat' first|with_reducible intro _|simp only[Y1,Y2,Y3,Y4]|with_reducible refine X ?_ ?_|refine⟨_,_,_,rfl,?_⟩|refine⟨_,rfl,?_⟩|refine And.intro (by first|omega|trivial|(show _=_;rfl)|(with_reducible constructor)<;>first|omega|trivial|rfl) ?_|refine (zOL ty (.mk k0 l0) _ _ hh.ty hd1 (by omega) (by omega)) _ _ ?_|fail
 all_goals first
  | exact hQ _ _ (by omega) (by rw [show zQq ty (.mk k0 l0)=tZero from if_pos (by assumption)];exact xa) yc
  | exact hQ _ _ (by omega) (by rw [show zQq ty (.mk k0 l0)=tV ty (.mk k0 l0) from if_neg (by assumption)];assumption) (Own.mono (by assumption) (by omega) (by omega))
/-- the type of a let whose first part has this type -/
def zQn (e1:Tm) (g:List Tg) (nm:ByteArray) (n:Int) (z:Ty):Ty:=if z.k=0 then tZero else tyZ e1 (g++[⟨nm,z,n⟩]) n
theorem f8 {nm ot:ByteArray} {m n:Int} {ty re:Ty} {l:List Tm} {t0 t1 r0 r1:D} {es1:List D} {a1 a:Option Addr} {c1 c:Nat} {g:List Tg} {es:List D} (ih:IHi l) (hh:Tm.Hd nm ot ty re t0 t1 r0 r1) (h0:All2 Tm.Is l es1) (hl1:es1.length<=4611686018427387904)
  (pre:Pre g (.mk 8 nm ot m ty re l) n) (ctx:Ctx g es) :
  zDC 176 [.sv a 4 es c,.dg 9 (zGK 8 nm ot m t0 t1 r0 r1 a1 es1 c1),.j n] ((Tm.raw (.mk 8 nm ot m ty re l) g n).getD tZero):=fun N Q hQ=>by
 have hl : l.length = 2 := by have:(l.length:Int)=2:=(xp pre.ok).ar
                              omega
 obtain ⟨e0,e1,rfl⟩:=zMm hl
 have hes1:=h0
 obtain ⟨d0,_,rfl,h0,d1,_,rfl,h1,rfl⟩:=h0
 have hlen:=pre.len
 have hpc:1<=(Tm.mk 8 nm ot m ty re [e0,e1]).cnt:=by simp only [Tm.cnt];omega
 have hz:=sk e0 g n
 have hc:=zL0 e0 g n
 have hraw:(Tm.raw (.mk 8 nm ot m ty re [e0,e1]) g n).getD tZero=zQn e1 g nm n (tyZ e0 g n):=by
  have:Tm.raw (.mk 8 nm ot m ty re [e0,e1]) g n=(match e0.type g n with | some b=>e1.type (g++[⟨nm,b,n⟩]) n | none=>none):=by simp only [Tm.raw,uy];rfl
  rw [this]
  unfold zQn
  rcases hz with ⟨h1,h2⟩ | ⟨h1,h2⟩
  ·rw [h1,h2];rfl
  ·rw [h1,if_neg (Ty.valid_nz h2)];rfl
 rw [hraw] at hQ
 have hn:yX 8 n=n:=by simp [yX]
 refine zt N a es c _ n Q fun _ _=>⟨_,rfl,?_⟩
 repeat' first|with_reducible intro _|simp only[oK,oO,Y1,Y2,Y3,Y4]|with_reducible refine X ?_ ?_|refine⟨_,_,_,rfl,?_⟩|refine⟨_,rfl,?_⟩|refine And.intro (by first|omega|trivial|(show _=_;rfl)|(with_reducible constructor)<;>first|omega|trivial|rfl) ?_|refine (zEs hn ih hes1 hl1 pre ctx 0 rfl _ _ _) _ _ ?_|(((with_reducible refine And.intro ?_ ?_);· exact rg (by assumption) (by assumption)))|fail
 all_goals first | (exfalso;omega) | skip
 rename_i hd0 ho0 _ _
 generalize tyZ e0 g n=z0 at *
 cases z0 with
 | mk k0 l0=>
 have hd1:=hd0
 obtain ⟨a2,es2,c2,rfl,hl2,he2⟩:=Ty.is_mk.1 hd0
 by_cases hk:k0=0
 ·have q:zQn e1 g nm n (.mk k0 l0)=tZero:=if_pos hk
  rw [q] at hQ
  repeat' first|with_reducible intro _|simp only[Y1,Y2,Y3,Y4]|with_reducible refine X ?_ ?_|refine⟨_,_,_,rfl,?_⟩|refine⟨_,rfl,?_⟩|refine And.intro (by first|omega|trivial|(show _=_;rfl)|(with_reducible constructor)<;>first|omega|trivial|rfl) ?_|fail
  all_goals first | (exfalso;omega) | exact hQ _ _ (by omega) xa yc
 ·have q:zQn e1 g nm n (.mk k0 l0)=tyZ e1 (g++[⟨nm,.mk k0 l0,n⟩]) n:=if_neg hk
  rw [q] at hQ
  have hp:=pre.sub (x:=e1) (by simp) (g':=g++[⟨nm,.mk k0 l0,n⟩]) (by simp) (qS pre.ty (oe hc (by omega)))
  rw [hn] at hp
  have hctx:Ctx [⟨nm,.mk k0 l0,n⟩] [.ag [.t nm,.j k0,.sl a2 2 es2 c2,.j n]]:=⟨by simp,_,_,rfl,⟨_,_,rfl,hh.nm,hd1⟩,rfl⟩
  repeat' first|with_reducible intro _|simp only[oK,oO,Y1,Y2,Y3,Y4]|with_reducible refine X ?_ ?_|refine⟨_,_,_,rfl,?_⟩|refine⟨_,rfl,?_⟩|refine And.intro (by first|omega|trivial|(show _=_;rfl)|(with_reducible constructor)<;>first|omega|trivial|rfl) ?_|refine (zP5 ctx hctx (by simp;omega) _ _ _ _) _ _ ?_|refine (ih e1 (by simp) d1 h1 (g++[⟨nm,.mk k0 l0,n⟩]) _ _ _ n hp (by assumption)) _ _ ?_|(((with_reducible refine And.intro ?_ ?_);· exact zI6 (by assumption) (by assumption) (by assumption) (by assumption)))|fail
  all_goals first | (exfalso;omega) | skip
  exact hQ _ _ (by omega) (by assumption) (Own.mono (by assumption) (by omega) (by omega))
theorem zU5 {nm ot:ByteArray} {ty re:Ty} {t0 t1 r0 r1 x:D} (I:Tm.Hd nm ot ty re t0 t1 r0 r1) (J:(tV ty re).Is x) (n:Int) :
  Ctx [⟨nm,tV ty re,n⟩,⟨ot,ty,n⟩] [.ag [.t nm,D.cell x 0,D.cell x 1,.j n],.ag [.t ot,t0,t1,.j n]]:=
 ⟨by simp,_,_,rfl,⟨_,_,rfl,I.nm,Ty.is_cells J⟩,_,_,rfl,⟨_,_,rfl,I.ot,I.ty⟩,rfl⟩
theorem f9 {nm ot:ByteArray} {m n:Int} {ty re:Ty} {l:List Tm} {t0 t1 r0 r1:D} {es1:List D} {a1 a:Option Addr} {c1 c:Nat} {g:List Tg} {es:List D} (ih:IHi l) (hh:Tm.Hd nm ot ty re t0 t1 r0 r1) (h0:All2 Tm.Is l es1) (hl1:es1.length<=4611686018427387904)
  (pre:Pre g (.mk 9 nm ot m ty re l) n) (ctx:Ctx g es) :
  zDC 176 [.sv a 4 es c,.dg 9 (zGK 9 nm ot m t0 t1 r0 r1 a1 es1 c1),.j n] ((Tm.raw (.mk 9 nm ot m ty re l) g n).getD tZero):=fun N Q hQ=>by
 have hl : l.length = 1 := by have:(l.length:Int)=1:=(xp pre.ok).ar
                              omega
 obtain ⟨e0,rfl⟩:=zDP hl
 obtain ⟨d0,_,rfl,h0,rfl⟩:=h0
 have hlen:=pre.len
 have hpc:1<=(Tm.mk 9 nm ot m ty re [e0]).cnt:=by simp only [Tm.cnt];omega
 have hv:=Ty.valid_cnt ((xp pre.ok).vt (.inr rfl))
 have hrv:=(xp pre.ok).vr rfl
 have hr:=Ty.valid_cnt hrv
 have hg1:=qS (x:=⟨nm,tV ty re,n⟩) pre.ty (show (tV ty re).cnt<=64 by simp only [tV,Ty.cnt,zI];omega)
 have hp:=pre.sub (x:=e0) (by simp) (g':=(g++[⟨nm,tV ty re,n⟩])++[⟨ot,ty,n⟩]) (by simp) (qS hg1 (show ty.cnt<=64 by omega))
 rw [show yX 9 n=n by simp [yX],o0,nq] at hp
 have hz:=sk e0 (g++[⟨nm,tV ty re,n⟩,⟨ot,ty,n⟩]) n
 have hraw:(Tm.raw (.mk 9 nm ot m ty re [e0]) g n).getD tZero=if tO (tyZ e0 (g++[⟨nm,tV ty re,n⟩,⟨ot,ty,n⟩]) n) re then tV ty re else tZero:=by
  have:Tm.raw (.mk 9 nm ot m ty re [e0]) g n=(match e0.type ((g++[⟨nm,tV ty re,n⟩])++[⟨ot,ty,n⟩]) n with | some b=>if tO b re then some (tV ty re) else none | none=>none):=by simp only [Tm.raw,uy];rfl
  rw [this,o0,nq]
  rcases hz with ⟨h1,h2⟩ | ⟨h1,h2⟩
  ·rw [h1,h2,(zOx hrv).2];rfl
  ·rw [h1];dsimp only;split<;>rfl
 rw [hraw] at hQ
 refine zt N a es c _ n Q fun _ _=>⟨_,rfl,?_⟩
 repeat' first|with_reducible intro _|simp only[oK,oO,Y1,Y2,Y3,Y4]|with_reducible refine X ?_ ?_|refine⟨_,_,_,rfl,?_⟩|refine⟨_,rfl,?_⟩|refine And.intro (by first|omega|trivial|(show _=_;rfl)|(with_reducible constructor)<;>first|omega|trivial|rfl) ?_|refine (zOL ty re _ _ hh.ty hh.re (by omega) (by omega)) _ _ ?_|refine (zP5 ctx (h:=[⟨nm,tV ty re,n⟩,⟨ot,ty,n⟩]) (zU5 hh (by assumption) n) (by simp;omega) _ _ _ _) _ _ ?_|refine (ih e0 nT d0 h0 (g++[⟨nm,tV ty re,n⟩,⟨ot,ty,n⟩]) _ _ _ n hp (by assumption)) _ _ ?_|refine (zZ (tyZ e0 (g++[⟨nm,tV ty re,n⟩,⟨ot,ty,n⟩]) n) re _ _ (by assumption) hh.re) _ _ ?_|(((with_reducible refine And.intro ?_ ?_);· exact zI6 (by assumption) (by assumption) (by assumption) (by assumption)))|fail
 all_goals first | (exfalso;omega) | skip
 all_goals first
  | exact hQ _ _ (by omega) (by rw [if_pos (by assumption)];assumption) (Own.mono (by assumption) (by omega) (by omega))
  | exact hQ _ _ (by omega) (by rw [if_neg (by simp [*])];exact xa) yc
/-- the type of a stage over a part of this type -/
def stZ (k:Int) (z:Ty):Ty:=if k=10 then (if z.k=0 then tZero else zED z) else if k=13 then (if z.base then zED z else tZero) else zDT z
theorem zTb {k:Int} {e0:Tm} {g:List Tg} {n:Int}:((match e0.type g n with | some t=>xS k t | none=>none):Option Ty).getD tZero=stZ k (tyZ e0 g n):=by
 rcases sk e0 g n with ⟨I,J⟩ | ⟨I,J⟩
 ·rw [I,J]
  have:stZ k tZero=tZero:=by
   unfold stZ
   split
   ·rfl
   ·split<;>rfl
  exact this.symm
 ·rw [I]
  dsimp only
  have:=Ty.valid_nz J
  unfold stZ xS zDT
  rw [if_neg this]
  (repeat' split)<;>rfl
theorem fS {k:Int} {nm ot:ByteArray} {m n:Int} {ty re:Ty} {l:List Tm} {t0 t1 r0 r1:D} {ac:List D} {a1 a:Option Addr} {c1 c:Nat} {g:List Tg} {es:List D} (hk:k=10\/k=11\/k=12\/k=13) (ih:IHi l) (hh:Tm.Hd nm ot ty re t0 t1 r0 r1) (h0:All2 Tm.Is l ac) (ao:ac.length<=4611686018427387904)
  (pre:Pre g (.mk k nm ot m ty re l) n) (ab:Ctx g es) :
  zDC 207 [.sv a 4 es c,.dg 9 (zGK k nm ot m t0 t1 r0 r1 a1 ac c1),.j n] ((Tm.raw (.mk k nm ot m ty re l) g n).getD tZero):=λN Q hQ=>by
 have hl:l.length=1:=by
  have ak:=(xp pre.ok).ar
  have:(l.length:Int)=1:=by rw [ak];rcases hk with rfl | rfl | rfl | rfl<;>rfl
  omega
 obtain ⟨e0,rfl⟩:=zDP hl
 obtain ⟨d0,_,rfl,h0,rfl⟩:=h0
 have hlen:=pre.len
 have aq:=pre.lv
 have ae:=zCT g n g 0
 have al:∀ x∈g,x.ty.cnt<=1073741824:=λx hx=>oe (pre.ty x hx) (by omega)
 have ah:(Tm.raw (.mk k nm ot m ty re [e0]) g n).getD tZero=stZ k (tyZ e0 (if k=12 then sH g n else g) (yX k n)):=by
  rw [<-zTb]
  simp only [Tm.raw,uy]
  rw [if_neg (by omega),if_neg (by omega),if_neg (by omega),if_neg (by omega),if_neg (by omega),if_neg (by omega),if_pos hk]
  rfl
 rw [ah] at hQ
 have hp:=pre.sub (x:=e0) (by simp) (g':=if k=12 then sH g n else g) (by split<;>simp [sH];omega) (by split;exact λy hy=>pre.ty y (ae.1 y hy);exact pre.ty)
 have aa:∀ es a c,Ctx (if k=12 then sH g n else g) es->zDC 142 [.sv a 4 es c,.dg 9 d0,.j (yX k n)] (tyZ e0 (if k=12 then sH g n else g) (yX k n)):=λes a c hc=>ih e0 nT d0 h0 _ es a c _ hp hc
 have hz:=sk e0 (if k=12 then sH g n else g) (yX k n)
 have au:=zL0 e0 (if k=12 then sH g n else g) (yX k n)
 generalize tyZ e0 (if k=12 then sH g n else g) (yX k n)=z0 at *
 have ai:z0.valid=true\/z0=tZero:=hz.elim (λh=>.inr h.2) λh=>.inl h.2
 refine zDv N a es c _ n Q λ_ _=>⟨_,rfl,?_⟩
 rw [i64_in (n+1) (by omega),i64_in (n - 1) (by omega)]
 cases z0 with
 | mk J O=>
 rcases hk with rfl | rfl | rfl | rfl
 ·have I:=aa es a c ab
  rw [show yX 10 n=n+1 by simp [yX]] at I
  repeat' first|with_reducible intro _|simp only[oK,oO,Y1,Y2,Y3,Y4]|with_reducible refine X ?_ ?_|refine⟨_,_,_,rfl,?_⟩|refine⟨_,rfl,?_⟩|refine And.intro (by first|omega|trivial|(show _=_;rfl)|(with_reducible constructor)<;>first|omega|trivial|rfl) ?_|refine I _ _ ?_|fail
  all_goals first | (exfalso;omega) | skip
  rename_i aj aw _ _
  have am:=aj
  obtain ⟨a2,ax,c2,rfl,ay,az⟩:=Ty.is_mk.1 aj
  have q:stZ 10 (.mk J O)=if J=0 then tZero else zED (.mk J O):=rfl
  rw [q] at hQ
  repeat' first|with_reducible intro _|simp only[Y1,Y2,Y3,Y4]|with_reducible refine X ?_ ?_|refine⟨_,_,_,rfl,?_⟩|refine⟨_,rfl,?_⟩|refine And.intro (by first|omega|trivial|(show _=_;rfl)|(with_reducible constructor)<;>first|omega|trivial|rfl) ?_|refine (zMb (.mk J O) _ am (by omega)) _ _ ?_|fail
  all_goals first
   | exact hQ _ _ (by omega) (by rw [if_neg (by assumption)];assumption) (Own.mono (by assumption) (by omega) (by omega))
   | exact hQ _ _ (by omega) (by rw [if_pos (by assumption)];exact xa) yc
 ·have I:=aa es a c ab
  rw [show yX 11 n=n - 1 by simp [yX]] at I
  have q:stZ 11 (.mk J O)=zDT (.mk J O):=rfl
  rw [q] at hQ
  repeat' first|with_reducible intro _|simp only[oK,oO,Y1,Y2,Y3,Y4]|with_reducible refine X ?_ ?_|refine⟨_,_,_,rfl,?_⟩|refine⟨_,rfl,?_⟩|refine And.intro (by first|omega|trivial|(show _=_;rfl)|(with_reducible constructor)<;>first|omega|trivial|rfl) ?_|refine I _ _ ?_|refine (zMO (.mk J O) _ (by assumption) ai) _ _ ?_|fail
  all_goals first | (exfalso;omega) | skip
  exact hQ _ _ (by omega) (by assumption) (Own.mono (by assumption) (by omega) (by omega))
 ·rw [if_pos rfl,show yX 12 n=n by simp [yX]] at aa
  have q:stZ 12 (.mk J O)=zDT (.mk J O):=rfl
  rw [q] at hQ
  repeat' first|with_reducible intro _|simp only[oK,oO,Y1,Y2,Y3,Y4]|with_reducible refine X ?_ ?_|refine⟨_,_,_,rfl,?_⟩|refine⟨_,rfl,?_⟩|refine And.intro (by first|omega|trivial|(show _=_;rfl)|(with_reducible constructor)<;>first|omega|trivial|rfl) ?_|refine (zOp ab (by omega) al _ _ n) _ _ ?_|refine (aa _ _ _ (by assumption)) _ _ ?_|refine (zMO (.mk J O) _ (by assumption) ai) _ _ ?_|fail
  all_goals first | (exfalso;omega) | skip
  exact hQ _ _ (by omega) (by assumption) (Own.mono (by assumption) (by omega) (by omega))
 ·have I:=aa es a c ab
  rw [show yX 13 n=n by simp [yX]] at I
  have q:stZ 13 (.mk J O)=if (Ty.mk J O).base then zED (.mk J O) else tZero:=rfl
  rw [q] at hQ
  repeat' first|with_reducible intro _|simp only[oK,oO,Y1,Y2,Y3,Y4]|with_reducible refine X ?_ ?_|refine⟨_,_,_,rfl,?_⟩|refine⟨_,rfl,?_⟩|refine And.intro (by first|omega|trivial|(show _=_;rfl)|(with_reducible constructor)<;>first|omega|trivial|rfl) ?_|refine I _ _ ?_|refine (rT (.mk J O) _ (by assumption)) _ _ ?_|refine (zMb (.mk J O) _ (by assumption) (by omega)) _ _ ?_|fail
  all_goals first | (exfalso;omega) | skip
  all_goals first
   | exact hQ _ _ (by omega) (by rw [if_pos (by assumption)];assumption) (Own.mono (by assumption) (by omega) (by omega))
   | exact hQ _ _ (by omega) (by rw [if_neg (by simp [*])];exact xa) yc
theorem f4 {nm ot:ByteArray} {m n:Int} {ty re:Ty} {l:List Tm} {t0 t1 r0 r1:D} {I:List D} {a1 a:Option Addr} {c1 c:Nat} {g:List Tg} {es:List D} (ih:IHi l) (hh:Tm.Hd nm ot ty re t0 t1 r0 r1) (h0:All2 Tm.Is l I) (aa:I.length<=4611686018427387904)
  (pre:Pre g (.mk 4 nm ot m ty re l) n) (ah:Ctx g es) :
  zDC 176 [.sv a 4 es c,.dg 9 (zGK 4 nm ot m t0 t1 r0 r1 a1 I c1),.j n] ((Tm.raw (.mk 4 nm ot m ty re l) g n).getD tZero):=λN Q hQ=>by
 have hlen:=pre.len
 have ao:=yg l
 have aq:=h0.len
 simp only [Tm.cnt] at hlen
 have ai:0<zPm nm:=by
  have:=(xp pre.ok).f
  simp only [xF,zFp,oL] at this
  have:=this.2.2.2.2.2
  simp at this
  exact this.1
 have ab:(Tm.raw (.mk 4 nm ot m ty re l) g n).getD tZero=if zCR (zAt nm) (l.map λe=>tyZ e g n) then zDL nm else tZero:=by
  rw [<-zU0 ai]
  simp only [Tm.raw]
  rfl
 rw [ab] at hQ
 have hn:yX 4 n=n:=by simp [yX]
 have key:yw Q N 0 0 I.length (0:Nat) (zGK 4 nm ot m t0 t1 r0 r1 a1 I c1) 0 none [] 0 a es c n [] 0 N:=by
  refine up h0 aa (λi xs=>∀ (r:List D) (q p:Nat) (N':Nat) (ts:List Ty),N<=N'->p=r.length->All2 Ty.Is ts r->ts.length=i->(∀ b∈zB r,N<=b)->ts++(xs.map λe=>tyZ e g n)=(l.map λe=>tyZ e g n) ->
   yw Q N p q I.length i (zGK 4 nm ot m t0 t1 r0 r1 a1 I c1) 0 none [] 0 a es c n r q N') ?_ ?_ [] 0 0 N [] (oA _) rfl rfl rfl (by simp [zB]) rfl
  ·intro i aj hi r q p N' ts ak hp hr ac ae J
   have al:=hr.len
   simp only [mI,oY] at J
   rw [<-J] at hQ
   refine tu _ _ _ _ _ _ _ _ _ _ _ _ _ _ _ _ _ _ ?_
   repeat' first|with_reducible intro _|simp only[aj,Y1,Y2,Y3,Y4]|with_reducible refine X ?_ ?_|refine⟨_,_,_,rfl,?_⟩|refine⟨_,rfl,?_⟩|refine And.intro (by first|omega|trivial|(show _=_;rfl)|(with_reducible constructor)<;>first|omega|trivial|rfl) ?_|refine (zRP hr (by omega) _ _ nm) _ _ ?_|(((with_reducible refine And.intro ?_ ?_);· exact rg (by assumption) (by assumption)))|fail
   exact hQ _ _ (by omega) (by assumption) (Own.mono (by assumption) (by omega) (by omega))
  ·intro i x xs O _ am r q p N' ts ak hp hr ac ae J
   have hb:=O.b
   have al:=hr.len
   refine tu _ _ _ _ _ _ _ _ _ _ _ _ _ _ _ _ _ _ ?_
   repeat' first|with_reducible intro _|simp only[O.lt,O.w,oH,Y1,Y2,Y3,Y4]|with_reducible refine X ?_ ?_|refine⟨_,_,_,rfl,?_⟩|refine⟨_,rfl,?_⟩|refine And.intro (by first|omega|trivial|(show _=_;rfl)|(with_reducible constructor)<;>first|omega|trivial|rfl) ?_|refine (zEs hn ih h0 aa pre ah i O.g _ _ _) _ _ ?_|(((with_reducible refine And.intro ?_ ?_);· exact rg (by assumption) (by assumption)))|fail
   all_goals first | (exfalso;omega) | skip
   rename_i hd ho _ _
   refine ⟨by unfold zC;simp only [oE,nu];omega,λc2=>am _ _ _ _ (ts++[tyZ x g n]) (by omega) rfl (hr.snoc hd) (by simp [ac]) (λb hb=>?_) (by simpa using J)⟩
   rw [zD] at hb
   rcases oF.1 hb with hb | hb
   ·exact ae b hb
   ·simp only [zB,oY] at hb
    have:=ho.lo b hb
    omega
 refine zt N a es c _ n Q λ_ _=>⟨_,rfl,?_⟩
 repeat' first|with_reducible intro _|simp only[Y1,Y2,Y3,Y4]|with_reducible refine X ?_ ?_|refine⟨_,_,_,rfl,?_⟩|refine⟨_,rfl,?_⟩|refine And.intro (by first|omega|trivial|(show _=_;rfl)|(with_reducible constructor)<;>first|omega|trivial|rfl) ?_|fail
 all_goals first | (exfalso;omega) | exact key
theorem f1 {nm ot:ByteArray} {m n:Int} {ty re:Ty} {l:List Tm} {t0 t1 r0 r1:D} {aa:List D} {a1 a:Option Addr} {c1 c:Nat} {g:List Tg} {es:List D}
  (pre:Pre g (.mk 1 nm ot m ty re l) n) (I:Ctx g es) :
  zDC 176 [.sv a 4 es c,.dg 9 (zGK 1 nm ot m t0 t1 r0 r1 a1 aa c1),.j n] ((Tm.raw (.mk 1 nm ot m ty re l) g n).getD tZero):=λN Q J=>by
 have ac:=I.all.len
 have O:Tm.raw (.mk 1 nm ot m ty re l) g n=zCe g nm n:=by simp [Tm.raw]
 rw [O] at J
 refine zt N a es c _ n Q λ_ _=>⟨_,rfl,?_⟩
 rcases zFx g nm g.length with hlx | hlx
 ·have hlx:ym g nm = -1:=hlx
  have:zCe g nm n=none:=by simp [zCe,hlx]
  rw [this] at J
  repeat' first|with_reducible intro _|simp only[hlx,Y1,Y2,Y3,Y4]|with_reducible refine X ?_ ?_|refine⟨_,_,_,rfl,?_⟩|refine⟨_,rfl,?_⟩|refine And.intro (by first|omega|trivial|(show _=_;rfl)|(with_reducible constructor)<;>first|omega|trivial|rfl) ?_|refine (zC3 I a c nm) _ _ ?_|fail
  all_goals first | (exfalso;omega) | skip
  exact J _ _ (by omega) xa yc
 ·have hlx:0<=ym g nm/\ym g nm<g.length:=hlx
  have hg:g[(ym g nm).toNat]?=some g[(ym g nm).toNat]:=oI (by omega)
  have hx:=I.all.get hg
  have ab:g.getD (ym g nm).toNat tg0=g[(ym g nm).toNat]:=zI1 hg
  obtain ⟨u0,u1,hd,hs,ht⟩:=hx
  have hm:g[(ym g nm).toNat]∈g:=mN _
  have ae:=pre.ty _ hm
  have:zCe g nm n=if g[(ym g nm).toNat].lv=n then some g[(ym g nm).toNat].ty else none:=by
   rw [zCe,if_neg (by omega),ab]
  rw [this] at J
  generalize g[(ym g nm).toNat]=x at *
  repeat' first|with_reducible intro _|simp only[hd,Y1,Y2,Y3,Y4]|with_reducible refine X ?_ ?_|refine⟨_,_,_,rfl,?_⟩|refine⟨_,rfl,?_⟩|refine And.intro (by first|omega|trivial|(show _=_;rfl)|(with_reducible constructor)<;>first|omega|trivial|rfl) ?_|refine (zC3 I a c nm) _ _ ?_|refine (zIq _ _ ht (by omega)) _ _ ?_|fail
  all_goals first | (exfalso;omega) | skip
  ·rw [if_pos (by assumption)] at J;exact J _ _ (by omega) (by assumption) (Own.mono (by assumption) (by omega) (by omega))
  ·rw [if_neg (by assumption)] at J;exact J _ _ (by omega) xa yc
theorem zN2 {e:Tm} {d:D} (he:e.Is d) (ih:match e with | .mk _ _ _ _ _ _ l=>IHi l) {g:List Tg} {es:List D} (a:Option Addr) (c:Nat) {n:Int} (pre:Pre g e n) (O:Ctx g es) :
  zDC 176 [.sv a 4 es c,.dg 9 d,.j n] ((e.raw g n).getD tZero):=by
 cases e with
 | mk k nm ot m ty re l=>
 dsimp only at ih
 obtain ⟨t0,t1,r0,r1,a1,ac,c1,rfl,hh,I,J⟩:=Tm.is_mk.1 he
 have nd:=xp pre.ok
 have ae:=nd.ar
 have ab:=zJV (k:=k) (nm:=nm) (by omega)
 rcases ab with rfl | rfl | rfl | rfl | rfl | rfl | rfl | rfl | rfl | h | h | h | h
 ·exact f1 pre O
 ·intro N Q hQ
  have aa:Tm.raw (.mk 2 nm ot m ty re l) g n=some tInt:=by simp [Tm.raw]
  rw [aa] at hQ
  refine zt N a es c _ n Q λ_ _=>⟨_,rfl,?_⟩
  repeat' first|with_reducible intro _|simp only[Y1,Y2,Y3,Y4]|with_reducible refine X ?_ ?_|refine⟨_,_,_,rfl,?_⟩|refine⟨_,rfl,?_⟩|refine And.intro (by first|omega|trivial|(show _=_;rfl)|(with_reducible constructor)<;>first|omega|trivial|rfl) ?_|refine zO9 _ _ ?_|fail
  all_goals first | (exfalso;omega) | skip
  exact hQ _ _ (by omega) (by assumption) (Own.mono (by assumption) (by omega) (by omega))
 ·intro N Q hQ
  have aa:Tm.raw (.mk 3 nm ot m ty re l) g n=some tBool:=by simp [Tm.raw]
  rw [aa] at hQ
  refine zt N a es c _ n Q λ_ _=>⟨_,rfl,?_⟩
  repeat' first|with_reducible intro _|simp only[Y1,Y2,Y3,Y4]|with_reducible refine X ?_ ?_|refine⟨_,_,_,rfl,?_⟩|refine⟨_,rfl,?_⟩|refine And.intro (by first|omega|trivial|(show _=_;rfl)|(with_reducible constructor)<;>first|omega|trivial|rfl) ?_|refine zIb _ _ ?_|fail
  all_goals first | (exfalso;omega) | skip
  exact hQ _ _ (by omega) (by assumption) (Own.mono (by assumption) (by omega) (by omega))
 ·exact f4 ih hh J I pre O
 ·exact f5 ih hh J I pre O
 ·exact f6 ih hh J I pre O
 ·exact f7 ih hh J I pre O
 ·exact f8 ih hh J I pre O
 ·exact f9 ih hh J I pre O
 all_goals
  intro N Q hQ
  have hk:k=10\/k=11\/k=12\/k=13:=by omega
  refine zt N a es c _ n Q λ_ _=>⟨_,rfl,?_⟩
  repeat' first|with_reducible intro _|simp only[Y1,Y2,Y3,Y4]|with_reducible refine X ?_ ?_|refine⟨_,_,_,rfl,?_⟩|refine⟨_,rfl,?_⟩|refine And.intro (by first|omega|trivial|(show _=_;rfl)|(with_reducible constructor)<;>first|omega|trivial|rfl) ?_|refine (fS hk ih hh J I pre O) _ _ ?_|fail
  all_goals first | (exfalso;omega) | skip
  exact hQ _ _ (by omega) (by assumption) (Own.mono (by assumption) (by omega) (by omega))
theorem zSR (e:Tm) (g:List Tg) (n:Int):tyZ e g n=if ((e.raw g n).getD tZero).valid then (e.raw g n).getD tZero else tZero:=by
 rw [tyZ,Tm.type_eq]
 cases e.raw g n with
 | none=>rfl
 | some t=>
   simp only [vld,o7]
   split<;>rfl
theorem zSt:∀ (e:Tm),∀ d,e.Is d->∀ g es a c n,Pre g e n->Ctx g es->zDC 142 [.sv a 4 es c,.dg 9 d,.j n] (tyZ e g n):=by
 refine Tm.ind λk nm ot m ty re l O d hd g es a c n pre I N Q J=>?_
 have hs:=zN2 hd O a c pre I
 rw [zSR] at J
 have hc:((Tm.raw (.mk k nm ot m ty re l) g n).getD tZero).cnt<=64:=by
  cases h:Tm.raw (.mk k nm ot m ty re l) g n with
  | none=>simp [tZero,Ty.cnt,zI]
  | some t=>simpa using zOv pre h
 generalize (Tm.raw (.mk k nm ot m ty re l) g n).getD tZero=z at *
 refine zJl N a es c _ n Q λ_ _=>?_
 repeat' first|with_reducible intro _|simp only[Y1,Y2,Y3,Y4]|with_reducible refine X ?_ ?_|refine⟨_,_,_,rfl,?_⟩|refine⟨_,rfl,?_⟩|refine And.intro (by first|omega|trivial|(show _=_;rfl)|(with_reducible constructor)<;>first|omega|trivial|rfl) ?_|refine hs _ _ ?_|refine (wA z _ (by assumption) (by omega)) _ _ ?_|fail
 all_goals first
  | exact J _ _ (by omega) (by rw [if_pos (by assumption)];assumption) (Own.mono (by assumption) (by omega) (by omega))
  | exact J _ _ (by omega) (by rw [if_neg (by simp [*])];exact xa) yc
/-- returns this type and true, or the zero type and false, in memory of its own -/
def zUd (f:FuncId) (args:List PV) (o:Option Ty):Prop:=∀ (N:Nat) (Q:QT [.ag 2,.bool]),(∀ d N',N<=N'->(o.getD tZero).Is d->Own N N' d->Q d o.isSome N')->ACalls prog f [.ag 2,.bool] args N Q
theorem zJI {g:List Tg} {es:List D} (I:Ctx g es) (hg:∀ x∈g,x.ty.cnt<=1073741824) {e:Tm} {d:D} (he:e.Is d) (hc:e.cnt<=1048576000 / 2) (a:Option Addr) (c:Nat) (n:Int) :
  zUd 102 [.sv a 4 es c,.dg 9 d,.j n] (zGy g e n):=λN Q J=>by
 refine zIB N a es c d n Q λ_ _=>?_
 cases h1:zIK g with
 | false=>
   rw [zGy,if_neg (by simp [h1])] at J
   repeat' first|with_reducible intro _|simp only[h1,Y1,Y2,Y3,Y4]|with_reducible refine X ?_ ?_|refine⟨_,_,_,rfl,?_⟩|refine⟨_,rfl,?_⟩|refine And.intro (by first|omega|trivial|(show _=_;rfl)|(with_reducible constructor)<;>first|omega|trivial|rfl) ?_|refine (pO I hg a c) _ _ ?_|fail
   exact J _ _ (by omega) xa yc
 | true=>
   cases h2:zL9 e n with
   | false=>
     rw [zGy,if_neg (by simp [h2])] at J
     repeat' first|with_reducible intro _|simp only[h1,h2,Y1,Y2,Y3,Y4]|with_reducible refine X ?_ ?_|refine⟨_,_,_,rfl,?_⟩|refine⟨_,rfl,?_⟩|refine And.intro (by first|omega|trivial|(show _=_;rfl)|(with_reducible constructor)<;>first|omega|trivial|rfl) ?_|refine (pO I hg a c) _ _ ?_|refine (pE e d he (by omega) n) _ _ ?_|fail
     exact J _ _ (by omega) xa yc
   | true=>
     rw [zGy,if_pos ⟨h1,h2⟩] at J
     have hz:=sk e g n
     repeat' first|with_reducible intro _|simp only[h1,h2,Y1,Y2,Y3,Y4]|with_reducible refine X ?_ ?_|refine⟨_,_,_,rfl,?_⟩|refine⟨_,rfl,?_⟩|refine And.intro (by first|omega|trivial|(show _=_;rfl)|(with_reducible constructor)<;>first|omega|trivial|rfl) ?_|refine (pO I hg a c) _ _ ?_|refine (pE e d he (by omega) n) _ _ ?_|refine (zSt e d he g es a c n (zTS h1 h2 hc) I) _ _ ?_|fail
     rename_i hd ho _ _
     rcases hz with ⟨h3,h4⟩ | ⟨h3,h4⟩
     ·rw [h3] at J
      rw [h4] at hd
      obtain ⟨a2,aa,c2,rfl,ab,ac⟩:=Ty.is_mk.1 hd
      repeat' first|with_reducible intro _|simp only[Y1,Y2,Y3,Y4]|with_reducible refine X ?_ ?_|refine⟨_,_,_,rfl,?_⟩|refine⟨_,rfl,?_⟩|refine And.intro (by first|omega|trivial|(show _=_;rfl)|(with_reducible constructor)<;>first|omega|trivial|rfl) ?_|fail
      exact J _ _ (by omega) hd (Own.mono (by assumption) (by omega) (by omega))
     ·rw [h3] at J
      have O:=Ty.valid_nz h4
      generalize tyZ e g n=z at *
      cases z with
      | mk k0 l0=>
      have ae:=hd
      obtain ⟨a2,aa,c2,rfl,ab,ac⟩:=Ty.is_mk.1 hd
      repeat' first|with_reducible intro _|simp only[Y1,Y2,Y3,Y4]|with_reducible refine X ?_ ?_|refine⟨_,_,_,rfl,?_⟩|refine⟨_,rfl,?_⟩|refine And.intro (by first|omega|trivial|(show _=_;rfl)|(with_reducible constructor)<;>first|omega|trivial|rfl) ?_|fail
      have O:(bne k0 0)=true:=by simpa [Ty.k] using O
      rw [O]
      exact J _ _ (by omega) ae (Own.mono (by assumption) (by omega) (by omega))
mutual
def Tm.sz:Tm->Nat
 | .mk _ _ _ _ _ _ l=>1+uH l
def uH:List Tm->Nat
 | []=>0
 | t::I=>t.sz+uH I
end
mutual
def Tm.dp:Tm->Nat
 | .mk _ _ _ _ _ _ l=>zEC l+1
def zEC:List Tm->Nat
 | []=>0
 | t::I=>max t.dp (zEC I)
end
mutual
theorem Tm.sz_cnt:∀ t:Tm,t.sz<=t.cnt
 | .mk _ _ _ _ ty re l=>by simp only [Tm.sz,Tm.cnt];have:=qt l;omega
theorem qt:∀ l:List Tm,uH l<=zh l
 | []=>oA _
 | t::I=>by simp only [uH,zh];have:=t.sz_cnt;have:=qt I;omega
end
mutual
theorem Tm.dp_cnt:∀ t:Tm,t.dp<=t.cnt
 | .mk _ _ _ _ ty re l=>by simp only [Tm.dp,Tm.cnt];have:=zBj l;omega
theorem zBj:∀ l:List Tm,zEC l<=zh l
 | []=>oA _
 | t::I=>by simp only [zEC,zh];have:=t.dp_cnt;have:=zBj I;omega
end
/-- one form of a body's nodes -/
def zNO (k:Int):Bool:=inB k 1 5||k==8
mutual
def Tm.isB:Tm->Bool
 | .mk k _ _ _ _ _ l=>zQF l&&zNO k
def zQF:List Tm->Bool
 | []=>true
 | t::I=>t.isB&&zQF I
end
def Tm.vd (t:Tm):Bool:=decide (t.sz<=80)&&decide (t.dp<=20)&&t.ok
theorem zB4:∀ (t:Tm) (d:D),t.Is d->∀ n:Int,0<=n->n<=1000->pp 153 [.dg 9 d,.j n] (if (t.sz:Int)<=n then n - t.sz else -1):=by
 refine Tm.ind λk nm ot n0 ty re l ih d hd n ah ai N Q hQ=>?_
 obtain ⟨t0,t1,r0,r1,a,es,c,rfl,hh,hlen,aa⟩:=Tm.is_mk.1 hd
 refine zHr N _ n Q λ_=>?_
 have key:=up aa hlen (λi xs=>∀ (m:Int) (N':Nat),N<=N' -> -1<=m->m<=1000->(∀ N'',N'<=N''->Q (if m<0 then -1 else if (uH xs:Int)<=m then m - uH xs else -1) N'') ->
  vg Q N m i (.ag [.j k,.t nm,.t ot,.j n0,t0,t1,r0,r1,.sl a 9 es c]) N') ?_ ?_
 ·rw [i64_in _ (by omega)]
  refine key (n - 1) N (oA _) (by omega) (by omega) λN' O=>Qi (hQ N' O) ?_
  simp only [Tm.sz]
  (repeat' split)<;>omega
 ·intro i ab _ m N' O h1 h2 J
  refine ql _ _ _ _ _ _ ?_
  repeat' first|with_reducible intro _|simp only[ab,Y1,Y2,Y3,Y4]|with_reducible refine X ?_ ?_|refine⟨_,_,_,rfl,?_⟩|refine⟨_,rfl,?_⟩|refine And.intro (by first|omega|trivial|(show _=_;rfl)|(with_reducible constructor)<;>first|omega|trivial|rfl) ?_|fail
  refine Qi (J _ (by assumption)) ?_
  simp only [uH]
  (repeat' split)<;>omega
 ·intro i x xs I _ ac m N' O h1 h2 J
  have hb:=I.b
  refine ql _ _ _ _ _ _ ?_
  repeat' first|with_reducible intro _|simp only[I.lt,I.w,oH,Y1,Y2,Y3,Y4]|with_reducible refine X ?_ ?_|refine⟨_,_,_,rfl,?_⟩|refine⟨_,rfl,?_⟩|refine And.intro (by first|omega|trivial|(show _=_;rfl)|(with_reducible constructor)<;>first|omega|trivial|rfl) ?_|refine (ih x I.m _ I.r m (by omega) (by omega)) _ _ ?_|fail
  ·refine ac _ _ (by omega) (by split<;>omega) (by split<;>omega) λN'' ae=>Qi (J N'' (by omega)) ?_
   simp only [uH]
   (repeat' split)<;>omega
  ·refine Qi (J _ (by assumption)) ?_
   rw [if_pos (by omega)]
   omega
theorem zGF:∀ (t:Tm) (d:D),t.Is d->t.cnt<=1073741824->pp 154 [.dg 9 d] t.dp:=by
 refine Tm.ind λk nm ot n0 ty re l ih d hd hc N Q hQ=>?_
 obtain ⟨t0,t1,r0,r1,a,es,c,rfl,hh,hlen,O⟩:=Tm.is_mk.1 hd
 refine zGe N _ Q λ_=>?_
 simp only [Tm.cnt] at hc
 have ac:=zBj l
 have key:=up O hlen (λi xs=>∀ (m:Nat) (N':Nat),N<=N'->max m (zEC xs)=zEC l->wu Q N (m:Int) i (.ag [.j k,.t nm,.t ot,.j n0,t0,t1,r0,r1,.sl a 9 es c]) N') ?_ ?_
 ·exact key 0 N (oA _) (by omega)
 ·intro i aa _ m N' J hm
  simp only [zEC] at hm
  refine rx _ _ _ _ _ _ ?_
  repeat' first|with_reducible intro _|simp only[aa,Y1,Y2,Y3,Y4]|with_reducible refine X ?_ ?_|refine⟨_,_,_,rfl,?_⟩|refine⟨_,rfl,?_⟩|refine And.intro (by first|omega|trivial|(show _=_;rfl)|(with_reducible constructor)<;>first|omega|trivial|rfl) ?_|fail
  rw [i64_in _ (by omega)]
  refine Qi (hQ _ (oe J (by assumption))) ?_
  simp only [Tm.dp]
  omega
 ·intro i x xs I _ ab m N' J hm
  have hb:=I.b
  have ae:=zn I.m
  simp only [zEC] at hm
  refine rx _ _ _ _ _ _ ?_
  repeat' first|with_reducible intro _|simp only[I.lt,I.w,oH,Y1,Y2,Y3,Y4]|with_reducible refine X ?_ ?_|refine⟨_,_,_,rfl,?_⟩|refine⟨_,rfl,?_⟩|refine And.intro (by first|omega|trivial|(show _=_;rfl)|(with_reducible constructor)<;>first|omega|trivial|rfl) ?_|refine (ih x I.m _ I.r (by omega)) _ _ ?_|refine (zC7 _ _) _ _ ?_|fail
  have e:max (m:Int) (x.dp:Int)=((max m x.dp:Nat):Int):=by omega
  rw [e]
  exact ab _ _ (by omega) (by omega)
theorem zA7 (t:Tm) (d:D) (hd:t.Is d) (hc:t.cnt<=1073741824):vh 113 [.dg 9 d] t.vd:=λN Q I=>by
 refine zBC N _ Q λ_=>?_
 by_cases O:t.sz<=80
 ·have J:((t.sz:Int)<=80):=by omega
  repeat' first|with_reducible intro _|simp only[if_pos J,Y1,Y2,Y3,Y4]|with_reducible refine X ?_ ?_|refine⟨_,_,_,rfl,?_⟩|refine⟨_,rfl,?_⟩|refine And.intro (by first|omega|trivial|(show _=_;rfl)|(with_reducible constructor)<;>first|omega|trivial|rfl) ?_|refine (zB4 t d hd _ (by omega) (by omega)) _ _ ?_|refine (zGF t d hd hc) _ _ ?_|refine (zIP t d hd hc) _ _ ?_|fail
  all_goals first | omega | skip
  ·have h8:t.dp<=20:=by omega
   refine Qb (I _ (by omega)) ?_;simp [Tm.vd, *]
  ·have h8:¬t.dp<=20:=by omega
   refine Qb (I _ (by omega)) ?_;simp [Tm.vd, *]
 ·have J:¬((t.sz:Int)<=80):=by omega
  repeat' first|with_reducible intro _|simp only[if_neg J,Y1,Y2,Y3,Y4]|with_reducible refine X ?_ ?_|refine⟨_,_,_,rfl,?_⟩|refine⟨_,rfl,?_⟩|refine And.intro (by first|omega|trivial|(show _=_;rfl)|(with_reducible constructor)<;>first|omega|trivial|rfl) ?_|refine (zB4 t d hd _ (by omega) (by omega)) _ _ ?_|fail
  all_goals first | omega | skip
  refine Qb (I _ (by omega)) ?_;simp [Tm.vd, *]
theorem zJZ:∀ (t:Tm) (d:D),t.Is d->vh 114 [.dg 9 d] t.isB:=by
 refine Tm.ind λk nm ot n0 ty re l ih d hd N Q hQ=>?_
 obtain ⟨t0,t1,r0,r1,a,es,c,rfl,hh,hlen,O⟩:=Tm.is_mk.1 hd
 refine zKn N _ Q λ_=>?_
 have key:=up O hlen (λi xs=>∀ (N':Nat),N<=N'->(∀ N'',N'<=N''->Q (zQF xs&&zNO k) N'')->v8 Q N i (.ag [.j k,.t nm,.t ot,.j n0,t0,t1,r0,r1,.sl a 9 es c]) N') ?_ ?_
 ·exact key N (oA _) hQ
 ·intro i aa _ N' ab J
  refine zAP _ _ _ _ _ ?_
  repeat' first|with_reducible intro _|simp only[aa,Y1,Y2,Y3,Y4]|with_reducible refine X ?_ ?_|refine⟨_,_,_,rfl,?_⟩|refine⟨_,rfl,?_⟩|refine And.intro (by first|omega|trivial|(show _=_;rfl)|(with_reducible constructor)<;>first|omega|trivial|rfl) ?_|refine (zAo _ _ _) _ _ ?_|fail
  all_goals (refine Qb (J _ (by omega)) ?_;simp [zQF,zNO, *])
 ·intro i x xs I _ ac N' ab J
  have hb:=I.b
  refine zAP _ _ _ _ _ ?_
  repeat' first|with_reducible intro _|simp only[I.lt,I.w,oH,Y1,Y2,Y3,Y4]|with_reducible refine X ?_ ?_|refine⟨_,_,_,rfl,?_⟩|refine⟨_,rfl,?_⟩|refine And.intro (by first|omega|trivial|(show _=_;rfl)|(with_reducible constructor)<;>first|omega|trivial|rfl) ?_|refine (ih x I.m _ I.r) _ _ ?_|fail
  ·refine Qb (J _ (by omega)) ?_;simp [zQF, *]
  ·exact ac _ (by omega) λN'' h=>Qb (J N'' (by omega)) (by simp [zQF, *])
theorem xk (l:List ByteArray) (hl:l.length<=4611686018427387904) (a:Option Addr) (c:Nat) (s:ByteArray):pp 78 [.sv a 0 (zA l) c,.str s] (sU (λx=>decide (x=s)) l 0):=λN Q hQ=>by
 have O:=wC l
 have hlen:(zA l).length<=4611686018427387904:=by rw [O.len];exact hl
 refine zGl N a _ c s Q λ_=>?_
 refine up O hlen (λi xs=>∀ (N':Nat),N<=N'->(∀ N'',N'<=N''->Q (sU (λx=>decide (x=s)) xs i) N'')->wm Q N a (zA l) c s i N') ?_ ?_ N (oA _) hQ
 ·intro i ab _ N' aa I
  refine r5 _ _ _ _ _ _ _ _ ?_
  repeat' first|with_reducible intro _|simp only[ab,Y1,Y2,Y3,Y4]|with_reducible refine X ?_ ?_|refine⟨_,_,_,rfl,?_⟩|refine⟨_,rfl,?_⟩|refine And.intro (by first|omega|trivial|(show _=_;rfl)|(with_reducible constructor)<;>first|omega|trivial|rfl) ?_|fail
  exact I _ (by omega)
 ·intro i x xs J _ ac N' aa I
  have hb:=J.b
  have hr:=J.r
  simp only [sU] at I
  refine r5 _ _ _ _ _ _ _ _ ?_
  repeat' first|with_reducible intro _|simp only[J.lt,J.w,oH,hr,Y1,Y2,Y3,Y4]|with_reducible refine X ?_ ?_|refine⟨_,_,_,rfl,?_⟩|refine⟨_,rfl,?_⟩|refine And.intro (by first|omega|trivial|(show _=_;rfl)|(with_reducible constructor)<;>first|omega|trivial|rfl) ?_|fail
  ·rename_i h _ _;subst h;exact Qi (I _ (by omega)) (by simp)
  ·rename_i h;exact ac _ aa λN'' h2=>Qi (I _ h2) (by rw [if_neg (by simpa using h)];simp)
/-- the parameters are well formed, behind the names that were seen -/
def zGD:List ByteArray->List Pm->Bool
 | _,[]=>true
 | seen,p::ps=>sZ p.nm&&(p.ty.base&&(!(seen.any λx=>decide (x=p.nm))&&zGD (seen++[p.nm]) ps))
def zCZ (g:List Pm):Bool:=zGD [] g&&decide (g.length<=5)
theorem xc (l:List ByteArray) (s:ByteArray):zA l++[.t s]=zA (l++[s]):=by simp [zA]
theorem zQ (l:List ByteArray):(zA l).length=l.length:=by simp [zA]
theorem zD9 {g:List Pm} {es:List D} (h:Pms g es) (hg:g.length<=1073741824) (a:Option Addr) (c:Nat):vh 112 [.sv a 4 es c] (zCZ g):=λN Q hQ=>by
 have hl:=h.all.len
 refine zDW N a es c Q λ_=>?_
 have key:=up h.all h.len (λi xs=>∀ (seen:List ByteArray) (q:Nat) (N':Nat),N<=N'->seen.length=i->(∀ N'',N'<=N''->Q (zGD seen xs&&decide (g.length<=5)) N'')->xv Q N a es c (zA seen).length q i (zA seen) q N') ?_ ?_
 ·exact key [] 0 N (oA _) rfl hQ
 ·intro i O hi seen q N' aa hs I
  refine tn _ _ _ _ _ _ _ _ _ _ _ ?_
  have e:(((zA seen).length:Nat):Int)=(g.length:Int):=by rw [zQ];omega
  repeat' first|with_reducible intro _|simp only[O,e,Y1,Y2,Y3,Y4]|with_reducible refine X ?_ ?_|refine⟨_,_,_,rfl,?_⟩|refine⟨_,rfl,?_⟩|refine And.intro (by first|omega|trivial|(show _=_;rfl)|(with_reducible constructor)<;>first|omega|trivial|rfl) ?_|fail
  refine Qb (I _ (by omega)) ?_
  rw [zGD,mo,nQ,nf,nf]
  omega
 ·intro i x xs J _ ab seen q N' aa hs I
  have hb:=J.b
  have hm:=J.m
  obtain ⟨t0,t1,hd,ac,ae⟩:=J.r
  simp only [zGD] at I
  refine tn _ _ _ _ _ _ _ _ _ _ _ ?_
  repeat' first|with_reducible intro _|simp only[J.lt,J.w,oH,hd,Y1,Y2,Y3,Y4]|with_reducible refine X ?_ ?_|refine⟨_,_,_,rfl,?_⟩|refine⟨_,rfl,?_⟩|refine And.intro (by first|omega|trivial|(show _=_;rfl)|(with_reducible constructor)<;>first|omega|trivial|rfl) ?_|refine (rS x.nm ac) _ _ ?_|refine (ri x.ty _ ae) _ _ ?_|refine (xk seen (by omega) _ _ x.nm) _ _ ?_|fail
  ·refine Qb (I _ (by omega)) ?_;simp [*]
  ·refine Qb (I _ (by omega)) ?_;simp [*]
  ·rename_i hx _ _
   have:=wL (λy=>decide (y=x.nm)) seen 0 (by omega)
   rw [mu hx] at this
   refine Qb (I _ (by omega)) ?_
   rw [<-this];simp
  ·rename_i hx
   have:=wL (λy=>decide (y=x.nm)) seen 0 (by omega)
   rw [lF hx] at this
   refine ⟨by unfold zC;rw [oE,zQ];simp only [oK,oO];omega,λc1=>?_⟩
   rw [xc]
   refine ab (seen++[x.nm]) _ _ (by omega) (by simp [hs]) λN'' h=>Qb (I N'' (by omega)) ?_
   rw [<-this];clear this;simp [*]
def rM (g:List Pm):List Tg:=g.map λp=>⟨p.nm,p.ty,0⟩
theorem zBF (g:List Pm):(rM g).length=g.length:=by simp [rM]
theorem zIm {g:List Pm} {es:List D} (h:Pms g es) (hg:g.length<=1073741824) (a:Option Addr) (c:Nat) (N:Nat) (Q:QT [.sl 4])
  (hQ:∀ a' es' c' N',N<=N'->Ctx (rM g) es'->Q a' es' c' N'):ACalls prog 116 [.sl 4] [.sv a 4 es c] N Q:=by
 have hl:=h.all.len
 refine zH4 N a es c Q λ_=>?_
 have key:=up h.all h.len (λi xs=>∀ (done:List D) (q:Nat) (N':Nat),N<=N'->All2 Tg.Is ((rM g).take i) done->done.length=i->vb Q N a es c done.length q i done q N') ?_ ?_
 ·exact key [] 0 N (oA _) rfl rfl
 ·intro i aa hi done q N' J hd hs
  refine pC _ _ _ _ _ _ _ _ _ _ _ ?_
  rw [oi (by rw [zBF];omega)] at hd
  repeat' first|with_reducible intro _|simp only[aa,Y1,Y2,Y3,Y4]|with_reducible refine X ?_ ?_|refine⟨_,_,_,rfl,?_⟩|refine⟨_,rfl,?_⟩|refine And.intro (by first|omega|trivial|(show _=_;rfl)|(with_reducible constructor)<;>first|omega|trivial|rfl) ?_|fail
  exact hQ _ _ _ _ (by omega) ⟨by omega,hd⟩
 ·intro i x xs I _ ab done q N' J hd hs
  have hb:=I.b
  have hm:=I.m
  obtain ⟨t0,t1,ac,ae,ah⟩:=I.r
  refine pC _ _ _ _ _ _ _ _ _ _ _ ?_
  have O:(rM g)[i]?=some ⟨x.nm,x.ty,0⟩:=by rw [rM,oG,I.g];rfl
  repeat' first|with_reducible intro _|simp only[I.lt,I.w,oH,ac,Y1,Y2,Y3,Y4]|with_reducible refine X ?_ ?_|refine⟨_,_,_,rfl,?_⟩|refine⟨_,rfl,?_⟩|refine And.intro (by first|omega|trivial|(show _=_;rfl)|(with_reducible constructor)<;>first|omega|trivial|rfl) ?_|fail
  refine ⟨by unfold zC;rw [oE];simp only [oK,oO];omega,λc1=>?_⟩
  exact ab _ _ _ J (by rw [xn O];exact hd.snoc ⟨_,_,rfl,ae,ah⟩) (by simp [hs])
/-- a body's type, or none -/
def xV (g:List Pm) (e:Tm):Option Ty:=if zCZ g=true/\e.vd=true/\e.isB=true then e.type (rM g) 0 else none
theorem zFF:∀ {g:List Pm} {seen:List ByteArray} {x:Pm},zGD seen g=true->x∈g->sZ x.nm=true/\x.ty.base=true
 | p::ps,seen,x,h,hx=>by
   simp only [zGD,oL] at h
   rcases oJ.1 hx with rfl | hx
   ·exact ⟨h.1,h.2.1⟩
   ·exact zFF h.2.2.2 hx
theorem zHO {t:Ty} (h:t.base=true):t.valid=true/\t.cnt=1:=by
 cases t with
 | mk k l=>
   simp only [Ty.base,Ty.k,Ty.as,oL,mD,mP] at h
   have I:l=[]:=oM (by omega)
   subst I
   refine ⟨?_,rfl⟩
   simp only [Ty.valid,Ty.cnt,zI,Ty.dep,sQ,Ty.form,sF,zAF]
   rcases h.1 with rfl | rfl<;>decide
mutual
theorem zLu:∀ t:Tm,t.isB=true->t.lev 0=true
 | .mk k _ _ _ _ _ l,h=>by
   simp only [Tm.isB,oL,zNO,mD,qY,mP] at h
   have e:yX k 0=0:=by unfold yX;rw [if_neg (by omega),if_neg (by omega)]
   simp only [Tm.lev,e,zM1 l h.1,Bool.and_true];decide
theorem zM1:∀ l:List Tm,zQF l=true->zAN l 0=true
 | [],_=>rfl
 | t::I,h=>by
   simp only [zQF,oL] at h
   simp only [zAN,zLu t h.1,zM1 I h.2,Bool.and_true]
end
theorem zKM {g:List Pm} {x:Tg} (h:x∈rM g):∃ p∈g,x=⟨p.nm,p.ty,0⟩:=by
 obtain ⟨p,I,rfl⟩:=oS.1 h
 exact ⟨p,I,rfl⟩
theorem zRi {g:List Pm} {e:Tm} (J:zCZ g=true) (O:e.vd=true) (hb:e.isB=true) (hc:e.cnt<=536870000):Pre (rM g) e 0:=by
 simp only [zCZ,oL,nC] at J
 simp only [Tm.vd,oL] at O
 refine ⟨O.2,zLu e hb,by rw [zBF];omega,λx hx=>?_⟩
 obtain ⟨p,I,rfl⟩:=zKM hx
 have:=(zHO (zFF J.1 I).2).2
 show p.ty.cnt<=64
 omega
theorem zFX {g:List Pm} {es:List D} (h:Pms g es) (O:g.length<=1073741824) {e:Tm} {d:D} (J:e.Is d) (hc:e.cnt<=536870000) (a:Option Addr) (c:Nat):zTZ 69 [.sv a 4 es c,.dg 9 d] (xV g e):=λN Q I=>by
 refine zFh N a es c d Q λ_ _=>?_
 repeat' first|with_reducible intro _|simp only[Y1,Y2,Y3,Y4]|with_reducible refine X ?_ ?_|refine⟨_,_,_,rfl,?_⟩|refine⟨_,rfl,?_⟩|refine And.intro (by first|omega|trivial|(show _=_;rfl)|(with_reducible constructor)<;>first|omega|trivial|rfl) ?_|refine (zD9 h O a c) _ _ ?_|refine (zA7 e d J (by omega)) _ _ ?_|refine (zJZ e d J) _ _ ?_|refine (zIm h O a c) _ _ ?_|fail
 ·rw [show xV g e=none by unfold xV;rw [if_neg (by simp [*])]] at I
  exact I _ _ (by omega) (vL 0)
 ·rw [show xV g e=none by unfold xV;rw [if_neg (by simp [*])]] at I
  exact I _ _ (by omega) (vL 0)
 ·rw [show xV g e=none by unfold xV;rw [if_neg (by simp [*])]] at I
  exact I _ _ (by omega) (vL 0)
 ·have hp:zCZ g=true:=by assumption
  have hv:e.vd=true:=by assumption
  have hb:e.isB=true:=by assumption
  rw [show xV g e=e.type (rM g) 0 by unfold xV;rw [if_pos ⟨hp,hv,hb⟩]] at I
  exact zH7 e d J _ _ _ _ _ (zRi hp hv hb hc) (by assumption) _ _ λx N4 aa hx _ _ N5 ab=>I _ _ (by omega) hx
theorem uh:∀ (t:Tm) (d:D),t.Is d->t.cnt<=1073741824->pp 65 [.dg 9 d] t.sz:=by
 refine Tm.ind λk nm ot n0 ty re l ih d hd hc N Q hQ=>?_
 obtain ⟨t0,t1,r0,r1,a,es,c,rfl,hh,hlen,J⟩:=Tm.is_mk.1 hd
 simp only [Tm.cnt] at hc
 have ac:=qt l
 refine zIA N _ Q λ_=>⟨_,_,_,rfl,?_⟩
 refine up J hlen (λi xs=>∀ (m:Nat) (N':Nat),N<=N'->m+uH xs=1+uH l->vY Q N m a es c es.length i N') ?_ ?_ 1 N (oA _) rfl
 ·intro i O _ m N' aa hm
  refine pI _ _ _ _ _ _ _ _ _ ?_
  simp only [uH] at hm
  repeat' first|with_reducible intro _|simp only[O,Y1,Y2,Y3,Y4]|with_reducible refine X ?_ ?_|refine⟨_,_,_,rfl,?_⟩|refine⟨_,rfl,?_⟩|refine And.intro (by first|omega|trivial|(show _=_;rfl)|(with_reducible constructor)<;>first|omega|trivial|rfl) ?_|fail
  exact Qi (hQ _ (by omega)) (by simp only [Tm.sz];omega)
 ·intro i x xs I _ ab m N' aa hm
  have hb:=I.b
  have ae:=zn I.m
  simp only [uH] at hm
  refine pI _ _ _ _ _ _ _ _ _ ?_
  repeat' first|with_reducible intro _|simp only[I.lt,I.w,oH,Y1,Y2,Y3,Y4]|with_reducible refine X ?_ ?_|refine⟨_,_,_,rfl,?_⟩|refine⟨_,rfl,?_⟩|refine And.intro (by first|omega|trivial|(show _=_;rfl)|(with_reducible constructor)<;>first|omega|trivial|rfl) ?_|refine (ih x I.m _ I.r (by omega)) _ _ ?_|fail
  rw [i64_in _ (by omega)]
  exact ab (m+x.sz) _ (by omega) (by omega)
theorem zGP:∀ (t:Tm) (d:D),t.Is d->t.cnt<=1073741824->pp 139 [.dg 9 d] t.dp:=by
 refine Tm.ind λk nm ot n0 ty re l ih d hd hc N Q hQ=>?_
 obtain ⟨t0,t1,r0,r1,a,es,c,rfl,hh,hlen,J⟩:=Tm.is_mk.1 hd
 simp only [Tm.cnt] at hc
 have ac:=zBj l
 refine zGo N _ Q λ_=>⟨_,_,_,rfl,?_⟩
 refine up J hlen (λi xs=>∀ (m:Nat) (N':Nat),N<=N'->max m (zEC xs)=zEC l->wq Q N m a es c es.length i N') ?_ ?_ 0 N (oA _) (by omega)
 ·intro i O _ m N' aa hm
  refine r9 _ _ _ _ _ _ _ _ _ ?_
  simp only [zEC] at hm
  repeat' first|with_reducible intro _|simp only[O,Y1,Y2,Y3,Y4]|with_reducible refine X ?_ ?_|refine⟨_,_,_,rfl,?_⟩|refine⟨_,rfl,?_⟩|refine And.intro (by first|omega|trivial|(show _=_;rfl)|(with_reducible constructor)<;>first|omega|trivial|rfl) ?_|fail
  rw [i64_in _ (by omega)]
  exact Qi (hQ _ (by omega)) (by simp only [Tm.dp];omega)
 ·intro i x xs I _ ab m N' aa hm
  have hb:=I.b
  have ae:=zn I.m
  simp only [zEC] at hm
  refine r9 _ _ _ _ _ _ _ _ _ ?_
  repeat' first|with_reducible intro _|simp only[I.lt,I.w,oH,Y1,Y2,Y3,Y4]|with_reducible refine X ?_ ?_|refine⟨_,_,_,rfl,?_⟩|refine⟨_,rfl,?_⟩|refine And.intro (by first|omega|trivial|(show _=_;rfl)|(with_reducible constructor)<;>first|omega|trivial|rfl) ?_|refine (ih x I.m _ I.r (by omega)) _ _ ?_|fail
  have e:(if (x.dp:Int)>(m:Int) then (x.dp:Int) else (m:Int))=((max m x.dp:Nat):Int):=by split<;>omega
  rw [e]
  exact ab (max m x.dp) _ (by omega) (by omega)
theorem zB1 (t:Tm) (d:D) (hd:t.Is d) (hc:t.cnt<=1073741824):vh 101 [.dg 9 d] t.vd:=λN Q I=>by
 refine zBB N _ Q λ_=>?_
 repeat' first|with_reducible intro _|simp only[Y1,Y2,Y3,Y4]|with_reducible refine X ?_ ?_|refine⟨_,_,_,rfl,?_⟩|refine⟨_,rfl,?_⟩|refine And.intro (by first|omega|trivial|(show _=_;rfl)|(with_reducible constructor)<;>first|omega|trivial|rfl) ?_|refine (zBD t d hd hc) _ _ ?_|refine (uh t d hd hc) _ _ ?_|refine (zGP t d hd hc) _ _ ?_|fail
 ·have J:t.sz<=80:=by omega
  refine Qb (I _ (by omega)) ?_
  have:decide ((t.dp:Int)<=20)=decide (t.dp<=20):=by rw [nQ,nf,nf];omega
  simp [Tm.vd, *]
 ·have J:¬t.sz<=80:=by omega
  refine Qb (I _ (by omega)) ?_;simp [Tm.vd, *]
 ·refine Qb (I _ (by omega)) ?_;simp [Tm.vd, *]
theorem zLE (t:Tm) (d:D) (hd:t.Is d):vh 98 [.dg 9 d] (match t with | .mk k _ _ _ _ _ _=>zNO k):=λN Q I=>by
 cases t with
 | mk k nm ot n0 ty re l=>
 obtain ⟨t0,t1,r0,r1,a,es,c,rfl,O,hlen,J⟩:=Tm.is_mk.1 hd
 refine zCU N _ Q λ_=>?_
 repeat' first|with_reducible intro _|simp only[Y1,Y2,Y3,Y4]|with_reducible refine X ?_ ?_|refine⟨_,_,_,rfl,?_⟩|refine⟨_,rfl,?_⟩|refine And.intro (by first|omega|trivial|(show _=_;rfl)|(with_reducible constructor)<;>first|omega|trivial|rfl) ?_|refine (yb _ _ _) _ _ ?_|fail
 all_goals (refine Qb (I _ (by omega)) ?_;simp [zNO, *])
theorem zD6 {p:Tm->Bool} {l:List Tm} {es:List D} (h:All2 Tm.Is l es) (hlen:es.length<=4611686018427387904) (ad:Addr) (hp:∀ x∈l,∀ d,x.Is d->vh 134 [.dg 9 d,.pd ad 0 (.fn 98 [])] (p x)) (a:Option Addr) (c:Nat) :
  vh 62 [.sv a 9 es c,.fn 134 [.pd ad 0 (.fn 98 [])]] (l.any p):=λN Q O=>by
 have hi:pp 105 [.sv a 9 es c,.fn 134 [.pd ad 0 (.fn 98 [])]] (sU p l 0):=λN Q O=>by
  refine tJ N a es c ad Q λ_=>?_
  refine up h hlen (λi xs=>∀ (N':Nat),N<=N'->(∀ N'',N'<=N''->Q (sU p xs i) N'')->yL Q N a es c ad es.length i N') ?_ ?_ N (oA _) O
  ·intro i aa _ N' ab I
   refine wV _ _ _ _ _ _ _ _ _ ?_
   repeat' first|with_reducible intro _|simp only[aa,Y1,Y2,Y3,Y4]|with_reducible refine X ?_ ?_|refine⟨_,_,_,rfl,?_⟩|refine⟨_,rfl,?_⟩|refine And.intro (by first|omega|trivial|(show _=_;rfl)|(with_reducible constructor)<;>first|omega|trivial|rfl) ?_|fail
   exact I _ (by omega)
  ·intro i x xs J _ ac N' ab I
   have hb:=J.b
   simp only [sU] at I
   refine wV _ _ _ _ _ _ _ _ _ ?_
   repeat' first|with_reducible intro _|simp only[J.lt,J.w,oH,Y1,Y2,Y3,Y4]|with_reducible refine X ?_ ?_|refine⟨_,_,_,rfl,?_⟩|refine⟨_,rfl,?_⟩|refine And.intro (by first|omega|trivial|(show _=_;rfl)|(with_reducible constructor)<;>first|omega|trivial|rfl) ?_|refine (hp x J.m _ J.r) _ _ ?_|fail
   ·exact Qi (I _ (by omega)) (by rw [if_pos (by assumption)])
   ·rename_i h;exact ac _ (by omega) λN'' h2=>Qi (I _ (by omega)) (by rw [h];simp)
 refine uJ N a es c ad Q λ_=>?_
 repeat' first|with_reducible intro _|simp only[Y1,Y2,Y3,Y4]|with_reducible refine X ?_ ?_|refine⟨_,_,_,rfl,?_⟩|refine⟨_,rfl,?_⟩|refine And.intro (by first|omega|trivial|(show _=_;rfl)|(with_reducible constructor)<;>first|omega|trivial|rfl) ?_|refine hi _ _ ?_|fail
 exact Qb (O _ (by omega)) (wL _ l 0 (by omega)).symm
theorem zMv:∀ l:List Tm,zQF l=!(l.any λx=>!x.isB)
 | []=>rfl
 | t::I=>by simp only [zQF,mZ,zMv I];cases t.isB<;>simp
theorem zLt:∀ (t:Tm) (d:D),t.Is d->vh 97 [.dg 9 d,.fn 98 []] t.isB:=by
 refine Tm.ind λk nm ot n ty re l ih d hd N Q I=>?_
 have O:=zLE _ d hd
 obtain ⟨t0,t1,r0,r1,a,es,c,rfl,hh,hlen,J⟩:=Tm.is_mk.1 hd
 simp only at O
 refine zAk N _ Q λ_=>?_
 simp only [Tm.isB,zMv] at I
 repeat' first|with_reducible intro _|simp only[Y1,Y2,Y3,Y4]|with_reducible refine X ?_ ?_|refine⟨_,_,_,rfl,?_⟩|refine⟨_,rfl,?_⟩|refine And.intro (by first|omega|trivial|(show _=_;rfl)|(with_reducible constructor)<;>first|omega|trivial|rfl) ?_|refine O _ _ ?_|refine (zD6 J hlen _ (λx hx d hd=>λN Q I=>qy N d _ Q λ_ N1 aa=>ih x hx d hd N1 _ λN2 ab ac N3 ae=>I N3 (by omega)) _ _) _ _ ?_|fail
 all_goals (refine Qb (I _ (by omega)) ?_;simp [*])
theorem zGN (l:List ByteArray) (I:l.length<=4611686018427387904) (a:Option Addr) (c:Nat) (s:ByteArray):pp 137 [.sv a 0 (zA l) c,.str s] (sU (λx=>decide (s=x)) l 0):=λN Q J=>by
 refine zGb N a _ c s Q λ_=>?_
 repeat' first|with_reducible intro _|simp only[Y1,Y2,Y3,Y4]|with_reducible refine X ?_ ?_|refine⟨_,_,_,rfl,?_⟩|refine⟨_,rfl,?_⟩|refine And.intro (by first|omega|trivial|(show _=_;rfl)|(with_reducible constructor)<;>first|omega|trivial|rfl) ?_|refine (zF1 l I a c s) _ _ ?_|fail
 exact J _ (by omega)
def zw (g:List Pm):List ByteArray:=g.map (·.nm)
theorem tC (g:List Pm):(zw g).length=g.length:=by simp [zw]
theorem qd {g:List Pm} {es:List D} (h:Pms g es) (hg:g.length<=1073741824) (a:Option Addr) (c:Nat) (N:Nat) (Q:QT [.sl 0])
  (hQ:∀ a' c' N',N<=N'->Q a' (zA (zw g)) c' N'):ACalls prog 44 [.sl 0] [.sv a 4 es c] N Q:=by
 have hl:=h.all.len
 refine zCm N a es c Q λ_=>?_
 have key:=up h.all h.len (λi xs=>∀ (q:Nat) (N':Nat),N<=N'->xZ Q N (zA ((zw g).take i)).length q a es c es.length i (zA ((zw g).take i)) q N') ?_ ?_
 ·exact key 0 N (oA _)
 ·intro i aa hi q N' J
  refine tH _ _ _ _ _ _ _ _ _ _ _ _ ?_
  rw [oi (by rw [tC];omega)]
  repeat' first|with_reducible intro _|simp only[aa,Y1,Y2,Y3,Y4]|with_reducible refine X ?_ ?_|refine⟨_,_,_,rfl,?_⟩|refine⟨_,rfl,?_⟩|refine And.intro (by first|omega|trivial|(show _=_;rfl)|(with_reducible constructor)<;>first|omega|trivial|rfl) ?_|fail
  exact hQ _ _ _ (by omega)
 ·intro i x xs I _ ab q N' J
  have hb:=I.b
  have hm:=I.m
  obtain ⟨t0,t1,ac,ae,ah⟩:=I.r
  refine tH _ _ _ _ _ _ _ _ _ _ _ _ ?_
  have O:(zw g)[i]?=some x.nm:=by rw [zw,oG,I.g];rfl
  repeat' first|with_reducible intro _|simp only[I.lt,I.w,oH,ac,Y1,Y2,Y3,Y4]|with_reducible refine X ?_ ?_|refine⟨_,_,_,rfl,?_⟩|refine⟨_,rfl,?_⟩|refine And.intro (by first|omega|trivial|(show _=_;rfl)|(with_reducible constructor)<;>first|omega|trivial|rfl) ?_|fail
  refine ⟨by unfold zC;rw [oE,zQ,o8];simp only [oK,oO];omega,λc1=>?_⟩
  rw [xc,<-xn O]
  exact ab _ _ J
theorem zHC {α:Type} (p:α->Bool) (s:α) (hs:p s=true) (rest:List α):∀ (seen:List α) (k:Int),(sU p (seen++s::rest) k=k+seen.length↔seen.any p=false)/\sU p (seen++s::rest) k≥k
 | [],k=>by simp [sU,hs]
 | x :: seen,k=>by
   have I:=zHC p s hs rest seen (k+1)
   simp only [nB,sU,mZ,oK]
   cases J:p x with
   | true=>simp;omega
   | false=>
     simp only [mj,ni,Bool.false_or]
     refine ⟨?_,by omega⟩
     rw [<-I.1];constructor<;>intro h<;>omega
theorem zQs {s:ByteArray} (l:List ByteArray):(l.any λx=>decide (s=x))=l.any λx=>decide (x=s):=by
 induction l with
 | nil=>rfl
 | cons x l I=>simp only [mZ,I,eq_comm]
theorem zD1 {g:List Pm} {es:List D} (h:Pms g es) (hg:g.length<=1073741824) (a:Option Addr) (c:Nat):vh 100 [.sv a 4 es c] (zCZ g):=λN Q hQ=>by
 have hl:=h.all.len
 refine zD4 N a es c Q λ_=>?_
 have au:=tC g
 have key:=λ(h5:g.length<=5) a3 c3 (N2:Nat) (aw:N<=N2)=>up h.all h.len (λi xs=>∀ (N':Nat),N2<=N'->(∀ N'',N'<=N''->Q (zGD ((zw g).take i) xs) N'')->xq Q N a3 (zA (zw g)) c3 a es c es.length i N') ?_ ?_
 ·repeat' first|with_reducible intro _|simp only[Y1,Y2,Y3,Y4]|with_reducible refine X ?_ ?_|refine⟨_,_,_,rfl,?_⟩|refine⟨_,rfl,?_⟩|refine And.intro (by first|omega|trivial|(show _=_;rfl)|(with_reducible constructor)<;>first|omega|trivial|rfl) ?_|refine (qd h hg a c) _ _ ?_|fail
  ·refine Qb (hQ _ (by omega)) ?_
   have:¬g.length<=5:=by omega
   simp [zCZ,this]
  ·have h5:g.length<=5:=by omega
   refine key h5 _ _ _ ?_ _ (oA _) λN'' aq=>Qb (hQ N'' ?_) ?_
   all_goals first | omega | skip
   simp [zCZ,h5]
 ·intro i ac hi N' ai I
  refine tw _ _ _ _ _ _ _ _ _ _ _ ?_
  repeat' first|with_reducible intro _|simp only[ac,Y1,Y2,Y3,Y4]|with_reducible refine X ?_ ?_|refine⟨_,_,_,rfl,?_⟩|refine⟨_,rfl,?_⟩|refine And.intro (by first|omega|trivial|(show _=_;rfl)|(with_reducible constructor)<;>first|omega|trivial|rfl) ?_|fail
  refine Qb (I _ (by omega)) ?_
  simp [zGD]
 ·intro i x xs J _ aj N' ai I
  have hb:=J.b
  have hm:=J.m
  obtain ⟨t0,t1,ak,al,am⟩:=J.r
  simp only [zGD] at I
  have O:(zw g)[i]?=some x.nm:=by rw [zw,oG,J.g];rfl
  have aa:=(zHC (λy=>decide (x.nm=y)) x.nm (by simp) ((zw g).drop (i+1)) ((zw g).take i) 0).1
  have ae:(zw g).take i++x.nm::(zw g).drop (i+1)=zw g:=by
   have ac:i<(zw g).length:=(oC.1 O).1
   have:=(oC.1 O).2
   rw [<-this,List.getElem_cons_drop,nL]
  rw [ae,o8,zQs] at aa
  have ah:min i (zw g).length=i:=by omega
  rw [ah] at aa
  refine tw _ _ _ _ _ _ _ _ _ _ _ ?_
  repeat' first|with_reducible intro _|simp only[J.lt,J.w,oH,ak,Y1,Y2,Y3,Y4]|with_reducible refine X ?_ ?_|refine⟨_,_,_,rfl,?_⟩|refine⟨_,rfl,?_⟩|refine And.intro (by first|omega|trivial|(show _=_;rfl)|(with_reducible constructor)<;>first|omega|trivial|rfl) ?_|refine (uo x.nm al) _ _ ?_|refine (rT x.ty _ am) _ _ ?_|refine (zGN (zw g) (by omega) _ _ x.nm) _ _ ?_|fail
  ·refine Qb (I _ (by omega)) ?_;simp [*]
  ·refine Qb (I _ (by omega)) ?_;simp [*]
  ·rename_i hx _ _
   have ab:¬((zw g).take i).any (λy=>decide (y=x.nm))=false:=λhc=>by have:=aa.2 hc;omega
   have ao:((zw g).take i).any (λy=>decide (y=x.nm))=true:=by simpa using ab
   refine Qb (I _ (by omega)) ?_
   rw [ao];simp
  ·rename_i hx
   have ab:((zw g).take i).any (λy=>decide (y=x.nm))=false:=aa.1 (by omega)
   refine aj _ (by omega) λN'' h2=>Qb (I N'' (by omega)) ?_
   rw [ab,xn O];simp [*]
theorem zQj {N N' M:Nat} {a:Option Addr} {d:D} (O:uW M [a]) (h:Own N N' d) (hM:M<=N):Off [a] d:=λb I ad J hc=>by
 have:=h.lo _ hc
 have:=O b I ad J
 omega
theorem zQt {g:List Pm} (J:zCZ g=true):zIK (rM g)=true:=by
 simp only [zCZ,oL,nC] at J
 simp only [zIK,oL,nC,zBF]
 refine ⟨?_,by omega⟩
 have:∀ l:List Pm,(∀ x∈l,sZ x.nm=true/\x.ty.base=true)->zJh (rM l)=true:=by
  intro l
  induction l with
  | nil=>intro _;rfl
  | cons p l ih=>
    intro h
    have O:=h p (by simp)
    have h2:=ih λx I=>h x (by simp [I])
    simp only [rM] at h2
    simp only [rM,om,zJh,Tg.ok,oL,h2,and_true]
    exact ⟨O.1,(zHO O.2).1,by decide⟩
 exact this g λx I=>zFF J.1 I
theorem zPI {g:List Pm} {e:Tm} (J:zCZ g=true) (O:e.vd=true) (hb:e.isB=true):xV g e=zGy (rM g) e 0:=by
 have I:=O
 simp only [Tm.vd,oL] at I
 rw [xV,if_pos ⟨J,O,hb⟩,zGy,if_pos ⟨zQt J,by simp [zL9,I.2,zLu e hb]⟩]
theorem zET {g:List Pm} {es:List D} (h:Pms g es) (hg:g.length<=1073741824) (ae:∀ x∈g,x.ty.cnt<=1073741824) {e:Tm} {d:D} (he:e.Is d) (hc:e.cnt<=1048576000 / 2) (a:Option Addr) (c:Nat):zUd 58 [.sv a 4 es c,.dg 9 d] (xV g e):=λN Q J=>by
 have hl:=h.all.len
 refine zFC N a es c d Q λ_ _=>?_
 have key:=λ(hp:zCZ g=true) (hv:e.vd=true) (hb:e.isB=true)=>up h.all h.len (λi xs=>∀ (done:List D) (q:Nat) (N':Nat),N<=N'->All2 Tg.Is ((rM g).take i) done->done.length=i->wJ Q N done.length q a es c es.length i d 0 none [] 0 done q N') ?_ ?_
 ·repeat' first|with_reducible intro _|simp only[Y1,Y2,Y3,Y4]|with_reducible refine X ?_ ?_|refine⟨_,_,_,rfl,?_⟩|refine⟨_,rfl,?_⟩|refine And.intro (by first|omega|trivial|(show _=_;rfl)|(with_reducible constructor)<;>first|omega|trivial|rfl) ?_|refine (zLt e d he) _ _ ?_|refine (zD1 h hg a c) _ _ ?_|refine (zB1 e d he (by omega)) _ _ ?_|fail
  ·rw [show xV g e=none by unfold xV;rw [if_neg (by simp [*])]] at J
   exact J _ _ (by omega) (vL 0) yc
  ·rw [show xV g e=none by unfold xV;rw [if_neg (by simp [*])]] at J
   exact J _ _ (by omega) (vL 0) yc
  ·rw [show xV g e=none by unfold xV;rw [if_neg (by simp [*])]] at J
   exact J _ _ (by omega) (vL 0) yc
  ·exact key (by assumption) (by assumption) (by assumption) [] 0 _ (by omega) rfl rfl
 ·intro i ah hi done q N' O hd hs
  refine sy _ _ _ _ _ _ _ _ _ _ _ _ _ _ _ _ _ ?_
  rw [oi (by rw [zBF];omega)] at hd
  rw [zPI hp hv hb] at J
  have ai:∀ x∈rM g,x.ty.cnt<=1073741824:=λx hx=>by obtain ⟨p,aj,rfl⟩:=zKM hx;exact ae p aj
  repeat' first|with_reducible intro _|simp only[ah,Y1,Y2,Y3,Y4]|with_reducible refine X ?_ ?_|refine⟨_,_,_,rfl,?_⟩|refine⟨_,rfl,?_⟩|refine And.intro (by first|omega|trivial|(show _=_;rfl)|(with_reducible constructor)<;>first|omega|trivial|rfl) ?_|fail
  rename_i ad au aw N1 ax aa
  refine zJI ⟨by omega,hd⟩ ai he hc ad q 0 N1 _ λx N2 ay hx ab _=>?_
  exact ⟨zQj aa ab (oA _),λ_ N3 ak=>J _ _ (by omega) hx (ab.mono (by omega) ak)⟩
 ·intro i x xs I _ al done q N' O hd hs
  have hb:=I.b
  have hm:=I.m
  obtain ⟨t0,t1,am,ao,aq⟩:=I.r
  refine sy _ _ _ _ _ _ _ _ _ _ _ _ _ _ _ _ _ ?_
  have ac:(rM g)[i]?=some ⟨x.nm,x.ty,0⟩:=by rw [rM,oG,I.g];rfl
  repeat' first|with_reducible intro _|simp only[I.lt,I.w,oH,am,Y1,Y2,Y3,Y4]|with_reducible refine X ?_ ?_|refine⟨_,_,_,rfl,?_⟩|refine⟨_,rfl,?_⟩|refine And.intro (by first|omega|trivial|(show _=_;rfl)|(with_reducible constructor)<;>first|omega|trivial|rfl) ?_|fail
  refine ⟨by unfold zC;rw [oE];simp only [oK,oO];omega,λc1=>?_⟩
  exact al _ _ _ O (by rw [xn ac];exact hd.snoc ⟨_,_,rfl,ao,aq⟩) (by simp [hs])
end Go.Proofs.YtlahkdflngobiaaGreatDoor
