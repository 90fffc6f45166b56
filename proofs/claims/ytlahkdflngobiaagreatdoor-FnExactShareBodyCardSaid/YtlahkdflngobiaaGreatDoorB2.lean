/- Parameters: what they are; the laws' sizes, copies, equality and marks on them. -/
import Derived.Test.YtlahkdflngobiaaGreatDoorA4
import Derived.Test.YtlahkdflngobiaaGreatDoorKa
import Derived.Test.YtlahkdflngobiaaGreatDoorA3
import Derived.Test.YtlahkdflngobiaaGreatDoorKi
set_option linter.unusedVariables false
set_option linter.unusedSimpArgs false
namespace Go.Proofs.YtlahkdflngobiaaGreatDoor
open Go Go.Proofs Go.Proofs.Tryz Go.IntWalk
structure Pm where
 nm:ByteArray
 ty:Ty
 dy:Bool
def Pm.Is (g:Pm) (d:D):Prop:=∃ t0 t1,d=.ag [.t g.nm,t0,t1,.lit (.bool g.dy)]/\g.nm.size<=4611686018427387904/\g.ty.Is (.ag [t0,t1])
structure Pms (g:List Pm) (es:List D):Prop where
 len:es.length<=4611686018427387904
 all:All2 Pm.Is g es
def zDG:List Pm->Nat
 | []=>0
 | g::I=>g.ty.cnt+zDG I
theorem zNv {g:List Pm} {es:List D} (h:Pms g es) (a:Option Addr) (c:Nat) (n:Int) (h0:0<=n) (h1:n<=1048576):zTW 6 [.sv a 4 es c,.j n] λr=>r = -1\/(0<=r/\r<=n/\(g.length:Int)<=n/\∀ x∈g,(x.ty.cnt:Int)<=n+1):=λN Q hQ=>by
 have hl:=h.all.len
 have hlen:=h.len
 have hx:∀ x∈g,∀ d,x.Is d->∀ n:Int,0<=n->n<=1048576->zTW 31 [.dg 4 d,.j n] λr=>r = -1\/(0<=r/\r<=n/\(x.ty.cnt:Int)<=n+1):=λx _ d hd n h0 h1 N Q hQ=>by
  obtain ⟨t0,t1,rfl,hs,ht⟩:=hd
  have:=x.ty.cnt_pos
  refine zGs N _ n Q λ_=>⟨_,rfl,?_⟩
  rw [i64_in (n - (x.nm.size:Int)) (by omega)]
  refine Br.dec (λaa N' J=>hQ _ _ J (.inl rfl)) λal=>?_
  intro N1 am
  refine zTF _ _ ht _ (by omega) (by omega) _ _ λr1 N2 ae ao=>?_
  refine λ_=>Br.dec (λaa N' J=>hQ _ _ (by omega) (.inl rfl)) λah=>?_
  intro N3 aq
  exact hQ _ _ (by omega) (by omega)
 refine zFI N a es c n Q λ_=>?_
 rw [i64_in _ (by omega)]
 have key:0<=n - (es.length:Int)->∀ (m:Int) (N':Nat),N<=N'->0<=m->m<=n->(∀ r N'',N'<=N''->(r = -1\/(0<=r/\r<=m/\∀ x∈g,(x.ty.cnt:Int)<=n+1))->Q r N'')->xS Q N a es c m (0:Nat) N':=λ_=>by
  refine up h.all h.len (λi xs=>∀ (m:Int) (N':Nat),N<=N'->0<=m->m<=n->(∀ r N'',N'<=N''->(r = -1\/(0<=r/\r<=m/\∀ x∈xs,(x.ty.cnt:Int)<=n+1))->Q r N'')->xS Q N a es c m i N') ?_ ?_
  ·intro i ai _ m N' J ab aj O
   refine s6 _ _ _ _ _ _ _ _ ?_
   repeat' first|with_reducible intro _|simp only[ai,Y1,Y2,Y3,Y4]|with_reducible refine X ?_ ?_|refine⟨_,_,_,rfl,?_⟩|refine⟨_,rfl,?_⟩|refine And.intro (by first|omega|trivial|(show _=_;rfl)|(with_reducible constructor)<;>first|omega|trivial|rfl) ?_|fail
   exact O _ _ (by omega) (.inr ⟨ab,by omega,by simp⟩)
  ·intro i x xs I _ ak m N' J ab aj O
   have hb:=I.b
   refine s6 _ _ _ _ _ _ _ _ ?_
   repeat' first|with_reducible intro _|simp only[I.lt,I.w,oH,Y1,Y2,Y3,Y4]|with_reducible refine X ?_ ?_|refine⟨_,_,_,rfl,?_⟩|refine⟨_,rfl,?_⟩|refine And.intro (by first|omega|trivial|(show _=_;rfl)|(with_reducible constructor)<;>first|omega|trivial|rfl) ?_|refine (hx x I.m _ I.r m ab (by omega)) _ _ ?_|fail
   ·exact O _ _ (by omega) (.inl rfl)
   ·rename_i r N2 ae hr au aa
    refine ak _ _ (by omega) (by omega) (by omega) λr2 N'' h2 ac=>O _ _ (by omega) ?_
    rcases ac with ac | ⟨h3,h4,h5⟩
    ·exact .inl ac
    ·refine .inr ⟨h3,by omega,λy hy=>?_⟩
     rcases oJ.1 hy with rfl | hy
     ·omega
     ·exact h5 y hy
 repeat' first|with_reducible intro _|simp only[Y1,Y2,Y3,Y4]|with_reducible refine X ?_ ?_|refine⟨_,_,_,rfl,?_⟩|refine⟨_,rfl,?_⟩|refine And.intro (by first|omega|trivial|(show _=_;rfl)|(with_reducible constructor)<;>first|omega|trivial|rfl) ?_|fail
 ·exact hQ _ _ (by omega) (.inl rfl)
 ·refine key (by omega) _ _ (oA _) (by omega) (by omega) λr N'' h2 hr=>hQ _ _ (by omega) ?_
  rcases hr with hr | ⟨h3,h4,h5⟩
  ·exact .inl hr
  ·exact .inr ⟨h3,by omega,by omega,h5⟩
theorem zP8 (x:Pm) (d:D) (hd:x.Is d) (hc:x.ty.cnt<=1073741824):Cop 40 4 [.dg 4 d] x.Is:=λN Q hQ=>by
 obtain ⟨t0,t1,rfl,hs,ht⟩:=hd
 refine zGW N _ Q λ_=>?_
 repeat' first|with_reducible intro _|simp only[Y1,Y2,Y3,Y4]|with_reducible refine X ?_ ?_|refine⟨_,_,_,rfl,?_⟩|refine⟨_,rfl,?_⟩|refine And.intro (by first|omega|trivial|(show _=_;rfl)|(with_reducible constructor)<;>first|omega|trivial|rfl) ?_|refine (zSX _ _ ht hc) _ _ ?_|fail
 rename_i N1 I x' N2 aa O ho _ _ N3 J
 exact hQ _ _ (by omega) ⟨_,_,rfl,hs,Ty.is_cells O⟩ (s9 (zR (zm ((vU O ho).mono I J) (zR uv) (by omega) (oA _))))
theorem pz {g:List Pm} {es:List D} (h:Pms g es) (hg:g.length<=1073741824) (hc:∀ x∈g,x.ty.cnt<=1073741824) (a:Option Addr) (c:Nat):zUx 9 4 [.sv a 4 es c] (Pms g):=λN Q hQ=>by
 have hl:=h.all.len
 refine zFk N a es c Q λ_=>⟨⟨by omega,by omega,by omega,by omega⟩,?_⟩
 rw [oH]
 have key:=up h.all h.len (λi xs=>∀ (done junk:List D) (N':Nat),N<=N'->All2 Pm.Is (g.take i) done->done.length=i->junk.length=xs.length->OwnL N N' done->wM Q N a es c es.length es.length i (done++junk) es.length N') ?_ ?_
 ·simpa using key [] (List.replicate es.length (.ag [.t (bytes []),.j 0,.sl none 2 [] 0,.lit (.bool false)])) N (oA _) rfl rfl (by simp [hl]) uv
 ·intro i aa hi done junk N' ab hd J O ho
  have:junk=[]:=oM (by simpa using O)
  subst this
  rw [oY]
  refine sW _ _ _ _ _ _ _ _ _ _ _ ?_
  rw [oi (by omega)] at hd
  have al:es.length=done.length:=by omega
  repeat' first|with_reducible intro _|simp only[aa,Y1,Y2,Y3,Y4]|with_reducible refine X ?_ ?_|refine⟨_,_,_,rfl,?_⟩|refine⟨_,rfl,?_⟩|refine And.intro (by first|omega|trivial|(show _=_;rfl)|(with_reducible constructor)<;>first|omega|trivial|rfl) ?_|fail
  rename_i a' N3 ac hf N4 ae
  exact hQ _ _ _ _ (by omega) ⟨by omega,hd⟩ ((tf ho hf ac).mono (oA _) ae)
 ·intro i x xs I _ ah done junk N' ab hd J O ho
  have hb:=I.b
  cases junk with
  | nil=>simp at O
  | cons y junk=>
    subst J
    refine sW _ _ _ _ _ _ _ _ _ _ _ ?_
    repeat' first|with_reducible intro _|simp only[I.lt,I.w,oH,o6,oE,oK,Y1,Y2,Y3,Y4]|with_reducible refine X ?_ ?_|refine⟨_,_,_,rfl,?_⟩|refine⟨_,rfl,?_⟩|refine And.intro (by first|omega|trivial|(show _=_;rfl)|(with_reducible constructor)<;>first|omega|trivial|rfl) ?_|refine (zP8 x _ I.r (hc x I.m)) _ _ ?_|fail
    all_goals first | (exfalso;omega) | skip
    rename_i N1 ai x' N2 aj hx ak _ _
    rw [zDf]
    have:=ah (done++[x']) junk _ (by omega) (by rw [xo I.g];exact hd.snoc hx) (by simp) (by simpa using O) (zm (ho.mono (oA _) ai) (zo ak) (by omega) aj)
    simpa using this
theorem zPp (x:Pm) (d e:D) (hd:x.Is d) (J:x.Is e):vn 50 [.dg 4 d,.dg 4 e] true:=λN Q O=>by
 obtain ⟨t0,t1,rfl,hs,ht⟩:=hd
 obtain ⟨u0,u1,rfl,aa,I⟩:=J
 refine zG4 N _ _ Q λ_ _=>?_
 repeat' first|with_reducible intro _|simp only[beq_self_eq_true,Y1,Y2,Y3,Y4]|with_reducible refine X ?_ ?_|refine⟨_,_,_,rfl,?_⟩|refine⟨_,rfl,?_⟩|refine And.intro (by first|omega|trivial|(show _=_;rfl)|(with_reducible constructor)<;>first|omega|trivial|rfl) ?_|refine (zCU _ _ _ ht I) _ _ ?_|fail
 all_goals first | exact absurd rfl (by assumption) | skip
 all_goals exact O _ (by omega)
theorem zOT {g:List Pm} {es fs:List D} (h:Pms g es) (h':Pms g fs) (a b:Option Addr) (c c':Nat):vn 13 [.sv a 4 es c,.sv b 4 fs c'] true:=λN Q hQ=>by
 have hl:=h.all.len
 have ab:=h'.all.len
 have key:=up h.all h.len (λi xs=>∀ (N':Nat),N<=N'->wR Q N a es c b fs c' i N') ?_ ?_
 ·refine zFd N _ _ _ _ _ _ Q λ_ _=>?_
  repeat' first|with_reducible intro _|simp only[Y1,Y2,Y3,Y4]|with_reducible refine X ?_ ?_|refine⟨_,_,_,rfl,?_⟩|refine⟨_,rfl,?_⟩|refine And.intro (by first|omega|trivial|(show _=_;rfl)|(with_reducible constructor)<;>first|omega|trivial|rfl) ?_|fail
  ·omega
  ·exact key N (oA _)
 ·intro i J hi N' O
  refine sV _ _ _ _ _ _ _ _ _ _ ?_
  repeat' first|with_reducible intro _|simp only[J,Y1,Y2,Y3,Y4]|with_reducible refine X ?_ ?_|refine⟨_,_,_,rfl,?_⟩|refine⟨_,rfl,?_⟩|refine And.intro (by first|omega|trivial|(show _=_;rfl)|(with_reducible constructor)<;>first|omega|trivial|rfl) ?_|fail
  exact hQ _ (by omega)
 ·intro i x xs I _ aa N' O
  have hb:=I.b
  refine sV _ _ _ _ _ _ _ _ _ _ ?_
  repeat' first|with_reducible intro _|simp only[I.lt,I.w,oH,Y1,Y2,Y3,Y4]|with_reducible refine X ?_ ?_|refine⟨_,_,_,rfl,?_⟩|refine⟨_,rfl,?_⟩|refine And.intro (by first|omega|trivial|(show _=_;rfl)|(with_reducible constructor)<;>first|omega|trivial|rfl) ?_|refine (zPp x _ _ I.r (h'.all.get I.g)) _ _ ?_|fail
  exact aa _ (by omega)
theorem zMe:∀ (l:List Pm) (rest:List D),All2 Pm.Is l rest->∀ (done es:List D),zB (done++rest)=zB es->(zB (done++rest)).Nodup->y7 rest->(done++rest).length<=4611686018427387904 ->
  ∀ (T:List Nat),(∀ b∈zB es,b∈T)->∀ (b0 N m c t:Nat) (k K:Int),0<=k->k+3*zDG l<=K->K<=288230376151711744->∀ (q N1:Nat),N<=N1->m=(done++rest).length ->
  yi T b0 (λk' x N'=>N<=N'/\∃ es',x=.ag es'/\es'.length=m/\zB es'=zB es/\0<=k'/\k'<=K) N m c k done.length t (done++rest) q N1
 | [],rest,hr,done,es,hf,ae,ak,hlen,T,hT,b0,N,m,c,t,k,K,hk,hK,am,q,N1,ax,hm=>by
   cases hr
   rw [oY] at *
   simp only [zDG] at hK
   refine vv _ _ _ _ _ _ _ _ _ _ _ _ (Br.of (λhc=>?_) λ_=>⟨rfl,λN3 ay=>⟨by omega,done,rfl,hm.symm,hf,hk,by omega⟩⟩)
   have:=nP hc;omega
 | ⟨nm,ty,lv⟩::ts,rest,hr,done,es,hf,ae,ak,hlen,T,hT,b0,N,m,c,t,k,K,hk,hK,am,q,N1,ax,hm=>by
   obtain ⟨d,ds,rfl,az,a6⟩:=hr
   obtain ⟨t0,t1,rfl,hs,ht⟩:=az
   cases ty with
   | mk kk lt=>
   obtain ⟨O,I,cT,aa,al,ao⟩:=Ty.is_mk.1 ht
   injection aa with aa
   injection aa with e1 e2
   injection e2 with e2 _
   subst e1;subst e2
   simp only [zDG,Ty.cnt] at hK
   have ah:(done.length:Int)<(m:Int):=by rw [hm];simp;omega
   have J:∀ d:D,done.length<(done++d::ds).length:=λd=>by simp
   have ab:∀ (x y z:Value) (es':List D),zB es'=zB I->es'.length=I.length->(D.ag [.lit x,.lit y,.sl O 2 es' cT,.lit z]).foot=(D.ag [.t nm,.j kk,.sl O 2 I cT,.lit (.bool lv)]).foot:=λx y z es' h1 h2=>by
    have:=rT (a:=O) (z:=2) (c:=cT) h2 h1
    simp only [D.foot,zB] at this ⊢
    rw [this]
   have aq:(D.ag [.t nm,.j kk,.sl O 2 I cT,.lit (.bool lv)]).foot=(D.sl O 2 I cT).foot:=by simp only [D.foot,zB,oR,oY]
   have ai:(D.sl O 2 I cT).foot.Nodup:=by rw [<-aq];exact zJ1 (b:=[]) ae
   have aj:(D.sl O 2 I cT).Flat0:=ak.1.2.2.1
   have au:∀ b∈(D.sl O 2 I cT).foot,b∈T:=λb hb=>hT b (hf ▸ by rw [zE];exact oX _ (by simp only [zB];exact oV _ (aq ▸ hb)))
   refine vv _ _ _ _ _ _ _ _ _ _ _ _ (Br.of (λ_=>?_) λhc=>absurd ah (nl hc))
   intro N2 a8
   refine zNc k hk (by omega) N2 _ λs N3 ay=>?_
   intro ba
   rw [i64_in (k+1) (by omega)]
   simp only [oH,o6,rM,zDf,zIz,p40,p41]
   have B:∀ x:D,(0<=(done.length:Int)/\(done.length:Int)<(m:Int)/\done.length<(done++x::ds).length):=λx=>⟨by omega,ah,J x⟩
   refine ⟨B _,J _,B _,J _,B _,J _,O,I,cT,rfl,⟨ai,aj⟩,⟨au⟩,J _,by simp,rfl,⟨qo ae (ab _ _ _ I rfl rfl)⟩,⟨by simp⟩,λN4 bb=>?_⟩
   rw [i64_in (k+1+1) (by omega)]
   refine tL lt I (zEb ao) O cT ⟨ai,aj⟩ al (k+1+1) (by omega) (by omega) N4 _ λac N5 bc h1 h2 h3=>?_
   have bd:=wb lt (k+1+1)
   intro a7
   rw [i64_in ((ze lt (k+1+1)).2+1) (by omega),i64_in ((done.length:Int)+1) (by rw [hm] at ah;simp at ah hlen;omega)]
   simp only [oH,o6,rM,zDf,zIz,p42,p43]
   refine ⟨by omega,B _,J _,?_⟩
   have aw:=ab (.string s) (.int .i64 (k+1)) (.bool (Int.tmod (ze lt (k+1+1)).2 3==0)) ac h2 h3
   have:=zMe ts ds a6 (done++[.ag [.t s,.j (k+1),.sl O 2 ac cT,.lit (.bool (Int.tmod (ze lt (k+1+1)).2 3==0))]]) es
    (by rw [o0,nq,zDJ aw];exact hf) (by rw [o0,nq];exact qo ae aw) ak.2 (by simpa using hlen) T hT b0 N m c t ((ze lt (k+1+1)).2+1) K
    (by omega) (by omega) am q N5 (by omega) (by rw [hm];simp)
   have e1:((done++[D.ag [.t s,.j (k+1),.sl O 2 ac cT,.lit (.bool (Int.tmod (ze lt (k+1+1)).2 3==0))]]).length:Int)=(done.length:Int)+1:=by simp
   rw [e1] at this
   simpa using this
theorem zJ9 {g:List Pm} {es:List D} (h:Pms g es) (a:Option Addr) (c:Nat) (ht:Tree (.sl a 4 es c)) (k:Int) (hk:0<=k) (aa:k+3*zDG g<=288230376151711744) (N:Nat) (R:D->Int->Nat->Prop)
  (hR:∀ es' k' N',N<=N'->zB es'=zB es->es'.length=es.length->0<=k'->k'<=k+3*zDG g->R (.sl a 4 es' c) k' N'):MC prog 14 (.sl a 4 es c) k N R:=by
 have hlen:=h.len
 by_cases J:es=[]
 ·subst J
  have hg:g=[]:=oM (by have:=h.all.len;simpa using this.symm)
  subst hg
  refine zOe (zDK N a [] c k _ λ_=>zAu _ _ _ _ _ _ _ _ (Br.of (λhc=>?_) λ_ N2 ab=>?_))
  ·simp at hc
  ·exact hR [] k N2 ab rfl rfl hk (by simp [zDG])
 ·cases a with
  | none=>exact zMU (by kernel_rfl) J
  | some ad=>
    have I:(D.sl (some ad) 4 es c).foot=ad.block::zB es:=by simp [D.foot,J]
    have O:=ht.nd
    rw [I] at O
    refine zCo N ad es c k R (λk' x N'=>N<=N'/\∃ es',x=.ag es'/\es'.length=es.length/\zB es'=zB es/\0<=k'/\k'<=k+3*zDG g) ht J (by unfold maxLen;omega) (λt=>?_) ?_
    ·have:=zMe g es h.all [] es rfl (nG.1 O).2 ht.fl.2 hlen (D.sl (some ad) 4 es c).foot (λb hb=>by rw [I];simp [hb]) ad.block N es.length c t k (k+3*zDG g) hk (Int.le_refl _) aa es.length N (oA _) rfl
     simpa using this
    ·rintro k' x N' ⟨ac,es',rfl,h1,h2,h3,h4⟩
     exact ⟨es',rfl,h1,h2,hR es' k' N' ac h2 h1 h3 h4⟩
theorem yb (n a b:Int):vn 99 [.j n,.j a,.j b] (inB n a b):=λN Q I=>by
 refine zJa N n a b Q ?_
 repeat' first|with_reducible intro _|simp only[Y1,Y2,Y3,Y4]|with_reducible refine X ?_ ?_|refine⟨_,_,_,rfl,?_⟩|refine⟨_,rfl,?_⟩|refine And.intro (by first|omega|trivial|(show _=_;rfl)|(with_reducible constructor)<;>first|omega|trivial|rfl) ?_|fail
 all_goals simpa [inB, *] using I _ (by omega)
def sd {α:Type} (p:α->Bool):List α->Int->Int
 | [],_ => -1
 | x::xs,i=>if p x then i else sd p xs (i+1)
theorem wP {α:Type} (p:α->Bool):∀ (l:List α) (i:Int),0<=i->decide (sd p l i≥0)=l.any p
 | [],i,h=>by simp [sd]
 | x::xs,i,h=>by
   have I:=wP p xs (i+1) (by omega)
   rw [nQ,nf] at I ⊢
   simp only [sd,mZ,mD]
   by_cases J:p x=true
   ·simp only [J,lJ,true_or,iff_true];exact h
   ·simpa [J] using I
/-- a row of words -/
def zA (l:List ByteArray):List D:=l.map λs=>.t s
theorem wE:∀ l:List ByteArray,All2 (λs d=>d=.t s) l (zA l)
 | []=>rfl
 | s::l=>⟨_,_,rfl,rfl,wE l⟩
theorem zGJ (l:List ByteArray) (hl:l.length<=4611686018427387904) (a:Option Addr) (c:Nat) (s:ByteArray):p9 158 [.sv a 0 (zA l) c,.str s] (sd (λx=>decide (s=x)) l 0):=λN Q hQ=>by
 have O:=wE l
 have hlen:(zA l).length<=4611686018427387904:=by rw [O.len];exact hl
 refine zAz N a _ c s Q λ_=>?_
 refine up O hlen (λi xs=>∀ (N':Nat),N<=N'->(∀ N'',N'<=N''->Q (sd (λx=>decide (s=x)) xs i) N'')->yz Q N a (zA l) c s ((zA l).length:Int) i N') ?_ ?_ N (oA _) hQ
 ·intro i ab _ N' aa I
  refine uK _ _ _ _ _ _ _ _ _ ?_
  repeat' first|with_reducible intro _|simp only[ab,Y1,Y2,Y3,Y4]|with_reducible refine X ?_ ?_|refine⟨_,_,_,rfl,?_⟩|refine⟨_,rfl,?_⟩|refine And.intro (by first|omega|trivial|(show _=_;rfl)|(with_reducible constructor)<;>first|omega|trivial|rfl) ?_|fail
  exact I _ (by omega)
 ·intro i x xs J _ ac N' aa I
  have hb:=J.b
  have hr:=J.r
  simp only [sd] at I
  refine uK _ _ _ _ _ _ _ _ _ ?_
  repeat' first|with_reducible intro _|simp only[J.lt,J.w,oH,hr,Y1,Y2,Y3,Y4]|with_reducible refine X ?_ ?_|refine⟨_,_,_,rfl,?_⟩|refine⟨_,rfl,?_⟩|refine And.intro (by first|omega|trivial|(show _=_;rfl)|(with_reducible constructor)<;>first|omega|trivial|rfl) ?_|fail
  ·rename_i h _ _;subst h;exact Qi (I _ (by omega)) (by simp)
  ·rename_i h;exact ac _ aa λN'' h2=>Qi (I _ h2) (by rw [if_neg (by simpa using h)];simp)
theorem xn (l:List ByteArray) (I:l.length<=4611686018427387904) (a:Option Addr) (c:Nat) (s:ByteArray):vn 117 [.sv a 0 (zA l) c,.str s] (l.any λx=>decide (s=x)):=λN Q J=>by
 refine qZ N a _ c s Q λ_=>?_
 repeat' first|with_reducible intro _|simp only[Y1,Y2,Y3,Y4]|with_reducible refine X ?_ ?_|refine⟨_,_,_,rfl,?_⟩|refine⟨_,rfl,?_⟩|refine And.intro (by first|omega|trivial|(show _=_;rfl)|(with_reducible constructor)<;>first|omega|trivial|rfl) ?_|refine (zGJ l I a c s) _ _ ?_|fail
 exact Qb (J _ (by omega)) (wP _ l 0 (by omega)).symm
theorem ux (s:ByteArray) (hs:s.size<=4611686018427387904):vn 135 [.str s] (sk s):=λN Q hQ=>by
 refine zI4 N s Q ?_
 have key:=upN hs (λi=>∀ N',N<=N'->(∀ N'',N'<=N''->Q (sG s i&&zHr s) N'')->xU Q N s (s.size:Int) i N') ?_ ?_
 ·exact key N (oA _) hQ
 ·intro J N' O I
  have hc:=xn [bytes [105,102],bytes [108,101,116],bytes [108,105,102,116],bytes [114,101,99],bytes [114,117,110]] (by simp)
  simp only [zA,List.map] at hc
  refine pG _ _ _ _ _ _ ?_
  repeat' first|with_reducible intro _|simp only[J,Y1,Y2,Y3,Y4]|with_reducible refine X ?_ ?_|refine⟨_,_,_,rfl,?_⟩|refine⟨_,rfl,?_⟩|refine And.intro (by first|omega|trivial|(show _=_;rfl)|(with_reducible constructor)<;>first|omega|trivial|rfl) ?_|refine (yb _ _ _) _ _ ?_|refine (hc _ _ _) _ _ ?_|fail
  all_goals (refine Qb (I _ (by omega)) ?_;rw [zDS])
  ·simp only [zHr,mZ,List.any_nil,Bool.or_false, *]
   cases decide (s=bytes [105,102])<;>cases decide (s=bytes [108,101,116])<;>cases decide (s=bytes [108,105,102,116])<;>cases decide (s=bytes [114,101,99])<;>cases decide (s=bytes [114,117,110])<;>rfl
  ·simp [zHr, *]
 ·intro i hi J hw aa N' O I
  refine pG _ _ _ _ _ _ ?_
  rw [zB4 hi] at I
  repeat' first|with_reducible intro _|simp only[J,hw,oH,Y1,Y2,Y3,Y4]|with_reducible refine X ?_ ?_|refine⟨_,_,_,rfl,?_⟩|refine⟨_,rfl,?_⟩|refine And.intro (by first|omega|trivial|(show _=_;rfl)|(with_reducible constructor)<;>first|omega|trivial|rfl) ?_|fail
  all_goals first
   | (refine Qb (I _ (by omega)) ?_;unfold zHo zDc;simp only [*];simp;done)
   | (refine aa _ (by omega) λN'' h=>Qb (I N'' (by omega)) ?_;unfold zHo zDc;simp only [*];simp;done)
theorem zCx:∀ (t:Ty) (d:D),t.Is d->t.cnt<=1073741824->p9 195 [.dg 2 d] t.cnt:=by
 refine Ty.ind λk l ih d hd hc N Q hQ=>?_
 obtain ⟨a,es,c,rfl,hlen,J⟩:=Ty.is_mk.1 hd
 simp only [Ty.cnt] at hc
 refine zC9 N _ Q λ_=>⟨_,_,_,rfl,?_⟩
 refine up J hlen (λi xs=>∀ (m:Nat) (N':Nat),N<=N'->m+zI xs=1+zI l->xY Q N m a es c es.length i N') ?_ ?_ 1 N (oA _) rfl
 ·intro i O _ m N' aa hm
  refine tE _ _ _ _ _ _ _ _ _ ?_
  simp only [zI] at hm
  repeat' first|with_reducible intro _|simp only[O,Y1,Y2,Y3,Y4]|with_reducible refine X ?_ ?_|refine⟨_,_,_,rfl,?_⟩|refine⟨_,rfl,?_⟩|refine And.intro (by first|omega|trivial|(show _=_;rfl)|(with_reducible constructor)<;>first|omega|trivial|rfl) ?_|fail
  exact Qi (hQ _ (by omega)) (by simp only [Ty.cnt];omega)
 ·intro i x xs I _ ab m N' aa hm
  have hb:=I.b
  have ac:=w6 I.m
  simp only [zI] at hm
  refine tE _ _ _ _ _ _ _ _ _ ?_
  repeat' first|with_reducible intro _|simp only[I.lt,I.w,oH,Y1,Y2,Y3,Y4]|with_reducible refine X ?_ ?_|refine⟨_,_,_,rfl,?_⟩|refine⟨_,rfl,?_⟩|refine And.intro (by first|omega|trivial|(show _=_;rfl)|(with_reducible constructor)<;>first|omega|trivial|rfl) ?_|refine (ih x I.m _ I.r (by omega)) _ _ ?_|fail
  rw [i64_in _ (by omega)]
  exact ab (m+x.cnt) _ (by omega) (by omega)
theorem zBG:∀ (t:Ty) (d:D),t.Is d->t.cnt<=1073741824->p9 196 [.dg 2 d] t.dep:=by
 refine Ty.ind λk l ih d hd hc N Q hQ=>?_
 obtain ⟨a,es,c,rfl,hlen,J⟩:=Ty.is_mk.1 hd
 simp only [Ty.cnt] at hc
 have ac:=zAC l
 refine zB9 N _ Q λ_=>⟨_,_,_,rfl,?_⟩
 refine up J hlen (λi xs=>∀ (m:Nat) (N':Nat),N<=N'->max m (sX xs)=sX l->xF Q N m a es c es.length i N') ?_ ?_ 0 N (oA _) (by omega)
 ·intro i O _ m N' aa hm
  refine uo _ _ _ _ _ _ _ _ _ ?_
  simp only [sX] at hm
  repeat' first|with_reducible intro _|simp only[O,Y1,Y2,Y3,Y4]|with_reducible refine X ?_ ?_|refine⟨_,_,_,rfl,?_⟩|refine⟨_,rfl,?_⟩|refine And.intro (by first|omega|trivial|(show _=_;rfl)|(with_reducible constructor)<;>first|omega|trivial|rfl) ?_|fail
  rw [i64_in _ (by omega)]
  exact Qi (hQ _ (by omega)) (by simp only [Ty.dep];omega)
 ·intro i x xs I _ ab m N' aa hm
  have hb:=I.b
  have ae:=w6 I.m
  simp only [sX] at hm
  refine uo _ _ _ _ _ _ _ _ _ ?_
  repeat' first|with_reducible intro _|simp only[I.lt,I.w,oH,Y1,Y2,Y3,Y4]|with_reducible refine X ?_ ?_|refine⟨_,_,_,rfl,?_⟩|refine⟨_,rfl,?_⟩|refine And.intro (by first|omega|trivial|(show _=_;rfl)|(with_reducible constructor)<;>first|omega|trivial|rfl) ?_|refine (ih x I.m _ I.r (by omega)) _ _ ?_|fail
  have e:(if (x.dep:Int)>(m:Int) then (x.dep:Int) else (m:Int))=((max m x.dep:Nat):Int):=by split<;>omega
  rw [e]
  exact ab _ _ (by omega) (by omega)
theorem zEy (t:Ty) (d:D) (hd:t.Is d):vn 198 [.dg 2 d] (zAT t.k t.as.length):=λN Q J=>by
 cases t with
 | mk k l=>
 obtain ⟨a,es,c,rfl,hlen,O⟩:=Ty.is_mk.1 hd
 have hl:=O.len
 simp only [Ty.k,Ty.as] at J
 refine zAL N _ Q λ_=>?_
 cases I:inB k 1 4 with
 | false=>
   repeat' first|with_reducible intro _|simp only[I,Y1,Y2,Y3,Y4]|with_reducible refine X ?_ ?_|refine⟨_,_,_,rfl,?_⟩|refine⟨_,rfl,?_⟩|refine And.intro (by first|omega|trivial|(show _=_;rfl)|(with_reducible constructor)<;>first|omega|trivial|rfl) ?_|refine (yb _ _ _) _ _ ?_|fail
   refine Qb (J _ (by omega)) ?_
   have:¬(1<=k/\k<=4):=λh=>by rw [qk.2 h] at I;cases I
   unfold zAT
   rw [if_neg (by omega),if_neg (by omega),if_neg (by omega)]
 | true=>
   have hb:=qk.1 I
   have w0:IntKind.i64.wrap 0=0:=rfl
   have w1:IntKind.i64.wrap 1=1:=rfl
   have w2:IntKind.i64.wrap 2=2:=rfl
   have w3:IntKind.i64.wrap 3=3:=rfl
   have hk:k=1\/k=2\/k=3\/k=4:=by omega
   rcases hk with rfl | rfl | rfl | rfl
   all_goals
    repeat' first|with_reducible intro _|simp only[I,w0,w1,w2,w3,Y1,Y2,Y3,Y4]|with_reducible refine X ?_ ?_|refine⟨_,_,_,rfl,?_⟩|refine⟨_,rfl,?_⟩|refine And.intro (by first|omega|trivial|(show _=_;rfl)|(with_reducible constructor)<;>first|omega|trivial|rfl) ?_|refine (yb _ _ _) _ _ ?_|fail
    refine Qb (J _ (by omega)) ?_
    simp [zAT,hl]
theorem zGH:∀ l:List Ty,sM l=!(l.any λx=>!x.form)
 | []=>rfl
 | t::I=>by simp only [sM,mZ,zGH I];cases t.form<;>simp
theorem zEx {p:Ty->Bool} {l:List Ty} {es:List D} (h:All2 Ty.Is l es) (hlen:es.length<=4611686018427387904) (ad:Addr) (hp:∀ x∈l,∀ d,x.Is d->vn 218 [.dg 2 d,.pd ad 0 (.fn 198 [])] (p x)) (a:Option Addr) (c:Nat) :
  vn 217 [.sv a 2 es c,.fn 218 [.pd ad 0 (.fn 198 [])]] (l.any p):=λN Q O=>by
 have hi:p9 227 [.sv a 2 es c,.fn 218 [.pd ad 0 (.fn 198 [])]] (sd p l 0):=λN Q O=>by
  refine ta N a es c ad Q λ_=>?_
  refine up h hlen (λi xs=>∀ (N':Nat),N<=N'->(∀ N'',N'<=N''->Q (sd p xs i) N'')->yQ Q N a es c ad es.length i N') ?_ ?_ N (oA _) O
  ·intro i aa _ N' ab I
   refine wj _ _ _ _ _ _ _ _ _ ?_
   repeat' first|with_reducible intro _|simp only[aa,Y1,Y2,Y3,Y4]|with_reducible refine X ?_ ?_|refine⟨_,_,_,rfl,?_⟩|refine⟨_,rfl,?_⟩|refine And.intro (by first|omega|trivial|(show _=_;rfl)|(with_reducible constructor)<;>first|omega|trivial|rfl) ?_|fail
   exact I _ (by omega)
  ·intro i x xs J _ ac N' ab I
   have hb:=J.b
   simp only [sd] at I
   refine wj _ _ _ _ _ _ _ _ _ ?_
   repeat' first|with_reducible intro _|simp only[J.lt,J.w,oH,Y1,Y2,Y3,Y4]|with_reducible refine X ?_ ?_|refine⟨_,_,_,rfl,?_⟩|refine⟨_,rfl,?_⟩|refine And.intro (by first|omega|trivial|(show _=_;rfl)|(with_reducible constructor)<;>first|omega|trivial|rfl) ?_|refine (hp x J.m _ J.r) _ _ ?_|fail
   ·exact Qi (I _ (by omega)) (by rw [if_pos (by assumption)])
   ·rename_i h;exact ac _ (by omega) λN'' h2=>Qi (I _ (by omega)) (by rw [h];simp)
 refine uY N a es c ad Q λ_=>?_
 repeat' first|with_reducible intro _|simp only[Y1,Y2,Y3,Y4]|with_reducible refine X ?_ ?_|refine⟨_,_,_,rfl,?_⟩|refine⟨_,rfl,?_⟩|refine And.intro (by first|omega|trivial|(show _=_;rfl)|(with_reducible constructor)<;>first|omega|trivial|rfl) ?_|refine hi _ _ ?_|fail
 exact Qb (O _ (by omega)) (wP _ l 0 (by omega)).symm
theorem zN2:∀ (t:Ty) (d:D),t.Is d->vn 197 [.dg 2 d,.fn 198 []] t.form:=by
 refine Ty.ind λk l ih d hd N Q I=>?_
 have J:=hd
 obtain ⟨a,es,c,rfl,hlen,O⟩:=Ty.is_mk.1 hd
 refine zBf N _ Q λ_=>?_
 simp only [Ty.form,zGH] at I
 repeat' first|with_reducible intro _|simp only[Y1,Y2,Y3,Y4]|with_reducible refine X ?_ ?_|refine⟨_,_,_,rfl,?_⟩|refine⟨_,rfl,?_⟩|refine And.intro (by first|omega|trivial|(show _=_;rfl)|(with_reducible constructor)<;>first|omega|trivial|rfl) ?_|refine (zEy _ _ J) _ _ ?_|refine (zEx O hlen _ (λx hx d hd=>λN Q I=>zAI N d _ Q λ_ N1 aa=>ih x hx d hd N1 _ λN2 ab ac N3 ae=>I N3 (by omega)) _ _) _ _ ?_|fail
 ·have h:zAT (Ty.mk k l).k (Ty.mk k l).as.length=true:=by assumption
  exact Qb (I _ (by omega)) (by simp only [Ty.k,Ty.as] at h;rw [h,Bool.and_true])
 ·rename_i h _ _
  exact Qb (I _ (by omega)) (by simp only [Ty.k,Ty.as] at h;rw [h,mf])
theorem wC (t:Ty) (d:D) (hd:t.Is d) (hc:t.cnt<=1073741824):vn 173 [.dg 2 d] t.valid:=λN Q I=>by
 refine zBm N _ Q λ_=>?_
 repeat' first|with_reducible intro _|simp only[Y1,Y2,Y3,Y4]|with_reducible refine X ?_ ?_|refine⟨_,_,_,rfl,?_⟩|refine⟨_,rfl,?_⟩|refine And.intro (by first|omega|trivial|(show _=_;rfl)|(with_reducible constructor)<;>first|omega|trivial|rfl) ?_|refine (zCx t d hd hc) _ _ ?_|refine (zBG t d hd hc) _ _ ?_|refine (zN2 t d hd) _ _ ?_|fail
 ·refine Qb (I _ (by omega)) ?_
  have J:t.cnt<=30:=by omega
  have O:t.dep<=8:=by omega
  simp [Ty.valid, *]
 ·refine Qb (I _ (by omega)) ?_
  have O:¬t.dep<=8:=by omega
  simp [Ty.valid, *]
 ·refine Qb (I _ (by omega)) ?_
  have J:¬t.cnt<=30:=by omega
  simp [Ty.valid, *]
theorem zZ:∀ (t u:Ty) (d e:D),t.Is d->u.Is e->vn 103 [.dg 2 d,.dg 2 e] (tW t u):=by
 refine Ty.ind λk l ih u d e hd he N Q hQ=>?_
 cases u with
 | mk k' O=>
 obtain ⟨a,es,c,rfl,hlen,ab⟩:=Ty.is_mk.1 hd
 obtain ⟨a',es',c',rfl,ae,aa⟩:=Ty.is_mk.1 he
 have hl:=ab.len
 have al:=aa.len
 simp only [tW] at hQ
 have hf:vn 143 [.sv a 2 es c,.sv a' 2 es' c',.fn 103 []] (uX l O):=λN Q hQ=>by
  have key:l.length=O.length->∀ (N':Nat),N<=N'->(∀ N'',N'<=N''->Q (uX l (O.drop 0)) N'')->zt Q N a' es' c' a es c es.length (0:Nat) N':=by
   intro am
   refine up ab hlen (λi xs=>∀ (N':Nat),N<=N'->(∀ N'',N'<=N''->Q (uX xs (O.drop i)) N'')->zt Q N a' es' c' a es c es.length i N') ?_ ?_
   ·intro i ah hi N' ai I
    refine we _ _ _ _ _ _ _ _ _ _ _ ?_
    repeat' first|with_reducible intro _|simp only[ah,Y1,Y2,Y3,Y4]|with_reducible refine X ?_ ?_|refine⟨_,_,_,rfl,?_⟩|refine⟨_,rfl,?_⟩|refine And.intro (by first|omega|trivial|(show _=_;rfl)|(with_reducible constructor)<;>first|omega|trivial|rfl) ?_|fail
    refine Qb (I _ (by assumption)) ?_
    rw [mC (by omega)]
    rfl
   ·intro i x xs J _ aj N' ai I
    have hb:=J.b
    have ac:i<O.length:=by omega
    have hg:O[i]?=some O[i]:=oI ac
    have ak:O.drop i=O[i]::O.drop (i+1):=mF ac
    refine we _ _ _ _ _ _ _ _ _ _ _ ?_
    rw [ak] at I
    repeat' first|with_reducible intro _|simp only[J.lt,J.w,oH,Y1,Y2,Y3,Y4]|with_reducible refine X ?_ ?_|refine⟨_,_,_,rfl,?_⟩|refine⟨_,rfl,?_⟩|refine And.intro (by first|omega|trivial|(show _=_;rfl)|(with_reducible constructor)<;>first|omega|trivial|rfl) ?_|refine (ih x J.m _ _ _ J.r (aa.get hg)) _ _ ?_|fail
    ·exact Qb (I _ (by omega)) (by simp [uX, *])
    ·exact aj _ (by omega) λN'' h=>Qb (I N'' (by omega)) (by simp [uX, *])
  refine tX N _ _ _ _ _ _ Q λ_ _=>?_
  repeat' first|with_reducible intro _|simp only[Y1,Y2,Y3,Y4]|with_reducible refine X ?_ ?_|refine⟨_,_,_,rfl,?_⟩|refine⟨_,rfl,?_⟩|refine And.intro (by first|omega|trivial|(show _=_;rfl)|(with_reducible constructor)<;>first|omega|trivial|rfl) ?_|fail
  ·exact Qb (hQ _ (by assumption)) (zBI (by omega))
  ·exact key (by omega) N (oA _) hQ
 refine zDx N _ _ Q λ_ _=>?_
 repeat' first|with_reducible intro _|simp only[Y1,Y2,Y3,Y4]|with_reducible refine X ?_ ?_|refine⟨_,_,_,rfl,?_⟩|refine⟨_,rfl,?_⟩|refine And.intro (by first|omega|trivial|(show _=_;rfl)|(with_reducible constructor)<;>first|omega|trivial|rfl) ?_|refine hf _ _ ?_|fail
 ·exact Qb (hQ _ (by omega)) (by simp [*])
 ·exact Qb (hQ _ (by omega)) (by simp [*])
theorem rg (t:Ty) (d:D) (hd:t.Is d):vn 136 [.dg 2 d] t.base:=λN Q O=>by
 cases t with
 | mk k l=>
 obtain ⟨a,es,c,rfl,hlen,I⟩:=Ty.is_mk.1 hd
 have hl:=I.len
 have J:inB k 1 2=(k==1||k==2):=by
  rw [nQ,qk]
  simp
  omega
 refine zJL N _ Q λ_=>?_
 repeat' first|with_reducible intro _|simp only[Y1,Y2,Y3,Y4]|with_reducible refine X ?_ ?_|refine⟨_,_,_,rfl,?_⟩|refine⟨_,rfl,?_⟩|refine And.intro (by first|omega|trivial|(show _=_;rfl)|(with_reducible constructor)<;>first|omega|trivial|rfl) ?_|refine (yb _ _ _) _ _ ?_|fail
 all_goals (rename_i h _ _;rw [J] at h;exact Qb (O _ (by omega)) (by simp only [Ty.base,Ty.k,Ty.as,h,hl];simp))
theorem zAo (s:ByteArray):p9 215 [.str s] (zP4 s):=λN Q I=>by
 refine zGj N s Q ?_
 repeat' first|with_reducible intro _|simp only[Y1,Y2,Y3,Y4]|with_reducible refine X ?_ ?_|refine⟨_,_,_,rfl,?_⟩|refine⟨_,rfl,?_⟩|refine And.intro (by first|omega|trivial|(show _=_;rfl)|(with_reducible constructor)<;>first|omega|trivial|rfl) ?_|fail
 all_goals (refine Qi (I _ (by assumption)) ?_;unfold zP4;(repeat' split)<;>first | rfl | contradiction)
def arI (k:Int) (nm:ByteArray):Int:=
 if k=4 then zP4 nm else if k=5 then 3 else if k=7\/k=8 then 2 else if k=6\/k=9\/k=10\/k=11\/k=12\/k=13 then 1 else 0
theorem zKj {k n:Int} {nm ot:ByteArray} {t0 t1 r0 r1 x:D}:p9 192 [.dg 9 (.ag [.j k,.t nm,.t ot,.j n,t0,t1,r0,r1,x])] (arI k nm):=λN Q I=>by
 refine zKi N _ Q λ_=>?_
 repeat' first|with_reducible intro _|simp only[Y1,Y2,Y3,Y4]|with_reducible refine X ?_ ?_|refine⟨_,_,_,rfl,?_⟩|refine⟨_,rfl,?_⟩|refine And.intro (by first|omega|trivial|(show _=_;rfl)|(with_reducible constructor)<;>first|omega|trivial|rfl) ?_|refine (zAo _) _ _ ?_|fail
 all_goals (refine Qi (I _ (by omega)) ?_;simp [arI, *])
theorem zFb (n:Int):vn 216 [.j n] (inB n 0 10006):=λN Q I=>by
 refine zFC N n Q ?_
 repeat' first|with_reducible intro _|simp only[Y1,Y2,Y3,Y4]|with_reducible refine X ?_ ?_|refine⟨_,_,_,rfl,?_⟩|refine⟨_,rfl,?_⟩|refine And.intro (by first|omega|trivial|(show _=_;rfl)|(with_reducible constructor)<;>first|omega|trivial|rfl) ?_|refine (yb _ _ _) _ _ ?_|fail
 exact I _ (by omega)
def zHH (k:Int) (nm ot:ByteArray) (n:Int) (ty re:Ty):Bool:=
 if k=1\/k=8 then sk nm else if k=2 then inB n 0 10006 else if k=3 then inB n 0 1 else if k=4 then decide (zP4 nm>0)
 else if k=6 then sk nm&&ty.valid else if k=9 then sk nm&&(sk ot&&(!decide (nm=ot)&&(ty.valid&&re.valid))) else inB k 1 13
theorem zG7 {k n:Int} {nm ot:ByteArray} {ty re:Ty} {t0 t1 r0 r1 x:D} (h:Tm.Hd nm ot ty re t0 t1 r0 r1) (hc:ty.cnt<=1073741824) (I:re.cnt<=1073741824) :
  vn 193 [.dg 9 (.ag [.j k,.t nm,.t ot,.j n,t0,t1,r0,r1,x])] (zHH k nm ot n ty re):=λN Q J=>by
 refine zGx N _ Q λ_=>?_
 repeat' first|with_reducible intro _|simp only[Y1,Y2,Y3,Y4]|with_reducible refine X ?_ ?_|refine⟨_,_,_,rfl,?_⟩|refine⟨_,rfl,?_⟩|refine And.intro (by first|omega|trivial|(show _=_;rfl)|(with_reducible constructor)<;>first|omega|trivial|rfl) ?_|refine (zAo _) _ _ ?_|refine (ux _ h.nm) _ _ ?_|refine (ux _ h.ot) _ _ ?_|refine (zFb _) _ _ ?_|refine (yb _ _ _) _ _ ?_|refine (wC _ _ h.ty hc) _ _ ?_|refine (wC _ _ h.re I) _ _ ?_|fail
 all_goals (refine Qb (J _ (by omega)) ?_;simp [zHH, *])
theorem zKV (t:Ty):tW t t=true:=(ri t t).2 rfl
def zN3 (k:Int) (nm ot:ByteArray) (n:Int) (ty re:Ty) (m:Int):Bool:=
 decide (m=arI k nm)&&(zHH k nm ot n ty re&&((decide (k=1\/k=8\/k=4\/k=6\/k=9)||decide (nm=bytes []))&&((decide (k=9)||decide (ot=bytes []))&&((decide (k=2\/k=3)||decide (n=0)) &&
  ((decide (k=6\/k=9)||tW ty tZero)&&(decide (k=9)||tW re tZero))))))
theorem zGg {k n:Int} {nm ot:ByteArray} {ty re:Ty} {t0 t1 r0 r1:D} {a:Option Addr} {es:List D} {c:Nat} (h:Tm.Hd nm ot ty re t0 t1 r0 r1) (hc:ty.cnt<=1073741824) (I:re.cnt<=1073741824) :
  vn 170 [.dg 9 (.ag [.j k,.t nm,.t ot,.j n,t0,t1,r0,r1,.sl a 9 es c])] (zN3 k nm ot n ty re es.length):=λN Q J=>by
 refine zI0 N _ Q λ_=>?_
 repeat' first|with_reducible intro _|simp only[Y1,Y2,Y3,Y4]|with_reducible refine X ?_ ?_|refine⟨_,_,_,rfl,?_⟩|refine⟨_,rfl,?_⟩|refine And.intro (by first|omega|trivial|(show _=_;rfl)|(with_reducible constructor)<;>first|omega|trivial|rfl) ?_|refine zKj _ _ ?_|refine (zG7 h hc I) _ _ ?_|refine (zZ ty tZero _ _ h.ty xb) _ _ ?_|refine (zZ re tZero _ _ h.re xb) _ _ ?_|refine (zZ ty ty _ _ h.ty h.ty) _ _ ?_|refine (zZ re re _ _ h.re h.re) _ _ ?_|fail
 all_goals first | (exfalso;omega) | (refine Qb (J _ (by omega)) ?_;simp [zN3,zKV, *];done) | (refine Qb (J _ (by omega)) ?_;simp_all [zN3,zKV];done)
theorem zSi (t:Ty):tW t tZero=t.zero:=by
 cases t with
 | mk k l => cases l<;>simp [tW,tZero,uX,Ty.zero,Ty.k,Ty.as]
             try omega
theorem zON {t:Ty} (h:t.zero=true):t.valid=false:=by
 cases t with
 | mk k l=>
   simp only [Ty.zero,Ty.k,Ty.as,oL,mP] at h
   simp [Ty.valid,Ty.form,zAT,h.1]
theorem zVR (n:Int):inB n 0 0=decide (n=0):=by
 rw [nQ,qk,nf];omega
theorem zp (t:Ty) (b:Bool):(!t.valid&&(t.zero&&b))=(t.zero&&b):=by
 cases h:t.zero with
 | false=>simp
 | true=>rw [zON h];simp
theorem zRO (k:Int) (nm ot:ByteArray) (n:Int) (ty re:Ty) (m:Int) (hm:0<=m):zN3 k nm ot n ty re m=(xG k nm ot n ty re&&m==zLk k nm):=by
 by_cases hk:k=1\/k=2\/k=3\/k=4\/k=5\/k=6\/k=7\/k=8\/k=9\/k=10\/k=11\/k=12\/k=13
 ·rw [zUq m]
  have b5:inB 5 1 13=true:=rfl
  have b7:inB 7 1 13=true:=rfl
  have I:inB 10 1 13=true:=rfl
  have J:inB 11 1 13=true:=rfl
  have O:inB 12 1 13=true:=rfl
  have aa:inB 13 1 13=true:=rfl
  rcases hk with rfl | rfl | rfl | rfl | rfl | rfl | rfl | rfl | rfl | rfl | rfl | rfl | rfl
  all_goals
   simp [zN3,arI,zHH,xG,zGO,zF6,zLk,zSi,zVR,zp,b5,b7,I,J,O,aa]
   try (rw [nQ];simp [and_comm,and_left_comm,and_assoc])
 ·have h1:zLk k nm = -1:=by
   unfold zLk;rw [if_neg (by omega),if_neg (by omega),if_neg (by omega),if_neg (by omega),if_neg (by omega)]
  have h2:inB k 1 13=false:=by
   cases h:inB k 1 13 with
   | false=>rfl
   | true=>have:=qk.1 h;omega
  have h3:zHH k nm ot n ty re=false:=by
   unfold zHH;rw [if_neg (by omega),if_neg (by omega),if_neg (by omega),if_neg (by omega),if_neg (by omega),if_neg (by omega),h2]
  have h4:(m==zLk k nm)=false:=by rw [h1,zUq];exact lF (by omega)
  rw [h4,zN3,h3]
  simp
theorem zRi {k n:Int} {nm ot:ByteArray} {ty re:Ty} {t0 t1 r0 r1:D} {a:Option Addr} {es:List D} {c:Nat} (h:Tm.Hd nm ot ty re t0 t1 r0 r1) (hc:ty.cnt<=1073741824) (I:re.cnt<=1073741824) :
  vn 170 [.dg 9 (.ag [.j k,.t nm,.t ot,.j n,t0,t1,r0,r1,.sl a 9 es c])] (xG k nm ot n ty re&&(es.length:Int)==zLk k nm):=by
 rw [<-zRO _ _ _ _ _ _ _ (by omega)]
 exact zGg h hc I
theorem zKE:∀ l:List Tm,zD7 l=!(l.any λx=>!x.ok)
 | []=>rfl
 | t::I=>by simp only [zD7,mZ,zKE I];cases t.ok<;>simp
theorem zEl {p:Tm->Bool} {l:List Tm} {es:List D} (h:All2 Tm.Is l es) (hlen:es.length<=4611686018427387904) (ad:Addr) (hp:∀ x∈l,∀ d,x.Is d->vn 134 [.dg 9 d,.pd ad 0 (.fn 170 [])] (p x)) (a:Option Addr) (c:Nat) :
  vn 62 [.sv a 9 es c,.fn 134 [.pd ad 0 (.fn 170 [])]] (l.any p):=λN Q O=>by
 have hi:p9 105 [.sv a 9 es c,.fn 134 [.pd ad 0 (.fn 170 [])]] (sd p l 0):=λN Q O=>by
  refine te N a es c ad Q λ_=>?_
  refine up h hlen (λi xs=>∀ (N':Nat),N<=N'->(∀ N'',N'<=N''->Q (sd p xs i) N'')->yR Q N a es c ad es.length i N') ?_ ?_ N (oA _) O
  ·intro i aa _ N' ab I
   refine wg _ _ _ _ _ _ _ _ _ ?_
   repeat' first|with_reducible intro _|simp only[aa,Y1,Y2,Y3,Y4]|with_reducible refine X ?_ ?_|refine⟨_,_,_,rfl,?_⟩|refine⟨_,rfl,?_⟩|refine And.intro (by first|omega|trivial|(show _=_;rfl)|(with_reducible constructor)<;>first|omega|trivial|rfl) ?_|fail
   exact I _ (by omega)
  ·intro i x xs J _ ac N' ab I
   have hb:=J.b
   simp only [sd] at I
   refine wg _ _ _ _ _ _ _ _ _ ?_
   repeat' first|with_reducible intro _|simp only[J.lt,J.w,oH,Y1,Y2,Y3,Y4]|with_reducible refine X ?_ ?_|refine⟨_,_,_,rfl,?_⟩|refine⟨_,rfl,?_⟩|refine And.intro (by first|omega|trivial|(show _=_;rfl)|(with_reducible constructor)<;>first|omega|trivial|rfl) ?_|refine (hp x J.m _ J.r) _ _ ?_|fail
   ·exact Qi (I _ (by omega)) (by rw [if_pos (by assumption)])
   ·rename_i h;exact ac _ (by omega) λN'' h2=>Qi (I _ (by omega)) (by rw [h];simp)
 refine uW N a es c ad Q λ_=>?_
 repeat' first|with_reducible intro _|simp only[Y1,Y2,Y3,Y4]|with_reducible refine X ?_ ?_|refine⟨_,_,_,rfl,?_⟩|refine⟨_,rfl,?_⟩|refine And.intro (by first|omega|trivial|(show _=_;rfl)|(with_reducible constructor)<;>first|omega|trivial|rfl) ?_|refine hi _ _ ?_|fail
 exact Qb (O _ (by omega)) (wP _ l 0 (by omega)).symm
theorem zOA:∀ (t:Tm) (d:D),t.Is d->t.cnt<=1073741824->vn 97 [.dg 9 d,.fn 170 []] t.ok:=by
 refine Tm.ind λk nm ot n ty re l ih d hd hc N Q I=>?_
 obtain ⟨t0,t1,r0,r1,a,es,c,rfl,hh,hlen,J⟩:=Tm.is_mk.1 hd
 have hl:=J.len
 simp only [Tm.cnt] at hc
 refine zBb N _ Q λ_=>?_
 simp only [Tm.ok,zKE,<-hl] at I
 repeat' first|with_reducible intro _|simp only[Y1,Y2,Y3,Y4]|with_reducible refine X ?_ ?_|refine⟨_,_,_,rfl,?_⟩|refine⟨_,rfl,?_⟩|refine And.intro (by first|omega|trivial|(show _=_;rfl)|(with_reducible constructor)<;>first|omega|trivial|rfl) ?_|refine (zRi hh (by omega) (by omega)) _ _ ?_|refine (zEl J hlen _ (λx O d hd=>λN Q I=>zAK N d _ Q λ_ N1 aa=>ih x O d hd (by have:=zn O;omega) N1 _ λN2 ab ac N3 ae=>I N3 (by omega)) _ _) _ _ ?_|fail
 ·have h:(xG k nm ot n ty re&&(es.length:Int)==zLk k nm)=true:=by assumption
  exact Qb (I _ (by omega)) (by rw [h,Bool.and_true])
 ·have h:(xG k nm ot n ty re&&(es.length:Int)==zLk k nm)=false:=by assumption
  exact Qb (I _ (by omega)) (by rw [h,mf])
theorem zBQ (t:Tm) (d:D) (hd:t.Is d) (hc:t.cnt<=1073741824):vn 138 [.dg 9 d] t.ok:=λN Q I=>by
 refine zJR N _ Q λ_=>?_
 repeat' first|with_reducible intro _|simp only[Y1,Y2,Y3,Y4]|with_reducible refine X ?_ ?_|refine⟨_,_,_,rfl,?_⟩|refine⟨_,rfl,?_⟩|refine And.intro (by first|omega|trivial|(show _=_;rfl)|(with_reducible constructor)<;>first|omega|trivial|rfl) ?_|refine (zOA t d hd hc) _ _ ?_|fail
 exact I _ (by omega)
theorem zLl {k n m:Int} {c1 I J O c6 c7 c8:D} (h:0<=m/\m<=2):p9 199 [.dg 9 (.ag [.j k,c1,I,.j n,J,O,c6,c7,c8]),.j m] (yX k m):=λN Q hQ=>by
 refine zD5 N _ m Q λ_=>?_
 rw [i64_in (m+1) (by omega),i64_in (m - 1) (by omega)]
 repeat' first|with_reducible intro _|simp only[Y1,Y2,Y3,Y4]|with_reducible refine X ?_ ?_|refine⟨_,_,_,rfl,?_⟩|refine⟨_,rfl,?_⟩|refine And.intro (by first|omega|trivial|(show _=_;rfl)|(with_reducible constructor)<;>first|omega|trivial|rfl) ?_|fail
 all_goals (refine Qi (hQ _ (by omega)) ?_;simp [yX, *])
theorem zDg (d:D) (m:Int):vn 175 [.dg 9 d,.j m] (inB m 0 2):=λN Q I=>by
 refine zCl N _ m Q λ_=>?_
 repeat' first|with_reducible intro _|simp only[Y1,Y2,Y3,Y4]|with_reducible refine X ?_ ?_|refine⟨_,_,_,rfl,?_⟩|refine⟨_,rfl,?_⟩|refine And.intro (by first|omega|trivial|(show _=_;rfl)|(with_reducible constructor)<;>first|omega|trivial|rfl) ?_|refine (yb _ _ _) _ _ ?_|fail
 exact I _ (by omega)
theorem zRw:∀ (t:Tm) (d:D),t.Is d->∀ m:Int,vn 174 [.dg 9 d,.j m,.fn 175 []] (t.lev m):=by
 refine Tm.ind λk nm ot n ty re l ih d hd m N Q hQ=>?_
 obtain ⟨t0,t1,r0,r1,a,es,c,rfl,hh,hlen,aa⟩:=Tm.is_mk.1 hd
 have hl:=aa.len
 refine zD6 N _ m Q λ_=>?_
 cases I:inB m 0 2 with
 | false=>
   repeat' first|with_reducible intro _|simp only[I,Y1,Y2,Y3,Y4]|with_reducible refine X ?_ ?_|refine⟨_,_,_,rfl,?_⟩|refine⟨_,rfl,?_⟩|refine And.intro (by first|omega|trivial|(show _=_;rfl)|(with_reducible constructor)<;>first|omega|trivial|rfl) ?_|refine (zDg _ _) _ _ ?_|fail
   exact Qb (hQ _ (by omega)) (by simp [Tm.lev,I])
 | true=>
   have hb:=qk.1 I
   have key:=up aa hlen (λi xs=>∀ (N':Nat),N<=N'->(∀ N'',N'<=N''->Q (zAb xs (yX k m)) N'')->va Q N m a es c es.length i (.ag [.j k,.t nm,.t ot,.j n,t0,t1,r0,r1,.sl a 9 es c]) N') ?_ ?_
   ·repeat' first|with_reducible intro _|simp only[I,Y1,Y2,Y3,Y4]|with_reducible refine X ?_ ?_|refine⟨_,_,_,rfl,?_⟩|refine⟨_,rfl,?_⟩|refine And.intro (by first|omega|trivial|(show _=_;rfl)|(with_reducible constructor)<;>first|omega|trivial|rfl) ?_|refine (zDg _ _) _ _ ?_|fail
    exact key _ (by omega) λN'' h=>Qb (hQ N'' (by omega)) (by simp [Tm.lev,I])
   ·intro i ab _ N' ac O
    refine qt _ _ _ _ _ _ _ _ _ _ ?_
    repeat' first|with_reducible intro _|simp only[ab,Y1,Y2,Y3,Y4]|with_reducible refine X ?_ ?_|refine⟨_,_,_,rfl,?_⟩|refine⟨_,rfl,?_⟩|refine And.intro (by first|omega|trivial|(show _=_;rfl)|(with_reducible constructor)<;>first|omega|trivial|rfl) ?_|fail
    exact Qb (O _ (by omega)) (by simp [zAb])
   ·intro i x xs J _ ae N' ac O
    have ah:=J.b
    refine qt _ _ _ _ _ _ _ _ _ _ ?_
    repeat' first|with_reducible intro _|simp only[J.lt,J.w,oH,Y1,Y2,Y3,Y4]|with_reducible refine X ?_ ?_|refine⟨_,_,_,rfl,?_⟩|refine⟨_,rfl,?_⟩|refine And.intro (by first|omega|trivial|(show _=_;rfl)|(with_reducible constructor)<;>first|omega|trivial|rfl) ?_|refine (zLl hb) _ _ ?_|refine (ih x J.m _ J.r _) _ _ ?_|fail
    ·refine Qb (O _ (by omega)) ?_;simp [zAb, *]
    ·exact ae _ (by omega) λN'' h=>Qb (O N'' (by omega)) (by simp [zAb, *])
theorem pQ (t:Tm) (d:D) (hd:t.Is d) (hc:t.cnt<=1073741824) (m:Int):vn 141 [.dg 9 d,.j m] (zMR t m):=λN Q I=>by
 refine zGE N _ m Q λ_=>?_
 repeat' first|with_reducible intro _|simp only[Y1,Y2,Y3,Y4]|with_reducible refine X ?_ ?_|refine⟨_,_,_,rfl,?_⟩|refine⟨_,rfl,?_⟩|refine And.intro (by first|omega|trivial|(show _=_;rfl)|(with_reducible constructor)<;>first|omega|trivial|rfl) ?_|refine (zBQ t d hd hc) _ _ ?_|refine (zRw t d hd m) _ _ ?_|fail
 all_goals (refine Qb (I _ (by omega)) ?_;simp [zMR, *])
theorem zPv (x:Tg) (d:D) (hd:x.Is d) (hc:x.ty.cnt<=1073741824):vn 172 [.dg 4 d] (!x.ok):=λN Q I=>by
 obtain ⟨t0,t1,rfl,hs,J⟩:=hd
 refine zGk N _ Q λ_=>?_
 repeat' first|with_reducible intro _|simp only[Y1,Y2,Y3,Y4]|with_reducible refine X ?_ ?_|refine⟨_,_,_,rfl,?_⟩|refine⟨_,rfl,?_⟩|refine And.intro (by first|omega|trivial|(show _=_;rfl)|(with_reducible constructor)<;>first|omega|trivial|rfl) ?_|refine (ux _ hs) _ _ ?_|refine (wC _ _ J hc) _ _ ?_|refine (yb _ _ _) _ _ ?_|fail
 all_goals (refine Qb (I _ (by omega)) ?_;simp [Tg.ok, *])
theorem zK8:∀ l:List Tg,zJz l=!(l.any λx=>!x.ok)
 | []=>rfl
 | t::I=>by simp only [zJz,mZ,zK8 I];cases t.ok<;>simp
theorem pc {g:List Tg} {es:List D} (h:Ctx g es) (hc:∀ x∈g,x.ty.cnt<=1073741824) (a:Option Addr) (c:Nat):vn 140 [.sv a 4 es c] (zIb g):=fun N Q hQ=>by
 have hl:=h.all.len
 have hi:p9 194 [.sv a 4 es c,.fn 172 []] (sd (fun x=>!x.ok) g 0):=fun N Q hQ=>by
  refine uy N a es c Q fun _=>?_
  refine up h.all h.len (fun i xs=>∀ (N':Nat),N<=N'->(∀ N'',N'<=N''->Q (sd (fun x=>!x.ok) xs i) N'')->z8 Q N a es c es.length i N') ?_ ?_ N (oA _) hQ
  ·intro i hlt _ N' hN' hQ'
   refine wF _ _ _ _ _ _ _ _ ?_
   repeat' first|with_reducible intro _|simp only[hlt,Y1,Y2,Y3,Y4]|with_reducible refine X ?_ ?_|refine⟨_,_,_,rfl,?_⟩|refine⟨_,rfl,?_⟩|refine And.intro (by first|omega|trivial|(show _=_;rfl)|(with_reducible constructor)<;>first|omega|trivial|rfl) ?_|fail
   exact hQ' _ (by omega)
  ·intro i x xs hat _ ih2 N' hN' hQ'
   have hb:=hat.b
   simp only [sd] at hQ'
   refine wF _ _ _ _ _ _ _ _ ?_
   repeat' first|with_reducible intro _|simp only[hat.lt,hat.w,oH,Y1,Y2,Y3,Y4]|with_reducible refine X ?_ ?_|refine⟨_,_,_,rfl,?_⟩|refine⟨_,rfl,?_⟩|refine And.intro (by first|omega|trivial|(show _=_;rfl)|(with_reducible constructor)<;>first|omega|trivial|rfl) ?_|refine (zPv x _ hat.r (hc x hat.m)) _ _ ?_|fail
   all_goals first
    | exact Qi (hQ' _ (by omega)) (by rw [if_pos (by simp [*])])
    | exact ih2 _ (by omega) fun N'' h2=>Qi (hQ' _ (by omega)) (by rw [if_neg (by simp [*])];simp)
 have hcf:vn 171 [.sv a 4 es c,.fn 172 []] (g.any fun x=>!x.ok):=fun N Q hQ=>by
  refine uC N a es c Q fun _=>?_
  repeat' first|with_reducible intro _|simp only[Y1,Y2,Y3,Y4]|with_reducible refine X ?_ ?_|refine⟨_,_,_,rfl,?_⟩|refine⟨_,rfl,?_⟩|refine And.intro (by first|omega|trivial|(show _=_;rfl)|(with_reducible constructor)<;>first|omega|trivial|rfl) ?_|refine hi _ _ ?_|fail
  exact Qb (hQ _ (by omega)) (wP _ g 0 (by omega)).symm
 refine zLL N a es c Q fun _=>?_
 repeat' first|with_reducible intro _|simp only[Y1,Y2,Y3,Y4]|with_reducible refine X ?_ ?_|refine⟨_,_,_,rfl,?_⟩|refine⟨_,rfl,?_⟩|refine And.intro (by first|omega|trivial|(show _=_;rfl)|(with_reducible constructor)<;>first|omega|trivial|rfl) ?_|refine hcf _ _ ?_|fail
 ·exact Qb (hQ _ (by omega)) (by have:(g.length:Int)<=12:=by omega
                                 simp [zIb,zK8,this])
 ·exact Qb (hQ _ (by omega)) (by have:¬(g.length:Int)<=12:=by omega
                                 simp [zIb,this])
theorem zDI {g:List Tg} {es:List D} (h:Ctx g es) (a:Option Addr) (c:Nat) (s:ByteArray):p9 201 [.sv a 4 es c,.str s] (ym g s):=λN Q hQ=>by
 have hl:=h.all.len
 have h1:=h.len
 refine zE0 N a es c s Q λ_=>?_
 have key:=zU8 h.all h.len (λm=>∀ (N':Nat),N<=N'->(∀ N'',N'<=N''->Q (zAc g s (m+1).toNat) N'')->wO Q N a es c s m N') ?_ ?_
 ·rw [i64_in _ (by omega)]
  exact key N (oA _) λN' J=>Qi (hQ N' J) (by rw [ym,<-hl];congr 1;omega)
 ·intro N' J I
  refine su _ _ _ _ _ _ _ _ ?_
  repeat' first|with_reducible intro _|simp only[Y1,Y2,Y3,Y4]|with_reducible refine X ?_ ?_|refine⟨_,_,_,rfl,?_⟩|refine⟨_,rfl,?_⟩|refine And.intro (by first|omega|trivial|(show _=_;rfl)|(with_reducible constructor)<;>first|omega|trivial|rfl) ?_|fail
  ·omega
  ·exact I _ (by assumption)
 ·intro i x O aa hw ih N' J I
  have hb:=O.b
  obtain ⟨t0,t1,hd,hs,ht⟩:=O.r
  have e1:((i:Int)+1).toNat=i+1:=by omega
  have e2:((i:Int) - 1+1).toNat=i:=by omega
  rw [e1] at I
  simp only [zAc,zJJ O.g] at I
  rw [e2] at ih
  refine su _ _ _ _ _ _ _ _ ?_
  repeat' first|with_reducible intro _|simp only[aa,hw,oH,hd,Y1,Y2,Y3,Y4]|with_reducible refine X ?_ ?_|refine⟨_,_,_,rfl,?_⟩|refine⟨_,rfl,?_⟩|refine And.intro (by first|omega|trivial|(show _=_;rfl)|(with_reducible constructor)<;>first|omega|trivial|rfl) ?_|fail
  ·rename_i hx _ _;exact Qi (I _ (by omega)) (by rw [if_pos hx])
  ·rename_i hx;exact ih _ (by omega) λN'' h=>Qi (I N'' (by omega)) (by rw [if_neg hx])
theorem zI7:∀ (t:Ty) (d:D),t.Is d->t.cnt<=1073741824->zDR 127 [.dg 2 d] t:=by
 refine Ty.ind λk l ih d hd hc N Q hQ=>?_
 obtain ⟨a,es,c,rfl,hlen,aa⟩:=Ty.is_mk.1 hd
 have hl:=aa.len
 simp only [Ty.cnt] at hc
 have al:=rq l
 refine zFs N _ Q λ_=>⟨_,rfl,_,_,_,rfl,?_⟩
 have key:=up aa hlen (λi xs=>∀ (N':Nat),N<=N'->(i=0->uA Q N a es c es.length i 0 none [] 0 k none [] 0 N')/\∀ (m q:Nat) (r:List D),m=r.length->All2 Ty.Is (l.take i) r->OwnL N N' r ->
  xB Q N a es c es.length i 0 none [] 0 k m q r q N') ?_ ?_
 ·exact (key N (oA _)).1 rfl
 ·intro i ab hi N' ai
  refine ⟨λh0=>s8 _ _ _ _ _ _ _ _ _ _ _ _ _ _ _ _ ?_,λm q r hm hr ho=>uq _ _ _ _ _ _ _ _ _ _ _ _ _ _ _ _ _ ?_⟩
  ·repeat' first|with_reducible intro _|simp only[ab,Y1,Y2,Y3,Y4]|with_reducible refine X ?_ ?_|refine⟨_,_,_,rfl,?_⟩|refine⟨_,rfl,?_⟩|refine And.intro (by first|omega|trivial|(show _=_;rfl)|(with_reducible constructor)<;>first|omega|trivial|rfl) ?_|fail
   have:l=[]:=oM (by omega)
   subst this
   exact hQ _ _ (by omega) (vP _) yc
  ·repeat' first|with_reducible intro _|simp only[ab,Y1,Y2,Y3,Y4]|with_reducible refine X ?_ ?_|refine⟨_,_,_,rfl,?_⟩|refine⟨_,rfl,?_⟩|refine And.intro (by first|omega|trivial|(show _=_;rfl)|(with_reducible constructor)<;>first|omega|trivial|rfl) ?_|fail
   rename_i a' N3 J hf N4 aj
   rw [oi (by omega)] at hr
   exact hQ _ _ (by omega) (Ty.is_mk.2 ⟨_,_,_,rfl,by have:=hr.len;omega,hr⟩) (s9 (zR (zo ((tf ho hf (by omega)).mono (oA _) aj))))
 ·intro i x xs I _ ac N' ai
  have hb:=I.b
  have am:=w6 I.m
  refine ⟨λh0=>s8 _ _ _ _ _ _ _ _ _ _ _ _ _ _ _ _ ?_,λm q r hm hr ho=>uq _ _ _ _ _ _ _ _ _ _ _ _ _ _ _ _ _ ?_⟩
  ·repeat' first|with_reducible intro _|simp only[I.lt,I.w,oH,Y1,Y2,Y3,Y4]|with_reducible refine X ?_ ?_|refine⟨_,_,_,rfl,?_⟩|refine⟨_,rfl,?_⟩|refine And.intro (by first|omega|trivial|(show _=_;rfl)|(with_reducible constructor)<;>first|omega|trivial|rfl) ?_|refine (ih x I.m _ I.r (by omega)) _ _ ?_|fail
   rename_i N2 ae d' N3 J hx O ak ah
   subst h0
   exact ⟨by unfold zC;simp,λc2=>(ac _ (by omega)).2 _ _ _ rfl (by rw [xo I.g];exact ⟨_,_,rfl,hx,rfl⟩) (zo (O.mono (by omega) (oA _)))⟩
  ·repeat' first|with_reducible intro _|simp only[I.lt,I.w,oH,Y1,Y2,Y3,Y4]|with_reducible refine X ?_ ?_|refine⟨_,_,_,rfl,?_⟩|refine⟨_,rfl,?_⟩|refine And.intro (by first|omega|trivial|(show _=_;rfl)|(with_reducible constructor)<;>first|omega|trivial|rfl) ?_|refine (ih x I.m _ I.r (by omega)) _ _ ?_|fail
   rename_i N2 ae d' N3 J hx O ak ah
   have ao:=hr.len
   have aq:(l.take i).length=i:=by rw [o8];omega
   refine ⟨by unfold zC;simp only [oE,nu];omega,λc2=>?_⟩
   exact (ac _ (by omega)).2 _ _ _ rfl (by rw [xo I.g];exact hr.snoc hx) (zm (ho.mono (oA _) ae) (zo O) (by omega) J)
theorem zPQ:zDR 202 [] tInt:=λN Q J=>zJx N Q λN' I=>J _ _ I (vP _) yc
theorem zIs:zDR 203 [] tBool:=λN Q J=>zIH N Q λN' I=>J _ _ I (vP _) yc
theorem zOd (t u:Ty) (d e:D) (hd:t.Is d) (he:u.Is e) (I:t.cnt<=1073741824) (J:u.cnt<=1073741824):zDR 206 [.dg 2 d,.dg 2 e] (tc t u):=λN Q hQ=>by
 refine zJt N _ _ Q λ_ _=>?_
 repeat' first|with_reducible intro _|simp only[Y1,Y2,Y3,Y4]|with_reducible refine X ?_ ?_|refine⟨_,_,_,rfl,?_⟩|refine⟨_,rfl,?_⟩|refine And.intro (by first|omega|trivial|(show _=_;rfl)|(with_reducible constructor)<;>first|omega|trivial|rfl) ?_|refine (zI7 t d hd I) _ _ ?_|refine (zI7 u e he J) _ _ ?_|fail
 rename_i N1 O d1 N2 ae h1 o1 ah b1 N3 aa d2 N4 ab h2 o2 ai b2 a' N5 aj hf N6 ac
 exact hQ _ _ (by omega) (Ty.is_mk.2 ⟨_,_,_,rfl,by simp,_,_,rfl,h1,_,_,rfl,h2,rfl⟩)
  (s9 (zR (zo ((tf (zm ((zo o1).mono O aa) (zo o2) (by omega) ab) hf (by omega)).mono (oA _) ac))))
theorem zMu (t:Ty) (d:D) (hd:t.Is d) (I:t.cnt<=1073741824):zDR 220 [.dg 2 d] (zEU t):=λN Q hQ=>by
 refine zJB N _ Q λ_=>?_
 repeat' first|with_reducible intro _|simp only[Y1,Y2,Y3,Y4]|with_reducible refine X ?_ ?_|refine⟨_,_,_,rfl,?_⟩|refine⟨_,rfl,?_⟩|refine And.intro (by first|omega|trivial|(show _=_;rfl)|(with_reducible constructor)<;>first|omega|trivial|rfl) ?_|refine (zI7 t d hd I) _ _ ?_|fail
 rename_i N1 J d1 N2 aa h1 o1 ab b1 a' N5 ac hf N6 O
 exact hQ _ _ (by omega) (Ty.is_mk.2 ⟨_,_,_,rfl,by simp,_,_,rfl,h1,rfl⟩)
  (s9 (zR (zo ((tf ((zo o1).mono J (oA _)) hf (by omega)).mono (oA _) O))))
/-- the part of a code type -/
def zDi (t:Ty):Ty:=if t.k=4 then t.as.getD 0 tZero else tZero
theorem zMg (t:Ty) (d:D) (hd:t.Is d) (hv:t.valid=true\/t=tZero):zDR 221 [.dg 2 d] (zDi t):=λN Q I=>by
 cases t with
 | mk k l=>
 obtain ⟨a,es,c,rfl,hlen,J⟩:=Ty.is_mk.1 hd
 refine zIw N _ Q λ_=>?_
 by_cases hk:k=4
 ·subst hk
  rcases hv with hv | hv
  ·have hf:=Ty.form_len hv
   have O:=Ty.valid_cnt hv
   have aa:(l.length:Int)=1:=by simpa [zAT] using hf
   obtain ⟨u,rfl⟩:=zDe (l:=l) (by omega)
   obtain ⟨x0,_,rfl,ab,rfl⟩:=J
   simp only [Ty.cnt,zI] at O
   have e:zDi (.mk 4 [u])=u:=rfl
   rw [e] at I
   repeat' first|with_reducible intro _|simp only[oK,oO,Y1,Y2,Y3,Y4]|with_reducible refine X ?_ ?_|refine⟨_,_,_,rfl,?_⟩|refine⟨_,rfl,?_⟩|refine And.intro (by first|omega|trivial|(show _=_;rfl)|(with_reducible constructor)<;>first|omega|trivial|rfl) ?_|refine (zI7 u _ ab (by omega)) _ _ ?_|fail
   all_goals first | (exfalso;omega) | skip
   rename_i N1 ac d1 N2 ae h1 o1 aa b1 N3 ah
   exact I _ _ (by omega) h1 (o1.mono (by omega) (by omega))
  ·cases hv
 ·have e:zDi (.mk k l)=tZero:=by unfold zDi;exact if_neg hk
  rw [e] at I
  repeat' first|with_reducible intro _|simp only[Y1,Y2,Y3,Y4]|with_reducible refine X ?_ ?_|refine⟨_,_,_,rfl,?_⟩|refine⟨_,rfl,?_⟩|refine And.intro (by first|omega|trivial|(show _=_;rfl)|(with_reducible constructor)<;>first|omega|trivial|rfl) ?_|fail
  all_goals first | (exfalso;omega) | skip
  exact I _ _ (by omega) xb yc
def zCf (u:Ty):List Ty->Bool
 | []=>true
 | t::I=>tW t u&&zCf u I
def zA6 (s:ByteArray):Ty:=if s=bytes [61] then tInt else if s=bytes [60] then tInt else if s=bytes [38] then tBool else if s=bytes [124] then tBool else if s=bytes [33] then tBool else tInt
def zDa (s:ByteArray):Ty:=if s=bytes [61] then tBool else if s=bytes [60] then tBool else if s=bytes [38] then tBool else if s=bytes [124] then tBool else if s=bytes [33] then tBool else tInt
theorem zRh {ts:List Ty} {es:List D} (h:All2 Ty.Is ts es) (hlen:es.length<=4611686018427387904) (a:Option Addr) (c:Nat) (s:ByteArray) :
  zDR 204 [.str s,.sv a 2 es c] (if zCf (zA6 s) ts then zDa s else tZero):=λN Q O=>by
 have key:∀ (u v:Ty) (d e:D) (N0 N1:Nat),u.Is d->v.Is e->Own N N1 e->N<=N1->zA6 s=u->zDa s=v->zj Q N a es c es.length (0:Nat) 0 none [] 0 d e N1:=by
  intro u v d e N0 N1 hd he ho ae hu hv
  subst hu hv
  refine up h hlen (λi xs=>∀ (N':Nat),N1<=N'->zCf (zA6 s) xs=zCf (zA6 s) ts->zj Q N a es c es.length i 0 none [] 0 d e N') ?_ ?_ N1 (oA _) rfl
  ·intro i aa _ N' ab hk
   refine qT _ _ _ _ _ _ _ _ _ _ _ _ _ _ ?_
   rw [<-hk] at O
   repeat' first|with_reducible intro _|simp only[aa,Y1,Y2,Y3,Y4]|with_reducible refine X ?_ ?_|refine⟨_,_,_,rfl,?_⟩|refine⟨_,rfl,?_⟩|refine And.intro (by first|omega|trivial|(show _=_;rfl)|(with_reducible constructor)<;>first|omega|trivial|rfl) ?_|fail
   exact O _ _ (by omega) he (ho.mono (oA _) (by omega))
  ·intro i x xs I _ ac N' ab hk
   have hb:=I.b
   refine qT _ _ _ _ _ _ _ _ _ _ _ _ _ _ ?_
   repeat' first|with_reducible intro _|simp only[I.lt,I.w,oH,Y1,Y2,Y3,Y4]|with_reducible refine X ?_ ?_|refine⟨_,_,_,rfl,?_⟩|refine⟨_,rfl,?_⟩|refine And.intro (by first|omega|trivial|(show _=_;rfl)|(with_reducible constructor)<;>first|omega|trivial|rfl) ?_|refine (zZ x _ _ _ I.r hd) _ _ ?_|fail
   ·rename_i J _ _
    rw [<-hk,zCf,J] at O
    exact O _ _ (by omega) xb yc
   ·rename_i J
    exact ac _ (by omega) (by rw [<-hk,zCf,J,mo])
 refine zIQ N s a es c Q λ_=>?_
 repeat' first|with_reducible intro _|simp only[Y1,Y2,Y3,Y4]|with_reducible refine X ?_ ?_|refine⟨_,_,_,rfl,?_⟩|refine⟨_,rfl,?_⟩|refine And.intro (by first|omega|trivial|(show _=_;rfl)|(with_reducible constructor)<;>first|omega|trivial|rfl) ?_|refine zPQ _ _ ?_|refine zIs _ _ ?_|fail
 all_goals first
  | exact key tInt tBool _ _ 0 _ (by assumption) (by assumption) (Own.mono (by assumption) (by omega) (by omega)) (by omega) (by unfold zA6;(repeat' split)<;>first | rfl | contradiction) (by unfold zDa;(repeat' split)<;>first | rfl | contradiction)
  | exact key tBool tBool _ _ 0 _ (by assumption) (by assumption) (Own.mono (by assumption) (by omega) (by omega)) (by omega) (by unfold zA6;(repeat' split)<;>first | rfl | contradiction) (by unfold zDa;(repeat' split)<;>first | rfl | contradiction)
  | exact key tInt tInt _ _ 0 _ (by assumption) (by assumption) (Own.mono (by assumption) (by omega) (by omega)) (by omega) (by unfold zA6;(repeat' split)<;>first | rfl | contradiction) (by unfold zDa;(repeat' split)<;>first | rfl | contradiction)
theorem zR4 {f:FuncId} {rs:List Sh} {args:List PV} {N z c:Nat} {Q:QT rs} {es:List D} (hc:yD prog f=true) (O:PV.sv none z es c∈args) (I:es≠[]):ACalls prog f rs args N Q:=
 ⟨hc,λav w0 _ _ J=>by
  have h:=(J _ O).1.1
  cases h
  exact absurd rfl I⟩
theorem zSg {g:List Tg} {es:List D} (h:Ctx g es) (hg:g.length<=1073741824) (a:Option Addr) (c:Nat) (N:Nat) (Q:QT [.row 127 4]) (hQ:∀ c' N',N<=N'->Q es c' N'):ACalls prog 219 [.row 127 4] [.sv a 4 es c] N Q:=by
 have hl:=h.all.len
 have aa:zC [] es 56:=by unfold zC;simp only [oR];omega
 have I:(a=none->es=[])->ACalls prog 219 [.row 127 4] [.sv a 4 es c] N Q:=λhn=>by
  refine pC N a es c Q λ_=>?_
  repeat' first|with_reducible intro _|simp only[Y1,Y2,Y3,Y4]|with_reducible refine X ?_ ?_|refine⟨_,_,_,rfl,?_⟩|refine⟨_,rfl,?_⟩|refine And.intro (by first|omega|trivial|(show _=_;rfl)|(with_reducible constructor)<;>first|omega|trivial|rfl) ?_|fail
  ·rename_i hi N1 O
   have:es=[]:=hn (by simpa using hi)
   subst this
   exact hQ _ _ O
  ·simp only [oR]
   exact hQ _ _ (by omega)
 cases a with
 | some ad=>exact I (by simp)
 | none=>
   by_cases J:es=[]
   ·exact I λ_=>J
   ·exact zR4 (z:=4) (c:=c) (es:=es) (by kernel_rfl) (by simp) J
theorem w8 {a:Option Addr} {z c:Nat} {es:List D}:∀ x∈(D.sl a z es c).foot,x∈zB es\/∃ ad,a=some ad/\x=ad.block:=by
 intro x hx
 cases a with
 | none=>simp only [D.foot] at hx;exact .inl hx
 | some ad=>
   simp only [D.foot] at hx
   split at hx
   ·simp at hx
   ·rcases oJ.1 hx with rfl | hx
    ·exact .inr ⟨ad,rfl,rfl⟩
    ·exact .inl hx
theorem zEf {a:Option Addr} {z c:Nat} {es:List D}:∀ x∈zB es,x∈(D.sl a z es c).foot:=by
 intro x I
 cases a with
 | none=>simpa only [D.foot] using I
 | some ad=>
   simp only [D.foot]
   split
   ·rename_i h
    cases es with
    | nil=>simp [zB] at I
    | cons=>simp at h
   ·exact nj _ I
theorem zQN {g h:List Tg} {es fs:List D} (I:Ctx g es) (O:Ctx h fs) (aa:g.length+h.length<=1073741824) (a b:Option Addr) (c e:Nat) (N:Nat) (Q:QT [.sl 4])
  (hQ:∀ J es' c' N',N<=N'->Ctx (g++h) es'->(∀ x∈(D.sl J 4 es' c').foot,x∈zB es\/x∈zB fs\/N<=x)->Q J es' c' N'):ACalls prog 205 [.sl 4] [.sv a 4 es c,.sv b 4 fs e] N Q:=by
 have hl:=I.all.len
 have ab:=O.all.len
 have hb:zC es fs 56:=by unfold zC;simp only [oE];omega
 refine zLy N a es c b fs e Q λ_ _=>?_
 repeat' first|with_reducible intro _|simp only[Y1,Y2,Y3,Y4]|with_reducible refine X ?_ ?_|refine⟨_,_,_,rfl,?_⟩|refine⟨_,rfl,?_⟩|refine And.intro (by first|omega|trivial|(show _=_;rfl)|(with_reducible constructor)<;>first|omega|trivial|rfl) ?_|refine (zSg I (by omega) _ _) _ _ ?_|fail
 rename_i J N3 ac hf N4 ae
 refine hQ _ _ _ _ (by omega) ⟨by simp;omega,I.all.app O.all⟩ λx hx=>?_
 rcases w8 x hx with h1 | ⟨ad,rfl,rfl⟩
 ·rw [zE] at h1
  rcases oF.1 h1 with h1 | h1
  ·exact .inl h1
  ·exact .inr (.inl h1)
 ·have:=hf.lo ad rfl
  exact .inr (.inr (by omega))
theorem zO6 {g:List Tg} {es:List D} (h:Ctx g es) (hg:g.length<=1073741824) (hc:∀ x∈g,x.ty.cnt<=1073741824) (a:Option Addr) (c:Nat) (n:Int) :
  ∀ (N:Nat) (Q:QT [.sl 4]),(∀ a' es' c' N',N<=N'->Ctx (sO g n) es'->Q a' es' c' N')->ACalls prog 222 [.sl 4] [.sv a 4 es c,.j n] N Q:=λN Q hQ=>by
 have hl:=h.all.len
 refine zHB N a es c n Q λ_=>?_
 have key:=up h.all h.len (λi xs=>∀ (r:List D) (m q:Nat) (N':Nat) (done:List Tg),N<=N'->m=r.length->All2 Tg.Is done r->done.length<=i->done++rH g n xs i=sO g n->yV Q N a es c n m q a es c es.length i r q N') ?_ ?_
 ·exact key [] 0 0 N [] (oA _) rfl rfl (oA _) rfl
 ·intro i aa hi r m q N' done ab hm J ac hd
  refine qS _ _ _ _ _ _ _ _ _ _ _ _ _ _ _ _ ?_
  repeat' first|with_reducible intro _|simp only[aa,Y1,Y2,Y3,Y4]|with_reducible refine X ?_ ?_|refine⟨_,_,_,rfl,?_⟩|refine⟨_,rfl,?_⟩|refine And.intro (by first|omega|trivial|(show _=_;rfl)|(with_reducible constructor)<;>first|omega|trivial|rfl) ?_|fail
  refine hQ _ _ _ _ (by omega) ⟨by have:=J.len;omega,?_⟩
  simp only [rH,oY] at hd
  rwa [<-hd]
 ·intro i x xs I _ O r m q N' done ab hm J ac hd
  have hb:=I.b
  have ah:=J.len
  obtain ⟨t0,t1,he,hs,ht⟩:=I.r
  simp only [rH] at hd
  refine qS _ _ _ _ _ _ _ _ _ _ _ _ _ _ _ _ ?_
  repeat' first|with_reducible intro _|simp only[I.lt,I.w,oH,he,Y1,Y2,Y3,Y4]|with_reducible refine X ?_ ?_|refine⟨_,_,_,rfl,?_⟩|refine⟨_,rfl,?_⟩|refine And.intro (by first|omega|trivial|(show _=_;rfl)|(with_reducible constructor)<;>first|omega|trivial|rfl) ?_|refine (rg _ _ ht) _ _ ?_|refine (zDI h a c _) _ _ ?_|refine (zI7 _ _ ht (hc x I.m)) _ _ ?_|fail
  ·rename_i N2 ai x' N3 aj hx ho _ _
   have ae:zFR g n x i=true:=by simp [zFR, *]
   rw [if_pos ae] at hd
   refine ⟨by unfold zC;simp only [oE,nu];omega,λc2=>O _ _ _ _ (done++[x]) (by omega) rfl (J.snoc ⟨_,_,rfl,hs,Ty.is_cells hx⟩) (by simp;omega) (by simpa using hd)⟩
  all_goals (refine O _ _ _ _ done (by omega) hm J (by omega) ?_;rw [<-hd,if_neg (by simp [zFR, *])])
theorem ru {bs:List (Option Addr)} {N N':Nat} {d:D} (J:ud N bs) (O:Own N N' d):Off bs d:=λa ha ad I hm=>by
 have:=J a ha ad I
 have:=O.lo _ hm
 omega
theorem zJO {a x b:Option Addr} {es fs O:List D} {c c' N:Nat} (h1:ApA a fs) (h2:Off [a] (.sl x 4 es c)) (h3:ud N [a]) (h4:∀ y∈(D.sl b 4 O c').foot,y∈zB es\/y∈zB fs\/N<=y):Off [a] (.sl b 4 O c'):=λa' J ad I hm=>by
 have e:=oZ.1 J
 subst e
 rcases h4 _ hm with h | h | h
 ·exact h2 a' J ad I (zEf _ h)
 ·obtain ⟨d,hd,hx⟩:=zF.1 h
  exact h1 ad I d hd hx
 ·have:=h3 a' J ad I
  omega
theorem Ty.valid_k {t:Ty} (h:t.valid=true):t.k=1/\t.as=[]\/t.k=2/\t.as=[]\/(t.k=3/\∃ a b,t.as=[a,b])\/(t.k=4/\∃ a,t.as=[a]):=by
 cases t with
 | mk k l=>
   have I:=Ty.form_len h
   simp only [Ty.k,Ty.as]
   unfold zAT at I
   split at I
   ·rename_i hk
    have J:l=[]:=by simpa using I
    rcases hk with hk | hk
    ·exact .inl ⟨hk,J⟩
    ·exact .inr (.inl ⟨hk,J⟩)
   ·split at I
    ·rename_i hk;exact .inr (.inr (.inl ⟨hk,zM5 (by simp at I;omega)⟩))
    ·split at I
     ·rename_i hk;exact .inr (.inr (.inr ⟨hk,zDe (by simp at I;omega)⟩))
     ·cases I
theorem Ty.valid_nz {t:Ty} (h:t.valid=true):t.k≠0:=by
 rcases Ty.valid_k h with h | h | h | h<;>omega
theorem zPE {t:Ty} (h:t.valid=true):tW t tZero=false/\tW tZero t=false:=by
 have I:=Ty.valid_nz h
 cases t with
 | mk k l=>
   have I:k≠0:=I
   have J:0≠k:=λh=>I h.symm
   constructor<;>simp [tW,tZero,I,J]
theorem zQG {t:Ty} (h:t.valid=true):tW t tBool=decide (t.k=2):=by
 have I:=Ty.valid_k h
 cases t with
 | mk k l=>
   simp only [Ty.k,Ty.as] at I
   rw [nQ,ri,nf]
   simp only [tBool,Ty.k,Ty.mk.injEq]
   rcases I with ⟨I,J⟩ | ⟨I,J⟩ | ⟨I,_⟩ | ⟨I,_⟩<;>simp [I]
   exact J
theorem zTz {t:Ty} (h:t.valid=true):tW t tInt=decide (t.k=1):=by
 have I:=Ty.valid_k h
 cases t with
 | mk k l=>
   simp only [Ty.k,Ty.as] at I
   rw [nQ,ri,nf]
   simp only [tInt,Ty.k,Ty.mk.injEq]
   rcases I with ⟨I,J⟩ | ⟨I,J⟩ | ⟨I,_⟩ | ⟨I,_⟩<;>simp [I]
   exact J
/-- the type of a term, the zero type for none -/
def tyZ (e:Tm) (g:List Tg) (n:Int):Ty:=(e.type g n).getD tZero
theorem zMI (e:Tm) (g:List Tg) (n:Int):(tyZ e g n).cnt<=30:=zJb e g n
theorem s7 (e:Tm) (g:List Tg) (n:Int):(e.type g n=none/\tyZ e g n=tZero)\/(e.type g n=some (tyZ e g n)/\(tyZ e g n).valid=true):=by
 cases h:e.type g n with
 | none=>exact .inl ⟨rfl,by simp [tyZ,h]⟩
 | some t=>exact .inr ⟨by simp [tyZ,h],by simpa [tyZ,h] using Tm.type_valid h⟩
def IHi (l:List Tm):Prop:=∀ x∈l,∀ d,x.Is d->∀ g es a c n,Pre g x n->Ctx g es->zDR 142 [.sv a 4 es c,.dg 9 d,.j n] (tyZ x g n)
theorem zE9 {k:Int} {nm ot:ByteArray} {m n:Int} {ty re:Ty} {l:List Tm} {t0 t1 r0 r1:D} {I:List D} {a1 a:Option Addr} {c1 c:Nat} {g:List Tg} {es:List D} (hk:yX k n=n) (ih:IHi l) (h0:All2 Tm.Is l I) (aa:I.length<=4611686018427387904)
  (pre:Pre g (.mk k nm ot m ty re l) n) (J:Ctx g es) (i:Nat) {x:Tm} (O:l[i]?=some x) (b1 b2 b3:Addr) :
  zDR 200 [.j i,.pd b1 0 (.sl a 4 es c),.pd b2 9 (.ag [.j k,.t nm,.t ot,.j m,t0,t1,r0,r1,.sl a1 9 I c1]),.pd b3 0 (.j n)] (tyZ x g n):=λN Q hQ=>by
 have ab:=(oC.1 O).1
 have ac:=h0.len
 have hm:=oD O
 have hp:=pre.sub hm (g':=g) (by omega) pre.ty
 rw [hk] at hp
 refine zAO N i b1 _ b2 _ b3 _ Q ?_
 refine ⟨_,_,_,rfl,_,_,_,rfl,⟨by omega,by omega⟩,_,rfl,?_⟩
 repeat' first|with_reducible intro _|simp only[oH,Y1,Y2,Y3,Y4]|with_reducible refine X ?_ ?_|refine⟨_,_,_,rfl,?_⟩|refine⟨_,rfl,?_⟩|refine And.intro (by first|omega|trivial|(show _=_;rfl)|(with_reducible constructor)<;>first|omega|trivial|rfl) ?_|refine (ih x hm _ (h0.get O) g _ _ _ n hp J) _ _ ?_|fail
 exact hQ _ _ (by omega) (by assumption) (Own.mono (by assumption) (by omega) (by omega))
theorem zVO {e0 e1 I:Tm} {g:List Tg} {n:Int} {s:ByteArray}:((match ya [e0,e1,I] g n with | some ts=>wa 5 s ts | none=>none):Option Ty).getD tZero =
  if tW (tyZ e0 g n) tBool&&tW (tyZ e1 g n) (tyZ I g n) then tyZ e1 g n else tZero:=by
 rcases s7 e0 g n with ⟨J,z0⟩ | ⟨J,v0⟩
 ·simp only [ya,J,z0];rfl
 ·rcases s7 e1 g n with ⟨O,z1⟩ | ⟨O,v1⟩
  ·simp only [ya,J,O,z1];split<;>rfl
  ·rcases s7 I g n with ⟨h2,z2⟩ | ⟨h2,v2⟩
   ·simp only [ya,J,O,h2,z2,(zPE v1).1,mf];rfl
   ·simp only [ya,J,O,h2]
    rw [zQG v0]
    show (wa 5 s [tyZ e0 g n,tyZ e1 g n,tyZ I g n]).getD tZero=_
    unfold wa
    rw [if_neg (by omega),if_pos rfl]
    simp only [List.getD_cons_zero,List.getD_cons_succ]
    by_cases hc:(tyZ e0 g n).k=2/\tW (tyZ e1 g n) (tyZ I g n)=true
    ·rw [if_pos hc,if_pos (by simp [hc.1,hc.2])];rfl
    ·rw [if_neg hc,if_neg (by simpa using hc)];rfl
theorem zUc {e0 e1:Tm} {g:List Tg} {n:Int} {s:ByteArray}:((match ya [e0,e1] g n with | some ts=>wa 7 s ts | none=>none):Option Ty).getD tZero =
  if (tyZ e0 g n).k=3/\tW ((tyZ e0 g n).as.getD 0 tZero) (tyZ e1 g n) then (tyZ e0 g n).as.getD 1 tZero else tZero:=by
 rcases s7 e0 g n with ⟨J,z0⟩ | ⟨J,v0⟩
 ·simp only [ya,J,z0];rfl
 ·rcases s7 e1 g n with ⟨O,z1⟩ | ⟨O,v1⟩
  ·simp only [ya,J,O,z1]
   rw [if_neg]
   ·rfl
   ·rintro ⟨hk,he⟩
    rcases Ty.valid_k v0 with h | h | ⟨_,a,b,I⟩ | h
    ·omega
    ·omega
    ·rw [I,ri] at he
     simp only [List.getD_cons_zero] at he
     subst he
     have:(tyZ e0 g n).form=true:=by simp only [Ty.valid,oL] at v0;exact v0.2
     cases hz:tyZ e0 g n with
     | mk k l=>
       rw [hz] at I this
       simp only [Ty.as] at I
       subst I
       simp [Ty.form,sM,zAT,tZero] at this
    ·omega
  ·simp only [ya,J,O]
   show (wa 7 s [tyZ e0 g n,tyZ e1 g n]).getD tZero=_
   unfold wa
   rw [if_neg (by omega),if_neg (by omega)]
   simp only [List.getD_cons_zero,List.getD_cons_succ]
   split<;>rfl
theorem zVH {l:List Tm} {g:List Tg} {n:Int} {s:ByteArray} (hs:0<zP4 s):((match ya l g n with | some I=>wa 4 s I | none=>none):Option Ty).getD tZero =
  if zCf (zA6 s) (l.map λe=>tyZ e g n) then zDa s else tZero:=by
 have h2:zDa s=zFN s/\(zA6 s=tInt/\zKQ s=1\/zA6 s=tBool/\zKQ s=2):=by
  unfold zP4 at hs
  (repeat' split at hs)<;>first | omega | (subst_vars;exact ⟨rfl,.inl ⟨rfl,rfl⟩⟩) | (subst_vars;exact ⟨rfl,.inr ⟨rfl,rfl⟩⟩) | skip
 obtain ⟨h3,J⟩:=h2
 have key:∀ l:List Tm,(∀ I,ya l g n=some I->zCf (zA6 s) (l.map λe=>tyZ e g n)=zRg (zKQ s) I)/\(ya l g n=none->zCf (zA6 s) (l.map λe=>tyZ e g n)=false):=by
  intro l
  induction l with
  | nil=>exact ⟨λI h=>by simp [ya] at h;subst h;rfl,λh=>by simp [ya] at h⟩
  | cons e l ih=>
    rcases s7 e g n with ⟨h0,z0⟩ | ⟨h0,v0⟩
    ·have:tW tZero (zA6 s)=false:=by rcases J with ⟨J,_⟩ | ⟨J,_⟩<;>rw [J]<;>rfl
     refine ⟨λI h=>by simp [ya,h0] at h,λ_=>by simp [zCf,z0,this]⟩
    ·have hk:tW (tyZ e g n) (zA6 s)=decide ((tyZ e g n).k=zKQ s):=by
      rcases J with ⟨J,h5⟩ | ⟨J,h5⟩<;>rw [J,h5]
      ·exact zTz v0
      ·exact zQG v0
     cases O:ya l g n with
     | none=>exact ⟨λI h=>by simp [ya,h0,O] at h,λ_=>by simp [zCf,ih.2 O]⟩
     | some us=>
       refine ⟨λI h=>?_,λh=>by simp [ya,h0,O] at h⟩
       simp only [ya,h0,O,o4] at h
       subst h
       simp only [om,zCf,zRg,hk,ih.1 us O]
 cases O:ya l g n with
 | none=>rw [(key l).2 O];rfl
 | some I=>
   rw [(key l).1 I O,h3]
   show (wa 4 s I).getD tZero=_
   unfold wa zTI
   rw [if_pos rfl]
   split<;>rfl
/-- a node's cells -/
abbrev zGc (k:Int) (nm ot:ByteArray) (m:Int) (t0 t1 r0 r1:D) (a:Option Addr) (es:List D) (c:Nat):D:=.ag [.j k,.t nm,.t ot,.j m,t0,t1,r0,r1,.sl a 9 es c]
theorem f5 {nm ot:ByteArray} {m n:Int} {ty re:Ty} {l:List Tm} {t0 t1 r0 r1:D} {es1:List D} {a1 a:Option Addr} {c1 c:Nat} {g:List Tg} {es:List D} (ih:IHi l) (hh:Tm.Hd nm ot ty re t0 t1 r0 r1) (h0:All2 Tm.Is l es1) (hl1:es1.length<=4611686018427387904)
  (pre:Pre g (.mk 5 nm ot m ty re l) n) (ctx:Ctx g es) :
  zDR 176 [.sv a 4 es c,.dg 9 (zGc 5 nm ot m t0 t1 r0 r1 a1 es1 c1),.j n] ((Tm.raw (.mk 5 nm ot m ty re l) g n).getD tZero):=fun N Q hQ=>by
 have hl : l.length = 3 := by have:(l.length:Int)=3:=(xq pre.ok).ar
                              omega
 obtain ⟨e0,e1,e2,rfl⟩:∃ a b c,l=[a,b,c]:=by
  match l,hl with
  | [a,b,c],_=>exact ⟨a,b,c,rfl⟩
 have hraw:(Tm.raw (.mk 5 nm ot m ty re [e0,e1,e2]) g n).getD tZero=if tW (tyZ e0 g n) tBool&&tW (tyZ e1 g n) (tyZ e2 g n) then tyZ e1 g n else tZero:=by
  rw [<-zVO (s:=nm)]
  simp only [Tm.raw]
  rfl
 rw [hraw] at hQ
 have hn:yX 5 n=n:=by simp [yX]
 refine zu N a es c _ n Q fun _ _=>⟨_,rfl,?_⟩
 repeat' first|with_reducible intro _|simp only[Y1,Y2,Y3,Y4]|with_reducible refine X ?_ ?_|refine⟨_,_,_,rfl,?_⟩|refine⟨_,rfl,?_⟩|refine And.intro (by first|omega|trivial|(show _=_;rfl)|(with_reducible constructor)<;>first|omega|trivial|rfl) ?_|refine (zE9 hn ih h0 hl1 pre ctx 1 rfl _ _ _) _ _ ?_|refine (zE9 hn ih h0 hl1 pre ctx 2 rfl _ _ _) _ _ ?_|refine (zE9 hn ih h0 hl1 pre ctx 0 rfl _ _ _) _ _ ?_|refine zIs _ _ ?_|refine (zZ (tyZ e0 g n) tBool _ _ (by assumption) (by assumption)) _ _ ?_|refine (zZ (tyZ e1 g n) (tyZ e2 g n) _ _ (by assumption) (by assumption)) _ _ ?_|(((with_reducible refine And.intro ?_ ?_);· exact ru (by assumption) (by assumption)))|fail
 all_goals first | (exfalso;omega) | skip
 all_goals first
  | exact hQ _ _ (by omega) (by rw [if_pos (by simp [*])];assumption) (Own.mono (by assumption) (by omega) (by omega))
  | exact hQ _ _ (by omega) (by rw [if_neg (by simp [*])];exact xb) yc
/-- the type of a call -/
def zPZ (z0 I:Ty):Ty:=if z0.k=3/\tW (z0.as.getD 0 tZero) I then z0.as.getD 1 tZero else tZero
theorem f7 {nm ot:ByteArray} {m n:Int} {ty re:Ty} {l:List Tm} {t0 t1 r0 r1:D} {es1:List D} {a1 a:Option Addr} {c1 c:Nat} {g:List Tg} {es:List D} (ih:IHi l) (hh:Tm.Hd nm ot ty re t0 t1 r0 r1) (h0:All2 Tm.Is l es1) (hl1:es1.length<=4611686018427387904)
  (pre:Pre g (.mk 7 nm ot m ty re l) n) (ctx:Ctx g es) :
  zDR 176 [.sv a 4 es c,.dg 9 (zGc 7 nm ot m t0 t1 r0 r1 a1 es1 c1),.j n] ((Tm.raw (.mk 7 nm ot m ty re l) g n).getD tZero):=fun N Q hQ=>by
 have hl : l.length = 2 := by have:(l.length:Int)=2:=(xq pre.ok).ar
                              omega
 obtain ⟨e0,e1,rfl⟩:=zM5 hl
 have hraw:(Tm.raw (.mk 7 nm ot m ty re [e0,e1]) g n).getD tZero=zPZ (tyZ e0 g n) (tyZ e1 g n):=by
  unfold zPZ
  rw [<-zUc (s:=nm)]
  simp only [Tm.raw]
  rfl
 rw [hraw] at hQ
 have hn:yX 7 n=n:=by simp [yX]
 refine zu N a es c _ n Q fun _ _=>⟨_,rfl,?_⟩
 repeat' first|with_reducible intro _|simp only[Y1,Y2,Y3,Y4]|with_reducible refine X ?_ ?_|refine⟨_,_,_,rfl,?_⟩|refine⟨_,rfl,?_⟩|refine And.intro (by first|omega|trivial|(show _=_;rfl)|(with_reducible constructor)<;>first|omega|trivial|rfl) ?_|refine (zE9 hn ih h0 hl1 pre ctx 0 rfl _ _ _) _ _ ?_|refine (zE9 hn ih h0 hl1 pre ctx 1 rfl _ _ _) _ _ ?_|(((with_reducible refine And.intro ?_ ?_);· exact ru (by assumption) (by assumption)))|fail
 all_goals first | (exfalso;omega) | skip
 rename_i hd0 ho0 _ _ _ _ _ _ _ _ _ _ _ _ _ _ hd1 ho1 _ _
 have hv:=s7 e0 g n
 generalize tyZ e0 g n=z0 at *
 cases z0 with
 | mk k0 l0=>
 obtain ⟨a2,es2,c2,rfl,hl2,he2⟩:=Ty.is_mk.1 hd0
 by_cases hk:k0=3
 ·subst hk
  have hv:(Ty.mk 3 l0).valid=true:=by
   rcases hv with ⟨_,hv⟩ | ⟨_,hv⟩
   ·cases hv
   ·exact hv
  have hcn:=Ty.valid_cnt hv
  rcases Ty.valid_k hv with ⟨hk,_⟩ | ⟨hk,_⟩ | ⟨_,u,v,huv⟩ | ⟨hk,_⟩
  ·cases hk
  ·cases hk
  ·simp only [Ty.as] at huv
   subst huv
   obtain ⟨x0,_,rfl,hx0,x1,_,rfl,hx1,rfl⟩:=he2
   simp only [Ty.cnt,zI] at hcn
   have q1:tW u (tyZ e1 g n)=true->zPZ (.mk 3 [u,v]) (tyZ e1 g n)=v:=fun h=>if_pos ⟨rfl,h⟩
   have q2:tW u (tyZ e1 g n)=false->zPZ (.mk 3 [u,v]) (tyZ e1 g n)=tZero:=fun h=>if_neg fun hc=>by rw [show (Ty.mk 3 [u,v]).as.getD 0 tZero=u from rfl,h] at hc;cases hc.2
   repeat' first|with_reducible intro _|simp only[oK,oO,Y1,Y2,Y3,Y4]|with_reducible refine X ?_ ?_|refine⟨_,_,_,rfl,?_⟩|refine⟨_,rfl,?_⟩|refine And.intro (by first|omega|trivial|(show _=_;rfl)|(with_reducible constructor)<;>first|omega|trivial|rfl) ?_|refine (zZ u (tyZ e1 g n) _ _ hx0 hd1) _ _ ?_|refine (zI7 v _ hx1 (by omega)) _ _ ?_|fail
   all_goals first | (exfalso;omega) | skip
   all_goals first
    | exact hQ _ _ (by omega) (by rw [q1 (by assumption)];assumption) (Own.mono (by assumption) (by omega) (by omega))
    | exact hQ _ _ (by omega) (by rw [q2 (by assumption)];exact xb) yc
  ·cases hk
 ·repeat' first|with_reducible intro _|simp only[Y1,Y2,Y3,Y4]|with_reducible refine X ?_ ?_|refine⟨_,_,_,rfl,?_⟩|refine⟨_,rfl,?_⟩|refine And.intro (by first|omega|trivial|(show _=_;rfl)|(with_reducible constructor)<;>first|omega|trivial|rfl) ?_|fail
  all_goals first | (exfalso;omega) | skip
  exact hQ _ _ (by omega) (by rw [show zPZ (.mk k0 l0) (tyZ e1 g n)=tZero from if_neg fun h=>hk h.1];exact xb) yc
/-- the type of a function of this parameter -/
def zQ7 (t z:Ty):Ty:=if z.k=0 then tZero else tc t z
theorem f6 {nm ot:ByteArray} {m n:Int} {ty re:Ty} {l:List Tm} {t0 t1 r0 r1:D} {es1:List D} {a1 a:Option Addr} {c1 c:Nat} {g:List Tg} {es:List D} (ih:IHi l) (hh:Tm.Hd nm ot ty re t0 t1 r0 r1) (h0:All2 Tm.Is l es1) (hl1:es1.length<=4611686018427387904)
  (pre:Pre g (.mk 6 nm ot m ty re l) n) (ctx:Ctx g es) :
  zDR 176 [.sv a 4 es c,.dg 9 (zGc 6 nm ot m t0 t1 r0 r1 a1 es1 c1),.j n] ((Tm.raw (.mk 6 nm ot m ty re l) g n).getD tZero):=fun N Q hQ=>by
 have hl : l.length = 1 := by have:(l.length:Int)=1:=(xq pre.ok).ar
                              omega
 obtain ⟨e0,rfl⟩:=zDe hl
 obtain ⟨d0,_,rfl,h0,rfl⟩:=h0
 have hlen:=pre.len
 have hpc:1<=(Tm.mk 6 nm ot m ty re [e0]).cnt:=by simp only [Tm.cnt];omega
 have hv:=Ty.valid_cnt ((xq pre.ok).vt (.inl rfl))
 have hp:=pre.sub (x:=e0) (by simp) (g':=g++[⟨nm,ty,n⟩]) (by simp) (qe pre.ty (show ty.cnt<=64 by omega))
 rw [show yX 6 n=n by simp [yX]] at hp
 have hc:=zMI e0 (g++[⟨nm,ty,n⟩]) n
 have hz:=s7 e0 (g++[⟨nm,ty,n⟩]) n
 have hraw:(Tm.raw (.mk 6 nm ot m ty re [e0]) g n).getD tZero=zQ7 ty (tyZ e0 (g++[⟨nm,ty,n⟩]) n):=by
  have:Tm.raw (.mk 6 nm ot m ty re [e0]) g n=(match e0.type (g++[⟨nm,ty,n⟩]) n with | some b=>some (tc ty b) | none=>none):=by simp only [Tm.raw,u7];rfl
  rw [this]
  unfold zQ7
  rcases hz with ⟨h1,h2⟩ | ⟨h1,h2⟩
  ·rw [h1,h2];rfl
  ·rw [h1,if_neg (Ty.valid_nz h2)];rfl
 rw [hraw] at hQ
 have hctx:Ctx [⟨nm,ty,n⟩] [.ag [.t nm,t0,t1,.j n]]:=⟨by simp,_,_,rfl,⟨_,_,rfl,hh.nm,hh.ty⟩,rfl⟩
 refine zu N a es c _ n Q fun _ _=>⟨_,rfl,?_⟩
 repeat' first|with_reducible intro _|simp only[oK,oO,Y1,Y2,Y3,Y4]|with_reducible refine X ?_ ?_|refine⟨_,_,_,rfl,?_⟩|refine⟨_,rfl,?_⟩|refine And.intro (by first|omega|trivial|(show _=_;rfl)|(with_reducible constructor)<;>first|omega|trivial|rfl) ?_|refine (zQN ctx hctx (by simp;omega) _ _ _ _) _ _ ?_|refine (ih e0 nT d0 h0 (g++[⟨nm,ty,n⟩]) _ _ _ n hp (by assumption)) _ _ ?_|(((with_reducible refine And.intro ?_ ?_);· exact zJO (by assumption) (by assumption) (by assumption) (by assumption)))|fail
 all_goals first | (exfalso;omega) | skip
 rename_i hd0 ho0 _ _
 generalize tyZ e0 (g++[⟨nm,ty,n⟩]) n=z0 at *
 cases z0 with
 | mk k0 l0=>
 have hd1:=hd0
 obtain ⟨a2,es2,c2,rfl,hl2,he2⟩:=Ty.is_mk.1 hd0
 repeat' first|with_reducible intro _|simp only[Y1,Y2,Y3,Y4]|with_reducible refine X ?_ ?_|refine⟨_,_,_,rfl,?_⟩|refine⟨_,rfl,?_⟩|refine And.intro (by first|omega|trivial|(show _=_;rfl)|(with_reducible constructor)<;>first|omega|trivial|rfl) ?_|refine (zOd ty (.mk k0 l0) _ _ hh.ty hd1 (by omega) (by omega)) _ _ ?_|fail
 all_goals first
  | exact hQ _ _ (by omega) (by rw [show zQ7 ty (.mk k0 l0)=tZero from if_pos (by assumption)];exact xb) yc
  | exact hQ _ _ (by omega) (by rw [show zQ7 ty (.mk k0 l0)=tc ty (.mk k0 l0) from if_neg (by assumption)];assumption) (Own.mono (by assumption) (by omega) (by omega))
/-- the type of a let whose first part has this type -/
def zQ4 (e1:Tm) (g:List Tg) (nm:ByteArray) (n:Int) (z:Ty):Ty:=if z.k=0 then tZero else tyZ e1 (g++[⟨nm,z,n⟩]) n
theorem f8 {nm ot:ByteArray} {m n:Int} {ty re:Ty} {l:List Tm} {t0 t1 r0 r1:D} {es1:List D} {a1 a:Option Addr} {c1 c:Nat} {g:List Tg} {es:List D} (ih:IHi l) (hh:Tm.Hd nm ot ty re t0 t1 r0 r1) (h0:All2 Tm.Is l es1) (hl1:es1.length<=4611686018427387904)
  (pre:Pre g (.mk 8 nm ot m ty re l) n) (ctx:Ctx g es) :
  zDR 176 [.sv a 4 es c,.dg 9 (zGc 8 nm ot m t0 t1 r0 r1 a1 es1 c1),.j n] ((Tm.raw (.mk 8 nm ot m ty re l) g n).getD tZero):=fun N Q hQ=>by
 have hl : l.length = 2 := by have:(l.length:Int)=2:=(xq pre.ok).ar
                              omega
 obtain ⟨e0,e1,rfl⟩:=zM5 hl
 have hes1:=h0
 obtain ⟨d0,_,rfl,h0,d1,_,rfl,h1,rfl⟩:=h0
 have hlen:=pre.len
 have hpc:1<=(Tm.mk 8 nm ot m ty re [e0,e1]).cnt:=by simp only [Tm.cnt];omega
 have hz:=s7 e0 g n
 have hc:=zMI e0 g n
 have hraw:(Tm.raw (.mk 8 nm ot m ty re [e0,e1]) g n).getD tZero=zQ4 e1 g nm n (tyZ e0 g n):=by
  have:Tm.raw (.mk 8 nm ot m ty re [e0,e1]) g n=(match e0.type g n with | some b=>e1.type (g++[⟨nm,b,n⟩]) n | none=>none):=by simp only [Tm.raw,u7];rfl
  rw [this]
  unfold zQ4
  rcases hz with ⟨h1,h2⟩ | ⟨h1,h2⟩
  ·rw [h1,h2];rfl
  ·rw [h1,if_neg (Ty.valid_nz h2)];rfl
 rw [hraw] at hQ
 have hn:yX 8 n=n:=by simp [yX]
 refine zu N a es c _ n Q fun _ _=>⟨_,rfl,?_⟩
 repeat' first|with_reducible intro _|simp only[oK,oO,Y1,Y2,Y3,Y4]|with_reducible refine X ?_ ?_|refine⟨_,_,_,rfl,?_⟩|refine⟨_,rfl,?_⟩|refine And.intro (by first|omega|trivial|(show _=_;rfl)|(with_reducible constructor)<;>first|omega|trivial|rfl) ?_|refine (zE9 hn ih hes1 hl1 pre ctx 0 rfl _ _ _) _ _ ?_|(((with_reducible refine And.intro ?_ ?_);· exact ru (by assumption) (by assumption)))|fail
 all_goals first | (exfalso;omega) | skip
 rename_i hd0 ho0 _ _
 generalize tyZ e0 g n=z0 at *
 cases z0 with
 | mk k0 l0=>
 have hd1:=hd0
 obtain ⟨a2,es2,c2,rfl,hl2,he2⟩:=Ty.is_mk.1 hd0
 by_cases hk:k0=0
 ·have q:zQ4 e1 g nm n (.mk k0 l0)=tZero:=if_pos hk
  rw [q] at hQ
  repeat' first|with_reducible intro _|simp only[Y1,Y2,Y3,Y4]|with_reducible refine X ?_ ?_|refine⟨_,_,_,rfl,?_⟩|refine⟨_,rfl,?_⟩|refine And.intro (by first|omega|trivial|(show _=_;rfl)|(with_reducible constructor)<;>first|omega|trivial|rfl) ?_|fail
  all_goals first | (exfalso;omega) | exact hQ _ _ (by omega) xb yc
 ·have q:zQ4 e1 g nm n (.mk k0 l0)=tyZ e1 (g++[⟨nm,.mk k0 l0,n⟩]) n:=if_neg hk
  rw [q] at hQ
  have hp:=pre.sub (x:=e1) (by simp) (g':=g++[⟨nm,.mk k0 l0,n⟩]) (by simp) (qe pre.ty (oe hc (by omega)))
  rw [hn] at hp
  have hctx:Ctx [⟨nm,.mk k0 l0,n⟩] [.ag [.t nm,.j k0,.sl a2 2 es2 c2,.j n]]:=⟨by simp,_,_,rfl,⟨_,_,rfl,hh.nm,hd1⟩,rfl⟩
  repeat' first|with_reducible intro _|simp only[oK,oO,Y1,Y2,Y3,Y4]|with_reducible refine X ?_ ?_|refine⟨_,_,_,rfl,?_⟩|refine⟨_,rfl,?_⟩|refine And.intro (by first|omega|trivial|(show _=_;rfl)|(with_reducible constructor)<;>first|omega|trivial|rfl) ?_|refine (zQN ctx hctx (by simp;omega) _ _ _ _) _ _ ?_|refine (ih e1 (by simp) d1 h1 (g++[⟨nm,.mk k0 l0,n⟩]) _ _ _ n hp (by assumption)) _ _ ?_|(((with_reducible refine And.intro ?_ ?_);· exact zJO (by assumption) (by assumption) (by assumption) (by assumption)))|fail
  all_goals first | (exfalso;omega) | skip
  exact hQ _ _ (by omega) (by assumption) (Own.mono (by assumption) (by omega) (by omega))
theorem zVM {nm ot:ByteArray} {ty re:Ty} {t0 t1 r0 r1 x:D} (I:Tm.Hd nm ot ty re t0 t1 r0 r1) (J:(tc ty re).Is x) (n:Int) :
  Ctx [⟨nm,tc ty re,n⟩,⟨ot,ty,n⟩] [.ag [.t nm,D.cell x 0,D.cell x 1,.j n],.ag [.t ot,t0,t1,.j n]]:=
 ⟨by simp,_,_,rfl,⟨_,_,rfl,I.nm,Ty.is_cells J⟩,_,_,rfl,⟨_,_,rfl,I.ot,I.ty⟩,rfl⟩
theorem f9 {nm ot:ByteArray} {m n:Int} {ty re:Ty} {l:List Tm} {t0 t1 r0 r1:D} {es1:List D} {a1 a:Option Addr} {c1 c:Nat} {g:List Tg} {es:List D} (ih:IHi l) (hh:Tm.Hd nm ot ty re t0 t1 r0 r1) (h0:All2 Tm.Is l es1) (hl1:es1.length<=4611686018427387904)
  (pre:Pre g (.mk 9 nm ot m ty re l) n) (ctx:Ctx g es) :
  zDR 176 [.sv a 4 es c,.dg 9 (zGc 9 nm ot m t0 t1 r0 r1 a1 es1 c1),.j n] ((Tm.raw (.mk 9 nm ot m ty re l) g n).getD tZero):=fun N Q hQ=>by
 have hl : l.length = 1 := by have:(l.length:Int)=1:=(xq pre.ok).ar
                              omega
 obtain ⟨e0,rfl⟩:=zDe hl
 obtain ⟨d0,_,rfl,h0,rfl⟩:=h0
 have hlen:=pre.len
 have hpc:1<=(Tm.mk 9 nm ot m ty re [e0]).cnt:=by simp only [Tm.cnt];omega
 have hv:=Ty.valid_cnt ((xq pre.ok).vt (.inr rfl))
 have hrv:=(xq pre.ok).vr rfl
 have hr:=Ty.valid_cnt hrv
 have hg1:=qe (x:=⟨nm,tc ty re,n⟩) pre.ty (show (tc ty re).cnt<=64 by simp only [tc,Ty.cnt,zI];omega)
 have hp:=pre.sub (x:=e0) (by simp) (g':=(g++[⟨nm,tc ty re,n⟩])++[⟨ot,ty,n⟩]) (by simp) (qe hg1 (show ty.cnt<=64 by omega))
 rw [show yX 9 n=n by simp [yX],o0,nq] at hp
 have hz:=s7 e0 (g++[⟨nm,tc ty re,n⟩,⟨ot,ty,n⟩]) n
 have hraw:(Tm.raw (.mk 9 nm ot m ty re [e0]) g n).getD tZero=if tW (tyZ e0 (g++[⟨nm,tc ty re,n⟩,⟨ot,ty,n⟩]) n) re then tc ty re else tZero:=by
  have:Tm.raw (.mk 9 nm ot m ty re [e0]) g n=(match e0.type ((g++[⟨nm,tc ty re,n⟩])++[⟨ot,ty,n⟩]) n with | some b=>if tW b re then some (tc ty re) else none | none=>none):=by simp only [Tm.raw,u7];rfl
  rw [this,o0,nq]
  rcases hz with ⟨h1,h2⟩ | ⟨h1,h2⟩
  ·rw [h1,h2,(zPE hrv).2];rfl
  ·rw [h1];dsimp only;split<;>rfl
 rw [hraw] at hQ
 refine zu N a es c _ n Q fun _ _=>⟨_,rfl,?_⟩
 repeat' first|with_reducible intro _|simp only[oK,oO,Y1,Y2,Y3,Y4]|with_reducible refine X ?_ ?_|refine⟨_,_,_,rfl,?_⟩|refine⟨_,rfl,?_⟩|refine And.intro (by first|omega|trivial|(show _=_;rfl)|(with_reducible constructor)<;>first|omega|trivial|rfl) ?_|refine (zOd ty re _ _ hh.ty hh.re (by omega) (by omega)) _ _ ?_|refine (zQN ctx (h:=[⟨nm,tc ty re,n⟩,⟨ot,ty,n⟩]) (zVM hh (by assumption) n) (by simp;omega) _ _ _ _) _ _ ?_|refine (ih e0 nT d0 h0 (g++[⟨nm,tc ty re,n⟩,⟨ot,ty,n⟩]) _ _ _ n hp (by assumption)) _ _ ?_|refine (zZ (tyZ e0 (g++[⟨nm,tc ty re,n⟩,⟨ot,ty,n⟩]) n) re _ _ (by assumption) hh.re) _ _ ?_|(((with_reducible refine And.intro ?_ ?_);· exact zJO (by assumption) (by assumption) (by assumption) (by assumption)))|fail
 all_goals first | (exfalso;omega) | skip
 all_goals first
  | exact hQ _ _ (by omega) (by rw [if_pos (by assumption)];assumption) (Own.mono (by assumption) (by omega) (by omega))
  | exact hQ _ _ (by omega) (by rw [if_neg (by simp [*])];exact xb) yc
/-- the type of a stage over a part of this type -/
def stZ (k:Int) (z:Ty):Ty:=if k=10 then (if z.k=0 then tZero else zEU z) else if k=13 then (if z.base then zEU z else tZero) else zDi z
theorem zTt {k:Int} {e0:Tm} {g:List Tg} {n:Int}:((match e0.type g n with | some t=>xT k t | none=>none):Option Ty).getD tZero=stZ k (tyZ e0 g n):=by
 rcases s7 e0 g n with ⟨I,J⟩ | ⟨I,J⟩
 ·rw [I,J]
  have:stZ k tZero=tZero:=by
   unfold stZ
   split
   ·rfl
   ·split<;>rfl
  exact this.symm
 ·rw [I]
  dsimp only
  have:=Ty.valid_nz J
  unfold stZ xT zDi
  rw [if_neg this]
  (repeat' split)<;>rfl
theorem fS {k:Int} {nm ot:ByteArray} {m n:Int} {ty re:Ty} {l:List Tm} {t0 t1 r0 r1:D} {ac:List D} {a1 a:Option Addr} {c1 c:Nat} {g:List Tg} {es:List D} (hk:k=10\/k=11\/k=12\/k=13) (ih:IHi l) (hh:Tm.Hd nm ot ty re t0 t1 r0 r1) (h0:All2 Tm.Is l ac) (ao:ac.length<=4611686018427387904)
  (pre:Pre g (.mk k nm ot m ty re l) n) (ab:Ctx g es) :
  zDR 207 [.sv a 4 es c,.dg 9 (zGc k nm ot m t0 t1 r0 r1 a1 ac c1),.j n] ((Tm.raw (.mk k nm ot m ty re l) g n).getD tZero):=λN Q hQ=>by
 have hl:l.length=1:=by
  have ak:=(xq pre.ok).ar
  have:(l.length:Int)=1:=by rw [ak];rcases hk with rfl | rfl | rfl | rfl<;>rfl
  omega
 obtain ⟨e0,rfl⟩:=zDe hl
 obtain ⟨d0,_,rfl,h0,rfl⟩:=h0
 have hlen:=pre.len
 have aq:=pre.lv
 have ae:=zCh g n g 0
 have al:∀ x∈g,x.ty.cnt<=1073741824:=λx hx=>oe (pre.ty x hx) (by omega)
 have ah:(Tm.raw (.mk k nm ot m ty re [e0]) g n).getD tZero=stZ k (tyZ e0 (if k=12 then sO g n else g) (yX k n)):=by
  rw [<-zTt]
  simp only [Tm.raw,u7]
  rw [if_neg (by omega),if_neg (by omega),if_neg (by omega),if_neg (by omega),if_neg (by omega),if_neg (by omega),if_pos hk]
  rfl
 rw [ah] at hQ
 have hp:=pre.sub (x:=e0) (by simp) (g':=if k=12 then sO g n else g) (by split<;>simp [sO];omega) (by split;exact λy hy=>pre.ty y (ae.1 y hy);exact pre.ty)
 have aa:∀ es a c,Ctx (if k=12 then sO g n else g) es->zDR 142 [.sv a 4 es c,.dg 9 d0,.j (yX k n)] (tyZ e0 (if k=12 then sO g n else g) (yX k n)):=λes a c hc=>ih e0 nT d0 h0 _ es a c _ hp hc
 have hz:=s7 e0 (if k=12 then sO g n else g) (yX k n)
 have au:=zMI e0 (if k=12 then sO g n else g) (yX k n)
 generalize tyZ e0 (if k=12 then sO g n else g) (yX k n)=z0 at *
 have ai:z0.valid=true\/z0=tZero:=hz.elim (λh=>.inr h.2) λh=>.inl h.2
 refine zEB N a es c _ n Q λ_ _=>⟨_,rfl,?_⟩
 rw [i64_in (n+1) (by omega),i64_in (n - 1) (by omega)]
 cases z0 with
 | mk J O=>
 rcases hk with rfl | rfl | rfl | rfl
 ·have I:=aa es a c ab
  rw [show yX 10 n=n+1 by simp [yX]] at I
  repeat' first|with_reducible intro _|simp only[oK,oO,Y1,Y2,Y3,Y4]|with_reducible refine X ?_ ?_|refine⟨_,_,_,rfl,?_⟩|refine⟨_,rfl,?_⟩|refine And.intro (by first|omega|trivial|(show _=_;rfl)|(with_reducible constructor)<;>first|omega|trivial|rfl) ?_|refine I _ _ ?_|fail
  all_goals first | (exfalso;omega) | skip
  rename_i aj aw _ _
  have am:=aj
  obtain ⟨a2,ax,c2,rfl,ay,az⟩:=Ty.is_mk.1 aj
  have q:stZ 10 (.mk J O)=if J=0 then tZero else zEU (.mk J O):=rfl
  rw [q] at hQ
  repeat' first|with_reducible intro _|simp only[Y1,Y2,Y3,Y4]|with_reducible refine X ?_ ?_|refine⟨_,_,_,rfl,?_⟩|refine⟨_,rfl,?_⟩|refine And.intro (by first|omega|trivial|(show _=_;rfl)|(with_reducible constructor)<;>first|omega|trivial|rfl) ?_|refine (zMu (.mk J O) _ am (by omega)) _ _ ?_|fail
  all_goals first
   | exact hQ _ _ (by omega) (by rw [if_neg (by assumption)];assumption) (Own.mono (by assumption) (by omega) (by omega))
   | exact hQ _ _ (by omega) (by rw [if_pos (by assumption)];exact xb) yc
 ·have I:=aa es a c ab
  rw [show yX 11 n=n - 1 by simp [yX]] at I
  have q:stZ 11 (.mk J O)=zDi (.mk J O):=rfl
  rw [q] at hQ
  repeat' first|with_reducible intro _|simp only[oK,oO,Y1,Y2,Y3,Y4]|with_reducible refine X ?_ ?_|refine⟨_,_,_,rfl,?_⟩|refine⟨_,rfl,?_⟩|refine And.intro (by first|omega|trivial|(show _=_;rfl)|(with_reducible constructor)<;>first|omega|trivial|rfl) ?_|refine I _ _ ?_|refine (zMg (.mk J O) _ (by assumption) ai) _ _ ?_|fail
  all_goals first | (exfalso;omega) | skip
  exact hQ _ _ (by omega) (by assumption) (Own.mono (by assumption) (by omega) (by omega))
 ·rw [if_pos rfl,show yX 12 n=n by simp [yX]] at aa
  have q:stZ 12 (.mk J O)=zDi (.mk J O):=rfl
  rw [q] at hQ
  repeat' first|with_reducible intro _|simp only[oK,oO,Y1,Y2,Y3,Y4]|with_reducible refine X ?_ ?_|refine⟨_,_,_,rfl,?_⟩|refine⟨_,rfl,?_⟩|refine And.intro (by first|omega|trivial|(show _=_;rfl)|(with_reducible constructor)<;>first|omega|trivial|rfl) ?_|refine (zO6 ab (by omega) al _ _ n) _ _ ?_|refine (aa _ _ _ (by assumption)) _ _ ?_|refine (zMg (.mk J O) _ (by assumption) ai) _ _ ?_|fail
  all_goals first | (exfalso;omega) | skip
  exact hQ _ _ (by omega) (by assumption) (Own.mono (by assumption) (by omega) (by omega))
 ·have I:=aa es a c ab
  rw [show yX 13 n=n by simp [yX]] at I
  have q:stZ 13 (.mk J O)=if (Ty.mk J O).base then zEU (.mk J O) else tZero:=rfl
  rw [q] at hQ
  repeat' first|with_reducible intro _|simp only[oK,oO,Y1,Y2,Y3,Y4]|with_reducible refine X ?_ ?_|refine⟨_,_,_,rfl,?_⟩|refine⟨_,rfl,?_⟩|refine And.intro (by first|omega|trivial|(show _=_;rfl)|(with_reducible constructor)<;>first|omega|trivial|rfl) ?_|refine I _ _ ?_|refine (rg (.mk J O) _ (by assumption)) _ _ ?_|refine (zMu (.mk J O) _ (by assumption) (by omega)) _ _ ?_|fail
  all_goals first | (exfalso;omega) | skip
  all_goals first
   | exact hQ _ _ (by omega) (by rw [if_pos (by assumption)];assumption) (Own.mono (by assumption) (by omega) (by omega))
   | exact hQ _ _ (by omega) (by rw [if_neg (by simp [*])];exact xb) yc
theorem f4 {nm ot:ByteArray} {m n:Int} {ty re:Ty} {l:List Tm} {t0 t1 r0 r1:D} {I:List D} {a1 a:Option Addr} {c1 c:Nat} {g:List Tg} {es:List D} (ih:IHi l) (hh:Tm.Hd nm ot ty re t0 t1 r0 r1) (h0:All2 Tm.Is l I) (aa:I.length<=4611686018427387904)
  (pre:Pre g (.mk 4 nm ot m ty re l) n) (ah:Ctx g es) :
  zDR 176 [.sv a 4 es c,.dg 9 (zGc 4 nm ot m t0 t1 r0 r1 a1 I c1),.j n] ((Tm.raw (.mk 4 nm ot m ty re l) g n).getD tZero):=λN Q hQ=>by
 have hlen:=pre.len
 have ao:=yg l
 have aq:=h0.len
 simp only [Tm.cnt] at hlen
 have ai:0<zP4 nm:=by
  have:=(xq pre.ok).f
  simp only [xG,zF6,oL] at this
  have:=this.2.2.2.2.2
  simp at this
  exact this.1
 have ab:(Tm.raw (.mk 4 nm ot m ty re l) g n).getD tZero=if zCf (zA6 nm) (l.map λe=>tyZ e g n) then zDa nm else tZero:=by
  rw [<-zVH ai]
  simp only [Tm.raw]
  rfl
 rw [ab] at hQ
 have hn:yX 4 n=n:=by simp [yX]
 have key:yx Q N 0 0 I.length (0:Nat) (zGc 4 nm ot m t0 t1 r0 r1 a1 I c1) 0 none [] 0 a es c n [] 0 N:=by
  refine up h0 aa (λi xs=>∀ (r:List D) (q p:Nat) (N':Nat) (ts:List Ty),N<=N'->p=r.length->All2 Ty.Is ts r->ts.length=i->(∀ b∈zB r,N<=b)->ts++(xs.map λe=>tyZ e g n)=(l.map λe=>tyZ e g n) ->
   yx Q N p q I.length i (zGc 4 nm ot m t0 t1 r0 r1 a1 I c1) 0 none [] 0 a es c n r q N') ?_ ?_ [] 0 0 N [] (oA _) rfl rfl rfl (by simp [zB]) rfl
  ·intro i aj hi r q p N' ts ak hp hr ac ae J
   have al:=hr.len
   simp only [mI,oY] at J
   rw [<-J] at hQ
   refine sC _ _ _ _ _ _ _ _ _ _ _ _ _ _ _ _ _ _ ?_
   repeat' first|with_reducible intro _|simp only[aj,Y1,Y2,Y3,Y4]|with_reducible refine X ?_ ?_|refine⟨_,_,_,rfl,?_⟩|refine⟨_,rfl,?_⟩|refine And.intro (by first|omega|trivial|(show _=_;rfl)|(with_reducible constructor)<;>first|omega|trivial|rfl) ?_|refine (zRh hr (by omega) _ _ nm) _ _ ?_|(((with_reducible refine And.intro ?_ ?_);· exact ru (by assumption) (by assumption)))|fail
   exact hQ _ _ (by omega) (by assumption) (Own.mono (by assumption) (by omega) (by omega))
  ·intro i x xs O _ am r q p N' ts ak hp hr ac ae J
   have hb:=O.b
   have al:=hr.len
   refine sC _ _ _ _ _ _ _ _ _ _ _ _ _ _ _ _ _ _ ?_
   repeat' first|with_reducible intro _|simp only[O.lt,O.w,oH,Y1,Y2,Y3,Y4]|with_reducible refine X ?_ ?_|refine⟨_,_,_,rfl,?_⟩|refine⟨_,rfl,?_⟩|refine And.intro (by first|omega|trivial|(show _=_;rfl)|(with_reducible constructor)<;>first|omega|trivial|rfl) ?_|refine (zE9 hn ih h0 aa pre ah i O.g _ _ _) _ _ ?_|(((with_reducible refine And.intro ?_ ?_);· exact ru (by assumption) (by assumption)))|fail
   all_goals first | (exfalso;omega) | skip
   rename_i hd ho _ _
   refine ⟨by unfold zC;simp only [oE,nu];omega,λc2=>am _ _ _ _ (ts++[tyZ x g n]) (by omega) rfl (hr.snoc hd) (by simp [ac]) (λb hb=>?_) (by simpa using J)⟩
   rw [zE] at hb
   rcases oF.1 hb with hb | hb
   ·exact ae b hb
   ·simp only [zB,oY] at hb
    have:=ho.lo b hb
    omega
 refine zu N a es c _ n Q λ_ _=>⟨_,rfl,?_⟩
 repeat' first|with_reducible intro _|simp only[Y1,Y2,Y3,Y4]|with_reducible refine X ?_ ?_|refine⟨_,_,_,rfl,?_⟩|refine⟨_,rfl,?_⟩|refine And.intro (by first|omega|trivial|(show _=_;rfl)|(with_reducible constructor)<;>first|omega|trivial|rfl) ?_|fail
 all_goals first | (exfalso;omega) | exact key
theorem f1 {nm ot:ByteArray} {m n:Int} {ty re:Ty} {l:List Tm} {t0 t1 r0 r1:D} {aa:List D} {a1 a:Option Addr} {c1 c:Nat} {g:List Tg} {es:List D}
  (pre:Pre g (.mk 1 nm ot m ty re l) n) (I:Ctx g es) :
  zDR 176 [.sv a 4 es c,.dg 9 (zGc 1 nm ot m t0 t1 r0 r1 a1 aa c1),.j n] ((Tm.raw (.mk 1 nm ot m ty re l) g n).getD tZero):=λN Q J=>by
 have ac:=I.all.len
 have O:Tm.raw (.mk 1 nm ot m ty re l) g n=zCs g nm n:=by simp [Tm.raw]
 rw [O] at J
 refine zu N a es c _ n Q λ_ _=>⟨_,rfl,?_⟩
 rcases zGF g nm g.length with hlx | hlx
 ·have hlx:ym g nm = -1:=hlx
  have:zCs g nm n=none:=by simp [zCs,hlx]
  rw [this] at J
  repeat' first|with_reducible intro _|simp only[hlx,Y1,Y2,Y3,Y4]|with_reducible refine X ?_ ?_|refine⟨_,_,_,rfl,?_⟩|refine⟨_,rfl,?_⟩|refine And.intro (by first|omega|trivial|(show _=_;rfl)|(with_reducible constructor)<;>first|omega|trivial|rfl) ?_|refine (zDI I a c nm) _ _ ?_|fail
  all_goals first | (exfalso;omega) | skip
  exact J _ _ (by omega) xb yc
 ·have hlx:0<=ym g nm/\ym g nm<g.length:=hlx
  have hg:g[(ym g nm).toNat]?=some g[(ym g nm).toNat]:=oI (by omega)
  have hx:=I.all.get hg
  have ab:g.getD (ym g nm).toNat tg0=g[(ym g nm).toNat]:=zJJ hg
  obtain ⟨u0,u1,hd,hs,ht⟩:=hx
  have hm:g[(ym g nm).toNat]∈g:=mN _
  have ae:=pre.ty _ hm
  have:zCs g nm n=if g[(ym g nm).toNat].lv=n then some g[(ym g nm).toNat].ty else none:=by
   rw [zCs,if_neg (by omega),ab]
  rw [this] at J
  generalize g[(ym g nm).toNat]=x at *
  repeat' first|with_reducible intro _|simp only[hd,Y1,Y2,Y3,Y4]|with_reducible refine X ?_ ?_|refine⟨_,_,_,rfl,?_⟩|refine⟨_,rfl,?_⟩|refine And.intro (by first|omega|trivial|(show _=_;rfl)|(with_reducible constructor)<;>first|omega|trivial|rfl) ?_|refine (zDI I a c nm) _ _ ?_|refine (zI7 _ _ ht (by omega)) _ _ ?_|fail
  all_goals first | (exfalso;omega) | skip
  ·rw [if_pos (by assumption)] at J;exact J _ _ (by omega) (by assumption) (Own.mono (by assumption) (by omega) (by omega))
  ·rw [if_neg (by assumption)] at J;exact J _ _ (by omega) xb yc
theorem zOK {e:Tm} {d:D} (he:e.Is d) (ih:match e with | .mk _ _ _ _ _ _ l=>IHi l) {g:List Tg} {es:List D} (a:Option Addr) (c:Nat) {n:Int} (pre:Pre g e n) (O:Ctx g es) :
  zDR 176 [.sv a 4 es c,.dg 9 d,.j n] ((e.raw g n).getD tZero):=by
 cases e with
 | mk k nm ot m ty re l=>
 dsimp only at ih
 obtain ⟨t0,t1,r0,r1,a1,ac,c1,rfl,hh,I,J⟩:=Tm.is_mk.1 he
 have nd:=xq pre.ok
 have ae:=nd.ar
 have ab:=zJm (k:=k) (nm:=nm) (by omega)
 rcases ab with rfl | rfl | rfl | rfl | rfl | rfl | rfl | rfl | rfl | h | h | h | h
 ·exact f1 pre O
 ·intro N Q hQ
  have aa:Tm.raw (.mk 2 nm ot m ty re l) g n=some tInt:=by simp [Tm.raw]
  rw [aa] at hQ
  refine zu N a es c _ n Q λ_ _=>⟨_,rfl,?_⟩
  repeat' first|with_reducible intro _|simp only[Y1,Y2,Y3,Y4]|with_reducible refine X ?_ ?_|refine⟨_,_,_,rfl,?_⟩|refine⟨_,rfl,?_⟩|refine And.intro (by first|omega|trivial|(show _=_;rfl)|(with_reducible constructor)<;>first|omega|trivial|rfl) ?_|refine zPQ _ _ ?_|fail
  all_goals first | (exfalso;omega) | skip
  exact hQ _ _ (by omega) (by assumption) (Own.mono (by assumption) (by omega) (by omega))
 ·intro N Q hQ
  have aa:Tm.raw (.mk 3 nm ot m ty re l) g n=some tBool:=by simp [Tm.raw]
  rw [aa] at hQ
  refine zu N a es c _ n Q λ_ _=>⟨_,rfl,?_⟩
  repeat' first|with_reducible intro _|simp only[Y1,Y2,Y3,Y4]|with_reducible refine X ?_ ?_|refine⟨_,_,_,rfl,?_⟩|refine⟨_,rfl,?_⟩|refine And.intro (by first|omega|trivial|(show _=_;rfl)|(with_reducible constructor)<;>first|omega|trivial|rfl) ?_|refine zIs _ _ ?_|fail
  all_goals first | (exfalso;omega) | skip
  exact hQ _ _ (by omega) (by assumption) (Own.mono (by assumption) (by omega) (by omega))
 ·exact f4 ih hh J I pre O
 ·exact f5 ih hh J I pre O
 ·exact f6 ih hh J I pre O
 ·exact f7 ih hh J I pre O
 ·exact f8 ih hh J I pre O
 ·exact f9 ih hh J I pre O
 all_goals
  intro N Q hQ
  have hk:k=10\/k=11\/k=12\/k=13:=by omega
  refine zu N a es c _ n Q λ_ _=>⟨_,rfl,?_⟩
  repeat' first|with_reducible intro _|simp only[Y1,Y2,Y3,Y4]|with_reducible refine X ?_ ?_|refine⟨_,_,_,rfl,?_⟩|refine⟨_,rfl,?_⟩|refine And.intro (by first|omega|trivial|(show _=_;rfl)|(with_reducible constructor)<;>first|omega|trivial|rfl) ?_|refine (fS hk ih hh J I pre O) _ _ ?_|fail
  all_goals first | (exfalso;omega) | skip
  exact hQ _ _ (by omega) (by assumption) (Own.mono (by assumption) (by omega) (by omega))
theorem zSj (e:Tm) (g:List Tg) (n:Int):tyZ e g n=if ((e.raw g n).getD tZero).valid then (e.raw g n).getD tZero else tZero:=by
 rw [tyZ,Tm.type_eq]
 cases e.raw g n with
 | none=>rfl
 | some t=>
   simp only [vld,o7]
   split<;>rfl
theorem zTB:∀ (e:Tm),∀ d,e.Is d->∀ g es a c n,Pre g e n->Ctx g es->zDR 142 [.sv a 4 es c,.dg 9 d,.j n] (tyZ e g n):=by
 refine Tm.ind λk nm ot m ty re l O d hd g es a c n pre I N Q J=>?_
 have hs:=zOK hd O a c pre I
 rw [zSj] at J
 have hc:((Tm.raw (.mk k nm ot m ty re l) g n).getD tZero).cnt<=64:=by
  cases h:Tm.raw (.mk k nm ot m ty re l) g n with
  | none=>simp [tZero,Ty.cnt,zI]
  | some t=>simpa using zPC pre h
 generalize (Tm.raw (.mk k nm ot m ty re l) g n).getD tZero=z at *
 refine zJ3 N a es c _ n Q λ_ _=>?_
 repeat' first|with_reducible intro _|simp only[Y1,Y2,Y3,Y4]|with_reducible refine X ?_ ?_|refine⟨_,_,_,rfl,?_⟩|refine⟨_,rfl,?_⟩|refine And.intro (by first|omega|trivial|(show _=_;rfl)|(with_reducible constructor)<;>first|omega|trivial|rfl) ?_|refine hs _ _ ?_|refine (wC z _ (by assumption) (by omega)) _ _ ?_|fail
 all_goals first
  | exact J _ _ (by omega) (by rw [if_pos (by assumption)];assumption) (Own.mono (by assumption) (by omega) (by omega))
  | exact J _ _ (by omega) (by rw [if_neg (by simp [*])];exact xb) yc
/-- returns this type and true, or the zero type and false, in memory of its own -/
def zUu (f:FuncId) (args:List PV) (o:Option Ty):Prop:=∀ (N:Nat) (Q:QT [.ag 2,.bool]),(∀ d N',N<=N'->(o.getD tZero).Is d->Own N N' d->Q d o.isSome N')->ACalls prog f [.ag 2,.bool] args N Q
theorem zJZ {g:List Tg} {es:List D} (I:Ctx g es) (hg:∀ x∈g,x.ty.cnt<=1073741824) {e:Tm} {d:D} (he:e.Is d) (hc:e.cnt<=1048576000 / 2) (a:Option Addr) (c:Nat) (n:Int) :
  zUu 102 [.sv a 4 es c,.dg 9 d,.j n] (zHG g e n):=λN Q J=>by
 refine zIT N a es c d n Q λ_ _=>?_
 cases h1:zIb g with
 | false=>
   rw [zHG,if_neg (by simp [h1])] at J
   repeat' first|with_reducible intro _|simp only[h1,Y1,Y2,Y3,Y4]|with_reducible refine X ?_ ?_|refine⟨_,_,_,rfl,?_⟩|refine⟨_,rfl,?_⟩|refine And.intro (by first|omega|trivial|(show _=_;rfl)|(with_reducible constructor)<;>first|omega|trivial|rfl) ?_|refine (pc I hg a c) _ _ ?_|fail
   exact J _ _ (by omega) xb yc
 | true=>
   cases h2:zMR e n with
   | false=>
     rw [zHG,if_neg (by simp [h2])] at J
     repeat' first|with_reducible intro _|simp only[h1,h2,Y1,Y2,Y3,Y4]|with_reducible refine X ?_ ?_|refine⟨_,_,_,rfl,?_⟩|refine⟨_,rfl,?_⟩|refine And.intro (by first|omega|trivial|(show _=_;rfl)|(with_reducible constructor)<;>first|omega|trivial|rfl) ?_|refine (pc I hg a c) _ _ ?_|refine (pQ e d he (by omega) n) _ _ ?_|fail
     exact J _ _ (by omega) xb yc
   | true=>
     rw [zHG,if_pos ⟨h1,h2⟩] at J
     have hz:=s7 e g n
     repeat' first|with_reducible intro _|simp only[h1,h2,Y1,Y2,Y3,Y4]|with_reducible refine X ?_ ?_|refine⟨_,_,_,rfl,?_⟩|refine⟨_,rfl,?_⟩|refine And.intro (by first|omega|trivial|(show _=_;rfl)|(with_reducible constructor)<;>first|omega|trivial|rfl) ?_|refine (pc I hg a c) _ _ ?_|refine (pQ e d he (by omega) n) _ _ ?_|refine (zTB e d he g es a c n (zTk h1 h2 hc) I) _ _ ?_|fail
     rename_i hd ho _ _
     rcases hz with ⟨h3,h4⟩ | ⟨h3,h4⟩
     ·rw [h3] at J
      rw [h4] at hd
      obtain ⟨a2,aa,c2,rfl,ab,ac⟩:=Ty.is_mk.1 hd
      repeat' first|with_reducible intro _|simp only[Y1,Y2,Y3,Y4]|with_reducible refine X ?_ ?_|refine⟨_,_,_,rfl,?_⟩|refine⟨_,rfl,?_⟩|refine And.intro (by first|omega|trivial|(show _=_;rfl)|(with_reducible constructor)<;>first|omega|trivial|rfl) ?_|fail
      exact J _ _ (by omega) hd (Own.mono (by assumption) (by omega) (by omega))
     ·rw [h3] at J
      have O:=Ty.valid_nz h4
      generalize tyZ e g n=z at *
      cases z with
      | mk k0 l0=>
      have ae:=hd
      obtain ⟨a2,aa,c2,rfl,ab,ac⟩:=Ty.is_mk.1 hd
      repeat' first|with_reducible intro _|simp only[Y1,Y2,Y3,Y4]|with_reducible refine X ?_ ?_|refine⟨_,_,_,rfl,?_⟩|refine⟨_,rfl,?_⟩|refine And.intro (by first|omega|trivial|(show _=_;rfl)|(with_reducible constructor)<;>first|omega|trivial|rfl) ?_|fail
      have O:(bne k0 0)=true:=by simpa [Ty.k] using O
      rw [O]
      exact J _ _ (by omega) ae (Own.mono (by assumption) (by omega) (by omega))
mutual
def Tm.sz:Tm->Nat
 | .mk _ _ _ _ _ _ l=>1+uM l
def uM:List Tm->Nat
 | []=>0
 | t::I=>t.sz+uM I
end
mutual
def Tm.dp:Tm->Nat
 | .mk _ _ _ _ _ _ l=>zET l+1
def zET:List Tm->Nat
 | []=>0
 | t::I=>max t.dp (zET I)
end
mutual
theorem Tm.sz_cnt:∀ t:Tm,t.sz<=t.cnt
 | .mk _ _ _ _ ty re l=>by simp only [Tm.sz,Tm.cnt];have:=pE l;omega
theorem pE:∀ l:List Tm,uM l<=zh l
 | []=>oA _
 | t::I=>by simp only [uM,zh];have:=t.sz_cnt;have:=pE I;omega
end
mutual
theorem Tm.dp_cnt:∀ t:Tm,t.dp<=t.cnt
 | .mk _ _ _ _ ty re l=>by simp only [Tm.dp,Tm.cnt];have:=zBw l;omega
theorem zBw:∀ l:List Tm,zET l<=zh l
 | []=>oA _
 | t::I=>by simp only [zET,zh];have:=t.dp_cnt;have:=zBw I;omega
end
/-- one form of a body's nodes -/
def zNh (k:Int):Bool:=inB k 1 5||k==8
mutual
def Tm.isB:Tm->Bool
 | .mk k _ _ _ _ _ l=>zQX l&&zNh k
def zQX:List Tm->Bool
 | []=>true
 | t::I=>t.isB&&zQX I
end
def Tm.vd (t:Tm):Bool:=decide (t.sz<=80)&&decide (t.dp<=20)&&t.ok
theorem zCI:∀ (t:Tm) (d:D),t.Is d->∀ n:Int,0<=n->n<=1000->p9 153 [.dg 9 d,.j n] (if (t.sz:Int)<=n then n - t.sz else -1):=by
 refine Tm.ind λk nm ot n0 ty re l ih d hd n ah ai N Q hQ=>?_
 obtain ⟨t0,t1,r0,r1,a,es,c,rfl,hh,hlen,aa⟩:=Tm.is_mk.1 hd
 refine zH9 N _ n Q λ_=>?_
 have key:=up aa hlen (λi xs=>∀ (m:Int) (N':Nat),N<=N' -> -1<=m->m<=1000->(∀ N'',N'<=N''->Q (if m<0 then -1 else if (uM xs:Int)<=m then m - uM xs else -1) N'') ->
  vm Q N m i (.ag [.j k,.t nm,.t ot,.j n0,t0,t1,r0,r1,.sl a 9 es c]) N') ?_ ?_
 ·rw [i64_in _ (by omega)]
  refine key (n - 1) N (oA _) (by omega) (by omega) λN' O=>Qi (hQ N' O) ?_
  simp only [Tm.sz]
  (repeat' split)<;>omega
 ·intro i ab _ m N' O h1 h2 J
  refine qy _ _ _ _ _ _ ?_
  repeat' first|with_reducible intro _|simp only[ab,Y1,Y2,Y3,Y4]|with_reducible refine X ?_ ?_|refine⟨_,_,_,rfl,?_⟩|refine⟨_,rfl,?_⟩|refine And.intro (by first|omega|trivial|(show _=_;rfl)|(with_reducible constructor)<;>first|omega|trivial|rfl) ?_|fail
  refine Qi (J _ (by assumption)) ?_
  simp only [uM]
  (repeat' split)<;>omega
 ·intro i x xs I _ ac m N' O h1 h2 J
  have hb:=I.b
  refine qy _ _ _ _ _ _ ?_
  repeat' first|with_reducible intro _|simp only[I.lt,I.w,oH,Y1,Y2,Y3,Y4]|with_reducible refine X ?_ ?_|refine⟨_,_,_,rfl,?_⟩|refine⟨_,rfl,?_⟩|refine And.intro (by first|omega|trivial|(show _=_;rfl)|(with_reducible constructor)<;>first|omega|trivial|rfl) ?_|refine (ih x I.m _ I.r m (by omega) (by omega)) _ _ ?_|fail
  ·refine ac _ _ (by omega) (by split<;>omega) (by split<;>omega) λN'' ae=>Qi (J N'' (by omega)) ?_
   simp only [uM]
   (repeat' split)<;>omega
  ·refine Qi (J _ (by assumption)) ?_
   rw [if_pos (by omega)]
   omega
theorem zGX:∀ (t:Tm) (d:D),t.Is d->t.cnt<=1073741824->p9 154 [.dg 9 d] t.dp:=by
 refine Tm.ind λk nm ot n0 ty re l ih d hd hc N Q hQ=>?_
 obtain ⟨t0,t1,r0,r1,a,es,c,rfl,hh,hlen,O⟩:=Tm.is_mk.1 hd
 refine zGw N _ Q λ_=>?_
 simp only [Tm.cnt] at hc
 have ac:=zBw l
 have key:=up O hlen (λi xs=>∀ (m:Nat) (N':Nat),N<=N'->max m (zET xs)=zET l->wy Q N (m:Int) i (.ag [.j k,.t nm,.t ot,.j n0,t0,t1,r0,r1,.sl a 9 es c]) N') ?_ ?_
 ·exact key 0 N (oA _) (by omega)
 ·intro i aa _ m N' J hm
  simp only [zET] at hm
  refine qD _ _ _ _ _ _ ?_
  repeat' first|with_reducible intro _|simp only[aa,Y1,Y2,Y3,Y4]|with_reducible refine X ?_ ?_|refine⟨_,_,_,rfl,?_⟩|refine⟨_,rfl,?_⟩|refine And.intro (by first|omega|trivial|(show _=_;rfl)|(with_reducible constructor)<;>first|omega|trivial|rfl) ?_|fail
  rw [i64_in _ (by omega)]
  refine Qi (hQ _ (oe J (by assumption))) ?_
  simp only [Tm.dp]
  omega
 ·intro i x xs I _ ab m N' J hm
  have hb:=I.b
  have ae:=zn I.m
  simp only [zET] at hm
  refine qD _ _ _ _ _ _ ?_
  repeat' first|with_reducible intro _|simp only[I.lt,I.w,oH,Y1,Y2,Y3,Y4]|with_reducible refine X ?_ ?_|refine⟨_,_,_,rfl,?_⟩|refine⟨_,rfl,?_⟩|refine And.intro (by first|omega|trivial|(show _=_;rfl)|(with_reducible constructor)<;>first|omega|trivial|rfl) ?_|refine (ih x I.m _ I.r (by omega)) _ _ ?_|refine (zDM _ _) _ _ ?_|fail
  have e:max (m:Int) (x.dp:Int)=((max m x.dp:Nat):Int):=by omega
  rw [e]
  exact ab _ _ (by omega) (by omega)
theorem zBK (t:Tm) (d:D) (hd:t.Is d) (hc:t.cnt<=1073741824):vn 113 [.dg 9 d] t.vd:=λN Q I=>by
 refine zBP N _ Q λ_=>?_
 by_cases O:t.sz<=80
 ·have J:((t.sz:Int)<=80):=by omega
  repeat' first|with_reducible intro _|simp only[if_pos J,Y1,Y2,Y3,Y4]|with_reducible refine X ?_ ?_|refine⟨_,_,_,rfl,?_⟩|refine⟨_,rfl,?_⟩|refine And.intro (by first|omega|trivial|(show _=_;rfl)|(with_reducible constructor)<;>first|omega|trivial|rfl) ?_|refine (zCI t d hd _ (by omega) (by omega)) _ _ ?_|refine (zGX t d hd hc) _ _ ?_|refine (zIg t d hd hc) _ _ ?_|fail
  all_goals first | omega | skip
  ·have h8:t.dp<=20:=by omega
   refine Qb (I _ (by omega)) ?_;simp [Tm.vd, *]
  ·have h8:¬t.dp<=20:=by omega
   refine Qb (I _ (by omega)) ?_;simp [Tm.vd, *]
 ·have J:¬((t.sz:Int)<=80):=by omega
  repeat' first|with_reducible intro _|simp only[if_neg J,Y1,Y2,Y3,Y4]|with_reducible refine X ?_ ?_|refine⟨_,_,_,rfl,?_⟩|refine⟨_,rfl,?_⟩|refine And.intro (by first|omega|trivial|(show _=_;rfl)|(with_reducible constructor)<;>first|omega|trivial|rfl) ?_|refine (zCI t d hd _ (by omega) (by omega)) _ _ ?_|fail
  all_goals first | omega | skip
  refine Qb (I _ (by omega)) ?_;simp [Tm.vd, *]
theorem zJq:∀ (t:Tm) (d:D),t.Is d->vn 114 [.dg 9 d] t.isB:=by
 refine Tm.ind λk nm ot n0 ty re l ih d hd N Q hQ=>?_
 obtain ⟨t0,t1,r0,r1,a,es,c,rfl,hh,hlen,O⟩:=Tm.is_mk.1 hd
 refine zK5 N _ Q λ_=>?_
 have key:=up O hlen (λi xs=>∀ (N':Nat),N<=N'->(∀ N'',N'<=N''->Q (zQX xs&&zNh k) N'')->uE Q N i (.ag [.j k,.t nm,.t ot,.j n0,t0,t1,r0,r1,.sl a 9 es c]) N') ?_ ?_
 ·exact key N (oA _) hQ
 ·intro i aa _ N' ab J
  refine zAd _ _ _ _ _ ?_
  repeat' first|with_reducible intro _|simp only[aa,Y1,Y2,Y3,Y4]|with_reducible refine X ?_ ?_|refine⟨_,_,_,rfl,?_⟩|refine⟨_,rfl,?_⟩|refine And.intro (by first|omega|trivial|(show _=_;rfl)|(with_reducible constructor)<;>first|omega|trivial|rfl) ?_|refine (zA1 _ _ _) _ _ ?_|fail
  all_goals (refine Qb (J _ (by omega)) ?_;simp [zQX,zNh, *])
 ·intro i x xs I _ ac N' ab J
  have hb:=I.b
  refine zAd _ _ _ _ _ ?_
  repeat' first|with_reducible intro _|simp only[I.lt,I.w,oH,Y1,Y2,Y3,Y4]|with_reducible refine X ?_ ?_|refine⟨_,_,_,rfl,?_⟩|refine⟨_,rfl,?_⟩|refine And.intro (by first|omega|trivial|(show _=_;rfl)|(with_reducible constructor)<;>first|omega|trivial|rfl) ?_|refine (ih x I.m _ I.r) _ _ ?_|fail
  ·refine Qb (J _ (by omega)) ?_;simp [zQX, *]
  ·exact ac _ (by omega) λN'' h=>Qb (J N'' (by omega)) (by simp [zQX, *])
theorem xl (l:List ByteArray) (hl:l.length<=4611686018427387904) (a:Option Addr) (c:Nat) (s:ByteArray):p9 78 [.sv a 0 (zA l) c,.str s] (sd (λx=>decide (x=s)) l 0):=λN Q hQ=>by
 have O:=wE l
 have hlen:(zA l).length<=4611686018427387904:=by rw [O.len];exact hl
 refine zG3 N a _ c s Q λ_=>?_
 refine up O hlen (λi xs=>∀ (N':Nat),N<=N'->(∀ N'',N'<=N''->Q (sd (λx=>decide (x=s)) xs i) N'')->wr Q N a (zA l) c s i N') ?_ ?_ N (oA _) hQ
 ·intro i ab _ N' aa I
  refine qH _ _ _ _ _ _ _ _ ?_
  repeat' first|with_reducible intro _|simp only[ab,Y1,Y2,Y3,Y4]|with_reducible refine X ?_ ?_|refine⟨_,_,_,rfl,?_⟩|refine⟨_,rfl,?_⟩|refine And.intro (by first|omega|trivial|(show _=_;rfl)|(with_reducible constructor)<;>first|omega|trivial|rfl) ?_|fail
  exact I _ (by omega)
 ·intro i x xs J _ ac N' aa I
  have hb:=J.b
  have hr:=J.r
  simp only [sd] at I
  refine qH _ _ _ _ _ _ _ _ ?_
  repeat' first|with_reducible intro _|simp only[J.lt,J.w,oH,hr,Y1,Y2,Y3,Y4]|with_reducible refine X ?_ ?_|refine⟨_,_,_,rfl,?_⟩|refine⟨_,rfl,?_⟩|refine And.intro (by first|omega|trivial|(show _=_;rfl)|(with_reducible constructor)<;>first|omega|trivial|rfl) ?_|fail
  ·rename_i h _ _;subst h;exact Qi (I _ (by omega)) (by simp)
  ·rename_i h;exact ac _ aa λN'' h2=>Qi (I _ h2) (by rw [if_neg (by simpa using h)];simp)
/-- the parameters are well formed, behind the names that were seen -/
def zGV:List ByteArray->List Pm->Bool
 | _,[]=>true
 | seen,p::ps=>sk p.nm&&(p.ty.base&&(!(seen.any λx=>decide (x=p.nm))&&zGV (seen++[p.nm]) ps))
def zCn (g:List Pm):Bool:=zGV [] g&&decide (g.length<=5)
theorem xd (l:List ByteArray) (s:ByteArray):zA l++[.t s]=zA (l++[s]):=by simp [zA]
theorem zQ (l:List ByteArray):(zA l).length=l.length:=by simp [zA]
theorem zEQ {g:List Pm} {es:List D} (h:Pms g es) (hg:g.length<=1073741824) (a:Option Addr) (c:Nat):vn 112 [.sv a 4 es c] (zCn g):=λN Q hQ=>by
 have hl:=h.all.len
 refine zDl N a es c Q λ_=>?_
 have key:=up h.all h.len (λi xs=>∀ (seen:List ByteArray) (q:Nat) (N':Nat),N<=N'->seen.length=i->(∀ N'',N'<=N''->Q (zGV seen xs&&decide (g.length<=5)) N'')->xw Q N a es c (zA seen).length q i (zA seen) q N') ?_ ?_
 ·exact key [] 0 N (oA _) rfl hQ
 ·intro i O hi seen q N' aa hs I
  refine t7 _ _ _ _ _ _ _ _ _ _ _ ?_
  have e:(((zA seen).length:Nat):Int)=(g.length:Int):=by rw [zQ];omega
  repeat' first|with_reducible intro _|simp only[O,e,Y1,Y2,Y3,Y4]|with_reducible refine X ?_ ?_|refine⟨_,_,_,rfl,?_⟩|refine⟨_,rfl,?_⟩|refine And.intro (by first|omega|trivial|(show _=_;rfl)|(with_reducible constructor)<;>first|omega|trivial|rfl) ?_|fail
  refine Qb (I _ (by omega)) ?_
  rw [zGV,mo,nQ,nf,nf]
  omega
 ·intro i x xs J _ ab seen q N' aa hs I
  have hb:=J.b
  have hm:=J.m
  obtain ⟨t0,t1,hd,ac,ae⟩:=J.r
  simp only [zGV] at I
  refine t7 _ _ _ _ _ _ _ _ _ _ _ ?_
  repeat' first|with_reducible intro _|simp only[J.lt,J.w,oH,hd,Y1,Y2,Y3,Y4]|with_reducible refine X ?_ ?_|refine⟨_,_,_,rfl,?_⟩|refine⟨_,rfl,?_⟩|refine And.intro (by first|omega|trivial|(show _=_;rfl)|(with_reducible constructor)<;>first|omega|trivial|rfl) ?_|refine (rc x.nm ac) _ _ ?_|refine (rx x.ty _ ae) _ _ ?_|refine (xl seen (by omega) _ _ x.nm) _ _ ?_|fail
  ·refine Qb (I _ (by omega)) ?_;simp [*]
  ·refine Qb (I _ (by omega)) ?_;simp [*]
  ·rename_i hx _ _
   have:=wP (λy=>decide (y=x.nm)) seen 0 (by omega)
   rw [mu hx] at this
   refine Qb (I _ (by omega)) ?_
   rw [<-this];simp
  ·rename_i hx
   have:=wP (λy=>decide (y=x.nm)) seen 0 (by omega)
   rw [lF hx] at this
   refine ⟨by unfold zC;rw [oE,zQ];simp only [oK,oO];omega,λc1=>?_⟩
   rw [xd]
   refine ab (seen++[x.nm]) _ _ (by omega) (by simp [hs]) λN'' h=>Qb (I N'' (by omega)) ?_
   rw [<-this];clear this;simp [*]
def rV (g:List Pm):List Tg:=g.map λp=>⟨p.nm,p.ty,0⟩
theorem zBS (g:List Pm):(rV g).length=g.length:=by simp [rV]
theorem zI3 {g:List Pm} {es:List D} (h:Pms g es) (hg:g.length<=1073741824) (a:Option Addr) (c:Nat) (N:Nat) (Q:QT [.sl 4])
  (hQ:∀ a' es' c' N',N<=N'->Ctx (rV g) es'->Q a' es' c' N'):ACalls prog 116 [.sl 4] [.sv a 4 es c] N Q:=by
 have hl:=h.all.len
 refine zIM N a es c Q λ_=>?_
 have key:=up h.all h.len (λi xs=>∀ (done:List D) (q:Nat) (N':Nat),N<=N'->All2 Tg.Is ((rV g).take i) done->done.length=i->vi Q N a es c done.length q i done q N') ?_ ?_
 ·exact key [] 0 N (oA _) rfl rfl
 ·intro i aa hi done q N' J hd hs
  refine pO _ _ _ _ _ _ _ _ _ _ _ ?_
  rw [oi (by rw [zBS];omega)] at hd
  repeat' first|with_reducible intro _|simp only[aa,Y1,Y2,Y3,Y4]|with_reducible refine X ?_ ?_|refine⟨_,_,_,rfl,?_⟩|refine⟨_,rfl,?_⟩|refine And.intro (by first|omega|trivial|(show _=_;rfl)|(with_reducible constructor)<;>first|omega|trivial|rfl) ?_|fail
  exact hQ _ _ _ _ (by omega) ⟨by omega,hd⟩
 ·intro i x xs I _ ab done q N' J hd hs
  have hb:=I.b
  have hm:=I.m
  obtain ⟨t0,t1,ac,ae,ah⟩:=I.r
  refine pO _ _ _ _ _ _ _ _ _ _ _ ?_
  have O:(rV g)[i]?=some ⟨x.nm,x.ty,0⟩:=by rw [rV,oG,I.g];rfl
  repeat' first|with_reducible intro _|simp only[I.lt,I.w,oH,ac,Y1,Y2,Y3,Y4]|with_reducible refine X ?_ ?_|refine⟨_,_,_,rfl,?_⟩|refine⟨_,rfl,?_⟩|refine And.intro (by first|omega|trivial|(show _=_;rfl)|(with_reducible constructor)<;>first|omega|trivial|rfl) ?_|fail
  refine ⟨by unfold zC;rw [oE];simp only [oK,oO];omega,λc1=>?_⟩
  exact ab _ _ _ J (by rw [xo O];exact hd.snoc ⟨_,_,rfl,ae,ah⟩) (by simp [hs])
/-- a body's type, or none -/
def xW (g:List Pm) (e:Tm):Option Ty:=if zCn g=true/\e.vd=true/\e.isB=true then e.type (rV g) 0 else none
theorem zFW:∀ {g:List Pm} {seen:List ByteArray} {x:Pm},zGV seen g=true->x∈g->sk x.nm=true/\x.ty.base=true
 | p::ps,seen,x,h,hx=>by
   simp only [zGV,oL] at h
   rcases oJ.1 hx with rfl | hx
   ·exact ⟨h.1,h.2.1⟩
   ·exact zFW h.2.2.2 hx
theorem zHg {t:Ty} (h:t.base=true):t.valid=true/\t.cnt=1:=by
 cases t with
 | mk k l=>
   simp only [Ty.base,Ty.k,Ty.as,oL,mD,mP] at h
   have I:l=[]:=oM (by omega)
   subst I
   refine ⟨?_,rfl⟩
   simp only [Ty.valid,Ty.cnt,zI,Ty.dep,sX,Ty.form,sM,zAT]
   rcases h.1 with rfl | rfl<;>decide
mutual
theorem zMC:∀ t:Tm,t.isB=true->t.lev 0=true
 | .mk k _ _ _ _ _ l,h=>by
   simp only [Tm.isB,oL,zNh,mD,qk,mP] at h
   have e:yX k 0=0:=by unfold yX;rw [if_neg (by omega),if_neg (by omega)]
   simp only [Tm.lev,e,zNK l h.1,Bool.and_true];decide
theorem zNK:∀ l:List Tm,zQX l=true->zAb l 0=true
 | [],_=>rfl
 | t::I,h=>by
   simp only [zQX,oL] at h
   simp only [zAb,zMC t h.1,zNK I h.2,Bool.and_true]
end
theorem zKe {g:List Pm} {x:Tg} (h:x∈rV g):∃ p∈g,x=⟨p.nm,p.ty,0⟩:=by
 obtain ⟨p,I,rfl⟩:=oS.1 h
 exact ⟨p,I,rfl⟩
theorem zR0 {g:List Pm} {e:Tm} (J:zCn g=true) (O:e.vd=true) (hb:e.isB=true) (hc:e.cnt<=536870000):Pre (rV g) e 0:=by
 simp only [zCn,oL,nC] at J
 simp only [Tm.vd,oL] at O
 refine ⟨O.2,zMC e hb,by rw [zBS];omega,λx hx=>?_⟩
 obtain ⟨p,I,rfl⟩:=zKe hx
 have:=(zHg (zFW J.1 I).2).2
 show p.ty.cnt<=64
 omega
theorem zFo {g:List Pm} {es:List D} (h:Pms g es) (O:g.length<=1073741824) {e:Tm} {d:D} (J:e.Is d) (hc:e.cnt<=536870000) (a:Option Addr) (c:Nat):zTr 69 [.sv a 4 es c,.dg 9 d] (xW g e):=λN Q I=>by
 refine zFy N a es c d Q λ_ _=>?_
 repeat' first|with_reducible intro _|simp only[Y1,Y2,Y3,Y4]|with_reducible refine X ?_ ?_|refine⟨_,_,_,rfl,?_⟩|refine⟨_,rfl,?_⟩|refine And.intro (by first|omega|trivial|(show _=_;rfl)|(with_reducible constructor)<;>first|omega|trivial|rfl) ?_|refine (zEQ h O a c) _ _ ?_|refine (zBK e d J (by omega)) _ _ ?_|refine (zJq e d J) _ _ ?_|refine (zI3 h O a c) _ _ ?_|fail
 ·rw [show xW g e=none by unfold xW;rw [if_neg (by simp [*])]] at I
  exact I _ _ (by omega) (vP 0)
 ·rw [show xW g e=none by unfold xW;rw [if_neg (by simp [*])]] at I
  exact I _ _ (by omega) (vP 0)
 ·rw [show xW g e=none by unfold xW;rw [if_neg (by simp [*])]] at I
  exact I _ _ (by omega) (vP 0)
 ·have hp:zCn g=true:=by assumption
  have hv:e.vd=true:=by assumption
  have hb:e.isB=true:=by assumption
  rw [show xW g e=e.type (rV g) 0 by unfold xW;rw [if_pos ⟨hp,hv,hb⟩]] at I
  exact zIP e d J _ _ _ _ _ (zR0 hp hv hb hc) (by assumption) _ _ λx N4 aa hx _ _ N5 ab=>I _ _ (by omega) hx
theorem ur:∀ (t:Tm) (d:D),t.Is d->t.cnt<=1073741824->p9 65 [.dg 9 d] t.sz:=by
 refine Tm.ind λk nm ot n0 ty re l ih d hd hc N Q hQ=>?_
 obtain ⟨t0,t1,r0,r1,a,es,c,rfl,hh,hlen,J⟩:=Tm.is_mk.1 hd
 simp only [Tm.cnt] at hc
 have ac:=pE l
 refine zIS N _ Q λ_=>⟨_,_,_,rfl,?_⟩
 refine up J hlen (λi xs=>∀ (m:Nat) (N':Nat),N<=N'->m+uM xs=1+uM l->vf Q N m a es c es.length i N') ?_ ?_ 1 N (oA _) rfl
 ·intro i O _ m N' aa hm
  refine pV _ _ _ _ _ _ _ _ _ ?_
  simp only [uM] at hm
  repeat' first|with_reducible intro _|simp only[O,Y1,Y2,Y3,Y4]|with_reducible refine X ?_ ?_|refine⟨_,_,_,rfl,?_⟩|refine⟨_,rfl,?_⟩|refine And.intro (by first|omega|trivial|(show _=_;rfl)|(with_reducible constructor)<;>first|omega|trivial|rfl) ?_|fail
  exact Qi (hQ _ (by omega)) (by simp only [Tm.sz];omega)
 ·intro i x xs I _ ab m N' aa hm
  have hb:=I.b
  have ae:=zn I.m
  simp only [uM] at hm
  refine pV _ _ _ _ _ _ _ _ _ ?_
  repeat' first|with_reducible intro _|simp only[I.lt,I.w,oH,Y1,Y2,Y3,Y4]|with_reducible refine X ?_ ?_|refine⟨_,_,_,rfl,?_⟩|refine⟨_,rfl,?_⟩|refine And.intro (by first|omega|trivial|(show _=_;rfl)|(with_reducible constructor)<;>first|omega|trivial|rfl) ?_|refine (ih x I.m _ I.r (by omega)) _ _ ?_|fail
  rw [i64_in _ (by omega)]
  exact ab (m+x.sz) _ (by omega) (by omega)
theorem zGh:∀ (t:Tm) (d:D),t.Is d->t.cnt<=1073741824->p9 139 [.dg 9 d] t.dp:=by
 refine Tm.ind λk nm ot n0 ty re l ih d hd hc N Q hQ=>?_
 obtain ⟨t0,t1,r0,r1,a,es,c,rfl,hh,hlen,J⟩:=Tm.is_mk.1 hd
 simp only [Tm.cnt] at hc
 have ac:=zBw l
 refine zG6 N _ Q λ_=>⟨_,_,_,rfl,?_⟩
 refine up J hlen (λi xs=>∀ (m:Nat) (N':Nat),N<=N'->max m (zET xs)=zET l->wu Q N m a es c es.length i N') ?_ ?_ 0 N (oA _) (by omega)
 ·intro i O _ m N' aa hm
  refine qL _ _ _ _ _ _ _ _ _ ?_
  simp only [zET] at hm
  repeat' first|with_reducible intro _|simp only[O,Y1,Y2,Y3,Y4]|with_reducible refine X ?_ ?_|refine⟨_,_,_,rfl,?_⟩|refine⟨_,rfl,?_⟩|refine And.intro (by first|omega|trivial|(show _=_;rfl)|(with_reducible constructor)<;>first|omega|trivial|rfl) ?_|fail
  rw [i64_in _ (by omega)]
  exact Qi (hQ _ (by omega)) (by simp only [Tm.dp];omega)
 ·intro i x xs I _ ab m N' aa hm
  have hb:=I.b
  have ae:=zn I.m
  simp only [zET] at hm
  refine qL _ _ _ _ _ _ _ _ _ ?_
  repeat' first|with_reducible intro _|simp only[I.lt,I.w,oH,Y1,Y2,Y3,Y4]|with_reducible refine X ?_ ?_|refine⟨_,_,_,rfl,?_⟩|refine⟨_,rfl,?_⟩|refine And.intro (by first|omega|trivial|(show _=_;rfl)|(with_reducible constructor)<;>first|omega|trivial|rfl) ?_|refine (ih x I.m _ I.r (by omega)) _ _ ?_|fail
  have e:(if (x.dp:Int)>(m:Int) then (x.dp:Int) else (m:Int))=((max m x.dp:Nat):Int):=by split<;>omega
  rw [e]
  exact ab (max m x.dp) _ (by omega) (by omega)
theorem zCF (t:Tm) (d:D) (hd:t.Is d) (hc:t.cnt<=1073741824):vn 101 [.dg 9 d] t.vd:=λN Q I=>by
 refine zBO N _ Q λ_=>?_
 repeat' first|with_reducible intro _|simp only[Y1,Y2,Y3,Y4]|with_reducible refine X ?_ ?_|refine⟨_,_,_,rfl,?_⟩|refine⟨_,rfl,?_⟩|refine And.intro (by first|omega|trivial|(show _=_;rfl)|(with_reducible constructor)<;>first|omega|trivial|rfl) ?_|refine (zBQ t d hd hc) _ _ ?_|refine (ur t d hd hc) _ _ ?_|refine (zGh t d hd hc) _ _ ?_|fail
 ·have J:t.sz<=80:=by omega
  refine Qb (I _ (by omega)) ?_
  have:decide ((t.dp:Int)<=20)=decide (t.dp<=20):=by rw [nQ,nf,nf];omega
  simp [Tm.vd, *]
 ·have J:¬t.sz<=80:=by omega
  refine Qb (I _ (by omega)) ?_;simp [Tm.vd, *]
 ·refine Qb (I _ (by omega)) ?_;simp [Tm.vd, *]
theorem zLW (t:Tm) (d:D) (hd:t.Is d):vn 98 [.dg 9 d] (match t with | .mk k _ _ _ _ _ _=>zNh k):=λN Q I=>by
 cases t with
 | mk k nm ot n0 ty re l=>
 obtain ⟨t0,t1,r0,r1,a,es,c,rfl,O,hlen,J⟩:=Tm.is_mk.1 hd
 refine zCi N _ Q λ_=>?_
 repeat' first|with_reducible intro _|simp only[Y1,Y2,Y3,Y4]|with_reducible refine X ?_ ?_|refine⟨_,_,_,rfl,?_⟩|refine⟨_,rfl,?_⟩|refine And.intro (by first|omega|trivial|(show _=_;rfl)|(with_reducible constructor)<;>first|omega|trivial|rfl) ?_|refine (yb _ _ _) _ _ ?_|fail
 all_goals (refine Qb (I _ (by omega)) ?_;simp [zNh, *])
theorem zEN {p:Tm->Bool} {l:List Tm} {es:List D} (h:All2 Tm.Is l es) (hlen:es.length<=4611686018427387904) (ad:Addr) (hp:∀ x∈l,∀ d,x.Is d->vn 134 [.dg 9 d,.pd ad 0 (.fn 98 [])] (p x)) (a:Option Addr) (c:Nat) :
  vn 62 [.sv a 9 es c,.fn 134 [.pd ad 0 (.fn 98 [])]] (l.any p):=λN Q O=>by
 have hi:p9 105 [.sv a 9 es c,.fn 134 [.pd ad 0 (.fn 98 [])]] (sd p l 0):=λN Q O=>by
  refine tP N a es c ad Q λ_=>?_
  refine up h hlen (λi xs=>∀ (N':Nat),N<=N'->(∀ N'',N'<=N''->Q (sd p xs i) N'')->yL Q N a es c ad es.length i N') ?_ ?_ N (oA _) O
  ·intro i aa _ N' ab I
   refine wZ _ _ _ _ _ _ _ _ _ ?_
   repeat' first|with_reducible intro _|simp only[aa,Y1,Y2,Y3,Y4]|with_reducible refine X ?_ ?_|refine⟨_,_,_,rfl,?_⟩|refine⟨_,rfl,?_⟩|refine And.intro (by first|omega|trivial|(show _=_;rfl)|(with_reducible constructor)<;>first|omega|trivial|rfl) ?_|fail
   exact I _ (by omega)
  ·intro i x xs J _ ac N' ab I
   have hb:=J.b
   simp only [sd] at I
   refine wZ _ _ _ _ _ _ _ _ _ ?_
   repeat' first|with_reducible intro _|simp only[J.lt,J.w,oH,Y1,Y2,Y3,Y4]|with_reducible refine X ?_ ?_|refine⟨_,_,_,rfl,?_⟩|refine⟨_,rfl,?_⟩|refine And.intro (by first|omega|trivial|(show _=_;rfl)|(with_reducible constructor)<;>first|omega|trivial|rfl) ?_|refine (hp x J.m _ J.r) _ _ ?_|fail
   ·exact Qi (I _ (by omega)) (by rw [if_pos (by assumption)])
   ·rename_i h;exact ac _ (by omega) λN'' h2=>Qi (I _ (by omega)) (by rw [h];simp)
 refine uO N a es c ad Q λ_=>?_
 repeat' first|with_reducible intro _|simp only[Y1,Y2,Y3,Y4]|with_reducible refine X ?_ ?_|refine⟨_,_,_,rfl,?_⟩|refine⟨_,rfl,?_⟩|refine And.intro (by first|omega|trivial|(show _=_;rfl)|(with_reducible constructor)<;>first|omega|trivial|rfl) ?_|refine hi _ _ ?_|fail
 exact Qb (O _ (by omega)) (wP _ l 0 (by omega)).symm
theorem zNE:∀ l:List Tm,zQX l=!(l.any λx=>!x.isB)
 | []=>rfl
 | t::I=>by simp only [zQX,mZ,zNE I];cases t.isB<;>simp
theorem zMB:∀ (t:Tm) (d:D),t.Is d->vn 97 [.dg 9 d,.fn 98 []] t.isB:=by
 refine Tm.ind λk nm ot n ty re l ih d hd N Q I=>?_
 have O:=zLW _ d hd
 obtain ⟨t0,t1,r0,r1,a,es,c,rfl,hh,hlen,J⟩:=Tm.is_mk.1 hd
 simp only at O
 refine zAx N _ Q λ_=>?_
 simp only [Tm.isB,zNE] at I
 repeat' first|with_reducible intro _|simp only[Y1,Y2,Y3,Y4]|with_reducible refine X ?_ ?_|refine⟨_,_,_,rfl,?_⟩|refine⟨_,rfl,?_⟩|refine And.intro (by first|omega|trivial|(show _=_;rfl)|(with_reducible constructor)<;>first|omega|trivial|rfl) ?_|refine O _ _ ?_|refine (zEN J hlen _ (λx hx d hd=>λN Q I=>pJ N d _ Q λ_ N1 aa=>ih x hx d hd N1 _ λN2 ab ac N3 ae=>I N3 (by omega)) _ _) _ _ ?_|fail
 all_goals (refine Qb (I _ (by omega)) ?_;simp [*])
theorem zGf (l:List ByteArray) (I:l.length<=4611686018427387904) (a:Option Addr) (c:Nat) (s:ByteArray):p9 137 [.sv a 0 (zA l) c,.str s] (sd (λx=>decide (s=x)) l 0):=λN Q J=>by
 refine zGt N a _ c s Q λ_=>?_
 repeat' first|with_reducible intro _|simp only[Y1,Y2,Y3,Y4]|with_reducible refine X ?_ ?_|refine⟨_,_,_,rfl,?_⟩|refine⟨_,rfl,?_⟩|refine And.intro (by first|omega|trivial|(show _=_;rfl)|(with_reducible constructor)<;>first|omega|trivial|rfl) ?_|refine (zGJ l I a c s) _ _ ?_|fail
 exact J _ (by omega)
def zq (g:List Pm):List ByteArray:=g.map (·.nm)
theorem tI (g:List Pm):(zq g).length=g.length:=by simp [zq]
theorem qp {g:List Pm} {es:List D} (h:Pms g es) (hg:g.length<=1073741824) (a:Option Addr) (c:Nat) (N:Nat) (Q:QT [.sl 0])
  (hQ:∀ a' c' N',N<=N'->Q a' (zA (zq g)) c' N'):ACalls prog 44 [.sl 0] [.sv a 4 es c] N Q:=by
 have hl:=h.all.len
 refine zC1 N a es c Q λ_=>?_
 have key:=up h.all h.len (λi xs=>∀ (q:Nat) (N':Nat),N<=N'->xa Q N (zA ((zq g).take i)).length q a es c es.length i (zA ((zq g).take i)) q N') ?_ ?_
 ·exact key 0 N (oA _)
 ·intro i aa hi q N' J
  refine tN _ _ _ _ _ _ _ _ _ _ _ _ ?_
  rw [oi (by rw [tI];omega)]
  repeat' first|with_reducible intro _|simp only[aa,Y1,Y2,Y3,Y4]|with_reducible refine X ?_ ?_|refine⟨_,_,_,rfl,?_⟩|refine⟨_,rfl,?_⟩|refine And.intro (by first|omega|trivial|(show _=_;rfl)|(with_reducible constructor)<;>first|omega|trivial|rfl) ?_|fail
  exact hQ _ _ _ (by omega)
 ·intro i x xs I _ ab q N' J
  have hb:=I.b
  have hm:=I.m
  obtain ⟨t0,t1,ac,ae,ah⟩:=I.r
  refine tN _ _ _ _ _ _ _ _ _ _ _ _ ?_
  have O:(zq g)[i]?=some x.nm:=by rw [zq,oG,I.g];rfl
  repeat' first|with_reducible intro _|simp only[I.lt,I.w,oH,ac,Y1,Y2,Y3,Y4]|with_reducible refine X ?_ ?_|refine⟨_,_,_,rfl,?_⟩|refine⟨_,rfl,?_⟩|refine And.intro (by first|omega|trivial|(show _=_;rfl)|(with_reducible constructor)<;>first|omega|trivial|rfl) ?_|fail
  refine ⟨by unfold zC;rw [oE,zQ,o8];simp only [oK,oO];omega,λc1=>?_⟩
  rw [xd,<-xo O]
  exact ab _ _ J
theorem zHU {α:Type} (p:α->Bool) (s:α) (hs:p s=true) (rest:List α):∀ (seen:List α) (k:Int),(sd p (seen++s::rest) k=k+seen.length↔seen.any p=false)/\sd p (seen++s::rest) k≥k
 | [],k=>by simp [sd,hs]
 | x :: seen,k=>by
   have I:=zHU p s hs rest seen (k+1)
   simp only [nB,sd,mZ,oK]
   cases J:p x with
   | true=>simp;omega
   | false=>
     simp only [mj,ni,Bool.false_or]
     refine ⟨?_,by omega⟩
     rw [<-I.1];constructor<;>intro h<;>omega
theorem zQ9 {s:ByteArray} (l:List ByteArray):(l.any λx=>decide (s=x))=l.any λx=>decide (x=s):=by
 induction l with
 | nil=>rfl
 | cons x l I=>simp only [mZ,I,eq_comm]
theorem zEI {g:List Pm} {es:List D} (h:Pms g es) (hg:g.length<=1073741824) (a:Option Addr) (c:Nat):vn 100 [.sv a 4 es c] (zCn g):=λN Q hQ=>by
 have hl:=h.all.len
 refine zEL N a es c Q λ_=>?_
 have au:=tI g
 have key:=λ(h5:g.length<=5) a3 c3 (N2:Nat) (aw:N<=N2)=>up h.all h.len (λi xs=>∀ (N':Nat),N2<=N'->(∀ N'',N'<=N''->Q (zGV ((zq g).take i) xs) N'')->xt Q N a3 (zA (zq g)) c3 a es c es.length i N') ?_ ?_
 ·repeat' first|with_reducible intro _|simp only[Y1,Y2,Y3,Y4]|with_reducible refine X ?_ ?_|refine⟨_,_,_,rfl,?_⟩|refine⟨_,rfl,?_⟩|refine And.intro (by first|omega|trivial|(show _=_;rfl)|(with_reducible constructor)<;>first|omega|trivial|rfl) ?_|refine (qp h hg a c) _ _ ?_|fail
  ·refine Qb (hQ _ (by omega)) ?_
   have:¬g.length<=5:=by omega
   simp [zCn,this]
  ·have h5:g.length<=5:=by omega
   refine key h5 _ _ _ ?_ _ (oA _) λN'' aq=>Qb (hQ N'' ?_) ?_
   all_goals first | omega | skip
   simp [zCn,h5]
 ·intro i ac hi N' ai I
  refine sE _ _ _ _ _ _ _ _ _ _ _ ?_
  repeat' first|with_reducible intro _|simp only[ac,Y1,Y2,Y3,Y4]|with_reducible refine X ?_ ?_|refine⟨_,_,_,rfl,?_⟩|refine⟨_,rfl,?_⟩|refine And.intro (by first|omega|trivial|(show _=_;rfl)|(with_reducible constructor)<;>first|omega|trivial|rfl) ?_|fail
  refine Qb (I _ (by omega)) ?_
  simp [zGV]
 ·intro i x xs J _ aj N' ai I
  have hb:=J.b
  have hm:=J.m
  obtain ⟨t0,t1,ak,al,am⟩:=J.r
  simp only [zGV] at I
  have O:(zq g)[i]?=some x.nm:=by rw [zq,oG,J.g];rfl
  have aa:=(zHU (λy=>decide (x.nm=y)) x.nm (by simp) ((zq g).drop (i+1)) ((zq g).take i) 0).1
  have ae:(zq g).take i++x.nm::(zq g).drop (i+1)=zq g:=by
   have ac:i<(zq g).length:=(oC.1 O).1
   have:=(oC.1 O).2
   rw [<-this,List.getElem_cons_drop,nL]
  rw [ae,o8,zQ9] at aa
  have ah:min i (zq g).length=i:=by omega
  rw [ah] at aa
  refine sE _ _ _ _ _ _ _ _ _ _ _ ?_
  repeat' first|with_reducible intro _|simp only[J.lt,J.w,oH,ak,Y1,Y2,Y3,Y4]|with_reducible refine X ?_ ?_|refine⟨_,_,_,rfl,?_⟩|refine⟨_,rfl,?_⟩|refine And.intro (by first|omega|trivial|(show _=_;rfl)|(with_reducible constructor)<;>first|omega|trivial|rfl) ?_|refine (ux x.nm al) _ _ ?_|refine (rg x.ty _ am) _ _ ?_|refine (zGf (zq g) (by omega) _ _ x.nm) _ _ ?_|fail
  ·refine Qb (I _ (by omega)) ?_;simp [*]
  ·refine Qb (I _ (by omega)) ?_;simp [*]
  ·rename_i hx _ _
   have ab:¬((zq g).take i).any (λy=>decide (y=x.nm))=false:=λhc=>by have:=aa.2 hc;omega
   have ao:((zq g).take i).any (λy=>decide (y=x.nm))=true:=by simpa using ab
   refine Qb (I _ (by omega)) ?_
   rw [ao];simp
  ·rename_i hx
   have ab:((zq g).take i).any (λy=>decide (y=x.nm))=false:=aa.1 (by omega)
   refine aj _ (by omega) λN'' h2=>Qb (I N'' (by omega)) ?_
   rw [ab,xo O];simp [*]
theorem zQ0 {N N' M:Nat} {a:Option Addr} {d:D} (O:ud M [a]) (h:Own N N' d) (hM:M<=N):Off [a] d:=λb I ad J hc=>by
 have:=h.lo _ hc
 have:=O b I ad J
 omega
theorem zRA {g:List Pm} (J:zCn g=true):zIb (rV g)=true:=by
 simp only [zCn,oL,nC] at J
 simp only [zIb,oL,nC,zBS]
 refine ⟨?_,by omega⟩
 have:∀ l:List Pm,(∀ x∈l,sk x.nm=true/\x.ty.base=true)->zJz (rV l)=true:=by
  intro l
  induction l with
  | nil=>intro _;rfl
  | cons p l ih=>
    intro h
    have O:=h p (by simp)
    have h2:=ih λx I=>h x (by simp [I])
    simp only [rV] at h2
    simp only [rV,om,zJz,Tg.ok,oL,h2,and_true]
    exact ⟨O.1,(zHg O.2).1,by decide⟩
 exact this g λx I=>zFW J.1 I
theorem zPa {g:List Pm} {e:Tm} (J:zCn g=true) (O:e.vd=true) (hb:e.isB=true):xW g e=zHG (rV g) e 0:=by
 have I:=O
 simp only [Tm.vd,oL] at I
 rw [xW,if_pos ⟨J,O,hb⟩,zHG,if_pos ⟨zRA J,by simp [zMR,I.2,zMC e hb]⟩]
theorem zEk {g:List Pm} {es:List D} (h:Pms g es) (hg:g.length<=1073741824) (ae:∀ x∈g,x.ty.cnt<=1073741824) {e:Tm} {d:D} (he:e.Is d) (hc:e.cnt<=1048576000 / 2) (a:Option Addr) (c:Nat):zUu 58 [.sv a 4 es c,.dg 9 d] (xW g e):=λN Q J=>by
 have hl:=h.all.len
 refine zFT N a es c d Q λ_ _=>?_
 have key:=λ(hp:zCn g=true) (hv:e.vd=true) (hb:e.isB=true)=>up h.all h.len (λi xs=>∀ (done:List D) (q:Nat) (N':Nat),N<=N'->All2 Tg.Is ((rV g).take i) done->done.length=i->wN Q N done.length q a es c es.length i d 0 none [] 0 done q N') ?_ ?_
 ·repeat' first|with_reducible intro _|simp only[Y1,Y2,Y3,Y4]|with_reducible refine X ?_ ?_|refine⟨_,_,_,rfl,?_⟩|refine⟨_,rfl,?_⟩|refine And.intro (by first|omega|trivial|(show _=_;rfl)|(with_reducible constructor)<;>first|omega|trivial|rfl) ?_|refine (zMB e d he) _ _ ?_|refine (zEI h hg a c) _ _ ?_|refine (zCF e d he (by omega)) _ _ ?_|fail
  ·rw [show xW g e=none by unfold xW;rw [if_neg (by simp [*])]] at J
   exact J _ _ (by omega) (vP 0) yc
  ·rw [show xW g e=none by unfold xW;rw [if_neg (by simp [*])]] at J
   exact J _ _ (by omega) (vP 0) yc
  ·rw [show xW g e=none by unfold xW;rw [if_neg (by simp [*])]] at J
   exact J _ _ (by omega) (vP 0) yc
  ·exact key (by assumption) (by assumption) (by assumption) [] 0 _ (by omega) rfl rfl
 ·intro i ah hi done q N' O hd hs
  refine rD _ _ _ _ _ _ _ _ _ _ _ _ _ _ _ _ _ ?_
  rw [oi (by rw [zBS];omega)] at hd
  rw [zPa hp hv hb] at J
  have ai:∀ x∈rV g,x.ty.cnt<=1073741824:=λx hx=>by obtain ⟨p,aj,rfl⟩:=zKe hx;exact ae p aj
  repeat' first|with_reducible intro _|simp only[ah,Y1,Y2,Y3,Y4]|with_reducible refine X ?_ ?_|refine⟨_,_,_,rfl,?_⟩|refine⟨_,rfl,?_⟩|refine And.intro (by first|omega|trivial|(show _=_;rfl)|(with_reducible constructor)<;>first|omega|trivial|rfl) ?_|fail
  rename_i ad au aw N1 ax aa
  refine zJZ ⟨by omega,hd⟩ ai he hc ad q 0 N1 _ λx N2 ay hx ab _=>?_
  exact ⟨zQ0 aa ab (oA _),λ_ N3 ak=>J _ _ (by omega) hx (ab.mono (by omega) ak)⟩
 ·intro i x xs I _ al done q N' O hd hs
  have hb:=I.b
  have hm:=I.m
  obtain ⟨t0,t1,am,ao,aq⟩:=I.r
  refine rD _ _ _ _ _ _ _ _ _ _ _ _ _ _ _ _ _ ?_
  have ac:(rV g)[i]?=some ⟨x.nm,x.ty,0⟩:=by rw [rV,oG,I.g];rfl
  repeat' first|with_reducible intro _|simp only[I.lt,I.w,oH,am,Y1,Y2,Y3,Y4]|with_reducible refine X ?_ ?_|refine⟨_,_,_,rfl,?_⟩|refine⟨_,rfl,?_⟩|refine And.intro (by first|omega|trivial|(show _=_;rfl)|(with_reducible constructor)<;>first|omega|trivial|rfl) ?_|fail
  refine ⟨by unfold zC;rw [oE];simp only [oK,oO];omega,λc1=>?_⟩
  exact al _ _ _ O (by rw [xo ac];exact hd.snoc ⟨_,_,rfl,ao,aq⟩) (by simp [hs])
end Go.Proofs.YtlahkdflngobiaaGreatDoor
