/- ShareOnce and ShareBody: the reference's and the program's. -/
import Derived.Test.YtlahkdflngobiaaGreatDoorC5
import Derived.Test.YtlahkdflngobiaaGreatDoorB3
import Derived.Test.YtlahkdflngobiaaGreatDoorB2
import Derived.Test.YtlahkdflngobiaaGreatDoorKd
set_option linter.unusedVariables false
set_option linter.unusedSimpArgs false
namespace Go.Proofs.YtlahkdflngobiaaGreatDoor
open Go Go.Proofs Go.Proofs.Tryz Go.IntWalk
mutual
/-- a term's types are small -/
theorem zQP:∀ t:Tm,t.ok=true->t.cnt<=61*t.sz
 | .mk k nm ot n ty re l,h=>by
   simp only [Tm.ok,oL] at h
   obtain ⟨O,I,h3⟩:=h
   have z1:∀ t:Ty,t.zero=true->t.cnt<=30:=λt J=>by
    cases t with
    | mk k l=>
    simp only [Ty.zero,Ty.k,Ty.as,oL,mP] at J
    have:l=[]:=oM (by omega)
    subst this
    simp [Ty.cnt,zI]
   have v1:∀ t:Ty,t.valid=true->t.cnt<=30:=λt J=>by
    simp only [Ty.valid,oL,nC] at J
    exact J.1.1
   simp only [xG,oL,mP,mD] at I
   have aa:ty.cnt<=30:=by
    rcases I.2.1 with h | h
    ·exact v1 _ (by rw [<-I.1,h])
    ·exact z1 _ h
   have ab:re.cnt<=30:=by
    rcases I.2.2.2.1 with h | h
    ·exact v1 _ (by rw [<-I.2.2.1];simpa using h)
    ·exact z1 _ h
   have:=zNP l O
   simp only [Tm.cnt,Tm.sz];omega
theorem zNP:∀ l:List Tm,zD7 l=true->zh l<=61*uM l
 | [],_=>by simp [zh]
 | x::xs,h=>by
   simp only [zD7,oL] at h
   have O:=zQP x h.1
   have I:=zNP xs h.2
   simp only [zh,uM];omega
end
theorem sa {g:List Pm} {t u:Tm} (h:wG g t=some u):u.cnt<=10000:=by
 obtain ⟨c,hc,rfl⟩:=zJu h
 obtain ⟨I,J⟩:=rN hc
 obtain ⟨_,h3,_,O,_⟩:=zPj I
 have h5:=zQP t O
 have h6:=p4 (zq g) t [] c (zBh J)
 have h7:=zRZ (ps:=zq g) (c:=c) (t:=t) (w:=fresh (zq g++t.nms))
 omega
/-- a term of one's own, and whether it was shared -/
def zT6 (f:FuncId) (args:List PV) (t:Tm) (b:Bool):Prop:=∀ (N:Nat) (Q:QT [.ag 9,.bool]),(∀ d N',N<=N'->t.Is d->Own N N' d->Q d b N')->ACalls prog f [.ag 9,.bool] args N Q
theorem zKc {l:List ByteArray} (h:l.length<=8796093022208):(fresh l).size<=4611686018427387904:=by
 obtain ⟨k,e,_,I,_,_⟩:=zDF l
 rw [e]
 have:=zOC k (by omega)
 omega
theorem zLb {l:List Tm} {t:Tm} {es:List D} (h:All2 Tm.Is (t::l) es):∃ d ds,es=d::ds/\t.Is d/\All2 Tm.Is l ds:=h
theorem zNs {N N':Nat} {d:D} {ds:List D} (h:OwnL N N' (d::ds)):Own N N' d:=by
 have J:=h.nd
 simp only [zB,oc] at J
 exact ⟨J.1,h.fl.1,λb I=>h.lo b (by simp only [zB,oF];exact .inl I),λb I=>h.hi b (by simp only [zB,oF];exact .inl I)⟩
theorem zHw {g:List Pm} {t:Tm} (h:qO g t=[]):wG g t=none:=by unfold wG;rw [h]
theorem zEz {g:List Pm} {t c:Tm} {l:List Tm} (h:qO g t=c::l):wG g t=some (zSn (zq g) c (fresh (zq g++t.nms)) t):=by unfold wG;rw [h]
theorem uZ {g:List Pm} {es:List D} (h:Pms g es) (hg:g.length<=1073741824) {t:Tm} {d:D} (ht:t.Is d) (hc:t.cnt<=536870000) (a:Option Addr) (c:Nat) :
  zT6 8 [.sv a 4 es c,.dg 9 d] ((wG g t).getD t) (wG g t).isSome:=λN Q hQ=>by
 have hG:=Tm.G_cnt t (by omega)
 refine zEA N a es c d Q λ_ _ N1 bm=>zC6 h hg ht hc a c N1 _ λa1 e1 c1 N2 bn I _ _ _=>?_
 have I:All2 Tm.Is (qO g t) e1:=I
 cases J:qO g t with
 | nil=>
   rw [J] at I
   have bp:e1.length=0:=I.len
   rw [zHw J] at hQ
   refine Br.beq (λ_ N3 bq=>zGA t d ht hG N3 _ ?_) λh=>by omega
   cases t with
   | mk k nm ot n0 ty re l=>
   intro x4 x5 x6 x7 bt c2 N4 bv aj O ak _ _
   have bw:=O.len
   have bz:=hG.2.2.1
   refine ⟨⟨rfl,rfl⟩,⟨rfl,rfl⟩,λa2 N5 b1 hf N6 al=>?_⟩
   exact hQ _ _ (by omega) (Tm.is_mk.2 ⟨_,_,_,_,_,_,_,rfl,aj,by omega,O⟩) ((zB5 (ak.mono (by omega) (oA _)) hf (by omega)).mono (oA _) al)
 | cons x rest=>
   rw [J] at I
   obtain ⟨dx,ds,rfl,hx,_⟩:=zLb I
   have am:x∈qO g t:=by rw [J];simp
   obtain ⟨_,ab⟩:=rN am
   obtain ⟨_,_,br,ac⟩:=zMq (w:=fresh (zq g++t.nms)) ab
   have b2:=p4 (zq g) t [] x (zBh ab)
   have b3:=tI g
   have b4:=zFH t
   have b5:=uR (zq g) t.nms
   rw [zEz J] at hQ
   have ae:fresh (sf (zq g) t.nms)=fresh (zq g++t.nms):=zQw λs=>by rw [zJs,oF]
   have aa:(fresh (zq g++t.nms)).size<=4611686018427387904:=zKc (by rw [oE];omega)
   generalize hw:fresh (zq g++t.nms)=w at hQ ae aa
   refine Br.beq (λh=>by rw [oK] at h;omega) λ_ N7 b6=>zHm h hg a c N7 _ λa2 c2 N8 b7 _ _ N9 b8=>?_
   refine zHD t d ht (by omega) N9 _ λa3 c3 N10 a8 _ _ _ ao ba=>?_
   refine wS (zq g) t.nms (by omega) (by omega) a2 a3 c2 c3 ao _ λc4 b9 bb _ _=>⟨⟨rfl,rfl⟩,λa4 _ aq bc _=>?_⟩
   refine zD4 _ (by omega) a4 c4 aq _ λca bd _=>?_
   rw [ae]
   refine ⟨⟨by omega,by simp⟩,⟨by omega,by simp⟩,⟨rfl,rfl⟩,λa5 _ _ _ au bg aw=>?_⟩
   refine zQl hx aa t d ht (by omega) [] (by simp;omega) a5 0 au _ λd4 cc bh ax ay _=>⟨ru aw ay,λ_ az bi=>?_⟩
   have cd:(zQU x w [] t).cnt<=t.cnt:=by rw [<-zLt ac t []];exact zLx t []
   refine zSO w aa x _ dx d4 hx ax (by omega) (by omega) az _ λd5 ce bj ah a6 _ _ a7 ai=>?_
   refine hQ d5 a7 (by omega) ?_ (a6.mono (by omega) ai)
   rw [<-zLt ac t []] at ah
   exact ah
theorem r8 {g:List Pm} {es:List D} (h:Pms g es) (hg:g.length<=1073741824) (ai:∀ x∈g,x.ty.cnt<=1073741824) {t:Tm} {d:D} (ht:t.Is d) (hc:t.cnt<=1048576000 / 2) (a:Option Addr) (c:Nat) :
  zT6 11 [.sv a 4 es c,.dg 9 d] ((wG g t).getD t) (wG g t).isSome:=λN Q hQ=>by
 have hG:=Tm.G_cnt t (by omega)
 refine zDo N a es c d Q λ_ _ N1 aj=>zCS h hg ai ht hc a c N1 _ λa1 e1 c1 N2 bw I J _ _=>?_
 have I:All2 Tm.Is (qO g t) e1:=I
 have J:=J rfl
 cases O:qO g t with
 | nil=>
   rw [O] at I
   have bz:e1.length=0:=I.len
   rw [zHw O] at hQ
   refine Br.beq (λ_ N3 b1=>zSK t d ht hG N3 _ ?_) λh=>by omega
   cases t with
   | mk k nm ot n0 ty re l=>
   intro x4 x5 x6 x7 b2 c2 N4 b3 ak aa al _ _
   have b4:=aa.len
   have b5:=hG.2.2.1
   refine ⟨⟨rfl,rfl⟩,⟨rfl,rfl⟩,λa2 N5 b6 hf N6 am=>?_⟩
   exact hQ _ _ (by omega) (Tm.is_mk.2 ⟨_,_,_,_,_,_,_,rfl,ak,by omega,aa⟩) ((zB5 (al.mono (by omega) (oA _)) hf (by omega)).mono (oA _) am)
 | cons x rest=>
   rw [O] at I
   obtain ⟨dx,ds,rfl,hx,_⟩:=zLb I
   have ao:x∈qO g t:=by rw [O];simp
   obtain ⟨_,aq⟩:=rN ao
   have b7:=p4 (zq g) t [] x (zBh aq)
   have b8:=tI g
   have b9:=zFH t
   have au:=zF7 J
   rw [zEz O] at hQ
   have ac:(fresh (zq g++t.nms)).size<=4611686018427387904:=zKc (by rw [oE];omega)
   have ab:zLd [zq g,t.nms]=zq g++t.nms:=by simp [zLd]
   generalize hw:fresh (zq g++t.nms)=w at hQ ac
   refine Br.beq (λh=>by rw [oK] at h;omega) λ_ N7 ca=>qp h hg a c N7 _ λa2 c2 N8 cc _ _ N9 cd=>?_
   refine zGq t d ht (by omega) N9 _ λa3 c3 N10 bj _ _ _=>⟨⟨rfl,rfl⟩,λa4 _ aw bm ax=>?_⟩
   have ay:All2 IsW [zq g,t.nms] [.sl a2 0 (zA (zq g)) c2,.sl a3 0 (zA t.nms) c3]:=⟨_,_,rfl,⟨_,_,rfl⟩,_,_,rfl,⟨_,_,rfl⟩,rfl⟩
   refine zMy ay (by simp) (by rw [ab,oE];omega) a4 2 aw _ λa5 c5 ce bn az _=>⟨ru ax az,λ_ a7 bp=>?_⟩
   rw [ab]
   refine zEP _ (by rw [oE];omega) a5 c5 a7 _ λcf bq _=>?_
   rw [hw]
   refine ⟨⟨by omega,by simp⟩,⟨by omega,by simp⟩,λa8 bt=>?_⟩
   refine zQ8 hx ac (ps:=zq g) (by omega) t d ht (by omega) [] (by simp;omega) a2 none c2 0 a8 _ λd4 ba bv bb bc _ _=>⟨⟨rfl,rfl⟩,⟨rfl,rfl⟩,⟨rfl,rfl⟩,⟨rfl,rfl⟩,⟨rfl,rfl⟩,λa6 bd ae hf cg ah=>?_⟩
   have bg:OwnL N N2 [dx]:=(zo (zNs au)).mono aj (oA _)
   have bh:OwnL N ba [dx,d4]:=zm bg (zo (bc.mono (by omega) (oA _))) (N1:=N2) (by omega) (by omega)
   refine hQ _ _ (by omega) (Tm.is_mk.2 ⟨_,_,_,_,_,_,_,rfl,⟨ac,by decide,vP 0,vP 0⟩,by simp,zNG hx bb⟩) ?_
   have bi:Own N bd (.sl a6 9 [dx,d4] 2):=tf bh hf ae
   exact (s9 (zR (zR (zR (zR (zR (zCr (zR (zCr (zo bi)))))))))).mono (oA _) ah
theorem zDz {g:List Pm} {es:List D} (h:Pms g es) (hg:g.length<=1073741824) {t:Tm} {d:D} (ht:t.Is d) (hc:t.cnt<=536870000) (a:Option Addr) (c:Nat) :
  zRc 23 [.sv a 4 es c,.dg 9 d] (zAS g t.ops t):=λN Q J=>by
 have hG:=Tm.G_cnt t (by omega)
 have loop:∀ (n:Nat) (u:Tm) (y:D) (N':Nat),N<=N'->u.Is y->u.cnt<=536870000->u.ops<=n->(∀ d N',N<=N'->(zAS g n u).Is d->Own N N' d->Q d N') ->
   yu Q N a es c 0 (bytes []) (bytes []) 0 0 none [] 0 0 none [] 0 none [] 0 y N':=by
  intro n
  induction n with
  | zero=>
    intro u y N' ai hu ac hn J
    have I:=uZ h hg hu ac a c
    cases hs:wG g u with
    | none=>
      rw [hs] at I
      refine wH _ _ _ _ _ _ _ _ _ _ _ _ _ _ _ _ _ _ _ _ _ _ λN1 ae=>I N1 _ λx N2 ah O ho _ _=>Br.not (λ_ N3 aa=>?_) λh=>by cases h
      exact J x N3 (by omega) O (ho.mono (by omega) aa)
    | some v=>have:=(sx hs).1;omega
  | succ n ih=>
    intro u y N' ai hu ac hn J
    have I:=uZ h hg hu ac a c
    cases hs:wG g u with
    | none=>
      rw [hs] at I
      refine wH _ _ _ _ _ _ _ _ _ _ _ _ _ _ _ _ _ _ _ _ _ _ λN1 ae=>I N1 _ λx N2 ah O ho _ _=>Br.not (λ_ N3 aa=>?_) λh=>by cases h
      rw [p7 hs] at J
      exact J x N3 (by omega) O (ho.mono (by omega) aa)
    | some v=>
      rw [hs] at I
      have h1:=(sx hs).1
      have h2:=sa hs
      refine wH _ _ _ _ _ _ _ _ _ _ _ _ _ _ _ _ _ _ _ _ _ _ λN1 ae=>I N1 _ λx N2 ah O ho _ _=>Br.not (λh=>by cases h) λ_=>?_
      rw [zCz hs hn] at J
      exact ih v x N2 (by omega) O (by omega) (by omega) J
 refine zED N a es c d Q λ_ _ N1 ae=>zGA t d ht hG N1 _ ?_
 cases t with
 | mk k nm ot n0 ty re l=>
 intro x4 x5 x6 x7 aj c1 N2 ah ak ab ao _ _
 have aq:=ab.len
 have au:=hG.2.2.1
 refine zCD _ _ _ _ _ _ _ _ _ _ _ _ _ _ _ _ _ _ _ _ _ _ _ _ _ _ _ _ _ _ _ _ _ ⟨⟨rfl,rfl⟩,⟨rfl,rfl⟩,λa2 N3 aa hf N4 aw=>?_⟩
 have hu:(Tm.mk k nm ot n0 ty re l).Is (.ag [.j k,.t nm,.t ot,.j n0,x4,x5,x6,x7,.sl a2 9 aj c1]):=Tm.is_mk.2 ⟨_,_,_,_,_,_,_,rfl,ak,by omega,ab⟩
 have I:=uZ h hg hu hc a c
 cases hs:wG g (.mk k nm ot n0 ty re l) with
 | none=>
   rw [hs] at I
   rw [p7 hs] at J
   refine I N4 _ λx N5 al O ho _ _=>Br.not (λ_ N6 am=>?_) λh=>by cases h
   exact J x N6 (by omega) O (ho.mono (by omega) am)
 | some v=>
   rw [hs] at I
   have h1:=(sx hs).1
   have h2:=sa hs
   refine I N4 _ λx N5 al O ho _ _=>Br.not (λh=>by cases h) λ_=>?_
   obtain ⟨m,hm⟩:∃ m,(Tm.mk k nm ot n0 ty re l).ops=m+1:=⟨(Tm.mk k nm ot n0 ty re l).ops - 1,by omega⟩
   rw [hm,zCz hs (by omega)] at J
   exact loop m v x N5 (by omega) O (by omega) (by omega) J
theorem zDm {g:List Pm} {es:List D} (h:Pms g es) (hg:g.length<=1073741824) (aa:∀ x∈g,x.ty.cnt<=1073741824) {t:Tm} {d:D} (ht:t.Is d) (hc:t.cnt<=1048576000 / 2) (a:Option Addr) (c:Nat) :
  zRc 19 [.sv a 4 es c,.dg 9 d] (zAS g t.ops t):=λN Q J=>by
 have loop:∀ (n:Nat) (u:Tm) (y:D) (N':Nat),N<=N'->((wG g u).getD u).Is y->Own N N' y->u.ops<=n->(∀ d N',N<=N'->(zAS g n u).Is d->Own N N' d->Q d N') ->
   xy Q N a es c (wG g u).isSome 0 (bytes []) (bytes []) 0 0 none [] 0 0 none [] 0 none [] 0 y N':=by
  intro n
  induction n with
  | zero=>
    intro u y N' ac I ho hn J
    cases hs:wG g u with
    | none=>
      rw [hs] at I
      refine vW _ _ _ _ _ _ _ _ _ _ _ _ _ _ _ _ _ _ _ _ _ _ _ (Br.of (λh=>by cases h) λ_ N3 O=>J y N3 (by omega) I (ho.mono (oA _) O))
    | some v=>have:=(sx hs).1;omega
  | succ n ih=>
    intro u y N' ac I ho hn J
    cases hs:wG g u with
    | none=>
      rw [hs] at I
      rw [p7 hs] at J
      refine vW _ _ _ _ _ _ _ _ _ _ _ _ _ _ _ _ _ _ _ _ _ _ _ (Br.of (λh=>by cases h) λ_ N3 O=>J y N3 (by omega) I (ho.mono (oA _) O))
    | some v=>
      rw [hs] at I
      have I:v.Is y:=I
      have h1:=(sx hs).1
      have h2:=sa hs
      rw [zCz hs hn] at J
      refine vW _ _ _ _ _ _ _ _ _ _ _ _ _ _ _ _ _ _ _ _ _ _ _ (Br.of (λ_ N1 ab=>r8 h hg aa I (by omega) a c N1 _ λx N2 ae hx ah _ _=>?_) λh=>by cases h)
      exact ih v x N2 (by omega) hx (ah.mono (by omega) (oA _)) (by omega) J
 refine zDr N a es c d Q λ_ _ N1 ab=>r8 h hg aa ht hc a c N1 _ λx N2 ae hx ho _ _=>?_
 exact loop t.ops t x N2 (by omega) hx (ho.mono ab (oA _)) (oA _) J
theorem zPT {g:List Pm}:∀ (n:Nat) (t:Tm),(zAS g n t).cnt<=t.cnt+10000
 | 0,t=>by simp only [zAS];omega
 | n + 1,t=>by
   cases hs:wG g t with
   | none=>rw [p7 hs];omega
   | some u=>
     have J:=sa hs
     have O:∀ (m:Nat) (v:Tm),v.cnt<=10000->(zAS g m v).cnt<=10000:=by
      intro m
      induction m with
      | zero=>intro v I;exact I
      | succ m ih=>
        intro v I
        simp only [zAS]
        split
        ·exact I
        ·rename_i w hw;exact ih w (sa hw)
     have:=O n u J
     simp only [zAS,hs]
     omega
theorem zK7 {m:Nat}:∀ {g:List Pm},(∀ x∈g,x.ty.cnt<=m)->zDG g<=g.length*m
 | [],_=>by simp [zDG]
 | x::g,h=>by
   have J:=zK7 (g:=g) λy I=>h y (by simp [I])
   have O:=h x (by simp)
   simp only [zDG,oK,nO,Nat.one_mul]
   omega
/-- the law FnExactShareBody: for all data it answers true -/
theorem zJH {g:List Pm} {es:List D} {t:Tm} {d:D} (ai:Pms g es) (he:t.Is d) (a:Option Addr) (c:Nat) (N:Nat) :
  ACalls prog 5 [.bool] [.sv a 4 es c,.dg 9 d] N (λr _=>r=true):=by
 refine rd N a es c d _ λbc bd N1 ef=>?_
 refine zNv ai a c 1048576 (by omega) (by omega) N1 _ λr N2 eg hr _=>Br.dec (λ_ N3 _=>rfl) λci N4 ei=>?_
 obtain ⟨ej,ek,ax,am⟩:=hr.resolve_left (by omega)
 refine zQi t d he r (by omega) (by omega) N4 _ λr2 N5 eo ay _=>Br.dec (λ_ N6 _=>rfl) λbg N7 ep=>?_
 obtain ⟨eq,er,bh⟩:=ay.resolve_left (by omega)
 have bh:t.cnt<=3145731:=by omega
 have ax:g.length<=1048576:=by omega
 have am:∀ x∈g,x.ty.cnt<=1048577:=λx hx=>by have:=am x hx;omega
 have ab:∀ x∈g,x.ty.cnt<=1073741824:=λx hx=>by have:=am x hx;omega
 have et:zDG g<=1048576*1048577:=oe (zK7 am) (nY _ ax)
 have aa:g.length<=1073741824:=by omega
 have ah:t.cnt<=1073741824:=by omega
 have az:t.cnt<=536870000:=by omega
 have a6:t.cnt<=1048576000 / 2:=by omega
 clear hr ay
 refine pz ai aa ab a c N7 _ λa1 eu c1 N8 ev a7 cj _ _ N9 ew=>?_
 refine zEc t d he ah N9 _ λd1 N10 ck bi cm _ _ bj cn=>?_
 have bm:=zPT (g:=g) t.ops t
 have aj:=zDz a7 aa bi az a1 c1
 have ae:=λ(ao:List D) (d2:D) (ac:Pms g ao) (ak:t.Is d2) a2 c2=>zDm ac aa ab ak a6 a2 c2
 generalize zAS g t.ops t=o at aj ae bm
 refine aj bj _ λw0 ey co aq _ _ au bn cp=>?_
 refine pz ai aa ab a c bn _ λa2 ao c2 e2 cq ac I _ _ bp cr=>?_
 refine zEc t d he ah bp _ λd2 e3 ct ak J _ _ bq cw=>?_
 refine ae ao d2 ac ak a2 c2 bq _ λg0 e4 cx aw O _ _ bt cy=>?_
 refine zEY _ g0 w0 aw aq bt _ λe5 cz _=>Br.of (λh=>by simp at h) λ_ bv c0=>?_
 refine pz ai aa ab a c bv _ λa3 e6 c3 e7 c4 a8 _ _ _ bw c6=>?_
 refine zOT ac a8 a2 a3 c2 c3 bw _ λe8 c7 _=>Br.of (λh=>by simp at h) λ_ bz c8=>?_
 refine zEc t d he ah bz _ λd4 e9 c9 b1 _ _ _ b2 da=>?_
 refine zEY t d2 d4 ak b1 b2 _ λfa db _=>Br.of (λh=>by simp at h) λ_=>?_
 have B0:∀ M,N<=M->Bel M (.sl a 4 es c):=λM h=>bc.mono h
 have B1:∀ M,N<=M->Bel M d:=λM h=>bd.mono h
 have d53:=zId I O (by omega)
 have d54:=zId J O (by omega)
 have d34:=zId I J (by omega)
 refine ⟨I.tree,I.low (by omega),⟨λx hx=>?_⟩,λb3 de=>?_⟩
 ·simp only [oJ,nK,mm] at hx
  rcases hx with rfl | rfl | rfl | rfl | rfl
  ·exact uu I (B0 _ (by omega))
  ·exact uu I (B1 _ (by omega))
  ·exact uu I (au.mono (by omega))
  ·exact d34
  ·exact d53
 refine zJ9 ac a2 c2 I.tree 1 (by omega) (by omega) b3 _ λba k5 fb df fc fd fe dh _=>?_
 refine ⟨J.tree,J.low (by omega),rfl,⟨λx hx=>?_⟩,λb4 di=>?_⟩
 ·simp only [oJ,nK,mm] at hx
  rcases hx with rfl | rfl | rfl | rfl
  ·exact uu J (B0 _ (by omega))
  ·exact uu J (B1 _ (by omega))
  ·exact uu J (au.mono (by omega))
  ·exact d54
 refine zN7 ak J.tree k5 (by omega) (by omega) b4 _ λd6 k6 ff dj b5 fg dk _=>Br.dec (λh=>by omega) λ_ b6 dl=>?_
 refine zEY _ g0 w0 aw aq b6 _ λfh dm _=>Br.of (λh=>by simp at h) λ_=>?_
 refine ⟨O.tree,O.low (by omega),rfl,⟨λx hx=>?_⟩,λb7 dn=>?_⟩
 ·simp only [oJ,nK,mm] at hx
  rcases hx with rfl | rfl | rfl | rfl
  ·exact uu O (B0 _ (by omega))
  ·exact uu O (B1 _ (by omega))
  ·exact uu O (au.mono (by omega))
  ·rw [b5];exact λb hb hc=>d54 b hc hb
 refine zE2 aw O.tree 1 (by omega) (by omega) b7 _ λg1 fi dq b8 fj _ b9 dr=>?_
 have fk:=o.mkk_k 1
 have al:=zLv _ 1 g1 b8 (by omega) (by omega)
 refine al b9 _ λfm dt _=>Br.dec (λh=>by omega) λ_=>Br.bne (λh=>absurd rfl h) λ_ ca du=>?_
 refine pz ai aa ab a c ca _ λa5 ba c5 fo dv bb _ _ _ cc dw=>?_
 refine zEc t d he ah cc _ λd7 fp dx cd _ _ _ ce dz=>?_
 refine ae ba d7 bb cd a5 c5 ce _ λg2 fq d3 cf _ _ _ cg d8=>?_
 refine zEY _ g2 w0 cf aq cg _ λfu d9 _=>Br.of (λh=>by simp at h) λ_ ch ea=>?_
 exact al ch _ λfw eb _=>Br.dec (λh=>by omega) λ_=>Br.bne (λh=>absurd rfl h) λ_ fy ee=>rfl
end Go.Proofs.YtlahkdflngobiaaGreatDoor
