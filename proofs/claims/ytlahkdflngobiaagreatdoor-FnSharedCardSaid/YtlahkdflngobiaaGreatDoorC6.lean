/- ShareOnce and ShareBody: the reference's and the program's. -/
import Derived.Test.YtlahkdflngobiaaGreatDoorC5
import Derived.Test.YtlahkdflngobiaaGreatDoorB3
import Derived.Test.YtlahkdflngobiaaGreatDoorB2
import Derived.Test.YtlahkdflngobiaaGreatDoorKd
import Derived.Test.YtlahkdflngobiaaGreatDoorD2
import Derived.Test.YtlahkdflngobiaaGreatDoorD5
import Derived.Test.YtlahkdflngobiaaGreatDoorKf
set_option linter.unusedVariables false
set_option linter.unusedSimpArgs false
namespace Go.Proofs.YtlahkdflngobiaaGreatDoor
open Go Go.Proofs Go.Proofs.Tryz Go.IntWalk
mutual
/-- a term's types are small -/
theorem zQn:∀ t:Tm,t.ok=true->t.cnt<=61*t.sz
 | .mk k nm ot n ty re l,h=>by
   simp only [Tm.ok,oL] at h
   obtain ⟨O,I,h3⟩:=h
   have z1:∀ t:Ty,t.zero=true->t.cnt<=30:=λt J=>by
    cases t with
    | mk k l=>
    simp only [Ty.zero,Ty.k,Ty.as,oL,mE] at J
    have:l=[]:=oO (by omega)
    subst this
    simp [Ty.cnt,zV]
   have v1:∀ t:Ty,t.valid=true->t.cnt<=30:=λt J=>by
    simp only [Ty.valid,oL,nD] at J
    exact J.1.1
   simp only [yf,oL,mE,nk] at I
   have aa:ty.cnt<=30:=by
    rcases I.2.1 with h | h
    ·exact v1 _ (by rw [<-I.1,h])
    ·exact z1 _ h
   have ab:re.cnt<=30:=by
    rcases I.2.2.2.1 with h | h
    ·exact v1 _ (by rw [<-I.2.2.1];simpa using h)
    ·exact z1 _ h
   have:=zNq l O
   simp only [Tm.cnt,Tm.sz];omega
theorem zNq:∀ l:List Tm,zBO l=true->za l<=61*ui l
 | [],_=>by simp [za]
 | x::xs,h=>by
   simp only [zBO,oL] at h
   have O:=zQn x h.1
   have I:=zNq xs h.2
   simp only [za,ui];omega
end
theorem s6 {g:List Pm} {t u:Tm} (h:xX g t=some u):u.cnt<=10000:=by
 obtain ⟨c,hc,rfl⟩:=zFI h
 obtain ⟨I,J⟩:=tS hc
 obtain ⟨_,h3,_,O,_⟩:=zKv I
 have h5:=zQn t O
 have h6:=zAK (zk g) t [] c (pH J)
 have h7:=zR6 (ps:=zk g) (c:=c) (t:=t) (w:=fresh (zk g++t.nms))
 omega
/-- a term of one's own, and whether it was shared -/
def zUO (f:FuncId) (args:List PV) (t:Tm) (b:Bool):Prop:=∀ (N:Nat) (Q:QT [.ag 9,.bool]),(∀ d N',N<=N'->t.Is d->Own N N' d->Q d b N')->ACalls prog f [.ag 9,.bool] args N Q
theorem zKt {l:List ByteArray} (h:l.length<=8796093022208):(fresh l).size<=4611686018427387904:=by
 obtain ⟨k,e,_,I,_,_⟩:=zAP l
 rw [e]
 have:=zOZ k (by omega)
 omega
theorem zLt {l:List Tm} {t:Tm} {es:List D} (h:All2 Tm.Is (t::l) es):∃ d ds,es=d::ds/\t.Is d/\All2 Tm.Is l ds:=h
theorem zOJ {N N':Nat} {d:D} {ds:List D} (h:OwnL N N' (d::ds)):Own N N' d:=by
 have J:=h.nd
 simp only [zC,oq] at J
 exact ⟨J.1,h.fl.1,λb I=>h.lo b (by simp only [zC,oG];exact .inl I),λb I=>h.hi b (by simp only [zC,oG];exact .inl I)⟩
theorem zDi {g:List Pm} {t:Tm} (h:um g t=[]):xX g t=none:=by unfold xX;rw [h]
theorem zBE {g:List Pm} {t c:Tm} {l:List Tm} (h:um g t=c::l):xX g t=some (zSo (zk g) c (fresh (zk g++t.nms)) t):=by unfold xX;rw [h]
theorem w8 {g:List Pm} {es:List D} (h:Pms g es) (hg:g.length<=1073741824) {t:Tm} {d:D} (ht:t.Is d) (hc:t.cnt<=536870000) (a:Option Addr) (c:Nat) :
  zUO 8 [.sv a 4 es c,.dg 9 d] ((xX g t).getD t) (xX g t).isSome:=λN Q hQ=>by
 have hG:=Tm.G_cnt t (by omega)
 refine zEZ N a es c d Q λ_ _ N1 bm=>rJ h hg ht hc a c N1 _ λa1 e1 c1 N2 bn I _ _ _=>?_
 have I:All2 Tm.Is (um g t) e1:=I
 cases J:um g t with
 | nil=>
   rw [J] at I
   have bp:e1.length=0:=I.len
   rw [zDi J] at hQ
   refine Br.beq (λ_ N3 bq=>zGP t d ht hG N3 _ ?_) λh=>by omega
   cases t with
   | mk k nm ot n0 ty re l=>
   intro x4 x5 x6 x7 bt c2 N4 bv aj O ak _ _
   have bw:=O.len
   have bz:=hG.2.2.1
   refine ⟨⟨rfl,rfl⟩,⟨rfl,rfl⟩,λa2 N5 b1 hf N6 al=>?_⟩
   exact hQ _ _ (by omega) (Tm.is_mk.2 ⟨_,_,_,_,_,_,_,rfl,aj,by omega,O⟩) ((zCT (ak.mono (by omega) (oB _)) hf (by omega)).mono (oB _) al)
 | cons x rest=>
   rw [J] at I
   obtain ⟨dx,ds,rfl,hx,_⟩:=zLt I
   have am:x∈um g t:=by rw [J];simp
   obtain ⟨_,ab⟩:=tS am
   obtain ⟨_,_,br,ac⟩:=zND (w:=fresh (zk g++t.nms)) ab
   have b2:=zAK (zk g) t [] x (pH ab)
   have b3:=th g
   have b4:=zDA t
   have b5:=uq (zk g) t.nms
   rw [zBE J] at hQ
   have ae:fresh (si (zk g) t.nms)=fresh (zk g++t.nms):=zRO λs=>by rw [zBj,oG]
   have aa:(fresh (zk g++t.nms)).size<=4611686018427387904:=zKt (by rw [oE];omega)
   generalize hw:fresh (zk g++t.nms)=w at hQ ae aa
   refine Br.beq (λh=>by rw [oJ] at h;omega) λ_ N7 b6=>zHv h hg a c N7 _ λa2 c2 N8 b7 _ _ N9 b8=>?_
   refine zBB t d ht (by omega) N9 _ λa3 c3 N10 a8 _ _ _ ao ba=>?_
   refine we (zk g) t.nms (by omega) (by omega) a2 a3 c2 c3 ao _ λc4 b9 bb _ _=>⟨⟨rfl,rfl⟩,λa4 _ aq bc _=>?_⟩
   refine zET _ (by omega) a4 c4 aq _ λca bd _=>?_
   rw [ae]
   refine ⟨⟨by omega,by simp⟩,⟨by omega,by simp⟩,⟨rfl,rfl⟩,λa5 _ _ _ au bg aw=>?_⟩
   refine zRB hx aa t d ht (by omega) [] (by simp;omega) a5 0 au _ λd4 cc bh ax ay _=>⟨wW aw ay,λ_ az bi=>?_⟩
   have cd:(zQs x w [] t).cnt<=t.cnt:=by rw [<-zMB ac t []];exact zMF t []
   refine zO2 w aa x _ dx d4 hx ax (by omega) (by omega) az _ λd5 ce bj ah a6 _ _ a7 ai=>?_
   refine hQ d5 a7 (by omega) ?_ (a6.mono (by omega) ai)
   rw [<-zMB ac t []] at ah
   exact ah
theorem uv {g:List Pm} {es:List D} (h:Pms g es) (hg:g.length<=1073741824) (ai:∀ x∈g,x.ty.cnt<=1073741824) {t:Tm} {d:D} (ht:t.Is d) (hc:t.cnt<=1048576000 / 2) (a:Option Addr) (c:Nat) :
  zUO 11 [.sv a 4 es c,.dg 9 d] ((xX g t).getD t) (xX g t).isSome:=λN Q hQ=>by
 have hG:=Tm.G_cnt t (by omega)
 refine zEA N a es c d Q λ_ _ N1 aj=>sq h hg ai ht hc a c N1 _ λa1 e1 c1 N2 bw I J _ _=>?_
 have I:All2 Tm.Is (um g t) e1:=I
 have J:=J rfl
 cases O:um g t with
 | nil=>
   rw [O] at I
   have bz:e1.length=0:=I.len
   rw [zDi O] at hQ
   refine Br.beq (λ_ N3 b1=>zSu t d ht hG N3 _ ?_) λh=>by omega
   cases t with
   | mk k nm ot n0 ty re l=>
   intro x4 x5 x6 x7 b2 c2 N4 b3 ak aa al _ _
   have b4:=aa.len
   have b5:=hG.2.2.1
   refine ⟨⟨rfl,rfl⟩,⟨rfl,rfl⟩,λa2 N5 b6 hf N6 am=>?_⟩
   exact hQ _ _ (by omega) (Tm.is_mk.2 ⟨_,_,_,_,_,_,_,rfl,ak,by omega,aa⟩) ((zCT (al.mono (by omega) (oB _)) hf (by omega)).mono (oB _) am)
 | cons x rest=>
   rw [O] at I
   obtain ⟨dx,ds,rfl,hx,_⟩:=zLt I
   have ao:x∈um g t:=by rw [O];simp
   obtain ⟨_,aq⟩:=tS ao
   have b7:=zAK (zk g) t [] x (pH aq)
   have b8:=th g
   have b9:=zDA t
   have au:=zGL J
   rw [zBE O] at hQ
   have ac:(fresh (zk g++t.nms)).size<=4611686018427387904:=zKt (by rw [oE];omega)
   have ab:zLu [zk g,t.nms]=zk g++t.nms:=by simp [zLu]
   generalize hw:fresh (zk g++t.nms)=w at hQ ac
   refine Br.beq (λh=>by rw [oJ] at h;omega) λ_ N7 ca=>qy h hg a c N7 _ λa2 c2 N8 cc _ _ N9 cd=>?_
   refine zAv t d ht (by omega) N9 _ λa3 c3 N10 bj _ _ _=>⟨⟨rfl,rfl⟩,λa4 _ aw bm ax=>?_⟩
   have ay:All2 IsW [zk g,t.nms] [.sl a2 0 (zA (zk g)) c2,.sl a3 0 (zA t.nms) c3]:=⟨_,_,rfl,⟨_,_,rfl⟩,_,_,rfl,⟨_,_,rfl⟩,rfl⟩
   refine zNK ay (by simp) (by rw [ab,oE];omega) a4 2 aw _ λa5 c5 ce bn az _=>⟨wW ax az,λ_ a7 bp=>?_⟩
   rw [ab]
   refine zEm _ (by rw [oE];omega) a5 c5 a7 _ λcf bq _=>?_
   rw [hw]
   refine ⟨⟨by omega,by simp⟩,⟨by omega,by simp⟩,λa8 bt=>?_⟩
   refine zRa hx ac (ps:=zk g) (by omega) t d ht (by omega) [] (by simp;omega) a2 none c2 0 a8 _ λd4 ba bv bb bc _ _=>⟨⟨rfl,rfl⟩,⟨rfl,rfl⟩,⟨rfl,rfl⟩,⟨rfl,rfl⟩,⟨rfl,rfl⟩,λa6 bd ae hf cg ah=>?_⟩
   have bg:OwnL N N2 [dx]:=(yP (zOJ au)).mono aj (oB _)
   have bh:OwnL N ba [dx,d4]:=y7 bg (yP (bc.mono (by omega) (oB _))) (N1:=N2) (by omega) (by omega)
   refine hQ _ _ (by omega) (Tm.is_mk.2 ⟨_,_,_,_,_,_,_,rfl,⟨ac,by decide,wD 0,wD 0⟩,by simp,zNh hx bb⟩) ?_
   have bi:Own N bd (.sl a6 9 [dx,d4] 2):=qm bh hf ae
   exact (zA5 (ze (ze (ze (ze (ze (zDI (ze (zDI (yP bi)))))))))).mono (oB _) ah
theorem zEP {g:List Pm} {es:List D} (h:Pms g es) (hg:g.length<=1073741824) {t:Tm} {d:D} (ht:t.Is d) (hc:t.cnt<=536870000) (a:Option Addr) (c:Nat) :
  zSA 23 [.sv a 4 es c,.dg 9 d] (r5 g t.ops t):=λN Q J=>by
 have hG:=Tm.G_cnt t (by omega)
 have loop:∀ (n:Nat) (u:Tm) (y:D) (N':Nat),N<=N'->u.Is y->u.cnt<=536870000->u.ops<=n->(∀ d N',N<=N'->(r5 g n u).Is d->Own N N' d->Q d N') ->
   yv Q N a es c 0 (bytes []) (bytes []) 0 0 none [] 0 0 none [] 0 none [] 0 y N':=by
  intro n
  induction n with
  | zero=>
    intro u y N' ai hu ac hn J
    have I:=w8 h hg hu ac a c
    cases hs:xX g u with
    | none=>
      rw [hs] at I
      refine wR _ _ _ _ _ _ _ _ _ _ _ _ _ _ _ _ _ _ _ _ _ _ λN1 ae=>I N1 _ λx N2 ah O ho _ _=>Br.not (λ_ N3 aa=>?_) λh=>by cases h
      exact J x N3 (by omega) O (ho.mono (by omega) aa)
    | some v=>have:=(tO hs).1;omega
  | succ n ih=>
    intro u y N' ai hu ac hn J
    have I:=w8 h hg hu ac a c
    cases hs:xX g u with
    | none=>
      rw [hs] at I
      refine wR _ _ _ _ _ _ _ _ _ _ _ _ _ _ _ _ _ _ _ _ _ _ λN1 ae=>I N1 _ λx N2 ah O ho _ _=>Br.not (λ_ N3 aa=>?_) λh=>by cases h
      rw [tQ hs] at J
      exact J x N3 (by omega) O (ho.mono (by omega) aa)
    | some v=>
      rw [hs] at I
      have h1:=(tO hs).1
      have h2:=s6 hs
      refine wR _ _ _ _ _ _ _ _ _ _ _ _ _ _ _ _ _ _ _ _ _ _ λN1 ae=>I N1 _ λx N2 ah O ho _ _=>Br.not (λh=>by cases h) λ_=>?_
      rw [zDP hs hn] at J
      exact ih v x N2 (by omega) O (by omega) (by omega) J
 refine zEc N a es c d Q λ_ _ N1 ae=>zGP t d ht hG N1 _ ?_
 cases t with
 | mk k nm ot n0 ty re l=>
 intro x4 x5 x6 x7 aj c1 N2 ah ak ab ao _ _
 have aq:=ab.len
 have au:=hG.2.2.1
 refine zCe _ _ _ _ _ _ _ _ _ _ _ _ _ _ _ _ _ _ _ _ _ _ _ _ _ _ _ _ _ _ _ _ _ ⟨⟨rfl,rfl⟩,⟨rfl,rfl⟩,λa2 N3 aa hf N4 aw=>?_⟩
 have hu:(Tm.mk k nm ot n0 ty re l).Is (.ag [.j k,.t nm,.t ot,.j n0,x4,x5,x6,x7,.sl a2 9 aj c1]):=Tm.is_mk.2 ⟨_,_,_,_,_,_,_,rfl,ak,by omega,ab⟩
 have I:=w8 h hg hu hc a c
 cases hs:xX g (.mk k nm ot n0 ty re l) with
 | none=>
   rw [hs] at I
   rw [tQ hs] at J
   refine I N4 _ λx N5 al O ho _ _=>Br.not (λ_ N6 am=>?_) λh=>by cases h
   exact J x N6 (by omega) O (ho.mono (by omega) am)
 | some v=>
   rw [hs] at I
   have h1:=(tO hs).1
   have h2:=s6 hs
   refine I N4 _ λx N5 al O ho _ _=>Br.not (λh=>by cases h) λ_=>?_
   obtain ⟨m,hm⟩:∃ m,(Tm.mk k nm ot n0 ty re l).ops=m+1:=⟨(Tm.mk k nm ot n0 ty re l).ops - 1,by omega⟩
   rw [hm,zDP hs (by omega)] at J
   exact loop m v x N5 (by omega) O (by omega) (by omega) J
theorem zD6 {g:List Pm} {es:List D} (h:Pms g es) (hg:g.length<=1073741824) (aa:∀ x∈g,x.ty.cnt<=1073741824) {t:Tm} {d:D} (ht:t.Is d) (hc:t.cnt<=1048576000 / 2) (a:Option Addr) (c:Nat) :
  zSA 19 [.sv a 4 es c,.dg 9 d] (r5 g t.ops t):=λN Q J=>by
 have loop:∀ (n:Nat) (u:Tm) (y:D) (N':Nat),N<=N'->((xX g u).getD u).Is y->Own N N' y->u.ops<=n->(∀ d N',N<=N'->(r5 g n u).Is d->Own N N' d->Q d N') ->
   wG Q N a es c (xX g u).isSome 0 (bytes []) (bytes []) 0 0 none [] 0 0 none [] 0 none [] 0 y N':=by
  intro n
  induction n with
  | zero=>
    intro u y N' ac I ho hn J
    cases hs:xX g u with
    | none=>
      rw [hs] at I
      refine vp _ _ _ _ _ _ _ _ _ _ _ _ _ _ _ _ _ _ _ _ _ _ _ (Br.of (λh=>by cases h) λ_ N3 O=>J y N3 (by omega) I (ho.mono (oB _) O))
    | some v=>have:=(tO hs).1;omega
  | succ n ih=>
    intro u y N' ac I ho hn J
    cases hs:xX g u with
    | none=>
      rw [hs] at I
      rw [tQ hs] at J
      refine vp _ _ _ _ _ _ _ _ _ _ _ _ _ _ _ _ _ _ _ _ _ _ _ (Br.of (λh=>by cases h) λ_ N3 O=>J y N3 (by omega) I (ho.mono (oB _) O))
    | some v=>
      rw [hs] at I
      have I:v.Is y:=I
      have h1:=(tO hs).1
      have h2:=s6 hs
      rw [zDP hs hn] at J
      refine vp _ _ _ _ _ _ _ _ _ _ _ _ _ _ _ _ _ _ _ _ _ _ _ (Br.of (λ_ N1 ab=>uv h hg aa I (by omega) a c N1 _ λx N2 ae hx ah _ _=>?_) λh=>by cases h)
      exact ih v x N2 (by omega) hx (ah.mono (by omega) (oB _)) (by omega) J
 refine zEH N a es c d Q λ_ _ N1 ab=>uv h hg aa ht hc a c N1 _ λx N2 ae hx ho _ _=>?_
 exact loop t.ops t x N2 (by omega) hx (ho.mono ab (oB _)) (oB _) J
theorem zPs {g:List Pm}:∀ (n:Nat) (t:Tm),(r5 g n t).cnt<=t.cnt+10000
 | 0,t=>by simp only [r5];omega
 | n + 1,t=>by
   cases hs:xX g t with
   | none=>rw [tQ hs];omega
   | some u=>
     have J:=s6 hs
     have O:∀ (m:Nat) (v:Tm),v.cnt<=10000->(r5 g m v).cnt<=10000:=by
      intro m
      induction m with
      | zero=>intro v I;exact I
      | succ m ih=>
        intro v I
        simp only [r5]
        split
        ·exact I
        ·rename_i w hw;exact ih w (s6 hw)
     have:=O n u J
     simp only [r5,hs]
     omega
end Go.Proofs.YtlahkdflngobiaaGreatDoor
set_option maxRecDepth 100000
namespace Go.Proofs.YtlahkdflngobiaaGreatDoor
open Go Go.Proofs Go.Proofs.Tryz Go.IntWalk
theorem zNt {g:List Pm} {v:List Nb}:∀ (n:Nat) (t:Tm),(r5 g n t).ev v=t.ev v
 | 0,t=>rfl
 | n + 1,t=>by
   cases hs:xX g t with
   | none=>rw [tQ hs]
   | some u=>
     obtain ⟨c,hc,J⟩:=zFI hs
     obtain ⟨O,h2⟩:=tS hc
     obtain ⟨_,_,_,I,_⟩:=zKv O
     have hw:fresh (zk g++t.nms)∉t.nms:=λh=>zQA (zk g++t.nms) (oG.2 (.inr h))
     have:=zUl h2 I hw v
     simp only [r5,hs]
     rw [zNt n u,J,this]
theorem zNX {g:List Pm}:∀ (n:Nat) (t:Tm),(r5 g n t).sz<=t.sz
 | 0,t=>oB _
 | n + 1,t=>by
   cases hs:xX g t with
   | none=>rw [tQ hs];exact oB _
   | some u=>
     have I:=zNX (g:=g) n u
     have J:=(tO hs).2
     simp only [r5,hs]
     omega
theorem zPm {g:List Pm} {t u:Tm} {ns:List Int} (h:∀ v,u.ev v=t.ev v) (I:(qR g t ns).2=true) (J:(qR g u ns).2=true):(qR g t ns).1=(qR g u ns).1:=by
 unfold qR at I J ⊢
 split at I
 ·split at I
  ·split at I
   ·rename_i a1 a2 a3
    rw [if_pos a1,if_pos a2,if_pos a3]
    rw [if_pos a2,if_pos a3] at J ⊢
    split at J
    ·rename_i O
     rw [if_pos O]
     exact (h _).symm
    ·cases J
   ·cases I
  ·cases I
 ·cases I
theorem zIg {m:Nat} {d e:D} (hd:Some m d) (J:Some m e):∀ x∈[d,e],Some m x:=λx I=>by
 simp only [oH,om,mB] at I
 rcases I with rfl | rfl<;>assumption
theorem zUR {s a b:ByteArray} (h:s∈[a,b]) (I:a.size<=1000) (J:b.size<=1000):s.size<=4611686018427387904:=by
 simp only [oH,om,mB] at h
 rcases h with rfl | rfl<;>omega
theorem zTr {es:List D} {i:Int} (aq:Cu es i) (a:Option Addr) (c:Nat) (h:Int) (N:Nat) (Q:QT [.sl 4,.ag 9,.sl 0,.i,.i])
  (hQ:∀ g a1 e1 c1 d a' ac c' i' h' N',N<=N'->Cu ac i'->Pms g e1->g.length<=4->(∀ x∈g,x.ty.cnt<=1)->Some 4096 d->Q a1 e1 c1 d a' ac c' i' h' N'):BCalls prog 96 [.sl 4,.ag 9,.sl 0,.i,.i] [.pb 0 0 0 0] [.var [.sv a 0 es c,.j i,.j h]] N Q:=by
 refine zCb N a es c i h Q λE _ N1 dj=>zNn aq a c h N1 _ λg e1 c1 a2 es2 c2 i2 h2 N2 dk au hg g1 g4 gc _ _ _=>⟨⟨rfl,rfl⟩,λa1 aw N3 dl ae=>?_⟩
 refine zFX hg (by omega) a1 c1 N3 _ λa3 e3 c3 N4 dm ax ay _=>⟨zMz aw ae ay,λ_ N5 dn=>xW N5 _ λy N6 dq hy _ _ _ N7 dr=>?_⟩
 refine xd au 2 (by omega) a2 c2 h2 N7 _ λx a4 dt c4 i4 h4 N8 du az x0 x1 _ _ _ N9 dv=>?_
 have x1:=x1 (by omega)
 rw [i64_in (2+x) (by omega)]
 refine zS8 3 (by omega) ax (by rw [vZ];omega) (.inl rfl) hy (2+x) (by omega) a3 c3 az a4 c4 h4 N9 _ λd1 a5 es5 c5 i5 h5 N10 cd ba I _ _ _ bb ce=>?_
 have I:Some 256 d1:=I.mono (by decide)
 refine rB (l:=[bytes [43],bytes [42]]) ba (by decide) (by decide) a5 c5 h5 2 2 bb _ λs a6 dw c6 i6 h6 dx cf bc hs _ _ _=>⟨⟨rfl,rfl⟩,λa7 ah bd cg aa=>?_⟩
 refine zFX hg (by omega) a7 c1 bd _ λa8 e8 c8 dz ch ai aj _=>⟨zMz ah aa aj,λ_ bg ci=>xW bg _ λy2 d8 cj bh _ _ _ bi ck=>?_⟩
 refine zS8 3 (by omega) ai (by rw [vZ];omega) (.inl rfl) bh 2 (by omega) a8 c8 bc a6 c6 h6 bi _ λd3 a9 d9 c9 i9 h9 ea cm bj ab _ _ _=>⟨⟨rfl,rfl⟩,λbm _ bn cn ak=>?_⟩
 have ab:Some 256 d3:=ab.mono (by decide)
 refine zT3 (zUR hs (by decide) (by decide)) (m:=256) (by omega) (zIg I ab) (by simp) bm 2 bn _ λd4 eb co J bp _=>⟨wW ak bp,λ_ bq cp=>?_⟩
 have J:Some 515 d4:=J.mono (by simp)
 refine zBA bj 2 (by omega) a9 c9 h9 bq _ λb bt cq bv ee bw ef cr O _ _=>Br.of (λ_=>⟨⟨rfl,rfl⟩,λbz _ b1 ct al=>?_⟩) λ_ b2 cw=>?_
 ·refine zT3 (s:=bytes [45]) (by decide) (m:=515) (by omega) (zIg J (I.mono (by omega))) (by simp) bz 2 b1 _ λd5 eg cx b3 b4 _=>⟨wW al b4,λ_=>⟨⟨rfl,rfl⟩,⟨rfl,rfl⟩,⟨rfl,rfl⟩,⟨rfl,rfl⟩,⟨rfl,rfl⟩,⟨rfl,rfl⟩,λei ej cy _=>⟨vV,λek cz=>?_⟩⟩⟩
  exact hQ g _ _ _ _ _ _ _ _ _ _ (by omega) O hg g4 gc (b3.mono (by simp))
 ·refine rB (l:=[bytes [117],bytes [120]]) O (by decide) (by decide) bt bv bw 2 2 b2 _ λs2 em c0 eo ep eq er c7 am b5 _ _ _=>⟨⟨rfl,rfl⟩,λb6 _ b7 da ao=>?_⟩
  refine zT3 (s:=bytes [43]) (by decide) (m:=256) (by omega) (zIg I I) (by simp) b6 2 b7 _ λd6 et db b8 b9 _=>⟨wW ao b9,λ_ ca de=>?_⟩
  refine zUL (zUR b5 (by decide) (by decide)) (m:=515) (by omega) J (b8.mono (by simp)) ca _ λd7 eu df cc _ _=>⟨⟨rfl,rfl⟩,⟨rfl,rfl⟩,⟨rfl,rfl⟩,⟨rfl,rfl⟩,⟨rfl,rfl⟩,⟨rfl,rfl⟩,λew ey dh _=>⟨vV,λe2 di=>?_⟩⟩
  exact hQ g _ _ _ _ _ _ _ _ _ _ (by omega) am hg g4 gc (cc.mono (by omega))
/-- what FnShared draws -/
theorem zS6 {es:List D} (hb:∀ d∈es,∃ n:Int,d=.lit (.int .u8 n)) (hl:es.length<=1073741824) (a:Option Addr) (c:Nat) (N:Nat) (Q:QT [.sl 4,.ag 9])
  (hQ:∀ g a1 e1 c1 d N',N<=N'->Pms g e1->g.length<=4->(∀ x∈g,x.ty.cnt<=3)->Some 4096 d->Q a1 e1 c1 d N'):ACalls prog 18 [.sl 4,.ag 9] [.sv a 0 es c] N Q:=by
 refine zAX N a es c Q λ_ N1 aj=>zHA N1 a es c _ λ_ N2 ak=>zUu hb hl a c N2 _ λh N3 al J _ N4 am=>?_
 refine zBA J 4 (by omega) a c h N4 _ λb a1 ao c1 i1 h1 N5 aq I _ _=>Br.of (λ_ O aa=>zSM I a1 c1 h1 O _ λg a2 e2 c2 d a3 ab c3 i3 h3 N7 ac ae hg g4 gc hd _ _ _ _ N8 ah _ _ _ N9 ai=>?_) λ_ O aa=>zTr I a1 c1 h1 O _ λg a2 e2 c2 d a3 ab c3 i3 h3 N7 ac ae hg g4 gc hd _ _ _ _ N8 ah _ _ _ N9 ai=>?_
 ·exact hQ g _ _ _ _ _ (by omega) hg g4 gc hd
 ·exact hQ g _ _ _ _ _ (by omega) hg g4 (λx hx=>oZ (gc x hx) (by omega)) hd
theorem zPG {es:List D} (J:∀ d∈es,∃ n:Int,d=.lit (.int .u8 n)) (O:es.length<=1073741824) (a:Option Addr) (c:Nat) (N:Nat) (Q:QT [.ag 9])
  (hQ:∀ d N',N<=N'->Some 1000 d->Q d N'):ACalls prog 21 [.ag 9] [.sv a 0 es c] N Q:=by
 refine zCD N a es c Q λ_ N1 aa=>zUu J O a c N1 _ λh N2 ab I _ N3 ac=>?_
 exact zQB I a c h N3 _ λd a1 ae c1 i1 h1 N4 ah _ hd _ _ _ N5 ai=>hQ d N5 (by omega) hd
theorem zMs {l:List Tm} {es fs:List D} (J:All2 Tm.Is l es) (O:All2 Tm.Is l fs) (hlen:es.length<=4611686018427387904) (a b:Option Addr) (c c':Nat):uN 24 [.sv a 9 es c,.sv b 9 fs c'] true:=λN Q hQ=>by
 have hl:=J.len
 have ah:=O.len
 have key:=up J hlen (λi xs=>∀ (N':Nat),N<=N'->wE Q N a es c b fs c' i N') ?_ ?_
 ·exact zEG N _ _ _ _ _ _ Q λ_ _=>Br.bne (λh=>absurd (show (es.length:Int)=fs.length by omega) h) λ_=>key N (oB _)
 ·intro i aa hi N' ab
  refine sF _ _ _ _ _ _ _ _ _ _ ?_
  rw [aa]
  exact λN2 ac=>hQ _ (by omega)
 ·intro i x xs I _ ae N' ab
  have hb:=I.b
  refine sF _ _ _ _ _ _ _ _ _ _ ?_
  rw [I.lt,I.w,oK]
  refine ⟨⟨by omega,by omega⟩,⟨by omega,by omega⟩,λN1 ai=>xj _ _ _ _ I.r (O.get I.g) N1 _ λN2 ac _=>?_⟩
  rw [pL]
  exact Br.not (λh=>by cases h) λ_=>ae _ (by omega)
/-- 0 and 1 in turn -/
def zQx (n:Nat):List Int:=(List.range n).map λ(i:Nat)=>Int.tmod (i:Int) 2
theorem zNb (n:Nat):(zQx n).length=n:=by simp [zQx]
theorem zQT (n:Nat):zAa (zQx n)++[D.j (Int.tmod (n:Int) 2)]=zAa (zQx (n+1)):=by
 simp [zQx,zAa,List.range_succ]
theorem zOA {es:List D} (hb:∀ d∈es,∃ n:Int,d=.lit (.int .u8 n)) (a:Option Addr) (c:Nat) (N:Nat) :
  ACalls prog 4 [.bool] [.sv a 0 es c] N (λr _=>r=true):=by
 refine zFW N a es c _ λ_ N1 c0=>zNy N1 a es c _ λ_ N2 c3 _=>Br.dec (λ_ N3 _=>rfl) λhlen N4 c4=>?_
 refine zS6 hb (by omega) a c N4 _ λg a1 e1 c1 d N5 c9 J g4 gc hd _ _ _ N6 da=>?_
 obtain ⟨t,ht,db⟩:=hd
 have ac:∀ x∈g,x.ty.cnt<=1073741824:=λx hx=>oZ (gc x hx) (by omega)
 have g2:g.length<=1073741824:=by omega
 have t1:t.cnt<=536870000:=by omega
 have t2:t.cnt<=1048576000 / 2:=by omega
 have de:=zPs (g:=g) t.ops t
 have df:=zNX (g:=g) t.ops t
 have ak:=λv=>zNt (g:=g) (v:=v) t.ops t
 refine zD6 J g2 ac ht t2 a1 c1 N6 _ λx1 N7 dh ae _ _ _ N8 di=>?_
 refine uv J g2 ac ht t2 a1 c1 N8 _ λx2 N9 dj al _ _ _ N10 bw=>?_
 refine w8 J g2 ht t1 a1 c1 N10 _ λx3 dk bz am _ _ _ ao b1=>?_
 refine sq J g2 ac ht t2 a1 c1 ao _ λa2 es2 c2 dl b2 I _ _ _ aq b3=>?_
 refine zPG hb (by omega) a c aq _ λd4 dm b4 au _ _ aw b5=>?_
 obtain ⟨u,hu,dn⟩:=au
 refine zEP J g2 ht t1 a1 c1 aw _ λx5 dq b6 ax _ _ _ ay b7=>?_
 refine xj _ _ _ _ ae ax ay _ λdr b8 _=>?_
 rw [pL]
 refine Br.not (λh=>by cases h) λ_=>Br.of (λh=>by simp at h) λ_ az b9=>?_
 refine xj _ _ _ _ al am az _ λdt ca _=>?_
 rw [pL]
 refine Br.not (λh=>by cases h) λ_ ba cc=>?_
 refine rJ J g2 ht t1 a1 c1 ba _ λa5 es5 c5 du cd O _ _ _ bb ce=>?_
 have I:All2 Tm.Is (um g t) es2:=I
 have O:All2 Tm.Is (um g t) es5:=O
 have aa:=I.len
 have cf:(um g t).length<=4096:=by
  unfold um
  have h1:=zKr (qf (zk g) [] t)
  have h2:=zAR (zk g) t []
  have h3:=sz_cnt t
  split
  ·omega
  ·simp
 refine zMs I O (by omega) a2 a5 c2 c5 bb _ λdv cg _=>Br.not (λh=>by cases h) λ_=>?_
 have ah:((xX g t).isSome==decide ((es2.length:Int)>0))=true:=by
  cases ab:um g t with
  | nil=>
    rw [ab] at aa
    rw [zDi ab]
    have he:es2.length=0:=aa
    have:¬(es2.length:Int)>0:=by omega
    rw [mM this];rfl
  | cons x l=>
    rw [ab] at aa
    rw [zBE ab]
    have he:es2.length=l.length+1:=aa
    have:(es2.length:Int)>0:=by omega
    rw [mF this];rfl
 rw [ah]
 refine Br.not (λh=>by cases h) λ_ bc ch=>?_
 have dw:=zDA u
 refine zAv u d4 hu (by omega) bc _ λa6 c6 dx ci _ _ _ bd cj=>?_
 refine zBB u d4 hu (by omega) bd _ λa7 c7 dz ck _ _ _ bg cm=>?_
 refine zMT u.nms (by omega) a6 a7 c6 c7 bg _ λd8 cn _=>Br.not (λh=>by cases h) λ_ bh co=>?_
 refine wu _ x1 ae (by omega) bh _ λd9 cp _ bi cq=>wu t d ht (by omega) bi _ λbj cr _=>Br.dec (λh=>by omega) λ_=>?_
 have ea:=J.all.len
 refine up J.all J.len (λi xs=>∀ (q N':Nat),N<=N'->wI _ N a1 e1 c1 (zAa (zQx i)).length q i d x1 (zAa (zQx i)) q N') ?_ ?_ 0 bj (by omega)
 ·intro i bm hi q N' aj
  refine sG _ _ _ _ _ _ _ _ _ _ _ _ _ ?_
  rw [bm]
  have bn:=zNb i
  refine ⟨⟨rfl,rfl⟩,λa8 _ _ _ bp ct _=>?_⟩
  refine p6 J (by omega) ht (by omega) (zQx i) (by omega) a1 a8 c1 q bp _ λeb cw _=>⟨⟨rfl,rfl⟩,λa9 _ _ _ bq cx _=>?_⟩
  refine p6 J (by omega) ae (by omega) (zQx i) (by omega) a1 a9 c1 q bq _ λee cy _=>Br.not (λ_ ef _=>rfl) λah=>Br.not (λ_ eg _=>rfl) λbt ei cz=>?_
  rw [zPm ak ah bt]
  simp
 ·intro i x xs ai _ bv q N' aj
  have ej:=ai.b
  have bn:=zNb i
  have ek:=zGb (zQx i)
  refine sG _ _ _ _ _ _ _ _ _ _ _ _ _ ?_
  rw [ai.lt,ai.w]
  refine ⟨by decide,⟨rfl,rfl⟩,by unfold zB;rw [oE];simp only [oJ,oM];omega,λc8=>?_⟩
  rw [zQT]
  exact bv c8 N' aj
end Go.Proofs.YtlahkdflngobiaaGreatDoor
