/- ShareOnce and ShareBody: the reference's and the program's. -/
import Derived.Test.YtlahkdflngobiaaGreatDoorC5
import Derived.Test.YtlahkdflngobiaaGreatDoorB3
import Derived.Test.YtlahkdflngobiaaGreatDoorB2
import Derived.Test.YtlahkdflngobiaaGreatDoorKd
set_option linter.unusedVariables false
set_option linter.unusedSimpArgs false
namespace Go.Proofs.YtlahkdflngobiaaGreatDoor
open Go Go.Proofs Go.Proofs.Tryz Go.IntWalk
mutual
/-- a term's types are small -/
theorem zP7:∀ t:Tm,t.ok=true->t.cnt<=61*t.sz
 | .mk k nm ot n ty re l,h=>by
   simp only [Tm.ok,oL] at h
   obtain ⟨O,I,h3⟩:=h
   have z1:∀ t:Ty,t.zero=true->t.cnt<=30:=λt J=>by
    cases t with
    | mk k l=>
    simp only [Ty.zero,Ty.k,Ty.as,oL,mP] at J
    have:l=[]:=oM (by omega)
    subst this
    simp [Ty.cnt,zI]
   have v1:∀ t:Ty,t.valid=true->t.cnt<=30:=λt J=>by
    simp only [Ty.valid,oL,nC] at J
    exact J.1.1
   simp only [xF,oL,mP,mD] at I
   have aa:ty.cnt<=30:=by
    rcases I.2.1 with h | h
    ·exact v1 _ (by rw [<-I.1,h])
    ·exact z1 _ h
   have ab:re.cnt<=30:=by
    rcases I.2.2.2.1 with h | h
    ·exact v1 _ (by rw [<-I.2.2.1];simpa using h)
    ·exact z1 _ h
   have:=zM6 l O
   simp only [Tm.cnt,Tm.sz];omega
theorem zM6:∀ l:List Tm,zDq l=true->zh l<=61*uH l
 | [],_=>by simp [zh]
 | x::xs,h=>by
   simp only [zDq,oL] at h
   have O:=zP7 x h.1
   have I:=zM6 xs h.2
   simp only [zh,uH];omega
end
theorem zNW {g:List Pm} {t u:Tm} (h:u3 g t=some u):u.cnt<=10000:=by
 obtain ⟨c,hc,rfl⟩:=zOX h
 obtain ⟨I,J⟩:=zAh hc
 obtain ⟨_,h3,_,O,_⟩:=zPR I
 have h5:=zP7 t O
 have h6:=pj (zw g) t [] c (zBU J)
 have h7:=zRI (ps:=zw g) (c:=c) (t:=t) (w:=fresh (zw g++t.nms))
 omega
/-- a term of one's own, and whether it was shared -/
def zTp (f:FuncId) (args:List PV) (t:Tm) (b:Bool):Prop:=∀ (N:Nat) (Q:QT [.ag 9,.bool]),(∀ d N',N<=N'->t.Is d->Own N N' d->Q d b N')->ACalls prog f [.ag 9,.bool] args N Q
theorem zKK {l:List ByteArray} (h:l.length<=8796093022208):(fresh l).size<=4611686018427387904:=by
 obtain ⟨k,e,_,I,_,_⟩:=zC0 l
 rw [e]
 have:=zNu k (by omega)
 omega
theorem zLJ {l:List Tm} {t:Tm} {es:List D} (h:All2 Tm.Is (t::l) es):∃ d ds,es=d::ds/\t.Is d/\All2 Tm.Is l ds:=h
theorem zNa {N N':Nat} {d:D} {ds:List D} (h:OwnL N N' (d::ds)):Own N N' d:=by
 have J:=h.nd
 simp only [zB,oc] at J
 exact ⟨J.1,h.fl.1,λb I=>h.lo b (by simp only [zB,oF];exact .inl I),λb I=>h.hi b (by simp only [zB,oF];exact .inl I)⟩
theorem zHe {g:List Pm} {t:Tm} (h:qC g t=[]):u3 g t=none:=by unfold u3;rw [h]
theorem zEi {g:List Pm} {t c:Tm} {l:List Tm} (h:qC g t=c::l):u3 g t=some (zSV (zw g) c (fresh (zw g++t.nms)) t):=by unfold u3;rw [h]
theorem zDs {g:List Pm} {es:List D} (h:Pms g es) (hg:g.length<=1073741824) {t:Tm} {d:D} (ht:t.Is d) (hc:t.cnt<=536870000) (a:Option Addr) (c:Nat) :
  zTp 8 [.sv a 4 es c,.dg 9 d] ((u3 g t).getD t) (u3 g t).isSome:=λN Q hQ=>by
 have hG:=Tm.G_cnt t (by omega)
 refine zDu N a es c d Q λ_ _ N1 bm=>zCr h hg ht hc a c N1 _ λa1 e1 c1 N2 bn I _ _ _=>?_
 have I:All2 Tm.Is (qC g t) e1:=I
 cases J:qC g t with
 | nil=>
   rw [J] at I
   have bp:e1.length=0:=I.len
   rw [zHe J] at hQ
   refine Br.beq (λ_ N3 bq=>zI7 t d ht hG N3 _ ?_) λh=>by omega
   cases t with
   | mk k nm ot n0 ty re l=>
   intro x4 x5 x6 x7 bt c2 N4 bv aj O ak _ _
   have bw:=O.len
   have bz:=hG.2.2.1
   refine ⟨⟨rfl,rfl⟩,⟨rfl,rfl⟩,λa2 N5 b1 hf N6 al=>?_⟩
   exact hQ _ _ (by omega) (Tm.is_mk.2 ⟨_,_,_,_,_,_,_,rfl,aj,by omega,O⟩) ((zBs (ak.mono (by omega) (oA _)) hf (by omega)).mono (oA _) al)
 | cons x rest=>
   rw [J] at I
   obtain ⟨dx,ds,rfl,hx,_⟩:=zLJ I
   have am:x∈qC g t:=by rw [J];simp
   obtain ⟨_,ab⟩:=zAh am
   obtain ⟨_,_,br,ac⟩:=zQf (w:=fresh (zw g++t.nms)) ab
   have b2:=pj (zw g) t [] x (zBU ab)
   have b3:=tC g
   have b4:=zE0 t
   have b5:=uL (zw g) t.nms
   rw [zEi J] at hQ
   have ae:fresh (sV (zw g) t.nms)=fresh (zw g++t.nms):=zQe λs=>by rw [zJb,oF]
   have aa:(fresh (zw g++t.nms)).size<=4611686018427387904:=zKK (by rw [oE];omega)
   generalize hw:fresh (zw g++t.nms)=w at hQ ae aa
   refine Br.beq (λh=>by rw [oK] at h;omega) λ_ N7 b6=>zHU h hg a c N7 _ λa2 c2 N8 b7 _ _ N9 b8=>?_
   refine zGv t d ht (by omega) N9 _ λa3 c3 N10 a8 _ _ _ ao ba=>?_
   refine wO (zw g) t.nms (by omega) (by omega) a2 a3 c2 c3 ao _ λc4 b9 bb _ _=>⟨⟨rfl,rfl⟩,λa4 _ aq bc _=>?_⟩
   refine zDn _ (by omega) a4 c4 aq _ λca bd _=>?_
   rw [ae]
   refine ⟨⟨by omega,by simp⟩,⟨by omega,by simp⟩,⟨rfl,rfl⟩,λa5 _ _ _ au bg aw=>?_⟩
   refine zQT hx aa t d ht (by omega) [] (by simp;omega) a5 0 au _ λd4 cc bh ax ay _=>⟨rg aw ay,λ_ az bi=>?_⟩
   have cd:(zQC x w [] t).cnt<=t.cnt:=by rw [<-zLb ac t []];exact zLf t []
   refine zR6 w aa x _ dx d4 hx ax (by omega) (by omega) az _ λd5 ce bj ah a6 _ _ a7 ai=>?_
   refine hQ d5 a7 (by omega) ?_ (a6.mono (by omega) ai)
   rw [<-zLb ac t []] at ah
   exact ah
theorem zDY {g:List Pm} {es:List D} (h:Pms g es) (hg:g.length<=1073741824) (ai:∀ x∈g,x.ty.cnt<=1073741824) {t:Tm} {d:D} (ht:t.Is d) (hc:t.cnt<=1048576000 / 2) (a:Option Addr) (c:Nat) :
  zTp 11 [.sv a 4 es c,.dg 9 d] ((u3 g t).getD t) (u3 g t).isSome:=λN Q hQ=>by
 have hG:=Tm.G_cnt t (by omega)
 refine zDZ N a es c d Q λ_ _ N1 aj=>zCE h hg ai ht hc a c N1 _ λa1 e1 c1 N2 bw I J _ _=>?_
 have I:All2 Tm.Is (qC g t) e1:=I
 have J:=J rfl
 cases O:qC g t with
 | nil=>
   rw [O] at I
   have bz:e1.length=0:=I.len
   rw [zHe O] at hQ
   refine Br.beq (λ_ N3 b1=>zR2 t d ht hG N3 _ ?_) λh=>by omega
   cases t with
   | mk k nm ot n0 ty re l=>
   intro x4 x5 x6 x7 b2 c2 N4 b3 ak aa al _ _
   have b4:=aa.len
   have b5:=hG.2.2.1
   refine ⟨⟨rfl,rfl⟩,⟨rfl,rfl⟩,λa2 N5 b6 hf N6 am=>?_⟩
   exact hQ _ _ (by omega) (Tm.is_mk.2 ⟨_,_,_,_,_,_,_,rfl,ak,by omega,aa⟩) ((zBs (al.mono (by omega) (oA _)) hf (by omega)).mono (oA _) am)
 | cons x rest=>
   rw [O] at I
   obtain ⟨dx,ds,rfl,hx,_⟩:=zLJ I
   have ao:x∈qC g t:=by rw [O];simp
   obtain ⟨_,aq⟩:=zAh ao
   have b7:=pj (zw g) t [] x (zBU aq)
   have b8:=tC g
   have b9:=zE0 t
   have au:=zFq J
   rw [zEi O] at hQ
   have ac:(fresh (zw g++t.nms)).size<=4611686018427387904:=zKK (by rw [oE];omega)
   have ab:zLL [zw g,t.nms]=zw g++t.nms:=by simp [zLL]
   generalize hw:fresh (zw g++t.nms)=w at hQ ac
   refine Br.beq (λh=>by rw [oK] at h;omega) λ_ N7 ca=>qd h hg a c N7 _ λa2 c2 N8 cc _ _ N9 cd=>?_
   refine zGY t d ht (by omega) N9 _ λa3 c3 N10 bj _ _ _=>⟨⟨rfl,rfl⟩,λa4 _ aw bm ax=>?_⟩
   have ay:All2 IsW [zw g,t.nms] [.sl a2 0 (zA (zw g)) c2,.sl a3 0 (zA t.nms) c3]:=⟨_,_,rfl,⟨_,_,rfl⟩,_,_,rfl,⟨_,_,rfl⟩,rfl⟩
   refine zMf ay (by simp) (by rw [ab,oE];omega) a4 2 aw _ λa5 c5 ce bn az _=>⟨rg ax az,λ_ a7 bp=>?_⟩
   rw [ab]
   refine zD8 _ (by rw [oE];omega) a5 c5 a7 _ λcf bq _=>?_
   rw [hw]
   refine ⟨⟨by omega,by simp⟩,⟨by omega,by simp⟩,λa8 bt=>?_⟩
   refine zQr hx ac (ps:=zw g) (by omega) t d ht (by omega) [] (by simp;omega) a2 none c2 0 a8 _ λd4 ba bv bb bc _ _=>⟨⟨rfl,rfl⟩,⟨rfl,rfl⟩,⟨rfl,rfl⟩,⟨rfl,rfl⟩,⟨rfl,rfl⟩,λa6 bd ae hf cg ah=>?_⟩
   have bg:OwnL N N2 [dx]:=(zo (zNa au)).mono aj (oA _)
   have bh:OwnL N ba [dx,d4]:=zm bg (zo (bc.mono (by omega) (oA _))) (N1:=N2) (by omega) (by omega)
   refine hQ _ _ (by omega) (Tm.is_mk.2 ⟨_,_,_,_,_,_,_,rfl,⟨ac,by decide,vL 0,vL 0⟩,by simp,zMx hx bb⟩) ?_
   have bi:Own N bd (.sl a6 9 [dx,d4] 2):=tX bh hf ae
   exact (sq (zR (zR (zR (zR (zR (zCd (zR (zCd (zo bi)))))))))).mono (oA _) ah
theorem zKp {m:Nat}:∀ {g:List Pm},(∀ x∈g,x.ty.cnt<=m)->zC1 g<=g.length*m
 | [],_=>by simp [zC1]
 | x::g,h=>by
   have J:=zKp (g:=g) λy I=>h y (by simp [I])
   have O:=h x (by simp)
   simp only [zC1,oK,nO,Nat.one_mul]
   omega
/-- the law FnExactShareOnce: for all data it answers true -/
theorem zIE {g:List Pm} {es:List D} {t:Tm} {d:D} (aj:Pms g es) (he:t.Is d) (a:Option Addr) (c:Nat) (N:Nat) :
  ACalls prog 3 [.bool] [.sv a 4 es c,.dg 9 d] N (λr _=>r=true):=by
 refine rP N a es c d _ λbc bd N1 ef=>?_
 refine zNd aj a c 1048576 (by omega) (by omega) N1 _ λr N2 eg hr _=>Br.dec (λ_ N3 _=>rfl) λci N4 ei=>?_
 obtain ⟨ej,ek,ax,am⟩:=hr.resolve_left (by omega)
 refine zQQ t d he r (by omega) (by omega) N4 _ λr2 N5 eo ay _=>Br.dec (λ_ N6 _=>rfl) λbg N7 ep=>?_
 obtain ⟨eq,er,bh⟩:=ay.resolve_left (by omega)
 have bh:t.cnt<=3145731:=by omega
 have ax:g.length<=1048576:=by omega
 have am:∀ x∈g,x.ty.cnt<=1048577:=λx hx=>by have:=am x hx;omega
 have ac:∀ x∈g,x.ty.cnt<=1073741824:=λx hx=>by have:=am x hx;omega
 have et:zC1 g<=1048576*1048577:=oe (zKp am) (nY _ ax)
 have aa:g.length<=1073741824:=by omega
 have ai:t.cnt<=1073741824:=by omega
 have az:t.cnt<=536870000:=by omega
 have a6:t.cnt<=1048576000 / 2:=by omega
 clear hr ay
 refine ph aj aa ac a c N7 _ λa1 eu c1 N8 ev a7 cj _ _ N9 ew=>?_
 refine zEL t d he ai N9 _ λd1 N10 ck bi cm _ _ bj cn=>?_
 have bm:((u3 g t).getD t).cnt<=t.cnt+10000:=by
  cases hs:u3 g t with
  | none=>show t.cnt<=_;omega
  | some u=>have:=zNW hs;show u.cnt<=_;omega
 have ah:=zDs a7 aa bi az a1 c1
 have ab:=λ(ao:List D) (d2:D) (ae:Pms g ao) (ak:t.Is d2) a2 c2=>zDY ae aa ac ak a6 a2 c2
 generalize (u3 g t).getD t=o at ah ab bm
 generalize (u3 g t).isSome=b at ah ab
 refine ah bj _ λw0 ey co aq _ _ au bn cp=>?_
 refine ph aj aa ac a c bn _ λa2 ao c2 e2 cq ae I _ _ bp cr=>?_
 refine zEL t d he ai bp _ λd2 e3 ct ak J _ _ bq cw=>?_
 refine ab ao d2 ae ak a2 c2 bq _ λg0 e4 cx aw O _ _ bt cy=>?_
 refine zEH _ g0 w0 aw aq bt _ λe5 cz _=>Br.of (λh=>by simp at h) λ_=>Br.of (λh=>by simp at h) λ_ bv c0=>?_
 refine ph aj aa ac a c bv _ λa3 e6 c3 e7 c4 a8 _ _ _ bw c6=>?_
 refine zOB ae a8 a2 a3 c2 c3 bw _ λe8 c7 _=>Br.of (λh=>by simp at h) λ_ bz c8=>?_
 refine zEL t d he ai bz _ λd4 e9 c9 b1 _ _ _ b2 da=>?_
 refine zEH t d2 d4 ak b1 b2 _ λfa db _=>Br.of (λh=>by simp at h) λ_=>?_
 have B0:∀ M,N<=M->Bel M (.sl a 4 es c):=λM h=>bc.mono h
 have B1:∀ M,N<=M->Bel M d:=λM h=>bd.mono h
 have d53:=zIM I O (by omega)
 have d54:=zIM J O (by omega)
 have d34:=zIM I J (by omega)
 refine ⟨I.tree,I.low (by omega),⟨λx hx=>?_⟩,λb3 de=>?_⟩
 ·simp only [oJ,nK,mm] at hx
  rcases hx with rfl | rfl | rfl | rfl | rfl
  ·exact uj I (B0 _ (by omega))
  ·exact uj I (B1 _ (by omega))
  ·exact uj I (au.mono (by omega))
  ·exact d34
  ·exact d53
 refine zJr ae a2 c2 I.tree 1 (by omega) (by omega) b3 _ λba k5 fb df fc fd fe dh _=>?_
 refine ⟨J.tree,J.low (by omega),rfl,⟨λx hx=>?_⟩,λb4 di=>?_⟩
 ·simp only [oJ,nK,mm] at hx
  rcases hx with rfl | rfl | rfl | rfl
  ·exact uj J (B0 _ (by omega))
  ·exact uj J (B1 _ (by omega))
  ·exact uj J (au.mono (by omega))
  ·exact d54
 refine zNp ak J.tree k5 (by omega) (by omega) b4 _ λd6 k6 ff dj b5 fg dk _=>Br.dec (λh=>by omega) λ_ b6 dl=>?_
 refine zEH _ g0 w0 aw aq b6 _ λfh dm _=>Br.of (λh=>by simp at h) λ_=>Br.of (λh=>by simp at h) λ_=>?_
 refine ⟨O.tree,O.low (by omega),rfl,⟨λx hx=>?_⟩,λb7 dn=>?_⟩
 ·simp only [oJ,nK,mm] at hx
  rcases hx with rfl | rfl | rfl | rfl
  ·exact uj O (B0 _ (by omega))
  ·exact uj O (B1 _ (by omega))
  ·exact uj O (au.mono (by omega))
  ·rw [b5];exact λb hb hc=>d54 b hc hb
 refine zEl aw O.tree 1 (by omega) (by omega) b7 _ λg1 fi dq b8 fj _ b9 dr=>?_
 have fk:=o.mkk_k 1
 have al:=zLd _ 1 g1 b8 (by omega) (by omega)
 refine al b9 _ λfm dt _=>Br.dec (λh=>by omega) λ_=>Br.bne (λh=>absurd rfl h) λ_ ca du=>?_
 refine ph aj aa ac a c ca _ λa5 ba c5 fo dv bb _ _ _ cc dw=>?_
 refine zEL t d he ai cc _ λd7 fp dx cd _ _ _ ce dz=>?_
 refine ab ba d7 bb cd a5 c5 ce _ λg2 fq d3 cf _ _ _ cg d8=>?_
 refine zEH _ g2 w0 cf aq cg _ λfu d9 _=>Br.of (λh=>by simp at h) λ_=>Br.of (λh=>by simp at h) λ_ ch ea=>?_
 exact al ch _ λfw eb _=>Br.dec (λh=>by omega) λ_=>Br.bne (λh=>absurd rfl h) λ_ fy ee=>rfl
end Go.Proofs.YtlahkdflngobiaaGreatDoor
