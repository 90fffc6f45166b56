/- The text of a mark. -/
import Derived.Test.YtlahkdflngobiaaGreatDoorA4
set_option linter.unusedVariables false
set_option linter.unusedSimpArgs false
namespace Go.Proofs.YtlahkdflngobiaaGreatDoor
open Go Go.Proofs Go.Proofs.Tryz Go.IntWalk
def zSE:Nat->Int->ByteArray->ByteArray
 | 0,_,s=>s
 | n+1,k,s=>if k>0 then zSE n (IntKind.i64.wrap (Int.tdiv k 10)) (bytesOf [IntKind.u8.wrap (IntKind.i64.wrap (48+Int.tmod k 10))]++s) else s
/-- the text of a mark -/
def rp (k:Int):ByteArray:=if k<=0 then bytes [109,48] else bytes [109]++zSE k.toNat k (bytes [])
theorem rn (k:Int) (h0:0<=k) (h1:k<=4611686018427387904):∀ (N:Nat) (Q:QT [.str]),(∀ N',N<=N'->Q (rp k) N')->ACalls prog 51 [.str] [.j k] N Q:=λN Q hQ=>by
 have key:∀ (n:Nat) (k:Int) (s:ByteArray) (N':Nat),k.toNat<=n->0<=k->(s.size:Int)+k<=4611686018427387904->N<=N'->(∀ N'',N'<=N''->Q (bytes [109]++zSE n k s) N'')->xO Q N k s N':=by
  intro n
  induction n with
  | zero=>
    intro k s N' hn hk hs O I
    refine wU _ _ _ _ _ (Br.dec (λh=>?_) λ_=>⟨by omega,λN1 J=>I _ (by omega)⟩)
    omega
  | succ n ih=>
    intro k s N' hn hk hs O I
    refine wU _ _ _ _ _ (Br.dec (λh=>?_) λh=>⟨by omega,λN1 J=>by have:=I N1 (by omega);rwa [zSE,if_neg h] at this⟩)
    rw [zSE,if_pos h] at I
    have hd:Int.tdiv k 10=k / 10:=mv hk
    refine ⟨by decide,by simp,[_],rfl,?_,by decide,?_⟩
    ·show 1+s.size<=_
     omega
    ·rw [hd,i64_in _ (by omega)]
     rw [hd,i64_in _ (by omega)] at I
     refine ih _ _ _ (by omega) (by omega) ?_ O I
     rw [mW]
     show ((1+s.size:Nat):Int)+_<=_
     omega
 refine qu N k Q (Br.dec (λh N1 J=>by have:=hQ N1 J;rwa [rp,if_pos h] at this) λh=>?_)
 rw [rp,if_neg h] at hQ
 exact key k.toNat k _ N (oA _) h0 (by show ((0:Nat):Int)+_<=_;omega) (oA _) λN'' h2=>hQ N'' h2
theorem zKk:∀ (n:Nat) (k:Int) (s:ByteArray),(zSE n k s).size<=n+s.size
 | 0,k,s=>by simp [zSE]
 | n+1,k,s=>by
   rw [zSE]
   split
   ·refine oe (zKk n _ _) ?_
    rw [mW]
    have:(bytesOf [IntKind.u8.wrap (IntKind.i64.wrap (48+Int.tmod k 10))]).size=1:=rfl
    omega
   ·omega
theorem zHQ (k:Int):(rp k).size<=k.toNat+2:=by
 unfold rp
 split
 ·show 2<=_;omega
 ·rw [mW]
  have:=zKk k.toNat k (bytes [])
  have e:(bytes []).size=0:=rfl
  have I:(bytes [109]).size=1:=rfl
  omega
def y9:List Tm->Int->List Tm × Int
 | [],k=>([],k)
 | .mk _ _ _ _ ty re l::ts,k=>
   (.mk k (rp (k+1)) (rp (k+1+1)) (k+1+1+1) (.mk (k+1+1+1+1) (ze ty.as (k+1+1+1+1+1)).1) (.mk (ze ty.as (k+1+1+1+1+1)).2 (ze re.as ((ze ty.as (k+1+1+1+1+1)).2+1)).1)
     (y9 l (ze re.as ((ze ty.as (k+1+1+1+1+1)).2+1)).2).1 ::
    (y9 ts (y9 l (ze re.as ((ze ty.as (k+1+1+1+1+1)).2+1)).2).2).1,(y9 ts (y9 l (ze re.as ((ze ty.as (k+1+1+1+1+1)).2+1)).2).2).2)
theorem zCb:∀ (l:List Tm) (k:Int),k<=(y9 l k).2/\(y9 l k).2<=k+4*zh l
 | [],k=>by simp [y9,zh]
 | .mk _ _ _ _ (.mk J tl) (.mk O rl) l::I,k=>by
   simp only [y9,zh,Tm.cnt,Ty.cnt,Ty.as,wb]
   have h1:=zCb l (k+1+1+1+1+1+zI tl+1+zI rl)
   have h2:=zCb I (y9 l (k+1+1+1+1+1+zI tl+1+zI rl)).2
   omega
theorem zKs:∀ (l:List Tm) (k:Int),(y9 l k).1.length=l.length
 | [],k=>by simp only [y9]
 | .mk _ _ _ _ ty re l::I,k=>by simp only [y9,oK,zKs I]
set_option maxHeartbeats 4000000
set_option maxRecDepth 100000
mutual
theorem zDX:∀ (l:List Tm) (es:List D),zD0 l es->∀ (a:Option Addr) (c:Nat),Tree (.sl a 9 es c)->es.length<=4611686018427387904->∀ (k:Int),0<=k->k+4*zh l<=4611686018427387904->∀ (N:Nat) (R:D->Int->Nat->Prop),
  (∀ es' N',N<=N'->zD0 (y9 l k).1 es'->zB es'=zB es->es'.length=es.length->R (.sl a 9 es' c) (y9 l k).2 N')->MC prog 54 (.sl a 9 es c) k N R
 | l, es,bc,a,c,ak,hlen,k,hk,bp,N,R,hR=>by
   by_cases ao:es=[]
   ·subst ao
    have hl:l=[]:=by have:=(rm.1 bc).len;simp at this;exact oM this.symm
    subst hl
    refine zOe (zD1 N a [] c k _ λ_=>zBg _ _ _ _ _ _ _ _ (Br.of (λhc=>?_) λ_ N2 bd=>?_))
    ·simp at hc
    ·have:=hR [] N2 bd (by simp [y9,zD0]) rfl rfl
     simpa only [y9] using this
   ·cases a with
    | none=>exact zMU (by kernel_rfl) ao
    | some ad=>
      have ah:=ak.nd
      have J:(D.sl (some ad) 9 es c).foot=ad.block::zB es:=by simp [D.foot,ao]
      rw [J] at ah
      refine zEG N ad es c k R (λk' x N'=>N<=N'/\∃ es',x=.ag es'/\es'.length=es.length/\zB es'=zB es/\All2 Tm.Is (y9 l k).1 es'/\k'=(y9 l k).2) ak ao (by unfold maxLen;omega) (λt=>?_) ?_
      ·have:=zKq l es bc [] [] rfl es rfl (nG.1 ah).2 ak.fl.2 hlen (D.sl (some ad) 9 es c).foot (λb hb=>by rw [J];simp [hb]) ad.block N es.length c t k hk bp (y9 l k).1 (y9 l k).2 (by simp) rfl es.length N (oA _) rfl
       simpa using this
      ·rintro k' x N' ⟨bq,es',rfl,h1,h2,h3,rfl⟩
       exact ⟨es',rfl,h1,h2,hR es' N' bq (rm.2 h3) h2 h1⟩
theorem zKq:∀ (l:List Tm) (rest:List D),zD0 l rest->∀ (pl:List Tm) (done:List D),All2 Tm.Is pl done->∀ (es:List D),zB (done++rest)=zB es->(zB (done++rest)).Nodup->y7 rest->(done++rest).length<=4611686018427387904 ->
  ∀ (T:List Nat),(∀ b∈zB es,b∈T)->∀ (b0 N m c t:Nat) (k:Int),0<=k->k+4*zh l<=4611686018427387904->∀ (L:List Tm) (K:Int),L=pl++(y9 l k).1->K=(y9 l k).2->∀ (q N1:Nat),N<=N1->m=(done++rest).length ->
  yS T b0 (λk' x N'=>N<=N'/\∃ es',x=.ag es'/\es'.length=m/\zB es'=zB es/\All2 Tm.Is L es'/\k'=K) N m c k done.length t (done++rest) q N1
 | [],rest,hr,pl,done,hd,es,hf,ah,am,hlen,T,hT,b0,N,m,c,t,k,hk,bg,L,K,hL,hK,q,N1,bt,hm=>by
   simp only [zD0] at hr
   subst hr
   rw [oY] at *
   refine uS _ _ _ _ _ _ _ _ _ _ _ _ ?_
   refine Br.of (λhc=>?_) λ_=>⟨rfl,λN3 bv=>⟨by omega,done,rfl,hm.symm,hf,by rw [hL];simpa [y9] using hd,by rw [hK];simp [y9]⟩⟩
   have:=nP hc;omega
 | .mk kk nm ot nn ty re la::ts,rest,hr,pl,done,hd,es,hf,ah,am,hlen,T,hT,b0,N,m,c,t,k,hk,bg,L,K,hL,hK,q,N1,bt,hm=>by
   simp only [zD0] at hr
   obtain ⟨d,ds,rfl,bh,bw⟩:=hr
   simp only [Tm.Is] at bh
   obtain ⟨t0,t1,r0,r1,aA,O,cA,rfl,hh,a8,bi⟩:=bh
   obtain ⟨kT,lT,aT,ai,cT,rfl,rfl,rfl,ba,ax⟩:=Ty.is_two hh.ty
   obtain ⟨kR,lR,aR,ab,cR,rfl,rfl,rfl,bb,ay⟩:=Ty.is_two hh.re
   simp only [zh,Tm.cnt,Ty.cnt] at bg
   simp only [y9,Ty.as] at hL hK
   have aq:(done.length:Int)<(m:Int):=by rw [hm];simp;omega
   have I:∀ d:D,done.length<(done++d::ds).length:=λd=>by simp
   have B:∀ x:D,(0<=(done.length:Int)/\(done.length:Int)<(m:Int)/\done.length<(done++x::ds).length):=λx=>⟨by omega,aq,I x⟩
   have J:∀ (x0 x1 x2 x3 x4 x6:Value) (eT eR eA:List D),zB eT=zB ai->eT.length=ai.length->zB eR=zB ab->eR.length=ab.length->zB eA=zB O->eA.length=O.length ->
     (tmD x0 x1 x2 x3 x4 x6 aT eT cT aR eR cR aA eA cA).foot=(tmD (.int .i64 kk) (.string nm) (.string ot) (.int .i64 nn) (.int .i64 kT) (.int .i64 kR) aT ai cT aR ab cR aA O cA).foot:=λx0 x1 x2 x3 x4 x6 eT eR eA h1 h2 h3 h4 h5 h6=>by
    rw [zEg,zEg,rT h2 h1,rT h4 h3,rT h6 h5]
   have aa:=zJ1 (b:=[]) ah
   have bj:=@zEg (.int .i64 kk) (.string nm) (.string ot) (.int .i64 nn) (.int .i64 kT) (.int .i64 kR) aT ai cT aR ab cR aA O cA
   rw [bj,oc,oc] at aa
   have au:∀ b∈(tmD (.int .i64 kk) (.string nm) (.string ot) (.int .i64 nn) (.int .i64 kT) (.int .i64 kR) aT ai cT aR ab cR aA O cA).foot,b∈T:=λb hb=>hT b (hf ▸ by rw [zE];exact oX _ (by simp only [zB];exact oV _ hb))
   rw [bj] at au
   have az:(D.sl aT 2 ai cT).Flat0:=am.1.2.2.2.2.2.1
   have a6:(D.sl aR 2 ab cR).Flat0:=am.1.2.2.2.2.2.2.2.1
   have a7:(D.sl aA 9 O cA).Flat0:=am.1.2.2.2.2.2.2.2.2.1
   have b6:=ax;have b7:=ay
   refine uS _ _ _ _ _ _ _ _ _ _ _ _ ?_
   rw [i64_in (k+1) (by omega),i64_in (k+1+1) (by omega),i64_in (k+1+1+1) (by omega),i64_in (k+1+1+1+1) (by omega)]
   simp only [oH,o6,rM,zDf,zIz,p90,p91,p92,p93,p94,p95,p96,p97,p98]
   refine Br.of (λ_=>?_) λhc=>absurd aq (nl hc)
   refine ⟨B _,I _,λN2 bd=>?_⟩
   refine rn (k+1) (by omega) (by omega) N2 _ λN3 bv _=>?_
   refine ⟨B _,I _,λN4 b8=>?_⟩
   refine rn (k+1+1) (by omega) (by omega) N4 _ λN5 b9 _=>?_
   refine ⟨B _,I _,B _,I _,B _,I _,B _,I _,aT,ai,cT,rfl,⟨aa.1,az⟩,⟨λb hb=>au b (oV _ hb)⟩,I _,by simp,rfl,
    ⟨qo ah (J _ _ _ _ _ _ ai ab O rfl rfl rfl rfl rfl rfl)⟩,⟨by simp⟩,λN6 ca=>?_⟩
   rw [i64_in (k+1+1+1+1+1) (by omega)]
   have cc:=wb lT (k+1+1+1+1+1)
   refine tL lT ai ax aT cT ⟨aa.1,az⟩ ba (k+1+1+1+1+1) (by omega) (by omega) N6 _ λae N7 cd h1 h2 h3 _=>?_
   generalize (ze lT (k+1+1+1+1+1)).2=ac at *
   generalize (ze lT (k+1+1+1+1+1)).1=bz at *
   refine ⟨B _,I _,B _,I _,aR,ab,cR,rfl,⟨aa.2.1.1,a6⟩,⟨λb hb=>au b (oX _ (oV _ hb))⟩,I _,by simp,rfl,
    ⟨qo ah (J _ _ _ _ _ _ ae ab O h2 h3 rfl rfl rfl rfl)⟩,⟨by simp⟩,λN8 ce=>?_⟩
   rw [i64_in (ac+1) (by omega)]
   have cf:=wb lR (ac+1)
   refine tL lR ab ay aR cR ⟨aa.2.1.1,a6⟩ bb (ac+1) (by omega) (by omega) N8 _ λaj N9 cg h4 h5 h6 _=>?_
   generalize (ze lR (ac+1)).2=aw at *
   generalize (ze lR (ac+1)).1=b1 at *
   refine ⟨B _,I _,aA,O,cA,rfl,⟨aa.2.1.2.1,a7⟩,⟨λb hb=>au b (oX _ (oX _ hb))⟩,I _,by simp,rfl,
    ⟨qo ah (J _ _ _ _ _ _ ae aj O h2 h3 h5 h6 rfl rfl)⟩,⟨by simp⟩,λN10 b4=>?_⟩
   have ch:=zCb la aw
   refine zDX la O bi aA cA ⟨aa.2.1.2.1,a7⟩ a8 aw (by omega) (by omega) N10 _ λal bm b5 h7 h8 h9 _=>?_
   generalize (y9 la aw).2=k' at *
   generalize (y9 la aw).1=b2 at *
   rw [i64_in ((done.length:Int)+1) (by rw [hm] at aq;simp at aq hlen;omega)]
   have bn:=J (.int .i64 k) (.string (rp (k+1))) (.string (rp (k+1+1))) (.int .i64 (k+1+1+1)) (.int .i64 (k+1+1+1+1)) (.int .i64 ac) ae aj al h2 h3 h5 h6 h8 h9
   have b3:(Tm.mk k (rp (k+1)) (rp (k+1+1)) (k+1+1+1) (.mk (k+1+1+1+1) bz) (.mk ac b1) b2).Is (tmD (.int .i64 k) (.string (rp (k+1))) (.string (rp (k+1+1))) (.int .i64 (k+1+1+1)) (.int .i64 (k+1+1+1+1)) (.int .i64 ac) aT ae cT aR aj cR aA al cA):=by
    simp only [Tm.Is]
    have ci:=zHQ (k+1)
    have cj:=zHQ (k+1+1)
    exact ⟨_,_,_,_,_,_,_,rfl,⟨by omega,by omega,Ty.is_mk.2 ⟨_,_,_,rfl,by omega,uw h1⟩,Ty.is_mk.2 ⟨_,_,_,rfl,by omega,uw h4⟩⟩,by omega,h7⟩
   generalize hx:tmD (.int .i64 k) (.string (rp (k+1))) (.string (rp (k+1+1))) (.int .i64 (k+1+1+1)) (.int .i64 (k+1+1+1+1)) (.int .i64 ac) aT ae cT aR aj cR aA al cA=x at *
   have e1:((done++[x]).length:Int)=(done.length:Int)+1:=by simp
   have e2:done++x::ds=(done++[x])++ds:=by simp
   rw [<-e1]
   show yS T b0 _ N m c k' _ t (done++tmD (.int .i64 k) (.string (rp (k+1))) (.string (rp (k+1+1))) (.int .i64 (k+1+1+1)) (.int .i64 (k+1+1+1+1)) (.int .i64 ac) aT ae cT aR aj cR aA al cA::ds) q bm
   rw [hx,e2]
   exact zKq ts ds bw _ (done++[x]) (hd.snoc b3) es (by rw [o0,nq,zDJ bn];exact hf) (by rw [o0,nq];exact qo ah bn) am.2 (by simpa using hlen) T hT b0 N m c t k'
    (by omega) (by omega) L K (by rw [hL];simp) hK q bm (by omega) (by rw [hm];simp)
end
/-- a term behind the marks on its parts -/
def Tm.mkd:Tm->Int->Tm
 | .mk kk nm ot n ty re l,k=>.mk kk nm ot n (.mk ty.k (ze ty.as k).1) (.mk re.k (ze re.as (ze ty.as k).2).1) (y9 l (ze re.as (ze ty.as k).2).2).1
def Tm.mkk:Tm->Int->Int
 | .mk kk nm ot n ty re l,k=>(y9 l (ze re.as (ze ty.as k).2).2).2
theorem Tm.mkk_k:∀ (t:Tm) (k:Int),k<=t.mkk k/\t.mkk k<=k+4*t.cnt
 | .mk _ _ _ _ (.mk _ tl) (.mk _ rl) l,k=>by
   have:=zCb l (k+zI tl+zI rl)
   simp only [Tm.mkk,Tm.cnt,Ty.cnt,Ty.as,wb]
   omega
theorem zLp {t:Tm} {d:D} (hd:t.Is d) (ht:Tree d) (k:Int) (hk:0<=k) (az:k+4*t.cnt<=4611686018427387904) (N:Nat) (R:D->Int->Nat->Prop)
  (hR:∀ d' N',N<=N'->(t.mkd k).Is d'->d'.foot=d.foot->d'.cells.map D.cv=d.cells.map D.cv->R d' (t.mkk k) N'):MC prog 15 d k N R:=by
 cases t with
 | mk kk nm ot nn ty re la=>
 obtain ⟨t0,t1,r0,r1,aA,I,cA,rfl,hh,ai,ao⟩:=Tm.is_mk.1 hd
 obtain ⟨kT,lT,aT,O,cT,rfl,rfl,rfl,aj,aq⟩:=Ty.is_two hh.ty
 obtain ⟨kR,lR,aR,J,cR,rfl,rfl,rfl,ak,au⟩:=Ty.is_two hh.re
 have aw:=@zEg (.int .i64 kk) (.string nm) (.string ot) (.int .i64 nn) (.int .i64 kT) (.int .i64 kR) aT O cT aR J cR aA I cA
 have ac:=ht.nd
 rw [show (D.ag [D.j kk,.t nm,.t ot,.j nn,.j kT,.sl aT 2 O cT,.j kR,.sl aR 2 J cR,.sl aA 9 I cA]).foot=_ from aw,oc,oc] at ac
 have al:=ht.fl
 have ax:(D.sl aT 2 O cT).Flat0:=al.2.2.2.2.2.1
 have ay:(D.sl aR 2 J cR).Flat0:=al.2.2.2.2.2.2.2.1
 have ah:(D.sl aA 9 I cA).Flat0:=al.2.2.2.2.2.2.2.2.1
 simp only [Tm.cnt,Ty.cnt] at az
 simp only [Tm.mkd,Tm.mkk,Ty.as,Ty.k] at hR
 have aa:∀ (eT eR eA:List D),zB eT=zB O->eT.length=O.length->zB eR=zB J->eR.length=J.length->zB eA=zB I->eA.length=I.length ->
   zB [D.j kk,.t nm,.t ot,.j nn,.j kT,.sl aT 2 eT cT,.j kR,.sl aR 2 eR cR,.sl aA 9 eA cA] =
   zB [D.j kk,.t nm,.t ot,.j nn,.j kT,.sl aT 2 O cT,.j kR,.sl aR 2 J cR,.sl aA 9 I cA]:=λeT eR eA h1 h2 h3 h4 h5 h6=>by
  simp only [zB,rT (a:=aT) (z:=2) (c:=cT) h2 h1,rT (a:=aR) (z:=2) (c:=cR) h4 h3,rT (a:=aA) (z:=9) (c:=cA) h6 h5]
 have ab:(zB [D.j kk,.t nm,.t ot,.j nn,.j kT,.sl aT 2 O cT,.j kR,.sl aR 2 J cR,.sl aA 9 I cA]).Nodup:=by
  have:=ht.nd;simpa only [D.foot] using this
 have am:∀ b∈(D.sl aT 2 O cT).foot++((D.sl aR 2 J cR).foot++(D.sl aA 9 I cA).foot),b∈(D.ag [D.j kk,.t nm,.t ot,.j nn,.j kT,.sl aT 2 O cT,.j kR,.sl aR 2 J cR,.sl aA 9 I cA]).foot:=λb hb=>by
  rw [show (D.ag [D.j kk,.t nm,.t ot,.j nn,.j kT,.sl aT 2 O cT,.j kR,.sl aR 2 J cR,.sl aA 9 I cA]).foot=_ from aw];exact hb
 have ae:∀ (x:Value) (a:Option Addr) (es:List D) (c:Nat),(D.ag [.lit x,.sl a 2 es c]).foot=(D.sl a 2 es c).foot:=λx a es c=>by simp only [D.foot,zB,oR,oY]
 have tT:Tree (.ag [.j kT,.sl aT 2 O cT]):=⟨by rw [ae];exact ac.1,trivial,ax,trivial⟩
 have tR:Tree (.ag [.j kR,.sl aR 2 J cR]):=⟨by rw [ae];exact ac.2.1.1,trivial,ay,trivial⟩
 refine zF5 N _ k R (λk' x N'=>N<=N'/\∃ eT eR eA,x=.ag [D.j kk,.t nm,.t ot,.j nn,.j kT,.sl aT 2 eT cT,.j kR,.sl aR 2 eR cR,.sl aA 9 eA cA]/\zB eT=zB O/\eT.length=O.length/\zB eR=zB J/\eR.length=J.length/\zB eA=zB I/\eA.length=I.length /\
   TysIs (ze lT k).1 eT/\TysIs (ze lR (ze lT k).2).1 eR/\zD0 (y9 la (ze lR (ze lT k).2).2).1 eA/\k'=(y9 la (ze lR (ze lT k).2).2).2)
  ⟨_,rfl,rfl,by simp [D.isCell];exact ⟨rfl,rfl,rfl,rfl,rfl,rfl⟩⟩ ⟨tT,⟨λb hb=>am b (oV _ (by rw [<-ae (.int .i64 kT)];exact hb))⟩,by simp [D.cells],rfl,⟨ab⟩,⟨by simp⟩,λN1 a7=>?_⟩ ?_
 ·have a8:=wb lT k
  refine zHL aq aj tT k hk (by omega) N1 _ λeT N2 ba h1 h2 h3 _=>?_
  generalize (ze lT k).2=k1 at *
  refine ⟨tR,⟨λb hb=>am b (oX _ (oV _ (by rw [<-ae (.int .i64 kR)];exact hb)))⟩,by simp [D.cells,yk],rfl,⟨(aa eT J I h2 h3 rfl rfl rfl rfl).symm ▸ ab⟩,⟨by simp⟩,λN3 bb=>?_⟩
  have bc:=wb lR k1
  refine zHL au ak tR k1 (by omega) (by omega) N3 _ λeR N4 bd h4 h5 h6 _=>?_
  generalize (ze lR k1).2=k2 at *
  refine ⟨aA,I,cA,rfl,⟨ac.2.1.2.1,ah⟩,⟨λb hb=>am b (oX _ (oX _ hb))⟩,by simp [D.cells,yk],rfl,⟨(aa eT eR I h2 h3 h5 h6 rfl rfl).symm ▸ ab⟩,⟨by simp⟩,λN5 bg=>?_⟩
  refine zDX la I (rm.2 ao) aA cA ⟨ac.2.1.2.1,ah⟩ ai k2 (by omega) (by omega) N5 _ λeA N6 bh h7 h8 h9 _ N7 bi=>?_
  exact ⟨by omega,eT,eR,eA,rfl,h2,h3,h5,h6,h8,h9,h1,h4,h7,rfl⟩
 ·rintro k' x N' ⟨a6,eT,eR,eA,rfl,h1,h2,h3,h4,h5,h6,g1,g2,g3,rfl⟩
  refine ⟨_,rfl,by simp [D.cv,h2,h4,h6],aa eT eR eA h1 h2 h3 h4 h5 h6,hR _ N' a6 ?_ (aa eT eR eA h1 h2 h3 h4 h5 h6) (by simp [D.cells,D.cv,h2,h4,h6])⟩
  exact Tm.is_mk.2 ⟨_,_,_,_,_,_,_,rfl,⟨hh.nm,hh.ot,Ty.is_mk.2 ⟨_,_,_,rfl,by omega,uw g1⟩,Ty.is_mk.2 ⟨_,_,_,rfl,by omega,uw g2⟩⟩,by omega,rm.1 g3⟩
theorem zE2 {t:Tm} {d:D} (hd:t.Is d) (J:Tree d) (k:Int) (O:0<=k) (I:k+4*t.cnt<=4611686018427387904) (N:Nat) (R:D->Int->Nat->Prop)
  (hR:∀ d' N',N<=N'->(t.mkd k).Is d'->d'.foot=d.foot->R d' (t.mkk k) N'):MC prog 15 d k N R:=
 zLp hd J k O I N R λd' N' h1 h2 h3 _=>hR d' N' h1 h2 h3
theorem zN7 {t:Tm} {d:D} (hd:t.Is d) (J:Tree d) (k:Int) (O:0<=k) (I:k+4*t.cnt<=4611686018427387904) (N:Nat) (R:D->Int->Nat->Prop)
  (hR:∀ d' k' N',N<=N'->d'.foot=d.foot->0<=k'->k'<=k+4*t.cnt->R d' k' N'):MC prog 15 d k N R:=
 zE2 hd J k O I N R λd' N' h1 _ h2=>by have:=t.mkk_k k;exact hR d' _ N' h1 h2 (by omega) (by omega)
end Go.Proofs.YtlahkdflngobiaaGreatDoor
