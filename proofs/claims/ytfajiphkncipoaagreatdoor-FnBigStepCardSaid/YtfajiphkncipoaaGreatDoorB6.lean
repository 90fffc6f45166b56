/- BigStep: the program's splices and counts. -/
import Derived.Test.YtfajiphkncipoaaGreatDoorB5
import Derived.Test.YtfajiphkncipoaaGreatDoorB2
import Derived.Test.YtfajiphkncipoaaGreatDoorB3
set_option linter.unusedVariables false
set_option linter.unusedSimpArgs false
namespace Go.Proofs.YtfajiphkncipoaaGreatDoor
open Go Go.Proofs Go.Proofs.Tryz Go.IntWalk
theorem zPJ {a:Option Addr} {z c b:Nat} {es:List D} (h:b∈(D.sl a z es c).foot):(∃ ad,a=some ad/\b=ad.block)\/b∈zH es:=by
 cases a with
 | none=>simp only [D.foot] at h;exact .inr h
 | some ad=>
   simp only [D.foot] at h
   split at h
   ·simp at h
   ·rcases oI.1 h with h | h
    ·exact .inl ⟨ad,rfl,h⟩
    ·exact .inr h
/-- a node's blocks: new, or its other part's -/
theorem zIf {N0 N2 N3 b:Nat} {v0 v1 v2 v3:Value} {O U Y x7:D} {a:Option Addr} {es ds:List D} {c:Nat} (J:∀ y∈[O,U,Y,x7],∀ b∈y.foot,N0<=b) (hf:Fresh N0 N3 a ds) (hb:b<N0)
  (h:b∈(D.ag [.lit v0,.lit v1,.lit v2,.lit v3,O,U,Y,x7,.sl a 9 es c]).foot):b∈zH es:=by
 simp only [D.foot] at h
 obtain ⟨y,hy,I⟩:=zG.1 h
 simp only [oI,nI,mg] at hy
 rcases hy with rfl | rfl | rfl | rfl | rfl | rfl | rfl | rfl | rfl
 ·simp [D.foot] at I
 ·simp [D.foot] at I
 ·simp [D.foot] at I
 ·simp [D.foot] at I
 ·have:=J _ (by simp) b I;omega
 ·have:=J _ (by simp) b I;omega
 ·have:=J _ (by simp) b I;omega
 ·have:=J _ (by simp) b I;omega
 ·rcases zPJ I with ⟨ad,ha,rfl⟩ | h
  ·have:=hf.lo ad ha;omega
  ·exact h
theorem zSm {t y:Tm} {d dy:D} (h:t.Is d) (hG:t.G) (hy:y.Is dy) {i:Nat} (hi:i<t.as.length) {N0 N:Nat} (hN:N0<=N) (Q':D->Nat->Prop) (hq:∀ d' N',N<=N'->(t.wth i y).Is d'->(∀ b,b<N0->b∉dy.foot->b∉d'.foot)->Q' d' N') :
  ACalls prog 33 [.pk,.i,.str,.str,.i,.dc,.dc,.dc,.dc,.row 29 9] [.dg 9 d] N (λn s ac ae x J O U es c N2=>N<=N2->Bel N2 (D.ag es)->(0<=(i:Int)/\(i:Int)<(es.length:Int)/\(0+(i:Int).toNat:Nat)<es.length)/\(0+(i:Int).toNat:Nat)<es.length /\
   (es.length=(List.set es (0+(i:Int).toNat:Nat) dy).length/\c=c)/\(es.length=(List.set es (0+(i:Int).toNat:Nat) dy).length/\c=c)/\(es.length=(List.set es (0+(i:Int).toNat:Nat) dy).length/\c=c)/\(es.length=(List.set es (0+(i:Int).toNat:Nat) dy).length/\c=c)/\(es.length=(List.set es (0+(i:Int).toNat:Nat) dy).length/\c=c) /\
   ∀ a N3,N2<=N3->Fresh N0 N3 a [D.ag (List.set es (0+(i:Int).toNat:Nat) dy),x,J,O,U]->∀ N4,N3<=N4 ->
   Q' (D.ag [D.j n,D.t s,D.t ac,D.j ae,x,J,O,U,D.sl a 9 (List.set es (0+(i:Int).toNat:Nat) dy) c]) N4):=by
 refine uh t d h hG N _ ?_
 cases t with
 | mk k2 ak al n2 am ao l2=>
 simp only [Tm.as] at hi
 intro x4 x5 x6 x7 Y c' N2 aq ah I aa _ _
 have au:=I.len
 have aw:=hG.2.2.1
 rw [oF,oe]
 have hs:(List.set Y i dy).length=Y.length:=nR
 refine ⟨⟨by omega,by omega,by omega⟩,by omega,⟨hs.symm,rfl⟩,⟨hs.symm,rfl⟩,⟨hs.symm,rfl⟩,⟨hs.symm,rfl⟩,⟨hs.symm,rfl⟩,λa2 N3 ax hf N4 ay=>hq _ _ (by omega) (Tm.is_mk.2 ⟨_,_,_,_,_,_,_,rfl,ah,by omega,xk I hy⟩) λb hb ai hc=>?_⟩
 have h1:=zIf (N2:=N2) (λy hy b hb=>oR hN (aa.lo b (zG.2 ⟨y,ol _ hy,hb⟩))) hf hb hc
 obtain ⟨y,aj,ab⟩:=zG.1 h1
 rcases o6 aj with h2 | rfl
 ·have:=aa.lo b (zG.2 ⟨y,nJ _ h2,ab⟩);omega
 ·exact ai ab
theorem zRD {t y:Tm} {d dy:D} (h:t.Is d) (hG:t.G) (hy:y.Is dy) (h1:t.as.length=1) {N0 N:Nat} (hN:N0<=N) {I:Option Addr} (hb:xX N [I]) (Q':D->Nat->Prop) (hq:∀ d' N',N<=N'->(t.wth 0 y).Is d'->(∀ b,b<N0->b∉dy.foot->b∉d'.foot)->Q' d' N') :
  ACalls prog 64 [.pk,.i,.str,.str,.i,.dc,.dc,.dc,.dc,.bk 1] [.dg 9 d,.sv I 9 [dy] 1] N (λn s ah ai J O U Y aj N7=>N<=N7->aj=D.sl I 9 [dy] 1/\Off [I] J/\Off [I] O/\Off [I] U/\Off [I] Y/\(1=([dy]).length/\1=1)/\(1=([dy]).length/\1=1)/\(1=([dy]).length/\1=1) /\
   ∀ aa N8,N7<=N8->Fresh N0 N8 aa [D.ag [dy],J,O,U,Y]->∀ N9,N8<=N9->Q' (D.ag [D.j n,D.t s,D.t ah,D.j ai,J,O,U,Y,D.sl aa 9 [dy] 1]) N9):=by
 cases t with
 | mk k nm ot n0 ty re l=>
 obtain ⟨t0,t1,r0,r1,a,es,c,rfl,hh,aw,ax⟩:=Tm.is_mk.1 h
 simp only [Tm.as] at h1
 obtain ⟨g1,g2,g3,g4⟩:=hG
 refine zG2 hh g1 g2 I [dy] 1 N _ λx4 x5 x6 x7 N5 ay ak ab _=>⟨rfl,?_⟩
 have off:∀ y∈[x4,x5,x6,x7],Off [I] y:=λy hy a' al ad am hc=>by
  have h1:=hb a' al ad am
  have h2:=ab.lo _ (zG.2 ⟨y,hy,hc⟩)
  omega
 refine ⟨off x4 (by simp),off x5 (by simp),off x6 (by simp),off x7 (by simp),⟨rfl,rfl⟩,⟨rfl,rfl⟩,⟨rfl,rfl⟩,λa2 N8 az hf N9 a6=>hq _ _ (by omega) ?_ λb ao aq hc=>?_⟩
 ·have ac:l.set 0 y=[y]:=by
   cases l with
   | nil=>simp at h1
   | cons p ls=>cases ls with
     | nil=>rfl
     | cons _ _=>simp at h1
  simp only [Tm.wth]
  rw [ac]
  exact Tm.is_mk.2 ⟨_,_,_,_,_,_,_,rfl,ak,by simp,dy,[],rfl,hy,rfl⟩
 ·have h1:=zIf (N2:=N5) (λy hy b hb=>oR hN (ab.lo b (zG.2 ⟨y,hy,hb⟩))) hf ao hc
  obtain ⟨y,ae,au⟩:=zG.1 h1
  rw [nH] at ae
  subst ae
  exact aq au
/-- the first splice's part put in its place -/
theorem zHD {q:Tm} {dq:D} (hq:q.Is dq) (ad:Addr):∀ (t:Tm) (d:D),t.Is d->t.F t.dp->∀ m:Int,LvIn m t.dp->(∀ p,t.fs m=some p->(p.pt 0).res=false)->∀ (N:Nat) (Q:QT [.ag 9,.i,.bool]),
  (∀ d' N',N<=N'->(t.cod (λ_=>(q,0)) m).1.Is d'->(∀ b,b<N->b∉d.foot->b∉dq.foot->b∉d'.foot)->Q d' (t.cod (λ_=>(q,0)) m).2.1 (t.cod (λ_=>(q,0)) m).2.2 N') ->
  ACalls prog 63 [.ag 9,.i,.bool] [.dg 9 d,.j m,.fn 125 [.pd ad 9 dq]] N Q:=by
 refine Tm.ind λk nm ot n0 ty re l ih d hd hF m hm aa N Q U=>?_
 have ab:=hd
 have am:(Tm.mk k nm ot n0 ty re l).F (vD l+1):=hF
 obtain ⟨t0,t1,r0,r1,a,es,c,rfl,hh,ao,ac⟩:=Tm.is_mk.1 hd
 have hl:=ac.len
 have aq:∀ x∈l,∀ b,b∉(D.ag [.j k,.t nm,.t ot,.j n0,t0,t1,r0,r1,.sl a 9 es c]).foot->∀ i:Nat,i<es.length->b∉(es.getD i default).foot:=λx hx b hb i hi hc=>by
  apply hb
  simp only [D.foot]
  refine zG.2 ⟨.sl a 9 es c,by simp,?_⟩
  have:b∈zH es:=zG.2 ⟨_,by rw [oA,oG hi];exact mI hi,hc⟩
  cases a with
  | none=>simpa only [D.foot] using this
  | some ad=>
    simp only [D.foot]
    split
    ·rename_i a6
     rw [List.isEmpty_iff.1 a6] at hi
     simp at hi
    ·exact nf _ this
 have loop:¬(k=11/\m=1)->yN Q N m ad dq a es c es.length 0 (.ag [.j k,.t nm,.t ot,.j n0,t0,t1,r0,r1,.sl a 9 es c]) 0 (bytes []) (bytes []) 0 0 none [] 0 0 none [] 0 none [] 0 N:=λau=>by
  simp only [Tm.cod] at U
  rw [if_neg au] at U
  simp only [Tm.fs] at aa
  rw [if_neg au] at aa
  refine up ac ao (λi xs=>∀ N',N<=N'->(∀ p,wX xs (zL k m)=some p->(p.pt 0).res=false)->(match zK (λ_=>(q,0)) xs (zL k m) with | none=>zK (λ_=>(q,0)) l (zL k m)=none | some (l',r)=>zK (λ_=>(q,0)) l (zL k m)=some (l.take i++l',r)) ->
   yN Q N m ad dq a es c es.length i (.ag [.j k,.t nm,.t ot,.j n0,t0,t1,r0,r1,.sl a 9 es c]) 0 (bytes []) (bytes []) 0 0 none [] 0 0 none [] 0 none [] 0 N') ?_ ?_ N (oB _) aa ?_
  ·intro i a7 hi N' a8 _ O
   simp only [zK] at O
   rw [O] at U
   refine tX _ _ _ _ _ _ _ _ _ _ _ _ _ _ _ _ _ _ _ _ _ _ _ _ _ _ _ ?_
   rw [a7]
   exact λN2 aw=>U _ _ (by omega) ab λb _ h _=>h
  ·intro i x xs I ba bb N' a8 J O
   have hb:=I.b
   have ax:i<l.length:=(oC.1 I.g).1
   refine tX _ _ _ _ _ _ _ _ _ _ _ _ _ _ _ _ _ _ _ _ _ _ _ _ _ _ _ ?_
   rw [I.lt,I.w]
   refine ⟨⟨by omega,by omega⟩,λN1 bc=>tK hm.b N1 _ λN2 aw _ N3 bd=>?_⟩
   have hr:=I.r
   have ae:=am.mem x I.m
   have bg:=aq x I.m
   simp only [wX] at J
   rw [oF]
   refine ih x I.m _ hr ⟨ae.ok,oB _,ae.c,ae.w⟩ _ (hm.next (dp_mem I.m)) (λp hp=>by rw [hp] at J;exact J p rfl) N3 _ λdx N4 bh hx bi _ _=>Br.of (λhv N5 bj=>?_) λhv=>?_
   ·simp only [zK] at O
    rw [if_pos hv] at O
    simp only at O
    rw [O] at U
    have:=zSm ab hF.z.g hx (i:=i) ax (N0:=N) (N:=N5) (by omega) (λd N=>Q d (x.cod (λ_=>(q,0)) (zL k m)).2.1 true N) λd' N6 bm ah ai=>U _ _ (by omega) (by
     have:l.take i++(x.cod (λ_=>(q,0)) (zL k m)).1::xs=l.set i (x.cod (λ_=>(q,0)) (zL k m)).1:=by
      rw [md,if_pos ax,ba]
     simp only
     rw [this]
     exact ah) λb aj bn ak=>ai b aj (bi b (by omega) (bg b bn i (by omega)) ak)
    simpa only [oF] using this
   ·refine bb _ (by omega) ?_ ?_
    ·cases Y:x.fs (zL k m) with
     | none=>rw [Y] at J;exact J
     | some p=>
       rw [Y] at J
       have:=zIz x (zL k m) p (q:=q) Y (J p rfl)
       rw [this] at hv
       cases hv
    simp only [zK] at O
    rw [if_neg (by rw [hv];decide)] at O
    cases hc:zK (λ_=>(q,0)) xs (zL k m) with
    | none=>rw [hc] at O;exact O
    | some p=>
      obtain ⟨l',r⟩:=p
      rw [hc] at O
      simp only at O ⊢
      rw [O,xN I.g,nO];rfl
  ·cases hc:zK (λ_=>(q,0)) l (zL k m) with
   | none=>rfl
   | some p=>obtain ⟨l',r⟩:=p;simp
 refine zBv N _ m ad dq Q λ_=>⟨_,rfl,Br.beq (λh1=>Br.beq (λh2=>?_) λh2=>⟨_,_,_,rfl,loop λh=>h2 h.2⟩) λh1=>⟨_,_,_,rfl,loop λh=>h1 h.1⟩⟩
 have bp:=(yi hF.ok).1 (by omega)
 have ay:0<l.length:=by omega
 have bq:=zC ay
 have az:=am.mem _ bq
 have bt:=zf ac ay
 have bv:=az.c
 have al:=aa (.mk k nm ot n0 ty re l) (by simp only [Tm.fs];rw [if_pos ⟨h1,h2⟩])
 rw [zOE] at al
 simp only [Tm.cod] at U
 rw [if_pos ⟨h1,h2⟩] at U
 unfold zJs at U
 rw [zOE,if_neg (by rw [al];decide)] at U
 refine ⟨_,_,_,rfl,⟨by omega,by omega⟩,λN1 bc=>xm bt az.ok (by omega) N1 _ λN2 aw _=>Br.not (λhr N3 bd=>?_) λhr=>absurd hr (by rw [al];decide)⟩
 refine uA N3 _ ad dq _ λ_ N4 bh _ _=>⟨⟨rfl,rfl⟩,λa1 _ _ N5 bj hb=>?_⟩
 exact zRD ab hF.z.g hq bp (N0:=N) (by omega) hb (λd N=>Q d 0 true N) λd' N6 bm ah ai=>U _ _ (by omega) ah λb aj _ ak=>ai b aj ak
theorem zEC {nm ot:ByteArray} {n:Int} {ty re:Ty} {l:List Tm} (h:(Tm.mk 10 nm ot n ty re l).ok=true):∃ b,Tm.mk 10 nm ot n ty re l=Tm.nod 10 [b]/\b.ok=true/\l=[b]:=by
 have I:=(yi h).1 (by omega)
 obtain ⟨h1,J,h3⟩:=Tm.ok_mk.1 h
 cases l with
 | nil=>simp at I
 | cons b l=>
 cases l with
 | cons c l=>simp at I
 | nil=>
 have O:∀ t:Ty,t.zero=true->t=.mk 0 []:=λt U=>by
  cases t with
  | mk k l=>
  simp only [Ty.zero,Ty.k,Ty.as,oJ,mF] at U
  have:l=[]:=oa (by omega)
  rw [this,U.1]
 simp only [zM,oJ] at J
 obtain ⟨_,h4,_,h5,h6,h7⟩:=J
 have e1:=O ty (by simpa [s6] using h4)
 have e2:=O re (by simpa using h5)
 have e3:=yQ.1 h6
 have Y:nm=bytes []/\ot=bytes []:=by simpa [xF] using h7
 have e5:n=0:=by simp at e3;omega
 refine ⟨b,?_,h1 b (by simp),rfl⟩
 rw [e1,e2,Y.1,Y.2,e5];rfl
/-- a quotation's evaluation: the first splice first -/
theorem zNl {f:Nat} {b:Tm} {s:Nat} (hb:b.ok=true) (Y:(Tm.nod 10 [b]).res=false):evT (f+1) (Tm.nod 10 [b]) s=match b.fs 1 with
  | none=>none
  | some p=>match p.codE (evT f) 1 s with
    | none=>none
    | some (y,s1)=>evT (f+1) (Tm.nod 10 [b.rpl 1 y]) s1:=by
 have e1:evT (f+1) (Tm.nod 10 [b]) s=match b.codE (evT f) 1 s with
   | none=>none
   | some (b,s1)=>if (Tm.nod 10 [b]).res then some (Tm.nod 10 [b],s1) else none:=by
  show (if (Tm.nod 10 [b]).res=true then _ else if (10:Int)=10 then _ else _)=_
  rw [if_neg (by rw [Y];decide),if_pos rfl];rfl
 rw [e1]
 cases O:b.fs 1 with
 | none=>
   rw [xb b 1 s ((zOh b 1).1 O)]
   simp only
   rw [if_neg (by rw [Y];decide)]
 | some p=>
   have hp:=zR5 O hb
   have U:∀ x s1,p.codE (evT f) 1 s=some (x,s1)->x.made 1=true:=λx s1 h=>(zEA (f:=p.dp) (λe s v s1 _=>sZ f e s v s1) p (by omega) hp _ _ _ _ h).2.1
   rw [zL8 b 1 s p O U]
   simp only
   cases hc:p.codE (evT f) 1 s with
   | none=>rfl
   | some q=>
     obtain ⟨y,s1⟩:=q
     simp only
     show _=(if (Tm.nod 10 [b.rpl 1 y]).res=true then _ else if (10:Int)=10 then _ else _)
     by_cases I:(Tm.nod 10 [b.rpl 1 y]).res=true
     ·have J:=zDK I rfl
      have J:(b.rpl 1 y).made 1=true:=J
      rw [if_pos I,xb _ 1 s1 J]
      simp only
      rw [if_pos I]
      rfl
     ·rw [if_neg I,if_pos rfl];rfl
theorem zLf {f:Nat} {k:Int} {nm ot:ByteArray} {n:Int} {ty re:Ty} {l:List Tm} {s:Nat} (J:(Tm.mk k nm ot n ty re l).res=false) (O:¬k=10) :
  evT (f+1) (.mk k nm ot n ty re l) s=match t8 (evT f) (l.take (xA k l.length)) s with
   | none=>none
   | some (l1,s1)=>if (Tm.mk k nm ot n ty re (l1++l.drop (xA k l.length))).apl.2=0 then none else
     match pO (Tm.mk k nm ot n ty re (l1++l.drop (xA k l.length))).apl.1 s1 with
     | none=>none
     | some (x,s2)=>evT f x s2:=by
 have e1:evT (f+1) (.mk k nm ot n ty re l) s=match t8 (evT f) (l.take (yO k l.length)) s with
   | none=>none
   | some (l1,s1)=>if (Tm.mk k nm ot n ty re (l1++l.drop (yO k l.length))).apl.2=0 then none else
     match pO (Tm.mk k nm ot n ty re (l1++l.drop (yO k l.length))).apl.1 s1 with
     | none=>none
     | some (x,s2)=>evT f x s2:=by
  simp only [evT]
  rw [if_neg (by rw [J];decide),if_neg O];rfl
 rw [e1]
 by_cases h:k=4\/k=7\/k=5\/k=8\/k=12\/k=13
 ·have:yO k l.length=xA k l.length:=by
   unfold yO xA
   rcases h with rfl | rfl | rfl | rfl | rfl | rfl<;>rfl
  rw [this]
 ·have I:∀ l:List Tm,(Tm.mk k nm ot n ty re l).apl.2=0:=λl=>by
   simp only [Tm.apl]
   rw [if_neg (by omega),if_neg (by omega),if_neg (by omega),if_neg (by omega),if_neg (by omega),if_neg (by omega)]
  have hs:xA k l.length=0:=by unfold xA;rw [if_neg (by omega),if_neg (by omega)]
  rw [hs]
  simp only [mN,t8]
  rw [if_pos (I _)]
  cases t8 (evT f) (l.take (yO k l.length)) s with
  | none=>rfl
  | some p=>obtain ⟨l1,s1⟩:=p;simp only;rw [if_pos (I _)]
theorem zHH:∀ (t:Tm) (d:D),t.Is d->∀ m:Int,LvIn m t.dp->∀ (N:Nat) (Q:QT [.ag 9,.bool]),(∀ d' b N',N<=N'->(match t.fs m with | none=>b=false | some p=>b=true/\p.Is d')->Q d' b N') ->
  ACalls prog 124 [.ag 9,.bool] [.dg 9 d,.j m] N Q:=by
 refine Tm.ind λk nm ot n0 ty re l ih d hd m hm N Q hQ=>?_
 have ab:=hd
 obtain ⟨t0,t1,r0,r1,a,es,c,rfl,hh,U,Y⟩:=Tm.is_mk.1 hd
 have hl:=Y.len
 have loop:¬(k=11/\m=1)->zk Q N m a es c es.length 0 (.ag [.j k,.t nm,.t ot,.j n0,t0,t1,r0,r1,.sl a 9 es c]) 0 (bytes []) (bytes []) 0 0 none [] 0 0 none [] 0 none [] 0 N:=λac=>by
  simp only [Tm.fs] at hQ
  rw [if_neg ac] at hQ
  refine up Y U (λi xs=>∀ N',N<=N'->(∀ d' b N',N<=N'->(match wX xs (zL k m) with | none=>b=false | some p=>b=true/\p.Is d')->Q d' b N') ->
   zk Q N m a es c es.length i (.ag [.j k,.t nm,.t ot,.j n0,t0,t1,r0,r1,.sl a 9 es c]) 0 (bytes []) (bytes []) 0 0 none [] 0 0 none [] 0 none [] 0 N') ?_ ?_ N (oB _) hQ
  ·intro i ae hi N' ah J
   simp only [wX] at J
   refine vv _ _ _ _ _ _ _ _ _ _ _ _ _ _ _ _ _ _ _ _ _ _ _ _ _ ?_
   rw [ae]
   exact ⟨⟨rfl,rfl⟩,λa2 N6 aj _ N7 ak=>zAC N7 11 a2 _ 1 _ λ_ N8 al _ _ N9 am=>J _ _ _ (by omega) rfl⟩
  ·intro i x xs I ao ai N' ah J
   have hb:=I.b
   simp only [wX] at J
   refine vv _ _ _ _ _ _ _ _ _ _ _ _ _ _ _ _ _ _ _ _ _ _ _ _ _ ?_
   rw [I.lt,I.w,oF]
   refine ⟨⟨by omega,by omega⟩,λN1 aa=>tK hm.b N1 _ λN2 aq _ N3 au=>?_⟩
   refine ih x I.m _ I.r _ (hm.next (dp_mem I.m)) N3 _ λdx b N4 aw O _ _=>?_
   cases hx:x.fs (zL k m) with
   | none=>
     rw [hx] at O J
     have O:b=false:=O
     subst O
     exact ai _ (by omega) J
   | some p=>
     rw [hx] at O J
     obtain ⟨rfl,O⟩:=O
     exact λN5 ax=>J _ _ _ (by omega) ⟨rfl,O⟩
 refine zAa N _ m Q λ_=>⟨_,rfl,Br.beq (λh1=>Br.beq (λh2 N1 aa=>hQ _ _ _ aa ?_) λh2=>⟨_,_,_,rfl,loop λh=>h2 h.2⟩) λh1=>⟨_,_,_,rfl,loop λh=>h1 h.1⟩⟩
 unfold Tm.fs
 rw [if_pos ⟨h1,h2⟩]
 exact ⟨rfl,ab⟩
theorem px (d:D) (x y:Int) (v:Bool) (N:Nat) (Q:QT [.bool,.i,.i,.bool]) (I:∀ N',N<=N'->Q false x y true N') :
  BCalls prog 86 [.bool,.i,.i,.bool] [.pb 0 0 0 0,.dg 9 d,.j 0] [.var [.j x,.j y,.bool v]] N Q:=
 wc N d 0 x y v Q λE _=>⟨zP,λN1 h=>I _ h⟩
theorem zNc {x:Tm} {d:D} (hd:x.Is d) (hs:x.sz<=9223372036854775807) {r:Int} (O:¬r=0) {F s:Nat} (hF:F<=200) (U:s<=F) (N:Nat) (Q:QT [.bool,.i,.i,.bool])
  (I:∀ (v:Bool) (le us:Int) (b:Bool) (N':Nat),N<=N'->(match pO x s with | none=>v=false/\b=true | some (_,s1)=>v=true/\le=s1/\us=(F:Int) - s1/\b=false)->Q v le us b N') :
  BCalls prog 86 [.bool,.i,.i,.bool] [.pb 0 0 0 0,.dg 9 d,.j r] [.var [.j s,.j ((F:Int) - s),.bool false]] N Q:=by
 unfold pO at I
 refine wc N d r s _ false Q λE _=>Br.beq (λh=>absurd h O) λ_=>Br.beq (λY=>⟨zP,λN1 h1=>I _ _ _ _ _ h1 ?_⟩) λY N1 aa=>zB3 x d hd hs N1 _ λN2 ab _=>Br.dec (λh4=>⟨zP,λN3 J=>I _ _ _ _ _ (by omega) ?_⟩) λh4=>⟨zP,λN3 J=>I _ _ _ _ _ (by omega) ?_⟩
 ·rw [if_pos (.inl (by omega))];exact ⟨rfl,rfl⟩
 ·rw [if_pos (.inr (by omega))];exact ⟨rfl,rfl⟩
 ·rw [if_neg (by omega),i64_in _ (by omega),i64_in _ (by omega)]
  exact ⟨rfl,by omega,by omega,rfl⟩
def IvP (o:Option (Tm × Nat)) (F:Nat) (d:D) (le us:Int) (b:Bool):Prop:=match o with
 | none=>b=true/\∃ v:Tm,v.Is d/\v.ok=true/\v.sz<=1300000
 | some (v,s1)=>b=false/\le=s1/\us=(F:Int) - s1/\v.Is d
def IvC (f F:Nat):Prop:=∀ (e:Tm) (d:D) (s:Nat),e.Is d->e.ok=true->e.sz+400*s<=1300000->e.dp+401*s<=f->s<=F->∀ (N:Nat) (Q:QT [.ag 9,.i,.i,.bool]),
 (∀ d' le us b N',N<=N'->IvP (evT f e s) F d' le us b->Q d' le us b N')->BCalls prog 50 [.ag 9,.i,.i,.bool] [.pb 0 0 0 0,.dg 9 d] [.var [.j s,.j ((F:Int) - s),.bool false]] N Q
/-- the first splice's piece comes into its place -/
theorem zL9 {f F:Nat} (hF:F<=200) (hE:IvC f F) {b:Tm} {d:D} {s:Nat} (hd:(Tm.nod 10 [b]).Is d) (hb:b.ok=true) (hs:(Tm.nod 10 [b]).sz+400*s<=1300000) (hf:(Tm.nod 10 [b]).dp+401*s<=f+1) (hsF:s<=F) (N:Nat) (Q:QT [.ag 9,.i,.i,.bool])
  (hQ:∀ (d':D) (le us:Int) (v:Bool) (N':Nat),N<=N'->(match b.fs 1 with
   | none=>v=true/\d'=d
   | some p=>match p.codE (evT f) 1 s with
     | none=>v=true/\d'=d
     | some (y,s1)=>v=false/\le=s1/\us=(F:Int) - s1/\(Tm.nod 10 [b.rpl 1 y]).Is d')->Q d' le us v N') :
  BCalls prog 85 [.ag 9,.i,.i,.bool] [.pb 0 0 0 0,.dg 9 d] [.var [.j s,.j ((F:Int) - s),.bool false]] N Q:=by
 have hd0:=hd
 have ho:=pZ hb
 have hFF:=zMp ho (by omega)
 have hG:=hFF.z.g
 have hsz:(Tm.nod 10 [b]).sz=1+(b.sz+0):=rfl
 have hFb:=zMp hb (by omega)
 have hdb:=hFb.dp
 obtain ⟨t0,t1,r0,r1,a,es,c,rfl,hh,hlen,hes⟩:=Tm.is_mk.1 hd
 have hl:=hes.len
 have hbd:b.Is (es.getD 0 default):=zf hes (j:=0) (by simp)
 have hlv:LvIn 1 b.dp:=by unfold LvIn;omega
 refine ur N _ s _ false Q fun E _=>⟨_,_,_,rfl,⟨by omega,by rw [hl];simp⟩,fun N1 hN1=>zHH b _ hbd 1 hlv N1 _ fun dp bb N2 hN2 hp _ _=>?_⟩
 cases hfs:b.fs 1 with
 | none=>
   rw [hfs] at hp hQ
   have hp:bb=false:=hp
   subst hp
   exact ⟨zP,fun N3 hN3=>hQ _ _ _ _ _ (by omega) ⟨rfl,rfl⟩⟩
 | some p=>
 rw [hfs] at hp hQ
 obtain ⟨rfl,hp⟩:=hp
 have hpo:=zR5 hfs hb
 have hpk:=zSS b 1 p hfs
 have hpd:=zUB hfs
 have hps:=zMw b 1 p tm0 hfs
 have htz:tm0.sz=1:=rfl
 have hps2:p.sz<=b.sz:=by have:=Tm.sz_pos (b.rpl 1 tm0);omega
 have hdn:(Tm.nod 10 [b]).dp=b.dp+1:=by simp [Tm.nod,Tm.dp,vD]
 rw [mo,uD]
 have hcE:p.codE (evT f) 1 s=match evT f (p.pt 0) s with
   | none=>none
   | some (x,s1)=>if x.kd=10 then pO (x.pt 0) s1 else none:=by
  cases p with
  | mk k nm ot n ty re l=>
  have hpk:k=11:=hpk
  simp only [Tm.codE,and_true]
  rw [if_pos hpk];rfl
 simp only at hQ
 rw [hcE] at hQ
 have hF1:=zOd hpo (.inr (.inl hpk))
 cases p with
 | mk kp np op mp tp rp lp=>
 obtain ⟨u0,u1,v0,v1,a1,es1,c1,rfl,hh1,hlen1,hes1⟩:=Tm.is_mk.1 hp
 have hl1:=hes1.len
 simp only [Tm.as] at hF1
 have hm1:=zC (l:=lp) (i:=0) (by omega)
 have hdm1:=Tm.dp_mem (k:=kp) (nm:=np) (ot:=op) (n:=mp) (ty:=tp) (re:=rp) hm1
 have hsm1:=Tm.sz_mem (k:=kp) (nm:=np) (ot:=op) (n:=mp) (ty:=tp) (re:=rp) hm1
 have hp1:=zf hes1 (j:=0) (by omega)
 have hqp:(Tm.mk kp np op mp tp rp lp).pt 0=lp.getD 0 tm0:=rfl
 rw [hqp] at hQ hF1
 generalize hX:lp.getD 0 tm0=X at hQ hF1 hm1 hdm1 hsm1 hp1 hqp
 refine ⟨_,_,_,rfl,⟨by omega,by omega⟩,fun N4 hN4=>hE X _ s hp1 hF1.1 (by omega) (by omega) hsF N4 _ fun dx le us fb N5 hN5 hxp _ _ N6 hN6=>?_⟩
 cases hev:evT f X s with
 | none=>
   rw [hev] at hxp hQ
   obtain ⟨rfl,v,hv,hvo,hvs⟩:=hxp
   have hvF:=zMp hvo hvs
   have bad:∀ dd N8,N<=N8->BCalls prog 86 [.bool,.i,.i,.bool] [.pb 0 0 0 0,.dg 9 dd,.j 0] [.var [.j le,.j us,.bool true]] N8 _:=fun dd N8 hN8=>
    px dd le us true N8 (fun b_3 n_2 n_3 b_4 N9=>b_3=false/\b_4=true/\N8<=N9) fun N9 hN9=>⟨rfl,rfl,hN9⟩
   refine qR hv hvo hvF.c N6 _ fun dy N7 hN7 hy _ _=>Br.of (fun _=>Br.not (fun h=>by cases h) fun _ N8 hN8=>?_) fun _ N8 hN8=>?_
   ·exact px _ _ _ _ N8 _ fun N9 hN9 _=>⟨zP,fun N10 hN10=>hQ _ _ _ _ _ (by omega) ⟨rfl,rfl⟩⟩
   ·exact px _ _ _ _ N8 _ fun N9 hN9 _=>⟨zP,fun N10 hN10=>hQ _ _ _ _ _ (by omega) ⟨rfl,rfl⟩⟩
 | some w=>
 obtain ⟨x,s1⟩:=w
 rw [hev] at hxp hQ
 obtain ⟨rfl,rfl,rfl,hx⟩:=hxp
 have ev:=sZ f _ _ _ _ hev hF1.1
 have ev1:=ev.l
 have ev2:=ev.z
 have ev3:=ev.o
 have ev4:=ev.r
 have hxF:=zMp ev3 (by omega)
 simp only at hQ
 refine qR hx ev3 hxF.c N6 _ fun dy N7 hN7 hy _ _=>?_
 by_cases h10:x.kd=10
 case neg=>
  rw [if_neg h10] at hQ
  rw [if_neg (fun h=>h10 h.1)]
  exact fun N8 hN8=>px _ _ _ _ N8 _ fun N9 hN9 _=>⟨zP,fun N10 hN10=>hQ _ _ _ _ _ (by omega) ⟨rfl,rfl⟩⟩
 case pos=>
 rw [if_pos h10] at hQ
 rw [if_pos ⟨h10,ev4⟩] at hy ⊢
 intro N8 hN8
 have hxq:=(zOd ev3 (.inl h10)).1
 have hxz:=zG9 (e:=x) (i:=0)
 refine zNc (x:=x.pt 0) hy (by omega) (by decide) hF (by omega) N8 _ fun v le us fb N9 hN9 hc _=>?_
 cases hce:pO (x.pt 0) s1 with
 | none=>
   rw [hce] at hc hQ
   obtain ⟨rfl,rfl⟩:=hc
   exact ⟨zP,fun N10 hN10=>hQ _ _ _ _ _ (by omega) ⟨rfl,rfl⟩⟩
 | some w=>
 obtain ⟨y,s2⟩:=w
 obtain ⟨e1,e2,e3⟩:=xy hce
 rw [hce] at hc hQ
 subst e1
 obtain ⟨rfl,rfl,rfl,rfl⟩:=hc
 rw [mo,uD]
 have fin:∀ (N21:Nat),N9<=N21->∀ (dB:D) (B:Tm),B.Is dB->B.ok=true->B.sz<=1300000->(B.cod (Tm.stp B.dp) 1).1=b.rpl 1 (x.pt 0)->ACalls prog 63 [.ag 9,.i,.bool] [.dg 9 dB,.j 1,.fn 34 []] N21 (fun x_10 n_8 b_8 N22=>N21<=N22->Bel N22 x_10->(1=([x_10]).length/\1=1)/\∀ a_6,ApA a_6 [x_10]->Off [a_6] (.ag [.j 10,.t (bytes []),.t (bytes []),.j 0,t0,t1,r0,r1,.sl a 9 es c])->∀ N23,N22<=N23->xX N23 [a_6]->ACalls prog 64 [.pk,.i,.str,.str,.i,.dc,.dc,.dc,.dc,.bk 1] [.dg 9 (.ag [.j 10,.t (bytes []),.t (bytes []),.j 0,t0,t1,r0,r1,.sl a 9 es c]),.sv a_6 9 [x_10] 1] N23 (fun n_9 s_2 s_3 n_10 x_11 x_12 x_13 x_14 x_15 N24=>N23<=N24->x_15=D.sl a_6 9 [x_10] 1/\Off [a_6] x_11/\Off [a_6] x_12/\Off [a_6] x_13/\Off [a_6] x_14/\(1=([x_10]).length/\1=1)/\(1=([x_10]).length/\1=1)/\(1=([x_10]).length/\1=1)/\∀ a_7 N25,N24<=N25->Fresh N N25 a_7 [D.ag [x_10],x_11,x_12,x_13,x_14]->∀ N25',N25<=N25'->zO E [.var [.j 0,.j 0,.bool false]]/\∀ N26,N25'<=N26->Q (D.ag [D.j n_9,D.t s_2,D.t s_3,D.j n_10,x_11,x_12,x_13,x_14,D.sl a_7 9 [x_10] 1]) s2 ((F:Int) - s2) false N26)):=fun N21 hN21 dB B hB hBo hBs hcod=>by
  have hBF:=zMp hBo (by omega)
  have hBd:=hBF.dp
  refine zCR (zBz B.dp) B dB hB (hBF.up (by omega)) 1 (by unfold LvIn;omega) N21 _ fun dz N22 hN22 hz _ _=>⟨⟨rfl,rfl⟩,fun a1 _ _ N23 hN23 hba=>?_⟩
  rw [hcod] at hz
  refine zO4 hd0 hG hz rfl (N0:=N) hba (fun d N25=>zO E [.var [.j 0,.j 0,.bool false]]/\∀ N26,N25<=N26->Q d s2 ((F:Int) - s2) false N26) fun d' N24 hN24 hd'=>⟨zP,fun N26 hN26=>hQ _ _ _ _ _ (by omega) ⟨rfl,rfl,rfl,hd'⟩⟩
 refine ⟨_,_,_,rfl,⟨by omega,by rw [hl];simp⟩,_,_,_,rfl,⟨by omega,by omega⟩,fun N11 hN11=>xm hp1 hF1.1 (zMp hF1.1 (by omega)).c N11 _ fun N12 hN12 _=>Br.not (fun hr=>?_) fun hr N21 hN21=>?_⟩
 ·-- the part was no result
  intro ad hap hoff N13 hN13 hba
  have hcc:=zIz b 1 _ (q:=x) hfs (by rw [hqp];exact hr)
  have hwo:((Tm.mk kp np op mp tp rp lp).wth 0 x).ok=true:=zLN hpo ev3
  have hwk:((Tm.mk kp np op mp tp rp lp).wth 0 x).kd=11:=hpk
  have hwz:((Tm.mk kp np op mp tp rp lp).wth 0 x).sz+X.sz=(Tm.mk kp np op mp tp rp lp).sz+x.sz:=by
   have:=rX (x:=x) (l:=lp) (i:=0) (by omega)
   rw [hX] at this
   simp only [Tm.wth,Tm.sz];omega
  have hwp:((Tm.mk kp np op mp tp rp lp).wth 0 x).pt 0=x:=by
   simp only [Tm.wth,Tm.pt]
   rw [oA,o0 (by omega)];rfl
  obtain ⟨g1,g2⟩:=zTA hwk b 1 _ hfs
  have hrz:=zMw b 1 _ ((Tm.mk kp np op mp tp rp lp).wth 0 x) hfs
  have hpc:=fun S=>zI8 (S:=S) _ 1 _ g1 (by rw [hwp];exact ev4) (by rw [hwp];exact h10)
  refine zHD hx ad b _ hbd hFb 1 hlv (fun p hp=>by rw [hfs] at hp;cases hp;rw [hqp];exact hr) N13 _ fun dz N14 hN14 hz hof _=>⟨fun a' ha' ad' had' hc=>?_,fun _ N15 hN15=>?_⟩
  ·rw [nH] at ha'
   subst ha'
   injection had' with had'
   subst had'
   exact hof _ (hba _ (by simp) _ rfl) (hoff _ (by simp) _ rfl) (hap _ rfl _ (by simp)) hc
  ·rw [hcc] at hz
   have hz:(b.rpl 1 ((Tm.mk kp np op mp tp rp lp).wth 0 x)).Is dz:=hz
   have:=fin N15 (by omega) dz _ hz (zQt b 1 _ hb hwo) (by omega) (by rw [hpc,hwp,g2])
   refine this.mono ?_
   intro x_10 n_8 b_8 N22 h h1 h2
   obtain ⟨g3,g4⟩:=h h1 h2
   refine ⟨g3,fun a_4 h3 h4 N17 h5 h6=>(g4 a_4 h3 h4 N17 h5 h6).mono ?_⟩
   intro n_6 s_ s_1 n_7 x_5 x_6 x_7 x_8 x_9 N18 h7 h8
   obtain ⟨k1,k2,k3,k4,k5,k6,k7,k8,k9⟩:=h7 h8
   exact ⟨k1,k2,k3,k4,k5,k6,k7,k8,fun a_5 N19 h9 h10=>k9 a_5 N19 h9 h10 N19 (oB _)⟩
 ·have hpc:=fun S=>zI8 (S:=S) b 1 _ hfs (by rw [hqp];exact hr)
  have hXx:x=X/\s1=s:=by
   cases X with
   | mk k nm ot n ty re l=>
   cases f with
   | zero=>cases hev
   | succ f=>
     simp only [evT] at hev
     rw [if_pos hr] at hev
     injection hev with hev
     injection hev with h1 h2
     exact ⟨h1.symm,h2.symm⟩
  have:=fin N21 (by omega) _ b hbd hb (by omega) (by rw [hpc _ (by rw [hqp,<-hXx.1];exact h10),hqp,<-hXx.1])
  refine this.mono ?_
  intro x_10 n_8 b_8 N22 h h1 h2
  obtain ⟨g3,g4⟩:=h h1 h2
  refine ⟨g3,fun a_4 h3 h4 N17 h5 h6=>(g4 a_4 h3 h4 N17 h5 h6).mono ?_⟩
  intro n_6 s_ s_1 n_7 x_5 x_6 x_7 x_8 x_9 N18 h7 h8
  obtain ⟨k1,k2,k3,k4,k5,k6,k7,k8,k9⟩:=h7 h8
  exact ⟨k1,k2,k3,k4,k5,k6,k7,k8,fun a_5 N19 h9 h10=>k9 a_5 N19 h9 h10 N19 (oB _)⟩
abbrev EvF:=Tm->Nat->Option (Tm × Nat)
def LeE (S:EvF):Prop:=∀ e s v s1,S e s=some (v,s1)->s1<=s
theorem zH2 {S:EvF} (O:LeE S):∀ (l:List Tm) (s:Nat) (l':List Tm) (s1:Nat),t8 S l s=some (l',s1)->s1<=s
 | [],s,l',s1,h=>by simp only [t8,oV,nq] at h;omega
 | t :: U,s,l',s1,h=>by
   simp only [t8] at h
   cases I:S t s with
   | none=>rw [I] at h;cases h
   | some p=>
     obtain ⟨t',s2⟩:=p
     rw [I] at h
     simp only at h
     cases J:t8 S U s2 with
     | none=>rw [J] at h;cases h
     | some q=>
       obtain ⟨Y,s3⟩:=q
       rw [J] at h
       simp only [oV,nq] at h
       have h1:=O _ _ _ _ I
       have h2:=zH2 O U _ _ _ J
       omega
theorem zNa {x y:Tm} {s s1:Nat} (h:pO x s=some (y,s1)):s1<=s:=by have:=xy h;omega
theorem zOc {S:EvF} (Y:LeE S):∀ (t:Tm) (m:Int) (s:Nat) (v:Tm) (s1:Nat),t.codE S m s=some (v,s1)->s1<=s:=by
 refine Tm.ind λk nm ot n ty re l ih m s v s1 h=>?_
 simp only [Tm.codE] at h
 split at h
 ·cases I:S (l.getD 0 tm0) s with
  | none=>rw [I] at h;cases h
  | some p=>
    obtain ⟨x,s2⟩:=p
    rw [I] at h
    simp only at h
    split at h
    ·have h1:=Y _ _ _ _ I
     have h2:=zNa h
     omega
    ·cases h
 ·have key:∀ (xs:List Tm),(∀ x∈xs,x∈l)->∀ (s:Nat) (l':List Tm) (s1:Nat),zQ S xs (zL k m) s=some (l',s1)->s1<=s:=by
   intro xs
   induction xs with
   | nil=>intro _ s l' s1 h;simp only [zQ,oV,nq] at h;omega
   | cons x xs J=>
     intro U s l' s1 h
     simp only [zQ] at h
     cases I:x.codE S (zL k m) s with
     | none=>rw [I] at h;cases h
     | some p=>
       obtain ⟨x',s2⟩:=p
       rw [I] at h
       simp only at h
       cases O:zQ S xs (zL k m) s2 with
       | none=>rw [O] at h;cases h
       | some q=>
         obtain ⟨aa,s3⟩:=q
         rw [O] at h
         simp only [oV,nq] at h
         have h1:=ih x (U x (by simp)) _ _ _ _ I
         have h2:=J (λy hy=>U y (by simp [hy])) _ _ _ O
         omega
  cases I:zQ S l (zL k m) s with
  | none=>rw [I] at h;cases h
  | some p=>
    obtain ⟨l',s2⟩:=p
    rw [I] at h
    simp only [oV,nq] at h
    have:=key l (λx hx=>hx) _ _ _ I
    omega
theorem zAg:∀ f,LeE (evT f)
 | 0,e,s,v,s1,h=>by cases h
 | f + 1,.mk k nm ot n ty re l,s,v,s1,h=>by
   simp only [evT] at h
   split at h
   ·simp only [oV,nq] at h;omega
   split at h
   ·cases I:(l.getD 0 tm0).codE (evT f) 1 s with
    | none=>rw [I] at h;cases h
    | some p=>
      obtain ⟨b,s2⟩:=p
      rw [I] at h
      simp only at h
      split at h
      ·simp only [oV,nq] at h
       have:=zOc (zAg f) _ _ _ _ _ I
       omega
      ·cases h
   ·cases I:t8 (evT f) (l.take (yO k l.length)) s with
    | none=>rw [I] at h;cases h
    | some p=>
      obtain ⟨l1,s2⟩:=p
      rw [I] at h
      simp only at h
      split at h
      ·cases h
      ·cases hc:pO (Tm.mk k nm ot n ty re (l1++l.drop (yO k l.length))).apl.1 s2 with
       | none=>rw [hc] at h;cases h
       | some q=>
         obtain ⟨x,J⟩:=q
         rw [hc] at h
         simp only at h
         have O:=zH2 (zAg f) _ _ _ _ I
         have U:=zNa hc
         have Y:=zAg f _ _ _ _ h
         omega
theorem zBa {S S':EvF} (I:LeE S):∀ (l:List Tm) (s:Nat),(∀ x∈l,∀ s',s'<=s->S x s'=S' x s')->t8 S l s=t8 S' l s
 | [],s,_=>rfl
 | t :: J,s,h=>by
   simp only [t8]
   rw [<-h t (by simp) s (oB _)]
   cases O:S t s with
   | none=>rfl
   | some p=>
     obtain ⟨t',s2⟩:=p
     have Y:=I _ _ _ _ O
     simp only
     rw [zBa I J s2 λx U s' hs=>h x (by simp [U]) s' (by omega)]
theorem zGh {S S':EvF} (Y:LeE S) (h0:∀ s,S tm0 s=S' tm0 s):∀ (t:Tm) (m:Int) (s:Nat),(∀ x s',x.dp+1<=t.dp->s'<=s->S x s'=S' x s')->(t.codE S m s=t.codE S' m s):=by
 refine Tm.ind λk nm ot n ty re l ih m s h=>?_
 simp only [Tm.codE]
 split
 ·have e:S (l.getD 0 tm0) s=S' (l.getD 0 tm0) s:=by
   by_cases hl:0<l.length
   ·exact h (l.getD 0 tm0) s (Tm.dp_mem (zC hl)) (oB _)
   ·rw [nZ.1 (by omega:l.length=0)]
    exact h0 s
  rw [e]
 ·have key:∀ (xs:List Tm),(∀ x∈xs,x∈l)->∀ s',s'<=s->zQ S xs (zL k m) s'=zQ S' xs (zL k m) s':=by
   intro xs
   induction xs with
   | nil=>intro _ s' _;rfl
   | cons x xs I=>
     intro J s' hs
     have O:=Tm.dp_mem (k:=k) (nm:=nm) (ot:=ot) (n:=n) (ty:=ty) (re:=re) (J x (by simp))
     simp only [zQ]
     rw [<-ih x (J x (by simp)) (zL k m) s' λy s2 U aa=>h y s2 (by omega) (by omega)]
     cases hg:x.codE S (zL k m) s' with
     | none=>rfl
     | some p=>
       obtain ⟨x',s2⟩:=p
       have h1:=zOc Y _ _ _ _ _ hg
       simp only
       rw [I (λy U=>J y (by simp [U])) s2 (by omega)]
  rw [key l (λx O=>O) s (oB _)]
theorem zIH:∀ (f s:Nat),evT f tm0 s=none
 | 0,_=>rfl
 | f+1,s=>by
   show evT (f+1) (.mk 0 (bytes []) (bytes []) 0 (.mk 0 []) (.mk 0 []) []) s=none
   simp only [evT]
   rw [if_neg (by decide),if_neg (by decide)]
   rfl
theorem zHg:∀ (f g:Nat) (e:Tm) (s:Nat),e.dp+401*s<=f->e.dp+401*s<=g->evT f e s=evT g e s
 | 0,g,e,s,h,_=>by have:=Tm.dp_pos e;omega
 | f+1,0,e,s,_,h=>by have:=Tm.dp_pos e;omega
 | f + 1,g+1,.mk k nm ot n ty re l,s,Y,hg=>by
   have U:∀ s,evT f tm0 s=evT g tm0 s:=λs=>by rw [zIH,zIH]
   have I:∀ x∈l,∀ s',s'<=s->evT f x s'=evT g x s':=λx J s' hs=>by
    have:=Tm.dp_mem (k:=k) (nm:=nm) (ot:=ot) (n:=n) (ty:=ty) (re:=re) J
    exact zHg f g x s' (by omega) (by omega)
   simp only [evT]
   split
   ·rfl
   split
   ·rw [zGh (zAg f) U (l.getD 0 tm0) 1 s λx s' J hs=>by
     by_cases O:0<l.length
     ·have:=Tm.dp_mem (k:=k) (nm:=nm) (ot:=ot) (n:=n) (ty:=ty) (re:=re) (zC O)
      exact zHg f g x s' (by omega) (by omega)
     ·have hd:=Tm.dp_pos x
      rw [nZ.1 (by omega:l.length=0)] at J
      have:(List.getD ([]:List Tm) 0 tm0).dp=1:=rfl
      omega]
   ·rw [zBa (zAg f) _ s λx J=>I x (oU J)]
    cases O:t8 (evT g) (l.take (yO k l.length)) s with
    | none=>rfl
    | some p=>
      obtain ⟨l1,s1⟩:=p
      have h1:=zH2 (zAg g) _ _ _ _ O
      simp only
      split
      ·rfl
      ·cases hc:pO (Tm.mk k nm ot n ty re (l1++l.drop (yO k l.length))).apl.1 s1 with
       | none=>rfl
       | some q=>
         obtain ⟨x,s2⟩:=q
         obtain ⟨rfl,e2,e3⟩:=xy hc
         have hd:=Tm.dp_sz (Tm.mk k nm ot n ty re (l1++l.drop (yO k l.length))).apl.1
         simp only
         exact zHg f g _ s2 (by omega) (by omega)
/-- an evaluation with gas enough -/
def ev:EvF:=λe s=>evT (e.dp+401*s) e s
theorem zNA {f:Nat} {e:Tm} {s:Nat} (h:e.dp+401*s<=f):evT f e s=ev e s:=zHg _ _ _ _ h (oB _)
theorem zTw:LeE ev:=λe s v s1 h=>zAg _ _ _ _ _ h
theorem zSg (s:Nat):ev tm0 s=none:=zIH _ _
theorem zGA {e:Tm} (h:e.res=true) (s:Nat):ev e s=some (e,s):=by
 cases e with
 | mk k nm ot n ty re l=>
 have hd:=Tm.dp_pos (.mk k nm ot n ty re l)
 unfold ev
 rw [show (Tm.mk k nm ot n ty re l).dp+401*s=((Tm.mk k nm ot n ty re l).dp - 1+401*s)+1 by omega]
 simp only [evT]
 rw [if_pos h]
theorem zLx {nm ot:ByteArray} {n:Int} {ty re:Ty} {l:List Tm} {s:Nat} (I:(Tm.mk 10 nm ot n ty re l).res=false):ev (.mk 10 nm ot n ty re l) s=match (l.getD 0 tm0).codE ev 1 s with
   | none=>none
   | some (b,s1)=>if (Tm.nod 10 [b]).res then some (Tm.nod 10 [b],s1) else none:=by
 have hd:=Tm.dp_pos (.mk 10 nm ot n ty re l)
 unfold ev
 rw [show (Tm.mk 10 nm ot n ty re l).dp+401*s=((Tm.mk 10 nm ot n ty re l).dp - 1+401*s)+1 by omega]
 simp only [evT]
 rw [if_neg (by rw [I];decide),if_pos trivial]
 rw [zGh (zAg _) (S':=ev) (λs=>by rw [zIH,zSg]) (l.getD 0 tm0) 1 s λx s' J hs=>by
  by_cases O:0<l.length
  ·have:=Tm.dp_mem (k:=10) (nm:=nm) (ot:=ot) (n:=n) (ty:=ty) (re:=re) (zC O)
   exact zNA (by omega)
  ·have hd:=Tm.dp_pos x
   rw [nZ.1 (by omega:l.length=0)] at J
   have:(List.getD ([]:List Tm) 0 tm0).dp=1:=rfl
   omega]
 rfl
theorem zGx {k:Int} {nm ot:ByteArray} {n:Int} {ty re:Ty} {l:List Tm} {s:Nat} (I:(Tm.mk k nm ot n ty re l).res=false) (J:¬k=10) :
  ev (.mk k nm ot n ty re l) s=match t8 ev (l.take (xA k l.length)) s with
   | none=>none
   | some (l1,s1)=>if (Tm.mk k nm ot n ty re (l1++l.drop (xA k l.length))).apl.2=0 then none else
     match pO (Tm.mk k nm ot n ty re (l1++l.drop (xA k l.length))).apl.1 s1 with
     | none=>none
     | some (x,s2)=>ev x s2:=by
 have hd:=Tm.dp_pos (.mk k nm ot n ty re l)
 show evT _ _ s=_
 rw [show (Tm.mk k nm ot n ty re l).dp+401*s=((Tm.mk k nm ot n ty re l).dp - 1+401*s)+1 by omega,zLf I J]
 rw [zBa (zAg _) (S':=ev) _ s λx O s' hs=>by
  have:=Tm.dp_mem (k:=k) (nm:=nm) (ot:=ot) (n:=n) (ty:=ty) (re:=re) (oU O)
  exact zNA (by omega)]
 cases U:t8 ev (l.take (xA k l.length)) s with
 | none=>rfl
 | some p=>
   obtain ⟨l1,s1⟩:=p
   have Y:=zH2 zTw _ _ _ _ U
   simp only
   split
   ·rfl
   ·cases hc:pO (Tm.mk k nm ot n ty re (l1++l.drop (xA k l.length))).apl.1 s1 with
    | none=>rfl
    | some q=>
      obtain ⟨x,s2⟩:=q
      obtain ⟨rfl,e2,e3⟩:=xy hc
      have hd:=Tm.dp_sz (Tm.mk k nm ot n ty re (l1++l.drop (xA k l.length))).apl.1
      simp only
      exact zNA (by omega)
theorem zEg {S S':Tm->Tm × Int} {e:Tm}:∀ (l:List Tm) (i:Nat),(∀ x∈l,S x=S' x)->goS S e l i=goS S' e l i
 | [],_,_=>rfl
 | x::xs,i,h=>by
   simp only [goS]
   rw [h x (by simp),zEg xs (i+1) λy I=>h y (by simp [I])]
theorem zIZ {S S':Tm->Tm × Int} (Y:S tm0=S' tm0):∀ (t:Tm) (m:Int),(∀ x,x.dp+1<=t.dp->S x=S' x)->t.cod S m=t.cod S' m:=by
 refine Tm.ind λk nm ot n ty re l ih m h=>?_
 simp only [Tm.cod]
 split
 ·have e:S (l.getD 0 tm0)=S' (l.getD 0 tm0):=by
   by_cases hl:0<l.length
   ·exact h _ (Tm.dp_mem (zC hl))
   ·rw [nZ.1 (by omega:l.length=0)];exact Y
  have ep:(Tm.mk k nm ot n ty re l).pt 0=l.getD 0 tm0:=rfl
  unfold zJs
  rw [ep,e]
 ·have key:∀ (xs:List Tm),(∀ x∈xs,x∈l)->zK S xs (zL k m)=zK S' xs (zL k m):=by
   intro xs
   induction xs with
   | nil=>intro _;rfl
   | cons x xs I=>
     intro J
     have O:=Tm.dp_mem (k:=k) (nm:=nm) (ot:=ot) (n:=n) (ty:=ty) (re:=re) (J x (by simp))
     simp only [zK]
     rw [ih x (J x (by simp)) (zL k m) λy U=>h y (by omega),I λy U=>J y (by simp [U])]
  rw [key l λx O=>O]
theorem zHn:∀ f,Tm.stp f tm0=(tm0,0)
 | 0=>rfl
 | f+1=>rfl
theorem zKI:∀ (f g:Nat) (e:Tm),e.dp<=f->e.dp<=g->Tm.stp f e=Tm.stp g e
 | 0,g,e,h,_=>by have:=Tm.dp_pos e;omega
 | f+1,0,e,_,h=>by have:=Tm.dp_pos e;omega
 | f + 1,g+1,.mk k nm ot n ty re l,O,U=>by
   simp only [Tm.stp]
   split
   ·rfl
   split
   ·rw [zIZ (S':=Tm.stp g) (by rw [zHn,zHn]) _ 1 λx I=>by
     by_cases J:0<l.length
     ·have:=Tm.dp_mem (k:=k) (nm:=nm) (ot:=ot) (n:=n) (ty:=ty) (re:=re) (zC J)
      have I:x.dp+1<=(l.getD 0 tm0).dp:=I
      exact zKI f g x (by omega) (by omega)
     ·have hd:=Tm.dp_pos x
      have I:x.dp+1<=(l.getD 0 tm0).dp:=I
      rw [nZ.1 (by omega:l.length=0)] at I
      have:(List.getD ([]:List Tm) 0 tm0).dp=1:=rfl
      omega]
   ·rw [zEg (S':=Tm.stp g) _ 0 λx I=>by
     have:=Tm.dp_mem (k:=k) (nm:=nm) (ot:=ot) (n:=n) (ty:=ty) (re:=re) (oU I)
     exact zKI f g x (by omega) (by omega)]
/-- a step with gas enough -/
def st1 (e:Tm):Tm × Int:=e.stp e.dp
theorem zNM {f:Nat} {e:Tm} (h:e.dp<=f):Tm.stp f e=st1 e:=zKI _ _ _ h (oB _)
theorem zRb:st1 tm0=(tm0,0):=zHn _
theorem zIg {nm ot:ByteArray} {n:Int} {ty re:Ty} {l:List Tm} (J:(Tm.mk 10 nm ot n ty re l).res=false):st1 (.mk 10 nm ot n ty re l)=(Tm.mk 10 nm ot n ty re (l.set 0 ((l.getD 0 tm0).cod st1 1).1),((l.getD 0 tm0).cod st1 1).2.1):=by
 have hd:=Tm.dp_pos (.mk 10 nm ot n ty re l)
 unfold st1
 obtain ⟨g,O⟩:∃ g,(Tm.mk 10 nm ot n ty re l).dp=g+1:=⟨_,(m8 hd).symm⟩
 rw [O]
 simp only [Tm.stp]
 rw [if_neg (by rw [J];decide),if_pos (show (Tm.mk 10 nm ot n ty re l).kd=10 from rfl)]
 rw [zIZ (S':=st1) (by rw [zHn,zRb]) _ 1 λx I=>by
  by_cases U:0<l.length
  ·have:=Tm.dp_mem (k:=10) (nm:=nm) (ot:=ot) (n:=n) (ty:=ty) (re:=re) (zC U)
   have I:x.dp+1<=(l.getD 0 tm0).dp:=I
   exact zNM (by omega)
  ·have hd:=Tm.dp_pos x
   have I:x.dp+1<=(l.getD 0 tm0).dp:=I
   rw [nZ.1 (by omega:l.length=0)] at I
   have:(List.getD ([]:List Tm) 0 tm0).dp=1:=rfl
   omega]
 rfl
theorem zLv {k:Int} {nm ot:ByteArray} {n:Int} {ty re:Ty} {l:List Tm} (I:(Tm.mk k nm ot n ty re l).res=false) (J:¬k=10) :
  st1 (.mk k nm ot n ty re l)=match goS st1 (.mk k nm ot n ty re l) (l.take (xA k l.length)) 0 with
      | some r=>r
      | none=>(Tm.mk k nm ot n ty re l).apl:=by
 have hd:=Tm.dp_pos (.mk k nm ot n ty re l)
 unfold st1
 obtain ⟨g,O⟩:∃ g,(Tm.mk k nm ot n ty re l).dp=g+1:=⟨_,(m8 hd).symm⟩
 rw [O]
 simp only [Tm.stp]
 rw [if_neg (by rw [I];decide),if_neg (show ¬(Tm.mk k nm ot n ty re l).kd=10 from J)]
 rw [zEg (S':=st1) _ 0 λx U=>by
  have:=Tm.dp_mem (k:=k) (nm:=nm) (ot:=ot) (n:=n) (ty:=ty) (re:=re) (oU U)
  exact zNM (by omega)]
 rfl
theorem zRr {k:Int} {nm ot:ByteArray} {n:Int} {ty re:Ty} {l:List Tm} (h:(Tm.mk k nm ot n ty re l).ok=true):xA k l.length<=l.length:=by
 unfold xA
 split
 ·exact oB _
 ·split
  ·rename_i J
   obtain ⟨I,O,U,_⟩:=yi h
   rcases J with h | h | h | h
   ·have:=U h;omega
   ·have:=O (.inr h);omega
   ·have:=I (by omega);omega
   ·have:=I (by omega);omega
  ·omega
def EvL (f F:Nat):Prop:=∀ (E:Env) (Q:QT [.ag 9,.i,.i,.bool]) (N s:Nat) (e:Tm) (d:D) (N':Nat),N<=N'->e.Is d->e.ok=true->e.sz+400*s<=1300000->e.dp+401*s<=f->s<=F ->
 (∀ d' le us b N'',N<=N''->IvP (evT f e s) F d' le us b->Q d' le us b N'')->zZ E Q N s ((F:Int) - s) false d 0 (bytes []) (bytes []) 0 0 none [] 0 0 none [] 0 none [] 0 N'
theorem EvL.c {f F:Nat} (h:EvL f F):IvC f F:=λe d s hd J hs O I N Q U=>s8 N d s _ false Q λE _=>h E Q N s e d N (oB _) hd J hs O I U
theorem zOp (E:Env) (Q:QT [.ag 9,.i,.i,.bool]) (N:Nat) (x y:Int) (d:D) (N':Nat) (I:∀ N'',N'<=N''->Q d x y true N''):zZ E Q N x y true d 0 (bytes []) (bytes []) 0 0 none [] 0 0 none [] 0 none [] 0 N':=
 vk _ _ _ _ _ _ _ _ _ _ _ _ _ _ _ _ _ _ _ _ _ _ _ (Br.not (λh=>by cases h) λ_=>⟨zP,I⟩)
theorem zGd {F:Nat} (hF:F<=200):∀ f,EvL f F
 | 0=>fun E Q N s e d N' _ _ _ _ h=>absurd (Tm.dp_pos e) (by omega)
 | f + 1 => by
   have hE:EvL f F:=zGd hF f
   have hI:=hE.c
   intro E Q N s
   induction s using Nat.strongRecOn with
   | ind s ihs=>
   intro e d N' hN' hd ho hs hf hsF hQ
   have hFF:=zMp ho (by omega)
   have hG:=hFF.z.g
   have hd0:=hd
   cases e with
   | mk k nm ot n0 ty re l=>
   obtain ⟨h1,h2,h3⟩:=Tm.ok_mk.1 ho
   obtain ⟨t0,t1,r0,r1,a,es,c,rfl,hh,hlen,hes⟩:=Tm.is_mk.1 hd
   have hl:=hes.len
   have hll:=hG.2.2.1
   refine vk _ _ _ _ _ _ _ _ _ _ _ _ _ _ _ _ _ _ _ _ _ _ _ ?_
   rw [ms,zCF]
   intro N1 hN1
   refine xm hd0 ho hFF.c N1 _ fun N2 hN2 _=>Br.not (fun hr=>⟨_,rfl,Br.beq (fun h10 N3 hN3=>?_) fun h10 N5 hN5=>?_⟩) fun hr=>⟨zP,fun N9 hN9=>?_⟩
   ·-- a quotation
    subst h10
    obtain ⟨b,eb,hbo,_⟩:=zEC ho
    rw [eb] at hd0 hr hQ hs hf
    rw [zNl hbo hr] at hQ
    have hdn:(Tm.nod 10 [b]).dp=b.dp+1:=by simp [Tm.nod,Tm.dp,vD]
    have hsn:(Tm.nod 10 [b]).sz=1+(b.sz+0):=rfl
    refine zL9 hF hI hd0 hbo hs hf hsF N3 _ fun d' le us v N4 hN4 hp _ _=>?_
    have ee:∃ w:Tm,w.Is (.ag [.j 10,.t nm,.t ot,.j n0,t0,t1,r0,r1,.sl a 9 es c])/\w.ok=true/\w.sz<=1300000:=⟨_,hd0,pZ hbo,by omega⟩
    cases hfs:b.fs 1 with
    | none=>
      rw [hfs] at hp hQ
      obtain ⟨rfl,rfl⟩:=hp
      exact zOp E Q N _ _ _ N4 fun N5 hN5=>hQ _ _ _ _ _ (by omega) ⟨rfl,ee⟩
    | some p=>
      rw [hfs] at hp hQ
      simp only at hp hQ
      cases hc:p.codE (evT f) 1 s with
      | none=>
        rw [hc] at hp hQ
        obtain ⟨rfl,rfl⟩:=hp
        exact zOp E Q N _ _ _ N4 fun N5 hN5=>hQ _ _ _ _ _ (by omega) ⟨rfl,ee⟩
      | some w=>
        obtain ⟨y,s1⟩:=w
        rw [hc] at hp hQ
        obtain ⟨rfl,rfl,rfl,hd'⟩:=hp
        have hpo:=zR5 hfs hbo
        have hpk:=zSS b 1 p hfs
        obtain ⟨o1,o2,o3,o4⟩:=zEA (f:=p.dp) (fun e s v s1 _=>sZ f e s v s1) p (by omega) hpo _ _ _ _ hc
        have hlt:s1<s/\y.sz<=400:=by
         cases p with
         | mk kp np op mp tp rp lp=>
         have hpk:kp=11:=hpk
         have hl1:=(yi hpo).1 (by omega)
         have hm1:=zC (l:=lp) (i:=0) (by omega)
         simp only [Tm.codE,and_true] at hc
         rw [if_pos hpk] at hc
         cases hev:evT f (lp.getD 0 tm0) s with
         | none=>rw [hev] at hc;cases hc
         | some q=>
           obtain ⟨x,s2⟩:=q
           rw [hev] at hc
           simp only at hc
           have ev:=sZ f _ _ _ _ hev ((Tm.ok_mk.1 hpo).1 _ hm1)
           have ev1:=ev.l
           split at hc
           ·obtain ⟨e1,e2,e3⟩:=xy hc
            rw [e1]
            exact ⟨by omega,e3⟩
           ·cases hc
        have hrz:=zMw b 1 p y hfs
        have hsn2:(Tm.nod 10 [b.rpl 1 y]).sz=1+((b.rpl 1 y).sz+0):=rfl
        have hdn2:(Tm.nod 10 [b.rpl 1 y]).dp=(b.rpl 1 y).dp+1:=by simp [Tm.nod,Tm.dp,vD]
        have hdr:=zSq b 1 y
        have hydp:=Tm.dp_sz y
        have hpz:=Tm.sz_pos p
        exact ihs s1 hlt.1 _ d' N4 (by omega) hd' (pZ (zQt b 1 y hbo o1)) (by omega) (by omega) (by omega) hQ
   ·-- another form
    rw [zLf hr h10] at hQ
    have hsl:=zRr ho
    refine uh _ _ hd0 hG N5 _ ?_
    intro x4 x5 x6 x7 es' c' N6 hN6 hH hes' _ _ _ N7 hN7
    refine zGZ N7 _ fun N8 hN8 _=>?_
    rw [hl]
    have ee:∃ w:Tm,w.Is (.ag [.j k,.t nm,.t ot,.j n0,t0,t1,r0,r1,.sl a 9 es c])/\w.ok=true/\w.sz<=1300000:=⟨_,hd0,ho,by omega⟩
    have key:∀ (j i:Nat) (don:List Tm) (r:List D) (q s' N':Nat),N<=N'->i+j=xA k l.length->don.length=i->All2 Tm.Is (don++l.drop i) r->(∀ y∈don,y.ok=true/\y.res=true)->s'<=s->zF don+400*s'<=zF (l.take i)+400*s ->
      (∀ d' le us b N',N<=N'->IvP (match t8 (evT f) ((l.drop i).take j) s' with
       | none=>none
       | some (l1,s1)=>if (Tm.mk k nm ot n0 ty re ((don++l1)++l.drop (xA k l.length))).apl.2=0 then none else match pO (Tm.mk k nm ot n0 ty re ((don++l1)++l.drop (xA k l.length))).apl.1 s1 with
         | none=>none
         | some (x,s2)=>evT f x s2) F d' le us b->Q d' le us b N') ->
      yf E Q N (xA k l.length:Nat) i s' ((F:Int) - s') false (.ag [.j k,.t nm,.t ot,.j n0,t0,t1,r0,r1,.sl a 9 es c]) 0 (bytes []) (bytes []) 0 0 none [] 0 0 none [] 0 none [] 0 k nm ot n0 x4 x5 x6 x7 r.length q r q N':=by
     intro j
     induction j with
     | zero=>
       intro i don r q s' N' hN' hij hdl hA hdo hs' hz hq
       simp only [mN,t8,o7] at hq
       have hi:i=xA k l.length:=by omega
       subst hi
       have hrl:=hA.len
       have hlen3:(don++l.drop (xA k l.length)).length=l.length:=by
        rw [oH,hdl,mA];omega
       have hol:=zOa ho (l1:=don) (j:=xA k l.length) (by rw [ou];omega) fun x hx=>(hdo x hx).1
       have h6:=xe (l.take (xA k l.length)) (l.drop (xA k l.length))
       rw [om] at h6
       have h7:=xe don (l.drop (xA k l.length))
       have h8:(Tm.mk k nm ot n0 ty re (don++l.drop (xA k l.length))).sz=1+zF (don++l.drop (xA k l.length)):=rfl
       have h9:(Tm.mk k nm ot n0 ty re l).sz=1+zF l:=rfl
       have hdpp:=Tm.dp_pos (Tm.mk k nm ot n0 ty re l)
       refine vl _ _ _ _ _ _ _ _ _ _ _ _ _ _ _ _ _ _ _ _ _ _ _ _ _ _ _ _ _ _ _ _ _ _ _ _ _ (Br.dec (fun h=>by omega) fun _=>⟨⟨rfl,rfl⟩,⟨rfl,rfl⟩,fun a2 N4 hN4 _ N5 hN5=>?_⟩)
       have hres:k=12->((don++l.drop (xA k l.length)).getD 0 tm0).res=true:=fun h12=>by
        have hs1:xA k l.length=1:=by unfold xA;rw [if_neg (by omega),if_pos (by omega)]
        rw [hs1] at hdl ⊢
        cases don with
        | nil=>simp at hdl
        | cons x don=>exact (hdo x (by simp)).2
       have hap:=zNB _ (show (Tm.mk k nm ot n0 ty re (don++l.drop (xA k l.length))).sz<=1300000 by omega)
       have hao:=zK9 hol
       have hFo:=zMp hol (by omega)
       generalize don++l.drop (xA k l.length)=L at hq hA hlen3 hol hres hap hao hFo hrl
       refine zOr (f:=(Tm.mk k nm ot n0 ty re L).dp) (Tm.is_mk.2 ⟨_,_,_,_,_,_,_,rfl,hH,by omega,hA⟩) (hFo.up (by omega)) hres N5 _ fun dx N6 hN6 hx _ _ N7 hN7=>?_
       by_cases h0:(Tm.mk k nm ot n0 ty re L).apl.2=0
       ·rw [h0]
        rw [if_pos h0] at hq
        exact px _ _ _ _ N7 _ fun N8 hN8 _=>⟨zP,fun N9 hN9=>hq _ _ _ _ _ (by omega) ⟨rfl,ee⟩⟩
       ·rw [if_neg h0] at hq
        refine zNc hx (by omega) h0 hF (by omega) N7 _ fun v le us b N8 hN8 hc _=>?_
        cases hce:pO (Tm.mk k nm ot n0 ty re L).apl.1 s' with
        | none=>
          rw [hce] at hc hq
          obtain ⟨rfl,rfl⟩:=hc
          exact ⟨zP,fun N9 hN9=>hq _ _ _ _ _ (by omega) ⟨rfl,ee⟩⟩
        | some w=>
          obtain ⟨y,s2⟩:=w
          obtain ⟨e1,e2,e3⟩:=xy hce
          rw [hce] at hc hq
          subst e1
          obtain ⟨rfl,rfl,rfl,rfl⟩:=hc
          have hdy:=Tm.dp_sz (Tm.mk k nm ot n0 ty re L).apl.1
          exact hE E Q N s2 _ dx N8 (by omega) hx (hao e3) (by omega) (by omega) (by omega) hq
     | succ j ih=>
       intro i don r q s' N' hN' hij hdl hA hdo hs' hz hq
       have hrl:=hA.len
       simp only [oH,mA] at hrl
       have hlt:i<l.length:=by omega
       have hgi:=zY hlt
       have hmi:=zC hlt
       rw [zLS hgi] at hq
       simp only [t8] at hq
       have hdm:=Tm.dp_mem (k:=k) (nm:=nm) (ot:=ot) (n:=n0) (ty:=ty) (re:=re) hmi
       have hdr:l.drop i=l.getD i tm0::l.drop (i+1):=by
        obtain ⟨g1,g2⟩:=oC.1 hgi
        rw [ni g1,g2]
       have hst:zF (l.take (i+1))=zF (l.take i)+(l.getD i tm0).sz:=by
        rw [xN hgi,xe];simp [zF]
       have hst2:=xe (l.take (i+1)) (l.drop (i+1))
       rw [om] at hst2
       have h9:(Tm.mk k nm ot n0 ty re l).sz=1+zF l:=rfl
       have hri:(l.getD i tm0).Is (r.getD i default):=by
        refine hA.get ?_
        rw [hdr,oP (by omega),hdl,Nat.sub_self];rfl
       refine vl _ _ _ _ _ _ _ _ _ _ _ _ _ _ _ _ _ _ _ _ _ _ _ _ _ _ _ _ _ _ _ _ _ _ _ _ _ (Br.dec (fun _=>?_) fun h=>absurd (by omega) h)
       rw [oF,oe]
       refine ⟨⟨by omega,by omega,by omega⟩,by omega,fun N1 hN1=>hI (l.getD i tm0) _ s' hri (h1 _ hmi) (by omega) (by omega) (by omega) N1 _ fun dx le us b N2 hN2 hp _ _=>⟨⟨by omega,by omega,by omega⟩,by omega,?_⟩⟩
       cases hev:evT f (l.getD i tm0) s' with
       | none=>
         rw [hev] at hp hq
         obtain ⟨rfl,_⟩:=hp
         exact ⟨zP,fun N3 hN3=>hq _ _ _ _ _ (by omega) ⟨rfl,ee⟩⟩
       | some p=>
         obtain ⟨x',s1⟩:=p
         rw [hev] at hp hq
         obtain ⟨rfl,rfl,rfl,hx'⟩:=hp
         have ev:=sZ f _ _ _ _ hev (h1 _ hmi)
         have ev1:=ev.l
         have ev2:=ev.z
         have hA2:=xk (j:=i) hA hx'
         have e1:=zKc don (l.getD i tm0) (l.drop (i+1)) x'
         rw [hdl] at e1
         rw [hdr,e1] at hA2
         rw [i64_in _ (by omega),uD]
         have:=ih (i+1) (don++[x']) (r.set i dx) q s1 N2 (by omega) (by omega) (by simp [hdl]) hA2 (fun y hy=>by
          rcases oK.1 hy with h | h
          ·exact hdo y h
          ·rw [nH] at h;subst h;exact ⟨ev.o,ev.r⟩) (by omega) (by rw [xe,hst];simp only [zF];omega) (fun d' fu st b N' hN' hcc=>hq _ _ _ _ _ hN' (by
          simp only
          cases hx:t8 (evT f) ((l.drop (i+1)).take j) s1 with
          | none=>rw [hx] at hcc;exact hcc
          | some p=>obtain ⟨l',s2⟩:=p;rw [hx] at hcc;simpa using hcc))
         simpa using this
    exact key (xA k l.length) 0 [] es' c' s N8 (by omega) (by omega) rfl hes' (by simp) (oB _) (by simp [zF]) (fun d' fu st b N' hN' hc=>hQ _ _ _ _ _ hN' hc)
   ·simp only [evT] at hQ
    rw [if_pos hr] at hQ
    exact hQ _ _ _ _ _ (by omega) ⟨rfl,rfl,rfl,hd0⟩
/-- what BigStep comes to -/
def zBN (e:Tm) (fu:Int):Tm × Int × Bool:=if (pW e 0&&inB fu 0 200)=true then (match evT (e.dp+401*fu.toNat) e fu.toNat with
 | none=>(tm0,0,false)
 | some (v,s1)=>(v,fu - s1,true)) else (tm0,0,false)
theorem zFD {e:Tm} {d:D} (he:e.Is d) (hc:e.sz<=1048577) (a6:e.cnt<=4000000) (fu:Int) (N:Nat) (Q:QT [.ag 9,.i,.bool]) (I:∀ d' N',N<=N'->(zBN e fu).1.Is d'->Q d' (zBN e fu).2.1 (zBN e fu).2.2 N'):ACalls prog 24 [.ag 9,.i,.bool] [.dg 9 d,.j fu] N Q:=by
 have hG:=Tm.G_cnt e (by omega)
 unfold zBN at I
 refine zFs N _ fu Q λ_ N1 a7=>rz e d he (by omega) 0 N1 _ λN2 a8 _=>Br.not (λU N3 ba=>?_) λU N4 bb=>xE _ _ _ N4 _ λN5 bc _=>Br.not (λhb N6 bd=>?_) λhb N7 bg=>?_
 ·rw [if_neg (by rw [U];simp)] at I
  exact I _ _ (by omega) rP
 ·rw [if_neg (by rw [U,hb];decide)] at I
  exact I _ _ (by omega) rP
 rw [if_pos (by rw [U,hb];rfl)] at I
 have bh:=yQ.1 hb
 have aa:e.ok=true:=by unfold pW at U;simp at U;exact U.1
 refine vQ e d he hG N7 _ ?_
 obtain ⟨F,rfl⟩:∃ F:Nat,fu=(F:Int):=⟨fu.toNat,by omega⟩
 rw [oF] at I
 cases e with
 | mk k nm ot n0 ty re l=>
 intro x4 x5 x6 x7 ac c' N8 bi ae J bj _ _
 have bm:=J.len
 have bn:=hG.2.2.1
 refine ⟨⟨rfl,rfl⟩,λa1 N9 bp _ ah am=>?_⟩
 have ai:(Tm.mk k nm ot n0 ty re l).Is (.ag [.j k,.t nm,.t ot,.j n0,x4,x5,x6,x7,.sl a1 9 ac c']):=Tm.is_mk.2 ⟨_,_,_,_,_,_,_,rfl,ae,by omega,J⟩
 have:=qr (F:=F) (by omega) _ _ _ F ai aa (by omega) (oB _) (oB _) ah
 rw [show (F:Int) - (F:Int)=0 by omega] at this
 refine this _ λd' bq st b bt ao hp _ _=>?_
 cases Y:evT ((Tm.mk k nm ot n0 ty re l).dp+401*F) (Tm.mk k nm ot n0 ty re l) F with
 | none=>
   rw [Y] at hp I
   have hp:b=true:=hp
   subst hp
   exact λbv aq=>I _ _ (by omega) rP
 | some w=>
   obtain ⟨v,s1⟩:=w
   rw [Y] at hp I
   obtain ⟨rfl,rfl,rfl,aj⟩:=hp
   have ev:=sZ _ _ _ _ _ Y aa
   have bw:=ev.z
   have ab:=zSM ev.o (by omega)
   intro ak au
   refine vQ v _ aj ab ak _ ?_
   cases v with
   | mk k2 bz b1 n2 b2 b3 l2=>
   intro z4 z5 z6 z7 b4 c2 b5 aw al O b6 _ _
   have b7:=O.len
   have ax:=ab.2.2.1
   exact ⟨⟨rfl,rfl⟩,⟨rfl,rfl⟩,λa2 b8 ay _ b9 az=>I _ _ (by omega) (Tm.is_mk.2 ⟨_,_,_,_,_,_,_,rfl,al,by omega,O⟩)⟩
theorem zKV {N N':Nat}:Own N N' (.ag [.j 0,.t (bytes []),.t (bytes []),.j 0,.j 0,.sl none 2 [] 0,.j 0,.sl none 2 [] 0,.sl none 9 [] 0]):=
 ⟨by simp [D.foot,zH],by simp [D.Flat0,xc],by simp [D.foot,zH],by simp [D.foot,zH]⟩
theorem zFS {e:Tm} {d:D} (he:e.Is d) (hc:e.sz<=1048577) (a7:e.cnt<=4000000) (fu:Int) (N:Nat) (Q:QT [.ag 9,.i,.bool]) (I:∀ d' N',N<=N'->(zBN e fu).1.Is d'->Own N N' d'->Q d' (zBN e fu).2.1 (zBN e fu).2.2 N'):ACalls prog 23 [.ag 9,.i,.bool] [.dg 9 d,.j fu] N Q:=by
 have hG:=Tm.G_cnt e (by omega)
 unfold zBN at I
 refine zFr N _ fu Q λ_ N1 a8=>ui e d he (by omega) 0 N1 _ λN2 ba _=>Br.not (λU N3 bb=>?_) λU N4 bc=>yL _ _ _ N4 _ λN5 bd _=>Br.not (λhb N6 bg=>?_) λhb N7 bh=>?_
 ·rw [if_neg (by rw [U];simp)] at I
  exact I _ _ (by omega) rP zKV
 ·rw [if_neg (by rw [U,hb];decide)] at I
  exact I _ _ (by omega) rP zKV
 rw [if_pos (by rw [U,hb];rfl)] at I
 have bi:=yQ.1 hb
 have aa:e.ok=true:=by unfold pW at U;simp at U;exact U.1
 refine uh e d he hG N7 _ ?_
 obtain ⟨F,rfl⟩:∃ F:Nat,fu=(F:Int):=⟨fu.toNat,by omega⟩
 rw [oF] at I
 cases e with
 | mk k nm ot n0 ty re l=>
 intro x4 x5 x6 x7 ae c' N8 bj ah J bm _ _
 have bn:=J.len
 have bp:=hG.2.2.1
 refine ⟨⟨rfl,rfl⟩,λa1 N9 bq _ ai aq=>?_⟩
 have aj:(Tm.mk k nm ot n0 ty re l).Is (.ag [.j k,.t nm,.t ot,.j n0,x4,x5,x6,x7,.sl a1 9 ae c']):=Tm.is_mk.2 ⟨_,_,_,_,_,_,_,rfl,ah,by omega,J⟩
 have:=(zGd (F:=F) (by omega) _).c _ _ F aj aa (by omega) (oB _) (oB _) ai
 rw [show (F:Int) - (F:Int)=0 by omega] at this
 refine this _ λd' le us b bt au hp _ _=>?_
 cases Y:evT ((Tm.mk k nm ot n0 ty re l).dp+401*F) (Tm.mk k nm ot n0 ty re l) F with
 | none=>
   rw [Y] at hp I
   obtain ⟨rfl,_⟩:=hp
   exact λbv aw=>I _ _ (by omega) rP zKV
 | some w=>
   obtain ⟨v,s1⟩:=w
   rw [Y] at hp I
   obtain ⟨rfl,rfl,rfl,ak⟩:=hp
   have ev:=sZ _ _ _ _ _ Y aa
   have bw:=ev.z
   have ab:=zSM ev.o (by omega)
   intro al ax
   refine uh v _ ak ab al _ ?_
   cases v with
   | mk k2 bz b1 n2 b2 b3 l2=>
   intro z4 z5 z6 z7 b4 c2 b5 ay am O ao _ _
   have b6:=O.len
   have az:=ab.2.2.1
   exact ⟨⟨rfl,rfl⟩,⟨rfl,rfl⟩,λa2 b7 a6 hf b8 ac=>I _ _ (by omega) (Tm.is_mk.2 ⟨_,_,_,_,_,_,_,rfl,am,by omega,O⟩) ((vW (ao.mono (by omega) (by omega)) hf (oB _)).mono (oB _) ac)⟩
theorem zRl {e:Tm} (h:e.res=true):st1 e=(e,0):=by
 unfold st1
 obtain ⟨g,I⟩:∃ g,e.dp=g+1:=⟨_,(m8 (Tm.dp_pos e)).symm⟩
 rw [I]
 cases e
 simp only [Tm.stp]
 rw [if_pos h]
theorem zIC {S:Tm->Tm × Int}:∀ (t:Tm) (m:Int),(t.cod S m).2.2=false->t.made m=true:=by
 refine Tm.ind λk nm ot n ty re l Y m h=>?_
 have key:∀ (xs:List Tm),(∀ x∈xs,x∈l)->∀ m,zK S xs m=none->yk xs m=true:=by
  intro xs
  induction xs with
  | nil=>intro _ m _;rfl
  | cons x xs U=>
    intro O m h
    simp only [zK] at h
    split at h
    ·cases h
    ·rename_i hf
     cases I:zK S xs m with
     | none=>
       simp only [yk,oJ]
       exact ⟨Y x (O x (by simp)) m (by simpa using hf),U (λy hy=>O y (by simp [hy])) m I⟩
     | some p=>obtain ⟨a,b⟩:=p;rw [I] at h;cases h
 simp only [Tm.cod] at h
 split at h
 ·unfold zJs at h
  (repeat' split at h)<;>cases h
 ·rename_i hk
  cases I:zK S l (zL k m) with
  | none=>
    simp only [Tm.made,oJ,nL,key l (λx hx=>hx) _ I,and_true]
    by_cases J:k=11
    ·have:¬m=1:=λO=>hk ⟨J,O⟩
     simp [this]
    ·simp [J]
  | some p=>obtain ⟨a,b⟩:=p;rw [I] at h;cases h
/-- an evaluation after a step -/
def Nx (n:Nat):Prop:=∀ x:Tm,x.dp<=n->x.ok=true->(st1 x).2≠0->(st1 x).1.sz<=400->∀ s,ev x s=if s=0 then none else ev (st1 x).1 (s - 1)
theorem zS7 {n0:Nat} (hX:Nx n0):∀ (t:Tm),t.dp<=n0+1->t.ok=true->∀ m:Int,(t.cod st1 m).2.1≠0->(t.cod st1 m).1.sz<=400->∀ s,t.codE ev m s=if s=0 then none else (t.cod st1 m).1.codE ev m (s - 1):=by
 refine Tm.ind λk nm ot n ty re l ih hd aa m I J s=>?_
 obtain ⟨h1,h2,h3⟩:=Tm.ok_mk.1 aa
 by_cases hk:k=11/\m=1
 ·obtain ⟨rfl,rfl⟩:=hk
  have hl:=(yi aa).1 (by omega)
  have hm:=zC (l:=l) (i:=0) (by omega)
  have ai:=Tm.dp_mem (k:=11) (nm:=nm) (ot:=ot) (n:=n) (ty:=ty) (re:=re) hm
  have e1:(Tm.mk 11 nm ot n ty re l).cod st1 1=zJs st1 (.mk 11 nm ot n ty re l):=by simp only [Tm.cod];rw [if_pos ⟨trivial,trivial⟩]
  rw [e1] at I J ⊢
  have e2:(Tm.mk 11 nm ot n ty re l).codE ev 1 s=match ev (l.getD 0 tm0) s with
   | none=>none
   | some (x,s1)=>if x.kd=10 then pO (x.pt 0) s1 else none:=by simp only [Tm.codE];rw [if_pos ⟨trivial,trivial⟩];rfl
  rw [e2]
  have ep:(Tm.mk 11 nm ot n ty re l).pt 0=l.getD 0 tm0:=rfl
  unfold zJs at I J ⊢
  rw [ep] at I J ⊢
  by_cases U:(l.getD 0 tm0).res=true
  ·rw [if_pos U] at I J ⊢
   by_cases O:(l.getD 0 tm0).kd=10
   ·rw [if_pos O] at J ⊢
    simp only at J ⊢
    rw [zGA U]
    simp only
    rw [if_pos O]
    unfold pO
    by_cases hs:s=0
    ·rw [if_pos (.inl hs),if_pos hs]
    ·rw [if_neg (by omega),if_neg hs,xb _ 1 _ (zDK U O)]
   ·rw [if_neg O] at I
    exact absurd rfl I
  ·rw [if_neg U] at I J ⊢
   simp only [Tm.wth] at I J ⊢
   have ab:0<l.length:=by omega
   have ae:=zJI (k:=11) (nm:=nm) (ot:=ot) (n:=n) (ty:=ty) (re:=re) (x:=(st1 (l.getD 0 tm0)).1) ab
   simp only [Tm.wth] at ae
   rw [hX _ (by omega) (h1 _ hm) I (by omega)]
   by_cases hs:s=0
   ·rw [if_pos hs,if_pos hs]
   ·rw [if_neg hs,if_neg hs]
    have e3:(Tm.mk 11 nm ot n ty re (l.set 0 (st1 (l.getD 0 tm0)).1)).codE ev 1 (s - 1)=match ev ((l.set 0 (st1 (l.getD 0 tm0)).1).getD 0 tm0) (s - 1) with
     | none=>none
     | some (x,s1)=>if x.kd=10 then pO (x.pt 0) s1 else none:=by simp only [Tm.codE];rw [if_pos ⟨trivial,trivial⟩];rfl
    rw [e3]
    have e4:(l.set 0 (st1 (l.getD 0 tm0)).1).getD 0 tm0=(st1 (l.getD 0 tm0)).1:=by
     rw [oA,o0 ab];rfl
    rw [e4]
 ·have key:∀ (xs:List Tm),(∀ x∈xs,x∈l)->∀ (l':List Tm) (r:Int),zK st1 xs (zL k m)=some (l',r)->r≠0->zF l'<=400->∀ s,zQ ev xs (zL k m) s=if s=0 then none else zQ ev l' (zL k m) (s - 1):=by
   intro xs
   induction xs with
   | nil=>intro _ l' r h;cases h
   | cons x xs ah=>
     intro hm l' r h I J s
     have U:=hm x (by simp)
     have aj:=Tm.dp_mem (k:=k) (nm:=nm) (ot:=ot) (n:=n) (ty:=ty) (re:=re) U
     simp only [zK] at h
     split at h
     ·simp only [oV,nq] at h
      obtain ⟨rfl,rfl⟩:=h
      simp only [zF] at J
      simp only [zQ]
      rw [ih x U (by omega) (h1 x U) _ I (by omega)]
      by_cases hs:s=0
      ·rw [if_pos hs,if_pos hs]
      ·rw [if_neg hs,if_neg hs]
     ·rename_i hf
      have ac:=zIC x (zL k m) (by simpa using hf)
      cases Y:zK st1 xs (zL k m) with
      | none=>rw [Y] at h;cases h
      | some p=>
        obtain ⟨l2,r2⟩:=p
        rw [Y] at h
        simp only [oV,nq] at h
        obtain ⟨rfl,rfl⟩:=h
        simp only [zF] at J
        simp only [zQ]
        rw [xb x _ s ac,xb x _ (s - 1) ac]
        simp only
        rw [ah (λy hy=>hm y (by simp [hy])) _ _ Y I (by omega)]
        by_cases hs:s=0
        ·rw [if_pos hs,if_pos hs]
        ·rw [if_neg hs,if_neg hs]
  have ec:(Tm.mk k nm ot n ty re l).cod st1 m=match zK st1 l (zL k m) with
   | none=>(.mk k nm ot n ty re l,0,false)
   | some (l',r)=>(.mk k nm ot n ty re l',r,true):=by simp only [Tm.cod];rw [if_neg hk];rfl
  have ee:∀ (l:List Tm) (s:Nat),(Tm.mk k nm ot n ty re l).codE ev m s=match zQ ev l (zL k m) s with
   | none=>none
   | some (l',s1)=>some (.mk k nm ot n ty re l',s1):=λl s=>by simp only [Tm.codE];rw [if_neg hk];rfl
  rw [ec] at I J ⊢
  rw [ee]
  cases Y:zK st1 l (zL k m) with
  | none=>rw [Y] at I;exact absurd rfl I
  | some p=>
    obtain ⟨l',r⟩:=p
    rw [Y] at I J
    simp only [Tm.sz] at I J ⊢
    rw [key l (λx U=>U) l' r Y I (by omega)]
    by_cases hs:s=0
    ·rw [if_pos hs,if_pos hs]
    ·rw [if_neg hs,if_neg hs,ee]
theorem zEG {S:Tm->Tm × Int} {e:Tm}:∀ {l:List Tm} {i:Nat} {r:Tm × Int},goS S e l i=some r->∃ pre x post,l=pre++x::post/\(∀ y∈pre,y.res=true)/\x.res=false/\r=(e.wth (i+pre.length) (S x).1,(S x).2)
 | [],i,r,h=>by cases h
 | x :: xs,i,r,h=>by
   unfold goS at h
   split at h
   ·rename_i I
    obtain ⟨pre,y,post,rfl,J,O,rfl⟩:=zEG h
    refine ⟨x::pre,y,post,rfl,λz hz=>?_,O,?_⟩
    ·rcases oI.1 hz with rfl | hz
     ·exact I
     ·exact J z hz
    ·rw [oN,show i+1+pre.length=i+(pre.length+1) by omega]
   ·rename_i I
    cases h
    exact ⟨[],x,xs,rfl,by simp,by simpa using I,rfl⟩
theorem zDP {pre:List Tm} (h:∀ y∈pre,y.res=true) (l:List Tm) (s:Nat):t8 ev (pre++l) s=match t8 ev l s with
  | none=>none
  | some (l',s1)=>some (pre++l',s1):=by
 induction pre with
 | nil=>simp only [oX];cases t8 ev l s with
   | none=>rfl
   | some p=>rfl
 | cons y pre I=>
   simp only [oq,t8]
   rw [zGA (h y (by simp))]
   simp only
   rw [I λz J=>h z (by simp [J])]
   cases t8 ev l s with
   | none=>rfl
   | some p=>rfl
theorem zK3 {l:List Tm} (h:∀ y∈l,y.res=true) (s:Nat):t8 ev l s=some (l,s):=by
 have:=zDP h [] s
 simpa [t8] using this
theorem zLH {pre post dr:List Tm} {x y:Tm}:(pre++x::post++dr).set pre.length y=pre++y::post++dr:=by
 rw [nO,ma _ _ (oB _),Nat.sub_self,oq,nz,nO,oq]
theorem zSZ {k:Int} {nm ot I J:ByteArray} {n Y:Int} {ty re O U:Ty} {l l':List Tm} (hk:¬k=10) (h:(Tm.mk k nm ot n ty re l).res=false):(Tm.mk k I J Y O U l').res=false:=by
 unfold Tm.res at h ⊢
 simp only [Tm.kd,Bool.or_eq_false_iff] at h ⊢
 exact ⟨h.1,by simp [hk]⟩
/-- what an evaluation comes to, it comes to after a step, with one rule less -/
theorem zRs:∀ n,Nx n:=by
 intro n0
 induction n0 with
 | zero=>intro e h;have:=Tm.dp_pos e;omega
 | succ n0 ih=>
   intro e hd aa J O s
   have I:e.res=false:=by
    cases h:e.res with
    | false=>rfl
    | true=>rw [zRl h] at J;exact absurd rfl J
   cases e with
   | mk k nm ot n ty re l=>
   by_cases Y:k=10
   ·subst Y
    obtain ⟨b,e1,hb,rfl⟩:=zEC aa
    have ao:=Tm.dp_mem (k:=10) (nm:=nm) (ot:=ot) (n:=n) (ty:=ty) (re:=re) (l:=[b]) (y:=b) (by simp)
    rw [e1] at J O I ⊢
    have es:st1 (Tm.nod 10 [b])=(Tm.nod 10 [(b.cod st1 1).1],(b.cod st1 1).2.1):=zIg I
    rw [es] at J O ⊢
    simp only at J O ⊢
    have eq:∀ c s,(Tm.nod 10 [c]).res=false->ev (Tm.nod 10 [c]) s=match c.codE ev 1 s with
     | none=>none
     | some (b,s1)=>if (Tm.nod 10 [b]).res then some (Tm.nod 10 [b],s1) else none:=λc s h=>zLx h
    have ah:(b.cod st1 1).1.sz<=400:=by simp only [Tm.nod,Tm.sz,zF] at O;omega
    rw [eq b s I,zS7 ih b (by omega) hb 1 J ah]
    by_cases hs:s=0
    ·rw [if_pos hs,if_pos hs]
    ·rw [if_neg hs,if_neg hs]
     cases h2:(Tm.nod 10 [(b.cod st1 1).1]).res with
     | true=>
       rw [zGA h2,xb (b.cod st1 1).1 1 (s - 1) (zDK h2 rfl)]
       simp only
       rw [if_pos h2]
     | false=>rw [eq _ _ h2]
   ·rw [zLv I Y] at J O ⊢
    cases hg:goS st1 (Tm.mk k nm ot n ty re l) (l.take (xA k l.length)) 0 with
    | some r=>
      rw [hg] at J O
      obtain ⟨pre,x,post,hl,h1,h2,rfl⟩:=zEG hg
      have aq:xA k l.length<=l.length\/l.length<xA k l.length:=by omega
      have U:l=pre++x::post++l.drop (xA k l.length):=by rw [<-hl,om]
      have ab:x∈l:=by rw [U];simp
      have au:=Tm.dp_mem (k:=k) (nm:=nm) (ot:=ot) (n:=n) (ty:=ty) (re:=re) ab
      have am:l.set pre.length (st1 x).1=pre++(st1 x).1::post++l.drop (xA k l.length):=by
       conv=>lhs;rw [U]
       exact zLH
      have ac:(l.set pre.length (st1 x).1).length=l.length:=nR
      simp only [oe,Tm.wth] at J O ⊢
      have ai:pre.length<l.length:=by
       have:=nh List.length U
       simp only [oH,oN] at this
       omega
      have aj:=zJI (k:=k) (nm:=nm) (ot:=ot) (n:=n) (ty:=ty) (re:=re) (x:=(st1 x).1) ai
      simp only [Tm.wth] at aj
      rw [zGx I Y,hl,zDP h1]
      have hx:=ih x (by omega) ((Tm.ok_mk.1 aa).1 x ab) J (by omega) s
      simp only [t8]
      rw [hx]
      by_cases hs:s=0
      ·rw [if_pos hs,if_pos hs]
      ·rw [if_neg hs,if_neg hs,zGx (zSZ Y I) Y,ac]
       have ak:(l.set pre.length (st1 x).1).take (xA k l.length)=pre++(st1 x).1::post:=by
        rw [List.take_set,hl]
        simp
       have al:(l.set pre.length (st1 x).1).drop (xA k l.length)=l.drop (xA k l.length):=by
        have hp:pre.length<xA k l.length:=by
         have:=nh List.length hl
         simp only [oH,oN,ou] at this
         omega
        rw [List.drop_set,if_pos hp]
       rw [ak,al,zDP h1]
       rfl
    | none=>
      rw [hg] at J O
      simp only at J O ⊢
      have ae:=zG0.1 hg
      rw [zGx I Y,zK3 ae]
      simp only
      rw [om,if_neg J]
      unfold pO
      by_cases hs:s=0
      ·rw [if_pos (.inl hs),if_pos hs]
      ·rw [if_neg (by omega),if_neg hs]
def Sk (n:Nat):Prop:=∀ x:Tm,x.dp<=n->x.ok=true->x.res=false->(st1 x).2=0->∀ s,ev x s=none
theorem zTN {n0:Nat} (hX:Sk n0):∀ (t:Tm),t.dp<=n0+1->t.ok=true->∀ m:Int,(t.cod st1 m).2.2=true->(t.cod st1 m).2.1=0->∀ s,t.codE ev m s=none:=by
 refine Tm.ind λk nm ot n ty re l ih hd aa m O I s=>?_
 obtain ⟨h1,h2,h3⟩:=Tm.ok_mk.1 aa
 by_cases hk:k=11/\m=1
 ·obtain ⟨rfl,rfl⟩:=hk
  have hl:=(yi aa).1 (by omega)
  have hm:=zC (l:=l) (i:=0) (by omega)
  have ae:=Tm.dp_mem (k:=11) (nm:=nm) (ot:=ot) (n:=n) (ty:=ty) (re:=re) hm
  have e1:(Tm.mk 11 nm ot n ty re l).cod st1 1=zJs st1 (.mk 11 nm ot n ty re l):=by simp only [Tm.cod];rw [if_pos ⟨trivial,trivial⟩]
  rw [e1] at I O
  have e2:(Tm.mk 11 nm ot n ty re l).codE ev 1 s=match ev (l.getD 0 tm0) s with
   | none=>none
   | some (x,s1)=>if x.kd=10 then pO (x.pt 0) s1 else none:=by simp only [Tm.codE];rw [if_pos ⟨trivial,trivial⟩];rfl
  rw [e2]
  have ep:(Tm.mk 11 nm ot n ty re l).pt 0=l.getD 0 tm0:=rfl
  unfold zJs at I
  rw [ep] at I
  by_cases J:(l.getD 0 tm0).res=true
  ·rw [if_pos J] at I
   rw [zGA J]
   simp only
   by_cases U:(l.getD 0 tm0).kd=10
   ·rw [if_pos U] at I;simp at I
   ·rw [if_neg U]
  ·rw [if_neg J] at I
   rw [hX _ (by omega) (h1 _ hm) (by simpa using J) I]
 ·have key:∀ (xs:List Tm),(∀ x∈xs,x∈l)->∀ (l':List Tm),zK st1 xs (zL k m)=some (l',0)->∀ s,zQ ev xs (zL k m) s=none:=by
   intro xs
   induction xs with
   | nil=>intro _ l' h;cases h
   | cons x xs ab=>
     intro hm l' h s
     have J:=hm x (by simp)
     have ah:=Tm.dp_mem (k:=k) (nm:=nm) (ot:=ot) (n:=n) (ty:=ty) (re:=re) J
     simp only [zK] at h
     split at h
     ·rename_i O
      simp only [oV,nq] at h
      simp only [zQ]
      rw [ih x J (by omega) (h1 x J) _ O h.2]
     ·rename_i O
      have ac:=zIC x (zL k m) (by simpa using O)
      cases Y:zK st1 xs (zL k m) with
      | none=>rw [Y] at h;cases h
      | some p=>
        obtain ⟨l2,r2⟩:=p
        rw [Y] at h
        simp only [oV,nq] at h
        obtain ⟨rfl,rfl⟩:=h
        simp only [zQ]
        rw [xb x _ s ac]
        simp only
        rw [ab (λy hy=>hm y (by simp [hy])) _ Y]
  have ec:(Tm.mk k nm ot n ty re l).cod st1 m=match zK st1 l (zL k m) with
   | none=>(.mk k nm ot n ty re l,0,false)
   | some (l',r)=>(.mk k nm ot n ty re l',r,true):=by simp only [Tm.cod];rw [if_neg hk];rfl
  simp only [Tm.codE]
  rw [if_neg hk]
  rw [ec] at O I
  cases Y:zK st1 l (zL k m) with
  | none=>rw [Y] at O;cases O
  | some p=>
    obtain ⟨l',r⟩:=p
    rw [Y] at I
    simp only at I
    subst I
    rw [key l (λx J=>J) l' Y]
theorem zTy:∀ n,Sk n:=by
 intro n0
 induction n0 with
 | zero=>intro e h;have:=Tm.dp_pos e;omega
 | succ n0 ih=>
   intro e hd O I J s
   cases e with
   | mk k nm ot n ty re l=>
   by_cases hk:k=10
   ·subst hk
    obtain ⟨b,e1,hb,rfl⟩:=zEC O
    have aa:=Tm.dp_mem (k:=10) (nm:=nm) (ot:=ot) (n:=n) (ty:=ty) (re:=re) (l:=[b]) (y:=b) (by simp)
    rw [e1] at J I ⊢
    have es:st1 (Tm.nod 10 [b])=(Tm.nod 10 [(b.cod st1 1).1],(b.cod st1 1).2.1):=zIg I
    rw [es] at J
    have eq:ev (Tm.nod 10 [b]) s=match b.codE ev 1 s with
     | none=>none
     | some (b,s1)=>if (Tm.nod 10 [b]).res then some (Tm.nod 10 [b],s1) else none:=zLx I
    rw [eq]
    cases hf:(b.cod st1 1).2.2 with
    | true=>rw [zTN ih b (by omega) hb 1 hf J]
    | false=>
      rw [xb b 1 s (zIC b 1 hf)]
      simp only
      rw [if_neg (by rw [I];decide)]
   ·rw [zLv I hk] at J
    rw [zGx I hk]
    cases Y:goS st1 (Tm.mk k nm ot n ty re l) (l.take (xA k l.length)) 0 with
    | some r=>
      rw [Y] at J
      obtain ⟨pre,x,post,hl,h1,h2,rfl⟩:=zEG Y
      have U:x∈l:=oU (i:=xA k l.length) (by rw [hl];simp)
      have ab:=Tm.dp_mem (k:=k) (nm:=nm) (ot:=ot) (n:=n) (ty:=ty) (re:=re) U
      rw [hl,zDP h1]
      simp only [t8]
      rw [ih x (by omega) ((Tm.ok_mk.1 O).1 x U) h2 J]
    | none=>
      rw [Y] at J
      simp only at J
      rw [zK3 (zG0.1 Y)]
      simp only
      rw [om,if_pos J]
theorem zMY:∀ (m n:Nat) (x:Tm),(zDU m n x).1.1≠3->x.sz<=400
 | 0,n,x,h=>by
   simp only [zDU] at h
   split at h
   ·exact absurd rfl h
   ·omega
 | m+1,n,x,h=>by
   simp only [zDU] at h
   split at h
   ·exact absurd rfl h
   ·omega
theorem zLX:∀ (m n:Nat) (x:Tm),x.ok=true ->
  ((zDU m n x).1.1=1->∀ s,(zDU m n x).1.2.2<=n+s->ev x s=some ((zDU m n x).1.2.1,s+n - (zDU m n x).1.2.2))/\((zDU m n x).1.1=4->∀ s,ev x s=none)
 | 0,n,x,J=>by
   simp only [zDU]
   split
   ·exact ⟨λh=>by simp at h,λh=>by simp at h⟩
   split
   ·rename_i O
    refine ⟨λ_ s hs=>?_,λh=>by simp at h⟩
    rw [zGA O];simp
   ·exact ⟨λh=>by simp at h,λh=>by simp at h⟩
 | m+1,n,x,J=>by
   have ab:=zHq m (n+1) (x.stp x.dp).1
   have U:=zMY m (n+1) (x.stp x.dp).1
   simp only [zDU]
   split
   ·exact ⟨λh=>by simp at h,λh=>by simp at h⟩
   rename_i hz
   split
   ·rename_i O
    refine ⟨λ_ s hs=>?_,λh=>by simp at h⟩
    rw [zGA O];simp
   rename_i aa
   split
   ·rename_i O
    exact ⟨λh=>by simp at h,λ_ s=>zTy _ x (oB _) J (by simpa using aa) O s⟩
   rename_i O
   simp only
   have stp:=λhz=>zRs _ x (oB _) J O hz
   have Y:=λhz=>zKG x.dp x (oB _) J hz
   refine ⟨λh s hs=>?_,λh s=>?_⟩
   ·have I:=U (by rw [h];decide)
    have e:=stp I s
    rw [e,if_neg (by omega)]
    have:=(zLX m (n+1) _ (Y I)).1 h (s - 1) (by omega)
    rw [show s - 1+(n+1)=s+n by omega] at this
    exact this
   ·have I:=U (by rw [h];decide)
    have e:=stp I s
    rw [e]
    split
    ·rfl
    ·exact (zLX m (n+1) _ (Y I)).2 h _
theorem zPk {e:Tm} {fu:Int} (h:(xg e fu).1=1):zBN e fu=((xg e fu).2.1,((xg e fu).2.2:Int),true):=by
 unfold xg at h ⊢
 unfold zBN
 split at h
 ·rename_i hc
  rw [if_pos hc,if_pos hc]
  have I:=hc
  simp only [oJ,pW] at I
  have J:=yQ.1 I.2
  have O:=zHq fu.toNat 0 e
  have e1:evT (e.dp+401*fu.toNat) e fu.toNat=some ((zDU fu.toNat 0 e).1.2.1,fu.toNat+0 - (zDU fu.toNat 0 e).1.2.2):=(zLX fu.toNat 0 e I.1.1).1 h fu.toNat (by omega)
  rw [e1]
  simp only
  congr 2
  omega
 ·simp at h
theorem zNd {e:Tm} {fu:Int} (h:(xg e fu).1=4):(zBN e fu).2.2=false:=by
 unfold xg at h
 unfold zBN
 split at h
 ·rename_i hc
  rw [if_pos hc]
  have I:=hc
  simp only [oJ,pW] at I
  have e1:evT (e.dp+401*fu.toNat) e fu.toNat=none:=(zLX fu.toNat 0 e I.1.1).2 h fu.toNat
  rw [e1]
 ·simp at h
theorem zOH {e:Tm} {fu:Int} (h:0<=fu):((xg e fu).2.2:Int)<=fu:=by
 unfold xg
 split
 ·have:=zHq fu.toNat 0 e;omega
 ·exact h
end Go.Proofs.YtfajiphkncipoaaGreatDoor
