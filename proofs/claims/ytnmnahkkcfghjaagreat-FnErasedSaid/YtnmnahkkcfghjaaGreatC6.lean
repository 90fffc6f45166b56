/- What the erasing functions give. -/
import Derived.Test.YtnmnahkkcfghjaaGreatC5
import Derived.Test.YtnmnahkkcfghjaaGreatKm
import Derived.Test.YtnmnahkkcfghjaaGreatA7
import Derived.Test.YtnmnahkkcfghjaaGreatC4
import Derived.Test.YtnmnahkkcfghjaaGreatB4
import Derived.Test.YtnmnahkkcfghjaaGreatKr
import Derived.Test.YtnmnahkkcfghjaaGreatKd
set_option linter.unusedVariables false
set_option linter.unusedSimpArgs false
set_option maxRecDepth 100000
namespace Go.Proofs.YtnmnahkkcfghjaaGreat
open Go Go.Proofs Go.Proofs.Tryz Go.IntWalk
def zS5 (f:FuncId) (args:List PV) (t:Ty):Prop:=∀ (N:Nat) (Q:QT [.ag 2]),(∀ d N',N<=N'->t.Is d->Q d N')->ACalls prog f [.ag 2] args N Q
def zRD (f:FuncId) (args:List PV) (t:Tm):Prop:=∀ (N:Nat) (Q:QT [.ag 9]),(∀ d N',N<=N'->t.Is d->Q d N')->ACalls prog f [.ag 9] args N Q
theorem wa {α β:Type} {R:α->D->Prop} {f:β->α} {l:List β} {i:Nat} {x:β} {r:List D} {d:D} (h:l[i]?=some x) (I:All2 R ((l.take i).map f) r) (hd:R (f x) d):All2 R ((l.take (i+1)).map f) (r++[d]):=by
 rw [vH h,nc,List.map_singleton]
 exact I.snoc hd
theorem xe:∀ (t:Ty) (d:D),t.Is d->t.cnt<=1073741824->zS5 20 [.dg 2 d] t.er:=by
 refine Ty.ind λk l ih d hd hc N Q U=>?_
 obtain ⟨a,es,c,rfl,aa,O⟩:=Ty.is_mk.1 hd
 have hl:=O.len
 simp only [Ty.cnt] at hc
 have am:=uC l
 simp only [Ty.er,qy] at U
 have key:=up O aa (λi xs=>∀ (N':Nat),N<=N'->¬(k=4/\l.length=1)->(i=0->yx Q N i (.ag [.j k,.sl a 2 es c]) 0 none [] 0 k none [] 0 N') /\
  ∀ (q:Nat) (r:List D),All2 Ty.Is ((l.take i).map Ty.er) r->yN Q N i (.ag [.j k,.sl a 2 es c]) 0 none [] 0 k r.length q r q N') ?_ ?_
 ·refine zBc N _ Q λ_=>⟨k,rfl,Br.beq (λh4=>⟨a,es,c,rfl,Br.beq (λh1=>⟨a,es,c,rfl,⟨by omega,by omega⟩,λN1 ab=>?_⟩) λh1=>⟨k,rfl,(key N (oD _) (λh=>h1 (by omega))).1 rfl⟩⟩) λh4=>⟨k,rfl,(key N (oD _) (λh=>h4 h.1)).1 rfl⟩⟩
  clear key
  obtain ⟨x,rfl⟩:∃ x,l=[x]:=by
   match l,(by omega:l.length=1) with
   | [x],_=>exact ⟨x,rfl⟩
  obtain ⟨d0,ds,rfl,aj,rfl⟩:=O
  simp only [zG] at hc
  rw [if_pos ⟨h4,rfl⟩] at U
  exact ih x (by simp) d0 aj (by omega) N1 _ λd' N2 ac J _ _ N3 ae=>U d' _ (by omega) J
 ·intro i ah hi N' ak hk
  rw [if_neg hk] at U
  refine ⟨λh0=>?_,λq r Y=>?_⟩
  ·refine ua _ _ _ _ _ _ _ _ _ _ _ _ _ ⟨a,es,c,rfl,?_⟩
   rw [ah]
   have:l=[]:=oP (by omega)
   subst this
   exact λN3 ae=>U _ _ (by omega) (yz _)
  ·refine vD _ _ _ _ _ _ _ _ _ _ _ _ _ _ ⟨a,es,c,rfl,?_⟩
   rw [ah]
   rw [oi (by omega)] at Y
   exact ⟨⟨rfl,rfl⟩,⟨rfl,rfl⟩,⟨rfl,rfl⟩,λa2 N3 ae _ N4 ao=>U _ _ (by omega) (Ty.is_mk.2 ⟨_,_,_,rfl,by have:=Y.len;rw [oV] at this;omega,Y⟩)⟩
 ·intro i x xs I _ ai N' ak hk
  have hb:=I.b
  have aq:=xn I.m
  refine ⟨λh0=>?_,λq r Y=>?_⟩
  ·refine ua _ _ _ _ _ _ _ _ _ _ _ _ _ ⟨a,es,c,rfl,?_⟩
   rw [I.lt]
   refine ⟨a,es,c,rfl,hb,λN1 ab=>?_⟩
   rw [oK]
   refine ih x I.m _ I.r (by omega) N1 _ λd' N2 ac J _ _=>⟨trivial,by unfold zA;simp,λc2=>?_⟩
   rw [I.w]
   subst h0
   exact (ai _ (by omega) hk).2 c2 [d'] (wa I.g (r:=[]) (by rfl) J)
  ·refine vD _ _ _ _ _ _ _ _ _ _ _ _ _ _ ⟨a,es,c,rfl,?_⟩
   rw [I.lt]
   refine ⟨a,es,c,rfl,hb,λN1 ab=>?_⟩
   rw [oK]
   have al:=Y.len
   rw [oV,o5] at al
   refine ih x I.m _ I.r (by omega) N1 _ λd' N2 ac J _ _=>⟨⟨rfl,rfl⟩,by unfold zA;simp only [oI,nB];omega,λc2=>?_⟩
   rw [I.w]
   exact (ai _ (by omega) hk).2 c2 _ (wa I.g Y J)
theorem vF:∀ (t:Ty) (d:D),t.Is d->t.cnt<=1073741824->zS5 29 [.dg 2 d] t.er:=by
 refine Ty.ind λk l ih d hd hc N Q U=>?_
 obtain ⟨a,es,c,rfl,aa,O⟩:=Ty.is_mk.1 hd
 have hl:=O.len
 simp only [Ty.cnt] at hc
 have am:=uC l
 simp only [Ty.er,qy] at U
 have key:=up O aa (λi xs=>∀ (N':Nat),N<=N'->¬(k=4/\l.length=1)->(i=0->xB Q N a es c es.length i 0 none [] 0 k none [] 0 N') /\
  ∀ (q:Nat) (r:List D),All2 Ty.Is ((l.take i).map Ty.er) r->yP Q N a es c es.length i 0 none [] 0 k r.length q r q N') ?_ ?_
 ·refine zBY N _ Q λ_=>⟨k,rfl,Br.beq (λh4=>⟨a,es,c,rfl,Br.beq (λh1=>⟨a,es,c,rfl,⟨by omega,by omega⟩,λN1 ab=>?_⟩) λh1=>⟨k,rfl,a,es,c,rfl,(key N (oD _) (λh=>h1 (by omega))).1 rfl⟩⟩) λh4=>⟨k,rfl,a,es,c,rfl,(key N (oD _) (λh=>h4 h.1)).1 rfl⟩⟩
  clear key
  obtain ⟨x,rfl⟩:∃ x,l=[x]:=by
   match l,(by omega:l.length=1) with
   | [x],_=>exact ⟨x,rfl⟩
  obtain ⟨d0,ds,rfl,aj,rfl⟩:=O
  simp only [zG] at hc
  rw [if_pos ⟨h4,rfl⟩] at U
  exact ih x (by simp) d0 aj (by omega) N1 _ λd' N2 ac J _ _ N3 ae=>U d' _ (by omega) J
 ·intro i ah hi N' ak hk
  rw [if_neg hk] at U
  refine ⟨λh0=>?_,λq r Y=>?_⟩
  ·refine uK _ _ _ _ _ _ _ _ _ _ _ _ _ _ _ _ ?_
   rw [ah]
   have:l=[]:=oP (by omega)
   subst this
   exact λN3 ae=>U _ _ (by omega) (yz _)
  ·refine w8 _ _ _ _ _ _ _ _ _ _ _ _ _ _ _ _ _ ?_
   rw [ah]
   rw [oi (by omega)] at Y
   exact ⟨⟨rfl,rfl⟩,⟨rfl,rfl⟩,⟨rfl,rfl⟩,λa2 N3 ae _ N4 ao=>U _ _ (by omega) (Ty.is_mk.2 ⟨_,_,_,rfl,by have:=Y.len;rw [oV] at this;omega,Y⟩)⟩
 ·intro i x xs I _ ai N' ak hk
  have hb:=I.b
  have aq:=xn I.m
  refine ⟨λh0=>?_,λq r Y=>?_⟩
  ·refine uK _ _ _ _ _ _ _ _ _ _ _ _ _ _ _ _ ?_
   rw [I.lt]
   refine ⟨hb,λN1 ab=>?_⟩
   rw [oK]
   refine ih x I.m _ I.r (by omega) N1 _ λd' N2 ac J _ _=>⟨trivial,by unfold zA;simp,λc2=>?_⟩
   rw [I.w]
   subst h0
   exact (ai _ (by omega) hk).2 c2 [d'] (wa I.g (r:=[]) (by rfl) J)
  ·refine w8 _ _ _ _ _ _ _ _ _ _ _ _ _ _ _ _ _ ?_
   rw [I.lt]
   refine ⟨hb,λN1 ab=>?_⟩
   rw [oK]
   have al:=Y.len
   rw [oV,o5] at al
   refine ih x I.m _ I.r (by omega) N1 _ λd' N2 ac J _ _=>⟨⟨rfl,rfl⟩,by unfold zA;simp only [oI,nB];omega,λc2=>?_⟩
   rw [I.w]
   exact (ai _ (by omega) hk).2 c2 _ (wa I.g Y J)
theorem zDM (k:Int):inB k 10 13=decide (10<=k/\k<=13):=by rw [mf,vm];simp
theorem q8:∀ (t:Tm) (d:D),t.Is d->t.cnt<=1073741824->zRD 9 [.dg 9 d] t.er:=by
 refine Tm.ind λk nm ot n ty re l ih d hd hc N Q hQ=>?_
 obtain ⟨t0,t1,r0,r1,a,es,c,rfl,hh,ab,U⟩:=Tm.is_mk.1 hd
 have hl:=U.len
 simp only [Tm.cnt] at hc
 simp only [Tm.er,uA] at hQ
 have go:¬((10<=k/\k<=13)/\l.length=1)->∀ O,N<=O->ACalls prog 20 [.ag 2] [.dg 2 (.ag [t0,t1])] O (λY N7=>O<=N7->Bel N7 Y->∀ N8,N7<=N8->ACalls prog 20 [.ag 2] [.dg 2 (.ag [r0,r1])] N8 (λaa N9=>N8<=N9->Bel N9 aa ->
   yB Q N 0 (.ag [.j k,.t nm,.t ot,.j n,t0,t1,r0,r1,.sl a 9 es c]) 0 (bytes []) (bytes []) 0 0 none [] 0 0 none [] 0 none [] 0 k nm ot n (Y.cell 0) (Y.cell 1) (aa.cell 0) (aa.cell 1) none [] 0 N9)):=λhk O ac=>by
  rw [if_neg hk] at hQ
  refine xe ty _ hh.ty (by omega) O _ λd1 N7 ax ae _ _ N8 ay=>xe re _ hh.re (by omega) N8 _ λd2 N9 az ah _ _=>?_
  have key:=up U ab (λi xs=>∀ (N':Nat),N<=N'->(i=0->yB Q N i (.ag [.j k,.t nm,.t ot,.j n,t0,t1,r0,r1,.sl a 9 es c]) 0 (bytes []) (bytes []) 0 0 none [] 0 0 none [] 0 none [] 0 k nm ot n (d1.cell 0) (d1.cell 1) (d2.cell 0) (d2.cell 1) none [] 0 N') /\
   ∀ (q:Nat) (r:List D),All2 Tm.Is ((l.take i).map Tm.er) r->yD Q N i (.ag [.j k,.t nm,.t ot,.j n,t0,t1,r0,r1,.sl a 9 es c]) 0 (bytes []) (bytes []) 0 0 none [] 0 0 none [] 0 none [] 0 k nm ot n (d1.cell 0) (d1.cell 1) (d2.cell 0) (d2.cell 1) r.length q r q N') ?_ ?_
  ·exact (key N9 (by omega)).1 rfl
  ·intro i ai hi N' ao
   refine ⟨λh0=>?_,λq r hr=>?_⟩
   ·refine vN _ _ _ _ _ _ _ _ _ _ _ _ _ _ _ _ _ _ _ _ _ _ _ _ _ _ _ _ _ _ _ ⟨a,es,c,rfl,?_⟩
    rw [ai]
    have:l=[]:=oP (by omega)
    subst this
    exact λN3 aj=>hQ _ _ (by omega) (Tm.is_mk.2 ⟨_,_,_,_,_,_,_,rfl,⟨hh.nm,hh.ot,Ty.is_cells ae,Ty.is_cells ah⟩,by simp,rfl⟩)
   ·refine wR _ _ _ _ _ _ _ _ _ _ _ _ _ _ _ _ _ _ _ _ _ _ _ _ _ _ _ _ _ _ _ _ ⟨a,es,c,rfl,?_⟩
    rw [ai]
    rw [oi (by omega)] at hr
    exact ⟨⟨rfl,rfl⟩,⟨rfl,rfl⟩,⟨rfl,rfl⟩,λa2 N3 aj _ N4 aq=>hQ _ _ (by omega) (Tm.is_mk.2 ⟨_,_,_,_,_,_,_,rfl,⟨hh.nm,hh.ot,Ty.is_cells ae,Ty.is_cells ah⟩,by have:=hr.len;rw [oV] at this;omega,hr⟩)⟩
  ·intro i x xs I _ ak N' ao
   have hb:=I.b
   have a3:=xt I.m
   have a4:=xq l
   refine ⟨λh0=>?_,λq r hr=>?_⟩
   ·refine vN _ _ _ _ _ _ _ _ _ _ _ _ _ _ _ _ _ _ _ _ _ _ _ _ _ _ _ _ _ _ _ ⟨a,es,c,rfl,?_⟩
    rw [I.lt]
    refine ⟨a,es,c,rfl,hb,λN1 al=>?_⟩
    rw [oK]
    refine ih x I.m _ I.r (by omega) N1 _ λd' N2 am J _ _=>⟨trivial,by unfold zA;simp,λc2=>?_⟩
    rw [I.w]
    subst h0
    exact (ak _ (by omega)).2 c2 [d'] (wa I.g (r:=[]) (by rfl) J)
   ·refine wR _ _ _ _ _ _ _ _ _ _ _ _ _ _ _ _ _ _ _ _ _ _ _ _ _ _ _ _ _ _ _ _ ⟨a,es,c,rfl,?_⟩
    rw [I.lt]
    refine ⟨a,es,c,rfl,hb,λN1 al=>?_⟩
    rw [oK]
    have au:=hr.len
    rw [oV,o5] at au
    refine ih x I.m _ I.r (by omega) N1 _ λd' N2 am J _ _=>⟨⟨rfl,rfl⟩,by unfold zA;simp only [oI,nB];omega,λc2=>?_⟩
    rw [I.w]
    exact (ak _ (by omega)).2 c2 _ (wa I.g hr J)
 refine px N _ Q λ_=>⟨k,rfl,λN1 al=>yR k 10 13 N1 _ λN2 am _=>?_⟩
 rw [zDM]
 refine Br.dec (λhk=>⟨a,es,c,rfl,Br.beq (λh1=>⟨a,es,c,rfl,⟨by omega,by omega⟩,λN3 aj=>?_⟩) λh1=>⟨k,rfl,nm,rfl,ot,rfl,n,rfl,λO ac=>go (λh=>h1 (by omega)) O (by omega)⟩⟩) λhk=>⟨k,rfl,nm,rfl,ot,rfl,n,rfl,λO ac=>go (λh=>hk h.1) O (by omega)⟩
 clear go
 obtain ⟨x,rfl⟩:=len1 (by omega:l.length=1)
 obtain ⟨d0,ds,rfl,aw,rfl⟩:=U
 simp only [zI] at hc
 rw [if_pos ⟨hk,rfl⟩] at hQ
 exact ih x (by simp) d0 aw (by omega) N3 _ λd' N4 aq J _ _ N5 a5=>hQ d' _ (by omega) J
theorem qK (k:Int):zBz 27 [.j k] (inB k 10 13):=λN Q I=>zDY N k Q λN1 J=>zFG k 10 13 N1 _ λN2 O _ N3 U=>I _ (by omega)
theorem uJ:∀ (t:Tm) (d:D),t.Is d->t.cnt<=1073741824->zRD 6 [.dg 9 d] t.er:=by
 refine Tm.ind λk nm ot n ty re l ih d hd hc N Q hQ=>?_
 obtain ⟨t0,t1,r0,r1,a,es,c,rfl,hh,aj,aa⟩:=Tm.is_mk.1 hd
 have hl:=aa.len
 simp only [Tm.cnt] at hc
 simp only [Tm.er,uA] at hQ
 have map:∀ N0 (Q:QT [.ag 9]),(∀ x0 x1 x2 x3 a' r c' N',N0<=N'->All2 Tm.Is (l.map Tm.er) r->Q (.ag [.j k,.t nm,.t ot,.j n,x0,x1,x2,x3,.sl a' 9 r c']) N') ->
   ACalls prog 28 [.ag 9] [.dg 9 (.ag [.j k,.t nm,.t ot,.j n,t0,t1,r0,r1,.sl a 9 es c]),.fn 6 []] N0 Q:=λN0 Q hQ=>by
  refine sO N0 _ Q λ_=>⟨a,es,c,rfl,?_⟩
  refine up aa aj (λi xs=>∀ (q N':Nat) (r:List D),N0<=N'->All2 Tm.Is ((l.take i).map Tm.er) r->yV Q N0 r.length q a es c es.length i (.ag [.j k,.t nm,.t ot,.j n,t0,t1,r0,r1,.sl a 9 es c]) 0 (bytes []) (bytes []) 0 0 none [] 0 0 none [] 0 none [] 0 r q N') ?_ ?_ 0 N0 [] (oD _) rfl
  ·intro i ak hi q N' r al hr
   refine vQ _ _ _ _ _ _ _ _ _ _ _ _ _ _ _ _ _ _ _ _ _ _ _ _ _ _ _ _ ?_
   rw [ak]
   rw [oi (by omega)] at hr
   refine ⟨⟨rfl,rfl⟩,⟨rfl,rfl⟩,λa1 N3 am _ N4 ao=>?_⟩
   exact zPP hh (by omega) (by omega) a1 r q N4 _ λx4 x5 x6 x7 N5 aq _ _ _ U ab=>hQ _ _ _ _ _ _ _ _ (by omega) hr
  ·intro i x xs I _ au q N' r al hr
   have hb:=I.b
   have a7:=xt I.m
   have a8:=xq l
   have aw:=hr.len
   rw [oV,o5] at aw
   refine vQ _ _ _ _ _ _ _ _ _ _ _ _ _ _ _ _ _ _ _ _ _ _ _ _ _ _ _ _ ?_
   rw [I.lt]
   refine ⟨hb,λN1 ax=>?_⟩
   rw [oK]
   refine ih x I.m _ I.r (by omega) N1 _ λd' N2 ay ac _ _=>⟨⟨rfl,rfl⟩,by unfold zA;simp only [oI,nB];omega,λc2=>?_⟩
   rw [I.w]
   exact au c2 N2 _ (by omega) (wa I.g hr ac)
 have go:¬((10<=k/\k<=13)/\l.length=1)->∀ U,N<=U->ACalls prog 28 [.ag 9] [.dg 9 (.ag [.j k,.t nm,.t ot,.j n,t0,t1,r0,r1,.sl a 9 es c]),.fn 6 []] U (λJ N7=>U<=N7->Bel N7 J ->
   ∀ N8,N7<=N8->ACalls prog 29 [.ag 2] [.dg 2 (.ag [t0,t1])] N8 (λae N9=>N8<=N9->Bel N9 ae->∀ O,N9<=O->ACalls prog 29 [.ag 2] [.dg 2 (.ag [r0,r1])] O (λah Y=>O<=Y->Bel Y ah ->
   ∀ ai,Y<=ai->Q (D.ag [(J.cell 0),(J.cell 1),(J.cell 2),(J.cell 3),(ae.cell 0),(ae.cell 1),(ah.cell 0),(ah.cell 1),(J.cell 8)]) ai))):=λhk U ab=>by
  rw [if_neg hk] at hQ
  refine map U _ λx0 x1 x2 x3 a' r c' N7 a9 hr _ _ N8 ba=>vF ty _ hh.ty (by omega) N8 _ λd1 N9 bb az _ _ O a4=>vF re _ hh.re (by omega) O _ λd2 Y a5 a2 _ _ ai a6=>hQ _ _ (by omega) ?_
  exact Tm.is_mk.2 ⟨_,_,_,_,_,_,_,rfl,⟨hh.nm,hh.ot,Ty.is_cells az,Ty.is_cells a2⟩,by have:=hr.len;rw [oV] at this;omega,hr⟩
 refine pH N _ Q λ_=>⟨k,rfl,λN1 ax=>qK k N1 _ λN2 ay _=>?_⟩
 rw [zDM]
 refine Br.dec (λhk=>⟨a,es,c,rfl,Br.beq (λh1=>⟨a,es,c,rfl,⟨by omega,by omega⟩,λN3 am=>?_⟩) λh1 U ab=>go (λh=>h1 (by omega)) U (by omega)⟩) λhk U ab=>go (λh=>hk h.1) U (by omega)
 clear go map
 obtain ⟨x,rfl⟩:=len1 (by omega:l.length=1)
 obtain ⟨d0,ds,rfl,a3,rfl⟩:=aa
 simp only [zI] at hc
 rw [if_pos ⟨hk,rfl⟩] at hQ
 exact ih x (by simp) d0 a3 (by omega) N3 _ λd' N4 ao ac _ _ N5 aq=>hQ d' _ (by omega) ac
/-- contexts, erased -/
def erG (g:List Tg):List Tg:=g.map λx=>⟨x.nm,x.ty.er,0⟩
def zS8 (f:FuncId) (args:List PV) (g:List Tg):Prop:=∀ (N:Nat) (Q:QT [.sl 4]),(∀ a es c N',N<=N'->Ctx g es->Q a es c N')->ACalls prog f [.sl 4] args N Q
theorem zCL {g:List Tg} {es:List D} (h:Ctx g es) (hg:g.length<=1000000) (U:∀ x∈g,x.ty.cnt<=1073741824) (a:Option Addr) (c:Nat):zS8 12 [.sv a 4 es c] (erG g):=λN Q hQ=>by
 have hl:=h.all.len
 refine zB5 N a es c Q λ_=>?_
 refine up h.all h.len (λi xs=>∀ (q N':Nat) (r:List D),N<=N'->All2 Tg.Is ((g.take i).map λx=>(⟨x.nm,x.ty.er,0⟩:Tg)) r->xS Q N a es c r.length q i r q N') ?_ ?_ 0 N [] (oD _) rfl
 ·intro i Y hi q N' r aa O
  refine tA _ _ _ _ _ _ _ _ _ _ _ ?_
  rw [Y]
  rw [oi (by omega)] at O
  have J:=O.len
  rw [oV] at J
  exact ⟨⟨rfl,rfl⟩,⟨rfl,rfl⟩,⟨rfl,rfl⟩,λa2 N3 aj _ N4 ak=>hQ _ _ _ _ (by omega) ⟨by omega,O⟩⟩
 ·intro i x xs I _ ab q N' r aa O
  have hb:=I.b
  obtain ⟨t0,t1,ac,ae,ah⟩:=I.r
  have J:=O.len
  rw [oV,o5] at J
  refine tA _ _ _ _ _ _ _ _ _ _ _ ?_
  rw [I.lt,oK,ac]
  refine ⟨hb,x.nm,rfl,hb,λN1 al=>xe x.ty _ ah (U x I.m) N1 _ λd1 N2 am ai _ _=>⟨⟨rfl,rfl⟩,by unfold zA;simp only [oI,nB];omega,λc2=>?_⟩⟩
  rw [I.w]
  exact ab c2 N2 _ (by omega) (wa (f:=λx=>(⟨x.nm,x.ty.er,0⟩:Tg)) I.g O ⟨_,_,rfl,ae,Ty.is_cells ai⟩)
theorem sX {g:List Tg} {es:List D} (h:Ctx g es) (hg:g.length<=1000000) (U:∀ x∈g,x.ty.cnt<=1073741824) (a:Option Addr) (c:Nat):zS8 11 [.sv a 4 es c] (erG g):=λN Q hQ=>by
 have hl:=h.all.len
 refine zCg N a es c Q λ_=>?_
 refine up h.all h.len (λi xs=>∀ (q N':Nat) (r:List D),N<=N'->All2 Tg.Is ((g.take i).map λx=>(⟨x.nm,x.ty.er,0⟩:Tg)) r->xP Q N r.length q a es c es.length i r q N') ?_ ?_ 0 N [] (oD _) rfl
 ·intro i Y hi q N' r aa O
  refine tG _ _ _ _ _ _ _ _ _ _ _ _ ?_
  rw [Y]
  rw [oi (by omega)] at O
  have J:=O.len
  rw [oV] at J
  exact ⟨⟨rfl,rfl⟩,⟨rfl,rfl⟩,⟨rfl,rfl⟩,λa2 N3 aj _ N4 ak=>hQ _ _ _ _ (by omega) ⟨by omega,O⟩⟩
 ·intro i x xs I _ ab q N' r aa O
  have hb:=I.b
  obtain ⟨t0,t1,ac,ae,ah⟩:=I.r
  have J:=O.len
  rw [oV,o5] at J
  refine tG _ _ _ _ _ _ _ _ _ _ _ _ ?_
  rw [I.lt,oK,ac]
  refine ⟨hb,x.nm,rfl,λN1 al=>vF x.ty _ ah (U x I.m) N1 _ λd1 N2 am ai _ _=>⟨⟨rfl,rfl⟩,by unfold zA;simp only [oI,nB];omega,λc2=>?_⟩⟩
  rw [I.w]
  exact ab c2 N2 _ (by omega) (wa (f:=λx=>(⟨x.nm,x.ty.er,0⟩:Tg)) I.g O ⟨_,_,rfl,ae,Ty.is_cells ai⟩)
end Go.Proofs.YtnmnahkkcfghjaaGreat
set_option maxRecDepth 100000
namespace Go.Proofs.YtnmnahkkcfghjaaGreat
open Go Go.Proofs Go.Proofs.Tryz Go.IntWalk
theorem zEZ:∀ (t:Tm) (d e:D),t.Is d->t.Is e->zBz 8 [.dg 9 d,.dg 9 e] true:=by
 refine Tm.ind λk nm ot m ty re l ih d e hd he N Q hQ=>?_
 obtain ⟨t0,t1,r0,r1,a,es,c,rfl,hh,O,U⟩:=Tm.is_mk.1 hd
 obtain ⟨u0,u1,v0,v1,a',ai,c',rfl,Y,aa,J⟩:=Tm.is_mk.1 he
 have hl:=U.len
 have aj:=J.len
 refine zBf N _ _ Q λ_ _=>⟨k,rfl,k,rfl,Br.bne (λh=>absurd rfl h) λ_=>⟨nm,rfl,nm,rfl,Br.of (λh=>by simp at h) λ_=>⟨ot,rfl,ot,rfl,Br.of (λh=>by simp at h) λ_=>⟨m,rfl,m,rfl,Br.bne (λh=>absurd rfl h) λ_ N1 ak=>?_⟩⟩⟩⟩
 refine zj ty ty _ _ hh.ty Y.ty N1 _ λN2 al _=>Br.of (λh=>by rw [pE] at h;cases h) λ_ N3 am=>zj re re _ _ hh.re Y.re N3 _ λN4 ao _=>Br.of (λh=>by rw [pE] at h;cases h) λ_=>⟨_,_,_,rfl,_,_,_,rfl,Br.bne (λh=>by omega) λ_=>?_⟩
 refine up U O (λi xs=>∀ (N':Nat),N<=N'->y9 Q N i _ _ N') ?_ ?_ N4 (by omega)
 ·intro i ab hi N' ac
  exact uc _ _ _ _ _ _ ⟨_,_,_,rfl,Br.of (λh=>by rw [ab] at h;cases h) λ_ N5 ae=>hQ _ (by omega)⟩
 ·intro i x xs I _ ah N' ac
  have hb:=I.b
  refine uc _ _ _ _ _ _ ⟨_,_,_,rfl,Br.of (λ_=>⟨_,_,_,rfl,hb,_,_,_,rfl,⟨by omega,by omega⟩,λN5 ae=>?_⟩) λh=>by rw [I.lt] at h;cases h⟩
  rw [oK,I.w]
  exact ih x I.m _ _ I.r (J.get I.g) N5 _ λN6 aq _=>Br.of (λh=>by cases h) λ_=>ah N6 (by omega)
end Go.Proofs.YtnmnahkkcfghjaaGreat
set_option maxRecDepth 100000
namespace Go.Proofs.YtnmnahkkcfghjaaGreat
open Go Go.Proofs Go.Proofs.Tryz Go.IntWalk
theorem zGe:∀ {l:List Tm},(∀ t∈l,t.er.cnt<=t.cnt)->zI (l.map Tm.er)<=zI l
 | [],_=>by simp [zI]
 | t::I,h=>by
   have O:=h t (by simp)
   have U:=zGe (l:=I) λx J=>h x (by simp [J])
   simp only [ol,zI];omega
theorem zO2:∀ t:Tm,t.er.cnt<=t.cnt:=by
 refine Tm.ind λk nm ot n ty re l I=>?_
 simp only [Tm.er,uA]
 split
 ·rename_i h
  obtain ⟨x,rfl⟩:=len1 h.2
  have:=I x (by simp)
  show x.er.cnt<=_
  simp only [Tm.cnt,zI];omega
 ·have J:=zGe I
  have O:=(zON ty).1
  have U:=(zON re).1
  simp only [Tm.cnt];omega
mutual
def Tm.stg:Tm->Nat
 | .mk k _ _ _ _ _ l=>(if 10<=k/\k<=13 then 1 else 0)+sy l
def sy:List Tm->Nat
 | []=>0
 | t::I=>t.stg+sy I
end
mutual
theorem zIk:∀ t:Tm,t.stg<=t.cnt
 | .mk k nm ot n ty re l=>by
   have:=zEI l
   simp only [Tm.stg,Tm.cnt];split<;>omega
theorem zEI:∀ l:List Tm,sy l<=zI l
 | []=>by simp [sy]
 | t::I=>by
   have:=zIk t
   have:=zEI I
   simp only [sy,zI];omega
end
theorem zIs (k:Int):bI (inB k 10 13)=((if 10<=k/\k<=13 then 1 else 0:Nat):Int):=by
 rw [zDM]
 by_cases h:10<=k/\k<=13
 ·rw [if_pos h,mQ h];rfl
 ·rw [if_neg h,mg h];rfl
theorem ue:∀ (t:Tm) (d:D),t.Is d->t.cnt<=1073741824->zGX 14 [.dg 9 d] t.stg:=by
 refine Tm.ind λk nm ot n ty re l ih d hd hc N Q hQ=>?_
 obtain ⟨t0,t1,r0,r1,a,es,c,rfl,hh,J,O⟩:=Tm.is_mk.1 hd
 simp only [Tm.cnt] at hc
 refine qm N _ Q λ_=>⟨k,rfl,λN1 ac=>yR k 10 13 N1 _ λN2 ae _ N3 ah=>zJj _ N3 _ λN4 ai _=>?_⟩
 rw [zIs]
 refine up O J (λi xs=>∀ (m:Nat) (N':Nat),N<=N'->m+zI xs<=2000000000->m+sy xs=(Tm.mk k nm ot n ty re l).stg->yA Q N m i _ N') ?_ ?_ _ N4 (by omega) (by split<;>omega) (by simp only [Tm.stg])
 ·intro i U hi m N' Y hm hs
  refine vV _ _ _ _ _ _ ⟨a,es,c,rfl,?_⟩
  rw [U]
  exact λN5 aa=>Qi (hQ _ (by omega)) (by simp only [sy] at hs;omega)
 ·intro i x xs I _ ab m N' Y hm hs
  have hb:=I.b
  have aj:=xt I.m
  have ak:=zIk x
  simp only [zI] at hm
  simp only [sy] at hs
  refine vV _ _ _ _ _ _ ⟨a,es,c,rfl,?_⟩
  rw [I.lt]
  refine ⟨a,es,c,rfl,hb,λN5 aa=>?_⟩
  rw [oK]
  refine ih x I.m _ I.r (by omega) N5 _ λN6 al _=>?_
  show yA Q N (IntKind.i64.wrap ((m:Int)+(x.stg:Int))) (IntKind.i64.wrap ((i:Int)+1)) _ N6
  rw [I.w,i64_in ((m:Int)+(x.stg:Int)) (by omega),show (m:Int)+(x.stg:Int)=((m+x.stg:Nat):Int) by omega]
  exact ab (m+x.stg) N6 (by omega) (by omega) (by omega)
theorem zGr:∀ (t:Tm) (d:D),t.Is d->t.cnt<=1073741824->zGX 32 [.dg 9 d,.fn 33 []] t.stg:=by
 refine Tm.ind λk nm ot n ty re l ih d hd hc N Q O=>?_
 obtain ⟨t0,t1,r0,r1,a,es,c,rfl,hh,J,U⟩:=Tm.is_mk.1 hd
 simp only [Tm.cnt] at hc
 have h1:zBz 33 [.dg 9 (.ag [.j k,.t nm,.t ot,.j n,t0,t1,r0,r1,.sl a 9 es c])] (inB k 10 13):=λN Q O=>
  ro N _ Q λ_=>⟨k,rfl,λN1 Y=>qK k N1 _ λN2 aa _ N3 ab=>O _ (by omega)⟩
 refine zC2 N _ Q λ_ N1 Y=>h1 N1 _ λN2 aa _ N3 ab=>zRm _ N3 _ λN4 aj _=>⟨a,es,c,rfl,?_⟩
 rw [zIs]
 refine up U J (λi xs=>∀ (m:Nat) (N':Nat),N<=N'->m+zI xs<=2000000000->m+sy xs=(Tm.mk k nm ot n ty re l).stg->xY Q N m a es c es.length i N') ?_ ?_ _ N4 (by omega) (by split<;>omega) (by simp only [Tm.stg])
 ·intro i ac hi m N' ae hm hs
  refine rq _ _ _ _ _ _ _ _ _ ?_
  rw [ac]
  exact λN5 ah=>Qi (O _ (by omega)) (by simp only [sy] at hs;omega)
 ·intro i x xs I _ ai m N' ae hm hs
  have hb:=I.b
  have ak:=xt I.m
  have al:=zIk x
  simp only [zI] at hm
  simp only [sy] at hs
  refine rq _ _ _ _ _ _ _ _ _ ?_
  rw [I.lt]
  refine ⟨hb,λN5 ah=>?_⟩
  rw [oK]
  refine ih x I.m _ I.r (by omega) N5 _ λN6 am _=>?_
  show xY Q N (IntKind.i64.wrap ((m:Int)+(x.stg:Int))) a es c es.length (IntKind.i64.wrap ((i:Int)+1)) N6
  rw [I.w,i64_in ((m:Int)+(x.stg:Int)) (by omega),show (m:Int)+(x.stg:Int)=((m+x.stg:Nat):Int) by omega]
  exact ai (m+x.stg) N6 (by omega) (by omega) (by omega)
theorem uf (t:Tm) (d:D) (h:t.Is d) (hc:t.cnt<=1073741824):zGX 13 [.dg 9 d] t.stg:=λN Q I=>
 qj N d Q λ_ N1 J=>zGr t d h hc N1 _ λN2 O _ N3 U=>I _ (by omega)
theorem zKz {t:Tm} {d:D} (h:t.Is d):zBz 22 [.dg 9 d] (t.kd==2||t.kd==3):=λN Q O=>by
 cases t with
 | mk k nm ot n ty re l=>
 obtain ⟨t0,t1,r0,r1,a,es,c,rfl,hh,U,Y⟩:=Tm.is_mk.1 h
 refine zDk N _ Q λ_=>⟨k,rfl,Br.of (λh N1 I=>Qb (O _ I) ?_) λh=>⟨k,rfl,λN2 J=>Qb (O _ J) ?_⟩⟩
 ·show (k==2||k==3)=true
  rw [h];rfl
 ·show (k==2||k==3)=(k==3)
  rw [h];rfl
theorem zPt {es:List D} (hb:∀ d∈es,∃ n:Int,d=.lit (.int .u8 n)) (hl:es.length<=1073741824) (a:Option Addr) (c:Nat) (N:Nat) (Q:QT [.ag 9]) (hQ:∀ d N',N<=N'->SomB 2100000 d->Q d N'):ACalls prog 5 [.ag 9] [.sv a 0 es c] N Q:=
 sE N a es c Q λ_ N1 ae=>zQJ hb hl a c N1 _ λh N2 ah J _ N3 ai=>vW J 3 (by omega) a c h N3 _ λb a1 aj c1 i1 h1 N4 ak I _ _=>Br.of (λ_ O U=>zMC I a1 c1 h1 O _ λd a2 Y c2 i2 h2 N6 aa ab hd _ _ _ N7 ac=>hQ _ _ (by omega) ((hd.b (by omega)).mono (by omega))) λ_ O U=>zI8 I a1 c1 h1 O _ λd a2 Y c2 i2 h2 N6 aa ab hd _ _ _ N7 ac=>hQ _ _ (by omega) hd
theorem zKF {es:List D} (O:∀ d∈es,∃ n:Int,d=.lit (.int .u8 n)) (U:es.length<=1073741824) (a:Option Addr) (c:Nat) (N:Nat) (Q:QT [.sl 4]) (Y:∀ a1 e1 c1 N',N<=N'->zQw e1->Q a1 e1 c1 N'):ACalls prog 7 [.sl 4] [.sv a 0 es c] N Q:=
 qT N a es c Q λ_ N1 aa=>zQJ O U a c N1 _ λh N2 ab J _ N3 ac=>zOf J a c h N3 _ λa2 e2 c2 a3 ae c3 i3 h3 N6 ah ai I _ _ _ N7 aj=>Y _ _ _ _ (by omega) I
theorem zJ9 {es:List D} (hb:∀ d∈es,∃ n:Int,d=.lit (.int .u8 n)) (a:Option Addr) (c:Nat) (N:Nat) :
  ACalls prog 3 [.bool] [.sv a 0 es c] N (λr _=>r=true):=by
 refine zDQ N a es c _ λ_ N1 eq=>zJq N1 a es c _ λ_ N2 et _=>Br.dec (λ_ N3 _=>rfl) λcj N4 eu=>?_
 refine zPt hb (by omega) a c N4 _ λd N5 ev hd _ _ N6 ew=>?_
 obtain ⟨t,ht,hc,_⟩:=hd
 have ey:=zO2 t
 refine uJ t d ht (by omega) N6 _ λdx N7 e5 U _ _ N8 e6=>zKF hb (by omega) a c N8 _ λag eg cg N9 e7 hg _ _ bj ck=>q8 t d ht (by omega) bj _ λdy e8 cm hy _ _ bm cn=>?_
 refine zEZ _ dx dy U hy bm _ λe9 co _=>Br.of (λh=>by cases h) λ_ bp cp=>?_
 obtain ⟨g,au,gl,gc⟩:=hg
 refine sX au (by omega) (λx U=>oN (gc x U) (by omega)) ag cg bp _ λa1 e1 c1 fa cq h1 _ _ bq cr=>zCL au (by omega) (λx U=>oN (gc x U) (by omega)) ag cg bq _ λa2 e2 c2 fc ct h2 _ _ bt cw=>?_
 refine zM2 h1 h2 a1 a2 c1 c2 bt _ λfd cx _=>Br.of (λh=>by cases h) λ_ bv cy=>uf t d ht (by omega) bv _ λfe cz _ bw c5=>ue t d ht (by omega) bw _ λff c6 _=>Br.bne (λh=>absurd rfl h) λ_ bz c7=>?_
 refine zB6 bz d _ λ_ b1 c8=>uf t d ht (by omega) b1 _ λfg c9 _ fh da _ b2 db=>zCq b2 d _ λ_ b3 de=>ue t d ht (by omega) b3 _ λfi dh _ fj di _=>Br.of (λh=>by simp at h) λ_ b4 dj=>?_
 refine zOT hb (by omega) a c b4 _ λa3 e3 c3 df n fk dk b5 hf _ _ _ b6 dl=>?_
 obtain ⟨g3,al,fm,am⟩:=b5
 obtain ⟨f,hf,fo,_⟩:=hf
 have fp:=zO2 f
 have fq:=f.dp_cnt
 have dm:=f.er.dp_cnt
 have ft:=t.dp_cnt
 refine uj al (λx U=>oN (am x U) (by omega)) hf (Tm.G_cnt f (by omega)) (by omega) a3 c3 n b6 _ λy fu dn ae _ _ b7 dq=>sX al (by omega) (λx U=>oN (am x U) (by omega)) a3 c3 b7 _ λa4 e4 c4 fw dr h4 _ _ b8 dt=>uJ f df hf (by omega) b8 _ λfx fy du aw _ _ b9 dv=>?_
 refine uj h4 (λx U=>?_) aw (Tm.G_cnt _ (by omega)) (by omega) a4 c4 0 b9 _ λz f0 dw ax _ _=>?_
 ·obtain ⟨w,hw,rfl⟩:=oQ.1 U
  have:=(zON w.ty).1
  have:=am w hw
  show w.ty.er.cnt<=_;omega
 have tail:∀ J,N<=J->ACalls prog 21 [.ag 11] [.dg 9 d,.j 200] J (λah O=>J<=O->Bel O ah->∀ Y,O<=Y->ACalls prog 21 [.ag 11] [.dg 9 dx,.j 200] Y (λao ai=>Y<=ai->Bel ai ao->(0=0/\0=0)/\∀ ay aj,ai<=aj->Fresh N aj ay [D.ag []]->∀ aa,aj<=aa->ACalls prog 18 [.ag 2,.bool] [.sv ay 4 [] 0,.dg 9 d,
   .int .i64 0] aa (λaz ca I=>aa<=I->Bel I az->Br (!ca) (∀ a6,I<=a6->true=true) (∃ a7:Int,(ah.cell 0)=D.j a7/\Br (bne a7 1) (∀ a8,I<=a8->true=true) (∃ a9:Int,(ao.cell 0)=D.j a9/\Br (bne a9 1) (∀ ba,I<=ba->true=true)
   (∀ ab,I<=ab->ACalls prog 22 [.bool] [.dg 9 (D.sub ah 1 9)] ab (λcc ak=>ab<=ak->Br (!cc) (∀ bb,ak<=bb->true=true) (∀ ac,ak<=ac->ACalls prog 8 [.bool] [.dg 9 (D.sub ah 1 9),.dg 9 (D.sub ao 1 9)] ac (λbc aq=>ac<=aq->∀ bg,aq<=bg->bc=true))))))))):=λJ bh=>by
  refine ru ht (by omega) 200 J _ λd8 O bi h8 _ _ Y dz=>ru U (by omega) 200 Y _ λd9 ai d5 h9 _ _=>⟨⟨rfl,rfl⟩,λa5 aj d6 _ aa d7=>uj (g:=[]) ⟨by simp,rfl⟩ (by simp) ht (Tm.G_cnt t (by omega)) (by omega) a5 0 0 aa _ λy I ea hy _ _=>?_⟩
  obtain ⟨y0,y1,y2,y3,y4,y5,y6,y7,y8,rfl,k8⟩:=Rs.cells h8
  obtain ⟨z0,z1,z2,z3,z4,z5,z6,z7,z8,rfl,k9⟩:=Rs.cells h9
  cases ae:vl [] t 0 with
  | none=>exact Br.not (λ_ a6 _=>rfl) λh=>by cases h
  | some u=>
    refine Br.not (λh=>by cases h) λ_=>⟨_,rfl,Br.bne (λ_ a8 _=>rfl) λg1=>⟨_,rfl,Br.bne (λ_ ba _=>rfl) λg2 ab eb=>zKz k8 ab _ λak ee _=>Br.not (λ_ bb _=>rfl) λhl ac ef=>?_⟩⟩
    have e:=zRl ae g1 g2 (by simpa using hl)
    exact zEZ _ _ _ k8 (e ▸ k9) ac _ λaq ei _ bg ej=>rfl
 cases ho:vl g3 f n with
 | none=>exact Br.of (λh=>by cases h) λ_ cd ek=>tail cd (by omega)
 | some u=>
   rw [ho] at ae
   have e:=zLM ho
   have e:vl (erG g3) f.er 0=some u.er:=e
   rw [e] at ax ⊢
   have hv:u.cnt<=1073741824:=by
    have h1:=ho
    unfold vl at h1
    split at h1
    ·have:=Ty.valid_cnt (Tm.type_valid h1);omega
    ·cases h1
   refine Br.of (λ_=>Br.of (λh=>by cases h) λ_ ce em=>xe u y ae hv ce _ λv f3 eo cf _ _ ch ep=>zj u.er u.er z v ax cf ch _ λJ bh _=>Br.of (λh=>by rw [pE] at h;cases h) λ_ O bi=>tail O (by omega)) λh=>by cases h
end Go.Proofs.YtnmnahkkcfghjaaGreat
