/- Copies of terms: the program's and the reference's. -/
import Derived.Test.YtlaniepnglheoaaGreatA5
import Derived.Test.YtlaniepnglheoaaGreatKa
import Derived.Test.YtlaniepnglheoaaGreatKf
set_option linter.unusedVariables false
set_option linter.unusedSimpArgs false
namespace Go.Proofs.YtlaniepnglheoaaGreat
open Go Go.Proofs Go.Proofs.Tryz Go.IntWalk
variable {J x:Tm} {N:Nat} {d:D} {es:List D} {g:List Tg} {k m n:Int} {l:List Tm} {nm ot:ByteArray} {re t ty u:Ty} {w:List Pl}
theorem AG {N1 N2:Nat}{fs:List D}(I:OwnL N1 N2 es)(J:OwnL N N1 fs)(hN:N<=N1)(O:N1<=N2):OwnL N N2 (es++fs):=by
 refine⟨?_,xE I.fl J.fl,λb hb=>?_,λb hb=>?_⟩
 ·rw[zC,nN];refine⟨I.nd,J.nd,λa U b hb Y=>?_⟩
  have:=I.lo a U;have:=J.hi b hb;omega
 ·rw[zC]at hb;rcases oM.1 hb with hb | hb
  ·have:=I.lo b hb;omega
  ·exact J.lo b hb
 ·rw[zC]at hb;rcases oM.1 hb with hb | hb
  ·exact I.hi b hb
  ·have:=J.hi b hb;omega
theorem WM {n0:Int}{t0 t1 r0 r1 x:D}(J:Tm.Hd nm ot ty re t0 t1 r0 r1)(h1:ty.cnt<=1073741824)(h2:re.cnt<=1073741824)(O:All2 Tm.Is l es)(I:es.length<=4611686018427387904)(a:Option Addr)(c:Nat)(N0 N:Nat)(U:N0<=N)(ho:Own N0 N (.sl a 9 es c))(Q:QT [.ag 9])(hQ:∀ d' N',N<=N'->(Tm.mk k nm ot n0 ty re l).Is d'->Own N0 N' d'->Q d' N'):
  ACalls prog 58 [.ag 9] [.dg 9 (.ag [.j k,.t nm,.t ot,.j n0,t0,t1,r0,r1,x]),.sv a 9 es c] N Q:=by
 refine FS N _ a es c Q λ_ _=>?_
 repeat' first|with_reducible intro _|simp only[Y1]|with_reducible refine X ?_ ?_|refine⟨_,_,_,rfl,?_⟩|refine⟨_,rfl,?_⟩|refine X0 ?_|refine(GS _ _ J.ty h1) _ _ ?_|refine(GS _ _ J.re h2) _ _ ?_|fail
 rename_i N1 Y x1 N2 ah hx aa _ _ N3 ab y N4 ai hy ac _ _ N5 ae;refine hQ _ _ (by omega) (Tm.is_mk.2 ⟨_,_,_,_,_,_,_,rfl,⟨J.nm,J.ot,Ty.is_cells hx,Ty.is_cells hy⟩,I,O⟩) ?_;exact tv (zH (zH (zH (zH (AG (N1:=N) (xJ ((ue hx aa).mono Y ab) ((ue hy ac).mono (oD _) ae) (by omega) (by omega)) (zl ho) U (by omega))))))
theorem SH:∀(t:Tm)(d:D),t.Is d->t.cnt<=1073741824->Cop 39 9 [.dg 9 d] t.Is:=by
 refine Tm.ind λk nm ot n0 ty re l ih d hd hc N Q hQ=>?_;obtain⟨t0,t1,r0,r1,a,es,c,rfl,hh,O,U⟩:=Tm.is_mk.1 hd;have hl:=U.len;simp only[Tm.cnt]at hc;have am:=xh l;refine Hc N _ Q λ_ N1 aa=>?_;refine AS N1 _ _ λ_=>⟨_,_,_,rfl,?_⟩
 refine up U O (λi xs=>∀(done:List D) (q N':Nat),N1<=N'->All2 Tm.Is (l.take i) done->done.length=i->OwnL N1 N' done ->
  xL _ N1 done.length q a es c es.length i (.ag [.j k,.t nm,.t ot,.j n0,t0,t1,r0,r1,.sl a 9 es c]) 0 (bytes []) (bytes []) 0 0 none [] 0 0 none [] 0 none [] 0 done q N') ?_ ?_ [] 0 N1 (oD _) rfl rfl Kp
 ·intro i ab hi done q N' ac hd Y ho;refine uz ?_;rw[oX (by omega)]at hd;rw[ab];refine⟨⟨rfl,rfl⟩,⟨rfl,rfl⟩,λa2 N3 J hf N4 ae=>?_⟩;refine WM hh (by omega) (by omega) hd (by omega) a2 q N1 N4 (by omega) ((AH ho hf J).mono (oD _) ae) _ λd' N5 ao ah ai _ _ N6 aq=>?_;exact λ_ _ N7 au=>hQ _ _ (by omega) ah (ai.mono aa (by omega))
 ·intro i x xs I _ aj done q N' ac hd Y ho;have hb:=I.b;have aw:=yJ I.m;refine uz ?_
  repeat' first|with_reducible intro _|simp only[I.lt,I.w,oI,Y1]|with_reducible refine X ?_ ?_|refine⟨_,_,_,rfl,?_⟩|refine⟨_,rfl,?_⟩|refine X0 ?_|refine(ih x I.m _ I.r (by omega)) _ _ ?_|fail
  rename_i N2 ak x' N3 J hx al _ _;refine⟨by unfold zA;rw[oK];simp only[oJ,oN];omega,λc1=>?_⟩;refine aj _ _ _ (by omega) (by rw[zX I.g];exact hd.snoc hx) (by simp[Y]) (xJ (ho.mono (oD _) ak) (zl al) (by omega) J)
theorem Kl {a:Option Addr}{z c:Nat}(h:(zF es).Nodup)(I:∀ ad,a=some ad->ad.block∉zF es):(D.sl a z es c).foot.Nodup:=by
 cases a with
 | none=>simpa only[D.foot]using h
 | some ad=>
   simp only[D.foot];split
   ·exact mR
   ·exact na.2 ⟨I ad rfl,h⟩
theorem TN {N0 N1 N2 N3:Nat}{hd r xs:List D}{l0 l1 l2 l3:Value}{a:Option Addr}{c:Nat}{ds:List D}(h1:OwnL N0 N1 (hd++r))(J:OwnL N1 N2 (xs++es))(hf:Fresh N0 N3 a ds)(g1:N0<=N1)(g2:N1<=N2)(g3:N2<=N3)(d1:∀ ad,a=some ad->ad.block∉zF (hd++r))(d2:∀ ad,a=some ad->ad.block∉zF (xs++es)):OwnL N0 N3 (hd++(r++[.ag (.lit l0::.lit l1::.lit l2::.lit l3::(xs++[.sl a 9 es c]))])):=by
 have ah:=h1.nd;have I:=J.nd;rw[zC]at ah I;have e:zF (hd++(r++[.ag (.lit l0::.lit l1::.lit l2::.lit l3::(xs++[.sl a 9 es c]))]))=zF (hd++r)++(zF xs++(D.sl a 9 es c).foot):=by simp only[zC,zF,D.foot,oV,ou,nq]
 have aa:=h1.fl;have ab:=J.fl;have O:∀ b,b∈(D.sl a 9 es c).foot->b∈zF (xs++es)\/∃ ad,a=some ad/\b=ad.block:=λb U=>by
  rcases xe b U with h | h
  ·left;rw[zC];exact nP _ h
  ·exact .inr h
 refine⟨?_,?_,λb U=>?_,λb U=>?_⟩
 ·rw[e,nN];refine⟨h1.nd,?_,λx hx y hy Y=>?_⟩
  ·rw[nN]at I ⊢;refine⟨I.1,Kl I.2.1 λad h hc=>d2 ad h (by rw[zC];exact nP _ hc),λx hx y hy Y=>?_⟩;subst Y;rcases xe x hy with h | ⟨ad,h9,h'⟩
   ·exact I.2.2 x hx x h rfl
   ·subst h';exact d2 ad h9 (by rw[zC];exact ol _ hx)
  ·subst Y;have aj:=h1.hi x hx;rcases oM.1 hy with h | h
   ·have:=J.lo x (by rw[zC];exact ol _ h);omega
   ·rcases O x h with h | ⟨ad,h9,h'⟩
    ·have:=J.lo x h;omega
    ·subst h';exact d1 ad h9 hx
 ·have ac:xX xs/\xX es:=by
   have:∀(u v:List D),xX (u++v)->xX u/\xX v:=by
    intro u
    induction u with
    | nil=>intro v h;exact⟨trivial,h⟩
    | cons y u ih=>intro v h;obtain⟨g1,g2⟩:=ih v h.2;exact⟨⟨h.1,g1⟩,g2⟩
   exact this _ _ ab
  have ae:xX hd/\xX r:=by
   have:∀(u v:List D),xX (u++v)->xX u/\xX v:=by
    intro u
    induction u with
    | nil=>intro v h;exact⟨trivial,h⟩
    | cons y u ih=>intro v h;obtain⟨g1,g2⟩:=ih v h.2;exact⟨⟨h.1,g1⟩,g2⟩
   exact this _ _ aa
  refine xE ae.1 (xE ae.2 ⟨?_,trivial⟩);have ai:D.Flat0 (.sl a 9 es c):=⟨λad h=>hf.off ad h,ac.2⟩
  exact⟨trivial,trivial,trivial,trivial,xE ac.1 ⟨ai,trivial⟩⟩
 ·rw[e]at U;rcases oM.1 U with h | h
  ·exact h1.lo b h
  ·rcases oM.1 h with h | h
   ·have:=J.lo b (by rw[zC];exact ol _ h);omega
   ·rcases O b h with h | ⟨ad,h9,h'⟩
    ·have:=J.lo b h;omega
    ·subst h';exact hf.lo ad h9
 ·rw[e]at U;rcases oM.1 U with h | h
  ·have:=h1.hi b h;omega
  ·rcases oM.1 h with h | h
   ·have:=J.hi b (by rw[zC];exact ol _ h);omega
   ·rcases O b h with h | ⟨ad,h9,h'⟩
    ·have:=J.hi b h;omega
    ·subst h';exact hf.hi ad h9
theorem Fr:∀(t:Tm) (d:D),t.Is d->t.cnt<=1073741824->∀(N:Nat) (Q:QT [.pk,.i,.str,.str,.i,.dc,.dc,.dc,.dc,.row 30 9]),
  (match t with | .mk k nm ot n ty re l=>∀ x4 x5 x6 x7 es' c' N',N<=N'->Tm.Hd nm ot ty re x4 x5 x6 x7->All2 Tm.Is l es'->OwnL N N' ([x4,x5,x6,x7]++es')->Q k nm ot n x4 x5 x6 x7 es' c' N') ->
  ACalls prog 32 [.pk,.i,.str,.str,.i,.dc,.dc,.dc,.dc,.row 30 9] [.dg 9 d] N Q:=by
 refine Tm.ind λk nm ot n0 ty re l ih d hd hc N Q hQ=>?_;obtain⟨t0,t1,r0,r1,a,es,c,rfl,hh,aa,ab⟩:=Tm.is_mk.1 hd;have hl:=ab.len;simp only[Tm.cnt]at hc;have az:=xh l;simp only at hQ;refine DX N _ Q λ_=>?_
 repeat' first|with_reducible intro _|simp only[Y1]|with_reducible refine X ?_ ?_|refine⟨_,_,_,rfl,?_⟩|refine⟨_,rfl,?_⟩|refine X0 ?_|refine(zO _ _ hh.ty (by omega)) _ _ ?_|refine(zO _ _ hh.re (by omega)) _ _ ?_|fail
 rename_i N1 ae O N2 a0 hx ah _ _ N3 ai y N4 a3 hy aj _ _;have ak:Tm.Hd nm ot ty re (O.cell 0) (O.cell 1) (y.cell 0) (y.cell 1):=⟨hh.nm,hh.ot,Ty.is_cells hx,Ty.is_cells hy⟩
 have al:OwnL N N4 ([O.cell 0,O.cell 1,y.cell 0,y.cell 1]++[]):=by have h:=xJ ((ue hx ah).mono ae (oD _)) ((ue hy aj).mono ai (oD _)) (by omega) (by omega);exact h
 refine up ab aa (λi xs=>∀(done:List D) (q N':Nat),N4<=N'->All2 Tm.Is (l.take i) done->done.length=i->OwnL N N' ([O.cell 0,O.cell 1,y.cell 0,y.cell 1]++done) ->
  wG Q N i (.ag [.j k,.t nm,.t ot,.j n0,t0,t1,r0,r1,.sl a 9 es c]) 0 (bytes []) (bytes []) 0 0 none [] 0 0 none [] 0 none [] 0 k nm ot n0 (O.cell 0) (O.cell 1) (y.cell 0) (y.cell 1) done.length q done q N') ?_ ?_ [] 0 N4 (oD _) rfl rfl al
 ·intro i am hi done q N' ao hd ac ho;refine vq ⟨_,_,_,rfl,?_⟩;rw[oX (by omega)]at hd;rw[am];exact⟨⟨rfl,rfl⟩,λN5 Y=>hQ _ _ _ _ _ _ _ (by omega) ak hd (ho.mono (oD _) Y)⟩
 ·intro i x xs I _ aq done q N' ao hd ac ho;have hb:=I.b;have au:=yJ I.m;refine vq ⟨_,_,_,rfl,?_⟩;rw[I.lt];refine⟨_,_,_,rfl,⟨by omega,by omega⟩,λN5 Y=>?_⟩;rw[oI,I.w];refine ih x I.m _ I.r (by omega) _ _ ?_;cases x with
  | mk k2 a4 a5 n2 a6 a7 l2=>
    intro x4 x5 x6 x7 a8 c2 N6 a9 aw U ax _ _;have ba:=U.len;have ay:=xh l2;simp only[Tm.cnt]at au;refine⟨⟨rfl,rfl⟩,λa2 N7 bb hf=>⟨⟨rfl,rfl⟩,by unfold zA;rw[oK];simp only[oJ,oN];omega,λc3=>?_⟩⟩;refine aq _ _ _ (by omega) (by rw[zX I.g];exact hd.snoc (Tm.is_mk.2 ⟨_,_,_,_,_,_,_,rfl,aw,by omega,U⟩)) (by simp[ac]) ?_;refine TN (hd:=[O.cell 0,O.cell 1,y.cell 0,y.cell 1]) (xs:=[x4,x5,x6,x7]) (ho.mono (oD _) Y) ax hf (by omega) (by omega) (by omega) ?_ ?_
    ·intro ad h hc;have J:=hf.ap ad h;simp only[oH,mD,D.foot,oh,false_imp_iff,implies_true,and_true]at J;simp only[nE,oV,zF,oM]at hc;obtain⟨_,_,_,_,_,g1,g2,g3,g4,g5⟩:=J;rcases hc with hc | hc | hc | hc | hc
     ·exact g1 hc
     ·exact g2 hc
     ·exact g3 hc
     ·exact g4 hc
     ·exact g5 hc
    ·intro ad h hc;have J:=hf.ap ad h;simp only[oH,mD,D.foot,oh,false_imp_iff,implies_true,and_true]at J;simp only[nE,oV,zF,oM]at hc;obtain⟨g5,g1,g2,g3,g4,_⟩:=J;rcases hc with hc | hc | hc | hc | hc
     ·exact g1 hc
     ·exact g2 hc
     ·exact g3 hc
     ·exact g4 hc
     ·exact g5 hc
theorem EA {N':Nat}(h:OwnL N N' es):OwnL N N' (.sl none 2 [] 0::es):=
 ⟨by simpa only[zF,D.foot,oV]using h.nd,⟨⟨by simp,trivial⟩,h.fl⟩,by simpa only[zF,D.foot,oV]using h.lo,by simpa only[zF,D.foot,oV]using h.hi⟩
theorem uW (k:Int)(Y:All2 Tm.Is l es)(am:es.length<=1073741824)(hc:∀ x∈l,x.cnt<=1073741824)(a:Option Addr)(c:Nat)(N:Nat)(Q:QT [.ag 9])(hQ:∀ d' N',N<=N'->(Tm.mk k (bytes []) (bytes []) 0 (.mk 0 []) (.mk 0 []) l).Is d'->Own N N' d'->Q d' N'):
  ACalls prog 28 [.ag 9] [.j k,.sv a 9 es c] N Q:=by
 have hl:=Y.len;refine Li N _ a es c Q λ_=>?_;refine up Y (by omega) (λi xs=>∀(done:List D) (q N':Nat),N<=N'->All2 Tm.Is (l.take i) done->done.length=i->OwnL N N' done ->
  vk Q N a es c i 0 (bytes []) (bytes []) 0 0 none [] 0 0 none [] 0 none [] 0 k (bytes []) (bytes []) 0 0 none [] 0 0 none [] 0 done.length q done q N') ?_ ?_ [] 0 N (oD _) rfl rfl Kp
 ·intro i ab hi done q N' ac hd aa ho;refine AB ?_;rw[oX (by omega)]at hd;rw[ab];refine⟨⟨rfl,rfl⟩,⟨rfl,rfl⟩,⟨rfl,rfl⟩,λa1 N4 ae hf N5 U=>hQ _ _ (by omega) (Tm.is_mk.2 ⟨_,_,_,_,_,_,_,rfl,⟨by decide,by decide,xm _,xm _⟩,by omega,hd⟩) ?_⟩;exact tv (zH (zH (zH (zH (zH (EA (zH (EA (zl ((AH ho hf ae).mono (oD _) U))))))))))
 ·intro i x xs J _ ah done q N' ac hd aa ho;have hb:=J.b;have ai:=hc x J.m;refine AB ?_;rw[J.lt];refine⟨⟨by omega,by omega⟩,λN5 U=>?_⟩;rw[oI,J.w];refine Fr x _ J.r (by omega) _ _ ?_;cases x with
  | mk k2 aq au n2 aw ax l2=>
    intro x4 x5 x6 x7 aj c2 N6 ay ak O al _ _;have az:=O.len;have ao:=xh l2;simp only[Tm.cnt]at ai;refine⟨⟨rfl,rfl⟩,λa2 N7 a0 hf=>⟨⟨rfl,rfl⟩,by unfold zA;rw[oK];simp only[oJ,oN];omega,λc3=>?_⟩⟩;refine ah _ _ _ (by omega) (by rw[zX J.g];exact hd.snoc (Tm.is_mk.2 ⟨_,_,_,_,_,_,_,rfl,ak,by omega,O⟩)) (by simp[aa]) ?_;refine TN (hd:=[]) (xs:=[x4,x5,x6,x7]) (ho.mono (oD _) U) al hf (by omega) (by omega) (by omega) ?_ ?_
    ·intro ad h hc;have I:=hf.ap ad h (.ag done) (by simp);exact I (by simpa only[D.foot,oV]using hc)
    ·intro ad h hc;have I:=hf.ap ad h;simp only[nE,oV,zF,oM]at hc;rcases hc with hc | hc | hc | hc | hc
     ·exact I x4 (by simp) hc
     ·exact I x5 (by simp) hc
     ·exact I x6 (by simp) hc
     ·exact I x7 (by simp) hc
     ·exact I (.ag aj) (by simp) (by simpa only[D.foot]using hc)
def Tm.nod (k:Int)(l:List Tm):Tm:=.mk k (bytes []) (bytes []) 0 (.mk 0 []) (.mk 0 []) l
theorem sQ {t:Tm}(h:t.Is d):All2 Tm.Is [t] [d]:=⟨d,[],rfl,h,rfl⟩
theorem J4 {t u:Tm}{e:D}(h:t.Is d)(g:u.Is e):All2 Tm.Is [t,u] [d,e]:=⟨d,[e],rfl,h,sQ g⟩
theorem Dn (t:Tm)(d:D)(hd:t.Is d)(hc:t.cnt<=1073741824):Cop 70 9 [.dg 9 d] (Tm.nod 10 [t]).Is:=λN Q Y=>by
 refine Hm N _ Q λ_=>⟨⟨rfl,rfl⟩,λa _ N1 I hb=>?_⟩
 refine uW 10 (sQ hd) (by simp) (by simpa using hc) a 1 N1 _ λd' N2 aa J U _=>⟨xI hb U,λ_ N3 O=>Y _ _ (by omega) J (U.mono I O)⟩
theorem GR (t:Tm)(d:D)(hd:t.Is d)(hc:t.cnt<=1073741824):Cop 71 9 [.dg 9 d] (Tm.nod 11 [t]).Is:=λN Q Y=>by
 refine Ff N _ Q λ_=>⟨⟨rfl,rfl⟩,λa _ N1 I hb=>?_⟩
 refine uW 11 (sQ hd) (by simp) (by simpa using hc) a 1 N1 _ λd' N2 aa J U _=>⟨xI hb U,λ_ N3 O=>Y _ _ (by omega) J (U.mono I O)⟩
theorem P6 {N':Nat}{v0 v1 v2 w:Value}(h:Own N N' (.ag (.lit v0::.lit v1::es))):Own N N' (.ag (.lit v0::.lit w::es)):=
 ⟨by simpa only[zF,D.foot,oV]using h.nd,h.fl,by simpa only[zF,D.foot,oV]using h.lo,by simpa only[zF,D.foot,oV]using h.hi⟩
def Tm.letN (s:ByteArray)(t u:Tm):Tm:=.mk 8 s (bytes []) 0 (.mk 0 []) (.mk 0 []) [t,u]
theorem OD (s:ByteArray)(hs:s.size<=4611686018427387904)(t u:Tm)(d e:D)(hd:t.Is d)(he:u.Is e)(hc:t.cnt<=1073741824)(J:u.cnt<=1073741824):Cop 120 9 [.str s,.dg 9 d,.dg 9 e] (Tm.letN s t u).Is:=λN Q hQ=>by
 refine Nr N s _ _ Q λ_ _=>⟨⟨rfl,rfl⟩,λa _ N1 O hb=>?_⟩
 refine uW 8 (J4 hd he) (by simp) (by simpa using⟨hc,J⟩) a 2 N1 _ λd' N2 ab U ho _=>⟨xI hb ho,λ_ N3 Y=>?_⟩
 obtain⟨t0,t1,r0,r1,a',es,c,rfl,hh,I,aa⟩:=Tm.is_mk.1 U;exact hQ _ _ (by omega) (Tm.is_mk.2 ⟨_,_,_,_,_,_,_,rfl,⟨hs,hh.ot,hh.ty,hh.re⟩,I,aa⟩) ((P6 (v2:=.string s) ho).mono O Y)
def bdE (k:Int)(nm:ByteArray)(v:List Bd)(b:Bool):List Bd:=if k=8 then v++[(nm,b)]else v
def wg:List Tm->List Bd->Bool
 | [],_=>true
 | x::_,v=>x.late v
mutual
def Tm.code:Tm->List Bd->Tm
 | .mk k nm ot n ty re l,v=>if(Tm.mk k nm ot n ty re l).late v=false then Tm.nod 13 [.mk k nm ot n ty re l]else if k=1 then Tm.nod 10 [.mk k nm ot n ty re l]else
   if k≠4/\wg l v=false then .mk k nm ot n ty re (t5 l k nm v)else Tm.nod 10 [.mk k nm ot n ty re (uH l k nm v)]
def qS:List Tm->List Bd->List Tm
 | [],_=>[]
 | x::xs,v=>x.code v::qS xs v
def rl:List Tm->List Bd->List Tm
 | [],_=>[]
 | x::xs,v=>Tm.nod 11 [x.code v]::rl xs v
def t5:List Tm->Int->ByteArray->List Bd->List Tm
 | [],_,_,_=>[]
 | x::xs,k,nm,v=>x::qS xs (bdE k nm v (x.late v))
def uH:List Tm->Int->ByteArray->List Bd->List Tm
 | [],_,_,_=>[]
 | x::xs,k,nm,v=>Tm.nod 11 [x.code v]::rl xs (bdE k nm v (x.late v))
end
theorem Tm.cnt3:∀ t:Tm,3<=t.cnt
 | .mk _ _ _ _ ty re _=>by simp only[Tm.cnt];have:=ty.cnt_pos;have:=re.cnt_pos;omega
theorem uO (k:Int)(l:List Tm):(Tm.nod k l).cnt=3+zG l:=by simp only[Tm.nod,Tm.cnt,Ty.cnt,zN]
mutual
theorem sU:∀(t:Tm) (v:List Bd),(t.code v).cnt+3<=3*t.cnt
 | .mk k nm ot n ty re l,v=>by
   have I:=Tm.cnt3 (.mk k nm ot n ty re l)
   have J:=VL l k nm v
   have O:=Rn l k nm v
   simp only[Tm.code]
   have c1:=ty.cnt_pos
   have U:=re.cnt_pos
   split
   ·simp only[uO,zG];omega
   ·split
    ·simp only[uO,zG];omega
    ·split
     ·simp only[Tm.cnt]
      simp only[Tm.cnt]at I
      omega
     ·simp only[uO,zG,Tm.cnt]
      omega
theorem ML:∀(l:List Tm) (v:List Bd),zG (qS l v)<=3*zG l
 | [],v=>by simp[qS,zG]
 | x::xs,v=>by simp only[qS,zG];have:=sU x v;have:=ML xs v;omega
theorem Tu:∀(l:List Tm) (v:List Bd),zG (rl l v)<=3*zG l
 | [],v=>by simp[rl,zG]
 | x::xs,v=>by simp only[rl,zG,uO];have:=sU x v;have:=Tu xs v;omega
theorem VL:∀(l:List Tm) (k:Int) (nm:ByteArray) (v:List Bd),zG (t5 l k nm v)<=3*zG l
 | [],_,_,v=>by simp[t5,zG]
 | x::xs,k,nm,v=>by simp only[t5,zG];have:=ML xs (bdE k nm v (x.late v));omega
theorem Rn:∀(l:List Tm) (k:Int) (nm:ByteArray) (v:List Bd),zG (uH l k nm v)<=3*zG l
 | [],_,_,v=>by simp[uH,zG]
 | x::xs,k,nm,v=>by simp only[uH,zG,uO];have:=sU x v;have:=Tu xs (bdE k nm v (x.late v));omega
end
theorem Tw:∀(l:List Tm)(v:List Bd),(rl l v).length=l.length
 | [],_=>by simp only[rl]
 | x::xs,v=>by simp only[rl,oJ,Tw xs v]
theorem Wx:∀(l:List Tm)(k:Int)(nm:ByteArray)(v:List Bd),(uH l k nm v).length=l.length
 | [],_,_,_=>by simp only[uH]
 | x::xs,k,nm,v=>by simp only[uH,oJ,Tw xs]
theorem Tv:∀(l:List Tm)(v:List Bd)(i:Nat)(x:Tm),l[i]?=some x->(rl l v)[i]?=some (Tm.nod 11 [x.code v])
 | [],v,i,x,h=>by simp at h
 | y::ys,v,0,x,h=>by simp at h;subst h;simp[rl]
 | y::ys,v,i+1,x,h=>by simp only[rl,nS];exact Tv ys v i x (by simpa using h)
def bdI (k:Int)(nm:ByteArray)(l:List Tm)(v:List Bd)(i:Nat):List Bd:=if i=0 then v else bdE k nm v (wg l v)
theorem Ro:∀(l:List Tm)(k:Int)(nm:ByteArray)(v:List Bd)(i:Nat)(x:Tm),l[i]?=some x->(uH l k nm v)[i]?=some (Tm.nod 11 [x.code (bdI k nm l v i)])
 | [],_,_,v,i,x,h=>by simp at h
 | y::ys,k,nm,v,0,x,h=>by simp at h;subst h;simp[uH,bdI]
 | y::ys,k,nm,v,i+1,x,h=>by simp only[uH,nS];rw[Tv ys _ i x (by simpa using h)];simp[bdI,wg]
theorem QF {a c:List D}{x y:D}:(a++x::c).set a.length y=a++y::c:=by simp
theorem G1 (h:Node k nm ot n ty re l)(hk:k=5\/k=8):ot=bytes []/\n=0/\ty=.mk 0 []/\re=.mk 0 []/\(k=5->nm=bytes []):=by
 have J:=h.f;have z:∀ t:Ty,t.zero=true->t=.mk 0 []:=λt O=>by obtain⟨kk,ll⟩:=t;simp only[Ty.zero,Ty.k,Ty.as,oE,nF]at O;have:ll=[]:=oL (by omega);rw[O.1,this]
 have e1:rp k=false:=by rcases hk with rfl | rfl<;>rfl
 have e2:(k==9)=false:=by rcases hk with rfl | rfl<;>rfl
 simp only[zK,e1,e2,oE,Bool.false_or,za]at J;obtain⟨_,U,_,Y,h3,I⟩:=J;rw[if_neg (by omega),if_neg (by omega)]at h3;rcases hk with rfl | rfl
 ·simp[xV]at I;exact⟨I.2,by omega,z _ U,z _ Y,λ_=>I.1⟩
 ·simp[xV]at I;exact⟨I.2,by omega,z _ U,z _ Y,λh=>by omega⟩
def YV (f:FuncId)(t:Tm):Prop:=∀(d:D),t.Is d->t.ok=true->t.isB=true->∀(v:List Bd) (a:Option Addr) (c:Nat),v.length+4*t.cnt<=1073741824->Cop f 9 [.dg 9 d,.sv a 2 (v.map bdD) c] (t.code v).Is
theorem Up {n0:Int}(ih:∀ t∈l,YV 121 t)(hd:(Tm.mk k nm ot n0 ty re l).Is d)(al:(Tm.mk k nm ot n0 ty re l).ok=true)(hB:(Tm.mk k nm ot n0 ty re l).isB=true)(v:List Bd)(a:Option Addr)(c:Nat)(hc:v.length+4*(Tm.mk k nm ot n0 ty re l).cnt<=1073741824)(am:k=8->wg l v=true):
  Cop 177 9 [.dg 9 d,.sv a 2 (v.map bdD) c] (Tm.nod 10 [.mk k nm ot n0 ty re (uH l k nm v)]).Is:=λN Q hQ=>by
 have node:=zT al;simp only[Tm.isB,oE]at hB;have ao:=hd;obtain⟨t0,t1,r0,r1,a1,es,c1,rfl,hh,ae,aa⟩:=Tm.is_mk.1 hd;have a4:=Rn l k nm v;simp only[Tm.cnt]at hc;have a6:=xh l;refine LZ N _ a _ c Q λ_ _ N1 a8=>?_;refine Fr _ _ ao (by simp only[Tm.cnt];omega) N1 _ ?_;intro x4 x5 x6 x7 es' c' N2 a9 aq ah ba _ _;have bb:=ah.len;refine up aa ae (λi xs=>∀(done rest:List D) (m q:Nat) (N':Nat),N<=N'->All2 Tm.Is ((uH l k nm v).take i) done->done.length=i->rest.length=xs.length->m=(done++rest).length ->
  yj Q N a (v.map bdD) c i (.ag [.j k,.t nm,.t ot,.j n0,t0,t1,r0,r1,.sl a1 9 es c1]) 0 (bytes []) (bytes []) 0 0 none [] 0 0 none [] 0 none [] 0 k nm ot n0 x4 x5 x6 x7 m q (done++rest) q N') ?_ ?_ [] es' es'.length c' N2 (by omega) rfl rfl (by omega) rfl
 ·intro i au hi done rest m q N' aw hd ai hr hm;have ax:rest=[]:=oL (by simpa using hr);subst ax;refine px ⟨_,_,_,rfl,?_⟩;rw[ou]at hm ⊢;rw[oX (by rw[Wx];have:=aa.len;omega)]at hd;rw[au];refine⟨⟨hm,rfl⟩,⟨hm,rfl⟩,λa5 N3 ab hf N4 ay=>?_⟩;refine Dn (.mk k nm ot n0 ty re (uH l k nm v)) _ (Tm.is_mk.2 ⟨_,_,_,_,_,_,_,rfl,aq,by have:=aa.len;omega,hd⟩) (by simp only[Tm.cnt];omega) N4 _ λd' N5 az I a0 _ _ N6 U=>?_;exact hQ _ _ (by omega) I (a0.mono (by omega) U)
 ·intro i x xs J _ a2 done rest m q N' aw hd ai hr hm;have hb:=J.b;have bc:=yJ J.m;cases rest with
  | nil=>simp at hr
  | cons y rest=>
    subst ai;have aj:=sU x (bdI k nm l v done.length);have bg:=x.cnt3;have step:∀(N3:Nat),N'<=N3->∀(a7:Option Addr) (c7:Nat),∀(Q':QT [.ag 9]),(∀ d' N4,N3<=N4->(x.code (bdI k nm l v done.length)).Is d'->Own N3 N4 d'->Q' d' N4) ->
      ACalls prog 121 [.ag 9] [.dg 9 (es.getD done.length default),.sv a7 2 ((bdI k nm l v done.length).map bdD) c7] N3 Q':=λN3 ab a7 c7 Q' ac=>by
     refine ih x J.m _ J.r (node.sub x J.m) (yo hB.1 J.m) _ a7 c7 ?_ N3 Q' ac;have h5:(bdI k nm l v done.length).length<=v.length+1:=by unfold bdI bdE;(repeat' split)<;>simp
     have:=ty.cnt_pos
     omega
    have close:∀(d':D) (N4 N5:Nat),N'<=N4->N4<=N5->(x.code (bdI k nm l v done.length)).Is d'->∀ Q':QT [.ag 9],(∀ d2 N6,N5<=N6->(Tm.nod 11 [x.code (bdI k nm l v done.length)]).Is d2->Q' d2 N6)->ACalls prog 71 [.ag 9] [.dg 9 d'] N5 Q':=λd' N4 N5 h4 h5 I Q' ac=>GR _ d' I (by omega) N5 Q' λd2 N6 U O _=>ac d2 N6 U O;have next:∀(d2:D) (N6:Nat),N<=N6->(Tm.nod 11 [x.code (bdI k nm l v done.length)]).Is d2->(0<=(done.length:Int)/\(done.length:Int)<(m:Int)/\(0+done.length:Nat)<(done++y::rest).length)/\(0+done.length:Nat)<(done++y::rest).length /\
      yj Q N a (v.map bdD) c (IntKind.i64.wrap ((done.length:Int)+1)) (.ag [.j k,.t nm,.t ot,.j n0,t0,t1,r0,r1,.sl a1 9 es c1]) 0 (bytes []) (bytes []) 0 0 none [] 0 0 none [] 0 none [] 0 k nm ot n0 x4 x5 x6 x7 m q (List.set (done++y::rest) (0+done.length:Nat) d2) q N6:=λd2 N6 U O=>by
     have bh:(done++y::rest).length=done.length+rest.length+1:=by simp;omega
     refine⟨⟨by omega,by omega,by omega⟩,by omega,?_⟩;rw[J.w,nT,QF];have e:done++d2::rest=(done++[d2])++rest:=by simp
     rw[e];exact a2 (done++[d2]) rest m q N6 U (by rw[zX (Ro l k nm v _ x J.g)];exact hd.snoc O) (by simp) (by simpa using hr) (by rw[hm];simp)
    refine px ⟨_,_,_,rfl,?_⟩;rw[J.lt];simp only[oI];refine⟨_,rfl,Br.beq (λhk=>Br.beq (λh1=>⟨_,rfl,λN3 ab=>?_⟩) λh1=>⟨_,_,_,rfl,⟨by omega,by omega⟩,λN3 ab=>?_⟩) λhk=>⟨_,_,_,rfl,⟨by omega,by omega⟩,λN3 ab=>?_⟩⟩
    ·have eI:bdI k nm l v done.length=v++[(nm,true)]:=by unfold bdI bdE;rw[if_neg (by omega),if_pos hk,am hk]
     refine GQ v (by omega) a c nm true N3 _ λa7 c7 N4 ay _ _=>⟨_,_,_,rfl,⟨by omega,by omega⟩,λN5 az=>?_⟩
     rw[<-eI];refine step N5 (by omega) a7 c7 _ λd' N6 U I _ _ _ N7 Y=>close d' N6 N7 (by omega) Y I _ λd2 N8 ak O _ _=>next d2 N8 (by omega) O
    ·have eI:bdI k nm l v done.length=v:=by
      unfold bdI bdE;by_cases h0:done.length=0
      ·rw[if_pos h0]
      ·exfalso;have a3:=node.ar;subst hk;rw[show sA 8 nm=2 from rfl]at a3
       have:=aa.len
       omega
     have:=step N3 (by omega) a c
     rw[eI]at this aj close next;refine this _ λd' N6 U I _ _ _ N7 Y=>close d' N6 N7 (by omega) Y I _ λd2 N8 ak O _ _=>next d2 N8 (by omega) O
    ·have eI:bdI k nm l v done.length=v:=by unfold bdI bdE;rw[if_neg hk];simp
     have:=step N3 (by omega) a c
     rw[eI]at this aj close next;refine this _ λd' N6 U I _ _ _ N7 Y=>close d' N6 N7 (by omega) Y I _ λd2 N8 ak O _ _=>next d2 N8 (by omega) O
abbrev Nb:=ByteArray × Int
variable {v:List Nb}
def wT (nm:ByteArray)(v:List Nb):Option Int:=(v.reverse.find? λp=>decide (p.1=nm)).map (·.2)
theorem zR {b:Nb}:wT nm (v++[b])=if b.1=nm then some b.2 else wT nm v:=by unfold wT;rw[lM];by_cases h:b.1=nm<;>simp[h]
def red (n:Int):Int:=n % 10007
def bI (b:Bool):Int:=if b then 1 else 0
def yQ (s:ByteArray)(a b:Int):Int × Bool:=
 if inB a 0 10006=true then(if inB b 0 10006=true then
  (if s=bytes [43]then(red (a+b),true)else if s=bytes [45]then(red (a - b),true)else if s=bytes [42]then(red (a*b),true)
  else if s=bytes [61]then(bI (a==b),true)else if s=bytes [60]then(bI (decide (a<b)),true)
  else if s=bytes [38]then(bI (a==1&&b==1),true)else if s=bytes [124]then(bI (a==1||b==1),true)
  else if s=bytes [33]then(bI (a==0),true)else(0,false))else(0,false))else(0,false)
mutual
def Tm.ev:Tm->List Nb->Int
 | .mk k nm _ n _ _ l,v=>if k=1 then(wT nm v).getD n else if k=4 then(yQ nm (sD l 0 v) (sD l 1 v)).1 else if k=5 then sD l (2 - sD l 0 v).toNat v
   else if k=8 then sD l 1 (v++[(nm,sD l 0 v)])else n
def sD:List Tm->Nat->List Nb->Int
 | [],_,_=>0
 | t::_,0,v=>t.ev v
 | _::I,i+1,v=>sD I i v
end
def Gi (t:Ty)(n:Int):Bool:=if t.k=2 then inB n 0 1 else inB n 0 10006
theorem H5 (b:Bool):0<=bI b/\bI b<=1:=by cases b<;>decide
theorem TX (n:Int):0<=red n/\red n<=10006:=by unfold red;omega
theorem Iv (s:ByteArray)(a b:Int):0<=(yQ s a b).1/\(yQ s a b).1<=10006:=by
 have I:=TX (a+b);have J:=TX (a - b);have O:=TX (a*b);have U:=H5 (a==b);have Y:=H5 (decide (a<b));have h6:=H5 (a==1&&b==1);have h7:=H5 (a==1||b==1);have h8:=H5 (a==0);unfold yQ
 (repeat' split)<;>constructor<;>first | omega | (simp only;omega)
theorem Ef {s:ByteArray}(I:¬s=bytes [43])(J:¬s=bytes [45])(O:¬s=bytes [42])(a b:Int):0<=(yQ s a b).1/\(yQ s a b).1<=1:=by
 have U:=H5 (a==b);have Y:=H5 (decide (a<b));have h6:=H5 (a==1&&b==1);have h7:=H5 (a==1||b==1);have h8:=H5 (a==0);unfold yQ;rw[if_neg I,if_neg J,if_neg O]
 (repeat' split)<;>constructor<;>first | omega | (simp only;omega)
structure Fit (v:List Nb) (g:List Tg):Prop where
 len:v.length=g.length
 at_:∀(i:Nat) (x:Tg) (y:Nb),g[i]?=some x->v[i]?=some y->x.nm=y.1/\Gi x.ty y.2=true
theorem Fit.snoc (h:Fit v g){x:Tg}{y:Nb}(U:x.nm=y.1)(Y:Gi x.ty y.2=true):Fit (v++[y]) (g++[x]):=by
 refine⟨by simp[h.len],λi a b I J=>?_⟩;by_cases hi:i<g.length
 ·rw[oO hi]at I;rw[oO (by have:=h.len;omega)]at J;exact h.at_ i a b I J
 ·rw[oS (by omega)]at I;rw[oS (by have:=h.len;omega),h.len]at J;cases O:i - g.length with
  | zero=>rw[O]at I J;simp at I J;subst I;subst J;exact⟨U,Y⟩
  | succ j=>rw[O]at I;simp at I
theorem Pc (h:Fit v g)(s:ByteArray):∀ n:Nat,n<=g.length->0<=wZ g s n->∃ m,wT s (v.take n)=some m/\Gi (g.getD (wZ g s n).toNat tg0).ty m=true
 | 0,_,I=>by simp[wZ]at I
 | n+1,hn,I=>by
   have O:n<v.length:=by have:=h.len;omega
   have U:n<g.length:=by omega
   have hv:v[n]?=some v[n]:=oF O;have Y:g[n]?=some g[n]:=oF U;have J:g.getD n tg0=g[n]:=by simp[oB,Y]
   obtain⟨e1,e2⟩:=h.at_ n _ _ Y hv;rw[zX hv,zR];simp only[wZ,J]at I ⊢;by_cases hs:g[n].nm=s
   ·rw[if_pos (by rw[<-e1];exact hs),if_pos hs];exact⟨_,rfl,by rw[oI,J];exact e2⟩
   ·rw[if_neg (by rw[<-e1];exact hs)];rw[if_neg hs]at I ⊢;exact Pc h s n (by omega) I
theorem Sm (h:Fit v g){s:ByteArray}(I:yF g s 0=some t):∃ m,wT s v=some m/\Gi t m=true:=by
 unfold yF at I;split at I
 ·cases I
 ·rename_i J;split at I
  ·cases I
   have:=Pc h s g.length (oD _) (by unfold zL at J;omega)
   rw[<-h.len,lA]at this;have e:wZ g s v.length=zL g s:=by rw[h.len];rfl
   rw[e]at this;exact this
  ·cases I
theorem yf {J:List Tm}{us:List Ty}(h:zS (x::J) g n=some us):∃ u vs,x.type g n=some u/\zS J g n=some vs/\us=u::vs:=by
 simp only[zS]at h;split at h
 ·rename_i u O;split at h
  ·rename_i vs I;cases h;exact⟨u,vs,O,I,rfl⟩
  ·cases h
 ·cases h
theorem Cl (I:t.k=2)(h:Gi t n=true):n=0\/n=1:=by unfold Gi at h;rw[if_pos I,za]at h;omega
theorem OP (h:0<=n/\n<=(if t.k=2 then 1 else 10006)):Gi t n=true:=by
 unfold Gi;split at h<;>rename_i hk
 ·rw[if_pos hk,za];omega
 ·rw[if_neg hk,za];omega
theorem Be:∀(t:Tm),t.ok=true->t.isB=true->∀(g:List Tg)(v:List Nb),Fit v g->∀ u,t.type g 0=some u->Gi u (t.ev v)=true:=by
 refine Tm.ind λk nm ot n ty re l ih ae hb g v Y u I=>?_;have node:=zT ae;simp only[Tm.isB,oE,s5,nB,za,nF]at hb;obtain⟨ah,hk⟩:=hb;have J:∀ x∈l,∀ g v,Fit v g->∀ u,x.type g 0=some u->Gi u (x.ev v)=true:=λx hx=>ih x hx (node.sub x hx) (yo ah hx);have U:=node.ar;have aa:=node.f;simp only[zK,oE]at aa;have O:=aa.2.2.2.2.1;rw[za]at O;simp only[Tm.type]at I;obtain⟨I,aj⟩:=Au I;simp only[Tm.ev];by_cases h1:k=1
 ·rw[if_pos h1]at I ⊢;obtain⟨m,e1,e2⟩:=Sm Y I;rw[e1];exact e2
 rw[if_neg h1]at I ⊢;by_cases h4:k=4
 ·subst h4;rw[if_neg (by omega),if_neg (by omega),if_neg (by omega),if_neg (by omega),if_neg (by omega),if_neg (by omega)]at I;rw[if_pos rfl];split at I
  ·rename_i ts ab;unfold zm at I;rw[if_pos rfl]at I;unfold Ri at I;split at I
   ·cases I;refine OP ?_;have O:=Iv nm (sD l 0 v) (sD l 1 v);split
    ·rename_i h2;unfold rh at h2;by_cases c1:nm=bytes [43]
     ·simp[c1,tInt,Ty.k]at h2
     by_cases c2:nm=bytes [45]
     ·simp[c1,c2,tInt,Ty.k]at h2
     by_cases c3:nm=bytes [42]
     ·simp[c1,c2,c3,tInt,Ty.k]at h2
     exact Ef c1 c2 c3 _ _
    ·exact O
   ·cases I
  ·cases I
 rw[if_neg h4];by_cases h5:k=5
 ·subst h5;rw[if_neg (by omega),if_neg (by omega),if_neg (by omega),if_neg (by omega),if_neg (by omega),if_neg (by omega)]at I;rw[if_pos rfl];rw[show sA 5 nm=3 from rfl]at U
  match l,U with
  | [x0,x1,x2],_=>
    split at I
    ·rename_i ts ab;obtain⟨u0,ak,e0,h6,e3⟩:=yf ab;obtain⟨u1,al,e1,h7,e4⟩:=yf h6;obtain⟨u2,am,e2,h8,e5⟩:=yf h7;subst e5;subst e4;subst e3;unfold zm at I;rw[if_neg (by omega),if_pos rfl]at I;split at I
     ·rename_i hc;simp only[nk,mV,w6]at hc I;cases I;have hc0:=Cl hc.1 (J x0 (by simp) g v Y _ e0);have ai:sD [x0,x1,x2] 0 v=x0.ev v:=rfl;rw[ai];rcases hc0 with hc0 | hc0
      ·rw[hc0];rw[hc.2];exact J x2 (by simp) g v Y _ e2
      ·rw[hc0];exact J x1 (by simp) g v Y _ e1
     ·cases I
    ·cases I
  | [],h=>simp at h
  | [_],h=>simp at h
  | [_,_],h=>simp at h
  | _::_::_::_::_,h=>simp at h;omega
 rw[if_neg h5];by_cases h8:k=8
 ·subst h8;rw[if_neg (by omega),if_neg (by omega),if_neg (by omega),if_pos rfl]at I;rw[if_pos rfl];rw[show sA 8 nm=2 from rfl]at U
  match l,U with
  | [x0,x1],_=>
    simp only[uo]at I;split at I
    ·rename_i a ha;exact J x1 (by simp) _ _ (Y.snoc rfl (J x0 (by simp) g v Y _ ha)) _ I
    ·cases I
  | [],h=>simp at h
  | [_],h=>simp at h
  | _::_::_::_,h=>simp at h;omega
 rw[if_neg h8];have ac:k=2\/k=3:=by omega
 rcases ac with rfl | rfl
 ·rw[if_pos rfl]at I;cases I;refine OP ?_;simpa [tInt,Ty.k]using O
 ·rw[if_neg (by omega),if_pos rfl]at I;cases I;refine OP ?_;simpa [tBool,Ty.k]using O
theorem XC (b:Bool):pI 176 [.bool b] ((if b then 1 else 0:Nat):Int):=λN Q J=>Nm N b Q (Br.of (λh N1 I=>Qi (J _ I) (by rw[h];rfl)) λh N1 I=>Qi (J _ I) (by rw[h];rfl))
theorem zAK (b:Bool):pI 153 [.bool b] ((if b then 1 else 0:Nat):Int):=λN Q J=>Rb N b Q (Br.of (λh N1 I=>Qi (J _ I) (by rw[h];rfl)) λh N1 I=>Qi (J _ I) (by rw[h];rfl))
theorem Wc {a b:Int}(I:0<=a/\a<=10006)(J:0<=b/\b<=10006):0<=a*b/\a*b<=100120036:=by refine⟨Int.mul_nonneg I.1 J.1,?_⟩;have O:a*b<=10006*b:=Int.mul_le_mul_of_nonneg_right I.2 J.1;omega
theorem QL (n:Int):(if Int.tmod n 10007<0 then Int.tmod n 10007+10007 else Int.tmod n 10007)=red n:=by
 unfold red;by_cases h:0<=n
 ·rw[mE h,if_neg (by omega)]
 ·obtain⟨m,rfl⟩:∃ m,n = -m:=⟨-n,by omega⟩
  rw[Int.neg_tmod,mE (by omega)];split<;>omega
theorem Ws (n:Int): -10007<Int.tmod n 10007/\Int.tmod n 10007<10007:=by
 by_cases h:0<=n
 ·rw[mE h];omega
 ·obtain⟨m,rfl⟩:∃ m,n = -m:=⟨-n,by omega⟩
  rw[Int.neg_tmod,mE (by omega)];omega
theorem KG (n:Int):pI 175 [.j n] (red n):=λN Q O=>by
 have U:=Ws n;have hr:=QL n;refine LU N n Q ⟨by omega,Br.dec (λh N1 I=>?_) λh N2 J=>?_⟩
 ·rw[i64_in _ (by omega)];rw[if_pos h]at hr;exact Qi (O _ I) hr.symm
 ·rw[if_neg h]at hr;exact Qi (O _ J) hr.symm
theorem KC (n:Int):pI 152 [.j n] (red n):=λN Q J=>by have O:=Ws n;have hr:=QL n;refine LI N n Q ⟨by omega,by omega,λN1 I=>?_⟩;rw[i64_in _ (by omega)];refine Qi (J _ I) ?_;rw[<-hr];generalize Int.tmod n 10007=m at *;rw[mE (by omega)];split<;>omega
def Yd (f:FuncId)(args:List PV)(r:Int × Bool):Prop:=∀(N:Nat) (Q:QT [.i,.bool]),(∀ N',N<=N'->Q r.1 r.2 N')->ACalls prog f [.i,.bool] args N Q
theorem Qp {Q:QT [.i,.bool]}{a b:Int × Bool}(h:Q a.1 a.2 N)(e:a=b):Q b.1 b.2 N:=e ▸ h
theorem VN (b:Bool):pI 176 [.bool b] (bI b):=λN Q I=>XC b N Q λN' h=>Qi (I N' h) (by cases b<;>rfl)
theorem Yq (b:Bool):pI 153 [.bool b] (bI b):=λN Q I=>zAK b N Q λN' h=>Qi (I N' h) (by cases b<;>rfl)
theorem s6 (s:ByteArray)(a b:Int):Yd 117 [.str s,.j a,.j b] (yQ s a b):=λN Q O=>by
 refine IW N s a b Q λN1 ab=>xH _ _ _ N1 _ λN2 ac _=>?_;by_cases I:inB a 0 10006=true
 rotate_left
 ·have I:inB a 0 10006=false:=by simpa using I
  rw[I];simp only[Bool.not_false,Jo];have e:yQ s a b=(0,false):=by unfold yQ;rw[if_neg (by rw[I];decide)]
  exact λN3 U=>Qp (b:=(0,false)) (O N3 (by omega)) e
 rw[I];simp only[lX,Fn];intro N4 ae;refine xH _ _ _ N4 _ λN5 ah _=>?_;by_cases J:inB b 0 10006=true
 rotate_left
 ·have J:inB b 0 10006=false:=by simpa using J
  rw[J];simp only[Bool.not_false,Jo];have e:yQ s a b=(0,false):=by unfold yQ;rw[if_pos I,if_neg (by rw[J];decide)]
  exact λN3 U=>Qp (b:=(0,false)) (O N3 (by omega)) e
 rw[J];simp only[lX,Fn];have Y:=za.1 I;have aa:=za.1 J;have hm:=Wc Y aa;rw[i64_in (a+b) (by omega),i64_in (a - b) (by omega),i64_in (a*b) (by omega)];have fin:∀(x:Int) (y:Bool) (N':Nat),N<=N'->yQ s a b=(x,y)->Q x y N':=λx y N' h e=>Qp (b:=(x,y)) (O N' h) e;unfold yQ at fin;rw[if_pos I,if_pos J]at fin;clear O
 repeat' first|with_reducible intro _|simp only[Y1]|with_reducible refine X ?_ ?_|refine⟨_,_,_,rfl,?_⟩|refine⟨_,rfl,?_⟩|refine X0 ?_|refine(KG _) _ _ ?_|refine(VN _) _ _ ?_|fail
 all_goals
  refine fin _ _ _ (by omega) ?_
  (repeat' split)<;>first | rfl | contradiction | (simp_all;done) | (congr 1;rw[show(a==1)=false by simpa using ‹¬a=1›];rfl)
theorem BK (s:ByteArray)(a b:Int):Yd 105 [.str s,.j a,.j b] (yQ s a b):=λN Q O=>by
 refine IM N s a b Q λN1 ab=>vm _ N1 _ λN2 ac _=>?_;by_cases I:inB a 0 10006=true
 rotate_left
 ·have I:inB a 0 10006=false:=by simpa using I
  rw[I];simp only[Bool.not_false,Jo];have e:yQ s a b=(0,false):=by unfold yQ;rw[if_neg (by rw[I];decide)]
  exact λN3 U=>Qp (b:=(0,false)) (O N3 (by omega)) e
 rw[I];simp only[lX,Fn];intro N4 ae;refine vm _ N4 _ λN5 ah _=>?_;by_cases J:inB b 0 10006=true
 rotate_left
 ·have J:inB b 0 10006=false:=by simpa using J
  rw[J];simp only[Bool.not_false,Jo];have e:yQ s a b=(0,false):=by unfold yQ;rw[if_pos I,if_neg (by rw[J];decide)]
  exact λN3 U=>Qp (b:=(0,false)) (O N3 (by omega)) e
 rw[J];simp only[lX,Fn];have Y:=za.1 I;have aa:=za.1 J;have hm:=Wc Y aa;rw[i64_in (a+b) (by omega),i64_in (a - b) (by omega),i64_in (a*b) (by omega)];have fin:∀(x:Int) (y:Bool) (N':Nat),N<=N'->yQ s a b=(x,y)->Q x y N':=λx y N' h e=>Qp (b:=(x,y)) (O N' h) e;unfold yQ at fin;rw[if_pos I,if_pos J]at fin;clear O
 repeat' first|with_reducible intro _|simp only[Y1]|with_reducible refine X ?_ ?_|refine⟨_,_,_,rfl,?_⟩|refine⟨_,rfl,?_⟩|refine X0 ?_|refine(KC _) _ _ ?_|refine(Yq _) _ _ ?_|fail
 all_goals
  refine fin _ _ _ (by omega) ?_
  (repeat' split)<;>first | rfl | contradiction | (simp_all;done) | (congr 1;rw[show(a==1)=false by simpa using ‹¬a=1›];rfl)
theorem BQ (hd:t.Is d)(n:Int):vM 23 [.dg 2 d,.j n] (Gi t n):=λN Q O=>by
 cases t with
 | mk k l=>
 obtain⟨a,es,c,rfl,U,Y⟩:=Ty.is_mk.1 hd;refine Ih N _ n Q λ_=>⟨_,rfl,Br.beq (λh N1 aa=>?_) λh N4 ab=>?_⟩
 ·refine xH _ _ _ N1 _ λN2 I _ N3 J=>Qb (O _ (by omega)) ?_;unfold Gi;rw[show(Ty.mk k l).k=k from rfl,if_pos h]
 ·refine xH _ _ _ N4 _ λN2 I _ N3 J=>Qb (O _ (by omega)) ?_;unfold Gi;rw[show(Ty.mk k l).k=k from rfl,if_neg h]
theorem MB (hd:t.Is d)(n:Int):vM 50 [.dg 2 d,.j n] (Gi t n):=λN Q O=>by
 cases t with
 | mk k l=>
 obtain⟨a,es,c,rfl,U,Y⟩:=Ty.is_mk.1 hd;refine Na N _ n Q λ_=>⟨_,rfl,Br.beq (λh N1 aa=>?_) λh N4 ab=>?_⟩
 ·refine yN _ _ _ N1 _ λN2 I _ N3 J=>Qb (O _ (by omega)) ?_;unfold Gi;rw[show(Ty.mk k l).k=k from rfl,if_pos h]
 ·refine vm _ N4 _ λN2 I _ N3 J=>Qb (O _ (by omega)) ?_;unfold Gi;rw[show(Ty.mk k l).k=k from rfl,if_neg h]
def nbD (b:Nb):D:=.ag [.t b.1,.j b.2]
theorem ZT {i:Nat}{b:Nb}(h:v[i]?=some b):(v.map nbD).getD i default=nbD b:=by simp[oB,h]
theorem Aa:∀ {l:List Tm}{g:List Tg}{n:Int}{I:List Ty},zS l g n=some I->∀ x∈l,∃ u,x.type g n=some u
 | y::ys,g,n,I,h,x,hx=>by
   obtain⟨u,vs,J,O,_⟩:=yf h;rcases oH.1 hx with rfl | hx
   ·exact⟨u,J⟩
   ·exact Aa O x hx
theorem tK (h:(Tm.mk k nm ot n ty re l).type g m=some u)(hk:k=4\/k=5):∃ I,zS l g m=some I/\zm k nm I=some u:=by
 simp only[Tm.type]at h;obtain⟨h,_⟩:=Au h;rw[if_neg (by omega),if_neg (by omega),if_neg (by omega),if_neg (by omega),if_neg (by omega),if_neg (by omega),if_neg (by omega)]at h;split at h
 ·exact⟨_,by assumption,h⟩
 ·cases h
theorem K9 {I:Tm}(h:(Tm.mk 8 nm ot n ty re [I,J]).type g m=some u):∃ a,I.type g m=some a/\J.type (g++[⟨nm,a,m⟩]) m=some u:=by
 simp only[Tm.type]at h;obtain⟨h,_⟩:=Au h;rw[if_neg (by omega),if_neg (by omega),if_neg (by omega),if_neg (by omega)]at h;simp only[nj,uo]at h;split at h
 ·exact⟨_,by assumption,h⟩
 ·cases h
theorem V6 (h:(Tm.mk 1 nm ot n ty re l).type g m=some u):yF g nm m=some u:=by simp only[Tm.type]at h;exact(Au h).1
theorem Xn (s:ByteArray):JO s=0\/JO s=1\/JO s=2:=by unfold JO;(repeat' split)<;>simp
theorem P4 (h:(Tm.mk 4 nm ot n ty re l).ok=true)(U:All2 Tm.Is l es):(∃ I d0,l=[I]/\es=[d0]/\I.Is d0)\/∃ I O d0 d1,l=[I,O]/\es=[d0,d1]/\I.Is d0/\O.Is d1:=by
 have node:=zT h;have J:=node.ar;have hf:=node.f;simp only[zK,xV,oE]at hf;have hn:=hf.2.2.2.2.2;simp only[nj,oE,oq]at hn;rw[show sA 4 nm=JO nm from rfl]at J;have ho:=Xn nm
 match l,es,U with
 | [I],_,⟨d0,ds,e1,Y,e2⟩=>subst e2;subst e1;exact .inl ⟨I,d0,rfl,rfl,Y⟩
 | [I,O],_,⟨d0,ds,e1,Y,d1,aa,e2,h1,e3⟩=>subst e3;subst e2;subst e1;exact .inr ⟨I,O,d0,d1,rfl,rfl,Y,h1⟩
 | [],_,_=>simp at J;omega
 | _::_::_::_,_,_=>simp at J;omega
theorem GP:∀(t:Tm) (d:D),t.Is d->t.ok=true->t.isB=true->∀(g:List Tg) (u:Ty),t.type g 0=some u->∀(v:List Nb),Fit v g->∀(a:Option Addr) (c:Nat),v.length+t.cnt<=1073741824 ->
  pI 67 [.dg 9 d,.sv a 2 (v.map nbD) c] (t.ev v):=by
 refine Tm.ind λk nm ot n0 ty re l ih d hd al hb g u hu v hf a c hc N Q I=>?_;obtain⟨t0,t1,r0,r1,a1,es,c1,rfl,hh,bh,ac⟩:=Tm.is_mk.1 hd;have node:=zT al;have am:=hb;simp only[Tm.isB,oE,s5,nB,za,nF]at am;obtain⟨ae,hk⟩:=am;simp only[Tm.cnt]at hc;have ax:(v.map nbD).length=v.length:=by simp
 have O:∀ x∈l,∀ d,x.Is d->∀ g u,x.type g 0=some u->∀ v,Fit v g->∀ a c,v.length+x.cnt<=1073741824->pI 67 [.dg 9 d,.sv a 2 (v.map nbD) c] (x.ev v):=λx hx d hd=>ih x hx d hd (node.sub x hx) (yo ae hx);refine Ig N _ a _ c Q λ_ _=>⟨_,rfl,Br.beq (λh1=>?_) λh1=>Br.beq (λh4=>?_) λh4=>Br.beq (λh5=>?_) λh5=>Br.beq (λh8=>?_) λh8=>?_⟩
 ·-- a name
  simp only[Tm.ev]at I;rw[if_pos h1]at I;have look:∀(i:Nat),i<=v.length->∀ N1,N<=N1->(∀ N',N1<=N'->Q ((wT nm (v.take i)).getD n0) N')->wu Q N a (v.map nbD) c ((i:Int) - 1) (.ag [.j k,.t nm,.t ot,.j n0,t0,t1,r0,r1,.sl a1 9 es c1]) N1:=by
   intro i
   induction i with
   | zero=>
     intro hi N1 ay U;refine qt ?_;have e:decide (((0:Nat):Int) - 1≥0)=false:=by simp
     repeat' first|with_reducible intro _|simp only[e,Y1]|with_reducible refine X ?_ ?_|refine⟨_,_,_,rfl,?_⟩|refine⟨_,rfl,?_⟩|refine X0 ?_|fail
     exact Qi (U _ (by omega)) rfl
   | succ i az=>
     intro hi N1 ay U;have a0:i<v.length:=by omega
     have hg:v[i]?=some v[i]:=oF a0;have a2:=ZT hg;refine qt ?_;have e0:(((i+1:Nat):Int) - 1)=(i:Int):=by omega
     have e:decide ((i:Int)≥0)=true:=mJ (by omega);have ew:IntKind.i64.wrap ((i:Int) - 1)=(i:Int) - 1:=i64_in _ (by omega);rw[e0];rw[zX hg,zR]at U
     repeat' first|with_reducible intro _|simp only[e,ew,oI,a2,nbD,nj,eq_self,Y1]|with_reducible refine X ?_ ?_|refine⟨_,_,_,rfl,?_⟩|refine⟨_,rfl,?_⟩|refine X0 ?_|fail
     ·rename_i hs _ _;exact Qi (U _ (by omega)) (by rw[if_pos hs];rfl)
     ·rename_i hs;exact az (by omega) N1 (by omega) λN' h=>Qi (U N' h) (by rw[if_neg hs])
  rw[ax,i64_in _ (by omega)];exact look v.length (oD _) N (oD _) (by rw[lA];exact I)
 ·-- an operation
  simp only[Tm.ev]at I;rw[if_neg h1,if_pos h4]at I;subst h4;obtain⟨ts,ah,_⟩:=tK hu (.inl rfl);have ai:=Aa ah;rcases P4 al ac with⟨J,d0,rfl,rfl,i0⟩ | ⟨J,x1,d0,d1,rfl,rfl,i0,i1⟩
  ·obtain⟨Y,aa⟩:=ai J (by simp);simp only[zG]at hc;have c0:=O J (by simp) d0 i0 g Y aa v hf a c (by omega);have aj:=s6 nm (J.ev v) 0;have e1:(([d0]:List D).length:Int)=1:=rfl
   repeat' first|with_reducible intro _|simp only[nk,oJ,oN,Y1]|with_reducible refine X ?_ ?_|refine⟨_,_,_,rfl,?_⟩|refine⟨_,rfl,?_⟩|refine X0 ?_|refine c0 _ _ ?_|refine aj _ _ ?_|fail
   all_goals first
    | exact Qi (I _ (by omega)) rfl
    | (rename_i h _ _;simp at h)
  ·obtain⟨Y,aa⟩:=ai J (by simp);obtain⟨u1,a3⟩:=ai x1 (by simp);simp only[zG]at hc;have c0:=O J (by simp) d0 i0 g Y aa v hf a c (by omega);have c1:=O x1 (by simp) d1 i1 g u1 a3 v hf a c (by omega);have aj:=s6 nm (J.ev v) (x1.ev v)
   repeat' first|with_reducible intro _|simp only[nk,mV,oJ,oN,Y1]|with_reducible refine X ?_ ?_|refine⟨_,_,_,rfl,?_⟩|refine⟨_,rfl,?_⟩|refine X0 ?_|refine c0 _ _ ?_|refine c1 _ _ ?_|refine aj _ _ ?_|fail
   all_goals first
    | exact Qi (I _ (by omega)) rfl
    | (rename_i h _ _;simp at h)
 ·-- a condition
  have bi:=Be;simp only[Tm.ev]at I;rw[if_neg h1,if_neg h4,if_pos h5]at I;subst h5;obtain⟨ts,ah,ab⟩:=tK hu (.inr rfl);obtain⟨J,x1,x2,d0,d1,d2,rfl,rfl,i0,i1,i2⟩:=t3 ac (node.ar.trans rfl);obtain⟨Y,bz,e0,q6,e3⟩:=yf ah;obtain⟨u1,b1,e1,q7,e4⟩:=yf q6;obtain⟨u2,b2,e2,q8,e5⟩:=yf q7;subst e5;subst e4;subst e3;simp only[zG]at hc;have c0:=O J (by simp) d0 i0 g Y e0 v hf a c (by omega);have c1:=O x1 (by simp) d1 i1 g u1 e1 v hf a c (by omega);have c2:=O x2 (by simp) d2 i2 g u2 e2 v hf a c (by omega);have aa:Y.k=2:=by
   unfold zm at ab;rw[if_neg (by omega),if_pos rfl]at ab;split at ab
   ·rename_i a4;exact a4.1
   ·cases ab
  have hv:=Cl aa (Be J (node.sub _ (by simp)) (yo ae (by simp)) g v hf Y e0);refine⟨_,_,_,rfl,_,_,_,rfl,⟨by omega,by simp⟩,λa5 bj=>c0 a5 _ λb6 bm _=>?_⟩;have a6:sD [J,x1,x2] 0 v=J.ev v:=rfl;rw[a6]at I;rcases hv with hv | hv
  ·rw[hv]at I ⊢;rw[show IntKind.i64.wrap (2 - 0)=2 from rfl];refine⟨⟨by omega,by simp⟩,λak ao=>c2 ak _ λa8 aq _ a9 au=>I _ (by omega)⟩
  ·rw[hv]at I ⊢;rw[show IntKind.i64.wrap (2 - 1)=1 from rfl];refine⟨⟨by omega,by simp⟩,λak ao=>c1 ak _ λa8 aq _ a9 au=>I _ (by omega)⟩
 ·-- a let
  simp only[Tm.ev]at I;rw[if_neg h1,if_neg h4,if_neg h5,if_pos h8]at I;subst h8;obtain⟨J,x1,d0,d1,rfl,rfl,i0,i1⟩:=uj ac (node.ar.trans rfl);obtain⟨Y,e0,e1⟩:=K9 hu;simp only[zG]at hc;have b7:=J.cnt_pos;have c0:=O J (by simp) d0 i0 g Y e0 v hf a c (by omega);have ba:=hf.snoc (x:=⟨nm,Y,0⟩) (y:=(nm,J.ev v)) rfl (Be J (node.sub _ (by simp)) (yo ae (by simp)) g v hf Y e0);have bb:([]++v.map nbD)++[D.ag [.t nm,.j (J.ev v)]]=(v++[(nm,J.ev v)]).map nbD:=by simp[nbD]
  refine⟨⟨rfl,rfl⟩,by unfold zA;simp;omega,λc5=>⟨_,_,_,rfl,⟨by omega,by simp⟩,_,rfl,_,_,_,rfl,⟨by omega,by simp⟩,λbc bp=>c0 bc _ λb9 bq _=>⟨⟨rfl,rfl⟩,by unfold zA;simp;omega,λc8=>⟨⟨rfl,rfl⟩,λa7 _ _ bg bt _=>?_⟩⟩⟩⟩;rw[bb];refine O x1 (by simp) d1 i1 _ u e1 _ ba a7 c8 (by simp;omega) bg _ λca bv _ cc bw=>?_;exact I _ (by omega)
 ·simp only[Tm.ev]at I;rw[if_neg h1,if_neg h4,if_neg h5,if_neg h8]at I;exact⟨_,rfl,λcd aw=>I _ aw⟩
def plN (p:Pl):Nb:=(p.1,p.2.1)
theorem Sl (nm:ByteArray)(v:List Pl):(MY nm v).2.1=(wT nm (v.map plN)).getD 0:=by
 unfold MY wT;rw[<-List.map_reverse,List.find?_map];generalize v.reverse=u
 induction u with
 | nil=>rfl
 | cons x u I=>
   by_cases h:x.1=nm
   ·simp[plN,h]
   ·simp only[List.find?_cons,Function.comp,plN,h,decide_false]at I ⊢;exact I
theorem OH:∀(t:Tm) (d:D),t.Is d->t.ok=true->t.isB=true->∀(g:List Tg) (u:Ty),t.type g 0=some u->∀(v:List Pl),Fit (v.map plN) g->∀(a:Option Addr) (c:Nat),v.length+t.cnt<=1073741824 ->
  pI 54 [.sv a 3 (v.map plD) c,.dg 9 d] (t.ev (v.map plN)):=by
 refine Tm.ind λk nm ot n0 ty re l ih d hd ay hb g u hu v U a c hc N Q I=>?_;obtain⟨t0,t1,r0,r1,a1,es,c1,rfl,hh,bg,aj⟩:=Tm.is_mk.1 hd;have node:=zT ay;have az:=hb;simp only[Tm.isB,oE,s5,nB,za,nF]at az;obtain⟨ak,hk⟩:=az;simp only[Tm.cnt]at hc;have O:∀ x∈l,∀ d,x.Is d->∀ g u,x.type g 0=some u->∀ v:List Pl,Fit (v.map plN) g->∀ a c,v.length+x.cnt<=1073741824->pI 54 [.sv a 3 (v.map plD) c,.dg 9 d] (x.ev (v.map plN)):=λx hx d hd=>ih x hx d hd (node.sub x hx) (yo ak hx);refine Bt N a _ c _ Q λ_ _=>⟨_,rfl,Br.beq (λh1=>?_) λh1=>Br.beq (λh2=>?_) λh2=>Br.beq (λh3=>?_) λh3=>Br.beq (λh5=>?_) λh5=>Br.beq (λh8=>?_) λh8=>?_⟩
 ·simp only[Tm.ev]at I;rw[if_pos h1]at I;subst h1;obtain⟨m,e1,_⟩:=Sm U (V6 hu);refine⟨_,rfl,λN1 al=>?_⟩;refine WL v a c nm (by omega) N1 _ λN2 a0 _ _=>⟨_,rfl,λN3 am=>?_⟩
  exact Qi (I _ (by omega)) (by rw[Sl,e1];rfl)
 ·simp only[Tm.ev]at I;rw[if_neg h1,if_neg (by omega),if_neg (by omega),if_neg (by omega)]at I;exact⟨_,rfl,λN5 ao=>I _ (by omega)⟩
 ·simp only[Tm.ev]at I;rw[if_neg h1,if_neg (by omega),if_neg (by omega),if_neg (by omega)]at I;exact⟨_,rfl,λN5 ao=>I _ (by omega)⟩
 ·-- a condition
  simp only[Tm.ev]at I;rw[if_neg h1,if_neg (by omega),if_pos h5]at I;subst h5;obtain⟨ts,aq,ac⟩:=tK hu (.inr rfl);obtain⟨J,x1,x2,d0,d1,d2,rfl,rfl,i0,i1,i2⟩:=t3 aj (node.ar.trans rfl);obtain⟨Y,bj,e0,q6,e3⟩:=yf aq;obtain⟨u1,bm,e1,q7,e4⟩:=yf q6;obtain⟨u2,bp,e2,q8,e5⟩:=yf q7;subst e5;subst e4;subst e3;simp only[zG]at hc;have c0:=O J (by simp) d0 i0 g Y e0 v U a c (by omega);have c1:=O x1 (by simp) d1 i1 g u1 e1 v U a c (by omega);have c2:=O x2 (by simp) d2 i2 g u2 e2 v U a c (by omega);have aa:Y.k=2:=by
   unfold zm at ac;rw[if_neg (by omega),if_pos rfl]at ac;split at ac
   ·rename_i a8;exact a8.1
   ·cases ac
  have hv:=Cl aa (Be J (node.sub _ (by simp)) (yo ak (by simp)) g _ U Y e0);refine⟨_,_,_,rfl,_,_,_,rfl,⟨by omega,by simp⟩,λau a2=>c0 au _ λa9 a3 _=>?_⟩;have ba:sD [J,x1,x2] 0 (v.map plN)=J.ev (v.map plN):=rfl;rw[ba]at I;rcases hv with hv | hv
  ·rw[hv]at I ⊢;rw[show IntKind.i64.wrap (2 - 0)=2 from rfl];refine⟨⟨by omega,by simp⟩,λab ae=>c2 ab _ λa5 ah _ aw ai=>I _ (by omega)⟩
  ·rw[hv]at I ⊢;rw[show IntKind.i64.wrap (2 - 1)=1 from rfl];refine⟨⟨by omega,by simp⟩,λab ae=>c1 ab _ λa5 ah _ aw ai=>I _ (by omega)⟩
 ·-- a let
  simp only[Tm.ev]at I;rw[if_neg h1,if_neg (by omega),if_neg h5,if_pos h8]at I;subst h8;obtain⟨J,x1,d0,d1,rfl,rfl,i0,i1⟩:=uj aj (node.ar.trans rfl);obtain⟨Y,e0,e1⟩:=K9 hu;simp only[zG]at hc;have bq:=J.cnt_pos;have c0:=O J (by simp) d0 i0 g Y e0 v U a c (by omega);have a6:=U.snoc (x:=⟨nm,Y,0⟩) (y:=(nm,J.ev (v.map plN))) rfl (Be J (node.sub _ (by simp)) (yo ak (by simp)) g _ U Y e0);have a7:v.map plN++[(nm,J.ev (v.map plN))]=(v++[(nm,J.ev (v.map plN),false)]).map plN:=by simp[plN]
  rw[a7]at a6;refine⟨_,rfl,_,_,_,rfl,⟨by omega,by simp⟩,_,_,_,rfl,⟨by omega,by simp⟩,λau a2=>c0 au _ λa9 a3 _ ab ae=>?_⟩;refine R7 v (by omega) (nm,J.ev (v.map plN),false) a c ab _ λa4 c4 a5 ah _ _ _ aw ai=>?_;refine O x1 (by simp) d1 i1 _ u e1 _ a6 a4 c4 (by simp;omega) aw _ λbt bh _ bv bi=>?_;rw[<-a7];exact I _ (by omega)
 ·-- an operation
  have h4:k=4:=by omega
  simp only[Tm.ev]at I;rw[if_neg h1,if_pos h4]at I;subst h4;obtain⟨ts,aq,_⟩:=tK hu (.inl rfl);have ax:=Aa aq;have w1:IntKind.i64.wrap ((0:Int)+1)=1:=rfl;have w2:IntKind.i64.wrap ((1:Int)+1)=2:=rfl;refine⟨_,_,_,rfl,?_⟩;rcases P4 ay aj with⟨J,d0,rfl,rfl,i0⟩ | ⟨J,x1,d0,d1,rfl,rfl,i0,i1⟩
  ·obtain⟨Y,aa⟩:=ax J (by simp);simp only[zG]at hc;have c0:=O J (by simp) d0 i0 g Y aa v U a c (by omega);refine yD (Br.dec (λ_=>⟨⟨by omega,by simp⟩,λN1 al=>c0 N1 _ λN2 a0 _=>⟨⟨by omega,by omega,by simp⟩,by simp,?_⟩⟩) λh=>absurd h (by simp));rw[w1];refine yD (Br.dec (λh=>absurd h (by simp)) λ_=>⟨_,rfl,⟨by omega,by omega,by simp⟩,by simp,_,rfl,⟨by omega,by omega,by simp⟩,by simp,_,rfl,λN3 am=>?_⟩);exact BK nm (J.ev (v.map plN)) 0 N3 _ λN4 bb _ N5 ao=>I _ (by omega)
  ·obtain⟨Y,aa⟩:=ax J (by simp);obtain⟨u1,bc⟩:=ax x1 (by simp);simp only[zG]at hc;have c0:=O J (by simp) d0 i0 g Y aa v U a c (by omega);have c1:=O x1 (by simp) d1 i1 g u1 bc v U a c (by omega);refine yD (Br.dec (λ_=>⟨⟨by omega,by simp⟩,λN1 al=>c0 N1 _ λN2 a0 _=>⟨⟨by omega,by omega,by simp⟩,by simp,?_⟩⟩) λh=>absurd h (by simp));rw[w1];refine yD (Br.dec (λ_=>⟨⟨by omega,by simp⟩,λN1 al=>c1 N1 _ λN3 am _=>⟨⟨by omega,by omega,by simp⟩,by simp,?_⟩⟩) λh=>absurd h (by simp));rw[w2];refine yD (Br.dec (λh=>absurd h (by simp)) λ_=>⟨_,rfl,⟨by omega,by omega,by simp⟩,by simp,_,rfl,⟨by omega,by omega,by simp⟩,by simp,_,rfl,λN3 am=>?_⟩);exact BK nm (J.ev (v.map plN)) (x1.ev (v.map plN)) N3 _ λN4 bb _ N5 ao=>I _ (by omega)
def C1 (t:Ty)(n:Int):Tm:=.mk (if t.k=2 then 3 else 2) (bytes []) (bytes []) n (.mk 0 []) (.mk 0 []) []
def wI (k:Int)(nm:ByteArray)(w:List Pl)(i:Nat):List Pl:=if i=0 then w else if k=8 then w++[(nm,0,true)]else w
def zAZ:List Tm->List Tg->Ty
 | [],_=>tZero
 | x::_,g=>tyZ x g 0
def gI (k:Int)(nm:ByteArray)(l:List Tm)(g:List Tg)(i:Nat):List Tg:=if i=0 then g else if k=8 then g++[⟨nm,zAZ l g,0⟩]else g
mutual
def Tm.sp:Tm->List Pl->List Tg->Tm
 | .mk k nm ot n ty re l,w,g=>if(Tm.mk k nm ot n ty re l).late (w.map plB)=false then C1 (tyZ (.mk k nm ot n ty re l) g 0) ((Tm.mk k nm ot n ty re l).ev (w.map plN))
   else if k=5/\wg l (w.map plB)=false then O2 l (2 - sD l 0 (w.map plN)).toNat w g
   else if k=8/\wg l (w.map plB)=false then K1 l nm w g else .mk k nm ot n ty re (xq l k nm w g)
def O2:List Tm->Nat->List Pl->List Tg->Tm
 | [],_,_,_=>Tm.nod 0 []
 | x::_,0,w,g=>x.sp w g
 | _::xs,i+1,w,g=>O2 xs i w g
def K1:List Tm->ByteArray->List Pl->List Tg->Tm
 | [],_,_,_=>Tm.nod 0 []
 | x::xs,nm,w,g=>O2 xs 0 (w++[(nm,x.ev (w.map plN),false)]) (g++[⟨nm,tyZ x g 0,0⟩])
def FP:List Tm->List Pl->List Tg->List Tm
 | [],_,_=>[]
 | x::xs,w,g=>x.sp w g::FP xs w g
def xq:List Tm->Int->ByteArray->List Pl->List Tg->List Tm
 | [],_,_,_,_=>[]
 | x::xs,k,nm,w,g=>x.sp w g::FP xs (if k=8 then w++[(nm,0,true)]else w) (if k=8 then g++[⟨nm,tyZ x g 0,0⟩]else g)
end
theorem Kj (t:Ty)(n:Int):(C1 t n).cnt=3:=by simp only[C1,Tm.cnt,Ty.cnt,zN,zG]
mutual
theorem Jb:∀(t:Tm) (w:List Pl) (g:List Tg),(t.sp w g).cnt<=t.cnt
 | .mk k nm ot n ty re l,w,g=>by
   have I:=Tm.cnt3 (.mk k nm ot n ty re l)
   have J:=K0 l (2 - sD l 0 (w.map plN)).toNat w g
   have O:=Tt l nm w g
   have U:=O3 l k nm w g
   simp only[Tm.cnt]at I ⊢
   simp only[Tm.sp]
   (repeat' split)
   ·rw[Kj];omega
   ·omega
   ·omega
   ·simp only[Tm.cnt];omega
theorem K0:∀(l:List Tm) (i:Nat) (w:List Pl) (g:List Tg),(O2 l i w g).cnt<=max 3 (zG l)
 | [],_,_,_=>by simp only[O2,uO,zG];omega
 | x::xs,0,w,g=>by simp only[O2,zG];have:=Jb x w g;omega
 | x::xs,i+1,w,g=>by simp only[O2,zG];have:=K0 xs i w g;have:=x.cnt3;omega
theorem Tt:∀(l:List Tm) (nm:ByteArray) (w:List Pl) (g:List Tg),(K1 l nm w g).cnt<=max 3 (zG l)
 | [],_,_,_=>by simp only[K1,uO,zG];omega
 | x::xs,nm,w,g=>by simp only[K1,zG];have:=K0 xs 0 (w++[(nm,x.ev (w.map plN),false)]) (g++[⟨nm,tyZ x g 0,0⟩]);have:=x.cnt3;omega
theorem ND:∀(l:List Tm) (w:List Pl) (g:List Tg),zG (FP l w g)<=zG l
 | [],_,_=>by simp only[FP,zG];omega
 | x::xs,w,g=>by simp only[FP,zG];have:=Jb x w g;have:=ND xs w g;omega
theorem O3:∀(l:List Tm) (k:Int) (nm:ByteArray) (w:List Pl) (g:List Tg),zG (xq l k nm w g)<=zG l
 | [],_,_,_,_=>by simp only[xq,zG];omega
 | x::xs,k,nm,w,g=>by
   simp only[xq,zG]
   have:=Jb x w g
   have:=ND xs (if k=8 then w++[(nm,0,true)]else w) (if k=8 then g++[⟨nm,tyZ x g 0,0⟩]else g)
   omega
end
theorem NF:∀(l:List Tm)(w:List Pl)(g:List Tg),(FP l w g).length=l.length
 | [],_,_=>by simp only[FP]
 | x::xs,w,g=>by simp only[FP,oJ,NF xs w g]
theorem Bn:∀(l:List Tm)(k:Int)(nm:ByteArray)(w:List Pl)(g:List Tg),(xq l k nm w g).length=l.length
 | [],_,_,_,_=>by simp only[xq]
 | x::xs,k,nm,w,g=>by simp only[xq,oJ,NF xs]
theorem NE:∀(l:List Tm)(w:List Pl)(g:List Tg)(i:Nat)(x:Tm),l[i]?=some x->(FP l w g)[i]?=some (x.sp w g)
 | [],w,g,i,x,h=>by simp at h
 | y::ys,w,g,0,x,h=>by simp at h;subst h;simp[FP]
 | y::ys,w,g,i+1,x,h=>by simp only[FP,nS];exact NE ys w g i x (by simpa using h)
theorem Bm:∀(l:List Tm)(k:Int)(nm:ByteArray)(w:List Pl)(g:List Tg)(i:Nat)(x:Tm),l[i]?=some x->(xq l k nm w g)[i]?=some (x.sp (wI k nm w i) (gI k nm l g i))
 | [],_,_,w,g,i,x,h=>by simp at h
 | y::ys,k,nm,w,g,0,x,h=>by simp at h;subst h;simp[xq,wI,gI]
 | y::ys,k,nm,w,g,i+1,x,h=>by simp only[xq,nS];rw[NE ys _ _ i x (by simpa using h)];simp[wI,gI,zAZ]
theorem MZ (t:Ty):Gi t 0=true:=by unfold Gi;split<;>decide
structure SpC (t:Tm) (w:List Pl) (g:List Tg):Prop where
 ok:t.ok=true
 b:t.isB=true
 pre:Pre g t 0
 ty:∃ u,t.type g 0=some u
 fit:Fit (w.map plN) g
theorem QX {t:Tm}(h:t.type g n=some u):tyZ t g n=u:=by simp[tyZ,h]
theorem JJ (h:s5 k=true):zP k 0=0:=by simp only[s5,nB,za,nF]at h;unfold zP;rw[if_neg (by omega),if_neg (by omega)]
theorem SpC.flat (h:SpC (.mk k nm ot n ty re l) w g)(hk:k=4\/k=5)(hx:x∈l):SpC x w g:=by
 have I:=h.b;simp only[Tm.isB,oE]at I;obtain⟨u,O⟩:=h.ty;obtain⟨U,J,_⟩:=tK O hk;refine⟨(zT h.ok).sub x hx,yo I.1 hx,?_,Aa J x hx,h.fit⟩
 have:=h.pre.sub (g':=g) hx (by omega) h.pre.ty
 rwa[JJ I.2]at this
theorem SpC.let_ {I:Tm}(h:SpC (.mk 8 nm ot n ty re [I,J]) w g):
  SpC I w g/\SpC J (w++[(nm,0,true)]) (g++[⟨nm,tyZ I g 0,0⟩])/\SpC J (w++[(nm,I.ev (w.map plN),false)]) (g++[⟨nm,tyZ I g 0,0⟩]):=by
 have O:=h.b;simp only[Tm.isB,oE]at O;have nd:=zT h.ok;have U:I∈[I,J]:=by simp
 have Y:J∈[I,J]:=by simp
 obtain⟨u,hu⟩:=h.ty;obtain⟨u0,e0,e1⟩:=K9 hu;have p0:=h.pre.sub (g':=g) U (by omega) h.pre.ty;have p1:=h.pre.sub (g':=g++[⟨nm,tyZ I g 0,0⟩]) Y (by simp) (qR h.pre.ty (by have:=K7 I g 0;show(tyZ I g 0).cnt<=64;omega));rw[JJ O.2]at p0 p1;have hz:=QX e0;rw[<-hz]at e1;have key:∀ m b,Gi (tyZ I g 0) m=true->Fit ((w++[(nm,m,b)]).map plN) (g++[⟨nm,tyZ I g 0,0⟩]):=λm b hm=>by rw[mF];exact h.fit.snoc (x:=⟨nm,tyZ I g 0,0⟩) (y:=(nm,m)) rfl hm
 refine⟨⟨nd.sub I U,yo O.1 U,p0,⟨_,e0⟩,h.fit⟩,⟨nd.sub J Y,yo O.1 Y,p1,⟨_,e1⟩,key _ _ (MZ _)⟩,⟨nd.sub J Y,yo O.1 Y,p1,⟨_,e1⟩,key _ _ ?_⟩⟩;rw[hz];exact Be I (nd.sub I U) (yo O.1 U) g _ h.fit u0 e0
theorem SpC.cond {x1 x2:Tm}(h:SpC (.mk 5 nm ot n ty re [J,x1,x2]) w g):J.ev (w.map plN)=0\/J.ev (w.map plN)=1:=by
 obtain⟨u,hu⟩:=h.ty;obtain⟨ts,U,I⟩:=tK hu (.inr rfl);obtain⟨u0,ac,e0,q6,e3⟩:=yf U;obtain⟨u1,ae,e1,q7,e4⟩:=yf q6;obtain⟨u2,Y,e2,q8,e5⟩:=yf q7;have O:Y=[]:=by simp only[zS]at q8;exact(oU q8).symm
 subst O;subst e5;subst e4;subst e3;have aa:u0.k=2:=by
  unfold zm at I;rw[if_neg (by omega),if_pos rfl]at I;split at I
  ·rename_i ab;exact ab.1
  ·cases I
 have s0:=h.flat (.inr rfl) (x:=J) (by simp);exact Cl aa (Be J s0.ok s0.b g _ h.fit u0 e0)
theorem SpC.part (h:SpC (.mk k nm ot n ty re l) w g){i:Nat}(hx:l[i]?=some x):SpC x (wI k nm w i) (gI k nm l g i):=by
 have J:=h.b;simp only[Tm.isB,oE]at J;have nd:=zT h.ok;have I:=nd.ar;have O:i<l.length:=(oC.1 hx).1;have U:k=1\/k=2\/k=3\/k=4\/k=5\/k=8:=by
  have:=J.2
  simp only[s5,nB,za,nF]at this;omega
 rcases U with rfl | rfl | rfl | rfl | rfl | rfl
 ·rw[show sA 1 nm=0 from rfl]at I;omega
 ·rw[show sA 2 nm=0 from rfl]at I;omega
 ·rw[show sA 3 nm=0 from rfl]at I;omega
 ·have:=h.flat (.inl rfl) (oA hx)
  simpa [wI,gI]using this
 ·have:=h.flat (.inr rfl) (oA hx)
  simpa [wI,gI]using this
 ·rw[show sA 8 nm=2 from rfl]at I
  match l,I with
  | [x0,x1],_=>
    obtain⟨Y,h1,_⟩:=h.let_
    match i,hx with
    | 0,hx=>simp at hx;subst hx;exact Y
    | 1,hx=>simp at hx;subst hx;simpa [wI,gI,zAZ]using h1
    | i+2,hx=>simp at hx
  | [],h=>simp at h
  | [_],h=>simp at h
  | _::_::_::_,h=>simp at h;omega
end Go.Proofs.YtlaniepnglheoaaGreat
