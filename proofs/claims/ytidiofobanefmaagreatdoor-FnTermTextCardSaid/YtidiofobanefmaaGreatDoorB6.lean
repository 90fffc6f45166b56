/- Reading texts: the program's reader: names, types, parts. -/
import Derived.Test.YtidiofobanefmaaGreatDoorKf
import Derived.Test.YtidiofobanefmaaGreatDoorA5
import Derived.Test.YtidiofobanefmaaGreatDoorB2
import Derived.Defers
import Derived.Shelf.Strconv.AtoiAll
import Derived.Shelf.Strings.TrimSpace
import Derived.Test.YtidiofobanefmaaGreatDoorA9
set_option linter.unusedVariables false
set_option linter.unusedSimpArgs false
set_option maxRecDepth 100000
namespace Go.Proofs.YtidiofobanefmaaGreatDoor
open Go Go.Proofs Go.Proofs.Tryz Go.IntWalk
theorem y4 {s:ByteArray} (hs:s.size<=1073741824) (t:ByteArray) (n:Int) (N:Nat) (Q:QT [.bool,.str,.i])
  (h1:∀ r N',N<=N'->pre (bl t) (bl s)=some (bl r)->r.size<=1073741824->Q true r n N') (Y:∀ N',N<=N'->pre (bl t) (bl s)=none->Q false s n N') :
  BCalls prog 43 [.bool,.str,.i] [.pb 0 0 0 0,.str t] [.var [.str s,.j n]] N Q:=by
 refine tN N t s n Q λE N1 aa=>tz N1 s t _ λN2 ab=>xb N2 s t _ λN3 ac=>xc N3 s t _ (Br.dec (λhg=>⟨⟨by omega,by omega,by omega⟩,λN4 V _=>Br.nstr (λhn Z I _ N6 J _=>⟨zG,λN7 O=>Y _ (by omega) ?_⟩) λhe=>⟨⟨by omega,by omega,by omega⟩,λZ I _ N6 J _=>⟨zG,λN7 O=>h1 _ _ (by omega) ?_ ?_⟩⟩⟩) λhg N4 V _=>Br.of (λ_ Z I _ N6 J _=>⟨zG,λN7 O=>Y _ (by omega) (II (by rw[xN,xN];omega))⟩) λh=>by cases h)
 ·cases U:pre (bl t) (bl s)with
  | none=>rfl
  | some r=>exact absurd (ze (by rw[ur];show((bl s).drop 0).take _=_;rw[List.drop_zero,show((t.size:Int)).toNat - 0=(bl t).length by rw[xN];omega];exact pP.2 ⟨r,U⟩)) hn
 ·have e:(bl s).take (bl t).length=bl t:=by
   have:=oT bl he
   rw[<-this];show _=(ByteArray.extract s 0 _).data.toList;rw[ur,List.drop_zero,this,xN];simp
  obtain⟨r,U⟩:=pP.1 e;rw[U];congr 1;show r=(ByteArray.extract s _ _).data.toList;rw[ur];have h2:bl s=bl t++r:=zZ U;have h3:=oT List.length h2;rw[oH,xN,xN]at h3;show r=((bl s).drop _).take _;rw[h2,show((t.size:Int)).toNat=(bl t).length by rw[xN];omega,List.drop_left,nT];rw[xN];omega
 ·rw[nw];omega
theorem Dm {s:ByteArray} (hs:s.size<=1073741824) (n:Int) (N:Nat) (Q:QT [.str,.str,.i])
  (hQ:∀ r N',N<=N'->bl r=(word (bl s)).2->r.size<=1073741824->Q ⟨(word (bl s)).1.toArray⟩ r n N'):BCalls prog 47 [.str,.str,.i] [.pb 0 0 0 0] [.var [.str s,.j n]] N Q:=by
 refine vA N s n Q λE=>?_;have hr:Atl s 0 (bl s):=⟨hs,by omega,by omega,rfl⟩
 have key:∀(l1 p:Bl) (k:Int),Atl s k l1->bl s=p++l1->k=p.length->(∀ c∈p,idC c=true)->zB E Q N k s n N:=by
  intro l1;have out:∀(l1 p:Bl) (k:Int),Atl s k l1->bl s=p++l1->k=p.length->(∀ c∈p,idC c=true)->Stop l1->((0:Int)<=(0:Int)/\0<=k/\k<=(s.size:Int))/\(0<=k/\k<=(s.size:Int)/\(s.size:Int)<=(s.size:Int))/\zC E [.var [.str (bytes []),.j 0]]/\∀ N1,N<=N1->Q (ByteArray.extract s 0 k.toNat) (ByteArray.extract s k.toNat ((s.size:Int)).toNat) n N1:=λl1 p k I J V O aa=>by
   have Y:=I.lo;have k2:=I.hi;refine⟨⟨by omega,Y,k2⟩,⟨Y,k2,by omega⟩,zG,λN1 ab=>?_⟩;have hw:word (bl s)=(p,l1):=by rw[J];exact pR p l1 O aa
   have hx:ByteArray.extract s 0 k.toNat=⟨p.toArray⟩:=ze (by
    have:=hr.ext p.length (m:=k) (by omega)
    rw[J,List.take_left]at this;exact this)
   rw[hx]
   have:=hQ (ByteArray.extract s k.toNat ((s.size:Int)).toNat) N1 ab (by
    rw[hw];show(ByteArray.extract s _ _).data.toList=l1;rw[ur,I.eq,nT]
    have:=I.len
    omega) (by rw[nw];omega)
   rw[hw]at this;exact this
  induction l1 with
  | nil=>
    intro p k I J V O
    have:=(I.nil).1 rfl
    exact yr _ _ _ _ _ _ _ (Br.dec (λh=>by omega) λ_=>out _ p k I J V O λc r e=>by cases e)
  | cons c l1 ih=>
    intro p k I J V O;have hg:=I.get;have U:=I.len;have Y:=I.lo;simp only[oN]at U;have bd:0<=k/\k<(s.size:Int):=⟨Y,by omega⟩
    have nx:idC c=true->zB E Q N (IntKind.i64.wrap (k+1)) s n N:=λhc=>by
     rw[i64_in (k+1) (by omega)];refine ih (p++[c]) (k+1) (I.app (p:=[c]) rfl rfl) (by rw[J,oM];rfl) (by rw[oH];simp only[oN,oa];omega) λx hx=>?_;rcases oO.1 hx with hx | hx
     ·exact O x hx
     ·rw[nM.1 hx];exact hc
    have ot:idC c=false->_:=λhc=>out _ p k I J V O (xY hc l1);have ci:∀ P:Prop,(idC c=true->P)->(48<=c.toNat/\c.toNat<=57\/97<=c.toNat/\c.toNat<=122)->P:=λP h g=>h (by unfold idC;exact nU g);have Z:∀ P:Prop,(idC c=false->P)->¬(48<=c.toNat/\c.toNat<=57\/97<=c.toNat/\c.toNat<=122)->P:=λP h g=>h (by unfold idC;exact nV g);refine yr _ _ _ _ _ _ _ (Br.dec (λ_=>?_) λh=>by omega);rw[hg];exact⟨bd,Br.dec (λa1=>⟨bd,Br.dec (λa2=>ci _ nx (by omega)) λa2=>⟨bd,Br.dec (λa3=>⟨bd,Br.dec (λa4=>ci _ nx (by omega)) λa4=>Z _ ot (by omega)⟩) λa3=>Z _ ot (by omega)⟩⟩) λa1=>⟨bd,Br.dec (λa3=>⟨bd,Br.dec (λa4=>ci _ nx (by omega)) λa4=>Z _ ot (by omega)⟩) λa3=>Z _ ot (by omega)⟩⟩
 exact key (bl s) [] 0 hr rfl rfl (by simp)
structure It (j:Nat) (l:Bl) (d:D) (b:Bool) (s':ByteArray):Prop where
 is:∃ t:Ty,t.Is d/\t.cnt+1<=2 ^ (j+1)/\(b=true->wO j l=some (t,bl s'))
 no:b=false->wO j l=none
 sz:s'.size<=1073741824
theorem Hf (a b:Ty):(B5 a b).cnt=a.cnt+b.cnt+1:=by simp[B5,Ty.cnt,yM];try omega
theorem CW (a:Ty):(vK a).cnt=a.cnt+1:=by simp[vK,Ty.cnt,yM];try omega
theorem It.zero {j:Nat}{l:Bl}{s':ByteArray}(h:wO j l=none)(hs:s'.size<=1073741824):It j l (.ag [.j 0,.sl none 2 [] 0]) false s':=
 ⟨⟨tZero,vG 0,by rw[mX];have:=Nat.one_le_two_pow (n:=j);show 1+1<=_;omega,by simp⟩,λ_=>h,hs⟩
theorem Hy:∀(j:Nat),j<=8->∀ {s:ByteArray} (_:s.size<=1073741824) (n:Int) (N:Nat) (Q:QT [.ag 2,.bool,.str,.i])
  (_:∀ d b s' N',N<=N'->It j (bl s) d b s'->Q d b s' n N'),BCalls prog 117 [.ag 2,.bool,.str,.i] [.pb 0 0 0 0,.j j] [.var [.str s,.j n]] N Q:=by
 intro j
 induction j with
 | zero=>intro _ s hs n N Q I;exact yc N _ s n Q λE=>Br.beq (λ_=>⟨zG,λN1 a1=>I _ _ _ _ a1 (.zero rfl hs)⟩) λh=>absurd rfl h
 | succ j ih=>
   intro hj s hs n N Q I;have e1:IntKind.i64.wrap (((j+1:Nat):Int) - 1)=j:=by rw[i64_in _ (by omega)];omega
   have pw:2 ^ (j+1+1)=2 ^ (j+1)+2 ^ (j+1):=by rw[mX];omega
   have pl:2 ^ (j+1)<=512:=o8 (mN (by omega) (show j+1<=9 by omega)) (by decide);have pg:2<=2 ^ (j+1):=by rw[mX];have:=Nat.one_le_two_pow (n:=j);omega
   refine yc N _ s n Q λE=>Br.beq (λh=>by omega) λ_ N2 bh=>y4 hs _ n N2 _ (λr N3 a6 hp hr _=>Br.of (λ_ N4 a7=>LA N4 _ λd N5 ak hd _ _ _=>⟨zG,λN6 al=>I _ _ _ _ (by omega) ⟨⟨tInt,hd,by show 1+1<=_;omega,λ_=>by rw[show bl s=[73]++bl r from zZ hp];exact Kr j _⟩,by simp,hr⟩⟩) λh=>by cases h) λN3 a6 h1 _=>Br.of (λh=>by cases h) λ_ N4 a7=>?_;refine y4 hs _ n N4 _ (λr N5 ak hp hr _=>Br.of (λ_ N6 al=>JO N6 _ λd N7 ao hd _ _ _=>⟨zG,λN8 aq=>I _ _ _ _ (by omega) ⟨⟨tBool,hd,by show 1+1<=_;omega,λ_=>by rw[show bl s=[66]++bl r from zZ hp];exact Ko j _⟩,by simp,hr⟩⟩) λh=>by cases h) λN5 ak h2 _=>Br.of (λh=>by cases h) λ_ N6 al=>?_;refine y4 hs _ n N6 _ (λr N7 ao hp hr _=>Br.of (λ_ N8 aq=>?_) λh=>by cases h) λN7 ao h3 _=>Br.of (λh=>by cases h) λ_ N8 aq=>?_
   ·have em:wO (j+1) (bl s)=(wO j (bl r)).bind λx=>(pre [62] x.2).bind λr=>(wO j r).bind λy=>(pre [41] y.2).map λr=>(B5 x.1 y.1,r):=by rw[show bl s=[40]++bl r from zZ hp];exact Kq j _
    rw[e1];refine ih (by omega) hr n N8 _ λd b s1 N9 au hd _ _=>?_;obtain⟨t,ht,a8,hm⟩:=hd.is;refine Br.not (λhb=>⟨zG,λJ O=>I _ _ _ _ (by omega) (.zero (by rw[em,hd.no hb];rfl) hd.sz)⟩) λhb J O=>?_;rw[hm hb,oI]at em;refine y4 hd.sz _ n J _ (λr2 aw aa hq ba _=>Br.of (λh=>by cases h) λ_ Y ab=>?_) λaw aa hq _=>Br.of (λ_=>⟨zG,λY ab=>I _ _ _ _ (by omega) (.zero (by rw[em,show pre [62] (t,bl s1).2=none from hq];rfl) hd.sz)⟩) λh=>by cases h
    rw[show pre [62] (t,bl s1).2=some (bl r2)from hq,oI]at em;refine ih (by omega) ba n Y _ λe b2 s2 bb ax he _ _ Z ac=>?_;obtain⟨u,hu,bi,bc⟩:=he.is;refine K9 t u d e ht hu (by omega) (by omega) Z _ λz bj bg hz _ _ _=>Br.of (λae ay az=>?_) λae=>⟨zG,λay az=>I _ _ _ _ (by omega) ⟨⟨_,hz,by rw[Hf];omega,by simp⟩,λ_=>by rw[em,he.no ae];rfl,he.sz⟩⟩
    rw[bc ae,oI]at em;exact y4 he.sz _ n ay _ (λr3 ah U hv ai _=>⟨zG,λaj V=>I _ _ _ _ (by omega) ⟨⟨_,hz,by rw[Hf];omega,λ_=>by rw[em,show pre [41] (u,bl s2).2=some (bl r3)from hv];rfl⟩,by simp,ai⟩⟩) λah U hv _=>⟨zG,λaj V=>I _ _ _ _ (by omega) ⟨⟨_,hz,by rw[Hf];omega,by simp⟩,λ_=>by rw[em,show pre [41] (u,bl s2).2=none from hv];rfl,he.sz⟩⟩
   ·refine y4 hs _ n N8 _ (λr N9 au hp hr _=>Br.of (λ_ J O=>?_) λh=>by cases h) λN9 au h4 _=>Br.of (λh=>by cases h) λ_=>⟨zG,λJ O=>I _ _ _ _ (by omega) (.zero ?_ hs)⟩
    ·have em:wO (j+1) (bl s)=(wO j (bl r)).bind λx=>(pre [62] x.2).map λr=>(vK x.1,r):=by rw[show bl s=[60]++bl r from zZ hp];exact Kp j _
     rw[e1];refine ih (by omega) hr n J _ λd b s1 aw aa hd _ _ Y ab=>?_;obtain⟨t,ht,a8,hm⟩:=hd.is;refine JP t d ht (by omega) Y _ λz bb ax hz _ _ _=>Br.of (λhb Z ac=>?_) λhb=>⟨zG,λZ ac=>I _ _ _ _ (by omega) ⟨⟨_,hz,by rw[CW];omega,by simp⟩,λ_=>by rw[em,hd.no hb];rfl,hd.sz⟩⟩
     rw[hm hb,oI]at em;exact y4 hd.sz _ n Z _ (λr3 ah U hv ai _=>⟨zG,λaj V=>I _ _ _ _ (by omega) ⟨⟨_,hz,by rw[CW];omega,λ_=>by rw[em,show pre [62] (t,bl s1).2=some (bl r3)from hv];rfl⟩,by simp,ai⟩⟩) λah U hv _=>⟨zG,λaj V=>I _ _ _ _ (by omega) ⟨⟨_,hz,by rw[CW];omega,by simp⟩,λ_=>by rw[em,show pre [62] (t,bl s1).2=none from hv];rfl,hd.sz⟩⟩
    ·simp only[wO,show pre [73] (bl s)=none from h1,show pre [66] (bl s)=none from h2,show pre [60] (bl s)=none from h4,show pre [40] (bl s)=none from h3];rfl
end Go.Proofs.YtidiofobanefmaaGreatDoor
set_option maxRecDepth 100000
namespace Go.Proofs.YtidiofobanefmaaGreatDoor
open Go Go.Proofs Go.Proofs.Tryz Go.IntWalk
inductive Ri {α:Type} (is:α->D->Prop) (m:Option (α × Bl)):D->Bool->ByteArray->Prop
 | ok {t:α} {d:D} {s':ByteArray}:m=some (t,bl s')->is t d->s'.size<=1073741824->Ri is m d true s'
 | no {d:D} {s':ByteArray}:m=none->s'.size<=1073741824->Ri is m d false s'
def DQ (dp:Int)(T:Bl->Option (Tm × Bl)):Prop:=∀(s:ByteArray) (N:Nat) (Q:QT [.ag 9,.bool,.str,.i]),s.size<=1073741824->(∀ d b s' N',N<=N'->Ri Tm.Is (T (bl s)) d b s'->Q d b s' dp N')->BCalls prog 20 [.ag 9,.bool,.str,.i] [.pb 0 0 0 0] [.var [.str s,.j dp]] N Q
theorem HL (T:Bl->Option (Tm × Bl))(b e l:Bl):yy T b e 1 true l=(T l).bind λx=>(yy T b e 0 true x.2).map λy=>(x.1::y.1,y.2):=by simp only[yy,nl,oI]
theorem HM (T:Bl->Option (Tm × Bl))(b e l:Bl)(j:Nat):yy T b e (j+2) true l=(T l).bind λx=>(pre b x.2).bind λr=>(yy T b e (j+1) true r).map λy=>(x.1::y.1,y.2):=by
 simp only[yy,nl,oI,nf,nL];cases T l with
 | none=>rfl
 | some x=>
   simp only[oI];cases pre b x.2 with
   | none=>rfl
   | some r=>rfl
structure Ia (T:Bl->Option (Tm × Bl)) (by_ e:Bl) (k:Nat) (l:Bl) (es:List D) (b:Bool) (s':ByteArray):Prop where
 ok:b=true->∃ ts,yy T by_ e k true l=some (ts,bl s')/\All2 Tm.Is ts es
 no:b=false->yy T by_ e k true l=none
 sz:s'.size<=1073741824
 len:es.length<=3
theorem LW {dp:Int} {T:Bl->Option (Tm × Bl)} (hT:DQ dp T) (by_ e:ByteArray) (k:Nat) (hk:k<=3) {s:ByteArray} (hs:s.size<=1073741824) (N:Nat) (Q:QT [.sl 9,.bool,.str,.i])
  (hQ:∀ a es c b s' N',N<=N'->Ia T (bl by_) (bl e) k (bl s) es b s'->Q a es c b s' dp N'):BCalls prog 80 [.sl 9,.bool,.str,.i] [.pb 0 0 0 0,.j (k:Int),.str by_,.str e] [.var [.str s,.j dp]] N Q:=by
 refine wb N k by_ e s dp Q λE=>?_;have e1:IntKind.i64.wrap ((k:Int) - 1)=k - 1:=i64_in _ (by omega);have aa:∀(es:List D) (x:D),es.length<=10->zA es [x] 136:=λes x h=>by unfold zA;rw[oH];simp only[oN,oa];omega
 have key:∀(j i:Nat) (Z:ByteArray) (ts:List Tm) (es:List D) (q N':Nat),i+j=k->Z.size<=1073741824->yy T (bl by_) (bl e) k true (bl s)=(yy T (bl by_) (bl e) j true (bl Z)).map (λy=>(ts++y.1,y.2))->All2 Tm.Is ts es->es.length=i->N<=N'->zI E Q N k by_ e es.length q k i Z dp es q N':=by
  intro j
  induction j with
  | zero=>
    intro i Z ts es q N' hi J em O hl ac;refine yV _ _ _ _ _ _ _ _ _ _ _ _ _ _ _ (Br.dec (λh=>by omega) λ_ N1 ae=>y4 J _ _ N1 _ (λr N2 ab U hr _=>⟨⟨rfl,rfl⟩,⟨rfl,rfl⟩,⟨rfl,rfl⟩,λa N3 V _=>⟨zG,λN4 Y=>hQ _ _ _ _ _ _ (by omega) ⟨λ_=>⟨ts,?_,O⟩,by simp,hr,by omega⟩⟩⟩) λN2 ab U _=>⟨⟨rfl,rfl⟩,⟨rfl,rfl⟩,⟨rfl,rfl⟩,λa N3 V _=>⟨zG,λN4 Y=>hQ _ _ _ _ _ _ (by omega) ⟨by simp,λ_=>?_,J,by omega⟩⟩⟩)
    ·rw[em];simp only[yy];rw[U];simp
    ·rw[em];simp only[yy];rw[U];rfl
  | succ j ih=>
    intro i Z ts es q N' hi J em O hl ac;refine yV _ _ _ _ _ _ _ _ _ _ _ _ _ _ _ (Br.dec (λ_ N1 ae=>hT Z N1 _ J λx b s2 N2 ab hx _ _=>?_) λh=>by omega);have e2:IntKind.i64.wrap ((i:Int)+1)=((i+1:Nat):Int):=by rw[i64_in _ (by omega)];omega
    cases hx with
    | no hm I=>
      refine Br.of (λ_=>⟨zG,λN3 V=>hQ _ _ _ _ _ _ (by omega) ⟨by simp,λ_=>?_,I,by simp⟩⟩) λh=>by cases h
      rw[em];cases j with
      | zero=>rw[HL,hm];rfl
      | succ j=>rw[HM,hm];rfl
    | @ok t _ _ hm hx I=>
      refine Br.of (λh=>by cases h) λ_=>?_;rw[e1,e2];cases j with
      | zero=>
        refine Br.dec (λh=>by omega) λ_=>⟨⟨rfl,rfl⟩,aa es x (by omega),λc=>ih (i+1) s2 (ts++[t]) (es++[x]) c N2 (by omega) I ?_ (O.snoc hx) (by rw[oH];simp only[oN,oa];omega) (by omega)⟩
        rw[em,HL,hm,oI,Option.map_map];congr 1;funext y;simp
      | succ j=>
        rw[HM,hm,oI]at em;refine Br.dec (λ_ N3 V=>y4 I _ _ N3 _ (λr N4 Y U hr _=>Br.of (λh=>by cases h) λ_=>⟨⟨rfl,rfl⟩,aa es x (by omega),λc=>ih (i+1) r (ts++[t]) (es++[x]) c N4 (by omega) hr ?_ (O.snoc hx) (by rw[oH];simp only[oN,oa];omega) (by omega)⟩) λN4 Y U _=>Br.of (λ_=>⟨zG,λN5 ah=>hQ _ _ _ _ _ _ (by omega) ⟨by simp,λ_=>?_,I,by simp⟩⟩) λh=>by cases h) λh=>by omega
        ·rw[em,show pre (bl by_) (t,bl s2).2=some (bl r)from U,oI,Option.map_map];congr 1;funext y;simp
        ·rw[em,show pre (bl by_) (t,bl s2).2=none from U];rfl
 exact key k 0 s [] [] 0 N (by omega) hs (by simp) rfl rfl (oJ _)
theorem Hx {dp:Int} {T:Bl->Option (Tm × Bl)} (O:DQ dp T) {k m:Int} {nm ot:ByteArray} {ty re:Ty} {t0 t1 r0 r1 U:D} (V:Tm.Hd nm ot ty re t0 t1 r0 r1) (j:Nat) (Y:arI k nm=j) (J:j<=3) (by_ e:ByteArray) {s:ByteArray} (hs:s.size<=1073741824) (N:Nat) (Q:QT [.ag 9,.bool,.str,.i])
  (Z:∀ d b s' N',N<=N'->Ri Tm.Is ((yy T (bl by_) (bl e) j true (bl s)).map λy=>(Tm.mk k nm ot m ty re y.1,y.2)) d b s'->Q d b s' dp N'):BCalls prog 45 [.ag 9,.bool,.str,.i] [.pb 0 0 0 0,.dg 9 (.ag [.j k,.t nm,.t ot,.j m,t0,t1,r0,r1,U]),.str by_,.str e] [.var [.str s,.j dp]] N Q:=
 w9 N _ by_ e s dp Q λE _ N1 aa=>qV N1 _ λN2 ab _ N3 ac=>by
  rw[Y];refine LW O by_ e j J hs N3 _ λa es c b s' N4 ae I _ _=>⟨zG,λN5 ah=>Z _ _ _ _ (by omega) ?_⟩
  cases b with
  | true=>obtain⟨ts,h1,h2⟩:=I.ok rfl;exact .ok (t:=.mk k nm ot m ty re ts) (by rw[h1];rfl) (Tm.is_mk.2 ⟨_,_,_,_,_,_,_,rfl,V,by have:=I.len;omega,h2⟩) I.sz
  | false=>exact .no (by rw[I.no rfl];rfl) I.sz
theorem th {dp:Int} {T:Bl->Option (Tm × Bl)} (J:DQ dp T) {k:Int} {nm:Bl} (V:(⟨nm.toArray⟩:ByteArray).size<=1073741824) (j:Nat) (O:arI k ⟨nm.toArray⟩=j) (I:j<=3) (by_ e:ByteArray) {s:ByteArray} (hs:s.size<=1073741824) (N:Nat) (Q:QT [.ag 9,.bool,.str,.i])
  (U:∀ d b s' N',N<=N'->Ri Tm.Is (mkF k nm [] tZero tZero (yy T (bl by_) (bl e) j true (bl s))) d b s'->Q d b s' dp N'):BCalls prog 45 [.ag 9,.bool,.str,.i] [.pb 0 0 0 0,.dg 9 (.ag [.j k,.t (⟨nm.toArray⟩),.t (bytes []),.j 0,.j 0,.sl none 2 [] 0,.j 0,.sl none 2 [] 0,.sl none 9 [] 0]),.str by_,.str e] [.var [.str s,.j dp]] N Q:=
 Hx J (m:=0) (hdz (by omega) (by decide)) j O I by_ e hs N Q U
theorem Me {dp:Int} {T:Bl->Option (Tm × Bl)} (hT:DQ dp T) {nm:Bl} (hn:(⟨nm.toArray⟩:ByteArray).size<=1073741824) {s:ByteArray} (hs:s.size<=1073741824) (N:Nat) (Q:QT [.ag 9,.bool,.str,.i])
  (I:∀ d b s' N',N<=N'->Ri Tm.Is ((pre [58] (bl s)).bind λr=>(wO 8 r).bind λt=>(pre [46] t.2).bind λr=>mkF 6 nm [] t.1 tZero (yy T [] [41] 1 true r)) d b s'->Q d b s' dp N'):BCalls prog 82 [.ag 9,.bool,.str,.i] [.pb 0 0 0 0,.dg 9 (.ag [.j 6,.t (⟨nm.toArray⟩),.t (bytes []),.j 0,.j 0,.sl none 2 [] 0,.j 0,.sl none 2 [] 0,.sl none 9 [] 0])] [.var [.str s,.j dp]] N Q:=by
 refine yD N _ s dp Q λE _ N1 ac=>y4 hs _ _ N1 _ (λr N2 J O hr _=>Br.of (λ_ N3 U=>?_) λh=>by cases h) λN2 J O _=>Br.of (λh=>by cases h) λ_=>Br.of (λh=>by cases h) λ_=>Br.of (λ_=>⟨zG,λN3 U=>I _ _ _ _ (by omega) (.no (by rw[show pre [58] (bl s)=none from O];rfl) hs)⟩) λh=>by cases h
 rw[show pre [58] (bl s)=some (bl r)from O,oI]at I;refine Hy 8 (by omega) hr _ N3 _ λd b s1 N4 ae hd _ _=>?_;obtain⟨t,ht,_,hm⟩:=hd.is;refine Br.of (λhb=>⟨6,rfl,Br.beq (λh=>by omega) λ_=>Br.not (λh=>by rw[hb]at h;cases h) λ_ N5 V=>?_⟩) λhb=>Br.not (λ_=>⟨zG,λN5 V=>I _ _ _ _ (by omega) (.no (by rw[hd.no hb];rfl) hd.sz)⟩) λh=>by rw[hb]at h;cases h
 rw[hm hb,oI]at I;refine y4 hd.sz _ _ N5 _ (λr2 N6 Y Z aa _=>Br.of (λh=>by cases h) λ_ N7 ab=>?_) λN6 Y Z _=>Br.of (λ_=>⟨zG,λN7 ab=>I _ _ _ _ (by omega) (.no (by rw[show pre [46] (t,bl s1).2=none from Z];rfl) hd.sz)⟩) λh=>by cases h
 rw[show pre [46] (t,bl s1).2=some (bl r2)from Z,oI]at I;exact Hx hT (k:=6) (m:=0) (nm:=⟨nm.toArray⟩) (ot:=bytes []) (ty:=t) (re:=tZero) ⟨by omega,by decide,Ty.is_cells ht,vG 0⟩ 1 rfl (by omega) _ _ aa N7 _ λd b s' N8 ah hx _ _=>⟨zG,λN9 ai=>I _ _ _ _ (by omega) hx⟩
theorem Mf {dp:Int} {T:Bl->Option (Tm × Bl)} (hT:DQ dp T) {nm ot:Bl} (hn:(⟨nm.toArray⟩:ByteArray).size<=1073741824) (ho:(⟨ot.toArray⟩:ByteArray).size<=1073741824) {s:ByteArray} (hs:s.size<=1073741824) (N:Nat) (Q:QT [.ag 9,.bool,.str,.i])
  (I:∀ d b s' N',N<=N'->Ri Tm.Is ((pre [58] (bl s)).bind λr=>(wO 8 r).bind λt=>(pre [62] t.2).bind λr=>(wO 8 r).bind λu=>(pre [46] u.2).bind λr=>mkF 9 nm ot t.1 u.1 (yy T [] [41] 1 true r)) d b s'->Q d b s' dp N'):BCalls prog 82 [.ag 9,.bool,.str,.i] [.pb 0 0 0 0,.dg 9 (.ag [.j 9,.t (⟨nm.toArray⟩),.t (⟨ot.toArray⟩),.j 0,.j 0,.sl none 2 [] 0,.j 0,.sl none 2 [] 0,.sl none 9 [] 0])] [.var [.str s,.j dp]] N Q:=by
 refine yD N _ s dp Q λE _ N1 au=>y4 hs _ _ N1 _ (λr N2 Z hp hr _=>Br.of (λ_ N3 aa=>?_) λh=>by cases h) λN2 Z hp _=>Br.of (λh=>by cases h) λ_=>Br.of (λh=>by cases h) λ_=>Br.of (λ_=>⟨zG,λN3 aa=>I _ _ _ _ (by omega) (.no (by rw[show pre [58] (bl s)=none from hp];rfl) hs)⟩) λh=>by cases h
 rw[show pre [58] (bl s)=some (bl r)from hp,oI]at I;refine Hy 8 (by omega) hr _ N3 _ λd b s1 N4 aw hd _ _=>?_;obtain⟨t,ht,_,hm⟩:=hd.is;refine Br.of (λhb=>⟨9,rfl,Br.beq (λ_ N5 ab=>?_) λh=>absurd rfl h⟩) λhb=>Br.not (λ_=>⟨zG,λN5 ab=>I _ _ _ _ (by omega) (.no (by rw[hd.no hb];rfl) hd.sz)⟩) λh=>by rw[hb]at h;cases h
 rw[hm hb,oI]at I;refine y4 hd.sz _ _ N5 _ (λr2 N6 ac hq ae _=>Br.of (λ_ N7 ah=>?_) λh=>by cases h) λN6 ac hq _=>Br.of (λh=>by cases h) λ_=>Br.of (λ_=>⟨zG,λN7 ah=>I _ _ _ _ (by omega) (.no (by rw[show pre [62] (t,bl s1).2=none from hq];rfl) hd.sz)⟩) λh=>by cases h
 rw[show pre [62] (t,bl s1).2=some (bl r2)from hq,oI]at I;refine Hy 8 (by omega) ae _ N7 _ λd2 b2 s2 N8 ax J _ _=>?_;obtain⟨u,hu,_,ai⟩:=J.is;refine Br.not (λO=>⟨zG,λN9 aj=>I _ _ _ _ (by omega) (.no (by rw[J.no O];rfl) J.sz)⟩) λO N9 aj=>?_;rw[ai O,oI]at I;refine y4 J.sz _ _ N9 _ (λr3 ak U hv al _=>Br.of (λh=>by cases h) λ_ V Y=>?_) λak U hv _=>Br.of (λ_=>⟨zG,λV Y=>I _ _ _ _ (by omega) (.no (by rw[show pre [46] (u,bl s2).2=none from hv];rfl) J.sz)⟩) λh=>by cases h
 rw[show pre [46] (u,bl s2).2=some (bl r3)from hv,oI]at I;exact Hx hT (k:=9) (m:=0) (nm:=⟨nm.toArray⟩) (ot:=⟨ot.toArray⟩) (ty:=t) (re:=u) ⟨by omega,by omega,Ty.is_cells ht,Ty.is_cells hu⟩ 1 rfl (by omega) _ _ al V _ λd b s' ay ao hx _ _=>⟨zG,λaz aq=>I _ _ _ _ (by omega) hx⟩
end Go.Proofs.YtidiofobanefmaaGreatDoor
set_option maxRecDepth 100000
namespace Go.Proofs.YtidiofobanefmaaGreatDoor
open Go Go.Proofs Go.Proofs.Tryz Go.IntWalk
theorem IE {k:Int}{nm:ByteArray}(O:nm.size<=1073741824){t u:Tm}{x y:D}(I:t.Is x)(J:u.Is y)(a:Option Addr):(Tm.mk k nm (bytes []) 0 tZero tZero [t,u]).Is (.ag [.j k,.t nm,.t (bytes []),.j 0,.j 0,.sl none 2 [] 0,.j 0,.sl none 2 [] 0,.sl a 9 [x,y] 2]):=
 Tm.is_mk.2 ⟨_,_,_,_,_,_,_,rfl,hdz (by omega) (by decide),by simp,x,[y],rfl,I,y,[],rfl,J,rfl⟩
theorem Mg {dp:Int} {T:Bl->Option (Tm × Bl)} (hT:DQ dp T) {s:ByteArray} (hs:s.size<=1073741824) (N:Nat) (Q:QT [.ag 9,.bool,.str,.i])
  (U:∀ d b s' N',N<=N'->Ri Tm.Is (IP false T (bl s)) d b s'->Q d b s' dp N'):BCalls prog 83 [.ag 9,.bool,.str,.i] [.pb 0 0 0 0] [.var [.str s,.j dp]] N Q:=by
 refine vB N s dp Q λE N1 ao=>hT s N1 _ hs λx b J N2 aq hx _ _=>?_;cases hx with
 | no hm Z=>exact Br.of (λ_=>⟨zG,λN3 aa=>U _ _ _ _ (by omega) (.no (by rw[IP,hm];rfl) Z)⟩) λh=>by cases h
 | @ok t _ _ hm hx Z=>
   have em:IP false T (bl s)=F2 false T t (bl J):=by rw[IP,hm];rfl
   rw[em]at U;refine Br.of (λh=>by cases h) λ_=>Br.str (λe=>⟨zG,λN3 aa=>U _ _ _ _ (by omega) (.no (by rw[e];rfl) Z)⟩) λak=>?_;cases hl:bl J with
   | nil=>exact absurd (ze hl) ak
   | cons c r=>
     have h1:(bl J).length=J.size:=xN J;rw[hl]at h1 U;simp only[oN]at h1;have hr:Atl J 0 (c::r):=⟨Z,by omega,by omega,hl⟩
     have ex:ByteArray.extract J 0 1=⟨#[c]⟩:=ze (hr.ext 1 (m:=1) rfl);have er:bl (ByteArray.extract J 1 ((J.size:Int)).toNat)=r:=by show(ByteArray.extract J _ _).data.toList=r;rw[ur];show((bl J).drop 1).take _=r;rw[hl,List.drop_succ_cons,List.drop_zero,nT (by omega)]
     have es:(ByteArray.extract J 1 ((J.size:Int)).toNat).size<=1073741824:=by rw[nw];omega
     rw[ex];refine⟨⟨by omega,by omega,by omega⟩,Br.nstr (λab=>⟨⟨by omega,by omega,by omega⟩,λN3 aa=>?_⟩) λab=>⟨⟨by omega,by omega,by omega⟩,λN3 aa=>?_⟩⟩
     ·have hc:c≠32:=λe=>ab (by rw[e];rfl);have ac:F2 false T t (c::r)=(T r).bind λy=>(pre [41] y.2).map λr=>(Tm.mk 4 ⟨#[c]⟩ (bytes []) 0 tZero tZero [t,y.1],r):=by simp only[F2];rw[if_neg hc,if_neg (by simp)]
      rw[ac]at U;have V:=hT (ByteArray.extract J 1 ((J.size:Int)).toNat) N3;rw[er]at V;refine V _ es λy b2 s2 N4 al hy _ _=>?_;cases hy with
      | no O I=>exact Br.of (λh=>by cases h) λ_=>⟨⟨rfl,rfl⟩,⟨rfl,rfl⟩,⟨rfl,rfl⟩,⟨rfl,rfl⟩,λa N5 ae _=>⟨zG,λN6 Y=>U _ _ _ _ (by omega) (.no (by rw[O];rfl) I)⟩⟩
      | @ok u _ _ O hy I=>rw[O,oI]at U;exact Br.of (λ_ N5 ae=>y4 I _ _ N5 _ (λr3 N6 Y hv ah _=>⟨⟨rfl,rfl⟩,⟨rfl,rfl⟩,⟨rfl,rfl⟩,⟨rfl,rfl⟩,λa N7 ai _=>⟨zG,λN8 aj=>U _ _ _ _ (by omega) (.ok (by rw[show pre [41] (u,bl s2).2=some (bl r3)from hv];rfl) (IE (by show 1<=_;omega) hx hy a) ah)⟩⟩) λN6 Y hv _=>⟨⟨rfl,rfl⟩,⟨rfl,rfl⟩,⟨rfl,rfl⟩,⟨rfl,rfl⟩,λa N7 ai _=>⟨zG,λN8 aj=>U _ _ _ _ (by omega) (.no (by rw[show pre [41] (u,bl s2).2=none from hv];rfl) I)⟩⟩) λh=>by cases h
     ·have hc:c=32:=by have h2:[c]=([32]:Bl):=oT bl ab;simpa using h2
      subst hc;have ac:F2 false T t (32::r)=(T r).bind λy=>(pre [41] y.2).map λr=>(Tm.mk 7 (bytes []) (bytes []) 0 tZero tZero [t,y.1],r):=by simp only[F2,nl]
      rw[ac]at U;have V:=hT (ByteArray.extract J 1 ((J.size:Int)).toNat) N3;rw[er]at V;refine V _ es λy b2 s2 N4 al hy _ _=>?_;cases hy with
      | no O I=>exact Br.of (λh=>by cases h) λ_=>⟨⟨rfl,rfl⟩,⟨rfl,rfl⟩,⟨rfl,rfl⟩,⟨rfl,rfl⟩,λa N5 ae _=>⟨zG,λN6 Y=>U _ _ _ _ (by omega) (.no (by rw[O];rfl) I)⟩⟩
      | @ok u _ _ O hy I=>rw[O,oI]at U;exact Br.of (λ_ N5 ae=>y4 I _ _ N5 _ (λr3 N6 Y hv ah _=>⟨⟨rfl,rfl⟩,⟨rfl,rfl⟩,⟨rfl,rfl⟩,⟨rfl,rfl⟩,λa N7 ai _=>⟨zG,λN8 aj=>U _ _ _ _ (by omega) (.ok (by rw[show pre [41] (u,bl s2).2=some (bl r3)from hv];rfl) (IE (by decide) hx hy a) ah)⟩⟩) λN6 Y hv _=>⟨⟨rfl,rfl⟩,⟨rfl,rfl⟩,⟨rfl,rfl⟩,⟨rfl,rfl⟩,λa N7 ai _=>⟨zG,λN8 aj=>U _ _ _ _ (by omega) (.no (by rw[show pre [41] (u,bl s2).2=none from hv];rfl) I)⟩⟩) λh=>by cases h
theorem xk {s:ByteArray}(hs:s.size<=1073741824):(⟨(word (bl s)).1.toArray⟩:ByteArray).size<=1073741824:=
 wa (s:=s) (n:=0) ⟨hs,by omega,by omega,rfl⟩
theorem Jj {dp:Int} {T:Bl->Option (Tm × Bl)} (hT:DQ dp T) {s:ByteArray} (hs:s.size<=1073741824) (N:Nat) (Q:QT [.ag 9,.bool,.str,.i])
  (hQ:∀ d b s' N',N<=N'->Ri Tm.Is (v6 false T (bl s)) d b s'->Q d b s' dp N'):BCalls prog 46 [.ag 9,.bool,.str,.i] [.pb 0 0 0 0] [.var [.str s,.j dp]] N Q:=by
 refine wZ N s dp Q λE N1 bp=>?_;have fin:∀ {m:Option (Tm × Bl)},v6 false T (bl s)=m->∀ N1,N<=N1->∀ d b s' N',N1<=N'->Ri Tm.Is m d b s'->N1<=N'->Bel N' d->zC E [.var [.str (bytes []),.j 0]]/\∀ N3,N'<=N3->Q d b s' dp N3:=λ{m} hm N1 h1 d b s' N' h hx _ _=>⟨zG,λN3 h3=>hQ _ _ _ _ (by omega) (by rw[hm];exact hx)⟩
 refine y4 hs _ _ N1 _ (λr N2 aw Y J _=>Br.of (λ_ N3 ax=>th hT (k:=4) (nm:=[33]) (by decide) 1 (by first | rfl | decide) (by omega) _ _ J N3 _ (fin (by simp only[v6,show pre [33] (bl s)=some (bl r)from Y];rfl) N3 (by omega))) λh=>by cases h) λN2 aw h1 _=>Br.of (λh=>by cases h) λ_ N3 ax=>?_;have g1:pre [33] (bl s)=none:=h1;refine y4 hs _ _ N3 _ (λr N4 ay Y J _=>Br.of (λ_ N5 az=>th hT (k:=5) (nm:=[]) (by decide) 3 (by first | rfl | decide) (by omega) _ _ J N5 _ (fin (by simp only[v6,g1,show pre [105,102,32] (bl s)=some (bl r)from Y];rfl) N5 (by omega))) λh=>by cases h) λN4 ay h2 _=>Br.of (λh=>by cases h) λ_ N5 az=>?_;have g2:pre [105,102,32] (bl s)=none:=h2;refine y4 hs _ _ N5 _ (λr N6 a1 Y J _=>Br.of (λ_ N7 a6=>th hT (k:=12) (nm:=[]) (by decide) 1 (by first | rfl | decide) (by omega) _ _ J N7 _ (fin (by simp only[v6,g1,g2,show pre [114,117,110,32] (bl s)=some (bl r)from Y];rfl) N7 (by omega))) λh=>by cases h) λN6 a1 h3 _=>Br.of (λh=>by cases h) λ_ N7 a6=>?_;have g3:pre [114,117,110,32] (bl s)=none:=h3;refine y4 hs _ _ N7 _ (λr N8 a7 Y J _=>Br.of (λ_ N9 a8=>th hT (k:=13) (nm:=[]) (by decide) 1 (by first | rfl | decide) (by omega) _ _ J N9 _ (fin (by simp only[v6,g1,g2,g3,show pre [108,105,102,116,32] (bl s)=some (bl r)from Y];rfl) N9 (by omega))) λh=>by cases h) λN8 a7 h4 _=>Br.of (λh=>by cases h) λ_ N9 a8=>?_;have g4:pre [108,105,102,116,32] (bl s)=none:=h4;refine y4 hs _ _ N9 _ (λr ba ai Y J _=>Br.of (λ_ ah aj=>?_) λh=>by cases h) λba ai h5 _=>Br.of (λh=>by cases h) λ_ ah aj=>?_
 ·have em:v6 false T (bl s)=Cj T (bl r):=by simp only[v6,g1,g2,g3,g4,show pre [108,101,116,32] (bl s)=some (bl r)from Y]
  refine Dm J _ ah _ λr2 ak ac h2 O _ Z ae=>y4 O _ _ Z _ (λr3 aa U hq ab _=>Br.of (λh=>by cases h) λ_ I V=>?_) λaa U hq _=>Br.of (λ_=>⟨zG,λI V=>hQ _ _ _ _ (by omega) (.no ?_ O)⟩) λh=>by cases h
  ·rw[h2]at hq;exact th hT (k:=8) (nm:=(word (bl r)).1) (xk J) 2 rfl (by omega) _ _ ab I _ (fin (em.trans (by unfold Cj;rw[show pre [61] (word (bl r)).2=some (bl r3)from hq];rfl)) I (by omega))
  ·rw[h2]at hq;rw[em];unfold Cj;rw[show pre [61] (word (bl r)).2=none from hq];rfl
 have g5:pre [108,101,116,32] (bl s)=none:=h5;refine y4 hs _ _ ah _ (λr ak ac Y J _=>Br.of (λ_ Z ae=>?_) λh=>by cases h) λak ac h6 _=>Br.of (λh=>by cases h) λ_ Z ae=>?_
 ·have em:v6 false T (bl s)=FA T (bl r):=by simp only[v6,g1,g2,g3,g4,g5,show pre [92] (bl s)=some (bl r)from Y]
  refine Dm J _ Z _ λr2 aa U h2 O _ I V=>Me hT (xk J) O I _ (fin (em.trans ?_) I (by omega));rw[h2];rfl
 have g6:pre [92] (bl s)=none:=h6;refine y4 hs _ _ Z _ (λr aa U Y J _=>Br.of (λ_ I V=>?_) λh=>by cases h) λaa U h7 _=>Br.of (λh=>by cases h) λ_ I V=>?_
 ·have em:v6 false T (bl s)=Ck T (bl r):=by simp only[v6,g1,g2,g3,g4,g5,g6,show pre [114,101,99,32] (bl s)=some (bl r)from Y]
  refine Dm J _ I _ λr2 bq bh h2 O _ bb bi=>y4 O _ _ bb _ (λr3 bc al hq ab _=>Br.of (λh=>by cases h) λ_ ao aq=>?_) λbc al hq _=>Br.of (λ_=>⟨zG,λao aq=>hQ _ _ _ _ (by omega) (.no ?_ O)⟩) λh=>by cases h
  ·rw[h2]at hq;refine Dm ab _ ao _ λr4 bt bj h4 bg _ au bm=>Mf hT (xk J) (xk ab) bg au _ (fin (em.trans ?_) au (by omega));unfold Ck;rw[show pre [32] (word (bl r)).2=some (bl r3)from hq,oI,h4]
  ·rw[h2]at hq;rw[em];unfold Ck;rw[show pre [32] (word (bl r)).2=none from hq];rfl
 have g7:pre [114,101,99,32] (bl s)=none:=h7;exact Mg hT hs I _ (fin (by simp only[v6,g1,g2,g3,g4,g5,g6,g7]) I (by omega))
end Go.Proofs.YtidiofobanefmaaGreatDoor
set_option maxRecDepth 100000
namespace Go.Proofs.YtidiofobanefmaaGreatDoor
open Go Go.Proofs Go.Proofs.Tryz Go.IntWalk
theorem Kj {P:Program}{ops:Array Oper}{Q:Exit->Act->World->Prop}{rest:List Nat}{i:Nat}{a:Act}{w w':World}{o:Oper}{v:Value}(I:ops[i]?=some o)(J:o.guard=none)(O:(execOp a.eval o).run P w=.ok (.value v) w')(h:wpOps P ops Q rest (a.put o.dst v) w'):wpOps P ops Q (i::rest) a w:=by simp only[wpOps,I,Region.wanted,J,nl];refine .inl ?_;unfold Oper.wp;rw[O,Oper.upon_value];exact h
theorem Lp {P:Program}{ops:Array Oper}{Q:Exit->Act->World->Prop}{rest:List Nat}{i:Nat}{a:Act}{w w':World}{o:Oper}(I:ops[i]?=some o)(J:o.guard=none)(O:(execOp a.eval o).run P w=.ok .skip w')(h:wpOps P ops Q rest (a.put o.dst undef) w'):wpOps P ops Q (i::rest) a w:=by simp only[wpOps,I,Region.wanted,J,nl];refine .inl ?_;unfold Oper.wp;rw[O,Oper.upon_skip];exact h
theorem Mn {P:Program}{ops:Array Oper}{Q:Exit->Act->World->Prop}{rest:List Nat}{i:Nat}{a:Act}{w w':World}{o:Oper}{d:Deferred}(I:ops[i]?=some o)(J:o.guard=none)(O:(execOp a.eval o).run P w=.ok (.defer d) w')(h:wpOps P ops Q rest ({ a with defers:=d::a.defers }.put o.dst undef) w'):wpOps P ops Q (i::rest) a w:=by simp only[wpOps,I,Region.wanted,J,nl];refine .inl ?_;unfold Oper.wp;rw[O,Oper.upon_defer];exact h
def opD (o:Oper):Op × Option Nat × Bool × TypeId:=(o.op,o.dst,o.guard.isNone,o.type)
theorem Ft {ops:Array Oper}{l:List (Op × Option Nat × Bool × TypeId)}(h:ops.toList.map opD=l){i:Nat}{op:Op}{d:Option Nat}{t:TypeId}(hi:l[i]?=some (op,d,true,t)):∃ o,ops[i]?=some o/\o.op=op/\o.dst=d/\o.guard=none/\o.type=t:=by
 subst h;rw[oE,nC]at hi;cases I:ops[i]? with
 | none=>rw[I]at hi;cases hi
 | some o=>rw[I]at hi;simp only[oR,oZ,opD,mo]at hi;exact⟨o,rfl,hi.1,hi.2.1,Option.isNone_iff_eq_none.1 hi.2.2.1,hi.2.2.2⟩
theorem AU {av:Nat->Prop} {w0 w:World} {e0 e:Env} {a:Act} {st:St} {ops:Array Oper} {l:List (Op × Option Nat × Bool × TypeId)} (hl:ops.toList.map opD=l) {Q:Exit->Act->World->Prop} {rest:List Nat} {i d:Nat} {op:Op} {t:TypeId} {p:PV}
  (hi:l[i]?=some (op,some d,true,t)) (h:Rel av w0 e0 [] [] a w e st) (V:nev prog (opd st.sl) (λk=>st.bx[k]?) op t (λr=>r=Res.v p)=(Res.v p=Res.v p)) (k:∀ J,Rel av w0 e0 [] [] J w e (st.put (some d) p)->wpOps prog ops Q rest J w):wpOps prog ops Q (i::rest) a w:=by
 obtain⟨o,Y,e1,Z,hg,e4⟩:=Ft hl hi;rcases pN h (o:=o) (R:=λr=>r=Res.v p) (by simp) (by rw[e1,e4,V])with⟨v,q,O,I,U⟩ | ⟨v,c,t,B,f,O,I,U⟩
 ·cases I;refine Kj Y hg O ?_;rw[Z];exact k _ (yQ (dst:=some d) h U (λi hi _=>hi))
 ·cases I
def ops42:List (Op × Option Nat × Bool × TypeId):=[(.load 41 (.tmp 0),some 1,true,41),(.nilCheck (.tmp 1),some 2,true,0),(.fieldAddr 43 (.tmp 2) 1,some 3,true,0),(.load 3 (.tmp 3),some 4,true,3),
 (.binOp .sub 3 (.tmp 4) (.const (.int .i64 1)) 3,some 5,true,3),(.nilCheck (.tmp 1),some 6,true,0),(.fieldAddr 43 (.tmp 6) 1,some 7,true,0),(.store 3 (.tmp 7) (.tmp 5),none,true,0)]
noncomputable def reg42:Option (Func × Nat × Array Oper):=match prog.funcs[42]? with
 | some fn=>match fn.body with
   | some (.region id ops false)=>some (fn,id,ops)
   | _=>none
 | none=>none
theorem Gt:reg42.isSome=true:=by kernel_rfl
theorem IT:reg42.map (λm=>m.2.2.toList.map opD)=some ops42:=by kernel_rfl
theorem J8:reg42.map (λm=>(m.1.ntmps,m.1.results.toList.length))=some (8,0):=by kernel_rfl
theorem Gu {m:Func × Nat × Array Oper}(h:reg42=some m):prog.funcs[42]?=some m.1/\m.1.body=some (.region m.2.1 m.2.2 false):=by
 unfold reg42 at h;split at h
 ·rename_i fn I;split at h
  ·rename_i id ops hb;cases h;exact⟨I,hb⟩
  ·cases h
 ·cases h
theorem Ny {av:Nat->Prop} {w0 w w2:World} {e0 e:Env} {s:ByteArray} {n:Int} {bs:List Bx} {N:Nat} {pn:Option (List (Option Nat) × List Nat)} {v:Value} {R:Ending->World->Prop}
  (hr:∀ a:Act,a.defers=[]->a.tmps=#[v]++Array.replicate 7 undef->Rel av w0 e0 [] [] a w e ⟨.pb 1 0 0 0::an 7 [],.var [.str s,.int .i64 n]::.var [.pb 0 0 0 0]::bs,N,pn⟩)
  (hs:(Instr.storeAt 3 (.pointer (some ⟨(e.at 0).getD 0,0*ez 0+1,none⟩)) (.int .i64 (IntKind.i64.wrap (n - 1)))).run prog w=.ok () w2) (hR:R (.returned (.tuple #[])) w2) {u:FrameMode}:CallsD prog 42 #[v] u w λe' u' w'=>u'=u/\R e' w':=by
 obtain⟨m,Y⟩:=mY.1 Gt;have I:=IT;have U:=J8;rw[Y,oR,oZ]at I U;obtain⟨hf,hb⟩:=Gu Y;have hn:m.1.ntmps=8:=oT Prod.fst U;have J:m.2.2.size=8:=by have:=oT List.length I;simpa [ops42]using this
 have O:m.1.results=#[]:=by have:m.1.results.toList.length=0:=oT Prod.snd U;exact Array.eq_empty_of_size_eq_zero (by simpa using this)
 refine callsD_of_wp hf hb (wp_region ?_);rw[J,hn];show wpOps prog m.2.2 _ [0,1,2,3,4,5,6,7] _ w;have r0:=hr { tmps:=#[v]++Array.replicate (8 - (#[v]:Array Value).size) undef,defers:=[] } rfl rfl;refine AU I (i:=0) (p:=.pb 0 0 0 0) rfl r0 (by kernel_rfl) λa1 r1=>?_;refine AU I (i:=1) (p:=.pb 0 0 0 0) rfl r1 (by kernel_rfl) λa2 r2=>?_;refine AU I (i:=2) (p:=.pb 0 0 0 1) rfl r2 (by kernel_rfl) λa3 r3=>?_;refine AU I (i:=3) (p:=.int .i64 n) rfl r3 (by kernel_rfl) λa4 r4=>?_;refine AU I (i:=4) (p:=.int .i64 (IntKind.i64.wrap (n - 1))) rfl r4 (by kernel_rfl) λa5 r5=>?_;refine AU I (i:=5) (p:=.pb 0 0 0 0) rfl r5 (by kernel_rfl) λa6 r6=>?_;refine AU I (i:=6) (p:=.pb 0 0 0 1) rfl r6 (by kernel_rfl) λZ V=>?_;obtain⟨o,ho,e1,e2,hg,e4⟩:=Ft I (i:=7) rfl;have h7:Z.eval (.tmp 7)=.pointer (some ⟨(e.at 0).getD 0,0*ez 0+1,none⟩):=(V.hs 7 (.pb 0 0 0 1) rfl (by simp)).resolve_left (by simp);have h5:Z.eval (.tmp 5)=.int .i64 (IntKind.i64.wrap (n - 1)):=(V.hs 5 (.int .i64 (IntKind.i64.wrap (n - 1))) rfl (by simp)).resolve_left (by simp);refine Lp ho hg (w':=w2) (by simp only[execOp,e1,h7,h5,Sem.run_bind,hs,Result.andThen_ok,Sem.run_pure]) ?_;rw[e2];refine⟨V.nd,.tuple #[],?_,hR⟩;simp[results,O]
end Go.Proofs.YtidiofobanefmaaGreatDoor
set_option linter.unusedSectionVars false
set_option maxRecDepth 100000
namespace Go.Proofs.YtidiofobanefmaaGreatDoor
open Go Go.Proofs Go.Proofs.Tryz Go.IntWalk
structure Rt where
 o:Array Oper
 x:Code
 y:Code
 z:Code
def Mz:List Item->Option Rt
 | [.code (.region 2 o false),.code (.seq (.block 0 (.seq x y)) z)]=>some ⟨o,x,y,z⟩
 | _=>none
theorem If {l:List Item}{m:Rt}(h:Mz l=some m):l=[.code (.region 2 m.o false),.code (.seq (.block 0 (.seq m.x m.y)) m.z)]:=by
 unfold Mz at h;split at h
 ·cases h;rfl
 ·cases h
theorem Lw:(Mz (vH prog 20 2)).isSome=true:=by kernel_rfl
theorem KE:(Mz (vH prog 20 2)).map (λm=>[.code m.x,.code m.y,.inBlock 0,.code m.z])=some (vH prog 20 3):=by kernel_rfl
def rtops:List (Op × Option Nat × Bool × TypeId):=[(.makeFunc (.func 42) #[] #[.tmp 1],some 14,true,1),(.defer ⟨.value (.tmp 14),#[],#[]⟩,none,true,0)]
theorem M4:(Mz (vH prog 20 2)).map (λm=>m.o.toList.map opD)=some rtops:=by kernel_rfl
theorem M3 (v:Value)(w:World):(invoke (.fn (.func 42) #[v]) #[]).run prog w=.ok (.enter 42 #[v]) w:=by kernel_rfl
theorem Nx:kz prog 3=some 0:=by kernel_rfl
theorem Jb {a:Act}{d:Nat}{v:Value}(h:d<a.tmps.size):(a.put (some d) v).eval (.tmp d)=v:=by simp[Act.put,Act.eval,om,h]
theorem M0 [Dfs] {E e':Env} {Q:QT [.ag 9,.bool,.str,.int .i64]} {N0 N' b2:Nat} {av:Nat->Prop} {w0 w':World} {a':Act} {sl':List PV} {s:ByteArray} {n:Int} {bs:List Bx} {x:Option Nat}
  (hr':Rel av w0 E [] [] a' w' e' ⟨sl',.var [.str s,.int .i64 n]::.var [.pb 0 0 0 0]::bs,N',some ([x,some b2],[])⟩) (hlow:w0.heap.size<=b2) (hN:w0.heap.size=N0)
  (hK:MF prog 20 [.ag 9,.bool,.str,.int .i64] Q (some N0) E [.var [.str (bytes []),.int .i64 0]] ⟨sl',.var [.str s,.int .i64 (IntKind.i64.wrap (n - 1))]::.var [.pb 0 0 0 0]::bs,N',some ([x],[])⟩) :
  e'.at 1=some b2/\∃ w2 fn v,(Instr.storeAt 3 (.pointer (some ⟨(e'.at 0).getD 0,0*ez 0+1,none⟩)) (.int .i64 (IntKind.i64.wrap (n - 1)))).run prog w'=.ok () w2/\prog.funcs[(20:Nat)]?=some fn/\(results fn a'.tmps).run prog w2=.ok v w2 /\
   MI [.ag 9,.bool,.str,.int .i64] Q (AQ prog 20 [.ag 9,.bool,.str,.int .i64] [.var [.str (bytes []),.int .i64 0]]) av w0 E [.var [.str (bytes []),.int .i64 0]] (.returned v) w2:=by
 have he1:e'.at 1=some b2:=(hr'.pin 1 b2 rfl).1;refine⟨he1,?_⟩;obtain⟨w2,B',hrun,hB,hr2⟩:=Ag hr' (t:=3) (z:=0) (zz:=0) (k:=0) (i:=0) (o:=1) (v:=.int .i64 (IntKind.i64.wrap (n - 1))) (p:=.int .i64 (IntKind.i64.wrap (n - 1))) (K:=fun B=>B=.var [.str s,.int .i64 (IntKind.i64.wrap (n - 1))]) Nx rfl (by simp) zQ rfl;subst hB;have hr3:Rel av w0 E [] [] a' w2 e' ⟨sl',.var [.str s,.int .i64 (IntKind.i64.wrap (n - 1))]::.var [.pb 0 0 0 0]::bs,N',some ([x],[])⟩:=
  Rel.mk hr2.toMem hr2.toFram hr2.nd hr2.sz hr2.hN hr2.hs hr2.so hr2.sr
   (fun k b hk=>by
    rcases hr2.own k b hk with h1 | ⟨h1,h2⟩
    ·exact .inl h1
    ·have h2:k<2:=h2;have h3:k=0\/k=1:=by omega
     rcases h3 with rfl | rfl
     ·exact .inr ⟨h1,Nat.zero_lt_one⟩
     ·have:=hk.2.1;rw[he1]at this;cases this;exact .inl hlow) hr2.avl hr2.avn
   (fun k b hk=>by
    match k,hk with
    | 0,hk=>exact hr2.pin 0 b (by simpa [St.pins]using hk)
    | k+1,hk=>simp[St.pins]at hk) (fun L T hp=>by cases hp;simp)
 obtain⟨fn,v,hf,hres,hfin⟩:=F8 hr3 (fun k hk=>by cases hk;exact hN.symm) hK;exact⟨w2,fn,v,hrun,hf,hres,hfin⟩
theorem KD [Dfs] {E e':Env} {N' b2:Nat} {av:Nat->Prop} {w0 w':World} {a' O:Act} {U:List PV} {s:ByteArray} {n:Int} {bs:List Bx} {x:Option Nat}
  (J:Rel av w0 E [] [] a' w' e' ⟨U,.var [.str s,.int .i64 n]::.var [.pb 0 0 0 0]::bs,N',some ([x,some b2],[])⟩) (hd:O.defers=[]) (Z:O.tmps=#[.pointer (some ⟨b2,0,none⟩)]++Array.replicate 7 undef) :
  @Rel instDfs av w0 E [] [] O w' e' ⟨.pb 1 0 0 0::an 7 [],.var [.str s,.int .i64 n]::.var [.pb 0 0 0 0]::bs,N',some ([x,some b2],[])⟩:=by
 have V:e'.at 1=some b2:=(J.pin 1 b2 rfl).1;refine @Rel.mk instDfs _ _ _ _ _ _ _ _ _ J.toMem J.toFram hd (by rw[Z];simp[an]) J.hN (λi p I _=>?_) (λi p I _=>?_) (λi p I _ k Y=>?_) J.own J.avl J.avn J.pin J.pit
 ·match i,I with
  | 0,I=>simp at I;subst I;refine .inr ?_;show O.tmps.getD 0 undef=.pointer (some ⟨(e'.at 1).getD 0,0*ez 0+0,none⟩);rw[V,Z];rfl
  | i+1,I=>have:p∈an 7 []:=oB I;simp[an]at this;exact .inl this
 ·match i,I with
  | 0,I=>simp at I;subst I;trivial
  | i+1,I=>have:p∈an 7 []:=oB I;simp[an]at this;subst this;trivial
 ·match i,I with
  | 0,I=>simp at I;subst I;simp[PV.refs]at Y;subst Y;exact⟨by simp,by simp⟩
  | i+1,I=>have:p∈an 7 []:=oB I;simp[an]at this;subst this;simp[PV.refs]at Y
theorem Kx {E:Env} {Q:QT [.ag 9,.bool,.str,.int .i64]} {N0:Nat} {s0:ByteArray} {n0:Int} {N:Nat}
  (h:∀ b1 dd,yq E b1 dd Q N0 s0 n0 0 (bytes []) (bytes []) 0 0 none [] 0 0 none [] 0 none [] 0 N):zy E Q N0 s0 n0 0 (bytes []) (bytes []) 0 0 none [] 0 0 none [] 0 none [] 0 N:=by
 unfold zy;refine⟨fun av w0 a w e hN hr=>?_⟩;obtain⟨m,hm⟩:=mY.1 Lw;have h3:=KE;have h2:=M4;rw[hm,oR,oZ]at h3 h2;rw[If hm];have hsz:67<=a.tmps.size:=hr.sz;have hlen:m.o.size=2:=by have:=oT List.length h2;simpa [rtops]using this
 obtain⟨b1,c1,t1,hb1,hc1,_⟩:=hr.br 1 _ rfl (by simp);have hlow:w0.heap.size<=b1:=(hr.own 1 b1 ⟨by simp,hb1,_,rfl,by simp⟩).resolve_right (fun⟨_,h⟩=>by simp[St.pins,zq]at h);have e1:a.eval (.tmp 1)=.pointer (some ⟨b1,0,none⟩):=by have:a.eval (.tmp 1)=.pointer (some ⟨(e.at 1).getD 0,0*ez 0+0,none⟩):=(hr.hs 1 (.pb 1 0 0 0) rfl (by simp)).resolve_left (by simp);rw[this,hb1];rfl
 have hmf:∀(fn:Fn) (first cap:Array Value) (w:World),(Instr.makeFunc fn first cap).run prog w=.ok (.func fn first cap) w:=fun _ _ _ _=>rfl;refine p7 (wp_region ?_);rw[hlen];show wpOps prog m.o _ [0,1] a w;obtain⟨o0,q0,p0,d0,g0,y0⟩:=Ft h2 (i:=0) rfl;obtain⟨o1,q1,p1,d1,g1,y1⟩:=Ft h2 (i:=1) rfl;refine Kj q0 g0 (v:=.func (.func 42) #[] #[.pointer (some ⟨b1,0,none⟩)]) (w':=w) (by simp[execOp,p0,e1,hmf,Result.andThen]) ?_;rw[d0];have hR1:=yQ (dst:=some 14) (v:=.func (.func 42) #[] #[.pointer (some ⟨b1,0,none⟩)]) (p:=.any) hr rD (fun i hi _=>hi);have e14:(a.put (some 14) (.func (.func 42) #[] #[.pointer (some ⟨b1,0,none⟩)])).eval (.tmp 14)=.func (.func 42) #[] #[.pointer (some ⟨b1,0,none⟩)]:=Jb (by omega);generalize a.put (some 14) (.func (.func 42) #[] #[.pointer (some ⟨b1,0,none⟩)])=a1 at hR1 e14;refine Mn q1 g1 (d:=⟨.fn (.func 42) #[.pointer (some ⟨b1,0,none⟩)],#[]⟩) (w':=w) (by simp[execOp,p1,resolve,e14,Deferred.ofValue]) ?_;rw[d1];refine⟨rfl,z8 (fun cs=>step_seq) (z8 (fun cs=>step_block) (z8 (fun cs=>step_seq) ?_))⟩;rw[h3];have hR1:Rel av w0 E [] [] a1 w e ⟨an 1 (.pb 1 0 0 0::.pb 2 0 0 0::an 64 []),[.var [.str s0,.int .i64 n0],.var [.pb 0 0 0 0],.var [.int .i64 0,.str (bytes []),.str (bytes []),.int .i64 0,.int .i64 0,.sv none 2 [] 0,.int .i64 0,.sv none 2 [] 0,.sv none 9 [] 0]],N,some ([some ((E.at 0).getD 0)],[])⟩:=hR1;have hd1:a1.defers=[]:=hR1.nd;rw[hd1];have hR2:@Rel ⟨some [⟨.fn (.func 42) #[.pointer (some ⟨b1,0,none⟩)],#[]⟩]⟩ av w0 E [] [] { a1 with defers:=[⟨.fn (.func 42) #[.pointer (some ⟨b1,0,none⟩)],#[]⟩] } w e ⟨an 1 (.pb 1 0 0 0::.pb 2 0 0 0::an 64 []),[.var [.str s0,.int .i64 n0],.var [.pb 0 0 0 0],.var [.int .i64 0,.str (bytes []),.str (bytes []),.int .i64 0,.int .i64 0,.sv none 2 [] 0,.int .i64 0,.sv none 2 [] 0,.sv none 9 [] 0]],N,some (zq E 0 [.var [.str (bytes []),.int .i64 0]]++[some b1],[])⟩:=
  @Rel.mk ⟨some [⟨.fn (.func 42) #[.pointer (some ⟨b1,0,none⟩)],#[]⟩]⟩ _ _ _ _ _ _ _ _ _ hR1.toMem hR1.toFram rfl hR1.sz hR1.hN hR1.hs hR1.so hR1.sr
   (fun k b hk=>(hR1.own k b hk).imp id fun⟨h1,h2⟩=>⟨h1,by simp[St.pins,zq]at h2 ⊢;omega⟩) hR1.avl hR1.avn
   (fun k b hk=>by
    simp only[St.pins,zq,nA,nB]at hk
    match k,hk with
    | 0,hk=>exact hR1.pin 0 b (by simpa [St.pins,zq]using hk)
    | 1,hk=>simp at hk;subst hk;exact⟨hb1,by simp⟩
    | k+2,hk=>simp at hk) (fun L T hp=>by cases hp;simp)
 intro cs;obtain⟨en,w',fr,⟨a',e',st',rfl,hK,hr'⟩,hcomes,hfn,hleav⟩:=@AT.h ⟨some [⟨.fn (.func 42) #[.pointer (some ⟨b1,0,none⟩)],#[]⟩]⟩ _ _ _ _ _ _ _ _ (h b1 [⟨.fn (.func 42) #[.pointer (some ⟨b1,0,none⟩)],#[]⟩]) av w0 _ w e hN hR2 cs;obtain⟨htm,hmode,hdef,hkind⟩:Ending.returned (.tuple a'.tmps)=.returned (.tuple fr.tmps)/\fr.mode=.returning/\fr.defers=[⟨.fn (.func 42) #[.pointer (some ⟨b1,0,none⟩)],#[]⟩]/\fr.kind=.normal:=hleav;have htm:a'.tmps=fr.tmps:=by
  injection htm with htm
  injection htm
 obtain⟨sl',bx',N',pin'⟩:=st';unfold dfK at hK;split at hK
 rotate_left
 ·exact hK.elim
 rename_i s2 b2 hdf;unfold dfS at hdf;split at hdf
 rotate_left
 ·cases hdf
 rename_i s n bs hbx;split at hdf
 rotate_left
 ·cases hdf
 rename_i x b3 hpin;simp only at hbx hpin;subst hbx;subst hpin;cases hdf;obtain⟨rfl,hK⟩:=hK;obtain⟨_,w2,fn,v,hrun,hf,hres,hfin⟩:=@M0 ⟨some [⟨.fn (.func 42) #[.pointer (some ⟨b2,0,none⟩)],#[]⟩]⟩ _ _ _ _ _ _ _ _ _ _ _ _ _ _ _ hr' hlow hN hK;have hc42:=Ny (R:=fun en w''=>en=.returned (.tuple #[])/\w''=w2) (u:=.returning) (fun a42 hd ht=>@KD ⟨some [⟨.fn (.func 42) #[.pointer (some ⟨b2,0,none⟩)],#[]⟩]⟩ _ _ _ _ _ _ _ _ _ _ _ _ _ _ hr' hd ht) hrun ⟨rfl,rfl⟩;have hL:Leaves prog fn fr.tmps (Mode.fin (.io E [.var [.str (bytes []),.int .i64 0]]) prog 20 [.ag 9,.bool,.str,.int .i64] Q av w0) [⟨.fn (.func 42) #[.pointer (some ⟨b2,0,none⟩)],#[]⟩] .returning w':=by
  refine leaves_cons (f:=42) (args:=#[.pointer (some ⟨b2,0,none⟩)]) (by simp) (M3 _ _) (hc42.mono ?_)
  rintro en u' w'' ⟨rfl,rfl,rfl⟩
  exact⟨v,by rw[<-htm];exact hres,hfin⟩
 obtain⟨en',w3,fr',hR',hs',hfn',hl'⟩:=leaves_steps _ .returning w' fr cs hmode hdef rfl (by rw[hfn];exact hf) hkind hL;exact⟨en',w3,fr',hR',Comes.of_steps hcomes hs',hfn'.trans hfn,hl'⟩
end Go.Proofs.YtidiofobanefmaaGreatDoor
set_option maxRecDepth 100000
namespace Go.Proofs.YtidiofobanefmaaGreatDoor
open Go Go.Proofs Go.Proofs.Tryz Go.IntWalk
def NumI:Prop:=∀(w:ByteArray) (_:w.size<=1073741824) (N:Nat) (Q:QT [.i,.bool]) (_:∀(m:Nat) N',N<=N'->yP (bl w)=some m->Q (m:Int) true N') (_:∀ n N',N<=N'->yP (bl w)=none->Q n false N'),ACalls prog 48 [.i,.bool] [.str w] N Q
theorem Mh (ah:NumI):∀ j:Nat,j<=20->∀ dp:Int,dp+j=20->DQ dp (xz false j):=by
 intro j
 induction j with
 | zero=>
   intro _ dp aq s N Q hs hQ;have e1:IntKind.i64.wrap (dp+1)=dp+1:=i64_in _ (by omega);have e2:IntKind.i64.wrap (dp+1 - 1)=dp:=by rw[i64_in _ (by omega)];omega
   refine yb N s dp Q λE=>Kx λb1 dd=>?_;rw[e1];exact yu (h:=Br.dec (λ_=>⟨rfl,zG,λN1 ai=>by rw[e2];exact hQ _ _ _ _ ai (.no rfl hs)⟩) λh=>by omega) ..
 | succ j ih=>
   intro hj dp aq s N Q hs hQ;have e1:IntKind.i64.wrap (dp+1)=dp+1:=i64_in _ (by omega);have e2:IntKind.i64.wrap (dp+1 - 1)=dp:=by rw[i64_in _ (by omega)];omega
   have hT:=ih (by omega) (dp+1) (by omega);rw[<-e2]at hQ;refine yb N s dp Q λE=>Kx λb1 dd=>?_;rw[e1];have fin:∀ {m:Option (Tm × Bl)},xz false (j+1) (bl s)=m->∀ N1,N<=N1->∀ d b s' N',N1<=N'->Ri Tm.Is m d b s'->N1<=N'->Bel N' d->b1=b1/\zC E [.var [.str (bytes []),.j 0]]/\∀ N3,N'<=N3->Q d b s' (IntKind.i64.wrap (dp+1 - 1)) N3:=λ{m} I N1 h1 d b s' N' h hx _ _=>⟨rfl,zG,λN3 h3=>hQ _ _ _ _ (by omega) (by rw[I];exact hx)⟩
   refine yu (h:=Br.dec (λh=>by omega) λ_ N1 ai=>?_) ..;refine y4 hs _ _ N1 _ (λr N2 au V J _=>Br.of (λ_ N3 aw=>tX N3 1 true _ (Br.of (λ_ N4 aa=>fin (by simp only[xz,show pre [35,116] (bl s)=some (bl r)from V]) N3 (by omega) _ _ _ N4 aa (.ok (t:=tBl 1) rfl (uW 3 1 (by decide)) J)) λh=>by cases h)) λh=>by cases h) λN2 au h1 _=>Br.of (λh=>by cases h) λ_ N3 aw=>?_;have g1:pre [35,116] (bl s)=none:=h1;refine y4 hs _ _ N3 _ (λr N4 aa V J _=>Br.of (λ_ N5 ax=>tX N5 0 true _ (Br.of (λ_ N6 ab=>fin (by simp only[xz,g1,show pre [35,102] (bl s)=some (bl r)from V]) N5 (by omega) _ _ _ N6 ab (.ok (t:=tBl 0) rfl (uW 3 0 (by decide)) J)) λh=>by cases h)) λh=>by cases h) λN4 aa h2 _=>Br.of (λh=>by cases h) λ_ N5 ax=>?_;have g2:pre [35,102] (bl s)=none:=h2;refine y4 hs _ _ N5 _ (λr N6 ab V J _=>Br.of (λ_ N7 ay=>th hT (k:=10) (nm:=[]) (by decide) 1 rfl (by omega) _ _ J N7 _ (fin (by simp only[xz,g1,g2,show pre [60] (bl s)=some (bl r)from V];rfl) N7 (by omega))) λh=>by cases h) λN6 ab h3 _=>Br.of (λh=>by cases h) λ_ N7 ay=>?_;have g3:pre [60] (bl s)=none:=h3;refine y4 hs _ _ N7 _ (λr N8 az V J _=>Br.of (λ_ N9 a1=>th hT (k:=11) (nm:=[]) (by decide) 1 rfl (by omega) _ _ J N9 _ (fin (by simp only[xz,g1,g2,g3,show pre [126] (bl s)=some (bl r)from V];rfl) N9 (by omega))) λh=>by cases h) λN8 az h4 _=>Br.of (λh=>by cases h) λ_ N9 a1=>?_;have g4:pre [126] (bl s)=none:=h4;refine y4 hs _ _ N9 _ (λr a6 aj V J _=>Br.of (λ_ Y ak=>Jj hT J Y _ (fin (by simp only[xz,g1,g2,g3,g4,show pre [40] (bl s)=some (bl r)from V]) Y (by omega))) λh=>by cases h) λa6 aj h5 _=>Br.of (λh=>by cases h) λ_ Y ak=>?_;have g5:pre [40] (bl s)=none:=h5;have em:xz false (j+1) (bl s)=EV false (bl s):=by simp only[xz,g1,g2,g3,g4,g5]
   refine Dm hs _ Y _ λr bc ba h2 J _ a7 bb=>ah _ (xk hs) a7 _ (λm a8 al I _=>Br.of (λ_ O ao=>EK O m _ λac U=>fin em O (by omega) _ _ _ ac U (.ok (t:=KI m) ?_ (uW 2 m (by decide)) J)) λh=>by cases h) λn a8 al I _=>Br.of (λh=>by cases h) λ_ O ao=>EL O _ _ λac U=>fin em O (by omega) _ _ _ ac U ?_
   ·have I:yP (word (bl s)).1=some m:=I;rw[h2];cases hl:bl s with
    | nil=>rw[hl]at I;rw[show(word ([]:Bl)).1=[]from rfl,Dt (by simp)]at I;cases I
    | cons c l=>rw[hl]at I;simp only[EV,I]
   ·have I:yP (word (bl s)).1=none:=I;by_cases Z:(word (bl s)).1=[]
    ·have ae:(!(ByteArray.toList (⟨(word (bl s)).1.toArray⟩:ByteArray)==ByteArray.toList (bytes [])))=false:=by rw[yi,Bool.not_eq_false',oc,Z];rfl
     rw[ae];refine .no ?_ J;cases hl:bl s with
     | nil=>rfl
     | cons c l=>rw[hl]at I Z;simp only[EV,I];rw[if_pos Z]
    ·have ae:(!(ByteArray.toList (⟨(word (bl s)).1.toArray⟩:ByteArray)==ByteArray.toList (bytes [])))=true:=by rw[yi,o6,nR];intro h;exact Z (oT bl h)
     rw[ae];refine .ok (t:=tVr (word (bl s)).1) ?_ (uW 1 0 (o8 (xk hs) (by omega))) J;rw[h2];cases hl:bl s with
     | nil=>rw[hl]at Z;exact absurd rfl Z
     | cons c l=>rw[hl]at I Z;simp only[EV,I];rw[if_neg Z]
end Go.Proofs.YtidiofobanefmaaGreatDoor
namespace Go.Proofs
namespace YtidiofobanefmaaGreatDoor
open Go Go.Proofs Go.Proofs.Tryz Go.RowKit Go.Shelf Go.Sort Go.Lib
def atoiR:Go.Shelf.Ren:=⟨λx=>match x with | 129=>162 | 171=>75 | 172=>118 | 205=>168 | 243=>106 | 244=>143 | 245=>144 | 246=>133 | 247=>155 | 279=>156 | 280=>157 | 281=>158 | 282=>159 | 283=>147 | 284=>148 | 285=>149 | 286=>150 | 287=>166 | 316=>167 | 317=>161 | 318=>163 | 319=>164 | 320=>165 | 321=>171 | 322=>172 | 337=>169 | 338=>170 | n=>n,λx=>match x with | 0=>0 | 2=>2 | 3=>3 | 4=>4 | 5=>5 | 9=>9 | 20=>20 | 21=>21 | 37=>22 | 46=>110 | 51=>98 | 53=>151 | 75=>116 | 76=>117 | 80=>40 | 85=>161 | 127=>139 | 143=>179 | 145=>181 | 167=>160 | 168=>163 | 171=>150 | 173=>154 | 175=>172 | 210=>175 | 212=>169 | 213=>170 | 232=>182 | 233=>183 | n=>n,λx=>match x with | 15=>6 | 16=>7 | 17=>4 | 18=>8 | 19=>9 | n=>n⟩
theorem K6:LaysC.n172 Tryz.prog atoiR where
 mixed:=by kernel_rfl
 f129:=Tryz.func162.trans (oT some (by kernel_rfl))
 f171:=Tryz.func75.trans (oT some (by kernel_rfl))
 f172:=Tryz.func118.trans (oT some (by kernel_rfl))
 f205:=Tryz.func168.trans (oT some (by kernel_rfl))
 f243:=Tryz.func106.trans (oT some (by kernel_rfl))
 f244:=Tryz.func143.trans (oT some (by kernel_rfl))
 f245:=Tryz.func144.trans (oT some (by kernel_rfl))
 f246:=Tryz.func133.trans (oT some (by kernel_rfl))
 f247:=Tryz.func155.trans (oT some (by kernel_rfl))
 f279:=Tryz.func156.trans (oT some (by kernel_rfl))
 f280:=Tryz.func157.trans (oT some (by kernel_rfl))
 f281:=Tryz.func158.trans (oT some (by kernel_rfl))
 f282:=Tryz.func159.trans (oT some (by kernel_rfl))
 f283:=Tryz.func147.trans (oT some (by kernel_rfl))
 f284:=Tryz.func148.trans (oT some (by kernel_rfl))
 f285:=Tryz.func149.trans (oT some (by kernel_rfl))
 f286:=Tryz.func150.trans (oT some (by kernel_rfl))
 f287:=Tryz.func166.trans (oT some (by kernel_rfl))
 f316:=Tryz.func167.trans (oT some (by kernel_rfl))
 f317:=Tryz.func161.trans (oT some (by kernel_rfl))
 f318:=Tryz.func163.trans (oT some (by kernel_rfl))
 f319:=Tryz.func164.trans (oT some (by kernel_rfl))
 f320:=Tryz.func165.trans (oT some (by kernel_rfl))
 f321:=Tryz.func171.trans (oT some (by kernel_rfl))
 f322:=Tryz.func172.trans (oT some (by kernel_rfl))
 f337:=Tryz.func169.trans (oT some (by kernel_rfl))
 f338:=Tryz.func170.trans (oT some (by kernel_rfl))
 t0:=Tryz.underlying0
 a0:=Tryz.isAgg0
 z0:=Tryz.sizeOf0
 v0:=Tryz.zeroValue0
 t2:=Tryz.underlying2
 a2:=Tryz.isAgg2
 z2:=Tryz.sizeOf2
 v2:=Tryz.zeroValue2
 t3:=Tryz.underlying3
 a3:=Tryz.isAgg3
 z3:=Tryz.sizeOf3
 v3:=Tryz.zeroValue3
 t4:=Tryz.underlying4
 a4:=Tryz.isAgg4
 z4:=Tryz.sizeOf4
 v4:=Tryz.zeroValue4
 t5:=Tryz.underlying5
 a5:=Tryz.isAgg5
 z5:=Tryz.sizeOf5
 v5:=Tryz.zeroValue5
 t9:=Tryz.underlying9
 a9:=Tryz.isAgg9
 z9:=Tryz.sizeOf9
 v9:=Tryz.zeroValue9
 t20:=Tryz.underlying20
 a20:=Tryz.isAgg20
 z20:=Tryz.sizeOf20
 v20:=Tryz.zeroValue20
 t21:=Tryz.underlying21
 a21:=Tryz.isAgg21
 z21:=Tryz.sizeOf21
 v21:=Tryz.zeroValue21
 t37:=Tryz.underlying22
 a37:=Tryz.isAgg22
 z37:=Tryz.sizeOf22
 v37:=Tryz.zeroValue22
 t46:=Tryz.underlying110
 a46:=Tryz.isAgg110
 z46:=Tryz.sizeOf110
 v46:=Tryz.zeroValue110
 t51:=Tryz.underlying98
 a51:=Tryz.isAgg98
 z51:=Tryz.sizeOf98
 v51:=Tryz.zeroValue98
 t53:=Tryz.underlying151
 a53:=Tryz.isAgg151
 z53:=Tryz.sizeOf151
 v53:=Tryz.zeroValue151
 t75:=Tryz.underlying116
 a75:=Tryz.isAgg116
 z75:=Tryz.sizeOf116
 v75:=Tryz.zeroValue116
 t76:=Tryz.underlying117
 a76:=Tryz.isAgg117
 z76:=Tryz.sizeOf117
 v76:=Tryz.zeroValue117
 t85:=Tryz.underlying161
 a85:=Tryz.isAgg161
 z85:=Tryz.sizeOf161
 v85:=Tryz.zeroValue161
 t127:=Tryz.underlying139
 a127:=Tryz.isAgg139
 z127:=Tryz.sizeOf139
 v127:=Tryz.zeroValue139
 t143:=Tryz.underlying179
 a143:=Tryz.isAgg179
 z143:=Tryz.sizeOf179
 v143:=Tryz.zeroValue179
 t145:=Tryz.underlying181
 a145:=Tryz.isAgg181
 z145:=Tryz.sizeOf181
 v145:=Tryz.zeroValue181
 t167:=Tryz.underlying160
 a167:=Tryz.isAgg160
 z167:=Tryz.sizeOf160
 v167:=Tryz.zeroValue160
 t168:=Tryz.underlying163
 a168:=Tryz.isAgg163
 z168:=Tryz.sizeOf163
 v168:=Tryz.zeroValue163
 t171:=Tryz.underlying150
 a171:=Tryz.isAgg150
 z171:=Tryz.sizeOf150
 v171:=Tryz.zeroValue150
 t173:=Tryz.underlying154
 a173:=Tryz.isAgg154
 z173:=Tryz.sizeOf154
 v173:=Tryz.zeroValue154
 t175:=Tryz.underlying172
 a175:=Tryz.isAgg172
 z175:=Tryz.sizeOf172
 v175:=Tryz.zeroValue172
 t210:=Tryz.underlying175
 a210:=Tryz.isAgg175
 z210:=Tryz.sizeOf175
 v210:=Tryz.zeroValue175
 t212:=Tryz.underlying169
 a212:=Tryz.isAgg169
 z212:=Tryz.sizeOf169
 v212:=Tryz.zeroValue169
 t213:=Tryz.underlying170
 a213:=Tryz.isAgg170
 z213:=Tryz.sizeOf170
 t232:=Tryz.underlying182
 a232:=Tryz.isAgg182
 z232:=Tryz.sizeOf182
 v232:=Tryz.zeroValue182
 t233:=Tryz.underlying183
 a233:=Tryz.isAgg183
 z233:=Tryz.sizeOf183
 v233:=Tryz.zeroValue183
 g15:=by kernel_rfl
 g16:=by kernel_rfl
 g17:=by kernel_rfl
 g18:=by kernel_rfl
 g19:=by kernel_rfl
 t80:=Tryz.underlying40
 a80:=Tryz.isAgg40
 z80:=Tryz.sizeOf40
 v80:=Tryz.zeroValue40
 i0:=by kernel_rfl
 i2:=by kernel_rfl
 i3:=by kernel_rfl
 i4:=by kernel_rfl
 i5:=by kernel_rfl
 i9:=by kernel_rfl
 i20:=by kernel_rfl
 i21:=by kernel_rfl
 i37:=by kernel_rfl
 i46:=by kernel_rfl
 i51:=by kernel_rfl
 i53:=by kernel_rfl
 i75:=by kernel_rfl
 i76:=by kernel_rfl
 i80:=by kernel_rfl
 i85:=by kernel_rfl
 i127:=by kernel_rfl
 i143:=by kernel_rfl
 i145:=by kernel_rfl
 i167:=by kernel_rfl
 i168:=by kernel_rfl
 i171:=by kernel_rfl
 i173:=by kernel_rfl
 i175:=by kernel_rfl
 i210:=by kernel_rfl
 i212:=by kernel_rfl
 i232:=by kernel_rfl
 i233:=by kernel_rfl
 m15:=by kernel_rfl
 m16:=by kernel_rfl
 m17:=by kernel_rfl
 m18:=by kernel_rfl
 m19:=by kernel_rfl
 c0:=by kernel_rfl
 c2:=by kernel_rfl
 c3:=by kernel_rfl
 c4:=by kernel_rfl
 c5:=by kernel_rfl
 c9:=by kernel_rfl
 c20:=by kernel_rfl
 c21:=by kernel_rfl
 c37:=by kernel_rfl
 c46:=by kernel_rfl
 c51:=by kernel_rfl
 c53:=by kernel_rfl
 c75:=by kernel_rfl
 c76:=by kernel_rfl
 c80:=by kernel_rfl
 c85:=by kernel_rfl
 c127:=by kernel_rfl
 c143:=by kernel_rfl
 c145:=by kernel_rfl
 c167:=by kernel_rfl
 c168:=by kernel_rfl
 c171:=by kernel_rfl
 c173:=by kernel_rfl
 c175:=by kernel_rfl
 c210:=by kernel_rfl
 c212:=by kernel_rfl
 c213:=by kernel_rfl
 c232:=by kernel_rfl
 c233:=by kernel_rfl
def JX (a:Nat)(l:Bl):Nat:=l.foldl (λa c=>10*a+(c.toNat - 48)) a
theorem Fc:∀(l:Bl)(a:Nat),a<=JX a l
 | [],a=>oJ _
 | c::l,a=>o8 (by omega) (Fc l (10*a+(c.toNat - 48)))
theorem Kl:∀(l:Bl)(a:Nat),(∀ c∈l,rV c=true)->JX a l<=999999->parseUint10 a l=.ok (JX a l)
 | [],a,_,_=>rfl
 | c::l,a,hd,I=>by have hc:=hd c (by simp);simp only[rV,oc]at hc;have O:10*a+(c.toNat - 48)<=999999:=o8 (Fc l _) I;unfold parseUint10;rw[if_pos hc,if_neg (by omega),if_neg (by omega),show a*10+(c.toNat - 48)=10*a+(c.toNat - 48) by omega];exact Kl l _ (λx J=>hd x (by simp[J])) I
theorem JG {m:Nat}(J:m<=999999):atoiAll (decDigits m)=.ok (m:Int):=by have hd:=vQ m;have I:JX 0 (decDigits m)=m:=Fd m;obtain⟨c,l,e⟩:=Dc m;rw[e]at hd I ⊢;have hc:=hd c (by simp);simp only[rV,oc]at hc;rw[atoiAll_plain c l (by omega) (by omega)];unfold parseMag;rw[if_neg (by simp),Kl _ _ hd (by omega),I];show(if 9223372036854775808<=m then NumEnd.range else NumEnd.ok (m:Int))=_;rw[if_neg (by omega)]
theorem Kf {l:Bl}{m:Nat}(h:yP l=some m):atoiAll l=.ok (m:Int):=by obtain⟨I,rfl⟩:=qE h;exact JG I
theorem Jg {w:World}(h:GlobIs w):(∃ I,w.cell? ⟨(atoiR.g 15),0,none⟩=some I/\(I=.nilIface\/∃ J O,I=.iface J O))/\∃ I,w.cell? ⟨(atoiR.g 16),0,none⟩=some I/\(I=.nilIface\/∃ J O,I=.iface J O):=by
 refine⟨?_,?_⟩
 ·obtain⟨c,t,fz,U,v,rfl,V⟩:=h.b (atoiR.g 15,λc=>∃ v,c=#[v]/\(v=.nilIface\/∃ J O,v=.iface J O)) (by simp[Dj,atoiR]);exact⟨v,by simp[World.cell?,U],V⟩
 ·obtain⟨c,t,fz,U,v,rfl,V⟩:=h.b (atoiR.g 16,λc=>∃ v,c=#[v]/\(v=.nilIface\/∃ J O,v=.iface J O)) (by simp[Dj,atoiR]);exact⟨v,by simp[World.cell?,U],V⟩
theorem JH (s:ByteArray)(hs:s.size<=1073741824)(w:World)(U:GlobIs w):Calls Tryz.prog 118 #[.string s] w λe w'=>∃ v J,e=.returned (.tuple #[.int .i64 v,J])/\Below w.heap.size w w'/\(J=.nilIface/\atoiAll (bl s)=.ok v\/(∃ t p,J=.iface t (.pointer (some p)))/\∀ v,atoiAll (bl s)≠.ok v):=by
 obtain⟨⟨V,Y,Z⟩,O,h3,h4⟩:=Jg U;rcases h:atoiAll (bl s)with v | _ | _
 ·exact(Any.strconv_Atoi_ok K6 s (by omega) v h w).mono λe w' ⟨I,hw⟩=>⟨v,.nilIface,I,by
   rcases hw with rfl | ⟨t,rfl⟩
   ·exact Below.refl _ _
   ·exact Lib.bytesWorld_below _ _ _,.inl ⟨rfl,rfl⟩⟩
 ·exact(Any.strconv_Atoi_syntax K6 s (by omega) h V w Y Z).mono λe w' ⟨N,I,_,_,hb⟩=>⟨_,_,I,hb,.inr ⟨⟨_,_,rfl⟩,by simp⟩⟩
 ·exact(Any.strconv_Atoi_range K6 s (by omega) h O w h3 h4).mono λe w' ⟨N,I,_,_,hb⟩=>⟨_,_,I,hb,.inr ⟨⟨_,_,rfl⟩,by simp⟩⟩
theorem Gh (w:World)(k:Nat)(os:Array Obj):Below w.heap.size w (Go.Sort.grow (w.drewN k) os):=by
 have I:(Go.Sort.grow (w.drewN k) os).heap.size=w.heap.size+os.size:=by unfold Go.Sort.grow;rw[mB];rfl
 exact⟨rfl,rfl,rfl,by rw[I];omega,λb hb=>Array.getElem?_append_left hb⟩
theorem Gf {w w':World}(h:GlobIs w)(hb:Below w.heap.size w w'):GlobIs w':=h.keep (λb I=>hb.block b (h.lt I)) λx J=>hb.block x.1 (h.ltb J)
theorem LP (n:Int)(I : -9223372036854775808<=n)(J:n<=9223372036854775807)(w:World)(O:GlobIs w):Calls Tryz.prog 39 #[.int .i64 n] w λe w'=>e=.returned (.string ⟨(Lib.itoa n).toArray⟩)/\Below w.heap.size w w':=by
 have U:∀ args w,(callFunc 75 args).run Tryz.prog w=.ok (.enter 75 args) w:=enters_of Tryz.func75 (by kernel_rfl) rfl
 go_enter Tryz.func39,Tryz.ntmps39
 go_wp2_with (go_at_fn 75;refine(Any.strconv_Itoa itoaL n I J _ (Fi O)).mono ?_;rintro e w' ⟨rfl,k,os,rfl⟩)
 go_ret
 exact⟨rfl,Gh _ _ _⟩
theorem G6 (n:Int)(w:World):Calls Tryz.prog 114 #[.int .i64 n,.int .i64 0,.int .i64 999999] w λe w'=>e=.returned (.bool (decide (0<=n/\n<=999999)))/\w'=w:=by
 go_enter Tryz.func114,Tryz.ntmps114
 go_wp2
 all_goals(go_ret;refine⟨?_,rfl⟩;congr 2;simp;omega)
set_option maxHeartbeats 4000000 in
set_option maxRecDepth 100000 in
theorem FC (s:ByteArray) (hs:s.size<=1073741824) (w:World) (hg:GlobIs w):Calls Tryz.prog 84 #[.string s,.int .i64 0,.int .i64 999999] w fun e w'=>∃ n b,e=.returned (.tuple #[.int .i64 n,.bool b])/\Below w.heap.size w w'/\(b=true->∃ m:Nat,n=m/\yP (bl s)=some m)/\(b=false->yP (bl s)=none):=by
 have eA:∀ args w,(callFunc 118 args).run Tryz.prog w=.ok (.enter 118 args) w:=enters_of Tryz.func118 (by kernel_rfl) rfl;have eF:∀ args w,(callFunc 39 args).run Tryz.prog w=.ok (.enter 39 args) w:=enters_of Tryz.func39 (by kernel_rfl) rfl;have eW:∀ args w,(callFunc 114 args).run Tryz.prog w=.ok (.enter 114 args) w:=enters_of Tryz.func114 (by kernel_rfl) rfl
 go_enter Tryz.func84,Tryz.ntmps84
 go_wp2_with (go_at_fn 118;refine(JH s hs _ hg).mono ?_)
 rintro e w1 ⟨v,er,rfl,hB,hc⟩
 rcases hc with⟨rfl,hv⟩ | ⟨⟨t,p,rfl⟩,hn⟩
 ·obtain⟨hv0,hv1⟩:=atoiAll_bounds hv
  go_wp2_with (go_at_fn 39;refine(LP v hv0 hv1 _ (Gf hg hB)).mono ?_)
  rintro e w2 ⟨rfl,hB2⟩
  have hB3:=hB.trans (hB2.mono hB.size);have hm:∀ m:Nat,yP (bl s)=some m->v=m/\m<=999999:=fun m h=>by
   have h2:=Kf h;rw[hv]at h2;injection h2 with h2
   exact⟨h2,(qE h).1⟩
  generalize hz:(⟨(itoa v).toArray⟩:ByteArray)=z;have hne:∀ W,(binOp .neq 9 (.string z) (.string s)).run Tryz.prog W=.ok (.bool (!(z.toList==s.toList))) W:=fun _=>by first | rfl | kernel_rfl
  rw[yi]at hne;by_cases hq:z=s
  ·rw [nU hq,Bool.not_true]at hne
   go_wp2_with (go_at_fn 114;refine(G6 v _).mono ?_;rintro e w3 ⟨rfl,rfl⟩)
   ·rename_i hr
    go_ret2
    refine⟨_,_,rfl,hB3,by simp,fun _=>?_⟩;cases h:yP (bl s)with
    | none=>rfl
    | some m=>obtain⟨rfl,h2⟩:=hm m h;exfalso;simp at hr;omega
   ·rename_i hr
    go_ret2
    refine⟨_,_,rfl,hB3,fun _=>⟨v.toNat,?_,?_⟩,by simp⟩
    ·simp at hr;omega
    ·simp at hr;have e2:bl s=decDigits v.toNat:=by
      rw[<-hq,<-hz];show itoa v=_
      conv=>lhs;rw[show v=(v.toNat:Int) by omega,itoa_nonneg]
     rw[e2];exact AR (by omega)
  ·rw [nV hq,Bool.not_false]at hne
   go_wp2
   all_goals first
    | (exfalso;exact hq (DV (by assumption)))
    | (go_ret2
       refine⟨_,_,rfl,hB3,by simp,fun _=>?_⟩;cases h:yP (bl s)with
       | none=>rfl
       | some m=>obtain⟨rfl,h2⟩:=hm m h;exfalso;refine hq (hz.symm.trans (ze ?_));show itoa (m:Int)=bl s;rw[itoa_nonneg];exact(qE h).2)
 ·go_wp2
  go_ret2
  refine⟨_,_,rfl,hB,by simp,fun _=>?_⟩;cases h:yP (bl s)with
  | none=>rfl
  | some m=>exact absurd (Kf h) (hn _)
theorem HX (s:ByteArray)(hs:s.size<=1073741824)(N:Nat)(Q:QT [.int .i64,.bool])(Y:∀(m:Nat) N',N<=N'->yP (bl s)=some m->Q (m:Int) true N')(Z:∀ n N',N<=N'->yP (bl s)=none->Q n false N'):ACalls prog 84 [.int .i64,.bool] [.str s,.int .i64 0,.int .i64 999999] N Q:=by
 refine⟨by kernel_rfl,λav w0 hN J _=>(FC s hs w0 J.g).mono λe w' ⟨n,b,he,I,O,U⟩=>?_⟩;subst he;subst hN;have hq:Q n b w'.heap.size:=by
  cases b with
  | true=>obtain⟨m,rfl,hm⟩:=O rfl;exact Y m _ I.size hm
  | false=>exact Z n _ I.size (U rfl)
 refine⟨[.int .i64 n,.bool b],[],[],?_⟩;exact { q := ⟨rfl,hq⟩,v:=rfl,m:=⟨rfl,by simp,by simp,by simp,λk j b h=>by obtain⟨_,h2,_⟩:=h;simp[Env.at]at h2⟩,ok:=λp V=>by simp at V;rcases V with rfl | rfl<;>trivial,fresh:=λk b h=>by simp[Env.at]at h,size:=I.size,old:=λb hb=>I.block b hb,fz:=λ_ _ _ _ _ _=>trivial,ku:=⟨I.os,I.output⟩ }
theorem MS:NumI:=λw O N Q U V=>rJ N w Q λN1 Y=>HX w O N1 _ (λm Z I hm _ N3 J=>U m N3 (by omega) hm) λn Z I hn _ N3 J=>V n N3 (by omega) hn
def trimR:Go.Shelf.Ren:=⟨λx=>match x with | 120=>145 | 163=>21 | 197=>88 | 199=>52 | 237=>51 | 238=>53 | 260=>123 | 261=>86 | 271=>122 | 272=>85 | 273=>87 | 311=>120 | 312=>121 | 315=>119 | n=>n,λx=>match x with | 0=>0 | 3=>3 | 4=>4 | 5=>5 | 9=>9 | 21=>21 | 37=>22 | 40=>75 | 46=>110 | 49=>127 | 51=>98 | 105=>102 | 119=>76 | 138=>147 | 139=>148 | 141=>100 | 193=>123 | 194=>124 | 196=>126 | 198=>129 | 201=>132 | 226=>143 | 227=>144 | n=>n,λx=>match x with | 0=>0 | 3=>2 | 4=>3 | 6=>1 | n=>n⟩
theorem OC:Lays.n163 Tryz.prog trimR where
 mixed:=by kernel_rfl
 f120:=Tryz.func145.trans (oT some (by kernel_rfl))
 f163:=Tryz.func21.trans (oT some (by kernel_rfl))
 f197:=Tryz.func88.trans (oT some (by kernel_rfl))
 f199:=Tryz.func52.trans (oT some (by kernel_rfl))
 f237:=Tryz.func51.trans (oT some (by kernel_rfl))
 f238:=Tryz.func53.trans (oT some (by kernel_rfl))
 f260:=Tryz.func123.trans (oT some (by kernel_rfl))
 f261:=Tryz.func86.trans (oT some (by kernel_rfl))
 f271:=Tryz.func122.trans (oT some (by kernel_rfl))
 f272:=Tryz.func85.trans (oT some (by kernel_rfl))
 f273:=Tryz.func87.trans (oT some (by kernel_rfl))
 f311:=Tryz.func120.trans (oT some (by kernel_rfl))
 f312:=Tryz.func121.trans (oT some (by kernel_rfl))
 f315:=Tryz.func119.trans (oT some (by kernel_rfl))
 t0:=Tryz.underlying0
 a0:=Tryz.isAgg0
 z0:=Tryz.sizeOf0
 v0:=Tryz.zeroValue0
 t3:=Tryz.underlying3
 a3:=Tryz.isAgg3
 z3:=Tryz.sizeOf3
 v3:=Tryz.zeroValue3
 t4:=Tryz.underlying4
 a4:=Tryz.isAgg4
 z4:=Tryz.sizeOf4
 v4:=Tryz.zeroValue4
 t5:=Tryz.underlying5
 a5:=Tryz.isAgg5
 z5:=Tryz.sizeOf5
 v5:=Tryz.zeroValue5
 t9:=Tryz.underlying9
 a9:=Tryz.isAgg9
 z9:=Tryz.sizeOf9
 v9:=Tryz.zeroValue9
 t21:=Tryz.underlying21
 a21:=Tryz.isAgg21
 z21:=Tryz.sizeOf21
 v21:=Tryz.zeroValue21
 t37:=Tryz.underlying22
 a37:=Tryz.isAgg22
 z37:=Tryz.sizeOf22
 v37:=Tryz.zeroValue22
 t40:=Tryz.underlying75
 a40:=Tryz.isAgg75
 z40:=Tryz.sizeOf75
 v40:=Tryz.zeroValue75
 t46:=Tryz.underlying110
 a46:=Tryz.isAgg110
 z46:=Tryz.sizeOf110
 v46:=Tryz.zeroValue110
 t49:=Tryz.underlying127
 a49:=Tryz.isAgg127
 z49:=Tryz.sizeOf127
 v49:=Tryz.zeroValue127
 t51:=Tryz.underlying98
 a51:=Tryz.isAgg98
 z51:=Tryz.sizeOf98
 v51:=Tryz.zeroValue98
 t105:=Tryz.underlying102
 a105:=Tryz.isAgg102
 z105:=Tryz.sizeOf102
 v105:=Tryz.zeroValue102
 t119:=Tryz.underlying76
 a119:=Tryz.isAgg76
 z119:=Tryz.sizeOf76
 t138:=Tryz.underlying147
 a138:=Tryz.isAgg147
 z138:=Tryz.sizeOf147
 v138:=Tryz.zeroValue147
 t139:=Tryz.underlying148
 a139:=Tryz.isAgg148
 z139:=Tryz.sizeOf148
 v139:=Tryz.zeroValue148
 t141:=Tryz.underlying100
 a141:=Tryz.isAgg100
 z141:=Tryz.sizeOf100
 v141:=Tryz.zeroValue100
 t193:=Tryz.underlying123
 a193:=Tryz.isAgg123
 z193:=Tryz.sizeOf123
 v193:=Tryz.zeroValue123
 t194:=Tryz.underlying124
 a194:=Tryz.isAgg124
 z194:=Tryz.sizeOf124
 v194:=Tryz.zeroValue124
 t196:=Tryz.underlying126
 a196:=Tryz.isAgg126
 z196:=Tryz.sizeOf126
 v196:=Tryz.zeroValue126
 t198:=Tryz.underlying129
 a198:=Tryz.isAgg129
 z198:=Tryz.sizeOf129
 v198:=Tryz.zeroValue129
 t201:=Tryz.underlying132
 a201:=Tryz.isAgg132
 z201:=Tryz.sizeOf132
 v201:=Tryz.zeroValue132
 t226:=Tryz.underlying143
 a226:=Tryz.isAgg143
 z226:=Tryz.sizeOf143
 v226:=Tryz.zeroValue143
 t227:=Tryz.underlying144
 a227:=Tryz.isAgg144
 z227:=Tryz.sizeOf144
 v227:=Tryz.zeroValue144
 g0:=by kernel_rfl
 g3:=by kernel_rfl
 g4:=by kernel_rfl
 g6:=by kernel_rfl
theorem trimX:Space.Extra Tryz.prog trimR where
 gNamed:=by kernel_rfl
theorem vT {b:UInt8}(hb:isSp b=false):∀ {l:Bl},b∈l->b∈l.dropWhile isSp
 | c::l,h=>by
   rw[List.dropWhile_cons];split
   ·rename_i hc;rcases oG.1 h with rfl | h
    ·rw[hb]at hc;cases hc
    ·exact vT hb h
   ·exact h
theorem KJ {b:UInt8}(hb:isSp b=false){l:Bl}(h:b∈l):b∈trimSpace l:=
 mF.2 (vT hb (mF.2 (vT hb h)))
theorem Gg {w : World}(h : GlobIs w) : Lib.TabIs prog w "strings.asciiSpace" .u8 Lib.asciiSpaceTab := by obtain ⟨c,t,fz,I,hc⟩:=h.b (trimR.g 0,λc=>c=(Lib.asciiSpaceTab.map λn=>Value.int .u8 n).toArray) (by simp [Dj,trimR]);unfold Lib.TabIs World.var?;rw [trimX.gNamed];simp only [oI,I];exact oT some hc
theorem MT (s:ByteArray)(hs:s.size<=1073741824)(Z:∀ c∈bl s,c.toNat<128){b:UInt8}(hb:b∈bl s)(O:isSp b=false)(N:Nat)(Q:QT [.str])(hQ:∀ z N',N<=N'->z≠bytes []->Q z N'):ACalls prog 21 [.str] [.str s] N Q:=
 ⟨by kernel_rfl,λav w0 hN U _=>(Any.strings_TrimSpace OC trimX s w0 (by omega) (λj c h=>Z c (oB h)) (Gg U.g)).mono λe w ⟨he,hw⟩=>by
  subst he;subst hN;have I:RowKit.Below w0.heap.size w0 w:=hw ▸ Lib.bytesWorld_below _ _ _;have V:(⟨(Lib.trimSpace s.data.toList).toArray⟩:ByteArray)≠bytes []:=λh=>by have J:=KJ O hb;rw[show trimSpace (bl s)=[]from oT bl h]at J;cases J
  refine⟨[.str ⟨(Lib.trimSpace s.data.toList).toArray⟩],[],[],?_⟩;exact { q:=hQ _ _ I.size V,v:=rfl,m:=⟨rfl,by simp,by simp,by simp,λk j b h=>by obtain⟨_,J,_⟩:=h;simp[Env.at]at J⟩,ok:=λp Y=>by simp at Y;subst Y;trivial,fresh:=λk b h=>by simp[Env.at]at h,size:=I.size,old:=λb hb=>I.block b hb,fz:=λ_ _ _ _ _ _=>trivial,ku:=⟨I.os,I.output⟩ }⟩
end YtidiofobanefmaaGreatDoor
end Go.Proofs
set_option maxRecDepth 100000
namespace Go.Proofs.YtidiofobanefmaaGreatDoor
open Go Go.Proofs Go.Proofs.Tryz Go.IntWalk
def An (s:ByteArray):Prop:=∀ c∈bl s,c.toNat<128
theorem zE {a b:ByteArray}(I:An a)(hb:An b):An (a++b):=λc hc=>by
 have h:c∈bl a++bl b:=by rw[<-zK];exact hc
 rcases oO.1 h with h | h
 ·exact I c h
 ·exact hb c h
theorem ML {s:ByteArray}(h:∀ b∈bl s,idC b=true):An s:=λc hc=>by
 have:=h c hc
 simp only[idC,oc]at this;omega
theorem EY {s:ByteArray}(h:xf s=true):An s:=ML (nmL h).id
theorem K2 {t:Ty}(O:Wf t):An (Ap t):=by
 induction O with
 | int=>unfold An;decide
 | bool=>unfold An;decide
 | fn _ _ I J=>rw[Aq];exact zE (zE (zE (zE (by unfold An;decide) I) (by unfold An;decide)) J) (by unfold An;decide)
 | code _ I=>rw[uh];exact zE (zE (by unfold An;decide) I) (by unfold An;decide)
theorem FX {b:ByteArray}(hb:An b):∀ {l:List ByteArray},(∀ s∈l,An s)->An (uH b l)
 | [],_=>by intro c hc;cases hc
 | s::l,h=>zE (zE hb (h s (by simp))) (FX hb λx I=>h x (by simp[I]))
theorem I5 {b:ByteArray}(hb:An b):∀ {l:List ByteArray},(∀ s∈l,An s)->An (xt b l)
 | [],_=>by intro c hc;cases hc
 | s::l,h=>zE (h s (by simp)) (FX hb λx I=>h x (by simp[I]))
theorem HE {l:List ByteArray}(h:∀ s∈l,An s)(i:Nat):An (l.getD i (bytes [])):=by
 rw[oA];cases e:l[i]? with
 | none=>intro c hc;cases hc
 | some s=>exact h s (oB e)
theorem NR {nm:ByteArray}(h:rW nm=2):An nm:=by
 unfold rW at h
 (repeat' split at h)<;>first | (exfalso;revert h;decide) | (rename_i e;rw[e];unfold An;decide)
theorem tc {l:List Nat}(h:(l.map UInt8.ofNat).all (λc=>decide (c.toNat<128))=true):An (bytes l):=λc hc=>by
 have:=oW.1 h c hc
 simpa using this
theorem OD:∀ t:Tm,t.ok=true->An t.tx:=by
 refine Tm.ind λk nm ot n ty re l ih U=>?_;have nd:=Ey U;have nz:=Jw nd;have J:=nd.ar;have sub:∀ s∈txs l,An s:=λs hs=>by
  have key:∀ l':List Tm,(∀ t∈l',t∈l)->s∈txs l'->An s:=by
   intro l'
   induction l' with
   | nil=>intro _ h;cases h
   | cons x l' V=>
     intro Y h;rcases oG.1 h with rfl | h
     ·exact ih x (Y x (by simp)) (nd.sub x (Y x (by simp)))
     ·exact V (λt ht=>Y t (by simp[ht])) h
  exact key l (λ_ h=>h) hs
 have O:k=1\/k=6\/k=8->An nm:=λh=>by
  have:=nz.nm
  simp only[yT]at this;rw[if_neg (by omega),if_pos h]at this;exact EY (by simp at this;exact this.1)
 have g0:=HE sub 0;have g1:=HE sub 1;have Z:=I5 (b:=bytes [32]) (tc (by decide)) sub;simp only[Tm.tx];rcases nd.kind with rfl | rfl | rfl | rfl | rfl | rfl | rfl | rfl | rfl | rfl | rfl | rfl | rfl
 ·rw[Lh];exact O (.inl rfl)
 ·rw[Li];exact ML λb hb=>Dd (vQ _ b hb)
 ·rw[Lj];refine zE (tc (by decide)) ?_;split<;>exact tc (by decide)
 ·rw[Jx];split
  ·exact zE (zE (tc (by decide)) g0) (tc (by decide))
  ·rename_i h1;rcases nd.op rfl with h | h
   ·obtain⟨a,rfl⟩:=uX h;exact absurd rfl h1
   ·have J:(l.length:Int)=rW nm:=J;have hn:=NR (show rW nm=2 by rw[<-J,h];rfl);exact zE (zE (zE (zE (tc (by decide)) g0) hn) g1) (tc (by decide))
 ·rw[Lk];exact zE (zE (tc (by decide)) Z) (tc (by decide))
 ·rw[Ll];exact zE (zE (zE (zE (zE (zE (tc (by decide)) (O (.inr (.inl rfl)))) (tc (by decide))) (K2 (zk (nd.vt (.inl rfl))).1)) (tc (by decide))) g0) (tc (by decide))
 ·rw[Lm];exact zE (zE (tc (by decide)) Z) (tc (by decide))
 ·rw[Ln];exact zE (zE (zE (zE (tc (by decide)) (O (.inr (.inr rfl)))) (tc (by decide))) Z) (tc (by decide))
 ·have I:=nz.nm;simp only[yT]at I;rw[if_neg (by decide),if_neg (by decide),if_pos trivial]at I;simp only[oL]at I;obtain⟨h1,h2, -⟩:=I;rw[Lo];exact zE (zE (zE (zE (zE (zE (zE (zE (zE (zE (tc (by decide)) (EY h1)) (tc (by decide))) (EY h2)) (tc (by decide))) (K2 (zk (nd.vt (.inr rfl))).1)) (tc (by decide))) (K2 (zk (nd.vr rfl)).1)) (tc (by decide))) g0) (tc (by decide))
 ·rw[E2];exact zE (zE (tc (by decide)) g0) (tc (by decide))
 ·rw[E3];exact zE (tc (by decide)) g0
 ·rw[E4];exact zE (zE (tc (by decide)) g0) (tc (by decide))
 ·rw[E5];exact zE (zE (tc (by decide)) g0) (tc (by decide))
theorem Lz {t:Tm}(h:t.ok=true):∃ b∈bl t.tx,Lib.isSp b=false:=by
 cases t with
 | mk k nm ot n ty re l=>
 have nd:=Ey h;have O:=Jw nd;simp only[Tm.tx];have hd:∀ {c:UInt8} {p:Bl} {s:ByteArray},bl s=c::p->Lib.isSp c=false->∃ b∈bl s,Lib.isSp b=false:=λe hc=>⟨_,by rw[e];simp,hc⟩
 have I:∀ c:UInt8,idC c=true->Lib.isSp c=false:=λc hc=>by
  cases e:Lib.isSp c with
  | false=>rfl
  | true=>simp only[Lib.isSp,ny,mH]at e;rcases e with((((rfl | rfl) | rfl) | rfl) | rfl) | rfl<;>exact absurd hc (by decide)
 rcases nd.kind with rfl | rfl | rfl | rfl | rfl | rfl | rfl | rfl | rfl | rfl | rfl | rfl | rfl
 ·rw[Lh];have J:xf nm=true:=by have:=O.nm;simp[yT]at this;exact this.1
  obtain⟨b,w,e,_⟩:=(nmL J).hd;exact hd e (I b ((nmL J).id b (by rw[e];simp)))
 ·rw[Li];obtain⟨b,w,e⟩:=Dc n.toNat;exact hd (s:=JW n.toNat) e (I b (Dd (vQ _ b (by rw[e];simp))))
 ·rw[Lj];exact hd (c:=35) (by simp only[bl,zK];rfl) (by decide)
 ·rw[Jx];split<;>exact hd (c:=40) (by simp only[bl,zK,oM];rfl) (by decide)
 ·rw[Lk];exact hd (c:=40) (by simp only[bl,zK,oM];rfl) (by decide)
 ·rw[Ll];exact hd (c:=40) (by simp only[bl,zK,oM];rfl) (by decide)
 ·rw[Lm];exact hd (c:=40) (by simp only[bl,zK,oM];rfl) (by decide)
 ·rw[Ln];exact hd (c:=40) (by simp only[bl,zK,oM];rfl) (by decide)
 ·rw[Lo];exact hd (c:=40) (by simp only[bl,zK,oM];rfl) (by decide)
 ·rw[E2];exact hd (c:=60) (by simp only[bl,zK,oM];rfl) (by decide)
 ·rw[E3];exact hd (c:=126) (by simp only[bl,zK,oM];rfl) (by decide)
 ·rw[E4];exact hd (c:=40) (by simp only[bl,zK,oM];rfl) (by decide)
 ·rw[E5];exact hd (c:=40) (by simp only[bl,zK,oM];rfl) (by decide)
def vtx (t:Tm):ByteArray:=if t.vd=true then t.tx else bytes []
theorem rF {t:Tm}(h:t.vd=true):t.ok=true/\t.sz<=80/\t.dp<=20:=by simp only[Tm.vd,oL,oc]at h;exact⟨h.2,h.1.1,h.1.2⟩
theorem xi {t:Tm}{d:D}(hd:t.Is d)(hc:t.cnt<=1073741824):wT 6 [.dg 9 d] (vtx t):=λN Q J=>qO N d Q λ_ N1 O=>sP t d hd hc N1 _ λN2 U _=>Br.not (λI N3 V=>Qst (J _ (by omega)) (by rw[vtx,if_neg (by rw[I];decide)])) λI Y Z=>KY t (rF I).1 (by have:=(rF I).2.1;omega) d hd Y _ λN5 aa _ N6 ab=>Qst (J _ (by omega)) (by rw[vtx,if_pos I])
theorem yS {t:Tm}{d:D}(hd:t.Is d)(hc:t.cnt<=1073741824):wT 8 [.dg 9 d] (vtx t):=λN Q J=>qS N d Q λ_ N1 O=>xQ t d hd hc N1 _ λN2 U _=>Br.not (λI N3 V=>Qst (J _ (by omega)) (by rw[vtx,if_neg (by rw[I];decide)])) λI Y Z=>Fa t (rF I).1 (by have:=(rF I).2.1;omega) d hd Y _ λN5 aa _ N6 ab=>Qst (J _ (by omega)) (by rw[vtx,if_pos I])
end Go.Proofs.YtidiofobanefmaaGreatDoor
set_option maxRecDepth 100000
namespace Go.Proofs.YtidiofobanefmaaGreatDoor
open Go Go.Proofs Go.Proofs.Tryz Go.IntWalk
theorem wx (sp:Bool){t:Tm}(h:t.vd=true){s:ByteArray}(e:t.tx=s):xz sp 20 (bl s)=some (t,[]):=by
 obtain⟨I,_,J⟩:=rF h
 have:=Nv sp t I 20 J [] (λb r h=>by cases h)
 rw[nh]at this;rw[<-e];exact this
theorem Ks (sp:Bool):xz sp 20 []=none:=by simp[xz,pre,EV]
theorem K0 {sp:Bool}{t:Tm}{s:ByteArray}{r:Bl}(I:xz sp 20 (bl s)=some (t,r))(e:vtx t=s):t.vd=true/\t.tx=s:=by
 unfold vtx at e;split at e
 ·rename_i h;exact⟨h,e⟩
 ·rw[<-e]at I;have J:=Ks sp;rw[show bl (bytes [])=[]from rfl,J]at I;cases I
theorem IS {sp:Bool}{t:Tm}{l r:Bl}(I:xz sp 20 l=some (t,r)):t.cnt<=3*l.length+3:=by
 have:=(Kv sp 20 I).1
 omega
def OF (f:FuncId)(s:ByteArray):Prop:=∀(N:Nat) (Q:QT [.ag 9,.bool]) (_:∀(t:Tm) d N',N<=N'->t.vd=true->t.tx=s->t.Is d->Q d true N') (_:∀ d N',N<=N'->(∀ t:Tm,t.vd=true->t.tx≠s)->Q d false N'),ACalls prog f [.ag 9,.bool] [.str s] N Q
theorem ve (s:ByteArray)(hs:s.size<=300000000):OF 7 s:=λN Q h1 Z=>by
 have hl:=xN s;refine qy N s Q λN1 ab=>Mh MS 20 (by omega) 0 (by omega) s N1 _ (by omega) λx b s' N2 ac O _ _=>?_;cases O with
 | no J U=>exact Br.of (λ_ N3 ae=>Z _ _ (by omega) λt I e=>by rw[wx false I e]at J;cases J) λh=>by cases h
 | @ok t _ _ J O U=>
   have hc:=IS J;refine Br.of (λh=>by cases h) λ_ N4 ah=>xi O (by omega) N4 _ λN5 ai _=>Br.nstr (λV N6 aj=>Z _ _ (by omega) λt' I e=>?_) λhe N7 ak=>?_
   ·have:=wx false I e
    rw[J]at this;simp only[oZ,mo]at this;obtain⟨rfl,_⟩:=this;exact V (by rw[vtx,if_pos I];exact e)
   ·obtain⟨I,e⟩:=K0 J he;obtain⟨b,hb,Y⟩:=Lz (rF I).1;have ha:=OD t (rF I).1;rw[e]at hb ha;exact MT s (by omega) ha hb Y N7 _ λz N8 al hz _=>Br.str (λh=>absurd h hz) λ_ ao aa=>h1 t x _ (by omega) I e O
theorem vf (s:ByteArray)(hs:s.size<=300000000):OF 13 s:=λN Q Z V=>by
 have hl:=xN s;refine q8 N s Q λN1 aa=>Mr 20 (by omega) 1 (by omega) s 0 (bl s) false N1 _ ⟨by omega,by omega,by omega,rfl⟩ λx n' b' N2 ab U _ _=>?_;cases U with
 | no J Y=>exact Br.of (λ_ N3 ac=>V _ _ (by omega) λt I e=>by rw[wx true I e]at J;rcases J with h | h<;>cases h) λh=>by cases h
 | @ok t r _ _ _ J U Y=>
   have hc:=IS J;refine Br.of (λh=>by cases h) λ_=>Br.bne (λO N4 ae=>V _ _ (by omega) λt' I e=>?_) λhn N5 ah=>yS U (by omega) N5 _ λN6 ai _=>Br.nstr (λO N7 aj=>V _ _ (by omega) λt' I e=>?_) λhe N8 ak=>?_
   ·have:=wx true I e
    rw[J]at this;cases this;exact O (Y.nil.1 rfl)
   ·have:=wx true I e
    rw[J]at this;cases this;exact O (by rw[vtx,if_pos I];exact e)
   ·obtain⟨I,e⟩:=K0 J he;exact Z t x _ (by omega) I e U
end Go.Proofs.YtidiofobanefmaaGreatDoor
