/- Reading texts: the program's reader: names, types, parts. -/
import Derived.Test.YtldbmnklnpfpfaaGreatDoorKf
import Derived.Test.YtldbmnklnpfpfaaGreatDoorA5
import Derived.Test.YtldbmnklnpfpfaaGreatDoorB2
import Derived.Defers
import Derived.Shelf.Strconv.AtoiAll
import Derived.Shelf.Strings.TrimSpace
import Derived.Test.YtldbmnklnpfpfaaGreatDoorA9
set_option linter.unusedVariables false
set_option linter.unusedSimpArgs false
set_option maxRecDepth 100000
namespace Go.Proofs.YtldbmnklnpfpfaaGreatDoor
open Go Go.Proofs Go.Proofs.Tryz Go.IntWalk
theorem y9 {s:ByteArray} (hs:s.size<=1073741824) (t:ByteArray) (n:Int) (N:Nat) (Q:QT [.bool,.str,.i])
  (h1:∀ r N',N<=N'->pre (bl t) (bl s)=some (bl r)->r.size<=1073741824->Q true r n N') (Y:∀ N',N<=N'->pre (bl t) (bl s)=none->Q false s n N') :
  BCalls prog 38 [.bool,.str,.i] [.pb 0 0 0 0,.str t] [.var [.str s,.j n]] N Q:=by
 refine tM N t s n Q λE N1 aa=>tn N1 s t _ λN2 ab=>xY N2 s t _ λN3 ac=>xZ N3 s t _ (Br.dec (λhg=>⟨⟨by omega,by omega,by omega⟩,λN4 V _=>Br.nstr (λhn Z I _ N6 J _=>⟨zn,λN7 O=>Y _ (by omega) ?_⟩) λhe=>⟨⟨by omega,by omega,by omega⟩,λZ I _ N6 J _=>⟨zn,λN7 O=>h1 _ _ (by omega) ?_ ?_⟩⟩⟩) λhg N4 V _=>Br.of (λ_ Z I _ N6 J _=>⟨zn,λN7 O=>Y _ (by omega) (Hz (by rw[xM,xM];omega))⟩) λh=>by cases h)
 ·cases U:pre (bl t) (bl s)with
  | none=>rfl
  | some r=>exact absurd (zZ (by rw[ur];show((bl s).drop 0).take _=_;rw[List.drop_zero,show((t.size:Int)).toNat - 0=(bl t).length by rw[xM];omega];exact pJ.2 ⟨r,U⟩)) hn
 ·have e:(bl s).take (bl t).length=bl t:=by
   have:=oN bl he
   rw[<-this];show _=(ByteArray.extract s 0 _).data.toList;rw[ur,List.drop_zero,this,xM];simp
  obtain⟨r,U⟩:=pJ.1 e;rw[U];congr 1;show r=(ByteArray.extract s _ _).data.toList;rw[ur];have h2:bl s=bl t++r:=zg U;have h3:=oN List.length h2;rw[oK,xM,xM]at h3;show r=((bl s).drop _).take _;rw[h2,show((t.size:Int)).toNat=(bl t).length by rw[xM];omega,List.drop_left,nk];rw[xM];omega
 ·rw[ms];omega
theorem Dk {s:ByteArray} (hs:s.size<=1073741824) (n:Int) (N:Nat) (Q:QT [.str,.str,.i])
  (hQ:∀ r N',N<=N'->bl r=(word (bl s)).2->r.size<=1073741824->Q ⟨(word (bl s)).1.toArray⟩ r n N'):BCalls prog 42 [.str,.str,.i] [.pb 0 0 0 0] [.var [.str s,.j n]] N Q:=by
 refine w6 N s n Q λE=>?_;have hr:Atl s 0 (bl s):=⟨hs,by omega,by omega,rfl⟩
 have key:∀(l1 p:Bl) (k:Int),Atl s k l1->bl s=p++l1->k=p.length->(∀ c∈p,idC c=true)->zC E Q N k s n N:=by
  intro l1;have out:∀(l1 p:Bl) (k:Int),Atl s k l1->bl s=p++l1->k=p.length->(∀ c∈p,idC c=true)->Stop l1->((0:Int)<=(0:Int)/\0<=k/\k<=(s.size:Int))/\(0<=k/\k<=(s.size:Int)/\(s.size:Int)<=(s.size:Int))/\zO E [.var [.str (bytes []),.j 0]]/\∀ N1,N<=N1->Q (ByteArray.extract s 0 k.toNat) (ByteArray.extract s k.toNat ((s.size:Int)).toNat) n N1:=λl1 p k I J Y O aa=>by
   have Z:=I.lo;have k2:=I.hi;refine⟨⟨by omega,Z,k2⟩,⟨Z,k2,by omega⟩,zn,λN1 ab=>?_⟩;have hw:word (bl s)=(p,l1):=by rw[J];exact pM p l1 O aa
   have hx:ByteArray.extract s 0 k.toNat=⟨p.toArray⟩:=zZ (by
    have:=hr.ext p.length (m:=k) (by omega)
    rw[J,List.take_left]at this;exact this)
   rw[hx]
   have:=hQ (ByteArray.extract s k.toNat ((s.size:Int)).toNat) N1 ab (by
    rw[hw];show(ByteArray.extract s _ _).data.toList=l1;rw[ur,I.eq,nk]
    have:=I.len
    omega) (by rw[ms];omega)
   rw[hw]at this;exact this
  induction l1 with
  | nil=>
    intro p k I J Y O
    have:=(I.nil).1 rfl
    exact y3 _ _ _ _ _ _ _ (Br.dec (λh=>by omega) λ_=>out _ p k I J Y O λc r e=>by cases e)
  | cons c l1 ih=>
    intro p k I J Y O;have hg:=I.get;have V:=I.len;have Z:=I.lo;simp only[oR]at V;have U:0<=k/\k<(s.size:Int):=⟨Z,by omega⟩
    have nx:idC c=true->zC E Q N (IntKind.i64.wrap (k+1)) s n N:=λhc=>by
     rw[i64_in (k+1) (by omega)];refine ih (p++[c]) (k+1) (I.app (p:=[c]) rfl rfl) (by rw[J,oL];rfl) (by rw[oK];simp only[oR,o5];omega) λx hx=>?_;rcases oP.1 hx with hx | hx
     ·exact O x hx
     ·rw[nG.1 hx];exact hc
    have ot:idC c=false->_:=λhc=>out _ p k I J Y O (xW hc l1);have ci:∀ P:Prop,(idC c=true->P)->(48<=c.toNat/\c.toNat<=57\/97<=c.toNat/\c.toNat<=122)->P:=λP h g=>h (by unfold idC;exact mB g);have cn:∀ P:Prop,(idC c=false->P)->¬(48<=c.toNat/\c.toNat<=57\/97<=c.toNat/\c.toNat<=122)->P:=λP h g=>h (by unfold idC;exact nq g);refine y3 _ _ _ _ _ _ _ (Br.dec (λ_=>?_) λh=>by omega);rw[hg];exact⟨U,Br.dec (λa1=>⟨U,Br.dec (λa2=>ci _ nx (by omega)) λa2=>⟨U,Br.dec (λa3=>⟨U,Br.dec (λa4=>ci _ nx (by omega)) λa4=>cn _ ot (by omega)⟩) λa3=>cn _ ot (by omega)⟩⟩) λa1=>⟨U,Br.dec (λa3=>⟨U,Br.dec (λa4=>ci _ nx (by omega)) λa4=>cn _ ot (by omega)⟩) λa3=>cn _ ot (by omega)⟩⟩
 exact key (bl s) [] 0 hr rfl rfl (by simp)
structure It (N N':Nat) (j:Nat) (l:Bl) (d:D) (b:Bool) (s':ByteArray):Prop where
 is:∃ t:Ty,t.Is d/\t.cnt+1<=2 ^ (j+1)/\(b=true->wJ j l=some (t,bl s'))
 no:b=false->wJ j l=none
 sz:s'.size<=1073741824
 ow:Own N N' d
theorem HR (a b:Ty):(DJ a b).cnt=a.cnt+b.cnt+1:=by simp[DJ,Ty.cnt,zG];try omega
theorem CW (a:Ty):(v7 a).cnt=a.cnt+1:=by simp[v7,Ty.cnt,zG];try omega
theorem It.zero {N N' j:Nat}{l:Bl}{s':ByteArray}(h:wJ j l=none)(hs:s'.size<=1073741824):It N N' j l (.ag [.j 0,.sl none 2 [] 0]) false s':=
 ⟨⟨tZero,uI 0,by rw[mr];have:=Nat.one_le_two_pow (n:=j);show 1+1<=_;omega,by simp⟩,λ_=>h,hs,qD⟩
theorem Hg:∀(j:Nat),j<=8->∀ {s:ByteArray} (_:s.size<=1073741824) (n:Int) (N:Nat) (Q:QT [.ag 2,.bool,.str,.i])
  (_:∀ d b s' N',N<=N'->It N N' j (bl s) d b s'->Q d b s' n N'),BCalls prog 104 [.ag 2,.bool,.str,.i] [.pb 0 0 0 0,.j j] [.var [.str s,.j n]] N Q:=by
 intro j
 induction j with
 | zero=>intro _ s hs n N Q I;exact yj N _ s n Q λE=>Br.beq (λ_=>⟨zn,λN1 a1=>I _ _ _ _ a1 (.zero rfl hs)⟩) λh=>absurd rfl h
 | succ j ih=>
   intro hj s hs n N Q I;have e1:IntKind.i64.wrap (((j+1:Nat):Int) - 1)=j:=by rw[i64_in _ (by omega)];omega
   have pw:2 ^ (j+1+1)=2 ^ (j+1)+2 ^ (j+1):=by rw[mr];omega
   have pl:2 ^ (j+1)<=512:=o8 (ma (by omega) (show j+1<=9 by omega)) (by decide);have pg:2<=2 ^ (j+1):=by rw[mr];have:=Nat.one_le_two_pow (n:=j);omega
   refine yj N _ s n Q λE=>Br.beq (λh=>by omega) λ_ N2 bg=>y9 hs _ n N2 _ (λr N3 a6 hp hr _=>Br.of (λ_ N4 a7=>Ks N4 _ λd N5 ak hd ow _ _=>⟨zn,λN6 al=>I _ _ _ _ (by omega) ⟨⟨tInt,hd,by show 1+1<=_;omega,λ_=>by rw[show bl s=[73]++bl r from zg hp];exact KZ j _⟩,by simp,hr,ow.mono (by omega) (by omega)⟩⟩) λh=>by cases h) λN3 a6 h1 _=>Br.of (λh=>by cases h) λ_ N4 a7=>?_;refine y9 hs _ n N4 _ (λr N5 ak hp hr _=>Br.of (λ_ N6 al=>I2 N6 _ λd N7 ao hd ow _ _=>⟨zn,λN8 aq=>I _ _ _ _ (by omega) ⟨⟨tBool,hd,by show 1+1<=_;omega,λ_=>by rw[show bl s=[66]++bl r from zg hp];exact KW j _⟩,by simp,hr,ow.mono (by omega) (by omega)⟩⟩) λh=>by cases h) λN5 ak h2 _=>Br.of (λh=>by cases h) λ_ N6 al=>?_;refine y9 hs _ n N6 _ (λr N7 ao hp hr _=>Br.of (λ_ N8 aq=>?_) λh=>by cases h) λN7 ao h3 _=>Br.of (λh=>by cases h) λ_ N8 aq=>?_
   ·have em:wJ (j+1) (bl s)=(wJ j (bl r)).bind λx=>(pre [62] x.2).bind λr=>(wJ j r).bind λy=>(pre [41] y.2).map λr=>(DJ x.1 y.1,r):=by rw[show bl s=[40]++bl r from zg hp];exact KY j _
    rw[e1];refine ih (by omega) hr n N8 _ λd b s1 N9 au hd _ _=>?_;obtain⟨t,ht,a8,hm⟩:=hd.is;refine Br.not (λhb=>⟨zn,λJ O=>I _ _ _ _ (by omega) (.zero (by rw[em,hd.no hb];rfl) hd.sz)⟩) λhb J O=>?_;rw[hm hb,oI]at em;refine y9 hd.sz _ n J _ (λr2 aw aa hq ba _=>Br.of (λh=>by cases h) λ_ Y ab=>?_) λaw aa hq _=>Br.of (λ_=>⟨zn,λY ab=>I _ _ _ _ (by omega) (.zero (by rw[em,show pre [62] (t,bl s1).2=none from hq];rfl) hd.sz)⟩) λh=>by cases h
    rw[show pre [62] (t,bl s1).2=some (bl r2)from hq,oI]at em;refine ih (by omega) ba n Y _ λe b2 s2 bb ax he _ _ Z ac=>?_;obtain⟨u,hu,bh,bc⟩:=he.is;refine Kr t u d e ht hu (by omega) (by omega) Z _ λz bi bd hz ow _ _=>Br.of (λae ay az=>?_) λae=>⟨zn,λay az=>I _ _ _ _ (by omega) ⟨⟨_,hz,by rw[HR];omega,by simp⟩,λ_=>by rw[em,he.no ae];rfl,he.sz,ow.mono (by omega) (by omega)⟩⟩
    rw[bc ae,oI]at em;exact y9 he.sz _ n ay _ (λr3 ah U hv ai _=>⟨zn,λaj V=>I _ _ _ _ (by omega) ⟨⟨_,hz,by rw[HR];omega,λ_=>by rw[em,show pre [41] (u,bl s2).2=some (bl r3)from hv];rfl⟩,by simp,ai,ow.mono (by omega) (by omega)⟩⟩) λah U hv _=>⟨zn,λaj V=>I _ _ _ _ (by omega) ⟨⟨_,hz,by rw[HR];omega,by simp⟩,λ_=>by rw[em,show pre [41] (u,bl s2).2=none from hv];rfl,he.sz,ow.mono (by omega) (by omega)⟩⟩
   ·refine y9 hs _ n N8 _ (λr N9 au hp hr _=>Br.of (λ_ J O=>?_) λh=>by cases h) λN9 au h4 _=>Br.of (λh=>by cases h) λ_=>⟨zn,λJ O=>I _ _ _ _ (by omega) (.zero ?_ hs)⟩
    ·have em:wJ (j+1) (bl s)=(wJ j (bl r)).bind λx=>(pre [62] x.2).map λr=>(v7 x.1,r):=by rw[show bl s=[60]++bl r from zg hp];exact KX j _
     rw[e1];refine ih (by omega) hr n J _ λd b s1 aw aa hd _ _ Y ab=>?_;obtain⟨t,ht,a8,hm⟩:=hd.is;refine I3 t d ht (by omega) Y _ λz bb ax hz ow _ _=>Br.of (λhb Z ac=>?_) λhb=>⟨zn,λZ ac=>I _ _ _ _ (by omega) ⟨⟨_,hz,by rw[CW];omega,by simp⟩,λ_=>by rw[em,hd.no hb];rfl,hd.sz,ow.mono (by omega) (by omega)⟩⟩
     rw[hm hb,oI]at em;exact y9 hd.sz _ n Z _ (λr3 ah U hv ai _=>⟨zn,λaj V=>I _ _ _ _ (by omega) ⟨⟨_,hz,by rw[CW];omega,λ_=>by rw[em,show pre [62] (t,bl s1).2=some (bl r3)from hv];rfl⟩,by simp,ai,ow.mono (by omega) (by omega)⟩⟩) λah U hv _=>⟨zn,λaj V=>I _ _ _ _ (by omega) ⟨⟨_,hz,by rw[CW];omega,by simp⟩,λ_=>by rw[em,show pre [62] (t,bl s1).2=none from hv];rfl,hd.sz,ow.mono (by omega) (by omega)⟩⟩
    ·simp only[wJ,show pre [73] (bl s)=none from h1,show pre [66] (bl s)=none from h2,show pre [60] (bl s)=none from h4,show pre [40] (bl s)=none from h3];rfl
end Go.Proofs.YtldbmnklnpfpfaaGreatDoor
set_option maxRecDepth 100000
namespace Go.Proofs.YtldbmnklnpfpfaaGreatDoor
open Go Go.Proofs Go.Proofs.Tryz Go.IntWalk
inductive Ri {α:Type} (is:α->D->Prop) (m:Option (α × Bl)):D->Bool->ByteArray->Prop
 | ok {t:α} {d:D} {s':ByteArray}:m=some (t,bl s')->is t d->s'.size<=1073741824->Ri is m d true s'
 | no {d:D} {s':ByteArray}:m=none->s'.size<=1073741824->Ri is m d false s'
theorem Ri.mono {α:Type}{is I:α->D->Prop}{m:Option (α × Bl)}{d:D}{b:Bool}{s':ByteArray}(h:Ri is m d b s')(hi:∀ t,is t d->I t d):Ri I m d b s':=by
 cases h with
 | ok J O U=>exact .ok J (hi _ O) U
 | no J O=>exact .no J O
def TO (N N':Nat)(t:Tm)(d:D):Prop:=t.Is d/\Own N N' d
theorem Ri.up {N N' M I:Nat}{m:Option (Tm × Bl)}{d:D}{b:Bool}{s':ByteArray}(h:Ri (TO N N') m d b s')(O:M<=N)(U:N'<=I):Ri (TO M I) m d b s':=
 h.mono λt J=>⟨J.1,J.2.mono O U⟩
def DO (dp:Int)(T:Bl->Option (Tm × Bl)):Prop:=∀(s:ByteArray) (N:Nat) (Q:QT [.ag 9,.bool,.str,.i]),s.size<=1073741824->(∀ d b s' N',N<=N'->Ri (TO N N') (T (bl s)) d b s'->Q d b s' dp N')->BCalls prog 14 [.ag 9,.bool,.str,.i] [.pb 0 0 0 0] [.var [.str s,.j dp]] N Q
theorem G8 (T:Bl->Option (Tm × Bl))(b e l:Bl):y8 T b e 1 true l=(T l).bind λx=>(y8 T b e 0 true x.2).map λy=>(x.1::y.1,y.2):=by simp only[y8,nu,oI]
theorem G9 (T:Bl->Option (Tm × Bl))(b e l:Bl)(j:Nat):y8 T b e (j+2) true l=(T l).bind λx=>(pre b x.2).bind λr=>(y8 T b e (j+1) true r).map λy=>(x.1::y.1,y.2):=by
 simp only[y8,nu,oI,nh,nO];cases T l with
 | none=>rfl
 | some x=>
   simp only[oI];cases pre b x.2 with
   | none=>rfl
   | some r=>rfl
structure Ia (N N':Nat) (T:Bl->Option (Tm × Bl)) (by_ e:Bl) (k:Nat) (l:Bl) (a:Option Addr) (es:List D) (c:Nat) (b:Bool) (s':ByteArray):Prop where
 ok:b=true->∃ ts,y8 T by_ e k true l=some (ts,bl s')/\All2 Tm.Is ts es
 no:b=false->y8 T by_ e k true l=none
 sz:s'.size<=1073741824
 len:es.length<=3
 ow:Own N N' (.sl a 9 es c)
theorem Cg {N N' z c:Nat}:Own N N' (.sl none z [] c):=⟨by simp[D.foot,zA],⟨by simp,trivial⟩,by simp[D.foot,zA],by simp[D.foot,zA]⟩
theorem LA {dp:Int} {T:Bl->Option (Tm × Bl)} (hT:DO dp T) (by_ e:ByteArray) (k:Nat) (hk:k<=3) {s:ByteArray} (hs:s.size<=1073741824) (N:Nat) (Q:QT [.sl 9,.bool,.str,.i])
  (hQ:∀ a es c b s' N',N<=N'->Ia N N' T (bl by_) (bl e) k (bl s) a es c b s'->Q a es c b s' dp N'):BCalls prog 73 [.sl 9,.bool,.str,.i] [.pb 0 0 0 0,.j (k:Int),.str by_,.str e] [.var [.str s,.j dp]] N Q:=by
 refine wV N k by_ e s dp Q λE=>?_;have e1:IntKind.i64.wrap ((k:Int) - 1)=k - 1:=i64_in _ (by omega);have ab:∀(es:List D) (x:D),es.length<=10->zK es [x] 136:=λes x h=>by unfold zK;rw[oK];simp only[oR,o5];omega
 have key:∀(j i:Nat) (s1:ByteArray) (ts:List Tm) (es:List D) (q N':Nat),i+j=k->s1.size<=1073741824->y8 T (bl by_) (bl e) k true (bl s)=(y8 T (bl by_) (bl e) j true (bl s1)).map (λy=>(ts++y.1,y.2))->All2 Tm.Is ts es->es.length=i->OwnL N N' es->N<=N'->zM E Q N k by_ e es.length q k i s1 dp es q N':=by
  intro j
  induction j with
  | zero=>
    intro i s1 ts es q N' hi U em V hl I ac;refine yc _ _ _ _ _ _ _ _ _ _ _ _ _ _ _ (Br.dec (λh=>by omega) λ_ N1 Z=>y9 U _ _ N1 _ (λr N2 Y hp hr _=>⟨⟨rfl,rfl⟩,⟨rfl,rfl⟩,⟨rfl,rfl⟩,λa N3 aa hf=>⟨zn,λN4 J=>hQ _ _ _ _ _ _ (by omega) ⟨λ_=>⟨ts,?_,V⟩,by simp,hr,by omega,(Bw I hf (by omega)).mono (oG _) J⟩⟩⟩) λN2 Y hp _=>⟨⟨rfl,rfl⟩,⟨rfl,rfl⟩,⟨rfl,rfl⟩,λa N3 aa hf=>⟨zn,λN4 J=>hQ _ _ _ _ _ _ (by omega) ⟨by simp,λ_=>?_,U,by omega,(Bw I hf (by omega)).mono (oG _) J⟩⟩⟩)
    ·rw[em];simp only[y8];rw[hp];simp
    ·rw[em];simp only[y8];rw[hp];rfl
  | succ j ih=>
    intro i s1 ts es q N' hi U em V hl I ac;refine yc _ _ _ _ _ _ _ _ _ _ _ _ _ _ _ (Br.dec (λ_ N1 Z=>hT s1 N1 _ U λx b s2 N2 Y hx _ _=>?_) λh=>by omega);have e2:IntKind.i64.wrap ((i:Int)+1)=((i+1:Nat):Int):=by rw[i64_in _ (by omega)];omega
    cases hx with
    | no hm O=>
      refine Br.of (λ_=>⟨zn,λN3 aa=>hQ _ _ _ _ _ _ (by omega) ⟨by simp,λ_=>?_,O,by simp,Cg⟩⟩) λh=>by cases h
      rw[em];cases j with
      | zero=>rw[G8,hm];rfl
      | succ j=>rw[G9,hm];rfl
    | @ok t _ _ hm hx O=>
      refine Br.of (λh=>by cases h) λ_=>?_;rw[e1,e2];cases j with
      | zero=>
        refine Br.dec (λh=>by omega) λ_=>⟨⟨rfl,rfl⟩,ab es x (by omega),λc=>ih (i+1) s2 (ts++[t]) (es++[x]) c N2 (by omega) O ?_ (V.snoc hx.1) (by rw[oK];simp only[oR,o5];omega) (yK (I.mono (oG _) Z) (yL hx.2) (by omega) Y) (by omega)⟩
        rw[em,G8,hm,oI,Option.map_map];congr 1;funext y;simp
      | succ j=>
        rw[G9,hm,oI]at em;refine Br.dec (λ_ N3 aa=>y9 O _ _ N3 _ (λr N4 J hp hr _=>Br.of (λh=>by cases h) λ_=>⟨⟨rfl,rfl⟩,ab es x (by omega),λc=>ih (i+1) r (ts++[t]) (es++[x]) c N4 (by omega) hr ?_ (V.snoc hx.1) (by rw[oK];simp only[oR,o5];omega) ((yK (I.mono (oG _) Z) (yL hx.2) (by omega) Y).mono (oG _) (by omega)) (by omega)⟩) λN4 J hp _=>Br.of (λ_=>⟨zn,λN5 ae=>hQ _ _ _ _ _ _ (by omega) ⟨by simp,λ_=>?_,O,by simp,Cg⟩⟩) λh=>by cases h) λh=>by omega
        ·rw[em,show pre (bl by_) (t,bl s2).2=some (bl r)from hp,oI,Option.map_map];congr 1;funext y;simp
        ·rw[em,show pre (bl by_) (t,bl s2).2=none from hp];rfl
 exact key k 0 s [] [] 0 N (by omega) hs (by simp) rfl rfl Jg (oG _)
theorem Hf {dp:Int} {T:Bl->Option (Tm × Bl)} (O:DO dp T) {N N0 N1:Nat} {k m:Int} {nm ot:ByteArray} {ty re:Ty} {t0 t1 r0 r1 U:D} (V:Tm.Hd nm ot ty re t0 t1 r0 r1) (Y:OwnL N0 N1 [t0,t1,r0,r1]) (hN:N0<=N1) (Z:N1<=N) (j:Nat) (hj:arI k nm=j) (J:j<=3) (by_ e:ByteArray) {s:ByteArray} (hs:s.size<=1073741824) (Q:QT [.ag 9,.bool,.str,.i])
  (hQ:∀ d b s' N',N<=N'->Ri (TO N0 N') ((y8 T (bl by_) (bl e) j true (bl s)).map λy=>(Tm.mk k nm ot m ty re y.1,y.2)) d b s'->Q d b s' dp N'):BCalls prog 40 [.ag 9,.bool,.str,.i] [.pb 0 0 0 0,.dg 9 (.ag [.j k,.t nm,.t ot,.j m,t0,t1,r0,r1,U]),.str by_,.str e] [.var [.str s,.j dp]] N Q:=
 wz N _ by_ e s dp Q λE _ N2 aa=>qO N2 _ λN3 ab _ N4 ac=>by
  rw[hj];refine LA O by_ e j J hs N4 _ λa es c b s' N5 ae I _ _=>⟨zn,λN6 ah=>hQ _ _ _ _ (by omega) ?_⟩
  cases b with
  | true=>obtain⟨ts,h1,h2⟩:=I.ok rfl;exact .ok (t:=.mk k nm ot m ty re ts) (by rw[h1];rfl) ⟨Tm.is_mk.2 ⟨_,_,_,_,_,_,_,rfl,V,by have:=I.len;omega,h2⟩,Dw (ya (ya (ya (ya (yK (es:=[t0,t1,r0,r1]) (N1:=N1) Y (yL (I.ow.mono (by omega) (by omega:N5<=N6))) (by omega) (by omega))))))⟩ I.sz
  | false=>exact .no (by rw[I.no rfl];rfl) I.sz
theorem KQ {N N':Nat}:OwnL N N' [.j 0,.sl none 2 [] 0,.j 0,.sl none 2 [] 0]:=ya ⟨by simp[D.foot,zA],⟨⟨by simp,trivial⟩,trivial,⟨by simp,trivial⟩,trivial⟩,by simp[D.foot,zA],by simp[D.foot,zA]⟩
theorem ti {dp:Int} {T:Bl->Option (Tm × Bl)} (J:DO dp T) {k:Int} {nm:Bl} (V:(⟨nm.toArray⟩:ByteArray).size<=1073741824) (j:Nat) (O:arI k ⟨nm.toArray⟩=j) (I:j<=3) (by_ e:ByteArray) {s:ByteArray} (hs:s.size<=1073741824) (N:Nat) (Q:QT [.ag 9,.bool,.str,.i])
  (U:∀ d b s' N',N<=N'->Ri (TO N N') (mkF k nm [] tZero tZero (y8 T (bl by_) (bl e) j true (bl s))) d b s'->Q d b s' dp N'):BCalls prog 40 [.ag 9,.bool,.str,.i] [.pb 0 0 0 0,.dg 9 (.ag [.j k,.t (⟨nm.toArray⟩),.t (bytes []),.j 0,.j 0,.sl none 2 [] 0,.j 0,.sl none 2 [] 0,.sl none 9 [] 0]),.str by_,.str e] [.var [.str s,.j dp]] N Q:=
 Hf J (m:=0) (hdz (by omega) (by decide)) KQ (oG _) (oG _) j O I by_ e hs Q U
theorem MZ {N N':Nat}:OwnL N N' [.j 0,.sl none 2 [] 0]:=ya (yL Cg)
theorem Ey {N N':Nat}{t:Ty}{d:D}(h:t.Is d)(I:Own N N' d):OwnL N N' [D.cell d 0,D.cell d 1]:=by
 cases t with
 | mk k l=>
   obtain⟨a,es,c,rfl,_,_⟩:=Ty.is_mk.1 h;have J:OwnL N N' [D.j k,.sl a 2 es c]:=⟨by simpa only[D.foot]using I.nd,I.fl,by simpa only[D.foot]using I.lo,by simpa only[D.foot]using I.hi⟩
   exact J
theorem MM {dp:Int} {T:Bl->Option (Tm × Bl)} (hT:DO dp T) {nm:Bl} (hn:(⟨nm.toArray⟩:ByteArray).size<=1073741824) {s:ByteArray} (hs:s.size<=1073741824) (N:Nat) (Q:QT [.ag 9,.bool,.str,.i])
  (I:∀ d b s' N',N<=N'->Ri (TO N N') ((pre [58] (bl s)).bind λr=>(wJ 8 r).bind λt=>(pre [46] t.2).bind λr=>mkF 6 nm [] t.1 tZero (y8 T [] [41] 1 true r)) d b s'->Q d b s' dp N'):BCalls prog 75 [.ag 9,.bool,.str,.i] [.pb 0 0 0 0,.dg 9 (.ag [.j 6,.t (⟨nm.toArray⟩),.t (bytes []),.j 0,.j 0,.sl none 2 [] 0,.j 0,.sl none 2 [] 0,.sl none 9 [] 0])] [.var [.str s,.j dp]] N Q:=by
 refine yN N _ s dp Q λE _ N1 ae=>y9 hs _ _ N1 _ (λr N2 O U hr _=>Br.of (λ_ N3 V=>?_) λh=>by cases h) λN2 O U _=>Br.of (λh=>by cases h) λ_=>Br.of (λh=>by cases h) λ_=>Br.of (λ_=>⟨zn,λN3 V=>I _ _ _ _ (by omega) (.no (by rw[show pre [58] (bl s)=none from U];rfl) hs)⟩) λh=>by cases h
 rw[show pre [58] (bl s)=some (bl r)from U,oI]at I;refine Hg 8 (by omega) hr _ N3 _ λd b s1 N4 ah hd _ _=>?_;obtain⟨t,ht,_,hm⟩:=hd.is;refine Br.of (λJ=>⟨6,rfl,Br.beq (λh=>by omega) λ_=>Br.not (λh=>by rw[J]at h;cases h) λ_ N5 Y=>?_⟩) λJ=>Br.not (λ_=>⟨zn,λN5 Y=>I _ _ _ _ (by omega) (.no (by rw[hd.no J];rfl) hd.sz)⟩) λh=>by rw[J]at h;cases h
 rw[hm J,oI]at I;refine y9 hd.sz _ _ N5 _ (λr2 N6 Z hq aa _=>Br.of (λh=>by cases h) λ_ N7 ab=>?_) λN6 Z hq _=>Br.of (λ_=>⟨zn,λN7 ab=>I _ _ _ _ (by omega) (.no (by rw[show pre [46] (t,bl s1).2=none from hq];rfl) hd.sz)⟩) λh=>by cases h
 rw[show pre [46] (t,bl s1).2=some (bl r2)from hq,oI]at I;exact Hf hT (N0:=N) (N1:=N4) (k:=6) (m:=0) (nm:=⟨nm.toArray⟩) (ot:=bytes []) (ty:=t) (re:=tZero) ⟨by omega,by decide,Ty.is_cells ht,uI 0⟩ (yK (N1:=N4) (es:=[_,_]) (fs:=[_,_]) ((Ey ht hd.ow).mono (by omega) (oG _)) MZ (by omega) (oG _)) (by omega) (by omega) 1 rfl (by omega) _ _ aa _ λd b s' N8 ai hx _ _=>⟨zn,λN9 ac=>I _ _ _ _ (by omega) (hx.up (oG _) ac)⟩
theorem MN {dp:Int} {T:Bl->Option (Tm × Bl)} (hT:DO dp T) {nm ot:Bl} (hn:(⟨nm.toArray⟩:ByteArray).size<=1073741824) (ho:(⟨ot.toArray⟩:ByteArray).size<=1073741824) {s:ByteArray} (hs:s.size<=1073741824) (N:Nat) (Q:QT [.ag 9,.bool,.str,.i])
  (J:∀ d b s' N',N<=N'->Ri (TO N N') ((pre [58] (bl s)).bind λr=>(wJ 8 r).bind λt=>(pre [62] t.2).bind λr=>(wJ 8 r).bind λu=>(pre [46] u.2).bind λr=>mkF 9 nm ot t.1 u.1 (y8 T [] [41] 1 true r)) d b s'->Q d b s' dp N'):BCalls prog 75 [.ag 9,.bool,.str,.i] [.pb 0 0 0 0,.dg 9 (.ag [.j 9,.t (⟨nm.toArray⟩),.t (⟨ot.toArray⟩),.j 0,.j 0,.sl none 2 [] 0,.j 0,.sl none 2 [] 0,.sl none 9 [] 0])] [.var [.str s,.j dp]] N Q:=by
 refine yN N _ s dp Q λE _ N1 aw=>y9 hs _ _ N1 _ (λr N2 aa hp hr _=>Br.of (λ_ N3 ab=>?_) λh=>by cases h) λN2 aa hp _=>Br.of (λh=>by cases h) λ_=>Br.of (λh=>by cases h) λ_=>Br.of (λ_=>⟨zn,λN3 ab=>J _ _ _ _ (by omega) (.no (by rw[show pre [58] (bl s)=none from hp];rfl) hs)⟩) λh=>by cases h
 rw[show pre [58] (bl s)=some (bl r)from hp,oI]at J;refine Hg 8 (by omega) hr _ N3 _ λd b s1 N4 ax hd _ _=>?_;obtain⟨t,ht,_,hm⟩:=hd.is;refine Br.of (λZ=>⟨9,rfl,Br.beq (λ_ N5 ac=>?_) λh=>absurd rfl h⟩) λZ=>Br.not (λ_=>⟨zn,λN5 ac=>J _ _ _ _ (by omega) (.no (by rw[hd.no Z];rfl) hd.sz)⟩) λh=>by rw[Z]at h;cases h
 rw[hm Z,oI]at J;refine y9 hd.sz _ _ N5 _ (λr2 N6 ae hq ah _=>Br.of (λ_ N7 ai=>?_) λh=>by cases h) λN6 ae hq _=>Br.of (λh=>by cases h) λ_=>Br.of (λ_=>⟨zn,λN7 ai=>J _ _ _ _ (by omega) (.no (by rw[show pre [62] (t,bl s1).2=none from hq];rfl) hd.sz)⟩) λh=>by cases h
 rw[show pre [62] (t,bl s1).2=some (bl r2)from hq,oI]at J;refine Hg 8 (by omega) ah _ N7 _ λd2 b2 s2 N8 ay I _ _=>?_;obtain⟨u,hu,_,aj⟩:=I.is;refine Br.not (λO=>⟨zn,λN9 ak=>J _ _ _ _ (by omega) (.no (by rw[I.no O];rfl) I.sz)⟩) λO N9 ak=>?_;rw[aj O,oI]at J;refine y9 I.sz _ _ N9 _ (λr3 al U hv ao _=>Br.of (λh=>by cases h) λ_ aq V=>?_) λal U hv _=>Br.of (λ_=>⟨zn,λaq V=>J _ _ _ _ (by omega) (.no (by rw[show pre [46] (u,bl s2).2=none from hv];rfl) I.sz)⟩) λh=>by cases h
 rw[show pre [46] (u,bl s2).2=some (bl r3)from hv,oI]at J;exact Hf hT (N0:=N) (N1:=N8) (k:=9) (m:=0) (nm:=⟨nm.toArray⟩) (ot:=⟨ot.toArray⟩) (ty:=t) (re:=u) ⟨by omega,by omega,Ty.is_cells ht,Ty.is_cells hu⟩ (yK (N1:=N7) (es:=[_,_]) (fs:=[_,_]) ((Ey ht hd.ow).mono (by omega) (by omega)) (Ey hu I.ow) (by omega) (by omega)) (by omega) (by omega) 1 rfl (by omega) _ _ ao _ λd b s' az au hx _ _=>⟨zn,λa1 Y=>J _ _ _ _ (by omega) (hx.up (oG _) Y)⟩
end Go.Proofs.YtldbmnklnpfpfaaGreatDoor
set_option maxRecDepth 100000
namespace Go.Proofs.YtldbmnklnpfpfaaGreatDoor
open Go Go.Proofs Go.Proofs.Tryz Go.IntWalk
theorem Hv {k:Int}{nm:ByteArray}(O:nm.size<=1073741824){t u:Tm}{x y:D}(I:t.Is x)(J:u.Is y)(a:Option Addr):(Tm.mk k nm (bytes []) 0 tZero tZero [t,u]).Is (.ag [.j k,.t nm,.t (bytes []),.j 0,.j 0,.sl none 2 [] 0,.j 0,.sl none 2 [] 0,.sl a 9 [x,y] 2]):=
 Tm.is_mk.2 ⟨_,_,_,_,_,_,_,rfl,hdz (by omega) (by decide),by simp,x,[y],rfl,I,y,[],rfl,J,rfl⟩
theorem Fl {N N1 I N3 J O U:Nat} {v0 v1 v2 v3:Value} {x y:D} {ds:List D} {a:Option Addr} {c:Nat} (Z:Own N1 I x) (hy:Own N3 J y) (hf:Fresh N O a (.ag [x,y]::ds)) (h1:N<=N1) (V:I<=N3/\N3<=J) (h3:N1<=I) (Y:J<=O/\O<=U) :
  Own N U (.ag [.lit v0,.lit v1,.lit v2,.lit v3,.j 0,.sl none 2 [] 0,.j 0,.sl none 2 [] 0,.sl a 9 [x,y] c]):=
 Dw (ya (ya (ya (ya (yK (N1:=N) (es:=[.j 0,.sl none 2 [] 0,.j 0,.sl none 2 [] 0]) KQ (yL ((Bw (yK (N1:=N3) (es:=[x]) (fs:=[y]) ((yL Z).mono h1 V.1) (yL hy) (by omega) V.2) hf Y.1).mono (oG _) Y.2)) (oG _) (by omega))))))
theorem MO {dp:Int} {T:Bl->Option (Tm × Bl)} (hT:DO dp T) {s:ByteArray} (hs:s.size<=1073741824) (N:Nat) (Q:QT [.ag 9,.bool,.str,.i])
  (U:∀ d b s' N',N<=N'->Ri (TO N N') (H6 false T (bl s)) d b s'->Q d b s' dp N'):BCalls prog 76 [.ag 9,.bool,.str,.i] [.pb 0 0 0 0] [.var [.str s,.j dp]] N Q:=by
 refine w7 N s dp Q λE N1 ao=>hT s N1 _ hs λx b J N2 aq hx _ _=>?_;cases hx with
 | no hm Z=>exact Br.of (λ_=>⟨zn,λN3 aa=>U _ _ _ _ (by omega) (.no (by rw[H6,hm];rfl) Z)⟩) λh=>by cases h
 | @ok t _ _ hm hx Z=>
   have em:H6 false T (bl s)=Fs false T t (bl J):=by rw[H6,hm];rfl
   rw[em]at U;refine Br.of (λh=>by cases h) λ_=>Br.str (λe=>⟨zn,λN3 aa=>U _ _ _ _ (by omega) (.no (by rw[e];rfl) Z)⟩) λak=>?_;cases hl:bl J with
   | nil=>exact absurd (zZ hl) ak
   | cons c r=>
     have h1:(bl J).length=J.size:=xM J;rw[hl]at h1 U;simp only[oR]at h1;have hr:Atl J 0 (c::r):=⟨Z,by omega,by omega,hl⟩
     have ex:ByteArray.extract J 0 1=⟨#[c]⟩:=zZ (hr.ext 1 (m:=1) rfl);have er:bl (ByteArray.extract J 1 ((J.size:Int)).toNat)=r:=by show(ByteArray.extract J _ _).data.toList=r;rw[ur];show((bl J).drop 1).take _=r;rw[hl,List.drop_succ_cons,List.drop_zero,nk (by omega)]
     have es:(ByteArray.extract J 1 ((J.size:Int)).toNat).size<=1073741824:=by rw[ms];omega
     rw[ex];refine⟨⟨by omega,by omega,by omega⟩,Br.nstr (λab=>⟨⟨by omega,by omega,by omega⟩,λN3 aa=>?_⟩) λab=>⟨⟨by omega,by omega,by omega⟩,λN3 aa=>?_⟩⟩
     ·have hc:c≠32:=λe=>ab (by rw[e];rfl);have ac:Fs false T t (c::r)=(T r).bind λy=>(pre [41] y.2).map λr=>(Tm.mk 4 ⟨#[c]⟩ (bytes []) 0 tZero tZero [t,y.1],r):=by simp only[Fs];rw[if_neg hc,if_neg (by simp)]
      rw[ac]at U;have V:=hT (ByteArray.extract J 1 ((J.size:Int)).toNat) N3;rw[er]at V;refine V _ es λy b2 s2 N4 al hy _ _=>?_;cases hy with
      | no O I=>exact Br.of (λh=>by cases h) λ_=>⟨⟨rfl,rfl⟩,⟨rfl,rfl⟩,⟨rfl,rfl⟩,⟨rfl,rfl⟩,λa N5 ae _=>⟨zn,λN6 Y=>U _ _ _ _ (by omega) (.no (by rw[O];rfl) I)⟩⟩
      | @ok u _ _ O hy I=>rw[O,oI]at U;exact Br.of (λ_ N5 ae=>y9 I _ _ N5 _ (λr3 N6 Y hv ah _=>⟨⟨rfl,rfl⟩,⟨rfl,rfl⟩,⟨rfl,rfl⟩,⟨rfl,rfl⟩,λa N7 ai hf=>⟨zn,λN8 aj=>U _ _ _ _ (by omega) (.ok (by rw[show pre [41] (u,bl s2).2=some (bl r3)from hv];rfl) ⟨Hv (by show 1<=_;omega) hx.1 hy.1 a,Fl hx.2 hy.2 hf (by omega) (by omega) (by omega) (by omega)⟩ ah)⟩⟩) λN6 Y hv _=>⟨⟨rfl,rfl⟩,⟨rfl,rfl⟩,⟨rfl,rfl⟩,⟨rfl,rfl⟩,λa N7 ai _=>⟨zn,λN8 aj=>U _ _ _ _ (by omega) (.no (by rw[show pre [41] (u,bl s2).2=none from hv];rfl) I)⟩⟩) λh=>by cases h
     ·have hc:c=32:=by have h2:[c]=([32]:Bl):=oN bl ab;simpa using h2
      subst hc;have ac:Fs false T t (32::r)=(T r).bind λy=>(pre [41] y.2).map λr=>(Tm.mk 7 (bytes []) (bytes []) 0 tZero tZero [t,y.1],r):=by simp only[Fs,nu]
      rw[ac]at U;have V:=hT (ByteArray.extract J 1 ((J.size:Int)).toNat) N3;rw[er]at V;refine V _ es λy b2 s2 N4 al hy _ _=>?_;cases hy with
      | no O I=>exact Br.of (λh=>by cases h) λ_=>⟨⟨rfl,rfl⟩,⟨rfl,rfl⟩,⟨rfl,rfl⟩,⟨rfl,rfl⟩,λa N5 ae _=>⟨zn,λN6 Y=>U _ _ _ _ (by omega) (.no (by rw[O];rfl) I)⟩⟩
      | @ok u _ _ O hy I=>rw[O,oI]at U;exact Br.of (λ_ N5 ae=>y9 I _ _ N5 _ (λr3 N6 Y hv ah _=>⟨⟨rfl,rfl⟩,⟨rfl,rfl⟩,⟨rfl,rfl⟩,⟨rfl,rfl⟩,λa N7 ai hf=>⟨zn,λN8 aj=>U _ _ _ _ (by omega) (.ok (by rw[show pre [41] (u,bl s2).2=some (bl r3)from hv];rfl) ⟨Hv (by decide) hx.1 hy.1 a,Fl hx.2 hy.2 hf (by omega) (by omega) (by omega) (by omega)⟩ ah)⟩⟩) λN6 Y hv _=>⟨⟨rfl,rfl⟩,⟨rfl,rfl⟩,⟨rfl,rfl⟩,⟨rfl,rfl⟩,λa N7 ai _=>⟨zn,λN8 aj=>U _ _ _ _ (by omega) (.no (by rw[show pre [41] (u,bl s2).2=none from hv];rfl) I)⟩⟩) λh=>by cases h
theorem xf {s:ByteArray}(hs:s.size<=1073741824):(⟨(word (bl s)).1.toArray⟩:ByteArray).size<=1073741824:=
 wU (s:=s) (n:=0) ⟨hs,by omega,by omega,rfl⟩
theorem JM {dp:Int} {T:Bl->Option (Tm × Bl)} (hT:DO dp T) {s:ByteArray} (hs:s.size<=1073741824) (N:Nat) (Q:QT [.ag 9,.bool,.str,.i])
  (hQ:∀ d b s' N',N<=N'->Ri (TO N N') (uA false T (bl s)) d b s'->Q d b s' dp N'):BCalls prog 41 [.ag 9,.bool,.str,.i] [.pb 0 0 0 0] [.var [.str s,.j dp]] N Q:=by
 refine wT N s dp Q λE N1 bm=>?_;have fin:∀ {m:Option (Tm × Bl)},uA false T (bl s)=m->∀ N1,N<=N1->∀ d b s' N',N1<=N'->Ri (TO N1 N') m d b s'->N1<=N'->Bel N' d->zO E [.var [.str (bytes []),.j 0]]/\∀ N3,N'<=N3->Q d b s' dp N3:=λ{m} hm N1 h1 d b s' N' h hx _ _=>⟨zn,λN3 h3=>hQ _ _ _ _ (by omega) (by rw[hm];exact hx.up h1 h3)⟩
 refine y9 hs _ _ N1 _ (λr N2 aw Y J _=>Br.of (λ_ N3 ax=>ti hT (k:=4) (nm:=[33]) (by decide) 1 (by first | rfl | decide) (by omega) _ _ J N3 _ (fin (by simp only[uA,show pre [33] (bl s)=some (bl r)from Y];rfl) N3 (by omega))) λh=>by cases h) λN2 aw h1 _=>Br.of (λh=>by cases h) λ_ N3 ax=>?_;have g1:pre [33] (bl s)=none:=h1;refine y9 hs _ _ N3 _ (λr N4 ay Y J _=>Br.of (λ_ N5 az=>ti hT (k:=5) (nm:=[]) (by decide) 3 (by first | rfl | decide) (by omega) _ _ J N5 _ (fin (by simp only[uA,g1,show pre [105,102,32] (bl s)=some (bl r)from Y];rfl) N5 (by omega))) λh=>by cases h) λN4 ay h2 _=>Br.of (λh=>by cases h) λ_ N5 az=>?_;have g2:pre [105,102,32] (bl s)=none:=h2;refine y9 hs _ _ N5 _ (λr N6 a1 Y J _=>Br.of (λ_ N7 a6=>ti hT (k:=12) (nm:=[]) (by decide) 1 (by first | rfl | decide) (by omega) _ _ J N7 _ (fin (by simp only[uA,g1,g2,show pre [114,117,110,32] (bl s)=some (bl r)from Y];rfl) N7 (by omega))) λh=>by cases h) λN6 a1 h3 _=>Br.of (λh=>by cases h) λ_ N7 a6=>?_;have g3:pre [114,117,110,32] (bl s)=none:=h3;refine y9 hs _ _ N7 _ (λr N8 a7 Y J _=>Br.of (λ_ N9 a8=>ti hT (k:=13) (nm:=[]) (by decide) 1 (by first | rfl | decide) (by omega) _ _ J N9 _ (fin (by simp only[uA,g1,g2,g3,show pre [108,105,102,116,32] (bl s)=some (bl r)from Y];rfl) N9 (by omega))) λh=>by cases h) λN8 a7 h4 _=>Br.of (λh=>by cases h) λ_ N9 a8=>?_;have g4:pre [108,105,102,116,32] (bl s)=none:=h4;refine y9 hs _ _ N9 _ (λr ba ai Y J _=>Br.of (λ_ ah aj=>?_) λh=>by cases h) λba ai h5 _=>Br.of (λh=>by cases h) λ_ ah aj=>?_
 ·have em:uA false T (bl s)=Cl T (bl r):=by simp only[uA,g1,g2,g3,g4,show pre [108,101,116,32] (bl s)=some (bl r)from Y]
  refine Dk J _ ah _ λr2 ak ac h2 O _ Z ae=>y9 O _ _ Z _ (λr3 aa U hq ab _=>Br.of (λh=>by cases h) λ_ I V=>?_) λaa U hq _=>Br.of (λ_=>⟨zn,λI V=>hQ _ _ _ _ (by omega) (.no ?_ O)⟩) λh=>by cases h
  ·rw[h2]at hq;exact ti hT (k:=8) (nm:=(word (bl r)).1) (xf J) 2 rfl (by omega) _ _ ab I _ (fin (em.trans (by unfold Cl;rw[show pre [61] (word (bl r)).2=some (bl r3)from hq];rfl)) I (by omega))
  ·rw[h2]at hq;rw[em];unfold Cl;rw[show pre [61] (word (bl r)).2=none from hq];rfl
 have g5:pre [108,101,116,32] (bl s)=none:=h5;refine y9 hs _ _ ah _ (λr ak ac Y J _=>Br.of (λ_ Z ae=>?_) λh=>by cases h) λak ac h6 _=>Br.of (λh=>by cases h) λ_ Z ae=>?_
 ·have em:uA false T (bl s)=E2 T (bl r):=by simp only[uA,g1,g2,g3,g4,g5,show pre [92] (bl s)=some (bl r)from Y]
  refine Dk J _ Z _ λr2 aa U h2 O _ I V=>MM hT (xf J) O I _ (fin (em.trans ?_) I (by omega));rw[h2];rfl
 have g6:pre [92] (bl s)=none:=h6;refine y9 hs _ _ Z _ (λr aa U Y J _=>Br.of (λ_ I V=>?_) λh=>by cases h) λaa U h7 _=>Br.of (λh=>by cases h) λ_ I V=>?_
 ·have em:uA false T (bl s)=Cm T (bl r):=by simp only[uA,g1,g2,g3,g4,g5,g6,show pre [114,101,99,32] (bl s)=some (bl r)from Y]
  refine Dk J _ I _ λr2 bn bg h2 O _ bb bh=>y9 O _ _ bb _ (λr3 bc al hq ab _=>Br.of (λh=>by cases h) λ_ ao aq=>?_) λbc al hq _=>Br.of (λ_=>⟨zn,λao aq=>hQ _ _ _ _ (by omega) (.no ?_ O)⟩) λh=>by cases h
  ·rw[h2]at hq;refine Dk ab _ ao _ λr4 bp bi h4 bd _ au bj=>MN hT (xf J) (xf ab) bd au _ (fin (em.trans ?_) au (by omega));unfold Cm;rw[show pre [32] (word (bl r)).2=some (bl r3)from hq,oI,h4]
  ·rw[h2]at hq;rw[em];unfold Cm;rw[show pre [32] (word (bl r)).2=none from hq];rfl
 have g7:pre [114,101,99,32] (bl s)=none:=h7;exact MO hT hs I _ (fin (by simp only[uA,g1,g2,g3,g4,g5,g6,g7]) I (by omega))
end Go.Proofs.YtldbmnklnpfpfaaGreatDoor
set_option maxRecDepth 100000
namespace Go.Proofs.YtldbmnklnpfpfaaGreatDoor
open Go Go.Proofs Go.Proofs.Tryz Go.IntWalk
theorem KP {P:Program}{ops:Array Oper}{Q:Exit->Act->World->Prop}{rest:List Nat}{i:Nat}{a:Act}{w w':World}{o:Oper}{v:Value}(I:ops[i]?=some o)(J:o.guard=none)(O:(execOp a.eval o).run P w=.ok (.value v) w')(h:wpOps P ops Q rest (a.put o.dst v) w'):wpOps P ops Q (i::rest) a w:=by simp only[wpOps,I,Region.wanted,J,nu];refine .inl ?_;unfold Oper.wp;rw[O,Oper.upon_value];exact h
theorem LU {P:Program}{ops:Array Oper}{Q:Exit->Act->World->Prop}{rest:List Nat}{i:Nat}{a:Act}{w w':World}{o:Oper}(I:ops[i]?=some o)(J:o.guard=none)(O:(execOp a.eval o).run P w=.ok .skip w')(h:wpOps P ops Q rest (a.put o.dst undef) w'):wpOps P ops Q (i::rest) a w:=by simp only[wpOps,I,Region.wanted,J,nu];refine .inl ?_;unfold Oper.wp;rw[O,Oper.upon_skip];exact h
theorem MX {P:Program}{ops:Array Oper}{Q:Exit->Act->World->Prop}{rest:List Nat}{i:Nat}{a:Act}{w w':World}{o:Oper}{d:Deferred}(I:ops[i]?=some o)(J:o.guard=none)(O:(execOp a.eval o).run P w=.ok (.defer d) w')(h:wpOps P ops Q rest ({ a with defers:=d::a.defers }.put o.dst undef) w'):wpOps P ops Q (i::rest) a w:=by simp only[wpOps,I,Region.wanted,J,nu];refine .inl ?_;unfold Oper.wp;rw[O,Oper.upon_defer];exact h
def opD (o:Oper):Op × Option Nat × Bool × TypeId:=(o.op,o.dst,o.guard.isNone,o.type)
theorem Fk {ops:Array Oper}{l:List (Op × Option Nat × Bool × TypeId)}(h:ops.toList.map opD=l){i:Nat}{op:Op}{d:Option Nat}{t:TypeId}(hi:l[i]?=some (op,d,true,t)):∃ o,ops[i]?=some o/\o.op=op/\o.dst=d/\o.guard=none/\o.type=t:=by
 subst h;rw[oE,nF]at hi;cases I:ops[i]? with
 | none=>rw[I]at hi;cases hi
 | some o=>rw[I]at hi;simp only[oU,od,opD,mv]at hi;exact⟨o,rfl,hi.1,hi.2.1,Option.isNone_iff_eq_none.1 hi.2.2.1,hi.2.2.2⟩
theorem AN {av:Nat->Prop} {w0 w:World} {e0 e:Env} {a:Act} {st:St} {ops:Array Oper} {l:List (Op × Option Nat × Bool × TypeId)} (V:ops.toList.map opD=l) {Q:Exit->Act->World->Prop} {rest:List Nat} {i d:Nat} {op:Op} {t:TypeId} {p:PV}
  (hi:l[i]?=some (op,some d,true,t)) (h:Rel av w0 e0 [] [] a w e st) (Y:nev prog (opd st.sl) (λk=>st.bx[k]?) op t (λr=>r=Res.v p)=(Res.v p=Res.v p)) (k:∀ J,Rel av w0 e0 [] [] J w e (st.put (some d) p)->wpOps prog ops Q rest J w):wpOps prog ops Q (i::rest) a w:=by
 obtain⟨o,Z,e1,e2,hg,e4⟩:=Fk V hi;rcases pI h (o:=o) (R:=λr=>r=Res.v p) (by simp) (by rw[e1,e4,Y])with⟨v,q,O,I,U⟩ | ⟨v,c,t,B,f,O,I,U⟩
 ·cases I;refine KP Z hg O ?_;rw[e2];exact k _ (yP (dst:=some d) h U (λi hi _=>hi))
 ·cases I
def ops42:List (Op × Option Nat × Bool × TypeId):=[(.load 40 (.tmp 0),some 1,true,40),(.nilCheck (.tmp 1),some 2,true,0),(.fieldAddr 42 (.tmp 2) 1,some 3,true,0),(.load 3 (.tmp 3),some 4,true,3),
 (.binOp .sub 3 (.tmp 4) (.const (.int .i64 1)) 3,some 5,true,3),(.nilCheck (.tmp 1),some 6,true,0),(.fieldAddr 42 (.tmp 6) 1,some 7,true,0),(.store 3 (.tmp 7) (.tmp 5),none,true,0)]
noncomputable def reg42:Option (Func × Nat × Array Oper):=match prog.funcs[37]? with
 | some fn=>match fn.body with
   | some (.region id ops false)=>some (fn,id,ops)
   | _=>none
 | none=>none
theorem Gi:reg42.isSome=true:=by kernel_rfl
theorem IB:reg42.map (λm=>m.2.2.toList.map opD)=some ops42:=by kernel_rfl
theorem Jq:reg42.map (λm=>(m.1.ntmps,m.1.results.toList.length))=some (8,0):=by kernel_rfl
theorem Gj {m:Func × Nat × Array Oper}(h:reg42=some m):prog.funcs[37]?=some m.1/\m.1.body=some (.region m.2.1 m.2.2 false):=by
 unfold reg42 at h;split at h
 ·rename_i fn I;split at h
  ·rename_i id ops J;cases h;exact⟨I,J⟩
  ·cases h
 ·cases h
theorem Ng {av:Nat->Prop} {w0 w w2:World} {e0 e:Env} {s:ByteArray} {n:Int} {bs:List Bx} {N:Nat} {pn:Option (List (Option Nat) × List Nat)} {v:Value} {R:Ending->World->Prop}
  (hr:∀ a:Act,a.defers=[]->a.tmps=#[v]++Array.replicate 7 undef->Rel av w0 e0 [] [] a w e ⟨.pb 1 0 0 0::an 7 [],.var [.str s,.int .i64 n]::.var [.pb 0 0 0 0]::bs,N,pn⟩)
  (hs:(Instr.storeAt 3 (.pointer (some ⟨(e.at 0).getD 0,0*ez 0+1,none⟩)) (.int .i64 (IntKind.i64.wrap (n - 1)))).run prog w=.ok () w2) (hR:R (.returned (.tuple #[])) w2) {u:FrameMode}:CallsD prog 37 #[v] u w λe' u' w'=>u'=u/\R e' w':=by
 obtain⟨m,Y⟩:=mg.1 Gi;have I:=IB;have U:=Jq;rw[Y,oU,od]at I U;obtain⟨hf,hb⟩:=Gj Y;have hn:m.1.ntmps=8:=oN Prod.fst U;have J:m.2.2.size=8:=by have:=oN List.length I;simpa [ops42]using this
 have O:m.1.results=#[]:=by have:m.1.results.toList.length=0:=oN Prod.snd U;exact Array.eq_empty_of_size_eq_zero (by simpa using this)
 refine callsD_of_wp hf hb (wp_region ?_);rw[J,hn];show wpOps prog m.2.2 _ [0,1,2,3,4,5,6,7] _ w;have r0:=hr { tmps:=#[v]++Array.replicate (8 - (#[v]:Array Value).size) undef,defers:=[] } rfl rfl;refine AN I (i:=0) (p:=.pb 0 0 0 0) rfl r0 (by kernel_rfl) λa1 r1=>?_;refine AN I (i:=1) (p:=.pb 0 0 0 0) rfl r1 (by kernel_rfl) λa2 r2=>?_;refine AN I (i:=2) (p:=.pb 0 0 0 1) rfl r2 (by kernel_rfl) λa3 r3=>?_;refine AN I (i:=3) (p:=.int .i64 n) rfl r3 (by kernel_rfl) λa4 r4=>?_;refine AN I (i:=4) (p:=.int .i64 (IntKind.i64.wrap (n - 1))) rfl r4 (by kernel_rfl) λa5 r5=>?_;refine AN I (i:=5) (p:=.pb 0 0 0 0) rfl r5 (by kernel_rfl) λa6 r6=>?_;refine AN I (i:=6) (p:=.pb 0 0 0 1) rfl r6 (by kernel_rfl) λZ V=>?_;obtain⟨o,ho,e1,e2,hg,e4⟩:=Fk I (i:=7) rfl;have h7:Z.eval (.tmp 7)=.pointer (some ⟨(e.at 0).getD 0,0*ez 0+1,none⟩):=(V.hs 7 (.pb 0 0 0 1) rfl (by simp)).resolve_left (by simp);have h5:Z.eval (.tmp 5)=.int .i64 (IntKind.i64.wrap (n - 1)):=(V.hs 5 (.int .i64 (IntKind.i64.wrap (n - 1))) rfl (by simp)).resolve_left (by simp);refine LU ho hg (w':=w2) (by simp only[execOp,e1,h7,h5,Sem.run_bind,hs,Result.andThen_ok,Sem.run_pure]) ?_;rw[e2];refine⟨V.nd,.tuple #[],?_,hR⟩;simp[results,O]
end Go.Proofs.YtldbmnklnpfpfaaGreatDoor
set_option linter.unusedSectionVars false
set_option maxRecDepth 100000
namespace Go.Proofs.YtldbmnklnpfpfaaGreatDoor
open Go Go.Proofs Go.Proofs.Tryz Go.IntWalk
structure Rt where
 o:Array Oper
 x:Code
 y:Code
 z:Code
def Mj:List Item->Option Rt
 | [.code (.region 2 o false),.code (.seq (.block 0 (.seq x y)) z)]=>some ⟨o,x,y,z⟩
 | _=>none
theorem IM {l:List Item}{m:Rt}(h:Mj l=some m):l=[.code (.region 2 m.o false),.code (.seq (.block 0 (.seq m.x m.y)) m.z)]:=by
 unfold Mj at h;split at h
 ·cases h;rfl
 ·cases h
theorem Ld:(Mj (Bm prog 14 2)).isSome=true:=by kernel_rfl
theorem Jx:(Mj (Bm prog 14 2)).map (λm=>[.code m.x,.code m.y,.inBlock 0,.code m.z])=some (Bm prog 14 3):=by kernel_rfl
def rtops:List (Op × Option Nat × Bool × TypeId):=[(.makeFunc (.func 37) #[] #[.tmp 1],some 14,true,1),(.defer ⟨.value (.tmp 14),#[],#[]⟩,none,true,0)]
theorem Mn:(Mj (Bm prog 14 2)).map (λm=>m.o.toList.map opD)=some rtops:=by kernel_rfl
theorem Mm (v:Value)(w:World):(invoke (.fn (.func 37) #[v]) #[]).run prog w=.ok (.enter 37 #[v]) w:=by kernel_rfl
theorem Nf:kz prog 3=some 0:=by kernel_rfl
theorem JF {a:Act}{d:Nat}{v:Value}(h:d<a.tmps.size):(a.put (some d) v).eval (.tmp d)=v:=by simp[Act.put,Act.eval,o3,h]
theorem Ml [Dfs] {E e':Env} {Q:QT [.ag 9,.bool,.str,.int .i64]} {N0 N' b2:Nat} {av:Nat->Prop} {w0 w':World} {a':Act} {sl':List PV} {s:ByteArray} {n:Int} {bs:List Bx} {x:Option Nat}
  (hr':Rel av w0 E [] [] a' w' e' ⟨sl',.var [.str s,.int .i64 n]::.var [.pb 0 0 0 0]::bs,N',some ([x,some b2],[])⟩) (hlow:w0.heap.size<=b2) (hN:w0.heap.size=N0)
  (hK:Ls prog 14 [.ag 9,.bool,.str,.int .i64] Q (some N0) E [.var [.str (bytes []),.int .i64 0]] ⟨sl',.var [.str s,.int .i64 (IntKind.i64.wrap (n - 1))]::.var [.pb 0 0 0 0]::bs,N',some ([x],[])⟩) :
  e'.at 1=some b2/\∃ w2 fn v,(Instr.storeAt 3 (.pointer (some ⟨(e'.at 0).getD 0,0*ez 0+1,none⟩)) (.int .i64 (IntKind.i64.wrap (n - 1)))).run prog w'=.ok () w2/\prog.funcs[(14:Nat)]?=some fn/\(results fn a'.tmps).run prog w2=.ok v w2 /\
   Lw [.ag 9,.bool,.str,.int .i64] Q (AK prog 14 [.ag 9,.bool,.str,.int .i64] [.var [.str (bytes []),.int .i64 0]]) av w0 E [.var [.str (bytes []),.int .i64 0]] (.returned v) w2:=by
 have he1:e'.at 1=some b2:=(hr'.pin 1 b2 rfl).1;refine⟨he1,?_⟩;obtain⟨w2,B',hrun,hB,hr2⟩:=Aa hr' (t:=3) (z:=0) (zz:=0) (k:=0) (i:=0) (o:=1) (v:=.int .i64 (IntKind.i64.wrap (n - 1))) (p:=.int .i64 (IntKind.i64.wrap (n - 1))) (K:=fun B=>B=.var [.str s,.int .i64 (IntKind.i64.wrap (n - 1))]) Nf rfl (by simp) zQ rfl;subst hB;have hr3:Rel av w0 E [] [] a' w2 e' ⟨sl',.var [.str s,.int .i64 (IntKind.i64.wrap (n - 1))]::.var [.pb 0 0 0 0]::bs,N',some ([x],[])⟩:=
  Rel.mk hr2.toMem hr2.toFram hr2.nd hr2.sz hr2.hN hr2.hs hr2.so hr2.sr
   (fun k b hk=>by
    rcases hr2.own k b hk with h1 | ⟨h1,h2⟩
    ·exact .inl h1
    ·have h2:k<2:=h2;have h3:k=0\/k=1:=by omega
     rcases h3 with rfl | rfl
     ·exact .inr ⟨h1,Nat.zero_lt_one⟩
     ·have:=hk.2.1;rw[he1]at this;cases this;exact .inl hlow) hr2.avl hr2.avn
   (fun k b hk=>by
    match k,hk with
    | 0,hk=>exact hr2.pin 0 b (by simpa [St.pins]using hk)
    | k+1,hk=>simp[St.pins]at hk) (fun L T hp=>by cases hp;simp)
 obtain⟨fn,v,hf,hres,hfin⟩:=Fy hr3 (fun k hk=>by cases hk;exact hN.symm) hK;exact⟨w2,fn,v,hrun,hf,hres,hfin⟩
theorem Jw [Dfs] {E e':Env} {N' b2:Nat} {av:Nat->Prop} {w0 w':World} {a' O:Act} {U:List PV} {s:ByteArray} {n:Int} {bs:List Bx} {x:Option Nat}
  (J:Rel av w0 E [] [] a' w' e' ⟨U,.var [.str s,.int .i64 n]::.var [.pb 0 0 0 0]::bs,N',some ([x,some b2],[])⟩) (hd:O.defers=[]) (Z:O.tmps=#[.pointer (some ⟨b2,0,none⟩)]++Array.replicate 7 undef) :
  @Rel instDfs av w0 E [] [] O w' e' ⟨.pb 1 0 0 0::an 7 [],.var [.str s,.int .i64 n]::.var [.pb 0 0 0 0]::bs,N',some ([x,some b2],[])⟩:=by
 have V:e'.at 1=some b2:=(J.pin 1 b2 rfl).1;refine @Rel.mk instDfs _ _ _ _ _ _ _ _ _ J.toMem J.toFram hd (by rw[Z];simp[an]) J.hN (λi p I _=>?_) (λi p I _=>?_) (λi p I _ k Y=>?_) J.own J.avl J.avn J.pin J.pit
 ·match i,I with
  | 0,I=>simp at I;subst I;refine .inr ?_;show O.tmps.getD 0 undef=.pointer (some ⟨(e'.at 1).getD 0,0*ez 0+0,none⟩);rw[V,Z];rfl
  | i+1,I=>have:p∈an 7 []:=oB I;simp[an]at this;exact .inl this
 ·match i,I with
  | 0,I=>simp at I;subst I;trivial
  | i+1,I=>have:p∈an 7 []:=oB I;simp[an]at this;subst this;trivial
 ·match i,I with
  | 0,I=>simp at I;subst I;simp[PV.refs]at Y;subst Y;exact⟨by simp,by simp⟩
  | i+1,I=>have:p∈an 7 []:=oB I;simp[an]at this;subst this;simp[PV.refs]at Y
theorem Ke {E:Env} {Q:QT [.ag 9,.bool,.str,.int .i64]} {N0:Nat} {s0:ByteArray} {n0:Int} {N:Nat}
  (h:∀ b1 dd,y2 E b1 dd Q N0 s0 n0 0 (bytes []) (bytes []) 0 0 none [] 0 0 none [] 0 none [] 0 N):yE E Q N0 s0 n0 0 (bytes []) (bytes []) 0 0 none [] 0 0 none [] 0 none [] 0 N:=by
 unfold yE;refine⟨fun av w0 a w e hN hr=>?_⟩;obtain⟨m,hm⟩:=mg.1 Ld;have h3:=Jx;have h2:=Mn;rw[hm,oU,od]at h3 h2;rw[IM hm];have hsz:67<=a.tmps.size:=hr.sz;have hlen:m.o.size=2:=by have:=oN List.length h2;simpa [rtops]using this
 obtain⟨b1,c1,t1,hb1,hc1,_⟩:=hr.br 1 _ rfl (by simp);have hlow:w0.heap.size<=b1:=(hr.own 1 b1 ⟨by simp,hb1,_,rfl,by simp⟩).resolve_right (fun⟨_,h⟩=>by simp[St.pins,xT]at h);have e1:a.eval (.tmp 1)=.pointer (some ⟨b1,0,none⟩):=by have:a.eval (.tmp 1)=.pointer (some ⟨(e.at 1).getD 0,0*ez 0+0,none⟩):=(hr.hs 1 (.pb 1 0 0 0) rfl (by simp)).resolve_left (by simp);rw[this,hb1];rfl
 have hmf:∀(fn:Fn) (first cap:Array Value) (w:World),(Instr.makeFunc fn first cap).run prog w=.ok (.func fn first cap) w:=fun _ _ _ _=>rfl;refine px (wp_region ?_);rw[hlen];show wpOps prog m.o _ [0,1] a w;obtain⟨o0,q0,p0,d0,g0,y0⟩:=Fk h2 (i:=0) rfl;obtain⟨o1,q1,p1,d1,g1,y1⟩:=Fk h2 (i:=1) rfl;refine KP q0 g0 (v:=.func (.func 37) #[] #[.pointer (some ⟨b1,0,none⟩)]) (w':=w) (by simp[execOp,p0,e1,hmf,Result.andThen]) ?_;rw[d0];have hR1:=yP (dst:=some 14) (v:=.func (.func 37) #[] #[.pointer (some ⟨b1,0,none⟩)]) (p:=.any) hr s6 (fun i hi _=>hi);have e14:(a.put (some 14) (.func (.func 37) #[] #[.pointer (some ⟨b1,0,none⟩)])).eval (.tmp 14)=.func (.func 37) #[] #[.pointer (some ⟨b1,0,none⟩)]:=JF (by omega);generalize a.put (some 14) (.func (.func 37) #[] #[.pointer (some ⟨b1,0,none⟩)])=a1 at hR1 e14;refine MX q1 g1 (d:=⟨.fn (.func 37) #[.pointer (some ⟨b1,0,none⟩)],#[]⟩) (w':=w) (by simp[execOp,p1,resolve,e14,Deferred.ofValue]) ?_;rw[d1];refine⟨rfl,yG (fun cs=>step_seq) (yG (fun cs=>step_block) (yG (fun cs=>step_seq) ?_))⟩;rw[h3];have hR1:Rel av w0 E [] [] a1 w e ⟨an 1 (.pb 1 0 0 0::.pb 2 0 0 0::an 64 []),[.var [.str s0,.int .i64 n0],.var [.pb 0 0 0 0],.var [.int .i64 0,.str (bytes []),.str (bytes []),.int .i64 0,.int .i64 0,.sv none 2 [] 0,.int .i64 0,.sv none 2 [] 0,.sv none 9 [] 0]],N,some ([some ((E.at 0).getD 0)],[])⟩:=hR1;have hd1:a1.defers=[]:=hR1.nd;rw[hd1];have hR2:@Rel ⟨some [⟨.fn (.func 37) #[.pointer (some ⟨b1,0,none⟩)],#[]⟩]⟩ av w0 E [] [] { a1 with defers:=[⟨.fn (.func 37) #[.pointer (some ⟨b1,0,none⟩)],#[]⟩] } w e ⟨an 1 (.pb 1 0 0 0::.pb 2 0 0 0::an 64 []),[.var [.str s0,.int .i64 n0],.var [.pb 0 0 0 0],.var [.int .i64 0,.str (bytes []),.str (bytes []),.int .i64 0,.int .i64 0,.sv none 2 [] 0,.int .i64 0,.sv none 2 [] 0,.sv none 9 [] 0]],N,some (xT E 0 [.var [.str (bytes []),.int .i64 0]]++[some b1],[])⟩:=
  @Rel.mk ⟨some [⟨.fn (.func 37) #[.pointer (some ⟨b1,0,none⟩)],#[]⟩]⟩ _ _ _ _ _ _ _ _ _ hR1.toMem hR1.toFram rfl hR1.sz hR1.hN hR1.hs hR1.so hR1.sr
   (fun k b hk=>(hR1.own k b hk).imp id fun⟨h1,h2⟩=>⟨h1,by simp[St.pins,xT]at h2 ⊢;omega⟩) hR1.avl hR1.avn
   (fun k b hk=>by
    simp only[St.pins,xT,nJ,o6]at hk
    match k,hk with
    | 0,hk=>exact hR1.pin 0 b (by simpa [St.pins,xT]using hk)
    | 1,hk=>simp at hk;subst hk;exact⟨hb1,by simp⟩
    | k+2,hk=>simp at hk) (fun L T hp=>by cases hp;simp)
 intro cs;obtain⟨en,w',fr,⟨a',e',st',rfl,hK,hr'⟩,hcomes,hfn,hleav⟩:=@AT.h ⟨some [⟨.fn (.func 37) #[.pointer (some ⟨b1,0,none⟩)],#[]⟩]⟩ _ _ _ _ _ _ _ _ (h b1 [⟨.fn (.func 37) #[.pointer (some ⟨b1,0,none⟩)],#[]⟩]) av w0 _ w e hN hR2 cs;obtain⟨htm,hmode,hdef,hkind⟩:Ending.returned (.tuple a'.tmps)=.returned (.tuple fr.tmps)/\fr.mode=.returning/\fr.defers=[⟨.fn (.func 37) #[.pointer (some ⟨b1,0,none⟩)],#[]⟩]/\fr.kind=.normal:=hleav;have htm:a'.tmps=fr.tmps:=by
  injection htm with htm
  injection htm
 obtain⟨sl',bx',N',pin'⟩:=st';unfold dfK at hK;split at hK
 rotate_left
 ·exact hK.elim
 rename_i s2 b2 hdf;unfold dfS at hdf;split at hdf
 rotate_left
 ·cases hdf
 rename_i s n bs hbx;split at hdf
 rotate_left
 ·cases hdf
 rename_i x b3 hpin;simp only at hbx hpin;subst hbx;subst hpin;cases hdf;obtain⟨rfl,hK⟩:=hK;obtain⟨_,w2,fn,v,hrun,hf,hres,hfin⟩:=@Ml ⟨some [⟨.fn (.func 37) #[.pointer (some ⟨b2,0,none⟩)],#[]⟩]⟩ _ _ _ _ _ _ _ _ _ _ _ _ _ _ _ hr' hlow hN hK;have hc42:=Ng (R:=fun en w''=>en=.returned (.tuple #[])/\w''=w2) (u:=.returning) (fun a42 hd ht=>@Jw ⟨some [⟨.fn (.func 37) #[.pointer (some ⟨b2,0,none⟩)],#[]⟩]⟩ _ _ _ _ _ _ _ _ _ _ _ _ _ _ hr' hd ht) hrun ⟨rfl,rfl⟩;have hL:Leaves prog fn fr.tmps (Mode.fin (.io E [.var [.str (bytes []),.int .i64 0]]) prog 14 [.ag 9,.bool,.str,.int .i64] Q av w0) [⟨.fn (.func 37) #[.pointer (some ⟨b2,0,none⟩)],#[]⟩] .returning w':=by
  refine leaves_cons (f:=37) (args:=#[.pointer (some ⟨b2,0,none⟩)]) (by simp) (Mm _ _) (hc42.mono ?_)
  rintro en u' w'' ⟨rfl,rfl,rfl⟩
  exact⟨v,by rw[<-htm];exact hres,hfin⟩
 obtain⟨en',w3,fr',hR',hs',hfn',hl'⟩:=leaves_steps _ .returning w' fr cs hmode hdef rfl (by rw[hfn];exact hf) hkind hL;exact⟨en',w3,fr',hR',Comes.of_steps hcomes hs',hfn'.trans hfn,hl'⟩
end Go.Proofs.YtldbmnklnpfpfaaGreatDoor
set_option maxRecDepth 100000
namespace Go.Proofs.YtldbmnklnpfpfaaGreatDoor
open Go Go.Proofs Go.Proofs.Tryz Go.IntWalk
def NumI:Prop:=∀(w:ByteArray) (_:w.size<=1073741824) (N:Nat) (Q:QT [.i,.bool]) (_:∀(m:Nat) N',N<=N'->yW (bl w)=some m->Q (m:Int) true N') (_:∀ n N',N<=N'->yW (bl w)=none->Q n false N'),ACalls prog 43 [.i,.bool] [.str w] N Q
theorem u4 {N N':Nat}{v0 v1 v2 v3:Value}:Own N N' (.ag [.lit v0,.lit v1,.lit v2,.lit v3,.j 0,.sl none 2 [] 0,.j 0,.sl none 2 [] 0,.sl none 9 [] 0]):=
 ⟨by simp[D.foot,zA],⟨trivial,trivial,trivial,trivial,trivial,⟨by simp,trivial⟩,trivial,⟨by simp,trivial⟩,⟨by simp,trivial⟩,trivial⟩,by simp[D.foot,zA],by simp[D.foot,zA]⟩
theorem MP (ah:NumI):∀ j:Nat,j<=20->∀ dp:Int,dp+j=20->DO dp (xu false j):=by
 intro j
 induction j with
 | zero=>
   intro _ dp aq s N Q hs hQ;have e1:IntKind.i64.wrap (dp+1)=dp+1:=i64_in _ (by omega);have e2:IntKind.i64.wrap (dp+1 - 1)=dp:=by rw[i64_in _ (by omega)];omega
   refine yi N s dp Q λE=>Ke λb1 dd=>?_;rw[e1];exact y4 (h:=Br.dec (λ_=>⟨rfl,zn,λN1 ai=>by rw[e2];exact hQ _ _ _ _ ai (.no rfl hs)⟩) λh=>by omega) ..
 | succ j ih=>
   intro hj dp aq s N Q hs hQ;have e1:IntKind.i64.wrap (dp+1)=dp+1:=i64_in _ (by omega);have e2:IntKind.i64.wrap (dp+1 - 1)=dp:=by rw[i64_in _ (by omega)];omega
   have hT:=ih (by omega) (dp+1) (by omega);rw[<-e2]at hQ;refine yi N s dp Q λE=>Ke λb1 dd=>?_;rw[e1];have fin:∀ {m:Option (Tm × Bl)},xu false (j+1) (bl s)=m->∀ N1,N<=N1->∀ d b s' N',N1<=N'->Ri (TO N1 N') m d b s'->N1<=N'->Bel N' d->b1=b1/\zO E [.var [.str (bytes []),.j 0]]/\∀ N3,N'<=N3->Q d b s' (IntKind.i64.wrap (dp+1 - 1)) N3:=λ{m} I N1 h1 d b s' N' h hx _ _=>⟨rfl,zn,λN3 h3=>hQ _ _ _ _ (by omega) (by rw[I];exact hx.up h1 h3)⟩
   refine y4 (h:=Br.dec (λh=>by omega) λ_ N1 ai=>?_) ..;refine y9 hs _ _ N1 _ (λr N2 au V J _=>Br.of (λ_ N3 aw=>tZ N3 1 true _ (Br.of (λ_ N4 aa=>fin (by simp only[xu,show pre [35,116] (bl s)=some (bl r)from V]) N3 (by omega) _ _ _ N4 aa (.ok (t:=tBl 1) rfl ⟨wO 3 1 (by decide),u4⟩ J)) λh=>by cases h)) λh=>by cases h) λN2 au h1 _=>Br.of (λh=>by cases h) λ_ N3 aw=>?_;have g1:pre [35,116] (bl s)=none:=h1;refine y9 hs _ _ N3 _ (λr N4 aa V J _=>Br.of (λ_ N5 ax=>tZ N5 0 true _ (Br.of (λ_ N6 ab=>fin (by simp only[xu,g1,show pre [35,102] (bl s)=some (bl r)from V]) N5 (by omega) _ _ _ N6 ab (.ok (t:=tBl 0) rfl ⟨wO 3 0 (by decide),u4⟩ J)) λh=>by cases h)) λh=>by cases h) λN4 aa h2 _=>Br.of (λh=>by cases h) λ_ N5 ax=>?_;have g2:pre [35,102] (bl s)=none:=h2;refine y9 hs _ _ N5 _ (λr N6 ab V J _=>Br.of (λ_ N7 ay=>ti hT (k:=10) (nm:=[]) (by decide) 1 rfl (by omega) _ _ J N7 _ (fin (by simp only[xu,g1,g2,show pre [60] (bl s)=some (bl r)from V];rfl) N7 (by omega))) λh=>by cases h) λN6 ab h3 _=>Br.of (λh=>by cases h) λ_ N7 ay=>?_;have g3:pre [60] (bl s)=none:=h3;refine y9 hs _ _ N7 _ (λr N8 az V J _=>Br.of (λ_ N9 a1=>ti hT (k:=11) (nm:=[]) (by decide) 1 rfl (by omega) _ _ J N9 _ (fin (by simp only[xu,g1,g2,g3,show pre [126] (bl s)=some (bl r)from V];rfl) N9 (by omega))) λh=>by cases h) λN8 az h4 _=>Br.of (λh=>by cases h) λ_ N9 a1=>?_;have g4:pre [126] (bl s)=none:=h4;refine y9 hs _ _ N9 _ (λr a6 aj V J _=>Br.of (λ_ Y ak=>JM hT J Y _ (fin (by simp only[xu,g1,g2,g3,g4,show pre [40] (bl s)=some (bl r)from V]) Y (by omega))) λh=>by cases h) λa6 aj h5 _=>Br.of (λh=>by cases h) λ_ Y ak=>?_;have g5:pre [40] (bl s)=none:=h5;have em:xu false (j+1) (bl s)=ER false (bl s):=by simp only[xu,g1,g2,g3,g4,g5]
   refine Dk hs _ Y _ λr bc ba h2 J _ a7 bb=>ah _ (xf hs) a7 _ (λm a8 al I _=>Br.of (λ_ O ao=>EI O m _ λac U=>fin em O (by omega) _ _ _ ac U (.ok (t:=J0 m) ?_ ⟨wO 2 m (by decide),u4⟩ J)) λh=>by cases h) λn a8 al I _=>Br.of (λh=>by cases h) λ_ O ao=>EJ O _ _ λac U=>fin em O (by omega) _ _ _ ac U ?_
   ·have I:yW (word (bl s)).1=some m:=I;rw[h2];cases hl:bl s with
    | nil=>rw[hl]at I;rw[show(word ([]:Bl)).1=[]from rfl,Dt (by simp)]at I;cases I
    | cons c l=>rw[hl]at I;simp only[ER,I]
   ·have I:yW (word (bl s)).1=none:=I;by_cases Z:(word (bl s)).1=[]
    ·have ae:(!(ByteArray.toList (⟨(word (bl s)).1.toArray⟩:ByteArray)==ByteArray.toList (bytes [])))=false:=by rw[xN,Bool.not_eq_false',oi,Z];rfl
     rw[ae];refine .no ?_ J;cases hl:bl s with
     | nil=>rfl
     | cons c l=>rw[hl]at I Z;simp only[ER,I];rw[if_pos Z]
    ·have ae:(!(ByteArray.toList (⟨(word (bl s)).1.toArray⟩:ByteArray)==ByteArray.toList (bytes [])))=true:=by rw[xN,nC,nW];intro h;exact Z (oN bl h)
     rw[ae];refine .ok (t:=tVr (word (bl s)).1) ?_ ⟨wO 1 0 (o8 (xf hs) (by omega)),u4⟩ J;rw[h2];cases hl:bl s with
     | nil=>rw[hl]at Z;exact absurd rfl Z
     | cons c l=>rw[hl]at I Z;simp only[ER,I];rw[if_neg Z]
end Go.Proofs.YtldbmnklnpfpfaaGreatDoor
namespace Go.Proofs
namespace YtldbmnklnpfpfaaGreatDoor
open Go Go.Proofs Go.Proofs.Tryz Go.RowKit Go.Shelf Go.Sort Go.Lib
def atoiR:Go.Shelf.Ren:=⟨λx=>match x with | 129=>164 | 171=>61 | 172=>105 | 205=>170 | 243=>92 | 244=>130 | 245=>131 | 246=>121 | 247=>152 | 279=>153 | 280=>154 | 281=>155 | 282=>156 | 283=>143 | 284=>144 | 285=>145 | 286=>146 | 287=>168 | 316=>169 | 317=>163 | 318=>165 | 319=>166 | 320=>167 | 321=>175 | 322=>176 | 337=>173 | 338=>174 | n=>n,λx=>match x with | 0=>0 | 2=>2 | 3=>3 | 4=>4 | 5=>5 | 9=>9 | 20=>20 | 21=>21 | 37=>63 | 46=>123 | 51=>94 | 53=>142 | 75=>75 | 76=>76 | 80=>60 | 85=>148 | 127=>100 | 143=>169 | 145=>171 | 167=>147 | 168=>150 | 171=>141 | 173=>145 | 175=>160 | 210=>163 | 212=>157 | 213=>158 | 232=>173 | 233=>174 | n=>n,λx=>match x with | 15=>6 | 16=>7 | 17=>5 | 18=>8 | 19=>9 | n=>n⟩
theorem Ko:LaysC.n172 Tryz.prog atoiR where
 mixed:=by kernel_rfl
 f129:=Tryz.func164.trans (oN some (by kernel_rfl))
 f171:=Tryz.func61.trans (oN some (by kernel_rfl))
 f172:=Tryz.func105.trans (oN some (by kernel_rfl))
 f205:=Tryz.func170.trans (oN some (by kernel_rfl))
 f243:=Tryz.func92.trans (oN some (by kernel_rfl))
 f244:=Tryz.func130.trans (oN some (by kernel_rfl))
 f245:=Tryz.func131.trans (oN some (by kernel_rfl))
 f246:=Tryz.func121.trans (oN some (by kernel_rfl))
 f247:=Tryz.func152.trans (oN some (by kernel_rfl))
 f279:=Tryz.func153.trans (oN some (by kernel_rfl))
 f280:=Tryz.func154.trans (oN some (by kernel_rfl))
 f281:=Tryz.func155.trans (oN some (by kernel_rfl))
 f282:=Tryz.func156.trans (oN some (by kernel_rfl))
 f283:=Tryz.func143.trans (oN some (by kernel_rfl))
 f284:=Tryz.func144.trans (oN some (by kernel_rfl))
 f285:=Tryz.func145.trans (oN some (by kernel_rfl))
 f286:=Tryz.func146.trans (oN some (by kernel_rfl))
 f287:=Tryz.func168.trans (oN some (by kernel_rfl))
 f316:=Tryz.func169.trans (oN some (by kernel_rfl))
 f317:=Tryz.func163.trans (oN some (by kernel_rfl))
 f318:=Tryz.func165.trans (oN some (by kernel_rfl))
 f319:=Tryz.func166.trans (oN some (by kernel_rfl))
 f320:=Tryz.func167.trans (oN some (by kernel_rfl))
 f321:=Tryz.func175.trans (oN some (by kernel_rfl))
 f322:=Tryz.func176.trans (oN some (by kernel_rfl))
 f337:=Tryz.func173.trans (oN some (by kernel_rfl))
 f338:=Tryz.func174.trans (oN some (by kernel_rfl))
 t0:=Tryz.underlying0
 a0:=Tryz.isAgg0
 z0:=Tryz.sizeOf0
 v0:=Tryz.zeroValue0
 t2:=Tryz.underlying2
 a2:=Tryz.isAgg2
 z2:=Tryz.sizeOf2
 v2:=Tryz.zeroValue2
 t3:=Tryz.underlying3
 a3:=Tryz.isAgg3
 z3:=Tryz.sizeOf3
 v3:=Tryz.zeroValue3
 t4:=Tryz.underlying4
 a4:=Tryz.isAgg4
 z4:=Tryz.sizeOf4
 v4:=Tryz.zeroValue4
 t5:=Tryz.underlying5
 a5:=Tryz.isAgg5
 z5:=Tryz.sizeOf5
 v5:=Tryz.zeroValue5
 t9:=Tryz.underlying9
 a9:=Tryz.isAgg9
 z9:=Tryz.sizeOf9
 v9:=Tryz.zeroValue9
 t20:=Tryz.underlying20
 a20:=Tryz.isAgg20
 z20:=Tryz.sizeOf20
 v20:=Tryz.zeroValue20
 t21:=Tryz.underlying21
 a21:=Tryz.isAgg21
 z21:=Tryz.sizeOf21
 v21:=Tryz.zeroValue21
 t37:=Tryz.underlying63
 a37:=Tryz.isAgg63
 z37:=Tryz.sizeOf63
 v37:=Tryz.zeroValue63
 t46:=Tryz.underlying123
 a46:=Tryz.isAgg123
 z46:=Tryz.sizeOf123
 v46:=Tryz.zeroValue123
 t51:=Tryz.underlying94
 a51:=Tryz.isAgg94
 z51:=Tryz.sizeOf94
 v51:=Tryz.zeroValue94
 t53:=Tryz.underlying142
 a53:=Tryz.isAgg142
 z53:=Tryz.sizeOf142
 v53:=Tryz.zeroValue142
 t75:=Tryz.underlying75
 a75:=Tryz.isAgg75
 z75:=Tryz.sizeOf75
 v75:=Tryz.zeroValue75
 t76:=Tryz.underlying76
 a76:=Tryz.isAgg76
 z76:=Tryz.sizeOf76
 v76:=Tryz.zeroValue76
 t85:=Tryz.underlying148
 a85:=Tryz.isAgg148
 z85:=Tryz.sizeOf148
 v85:=Tryz.zeroValue148
 t127:=Tryz.underlying100
 a127:=Tryz.isAgg100
 z127:=Tryz.sizeOf100
 v127:=Tryz.zeroValue100
 t143:=Tryz.underlying169
 a143:=Tryz.isAgg169
 z143:=Tryz.sizeOf169
 v143:=Tryz.zeroValue169
 t145:=Tryz.underlying171
 a145:=Tryz.isAgg171
 z145:=Tryz.sizeOf171
 v145:=Tryz.zeroValue171
 t167:=Tryz.underlying147
 a167:=Tryz.isAgg147
 z167:=Tryz.sizeOf147
 v167:=Tryz.zeroValue147
 t168:=Tryz.underlying150
 a168:=Tryz.isAgg150
 z168:=Tryz.sizeOf150
 v168:=Tryz.zeroValue150
 t171:=Tryz.underlying141
 a171:=Tryz.isAgg141
 z171:=Tryz.sizeOf141
 v171:=Tryz.zeroValue141
 t173:=Tryz.underlying145
 a173:=Tryz.isAgg145
 z173:=Tryz.sizeOf145
 v173:=Tryz.zeroValue145
 t175:=Tryz.underlying160
 a175:=Tryz.isAgg160
 z175:=Tryz.sizeOf160
 v175:=Tryz.zeroValue160
 t210:=Tryz.underlying163
 a210:=Tryz.isAgg163
 z210:=Tryz.sizeOf163
 v210:=Tryz.zeroValue163
 t212:=Tryz.underlying157
 a212:=Tryz.isAgg157
 z212:=Tryz.sizeOf157
 v212:=Tryz.zeroValue157
 t213:=Tryz.underlying158
 a213:=Tryz.isAgg158
 z213:=Tryz.sizeOf158
 t232:=Tryz.underlying173
 a232:=Tryz.isAgg173
 z232:=Tryz.sizeOf173
 v232:=Tryz.zeroValue173
 t233:=Tryz.underlying174
 a233:=Tryz.isAgg174
 z233:=Tryz.sizeOf174
 v233:=Tryz.zeroValue174
 g15:=by kernel_rfl
 g16:=by kernel_rfl
 g17:=by kernel_rfl
 g18:=by kernel_rfl
 g19:=by kernel_rfl
 t80:=Tryz.underlying60
 a80:=Tryz.isAgg60
 z80:=Tryz.sizeOf60
 v80:=Tryz.zeroValue60
 i0:=by kernel_rfl
 i2:=by kernel_rfl
 i3:=by kernel_rfl
 i4:=by kernel_rfl
 i5:=by kernel_rfl
 i9:=by kernel_rfl
 i20:=by kernel_rfl
 i21:=by kernel_rfl
 i37:=by kernel_rfl
 i46:=by kernel_rfl
 i51:=by kernel_rfl
 i53:=by kernel_rfl
 i75:=by kernel_rfl
 i76:=by kernel_rfl
 i80:=by kernel_rfl
 i85:=by kernel_rfl
 i127:=by kernel_rfl
 i143:=by kernel_rfl
 i145:=by kernel_rfl
 i167:=by kernel_rfl
 i168:=by kernel_rfl
 i171:=by kernel_rfl
 i173:=by kernel_rfl
 i175:=by kernel_rfl
 i210:=by kernel_rfl
 i212:=by kernel_rfl
 i232:=by kernel_rfl
 i233:=by kernel_rfl
 m15:=by kernel_rfl
 m16:=by kernel_rfl
 m17:=by kernel_rfl
 m18:=by kernel_rfl
 m19:=by kernel_rfl
 c0:=by kernel_rfl
 c2:=by kernel_rfl
 c3:=by kernel_rfl
 c4:=by kernel_rfl
 c5:=by kernel_rfl
 c9:=by kernel_rfl
 c20:=by kernel_rfl
 c21:=by kernel_rfl
 c37:=by kernel_rfl
 c46:=by kernel_rfl
 c51:=by kernel_rfl
 c53:=by kernel_rfl
 c75:=by kernel_rfl
 c76:=by kernel_rfl
 c80:=by kernel_rfl
 c85:=by kernel_rfl
 c127:=by kernel_rfl
 c143:=by kernel_rfl
 c145:=by kernel_rfl
 c167:=by kernel_rfl
 c168:=by kernel_rfl
 c171:=by kernel_rfl
 c173:=by kernel_rfl
 c175:=by kernel_rfl
 c210:=by kernel_rfl
 c212:=by kernel_rfl
 c213:=by kernel_rfl
 c232:=by kernel_rfl
 c233:=by kernel_rfl
def JB (a:Nat)(l:Bl):Nat:=l.foldl (λa c=>10*a+(c.toNat - 48)) a
theorem FS:∀(l:Bl)(a:Nat),a<=JB a l
 | [],a=>oG _
 | c::l,a=>o8 (by omega) (FS l (10*a+(c.toNat - 48)))
theorem KS:∀(l:Bl)(a:Nat),(∀ c∈l,rN c=true)->JB a l<=999999->parseUint10 a l=.ok (JB a l)
 | [],a,_,_=>rfl
 | c::l,a,hd,I=>by have hc:=hd c (by simp);simp only[rN,oi]at hc;have O:10*a+(c.toNat - 48)<=999999:=o8 (FS l _) I;unfold parseUint10;rw[if_pos hc,if_neg (by omega),if_neg (by omega),show a*10+(c.toNat - 48)=10*a+(c.toNat - 48) by omega];exact KS l _ (λx J=>hd x (by simp[J])) I
theorem Iq {m:Nat}(J:m<=999999):atoiAll (decDigits m)=.ok (m:Int):=by have hd:=wv m;have I:JB 0 (decDigits m)=m:=FT m;obtain⟨c,l,e⟩:=Be m;rw[e]at hd I ⊢;have hc:=hd c (by simp);simp only[rN,oi]at hc;rw[atoiAll_plain c l (by omega) (by omega)];unfold parseMag;rw[if_neg (by simp),KS _ _ hd (by omega),I];show(if 9223372036854775808<=m then NumEnd.range else NumEnd.ok (m:Int))=_;rw[if_neg (by omega)]
theorem KL {l:Bl}{m:Nat}(h:yW l=some m):atoiAll l=.ok (m:Int):=by obtain⟨I,rfl⟩:=r9 h;exact Iq I
theorem JJ {w:World}(h:GlobIs w):(∃ I,w.cell? ⟨(atoiR.g 15),0,none⟩=some I/\(I=.nilIface\/∃ J O,I=.iface J O))/\∃ I,w.cell? ⟨(atoiR.g 16),0,none⟩=some I/\(I=.nilIface\/∃ J O,I=.iface J O):=by
 refine⟨?_,?_⟩
 ·obtain⟨c,t,fz,U,v,rfl,V⟩:=h.b (atoiR.g 15,λc=>∃ v,c=#[v]/\(v=.nilIface\/∃ J O,v=.iface J O)) (by simp[BH,atoiR]);exact⟨v,by simp[World.cell?,U],V⟩
 ·obtain⟨c,t,fz,U,v,rfl,V⟩:=h.b (atoiR.g 16,λc=>∃ v,c=#[v]/\(v=.nilIface\/∃ J O,v=.iface J O)) (by simp[BH,atoiR]);exact⟨v,by simp[World.cell?,U],V⟩
theorem Ir (s:ByteArray)(hs:s.size<=1073741824)(w:World)(V:GlobIs w):Calls Tryz.prog 105 #[.string s] w λe w'=>∃ v J,e=.returned (.tuple #[.int .i64 v,J])/\Below w.heap.size w w'/\(J=.nilIface/\atoiAll (bl s)=.ok v\/(∃ t p,J=.iface t (.pointer (some p)))/\∀ v,atoiAll (bl s)≠.ok v):=by
 obtain⟨⟨Y,Z,h2⟩,O,h3,h4⟩:=JJ V;rcases h:atoiAll (bl s)with v | _ | _
 ·exact(Any.strconv_Atoi_ok Ko s (by omega) v h w).mono λe w' ⟨I,hw⟩=>⟨v,.nilIface,I,by
   rcases hw with rfl | ⟨t,rfl⟩
   ·exact Below.refl _ _
   ·exact Lib.bytesWorld_below _ _ _,.inl ⟨rfl,rfl⟩⟩
 ·exact(Any.strconv_Atoi_syntax Ko s (by omega) h Y w Z h2).mono λe w' ⟨N,I,_,_,U⟩=>⟨_,_,I,U,.inr ⟨⟨_,_,rfl⟩,by simp⟩⟩
 ·exact(Any.strconv_Atoi_range Ko s (by omega) h O w h3 h4).mono λe w' ⟨N,I,_,_,U⟩=>⟨_,_,I,U,.inr ⟨⟨_,_,rfl⟩,by simp⟩⟩
theorem GT (w:World)(k:Nat)(os:Array Obj):Below w.heap.size w (Go.Sort.grow (w.drewN k) os):=by
 have I:(Go.Sort.grow (w.drewN k) os).heap.size=w.heap.size+os.size:=by unfold Go.Sort.grow;rw[mG];rfl
 exact⟨rfl,rfl,rfl,by rw[I];omega,λb J=>Array.getElem?_append_left J⟩
theorem GR {w w':World}(h:GlobIs w)(I:Below w.heap.size w w'):GlobIs w':=h.keep (λb J=>I.block b (h.lt J)) λx O=>I.block x.1 (h.ltb O)
theorem K6 (n:Int)(I : -9223372036854775808<=n)(J:n<=9223372036854775807)(w:World)(O:GlobIs w):Calls Tryz.prog 27 #[.int .i64 n] w λe w'=>e=.returned (.string ⟨(Lib.itoa n).toArray⟩)/\Below w.heap.size w w':=by
 have U:∀ args w,(callFunc 61 args).run Tryz.prog w=.ok (.enter 61 args) w:=enters_of Tryz.func61 (by kernel_rfl) rfl
 go_enter Tryz.func27,Tryz.ntmps27
 go_wp2_with (go_at_fn 61;refine(Any.strconv_Itoa itoaL n I J _ (Fa O)).mono ?_;rintro e w' ⟨rfl,k,os,rfl⟩)
 go_ret
 exact⟨rfl,GT _ _ _⟩
theorem Gu (n:Int)(w:World):Calls Tryz.prog 25 #[.int .i64 n,.int .i64 0,.int .i64 999999] w λe w'=>e=.returned (.bool (decide (0<=n/\n<=999999)))/\w'=w:=by
 go_enter Tryz.func25,Tryz.ntmps25
 go_wp2
 all_goals(go_ret;refine⟨?_,rfl⟩;congr 2;simp;omega)
set_option maxHeartbeats 4000000 in
set_option maxRecDepth 100000 in
theorem E4 (s:ByteArray) (hs:s.size<=1073741824) (w:World) (hg:GlobIs w):Calls Tryz.prog 77 #[.string s,.int .i64 0,.int .i64 999999] w fun e w'=>∃ n b,e=.returned (.tuple #[.int .i64 n,.bool b])/\Below w.heap.size w w'/\(b=true->∃ m:Nat,n=m/\yW (bl s)=some m)/\(b=false->yW (bl s)=none):=by
 have eA:∀ args w,(callFunc 105 args).run Tryz.prog w=.ok (.enter 105 args) w:=enters_of Tryz.func105 (by kernel_rfl) rfl;have eF:∀ args w,(callFunc 27 args).run Tryz.prog w=.ok (.enter 27 args) w:=enters_of Tryz.func27 (by kernel_rfl) rfl;have eW:∀ args w,(callFunc 25 args).run Tryz.prog w=.ok (.enter 25 args) w:=enters_of Tryz.func25 (by kernel_rfl) rfl
 go_enter Tryz.func77,Tryz.ntmps77
 go_wp2_with (go_at_fn 105;refine(Ir s hs _ hg).mono ?_)
 rintro e w1 ⟨v,er,rfl,hB,hc⟩
 rcases hc with⟨rfl,hv⟩ | ⟨⟨t,p,rfl⟩,hn⟩
 ·obtain⟨hv0,hv1⟩:=atoiAll_bounds hv
  go_wp2_with (go_at_fn 27;refine(K6 v hv0 hv1 _ (GR hg hB)).mono ?_)
  rintro e w2 ⟨rfl,hB2⟩
  have hB3:=hB.trans (hB2.mono hB.size);have hm:∀ m:Nat,yW (bl s)=some m->v=m/\m<=999999:=fun m h=>by
   have h2:=KL h;rw[hv]at h2;injection h2 with h2
   exact⟨h2,(r9 h).1⟩
  generalize hz:(⟨(itoa v).toArray⟩:ByteArray)=z;have hne:∀ W,(binOp .neq 9 (.string z) (.string s)).run Tryz.prog W=.ok (.bool (!(z.toList==s.toList))) W:=fun _=>by first | rfl | kernel_rfl
  rw[xN]at hne;by_cases hq:z=s
  ·rw [mB hq,Bool.not_true]at hne
   go_wp2_with (go_at_fn 25;refine(Gu v _).mono ?_;rintro e w3 ⟨rfl,rfl⟩)
   ·rename_i hr
    go_ret2
    refine⟨_,_,rfl,hB3,by simp,fun _=>?_⟩;cases h:yW (bl s)with
    | none=>rfl
    | some m=>obtain⟨rfl,h2⟩:=hm m h;exfalso;simp at hr;omega
   ·rename_i hr
    go_ret2
    refine⟨_,_,rfl,hB3,fun _=>⟨v.toNat,?_,?_⟩,by simp⟩
    ·simp at hr;omega
    ·simp at hr;have e2:bl s=decDigits v.toNat:=by
      rw[<-hq,<-hz];show itoa v=_
      conv=>lhs;rw[show v=(v.toNat:Int) by omega,itoa_nonneg]
     rw[e2];exact AL (by omega)
  ·rw [nq hq,Bool.not_false]at hne
   go_wp2
   all_goals first
    | (exfalso;exact hq (DT (by assumption)))
    | (go_ret2
       refine⟨_,_,rfl,hB3,by simp,fun _=>?_⟩;cases h:yW (bl s)with
       | none=>rfl
       | some m=>obtain⟨rfl,h2⟩:=hm m h;exfalso;refine hq (hz.symm.trans (zZ ?_));show itoa (m:Int)=bl s;rw[itoa_nonneg];exact(r9 h).2)
 ·go_wp2
  go_ret2
  refine⟨_,_,rfl,hB,by simp,fun _=>?_⟩;cases h:yW (bl s)with
  | none=>rfl
  | some m=>exact absurd (KL h) (hn _)
theorem HM (s:ByteArray)(hs:s.size<=1073741824)(N:Nat)(Q:QT [.int .i64,.bool])(Y:∀(m:Nat) N',N<=N'->yW (bl s)=some m->Q (m:Int) true N')(Z:∀ n N',N<=N'->yW (bl s)=none->Q n false N'):ACalls prog 77 [.int .i64,.bool] [.str s,.int .i64 0,.int .i64 999999] N Q:=by
 refine⟨by kernel_rfl,λav w0 hN J _=>(E4 s hs w0 J.g).mono λe w' ⟨n,b,he,I,O,U⟩=>?_⟩;subst he;subst hN;have hq:Q n b w'.heap.size:=by
  cases b with
  | true=>obtain⟨m,rfl,hm⟩:=O rfl;exact Y m _ I.size hm
  | false=>exact Z n _ I.size (U rfl)
 refine⟨[.int .i64 n,.bool b],[],[],?_⟩;exact { q := ⟨rfl,hq⟩,v:=rfl,m:=⟨rfl,by simp,by simp,by simp,λk j b h=>by obtain⟨_,h2,_⟩:=h;simp[Env.at]at h2⟩,ok:=λp V=>by simp at V;rcases V with rfl | rfl<;>trivial,fresh:=λk b h=>by simp[Env.at]at h,size:=I.size,old:=λb hb=>I.block b hb,fz:=λ_ _ _ _ _ _=>trivial,ku:=⟨I.os,I.output⟩ }
theorem L6:NumI:=λw O N Q U V=>rE N w Q λN1 Y=>HM w O N1 _ (λm Z I hm _ N3 J=>U m N3 (by omega) hm) λn Z I hn _ N3 J=>V n N3 (by omega) hn
def trimR:Go.Shelf.Ren:=⟨λx=>match x with | 120=>140 | 163=>16 | 197=>59 | 199=>49 | 237=>48 | 238=>50 | 260=>91 | 261=>84 | 271=>114 | 272=>83 | 273=>85 | 311=>112 | 312=>113 | 315=>111 | n=>n,λx=>match x with | 0=>0 | 3=>3 | 4=>4 | 5=>5 | 9=>9 | 21=>21 | 37=>63 | 40=>65 | 46=>123 | 49=>112 | 51=>94 | 105=>78 | 119=>66 | 138=>125 | 139=>126 | 141=>96 | 193=>108 | 194=>109 | 196=>111 | 198=>114 | 201=>117 | 226=>136 | 227=>137 | n=>n,λx=>match x with | 0=>0 | 3=>3 | 4=>4 | 6=>1 | n=>n⟩
theorem Nk:Lays.n163 Tryz.prog trimR where
 mixed:=by kernel_rfl
 f120:=Tryz.func140.trans (oN some (by kernel_rfl))
 f163:=Tryz.func16.trans (oN some (by kernel_rfl))
 f197:=Tryz.func59.trans (oN some (by kernel_rfl))
 f199:=Tryz.func49.trans (oN some (by kernel_rfl))
 f237:=Tryz.func48.trans (oN some (by kernel_rfl))
 f238:=Tryz.func50.trans (oN some (by kernel_rfl))
 f260:=Tryz.func91.trans (oN some (by kernel_rfl))
 f261:=Tryz.func84.trans (oN some (by kernel_rfl))
 f271:=Tryz.func114.trans (oN some (by kernel_rfl))
 f272:=Tryz.func83.trans (oN some (by kernel_rfl))
 f273:=Tryz.func85.trans (oN some (by kernel_rfl))
 f311:=Tryz.func112.trans (oN some (by kernel_rfl))
 f312:=Tryz.func113.trans (oN some (by kernel_rfl))
 f315:=Tryz.func111.trans (oN some (by kernel_rfl))
 t0:=Tryz.underlying0
 a0:=Tryz.isAgg0
 z0:=Tryz.sizeOf0
 v0:=Tryz.zeroValue0
 t3:=Tryz.underlying3
 a3:=Tryz.isAgg3
 z3:=Tryz.sizeOf3
 v3:=Tryz.zeroValue3
 t4:=Tryz.underlying4
 a4:=Tryz.isAgg4
 z4:=Tryz.sizeOf4
 v4:=Tryz.zeroValue4
 t5:=Tryz.underlying5
 a5:=Tryz.isAgg5
 z5:=Tryz.sizeOf5
 v5:=Tryz.zeroValue5
 t9:=Tryz.underlying9
 a9:=Tryz.isAgg9
 z9:=Tryz.sizeOf9
 v9:=Tryz.zeroValue9
 t21:=Tryz.underlying21
 a21:=Tryz.isAgg21
 z21:=Tryz.sizeOf21
 v21:=Tryz.zeroValue21
 t37:=Tryz.underlying63
 a37:=Tryz.isAgg63
 z37:=Tryz.sizeOf63
 v37:=Tryz.zeroValue63
 t40:=Tryz.underlying65
 a40:=Tryz.isAgg65
 z40:=Tryz.sizeOf65
 v40:=Tryz.zeroValue65
 t46:=Tryz.underlying123
 a46:=Tryz.isAgg123
 z46:=Tryz.sizeOf123
 v46:=Tryz.zeroValue123
 t49:=Tryz.underlying112
 a49:=Tryz.isAgg112
 z49:=Tryz.sizeOf112
 v49:=Tryz.zeroValue112
 t51:=Tryz.underlying94
 a51:=Tryz.isAgg94
 z51:=Tryz.sizeOf94
 v51:=Tryz.zeroValue94
 t105:=Tryz.underlying78
 a105:=Tryz.isAgg78
 z105:=Tryz.sizeOf78
 v105:=Tryz.zeroValue78
 t119:=Tryz.underlying66
 a119:=Tryz.isAgg66
 z119:=Tryz.sizeOf66
 t138:=Tryz.underlying125
 a138:=Tryz.isAgg125
 z138:=Tryz.sizeOf125
 v138:=Tryz.zeroValue125
 t139:=Tryz.underlying126
 a139:=Tryz.isAgg126
 z139:=Tryz.sizeOf126
 v139:=Tryz.zeroValue126
 t141:=Tryz.underlying96
 a141:=Tryz.isAgg96
 z141:=Tryz.sizeOf96
 v141:=Tryz.zeroValue96
 t193:=Tryz.underlying108
 a193:=Tryz.isAgg108
 z193:=Tryz.sizeOf108
 v193:=Tryz.zeroValue108
 t194:=Tryz.underlying109
 a194:=Tryz.isAgg109
 z194:=Tryz.sizeOf109
 v194:=Tryz.zeroValue109
 t196:=Tryz.underlying111
 a196:=Tryz.isAgg111
 z196:=Tryz.sizeOf111
 v196:=Tryz.zeroValue111
 t198:=Tryz.underlying114
 a198:=Tryz.isAgg114
 z198:=Tryz.sizeOf114
 v198:=Tryz.zeroValue114
 t201:=Tryz.underlying117
 a201:=Tryz.isAgg117
 z201:=Tryz.sizeOf117
 v201:=Tryz.zeroValue117
 t226:=Tryz.underlying136
 a226:=Tryz.isAgg136
 z226:=Tryz.sizeOf136
 v226:=Tryz.zeroValue136
 t227:=Tryz.underlying137
 a227:=Tryz.isAgg137
 z227:=Tryz.sizeOf137
 v227:=Tryz.zeroValue137
 g0:=by kernel_rfl
 g3:=by kernel_rfl
 g4:=by kernel_rfl
 g6:=by kernel_rfl
theorem trimX:Space.Extra Tryz.prog trimR where
 gNamed:=by kernel_rfl
theorem vR {b:UInt8}(I:isSp b=false):∀ {l:Bl},b∈l->b∈l.dropWhile isSp
 | c::l,h=>by
   rw[List.dropWhile_cons];split
   ·rename_i hc;rcases oH.1 h with rfl | h
    ·rw[I]at hc;cases hc
    ·exact vR I h
   ·exact h
theorem J1 {b:UInt8}(I:isSp b=false){l:Bl}(h:b∈l):b∈trimSpace l:=
 mL.2 (vR I (mL.2 (vR I h)))
theorem GS {w : World}(h : GlobIs w) : Lib.TabIs prog w "strings.asciiSpace" .u8 Lib.asciiSpaceTab := by obtain ⟨c,t,fz,I,hc⟩:=h.b (trimR.g 0,λc=>c=(Lib.asciiSpaceTab.map λn=>Value.int .u8 n).toArray) (by simp [BH,trimR]);unfold Lib.TabIs World.var?;rw [trimX.gNamed];simp only [oI,I];exact oN some hc
theorem L8 (s:ByteArray)(hs:s.size<=1073741824)(ha:∀ c∈bl s,c.toNat<128){b:UInt8}(O:b∈bl s)(U:isSp b=false)(N:Nat)(Q:QT [.str])(hQ:∀ z N',N<=N'->z≠bytes []->Q z N'):ACalls prog 16 [.str] [.str s] N Q:=
 ⟨by kernel_rfl,λav w0 hN V _=>(Any.strings_TrimSpace Nk trimX s w0 (by omega) (λj c h=>ha c (oB h)) (GS V.g)).mono λe w ⟨he,hw⟩=>by
  subst he;subst hN;have I:RowKit.Below w0.heap.size w0 w:=hw ▸ Lib.bytesWorld_below _ _ _;have Y:(⟨(Lib.trimSpace s.data.toList).toArray⟩:ByteArray)≠bytes []:=λh=>by have J:=J1 U O;rw[show trimSpace (bl s)=[]from oN bl h]at J;cases J
  refine⟨[.str ⟨(Lib.trimSpace s.data.toList).toArray⟩],[],[],?_⟩;exact { q:=hQ _ _ I.size Y,v:=rfl,m:=⟨rfl,by simp,by simp,by simp,λk j b h=>by obtain⟨_,J,_⟩:=h;simp[Env.at]at J⟩,ok:=λp Z=>by simp at Z;subst Z;trivial,fresh:=λk b h=>by simp[Env.at]at h,size:=I.size,old:=λb O=>I.block b O,fz:=λ_ _ _ _ _ _=>trivial,ku:=⟨I.os,I.output⟩ }⟩
end YtldbmnklnpfpfaaGreatDoor
end Go.Proofs
set_option maxRecDepth 100000
namespace Go.Proofs.YtldbmnklnpfpfaaGreatDoor
open Go Go.Proofs Go.Proofs.Tryz Go.IntWalk
def An (s:ByteArray):Prop:=∀ c∈bl s,c.toNat<128
theorem zH {a b:ByteArray}(I:An a)(J:An b):An (a++b):=λc hc=>by
 have h:c∈bl a++bl b:=by rw[<-zL];exact hc
 rcases oP.1 h with h | h
 ·exact I c h
 ·exact J c h
theorem L0 {s:ByteArray}(h:∀ b∈bl s,idC b=true):An s:=λc hc=>by
 have:=h c hc
 simp only[idC,oi]at this;omega
theorem ET {s:ByteArray}(h:xc s=true):An s:=L0 (nmL h).id
theorem Kl {t:Ty}(O:Wf t):An (Ai t):=by
 induction O with
 | int=>unfold An;decide
 | bool=>unfold An;decide
 | fn _ _ I J=>rw[Aj];exact zH (zH (zH (zH (by unfold An;decide) I) (by unfold An;decide)) J) (by unfold An;decide)
 | code _ I=>rw[ui];exact zH (zH (by unfold An;decide) I) (by unfold An;decide)
theorem FM {b:ByteArray}(I:An b):∀ {l:List ByteArray},(∀ s∈l,An s)->An (uJ b l)
 | [],_=>by intro c hc;cases hc
 | s::l,h=>zH (zH I (h s (by simp))) (FM I λx J=>h x (by simp[J]))
theorem Ik {b:ByteArray}(I:An b):∀ {l:List ByteArray},(∀ s∈l,An s)->An (xl b l)
 | [],_=>by intro c hc;cases hc
 | s::l,h=>zH (h s (by simp)) (FM I λx J=>h x (by simp[J]))
theorem G1 {l:List ByteArray}(h:∀ s∈l,An s)(i:Nat):An (l.getD i (bytes [])):=by
 rw[oA];cases e:l[i]? with
 | none=>intro c hc;cases hc
 | some s=>exact h s (oB e)
theorem NA {nm:ByteArray}(h:qC nm=2):An nm:=by
 unfold qC at h
 (repeat' split at h)<;>first | (exfalso;revert h;decide) | (rename_i e;rw[e];unfold An;decide)
theorem tc {l:List Nat}(h:(l.map UInt8.ofNat).all (λc=>decide (c.toNat<128))=true):An (bytes l):=λc hc=>by
 have:=oc.1 h c hc
 simpa using this
theorem Nl:∀ t:Tm,t.ok=true->An t.tx:=by
 refine Tm.ind λk nm ot n ty re l ih U=>?_;have nd:=Er U;have nz:=Jc nd;have J:=nd.ar;have sub:∀ s∈txs l,An s:=λs hs=>by
  have key:∀ l':List Tm,(∀ t∈l',t∈l)->s∈txs l'->An s:=by
   intro l'
   induction l' with
   | nil=>intro _ h;cases h
   | cons x l' V=>
     intro Y h;rcases oH.1 h with rfl | h
     ·exact ih x (Y x (by simp)) (nd.sub x (Y x (by simp)))
     ·exact V (λt ht=>Y t (by simp[ht])) h
  exact key l (λ_ h=>h) hs
 have O:k=1\/k=6\/k=8->An nm:=λh=>by
  have:=nz.nm
  simp only[yb]at this;rw[if_neg (by omega),if_pos h]at this;exact ET (by simp at this;exact this.1)
 have g0:=G1 sub 0;have g1:=G1 sub 1;have Z:=Ik (b:=bytes [32]) (tc (by decide)) sub;simp only[Tm.tx];rcases nd.kind with rfl | rfl | rfl | rfl | rfl | rfl | rfl | rfl | rfl | rfl | rfl | rfl | rfl
 ·rw[LM];exact O (.inl rfl)
 ·rw[LN];exact L0 λb hb=>Dd (wv _ b hb)
 ·rw[LO];refine zH (tc (by decide)) ?_;split<;>exact tc (by decide)
 ·rw[Jd];split
  ·exact zH (zH (tc (by decide)) g0) (tc (by decide))
  ·rename_i h1;rcases nd.op rfl with h | h
   ·obtain⟨a,rfl⟩:=uX h;exact absurd rfl h1
   ·have J:(l.length:Int)=qC nm:=J;have hn:=NA (show qC nm=2 by rw[<-J,h];rfl);exact zH (zH (zH (zH (tc (by decide)) g0) hn) g1) (tc (by decide))
 ·rw[LP];exact zH (zH (tc (by decide)) Z) (tc (by decide))
 ·rw[LQ];exact zH (zH (zH (zH (zH (zH (tc (by decide)) (O (.inr (.inl rfl)))) (tc (by decide))) (Kl (zo (nd.vt (.inl rfl))).1)) (tc (by decide))) g0) (tc (by decide))
 ·rw[LR];exact zH (zH (tc (by decide)) Z) (tc (by decide))
 ·rw[LS];exact zH (zH (zH (zH (tc (by decide)) (O (.inr (.inr rfl)))) (tc (by decide))) Z) (tc (by decide))
 ·have I:=nz.nm;simp only[yb]at I;rw[if_neg (by decide),if_neg (by decide),if_pos trivial]at I;simp only[oM]at I;obtain⟨h1,h2, -⟩:=I;rw[LT];exact zH (zH (zH (zH (zH (zH (zH (zH (zH (zH (tc (by decide)) (ET h1)) (tc (by decide))) (ET h2)) (tc (by decide))) (Kl (zo (nd.vt (.inr rfl))).1)) (tc (by decide))) (Kl (zo (nd.vr rfl)).1)) (tc (by decide))) g0) (tc (by decide))
 ·rw[Et];exact zH (zH (tc (by decide)) g0) (tc (by decide))
 ·rw[Eu];exact zH (tc (by decide)) g0
 ·rw[Ev];exact zH (zH (tc (by decide)) g0) (tc (by decide))
 ·rw[Ew];exact zH (zH (tc (by decide)) g0) (tc (by decide))
theorem Le {t:Tm}(h:t.ok=true):∃ b∈bl t.tx,Lib.isSp b=false:=by
 cases t with
 | mk k nm ot n ty re l=>
 have nd:=Er h;have O:=Jc nd;simp only[Tm.tx];have hd:∀ {c:UInt8} {p:Bl} {s:ByteArray},bl s=c::p->Lib.isSp c=false->∃ b∈bl s,Lib.isSp b=false:=λe hc=>⟨_,by rw[e];simp,hc⟩
 have I:∀ c:UInt8,idC c=true->Lib.isSp c=false:=λc hc=>by
  cases e:Lib.isSp c with
  | false=>rfl
  | true=>simp only[Lib.isSp,mC,mW]at e;rcases e with((((rfl | rfl) | rfl) | rfl) | rfl) | rfl<;>exact absurd hc (by decide)
 rcases nd.kind with rfl | rfl | rfl | rfl | rfl | rfl | rfl | rfl | rfl | rfl | rfl | rfl | rfl
 ·rw[LM];have J:xc nm=true:=by have:=O.nm;simp[yb]at this;exact this.1
  obtain⟨b,w,e,_⟩:=(nmL J).hd;exact hd e (I b ((nmL J).id b (by rw[e];simp)))
 ·rw[LN];obtain⟨b,w,e⟩:=Be n.toNat;exact hd (s:=Dc n.toNat) e (I b (Dd (wv _ b (by rw[e];simp))))
 ·rw[LO];exact hd (c:=35) (by simp only[bl,zL];rfl) (by decide)
 ·rw[Jd];split<;>exact hd (c:=40) (by simp only[bl,zL,oL];rfl) (by decide)
 ·rw[LP];exact hd (c:=40) (by simp only[bl,zL,oL];rfl) (by decide)
 ·rw[LQ];exact hd (c:=40) (by simp only[bl,zL,oL];rfl) (by decide)
 ·rw[LR];exact hd (c:=40) (by simp only[bl,zL,oL];rfl) (by decide)
 ·rw[LS];exact hd (c:=40) (by simp only[bl,zL,oL];rfl) (by decide)
 ·rw[LT];exact hd (c:=40) (by simp only[bl,zL,oL];rfl) (by decide)
 ·rw[Et];exact hd (c:=60) (by simp only[bl,zL,oL];rfl) (by decide)
 ·rw[Eu];exact hd (c:=126) (by simp only[bl,zL,oL];rfl) (by decide)
 ·rw[Ev];exact hd (c:=40) (by simp only[bl,zL,oL];rfl) (by decide)
 ·rw[Ew];exact hd (c:=40) (by simp only[bl,zL,oL];rfl) (by decide)
def vtx (t:Tm):ByteArray:=if t.vd=true then t.tx else bytes []
theorem As {t:Tm}(h:t.vd=true):t.ok=true/\t.sz<=80/\t.dp<=20:=by simp only[Tm.vd,oM,oi]at h;exact⟨h.2,h.1.1,h.1.2⟩
theorem rZ {t:Tm}{d:D}(hd:t.Is d)(hc:t.cnt<=1073741824):we 15 [.dg 9 d] (vtx t):=λN Q J=>qK N d Q λ_ N1 O=>sK t d hd hc N1 _ λN2 U _=>Br.not (λI N3 V=>Qst (J _ (by omega)) (by rw[vtx,if_neg (by rw[I];decide)])) λI Y Z=>L7 t (As I).1 (by have:=(As I).2.1;omega) d hd Y _ λN5 aa _ N6 ab=>Qst (J _ (by omega)) (by rw[vtx,if_pos I])
theorem rc {t:Tm}{d:D}(hd:t.Is d)(hc:t.cnt<=1073741824):we 13 [.dg 9 d] (vtx t):=λN Q J=>qN N d Q λ_ N1 O=>sM t d hd hc N1 _ λN2 U _=>Br.not (λI N3 V=>Qst (J _ (by omega)) (by rw[vtx,if_neg (by rw[I];decide)])) λI Y Z=>I1 t (As I).1 (by have:=(As I).2.1;omega) d hd Y _ λN5 aa _ N6 ab=>Qst (J _ (by omega)) (by rw[vtx,if_pos I])
end Go.Proofs.YtldbmnklnpfpfaaGreatDoor
set_option maxRecDepth 100000
namespace Go.Proofs.YtldbmnklnpfpfaaGreatDoor
open Go Go.Proofs Go.Proofs.Tryz Go.IntWalk
theorem wo (sp:Bool){t:Tm}(h:t.vd=true){s:ByteArray}(e:t.tx=s):xu sp 20 (bl s)=some (t,[]):=by
 obtain⟨I,_,J⟩:=As h
 have:=Nb sp t I 20 J [] (λb r h=>by cases h)
 rw[nH]at this;rw[<-e];exact this
theorem Me (sp:Bool):xu sp 20 []=none:=by simp[xu,pre,ER]
theorem Kh {sp:Bool}{t:Tm}{s:ByteArray}{r:Bl}(I:xu sp 20 (bl s)=some (t,r))(e:vtx t=s):t.vd=true/\t.tx=s:=by
 unfold vtx at e;split at e
 ·rename_i h;exact⟨h,e⟩
 ·rw[<-e]at I;have J:=Me sp;rw[show bl (bytes [])=[]from rfl,J]at I;cases I
theorem H9 {sp:Bool}{t:Tm}{l r:Bl}(I:xu sp 20 l=some (t,r)):t.cnt<=3*l.length+3:=by
 have:=(Kc sp 20 I).1
 omega
def zD:D:=.ag [.j 0,.t (bytes []),.t (bytes []),.j 0,.j 0,.sl none 2 [] 0,.j 0,.sl none 2 [] 0,.sl none 9 [] 0]
def RetP (f:FuncId)(s:ByteArray)(o:Nat->Nat->D->Prop):Prop:=∀(N:Nat) (Q:QT [.ag 9,.bool]) (_:∀(t:Tm) d N',N<=N'->t.vd=true->t.tx=s->t.Is d->o N N' d->Q d true N') (_:∀ d N',N<=N'->d=zD->(∀ t:Tm,t.vd=true->t.tx≠s)->Q d false N'),ACalls prog f [.ag 9,.bool] [.str s] N Q
theorem qd (s:ByteArray)(hs:s.size<=300000000):RetP 6 s Own:=λN Q h1 Z=>by
 have hl:=xM s;refine qr N s Q λN1 ab=>MP L6 20 (by omega) 0 (by omega) s N1 _ (by omega) λx b s' N2 ac O _ _=>?_;cases O with
 | no J U=>exact Br.of (λ_ N3 ae=>Z _ _ (by omega) rfl λt I e=>by rw[wo false I e]at J;cases J) λh=>by cases h
 | @ok t _ _ J O U=>
   have hc:=H9 J;refine Br.of (λh=>by cases h) λ_ N4 ah=>rZ O.1 (by omega) N4 _ λN5 ai _=>Br.nstr (λV N6 aj=>Z _ _ (by omega) rfl λt' I e=>?_) λhe N7 ak=>?_
   ·have:=wo false I e
    rw[J]at this;simp only[od,mv]at this;obtain⟨rfl,_⟩:=this;exact V (by rw[vtx,if_pos I];exact e)
   ·obtain⟨I,e⟩:=Kh J he;obtain⟨b,hb,Y⟩:=Le (As I).1;have ha:=Nl t (As I).1;rw[e]at hb ha;exact L8 s (by omega) ha hb Y N7 _ λz N8 al hz _=>Br.str (λh=>absurd h hz) λ_ ao aa=>h1 t x _ (by omega) I e O.1 (O.2.mono (by omega) (by omega))
theorem qe (s:ByteArray)(hs:s.size<=300000000):RetP 5 s (λ_ _ _=>True):=λN Q Z V=>by
 have hl:=xM s;refine qz N s Q λN1 aa=>Mc 20 (by omega) 1 (by omega) s 0 (bl s) false N1 _ ⟨by omega,by omega,by omega,rfl⟩ λx n' b' N2 ab U _ _=>?_;cases U with
 | no J Y=>exact Br.of (λ_ N3 ac=>V _ _ (by omega) rfl λt I e=>by rw[wo true I e]at J;rcases J with h | h<;>cases h) λh=>by cases h
 | @ok t r _ _ _ J U Y=>
   have hc:=H9 J;refine Br.of (λh=>by cases h) λ_=>Br.bne (λO N4 ae=>V _ _ (by omega) rfl λt' I e=>?_) λhn N5 ah=>rc U (by omega) N5 _ λN6 ai _=>Br.nstr (λO N7 aj=>V _ _ (by omega) rfl λt' I e=>?_) λhe N8 ak=>?_
   ·have:=wo true I e
    rw[J]at this;cases this;exact O (Y.nil.1 rfl)
   ·have:=wo true I e
    rw[J]at this;cases this;exact O (by rw[vtx,if_pos I];exact e)
   ·obtain⟨I,e⟩:=Kh J he;exact Z t x _ (by omega) I e U trivial
end Go.Proofs.YtldbmnklnpfpfaaGreatDoor
