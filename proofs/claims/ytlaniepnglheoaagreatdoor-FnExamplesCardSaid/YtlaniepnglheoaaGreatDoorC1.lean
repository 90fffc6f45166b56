/- Reading texts: the program's reader: names, types, parts. -/
import Derived.Test.YtlaniepnglheoaaGreatDoorKf
import Derived.Test.YtlaniepnglheoaaGreatDoorA5
import Derived.Test.YtlaniepnglheoaaGreatDoorB6
import Derived.Defers
import Derived.Test.YtlaniepnglheoaaGreatDoorKd
import Derived.Test.YtlaniepnglheoaaGreatDoorA9
import Derived.Shelf.Strconv.AtoiAll
import Derived.Shelf.Strings.TrimSpace
set_option linter.unusedVariables false
set_option linter.unusedSimpArgs false
set_option maxRecDepth 100000
namespace Go.Proofs.YtlaniepnglheoaaGreatDoor
open Go Go.Proofs Go.Proofs.Tryz Go.IntWalk
theorem vD {s}(hs:s.size<=1073741824) t n N(Q:QT [.bool,.str,.i])(h1:∀ r N',N<=N'->pre (bl t) (bl s)=some (bl r)->r.size<=1073741824->Q true r n N')(h0:∀ N',N<=N'->pre (bl t) (bl s)=none->Q false s n N') :
  BCalls prog 104 [.bool,.str,.i] [.pb 0 0 0 0,.str t] [.var [.str s,.j n]] N Q:=by
 refine A7 N t s n Q λE N1 aa=>Bq N1 s t _ λN2 ab=>v6 N2 s t _ λN3 ac=>v7 N3 s t _ (Br.dec (λhg=>⟨⟨aA,aA,aA⟩,λN4 Y _=>Br.nstr (λhn N5 I _ N6 J _=>⟨zN,λN7 O=>h0 _ aA ?_⟩) λhe=>⟨⟨aA,aA,aA⟩,λN5 I _ N6 J _=>⟨zN,λN7 O=>h1 _ _ aA ?_ ?_⟩⟩⟩) λhg N4 Y _=>Br.of (λ_ N5 I _ N6 J _=>⟨zN,λN7 O=>h0 _ aA (Ti (by rw[ve,ve];omega))⟩) λh=>by cases h)
 ·cases U:pre (bl t) (bl s)with
  | none=>rfl
  | some r=>exact absurd (yA (by rw[AW];show((bl s).drop 0).take _=_;rw[List.drop_zero,show((t.size:Int)).toNat - 0=(bl t).length by rw[ve];omega];exact GJ.2 ⟨r,U⟩)) hn
 ·have e:(bl s).take (bl t).length=bl t:=by
   have:=oY bl he
   rw[<-this];show _=(ByteArray.extract s 0 _).data.toList;rw[AW,List.drop_zero,this,ve];simp
  obtain⟨r,U⟩:=GJ.1 e;rw[U];congr 1;show r=(ByteArray.extract s _ _).data.toList;rw[AW];have h2:bl s=bl t++r:=yI U;have h3:=oY List.length h2;rw[oG,ve,ve]at h3;show r=((bl s).drop _).take _;rw[h2,show((t.size:Int)).toNat=(bl t).length by rw[ve];omega,List.drop_left,o3];rw[ve];omega
 ·rw[mT];omega
theorem Mq {s}(hs:s.size<=1073741824) n N(Q:QT [.str,.str,.i])(hQ:∀ r N',N<=N'->bl r=(word (bl s)).2->r.size<=1073741824->Q ⟨(word (bl s)).1.toArray⟩ r n N'):BCalls prog 108 [.str,.str,.i] [.pb 0 0 0 0] [.var [.str s,.j n]] N Q:=by
 refine s6 N s n Q λE=>?_;have hr:Atl s 0 (bl s):=⟨hs,aA,aA,rfl⟩
 have key:∀(l1 p:Bl) (k:Int),Atl s k l1->bl s=p++l1->k=p.length->(∀ c∈p,idC c=true)->zM E Q N k s n N:=by
  intro l1;have out:∀(l1 p:Bl) (k:Int),Atl s k l1->bl s=p++l1->k=p.length->(∀ c∈p,idC c=true)->Stop l1->((0:Int)<=(0:Int)/\0<=k/\k<=(s.size:Int))/\(0<=k/\k<=(s.size:Int)/\(s.size:Int)<=(s.size:Int))/\yg E [.var [.str (bytes []),.j 0]]/\∀ N1,N<=N1->Q (ByteArray.extract s 0 k.toNat) (ByteArray.extract s k.toNat ((s.size:Int)).toNat) n N1:=λl1 p k I J Y O aa=>by
   have k1:=I.lo;have k2:=I.hi;refine⟨⟨aA,k1,k2⟩,⟨k1,k2,aA⟩,zN,λN1 ab=>?_⟩;have hw:word (bl s)=(p,l1):=by rw[J];exact GL p l1 O aa
   have hx:ByteArray.extract s 0 k.toNat=⟨p.toArray⟩:=yA (by
    have:=hr.ext p.length (m:=k) aA
    rw[J,List.take_left]at this;exact this)
   rw[hx]
   have:=hQ (ByteArray.extract s k.toNat ((s.size:Int)).toNat) N1 ab (by
    rw[hw];show(ByteArray.extract s _ _).data.toList=l1;rw[AW,I.eq,o3]
    have:=I.len
    omega) (by rw[mT];omega)
   rw[hw]at this;exact this
  induction l1 with
  | nil=>
    intro p k I J Y O
    have:=(I.nil).1 rfl
    exact wz _ _ _ _ _ _ _ (Br.dec (λh=>aA) λ_=>out _ p k I J Y O λc r e=>by cases e)
  | cons c l1 ih=>
    intro p k I J Y O;have hg:=I.get;have U:=I.len;have k1:=I.lo;simp only[oJ]at U;have bd:0<=k/\k<(s.size:Int):=⟨k1,aA⟩
    have nx:idC c=true->zM E Q N (IntKind.i64.wrap (k+1)) s n N:=λhc=>by
     rw[i64_in (k+1) aA];refine ih (p++[c]) (k+1) (I.app (p:=[c]) rfl rfl) (by rw[J,oP];rfl) (by rw[oG];simp only[oJ,oN];omega) λx hx=>?_;rcases oM.1 hx with hx | hx
     ·exact O x hx
     ·rw[oi.1 hx];exact hc
    have ot:idC c=false->_:=λhc=>out _ p k I J Y O (vv hc l1);have ci:∀ P:Prop,(idC c=true->P)->(48<=c.toNat/\c.toNat<=57\/97<=c.toNat/\c.toNat<=122)->P:=λP h g=>h (by unfold idC;exact nh g);have cn:∀ P:Prop,(idC c=false->P)->¬(48<=c.toNat/\c.toNat<=57\/97<=c.toNat/\c.toNat<=122)->P:=λP h g=>h (by unfold idC;exact nX g);refine wz _ _ _ _ _ _ _ (Br.dec (λ_=>?_) λh=>aA);rw[hg];exact⟨bd,Br.dec (λa1=>⟨bd,Br.dec (λa2=>ci _ nx aA) λa2=>⟨bd,Br.dec (λa3=>⟨bd,Br.dec (λa4=>ci _ nx aA) λa4=>cn _ ot aA⟩) λa3=>cn _ ot aA⟩⟩) λa1=>⟨bd,Br.dec (λa3=>⟨bd,Br.dec (λa4=>ci _ nx aA) λa4=>cn _ ot aA⟩) λa3=>cn _ ot aA⟩⟩
 exact key (bl s) [] 0 hr rfl rfl aB
structure It (N N':Nat) (j:Nat) (l:Bl) (d:D) (b:Bool) (s':aG):Prop where
 is:∃ t:Ty,t.Is d/\t.cnt+1<=2 ^ (j+1)/\(b=true->tM j l=some (t,bl s'))
 no:b=false->tM j l=none
 sz:s'.size<=1073741824
 ow:Own N N' d
theorem Sj a b:(wP a b).cnt=a.cnt+b.cnt+1:=by simp[wP,Ty.cnt,zI];try omega
theorem Kq a:(xW a).cnt=a.cnt+1:=by simp[xW,Ty.cnt,zI];try omega
theorem It.zero {N N' j l s'}(h:tM j l=none)(hs:s'.size<=1073741824):It N N' j l (.ag [.j 0,.sl none 2 [] 0]) false s':=
 ⟨⟨tZero,wB 0,by rw[mo];have:=Nat.one_le_two_pow (n:=j);show 1+1<=_;omega,aB⟩,λ_=>h,hs,yo⟩
theorem TC:∀(j:Nat),j<=8->∀ {s:aG} (_:s.size<=1073741824) (n:Int) (N:Nat) (Q:QT [.ag 2,.bool,.str,.i])
  (_:∀ d b s' N',N<=N'->It N N' j (bl s) d b s'->Q d b s' n N'),BCalls prog 215 [.ag 2,.bool,.str,.i] [.pb 0 0 0 0,.j j] [.var [.str s,.j n]] N Q:=by
 intro j
 induction j with
 | zero=>intro _ s hs n N Q I;exact we N _ s n Q λE=>Br.beq (λ_=>⟨zN,λN1 a8=>I _ _ _ _ a8 (.zero rfl hs)⟩) λh=>absurd rfl h
 | succ j ih=>
   intro hj s hs n N Q I;have e1:IntKind.i64.wrap (((j+1:Nat):Int) - 1)=j:=by rw[i64_in _ aA];omega
   have pw:2 ^ (j+1+1)=2 ^ (j+1)+2 ^ (j+1):=by rw[mo];omega
   have pl:2 ^ (j+1)<=512:=oR (mH aA (show j+1<=9 by omega)) aD;have pg:2<=2 ^ (j+1):=by rw[mo];have:=Nat.one_le_two_pow (n:=j);omega
   refine we N _ s n Q λE=>Br.beq (λh=>aA) λ_ N2 bm=>vD hs _ n N2 _ (λr N3 ba hp hr _=>Br.of (λ_ N4 bb=>OT N4 _ λd N5 ao hd ow _ _=>⟨zN,λN6 aq=>I _ _ _ _ aA ⟨⟨tInt,hd,by show 1+1<=_;omega,λ_=>by rw[show bl s=[73]++bl r from yI hp];exact W6 j _⟩,aB,hr,ow.mono aA aA⟩⟩) λh=>by cases h) λN3 ba h1 _=>Br.of (λh=>by cases h) λ_ N4 bb=>?_;refine vD hs _ n N4 _ (λr N5 ao hp hr _=>Br.of (λ_ N6 aq=>GB N6 _ λd N7 au hd ow _ _=>⟨zN,λN8 aw=>I _ _ _ _ aA ⟨⟨tBool,hd,by show 1+1<=_;omega,λ_=>by rw[show bl s=[66]++bl r from yI hp];exact W3 j _⟩,aB,hr,ow.mono aA aA⟩⟩) λh=>by cases h) λN5 ao h2 _=>Br.of (λh=>by cases h) λ_ N6 aq=>?_;refine vD hs _ n N6 _ (λr N7 au hp hr _=>Br.of (λ_ N8 aw=>?_) λh=>by cases h) λN7 au h3 _=>Br.of (λh=>by cases h) λ_ N8 aw=>?_
   ·have em:tM (j+1) (bl s)=(tM j (bl r)).bind λx=>(pre [62] x.2).bind λr=>(tM j r).bind λy=>(pre [41] y.2).map λr=>(wP x.1 y.1,r):=by rw[show bl s=[40]++bl r from yI hp];exact W5 j _
    rw[e1];refine ih aA hr n N8 _ λd b s1 N9 ax hd _ _=>?_;obtain⟨t,ht,bc,hm⟩:=hd.is;refine Br.not (λhb=>⟨zN,λJ O=>I _ _ _ _ aA (.zero (by rw[em,hd.no hb];rfl) hd.sz)⟩) λhb J O=>?_;rw[hm hb,oO]at em;refine vD hd.sz _ n J _ (λr2 ay ac hq bg _=>Br.of (λh=>by cases h) λ_ aa ae=>?_) λay ac hq _=>Br.of (λ_=>⟨zN,λaa ae=>I _ _ _ _ aA (.zero (by rw[em,show pre [62] (t,bl s1).2=none from hq];rfl) hd.sz)⟩) λh=>by cases h
    rw[show pre [62] (t,bl s1).2=some (bl r2)from hq,oO]at em;refine ih aA bg n aa _ λe b2 s2 bh az he _ _ ab ah=>?_;obtain⟨u,hu,bp,bi⟩:=he.is;refine OS t u d e ht hu aA aA ab _ λz bq bj hz ow _ _=>Br.of (λai a6 a7=>?_) λai=>⟨zN,λa6 a7=>I _ _ _ _ aA ⟨⟨_,hz,by rw[Sj];omega,aB⟩,λ_=>by rw[em,he.no ai];rfl,he.sz,ow.mono aA aA⟩⟩
    rw[bi ai,oO]at em;exact vD he.sz _ n a6 _ (λr3 aj U hv ak _=>⟨zN,λal Y=>I _ _ _ _ aA ⟨⟨_,hz,by rw[Sj];omega,λ_=>by rw[em,show pre [41] (u,bl s2).2=some (bl r3)from hv];rfl⟩,aB,ak,ow.mono aA aA⟩⟩) λaj U hv _=>⟨zN,λal Y=>I _ _ _ _ aA ⟨⟨_,hz,by rw[Sj];omega,aB⟩,λ_=>by rw[em,show pre [41] (u,bl s2).2=none from hv];rfl,he.sz,ow.mono aA aA⟩⟩
   ·refine vD hs _ n N8 _ (λr N9 ax hp hr _=>Br.of (λ_ J O=>?_) λh=>by cases h) λN9 ax h4 _=>Br.of (λh=>by cases h) λ_=>⟨zN,λJ O=>I _ _ _ _ aA (.zero ?_ hs)⟩
    ·have em:tM (j+1) (bl s)=(tM j (bl r)).bind λx=>(pre [62] x.2).map λr=>(xW x.1,r):=by rw[show bl s=[60]++bl r from yI hp];exact W4 j _
     rw[e1];refine ih aA hr n J _ λd b s1 ay ac hd _ _ aa ae=>?_;obtain⟨t,ht,bc,hm⟩:=hd.is;refine Kn t d ht aA aa _ λz bh az hz ow _ _=>Br.of (λhb ab ah=>?_) λhb=>⟨zN,λab ah=>I _ _ _ _ aA ⟨⟨_,hz,by rw[Kq];omega,aB⟩,λ_=>by rw[em,hd.no hb];rfl,hd.sz,ow.mono aA aA⟩⟩
     rw[hm hb,oO]at em;exact vD hd.sz _ n ab _ (λr3 aj U hv ak _=>⟨zN,λal Y=>I _ _ _ _ aA ⟨⟨_,hz,by rw[Kq];omega,λ_=>by rw[em,show pre [62] (t,bl s1).2=some (bl r3)from hv];rfl⟩,aB,ak,ow.mono aA aA⟩⟩) λaj U hv _=>⟨zN,λal Y=>I _ _ _ _ aA ⟨⟨_,hz,by rw[Kq];omega,aB⟩,λ_=>by rw[em,show pre [62] (t,bl s1).2=none from hv];rfl,hd.sz,ow.mono aA aA⟩⟩
    ·simp only[tM,show pre [73] (bl s)=none from h1,show pre [66] (bl s)=none from h2,show pre [60] (bl s)=none from h4,show pre [40] (bl s)=none from h3];rfl
end Go.Proofs.YtlaniepnglheoaaGreatDoor
set_option maxRecDepth 100000
namespace Go.Proofs.YtlaniepnglheoaaGreatDoor
open Go Go.Proofs Go.Proofs.Tryz Go.IntWalk
variable {N N':Nat} {d:D} {dp:Int} {nm:Bl} {s:aG}
inductive Ri {α:Type} (is:α->D->Prop) (m:Option (α × Bl)):D->Bool->aG->Prop
 | ok {t:α} {d:D} {s':aG}:m=some (t,bl s')->is t d->s'.size<=1073741824->Ri is m d true s'
 | no {d:D} {s':aG}:m=none->s'.size<=1073741824->Ri is m d false s'
theorem Ri.mono {α is I}{m:Option (α × Bl)}{b s'}(h:Ri is m d b s')(hi:∀ t,is t d->I t d):Ri I m d b s':=by
 cases h with
 | ok J O U=>exact .ok J (hi _ O) U
 | no J O=>exact .no J O
def TO N N'(t:Tm) d:=t.Is d/\Own N N' d
theorem Ri.up {M I}{m:Option (Tm × Bl)}{b s'}(h:Ri (TO N N') m d b s')(O:M<=N)(U:N'<=I):Ri (TO M I) m d b s':=
 h.mono λt J=>⟨J.1,J.2.mono O U⟩
def ML dp(T:Bl->Option (Tm × Bl)):=∀(s:aG) (N:Nat) (Q:QT [.ag 9,.bool,.str,.i]),s.size<=1073741824->(∀ d b s' N',N<=N'->Ri (TO N N') (T (bl s)) d b s'->Q d b s' dp N')->BCalls prog 53 [.ag 9,.bool,.str,.i] [.pb 0 0 0 0] [.var [.str s,.j dp]] N Q
theorem R9 (T:Bl->Option (Tm × Bl)) b e l:vB T b e 1 true l=(T l).bind λx=>(vB T b e 0 true x.2).map λy=>(x.1::y.1,y.2):=by simp only[vB,mI,oO]
theorem SA (T:Bl->Option (Tm × Bl)) b e l j:vB T b e (j+2) true l=(T l).bind λx=>(pre b x.2).bind λr=>(vB T b e (j+1) true r).map λy=>(x.1::y.1,y.2):=by
 simp only[vB,mI,oO,mF,ni];cases T l with
 | none=>rfl
 | some x=>
   simp only[oO];cases pre b x.2 with
   | none=>rfl
   | some r=>rfl
structure Ia (N N':Nat) (T:Bl->Option (Tm × Bl)) (by_ e:Bl) (k:Nat) (l:Bl) (a:aH) (es:aM) (c:Nat) (b:Bool) (s':aG):Prop where
 ok:b=true->∃ ts,vB T by_ e k true l=some (ts,bl s')/\All2 Tm.Is ts es
 no:b=false->vB T by_ e k true l=none
 sz:s'.size<=1073741824
 len:es.length<=3
 ow:Own N N' (.sl a 9 es c)
theorem K9 {z c}:Own N N' (.sl none z [] c):=⟨by simp[D.foot,zC],⟨aB,trivial⟩,by simp[D.foot,zC],by simp[D.foot,zC]⟩
theorem YB {T:Bl->Option (Tm × Bl)}(hT:ML dp T) by_ e k(hk:k<=3)(hs:s.size<=1073741824) N(Q:QT [.sl 9,.bool,.str,.i])(hQ:∀ a es c b s' N',N<=N'->Ia N N' T (bl by_) (bl e) k (bl s) a es c b s'->Q a es c b s' dp N'):BCalls prog 164 [.sl 9,.bool,.str,.i] [.pb 0 0 0 0,.j (k:Int),.str by_,.str e] [.var [.str s,.j dp]] N Q:=by
 refine sE N k by_ e s dp Q λE=>?_;have e1:IntKind.i64.wrap ((k:Int) - 1)=k - 1:=i64_in _ aA;have ae:∀(es:aM) (x:D),es.length<=10->zB es [x] 136:=λes x h=>by unfold zB;rw[oG];simp only[oJ,oN];omega
 have key:∀(j i:Nat) (s1:aG) (ts:aP) (es:aM) (q N':Nat),i+j=k->s1.size<=1073741824->vB T (bl by_) (bl e) k true (bl s)=(vB T (bl by_) (bl e) j true (bl s1)).map (λy=>(ts++y.1,y.2))->All2 Tm.Is ts es->es.length=i->OwnL N N' es->N<=N'->zX E Q N k by_ e es.length q k i s1 dp es q N':=by
  intro j
  induction j with
  | zero=>
    intro i s1 ts es q N' hi U em Y hl I ah;refine wT _ _ _ _ _ _ _ _ _ _ _ _ _ _ _ (Br.dec (λh=>aA) λ_ N1 ab=>vD U _ _ N1 _ (λr N2 aa hp hr _=>⟨⟨rfl,rfl⟩,⟨rfl,rfl⟩,⟨rfl,rfl⟩,λa N3 ac hf=>⟨zN,λN4 J=>hQ _ _ _ _ _ _ aA ⟨λ_=>⟨ts,?_,Y⟩,aB,hr,aA,(p8 I hf aA).mono (oC _) J⟩⟩⟩) λN2 aa hp _=>⟨⟨rfl,rfl⟩,⟨rfl,rfl⟩,⟨rfl,rfl⟩,λa N3 ac hf=>⟨zN,λN4 J=>hQ _ _ _ _ _ _ aA ⟨aB,λ_=>?_,U,aA,(p8 I hf aA).mono (oC _) J⟩⟩⟩)
    ·rw[em];simp only[vB];rw[hp];simp
    ·rw[em];simp only[vB];rw[hp];rfl
  | succ j ih=>
    intro i s1 ts es q N' hi U em Y hl I ah;refine wT _ _ _ _ _ _ _ _ _ _ _ _ _ _ _ (Br.dec (λ_ N1 ab=>hT s1 N1 _ U λx b s2 N2 aa hx _ _=>?_) λh=>aA);have e2:IntKind.i64.wrap ((i:Int)+1)=((i+1:Nat):Int):=by rw[i64_in _ aA];omega
    cases hx with
    | no hm O=>
      refine Br.of (λ_=>⟨zN,λN3 ac=>hQ _ _ _ _ _ _ aA ⟨aB,λ_=>?_,O,aB,K9⟩⟩) λh=>by cases h
      rw[em];cases j with
      | zero=>rw[R9,hm];rfl
      | succ j=>rw[SA,hm];rfl
    | @ok t _ _ hm hx O=>
      refine Br.of (λh=>by cases h) λ_=>?_;rw[e1,e2];cases j with
      | zero=>
        refine Br.dec (λh=>aA) λ_=>⟨⟨rfl,rfl⟩,ae es x aA,λc=>ih (i+1) s2 (ts++[t]) (es++[x]) c N2 aA O ?_ (Y.snoc hx.1) (by rw[oG];simp only[oJ,oN];omega) (zg (I.mono (oC _) ab) (zf hx.2) aA aa) aA⟩
        rw[em,R9,hm,oO,Option.map_map];congr 1;funext y;simp
      | succ j=>
        rw[SA,hm,oO]at em;refine Br.dec (λ_ N3 ac=>vD O _ _ N3 _ (λr N4 J hp hr _=>Br.of (λh=>by cases h) λ_=>⟨⟨rfl,rfl⟩,ae es x aA,λc=>ih (i+1) r (ts++[t]) (es++[x]) c N4 aA hr ?_ (Y.snoc hx.1) (by rw[oG];simp only[oJ,oN];omega) ((zg (I.mono (oC _) ab) (zf hx.2) aA aa).mono (oC _) aA) aA⟩) λN4 J hp _=>Br.of (λ_=>⟨zN,λN5 ai=>hQ _ _ _ _ _ _ aA ⟨aB,λ_=>?_,O,aB,K9⟩⟩) λh=>by cases h) λh=>aA
        ·rw[em,show pre (bl by_) (t,bl s2).2=some (bl r)from hp,oO,Option.map_map];congr 1;funext y;simp
        ·rw[em,show pre (bl by_) (t,bl s2).2=none from hp];rfl
 exact key k 0 s [] [] 0 N aA hs aB rfl rfl GI (oC _)
theorem TB {T:Bl->Option (Tm × Bl)}(O:ML dp T){N0 N1 k m nm ot ty re t0 t1 r0 r1 U}(Y:Tm.Hd nm ot ty re t0 t1 r0 r1)(hw:OwnL N0 N1 [t0,t1,r0,r1])(hN:N0<=N1)(aa:N1<=N)(j:Nat)(hj:arI k nm=j)(J:j<=3) by_ e(hs:s.size<=1073741824)(Q:QT [.ag 9,.bool,.str,.i])(hQ:∀ d b s' N',N<=N'->Ri (TO N0 N') ((vB T (bl by_) (bl e) j true (bl s)).map λy=>(Tm.mk k nm ot m ty re y.1,y.2)) d b s'->Q d b s' dp N'):BCalls prog 106 [.ag 9,.bool,.str,.i] [.pb 0 0 0 0,.dg 9 (.ag [.j k,.t nm,.t ot,.j m,t0,t1,r0,r1,U]),.str by_,.str e] [.var [.str s,.j dp]] N Q:=
 s5 N _ by_ e s dp Q λE _ N2 ab=>Es N2 _ λN3 ac _ N4 ae=>by
  rw[hj];refine YB O by_ e j J hs N4 _ λa es c b s' N5 ah I _ _=>⟨zN,λN6 ai=>hQ _ _ _ _ aA ?_⟩
  cases b with
  | true=>obtain⟨ts,h1,h2⟩:=I.ok rfl;exact .ok (t:=.mk k nm ot m ty re ts) (by rw[h1];rfl) ⟨Tm.is_mk.2 ⟨_,_,_,_,_,_,_,rfl,Y,by have:=I.len;omega,h2⟩,BW (zW (zW (zW (zW (zg (es:=[t0,t1,r0,r1]) (N1:=N1) hw (zf (I.ow.mono aA (by omega:N5<=N6))) aA aA)))))⟩ I.sz
  | false=>exact .no (by rw[I.no rfl];rfl) I.sz
theorem Wy:OwnL N N' [.j 0,.sl none 2 [] 0,.j 0,.sl none 2 [] 0]:=zW ⟨by simp[D.foot,zC],⟨⟨aB,trivial⟩,trivial,⟨aB,trivial⟩,trivial⟩,by simp[D.foot,zC],by simp[D.foot,zC]⟩
theorem Bg {T:Bl->Option (Tm × Bl)}(J:ML dp T){k}(Y:(⟨nm.toArray⟩:aG).size<=1073741824)(j:Nat)(O:arI k ⟨nm.toArray⟩=j)(I:j<=3) by_ e(hs:s.size<=1073741824) N(Q:QT [.ag 9,.bool,.str,.i])(U:∀ d b s' N',N<=N'->Ri (TO N N') (mkF k nm [] tZero tZero (vB T (bl by_) (bl e) j true (bl s))) d b s'->Q d b s' dp N'):BCalls prog 106 [.ag 9,.bool,.str,.i] [.pb 0 0 0 0,.dg 9 (.ag [.j k,.t (⟨nm.toArray⟩),.t (bytes []),.j 0,.j 0,.sl none 2 [] 0,.j 0,.sl none 2 [] 0,.sl none 9 [] 0]),.str by_,.str e] [.var [.str s,.j dp]] N Q:=
 TB J (m:=0) (hdz aA aD) Wy (oC _) (oC _) j O I by_ e hs Q U
theorem zAC:OwnL N N' [.j 0,.sl none 2 [] 0]:=zW (zf K9)
theorem Oz {t:Ty}(h:t.Is d)(I:Own N N' d):OwnL N N' [D.cell d 0,D.cell d 1]:=by
 cases t with
 | mk k l=>
   obtain⟨a,es,c,rfl,_,_⟩:=Ty.is_mk.1 h;have J:OwnL N N' [D.j k,.sl a 2 es c]:=⟨by simpa only[D.foot]using I.nd,I.fl,by simpa only[D.foot]using I.lo,by simpa only[D.foot]using I.hi⟩
   exact J
theorem Zx {T:Bl->Option (Tm × Bl)}(hT:ML dp T)(hn:(⟨nm.toArray⟩:aG).size<=1073741824)(hs:s.size<=1073741824) N(Q:QT [.ag 9,.bool,.str,.i])(I:∀ d b s' N',N<=N'->Ri (TO N N') ((pre [58] (bl s)).bind λr=>(tM 8 r).bind λt=>(pre [46] t.2).bind λr=>mkF 6 nm [] t.1 tZero (vB T [] [41] 1 true r)) d b s'->Q d b s' dp N'):BCalls prog 166 [.ag 9,.bool,.str,.i] [.pb 0 0 0 0,.dg 9 (.ag [.j 6,.t (⟨nm.toArray⟩),.t (bytes []),.j 0,.j 0,.sl none 2 [] 0,.j 0,.sl none 2 [] 0,.sl none 9 [] 0])] [.var [.str s,.j dp]] N Q:=by
 refine xf N _ s dp Q λE _ N1 ah=>vD hs _ _ N1 _ (λr N2 J O hr _=>Br.of (λ_ N3 U=>?_) λh=>by cases h) λN2 J O _=>Br.of (λh=>by cases h) λ_=>Br.of (λh=>by cases h) λ_=>Br.of (λ_=>⟨zN,λN3 U=>I _ _ _ _ aA (.no (by rw[show pre [58] (bl s)=none from O];rfl) hs)⟩) λh=>by cases h
 rw[show pre [58] (bl s)=some (bl r)from O,oO]at I;refine TC 8 aA hr _ N3 _ λd b s1 N4 ai hd _ _=>?_;obtain⟨t,ht,_,hm⟩:=hd.is;refine Br.of (λhb=>⟨6,rfl,Br.beq (λh=>aA) λ_=>Br.not (λh=>by rw[hb]at h;cases h) λ_ N5 Y=>?_⟩) λhb=>Br.not (λ_=>⟨zN,λN5 Y=>I _ _ _ _ aA (.no (by rw[hd.no hb];rfl) hd.sz)⟩) λh=>by rw[hb]at h;cases h
 rw[hm hb,oO]at I;refine vD hd.sz _ _ N5 _ (λr2 N6 aa hq ab _=>Br.of (λh=>by cases h) λ_ N7 ac=>?_) λN6 aa hq _=>Br.of (λ_=>⟨zN,λN7 ac=>I _ _ _ _ aA (.no (by rw[show pre [46] (t,bl s1).2=none from hq];rfl) hd.sz)⟩) λh=>by cases h
 rw[show pre [46] (t,bl s1).2=some (bl r2)from hq,oO]at I;exact TB hT (N0:=N) (N1:=N4) (k:=6) (m:=0) (nm:=⟨nm.toArray⟩) (ot:=bytes []) (ty:=t) (re:=tZero) ⟨aA,aD,Ty.is_cells ht,wB 0⟩ (zg (N1:=N4) (es:=[_,_]) (fs:=[_,_]) ((Oz ht hd.ow).mono aA (oC _)) zAC aA (oC _)) aA aA 1 rfl aA _ _ ab _ λd b s' N8 aj hx _ _=>⟨zN,λN9 ae=>I _ _ _ _ aA (hx.up (oC _) ae)⟩
theorem Zy {T:Bl->Option (Tm × Bl)}(hT:ML dp T){ot}(hn:(⟨nm.toArray⟩:aG).size<=1073741824)(ho:(⟨ot.toArray⟩:aG).size<=1073741824)(hs:s.size<=1073741824) N(Q:QT [.ag 9,.bool,.str,.i])(J:∀ d b s' N',N<=N'->Ri (TO N N') ((pre [58] (bl s)).bind λr=>(tM 8 r).bind λt=>(pre [62] t.2).bind λr=>(tM 8 r).bind λu=>(pre [46] u.2).bind λr=>mkF 9 nm ot t.1 u.1 (vB T [] [41] 1 true r)) d b s'->Q d b s' dp N'):BCalls prog 166 [.ag 9,.bool,.str,.i] [.pb 0 0 0 0,.dg 9 (.ag [.j 9,.t (⟨nm.toArray⟩),.t (⟨ot.toArray⟩),.j 0,.j 0,.sl none 2 [] 0,.j 0,.sl none 2 [] 0,.sl none 9 [] 0])] [.var [.str s,.j dp]] N Q:=by
 refine xf N _ s dp Q λE _ N1 ax=>vD hs _ _ N1 _ (λr N2 ab hp hr _=>Br.of (λ_ N3 ac=>?_) λh=>by cases h) λN2 ab hp _=>Br.of (λh=>by cases h) λ_=>Br.of (λh=>by cases h) λ_=>Br.of (λ_=>⟨zN,λN3 ac=>J _ _ _ _ aA (.no (by rw[show pre [58] (bl s)=none from hp];rfl) hs)⟩) λh=>by cases h
 rw[show pre [58] (bl s)=some (bl r)from hp,oO]at J;refine TC 8 aA hr _ N3 _ λd b s1 N4 ay hd _ _=>?_;obtain⟨t,ht,_,hm⟩:=hd.is;refine Br.of (λhb=>⟨9,rfl,Br.beq (λ_ N5 ae=>?_) λh=>absurd rfl h⟩) λhb=>Br.not (λ_=>⟨zN,λN5 ae=>J _ _ _ _ aA (.no (by rw[hd.no hb];rfl) hd.sz)⟩) λh=>by rw[hb]at h;cases h
 rw[hm hb,oO]at J;refine vD hd.sz _ _ N5 _ (λr2 N6 ah hq ai _=>Br.of (λ_ N7 aj=>?_) λh=>by cases h) λN6 ah hq _=>Br.of (λh=>by cases h) λ_=>Br.of (λ_=>⟨zN,λN7 aj=>J _ _ _ _ aA (.no (by rw[show pre [62] (t,bl s1).2=none from hq];rfl) hd.sz)⟩) λh=>by cases h
 rw[show pre [62] (t,bl s1).2=some (bl r2)from hq,oO]at J;refine TC 8 aA ai _ N7 _ λd2 b2 s2 N8 az I _ _=>?_;obtain⟨u,hu,_,ak⟩:=I.is;refine Br.not (λO=>⟨zN,λN9 al=>J _ _ _ _ aA (.no (by rw[I.no O];rfl) I.sz)⟩) λO N9 al=>?_;rw[ak O,oO]at J;refine vD I.sz _ _ N9 _ (λr3 ao U hv aq _=>Br.of (λh=>by cases h) λ_ au Y=>?_) λao U hv _=>Br.of (λ_=>⟨zN,λau Y=>J _ _ _ _ aA (.no (by rw[show pre [46] (u,bl s2).2=none from hv];rfl) I.sz)⟩) λh=>by cases h
 rw[show pre [46] (u,bl s2).2=some (bl r3)from hv,oO]at J;exact TB hT (N0:=N) (N1:=N8) (k:=9) (m:=0) (nm:=⟨nm.toArray⟩) (ot:=⟨ot.toArray⟩) (ty:=t) (re:=u) ⟨aA,aA,Ty.is_cells ht,Ty.is_cells hu⟩ (zg (N1:=N7) (es:=[_,_]) (fs:=[_,_]) ((Oz ht hd.ow).mono aA aA) (Oz hu I.ow) aA aA) aA aA 1 rfl aA _ _ aq _ λd b s' a6 aw hx _ _=>⟨zN,λa7 aa=>J _ _ _ _ aA (hx.up (oC _) aa)⟩
end Go.Proofs.YtlaniepnglheoaaGreatDoor
set_option maxRecDepth 100000
namespace Go.Proofs.YtlaniepnglheoaaGreatDoor
open Go Go.Proofs Go.Proofs.Tryz Go.IntWalk
variable {s:aG}
theorem Td {k nm}(O:nm.size<=1073741824){t u x y}(I:t.Is x)(J:u.Is y) a:(Tm.mk k nm (bytes []) 0 tZero tZero [t,u]).Is (.ag [.j k,.t nm,.t (bytes []),.j 0,.j 0,.sl none 2 [] 0,.j 0,.sl none 2 [] 0,.sl a 9 [x,y] 2]):=
 Tm.is_mk.2 ⟨_,_,_,_,_,_,_,rfl,hdz aA aD,aB,x,[y],rfl,I,y,[],rfl,J,rfl⟩
theorem QF {N N1 N2 N3 I J N6 v0 v1 v2 v3 x y ds a c}(Y:Own N1 N2 x)(hy:Own N3 I y)(hf:Fresh N J a (.ag [x,y]::ds))(h1:N<=N1)(O:N2<=N3/\N3<=I)(h3:N1<=N2)(U:I<=J/\J<=N6):
  Own N N6 (.ag [.lit v0,.lit v1,.lit v2,.lit v3,.j 0,.sl none 2 [] 0,.j 0,.sl none 2 [] 0,.sl a 9 [x,y] c]):=
 BW (zW (zW (zW (zW (zg (N1:=N) (es:=[.j 0,.sl none 2 [] 0,.j 0,.sl none 2 [] 0]) Wy (zf ((p8 (zg (N1:=N3) (es:=[x]) (fs:=[y]) ((zf Y).mono h1 O.1) (zf hy) aA O.2) hf U.1).mono (oC _) U.2)) (oC _) aA)))))
theorem Zz {dp}{T:Bl->Option (Tm × Bl)}(hT:ML dp T)(hs:s.size<=1073741824) N(Q:QT [.ag 9,.bool,.str,.i])(U:∀ d b s' N',N<=N'->Ri (TO N N') (Tt false T (bl s)) d b s'->Q d b s' dp N'):BCalls prog 167 [.ag 9,.bool,.str,.i] [.pb 0 0 0 0] [.var [.str s,.j dp]] N Q:=by
 refine s8 N s dp Q λE N1 au=>hT s N1 _ hs λx b J N2 aw hx _ _=>?_;cases hx with
 | no hm ab=>exact Br.of (λ_=>⟨zN,λN3 ac=>U _ _ _ _ aA (.no (by rw[Tt,hm];rfl) ab)⟩) λh=>by cases h
 | @ok t _ _ hm hx ab=>
   have em:Tt false T (bl s)=QM false T t (bl J):=by rw[Tt,hm];rfl
   rw[em]at U;refine Br.of (λh=>by cases h) λ_=>Br.str (λe=>⟨zN,λN3 ac=>U _ _ _ _ aA (.no (by rw[e];rfl) ab)⟩) λao=>?_;cases hl:bl J with
   | nil=>exact absurd (yA hl) ao
   | cons c r=>
     have h1:(bl J).length=J.size:=ve J;rw[hl]at h1 U;simp only[oJ]at h1;have hr:Atl J 0 (c::r):=⟨ab,aA,aA,hl⟩
     have ex:ByteArray.extract J 0 1=⟨#[c]⟩:=yA (hr.ext 1 (m:=1) rfl);have er:bl (ByteArray.extract J 1 ((J.size:Int)).toNat)=r:=by show(ByteArray.extract J _ _).data.toList=r;rw[AW];show((bl J).drop 1).take _=r;rw[hl,List.drop_succ_cons,List.drop_zero,o3 aA]
     have es:(ByteArray.extract J 1 ((J.size:Int)).toNat).size<=1073741824:=by rw[mT];omega
     rw[ex];refine⟨⟨aA,aA,aA⟩,Br.nstr (λae=>⟨⟨aA,aA,aA⟩,λN3 ac=>?_⟩) λae=>⟨⟨aA,aA,aA⟩,λN3 ac=>?_⟩⟩
     ·have hc:c≠32:=λe=>ae (by rw[e];rfl);have ah:QM false T t (c::r)=(T r).bind λy=>(pre [41] y.2).map λr=>(Tm.mk 4 ⟨#[c]⟩ (bytes []) 0 tZero tZero [t,y.1],r):=by simp only[QM];rw[if_neg hc,if_neg aB]
      rw[ah]at U;have Y:=hT (ByteArray.extract J 1 ((J.size:Int)).toNat) N3;rw[er]at Y;refine Y _ es λy b2 s2 N4 aq hy _ _=>?_;cases hy with
      | no O I=>exact Br.of (λh=>by cases h) λ_=>⟨⟨rfl,rfl⟩,⟨rfl,rfl⟩,⟨rfl,rfl⟩,⟨rfl,rfl⟩,λa N5 ai _=>⟨zN,λN6 aa=>U _ _ _ _ aA (.no (by rw[O];rfl) I)⟩⟩
      | @ok u _ _ O hy I=>rw[O,oO]at U;exact Br.of (λ_ N5 ai=>vD I _ _ N5 _ (λr3 N6 aa hv aj _=>⟨⟨rfl,rfl⟩,⟨rfl,rfl⟩,⟨rfl,rfl⟩,⟨rfl,rfl⟩,λa N7 ak hf=>⟨zN,λN8 al=>U _ _ _ _ aA (.ok (by rw[show pre [41] (u,bl s2).2=some (bl r3)from hv];rfl) ⟨Td (by show 1<=_;omega) hx.1 hy.1 a,QF hx.2 hy.2 hf aA aA aA aA⟩ aj)⟩⟩) λN6 aa hv _=>⟨⟨rfl,rfl⟩,⟨rfl,rfl⟩,⟨rfl,rfl⟩,⟨rfl,rfl⟩,λa N7 ak _=>⟨zN,λN8 al=>U _ _ _ _ aA (.no (by rw[show pre [41] (u,bl s2).2=none from hv];rfl) I)⟩⟩) λh=>by cases h
     ·have hc:c=32:=by have h2:[c]=([32]:Bl):=oY bl ae;simpa using h2
      subst hc;have ah:QM false T t (32::r)=(T r).bind λy=>(pre [41] y.2).map λr=>(Tm.mk 7 (bytes []) (bytes []) 0 tZero tZero [t,y.1],r):=by simp only[QM,mI]
      rw[ah]at U;have Y:=hT (ByteArray.extract J 1 ((J.size:Int)).toNat) N3;rw[er]at Y;refine Y _ es λy b2 s2 N4 aq hy _ _=>?_;cases hy with
      | no O I=>exact Br.of (λh=>by cases h) λ_=>⟨⟨rfl,rfl⟩,⟨rfl,rfl⟩,⟨rfl,rfl⟩,⟨rfl,rfl⟩,λa N5 ai _=>⟨zN,λN6 aa=>U _ _ _ _ aA (.no (by rw[O];rfl) I)⟩⟩
      | @ok u _ _ O hy I=>rw[O,oO]at U;exact Br.of (λ_ N5 ai=>vD I _ _ N5 _ (λr3 N6 aa hv aj _=>⟨⟨rfl,rfl⟩,⟨rfl,rfl⟩,⟨rfl,rfl⟩,⟨rfl,rfl⟩,λa N7 ak hf=>⟨zN,λN8 al=>U _ _ _ _ aA (.ok (by rw[show pre [41] (u,bl s2).2=some (bl r3)from hv];rfl) ⟨Td aD hx.1 hy.1 a,QF hx.2 hy.2 hf aA aA aA aA⟩ aj)⟩⟩) λN6 aa hv _=>⟨⟨rfl,rfl⟩,⟨rfl,rfl⟩,⟨rfl,rfl⟩,⟨rfl,rfl⟩,λa N7 ak _=>⟨zN,λN8 al=>U _ _ _ _ aA (.no (by rw[show pre [41] (u,bl s2).2=none from hv];rfl) I)⟩⟩) λh=>by cases h
theorem uK (hs:s.size<=1073741824):(⟨(word (bl s)).1.toArray⟩:aG).size<=1073741824:=
 sD (s:=s) (n:=0) ⟨hs,aA,aA,rfl⟩
theorem VY {dp}{T:Bl->Option (Tm × Bl)}(hT:ML dp T)(hs:s.size<=1073741824) N(Q:QT [.ag 9,.bool,.str,.i])(hQ:∀ d b s' N',N<=N'->Ri (TO N N') (qv false T (bl s)) d b s'->Q d b s' dp N'):BCalls prog 107 [.ag 9,.bool,.str,.i] [.pb 0 0 0 0] [.var [.str s,.j dp]] N Q:=by
 refine sB N s dp Q λE N1 bt=>?_;have fin:∀ {m:Option (Tm × Bl)},qv false T (bl s)=m->∀ N1,N<=N1->∀ d b s' N',N1<=N'->Ri (TO N1 N') m d b s'->N1<=N'->Bel N' d->yg E [.var [.str (bytes []),.j 0]]/\∀ N3,N'<=N3->Q d b s' dp N3:=λ{m} hm N1 h1 d b s' N' h hx _ _=>⟨zN,λN3 h3=>hQ _ _ _ _ aA (by rw[hm];exact hx.up h1 h3)⟩
 refine vD hs _ _ N1 _ (λr N2 ax hp J _=>Br.of (λ_ N3 ay=>Bg hT (k:=4) (nm:=[33]) aD 1 (by first | rfl | decide) aA _ _ J N3 _ (fin (by simp only[qv,show pre [33] (bl s)=some (bl r)from hp];rfl) N3 aA)) λh=>by cases h) λN2 ax h1 _=>Br.of (λh=>by cases h) λ_ N3 ay=>?_;have g1:pre [33] (bl s)=none:=h1;refine vD hs _ _ N3 _ (λr N4 az hp J _=>Br.of (λ_ N5 a6=>Bg hT (k:=5) (nm:=[]) aD 3 (by first | rfl | decide) aA _ _ J N5 _ (fin (by simp only[qv,g1,show pre [105,102,32] (bl s)=some (bl r)from hp];rfl) N5 aA)) λh=>by cases h) λN4 az h2 _=>Br.of (λh=>by cases h) λ_ N5 a6=>?_;have g2:pre [105,102,32] (bl s)=none:=h2;refine vD hs _ _ N5 _ (λr N6 a7 hp J _=>Br.of (λ_ N7 a8=>Bg hT (k:=12) (nm:=[]) aD 1 (by first | rfl | decide) aA _ _ J N7 _ (fin (by simp only[qv,g1,g2,show pre [114,117,110,32] (bl s)=some (bl r)from hp];rfl) N7 aA)) λh=>by cases h) λN6 a7 h3 _=>Br.of (λh=>by cases h) λ_ N7 a8=>?_;have g3:pre [114,117,110,32] (bl s)=none:=h3;refine vD hs _ _ N7 _ (λr N8 ba hp J _=>Br.of (λ_ N9 bb=>Bg hT (k:=13) (nm:=[]) aD 1 (by first | rfl | decide) aA _ _ J N9 _ (fin (by simp only[qv,g1,g2,g3,show pre [108,105,102,116,32] (bl s)=some (bl r)from hp];rfl) N9 aA)) λh=>by cases h) λN8 ba h4 _=>Br.of (λh=>by cases h) λ_ N9 bb=>?_;have g4:pre [108,105,102,116,32] (bl s)=none:=h4;refine vD hs _ _ N9 _ (λr bc aj hp J _=>Br.of (λ_ ai ak=>?_) λh=>by cases h) λbc aj h5 _=>Br.of (λh=>by cases h) λ_ ai ak=>?_
 ·have em:qv false T (bl s)=LF T (bl r):=by simp only[qv,g1,g2,g3,g4,show pre [108,101,116,32] (bl s)=some (bl r)from hp]
  refine Mq J _ ai _ λr2 al ae h2 O _ aa ah=>vD O _ _ aa _ (λr3 ab U hq ac _=>Br.of (λh=>by cases h) λ_ I Y=>?_) λab U hq _=>Br.of (λ_=>⟨zN,λI Y=>hQ _ _ _ _ aA (.no ?_ O)⟩) λh=>by cases h
  ·rw[h2]at hq;exact Bg hT (k:=8) (nm:=(word (bl r)).1) (uK J) 2 rfl aA _ _ ac I _ (fin (em.trans (by unfold LF;rw[show pre [61] (word (bl r)).2=some (bl r3)from hq];rfl)) I aA)
  ·rw[h2]at hq;rw[em];unfold LF;rw[show pre [61] (word (bl r)).2=none from hq];rfl
 have g5:pre [108,101,116,32] (bl s)=none:=h5;refine vD hs _ _ ai _ (λr al ae hp J _=>Br.of (λ_ aa ah=>?_) λh=>by cases h) λal ae h6 _=>Br.of (λh=>by cases h) λ_ aa ah=>?_
 ·have em:qv false T (bl s)=O3 T (bl r):=by simp only[qv,g1,g2,g3,g4,g5,show pre [92] (bl s)=some (bl r)from hp]
  refine Mq J _ aa _ λr2 ab U h2 O _ I Y=>Zx hT (uK J) O I _ (fin (em.trans ?_) I aA);rw[h2];rfl
 have g6:pre [92] (bl s)=none:=h6;refine vD hs _ _ aa _ (λr ab U hp J _=>Br.of (λ_ I Y=>?_) λh=>by cases h) λab U h7 _=>Br.of (λh=>by cases h) λ_ I Y=>?_
 ·have em:qv false T (bl s)=LG T (bl r):=by simp only[qv,g1,g2,g3,g4,g5,g6,show pre [114,101,99,32] (bl s)=some (bl r)from hp]
  refine Mq J _ I _ λr2 bv bj h2 O _ bg bm=>vD O _ _ bg _ (λr3 bh ao hq ac _=>Br.of (λh=>by cases h) λ_ aq au=>?_) λbh ao hq _=>Br.of (λ_=>⟨zN,λaq au=>hQ _ _ _ _ aA (.no ?_ O)⟩) λh=>by cases h
  ·rw[h2]at hq;refine Mq ac _ aq _ λr4 bw bp h4 bi _ aw bq=>Zy hT (uK J) (uK ac) bi aw _ (fin (em.trans ?_) aw aA);unfold LG;rw[show pre [32] (word (bl r)).2=some (bl r3)from hq,oO,h4]
  ·rw[h2]at hq;rw[em];unfold LG;rw[show pre [32] (word (bl r)).2=none from hq];rfl
 have g7:pre [114,101,99,32] (bl s)=none:=h7;exact Zz hT hs I _ (fin (by simp only[qv,g1,g2,g3,g4,g5,g6,g7]) I aA)
end Go.Proofs.YtlaniepnglheoaaGreatDoor
set_option maxRecDepth 100000
namespace Go.Proofs.YtlaniepnglheoaaGreatDoor
open Go Go.Proofs Go.Proofs.Tryz Go.IntWalk
variable {P:Program} {Q:Exit->Act->World->Prop} {a:Act} {i:Nat} {o:Oper} {ops:Array Oper} {rest:aI} {w w':World}
theorem Wx {v}(I:ops[i]?=some o)(J:o.guard=none)(O:(execOp a.eval o).run P w=.ok (.value v) w')(h:wpOps P ops Q rest (a.put o.dst v) w'):wpOps P ops Q (i::rest) a w:=by simp only[wpOps,I,Region.wanted,J,mI];refine .inl ?_;unfold Oper.wp;rw[O,Oper.upon_value];exact h
theorem YV (I:ops[i]?=some o)(J:o.guard=none)(O:(execOp a.eval o).run P w=.ok .skip w')(h:wpOps P ops Q rest (a.put o.dst undef) w'):wpOps P ops Q (i::rest) a w:=by simp only[wpOps,I,Region.wanted,J,mI];refine .inl ?_;unfold Oper.wp;rw[O,Oper.upon_skip];exact h
theorem zAA {d}(I:ops[i]?=some o)(J:o.guard=none)(O:(execOp a.eval o).run P w=.ok (.defer d) w')(h:wpOps P ops Q rest ({ a with defers:=d::a.defers }.put o.dst undef) w'):wpOps P ops Q (i::rest) a w:=by simp only[wpOps,I,Region.wanted,J,mI];refine .inl ?_;unfold Oper.wp;rw[O,Oper.upon_defer];exact h
def opD (o:Oper):Op × Option Nat × Bool × aK:=(o.op,o.dst,o.guard.isNone,o.type)
theorem QA {l:List (Op × Option Nat × Bool × aK)}(h:ops.toList.map opD=l){op d t}(hi:l[i]?=some (op,d,true,t)):∃ o,ops[i]?=some o/\o.op=op/\o.dst=d/\o.guard=none/\o.type=t:=by
 subst h;rw[oF,nR]at hi;cases I:ops[i]? with
 | none=>rw[I]at hi;cases hi
 | some o=>rw[I]at hi;simp only[oX,od,opD,lH]at hi;exact⟨o,rfl,hi.1,hi.2.1,Option.isNone_iff_eq_none.1 hi.2.2.1,hi.2.2.2⟩
theorem HU {av w0 e0 e st}{l:List (Op × Option Nat × Bool × aK)}(hl:ops.toList.map opD=l){d op t p}(hi:l[i]?=some (op,some d,true,t))(h:Rel av w0 e0 [] [] a w e st)(Y:nev prog (opd st.sl) (λk=>st.bx[k]?) op t (λr=>r=Res.v p)=(Res.v p=Res.v p))(k:∀ J,Rel av w0 e0 [] [] J w e (st.put (some d) p)->wpOps prog ops Q rest J w):wpOps prog ops Q (i::rest) a w:=by
 obtain⟨o,ho,e1,e2,hg,e4⟩:=QA hl hi;rcases GG h (o:=o) (R:=λr=>r=Res.v p) aB (by rw[e1,e4,Y])with⟨v,q,O,I,U⟩ | ⟨v,c,t,B,f,O,I,U⟩
 ·cases I;refine Wx ho hg O ?_;rw[e2];exact k _ (wE (dst:=some d) h U (λi hi _=>hi))
 ·cases I
def ops42:List (Op × Option Nat × Bool × aK):=[(.load 66 (.tmp 0),some 1,true,66),(.nilCheck (.tmp 1),some 2,true,0),(.fieldAddr 68 (.tmp 2) 1,some 3,true,0),(.load 3 (.tmp 3),some 4,true,3),
 (.binOp .sub 3 (.tmp 4) (.const (.int .i64 1)) 3,some 5,true,3),(.nilCheck (.tmp 1),some 6,true,0),(.fieldAddr 68 (.tmp 6) 1,some 7,true,0),(.store 3 (.tmp 7) (.tmp 5),none,true,0)]
noncomputable def reg42:Option (Func × Nat × Array Oper):=match prog.funcs[103]? with
 | some fn=>match fn.body with
   | some (.region id ops false)=>some (fn,id,ops)
   | _=>none
 | none=>none
theorem RZ:reg42.isSome=true:=by kernel_rfl
theorem Tz:reg42.map (λm=>m.2.2.toList.map opD)=some ops42:=by kernel_rfl
theorem V8:reg42.map (λm=>(m.1.ntmps,m.1.results.toList.length))=some (8,0):=by kernel_rfl
theorem Ra {m:Func × Nat × Array Oper}(h:reg42=some m):prog.funcs[103]?=some m.1/\m.1.body=some (.region m.2.1 m.2.2 false):=by
 unfold reg42 at h;split at h
 ·rename_i fn I;split at h
  ·rename_i id ops hb;cases h;exact⟨I,hb⟩
  ·cases h
 ·cases h
theorem zBY {av w0 w2 e0 e s n bs N}{pn:Option (List (Option Nat) × aI)}{v}{R:Ending->World->Prop}(hr:∀ a:Act,a.defers=[]->a.tmps=#[v]++Array.replicate 7 undef->Rel av w0 e0 [] [] a w e ⟨.pb 1 0 0 0::an 7 [],.var [.str s,.int .i64 n]::.var [.pb 0 0 0 0]::bs,N,pn⟩)(hs:(Instr.storeAt 3 (.pointer (some ⟨(e.at 0).getD 0,0*ez 0+1,none⟩)) (.int .i64 (IntKind.i64.wrap (n - 1)))).run prog w=.ok () w2)(hR:R (.returned (.tuple #[])) w2){u}:CallsD prog 103 #[v] u w λe' u' w'=>u'=u/\R e' w':=by
 obtain⟨m,hm⟩:=mq.1 RZ;have I:=Tz;have U:=V8;rw[hm,oX,od]at I U;obtain⟨hf,hb⟩:=Ra hm;have hn:m.1.ntmps=8:=oY Prod.fst U;have J:m.2.2.size=8:=by have:=oY List.length I;simpa [ops42]using this
 have O:m.1.results=#[]:=by have:m.1.results.toList.length=0:=oY Prod.snd U;exact Array.eq_empty_of_size_eq_zero (by simpa using this)
 refine callsD_of_wp hf hb (wp_region ?_);rw[J,hn];show wpOps prog m.2.2 _ [0,1,2,3,4,5,6,7] _ w;have r0:=hr { tmps:=#[v]++Array.replicate (8 - (#[v]:Array Value).size) undef,defers:=[] } rfl rfl;refine HU I (i:=0) (p:=.pb 0 0 0 0) rfl r0 (by kernel_rfl) λa1 r1=>?_;refine HU I (i:=1) (p:=.pb 0 0 0 0) rfl r1 (by kernel_rfl) λa2 r2=>?_;refine HU I (i:=2) (p:=.pb 0 0 0 1) rfl r2 (by kernel_rfl) λa3 r3=>?_;refine HU I (i:=3) (p:=.int .i64 n) rfl r3 (by kernel_rfl) λa4 r4=>?_;refine HU I (i:=4) (p:=.int .i64 (IntKind.i64.wrap (n - 1))) rfl r4 (by kernel_rfl) λa5 r5=>?_;refine HU I (i:=5) (p:=.pb 0 0 0 0) rfl r5 (by kernel_rfl) λa6 r6=>?_;refine HU I (i:=6) (p:=.pb 0 0 0 1) rfl r6 (by kernel_rfl) λa7 Y=>?_;obtain⟨o,ho,e1,e2,hg,e4⟩:=QA I (i:=7) rfl;have h7:a7.eval (.tmp 7)=.pointer (some ⟨(e.at 0).getD 0,0*ez 0+1,none⟩):=(Y.hs 7 (.pb 0 0 0 1) rfl aB).resolve_left aB;have h5:a7.eval (.tmp 5)=.int .i64 (IntKind.i64.wrap (n - 1)):=(Y.hs 5 (.int .i64 (IntKind.i64.wrap (n - 1))) rfl aB).resolve_left aB;refine YV ho hg (w':=w2) (by simp only[execOp,e1,h7,h5,Sem.run_bind,hs,Result.andThen_ok,Sem.run_pure]) ?_;rw[e2];refine⟨Y.nd,.tuple #[],?_,hR⟩;simp[results,O]
end Go.Proofs.YtlaniepnglheoaaGreatDoor
set_option linter.unusedSectionVars false
set_option maxRecDepth 100000
namespace Go.Proofs.YtlaniepnglheoaaGreatDoor
open Go Go.Proofs Go.Proofs.Tryz Go.IntWalk
structure Rt where
 o:Array Oper
 x:Code
 y:Code
 z:Code
def zAO:List Item->Option Rt
 | [.code (.region 2 o false),.code (.seq (.block 0 (.seq x y)) z)]=>some ⟨o,x,y,z⟩
 | _=>none
theorem UD {l m}(h:zAO l=some m):l=[.code (.region 2 m.o false),.code (.seq (.block 0 (.seq m.x m.y)) m.z)]:=by
 unfold zAO at h;split at h
 ·cases h;rfl
 ·cases h
theorem Yl:(zAO (G9 prog 53 2)).isSome=true:=by kernel_rfl
theorem WF:(zAO (G9 prog 53 2)).map (λm=>[.code m.x,.code m.y,.inBlock 0,.code m.z])=some (G9 prog 53 3):=by kernel_rfl
def rtops:List (Op × Option Nat × Bool × aK):=[(.makeFunc (.func 103) #[] #[.tmp 1],some 14,true,1),(.defer ⟨.value (.tmp 14),#[],#[]⟩,none,true,0)]
theorem zAS:(zAO (G9 prog 53 2)).map (λm=>m.o.toList.map opD)=some rtops:=by kernel_rfl
theorem zAR v w:(invoke (.fn (.func 103) #[v]) #[]).run prog w=.ok (.enter 103 #[v]) w:=by kernel_rfl
theorem zBX:kz prog 3=some 0:=by kernel_rfl
theorem VN {a:Act}{d v}(h:d<a.tmps.size):(a.put (some d) v).eval (.tmp d)=v:=by simp[Act.put,Act.eval,nC,h]
theorem zAQ [Dfs]{E e'}{Q:QT [.ag 9,.bool,.str,.int .i64]}{N0 N' b2 av w0 w' a' O s n bs x}(U:Rel av w0 E [] [] a' w' e' ⟨O,.var [.str s,.int .i64 n]::.var [.pb 0 0 0 0]::bs,N',some ([x,some b2],[])⟩)(Y:w0.heap.size<=b2)(hN:w0.heap.size=N0)(hK:ZF prog 53 [.ag 9,.bool,.str,.int .i64] Q (some N0) E [.var [.str (bytes []),.int .i64 0]] ⟨O,.var [.str s,.int .i64 (IntKind.i64.wrap (n - 1))]::.var [.pb 0 0 0 0]::bs,N',some ([x],[])⟩) :
  e'.at 1=some b2/\∃ w2 fn v,(Instr.storeAt 3 (.pointer (some ⟨(e'.at 0).getD 0,0*ez 0+1,none⟩)) (.int .i64 (IntKind.i64.wrap (n - 1)))).run prog w'=.ok () w2/\prog.funcs[(53:Nat)]?=some fn/\(results fn a'.tmps).run prog w2=.ok v w2 /\
   ZJ [.ag 9,.bool,.str,.int .i64] Q (HP prog 53 [.ag 9,.bool,.str,.int .i64] [.var [.str (bytes []),.int .i64 0]]) av w0 E [.var [.str (bytes []),.int .i64 0]] (.returned v) w2:=by
 have aa:e'.at 1=some b2:=(U.pin 1 b2 rfl).1;refine⟨aa,?_⟩;obtain⟨w2,B',ab,hB,I⟩:=Hj U (t:=3) (z:=0) (zz:=0) (k:=0) (i:=0) (o:=1) (v:=.int .i64 (IntKind.i64.wrap (n - 1))) (p:=.int .i64 (IntKind.i64.wrap (n - 1))) (K:=λB=>B=.var [.str s,.int .i64 (IntKind.i64.wrap (n - 1))]) zBX rfl aB zo rfl;subst hB;have ah:Rel av w0 E [] [] a' w2 e' ⟨O,.var [.str s,.int .i64 (IntKind.i64.wrap (n - 1))]::.var [.pb 0 0 0 0]::bs,N',some ([x],[])⟩:=
  Rel.mk I.toMem I.toFram I.nd I.sz I.hN I.hs I.so I.sr
   (λk b J=>by
    rcases I.own k b J with h1 | ⟨h1,h2⟩
    ·exact .inl h1
    ·have h2:k<2:=h2;have h3:k=0\/k=1:=aA
     rcases h3 with rfl | rfl
     ·exact .inr ⟨h1,Nat.zero_lt_one⟩
     ·have:=J.2.1;rw[aa]at this;cases this;exact .inl Y) I.avl I.avn
   (λk b J=>by
    match k,J with
    | 0,J=>exact I.pin 0 b (by simpa [St.pins]using J)
    | k+1,J=>simp[St.pins]at J) (λL T hp=>by cases hp;simp)
 obtain⟨fn,v,hf,ac,ae⟩:=QS ah (λk J=>by cases J;exact hN.symm) hK;exact⟨w2,fn,v,ab,hf,ac,ae⟩
theorem WE [Dfs]{E e' N' b2 av w0 w' a' O U s n bs x}(J:Rel av w0 E [] [] a' w' e' ⟨U,.var [.str s,.int .i64 n]::.var [.pb 0 0 0 0]::bs,N',some ([x,some b2],[])⟩)(hd:O.defers=[])(ht:O.tmps=#[.pointer (some ⟨b2,0,none⟩)]++Array.replicate 7 undef) :
  @Rel instDfs av w0 E [] [] O w' e' ⟨.pb 1 0 0 0::an 7 [],.var [.str s,.int .i64 n]::.var [.pb 0 0 0 0]::bs,N',some ([x,some b2],[])⟩:=by
 have Y:e'.at 1=some b2:=(J.pin 1 b2 rfl).1;refine @Rel.mk instDfs _ _ _ _ _ _ _ _ _ J.toMem J.toFram hd (by rw[ht];simp[an]) J.hN (λi p I _=>?_) (λi p I _=>?_) (λi p I _ k hk=>?_) J.own J.avl J.avn J.pin J.pit
 ·match i,I with
  | 0,I=>simp at I;subst I;refine .inr ?_;show O.tmps.getD 0 undef=.pointer (some ⟨(e'.at 1).getD 0,0*ez 0+0,none⟩);rw[Y,ht];rfl
  | i+1,I=>have:p∈an 7 []:=oB I;simp[an]at this;exact .inl this
 ·match i,I with
  | 0,I=>simp at I;subst I;trivial
  | i+1,I=>have:p∈an 7 []:=oB I;simp[an]at this;subst this;trivial
 ·match i,I with
  | 0,I=>simp at I;subst I;simp[PV.refs]at hk;subst hk;exact⟨aB,aB⟩
  | i+1,I=>have:p∈an 7 []:=oB I;simp[an]at this;subst this;simp[PV.refs]at hk
theorem XC {E}{Q:QT [.ag 9,.bool,.str,.int .i64]}{N0 s0 n0 N}(h:∀ b1 dd,wy E b1 dd Q N0 s0 n0 0 (bytes []) (bytes []) 0 0 none [] 0 0 none [] 0 none [] 0 N):xO E Q N0 s0 n0 0 (bytes []) (bytes []) 0 0 none [] 0 0 none [] 0 none [] 0 N:=by
 unfold xO;refine⟨λav w0 a w e hN hr=>?_⟩;obtain⟨m,hm⟩:=mq.1 Yl;have h3:=WF;have h2:=zAS;rw[hm,oX,od]at h3 h2;rw[UD hm];have bp:67<=a.tmps.size:=hr.sz;have ai:m.o.size=2:=by have:=oY List.length h2;simpa [rtops]using this
 obtain⟨b1,c1,t1,ab,bq,_⟩:=hr.br 1 _ rfl aB;have aj:w0.heap.size<=b1:=(hr.own 1 b1 ⟨aB,ab,_,rfl,aB⟩).resolve_right (λ⟨_,h⟩=>by simp[St.pins,wa]at h);have e1:a.eval (.tmp 1)=.pointer (some ⟨b1,0,none⟩):=by have:a.eval (.tmp 1)=.pointer (some ⟨(e.at 1).getD 0,0*ez 0+0,none⟩):=(hr.hs 1 (.pb 1 0 0 0) rfl aB).resolve_left aB;rw[this,ab];rfl
 have a8:∀(fn:Fn) (first cap:Array Value) (w:World),(Instr.makeFunc fn first cap).run prog w=.ok (.func fn first cap) w:=λ_ _ _ _=>rfl;refine G1 (wp_region ?_);rw[ai];show wpOps prog m.o _ [0,1] a w;obtain⟨o0,q0,p0,d0,g0,y0⟩:=QA h2 (i:=0) rfl;obtain⟨o1,q1,p1,d1,g1,y1⟩:=QA h2 (i:=1) rfl;refine Wx q0 g0 (v:=.func (.func 103) #[] #[.pointer (some ⟨b1,0,none⟩)]) (w':=w) (by simp[execOp,p0,e1,a8,Result.andThen]) ?_;rw[d0];have I:=wE (dst:=some 14) (v:=.func (.func 103) #[] #[.pointer (some ⟨b1,0,none⟩)]) (p:=.any) hr DC (λi hi _=>hi);have ak:(a.put (some 14) (.func (.func 103) #[] #[.pointer (some ⟨b1,0,none⟩)])).eval (.tmp 14)=.func (.func 103) #[] #[.pointer (some ⟨b1,0,none⟩)]:=VN aA;generalize a.put (some 14) (.func (.func 103) #[] #[.pointer (some ⟨b1,0,none⟩)])=a1 at I ak;refine zAA q1 g1 (d:=⟨.fn (.func 103) #[.pointer (some ⟨b1,0,none⟩)],#[]⟩) (w':=w) (by simp[execOp,p1,resolve,ak,Deferred.ofValue]) ?_;rw[d1];refine⟨rfl,xT (λcs=>step_seq) (xT (λcs=>step_block) (xT (λcs=>step_seq) ?_))⟩;rw[h3];have I:Rel av w0 E [] [] a1 w e ⟨an 1 (.pb 1 0 0 0::.pb 2 0 0 0::an 64 []),[.var [.str s0,.int .i64 n0],.var [.pb 0 0 0 0],.var [.int .i64 0,.str (bytes []),.str (bytes []),.int .i64 0,.int .i64 0,.sv none 2 [] 0,.int .i64 0,.sv none 2 [] 0,.sv none 9 [] 0]],N,some ([some ((E.at 0).getD 0)],[])⟩:=I;have ba:a1.defers=[]:=I.nd;rw[ba];have bb:@Rel ⟨some [⟨.fn (.func 103) #[.pointer (some ⟨b1,0,none⟩)],#[]⟩]⟩ av w0 E [] [] { a1 with defers:=[⟨.fn (.func 103) #[.pointer (some ⟨b1,0,none⟩)],#[]⟩] } w e ⟨an 1 (.pb 1 0 0 0::.pb 2 0 0 0::an 64 []),[.var [.str s0,.int .i64 n0],.var [.pb 0 0 0 0],.var [.int .i64 0,.str (bytes []),.str (bytes []),.int .i64 0,.int .i64 0,.sv none 2 [] 0,.int .i64 0,.sv none 2 [] 0,.sv none 9 [] 0]],N,some (wa E 0 [.var [.str (bytes []),.int .i64 0]]++[some b1],[])⟩:=
  @Rel.mk ⟨some [⟨.fn (.func 103) #[.pointer (some ⟨b1,0,none⟩)],#[]⟩]⟩ _ _ _ _ _ _ _ _ _ I.toMem I.toFram rfl I.sz I.hN I.hs I.so I.sr
   (λk b O=>(I.own k b O).imp id λ⟨h1,h2⟩=>⟨h1,by simp[St.pins,wa]at h2 ⊢;omega⟩) I.avl I.avn
   (λk b O=>by
    simp only[St.pins,wa,oq,oa]at O
    match k,O with
    | 0,O=>exact I.pin 0 b (by simpa [St.pins,wa]using O)
    | 1,O=>simp at O;subst O;exact⟨ab,aB⟩
    | k+2,O=>simp at O) (λL T hp=>by cases hp;simp)
 intro cs;obtain⟨en,w',fr,⟨a',e',st',rfl,hK,al⟩,Y,ao,ac⟩:=@AT.h ⟨some [⟨.fn (.func 103) #[.pointer (some ⟨b1,0,none⟩)],#[]⟩]⟩ _ _ _ _ _ _ _ _ (h b1 [⟨.fn (.func 103) #[.pointer (some ⟨b1,0,none⟩)],#[]⟩]) av w0 _ w e hN bb cs;obtain⟨U,ae,aq,ah⟩:Ending.returned (.tuple a'.tmps)=.returned (.tuple fr.tmps)/\fr.mode=.returning/\fr.defers=[⟨.fn (.func 103) #[.pointer (some ⟨b1,0,none⟩)],#[]⟩]/\fr.kind=.normal:=ac;have U:a'.tmps=fr.tmps:=by
  injection U with U
  injection U
 obtain⟨bt,bv,N',bm⟩:=st';unfold dfK at hK;split at hK
 rotate_left
 ·exact hK.elim
 rename_i s2 b2 J;unfold dfS at J;split at J
 rotate_left
 ·cases J
 rename_i s n bs au;split at J
 rotate_left
 ·cases J
 rename_i x b3 aa;simp only at au aa;subst au;subst aa;cases J;obtain⟨rfl,hK⟩:=hK;obtain⟨_,w2,fn,v,aw,hf,ax,ay⟩:=@zAQ ⟨some [⟨.fn (.func 103) #[.pointer (some ⟨b2,0,none⟩)],#[]⟩]⟩ _ _ _ _ _ _ _ _ _ _ _ _ _ _ _ al aj hN hK;have az:=zBY (R:=λen a6=>en=.returned (.tuple #[])/\a6=w2) (u:=.returning) (λbw hd ht=>@WE ⟨some [⟨.fn (.func 103) #[.pointer (some ⟨b2,0,none⟩)],#[]⟩]⟩ _ _ _ _ _ _ _ _ _ _ _ _ _ _ al hd ht) aw ⟨rfl,rfl⟩;have hL:Leaves prog fn fr.tmps (Mode.fin (.io E [.var [.str (bytes []),.int .i64 0]]) prog 53 [.ag 9,.bool,.str,.int .i64] Q av w0) [⟨.fn (.func 103) #[.pointer (some ⟨b2,0,none⟩)],#[]⟩] .returning w':=by
  refine leaves_cons (f:=103) (args:=#[.pointer (some ⟨b2,0,none⟩)]) aB (zAR _ _) (az.mono ?_)
  rintro en u' a6 ⟨rfl,rfl,rfl⟩
  exact⟨v,by rw[<-U];exact ax,ay⟩
 obtain⟨bc,w3,bg,bh,bi,a7,bj⟩:=leaves_steps _ .returning w' fr cs ae aq rfl (by rw[ao];exact hf) ah hL;exact⟨bc,w3,bg,bh,Comes.of_steps Y bi,a7.trans ao,bj⟩
end Go.Proofs.YtlaniepnglheoaaGreatDoor
set_option maxRecDepth 100000
namespace Go.Proofs.YtlaniepnglheoaaGreatDoor
open Go Go.Proofs Go.Proofs.Tryz Go.IntWalk
def NumI:Prop:=∀(w:aG) (_:w.size<=1073741824) (N:Nat) (Q:QT [.i,.bool]) (_:∀(m:Nat) N',N<=N'->wD (bl w)=some m->Q (m:Int) true N') (_:∀ n N',N<=N'->wD (bl w)=none->Q n false N'),ACalls prog 109 [.i,.bool] [.str w] N Q
theorem C0 {N N' v0 v1 v2 v3}:Own N N' (.ag [.lit v0,.lit v1,.lit v2,.lit v3,.j 0,.sl none 2 [] 0,.j 0,.sl none 2 [] 0,.sl none 9 [] 0]):=
 ⟨by simp[D.foot,zC],⟨trivial,trivial,trivial,trivial,trivial,⟨aB,trivial⟩,trivial,⟨aB,trivial⟩,⟨aB,trivial⟩,trivial⟩,by simp[D.foot,zC],by simp[D.foot,zC]⟩
theorem Z0 (ai:NumI):∀ j:Nat,j<=20->∀ dp:Int,dp+j=20->ML dp (uj false j):=by
 intro j
 induction j with
 | zero=>
   intro _ dp au s N Q hs hQ;have e1:IntKind.i64.wrap (dp+1)=dp+1:=i64_in _ aA;have e2:IntKind.i64.wrap (dp+1 - 1)=dp:=by rw[i64_in _ aA];omega
   refine wc N s dp Q λE=>XC λb1 dd=>?_;rw[e1];exact w6 (h:=Br.dec (λ_=>⟨rfl,zN,λN1 aj=>by rw[e2];exact hQ _ _ _ _ aj (.no rfl hs)⟩) λh=>aA) ..
 | succ j ih=>
   intro hj dp au s N Q hs hQ;have e1:IntKind.i64.wrap (dp+1)=dp+1:=i64_in _ aA;have e2:IntKind.i64.wrap (dp+1 - 1)=dp:=by rw[i64_in _ aA];omega
   have hT:=ih aA (dp+1) aA;rw[<-e2]at hQ;refine wc N s dp Q λE=>XC λb1 dd=>?_;rw[e1];have fin:∀ {m:Option (Tm × Bl)},uj false (j+1) (bl s)=m->∀ N1,N<=N1->∀ d b s' N',N1<=N'->Ri (TO N1 N') m d b s'->N1<=N'->Bel N' d->b1=b1/\yg E [.var [.str (bytes []),.j 0]]/\∀ N3,N'<=N3->Q d b s' (IntKind.i64.wrap (dp+1 - 1)) N3:=λ{m} I N1 h1 d b s' N' h hx _ _=>⟨rfl,zN,λN3 h3=>hQ _ _ _ _ aA (by rw[I];exact hx.up h1 h3)⟩
   refine w6 (h:=Br.dec (λh=>aA) λ_ N1 aj=>?_) ..;refine vD hs _ _ N1 _ (λr N2 aw Y J _=>Br.of (λ_ N3 ax=>s9 N3 1 true _ (Br.of (λ_ N4 ab=>fin (by simp only[uj,show pre [35,116] (bl s)=some (bl r)from Y]) N3 aA _ _ _ N4 ab (.ok (t:=tBl 1) rfl ⟨rz 3 1 aD,C0⟩ J)) λh=>by cases h)) λh=>by cases h) λN2 aw h1 _=>Br.of (λh=>by cases h) λ_ N3 ax=>?_;have g1:pre [35,116] (bl s)=none:=h1;refine vD hs _ _ N3 _ (λr N4 ab Y J _=>Br.of (λ_ N5 ay=>s9 N5 0 true _ (Br.of (λ_ N6 ac=>fin (by simp only[uj,g1,show pre [35,102] (bl s)=some (bl r)from Y]) N5 aA _ _ _ N6 ac (.ok (t:=tBl 0) rfl ⟨rz 3 0 aD,C0⟩ J)) λh=>by cases h)) λh=>by cases h) λN4 ab h2 _=>Br.of (λh=>by cases h) λ_ N5 ay=>?_;have g2:pre [35,102] (bl s)=none:=h2;refine vD hs _ _ N5 _ (λr N6 ac Y J _=>Br.of (λ_ N7 az=>Bg hT (k:=10) (nm:=[]) aD 1 rfl aA _ _ J N7 _ (fin (by simp only[uj,g1,g2,show pre [60] (bl s)=some (bl r)from Y];rfl) N7 aA)) λh=>by cases h) λN6 ac h3 _=>Br.of (λh=>by cases h) λ_ N7 az=>?_;have g3:pre [60] (bl s)=none:=h3;refine vD hs _ _ N7 _ (λr N8 a6 Y J _=>Br.of (λ_ N9 a7=>Bg hT (k:=11) (nm:=[]) aD 1 rfl aA _ _ J N9 _ (fin (by simp only[uj,g1,g2,g3,show pre [126] (bl s)=some (bl r)from Y];rfl) N9 aA)) λh=>by cases h) λN8 a6 h4 _=>Br.of (λh=>by cases h) λ_ N9 a7=>?_;have g4:pre [126] (bl s)=none:=h4;refine vD hs _ _ N9 _ (λr a8 ak Y J _=>Br.of (λ_ aa al=>VY hT J aa _ (fin (by simp only[uj,g1,g2,g3,g4,show pre [40] (bl s)=some (bl r)from Y]) aa aA)) λh=>by cases h) λa8 ak h5 _=>Br.of (λh=>by cases h) λ_ aa al=>?_;have g5:pre [40] (bl s)=none:=h5;have em:uj false (j+1) (bl s)=OA false (bl s):=by simp only[uj,g1,g2,g3,g4,g5]
   refine Mq hs _ aa _ λr bh bc h2 J _ ba bg=>ai _ (uK hs) ba _ (λm bb ao I _=>Br.of (λ_ O aq=>E8 O m _ λae U=>fin em O aA _ _ _ ae U (.ok (t:=WN m) ?_ ⟨rz 2 m aD,C0⟩ J)) λh=>by cases h) λn bb ao I _=>Br.of (λh=>by cases h) λ_ O aq=>E9 O _ _ λae U=>fin em O aA _ _ _ ae U ?_
   ·have I:wD (word (bl s)).1=some m:=I;rw[h2];cases hl:bl s with
    | nil=>rw[hl]at I;rw[show(word ([]:Bl)).1=[]from rfl,Mz aB]at I;cases I
    | cons c l=>rw[hl]at I;simp only[OA,I]
   ·have I:wD (word (bl s)).1=none:=I;by_cases hw:(word (bl s)).1=[]
    ·have ah:(!(ByteArray.toList (⟨(word (bl s)).1.toArray⟩:aG)==ByteArray.toList (bytes [])))=false:=by rw[xa,Bool.not_eq_false',oh,hw];rfl
     rw[ah];refine .no ?_ J;cases hl:bl s with
     | nil=>rfl
     | cons c l=>rw[hl]at I hw;simp only[OA,I];rw[if_pos hw]
    ·have ah:(!(ByteArray.toList (⟨(word (bl s)).1.toArray⟩:aG)==ByteArray.toList (bytes [])))=true:=by rw[xa,nM,nw];intro h;exact hw (oY bl h)
     rw[ah];refine .ok (t:=tVr (word (bl s)).1) ?_ ⟨rz 1 0 (oR (uK hs) aA),C0⟩ J;rw[h2];cases hl:bl s with
     | nil=>rw[hl]at hw;exact absurd rfl hw
     | cons c l=>rw[hl]at I hw;simp only[OA,I];rw[if_neg hw]
end Go.Proofs.YtlaniepnglheoaaGreatDoor
namespace Go.Proofs
namespace YtlaniepnglheoaaGreatDoor
open Go Go.Proofs Go.Proofs.Tryz Go.RowKit Go.Shelf Go.Sort Go.Lib
variable {b:UInt8} {w:World}
def atoiR:Go.Shelf.Ren:=⟨λx=>match x with | 129=>262 | 171=>66 | 172=>216 | 205=>284 | 243=>133 | 244=>248 | 245=>249 | 246=>198 | 247=>266 | 279=>267 | 280=>268 | 281=>269 | 282=>270 | 283=>240 | 284=>241 | 285=>242 | 286=>243 | 287=>282 | 316=>283 | 317=>261 | 318=>263 | 319=>264 | 320=>265 | 321=>288 | 322=>289 | 337=>280 | 338=>281 | n=>n,λx=>match x with | 0=>0 | 2=>2 | 3=>3 | 4=>4 | 5=>5 | 9=>9 | 20=>20 | 21=>21 | 37=>26 | 46=>115 | 51=>137 | 53=>192 | 75=>169 | 76=>170 | 80=>73 | 85=>215 | 127=>210 | 143=>238 | 145=>240 | 167=>214 | 168=>217 | 171=>191 | 173=>195 | 175=>226 | 210=>229 | 212=>211 | 213=>212 | 232=>235 | 233=>236 | n=>n,λx=>match x with | 15=>5 | 16=>6 | 17=>4 | 18=>8 | 19=>9 | n=>n⟩
theorem XX:LaysC.n172 Tryz.prog atoiR where
 mixed:=by kernel_rfl
 f129:=Tryz.func262.trans (oY some (by kernel_rfl))
 f171:=Tryz.func66.trans (oY some (by kernel_rfl))
 f172:=Tryz.func216.trans (oY some (by kernel_rfl))
 f205:=Tryz.func284.trans (oY some (by kernel_rfl))
 f243:=Tryz.func133.trans (oY some (by kernel_rfl))
 f244:=Tryz.func248.trans (oY some (by kernel_rfl))
 f245:=Tryz.func249.trans (oY some (by kernel_rfl))
 f246:=Tryz.func198.trans (oY some (by kernel_rfl))
 f247:=Tryz.func266.trans (oY some (by kernel_rfl))
 f279:=Tryz.func267.trans (oY some (by kernel_rfl))
 f280:=Tryz.func268.trans (oY some (by kernel_rfl))
 f281:=Tryz.func269.trans (oY some (by kernel_rfl))
 f282:=Tryz.func270.trans (oY some (by kernel_rfl))
 f283:=Tryz.func240.trans (oY some (by kernel_rfl))
 f284:=Tryz.func241.trans (oY some (by kernel_rfl))
 f285:=Tryz.func242.trans (oY some (by kernel_rfl))
 f286:=Tryz.func243.trans (oY some (by kernel_rfl))
 f287:=Tryz.func282.trans (oY some (by kernel_rfl))
 f316:=Tryz.func283.trans (oY some (by kernel_rfl))
 f317:=Tryz.func261.trans (oY some (by kernel_rfl))
 f318:=Tryz.func263.trans (oY some (by kernel_rfl))
 f319:=Tryz.func264.trans (oY some (by kernel_rfl))
 f320:=Tryz.func265.trans (oY some (by kernel_rfl))
 f321:=Tryz.func288.trans (oY some (by kernel_rfl))
 f322:=Tryz.func289.trans (oY some (by kernel_rfl))
 f337:=Tryz.func280.trans (oY some (by kernel_rfl))
 f338:=Tryz.func281.trans (oY some (by kernel_rfl))
 t0:=Tryz.underlying0
 a0:=Tryz.isAgg0
 z0:=Tryz.sizeOf0
 v0:=Tryz.zeroValue0
 t2:=Tryz.underlying2
 a2:=Tryz.isAgg2
 z2:=Tryz.sizeOf2
 v2:=Tryz.zeroValue2
 t3:=Tryz.underlying3
 a3:=Tryz.isAgg3
 z3:=Tryz.sizeOf3
 v3:=Tryz.zeroValue3
 t4:=Tryz.underlying4
 a4:=Tryz.isAgg4
 z4:=Tryz.sizeOf4
 v4:=Tryz.zeroValue4
 t5:=Tryz.underlying5
 a5:=Tryz.isAgg5
 z5:=Tryz.sizeOf5
 v5:=Tryz.zeroValue5
 t9:=Tryz.underlying9
 a9:=Tryz.isAgg9
 z9:=Tryz.sizeOf9
 v9:=Tryz.zeroValue9
 t20:=Tryz.underlying20
 a20:=Tryz.isAgg20
 z20:=Tryz.sizeOf20
 v20:=Tryz.zeroValue20
 t21:=Tryz.underlying21
 a21:=Tryz.isAgg21
 z21:=Tryz.sizeOf21
 v21:=Tryz.zeroValue21
 t37:=Tryz.underlying26
 a37:=Tryz.isAgg26
 z37:=Tryz.sizeOf26
 v37:=Tryz.zeroValue26
 t46:=Tryz.underlying115
 a46:=Tryz.isAgg115
 z46:=Tryz.sizeOf115
 v46:=Tryz.zeroValue115
 t51:=Tryz.underlying137
 a51:=Tryz.isAgg137
 z51:=Tryz.sizeOf137
 v51:=Tryz.zeroValue137
 t53:=Tryz.underlying192
 a53:=Tryz.isAgg192
 z53:=Tryz.sizeOf192
 v53:=Tryz.zeroValue192
 t75:=Tryz.underlying169
 a75:=Tryz.isAgg169
 z75:=Tryz.sizeOf169
 v75:=Tryz.zeroValue169
 t76:=Tryz.underlying170
 a76:=Tryz.isAgg170
 z76:=Tryz.sizeOf170
 v76:=Tryz.zeroValue170
 t85:=Tryz.underlying215
 a85:=Tryz.isAgg215
 z85:=Tryz.sizeOf215
 v85:=Tryz.zeroValue215
 t127:=Tryz.underlying210
 a127:=Tryz.isAgg210
 z127:=Tryz.sizeOf210
 v127:=Tryz.zeroValue210
 t143:=Tryz.underlying238
 a143:=Tryz.isAgg238
 z143:=Tryz.sizeOf238
 v143:=Tryz.zeroValue238
 t145:=Tryz.underlying240
 a145:=Tryz.isAgg240
 z145:=Tryz.sizeOf240
 v145:=Tryz.zeroValue240
 t167:=Tryz.underlying214
 a167:=Tryz.isAgg214
 z167:=Tryz.sizeOf214
 v167:=Tryz.zeroValue214
 t168:=Tryz.underlying217
 a168:=Tryz.isAgg217
 z168:=Tryz.sizeOf217
 v168:=Tryz.zeroValue217
 t171:=Tryz.underlying191
 a171:=Tryz.isAgg191
 z171:=Tryz.sizeOf191
 v171:=Tryz.zeroValue191
 t173:=Tryz.underlying195
 a173:=Tryz.isAgg195
 z173:=Tryz.sizeOf195
 v173:=Tryz.zeroValue195
 t175:=Tryz.underlying226
 a175:=Tryz.isAgg226
 z175:=Tryz.sizeOf226
 v175:=Tryz.zeroValue226
 t210:=Tryz.underlying229
 a210:=Tryz.isAgg229
 z210:=Tryz.sizeOf229
 v210:=Tryz.zeroValue229
 t212:=Tryz.underlying211
 a212:=Tryz.isAgg211
 z212:=Tryz.sizeOf211
 v212:=Tryz.zeroValue211
 t213:=Tryz.underlying212
 a213:=Tryz.isAgg212
 z213:=Tryz.sizeOf212
 t232:=Tryz.underlying235
 a232:=Tryz.isAgg235
 z232:=Tryz.sizeOf235
 v232:=Tryz.zeroValue235
 t233:=Tryz.underlying236
 a233:=Tryz.isAgg236
 z233:=Tryz.sizeOf236
 v233:=Tryz.zeroValue236
 g15:=by kernel_rfl
 g16:=by kernel_rfl
 g17:=by kernel_rfl
 g18:=by kernel_rfl
 g19:=by kernel_rfl
 t80:=Tryz.underlying73
 a80:=Tryz.isAgg73
 z80:=Tryz.sizeOf73
 v80:=Tryz.zeroValue73
 i0:=by kernel_rfl
 i2:=by kernel_rfl
 i3:=by kernel_rfl
 i4:=by kernel_rfl
 i5:=by kernel_rfl
 i9:=by kernel_rfl
 i20:=by kernel_rfl
 i21:=by kernel_rfl
 i37:=by kernel_rfl
 i46:=by kernel_rfl
 i51:=by kernel_rfl
 i53:=by kernel_rfl
 i75:=by kernel_rfl
 i76:=by kernel_rfl
 i80:=by kernel_rfl
 i85:=by kernel_rfl
 i127:=by kernel_rfl
 i143:=by kernel_rfl
 i145:=by kernel_rfl
 i167:=by kernel_rfl
 i168:=by kernel_rfl
 i171:=by kernel_rfl
 i173:=by kernel_rfl
 i175:=by kernel_rfl
 i210:=by kernel_rfl
 i212:=by kernel_rfl
 i232:=by kernel_rfl
 i233:=by kernel_rfl
 m15:=by kernel_rfl
 m16:=by kernel_rfl
 m17:=by kernel_rfl
 m18:=by kernel_rfl
 m19:=by kernel_rfl
 c0:=by kernel_rfl
 c2:=by kernel_rfl
 c3:=by kernel_rfl
 c4:=by kernel_rfl
 c5:=by kernel_rfl
 c9:=by kernel_rfl
 c20:=by kernel_rfl
 c21:=by kernel_rfl
 c37:=by kernel_rfl
 c46:=by kernel_rfl
 c51:=by kernel_rfl
 c53:=by kernel_rfl
 c75:=by kernel_rfl
 c76:=by kernel_rfl
 c80:=by kernel_rfl
 c85:=by kernel_rfl
 c127:=by kernel_rfl
 c143:=by kernel_rfl
 c145:=by kernel_rfl
 c167:=by kernel_rfl
 c168:=by kernel_rfl
 c171:=by kernel_rfl
 c173:=by kernel_rfl
 c175:=by kernel_rfl
 c210:=by kernel_rfl
 c212:=by kernel_rfl
 c213:=by kernel_rfl
 c232:=by kernel_rfl
 c233:=by kernel_rfl
def VI (a:Nat)(l:Bl):Nat:=l.foldl (λa c=>10*a+(c.toNat - 48)) a
theorem Pk:∀(l:Bl)(a:Nat),a<=VI a l
 | [],a=>oC _
 | c::l,a=>oR aA (Pk l (10*a+(c.toNat - 48)))
theorem W0:∀(l:Bl)(a:Nat),(∀ c∈l,Dd c=true)->VI a l<=999999->parseUint10 a l=.ok (VI a l)
 | [],a,_,_=>rfl
 | c::l,a,hd,I=>by have hc:=hd c aB;simp only[Dd,oh]at hc;have O:10*a+(c.toNat - 48)<=999999:=oR (Pk l _) I;unfold parseUint10;rw[if_pos hc,if_neg aA,if_neg aA,show a*10+(c.toNat - 48)=10*a+(c.toNat - 48) by omega];exact W0 l _ (λx J=>hd x (by simp[J])) I
theorem Ux {m}(J:m<=999999):atoiAll (decDigits m)=.ok (m:Int):=by have hd:=rx m;have I:VI 0 (decDigits m)=m:=Pl m;obtain⟨c,l,e⟩:=Me m;rw[e]at hd I ⊢;have hc:=hd c aB;simp only[Dd,oh]at hc;rw[atoiAll_plain c l aA aA];unfold parseMag;rw[if_neg aB,W0 _ _ hd aA,I];show(if 9223372036854775808<=m then NumEnd.range else NumEnd.ok (m:Int))=_;rw[if_neg aA]
theorem Wt {l m}(h:wD l=some m):atoiAll l=.ok (m:Int):=by obtain⟨I,rfl⟩:=EK h;exact Ux I
theorem VV (h:GlobIs w):(∃ I,w.cell? ⟨(atoiR.g 15),0,none⟩=some I/\(I=.nilIface\/∃ J O,I=.iface J O))/\∃ I,w.cell? ⟨(atoiR.g 16),0,none⟩=some I/\(I=.nilIface\/∃ J O,I=.iface J O):=by
 refine⟨?_,?_⟩
 ·obtain⟨c,t,fz,U,v,rfl,Y⟩:=h.b (atoiR.g 15,λc=>∃ v,c=#[v]/\(v=.nilIface\/∃ J O,v=.iface J O)) (by simp[Mn,atoiR]);exact⟨v,by simp[World.cell?,U],Y⟩
 ·obtain⟨c,t,fz,U,v,rfl,Y⟩:=h.b (atoiR.g 16,λc=>∃ v,c=#[v]/\(v=.nilIface\/∃ J O,v=.iface J O)) (by simp[Mn,atoiR]);exact⟨v,by simp[World.cell?,U],Y⟩
theorem Uy s(hs:s.size<=1073741824) w(U:GlobIs w):Calls Tryz.prog 216 #[.string s] w λe w'=>∃ v J,e=.returned (.tuple #[.int .i64 v,J])/\Below w.heap.size w w'/\(J=.nilIface/\atoiAll (bl s)=.ok v\/(∃ t p,J=.iface t (.pointer (some p)))/\∀ v,atoiAll (bl s)≠.ok v):=by
 obtain⟨⟨Y,h1,h2⟩,O,h3,h4⟩:=VV U;rcases h:atoiAll (bl s)with v | _ | _
 ·exact(Any.strconv_Atoi_ok XX s aA v h w).mono λe w' ⟨I,hw⟩=>⟨v,.nilIface,I,by
   rcases hw with rfl | ⟨t,rfl⟩
   ·exact Below.refl _ _
   ·exact Lib.bytesWorld_below _ _ _,.inl ⟨rfl,rfl⟩⟩
 ·exact(Any.strconv_Atoi_syntax XX s aA h Y w h1 h2).mono λe w' ⟨N,I,_,_,hb⟩=>⟨_,_,I,hb,.inr ⟨⟨_,_,rfl⟩,aB⟩⟩
 ·exact(Any.strconv_Atoi_range XX s aA h O w h3 h4).mono λe w' ⟨N,I,_,_,hb⟩=>⟨_,_,I,hb,.inr ⟨⟨_,_,rfl⟩,aB⟩⟩
theorem RN w k os:Below w.heap.size w (Go.Sort.grow (w.drewN k) os):=by
 have I:(Go.Sort.grow (w.drewN k) os).heap.size=w.heap.size+os.size:=by unfold Go.Sort.grow;rw[mW];rfl
 exact⟨rfl,rfl,rfl,by rw[I];omega,λb hb=>Array.getElem?_append_left hb⟩
theorem RL {w'}(h:GlobIs w)(hb:Below w.heap.size w w'):GlobIs w':=h.keep (λb I=>hb.block b (h.lt I)) λx J=>hb.block x.1 (h.ltb J)
theorem X2 n(I : -9223372036854775808<=n)(J:n<=9223372036854775807) w(O:GlobIs w):Calls Tryz.prog 30 #[.int .i64 n] w λe w'=>e=.returned (.string ⟨(Lib.itoa n).toArray⟩)/\Below w.heap.size w w':=by
 have U:∀ args w,(callFunc 66 args).run Tryz.prog w=.ok (.enter 66 args) w:=enters_of Tryz.func66 (by kernel_rfl) rfl
 go_enter Tryz.func30,Tryz.ntmps30
 go_wp2_with (go_at_fn 66;refine(Any.strconv_Itoa itoaL n I J _ (Pt O)).mono ?_;rintro e w' ⟨rfl,k,os,rfl⟩)
 go_ret
 exact⟨rfl,RN _ _ _⟩
theorem Rr n w:Calls Tryz.prog 39 #[.int .i64 n,.int .i64 0,.int .i64 999999] w λe w'=>e=.returned (.bool (decide (0<=n/\n<=999999)))/\w'=w:=by
 go_enter Tryz.func39,Tryz.ntmps39
 go_wp2
 all_goals(go_ret;refine⟨?_,rfl⟩;congr 2;simp;omega)
set_option maxHeartbeats 4000000 in
set_option maxRecDepth 100000 in
theorem O5 s(hs:s.size<=1073741824) w(hg:GlobIs w):Calls Tryz.prog 168 #[.string s,.int .i64 0,.int .i64 999999] w λe w'=>∃ n b,e=.returned (.tuple #[.int .i64 n,.bool b])/\Below w.heap.size w w'/\(b=true->∃ m:Nat,n=m/\wD (bl s)=some m)/\(b=false->wD (bl s)=none):=by
 have eA:∀ args w,(callFunc 216 args).run Tryz.prog w=.ok (.enter 216 args) w:=enters_of Tryz.func216 (by kernel_rfl) rfl;have eF:∀ args w,(callFunc 30 args).run Tryz.prog w=.ok (.enter 30 args) w:=enters_of Tryz.func30 (by kernel_rfl) rfl;have eW:∀ args w,(callFunc 39 args).run Tryz.prog w=.ok (.enter 39 args) w:=enters_of Tryz.func39 (by kernel_rfl) rfl
 go_enter Tryz.func168,Tryz.ntmps168
 go_wp2_with (go_at_fn 216;refine(Uy s hs _ hg).mono ?_)
 rintro e w1 ⟨v,er,rfl,Y,hc⟩
 rcases hc with⟨rfl,hv⟩ | ⟨⟨t,p,rfl⟩,hn⟩
 ·obtain⟨aa,ab⟩:=atoiAll_bounds hv
  go_wp2_with (go_at_fn 30;refine(X2 v aa ab _ (RL hg Y)).mono ?_)
  rintro e w2 ⟨rfl,ac⟩
  have I:=Y.trans (ac.mono Y.size);have hm:∀ m:Nat,wD (bl s)=some m->v=m/\m<=999999:=λm h=>by
   have O:=Wt h;rw[hv]at O;injection O with O
   exact⟨O,(EK h).1⟩
  generalize hz:(⟨(itoa v).toArray⟩:aG)=z;have J:∀ W,(binOp .neq 9 (.string z) (.string s)).run Tryz.prog W=.ok (.bool (!(z.toList==s.toList))) W:=λ_=>by first | rfl | kernel_rfl
  rw[xa]at J;by_cases U:z=s
  ·rw [nh U,lG]at J
   go_wp2_with (go_at_fn 39;refine(Rr v _).mono ?_;rintro e w3 ⟨rfl,rfl⟩)
   ·rename_i hr
    go_ret2
    refine⟨_,_,rfl,I,aB,λ_=>?_⟩;cases h:wD (bl s)with
    | none=>rfl
    | some m=>obtain⟨rfl,O⟩:=hm m h;exfalso;simp at hr;omega
   ·rename_i hr
    go_ret2
    refine⟨_,_,rfl,I,λ_=>⟨v.toNat,?_,?_⟩,aB⟩
    ·simp at hr;omega
    ·simp at hr;have e2:bl s=decDigits v.toNat:=by
      rw[<-U,<-hz];show itoa v=_
      conv=>lhs;rw[show v=(v.toNat:Int) by omega,itoa_nonneg]
     rw[e2];exact HQ aA
  ·rw [nX U,lO]at J
   go_wp2
   all_goals first
    | (exfalso;exact U (MR aE))
    | (go_ret2
       refine⟨_,_,rfl,I,aB,λ_=>?_⟩;cases h:wD (bl s)with
       | none=>rfl
       | some m=>obtain⟨rfl,O⟩:=hm m h;exfalso;refine U (hz.symm.trans (yA ?_));show itoa (m:Int)=bl s;rw[itoa_nonneg];exact(EK h).2)
 ·go_wp2
  go_ret2
  refine⟨_,_,rfl,Y,aB,λ_=>?_⟩;cases h:wD (bl s)with
  | none=>rfl
  | some m=>exact absurd (Wt h) (hn _)
theorem SY s(hs:s.size<=1073741824) N(Q:QT [.int .i64,.bool])(h1:∀(m:Nat) N',N<=N'->wD (bl s)=some m->Q (m:Int) true N')(h0:∀ n N',N<=N'->wD (bl s)=none->Q n false N'):ACalls prog 168 [.int .i64,.bool] [.str s,.int .i64 0,.int .i64 999999] N Q:=by
 refine⟨by kernel_rfl,λav w0 hN J _=>(O5 s hs w0 J.g).mono λe w' ⟨n,b,he,I,O,U⟩=>?_⟩;subst he;subst hN;have hq:Q n b w'.heap.size:=by
  cases b with
  | true=>obtain⟨m,rfl,hm⟩:=O rfl;exact h1 m _ I.size hm
  | false=>exact h0 n _ I.size (U rfl)
 refine⟨[.int .i64 n,.bool b],[],[],?_⟩;exact { q := ⟨rfl,hq⟩,v:=rfl,m:=⟨rfl,aB,aB,aB,λk j b h=>by obtain⟨_,h2,_⟩:=h;simp[Env.at]at h2⟩,ok:=λp Y=>by simp at Y;rcases Y with rfl | rfl<;>trivial,fresh:=λk b h=>by simp[Env.at]at h,size:=I.size,old:=λb hb=>I.block b hb,fz:=λ_ _ _ _ _ _=>trivial,ku:=⟨I.os,I.output⟩ }
theorem Zc:NumI:=λw O N Q U Y=>DJ N w Q λN1 aa=>SY w O N1 _ (λm N2 I hm _ N3 J=>U m N3 aA hm) λn N2 I hn _ N3 J=>Y n N3 aA hn
def trimR:Go.Shelf.Ren:=⟨λx=>match x with | 120=>250 | 163=>55 | 197=>172 | 199=>113 | 237=>112 | 238=>114 | 260=>221 | 261=>170 | 271=>220 | 272=>169 | 273=>171 | 311=>218 | 312=>219 | 315=>217 | n=>n,λx=>match x with | 0=>0 | 3=>3 | 4=>4 | 5=>5 | 9=>9 | 21=>21 | 37=>26 | 40=>106 | 46=>115 | 49=>176 | 51=>137 | 105=>141 | 119=>107 | 138=>206 | 139=>207 | 141=>139 | 193=>172 | 194=>173 | 196=>175 | 198=>178 | 201=>181 | 226=>202 | 227=>203 | n=>n,λx=>match x with | 0=>0 | 3=>2 | 4=>3 | 6=>1 | n=>n⟩
theorem zBd:Lays.n163 Tryz.prog trimR where
 mixed:=by kernel_rfl
 f120:=Tryz.func250.trans (oY some (by kernel_rfl))
 f163:=Tryz.func55.trans (oY some (by kernel_rfl))
 f197:=Tryz.func172.trans (oY some (by kernel_rfl))
 f199:=Tryz.func113.trans (oY some (by kernel_rfl))
 f237:=Tryz.func112.trans (oY some (by kernel_rfl))
 f238:=Tryz.func114.trans (oY some (by kernel_rfl))
 f260:=Tryz.func221.trans (oY some (by kernel_rfl))
 f261:=Tryz.func170.trans (oY some (by kernel_rfl))
 f271:=Tryz.func220.trans (oY some (by kernel_rfl))
 f272:=Tryz.func169.trans (oY some (by kernel_rfl))
 f273:=Tryz.func171.trans (oY some (by kernel_rfl))
 f311:=Tryz.func218.trans (oY some (by kernel_rfl))
 f312:=Tryz.func219.trans (oY some (by kernel_rfl))
 f315:=Tryz.func217.trans (oY some (by kernel_rfl))
 t0:=Tryz.underlying0
 a0:=Tryz.isAgg0
 z0:=Tryz.sizeOf0
 v0:=Tryz.zeroValue0
 t3:=Tryz.underlying3
 a3:=Tryz.isAgg3
 z3:=Tryz.sizeOf3
 v3:=Tryz.zeroValue3
 t4:=Tryz.underlying4
 a4:=Tryz.isAgg4
 z4:=Tryz.sizeOf4
 v4:=Tryz.zeroValue4
 t5:=Tryz.underlying5
 a5:=Tryz.isAgg5
 z5:=Tryz.sizeOf5
 v5:=Tryz.zeroValue5
 t9:=Tryz.underlying9
 a9:=Tryz.isAgg9
 z9:=Tryz.sizeOf9
 v9:=Tryz.zeroValue9
 t21:=Tryz.underlying21
 a21:=Tryz.isAgg21
 z21:=Tryz.sizeOf21
 v21:=Tryz.zeroValue21
 t37:=Tryz.underlying26
 a37:=Tryz.isAgg26
 z37:=Tryz.sizeOf26
 v37:=Tryz.zeroValue26
 t40:=Tryz.underlying106
 a40:=Tryz.isAgg106
 z40:=Tryz.sizeOf106
 v40:=Tryz.zeroValue106
 t46:=Tryz.underlying115
 a46:=Tryz.isAgg115
 z46:=Tryz.sizeOf115
 v46:=Tryz.zeroValue115
 t49:=Tryz.underlying176
 a49:=Tryz.isAgg176
 z49:=Tryz.sizeOf176
 v49:=Tryz.zeroValue176
 t51:=Tryz.underlying137
 a51:=Tryz.isAgg137
 z51:=Tryz.sizeOf137
 v51:=Tryz.zeroValue137
 t105:=Tryz.underlying141
 a105:=Tryz.isAgg141
 z105:=Tryz.sizeOf141
 v105:=Tryz.zeroValue141
 t119:=Tryz.underlying107
 a119:=Tryz.isAgg107
 z119:=Tryz.sizeOf107
 t138:=Tryz.underlying206
 a138:=Tryz.isAgg206
 z138:=Tryz.sizeOf206
 v138:=Tryz.zeroValue206
 t139:=Tryz.underlying207
 a139:=Tryz.isAgg207
 z139:=Tryz.sizeOf207
 v139:=Tryz.zeroValue207
 t141:=Tryz.underlying139
 a141:=Tryz.isAgg139
 z141:=Tryz.sizeOf139
 v141:=Tryz.zeroValue139
 t193:=Tryz.underlying172
 a193:=Tryz.isAgg172
 z193:=Tryz.sizeOf172
 v193:=Tryz.zeroValue172
 t194:=Tryz.underlying173
 a194:=Tryz.isAgg173
 z194:=Tryz.sizeOf173
 v194:=Tryz.zeroValue173
 t196:=Tryz.underlying175
 a196:=Tryz.isAgg175
 z196:=Tryz.sizeOf175
 v196:=Tryz.zeroValue175
 t198:=Tryz.underlying178
 a198:=Tryz.isAgg178
 z198:=Tryz.sizeOf178
 v198:=Tryz.zeroValue178
 t201:=Tryz.underlying181
 a201:=Tryz.isAgg181
 z201:=Tryz.sizeOf181
 v201:=Tryz.zeroValue181
 t226:=Tryz.underlying202
 a226:=Tryz.isAgg202
 z226:=Tryz.sizeOf202
 v226:=Tryz.zeroValue202
 t227:=Tryz.underlying203
 a227:=Tryz.isAgg203
 z227:=Tryz.sizeOf203
 v227:=Tryz.zeroValue203
 g0:=by kernel_rfl
 g3:=by kernel_rfl
 g4:=by kernel_rfl
 g6:=by kernel_rfl
theorem trimX:Space.Extra Tryz.prog trimR where
 gNamed:=by kernel_rfl
theorem qA (hb:isSp b=false):∀ {l:Bl},b∈l->b∈l.dropWhile isSp
 | c::l,h=>by
   rw[List.dropWhile_cons];split
   ·rename_i hc;rcases oK.1 h with rfl | h
    ·rw[hb]at hc;cases hc
    ·exact qA hb h
   ·exact h
theorem WP (hb:isSp b=false){l}(h:b∈l):b∈trimSpace l:=
 mb.2 (qA hb (mb.2 (qA hb h)))
theorem RM (h : GlobIs w): Lib.TabIs prog w "strings.asciiSpace" .u8 Lib.asciiSpaceTab := by obtain ⟨c,t,fz,I,hc⟩:=h.b (trimR.g 0,λc=>c=(Lib.asciiSpaceTab.map λn=>Value.int .u8 n).toArray) (by simp [Mn,trimR]);unfold Lib.TabIs World.var?;rw [trimX.gNamed];simp only [oO,I];exact oY some hc
theorem Zd s(hs:s.size<=1073741824)(ha:∀ c∈bl s,c.toNat<128)(hb:b∈bl s)(O:isSp b=false) N(Q:QT [.str])(hQ:∀ z N',N<=N'->z≠bytes []->Q z N'):ACalls prog 55 [.str] [.str s] N Q:=
 ⟨by kernel_rfl,λav w0 hN U _=>(Any.strings_TrimSpace zBd trimX s w0 aA (λj c h=>ha c (oB h)) (RM U.g)).mono λe w ⟨he,hw⟩=>by
  subst he;subst hN;have I:RowKit.Below w0.heap.size w0 w:=hw ▸ Lib.bytesWorld_below _ _ _;have Y:(⟨(Lib.trimSpace s.data.toList).toArray⟩:aG)≠bytes []:=λh=>by have J:=WP O hb;rw[show trimSpace (bl s)=[]from oY bl h]at J;cases J
  refine⟨[.str ⟨(Lib.trimSpace s.data.toList).toArray⟩],[],[],?_⟩;exact { q:=hQ _ _ I.size Y,v:=rfl,m:=⟨rfl,aB,aB,aB,λk j b h=>by obtain⟨_,J,_⟩:=h;simp[Env.at]at J⟩,ok:=λp hp=>by simp at hp;subst hp;trivial,fresh:=λk b h=>by simp[Env.at]at h,size:=I.size,old:=λb hb=>I.block b hb,fz:=λ_ _ _ _ _ _=>trivial,ku:=⟨I.os,I.output⟩ }⟩
end YtlaniepnglheoaaGreatDoor
end Go.Proofs
set_option maxRecDepth 100000
namespace Go.Proofs.YtlaniepnglheoaaGreatDoor
open Go Go.Proofs Go.Proofs.Tryz Go.IntWalk
variable {b:aG} {t:Tm}
def An s:=∀ c∈bl s,c.toNat<128
theorem zP {a}(I:An a)(hb:An b):An (a++b):=λc hc=>by
 have h:c∈bl a++bl b:=by rw[<-zV];exact hc
 rcases oM.1 h with h | h
 ·exact I c h
 ·exact hb c h
theorem ZQ {s}(h:∀ b∈bl s,idC b=true):An s:=λc hc=>by
 have:=h c hc
 simp only[idC,oh]at this;omega
theorem OF {s}(h:yN s=true):An s:=ZQ (nmL h).id
theorem XT {t}(O:Wf t):An (EU t):=by
 induction O with
 | int=>unfold An;decide
 | bool=>unfold An;decide
 | fn _ _ I J=>rw[Hr];exact zP (zP (zP (zP (by unfold An;decide) I) (by unfold An;decide)) J) (by unfold An;decide)
 | code _ I=>rw[AJ];exact zP (zP (by unfold An;decide) I) (by unfold An;decide)
theorem Pd (hb:An b):∀ {l:List aG},(∀ s∈l,An s)->An (pO b l)
 | [],_=>by intro c hc;cases hc
 | s::l,h=>zP (zP hb (h s aB)) (Pd hb λx I=>h x (by simp[I]))
theorem Um (hb:An b):∀ {l:List aG},(∀ s∈l,An s)->An (ua b l)
 | [],_=>by intro c hc;cases hc
 | s::l,h=>zP (h s aB) (Pd hb λx I=>h x (by simp[I]))
theorem R2 {l:List aG}(h:∀ s∈l,An s) i:An (l.getD i (bytes [])):=by
 rw[oA];cases e:l[i]? with
 | none=>intro c hc;cases hc
 | some s=>exact h s (oB e)
theorem zAs {nm}(h:rj nm=2):An nm:=by
 unfold rj at h
 (repeat' split at h)<;>first | (exfalso;revert h;decide) | (rename_i e;rw[e];unfold An;decide)
theorem Bc {l}(h:(l.map UInt8.ofNat).all (λc=>decide (c.toNat<128))=true):An (bytes l):=λc hc=>by
 have:=ob.1 h c hc
 simpa using this
theorem zBe:∀ t:Tm,t.ok=true->An t.tx:=by
 refine Tm.ind λk nm ot n ty re l ih U=>?_;have nd:=Oo U;have nz:=Vq nd;have J:=nd.ar;have sub:∀ s∈txs l,An s:=λs hs=>by
  have key:∀ l':aP,(∀ t∈l',t∈l)->s∈txs l'->An s:=by
   intro l'
   induction l' with
   | nil=>intro _ h;cases h
   | cons x l' Y=>
     intro hm h;rcases oK.1 h with rfl | h
     ·exact ih x (hm x aB) (nd.sub x (hm x aB))
     ·exact Y (λt ht=>hm t (by simp[ht])) h
  exact key l (λ_ h=>h) hs
 have O:k=1\/k=6\/k=8->An nm:=λh=>by
  have:=nz.nm
  simp only[zx]at this;rw[if_neg aA,if_pos h]at this;exact OF (by simp at this;exact this.1)
 have g0:=R2 sub 0;have g1:=R2 sub 1;have gj:=Um (b:=bytes [32]) (Bc aD) sub;simp only[Tm.tx];rcases nd.kind with rfl | rfl | rfl | rfl | rfl | rfl | rfl | rfl | rfl | rfl | rfl | rfl | rfl
 ·rw[YM];exact O (.inl rfl)
 ·rw[YN];exact ZQ λb hb=>Mf (rx _ b hb)
 ·rw[YO];refine zP (Bc aD) ?_;split<;>exact Bc aD
 ·rw[Vs];split
  ·exact zP (zP (Bc aD) g0) (Bc aD)
  ·rename_i h1;rcases nd.op rfl with h | h
   ·obtain⟨a,rfl⟩:=px h;exact absurd rfl h1
   ·have J:(l.length:Int)=rj nm:=J;have hn:=zAs (show rj nm=2 by rw[<-J,h];rfl);exact zP (zP (zP (zP (Bc aD) g0) hn) g1) (Bc aD)
 ·rw[YP];exact zP (zP (Bc aD) gj) (Bc aD)
 ·rw[YQ];exact zP (zP (zP (zP (zP (zP (Bc aD) (O (.inr (.inl rfl)))) (Bc aD)) (XT (yP (nd.vt (.inl rfl))).1)) (Bc aD)) g0) (Bc aD)
 ·rw[YR];exact zP (zP (Bc aD) gj) (Bc aD)
 ·rw[YS];exact zP (zP (zP (zP (Bc aD) (O (.inr (.inr rfl)))) (Bc aD)) gj) (Bc aD)
 ·have I:=nz.nm;simp only[zx]at I;rw[if_neg aD,if_neg aD,if_pos trivial]at I;simp only[oL]at I;obtain⟨h1,h2, -⟩:=I;rw[YT];exact zP (zP (zP (zP (zP (zP (zP (zP (zP (zP (Bc aD) (OF h1)) (Bc aD)) (OF h2)) (Bc aD)) (XT (yP (nd.vt (.inr rfl))).1)) (Bc aD)) (XT (yP (nd.vr rfl)).1)) (Bc aD)) g0) (Bc aD)
 ·rw[Ou];exact zP (zP (Bc aD) g0) (Bc aD)
 ·rw[Ov];exact zP (Bc aD) g0
 ·rw[Ow];exact zP (zP (Bc aD) g0) (Bc aD)
 ·rw[Ox];exact zP (zP (Bc aD) g0) (Bc aD)
theorem Yt (h:t.ok=true):∃ b∈bl t.tx,Lib.isSp b=false:=by
 cases t with
 | mk k nm ot n ty re l=>
 have nd:=Oo h;have O:=Vq nd;simp only[Tm.tx];have hd:∀ {c:UInt8} {p:Bl} {s:aG},bl s=c::p->Lib.isSp c=false->∃ b∈bl s,Lib.isSp b=false:=λe hc=>⟨_,by rw[e];simp,hc⟩
 have I:∀ c:UInt8,idC c=true->Lib.isSp c=false:=λc hc=>by
  cases e:Lib.isSp c with
  | false=>rfl
  | true=>simp only[Lib.isSp,mB,mG]at e;rcases e with((((rfl | rfl) | rfl) | rfl) | rfl) | rfl<;>exact absurd hc aD
 rcases nd.kind with rfl | rfl | rfl | rfl | rfl | rfl | rfl | rfl | rfl | rfl | rfl | rfl | rfl
 ·rw[YM];have J:yN nm=true:=by have:=O.nm;simp[zx]at this;exact this.1
  obtain⟨b,w,e,_⟩:=(nmL J).hd;exact hd e (I b ((nmL J).id b (by rw[e];simp)))
 ·rw[YN];obtain⟨b,w,e⟩:=Me n.toNat;exact hd (s:=Rx n.toNat) e (I b (Mf (rx _ b (by rw[e];simp))))
 ·rw[YO];exact hd (c:=35) (by simp only[bl,zV];rfl) aD
 ·rw[Vs];split<;>exact hd (c:=40) (by simp only[bl,zV,oP];rfl) aD
 ·rw[YP];exact hd (c:=40) (by simp only[bl,zV,oP];rfl) aD
 ·rw[YQ];exact hd (c:=40) (by simp only[bl,zV,oP];rfl) aD
 ·rw[YR];exact hd (c:=40) (by simp only[bl,zV,oP];rfl) aD
 ·rw[YS];exact hd (c:=40) (by simp only[bl,zV,oP];rfl) aD
 ·rw[YT];exact hd (c:=40) (by simp only[bl,zV,oP];rfl) aD
 ·rw[Ou];exact hd (c:=60) (by simp only[bl,zV,oP];rfl) aD
 ·rw[Ov];exact hd (c:=126) (by simp only[bl,zV,oP];rfl) aD
 ·rw[Ow];exact hd (c:=40) (by simp only[bl,zV,oP];rfl) aD
 ·rw[Ox];exact hd (c:=40) (by simp only[bl,zV,oP];rfl) aD
def vtx (t:Tm):aG:=if t.vd=true then t.tx else bytes []
theorem E7 (h:t.vd=true):t.ok=true/\t.sz<=80/\t.dp<=20:=by simp only[Tm.vd,oL,oh]at h;exact⟨h.2,h.1.1,h.1.2⟩
theorem Du {d}(hd:t.Is d)(hc:t.cnt<=1073741824):xX 54 [.dg 9 d] (vtx t):=λN Q J=>EW N d Q λ_ N1 O=>sN t d hd hc N1 _ λN2 U _=>Br.not (λI N3 Y=>Qst (J _ aA) (by rw[vtx,if_neg (by rw[I];decide)])) λI N4 aa=>Wi t (E7 I).1 (by have:=(E7 I).2.1;omega) d hd N4 _ λN5 ab _ N6 ac=>Qst (J _ aA) (by rw[vtx,if_pos I])
theorem uI {d}(hd:t.Is d)(hc:t.cnt<=1073741824):xX 34 [.dg 9 d] (vtx t):=λN Q J=>Eg N d Q λ_ N1 O=>sP t d hd hc N1 _ λN2 U _=>Br.not (λI N3 Y=>Qst (J _ aA) (by rw[vtx,if_neg (by rw[I];decide)])) λI N4 aa=>Pi t (E7 I).1 (by have:=(E7 I).2.1;omega) d hd N4 _ λN5 ab _ N6 ac=>Qst (J _ aA) (by rw[vtx,if_pos I])
end Go.Proofs.YtlaniepnglheoaaGreatDoor
set_option maxRecDepth 100000
namespace Go.Proofs.YtlaniepnglheoaaGreatDoor
open Go Go.Proofs Go.Proofs.Tryz Go.IntWalk
variable {t:Tm}
theorem vq sp(h:t.vd=true){s}(e:t.tx=s):uj sp 20 (bl s)=some (t,[]):=by
 obtain⟨I,_,J⟩:=E7 h
 have:=zBV sp t I 20 J [] (λb r h=>by cases h)
 rw[o8]at this;rw[<-e];exact this
theorem W7 sp:uj sp 20 []=none:=by simp[uj,pre,OA]
theorem XN {sp s r}(I:uj sp 20 (bl s)=some (t,r))(e:vtx t=s):t.vd=true/\t.tx=s:=by
 unfold vtx at e;split at e
 ·rename_i h;exact⟨h,e⟩
 ·rw[<-e]at I;have J:=W7 sp;rw[show bl (bytes [])=[]from rfl,J]at I;cases I
theorem Tw {sp l r}(I:uj sp 20 l=some (t,r)):t.cnt<=3*l.length+3:=by
 have:=(XA sp 20 I).1
 omega
def zD:D:=.ag [.j 0,.t (bytes []),.t (bytes []),.j 0,.j 0,.sl none 2 [] 0,.j 0,.sl none 2 [] 0,.sl none 9 [] 0]
def RetP f s(o:Nat->Nat->D->Prop):=∀(N:Nat) (Q:QT [.ag 9,.bool]) (_:∀(t:Tm) d N',N<=N'->t.vd=true->t.tx=s->t.Is d->o N N' d->Q d true N') (_:∀ d N',N<=N'->d=zD->(∀ t:Tm,t.vd=true->t.tx≠s)->Q d false N'),ACalls prog f [.ag 9,.bool] [.str s] N Q
theorem FO s(hs:s.size<=300000000):RetP 23 s Own:=λN Q h1 h0=>by
 have hl:=ve s;refine Fb N s Q λN1 ac=>Z0 Zc 20 aA 0 aA s N1 _ aA λx b s' N2 ae O _ _=>?_;cases O with
 | no J U=>exact Br.of (λ_ N3 ah=>h0 _ _ aA rfl λt I e=>by rw[vq false I e]at J;cases J) λh=>by cases h
 | @ok t _ _ J O U=>
   have hc:=Tw J;refine Br.of (λh=>by cases h) λ_ N4 ai=>Du O.1 aA N4 _ λN5 aj _=>Br.nstr (λY N6 ak=>h0 _ _ aA rfl λt' I e=>?_) λhe N7 al=>?_
   ·have:=vq false I e
    rw[J]at this;simp only[od,lH]at this;obtain⟨rfl,_⟩:=this;exact Y (by rw[vtx,if_pos I];exact e)
   ·obtain⟨I,e⟩:=XN J he;obtain⟨b,hb,aa⟩:=Yt (E7 I).1;have ha:=zBe t (E7 I).1;rw[e]at hb ha;exact Zd s aA ha hb aa N7 _ λz N8 ao hz _=>Br.str (λh=>absurd h hz) λ_ aq ab=>h1 t x _ aA I e O.1 (O.2.mono aA aA)
theorem FQ s(hs:s.size<=300000000):RetP 13 s (λ_ _ _=>True):=λN Q h1 Y=>by
 have hl:=ve s;refine Fo N s Q λN1 aa=>zAG 20 aA 1 aA s 0 (bl s) false N1 _ ⟨aA,aA,aA,rfl⟩ λx n' b' N2 ab U _ _=>?_;cases U with
 | no J hr=>exact Br.of (λ_ N3 ac=>Y _ _ aA rfl λt I e=>by rw[vq true I e]at J;rcases J with h | h<;>cases h) λh=>by cases h
 | @ok t r _ _ _ J U hr=>
   have hc:=Tw J;refine Br.of (λh=>by cases h) λ_=>Br.bne (λO N4 ae=>Y _ _ aA rfl λt' I e=>?_) λhn N5 ah=>uI U aA N5 _ λN6 ai _=>Br.nstr (λO N7 aj=>Y _ _ aA rfl λt' I e=>?_) λhe N8 ak=>?_
   ·have:=vq true I e
    rw[J]at this;cases this;exact O (hr.nil.1 rfl)
   ·have:=vq true I e
    rw[J]at this;cases this;exact O (by rw[vtx,if_pos I];exact e)
   ·obtain⟨I,e⟩:=XN J he;exact h1 t x _ aA I e U trivial
end Go.Proofs.YtlaniepnglheoaaGreatDoor
set_option maxRecDepth 100000
namespace Go.Proofs.YtlaniepnglheoaaGreatDoor
open Go Go.Proofs Go.Proofs.Tryz Go.IntWalk
variable {s:aG}
structure PR (s:aG) (b:Bool) (o:Tm):Prop where
 yes:b=true->o.vd=true/\o.tx=s
 no:b=false->o=Tm.mk 0 (bytes []) (bytes []) 0 tZero tZero []/\∀ t:Tm,t.vd=true->t.tx≠s
theorem PR.uniq {b b' o O}(h:PR s b o)(I:PR s b' O):b'=b/\O=o:=by
 cases b<;>cases b'
 ·exact⟨rfl,(I.no rfl).1.trans (h.no rfl).1.symm⟩
 ·exact absurd (I.yes rfl).2 ((h.no rfl).2 _ (I.yes rfl).1)
 ·exact absurd (h.yes rfl).2 ((I.no rfl).2 _ (h.yes rfl).1)
 ·have U:=vq true (h.yes rfl).1 (h.yes rfl).2;have J:=vq true (I.yes rfl).1 (I.yes rfl).2;rw[U]at J;simp only[od,lH]at J;exact⟨rfl,J.1.symm⟩
theorem PR.cnt {b o}(h:PR s b o):o.cnt<=3*s.size+5:=by
 cases b with
 | true=>
   have:=Tw (vq true (h.yes rfl).1 (h.yes rfl).2)
   rw[ve]at this;omega
 | false=>rw[(h.no rfl).1];simp[Tm.cnt,xC,tZero,Ty.cnt,zI];try omega
def zAo f s(ow:Nat->Nat->D->Prop):=∀(N:Nat) (Q:QT [.ag 9,.bool]) (_:∀ b o d N',N<=N'->PR s b o->o.Is d->ow N N' d->Q d b N'),ACalls prog f [.ag 9,.bool] [.str s] N Q
theorem RetP.q {f ow}(h:RetP f s ow)(J:∀ N N',ow N N' zD):zAo f s ow:=λN Q I=>h N Q (λt d N' hN O e hd U=>I true t d N' hN ⟨λ_=>⟨O,e⟩,λh=>by cases h⟩ hd U) λd N' hN e Y=>by subst e;exact I false _ zD N' hN ⟨λh=>(by cases h),λ_=>⟨rfl,Y⟩⟩ (rz 0 0 aD) (J N N')
theorem FV s(hs:s.size<=300000000):zAo 23 s Own:=(FO s hs).q λ_ _=>C0
theorem uv s(hs:s.size<=300000000):zAo 13 s (λ_ _ _=>True):=(FQ s hs).q λ_ _=>trivial
end Go.Proofs.YtlaniepnglheoaaGreatDoor
