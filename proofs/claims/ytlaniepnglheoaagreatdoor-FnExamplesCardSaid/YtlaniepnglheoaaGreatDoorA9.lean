/- Free names, fresh names, substitution: what they are (no program in sight). -/
import Derived.Test.YtlaniepnglheoaaGreatDoorA5
import Derived.Lib.ItoaNum
import Derived.Test.YtlaniepnglheoaaGreatDoorKa
import Derived.Shelf.Strconv.Itoa3
import Derived.Test.YtlaniepnglheoaaGreatDoorKd
import Derived.Test.YtlaniepnglheoaaGreatDoorKf
set_option linter.unusedVariables false
set_option linter.unusedSimpArgs false
namespace Go.Proofs.YtlaniepnglheoaaGreatDoor
open Go Go.Proofs Go.Proofs.Tryz Go.IntWalk
variable {N N' c:Nat} {a:aH} {es:aM} {k n0:Int} {l:List aG} {r0 r1 t0 t1:D} {x:aG}
instance decMem (s:aG) (l:List aG):Decidable (s∈l):=decidable_of_iff ((l.any fun x=>decide (x=s))=true) aB
def dd:List aG->List aG->List aG
 | out,[]=>out
 | out,s::l=>dd (if s∈out then out else out++[s]) l
def sy (a b:List aG):List aG:=dd (dd [] a) b
def rI (I l:List aG):List aG:=l.filter λs=>decide (s∉I)
theorem Wl:∀(out a b:List aG),dd out (a++b)=dd (dd out a) b
 | out,[],b=>rfl
 | out,s::a,b=>by simp only[oq,dd];exact Wl _ a b
theorem Sp:∀(out l:List aG)(x:aG),x∈dd out l↔x∈out\/x∈l
 | out,[],x=>by simp[dd]
 | out,s::l,x=>by
   simp only[dd];rw[Sp];split
   ·rename_i h;constructor
    ·rintro(h1 | h1)
     ·exact .inl h1
     ·exact .inr (by simp[h1])
    ·rintro(h1 | h1)
     ·exact .inl h1
     ·rcases oK.1 h1 with rfl | h1
      ·exact .inl h
      ·exact .inr h1
   ·simp only[oM,oi,oK,nP,mn,or_assoc]
theorem Kt:∀(out l:List aG),out.Nodup->(dd out l).Nodup
 | out,[],h=>h
 | out,s::l,h=>by
   simp only[dd];refine Kt _ l ?_;split
   ·exact h
   ·rename_i hs;rw[nV];refine⟨h,aB,λa I b hb=>?_⟩;rw[oi]at hb;subst hb;exact λhc=>hs (hc ▸ I)
theorem Gy:∀(out l:List aG),(dd out l).length<=out.length+l.length
 | out,[]=>by simp[dd]
 | out,s::l=>by
   simp only[dd]
   have:=Gy (if s∈out then out else out++[s]) l
   split at this<;>simp_all<;>omega
theorem Ng {a b}:x∈sy a b↔x∈a\/x∈b:=by unfold sy;rw[Sp,Sp];simp
theorem PO a b:(sy a b).Nodup:=Kt _ _ (Kt _ _ mR)
theorem tD {n}:x∈rI n l↔x∈l/\x∉n:=by simp[rI]
theorem K5:∀ {l m:List aG},l.Nodup->(∀ x∈l,x∈m)->l.length<=m.length
 | [],m,_,_=>Nat.zero_le _
 | x::l,m,J,hs=>by
   obtain⟨O,U⟩:=mA.1 J;have Y:=hs x aB;have h3:=K5 (l:=l) (m:=m.filter λy=>decide (y≠x)) U λy I=>by rw[mM];exact⟨hs y (by simp[I]),by simp;exact λhc=>O (hc ▸ I)⟩
   have h4:=mz (p:=λy=>decide (y≠x)).2 ⟨x,Y,aB⟩;simp only[oJ];omega
def yZ (k:Int)(n:Nat):Int:=if k=6/\n=1 then 0 else if k=8/\n=2 then 1 else if k=9/\n=1 then 0 else -1
def bdN (k:Int)(nm ot:aG)(n:Nat):List aG:=if k=6/\n=1 then [nm]else if k=8/\n=2 then [nm]else if k=9/\n=1 then [nm,ot]else []
theorem pA k nm ot n:(bdN k nm ot n).length<=2:=by unfold bdN;(repeat' split)<;>simp
theorem uF k n:yZ k n = -1\/(yZ k n=0/\n=1/\(k=6\/k=9))\/(yZ k n=1/\n=2/\k=8):=by unfold yZ;(repeat' split)<;>simp_all
mutual
def Tm.fv:Tm->List aG
 | .mk k nm ot _ _ _ l=>if k=1 then [nm]else tv l (yZ k l.length) (bdN k nm ot l.length) 0 []
def tv:aP->Int->List aG->Nat->List aG->List aG
 | [],_,_,_,out=>out
 | x::xs,at_,ns,i,out=>tv xs at_ ns (i+1) (sy out (if(i:Int)=at_ then rI ns x.fv else x.fv))
end
def fvI (at_:Int)(ns:List aG)(i:Nat)(x:Tm):List aG:=if(i:Int)=at_ then rI ns x.fv else x.fv
theorem NT:∀(l:aP)(at_:Int)(ns:List aG)(i:Nat)(out:List aG)(s:aG),s∈tv l at_ ns i out↔s∈out\/∃(j:Nat)(x:Tm),l[j]?=some x/\s∈fvI at_ ns (i+j) x
 | [],_,_,_,out,s=>by simp[tv]
 | y :: l,at_,ns,i,out,s=>by
   simp only[tv];rw[NT,Ng];constructor
   ·rintro((h | h) | ⟨j,x,I,J⟩)
    ·exact .inl h
    ·exact .inr ⟨0,y,rfl,h⟩
    ·exact .inr ⟨j+1,x,by simpa using I,by rw[show i+(j+1)=i+1+j by omega];exact J⟩
   ·rintro(h | ⟨j,x,I,J⟩)
    ·exact .inl (.inl h)
    ·cases j with
     | zero=>simp at I;subst I;exact .inl (.inr J)
     | succ j=>exact .inr ⟨j,x,by simpa using I,by rw[show i+1+j=i+(j+1) by omega];exact J⟩
theorem Hm:∀(l:aP)(at_:Int)(ns:List aG)(i:Nat)(out:List aG),out.Nodup->(tv l at_ ns i out).Nodup
 | [],_,_,_,out,h=>h
 | y::l,at_,ns,i,out,h=>by simp only[tv];exact Hm l _ _ _ _ (PO _ _)
theorem Tm.fv_mem {nm ot n ty re l s}:s∈(Tm.mk k nm ot n ty re l).fv↔(k=1/\s=nm)\/(k≠1/\∃(j:Nat)(x:Tm),l[j]?=some x/\s∈fvI (yZ k l.length) (bdN k nm ot l.length) j x):=by
 simp only[Tm.fv];by_cases I:k=1
 ·simp[I]
 ·rw[if_neg I,NT];simp[I]
theorem Tm.fv_nodup (t:Tm):t.fv.Nodup:=by
 cases t;simp only[Tm.fv];split
 ·simp
 ·exact Hm _ _ _ _ _ mR
def sA (k:Nat):aG:=⟨(118::Lib.decDigits k).toArray⟩
theorem Sq:∀(a b:Nat),Lib.decDigits a=Lib.decDigits b->a=b:=by
 intro a;have J:∀ u,(Lib.decDigits u).length=Lib.nDigits u:=Lib.decDigits_length;have e1:∀ u,u<10->Lib.decDigits u=[UInt8.ofNat (48+u)]:=λu h=>by rw[Lib.decDigits,dif_pos h]
 have O:∀ u,¬u<10->Lib.decDigits u=Lib.decDigits (u / 10)++[UInt8.ofNat (48+u % 10)]:=λu h=>by rw[Lib.decDigits,dif_neg h]
 have u8:∀ x y:Nat,x<10->y<10->UInt8.ofNat (48+x)=UInt8.ofNat (48+y)->x=y:=λx y hx hy h=>by
  have:=oY UInt8.toNat h
  simp only[UInt8.toNat_ofNat']at this;omega
 induction a using Nat.strongRecOn with
 | _ a U=>
   intro b h;have hl:=oY List.length h;rw[J,J]at hl;by_cases I:a<10
   ·rw[Lib.nDigits_small I]at hl;have hb:b<10:=by
     refine lT λhc=>?_;rw[Lib.nDigits_big aA]at hl
     have:=Lib.nDigits_pos (b / 10)
     omega
    rw[e1 a I,e1 b hb]at h;exact u8 a b I hb (by simpa using h)
   ·have hb:¬b<10:=λhc=>by
     rw[Lib.nDigits_big I,Lib.nDigits_small hc]at hl
     have:=Lib.nDigits_pos (a / 10)
     omega
    rw[O a I,O b hb]at h;obtain⟨Y,h2⟩:=List.append_inj' h rfl
    have:=U (a / 10) aA (b / 10) Y
    have:=u8 (a % 10) (b % 10) aA aA (by simpa using h2)
    omega
theorem UX {a b}(h:sA a=sA b):a=b:=by
 have:(118::Lib.decDigits a:List UInt8)=118::Lib.decDigits b:=by
  have:=oY (λx:aG=>x.data.toList) h
  simpa [sA]using this
 exact Sq a b (by simpa using this)
def pK:Nat->Nat->List aG->Nat
 | 0,k,_=>k
 | f+1,k,l=>if sA k∈l then pK f (k+1) l else k
def fresh (l:List aG):aG:=sA (pK l.length 1 l)
theorem Vr:∀(n k:Nat),((List.range n).map λi=>sA (k+i)).Nodup:=λn k=>by
 rw[List.nodup_iff_pairwise_ne,List.pairwise_map];refine List.Pairwise.imp (λ{a b} h hc=>?_) (List.nodup_iff_pairwise_ne.1 List.nodup_range)
 have:=UX hc
 omega
theorem XM (l:List aG) k(h:∀ j,1<=j->j<k->sA j∈l)(J:1<=k):k<=l.length+1:=by
 have:=K5 (Vr (k - 1) 1) (m:=l) λx I=>by obtain⟨i,hi,rfl⟩:=oT.1 I;rw[List.mem_range]at hi;exact h _ aA aA
 simp at this;omega
theorem G4 l:∀(f k:Nat),1<=k->k+f=l.length+1->(∀ j,1<=j->j<k->sA j∈l)->1<=pK f k l/\pK f k l<=l.length+1/\sA (pK f k l)∉l/\∀ j,1<=j->j<pK f k l->sA j∈l
 | 0,k,J,h2,I=>by
   simp only[pK];refine⟨J,aA,λhc=>?_,I⟩
   have:=XM l (k+1) (λj O h5=>by
    by_cases U:j=k
    ·subst U;exact hc
    ·exact I j O aA) aA
   omega
 | f + 1,k,J,h2,I=>by
   simp only[pK];split
   ·rename_i Y;exact G4 l f (k+1) aA aA λj O h5=>by
     by_cases U:j=k
     ·subst U;exact Y
     ·exact I j O aA
   ·rename_i Y;exact⟨J,aA,Y,I⟩
theorem rM l:∃ k,fresh l=sA k/\1<=k/\k<=l.length+1/\sA k∉l/\∀ j,1<=j->j<k->sA j∈l:=by
 obtain⟨I,J,O,U⟩:=G4 l l.length 1 (oC _) aA λj I J=>aA
 exact⟨_,rfl,I,J,O,U⟩
theorem G5 l:fresh l∉l:=by obtain⟨k,h,_,_,I,_⟩:=rM l;rw[h];exact I
theorem VS {m}(h:∀ x,x∈l↔x∈m):fresh l=fresh m:=by
 obtain⟨k,e1,a1,a2,a3,a4⟩:=rM l;obtain⟨j,I,b1,b2,J,b4⟩:=rM m;rw[e1,I];congr 1;refine Nat.le_antisymm (Nat.le_of_not_lt λhc=>?_) (Nat.le_of_not_lt λhc=>?_)
 ·exact J ((h _).1 (a4 j b1 hc))
 ·exact a3 ((h _).2 (b4 k a1 hc))
def tm0:Tm:=.mk 0 (bytes []) (bytes []) 0 (.mk 0 []) (.mk 0 []) []
def ri (s:aG):Tm:=.mk 1 s (bytes []) 0 (.mk 0 []) (.mk 0 []) []
theorem PQ s:(ri s).fv=[s]:=rfl
def rn1 (S:Tm->aG->Tm->Tm)(k:Int)(n:Nat)(fb:List aG)(x old:aG)(s:aG × aG × Tm):aG × aG × Tm:=
 if old∈fb then
  (if s.1=old then(fresh (fb++(s.2.2.fv++([x]++bdN k s.1 s.2.1 n))),s.2.1,S s.2.2 old (ri (fresh (fb++(s.2.2.fv++([x]++bdN k s.1 s.2.1 n))))))
   else(s.1,fresh (fb++(s.2.2.fv++([x]++bdN k s.1 s.2.1 n))),S s.2.2 old (ri (fresh (fb++(s.2.2.fv++([x]++bdN k s.1 s.2.1 n)))))))
 else s
def rns (S:Tm->aG->Tm->Tm)(k:Int)(n:Nat)(fb:List aG)(x:aG):List aG->aG × aG × Tm->aG × aG × Tm
 | [],s=>s
 | old::l,s=>rns S k n fb x l (rn1 S k n fb x old s)
def Tm.sub:Nat->Tm->aG->Tm->Tm
 | 0,e,_,_=>e
 | f + 1,.mk k nm ot n ty re l,x,b=>
   if k=1 then(if nm=x then b else .mk k nm ot n ty re l)
   else if yZ k l.length<0 then .mk k nm ot n ty re (l.map λt=>Tm.sub f t x b)
   else if x∈bdN k nm ot l.length\/x∉(l.getD (yZ k l.length).toNat tm0).fv then
    .mk k nm ot n ty re ((l.map λt=>Tm.sub f t x b).set (yZ k l.length).toNat (l.getD (yZ k l.length).toNat tm0))
   else
    .mk k (rns (Tm.sub f) k l.length b.fv x (bdN k nm ot l.length) (nm,ot,l.getD (yZ k l.length).toNat tm0)).1
     (rns (Tm.sub f) k l.length b.fv x (bdN k nm ot l.length) (nm,ot,l.getD (yZ k l.length).toNat tm0)).2.1 n ty re
     ((l.map λt=>Tm.sub f t x b).set (yZ k l.length).toNat (Tm.sub f (rns (Tm.sub f) k l.length b.fv x (bdN k nm ot l.length) (nm,ot,l.getD (yZ k l.length).toNat tm0)).2.2 x b))
def sm (t:Tm)(N:Nat)(Q:QT [.pk,.i,.str,.str,.i,.dc,.dc,.dc,.dc,.row 35 9]):Prop:=
 match t with | .mk k nm ot n ty re l=>∀ J O U Y I c' N',N<=N'->Tm.Hd nm ot ty re J O U Y->All2 Tm.Is l I->OwnL N N' ([J,O,U,Y]++I)->Q k nm ot n J O U Y I c' N'
theorem Ci {N3 ds}(I:Fresh N N3 a ds)(h:∀ b,b∈zC es->∃ d∈ds,b∈d.foot):∀ ad,a=some ad->ad.block∉zC es:=λad J hc=>by obtain⟨d,hd,hb⟩:=h _ hc;exact I.ap ad J d hd hb
theorem pC:∀(t:Tm) (d:D),t.Is d->t.G->∀(N:Nat) (Q:QT [.pk,.i,.str,.str,.i,.dc,.dc,.dc,.dc,.row 35 9]),sm t N Q ->
  ACalls prog 45 [.pk,.i,.str,.str,.i,.dc,.dc,.dc,.dc,.row 35 9] [.dg 9 d] N Q:=by
 refine Tm.ind λk nm ot n0 ty re l ih d hd hG N Q hQ=>?_;obtain⟨t0,t1,r0,r1,a,es,c,rfl,hh,Y,aa⟩:=Tm.is_mk.1 hd;have hl:=aa.len;obtain⟨g1,g2,g3,g4⟩:=hG;simp only[sm]at hQ;refine DX N _ Q λ_=>?_
 repeat' first|with_reducible intro _|simp only[Y1]|with_reducible refine X ?_ ?_|refine⟨_,_,_,rfl,?_⟩|refine⟨_,rfl,?_⟩|refine X0 ?_|refine(zL _ _ hh.ty g1) _ _ ?_|refine(zL _ _ hh.re g2) _ _ ?_|fail
 rename_i N1 ae J N2 az hx ah _ _ N3 ai y N4 a6 hy aj _ _;have ak:Tm.Hd nm ot ty re (J.cell 0) (J.cell 1) (y.cell 0) (y.cell 1):=⟨hh.nm,hh.ot,Ty.is_cells hx,Ty.is_cells hy⟩
 have al:OwnL N N4 ([J.cell 0,J.cell 1,y.cell 0,y.cell 1]++[]):=by have h:=zg ((rV hx ah).mono ae (oC _)) ((rV hy aj).mono ai (oC _)) aA aA;exact h
 refine up aa Y (λi xs=>∀(done:aM) (q N':Nat),N4<=N'->All2 Tm.Is (l.take i) done->done.length=i->OwnL N N' ([J.cell 0,J.cell 1,y.cell 0,y.cell 1]++done) ->
  xv Q N i (.ag [.j k,.t nm,.t ot,.j n0,t0,t1,r0,r1,.sl a 9 es c]) 0 (bytes []) (bytes []) 0 0 none [] 0 0 none [] 0 none [] 0 k nm ot n0 (J.cell 0) (J.cell 1) (y.cell 0) (y.cell 1) done.length q done q N') ?_ ?_ [] 0 N4 (oC _) rfl rfl al
 ·intro i ao hi done q N' aq hd ab ho;refine vl ⟨_,_,_,rfl,?_⟩;rw[o3 aA]at hd;rw[ao];exact⟨⟨rfl,rfl⟩,λN5 U=>hQ _ _ _ _ _ _ _ aA ak hd (ho.mono (oC _) U)⟩
 ·intro i x xs I _ au done q N' aq hd ab ho;have hb:=I.b;have ac:=z8 g4 I.m;refine vl ⟨_,_,_,rfl,?_⟩;rw[I.lt];refine⟨_,_,_,rfl,⟨aA,aA⟩,λN5 U=>?_⟩;rw[oI,I.w];refine ih x I.m _ I.r ac _ _ ?_;cases x with
  | mk k2 a7 a8 n2 ba bb l2=>
    intro x4 x5 x6 x7 aw c2 N6 bc ax O ay _ _;have bg:=O.len;have bh:=ac.2.2.1;refine⟨⟨rfl,rfl⟩,λa2 N7 bi hf=>⟨⟨rfl,rfl⟩,by unfold zB;rw[oG];simp only[oJ,oN];omega,λc3=>?_⟩⟩;refine au _ _ _ aA (by rw[vw I.g];exact hd.snoc (Tm.is_mk.2 ⟨_,_,_,_,_,_,_,rfl,ax,aA,O⟩)) (by simp[ab]) ?_;refine QD (hd:=[J.cell 0,J.cell 1,y.cell 0,y.cell 1]) (xs:=[x4,x5,x6,x7]) (ho.mono (oC _) U) ay hf aA aA aA (Ci hf λb hb=>?_) (Ci hf λb hb=>?_)
    ·simp only[oq,oa,zC,oM]at hb;rcases hb with hb | hb | hb | hb | hb
     ·exact⟨_,aB,hb⟩
     ·exact⟨J.cell 1,aB,hb⟩
     ·exact⟨y.cell 0,aB,hb⟩
     ·exact⟨y.cell 1,aB,hb⟩
     ·exact⟨.ag done,aB,by simpa only[D.foot]using hb⟩
    ·simp only[oq,oa,zC,oM]at hb;rcases hb with hb | hb | hb | hb | hb
     ·exact⟨x4,aB,hb⟩
     ·exact⟨x5,aB,hb⟩
     ·exact⟨x6,aB,hb⟩
     ·exact⟨x7,aB,hb⟩
     ·exact⟨.ag aw,aB,by simpa only[D.foot]using hb⟩
theorem OP {nm ot ty re x}(I:Tm.Hd nm ot ty re t0 t1 r0 r1)(h1:ty.cnt<=1073741824)(h2:re.cnt<=1073741824) a es c N(Q:QT [.pk,.i,.str,.str,.i,.dc,.dc,.dc,.dc,.bk 1])(hQ:∀ J O U Y N',N<=N'->Tm.Hd nm ot ty re J O U Y->OwnL N N' [J,O,U,Y]->Q k nm ot n0 J O U Y (.sl a 9 es c) N'):
  ACalls prog 189 [.pk,.i,.str,.str,.i,.dc,.dc,.dc,.dc,.bk 1] [.dg 9 (.ag [.j k,.t nm,.t ot,.j n0,t0,t1,r0,r1,x]),.sv a 9 es c] N Q:=by
 refine Fe N _ a es c Q λ_ _=>?_
 repeat' first|with_reducible intro _|simp only[Y1]|with_reducible refine X ?_ ?_|refine⟨_,_,_,rfl,?_⟩|refine⟨_,rfl,?_⟩|refine X0 ?_|refine(Kh _ _ I.ty h1) _ _ ?_|refine(Kh _ _ I.re h2) _ _ ?_|fail
 rename_i N1 aa x1 N2 ai hx ab _ _ N3 ac y N4 aj hy ae _ _ N5 ah;refine hQ _ _ _ _ _ aA ⟨I.nm,I.ot,Ty.is_cells hx,Ty.is_cells hy⟩ ?_;exact zg ((rV hx ab).mono aa (oC _)) ((rV hy ae).mono ac ah) aA aA
theorem pE:∀(t:Tm) (d:D),t.Is d->t.G->∀(N:Nat) (Q:QT [.pk,.i,.str,.str,.i,.dc,.dc,.dc,.dc,.row 35 9]),sm t N Q ->
  ACalls prog 123 [.pk,.i,.str,.str,.i,.dc,.dc,.dc,.dc,.row 35 9] [.dg 9 d] N Q:=by
 refine Tm.ind λk nm ot n0 ty re l ih d hd hG N Q hQ=>?_;obtain⟨t0,t1,r0,r1,a,es,c,rfl,hh,O,U⟩:=Tm.is_mk.1 hd;have hl:=U.len;obtain⟨g1,g2,g3,g4⟩:=hG;simp only[sm]at hQ;refine H5 N _ Q λ_ N1 ah=>?_;refine AL N1 _ _ λ_=>⟨_,_,_,rfl,?_⟩
 refine up U O (λi xs=>∀(done:aM) (q N':Nat),N1<=N'->All2 Tm.Is (l.take i) done->done.length=i->OwnL N1 N' done ->
  xJ _ N1 done.length q a es c es.length i (.ag [.j k,.t nm,.t ot,.j n0,t0,t1,r0,r1,.sl a 9 es c]) 0 (bytes []) (bytes []) 0 0 none [] 0 0 none [] 0 none [] 0 done q N') ?_ ?_ [] 0 N1 (oC _) rfl rfl GI
 ·intro i ai hi done q N' aj hd Y ho;refine uz ?_;rw[o3 aA]at hd;rw[ai];refine⟨⟨rfl,rfl⟩,λa1 a7 _ N4 ak aa=>?_⟩;refine OP hh g1 g2 a1 done q N4 _ λx4 x5 x6 x7 N5 ab al ac _=>⟨rfl,?_⟩
  have off:∀ y∈[x4,x5,x6,x7],Off [a1] y:=λy hy a' ao ad aq hc=>by have h1:=aa a' ao ad aq;have h2:=ac.lo _ (zJ.2 ⟨y,hy,hc⟩);omega
  refine⟨off x4 aB,off x5 aB,off x6 aB,off x7 aB,⟨rfl,rfl⟩,λN6 au _ _=>⟨⟨rfl,rfl⟩,λN7 aw=>?_⟩⟩;exact hQ _ _ _ _ _ _ _ aA al hd (E5 (N1:=N4) (ac.mono (oC _) aA) (ho.mono ah ak) aA aA)
 ·intro i x xs I _ ax done q N' aj hd Y ho;have hb:=I.b;have ae:=z8 g4 I.m;refine uz ?_;rw[I.lt];refine⟨⟨aA,aA⟩,λN5 ab=>?_⟩;rw[oI,I.w];refine ih x I.m _ I.r ae _ _ ?_;cases x with
  | mk k2 a8 ba n2 bb bc l2=>
    intro x4 x5 x6 x7 ay c2 N6 au az J a6 _ _;have bg:=J.len;have bh:=ae.2.2.1;refine⟨⟨rfl,rfl⟩,λa2 N7 aw hf=>⟨⟨rfl,rfl⟩,by unfold zB;rw[oG];simp only[oJ,oN];omega,λc3=>?_⟩⟩;refine ax _ _ _ aA (by rw[vw I.g];exact hd.snoc (Tm.is_mk.2 ⟨_,_,_,_,_,_,_,rfl,az,aA,J⟩)) (by simp[Y]) ?_;refine QD (hd:=[]) (xs:=[x4,x5,x6,x7]) (ho.mono (oC _) ab) a6 hf aA aA aA (Ci hf λb hb=>?_) (Ci hf λb hb=>?_)
    ·exact⟨.ag done,aB,by simpa only[D.foot,oa]using hb⟩
    ·simp only[oq,oa,zC,oM]at hb;rcases hb with hb | hb | hb | hb | hb
     ·exact⟨x4,aB,hb⟩
     ·exact⟨x5,aB,hb⟩
     ·exact⟨x6,aB,hb⟩
     ·exact⟨x7,aB,hb⟩
     ·exact⟨.ag ay,aB,by simpa only[D.foot]using hb⟩
theorem rK:∀ l:List aG,zC (zA l)=[]
 | []=>rfl
 | s::l=>by have:=rK l;simp only[zA,o9,zC,D.foot,oa]at this ⊢;exact this
theorem Jd:∀ l:List aG,wK (zA l)
 | []=>trivial
 | s::l=>⟨trivial,Jd l⟩
theorem RX l:OwnL N N' (zA l):=⟨by rw[rK];exact mR,Jd l,by rw[rK];simp,by rw[rK];simp⟩
theorem vo {M ds}(I:Fresh N N' a (.ag (zA l)::ds))(h:N'<=M):Own N M (.sl a 0 (zA l) c):=(p8 (N1:=N') (RX l) I (oC _)).mono (oC _) h
theorem HS {bs} l:Off bs (.ag (zA l)):=λa _ ad _ hc=>by simp only[D.foot,rK]at hc;simp at hc
def XP f args l:=∀(N:Nat) (Q:QT [.sl 0]),(∀ a c N',N<=N'->Own N N' (.sl a 0 (zA l) c)->Q a (zA l) c N')->ACalls prog f [.sl 0] args N Q
def XQ f args l:=∀(N:Nat) (Q:QT [.row 9 0]),(∀ c N',N<=N'->Q (zA l) c N')->ACalls prog f [.row 9 0] args N Q
theorem CR {s}(h:l.length<=8796093022207):zB (zA l) [.t s] 16:=by unfold zB;rw[oG,zG];simp only[oJ,oN];omega
theorem Kd l(hl:l.length<=2199023255552) a c s:XP 244 [.sv a 0 (zA l) c,.str s] (l.filter λx=>decide (x≠s)):=λN Q hQ=>by
 have Y:=xg l;have O:(zA l).length<=4611686018427387904:=by rw[zG];omega
 refine DU N a _ c s Q λ_=>?_;refine up Y O (λi xs=>∀(done:List aG) (q N':Nat),N<=N'->done.length<=i->i<=l.length->done++xs.filter (λx=>decide (x≠s))=l.filter (λx=>decide (x≠s)) ->
  yS Q N a (zA l) c s (zA done).length q i (zA done) q N') ?_ ?_ [] 0 N (oC _) aB aA rfl
 ·intro i aa hi done q N' J ab ac hd;refine u5 ?_;rw[aa];rw[List.filter_nil,o8]at hd;subst hd;exact⟨⟨rfl,rfl⟩,⟨rfl,rfl⟩,⟨rfl,rfl⟩,λa1 N1 ah hf N2 ae=>hQ _ _ _ aA (vo hf ae)⟩
 ·intro i x xs I _ U done q N' J ab ac hd;have hb:=I.b;have hr:=I.r;have ai:=zG l;refine u5 ?_;rw[I.lt,oI,hr,I.w];refine⟨⟨aA,aA⟩,_,rfl,Br.nstr (λh=>⟨⟨aA,aA⟩,_,rfl,⟨rfl,rfl⟩,CR aA,λc1=>?_⟩) λh=>?_⟩
  ·rw[uO];refine U _ _ _ J aF aA ?_;rw[<-hd];simp[List.filter_cons,h]
  ·refine U _ _ _ J aA aA ?_;rw[<-hd];simp[List.filter_cons,h]
theorem G6 (s:aG) l:decide (Ck (λx=>decide (x=s)) l 0<0)=decide (s∉l):=by
 have h:=Aa (λx=>decide (x=s)) l 0 aA;rw[mC,nl,nl];have I:(decide (Ck (λx=>decide (x=s)) l 0≥0)=true)↔(l.any λx=>decide (x=s))=true:=by rw[h]
 rw[nl]at I;simp only[List.any_eq_true,oh,exists_eq_right]at I;constructor
 ·intro O J;have:=I.2 J;omega
 ·intro O;exact Int.not_le.1 λJ=>O (I.1 J)
theorem D6 {out xs}:dd out (x::xs)=dd (if x∈out then out else out++[x]) xs:=rfl
theorem OZ {out}:(if x∈out then out else out++[x]).length<=out.length+1:=by split<;>simp
theorem rH l m(hl:l.length<=2199023255552)(hm:m.length<=2199023255552) a b c c':XQ 245 [.sv a 0 (zA l) c,.sv b 0 (zA m) c'] (sy l m):=λN Q hQ=>by
 have ak:=xg l;have ae:(zA l).length<=4611686018427387904:=by rw[zG];omega
 have al:=xg m;have ah:(zA m).length<=4611686018427387904:=by rw[zG];omega
 have ax:=zG l;have ay:=zG m;refine Ek N a _ c b _ c' Q λ_ _=>?_;have U:∀(done:List aG) (q N':Nat),N<=N'->done.length<=l.length->done=dd [] l->yC Q N b (zA m) c' (zA done).length q 0 (zA done) q N':=λaa q0 N0 ao aw aq=>
  up al ah (λi xs=>∀(done:List aG) (q N':Nat),N<=N'->done.length<=l.length+i->dd done xs=sy l m->yC Q N b (zA m) c' (zA done).length q i (zA done) q N')
   (λi ab hi done q N' Y ac hd=>by refine tj ?_;rw[ab];simp only[dd]at hd;subst hd;exact⟨⟨rfl,rfl⟩,λN2 ai=>hQ _ _ aA⟩)
   (λi x xs I _ J done q N' Y ac hd=>by
    have hb:=I.b;have hr:=I.r;have O:=OZ (out:=done) (x:=x);refine tj ?_;rw[I.lt,oI,hr,I.w];refine⟨⟨aA,aA⟩,_,rfl,⟨rfl,rfl⟩,λa1 _ N1 au _=>xi done aA a1 q x N1 _ λN2 ai aj=>?_⟩;rw[G6];refine Br.dec (λh=>⟨⟨aA,aA⟩,_,rfl,⟨rfl,rfl⟩,CR aA,λc1=>?_⟩) λh=>?_
    ·rw[uO];rw[if_neg h]at O;refine J _ _ _ aA aA ?_;rw[<-hd,D6,if_neg h]
    ·refine J _ _ _ aA aA ?_;rw[<-hd,D6,if_pos (mS.1 h)]) aa q0 N0 ao aA (by rw[aq];rfl)
 refine up ak ae (λi xs=>∀(done:List aG) (q N':Nat),N<=N'->done.length<=i->dd done xs=dd [] l ->
  yd Q N a (zA l) c b (zA m) c' (zA done).length q i (zA done) q N') ?_ ?_ [] 0 N (oC _) aB rfl
 ·intro i ab hi done q N' Y ac hd;refine ti ?_;rw[ab];exact U done q N' Y aA hd
 ·intro i x xs I _ J done q N' Y ac hd;have hb:=I.b;have hr:=I.r;have O:=OZ (out:=done) (x:=x);refine ti ?_;rw[I.lt,oI,hr,I.w];refine⟨⟨aA,aA⟩,_,rfl,⟨rfl,rfl⟩,λa1 _ N1 au _=>xi done aA a1 q x N1 _ λN2 ai aj=>?_⟩;rw[G6];refine Br.dec (λh=>⟨⟨aA,aA⟩,_,rfl,⟨rfl,rfl⟩,CR aA,λc1=>?_⟩) λh=>?_
  ·rw[uO];rw[if_neg h]at O;refine J _ _ _ aA aA ?_;rw[<-hd,D6,if_neg h]
  ·refine J _ _ _ aA aA ?_;rw[<-hd,D6,if_pos (mS.1 h)]
theorem Vx {z}:Own N N' (.sl none z [] c):=⟨by simp[D.foot,zC],⟨aB,trivial⟩,by simp[D.foot,zC],by simp[D.foot,zC]⟩
theorem Qbd {Q:QT [.sl 0,.i]}{I n n'}(h:Q a es c n N)(e1:es=I)(J:n=n'):Q a I c n' N:=e1 ▸ J ▸ h
def ZM f args l n:=∀(N:Nat) (Q:QT [.sl 0,.i]),(∀ a c N',N<=N'->Own N N' (.sl a 0 (zA l) c)->Q a (zA l) c n N')->ACalls prog f [.sl 0,.i] args N Q
theorem OM {nm ot n}(hn:es.length=n):
  ZM 254 [.dg 9 (.ag [.j k,.t nm,.t ot,.j n0,t0,t1,r0,r1,.sl a 9 es c])] (bdN k nm ot n) (yZ k n):=λN Q hQ=>by
 subst hn;have one:∀(x:aG) (m:Int),bdN k nm ot es.length=[x]->yZ k es.length=m->((1:Nat)=([D.t x]).length/\(1:Nat)=1)/\((1:Nat)=([D.t x]).length/\(1:Nat)=1)/\∀ a1 N1,N<=N1->Fresh N N1 a1 [D.ag [D.t x]]->∀ N2,N1<=N2->Q a1 [D.t x] 1 m N2:=λx m I Y=>⟨⟨rfl,rfl⟩,⟨rfl,rfl⟩,λa1 N1 J hf N2 O=>Qbd (hQ a1 1 N2 aA (by rw[I];exact vo (l:=[x]) hf O)) (by rw[I];rfl) Y⟩
 have aa:bdN k nm ot es.length=[nm,ot]->yZ k es.length=0->((2:Nat)=([D.t nm,D.t ot]).length/\(2:Nat)=2)/\((2:Nat)=([D.t nm,D.t ot]).length/\(2:Nat)=2)/\∀ a1 N1,N<=N1->Fresh N N1 a1 [D.ag [D.t nm,D.t ot]]->∀ N2,N1<=N2->Q a1 [D.t nm,D.t ot] 2 0 N2:=λI Y=>⟨⟨rfl,rfl⟩,⟨rfl,rfl⟩,λa1 N1 J hf N2 O=>Qbd (hQ a1 2 N2 aA (by rw[I];exact vo (l:=[nm,ot]) hf O)) (by rw[I];rfl) Y⟩
 have nil:bdN k nm ot es.length=[]->yZ k es.length = -1->∀ N1,N<=N1->Q none [] 0 (-1) N1:=λI Y N1 J=>Qbd (hQ none 0 N1 J (by rw[I];exact Vx)) (by rw[I];rfl) Y;refine Nk N _ Q λ_=>⟨_,rfl,Br.beq (λh6=>⟨_,_,_,rfl,Br.beq (λI=>⟨_,rfl,?_⟩) λI=>?_⟩) λh6=>?_⟩
 ·exact one _ _ (by unfold bdN;rw[if_pos ⟨h6,aA⟩]) (by unfold yZ;rw[if_pos ⟨h6,aA⟩])
 ·refine⟨_,rfl,Br.beq (λh8=>aA) λh8=>⟨_,rfl,Br.beq (λU=>aA) λU=>?_⟩⟩;exact nil (by unfold bdN;rw[if_neg aA,if_neg aA,if_neg aA]) (by unfold yZ;rw[if_neg aA,if_neg aA,if_neg aA])
 ·refine⟨_,rfl,Br.beq (λh8=>⟨_,_,_,rfl,Br.beq (λI=>⟨_,rfl,?_⟩) λI=>?_⟩) λh8=>?_⟩
  ·exact one _ _ (by unfold bdN;rw[if_neg aA,if_pos ⟨h8,aA⟩]) (by unfold yZ;rw[if_neg aA,if_pos ⟨h8,aA⟩])
  ·refine⟨_,rfl,Br.beq (λU=>aA) λU=>?_⟩;exact nil (by unfold bdN;rw[if_neg aA,if_neg aA,if_neg aA]) (by unfold yZ;rw[if_neg aA,if_neg aA,if_neg aA])
  ·refine⟨_,rfl,Br.beq (λU=>⟨_,_,_,rfl,Br.beq (λI=>⟨_,rfl,_,rfl,?_⟩) λI=>?_⟩) λU=>?_⟩
   ·exact aa (by unfold bdN;rw[if_neg aA,if_neg aA,if_pos ⟨U,aA⟩]) (by unfold yZ;rw[if_neg aA,if_neg aA,if_pos ⟨U,aA⟩])
   ·exact nil (by unfold bdN;rw[if_neg aA,if_neg aA,if_neg aA]) (by unfold yZ;rw[if_neg aA,if_neg aA,if_neg aA])
   ·exact nil (by unfold bdN;rw[if_neg aA,if_neg aA,if_neg aA]) (by unfold yZ;rw[if_neg aA,if_neg aA,if_neg aA])
theorem CW {nm ot n}(hn:es.length=n):
  ZM 209 [.dg 9 (.ag [.j k,.t nm,.t ot,.j n0,t0,t1,r0,r1,.sl a 9 es c])] (bdN k nm ot n) (yZ k n):=λN Q hQ=>by
 subst hn;have one:∀(x:aG) (m:Int),bdN k nm ot es.length=[x]->yZ k es.length=m->((1:Nat)=([D.t x]).length/\(1:Nat)=1)/\((1:Nat)=([D.t x]).length/\(1:Nat)=1)/\∀ a1 N1,N<=N1->Fresh N N1 a1 [D.ag [D.t x]]->∀ N2,N1<=N2->Q a1 [D.t x] 1 m N2:=λx m I U=>⟨⟨rfl,rfl⟩,⟨rfl,rfl⟩,λa1 N1 Y hf N2 J=>Qbd (hQ a1 1 N2 aA (by rw[I];exact vo (l:=[x]) hf J)) (by rw[I];rfl) U⟩
 have aa:bdN k nm ot es.length=[nm,ot]->yZ k es.length=0->((2:Nat)=([D.t nm,D.t ot]).length/\(2:Nat)=2)/\((2:Nat)=([D.t nm,D.t ot]).length/\(2:Nat)=2)/\∀ a1 N1,N<=N1->Fresh N N1 a1 [D.ag [D.t nm,D.t ot]]->∀ N2,N1<=N2->Q a1 [D.t nm,D.t ot] 2 0 N2:=λI U=>⟨⟨rfl,rfl⟩,⟨rfl,rfl⟩,λa1 N1 Y hf N2 J=>Qbd (hQ a1 2 N2 aA (by rw[I];exact vo (l:=[nm,ot]) hf J)) (by rw[I];rfl) U⟩
 have nil:bdN k nm ot es.length=[]->yZ k es.length = -1->((0:Nat)=0/\(0:Nat)=0)/\((0:Nat)=0/\(0:Nat)=0)/\∀ a1 N1,N<=N1->Fresh N N1 a1 [D.ag []]->∀ N2,N1<=N2->Q a1 [] 0 (-1) N2:=λI U=>⟨⟨rfl,rfl⟩,⟨rfl,rfl⟩,λa1 N1 Y hf N2 J=>Qbd (hQ a1 0 N2 aA (by rw[I];exact vo (l:=[]) hf J)) (by rw[I];rfl) U⟩
 refine JJ N _ Q λ_=>⟨_,rfl,Br.beq (λh6=>⟨_,_,_,rfl,Br.beq (λI=>⟨_,rfl,?_⟩) λI=>?_⟩) λh6=>?_⟩
 ·exact one _ _ (by unfold bdN;rw[if_pos ⟨h6,aA⟩]) (by unfold yZ;rw[if_pos ⟨h6,aA⟩])
 ·refine⟨_,rfl,Br.beq (λh8=>aA) λh8=>⟨_,rfl,Br.beq (λO=>aA) λO=>?_⟩⟩;exact nil (by unfold bdN;rw[if_neg aA,if_neg aA,if_neg aA]) (by unfold yZ;rw[if_neg aA,if_neg aA,if_neg aA])
 ·refine⟨_,rfl,Br.beq (λh8=>⟨_,_,_,rfl,Br.beq (λI=>⟨_,rfl,?_⟩) λI=>?_⟩) λh8=>?_⟩
  ·exact one _ _ (by unfold bdN;rw[if_neg aA,if_pos ⟨h8,aA⟩]) (by unfold yZ;rw[if_neg aA,if_pos ⟨h8,aA⟩])
  ·refine⟨_,rfl,Br.beq (λO=>aA) λO=>?_⟩;exact nil (by unfold bdN;rw[if_neg aA,if_neg aA,if_neg aA]) (by unfold yZ;rw[if_neg aA,if_neg aA,if_neg aA])
  ·refine⟨_,rfl,Br.beq (λO=>⟨_,_,_,rfl,Br.beq (λI=>⟨_,rfl,_,rfl,?_⟩) λI=>?_⟩) λO=>?_⟩
   ·exact aa (by unfold bdN;rw[if_neg aA,if_neg aA,if_pos ⟨O,aA⟩]) (by unfold yZ;rw[if_neg aA,if_neg aA,if_pos ⟨O,aA⟩])
   ·exact nil (by unfold bdN;rw[if_neg aA,if_neg aA,if_neg aA]) (by unfold yZ;rw[if_neg aA,if_neg aA,if_neg aA])
   ·exact nil (by unfold bdN;rw[if_neg aA,if_neg aA,if_neg aA]) (by unfold yZ;rw[if_neg aA,if_neg aA,if_neg aA])
theorem Za (n:Nat)(U:n<=8796093022208) N(Q:QT [.row 9 0])(J:∀ c N',N<=N'->Q [] c N'):ACalls prog 287 [.row 9 0] [.sv none 0 [] 0,.j n] N Q:=by
 have O:IntKind.i64.wrap ((n:Int) - 0)=n:=by rw[Int.sub_zero];exact i64_in _ aA
 refine DN N n Q λ_=>Br.dec (λh=>aA) λ_=>?_;rw[O];refine Br.dec (λh=>⟨⟨aA,aA,aA⟩,⟨aA,aA,aA⟩,λc=>⟨⟨aA,aA⟩,Nat.zero_le _,⟨rfl,rfl⟩,λN1 I=>J c N1 I⟩⟩) λh N1 I=>J 0 N1 I
def OB:List (List aG)->List aG
 | []=>[]
 | l::ls=>l++OB ls
def IsW l(d:D):=∃ a c,d=.sl a 0 (zA l) c
theorem J7 l m:zA l++zA m=zA (l++m):=by simp[zA]
theorem Pg {ls}(aa:All2 IsW ls es)(ai:es.length<=2199023255552)(hc:(OB ls).length<=8796093022208) a c:XP 277 [.sv a 0 es c] (OB ls):=λN Q hQ=>by
 refine A8 N a es c Q λ_=>?_;have O:∀(q N':Nat),N<=N'->zi Q N 0 q a es c (es.length:Int) 0 [] q N':=λq0 N0 ac=>
  up aa aA (λi xs=>∀(done:List aG) (q N':Nat),N<=N'->done++OB xs=OB ls->zi Q N (zA done).length q a es c (es.length:Int) i (zA done) q N')
   (λi U hi done q N' J hd=>by refine vi ?_;rw[U];simp only[OB,o8]at hd;subst hd;exact⟨⟨rfl,rfl⟩,⟨rfl,rfl⟩,⟨rfl,rfl⟩,λa1 N1 ae hf N2 ab=>hQ _ _ _ aA (vo hf ab)⟩)
   (λi x xs I _ Y done q N' J hd=>by have hb:=I.b;obtain⟨a1,c1,hr⟩:=I.r;refine vi ?_;rw[I.lt,oI,hr,I.w];have ah:=oY List.length hd;simp only[OB,oG]at ah;refine⟨⟨aA,aA⟩,_,_,_,rfl,⟨rfl,rfl⟩,by unfold zB;rw[oG,zG,zG];omega,λc2=>?_⟩;rw[J7];refine Y _ _ _ J ?_;rw[<-hd];simp[OB,oP]) [] q0 N0 ac rfl
 refine up aa aA (λi xs=>∀(t:Nat) (N':Nat),N<=N'->t+(OB xs).length=(OB ls).length ->
  yk Q N a es c t a es c (es.length:Int) i N') ?_ ?_ 0 N (oC _) aB
 ·intro i U hi t N' J ht;refine uB ?_;rw[U];simp only[OB,oN]at ht;exact λN1 ae=>Za t aA N1 _ λc1 N2 ab _ _=>O c1 N2 aA
 ·intro i x xs I _ Y t N' J ht;have hb:=I.b;obtain⟨a1,c1,hr⟩:=I.r;refine uB ?_;simp only[OB,oG]at ht;rw[I.lt,oI,hr,I.w];have hw:IntKind.i64.wrap ((t:Int)+((zA x).length:Int))=((t+x.length:Nat):Int):=by rw[zG];rw[i64_in _ aA];omega
  refine⟨⟨aA,aA⟩,_,_,_,rfl,?_⟩;rw[hw];exact Br.dec (λh=>aA) λ_=>Y _ _ J aA
theorem Do s(l:List aG):(l.any λx=>decide (s=x))=decide (s∈l):=by rw[mC];simp
theorem rF l m(hl:l.length<=2199023255552)(hm:m.length<=2199023255552) a b c c':XQ 275 [.sv a 0 (zA l) c,.sv b 0 (zA m) c'] (sy l m):=λN Q hQ=>by
 refine Ec N a _ c b _ c' Q λ_ _=>⟨⟨rfl,rfl⟩,λa1 _ N1 aa O=>?_⟩
 have ab:All2 IsW [l,m] [.sl a 0 (zA l) c,.sl b 0 (zA m) c']:=⟨_,_,rfl,⟨_,_,rfl⟩,_,_,rfl,⟨_,_,rfl⟩,rfl⟩
 have J:OB [l,m]=l++m:=by simp[OB]
 refine Pg ab aB (by rw[J,oG];omega) a1 2 N1 _ λa2 c2 N2 ac ho _=>⟨xk O ho,λ_=>?_⟩
 rw[J];have ae:=xg (l++m);have ah:=zG (l++m);rw[oG]at ah;refine up ae aA (λi xs=>∀(done:List aG) (q N':Nat),N<=N'->done.length<=i->dd done xs=sy l m ->
  yc Q N (zA done).length q a2 (zA (l++m)) c2 ((zA (l++m)).length:Int) i (zA done) q N') ?_ ?_ [] 0 N2 aA aB (by unfold sy;rw[Wl])
 ·intro i ai hi done q N' aj ak hd;refine tg ?_;rw[ai];simp only[dd]at hd;subst hd;exact⟨⟨rfl,rfl⟩,λN3 ao=>hQ _ _ aA⟩
 ·intro i x xs I _ U done q N' aj ak hd;have hb:=I.b;have hr:=I.r;have Y:=OZ (out:=done) (x:=x);refine tg ?_;rw[I.lt,oI,hr,I.w];refine⟨⟨aA,aA⟩,_,rfl,⟨rfl,rfl⟩,λa1 _ N1 aa _=>xD done aA a1 q x N1 _ λN2 ac al=>?_⟩;rw[Do];refine Br.ndec (λh=>⟨⟨rfl,rfl⟩,CR aA,λc1=>?_⟩) λh=>?_
  ·rw[uO];rw[if_neg h]at Y;refine U _ _ _ aA aA ?_;rw[<-hd,D6,if_neg h]
  ·refine U _ _ _ aA aA ?_;rw[<-hd,D6,if_pos h]
mutual
def Tm.vc:Tm->Nat
 | .mk k _ _ _ _ _ l=>if k=1 then 1 else Az l
def Az:aP->Nat
 | []=>0
 | t::ts=>t.vc+Az ts
end
theorem J5:∀ {l:aP}{t:Tm},t∈l->t.vc<=Az l
 | u::us,t,h=>by
   simp only[Az];rcases oK.1 h with rfl | h
   ·omega
   ·have:=J5 h;omega
mutual
theorem Tm.vc_cnt:∀ t:Tm,3*t.vc<=t.cnt
 | .mk k nm ot n ty re l=>by
   have:=Ty.cnt_pos ty
   have:=Ty.cnt_pos re
   have:=NX l
   simp only[Tm.vc,Tm.cnt]
   split<;>omega
theorem NX:∀ l:aP,3*Az l<=xC l
 | []=>oC _
 | t::ts=>by
   have:=Tm.vc_cnt t
   have:=NX ts
   simp only[Az,xC];omega
end
mutual
theorem Tm.fv_len:∀ t:Tm,t.fv.length<=t.vc
 | .mk k nm ot n ty re l=>by
   simp only[Tm.fv,Tm.vc]
   split
   ·simp
   ·have:=NS l (yZ k l.length) (bdN k nm ot l.length) 0 []
    simp at this;omega
theorem NS:∀(l:aP) (at_:Int) (ns:List aG) (i:Nat) (out:List aG),(tv l at_ ns i out).length<=out.length+Az l
 | [],_,_,_,out=>by simp[tv]
 | x::xs,at_,ns,i,out=>by
   simp only[tv,Az]
   have J:=NS xs at_ ns (i+1) (sy out (if(i:Int)=at_ then rI ns x.fv else x.fv))
   have I:=Tm.fv_len x
   have O:(if(i:Int)=at_ then rI ns x.fv else x.fv).length<=x.vc:=by
    split
    ·exact oR (mV _ _) I
    ·exact I
   have U:(sy out (if(i:Int)=at_ then rI ns x.fv else x.fv)).length<=out.length+(if(i:Int)=at_ then rI ns x.fv else x.fv).length:=by
    unfold sy
    have a1:=Gy (dd [] out) (if(i:Int)=at_ then rI ns x.fv else x.fv)
    have a2:=Gy [] out
    simp at a2;omega
   omega
end
def rX:aP->Nat
 | []=>0
 | t::ts=>t.fv.length+rX ts
mutual
def Tm.wd:Tm->Nat
 | .mk k _ _ _ _ _ l=>if k=1 then 1 else max (rX l) (Bm l)
def Bm:aP->Nat
 | []=>0
 | t::ts=>max t.wd (Bm ts)
end
theorem LM:∀ {l:aP}{n:Nat},Bm l<=n↔∀ x∈l,x.wd<=n
 | [],n=>by simp[Bm]
 | t::ts,n=>by simp only[Bm,Nat.max_le,LM (l:=ts),oK,mc]
theorem Ap {l t}(h:t∈l):t.wd<=Bm l:=LM.1 (oC _) t h
theorem QZ:∀(l:aP)(at_:Int)(ns:List aG)(i:Nat)(out:List aG),(tv l at_ ns i out).length<=out.length+rX l
 | [],_,_,_,out=>by simp[tv]
 | x::xs,at_,ns,i,out=>by
   simp only[tv,rX];have I:=QZ xs at_ ns (i+1) (sy out (if(i:Int)=at_ then rI ns x.fv else x.fv));have J:(if(i:Int)=at_ then rI ns x.fv else x.fv).length<=x.fv.length:=by
    split
    ·exact mV _ _
    ·exact oC _
   have O:(sy out (if(i:Int)=at_ then rI ns x.fv else x.fv)).length<=out.length+(if(i:Int)=at_ then rI ns x.fv else x.fv).length:=by unfold sy;have a1:=Gy (dd [] out) (if(i:Int)=at_ then rI ns x.fv else x.fv);have a2:=Gy [] out;simp at a2;omega
   omega
theorem Tm.fv_wd (t:Tm):t.fv.length<=t.wd:=by
 cases t with
 | mk k nm ot n ty re l=>
 simp only[Tm.fv,Tm.wd];split
 ·simp
 ·have:=QZ l (yZ k l.length) (bdN k nm ot l.length) 0 []
  simp at this;omega
theorem QY:∀ l:aP,rX l<=Az l
 | []=>oC _
 | t::ts=>by
   have:=QY ts
   have:=t.fv_len
   simp only[rX,Az];omega
theorem Tm.wd_vc:∀ t:Tm,t.wd<=t.vc:=by
 refine Tm.ind λk nm ot n ty re l J=>?_;simp only[Tm.wd,Tm.vc];split
 ·exact oC _
 ·have O:=QY l;have U:Bm l<=Az l:=LM.2 λx I=>oR (J x I) (J5 I);omega
theorem Hv a b:(sy a b).length<=a.length+b.length:=by unfold sy;have a1:=Gy (dd [] a) b;have a2:=Gy [] a;simp at a2;omega
theorem Sm ns l s:(rI ns l).filter (λx=>decide (x≠s))=rI (ns++[s]) l:=by unfold rI;rw[List.filter_filter];congr 1;funext x;rw[mC];simp;exact And.comm
theorem Ks l:rI [] l=l:=by simp[rI]
theorem uq:∀(t:Tm)(d:D),t.Is d->t.wd<=2199023255552->XP 211 [.dg 9 d] t.fv:=by
 refine Tm.ind λk nm ot n0 ty re l ih d hd hG N Q hQ=>?_;obtain⟨t0,t1,r0,r1,a,es,c,rfl,hh,ak,al⟩:=Tm.is_mk.1 hd;have hl:=al.len;simp only[Tm.wd]at hG;refine IB N _ Q λ_=>⟨_,rfl,Br.beq (λh1=>⟨_,rfl,⟨rfl,rfl⟩,⟨rfl,rfl⟩,λa1 N1 ax hf N2 ao=>?_⟩) λh1 N3 bg=>CW (n:=l.length) aA N3 _ λa3 c3 N4 bh _ _ _=>?_⟩
 ·have e:(Tm.mk k nm ot n0 ty re l).fv=[nm]:=by simp[Tm.fv,h1]
  rw[e]at hQ;exact hQ _ _ _ aA (vo (l:=[nm]) hf ao)
 ·have e:(Tm.mk k nm ot n0 ty re l).fv=tv l (yZ k l.length) (bdN k nm ot l.length) 0 []:=by simp[Tm.fv,h1]
  rw[e]at hQ;rw[if_neg h1]at hG;have bi:rX l<=2199023255552:=aA
  have bj:Bm l<=2199023255552:=aA
  have ay:=pA k nm ot l.length;generalize bdN k nm ot l.length=ns at hQ ay ⊢;generalize yZ k l.length=at_ at hQ ⊢;generalize hy:(D.ag [.j k,.t nm,.t ot,.j n0,t0,t1,r0,r1,.sl a 9 es c])=y;have ah:y.cell 8=.sl a 9 es c:=by rw[<-hy];rfl
  have bm:=zG ns;have inner:∀(i:Nat) (x:Tm) (out:List aG) (q N1:Nat),N<=N1->out.length<=2199023255552->x.fv.length<=2199023255552 ->
    (∀ c N'',N1<=N''->yB Q N a3 (zA ns) c3 at_ (zA (sy out (if(i:Int)=at_ then rI ns x.fv else x.fv))).length c (IntKind.i64.wrap (i+1)) y (zA (sy out (if(i:Int)=at_ then rI ns x.fv else x.fv))) c N'') ->
    ∀ O U,Own N N1 (.sl O 0 (zA x.fv) U)->yy Q N a3 (zA ns) c3 at_ (zA out).length q i O (zA x.fv) U 0 y (zA out) q N1:=λi x out q N1 ax ho hx hc O U h7=>by
   have fin:∀(Y:List aG) (O:aH) (U N':Nat),N1<=N'->Y=(if(i:Int)=at_ then rI ns x.fv else x.fv) ->
     ((zA out).length=(zA out).length/\q=q)/\∀ ac,ApA ac (zA out)->Off [ac] (.sl O 0 (zA Y) U)->∀ N3,N'<=N3->xj N3 [ac]->ACalls prog 245 [.row 9 0] [.sv ac 0 (zA out) q,.sv O 0 (zA Y) U] N3 (λaa aq N4=>N3<=N4->Off [ac] (D.ag aa)/\(Bel N4 (D.ag aa)->yB Q N a3 (zA ns) c3 at_ aa.length aq (IntKind.i64.wrap (i+1)) y aa aq N4)):=λY O U N' ab J=>⟨⟨rfl,rfl⟩,λa9 _ _ N5 au bc=>by
    have h5:Y.length<=2199023255552:=by
     rw[J];split
     ·exact oR (mV _ _) hx
     ·exact hx
    refine rH out Y ho h5 a9 O q U N5 _ λc8 N8 az _=>⟨HS _,λ_=>?_⟩
    subst J;exact hc _ _ aA⟩
   refine up (xg ns) aA (λj xs=>∀(Y:List aG) O U N',N1<=N'->Y=rI (ns.take j) x.fv->((i:Int)≠at_->j=0)->yy Q N a3 (zA ns) c3 at_ (zA out).length q i O (zA Y) U j y (zA out) q N') ?_ ?_ x.fv O U N1 (oC _) (by rw[lA,Ks]) (λ_=>rfl)
   ·intro j ai hj Y O U N' ab J I;refine sV ?_;rw[ai];refine fin Y O U N' ab ?_;rw[J,o3 aA];split
    ·rfl
    ·rename_i ae
     have:=I ae
     have:ns=[]:=oV aA;rw[this,Ks]
   ·intro j s xs I _ aj Y O U N' ab J hj;have hb:=I.b;have hr:=I.r;refine sV ?_;rw[I.lt];refine Br.beq (λhe=>⟨⟨aA,aA⟩,s,?_,λN2 ao=>Kd Y ?_ O U s N2 _ λa8 c8 N8 az _ _ _=>?_⟩) λae=>fin Y O U N' ab ?_
    ·rw[oI,hr]
    ·rw[J];exact oR (mV _ _) hx
    ·rw[I.w];refine aj _ _ _ _ aA ?_ (λhc=>absurd he hc);rw[J,Sm,vw I.g]
    ·rw[if_neg ae,J,hj ae,lA,Ks]
  refine up al ak (λi xs=>∀(out:List aG) (q N':Nat),N<=N'->out.length+rX xs<=rX l->tv xs at_ ns i out=tv l at_ ns 0 []->yB Q N a3 (zA ns) c3 at_ (zA out).length q i y (zA out) q N') ?_ ?_ [] 0 N4 aA aB rfl
  ·intro i ai hi out q N' ab _ he;refine rR ⟨_,_,_,ah,?_⟩;rw[ai];simp only[tv]at he;subst he;exact⟨⟨rfl,rfl⟩,⟨rfl,rfl⟩,⟨rfl,rfl⟩,λa1 N5 au hf N6 aw=>hQ _ _ _ aA (vo hf aw)⟩
  ·intro i x xs I _ aj out q N' ab ba he;have hb:=I.b;simp only[rX]at ba;have bp:=Ap I.m;have bq:=Hv out (if(i:Int)=at_ then rI ns x.fv else x.fv);have bt:(if(i:Int)=at_ then rI ns x.fv else x.fv).length<=x.fv.length:=by
    split
    ·exact mV _ _
    ·exact oC _
   refine rR ⟨_,_,_,ah,?_⟩;rw[I.lt];refine⟨_,_,_,ah,⟨aA,aA⟩,λN5 au=>?_⟩;rw[oI];refine ih x I.m _ I.r aA N5 _ λa6 c6 N6 aw bb _ _=>inner i x out q N6 aA aA aA (λc N'' h1=>?_) a6 c6 (bb.mono aA (oC _));rw[I.w];exact aj _ _ _ aA aA (by rw[<-he];rfl)
theorem BCalls.cap {f full args bx}{Q:QT full}(hc:xt prog f=true)(h:(∀ t z es n,Bx.arr t z es n∈bx->es.length<=n)->BCalls prog f full args bx N Q):BCalls prog f full args bx N Q:=
 ⟨hc,λav w0 E J O I U Y=>(h λt z es n hm=>by
  obtain⟨k,hk⟩:=oS.1 hm;rcases I.br k _ hk aB with⟨_,e1,e2⟩ | ⟨b,c,_,_,_,e,_⟩
  ·rw[e1,e2];exact oC _
  ·exact e).h av w0 E J O I U Y⟩
theorem Jh {α} p:∀(l:List α)(i:Int),(Ck p l i = -1/\∀ x∈l,p x=false)\/∃ pre x post,l=pre++x::post/\Ck p l i=i+(pre.length:Int)/\p x=true/\∀ y∈pre,p y=false
 | [],i=>.inl ⟨rfl,aB⟩
 | x :: l,i=>by
   simp only[Ck];by_cases I:p x=true
   ·exact .inr ⟨[],x,l,rfl,by simp[I],I,aB⟩
   ·rcases Jh p l (i+1)with⟨J,O⟩ | ⟨pre,y,post,J,O,U,Y⟩
    ·refine .inl ⟨by rw[if_neg I,J],λy hy=>?_⟩;rcases oK.1 hy with rfl | hy
     ·simpa using I
     ·exact O y hy
    ·refine .inr ⟨x::pre,y,post,by rw[J];rfl,by rw[if_neg I,O];simp only[oJ];omega,U,λz hz=>?_⟩;rcases oK.1 hz with rfl | hz
     ·simpa using I
     ·exact Y z hz
theorem MT s ns(I:ns.length<=4611686018427387904) ad a c:uE 274 [.str s,.pd ad 0 (.sl a 0 (zA ns) c)] (decide (s∈ns)):=λN Q J=>by refine A0 N s ad _ Q ⟨_,_,_,rfl,λN1 O=>xD ns I a c s N1 _ λN2 U _ N3 Y=>Qb (J _ aA) (Do s ns).symm⟩
theorem OK l(hl:l.length<=2199023255552) a c ad ns(hn:ns.length<=4611686018427387904) a1 c1:
  BK 285 [.sv a 0 (zA l) c,.fn 274 [.pd ad 0 (.sl a1 0 (zA ns) c1)]] (Ck (λx=>decide (x∈ns)) l 0):=λN Q hQ=>by
 have aa:=zG l;refine sI N a _ c ad _ Q λ_=>?_;refine up (xg l) aA (λi xs=>∀(N':Nat),N<=N'->(∀ N'',N'<=N''->Q (Ck (λx=>decide (x∈ns)) xs i) N'')->yH Q N a (zA l) c ad (.sl a1 0 (zA ns) c1) ((zA l).length:Int) i N') ?_ ?_ N (oC _) hQ
 ·intro i O _ N' U I;refine wX ?_;rw[O];exact λN'' h=>I _ aA
 ·intro i x xs J _ Y N' U I;have hb:=J.b;have hr:=J.r;simp only[Ck]at I;refine wX ?_;rw[J.lt,J.w,oI,hr];refine⟨⟨aA,aA⟩,x,rfl,λN1 ab=>MT x ns hn ad a1 c1 N1 _ λN2 ac _=>Br.dec (λh N3 ae=>Qi (I _ aA) (by simp[h])) λh=>Y _ aA λN'' h2=>Qi (I _ aA) (by rw[if_neg (by simpa using h)];simp)⟩
theorem Yo (done:aM) y s r:(done++y::r).set done.length s=done++s::r:=by rw[lR _ _ (oC _),Nat.sub_self];rfl
theorem MS l(hl:l.length<=2199023255552) ns(hn:ns.length<=4611686018427387904) c a1 c1 N(Q:QT [Sh.bk 0,.sl 0,.sl 0])(hQ:∀ x N',N<=N'->Q x none (zA (rI ns l)) c a1 (zA ns) c1 N'):
  BCalls prog 273 [Sh.bk 0,.sl 0,.sl 0] [.sb 0 0 0 (zA l).length c,.fn 274 [.pb 1 0 0 0]] [.arr 9 0 (zA l) c,.var [.sv a1 0 (zA ns) c1]] N Q:=by
 refine BCalls.cap (by kernel_rfl) λY=>?_;have hc:=Y _ _ _ _ (nW);have au:=zG l;refine sC N _ _ _ _ _ _ _ Q λE _ _=>⟨⟨rfl,rfl⟩,λa2 _ ad _ N1 ae _=>OK l hl a2 c ad ns hn a1 c1 N1 _ λN2 ah _=>?_⟩
 rcases Jh (λx=>decide (x∈ns)) l 0 with⟨U,h2⟩ | ⟨pre,x,post,U,h2,h3,h4⟩
 ·rw[U];refine⟨zN,⟨rfl,rfl⟩,λN3 ai=>?_⟩;have e:rI ns l=l:=by unfold rI;rw[List.filter_eq_self];intro s hs;simpa using h2 s hs
  rw[e]at hQ;exact hQ _ _ aA
 ·rw [h2,Int.zero_add];have aj:=oY List.length U;rw[oG,oJ]at aj;have aa:rI ns l=pre++rI ns post:=by rw[U];unfold rI;rw[List.filter_append,List.filter_cons_of_neg (by simpa using h3),List.filter_eq_self.2 λs hs=>by simpa using h4 s hs]
  rw [aa]at hQ;refine Br.beq (λh=>aA) λ_=>?_;rw[i64_in _ aA];have key:∀(xs done:List aG) (I:aM) (j:Int) (N':Nat),N<=N'->I≠[]->done++rI ns xs=pre++rI ns post->j=((done.length+I.length:Nat):Int)->done.length+I.length+xs.length=l.length ->
    zT E Q N (zA l).length c (done.length:Int) j (zA done++(I++zA xs)) c a1 (zA ns) c1 N':=by
   intro xs
   induction xs with
   | nil=>
     intro done I j N' ak hj hd O J;have ab:=zG done;have al:=lD.2 hj;simp only[oN,mY]at J;refine wM _ _ _ _ _ _ _ _ _ _ _ _ _ ?_;rw[nX aA];have e1:List.take (done.length:Int).toNat (List.take (0+(done.length:Int).toNat) (zA done++(I++zA []))++(List.replicate (((zA l).length:Int).toNat - (done.length:Int).toNat) (D.t (bytes []))++List.drop (0+(done.length:Int).toNat+(((zA l).length:Int).toNat - (done.length:Int).toNat)) (zA done++(I++zA []))))=zA done:=by rw[oI,nI,mv (by rw[nO,oG];omega),List.take_take,Nat.min_self,mv aA,o3 aA]
     rw[e1];simp only[rI,List.filter_nil,o8]at hd;have hd:done=pre++rI ns post:=hd;have ao:(zA done++(I++zA [])).length=l.length:=by simp[zA];omega
     refine⟨⟨aA,aA,aA,aA⟩,aA,⟨aA,aA⟩,?_,zN,⟨aA,rfl⟩,λN3 ai=>?_⟩
     ·rw[oG,nO];omega
     ·rw[hd];exact hQ _ _ aA
   | cons s xs ih=>
     intro done I j N' ak hj hd O J;have ab:=zG done;have al:=lD.2 hj;have aq:=zG (s::xs);simp only[oJ]at J aq;refine wM _ _ _ _ _ _ _ _ _ _ _ _ _ ?_;rw[nh aA];have ao:(zA done++(I++zA (s::xs))).length=l.length:=by simp only[oG];omega
     have ac:(zA done++(I++zA (s::xs))).getD (0+j.toNat) default=.t s:=by rw[O,oI,nI,oA,oU aA,oU aA];rw[show done.length+I.length - (zA done).length - I.length=0 by omega];rfl
     refine⟨⟨aA,aA,aA⟩,aA,s,ac,λad _ N1 ae _=>MT s ns hn ad a1 c1 N1 _ λN2 ah _=>Br.ndec (λh=>⟨⟨aA,aA,aA⟩,aA,?_⟩) λh=>?_⟩
     ·rw[i64_in _ aA,i64_in _ aA,nI,oI];obtain⟨y,ys,rfl⟩:=List.exists_cons_of_ne_nil hj;have e2:(zA done++(y::ys++zA (s::xs))).set done.length (.t s)=zA (done++[s])++((ys++[.t s])++zA xs):=by rw[<-ab,oq,Yo,<-uO];simp[zA]
      rw[e2]
      have:=ih (done++[s]) (ys++[.t s]) (j+1) N2 aA aB (by rw[<-hd];simp[rI,h]) (by simp only[oG,oJ,oN]at O ⊢;omega) (by simp only[oG,oJ,oN]at J ⊢;omega)
      simpa using this
     ·rw[i64_in _ aA]
      have:=ih done (I++[.t s]) (j+1) N2 aA aB (by rw[<-hd];simp[rI,h]) (by simp only[oG,oJ,oN];omega) (by simp only[oG,oJ,oN];omega)
      simpa [zA]using this
  have:=key post pre [.t x] ((pre.length:Int)+1) N2 aA aB rfl aB aF
  rw[U];rw[U]at this;simpa [zA]using this
theorem uo:∀(t:Tm)(d:D),t.Is d->t.wd<=2199023255552->XQ 256 [.dg 9 d] t.fv:=by
 refine Tm.ind λk nm ot n0 ty re l ih d hd hG N Q O=>?_;obtain⟨t0,t1,r0,r1,a,es,c,rfl,hh,U,Y⟩:=Tm.is_mk.1 hd;have hl:=Y.len;simp only[Tm.wd]at hG;refine H1 N _ Q λ_=>⟨_,rfl,Br.beq (λh1=>⟨_,rfl,⟨rfl,rfl⟩,λN1 aw=>?_⟩) λh1 N3 ax=>OM (n:=l.length) aA N3 _ λa3 c3 N4 ay _ _ _=>⟨_,_,_,rfl,?_⟩⟩
 ·have e:(Tm.mk k nm ot n0 ty re l).fv=[nm]:=by simp[Tm.fv,h1]
  rw[e]at O;exact O _ _ aA
 ·have e:(Tm.mk k nm ot n0 ty re l).fv=tv l (yZ k l.length) (bdN k nm ot l.length) 0 []:=by simp[Tm.fv,h1]
  rw[e]at O;rw[if_neg h1]at hG;have az:rX l<=2199023255552:=aA
  have a6:Bm l<=2199023255552:=aA
  have ai:=pA k nm ot l.length;generalize bdN k nm ot l.length=ns at O ai ⊢;generalize yZ k l.length=at_ at O ⊢;refine up Y U (λi xs=>∀(out:List aG) q a5 c5 N',N<=N'->out.length+rX xs<=rX l->tv xs at_ ns i out=tv l at_ ns 0 []->xM Q N at_ (zA out).length q a es c (es.length:Int) i a5 (zA ns) c5 (zA out) q N') ?_ ?_ [] 0 a3 c3 N4 aA aB rfl
  ·intro i aj hi out q a5 c5 N' ak aa he;refine rO ?_;rw[aj];simp only[tv]at he;subst he;exact⟨⟨rfl,rfl⟩,λN5 al=>O _ _ aA⟩
  ·intro i x xs I _ ab out q a5 c5 N' ak aa he;have hb:=I.b;simp only[rX]at aa;have a7:=Ap I.m;have ac:=Hv out (if(i:Int)=at_ then rI ns x.fv else x.fv);have a8:(rI ns x.fv).length<=x.fv.length:=mV _ _;refine rO ?_;rw[I.lt];refine⟨⟨aA,aA⟩,λN5 al=>?_⟩;rw[oI,I.w];refine ih x I.m _ I.r aA N5 _ λc6 N6 ba _ _=>Br.beq (λh N7 bb=>MS x.fv aA ns aA c6 a5 c5 N7 _ λx8 N8 bc _ _ _=>⟨⟨rfl,rfl⟩,λa9 _=>⟨⟨rfl,rfl⟩,λJ _ N9 ao ae=>?_⟩⟩) λh=>⟨⟨rfl,rfl⟩,λa9 _=>⟨⟨rfl,rfl⟩,λJ _ N9 ao ae=>?_⟩⟩
   ·refine rF out (rI ns x.fv) aA aA a9 J q c6 N9 _ λaq au ah _=>⟨HS _,λ_=>?_⟩
    rw[if_pos h]at ac;exact ab _ _ _ _ _ aA aA (by rw[<-he];simp only[tv];rw[if_pos h])
   ·refine rF out x.fv aA aA a9 J q c6 N9 _ λaq au ah _=>⟨HS _,λ_=>?_⟩
    rw[if_neg h]at ac;exact ab _ _ _ _ _ aA aA (by rw[<-he];simp only[tv];rw[if_neg h])
end Go.Proofs.YtlaniepnglheoaaGreatDoor
namespace Go.Proofs
namespace YtlaniepnglheoaaGreatDoor
open Go Go.Proofs Go.Proofs.Tryz Go.RowKit Go.Shelf Go.Sort Go.Lib
def itoaR:Go.Shelf.Ren:=⟨λx=>match x with | 171=>66 | 243=>133 | 246=>198 | 283=>240 | 284=>241 | 285=>242 | 286=>243 | 129=>262 | 317=>261 | 318=>263 | 319=>264 | 320=>265 | 337=>280 | 338=>281 | n=>n,λx=>match x with | 3=>3 | 9=>9 | 2=>2 | 4=>4 | 171=>191 | 0=>0 | 53=>192 | 37=>26 | 5=>5 | 173=>195 | 212=>211 | 51=>137 | 20=>20 | 213=>212 | 46=>115 | 232=>235 | 233=>236 | n=>n,λx=>match x with | 17=>4 | 18=>8 | 19=>9 | n=>n⟩
theorem itoaL:LaysM.n171 Tryz.prog itoaR where
 mixed:=by kernel_rfl
 f129:=Tryz.func262.trans (oY some (by kernel_rfl))
 f171:=Tryz.func66.trans (oY some (by kernel_rfl))
 f243:=Tryz.func133.trans (oY some (by kernel_rfl))
 f246:=Tryz.func198.trans (oY some (by kernel_rfl))
 f283:=Tryz.func240.trans (oY some (by kernel_rfl))
 f284:=Tryz.func241.trans (oY some (by kernel_rfl))
 f285:=Tryz.func242.trans (oY some (by kernel_rfl))
 f286:=Tryz.func243.trans (oY some (by kernel_rfl))
 f317:=Tryz.func261.trans (oY some (by kernel_rfl))
 f318:=Tryz.func263.trans (oY some (by kernel_rfl))
 f319:=Tryz.func264.trans (oY some (by kernel_rfl))
 f320:=Tryz.func265.trans (oY some (by kernel_rfl))
 f337:=Tryz.func280.trans (oY some (by kernel_rfl))
 f338:=Tryz.func281.trans (oY some (by kernel_rfl))
 t0:=Tryz.underlying0
 a0:=Tryz.isAgg0
 z0:=Tryz.sizeOf0
 v0:=Tryz.zeroValue0
 t2:=Tryz.underlying2
 a2:=Tryz.isAgg2
 z2:=Tryz.sizeOf2
 v2:=Tryz.zeroValue2
 t3:=Tryz.underlying3
 a3:=Tryz.isAgg3
 z3:=Tryz.sizeOf3
 v3:=Tryz.zeroValue3
 t4:=Tryz.underlying4
 a4:=Tryz.isAgg4
 z4:=Tryz.sizeOf4
 v4:=Tryz.zeroValue4
 t5:=Tryz.underlying5
 a5:=Tryz.isAgg5
 z5:=Tryz.sizeOf5
 v5:=Tryz.zeroValue5
 t9:=Tryz.underlying9
 a9:=Tryz.isAgg9
 z9:=Tryz.sizeOf9
 v9:=Tryz.zeroValue9
 t20:=Tryz.underlying20
 a20:=Tryz.isAgg20
 z20:=Tryz.sizeOf20
 v20:=Tryz.zeroValue20
 t37:=Tryz.underlying26
 a37:=Tryz.isAgg26
 z37:=Tryz.sizeOf26
 v37:=Tryz.zeroValue26
 t46:=Tryz.underlying115
 a46:=Tryz.isAgg115
 z46:=Tryz.sizeOf115
 v46:=Tryz.zeroValue115
 t51:=Tryz.underlying137
 a51:=Tryz.isAgg137
 z51:=Tryz.sizeOf137
 v51:=Tryz.zeroValue137
 t53:=Tryz.underlying192
 a53:=Tryz.isAgg192
 z53:=Tryz.sizeOf192
 v53:=Tryz.zeroValue192
 t171:=Tryz.underlying191
 a171:=Tryz.isAgg191
 z171:=Tryz.sizeOf191
 v171:=Tryz.zeroValue191
 t173:=Tryz.underlying195
 a173:=Tryz.isAgg195
 z173:=Tryz.sizeOf195
 v173:=Tryz.zeroValue195
 t212:=Tryz.underlying211
 a212:=Tryz.isAgg211
 z212:=Tryz.sizeOf211
 v212:=Tryz.zeroValue211
 t213:=Tryz.underlying212
 a213:=Tryz.isAgg212
 z213:=Tryz.sizeOf212
 t232:=Tryz.underlying235
 a232:=Tryz.isAgg235
 z232:=Tryz.sizeOf235
 v232:=Tryz.zeroValue235
 t233:=Tryz.underlying236
 a233:=Tryz.isAgg236
 z233:=Tryz.sizeOf236
 v233:=Tryz.zeroValue236
 g17:=by kernel_rfl
 g18:=by kernel_rfl
 g19:=by kernel_rfl
 i0:=by kernel_rfl
 i2:=by kernel_rfl
 i3:=by kernel_rfl
 i4:=by kernel_rfl
 i5:=by kernel_rfl
 i9:=by kernel_rfl
 i20:=by kernel_rfl
 i37:=by kernel_rfl
 i46:=by kernel_rfl
 i51:=by kernel_rfl
 i53:=by kernel_rfl
 i171:=by kernel_rfl
 i173:=by kernel_rfl
 i212:=by kernel_rfl
 i232:=by kernel_rfl
 i233:=by kernel_rfl
 m17:=by kernel_rfl
 m18:=by kernel_rfl
 m19:=by kernel_rfl
theorem Pt {w}(h : GlobIs w) : Lib.TabIs prog w "internal/strconv.uint64pow10" .u64 Lib.pow10Tab := by obtain ⟨t,fz,I⟩:=h.h _ (nW);unfold Lib.TabIs World.var?;rw [itoaL.m17];have J:w.heap[itoaR.g 17]?=some (.cells (Lib.pow10Tab.map λn=>Value.int .u64 n).toArray t fz):=I;simp only [oO,J]
theorem Zb u(h1:u<=9223372036854775807) N(Q:QT [.str])(U:∀ N',N<=N'->Q ⟨(Lib.decDigits u).toArray⟩ N'):ACalls prog 66 [.str] [.int .i64 u] N Q:=
 ⟨by kernel_rfl,λav w0 hN J _=>(Any.strconv_Itoa itoaL (u:Int) aA aA w0 (Pt J.g)).mono λe w ⟨Y,k,os,hw⟩=>by
  subst Y;subst hN;subst hw;rw[Lib.itoa_nonneg];have I:(Go.Sort.grow (w0.drewN k) os).heap.size=w0.heap.size+os.size:=by unfold Go.Sort.grow;rw[mW];rfl
  refine⟨[.str ⟨(Lib.decDigits u).toArray⟩],[],[],?_⟩;exact { q:=U _ (by rw[I];omega),v:=rfl,m:=⟨rfl,aB,aB,aB,λk j b h=>by obtain⟨_,h2,_⟩:=h;simp[Env.at]at h2⟩,ok:=λp O=>by simp at O;subst O;trivial,fresh:=λk b h=>by simp[Env.at]at h,size:=by rw[I];omega,old:=λb hb=>Array.getElem?_append_left hb,fz:=λ_ _ _ _ _ _=>trivial,ku:=⟨rfl,rfl⟩ }⟩
end YtlaniepnglheoaaGreatDoor
end Go.Proofs
namespace Go.Proofs.YtlaniepnglheoaaGreatDoor
open Go Go.Proofs Go.Proofs.Tryz Go.IntWalk
variable {I J O d:D} {N N0 N1 N2 N3 c f i j:Nat} {S:Tm->aG->Tm->Tm} {a:aH} {at_ k m n n0:Int} {e p t y:Tm} {es:aM} {fb:List aG} {l:aP} {re ty:Ty} {s x:aG}
def xX f args s:=∀(N:Nat) (Q:QT [.str]),(∀ N',N<=N'->Q s N')->ACalls prog f [.str] args N Q
theorem Qst {Q:QT [.str]}{a b}(h:Q a N)(e:a=b):Q b N:=e ▸ h
def Rx (u:Nat):aG:=⟨(Lib.decDigits u).toArray⟩
theorem EJ u(h:u<=4611686018427387904):Lib.nDigits u<=20:=by
 by_cases I:1<=u
 ·have:=Lib.numDigits_eq u I aA;split at this<;>omega
 ·rw[Lib.nDigits_small aA];omega
theorem Cg u:(Rx u).size=Lib.nDigits u:=by show(Lib.decDigits u).toArray.size=_;rw[ny,Lib.decDigits_length]
theorem yA {a b:aG}(h:a.data.toList=b.data.toList):a=b:=by cases a;cases b;simp at h;rw[h]
theorem zV (a b:aG):(a++b).data.toList=a.data.toList++b.data.toList:=aB
theorem Qm k:bytes [118]++Rx k=sA k:=yA (by rw[zV];rfl)
theorem Rn k(h:k<=4611686018427387904):(sA k).size<=21:=by
 have:=EJ k h
 show(118::Lib.decDigits k).toArray.size<=21;rw[ny,oJ,Lib.decDigits_length];omega
theorem um (u:Nat)(h:u<=4611686018427387904):xX 30 [.j u] (Rx u):=λN Q I=>FY N u Q λN1 J=>Zb u aA N1 _ λN2 O _ N3 U=>I _ aA
theorem VJ (m:Nat) s(hs:∀ u,u<10->Lib.decDigits u=[UInt8.ofNat (48+u)]):(bytesOf [IntKind.u8.wrap (IntKind.i64.wrap (48+Int.tmod (m:Int) 10))]++s).data.toList=UInt8.ofNat (48+m % 10)::s.data.toList:=by
 rw[zV];have e:IntKind.u8.wrap (IntKind.i64.wrap (48+Int.tmod (m:Int) 10))=((48+m % 10:Nat):Int):=by
  have:Int.tmod (m:Int) 10=((m % 10:Nat):Int):=by rw[nu aA];omega
  rw[this,i64_in _ aA,IntKind.wrap_u8];omega
 rw[e];have I:bytesOf [((48+m % 10:Nat):Int)]=⟨#[UInt8.ofNat (48+m % 10)]⟩:=rfl;rw[I];rfl
theorem xe (u:Nat)(h:u<=4611686018427387904):xX 22 [.j u] (Rx u):=λN Q hQ=>by
 have e1:∀ u,u<10->Lib.decDigits u=[UInt8.ofNat (48+u)]:=λu h=>by rw[Lib.decDigits,dif_pos h]
 have e2:∀ u,¬u<10->Lib.decDigits u=Lib.decDigits (u / 10)++[UInt8.ofNat (48+u % 10)]:=λu h=>by rw[Lib.decDigits,dif_neg h]
 refine qj N u Q (Br.beq (λh0 N1 Y=>?_) λh0=>?_)
 ·have:u=0:=aA
  subst this;refine Qst (hQ _ Y) (yA ?_);show Lib.decDigits 0=[48];rw[e1 0 aA];rfl
 ·rw [nX aA]
  have key:∀(m:Nat) (s:aG),m<=u->s.size+Lib.nDigits m<=20\/(m=0/\s.size<=20)->(if m=0 then []else Lib.decDigits m)++s.data.toList=Lib.decDigits u->zk Q N m false s N:=by
   intro m
   induction m using Nat.strongRecOn with
   | _ m ih=>
     intro s hm O he;refine vk ?_;refine Br.bne (λI=>?_) λI=>?_
     ·have I:m≠0:=aA
      have ht:Int.tmod (m:Int) 10=((m % 10:Nat):Int):=by rw[nu aA];omega
      have hd:Int.tdiv (m:Int) 10=((m / 10:Nat):Int):=by rw[Int.tdiv_eq_ediv_of_nonneg aA];omega
      have O:s.size+Lib.nDigits m<=20:=by rcases O with U | ⟨U,_⟩;exact U;exact absurd U I
      refine⟨aA,?_⟩;rw[nX aA];refine⟨aB,[IntKind.u8.wrap (IntKind.i64.wrap (48+Int.tmod (m:Int) 10))],rfl,?_,aA,?_⟩
      ·have:(bytesOf [IntKind.u8.wrap (IntKind.i64.wrap (48+Int.tmod (m:Int) 10))]).size=1:=rfl;omega
      ·rw[hd,i64_in _ aA];refine ih (m / 10) aA _ aA ?_ ?_
       ·have U:(bytesOf [IntKind.u8.wrap (IntKind.i64.wrap (48+Int.tmod (m:Int) 10))]++s).size=1+s.size:=by rw[oE];rfl
        by_cases J:m<10
        ·right
         have:=Lib.nDigits_pos m
         exact⟨aA,aA⟩
        ·left
         have:=Lib.nDigits_big J
         omega
       ·rw[VJ m s e1,<-he,if_neg I];by_cases J:m<10
        ·rw[if_pos aA,e1 m J,show m % 10=m by omega];rfl
        ·rw[if_neg aA,e2 m J];simp
     ·have:m=0:=aA
      subst this;refine λN2 aa=>Qst (hQ _ aa) (yA ?_);rw[if_pos rfl]at he;exact he.symm
  refine key u (bytes []) (oC _) (.inl ?_) ?_
  ·have:=EJ u h
   show 0+_<=_;omega
  ·rw[if_neg aA];exact o8 _
theorem Jf l(P:Nat->Nat->Prop) N(F:aG->Nat->Prop)(hF:∀ N',N<=N'->F (fresh l) N')(step:∀(k N':Nat),N<=N'->k<=l.length+1->(∀ N'',N'<=N''->sA k∈l->P (k+1) N'')->(∀ N'',N'<=N''->sA k∉l->F (sA k) N'')->P k N'):P 1 N:=by
 have key:∀(f k:Nat) (N':Nat),N<=N'->1<=k->k+f=l.length+1->(∀ j,1<=j->j<k->sA j∈l)->pK f k l=pK l.length 1 l->P k N':=by
  intro f
  induction f with
  | zero=>
    intro k N' J aa ab I O;refine step k N' J aA (λN'' Y U=>?_) λN'' Y U=>?_
    ·exfalso
     have:=XM l (k+1) (λj h4 h5=>by
      by_cases h6:j=k
      ·subst h6;exact U
      ·exact I j h4 aA) aA
     omega
    ·have:=hF N'' aA
     unfold fresh at this;rw[<-O]at this;exact this
  | succ f ih=>
    intro k N' J aa ab I O;simp only[pK]at O;refine step k N' J aA (λN'' Y U=>?_) λN'' Y U=>?_
    ·rw[if_pos U]at O;exact ih (k+1) N'' aA aA aA (λj h4 h5=>by
      by_cases h6:j=k
      ·subst h6;exact U
      ·exact I j h4 aA) O
    ·rw[if_neg U]at O
     have:=hF N'' aA
     unfold fresh at this;rw[<-O]at this;exact this
 exact key l.length 1 N (oC _) (oC _) aA (λj Y h2=>aA) rfl
theorem FP l(hl:l.length<=8796093022208) a c:xX 246 [.sv a 0 (zA l) c] (fresh l):=λN Q O=>by
 refine Fl N a _ c Q λ_=>?_;refine Jf l (λk N'=>xm Q N a (zA l) c k N') N (λs N'=>Q s N') O λk N' U hk J I=>?_;have Y:=EJ k aA;have aa:=Cg k;refine Cn λN1 ab=>xe k aA N1 _ λN2 ac _=>⟨aA,λN3 ae=>?_⟩
 rw[Qm];refine xi l aA a c (sA k) N3 _ λN4 ah _=>?_;simp only[G6];refine Br.dec (λh N5 ai=>I _ aA h) λh=>?_;rw[i64_in _ aA];exact J _ aA (mS.1 h)
theorem FM l(hl:l.length<=8796093022208) a c:xX 276 [.sv a 0 (zA l) c] (fresh l):=λN Q O=>by
 refine FZ N a _ c Q λ_ N1 U=>Nl N1 _ a _ c _ λ_=>?_;refine Jf l (λk N'=>uR _ N1 (bytes [118]) a (zA l) c k N') N1 (λs N'=>∀ N'',N'<=N''->Q s N'') (λN' h N'' h2=>O _ aA) λk N' Y hk J I=>?_;have aa:=EJ k aA;have ab:=Cg k;have hb:(bytes [118]).size=1:=rfl;refine Im λN2 ac=>um k aA N2 _ λN3 ae _=>⟨aA,λN4 ah=>?_⟩
 rw[Qm];refine xD l aA a c (sA k) N4 _ λN5 ai _=>?_;rw[Do];refine Br.ndec (λh N6 aj=>?_) λh=>?_
 ·exact λ_ N7 ak=>I N7 aA h _ (oC _)
 ·rw[i64_in _ aA];exact J _ aA h
theorem wO {n}(h:¬yZ k n<0):(yZ k n).toNat<n/\((yZ k n).toNat:Int)=yZ k n:=by
 rcases uF k n with I | ⟨I,J,_⟩ | ⟨I,J,_⟩
 ·omega
 ·rw[I];subst J;exact⟨aD,rfl⟩
 ·rw[I];subst J;exact⟨aD,rfl⟩
theorem zh (h:i<l.length):l[i]?=some (l.getD i tm0):=by rw[oA,oH h];rfl
theorem UQ:∀(f:Nat)(e:Tm)(x:aG)(b:Tm),x∉e.fv->e.sub f x b=e
 | 0,e,x,b,_=>rfl
 | f + 1,.mk k nm ot n ty re l,x,b,h=>by
   rw[Tm.fv_mem]at h;simp only[not_or,not_and,not_exists]at h;obtain⟨h1,Y⟩:=h;simp only[Tm.sub];have part:k≠1->∀(j:Nat) (y:Tm),l[j]?=some y->(j:Int)≠yZ k l.length->y.sub f x b=y:=λI j y J O=>by
    refine UQ f y x b λhc=>?_
    have:=Y I j y J
    unfold fvI at this;rw[if_neg O]at this;exact this hc
   split
   ·rename_i I;rw[if_neg (λhc=>h1 I hc.symm)]
   ·rename_i I;split
    ·rename_i hb;congr 1;refine(nF λy hy=>?_).trans (lV l);obtain⟨j,J⟩:=oS.1 hy;exact part I j y J aA
    ·rename_i hb;obtain⟨U,g2⟩:=wO hb;split
     ·congr 1;apply nL;intro i;rw[nU];split
      ·rename_i hi;subst hi;rw[if_pos (by simpa using U),zh U]
      ·rename_i hi;rw[oF];cases hl:l[i]? with
       | none=>rfl
       | some y=>simp only[oX];rw[part I i y hl aA]
     ·rename_i hc;exfalso;simp only[not_or,mS]at hc
      have:=Y I _ _ (zh U)
      unfold fvI at this;rw[if_pos g2,tD]at this;exact this ⟨hc.2,hc.1⟩
mutual
def Tm.V:Tm->Prop
 | .mk k _ _ _ _ _ l=>(k=1->l=[])/\XK l
def XK:aP->Prop
 | []=>True
 | t::ts=>t.V/\XK ts
end
theorem si:∀ {l:aP},XK l↔∀ x∈l,x.V
 | []=>by simp[XK]
 | t::ts=>by simp only[XK,si (l:=ts),oK,mc]
theorem sg:∀ {l:aP}{n:Nat},uh l<=n↔∀ x∈l,x.dp<=n
 | [],n=>by simp[uh]
 | t::ts,n=>by simp only[uh,Nat.max_le,sg (l:=ts),oK,mc]
structure LeT (t' t:Tm):Prop where
 c:t'.vc<=t.vc
 d:t'.dp<=t.dp
 v:t.V->t'.V
 g:t.G->t'.G
 s:t'.sz<=t.sz
 n:t'.cnt<=t.cnt
theorem LeT.rfl:LeT t t:=⟨oC _,oC _,id,id,oC _,oC _⟩
theorem LeT.trans {a b c}(h:LeT a b)(I:LeT b c):LeT a c:=⟨oR h.c I.c,oR h.d I.d,λJ=>h.v (I.v J),λJ=>h.g (I.g J),oR h.s I.s,oR h.n I.n⟩
theorem Py:∀ {l' l:aP},l'.length=l.length->(∀(i:Nat)(t' t:Tm),l'[i]?=some t'->l[i]?=some t->LeT t' t)->Az l'<=Az l/\uh l'<=uh l/\(XK l->XK l')/\(Qa l->Qa l')/\zQ l'<=zQ l/\xC l'<=xC l
 | [],[],_,_=>⟨oC _,oC _,id,id,oC _,oC _⟩
 | [],_::_,h,_=>by simp at h
 | _::_,[],h,_=>by simp at h
 | t'::O,t::ts,h,U=>by
   obtain⟨h1,h2,Y,h4,h5,h6⟩:=Py (l':=O) (l:=ts) (by simpa using h) λi a b ha hb=>U (i+1) a b (by simpa using ha) (by simpa using hb);have I:=U 0 t' t aB aB
   have:=I.c
   have:=I.d
   have:=I.s
   have:=I.n
   refine⟨by simp only[Az];omega,by simp only[uh];omega,λJ=>⟨I.v J.1,Y J.2⟩,λJ=>⟨I.g J.1,h4 J.2⟩,by simp only[zQ];omega,by simp only[xC];omega⟩
theorem EP {g:Tm->Tm}{v t'}(h:((l.map g).set j v)[i]?=some t')(J:l[i]?=some t):(i=j/\t'=v)\/(i≠j/\t'=g t):=by
 rw[nU]at h;split at h
 ·rename_i I;split at h
  ·exact .inl ⟨I.symm,(oZ h).symm⟩
  ·cases h
 ·rename_i I;rw[oF,J]at h;exact .inr ⟨λhc=>I hc.symm,(oZ h).symm⟩
theorem TJ {nm ot J O l'}(U:k≠1)(h:l'.length=l.length)(Y:∀(i:Nat)(t' t:Tm),l'[i]?=some t'->l[i]?=some t->LeT t' t):LeT (.mk k J O n ty re l') (.mk k nm ot n ty re l):=by obtain⟨h1,h2,h3,h4,h5,h6⟩:=Py h Y;exact⟨by simp only[Tm.vc,if_neg U];omega,by simp only[Tm.dp];omega,λI=>⟨λhc=>absurd hc U,h3 I.2⟩,λI=>⟨I.1,I.2.1,h ▸ I.2.2.1,h4 I.2.2.2⟩,by simp only[Tm.sz];omega,by simp only[Tm.cnt];omega⟩
theorem LJ (I:∀ t x y,LeT (S t x (ri y)) t) k n fb x old(s:aG × aG × Tm):LeT (rn1 S k n fb x old s).2.2 s.2.2:=by
 unfold rn1;split
 ·split
  ·exact I _ _ _
  ·exact I _ _ _
 ·exact LeT.rfl
theorem AG (I:∀ t x y,LeT (S t x (ri y)) t) k n fb x:∀(l:List aG)(s:aG × aG × Tm),LeT (rns S k n fb x l s).2.2 s.2.2
 | [],s=>LeT.rfl
 | old::l,s=>(AG I k n fb x l _).trans (LJ I k n fb x old s)
theorem tq:∀(f:Nat)(t:Tm)(x y:aG),LeT (t.sub f x (ri y)) t
 | 0,t,x,y=>by simp only[Tm.sub];exact LeT.rfl
 | f + 1,.mk k nm ot n ty re l,x,y=>by
   have U:=tq f;simp only[Tm.sub];split
   ·rename_i Y;split
    ·exact⟨by simp only[ri,Tm.vc,if_pos Y,mI];exact oC _,by simp only[ri,Tm.dp,uh];omega,λ_=>⟨λ_=>rfl,trivial⟩,λ_=>by simp[ri,Tm.G,Qa,Ty.cnt,zI],by simp only[ri,Tm.sz,zQ];omega,by have:=Ty.cnt_pos ty;have:=Ty.cnt_pos re;simp only[ri,Tm.cnt,xC,Ty.cnt,zI];omega⟩
    ·exact LeT.rfl
   ·rename_i Y;split
    ·refine TJ Y aB λi t' t I J=>?_;rw[oF,J]at I;cases I;exact U t x y
    ·rename_i hb;obtain⟨g1,g2⟩:=wO hb;split
     ·refine TJ Y aB λi t' t I J=>?_;rcases EP I J with⟨h1,O⟩ | ⟨h1,O⟩
      ·rw[h1,zh g1]at J;rw[O,<-oZ J];exact LeT.rfl
      ·rw[O];exact U t x y
     ·refine TJ Y aB λi t' t I J=>?_;rcases EP I J with⟨h1,O⟩ | ⟨h1,O⟩
      ·rw[h1,zh g1]at J;rw[O,<-oZ J];exact(U _ x y).trans (AG U _ _ _ _ _ _)
      ·rw[O];exact U t x y
theorem WM:∀(f:Nat) (t:Tm) (x:aG) (b:Tm),t.G->b.G->(t.sub f x b).G
 | 0,t,x,b,h,_=>by simp only[Tm.sub];exact h
 | f + 1,.mk k nm ot n ty re l,x,b,h,hb=>by
   have I:=WM f;obtain⟨U,Y,h3,h4⟩:=h;have vG:∀ y,(ri y).G:=λy=>by simp[ri,Tm.G,Qa,Ty.cnt,zI]
   simp only[Tm.sub];split
   ·split
    ·exact hb
    ·exact⟨U,Y,h3,h4⟩
   ·split
    ·refine⟨U,Y,by simpa using h3,EQ λy J=>?_⟩;obtain⟨z,hz,rfl⟩:=oT.1 J;exact I z x b (z8 h4 hz) hb
    ·rename_i aa;obtain⟨g1,g2⟩:=wO aa;have O:=z8 h4 (oB (zh g1));have key:∀ v:Tm,v.G->Qa ((l.map λt=>Tm.sub f t x b).set (yZ k l.length).toNat v):=λv hv=>EQ λy J=>by
      rcases nQ J with J | rfl
      ·obtain⟨z,hz,rfl⟩:=oT.1 J;exact I z x b (z8 h4 hz) hb
      ·exact hv
     split
     ·exact⟨U,Y,by simpa using h3,key _ O⟩
     ·refine⟨U,Y,by simpa using h3,key _ (I _ x b ?_ hb)⟩;have r1:∀(old:aG) (s:aG × aG × Tm),s.2.2.G->(rn1 (Tm.sub f) k l.length b.fv x old s).2.2.G:=λold s hs=>by
       unfold rn1;split
       ·split
        ·exact I _ _ _ hs (vG _)
        ·exact I _ _ _ hs (vG _)
       ·exact hs
      have rs:∀(ns:List aG) (s:aG × aG × Tm),s.2.2.G->(rns (Tm.sub f) k l.length b.fv x ns s).2.2.G:=by
       intro ns
       induction ns with
       | nil=>exact λs hs=>hs
       | cons o os ab=>exact λs hs=>ab _ (r1 o s hs)
      exact rs _ _ O
theorem Yr:∀(f:Nat)(t:Tm)(x:aG)(b:Tm),t.V->b.V->(t.sub f x b).V
 | 0,t,x,b,h,_=>by simp only[Tm.sub];exact h
 | f + 1,.mk k nm ot n ty re l,x,b,h,hb=>by
   have Y:=Yr f;obtain⟨h1,J⟩:=h;have J:=si.1 J;simp only[Tm.sub];split
   ·split
    ·exact hb
    ·exact⟨h1,si.2 J⟩
   ·rename_i hk;have I:∀ l':aP,k=1->l'=[]:=λ_ hc=>absurd hc hk;split
    ·refine⟨I _,si.2 λy O=>?_⟩;obtain⟨z,hz,rfl⟩:=oT.1 O;exact Y z x b (J z hz) hb
    ·rename_i aa;obtain⟨g1,g2⟩:=wO aa;have U:=J _ (oB (zh g1));have key:∀ v:Tm,v.V->XK ((l.map λt=>Tm.sub f t x b).set (yZ k l.length).toNat v):=λv hv=>si.2 λy O=>by
      rcases nQ O with O | rfl
      ·obtain⟨z,hz,rfl⟩:=oT.1 O;exact Y z x b (J z hz) hb
      ·exact hv
     split
     ·exact⟨I _,key _ U⟩
     ·exact⟨I _,key _ (Y _ x b ((AG (tq f) _ _ _ _ _ _).v U) hb)⟩
theorem Dp {nm ot n z}:z∈bdN k nm ot n↔(k=6/\n=1\/k=8/\n=2\/k=9/\n=1)/\z=nm\/(k=9/\n=1)/\z=ot:=by
 unfold bdN;by_cases I:k=6/\n=1
 ·rw[if_pos I];simp[I.1,I.2]
 ·rw[if_neg I];by_cases J:k=8/\n=2
  ·rw[if_pos J];simp[J.1,J.2]
  ·rw[if_neg J];by_cases O:k=9/\n=1
   ·rw[if_pos O];simp[O.1,O.2]
   ·rw[if_neg O];simp[I,J,O]
def FvS f:=∀(t:Tm) (x:aG) (b:Tm),t.dp<=f->∀ s∈(t.sub f x b).fv,(s∈t.fv/\s≠x)\/(s∈b.fv/\x∈t.fv)
theorem T9 (Y:FvS f){n old}{s:aG × aG × Tm}(hd:s.2.2.dp<=f)(hk:k=6/\n=1\/k=8/\n=2\/k=9/\n=1)(J:old=s.1\/(k=9/\n=1)/\old=s.2.1):
  ∀ z∈(rn1 (Tm.sub f) k n fb x old s).2.2.fv,z∉bdN k (rn1 (Tm.sub f) k n fb x old s).1 (rn1 (Tm.sub f) k n fb x old s).2.1 n->z∈s.2.2.fv/\z∉bdN k s.1 s.2.1 n:=by
 intro z;unfold rn1;by_cases h1:old∈fb
 ·rw [if_pos h1];by_cases U:s.1=old
  ·rw[if_pos U];simp only;intro O I;rcases Y _ _ _ hd z O with⟨a1,a2⟩ | ⟨a1,_⟩
   ·refine⟨a1,λhc=>?_⟩;rcases Dp.1 hc with⟨_,c1⟩ | ⟨c0,c1⟩
    ·exact a2 (c1.trans U)
    ·exact I (Dp.2 (.inr ⟨c0,c1⟩))
   ·rw[PQ,oi]at a1;exact absurd (Dp.2 (.inl ⟨hk,a1⟩)) I
  ·rw[if_neg U];simp only;intro O I;rcases J with J | ⟨h9,J⟩
   ·exact absurd J.symm U
   ·rcases Y _ _ _ hd z O with⟨a1,a2⟩ | ⟨a1,_⟩
    ·refine⟨a1,λhc=>?_⟩;rcases Dp.1 hc with⟨c0,c1⟩ | ⟨_,c1⟩
     ·exact I (Dp.2 (.inl ⟨c0,c1⟩))
     ·exact a2 (c1.trans J.symm)
    ·rw[PQ,oi]at a1;exact absurd (Dp.2 (.inr ⟨h9,a1⟩)) I
 ·rw[if_neg h1];exact λO I=>⟨O,I⟩
theorem Yh {n}{s:aG × aG × Tm}:(rn1 S k n fb x s.1 s).2.1=s.2.1:=by
 unfold rn1;split
 ·rw[if_pos rfl]
 ·rfl
theorem Yi (hS:FvS f){n nm ot}(hd:p.dp<=f)(J:k=6/\n=1\/k=8/\n=2\/k=9/\n=1):
  ∀ z∈(rns (Tm.sub f) k n fb x (bdN k nm ot n) (nm,ot,p)).2.2.fv,z∉bdN k (rns (Tm.sub f) k n fb x (bdN k nm ot n) (nm,ot,p)).1 (rns (Tm.sub f) k n fb x (bdN k nm ot n) (nm,ot,p)).2.1 n->z∈p.fv/\z∉bdN k nm ot n:=by
 have one:=T9 hS (fb:=fb) (x:=x) (old:=nm) (s:=(nm,ot,p)) hd J (.inl rfl);by_cases I:k=9/\n=1
 ·have e:bdN k nm ot n=[nm,ot]:=by rw[I.1,I.2];rfl
  intro z;rw[e];simp only[rns];have O:(rn1 (Tm.sub f) k n fb x nm (nm,ot,p)).2.2.dp<=f:=oR (LJ (tq f) k n fb x nm (nm,ot,p)).d hd;have U:=T9 hS (fb:=fb) (x:=x) (old:=ot) (s:=rn1 (Tm.sub f) k n fb x nm (nm,ot,p)) O J (.inr ⟨I,(Yh (s:=(nm,ot,p))).symm⟩);intro Y hn;obtain⟨a1,a2⟩:=U z Y hn
  have:=one z a1 a2
  rwa[e]at this
 ·have e:bdN k nm ot n=[nm]:=by
   unfold bdN;by_cases h6:k=6/\n=1
   ·rw[if_pos h6]
   ·rw[if_neg h6,if_pos (by rcases J with h | h | h;exact absurd h h6;exact h;exact absurd h I)]
  intro z;rw[e];simp only[rns];intro Y hn
  have:=one z Y hn
  rwa[e]at this
theorem SB {n}(h:¬yZ k n<0):k=6/\n=1\/k=8/\n=2\/k=9/\n=1:=by
 rcases uF k n with J | ⟨J,I,h3 | h3⟩ | ⟨J,I,h3⟩
 ·omega
 ·exact .inl ⟨h3,I⟩
 ·exact .inr (.inr ⟨h3,I⟩)
 ·exact .inr (.inl ⟨h3,I⟩)
theorem Og (I:k≠1){nm ot}(J:l[j]?=some p)(hs:s∈fvI (yZ k l.length) (bdN k nm ot l.length) j p):s∈(Tm.mk k nm ot n ty re l).fv:=
 Tm.fv_mem.2 (.inr ⟨I,j,p,J,hs⟩)
theorem Bf {ns x}(h:(i:Int)≠at_):fvI at_ ns i x=x.fv:=if_neg h
theorem Pq {ns x}(h:(i:Int)=at_):fvI at_ ns i x=rI ns x.fv:=if_pos h
theorem S6:∀ f,FvS f
 | 0=>λt x b hd=>absurd (Tm.dp_pos t) aA
 | f + 1 => λt x b hd s=>by
   have ih:=S6 f;cases t with
   | mk k nm ot n ty re l=>
   simp only[Tm.dp]at hd;have hp:∀ y∈l,y.dp<=f:=λy I=>oR (uM I) aA;simp only[Tm.sub];split
   ·rename_i J;split
    ·rename_i hn;intro hs;exact .inr ⟨hs,by simp[Tm.fv,J,hn]⟩
    ·rename_i hn;intro hs;simp only[Tm.fv,if_pos J,oi]at hs ⊢;exact .inl ⟨hs,λhc=>hn (hs ▸ hc)⟩
   ·rename_i J;split
    ·rename_i hb;intro hs;rcases Tm.fv_mem.1 hs with⟨h,_⟩ | ⟨_,j,y,O,I⟩
     ·exact absurd h J
     ·rw[nE,Bf aA]at I;rw[oF]at O;obtain⟨z,hz,rfl⟩:=nN.1 O;have hm:=oB hz;rcases ih z x b (hp z hm) s I with⟨a1,a2⟩ | ⟨a1,a2⟩
      ·exact .inl ⟨Og J hz (by rw[Bf aA];exact a1),a2⟩
      ·exact .inr ⟨a1,Og J hz (by rw[Bf aA];exact a2)⟩
    ·rename_i hb;obtain⟨g1,g2⟩:=wO hb;have U:=zh g1;have ah:=SB hb;have aa:∀(v:Tm) (j:Nat) (y:Tm),j≠(yZ k l.length).toNat->((l.map λt=>Tm.sub f t x b).set (yZ k l.length).toNat v)[j]?=some y->s∈y.fv->(s∈(Tm.mk k nm ot n ty re l).fv/\s≠x)\/(s∈b.fv/\x∈(Tm.mk k nm ot n ty re l).fv):=by
      intro v j y ak O I;rw[nH aA,oF]at O;obtain⟨z,hz,rfl⟩:=nN.1 O;have hm:=oB hz;rcases ih z x b (hp z hm) s I with⟨a1,a2⟩ | ⟨a1,a2⟩
      ·exact .inl ⟨Og J hz (by rw[Bf aA];exact a1),a2⟩
      ·exact .inr ⟨a1,Og J hz (by rw[Bf aA];exact a2)⟩
     split
     ·rename_i hx;intro hs;rcases Tm.fv_mem.1 hs with⟨h,_⟩ | ⟨_,j,y,O,I⟩
      ·exact absurd h J
      ·rw[nf,nE]at I;by_cases Y:j=(yZ k l.length).toNat
       ·subst Y;rw[nD (by simpa using g1)]at O;cases O;refine .inl ⟨Og J U I,?_⟩;rw[Pq g2,tD]at I
        rintro rfl
        rcases hx with hx | hx
        ·exact I.2 hx
        ·exact hx I.1
       ·rw[Bf aA]at I;exact aa _ j y Y O I
     ·rename_i hx;have ai:x∉bdN k nm ot l.length:=λh=>hx (.inl h);have ab:x∈(l.getD (yZ k l.length).toNat tm0).fv:=mS.1 λh=>hx (.inr h);generalize l.getD (yZ k l.length).toNat tm0=p at U ab;have ac:=hp p (oB U);have hR:=Yi ih (fb:=b.fv) (x:=x) (nm:=nm) (ot:=ot) ac ah;have ae:=AG (tq f) k l.length b.fv x (bdN k nm ot l.length) (nm,ot,p);generalize rns (Tm.sub f) k l.length b.fv x (bdN k nm ot l.length) (nm,ot,p)=T at hR ae;have aj:T.2.2.dp<=f:=oR ae.d ac;intro hs;rcases Tm.fv_mem.1 hs with⟨h,_⟩ | ⟨_,j,y,O,I⟩
      ·exact absurd h J
      ·rw[nf,nE]at I;by_cases Y:j=(yZ k l.length).toNat
       ·subst Y;rw[nD (by simpa using g1)]at O;cases O;rw[Pq g2,tD]at I;rcases ih T.2.2 x b aj s I.1 with⟨a1,a2⟩ | ⟨a1,_⟩
        ·obtain⟨c1,c2⟩:=hR s a1 I.2;exact .inl ⟨Og J U (by rw[Pq g2];exact tD.2 ⟨c1,c2⟩),a2⟩
        ·exact .inr ⟨a1,Og J U (by rw[Pq g2];exact tD.2 ⟨ab,ai⟩)⟩
       ·rw[Bf aA]at I;exact aa _ j y Y O I
theorem X6 {y}(hd:t.dp<=f):(t.sub f x (ri y)).fv.length<=t.fv.length:=by
 by_cases I:x∈t.fv
 ·have J:=K5 (Tm.fv_nodup (t.sub f x (ri y))) (m:=y::t.fv.filter λz=>decide (z≠x)) λs hs=>by
   rcases S6 f t x (ri y) hd s hs with⟨a1,a2⟩ | ⟨a1,_⟩
   ·exact nj _ (mM.2 ⟨a1,by simp[a2]⟩)
   ·rw[PQ,oi]at a1;rw[a1];exact nW
  have O:=mz (p:=λz=>decide (z≠x)).2 ⟨x,I,aB⟩;simp only[oJ]at J;omega
 ·rw[UQ f t x _ I];exact oC _
theorem X5 {b}(hd:t.dp<=f):(t.sub f x b).fv.length<=t.fv.length+b.fv.length:=by
 have I:=K5 (Tm.fv_nodup (t.sub f x b)) (m:=t.fv++b.fv) λs hs=>by
  rcases S6 f t x b hd s hs with⟨a1,_⟩ | ⟨a1,_⟩
  ·exact o5 _ a1
  ·exact nS _ a1
 simpa using I
structure LeW (t' t:Tm):Prop where
 le:LeT t' t
 w:t'.wd<=t.wd
 l:t'.fv.length<=t.fv.length
theorem LeW.rfl:LeW t t:=⟨LeT.rfl,oC _,oC _⟩
theorem LeW.trans {a b c}(h:LeW a b)(I:LeW b c):LeW a c:=⟨h.le.trans I.le,oR h.w I.w,oR h.l I.l⟩
theorem Uc {m n}:∀ {l' l:aP},l'.length=l.length->(∀(i:Nat)(t' t:Tm),l'[i]?=some t'->l[i]?=some t->t'.wd<=t.wd+n/\t'.fv.length<=t.fv.length+m)->Bm l'<=Bm l+n/\rX l'<=rX l+l.length*m
 | [],[],_,_=>⟨by simp[Bm],by simp[rX]⟩
 | [],_::_,h,_=>by simp at h
 | _::_,[],h,_=>by simp at h
 | t'::I,t::ts,h,J=>by obtain⟨U,Y⟩:=Uc (m:=m) (n:=n) (l':=I) (l:=ts) (by simpa using h) λi a b O hb=>J (i+1) a b (by simpa using O) (by simpa using hb);obtain⟨h3,h4⟩:=J 0 t' t aB aB;refine⟨by simp only[Bm];omega,?_⟩;simp only[rX,oJ,nJ];omega
theorem Yg (I:∀ t x y,t.dp<=f->LeW (t.sub f x (ri y)) t) k n fb x old(s:aG × aG × Tm)(hd:s.2.2.dp<=f):LeW (rn1 (Tm.sub f) k n fb x old s).2.2 s.2.2:=by
 unfold rn1;split
 ·split
  ·exact I _ _ _ hd
  ·exact I _ _ _ hd
 ·exact LeW.rfl
theorem PA (I:∀ t x y,t.dp<=f->LeW (t.sub f x (ri y)) t) k n fb x:∀(l:List aG)(s:aG × aG × Tm),s.2.2.dp<=f->LeW (rns (Tm.sub f) k n fb x l s).2.2 s.2.2
 | [],s,_=>LeW.rfl
 | old::l,s,hd=>by have J:=Yg I k n fb x old s hd;exact(PA I k n fb x l _ (oR J.le.d hd)).trans J
theorem zAM {P:Tm->Prop}(I:∀ t x y,P t->P (t.sub f x (ri y))) k n fb x:∀(l:List aG)(s:aG × aG × Tm),P s.2.2->P (rns (Tm.sub f) k n fb x l s).2.2
 | [],s,h=>h
 | old::l,s,h=>by
   refine zAM I k n fb x l _ ?_;unfold rn1;split
   ·split
    ·exact I _ _ _ h
    ·exact I _ _ _ h
   ·exact h
theorem Ub {P:Tm->Prop}(hP:∀ t x y,P t->P (t.sub f x (ri y))){b m n}(ab:∀ t:Tm,t.dp<=f->P t->(t.sub f x b).wd<=t.wd+n/\(t.sub f x b).fv.length<=t.fv.length+m)(hv:∀ t x y,t.dp<=f->LeW (t.sub f x (ri y)) t){nm ot}(hk:k≠1)(hd:∀ y∈l,y.dp<=f)(hp:∀ y∈l,P y):((Tm.mk k nm ot n0 ty re l).sub (f+1) x b).wd<=max (rX l+l.length*m) (Bm l+n):=by
 have fin:∀(ac ae:aG) (l':aP),l'.length=l.length->(∀(i:Nat) (t' t:Tm),l'[i]?=some t'->l[i]?=some t->t'.wd<=t.wd+n/\t'.fv.length<=t.fv.length+m)->(Tm.mk k ac ae n0 ty re l').wd<=max (rX l+l.length*m) (Bm l+n):=λac ae l' Y O=>by obtain⟨a1,a2⟩:=Uc Y O;simp only[Tm.wd,if_neg hk];omega
 have at_:∀ {i:Nat} {t:Tm},l[i]?=some t->(t.sub f x b).wd<=t.wd+n/\(t.sub f x b).fv.length<=t.fv.length+m:=λh=>ab _ (hd _ (oB h)) (hp _ (oB h));simp only[Tm.sub];rw[if_neg hk];split
 ·refine fin _ _ _ aB λi t' t I J=>?_;rw[oF,J]at I;cases I;exact at_ J
 ·rename_i hb;obtain⟨g1,g2⟩:=wO hb;have U:=zh g1;split
  ·refine fin _ _ _ aB λi t' t I J=>?_;rcases EP I J with⟨Y,O⟩ | ⟨Y,O⟩
   ·rw[Y,U]at J;rw[O,<-oZ J];exact⟨aA,aA⟩
   ·rw[O];exact at_ J
  ·have ah:=hd _ (oB U);have aa:=PA hv k l.length b.fv x (bdN k nm ot l.length) (nm,ot,l.getD (yZ k l.length).toNat tm0) ah;refine fin _ _ _ aB λi t' t I J=>?_;rcases EP I J with⟨Y,O⟩ | ⟨Y,O⟩
   ·rw[Y,U]at J;rw[O,<-oZ J];obtain⟨c1,c2⟩:=ab _ (oR aa.le.d ah) (zAM hP _ _ _ _ _ _ (hp _ (oB U)));have w1:(rns (Tm.sub f) k l.length b.fv x (bdN k nm ot l.length) (nm,ot,l.getD (yZ k l.length).toNat tm0)).2.2.wd<=(l.getD (yZ k l.length).toNat tm0).wd:=aa.w;have w2:(rns (Tm.sub f) k l.length b.fv x (bdN k nm ot l.length) (nm,ot,l.getD (yZ k l.length).toNat tm0)).2.2.fv.length<=(l.getD (yZ k l.length).toNat tm0).fv.length:=aa.l;exact⟨aA,aA⟩
   ·rw[O];exact at_ J
theorem AH:∀(f:Nat)(t:Tm)(x y:aG),t.dp<=f->LeW (t.sub f x (ri y)) t
 | 0,t,x,y,h=>absurd (Tm.dp_pos t) aA
 | f+1,.mk k nm ot n ty re l,x,y,h=>by
   refine⟨tq _ _ _ _,?_,X6 h⟩;simp only[Tm.dp]at h;have J:uh l<=f:=aA
   by_cases I:k=1
   ·simp only[Tm.sub,if_pos I];split
    ·simp[ri,Tm.wd,I]
    ·exact oC _
   ·have:=Ub (P:=λ_=>True) (λ_ _ _ _=>trivial) (m:=0) (n:=0) (λt O _=>⟨(AH f t x y O).w,(AH f t x y O).l⟩) (AH f) (nm:=nm) (ot:=ot) (n0:=n) (ty:=ty) (re:=re) I (λz U=>oR (uM U) J) λ_ _=>trivial
    simp only[Tm.wd,if_neg I];omega
mutual
def Tm.A3:Tm->Prop
 | .mk _ _ _ _ _ _ l=>l.length<=3/\NR l
def NR:aP->Prop
 | []=>True
 | t::ts=>t.A3/\NR ts
end
theorem tu:∀ {l:aP},NR l↔∀ x∈l,x.A3
 | []=>by simp[NR]
 | t::ts=>by simp only[NR,tu (l:=ts),oK,mc]
theorem XG:∀(f:Nat) (t:Tm) (x:aG) (b:Tm),t.A3->b.A3->(t.sub f x b).A3
 | 0,t,x,b,h,_=>by simp only[Tm.sub];exact h
 | f + 1,.mk k nm ot n ty re l,x,b,h,hb=>by
   have J:=XG f;obtain⟨Y,I⟩:=h;have I:=tu.1 I;have vA:∀ y,(ri y).A3:=λy=>by simp[ri,Tm.A3,NR]
   simp only[Tm.sub];split
   ·split
    ·exact hb
    ·exact⟨Y,tu.2 I⟩
   ·split
    ·refine⟨by simpa using Y,tu.2 λy O=>?_⟩;obtain⟨z,hz,rfl⟩:=oT.1 O;exact J z x b (I z hz) hb
    ·rename_i aa;obtain⟨g1,g2⟩:=wO aa;have U:=I _ (oB (zh g1));have key:∀ v:Tm,v.A3->NR ((l.map λt=>Tm.sub f t x b).set (yZ k l.length).toNat v):=λv hv=>tu.2 λy O=>by
      rcases nQ O with O | rfl
      ·obtain⟨z,hz,rfl⟩:=oT.1 O;exact J z x b (I z hz) hb
      ·exact hv
     split
     ·exact⟨by simpa using Y,key _ U⟩
     ·refine⟨by simpa using Y,key _ (J _ x b ?_ hb)⟩;have r1:∀(old:aG) (s:aG × aG × Tm),s.2.2.A3->(rn1 (Tm.sub f) k l.length b.fv x old s).2.2.A3:=λold s hs=>by
       unfold rn1;split
       ·split
        ·exact J _ _ _ hs (vA _)
        ·exact J _ _ _ hs (vA _)
       ·exact hs
      have rs:∀(ns:List aG) (s:aG × aG × Tm),s.2.2.A3->(rns (Tm.sub f) k l.length b.fv x ns s).2.2.A3:=by
       intro ns
       induction ns with
       | nil=>exact λs hs=>hs
       | cons o os ab=>exact λs hs=>ab _ (r1 o s hs)
      exact rs _ _ U
theorem XI:∀(f:Nat)(t:Tm)(x:aG)(b:Tm),t.dp<=f->t.A3->(t.sub f x b).wd<=t.wd+(3*b.fv.length+b.wd)
 | 0,t,x,b,h,_=>absurd (Tm.dp_pos t) aA
 | f+1,.mk k nm ot n ty re l,x,b,h,ha=>by
   obtain⟨h1,J⟩:=ha;have J:=tu.1 J;simp only[Tm.dp]at h;have O:uh l<=f:=aA
   by_cases U:k=1
   ·simp only[Tm.sub,if_pos U];split
    ·omega
    ·omega
   ·have:=Ub (P:=Tm.A3) (λt x y I=>XG f t x _ I (by simp[ri,Tm.A3,NR])) (m:=b.fv.length) (n:=3*b.fv.length+b.wd) (λt I Y=>⟨XI f t x b I Y,X5 I⟩) (AH f) (nm:=nm) (ot:=ot) (n0:=n) (ty:=ty) (re:=re) U (λz hz=>oR (uM hz) O) J
    have h3:l.length*b.fv.length<=3*b.fv.length:=ol _ h1;simp only[Tm.wd,if_neg U];omega
structure Tm.Z (t:Tm):Prop where
 g:t.G
 c:t.wd<=2199023255552
 v:t.V
theorem Tm.Z.mem {nm ot}(h:(Tm.mk k nm ot n ty re l).Z):∀ y∈l,y.Z:=λy I=>by
 have hc:=h.c
 have:=Ap I
 simp only[Tm.wd]at hc;split at hc
 ·rename_i J;rw[h.v.1 J]at I;simp at I
 ·exact⟨z8 h.g.2.2.2 I,aA,si.1 h.v.2 y I⟩
theorem LeW.z {t'}(h:LeW t' t)(I:t.Z):t'.Z:=⟨h.le.g I.g,oR h.w I.c,h.le.v I.v⟩
theorem XL s:(ri s).Z:=⟨by simp[ri,Tm.G,Qa,Ty.cnt,zI],by simp only[ri,Tm.wd,mI];omega,λ_=>rfl,trivial⟩
def red (n:Int):Int:=n % 10007
def bI (b:Bool):Int:=if b then 1 else 0
def yD (s:aG)(a b:Int):Int × Bool:=
 if inB a 0 10006=true then(if inB b 0 10006=true then
  (if s=bytes [43]then(red (a+b),true)else if s=bytes [45]then(red (a - b),true)else if s=bytes [42]then(red (a*b),true)
  else if s=bytes [61]then(bI (a==b),true)else if s=bytes [60]then(bI (decide (a<b)),true)
  else if s=bytes [38]then(bI (a==1&&b==1),true)else if s=bytes [124]then(bI (a==1||b==1),true)
  else if s=bytes [33]then(bI (a==0),true)else(0,false))else(0,false))else(0,false)
theorem IX b:0<=bI b/\bI b<=1:=by cases b<;>decide
theorem Tx n:0<=red n/\red n<=10006:=by unfold red;omega
theorem Qx s a b:0<=(yD s a b).1/\(yD s a b).1<=10006:=by
 have I:=Tx (a+b);have J:=Tx (a - b);have O:=Tx (a*b);have U:=IX (a==b);have Y:=IX (decide (a<b));have h6:=IX (a==1&&b==1);have h7:=IX (a==1||b==1);have h8:=IX (a==0);unfold yD
 (repeat' split)<;>constructor<;>first | omega | (simp only;omega)
theorem MO (n1:¬s=bytes [43])(n2:¬s=bytes [45])(I:¬s=bytes [42]) a b:0<=(yD s a b).1/\(yD s a b).1<=1:=by
 have J:=IX (a==b);have O:=IX (decide (a<b));have U:=IX (a==1&&b==1);have Y:=IX (a==1||b==1);have h8:=IX (a==0);unfold yD;rw[if_neg n1,if_neg n2,if_neg I]
 (repeat' split)<;>constructor<;>first | omega | (simp only;omega)
def Ry (k n:Int):Tm:=.mk k (bytes []) (bytes []) n (.mk 0 []) (.mk 0 []) []
def Tm.kd:Tm->Int | .mk k _ _ _ _ _ _=>k
def Tm.no:Tm->Int | .mk _ _ _ n _ _ _=>n
def Tm.nm:Tm->aG | .mk _ nm _ _ _ _ _=>nm
def Tm.ot:Tm->aG | .mk _ _ ot _ _ _ _=>ot
def Tm.pt:Tm->Nat->Tm | .mk _ _ _ _ _ _ l,i=>l.getD i tm0
def Tm.wth:Tm->Nat->Tm->Tm | .mk k nm ot n ty re l,i,x=>.mk k nm ot n ty re (l.set i x)
mutual
def Tm.made:Tm->Int->Bool
 | .mk k _ _ _ _ _ l,n=>!(k==11&&n==1)&&tw l (zK k n)
def tw:aP->Int->Bool
 | [],_=>true
 | t::ts,n=>t.made n&&tw ts n
end
def Pz (k:Int):Bool:=k==2||(k==3||(k==6||k==9))
def Tm.res (t:Tm):Bool:=Pz t.kd||(t.kd==10&&(t.lev 0&&(t.pt 0).made 1))
def uW (s:aG):Bool:=decide (s=bytes [38])||(decide (s=bytes [124])||decide (s=bytes [33]))
def M0 (s:aG):Bool:=decide (s=bytes [43])||(decide (s=bytes [45])||decide (s=bytes [42]))
def yU (nm:aG):Int:=if uW nm then 3 else 2
def Iq (nm:aG):Int:=if M0 nm then 2 else 3
def Tm.opr (e:Tm)(l:aP):Tm × Int:=
 if l.all (λx=>x.kd==yU e.nm)then
  (Ry (Iq e.nm) (yD e.nm (l.getD 0 tm0).no (l.getD 1 tm0).no).1,1)
 else(e,0)
def Tm.sb (e:Tm)(x:aG)(b:Tm):Tm:=e.sub e.dp x b
def Tm.apl:Tm->Tm × Int
 | .mk k nm ot n ty re l=>
   if k=4 then(Tm.mk k nm ot n ty re l).opr l
   else if k=5 then(if(l.getD 0 tm0).kd=3 then(l.getD (2 - (l.getD 0 tm0).no).toNat tm0,2)else(.mk k nm ot n ty re l,0))
   else if k=7 then
    (if(l.getD 0 tm0).kd=6 then(((l.getD 0 tm0).pt 0).sb (l.getD 0 tm0).nm (l.getD 1 tm0),3)
    else if(l.getD 0 tm0).kd=9 then((((l.getD 0 tm0).pt 0).sb (l.getD 0 tm0).nm (l.getD 0 tm0)).sb (l.getD 0 tm0).ot (l.getD 1 tm0),4)
    else(.mk k nm ot n ty re l,0))
   else if k=8 then((l.getD 1 tm0).sb nm (l.getD 0 tm0),5)
   else if k=12 then(if(l.getD 0 tm0).kd=10 then((l.getD 0 tm0).pt 0,7)else(.mk k nm ot n ty re l,0))
   else if k=13 then(if(l.getD 0 tm0).kd=2\/(l.getD 0 tm0).kd=3 then(Tm.nod 10 [l.getD 0 tm0],8)else(.mk k nm ot n ty re l,0))
   else(.mk k nm ot n ty re l,0)
def Bk (k:Int)(n:Nat):Nat:=if k=4\/k=7 then n else if k=5\/k=8\/k=12\/k=13 then 1 else 0
def goS (S:Tm->Tm × Int)(e:Tm):aP->Nat->Option (Tm × Int)
 | [],_=>none
 | x::xs,i=>if x.res then goS S e xs (i+1)else some (e.wth i (S x).1,(S x).2)
def Yq (S:Tm->Tm × Int)(e:Tm):Tm × Int × Bool:=
 if(e.pt 0).res then(if(e.pt 0).kd=10 then((e.pt 0).pt 0,6,true)else(e,0,true))else(e.wth 0 (S (e.pt 0)).1,(S (e.pt 0)).2,true)
mutual
def Tm.cod (S:Tm->Tm × Int):Tm->Int->Tm × Int × Bool
 | .mk k nm ot n ty re l,m=>if k=11/\m=1 then Yq S (.mk k nm ot n ty re l)else
   match yO S l (zK k m)with
   | none=>(.mk k nm ot n ty re l,0,false)
   | some (l',r)=>(.mk k nm ot n ty re l',r,true)
def yO (S:Tm->Tm × Int):aP->Int->Option (aP × Int)
 | [],_=>none
 | t::ts,m=>if(t.cod S m).2.2 then some ((t.cod S m).1::ts,(t.cod S m).2.1)else
   match yO S ts m with
   | none=>none
   | some (l',r)=>some (t::l',r)
end
def Tm.stp:Nat->Tm->Tm × Int
 | 0,e=>(e,0)
 | f+1,e=>if e.res then(e,0)else if e.kd=10 then(e.wth 0 ((e.pt 0).cod (Tm.stp f) 1).1,((e.pt 0).cod (Tm.stp f) 1).2.1)
   else match e with
    | .mk k nm ot n ty re l=>match goS (Tm.stp f) (.mk k nm ot n ty re l) (l.take (Bk k l.length)) 0 with
      | some r=>r
      | none=>(Tm.mk k nm ot n ty re l).apl
theorem Qq (e:Tm) i:e.wth i (e.pt i)=e:=by
 cases e with
 | mk k nm ot n ty re l=>
 simp only[Tm.wth,Tm.pt];congr 1;apply nL;intro j;rw[nU];split
 ·rename_i h;subst h;split
  ·rename_i h;rw[zh h]
  ·rename_i h;rw[oc aA]
 ·rfl
def NoR (S:Tm->Tm × Int):Prop:=∀ x,(S x).2=0->(S x).1=x
theorem Zg {S:Tm->Tm × Int}(hS:NoR S):∀(t:Tm)(m:Int),(t.cod S m).2.1=0->(t.cod S m).1=t:=by
 refine Tm.ind λk nm ot n ty re l ih m h=>?_;simp only[Tm.cod]at h ⊢;by_cases U:k=11/\m=1
 ·rw[if_pos U]at h ⊢;unfold Yq at h ⊢;split
  ·rename_i I;rw[if_pos I]at h;split
   ·rename_i J;rw[if_pos J]at h;exact absurd (show(6:Int)=0 from h) aD
   ·rfl
  ·rename_i I;rw[if_neg I]at h;simp only at h ⊢;rw[hS _ h,Qq]
 ·rw [if_neg U]at h ⊢;have key:∀ xs:aP,(∀ x∈xs,x∈l)->∀ l' r,yO S xs (zK k m)=some (l',r)->r=0->l'=xs:=by
   intro xs
   induction xs with
   | nil=>intro _ l' r h;simp[yO]at h
   | cons x xs O=>
     intro Y l' r h hr;simp only[yO]at h;split at h
     ·cases h;rw[ih x (Y x aB) _ hr]
     ·split at h
      ·cases h
      ·rename_i l2 r2 J;cases h;rw[O (λy hy=>Y y (by simp[hy])) _ _ J hr]
  cases hc:yO S l (zK k m)with
  | none=>rfl
  | some p=>obtain⟨l',r⟩:=p;rw[hc]at h;simp only at h ⊢;rw[key l (λx hx=>hx) l' r hc h]
theorem Wq {S:Tm->Tm × Int}(J:NoR S):∀ {l:aP}{i:Nat}{r:Tm × Int},goS S e l i=some r->(∀ j x,l[j]?=some x->e.pt (i+j)=x)->r.2=0->r.1=e
 | [],_,_,h,_,_=>by simp[goS]at h
 | x::l,i,r,h,O,I=>by
   simp only[goS]at h;split at h
   ·exact Wq J h (λj y U=>by rw[show i+1+j=i+(j+1) by omega];exact O (j+1) y (by simpa using U)) I
   ·cases h;simp only at I ⊢;rw[J x I]
    have:=O 0 x rfl
    rw[mY]at this;rw[<-this,Qq]
theorem Z3 {c}[Decidable c]{x y:Tm × Int}(I:x.2=0->x.1=e)(J:y.2=0->y.1=e)(h:(if c then x else y).2=0):(if c then x else y).1=e:=by
 by_cases hc:c
 ·rw[if_pos hc]at h ⊢;exact I h
 ·rw[if_neg hc]at h ⊢;exact J h
theorem zBK {r}(I:r≠0)(h:((t,r):Tm × Int).2=0):((t,r):Tm × Int).1=e:=absurd h I
theorem ZS (e:Tm)(h:e.apl.2=0):e.apl.1=e:=by
 cases e with
 | mk k nm ot n ty re l=>
 revert h;simp only[Tm.apl,Tm.opr]
 repeat' first | exact λh=>zBK aD h | exact λ_=>rfl | refine Z3 ?_ ?_
theorem XE:∀ f,NoR (Tm.stp f)
 | 0,e,_=>rfl
 | f + 1,.mk k nm ot n ty re l,h=>by
   have O:=XE f;simp only[Tm.stp]at h ⊢;split
   ·rfl
   ·rename_i Y;rw[if_neg Y]at h;by_cases U:(Tm.mk k nm ot n ty re l).kd=10
    ·rw[if_pos U]at h ⊢;simp only at h ⊢;rw[Zg O _ _ h,Qq]
    ·rw[if_neg U]at h ⊢;cases J:goS (Tm.stp f) (Tm.mk k nm ot n ty re l) (l.take (Bk k l.length)) 0 with
     | none=>rw[J]at h;exact ZS _ h
     | some r=>
       rw[J]at h;refine Wq O J (λj x I=>?_) h;rw[nI];rw[om]at I;split at I
       ·simp only[Tm.pt];rw[oA,I];rfl
       ·cases I
def Tm.step (e:Tm):Tm × Int:=if ut e 0 then(if(e.stp e.dp).2=0 then(e,0)else e.stp e.dp)else(e,0)
theorem Mk:∀ {l:aM}{j:Nat}{x:D}{b:Nat},b∈zC (l.set j x)->b∈zC l\/b∈x.foot
 | [],j,x,b,h=>by simp[zC]at h
 | a::l,0,x,b,h=>by
   simp only[mf,zC,oM]at h ⊢;rcases h with h | h
   ·exact .inr h
   ·exact .inl (.inr h)
 | a::l,j+1,x,b,h=>by
   simp only[mw,zC,oM]at h ⊢;rcases h with h | h
   ·exact .inl (.inl h)
   ·rcases Mk h with h | h
    ·exact .inl (.inr h)
    ·exact .inr h
theorem QC {x}(I:Own N2 N3 x)(h1:N<=N2)(h2:N1<=N2)(h3:N2<=N3):∀ {l:aM}{j:Nat},OwnL N N1 l->OwnL N N3 (l.set j x)
 | [],j,h=>by simp only[List.set_nil];exact h.mono (oC _) aA
 | a::l,0,h=>by
   have J:=h.nd;simp only[zC,nV]at J;simp only[mf];refine⟨?_,⟨I.fl,h.fl.2⟩,λb hb=>?_,λb hb=>?_⟩
   ·simp only[zC,nV];refine⟨I.nd,J.2.1,λu U v hv O=>?_⟩
    have:=I.lo u U
    have:=h.hi v (by simp only[zC,oM];exact .inr hv)
    omega
   ·simp only[zC,oM]at hb;rcases hb with hb | hb
    ·have:=I.lo b hb;omega
    ·exact h.lo b (by simp only[zC,oM];exact .inr hb)
   ·simp only[zC,oM]at hb;rcases hb with hb | hb
    ·exact I.hi b hb
    ·have:=h.hi b (by simp only[zC,oM];exact .inr hb);omega
 | a :: l,j+1,h=>by
   have J:=h.nd;simp only[zC,nV]at J;have hl:OwnL N N1 l:=⟨J.2.1,h.fl.2,λb hb=>h.lo b (by simp only[zC,oM];exact .inr hb),λb hb=>h.hi b (by simp only[zC,oM];exact .inr hb)⟩
   have Y:=QC I h1 h2 h3 (l:=l) (j:=j) hl;simp only[mw];refine⟨?_,⟨h.fl.1,Y.fl⟩,λb hb=>?_,λb hb=>?_⟩
   ·simp only[zC,nV];refine⟨J.1,Y.nd,λu U v hv O=>?_⟩;rcases Mk hv with hv | hv
    ·exact J.2.2 u U v hv O
    ·have:=I.lo v hv
     have:=h.hi u (by simp only[zC,oM];exact .inl U)
     omega
   ·simp only[zC,oM]at hb;rcases hb with hb | hb
    ·exact h.lo b (by simp only[zC,oM];exact .inl hb)
    ·exact Y.lo b hb
   ·simp only[zC,oM]at hb;rcases hb with hb | hb
    ·have:=h.hi b (by simp only[zC,oM];exact .inl hb);omega
    ·exact Y.hi b hb
theorem p7 {x U}(h:OwnL N N1 ([I,J,O,U]++es))(Y:Own N2 N3 x)(h1:N<=N2)(h2:N1<=N2)(h3:N2<=N3):OwnL N N3 ([I,J,O,U]++es.set j x):=
 QC Y h1 h2 h3 (l:=[I,J,O,U]++es) (j:=j+4) h
theorem EC:∀ {u v:aM},wK (u++v)->wK u/\wK v
 | [],v,h=>⟨trivial,h⟩
 | x::u,v,h=>⟨⟨h.1,(EC h.2).1⟩,(EC h.2).2⟩
theorem Vy {hd ds z}(h:OwnL N0 N1 (hd++es))(J:Fresh N0 N3 a (.ag es::(hd++ds)))(hN:N1<=N3):OwnL N0 N3 (hd++[.sl a z es c]):=by
 obtain⟨Y,aa⟩:=EC h.fl;have U:=h.nd;rw[zF,nV]at U;have e:zC (hd++[D.sl a z es c])=zC hd++(D.sl a z es c).foot:=by simp only[zF,zC,o8]
 have hE:∀ ad,a=some ad->ad.block∉zC es:=λad h=>J.ap ad h (.ag es) aB;have hH:∀ ad,a=some ad->ad.block∉zC hd:=λad h hc=>by obtain⟨d,ab,hb⟩:=zJ.1 hc;exact J.ap ad h d (by simp[ab]) hb
 refine⟨?_,xB Y ⟨⟨λad h=>J.off ad h,aa⟩,trivial⟩,λb hb=>?_,λb hb=>?_⟩
 ·rw[e,nV];refine⟨U.1,P6 U.2.1 hE,λx hx y hy ac=>?_⟩;subst ac;rcases uJ x hy with I | ⟨ad,I,O⟩
  ·exact U.2.2 x hx x I rfl
  ·subst O;exact hH ad I hx
 ·rw[e]at hb;rcases oM.1 hb with hb | hb
  ·exact h.lo b (by rw[zF];exact o5 _ hb)
  ·rcases uJ b hb with I | ⟨ad,I,O⟩
   ·exact h.lo b (by rw[zF];exact nS _ I)
   ·subst O;exact J.lo ad I
 ·rw[e]at hb;rcases oM.1 hb with hb | hb
  ·have:=h.hi b (by rw[zF];exact o5 _ hb);omega
  ·rcases uJ b hb with I | ⟨ad,I,O⟩
   ·have:=h.hi b (by rw[zF];exact nS _ I);omega
   ·subst O;exact J.hi ad I
theorem tF {v0 v1 v2 v3 U}(h:OwnL N N1 ([I,J,O,U]++es))(Y:Fresh N N2 a [.ag es,I,J,O,U])(hN:N1<=N2):Own N N2 (.ag [.lit v0,.lit v1,.lit v2,.lit v3,I,J,O,U,.sl a 9 es c]):=
 BW (zW (zW (zW (zW (Vy (hd:=[I,J,O,U]) (ds:=[]) h Y hN)))))
theorem ro {α R}:∀ {l:List α}{es:aM}{t:α}{d:D}{j:Nat},All2 R l es->R t d->All2 R (l.set j t) (es.set j d)
 | [],es,t,d,j,h,_=>by cases h;exact rfl
 | x::l,es,t,d,0,h,I=>by obtain⟨y,ys,rfl,O,J⟩:=h;exact⟨_,_,rfl,I,J⟩
 | x::l,es,t,d,j+1,h,I=>by obtain⟨y,ys,rfl,O,J⟩:=h;exact⟨_,_,rfl,O,ro J I⟩
theorem TV {α:Type}{T l:List α}{t}(O:T.length=l.length)(hi:i<l.length)(I:T[i]?=some t):(T.take i++l.drop i).set i t=T.take (i+1)++l.drop (i+1):=by
 have J:(T.take i).length=i:=by rw[nO];omega
 rw[lR _ _ aA,J,Nat.sub_self,ml hi,mf,vw I,oP];rfl
theorem P3 {α:Type}{T l:List α}{t}(hi:i<l.length)(hl:l[i]?=some t)(I:T[i]?=some t):T.take i++l.drop i=T.take (i+1)++l.drop (i+1):=by rw[ml hi,vw I,oP];rw[oH hi]at hl;rw[oZ hl];rfl
theorem yi (h:All2 Tm.Is l es)(I:j<l.length):(l.getD j tm0).Is (es.getD j default):=by
 have:=h.get (zh I)
 exact this
def XR f args(t:Tm):=∀(N:Nat) (Q:QT [.ag 9]),(∀ d N',N<=N'->t.Is d->Own N N' d->Q d N')->ACalls prog f [.ag 9] args N Q
def Y5 F f:=∀(e:Tm) (d:D) (x:aG) (b:Tm) (I:D),e.Is d->b.Is I->e.dp<=f->e.Z->b.Z->XR F [.dg 9 d,.str x,.dg 9 I] (e.sub f x b)
theorem UY (hs:s.size<=4611686018427387904):(ri s).Is (.ag [.j 1,.t s,.t (bytes []),.j 0,.j 0,.sl none 2 [] 0,.j 0,.sl none 2 [] 0,.sl none 9 [] 0]):=
 Tm.is_mk.2 ⟨_,_,_,_,_,_,_,rfl,⟨hs,aD,Ty.is_mk.2 ⟨_,_,_,rfl,aB,rfl⟩,Ty.is_mk.2 ⟨_,_,_,rfl,aB,rfl⟩⟩,aB,rfl⟩
theorem Jg {l}(h:l.length<=8796093022208):(fresh l).size<=4611686018427387904:=by
 obtain⟨k,e,_,I,_,_⟩:=rM l;rw[e]
 have:=Rn k aA
 omega
theorem SZ (hS:Y5 232 f){nm ot}(hd:(Tm.mk k nm ot n0 ty re l).Is d)(hG:(Tm.mk k nm ot n0 ty re l).G){n}(hn:l.length=n)(ao:yZ k n=(j:Int))(hp:l.getD j tm0=p)(aq:p.dp<=f)(hc:p.Z) old x fb(bv:fb.length<=2199023255552) a c{I}(Y:fresh (fb++(p.fv++([x]++bdN k nm ot n)))=I) N(Q:QT [.pk,.i,.str,.str,.i,.dc,.dc,.dc,.dc,.row 35 9])(hQ:sm (.mk k (if nm=old then I else nm) (if nm=old then ot else I) n0 ty re (l.set j (p.sub f old (ri I)))) N Q):
  ACalls prog 257 [.pk,.i,.str,.str,.i,.dc,.dc,.dc,.dc,.row 35 9] [.dg 9 d,.j (j:Int),.str old,.sv a 0 (zA fb) c,.str x] N Q:=by
 subst hn;obtain⟨t0,t1,r0,r1,a8,es,c8,rfl,hh,bg,aj⟩:=Tm.is_mk.1 hd;have hl:=aj.len;obtain⟨g1,_⟩:=wO (k:=k) (n:=l.length) aA;rw[ao,oI]at g1;have ah:=yi aj g1;rw[hp]at ah;have bw:=Tm.fv_wd p;have au:=hc.c;have bz:=pA k nm ot l.length;have ai:(fb++(p.fv++([x]++bdN k nm ot l.length))).length<=8796093022208:=by simp only[oG,oJ,oN];omega
 have aa:OB [fb,p.fv,[x],bdN k nm ot l.length]=fb++(p.fv++([x]++bdN k nm ot l.length)):=by simp[OB]
 have O:I.size<=4611686018427387904:=Y ▸ Jg ai;refine I5 N _ _ old a _ c x Q λ_ _ N1 b3=>OM (n:=l.length) aA N1 _ λa1 c1 N2 b7 _ _ _=>⟨_,_,_,rfl,⟨aA,aA⟩,λN3 b8=>?_⟩
 rw[oI];refine uo p _ ah au N3 _ λc2 N4 b9 _ _=>⟨⟨rfl,rfl⟩,λa2 N5 ca _=>⟨⟨rfl,rfl⟩,λa3 N6 cc _=>⟨⟨rfl,rfl⟩,λa4 _ N7 cd ak=>?_⟩⟩⟩
 have aw:All2 IsW [fb,p.fv,[x],bdN k nm ot l.length] [.sl a 0 (zA fb) c,.sl a2 0 (zA p.fv) c2,.sl a3 0 [.t x] 1,.sl a1 0 (zA (bdN k nm ot l.length)) c1]:=
  ⟨_,_,rfl,⟨_,_,rfl⟩,_,_,rfl,⟨_,_,rfl⟩,_,_,rfl,⟨_,_,rfl⟩,_,_,rfl,⟨_,_,rfl⟩,rfl⟩
 refine Pg aw aB (by rw[aa];exact ai) a4 4 N7 _ λa5 c5 N8 ce ax _=>⟨xk ak ax,λ_ N9 cf=>?_⟩
 rw[aa];refine FM _ ai a5 c5 N9 _ λcg bh _ ay bi=>?_;rw[Y];refine pE _ _ hd hG ay _ ?_;simp only[sm]at hQ ⊢;intro x4 x5 x6 x7 al c' ch bj J ab az _ _;have cj:=ab.len;refine⟨_,_,_,rfl,⟨aA,aA⟩,λa6 bm=>E9 a6 I _ λck bp _ _ a7 bq=>?_⟩;refine hS p _ old (ri I) _ ah (UY O) aq hc (XL _) a7 _ λdx ba bt hx bb _ _=>⟨⟨aA,aA,aA⟩,aA,_,rfl,?_⟩
 have ac:All2 Tm.Is (l.set j (p.sub f old (ri I))) (al.set (0+j) dx):=by rw[nI];exact ro ab hx
 have ae:OwnL N ba ([x4,x5,x6,x7]++al.set (0+j) dx):=p7 (az.mono aA (oC _)) bb aA aA aA;refine Br.str (λh=>⟨⟨aB,trivial⟩,λbc U=>?_⟩) λh=>⟨⟨aB,trivial⟩,λbc U=>?_⟩
 ·rw[if_pos h,if_pos h]at hQ;exact hQ _ _ _ _ _ _ _ aA ⟨O,J.ot,J.ty,J.re⟩ ac (ae.mono (oC _) U)
 ·rw[if_neg h,if_neg h]at hQ;exact hQ _ _ _ _ _ _ _ aA ⟨J.nm,O,J.ty,J.re⟩ ac (ae.mono (oC _) U)
theorem SW (hS:Y5 232 f){nm ot}(hd:(Tm.mk k nm ot n0 ty re l).Is d)(hc:(Tm.mk k nm ot n0 ty re l).Z)(hp:∀ y∈l,y.dp<=f) x{b}(hb:b.Is O)(ah:b.Z) ad J N(Q:QT [.pk,.i,.str,.str,.i,.dc,.dc,.dc,.dc,.row 35 9])(hQ:sm (.mk k nm ot n0 ty re (l.map λt=>t.sub f x b)) N Q):
  ACalls prog 186 [.pk,.i,.str,.str,.i,.dc,.dc,.dc,.dc,.row 35 9] [.dg 9 d,.fn 255 [.pd ad 0 (.t x),.pd J 9 O]] N Q:=by
 obtain⟨t0,t1,r0,r1,a,es,c,rfl,hh,U,Y⟩:=Tm.is_mk.1 hd;have hl:=Y.len;obtain⟨q1,q2,q3,_⟩:=hc.g;simp only[sm]at hQ;refine qt N _ ad _ J _ Q λ_=>⟨_,_,_,rfl,?_⟩
 refine up Y U (λi xs=>∀(done:aM) (q N':Nat),N<=N'->All2 Tm.Is ((l.map λt=>t.sub f x b).take i) done->done.length=i->OwnL N N' done ->
  yu Q N ad (.t x) J O done.length q a es c es.length i (.ag [.j k,.t nm,.t ot,.j n0,t0,t1,r0,r1,.sl a 9 es c]) 0 (bytes []) (bytes []) 0 0 none [] 0 0 none [] 0 none [] 0 done q N') ?_ ?_ [] 0 N (oC _) rfl rfl GI
 ·intro i ai hi done q N' aj hd aa ho;refine ub ?_;rw[o3 aF]at hd;rw[ai];refine⟨⟨rfl,rfl⟩,λa1 a7 _ N4 ak ab=>?_⟩;refine OP hh q1 q2 a1 done q N4 _ λx4 x5 x6 x7 N5 al ao ac _=>⟨rfl,?_⟩
  have off:∀ y∈[x4,x5,x6,x7],Off [a1] y:=λy hy a' aq ad au hc=>by have h1:=ab a' aq ad au;have h2:=ac.lo _ (zJ.2 ⟨y,hy,hc⟩);omega
  refine⟨off x4 aB,off x5 aB,off x6 aB,off x7 aB,⟨rfl,rfl⟩,λN6 aw=>?_⟩;exact hQ _ _ _ _ _ _ _ aA ao hd (E5 (N1:=N4) (ac.mono (oC _) aA) (ho.mono (oC _) ak) aA aA)
 ·intro i y xs I _ ax done q N' aj hd aa ho;have a8:=I.b;have ay:=hp y I.m;have az:=hc.mem y I.m;have ae:(l.map λt=>t.sub f x b)[i]?=some (y.sub f x b):=by rw[oF,I.g];rfl
  refine ub ?_;rw[I.lt,oI,I.w];refine⟨⟨aA,aA⟩,λN5 al=>AK N5 _ ad _ J O _ λ_=>⟨_,rfl,λN6 aw=>hS y _ x b O I.r hb ay az ah N6 _ λdx N7 ba hx a6 _ _ N8 bb _ _=>⟨⟨rfl,rfl⟩,by unfold zB;rw[oG];simp only[oJ,oN];omega,λc3=>?_⟩⟩⟩;refine ax _ _ _ aA (by rw[vw ae];exact hd.snoc hx) (by simp[aa]) ?_;exact(zg ho (zf (a6.mono aA (oC _))) (N1:=N') aA aA).mono (oC _) aA
theorem JR : ∀ f,Y5 232 f
 | 0=>λe d x b db _ _ bp=>absurd (Tm.dp_pos e) aA
 | f + 1 => λe d x b db he hb bp hc ak N Q U=>by
   have ih:=JR f;have hG:=hc.g;have bq:=ak.g;have di:=ak.c;cases e with
   | mk k nm ot n0 ty re l=>
   have dj:=hc;simp only[Tm.dp]at bp;have hp:∀ y∈l,y.dp<=f:=λy hy=>sg.1 (mZ bp) y hy;have cg:=hc.mem;obtain⟨t0,t1,r0,r1,a,es,c,rfl,hh,ch,bt⟩:=Tm.is_mk.1 he;have hl:=bt.len;have d8:=hG.2.2.1;simp only[Tm.sub]at U;refine Fd N _ x db Q λ_ _=>⟨_,rfl,Br.beq (λh1=>⟨_,rfl,Br.str (λh2 N1 a8=>?_) λh2 N1 a8=>?_⟩) λh1 N1 a8=>OM (n:=l.length) aA N1 _ λa1 c1 N2 cj _ _ _=>Br.dec (λal=>?_) λck N3 ao=>?_⟩
   ·rw[if_pos h1,if_pos h2]at U;refine pE b db hb bq N1 _ ?_;cases b with
    | mk k2 d9 ea n2 eb ee l2=>
    simp only[sm];intro x4 x5 x6 x7 aq c' N2 cj Y J aa _ _;have au:=J.len;have ef:=bq.2.2.1;exact⟨⟨trivial,trivial⟩,⟨trivial,trivial⟩,λa2 N3 ao hf N4 aw=>U _ _ aA (Tm.is_mk.2 ⟨_,_,_,_,_,_,_,rfl,Y,aA,J⟩) ((tF (aa.mono a8 (oC _)) hf ao).mono (oC _) aw)⟩
   ·rw[if_pos h1,if_neg h2]at U;refine pE _ _ he hG N1 _ ?_;simp only[sm];intro x4 x5 x6 x7 aq c' N2 cj Y J aa _ _;have au:=J.len;exact⟨⟨trivial,trivial⟩,⟨trivial,trivial⟩,λa2 N3 ao hf N4 aw=>U _ _ aA (Tm.is_mk.2 ⟨_,_,_,_,_,_,_,rfl,Y,aA,J⟩) ((tF (aa.mono a8 (oC _)) hf ao).mono (oC _) aw)⟩
   ·rw[if_neg h1,if_pos al]at U;refine λad _ _ bv _ _ N3 ao ac=>SW ih he dj hp x hb ak ad bv N3 _ ?_;simp only[sm];intro x4 x5 x6 x7 aq c' N4 aw Y J aa _;have au:=J.len;simp only[nE]at au;have off:∀ y∈[x4,x5,x6,x7],Off [some ad,some bv] y:=λy hy a' ah ab ai hc=>by have h1:=ac a' ah ab ai;have h2:=aa.lo _ (zJ.2 ⟨y,o5 _ hy,hc⟩);omega
    have ax:Off [some ad,some bv] (.ag aq):=λa' ah ab ai hc=>by have h1:=ac a' ah ab ai;have h2:=aa.lo ab.block (by rw[zF];exact nS _ (by simpa only[D.foot]using hc));omega
    refine⟨off x4 aB,off x5 aB,off x6 aB,off x7 aB,ax,λ_=>⟨⟨trivial,trivial⟩,⟨trivial,trivial⟩,λa2 N5 ay hf N6 az=>U _ _ aA (Tm.is_mk.2 ⟨_,_,_,_,_,_,_,rfl,Y,aA,J⟩) ((tF (aa.mono aA (oC _)) hf ay).mono (oC _) az)⟩⟩
   ·rw [if_neg h1,if_neg ck]at U;refine pE _ _ he hG N3 _ ?_;simp only[sm];intro x4 x5 x6 x7 aq c' N4 aw Y J aa _ _;have au:=J.len;obtain⟨g1,g2⟩:=wO ck;have eg:=pA k nm ot l.length;obtain⟨j,cm⟩:∃ j:Nat,yZ k l.length=(j:Int):=⟨_,g2.symm⟩
    rw[cm]at g1 U ⊢;rw[oI]at g1 U;generalize cn:l.getD j tm0=p at U;have bw:l[j]?=some p:=cn ▸ zh g1;have ei:=hp p (oB bw);have ba:=cg p (oB bw);have co:=ba.c;have cp:=yi bt g1;rw[cn]at cp;generalize hg:(λt:Tm=>t.sub f x b)=g at U;have dk:∀ y∈l,(g y).G:=λy hy=>by rw[<-hg];exact WM f y x b (z8 hG.2.2.2 hy) bq
    have ej:=zG (bdN k nm ot l.length);refine⟨_,_,_,rfl,?_⟩;have fin:∀(bb bc:aG) (y4 y5 y6 y7:D) (L:aP) (r:aM) (q N':Nat),N<=N'->L.length=l.length->Tm.Hd bb bc ty re y4 y5 y6 y7->All2 Tm.Is L r->OwnL N N' ([y4,y5,y6,y7]++r) ->
      (∀ d' N'',N<=N''->(Tm.mk k bb bc n0 ty re L).Is d'->Own N N'' d'->Q d' N'')->∀ a2 N5,N'<=N5->Fresh N N5 a2 [.ag r,y4,y5,y6,y7]->∀ N6,N5<=N6->Q (.ag [.j k,.t bb,.t bc,.j n0,y4,y5,y6,y7,.sl a2 9 r q]) N6:=
     λbb bc y4 y5 y6 y7 L r q N' aj hL hH hA hO hq a2 N5 ay hf N6 az=>by have ae:=hA.len;exact hq _ _ aA (Tm.is_mk.2 ⟨_,_,_,_,_,_,_,rfl,hH,aA,hA⟩) ((tF hO hf ay).mono (oC _) az)
    refine up bt ch (λi xs=>∀(r:aM) (q N':Nat),N<=N'->All2 Tm.Is (((l.map g).set j p).take i++l.drop i) r->r.length=l.length->OwnL N N' ([x4,x5,x6,x7]++r) ->
     ya Q N a1 (zA (bdN k nm ot l.length)) c1 (j:Int) a es c es.length i (.ag [.j k,.t nm,.t ot,.j n0,t0,t1,r0,r1,.sl a 9 es c]) x db 0 (bytes []) (bytes []) 0 0 none [] 0 0 none [] 0 none [] 0 k nm ot n0 x4 x5 x6 x7 r.length q r q N') ?_ ?_ aq c' N4 aA (by simpa using J) au (aa.mono aA (oC _))
    ·intro i al hi r q N' aj hA ae hO;rw[o3 aF,mQ aA,o8]at hA;refine tZ ?_;rw[al];refine λN5 ay=>xD _ aA a1 c1 x N5 _ λN6 az _=>?_;rw[Do];refine Br.dec (λhx=>⟨⟨rfl,rfl⟩,⟨rfl,rfl⟩,⟨rfl,rfl⟩,λa2 N7 dl hf N8 cq=>?_⟩) λhx=>⟨_,_,_,rfl,⟨aA,aA⟩,λN7 dl=>?_⟩
     ·rw[if_pos (.inl hx)]at U;exact fin _ _ _ _ _ _ _ _ _ N' aj aB Y hA hO U a2 N7 aA hf N8 cq
     ·rw [oI];have ek:=Tm.fv_wd p;refine uo p _ cp co N7 _ λc8 N8 cq _ _=>⟨⟨rfl,rfl⟩,λa9 _ N9 eo _=>xD _ aA a9 c8 x N9 _ λep d5 _=>?_⟩
      rw[Do];refine Br.ndec (λbz=>⟨⟨rfl,rfl⟩,⟨rfl,rfl⟩,⟨rfl,rfl⟩,λa2 b3 cr hf b7 bh=>?_⟩) λbz b3 cr=>?_
      ·rw[if_pos (.inr bz)]at U;exact fin _ _ _ _ _ _ _ _ _ N' aj aB Y hA hO U a2 b3 aA hf b7 bh
      ·rw [if_neg (by rintro(h | h);exact hx h;exact h bz)]at U;have d6:=Tm.fv_wd b;refine uo b _ hb di b3 _ λbg b7 bh _ _=>?_;have er:=zG b.fv;generalize hT:rns (Tm.sub f) k l.length b.fv x (bdN k nm ot l.length) (nm,ot,p)=T at U;refine up (xg (bdN k nm ot l.length)) aA (λi xs=>∀(s:aG × aG × Tm) (y4 y5 y6 y7:D) (r:aM) (q N':Nat),N<=N'->Tm.Hd s.1 s.2.1 ty re y4 y5 y6 y7->All2 Tm.Is ((l.map g).set j s.2.2) r->r.length=l.length->OwnL N N' ([y4,y5,y6,y7]++r)->LeW s.2.2 p->rns (Tm.sub f) k l.length b.fv x xs s=T ->
        yb Q N (j:Int) (zA b.fv).length bg a1 (zA (bdN k nm ot l.length)) c1 ((zA (bdN k nm ot l.length)).length:Int) i x db 0 (bytes []) (bytes []) 0 0 none [] 0 0 none [] 0 none [] 0 k s.1 s.2.1 n0 y4 y5 y6 y7 r.length q (zA b.fv) bg r q N') ?_ ?_ (nm,ot,p) x4 x5 x6 x7 r q b7 aA Y hA ae (hO.mono (oC _) aA) LeW.rfl hT
       ·intro i al hi s y4 y5 y6 y7 r q N' aj hH hA ae hO O hs;simp only[rns]at hs;subst hs;refine tf ?_;rw[al];refine⟨⟨aA,aA,aA⟩,aA,λb8 ct=>?_⟩;have bi:=yi hA (j:=j) (by simpa using g1);have b9:((l.map g).set j s.2.2).getD j tm0=s.2.2:=by rw[oA,nD (by simpa using g1)];rfl
        rw[b9]at bi;have cw:=O.le.c;have cx:=O.le.d;rw[oI,nI];refine ih s.2.2 _ x b db bi hb aA (O.z ba) ak b8 _ λdx ca cy hx cc _ _=>?_;have cz:All2 Tm.Is ((l.map g).set j (s.2.2.sub f x b)) (r.set j dx):=by have:=ro (j:=j) hA hx;rwa[List.set_set]at this
        have c6:OwnL N ca ([y4,y5,y6,y7]++r.set j dx):=p7 hO cc aA aA aA;exact⟨⟨aA,aA,aA⟩,aA,⟨aB,rfl⟩,⟨aB,rfl⟩,⟨aB,rfl⟩,⟨aB,rfl⟩,⟨aB,rfl⟩,λa2 c7 bj hf cd bm=>fin _ _ _ _ _ _ _ _ _ ca aA aB hH cz c6 U a2 c7 bj hf cd bm⟩
       ·intro i old xs I _ a6 s y4 y5 y6 y7 r q N' aj hH hA ae hO O hs;have dm:=I.b;have hr:=I.r;simp only[rns]at hs;refine tf ?_;rw[I.lt,oI,I.w,hr];refine⟨⟨aA,aA⟩,old,rfl,⟨rfl,rfl⟩,λdn _ b8 ct _=>xD _ aA dn bg old b8 _ λca cy _=>?_⟩;rw[Do];refine Br.dec (λho=>⟨⟨rfl,rfl⟩,⟨rfl,rfl⟩,λdq c7 bj _=>⟨⟨rfl,rfl⟩,λce _ cd bm ac=>?_⟩⟩) λho=>?_
        ·have cw:=O.le.c;have cx:=O.le.d;have dr:(Tm.mk k s.1 s.2.1 n0 ty re ((l.map g).set j s.2.2)).Is (.ag [.j k,.t s.1,.t s.2.1,.j n0,y4,y5,y6,y7,.sl dq 9 r q]):=Tm.is_mk.2 ⟨_,_,_,_,_,_,_,rfl,hH,aA,hA⟩;have b9:((l.map g).set j s.2.2).getD j tm0=s.2.2:=by rw[oA,nD (by simpa using g1)];rfl
         have dt:(Tm.mk k s.1 s.2.1 n0 ty re ((l.map g).set j s.2.2)).G:=⟨hG.1,hG.2.1,by simpa using hG.2.2.1,EQ λy hy=>by
          rcases nQ hy with hy | rfl
          ·obtain⟨z,hz,rfl⟩:=oT.1 hy;exact dk z hz
          ·exact O.le.g ba.g⟩
         refine SZ ih dr dt (n:=l.length) aB cm b9 aA (O.z ba) old x b.fv aA ce bg rfl cd _ ?_;simp only[sm];intro z4 z5 z6 z7 du c9 et d7 dv a7 cf _;have off:∀ y∈[z4,z5,z6,z7],Off [ce] y:=λy hy a' ah ab ai hc=>by have h1:=ac a' ah ab ai;have h2:=cf.lo _ (zJ.2 ⟨y,o5 _ hy,hc⟩);omega
         have ax:Off [ce] (.ag du):=λa' ah ab ai hc=>by have h1:=ac a' ah ab ai;have h2:=cf.lo ab.block (by rw[zF];exact nS _ (by simpa only[D.foot]using hc));omega
         rw[List.set_set]at a7;have da:=a7.len;simp only[nf,nE]at da;refine⟨off z4 aB,off z5 aB,off z6 aB,off z7 aB,ax,λ_=>?_⟩;have e1:rn1 (Tm.sub f) k l.length b.fv x old s=(if s.1=old then fresh (b.fv++(s.2.2.fv++([x]++bdN k s.1 s.2.1 l.length)))else s.1,if s.1=old then s.2.1 else fresh (b.fv++(s.2.2.fv++([x]++bdN k s.1 s.2.1 l.length))),s.2.2.sub f old (ri (fresh (b.fv++(s.2.2.fv++([x]++bdN k s.1 s.2.1 l.length)))))):=by unfold rn1;rw[if_pos ho];split<;>rfl
         rw[e1]at hs;exact a6 _ _ _ _ _ _ _ _ aA dv a7 da (cf.mono aA (oC _)) ((AH f _ _ _ aA).trans O) hs
        ·have e1:rn1 (Tm.sub f) k l.length b.fv x old s=s:=by unfold rn1;rw[if_neg ho]
         rw[e1]at hs;exact a6 _ _ _ _ _ _ _ _ aA hH hA ae (hO.mono (oC _) aA) O hs
    ·intro i y xs I _ a6 r q N' aj hA ae hO;have dm:=I.b;have dw:=hp y I.m;have dz:=cg y I.m;have de:i<l.length:=(oD.1 I.g).1;refine tZ ?_;rw[I.lt,oI,I.w];refine⟨⟨aA,aA⟩,Br.bne (λeu N5 ay=>ih y _ x b db I.r hb dw dz ak N5 _ λdx N6 az hx cc _ _=>⟨⟨aA,aA,aA⟩,aA,?_⟩) λheq=>?_⟩
     ·have hT:((l.map g).set j p)[i]?=some (y.sub f x b):=by rw[nH aA,oF,I.g,<-hg];rfl
      rw[nI];have h2:=ro (j:=i) hA hx;rw[TV aB de hT]at h2;have h3:=a6 (r.set i dx) q N6 aA h2 (by simpa using ae) (p7 hO cc aA aA aA);simpa using h3
     ·have dh:i=j:=aA
      have hyp:y=p:=by
       have:=I.g
       rw[dh,bw]at this;exact(oZ this).symm
      have hT:((l.map g).set j p)[i]?=some y:=by rw[dh,hyp,nD (by simpa using g1)]
      rw[P3 de I.g hT]at hA;exact a6 r q N' aj hA ae hO
theorem Pu (s:aG) l:decide (Ck (λx=>decide (x=s)) l 0≥0)=decide (s∈l):=by
 have h:=G6 s l;rw[mC,nl,nl]at h ⊢;constructor
 ·intro J;exact mS.1 λI=>by have:=h.2 I;omega
 ·intro J;exact Int.not_lt.1 λI=>h.1 I J
theorem SU (hS:Y5 158 f){nm ot}(hd:(Tm.mk k nm ot n0 ty re l).Is d)(hG:(Tm.mk k nm ot n0 ty re l).G)(bh:yZ k l.length=(j:Int))(hp:l.getD j tm0=p)(de:p.dp<=f)(hc:p.Z) x fb(dh:fb.length<=2199023255552) a c N{T:aG × aG × Tm}(hT:rns (Tm.sub f) k l.length fb x (bdN k nm ot l.length) (nm,ot,p)=T)(Q:QT [.pk,.i,.str,.str,.i,.dc,.dc,.dc,.dc,.row 35 9])(hQ:sm (.mk k T.1 T.2.1 n0 ty re (l.set j T.2.2)) N Q):
  ACalls prog 212 [.pk,.i,.str,.str,.i,.dc,.dc,.dc,.dc,.row 35 9] [.dg 9 d,.j (j:Int),.str x,.sv a 0 (zA fb) c] N Q:=by
 obtain⟨t0,t1,r0,r1,a8,es,c8,rfl,hh,cm,bi⟩:=Tm.is_mk.1 hd;have hl:=bi.len;obtain⟨g1,_⟩:=wO (k:=k) (n:=l.length) aA;rw[bh,oI]at g1;have di:=pA k nm ot l.length;have dj:=zG (bdN k nm ot l.length);have dk:=hG.2.2.1;refine JK N _ _ x a _ c Q λ_ _ N1 bj=>pC _ _ hd hG N1 _ ?_;simp only[sm]at hQ ⊢;intro x4 x5 x6 x7 bm c' N2 dl bp ai bq _ _ N3 dm;refine CW (n:=l.length) aA N3 _ λa1 c1 N4 dn _ _ _=>?_;have dq:=ai.len;have al:l.set j p=l:=by
  apply nL;intro i;rw[nU];split
  ·rename_i hi;subst hi;rw[zh g1,hp]
  ·rfl
 refine up (xg (bdN k nm ot l.length)) aA (λi xs=>∀(s:aG × aG × Tm) (y4 y5 y6 y7:D) (r:aM) (q N':Nat),N<=N'->Tm.Hd s.1 s.2.1 ty re y4 y5 y6 y7->All2 Tm.Is (l.set j s.2.2) r->OwnL N N' ([y4,y5,y6,y7]++r)->LeW s.2.2 p->rns (Tm.sub f) k l.length fb x xs s=T ->
  (i=0->s=(nm,ot,p))->(0<i->∀ o∈xs,o∈fb->s.1≠o) ->
  yr Q N j x a (zA fb) c a1 (zA (bdN k nm ot l.length)) c1 i 0 (bytes []) (bytes []) 0 0 none [] 0 0 none [] 0 none [] 0 k s.1 s.2.1 n0 y4 y5 y6 y7 r.length q r q N') ?_ ?_ (nm,ot,p) x4 x5 x6 x7 bm c' N4 aA bp (by rw[al];exact ai) (bq.mono bj aA) LeW.rfl hT (λ_=>rfl) (λh=>absurd h aA)
 ·intro i bt hi s y4 y5 y6 y7 r q N' bv hH hA hO U hs _ _;simp only[rns]at hs;subst hs;refine qe ?_;rw[bt];exact⟨⟨rfl,rfl⟩,λN5 au=>hQ _ _ _ _ _ _ _ aA hH hA (hO.mono (oC _) au)⟩
 ·intro i old xs I aw ao s y4 y5 y6 y7 r q N' bv hH hA hO U hs h0 h1;have dr:=I.b;have hr:=I.r;have bw:=hA.len;simp only[nf]at bw;simp only[rns]at hs;refine qe ?_;rw[I.lt,oI,I.w,hr];refine⟨⟨aA,aA⟩,old,rfl,λN5 au=>xi fb aA a c old N5 _ λN6 dt _=>?_⟩;show Br (decide (Ck (λx=>decide (x=old)) fb 0<0)) _ _;rw[G6];have hold:i=0->s.1=old:=λhi=>by
   subst hi;have h2:=I.g;rw[h0 rfl];unfold bdN at h2
   (repeat' split at h2)<;>simp at h2<;>exact h2
  have ax:0<i->old∈fb->s.1≠old:=λhi Y=>h1 hi old aB Y;have aa:∀ s':aG × aG × Tm,rn1 (Tm.sub f) k l.length fb x old s=s'->0<i+1->∀ o∈xs,o∈fb->s'.1≠o:=λs' bz _ o Y b3=>by
   have ay:i=0:=by
    have h3:=oS.1 Y;obtain⟨m,hm⟩:=h3;rw[<-aw,nT]at hm
    have:=(oD.1 hm).1
    omega
   have b7:=h0 ay;subst ay;have b8:o∈bdN k nm ot l.length:=by rw[<-aw]at Y;exact nG Y
   have ab:=hold rfl;subst bz;unfold rn1;by_cases ac:old∈fb
   ·have b9:=G5 (fb++(s.2.2.fv++([x]++bdN k s.1 s.2.1 l.length)));rw[if_pos ac,if_pos ab];intro hc;refine b9 ?_;simp only at hc;rw[hc,b7];simp[b8]
   ·rw[if_neg ac];intro hc;exact ac (by rw[<-ab,hc];exact b3)
  refine Br.dec (λY=>?_) λY=>?_
  ·have e1:rn1 (Tm.sub f) k l.length fb x old s=s:=by unfold rn1;rw[if_neg Y]
   have J:=aa s e1;rw[e1]at hs;exact ao _ _ _ _ _ _ _ _ aA hH hA (hO.mono (oC _) aA) U hs (λh=>absurd h aA) J
  ·have Y:old∈fb:=mS.1 Y;have ae:=yi hA (j:=j) (by simpa using g1);have ca:(l.set j s.2.2).getD j tm0=s.2.2:=by rw[oA,nD (by simpa using g1)];rfl
   rw[ca]at ae;have az:=U.z hc;have du:=az.c;have dv:=Tm.fv_wd s.2.2;have dw:=Hv fb s.2.2.fv;have cn:=pA k s.1 s.2.1 l.length;have co:=zG (bdN k s.1 s.2.1 l.length);have cp:=U.le.d;refine⟨⟨rfl,rfl⟩,λa5 _ N7 dz ba=>CW (n:=l.length) aA N7 _ λa6 c6 N8 d5 cc _=>⟨xk ba cc,λ_=>⟨⟨aA,aA,aA⟩,aA,λN9 d6=>?_⟩⟩⟩;rw[oI,nI];refine uq s.2.2 _ ae aA N9 _ λa7 c7 d7 cq _ _ _ cd cr=>?_;refine rH fb s.2.2.fv aA aA a a7 c c7 cd _ λc8 d8 ct _ _=>?_;rw[uO,J7];have bb:(sy fb s.2.2.fv++[x]++bdN k s.1 s.2.1 l.length).length<=8796093022208:=by simp only[oG,oJ,oN];omega
   have bc:fresh (sy fb s.2.2.fv++[x]++bdN k s.1 s.2.1 l.length)=fresh (fb++(s.2.2.fv++([x]++bdN k s.1 s.2.1 l.length))):=VS λy=>by simp[Ng,or_assoc]
   refine⟨⟨rfl,rfl⟩,CR aA,λc9=>⟨⟨rfl,rfl⟩,by unfold zB;rw[oG,zG,zG,oG,oJ,oN];omega,λce=>⟨⟨rfl,rfl⟩,λcf _ cg cw _=>?_⟩⟩⟩;refine FP _ bb cf ce cg _ λd9 cx _=>⟨⟨aA,aA,aA⟩,aA,⟨aA,aA⟩,old,rfl,λch cy=>?_⟩
   have ah:=Jg bb;rw[bc]at ah ⊢;have e1:rn1 (Tm.sub f) k l.length fb x old s=(if s.1=old then fresh (fb++(s.2.2.fv++([x]++bdN k s.1 s.2.1 l.length)))else s.1,if s.1=old then s.2.1 else fresh (fb++(s.2.2.fv++([x]++bdN k s.1 s.2.1 l.length))),s.2.2.sub f old (ri (fresh (fb++(s.2.2.fv++([x]++bdN k s.1 s.2.1 l.length)))))):=by unfold rn1;rw[if_pos Y];split<;>rfl
   have J:=aa _ e1;rw[e1]at hs;generalize fresh (fb++(s.2.2.fv++([x]++bdN k s.1 s.2.1 l.length)))=O at ah hs J ⊢;refine AP ch O _ λea cz _ _ cj da=>?_;refine hS s.2.2 _ old (ri O) _ ae (UY ah) aA az (XL _) cj _ λdx aq db hx ck _ _=>⟨⟨aA,aA,aA⟩,aA,?_⟩
   have aj:All2 Tm.Is (l.set j (s.2.2.sub f old (ri O))) (r.set j dx):=by have:=ro (j:=j) hA hx;rwa[List.set_set]at this
   have ak:OwnL N aq ([y4,y5,y6,y7]++r.set j dx):=p7 hO ck aA aA aA;have bg:(r.set j dx).length=r.length:=nf;refine Br.beq (λhi=>?_) λhi=>?_
   ·have hi:i=0:=aA
    rw[if_pos (hold hi),if_pos (hold hi)]at hs J
    have:=ao (O,s.2.1,s.2.2.sub f old (ri O)) y4 y5 y6 y7 (r.set j dx) q aq aA ⟨ah,hH.ot,hH.ty,hH.re⟩ aj ak ((AH f _ _ _ aA).trans U) hs (λh=>absurd h aA) J
    rwa[bg]at this
   ·have hi:0<i:=aA
    rw[if_neg (ax hi Y),if_neg (ax hi Y)]at hs J
    have:=ao (s.1,O,s.2.2.sub f old (ri O)) y4 y5 y6 y7 (r.set j dx) q aq aA ⟨hH.nm,ah,hH.ty,hH.re⟩ aj ak ((AH f _ _ _ aA).trans U) hs (λh=>absurd h aA) J
    rwa[bg]at this
theorem Cd (hS:Y5 158 f){nm ot L Lf b db}(hb:b.Is db)(ak:b.Z)(hL:∀ y∈L,y.dp<=f/\y.Z)(az:L.length<=1073741824){hid}(al:Lf.length=L.length)(hf:∀(i:Nat) (y:Tm),L[i]?=some y->Lf[i]?=some (if hid=true/\(i:Int)=at_ then y else y.sub f x b)){y4 y5 y6 y7}(hH:Tm.Hd nm ot ty re y4 y5 y6 y7){r}(hA:All2 Tm.Is L r) q N N'(U:N<=N')(hO:OwnL N N' ([y4,y5,y6,y7]++r))(Q:QT [.ag 9])(hQ:∀ d' N'',N<=N''->(Tm.mk k nm ot n0 ty re Lf).Is d'->Own N N'' d'->Q d' N''):
  zE Q N x at_ hid 0 db 0 (bytes []) (bytes []) 0 0 none [] 0 0 none [] 0 none [] 0 k nm ot n0 y4 y5 y6 y7 r.length q r q N':=by
 have a6:=hA.len;refine up hA aA (λi xs=>∀(O:aM) (q N':Nat),N<=N'->All2 Tm.Is (Lf.take i++L.drop i) O->O.length=r.length->OwnL N N' ([y4,y5,y6,y7]++O) ->
  zE Q N x at_ hid i db 0 (bytes []) (bytes []) 0 0 none [] 0 0 none [] 0 none [] 0 k nm ot n0 y4 y5 y6 y7 r.length q O q N') ?_ ?_ r q N' U (by simpa using hA) rfl hO
 ·intro i ao hi O q N' U J ab Y;rw[o3 aA,mQ aA,o8]at J;refine sW ?_;rw[ao];exact⟨⟨aA,rfl⟩,⟨aA,rfl⟩,⟨aA,rfl⟩,⟨aA,rfl⟩,λa2 N5 ac hf N6 ae=>hQ _ _ aA (Tm.is_mk.2 ⟨_,_,_,_,_,_,_,rfl,hH,aA,J⟩) ((tF Y hf ac).mono (oC _) ae)⟩
 ·intro i y xs I _ ah O q N' U J ab Y;have a7:=I.b;obtain⟨aq,au⟩:=hL y I.m;have ai:i<L.length:=(oD.1 I.g).1;have aa:=hf i y I.g;have aw:y.Is (O.getD i default):=by refine J.get ?_;rw[oU (by rw[nO];omega),nO,show i - min i Lf.length=0 by omega,nT];exact I.g
  have put:(if hid=true/\(i:Int)=at_ then y else y.sub f x b)=y.sub f x b->∀ N5,N'<=N5->ACalls prog 158 [.ag 9] [.dg 9 (List.getD O i default),.str x,.dg 9 db] N5 (λaj N6=>N5<=N6->Bel N6 aj->((0:Int)<=(i:Int)/\(i:Int)<(r.length:Int)/\i<O.length)/\i<O.length /\
    zE Q N x at_ hid ((i+1:Nat):Int) db 0 (bytes []) (bytes []) 0 0 none [] 0 0 none [] 0 none [] 0 k nm ot n0 y4 y5 y6 y7 r.length q (List.set O i aj) q N6):=λe N5 ac=>
   hS y _ x b db aw hb aq au ak N5 _ λdx N6 ae hx ax _ _=>⟨⟨aA,aA,aA⟩,aA,by rw[e]at aa;have h2:=ro (j:=i) J hx;rw[TV al ai aa]at h2;exact ah (O.set i dx) q N6 aA h2 (by simpa using ab) (p7 Y ax aA aA aA)⟩
  refine sW ?_;rw[I.lt,oI,I.w,nI];refine Br.bne (λay=>⟨⟨aA,aA,aA⟩,aA,put (if_neg λh=>ay h.2)⟩) λheq=>?_;refine Br.not (λhh=>⟨⟨aA,aA,aA⟩,aA,put (if_neg λh=>by rw[hh]at h;exact absurd h.1 aD)⟩) λhh=>?_;rw[if_pos ⟨hh,heq⟩]at aa;rw[P3 ai I.g aa]at J;exact ah O q N' U J ab Y
theorem P0 {g:Tm->Tm}(h:l[i]?=some y):(l.map g)[i]?=some (g y):=by rw[oF,h];rfl
theorem JT:∀ f,Y5 158 f
 | 0=>λe d x b db _ _ ae=>absurd (Tm.dp_pos e) aA
 | f + 1=>λe d x b db he hb ae hc U N Q J=>by
   have ih:=JT f;have hG:=hc.g;have aw:=U.g;have bi:=U.c;cases e with
   | mk k nm ot n0 ty re l=>
   simp only[Tm.dp]at ae;have hp:∀ y∈l,y.dp<=f/\y.Z:=λy O=>⟨sg.1 (mZ ae) y O,hc.mem y O⟩
   obtain⟨t0,t1,r0,r1,a,es,c,rfl,hh,b8,ax⟩:=Tm.is_mk.1 he;have hl:=ax.len;have ab:=hG.2.2.1;have cg:=pA k nm ot l.length;have ch:=zG (bdN k nm ot l.length);refine Fp N _ x db Q λ_ _=>⟨_,rfl,?_⟩
   have ay:¬(k=1/\nm=x)->(Tm.mk k nm ot n0 ty re l).sub (f+1) x b=if yZ k l.length<0 then .mk k nm ot n0 ty re (l.map λt=>Tm.sub f t x b)
     else if x∈bdN k nm ot l.length\/x∉(l.getD (yZ k l.length).toNat tm0).fv then
      .mk k nm ot n0 ty re ((l.map λt=>Tm.sub f t x b).set (yZ k l.length).toNat (l.getD (yZ k l.length).toNat tm0))
     else
      .mk k (rns (Tm.sub f) k l.length b.fv x (bdN k nm ot l.length) (nm,ot,l.getD (yZ k l.length).toNat tm0)).1
       (rns (Tm.sub f) k l.length b.fv x (bdN k nm ot l.length) (nm,ot,l.getD (yZ k l.length).toNat tm0)).2.1 n0 ty re
       ((l.map λt=>Tm.sub f t x b).set (yZ k l.length).toNat (Tm.sub f (rns (Tm.sub f) k l.length b.fv x (bdN k nm ot l.length) (nm,ot,l.getD (yZ k l.length).toNat tm0)).2.2 x b)):=λhn=>by
    simp only[Tm.sub];by_cases hk:k=1
    ·rw[if_pos hk,if_neg (λh=>hn ⟨hk,h⟩)];have:l=[]:=hc.v.1 hk;subst this;subst hk;rw[if_pos aD];rfl
    ·rw[if_neg hk]
   refine Br.beq (λh1=>⟨_,rfl,Br.str (λh2 N1 ah=>?_) λh2=>?_⟩) λh1=>?_
   ·simp only[Tm.sub]at J;rw[if_pos h1,if_pos h2]at J;refine pC b db hb aw N1 _ ?_;cases b with
    | mk k2 cj ck n2 cm cn l2=>
    simp only[sm];intro x4 x5 x6 x7 az c' N2 bj aa I ai _ _;have bm:=I.len;have co:=aw.2.2.1;exact⟨⟨trivial,trivial⟩,⟨trivial,trivial⟩,λa2 N3 a6 hf N4 a7=>J _ _ aA (Tm.is_mk.2 ⟨_,_,_,_,_,_,_,rfl,aa,aA,I⟩) ((tF (ai.mono ah (oC _)) hf a6).mono (oC _) a7)⟩
   all_goals
    rw[ay (λh=>by first | exact h2 h.2 | exact h1 h.1)]at J;intro N1 ah;refine pC _ _ he hG N1 _ ?_;simp only[sm];intro x4 x5 x6 x7 az c' N2 bj aa I ai _ _ N3 a6;have bm:=I.len;refine CW (n:=l.length) aA N3 _ λa1 c1 N4 a7 _ _ _ N5 cp=>?_;refine xi _ aA a1 c1 x N5 _ λN6 cq _=>?_;rw[Pu];have aj:OwnL N N6 ([x4,x5,x6,x7]++az):=ai.mono ah aA;refine Br.dec (λcr=>?_) λct=>?_
    ·rw [if_neg aA]at J;obtain⟨g1,g2⟩:=wO (k:=k) (n:=l.length) aA;obtain⟨j,ba⟩:∃ j:Nat,yZ k l.length=(j:Int):=⟨_,g2.symm⟩
     rw[ba]at g1 J ⊢;rw[oI]at g1 J ⊢;generalize ak:l.getD j tm0=p at J;have al:l[j]?=some p:=ak ▸ zh g1;obtain⟨ao,aq⟩:=hp p (oB al);have bb:=aq.c;have bc:=yi ax g1;rw[ak]at bc;refine Br.ndec (λhx=>⟨_,_,_,rfl,⟨aA,aA⟩,λN7 cw=>?_⟩) λhx=>?_
     ·have cx:=Tm.fv_wd p;refine uq p _ bc bb N7 _ λa8 c8 N8 cy _ _ _ N9 cz=>xi _ aA a8 c8 x N9 _ λbp b9 _=>?_;rw[Pu];rw[nX hx];refine Br.dec (λac bq ca=>?_) λac=>?_
      ·rw[if_neg (by rintro(h | h);exact hx h;exact h ac)]at J;have cc:=Tm.fv_wd b;refine uq b _ hb bi bq _ λbt bv c6 cd _ _ _ bw ce=>?_;generalize hT:rns (Tm.sub f) k l.length b.fv x (bdN k nm ot l.length) (nm,ot,p)=T at J;have au:=PA (AH f) k l.length b.fv x (bdN k nm ot l.length) (nm,ot,p) ao;rw[hT]at au;have bg:=au.le.d;refine SU ih he hG ba ak ao aq x b.fv aA bt bv bw hT _ ?_;simp only[sm];intro z4 z5 z6 z7 c7 c9 bz cf b3 bh b7 _ _;refine Cd ih hb U (L:=l.set j T.2.2) (Lf:=(l.map λt=>t.sub f x b).set j (T.2.2.sub f x b)) (λy O=>?_) (by simpa using ab) aB (λi y O=>?_) b3 bh c9 N bz aA (b7.mono aA (oC _)) Q J
       ·rcases nQ O with O | rfl
        ·exact hp y O
        ·exact⟨oR bg ao,au.z aq⟩
       ·rw[if_neg (λh=>by simp at h)];rw[<-List.map_set];exact P0 O
      ·rw[if_pos (.inr ac)]at J;refine Cd ih hb U hp ab aB (λi y O=>?_) aa I c' N bp aA (aj.mono (oC _) aA) Q J;rw[if_neg (λh=>by simp at h)];by_cases Y:j=i
       ·subst Y;have:y=p:=oZ (O.symm.trans al);rw[nD (by simpa using g1),this,UQ f p x b ac]
       ·rw[nH Y];exact P0 O
     ·rw[if_pos (.inl hx)]at J;rw[nh hx];refine Cd ih hb U hp ab aB (λi y O=>?_) aa I c' N N6 aA aj Q J;by_cases Y:j=i
      ·subst Y;have:y=p:=oZ (O.symm.trans al);rw[if_pos ⟨rfl,rfl⟩,nD (by simpa using g1),this]
      ·rw[if_neg (λh=>Y aA),nH Y];exact P0 O
    ·rw[if_pos aA]at J;refine Cd ih hb U hp ab aB (λi y O=>?_) aa I c' N N6 aA aj Q J;rw[if_neg (λh=>by have:=h.2;omega)];exact P0 O
theorem Wr {a b:Int}(I:0<=a/\a<=10006)(hb:0<=b/\b<=10006):0<=a*b/\a*b<=100120036:=by refine⟨Int.mul_nonneg I.1 hb.1,?_⟩;have J:a*b<=10006*b:=Int.mul_le_mul_of_nonneg_right I.2 hb.1;omega
theorem QX n:(if Int.tmod n 10007<0 then Int.tmod n 10007+10007 else Int.tmod n 10007)=red n:=by
 unfold red;by_cases h:0<=n
 ·rw[nu h,if_neg aA]
 ·obtain⟨m,rfl⟩:∃ m,n = -m:=⟨-n,aA⟩
  rw[Int.neg_tmod,nu aA];split<;>omega
theorem XJ n: -10007<Int.tmod n 10007/\Int.tmod n 10007<10007:=by
 by_cases h:0<=n
 ·rw[nu h];omega
 ·obtain⟨m,rfl⟩:∃ m,n = -m:=⟨-n,aA⟩
  rw[Int.neg_tmod,nu aA];omega
theorem Ki n:BK 207 [.j n] (red n):=λN Q U=>by
 have hb:=XJ n;have I:=QX n;refine Lk N n Q ⟨aA,Br.dec (λh N1 J=>?_) λh N2 O=>?_⟩
 ·rw[i64_in _ aA];rw[if_pos h]at I;exact Qi (U _ J) I.symm
 ·rw[if_neg h]at I;exact Qi (U _ O) I.symm
theorem Ke n:BK 271 [.j n] (red n):=λN Q J=>by have hb:=XJ n;have O:=QX n;refine LX N n Q ⟨aA,aA,λN1 I=>?_⟩;rw[i64_in _ aA];refine Qi (J _ I) ?_;rw[<-O];generalize Int.tmod n 10007=m at *;rw[nu aA];split<;>omega
def ZN f args(r:Int × Bool):=∀(N:Nat) (Q:QT [.i,.bool]),(∀ N',N<=N'->Q r.1 r.2 N')->ACalls prog f [.i,.bool] args N Q
theorem Qp {Q:QT [.i,.bool]}{a b:Int × Bool}(h:Q a.1 a.2 N)(e:a=b):Q b.1 b.2 N:=e ▸ h
theorem Vc b:BK 208 [.bool b] (bI b):=λN Q J=>Nt N b Q (Br.of (λh N1 I=>Qi (J _ I) (by rw[h];rfl)) λh N1 I=>Qi (J _ I) (by rw[h];rfl))
theorem ZY b:BK 272 [.bool b] (bI b):=λN Q J=>Ro N b Q (Br.of (λh N1 I=>Qi (J _ I) (by rw[h];rfl)) λh N1 I=>Qi (J _ I) (by rw[h];rfl))
theorem Ie s a b:ZN 157 [.str s,.j a,.j b] (yD s a b):=λN Q J=>by
 refine I6 N s a b Q λN1 aa=>xb _ _ _ N1 _ λN2 ab _=>?_;by_cases I:inB a 0 10006=true
 rotate_left
 ·have I:inB a 0 10006=false:=by simpa using I
  rw[I];simp only[lO,J8];have e:yD s a b=(0,false):=by unfold yD;rw[if_neg (by rw[I];decide)]
  exact λN3 O=>Qp (b:=(0,false)) (J N3 aA) e
 rw[I];simp only[lG,F5];intro N4 ac;refine xb _ _ _ N4 _ λN5 ae _=>?_;by_cases hb:inB b 0 10006=true
 rotate_left
 ·have hb:inB b 0 10006=false:=by simpa using hb
  rw[hb];simp only[lO,J8];have e:yD s a b=(0,false):=by unfold yD;rw[if_pos I,if_neg (by rw[hb];decide)]
  exact λN3 O=>Qp (b:=(0,false)) (J N3 aA) e
 rw[hb];simp only[lG,F5];have U:=yE.1 I;have Y:=yE.1 hb;have hm:=Wr U Y;rw[i64_in (a+b) aA,i64_in (a - b) aA,i64_in (a*b) aA];have fin:∀(x:Int) (y:Bool) (N':Nat),N<=N'->yD s a b=(x,y)->Q x y N':=λx y N' h e=>Qp (b:=(x,y)) (J N' h) e;unfold yD at fin;rw[if_pos I,if_pos hb]at fin;clear J
 repeat' first|with_reducible intro _|simp only[Y1]|with_reducible refine X ?_ ?_|refine⟨_,_,_,rfl,?_⟩|refine⟨_,rfl,?_⟩|refine X0 ?_|refine(Ki _) _ _ ?_|refine(Vc _) _ _ ?_|fail
 all_goals
  refine fin _ _ _ aA ?_
  (repeat' split)<;>first | rfl | contradiction | (simp_all;done) | (congr 1;rw[show(a==1)=false by simpa using ‹¬a=1›];rfl)
theorem IY s a b:ZN 252 [.str s,.j a,.j b] (yD s a b):=λN Q J=>by
 refine Iw N s a b Q λN1 aa=>tX _ N1 _ λN2 ab _=>?_;by_cases I:inB a 0 10006=true
 rotate_left
 ·have I:inB a 0 10006=false:=by simpa using I
  rw[I];simp only[lO,J8];have e:yD s a b=(0,false):=by unfold yD;rw[if_neg (by rw[I];decide)]
  exact λN3 O=>Qp (b:=(0,false)) (J N3 aA) e
 rw[I];simp only[lG,F5];intro N4 ac;refine tX _ N4 _ λN5 ae _=>?_;by_cases hb:inB b 0 10006=true
 rotate_left
 ·have hb:inB b 0 10006=false:=by simpa using hb
  rw[hb];simp only[lO,J8];have e:yD s a b=(0,false):=by unfold yD;rw[if_pos I,if_neg (by rw[hb];decide)]
  exact λN3 O=>Qp (b:=(0,false)) (J N3 aA) e
 rw[hb];simp only[lG,F5];have U:=yE.1 I;have Y:=yE.1 hb;have hm:=Wr U Y;rw[i64_in (a+b) aA,i64_in (a - b) aA,i64_in (a*b) aA];have fin:∀(x:Int) (y:Bool) (N':Nat),N<=N'->yD s a b=(x,y)->Q x y N':=λx y N' h e=>Qp (b:=(x,y)) (J N' h) e;unfold yD at fin;rw[if_pos I,if_pos hb]at fin;clear J
 repeat' first|with_reducible intro _|simp only[Y1]|with_reducible refine X ?_ ?_|refine⟨_,_,_,rfl,?_⟩|refine⟨_,rfl,?_⟩|refine X0 ?_|refine(Ke _) _ _ ?_|refine(ZY _) _ _ ?_|fail
 all_goals
  refine fin _ _ _ aA ?_
  (repeat' split)<;>first | rfl | contradiction | (simp_all;done) | (congr 1;rw[show(a==1)=false by simpa using ‹¬a=1›];rfl)
structure Tm.F (e:Tm) (f:Nat):Prop where
 ok:e.ok=true
 d:e.dp<=f
 g:e.G
 b:e.dp<=1073741824
 w:e.wd<=137438953472
theorem Tm.F.up {g}(h:e.F f)(I:f<=g):e.F g:=⟨h.ok,oR h.d I,h.g,h.b,h.w⟩
theorem wY {nm ot}(h:(Tm.mk k nm ot n ty re l).ok=true):
  ((k=6\/k=9\/k=10\/k=11\/k=12\/k=13)->l.length=1)/\((k=7\/k=8)->l.length=2)/\(k=5->l.length=3)/\((k=1\/k=2\/k=3)->l.length=0)/\(k=4->(l.length:Int)=rj nm):=by
 simp only[Tm.ok,oL,mG]at h;obtain⟨_,_,h⟩:=h;unfold IL at h;refine⟨?_,?_,?_,?_,?_⟩
 ·rintro(rfl | rfl | rfl | rfl | rfl | rfl)<;>(simp at h;omega)
 ·rintro(rfl | rfl)<;>(simp at h;omega)
 ·rintro rfl;simp at h;omega
 ·rintro(rfl | rfl | rfl)<;>simpa using h
 ·rintro rfl;simpa using h
theorem Tm.F.mem {nm ot}(h:(Tm.mk k nm ot n ty re l).F (f+1)):∀ y∈l,y.F f:=λy I=>by
 have J:=h.ok;have O:=h.d;have Y:=h.b;have U:=h.w;have h7:=(wY h.ok).2.2.2.1;simp only[Tm.ok,oL]at J;simp only[Tm.dp]at O Y;have h4:=uM I;have h5:∀ {l:aP},rZ l=true->∀ x∈l,x.ok=true:=λ{l}=>by
  induction l with
  | nil=>intro _ x hx;simp at hx
  | cons t ts ih=>
    intro h x hx;simp only[rZ,oL]at h;rcases oK.1 hx with rfl | hx
    ·exact h.1
    ·exact ih h.2 x hx
 refine⟨h5 J.1 y I,sg.1 (mZ O) y I,z8 h.g.2.2.2 I,aA,?_⟩;have h8:=Ap I;simp only[Tm.wd]at U;split at U
 ·rename_i hk;rw[oV (h7 (.inl hk))]at I;simp at I
 ·omega
theorem ZA:∀ t:Tm,t.ok=true->t.V:=by
 refine Tm.ind λk nm ot n ty re l I h=>?_;refine⟨λJ=>oV ((wY h).2.2.2.1 (.inl J)),si.2 λx hx=>I x hx ?_⟩;simp only[Tm.ok,oL]at h;have O:∀ {l:aP},rZ l=true->∀ x∈l,x.ok=true:=λ{l}=>by
  induction l with
  | nil=>intro _ x hx;simp at hx
  | cons t ts I=>
    intro h x hx;simp only[rZ,oL]at h;rcases oK.1 hx with rfl | hx
    ·exact h.1
    ·exact I h.2 x hx
 exact O h.1 x hx
theorem zBM:∀ t:Tm,t.ok=true->t.A3:=by refine Tm.ind λk nm ot n ty re l J h=>?_;have nd:=yn h;have O:=nd.ar;have U:=tT k nm;exact⟨aA,tu.2 λx I=>J x I (nd.sub x I)⟩
theorem Tm.F.of (I:e.ok=true)(J:e.dp<=f)(O:e.cnt<=4000000):e.F f:=⟨I,J,Tm.G_cnt e aA,by have:=e.dp_cnt;omega,by have:=Tm.vc_cnt e;have:=e.wd_vc;omega⟩
theorem Tm.F.z (h:e.F f):e.Z:=⟨h.g,by have:=h.w;omega,ZA _ h.ok⟩
theorem zO (h:i<l.length):l.getD i tm0∈l:=oB (zh h)
theorem On (I:e.ok=true)(J:e.kd=3):e.no=0\/e.no=1:=by
 cases e with
 | mk k nm ot n ty re l=>
 simp only[Tm.kd]at J;subst J;simp only[Tm.ok,oL]at I;have O:=I.2.1;simp only[zH,oL,inB]at O;simp at O;simp only[Tm.no];omega
def Qv f args(r:Tm × Int):=∀(N:Nat) (Q:QT [.ag 9,.i]),(∀ d N',N<=N'->r.1.Is d->Q d r.2 N')->ACalls prog f [.ag 9,.i] args N Q
def Wd f args(r:Tm × Int × Bool):=∀(N:Nat) (Q:QT [.ag 9,.i,.bool]),(∀ d N',N<=N'->r.1.Is d->Q d r.2.1 r.2.2 N')->ACalls prog f [.ag 9,.i,.bool] args N Q
def ZH F:=∀(t:Tm) (d:D),t.Is d->t.G->∀(N:Nat) (Q:QT [.pk,.i,.str,.str,.i,.dc,.dc,.dc,.dc,.row 35 9]),sm t N Q->ACalls prog F [.pk,.i,.str,.str,.i,.dc,.dc,.dc,.dc,.row 35 9] [.dg 9 d] N Q
theorem Ma {F}(hF:ZH F)(h:t.Is d)(hG:t.G)(h0:N0<=N)(Q':D->Nat->Prop)(hq:∀ d' N',N<=N'->t.Is d'->Own N0 N' d'->Q' d' N'):
  ACalls prog F [.pk,.i,.str,.str,.i,.dc,.dc,.dc,.dc,.row 35 9] [.dg 9 d] N (λn s Y aa x J O U es c N2=>N<=N2->Bel N2 (D.ag es)->(es.length=es.length/\c=c)/\(es.length=es.length/\c=c)/\∀ a N3,N2<=N3->Fresh N0 N3 a [D.ag es,x,J,O,U]->∀ N4,N3<=N4 ->
   Q' (D.ag [D.j n,D.t s,D.t Y,D.j aa,x,J,O,U,D.sl a 9 es c]) N4):=by
 refine hF t d h hG N _ ?_;cases t with
 | mk k2 ai aj n2 ak al l2=>
 simp only[sm];intro x4 x5 x6 x7 ao c' N2 aq ab I ac _ _;have au:=I.len;have aw:=hG.2.2.1;exact⟨⟨trivial,trivial⟩,⟨trivial,trivial⟩,λa2 N3 ae hf N4 ah=>hq _ _ aA (Tm.is_mk.2 ⟨_,_,_,_,_,_,_,rfl,ab,aA,I⟩) ((tF (ac.mono h0 (oC _)) hf ae).mono (oC _) ah)⟩
theorem Yn {F}(hF:ZH F){dy}(h:t.Is d)(hG:t.G)(hy:y.Is dy)(hi:i<t.as.length)(Q':D->Nat->Prop)(hq:∀ d' N',N<=N'->(t.wth i y).Is d'->Q' d' N'):
  ACalls prog F [.pk,.i,.str,.str,.i,.dc,.dc,.dc,.dc,.row 35 9] [.dg 9 d] N (λn s aa ab x J O U es c N2=>N<=N2->Bel N2 (D.ag es)->(0<=(i:Int)/\(i:Int)<(es.length:Int)/\(0+(i:Int).toNat:Nat)<es.length)/\(0+(i:Int).toNat:Nat)<es.length /\
   (es.length=(List.set es (0+(i:Int).toNat:Nat) dy).length/\c=c)/\(es.length=(List.set es (0+(i:Int).toNat:Nat) dy).length/\c=c)/\(es.length=(List.set es (0+(i:Int).toNat:Nat) dy).length/\c=c)/\(es.length=(List.set es (0+(i:Int).toNat:Nat) dy).length/\c=c)/\(es.length=(List.set es (0+(i:Int).toNat:Nat) dy).length/\c=c) /\
   ∀ a N3,N2<=N3->Fresh N0 N3 a [D.ag (List.set es (0+(i:Int).toNat:Nat) dy),x,J,O,U]->∀ N4,N3<=N4 ->
   Q' (D.ag [D.j n,D.t s,D.t aa,D.j ab,x,J,O,U,D.sl a 9 (List.set es (0+(i:Int).toNat:Nat) dy) c]) N4):=by
 refine hF t d h hG N _ ?_;cases t with
 | mk k2 ae ah n2 ai aj l2=>
 simp only[sm];simp only[Tm.as]at hi;intro x4 x5 x6 x7 Y c' N2 ak ac I al _ _;have ao:=I.len;have aq:=hG.2.2.1;rw[oI,nI];have hs:(List.set Y i dy).length=Y.length:=nf;exact⟨⟨aA,aA,aA⟩,aA,⟨hs.symm,trivial⟩,⟨hs.symm,trivial⟩,⟨hs.symm,trivial⟩,⟨hs.symm,trivial⟩,⟨hs.symm,trivial⟩,λa2 N3 au hf N4 aw=>hq _ _ aA (Tm.is_mk.2 ⟨_,_,_,_,_,_,_,rfl,ac,aA,ro I hy⟩)⟩
theorem K6:(Ry k n).Is (.ag [.j k,.t (bytes []),.t (bytes []),.j n,.j 0,.sl none 2 [] 0,.j 0,.sl none 2 [] 0,.sl none 9 [] 0]):=
 Tm.is_mk.2 ⟨_,_,_,_,_,_,_,rfl,⟨aD,aD,Ty.is_mk.2 ⟨_,_,_,rfl,aB,rfl⟩,Ty.is_mk.2 ⟨_,_,_,rfl,aB,rfl⟩⟩,aB,rfl⟩
theorem MU {c1 c2 c4 c5}(h : -1152921504606846976<=m/\m<=1152921504606846976):BK 151 [.dg 9 (.ag [.j k,c1,c2,.j n,c4,c5,I,J,O]),.j m] (zK k m):=λN Q U=>by
 refine DZ N _ m Q λ_=>?_;rw[i64_in (m+1) aA,i64_in (m - 1) aA]
 repeat' first|with_reducible intro _|simp only[Y1]|with_reducible refine X ?_ ?_|refine⟨_,_,_,rfl,?_⟩|refine⟨_,rfl,?_⟩|refine X0 ?_|fail
 all_goals(refine Qi (U _ aA) ?_;simp[zK, *])
theorem Et {c1 c2 c4 c5}(h : -1152921504606846976<=m/\m<=1152921504606846976):BK 175 [.dg 9 (.ag [.j k,c1,c2,.j n,c4,c5,I,J,O]),.j m] (zK k m):=λN Q U=>by
 refine qi N _ m Q λ_=>?_;rw[i64_in (m+1) aA,i64_in (m - 1) aA]
 repeat' first|with_reducible intro _|simp only[Y1]|with_reducible refine X ?_ ?_|refine⟨_,_,_,rfl,?_⟩|refine⟨_,rfl,?_⟩|refine X0 ?_|fail
 all_goals(refine Qi (U _ aA) ?_;simp[zK, *])
def LvIn (m:Int)(d:Nat):Prop := -1152921504606846976<=m - (d:Int)/\m+(d:Int)<=1152921504606846976
theorem LvIn.next {d d'}(h:LvIn m d)(hd:d'+1<=d):LvIn (zK k m) d':=by
 unfold LvIn zK at *;split
 ·omega
 ·split<;>omega
theorem LvIn.b {d}(h:LvIn m d): -1152921504606846976<=m/\m<=1152921504606846976:=by unfold LvIn at h;omega
theorem dp_mem {nm ot}(h:y∈l):y.dp+1<=(Tm.mk k nm ot n ty re l).dp:=by
 have:=sg.1 (oC (uh l)) y h
 simp only[Tm.dp];omega
theorem Kj:∀(t:Tm)(d:D),t.Is d->∀ m:Int,LvIn m t.dp->uE 91 [.dg 9 d,.j m] (t.made m):=by
 refine Tm.ind λk nm ot n ty re l ih d hd m hm N Q hQ=>?_;obtain⟨t0,t1,r0,r1,a,es,c,rfl,hh,O,U⟩:=Tm.is_mk.1 hd;have hl:=U.len;have key:∀(N':Nat),N<=N'->(∀ N'',N'<=N''->Q (tw l (zK k m)) N'')->xR Q N m 0 (.ag [.j k,.t nm,.t ot,.j n,t0,t1,r0,r1,.sl a 9 es c]) N':=by
  refine up U O (λi xs=>∀(N':Nat),N<=N'->(∀ N'',N'<=N''->Q (tw xs (zK k m)) N'')->xR Q N m i (.ag [.j k,.t nm,.t ot,.j n,t0,t1,r0,r1,.sl a 9 es c]) N') ?_ ?_
  ·intro i aa _ N' ab J;refine pu ?_
   repeat' first|with_reducible intro _|simp only[aa,Y1]|with_reducible refine X ?_ ?_|refine⟨_,_,_,rfl,?_⟩|refine⟨_,rfl,?_⟩|refine X0 ?_|fail
   exact Qb (J _ aA) (by simp[tw])
  ·intro i x xs I _ ac N' ab J;have ah:=I.b;refine pu ?_
   repeat' first|with_reducible intro _|simp only[I.lt,I.w,oI,Y1]|with_reducible refine X ?_ ?_|refine⟨_,_,_,rfl,?_⟩|refine⟨_,rfl,?_⟩|refine X0 ?_|refine(MU hm.b) _ _ ?_|refine(ih x I.m _ I.r _ (hm.next (dp_mem I.m))) _ _ ?_|fail
   ·refine Qb (J _ aA) ?_;simp[tw, *]
   ·exact ac _ aA λN'' h=>Qb (J N'' aA) (by simp[tw, *])
 refine Lz N _ m Q λ_=>⟨_,rfl,Br.beq (λY=>Br.beq (λh2 N1 ae=>?_) λh2=>?_) λY=>?_⟩
 ·exact Qb (hQ _ ae) (by simp[Tm.made,Y,h2])
 ·exact key N (oC _) λN'' h=>Qb (hQ _ h) (by simp[Tm.made,Y,h2])
 ·exact key N (oC _) λN'' h=>Qb (hQ _ h) (by simp[Tm.made,Y])
theorem zu (he:e.Is d)(Y:e.ok=true)(ac:e.dp<=1073741824):uE 47 [.dg 9 d] e.res:=λN Q J=>by
 cases e with
 | mk k nm ot n0 ty re l=>
 obtain⟨t0,t1,r0,r1,a,es,c,rfl,hh,ab,U⟩:=Tm.is_mk.1 he;have hl:=U.len;refine Fq N _ Q λ_=>⟨_,rfl,?_⟩
 refine Br.beq (λh2 N1 I=>Qb (J _ I) (by simp[Tm.res,Pz,Tm.kd,h2])) λh2=>?_;refine Br.beq (λh3 N1 I=>Qb (J _ I) (by simp[Tm.res,Pz,Tm.kd,h3])) λh3=>?_;refine Br.beq (λh6 N1 I=>Qb (J _ I) (by simp[Tm.res,Pz,Tm.kd,h6])) λh6=>?_;refine Br.beq (λh9 N1 I=>Qb (J _ I) (by simp[Tm.res,Pz,Tm.kd,h9])) λh9=>?_;refine Br.beq (λO N1 I=>?_) λO N1 I=>Qb (J _ I) (by simp[Tm.res,Pz,Tm.kd,h2,h3,h6,h9,O]);subst O;have ae:=(wY Y).1 aA;have hm:=zO (l:=l) (i:=0) aA;have ah:=dp_mem (k:=10) (nm:=nm) (ot:=ot) (n:=n0) (ty:=ty) (re:=re) hm;refine Gu _ _ he 0 N1 _ λN2 ai _=>Br.of (λhv=>⟨_,_,_,rfl,⟨aA,aA⟩,λN3 aa=>?_⟩) λhv N3 aa=>Qb (J _ aA) (by simp[Tm.res,Pz,Tm.kd,hv]);refine Kj _ _ (yi U (j:=0) aA) 1 (by unfold LvIn;omega) N3 _ λN4 aj _ N5 ak=>Qb (J _ aA) ?_;simp[Tm.res,Pz,Tm.kd,hv,Tm.pt]
theorem GE {S:Tm->Tm × Int}:∀ {l:aP}{i:Nat}{r:Tm × Int},goS S e l i=some r->∃ j x,l[j]?=some x/\x.res=false/\r=(e.wth (i+j) (S x).1,(S x).2)
 | [],_,_,h=>by simp[goS]at h
 | x::l,i,r,h=>by
   simp only[goS]at h;split at h
   ·obtain⟨j,y,I,J,O⟩:=GE h;exact⟨j+1,y,by simpa using I,J,by rw[O,show i+1+j=i+(j+1) by omega]⟩
   ·rename_i U;exact⟨0,x,rfl,by simpa using U,(oZ h).symm⟩
theorem zBc:tm0.G:=by simp[tm0,Tm.G,Qa,Ty.cnt,zI]
theorem ZC (h:e.G):(e.pt i).G:=by
 cases e with
 | mk k nm ot n ty re l=>
 simp only[Tm.pt];by_cases hi:i<l.length
 ·exact z8 h.2.2.2 (zO hi)
 ·rw[oA,oc aA];exact zBc
theorem Yy {x}(h:e.G)(J:x.G):(e.wth i x).G:=by
 cases e with
 | mk k nm ot n ty re l=>
 refine⟨h.1,h.2.1,by simpa using h.2.2.1,EQ λy I=>?_⟩;rcases nQ I with I | rfl
 ·exact z8 h.2.2.2 I
 ·exact J
theorem zAv (h:e.G):e.apl.1.G:=by
 cases e with
 | mk k nm ot n ty re l=>
 have g:∀ i,(l.getD i tm0).G:=λi=>ZC (e:=.mk k nm ot n ty re l) h;have I:∀ i j,((l.getD i tm0).pt j).G:=λi j=>ZC (g i);simp only[Tm.apl,Tm.opr];have s:∀(t b:Tm) (x:aG),t.G->b.G->(t.sb x b).G:=λt b x J O=>WM _ t x b J O;have U:∀ k n,(Ry k n).G:=λk n=>by simp[Ry,Tm.G,Qa,Ty.cnt,zI]
 have nn:∀ x:Tm,x.G->(Tm.nod 10 [x]).G:=λx Y=>by simpa [Tm.nod,Tm.G,Qa,Ty.cnt,zI]using Y
 (repeat' split)<;>first | exact h | exact g _ | exact I _ _ | exact s _ _ _ (I _ _) (g _) | exact s _ _ _ (s _ _ _ (I _ _) (g _)) (g _) | exact s _ _ _ (g _) (g _) | exact U _ _ | exact nn _ (g _)
theorem zA5 {S:Tm->Tm × Int}(Y:∀ x:Tm,x.G->(S x).1.G):∀(t:Tm)(m:Int),t.G->(t.cod S m).1.G:=by
 refine Tm.ind λk nm ot n ty re l ih m h=>?_;simp only[Tm.cod];split
 ·unfold Yq;split
  ·split
   ·exact ZC (ZC h)
   ·exact h
  ·exact Yy h (Y _ (ZC h))
 ·have key:∀(xs:aP),(∀ x∈xs,x∈l)->∀ l' r,yO S xs (zK k m)=some (l',r)->l'.length=xs.length/\∀ x∈l',x.G:=by
   intro xs
   induction xs with
   | nil=>intro _ l' r h;simp[yO]at h
   | cons x xs O=>
     intro U l' r I;have J:=U x aB;simp only[yO]at I;split at I
     ·cases I;refine⟨aB,λy hy=>?_⟩;rcases oK.1 hy with rfl | hy
      ·exact ih x J _ (z8 h.2.2.2 J)
      ·exact z8 h.2.2.2 (U y (by simp[hy]))
     ·split at I
      ·cases I
      ·rename_i l2 r2 h3;cases I;obtain⟨b1,b2⟩:=O (λy hy=>U y (by simp[hy])) _ _ h3;refine⟨by simp[b1],λy hy=>?_⟩;rcases oK.1 hy with rfl | hy
       ·exact z8 h.2.2.2 J
       ·exact b2 y hy
  cases hc:yO S l (zK k m)with
  | none=>exact h
  | some p=>obtain⟨l',r⟩:=p;obtain⟨b1,b2⟩:=key l (λx J=>J) l' r hc;exact⟨h.1,h.2.1,by rw[b1];exact h.2.2.1,EQ b2⟩
theorem zAY:∀(f:Nat)(e:Tm),e.G->(e.stp f).1.G
 | 0,e,h=>h
 | f + 1,.mk k nm ot n ty re l,h=>by
   have I:=zAY f;simp only[Tm.stp];split
   ·exact h
   ·by_cases J:(Tm.mk k nm ot n ty re l).kd=10
    ·rw[if_pos J];exact Yy h (zA5 I _ 1 (ZC h))
    ·rw[if_neg J];cases O:goS (Tm.stp f) (Tm.mk k nm ot n ty re l) (l.take (Bk k l.length)) 0 with
     | none=>exact zAv h
     | some r=>obtain⟨j,x,U,Y,rfl⟩:=GE O;exact Yy h (I x (z8 h.2.2.2 (List.take_subset _ _ (oB U))))
def We F f:=∀(e:Tm) (d:D),e.Is d->e.F f->Qv F [.dg 9 d] (e.stp f)
theorem Tm.F.dp (h:e.F f):e.dp<=1073741824:=h.b
theorem YZ {nm ot}:(Tm.mk k nm ot n ty re l).pt i=l.getD i tm0:=rfl
theorem Gp {dy}(h:t.Is d)(I:t.G)(J:y.Is dy)(hi:i<t.as.length) N(Q:QT [.ag 9])(O:∀ d' N',N<=N'->(t.wth i y).Is d'->Q d' N'):
  ACalls prog 95 [.ag 9] [.dg 9 d,.j (i:Int),.dg 9 dy] N Q:=
 JF N _ _ _ Q λ_ _ N1 U=>Yn pC h I J hi (λd N=>Q d N) λd' N' h1 Y=>O _ _ aA Y
theorem Kg (hS:We 48 f){nm ot}(h:(Tm.mk k nm ot n0 ty re l).Is d)(O:(Tm.mk k nm ot n0 ty re l).F (f+1))(hi:i<l.length):
  Qv 156 [.dg 9 d,.j (i:Int)] ((Tm.mk k nm ot n0 ty re l).wth i (Tm.stp f (l.getD i tm0)).1,(Tm.stp f (l.getD i tm0)).2):=λN Q U=>by
 obtain⟨t0,t1,r0,r1,a,es,c,rfl,hh,Y,I⟩:=Tm.is_mk.1 h;have hl:=I.len;refine Nr N _ _ Q λ_=>⟨_,_,_,rfl,⟨aA,aA⟩,λN1 aa=>?_⟩
 rw[oI];refine hS _ _ (yi I hi) (O.mem _ (zO hi)) N1 _ λdx N2 ab hx _ _=>Br.beq (λh0 N3 ac=>?_) λh0 N4 ae=>?_
 ·refine U _ _ aA ?_;have e1:=XE f _ h0;simp only;rw[e1,<-YZ (k:=k) (nm:=nm) (ot:=ot) (n:=n0) (ty:=ty) (re:=re),Qq];exact h
 ·exact Gp h O.z.g hx hi N4 _ λd' N5 ah J _ _ N6 ai=>U _ _ aA J
theorem SQ (hS:We 48 f):∀(t:Tm)(d:D),t.Is d->t.F (f+1)->∀ m:Int,LvIn m t.dp->Wd 94 [.dg 9 d,.j m] (t.cod (Tm.stp f) m):=by
 refine Tm.ind λk nm ot n0 ty re l ih d hd hF m hm N Q J=>?_;have Y:=hd;obtain⟨t0,t1,r0,r1,a,es,c,rfl,hh,aj,ab⟩:=Tm.is_mk.1 hd;have hl:=ab.len;have loop:¬(k=11/\m=1)->yY Q N m 0 (.ag [.j k,.t nm,.t ot,.j n0,t0,t1,r0,r1,.sl a 9 es c]) 0 (bytes []) (bytes []) 0 0 none [] 0 0 none [] 0 none [] 0 N:=λaq=>by
  simp only[Tm.cod]at J;rw[if_neg aq]at J;refine up ab aj (λi xs=>∀ N',N<=N'->(match yO (Tm.stp f) xs (zK k m)with | none=>yO (Tm.stp f) l (zK k m)=none | some (l',r)=>yO (Tm.stp f) l (zK k m)=some (l.take i++l',r)) ->
   yY Q N m i (.ag [.j k,.t nm,.t ot,.j n0,t0,t1,r0,r1,.sl a 9 es c]) 0 (bytes []) (bytes []) 0 0 none [] 0 0 none [] 0 none [] 0 N') ?_ ?_ N (oC _) ?_
  ·intro i au hi N' aw O;simp only[yO]at O;rw[O]at J;refine rT ⟨_,_,_,rfl,?_⟩;rw[au];exact λN2 ak=>J _ _ aA Y
  ·intro i x xs I ax ay N' aw O;have hb:=I.b;have al:i<l.length:=(oD.1 I.g).1;refine rT ⟨_,_,_,rfl,?_⟩;rw[I.lt,oI,I.w];refine⟨_,_,_,rfl,⟨aA,aA⟩,λN1 az=>MU hm.b N1 _ λN2 ak _ N3 a6=>?_⟩;refine ih x I.m _ I.r ((hF.mem x I.m).up aA) _ (hm.next (dp_mem I.m)) N3 _ λdx N4 a7 hx _ _=>Br.of (λhv N5 a8=>?_) λhv=>?_
   ·simp only[yO]at O;rw[if_pos hv]at O;simp only at O;rw[O]at J;refine Gp Y hF.z.g hx al N5 _ λd' N6 ba ac _ _ N7 bb=>J _ _ aA ?_;have:l.take i++(x.cod (Tm.stp f) (zK k m)).1::xs=l.set i (x.cod (Tm.stp f) (zK k m)).1:=by rw[lK,if_pos al,ax]
    simp only;rw[this];exact ac
   ·refine ay _ aA ?_;simp only[yO]at O;rw[if_neg (by rw[hv];decide)]at O;cases hc:yO (Tm.stp f) xs (zK k m)with
    | none=>rw[hc]at O;exact O
    | some p=>obtain⟨l',r⟩:=p;rw[hc]at O;simp only at O ⊢;rw[O,vw I.g,oP];rfl
  ·cases hc:yO (Tm.stp f) l (zK k m)with
   | none=>rfl
   | some p=>obtain⟨l',r⟩:=p;simp
 refine JD N _ m Q λ_=>⟨_,rfl,Br.beq (λh1=>Br.beq (λh2=>?_) λh2=>loop λh=>h2 h.2) λh1=>loop λh=>h1 h.1⟩
 have bi:=(wY hF.ok).1 aA;have ae:0<l.length:=aA
 have ao:=zO ae;have U:=hF.mem _ ao;have ah:=yi ab ae;simp only[Tm.cod]at J;rw[if_pos ⟨h1,h2⟩]at J;unfold Yq at J;rw[YZ]at J;refine⟨_,_,_,rfl,⟨aA,aA⟩,λN1 az=>zu ah U.ok U.dp N1 _ λN2 ak _=>Br.not (λhr N3 a6=>?_) λhr=>?_⟩
 ·rw[if_neg (by rw[hr];decide)]at J;exact Kg hS Y hF ae N3 _ λdx N4 a7 hx _ _ N5 a8=>J _ _ aA hx
 ·rw[if_pos hr]at J;generalize l.getD 0 tm0=p at ah U hr J ao;cases p with
  | mk pk pn po pm pt pr pl=>
  obtain⟨u0,u1,v0,v1,a2,bj,c2,heq,bm,bc,aa⟩:=Tm.is_mk.1 ah;have bp:=aa.len;rw[heq];refine⟨_,rfl,Br.beq (λai=>?_) λai bq bh=>?_⟩
  ·rw[if_pos (by exact ai)]at J;have bt:=(wY U.ok).1 aA;have bg:=zO (l:=pl) (i:=0) aA;refine⟨_,_,_,rfl,⟨aA,aA⟩,λN6 ba=>?_⟩;refine Ma pC (yi aa (j:=0) aA) (z8 U.z.g.2.2.2 bg) (N0:=N) aA (λd N=>Q d 6 true N) λd' N7 bb ac _=>J _ _ aA ac
  ·rw[if_neg (by exact ai)]at J;exact J _ _ aA Y
def Ip (l:aP)(i:Nat):aM:=[.j (if 0<i then(l.getD 0 tm0).no else 0),.j (if 1<i then(l.getD 1 tm0).no else 0)]
theorem P8 (hi:i<2):(Ip l i).set i (.j ((l.getD i tm0).no))=Ip l (i+1):=by
 match i,hi with
 | 0,_=>rfl
 | 1,_=>rfl
theorem GC (h:l.length<=i):l.getD i tm0=tm0:=by rw[oA,oc h];rfl
theorem P7 (h:l.length<=2):Ip l l.length=[.j ((l.getD 0 tm0).no),.j ((l.getD 1 tm0).no)]:=by
 unfold Ip;by_cases I:0<l.length
 ·by_cases J:1<l.length
  ·rw[if_pos I,if_pos J]
  ·rw[if_pos I,if_neg J,GC (i:=1) aA];rfl
 ·rw[if_neg I,if_neg aA,GC (i:=0) aA,GC (i:=1) aA];rfl
theorem TZ s:rj s<=2:=by unfold rj;(repeat' split)<;>decide
theorem U6 n N(Q:QT [.ag 9])(J:∀ d N',N<=N'->(Ry 2 n).Is d->Q d N'):ACalls prog 149 [.ag 9] [.j n] N Q:=sk N n Q λN1 I=>J _ _ I K6
theorem SS n N(Q:QT [.ag 9])(J:∀ d N',N<=N'->(Ry 3 n).Is d->Q d N'):ACalls prog 80 [.ag 9] [.j n] N Q:=tI N n Q λN1 I=>J _ _ I K6
theorem GD {S:Tm->Tm × Int}{x xs}(h:x.res=true):goS S e (x::xs) i=goS S e xs (i+1):=by simp[goS,h]
theorem YX {nm ot}(h:∀ x∈l,x.kd=yU nm):(Tm.mk 4 nm ot n0 ty re l).opr l=(Ry (Iq nm) (yD nm (l.getD 0 tm0).no (l.getD 1 tm0).no).1,1):=by unfold Tm.opr;rw[if_pos (ob.2 λx I=>by rw[h x I];exact beq_self_eq_true _)];rfl
theorem YW {nm ot x}(I:x∈l)(h:x.kd≠yU nm):(Tm.mk 4 nm ot n0 ty re l).opr l=(Tm.mk 4 nm ot n0 ty re l,0):=by unfold Tm.opr;rw[if_neg λhc=>h (by have:=ob.1 hc _ I;simpa [Tm.nm]using this)]
theorem SR {nm ot t0 t1 r0 r1}(ae:(Tm.mk 4 nm ot n0 ty re l).Is (.ag [.j 4,.t nm,.t ot,.j n0,t0,t1,r0,r1,.sl a 9 es c]))(ab:All2 Tm.Is l es)(ac:es.length<=4611686018427387904)(ah:l.length<=2){Q:QT [.ag 9,.i]}(U:∀ d N',N<=N'->((Tm.mk 4 nm ot n0 ty re l).opr l).1.Is d->Q d ((Tm.mk 4 nm ot n0 ty re l).opr l).2 N') N'(O:N<=N'):
  xQ Q N (yU nm) 2 2 0 (.ag [.j 4,.t nm,.t ot,.j n0,t0,t1,r0,r1,.sl a 9 es c]) 0 (bytes []) (bytes []) 0 0 none [] 0 0 none [] 0 none [] 0 [.j 0,.j 0] 2 N':=by
 have hl:=ab.len;refine up ab ac (λi xs=>∀ N',N<=N'->(∀ j x,j<i->l[j]?=some x->x.kd=yU nm)->xQ Q N (yU nm) 2 2 i (.ag [.j 4,.t nm,.t ot,.j n0,t0,t1,r0,r1,.sl a 9 es c]) 0 (bytes []) (bytes []) 0 0 none [] 0 0 none [] 0 none [] 0 (Ip l i) 2 N') ?_ ?_ N' O (λj x h=>absurd h aA)
 ·intro i ai hi N' O hk;rw[YX λx Y=>by obtain⟨j,hj⟩:=oS.1 Y;exact hk j x (by have:=(oD.1 hj).1;omega) hj]at U;refine pW ⟨_,_,_,rfl,?_⟩;rw[ai];have aj:i=l.length:=aA
  rw[aj,P7 ah];refine⟨_,rfl,⟨⟨aA,aA,aB⟩,aB,_,rfl,⟨aA,aA,aB⟩,aB,_,rfl,λN2 a6=>Ie _ _ _ N2 _ λN3 a7 _=>⟨_,rfl,?_⟩⟩⟩;have J:M0 nm=true->∀ N4,N3<=N4->ACalls prog 149 [.ag 9] [.j (yD nm (l.getD 0 tm0).no (l.getD 1 tm0).no).1] N4 (λx N5=>N4<=N5->Bel N5 x->∀ N6,N5<=N6->Q x 1 N6):=λho N4 ak=>by rw[show Iq nm=2 by unfold Iq;rw[if_pos ho]]at U;exact U6 _ N4 _ λx N5 al Y _ _ N6 ao=>U _ _ aA Y
  refine Br.str (λe1=>J (by simp[M0,e1])) λe1=>⟨_,rfl,Br.str (λe2=>J (by simp[M0,e2])) λe2=>⟨_,rfl,Br.str (λe3=>J (by simp[M0,e3])) λe3 N4 ak=>?_⟩⟩
  rw[show Iq nm=3 by unfold Iq;rw[if_neg (by simp[M0,e1,e2,e3])]]at U;exact SS _ N4 _ λx N5 al Y _ _ N6 ao=>U _ _ aA Y
 ·intro i x xs I a8 aq N' O hk;have hb:=I.b;have Y:=I.r;refine pW ⟨_,_,_,rfl,?_⟩;rw[I.lt,oI,I.w];have au:l.getD i tm0=x:=by rw[oA,I.g];rfl
  cases x with
  | mk pk pn po pm pt pr pl=>
  obtain⟨u0,u1,v0,v1,a2,ba,c2,heq,bb,aw,az⟩:=Tm.is_mk.1 Y;refine⟨_,_,_,rfl,⟨aA,aA⟩,pk,by rw[heq];rfl,Br.bne (λax N1 bc=>?_) λhe=>⟨_,_,_,rfl,⟨aA,aA⟩,pm,by rw[heq];rfl,⟨aA,aA,by simp only[Ip,oJ,oN];omega⟩,by simp only[Ip,oJ,oN];omega,?_⟩⟩
  ·rw[YW I.m ax]at U;exact U _ _ aA ae
  ·rw[nI];have aa:=P8 (l:=l) (i:=i) aA;rw[au]at aa;simp only[Tm.no]at aa;rw[aa];refine aq _ O λj y hj hy=>?_;by_cases ay:j<i
   ·exact hk j y ay hy
   ·have:j=i:=aA
    subst this;rw[I.g]at hy;rw[<-oZ hy];exact he
theorem Xg (hS:We 48 f){nm ot}(hd:(Tm.mk 4 nm ot n0 ty re l).Is d)(hF:(Tm.mk 4 nm ot n0 ty re l).F (f+1)){r:Tm × Int}(hr:(match goS (Tm.stp f) (Tm.mk 4 nm ot n0 ty re l) l 0 with | some r=>r | none=>(Tm.mk 4 nm ot n0 ty re l).opr l)=r):
  Qv 92 [.dg 9 d] r:=λN Q hQ=>by
 have aa:=hd;obtain⟨t0,t1,r0,r1,a,es,c,rfl,hh,U,Y⟩:=Tm.is_mk.1 hd;have hl:=Y.len;have ae:l.length<=2:=by have h1:=(wY hF.ok).2.2.2.2 rfl;have h2:=TZ nm;omega
 have J:(∀ x∈l,x.res=true)->∀ N',N<=N'->xQ Q N (yU nm) 2 2 0 (.ag [.j 4,.t nm,.t ot,.j n0,t0,t1,r0,r1,.sl a 9 es c]) 0 (bytes []) (bytes []) 0 0 none [] 0 0 none [] 0 none [] 0 [.j 0,.j 0] 2 N':=λab N' O=>by
  have hg:goS (Tm.stp f) (Tm.mk 4 nm ot n0 ty re l) l 0=none:=by
   have:∀(xs:aP) (i:Nat),(∀ x∈xs,x.res=true)->goS (Tm.stp f) (Tm.mk 4 nm ot n0 ty re l) xs i=none:=by
    intro xs
    induction xs with
    | nil=>intro i _;rfl
    | cons x xs ih=>intro i h;rw[GD (h x aB)];exact ih _ λy hy=>h y (by simp[hy])
   exact this l 0 ab
  rw[hg]at hr;simp only at hr;subst hr;exact SR aa Y U ae hQ N' O
 have first:yX Q N (yU nm) 2 2 0 (.ag [.j 4,.t nm,.t ot,.j n0,t0,t1,r0,r1,.sl a 9 es c]) 0 (bytes []) (bytes []) 0 0 none [] 0 0 none [] 0 none [] 0 [.j 0,.j 0] 2 N:=by
  refine up Y U (λi xs=>∀ N',N<=N'->(∀ j x,j<i->l[j]?=some x->x.res=true)->(match goS (Tm.stp f) (Tm.mk 4 nm ot n0 ty re l) xs i with | some r=>r | none=>(Tm.mk 4 nm ot n0 ty re l).opr l)=r->yX Q N (yU nm) 2 2 i (.ag [.j 4,.t nm,.t ot,.j n0,t0,t1,r0,r1,.sl a 9 es c]) 0 (bytes []) (bytes []) 0 0 none [] 0 0 none [] 0 none [] 0 [.j 0,.j 0] 2 N') ?_ ?_ N (oC _) (λj x h=>absurd h aA) hr
  ·intro i ah hi N' O hk _;refine BS ⟨_,_,_,rfl,?_⟩;rw[ah];refine J (λx hx=>?_) N' O;obtain⟨j,hj⟩:=oS.1 hx;exact hk j x (by have:=(oD.1 hj).1;omega) hj
  ·intro i x xs I al ai N' O hk he;have hb:=I.b;have aj:i<l.length:=(oD.1 I.g).1;obtain rfl:l.getD i tm0=x:=by rw[oA,I.g];rfl
   have ac:=hF.mem _ I.m;refine BS ⟨_,_,_,rfl,?_⟩;rw[I.lt,oI,I.w];refine⟨_,_,_,rfl,⟨aA,aA⟩,λN1 ao=>zu I.r ac.ok ac.dp N1 _ λN2 aq _=>Br.not (λhv N3 au=>?_) λhv=>?_⟩
   ·simp only[goS]at he;rw[if_neg (by rw[hv];decide)]at he;simp only at he;subst he;exact Kg hS aa hF aj N3 _ λdx N4 aw hx _ _ N5 ax=>hQ _ _ aA hx
   ·rw[GD hv]at he;refine ai _ aA (λj y hj hy=>?_) he;by_cases ak:j<i
    ·exact hk j y ak hy
    ·have:j=i:=aA
     subst this;rw[I.g]at hy;rw[<-oZ hy];exact hv
 refine Ns N _ Q λ_=>⟨_,rfl,Br.str (λe1=>?_) λe1=>⟨_,rfl,Br.str (λe2=>?_) λe2=>⟨_,rfl,Br.str (λe3=>?_) λe3=>?_⟩⟩⟩
 ·have:yU nm=3:=by simp[yU,uW,e1]
  rw[this]at first;exact first
 ·have:yU nm=3:=by simp[yU,uW,e2]
  rw[this]at first;exact first
 ·have:yU nm=3:=by simp[yU,uW,e3]
  rw[this]at first;exact first
 ·have:yU nm=2:=by simp[yU,uW,e1,e2,e3]
  rw[this]at first;exact first
end Go.Proofs.YtlaniepnglheoaaGreatDoor
