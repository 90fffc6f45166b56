/- Free names, fresh names, substitution: what they are (no program in sight). -/
import Derived.Test.YtlahkdflngobiaaGreatDoorB2
import Derived.Lib.ItoaNum
import Derived.Test.YtlahkdflngobiaaGreatDoorB3
import Derived.Test.YtlahkdflngobiaaGreatDoorKu
set_option linter.unusedVariables false
set_option linter.unusedSimpArgs false
namespace Go.Proofs.YtlahkdflngobiaaGreatDoor
open Go Go.Proofs Go.Proofs.Tryz Go.IntWalk
instance decMem (s:ByteArray) (l:List ByteArray):Decidable (s∈l):=decidable_of_iff ((l.any fun x=>decide (x=s))=true) (by simp)
/-- those of a list that are new go behind -/
def dd:List ByteArray->List ByteArray->List ByteArray
 | out,[]=>out
 | out,s::l=>dd (if s∈out then out else out++[s]) l
def si (a b:List ByteArray):List ByteArray:=dd (dd [] a) b
def pP (I l:List ByteArray):List ByteArray:=l.filter λs=>decide (s∉I)
theorem zSv:∀ (out a b:List ByteArray),dd out (a++b)=dd (dd out a) b
 | out,[],b=>rfl
 | out,s::a,b=>by simp only [o9,dd];exact zSv _ a b
theorem zPi:∀ (out l:List ByteArray) (x:ByteArray),x∈dd out l↔x∈out\/x∈l
 | out,[],x=>by simp [dd]
 | out,s::l,x=>by
   simp only [dd]
   rw [zPi]
   split
   ·rename_i h
    constructor
    ·rintro (h1 | h1)
     ·exact .inl h1
     ·exact .inr (by simp [h1])
    ·rintro (h1 | h1)
     ·exact .inl h1
     ·rcases oH.1 h1 with rfl | h1
      ·exact .inl h
      ·exact .inr h1
   ·simp only [oG,oR,oH,om,mB,or_assoc]
theorem zLR:∀ (out l:List ByteArray),(dd out l).length<=out.length+l.length
 | out,[]=>by simp [dd]
 | out,s::l=>by
   simp only [dd]
   have:=zLR (if s∈out then out else out++[s]) l
   split at this<;>simp_all<;>omega
theorem zBj {a b:List ByteArray} {x:ByteArray}:x∈si a b↔x∈a\/x∈b:=by
 unfold si;rw [zPi,zPi];simp
theorem zRE {n l:List ByteArray} {x:ByteArray}:x∈pP n l↔x∈l/\x∉n:=by simp [pP]
/-- different elements of a list are no more than the list has -/
theorem zPv:∀ {l m:List ByteArray},l.Nodup->(∀ x∈l,x∈m)->l.length<=m.length
 | [],m,_,_=>Nat.zero_le _
 | x::l,m,J,hs=>by
   obtain ⟨O,h2⟩:=nh.1 J
   have hx:=hs x (by simp)
   have h3:=zPv (l:=l) (m:=m.filter λy=>decide (y≠x)) h2 λy I=>by
    rw [nx]
    exact ⟨hs y (by simp [I]),by simp;exact λhc=>O (hc ▸ I)⟩
   have h4:=List.length_filter_lt_length_iff_exists (p:=λy=>decide (y≠x)).2 ⟨x,hx,by simp⟩
   simp only [oJ]
   omega
def qk (k:Int) (n:Nat):Int:=if k=6/\n=1 then 0 else if k=8/\n=2 then 1 else if k=9/\n=1 then 0 else -1
def bdN (k:Int) (nm ot:ByteArray) (n:Nat):List ByteArray:=if k=6/\n=1 then [nm] else if k=8/\n=2 then [nm] else if k=9/\n=1 then [nm,ot] else []
theorem zPr (k:Int) (nm ot:ByteArray) (n:Nat):(bdN k nm ot n).length<=2:=by unfold bdN;(repeat' split)<;>simp
mutual
def Tm.fv:Tm->List ByteArray
 | .mk k nm ot _ _ _ l=>if k=1 then [nm] else qj l (qk k l.length) (bdN k nm ot l.length) 0 []
def qj:List Tm->Int->List ByteArray->Nat->List ByteArray->List ByteArray
 | [],_,_,_,out=>out
 | x::xs,at_,ns,i,out=>qj xs at_ ns (i+1) (si out (if (i:Int)=at_ then pP ns x.fv else x.fv))
end
/-- the free names of the part at a place -/
def fvI (at_:Int) (ns:List ByteArray) (i:Nat) (x:Tm):List ByteArray:=if (i:Int)=at_ then pP ns x.fv else x.fv
theorem zLP:∀ (l:List Tm) (at_:Int) (ns:List ByteArray) (i:Nat) (out:List ByteArray) (s:ByteArray),s∈qj l at_ ns i out↔s∈out\/∃ (j:Nat) (x:Tm),l[j]?=some x/\s∈fvI at_ ns (i+j) x
 | [],_,_,_,out,s=>by simp [qj]
 | y :: l,at_,ns,i,out,s=>by
   simp only [qj]
   rw [zLP,zBj]
   constructor
   ·rintro ((h | h) | ⟨j,x,I,J⟩)
    ·exact .inl h
    ·exact .inr ⟨0,y,rfl,h⟩
    ·exact .inr ⟨j+1,x,by simpa using I,by rw [show i+(j+1)=i+1+j by omega];exact J⟩
   ·rintro (h | ⟨j,x,I,J⟩)
    ·exact .inl (.inl h)
    ·cases j with
     | zero=>simp at I;subst I;exact .inl (.inr J)
     | succ j=>exact .inr ⟨j,x,by simpa using I,by rw [show i+1+j=i+(j+1) by omega];exact J⟩
theorem Tm.fv_mem {k:Int} {nm ot:ByteArray} {n:Int} {ty re:Ty} {l:List Tm} {s:ByteArray}:s∈(Tm.mk k nm ot n ty re l).fv↔(k=1/\s=nm)\/(k≠1/\∃ (j:Nat) (x:Tm),l[j]?=some x/\s∈fvI (qk k l.length) (bdN k nm ot l.length) j x):=by
 simp only [Tm.fv]
 by_cases I:k=1
 ·simp [I]
 ·rw [if_neg I,zLP];simp [I]
def sd (k:Nat):ByteArray:=⟨(118::Lib.decDigits k).toArray⟩
theorem zTI:∀ (a b:Nat),Lib.decDigits a=Lib.decDigits b->a=b:=by
 intro a
 have hn:∀ u,(Lib.decDigits u).length=Lib.nDigits u:=Lib.decDigits_length
 have e1:∀ u,u<10->Lib.decDigits u=[UInt8.ofNat (48+u)]:=λu h=>by rw [Lib.decDigits,dif_pos h]
 have e2:∀ u,¬u<10->Lib.decDigits u=Lib.decDigits (u / 10)++[UInt8.ofNat (48+u % 10)]:=λu h=>by rw [Lib.decDigits,dif_neg h]
 have u8:∀ x y:Nat,x<10->y<10->UInt8.ofNat (48+x)=UInt8.ofNat (48+y)->x=y:=λx y hx hy h=>by
  have:=nL UInt8.toNat h
  simp only [UInt8.toNat_ofNat'] at this
  omega
 induction a using Nat.strongRecOn with
 | _ a ih=>
   intro b h
   have J:=nL List.length h
   rw [hn,hn] at J
   by_cases I:a<10
   ·rw [Lib.nDigits_small I] at J
    have O:b<10:=by
     refine lJ λhc=>?_
     rw [Lib.nDigits_big (by omega)] at J
     have:=Lib.nDigits_pos (b / 10)
     omega
    rw [e1 a I,e1 b O] at h
    exact u8 a b I O (by simpa using h)
   ·have O:¬b<10:=λhc=>by
     rw [Lib.nDigits_big I,Lib.nDigits_small hc] at J
     have:=Lib.nDigits_pos (a / 10)
     omega
    rw [e2 a I,e2 b O] at h
    obtain ⟨h1,h2⟩:=List.append_inj' h rfl
    have:=ih (a / 10) (by omega) (b / 10) h1
    have:=u8 (a % 10) (b % 10) (by omega) (by omega) (by simpa using h2)
    omega
theorem zPz {a b:Nat} (h:sd a=sd b):a=b:=by
 have:(118::Lib.decDigits a:List UInt8)=118::Lib.decDigits b:=by
  have:=nL (λx:ByteArray=>x.data.toList) h
  simpa [sd] using this
 exact zTI a b (by simpa using this)
def pD:Nat->Nat->List ByteArray->Nat
 | 0,k,_=>k
 | f+1,k,l=>if sd k∈l then pD f (k+1) l else k
def fresh (l:List ByteArray):ByteArray:=sd (pD l.length 1 l)
theorem zRF:∀ (n k:Nat),((List.range n).map λi=>sd (k+i)).Nodup:=λn k=>by
 rw [List.nodup_iff_pairwise_ne,List.pairwise_map]
 refine List.Pairwise.imp (λ{a b} h hc=>?_) (List.nodup_iff_pairwise_ne.1 List.nodup_range)
 have:=zPz hc
 omega
theorem zSq (l:List ByteArray) (k:Nat) (h:∀ j,1<=j->j<k->sd j∈l) (J:1<=k):k<=l.length+1:=by
 have:=zPv (zRF (k - 1) 1) (m:=l) λx I=>by
  obtain ⟨i,hi,rfl⟩:=oU.1 I
  rw [List.mem_range] at hi
  exact h _ (by omega) (by omega)
 simp at this
 omega
theorem zGe (l:List ByteArray):∀ (f k:Nat),1<=k->k+f=l.length+1->(∀ j,1<=j->j<k->sd j∈l)->1<=pD f k l/\pD f k l<=l.length+1/\sd (pD f k l)∉l/\∀ j,1<=j->j<pD f k l->sd j∈l
 | 0,k,J,h2,I=>by
   simp only [pD]
   refine ⟨J,by omega,λhc=>?_,I⟩
   have:=zSq l (k+1) (λj O h5=>by
    by_cases h6:j=k
    ·subst h6;exact hc
    ·exact I j O (by omega)) (by omega)
   omega
 | f + 1,k,J,h2,I=>by
   simp only [pD]
   split
   ·rename_i hm
    exact zGe l f (k+1) (by omega) (by omega) λj O h5=>by
     by_cases h6:j=k
     ·subst h6;exact hm
     ·exact I j O (by omega)
   ·rename_i hm
    exact ⟨J,by omega,hm,I⟩
theorem zAP (l:List ByteArray):∃ k,fresh l=sd k/\1<=k/\k<=l.length+1/\sd k∉l/\∀ j,1<=j->j<k->sd j∈l:=by
 obtain ⟨I,J,O,h4⟩:=zGe l l.length 1 (oB _) (by omega) λj I J=>by omega
 exact ⟨_,rfl,I,J,O,h4⟩
theorem zQA (l:List ByteArray):fresh l∉l:=by
 obtain ⟨k,h,_,_,I,_⟩:=zAP l
 rw [h];exact I
theorem zRO {l m:List ByteArray} (h:∀ x,x∈l↔x∈m):fresh l=fresh m:=by
 obtain ⟨k,e1,a1,a2,a3,a4⟩:=zAP l
 obtain ⟨j,I,J,b2,O,b4⟩:=zAP m
 rw [e1,I]
 congr 1
 refine Nat.le_antisymm (Nat.le_of_not_lt λhc=>?_) (Nat.le_of_not_lt λhc=>?_)
 ·exact O ((h _).1 (a4 j J hc))
 ·exact a3 ((h _).2 (b4 k a1 hc))
def zUg (s:ByteArray):Tm:=.mk 1 s (bytes []) 0 (.mk 0 []) (.mk 0 []) []
mutual
/-- types and rows of a term are not too long -/
def Tm.G:Tm->Prop
 | .mk _ _ _ _ ty re l=>ty.cnt<=1073741824/\re.cnt<=1073741824/\l.length<=1073741824/\zU7 l
def zU7:List Tm->Prop
 | []=>True
 | t::I=>t.G/\zU7 I
end
theorem zIX:∀ {l:List Tm} {x:Tm},zU7 l->x∈l->x.G
 | t::I,x,h,hx=>by
   rcases oH.1 hx with rfl | hx
   ·exact h.1
   ·exact zIX h.2 hx
mutual
theorem Tm.G_cnt:∀ t:Tm,t.cnt<=1073741824->t.G
 | .mk _ _ _ _ ty re l,h=>by
   simp only [Tm.cnt] at h
   have:=y6 l
   exact ⟨by omega,by omega,by omega,zMy l (by omega)⟩
theorem zMy:∀ l:List Tm,za l<=1073741824->zU7 l
 | [],_=>trivial
 | t::I,h=>by
   simp only [za] at h
   exact ⟨Tm.G_cnt t (by omega),zMy I (by omega)⟩
end
/-- the cells of a term that was made anew, and nothing else -/
def zRh (t:Tm) (N:Nat) (Q:QT [.pk,.i,.str,.str,.i,.dc,.dc,.dc,.dc,.row 36 9]):Prop:=
 match t with | .mk k nm ot n ty re l=>∀ J O x6 x7 I c' N',N<=N'->Tm.Hd nm ot ty re J O x6 x7->All2 Tm.Is l I->OwnL N N' ([J,O,x6,x7]++I)->Q k nm ot n J O x6 x7 I c' N'
theorem qu {N N3:Nat} {a:Option Addr} {ds:List D} {es:List D} (I:Fresh N N3 a ds) (h:∀ b,b∈zC es->∃ d∈ds,b∈d.foot):∀ ad,a=some ad->ad.block∉zC es:=λad J hc=>by
 obtain ⟨d,hd,O⟩:=h _ hc
 exact I.ap ad J d hd O
theorem zGP:∀ (t:Tm) (d:D),t.Is d->t.G->∀ (N:Nat) (Q:QT [.pk,.i,.str,.str,.i,.dc,.dc,.dc,.dc,.row 36 9]),zRh t N Q ->
  ACalls prog 34 [.pk,.i,.str,.str,.i,.dc,.dc,.dc,.dc,.row 36 9] [.dg 9 d] N Q:=by
 refine Tm.ind λk nm ot n0 ty re l ih d hd hG N Q hQ=>?_
 obtain ⟨t0,t1,r0,r1,a,es,c,rfl,hh,hlen,ab⟩:=Tm.is_mk.1 hd
 have hl:=ab.len
 obtain ⟨g1,g2,g3,g4⟩:=hG
 simp only [zRh] at hQ
 refine zCA N _ Q λ_=>?_
 repeat' first|with_reducible intro _|simp only[Y1,Y2,Y3,Y4]|with_reducible refine X ?_ ?_|refine⟨_,_,_,rfl,?_⟩|refine⟨_,rfl,?_⟩|refine And.intro (by first|omega|trivial|(show _=_;rfl)|(with_reducible constructor)<;>first|omega|trivial|rfl) ?_|refine (zT _ _ hh.ty g1) _ _ ?_|refine (zT _ _ hh.re g2) _ _ ?_|fail
 rename_i N1 ah J N2 ay hx ai _ _ N3 aj y N4 az hy ak _ _
 have al:Tm.Hd nm ot ty re (J.cell 0) (J.cell 1) (y.cell 0) (y.cell 1):=⟨hh.nm,hh.ot,Ty.is_cells hx,Ty.is_cells hy⟩
 have am:OwnL N N4 ([J.cell 0,J.cell 1,y.cell 0,y.cell 1]++[]):=by
  have h:=y7 ((rA hx ai).mono ah (oB _)) ((rA hy ak).mono aj (oB _)) (by omega) (by omega)
  exact h
 refine up ab hlen (λi xs=>∀ (done:List D) (q N':Nat),N4<=N'->All2 Tm.Is (l.take i) done->done.length=i->OwnL N N' ([J.cell 0,J.cell 1,y.cell 0,y.cell 1]++done) ->
  wV Q N i (.ag [.j k,.t nm,.t ot,.j n0,t0,t1,r0,r1,.sl a 9 es c]) 0 (bytes []) (bytes []) 0 0 none [] 0 0 none [] 0 none [] 0 k nm ot n0 (J.cell 0) (J.cell 1) (y.cell 0) (y.cell 1) done.length q done q N') ?_ ?_ [] 0 N4 (oB _) rfl rfl am
 ·intro i ao hi done q N' aq hd ac ho
  refine vz _ _ _ _ _ _ _ _ _ _ _ _ _ _ _ _ _ _ _ _ _ _ _ _ _ _ _ _ _ _ _ _ ⟨_,_,_,rfl,?_⟩
  rw [od (by omega)] at hd
  rw [ao]
  exact ⟨⟨rfl,rfl⟩,λN5 aa=>hQ _ _ _ _ _ _ _ (by omega) al hd (ho.mono (oB _) aa)⟩
 ·intro i x xs I _ au done q N' aq hd ac ho
  have hb:=I.b
  have ae:=zIX g4 I.m
  refine vz _ _ _ _ _ _ _ _ _ _ _ _ _ _ _ _ _ _ _ _ _ _ _ _ _ _ _ _ _ _ _ _ ⟨_,_,_,rfl,?_⟩
  rw [I.lt]
  refine ⟨_,_,_,rfl,⟨by omega,by omega⟩,λN5 aa=>?_⟩
  rw [oK,I.w]
  refine ih x I.m _ I.r ae _ _ ?_
  cases x with
  | mk k2 a6 a7 n2 a8 ba l2=>
    intro x4 x5 x6 x7 es2 c2 N6 bb aw O ax _ _
    have bc:=O.len
    have bd:=ae.2.2.1
    refine ⟨⟨rfl,rfl⟩,λa2 N7 bg hf=>⟨⟨rfl,rfl⟩,by unfold zB;rw [oE];simp only [oJ,oM];omega,λc3=>?_⟩⟩
    refine au _ _ _ (by omega) (by rw [xK I.g];exact hd.snoc (Tm.is_mk.2 ⟨_,_,_,_,_,_,_,rfl,aw,by omega,O⟩)) (by simp [ac]) ?_
    refine zLL (hd:=[J.cell 0,J.cell 1,y.cell 0,y.cell 1]) (xs:=[x4,x5,x6,x7]) (ho.mono (oB _) aa) ax hf (by omega) (by omega) (by omega) (qu hf λb hb=>?_) (qu hf λb hb=>?_)
    ·simp only [o9,oW,zC,oG] at hb
     rcases hb with hb | hb | hb | hb | hb
     ·exact ⟨_,by simp,hb⟩
     ·exact ⟨J.cell 1,by simp,hb⟩
     ·exact ⟨y.cell 0,by simp,hb⟩
     ·exact ⟨y.cell 1,by simp,hb⟩
     ·exact ⟨.ag done,by simp,by simpa only [D.foot] using hb⟩
    ·simp only [o9,oW,zC,oG] at hb
     rcases hb with hb | hb | hb | hb | hb
     ·exact ⟨x4,by simp,hb⟩
     ·exact ⟨x5,by simp,hb⟩
     ·exact ⟨x6,by simp,hb⟩
     ·exact ⟨x7,by simp,hb⟩
     ·exact ⟨.ag es2,by simp,by simpa only [D.foot] using hb⟩
/-- a term's head anew; its parts are those handed in, and come back -/
theorem zPE {k:Int} {nm ot:ByteArray} {n0:Int} {ty re:Ty} {t0 t1 r0 r1 x:D} (I:Tm.Hd nm ot ty re t0 t1 r0 r1) (h1:ty.cnt<=1073741824) (h2:re.cnt<=1073741824) (a:Option Addr) (es:List D) (c:Nat) (N:Nat)
  (Q:QT [.pk,.i,.str,.str,.i,.dc,.dc,.dc,.dc,.bk 1]) (hQ:∀ J O x6 x7 N',N<=N'->Tm.Hd nm ot ty re J O x6 x7->OwnL N N' [J,O,x6,x7]->Q k nm ot n0 J O x6 x7 (.sl a 9 es c) N') :
  ACalls prog 91 [.pk,.i,.str,.str,.i,.dc,.dc,.dc,.dc,.bk 1] [.dg 9 (.ag [.j k,.t nm,.t ot,.j n0,t0,t1,r0,r1,x]),.sv a 9 es c] N Q:=by
 refine zEf N _ a es c Q λ_ _=>?_
 repeat' first|with_reducible intro _|simp only[Y1,Y2,Y3,Y4]|with_reducible refine X ?_ ?_|refine⟨_,_,_,rfl,?_⟩|refine⟨_,rfl,?_⟩|refine And.intro (by first|omega|trivial|(show _=_;rfl)|(with_reducible constructor)<;>first|omega|trivial|rfl) ?_|refine (zJF _ _ I.ty h1) _ _ ?_|refine (zJF _ _ I.re h2) _ _ ?_|fail
 rename_i N1 aa x1 N2 ai hx ab _ _ N3 ac y N4 aj hy ae _ _ N5 ah
 refine hQ _ _ _ _ _ (by omega) ⟨I.nm,I.ot,Ty.is_cells hx,Ty.is_cells hy⟩ ?_
 exact y7 ((rA hx ab).mono aa (oB _)) ((rA hy ae).mono ac ah) (by omega) (by omega)
theorem zSu:∀ (t:Tm) (d:D),t.Is d->t.G->∀ (N:Nat) (Q:QT [.pk,.i,.str,.str,.i,.dc,.dc,.dc,.dc,.row 36 9]),zRh t N Q ->
  ACalls prog 43 [.pk,.i,.str,.str,.i,.dc,.dc,.dc,.dc,.row 36 9] [.dg 9 d] N Q:=by
 refine Tm.ind λk nm ot n0 ty re l ih d hd hG N Q hQ=>?_
 obtain ⟨t0,t1,r0,r1,a,es,c,rfl,hh,hlen,O⟩:=Tm.is_mk.1 hd
 have hl:=O.len
 obtain ⟨g1,g2,g3,g4⟩:=hG
 simp only [zRh] at hQ
 refine zFb N _ Q λ_ N1 ai=>?_
 refine qw N1 _ _ λ_=>⟨_,_,_,rfl,?_⟩
 refine up O hlen (λi xs=>∀ (done:List D) (q N':Nat),N1<=N'->All2 Tm.Is (l.take i) done->done.length=i->OwnL N1 N' done ->
  xG _ N1 done.length q a es c es.length i (.ag [.j k,.t nm,.t ot,.j n0,t0,t1,r0,r1,.sl a 9 es c]) 0 (bytes []) (bytes []) 0 0 none [] 0 0 none [] 0 none [] 0 done q N') ?_ ?_ [] 0 N1 (oB _) rfl rfl zBw
 ·intro i aj hi done q N' ak hd aa ho
  refine u7 _ _ _ _ _ _ _ _ _ _ _ _ _ _ _ _ _ _ _ _ _ _ _ _ _ _ _ _ ?_
  rw [od (by omega)] at hd
  rw [aj]
  refine ⟨⟨rfl,rfl⟩,λa1 a6 _ N4 al ab=>?_⟩
  refine zPE hh g1 g2 a1 done q N4 _ λx4 x5 x6 x7 N5 ac am ae _=>⟨rfl,?_⟩
  have off:∀ y∈[x4,x5,x6,x7],Off [a1] y:=λy hy a' ao ad aq hc=>by
   have h1:=ab a' ao ad aq
   have h2:=ae.lo _ (zH.2 ⟨y,hy,hc⟩)
   omega
  refine ⟨off x4 (by simp),off x5 (by simp),off x6 (by simp),off x7 (by simp),⟨rfl,rfl⟩,λN6 au _ _=>⟨⟨rfl,rfl⟩,λN7 aw=>?_⟩⟩
  exact hQ _ _ _ _ _ _ _ (by omega) am hd (zDl (N1:=N4) (ae.mono (oB _) (by omega)) (ho.mono ai al) (by omega) (by omega))
 ·intro i x xs I _ ax done q N' ak hd aa ho
  have hb:=I.b
  have ah:=zIX g4 I.m
  refine u7 _ _ _ _ _ _ _ _ _ _ _ _ _ _ _ _ _ _ _ _ _ _ _ _ _ _ _ _ ?_
  rw [I.lt]
  refine ⟨⟨by omega,by omega⟩,λN5 ac=>?_⟩
  rw [oK,I.w]
  refine ih x I.m _ I.r ah _ _ ?_
  cases x with
  | mk k2 a7 a8 n2 ba bb l2=>
    intro x4 x5 x6 x7 es2 c2 N6 au ay J az _ _
    have bc:=J.len
    have bd:=ah.2.2.1
    refine ⟨⟨rfl,rfl⟩,λa2 N7 aw hf=>⟨⟨rfl,rfl⟩,by unfold zB;rw [oE];simp only [oJ,oM];omega,λc3=>?_⟩⟩
    refine ax _ _ _ (by omega) (by rw [xK I.g];exact hd.snoc (Tm.is_mk.2 ⟨_,_,_,_,_,_,_,rfl,ay,by omega,J⟩)) (by simp [aa]) ?_
    refine zLL (hd:=[]) (xs:=[x4,x5,x6,x7]) (ho.mono (oB _) ac) az hf (by omega) (by omega) (by omega) (qu hf λb hb=>?_) (qu hf λb hb=>?_)
    ·exact ⟨.ag done,by simp,by simpa only [D.foot,oW] using hb⟩
    ·simp only [o9,oW,zC,oG] at hb
     rcases hb with hb | hb | hb | hb | hb
     ·exact ⟨x4,by simp,hb⟩
     ·exact ⟨x5,by simp,hb⟩
     ·exact ⟨x6,by simp,hb⟩
     ·exact ⟨x7,by simp,hb⟩
     ·exact ⟨.ag es2,by simp,by simpa only [D.foot] using hb⟩
theorem rO:∀ l:List ByteArray,zC (zA l)=[]
 | []=>rfl
 | s::l=>by have:=rO l;simp only [zA,oh,zC,D.foot,oW] at this ⊢;exact this
theorem zIA:∀ l:List ByteArray,xp (zA l)
 | []=>trivial
 | s::l=>⟨trivial,zIA l⟩
theorem zOs {N N':Nat} (l:List ByteArray):OwnL N N' (zA l):=⟨by rw [rO];exact mK,zIA l,by rw [rO];simp,by rw [rO];simp⟩
theorem wP {N N' M:Nat} {a:Option Addr} {l:List ByteArray} {c:Nat} {ds:List D} (I:Fresh N N' a (.ag (zA l)::ds)) (h:N'<=M):Own N M (.sl a 0 (zA l) c):=(qm (N1:=N') (zOs l) I (oB _)).mono (oB _) h
theorem rT {bs:List (Option Addr)} (l:List ByteArray):Off bs (.ag (zA l)):=λa _ ad _ hc=>by simp only [D.foot,rO] at hc;simp at hc
/-- names, handed back as a row of their own -/
def zQg (f:FuncId) (args:List PV) (l:List ByteArray):Prop:=∀ (N:Nat) (Q:QT [.sl 0]),(∀ a c N',N<=N'->Own N N' (.sl a 0 (zA l) c)->Q a (zA l) c N')->ACalls prog f [.sl 0] args N Q
def zRm (f:FuncId) (args:List PV) (l:List ByteArray):Prop:=∀ (N:Nat) (Q:QT [.row 9 0]),(∀ c N',N<=N'->Q (zA l) c N')->ACalls prog f [.row 9 0] args N Q
theorem zEt {l:List ByteArray} {s:ByteArray} (h:l.length<=8796093022207):zB (zA l) [.t s] 16:=by
 unfold zB;rw [oE,zO];simp only [oJ,oM];omega
theorem zIQ (l:List ByteArray) (hl:l.length<=2199023255552) (a:Option Addr) (c:Nat) (s:ByteArray):zQg 121 [.sv a 0 (zA l) c,.str s] (l.filter λx=>decide (x≠s)):=λN Q hQ=>by
 have aa:=xk l
 have hlen:(zA l).length<=4611686018427387904:=by rw [zO];omega
 refine zCl N a _ c s Q λ_=>?_
 refine up aa hlen (λi xs=>∀ (done:List ByteArray) (q N':Nat),N<=N'->done.length<=i->i<=l.length->done++xs.filter (λx=>decide (x≠s))=l.filter (λx=>decide (x≠s)) ->
  yb Q N a (zA l) c s (zA done).length q i (zA done) q N') ?_ ?_ [] 0 N (oB _) (by simp) (by omega) rfl
 ·intro i ab hi done q N' J ac ae hd
  refine tA _ _ _ _ _ _ _ _ _ _ _ _ ?_
  rw [ab]
  rw [List.filter_nil,o6] at hd
  subst hd
  exact ⟨⟨rfl,rfl⟩,⟨rfl,rfl⟩,⟨rfl,rfl⟩,λa1 N1 ai hf N2 ah=>hQ _ _ _ (by omega) (wP hf ah)⟩
 ·intro i x xs I _ O done q N' J ac ae hd
  have hb:=I.b
  have hr:=I.r
  have aj:=zO l
  refine tA _ _ _ _ _ _ _ _ _ _ _ _ ?_
  rw [I.lt,oK,hr,I.w]
  refine ⟨⟨by omega,by omega⟩,_,rfl,Br.nstr (λh=>⟨⟨by omega,by omega⟩,_,rfl,⟨rfl,rfl⟩,zEt (by omega),λc1=>?_⟩) λh=>?_⟩
  ·rw [xi]
   refine O _ _ _ J (by simp;omega) (by omega) ?_
   rw [<-hd]
   simp [mr,h]
  ·refine O _ _ _ J (by omega) (by omega) ?_
   rw [<-hd]
   simp [mr,h]
theorem zMD (s:ByteArray) (l:List ByteArray):decide (s8 (λx=>decide (x=s)) l 0<0)=decide (s∉l):=by
 have h:=wb (λx=>decide (x=s)) l 0 (by omega)
 rw [nP,nf,nf]
 have I:(decide (s8 (λx=>decide (x=s)) l 0≥0)=true)↔(l.any λx=>decide (x=s))=true:=by rw [h]
 rw [nf] at I
 simp only [mc,nD,exists_eq_right] at I
 constructor
 ·intro O J;have:=I.2 J;omega
 ·intro O;exact Int.not_le.1 λJ=>O (I.1 J)
theorem zCw {out xs:List ByteArray} {x:ByteArray}:dd out (x::xs)=dd (if x∈out then out else out++[x]) xs:=rfl
theorem zMc {out:List ByteArray} {x:ByteArray}:(if x∈out then out else out++[x]).length<=out.length+1:=by split<;>simp
theorem we (l m:List ByteArray) (hl:l.length<=2199023255552) (hm:m.length<=2199023255552) (a b:Option Addr) (c c':Nat):zRm 36 [.sv a 0 (zA l) c,.sv b 0 (zA m) c'] (si l m):=fun N Q hQ=>by
 have hes:=xk l
 have hlen:(zA l).length<=4611686018427387904:=by rw [zO];omega
 have hms:=xk m
 have hmen:(zA m).length<=4611686018427387904:=by rw [zO];omega
 have hlw:=zO l
 have hmw:=zO m
 refine zCz N a _ c b _ c' Q fun _ _=>?_
 have second:∀ (done:List ByteArray) (q N':Nat),N<=N'->done.length<=l.length->done=dd [] l->yL Q N b (zA m) c' (zA done).length q 0 (zA done) q N':=fun done0 q0 N0 hN0 hdl0 hd0=>
  up hms hmen (fun i xs=>∀ (done:List ByteArray) (q N':Nat),N<=N'->done.length<=l.length+i->dd done xs=si l m->yL Q N b (zA m) c' (zA done).length q i (zA done) q N')
   (fun i hlt hi done q N' hN' hdl hd=>by
    refine tw _ _ _ _ _ _ _ _ _ _ _ ?_
    rw [hlt]
    simp only [dd] at hd
    subst hd
    exact ⟨⟨rfl,rfl⟩,fun N2 hN2=>hQ _ _ (by omega)⟩)
   (fun i x xs hat _ ih2 done q N' hN' hdl hd=>by
    have hb:=hat.b
    have hr:=hat.r
    have hdl2:=zMc (out:=done) (x:=x)
    refine tw _ _ _ _ _ _ _ _ _ _ _ ?_
    rw [hat.lt,oK,hr,hat.w]
    refine ⟨⟨by omega,by omega⟩,_,rfl,⟨rfl,rfl⟩,fun a1 _ N1 hN1 _=>xu done (by omega) a1 q x N1 _ fun N2 hN2 hle2=>?_⟩
    rw [zMD]
    refine Br.dec (fun h=>⟨⟨by omega,by omega⟩,_,rfl,⟨rfl,rfl⟩,zEt (by omega),fun c1=>?_⟩) fun h=>?_
    ·rw [xi]
     rw [if_neg h] at hdl2
     refine ih2 _ _ _ (by omega) (by omega) ?_
     rw [<-hd,zCw,if_neg h]
    ·refine ih2 _ _ _ (by omega) (by omega) ?_
     rw [<-hd,zCw,if_pos (Decidable.not_not.1 h)]) done0 q0 N0 hN0 (by omega) (by rw [hd0];rfl)
 refine up hes hlen (fun i xs=>∀ (done:List ByteArray) (q N':Nat),N<=N'->done.length<=i->dd done xs=dd [] l ->
  yj Q N a (zA l) c b (zA m) c' (zA done).length q i (zA done) q N') ?_ ?_ [] 0 N (oB _) (by simp) rfl
 ·intro i hlt hi done q N' hN' hdl hd
  refine tR _ _ _ _ _ _ _ _ _ _ _ _ _ _ ?_
  rw [hlt]
  exact second done q N' hN' (by omega) hd
 ·intro i x xs hat _ ih2 done q N' hN' hdl hd
  have hb:=hat.b
  have hr:=hat.r
  have hdl2:=zMc (out:=done) (x:=x)
  refine tR _ _ _ _ _ _ _ _ _ _ _ _ _ _ ?_
  rw [hat.lt,oK,hr,hat.w]
  refine ⟨⟨by omega,by omega⟩,_,rfl,⟨rfl,rfl⟩,fun a1 _ N1 hN1 _=>xu done (by omega) a1 q x N1 _ fun N2 hN2 hle2=>?_⟩
  rw [zMD]
  refine Br.dec (fun h=>⟨⟨by omega,by omega⟩,_,rfl,⟨rfl,rfl⟩,zEt (by omega),fun c1=>?_⟩) fun h=>?_
  ·rw [xi]
   rw [if_neg h] at hdl2
   refine ih2 _ _ _ (by omega) (by omega) ?_
   rw [<-hd,zCw,if_neg h]
  ·refine ih2 _ _ _ (by omega) (by omega) ?_
   rw [<-hd,zCw,if_pos (Decidable.not_not.1 h)]
theorem zRG {N N' z c:Nat}:Own N N' (.sl none z [] c):=⟨by simp [D.foot,zC],⟨by simp,trivial⟩,by simp [D.foot,zC],by simp [D.foot,zC]⟩
theorem Qbd {Q:QT [.sl 0,.i]} {a:Option Addr} {es I:List D} {c:Nat} {n J:Int} {N:Nat} (h:Q a es c n N) (e1:es=I) (O:n=J):Q a I c J N:=e1 ▸ O ▸ h
def zT7 (f:FuncId) (args:List PV) (l:List ByteArray) (n:Int):Prop:=∀ (N:Nat) (Q:QT [.sl 0,.i]),(∀ a c N',N<=N'->Own N N' (.sl a 0 (zA l) c)->Q a (zA l) c n N')->ACalls prog f [.sl 0,.i] args N Q
theorem zTl {k n0:Int} {nm ot:ByteArray} {t0 t1 r0 r1:D} {a:Option Addr} {es:List D} {c n:Nat} (hn:es.length=n) :
  zT7 163 [.dg 9 (.ag [.j k,.t nm,.t ot,.j n0,t0,t1,r0,r1,.sl a 9 es c])] (bdN k nm ot n) (qk k n):=λN Q hQ=>by
 subst hn
 have one:∀ (x:ByteArray) (m:Int),bdN k nm ot es.length=[x]->qk k es.length=m->((1:Nat)=([D.t x]).length/\(1:Nat)=1)/\((1:Nat)=([D.t x]).length/\(1:Nat)=1)/\∀ a1 N1,N<=N1->Fresh N N1 a1 [D.ag [D.t x]]->∀ N2,N1<=N2->Q a1 [D.t x] 1 m N2:=λx m I h2=>
  ⟨⟨rfl,rfl⟩,⟨rfl,rfl⟩,λa1 N1 J hf N2 O=>Qbd (hQ a1 1 N2 (by omega) (by rw [I];exact wP (l:=[x]) hf O)) (by rw [I];rfl) h2⟩
 have two:bdN k nm ot es.length=[nm,ot]->qk k es.length=0->((2:Nat)=([D.t nm,D.t ot]).length/\(2:Nat)=2)/\((2:Nat)=([D.t nm,D.t ot]).length/\(2:Nat)=2)/\∀ a1 N1,N<=N1->Fresh N N1 a1 [D.ag [D.t nm,D.t ot]]->∀ N2,N1<=N2->Q a1 [D.t nm,D.t ot] 2 0 N2:=λI h2=>
  ⟨⟨rfl,rfl⟩,⟨rfl,rfl⟩,λa1 N1 J hf N2 O=>Qbd (hQ a1 2 N2 (by omega) (by rw [I];exact wP (l:=[nm,ot]) hf O)) (by rw [I];rfl) h2⟩
 have nil:bdN k nm ot es.length=[]->qk k es.length = -1->∀ N1,N<=N1->Q none [] 0 (-1) N1:=λI h2 N1 J=>Qbd (hQ none 0 N1 J (by rw [I];exact zRG)) (by rw [I];rfl) h2
 refine zKu N _ Q λ_=>⟨_,rfl,Br.beq (λh6=>⟨_,_,_,rfl,Br.beq (λI=>⟨_,rfl,?_⟩) λI=>?_⟩) λh6=>?_⟩
 ·exact one _ _ (by unfold bdN;rw [if_pos ⟨h6,by omega⟩]) (by unfold qk;rw [if_pos ⟨h6,by omega⟩])
 ·refine ⟨_,rfl,Br.beq (λh8=>by omega) λh8=>⟨_,rfl,Br.beq (λh9=>by omega) λh9=>?_⟩⟩
  exact nil (by unfold bdN;rw [if_neg (by omega),if_neg (by omega),if_neg (by omega)]) (by unfold qk;rw [if_neg (by omega),if_neg (by omega),if_neg (by omega)])
 ·refine ⟨_,rfl,Br.beq (λh8=>⟨_,_,_,rfl,Br.beq (λI=>⟨_,rfl,?_⟩) λI=>?_⟩) λh8=>?_⟩
  ·exact one _ _ (by unfold bdN;rw [if_neg (by omega),if_pos ⟨h8,by omega⟩]) (by unfold qk;rw [if_neg (by omega),if_pos ⟨h8,by omega⟩])
  ·refine ⟨_,rfl,Br.beq (λh9=>by omega) λh9=>?_⟩
   exact nil (by unfold bdN;rw [if_neg (by omega),if_neg (by omega),if_neg (by omega)]) (by unfold qk;rw [if_neg (by omega),if_neg (by omega),if_neg (by omega)])
  ·refine ⟨_,rfl,Br.beq (λh9=>⟨_,_,_,rfl,Br.beq (λI=>⟨_,rfl,_,rfl,?_⟩) λI=>?_⟩) λh9=>?_⟩
   ·exact two (by unfold bdN;rw [if_neg (by omega),if_neg (by omega),if_pos ⟨h9,by omega⟩]) (by unfold qk;rw [if_neg (by omega),if_neg (by omega),if_pos ⟨h9,by omega⟩])
   ·exact nil (by unfold bdN;rw [if_neg (by omega),if_neg (by omega),if_neg (by omega)]) (by unfold qk;rw [if_neg (by omega),if_neg (by omega),if_neg (by omega)])
   ·exact nil (by unfold bdN;rw [if_neg (by omega),if_neg (by omega),if_neg (by omega)]) (by unfold qk;rw [if_neg (by omega),if_neg (by omega),if_neg (by omega)])
theorem zQI {k n0:Int} {nm ot:ByteArray} {t0 t1 r0 r1:D} {a:Option Addr} {es:List D} {c n:Nat} (hn:es.length=n) :
  zT7 120 [.dg 9 (.ag [.j k,.t nm,.t ot,.j n0,t0,t1,r0,r1,.sl a 9 es c])] (bdN k nm ot n) (qk k n):=λN Q hQ=>by
 subst hn
 have one:∀ (x:ByteArray) (m:Int),bdN k nm ot es.length=[x]->qk k es.length=m->((1:Nat)=([D.t x]).length/\(1:Nat)=1)/\((1:Nat)=([D.t x]).length/\(1:Nat)=1)/\∀ a1 N1,N<=N1->Fresh N N1 a1 [D.ag [D.t x]]->∀ N2,N1<=N2->Q a1 [D.t x] 1 m N2:=λx m I h2=>
  ⟨⟨rfl,rfl⟩,⟨rfl,rfl⟩,λa1 N1 aa hf N2 J=>Qbd (hQ a1 1 N2 (by omega) (by rw [I];exact wP (l:=[x]) hf J)) (by rw [I];rfl) h2⟩
 have two:bdN k nm ot es.length=[nm,ot]->qk k es.length=0->((2:Nat)=([D.t nm,D.t ot]).length/\(2:Nat)=2)/\((2:Nat)=([D.t nm,D.t ot]).length/\(2:Nat)=2)/\∀ a1 N1,N<=N1->Fresh N N1 a1 [D.ag [D.t nm,D.t ot]]->∀ N2,N1<=N2->Q a1 [D.t nm,D.t ot] 2 0 N2:=λI h2=>
  ⟨⟨rfl,rfl⟩,⟨rfl,rfl⟩,λa1 N1 aa hf N2 J=>Qbd (hQ a1 2 N2 (by omega) (by rw [I];exact wP (l:=[nm,ot]) hf J)) (by rw [I];rfl) h2⟩
 have nil:bdN k nm ot es.length=[]->qk k es.length = -1->((0:Nat)=0/\(0:Nat)=0)/\((0:Nat)=0/\(0:Nat)=0)/\∀ a1 N1,N<=N1->Fresh N N1 a1 [D.ag []]->∀ N2,N1<=N2->Q a1 [] 0 (-1) N2:=λI h2=>
  ⟨⟨rfl,rfl⟩,⟨rfl,rfl⟩,λa1 N1 aa hf N2 J=>Qbd (hQ a1 0 N2 (by omega) (by rw [I];exact wP (l:=[]) hf J)) (by rw [I];rfl) h2⟩
 refine zGy N _ Q λ_=>⟨_,rfl,Br.beq (λh6=>⟨_,_,_,rfl,Br.beq (λI=>⟨_,rfl,?_⟩) λI=>?_⟩) λh6=>?_⟩
 ·exact one _ _ (by unfold bdN;rw [if_pos ⟨h6,by omega⟩]) (by unfold qk;rw [if_pos ⟨h6,by omega⟩])
 ·refine ⟨_,rfl,Br.beq (λh8=>by omega) λh8=>⟨_,rfl,Br.beq (λO=>by omega) λO=>?_⟩⟩
  exact nil (by unfold bdN;rw [if_neg (by omega),if_neg (by omega),if_neg (by omega)]) (by unfold qk;rw [if_neg (by omega),if_neg (by omega),if_neg (by omega)])
 ·refine ⟨_,rfl,Br.beq (λh8=>⟨_,_,_,rfl,Br.beq (λI=>⟨_,rfl,?_⟩) λI=>?_⟩) λh8=>?_⟩
  ·exact one _ _ (by unfold bdN;rw [if_neg (by omega),if_pos ⟨h8,by omega⟩]) (by unfold qk;rw [if_neg (by omega),if_pos ⟨h8,by omega⟩])
  ·refine ⟨_,rfl,Br.beq (λO=>by omega) λO=>?_⟩
   exact nil (by unfold bdN;rw [if_neg (by omega),if_neg (by omega),if_neg (by omega)]) (by unfold qk;rw [if_neg (by omega),if_neg (by omega),if_neg (by omega)])
  ·refine ⟨_,rfl,Br.beq (λO=>⟨_,_,_,rfl,Br.beq (λI=>⟨_,rfl,_,rfl,?_⟩) λI=>?_⟩) λO=>?_⟩
   ·exact two (by unfold bdN;rw [if_neg (by omega),if_neg (by omega),if_pos ⟨O,by omega⟩]) (by unfold qk;rw [if_neg (by omega),if_neg (by omega),if_pos ⟨O,by omega⟩])
   ·exact nil (by unfold bdN;rw [if_neg (by omega),if_neg (by omega),if_neg (by omega)]) (by unfold qk;rw [if_neg (by omega),if_neg (by omega),if_neg (by omega)])
   ·exact nil (by unfold bdN;rw [if_neg (by omega),if_neg (by omega),if_neg (by omega)]) (by unfold qk;rw [if_neg (by omega),if_neg (by omega),if_neg (by omega)])
/-- a row made by append, cut to nothing -/
theorem zT9 (n:Nat) (hn:n<=8796093022208) (N:Nat) (Q:QT [.row 9 0]) (J:∀ c N',N<=N'->Q [] c N'):ACalls prog 87 [.row 9 0] [.sv none 0 [] 0,.j n] N Q:=by
 have O:IntKind.i64.wrap ((n:Int) - 0)=n:=by rw [Int.sub_zero];exact i64_in _ (by omega)
 refine zCE N n Q λ_=>Br.dec (λh=>by omega) λ_=>?_
 rw [O]
 refine Br.dec (λh=>⟨⟨by omega,by omega,by omega⟩,⟨by omega,by omega,by omega⟩,λc=>⟨⟨by omega,by omega⟩,Nat.zero_le _,⟨rfl,rfl⟩,λN1 I=>J c N1 I⟩⟩) λh N1 I=>J 0 N1 I
def zLu:List (List ByteArray)->List ByteArray
 | []=>[]
 | l::ls=>l++zLu ls
def IsW (l:List ByteArray) (d:D):Prop:=∃ a c,d=.sl a 0 (zA l) c
theorem zOe (l m:List ByteArray):zA l++zA m=zA (l++m):=by simp [zA]
theorem zNK {ls:List (List ByteArray)} {es:List D} (hes:All2 IsW ls es) (hlen:es.length<=2199023255552) (hc:(zLu ls).length<=8796093022208) (a:Option Addr) (c:Nat):zQg 46 [.sv a 0 es c] (zLu ls):=fun N Q hQ=>by
 refine zAZ N a es c Q fun _=>?_
 have second:∀ (q N':Nat),N<=N'->yA Q N 0 q a es c (es.length:Int) 0 [] q N':=fun q0 N0 hN0=>
  up hes (by omega) (fun i xs=>∀ (done:List ByteArray) (q N':Nat),N<=N'->done++zLu xs=zLu ls->yA Q N (zA done).length q a es c (es.length:Int) i (zA done) q N')
   (fun i hlt hi done q N' hN' hd=>by
    refine vi _ _ _ _ _ _ _ _ _ _ _ _ ?_
    rw [hlt]
    simp only [zLu,o6] at hd
    subst hd
    exact ⟨⟨rfl,rfl⟩,⟨rfl,rfl⟩,⟨rfl,rfl⟩,fun a1 N1 hN1 hf N2 hN2=>hQ _ _ _ (by omega) (wP hf hN2)⟩)
   (fun i x xs hat _ ih2 done q N' hN' hd=>by
    have hb:=hat.b
    obtain ⟨a1,c1,hr⟩:=hat.r
    refine vi _ _ _ _ _ _ _ _ _ _ _ _ ?_
    rw [hat.lt,oK,hr,hat.w]
    have hl2:=nL List.length hd
    simp only [zLu,oE] at hl2
    refine ⟨⟨by omega,by omega⟩,_,_,_,rfl,⟨rfl,rfl⟩,by unfold zB;rw [oE,zO,zO];omega,fun c2=>?_⟩
    rw [zOe]
    refine ih2 _ _ _ hN' ?_
    rw [<-hd]
    simp [zLu,nG]) [] q0 N0 hN0 rfl
 refine up hes (by omega) (fun i xs=>∀ (t:Nat) (N':Nat),N<=N'->t+(zLu xs).length=(zLu ls).length ->
  yn Q N a es c t a es c (es.length:Int) i N') ?_ ?_ 0 N (oB _) (by simp)
 ·intro i hlt hi t N' hN' ht
  refine uM _ _ _ _ _ _ _ _ _ _ _ _ ?_
  rw [hlt]
  simp only [zLu,oM] at ht
  exact fun N1 hN1=>zT9 t (by omega) N1 _ fun c1 N2 hN2 _ _=>second c1 N2 (by omega)
 ·intro i x xs hat _ ih2 t N' hN' ht
  have hb:=hat.b
  obtain ⟨a1,c1,hr⟩:=hat.r
  refine uM _ _ _ _ _ _ _ _ _ _ _ _ ?_
  simp only [zLu,oE] at ht
  rw [hat.lt,oK,hr,hat.w]
  have hw:IntKind.i64.wrap ((t:Int)+((zA x).length:Int))=((t+x.length:Nat):Int):=by rw [zO];rw [i64_in _ (by omega)];omega
  refine ⟨⟨by omega,by omega⟩,_,_,_,rfl,?_⟩
  rw [hw]
  exact Br.dec (fun h=>by omega) fun _=>ih2 _ _ hN' (by omega)
theorem zDS (s:ByteArray) (l:List ByteArray):(l.any λx=>decide (s=x))=decide (s∈l):=by
 rw [nP];simp
theorem uO (l m:List ByteArray) (hl:l.length<=2199023255552) (hm:m.length<=2199023255552) (a b:Option Addr) (c c':Nat):zRm 72 [.sv a 0 (zA l) c,.sv b 0 (zA m) c'] (si l m):=λN Q hQ=>by
 refine zDW N a _ c b _ c' Q λ_ _=>⟨⟨rfl,rfl⟩,λa1 _ N1 ac O=>?_⟩
 have ae:All2 IsW [l,m] [.sl a 0 (zA l) c,.sl b 0 (zA m) c']:=⟨_,_,rfl,⟨_,_,rfl⟩,_,_,rfl,⟨_,_,rfl⟩,rfl⟩
 have J:zLu [l,m]=l++m:=by simp [zLu]
 refine zNK ae (by simp) (by rw [J,oE];omega) a1 2 N1 _ λa2 c2 N2 ah ho _=>⟨wW O ho,λ_=>?_⟩
 rw [J]
 have ai:=xk (l++m)
 have aj:=zO (l++m)
 rw [oE] at aj
 refine up ai (by omega) (λi xs=>∀ (done:List ByteArray) (q N':Nat),N<=N'->done.length<=i->dd done xs=si l m ->
  ym Q N (zA done).length q a2 (zA (l++m)) c2 ((zA (l++m)).length:Int) i (zA done) q N') ?_ ?_ [] 0 N2 (by omega) (by simp) (by unfold si;rw [zSv])
 ·intro i ak hi done q N' al am hd
  refine tT _ _ _ _ _ _ _ _ _ _ _ _ ?_
  rw [ak]
  simp only [dd] at hd
  subst hd
  exact ⟨⟨rfl,rfl⟩,λN3 aq=>hQ _ _ (by omega)⟩
 ·intro i x xs I _ aa done q N' al am hd
  have hb:=I.b
  have hr:=I.r
  have ab:=zMc (out:=done) (x:=x)
  refine tT _ _ _ _ _ _ _ _ _ _ _ _ ?_
  rw [I.lt,oK,hr,I.w]
  refine ⟨⟨by omega,by omega⟩,_,rfl,⟨rfl,rfl⟩,λa1 _ N1 ac _=>xw done (by omega) a1 q x N1 _ λN2 ah ao=>?_⟩
  rw [zDS]
  refine Br.ndec (λh=>⟨⟨rfl,rfl⟩,zEt (by omega),λc1=>?_⟩) λh=>?_
  ·rw [xi]
   rw [if_neg h] at ab
   refine aa _ _ _ (by omega) (by omega) ?_
   rw [<-hd,zCw,if_neg h]
  ·refine aa _ _ _ (by omega) (by omega) ?_
   rw [<-hd,zCw,if_pos h]
end Go.Proofs.YtlahkdflngobiaaGreatDoor
