/- Free names, fresh names, substitution: what they are (no program in sight). -/
import Derived.Test.YtnmnahkkcfghjaaGreatA5
import Derived.Lib.ItoaNum
import Derived.Test.YtnmnahkkcfghjaaGreatA6
import Derived.Test.YtnmnahkkcfghjaaGreatKu
set_option linter.unusedVariables false
set_option linter.unusedSimpArgs false
namespace Go.Proofs.YtnmnahkkcfghjaaGreat
open Go Go.Proofs Go.Proofs.Tryz Go.IntWalk
instance decMem (s:ByteArray) (l:List ByteArray):Decidable (s∈l):=decidable_of_iff ((l.any fun x=>decide (x=s))=true) (by simp)
/-- those of a list that are new go behind -/
def dd:List ByteArray->List ByteArray->List ByteArray
 | out,[]=>out
 | out,s::l=>dd (if s∈out then out else out++[s]) l
def sF (a b:List ByteArray):List ByteArray:=dd (dd [] a) b
def zAd (I l:List ByteArray):List ByteArray:=l.filter λs=>decide (s∉I)
theorem zLi:∀ (out l:List ByteArray) (x:ByteArray),x∈dd out l↔x∈out\/x∈l
 | out,[],x=>by simp [dd]
 | out,s::l,x=>by
   simp only [dd]
   rw [zLi]
   split
   ·rename_i h
    constructor
    ·rintro (h1 | h1)
     ·exact .inl h1
     ·exact .inr (by simp [h1])
    ·rintro (h1 | h1)
     ·exact .inl h1
     ·rcases oF.1 h1 with rfl | h1
      ·exact .inl h
      ·exact .inr h1
   ·simp only [oJ,oY,oF,od,nl,or_assoc]
theorem zGT:∀ (out l:List ByteArray),out.Nodup->(dd out l).Nodup
 | out,[],h=>h
 | out,s::l,h=>by
   simp only [dd]
   refine zGT _ l ?_
   split
   ·exact h
   ·rename_i hs
    rw [nQ]
    refine ⟨h,by simp,λa J b I=>?_⟩
    rw [oY] at I
    subst I
    exact λhc=>hs (hc ▸ J)
theorem zDD:∀ (out l:List ByteArray),(dd out l).length<=out.length+l.length
 | out,[]=>by simp [dd]
 | out,s::l=>by
   simp only [dd]
   have:=zDD (if s∈out then out else out++[s]) l
   split at this<;>simp_all<;>omega
theorem zGi {a b:List ByteArray} {x:ByteArray}:x∈sF a b↔x∈a\/x∈b:=by
 unfold sF;rw [zLi,zLi];simp
theorem zHz (a b:List ByteArray):(sF a b).Nodup:=zGT _ _ (zGT _ _ mD)
theorem xf {n l:List ByteArray} {x:ByteArray}:x∈zAd n l↔x∈l/\x∉n:=by simp [zAd]
/-- different elements of a list are no more than the list has -/
theorem zFp:∀ {l m:List ByteArray},l.Nodup->(∀ x∈l,x∈m)->l.length<=m.length
 | [],m,_,_=>Nat.zero_le _
 | x::l,m,J,hs=>by
   obtain ⟨O,U⟩:=nf.1 J
   have Y:=hs x (by simp)
   have h3:=zFp (l:=l) (m:=m.filter λy=>decide (y≠x)) U λy I=>by
    rw [ny]
    exact ⟨hs y (by simp [I]),by simp;exact λhc=>O (hc ▸ I)⟩
   have h4:=ml (p:=λy=>decide (y≠x)).2 ⟨x,Y,by simp⟩
   simp only [oO]
   omega
def ze (k:Int) (n:Nat):Int:=if k=6/\n=1 then 0 else if k=8/\n=2 then 1 else if k=9/\n=1 then 0 else -1
def bdN (k:Int) (nm ot:ByteArray) (n:Nat):List ByteArray:=if k=6/\n=1 then [nm] else if k=8/\n=2 then [nm] else if k=9/\n=1 then [nm,ot] else []
theorem zCf (k:Int) (nm ot:ByteArray) (n:Nat):(bdN k nm ot n).length<=2:=by unfold bdN;(repeat' split)<;>simp
theorem xw (k:Int) (n:Nat):ze k n = -1\/(ze k n=0/\n=1/\(k=6\/k=9))\/(ze k n=1/\n=2/\k=8):=by
 unfold ze;(repeat' split)<;>simp_all
mutual
def Tm.fv:Tm->List ByteArray
 | .mk k nm ot _ _ _ l=>if k=1 then [nm] else rD l (ze k l.length) (bdN k nm ot l.length) 0 []
def rD:List Tm->Int->List ByteArray->Nat->List ByteArray->List ByteArray
 | [],_,_,_,out=>out
 | x::xs,at_,ns,i,out=>rD xs at_ ns (i+1) (sF out (if (i:Int)=at_ then zAd ns x.fv else x.fv))
end
/-- the free names of the part at a place -/
def fvI (at_:Int) (ns:List ByteArray) (i:Nat) (x:Tm):List ByteArray:=if (i:Int)=at_ then zAd ns x.fv else x.fv
theorem zHb:∀ (l:List Tm) (at_:Int) (ns:List ByteArray) (i:Nat) (out:List ByteArray) (s:ByteArray),s∈rD l at_ ns i out↔s∈out\/∃ (j:Nat) (x:Tm),l[j]?=some x/\s∈fvI at_ ns (i+j) x
 | [],_,_,_,out,s=>by simp [rD]
 | y :: l,at_,ns,i,out,s=>by
   simp only [rD]
   rw [zHb,zGi]
   constructor
   ·rintro ((h | h) | ⟨j,x,I,J⟩)
    ·exact .inl h
    ·exact .inr ⟨0,y,rfl,h⟩
    ·exact .inr ⟨j+1,x,by simpa using I,by rw [show i+(j+1)=i+1+j by omega];exact J⟩
   ·rintro (h | ⟨j,x,I,J⟩)
    ·exact .inl (.inl h)
    ·cases j with
     | zero=>simp at I;subst I;exact .inl (.inr J)
     | succ j=>exact .inr ⟨j,x,by simpa using I,by rw [show i+1+j=i+(j+1) by omega];exact J⟩
theorem zDL:∀ (l:List Tm) (at_:Int) (ns:List ByteArray) (i:Nat) (out:List ByteArray),out.Nodup->(rD l at_ ns i out).Nodup
 | [],_,_,_,out,h=>h
 | y::l,at_,ns,i,out,h=>by simp only [rD];exact zDL l _ _ _ _ (zHz _ _)
theorem Tm.fv_mem {k:Int} {nm ot:ByteArray} {n:Int} {ty re:Ty} {l:List Tm} {s:ByteArray}:s∈(Tm.mk k nm ot n ty re l).fv↔(k=1/\s=nm)\/(k≠1/\∃ (j:Nat) (x:Tm),l[j]?=some x/\s∈fvI (ze k l.length) (bdN k nm ot l.length) j x):=by
 simp only [Tm.fv]
 by_cases I:k=1
 ·simp [I]
 ·rw [if_neg I,zHb];simp [I]
theorem Tm.fv_nodup (t:Tm):t.fv.Nodup:=by
 cases t;simp only [Tm.fv];split
 ·simp
 ·exact zDL _ _ _ _ _ mD
def uG (k:Nat):ByteArray:=⟨(118::Lib.decDigits k).toArray⟩
theorem zPa:∀ (a b:Nat),Lib.decDigits a=Lib.decDigits b->a=b:=by
 intro a
 have U:∀ u,(Lib.decDigits u).length=Lib.nDigits u:=Lib.decDigits_length
 have e1:∀ u,u<10->Lib.decDigits u=[UInt8.ofNat (48+u)]:=λu h=>by rw [Lib.decDigits,dif_pos h]
 have Y:∀ u,¬u<10->Lib.decDigits u=Lib.decDigits (u / 10)++[UInt8.ofNat (48+u % 10)]:=λu h=>by rw [Lib.decDigits,dif_neg h]
 have u8:∀ x y:Nat,x<10->y<10->UInt8.ofNat (48+x)=UInt8.ofNat (48+y)->x=y:=λx y hx hy h=>by
  have:=mC UInt8.toNat h
  simp only [UInt8.toNat_ofNat'] at this
  omega
 induction a using Nat.strongRecOn with
 | _ a ih=>
   intro b h
   have J:=mC List.length h
   rw [U,U] at J
   by_cases I:a<10
   ·rw [Lib.nDigits_small I] at J
    have O:b<10:=by
     refine lD λhc=>?_
     rw [Lib.nDigits_big (by omega)] at J
     have:=Lib.nDigits_pos (b / 10)
     omega
    rw [e1 a I,e1 b O] at h
    exact u8 a b I O (by simpa using h)
   ·have O:¬b<10:=λhc=>by
     rw [Lib.nDigits_big I,Lib.nDigits_small hc] at J
     have:=Lib.nDigits_pos (a / 10)
     omega
    rw [Y a I,Y b O] at h
    obtain ⟨h1,h2⟩:=List.append_inj' h rfl
    have:=ih (a / 10) (by omega) (b / 10) h1
    have:=u8 (a % 10) (b % 10) (by omega) (by omega) (by simpa using h2)
    omega
theorem zL1 {a b:Nat} (h:uG a=uG b):a=b:=by
 have:(118::Lib.decDigits a:List UInt8)=118::Lib.decDigits b:=by
  have:=mC (λx:ByteArray=>x.data.toList) h
  simpa [uG] using this
 exact zPa a b (by simpa using this)
def sV:Nat->Nat->List ByteArray->Nat
 | 0,k,_=>k
 | f+1,k,l=>if uG k∈l then sV f (k+1) l else k
def fresh (l:List ByteArray):ByteArray:=uG (sV l.length 1 l)
theorem zNL:∀ (n k:Nat),((List.range n).map λi=>uG (k+i)).Nodup:=λn k=>by
 rw [List.nodup_iff_pairwise_ne,List.pairwise_map]
 refine List.Pairwise.imp (λ{a b} h hc=>?_) (List.nodup_iff_pairwise_ne.1 List.nodup_range)
 have:=zL1 hc
 omega
theorem zOs (l:List ByteArray) (k:Nat) (h:∀ j,1<=j->j<k->uG j∈l) (J:1<=k):k<=l.length+1:=by
 have:=zFp (zNL (k - 1) 1) (m:=l) λx I=>by
  obtain ⟨i,hi,rfl⟩:=oQ.1 I
  rw [List.mem_range] at hi
  exact h _ (by omega) (by omega)
 simp at this
 omega
theorem zDU (l:List ByteArray):∀ (f k:Nat),1<=k->k+f=l.length+1->(∀ j,1<=j->j<k->uG j∈l)->1<=sV f k l/\sV f k l<=l.length+1/\uG (sV f k l)∉l/\∀ j,1<=j->j<sV f k l->uG j∈l
 | 0,k,J,h2,I=>by
   simp only [sV]
   refine ⟨J,by omega,λhc=>?_,I⟩
   have:=zOs l (k+1) (λj O h5=>by
    by_cases U:j=k
    ·subst U;exact hc
    ·exact I j O (by omega)) (by omega)
   omega
 | f + 1,k,J,h2,I=>by
   simp only [sV]
   split
   ·rename_i Y
    exact zDU l f (k+1) (by omega) (by omega) λj O h5=>by
     by_cases U:j=k
     ·subst U;exact Y
     ·exact I j O (by omega)
   ·rename_i Y
    exact ⟨J,by omega,Y,I⟩
theorem tC (l:List ByteArray):∃ k,fresh l=uG k/\1<=k/\k<=l.length+1/\uG k∉l/\∀ j,1<=j->j<k->uG j∈l:=by
 obtain ⟨I,J,O,U⟩:=zDU l l.length 1 (oD _) (by omega) λj I J=>by omega
 exact ⟨_,rfl,I,J,O,U⟩
theorem ym (l:List ByteArray):fresh l∉l:=by
 obtain ⟨k,h,_,_,I,_⟩:=tC l
 rw [h];exact I
theorem zNV {l m:List ByteArray} (h:∀ x,x∈l↔x∈m):fresh l=fresh m:=by
 obtain ⟨k,e1,a1,a2,I,J⟩:=tC l
 obtain ⟨j,O,U,b2,Y,b4⟩:=tC m
 rw [e1,O]
 congr 1
 refine Nat.le_antisymm (lE λhc=>?_) (lE λhc=>?_)
 ·exact Y ((h _).1 (J j U hc))
 ·exact I ((h _).2 (b4 k a1 hc))
def tm0:Tm:=.mk 0 (bytes []) (bytes []) 0 (.mk 0 []) (.mk 0 []) []
def vL (s:ByteArray):Tm:=.mk 1 s (bytes []) 0 (.mk 0 []) (.mk 0 []) []
theorem zCy (s:ByteArray):(vL s).fv=[s]:=rfl
/-- one name that a node binds, away from others -/
def rn1 (S:Tm->ByteArray->Tm->Tm) (k:Int) (n:Nat) (fb:List ByteArray) (x old:ByteArray) (s:ByteArray × ByteArray × Tm):ByteArray × ByteArray × Tm:=
 if old∈fb then
  (if s.1=old then (fresh (fb++(s.2.2.fv++([x]++bdN k s.1 s.2.1 n))),s.2.1,S s.2.2 old (vL (fresh (fb++(s.2.2.fv++([x]++bdN k s.1 s.2.1 n))))))
   else (s.1,fresh (fb++(s.2.2.fv++([x]++bdN k s.1 s.2.1 n))),S s.2.2 old (vL (fresh (fb++(s.2.2.fv++([x]++bdN k s.1 s.2.1 n)))))))
 else s
def rns (S:Tm->ByteArray->Tm->Tm) (k:Int) (n:Nat) (fb:List ByteArray) (x:ByteArray):List ByteArray->ByteArray × ByteArray × Tm->ByteArray × ByteArray × Tm
 | [],s=>s
 | old::l,s=>rns S k n fb x l (rn1 S k n fb x old s)
def Tm.sub:Nat->Tm->ByteArray->Tm->Tm
 | 0,e,_,_=>e
 | f + 1,.mk k nm ot n ty re l,x,b=>
   if k=1 then (if nm=x then b else .mk k nm ot n ty re l)
   else if ze k l.length<0 then .mk k nm ot n ty re (l.map λt=>Tm.sub f t x b)
   else if x∈bdN k nm ot l.length\/x∉(l.getD (ze k l.length).toNat tm0).fv then
    .mk k nm ot n ty re ((l.map λt=>Tm.sub f t x b).set (ze k l.length).toNat (l.getD (ze k l.length).toNat tm0))
   else
    .mk k (rns (Tm.sub f) k l.length b.fv x (bdN k nm ot l.length) (nm,ot,l.getD (ze k l.length).toNat tm0)).1
     (rns (Tm.sub f) k l.length b.fv x (bdN k nm ot l.length) (nm,ot,l.getD (ze k l.length).toNat tm0)).2.1 n ty re
     ((l.map λt=>Tm.sub f t x b).set (ze k l.length).toNat (Tm.sub f (rns (Tm.sub f) k l.length b.fv x (bdN k nm ot l.length) (nm,ot,l.getD (ze k l.length).toNat tm0)).2.2 x b))
theorem xT {k:Int} {n:Nat} (h:¬ze k n<0):(ze k n).toNat<n/\((ze k n).toNat:Int)=ze k n:=by
 rcases xw k n with I | ⟨I,J,_⟩ | ⟨I,J,_⟩
 ·omega
 ·rw [I];subst J;exact ⟨by decide,rfl⟩
 ·rw [I];subst J;exact ⟨by decide,rfl⟩
theorem zN {l:List Tm} {i:Nat} (h:i<l.length):l[i]?=some (l.getD i tm0):=by
 rw [oA,oH h];rfl
/-- where a name is not free, nothing is put -/
theorem zKl:∀ (f:Nat) (e:Tm) (x:ByteArray) (b:Tm),x∉e.fv->e.sub f x b=e
 | 0,e,x,b,_=>rfl
 | f + 1,.mk k nm ot n ty re l,x,b,h=>by
   rw [Tm.fv_mem] at h
   simp only [not_or,not_and,not_exists] at h
   obtain ⟨h1,Y⟩:=h
   simp only [Tm.sub]
   have part:k≠1->∀ (j:Nat) (y:Tm),l[j]?=some y->(j:Int)≠ze k l.length->y.sub f x b=y:=λI j y J O=>by
    refine zKl f y x b λhc=>?_
    have:=Y I j y J
    unfold fvI at this
    rw [if_neg O] at this
    exact this hc
   split
   ·rename_i I
    rw [if_neg (λhc=>h1 I hc.symm)]
   ·rename_i I
    split
    ·rename_i hb
     congr 1
     refine (o6 λy hy=>?_).trans (List.map_id l)
     obtain ⟨j,J⟩:=oR.1 hy
     exact part I j y J (by omega)
    ·rename_i hb
     obtain ⟨U,g2⟩:=xT hb
     split
     ·congr 1
      apply nD
      intro i
      rw [nL]
      split
      ·rename_i hi
       subst hi
       rw [if_pos (by simpa using U),zN U]
      ·rename_i hi
       rw [oE]
       cases hl:l[i]? with
       | none=>rfl
       | some y=>
         simp only [ob]
         rw [part I i y hl (by omega)]
     ·rename_i hc
      exfalso
      simp only [not_or,mE] at hc
      have:=Y I _ _ (zN U)
      unfold fvI at this
      rw [if_pos g2,xf] at this
      exact this ⟨hc.2,hc.1⟩
/-- the cells of a term that was made anew, and nothing else -/
def zDh (t:Tm) (N:Nat) (Q:QT [.pk,.i,.str,.str,.i,.dc,.dc,.dc,.dc,.row 29 9]):Prop:=
 match t with | .mk k nm ot n ty re l=>∀ J O U Y I c' N',N<=N'->Tm.Hd nm ot ty re J O U Y->All2 Tm.Is l I->OwnL N N' ([J,O,U,Y]++I)->Q k nm ot n J O U Y I c' N'
theorem zGm {N N3:Nat} {a:Option Addr} {ds:List D} {es:List D} (I:Fresh N N3 a ds) (h:∀ b,b∈zF es->∃ d∈ds,b∈d.foot):∀ ad,a=some ad->ad.block∉zF es:=λad J hc=>by
 obtain ⟨d,hd,O⟩:=h _ hc
 exact I.ap ad J d hd O
theorem s5:∀ (t:Tm) (d:D),t.Is d->t.G->∀ (N:Nat) (Q:QT [.pk,.i,.str,.str,.i,.dc,.dc,.dc,.dc,.row 29 9]),zDh t N Q ->
  ACalls prog 42 [.pk,.i,.str,.str,.i,.dc,.dc,.dc,.dc,.row 29 9] [.dg 9 d] N Q:=by
 refine Tm.ind λk nm ot n0 ty re l ih d hd hG N Q hQ=>?_
 obtain ⟨t0,t1,r0,r1,a,es,c,rfl,hh,Y,aa⟩:=Tm.is_mk.1 hd
 have hl:=aa.len
 obtain ⟨g1,g2,g3,g4⟩:=hG
 simp only [zDh] at hQ
 refine pF N _ Q λ_=>?_
 repeat' first|with_reducible intro _|simp only[Y1,Y2,Y3,Y4]|with_reducible refine X ?_ ?_|refine⟨_,_,_,rfl,?_⟩|refine⟨_,rfl,?_⟩|refine And.intro (by first|omega|trivial|(show _=_;rfl)|(with_reducible constructor)<;>first|omega|trivial|rfl) ?_|refine (zH _ _ hh.ty g1) _ _ ?_|refine (zH _ _ hh.re g2) _ _ ?_|fail
 rename_i N1 ae J N2 ay hx ah _ _ N3 ai y N4 az hy aj _ _
 have ak:Tm.Hd nm ot ty re (J.cell 0) (J.cell 1) (y.cell 0) (y.cell 1):=⟨hh.nm,hh.ot,Ty.is_cells hx,Ty.is_cells hy⟩
 have al:OwnL N N4 ([J.cell 0,J.cell 1,y.cell 0,y.cell 1]++[]):=by
  have h:=wn ((u3 hx ah).mono ae (oD _)) ((u3 hy aj).mono ai (oD _)) (by omega) (by omega)
  exact h
 refine up aa Y (λi xs=>∀ (done:List D) (q N':Nat),N4<=N'->All2 Tm.Is (l.take i) done->done.length=i->OwnL N N' ([J.cell 0,J.cell 1,y.cell 0,y.cell 1]++done) ->
  xN Q N i (.ag [.j k,.t nm,.t ot,.j n0,t0,t1,r0,r1,.sl a 9 es c]) 0 (bytes []) (bytes []) 0 0 none [] 0 0 none [] 0 none [] 0 k nm ot n0 (J.cell 0) (J.cell 1) (y.cell 0) (y.cell 1) done.length q done q N') ?_ ?_ [] 0 N4 (oD _) rfl rfl al
 ·intro i am hi done q N' ao hd ab ho
  refine wW _ _ _ _ _ _ _ _ _ _ _ _ _ _ _ _ _ _ _ _ _ _ _ _ _ _ _ _ _ _ _ _ ⟨_,_,_,rfl,?_⟩
  rw [oi (by omega)] at hd
  rw [am]
  exact ⟨⟨rfl,rfl⟩,λN5 U=>hQ _ _ _ _ _ _ _ (by omega) ak hd (ho.mono (oD _) U)⟩
 ·intro i x xs I _ aq done q N' ao hd ab ho
  have hb:=I.b
  have ac:=yK g4 I.m
  refine wW _ _ _ _ _ _ _ _ _ _ _ _ _ _ _ _ _ _ _ _ _ _ _ _ _ _ _ _ _ _ _ _ ⟨_,_,_,rfl,?_⟩
  rw [I.lt]
  refine ⟨_,_,_,rfl,⟨by omega,by omega⟩,λN5 U=>?_⟩
  rw [oK,I.w]
  refine ih x I.m _ I.r ac _ _ ?_
  cases x with
  | mk k2 a3 a4 n2 a5 a6 l2=>
    intro x4 x5 x6 x7 au c2 N6 a7 aw O ax _ _
    have a8:=O.len
    have a9:=ac.2.2.1
    refine ⟨⟨rfl,rfl⟩,λa2 N7 ba hf=>⟨⟨rfl,rfl⟩,by unfold zA;rw [oI];simp only [oO,oX];omega,λc3=>?_⟩⟩
    refine aq _ _ _ (by omega) (by rw [vH I.g];exact hd.snoc (Tm.is_mk.2 ⟨_,_,_,_,_,_,_,rfl,aw,by omega,O⟩)) (by simp [ab]) ?_
    refine zMU (hd:=[J.cell 0,J.cell 1,y.cell 0,y.cell 1]) (xs:=[x4,x5,x6,x7]) (ho.mono (oD _) U) ax hf (by omega) (by omega) (by omega) (zGm hf λb hb=>?_) (zGm hf λb hb=>?_)
    ·simp only [nG,oc,zF,oJ] at hb
     rcases hb with hb | hb | hb | hb | hb
     ·exact ⟨_,by simp,hb⟩
     ·exact ⟨J.cell 1,by simp,hb⟩
     ·exact ⟨y.cell 0,by simp,hb⟩
     ·exact ⟨y.cell 1,by simp,hb⟩
     ·exact ⟨.ag done,by simp,by simpa only [D.foot] using hb⟩
    ·simp only [nG,oc,zF,oJ] at hb
     rcases hb with hb | hb | hb | hb | hb
     ·exact ⟨x4,by simp,hb⟩
     ·exact ⟨x5,by simp,hb⟩
     ·exact ⟨x6,by simp,hb⟩
     ·exact ⟨x7,by simp,hb⟩
     ·exact ⟨.ag au,by simp,by simpa only [D.foot] using hb⟩
/-- a term's head anew; its parts are those handed in, and come back -/
theorem zPP {k:Int} {nm ot:ByteArray} {n0:Int} {ty re:Ty} {t0 t1 r0 r1 x:D} (I:Tm.Hd nm ot ty re t0 t1 r0 r1) (h1:ty.cnt<=1073741824) (h2:re.cnt<=1073741824) (a:Option Addr) (es:List D) (c:Nat) (N:Nat)
  (Q:QT [.pk,.i,.str,.str,.i,.dc,.dc,.dc,.dc,.bk 1]) (hQ:∀ J O U Y N',N<=N'->Tm.Hd nm ot ty re J O U Y->OwnL N N' [J,O,U,Y]->Q k nm ot n0 J O U Y (.sl a 9 es c) N') :
  ACalls prog 57 [.pk,.i,.str,.str,.i,.dc,.dc,.dc,.dc,.bk 1] [.dg 9 (.ag [.j k,.t nm,.t ot,.j n0,t0,t1,r0,r1,x]),.sv a 9 es c] N Q:=by
 refine zBi N _ a es c Q λ_ _=>?_
 repeat' first|with_reducible intro _|simp only[Y1,Y2,Y3,Y4]|with_reducible refine X ?_ ?_|refine⟨_,_,_,rfl,?_⟩|refine⟨_,rfl,?_⟩|refine And.intro (by first|omega|trivial|(show _=_;rfl)|(with_reducible constructor)<;>first|omega|trivial|rfl) ?_|refine (zRh _ _ I.ty h1) _ _ ?_|refine (zRh _ _ I.re h2) _ _ ?_|fail
 rename_i N1 aa x1 N2 ai hx ab _ _ N3 ac y N4 aj hy ae _ _ N5 ah
 refine hQ _ _ _ _ _ (by omega) ⟨I.nm,I.ot,Ty.is_cells hx,Ty.is_cells hy⟩ ?_
 exact wn ((u3 hx ab).mono aa (oD _)) ((u3 hy ae).mono ac ah) (by omega) (by omega)
theorem tE:∀ l:List ByteArray,zF (zB l)=[]
 | []=>rfl
 | s::l=>by have:=tE l;simp only [zB,ol,zF,D.foot,oc] at this ⊢;exact this
theorem zEk:∀ l:List ByteArray,xa (zB l)
 | []=>trivial
 | s::l=>⟨trivial,zEk l⟩
theorem zKd {N N':Nat} (l:List ByteArray):OwnL N N' (zB l):=⟨by rw [tE];exact mD,zEk l,by rw [tE];simp,by rw [tE];simp⟩
theorem uw {N N' M:Nat} {a:Option Addr} {l:List ByteArray} {c:Nat} {ds:List D} (I:Fresh N N' a (.ag (zB l)::ds)) (h:N'<=M):Own N M (.sl a 0 (zB l) c):=(zD1 (N1:=N') (zKd l) I (oD _)).mono (oD _) h
theorem zMh {bs:List (Option Addr)} (l:List ByteArray):Off bs (.ag (zB l)):=λa _ ad _ hc=>by simp only [D.foot,tE] at hc;simp at hc
/-- names, handed back as a row of their own -/
def zR1 (f:FuncId) (args:List PV) (l:List ByteArray):Prop:=∀ (N:Nat) (Q:QT [.sl 0]),(∀ a c N',N<=N'->Own N N' (.sl a 0 (zB l) c)->Q a (zB l) c N')->ACalls prog f [.sl 0] args N Q
def zSd (f:FuncId) (args:List PV) (l:List ByteArray):Prop:=∀ (N:Nat) (Q:QT [.row 9 0]),(∀ c N',N<=N'->Q (zB l) c N')->ACalls prog f [.row 9 0] args N Q
theorem zBq {l:List ByteArray} {s:ByteArray} (h:l.length<=8796093022207):zA (zB l) [.t s] 16:=by
 unfold zA;rw [oI,zS];simp only [oO,oX];omega
theorem zE1 (l:List ByteArray) (hl:l.length<=2199023255552) (a:Option Addr) (c:Nat) (s:ByteArray):zR1 121 [.sv a 0 (zB l) c,.str s] (l.filter λx=>decide (x≠s)):=λN Q hQ=>by
 have Y:=wx l
 have O:(zB l).length<=4611686018427387904:=by rw [zS];omega
 refine p8 N a _ c s Q λ_=>?_
 refine up Y O (λi xs=>∀ (done:List ByteArray) (q N':Nat),N<=N'->done.length<=i->i<=l.length->done++xs.filter (λx=>decide (x≠s))=l.filter (λx=>decide (x≠s)) ->
  zy Q N a (zB l) c s (zB done).length q i (zB done) q N') ?_ ?_ [] 0 N (oD _) (by simp) (by omega) rfl
 ·intro i aa hi done q N' J ab ac hd
  refine vT _ _ _ _ _ _ _ _ _ _ _ _ ?_
  rw [aa]
  rw [List.filter_nil,nO] at hd
  subst hd
  exact ⟨⟨rfl,rfl⟩,⟨rfl,rfl⟩,⟨rfl,rfl⟩,λa1 N1 ah hf N2 ae=>hQ _ _ _ (by omega) (uw hf ae)⟩
 ·intro i x xs I _ U done q N' J ab ac hd
  have hb:=I.b
  have hr:=I.r
  have ai:=zS l
  refine vT _ _ _ _ _ _ _ _ _ _ _ _ ?_
  rw [I.lt,oK,hr,I.w]
  refine ⟨⟨by omega,by omega⟩,_,rfl,Br.nstr (λh=>⟨⟨by omega,by omega⟩,_,rfl,⟨rfl,rfl⟩,zBq (by omega),λc1=>?_⟩) λh=>?_⟩
  ·rw [tZ]
   refine U _ _ _ J (by simp;omega) (by omega) ?_
   rw [<-hd]
   simp [List.filter_cons,h]
  ·refine U _ _ _ J (by omega) (by omega) ?_
   rw [<-hd]
   simp [List.filter_cons,h]
theorem zCM (s:ByteArray) (l:List ByteArray):decide (zLO (λx=>decide (x=s)) l 0<0)=decide (s∉l):=by
 have h:=zI2 (λx=>decide (x=s)) l 0 (by omega)
 rw [mf,mS,mS]
 have I:(decide (zLO (λx=>decide (x=s)) l 0≥0)=true)↔(l.any λx=>decide (x=s))=true:=by rw [h]
 rw [mS] at I
 simp only [List.any_eq_true,o3,exists_eq_right] at I
 constructor
 ·intro O J;have:=I.2 J;omega
 ·intro O;exact Int.not_le.1 λJ=>O (I.1 J)
theorem zEy {out xs:List ByteArray} {x:ByteArray}:dd out (x::xs)=dd (if x∈out then out else out++[x]) xs:=rfl
theorem zMO {out:List ByteArray} {x:ByteArray}:(if x∈out then out else out++[x]).length<=out.length+1:=by split<;>simp
theorem uz (l m:List ByteArray) (hl:l.length<=2199023255552) (hm:m.length<=2199023255552) (a b:Option Addr) (c c':Nat):zSd 122 [.sv a 0 (zB l) c,.sv b 0 (zB m) c'] (sF l m):=fun N Q hQ=>by
 have hes:=wx l
 have hlen:(zB l).length<=4611686018427387904:=by rw [zS];omega
 have hms:=wx m
 have hmen:(zB m).length<=4611686018427387904:=by rw [zS];omega
 have hlw:=zS l
 have hmw:=zS m
 refine zAL N a _ c b _ c' Q fun _ _=>?_
 have second:∀ (done:List ByteArray) (q N':Nat),N<=N'->done.length<=l.length->done=dd [] l->zo Q N b (zB m) c' (zB done).length q 0 (zB done) q N':=fun done0 q0 N0 hN0 hdl0 hd0=>
  up hms hmen (fun i xs=>∀ (done:List ByteArray) (q N':Nat),N<=N'->done.length<=l.length+i->dd done xs=sF l m->zo Q N b (zB m) c' (zB done).length q i (zB done) q N')
   (fun i hlt hi done q N' hN' hdl hd=>by
    refine uF _ _ _ _ _ _ _ _ _ _ _ ?_
    rw [hlt]
    simp only [dd] at hd
    subst hd
    exact ⟨⟨rfl,rfl⟩,fun N2 hN2=>hQ _ _ (by omega)⟩)
   (fun i x xs hat _ ih2 done q N' hN' hdl hd=>by
    have hb:=hat.b
    have hr:=hat.r
    have hdl2:=zMO (out:=done) (x:=x)
    refine uF _ _ _ _ _ _ _ _ _ _ _ ?_
    rw [hat.lt,oK,hr,hat.w]
    refine ⟨⟨by omega,by omega⟩,_,rfl,⟨rfl,rfl⟩,fun a1 _ N1 hN1 _=>yp done (by omega) a1 q x N1 _ fun N2 hN2 hle2=>?_⟩
    rw [zCM]
    refine Br.dec (fun h=>⟨⟨by omega,by omega⟩,_,rfl,⟨rfl,rfl⟩,zBq (by omega),fun c1=>?_⟩) fun h=>?_
    ·rw [tZ]
     rw [if_neg h] at hdl2
     refine ih2 _ _ _ (by omega) (by omega) ?_
     rw [<-hd,zEy,if_neg h]
    ·refine ih2 _ _ _ (by omega) (by omega) ?_
     rw [<-hd,zEy,if_pos (mE.1 h)]) done0 q0 N0 hN0 (by omega) (by rw [hd0];rfl)
 refine up hes hlen (fun i xs=>∀ (done:List ByteArray) (q N':Nat),N<=N'->done.length<=i->dd done xs=dd [] l ->
  yH Q N a (zB l) c b (zB m) c' (zB done).length q i (zB done) q N') ?_ ?_ [] 0 N (oD _) (by simp) rfl
 ·intro i hlt hi done q N' hN' hdl hd
  refine vk _ _ _ _ _ _ _ _ _ _ _ _ _ _ ?_
  rw [hlt]
  exact second done q N' hN' (by omega) hd
 ·intro i x xs hat _ ih2 done q N' hN' hdl hd
  have hb:=hat.b
  have hr:=hat.r
  have hdl2:=zMO (out:=done) (x:=x)
  refine vk _ _ _ _ _ _ _ _ _ _ _ _ _ _ ?_
  rw [hat.lt,oK,hr,hat.w]
  refine ⟨⟨by omega,by omega⟩,_,rfl,⟨rfl,rfl⟩,fun a1 _ N1 hN1 _=>yp done (by omega) a1 q x N1 _ fun N2 hN2 hle2=>?_⟩
  rw [zCM]
  refine Br.dec (fun h=>⟨⟨by omega,by omega⟩,_,rfl,⟨rfl,rfl⟩,zBq (by omega),fun c1=>?_⟩) fun h=>?_
  ·rw [tZ]
   rw [if_neg h] at hdl2
   refine ih2 _ _ _ (by omega) (by omega) ?_
   rw [<-hd,zEy,if_neg h]
  ·refine ih2 _ _ _ (by omega) (by omega) ?_
   rw [<-hd,zEy,if_pos (mE.1 h)]
theorem Qbd {Q:QT [.sl 0,.i]} {a:Option Addr} {es I:List D} {c:Nat} {n J:Int} {N:Nat} (h:Q a es c n N) (e1:es=I) (O:n=J):Q a I c J N:=e1 ▸ O ▸ h
def zSG (f:FuncId) (args:List PV) (l:List ByteArray) (n:Int):Prop:=∀ (N:Nat) (Q:QT [.sl 0,.i]),(∀ a c N',N<=N'->Own N N' (.sl a 0 (zB l) c)->Q a (zB l) c n N')->ACalls prog f [.sl 0,.i] args N Q
theorem pW {k n0:Int} {nm ot:ByteArray} {t0 t1 r0 r1:D} {a:Option Addr} {es:List D} {c n:Nat} (hn:es.length=n) :
  zSG 110 [.dg 9 (.ag [.j k,.t nm,.t ot,.j n0,t0,t1,r0,r1,.sl a 9 es c])] (bdN k nm ot n) (ze k n):=λN Q hQ=>by
 subst hn
 have one:∀ (x:ByteArray) (m:Int),bdN k nm ot es.length=[x]->ze k es.length=m->((1:Nat)=([D.t x]).length/\(1:Nat)=1)/\((1:Nat)=([D.t x]).length/\(1:Nat)=1)/\∀ a1 N1,N<=N1->Fresh N N1 a1 [D.ag [D.t x]]->∀ N2,N1<=N2->Q a1 [D.t x] 1 m N2:=λx m I U=>
  ⟨⟨rfl,rfl⟩,⟨rfl,rfl⟩,λa1 N1 Y hf N2 J=>Qbd (hQ a1 1 N2 (by omega) (by rw [I];exact uw (l:=[x]) hf J)) (by rw [I];rfl) U⟩
 have aa:bdN k nm ot es.length=[nm,ot]->ze k es.length=0->((2:Nat)=([D.t nm,D.t ot]).length/\(2:Nat)=2)/\((2:Nat)=([D.t nm,D.t ot]).length/\(2:Nat)=2)/\∀ a1 N1,N<=N1->Fresh N N1 a1 [D.ag [D.t nm,D.t ot]]->∀ N2,N1<=N2->Q a1 [D.t nm,D.t ot] 2 0 N2:=λI U=>
  ⟨⟨rfl,rfl⟩,⟨rfl,rfl⟩,λa1 N1 Y hf N2 J=>Qbd (hQ a1 2 N2 (by omega) (by rw [I];exact uw (l:=[nm,ot]) hf J)) (by rw [I];rfl) U⟩
 have nil:bdN k nm ot es.length=[]->ze k es.length = -1->((0:Nat)=0/\(0:Nat)=0)/\((0:Nat)=0/\(0:Nat)=0)/\∀ a1 N1,N<=N1->Fresh N N1 a1 [D.ag []]->∀ N2,N1<=N2->Q a1 [] 0 (-1) N2:=λI U=>
  ⟨⟨rfl,rfl⟩,⟨rfl,rfl⟩,λa1 N1 Y hf N2 J=>Qbd (hQ a1 0 N2 (by omega) (by rw [I];exact uw (l:=[]) hf J)) (by rw [I];rfl) U⟩
 refine zDf N _ Q λ_=>⟨_,rfl,Br.beq (λh6=>⟨_,_,_,rfl,Br.beq (λI=>⟨_,rfl,?_⟩) λI=>?_⟩) λh6=>?_⟩
 ·exact one _ _ (by unfold bdN;rw [if_pos ⟨h6,by omega⟩]) (by unfold ze;rw [if_pos ⟨h6,by omega⟩])
 ·refine ⟨_,rfl,Br.beq (λh8=>by omega) λh8=>⟨_,rfl,Br.beq (λO=>by omega) λO=>?_⟩⟩
  exact nil (by unfold bdN;rw [if_neg (by omega),if_neg (by omega),if_neg (by omega)]) (by unfold ze;rw [if_neg (by omega),if_neg (by omega),if_neg (by omega)])
 ·refine ⟨_,rfl,Br.beq (λh8=>⟨_,_,_,rfl,Br.beq (λI=>⟨_,rfl,?_⟩) λI=>?_⟩) λh8=>?_⟩
  ·exact one _ _ (by unfold bdN;rw [if_neg (by omega),if_pos ⟨h8,by omega⟩]) (by unfold ze;rw [if_neg (by omega),if_pos ⟨h8,by omega⟩])
  ·refine ⟨_,rfl,Br.beq (λO=>by omega) λO=>?_⟩
   exact nil (by unfold bdN;rw [if_neg (by omega),if_neg (by omega),if_neg (by omega)]) (by unfold ze;rw [if_neg (by omega),if_neg (by omega),if_neg (by omega)])
  ·refine ⟨_,rfl,Br.beq (λO=>⟨_,_,_,rfl,Br.beq (λI=>⟨_,rfl,_,rfl,?_⟩) λI=>?_⟩) λO=>?_⟩
   ·exact aa (by unfold bdN;rw [if_neg (by omega),if_neg (by omega),if_pos ⟨O,by omega⟩]) (by unfold ze;rw [if_neg (by omega),if_neg (by omega),if_pos ⟨O,by omega⟩])
   ·exact nil (by unfold bdN;rw [if_neg (by omega),if_neg (by omega),if_neg (by omega)]) (by unfold ze;rw [if_neg (by omega),if_neg (by omega),if_neg (by omega)])
   ·exact nil (by unfold bdN;rw [if_neg (by omega),if_neg (by omega),if_neg (by omega)]) (by unfold ze;rw [if_neg (by omega),if_neg (by omega),if_neg (by omega)])
theorem zKU (l m:List ByteArray):zB l++zB m=zB (l++m):=by simp [zB]
end Go.Proofs.YtnmnahkkcfghjaaGreat
