/- Free names, fresh names, substitution: what they are (no program in sight). -/
import Derived.Test.YtfajiphkncipoaaGreatDoorA5
import Derived.Lib.ItoaNum
import Derived.Test.YtfajiphkncipoaaGreatDoorA6
import Derived.Test.YtfajiphkncipoaaGreatDoorKu
set_option linter.unusedVariables false
set_option linter.unusedSimpArgs false
namespace Go.Proofs.YtfajiphkncipoaaGreatDoor
open Go Go.Proofs Go.Proofs.Tryz Go.IntWalk
instance decMem (s:ByteArray) (l:List ByteArray):Decidable (s∈l):=decidable_of_iff ((l.any fun x=>decide (x=s))=true) (by simp)
/-- those of a list that are new go behind -/
def dd:List ByteArray->List ByteArray->List ByteArray
 | out,[]=>out
 | out,s::l=>dd (if s∈out then out else out++[s]) l
def u6 (a b:List ByteArray):List ByteArray:=dd (dd [] a) b
def tM (I l:List ByteArray):List ByteArray:=l.filter λs=>decide (s∉I)
theorem zPs:∀ (out a b:List ByteArray),dd out (a++b)=dd (dd out a) b
 | out,[],b=>rfl
 | out,s::a,b=>by simp only [o5,dd];exact zPs _ a b
theorem zMs:∀ (out l:List ByteArray) (x:ByteArray),x∈dd out l↔x∈out\/x∈l
 | out,[],x=>by simp [dd]
 | out,s::l,x=>by
   simp only [dd]
   rw [zMs]
   split
   ·rename_i h
    constructor
    ·rintro (h1 | h1)
     ·exact .inl h1
     ·exact .inr (by simp [h1])
    ·rintro (h1 | h1)
     ·exact .inl h1
     ·rcases oF.1 h1 with rfl | h1
      ·exact .inl h
      ·exact .inr h1
   ·simp only [oK,oY,oF,ol,mD,or_assoc]
theorem zHb:∀ (out l:List ByteArray),out.Nodup->(dd out l).Nodup
 | out,[],h=>h
 | out,s::l,h=>by
   simp only [dd]
   refine zHb _ l ?_
   split
   ·exact h
   ·rename_i hs
    rw [nK]
    refine ⟨h,by simp,λa J b I=>?_⟩
    rw [oY] at I
    subst I
    exact λhc=>hs (hc ▸ J)
theorem zEC:∀ (out l:List ByteArray),(dd out l).length<=out.length+l.length
 | out,[]=>by simp [dd]
 | out,s::l=>by
   simp only [dd]
   have:=zEC (if s∈out then out else out++[s]) l
   split at this<;>simp_all<;>omega
theorem zHk {a b:List ByteArray} {x:ByteArray}:x∈u6 a b↔x∈a\/x∈b:=by
 unfold u6;rw [zMs,zMs];simp
theorem zJB (a b:List ByteArray):(u6 a b).Nodup:=zHb _ _ (zHb _ _ mB)
theorem ue {n l:List ByteArray} {x:ByteArray}:x∈tM n l↔x∈l/\x∉n:=by simp [tM]
/-- different elements of a list are no more than the list has -/
theorem zDf:∀ {l m:List ByteArray},l.Nodup->(∀ x∈l,x∈m)->l.length<=m.length
 | [],m,_,_=>Nat.zero_le _
 | x::l,m,J,hs=>by
   obtain ⟨O,U⟩:=nf.1 J
   have Y:=hs x (by simp)
   have h3:=zDf (l:=l) (m:=m.filter λy=>decide (y≠x)) U λy I=>by
    rw [ny]
    exact ⟨hs y (by simp [I]),by simp;exact λhc=>O (hc ▸ I)⟩
   have h4:=mi (p:=λy=>decide (y≠x)).2 ⟨x,Y,by simp⟩
   simp only [oM]
   omega
def yG (k:Int) (n:Nat):Int:=if k=6/\n=1 then 0 else if k=8/\n=2 then 1 else if k=9/\n=1 then 0 else -1
def bdN (k:Int) (nm ot:ByteArray) (n:Nat):List ByteArray:=if k=6/\n=1 then [nm] else if k=8/\n=2 then [nm] else if k=9/\n=1 then [nm,ot] else []
theorem qt (k:Int) (nm ot:ByteArray) (n:Nat):(bdN k nm ot n).length<=2:=by unfold bdN;(repeat' split)<;>simp
theorem zA2 (k:Int) (n:Nat):yG k n = -1\/(yG k n=0/\n=1/\(k=6\/k=9))\/(yG k n=1/\n=2/\k=8):=by
 unfold yG;(repeat' split)<;>simp_all
mutual
def Tm.fv:Tm->List ByteArray
 | .mk k nm ot _ _ _ l=>if k=1 then [nm] else vn l (yG k l.length) (bdN k nm ot l.length) 0 []
def vn:List Tm->Int->List ByteArray->Nat->List ByteArray->List ByteArray
 | [],_,_,_,out=>out
 | x::xs,at_,ns,i,out=>vn xs at_ ns (i+1) (u6 out (if (i:Int)=at_ then tM ns x.fv else x.fv))
end
/-- the free names of the part at a place -/
def fvI (at_:Int) (ns:List ByteArray) (i:Nat) (x:Tm):List ByteArray:=if (i:Int)=at_ then tM ns x.fv else x.fv
theorem zIj:∀ (l:List Tm) (at_:Int) (ns:List ByteArray) (i:Nat) (out:List ByteArray) (s:ByteArray),s∈vn l at_ ns i out↔s∈out\/∃ (j:Nat) (x:Tm),l[j]?=some x/\s∈fvI at_ ns (i+j) x
 | [],_,_,_,out,s=>by simp [vn]
 | y :: l,at_,ns,i,out,s=>by
   simp only [vn]
   rw [zIj,zHk]
   constructor
   ·rintro ((h | h) | ⟨j,x,I,J⟩)
    ·exact .inl h
    ·exact .inr ⟨0,y,rfl,h⟩
    ·exact .inr ⟨j+1,x,by simpa using I,by rw [show i+(j+1)=i+1+j by omega];exact J⟩
   ·rintro (h | ⟨j,x,I,J⟩)
    ·exact .inl (.inl h)
    ·cases j with
     | zero=>simp at I;subst I;exact .inl (.inr J)
     | succ j=>exact .inr ⟨j,x,by simpa using I,by rw [show i+1+j=i+(j+1) by omega];exact J⟩
theorem zEN:∀ (l:List Tm) (at_:Int) (ns:List ByteArray) (i:Nat) (out:List ByteArray),out.Nodup->(vn l at_ ns i out).Nodup
 | [],_,_,_,out,h=>h
 | y::l,at_,ns,i,out,h=>by simp only [vn];exact zEN l _ _ _ _ (zJB _ _)
theorem Tm.fv_mem {k:Int} {nm ot:ByteArray} {n:Int} {ty re:Ty} {l:List Tm} {s:ByteArray}:s∈(Tm.mk k nm ot n ty re l).fv↔(k=1/\s=nm)\/(k≠1/\∃ (j:Nat) (x:Tm),l[j]?=some x/\s∈fvI (yG k l.length) (bdN k nm ot l.length) j x):=by
 simp only [Tm.fv]
 by_cases I:k=1
 ·simp [I]
 ·rw [if_neg I,zIj];simp [I]
theorem Tm.fv_nodup (t:Tm):t.fv.Nodup:=by
 cases t;simp only [Tm.fv];split
 ·simp
 ·exact zEN _ _ _ _ _ mB
def u3 (k:Nat):ByteArray:=⟨(118::Lib.decDigits k).toArray⟩
theorem zQJ:∀ (a b:Nat),Lib.decDigits a=Lib.decDigits b->a=b:=by
 intro a
 have U:∀ u,(Lib.decDigits u).length=Lib.nDigits u:=Lib.decDigits_length
 have e1:∀ u,u<10->Lib.decDigits u=[UInt8.ofNat (48+u)]:=λu h=>by rw [Lib.decDigits,dif_pos h]
 have Y:∀ u,¬u<10->Lib.decDigits u=Lib.decDigits (u / 10)++[UInt8.ofNat (48+u % 10)]:=λu h=>by rw [Lib.decDigits,dif_neg h]
 have u8:∀ x y:Nat,x<10->y<10->UInt8.ofNat (48+x)=UInt8.ofNat (48+y)->x=y:=λx y hx hy h=>by
  have:=np UInt8.toNat h
  simp only [UInt8.toNat_ofNat'] at this
  omega
 induction a using Nat.strongRecOn with
 | _ a ih=>
   intro b h
   have J:=np List.length h
   rw [U,U] at J
   by_cases I:a<10
   ·rw [Lib.nDigits_small I] at J
    have O:b<10:=by
     refine lB λhc=>?_
     rw [Lib.nDigits_big (by omega)] at J
     have:=Lib.nDigits_pos (b / 10)
     omega
    rw [e1 a I,e1 b O] at h
    exact u8 a b I O (by simpa using h)
   ·have O:¬b<10:=λhc=>by
     rw [Lib.nDigits_big I,Lib.nDigits_small hc] at J
     have:=Lib.nDigits_pos (a / 10)
     omega
    rw [Y a I,Y b O] at h
    obtain ⟨h1,h2⟩:=List.append_inj' h rfl
    have:=ih (a / 10) (by omega) (b / 10) h1
    have:=u8 (a % 10) (b % 10) (by omega) (by omega) (by simpa using h2)
    omega
theorem zM6 {a b:Nat} (h:u3 a=u3 b):a=b:=by
 have:(118::Lib.decDigits a:List UInt8)=118::Lib.decDigits b:=by
  have:=np (λx:ByteArray=>x.data.toList) h
  simpa [u3] using this
 exact zQJ a b (by simpa using this)
def rD:Nat->Nat->List ByteArray->Nat
 | 0,k,_=>k
 | f+1,k,l=>if u3 k∈l then rD f (k+1) l else k
def fresh (l:List ByteArray):ByteArray:=u3 (rD l.length 1 l)
theorem zOH:∀ (n k:Nat),((List.range n).map λi=>u3 (k+i)).Nodup:=λn k=>by
 rw [List.nodup_iff_pairwise_ne,List.pairwise_map]
 refine List.Pairwise.imp (λ{a b} h hc=>?_) (List.nodup_iff_pairwise_ne.1 List.nodup_range)
 have:=zM6 hc
 omega
theorem zPi (l:List ByteArray) (k:Nat) (h:∀ j,1<=j->j<k->u3 j∈l) (J:1<=k):k<=l.length+1:=by
 have:=zDf (zOH (k - 1) 1) (m:=l) λx I=>by
  obtain ⟨i,hi,rfl⟩:=oR.1 I
  rw [List.mem_range] at hi
  exact h _ (by omega) (by omega)
 simp at this
 omega
theorem zEU (l:List ByteArray):∀ (f k:Nat),1<=k->k+f=l.length+1->(∀ j,1<=j->j<k->u3 j∈l)->1<=rD f k l/\rD f k l<=l.length+1/\u3 (rD f k l)∉l/\∀ j,1<=j->j<rD f k l->u3 j∈l
 | 0,k,J,h2,I=>by
   simp only [rD]
   refine ⟨J,by omega,λhc=>?_,I⟩
   have:=zPi l (k+1) (λj O h5=>by
    by_cases U:j=k
    ·subst U;exact hc
    ·exact I j O (by omega)) (by omega)
   omega
 | f + 1,k,J,h2,I=>by
   simp only [rD]
   split
   ·rename_i Y
    exact zEU l f (k+1) (by omega) (by omega) λj O h5=>by
     by_cases U:j=k
     ·subst U;exact Y
     ·exact I j O (by omega)
   ·rename_i Y
    exact ⟨J,by omega,Y,I⟩
theorem qC (l:List ByteArray):∃ k,fresh l=u3 k/\1<=k/\k<=l.length+1/\u3 k∉l/\∀ j,1<=j->j<k->u3 j∈l:=by
 obtain ⟨I,J,O,U⟩:=zEU l l.length 1 (oD _) (by omega) λj I J=>by omega
 exact ⟨_,rfl,I,J,O,U⟩
theorem zNH (l:List ByteArray):fresh l∉l:=by
 obtain ⟨k,h,_,_,I,_⟩:=qC l
 rw [h];exact I
theorem zOQ {l m:List ByteArray} (h:∀ x,x∈l↔x∈m):fresh l=fresh m:=by
 obtain ⟨k,e1,a1,a2,a3,a4⟩:=qC l
 obtain ⟨j,I,J,Y,O,U⟩:=qC m
 rw [e1,I]
 congr 1
 refine Nat.le_antisymm (Nat.le_of_not_lt λhc=>?_) (Nat.le_of_not_lt λhc=>?_)
 ·exact O ((h _).1 (a4 j J hc))
 ·exact a3 ((h _).2 (U k a1 hc))
def tm0:Tm:=.mk 0 (bytes []) (bytes []) 0 (.mk 0 []) (.mk 0 []) []
def tw (s:ByteArray):Tm:=.mk 1 s (bytes []) 0 (.mk 0 []) (.mk 0 []) []
theorem zJp (s:ByteArray):(tw s).fv=[s]:=rfl
/-- one name that a node binds, away from others -/
def rn1 (S:Tm->ByteArray->Tm->Tm) (k:Int) (n:Nat) (fb:List ByteArray) (x old:ByteArray) (s:ByteArray × ByteArray × Tm):ByteArray × ByteArray × Tm:=
 if old∈fb then
  (if s.1=old then (fresh (fb++(s.2.2.fv++([x]++bdN k s.1 s.2.1 n))),s.2.1,S s.2.2 old (tw (fresh (fb++(s.2.2.fv++([x]++bdN k s.1 s.2.1 n))))))
   else (s.1,fresh (fb++(s.2.2.fv++([x]++bdN k s.1 s.2.1 n))),S s.2.2 old (tw (fresh (fb++(s.2.2.fv++([x]++bdN k s.1 s.2.1 n)))))))
 else s
def rns (S:Tm->ByteArray->Tm->Tm) (k:Int) (n:Nat) (fb:List ByteArray) (x:ByteArray):List ByteArray->ByteArray × ByteArray × Tm->ByteArray × ByteArray × Tm
 | [],s=>s
 | old::l,s=>rns S k n fb x l (rn1 S k n fb x old s)
def Tm.sub:Nat->Tm->ByteArray->Tm->Tm
 | 0,e,_,_=>e
 | f + 1,.mk k nm ot n ty re l,x,b=>
   if k=1 then (if nm=x then b else .mk k nm ot n ty re l)
   else if yG k l.length<0 then .mk k nm ot n ty re (l.map λt=>Tm.sub f t x b)
   else if x∈bdN k nm ot l.length\/x∉(l.getD (yG k l.length).toNat tm0).fv then
    .mk k nm ot n ty re ((l.map λt=>Tm.sub f t x b).set (yG k l.length).toNat (l.getD (yG k l.length).toNat tm0))
   else
    .mk k (rns (Tm.sub f) k l.length b.fv x (bdN k nm ot l.length) (nm,ot,l.getD (yG k l.length).toNat tm0)).1
     (rns (Tm.sub f) k l.length b.fv x (bdN k nm ot l.length) (nm,ot,l.getD (yG k l.length).toNat tm0)).2.1 n ty re
     ((l.map λt=>Tm.sub f t x b).set (yG k l.length).toNat (Tm.sub f (rns (Tm.sub f) k l.length b.fv x (bdN k nm ot l.length) (nm,ot,l.getD (yG k l.length).toNat tm0)).2.2 x b))
theorem vQ {k:Int} {n:Nat} (h:¬yG k n<0):(yG k n).toNat<n/\((yG k n).toNat:Int)=yG k n:=by
 rcases zA2 k n with I | ⟨I,J,_⟩ | ⟨I,J,_⟩
 ·omega
 ·rw [I];subst J;exact ⟨by decide,rfl⟩
 ·rw [I];subst J;exact ⟨by decide,rfl⟩
theorem zw {l:List Tm} {i:Nat} (h:i<l.length):l[i]?=some (l.getD i tm0):=by
 rw [oA,oG h];rfl
/-- where a name is not free, nothing is put -/
theorem zL8:∀ (f:Nat) (e:Tm) (x:ByteArray) (b:Tm),x∉e.fv->e.sub f x b=e
 | 0,e,x,b,_=>rfl
 | f + 1,.mk k nm ot n ty re l,x,b,h=>by
   rw [Tm.fv_mem] at h
   simp only [not_or,not_and,not_exists] at h
   obtain ⟨h1,Y⟩:=h
   simp only [Tm.sub]
   have part:k≠1->∀ (j:Nat) (y:Tm),l[j]?=some y->(j:Int)≠yG k l.length->y.sub f x b=y:=λI j y J O=>by
    refine zL8 f y x b λhc=>?_
    have:=Y I j y J
    unfold fvI at this
    rw [if_neg O] at this
    exact this hc
   split
   ·rename_i I
    rw [if_neg (λhc=>h1 I hc.symm)]
   ·rename_i I
    split
    ·rename_i hb
     congr 1
     refine (ou λy hy=>?_).trans (List.map_id l)
     obtain ⟨j,J⟩:=oO.1 hy
     exact part I j y J (by omega)
    ·rename_i hb
     obtain ⟨U,g2⟩:=vQ hb
     split
     ·congr 1
      apply o8
      intro i
      rw [nJ]
      split
      ·rename_i hi
       subst hi
       rw [if_pos (by simpa using U),zw U]
      ·rename_i hi
       rw [oE]
       cases hl:l[i]? with
       | none=>rfl
       | some y=>
         simp only [oa]
         rw [part I i y hl (by omega)]
     ·rename_i hc
      exfalso
      simp only [not_or,mK] at hc
      have:=Y I _ _ (zw U)
      unfold fvI at this
      rw [if_pos g2,ue] at this
      exact this ⟨hc.2,hc.1⟩
/-- the cells of a term that was made anew, and nothing else -/
def u7 (t:Tm) (N:Nat) (Q:QT [.pk,.i,.str,.str,.i,.dc,.dc,.dc,.dc,.row 29 9]):Prop:=
 match t with | .mk k nm ot n ty re l=>∀ J O U Y I c' N',N<=N'->Tm.Hd nm ot ty re J O U Y->All2 Tm.Is l I->OwnL N N' ([J,O,U,Y]++I)->Q k nm ot n J O U Y I c' N'
theorem pN {N N3:Nat} {a:Option Addr} {ds:List D} {es:List D} (I:Fresh N N3 a ds) (h:∀ b,b∈zF es->∃ d∈ds,b∈d.foot):∀ ad,a=some ad->ad.block∉zF es:=λad J hc=>by
 obtain ⟨d,hd,O⟩:=h _ hc
 exact I.ap ad J d hd O
theorem tB:∀ (t:Tm) (d:D),t.Is d->t.G->∀ (N:Nat) (Q:QT [.pk,.i,.str,.str,.i,.dc,.dc,.dc,.dc,.row 29 9]),u7 t N Q ->
  ACalls prog 40 [.pk,.i,.str,.str,.i,.dc,.dc,.dc,.dc,.row 29 9] [.dg 9 d] N Q:=by
 refine Tm.ind λk nm ot n0 ty re l ih d hd hG N Q hQ=>?_
 obtain ⟨t0,t1,r0,r1,a,es,c,rfl,hh,Y,aa⟩:=Tm.is_mk.1 hd
 have hl:=aa.len
 obtain ⟨g1,g2,g3,g4⟩:=hG
 simp only [u7] at hQ
 refine px N _ Q λ_=>?_
 repeat' first|with_reducible intro _|simp only[Y1,Y2,Y3,Y4]|with_reducible refine X ?_ ?_|refine⟨_,_,_,rfl,?_⟩|refine⟨_,rfl,?_⟩|refine And.intro (by first|omega|trivial|(show _=_;rfl)|(with_reducible constructor)<;>first|omega|trivial|rfl) ?_|refine (zH _ _ hh.ty g1) _ _ ?_|refine (zH _ _ hh.re g2) _ _ ?_|fail
 rename_i N1 ae J N2 ay hx ah _ _ N3 ai y N4 az hy aj _ _
 have ak:Tm.Hd nm ot ty re (J.cell 0) (J.cell 1) (y.cell 0) (y.cell 1):=⟨hh.nm,hh.ot,Ty.is_cells hx,Ty.is_cells hy⟩
 have al:OwnL N N4 ([J.cell 0,J.cell 1,y.cell 0,y.cell 1]++[]):=by
  have h:=xz ((tI hx ah).mono ae (oD _)) ((tI hy aj).mono ai (oD _)) (by omega) (by omega)
  exact h
 refine up aa Y (λi xs=>∀ (done:List D) (q N':Nat),N4<=N'->All2 Tm.Is (l.take i) done->done.length=i->OwnL N N' ([J.cell 0,J.cell 1,y.cell 0,y.cell 1]++done) ->
  xM Q N i (.ag [.j k,.t nm,.t ot,.j n0,t0,t1,r0,r1,.sl a 9 es c]) 0 (bytes []) (bytes []) 0 0 none [] 0 0 none [] 0 none [] 0 k nm ot n0 (J.cell 0) (J.cell 1) (y.cell 0) (y.cell 1) done.length q done q N') ?_ ?_ [] 0 N4 (oD _) rfl rfl al
 ·intro i am hi done q N' ao hd ab ho
  refine wi _ _ _ _ _ _ _ _ _ _ _ _ _ _ _ _ _ _ _ _ _ _ _ _ _ _ _ _ _ _ _ _ ⟨_,_,_,rfl,?_⟩
  rw [oq (by omega)] at hd
  rw [am]
  exact ⟨⟨rfl,rfl⟩,λN5 U=>hQ _ _ _ _ _ _ _ (by omega) ak hd (ho.mono (oD _) U)⟩
 ·intro i x xs I _ aq done q N' ao hd ab ho
  have hb:=I.b
  have ac:=zj g4 I.m
  refine wi _ _ _ _ _ _ _ _ _ _ _ _ _ _ _ _ _ _ _ _ _ _ _ _ _ _ _ _ _ _ _ _ ⟨_,_,_,rfl,?_⟩
  rw [I.lt]
  refine ⟨_,_,_,rfl,⟨by omega,by omega⟩,λN5 U=>?_⟩
  rw [oH,I.w]
  refine ih x I.m _ I.r ac _ _ ?_
  cases x with
  | mk k2 a6 a7 n2 a8 ba l2=>
    intro x4 x5 x6 x7 au c2 N6 bb aw O ax _ _
    have bc:=O.len
    have bd:=ac.2.2.1
    refine ⟨⟨rfl,rfl⟩,λa2 N7 bg hf=>⟨⟨rfl,rfl⟩,by unfold zB;rw [oI];simp only [oM,oQ];omega,λc3=>?_⟩⟩
    refine aq _ _ _ (by omega) (by rw [wK I.g];exact hd.snoc (Tm.is_mk.2 ⟨_,_,_,_,_,_,_,rfl,aw,by omega,O⟩)) (by simp [ab]) ?_
    refine zKv (hd:=[J.cell 0,J.cell 1,y.cell 0,y.cell 1]) (xs:=[x4,x5,x6,x7]) (ho.mono (oD _) U) ax hf (by omega) (by omega) (by omega) (pN hf λb hb=>?_) (pN hf λb hb=>?_)
    ·simp only [o5,oZ,zF,oK] at hb
     rcases hb with hb | hb | hb | hb | hb
     ·exact ⟨_,by simp,hb⟩
     ·exact ⟨J.cell 1,by simp,hb⟩
     ·exact ⟨y.cell 0,by simp,hb⟩
     ·exact ⟨y.cell 1,by simp,hb⟩
     ·exact ⟨.ag done,by simp,by simpa only [D.foot] using hb⟩
    ·simp only [o5,oZ,zF,oK] at hb
     rcases hb with hb | hb | hb | hb | hb
     ·exact ⟨x4,by simp,hb⟩
     ·exact ⟨x5,by simp,hb⟩
     ·exact ⟨x6,by simp,hb⟩
     ·exact ⟨x7,by simp,hb⟩
     ·exact ⟨.ag au,by simp,by simpa only [D.foot] using hb⟩
/-- a term's head anew; its parts are those handed in, and come back -/
theorem zJE {k:Int} {nm ot:ByteArray} {n0:Int} {ty re:Ty} {t0 t1 r0 r1 x:D} (I:Tm.Hd nm ot ty re t0 t1 r0 r1) (h1:ty.cnt<=1073741824) (h2:re.cnt<=1073741824) (a:Option Addr) (es:List D) (c:Nat) (N:Nat)
  (Q:QT [.pk,.i,.str,.str,.i,.dc,.dc,.dc,.dc,.bk 1]) (hQ:∀ J O U Y N',N<=N'->Tm.Hd nm ot ty re J O U Y->OwnL N N' [J,O,U,Y]->Q k nm ot n0 J O U Y (.sl a 9 es c) N') :
  ACalls prog 64 [.pk,.i,.str,.str,.i,.dc,.dc,.dc,.dc,.bk 1] [.dg 9 (.ag [.j k,.t nm,.t ot,.j n0,t0,t1,r0,r1,x]),.sv a 9 es c] N Q:=by
 refine zCR N _ a es c Q λ_ _=>?_
 repeat' first|with_reducible intro _|simp only[Y1,Y2,Y3,Y4]|with_reducible refine X ?_ ?_|refine⟨_,_,_,rfl,?_⟩|refine⟨_,rfl,?_⟩|refine And.intro (by first|omega|trivial|(show _=_;rfl)|(with_reducible constructor)<;>first|omega|trivial|rfl) ?_|refine (zR2 _ _ I.ty h1) _ _ ?_|refine (zR2 _ _ I.re h2) _ _ ?_|fail
 rename_i N1 aa x1 N2 ai hx ab _ _ N3 ac y N4 aj hy ae _ _ N5 ah
 refine hQ _ _ _ _ _ (by omega) ⟨I.nm,I.ot,Ty.is_cells hx,Ty.is_cells hy⟩ ?_
 exact xz ((tI hx ab).mono aa (oD _)) ((tI hy ae).mono ac ah) (by omega) (by omega)
theorem sY:∀ (t:Tm) (d:D),t.Is d->t.G->∀ (N:Nat) (Q:QT [.pk,.i,.str,.str,.i,.dc,.dc,.dc,.dc,.row 29 9]),u7 t N Q ->
  ACalls prog 33 [.pk,.i,.str,.str,.i,.dc,.dc,.dc,.dc,.row 29 9] [.dg 9 d] N Q:=by
 refine Tm.ind λk nm ot n0 ty re l ih d hd hG N Q hQ=>?_
 obtain ⟨t0,t1,r0,r1,a,es,c,rfl,hh,O,U⟩:=Tm.is_mk.1 hd
 have hl:=U.len
 obtain ⟨g1,g2,g3,g4⟩:=hG
 simp only [u7] at hQ
 refine zDL N _ Q λ_ N1 ah=>?_
 refine sy N1 _ _ λ_=>⟨_,_,_,rfl,?_⟩
 refine up U O (λi xs=>∀ (done:List D) (q N':Nat),N1<=N'->All2 Tm.Is (l.take i) done->done.length=i->OwnL N1 N' done ->
  yc _ N1 done.length q a es c es.length i (.ag [.j k,.t nm,.t ot,.j n0,t0,t1,r0,r1,.sl a 9 es c]) 0 (bytes []) (bytes []) 0 0 none [] 0 0 none [] 0 none [] 0 done q N') ?_ ?_ [] 0 N1 (oD _) rfl rfl zGQ
 ·intro i ai hi done q N' aj hd Y ho
  refine vZ _ _ _ _ _ _ _ _ _ _ _ _ _ _ _ _ _ _ _ _ _ _ _ _ _ _ _ _ ?_
  rw [oq (by omega)] at hd
  rw [ai]
  refine ⟨⟨rfl,rfl⟩,λa1 a6 _ N4 ak aa=>?_⟩
  refine zJE hh g1 g2 a1 done q N4 _ λx4 x5 x6 x7 N5 ab al ac _=>⟨rfl,?_⟩
  have off:∀ y∈[x4,x5,x6,x7],Off [a1] y:=λy hy a' am ad ao hc=>by
   have h1:=aa a' am ad ao
   have h2:=ac.lo _ (zI.2 ⟨y,hy,hc⟩)
   omega
  refine ⟨off x4 (by simp),off x5 (by simp),off x6 (by simp),off x7 (by simp),⟨rfl,rfl⟩,λN6 aq _ _=>⟨⟨rfl,rfl⟩,λN7 au=>?_⟩⟩
  exact hQ _ _ _ _ _ _ _ (by omega) al hd (zBg (N1:=N4) (ac.mono (oD _) (by omega)) (ho.mono ah ak) (by omega) (by omega))
 ·intro i x xs I _ aw done q N' aj hd Y ho
  have hb:=I.b
  have ae:=zj g4 I.m
  refine vZ _ _ _ _ _ _ _ _ _ _ _ _ _ _ _ _ _ _ _ _ _ _ _ _ _ _ _ _ ?_
  rw [I.lt]
  refine ⟨⟨by omega,by omega⟩,λN5 ab=>?_⟩
  rw [oH,I.w]
  refine ih x I.m _ I.r ae _ _ ?_
  cases x with
  | mk k2 a7 a8 n2 ba bb l2=>
    intro x4 x5 x6 x7 ax c2 N6 aq ay J az _ _
    have bc:=J.len
    have bd:=ae.2.2.1
    refine ⟨⟨rfl,rfl⟩,λa2 N7 au hf=>⟨⟨rfl,rfl⟩,by unfold zB;rw [oI];simp only [oM,oQ];omega,λc3=>?_⟩⟩
    refine aw _ _ _ (by omega) (by rw [wK I.g];exact hd.snoc (Tm.is_mk.2 ⟨_,_,_,_,_,_,_,rfl,ay,by omega,J⟩)) (by simp [Y]) ?_
    refine zKv (hd:=[]) (xs:=[x4,x5,x6,x7]) (ho.mono (oD _) ab) az hf (by omega) (by omega) (by omega) (pN hf λb hb=>?_) (pN hf λb hb=>?_)
    ·exact ⟨.ag done,by simp,by simpa only [D.foot,oZ] using hb⟩
    ·simp only [o5,oZ,zF,oK] at hb
     rcases hb with hb | hb | hb | hb | hb
     ·exact ⟨x4,by simp,hb⟩
     ·exact ⟨x5,by simp,hb⟩
     ·exact ⟨x6,by simp,hb⟩
     ·exact ⟨x7,by simp,hb⟩
     ·exact ⟨.ag ax,by simp,by simpa only [D.foot] using hb⟩
theorem tS:∀ l:List ByteArray,zF (zA l)=[]
 | []=>rfl
 | s::l=>by have:=tS l;simp only [zA,nN,zF,D.foot,oZ] at this ⊢;exact this
theorem zFs:∀ l:List ByteArray,xf (zA l)
 | []=>trivial
 | s::l=>⟨trivial,zFs l⟩
theorem zL1 {N N':Nat} (l:List ByteArray):OwnL N N' (zA l):=⟨by rw [tS];exact mB,zFs l,by rw [tS];simp,by rw [tS];simp⟩
theorem wL {N N' M:Nat} {a:Option Addr} {l:List ByteArray} {c:Nat} {ds:List D} (I:Fresh N N' a (.ag (zA l)::ds)) (h:N'<=M):Own N M (.sl a 0 (zA l) c):=(zFC (N1:=N') (zL1 l) I (oD _)).mono (oD _) h
theorem zEF {bs:List (Option Addr)} (l:List ByteArray):Off bs (.ag (zA l)):=λa _ ad _ hc=>by simp only [D.foot,tS] at hc;simp at hc
/-- names, handed back as a row of their own -/
def zQ6 (f:FuncId) (args:List PV) (l:List ByteArray):Prop:=∀ (N:Nat) (Q:QT [.sl 0]),(∀ a c N',N<=N'->Own N N' (.sl a 0 (zA l) c)->Q a (zA l) c N')->ACalls prog f [.sl 0] args N Q
def zQf (f:FuncId) (args:List PV) (l:List ByteArray):Prop:=∀ (N:Nat) (Q:QT [.row 9 0]),(∀ c N',N<=N'->Q (zA l) c N')->ACalls prog f [.row 9 0] args N Q
theorem pA {l:List ByteArray} {s:ByteArray} (h:l.length<=8796093022207):zB (zA l) [.t s] 16:=by
 unfold zB;rw [oI,zE];simp only [oM,oQ];omega
theorem zF7 (l:List ByteArray) (hl:l.length<=2199023255552) (a:Option Addr) (c:Nat) (s:ByteArray):zQ6 83 [.sv a 0 (zA l) c,.str s] (l.filter λx=>decide (x≠s)):=λN Q hQ=>by
 have Y:=yu l
 have O:(zA l).length<=4611686018427387904:=by rw [zE];omega
 refine zAe N a _ c s Q λ_=>?_
 refine up Y O (λi xs=>∀ (done:List ByteArray) (q N':Nat),N<=N'->done.length<=i->i<=l.length->done++xs.filter (λx=>decide (x≠s))=l.filter (λx=>decide (x≠s)) ->
  yC Q N a (zA l) c s (zA done).length q i (zA done) q N') ?_ ?_ [] 0 N (oD _) (by simp) (by omega) rfl
 ·intro i aa hi done q N' J ab ac hd
  refine vg _ _ _ _ _ _ _ _ _ _ _ _ ?_
  rw [aa]
  rw [List.filter_nil,nD] at hd
  subst hd
  exact ⟨⟨rfl,rfl⟩,⟨rfl,rfl⟩,⟨rfl,rfl⟩,λa1 N1 ah hf N2 ae=>hQ _ _ _ (by omega) (wL hf ae)⟩
 ·intro i x xs I _ U done q N' J ab ac hd
  have hb:=I.b
  have hr:=I.r
  have ai:=zE l
  refine vg _ _ _ _ _ _ _ _ _ _ _ _ ?_
  rw [I.lt,oH,hr,I.w]
  refine ⟨⟨by omega,by omega⟩,_,rfl,Br.nstr (λh=>⟨⟨by omega,by omega⟩,_,rfl,⟨rfl,rfl⟩,pA (by omega),λc1=>?_⟩) λh=>?_⟩
  ·rw [vB]
   refine U _ _ _ J (by simp;omega) (by omega) ?_
   rw [<-hd]
   simp [List.filter_cons,h]
  ·refine U _ _ _ J (by omega) (by omega) ?_
   rw [<-hd]
   simp [List.filter_cons,h]
theorem zDH (s:ByteArray) (l:List ByteArray):decide (zBl (λx=>decide (x=s)) l 0<0)=decide (s∉l):=by
 have h:=pT (λx=>decide (x=s)) l 0 (by omega)
 rw [mM,mG,mG]
 have I:(decide (zBl (λx=>decide (x=s)) l 0≥0)=true)↔(l.any λx=>decide (x=s))=true:=by rw [h]
 rw [mG] at I
 simp only [List.any_eq_true,nM,exists_eq_right] at I
 constructor
 ·intro O J;have:=I.2 J;omega
 ·intro O;exact Int.not_le.1 λJ=>O (I.1 J)
theorem zAq {out xs:List ByteArray} {x:ByteArray}:dd out (x::xs)=dd (if x∈out then out else out++[x]) xs:=rfl
theorem zJt {out:List ByteArray} {x:ByteArray}:(if x∈out then out else out++[x]).length<=out.length+1:=by split<;>simp
theorem tH (l m:List ByteArray) (hl:l.length<=2199023255552) (hm:m.length<=2199023255552) (a b:Option Addr) (c c':Nat):zQf 84 [.sv a 0 (zA l) c,.sv b 0 (zA m) c'] (u6 l m):=fun N Q hQ=>by
 have hes:=yu l
 have hlen:(zA l).length<=4611686018427387904:=by rw [zE];omega
 have hms:=yu m
 have hmen:(zA m).length<=4611686018427387904:=by rw [zE];omega
 have hlw:=zE l
 have hmw:=zE m
 refine zAt N a _ c b _ c' Q fun _ _=>?_
 have second:∀ (done:List ByteArray) (q N':Nat),N<=N'->done.length<=l.length->done=dd [] l->zl Q N b (zA m) c' (zA done).length q 0 (zA done) q N':=fun done0 q0 N0 hN0 hdl0 hd0=>
  up hms hmen (fun i xs=>∀ (done:List ByteArray) (q N':Nat),N<=N'->done.length<=l.length+i->dd done xs=u6 l m->zl Q N b (zA m) c' (zA done).length q i (zA done) q N')
   (fun i hlt hi done q N' hN' hdl hd=>by
    refine uW _ _ _ _ _ _ _ _ _ _ _ ?_
    rw [hlt]
    simp only [dd] at hd
    subst hd
    exact ⟨⟨rfl,rfl⟩,fun N2 hN2=>hQ _ _ (by omega)⟩)
   (fun i x xs hat _ ih2 done q N' hN' hdl hd=>by
    have hb:=hat.b
    have hr:=hat.r
    have hdl2:=zJt (out:=done) (x:=x)
    refine uW _ _ _ _ _ _ _ _ _ _ _ ?_
    rw [hat.lt,oH,hr,hat.w]
    refine ⟨⟨by omega,by omega⟩,_,rfl,⟨rfl,rfl⟩,fun a1 _ N1 hN1 _=>yx done (by omega) a1 q x N1 _ fun N2 hN2 hle2=>?_⟩
    rw [zDH]
    refine Br.dec (fun h=>⟨⟨by omega,by omega⟩,_,rfl,⟨rfl,rfl⟩,pA (by omega),fun c1=>?_⟩) fun h=>?_
    ·rw [vB]
     rw [if_neg h] at hdl2
     refine ih2 _ _ _ (by omega) (by omega) ?_
     rw [<-hd,zAq,if_neg h]
    ·refine ih2 _ _ _ (by omega) (by omega) ?_
     rw [<-hd,zAq,if_pos (mK.1 h)]) done0 q0 N0 hN0 (by omega) (by rw [hd0];rfl)
 refine up hes hlen (fun i xs=>∀ (done:List ByteArray) (q N':Nat),N<=N'->done.length<=i->dd done xs=dd [] l ->
  yH Q N a (zA l) c b (zA m) c' (zA done).length q i (zA done) q N') ?_ ?_ [] 0 N (oD _) (by simp) rfl
 ·intro i hlt hi done q N' hN' hdl hd
  refine vz _ _ _ _ _ _ _ _ _ _ _ _ _ _ ?_
  rw [hlt]
  exact second done q N' hN' (by omega) hd
 ·intro i x xs hat _ ih2 done q N' hN' hdl hd
  have hb:=hat.b
  have hr:=hat.r
  have hdl2:=zJt (out:=done) (x:=x)
  refine vz _ _ _ _ _ _ _ _ _ _ _ _ _ _ ?_
  rw [hat.lt,oH,hr,hat.w]
  refine ⟨⟨by omega,by omega⟩,_,rfl,⟨rfl,rfl⟩,fun a1 _ N1 hN1 _=>yx done (by omega) a1 q x N1 _ fun N2 hN2 hle2=>?_⟩
  rw [zDH]
  refine Br.dec (fun h=>⟨⟨by omega,by omega⟩,_,rfl,⟨rfl,rfl⟩,pA (by omega),fun c1=>?_⟩) fun h=>?_
  ·rw [vB]
   rw [if_neg h] at hdl2
   refine ih2 _ _ _ (by omega) (by omega) ?_
   rw [<-hd,zAq,if_neg h]
  ·refine ih2 _ _ _ (by omega) (by omega) ?_
   rw [<-hd,zAq,if_pos (mK.1 h)]
theorem zOI {N N' z c:Nat}:Own N N' (.sl none z [] c):=⟨by simp [D.foot,zF],⟨by simp,trivial⟩,by simp [D.foot,zF],by simp [D.foot,zF]⟩
theorem Qbd {Q:QT [.sl 0,.i]} {a:Option Addr} {es I:List D} {c:Nat} {n J:Int} {N:Nat} (h:Q a es c n N) (e1:es=I) (O:n=J):Q a I c J N:=e1 ▸ O ▸ h
def zRK (f:FuncId) (args:List PV) (l:List ByteArray) (n:Int):Prop:=∀ (N:Nat) (Q:QT [.sl 0,.i]),(∀ a c N',N<=N'->Own N N' (.sl a 0 (zA l) c)->Q a (zA l) c n N')->ACalls prog f [.sl 0,.i] args N Q
theorem zJo {k n0:Int} {nm ot:ByteArray} {t0 t1 r0 r1:D} {a:Option Addr} {es:List D} {c n:Nat} (hn:es.length=n) :
  zRK 145 [.dg 9 (.ag [.j k,.t nm,.t ot,.j n0,t0,t1,r0,r1,.sl a 9 es c])] (bdN k nm ot n) (yG k n):=λN Q hQ=>by
 subst hn
 have one:∀ (x:ByteArray) (m:Int),bdN k nm ot es.length=[x]->yG k es.length=m->((1:Nat)=([D.t x]).length/\(1:Nat)=1)/\((1:Nat)=([D.t x]).length/\(1:Nat)=1)/\∀ a1 N1,N<=N1->Fresh N N1 a1 [D.ag [D.t x]]->∀ N2,N1<=N2->Q a1 [D.t x] 1 m N2:=λx m I Y=>
  ⟨⟨rfl,rfl⟩,⟨rfl,rfl⟩,λa1 N1 J hf N2 O=>Qbd (hQ a1 1 N2 (by omega) (by rw [I];exact wL (l:=[x]) hf O)) (by rw [I];rfl) Y⟩
 have aa:bdN k nm ot es.length=[nm,ot]->yG k es.length=0->((2:Nat)=([D.t nm,D.t ot]).length/\(2:Nat)=2)/\((2:Nat)=([D.t nm,D.t ot]).length/\(2:Nat)=2)/\∀ a1 N1,N<=N1->Fresh N N1 a1 [D.ag [D.t nm,D.t ot]]->∀ N2,N1<=N2->Q a1 [D.t nm,D.t ot] 2 0 N2:=λI Y=>
  ⟨⟨rfl,rfl⟩,⟨rfl,rfl⟩,λa1 N1 J hf N2 O=>Qbd (hQ a1 2 N2 (by omega) (by rw [I];exact wL (l:=[nm,ot]) hf O)) (by rw [I];rfl) Y⟩
 have nil:bdN k nm ot es.length=[]->yG k es.length = -1->∀ N1,N<=N1->Q none [] 0 (-1) N1:=λI Y N1 J=>Qbd (hQ none 0 N1 J (by rw [I];exact zOI)) (by rw [I];rfl) Y
 refine zIR N _ Q λ_=>⟨_,rfl,Br.beq (λh6=>⟨_,_,_,rfl,Br.beq (λI=>⟨_,rfl,?_⟩) λI=>?_⟩) λh6=>?_⟩
 ·exact one _ _ (by unfold bdN;rw [if_pos ⟨h6,by omega⟩]) (by unfold yG;rw [if_pos ⟨h6,by omega⟩])
 ·refine ⟨_,rfl,Br.beq (λh8=>by omega) λh8=>⟨_,rfl,Br.beq (λU=>by omega) λU=>?_⟩⟩
  exact nil (by unfold bdN;rw [if_neg (by omega),if_neg (by omega),if_neg (by omega)]) (by unfold yG;rw [if_neg (by omega),if_neg (by omega),if_neg (by omega)])
 ·refine ⟨_,rfl,Br.beq (λh8=>⟨_,_,_,rfl,Br.beq (λI=>⟨_,rfl,?_⟩) λI=>?_⟩) λh8=>?_⟩
  ·exact one _ _ (by unfold bdN;rw [if_neg (by omega),if_pos ⟨h8,by omega⟩]) (by unfold yG;rw [if_neg (by omega),if_pos ⟨h8,by omega⟩])
  ·refine ⟨_,rfl,Br.beq (λU=>by omega) λU=>?_⟩
   exact nil (by unfold bdN;rw [if_neg (by omega),if_neg (by omega),if_neg (by omega)]) (by unfold yG;rw [if_neg (by omega),if_neg (by omega),if_neg (by omega)])
  ·refine ⟨_,rfl,Br.beq (λU=>⟨_,_,_,rfl,Br.beq (λI=>⟨_,rfl,_,rfl,?_⟩) λI=>?_⟩) λU=>?_⟩
   ·exact aa (by unfold bdN;rw [if_neg (by omega),if_neg (by omega),if_pos ⟨U,by omega⟩]) (by unfold yG;rw [if_neg (by omega),if_neg (by omega),if_pos ⟨U,by omega⟩])
   ·exact nil (by unfold bdN;rw [if_neg (by omega),if_neg (by omega),if_neg (by omega)]) (by unfold yG;rw [if_neg (by omega),if_neg (by omega),if_neg (by omega)])
   ·exact nil (by unfold bdN;rw [if_neg (by omega),if_neg (by omega),if_neg (by omega)]) (by unfold yG;rw [if_neg (by omega),if_neg (by omega),if_neg (by omega)])
theorem zAM {k n0:Int} {nm ot:ByteArray} {t0 t1 r0 r1:D} {a:Option Addr} {es:List D} {c n:Nat} (hn:es.length=n) :
  zRK 82 [.dg 9 (.ag [.j k,.t nm,.t ot,.j n0,t0,t1,r0,r1,.sl a 9 es c])] (bdN k nm ot n) (yG k n):=λN Q hQ=>by
 subst hn
 have one:∀ (x:ByteArray) (m:Int),bdN k nm ot es.length=[x]->yG k es.length=m->((1:Nat)=([D.t x]).length/\(1:Nat)=1)/\((1:Nat)=([D.t x]).length/\(1:Nat)=1)/\∀ a1 N1,N<=N1->Fresh N N1 a1 [D.ag [D.t x]]->∀ N2,N1<=N2->Q a1 [D.t x] 1 m N2:=λx m I U=>
  ⟨⟨rfl,rfl⟩,⟨rfl,rfl⟩,λa1 N1 Y hf N2 J=>Qbd (hQ a1 1 N2 (by omega) (by rw [I];exact wL (l:=[x]) hf J)) (by rw [I];rfl) U⟩
 have aa:bdN k nm ot es.length=[nm,ot]->yG k es.length=0->((2:Nat)=([D.t nm,D.t ot]).length/\(2:Nat)=2)/\((2:Nat)=([D.t nm,D.t ot]).length/\(2:Nat)=2)/\∀ a1 N1,N<=N1->Fresh N N1 a1 [D.ag [D.t nm,D.t ot]]->∀ N2,N1<=N2->Q a1 [D.t nm,D.t ot] 2 0 N2:=λI U=>
  ⟨⟨rfl,rfl⟩,⟨rfl,rfl⟩,λa1 N1 Y hf N2 J=>Qbd (hQ a1 2 N2 (by omega) (by rw [I];exact wL (l:=[nm,ot]) hf J)) (by rw [I];rfl) U⟩
 have nil:bdN k nm ot es.length=[]->yG k es.length = -1->((0:Nat)=0/\(0:Nat)=0)/\((0:Nat)=0/\(0:Nat)=0)/\∀ a1 N1,N<=N1->Fresh N N1 a1 [D.ag []]->∀ N2,N1<=N2->Q a1 [] 0 (-1) N2:=λI U=>
  ⟨⟨rfl,rfl⟩,⟨rfl,rfl⟩,λa1 N1 Y hf N2 J=>Qbd (hQ a1 0 N2 (by omega) (by rw [I];exact wL (l:=[]) hf J)) (by rw [I];rfl) U⟩
 refine zEl N _ Q λ_=>⟨_,rfl,Br.beq (λh6=>⟨_,_,_,rfl,Br.beq (λI=>⟨_,rfl,?_⟩) λI=>?_⟩) λh6=>?_⟩
 ·exact one _ _ (by unfold bdN;rw [if_pos ⟨h6,by omega⟩]) (by unfold yG;rw [if_pos ⟨h6,by omega⟩])
 ·refine ⟨_,rfl,Br.beq (λh8=>by omega) λh8=>⟨_,rfl,Br.beq (λO=>by omega) λO=>?_⟩⟩
  exact nil (by unfold bdN;rw [if_neg (by omega),if_neg (by omega),if_neg (by omega)]) (by unfold yG;rw [if_neg (by omega),if_neg (by omega),if_neg (by omega)])
 ·refine ⟨_,rfl,Br.beq (λh8=>⟨_,_,_,rfl,Br.beq (λI=>⟨_,rfl,?_⟩) λI=>?_⟩) λh8=>?_⟩
  ·exact one _ _ (by unfold bdN;rw [if_neg (by omega),if_pos ⟨h8,by omega⟩]) (by unfold yG;rw [if_neg (by omega),if_pos ⟨h8,by omega⟩])
  ·refine ⟨_,rfl,Br.beq (λO=>by omega) λO=>?_⟩
   exact nil (by unfold bdN;rw [if_neg (by omega),if_neg (by omega),if_neg (by omega)]) (by unfold yG;rw [if_neg (by omega),if_neg (by omega),if_neg (by omega)])
  ·refine ⟨_,rfl,Br.beq (λO=>⟨_,_,_,rfl,Br.beq (λI=>⟨_,rfl,_,rfl,?_⟩) λI=>?_⟩) λO=>?_⟩
   ·exact aa (by unfold bdN;rw [if_neg (by omega),if_neg (by omega),if_pos ⟨O,by omega⟩]) (by unfold yG;rw [if_neg (by omega),if_neg (by omega),if_pos ⟨O,by omega⟩])
   ·exact nil (by unfold bdN;rw [if_neg (by omega),if_neg (by omega),if_neg (by omega)]) (by unfold yG;rw [if_neg (by omega),if_neg (by omega),if_neg (by omega)])
   ·exact nil (by unfold bdN;rw [if_neg (by omega),if_neg (by omega),if_neg (by omega)]) (by unfold yG;rw [if_neg (by omega),if_neg (by omega),if_neg (by omega)])
/-- a row made by append, cut to nothing -/
theorem zRR (n:Nat) (U:n<=8796093022208) (N:Nat) (Q:QT [.row 9 0]) (J:∀ c N',N<=N'->Q [] c N'):ACalls prog 193 [.row 9 0] [.sv none 0 [] 0,.j n] N Q:=by
 have O:IntKind.i64.wrap ((n:Int) - 0)=n:=by rw [Int.sub_zero];exact i64_in _ (by omega)
 refine p5 N n Q λ_=>Br.dec (λh=>by omega) λ_=>?_
 rw [O]
 refine Br.dec (λh=>⟨⟨by omega,by omega,by omega⟩,⟨by omega,by omega,by omega⟩,λc=>⟨⟨by omega,by omega⟩,Nat.zero_le _,⟨rfl,rfl⟩,λN1 I=>J c N1 I⟩⟩) λh N1 I=>J 0 N1 I
def zI5:List (List ByteArray)->List ByteArray
 | []=>[]
 | l::ls=>l++zI5 ls
def IsW (l:List ByteArray) (d:D):Prop:=∃ a c,d=.sl a 0 (zA l) c
theorem zFk (l m:List ByteArray):zA l++zA m=zA (l++m):=by simp [zA]
theorem zKb {ls:List (List ByteArray)} {es:List D} (hes:All2 IsW ls es) (hlen:es.length<=2199023255552) (hc:(zI5 ls).length<=8796093022208) (a:Option Addr) (c:Nat):zQ6 177 [.sv a 0 es c] (zI5 ls):=fun N Q hQ=>by
 refine qL N a es c Q fun _=>?_
 have second:∀ (q N':Nat),N<=N'->zZ Q N 0 q a es c (es.length:Int) 0 [] q N':=fun q0 N0 hN0=>
  up hes (by omega) (fun i xs=>∀ (done:List ByteArray) (q N':Nat),N<=N'->done++zI5 xs=zI5 ls->zZ Q N (zA done).length q a es c (es.length:Int) i (zA done) q N')
   (fun i hlt hi done q N' hN' hd=>by
    refine wT _ _ _ _ _ _ _ _ _ _ _ _ ?_
    rw [hlt]
    simp only [zI5,nD] at hd
    subst hd
    exact ⟨⟨rfl,rfl⟩,⟨rfl,rfl⟩,⟨rfl,rfl⟩,fun a1 N1 hN1 hf N2 hN2=>hQ _ _ _ (by omega) (wL hf hN2)⟩)
   (fun i x xs hat _ ih2 done q N' hN' hd=>by
    have hb:=hat.b
    obtain ⟨a1,c1,hr⟩:=hat.r
    refine wT _ _ _ _ _ _ _ _ _ _ _ _ ?_
    rw [hat.lt,oH,hr,hat.w]
    have hl2:=np List.length hd
    simp only [zI5,oI] at hl2
    refine ⟨⟨by omega,by omega⟩,_,_,_,rfl,⟨rfl,rfl⟩,by unfold zB;rw [oI,zE,zE];omega,fun c2=>?_⟩
    rw [zFk]
    refine ih2 _ _ _ hN' ?_
    rw [<-hd]
    simp [zI5,nX]) [] q0 N0 hN0 rfl
 refine up hes (by omega) (fun i xs=>∀ (t:Nat) (N':Nat),N<=N'->t+(zI5 xs).length=(zI5 ls).length ->
  yN Q N a es c t a es c (es.length:Int) i N') ?_ ?_ 0 N (oD _) (by simp)
 ·intro i hlt hi t N' hN' ht
  refine wx _ _ _ _ _ _ _ _ _ _ _ _ ?_
  rw [hlt]
  simp only [zI5,oQ] at ht
  exact fun N1 hN1=>zRR t (by omega) N1 _ fun c1 N2 hN2 _ _=>second c1 N2 (by omega)
 ·intro i x xs hat _ ih2 t N' hN' ht
  have hb:=hat.b
  obtain ⟨a1,c1,hr⟩:=hat.r
  refine wx _ _ _ _ _ _ _ _ _ _ _ _ ?_
  simp only [zI5,oI] at ht
  rw [hat.lt,oH,hr,hat.w]
  have hw:IntKind.i64.wrap ((t:Int)+((zA x).length:Int))=((t+x.length:Nat):Int):=by rw [zE];rw [i64_in _ (by omega)];omega
  refine ⟨⟨by omega,by omega⟩,_,_,_,rfl,?_⟩
  rw [hw]
  exact Br.dec (fun h=>by omega) fun _=>ih2 _ _ hN' (by omega)
theorem zBK (s:ByteArray) (l:List ByteArray):(l.any λx=>decide (s=x))=decide (s∈l):=by
 rw [mM];simp
theorem tE (l m:List ByteArray) (hl:l.length<=2199023255552) (hm:m.length<=2199023255552) (a b:Option Addr) (c c':Nat):zQf 175 [.sv a 0 (zA l) c,.sv b 0 (zA m) c'] (u6 l m):=λN Q hQ=>by
 refine zBP N a _ c b _ c' Q λ_ _=>⟨⟨rfl,rfl⟩,λa1 _ N1 aa O=>?_⟩
 have ab:All2 IsW [l,m] [.sl a 0 (zA l) c,.sl b 0 (zA m) c']:=⟨_,_,rfl,⟨_,_,rfl⟩,_,_,rfl,⟨_,_,rfl⟩,rfl⟩
 have J:zI5 [l,m]=l++m:=by simp [zI5]
 refine zKb ab (by simp) (by rw [J,oI];omega) a1 2 N1 _ λa2 c2 N2 ac ho _=>⟨w9 O ho,λ_=>?_⟩
 rw [J]
 have ae:=yu (l++m)
 have ah:=zE (l++m)
 rw [oI] at ah
 refine up ae (by omega) (λi xs=>∀ (done:List ByteArray) (q N':Nat),N<=N'->done.length<=i->dd done xs=u6 l m ->
  yI Q N (zA done).length q a2 (zA (l++m)) c2 ((zA (l++m)).length:Int) i (zA done) q N') ?_ ?_ [] 0 N2 (by omega) (by simp) (by unfold u6;rw [zPs])
 ·intro i ai hi done q N' aj ak hd
  refine v6 _ _ _ _ _ _ _ _ _ _ _ _ ?_
  rw [ai]
  simp only [dd] at hd
  subst hd
  exact ⟨⟨rfl,rfl⟩,λN3 am=>hQ _ _ (by omega)⟩
 ·intro i x xs I _ U done q N' aj ak hd
  have hb:=I.b
  have hr:=I.r
  have Y:=zJt (out:=done) (x:=x)
  refine v6 _ _ _ _ _ _ _ _ _ _ _ _ ?_
  rw [I.lt,oH,hr,I.w]
  refine ⟨⟨by omega,by omega⟩,_,rfl,⟨rfl,rfl⟩,λa1 _ N1 aa _=>ya done (by omega) a1 q x N1 _ λN2 ac al=>?_⟩
  rw [zBK]
  refine Br.ndec (λh=>⟨⟨rfl,rfl⟩,pA (by omega),λc1=>?_⟩) λh=>?_
  ·rw [vB]
   rw [if_neg h] at Y
   refine U _ _ _ (by omega) (by omega) ?_
   rw [<-hd,zAq,if_neg h]
  ·refine U _ _ _ (by omega) (by omega) ?_
   rw [<-hd,zAq,if_pos h]
end Go.Proofs.YtfajiphkncipoaaGreatDoor
