/- Free names, fresh names, substitution: what they are (no program in sight). -/
import Derived.Test.YtfajiphkncipoaaGreatDoorA5
import Derived.Lib.ItoaNum
import Derived.Test.YtfajiphkncipoaaGreatDoorA6
import Derived.Test.YtfajiphkncipoaaGreatDoorKu
set_option linter.unusedVariables false
set_option linter.unusedSimpArgs false
namespace Go.Proofs.YtfajiphkncipoaaGreatDoor
open Go Go.Proofs Go.Proofs.Tryz Go.IntWalk
instance decMem (s:ByteArray) (l:List ByteArray):Decidable (s∈l):=decidable_of_iff ((l.any fun x=>decide (x=s))=true) (by simp)
/-- those of a list that are new go behind -/
def dd:List ByteArray->List ByteArray->List ByteArray
 | out,[]=>out
 | out,s::l=>dd (if s∈out then out else out++[s]) l
def tQ (a b:List ByteArray):List ByteArray:=dd (dd [] a) b
def uv (I l:List ByteArray):List ByteArray:=l.filter λs=>decide (s∉I)
theorem zQ7:∀ (out a b:List ByteArray),dd out (a++b)=dd (dd out a) b
 | out,[],b=>rfl
 | out,s::a,b=>by simp only [o0,dd];exact zQ7 _ a b
theorem zNu:∀ (out l:List ByteArray) (x:ByteArray),x∈dd out l↔x∈out\/x∈l
 | out,[],x=>by simp [dd]
 | out,s::l,x=>by
   simp only [dd]
   rw [zNu]
   split
   ·rename_i h
    constructor
    ·rintro (h1 | h1)
     ·exact .inl h1
     ·exact .inr (by simp [h1])
    ·rintro (h1 | h1)
     ·exact .inl h1
     ·rcases oF.1 h1 with rfl | h1
      ·exact .inl h
      ·exact .inr h1
   ·simp only [oK,oZ,oF,oc,mA,or_assoc]
theorem zIK:∀ (out l:List ByteArray),out.Nodup->(dd out l).Nodup
 | out,[],h=>h
 | out,s::l,h=>by
   simp only [dd]
   refine zIK _ l ?_
   split
   ·exact h
   ·rename_i hs
    rw [nP]
    refine ⟨h,by simp,λa J b I=>?_⟩
    rw [oZ] at I
    subst I
    exact λhc=>hs (hc ▸ J)
theorem zEm:∀ (out l:List ByteArray),(dd out l).length<=out.length+l.length
 | out,[]=>by simp [dd]
 | out,s::l=>by
   simp only [dd]
   have:=zEm (if s∈out then out else out++[s]) l
   split at this<;>simp_all<;>omega
theorem zIV {a b:List ByteArray} {x:ByteArray}:x∈tQ a b↔x∈a\/x∈b:=by
 unfold tQ;rw [zNu,zNu];simp
theorem zJz (a b:List ByteArray):(tQ a b).Nodup:=zIK _ _ (zIK _ _ mF)
theorem yT {n l:List ByteArray} {x:ByteArray}:x∈uv n l↔x∈l/\x∉n:=by simp [uv]
/-- different elements of a list are no more than the list has -/
theorem zBs:∀ {l m:List ByteArray},l.Nodup->(∀ x∈l,x∈m)->l.length<=m.length
 | [],m,_,_=>Nat.zero_le _
 | x::l,m,J,hs=>by
   obtain ⟨O,U⟩:=nj.1 J
   have Y:=hs x (by simp)
   have h3:=zBs (l:=l) (m:=m.filter λy=>decide (y≠x)) U λy I=>by
    rw [mC]
    exact ⟨hs y (by simp [I]),by simp;exact λhc=>O (hc ▸ I)⟩
   have h4:=mr (p:=λy=>decide (y≠x)).2 ⟨x,Y,by simp⟩
   simp only [oM]
   omega
def zQ (k:Int) (n:Nat):Int:=if k=6/\n=1 then 0 else if k=8/\n=2 then 1 else if k=9/\n=1 then 0 else -1
def bdN (k:Int) (nm ot:ByteArray) (n:Nat):List ByteArray:=if k=6/\n=1 then [nm] else if k=8/\n=2 then [nm] else if k=9/\n=1 then [nm,ot] else []
theorem pX (k:Int) (nm ot:ByteArray) (n:Nat):(bdN k nm ot n).length<=2:=by unfold bdN;(repeat' split)<;>simp
theorem uK (k:Int) (n:Nat):zQ k n = -1\/(zQ k n=0/\n=1/\(k=6\/k=9))\/(zQ k n=1/\n=2/\k=8):=by
 unfold zQ;(repeat' split)<;>simp_all
mutual
def Tm.fv:Tm->List ByteArray
 | .mk k nm ot _ _ _ l=>if k=1 then [nm] else uF l (zQ k l.length) (bdN k nm ot l.length) 0 []
def uF:List Tm->Int->List ByteArray->Nat->List ByteArray->List ByteArray
 | [],_,_,_,out=>out
 | x::xs,at_,ns,i,out=>uF xs at_ ns (i+1) (tQ out (if (i:Int)=at_ then uv ns x.fv else x.fv))
end
/-- the free names of the part at a place -/
def fvI (at_:Int) (ns:List ByteArray) (i:Nat) (x:Tm):List ByteArray:=if (i:Int)=at_ then uv ns x.fv else x.fv
theorem zJX:∀ (l:List Tm) (at_:Int) (ns:List ByteArray) (i:Nat) (out:List ByteArray) (s:ByteArray),s∈uF l at_ ns i out↔s∈out\/∃ (j:Nat) (x:Tm),l[j]?=some x/\s∈fvI at_ ns (i+j) x
 | [],_,_,_,out,s=>by simp [uF]
 | y :: l,at_,ns,i,out,s=>by
   simp only [uF]
   rw [zJX,zIV]
   constructor
   ·rintro ((h | h) | ⟨j,x,I,J⟩)
    ·exact .inl h
    ·exact .inr ⟨0,y,rfl,h⟩
    ·exact .inr ⟨j+1,x,by simpa using I,by rw [show i+(j+1)=i+1+j by omega];exact J⟩
   ·rintro (h | ⟨j,x,I,J⟩)
    ·exact .inl (.inl h)
    ·cases j with
     | zero=>simp at I;subst I;exact .inl (.inr J)
     | succ j=>exact .inr ⟨j,x,by simpa using I,by rw [show i+1+j=i+(j+1) by omega];exact J⟩
theorem zEy:∀ (l:List Tm) (at_:Int) (ns:List ByteArray) (i:Nat) (out:List ByteArray),out.Nodup->(uF l at_ ns i out).Nodup
 | [],_,_,_,out,h=>h
 | y::l,at_,ns,i,out,h=>by simp only [uF];exact zEy l _ _ _ _ (zJz _ _)
theorem Tm.fv_mem {k:Int} {nm ot:ByteArray} {n:Int} {ty re:Ty} {l:List Tm} {s:ByteArray}:s∈(Tm.mk k nm ot n ty re l).fv↔(k=1/\s=nm)\/(k≠1/\∃ (j:Nat) (x:Tm),l[j]?=some x/\s∈fvI (zQ k l.length) (bdN k nm ot l.length) j x):=by
 simp only [Tm.fv]
 by_cases I:k=1
 ·simp [I]
 ·rw [if_neg I,zJX];simp [I]
theorem Tm.fv_nodup (t:Tm):t.fv.Nodup:=by
 cases t;simp only [Tm.fv];split
 ·simp
 ·exact zEy _ _ _ _ _ mF
def uS (k:Nat):ByteArray:=⟨(118::Lib.decDigits k).toArray⟩
theorem zRZ:∀ (a b:Nat),Lib.decDigits a=Lib.decDigits b->a=b:=by
 intro a
 have U:∀ u,(Lib.decDigits u).length=Lib.nDigits u:=Lib.decDigits_length
 have e1:∀ u,u<10->Lib.decDigits u=[UInt8.ofNat (48+u)]:=λu h=>by rw [Lib.decDigits,dif_pos h]
 have Y:∀ u,¬u<10->Lib.decDigits u=Lib.decDigits (u / 10)++[UInt8.ofNat (48+u % 10)]:=λu h=>by rw [Lib.decDigits,dif_neg h]
 have u8:∀ x y:Nat,x<10->y<10->UInt8.ofNat (48+x)=UInt8.ofNat (48+y)->x=y:=λx y hx hy h=>by
  have:=nu UInt8.toNat h
  simp only [UInt8.toNat_ofNat'] at this
  omega
 induction a using Nat.strongRecOn with
 | _ a ih=>
   intro b h
   have J:=nu List.length h
   rw [U,U] at J
   by_cases I:a<10
   ·rw [Lib.nDigits_small I] at J
    have O:b<10:=by
     refine lF λhc=>?_
     rw [Lib.nDigits_big (by omega)] at J
     have:=Lib.nDigits_pos (b / 10)
     omega
    rw [e1 a I,e1 b O] at h
    exact u8 a b I O (by simpa using h)
   ·have O:¬b<10:=λhc=>by
     rw [Lib.nDigits_big I,Lib.nDigits_small hc] at J
     have:=Lib.nDigits_pos (a / 10)
     omega
    rw [Y a I,Y b O] at h
    obtain ⟨h1,h2⟩:=List.append_inj' h rfl
    have:=ih (a / 10) (by omega) (b / 10) h1
    have:=u8 (a % 10) (b % 10) (by omega) (by omega) (by simpa using h2)
    omega
theorem zOA {a b:Nat} (h:uS a=uS b):a=b:=by
 have:(118::Lib.decDigits a:List UInt8)=118::Lib.decDigits b:=by
  have:=nu (λx:ByteArray=>x.data.toList) h
  simpa [uS] using this
 exact zRZ a b (by simpa using this)
def rk:Nat->Nat->List ByteArray->Nat
 | 0,k,_=>k
 | f+1,k,l=>if uS k∈l then rk f (k+1) l else k
def fresh (l:List ByteArray):ByteArray:=uS (rk l.length 1 l)
theorem zPW:∀ (n k:Nat),((List.range n).map λi=>uS (k+i)).Nodup:=λn k=>by
 rw [List.nodup_iff_pairwise_ne,List.pairwise_map]
 refine List.Pairwise.imp (λ{a b} h hc=>?_) (List.nodup_iff_pairwise_ne.1 List.nodup_range)
 have:=zOA hc
 omega
theorem zQx (l:List ByteArray) (k:Nat) (h:∀ j,1<=j->j<k->uS j∈l) (J:1<=k):k<=l.length+1:=by
 have:=zBs (zPW (k - 1) 1) (m:=l) λx I=>by
  obtain ⟨i,hi,rfl⟩:=oQ.1 I
  rw [List.mem_range] at hi
  exact h _ (by omega) (by omega)
 simp at this
 omega
theorem zE5 (l:List ByteArray):∀ (f k:Nat),1<=k->k+f=l.length+1->(∀ j,1<=j->j<k->uS j∈l)->1<=rk f k l/\rk f k l<=l.length+1/\uS (rk f k l)∉l/\∀ j,1<=j->j<rk f k l->uS j∈l
 | 0,k,J,h2,I=>by
   simp only [rk]
   refine ⟨J,by omega,λhc=>?_,I⟩
   have:=zQx l (k+1) (λj O h5=>by
    by_cases U:j=k
    ·subst U;exact hc
    ·exact I j O (by omega)) (by omega)
   omega
 | f + 1,k,J,h2,I=>by
   simp only [rk]
   split
   ·rename_i Y
    exact zE5 l f (k+1) (by omega) (by omega) λj O h5=>by
     by_cases U:j=k
     ·subst U;exact Y
     ·exact I j O (by omega)
   ·rename_i Y
    exact ⟨J,by omega,Y,I⟩
theorem t6 (l:List ByteArray):∃ k,fresh l=uS k/\1<=k/\k<=l.length+1/\uS k∉l/\∀ j,1<=j->j<k->uS j∈l:=by
 obtain ⟨I,J,O,U⟩:=zE5 l l.length 1 (oD _) (by omega) λj I J=>by omega
 exact ⟨_,rfl,I,J,O,U⟩
theorem ui (l:List ByteArray):fresh l∉l:=by
 obtain ⟨k,h,_,_,I,_⟩:=t6 l
 rw [h];exact I
theorem zPg {l m:List ByteArray} (h:∀ x,x∈l↔x∈m):fresh l=fresh m:=by
 obtain ⟨k,e1,a1,a2,a3,a4⟩:=t6 l
 obtain ⟨j,I,J,Y,O,U⟩:=t6 m
 rw [e1,I]
 congr 1
 refine Nat.le_antisymm (Nat.le_of_not_lt λhc=>?_) (Nat.le_of_not_lt λhc=>?_)
 ·exact O ((h _).1 (a4 j J hc))
 ·exact a3 ((h _).2 (U k a1 hc))
def tm0:Tm:=.mk 0 (bytes []) (bytes []) 0 (.mk 0 []) (.mk 0 []) []
def vF (s:ByteArray):Tm:=.mk 1 s (bytes []) 0 (.mk 0 []) (.mk 0 []) []
theorem zBw (s:ByteArray):(vF s).fv=[s]:=rfl
/-- one name that a node binds, away from others -/
def rn1 (S:Tm->ByteArray->Tm->Tm) (k:Int) (n:Nat) (fb:List ByteArray) (x old:ByteArray) (s:ByteArray × ByteArray × Tm):ByteArray × ByteArray × Tm:=
 if old∈fb then
  (if s.1=old then (fresh (fb++(s.2.2.fv++([x]++bdN k s.1 s.2.1 n))),s.2.1,S s.2.2 old (vF (fresh (fb++(s.2.2.fv++([x]++bdN k s.1 s.2.1 n))))))
   else (s.1,fresh (fb++(s.2.2.fv++([x]++bdN k s.1 s.2.1 n))),S s.2.2 old (vF (fresh (fb++(s.2.2.fv++([x]++bdN k s.1 s.2.1 n)))))))
 else s
def rns (S:Tm->ByteArray->Tm->Tm) (k:Int) (n:Nat) (fb:List ByteArray) (x:ByteArray):List ByteArray->ByteArray × ByteArray × Tm->ByteArray × ByteArray × Tm
 | [],s=>s
 | old::l,s=>rns S k n fb x l (rn1 S k n fb x old s)
def Tm.sub:Nat->Tm->ByteArray->Tm->Tm
 | 0,e,_,_=>e
 | f + 1,.mk k nm ot n ty re l,x,b=>
   if k=1 then (if nm=x then b else .mk k nm ot n ty re l)
   else if zQ k l.length<0 then .mk k nm ot n ty re (l.map λt=>Tm.sub f t x b)
   else if x∈bdN k nm ot l.length\/x∉(l.getD (zQ k l.length).toNat tm0).fv then
    .mk k nm ot n ty re ((l.map λt=>Tm.sub f t x b).set (zQ k l.length).toNat (l.getD (zQ k l.length).toNat tm0))
   else
    .mk k (rns (Tm.sub f) k l.length b.fv x (bdN k nm ot l.length) (nm,ot,l.getD (zQ k l.length).toNat tm0)).1
     (rns (Tm.sub f) k l.length b.fv x (bdN k nm ot l.length) (nm,ot,l.getD (zQ k l.length).toNat tm0)).2.1 n ty re
     ((l.map λt=>Tm.sub f t x b).set (zQ k l.length).toNat (Tm.sub f (rns (Tm.sub f) k l.length b.fv x (bdN k nm ot l.length) (nm,ot,l.getD (zQ k l.length).toNat tm0)).2.2 x b))
theorem wE {k:Int} {n:Nat} (h:¬zQ k n<0):(zQ k n).toNat<n/\((zQ k n).toNat:Int)=zQ k n:=by
 rcases uK k n with I | ⟨I,J,_⟩ | ⟨I,J,_⟩
 ·omega
 ·rw [I];subst J;exact ⟨by decide,rfl⟩
 ·rw [I];subst J;exact ⟨by decide,rfl⟩
theorem zX {l:List Tm} {i:Nat} (h:i<l.length):l[i]?=some (l.getD i tm0):=by
 rw [oA,oG h];rfl
/-- where a name is not free, nothing is put -/
theorem zCB:∀ (f:Nat) (e:Tm) (x:ByteArray) (b:Tm),x∉e.fv->e.sub f x b=e
 | 0,e,x,b,_=>rfl
 | f + 1,.mk k nm ot n ty re l,x,b,h=>by
   rw [Tm.fv_mem] at h
   simp only [not_or,not_and,not_exists] at h
   obtain ⟨h1,Y⟩:=h
   simp only [Tm.sub]
   have part:k≠1->∀ (j:Nat) (y:Tm),l[j]?=some y->(j:Int)≠zQ k l.length->y.sub f x b=y:=λI j y J O=>by
    refine zCB f y x b λhc=>?_
    have:=Y I j y J
    unfold fvI at this
    rw [if_neg O] at this
    exact this hc
   split
   ·rename_i I
    rw [if_neg (λhc=>h1 I hc.symm)]
   ·rename_i I
    split
    ·rename_i hb
     congr 1
     refine (o5 λy hy=>?_).trans (List.map_id l)
     obtain ⟨j,J⟩:=oP.1 hy
     exact part I j y J (by omega)
    ·rename_i hb
     obtain ⟨U,g2⟩:=wE hb
     split
     ·congr 1
      apply nE
      intro i
      rw [nO]
      split
      ·rename_i hi
       subst hi
       rw [if_pos (by simpa using U),zX U]
      ·rename_i hi
       rw [oE]
       cases hl:l[i]? with
       | none=>rfl
       | some y=>
         simp only [oa]
         rw [part I i y hl (by omega)]
     ·rename_i hc
      exfalso
      simp only [not_or,mN] at hc
      have:=Y I _ _ (zX U)
      unfold fvI at this
      rw [if_pos g2,yT] at this
      exact this ⟨hc.2,hc.1⟩
/-- the cells of a term that was made anew, and nothing else -/
def tR (t:Tm) (N:Nat) (Q:QT [.pk,.i,.str,.str,.i,.dc,.dc,.dc,.dc,.row 29 9]):Prop:=
 match t with | .mk k nm ot n ty re l=>∀ J O U Y I c' N',N<=N'->Tm.Hd nm ot ty re J O U Y->All2 Tm.Is l I->OwnL N N' ([J,O,U,Y]++I)->Q k nm ot n J O U Y I c' N'
theorem zAF {N N3:Nat} {a:Option Addr} {ds:List D} {es:List D} (I:Fresh N N3 a ds) (h:∀ b,b∈zG es->∃ d∈ds,b∈d.foot):∀ ad,a=some ad->ad.block∉zG es:=λad J hc=>by
 obtain ⟨d,hd,O⟩:=h _ hc
 exact I.ap ad J d hd O
theorem tT:∀ (t:Tm) (d:D),t.Is d->t.G->∀ (N:Nat) (Q:QT [.pk,.i,.str,.str,.i,.dc,.dc,.dc,.dc,.row 29 9]),tR t N Q ->
  ACalls prog 40 [.pk,.i,.str,.str,.i,.dc,.dc,.dc,.dc,.row 29 9] [.dg 9 d] N Q:=by
 refine Tm.ind λk nm ot n0 ty re l ih d hd hG N Q hQ=>?_
 obtain ⟨t0,t1,r0,r1,a,es,c,rfl,hh,Y,aa⟩:=Tm.is_mk.1 hd
 have hl:=aa.len
 obtain ⟨g1,g2,g3,g4⟩:=hG
 simp only [tR] at hQ
 refine zAe N _ Q λ_=>?_
 repeat' first|with_reducible intro _|simp only[Y1,Y2,Y3,Y4]|with_reducible refine X ?_ ?_|refine⟨_,_,_,rfl,?_⟩|refine⟨_,rfl,?_⟩|refine And.intro (by first|omega|trivial|(show _=_;rfl)|(with_reducible constructor)<;>first|omega|trivial|rfl) ?_|refine (zK _ _ hh.ty g1) _ _ ?_|refine (zK _ _ hh.re g2) _ _ ?_|fail
 rename_i N1 ae J N2 ay hx ah _ _ N3 ai y N4 az hy aj _ _
 have ak:Tm.Hd nm ot ty re (J.cell 0) (J.cell 1) (y.cell 0) (y.cell 1):=⟨hh.nm,hh.ot,Ty.is_cells hx,Ty.is_cells hy⟩
 have al:OwnL N N4 ([J.cell 0,J.cell 1,y.cell 0,y.cell 1]++[]):=by
  have h:=wK ((th hx ah).mono ae (oD _)) ((th hy aj).mono ai (oD _)) (by omega) (by omega)
  exact h
 refine up aa Y (λi xs=>∀ (done:List D) (q N':Nat),N4<=N'->All2 Tm.Is (l.take i) done->done.length=i->OwnL N N' ([J.cell 0,J.cell 1,y.cell 0,y.cell 1]++done) ->
  xa Q N i (.ag [.j k,.t nm,.t ot,.j n0,t0,t1,r0,r1,.sl a 9 es c]) 0 (bytes []) (bytes []) 0 0 none [] 0 0 none [] 0 none [] 0 k nm ot n0 (J.cell 0) (J.cell 1) (y.cell 0) (y.cell 1) done.length q done q N') ?_ ?_ [] 0 N4 (oD _) rfl rfl al
 ·intro i am hi done q N' ao hd ab ho
  refine wv _ _ _ _ _ _ _ _ _ _ _ _ _ _ _ _ _ _ _ _ _ _ _ _ _ _ _ _ _ _ _ _ ⟨_,_,_,rfl,?_⟩
  rw [ow (by omega)] at hd
  rw [am]
  exact ⟨⟨rfl,rfl⟩,λN5 U=>hQ _ _ _ _ _ _ _ (by omega) ak hd (ho.mono (oD _) U)⟩
 ·intro i x xs I _ aq done q N' ao hd ab ho
  have hb:=I.b
  have ac:=zn g4 I.m
  refine wv _ _ _ _ _ _ _ _ _ _ _ _ _ _ _ _ _ _ _ _ _ _ _ _ _ _ _ _ _ _ _ _ ⟨_,_,_,rfl,?_⟩
  rw [I.lt]
  refine ⟨_,_,_,rfl,⟨by omega,by omega⟩,λN5 U=>?_⟩
  rw [oJ,I.w]
  refine ih x I.m _ I.r ac _ _ ?_
  cases x with
  | mk k2 a6 a7 n2 a8 ba l2=>
    intro x4 x5 x6 x7 au c2 N6 bb aw O ax _ _
    have bc:=O.len
    have bg:=ac.2.2.1
    refine ⟨⟨rfl,rfl⟩,λa2 N7 bh hf=>⟨⟨rfl,rfl⟩,by unfold zB;rw [oH];simp only [oM,oS];omega,λc3=>?_⟩⟩
    refine aq _ _ _ (by omega) (by rw [wV I.g];exact hd.snoc (Tm.is_mk.2 ⟨_,_,_,_,_,_,_,rfl,aw,by omega,O⟩)) (by simp [ab]) ?_
    refine zLn (hd:=[J.cell 0,J.cell 1,y.cell 0,y.cell 1]) (xs:=[x4,x5,x6,x7]) (ho.mono (oD _) U) ax hf (by omega) (by omega) (by omega) (zAF hf λb hb=>?_) (zAF hf λb hb=>?_)
    ·simp only [o0,oY,zG,oK] at hb
     rcases hb with hb | hb | hb | hb | hb
     ·exact ⟨_,by simp,hb⟩
     ·exact ⟨J.cell 1,by simp,hb⟩
     ·exact ⟨y.cell 0,by simp,hb⟩
     ·exact ⟨y.cell 1,by simp,hb⟩
     ·exact ⟨.ag done,by simp,by simpa only [D.foot] using hb⟩
    ·simp only [o0,oY,zG,oK] at hb
     rcases hb with hb | hb | hb | hb | hb
     ·exact ⟨x4,by simp,hb⟩
     ·exact ⟨x5,by simp,hb⟩
     ·exact ⟨x6,by simp,hb⟩
     ·exact ⟨x7,by simp,hb⟩
     ·exact ⟨.ag au,by simp,by simpa only [D.foot] using hb⟩
/-- a term's head anew; its parts are those handed in, and come back -/
theorem zJ2 {k:Int} {nm ot:ByteArray} {n0:Int} {ty re:Ty} {t0 t1 r0 r1 x:D} (I:Tm.Hd nm ot ty re t0 t1 r0 r1) (h1:ty.cnt<=1073741824) (h2:re.cnt<=1073741824) (a:Option Addr) (es:List D) (c:Nat) (N:Nat)
  (Q:QT [.pk,.i,.str,.str,.i,.dc,.dc,.dc,.dc,.bk 1]) (hQ:∀ J O U Y N',N<=N'->Tm.Hd nm ot ty re J O U Y->OwnL N N' [J,O,U,Y]->Q k nm ot n0 J O U Y (.sl a 9 es c) N') :
  ACalls prog 64 [.pk,.i,.str,.str,.i,.dc,.dc,.dc,.dc,.bk 1] [.dg 9 (.ag [.j k,.t nm,.t ot,.j n0,t0,t1,r0,r1,x]),.sv a 9 es c] N Q:=by
 refine zC2 N _ a es c Q λ_ _=>?_
 repeat' first|with_reducible intro _|simp only[Y1,Y2,Y3,Y4]|with_reducible refine X ?_ ?_|refine⟨_,_,_,rfl,?_⟩|refine⟨_,rfl,?_⟩|refine And.intro (by first|omega|trivial|(show _=_;rfl)|(with_reducible constructor)<;>first|omega|trivial|rfl) ?_|refine (zTX _ _ I.ty h1) _ _ ?_|refine (zTX _ _ I.re h2) _ _ ?_|fail
 rename_i N1 aa x1 N2 ai hx ab _ _ N3 ac y N4 aj hy ae _ _ N5 ah
 refine hQ _ _ _ _ _ (by omega) ⟨I.nm,I.ot,Ty.is_cells hx,Ty.is_cells hy⟩ ?_
 exact wK ((th hx ab).mono aa (oD _)) ((th hy ae).mono ac ah) (by omega) (by omega)
theorem rD:∀ (t:Tm) (d:D),t.Is d->t.G->∀ (N:Nat) (Q:QT [.pk,.i,.str,.str,.i,.dc,.dc,.dc,.dc,.row 29 9]),tR t N Q ->
  ACalls prog 33 [.pk,.i,.str,.str,.i,.dc,.dc,.dc,.dc,.row 29 9] [.dg 9 d] N Q:=by
 refine Tm.ind λk nm ot n0 ty re l ih d hd hG N Q hQ=>?_
 obtain ⟨t0,t1,r0,r1,a,es,c,rfl,hh,O,U⟩:=Tm.is_mk.1 hd
 have hl:=U.len
 obtain ⟨g1,g2,g3,g4⟩:=hG
 simp only [tR] at hQ
 refine zDu N _ Q λ_ N1 ah=>?_
 refine rW N1 _ _ λ_=>⟨_,_,_,rfl,?_⟩
 refine up U O (λi xs=>∀ (done:List D) (q N':Nat),N1<=N'->All2 Tm.Is (l.take i) done->done.length=i->OwnL N1 N' done ->
  yj _ N1 done.length q a es c es.length i (.ag [.j k,.t nm,.t ot,.j n0,t0,t1,r0,r1,.sl a 9 es c]) 0 (bytes []) (bytes []) 0 0 none [] 0 0 none [] 0 none [] 0 done q N') ?_ ?_ [] 0 N1 (oD _) rfl rfl zG3
 ·intro i ai hi done q N' aj hd Y ho
  refine vz _ _ _ _ _ _ _ _ _ _ _ _ _ _ _ _ _ _ _ _ _ _ _ _ _ _ _ _ ?_
  rw [ow (by omega)] at hd
  rw [ai]
  refine ⟨⟨rfl,rfl⟩,λa1 a6 _ N4 ak aa=>?_⟩
  refine zJ2 hh g1 g2 a1 done q N4 _ λx4 x5 x6 x7 N5 ab al ac _=>⟨rfl,?_⟩
  have off:∀ y∈[x4,x5,x6,x7],Off [a1] y:=λy hy a' am ad ao hc=>by
   have h1:=aa a' am ad ao
   have h2:=ac.lo _ (zL.2 ⟨y,hy,hc⟩)
   omega
  refine ⟨off x4 (by simp),off x5 (by simp),off x6 (by simp),off x7 (by simp),⟨rfl,rfl⟩,λN6 aq _ _=>⟨⟨rfl,rfl⟩,λN7 au=>?_⟩⟩
  exact hQ _ _ _ _ _ _ _ (by omega) al hd (zCF (N1:=N4) (ac.mono (oD _) (by omega)) (ho.mono ah ak) (by omega) (by omega))
 ·intro i x xs I _ aw done q N' aj hd Y ho
  have hb:=I.b
  have ae:=zn g4 I.m
  refine vz _ _ _ _ _ _ _ _ _ _ _ _ _ _ _ _ _ _ _ _ _ _ _ _ _ _ _ _ ?_
  rw [I.lt]
  refine ⟨⟨by omega,by omega⟩,λN5 ab=>?_⟩
  rw [oJ,I.w]
  refine ih x I.m _ I.r ae _ _ ?_
  cases x with
  | mk k2 a7 a8 n2 ba bb l2=>
    intro x4 x5 x6 x7 ax c2 N6 aq ay J az _ _
    have bc:=J.len
    have bg:=ae.2.2.1
    refine ⟨⟨rfl,rfl⟩,λa2 N7 au hf=>⟨⟨rfl,rfl⟩,by unfold zB;rw [oH];simp only [oM,oS];omega,λc3=>?_⟩⟩
    refine aw _ _ _ (by omega) (by rw [wV I.g];exact hd.snoc (Tm.is_mk.2 ⟨_,_,_,_,_,_,_,rfl,ay,by omega,J⟩)) (by simp [Y]) ?_
    refine zLn (hd:=[]) (xs:=[x4,x5,x6,x7]) (ho.mono (oD _) ab) az hf (by omega) (by omega) (by omega) (zAF hf λb hb=>?_) (zAF hf λb hb=>?_)
    ·exact ⟨.ag done,by simp,by simpa only [D.foot,oY] using hb⟩
    ·simp only [o0,oY,zG,oK] at hb
     rcases hb with hb | hb | hb | hb | hb
     ·exact ⟨x4,by simp,hb⟩
     ·exact ⟨x5,by simp,hb⟩
     ·exact ⟨x6,by simp,hb⟩
     ·exact ⟨x7,by simp,hb⟩
     ·exact ⟨.ag ax,by simp,by simpa only [D.foot] using hb⟩
theorem t8:∀ l:List ByteArray,zG (zA l)=[]
 | []=>rfl
 | s::l=>by have:=t8 l;simp only [zA,nN,zG,D.foot,oY] at this ⊢;exact this
theorem zGW:∀ l:List ByteArray,xr (zA l)
 | []=>trivial
 | s::l=>⟨trivial,zGW l⟩
theorem zMv {N N':Nat} (l:List ByteArray):OwnL N N' (zA l):=⟨by rw [t8];exact mF,zGW l,by rw [t8];simp,by rw [t8];simp⟩
theorem wW {N N' M:Nat} {a:Option Addr} {l:List ByteArray} {c:Nat} {ds:List D} (I:Fresh N N' a (.ag (zA l)::ds)) (h:N'<=M):Own N M (.sl a 0 (zA l) c):=(zFl (N1:=N') (zMv l) I (oD _)).mono (oD _) h
theorem zEq {bs:List (Option Addr)} (l:List ByteArray):Off bs (.ag (zA l)):=λa _ ad _ hc=>by simp only [D.foot,t8] at hc;simp at hc
/-- names, handed back as a row of their own -/
def zSR (f:FuncId) (args:List PV) (l:List ByteArray):Prop:=∀ (N:Nat) (Q:QT [.sl 0]),(∀ a c N',N<=N'->Own N N' (.sl a 0 (zA l) c)->Q a (zA l) c N')->ACalls prog f [.sl 0] args N Q
def zRy (f:FuncId) (args:List PV) (l:List ByteArray):Prop:=∀ (N:Nat) (Q:QT [.row 9 0]),(∀ c N',N<=N'->Q (zA l) c N')->ACalls prog f [.row 9 0] args N Q
theorem pq {l:List ByteArray} {s:ByteArray} (h:l.length<=8796093022207):zB (zA l) [.t s] 16:=by
 unfold zB;rw [oH,zF];simp only [oM,oS];omega
theorem zGl (l:List ByteArray) (hl:l.length<=2199023255552) (a:Option Addr) (c:Nat) (s:ByteArray):zSR 83 [.sv a 0 (zA l) c,.str s] (l.filter λx=>decide (x≠s)):=λN Q hQ=>by
 have Y:=xC l
 have O:(zA l).length<=4611686018427387904:=by rw [zF];omega
 refine zBE N a _ c s Q λ_=>?_
 refine up Y O (λi xs=>∀ (done:List ByteArray) (q N':Nat),N<=N'->done.length<=i->i<=l.length->done++xs.filter (λx=>decide (x≠s))=l.filter (λx=>decide (x≠s)) ->
  yH Q N a (zA l) c s (zA done).length q i (zA done) q N') ?_ ?_ [] 0 N (oD _) (by simp) (by omega) rfl
 ·intro i aa hi done q N' J ab ac hd
  refine v8 _ _ _ _ _ _ _ _ _ _ _ _ ?_
  rw [aa]
  rw [List.filter_nil,nH] at hd
  subst hd
  exact ⟨⟨rfl,rfl⟩,⟨rfl,rfl⟩,⟨rfl,rfl⟩,λa1 N1 ah hf N2 ae=>hQ _ _ _ (by omega) (wW hf ae)⟩
 ·intro i x xs I _ U done q N' J ab ac hd
  have hb:=I.b
  have hr:=I.r
  have ai:=zF l
  refine v8 _ _ _ _ _ _ _ _ _ _ _ _ ?_
  rw [I.lt,oJ,hr,I.w]
  refine ⟨⟨by omega,by omega⟩,_,rfl,Br.nstr (λh=>⟨⟨by omega,by omega⟩,_,rfl,⟨rfl,rfl⟩,pq (by omega),λc1=>?_⟩) λh=>?_⟩
  ·rw [vQ]
   refine U _ _ _ J (by simp;omega) (by omega) ?_
   rw [<-hd]
   simp [List.filter_cons,h]
  ·refine U _ _ _ J (by omega) (by omega) ?_
   rw [<-hd]
   simp [List.filter_cons,h]
theorem zDp (s:ByteArray) (l:List ByteArray):decide (zCK (λx=>decide (x=s)) l 0<0)=decide (s∉l):=by
 have h:=zAL (λx=>decide (x=s)) l 0 (by omega)
 rw [mP,mJ,mJ]
 have I:(decide (zCK (λx=>decide (x=s)) l 0≥0)=true)↔(l.any λx=>decide (x=s))=true:=by rw [h]
 rw [mJ] at I
 simp only [List.any_eq_true,nK,exists_eq_right] at I
 constructor
 ·intro O J;have:=I.2 J;omega
 ·intro O;exact Int.not_le.1 λJ=>O (I.1 J)
theorem zBQ {out xs:List ByteArray} {x:ByteArray}:dd out (x::xs)=dd (if x∈out then out else out++[x]) xs:=rfl
theorem zKh {out:List ByteArray} {x:ByteArray}:(if x∈out then out else out++[x]).length<=out.length+1:=by split<;>simp
theorem tg (l m:List ByteArray) (hl:l.length<=2199023255552) (hm:m.length<=2199023255552) (a b:Option Addr) (c c':Nat):zRy 84 [.sv a 0 (zA l) c,.sv b 0 (zA m) c'] (tQ l m):=fun N Q hQ=>by
 have hes:=xC l
 have hlen:(zA l).length<=4611686018427387904:=by rw [zF];omega
 have hms:=xC m
 have hmen:(zA m).length<=4611686018427387904:=by rw [zF];omega
 have hlw:=zF l
 have hmw:=zF m
 refine zBT N a _ c b _ c' Q fun _ _=>?_
 have second:∀ (done:List ByteArray) (q N':Nat),N<=N'->done.length<=l.length->done=dd [] l->zq Q N b (zA m) c' (zA done).length q 0 (zA done) q N':=fun done0 q0 N0 hN0 hdl0 hd0=>
  up hms hmen (fun i xs=>∀ (done:List ByteArray) (q N':Nat),N<=N'->done.length<=l.length+i->dd done xs=tQ l m->zq Q N b (zA m) c' (zA done).length q i (zA done) q N')
   (fun i hlt hi done q N' hN' hdl hd=>by
    refine uq _ _ _ _ _ _ _ _ _ _ _ ?_
    rw [hlt]
    simp only [dd] at hd
    subst hd
    exact ⟨⟨rfl,rfl⟩,fun N2 hN2=>hQ _ _ (by omega)⟩)
   (fun i x xs hat _ ih2 done q N' hN' hdl hd=>by
    have hb:=hat.b
    have hr:=hat.r
    have hdl2:=zKh (out:=done) (x:=x)
    refine uq _ _ _ _ _ _ _ _ _ _ _ ?_
    rw [hat.lt,oJ,hr,hat.w]
    refine ⟨⟨by omega,by omega⟩,_,rfl,⟨rfl,rfl⟩,fun a1 _ N1 hN1 _=>xH done (by omega) a1 q x N1 _ fun N2 hN2 hle2=>?_⟩
    rw [zDp]
    refine Br.dec (fun h=>⟨⟨by omega,by omega⟩,_,rfl,⟨rfl,rfl⟩,pq (by omega),fun c1=>?_⟩) fun h=>?_
    ·rw [vQ]
     rw [if_neg h] at hdl2
     refine ih2 _ _ _ (by omega) (by omega) ?_
     rw [<-hd,zBQ,if_neg h]
    ·refine ih2 _ _ _ (by omega) (by omega) ?_
     rw [<-hd,zBQ,if_pos (mN.1 h)]) done0 q0 N0 hN0 (by omega) (by rw [hd0];rfl)
 refine up hes hlen (fun i xs=>∀ (done:List ByteArray) (q N':Nat),N<=N'->done.length<=i->dd done xs=dd [] l ->
  yN Q N a (zA l) c b (zA m) c' (zA done).length q i (zA done) q N') ?_ ?_ [] 0 N (oD _) (by simp) rfl
 ·intro i hlt hi done q N' hN' hdl hd
  refine uN _ _ _ _ _ _ _ _ _ _ _ _ _ _ ?_
  rw [hlt]
  exact second done q N' hN' (by omega) hd
 ·intro i x xs hat _ ih2 done q N' hN' hdl hd
  have hb:=hat.b
  have hr:=hat.r
  have hdl2:=zKh (out:=done) (x:=x)
  refine uN _ _ _ _ _ _ _ _ _ _ _ _ _ _ ?_
  rw [hat.lt,oJ,hr,hat.w]
  refine ⟨⟨by omega,by omega⟩,_,rfl,⟨rfl,rfl⟩,fun a1 _ N1 hN1 _=>xH done (by omega) a1 q x N1 _ fun N2 hN2 hle2=>?_⟩
  rw [zDp]
  refine Br.dec (fun h=>⟨⟨by omega,by omega⟩,_,rfl,⟨rfl,rfl⟩,pq (by omega),fun c1=>?_⟩) fun h=>?_
  ·rw [vQ]
   rw [if_neg h] at hdl2
   refine ih2 _ _ _ (by omega) (by omega) ?_
   rw [<-hd,zBQ,if_neg h]
  ·refine ih2 _ _ _ (by omega) (by omega) ?_
   rw [<-hd,zBQ,if_pos (mN.1 h)]
theorem zPX {N N' z c:Nat}:Own N N' (.sl none z [] c):=⟨by simp [D.foot,zG],⟨by simp,trivial⟩,by simp [D.foot,zG],by simp [D.foot,zG]⟩
theorem Qbd {Q:QT [.sl 0,.i]} {a:Option Addr} {es I:List D} {c:Nat} {n J:Int} {N:Nat} (h:Q a es c n N) (e1:es=I) (O:n=J):Q a I c J N:=e1 ▸ O ▸ h
def zSg (f:FuncId) (args:List PV) (l:List ByteArray) (n:Int):Prop:=∀ (N:Nat) (Q:QT [.sl 0,.i]),(∀ a c N',N<=N'->Own N N' (.sl a 0 (zA l) c)->Q a (zA l) c n N')->ACalls prog f [.sl 0,.i] args N Q
theorem zKe {k n0:Int} {nm ot:ByteArray} {t0 t1 r0 r1:D} {a:Option Addr} {es:List D} {c n:Nat} (hn:es.length=n) :
  zSg 145 [.dg 9 (.ag [.j k,.t nm,.t ot,.j n0,t0,t1,r0,r1,.sl a 9 es c])] (bdN k nm ot n) (zQ k n):=λN Q hQ=>by
 subst hn
 have one:∀ (x:ByteArray) (m:Int),bdN k nm ot es.length=[x]->zQ k es.length=m->((1:Nat)=([D.t x]).length/\(1:Nat)=1)/\((1:Nat)=([D.t x]).length/\(1:Nat)=1)/\∀ a1 N1,N<=N1->Fresh N N1 a1 [D.ag [D.t x]]->∀ N2,N1<=N2->Q a1 [D.t x] 1 m N2:=λx m I Y=>
  ⟨⟨rfl,rfl⟩,⟨rfl,rfl⟩,λa1 N1 J hf N2 O=>Qbd (hQ a1 1 N2 (by omega) (by rw [I];exact wW (l:=[x]) hf O)) (by rw [I];rfl) Y⟩
 have aa:bdN k nm ot es.length=[nm,ot]->zQ k es.length=0->((2:Nat)=([D.t nm,D.t ot]).length/\(2:Nat)=2)/\((2:Nat)=([D.t nm,D.t ot]).length/\(2:Nat)=2)/\∀ a1 N1,N<=N1->Fresh N N1 a1 [D.ag [D.t nm,D.t ot]]->∀ N2,N1<=N2->Q a1 [D.t nm,D.t ot] 2 0 N2:=λI Y=>
  ⟨⟨rfl,rfl⟩,⟨rfl,rfl⟩,λa1 N1 J hf N2 O=>Qbd (hQ a1 2 N2 (by omega) (by rw [I];exact wW (l:=[nm,ot]) hf O)) (by rw [I];rfl) Y⟩
 have nil:bdN k nm ot es.length=[]->zQ k es.length = -1->∀ N1,N<=N1->Q none [] 0 (-1) N1:=λI Y N1 J=>Qbd (hQ none 0 N1 J (by rw [I];exact zPX)) (by rw [I];rfl) Y
 refine zJD N _ Q λ_=>⟨_,rfl,Br.beq (λh6=>⟨_,_,_,rfl,Br.beq (λI=>⟨_,rfl,?_⟩) λI=>?_⟩) λh6=>?_⟩
 ·exact one _ _ (by unfold bdN;rw [if_pos ⟨h6,by omega⟩]) (by unfold zQ;rw [if_pos ⟨h6,by omega⟩])
 ·refine ⟨_,rfl,Br.beq (λh8=>by omega) λh8=>⟨_,rfl,Br.beq (λU=>by omega) λU=>?_⟩⟩
  exact nil (by unfold bdN;rw [if_neg (by omega),if_neg (by omega),if_neg (by omega)]) (by unfold zQ;rw [if_neg (by omega),if_neg (by omega),if_neg (by omega)])
 ·refine ⟨_,rfl,Br.beq (λh8=>⟨_,_,_,rfl,Br.beq (λI=>⟨_,rfl,?_⟩) λI=>?_⟩) λh8=>?_⟩
  ·exact one _ _ (by unfold bdN;rw [if_neg (by omega),if_pos ⟨h8,by omega⟩]) (by unfold zQ;rw [if_neg (by omega),if_pos ⟨h8,by omega⟩])
  ·refine ⟨_,rfl,Br.beq (λU=>by omega) λU=>?_⟩
   exact nil (by unfold bdN;rw [if_neg (by omega),if_neg (by omega),if_neg (by omega)]) (by unfold zQ;rw [if_neg (by omega),if_neg (by omega),if_neg (by omega)])
  ·refine ⟨_,rfl,Br.beq (λU=>⟨_,_,_,rfl,Br.beq (λI=>⟨_,rfl,_,rfl,?_⟩) λI=>?_⟩) λU=>?_⟩
   ·exact aa (by unfold bdN;rw [if_neg (by omega),if_neg (by omega),if_pos ⟨U,by omega⟩]) (by unfold zQ;rw [if_neg (by omega),if_neg (by omega),if_pos ⟨U,by omega⟩])
   ·exact nil (by unfold bdN;rw [if_neg (by omega),if_neg (by omega),if_neg (by omega)]) (by unfold zQ;rw [if_neg (by omega),if_neg (by omega),if_neg (by omega)])
   ·exact nil (by unfold bdN;rw [if_neg (by omega),if_neg (by omega),if_neg (by omega)]) (by unfold zQ;rw [if_neg (by omega),if_neg (by omega),if_neg (by omega)])
theorem zAw {k n0:Int} {nm ot:ByteArray} {t0 t1 r0 r1:D} {a:Option Addr} {es:List D} {c n:Nat} (hn:es.length=n) :
  zSg 82 [.dg 9 (.ag [.j k,.t nm,.t ot,.j n0,t0,t1,r0,r1,.sl a 9 es c])] (bdN k nm ot n) (zQ k n):=λN Q hQ=>by
 subst hn
 have one:∀ (x:ByteArray) (m:Int),bdN k nm ot es.length=[x]->zQ k es.length=m->((1:Nat)=([D.t x]).length/\(1:Nat)=1)/\((1:Nat)=([D.t x]).length/\(1:Nat)=1)/\∀ a1 N1,N<=N1->Fresh N N1 a1 [D.ag [D.t x]]->∀ N2,N1<=N2->Q a1 [D.t x] 1 m N2:=λx m I U=>
  ⟨⟨rfl,rfl⟩,⟨rfl,rfl⟩,λa1 N1 Y hf N2 J=>Qbd (hQ a1 1 N2 (by omega) (by rw [I];exact wW (l:=[x]) hf J)) (by rw [I];rfl) U⟩
 have aa:bdN k nm ot es.length=[nm,ot]->zQ k es.length=0->((2:Nat)=([D.t nm,D.t ot]).length/\(2:Nat)=2)/\((2:Nat)=([D.t nm,D.t ot]).length/\(2:Nat)=2)/\∀ a1 N1,N<=N1->Fresh N N1 a1 [D.ag [D.t nm,D.t ot]]->∀ N2,N1<=N2->Q a1 [D.t nm,D.t ot] 2 0 N2:=λI U=>
  ⟨⟨rfl,rfl⟩,⟨rfl,rfl⟩,λa1 N1 Y hf N2 J=>Qbd (hQ a1 2 N2 (by omega) (by rw [I];exact wW (l:=[nm,ot]) hf J)) (by rw [I];rfl) U⟩
 have nil:bdN k nm ot es.length=[]->zQ k es.length = -1->((0:Nat)=0/\(0:Nat)=0)/\((0:Nat)=0/\(0:Nat)=0)/\∀ a1 N1,N<=N1->Fresh N N1 a1 [D.ag []]->∀ N2,N1<=N2->Q a1 [] 0 (-1) N2:=λI U=>
  ⟨⟨rfl,rfl⟩,⟨rfl,rfl⟩,λa1 N1 Y hf N2 J=>Qbd (hQ a1 0 N2 (by omega) (by rw [I];exact wW (l:=[]) hf J)) (by rw [I];rfl) U⟩
 refine zFM N _ Q λ_=>⟨_,rfl,Br.beq (λh6=>⟨_,_,_,rfl,Br.beq (λI=>⟨_,rfl,?_⟩) λI=>?_⟩) λh6=>?_⟩
 ·exact one _ _ (by unfold bdN;rw [if_pos ⟨h6,by omega⟩]) (by unfold zQ;rw [if_pos ⟨h6,by omega⟩])
 ·refine ⟨_,rfl,Br.beq (λh8=>by omega) λh8=>⟨_,rfl,Br.beq (λO=>by omega) λO=>?_⟩⟩
  exact nil (by unfold bdN;rw [if_neg (by omega),if_neg (by omega),if_neg (by omega)]) (by unfold zQ;rw [if_neg (by omega),if_neg (by omega),if_neg (by omega)])
 ·refine ⟨_,rfl,Br.beq (λh8=>⟨_,_,_,rfl,Br.beq (λI=>⟨_,rfl,?_⟩) λI=>?_⟩) λh8=>?_⟩
  ·exact one _ _ (by unfold bdN;rw [if_neg (by omega),if_pos ⟨h8,by omega⟩]) (by unfold zQ;rw [if_neg (by omega),if_pos ⟨h8,by omega⟩])
  ·refine ⟨_,rfl,Br.beq (λO=>by omega) λO=>?_⟩
   exact nil (by unfold bdN;rw [if_neg (by omega),if_neg (by omega),if_neg (by omega)]) (by unfold zQ;rw [if_neg (by omega),if_neg (by omega),if_neg (by omega)])
  ·refine ⟨_,rfl,Br.beq (λO=>⟨_,_,_,rfl,Br.beq (λI=>⟨_,rfl,_,rfl,?_⟩) λI=>?_⟩) λO=>?_⟩
   ·exact aa (by unfold bdN;rw [if_neg (by omega),if_neg (by omega),if_pos ⟨O,by omega⟩]) (by unfold zQ;rw [if_neg (by omega),if_neg (by omega),if_pos ⟨O,by omega⟩])
   ·exact nil (by unfold bdN;rw [if_neg (by omega),if_neg (by omega),if_neg (by omega)]) (by unfold zQ;rw [if_neg (by omega),if_neg (by omega),if_neg (by omega)])
   ·exact nil (by unfold bdN;rw [if_neg (by omega),if_neg (by omega),if_neg (by omega)]) (by unfold zQ;rw [if_neg (by omega),if_neg (by omega),if_neg (by omega)])
/-- a row made by append, cut to nothing -/
theorem zSn (n:Nat) (U:n<=8796093022208) (N:Nat) (Q:QT [.row 9 0]) (J:∀ c N',N<=N'->Q [] c N'):ACalls prog 193 [.row 9 0] [.sv none 0 [] 0,.j n] N Q:=by
 have O:IntKind.i64.wrap ((n:Int) - 0)=n:=by rw [Int.sub_zero];exact i64_in _ (by omega)
 refine zAg N n Q λ_=>Br.dec (λh=>by omega) λ_=>?_
 rw [O]
 refine Br.dec (λh=>⟨⟨by omega,by omega,by omega⟩,⟨by omega,by omega,by omega⟩,λc=>⟨⟨by omega,by omega⟩,Nat.zero_le _,⟨rfl,rfl⟩,λN1 I=>J c N1 I⟩⟩) λh N1 I=>J 0 N1 I
def zJt:List (List ByteArray)->List ByteArray
 | []=>[]
 | l::ls=>l++zJt ls
def IsW (l:List ByteArray) (d:D):Prop:=∃ a c,d=.sl a 0 (zA l) c
theorem zGL (l m:List ByteArray):zA l++zA m=zA (l++m):=by simp [zA]
theorem zLT {ls:List (List ByteArray)} {es:List D} (hes:All2 IsW ls es) (hlen:es.length<=2199023255552) (hc:(zJt ls).length<=8796093022208) (a:Option Addr) (c:Nat):zSR 177 [.sv a 0 es c] (zJt ls):=fun N Q hQ=>by
 refine qk N a es c Q fun _=>?_
 have second:∀ (q N':Nat),N<=N'->zf Q N 0 q a es c (es.length:Int) 0 [] q N':=fun q0 N0 hN0=>
  up hes (by omega) (fun i xs=>∀ (done:List ByteArray) (q N':Nat),N<=N'->done++zJt xs=zJt ls->zf Q N (zA done).length q a es c (es.length:Int) i (zA done) q N')
   (fun i hlt hi done q N' hN' hd=>by
    refine wg _ _ _ _ _ _ _ _ _ _ _ _ ?_
    rw [hlt]
    simp only [zJt,nH] at hd
    subst hd
    exact ⟨⟨rfl,rfl⟩,⟨rfl,rfl⟩,⟨rfl,rfl⟩,fun a1 N1 hN1 hf N2 hN2=>hQ _ _ _ (by omega) (wW hf hN2)⟩)
   (fun i x xs hat _ ih2 done q N' hN' hd=>by
    have hb:=hat.b
    obtain ⟨a1,c1,hr⟩:=hat.r
    refine wg _ _ _ _ _ _ _ _ _ _ _ _ ?_
    rw [hat.lt,oJ,hr,hat.w]
    have hl2:=nu List.length hd
    simp only [zJt,oH] at hl2
    refine ⟨⟨by omega,by omega⟩,_,_,_,rfl,⟨rfl,rfl⟩,by unfold zB;rw [oH,zF,zF];omega,fun c2=>?_⟩
    rw [zGL]
    refine ih2 _ _ _ hN' ?_
    rw [<-hd]
    simp [zJt,nc]) [] q0 N0 hN0 rfl
 refine up hes (by omega) (fun i xs=>∀ (t:Nat) (N':Nat),N<=N'->t+(zJt xs).length=(zJt ls).length ->
  yU Q N a es c t a es c (es.length:Int) i N') ?_ ?_ 0 N (oD _) (by simp)
 ·intro i hlt hi t N' hN' ht
  refine vI _ _ _ _ _ _ _ _ _ _ _ _ ?_
  rw [hlt]
  simp only [zJt,oS] at ht
  exact fun N1 hN1=>zSn t (by omega) N1 _ fun c1 N2 hN2 _ _=>second c1 N2 (by omega)
 ·intro i x xs hat _ ih2 t N' hN' ht
  have hb:=hat.b
  obtain ⟨a1,c1,hr⟩:=hat.r
  refine vI _ _ _ _ _ _ _ _ _ _ _ _ ?_
  simp only [zJt,oH] at ht
  rw [hat.lt,oJ,hr,hat.w]
  have hw:IntKind.i64.wrap ((t:Int)+((zA x).length:Int))=((t+x.length:Nat):Int):=by rw [zF];rw [i64_in _ (by omega)];omega
  refine ⟨⟨by omega,by omega⟩,_,_,_,rfl,?_⟩
  rw [hw]
  exact Br.dec (fun h=>by omega) fun _=>ih2 _ _ hN' (by omega)
theorem zBt (s:ByteArray) (l:List ByteArray):(l.any λx=>decide (s=x))=decide (s∈l):=by
 rw [mP];simp
theorem tW (l m:List ByteArray) (hl:l.length<=2199023255552) (hm:m.length<=2199023255552) (a b:Option Addr) (c c':Nat):zRy 175 [.sv a 0 (zA l) c,.sv b 0 (zA m) c'] (tQ l m):=λN Q hQ=>by
 refine zBz N a _ c b _ c' Q λ_ _=>⟨⟨rfl,rfl⟩,λa1 _ N1 aa O=>?_⟩
 have ab:All2 IsW [l,m] [.sl a 0 (zA l) c,.sl b 0 (zA m) c']:=⟨_,_,rfl,⟨_,_,rfl⟩,_,_,rfl,⟨_,_,rfl⟩,rfl⟩
 have J:zJt [l,m]=l++m:=by simp [zJt]
 refine zLT ab (by simp) (by rw [J,oH];omega) a1 2 N1 _ λa2 c2 N2 ac ho _=>⟨vP O ho,λ_=>?_⟩
 rw [J]
 have ae:=xC (l++m)
 have ah:=zF (l++m)
 rw [oH] at ah
 refine up ae (by omega) (λi xs=>∀ (done:List ByteArray) (q N':Nat),N<=N'->done.length<=i->dd done xs=tQ l m ->
  yO Q N (zA done).length q a2 (zA (l++m)) c2 ((zA (l++m)).length:Int) i (zA done) q N') ?_ ?_ [] 0 N2 (by omega) (by simp) (by unfold tQ;rw [zQ7])
 ·intro i ai hi done q N' aj ak hd
  refine uO _ _ _ _ _ _ _ _ _ _ _ _ ?_
  rw [ai]
  simp only [dd] at hd
  subst hd
  exact ⟨⟨rfl,rfl⟩,λN3 am=>hQ _ _ (by omega)⟩
 ·intro i x xs I _ U done q N' aj ak hd
  have hb:=I.b
  have hr:=I.r
  have Y:=zKh (out:=done) (x:=x)
  refine uO _ _ _ _ _ _ _ _ _ _ _ _ ?_
  rw [I.lt,oJ,hr,I.w]
  refine ⟨⟨by omega,by omega⟩,_,rfl,⟨rfl,rfl⟩,λa1 _ N1 aa _=>yf done (by omega) a1 q x N1 _ λN2 ac al=>?_⟩
  rw [zBt]
  refine Br.ndec (λh=>⟨⟨rfl,rfl⟩,pq (by omega),λc1=>?_⟩) λh=>?_
  ·rw [vQ]
   rw [if_neg h] at Y
   refine U _ _ _ (by omega) (by omega) ?_
   rw [<-hd,zBQ,if_neg h]
  ·refine U _ _ _ (by omega) (by omega) ?_
   rw [<-hd,zBQ,if_pos h]
end Go.Proofs.YtfajiphkncipoaaGreatDoor
