/- Free names, fresh names, substitution: what they are (no program in sight). -/
import Derived.Test.YtlaniepnglheoaaGreatA5
import Derived.Lib.ItoaNum
import Derived.Test.YtlaniepnglheoaaGreatA9
import Derived.Test.YtlaniepnglheoaaGreatKa
import Derived.Test.YtlaniepnglheoaaGreatKf
set_option linter.unusedVariables false
set_option linter.unusedSimpArgs false
namespace Go.Proofs.YtlaniepnglheoaaGreat
open Go Go.Proofs Go.Proofs.Tryz Go.IntWalk
variable {I J O U d:D} {N N0 N1 N2 N3 c f i j:Nat} {S:Tm->ByteArray->Tm->Tm} {a:Option Addr} {at_ k m n n0:Int} {ds es:List D} {e p t y:Tm} {fb:List ByteArray} {l:List Tm} {re ty:Ty} {s x:ByteArray}
instance decMem (s:ByteArray) (l:List ByteArray):Decidable (s∈l):=decidable_of_iff ((l.any fun x=>decide (x=s))=true) (by simp)
def dd:List ByteArray->List ByteArray->List ByteArray
 | out,[]=>out
 | out,s::l=>dd (if s∈out then out else out++[s]) l
def pG (a b:List ByteArray):List ByteArray:=dd (dd [] a) b
def Ch (I l:List ByteArray):List ByteArray:=l.filter λs=>decide (s∉I)
theorem SX:∀(out l:List ByteArray)(x:ByteArray),x∈dd out l↔x∈out\/x∈l
 | out,[],x=>by simp[dd]
 | out,s::l,x=>by
   simp only[dd];rw[SX];split
   ·rename_i h;constructor
    ·rintro(h1 | h1)
     ·exact .inl h1
     ·exact .inr (by simp[h1])
    ·rintro(h1 | h1)
     ·exact .inl h1
     ·rcases oH.1 h1 with rfl | h1
      ·exact .inl h
      ·exact .inr h1
   ·simp only[oM,oW,oH,oh,mK,or_assoc]
theorem KP:∀(out l:List ByteArray),out.Nodup->(dd out l).Nodup
 | out,[],h=>h
 | out,s::l,h=>by
   simp only[dd];refine KP _ l ?_;split
   ·exact h
   ·rename_i hs;rw[nN];refine⟨h,by simp,λa J b I=>?_⟩;rw[oW]at I;subst I;exact λhc=>hs (hc ▸ J)
theorem Gb:∀(out l:List ByteArray),(dd out l).length<=out.length+l.length
 | out,[]=>by simp[dd]
 | out,s::l=>by
   simp only[dd]
   have:=Gb (if s∈out then out else out++[s]) l
   split at this<;>simp_all<;>omega
theorem NX {a b:List ByteArray}:x∈pG a b↔x∈a\/x∈b:=by unfold pG;rw[SX,SX];simp
theorem PE (a b:List ByteArray):(pG a b).Nodup:=KP _ _ (KP _ _ mR)
theorem xc {n l:List ByteArray}:x∈Ch n l↔x∈l/\x∉n:=by simp[Ch]
theorem Ki:∀ {l m:List ByteArray},l.Nodup->(∀ x∈l,x∈m)->l.length<=m.length
 | [],m,_,_=>Nat.zero_le _
 | x::l,m,hn,hs=>by
   obtain⟨J,O⟩:=na.1 hn;have hx:=hs x (by simp);have U:=Ki (l:=l) (m:=m.filter λy=>decide (y≠x)) O λy I=>by rw[nW];exact⟨hs y (by simp[I]),by simp;exact λhc=>J (hc ▸ I)⟩
   have Y:=lD (p:=λy=>decide (y≠x)).2 ⟨x,hx,by simp⟩;simp only[oJ];omega
def yB (k:Int)(n:Nat):Int:=if k=6/\n=1 then 0 else if k=8/\n=2 then 1 else if k=9/\n=1 then 0 else -1
def bdN (k:Int)(nm ot:ByteArray)(n:Nat):List ByteArray:=if k=6/\n=1 then [nm]else if k=8/\n=2 then [nm]else if k=9/\n=1 then [nm,ot]else []
theorem GE (k:Int)(nm ot:ByteArray)(n:Nat):(bdN k nm ot n).length<=2:=by unfold bdN;(repeat' split)<;>simp
theorem wR (k:Int)(n:Nat):yB k n = -1\/(yB k n=0/\n=1/\(k=6\/k=9))\/(yB k n=1/\n=2/\k=8):=by unfold yB;(repeat' split)<;>simp_all
mutual
def Tm.fv:Tm->List ByteArray
 | .mk k nm ot _ _ _ l=>if k=1 then [nm]else AQ l (yB k l.length) (bdN k nm ot l.length) 0 []
def AQ:List Tm->Int->List ByteArray->Nat->List ByteArray->List ByteArray
 | [],_,_,_,out=>out
 | x::xs,at_,ns,i,out=>AQ xs at_ ns (i+1) (pG out (if(i:Int)=at_ then Ch ns x.fv else x.fv))
end
def fvI (at_:Int)(ns:List ByteArray)(i:Nat)(x:Tm):List ByteArray:=if(i:Int)=at_ then Ch ns x.fv else x.fv
theorem NN:∀(l:List Tm)(at_:Int)(ns:List ByteArray)(i:Nat)(out:List ByteArray)(s:ByteArray),s∈AQ l at_ ns i out↔s∈out\/∃(j:Nat)(x:Tm),l[j]?=some x/\s∈fvI at_ ns (i+j) x
 | [],_,_,_,out,s=>by simp[AQ]
 | y :: l,at_,ns,i,out,s=>by
   simp only[AQ];rw[NN,NX];constructor
   ·rintro((h | h) | ⟨j,x,I,J⟩)
    ·exact .inl h
    ·exact .inr ⟨0,y,rfl,h⟩
    ·exact .inr ⟨j+1,x,by simpa using I,by rw[show i+(j+1)=i+1+j by omega];exact J⟩
   ·rintro(h | ⟨j,x,I,J⟩)
    ·exact .inl (.inl h)
    ·cases j with
     | zero=>simp at I;subst I;exact .inl (.inr J)
     | succ j=>exact .inr ⟨j,x,by simpa using I,by rw[show i+1+j=i+(j+1) by omega];exact J⟩
theorem HL:∀(l:List Tm)(at_:Int)(ns:List ByteArray)(i:Nat)(out:List ByteArray),out.Nodup->(AQ l at_ ns i out).Nodup
 | [],_,_,_,out,h=>h
 | y::l,at_,ns,i,out,h=>by simp only[AQ];exact HL l _ _ _ _ (PE _ _)
theorem Tm.fv_mem {nm ot:ByteArray}:s∈(Tm.mk k nm ot n ty re l).fv↔(k=1/\s=nm)\/(k≠1/\∃(j:Nat)(x:Tm),l[j]?=some x/\s∈fvI (yB k l.length) (bdN k nm ot l.length) j x):=by
 simp only[Tm.fv];by_cases hk:k=1
 ·simp[hk]
 ·rw[if_neg hk,NN];simp[hk]
theorem Tm.fv_nodup (t:Tm):t.fv.Nodup:=by
 cases t;simp only[Tm.fv];split
 ·simp
 ·exact HL _ _ _ _ _ mR
def sF (k:Nat):ByteArray:=⟨(118::Lib.decDigits k).toArray⟩
theorem XO:∀(a b:Nat),Lib.decDigits a=Lib.decDigits b->a=b:=by
 intro a;have hn:∀ u,(Lib.decDigits u).length=Lib.nDigits u:=Lib.decDigits_length;have e1:∀ u,u<10->Lib.decDigits u=[UInt8.ofNat (48+u)]:=λu h=>by rw[Lib.decDigits,dif_pos h]
 have U:∀ u,¬u<10->Lib.decDigits u=Lib.decDigits (u / 10)++[UInt8.ofNat (48+u % 10)]:=λu h=>by rw[Lib.decDigits,dif_neg h]
 have u8:∀ x y:Nat,x<10->y<10->UInt8.ofNat (48+x)=UInt8.ofNat (48+y)->x=y:=λx y hx hy h=>by
  have:=lY UInt8.toNat h
  simp only[UInt8.toNat_ofNat']at this;omega
 induction a using Nat.strongRecOn with
 | _ a Y=>
   intro b h;have J:=lY List.length h;rw[hn,hn]at J;by_cases I:a<10
   ·rw[Lib.nDigits_small I]at J;have O:b<10:=by
     refine lW λhc=>?_;rw[Lib.nDigits_big (by omega)]at J
     have:=Lib.nDigits_pos (b / 10)
     omega
    rw[e1 a I,e1 b O]at h;exact u8 a b I O (by simpa using h)
   ·have O:¬b<10:=λhc=>by
     rw[Lib.nDigits_big I,Lib.nDigits_small hc]at J
     have:=Lib.nDigits_pos (a / 10)
     omega
    rw[U a I,U b O]at h;obtain⟨h1,h2⟩:=List.append_inj' h rfl
    have:=Y (a / 10) (by omega) (b / 10) h1
    have:=u8 (a % 10) (b % 10) (by omega) (by omega) (by simpa using h2)
    omega
theorem UH {a b:Nat}(h:sF a=sF b):a=b:=by
 have:(118::Lib.decDigits a:List UInt8)=118::Lib.decDigits b:=by
  have:=lY (λx:ByteArray=>x.data.toList) h
  simpa [sF]using this
 exact XO a b (by simpa using this)
def pX:Nat->Nat->List ByteArray->Nat
 | 0,k,_=>k
 | f+1,k,l=>if sF k∈l then pX f (k+1) l else k
def fresh (l:List ByteArray):ByteArray:=sF (pX l.length 1 l)
theorem Vd:∀(n k:Nat),((List.range n).map λi=>sF (k+i)).Nodup:=λn k=>by
 rw[List.nodup_iff_pairwise_ne,List.pairwise_map];refine List.Pairwise.imp (λ{a b} h hc=>?_) (List.nodup_iff_pairwise_ne.1 List.nodup_range)
 have:=UH hc
 omega
theorem Wu (l:List ByteArray)(k:Nat)(h:∀ j,1<=j->j<k->sF j∈l)(hk:1<=k):k<=l.length+1:=by
 have:=Ki (Vd (k - 1) 1) (m:=l) λx hx=>by obtain⟨i,hi,rfl⟩:=oT.1 hx;rw[List.mem_range]at hi;exact h _ (by omega) (by omega)
 simp at this;omega
theorem Gl (l:List ByteArray):∀(f k:Nat),1<=k->k+f=l.length+1->(∀ j,1<=j->j<k->sF j∈l)->1<=pX f k l/\pX f k l<=l.length+1/\sF (pX f k l)∉l/\∀ j,1<=j->j<pX f k l->sF j∈l
 | 0,k,J,h2,I=>by
   simp only[pX];refine⟨J,by omega,λhc=>?_,I⟩
   have:=Wu l (k+1) (λj O h5=>by
    by_cases U:j=k
    ·subst U;exact hc
    ·exact I j O (by omega)) (by omega)
   omega
 | f + 1,k,J,h2,I=>by
   simp only[pX];split
   ·rename_i Y;exact Gl l f (k+1) (by omega) (by omega) λj O h5=>by
     by_cases U:j=k
     ·subst U;exact Y
     ·exact I j O (by omega)
   ·rename_i Y;exact⟨J,by omega,Y,I⟩
theorem rR (l:List ByteArray):∃ k,fresh l=sF k/\1<=k/\k<=l.length+1/\sF k∉l/\∀ j,1<=j->j<k->sF j∈l:=by
 obtain⟨I,J,O,U⟩:=Gl l l.length 1 (oD _) (by omega) λj I J=>by omega
 exact⟨_,rfl,I,J,O,U⟩
theorem rQ (l:List ByteArray):fresh l∉l:=by obtain⟨k,h,_,_,I,_⟩:=rR l;rw[h];exact I
theorem VG {l m:List ByteArray}(h:∀ x,x∈l↔x∈m):fresh l=fresh m:=by
 obtain⟨k,e1,a1,Y,I,J⟩:=rR l;obtain⟨j,O,U,b2,b3,b4⟩:=rR m;rw[e1,O];congr 1;refine Nat.le_antisymm (Nat.le_of_not_lt λhc=>?_) (Nat.le_of_not_lt λhc=>?_)
 ·exact b3 ((h _).1 (J j U hc))
 ·exact I ((h _).2 (b4 k a1 hc))
def tm0:Tm:=.mk 0 (bytes []) (bytes []) 0 (.mk 0 []) (.mk 0 []) []
def ru (s:ByteArray):Tm:=.mk 1 s (bytes []) 0 (.mk 0 []) (.mk 0 []) []
theorem LE (s:ByteArray):(ru s).fv=[s]:=rfl
def rn1 (S:Tm->ByteArray->Tm->Tm)(k:Int)(n:Nat)(fb:List ByteArray)(x old:ByteArray)(s:ByteArray × ByteArray × Tm):ByteArray × ByteArray × Tm:=
 if old∈fb then
  (if s.1=old then(fresh (fb++(s.2.2.fv++([x]++bdN k s.1 s.2.1 n))),s.2.1,S s.2.2 old (ru (fresh (fb++(s.2.2.fv++([x]++bdN k s.1 s.2.1 n))))))
   else(s.1,fresh (fb++(s.2.2.fv++([x]++bdN k s.1 s.2.1 n))),S s.2.2 old (ru (fresh (fb++(s.2.2.fv++([x]++bdN k s.1 s.2.1 n)))))))
 else s
def rns (S:Tm->ByteArray->Tm->Tm)(k:Int)(n:Nat)(fb:List ByteArray)(x:ByteArray):List ByteArray->ByteArray × ByteArray × Tm->ByteArray × ByteArray × Tm
 | [],s=>s
 | old::l,s=>rns S k n fb x l (rn1 S k n fb x old s)
def Tm.sub:Nat->Tm->ByteArray->Tm->Tm
 | 0,e,_,_=>e
 | f + 1,.mk k nm ot n ty re l,x,b=>
   if k=1 then(if nm=x then b else .mk k nm ot n ty re l)
   else if yB k l.length<0 then .mk k nm ot n ty re (l.map λt=>Tm.sub f t x b)
   else if x∈bdN k nm ot l.length\/x∉(l.getD (yB k l.length).toNat tm0).fv then
    .mk k nm ot n ty re ((l.map λt=>Tm.sub f t x b).set (yB k l.length).toNat (l.getD (yB k l.length).toNat tm0))
   else
    .mk k (rns (Tm.sub f) k l.length b.fv x (bdN k nm ot l.length) (nm,ot,l.getD (yB k l.length).toNat tm0)).1
     (rns (Tm.sub f) k l.length b.fv x (bdN k nm ot l.length) (nm,ot,l.getD (yB k l.length).toNat tm0)).2.1 n ty re
     ((l.map λt=>Tm.sub f t x b).set (yB k l.length).toNat (Tm.sub f (rns (Tm.sub f) k l.length b.fv x (bdN k nm ot l.length) (nm,ot,l.getD (yB k l.length).toNat tm0)).2.2 x b))
theorem w7 {n:Nat}(h:¬yB k n<0):(yB k n).toNat<n/\((yB k n).toNat:Int)=yB k n:=by
 rcases wR k n with I | ⟨I,J,_⟩ | ⟨I,J,_⟩
 ·omega
 ·rw[I];subst J;exact⟨by decide,rfl⟩
 ·rw[I];subst J;exact⟨by decide,rfl⟩
theorem yC (h:i<l.length):l[i]?=some (l.getD i tm0):=by rw[oB,oF h];rfl
theorem T7:∀(f:Nat)(e:Tm)(x:ByteArray)(b:Tm),x∉e.fv->e.sub f x b=e
 | 0,e,x,b,_=>rfl
 | f + 1,.mk k nm ot n ty re l,x,b,h=>by
   rw[Tm.fv_mem]at h;simp only[not_or,not_and,not_exists]at h;obtain⟨h1,U⟩:=h;simp only[Tm.sub];have part:k≠1->∀(j:Nat) (y:Tm),l[j]?=some y->(j:Int)≠yB k l.length->y.sub f x b=y:=λhk j y I J=>by
    refine T7 f y x b λhc=>?_
    have:=U hk j y I
    unfold fvI at this;rw[if_neg J]at this;exact this hc
   split
   ·rename_i hk;rw[if_neg (λhc=>h1 hk hc.symm)]
   ·rename_i hk;split
    ·rename_i Y;congr 1;refine(nH λy hy=>?_).trans (List.map_id l);obtain⟨j,I⟩:=oQ.1 hy;exact part hk j y I (by omega)
    ·rename_i Y;obtain⟨O,g2⟩:=w7 Y;split
     ·congr 1;apply nK;intro i;rw[nR];split
      ·rename_i hi;subst hi;rw[if_pos (by simpa using O),yC O]
      ·rename_i hi;rw[oG];cases hl:l[i]? with
       | none=>rfl
       | some y=>simp only[oe];rw[part hk i y hl (by omega)]
     ·rename_i hc;exfalso;simp only[not_or,mU]at hc
      have:=U hk _ _ (yC O)
      unfold fvI at this;rw[if_pos g2,xc]at this;exact this ⟨hc.2,hc.1⟩
def Hu (t:Tm)(N:Nat)(Q:QT [.pk,.i,.str,.str,.i,.dc,.dc,.dc,.dc,.row 30 9]):Prop:=
 match t with | .mk k nm ot n ty re l=>∀ I J O U es' Y N',N<=N'->Tm.Hd nm ot ty re I J O U->All2 Tm.Is l es'->OwnL N N' ([I,J,O,U]++es')->Q k nm ot n I J O U es' Y N'
theorem Mf (I:Fresh N N3 a ds)(h:∀ b,b∈zF es->∃ d∈ds,b∈d.foot):∀ ad,a=some ad->ad.block∉zF es:=λad J hc=>by obtain⟨d,hd,O⟩:=h _ hc;exact I.ap ad J d hd O
theorem r8:∀(t:Tm) (d:D),t.Is d->t.G->∀(N:Nat) (Q:QT [.pk,.i,.str,.str,.i,.dc,.dc,.dc,.dc,.row 30 9]),Hu t N Q ->
  ACalls prog 32 [.pk,.i,.str,.str,.i,.dc,.dc,.dc,.dc,.row 30 9] [.dg 9 d] N Q:=by
 refine Tm.ind λk nm ot n0 ty re l ih d hd hG N Q hQ=>?_;obtain⟨t0,t1,r0,r1,a,es,c,rfl,hh,Y,aa⟩:=Tm.is_mk.1 hd;have hl:=aa.len;obtain⟨g1,g2,g3,g4⟩:=hG;simp only[Hu]at hQ;refine DX N _ Q λ_=>?_
 repeat' first|with_reducible intro _|simp only[Y1]|with_reducible refine X ?_ ?_|refine⟨_,_,_,rfl,?_⟩|refine⟨_,rfl,?_⟩|refine X0 ?_|refine(zO _ _ hh.ty g1) _ _ ?_|refine(zO _ _ hh.re g2) _ _ ?_|fail
 rename_i N1 ae J N2 ay hx ah _ _ N3 ai y N4 az hy aj _ _;have ak:Tm.Hd nm ot ty re (J.cell 0) (J.cell 1) (y.cell 0) (y.cell 1):=⟨hh.nm,hh.ot,Ty.is_cells hx,Ty.is_cells hy⟩
 have al:OwnL N N4 ([J.cell 0,J.cell 1,y.cell 0,y.cell 1]++[]):=by have h:=xJ ((ue hx ah).mono ae (oD _)) ((ue hy aj).mono ai (oD _)) (by omega) (by omega);exact h
 refine up aa Y (λi xs=>∀(done:List D) (q N':Nat),N4<=N'->All2 Tm.Is (l.take i) done->done.length=i->OwnL N N' ([J.cell 0,J.cell 1,y.cell 0,y.cell 1]++done) ->
  wG Q N i (.ag [.j k,.t nm,.t ot,.j n0,t0,t1,r0,r1,.sl a 9 es c]) 0 (bytes []) (bytes []) 0 0 none [] 0 0 none [] 0 none [] 0 k nm ot n0 (J.cell 0) (J.cell 1) (y.cell 0) (y.cell 1) done.length q done q N') ?_ ?_ [] 0 N4 (oD _) rfl rfl al
 ·intro i am hi done q N' ao hd ab ho;refine vq ⟨_,_,_,rfl,?_⟩;rw[oX (by omega)]at hd;rw[am];exact⟨⟨rfl,rfl⟩,λN5 U=>hQ _ _ _ _ _ _ _ (by omega) ak hd (ho.mono (oD _) U)⟩
 ·intro i x xs I _ aq done q N' ao hd ab ho;have hb:=I.b;have ac:=yb g4 I.m;refine vq ⟨_,_,_,rfl,?_⟩;rw[I.lt];refine⟨_,_,_,rfl,⟨by omega,by omega⟩,λN5 U=>?_⟩;rw[oI,I.w];refine ih x I.m _ I.r ac _ _ ?_;cases x with
  | mk k2 a0 a3 n2 a4 a5 l2=>
    intro x4 x5 x6 x7 au c2 N6 a6 aw O ax _ _;have a7:=O.len;have a8:=ac.2.2.1;refine⟨⟨rfl,rfl⟩,λa2 N7 a9 hf=>⟨⟨rfl,rfl⟩,by unfold zA;rw[oK];simp only[oJ,oN];omega,λc3=>?_⟩⟩;refine aq _ _ _ (by omega) (by rw[zX I.g];exact hd.snoc (Tm.is_mk.2 ⟨_,_,_,_,_,_,_,rfl,aw,by omega,O⟩)) (by simp[ab]) ?_;refine TN (hd:=[J.cell 0,J.cell 1,y.cell 0,y.cell 1]) (xs:=[x4,x5,x6,x7]) (ho.mono (oD _) U) ax hf (by omega) (by omega) (by omega) (Mf hf λb hb=>?_) (Mf hf λb hb=>?_)
    ·simp only[nE,oV,zF,oM]at hb;rcases hb with hb | hb | hb | hb | hb
     ·exact⟨_,by simp,hb⟩
     ·exact⟨J.cell 1,by simp,hb⟩
     ·exact⟨y.cell 0,by simp,hb⟩
     ·exact⟨y.cell 1,by simp,hb⟩
     ·exact⟨.ag done,by simp,by simpa only[D.foot]using hb⟩
    ·simp only[nE,oV,zF,oM]at hb;rcases hb with hb | hb | hb | hb | hb
     ·exact⟨x4,by simp,hb⟩
     ·exact⟨x5,by simp,hb⟩
     ·exact⟨x6,by simp,hb⟩
     ·exact⟨x7,by simp,hb⟩
     ·exact⟨.ag au,by simp,by simpa only[D.foot]using hb⟩
theorem rO:∀ l:List ByteArray,zF (zD l)=[]
 | []=>rfl
 | s::l=>by have:=rO l;simp only[zD,oZ,zF,D.foot,oV]at this ⊢;exact this
theorem JA:∀ l:List ByteArray,xX (zD l)
 | []=>trivial
 | s::l=>⟨trivial,JA l⟩
theorem RN {N':Nat}(l:List ByteArray):OwnL N N' (zD l):=⟨by rw[rO];exact mR,JA l,by rw[rO];simp,by rw[rO];simp⟩
theorem ri {N' M:Nat}{l:List ByteArray}(I:Fresh N N' a (.ag (zD l)::ds))(h:N'<=M):Own N M (.sl a 0 (zD l) c):=(AH (N1:=N') (RN l) I (oD _)).mono (oD _) h
theorem TJ {bs:List (Option Addr)}(l:List ByteArray):Off bs (.ag (zD l)):=λa _ ad _ hc=>by simp only[D.foot,rO]at hc;simp at hc
def Ye (f:FuncId)(args:List PV)(l:List ByteArray):Prop:=∀(N:Nat) (Q:QT [.sl 0]),(∀ a c N',N<=N'->Own N N' (.sl a 0 (zD l) c)->Q a (zD l) c N')->ACalls prog f [.sl 0] args N Q
def Z4 (f:FuncId)(args:List PV)(l:List ByteArray):Prop:=∀(N:Nat) (Q:QT [.row 9 0]),(∀ c N',N<=N'->Q (zD l) c N')->ACalls prog f [.row 9 0] args N Q
theorem Fp {l:List ByteArray}(h:l.length<=8796093022207):zA (zD l) [.t s] 16:=by unfold zA;rw[oK,zj];simp only[oJ,oN];omega
theorem KA (l:List ByteArray)(hl:l.length<=2199023255552)(a:Option Addr)(c:Nat)(s:ByteArray):Ye 203 [.sv a 0 (zD l) c,.str s] (l.filter λx=>decide (x≠s)):=λN Q hQ=>by
 have Y:=um l;have O:(zD l).length<=4611686018427387904:=by rw[zj];omega
 refine DU N a _ c s Q λ_=>?_;refine up Y O (λi xs=>∀(done:List ByteArray) (q N':Nat),N<=N'->done.length<=i->i<=l.length->done++xs.filter (λx=>decide (x≠s))=l.filter (λx=>decide (x≠s)) ->
  yY Q N a (zD l) c s (zD done).length q i (zD done) q N') ?_ ?_ [] 0 N (oD _) (by simp) (by omega) rfl
 ·intro i aa hi done q N' J ab ac hd;refine u6 ?_;rw[aa];rw[List.filter_nil,ou]at hd;subst hd;exact⟨⟨rfl,rfl⟩,⟨rfl,rfl⟩,⟨rfl,rfl⟩,λa1 N1 ah hf N2 ae=>hQ _ _ _ (by omega) (ri hf ae)⟩
 ·intro i x xs I _ U done q N' J ab ac hd;have hb:=I.b;have hr:=I.r;have ai:=zj l;refine u6 ?_;rw[I.lt,oI,hr,I.w];refine⟨⟨by omega,by omega⟩,_,rfl,Br.nstr (λh=>⟨⟨by omega,by omega⟩,_,rfl,⟨rfl,rfl⟩,Fp (by omega),λc1=>?_⟩) λh=>?_⟩
  ·rw[uS];refine U _ _ _ J (by simp;omega) (by omega) ?_;rw[<-hd];simp[List.filter_cons,h]
  ·refine U _ _ _ J (by omega) (by omega) ?_;rw[<-hd];simp[List.filter_cons,h]
theorem Gm (s:ByteArray)(l:List ByteArray):decide (Bg (λx=>decide (x=s)) l 0<0)=decide (s∉l):=by
 have h:=tE (λx=>decide (x=s)) l 0 (by omega);rw[mG,nh,nh];have I:(decide (Bg (λx=>decide (x=s)) l 0≥0)=true)↔(l.any λx=>decide (x=s))=true:=by rw[h]
 rw[nh]at I;simp only[List.any_eq_true,oq,exists_eq_right]at I;constructor
 ·intro O J;have:=I.2 J;omega
 ·intro O;exact Int.not_le.1 λJ=>O (I.1 J)
theorem KQ {out xs:List ByteArray}:dd out (x::xs)=dd (if x∈out then out else out++[x]) xs:=rfl
theorem SW {out:List ByteArray}:(if x∈out then out else out++[x]).length<=out.length+1:=by split<;>simp
theorem rK (l m:List ByteArray)(hl:l.length<=2199023255552)(hm:m.length<=2199023255552)(a b:Option Addr)(c c':Nat):Z4 204 [.sv a 0 (zD l) c,.sv b 0 (zD m) c'] (pG l m):=fun N Q hQ=>by
 have hes:=um l;have hlen:(zD l).length<=4611686018427387904:=by rw[zj];omega
 have hms:=um m;have hmen:(zD m).length<=4611686018427387904:=by rw[zj];omega
 have hlw:=zj l;have hmw:=zj m;refine EW N a _ c b _ c' Q fun _ _=>?_;have second:∀(done:List ByteArray) (q N':Nat),N<=N'->done.length<=l.length->done=dd [] l->yH Q N b (zD m) c' (zD done).length q 0 (zD done) q N':=fun done0 q0 N0 hN0 hdl0 hd0=>
  up hms hmen (fun i xs=>∀(done:List ByteArray) (q N':Nat),N<=N'->done.length<=l.length+i->dd done xs=pG l m->yH Q N b (zD m) c' (zD done).length q i (zD done) q N')
   (fun i hlt hi done q N' hN' hdl hd=>by refine tq ?_;rw[hlt];simp only[dd]at hd;subst hd;exact⟨⟨rfl,rfl⟩,fun N2 hN2=>hQ _ _ (by omega)⟩)
   (fun i x xs hat _ ih2 done q N' hN' hdl hd=>by
    have hb:=hat.b;have hr:=hat.r;have hdl2:=SW (out:=done) (x:=x);refine tq ?_;rw[hat.lt,oI,hr,hat.w];refine⟨⟨by omega,by omega⟩,_,rfl,⟨rfl,rfl⟩,fun a1 _ N1 hN1 _=>xG done (by omega) a1 q x N1 _ fun N2 hN2 hle2=>?_⟩;rw[Gm];refine Br.dec (fun h=>⟨⟨by omega,by omega⟩,_,rfl,⟨rfl,rfl⟩,Fp (by omega),fun c1=>?_⟩) fun h=>?_
    ·rw[uS];rw[if_neg h]at hdl2;refine ih2 _ _ _ (by omega) (by omega) ?_;rw[<-hd,KQ,if_neg h]
    ·refine ih2 _ _ _ (by omega) (by omega) ?_;rw[<-hd,KQ,if_pos (mU.1 h)]) done0 q0 N0 hN0 (by omega) (by rw[hd0];rfl)
 refine up hes hlen (fun i xs=>∀(done:List ByteArray) (q N':Nat),N<=N'->done.length<=i->dd done xs=dd [] l ->
  yi Q N a (zD l) c b (zD m) c' (zD done).length q i (zD done) q N') ?_ ?_ [] 0 N (oD _) (by simp) rfl
 ·intro i hlt hi done q N' hN' hdl hd;refine tn ?_;rw[hlt];exact second done q N' hN' (by omega) hd
 ·intro i x xs hat _ ih2 done q N' hN' hdl hd;have hb:=hat.b;have hr:=hat.r;have hdl2:=SW (out:=done) (x:=x);refine tn ?_;rw[hat.lt,oI,hr,hat.w];refine⟨⟨by omega,by omega⟩,_,rfl,⟨rfl,rfl⟩,fun a1 _ N1 hN1 _=>xG done (by omega) a1 q x N1 _ fun N2 hN2 hle2=>?_⟩;rw[Gm];refine Br.dec (fun h=>⟨⟨by omega,by omega⟩,_,rfl,⟨rfl,rfl⟩,Fp (by omega),fun c1=>?_⟩) fun h=>?_
  ·rw[uS];rw[if_neg h]at hdl2;refine ih2 _ _ _ (by omega) (by omega) ?_;rw[<-hd,KQ,if_neg h]
  ·refine ih2 _ _ _ (by omega) (by omega) ?_;rw[<-hd,KQ,if_pos (mU.1 h)]
theorem Qbd {Q:QT [.sl 0,.i]}{es':List D}{I:Int}(h:Q a es c n N)(e1:es=es')(J:n=I):Q a es' c I N:=e1 ▸ J ▸ h
def Z2 (f:FuncId)(args:List PV)(l:List ByteArray)(n:Int):Prop:=∀(N:Nat) (Q:QT [.sl 0,.i]),(∀ a c N',N<=N'->Own N N' (.sl a 0 (zD l) c)->Q a (zD l) c n N')->ACalls prog f [.sl 0,.i] args N Q
theorem CX {nm ot:ByteArray}{t0 t1 r0 r1:D}{n:Nat}(hn:es.length=n):
  Z2 198 [.dg 9 (.ag [.j k,.t nm,.t ot,.j n0,t0,t1,r0,r1,.sl a 9 es c])] (bdN k nm ot n) (yB k n):=λN Q hQ=>by
 subst hn;have one:∀(x:ByteArray) (m:Int),bdN k nm ot es.length=[x]->yB k es.length=m->((1:Nat)=([D.t x]).length/\(1:Nat)=1)/\((1:Nat)=([D.t x]).length/\(1:Nat)=1)/\∀ a1 N1,N<=N1->Fresh N N1 a1 [D.ag [D.t x]]->∀ N2,N1<=N2->Q a1 [D.t x] 1 m N2:=λx m I U=>⟨⟨rfl,rfl⟩,⟨rfl,rfl⟩,λa1 N1 Y hf N2 J=>Qbd (hQ a1 1 N2 (by omega) (by rw[I];exact ri (l:=[x]) hf J)) (by rw[I];rfl) U⟩
 have aa:bdN k nm ot es.length=[nm,ot]->yB k es.length=0->((2:Nat)=([D.t nm,D.t ot]).length/\(2:Nat)=2)/\((2:Nat)=([D.t nm,D.t ot]).length/\(2:Nat)=2)/\∀ a1 N1,N<=N1->Fresh N N1 a1 [D.ag [D.t nm,D.t ot]]->∀ N2,N1<=N2->Q a1 [D.t nm,D.t ot] 2 0 N2:=λI U=>⟨⟨rfl,rfl⟩,⟨rfl,rfl⟩,λa1 N1 Y hf N2 J=>Qbd (hQ a1 2 N2 (by omega) (by rw[I];exact ri (l:=[nm,ot]) hf J)) (by rw[I];rfl) U⟩
 have nil:bdN k nm ot es.length=[]->yB k es.length = -1->((0:Nat)=0/\(0:Nat)=0)/\((0:Nat)=0/\(0:Nat)=0)/\∀ a1 N1,N<=N1->Fresh N N1 a1 [D.ag []]->∀ N2,N1<=N2->Q a1 [] 0 (-1) N2:=λI U=>⟨⟨rfl,rfl⟩,⟨rfl,rfl⟩,λa1 N1 Y hf N2 J=>Qbd (hQ a1 0 N2 (by omega) (by rw[I];exact ri (l:=[]) hf J)) (by rw[I];rfl) U⟩
 refine Iq N _ Q λ_=>⟨_,rfl,Br.beq (λh6=>⟨_,_,_,rfl,Br.beq (λI=>⟨_,rfl,?_⟩) λI=>?_⟩) λh6=>?_⟩
 ·exact one _ _ (by unfold bdN;rw[if_pos ⟨h6,by omega⟩]) (by unfold yB;rw[if_pos ⟨h6,by omega⟩])
 ·refine⟨_,rfl,Br.beq (λh8=>by omega) λh8=>⟨_,rfl,Br.beq (λO=>by omega) λO=>?_⟩⟩;exact nil (by unfold bdN;rw[if_neg (by omega),if_neg (by omega),if_neg (by omega)]) (by unfold yB;rw[if_neg (by omega),if_neg (by omega),if_neg (by omega)])
 ·refine⟨_,rfl,Br.beq (λh8=>⟨_,_,_,rfl,Br.beq (λI=>⟨_,rfl,?_⟩) λI=>?_⟩) λh8=>?_⟩
  ·exact one _ _ (by unfold bdN;rw[if_neg (by omega),if_pos ⟨h8,by omega⟩]) (by unfold yB;rw[if_neg (by omega),if_pos ⟨h8,by omega⟩])
  ·refine⟨_,rfl,Br.beq (λO=>by omega) λO=>?_⟩;exact nil (by unfold bdN;rw[if_neg (by omega),if_neg (by omega),if_neg (by omega)]) (by unfold yB;rw[if_neg (by omega),if_neg (by omega),if_neg (by omega)])
  ·refine⟨_,rfl,Br.beq (λO=>⟨_,_,_,rfl,Br.beq (λI=>⟨_,rfl,_,rfl,?_⟩) λI=>?_⟩) λO=>?_⟩
   ·exact aa (by unfold bdN;rw[if_neg (by omega),if_neg (by omega),if_pos ⟨O,by omega⟩]) (by unfold yB;rw[if_neg (by omega),if_neg (by omega),if_pos ⟨O,by omega⟩])
   ·exact nil (by unfold bdN;rw[if_neg (by omega),if_neg (by omega),if_neg (by omega)]) (by unfold yB;rw[if_neg (by omega),if_neg (by omega),if_neg (by omega)])
   ·exact nil (by unfold bdN;rw[if_neg (by omega),if_neg (by omega),if_neg (by omega)]) (by unfold yB;rw[if_neg (by omega),if_neg (by omega),if_neg (by omega)])
theorem Re (l m:List ByteArray):zD l++zD m=zD (l++m):=by simp[zD]
mutual
def Tm.vc:Tm->Nat
 | .mk k _ _ _ _ _ l=>if k=1 then 1 else A1 l
def A1:List Tm->Nat
 | []=>0
 | t::I=>t.vc+A1 I
end
theorem Jh:∀ {l:List Tm}{t:Tm},t∈l->t.vc<=A1 l
 | u::us,t,h=>by
   simp only[A1];rcases oH.1 h with rfl | h
   ·omega
   ·have:=Jh h;omega
mutual
theorem Tm.vc_cnt:∀ t:Tm,3*t.vc<=t.cnt
 | .mk k nm ot n ty re l=>by
   have:=Ty.cnt_pos ty
   have:=Ty.cnt_pos re
   have:=NR l
   simp only[Tm.vc,Tm.cnt]
   split<;>omega
theorem NR:∀ l:List Tm,3*A1 l<=zG l
 | []=>oD _
 | t::I=>by
   have:=Tm.vc_cnt t
   have:=NR I
   simp only[A1,zG];omega
end
mutual
theorem Tm.fv_len:∀ t:Tm,t.fv.length<=t.vc
 | .mk k nm ot n ty re l=>by
   simp only[Tm.fv,Tm.vc]
   split
   ·simp
   ·have:=NM l (yB k l.length) (bdN k nm ot l.length) 0 []
    simp at this;omega
theorem NM:∀(l:List Tm) (at_:Int) (ns:List ByteArray) (i:Nat) (out:List ByteArray),(AQ l at_ ns i out).length<=out.length+A1 l
 | [],_,_,_,out=>by simp[AQ]
 | x::xs,at_,ns,i,out=>by
   simp only[AQ,A1]
   have O:=NM xs at_ ns (i+1) (pG out (if(i:Int)=at_ then Ch ns x.fv else x.fv))
   have I:=Tm.fv_len x
   have U:(if(i:Int)=at_ then Ch ns x.fv else x.fv).length<=x.vc:=by
    split
    ·exact oP (mO _ _) I
    ·exact I
   have Y:(pG out (if(i:Int)=at_ then Ch ns x.fv else x.fv)).length<=out.length+(if(i:Int)=at_ then Ch ns x.fv else x.fv).length:=by
    unfold pG
    have a1:=Gb (dd [] out) (if(i:Int)=at_ then Ch ns x.fv else x.fv)
    have J:=Gb [] out
    simp at J;omega
   omega
end
def A0:List Tm->Nat
 | []=>0
 | t::I=>t.fv.length+A0 I
mutual
def Tm.wd:Tm->Nat
 | .mk k _ _ _ _ _ l=>if k=1 then 1 else max (A0 l) (DG l)
def DG:List Tm->Nat
 | []=>0
 | t::I=>max t.wd (DG I)
end
theorem K3:∀ {l:List Tm}{n:Nat},DG l<=n↔∀ x∈l,x.wd<=n
 | [],n=>by simp[DG]
 | t::I,n=>by simp only[DG,Nat.max_le,K3 (l:=I),oH,mD]
theorem EL (h:t∈l):t.wd<=DG l:=K3.1 (oD _) t h
theorem QQ:∀(l:List Tm)(at_:Int)(ns:List ByteArray)(i:Nat)(out:List ByteArray),(AQ l at_ ns i out).length<=out.length+A0 l
 | [],_,_,_,out=>by simp[AQ]
 | x::xs,at_,ns,i,out=>by
   simp only[AQ,A0];have J:=QQ xs at_ ns (i+1) (pG out (if(i:Int)=at_ then Ch ns x.fv else x.fv));have O:(if(i:Int)=at_ then Ch ns x.fv else x.fv).length<=x.fv.length:=by
    split
    ·exact mO _ _
    ·exact oD _
   have U:(pG out (if(i:Int)=at_ then Ch ns x.fv else x.fv)).length<=out.length+(if(i:Int)=at_ then Ch ns x.fv else x.fv).length:=by unfold pG;have a1:=Gb (dd [] out) (if(i:Int)=at_ then Ch ns x.fv else x.fv);have I:=Gb [] out;simp at I;omega
   omega
theorem Tm.fv_wd (t:Tm):t.fv.length<=t.wd:=by
 cases t with
 | mk k nm ot n ty re l=>
 simp only[Tm.fv,Tm.wd];split
 ·simp
 ·have:=QQ l (yB k l.length) (bdN k nm ot l.length) 0 []
  simp at this;omega
theorem QP:∀ l:List Tm,A0 l<=A1 l
 | []=>oD _
 | t::I=>by
   have:=QP I
   have:=t.fv_len
   simp only[A0,A1];omega
theorem Tm.wd_vc:∀ t:Tm,t.wd<=t.vc:=by
 refine Tm.ind λk nm ot n ty re l I=>?_;simp only[Tm.wd,Tm.vc];split
 ·exact oD _
 ·have J:=QP l;have O:DG l<=A1 l:=K3.2 λx hx=>oP (I x hx) (Jh hx);omega
theorem NW (a b:List ByteArray):(pG a b).length<=a.length+b.length:=by unfold pG;have a1:=Gb (dd [] a) b;have I:=Gb [] a;simp at I;omega
theorem ST (ns l:List ByteArray)(s:ByteArray):(Ch ns l).filter (λx=>decide (x≠s))=Ch (ns++[s]) l:=by unfold Ch;rw[List.filter_filter];congr 1;funext x;rw[mG];simp;exact And.comm
theorem KO (l:List ByteArray):Ch [] l=l:=by simp[Ch]
theorem uq:∀(t:Tm)(d:D),t.Is d->t.wd<=2199023255552->Ye 199 [.dg 9 d] t.fv:=by
 refine Tm.ind λk nm ot n0 ty re l ih d hd hG N Q hQ=>?_;obtain⟨t0,t1,r0,r1,a,es,c,rfl,hh,ak,al⟩:=Tm.is_mk.1 hd;have hl:=al.len;simp only[Tm.wd]at hG;refine Hj N _ Q λ_=>⟨_,rfl,Br.beq (λh1=>⟨_,rfl,⟨rfl,rfl⟩,⟨rfl,rfl⟩,λa1 N1 aw hf N2 am=>?_⟩) λh1 N3 a4=>CX (n:=l.length) (by omega) N3 _ λa3 c3 N4 a5 _ _ _=>?_⟩
 ·have e:(Tm.mk k nm ot n0 ty re l).fv=[nm]:=by simp[Tm.fv,h1]
  rw[e]at hQ;exact hQ _ _ _ (by omega) (ri (l:=[nm]) hf am)
 ·have e:(Tm.mk k nm ot n0 ty re l).fv=AQ l (yB k l.length) (bdN k nm ot l.length) 0 []:=by simp[Tm.fv,h1]
  rw[e]at hQ;rw[if_neg h1]at hG;have ba:A0 l<=2199023255552:=by omega
  have bb:DG l<=2199023255552:=by omega
  have ax:=GE k nm ot l.length;generalize bdN k nm ot l.length=ns at hQ ax ⊢;generalize yB k l.length=at_ at hQ ⊢;generalize hy:(D.ag [.j k,.t nm,.t ot,.j n0,t0,t1,r0,r1,.sl a 9 es c])=y;have ah:y.cell 8=.sl a 9 es c:=by rw[<-hy];rfl
  have bc:=zj ns;have inner:∀(i:Nat) (x:Tm) (out:List ByteArray) (q N1:Nat),N<=N1->out.length<=2199023255552->x.fv.length<=2199023255552 ->
    (∀ c N'',N1<=N''->yG Q N a3 (zD ns) c3 at_ (zD (pG out (if(i:Int)=at_ then Ch ns x.fv else x.fv))).length c (IntKind.i64.wrap (i+1)) y (zD (pG out (if(i:Int)=at_ then Ch ns x.fv else x.fv))) c N'') ->
    ∀ O U,Own N N1 (.sl O 0 (zD x.fv) U)->y9 Q N a3 (zD ns) c3 at_ (zD out).length q i O (zD x.fv) U 0 y (zD out) q N1:=λi x out q N1 aw ho hx hc O U h7=>by
   have fin:∀(Y:List ByteArray) (O:Option Addr) (U N':Nat),N1<=N'->Y=(if(i:Int)=at_ then Ch ns x.fv else x.fv) ->
     ((zD out).length=(zD out).length/\q=q)/\∀ ac,ApA ac (zD out)->Off [ac] (.sl O 0 (zD Y) U)->∀ N3,N'<=N3->wm N3 [ac]->ACalls prog 204 [.row 9 0] [.sv ac 0 (zD out) q,.sv O 0 (zD Y) U] N3 (λaa ao N4=>N3<=N4->Off [ac] (D.ag aa)/\(Bel N4 (D.ag aa)->yG Q N a3 (zD ns) c3 at_ aa.length ao (IntKind.i64.wrap (i+1)) y aa ao N4)):=λY O U N' ab J=>⟨⟨rfl,rfl⟩,λa9 _ _ N5 aq a2=>by
    have h5:Y.length<=2199023255552:=by
     rw[J];split
     ·exact oP (mO _ _) hx
     ·exact hx
    refine rK out Y ho h5 a9 O q U N5 _ λc8 N8 ay _=>⟨TJ _,λ_=>?_⟩
    subst J;exact hc _ _ (by omega)⟩
   refine up (um ns) (by omega) (λj xs=>∀(Y:List ByteArray) O U N',N1<=N'->Y=Ch (ns.take j) x.fv->((i:Int)≠at_->j=0)->y9 Q N a3 (zD ns) c3 at_ (zD out).length q i O (zD Y) U j y (zD out) q N') ?_ ?_ x.fv O U N1 (oD _) (by rw[my,KO]) (λ_=>rfl)
   ·intro j ai hj Y O U N' ab J I;refine sc ?_;rw[ai];refine fin Y O U N' ab ?_;rw[J,oX (by omega)];split
    ·rfl
    ·rename_i ae
     have:=I ae
     have:ns=[]:=oL (by omega);rw[this,KO]
   ·intro j s xs I _ aj Y O U N' ab J hj;have hb:=I.b;have hr:=I.r;refine sc ?_;rw[I.lt];refine Br.beq (λhe=>⟨⟨by omega,by omega⟩,s,?_,λN2 am=>KA Y ?_ O U s N2 _ λa8 c8 N8 ay _ _ _=>?_⟩) λae=>fin Y O U N' ab ?_
    ·rw[oI,hr]
    ·rw[J];exact oP (mO _ _) hx
    ·rw[I.w];refine aj _ _ _ _ (by omega) ?_ (λhc=>absurd he hc);rw[J,ST,zX I.g]
    ·rw[if_neg ae,J,hj ae,my,KO]
  refine up al ak (λi xs=>∀(out:List ByteArray) (q N':Nat),N<=N'->out.length+A0 xs<=A0 l->AQ xs at_ ns i out=AQ l at_ ns 0 []->yG Q N a3 (zD ns) c3 at_ (zD out).length q i y (zD out) q N') ?_ ?_ [] 0 N4 (by omega) (by simp) rfl
  ·intro i ai hi out q N' ab _ he;refine rX ⟨_,_,_,ah,?_⟩;rw[ai];simp only[AQ]at he;subst he;exact⟨⟨rfl,rfl⟩,⟨rfl,rfl⟩,⟨rfl,rfl⟩,λa1 N5 aq hf N6 au=>hQ _ _ _ (by omega) (ri hf au)⟩
  ·intro i x xs I _ aj out q N' ab az he;have hb:=I.b;simp only[A0]at az;have bg:=EL I.m;have bh:=NW out (if(i:Int)=at_ then Ch ns x.fv else x.fv);have bi:(if(i:Int)=at_ then Ch ns x.fv else x.fv).length<=x.fv.length:=by
    split
    ·exact mO _ _
    ·exact oD _
   refine rX ⟨_,_,_,ah,?_⟩;rw[I.lt];refine⟨_,_,_,ah,⟨by omega,by omega⟩,λN5 aq=>?_⟩;rw[oI];refine ih x I.m _ I.r (by omega) N5 _ λa6 c6 N6 au a0 _ _=>inner i x out q N6 (by omega) (by omega) (by omega) (λc N'' h1=>?_) a6 c6 (a0.mono (by omega) (oD _));rw[I.w];exact aj _ _ _ (by omega) (by omega) (by rw[<-he];rfl)
def WG (f:FuncId)(args:List PV)(s:ByteArray):Prop:=∀(N:Nat) (Q:QT [.str]),(∀ N',N<=N'->Q s N')->ACalls prog f [.str] args N Q
theorem Qst {Q:QT [.str]}{a b:ByteArray}(h:Q a N)(e:a=b):Q b N:=e ▸ h
def zAW (u:Nat):ByteArray:=⟨(Lib.decDigits u).toArray⟩
theorem Oa (u:Nat)(h:u<=4611686018427387904):Lib.nDigits u<=20:=by
 by_cases I:1<=u
 ·have:=Lib.numDigits_eq u I (by omega);split at this<;>omega
 ·rw[Lib.nDigits_small (by omega)];omega
theorem SY (u:Nat):(zAW u).size=Lib.nDigits u:=by show(Lib.decDigits u).toArray.size=_;rw[nM,Lib.decDigits_length]
theorem GD {a b:ByteArray}(h:a.data.toList=b.data.toList):a=b:=by cases a;cases b;simp at h;rw[h]
theorem WJ (a b:ByteArray):(a++b).data.toList=a.data.toList++b.data.toList:=by simp
theorem V8 (k:Nat):bytes [118]++zAW k=sF k:=GD (by rw[WJ];rfl)
theorem RZ (k:Nat)(h:k<=4611686018427387904):(sF k).size<=21:=by
 have:=Oa k h
 show(118::Lib.decDigits k).toArray.size<=21;rw[nM,oJ,Lib.decDigits_length];omega
theorem U5 (m:Nat)(s:ByteArray)(hs:∀ u,u<10->Lib.decDigits u=[UInt8.ofNat (48+u)]):(bytesOf [IntKind.u8.wrap (IntKind.i64.wrap (48+Int.tmod (m:Int) 10))]++s).data.toList=UInt8.ofNat (48+m % 10)::s.data.toList:=by
 rw[WJ];have e:IntKind.u8.wrap (IntKind.i64.wrap (48+Int.tmod (m:Int) 10))=((48+m % 10:Nat):Int):=by
  have:Int.tmod (m:Int) 10=((m % 10:Nat):Int):=by rw[mE (by omega)];omega
  rw[this,i64_in _ (by omega),IntKind.wrap_u8];omega
 rw[e];have I:bytesOf [((48+m % 10:Nat):Int)]=⟨#[UInt8.ofNat (48+m % 10)]⟩:=rfl;rw[I];rfl
theorem FD (u:Nat)(h:u<=4611686018427387904):WG 206 [.j u] (zAW u):=λN Q hQ=>by
 have e1:∀ u,u<10->Lib.decDigits u=[UInt8.ofNat (48+u)]:=λu h=>by rw[Lib.decDigits,dif_pos h]
 have e2:∀ u,¬u<10->Lib.decDigits u=Lib.decDigits (u / 10)++[UInt8.ofNat (48+u % 10)]:=λu h=>by rw[Lib.decDigits,dif_neg h]
 refine FZ N u Q (Br.beq (λh0 N1 Y=>?_) λh0=>?_)
 ·have:u=0:=by omega
  subst this;refine Qst (hQ _ Y) (GD ?_);show Lib.decDigits 0=[48];rw[e1 0 (by omega)];rfl
 ·rw [md (by omega)]
  have key:∀(m:Nat) (s:ByteArray),m<=u->s.size+Lib.nDigits m<=20\/(m=0/\s.size<=20)->(if m=0 then []else Lib.decDigits m)++s.data.toList=Lib.decDigits u->yz Q N m false s N:=by
   intro m
   induction m using Nat.strongRecOn with
   | _ m ih=>
     intro s hm O he;refine Cr ?_;refine Br.bne (λI=>?_) λI=>?_
     ·have I:m≠0:=by omega
      have ht:Int.tmod (m:Int) 10=((m % 10:Nat):Int):=by rw[mE (by omega)];omega
      have hd:Int.tdiv (m:Int) 10=((m / 10:Nat):Int):=by rw[Int.tdiv_eq_ediv_of_nonneg (by omega)];omega
      have O:s.size+Lib.nDigits m<=20:=by rcases O with U | ⟨U,_⟩;exact U;exact absurd U I
      refine⟨by omega,?_⟩;rw[md (by omega)];refine⟨by simp,[IntKind.u8.wrap (IntKind.i64.wrap (48+Int.tmod (m:Int) 10))],rfl,?_,by omega,?_⟩
      ·have:(bytesOf [IntKind.u8.wrap (IntKind.i64.wrap (48+Int.tmod (m:Int) 10))]).size=1:=rfl;omega
      ·rw[hd,i64_in _ (by omega)];refine ih (m / 10) (by omega) _ (by omega) ?_ ?_
       ·have U:(bytesOf [IntKind.u8.wrap (IntKind.i64.wrap (48+Int.tmod (m:Int) 10))]++s).size=1+s.size:=by rw[ByteArray.size_append];rfl
        by_cases J:m<10
        ·right
         have:=Lib.nDigits_pos m
         exact⟨by omega,by omega⟩
        ·left
         have:=Lib.nDigits_big J
         omega
       ·rw[U5 m s e1,<-he,if_neg I];by_cases J:m<10
        ·rw[if_pos (by omega),e1 m J,show m % 10=m by omega];rfl
        ·rw[if_neg (by omega),e2 m J];simp
     ·have:m=0:=by omega
      subst this;refine λN2 aa=>Qst (hQ _ aa) (GD ?_);rw[if_pos rfl]at he;exact he.symm
  refine key u (bytes []) (oD _) (.inl ?_) ?_
  ·have:=Oa u h
   show 0+_<=_;omega
  ·rw[if_neg (by omega)];exact ou _
theorem Q8 (l:List ByteArray)(P:Nat->Nat->Prop)(N:Nat)(F:ByteArray->Nat->Prop)(hF:∀ N',N<=N'->F (fresh l) N')(step:∀(k N':Nat),N<=N'->k<=l.length+1->(∀ N'',N'<=N''->sF k∈l->P (k+1) N'')->(∀ N'',N'<=N''->sF k∉l->F (sF k) N'')->P k N'):P 1 N:=by
 have key:∀(f k:Nat) (N':Nat),N<=N'->1<=k->k+f=l.length+1->(∀ j,1<=j->j<k->sF j∈l)->pX f k l=pX l.length 1 l->P k N':=by
  intro f
  induction f with
  | zero=>
    intro k N' J aa ab I O;refine step k N' J (by omega) (λN'' Y U=>?_) λN'' Y U=>?_
    ·exfalso
     have:=Wu l (k+1) (λj h4 h5=>by
      by_cases h6:j=k
      ·subst h6;exact U
      ·exact I j h4 (by omega)) (by omega)
     omega
    ·have:=hF N'' (by omega)
     unfold fresh at this;rw[<-O]at this;exact this
  | succ f ih=>
    intro k N' J aa ab I O;simp only[pX]at O;refine step k N' J (by omega) (λN'' Y U=>?_) λN'' Y U=>?_
    ·rw[if_pos U]at O;exact ih (k+1) N'' (by omega) (by omega) (by omega) (λj h4 h5=>by
      by_cases h6:j=k
      ·subst h6;exact U
      ·exact I j h4 (by omega)) O
    ·rw[if_neg U]at O
     have:=hF N'' (by omega)
     unfold fresh at this;rw[<-O]at this;exact this
 exact key l.length 1 N (oD _) (oD _) (by omega) (λj Y h2=>by omega) rfl
theorem FE (l:List ByteArray)(hl:l.length<=8796093022208)(a:Option Addr)(c:Nat):WG 205 [.sv a 0 (zD l) c] (fresh l):=λN Q O=>by
 refine Fa N a _ c Q λ_=>?_;refine Q8 l (λk N'=>xv Q N a (zD l) c k N') N (λs N'=>Q s N') O λk N' U hk J I=>?_;have Y:=Oa k (by omega);have aa:=SY k;refine Cs λN1 ab=>FD k (by omega) N1 _ λN2 ac _=>⟨by omega,λN3 ae=>?_⟩
 rw[V8];refine xG l (by omega) a c (sF k) N3 _ λN4 ah _=>?_;simp only[Gm];refine Br.dec (λh N5 ai=>I _ (by omega) h) λh=>?_;rw[i64_in _ (by omega)];exact J _ (by omega) (mU.1 h)
mutual
def Tm.V:Tm->Prop
 | .mk k _ _ _ _ _ l=>(k=1->l=[])/\Wt l
def Wt:List Tm->Prop
 | []=>True
 | t::I=>t.V/\Wt I
end
theorem su:∀ {l:List Tm},Wt l↔∀ x∈l,x.V
 | []=>by simp[Wt]
 | t::I=>by simp only[Wt,su (l:=I),oH,mD]
theorem uZ:∀ {l:List Tm}{n:Nat},ut l<=n↔∀ x∈l,x.dp<=n
 | [],n=>by simp[ut]
 | t::I,n=>by simp only[ut,Nat.max_le,uZ (l:=I),oH,mD]
structure LeT (t' t:Tm):Prop where
 c:t'.vc<=t.vc
 d:t'.dp<=t.dp
 v:t.V->t'.V
 g:t.G->t'.G
 s:t'.sz<=t.sz
 n:t'.cnt<=t.cnt
theorem LeT.rfl:LeT t t:=⟨oD _,oD _,id,id,oD _,oD _⟩
theorem LeT.trans {a b c:Tm}(h:LeT a b)(I:LeT b c):LeT a c:=⟨oP h.c I.c,oP h.d I.d,λhv=>h.v (I.v hv),λhv=>h.g (I.g hv),oP h.s I.s,oP h.n I.n⟩
theorem Pp:∀ {l' l:List Tm},l'.length=l.length->(∀(i:Nat)(t' t:Tm),l'[i]?=some t'->l[i]?=some t->LeT t' t)->A1 l'<=A1 l/\ut l'<=ut l/\(Wt l->Wt l')/\(QR l->QR l')/\yI l'<=yI l/\zG l'<=zG l
 | [],[],_,_=>⟨oD _,oD _,id,id,oD _,oD _⟩
 | [],_::_,h,_=>by simp at h
 | _::_,[],h,_=>by simp at h
 | t'::J,t::O,h,hr=>by
   obtain⟨h1,h2,U,Y,h5,h6⟩:=Pp (l':=J) (l:=O) (by simpa using h) λi a b ha hb=>hr (i+1) a b (by simpa using ha) (by simpa using hb);have I:=hr 0 t' t (by simp) (by simp)
   have:=I.c
   have:=I.d
   have:=I.s
   have:=I.n
   refine⟨by simp only[A1];omega,by simp only[ut];omega,λhv=>⟨I.v hv.1,U hv.2⟩,λhv=>⟨I.g hv.1,Y hv.2⟩,by simp only[yI];omega,by simp only[zG];omega⟩
theorem EH {g:Tm->Tm}{v t':Tm}(h:((l.map g).set j v)[i]?=some t')(J:l[i]?=some t):(i=j/\t'=v)\/(i≠j/\t'=g t):=by
 rw[nR]at h;split at h
 ·rename_i I;split at h
  ·exact .inl ⟨I.symm,(oU h).symm⟩
  ·cases h
 ·rename_i I;rw[oG,J]at h;exact .inr ⟨λhc=>I hc.symm,(oU h).symm⟩
theorem S4 {nm ot I J:ByteArray}{l':List Tm}(hk:k≠1)(h:l'.length=l.length)(hr:∀(i:Nat)(t' t:Tm),l'[i]?=some t'->l[i]?=some t->LeT t' t):LeT (.mk k I J n ty re l') (.mk k nm ot n ty re l):=by obtain⟨Y,h2,O,U,h5,h6⟩:=Pp h hr;exact⟨by simp only[Tm.vc,if_neg hk];omega,by simp only[Tm.dp];omega,λhv=>⟨λhc=>absurd hc hk,O hv.2⟩,λhv=>⟨hv.1,hv.2.1,h ▸ hv.2.2.1,U hv.2.2.2⟩,by simp only[Tm.sz];omega,by simp only[Tm.cnt];omega⟩
theorem Bl (I:∀ t x y,LeT (S t x (ru y)) t)(k:Int)(n:Nat)(fb:List ByteArray)(x old:ByteArray)(s:ByteArray × ByteArray × Tm):LeT (rn1 S k n fb x old s).2.2 s.2.2:=by
 unfold rn1;split
 ·split
  ·exact I _ _ _
  ·exact I _ _ _
 ·exact LeT.rfl
theorem AO (I:∀ t x y,LeT (S t x (ru y)) t)(k:Int)(n:Nat)(fb:List ByteArray)(x:ByteArray):∀(l:List ByteArray)(s:ByteArray × ByteArray × Tm),LeT (rns S k n fb x l s).2.2 s.2.2
 | [],s=>LeT.rfl
 | old::l,s=>(AO I k n fb x l _).trans (Bl I k n fb x old s)
theorem uA:∀(f:Nat)(t:Tm)(x y:ByteArray),LeT (t.sub f x (ru y)) t
 | 0,t,x,y=>by simp only[Tm.sub];exact LeT.rfl
 | f + 1,.mk k nm ot n ty re l,x,y=>by
   have U:=uA f;simp only[Tm.sub];split
   ·rename_i hk;split
    ·exact⟨by simp only[ru,Tm.vc,if_pos hk,nj];exact oD _,by simp only[ru,Tm.dp,ut];omega,λ_=>⟨λ_=>rfl,trivial⟩,λ_=>by simp[ru,Tm.G,QR,Ty.cnt,zN],by simp only[ru,Tm.sz,yI];omega,by have:=Ty.cnt_pos ty;have:=Ty.cnt_pos re;simp only[ru,Tm.cnt,zG,Ty.cnt,zN];omega⟩
    ·exact LeT.rfl
   ·rename_i hk;split
    ·refine S4 hk (by simp) λi t' t I J=>?_;rw[oG,J]at I;cases I;exact U t x y
    ·rename_i hb;obtain⟨g1,g2⟩:=w7 hb;split
     ·refine S4 hk (by simp) λi t' t I J=>?_;rcases EH I J with⟨Y,O⟩ | ⟨Y,O⟩
      ·rw[Y,yC g1]at J;rw[O,<-oU J];exact LeT.rfl
      ·rw[O];exact U t x y
     ·refine S4 hk (by simp) λi t' t I J=>?_;rcases EH I J with⟨Y,O⟩ | ⟨Y,O⟩
      ·rw[Y,yC g1]at J;rw[O,<-oU J];exact(U _ x y).trans (AO U _ _ _ _ _ _)
      ·rw[O];exact U t x y
theorem X6:∀(f:Nat) (t:Tm) (x:ByteArray) (b:Tm),t.G->b.G->(t.sub f x b).G
 | 0,t,x,b,h,_=>by simp only[Tm.sub];exact h
 | f + 1,.mk k nm ot n ty re l,x,b,h,U=>by
   have I:=X6 f;obtain⟨Y,h2,h3,h4⟩:=h;have vG:∀ y,(ru y).G:=λy=>by simp[ru,Tm.G,QR,Ty.cnt,zN]
   simp only[Tm.sub];split
   ·split
    ·exact U
    ·exact⟨Y,h2,h3,h4⟩
   ·split
    ·refine⟨Y,h2,by simpa using h3,HM λy J=>?_⟩;obtain⟨z,hz,rfl⟩:=oT.1 J;exact I z x b (yb h4 hz) U
    ·rename_i aa;obtain⟨g1,g2⟩:=w7 aa;have O:=yb h4 (oA (yC g1));have key:∀ v:Tm,v.G->QR ((l.map λt=>Tm.sub f t x b).set (yB k l.length).toNat v):=λv hv=>HM λy J=>by
      rcases nA J with J | rfl
      ·obtain⟨z,hz,rfl⟩:=oT.1 J;exact I z x b (yb h4 hz) U
      ·exact hv
     split
     ·exact⟨Y,h2,by simpa using h3,key _ O⟩
     ·refine⟨Y,h2,by simpa using h3,key _ (I _ x b ?_ U)⟩;have r1:∀(old:ByteArray) (s:ByteArray × ByteArray × Tm),s.2.2.G->(rn1 (Tm.sub f) k l.length b.fv x old s).2.2.G:=λold s hs=>by
       unfold rn1;split
       ·split
        ·exact I _ _ _ hs (vG _)
        ·exact I _ _ _ hs (vG _)
       ·exact hs
      have rs:∀(ns:List ByteArray) (s:ByteArray × ByteArray × Tm),s.2.2.G->(rns (Tm.sub f) k l.length b.fv x ns s).2.2.G:=by
       intro ns
       induction ns with
       | nil=>exact λs hs=>hs
       | cons o os ab=>exact λs hs=>ab _ (r1 o s hs)
      exact rs _ _ O
theorem X7:∀(f:Nat)(t:Tm)(x:ByteArray)(b:Tm),t.V->b.V->(t.sub f x b).V
 | 0,t,x,b,h,_=>by simp only[Tm.sub];exact h
 | f + 1,.mk k nm ot n ty re l,x,b,h,Y=>by
   have ih:=X7 f;obtain⟨h1,J⟩:=h;have J:=su.1 J;simp only[Tm.sub];split
   ·split
    ·exact Y
    ·exact⟨h1,su.2 J⟩
   ·rename_i hk;have I:∀ l':List Tm,k=1->l'=[]:=λ_ hc=>absurd hc hk;split
    ·refine⟨I _,su.2 λy O=>?_⟩;obtain⟨z,hz,rfl⟩:=oT.1 O;exact ih z x b (J z hz) Y
    ·rename_i aa;obtain⟨g1,g2⟩:=w7 aa;have U:=J _ (oA (yC g1));have key:∀ v:Tm,v.V->Wt ((l.map λt=>Tm.sub f t x b).set (yB k l.length).toNat v):=λv hv=>su.2 λy O=>by
      rcases nA O with O | rfl
      ·obtain⟨z,hz,rfl⟩:=oT.1 O;exact ih z x b (J z hz) Y
      ·exact hv
     split
     ·exact⟨I _,key _ U⟩
     ·exact⟨I _,key _ (ih _ x b ((AO (uA f) _ _ _ _ _ _).v U) Y)⟩
theorem Dh {nm ot:ByteArray}{n:Nat}{z:ByteArray}:z∈bdN k nm ot n↔(k=6/\n=1\/k=8/\n=2\/k=9/\n=1)/\z=nm\/(k=9/\n=1)/\z=ot:=by
 unfold bdN;by_cases I:k=6/\n=1
 ·rw[if_pos I];simp[I.1,I.2]
 ·rw[if_neg I];by_cases J:k=8/\n=2
  ·rw[if_pos J];simp[J.1,J.2]
  ·rw[if_neg J];by_cases O:k=9/\n=1
   ·rw[if_pos O];simp[O.1,O.2]
   ·rw[if_neg O];simp[I,J,O]
def FvS (f:Nat):Prop:=∀(t:Tm) (x:ByteArray) (b:Tm),t.dp<=f->∀ s∈(t.sub f x b).fv,(s∈t.fv/\s≠x)\/(s∈b.fv/\x∈t.fv)
theorem Th (hS:FvS f){n:Nat}{old:ByteArray}{s:ByteArray × ByteArray × Tm}(hd:s.2.2.dp<=f)(hk:k=6/\n=1\/k=8/\n=2\/k=9/\n=1)(I:old=s.1\/(k=9/\n=1)/\old=s.2.1):
  ∀ z∈(rn1 (Tm.sub f) k n fb x old s).2.2.fv,z∉bdN k (rn1 (Tm.sub f) k n fb x old s).1 (rn1 (Tm.sub f) k n fb x old s).2.1 n->z∈s.2.2.fv/\z∉bdN k s.1 s.2.1 n:=by
 intro z;unfold rn1;by_cases h1:old∈fb
 ·rw [if_pos h1];by_cases O:s.1=old
  ·rw[if_pos O];simp only;intro J hn;rcases hS _ _ _ hd z J with⟨a1,U⟩ | ⟨a1,_⟩
   ·refine⟨a1,λhc=>?_⟩;rcases Dh.1 hc with⟨_,c1⟩ | ⟨Y,c1⟩
    ·exact U (c1.trans O)
    ·exact hn (Dh.2 (.inr ⟨Y,c1⟩))
   ·rw[LE,oW]at a1;exact absurd (Dh.2 (.inl ⟨hk,a1⟩)) hn
  ·rw[if_neg O];simp only;intro J hn;rcases I with I | ⟨h9,I⟩
   ·exact absurd I.symm O
   ·rcases hS _ _ _ hd z J with⟨a1,U⟩ | ⟨a1,_⟩
    ·refine⟨a1,λhc=>?_⟩;rcases Dh.1 hc with⟨Y,c1⟩ | ⟨_,c1⟩
     ·exact hn (Dh.2 (.inl ⟨Y,c1⟩))
     ·exact U (c1.trans I.symm)
    ·rw[LE,oW]at a1;exact absurd (Dh.2 (.inr ⟨h9,a1⟩)) hn
 ·rw[if_neg h1];exact λJ hn=>⟨J,hn⟩
theorem Xz {n:Nat}{s:ByteArray × ByteArray × Tm}:(rn1 S k n fb x s.1 s).2.1=s.2.1:=by
 unfold rn1;split
 ·rw[if_pos rfl]
 ·rfl
theorem X1 (hS:FvS f){n:Nat}{nm ot:ByteArray}(hd:p.dp<=f)(hk:k=6/\n=1\/k=8/\n=2\/k=9/\n=1):
  ∀ z∈(rns (Tm.sub f) k n fb x (bdN k nm ot n) (nm,ot,p)).2.2.fv,z∉bdN k (rns (Tm.sub f) k n fb x (bdN k nm ot n) (nm,ot,p)).1 (rns (Tm.sub f) k n fb x (bdN k nm ot n) (nm,ot,p)).2.1 n->z∈p.fv/\z∉bdN k nm ot n:=by
 have one:=Th hS (fb:=fb) (x:=x) (old:=nm) (s:=(nm,ot,p)) hd hk (.inl rfl);by_cases I:k=9/\n=1
 ·have e:bdN k nm ot n=[nm,ot]:=by rw[I.1,I.2];rfl
  intro z;rw[e];simp only[rns];have J:(rn1 (Tm.sub f) k n fb x nm (nm,ot,p)).2.2.dp<=f:=oP (Bl (uA f) k n fb x nm (nm,ot,p)).d hd;have O:=Th hS (fb:=fb) (x:=x) (old:=ot) (s:=rn1 (Tm.sub f) k n fb x nm (nm,ot,p)) J hk (.inr ⟨I,(Xz (s:=(nm,ot,p))).symm⟩);intro U hn;obtain⟨a1,a2⟩:=O z U hn
  have:=one z a1 a2
  rwa[e]at this
 ·have e:bdN k nm ot n=[nm]:=by
   unfold bdN;by_cases Y:k=6/\n=1
   ·rw[if_pos Y]
   ·rw[if_neg Y,if_pos (by rcases hk with h | h | h;exact absurd h Y;exact h;exact absurd h I)]
  intro z;rw[e];simp only[rns];intro U hn
  have:=one z U hn
  rwa[e]at this
theorem Rw {n:Nat}(h:¬yB k n<0):k=6/\n=1\/k=8/\n=2\/k=9/\n=1:=by
 rcases wR k n with J | ⟨J,I,h3 | h3⟩ | ⟨J,I,h3⟩
 ·omega
 ·exact .inl ⟨h3,I⟩
 ·exact .inr (.inr ⟨h3,I⟩)
 ·exact .inr (.inl ⟨h3,I⟩)
theorem OS (hk:k≠1){nm ot:ByteArray}(I:l[j]?=some p)(hs:s∈fvI (yB k l.length) (bdN k nm ot l.length) j p):s∈(Tm.mk k nm ot n ty re l).fv:=
 Tm.fv_mem.2 (.inr ⟨hk,j,p,I,hs⟩)
theorem Bf {ns:List ByteArray}{x:Tm}(h:(i:Int)≠at_):fvI at_ ns i x=x.fv:=if_neg h
theorem Pf {ns:List ByteArray}{x:Tm}(h:(i:Int)=at_):fvI at_ ns i x=Ch ns x.fv:=if_pos h
theorem Su:∀ f,FvS f
 | 0=>λt x b hd=>absurd (Tm.dp_pos t) (by omega)
 | f + 1 => λt x b hd s=>by
   have ih:=Su f;cases t with
   | mk k nm ot n ty re l=>
   simp only[Tm.dp]at hd;have hp:∀ y∈l,y.dp<=f:=λy I=>oP (tJ I) (by omega);simp only[Tm.sub];split
   ·rename_i hk;split
    ·rename_i hn;intro hs;exact .inr ⟨hs,by simp[Tm.fv,hk,hn]⟩
    ·rename_i hn;intro hs;simp only[Tm.fv,if_pos hk,oW]at hs ⊢;exact .inl ⟨hs,λhc=>hn (hs ▸ hc)⟩
   ·rename_i hk;split
    ·rename_i hb;intro hs;rcases Tm.fv_mem.1 hs with⟨h,_⟩ | ⟨_,j,y,J,I⟩
     ·exact absurd h hk
     ·rw[om,Bf (by omega)]at I;rw[oG]at J;obtain⟨z,hz,rfl⟩:=lV.1 J;have hm:=oA hz;rcases ih z x b (hp z hm) s I with⟨a1,Y⟩ | ⟨a1,Y⟩
      ·exact .inl ⟨OS hk hz (by rw[Bf (by omega)];exact a1),Y⟩
      ·exact .inr ⟨a1,OS hk hz (by rw[Bf (by omega)];exact Y)⟩
    ·rename_i hb;obtain⟨g1,g2⟩:=w7 hb;have O:=yC g1;have ah:=Rw hb;have aa:∀(v:Tm) (j:Nat) (y:Tm),j≠(yB k l.length).toNat->((l.map λt=>Tm.sub f t x b).set (yB k l.length).toNat v)[j]?=some y->s∈y.fv->(s∈(Tm.mk k nm ot n ty re l).fv/\s≠x)\/(s∈b.fv/\x∈(Tm.mk k nm ot n ty re l).fv):=by
      intro v j y ak J I;rw[nJ (by omega),oG]at J;obtain⟨z,hz,rfl⟩:=lV.1 J;have hm:=oA hz;rcases ih z x b (hp z hm) s I with⟨a1,Y⟩ | ⟨a1,Y⟩
      ·exact .inl ⟨OS hk hz (by rw[Bf (by omega)];exact a1),Y⟩
      ·exact .inr ⟨a1,OS hk hz (by rw[Bf (by omega)];exact Y)⟩
     split
     ·rename_i hx;intro hs;rcases Tm.fv_mem.1 hs with⟨h,_⟩ | ⟨_,j,y,J,I⟩
      ·exact absurd h hk
      ·rw[nZ,om]at I;by_cases U:j=(yB k l.length).toNat
       ·subst U;rw[nV (by simpa using g1)]at J;cases J;refine .inl ⟨OS hk O I,?_⟩;rw[Pf g2,xc]at I
        rintro rfl
        rcases hx with hx | hx
        ·exact I.2 hx
        ·exact hx I.1
       ·rw[Bf (by omega)]at I;exact aa _ j y U J I
     ·rename_i hx;have ai:x∉bdN k nm ot l.length:=λh=>hx (.inl h);have ab:x∈(l.getD (yB k l.length).toNat tm0).fv:=mU.1 λh=>hx (.inr h);generalize l.getD (yB k l.length).toNat tm0=p at O ab;have ac:=hp p (oA O);have hR:=X1 ih (fb:=b.fv) (x:=x) (nm:=nm) (ot:=ot) ac ah;have ae:=AO (uA f) k l.length b.fv x (bdN k nm ot l.length) (nm,ot,p);generalize rns (Tm.sub f) k l.length b.fv x (bdN k nm ot l.length) (nm,ot,p)=T at hR ae;have aj:T.2.2.dp<=f:=oP ae.d ac;intro hs;rcases Tm.fv_mem.1 hs with⟨h,_⟩ | ⟨_,j,y,J,I⟩
      ·exact absurd h hk
      ·rw[nZ,om]at I;by_cases U:j=(yB k l.length).toNat
       ·subst U;rw[nV (by simpa using g1)]at J;cases J;rw[Pf g2,xc]at I;rcases ih T.2.2 x b aj s I.1 with⟨a1,Y⟩ | ⟨a1,_⟩
        ·obtain⟨c1,c2⟩:=hR s a1 I.2;exact .inl ⟨OS hk O (by rw[Pf g2];exact xc.2 ⟨c1,c2⟩),Y⟩
        ·exact .inr ⟨a1,OS hk O (by rw[Pf g2];exact xc.2 ⟨ab,ai⟩)⟩
       ·rw[Bf (by omega)]at I;exact aa _ j y U J I
theorem XY {y:ByteArray}(hd:t.dp<=f):(t.sub f x (ru y)).fv.length<=t.fv.length:=by
 by_cases hx:x∈t.fv
 ·have I:=Ki (Tm.fv_nodup (t.sub f x (ru y))) (m:=y::t.fv.filter λz=>decide (z≠x)) λs hs=>by
   rcases Su f t x (ru y) hd s hs with⟨a1,J⟩ | ⟨a1,_⟩
   ·exact nz _ (nW.2 ⟨a1,by simp[J]⟩)
   ·rw[LE,oW]at a1;rw[a1];exact nf
  have O:=lD (p:=λz=>decide (z≠x)).2 ⟨x,hx,by simp⟩;simp only[oJ]at I;omega
 ·rw[T7 f t x _ hx];exact oD _
theorem XX {b:Tm}(hd:t.dp<=f):(t.sub f x b).fv.length<=t.fv.length+b.fv.length:=by
 have I:=Ki (Tm.fv_nodup (t.sub f x b)) (m:=t.fv++b.fv) λs hs=>by
  rcases Su f t x b hd s hs with⟨a1,_⟩ | ⟨a1,_⟩
  ·exact ol _ a1
  ·exact nP _ a1
 simpa using I
structure LeW (t' t:Tm):Prop where
 le:LeT t' t
 w:t'.wd<=t.wd
 l:t'.fv.length<=t.fv.length
theorem LeW.rfl:LeW t t:=⟨LeT.rfl,oD _,oD _⟩
theorem LeW.trans {a b c:Tm}(h:LeW a b)(I:LeW b c):LeW a c:=⟨h.le.trans I.le,oP h.w I.w,oP h.l I.l⟩
theorem UM {m n:Nat}:∀ {l' l:List Tm},l'.length=l.length->(∀(i:Nat)(t' t:Tm),l'[i]?=some t'->l[i]?=some t->t'.wd<=t.wd+n/\t'.fv.length<=t.fv.length+m)->DG l'<=DG l+n/\A0 l'<=A0 l+l.length*m
 | [],[],_,_=>⟨by simp[DG],by simp[A0]⟩
 | [],_::_,h,_=>by simp at h
 | _::_,[],h,_=>by simp at h
 | t'::I,t::J,h,hr=>by obtain⟨Y,h2⟩:=UM (m:=m) (n:=n) (l':=I) (l:=J) (by simpa using h) λi a b O U=>hr (i+1) a b (by simpa using O) (by simpa using U);obtain⟨h3,h4⟩:=hr 0 t' t (by simp) (by simp);refine⟨by simp only[DG];omega,?_⟩;simp only[A0,oJ,nG];omega
theorem Xy (I:∀ t x y,t.dp<=f->LeW (t.sub f x (ru y)) t)(k:Int)(n:Nat)(fb:List ByteArray)(x old:ByteArray)(s:ByteArray × ByteArray × Tm)(hd:s.2.2.dp<=f):LeW (rn1 (Tm.sub f) k n fb x old s).2.2 s.2.2:=by
 unfold rn1;split
 ·split
  ·exact I _ _ _ hd
  ·exact I _ _ _ hd
 ·exact LeW.rfl
theorem Ov (I:∀ t x y,t.dp<=f->LeW (t.sub f x (ru y)) t)(k:Int)(n:Nat)(fb:List ByteArray)(x:ByteArray):∀(l:List ByteArray)(s:ByteArray × ByteArray × Tm),s.2.2.dp<=f->LeW (rns (Tm.sub f) k n fb x l s).2.2 s.2.2
 | [],s,_=>LeW.rfl
 | old::l,s,hd=>by have J:=Xy I k n fb x old s hd;exact(Ov I k n fb x l _ (oP J.le.d hd)).trans J
theorem Zb {P:Tm->Prop}(I:∀ t x y,P t->P (t.sub f x (ru y)))(k:Int)(n:Nat)(fb:List ByteArray)(x:ByteArray):∀(l:List ByteArray)(s:ByteArray × ByteArray × Tm),P s.2.2->P (rns (Tm.sub f) k n fb x l s).2.2
 | [],s,h=>h
 | old::l,s,h=>by
   refine Zb I k n fb x l _ ?_;unfold rn1;split
   ·split
    ·exact I _ _ _ h
    ·exact I _ _ _ h
   ·exact h
theorem UL {P:Tm->Prop}(hP:∀ t x y,P t->P (t.sub f x (ru y))){b:Tm}{m n:Nat}(ab:∀ t:Tm,t.dp<=f->P t->(t.sub f x b).wd<=t.wd+n/\(t.sub f x b).fv.length<=t.fv.length+m)(hv:∀ t x y,t.dp<=f->LeW (t.sub f x (ru y)) t){nm ot:ByteArray}(hk:k≠1)(hd:∀ y∈l,y.dp<=f)(hp:∀ y∈l,P y):((Tm.mk k nm ot n0 ty re l).sub (f+1) x b).wd<=max (A0 l+l.length*m) (DG l+n):=by
 have fin:∀(ac ae:ByteArray) (l':List Tm),l'.length=l.length->(∀(i:Nat) (t' t:Tm),l'[i]?=some t'->l[i]?=some t->t'.wd<=t.wd+n/\t'.fv.length<=t.fv.length+m)->(Tm.mk k ac ae n0 ty re l').wd<=max (A0 l+l.length*m) (DG l+n):=λac ae l' Y O=>by obtain⟨a1,a2⟩:=UM Y O;simp only[Tm.wd,if_neg hk];omega
 have at_:∀ {i:Nat} {t:Tm},l[i]?=some t->(t.sub f x b).wd<=t.wd+n/\(t.sub f x b).fv.length<=t.fv.length+m:=λh=>ab _ (hd _ (oA h)) (hp _ (oA h));simp only[Tm.sub];rw[if_neg hk];split
 ·refine fin _ _ _ (by simp) λi t' t I J=>?_;rw[oG,J]at I;cases I;exact at_ J
 ·rename_i hb;obtain⟨g1,g2⟩:=w7 hb;have U:=yC g1;split
  ·refine fin _ _ _ (by simp) λi t' t I J=>?_;rcases EH I J with⟨Y,O⟩ | ⟨Y,O⟩
   ·rw[Y,U]at J;rw[O,<-oU J];exact⟨by omega,by omega⟩
   ·rw[O];exact at_ J
  ·have ah:=hd _ (oA U);have aa:=Ov hv k l.length b.fv x (bdN k nm ot l.length) (nm,ot,l.getD (yB k l.length).toNat tm0) ah;refine fin _ _ _ (by simp) λi t' t I J=>?_;rcases EH I J with⟨Y,O⟩ | ⟨Y,O⟩
   ·rw[Y,U]at J;rw[O,<-oU J];obtain⟨c1,c2⟩:=ab _ (oP aa.le.d ah) (Zb hP _ _ _ _ _ _ (hp _ (oA U)));have w1:(rns (Tm.sub f) k l.length b.fv x (bdN k nm ot l.length) (nm,ot,l.getD (yB k l.length).toNat tm0)).2.2.wd<=(l.getD (yB k l.length).toNat tm0).wd:=aa.w;have w2:(rns (Tm.sub f) k l.length b.fv x (bdN k nm ot l.length) (nm,ot,l.getD (yB k l.length).toNat tm0)).2.2.fv.length<=(l.getD (yB k l.length).toNat tm0).fv.length:=aa.l;exact⟨by omega,by omega⟩
   ·rw[O];exact at_ J
theorem Bo:∀(f:Nat)(t:Tm)(x y:ByteArray),t.dp<=f->LeW (t.sub f x (ru y)) t
 | 0,t,x,y,h=>absurd (Tm.dp_pos t) (by omega)
 | f+1,.mk k nm ot n ty re l,x,y,h=>by
   refine⟨uA _ _ _ _,?_,XY h⟩;simp only[Tm.dp]at h;have I:ut l<=f:=by omega
   by_cases hk:k=1
   ·simp only[Tm.sub,if_pos hk];split
    ·simp[ru,Tm.wd,hk]
    ·exact oD _
   ·have:=UL (P:=λ_=>True) (λ_ _ _ _=>trivial) (m:=0) (n:=0) (λt J _=>⟨(Bo f t x y J).w,(Bo f t x y J).l⟩) (Bo f) (nm:=nm) (ot:=ot) (n0:=n) (ty:=ty) (re:=re) hk (λz O=>oP (tJ O) I) λ_ _=>trivial
    simp only[Tm.wd,if_neg hk];omega
mutual
def Tm.A3:Tm->Prop
 | .mk _ _ _ _ _ _ l=>l.length<=3/\NL l
def NL:List Tm->Prop
 | []=>True
 | t::I=>t.A3/\NL I
end
theorem t4:∀ {l:List Tm},NL l↔∀ x∈l,x.A3
 | []=>by simp[NL]
 | t::I=>by simp only[NL,t4 (l:=I),oH,mD]
theorem Wp:∀(f:Nat) (t:Tm) (x:ByteArray) (b:Tm),t.A3->b.A3->(t.sub f x b).A3
 | 0,t,x,b,h,_=>by simp only[Tm.sub];exact h
 | f + 1,.mk k nm ot n ty re l,x,b,h,Y=>by
   have J:=Wp f;obtain⟨h1,I⟩:=h;have I:=t4.1 I;have vA:∀ y,(ru y).A3:=λy=>by simp[ru,Tm.A3,NL]
   simp only[Tm.sub];split
   ·split
    ·exact Y
    ·exact⟨h1,t4.2 I⟩
   ·split
    ·refine⟨by simpa using h1,t4.2 λy O=>?_⟩;obtain⟨z,hz,rfl⟩:=oT.1 O;exact J z x b (I z hz) Y
    ·rename_i aa;obtain⟨g1,g2⟩:=w7 aa;have U:=I _ (oA (yC g1));have key:∀ v:Tm,v.A3->NL ((l.map λt=>Tm.sub f t x b).set (yB k l.length).toNat v):=λv hv=>t4.2 λy O=>by
      rcases nA O with O | rfl
      ·obtain⟨z,hz,rfl⟩:=oT.1 O;exact J z x b (I z hz) Y
      ·exact hv
     split
     ·exact⟨by simpa using h1,key _ U⟩
     ·refine⟨by simpa using h1,key _ (J _ x b ?_ Y)⟩;have r1:∀(old:ByteArray) (s:ByteArray × ByteArray × Tm),s.2.2.A3->(rn1 (Tm.sub f) k l.length b.fv x old s).2.2.A3:=λold s hs=>by
       unfold rn1;split
       ·split
        ·exact J _ _ _ hs (vA _)
        ·exact J _ _ _ hs (vA _)
       ·exact hs
      have rs:∀(ns:List ByteArray) (s:ByteArray × ByteArray × Tm),s.2.2.A3->(rns (Tm.sub f) k l.length b.fv x ns s).2.2.A3:=by
       intro ns
       induction ns with
       | nil=>exact λs hs=>hs
       | cons o os ab=>exact λs hs=>ab _ (r1 o s hs)
      exact rs _ _ U
theorem Wr:∀(f:Nat)(t:Tm)(x:ByteArray)(b:Tm),t.dp<=f->t.A3->(t.sub f x b).wd<=t.wd+(3*b.fv.length+b.wd)
 | 0,t,x,b,h,_=>absurd (Tm.dp_pos t) (by omega)
 | f+1,.mk k nm ot n ty re l,x,b,h,Y=>by
   obtain⟨h1,J⟩:=Y;have J:=t4.1 J;simp only[Tm.dp]at h;have O:ut l<=f:=by omega
   by_cases hk:k=1
   ·simp only[Tm.sub,if_pos hk];split
    ·omega
    ·omega
   ·have:=UL (P:=Tm.A3) (λt x y I=>Wp f t x _ I (by simp[ru,Tm.A3,NL])) (m:=b.fv.length) (n:=3*b.fv.length+b.wd) (λt I U=>⟨Wr f t x b I U,XX I⟩) (Bo f) (nm:=nm) (ot:=ot) (n0:=n) (ty:=ty) (re:=re) hk (λz hz=>oP (tJ hz) O) J
    have h3:l.length*b.fv.length<=3*b.fv.length:=oc _ h1;simp only[Tm.wd,if_neg hk];omega
structure Tm.Z (t:Tm):Prop where
 g:t.G
 c:t.wd<=2199023255552
 v:t.V
theorem Tm.Z.mem {nm ot:ByteArray}(h:(Tm.mk k nm ot n ty re l).Z):∀ y∈l,y.Z:=λy I=>by
 have hc:=h.c
 have:=EL I
 simp only[Tm.wd]at hc;split at hc
 ·rename_i hk;rw[h.v.1 hk]at I;simp at I
 ·exact⟨yb h.g.2.2.2 I,by omega,su.1 h.v.2 y I⟩
theorem LeW.z {t':Tm}(h:LeW t' t)(I:t.Z):t'.Z:=⟨h.le.g I.g,oP h.w I.c,h.le.v I.v⟩
theorem Zp (s:ByteArray):(ru s).Z:=⟨by simp[ru,Tm.G,QR,Ty.cnt,zN],by simp only[ru,Tm.wd,nj];omega,λ_=>rfl,trivial⟩
def RF (k n:Int):Tm:=.mk k (bytes []) (bytes []) n (.mk 0 []) (.mk 0 []) []
def Tm.kd:Tm->Int | .mk k _ _ _ _ _ _=>k
def Tm.no:Tm->Int | .mk _ _ _ n _ _ _=>n
def Tm.nm:Tm->ByteArray | .mk _ nm _ _ _ _ _=>nm
def Tm.ot:Tm->ByteArray | .mk _ _ ot _ _ _ _=>ot
def Tm.pt:Tm->Nat->Tm | .mk _ _ _ _ _ _ l,i=>l.getD i tm0
def Tm.wth:Tm->Nat->Tm->Tm | .mk k nm ot n ty re l,i,x=>.mk k nm ot n ty re (l.set i x)
mutual
def Tm.made:Tm->Int->Bool
 | .mk k _ _ _ _ _ l,n=>!(k==11&&n==1)&&uu l (zP k n)
def uu:List Tm->Int->Bool
 | [],_=>true
 | t::I,n=>t.made n&&uu I n
end
def US (k:Int):Bool:=k==2||(k==3||(k==6||k==9))
def Tm.res (t:Tm):Bool:=US t.kd||(t.kd==10&&(t.lev 0&&(t.pt 0).made 1))
def Cp (s:ByteArray):Bool:=decide (s=bytes [38])||(decide (s=bytes [124])||decide (s=bytes [33]))
def Km (s:ByteArray):Bool:=decide (s=bytes [43])||(decide (s=bytes [45])||decide (s=bytes [42]))
def ud (nm:ByteArray):Int:=if Cp nm then 3 else 2
def Az (nm:ByteArray):Int:=if Km nm then 2 else 3
def Tm.opr (e:Tm)(l:List Tm):Tm × Int:=
 if l.all (λx=>x.kd==ud e.nm)then
  (RF (Az e.nm) (yQ e.nm (l.getD 0 tm0).no (l.getD 1 tm0).no).1,1)
 else(e,0)
def Tm.sb (e:Tm)(x:ByteArray)(b:Tm):Tm:=e.sub e.dp x b
def Tm.apl:Tm->Tm × Int
 | .mk k nm ot n ty re l=>
   if k=4 then(Tm.mk k nm ot n ty re l).opr l
   else if k=5 then(if(l.getD 0 tm0).kd=3 then(l.getD (2 - (l.getD 0 tm0).no).toNat tm0,2)else(.mk k nm ot n ty re l,0))
   else if k=7 then
    (if(l.getD 0 tm0).kd=6 then(((l.getD 0 tm0).pt 0).sb (l.getD 0 tm0).nm (l.getD 1 tm0),3)
    else if(l.getD 0 tm0).kd=9 then((((l.getD 0 tm0).pt 0).sb (l.getD 0 tm0).nm (l.getD 0 tm0)).sb (l.getD 0 tm0).ot (l.getD 1 tm0),4)
    else(.mk k nm ot n ty re l,0))
   else if k=8 then((l.getD 1 tm0).sb nm (l.getD 0 tm0),5)
   else if k=12 then(if(l.getD 0 tm0).kd=10 then((l.getD 0 tm0).pt 0,7)else(.mk k nm ot n ty re l,0))
   else if k=13 then(if(l.getD 0 tm0).kd=2\/(l.getD 0 tm0).kd=3 then(Tm.nod 10 [l.getD 0 tm0],8)else(.mk k nm ot n ty re l,0))
   else(.mk k nm ot n ty re l,0)
def AP (k:Int)(n:Nat):Nat:=if k=4\/k=7 then n else if k=5\/k=8\/k=12\/k=13 then 1 else 0
def goS (S:Tm->Tm × Int)(e:Tm):List Tm->Nat->Option (Tm × Int)
 | [],_=>none
 | x::xs,i=>if x.res then goS S e xs (i+1)else some (e.wth i (S x).1,(S x).2)
def YT (S:Tm->Tm × Int)(e:Tm):Tm × Int × Bool:=
 if(e.pt 0).res then(if(e.pt 0).kd=10 then((e.pt 0).pt 0,6,true)else(e,0,true))else(e.wth 0 (S (e.pt 0)).1,(S (e.pt 0)).2,true)
mutual
def Tm.cod (S:Tm->Tm × Int):Tm->Int->Tm × Int × Bool
 | .mk k nm ot n ty re l,m=>if k=11/\m=1 then YT S (.mk k nm ot n ty re l)else
   match ym S l (zP k m)with
   | none=>(.mk k nm ot n ty re l,0,false)
   | some (l',r)=>(.mk k nm ot n ty re l',r,true)
def ym (S:Tm->Tm × Int):List Tm->Int->Option (List Tm × Int)
 | [],_=>none
 | t::I,m=>if(t.cod S m).2.2 then some ((t.cod S m).1::I,(t.cod S m).2.1)else
   match ym S I m with
   | none=>none
   | some (l',r)=>some (t::l',r)
end
def Tm.stp:Nat->Tm->Tm × Int
 | 0,e=>(e,0)
 | f+1,e=>if e.res then(e,0)else if e.kd=10 then(e.wth 0 ((e.pt 0).cod (Tm.stp f) 1).1,((e.pt 0).cod (Tm.stp f) 1).2.1)
   else match e with
    | .mk k nm ot n ty re l=>match goS (Tm.stp f) (.mk k nm ot n ty re l) (l.take (AP k l.length)) 0 with
      | some r=>r
      | none=>(Tm.mk k nm ot n ty re l).apl
theorem Qc (e:Tm)(i:Nat):e.wth i (e.pt i)=e:=by
 cases e with
 | mk k nm ot n ty re l=>
 simp only[Tm.wth,Tm.pt];congr 1;apply nK;intro j;rw[nR];split
 ·rename_i h;subst h;split
  ·rename_i h;rw[yC h]
  ·rename_i h;rw[oY (by omega)]
 ·rfl
def NoR (S:Tm->Tm × Int):Prop:=∀ x,(S x).2=0->(S x).1=x
theorem Yw {S:Tm->Tm × Int}(Y:NoR S):∀(t:Tm)(m:Int),(t.cod S m).2.1=0->(t.cod S m).1=t:=by
 refine Tm.ind λk nm ot n ty re l ih m h=>?_;simp only[Tm.cod]at h ⊢;by_cases hk:k=11/\m=1
 ·rw[if_pos hk]at h ⊢;unfold YT at h ⊢;split
  ·rename_i I;rw[if_pos I]at h;split
   ·rename_i J;rw[if_pos J]at h;exact absurd (show(6:Int)=0 from h) (by decide)
   ·rfl
  ·rename_i I;rw[if_neg I]at h;simp only at h ⊢;rw[Y _ h,Qc]
 ·rw [if_neg hk]at h ⊢;have key:∀ xs:List Tm,(∀ x∈xs,x∈l)->∀ l' r,ym S xs (zP k m)=some (l',r)->r=0->l'=xs:=by
   intro xs
   induction xs with
   | nil=>intro _ l' r h;simp[ym]at h
   | cons x xs O=>
     intro U l' r h hr;simp only[ym]at h;split at h
     ·cases h;rw[ih x (U x (by simp)) _ hr]
     ·split at h
      ·cases h
      ·rename_i l2 r2 J;cases h;rw[O (λy hy=>U y (by simp[hy])) _ _ J hr]
  cases hc:ym S l (zP k m)with
  | none=>rfl
  | some p=>obtain⟨l',r⟩:=p;rw[hc]at h;simp only at h ⊢;rw[key l (λx hx=>hx) l' r hc h]
theorem WW {S:Tm->Tm × Int}(I:NoR S):∀ {l:List Tm}{i:Nat}{r:Tm × Int},goS S e l i=some r->(∀ j x,l[j]?=some x->e.pt (i+j)=x)->r.2=0->r.1=e
 | [],_,_,h,_,_=>by simp[goS]at h
 | x::l,i,r,h,J,hr=>by
   simp only[goS]at h;split at h
   ·exact WW I h (λj y O=>by rw[show i+1+j=i+(j+1) by omega];exact J (j+1) y (by simpa using O)) hr
   ·cases h;simp only at hr ⊢;rw[I x hr]
    have:=J 0 x rfl
    rw[mr]at this;rw[<-this,Qc]
theorem ZL {c:Prop}[Decidable c]{x y:Tm × Int}(hx:x.2=0->x.1=e)(I:y.2=0->y.1=e)(h:(if c then x else y).2=0):(if c then x else y).1=e:=by
 by_cases hc:c
 ·rw[if_pos hc]at h ⊢;exact hx h
 ·rw[if_neg hc]at h ⊢;exact I h
theorem zAi {r:Int}(hr:r≠0)(h:((t,r):Tm × Int).2=0):((t,r):Tm × Int).1=e:=absurd h hr
theorem Yl (e:Tm)(h:e.apl.2=0):e.apl.1=e:=by
 cases e with
 | mk k nm ot n ty re l=>
 revert h;simp only[Tm.apl,Tm.opr]
 repeat' first | exact λh=>zAi (by decide) h | exact λ_=>rfl | refine ZL ?_ ?_
theorem Wn:∀ f,NoR (Tm.stp f)
 | 0,e,_=>rfl
 | f + 1,.mk k nm ot n ty re l,h=>by
   have J:=Wn f;simp only[Tm.stp]at h ⊢;split
   ·rfl
   ·rename_i hr;rw[if_neg hr]at h;by_cases hk:(Tm.mk k nm ot n ty re l).kd=10
    ·rw[if_pos hk]at h ⊢;simp only at h ⊢;rw[Yw J _ _ h,Qc]
    ·rw[if_neg hk]at h ⊢;cases I:goS (Tm.stp f) (Tm.mk k nm ot n ty re l) (l.take (AP k l.length)) 0 with
     | none=>rw[I]at h;exact Yl _ h
     | some r=>
       rw[I]at h;refine WW J I (λj x hx=>?_) h;rw[nT];rw[od]at hx;split at hx
       ·simp only[Tm.pt];rw[oB,hx];rfl
       ·cases hx
def Tm.step (e:Tm):Tm × Int:=if s9 e 0 then(if(e.stp e.dp).2=0 then(e,0)else e.stp e.dp)else(e,0)
theorem Mb:∀ {l:List D}{j:Nat}{x:D}{b:Nat},b∈zF (l.set j x)->b∈zF l\/b∈x.foot
 | [],j,x,b,h=>by simp[zF]at h
 | a::l,0,x,b,h=>by
   simp only[mY,zF,oM]at h ⊢;rcases h with h | h
   ·exact .inr h
   ·exact .inl (.inr h)
 | a::l,j+1,x,b,h=>by
   simp only[mm,zF,oM]at h ⊢;rcases h with h | h
   ·exact .inl (.inl h)
   ·rcases Mb h with h | h
    ·exact .inl (.inr h)
    ·exact .inr h
theorem P5 {x:D}(hx:Own N2 N3 x)(U:N<=N2)(Y:N1<=N2)(h3:N2<=N3):∀ {l:List D}{j:Nat},OwnL N N1 l->OwnL N N3 (l.set j x)
 | [],j,h=>by simp only[List.set_nil];exact h.mono (oD _) (by omega)
 | a::l,0,h=>by
   have hn:=h.nd;simp only[zF,nN]at hn;simp only[mY];refine⟨?_,⟨hx.fl,h.fl.2⟩,λb hb=>?_,λb hb=>?_⟩
   ·simp only[zF,nN];refine⟨hx.nd,hn.2.1,λu J v hv I=>?_⟩
    have:=hx.lo u J
    have:=h.hi v (by simp only[zF,oM];exact .inr hv)
    omega
   ·simp only[zF,oM]at hb;rcases hb with hb | hb
    ·have:=hx.lo b hb;omega
    ·exact h.lo b (by simp only[zF,oM];exact .inr hb)
   ·simp only[zF,oM]at hb;rcases hb with hb | hb
    ·exact hx.hi b hb
    ·have:=h.hi b (by simp only[zF,oM];exact .inr hb);omega
 | a :: l,j+1,h=>by
   have hn:=h.nd;simp only[zF,nN]at hn;have hl:OwnL N N1 l:=⟨hn.2.1,h.fl.2,λb hb=>h.lo b (by simp only[zF,oM];exact .inr hb),λb hb=>h.hi b (by simp only[zF,oM];exact .inr hb)⟩
   have O:=P5 hx U Y h3 (l:=l) (j:=j) hl;simp only[mm];refine⟨?_,⟨h.fl.1,O.fl⟩,λb hb=>?_,λb hb=>?_⟩
   ·simp only[zF,nN];refine⟨hn.1,O.nd,λu J v hv I=>?_⟩;rcases Mb hv with hv | hv
    ·exact hn.2.2 u J v hv I
    ·have:=hx.lo v hv
     have:=h.hi u (by simp only[zF,oM];exact .inl J)
     omega
   ·simp only[zF,oM]at hb;rcases hb with hb | hb
    ·exact h.lo b (by simp only[zF,oM];exact .inl hb)
    ·exact O.lo b hb
   ·simp only[zF,oM]at hb;rcases hb with hb | hb
    ·have:=h.hi b (by simp only[zF,oM];exact .inl hb);omega
    ·exact O.hi b hb
theorem Mv {x:D}(h:OwnL N N1 ([I,J,O,U]++es))(hx:Own N2 N3 x)(Y:N<=N2)(h2:N1<=N2)(h3:N2<=N3):OwnL N N3 ([I,J,O,U]++es.set j x):=
 P5 hx Y h2 h3 (l:=[I,J,O,U]++es) (j:=j+4) h
theorem D0:∀ {u v:List D},xX (u++v)->xX u/\xX v
 | [],v,h=>⟨trivial,h⟩
 | x::u,v,h=>⟨⟨h.1,(D0 h.2).1⟩,(D0 h.2).2⟩
theorem Vi {hd:List D}{z:Nat}(h:OwnL N0 N1 (hd++es))(J:Fresh N0 N3 a (.ag es::(hd++ds)))(hN:N1<=N3):OwnL N0 N3 (hd++[.sl a z es c]):=by
 obtain⟨U,Y⟩:=D0 h.fl;have hn:=h.nd;rw[zC,nN]at hn;have e:zF (hd++[D.sl a z es c])=zF hd++(D.sl a z es c).foot:=by simp only[zC,zF,ou]
 have hE:∀ ad,a=some ad->ad.block∉zF es:=λad h=>J.ap ad h (.ag es) (by simp);have hH:∀ ad,a=some ad->ad.block∉zF hd:=λad h hc=>by obtain⟨d,aa,hb⟩:=zQ.1 hc;exact J.ap ad h d (by simp[aa]) hb
 refine⟨?_,xE U ⟨⟨λad h=>J.off ad h,Y⟩,trivial⟩,λb hb=>?_,λb hb=>?_⟩
 ·rw[e,nN];refine⟨hn.1,Kl hn.2.1 hE,λx hx y hy ab=>?_⟩;subst ab;rcases xe x hy with I | ⟨ad,I,O⟩
  ·exact hn.2.2 x hx x I rfl
  ·subst O;exact hH ad I hx
 ·rw[e]at hb;rcases oM.1 hb with hb | hb
  ·exact h.lo b (by rw[zC];exact ol _ hb)
  ·rcases xe b hb with I | ⟨ad,I,O⟩
   ·exact h.lo b (by rw[zC];exact nP _ I)
   ·subst O;exact J.lo ad I
 ·rw[e]at hb;rcases oM.1 hb with hb | hb
  ·have:=h.hi b (by rw[zC];exact ol _ hb);omega
  ·rcases xe b hb with I | ⟨ad,I,O⟩
   ·have:=h.hi b (by rw[zC];exact nP _ I);omega
   ·subst O;exact J.hi ad I
theorem Kq {v0 v1 v2 Y:Value}(h:OwnL N N1 ([I,J,O,U]++es))(hf:Fresh N N2 a [.ag es,I,J,O,U])(hN:N1<=N2):Own N N2 (.ag [.lit v0,.lit v1,.lit v2,.lit Y,I,J,O,U,.sl a 9 es c]):=
 tv (zH (zH (zH (zH (Vi (hd:=[I,J,O,U]) (ds:=[]) h hf hN)))))
theorem Fo {α:Type}{R:α->D->Prop}:∀ {l:List α}{es:List D}{t:α}{d:D}{j:Nat},All2 R l es->R t d->All2 R (l.set j t) (es.set j d)
 | [],es,t,d,j,h,_=>by cases h;exact rfl
 | x::l,es,t,d,0,h,I=>by obtain⟨y,ys,rfl,O,J⟩:=h;exact⟨_,_,rfl,I,J⟩
 | x::l,es,t,d,j+1,h,I=>by obtain⟨y,ys,rfl,O,J⟩:=h;exact⟨_,_,rfl,O,Fo J I⟩
theorem Xj {α:Type}{T l:List α}{t:α}(O:T.length=l.length)(hi:i<l.length)(I:T[i]?=some t):(T.take i++l.drop i).set i t=T.take (i+1)++l.drop (i+1):=by
 have J:(T.take i).length=i:=by rw[nC];omega
 rw[List.set_append_right _ _ (by omega),J,Nat.sub_self,mW hi,mY,zX I,nq];rfl
theorem Vc {α:Type}{T l:List α}{t:α}(hi:i<l.length)(I:l[i]?=some t)(J:T[i]?=some t):T.take i++l.drop i=T.take (i+1)++l.drop (i+1):=by rw[mW hi,zX J,nq];rw[oF hi]at I;rw[oU I];rfl
theorem u9 (h:All2 Tm.Is l es)(I:j<l.length):(l.getD j tm0).Is (es.getD j default):=by
 have:=h.get (yC I)
 exact this
def Yi (f:FuncId)(args:List PV)(t:Tm):Prop:=∀(N:Nat) (Q:QT [.ag 9]),(∀ d N',N<=N'->t.Is d->Own N N' d->Q d N')->ACalls prog f [.ag 9] args N Q
def Z9 (F:FuncId)(f:Nat):Prop:=∀(e:Tm) (d:D) (x:ByteArray) (b:Tm) (I:D),e.Is d->b.Is I->e.dp<=f->e.Z->b.Z->Yi F [.dg 9 d,.str x,.dg 9 I] (e.sub f x b)
theorem YB (hs:s.size<=4611686018427387904):(ru s).Is (.ag [.j 1,.t s,.t (bytes []),.j 0,.j 0,.sl none 2 [] 0,.j 0,.sl none 2 [] 0,.sl none 9 [] 0]):=
 Tm.is_mk.2 ⟨_,_,_,_,_,_,_,rfl,⟨hs,by decide,Ty.is_mk.2 ⟨_,_,_,rfl,by simp,rfl⟩,Ty.is_mk.2 ⟨_,_,_,rfl,by simp,rfl⟩⟩,by simp,rfl⟩
theorem Q9 {l:List ByteArray}(h:l.length<=8796093022208):(fresh l).size<=4611686018427387904:=by
 obtain⟨k,e,_,I,_,_⟩:=rR l;rw[e]
 have:=RZ k (by omega)
 omega
theorem Pj (s:ByteArray)(l:List ByteArray):decide (Bg (λx=>decide (x=s)) l 0≥0)=decide (s∈l):=by
 have h:=Gm s l;rw[mG,nh,nh]at h ⊢;constructor
 ·intro J;exact mU.1 λI=>by have:=h.2 I;omega
 ·intro J;exact Int.not_lt.1 λI=>h.1 I J
theorem SG (hS:Z9 180 f){nm ot:ByteArray}(hd:(Tm.mk k nm ot n0 ty re l).Is d)(hG:(Tm.mk k nm ot n0 ty re l).G)(a4:yB k l.length=(j:Int))(hp:l.getD j tm0=p)(cq:p.dp<=f)(hc:p.Z)(x:ByteArray)(fb:List ByteArray)(cr:fb.length<=2199023255552)(a:Option Addr)(c:Nat)(N:Nat){T:ByteArray × ByteArray × Tm}(hT:rns (Tm.sub f) k l.length fb x (bdN k nm ot l.length) (nm,ot,p)=T)(Q:QT [.pk,.i,.str,.str,.i,.dc,.dc,.dc,.dc,.row 30 9])(hQ:Hu (.mk k T.1 T.2.1 n0 ty re (l.set j T.2.2)) N Q):
  ACalls prog 200 [.pk,.i,.str,.str,.i,.dc,.dc,.dc,.dc,.row 30 9] [.dg 9 d,.j (j:Int),.str x,.sv a 0 (zD fb) c] N Q:=by
 obtain⟨t0,t1,r0,r1,a8,es,c8,rfl,hh,cc,a9⟩:=Tm.is_mk.1 hd;have hl:=a9.len;obtain⟨g1,_⟩:=w7 (k:=k) (n:=l.length) (by omega);rw[a4,oI]at g1;have ct:=GE k nm ot l.length;have cw:=zj (bdN k nm ot l.length);have cx:=hG.2.2.1;refine Ir N _ _ x a _ c Q λ_ _ N1 ba=>r8 _ _ hd hG N1 _ ?_;simp only[Hu]at hQ ⊢;intro x4 x5 x6 x7 es' c' N2 cy bb ai bc _ _ N3 cz;refine CX (n:=l.length) (by omega) N3 _ λa1 c1 N4 c0 _ _ _=>?_;have c2:=ai.len;have al:l.set j p=l:=by
  apply nK;intro i;rw[nR];split
  ·rename_i hi;subst hi;rw[yC g1,hp]
  ·rfl
 refine up (um (bdN k nm ot l.length)) (by omega) (λi xs=>∀(s:ByteArray × ByteArray × Tm) (y4 y5 y6 y7:D) (r:List D) (q N':Nat),N<=N'->Tm.Hd s.1 s.2.1 ty re y4 y5 y6 y7->All2 Tm.Is (l.set j s.2.2) r->OwnL N N' ([y4,y5,y6,y7]++r)->LeW s.2.2 p->rns (Tm.sub f) k l.length fb x xs s=T ->
  (i=0->s=(nm,ot,p))->(0<i->∀ o∈xs,o∈fb->s.1≠o) ->
  yu Q N j x a (zD fb) c a1 (zD (bdN k nm ot l.length)) c1 i 0 (bytes []) (bytes []) 0 0 none [] 0 0 none [] 0 none [] 0 k s.1 s.2.1 n0 y4 y5 y6 y7 r.length q r q N') ?_ ?_ (nm,ot,p) x4 x5 x6 x7 es' c' N4 (by omega) bb (by rw[al];exact ai) (bc.mono ba (by omega)) LeW.rfl hT (λ_=>rfl) (λh=>absurd h (by omega))
 ·intro i bg hi s y4 y5 y6 y7 r q N' bh hH hA hO U hs _ _;simp only[rns]at hs;subst hs;refine qy ?_;rw[bg];exact⟨⟨rfl,rfl⟩,λN5 aq=>hQ _ _ _ _ _ _ _ (by omega) hH hA (hO.mono (oD _) aq)⟩
 ·intro i old xs I au am s y4 y5 y6 y7 r q N' bh hH hA hO U hs h0 h1;have c3:=I.b;have hr:=I.r;have bi:=hA.len;simp only[nZ]at bi;simp only[rns]at hs;refine qy ?_;rw[I.lt,oI,I.w,hr];refine⟨⟨by omega,by omega⟩,old,rfl,λN5 aq=>xG fb (by omega) a c old N5 _ λN6 c4 _=>?_⟩;show Br (decide (Bg (λx=>decide (x=old)) fb 0<0)) _ _;rw[Gm];have hold:i=0->s.1=old:=λhi=>by
   subst hi;have h2:=I.g;rw[h0 rfl];unfold bdN at h2
   (repeat' split at h2)<;>simp at h2<;>exact h2
  have aw:0<i->old∈fb->s.1≠old:=λhi Y=>h1 hi old (by simp) Y;have aa:∀ s':ByteArray × ByteArray × Tm,rn1 (Tm.sub f) k l.length fb x old s=s'->0<i+1->∀ o∈xs,o∈fb->s'.1≠o:=λs' bj _ o Y bm=>by
   have ax:i=0:=by
    have h3:=oQ.1 Y;obtain⟨m,hm⟩:=h3;rw[<-au,nU]at hm
    have:=(oC.1 hm).1
    omega
   have bp:=h0 ax;subst ax;have bq:o∈bdN k nm ot l.length:=by rw[<-au]at Y;exact nD Y
   have ab:=hold rfl;subst bj;unfold rn1;by_cases ac:old∈fb
   ·have bt:=rQ (fb++(s.2.2.fv++([x]++bdN k s.1 s.2.1 l.length)));rw[if_pos ac,if_pos ab];intro hc;refine bt ?_;simp only at hc;rw[hc,bp];simp[bq]
   ·rw[if_neg ac];intro hc;exact ac (by rw[<-ab,hc];exact bm)
  refine Br.dec (λY=>?_) λY=>?_
  ·have e1:rn1 (Tm.sub f) k l.length fb x old s=s:=by unfold rn1;rw[if_neg Y]
   have J:=aa s e1;rw[e1]at hs;exact am _ _ _ _ _ _ _ _ (by omega) hH hA (hO.mono (oD _) (by omega)) U hs (λh=>absurd h (by omega)) J
  ·have Y:old∈fb:=mU.1 Y;have ae:=u9 hA (j:=j) (by simpa using g1);have bv:(l.set j s.2.2).getD j tm0=s.2.2:=by rw[oB,nV (by simpa using g1)];rfl
   rw[bv]at ae;have ay:=U.z hc;have c5:=ay.c;have da:=Tm.fv_wd s.2.2;have db:=NW fb s.2.2.fv;have cd:=GE k s.1 s.2.1 l.length;have ce:=zj (bdN k s.1 s.2.1 l.length);have cf:=U.le.d;refine⟨⟨rfl,rfl⟩,λa5 _ N7 de az=>CX (n:=l.length) (by omega) N7 _ λa6 c6 N8 dh bw _=>⟨xI az bw,λ_=>⟨⟨by omega,by omega,by omega⟩,by omega,λN9 di=>?_⟩⟩⟩;rw[oI,nT];refine uq s.2.2 _ ae (by omega) N9 _ λa7 c7 dj cg _ _ _ bz ch=>?_;refine rK fb s.2.2.fv (by omega) (by omega) a a7 c c7 bz _ λc8 dk ci _ _=>?_;rw[uS,Re];have a0:(pG fb s.2.2.fv++[x]++bdN k s.1 s.2.1 l.length).length<=8796093022208:=by simp only[oK,oJ,oN];omega
   have a2:fresh (pG fb s.2.2.fv++[x]++bdN k s.1 s.2.1 l.length)=fresh (fb++(s.2.2.fv++([x]++bdN k s.1 s.2.1 l.length))):=VG λy=>by simp[NX,or_assoc]
   refine⟨⟨rfl,rfl⟩,Fp (by omega),λc9=>⟨⟨rfl,rfl⟩,by unfold zA;rw[oK,zj,zj,oK,oJ,oN];omega,λb1=>⟨⟨rfl,rfl⟩,λb2 _ b6 cj _=>?_⟩⟩⟩;refine FE _ a0 b2 b1 b6 _ λdl ck _=>⟨⟨by omega,by omega,by omega⟩,by omega,⟨by omega,by omega⟩,old,rfl,λb7 cm=>?_⟩
   have ah:=Q9 a0;rw[a2]at ah ⊢;have e1:rn1 (Tm.sub f) k l.length fb x old s=(if s.1=old then fresh (fb++(s.2.2.fv++([x]++bdN k s.1 s.2.1 l.length)))else s.1,if s.1=old then s.2.1 else fresh (fb++(s.2.2.fv++([x]++bdN k s.1 s.2.1 l.length))),s.2.2.sub f old (ru (fresh (fb++(s.2.2.fv++([x]++bdN k s.1 s.2.1 l.length)))))):=by unfold rn1;rw[if_pos Y];split<;>rfl
   have J:=aa _ e1;rw[e1]at hs;generalize fresh (fb++(s.2.2.fv++([x]++bdN k s.1 s.2.1 l.length)))=O at ah hs J ⊢;refine E1 b7 O _ λdm cn _ _ b9 co=>?_;refine hS s.2.2 _ old (ru O) _ ae (YB ah) (by omega) ay (Zp _) b9 _ λdx ao cp hx ca _ _=>⟨⟨by omega,by omega,by omega⟩,by omega,?_⟩
   have aj:All2 Tm.Is (l.set j (s.2.2.sub f old (ru O))) (r.set j dx):=by have:=Fo (j:=j) hA hx;rwa[List.set_set]at this
   have ak:OwnL N ao ([y4,y5,y6,y7]++r.set j dx):=Mv hO ca (by omega) (by omega) (by omega);have a3:(r.set j dx).length=r.length:=nZ;refine Br.beq (λhi=>?_) λhi=>?_
   ·have hi:i=0:=by omega
    rw[if_pos (hold hi),if_pos (hold hi)]at hs J
    have:=am (O,s.2.1,s.2.2.sub f old (ru O)) y4 y5 y6 y7 (r.set j dx) q ao (by omega) ⟨ah,hH.ot,hH.ty,hH.re⟩ aj ak ((Bo f _ _ _ (by omega)).trans U) hs (λh=>absurd h (by omega)) J
    rwa[a3]at this
   ·have hi:0<i:=by omega
    rw[if_neg (aw hi Y),if_neg (aw hi Y)]at hs J
    have:=am (s.1,O,s.2.2.sub f old (ru O)) y4 y5 y6 y7 (r.set j dx) q ao (by omega) ⟨hH.nm,ah,hH.ty,hH.re⟩ aj ak ((Bo f _ _ _ (by omega)).trans U) hs (λh=>absurd h (by omega)) J
    rwa[a3]at this
theorem Cf (hS:Z9 180 f){nm ot:ByteArray}{L Lf:List Tm}{b:Tm}{db:D}(hb:b.Is db)(ak:b.Z)(hL:∀ y∈L,y.dp<=f/\y.Z)(ay:L.length<=1073741824){O:Bool}(al:Lf.length=L.length)(hf:∀(i:Nat) (y:Tm),L[i]?=some y->Lf[i]?=some (if O=true/\(i:Int)=at_ then y else y.sub f x b)){y4 y5 y6 y7:D}(hH:Tm.Hd nm ot ty re y4 y5 y6 y7){r:List D}(hA:All2 Tm.Is L r)(q N N':Nat)(U:N<=N')(hO:OwnL N N' ([y4,y5,y6,y7]++r))(Q:QT [.ag 9])(hQ:∀ d' N'',N<=N''->(Tm.mk k nm ot n0 ty re Lf).Is d'->Own N N'' d'->Q d' N''):
  zI Q N x at_ O 0 db 0 (bytes []) (bytes []) 0 0 none [] 0 0 none [] 0 none [] 0 k nm ot n0 y4 y5 y6 y7 r.length q r q N':=by
 have az:=hA.len;refine up hA (by omega) (λi xs=>∀(r':List D) (q N':Nat),N<=N'->All2 Tm.Is (Lf.take i++L.drop i) r'->r'.length=r.length->OwnL N N' ([y4,y5,y6,y7]++r') ->
  zI Q N x at_ O i db 0 (bytes []) (bytes []) 0 0 none [] 0 0 none [] 0 none [] 0 k nm ot n0 y4 y5 y6 y7 r.length q r' q N') ?_ ?_ r q N' U (by simpa using hA) rfl hO
 ·intro i am hi r' q N' U J ab Y;rw[oX (by omega),mg (by omega),ou]at J;refine sd ?_;rw[am];exact⟨⟨by omega,rfl⟩,⟨by omega,rfl⟩,⟨by omega,rfl⟩,⟨by omega,rfl⟩,λa2 N5 ac hf N6 ae=>hQ _ _ (by omega) (Tm.is_mk.2 ⟨_,_,_,_,_,_,_,rfl,hH,by omega,J⟩) ((Kq Y hf ac).mono (oD _) ae)⟩
 ·intro i y xs I _ ah r' q N' U J ab Y;have a0:=I.b;obtain⟨ao,aq⟩:=hL y I.m;have ai:i<L.length:=(oC.1 I.g).1;have aa:=hf i y I.g;have au:y.Is (r'.getD i default):=by refine J.get ?_;rw[oS (by rw[nC];omega),nC,show i - min i Lf.length=0 by omega,nU];exact I.g
  have put:(if O=true/\(i:Int)=at_ then y else y.sub f x b)=y.sub f x b->∀ N5,N'<=N5->ACalls prog 180 [.ag 9] [.dg 9 (List.getD r' i default),.str x,.dg 9 db] N5 (λaj N6=>N5<=N6->Bel N6 aj->((0:Int)<=(i:Int)/\(i:Int)<(r.length:Int)/\i<r'.length)/\i<r'.length /\
    zI Q N x at_ O ((i+1:Nat):Int) db 0 (bytes []) (bytes []) 0 0 none [] 0 0 none [] 0 none [] 0 k nm ot n0 y4 y5 y6 y7 r.length q (List.set r' i aj) q N6):=λe N5 ac=>
   hS y _ x b db au hb ao aq ak N5 _ λdx N6 ae hx aw _ _=>⟨⟨by omega,by omega,by omega⟩,by omega,by rw[e]at aa;have h2:=Fo (j:=i) J hx;rw[Xj al ai aa]at h2;exact ah (r'.set i dx) q N6 (by omega) h2 (by simpa using ab) (Mv Y aw (by omega) (by omega) (by omega))⟩
  refine sd ?_;rw[I.lt,oI,I.w,nT];refine Br.bne (λax=>⟨⟨by omega,by omega,by omega⟩,by omega,put (if_neg λh=>ax h.2)⟩) λheq=>?_;refine Br.not (λhh=>⟨⟨by omega,by omega,by omega⟩,by omega,put (if_neg λh=>by rw[hh]at h;exact absurd h.1 (by decide))⟩) λhh=>?_;rw[if_pos ⟨hh,heq⟩]at aa;rw[Vc ai I.g aa]at J;exact ah r' q N' U J ab Y
theorem Pt {g:Tm->Tm}(h:l[i]?=some y):(l.map g)[i]?=some (g y):=by rw[oG,h];rfl
theorem I1:∀ f,Z9 180 f
 | 0=>λe d x b db _ _ ae=>absurd (Tm.dp_pos e) (by omega)
 | f + 1=>λe d x b db he hb ae hc U N Q J=>by
   have ih:=I1 f;have hG:=hc.g;have au:=U.g;have a7:=U.c;cases e with
   | mk k nm ot n0 ty re l=>
   simp only[Tm.dp]at ae;have hp:∀ y∈l,y.dp<=f/\y.Z:=λy O=>⟨uZ.1 (mN ae) y O,hc.mem y O⟩
   obtain⟨t0,t1,r0,r1,a,es,c,rfl,hh,bq,aw⟩:=Tm.is_mk.1 he;have hl:=aw.len;have ab:=hG.2.2.1;have b6:=GE k nm ot l.length;have b7:=zj (bdN k nm ot l.length);refine Fc N _ x db Q λ_ _=>⟨_,rfl,?_⟩
   have ax:¬(k=1/\nm=x)->(Tm.mk k nm ot n0 ty re l).sub (f+1) x b=if yB k l.length<0 then .mk k nm ot n0 ty re (l.map λt=>Tm.sub f t x b)
     else if x∈bdN k nm ot l.length\/x∉(l.getD (yB k l.length).toNat tm0).fv then
      .mk k nm ot n0 ty re ((l.map λt=>Tm.sub f t x b).set (yB k l.length).toNat (l.getD (yB k l.length).toNat tm0))
     else
      .mk k (rns (Tm.sub f) k l.length b.fv x (bdN k nm ot l.length) (nm,ot,l.getD (yB k l.length).toNat tm0)).1
       (rns (Tm.sub f) k l.length b.fv x (bdN k nm ot l.length) (nm,ot,l.getD (yB k l.length).toNat tm0)).2.1 n0 ty re
       ((l.map λt=>Tm.sub f t x b).set (yB k l.length).toNat (Tm.sub f (rns (Tm.sub f) k l.length b.fv x (bdN k nm ot l.length) (nm,ot,l.getD (yB k l.length).toNat tm0)).2.2 x b)):=λhn=>by
    simp only[Tm.sub];by_cases hk:k=1
    ·rw[if_pos hk,if_neg (λh=>hn ⟨hk,h⟩)];have:l=[]:=hc.v.1 hk;subst this;subst hk;rw[if_pos (by decide)];rfl
    ·rw[if_neg hk]
   refine Br.beq (λh1=>⟨_,rfl,Br.str (λh2 N1 ah=>?_) λh2=>?_⟩) λh1=>?_
   ·simp only[Tm.sub]at J;rw[if_pos h1,if_pos h2]at J;refine r8 b db hb au N1 _ ?_;cases b with
    | mk k2 b9 ca n2 cc cd l2=>
    simp only[Hu];intro x4 x5 x6 x7 es' c' N2 a9 aa I ai _ _;have ba:=I.len;have ce:=au.2.2.1;exact⟨⟨trivial,trivial⟩,⟨trivial,trivial⟩,λa2 N3 ay hf N4 az=>J _ _ (by omega) (Tm.is_mk.2 ⟨_,_,_,_,_,_,_,rfl,aa,by omega,I⟩) ((Kq (ai.mono ah (oD _)) hf ay).mono (oD _) az)⟩
   all_goals
    rw[ax (λh=>by first | exact h2 h.2 | exact h1 h.1)]at J;intro N1 ah;refine r8 _ _ he hG N1 _ ?_;simp only[Hu];intro x4 x5 x6 x7 es' c' N2 a9 aa I ai _ _ N3 ay;have ba:=I.len;refine CX (n:=l.length) (by omega) N3 _ λa1 c1 N4 az _ _ _ N5 cf=>?_;refine xG _ (by omega) a1 c1 x N5 _ λN6 cg _=>?_;rw[Pj];have aj:OwnL N N6 ([x4,x5,x6,x7]++es'):=ai.mono ah (by omega);refine Br.dec (λch=>?_) λci=>?_
    ·rw [if_neg (by omega)]at J;obtain⟨g1,g2⟩:=w7 (k:=k) (n:=l.length) (by omega);obtain⟨j,a0⟩:∃ j:Nat,yB k l.length=(j:Int):=⟨_,g2.symm⟩
     rw[a0]at g1 J ⊢;rw[oI]at g1 J ⊢;generalize ak:l.getD j tm0=p at J;have al:l[j]?=some p:=ak ▸ yC g1;obtain⟨am,ao⟩:=hp p (oA al);have a3:=ao.c;have a4:=u9 aw g1;rw[ak]at a4;refine Br.ndec (λhx=>⟨_,_,_,rfl,⟨by omega,by omega⟩,λN7 cj=>?_⟩) λhx=>?_
     ·have ck:=Tm.fv_wd p;refine uq p _ a4 a3 N7 _ λa8 c8 N8 cm _ _ _ N9 cn=>xG _ (by omega) a8 c8 x N9 _ λbb bt _=>?_;rw[Pj];rw[md hx];refine Br.dec (λac bc bv=>?_) λac=>?_
      ·rw[if_neg (by rintro(h | h);exact hx h;exact h ac)]at J;have bw:=Tm.fv_wd b;refine uq b _ hb a7 bc _ λbg bh co bz _ _ _ bi b1=>?_;generalize hT:rns (Tm.sub f) k l.length b.fv x (bdN k nm ot l.length) (nm,ot,p)=T at J;have aq:=Ov (Bo f) k l.length b.fv x (bdN k nm ot l.length) (nm,ot,p) am;rw[hT]at aq;have a5:=aq.le.d;refine SG ih he hG a0 ak am ao x b.fv (by omega) bg bh bi hT _ ?_;simp only[Hu];intro z4 z5 z6 z7 cp c9 bj b2 bm a6 bp _ _;refine Cf ih hb U (L:=l.set j T.2.2) (Lf:=(l.map λt=>t.sub f x b).set j (T.2.2.sub f x b)) (λy O=>?_) (by simpa using ab) (by simp) (λi y O=>?_) bm a6 c9 N bj (by omega) (bp.mono (by omega) (oD _)) Q J
       ·rcases nA O with O | rfl
        ·exact hp y O
        ·exact⟨oP a5 am,aq.z ao⟩
       ·rw[if_neg (λh=>by simp at h)];rw[<-List.map_set];exact Pt O
      ·rw[if_pos (.inr ac)]at J;refine Cf ih hb U hp ab (by simp) (λi y O=>?_) aa I c' N bb (by omega) (aj.mono (oD _) (by omega)) Q J;rw[if_neg (λh=>by simp at h)];by_cases Y:j=i
       ·subst Y;have:y=p:=oU (O.symm.trans al);rw[nV (by simpa using g1),this,T7 f p x b ac]
       ·rw[nJ Y];exact Pt O
     ·rw[if_pos (.inl hx)]at J;rw[mJ hx];refine Cf ih hb U hp ab (by simp) (λi y O=>?_) aa I c' N N6 (by omega) aj Q J;by_cases Y:j=i
      ·subst Y;have:y=p:=oU (O.symm.trans al);rw[if_pos ⟨rfl,rfl⟩,nV (by simpa using g1),this]
      ·rw[if_neg (λh=>Y (by omega)),nJ Y];exact Pt O
    ·rw[if_pos (by omega)]at J;refine Cf ih hb U hp ab (by simp) (λi y O=>?_) aa I c' N N6 (by omega) aj Q J;rw[if_neg (λh=>by have:=h.2;omega)];exact Pt O
structure Tm.F (e:Tm) (f:Nat):Prop where
 ok:e.ok=true
 d:e.dp<=f
 g:e.G
 b:e.dp<=1073741824
 w:e.wd<=137438953472
theorem Tm.F.up {g:Nat}(h:e.F f)(I:f<=g):e.F g:=⟨h.ok,oP h.d I,h.g,h.b,h.w⟩
theorem rA {nm ot:ByteArray}(h:(Tm.mk k nm ot n ty re l).ok=true):
  ((k=6\/k=9\/k=10\/k=11\/k=12\/k=13)->l.length=1)/\((k=7\/k=8)->l.length=2)/\(k=5->l.length=3)/\((k=1\/k=2\/k=3)->l.length=0)/\(k=4->(l.length:Int)=JO nm):=by
 simp only[Tm.ok,oE,nF]at h;obtain⟨_,_,h⟩:=h;unfold sA at h;refine⟨?_,?_,?_,?_,?_⟩
 ·rintro(rfl | rfl | rfl | rfl | rfl | rfl)<;>(simp at h;omega)
 ·rintro(rfl | rfl)<;>(simp at h;omega)
 ·rintro rfl;simp at h;omega
 ·rintro(rfl | rfl | rfl)<;>simpa using h
 ·rintro rfl;simpa using h
theorem Tm.F.mem {nm ot:ByteArray}(h:(Tm.mk k nm ot n ty re l).F (f+1)):∀ y∈l,y.F f:=λy I=>by
 have J:=h.ok;have O:=h.d;have Y:=h.b;have U:=h.w;have h7:=(rA h.ok).2.2.2.1;simp only[Tm.ok,oE]at J;simp only[Tm.dp]at O Y;have h4:=tJ I;have h5:∀ {l:List Tm},AR l=true->∀ x∈l,x.ok=true:=λ{l}=>by
  induction l with
  | nil=>intro _ x hx;simp at hx
  | cons t ts ih=>
    intro h x hx;simp only[AR,oE]at h;rcases oH.1 hx with rfl | hx
    ·exact h.1
    ·exact ih h.2 x hx
 refine⟨h5 J.1 y I,uZ.1 (mN O) y I,yb h.g.2.2.2 I,by omega,?_⟩;have h8:=EL I;simp only[Tm.wd]at U;split at U
 ·rename_i hk;rw[oL (h7 (.inl hk))]at I;simp at I
 ·omega
theorem YO:∀ t:Tm,t.ok=true->t.V:=by
 refine Tm.ind λk nm ot n ty re l I h=>?_;refine⟨λhk=>oL ((rA h).2.2.2.1 (.inl hk)),su.2 λx hx=>I x hx ?_⟩;simp only[Tm.ok,oE]at h;have J:∀ {l:List Tm},AR l=true->∀ x∈l,x.ok=true:=λ{l}=>by
  induction l with
  | nil=>intro _ x hx;simp at hx
  | cons t O I=>
    intro h x hx;simp only[AR,oE]at h;rcases oH.1 hx with rfl | hx
    ·exact h.1
    ·exact I h.2 x hx
 exact J h.1 x hx
theorem zAk:∀ t:Tm,t.ok=true->t.A3:=by refine Tm.ind λk nm ot n ty re l I h=>?_;have nd:=zT h;have J:=nd.ar;have O:=tV k nm;exact⟨by omega,t4.2 λx hx=>I x hx (nd.sub x hx)⟩
theorem Tm.F.of (I:e.ok=true)(J:e.dp<=f)(O:e.cnt<=4000000):e.F f:=⟨I,J,Tm.G_cnt e (by omega),by have:=e.dp_cnt;omega,by have:=Tm.vc_cnt e;have:=e.wd_vc;omega⟩
theorem Tm.F.z (h:e.F f):e.Z:=⟨h.g,by have:=h.w;omega,YO _ h.ok⟩
theorem zk (h:i<l.length):l.getD i tm0∈l:=oA (yC h)
theorem TH (I:e.ok=true)(hk:e.kd=3):e.no=0\/e.no=1:=by
 cases e with
 | mk k nm ot n ty re l=>
 simp only[Tm.kd]at hk;subst hk;simp only[Tm.ok,oE]at I;have J:=I.2.1;simp only[zK,oE,inB]at J;simp at J;simp only[Tm.no];omega
def Rl (f:FuncId)(args:List PV)(r:Tm × Int):Prop:=∀(N:Nat) (Q:QT [.ag 9,.i]),(∀ d N',N<=N'->r.1.Is d->Q d r.2 N')->ACalls prog f [.ag 9,.i] args N Q
def Yh (f:FuncId)(args:List PV)(r:Tm × Int × Bool):Prop:=∀(N:Nat) (Q:QT [.ag 9,.i,.bool]),(∀ d N',N<=N'->r.1.Is d->Q d r.2.1 r.2.2 N')->ACalls prog f [.ag 9,.i,.bool] args N Q
def YY (F:FuncId):Prop:=∀(t:Tm) (d:D),t.Is d->t.G->∀(N:Nat) (Q:QT [.pk,.i,.str,.str,.i,.dc,.dc,.dc,.dc,.row 30 9]),Hu t N Q->ACalls prog F [.pk,.i,.str,.str,.i,.dc,.dc,.dc,.dc,.row 30 9] [.dg 9 d] N Q
theorem PX {F:FuncId}(hF:YY F)(h:t.Is d)(hG:t.G)(h0:N0<=N)(Q':D->Nat->Prop)(hq:∀ d' N',N<=N'->t.Is d'->Own N0 N' d'->Q' d' N'):
  ACalls prog F [.pk,.i,.str,.str,.i,.dc,.dc,.dc,.dc,.row 30 9] [.dg 9 d] N (λn s Y aa x J O U es c N2=>N<=N2->Bel N2 (D.ag es)->(es.length=es.length/\c=c)/\(es.length=es.length/\c=c)/\∀ a N3,N2<=N3->Fresh N0 N3 a [D.ag es,x,J,O,U]->∀ N4,N3<=N4 ->
   Q' (D.ag [D.j n,D.t s,D.t Y,D.j aa,x,J,O,U,D.sl a 9 es c]) N4):=by
 refine hF t d h hG N _ ?_;cases t with
 | mk k2 ai aj n2 ak al l2=>
 simp only[Hu];intro x4 x5 x6 x7 es' c' N2 am ab I ac _ _;have ao:=I.len;have aq:=hG.2.2.1;exact⟨⟨trivial,trivial⟩,⟨trivial,trivial⟩,λa2 N3 ae hf N4 ah=>hq _ _ (by omega) (Tm.is_mk.2 ⟨_,_,_,_,_,_,_,rfl,ab,by omega,I⟩) ((Kq (ac.mono h0 (oD _)) hf ae).mono (oD _) ah)⟩
theorem zAq {F:FuncId}(hF:YY F){dy:D}(h:t.Is d)(hG:t.G)(hy:y.Is dy)(hi:i<t.as.length)(Q':D->Nat->Prop)(hq:∀ d' N',N<=N'->(t.wth i y).Is d'->Q' d' N'):
  ACalls prog F [.pk,.i,.str,.str,.i,.dc,.dc,.dc,.dc,.row 30 9] [.dg 9 d] N (λn s Y aa x J O U es c N2=>N<=N2->Bel N2 (D.ag es)->(0<=(i:Int)/\(i:Int)<(es.length:Int)/\(0+(i:Int).toNat:Nat)<es.length)/\(0+(i:Int).toNat:Nat)<es.length /\
   (es.length=(List.set es (0+(i:Int).toNat:Nat) dy).length/\c=c)/\(es.length=(List.set es (0+(i:Int).toNat:Nat) dy).length/\c=c)/\(es.length=(List.set es (0+(i:Int).toNat:Nat) dy).length/\c=c)/\(es.length=(List.set es (0+(i:Int).toNat:Nat) dy).length/\c=c)/\(es.length=(List.set es (0+(i:Int).toNat:Nat) dy).length/\c=c) /\
   ∀ a N3,N2<=N3->Fresh N0 N3 a [D.ag (List.set es (0+(i:Int).toNat:Nat) dy),x,J,O,U]->∀ N4,N3<=N4 ->
   Q' (D.ag [D.j n,D.t s,D.t Y,D.j aa,x,J,O,U,D.sl a 9 (List.set es (0+(i:Int).toNat:Nat) dy) c]) N4):=by
 refine hF t d h hG N _ ?_;cases t with
 | mk k2 ac ae n2 ah ai l2=>
 simp only[Hu];simp only[Tm.as]at hi;intro x4 x5 x6 x7 es' c' N2 aj ab I ak _ _;have al:=I.len;have am:=hG.2.2.1;rw[oI,nT];have hs:(List.set es' i dy).length=es'.length:=nZ;exact⟨⟨by omega,by omega,by omega⟩,by omega,⟨hs.symm,trivial⟩,⟨hs.symm,trivial⟩,⟨hs.symm,trivial⟩,⟨hs.symm,trivial⟩,⟨hs.symm,trivial⟩,λa2 N3 ao hf N4 aq=>hq _ _ (by omega) (Tm.is_mk.2 ⟨_,_,_,_,_,_,_,rfl,ab,by omega,Fo I hy⟩)⟩
theorem S9:(RF k n).Is (.ag [.j k,.t (bytes []),.t (bytes []),.j n,.j 0,.sl none 2 [] 0,.j 0,.sl none 2 [] 0,.sl none 9 [] 0]):=
 Tm.is_mk.2 ⟨_,_,_,_,_,_,_,rfl,⟨by decide,by decide,Ty.is_mk.2 ⟨_,_,_,rfl,by simp,rfl⟩,Ty.is_mk.2 ⟨_,_,_,rfl,by simp,rfl⟩⟩,by simp,rfl⟩
theorem MD {c1 Y c8:D}(h : -1152921504606846976<=m/\m<=1152921504606846976):pI 178 [.dg 9 (.ag [.j k,c1,I,.j n,J,O,U,Y,c8]),.j m] (zP k m):=λN Q hQ=>by
 refine DY N _ m Q λ_=>?_;rw[i64_in (m+1) (by omega),i64_in (m - 1) (by omega)]
 repeat' first|with_reducible intro _|simp only[Y1]|with_reducible refine X ?_ ?_|refine⟨_,_,_,rfl,?_⟩|refine⟨_,rfl,?_⟩|refine X0 ?_|fail
 all_goals(refine Qi (hQ _ (by omega)) ?_;simp[zP, *])
def LvIn (m:Int)(d:Nat):Prop := -1152921504606846976<=m - (d:Int)/\m+(d:Int)<=1152921504606846976
theorem LvIn.next {d d':Nat}(h:LvIn m d)(hd:d'+1<=d):LvIn (zP k m) d':=by
 unfold LvIn zP at *;split
 ·omega
 ·split<;>omega
theorem LvIn.b {d:Nat}(h:LvIn m d): -1152921504606846976<=m/\m<=1152921504606846976:=by unfold LvIn at h;omega
theorem dp_mem {nm ot:ByteArray}(h:y∈l):y.dp+1<=(Tm.mk k nm ot n ty re l).dp:=by
 have:=uZ.1 (oD (ut l)) y h
 simp only[Tm.dp];omega
theorem KI:∀(t:Tm)(d:D),t.Is d->∀ m:Int,LvIn m t.dp->vM 124 [.dg 9 d,.j m] (t.made m):=by
 refine Tm.ind λk nm ot n ty re l ih d hd m hm N Q hQ=>?_;obtain⟨t0,t1,r0,r1,a,es,c,rfl,hh,O,U⟩:=Tm.is_mk.1 hd;have hl:=U.len;have key:∀(N':Nat),N<=N'->(∀ N'',N'<=N''->Q (uu l (zP k m)) N'')->xR Q N m 0 (.ag [.j k,.t nm,.t ot,.j n,t0,t1,r0,r1,.sl a 9 es c]) N':=by
  refine up U O (λi xs=>∀(N':Nat),N<=N'->(∀ N'',N'<=N''->Q (uu xs (zP k m)) N'')->xR Q N m i (.ag [.j k,.t nm,.t ot,.j n,t0,t1,r0,r1,.sl a 9 es c]) N') ?_ ?_
  ·intro i aa _ N' ab J;refine AC ?_
   repeat' first|with_reducible intro _|simp only[aa,Y1]|with_reducible refine X ?_ ?_|refine⟨_,_,_,rfl,?_⟩|refine⟨_,rfl,?_⟩|refine X0 ?_|fail
   exact Qb (J _ (by omega)) (by simp[uu])
  ·intro i x xs I _ ac N' ab J;have ah:=I.b;refine AC ?_
   repeat' first|with_reducible intro _|simp only[I.lt,I.w,oI,Y1]|with_reducible refine X ?_ ?_|refine⟨_,_,_,rfl,?_⟩|refine⟨_,rfl,?_⟩|refine X0 ?_|refine(MD hm.b) _ _ ?_|refine(ih x I.m _ I.r _ (hm.next (dp_mem I.m))) _ _ ?_|fail
   ·refine Qb (J _ (by omega)) ?_;simp[uu, *]
   ·exact ac _ (by omega) λN'' h=>Qb (J N'' (by omega)) (by simp[uu, *])
 refine Lk N _ m Q λ_=>⟨_,rfl,Br.beq (λY=>Br.beq (λh2 N1 ae=>?_) λh2=>?_) λY=>?_⟩
 ·exact Qb (hQ _ ae) (by simp[Tm.made,Y,h2])
 ·exact key N (oD _) λN'' h=>Qb (hQ _ h) (by simp[Tm.made,Y,h2])
 ·exact key N (oD _) λN'' h=>Qb (hQ _ h) (by simp[Tm.made,Y])
theorem zi (he:e.Is d)(Y:e.ok=true)(ac:e.dp<=1073741824):vM 77 [.dg 9 d] e.res:=λN Q J=>by
 cases e with
 | mk k nm ot n0 ty re l=>
 obtain⟨t0,t1,r0,r1,a,es,c,rfl,hh,ab,U⟩:=Tm.is_mk.1 he;have hl:=U.len;refine Fd N _ Q λ_=>⟨_,rfl,?_⟩
 refine Br.beq (λh2 N1 I=>Qb (J _ I) (by simp[Tm.res,US,Tm.kd,h2])) λh2=>?_;refine Br.beq (λh3 N1 I=>Qb (J _ I) (by simp[Tm.res,US,Tm.kd,h3])) λh3=>?_;refine Br.beq (λh6 N1 I=>Qb (J _ I) (by simp[Tm.res,US,Tm.kd,h6])) λh6=>?_;refine Br.beq (λh9 N1 I=>Qb (J _ I) (by simp[Tm.res,US,Tm.kd,h9])) λh9=>?_;refine Br.beq (λO N1 I=>?_) λO N1 I=>Qb (J _ I) (by simp[Tm.res,US,Tm.kd,h2,h3,h6,h9,O]);subst O;have ae:=(rA Y).1 (by omega);have hm:=zk (l:=l) (i:=0) (by omega);have ah:=dp_mem (k:=10) (nm:=nm) (ot:=ot) (n:=n0) (ty:=ty) (re:=re) hm;refine GW _ _ he 0 N1 _ λN2 ai _=>Br.of (λhv=>⟨_,_,_,rfl,⟨by omega,by omega⟩,λN3 aa=>?_⟩) λhv N3 aa=>Qb (J _ (by omega)) (by simp[Tm.res,US,Tm.kd,hv]);refine KI _ _ (u9 U (j:=0) (by omega)) 1 (by unfold LvIn;omega) N3 _ λN4 aj _ N5 ak=>Qb (J _ (by omega)) ?_;simp[Tm.res,US,Tm.kd,hv,Tm.pt]
theorem Ah {S:Tm->Tm × Int}:∀ {l:List Tm}{i:Nat}{r:Tm × Int},goS S e l i=some r->∃ j x,l[j]?=some x/\x.res=false/\r=(e.wth (i+j) (S x).1,(S x).2)
 | [],_,_,h=>by simp[goS]at h
 | x::l,i,r,h=>by
   simp only[goS]at h;split at h
   ·obtain⟨j,y,I,J,O⟩:=Ah h;exact⟨j+1,y,by simpa using I,J,by rw[O,show i+1+j=i+(j+1) by omega]⟩
   ·rename_i hx;exact⟨0,x,rfl,by simpa using hx,(oU h).symm⟩
theorem Kb {S:Tm->Tm × Int}:∀ {l:List Tm}{i:Nat},goS S e l i=none↔∀ x∈l,x.res=true
 | [],_=>by simp[goS]
 | x::l,i=>by
   simp only[goS,oH,mD];split
   ·rename_i hx;rw[Kb (l:=l)];simp[hx]
   ·rename_i hx;simp[hx]
theorem zAv:tm0.G:=by simp[tm0,Tm.G,QR,Ty.cnt,zN]
theorem YQ (h:e.G):(e.pt i).G:=by
 cases e with
 | mk k nm ot n ty re l=>
 simp only[Tm.pt];by_cases hi:i<l.length
 ·exact yb h.2.2.2 (zk hi)
 ·rw[oB,oY (by omega)];exact zAv
theorem YC {x:Tm}(h:e.G)(hx:x.G):(e.wth i x).G:=by
 cases e with
 | mk k nm ot n ty re l=>
 refine⟨h.1,h.2.1,by simpa using h.2.2.1,HM λy I=>?_⟩;rcases nA I with I | rfl
 ·exact yb h.2.2.2 I
 ·exact hx
theorem zAD (h:e.G):e.apl.1.G:=by
 cases e with
 | mk k nm ot n ty re l=>
 have g:∀ i,(l.getD i tm0).G:=λi=>YQ (e:=.mk k nm ot n ty re l) h;have I:∀ i j,((l.getD i tm0).pt j).G:=λi j=>YQ (g i);simp only[Tm.apl,Tm.opr];have s:∀(t b:Tm) (x:ByteArray),t.G->b.G->(t.sb x b).G:=λt b x J O=>X6 _ t x b J O;have U:∀ k n,(RF k n).G:=λk n=>by simp[RF,Tm.G,QR,Ty.cnt,zN]
 have nn:∀ x:Tm,x.G->(Tm.nod 10 [x]).G:=λx hx=>by simpa [Tm.nod,Tm.G,QR,Ty.cnt,zN]using hx
 (repeat' split)<;>first | exact h | exact g _ | exact I _ _ | exact s _ _ _ (I _ _) (g _) | exact s _ _ _ (s _ _ _ (I _ _) (g _)) (g _) | exact s _ _ _ (g _) (g _) | exact U _ _ | exact nn _ (g _)
theorem zAM {S:Tm->Tm × Int}(hS:∀ x:Tm,x.G->(S x).1.G):∀(t:Tm)(m:Int),t.G->(t.cod S m).1.G:=by
 refine Tm.ind λk nm ot n ty re l ih m h=>?_;simp only[Tm.cod];split
 ·unfold YT;split
  ·split
   ·exact YQ (YQ h)
   ·exact h
  ·exact YC h (hS _ (YQ h))
 ·have key:∀(xs:List Tm),(∀ x∈xs,x∈l)->∀ l' r,ym S xs (zP k m)=some (l',r)->l'.length=xs.length/\∀ x∈l',x.G:=by
   intro xs
   induction xs with
   | nil=>intro _ l' r h;simp[ym]at h
   | cons x xs J=>
     intro O l' r I;have hx:=O x (by simp);simp only[ym]at I;split at I
     ·cases I;refine⟨by simp,λy hy=>?_⟩;rcases oH.1 hy with rfl | hy
      ·exact ih x hx _ (yb h.2.2.2 hx)
      ·exact yb h.2.2.2 (O y (by simp[hy]))
     ·split at I
      ·cases I
      ·rename_i l2 r2 h3;cases I;obtain⟨U,Y⟩:=J (λy hy=>O y (by simp[hy])) _ _ h3;refine⟨by simp[U],λy hy=>?_⟩;rcases oH.1 hy with rfl | hy
       ·exact yb h.2.2.2 hx
       ·exact Y y hy
  cases hc:ym S l (zP k m)with
  | none=>exact h
  | some p=>obtain⟨l',r⟩:=p;obtain⟨U,Y⟩:=key l (λx hx=>hx) l' r hc;exact⟨h.1,h.2.1,by rw[U];exact h.2.2.1,HM Y⟩
theorem Zh:∀(f:Nat)(e:Tm),e.G->(e.stp f).1.G
 | 0,e,h=>h
 | f + 1,.mk k nm ot n ty re l,h=>by
   have I:=Zh f;simp only[Tm.stp];split
   ·exact h
   ·by_cases hk:(Tm.mk k nm ot n ty re l).kd=10
    ·rw[if_pos hk];exact YC h (zAM I _ 1 (YQ h))
    ·rw[if_neg hk];cases J:goS (Tm.stp f) (Tm.mk k nm ot n ty re l) (l.take (AP k l.length)) 0 with
     | none=>exact zAD h
     | some r=>obtain⟨j,x,O,U,rfl⟩:=Ah J;exact YC h (I x (yb h.2.2.2 (List.take_subset _ _ (oA O))))
def YI (F:FuncId)(f:Nat):Prop:=∀(e:Tm) (d:D),e.Is d->e.F f->Rl F [.dg 9 d] (e.stp f)
theorem Tm.F.dp (h:e.F f):e.dp<=1073741824:=h.b
theorem ZX {nm ot:ByteArray}:(Tm.mk k nm ot n ty re l).pt i=l.getD i tm0:=rfl
theorem GO {dy:D}(h:t.Is d)(I:t.G)(J:y.Is dy)(hi:i<t.as.length)(N:Nat)(Q:QT [.ag 9])(O:∀ d' N',N<=N'->(t.wth i y).Is d'->Q d' N'):
  ACalls prog 128 [.ag 9] [.dg 9 d,.j (i:Int),.dg 9 dy] N Q:=
 If N _ _ _ Q λ_ _ N1 U=>zAq r8 h I J hi (λd N=>Q d N) λd' N' h1 Y=>O _ _ (by omega) Y
theorem KF (hS:YI 78 f){nm ot:ByteArray}(h:(Tm.mk k nm ot n0 ty re l).Is d)(O:(Tm.mk k nm ot n0 ty re l).F (f+1))(hi:i<l.length):
  Rl 179 [.dg 9 d,.j (i:Int)] ((Tm.mk k nm ot n0 ty re l).wth i (Tm.stp f (l.getD i tm0)).1,(Tm.stp f (l.getD i tm0)).2):=λN Q U=>by
 obtain⟨t0,t1,r0,r1,a,es,c,rfl,hh,Y,I⟩:=Tm.is_mk.1 h;have hl:=I.len;refine Nj N _ _ Q λ_=>⟨_,_,_,rfl,⟨by omega,by omega⟩,λN1 aa=>?_⟩
 rw[oI];refine hS _ _ (u9 I hi) (O.mem _ (zk hi)) N1 _ λdx N2 ab hx _ _=>Br.beq (λh0 N3 ac=>?_) λh0 N4 ae=>?_
 ·refine U _ _ (by omega) ?_;have e1:=Wn f _ h0;simp only;rw[e1,<-ZX (k:=k) (nm:=nm) (ot:=ot) (n:=n0) (ty:=ty) (re:=re),Qc];exact h
 ·exact GO h O.z.g hx hi N4 _ λd' N5 ah J _ _ N6 ai=>U _ _ (by omega) J
theorem SA (hS:YI 78 f):∀(t:Tm)(d:D),t.Is d->t.F (f+1)->∀ m:Int,LvIn m t.dp->Yh 127 [.dg 9 d,.j m] (t.cod (Tm.stp f) m):=by
 refine Tm.ind λk nm ot n0 ty re l ih d hd hF m hm N Q J=>?_;have Y:=hd;obtain⟨t0,t1,r0,r1,a,es,c,rfl,hh,aj,ab⟩:=Tm.is_mk.1 hd;have hl:=ab.len;have loop:¬(k=11/\m=1)->yd Q N m 0 (.ag [.j k,.t nm,.t ot,.j n0,t0,t1,r0,r1,.sl a 9 es c]) 0 (bytes []) (bytes []) 0 0 none [] 0 0 none [] 0 none [] 0 N:=λao=>by
  simp only[Tm.cod]at J;rw[if_neg ao]at J;refine up ab aj (λi xs=>∀ N',N<=N'->(match ym (Tm.stp f) xs (zP k m)with | none=>ym (Tm.stp f) l (zP k m)=none | some (l',r)=>ym (Tm.stp f) l (zP k m)=some (l.take i++l',r)) ->
   yd Q N m i (.ag [.j k,.t nm,.t ot,.j n0,t0,t1,r0,r1,.sl a 9 es c]) 0 (bytes []) (bytes []) 0 0 none [] 0 0 none [] 0 none [] 0 N') ?_ ?_ N (oD _) ?_
  ·intro i aq hi N' au O;simp only[ym]at O;rw[O]at J;refine rY ⟨_,_,_,rfl,?_⟩;rw[aq];exact λN2 ak=>J _ _ (by omega) Y
  ·intro i x xs I aw ax N' au O;have hb:=I.b;have al:i<l.length:=(oC.1 I.g).1;refine rY ⟨_,_,_,rfl,?_⟩;rw[I.lt,oI,I.w];refine⟨_,_,_,rfl,⟨by omega,by omega⟩,λN1 ay=>MD hm.b N1 _ λN2 ak _ N3 az=>?_⟩;refine ih x I.m _ I.r ((hF.mem x I.m).up (by omega)) _ (hm.next (dp_mem I.m)) N3 _ λdx N4 a0 hx _ _=>Br.of (λhv N5 a3=>?_) λhv=>?_
   ·simp only[ym]at O;rw[if_pos hv]at O;simp only at O;rw[O]at J;refine GO Y hF.z.g hx al N5 _ λd' N6 a4 ac _ _ N7 a5=>J _ _ (by omega) ?_;have:l.take i++(x.cod (Tm.stp f) (zP k m)).1::xs=l.set i (x.cod (Tm.stp f) (zP k m)).1:=by rw[List.set_eq_take_append_cons_drop,if_pos al,aw]
    simp only;rw[this];exact ac
   ·refine ax _ (by omega) ?_;simp only[ym]at O;rw[if_neg (by rw[hv];decide)]at O;cases hc:ym (Tm.stp f) xs (zP k m)with
    | none=>rw[hc]at O;exact O
    | some p=>obtain⟨l',r⟩:=p;rw[hc]at O;simp only at O ⊢;rw[O,zX I.g,nq];rfl
  ·cases hc:ym (Tm.stp f) l (zP k m)with
   | none=>rfl
   | some p=>obtain⟨l',r⟩:=p;simp
 refine Id N _ m Q λ_=>⟨_,rfl,Br.beq (λh1=>Br.beq (λh2=>?_) λh2=>loop λh=>h2 h.2) λh1=>loop λh=>h1 h.1⟩
 have a9:=(rA hF.ok).1 (by omega);have ae:0<l.length:=by omega
 have am:=zk ae;have U:=hF.mem _ am;have ah:=u9 ab ae;simp only[Tm.cod]at J;rw[if_pos ⟨h1,h2⟩]at J;unfold YT at J;rw[ZX]at J;refine⟨_,_,_,rfl,⟨by omega,by omega⟩,λN1 ay=>zi ah U.ok U.dp N1 _ λN2 ak _=>Br.not (λhr N3 az=>?_) λhr=>?_⟩
 ·rw[if_neg (by rw[hr];decide)]at J;exact KF hS Y hF ae N3 _ λdx N4 a0 hx _ _ N5 a3=>J _ _ (by omega) hx
 ·rw[if_pos hr]at J;generalize l.getD 0 tm0=p at ah U hr J am;cases p with
  | mk pk pn po pm pt pr pl=>
  obtain⟨u0,u1,v0,v1,a2,ba,c2,heq,bb,a6,aa⟩:=Tm.is_mk.1 ah;have bc:=aa.len;rw[heq];refine⟨_,rfl,Br.beq (λai=>?_) λai bg a8=>?_⟩
  ·rw[if_pos (by exact ai)]at J;have bh:=(rA U.ok).1 (by omega);have a7:=zk (l:=pl) (i:=0) (by omega);refine⟨_,_,_,rfl,⟨by omega,by omega⟩,λN6 a4=>?_⟩;refine PX r8 (u9 aa (j:=0) (by omega)) (yb U.z.g.2.2.2 a7) (N0:=N) (by omega) (λd N=>Q d 6 true N) λd' N7 a5 ac _=>J _ _ (by omega) ac
  ·rw[if_neg (by exact ai)]at J;exact J _ _ (by omega) Y
def Oc (l:List Tm)(i:Nat):List D:=[.j (if 0<i then(l.getD 0 tm0).no else 0),.j (if 1<i then(l.getD 1 tm0).no else 0)]
theorem Vf (hi:i<2):(Oc l i).set i (.j ((l.getD i tm0).no))=Oc l (i+1):=by
 match i,hi with
 | 0,_=>rfl
 | 1,_=>rfl
theorem Ka (h:l.length<=i):l.getD i tm0=tm0:=by rw[oB,oY h];rfl
theorem Ve (h:l.length<=2):Oc l l.length=[.j ((l.getD 0 tm0).no),.j ((l.getD 1 tm0).no)]:=by
 unfold Oc;by_cases I:0<l.length
 ·by_cases J:1<l.length
  ·rw[if_pos I,if_pos J]
  ·rw[if_pos I,if_neg J,Ka (i:=1) (by omega)];rfl
 ·rw[if_neg I,if_neg (by omega),Ka (i:=0) (by omega),Ka (i:=1) (by omega)];rfl
theorem Xo (s:ByteArray):JO s<=2:=by unfold JO;(repeat' split)<;>decide
theorem Ur (n:Int)(N:Nat)(Q:QT [.ag 9])(J:∀ d N',N<=N'->(RF 2 n).Is d->Q d N'):ACalls prog 74 [.ag 9] [.j n] N Q:=AY N n Q λN1 I=>J _ _ I S9
theorem SE (n:Int)(N:Nat)(Q:QT [.ag 9])(J:∀ d N',N<=N'->(RF 3 n).Is d->Q d N'):ACalls prog 73 [.ag 9] [.j n] N Q:=qY N n Q λN1 I=>J _ _ I S9
theorem Kc {S:Tm->Tm × Int}{x:Tm}{xs:List Tm}(h:x.res=true):goS S e (x::xs) i=goS S e xs (i+1):=by simp[goS,h]
theorem Xq {nm ot:ByteArray}(h:∀ x∈l,x.kd=ud nm):(Tm.mk 4 nm ot n0 ty re l).opr l=(RF (Az nm) (yQ nm (l.getD 0 tm0).no (l.getD 1 tm0).no).1,1):=by unfold Tm.opr;rw[if_pos (oa.2 λx hx=>by rw[h x hx];exact beq_self_eq_true _)];rfl
theorem Xp {nm ot:ByteArray}{x:Tm}(hx:x∈l)(h:x.kd≠ud nm):(Tm.mk 4 nm ot n0 ty re l).opr l=(Tm.mk 4 nm ot n0 ty re l,0):=by unfold Tm.opr;rw[if_neg λhc=>h (by have:=oa.1 hc _ hx;simpa [Tm.nm]using this)]
theorem SB {nm ot:ByteArray}{t0 t1 r0 r1:D}(ae:(Tm.mk 4 nm ot n0 ty re l).Is (.ag [.j 4,.t nm,.t ot,.j n0,t0,t1,r0,r1,.sl a 9 es c]))(ab:All2 Tm.Is l es)(ac:es.length<=4611686018427387904)(ah:l.length<=2){Q:QT [.ag 9,.i]}(U:∀ d N',N<=N'->((Tm.mk 4 nm ot n0 ty re l).opr l).1.Is d->Q d ((Tm.mk 4 nm ot n0 ty re l).opr l).2 N')(N':Nat)(O:N<=N'):
  xQ Q N (ud nm) 2 2 0 (.ag [.j 4,.t nm,.t ot,.j n0,t0,t1,r0,r1,.sl a 9 es c]) 0 (bytes []) (bytes []) 0 0 none [] 0 0 none [] 0 none [] 0 [.j 0,.j 0] 2 N':=by
 have hl:=ab.len;refine up ab ac (λi xs=>∀ N',N<=N'->(∀ j x,j<i->l[j]?=some x->x.kd=ud nm)->xQ Q N (ud nm) 2 2 i (.ag [.j 4,.t nm,.t ot,.j n0,t0,t1,r0,r1,.sl a 9 es c]) 0 (bytes []) (bytes []) 0 0 none [] 0 0 none [] 0 none [] 0 (Oc l i) 2 N') ?_ ?_ N' O (λj x h=>absurd h (by omega))
 ·intro i ai hi N' O hk;rw[Xq λx hx=>by obtain⟨j,hj⟩:=oQ.1 hx;exact hk j x (by have:=(oC.1 hj).1;omega) hj]at U;refine pu ⟨_,_,_,rfl,?_⟩;rw[ai];have aj:i=l.length:=by omega
  rw[aj,Ve ah];refine⟨_,rfl,⟨⟨by omega,by omega,by simp⟩,by simp,_,rfl,⟨by omega,by omega,by simp⟩,by simp,_,rfl,λN2 az=>s6 _ _ _ N2 _ λN3 a0 _=>⟨_,rfl,?_⟩⟩⟩;have J:Km nm=true->∀ Y,N3<=Y->ACalls prog 74 [.ag 9] [.j (yQ nm (l.getD 0 tm0).no (l.getD 1 tm0).no).1] Y (λx N5=>Y<=N5->Bel N5 x->∀ N6,N5<=N6->Q x 1 N6):=λho Y ak=>by rw[show Az nm=2 by unfold Az;rw[if_pos ho]]at U;exact Ur _ Y _ λx N5 al hx _ _ N6 am=>U _ _ (by omega) hx
  refine Br.str (λe1=>J (by simp[Km,e1])) λe1=>⟨_,rfl,Br.str (λe2=>J (by simp[Km,e2])) λe2=>⟨_,rfl,Br.str (λe3=>J (by simp[Km,e3])) λe3 Y ak=>?_⟩⟩
  rw[show Az nm=3 by unfold Az;rw[if_neg (by simp[Km,e1,e2,e3])]]at U;exact SE _ Y _ λx N5 al hx _ _ N6 am=>U _ _ (by omega) hx
 ·intro i x xs I a3 ao N' O hk;have hb:=I.b;have hx:=I.r;refine pu ⟨_,_,_,rfl,?_⟩;rw[I.lt,oI,I.w];have aq:l.getD i tm0=x:=by rw[oB,I.g];rfl
  cases x with
  | mk pk pn po pm pt pr pl=>
  obtain⟨u0,u1,v0,v1,a2,a4,c2,heq,a5,au,ay⟩:=Tm.is_mk.1 hx;refine⟨_,_,_,rfl,⟨by omega,by omega⟩,pk,by rw[heq];rfl,Br.bne (λaw N1 a6=>?_) λhe=>⟨_,_,_,rfl,⟨by omega,by omega⟩,pm,by rw[heq];rfl,⟨by omega,by omega,by simp only[Oc,oJ,oN];omega⟩,by simp only[Oc,oJ,oN];omega,?_⟩⟩
  ·rw[Xp I.m aw]at U;exact U _ _ (by omega) ae
  ·rw[nT];have aa:=Vf (l:=l) (i:=i) (by omega);rw[aq]at aa;simp only[Tm.no]at aa;rw[aa];refine ao _ O λj y hj hy=>?_;by_cases ax:j<i
   ·exact hk j y ax hy
   ·have:j=i:=by omega
    subst this;rw[I.g]at hy;rw[<-oU hy];exact he
theorem XB (hS:YI 78 f){nm ot:ByteArray}(hd:(Tm.mk 4 nm ot n0 ty re l).Is d)(hF:(Tm.mk 4 nm ot n0 ty re l).F (f+1)){r:Tm × Int}(hr:(match goS (Tm.stp f) (Tm.mk 4 nm ot n0 ty re l) l 0 with | some r=>r | none=>(Tm.mk 4 nm ot n0 ty re l).opr l)=r):
  Rl 125 [.dg 9 d] r:=λN Q hQ=>by
 have aa:=hd;obtain⟨t0,t1,r0,r1,a,es,c,rfl,hh,U,Y⟩:=Tm.is_mk.1 hd;have hl:=Y.len;have ae:l.length<=2:=by have h1:=(rA hF.ok).2.2.2.2 rfl;have h2:=Xo nm;omega
 have J:(∀ x∈l,x.res=true)->∀ N',N<=N'->xQ Q N (ud nm) 2 2 0 (.ag [.j 4,.t nm,.t ot,.j n0,t0,t1,r0,r1,.sl a 9 es c]) 0 (bytes []) (bytes []) 0 0 none [] 0 0 none [] 0 none [] 0 [.j 0,.j 0] 2 N':=λab N' O=>by
  have hg:goS (Tm.stp f) (Tm.mk 4 nm ot n0 ty re l) l 0=none:=by
   have:∀(xs:List Tm) (i:Nat),(∀ x∈xs,x.res=true)->goS (Tm.stp f) (Tm.mk 4 nm ot n0 ty re l) xs i=none:=by
    intro xs
    induction xs with
    | nil=>intro i _;rfl
    | cons x xs ih=>intro i h;rw[Kc (h x (by simp))];exact ih _ λy hy=>h y (by simp[hy])
   exact this l 0 ab
  rw[hg]at hr;simp only at hr;subst hr;exact SB aa Y U ae hQ N' O
 have first:yc Q N (ud nm) 2 2 0 (.ag [.j 4,.t nm,.t ot,.j n0,t0,t1,r0,r1,.sl a 9 es c]) 0 (bytes []) (bytes []) 0 0 none [] 0 0 none [] 0 none [] 0 [.j 0,.j 0] 2 N:=by
  refine up Y U (λi xs=>∀ N',N<=N'->(∀ j x,j<i->l[j]?=some x->x.res=true)->(match goS (Tm.stp f) (Tm.mk 4 nm ot n0 ty re l) xs i with | some r=>r | none=>(Tm.mk 4 nm ot n0 ty re l).opr l)=r->yc Q N (ud nm) 2 2 i (.ag [.j 4,.t nm,.t ot,.j n0,t0,t1,r0,r1,.sl a 9 es c]) 0 (bytes []) (bytes []) 0 0 none [] 0 0 none [] 0 none [] 0 [.j 0,.j 0] 2 N') ?_ ?_ N (oD _) (λj x h=>absurd h (by omega)) hr
  ·intro i ah hi N' O hk _;refine BT ⟨_,_,_,rfl,?_⟩;rw[ah];refine J (λx hx=>?_) N' O;obtain⟨j,hj⟩:=oQ.1 hx;exact hk j x (by have:=(oC.1 hj).1;omega) hj
  ·intro i x xs I al ai N' O hk he;have hb:=I.b;have aj:i<l.length:=(oC.1 I.g).1;obtain rfl:l.getD i tm0=x:=by rw[oB,I.g];rfl
   have ac:=hF.mem _ I.m;refine BT ⟨_,_,_,rfl,?_⟩;rw[I.lt,oI,I.w];refine⟨_,_,_,rfl,⟨by omega,by omega⟩,λN1 am=>zi I.r ac.ok ac.dp N1 _ λN2 ao _=>Br.not (λhv N3 aq=>?_) λhv=>?_⟩
   ·simp only[goS]at he;rw[if_neg (by rw[hv];decide)]at he;simp only at he;subst he;exact KF hS aa hF aj N3 _ λdx N4 au hx _ _ N5 aw=>hQ _ _ (by omega) hx
   ·rw[Kc hv]at he;refine ai _ (by omega) (λj y hj hy=>?_) he;by_cases ak:j<i
    ·exact hk j y ak hy
    ·have:j=i:=by omega
     subst this;rw[I.g]at hy;rw[<-oU hy];exact hv
 refine Nk N _ Q λ_=>⟨_,rfl,Br.str (λe1=>?_) λe1=>⟨_,rfl,Br.str (λe2=>?_) λe2=>⟨_,rfl,Br.str (λe3=>?_) λe3=>?_⟩⟩⟩
 ·have:ud nm=3:=by simp[ud,Cp,e1]
  rw[this]at first;exact first
 ·have:ud nm=3:=by simp[ud,Cp,e2]
  rw[this]at first;exact first
 ·have:ud nm=3:=by simp[ud,Cp,e3]
  rw[this]at first;exact first
 ·have:ud nm=2:=by simp[ud,Cp,e1,e2,e3]
  rw[this]at first;exact first
end Go.Proofs.YtlaniepnglheoaaGreat
