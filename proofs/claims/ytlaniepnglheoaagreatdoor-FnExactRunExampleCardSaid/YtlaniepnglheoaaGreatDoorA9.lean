/- Free names, fresh names, substitution: what they are (no program in sight). -/
import Derived.Test.YtlaniepnglheoaaGreatDoorA5
import Derived.Lib.ItoaNum
import Derived.Test.YtlaniepnglheoaaGreatDoorKa
import Derived.Shelf.Strconv.Itoa3
import Derived.Test.YtlaniepnglheoaaGreatDoorKd
import Derived.Test.YtlaniepnglheoaaGreatDoorKf
set_option linter.unusedVariables false
set_option linter.unusedSimpArgs false
namespace Go.Proofs.YtlaniepnglheoaaGreatDoor
open Go Go.Proofs Go.Proofs.Tryz Go.IntWalk
instance decMem (s:ByteArray) (l:List ByteArray):Decidable (s∈l):=decidable_of_iff ((l.any fun x=>decide (x=s))=true) (by simp)
def dd:List ByteArray->List ByteArray->List ByteArray
 | out,[]=>out
 | out,s::l=>dd (if s∈out then out else out++[s]) l
def tw (a b:List ByteArray):List ByteArray:=dd (dd [] a) b
def sG (I l:List ByteArray):List ByteArray:=l.filter λs=>decide (s∉I)
theorem Tk:∀(out a b:List ByteArray),dd out (a++b)=dd (dd out a) b
 | out,[],b=>rfl
 | out,s::a,b=>by simp only[o3,dd];exact Tk _ a b
theorem P7:∀(out l:List ByteArray)(x:ByteArray),x∈dd out l↔x∈out\/x∈l
 | out,[],x=>by simp[dd]
 | out,s::l,x=>by
   simp only[dd];rw[P7];split
   ·rename_i h;constructor
    ·rintro(h1 | h1)
     ·exact .inl h1
     ·exact .inr (by simp[h1])
    ·rintro(h1 | h1)
     ·exact .inl h1
     ·rcases oL.1 h1 with rfl | h1
      ·exact .inl h
      ·exact .inr h1
   ·simp only[oM,o5,oL,mn,or_false,or_assoc]
theorem Iy:∀(out l:List ByteArray),out.Nodup->(dd out l).Nodup
 | out,[],h=>h
 | out,s::l,h=>by
   simp only[dd];refine Iy _ l ?_;split
   ·exact h
   ·rename_i hs;rw[nS];refine⟨h,by simp,λa J b I=>?_⟩;rw[o5]at I;subst I;exact λhc=>hs (hc ▸ J)
theorem FH:∀(out l:List ByteArray),(dd out l).length<=out.length+l.length
 | out,[]=>by simp[dd]
 | out,s::l=>by
   simp only[dd]
   have:=FH (if s∈out then out else out++[s]) l
   split at this<;>simp_all<;>omega
theorem LR {a b:List ByteArray}{x:ByteArray}:x∈tw a b↔x∈a\/x∈b:=by unfold tw;rw[P7,P7];simp
theorem Mn (a b:List ByteArray):(tw a b).Nodup:=Iy _ _ (Iy _ _ mO)
theorem uU {n l:List ByteArray}{x:ByteArray}:x∈sG n l↔x∈l/\x∉n:=by simp[sG]
theorem I8:∀ {l m:List ByteArray},l.Nodup->(∀ x∈l,x∈m)->l.length<=m.length
 | [],m,_,_=>Nat.zero_le _
 | x::l,m,J,hs=>by
   obtain⟨O,U⟩:=nw.1 J;have Y:=hs x (by simp);have h3:=I8 (l:=l) (m:=m.filter λy=>decide (y≠x)) U λy I=>by rw[mJ];exact⟨hs y (by simp[I]),by simp;exact λhc=>O (hc ▸ I)⟩
   have h4:=ms (p:=λy=>decide (y≠x)).2 ⟨x,Y,by simp⟩;simp only[oJ];omega
def yX (k:Int)(n:Nat):Int:=if k=6/\n=1 then 0 else if k=8/\n=2 then 1 else if k=9/\n=1 then 0 else -1
def bdN (k:Int)(nm ot:ByteArray)(n:Nat):List ByteArray:=if k=6/\n=1 then [nm]else if k=8/\n=2 then [nm]else if k=9/\n=1 then [nm,ot]else []
theorem qC (k:Int)(nm ot:ByteArray)(n:Nat):(bdN k nm ot n).length<=2:=by unfold bdN;(repeat' split)<;>simp
theorem vV (k:Int)(n:Nat):yX k n = -1\/(yX k n=0/\n=1/\(k=6\/k=9))\/(yX k n=1/\n=2/\k=8):=by unfold yX;(repeat' split)<;>simp_all
mutual
def Tm.fv:Tm->List ByteArray
 | .mk k nm ot _ _ _ l=>if k=1 then [nm]else u5 l (yX k l.length) (bdN k nm ot l.length) 0 []
def u5:List Tm->Int->List ByteArray->Nat->List ByteArray->List ByteArray
 | [],_,_,_,out=>out
 | x::xs,at_,ns,i,out=>u5 xs at_ ns (i+1) (tw out (if(i:Int)=at_ then sG ns x.fv else x.fv))
end
def fvI (at_:Int)(ns:List ByteArray)(i:Nat)(x:Tm):List ByteArray:=if(i:Int)=at_ then sG ns x.fv else x.fv
theorem LH:∀(l:List Tm)(at_:Int)(ns:List ByteArray)(i:Nat)(out:List ByteArray)(s:ByteArray),s∈u5 l at_ ns i out↔s∈out\/∃(j:Nat)(x:Tm),l[j]?=some x/\s∈fvI at_ ns (i+j) x
 | [],_,_,_,out,s=>by simp[u5]
 | y :: l,at_,ns,i,out,s=>by
   simp only[u5];rw[LH,LR];constructor
   ·rintro((h | h) | ⟨j,x,I,J⟩)
    ·exact .inl h
    ·exact .inr ⟨0,y,rfl,h⟩
    ·exact .inr ⟨j+1,x,by simpa using I,by rw[show i+(j+1)=i+1+j by omega];exact J⟩
   ·rintro(h | ⟨j,x,I,J⟩)
    ·exact .inl (.inl h)
    ·cases j with
     | zero=>simp at I;subst I;exact .inl (.inr J)
     | succ j=>exact .inr ⟨j,x,by simpa using I,by rw[show i+1+j=i+(j+1) by omega];exact J⟩
theorem F1:∀(l:List Tm)(at_:Int)(ns:List ByteArray)(i:Nat)(out:List ByteArray),out.Nodup->(u5 l at_ ns i out).Nodup
 | [],_,_,_,out,h=>h
 | y::l,at_,ns,i,out,h=>by simp only[u5];exact F1 l _ _ _ _ (Mn _ _)
theorem Tm.fv_mem {k:Int}{nm ot:ByteArray}{n:Int}{ty re:Ty}{l:List Tm}{s:ByteArray}:s∈(Tm.mk k nm ot n ty re l).fv↔(k=1/\s=nm)\/(k≠1/\∃(j:Nat)(x:Tm),l[j]?=some x/\s∈fvI (yX k l.length) (bdN k nm ot l.length) j x):=by
 simp only[Tm.fv];by_cases I:k=1
 ·simp[I]
 ·rw[if_neg I,LH];simp[I]
theorem Tm.fv_nodup (t:Tm):t.fv.Nodup:=by
 cases t;simp only[Tm.fv];split
 ·simp
 ·exact F1 _ _ _ _ _ mO
def tD (k:Nat):ByteArray:=⟨(118::Lib.decDigits k).toArray⟩
theorem P8:∀(a b:Nat),Lib.decDigits a=Lib.decDigits b->a=b:=by
 intro a;have U:∀ u,(Lib.decDigits u).length=Lib.nDigits u:=Lib.decDigits_length;have e1:∀ u,u<10->Lib.decDigits u=[UInt8.ofNat (48+u)]:=λu h=>by rw[Lib.decDigits,dif_pos h]
 have Y:∀ u,¬u<10->Lib.decDigits u=Lib.decDigits (u / 10)++[UInt8.ofNat (48+u % 10)]:=λu h=>by rw[Lib.decDigits,dif_neg h]
 have u8:∀ x y:Nat,x<10->y<10->UInt8.ofNat (48+x)=UInt8.ofNat (48+y)->x=y:=λx y hx hy h=>by
  have:=oY UInt8.toNat h
  simp only[UInt8.toNat_ofNat']at this;omega
 induction a using Nat.strongRecOn with
 | _ a ih=>
   intro b h;have J:=oY List.length h;rw[U,U]at J;by_cases I:a<10
   ·rw[Lib.nDigits_small I]at J;have O:b<10:=by
     refine lN λhc=>?_;rw[Lib.nDigits_big (by omega)]at J
     have:=Lib.nDigits_pos (b / 10)
     omega
    rw[e1 a I,e1 b O]at h;exact u8 a b I O (by simpa using h)
   ·have O:¬b<10:=λhc=>by
     rw[Lib.nDigits_big I,Lib.nDigits_small hc]at J
     have:=Lib.nDigits_pos (a / 10)
     omega
    rw[Y a I,Y b O]at h;obtain⟨h1,h2⟩:=List.append_inj' h rfl
    have:=ih (a / 10) (by omega) (b / 10) h1
    have:=u8 (a % 10) (b % 10) (by omega) (by omega) (by simpa using h2)
    omega
theorem Rm {a b:Nat}(h:tD a=tD b):a=b:=by
 have:(118::Lib.decDigits a:List UInt8)=118::Lib.decDigits b:=by
  have:=oY (λx:ByteArray=>x.data.toList) h
  simpa [tD]using this
 exact P8 a b (by simpa using this)
def qM:Nat->Nat->List ByteArray->Nat
 | 0,k,_=>k
 | f+1,k,l=>if tD k∈l then qM f (k+1) l else k
def fresh (l:List ByteArray):ByteArray:=tD (qM l.length 1 l)
theorem Sw:∀(n k:Nat),((List.range n).map λi=>tD (k+i)).Nodup:=λn k=>by
 rw[List.nodup_iff_pairwise_ne,List.pairwise_map];refine List.Pairwise.imp (λ{a b} h hc=>?_) (List.nodup_iff_pairwise_ne.1 List.nodup_range)
 have:=Rm hc
 omega
theorem UM (l:List ByteArray)(k:Nat)(h:∀ j,1<=j->j<k->tD j∈l)(J:1<=k):k<=l.length+1:=by
 have:=I8 (Sw (k - 1) 1) (m:=l) λx I=>by obtain⟨i,hi,rfl⟩:=oU.1 I;rw[List.mem_range]at hi;exact h _ (by omega) (by omega)
 simp at this;omega
theorem FP (l:List ByteArray):∀(f k:Nat),1<=k->k+f=l.length+1->(∀ j,1<=j->j<k->tD j∈l)->1<=qM f k l/\qM f k l<=l.length+1/\tD (qM f k l)∉l/\∀ j,1<=j->j<qM f k l->tD j∈l
 | 0,k,J,h2,I=>by
   simp only[qM];refine⟨J,by omega,λhc=>?_,I⟩
   have:=UM l (k+1) (λj O h5=>by
    by_cases U:j=k
    ·subst U;exact hc
    ·exact I j O (by omega)) (by omega)
   omega
 | f + 1,k,J,h2,I=>by
   simp only[qM];split
   ·rename_i Y;exact FP l f (k+1) (by omega) (by omega) λj O h5=>by
     by_cases U:j=k
     ·subst U;exact Y
     ·exact I j O (by omega)
   ·rename_i Y;exact⟨J,by omega,Y,I⟩
theorem sL (l:List ByteArray):∃ k,fresh l=tD k/\1<=k/\k<=l.length+1/\tD k∉l/\∀ j,1<=j->j<k->tD j∈l:=by
 obtain⟨I,J,O,U⟩:=FP l l.length 1 (oC _) (by omega) λj I J=>by omega
 exact⟨_,rfl,I,J,O,U⟩
theorem FQ (l:List ByteArray):fresh l∉l:=by obtain⟨k,h,_,_,I,_⟩:=sL l;rw[h];exact I
theorem SX {l m:List ByteArray}(h:∀ x,x∈l↔x∈m):fresh l=fresh m:=by
 obtain⟨k,e1,a1,a2,a3,a4⟩:=sL l;obtain⟨j,I,b1,b2,J,b4⟩:=sL m;rw[e1,I];congr 1;refine Nat.le_antisymm (Nat.le_of_not_lt λhc=>?_) (Nat.le_of_not_lt λhc=>?_)
 ·exact J ((h _).1 (a4 j b1 hc))
 ·exact a3 ((h _).2 (b4 k a1 hc))
def tm0:Tm:=.mk 0 (bytes []) (bytes []) 0 (.mk 0 []) (.mk 0 []) []
def sZ (s:ByteArray):Tm:=.mk 1 s (bytes []) 0 (.mk 0 []) (.mk 0 []) []
theorem Mp (s:ByteArray):(sZ s).fv=[s]:=rfl
def rn1 (S:Tm->ByteArray->Tm->Tm)(k:Int)(n:Nat)(fb:List ByteArray)(x old:ByteArray)(s:ByteArray × ByteArray × Tm):ByteArray × ByteArray × Tm:=
 if old∈fb then
  (if s.1=old then(fresh (fb++(s.2.2.fv++([x]++bdN k s.1 s.2.1 n))),s.2.1,S s.2.2 old (sZ (fresh (fb++(s.2.2.fv++([x]++bdN k s.1 s.2.1 n))))))
   else(s.1,fresh (fb++(s.2.2.fv++([x]++bdN k s.1 s.2.1 n))),S s.2.2 old (sZ (fresh (fb++(s.2.2.fv++([x]++bdN k s.1 s.2.1 n)))))))
 else s
def rns (S:Tm->ByteArray->Tm->Tm)(k:Int)(n:Nat)(fb:List ByteArray)(x:ByteArray):List ByteArray->ByteArray × ByteArray × Tm->ByteArray × ByteArray × Tm
 | [],s=>s
 | old::l,s=>rns S k n fb x l (rn1 S k n fb x old s)
def Tm.sub:Nat->Tm->ByteArray->Tm->Tm
 | 0,e,_,_=>e
 | f + 1,.mk k nm ot n ty re l,x,b=>
   if k=1 then(if nm=x then b else .mk k nm ot n ty re l)
   else if yX k l.length<0 then .mk k nm ot n ty re (l.map λt=>Tm.sub f t x b)
   else if x∈bdN k nm ot l.length\/x∉(l.getD (yX k l.length).toNat tm0).fv then
    .mk k nm ot n ty re ((l.map λt=>Tm.sub f t x b).set (yX k l.length).toNat (l.getD (yX k l.length).toNat tm0))
   else
    .mk k (rns (Tm.sub f) k l.length b.fv x (bdN k nm ot l.length) (nm,ot,l.getD (yX k l.length).toNat tm0)).1
     (rns (Tm.sub f) k l.length b.fv x (bdN k nm ot l.length) (nm,ot,l.getD (yX k l.length).toNat tm0)).2.1 n ty re
     ((l.map λt=>Tm.sub f t x b).set (yX k l.length).toNat (Tm.sub f (rns (Tm.sub f) k l.length b.fv x (bdN k nm ot l.length) (nm,ot,l.getD (yX k l.length).toNat tm0)).2.2 x b))
def tl (t:Tm)(N:Nat)(Q:QT [.pk,.i,.str,.str,.i,.dc,.dc,.dc,.dc,.row 35 9]):Prop:=
 match t with | .mk k nm ot n ty re l=>∀ J O U Y I c' N',N<=N'->Tm.Hd nm ot ty re J O U Y->All2 Tm.Is l I->OwnL N N' ([J,O,U,Y]++I)->Q k nm ot n J O U Y I c' N'
theorem BW {N N3:Nat}{a:Option Addr}{ds:List D}{es:List D}(I:Fresh N N3 a ds)(h:∀ b,b∈zC es->∃ d∈ds,b∈d.foot):∀ ad,a=some ad->ad.block∉zC es:=λad J hc=>by obtain⟨d,hd,O⟩:=h _ hc;exact I.ap ad J d hd O
theorem qD:∀(t:Tm) (d:D),t.Is d->t.G->∀(N:Nat) (Q:QT [.pk,.i,.str,.str,.i,.dc,.dc,.dc,.dc,.row 35 9]),tl t N Q ->
  ACalls prog 45 [.pk,.i,.str,.str,.i,.dc,.dc,.dc,.dc,.row 35 9] [.dg 9 d] N Q:=by
 refine Tm.ind λk nm ot n0 ty re l ih d hd hG N Q hQ=>?_;obtain⟨t0,t1,r0,r1,a,es,c,rfl,hh,Y,aa⟩:=Tm.is_mk.1 hd;have hl:=aa.len;obtain⟨g1,g2,g3,g4⟩:=hG;simp only[tl]at hQ;refine CI N _ Q λ_=>?_
 repeat' first|with_reducible intro _|simp only[Y1]|with_reducible refine X ?_ ?_|refine⟨_,_,_,rfl,?_⟩|refine⟨_,rfl,?_⟩|refine X0 ?_|refine(ze _ _ hh.ty g1) _ _ ?_|refine(ze _ _ hh.re g2) _ _ ?_|fail
 rename_i N1 ae J N2 az hx ah _ _ N3 ai y N4 a6 hy aj _ _;have ak:Tm.Hd nm ot ty re (J.cell 0) (J.cell 1) (y.cell 0) (y.cell 1):=⟨hh.nm,hh.ot,Ty.is_cells hx,Ty.is_cells hy⟩
 have al:OwnL N N4 ([J.cell 0,J.cell 1,y.cell 0,y.cell 1]++[]):=by have h:=zh ((sS hx ah).mono ae (oC _)) ((sS hy aj).mono ai (oC _)) (by omega) (by omega);exact h
 refine up aa Y (λi xs=>∀(done:List D) (q N':Nat),N4<=N'->All2 Tm.Is (l.take i) done->done.length=i->OwnL N N' ([J.cell 0,J.cell 1,y.cell 0,y.cell 1]++done) ->
  xg Q N i (.ag [.j k,.t nm,.t ot,.j n0,t0,t1,r0,r1,.sl a 9 es c]) 0 (bytes []) (bytes []) 0 0 none [] 0 0 none [] 0 none [] 0 k nm ot n0 (J.cell 0) (J.cell 1) (y.cell 0) (y.cell 1) done.length q done q N') ?_ ?_ [] 0 N4 (oC _) rfl rfl al
 ·intro i ao hi done q N' aq hd ab ho;refine w9 ⟨_,_,_,rfl,?_⟩;rw[om (by omega)]at hd;rw[ao];exact⟨⟨rfl,rfl⟩,λN5 U=>hQ _ _ _ _ _ _ _ (by omega) ak hd (ho.mono (oC _) U)⟩
 ·intro i x xs I _ au done q N' aq hd ab ho;have hb:=I.b;have ac:=zy g4 I.m;refine w9 ⟨_,_,_,rfl,?_⟩;rw[I.lt];refine⟨_,_,_,rfl,⟨by omega,by omega⟩,λN5 U=>?_⟩;rw[oG,I.w];refine ih x I.m _ I.r ac _ _ ?_;cases x with
  | mk k2 a7 a8 n2 ba bb l2=>
    intro x4 x5 x6 x7 aw c2 N6 bc ax O ay _ _;have bd:=O.len;have bg:=ac.2.2.1;refine⟨⟨rfl,rfl⟩,λa2 N7 bh hf=>⟨⟨rfl,rfl⟩,by unfold zB;rw[oH];simp only[oJ,oN];omega,λc3=>?_⟩⟩;refine au _ _ _ (by omega) (by rw[vJ I.g];exact hd.snoc (Tm.is_mk.2 ⟨_,_,_,_,_,_,_,rfl,ax,by omega,O⟩)) (by simp[ab]) ?_;refine Nc (hd:=[J.cell 0,J.cell 1,y.cell 0,y.cell 1]) (xs:=[x4,x5,x6,x7]) (ho.mono (oC _) U) ay hf (by omega) (by omega) (by omega) (BW hf λb hb=>?_) (BW hf λb hb=>?_)
    ·simp only[o3,oa,zC,oM]at hb;rcases hb with hb | hb | hb | hb | hb
     ·exact⟨_,by simp,hb⟩
     ·exact⟨J.cell 1,by simp,hb⟩
     ·exact⟨y.cell 0,by simp,hb⟩
     ·exact⟨y.cell 1,by simp,hb⟩
     ·exact⟨.ag done,by simp,by simpa only[D.foot]using hb⟩
    ·simp only[o3,oa,zC,oM]at hb;rcases hb with hb | hb | hb | hb | hb
     ·exact⟨x4,by simp,hb⟩
     ·exact⟨x5,by simp,hb⟩
     ·exact⟨x6,by simp,hb⟩
     ·exact⟨x7,by simp,hb⟩
     ·exact⟨.ag aw,by simp,by simpa only[D.foot]using hb⟩
theorem Lz {k:Int} {nm ot:ByteArray} {n0:Int} {ty re:Ty} {t0 t1 r0 r1 x:D} (I:Tm.Hd nm ot ty re t0 t1 r0 r1) (h1:ty.cnt<=1073741824) (h2:re.cnt<=1073741824) (a:Option Addr) (es:List D) (c:Nat) (N:Nat)
  (Q:QT [.pk,.i,.str,.str,.i,.dc,.dc,.dc,.dc,.bk 1]) (hQ:∀ J O U Y N',N<=N'->Tm.Hd nm ot ty re J O U Y->OwnL N N' [J,O,U,Y]->Q k nm ot n0 J O U Y (.sl a 9 es c) N') :
  ACalls prog 189 [.pk,.i,.str,.str,.i,.dc,.dc,.dc,.dc,.bk 1] [.dg 9 (.ag [.j k,.t nm,.t ot,.j n0,t0,t1,r0,r1,x]),.sv a 9 es c] N Q:=by
 refine EC N _ a es c Q λ_ _=>?_
 repeat' first|with_reducible intro _|simp only[Y1]|with_reducible refine X ?_ ?_|refine⟨_,_,_,rfl,?_⟩|refine⟨_,rfl,?_⟩|refine X0 ?_|refine(Ij _ _ I.ty h1) _ _ ?_|refine(Ij _ _ I.re h2) _ _ ?_|fail
 rename_i N1 aa x1 N2 ai hx ab _ _ N3 ac y N4 aj hy ae _ _ N5 ah;refine hQ _ _ _ _ _ (by omega) ⟨I.nm,I.ot,Ty.is_cells hx,Ty.is_cells hy⟩ ?_;exact zh ((sS hx ab).mono aa (oC _)) ((sS hy ae).mono ac ah) (by omega) (by omega)
theorem qF:∀(t:Tm) (d:D),t.Is d->t.G->∀(N:Nat) (Q:QT [.pk,.i,.str,.str,.i,.dc,.dc,.dc,.dc,.row 35 9]),tl t N Q ->
  ACalls prog 123 [.pk,.i,.str,.str,.i,.dc,.dc,.dc,.dc,.row 35 9] [.dg 9 d] N Q:=by
 refine Tm.ind λk nm ot n0 ty re l ih d hd hG N Q hQ=>?_;obtain⟨t0,t1,r0,r1,a,es,c,rfl,hh,O,U⟩:=Tm.is_mk.1 hd;have hl:=U.len;obtain⟨g1,g2,g3,g4⟩:=hG;simp only[tl]at hQ;refine GK N _ Q λ_ N1 ah=>?_;refine q8 N1 _ _ λ_=>⟨_,_,_,rfl,?_⟩
 refine up U O (λi xs=>∀(done:List D) (q N':Nat),N1<=N'->All2 Tm.Is (l.take i) done->done.length=i->OwnL N1 N' done ->
  xE _ N1 done.length q a es c es.length i (.ag [.j k,.t nm,.t ot,.j n0,t0,t1,r0,r1,.sl a 9 es c]) 0 (bytes []) (bytes []) 0 0 none [] 0 0 none [] 0 none [] 0 done q N') ?_ ?_ [] 0 N1 (oC _) rfl rfl Ee
 ·intro i ai hi done q N' aj hd Y ho;refine uL ?_;rw[om (by omega)]at hd;rw[ai];refine⟨⟨rfl,rfl⟩,λa1 a7 _ N4 ak aa=>?_⟩;refine Lz hh g1 g2 a1 done q N4 _ λx4 x5 x6 x7 N5 ab al ac _=>⟨rfl,?_⟩
  have off:∀ y∈[x4,x5,x6,x7],Off [a1] y:=λy hy a' ao ad aq hc=>by have h1:=aa a' ao ad aq;have h2:=ac.lo _ (zJ.2 ⟨y,hy,hc⟩);omega
  refine⟨off x4 (by simp),off x5 (by simp),off x6 (by simp),off x7 (by simp),⟨rfl,rfl⟩,λN6 au _ _=>⟨⟨rfl,rfl⟩,λN7 aw=>?_⟩⟩;exact hQ _ _ _ _ _ _ _ (by omega) al hd (Dc (N1:=N4) (ac.mono (oC _) (by omega)) (ho.mono ah ak) (by omega) (by omega))
 ·intro i x xs I _ ax done q N' aj hd Y ho;have hb:=I.b;have ae:=zy g4 I.m;refine uL ?_;rw[I.lt];refine⟨⟨by omega,by omega⟩,λN5 ab=>?_⟩;rw[oG,I.w];refine ih x I.m _ I.r ae _ _ ?_;cases x with
  | mk k2 a8 ba n2 bb bc l2=>
    intro x4 x5 x6 x7 ay c2 N6 au az J a6 _ _;have bd:=J.len;have bg:=ae.2.2.1;refine⟨⟨rfl,rfl⟩,λa2 N7 aw hf=>⟨⟨rfl,rfl⟩,by unfold zB;rw[oH];simp only[oJ,oN];omega,λc3=>?_⟩⟩;refine ax _ _ _ (by omega) (by rw[vJ I.g];exact hd.snoc (Tm.is_mk.2 ⟨_,_,_,_,_,_,_,rfl,az,by omega,J⟩)) (by simp[Y]) ?_;refine Nc (hd:=[]) (xs:=[x4,x5,x6,x7]) (ho.mono (oC _) ab) a6 hf (by omega) (by omega) (by omega) (BW hf λb hb=>?_) (BW hf λb hb=>?_)
    ·exact⟨.ag done,by simp,by simpa only[D.foot,oa]using hb⟩
    ·simp only[o3,oa,zC,oM]at hb;rcases hb with hb | hb | hb | hb | hb
     ·exact⟨x4,by simp,hb⟩
     ·exact⟨x5,by simp,hb⟩
     ·exact⟨x6,by simp,hb⟩
     ·exact⟨x7,by simp,hb⟩
     ·exact⟨.ag ay,by simp,by simpa only[D.foot]using hb⟩
theorem sJ:∀ l:List ByteArray,zC (zA l)=[]
 | []=>rfl
 | s::l=>by have:=sJ l;simp only[zA,nH,zC,D.foot,oa]at this ⊢;exact this
theorem Hm:∀ l:List ByteArray,xr (zA l)
 | []=>trivial
 | s::l=>⟨trivial,Hm l⟩
theorem Ox {N N':Nat}(l:List ByteArray):OwnL N N' (zA l):=⟨by rw[sJ];exact mO,Hm l,by rw[sJ];simp,by rw[sJ];simp⟩
theorem vD {N N' M:Nat}{a:Option Addr}{l:List ByteArray}{c:Nat}{ds:List D}(I:Fresh N N' a (.ag (zA l)::ds))(h:N'<=M):Own N M (.sl a 0 (zA l) c):=(qm (N1:=N') (Ox l) I (oC _)).mono (oC _) h
theorem Fh {bs:List (Option Addr)}(l:List ByteArray):Off bs (.ag (zA l)):=λa _ ad _ hc=>by simp only[D.foot,sJ]at hc;simp at hc
def UP (f:FuncId)(args:List PV)(l:List ByteArray):Prop:=∀(N:Nat) (Q:QT [.sl 0]),(∀ a c N',N<=N'->Own N N' (.sl a 0 (zA l) c)->Q a (zA l) c N')->ACalls prog f [.sl 0] args N Q
def UQ (f:FuncId)(args:List PV)(l:List ByteArray):Prop:=∀(N:Nat) (Q:QT [.row 9 0]),(∀ c N',N<=N'->Q (zA l) c N')->ACalls prog f [.row 9 0] args N Q
theorem BD {l:List ByteArray}{s:ByteArray}(h:l.length<=8796093022207):zB (zA l) [.t s] 16:=by unfold zB;rw[oH,zH];simp only[oJ,oN];omega
theorem If (l:List ByteArray)(hl:l.length<=2199023255552)(a:Option Addr)(c:Nat)(s:ByteArray):UP 244 [.sv a 0 (zA l) c,.str s] (l.filter λx=>decide (x≠s)):=λN Q hQ=>by
 have Y:=xZ l;have O:(zA l).length<=4611686018427387904:=by rw[zH];omega
 refine CH N a _ c s Q λ_=>?_;refine up Y O (λi xs=>∀(done:List ByteArray) (q N':Nat),N<=N'->done.length<=i->i<=l.length->done++xs.filter (λx=>decide (x≠s))=l.filter (λx=>decide (x≠s)) ->
  yP Q N a (zA l) c s (zA done).length q i (zA done) q N') ?_ ?_ [] 0 N (oC _) (by simp) (by omega) rfl
 ·intro i aa hi done q N' J ab ac hd;refine uO ?_;rw[aa];rw[List.filter_nil,o7]at hd;subst hd;exact⟨⟨rfl,rfl⟩,⟨rfl,rfl⟩,⟨rfl,rfl⟩,λa1 N1 ah hf N2 ae=>hQ _ _ _ (by omega) (vD hf ae)⟩
 ·intro i x xs I _ U done q N' J ab ac hd;have hb:=I.b;have hr:=I.r;have ai:=zH l;refine uO ?_;rw[I.lt,oG,hr,I.w];refine⟨⟨by omega,by omega⟩,_,rfl,Br.nstr (λh=>⟨⟨by omega,by omega⟩,_,rfl,⟨rfl,rfl⟩,BD (by omega),λc1=>?_⟩) λh=>?_⟩
  ·rw[vf];refine U _ _ _ J (by simp;omega) (by omega) ?_;rw[<-hd];simp[List.filter_cons,h]
  ·refine U _ _ _ J (by omega) (by omega) ?_;rw[<-hd];simp[List.filter_cons,h]
theorem FR (s:ByteArray)(l:List ByteArray):decide (BY (λx=>decide (x=s)) l 0<0)=decide (s∉l):=by
 have h:=pJ (λx=>decide (x=s)) l 0 (by omega);rw[mA,nh,nh];have I:(decide (BY (λx=>decide (x=s)) l 0≥0)=true)↔(l.any λx=>decide (x=s))=true:=by rw[h]
 rw[nh]at I;simp only[List.any_eq_true,oe,exists_eq_right]at I;constructor
 ·intro O J;have:=I.2 J;omega
 ·intro O;exact Int.not_le.1 λJ=>O (I.1 J)
theorem Cn {out xs:List ByteArray}{x:ByteArray}:dd out (x::xs)=dd (if x∈out then out else out++[x]) xs:=rfl
theorem L8 {out:List ByteArray}{x:ByteArray}:(if x∈out then out else out++[x]).length<=out.length+1:=by split<;>simp
theorem sF (l m:List ByteArray)(hl:l.length<=2199023255552)(hm:m.length<=2199023255552)(a b:Option Addr)(c c':Nat):UQ 245 [.sv a 0 (zA l) c,.sv b 0 (zA m) c'] (tw l m):=fun N Q hQ=>by
 have hes:=xZ l;have hlen:(zA l).length<=4611686018427387904:=by rw[zH];omega
 have hms:=xZ m;have hmen:(zA m).length<=4611686018427387904:=by rw[zH];omega
 have hlw:=zH l;have hmw:=zH m;refine DP N a _ c b _ c' Q fun _ _=>?_;have second:∀(done:List ByteArray) (q N':Nat),N<=N'->done.length<=l.length->done=dd [] l->yB Q N b (zA m) c' (zA done).length q 0 (zA done) q N':=fun done0 q0 N0 hN0 hdl0 hd0=>
  up hms hmen (fun i xs=>∀(done:List ByteArray) (q N':Nat),N<=N'->done.length<=l.length+i->dd done xs=tw l m->yB Q N b (zA m) c' (zA done).length q i (zA done) q N')
   (fun i hlt hi done q N' hN' hdl hd=>by refine ux ?_;rw[hlt];simp only[dd]at hd;subst hd;exact⟨⟨rfl,rfl⟩,fun N2 hN2=>hQ _ _ (by omega)⟩)
   (fun i x xs hat _ ih2 done q N' hN' hdl hd=>by
    have hb:=hat.b;have hr:=hat.r;have hdl2:=L8 (out:=done) (x:=x);refine ux ?_;rw[hat.lt,oG,hr,hat.w];refine⟨⟨by omega,by omega⟩,_,rfl,⟨rfl,rfl⟩,fun a1 _ N1 hN1 _=>xb done (by omega) a1 q x N1 _ fun N2 hN2 hle2=>?_⟩;rw[FR];refine Br.dec (fun h=>⟨⟨by omega,by omega⟩,_,rfl,⟨rfl,rfl⟩,BD (by omega),fun c1=>?_⟩) fun h=>?_
    ·rw[vf];rw[if_neg h]at hdl2;refine ih2 _ _ _ (by omega) (by omega) ?_;rw[<-hd,Cn,if_neg h]
    ·refine ih2 _ _ _ (by omega) (by omega) ?_;rw[<-hd,Cn,if_pos (mP.1 h)]) done0 q0 N0 hN0 (by omega) (by rw[hd0];rfl)
 refine up hes hlen (fun i xs=>∀(done:List ByteArray) (q N':Nat),N<=N'->done.length<=i->dd done xs=dd [] l ->
  yc Q N a (zA l) c b (zA m) c' (zA done).length q i (zA done) q N') ?_ ?_ [] 0 N (oC _) (by simp) rfl
 ·intro i hlt hi done q N' hN' hdl hd;refine uw ?_;rw[hlt];exact second done q N' hN' (by omega) hd
 ·intro i x xs hat _ ih2 done q N' hN' hdl hd;have hb:=hat.b;have hr:=hat.r;have hdl2:=L8 (out:=done) (x:=x);refine uw ?_;rw[hat.lt,oG,hr,hat.w];refine⟨⟨by omega,by omega⟩,_,rfl,⟨rfl,rfl⟩,fun a1 _ N1 hN1 _=>xb done (by omega) a1 q x N1 _ fun N2 hN2 hle2=>?_⟩;rw[FR];refine Br.dec (fun h=>⟨⟨by omega,by omega⟩,_,rfl,⟨rfl,rfl⟩,BD (by omega),fun c1=>?_⟩) fun h=>?_
  ·rw[vf];rw[if_neg h]at hdl2;refine ih2 _ _ _ (by omega) (by omega) ?_;rw[<-hd,Cn,if_neg h]
  ·refine ih2 _ _ _ (by omega) (by omega) ?_;rw[<-hd,Cn,if_pos (mP.1 h)]
theorem S1 {N N' z c:Nat}:Own N N' (.sl none z [] c):=⟨by simp[D.foot,zC],⟨by simp,trivial⟩,by simp[D.foot,zC],by simp[D.foot,zC]⟩
theorem Qbd {Q:QT [.sl 0,.i]}{a:Option Addr}{es I:List D}{c:Nat}{n n':Int}{N:Nat}(h:Q a es c n N)(e1:es=I)(J:n=n'):Q a I c n' N:=e1 ▸ J ▸ h
def V6 (f:FuncId)(args:List PV)(l:List ByteArray)(n:Int):Prop:=∀(N:Nat) (Q:QT [.sl 0,.i]),(∀ a c N',N<=N'->Own N N' (.sl a 0 (zA l) c)->Q a (zA l) c n N')->ACalls prog f [.sl 0,.i] args N Q
theorem Lw {k n0:Int} {nm ot:ByteArray} {t0 t1 r0 r1:D} {a:Option Addr} {es:List D} {c n:Nat} (hn:es.length=n) :
  V6 254 [.dg 9 (.ag [.j k,.t nm,.t ot,.j n0,t0,t1,r0,r1,.sl a 9 es c])] (bdN k nm ot n) (yX k n):=λN Q hQ=>by
 subst hn;have one:∀(x:ByteArray) (m:Int),bdN k nm ot es.length=[x]->yX k es.length=m->((1:Nat)=([D.t x]).length/\(1:Nat)=1)/\((1:Nat)=([D.t x]).length/\(1:Nat)=1)/\∀ a1 N1,N<=N1->Fresh N N1 a1 [D.ag [D.t x]]->∀ N2,N1<=N2->Q a1 [D.t x] 1 m N2:=λx m I Y=>⟨⟨rfl,rfl⟩,⟨rfl,rfl⟩,λa1 N1 J hf N2 O=>Qbd (hQ a1 1 N2 (by omega) (by rw[I];exact vD (l:=[x]) hf O)) (by rw[I];rfl) Y⟩
 have aa:bdN k nm ot es.length=[nm,ot]->yX k es.length=0->((2:Nat)=([D.t nm,D.t ot]).length/\(2:Nat)=2)/\((2:Nat)=([D.t nm,D.t ot]).length/\(2:Nat)=2)/\∀ a1 N1,N<=N1->Fresh N N1 a1 [D.ag [D.t nm,D.t ot]]->∀ N2,N1<=N2->Q a1 [D.t nm,D.t ot] 2 0 N2:=λI Y=>⟨⟨rfl,rfl⟩,⟨rfl,rfl⟩,λa1 N1 J hf N2 O=>Qbd (hQ a1 2 N2 (by omega) (by rw[I];exact vD (l:=[nm,ot]) hf O)) (by rw[I];rfl) Y⟩
 have nil:bdN k nm ot es.length=[]->yX k es.length = -1->∀ N1,N<=N1->Q none [] 0 (-1) N1:=λI Y N1 J=>Qbd (hQ none 0 N1 J (by rw[I];exact S1)) (by rw[I];rfl) Y;refine LV N _ Q λ_=>⟨_,rfl,Br.beq (λh6=>⟨_,_,_,rfl,Br.beq (λI=>⟨_,rfl,?_⟩) λI=>?_⟩) λh6=>?_⟩
 ·exact one _ _ (by unfold bdN;rw[if_pos ⟨h6,by omega⟩]) (by unfold yX;rw[if_pos ⟨h6,by omega⟩])
 ·refine⟨_,rfl,Br.beq (λh8=>by omega) λh8=>⟨_,rfl,Br.beq (λU=>by omega) λU=>?_⟩⟩;exact nil (by unfold bdN;rw[if_neg (by omega),if_neg (by omega),if_neg (by omega)]) (by unfold yX;rw[if_neg (by omega),if_neg (by omega),if_neg (by omega)])
 ·refine⟨_,rfl,Br.beq (λh8=>⟨_,_,_,rfl,Br.beq (λI=>⟨_,rfl,?_⟩) λI=>?_⟩) λh8=>?_⟩
  ·exact one _ _ (by unfold bdN;rw[if_neg (by omega),if_pos ⟨h8,by omega⟩]) (by unfold yX;rw[if_neg (by omega),if_pos ⟨h8,by omega⟩])
  ·refine⟨_,rfl,Br.beq (λU=>by omega) λU=>?_⟩;exact nil (by unfold bdN;rw[if_neg (by omega),if_neg (by omega),if_neg (by omega)]) (by unfold yX;rw[if_neg (by omega),if_neg (by omega),if_neg (by omega)])
  ·refine⟨_,rfl,Br.beq (λU=>⟨_,_,_,rfl,Br.beq (λI=>⟨_,rfl,_,rfl,?_⟩) λI=>?_⟩) λU=>?_⟩
   ·exact aa (by unfold bdN;rw[if_neg (by omega),if_neg (by omega),if_pos ⟨U,by omega⟩]) (by unfold yX;rw[if_neg (by omega),if_neg (by omega),if_pos ⟨U,by omega⟩])
   ·exact nil (by unfold bdN;rw[if_neg (by omega),if_neg (by omega),if_neg (by omega)]) (by unfold yX;rw[if_neg (by omega),if_neg (by omega),if_neg (by omega)])
   ·exact nil (by unfold bdN;rw[if_neg (by omega),if_neg (by omega),if_neg (by omega)]) (by unfold yX;rw[if_neg (by omega),if_neg (by omega),if_neg (by omega)])
theorem BI {k n0:Int} {nm ot:ByteArray} {t0 t1 r0 r1:D} {a:Option Addr} {es:List D} {c n:Nat} (hn:es.length=n) :
  V6 209 [.dg 9 (.ag [.j k,.t nm,.t ot,.j n0,t0,t1,r0,r1,.sl a 9 es c])] (bdN k nm ot n) (yX k n):=λN Q hQ=>by
 subst hn;have one:∀(x:ByteArray) (m:Int),bdN k nm ot es.length=[x]->yX k es.length=m->((1:Nat)=([D.t x]).length/\(1:Nat)=1)/\((1:Nat)=([D.t x]).length/\(1:Nat)=1)/\∀ a1 N1,N<=N1->Fresh N N1 a1 [D.ag [D.t x]]->∀ N2,N1<=N2->Q a1 [D.t x] 1 m N2:=λx m I U=>⟨⟨rfl,rfl⟩,⟨rfl,rfl⟩,λa1 N1 Y hf N2 J=>Qbd (hQ a1 1 N2 (by omega) (by rw[I];exact vD (l:=[x]) hf J)) (by rw[I];rfl) U⟩
 have aa:bdN k nm ot es.length=[nm,ot]->yX k es.length=0->((2:Nat)=([D.t nm,D.t ot]).length/\(2:Nat)=2)/\((2:Nat)=([D.t nm,D.t ot]).length/\(2:Nat)=2)/\∀ a1 N1,N<=N1->Fresh N N1 a1 [D.ag [D.t nm,D.t ot]]->∀ N2,N1<=N2->Q a1 [D.t nm,D.t ot] 2 0 N2:=λI U=>⟨⟨rfl,rfl⟩,⟨rfl,rfl⟩,λa1 N1 Y hf N2 J=>Qbd (hQ a1 2 N2 (by omega) (by rw[I];exact vD (l:=[nm,ot]) hf J)) (by rw[I];rfl) U⟩
 have nil:bdN k nm ot es.length=[]->yX k es.length = -1->((0:Nat)=0/\(0:Nat)=0)/\((0:Nat)=0/\(0:Nat)=0)/\∀ a1 N1,N<=N1->Fresh N N1 a1 [D.ag []]->∀ N2,N1<=N2->Q a1 [] 0 (-1) N2:=λI U=>⟨⟨rfl,rfl⟩,⟨rfl,rfl⟩,λa1 N1 Y hf N2 J=>Qbd (hQ a1 0 N2 (by omega) (by rw[I];exact vD (l:=[]) hf J)) (by rw[I];rfl) U⟩
 refine HS N _ Q λ_=>⟨_,rfl,Br.beq (λh6=>⟨_,_,_,rfl,Br.beq (λI=>⟨_,rfl,?_⟩) λI=>?_⟩) λh6=>?_⟩
 ·exact one _ _ (by unfold bdN;rw[if_pos ⟨h6,by omega⟩]) (by unfold yX;rw[if_pos ⟨h6,by omega⟩])
 ·refine⟨_,rfl,Br.beq (λh8=>by omega) λh8=>⟨_,rfl,Br.beq (λO=>by omega) λO=>?_⟩⟩;exact nil (by unfold bdN;rw[if_neg (by omega),if_neg (by omega),if_neg (by omega)]) (by unfold yX;rw[if_neg (by omega),if_neg (by omega),if_neg (by omega)])
 ·refine⟨_,rfl,Br.beq (λh8=>⟨_,_,_,rfl,Br.beq (λI=>⟨_,rfl,?_⟩) λI=>?_⟩) λh8=>?_⟩
  ·exact one _ _ (by unfold bdN;rw[if_neg (by omega),if_pos ⟨h8,by omega⟩]) (by unfold yX;rw[if_neg (by omega),if_pos ⟨h8,by omega⟩])
  ·refine⟨_,rfl,Br.beq (λO=>by omega) λO=>?_⟩;exact nil (by unfold bdN;rw[if_neg (by omega),if_neg (by omega),if_neg (by omega)]) (by unfold yX;rw[if_neg (by omega),if_neg (by omega),if_neg (by omega)])
  ·refine⟨_,rfl,Br.beq (λO=>⟨_,_,_,rfl,Br.beq (λI=>⟨_,rfl,_,rfl,?_⟩) λI=>?_⟩) λO=>?_⟩
   ·exact aa (by unfold bdN;rw[if_neg (by omega),if_neg (by omega),if_pos ⟨O,by omega⟩]) (by unfold yX;rw[if_neg (by omega),if_neg (by omega),if_pos ⟨O,by omega⟩])
   ·exact nil (by unfold bdN;rw[if_neg (by omega),if_neg (by omega),if_neg (by omega)]) (by unfold yX;rw[if_neg (by omega),if_neg (by omega),if_neg (by omega)])
   ·exact nil (by unfold bdN;rw[if_neg (by omega),if_neg (by omega),if_neg (by omega)]) (by unfold yX;rw[if_neg (by omega),if_neg (by omega),if_neg (by omega)])
theorem WJ (n:Nat)(U:n<=8796093022208)(N:Nat)(Q:QT [.row 9 0])(J:∀ c N',N<=N'->Q [] c N'):ACalls prog 287 [.row 9 0] [.sv none 0 [] 0,.j n] N Q:=by
 have O:IntKind.i64.wrap ((n:Int) - 0)=n:=by rw[Int.sub_zero];exact i64_in _ (by omega)
 refine CB N n Q λ_=>Br.dec (λh=>by omega) λ_=>?_;rw[O];refine Br.dec (λh=>⟨⟨by omega,by omega,by omega⟩,⟨by omega,by omega,by omega⟩,λc=>⟨⟨by omega,by omega⟩,Nat.zero_le _,⟨rfl,rfl⟩,λN1 I=>J c N1 I⟩⟩) λh N1 I=>J 0 N1 I
def Lk:List (List ByteArray)->List ByteArray
 | []=>[]
 | l::ls=>l++Lk ls
def IsW (l:List ByteArray)(d:D):Prop:=∃ a c,d=.sl a 0 (zA l) c
theorem IF (l m:List ByteArray):zA l++zA m=zA (l++m):=by simp[zA]
theorem M4 {ls:List (List ByteArray)}{es:List D}(hes:All2 IsW ls es)(hlen:es.length<=2199023255552)(hc:(Lk ls).length<=8796093022208)(a:Option Addr)(c:Nat):UP 277 [.sv a 0 es c] (Lk ls):=fun N Q hQ=>by
 refine p5 N a es c Q fun _=>?_;have second:∀(q N':Nat),N<=N'->zj Q N 0 q a es c (es.length:Int) 0 [] q N':=fun q0 N0 hN0=>
  up hes (by omega) (fun i xs=>∀(done:List ByteArray) (q N':Nat),N<=N'->done++Lk xs=Lk ls->zj Q N (zA done).length q a es c (es.length:Int) i (zA done) q N')
   (fun i hlt hi done q N' hN' hd=>by refine w7 ?_;rw[hlt];simp only[Lk,o7]at hd;subst hd;exact⟨⟨rfl,rfl⟩,⟨rfl,rfl⟩,⟨rfl,rfl⟩,fun a1 N1 hN1 hf N2 hN2=>hQ _ _ _ (by omega) (vD hf hN2)⟩)
   (fun i x xs hat _ ih2 done q N' hN' hd=>by have hb:=hat.b;obtain⟨a1,c1,hr⟩:=hat.r;refine w7 ?_;rw[hat.lt,oG,hr,hat.w];have hl2:=oY List.length hd;simp only[Lk,oH]at hl2;refine⟨⟨by omega,by omega⟩,_,_,_,rfl,⟨rfl,rfl⟩,by unfold zB;rw[oH,zH,zH];omega,fun c2=>?_⟩;rw[IF];refine ih2 _ _ _ hN' ?_;rw[<-hd];simp[Lk,oP]) [] q0 N0 hN0 rfl
 refine up hes (by omega) (fun i xs=>∀(t:Nat) (N':Nat),N<=N'->t+(Lk xs).length=(Lk ls).length ->
  yi Q N a es c t a es c (es.length:Int) i N') ?_ ?_ 0 N (oC _) (by simp)
 ·intro i hlt hi t N' hN' ht;refine vR ?_;rw[hlt];simp only[Lk,oN]at ht;exact fun N1 hN1=>WJ t (by omega) N1 _ fun c1 N2 hN2 _ _=>second c1 N2 (by omega)
 ·intro i x xs hat _ ih2 t N' hN' ht;have hb:=hat.b;obtain⟨a1,c1,hr⟩:=hat.r;refine vR ?_;simp only[Lk,oH]at ht;rw[hat.lt,oG,hr,hat.w];have hw:IntKind.i64.wrap ((t:Int)+((zA x).length:Int))=((t+x.length:Nat):Int):=by rw[zH];rw[i64_in _ (by omega)];omega
  refine⟨⟨by omega,by omega⟩,_,_,_,rfl,?_⟩;rw[hw];exact Br.dec (fun h=>by omega) fun _=>ih2 _ _ hN' (by omega)
theorem CV (s:ByteArray)(l:List ByteArray):(l.any λx=>decide (s=x))=decide (s∈l):=by rw[mA];simp
theorem sD (l m:List ByteArray)(hl:l.length<=2199023255552)(hm:m.length<=2199023255552)(a b:Option Addr)(c c':Nat):UQ 275 [.sv a 0 (zA l) c,.sv b 0 (zA m) c'] (tw l m):=λN Q hQ=>by
 refine DI N a _ c b _ c' Q λ_ _=>⟨⟨rfl,rfl⟩,λa1 _ N1 aa O=>?_⟩
 have ab:All2 IsW [l,m] [.sl a 0 (zA l) c,.sl b 0 (zA m) c']:=⟨_,_,rfl,⟨_,_,rfl⟩,_,_,rfl,⟨_,_,rfl⟩,rfl⟩
 have J:Lk [l,m]=l++m:=by simp[Lk]
 refine M4 ab (by simp) (by rw[J,oH];omega) a1 2 N1 _ λa2 c2 N2 ac ho _=>⟨s6 O ho,λ_=>?_⟩
 rw[J];have ae:=xZ (l++m);have ah:=zH (l++m);rw[oH]at ah;refine up ae (by omega) (λi xs=>∀(done:List ByteArray) (q N':Nat),N<=N'->done.length<=i->dd done xs=tw l m ->
  yb Q N (zA done).length q a2 (zA (l++m)) c2 ((zA (l++m)).length:Int) i (zA done) q N') ?_ ?_ [] 0 N2 (by omega) (by simp) (by unfold tw;rw[Tk])
 ·intro i ai hi done q N' aj ak hd;refine uu ?_;rw[ai];simp only[dd]at hd;subst hd;exact⟨⟨rfl,rfl⟩,λN3 ao=>hQ _ _ (by omega)⟩
 ·intro i x xs I _ U done q N' aj ak hd;have hb:=I.b;have hr:=I.r;have Y:=L8 (out:=done) (x:=x);refine uu ?_;rw[I.lt,oG,hr,I.w];refine⟨⟨by omega,by omega⟩,_,rfl,⟨rfl,rfl⟩,λa1 _ N1 aa _=>y9 done (by omega) a1 q x N1 _ λN2 ac al=>?_⟩;rw[CV];refine Br.ndec (λh=>⟨⟨rfl,rfl⟩,BD (by omega),λc1=>?_⟩) λh=>?_
  ·rw[vf];rw[if_neg h]at Y;refine U _ _ _ (by omega) (by omega) ?_;rw[<-hd,Cn,if_neg h]
  ·refine U _ _ _ (by omega) (by omega) ?_;rw[<-hd,Cn,if_pos h]
mutual
def Tm.vc:Tm->Nat
 | .mk k _ _ _ _ _ l=>if k=1 then 1 else pp l
def pp:List Tm->Nat
 | []=>0
 | t::ts=>t.vc+pp ts
end
theorem ID:∀ {l:List Tm}{t:Tm},t∈l->t.vc<=pp l
 | u::us,t,h=>by
   simp only[pp];rcases oL.1 h with rfl | h
   ·omega
   ·have:=ID h;omega
mutual
theorem Tm.vc_cnt:∀ t:Tm,3*t.vc<=t.cnt
 | .mk k nm ot n ty re l=>by
   have:=Ty.cnt_pos ty
   have:=Ty.cnt_pos re
   have:=LL l
   simp only[Tm.vc,Tm.cnt]
   split<;>omega
theorem LL:∀ l:List Tm,3*pp l<=xQ l
 | []=>oC _
 | t::ts=>by
   have:=Tm.vc_cnt t
   have:=LL ts
   simp only[pp,xQ];omega
end
mutual
theorem Tm.fv_len:∀ t:Tm,t.fv.length<=t.vc
 | .mk k nm ot n ty re l=>by
   simp only[Tm.fv,Tm.vc]
   split
   ·simp
   ·have:=LG l (yX k l.length) (bdN k nm ot l.length) 0 []
    simp at this;omega
theorem LG:∀(l:List Tm) (at_:Int) (ns:List ByteArray) (i:Nat) (out:List ByteArray),(u5 l at_ ns i out).length<=out.length+pp l
 | [],_,_,_,out=>by simp[u5]
 | x::xs,at_,ns,i,out=>by
   simp only[u5,pp]
   have J:=LG xs at_ ns (i+1) (tw out (if(i:Int)=at_ then sG ns x.fv else x.fv))
   have I:=Tm.fv_len x
   have O:(if(i:Int)=at_ then sG ns x.fv else x.fv).length<=x.vc:=by
    split
    ·exact oR (mR _ _) I
    ·exact I
   have U:(tw out (if(i:Int)=at_ then sG ns x.fv else x.fv)).length<=out.length+(if(i:Int)=at_ then sG ns x.fv else x.fv).length:=by
    unfold tw
    have a1:=FH (dd [] out) (if(i:Int)=at_ then sG ns x.fv else x.fv)
    have a2:=FH [] out
    simp at a2;omega
   omega
end
def sU:List Tm->Nat
 | []=>0
 | t::ts=>t.fv.length+sU ts
mutual
def Tm.wd:Tm->Nat
 | .mk k _ _ _ _ _ l=>if k=1 then 1 else max (sU l) (Ad l)
def Ad:List Tm->Nat
 | []=>0
 | t::ts=>max t.wd (Ad ts)
end
theorem JP:∀ {l:List Tm}{n:Nat},Ad l<=n↔∀ x∈l,x.wd<=n
 | [],n=>by simp[Ad]
 | t::ts,n=>by simp only[Ad,Nat.max_le,JP (l:=ts),oL,mY]
theorem pX {l:List Tm}{t:Tm}(h:t∈l):t.wd<=Ad l:=JP.1 (oC _) t h
theorem Nw:∀(l:List Tm)(at_:Int)(ns:List ByteArray)(i:Nat)(out:List ByteArray),(u5 l at_ ns i out).length<=out.length+sU l
 | [],_,_,_,out=>by simp[u5]
 | x::xs,at_,ns,i,out=>by
   simp only[u5,sU];have I:=Nw xs at_ ns (i+1) (tw out (if(i:Int)=at_ then sG ns x.fv else x.fv));have J:(if(i:Int)=at_ then sG ns x.fv else x.fv).length<=x.fv.length:=by
    split
    ·exact mR _ _
    ·exact oC _
   have O:(tw out (if(i:Int)=at_ then sG ns x.fv else x.fv)).length<=out.length+(if(i:Int)=at_ then sG ns x.fv else x.fv).length:=by unfold tw;have a1:=FH (dd [] out) (if(i:Int)=at_ then sG ns x.fv else x.fv);have a2:=FH [] out;simp at a2;omega
   omega
theorem Tm.fv_wd (t:Tm):t.fv.length<=t.wd:=by
 cases t with
 | mk k nm ot n ty re l=>
 simp only[Tm.fv,Tm.wd];split
 ·simp
 ·have:=Nw l (yX k l.length) (bdN k nm ot l.length) 0 []
  simp at this;omega
theorem Nv:∀ l:List Tm,sU l<=pp l
 | []=>oC _
 | t::ts=>by
   have:=Nv ts
   have:=t.fv_len
   simp only[sU,pp];omega
theorem Tm.wd_vc:∀ t:Tm,t.wd<=t.vc:=by
 refine Tm.ind λk nm ot n ty re l J=>?_;simp only[Tm.wd,Tm.vc];split
 ·exact oC _
 ·have O:=Nv l;have U:Ad l<=pp l:=JP.2 λx I=>oR (J x I) (ID I);omega
theorem GA (a b:List ByteArray):(tw a b).length<=a.length+b.length:=by unfold tw;have a1:=FH (dd [] a) b;have a2:=FH [] a;simp at a2;omega
theorem P6 (ns l:List ByteArray)(s:ByteArray):(sG ns l).filter (λx=>decide (x≠s))=sG (ns++[s]) l:=by unfold sG;rw[List.filter_filter];congr 1;funext x;rw[mA];simp;exact And.comm
theorem Ix (l:List ByteArray):sG [] l=l:=by simp[sG]
theorem uE:∀(t:Tm)(d:D),t.Is d->t.wd<=2199023255552->UP 211 [.dg 9 d] t.fv:=by
 refine Tm.ind λk nm ot n0 ty re l ih d hd hG N Q hQ=>?_;obtain⟨t0,t1,r0,r1,a,es,c,rfl,hh,al,ao⟩:=Tm.is_mk.1 hd;have hl:=ao.len;simp only[Tm.wd]at hG;refine GQ N _ Q λ_=>⟨_,rfl,Br.beq (λh1=>⟨_,rfl,⟨rfl,rfl⟩,⟨rfl,rfl⟩,λa1 N1 ay hf N2 aq=>?_⟩) λh1 N3 bg=>BI (n:=l.length) (by omega) N3 _ λa3 c3 N4 bh _ _ _=>?_⟩
 ·have e:(Tm.mk k nm ot n0 ty re l).fv=[nm]:=by simp[Tm.fv,h1]
  rw[e]at hQ;exact hQ _ _ _ (by omega) (vD (l:=[nm]) hf aq)
 ·have e:(Tm.mk k nm ot n0 ty re l).fv=u5 l (yX k l.length) (bdN k nm ot l.length) 0 []:=by simp[Tm.fv,h1]
  rw[e]at hQ;rw[if_neg h1]at hG;have bi:sU l<=2199023255552:=by omega
  have bj:Ad l<=2199023255552:=by omega
  have az:=qC k nm ot l.length;generalize bdN k nm ot l.length=ns at hQ az ⊢;generalize yX k l.length=at_ at hQ ⊢;generalize hy:(D.ag [.j k,.t nm,.t ot,.j n0,t0,t1,r0,r1,.sl a 9 es c])=y;have ah:y.cell 8=.sl a 9 es c:=by rw[<-hy];rfl
  have bm:=zH ns;have inner:∀(i:Nat) (x:Tm) (out:List ByteArray) (q N1:Nat),N<=N1->out.length<=2199023255552->x.fv.length<=2199023255552 ->
    (∀ c ai,N1<=ai->yA Q N a3 (zA ns) c3 at_ (zA (tw out (if(i:Int)=at_ then sG ns x.fv else x.fv))).length c (IntKind.i64.wrap (i+1)) y (zA (tw out (if(i:Int)=at_ then sG ns x.fv else x.fv))) c ai) ->
    ∀ O U,Own N N1 (.sl O 0 (zA x.fv) U)->yw Q N a3 (zA ns) c3 at_ (zA out).length q i O (zA x.fv) U 0 y (zA out) q N1:=λi x out q N1 ay ho hx hc O U h7=>by
   have fin:∀(Y:List ByteArray) (O:Option Addr) (U N':Nat),N1<=N'->Y=(if(i:Int)=at_ then sG ns x.fv else x.fv) ->
     ((zA out).length=(zA out).length/\q=q)/\∀ ac,ApA ac (zA out)->Off [ac] (.sl O 0 (zA Y) U)->∀ N3,N'<=N3->vN N3 [ac]->ACalls prog 245 [.row 9 0] [.sv ac 0 (zA out) q,.sv O 0 (zA Y) U] N3 (λaa au N4=>N3<=N4->Off [ac] (D.ag aa)/\(Bel N4 (D.ag aa)->yA Q N a3 (zA ns) c3 at_ aa.length au (IntKind.i64.wrap (i+1)) y aa au N4)):=λY O U N' ab J=>⟨⟨rfl,rfl⟩,λa9 _ _ N5 aw bd=>by
    have h5:Y.length<=2199023255552:=by
     rw[J];split
     ·exact oR (mR _ _) hx
     ·exact hx
    refine sF out Y ho h5 a9 O q U N5 _ λc8 N8 ba _=>⟨Fh _,λ_=>?_⟩
    subst J;exact hc _ _ (by omega)⟩
   refine up (xZ ns) (by omega) (λj xs=>∀(Y:List ByteArray) O U N',N1<=N'->Y=sG (ns.take j) x.fv->((i:Int)≠at_->j=0)->yw Q N a3 (zA ns) c3 at_ (zA out).length q i O (zA Y) U j y (zA out) q N') ?_ ?_ x.fv O U N1 (oC _) (by rw[mu,Ix]) (λ_=>rfl)
   ·intro j aj hj Y O U N' ab J I;refine tZ ?_;rw[aj];refine fin Y O U N' ab ?_;rw[J,om (by omega)];split
    ·rfl
    ·rename_i ae
     have:=I ae
     have:ns=[]:=oV (by omega);rw[this,Ix]
   ·intro j s xs I _ ak Y O U N' ab J hj;have hb:=I.b;have hr:=I.r;refine tZ ?_;rw[I.lt];refine Br.beq (λhe=>⟨⟨by omega,by omega⟩,s,?_,λN2 aq=>If Y ?_ O U s N2 _ λa8 c8 N8 ba _ _ _=>?_⟩) λae=>fin Y O U N' ab ?_
    ·rw[oG,hr]
    ·rw[J];exact oR (mR _ _) hx
    ·rw[I.w];refine ak _ _ _ _ (by omega) ?_ (λhc=>absurd he hc);rw[J,P6,vJ I.g]
    ·rw[if_neg ae,J,hj ae,mu,Ix]
  refine up ao al (λi xs=>∀(out:List ByteArray) (q N':Nat),N<=N'->out.length+sU xs<=sU l->u5 xs at_ ns i out=u5 l at_ ns 0 []->yA Q N a3 (zA ns) c3 at_ (zA out).length q i y (zA out) q N') ?_ ?_ [] 0 N4 (by omega) (by simp) rfl
  ·intro i aj hi out q N' ab _ he;refine sQ ⟨_,_,_,ah,?_⟩;rw[aj];simp only[u5]at he;subst he;exact⟨⟨rfl,rfl⟩,⟨rfl,rfl⟩,⟨rfl,rfl⟩,λa1 N5 aw hf N6 ax=>hQ _ _ _ (by omega) (vD hf ax)⟩
  ·intro i x xs I _ ak out q N' ab bb he;have hb:=I.b;simp only[sU]at bb;have bn:=pX I.m;have bp:=GA out (if(i:Int)=at_ then sG ns x.fv else x.fv);have bq:(if(i:Int)=at_ then sG ns x.fv else x.fv).length<=x.fv.length:=by
    split
    ·exact mR _ _
    ·exact oC _
   refine sQ ⟨_,_,_,ah,?_⟩;rw[I.lt];refine⟨_,_,_,ah,⟨by omega,by omega⟩,λN5 aw=>?_⟩;rw[oG];refine ih x I.m _ I.r (by omega) N5 _ λa6 c6 N6 ax bc _ _=>inner i x out q N6 (by omega) (by omega) (by omega) (λc ai h1=>?_) a6 c6 (bc.mono (by omega) (oC _));rw[I.w];exact ak _ _ _ (by omega) (by omega) (by rw[<-he];rfl)
theorem BCalls.cap {f:FuncId}{full:List Sh}{args:List PV}{bx:List Bx}{N:Nat}{Q:QT full}(hc:wL prog f=true)(h:(∀ t z es n,Bx.arr t z es n∈bx->es.length<=n)->BCalls prog f full args bx N Q):BCalls prog f full args bx N Q:=
 ⟨hc,λav w0 E J O I U Y=>(h λt z es n hm=>by
  obtain⟨k,hk⟩:=oS.1 hm;rcases I.br k _ hk (by simp)with⟨_,e1,e2⟩ | ⟨b,c,_,_,_,e,_⟩
  ·rw[e1,e2];exact oC _
  ·exact e).h av w0 E J O I U Y⟩
theorem Hq {α:Type}(p:α->Bool):∀(l:List α)(i:Int),(BY p l i = -1/\∀ x∈l,p x=false)\/∃ pre x post,l=pre++x::post/\BY p l i=i+(pre.length:Int)/\p x=true/\∀ y∈pre,p y=false
 | [],i=>.inl ⟨rfl,by simp⟩
 | x :: l,i=>by
   simp only[BY];by_cases I:p x=true
   ·exact .inr ⟨[],x,l,rfl,by simp[I],I,by simp⟩
   ·rcases Hq p l (i+1)with⟨J,O⟩ | ⟨pre,y,post,J,O,U,Y⟩
    ·refine .inl ⟨by rw[if_neg I,J],λy hy=>?_⟩;rcases oL.1 hy with rfl | hy
     ·simpa using I
     ·exact O y hy
    ·refine .inr ⟨x::pre,y,post,by rw[J];rfl,by rw[if_neg I,O];simp only[oJ];omega,U,λz hz=>?_⟩;rcases oL.1 hz with rfl | hz
     ·simpa using I
     ·exact Y z hz
theorem KS (s:ByteArray)(ns:List ByteArray)(I:ns.length<=4611686018427387904)(ad:Addr)(a:Option Addr)(c:Nat):vU 274 [.str s,.pd ad 0 (.sl a 0 (zA ns) c)] (decide (s∈ns)):=λN Q J=>by refine pq N s ad _ Q ⟨_,_,_,rfl,λN1 O=>y9 ns I a c s N1 _ λN2 U _ N3 Y=>Qb (J _ (by omega)) (CV s ns).symm⟩
theorem Lu (l:List ByteArray) (hl:l.length<=2199023255552) (a:Option Addr) (c:Nat) (ad:Addr) (ns:List ByteArray) (hn:ns.length<=4611686018427387904) (a1:Option Addr) (c1:Nat) :
  AG 285 [.sv a 0 (zA l) c,.fn 274 [.pd ad 0 (.sl a1 0 (zA ns) c1)]] (BY (λx=>decide (x∈ns)) l 0):=λN Q hQ=>by
 have ab:=zH l;refine tL N a _ c ad _ Q λ_=>?_;refine up (xZ l) (by omega) (λi xs=>∀(N':Nat),N<=N'->(∀ J,N'<=J->Q (BY (λx=>decide (x∈ns)) xs i) J)->yF Q N a (zA l) c ad (.sl a1 0 (zA ns) c1) ((zA l).length:Int) i N') ?_ ?_ N (oC _) hQ
 ·intro i U _ N' Y I;refine wB ?_;rw[U];exact λJ h=>I _ (by omega)
 ·intro i x xs O _ aa N' Y I;have hb:=O.b;have hr:=O.r;simp only[BY]at I;refine wB ?_;rw[O.lt,O.w,oG,hr];refine⟨⟨by omega,by omega⟩,x,rfl,λN1 ac=>KS x ns hn ad a1 c1 N1 _ λN2 ae _=>Br.dec (λh N3 ah=>Qi (I _ (by omega)) (by simp[h])) λh=>aa _ (by omega) λJ h2=>Qi (I _ (by omega)) (by rw[if_neg (by simpa using h)];simp)⟩
theorem Va (done:List D)(y s:D)(r:List D):(done++y::r).set done.length s=done++s::r:=by rw[lL _ _ (oC _),Nat.sub_self];rfl
theorem KR (l:List ByteArray) (hl:l.length<=2199023255552) (ns:List ByteArray) (hn:ns.length<=4611686018427387904) (c:Nat) (a1:Option Addr) (c1:Nat) (N:Nat) (Q:QT [Sh.bk 0,.sl 0,.sl 0])
  (hQ:∀ x N',N<=N'->Q x none (zA (sG ns l)) c a1 (zA ns) c1 N') :
  BCalls prog 273 [Sh.bk 0,.sl 0,.sl 0] [.sb 0 0 0 (zA l).length c,.fn 274 [.pb 1 0 0 0]] [.arr 9 0 (zA l) c,.var [.sv a1 0 (zA ns) c1]] N Q:=by
 refine BCalls.cap (by kernel_rfl) λY=>?_;have hc:=Y _ _ _ _ (nT);have au:=zH l;refine tF N _ _ _ _ _ _ _ Q λE _ _=>⟨⟨rfl,rfl⟩,λa2 _ ad _ N1 ae _=>Lu l hl a2 c ad ns hn a1 c1 N1 _ λN2 ah _=>?_⟩
 rcases Hq (λx=>decide (x∈ns)) l 0 with⟨U,h2⟩ | ⟨pre,x,post,U,h2,h3,h4⟩
 ·rw[U];refine⟨yY,⟨rfl,rfl⟩,λN3 ai=>?_⟩;have e:sG ns l=l:=by unfold sG;rw[List.filter_eq_self];intro s hs;simpa using h2 s hs
  rw[e]at hQ;exact hQ _ _ (by omega)
 ·rw [h2,Int.zero_add];have aj:=oY List.length U;rw[oH,oJ]at aj;have aa:sG ns l=pre++sG ns post:=by rw[U];unfold sG;rw[List.filter_append,List.filter_cons_of_neg (by simpa using h3),List.filter_eq_self.2 λs hs=>by simpa using h4 s hs]
  rw [aa]at hQ;refine Br.beq (λh=>by omega) λ_=>?_;rw[i64_in _ (by omega)];have key:∀(xs done:List ByteArray) (I:List D) (j:Int) (N':Nat),N<=N'->I≠[]->done++sG ns xs=pre++sG ns post->j=((done.length+I.length:Nat):Int)->done.length+I.length+xs.length=l.length ->
    zR E Q N (zA l).length c (done.length:Int) j (zA done++(I++zA xs)) c a1 (zA ns) c1 N':=by
   intro xs
   induction xs with
   | nil=>
     intro done I j N' ak hj hd O J;have ab:=zH done;have al:=mz.2 hj;simp only[oN,mU]at J;refine xu _ _ _ _ _ _ _ _ _ _ _ _ _ ?_;rw[mB (by omega)];have e1:List.take (done.length:Int).toNat (List.take (0+(done.length:Int).toNat) (zA done++(I++zA []))++(List.replicate (((zA l).length:Int).toNat - (done.length:Int).toNat) (D.t (bytes []))++List.drop (0+(done.length:Int).toNat+(((zA l).length:Int).toNat - (done.length:Int).toNat)) (zA done++(I++zA []))))=zA done:=by rw[oG,nG,mo (by rw[nL,oH];omega),List.take_take,Nat.min_self,mo (by omega),om (by omega)]
     rw[e1];simp only[sG,List.filter_nil,o7]at hd;have hd:done=pre++sG ns post:=hd;have ao:(zA done++(I++zA [])).length=l.length:=by simp[zA];omega
     refine⟨⟨by omega,by omega,by omega,by omega⟩,by omega,⟨by omega,by omega⟩,?_,yY,⟨by omega,rfl⟩,λN3 ai=>?_⟩
     ·rw[oH,nL];omega
     ·rw[hd];exact hQ _ _ (by omega)
   | cons s xs ih=>
     intro done I j N' ak hj hd O J;have ab:=zH done;have al:=mz.2 hj;have aq:=zH (s::xs);simp only[oJ]at J aq;refine xu _ _ _ _ _ _ _ _ _ _ _ _ _ ?_;rw[nk (by omega)];have ao:(zA done++(I++zA (s::xs))).length=l.length:=by simp only[oH];omega
     have ac:(zA done++(I++zA (s::xs))).getD (0+j.toNat) default=.t s:=by rw[O,oG,nG,oA,oT (by omega),oT (by omega)];rw[show done.length+I.length - (zA done).length - I.length=0 by omega];rfl
     refine⟨⟨by omega,by omega,by omega⟩,by omega,s,ac,λad _ N1 ae _=>KS s ns hn ad a1 c1 N1 _ λN2 ah _=>Br.ndec (λh=>⟨⟨by omega,by omega,by omega⟩,by omega,?_⟩) λh=>?_⟩
     ·rw[i64_in _ (by omega),i64_in _ (by omega),nG,oG];obtain⟨y,ys,rfl⟩:=List.exists_cons_of_ne_nil hj;have e2:(zA done++(y::ys++zA (s::xs))).set done.length (.t s)=zA (done++[s])++((ys++[.t s])++zA xs):=by rw[<-ab,o3,Va,<-vf];simp[zA]
      rw[e2]
      have:=ih (done++[s]) (ys++[.t s]) (j+1) N2 (by omega) (by simp) (by rw[<-hd];simp[sG,h]) (by simp only[oH,oJ,oN]at O ⊢;omega) (by simp only[oH,oJ,oN]at J ⊢;omega)
      simpa using this
     ·rw[i64_in _ (by omega)]
      have:=ih done (I++[.t s]) (j+1) N2 (by omega) (by simp) (by rw[<-hd];simp[sG,h]) (by simp only[oH,oJ,oN];omega) (by simp only[oH,oJ,oN];omega)
      simpa [zA]using this
  have:=key post pre [.t x] ((pre.length:Int)+1) N2 (by omega) (by simp) rfl (by simp) (by simp;omega)
  rw[U];rw[U]at this;simpa [zA]using this
theorem uC:∀(t:Tm)(d:D),t.Is d->t.wd<=2199023255552->UQ 256 [.dg 9 d] t.fv:=by
 refine Tm.ind λk nm ot n0 ty re l ih d hd hG N Q O=>?_;obtain⟨t0,t1,r0,r1,a,es,c,rfl,hh,U,Y⟩:=Tm.is_mk.1 hd;have hl:=Y.len;simp only[Tm.wd]at hG;refine GG N _ Q λ_=>⟨_,rfl,Br.beq (λh1=>⟨_,rfl,⟨rfl,rfl⟩,λN1 aw=>?_⟩) λh1 N3 ax=>Lw (n:=l.length) (by omega) N3 _ λa3 c3 N4 ay _ _ _=>⟨_,_,_,rfl,?_⟩⟩
 ·have e:(Tm.mk k nm ot n0 ty re l).fv=[nm]:=by simp[Tm.fv,h1]
  rw[e]at O;exact O _ _ (by omega)
 ·have e:(Tm.mk k nm ot n0 ty re l).fv=u5 l (yX k l.length) (bdN k nm ot l.length) 0 []:=by simp[Tm.fv,h1]
  rw[e]at O;rw[if_neg h1]at hG;have az:sU l<=2199023255552:=by omega
  have a6:Ad l<=2199023255552:=by omega
  have ai:=qC k nm ot l.length;generalize bdN k nm ot l.length=ns at O ai ⊢;generalize yX k l.length=at_ at O ⊢;refine up Y U (λi xs=>∀(out:List ByteArray) q a5 c5 N',N<=N'->out.length+sU xs<=sU l->u5 xs at_ ns i out=u5 l at_ ns 0 []->xH Q N at_ (zA out).length q a es c (es.length:Int) i a5 (zA ns) c5 (zA out) q N') ?_ ?_ [] 0 a3 c3 N4 (by omega) (by simp) rfl
  ·intro i aj hi out q a5 c5 N' ak aa he;refine sN ?_;rw[aj];simp only[u5]at he;subst he;exact⟨⟨rfl,rfl⟩,λN5 al=>O _ _ (by omega)⟩
  ·intro i x xs I _ ab out q a5 c5 N' ak aa he;have hb:=I.b;simp only[sU]at aa;have a7:=pX I.m;have ac:=GA out (if(i:Int)=at_ then sG ns x.fv else x.fv);have a8:(sG ns x.fv).length<=x.fv.length:=mR _ _;refine sN ?_;rw[I.lt];refine⟨⟨by omega,by omega⟩,λN5 al=>?_⟩;rw[oG,I.w];refine ih x I.m _ I.r (by omega) N5 _ λc6 N6 ba _ _=>Br.beq (λh N7 bb=>KR x.fv (by omega) ns (by omega) c6 a5 c5 N7 _ λx8 N8 bc _ _ _=>⟨⟨rfl,rfl⟩,λa9 _=>⟨⟨rfl,rfl⟩,λJ _ N9 ao ae=>?_⟩⟩) λh=>⟨⟨rfl,rfl⟩,λa9 _=>⟨⟨rfl,rfl⟩,λJ _ N9 ao ae=>?_⟩⟩
   ·refine sD out (sG ns x.fv) (by omega) (by omega) a9 J q c6 N9 _ λaq au ah _=>⟨Fh _,λ_=>?_⟩
    rw[if_pos h]at ac;exact ab _ _ _ _ _ (by omega) (by omega) (by rw[<-he];simp only[u5];rw[if_pos h])
   ·refine sD out x.fv (by omega) (by omega) a9 J q c6 N9 _ λaq au ah _=>⟨Fh _,λ_=>?_⟩
    rw[if_neg h]at ac;exact ab _ _ _ _ _ (by omega) (by omega) (by rw[<-he];simp only[u5];rw[if_neg h])
end Go.Proofs.YtlaniepnglheoaaGreatDoor
namespace Go.Proofs
namespace YtlaniepnglheoaaGreatDoor
open Go Go.Proofs Go.Proofs.Tryz Go.RowKit Go.Shelf Go.Sort Go.Lib
def itoaR:Go.Shelf.Ren:=⟨λx=>match x with | 171=>66 | 243=>133 | 246=>198 | 283=>240 | 284=>241 | 285=>242 | 286=>243 | 129=>262 | 317=>261 | 318=>263 | 319=>264 | 320=>265 | 337=>280 | 338=>281 | n=>n,λx=>match x with | 3=>3 | 9=>9 | 2=>2 | 4=>4 | 171=>191 | 0=>0 | 53=>192 | 37=>26 | 5=>5 | 173=>195 | 212=>211 | 51=>137 | 20=>20 | 213=>212 | 46=>115 | 232=>235 | 233=>236 | n=>n,λx=>match x with | 17=>4 | 18=>8 | 19=>9 | n=>n⟩
theorem itoaL:LaysM.n171 Tryz.prog itoaR where
 mixed:=by kernel_rfl
 f129:=Tryz.func262.trans (oY some (by kernel_rfl))
 f171:=Tryz.func66.trans (oY some (by kernel_rfl))
 f243:=Tryz.func133.trans (oY some (by kernel_rfl))
 f246:=Tryz.func198.trans (oY some (by kernel_rfl))
 f283:=Tryz.func240.trans (oY some (by kernel_rfl))
 f284:=Tryz.func241.trans (oY some (by kernel_rfl))
 f285:=Tryz.func242.trans (oY some (by kernel_rfl))
 f286:=Tryz.func243.trans (oY some (by kernel_rfl))
 f317:=Tryz.func261.trans (oY some (by kernel_rfl))
 f318:=Tryz.func263.trans (oY some (by kernel_rfl))
 f319:=Tryz.func264.trans (oY some (by kernel_rfl))
 f320:=Tryz.func265.trans (oY some (by kernel_rfl))
 f337:=Tryz.func280.trans (oY some (by kernel_rfl))
 f338:=Tryz.func281.trans (oY some (by kernel_rfl))
 t0:=Tryz.underlying0
 a0:=Tryz.isAgg0
 z0:=Tryz.sizeOf0
 v0:=Tryz.zeroValue0
 t2:=Tryz.underlying2
 a2:=Tryz.isAgg2
 z2:=Tryz.sizeOf2
 v2:=Tryz.zeroValue2
 t3:=Tryz.underlying3
 a3:=Tryz.isAgg3
 z3:=Tryz.sizeOf3
 v3:=Tryz.zeroValue3
 t4:=Tryz.underlying4
 a4:=Tryz.isAgg4
 z4:=Tryz.sizeOf4
 v4:=Tryz.zeroValue4
 t5:=Tryz.underlying5
 a5:=Tryz.isAgg5
 z5:=Tryz.sizeOf5
 v5:=Tryz.zeroValue5
 t9:=Tryz.underlying9
 a9:=Tryz.isAgg9
 z9:=Tryz.sizeOf9
 v9:=Tryz.zeroValue9
 t20:=Tryz.underlying20
 a20:=Tryz.isAgg20
 z20:=Tryz.sizeOf20
 v20:=Tryz.zeroValue20
 t37:=Tryz.underlying26
 a37:=Tryz.isAgg26
 z37:=Tryz.sizeOf26
 v37:=Tryz.zeroValue26
 t46:=Tryz.underlying115
 a46:=Tryz.isAgg115
 z46:=Tryz.sizeOf115
 v46:=Tryz.zeroValue115
 t51:=Tryz.underlying137
 a51:=Tryz.isAgg137
 z51:=Tryz.sizeOf137
 v51:=Tryz.zeroValue137
 t53:=Tryz.underlying192
 a53:=Tryz.isAgg192
 z53:=Tryz.sizeOf192
 v53:=Tryz.zeroValue192
 t171:=Tryz.underlying191
 a171:=Tryz.isAgg191
 z171:=Tryz.sizeOf191
 v171:=Tryz.zeroValue191
 t173:=Tryz.underlying195
 a173:=Tryz.isAgg195
 z173:=Tryz.sizeOf195
 v173:=Tryz.zeroValue195
 t212:=Tryz.underlying211
 a212:=Tryz.isAgg211
 z212:=Tryz.sizeOf211
 v212:=Tryz.zeroValue211
 t213:=Tryz.underlying212
 a213:=Tryz.isAgg212
 z213:=Tryz.sizeOf212
 t232:=Tryz.underlying235
 a232:=Tryz.isAgg235
 z232:=Tryz.sizeOf235
 v232:=Tryz.zeroValue235
 t233:=Tryz.underlying236
 a233:=Tryz.isAgg236
 z233:=Tryz.sizeOf236
 v233:=Tryz.zeroValue236
 g17:=by kernel_rfl
 g18:=by kernel_rfl
 g19:=by kernel_rfl
 i0:=by kernel_rfl
 i2:=by kernel_rfl
 i3:=by kernel_rfl
 i4:=by kernel_rfl
 i5:=by kernel_rfl
 i9:=by kernel_rfl
 i20:=by kernel_rfl
 i37:=by kernel_rfl
 i46:=by kernel_rfl
 i51:=by kernel_rfl
 i53:=by kernel_rfl
 i171:=by kernel_rfl
 i173:=by kernel_rfl
 i212:=by kernel_rfl
 i232:=by kernel_rfl
 i233:=by kernel_rfl
 m17:=by kernel_rfl
 m18:=by kernel_rfl
 m19:=by kernel_rfl
theorem NI {w : World}(h : GlobIs w) : Lib.TabIs prog w "internal/strconv.uint64pow10" .u64 Lib.pow10Tab := by obtain ⟨t,fz,I⟩:=h.h _ (nT);unfold Lib.TabIs World.var?;rw [itoaL.m17];have J:w.heap[itoaR.g 17]?=some (.cells (Lib.pow10Tab.map λn=>Value.int .u64 n).toArray t fz):=I;simp only [oO,J]
theorem WK (u:Nat)(h1:u<=9223372036854775807)(N:Nat)(Q:QT [.str])(U:∀ N',N<=N'->Q ⟨(Lib.decDigits u).toArray⟩ N'):ACalls prog 66 [.str] [.int .i64 u] N Q:=
 ⟨by kernel_rfl,λav w0 hN J _=>(Any.strconv_Itoa itoaL (u:Int) (by omega) (by omega) w0 (NI J.g)).mono λe w ⟨Y,k,os,hw⟩=>by
  subst Y;subst hN;subst hw;rw[Lib.itoa_nonneg];have I:(Go.Sort.grow (w0.drewN k) os).heap.size=w0.heap.size+os.size:=by unfold Go.Sort.grow;rw[mS];rfl
  refine⟨[.str ⟨(Lib.decDigits u).toArray⟩],[],[],?_⟩;exact { q:=U _ (by rw[I];omega),v:=rfl,m:=⟨rfl,by simp,by simp,by simp,λk j b h=>by obtain⟨_,h2,_⟩:=h;simp[Env.at]at h2⟩,ok:=λp O=>by simp at O;subst O;trivial,fresh:=λk b h=>by simp[Env.at]at h,size:=by rw[I];omega,old:=λb hb=>Array.getElem?_append_left hb,fz:=λ_ _ _ _ _ _=>trivial,ku:=⟨rfl,rfl⟩ }⟩
end YtlaniepnglheoaaGreatDoor
end Go.Proofs
namespace Go.Proofs.YtlaniepnglheoaaGreatDoor
open Go Go.Proofs Go.Proofs.Tryz Go.IntWalk
def xR (f:FuncId)(args:List PV)(s:ByteArray):Prop:=∀(N:Nat) (Q:QT [.str]),(∀ N',N<=N'->Q s N')->ACalls prog f [.str] args N Q
theorem Qst {Q:QT [.str]}{a b:ByteArray}{N:Nat}(h:Q a N)(e:a=b):Q b N:=e ▸ h
def PH (u:Nat):ByteArray:=⟨(Lib.decDigits u).toArray⟩
theorem Cy (u:Nat)(h:u<=4611686018427387904):Lib.nDigits u<=20:=by
 by_cases I:1<=u
 ·have:=Lib.numDigits_eq u I (by omega);split at this<;>omega
 ·rw[Lib.nDigits_small (by omega)];omega
theorem BT (u:Nat):(PH u).size=Lib.nDigits u:=by show(Lib.decDigits u).toArray.size=_;rw[nq,Lib.decDigits_length]
theorem z8 {a b:ByteArray}(h:a.data.toList=b.data.toList):a=b:=by cases a;cases b;simp at h;rw[h]
theorem zT (a b:ByteArray):(a++b).data.toList=a.data.toList++b.data.toList:=by simp
theorem OF (k:Nat):bytes [118]++PH k=tD k:=z8 (by rw[zT];rfl)
theorem PB (k:Nat)(h:k<=4611686018427387904):(tD k).size<=21:=by
 have:=Cy k h
 show(118::Lib.decDigits k).toArray.size<=21;rw[nq,oJ,Lib.decDigits_length];omega
theorem uB (u:Nat)(h:u<=4611686018427387904):xR 30 [.j u] (PH u):=λN Q I=>D6 N u Q λN1 J=>WK u (by omega) N1 _ λN2 O _ N3 U=>I _ (by omega)
theorem SP (m:Nat)(s:ByteArray)(hs:∀ u,u<10->Lib.decDigits u=[UInt8.ofNat (48+u)]):(yS [IntKind.u8.wrap (IntKind.i64.wrap (48+Int.tmod (m:Int) 10))]++s).data.toList=UInt8.ofNat (48+m % 10)::s.data.toList:=by
 rw[zT];have e:IntKind.u8.wrap (IntKind.i64.wrap (48+Int.tmod (m:Int) 10))=((48+m % 10:Nat):Int):=by
  have:Int.tmod (m:Int) 10=((m % 10:Nat):Int):=by rw[nl (by omega)];omega
  rw[this,i64_in _ (by omega),IntKind.wrap_u8];omega
 rw[e];have I:yS [((48+m % 10:Nat):Int)]=⟨#[UInt8.ofNat (48+m % 10)]⟩:=rfl;rw[I];rfl
theorem xX (u:Nat) (h:u<=4611686018427387904):xR 22 [.j u] (PH u):=λN Q hQ=>by
 have e1:∀ u,u<10->Lib.decDigits u=[UInt8.ofNat (48+u)]:=λu h=>by rw[Lib.decDigits,dif_pos h]
 have e2:∀ u,¬u<10->Lib.decDigits u=Lib.decDigits (u / 10)++[UInt8.ofNat (48+u % 10)]:=λu h=>by rw[Lib.decDigits,dif_neg h]
 refine rk N u Q (Br.beq (λh0 N1 Y=>?_) λh0=>?_)
 ·have:u=0:=by omega
  subst this;refine Qst (hQ _ Y) (z8 ?_);show Lib.decDigits 0=[48];rw[e1 0 (by omega)];rfl
 ·rw [mB (by omega)]
  have key:∀(m:Nat) (s:ByteArray),m<=u->s.size+Lib.nDigits m<=20\/(m=0/\s.size<=20)->(if m=0 then []else Lib.decDigits m)++s.data.toList=Lib.decDigits u->zl Q N m false s N:=by
   intro m
   induction m using Nat.strongRecOn with
   | _ m ih=>
     intro s hm O he;refine w8 ?_;refine Br.bne (λI=>?_) λI=>?_
     ·have I:m≠0:=by omega
      have ht:Int.tmod (m:Int) 10=((m % 10:Nat):Int):=by rw[nl (by omega)];omega
      have hd:Int.tdiv (m:Int) 10=((m / 10:Nat):Int):=by rw[Int.tdiv_eq_ediv_of_nonneg (by omega)];omega
      have O:s.size+Lib.nDigits m<=20:=by rcases O with U | ⟨U,_⟩;exact U;exact absurd U I
      refine⟨by omega,?_⟩;rw[mB (by omega)];refine⟨by simp,[IntKind.u8.wrap (IntKind.i64.wrap (48+Int.tmod (m:Int) 10))],rfl,?_,by omega,?_⟩
      ·have:(yS [IntKind.u8.wrap (IntKind.i64.wrap (48+Int.tmod (m:Int) 10))]).size=1:=rfl;omega
      ·rw[hd,i64_in _ (by omega)];refine ih (m / 10) (by omega) _ (by omega) ?_ ?_
       ·have U:(yS [IntKind.u8.wrap (IntKind.i64.wrap (48+Int.tmod (m:Int) 10))]++s).size=1+s.size:=by rw[oE];rfl
        by_cases J:m<10
        ·right
         have:=Lib.nDigits_pos m
         exact⟨by omega,by omega⟩
        ·left
         have:=Lib.nDigits_big J
         omega
       ·rw[SP m s e1,<-he,if_neg I];by_cases J:m<10
        ·rw[if_pos (by omega),e1 m J,show m % 10=m by omega];rfl
        ·rw[if_neg (by omega),e2 m J];simp
     ·have:m=0:=by omega
      subst this;refine λN2 aa=>Qst (hQ _ aa) (z8 ?_);rw[if_pos rfl]at he;exact he.symm
  refine key u (bytes []) (oC _) (.inl ?_) ?_
  ·have:=Cy u h
   show 0+_<=_;omega
  ·rw[if_neg (by omega)];exact o7 _
theorem Ho (l:List ByteArray) (P:Nat->Nat->Prop) (N:Nat) (F:ByteArray->Nat->Prop) (hF:∀ N',N<=N'->F (fresh l) N')
  (step:∀(k N':Nat),N<=N'->k<=l.length+1->(∀ I,N'<=I->tD k∈l->P (k+1) I)->(∀ I,N'<=I->tD k∉l->F (tD k) I)->P k N'):P 1 N:=by
 have key:∀(f k:Nat) (N':Nat),N<=N'->1<=k->k+f=l.length+1->(∀ j,1<=j->j<k->tD j∈l)->qM f k l=qM l.length 1 l->P k N':=by
  intro f
  induction f with
  | zero=>
    intro k N' O aa ab J U;refine step k N' O (by omega) (λI h1 Y=>?_) λI h1 Y=>?_
    ·exfalso
     have:=UM l (k+1) (λj h4 h5=>by
      by_cases h6:j=k
      ·subst h6;exact Y
      ·exact J j h4 (by omega)) (by omega)
     omega
    ·have:=hF I (by omega)
     unfold fresh at this;rw[<-U]at this;exact this
  | succ f ih=>
    intro k N' O aa ab J U;simp only[qM]at U;refine step k N' O (by omega) (λI h1 Y=>?_) λI h1 Y=>?_
    ·rw[if_pos Y]at U;exact ih (k+1) I (by omega) (by omega) (by omega) (λj h4 h5=>by
      by_cases h6:j=k
      ·subst h6;exact Y
      ·exact J j h4 (by omega)) U
    ·rw[if_neg Y]at U
     have:=hF I (by omega)
     unfold fresh at this;rw[<-U]at this;exact this
 exact key l.length 1 N (oC _) (oC _) (by omega) (λj h1 h2=>by omega) rfl
theorem Dw (l:List ByteArray)(hl:l.length<=8796093022208)(a:Option Addr)(c:Nat):xR 246 [.sv a 0 (zA l) c] (fresh l):=λN Q O=>by
 refine EJ N a _ c Q λ_=>?_;refine Ho l (λk N'=>xd Q N a (zA l) c k N') N (λs N'=>Q s N') O λk N' U hk J I=>?_;have Y:=Cy k (by omega);have aa:=BT k;refine Bb λN1 ab=>xX k (by omega) N1 _ λN2 ac _=>⟨by omega,λN3 ae=>?_⟩
 rw[OF];refine xb l (by omega) a c (tD k) N3 _ λN4 ah _=>?_;simp only[FR];refine Br.dec (λh N5 ai=>I _ (by omega) h) λh=>?_;rw[i64_in _ (by omega)];exact J _ (by omega) (mP.1 h)
theorem Ds (l:List ByteArray)(hl:l.length<=8796093022208)(a:Option Addr)(c:Nat):xR 276 [.sv a 0 (zA l) c] (fresh l):=λN Q U=>by
 refine D7 N a _ c Q λ_ N1 Y=>LW N1 _ a _ c _ λ_=>?_;refine Ho l (λk N'=>vh _ N1 (bytes [118]) a (zA l) c k N') N1 (λs N'=>∀ I,N'<=I->Q s I) (λN' h I h2=>U _ (by omega)) λk N' aa hk O J=>?_;have ab:=Cy k (by omega);have ac:=BT k;have hb:(bytes [118]).size=1:=rfl;refine Gy λN2 ae=>uB k (by omega) N2 _ λN3 ah _=>⟨by omega,λN4 ai=>?_⟩
 rw[OF];refine y9 l (by omega) a c (tD k) N4 _ λN5 aj _=>?_;rw[CV];refine Br.ndec (λh N6 ak=>?_) λh=>?_
 ·exact λ_ N7 al=>J N7 (by omega) h _ (oC _)
 ·rw[i64_in _ (by omega)];exact O _ (by omega) h
theorem xw {k:Int}{n:Nat}(h:¬yX k n<0):(yX k n).toNat<n/\((yX k n).toNat:Int)=yX k n:=by
 rcases vV k n with I | ⟨I,J,_⟩ | ⟨I,J,_⟩
 ·omega
 ·rw[I];subst J;exact⟨by decide,rfl⟩
 ·rw[I];subst J;exact⟨by decide,rfl⟩
theorem zi {l:List Tm}{i:Nat}(h:i<l.length):l[i]?=some (l.getD i tm0):=by rw[oA,oI h];rfl
theorem Rc:∀(f:Nat)(e:Tm)(x:ByteArray)(b:Tm),x∉e.fv->e.sub f x b=e
 | 0,e,x,b,_=>rfl
 | f + 1,.mk k nm ot n ty re l,x,b,h=>by
   rw[Tm.fv_mem]at h;simp only[not_or,not_and,not_exists]at h;obtain⟨h1,Y⟩:=h;simp only[Tm.sub];have part:k≠1->∀(j:Nat) (y:Tm),l[j]?=some y->(j:Int)≠yX k l.length->y.sub f x b=y:=λI j y J O=>by
    refine Rc f y x b λhc=>?_
    have:=Y I j y J
    unfold fvI at this;rw[if_neg O]at this;exact this hc
   split
   ·rename_i I;rw[if_neg (λhc=>h1 I hc.symm)]
   ·rename_i I;split
    ·rename_i hb;congr 1;refine(nC λy hy=>?_).trans (lQ l);obtain⟨j,J⟩:=oS.1 hy;exact part I j y J (by omega)
    ·rename_i hb;obtain⟨U,g2⟩:=xw hb;split
     ·congr 1;apply nJ;intro i;rw[nR];split
      ·rename_i hi;subst hi;rw[if_pos (by simpa using U),zi U]
      ·rename_i hi;rw[oF];cases hl:l[i]? with
       | none=>rfl
       | some y=>simp only[oZ];rw[part I i y hl (by omega)]
     ·rename_i hc;exfalso;simp only[not_or,mP]at hc
      have:=Y I _ _ (zi U)
      unfold fvI at this;rw[if_pos g2,uU]at this;exact this ⟨hc.2,hc.1⟩
mutual
def Tm.V:Tm->Prop
 | .mk k _ _ _ _ _ l=>(k=1->l=[])/\UK l
def UK:List Tm->Prop
 | []=>True
 | t::ts=>t.V/\UK ts
end
theorem tj:∀ {l:List Tm},UK l↔∀ x∈l,x.V
 | []=>by simp[UK]
 | t::ts=>by simp only[UK,tj (l:=ts),oL,mY]
theorem ti:∀ {l:List Tm}{n:Nat},v7 l<=n↔∀ x∈l,x.dp<=n
 | [],n=>by simp[v7]
 | t::ts,n=>by simp only[v7,Nat.max_le,ti (l:=ts),oL,mY]
structure LeT (t' t:Tm):Prop where
 c:t'.vc<=t.vc
 d:t'.dp<=t.dp
 v:t.V->t'.V
 g:t.G->t'.G
 s:t'.sz<=t.sz
 n:t'.cnt<=t.cnt
theorem LeT.rfl {t:Tm}:LeT t t:=⟨oC _,oC _,id,id,oC _,oC _⟩
theorem LeT.trans {a b c:Tm}(h:LeT a b)(I:LeT b c):LeT a c:=⟨oR h.c I.c,oR h.d I.d,λJ=>h.v (I.v J),λJ=>h.g (I.g J),oR h.s I.s,oR h.n I.n⟩
theorem NN:∀ {l' l:List Tm},l'.length=l.length->(∀(i:Nat)(t' t:Tm),l'[i]?=some t'->l[i]?=some t->LeT t' t)->pp l'<=pp l/\v7 l'<=v7 l/\(UK l->UK l')/\(Nx l->Nx l')/\zO l'<=zO l/\xQ l'<=xQ l
 | [],[],_,_=>⟨oC _,oC _,id,id,oC _,oC _⟩
 | [],_::_,h,_=>by simp at h
 | _::_,[],h,_=>by simp at h
 | t'::O,t::ts,h,U=>by
   obtain⟨h1,h2,Y,h4,h5,h6⟩:=NN (l':=O) (l:=ts) (by simpa using h) λi a b ha hb=>U (i+1) a b (by simpa using ha) (by simpa using hb);have I:=U 0 t' t (by simp) (by simp)
   have:=I.c
   have:=I.d
   have:=I.s
   have:=I.n
   refine⟨by simp only[pp];omega,by simp only[v7];omega,λJ=>⟨I.v J.1,Y J.2⟩,λJ=>⟨I.g J.1,h4 J.2⟩,by simp only[zO];omega,by simp only[xQ];omega⟩
theorem C5 {l:List Tm}{g:Tm->Tm}{j:Nat}{v t' t:Tm}{i:Nat}(h:((l.map g).set j v)[i]?=some t')(J:l[i]?=some t):(i=j/\t'=v)\/(i≠j/\t'=g t):=by
 rw[nR]at h;split at h
 ·rename_i I;split at h
  ·exact .inl ⟨I.symm,(oX h).symm⟩
  ·cases h
 ·rename_i I;rw[oF,J]at h;exact .inr ⟨λhc=>I hc.symm,(oX h).symm⟩
theorem QY {k:Int}{nm ot J O:ByteArray}{n:Int}{ty re:Ty}{l l':List Tm}(U:k≠1)(h:l'.length=l.length)(Y:∀(i:Nat)(t' t:Tm),l'[i]?=some t'->l[i]?=some t->LeT t' t):LeT (.mk k J O n ty re l') (.mk k nm ot n ty re l):=by obtain⟨h1,h2,h3,h4,h5,h6⟩:=NN h Y;exact⟨by simp only[Tm.vc,if_neg U];omega,by simp only[Tm.dp];omega,λI=>⟨λhc=>absurd hc U,h3 I.2⟩,λI=>⟨I.1,I.2.1,h ▸ I.2.2.1,h4 I.2.2.2⟩,by simp only[Tm.sz];omega,by simp only[Tm.cnt];omega⟩
theorem JM {S:Tm->ByteArray->Tm->Tm}(I:∀ t x y,LeT (S t x (sZ y)) t)(k:Int)(n:Nat)(fb:List ByteArray)(x old:ByteArray)(s:ByteArray × ByteArray × Tm):LeT (rn1 S k n fb x old s).2.2 s.2.2:=by
 unfold rn1;split
 ·split
  ·exact I _ _ _
  ·exact I _ _ _
 ·exact LeT.rfl
theorem qv {S:Tm->ByteArray->Tm->Tm}(I:∀ t x y,LeT (S t x (sZ y)) t)(k:Int)(n:Nat)(fb:List ByteArray)(x:ByteArray):∀(l:List ByteArray)(s:ByteArray × ByteArray × Tm),LeT (rns S k n fb x l s).2.2 s.2.2
 | [],s=>LeT.rfl
 | old::l,s=>(qv I k n fb x l _).trans (JM I k n fb x old s)
theorem u3:∀(f:Nat)(t:Tm)(x y:ByteArray),LeT (t.sub f x (sZ y)) t
 | 0,t,x,y=>by simp only[Tm.sub];exact LeT.rfl
 | f + 1,.mk k nm ot n ty re l,x,y=>by
   have U:=u3 f;simp only[Tm.sub];split
   ·rename_i Y;split
    ·exact⟨by simp only[sZ,Tm.vc,if_pos Y,mF];exact oC _,by simp only[sZ,Tm.dp,v7];omega,λ_=>⟨λ_=>rfl,trivial⟩,λ_=>by simp[sZ,Tm.G,Nx,Ty.cnt,zS],by simp only[sZ,Tm.sz,zO];omega,by have:=Ty.cnt_pos ty;have:=Ty.cnt_pos re;simp only[sZ,Tm.cnt,xQ,Ty.cnt,zS];omega⟩
    ·exact LeT.rfl
   ·rename_i Y;split
    ·refine QY Y (by simp) λi t' t I J=>?_;rw[oF,J]at I;cases I;exact U t x y
    ·rename_i hb;obtain⟨g1,g2⟩:=xw hb;split
     ·refine QY Y (by simp) λi t' t I J=>?_;rcases C5 I J with⟨h1,O⟩ | ⟨h1,O⟩
      ·rw[h1,zi g1]at J;rw[O,<-oX J];exact LeT.rfl
      ·rw[O];exact U t x y
     ·refine QY Y (by simp) λi t' t I J=>?_;rcases C5 I J with⟨h1,O⟩ | ⟨h1,O⟩
      ·rw[h1,zi g1]at J;rw[O,<-oX J];exact(U _ x y).trans (qv U _ _ _ _ _ _)
      ·rw[O];exact U t x y
theorem TN:∀(f:Nat) (t:Tm) (x:ByteArray) (b:Tm),t.G->b.G->(t.sub f x b).G
 | 0,t,x,b,h,_=>by simp only[Tm.sub];exact h
 | f + 1,.mk k nm ot n ty re l,x,b,h,U=>by
   have I:=TN f;obtain⟨Y,h2,h3,h4⟩:=h;have vG:∀ y,(sZ y).G:=λy=>by simp[sZ,Tm.G,Nx,Ty.cnt,zS]
   simp only[Tm.sub];split
   ·split
    ·exact U
    ·exact⟨Y,h2,h3,h4⟩
   ·split
    ·refine⟨Y,h2,by simpa using h3,C6 λy J=>?_⟩;obtain⟨z,hz,rfl⟩:=oU.1 J;exact I z x b (zy h4 hz) U
    ·rename_i aa;obtain⟨g1,g2⟩:=xw aa;have O:=zy h4 (oB (zi g1));have key:∀ v:Tm,v.G->Nx ((l.map λt=>Tm.sub f t x b).set (yX k l.length).toNat v):=λv hv=>C6 λy J=>by
      rcases nM J with J | rfl
      ·obtain⟨z,hz,rfl⟩:=oU.1 J;exact I z x b (zy h4 hz) U
      ·exact hv
     split
     ·exact⟨Y,h2,by simpa using h3,key _ O⟩
     ·refine⟨Y,h2,by simpa using h3,key _ (I _ x b ?_ U)⟩;have r1:∀(old:ByteArray) (s:ByteArray × ByteArray × Tm),s.2.2.G->(rn1 (Tm.sub f) k l.length b.fv x old s).2.2.G:=λold s hs=>by
       unfold rn1;split
       ·split
        ·exact I _ _ _ hs (vG _)
        ·exact I _ _ _ hs (vG _)
       ·exact hs
      have rs:∀(ns:List ByteArray) (s:ByteArray × ByteArray × Tm),s.2.2.G->(rns (Tm.sub f) k l.length b.fv x ns s).2.2.G:=by
       intro ns
       induction ns with
       | nil=>exact λs hs=>hs
       | cons o os ab=>exact λs hs=>ab _ (r1 o s hs)
      exact rs _ _ O
theorem Vc:∀(f:Nat)(t:Tm)(x:ByteArray)(b:Tm),t.V->b.V->(t.sub f x b).V
 | 0,t,x,b,h,_=>by simp only[Tm.sub];exact h
 | f + 1,.mk k nm ot n ty re l,x,b,h,Y=>by
   have ih:=Vc f;obtain⟨h1,J⟩:=h;have J:=tj.1 J;simp only[Tm.sub];split
   ·split
    ·exact Y
    ·exact⟨h1,tj.2 J⟩
   ·rename_i hk;have I:∀ l':List Tm,k=1->l'=[]:=λ_ hc=>absurd hc hk;split
    ·refine⟨I _,tj.2 λy O=>?_⟩;obtain⟨z,hz,rfl⟩:=oU.1 O;exact ih z x b (J z hz) Y
    ·rename_i aa;obtain⟨g1,g2⟩:=xw aa;have U:=J _ (oB (zi g1));have key:∀ v:Tm,v.V->UK ((l.map λt=>Tm.sub f t x b).set (yX k l.length).toNat v):=λv hv=>tj.2 λy O=>by
      rcases nM O with O | rfl
      ·obtain⟨z,hz,rfl⟩:=oU.1 O;exact ih z x b (J z hz) Y
      ·exact hv
     split
     ·exact⟨I _,key _ U⟩
     ·exact⟨I _,key _ (ih _ x b ((qv (u3 f) _ _ _ _ _ _).v U) Y)⟩
theorem CW {k:Int}{nm ot:ByteArray}{n:Nat}{z:ByteArray}:z∈bdN k nm ot n↔(k=6/\n=1\/k=8/\n=2\/k=9/\n=1)/\z=nm\/(k=9/\n=1)/\z=ot:=by
 unfold bdN;by_cases I:k=6/\n=1
 ·rw[if_pos I];simp[I.1,I.2]
 ·rw[if_neg I];by_cases J:k=8/\n=2
  ·rw[if_pos J];simp[J.1,J.2]
  ·rw[if_neg J];by_cases O:k=9/\n=1
   ·rw[if_pos O];simp[O.1,O.2]
   ·rw[if_neg O];simp[I,J,O]
def FvS (f:Nat):Prop:=∀(t:Tm) (x:ByteArray) (b:Tm),t.dp<=f->∀ s∈(t.sub f x b).fv,(s∈t.fv/\s≠x)\/(s∈b.fv/\x∈t.fv)
theorem RM {f:Nat} (Y:FvS f) {k:Int} {n:Nat} {fb:List ByteArray} {x old:ByteArray} {s:ByteArray × ByteArray × Tm} (hd:s.2.2.dp<=f) (hk:k=6/\n=1\/k=8/\n=2\/k=9/\n=1) (J:old=s.1\/(k=9/\n=1)/\old=s.2.1) :
  ∀ z∈(rn1 (Tm.sub f) k n fb x old s).2.2.fv,z∉bdN k (rn1 (Tm.sub f) k n fb x old s).1 (rn1 (Tm.sub f) k n fb x old s).2.1 n->z∈s.2.2.fv/\z∉bdN k s.1 s.2.1 n:=by
 intro z;unfold rn1;by_cases h1:old∈fb
 ·rw [if_pos h1];by_cases U:s.1=old
  ·rw[if_pos U];simp only;intro O I;rcases Y _ _ _ hd z O with⟨a1,a2⟩ | ⟨a1,_⟩
   ·refine⟨a1,λhc=>?_⟩;rcases CW.1 hc with⟨_,c1⟩ | ⟨c0,c1⟩
    ·exact a2 (c1.trans U)
    ·exact I (CW.2 (.inr ⟨c0,c1⟩))
   ·rw[Mp,o5]at a1;exact absurd (CW.2 (.inl ⟨hk,a1⟩)) I
  ·rw[if_neg U];simp only;intro O I;rcases J with J | ⟨h9,J⟩
   ·exact absurd J.symm U
   ·rcases Y _ _ _ hd z O with⟨a1,a2⟩ | ⟨a1,_⟩
    ·refine⟨a1,λhc=>?_⟩;rcases CW.1 hc with⟨c0,c1⟩ | ⟨_,c1⟩
     ·exact I (CW.2 (.inl ⟨c0,c1⟩))
     ·exact a2 (c1.trans J.symm)
    ·rw[Mp,o5]at a1;exact absurd (CW.2 (.inr ⟨h9,a1⟩)) I
 ·rw[if_neg h1];exact λO I=>⟨O,I⟩
theorem VU {S:Tm->ByteArray->Tm->Tm}{k:Int}{n:Nat}{fb:List ByteArray}{x:ByteArray}{s:ByteArray × ByteArray × Tm}:(rn1 S k n fb x s.1 s).2.1=s.2.1:=by
 unfold rn1;split
 ·rw[if_pos rfl]
 ·rfl
theorem VV {f:Nat} (hS:FvS f) {k:Int} {n:Nat} {fb:List ByteArray} {x nm ot:ByteArray} {p:Tm} (hd:p.dp<=f) (J:k=6/\n=1\/k=8/\n=2\/k=9/\n=1) :
  ∀ z∈(rns (Tm.sub f) k n fb x (bdN k nm ot n) (nm,ot,p)).2.2.fv,z∉bdN k (rns (Tm.sub f) k n fb x (bdN k nm ot n) (nm,ot,p)).1 (rns (Tm.sub f) k n fb x (bdN k nm ot n) (nm,ot,p)).2.1 n->z∈p.fv/\z∉bdN k nm ot n:=by
 have one:=RM hS (fb:=fb) (x:=x) (old:=nm) (s:=(nm,ot,p)) hd J (.inl rfl);by_cases I:k=9/\n=1
 ·have e:bdN k nm ot n=[nm,ot]:=by rw[I.1,I.2];rfl
  intro z;rw[e];simp only[rns];have O:(rn1 (Tm.sub f) k n fb x nm (nm,ot,p)).2.2.dp<=f:=oR (JM (u3 f) k n fb x nm (nm,ot,p)).d hd;have U:=RM hS (fb:=fb) (x:=x) (old:=ot) (s:=rn1 (Tm.sub f) k n fb x nm (nm,ot,p)) O J (.inr ⟨I,(VU (s:=(nm,ot,p))).symm⟩);intro Y hn;obtain⟨a1,a2⟩:=U z Y hn
  have:=one z a1 a2
  rwa[e]at this
 ·have e:bdN k nm ot n=[nm]:=by
   unfold bdN;by_cases h6:k=6/\n=1
   ·rw[if_pos h6]
   ·rw[if_neg h6,if_pos (by rcases J with h | h | h;exact absurd h h6;exact h;exact absurd h I)]
  intro z;rw[e];simp only[rns];intro Y hn
  have:=one z Y hn
  rwa[e]at this
theorem PX {k:Int}{n:Nat}(h:¬yX k n<0):k=6/\n=1\/k=8/\n=2\/k=9/\n=1:=by
 rcases vV k n with J | ⟨J,I,h3 | h3⟩ | ⟨J,I,h3⟩
 ·omega
 ·exact .inl ⟨h3,I⟩
 ·exact .inr (.inr ⟨h3,I⟩)
 ·exact .inr (.inl ⟨h3,I⟩)
theorem MF {k:Int}(I:k≠1){nm ot:ByteArray}{n:Int}{ty re:Ty}{l:List Tm}{j:Nat}{p:Tm}{s:ByteArray}(J:l[j]?=some p)(hs:s∈fvI (yX k l.length) (bdN k nm ot l.length) j p):s∈(Tm.mk k nm ot n ty re l).fv:=
 Tm.fv_mem.2 (.inr ⟨I,j,p,J,hs⟩)
theorem AX {at_:Int}{ns:List ByteArray}{i:Nat}{x:Tm}(h:(i:Int)≠at_):fvI at_ ns i x=x.fv:=if_neg h
theorem NG {at_:Int}{ns:List ByteArray}{i:Nat}{x:Tm}(h:(i:Int)=at_):fvI at_ ns i x=sG ns x.fv:=if_pos h
theorem QM:∀ f,FvS f
 | 0=>λt x b hd=>absurd (Tm.dp_pos t) (by omega)
 | f + 1 => λt x b hd s=>by
   have ih:=QM f;cases t with
   | mk k nm ot n ty re l=>
   simp only[Tm.dp]at hd;have hp:∀ y∈l,y.dp<=f:=λy I=>oR (vb I) (by omega);simp only[Tm.sub];split
   ·rename_i J;split
    ·rename_i hn;intro hs;exact .inr ⟨hs,by simp[Tm.fv,J,hn]⟩
    ·rename_i hn;intro hs;simp only[Tm.fv,if_pos J,o5]at hs ⊢;exact .inl ⟨hs,λhc=>hn (hs ▸ hc)⟩
   ·rename_i J;split
    ·rename_i hb;intro hs;rcases Tm.fv_mem.1 hs with⟨h,_⟩ | ⟨_,j,y,O,I⟩
     ·exact absurd h J
     ·rw[nF,AX (by omega)]at I;rw[oF]at O;obtain⟨z,hz,rfl⟩:=nU.1 O;have hm:=oB hz;rcases ih z x b (hp z hm) s I with⟨a1,a2⟩ | ⟨a1,a2⟩
      ·exact .inl ⟨MF J hz (by rw[AX (by omega)];exact a1),a2⟩
      ·exact .inr ⟨a1,MF J hz (by rw[AX (by omega)];exact a2)⟩
    ·rename_i hb;obtain⟨g1,g2⟩:=xw hb;have U:=zi g1;have ah:=PX hb;have aa:∀(v:Tm) (j:Nat) (y:Tm),j≠(yX k l.length).toNat->((l.map λt=>Tm.sub f t x b).set (yX k l.length).toNat v)[j]?=some y->s∈y.fv->(s∈(Tm.mk k nm ot n ty re l).fv/\s≠x)\/(s∈b.fv/\x∈(Tm.mk k nm ot n ty re l).fv):=by
      intro v j y ak O I;rw[nE (by omega),oF]at O;obtain⟨z,hz,rfl⟩:=nU.1 O;have hm:=oB hz;rcases ih z x b (hp z hm) s I with⟨a1,a2⟩ | ⟨a1,a2⟩
      ·exact .inl ⟨MF J hz (by rw[AX (by omega)];exact a1),a2⟩
      ·exact .inr ⟨a1,MF J hz (by rw[AX (by omega)];exact a2)⟩
     split
     ·rename_i hx;intro hs;rcases Tm.fv_mem.1 hs with⟨h,_⟩ | ⟨_,j,y,O,I⟩
      ·exact absurd h J
      ·rw[nX,nF]at I;by_cases Y:j=(yX k l.length).toNat
       ·subst Y;rw[nA (by simpa using g1)]at O;cases O;refine .inl ⟨MF J U I,?_⟩;rw[NG g2,uU]at I
        rintro rfl
        rcases hx with hx | hx
        ·exact I.2 hx
        ·exact hx I.1
       ·rw[AX (by omega)]at I;exact aa _ j y Y O I
     ·rename_i hx;have ai:x∉bdN k nm ot l.length:=λh=>hx (.inl h);have ab:x∈(l.getD (yX k l.length).toNat tm0).fv:=mP.1 λh=>hx (.inr h);generalize l.getD (yX k l.length).toNat tm0=p at U ab;have ac:=hp p (oB U);have hR:=VV ih (fb:=b.fv) (x:=x) (nm:=nm) (ot:=ot) ac ah;have ae:=qv (u3 f) k l.length b.fv x (bdN k nm ot l.length) (nm,ot,p);generalize rns (Tm.sub f) k l.length b.fv x (bdN k nm ot l.length) (nm,ot,p)=T at hR ae;have aj:T.2.2.dp<=f:=oR ae.d ac;intro hs;rcases Tm.fv_mem.1 hs with⟨h,_⟩ | ⟨_,j,y,O,I⟩
      ·exact absurd h J
      ·rw[nX,nF]at I;by_cases Y:j=(yX k l.length).toNat
       ·subst Y;rw[nA (by simpa using g1)]at O;cases O;rw[NG g2,uU]at I;rcases ih T.2.2 x b aj s I.1 with⟨a1,a2⟩ | ⟨a1,_⟩
        ·obtain⟨c1,c2⟩:=hR s a1 I.2;exact .inl ⟨MF J U (by rw[NG g2];exact uU.2 ⟨c1,c2⟩),a2⟩
        ·exact .inr ⟨a1,MF J U (by rw[NG g2];exact uU.2 ⟨ab,ai⟩)⟩
       ·rw[AX (by omega)]at I;exact aa _ j y Y O I
theorem Ux {f:Nat}{t:Tm}{x y:ByteArray}(hd:t.dp<=f):(t.sub f x (sZ y)).fv.length<=t.fv.length:=by
 by_cases I:x∈t.fv
 ·have J:=I8 (Tm.fv_nodup (t.sub f x (sZ y))) (m:=y::t.fv.filter λz=>decide (z≠x)) λs hs=>by
   rcases QM f t x (sZ y) hd s hs with⟨a1,a2⟩ | ⟨a1,_⟩
   ·exact nu _ (mJ.2 ⟨a1,by simp[a2]⟩)
   ·rw[Mp,o5]at a1;rw[a1];exact nT
  have O:=ms (p:=λz=>decide (z≠x)).2 ⟨x,I,by simp⟩;simp only[oJ]at J;omega
 ·rw[Rc f t x _ I];exact oC _
theorem Uw {f:Nat}{t:Tm}{x:ByteArray}{b:Tm}(hd:t.dp<=f):(t.sub f x b).fv.length<=t.fv.length+b.fv.length:=by
 have I:=I8 (Tm.fv_nodup (t.sub f x b)) (m:=t.fv++b.fv) λs hs=>by
  rcases QM f t x b hd s hs with⟨a1,_⟩ | ⟨a1,_⟩
  ·exact oq _ a1
  ·exact nO _ a1
 simpa using I
structure LeW (t' t:Tm):Prop where
 le:LeT t' t
 w:t'.wd<=t.wd
 l:t'.fv.length<=t.fv.length
theorem LeW.rfl {t:Tm}:LeW t t:=⟨LeT.rfl,oC _,oC _⟩
theorem LeW.trans {a b c:Tm}(h:LeW a b)(I:LeW b c):LeW a c:=⟨h.le.trans I.le,oR h.w I.w,oR h.l I.l⟩
theorem Rr {m n:Nat}:∀ {l' l:List Tm},l'.length=l.length->(∀(i:Nat)(t' t:Tm),l'[i]?=some t'->l[i]?=some t->t'.wd<=t.wd+n/\t'.fv.length<=t.fv.length+m)->Ad l'<=Ad l+n/\sU l'<=sU l+l.length*m
 | [],[],_,_=>⟨by simp[Ad],by simp[sU]⟩
 | [],_::_,h,_=>by simp at h
 | _::_,[],h,_=>by simp at h
 | t'::I,t::ts,h,J=>by obtain⟨Y,h2⟩:=Rr (m:=m) (n:=n) (l':=I) (l:=ts) (by simpa using h) λi a b O U=>J (i+1) a b (by simpa using O) (by simpa using U);obtain⟨h3,h4⟩:=J 0 t' t (by simp) (by simp);refine⟨by simp only[Ad];omega,?_⟩;simp only[sU,oJ,nP];omega
theorem VT {f:Nat}(I:∀ t x y,t.dp<=f->LeW (t.sub f x (sZ y)) t)(k:Int)(n:Nat)(fb:List ByteArray)(x old:ByteArray)(s:ByteArray × ByteArray × Tm)(hd:s.2.2.dp<=f):LeW (rn1 (Tm.sub f) k n fb x old s).2.2 s.2.2:=by
 unfold rn1;split
 ·split
  ·exact I _ _ _ hd
  ·exact I _ _ _ hd
 ·exact LeW.rfl
theorem Md {f:Nat}(I:∀ t x y,t.dp<=f->LeW (t.sub f x (sZ y)) t)(k:Int)(n:Nat)(fb:List ByteArray)(x:ByteArray):∀(l:List ByteArray)(s:ByteArray × ByteArray × Tm),s.2.2.dp<=f->LeW (rns (Tm.sub f) k n fb x l s).2.2 s.2.2
 | [],s,_=>LeW.rfl
 | old::l,s,hd=>by have J:=VT I k n fb x old s hd;exact(Md I k n fb x l _ (oR J.le.d hd)).trans J
theorem W3 {P:Tm->Prop}{f:Nat}(I:∀ t x y,P t->P (t.sub f x (sZ y)))(k:Int)(n:Nat)(fb:List ByteArray)(x:ByteArray):∀(l:List ByteArray)(s:ByteArray × ByteArray × Tm),P s.2.2->P (rns (Tm.sub f) k n fb x l s).2.2
 | [],s,h=>h
 | old::l,s,h=>by
   refine W3 I k n fb x l _ ?_;unfold rn1;split
   ·split
    ·exact I _ _ _ h
    ·exact I _ _ _ h
   ·exact h
theorem Rq {P:Tm->Prop} {f:Nat} (hP:∀ t x y,P t->P (t.sub f x (sZ y))) {x:ByteArray} {b:Tm} {m n:Nat} (ab:∀ t:Tm,t.dp<=f->P t->(t.sub f x b).wd<=t.wd+n/\(t.sub f x b).fv.length<=t.fv.length+m) (hv:∀ t x y,t.dp<=f->LeW (t.sub f x (sZ y)) t)
  {k:Int} {nm ot:ByteArray} {n0:Int} {ty re:Ty} {l:List Tm} (hk:k≠1) (hd:∀ y∈l,y.dp<=f) (hp:∀ y∈l,P y):((Tm.mk k nm ot n0 ty re l).sub (f+1) x b).wd<=max (sU l+l.length*m) (Ad l+n):=by
 have fin:∀(ac ae:ByteArray) (l':List Tm),l'.length=l.length->(∀(i:Nat) (t' t:Tm),l'[i]?=some t'->l[i]?=some t->t'.wd<=t.wd+n/\t'.fv.length<=t.fv.length+m)->(Tm.mk k ac ae n0 ty re l').wd<=max (sU l+l.length*m) (Ad l+n):=λac ae l' Y O=>by obtain⟨a1,a2⟩:=Rr Y O;simp only[Tm.wd,if_neg hk];omega
 have at_:∀ {i:Nat} {t:Tm},l[i]?=some t->(t.sub f x b).wd<=t.wd+n/\(t.sub f x b).fv.length<=t.fv.length+m:=λh=>ab _ (hd _ (oB h)) (hp _ (oB h));simp only[Tm.sub];rw[if_neg hk];split
 ·refine fin _ _ _ (by simp) λi t' t I J=>?_;rw[oF,J]at I;cases I;exact at_ J
 ·rename_i hb;obtain⟨g1,g2⟩:=xw hb;have U:=zi g1;split
  ·refine fin _ _ _ (by simp) λi t' t I J=>?_;rcases C5 I J with⟨Y,O⟩ | ⟨Y,O⟩
   ·rw[Y,U]at J;rw[O,<-oX J];exact⟨by omega,by omega⟩
   ·rw[O];exact at_ J
  ·have ah:=hd _ (oB U);have aa:=Md hv k l.length b.fv x (bdN k nm ot l.length) (nm,ot,l.getD (yX k l.length).toNat tm0) ah;refine fin _ _ _ (by simp) λi t' t I J=>?_;rcases C5 I J with⟨Y,O⟩ | ⟨Y,O⟩
   ·rw[Y,U]at J;rw[O,<-oX J];obtain⟨c1,c2⟩:=ab _ (oR aa.le.d ah) (W3 hP _ _ _ _ _ _ (hp _ (oB U)));have w1:(rns (Tm.sub f) k l.length b.fv x (bdN k nm ot l.length) (nm,ot,l.getD (yX k l.length).toNat tm0)).2.2.wd<=(l.getD (yX k l.length).toNat tm0).wd:=aa.w;have w2:(rns (Tm.sub f) k l.length b.fv x (bdN k nm ot l.length) (nm,ot,l.getD (yX k l.length).toNat tm0)).2.2.fv.length<=(l.getD (yX k l.length).toNat tm0).fv.length:=aa.l;exact⟨by omega,by omega⟩
   ·rw[O];exact at_ J
theorem qw:∀(f:Nat)(t:Tm)(x y:ByteArray),t.dp<=f->LeW (t.sub f x (sZ y)) t
 | 0,t,x,y,h=>absurd (Tm.dp_pos t) (by omega)
 | f+1,.mk k nm ot n ty re l,x,y,h=>by
   refine⟨u3 _ _ _ _,?_,Ux h⟩;simp only[Tm.dp]at h;have J:v7 l<=f:=by omega
   by_cases I:k=1
   ·simp only[Tm.sub,if_pos I];split
    ·simp[sZ,Tm.wd,I]
    ·exact oC _
   ·have:=Rq (P:=λ_=>True) (λ_ _ _ _=>trivial) (m:=0) (n:=0) (λt O _=>⟨(qw f t x y O).w,(qw f t x y O).l⟩) (qw f) (nm:=nm) (ot:=ot) (n0:=n) (ty:=ty) (re:=re) I (λz U=>oR (vb U) J) λ_ _=>trivial
    simp only[Tm.wd,if_neg I];omega
mutual
def Tm.A3:Tm->Prop
 | .mk _ _ _ _ _ _ l=>l.length<=3/\LF l
def LF:List Tm->Prop
 | []=>True
 | t::ts=>t.A3/\LF ts
end
theorem u4:∀ {l:List Tm},LF l↔∀ x∈l,x.A3
 | []=>by simp[LF]
 | t::ts=>by simp only[LF,u4 (l:=ts),oL,mY]
theorem UG:∀(f:Nat) (t:Tm) (x:ByteArray) (b:Tm),t.A3->b.A3->(t.sub f x b).A3
 | 0,t,x,b,h,_=>by simp only[Tm.sub];exact h
 | f + 1,.mk k nm ot n ty re l,x,b,h,Y=>by
   have J:=UG f;obtain⟨h1,I⟩:=h;have I:=u4.1 I;have vA:∀ y,(sZ y).A3:=λy=>by simp[sZ,Tm.A3,LF]
   simp only[Tm.sub];split
   ·split
    ·exact Y
    ·exact⟨h1,u4.2 I⟩
   ·split
    ·refine⟨by simpa using h1,u4.2 λy O=>?_⟩;obtain⟨z,hz,rfl⟩:=oU.1 O;exact J z x b (I z hz) Y
    ·rename_i aa;obtain⟨g1,g2⟩:=xw aa;have U:=I _ (oB (zi g1));have key:∀ v:Tm,v.A3->LF ((l.map λt=>Tm.sub f t x b).set (yX k l.length).toNat v):=λv hv=>u4.2 λy O=>by
      rcases nM O with O | rfl
      ·obtain⟨z,hz,rfl⟩:=oU.1 O;exact J z x b (I z hz) Y
      ·exact hv
     split
     ·exact⟨by simpa using h1,key _ U⟩
     ·refine⟨by simpa using h1,key _ (J _ x b ?_ Y)⟩;have r1:∀(old:ByteArray) (s:ByteArray × ByteArray × Tm),s.2.2.A3->(rn1 (Tm.sub f) k l.length b.fv x old s).2.2.A3:=λold s hs=>by
       unfold rn1;split
       ·split
        ·exact J _ _ _ hs (vA _)
        ·exact J _ _ _ hs (vA _)
       ·exact hs
      have rs:∀(ns:List ByteArray) (s:ByteArray × ByteArray × Tm),s.2.2.A3->(rns (Tm.sub f) k l.length b.fv x ns s).2.2.A3:=by
       intro ns
       induction ns with
       | nil=>exact λs hs=>hs
       | cons o os ab=>exact λs hs=>ab _ (r1 o s hs)
      exact rs _ _ U
theorem UI:∀(f:Nat)(t:Tm)(x:ByteArray)(b:Tm),t.dp<=f->t.A3->(t.sub f x b).wd<=t.wd+(3*b.fv.length+b.wd)
 | 0,t,x,b,h,_=>absurd (Tm.dp_pos t) (by omega)
 | f+1,.mk k nm ot n ty re l,x,b,h,ha=>by
   obtain⟨h1,J⟩:=ha;have J:=u4.1 J;simp only[Tm.dp]at h;have O:v7 l<=f:=by omega
   by_cases U:k=1
   ·simp only[Tm.sub,if_pos U];split
    ·omega
    ·omega
   ·have:=Rq (P:=Tm.A3) (λt x y I=>UG f t x _ I (by simp[sZ,Tm.A3,LF])) (m:=b.fv.length) (n:=3*b.fv.length+b.wd) (λt I Y=>⟨UI f t x b I Y,Uw I⟩) (qw f) (nm:=nm) (ot:=ot) (n0:=n) (ty:=ty) (re:=re) U (λz hz=>oR (vb hz) O) J
    have h3:l.length*b.fv.length<=3*b.fv.length:=nc _ h1;simp only[Tm.wd,if_neg U];omega
structure Tm.Z (t:Tm):Prop where
 g:t.G
 c:t.wd<=2199023255552
 v:t.V
theorem Tm.Z.mem {k:Int}{nm ot:ByteArray}{n:Int}{ty re:Ty}{l:List Tm}(h:(Tm.mk k nm ot n ty re l).Z):∀ y∈l,y.Z:=λy I=>by
 have hc:=h.c
 have:=pX I
 simp only[Tm.wd]at hc;split at hc
 ·rename_i J;rw[h.v.1 J]at I;simp at I
 ·exact⟨zy h.g.2.2.2 I,by omega,tj.1 h.v.2 y I⟩
theorem LeW.z {t' t:Tm}(h:LeW t' t)(I:t.Z):t'.Z:=⟨h.le.g I.g,oR h.w I.c,h.le.v I.v⟩
theorem UL (s:ByteArray):(sZ s).Z:=⟨by simp[sZ,Tm.G,Nx,Ty.cnt,zS],by simp only[sZ,Tm.wd,mF];omega,λ_=>rfl,trivial⟩
def red (n:Int):Int:=n % 10007
def bI (b:Bool):Int:=if b then 1 else 0
def yC (s:ByteArray)(a b:Int):Int × Bool:=
 if inB a 0 10006=true then(if inB b 0 10006=true then
  (if s=bytes [43]then(red (a+b),true)else if s=bytes [45]then(red (a - b),true)else if s=bytes [42]then(red (a*b),true)
  else if s=bytes [61]then(bI (a==b),true)else if s=bytes [60]then(bI (decide (a<b)),true)
  else if s=bytes [38]then(bI (a==1&&b==1),true)else if s=bytes [124]then(bI (a==1||b==1),true)
  else if s=bytes [33]then(bI (a==0),true)else(0,false))else(0,false))else(0,false)
theorem Gh (b:Bool):0<=bI b/\bI b<=1:=by cases b<;>decide
theorem RA (n:Int):0<=red n/\red n<=10006:=by unfold red;omega
theorem ON (s:ByteArray)(a b:Int):0<=(yC s a b).1/\(yC s a b).1<=10006:=by
 have I:=RA (a+b);have J:=RA (a - b);have O:=RA (a*b);have U:=Gh (a==b);have Y:=Gh (decide (a<b));have h6:=Gh (a==1&&b==1);have h7:=Gh (a==1||b==1);have h8:=Gh (a==0);unfold yC
 (repeat' split)<;>constructor<;>first | omega | (simp only;omega)
theorem KN {s:ByteArray}(n1:¬s=bytes [43])(n2:¬s=bytes [45])(I:¬s=bytes [42])(a b:Int):0<=(yC s a b).1/\(yC s a b).1<=1:=by
 have J:=Gh (a==b);have O:=Gh (decide (a<b));have U:=Gh (a==1&&b==1);have Y:=Gh (a==1||b==1);have h8:=Gh (a==0);unfold yC;rw[if_neg n1,if_neg n2,if_neg I]
 (repeat' split)<;>constructor<;>first | omega | (simp only;omega)
def PI (k n:Int):Tm:=.mk k (bytes []) (bytes []) n (.mk 0 []) (.mk 0 []) []
def Tm.kd:Tm->Int | .mk k _ _ _ _ _ _=>k
def Tm.no:Tm->Int | .mk _ _ _ n _ _ _=>n
def Tm.nm:Tm->ByteArray | .mk _ nm _ _ _ _ _=>nm
def Tm.ot:Tm->ByteArray | .mk _ _ ot _ _ _ _=>ot
def Tm.pt:Tm->Nat->Tm | .mk _ _ _ _ _ _ l,i=>l.getD i tm0
def Tm.wth:Tm->Nat->Tm->Tm | .mk k nm ot n ty re l,i,x=>.mk k nm ot n ty re (l.set i x)
mutual
def Tm.made:Tm->Int->Bool
 | .mk k _ _ _ _ _ l,n=>!(k==11&&n==1)&&u6 l (zK k n)
def u6:List Tm->Int->Bool
 | [],_=>true
 | t::ts,n=>t.made n&&u6 ts n
end
def NO (k:Int):Bool:=k==2||(k==3||(k==6||k==9))
def Tm.res (t:Tm):Bool:=NO t.kd||(t.kd==10&&(t.lev 0&&(t.pt 0).made 1))
def vm (s:ByteArray):Bool:=decide (s=bytes [38])||(decide (s=bytes [124])||decide (s=bytes [33]))
def Kt (s:ByteArray):Bool:=decide (s=bytes [43])||(decide (s=bytes [45])||decide (s=bytes [42]))
def yR (nm:ByteArray):Int:=if vm nm then 3 else 2
def G2 (nm:ByteArray):Int:=if Kt nm then 2 else 3
def Tm.opr (e:Tm)(l:List Tm):Tm × Int:=
 if l.all (λx=>x.kd==yR e.nm)then
  (PI (G2 e.nm) (yC e.nm (l.getD 0 tm0).no (l.getD 1 tm0).no).1,1)
 else(e,0)
def Tm.sb (e:Tm)(x:ByteArray)(b:Tm):Tm:=e.sub e.dp x b
def Tm.apl:Tm->Tm × Int
 | .mk k nm ot n ty re l=>
   if k=4 then(Tm.mk k nm ot n ty re l).opr l
   else if k=5 then(if(l.getD 0 tm0).kd=3 then(l.getD (2 - (l.getD 0 tm0).no).toNat tm0,2)else(.mk k nm ot n ty re l,0))
   else if k=7 then
    (if(l.getD 0 tm0).kd=6 then(((l.getD 0 tm0).pt 0).sb (l.getD 0 tm0).nm (l.getD 1 tm0),3)
    else if(l.getD 0 tm0).kd=9 then((((l.getD 0 tm0).pt 0).sb (l.getD 0 tm0).nm (l.getD 0 tm0)).sb (l.getD 0 tm0).ot (l.getD 1 tm0),4)
    else(.mk k nm ot n ty re l,0))
   else if k=8 then((l.getD 1 tm0).sb nm (l.getD 0 tm0),5)
   else if k=12 then(if(l.getD 0 tm0).kd=10 then((l.getD 0 tm0).pt 0,7)else(.mk k nm ot n ty re l,0))
   else if k=13 then(if(l.getD 0 tm0).kd=2\/(l.getD 0 tm0).kd=3 then(Tm.nod 10 [l.getD 0 tm0],8)else(.mk k nm ot n ty re l,0))
   else(.mk k nm ot n ty re l,0)
def Ac (k:Int)(n:Nat):Nat:=if k=4\/k=7 then n else if k=5\/k=8\/k=12\/k=13 then 1 else 0
def goS (S:Tm->Tm × Int)(e:Tm):List Tm->Nat->Option (Tm × Int)
 | [],_=>none
 | x::xs,i=>if x.res then goS S e xs (i+1)else some (e.wth i (S x).1,(S x).2)
def Vb (S:Tm->Tm × Int)(e:Tm):Tm × Int × Bool:=
 if(e.pt 0).res then(if(e.pt 0).kd=10 then((e.pt 0).pt 0,6,true)else(e,0,true))else(e.wth 0 (S (e.pt 0)).1,(S (e.pt 0)).2,true)
mutual
def Tm.cod (S:Tm->Tm × Int):Tm->Int->Tm × Int × Bool
 | .mk k nm ot n ty re l,m=>if k=11/\m=1 then Vb S (.mk k nm ot n ty re l)else
   match yL S l (zK k m)with
   | none=>(.mk k nm ot n ty re l,0,false)
   | some (l',r)=>(.mk k nm ot n ty re l',r,true)
def yL (S:Tm->Tm × Int):List Tm->Int->Option (List Tm × Int)
 | [],_=>none
 | t::ts,m=>if(t.cod S m).2.2 then some ((t.cod S m).1::ts,(t.cod S m).2.1)else
   match yL S ts m with
   | none=>none
   | some (l',r)=>some (t::l',r)
end
def Tm.stp:Nat->Tm->Tm × Int
 | 0,e=>(e,0)
 | f+1,e=>if e.res then(e,0)else if e.kd=10 then(e.wth 0 ((e.pt 0).cod (Tm.stp f) 1).1,((e.pt 0).cod (Tm.stp f) 1).2.1)
   else match e with
    | .mk k nm ot n ty re l=>match goS (Tm.stp f) (.mk k nm ot n ty re l) (l.take (Ac k l.length)) 0 with
      | some r=>r
      | none=>(Tm.mk k nm ot n ty re l).apl
theorem OH (e:Tm)(i:Nat):e.wth i (e.pt i)=e:=by
 cases e with
 | mk k nm ot n ty re l=>
 simp only[Tm.wth,Tm.pt];congr 1;apply nJ;intro j;rw[nR];split
 ·rename_i h;subst h;split
  ·rename_i h;rw[zi h]
  ·rename_i h;rw[ob (by omega)]
 ·rfl
def NoR (S:Tm->Tm × Int):Prop:=∀ x,(S x).2=0->(S x).1=x
theorem WP {S:Tm->Tm × Int}(hS:NoR S):∀(t:Tm)(m:Int),(t.cod S m).2.1=0->(t.cod S m).1=t:=by
 refine Tm.ind λk nm ot n ty re l ih m h=>?_;simp only[Tm.cod]at h ⊢;by_cases U:k=11/\m=1
 ·rw[if_pos U]at h ⊢;unfold Vb at h ⊢;split
  ·rename_i I;rw[if_pos I]at h;split
   ·rename_i J;rw[if_pos J]at h;exact absurd (show(6:Int)=0 from h) (by decide)
   ·rfl
  ·rename_i I;rw[if_neg I]at h;simp only at h ⊢;rw[hS _ h,OH]
 ·rw [if_neg U]at h ⊢;have key:∀ xs:List Tm,(∀ x∈xs,x∈l)->∀ l' r,yL S xs (zK k m)=some (l',r)->r=0->l'=xs:=by
   intro xs
   induction xs with
   | nil=>intro _ l' r h;simp[yL]at h
   | cons x xs O=>
     intro Y l' r h hr;simp only[yL]at h;split at h
     ·cases h;rw[ih x (Y x (by simp)) _ hr]
     ·split at h
      ·cases h
      ·rename_i l2 r2 J;cases h;rw[O (λy hy=>Y y (by simp[hy])) _ _ J hr]
  cases hc:yL S l (zK k m)with
  | none=>rfl
  | some p=>obtain⟨l',r⟩:=p;rw[hc]at h;simp only at h ⊢;rw[key l (λx hx=>hx) l' r hc h]
theorem To {S:Tm->Tm × Int}(J:NoR S){e:Tm}:∀ {l:List Tm}{i:Nat}{r:Tm × Int},goS S e l i=some r->(∀ j x,l[j]?=some x->e.pt (i+j)=x)->r.2=0->r.1=e
 | [],_,_,h,_,_=>by simp[goS]at h
 | x::l,i,r,h,O,I=>by
   simp only[goS]at h;split at h
   ·exact To J h (λj y U=>by rw[show i+1+j=i+(j+1) by omega];exact O (j+1) y (by simpa using U)) I
   ·cases h;simp only at I ⊢;rw[J x I]
    have:=O 0 x rfl
    rw[mU]at this;rw[<-this,OH]
theorem Wk {c:Prop} [Decidable c]{x y:Tm × Int}{e:Tm}(I:x.2=0->x.1=e)(J:y.2=0->y.1=e)(h:(if c then x else y).2=0):(if c then x else y).1=e:=by
 by_cases hc:c
 ·rw[if_pos hc]at h ⊢;exact I h
 ·rw[if_neg hc]at h ⊢;exact J h
theorem Xm {t e:Tm}{r:Int}(I:r≠0)(h:((t,r):Tm × Int).2=0):((t,r):Tm × Int).1=e:=absurd h I
theorem WB (e:Tm)(h:e.apl.2=0):e.apl.1=e:=by
 cases e with
 | mk k nm ot n ty re l=>
 revert h;simp only[Tm.apl,Tm.opr]
 repeat' first | exact λh=>Xm (by decide) h | exact λ_=>rfl | refine Wk ?_ ?_
theorem UE:∀ f,NoR (Tm.stp f)
 | 0,e,_=>rfl
 | f + 1,.mk k nm ot n ty re l,h=>by
   have O:=UE f;simp only[Tm.stp]at h ⊢;split
   ·rfl
   ·rename_i Y;rw[if_neg Y]at h;by_cases U:(Tm.mk k nm ot n ty re l).kd=10
    ·rw[if_pos U]at h ⊢;simp only at h ⊢;rw[WP O _ _ h,OH]
    ·rw[if_neg U]at h ⊢;cases J:goS (Tm.stp f) (Tm.mk k nm ot n ty re l) (l.take (Ac k l.length)) 0 with
     | none=>rw[J]at h;exact WB _ h
     | some r=>
       rw[J]at h;refine To O J (λj x I=>?_) h;rw[nG];rw[oi]at I;split at I
       ·simp only[Tm.pt];rw[oA,I];rfl
       ·cases I
def Tm.step (e:Tm):Tm × Int:=if uG e 0 then(if(e.stp e.dp).2=0 then(e,0)else e.stp e.dp)else(e,0)
theorem Kh:∀ {l:List D}{j:Nat}{x:D}{b:Nat},b∈zC (l.set j x)->b∈zC l\/b∈x.foot
 | [],j,x,b,h=>by simp[zC]at h
 | a::l,0,x,b,h=>by
   simp only[mb,zC,oM]at h ⊢;rcases h with h | h
   ·exact .inr h
   ·exact .inl (.inr h)
 | a::l,j+1,x,b,h=>by
   simp only[mq,zC,oM]at h ⊢;rcases h with h | h
   ·exact .inl (.inl h)
   ·rcases Kh h with h | h
    ·exact .inl (.inr h)
    ·exact .inr h
theorem Nb {N N1 N2 N3:Nat}{x:D}(I:Own N2 N3 x)(h1:N<=N2)(h2:N1<=N2)(h3:N2<=N3):∀ {l:List D}{j:Nat},OwnL N N1 l->OwnL N N3 (l.set j x)
 | [],j,h=>by simp only[List.set_nil];exact h.mono (oC _) (by omega)
 | a::l,0,h=>by
   have J:=h.nd;simp only[zC,nS]at J;simp only[mb];refine⟨?_,⟨I.fl,h.fl.2⟩,λb hb=>?_,λb hb=>?_⟩
   ·simp only[zC,nS];refine⟨I.nd,J.2.1,λu U v hv O=>?_⟩
    have:=I.lo u U
    have:=h.hi v (by simp only[zC,oM];exact .inr hv)
    omega
   ·simp only[zC,oM]at hb;rcases hb with hb | hb
    ·have:=I.lo b hb;omega
    ·exact h.lo b (by simp only[zC,oM];exact .inr hb)
   ·simp only[zC,oM]at hb;rcases hb with hb | hb
    ·exact I.hi b hb
    ·have:=h.hi b (by simp only[zC,oM];exact .inr hb);omega
 | a :: l,j+1,h=>by
   have J:=h.nd;simp only[zC,nS]at J;have hl:OwnL N N1 l:=⟨J.2.1,h.fl.2,λb hb=>h.lo b (by simp only[zC,oM];exact .inr hb),λb hb=>h.hi b (by simp only[zC,oM];exact .inr hb)⟩
   have Y:=Nb I h1 h2 h3 (l:=l) (j:=j) hl;simp only[mq];refine⟨?_,⟨h.fl.1,Y.fl⟩,λb hb=>?_,λb hb=>?_⟩
   ·simp only[zC,nS];refine⟨J.1,Y.nd,λu U v hv O=>?_⟩;rcases Kh hv with hv | hv
    ·exact J.2.2 u U v hv O
    ·have:=I.lo v hv
     have:=h.hi u (by simp only[zC,oM];exact .inl U)
     omega
   ·simp only[zC,oM]at hb;rcases hb with hb | hb
    ·exact h.lo b (by simp only[zC,oM];exact .inl hb)
    ·exact Y.lo b hb
   ·simp only[zC,oM]at hb;rcases hb with hb | hb
    ·have:=h.hi b (by simp only[zC,oM];exact .inl hb);omega
    ·exact Y.hi b hb
theorem ql {N N1 N2 N3:Nat}{x I J O U:D}{es:List D}{j:Nat}(h:OwnL N N1 ([I,J,O,U]++es))(Y:Own N2 N3 x)(h1:N<=N2)(h2:N1<=N2)(h3:N2<=N3):OwnL N N3 ([I,J,O,U]++es.set j x):=
 Nb Y h1 h2 h3 (l:=[I,J,O,U]++es) (j:=j+4) h
theorem Ct:∀ {u v:List D},xr (u++v)->xr u/\xr v
 | [],v,h=>⟨trivial,h⟩
 | x::u,v,h=>⟨⟨h.1,(Ct h.2).1⟩,(Ct h.2).2⟩
theorem S2 {N0 N1 N3:Nat}{hd es ds:List D}{a:Option Addr}{z c:Nat}(h:OwnL N0 N1 (hd++es))(J:Fresh N0 N3 a (.ag es::(hd++ds)))(hN:N1<=N3):OwnL N0 N3 (hd++[.sl a z es c]):=by
 obtain⟨Y,aa⟩:=Ct h.fl;have U:=h.nd;rw[zG,nS]at U;have e:zC (hd++[D.sl a z es c])=zC hd++(D.sl a z es c).foot:=by simp only[zG,zC,o7]
 have hE:∀ ad,a=some ad->ad.block∉zC es:=λad h=>J.ap ad h (.ag es) (by simp);have hH:∀ ad,a=some ad->ad.block∉zC hd:=λad h hc=>by obtain⟨d,ab,hb⟩:=zJ.1 hc;exact J.ap ad h d (by simp[ab]) hb
 refine⟨?_,yz Y ⟨⟨λad h=>J.off ad h,aa⟩,trivial⟩,λb hb=>?_,λb hb=>?_⟩
 ·rw[e,nS];refine⟨U.1,NV U.2.1 hE,λx hx y hy ac=>?_⟩;subst ac;rcases vY x hy with I | ⟨ad,I,O⟩
  ·exact U.2.2 x hx x I rfl
  ·subst O;exact hH ad I hx
 ·rw[e]at hb;rcases oM.1 hb with hb | hb
  ·exact h.lo b (by rw[zG];exact oq _ hb)
  ·rcases vY b hb with I | ⟨ad,I,O⟩
   ·exact h.lo b (by rw[zG];exact nO _ I)
   ·subst O;exact J.lo ad I
 ·rw[e]at hb;rcases oM.1 hb with hb | hb
  ·have:=h.hi b (by rw[zG];exact oq _ hb);omega
  ·rcases vY b hb with I | ⟨ad,I,O⟩
   ·have:=h.hi b (by rw[zG];exact nO _ I);omega
   ·subst O;exact J.hi ad I
theorem uW {N N1 N2:Nat}{v0 v1 v2 v3:Value}{I J O U:D}{es:List D}{a:Option Addr}{c:Nat}(h:OwnL N N1 ([I,J,O,U]++es))(Y:Fresh N N2 a [.ag es,I,J,O,U])(hN:N1<=N2):Own N N2 (.ag [.lit v0,.lit v1,.lit v2,.lit v3,I,J,O,U,.sl a 9 es c]):=
 AP (zU (zU (zU (zU (S2 (hd:=[I,J,O,U]) (ds:=[]) h Y hN)))))
theorem si {α:Type}{R:α->D->Prop}:∀ {l:List α}{es:List D}{t:α}{d:D}{j:Nat},All2 R l es->R t d->All2 R (l.set j t) (es.set j d)
 | [],es,t,d,j,h,_=>by cases h;exact rfl
 | x::l,es,t,d,0,h,I=>by obtain⟨y,U,rfl,O,J⟩:=h;exact⟨_,_,rfl,I,J⟩
 | x::l,es,t,d,j+1,h,I=>by obtain⟨y,U,rfl,O,J⟩:=h;exact⟨_,_,rfl,O,si J I⟩
theorem Qj {α:Type}{T l:List α}{i:Nat}{t:α}(O:T.length=l.length)(hi:i<l.length)(I:T[i]?=some t):(T.take i++l.drop i).set i t=T.take (i+1)++l.drop (i+1):=by
 have J:(T.take i).length=i:=by rw[nL];omega
 rw[lL _ _ (by omega),J,Nat.sub_self,mf hi,mb,vJ I,oP];rfl
theorem NS {α:Type}{T l:List α}{i:Nat}{t:α}(hi:i<l.length)(I:l[i]?=some t)(J:T[i]?=some t):T.take i++l.drop i=T.take (i+1)++l.drop (i+1):=by rw[mf hi,vJ J,oP];rw[oI hi]at I;rw[oX I];rfl
theorem yf {l:List Tm}{es:List D}(h:All2 Tm.Is l es){j:Nat}(I:j<l.length):(l.getD j tm0).Is (es.getD j default):=by
 have:=h.get (zi I)
 exact this
def UR (f:FuncId)(args:List PV)(t:Tm):Prop:=∀(N:Nat) (Q:QT [.ag 9]),(∀ d N',N<=N'->t.Is d->Own N N' d->Q d N')->ACalls prog f [.ag 9] args N Q
def Vp (F:FuncId)(f:Nat):Prop:=∀(e:Tm) (d:D) (x:ByteArray) (b:Tm) (I:D),e.Is d->b.Is I->e.dp<=f->e.Z->b.Z->UR F [.dg 9 d,.str x,.dg 9 I] (e.sub f x b)
theorem Rn {s:ByteArray}(hs:s.size<=4611686018427387904):(sZ s).Is (.ag [.j 1,.t s,.t (bytes []),.j 0,.j 0,.sl none 2 [] 0,.j 0,.sl none 2 [] 0,.sl none 9 [] 0]):=
 Tm.is_mk.2 ⟨_,_,_,_,_,_,_,rfl,⟨hs,by decide,Ty.is_mk.2 ⟨_,_,_,rfl,by simp,rfl⟩,Ty.is_mk.2 ⟨_,_,_,rfl,by simp,rfl⟩⟩,by simp,rfl⟩
theorem Hp {l:List ByteArray}(h:l.length<=8796093022208):(fresh l).size<=4611686018427387904:=by
 obtain⟨k,e,_,I,_,_⟩:=sL l;rw[e]
 have:=PB k (by omega)
 omega
theorem Pw {f:Nat} (hS:Vp 232 f) {k n0:Int} {nm ot:ByteArray} {ty re:Ty} {l:List Tm} {d:D} (hd:(Tm.mk k nm ot n0 ty re l).Is d) (hG:(Tm.mk k nm ot n0 ty re l).G) {n j:Nat} (hn:l.length=n) (ao:yX k n=(j:Int))
  {p:Tm} (hp:l.getD j tm0=p) (aq:p.dp<=f) (hc:p.Z) (old x:ByteArray) (fb:List ByteArray) (bq:fb.length<=2199023255552) (a:Option Addr) (c:Nat) {I:ByteArray} (Y:fresh (fb++(p.fv++([x]++bdN k nm ot n)))=I) (N:Nat)
  (Q:QT [.pk,.i,.str,.str,.i,.dc,.dc,.dc,.dc,.row 35 9]) (hQ:tl (.mk k (if nm=old then I else nm) (if nm=old then ot else I) n0 ty re (l.set j (p.sub f old (sZ I)))) N Q) :
  ACalls prog 257 [.pk,.i,.str,.str,.i,.dc,.dc,.dc,.dc,.row 35 9] [.dg 9 d,.j (j:Int),.str old,.sv a 0 (zA fb) c,.str x] N Q:=by
 subst hn;obtain⟨t0,t1,r0,r1,a8,es,c8,rfl,hh,bd,aj⟩:=Tm.is_mk.1 hd;have hl:=aj.len;obtain⟨g1,_⟩:=xw (k:=k) (n:=l.length) (by omega);rw[ao,oG]at g1;have ah:=yf aj g1;rw[hp]at ah;have bt:=Tm.fv_wd p;have au:=hc.c;have bv:=qC k nm ot l.length;have ai:(fb++(p.fv++([x]++bdN k nm ot l.length))).length<=8796093022208:=by simp only[oH,oJ,oN];omega
 have aa:Lk [fb,p.fv,[x],bdN k nm ot l.length]=fb++(p.fv++([x]++bdN k nm ot l.length)):=by simp[Lk]
 have O:I.size<=4611686018427387904:=Y ▸ Hp ai;refine HF N _ _ old a _ c x Q λ_ _ N1 bw=>Lw (n:=l.length) (by omega) N1 _ λa1 c1 N2 bz _ _ _=>⟨_,_,_,rfl,⟨by omega,by omega⟩,λN3 b3=>?_⟩
 rw[oG];refine uC p _ ah au N3 _ λc2 N4 b7 _ _=>⟨⟨rfl,rfl⟩,λa2 N5 b8 _=>⟨⟨rfl,rfl⟩,λa3 N6 b9 _=>⟨⟨rfl,rfl⟩,λa4 _ N7 ca ak=>?_⟩⟩⟩
 have aw:All2 IsW [fb,p.fv,[x],bdN k nm ot l.length] [.sl a 0 (zA fb) c,.sl a2 0 (zA p.fv) c2,.sl a3 0 [.t x] 1,.sl a1 0 (zA (bdN k nm ot l.length)) c1]:=
  ⟨_,_,rfl,⟨_,_,rfl⟩,_,_,rfl,⟨_,_,rfl⟩,_,_,rfl,⟨_,_,rfl⟩,_,_,rfl,⟨_,_,rfl⟩,rfl⟩
 refine M4 aw (by simp) (by rw[aa];exact ai) a4 4 N7 _ λa5 c5 N8 cc ax _=>⟨s6 ak ax,λ_ N9 cd=>?_⟩
 rw[aa];refine Ds _ ai a5 c5 N9 _ λce bg _ ay bh=>?_;rw[Y];refine qF _ _ hd hG ay _ ?_;simp only[tl]at hQ ⊢;intro x4 x5 x6 x7 al c' cf bi J ab az _ _;have cg:=ab.len;refine⟨_,_,_,rfl,⟨by omega,by omega⟩,λa6 bj=>Df a6 I _ λch bm _ _ a7 bn=>?_⟩;refine hS p _ old (sZ I) _ ah (Rn O) aq hc (UL _) a7 _ λdx ba bp hx bb _ _=>⟨⟨by omega,by omega,by omega⟩,by omega,_,rfl,?_⟩
 have ac:All2 Tm.Is (l.set j (p.sub f old (sZ I))) (al.set (0+j) dx):=by rw[nG];exact si ab hx
 have ae:OwnL N ba ([x4,x5,x6,x7]++al.set (0+j) dx):=ql (az.mono (by omega) (oC _)) bb (by omega) (by omega) (by omega);refine Br.str (λh=>⟨⟨by simp,trivial⟩,λbc U=>?_⟩) λh=>⟨⟨by simp,trivial⟩,λbc U=>?_⟩
 ·rw[if_pos h,if_pos h]at hQ;exact hQ _ _ _ _ _ _ _ (by omega) ⟨O,J.ot,J.ty,J.re⟩ ac (ae.mono (oC _) U)
 ·rw[if_neg h,if_neg h]at hQ;exact hQ _ _ _ _ _ _ _ (by omega) ⟨J.nm,O,J.ty,J.re⟩ ac (ae.mono (oC _) U)
theorem Pt {f:Nat} (hS:Vp 232 f) {k n0:Int} {nm ot:ByteArray} {ty re:Ty} {l:List Tm} {d:D} (hd:(Tm.mk k nm ot n0 ty re l).Is d) (hc:(Tm.mk k nm ot n0 ty re l).Z) (hp:∀ y∈l,y.dp<=f)
  (x:ByteArray) {b:Tm} {O:D} (hb:b.Is O) (ah:b.Z) (ad J:Addr) (N:Nat) (Q:QT [.pk,.i,.str,.str,.i,.dc,.dc,.dc,.dc,.row 35 9])
  (hQ:tl (.mk k nm ot n0 ty re (l.map λt=>t.sub f x b)) N Q) :
  ACalls prog 186 [.pk,.i,.str,.str,.i,.dc,.dc,.dc,.dc,.row 35 9] [.dg 9 d,.fn 255 [.pd ad 0 (.t x),.pd J 9 O]] N Q:=by
 obtain⟨t0,t1,r0,r1,a,es,c,rfl,hh,U,Y⟩:=Tm.is_mk.1 hd;have hl:=Y.len;obtain⟨q1,q2,q3,_⟩:=hc.g;simp only[tl]at hQ;refine rt N _ ad _ J _ Q λ_=>⟨_,_,_,rfl,?_⟩
 refine up Y U (λi xs=>∀(done:List D) (q N':Nat),N<=N'->All2 Tm.Is ((l.map λt=>t.sub f x b).take i) done->done.length=i->OwnL N N' done ->
  yq Q N ad (.t x) J O done.length q a es c es.length i (.ag [.j k,.t nm,.t ot,.j n0,t0,t1,r0,r1,.sl a 9 es c]) 0 (bytes []) (bytes []) 0 0 none [] 0 0 none [] 0 none [] 0 done q N') ?_ ?_ [] 0 N (oC _) rfl rfl Ee
 ·intro i ai hi done q N' aj hd aa ho;refine vu ?_;rw[om (by simp;omega)]at hd;rw[ai];refine⟨⟨rfl,rfl⟩,λa1 a7 _ N4 ak ab=>?_⟩;refine Lz hh q1 q2 a1 done q N4 _ λx4 x5 x6 x7 N5 al ao ac _=>⟨rfl,?_⟩
  have off:∀ y∈[x4,x5,x6,x7],Off [a1] y:=λy hy a' aq ad au hc=>by have h1:=ab a' aq ad au;have h2:=ac.lo _ (zJ.2 ⟨y,hy,hc⟩);omega
  refine⟨off x4 (by simp),off x5 (by simp),off x6 (by simp),off x7 (by simp),⟨rfl,rfl⟩,λN6 aw=>?_⟩;exact hQ _ _ _ _ _ _ _ (by omega) ao hd (Dc (N1:=N4) (ac.mono (oC _) (by omega)) (ho.mono (oC _) ak) (by omega) (by omega))
 ·intro i y xs I _ ax done q N' aj hd aa ho;have a8:=I.b;have ay:=hp y I.m;have az:=hc.mem y I.m;have ae:(l.map λt=>t.sub f x b)[i]?=some (y.sub f x b):=by rw[oF,I.g];rfl
  refine vu ?_;rw[I.lt,oG,I.w];refine⟨⟨by omega,by omega⟩,λN5 al=>qz N5 _ ad _ J O _ λ_=>⟨_,rfl,λN6 aw=>hS y _ x b O I.r hb ay az ah N6 _ λdx N7 ba hx a6 _ _ N8 bb _ _=>⟨⟨rfl,rfl⟩,by unfold zB;rw[oH];simp only[oJ,oN];omega,λc3=>?_⟩⟩⟩;refine ax _ _ _ (by omega) (by rw[vJ ae];exact hd.snoc hx) (by simp[aa]) ?_;exact(zh ho (zf (a6.mono (by omega) (oC _))) (N1:=N') (by omega) (by omega)).mono (oC _) (by omega)
theorem Ha : ∀ f,Vp 232 f
 | 0=>λe d x b db _ _ bm=>absurd (Tm.dp_pos e) (by omega)
 | f + 1 => λe d x b db he hb bm hc ak N Q U=>by
   have ih:=Ha f;have hG:=hc.g;have bn:=ak.g;have dh:=ak.c;cases e with
   | mk k nm ot n0 ty re l=>
   have di:=hc;simp only[Tm.dp]at bm;have hp:∀ y∈l,y.dp<=f:=λy hy=>ti.1 (mV bm) y hy;have cf:=hc.mem;obtain⟨t0,t1,r0,r1,a,es,c,rfl,hh,cg,bp⟩:=Tm.is_mk.1 he;have hl:=bp.len;have d7:=hG.2.2.1;simp only[Tm.sub]at U;refine EB N _ x db Q λ_ _=>⟨_,rfl,Br.beq (λh1=>⟨_,rfl,Br.str (λh2 N1 a8=>?_) λh2 N1 a8=>?_⟩) λh1 N1 a8=>Lw (n:=l.length) (by omega) N1 _ λa1 c1 N2 ch _ _ _=>Br.dec (λal=>?_) λcj N3 ao=>?_⟩
   ·rw[if_pos h1,if_pos h2]at U;refine qF b db hb bn N1 _ ?_;cases b with
    | mk k2 d8 d9 n2 ea eb l2=>
    simp only[tl];intro x4 x5 x6 x7 aq c' N2 ch Y J aa _ _;have au:=J.len;have ee:=bn.2.2.1;exact⟨⟨trivial,trivial⟩,⟨trivial,trivial⟩,λa2 N3 ao hf N4 aw=>U _ _ (by omega) (Tm.is_mk.2 ⟨_,_,_,_,_,_,_,rfl,Y,by omega,J⟩) ((uW (aa.mono a8 (oC _)) hf ao).mono (oC _) aw)⟩
   ·rw[if_pos h1,if_neg h2]at U;refine qF _ _ he hG N1 _ ?_;simp only[tl];intro x4 x5 x6 x7 aq c' N2 ch Y J aa _ _;have au:=J.len;exact⟨⟨trivial,trivial⟩,⟨trivial,trivial⟩,λa2 N3 ao hf N4 aw=>U _ _ (by omega) (Tm.is_mk.2 ⟨_,_,_,_,_,_,_,rfl,Y,by omega,J⟩) ((uW (aa.mono a8 (oC _)) hf ao).mono (oC _) aw)⟩
   ·rw[if_neg h1,if_pos al]at U;refine λad _ _ bq _ _ N3 ao ac=>Pt ih he di hp x hb ak ad bq N3 _ ?_;simp only[tl];intro x4 x5 x6 x7 aq c' N4 aw Y J aa _;have au:=J.len;simp only[nF]at au;have off:∀ y∈[x4,x5,x6,x7],Off [some ad,some bq] y:=λy hy a' ah ab ai hc=>by have h1:=ac a' ah ab ai;have h2:=aa.lo _ (zJ.2 ⟨y,oq _ hy,hc⟩);omega
    have ax:Off [some ad,some bq] (.ag aq):=λa' ah ab ai hc=>by have h1:=ac a' ah ab ai;have h2:=aa.lo ab.block (by rw[zG];exact nO _ (by simpa only[D.foot]using hc));omega
    refine⟨off x4 (by simp),off x5 (by simp),off x6 (by simp),off x7 (by simp),ax,λ_=>⟨⟨trivial,trivial⟩,⟨trivial,trivial⟩,λa2 N5 ay hf N6 az=>U _ _ (by omega) (Tm.is_mk.2 ⟨_,_,_,_,_,_,_,rfl,Y,by omega,J⟩) ((uW (aa.mono (by omega) (oC _)) hf ay).mono (oC _) az)⟩⟩
   ·rw [if_neg h1,if_neg cj]at U;refine qF _ _ he hG N3 _ ?_;simp only[tl];intro x4 x5 x6 x7 aq c' N4 aw Y J aa _ _;have au:=J.len;obtain⟨g1,g2⟩:=xw cj;have ef:=qC k nm ot l.length;obtain⟨j,ck⟩:∃ j:Nat,yX k l.length=(j:Int):=⟨_,g2.symm⟩
    rw[ck]at g1 U ⊢;rw[oG]at g1 U;generalize cm:l.getD j tm0=p at U;have bt:l[j]?=some p:=cm ▸ zi g1;have eg:=hp p (oB bt);have ba:=cf p (oB bt);have cn:=ba.c;have co:=yf bp g1;rw[cm]at co;generalize hg:(λt:Tm=>t.sub f x b)=g at U;have dj:∀ y∈l,(g y).G:=λy hy=>by rw[<-hg];exact TN f y x b (zy hG.2.2.2 hy) bn
    have ei:=zH (bdN k nm ot l.length);refine⟨_,_,_,rfl,?_⟩;have fin:∀(bb bc:ByteArray) (y4 y5 y6 y7:D) (L:List Tm) (r:List D) (q N':Nat),N<=N'->L.length=l.length->Tm.Hd bb bc ty re y4 y5 y6 y7->All2 Tm.Is L r->OwnL N N' ([y4,y5,y6,y7]++r) ->
      (∀ d' bv,N<=bv->(Tm.mk k bb bc n0 ty re L).Is d'->Own N bv d'->Q d' bv)->∀ a2 N5,N'<=N5->Fresh N N5 a2 [.ag r,y4,y5,y6,y7]->∀ N6,N5<=N6->Q (.ag [.j k,.t bb,.t bc,.j n0,y4,y5,y6,y7,.sl a2 9 r q]) N6:=
     λbb bc y4 y5 y6 y7 L r q N' aj hL hH hA hO hq a2 N5 ay hf N6 az=>by have ae:=hA.len;exact hq _ _ (by omega) (Tm.is_mk.2 ⟨_,_,_,_,_,_,_,rfl,hH,by omega,hA⟩) ((uW hO hf ay).mono (oC _) az)
    refine up bp cg (λi xs=>∀(r:List D) (q N':Nat),N<=N'->All2 Tm.Is (((l.map g).set j p).take i++l.drop i) r->r.length=l.length->OwnL N N' ([x4,x5,x6,x7]++r) ->
     yZ Q N a1 (zA (bdN k nm ot l.length)) c1 (j:Int) a es c es.length i (.ag [.j k,.t nm,.t ot,.j n0,t0,t1,r0,r1,.sl a 9 es c]) x db 0 (bytes []) (bytes []) 0 0 none [] 0 0 none [] 0 none [] 0 k nm ot n0 x4 x5 x6 x7 r.length q r q N') ?_ ?_ aq c' N4 (by omega) (by simpa using J) au (aa.mono (by omega) (oC _))
    ·intro i al hi r q N' aj hA ae hO;rw[om (by simp;omega),mN (by omega),o7]at hA;refine ur ?_;rw[al];refine λN5 ay=>y9 _ (by omega) a1 c1 x N5 _ λN6 az _=>?_;rw[CV];refine Br.dec (λhx=>⟨⟨rfl,rfl⟩,⟨rfl,rfl⟩,⟨rfl,rfl⟩,λa2 N7 dk hf N8 cp=>?_⟩) λhx=>⟨_,_,_,rfl,⟨by omega,by omega⟩,λN7 dk=>?_⟩
     ·rw[if_pos (.inl hx)]at U;exact fin _ _ _ _ _ _ _ _ _ N' aj (by simp) Y hA hO U a2 N7 (by omega) hf N8 cp
     ·rw [oG];have ej:=Tm.fv_wd p;refine uC p _ co cn N7 _ λc8 N8 cp _ _=>⟨⟨rfl,rfl⟩,λa9 _ N9 ek _=>y9 _ (by omega) a9 c8 x N9 _ λeo dz _=>?_⟩
      rw[CV];refine Br.ndec (λbw=>⟨⟨rfl,rfl⟩,⟨rfl,rfl⟩,⟨rfl,rfl⟩,λa2 bz cq hf b3 bg=>?_⟩) λbw bz cq=>?_
      ·rw[if_pos (.inr bw)]at U;exact fin _ _ _ _ _ _ _ _ _ N' aj (by simp) Y hA hO U a2 bz (by omega) hf b3 bg
      ·rw [if_neg (by rintro(h | h);exact hx h;exact h bw)]at U;have d5:=Tm.fv_wd b;refine uC b _ hb dh bz _ λbd b3 bg _ _=>?_;have ep:=zH b.fv;generalize hT:rns (Tm.sub f) k l.length b.fv x (bdN k nm ot l.length) (nm,ot,p)=T at U;refine up (xZ (bdN k nm ot l.length)) (by omega) (λi xs=>∀(s:ByteArray × ByteArray × Tm) (y4 y5 y6 y7:D) (r:List D) (q N':Nat),N<=N'->Tm.Hd s.1 s.2.1 ty re y4 y5 y6 y7->All2 Tm.Is ((l.map g).set j s.2.2) r->r.length=l.length->OwnL N N' ([y4,y5,y6,y7]++r)->LeW s.2.2 p->rns (Tm.sub f) k l.length b.fv x xs s=T ->
        ya Q N (j:Int) (zA b.fv).length bd a1 (zA (bdN k nm ot l.length)) c1 ((zA (bdN k nm ot l.length)).length:Int) i x db 0 (bytes []) (bytes []) 0 0 none [] 0 0 none [] 0 none [] 0 k s.1 s.2.1 n0 y4 y5 y6 y7 r.length q (zA b.fv) bd r q N') ?_ ?_ (nm,ot,p) x4 x5 x6 x7 r q b3 (by omega) Y hA ae (hO.mono (oC _) (by omega)) LeW.rfl hT
       ·intro i al hi s y4 y5 y6 y7 r q N' aj hH hA ae hO O hs;simp only[rns]at hs;subst hs;refine ut ?_;rw[al];refine⟨⟨by omega,by omega,by omega⟩,by omega,λb7 cr=>?_⟩;have bh:=yf hA (j:=j) (by simpa using g1);have b8:((l.map g).set j s.2.2).getD j tm0=s.2.2:=by rw[oA,nA (by simpa using g1)];rfl
        rw[b8]at bh;have ct:=O.le.c;have cw:=O.le.d;rw[oG,nG];refine ih s.2.2 _ x b db bh hb (by omega) (O.z ba) ak b7 _ λdx b9 cx hx ca _ _=>?_;have cy:All2 Tm.Is ((l.map g).set j (s.2.2.sub f x b)) (r.set j dx):=by have:=si (j:=j) hA hx;rwa[List.set_set]at this
        have cz:OwnL N b9 ([y4,y5,y6,y7]++r.set j dx):=ql hO ca (by omega) (by omega) (by omega);exact⟨⟨by omega,by omega,by omega⟩,by omega,⟨by simp,rfl⟩,⟨by simp,rfl⟩,⟨by simp,rfl⟩,⟨by simp,rfl⟩,⟨by simp,rfl⟩,λa2 c6 bi hf cc bj=>fin _ _ _ _ _ _ _ _ _ b9 (by omega) (by simp) hH cy cz U a2 c6 bi hf cc bj⟩
       ·intro i old xs I _ a6 s y4 y5 y6 y7 r q N' aj hH hA ae hO O hs;have dl:=I.b;have hr:=I.r;simp only[rns]at hs;refine ut ?_;rw[I.lt,oG,I.w,hr];refine⟨⟨by omega,by omega⟩,old,rfl,⟨rfl,rfl⟩,λdm _ b7 cr _=>y9 _ (by omega) dm bd old b7 _ λb9 cx _=>?_⟩;rw[CV];refine Br.dec (λho=>⟨⟨rfl,rfl⟩,⟨rfl,rfl⟩,λdn c6 bi _=>⟨⟨rfl,rfl⟩,λcd _ cc bj ac=>?_⟩⟩) λho=>?_
        ·have ct:=O.le.c;have cw:=O.le.d;have dq:(Tm.mk k s.1 s.2.1 n0 ty re ((l.map g).set j s.2.2)).Is (.ag [.j k,.t s.1,.t s.2.1,.j n0,y4,y5,y6,y7,.sl dn 9 r q]):=Tm.is_mk.2 ⟨_,_,_,_,_,_,_,rfl,hH,by omega,hA⟩;have b8:((l.map g).set j s.2.2).getD j tm0=s.2.2:=by rw[oA,nA (by simpa using g1)];rfl
         have dr:(Tm.mk k s.1 s.2.1 n0 ty re ((l.map g).set j s.2.2)).G:=⟨hG.1,hG.2.1,by simpa using hG.2.2.1,C6 λy hy=>by
          rcases nM hy with hy | rfl
          ·obtain⟨z,hz,rfl⟩:=oU.1 hy;exact dj z hz
          ·exact O.le.g ba.g⟩
         refine Pw ih dq dr (n:=l.length) (by simp) ck b8 (by omega) (O.z ba) old x b.fv (by omega) cd bd rfl cc _ ?_;simp only[tl];intro z4 z5 z6 z7 dt c9 er d6 du a7 ce _;have off:∀ y∈[z4,z5,z6,z7],Off [cd] y:=λy hy a' ah ab ai hc=>by have h1:=ac a' ah ab ai;have h2:=ce.lo _ (zJ.2 ⟨y,oq _ hy,hc⟩);omega
         have ax:Off [cd] (.ag dt):=λa' ah ab ai hc=>by have h1:=ac a' ah ab ai;have h2:=ce.lo ab.block (by rw[zG];exact nO _ (by simpa only[D.foot]using hc));omega
         rw[List.set_set]at a7;have c7:=a7.len;simp only[nX,nF]at c7;refine⟨off z4 (by simp),off z5 (by simp),off z6 (by simp),off z7 (by simp),ax,λ_=>?_⟩;have e1:rn1 (Tm.sub f) k l.length b.fv x old s=(if s.1=old then fresh (b.fv++(s.2.2.fv++([x]++bdN k s.1 s.2.1 l.length)))else s.1,if s.1=old then s.2.1 else fresh (b.fv++(s.2.2.fv++([x]++bdN k s.1 s.2.1 l.length))),s.2.2.sub f old (sZ (fresh (b.fv++(s.2.2.fv++([x]++bdN k s.1 s.2.1 l.length)))))):=by unfold rn1;rw[if_pos ho];split<;>rfl
         rw[e1]at hs;exact a6 _ _ _ _ _ _ _ _ (by omega) du a7 c7 (ce.mono (by omega) (oC _)) ((qw f _ _ _ (by omega)).trans O) hs
        ·have e1:rn1 (Tm.sub f) k l.length b.fv x old s=s:=by unfold rn1;rw[if_neg ho]
         rw[e1]at hs;exact a6 _ _ _ _ _ _ _ _ (by omega) hH hA ae (hO.mono (oC _) (by omega)) O hs
    ·intro i y xs I _ a6 r q N' aj hA ae hO;have dl:=I.b;have dv:=hp y I.m;have dw:=cf y I.m;have da:i<l.length:=(oD.1 I.g).1;refine ur ?_;rw[I.lt,oG,I.w];refine⟨⟨by omega,by omega⟩,Br.bne (λet N5 ay=>ih y _ x b db I.r hb dv dw ak N5 _ λdx N6 az hx ca _ _=>⟨⟨by omega,by omega,by omega⟩,by omega,?_⟩) λheq=>?_⟩
     ·have hT:((l.map g).set j p)[i]?=some (y.sub f x b):=by rw[nE (by omega),oF,I.g,<-hg];rfl
      rw[nG];have h2:=si (j:=i) hA hx;rw[Qj (by simp) da hT]at h2;have h3:=a6 (r.set i dx) q N6 (by omega) h2 (by simpa using ae) (ql hO ca (by omega) (by omega) (by omega));simpa using h3
     ·have de:i=j:=by omega
      have hyp:y=p:=by
       have:=I.g
       rw[de,bt]at this;exact(oX this).symm
      have hT:((l.map g).set j p)[i]?=some y:=by rw[de,hyp,nA (by simpa using g1)]
      rw[NS da I.g hT]at hA;exact a6 r q N' aj hA ae hO
theorem NJ (s:ByteArray)(l:List ByteArray):decide (BY (λx=>decide (x=s)) l 0≥0)=decide (s∈l):=by
 have h:=FR s l;rw[mA,nh,nh]at h ⊢;constructor
 ·intro J;exact mP.1 λI=>by have:=h.2 I;omega
 ·intro J;exact Int.not_lt.1 λI=>h.1 I J
theorem Pr {f:Nat} (hS:Vp 158 f) {k n0:Int} {nm ot:ByteArray} {ty re:Ty} {l:List Tm} {d:D} (hd:(Tm.mk k nm ot n0 ty re l).Is d) (hG:(Tm.mk k nm ot n0 ty re l).G) {j:Nat} (bg:yX k l.length=(j:Int))
  {p:Tm} (hp:l.getD j tm0=p) (da:p.dp<=f) (hc:p.Z) (x:ByteArray) (fb:List ByteArray) (db:fb.length<=2199023255552) (a:Option Addr) (c:Nat) (N:Nat) {T:ByteArray × ByteArray × Tm} (hT:rns (Tm.sub f) k l.length fb x (bdN k nm ot l.length) (nm,ot,p)=T)
  (Q:QT [.pk,.i,.str,.str,.i,.dc,.dc,.dc,.dc,.row 35 9]) (hQ:tl (.mk k T.1 T.2.1 n0 ty re (l.set j T.2.2)) N Q) :
  ACalls prog 212 [.pk,.i,.str,.str,.i,.dc,.dc,.dc,.dc,.row 35 9] [.dg 9 d,.j (j:Int),.str x,.sv a 0 (zA fb) c] N Q:=by
 obtain⟨t0,t1,r0,r1,a8,es,c8,rfl,hh,cj,bh⟩:=Tm.is_mk.1 hd;have hl:=bh.len;obtain⟨g1,_⟩:=xw (k:=k) (n:=l.length) (by omega);rw[bg,oG]at g1;have de:=qC k nm ot l.length;have dh:=zH (bdN k nm ot l.length);have di:=hG.2.2.1;refine HT N _ _ x a _ c Q λ_ _ N1 bi=>qD _ _ hd hG N1 _ ?_;simp only[tl]at hQ ⊢;intro x4 x5 x6 x7 bj c' N2 dj bm ai bn _ _ N3 dk;refine BI (n:=l.length) (by omega) N3 _ λa1 c1 N4 dl _ _ _=>?_;have dm:=ai.len;have al:l.set j p=l:=by
  apply nJ;intro i;rw[nR];split
  ·rename_i hi;subst hi;rw[zi g1,hp]
  ·rfl
 refine up (xZ (bdN k nm ot l.length)) (by omega) (λi xs=>∀(s:ByteArray × ByteArray × Tm) (y4 y5 y6 y7:D) (r:List D) (q N':Nat),N<=N'->Tm.Hd s.1 s.2.1 ty re y4 y5 y6 y7->All2 Tm.Is (l.set j s.2.2) r->OwnL N N' ([y4,y5,y6,y7]++r)->LeW s.2.2 p->rns (Tm.sub f) k l.length fb x xs s=T ->
  (i=0->s=(nm,ot,p))->(0<i->∀ o∈xs,o∈fb->s.1≠o) ->
  yp Q N j x a (zA fb) c a1 (zA (bdN k nm ot l.length)) c1 i 0 (bytes []) (bytes []) 0 0 none [] 0 0 none [] 0 none [] 0 k s.1 s.2.1 n0 y4 y5 y6 y7 r.length q r q N') ?_ ?_ (nm,ot,p) x4 x5 x6 x7 bj c' N4 (by omega) bm (by rw[al];exact ai) (bn.mono bi (by omega)) LeW.rfl hT (λ_=>rfl) (λh=>absurd h (by omega))
 ·intro i bp hi s y4 y5 y6 y7 r q N' bq hH hA hO U hs _ _;simp only[rns]at hs;subst hs;refine rg ?_;rw[bp];exact⟨⟨rfl,rfl⟩,λN5 au=>hQ _ _ _ _ _ _ _ (by omega) hH hA (hO.mono (oC _) au)⟩
 ·intro i old xs I aw ao s y4 y5 y6 y7 r q N' bq hH hA hO U hs h0 h1;have dn:=I.b;have hr:=I.r;have bt:=hA.len;simp only[nX]at bt;simp only[rns]at hs;refine rg ?_;rw[I.lt,oG,I.w,hr];refine⟨⟨by omega,by omega⟩,old,rfl,λN5 au=>xb fb (by omega) a c old N5 _ λN6 dq _=>?_⟩;show Br (decide (BY (λx=>decide (x=old)) fb 0<0)) _ _;rw[FR];have hold:i=0->s.1=old:=λhi=>by
   subst hi;have h2:=I.g;rw[h0 rfl];unfold bdN at h2
   (repeat' split at h2)<;>simp at h2<;>exact h2
  have ax:0<i->old∈fb->s.1≠old:=λhi Y=>h1 hi old (by simp) Y;have aa:∀ s':ByteArray × ByteArray × Tm,rn1 (Tm.sub f) k l.length fb x old s=s'->0<i+1->∀ o∈xs,o∈fb->s'.1≠o:=λs' bv _ o Y bw=>by
   have ay:i=0:=by
    have h3:=oS.1 Y;obtain⟨m,hm⟩:=h3;rw[<-aw,nQ]at hm
    have:=(oD.1 hm).1
    omega
   have bz:=h0 ay;subst ay;have b3:o∈bdN k nm ot l.length:=by rw[<-aw]at Y;exact nD Y
   have ab:=hold rfl;subst bv;unfold rn1;by_cases ac:old∈fb
   ·have b7:=FQ (fb++(s.2.2.fv++([x]++bdN k s.1 s.2.1 l.length)));rw[if_pos ac,if_pos ab];intro hc;refine b7 ?_;simp only at hc;rw[hc,bz];simp[b3]
   ·rw[if_neg ac];intro hc;exact ac (by rw[<-ab,hc];exact bw)
  refine Br.dec (λY=>?_) λY=>?_
  ·have e1:rn1 (Tm.sub f) k l.length fb x old s=s:=by unfold rn1;rw[if_neg Y]
   have J:=aa s e1;rw[e1]at hs;exact ao _ _ _ _ _ _ _ _ (by omega) hH hA (hO.mono (oC _) (by omega)) U hs (λh=>absurd h (by omega)) J
  ·have Y:old∈fb:=mP.1 Y;have ae:=yf hA (j:=j) (by simpa using g1);have b8:(l.set j s.2.2).getD j tm0=s.2.2:=by rw[oA,nA (by simpa using g1)];rfl
   rw[b8]at ae;have az:=U.z hc;have dr:=az.c;have dt:=Tm.fv_wd s.2.2;have du:=GA fb s.2.2.fv;have ck:=qC k s.1 s.2.1 l.length;have cm:=zH (bdN k s.1 s.2.1 l.length);have cn:=U.le.d;refine⟨⟨rfl,rfl⟩,λa5 _ N7 dv ba=>BI (n:=l.length) (by omega) N7 _ λa6 c6 N8 dw b9 _=>⟨s6 ba b9,λ_=>⟨⟨by omega,by omega,by omega⟩,by omega,λN9 dz=>?_⟩⟩⟩;rw[oG,nG];refine uE s.2.2 _ ae (by omega) N9 _ λa7 c7 d5 co _ _ _ ca cp=>?_;refine sF fb s.2.2.fv (by omega) (by omega) a a7 c c7 ca _ λc8 d6 cq _ _=>?_;rw[vf,IF];have bb:(tw fb s.2.2.fv++[x]++bdN k s.1 s.2.1 l.length).length<=8796093022208:=by simp only[oH,oJ,oN];omega
   have bc:fresh (tw fb s.2.2.fv++[x]++bdN k s.1 s.2.1 l.length)=fresh (fb++(s.2.2.fv++([x]++bdN k s.1 s.2.1 l.length))):=SX λy=>by simp[LR,or_assoc]
   refine⟨⟨rfl,rfl⟩,BD (by omega),λc9=>⟨⟨rfl,rfl⟩,by unfold zB;rw[oH,zH,zH,oH,oJ,oN];omega,λcc=>⟨⟨rfl,rfl⟩,λcd _ ce cr _=>?_⟩⟩⟩;refine Dw _ bb cd cc ce _ λd7 ct _=>⟨⟨by omega,by omega,by omega⟩,by omega,⟨by omega,by omega⟩,old,rfl,λcf cw=>?_⟩
   have ah:=Hp bb;rw[bc]at ah ⊢;have e1:rn1 (Tm.sub f) k l.length fb x old s=(if s.1=old then fresh (fb++(s.2.2.fv++([x]++bdN k s.1 s.2.1 l.length)))else s.1,if s.1=old then s.2.1 else fresh (fb++(s.2.2.fv++([x]++bdN k s.1 s.2.1 l.length))),s.2.2.sub f old (sZ (fresh (fb++(s.2.2.fv++([x]++bdN k s.1 s.2.1 l.length)))))):=by unfold rn1;rw[if_pos Y];split<;>rfl
   have J:=aa _ e1;rw[e1]at hs;generalize fresh (fb++(s.2.2.fv++([x]++bdN k s.1 s.2.1 l.length)))=O at ah hs J ⊢;refine Dg cf O _ λd8 cx _ _ cg cy=>?_;refine hS s.2.2 _ old (sZ O) _ ae (Rn ah) (by omega) az (UL _) cg _ λdx aq cz hx ch _ _=>⟨⟨by omega,by omega,by omega⟩,by omega,?_⟩
   have aj:All2 Tm.Is (l.set j (s.2.2.sub f old (sZ O))) (r.set j dx):=by have:=si (j:=j) hA hx;rwa[List.set_set]at this
   have ak:OwnL N aq ([y4,y5,y6,y7]++r.set j dx):=ql hO ch (by omega) (by omega) (by omega);have bd:(r.set j dx).length=r.length:=nX;refine Br.beq (λhi=>?_) λhi=>?_
   ·have hi:i=0:=by omega
    rw[if_pos (hold hi),if_pos (hold hi)]at hs J
    have:=ao (O,s.2.1,s.2.2.sub f old (sZ O)) y4 y5 y6 y7 (r.set j dx) q aq (by omega) ⟨ah,hH.ot,hH.ty,hH.re⟩ aj ak ((qw f _ _ _ (by omega)).trans U) hs (λh=>absurd h (by omega)) J
    rwa[bd]at this
   ·have hi:0<i:=by omega
    rw[if_neg (ax hi Y),if_neg (ax hi Y)]at hs J
    have:=ao (s.1,O,s.2.2.sub f old (sZ O)) y4 y5 y6 y7 (r.set j dx) q aq (by omega) ⟨hH.nm,ah,hH.ty,hH.re⟩ aj ak ((qw f _ _ _ (by omega)).trans U) hs (λh=>absurd h (by omega)) J
    rwa[bd]at this
theorem BQ {f:Nat} (hS:Vp 158 f) {k n0:Int} {nm ot:ByteArray} {ty re:Ty} {L Lf:List Tm} {x:ByteArray} {b:Tm} {db:D} (hb:b.Is db) (al:b.Z) (hL:∀ y∈L,y.dp<=f/\y.Z) (a6:L.length<=1073741824) {at_:Int} {hid:Bool}
  (ao:Lf.length=L.length) (hf:∀(i:Nat) (y:Tm),L[i]?=some y->Lf[i]?=some (if hid=true/\(i:Int)=at_ then y else y.sub f x b)) {y4 y5 y6 y7:D} (hH:Tm.Hd nm ot ty re y4 y5 y6 y7) {r:List D} (hA:All2 Tm.Is L r) (q N N':Nat) (U:N<=N') (hO:OwnL N N' ([y4,y5,y6,y7]++r))
  (Q:QT [.ag 9]) (hQ:∀ d' ab,N<=ab->(Tm.mk k nm ot n0 ty re Lf).Is d'->Own N ab d'->Q d' ab) :
  zE Q N x at_ hid 0 db 0 (bytes []) (bytes []) 0 0 none [] 0 0 none [] 0 none [] 0 k nm ot n0 y4 y5 y6 y7 r.length q r q N':=by
 have a7:=hA.len;refine up hA (by omega) (λi xs=>∀(O:List D) (q N':Nat),N<=N'->All2 Tm.Is (Lf.take i++L.drop i) O->O.length=r.length->OwnL N N' ([y4,y5,y6,y7]++O) ->
  zE Q N x at_ hid i db 0 (bytes []) (bytes []) 0 0 none [] 0 0 none [] 0 none [] 0 k nm ot n0 y4 y5 y6 y7 r.length q O q N') ?_ ?_ r q N' U (by simpa using hA) rfl hO
 ·intro i aq hi O q N' U J ac Y;rw[om (by omega),mN (by omega),o7]at J;refine ta ?_;rw[aq];exact⟨⟨by omega,rfl⟩,⟨by omega,rfl⟩,⟨by omega,rfl⟩,⟨by omega,rfl⟩,λa2 N5 ae hf N6 ah=>hQ _ _ (by omega) (Tm.is_mk.2 ⟨_,_,_,_,_,_,_,rfl,hH,by omega,J⟩) ((uW Y hf ae).mono (oC _) ah)⟩
 ·intro i y xs I _ ai O q N' U J ac Y;have a8:=I.b;obtain⟨au,aw⟩:=hL y I.m;have aj:i<L.length:=(oD.1 I.g).1;have aa:=hf i y I.g;have ax:y.Is (O.getD i default):=by refine J.get ?_;rw[oT (by rw[nL];omega),nL,show i - min i Lf.length=0 by omega,nQ];exact I.g
  have put:(if hid=true/\(i:Int)=at_ then y else y.sub f x b)=y.sub f x b->∀ N5,N'<=N5->ACalls prog 158 [.ag 9] [.dg 9 (List.getD O i default),.str x,.dg 9 db] N5 (λak N6=>N5<=N6->Bel N6 ak->((0:Int)<=(i:Int)/\(i:Int)<(r.length:Int)/\i<O.length)/\i<O.length /\
    zE Q N x at_ hid ((i+1:Nat):Int) db 0 (bytes []) (bytes []) 0 0 none [] 0 0 none [] 0 none [] 0 k nm ot n0 y4 y5 y6 y7 r.length q (List.set O i ak) q N6):=λe N5 ae=>
   hS y _ x b db ax hb au aw al N5 _ λdx N6 ah hx ay _ _=>⟨⟨by omega,by omega,by omega⟩,by omega,by rw[e]at aa;have h2:=si (j:=i) J hx;rw[Qj ao aj aa]at h2;exact ai (O.set i dx) q N6 (by omega) h2 (by simpa using ac) (ql Y ay (by omega) (by omega) (by omega))⟩
  refine ta ?_;rw[I.lt,oG,I.w,nG];refine Br.bne (λaz=>⟨⟨by omega,by omega,by omega⟩,by omega,put (if_neg λh=>az h.2)⟩) λheq=>?_;refine Br.not (λhh=>⟨⟨by omega,by omega,by omega⟩,by omega,put (if_neg λh=>by rw[hh]at h;exact absurd h.1 (by decide))⟩) λhh=>?_;rw[if_pos ⟨hh,heq⟩]at aa;rw[NS aj I.g aa]at J;exact ai O q N' U J ac Y
theorem NP {g:Tm->Tm}{l:List Tm}{i:Nat}{y:Tm}(h:l[i]?=some y):(l.map g)[i]?=some (g y):=by rw[oF,h];rfl
theorem Hc:∀ f,Vp 158 f
 | 0=>λe d x b db _ _ ae=>absurd (Tm.dp_pos e) (by omega)
 | f + 1=>λe d x b db he hb ae hc U N Q J=>by
   have ih:=Hc f;have hG:=hc.g;have aw:=U.g;have bh:=U.c;cases e with
   | mk k nm ot n0 ty re l=>
   simp only[Tm.dp]at ae;have hp:∀ y∈l,y.dp<=f/\y.Z:=λy O=>⟨ti.1 (mV ae) y O,hc.mem y O⟩
   obtain⟨t0,t1,r0,r1,a,es,c,rfl,hh,b3,ax⟩:=Tm.is_mk.1 he;have hl:=ax.len;have ab:=hG.2.2.1;have ce:=qC k nm ot l.length;have cf:=zH (bdN k nm ot l.length);refine EM N _ x db Q λ_ _=>⟨_,rfl,?_⟩
   have ay:¬(k=1/\nm=x)->(Tm.mk k nm ot n0 ty re l).sub (f+1) x b=if yX k l.length<0 then .mk k nm ot n0 ty re (l.map λt=>Tm.sub f t x b)
     else if x∈bdN k nm ot l.length\/x∉(l.getD (yX k l.length).toNat tm0).fv then
      .mk k nm ot n0 ty re ((l.map λt=>Tm.sub f t x b).set (yX k l.length).toNat (l.getD (yX k l.length).toNat tm0))
     else
      .mk k (rns (Tm.sub f) k l.length b.fv x (bdN k nm ot l.length) (nm,ot,l.getD (yX k l.length).toNat tm0)).1
       (rns (Tm.sub f) k l.length b.fv x (bdN k nm ot l.length) (nm,ot,l.getD (yX k l.length).toNat tm0)).2.1 n0 ty re
       ((l.map λt=>Tm.sub f t x b).set (yX k l.length).toNat (Tm.sub f (rns (Tm.sub f) k l.length b.fv x (bdN k nm ot l.length) (nm,ot,l.getD (yX k l.length).toNat tm0)).2.2 x b)):=λhn=>by
    simp only[Tm.sub];by_cases hk:k=1
    ·rw[if_pos hk,if_neg (λh=>hn ⟨hk,h⟩)];have:l=[]:=hc.v.1 hk;subst this;subst hk;rw[if_pos (by decide)];rfl
    ·rw[if_neg hk]
   refine Br.beq (λh1=>⟨_,rfl,Br.str (λh2 N1 ah=>?_) λh2=>?_⟩) λh1=>?_
   ·simp only[Tm.sub]at J;rw[if_pos h1,if_pos h2]at J;refine qD b db hb aw N1 _ ?_;cases b with
    | mk k2 cg ch n2 cj ck l2=>
    simp only[tl];intro x4 x5 x6 x7 az c' N2 bi aa I ai _ _;have bj:=I.len;have cm:=aw.2.2.1;exact⟨⟨trivial,trivial⟩,⟨trivial,trivial⟩,λa2 N3 a6 hf N4 a7=>J _ _ (by omega) (Tm.is_mk.2 ⟨_,_,_,_,_,_,_,rfl,aa,by omega,I⟩) ((uW (ai.mono ah (oC _)) hf a6).mono (oC _) a7)⟩
   all_goals
    rw[ay (λh=>by first | exact h2 h.2 | exact h1 h.1)]at J;intro N1 ah;refine qD _ _ he hG N1 _ ?_;simp only[tl];intro x4 x5 x6 x7 az c' N2 bi aa I ai _ _ N3 a6;have bj:=I.len;refine BI (n:=l.length) (by omega) N3 _ λa1 c1 N4 a7 _ _ _ N5 cn=>?_;refine xb _ (by omega) a1 c1 x N5 _ λN6 co _=>?_;rw[NJ];have aj:OwnL N N6 ([x4,x5,x6,x7]++az):=ai.mono ah (by omega);refine Br.dec (λcp=>?_) λcq=>?_
    ·rw [if_neg (by omega)]at J;obtain⟨g1,g2⟩:=xw (k:=k) (n:=l.length) (by omega);obtain⟨j,ba⟩:∃ j:Nat,yX k l.length=(j:Int):=⟨_,g2.symm⟩
     rw[ba]at g1 J ⊢;rw[oG]at g1 J ⊢;generalize ak:l.getD j tm0=p at J;have al:l[j]?=some p:=ak ▸ zi g1;obtain⟨ao,aq⟩:=hp p (oB al);have bb:=aq.c;have bc:=yf ax g1;rw[ak]at bc;refine Br.ndec (λhx=>⟨_,_,_,rfl,⟨by omega,by omega⟩,λN7 cr=>?_⟩) λhx=>?_
     ·have ct:=Tm.fv_wd p;refine uE p _ bc bb N7 _ λa8 c8 N8 cw _ _ _ N9 cx=>xb _ (by omega) a8 c8 x N9 _ λbm b7 _=>?_;rw[NJ];rw[mB hx];refine Br.dec (λac bn b8=>?_) λac=>?_
      ·rw[if_neg (by rintro(h | h);exact hx h;exact h ac)]at J;have b9:=Tm.fv_wd b;refine uE b _ hb bh bn _ λbp bq cy ca _ _ _ bt cc=>?_;generalize hT:rns (Tm.sub f) k l.length b.fv x (bdN k nm ot l.length) (nm,ot,p)=T at J;have au:=Md (qw f) k l.length b.fv x (bdN k nm ot l.length) (nm,ot,p) ao;rw[hT]at au;have bd:=au.le.d;refine Pr ih he hG ba ak ao aq x b.fv (by omega) bp bq bt hT _ ?_;simp only[tl];intro z4 z5 z6 z7 cz c9 bv cd bw bg bz _ _;refine BQ ih hb U (L:=l.set j T.2.2) (Lf:=(l.map λt=>t.sub f x b).set j (T.2.2.sub f x b)) (λy O=>?_) (by simpa using ab) (by simp) (λi y O=>?_) bw bg c9 N bv (by omega) (bz.mono (by omega) (oC _)) Q J
       ·rcases nM O with O | rfl
        ·exact hp y O
        ·exact⟨oR bd ao,au.z aq⟩
       ·rw[if_neg (λh=>by simp at h)];rw[<-List.map_set];exact NP O
      ·rw[if_pos (.inr ac)]at J;refine BQ ih hb U hp ab (by simp) (λi y O=>?_) aa I c' N bm (by omega) (aj.mono (oC _) (by omega)) Q J;rw[if_neg (λh=>by simp at h)];by_cases Y:j=i
       ·subst Y;have:y=p:=oX (O.symm.trans al);rw[nA (by simpa using g1),this,Rc f p x b ac]
       ·rw[nE Y];exact NP O
     ·rw[if_pos (.inl hx)]at J;rw[nk hx];refine BQ ih hb U hp ab (by simp) (λi y O=>?_) aa I c' N N6 (by omega) aj Q J;by_cases Y:j=i
      ·subst Y;have:y=p:=oX (O.symm.trans al);rw[if_pos ⟨rfl,rfl⟩,nA (by simpa using g1),this]
      ·rw[if_neg (λh=>Y (by omega)),nE Y];exact NP O
    ·rw[if_pos (by omega)]at J;refine BQ ih hb U hp ab (by simp) (λi y O=>?_) aa I c' N N6 (by omega) aj Q J;rw[if_neg (λh=>by have:=h.2;omega)];exact NP O
theorem Tp {a b:Int}(I:0<=a/\a<=10006)(J:0<=b/\b<=10006):0<=a*b/\a*b<=100120036:=by refine⟨Int.mul_nonneg I.1 J.1,?_⟩;have O:a*b<=10006*b:=Int.mul_le_mul_of_nonneg_right I.2 J.1;omega
theorem Nu (n:Int):(if Int.tmod n 10007<0 then Int.tmod n 10007+10007 else Int.tmod n 10007)=red n:=by
 unfold red;by_cases h:0<=n
 ·rw[nl h,if_neg (by omega)]
 ·obtain⟨m,rfl⟩:∃ m,n = -m:=⟨-n,by omega⟩
  rw[Int.neg_tmod,nl (by omega)];split<;>omega
theorem UJ (n:Int) : -10007<Int.tmod n 10007/\Int.tmod n 10007<10007:=by
 by_cases h:0<=n
 ·rw[nl h];omega
 ·obtain⟨m,rfl⟩:∃ m,n = -m:=⟨-n,by omega⟩
  rw[Int.neg_tmod,nl (by omega)];omega
theorem Ik (n:Int):AG 207 [.j n] (red n):=λN Q U=>by
 have Y:=UJ n;have I:=Nu n;refine Jm N n Q ⟨by omega,Br.dec (λh N1 J=>?_) λh N2 O=>?_⟩
 ·rw[i64_in _ (by omega)];rw[if_pos h]at I;exact Qi (U _ J) I.symm
 ·rw[if_neg h]at I;exact Qi (U _ O) I.symm
theorem Ig (n:Int):AG 271 [.j n] (red n):=λN Q J=>by have U:=UJ n;have O:=Nu n;refine Ja N n Q ⟨by omega,by omega,λN1 I=>?_⟩;rw[i64_in _ (by omega)];refine Qi (J _ I) ?_;rw[<-O];generalize Int.tmod n 10007=m at *;rw[nl (by omega)];split<;>omega
def V7 (f:FuncId)(args:List PV)(r:Int × Bool):Prop:=∀(N:Nat) (Q:QT [.i,.bool]),(∀ N',N<=N'->Q r.1 r.2 N')->ACalls prog f [.i,.bool] args N Q
theorem Qp {Q:QT [.i,.bool]}{a b:Int × Bool}{N:Nat}(h:Q a.1 a.2 N)(e:a=b):Q b.1 b.2 N:=e ▸ h
theorem Sf (b:Bool):AG 208 [.bool b] (bI b):=λN Q J=>Ld N b Q (Br.of (λh N1 I=>Qi (J _ I) (by rw[h];rfl)) λh N1 I=>Qi (J _ I) (by rw[h];rfl))
theorem WH (b:Bool):AG 272 [.bool b] (bI b):=λN Q J=>PC N b Q (Br.of (λh N1 I=>Qi (J _ I) (by rw[h];rfl)) λh N1 I=>Qi (J _ I) (by rw[h];rfl))
theorem Gp (s:ByteArray)(a b:Int):V7 157 [.str s,.j a,.j b] (yC s a b):=λN Q O=>by
 refine HG N s a b Q λN1 ab=>xU _ _ _ N1 _ λN2 ac _=>?_;by_cases I:inB a 0 10006=true
 rotate_left
 ·have I:inB a 0 10006=false:=by simpa using I
  rw[I];simp only[lH,IG];have e:yC s a b=(0,false):=by unfold yC;rw[if_neg (by rw[I];decide)]
  exact λN3 U=>Qp (b:=(0,false)) (O N3 (by omega)) e
 rw[I];simp only[lB,ET];intro N4 ae;refine xU _ _ _ N4 _ λN5 ah _=>?_;by_cases J:inB b 0 10006=true
 rotate_left
 ·have J:inB b 0 10006=false:=by simpa using J
  rw[J];simp only[lH,IG];have e:yC s a b=(0,false):=by unfold yC;rw[if_pos I,if_neg (by rw[J];decide)]
  exact λN3 U=>Qp (b:=(0,false)) (O N3 (by omega)) e
 rw[J];simp only[lB,ET];have Y:=yI.1 I;have aa:=yI.1 J;have hm:=Tp Y aa;rw[i64_in (a+b) (by omega),i64_in (a - b) (by omega),i64_in (a*b) (by omega)];have fin:∀(x:Int) (y:Bool) (N':Nat),N<=N'->yC s a b=(x,y)->Q x y N':=λx y N' h e=>Qp (b:=(x,y)) (O N' h) e;unfold yC at fin;rw[if_pos I,if_pos J]at fin;clear O
 repeat' first|with_reducible intro _|simp only[Y1]|with_reducible refine X ?_ ?_|refine⟨_,_,_,rfl,?_⟩|refine⟨_,rfl,?_⟩|refine X0 ?_|refine(Ik _) _ _ ?_|refine(Sf _) _ _ ?_|fail
 all_goals
  refine fin _ _ _ (by omega) ?_
  (repeat' split)<;>first | rfl | contradiction | (simp_all;done) | (congr 1;rw[show(a==1)=false by simpa using ‹¬a=1›];rfl)
theorem Gi (s:ByteArray)(a b:Int):V7 252 [.str s,.j a,.j b] (yC s a b):=λN Q O=>by
 refine G6 N s a b Q λN1 ab=>uo _ N1 _ λN2 ac _=>?_;by_cases I:inB a 0 10006=true
 rotate_left
 ·have I:inB a 0 10006=false:=by simpa using I
  rw[I];simp only[lH,IG];have e:yC s a b=(0,false):=by unfold yC;rw[if_neg (by rw[I];decide)]
  exact λN3 U=>Qp (b:=(0,false)) (O N3 (by omega)) e
 rw[I];simp only[lB,ET];intro N4 ae;refine uo _ N4 _ λN5 ah _=>?_;by_cases J:inB b 0 10006=true
 rotate_left
 ·have J:inB b 0 10006=false:=by simpa using J
  rw[J];simp only[lH,IG];have e:yC s a b=(0,false):=by unfold yC;rw[if_pos I,if_neg (by rw[J];decide)]
  exact λN3 U=>Qp (b:=(0,false)) (O N3 (by omega)) e
 rw[J];simp only[lB,ET];have Y:=yI.1 I;have aa:=yI.1 J;have hm:=Tp Y aa;rw[i64_in (a+b) (by omega),i64_in (a - b) (by omega),i64_in (a*b) (by omega)];have fin:∀(x:Int) (y:Bool) (N':Nat),N<=N'->yC s a b=(x,y)->Q x y N':=λx y N' h e=>Qp (b:=(x,y)) (O N' h) e;unfold yC at fin;rw[if_pos I,if_pos J]at fin;clear O
 repeat' first|with_reducible intro _|simp only[Y1]|with_reducible refine X ?_ ?_|refine⟨_,_,_,rfl,?_⟩|refine⟨_,rfl,?_⟩|refine X0 ?_|refine(Ig _) _ _ ?_|refine(WH _) _ _ ?_|fail
 all_goals
  refine fin _ _ _ (by omega) ?_
  (repeat' split)<;>first | rfl | contradiction | (simp_all;done) | (congr 1;rw[show(a==1)=false by simpa using ‹¬a=1›];rfl)
structure Tm.F (e:Tm) (f:Nat):Prop where
 ok:e.ok=true
 d:e.dp<=f
 g:e.G
 b:e.dp<=1073741824
 w:e.wd<=137438953472
theorem Tm.F.up {e:Tm}{f g:Nat}(h:e.F f)(I:f<=g):e.F g:=⟨h.ok,oR h.d I,h.g,h.b,h.w⟩
theorem wC {k:Int} {nm ot:ByteArray} {n:Int} {ty re:Ty} {l:List Tm} (h:(Tm.mk k nm ot n ty re l).ok=true) :
  ((k=6\/k=9\/k=10\/k=11\/k=12\/k=13)->l.length=1)/\((k=7\/k=8)->l.length=2)/\(k=5->l.length=3)/\((k=1\/k=2\/k=3)->l.length=0)/\(k=4->(l.length:Int)=sc nm):=by
 simp only[Tm.ok,oK,mK]at h;obtain⟨_,_,h⟩:=h;unfold GX at h;refine⟨?_,?_,?_,?_,?_⟩
 ·rintro(rfl | rfl | rfl | rfl | rfl | rfl)<;>(simp at h;omega)
 ·rintro(rfl | rfl)<;>(simp at h;omega)
 ·rintro rfl;simp at h;omega
 ·rintro(rfl | rfl | rfl)<;>simpa using h
 ·rintro rfl;simpa using h
theorem Tm.F.mem {k:Int}{nm ot:ByteArray}{n:Int}{ty re:Ty}{l:List Tm}{f:Nat}(h:(Tm.mk k nm ot n ty re l).F (f+1)):∀ y∈l,y.F f:=λy I=>by
 have J:=h.ok;have O:=h.d;have Y:=h.b;have U:=h.w;have h7:=(wC h.ok).2.2.2.1;simp only[Tm.ok,oK]at J;simp only[Tm.dp]at O Y;have h4:=vb I;have h5:∀ {l:List Tm},sW l=true->∀ x∈l,x.ok=true:=λ{l}=>by
  induction l with
  | nil=>intro _ x hx;simp at hx
  | cons t ts ih=>
    intro h x hx;simp only[sW,oK]at h;rcases oL.1 hx with rfl | hx
    ·exact h.1
    ·exact ih h.2 x hx
 refine⟨h5 J.1 y I,ti.1 (mV O) y I,zy h.g.2.2.2 I,by omega,?_⟩;have h8:=pX I;simp only[Tm.wd]at U;split at U
 ·rename_i hk;rw[oV (h7 (.inl hk))]at I;simp at I
 ·omega
theorem Vu:∀ t:Tm,t.ok=true->t.V:=by
 refine Tm.ind λk nm ot n ty re l I h=>?_;refine⟨λJ=>oV ((wC h).2.2.2.1 (.inl J)),tj.2 λx hx=>I x hx ?_⟩;simp only[Tm.ok,oK]at h;have O:∀ {l:List Tm},sW l=true->∀ x∈l,x.ok=true:=λ{l}=>by
  induction l with
  | nil=>intro _ x hx;simp at hx
  | cons t ts I=>
    intro h x hx;simp only[sW,oK]at h;rcases oL.1 hx with rfl | hx
    ·exact h.1
    ·exact I h.2 x hx
 exact O h.1 x hx
theorem Xo:∀ t:Tm,t.ok=true->t.A3:=by refine Tm.ind λk nm ot n ty re l J h=>?_;have nd:=yk h;have O:=nd.ar;have U:=Lq k nm;exact⟨by omega,u4.2 λx I=>J x I (nd.sub x I)⟩
theorem Tm.F.of {e:Tm}{f:Nat}(I:e.ok=true)(J:e.dp<=f)(O:e.cnt<=4000000):e.F f:=⟨I,J,Tm.G_cnt e (by omega),by have:=e.dp_cnt;omega,by have:=Tm.vc_cnt e;have:=e.wd_vc;omega⟩
theorem Tm.F.z {e:Tm}{f:Nat}(h:e.F f):e.Z:=⟨h.g,by have:=h.w;omega,Vu _ h.ok⟩
theorem zM {l:List Tm}{i:Nat}(h:i<l.length):l.getD i tm0∈l:=oB (zi h)
theorem MJ {e:Tm}(I:e.ok=true)(J:e.kd=3):e.no=0\/e.no=1:=by
 cases e with
 | mk k nm ot n ty re l=>
 simp only[Tm.kd]at J;subst J;simp only[Tm.ok,oK]at I;have O:=I.2.1;simp only[zI,oK,inB]at O;simp at O;simp only[Tm.no];omega
def OL (f:FuncId)(args:List PV)(r:Tm × Int):Prop:=∀(N:Nat) (Q:QT [.ag 9,.i]),(∀ d N',N<=N'->r.1.Is d->Q d r.2 N')->ACalls prog f [.ag 9,.i] args N Q
def Te (f:FuncId)(args:List PV)(r:Tm × Int × Bool):Prop:=∀(N:Nat) (Q:QT [.ag 9,.i,.bool]),(∀ d N',N<=N'->r.1.Is d->Q d r.2.1 r.2.2 N')->ACalls prog f [.ag 9,.i,.bool] args N Q
def V1 (F:FuncId):Prop:=∀(t:Tm) (d:D),t.Is d->t.G->∀(N:Nat) (Q:QT [.pk,.i,.str,.str,.i,.dc,.dc,.dc,.dc,.row 35 9]),tl t N Q->ACalls prog F [.pk,.i,.str,.str,.i,.dc,.dc,.dc,.dc,.row 35 9] [.dg 9 d] N Q
theorem Ka {F:FuncId} (hF:V1 F) {t:Tm} {d:D} (h:t.Is d) (hG:t.G) {N0 N:Nat} (h0:N0<=N) (Q':D->Nat->Prop) (hq:∀ d' N',N<=N'->t.Is d'->Own N0 N' d'->Q' d' N') :
  ACalls prog F [.pk,.i,.str,.str,.i,.dc,.dc,.dc,.dc,.row 35 9] [.dg 9 d] N (λn s Y aa x J O U es c N2=>N<=N2->Bel N2 (D.ag es)->(es.length=es.length/\c=c)/\(es.length=es.length/\c=c)/\∀ a N3,N2<=N3->Fresh N0 N3 a [D.ag es,x,J,O,U]->∀ N4,N3<=N4 ->
   Q' (D.ag [D.j n,D.t s,D.t Y,D.j aa,x,J,O,U,D.sl a 9 es c]) N4):=by
 refine hF t d h hG N _ ?_;cases t with
 | mk k2 ai aj n2 ak al l2=>
 simp only[tl];intro x4 x5 x6 x7 ao c' N2 aq ab I ac _ _;have au:=I.len;have aw:=hG.2.2.1;exact⟨⟨trivial,trivial⟩,⟨trivial,trivial⟩,λa2 N3 ae hf N4 ah=>hq _ _ (by omega) (Tm.is_mk.2 ⟨_,_,_,_,_,_,_,rfl,ab,by omega,I⟩) ((uW (ac.mono h0 (oC _)) hf ae).mono (oC _) ah)⟩
theorem VZ {F:FuncId} (hF:V1 F) {t y:Tm} {d dy:D} (h:t.Is d) (hG:t.G) (hy:y.Is dy) {i:Nat} (hi:i<t.as.length) {N0 N:Nat} (Q':D->Nat->Prop) (hq:∀ d' N',N<=N'->(t.wth i y).Is d'->Q' d' N') :
  ACalls prog F [.pk,.i,.str,.str,.i,.dc,.dc,.dc,.dc,.row 35 9] [.dg 9 d] N (λn s aa ab x J O U es c N2=>N<=N2->Bel N2 (D.ag es)->(0<=(i:Int)/\(i:Int)<(es.length:Int)/\(0+(i:Int).toNat:Nat)<es.length)/\(0+(i:Int).toNat:Nat)<es.length /\
   (es.length=(List.set es (0+(i:Int).toNat:Nat) dy).length/\c=c)/\(es.length=(List.set es (0+(i:Int).toNat:Nat) dy).length/\c=c)/\(es.length=(List.set es (0+(i:Int).toNat:Nat) dy).length/\c=c)/\(es.length=(List.set es (0+(i:Int).toNat:Nat) dy).length/\c=c)/\(es.length=(List.set es (0+(i:Int).toNat:Nat) dy).length/\c=c) /\
   ∀ a N3,N2<=N3->Fresh N0 N3 a [D.ag (List.set es (0+(i:Int).toNat:Nat) dy),x,J,O,U]->∀ N4,N3<=N4 ->
   Q' (D.ag [D.j n,D.t s,D.t aa,D.j ab,x,J,O,U,D.sl a 9 (List.set es (0+(i:Int).toNat:Nat) dy) c]) N4):=by
 refine hF t d h hG N _ ?_;cases t with
 | mk k2 ae ah n2 ai aj l2=>
 simp only[tl];simp only[Tm.as]at hi;intro x4 x5 x6 x7 Y c' N2 ak ac I al _ _;have ao:=I.len;have aq:=hG.2.2.1;rw[oG,nG];have hs:(List.set Y i dy).length=Y.length:=nX;exact⟨⟨by omega,by omega,by omega⟩,by omega,⟨hs.symm,trivial⟩,⟨hs.symm,trivial⟩,⟨hs.symm,trivial⟩,⟨hs.symm,trivial⟩,⟨hs.symm,trivial⟩,λa2 N3 au hf N4 aw=>hq _ _ (by omega) (Tm.is_mk.2 ⟨_,_,_,_,_,_,_,rfl,ac,by omega,si I hy⟩)⟩
theorem I9 {k n:Int}:(PI k n).Is (.ag [.j k,.t (bytes []),.t (bytes []),.j n,.j 0,.sl none 2 [] 0,.j 0,.sl none 2 [] 0,.sl none 9 [] 0]):=
 Tm.is_mk.2 ⟨_,_,_,_,_,_,_,rfl,⟨by decide,by decide,Ty.is_mk.2 ⟨_,_,_,rfl,by simp,rfl⟩,Ty.is_mk.2 ⟨_,_,_,rfl,by simp,rfl⟩⟩,by simp,rfl⟩
theorem KT {k n m:Int}{c1 c2 c4 c5 I J O:D}(h : -1152921504606846976<=m/\m<=1152921504606846976):AG 151 [.dg 9 (.ag [.j k,c1,c2,.j n,c4,c5,I,J,O]),.j m] (zK k m):=λN Q U=>by
 refine CK N _ m Q λ_=>?_;rw[i64_in (m+1) (by omega),i64_in (m - 1) (by omega)]
 repeat' first|with_reducible intro _|simp only[Y1]|with_reducible refine X ?_ ?_|refine⟨_,_,_,rfl,?_⟩|refine⟨_,rfl,?_⟩|refine X0 ?_|fail
 all_goals(refine Qi (U _ (by omega)) ?_;simp[zK, *])
theorem DU {k n m:Int}{c1 c2 c4 c5 I J O:D}(h : -1152921504606846976<=m/\m<=1152921504606846976):AG 175 [.dg 9 (.ag [.j k,c1,c2,.j n,c4,c5,I,J,O]),.j m] (zK k m):=λN Q U=>by
 refine rj N _ m Q λ_=>?_;rw[i64_in (m+1) (by omega),i64_in (m - 1) (by omega)]
 repeat' first|with_reducible intro _|simp only[Y1]|with_reducible refine X ?_ ?_|refine⟨_,_,_,rfl,?_⟩|refine⟨_,rfl,?_⟩|refine X0 ?_|fail
 all_goals(refine Qi (U _ (by omega)) ?_;simp[zK, *])
def LvIn (m:Int)(d:Nat):Prop := -1152921504606846976<=m - (d:Int)/\m+(d:Int)<=1152921504606846976
theorem LvIn.next {k m:Int}{d d':Nat}(h:LvIn m d)(hd:d'+1<=d):LvIn (zK k m) d':=by
 unfold LvIn zK at *;split
 ·omega
 ·split<;>omega
theorem LvIn.b {m:Int}{d:Nat}(h:LvIn m d) : -1152921504606846976<=m/\m<=1152921504606846976:=by unfold LvIn at h;omega
theorem dp_mem {k:Int}{nm ot:ByteArray}{n:Int}{ty re:Ty}{l:List Tm}{y:Tm}(h:y∈l):y.dp+1<=(Tm.mk k nm ot n ty re l).dp:=by
 have:=ti.1 (oC (v7 l)) y h
 simp only[Tm.dp];omega
theorem Im:∀(t:Tm)(d:D),t.Is d->∀ m:Int,LvIn m t.dp->vU 91 [.dg 9 d,.j m] (t.made m):=by
 refine Tm.ind λk nm ot n ty re l ih d hd m hm N Q hQ=>?_;obtain⟨t0,t1,r0,r1,a,es,c,rfl,hh,U,Y⟩:=Tm.is_mk.1 hd;have hl:=Y.len;have key:∀(N':Nat),N<=N'->(∀ I,N'<=I->Q (u6 l (zK k m)) I)->xM Q N m 0 (.ag [.j k,.t nm,.t ot,.j n,t0,t1,r0,r1,.sl a 9 es c]) N':=by
  refine up Y U (λi xs=>∀(N':Nat),N<=N'->(∀ I,N'<=I->Q (u6 xs (zK k m)) I)->xM Q N m i (.ag [.j k,.t nm,.t ot,.j n,t0,t1,r0,r1,.sl a 9 es c]) N') ?_ ?_
  ·intro i aa _ N' ab O;refine qh ?_
   repeat' first|with_reducible intro _|simp only[aa,Y1]|with_reducible refine X ?_ ?_|refine⟨_,_,_,rfl,?_⟩|refine⟨_,rfl,?_⟩|refine X0 ?_|fail
   exact Qb (O _ (by omega)) (by simp[u6])
  ·intro i x xs J _ ac N' ab O;have ah:=J.b;refine qh ?_
   repeat' first|with_reducible intro _|simp only[J.lt,J.w,oG,Y1]|with_reducible refine X ?_ ?_|refine⟨_,_,_,rfl,?_⟩|refine⟨_,rfl,?_⟩|refine X0 ?_|refine(KT hm.b) _ _ ?_|refine(ih x J.m _ J.r _ (hm.next (dp_mem J.m))) _ _ ?_|fail
   ·refine Qb (O _ (by omega)) ?_;simp[u6, *]
   ·exact ac _ (by omega) λI h=>Qb (O I (by omega)) (by simp[u6, *])
 refine J2 N _ m Q λ_=>⟨_,rfl,Br.beq (λh1=>Br.beq (λh2 N1 ae=>?_) λh2=>?_) λh1=>?_⟩
 ·exact Qb (hQ _ ae) (by simp[Tm.made,h1,h2])
 ·exact key N (oC _) λI h=>Qb (hQ _ h) (by simp[Tm.made,h1,h2])
 ·exact key N (oC _) λI h=>Qb (hQ _ h) (by simp[Tm.made,h1])
theorem zt {e:Tm}{d:D}(he:e.Is d)(Y:e.ok=true)(ac:e.dp<=1073741824):vU 47 [.dg 9 d] e.res:=λN Q J=>by
 cases e with
 | mk k nm ot n0 ty re l=>
 obtain⟨t0,t1,r0,r1,a,es,c,rfl,hh,ab,U⟩:=Tm.is_mk.1 he;have hl:=U.len;refine EN N _ Q λ_=>⟨_,rfl,?_⟩
 refine Br.beq (λh2 N1 I=>Qb (J _ I) (by simp[Tm.res,NO,Tm.kd,h2])) λh2=>?_;refine Br.beq (λh3 N1 I=>Qb (J _ I) (by simp[Tm.res,NO,Tm.kd,h3])) λh3=>?_;refine Br.beq (λh6 N1 I=>Qb (J _ I) (by simp[Tm.res,NO,Tm.kd,h6])) λh6=>?_;refine Br.beq (λh9 N1 I=>Qb (J _ I) (by simp[Tm.res,NO,Tm.kd,h9])) λh9=>?_;refine Br.beq (λO N1 I=>?_) λO N1 I=>Qb (J _ I) (by simp[Tm.res,NO,Tm.kd,h2,h3,h6,h9,O]);subst O;have ae:=(wC Y).1 (by omega);have hm:=zM (l:=l) (i:=0) (by omega);have ah:=dp_mem (k:=10) (nm:=nm) (ot:=ot) (n:=n0) (ty:=ty) (re:=re) hm;refine FE _ _ he 0 N1 _ λN2 ai _=>Br.of (λhv=>⟨_,_,_,rfl,⟨by omega,by omega⟩,λN3 aa=>?_⟩) λhv N3 aa=>Qb (J _ (by omega)) (by simp[Tm.res,NO,Tm.kd,hv]);refine Im _ _ (yf U (j:=0) (by omega)) 1 (by unfold LvIn;omega) N3 _ λN4 aj _ N5 ak=>Qb (J _ (by omega)) ?_;simp[Tm.res,NO,Tm.kd,hv,Tm.pt]
theorem Eb {S:Tm->Tm × Int}{e:Tm}:∀ {l:List Tm}{i:Nat}{r:Tm × Int},goS S e l i=some r->∃ j x,l[j]?=some x/\x.res=false/\r=(e.wth (i+j) (S x).1,(S x).2)
 | [],_,_,h=>by simp[goS]at h
 | x::l,i,r,h=>by
   simp only[goS]at h;split at h
   ·obtain⟨j,y,I,J,O⟩:=Eb h;exact⟨j+1,y,by simpa using I,J,by rw[O,show i+1+j=i+(j+1) by omega]⟩
   ·rename_i U;exact⟨0,x,rfl,by simpa using U,(oX h).symm⟩
theorem X5:tm0.G:=by simp[tm0,Tm.G,Nx,Ty.cnt,zS]
theorem Vw {e:Tm}{i:Nat}(h:e.G):(e.pt i).G:=by
 cases e with
 | mk k nm ot n ty re l=>
 simp only[Tm.pt];by_cases hi:i<l.length
 ·exact zy h.2.2.2 (zM hi)
 ·rw[oA,ob (by omega)];exact X5
theorem Vi {e x:Tm}{i:Nat}(h:e.G)(J:x.G):(e.wth i x).G:=by
 cases e with
 | mk k nm ot n ty re l=>
 refine⟨h.1,h.2.1,by simpa using h.2.2.1,C6 λy I=>?_⟩;rcases nM I with I | rfl
 ·exact zy h.2.2.2 I
 ·exact J
theorem XT {e:Tm}(h:e.G):e.apl.1.G:=by
 cases e with
 | mk k nm ot n ty re l=>
 have g:∀ i,(l.getD i tm0).G:=λi=>Vw (e:=.mk k nm ot n ty re l) h;have I:∀ i j,((l.getD i tm0).pt j).G:=λi j=>Vw (g i);simp only[Tm.apl,Tm.opr];have s:∀(t b:Tm) (x:ByteArray),t.G->b.G->(t.sb x b).G:=λt b x J O=>TN _ t x b J O;have U:∀ k n,(PI k n).G:=λk n=>by simp[PI,Tm.G,Nx,Ty.cnt,zS]
 have nn:∀ x:Tm,x.G->(Tm.nod 10 [x]).G:=λx Y=>by simpa [Tm.nod,Tm.G,Nx,Ty.cnt,zS]using Y
 (repeat' split)<;>first | exact h | exact g _ | exact I _ _ | exact s _ _ _ (I _ _) (g _) | exact s _ _ _ (s _ _ _ (I _ _) (g _)) (g _) | exact s _ _ _ (g _) (g _) | exact U _ _ | exact nn _ (g _)
theorem Xc {S:Tm->Tm × Int}(Y:∀ x:Tm,x.G->(S x).1.G):∀(t:Tm)(m:Int),t.G->(t.cod S m).1.G:=by
 refine Tm.ind λk nm ot n ty re l ih m h=>?_;simp only[Tm.cod];split
 ·unfold Vb;split
  ·split
   ·exact Vw (Vw h)
   ·exact h
  ·exact Vi h (Y _ (Vw h))
 ·have key:∀(xs:List Tm),(∀ x∈xs,x∈l)->∀ l' r,yL S xs (zK k m)=some (l',r)->l'.length=xs.length/\∀ x∈l',x.G:=by
   intro xs
   induction xs with
   | nil=>intro _ l' r h;simp[yL]at h
   | cons x xs O=>
     intro U l' r I;have J:=U x (by simp);simp only[yL]at I;split at I
     ·cases I;refine⟨by simp,λy hy=>?_⟩;rcases oL.1 hy with rfl | hy
      ·exact ih x J _ (zy h.2.2.2 J)
      ·exact zy h.2.2.2 (U y (by simp[hy]))
     ·split at I
      ·cases I
      ·rename_i l2 r2 h3;cases I;obtain⟨b1,b2⟩:=O (λy hy=>U y (by simp[hy])) _ _ h3;refine⟨by simp[b1],λy hy=>?_⟩;rcases oL.1 hy with rfl | hy
       ·exact zy h.2.2.2 J
       ·exact b2 y hy
  cases hc:yL S l (zK k m)with
  | none=>exact h
  | some p=>obtain⟨l',r⟩:=p;obtain⟨b1,b2⟩:=key l (λx J=>J) l' r hc;exact⟨h.1,h.2.1,by rw[b1];exact h.2.2.1,C6 b2⟩
theorem XC:∀(f:Nat)(e:Tm),e.G->(e.stp f).1.G
 | 0,e,h=>h
 | f + 1,.mk k nm ot n ty re l,h=>by
   have I:=XC f;simp only[Tm.stp];split
   ·exact h
   ·by_cases J:(Tm.mk k nm ot n ty re l).kd=10
    ·rw[if_pos J];exact Vi h (Xc I _ 1 (Vw h))
    ·rw[if_neg J];cases O:goS (Tm.stp f) (Tm.mk k nm ot n ty re l) (l.take (Ac k l.length)) 0 with
     | none=>exact XT h
     | some r=>obtain⟨j,x,U,Y,rfl⟩:=Eb O;exact Vi h (I x (zy h.2.2.2 (List.take_subset _ _ (oB U))))
def Tf (F:FuncId)(f:Nat):Prop:=∀(e:Tm) (d:D),e.Is d->e.F f->OL F [.dg 9 d] (e.stp f)
theorem Tm.F.dp {e:Tm}{f:Nat}(h:e.F f):e.dp<=1073741824:=h.b
theorem VN {k:Int}{nm ot:ByteArray}{n:Int}{ty re:Ty}{l:List Tm}{i:Nat}:(Tm.mk k nm ot n ty re l).pt i=l.getD i tm0:=rfl
theorem E9 {t y:Tm} {d dy:D} (h:t.Is d) (I:t.G) (J:y.Is dy) {i:Nat} (hi:i<t.as.length) (N:Nat) (Q:QT [.ag 9]) (O:∀ d' N',N<=N'->(t.wth i y).Is d'->Q d' N') :
  ACalls prog 95 [.ag 9] [.dg 9 d,.j (i:Int),.dg 9 dy] N Q:=
 HP N _ _ _ Q λ_ _ N1 U=>VZ qD h I J hi (λd N=>Q d N) λd' N' h1 Y=>O _ _ (by omega) Y
theorem Ii {f:Nat} (hS:Tf 48 f) {k n0:Int} {nm ot:ByteArray} {ty re:Ty} {l:List Tm} {d:D} (h:(Tm.mk k nm ot n0 ty re l).Is d) (O:(Tm.mk k nm ot n0 ty re l).F (f+1)) {i:Nat} (hi:i<l.length) :
  OL 156 [.dg 9 d,.j (i:Int)] ((Tm.mk k nm ot n0 ty re l).wth i (Tm.stp f (l.getD i tm0)).1,(Tm.stp f (l.getD i tm0)).2):=λN Q U=>by
 obtain⟨t0,t1,r0,r1,a,es,c,rfl,hh,Y,I⟩:=Tm.is_mk.1 h;have hl:=I.len;refine Lb N _ _ Q λ_=>⟨_,_,_,rfl,⟨by omega,by omega⟩,λN1 aa=>?_⟩
 rw[oG];refine hS _ _ (yf I hi) (O.mem _ (zM hi)) N1 _ λdx N2 ab hx _ _=>Br.beq (λh0 N3 ac=>?_) λh0 N4 ae=>?_
 ·refine U _ _ (by omega) ?_;have e1:=UE f _ h0;simp only;rw[e1,<-VN (k:=k) (nm:=nm) (ot:=ot) (n:=n0) (ty:=ty) (re:=re),OH];exact h
 ·exact E9 h O.z.g hx hi N4 _ λd' N5 ah J _ _ N6 ai=>U _ _ (by omega) J
theorem Pn {f:Nat}(hS:Tf 48 f):∀(t:Tm)(d:D),t.Is d->t.F (f+1)->∀ m:Int,LvIn m t.dp->Te 94 [.dg 9 d,.j m] (t.cod (Tm.stp f) m):=by
 refine Tm.ind λk nm ot n0 ty re l ih d hd hF m hm N Q J=>?_;have Y:=hd;obtain⟨t0,t1,r0,r1,a,es,c,rfl,hh,aj,ab⟩:=Tm.is_mk.1 hd;have hl:=ab.len;have loop:¬(k=11/\m=1)->yW Q N m 0 (.ag [.j k,.t nm,.t ot,.j n0,t0,t1,r0,r1,.sl a 9 es c]) 0 (bytes []) (bytes []) 0 0 none [] 0 0 none [] 0 none [] 0 N:=λaq=>by
  simp only[Tm.cod]at J;rw[if_neg aq]at J;refine up ab aj (λi xs=>∀ N',N<=N'->(match yL (Tm.stp f) xs (zK k m)with | none=>yL (Tm.stp f) l (zK k m)=none | some (l',r)=>yL (Tm.stp f) l (zK k m)=some (l.take i++l',r)) ->
   yW Q N m i (.ag [.j k,.t nm,.t ot,.j n0,t0,t1,r0,r1,.sl a 9 es c]) 0 (bytes []) (bytes []) 0 0 none [] 0 0 none [] 0 none [] 0 N') ?_ ?_ N (oC _) ?_
  ·intro i au hi N' aw O;simp only[yL]at O;rw[O]at J;refine sR ⟨_,_,_,rfl,?_⟩;rw[au];exact λN2 ak=>J _ _ (by omega) Y
  ·intro i x xs I ax ay N' aw O;have hb:=I.b;have al:i<l.length:=(oD.1 I.g).1;refine sR ⟨_,_,_,rfl,?_⟩;rw[I.lt,oG,I.w];refine⟨_,_,_,rfl,⟨by omega,by omega⟩,λN1 az=>KT hm.b N1 _ λN2 ak _ N3 a6=>?_⟩;refine ih x I.m _ I.r ((hF.mem x I.m).up (by omega)) _ (hm.next (dp_mem I.m)) N3 _ λdx N4 a7 hx _ _=>Br.of (λhv N5 a8=>?_) λhv=>?_
   ·simp only[yL]at O;rw[if_pos hv]at O;simp only at O;rw[O]at J;refine E9 Y hF.z.g hx al N5 _ λd' N6 ba ac _ _ N7 bb=>J _ _ (by omega) ?_;have:l.take i++(x.cod (Tm.stp f) (zK k m)).1::xs=l.set i (x.cod (Tm.stp f) (zK k m)).1:=by rw[lE,if_pos al,ax]
    simp only;rw[this];exact ac
   ·refine ay _ (by omega) ?_;simp only[yL]at O;rw[if_neg (by rw[hv];decide)]at O;cases hc:yL (Tm.stp f) xs (zK k m)with
    | none=>rw[hc]at O;exact O
    | some p=>obtain⟨l',r⟩:=p;rw[hc]at O;simp only at O ⊢;rw[O,vJ I.g,oP];rfl
  ·cases hc:yL (Tm.stp f) l (zK k m)with
   | none=>rfl
   | some p=>obtain⟨l',r⟩:=p;simp
 refine HN N _ m Q λ_=>⟨_,rfl,Br.beq (λh1=>Br.beq (λh2=>?_) λh2=>loop λh=>h2 h.2) λh1=>loop λh=>h1 h.1⟩
 have bh:=(wC hF.ok).1 (by omega);have ae:0<l.length:=by omega
 have ao:=zM ae;have U:=hF.mem _ ao;have ah:=yf ab ae;simp only[Tm.cod]at J;rw[if_pos ⟨h1,h2⟩]at J;unfold Vb at J;rw[VN]at J;refine⟨_,_,_,rfl,⟨by omega,by omega⟩,λN1 az=>zt ah U.ok U.dp N1 _ λN2 ak _=>Br.not (λhr N3 a6=>?_) λhr=>?_⟩
 ·rw[if_neg (by rw[hr];decide)]at J;exact Ii hS Y hF ae N3 _ λdx N4 a7 hx _ _ N5 a8=>J _ _ (by omega) hx
 ·rw[if_pos hr]at J;generalize l.getD 0 tm0=p at ah U hr J ao;cases p with
  | mk pk pn po pm pt pr pl=>
  obtain⟨u0,u1,v0,v1,a2,bi,c2,heq,bj,bc,aa⟩:=Tm.is_mk.1 ah;have bm:=aa.len;rw[heq];refine⟨_,rfl,Br.beq (λai=>?_) λai bn bg=>?_⟩
  ·rw[if_pos (by exact ai)]at J;have bp:=(wC U.ok).1 (by omega);have bd:=zM (l:=pl) (i:=0) (by omega);refine⟨_,_,_,rfl,⟨by omega,by omega⟩,λN6 ba=>?_⟩;refine Ka qD (yf aa (j:=0) (by omega)) (zy U.z.g.2.2.2 bd) (N0:=N) (by omega) (λd N=>Q d 6 true N) λd' N7 bb ac _=>J _ _ (by omega) ac
  ·rw[if_neg (by exact ai)]at J;exact J _ _ (by omega) Y
def G1 (l:List Tm)(i:Nat):List D:=[.j (if 0<i then(l.getD 0 tm0).no else 0),.j (if 1<i then(l.getD 1 tm0).no else 0)]
theorem NX {l:List Tm}{i:Nat}(hi:i<2):(G1 l i).set i (.j ((l.getD i tm0).no))=G1 l (i+1):=by
 match i,hi with
 | 0,_=>rfl
 | 1,_=>rfl
theorem EZ {l:List Tm}{i:Nat}(h:l.length<=i):l.getD i tm0=tm0:=by rw[oA,ob h];rfl
theorem NW {l:List Tm}(h:l.length<=2):G1 l l.length=[.j ((l.getD 0 tm0).no),.j ((l.getD 1 tm0).no)]:=by
 unfold G1;by_cases I:0<l.length
 ·by_cases J:1<l.length
  ·rw[if_pos I,if_pos J]
  ·rw[if_pos I,if_neg J,EZ (i:=1) (by omega)];rfl
 ·rw[if_neg I,if_neg (by omega),EZ (i:=0) (by omega),EZ (i:=1) (by omega)];rfl
theorem Qn (s:ByteArray):sc s<=2:=by unfold sc;(repeat' split)<;>decide
theorem SE (n:Int)(N:Nat)(Q:QT [.ag 9])(J:∀ d N',N<=N'->(PI 2 n).Is d->Q d N'):ACalls prog 149 [.ag 9] [.j n] N Q:=pA N n Q λN1 I=>J _ _ I I9
theorem Pp (n:Int)(N:Nat)(Q:QT [.ag 9])(J:∀ d N',N<=N'->(PI 3 n).Is d->Q d N'):ACalls prog 80 [.ag 9] [.j n] N Q:=rI N n Q λN1 I=>J _ _ I I9
theorem Ea {S:Tm->Tm × Int}{e:Tm}{i:Nat}{x:Tm}{xs:List Tm}(h:x.res=true):goS S e (x::xs) i=goS S e xs (i+1):=by simp[goS,h]
theorem VM {n0:Int}{nm ot:ByteArray}{ty re:Ty}{l:List Tm}(h:∀ x∈l,x.kd=yR nm):(Tm.mk 4 nm ot n0 ty re l).opr l=(PI (G2 nm) (yC nm (l.getD 0 tm0).no (l.getD 1 tm0).no).1,1):=by unfold Tm.opr;rw[if_pos (oc.2 λx I=>by rw[h x I];exact beq_self_eq_true _)];rfl
theorem VL {n0:Int}{nm ot:ByteArray}{ty re:Ty}{l:List Tm}{x:Tm}(I:x∈l)(h:x.kd≠yR nm):(Tm.mk 4 nm ot n0 ty re l).opr l=(Tm.mk 4 nm ot n0 ty re l,0):=by unfold Tm.opr;rw[if_neg λhc=>h (by have:=oc.1 hc _ I;simpa [Tm.nm]using this)]
theorem Po {n0:Int} {nm ot:ByteArray} {ty re:Ty} {l:List Tm} {t0 t1 r0 r1:D} {a:Option Addr} {es:List D} {c:Nat} (ae:(Tm.mk 4 nm ot n0 ty re l).Is (.ag [.j 4,.t nm,.t ot,.j n0,t0,t1,r0,r1,.sl a 9 es c])) (ab:All2 Tm.Is l es) (ac:es.length<=4611686018427387904) (ah:l.length<=2) {N:Nat} {Q:QT [.ag 9,.i]} (U:∀ d N',N<=N'->((Tm.mk 4 nm ot n0 ty re l).opr l).1.Is d->Q d ((Tm.mk 4 nm ot n0 ty re l).opr l).2 N') (N':Nat) (O:N<=N') :
  xL Q N (yR nm) 2 2 0 (.ag [.j 4,.t nm,.t ot,.j n0,t0,t1,r0,r1,.sl a 9 es c]) 0 (bytes []) (bytes []) 0 0 none [] 0 0 none [] 0 none [] 0 [.j 0,.j 0] 2 N':=by
 have hl:=ab.len;refine up ab ac (λi xs=>∀ N',N<=N'->(∀ j x,j<i->l[j]?=some x->x.kd=yR nm)->xL Q N (yR nm) 2 2 i (.ag [.j 4,.t nm,.t ot,.j n0,t0,t1,r0,r1,.sl a 9 es c]) 0 (bytes []) (bytes []) 0 0 none [] 0 0 none [] 0 none [] 0 (G1 l i) 2 N') ?_ ?_ N' O (λj x h=>absurd h (by omega))
 ·intro i ai hi N' O hk;rw[VM λx Y=>by obtain⟨j,hj⟩:=oS.1 Y;exact hk j x (by have:=(oD.1 hj).1;omega) hj]at U;refine qX ⟨_,_,_,rfl,?_⟩;rw[ai];have aj:i=l.length:=by omega
  rw[aj,NW ah];refine⟨_,rfl,⟨⟨by omega,by omega,by simp⟩,by simp,_,rfl,⟨by omega,by omega,by simp⟩,by simp,_,rfl,λN2 a6=>Gp _ _ _ N2 _ λN3 a7 _=>⟨_,rfl,?_⟩⟩⟩;have J:Kt nm=true->∀ N4,N3<=N4->ACalls prog 149 [.ag 9] [.j (yC nm (l.getD 0 tm0).no (l.getD 1 tm0).no).1] N4 (λx N5=>N4<=N5->Bel N5 x->∀ N6,N5<=N6->Q x 1 N6):=λho N4 ak=>by rw[show G2 nm=2 by unfold G2;rw[if_pos ho]]at U;exact SE _ N4 _ λx N5 al Y _ _ N6 ao=>U _ _ (by omega) Y
  refine Br.str (λe1=>J (by simp[Kt,e1])) λe1=>⟨_,rfl,Br.str (λe2=>J (by simp[Kt,e2])) λe2=>⟨_,rfl,Br.str (λe3=>J (by simp[Kt,e3])) λe3 N4 ak=>?_⟩⟩
  rw[show G2 nm=3 by unfold G2;rw[if_neg (by simp[Kt,e1,e2,e3])]]at U;exact Pp _ N4 _ λx N5 al Y _ _ N6 ao=>U _ _ (by omega) Y
 ·intro i x xs I a8 aq N' O hk;have hb:=I.b;have Y:=I.r;refine qX ⟨_,_,_,rfl,?_⟩;rw[I.lt,oG,I.w];have au:l.getD i tm0=x:=by rw[oA,I.g];rfl
  cases x with
  | mk pk pn po pm pt pr pl=>
  obtain⟨u0,u1,v0,v1,a2,ba,c2,heq,bb,aw,az⟩:=Tm.is_mk.1 Y;refine⟨_,_,_,rfl,⟨by omega,by omega⟩,pk,by rw[heq];rfl,Br.bne (λax N1 bc=>?_) λhe=>⟨_,_,_,rfl,⟨by omega,by omega⟩,pm,by rw[heq];rfl,⟨by omega,by omega,by simp only[G1,oJ,oN];omega⟩,by simp only[G1,oJ,oN];omega,?_⟩⟩
  ·rw[VL I.m ax]at U;exact U _ _ (by omega) ae
  ·rw[nG];have aa:=NX (l:=l) (i:=i) (by omega);rw[au]at aa;simp only[Tm.no]at aa;rw[aa];refine aq _ O λj y hj hy=>?_;by_cases ay:j<i
   ·exact hk j y ay hy
   ·have:j=i:=by omega
    subst this;rw[I.g]at hy;rw[<-oX hy];exact he
theorem Uf {f:Nat} (hS:Tf 48 f) {n0:Int} {nm ot:ByteArray} {ty re:Ty} {l:List Tm} {d:D} (hd:(Tm.mk 4 nm ot n0 ty re l).Is d) (hF:(Tm.mk 4 nm ot n0 ty re l).F (f+1)) {r:Tm × Int} (hr:(match goS (Tm.stp f) (Tm.mk 4 nm ot n0 ty re l) l 0 with | some r=>r | none=>(Tm.mk 4 nm ot n0 ty re l).opr l)=r) :
  OL 92 [.dg 9 d] r:=λN Q hQ=>by
 have aa:=hd;obtain⟨t0,t1,r0,r1,a,es,c,rfl,hh,U,Y⟩:=Tm.is_mk.1 hd;have hl:=Y.len;have ae:l.length<=2:=by have h1:=(wC hF.ok).2.2.2.2 rfl;have h2:=Qn nm;omega
 have J:(∀ x∈l,x.res=true)->∀ N',N<=N'->xL Q N (yR nm) 2 2 0 (.ag [.j 4,.t nm,.t ot,.j n0,t0,t1,r0,r1,.sl a 9 es c]) 0 (bytes []) (bytes []) 0 0 none [] 0 0 none [] 0 none [] 0 [.j 0,.j 0] 2 N':=λab N' O=>by
  have hg:goS (Tm.stp f) (Tm.mk 4 nm ot n0 ty re l) l 0=none:=by
   have:∀(xs:List Tm) (i:Nat),(∀ x∈xs,x.res=true)->goS (Tm.stp f) (Tm.mk 4 nm ot n0 ty re l) xs i=none:=by
    intro xs
    induction xs with
    | nil=>intro i _;rfl
    | cons x xs ih=>intro i h;rw[Ea (h x (by simp))];exact ih _ λy hy=>h y (by simp[hy])
   exact this l 0 ab
  rw[hg]at hr;simp only at hr;subst hr;exact Po aa Y U ae hQ N' O
 have first:yU Q N (yR nm) 2 2 0 (.ag [.j 4,.t nm,.t ot,.j n0,t0,t1,r0,r1,.sl a 9 es c]) 0 (bytes []) (bytes []) 0 0 none [] 0 0 none [] 0 none [] 0 [.j 0,.j 0] 2 N:=by
  refine up Y U (λi xs=>∀ N',N<=N'->(∀ j x,j<i->l[j]?=some x->x.res=true)->(match goS (Tm.stp f) (Tm.mk 4 nm ot n0 ty re l) xs i with | some r=>r | none=>(Tm.mk 4 nm ot n0 ty re l).opr l)=r->yU Q N (yR nm) 2 2 i (.ag [.j 4,.t nm,.t ot,.j n0,t0,t1,r0,r1,.sl a 9 es c]) 0 (bytes []) (bytes []) 0 0 none [] 0 0 none [] 0 none [] 0 [.j 0,.j 0] 2 N') ?_ ?_ N (oC _) (λj x h=>absurd h (by omega)) hr
  ·intro i ah hi N' O hk _;refine AN ⟨_,_,_,rfl,?_⟩;rw[ah];refine J (λx hx=>?_) N' O;obtain⟨j,hj⟩:=oS.1 hx;exact hk j x (by have:=(oD.1 hj).1;omega) hj
  ·intro i x xs I al ai N' O hk he;have hb:=I.b;have aj:i<l.length:=(oD.1 I.g).1;obtain rfl:l.getD i tm0=x:=by rw[oA,I.g];rfl
   have ac:=hF.mem _ I.m;refine AN ⟨_,_,_,rfl,?_⟩;rw[I.lt,oG,I.w];refine⟨_,_,_,rfl,⟨by omega,by omega⟩,λN1 ao=>zt I.r ac.ok ac.dp N1 _ λN2 aq _=>Br.not (λhv N3 au=>?_) λhv=>?_⟩
   ·simp only[goS]at he;rw[if_neg (by rw[hv];decide)]at he;simp only at he;subst he;exact Ii hS aa hF aj N3 _ λdx N4 aw hx _ _ N5 ax=>hQ _ _ (by omega) hx
   ·rw[Ea hv]at he;refine ai _ (by omega) (λj y hj hy=>?_) he;by_cases ak:j<i
    ·exact hk j y ak hy
    ·have:j=i:=by omega
     subst this;rw[I.g]at hy;rw[<-oX hy];exact hv
 refine Lc N _ Q λ_=>⟨_,rfl,Br.str (λe1=>?_) λe1=>⟨_,rfl,Br.str (λe2=>?_) λe2=>⟨_,rfl,Br.str (λe3=>?_) λe3=>?_⟩⟩⟩
 ·have:yR nm=3:=by simp[yR,vm,e1]
  rw[this]at first;exact first
 ·have:yR nm=3:=by simp[yR,vm,e2]
  rw[this]at first;exact first
 ·have:yR nm=3:=by simp[yR,vm,e3]
  rw[this]at first;exact first
 ·have:yR nm=2:=by simp[yR,vm,e1,e2,e3]
  rw[this]at first;exact first
end Go.Proofs.YtlaniepnglheoaaGreatDoor
