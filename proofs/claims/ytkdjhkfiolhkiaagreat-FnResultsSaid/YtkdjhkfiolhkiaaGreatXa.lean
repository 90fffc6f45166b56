/- Free names, fresh names, substitution: what they are (no program in sight). -/
import Derived.Test.YtkdjhkfiolhkiaaGreatWn
import Derived.Lib.ItoaNum
import Derived.Test.YtkdjhkfiolhkiaaGreatWc
import Derived.Test.YtkdjhkfiolhkiaaGreatKu
set_option linter.unusedVariables false
set_option linter.unusedSimpArgs false
namespace Go.Proofs.YtkdjhkfiolhkiaaGreat
open Go Go.Proofs Go.Proofs.Tryz Go.IntWalk
instance decMem (s:ByteArray) (l:List ByteArray):Decidable (s∈l):=decidable_of_iff ((l.any fun x=>decide (x=s))=true) (by simp)
/-- those of a list that are new go behind -/
def dd:List ByteArray->List ByteArray->List ByteArray
 | out,[]=>out
 | out,s::l=>dd (if s∈out then out else out++[s]) l
def t4 (a b:List ByteArray):List ByteArray:=dd (dd [] a) b
def tf (names l:List ByteArray):List ByteArray:=l.filter fun s=>decide (s∉names)
theorem zOL:∀ (out a b:List ByteArray),dd out (a++b)=dd (dd out a) b
 | out,[],b=>rfl
 | out,s::a,b=>by simp only [nA,dd];exact zOL _ a b
theorem zLr:∀ (out l:List ByteArray) (x:ByteArray),x∈dd out l↔x∈out\/x∈l
 | out,[],x=>by simp [dd]
 | out,s::l,x=>by
   simp only [dd]
   rw [zLr]
   split
   ·rename_i h
    constructor
    ·rintro (h1 | h1)
     ·exact .inl h1
     ·exact .inr (by simp [h1])
    ·rintro (h1 | h1)
     ·exact .inl h1
     ·rcases oG.1 h1 with rfl | h1
      ·exact .inl h
      ·exact .inr h1
   ·simp only [oI,nJ,oG,nN,mi,or_assoc]
theorem zGs:∀ (out l:List ByteArray),(dd out l).length<=out.length+l.length
 | out,[]=>by simp [dd]
 | out,s::l=>by
   simp only [dd]
   have:=zGs (if s∈out then out else out++[s]) l
   split at this<;>simp_all<;>omega
theorem zGo {a b:List ByteArray} {x:ByteArray}:x∈t4 a b↔x∈a\/x∈b:=by
 unfold t4;rw [zLr,zLr];simp
theorem pM {n l:List ByteArray} {x:ByteArray}:x∈tf n l↔x∈l/\x∉n:=by simp [tf]
/-- different elements of a list are no more than the list has -/
theorem zMa:∀ {l m:List ByteArray},l.Nodup->(∀ x∈l,x∈m)->l.length<=m.length
 | [],m,_,_=>Nat.zero_le _
 | x::l,m,hn,hs=>by
   obtain ⟨h1,h2⟩:=nZ.1 hn
   have hx:=hs x (by simp)
   have h3:=zMa (l:=l) (m:=m.filter fun y=>decide (y≠x)) h2 fun y hy=>by
    rw [nu]
    exact ⟨hs y (by simp [hy]),by simp;exact fun hc=>h1 (hc ▸ hy)⟩
   have h4:=List.length_filter_lt_length_iff_exists (p:=fun y=>decide (y≠x)).2 ⟨x,hx,by simp⟩
   simp only [oP]
   omega
def yZ (k:Int) (n:Nat):Int:=if k=6/\n=1 then 0 else if k=8/\n=2 then 1 else if k=9/\n=1 then 0 else -1
def bdN (k:Int) (nm ot:ByteArray) (n:Nat):List ByteArray:=if k=6/\n=1 then [nm] else if k=8/\n=2 then [nm] else if k=9/\n=1 then [nm,ot] else []
theorem zAO (k:Int) (nm ot:ByteArray) (n:Nat):(bdN k nm ot n).length<=2:=by unfold bdN;(repeat' split)<;>simp
theorem vF (k:Int) (n:Nat):yZ k n = -1\/(yZ k n=0/\n=1/\(k=6\/k=9))\/(yZ k n=1/\n=2/\k=8):=by
 unfold yZ;(repeat' split)<;>simp_all
mutual
def Tm.fv:Tm->List ByteArray
 | .mk k nm ot _ _ _ l=>if k=1 then [nm] else tX l (yZ k l.length) (bdN k nm ot l.length) 0 []
def tX:List Tm->Int->List ByteArray->Nat->List ByteArray->List ByteArray
 | [],_,_,_,out=>out
 | x::xs,at_,ns,i,out=>tX xs at_ ns (i+1) (t4 out (if (i:Int)=at_ then tf ns x.fv else x.fv))
end
/-- the free names of the part at a place -/
def fvI (at_:Int) (ns:List ByteArray) (i:Nat) (x:Tm):List ByteArray:=if (i:Int)=at_ then tf ns x.fv else x.fv
theorem zHW:∀ (l:List Tm) (at_:Int) (ns:List ByteArray) (i:Nat) (out:List ByteArray) (s:ByteArray),s∈tX l at_ ns i out↔s∈out\/∃ (j:Nat) (x:Tm),l[j]?=some x/\s∈fvI at_ ns (i+j) x
 | [],_,_,_,out,s=>by simp [tX]
 | y :: l,at_,ns,i,out,s=>by
   simp only [tX]
   rw [zHW,zGo]
   constructor
   ·rintro ((h | h) | ⟨j,x,h1,h2⟩)
    ·exact .inl h
    ·exact .inr ⟨0,y,rfl,h⟩
    ·exact .inr ⟨j+1,x,by simpa using h1,by rw [show i+(j+1)=i+1+j by omega];exact h2⟩
   ·rintro (h | ⟨j,x,h1,h2⟩)
    ·exact .inl (.inl h)
    ·cases j with
     | zero=>simp at h1;subst h1;exact .inl (.inr h2)
     | succ j=>exact .inr ⟨j,x,by simpa using h1,by rw [show i+1+j=i+(j+1) by omega];exact h2⟩
theorem Tm.fv_mem {k:Int} {nm ot:ByteArray} {n:Int} {ty re:Ty} {l:List Tm} {s:ByteArray}:s∈(Tm.mk k nm ot n ty re l).fv↔(k=1/\s=nm)\/(k≠1/\∃ (j:Nat) (x:Tm),l[j]?=some x/\s∈fvI (yZ k l.length) (bdN k nm ot l.length) j x):=by
 simp only [Tm.fv]
 by_cases hk:k=1
 ·simp [hk]
 ·rw [if_neg hk,zHW];simp [hk]
def vg (k:Nat):ByteArray:=⟨(118::Lib.decDigits k).toArray⟩
theorem zOm:∀ (a b:Nat),Lib.decDigits a=Lib.decDigits b->a=b:=by
 intro a
 have hn:∀ u,(Lib.decDigits u).length=Lib.nDigits u:=Lib.decDigits_length
 have e1:∀ u,u<10->Lib.decDigits u=[UInt8.ofNat (48+u)]:=fun u h=>by rw [Lib.decDigits,dif_pos h]
 have e2:∀ u,¬u<10->Lib.decDigits u=Lib.decDigits (u / 10)++[UInt8.ofNat (48+u % 10)]:=fun u h=>by rw [Lib.decDigits,dif_neg h]
 have u8:∀ x y:Nat,x<10->y<10->UInt8.ofNat (48+x)=UInt8.ofNat (48+y)->x=y:=fun x y hx hy h=>by
  have:=mU UInt8.toNat h
  simp only [UInt8.toNat_ofNat'] at this
  omega
 induction a using Nat.strongRecOn with
 | _ a ih=>
   intro b h
   have hl:=mU List.length h
   rw [hn,hn] at hl
   by_cases ha:a<10
   ·rw [Lib.nDigits_small ha] at hl
    have hb:b<10:=by
     refine my fun hc=>?_
     rw [Lib.nDigits_big (by omega)] at hl
     have:=Lib.nDigits_pos (b / 10)
     omega
    rw [e1 a ha,e1 b hb] at h
    exact u8 a b ha hb (by simpa using h)
   ·have hb:¬b<10:=fun hc=>by
     rw [Lib.nDigits_big ha,Lib.nDigits_small hc] at hl
     have:=Lib.nDigits_pos (a / 10)
     omega
    rw [e2 a ha,e2 b hb] at h
    obtain ⟨h1,h2⟩:=List.append_inj' h rfl
    have:=ih (a / 10) (by omega) (b / 10) h1
    have:=u8 (a % 10) (b % 10) (by omega) (by omega) (by simpa using h2)
    omega
theorem zKo {a b:Nat} (h:vg a=vg b):a=b:=by
 have:(118::Lib.decDigits a:List UInt8)=118::Lib.decDigits b:=by
  have:=mU (fun x:ByteArray=>x.data.toList) h
  simpa [vg] using this
 exact zOm a b (by simpa using this)
def sJ:Nat->Nat->List ByteArray->Nat
 | 0,k,_=>k
 | f+1,k,l=>if vg k∈l then sJ f (k+1) l else k
def fresh (l:List ByteArray):ByteArray:=vg (sJ l.length 1 l)
theorem zM0:∀ (n k:Nat),((List.range n).map fun i=>vg (k+i)).Nodup:=fun n k=>by
 rw [List.nodup_iff_pairwise_ne,List.pairwise_map]
 refine List.Pairwise.imp (fun {a b} h hc=>?_) (List.nodup_iff_pairwise_ne.1 List.nodup_range)
 have:=zKo hc
 omega
theorem zOj (l:List ByteArray) (k:Nat) (h:∀ j,1<=j->j<k->vg j∈l) (hk:1<=k):k<=l.length+1:=by
 have:=zMa (zM0 (k - 1) 1) (m:=l) fun x hx=>by
  obtain ⟨i,hi,rfl⟩:=oQ.1 hx
  rw [List.mem_range] at hi
  exact h _ (by omega) (by omega)
 simp at this
 omega
theorem zB2 (l:List ByteArray):∀ (f k:Nat),1<=k->k+f=l.length+1->(∀ j,1<=j->j<k->vg j∈l)->1<=sJ f k l/\sJ f k l<=l.length+1/\vg (sJ f k l)∉l/\∀ j,1<=j->j<sJ f k l->vg j∈l
 | 0,k,h1,h2,h3=>by
   simp only [sJ]
   refine ⟨h1,by omega,fun hc=>?_,h3⟩
   have:=zOj l (k+1) (fun j h4 h5=>by
    by_cases h6:j=k
    ·subst h6;exact hc
    ·exact h3 j h4 (by omega)) (by omega)
   omega
 | f + 1,k,h1,h2,h3=>by
   simp only [sJ]
   split
   ·rename_i hm
    exact zB2 l f (k+1) (by omega) (by omega) fun j h4 h5=>by
     by_cases h6:j=k
     ·subst h6;exact hm
     ·exact h3 j h4 (by omega)
   ·rename_i hm
    exact ⟨h1,by omega,hm,h3⟩
theorem uT (l:List ByteArray):∃ k,fresh l=vg k/\1<=k/\k<=l.length+1/\vg k∉l/\∀ j,1<=j->j<k->vg j∈l:=by
 obtain ⟨h1,h2,h3,h4⟩:=zB2 l l.length 1 (oD _) (by omega) fun j h1 h2=>by omega
 exact ⟨_,rfl,h1,h2,h3,h4⟩
theorem zCH (l:List ByteArray):fresh l∉l:=by
 obtain ⟨k,h,_,_,h3,_⟩:=uT l
 rw [h];exact h3
theorem zNe {l m:List ByteArray} (h:∀ x,x∈l↔x∈m):fresh l=fresh m:=by
 obtain ⟨k,e1,a1,a2,a3,a4⟩:=uT l
 obtain ⟨j,e2,b1,b2,b3,b4⟩:=uT m
 rw [e1,e2]
 congr 1
 refine Nat.le_antisymm (Nat.le_of_not_lt fun hc=>?_) (Nat.le_of_not_lt fun hc=>?_)
 ·exact b3 ((h _).1 (a4 j b1 hc))
 ·exact a3 ((h _).2 (b4 k a1 hc))
def tm0:Tm:=.mk 0 (bytes []) (bytes []) 0 (.mk 0 []) (.mk 0 []) []
def zCX (s:ByteArray):Tm:=.mk 1 s (bytes []) 0 (.mk 0 []) (.mk 0 []) []
/-- one name that a node binds, away from others -/
def rn1 (S:Tm->ByteArray->Tm->Tm) (k:Int) (n:Nat) (fb:List ByteArray) (x old:ByteArray) (s:ByteArray × ByteArray × Tm):ByteArray × ByteArray × Tm:=
 if old∈fb then
  (if s.1=old then (fresh (fb++(s.2.2.fv++([x]++bdN k s.1 s.2.1 n))),s.2.1,S s.2.2 old (zCX (fresh (fb++(s.2.2.fv++([x]++bdN k s.1 s.2.1 n))))))
   else (s.1,fresh (fb++(s.2.2.fv++([x]++bdN k s.1 s.2.1 n))),S s.2.2 old (zCX (fresh (fb++(s.2.2.fv++([x]++bdN k s.1 s.2.1 n)))))))
 else s
def rns (S:Tm->ByteArray->Tm->Tm) (k:Int) (n:Nat) (fb:List ByteArray) (x:ByteArray):List ByteArray->ByteArray × ByteArray × Tm->ByteArray × ByteArray × Tm
 | [],s=>s
 | old::l,s=>rns S k n fb x l (rn1 S k n fb x old s)
def Tm.sub:Nat->Tm->ByteArray->Tm->Tm
 | 0,e,_,_=>e
 | f + 1,.mk k nm ot n ty re l,x,b=>
   if k=1 then (if nm=x then b else .mk k nm ot n ty re l)
   else if yZ k l.length<0 then .mk k nm ot n ty re (l.map fun t=>Tm.sub f t x b)
   else if x∈bdN k nm ot l.length\/x∉(l.getD (yZ k l.length).toNat tm0).fv then
    .mk k nm ot n ty re ((l.map fun t=>Tm.sub f t x b).set (yZ k l.length).toNat (l.getD (yZ k l.length).toNat tm0))
   else
    .mk k (rns (Tm.sub f) k l.length b.fv x (bdN k nm ot l.length) (nm,ot,l.getD (yZ k l.length).toNat tm0)).1
     (rns (Tm.sub f) k l.length b.fv x (bdN k nm ot l.length) (nm,ot,l.getD (yZ k l.length).toNat tm0)).2.1 n ty re
     ((l.map fun t=>Tm.sub f t x b).set (yZ k l.length).toNat (Tm.sub f (rns (Tm.sub f) k l.length b.fv x (bdN k nm ot l.length) (nm,ot,l.getD (yZ k l.length).toNat tm0)).2.2 x b))
theorem wx {k:Int} {n:Nat} (h:¬yZ k n<0):(yZ k n).toNat<n/\((yZ k n).toNat:Int)=yZ k n:=by
 rcases vF k n with h1 | ⟨h1,h2,_⟩ | ⟨h1,h2,_⟩
 ·omega
 ·rw [h1];subst h2;exact ⟨by decide,rfl⟩
 ·rw [h1];subst h2;exact ⟨by decide,rfl⟩
theorem zo {l:List Tm} {i:Nat} (h:i<l.length):l[i]?=some (l.getD i tm0):=by
 rw [oA,oF h];rfl
/-- where a name is not free, nothing is put -/
theorem zOh:∀ (f:Nat) (e:Tm) (x:ByteArray) (b:Tm),x∉e.fv->e.sub f x b=e
 | 0,e,x,b,_=>rfl
 | f + 1,.mk k nm ot n ty re l,x,b,h=>by
   rw [Tm.fv_mem] at h
   simp only [not_or,not_and,not_exists] at h
   obtain ⟨h1,h2⟩:=h
   simp only [Tm.sub]
   have part:k≠1->∀ (j:Nat) (y:Tm),l[j]?=some y->(j:Int)≠yZ k l.length->y.sub f x b=y:=fun hk j y hj hne=>by
    refine zOh f y x b fun hc=>?_
    have:=h2 hk j y hj
    unfold fvI at this
    rw [if_neg hne] at this
    exact this hc
   split
   ·rename_i hk
    rw [if_neg (fun hc=>h1 hk hc.symm)]
   ·rename_i hk
    split
    ·rename_i hb
     congr 1
     refine (ow fun y hy=>?_).trans (List.map_id l)
     obtain ⟨j,hj⟩:=oN.1 hy
     exact part hk j y hj (by omega)
    ·rename_i hb
     obtain ⟨g1,g2⟩:=wx hb
     split
     ·congr 1
      apply o7
      intro i
      rw [nC]
      split
      ·rename_i hi
       subst hi
       rw [if_pos (by simpa using g1),zo g1]
      ·rename_i hi
       rw [oE]
       cases hl:l[i]? with
       | none=>rfl
       | some y=>
         simp only [oc]
         rw [part hk i y hl (by omega)]
     ·rename_i hc
      exfalso
      simp only [not_or,mC] at hc
      have:=h2 hk _ _ (zo g1)
      unfold fvI at this
      rw [if_pos g2,pM] at this
      exact this ⟨hc.2,hc.1⟩
mutual
/-- types and rows of a term are not too long -/
def Tm.G:Tm->Prop
 | .mk _ _ _ _ ty re l=>ty.cnt<=1073741824/\re.cnt<=1073741824/\l.length<=1073741824/\zJa l
def zJa:List Tm->Prop
 | []=>True
 | t::ts=>t.G/\zJa ts
end
theorem yF:∀ {l:List Tm} {x:Tm},zJa l->x∈l->x.G
 | t::ts,x,h,hx=>by
   rcases oG.1 hx with rfl | hx
   ·exact h.1
   ·exact yF h.2 hx
theorem zDJ:∀ {l:List Tm},(∀ x∈l,x.G)->zJa l
 | [],_=>trivial
 | t::ts,h=>⟨h t (by simp),zDJ fun x hx=>h x (by simp [hx])⟩
mutual
theorem Tm.G_cnt:∀ t:Tm,t.cnt<=1073741824->t.G
 | .mk _ _ _ _ ty re l,h=>by
   simp only [Tm.cnt] at h
   have:=vY l
   exact ⟨by omega,by omega,by omega,zJP l (by omega)⟩
theorem zJP:∀ l:List Tm,zI l<=1073741824->zJa l
 | [],_=>trivial
 | t::ts,h=>by
   simp only [zI] at h
   exact ⟨Tm.G_cnt t (by omega),zJP ts (by omega)⟩
end
/-- the cells of a term that was made anew, and nothing else -/
def zAy (t:Tm) (N:Nat) (Q:QT [.pk,.int .i64,.str,.str,.int .i64,.dc,.dc,.dc,.dc,.row 30 9]):Prop:=
 match t with | .mk k nm ot n ty re l=>∀ x4 x5 x6 x7 es' c' N',N<=N'->Tm.Hd nm ot ty re x4 x5 x6 x7->All2 Tm.Is l es'->OwnL N N' ([x4,x5,x6,x7]++es')->Q k nm ot n x4 x5 x6 x7 es' c' N'
theorem r5 {N N3:Nat} {a:Option Addr} {ds:List D} {es:List D} (hf:Fresh N N3 a ds) (h:∀ b,b∈zE es->∃ d∈ds,b∈d.foot):∀ ad,a=some ad->ad.block∉zE es:=fun ad ha hc=>by
 obtain ⟨d,hd,hb⟩:=h _ hc
 exact hf.ap ad ha d hd hb
theorem uu:∀ (t:Tm) (d:D),t.Is d->t.G->∀ (N:Nat) (Q:QT [.pk,.int .i64,.str,.str,.int .i64,.dc,.dc,.dc,.dc,.row 30 9]),zAy t N Q ->
  ACalls prog 124 [.pk,.int .i64,.str,.str,.int .i64,.dc,.dc,.dc,.dc,.row 30 9] [.dg 9 d] N Q:=by
 refine Tm.ind fun k nm ot n0 ty re l ih d hd hG N Q hQ=>?_
 obtain ⟨t0,t1,r0,r1,a,es,c,rfl,hh,hlen,hes⟩:=Tm.is_mk.1 hd
 have hl:=hes.len
 obtain ⟨g1,g2,g3,g4⟩:=hG
 simp only [zAy] at hQ
 refine qf N _ Q fun _=>?_
 repeat' first|with_reducible intro _|simp only[Y1,Y2,Y3,Y4]|with_reducible refine X ?_ ?_|refine⟨_,_,_,rfl,?_⟩|refine⟨_,rfl,?_⟩|refine And.intro (by first|omega|trivial|(show _=_;rfl)|(with_reducible constructor)<;>first|omega|trivial|rfl) ?_|refine (zR _ _ hh.ty g1) _ _ ?_|refine (zR _ _ hh.re g2) _ _ ?_|fail
 rename_i N1 hN1 x1 N2 hN2 hx hox _ _ N3 hN3 y N4 hN4 hy hoy _ _
 have hHd:Tm.Hd nm ot ty re (x1.cell 0) (x1.cell 1) (y.cell 0) (y.cell 1):=⟨hh.nm,hh.ot,Ty.is_cells hx,Ty.is_cells hy⟩
 have hOX:OwnL N N4 ([x1.cell 0,x1.cell 1,y.cell 0,y.cell 1]++[]):=by
  have h:=wb ((uQ hx hox).mono hN1 (oD _)) ((uQ hy hoy).mono hN3 (oD _)) (by omega) (by omega)
  exact h
 refine up hes hlen (fun i xs=>∀ (done:List D) (q N':Nat),N4<=N'->All2 Tm.Is (l.take i) done->done.length=i->OwnL N N' ([x1.cell 0,x1.cell 1,y.cell 0,y.cell 1]++done) ->
  yz Q N i (.ag [.lit (.int .i64 k),.lit (.string nm),.lit (.string ot),.lit (.int .i64 n0),t0,t1,r0,r1,.sl a 9 es c]) 0 (bytes []) (bytes []) 0 0 none [] 0 0 none [] 0 none [] 0 k nm ot n0 (x1.cell 0) (x1.cell 1) (y.cell 0) (y.cell 1) done.length q done q N') ?_ ?_ [] 0 N4 (oD _) rfl rfl hOX
 ·intro i hlt hi done q N' hN' hd hdl ho
  refine wF _ _ _ _ _ _ _ _ _ _ _ _ _ _ _ _ _ _ _ _ _ _ _ _ _ _ _ _ _ _ _ _ ⟨_,_,_,rfl,?_⟩
  rw [nB (by omega)] at hd
  rw [hlt]
  exact ⟨⟨rfl,rfl⟩,fun N5 hN5=>hQ _ _ _ _ _ _ _ (by omega) hHd hd (ho.mono (oD _) hN5)⟩
 ·intro i x xs hat _ ih2 done q N' hN' hd hdl ho
  have hb:=hat.b
  have hxG:=yF g4 hat.m
  refine wF _ _ _ _ _ _ _ _ _ _ _ _ _ _ _ _ _ _ _ _ _ _ _ _ _ _ _ _ _ _ _ _ ⟨_,_,_,rfl,?_⟩
  rw [hat.lt]
  refine ⟨_,_,_,rfl,⟨by omega,by omega⟩,fun N5 hN5=>?_⟩
  rw [oJ,hat.w]
  refine ih x hat.m _ hat.r hxG _ _ ?_
  cases x with
  | mk k2 nm2 ot2 n2 ty2 re2 l2=>
    intro x4 x5 x6 x7 es2 c2 N6 hN6 hh2 hes2 ho2 _ _
    have hl2:=hes2.len
    have hg2:=hxG.2.2.1
    refine ⟨⟨rfl,rfl⟩,fun a2 N7 hN7 hf=>⟨⟨rfl,rfl⟩,by unfold zB;rw [oH];simp only [oP,od];omega,fun c3=>?_⟩⟩
    refine ih2 _ _ _ (by omega) (by rw [wt hat.g];exact hd.snoc (Tm.is_mk.2 ⟨_,_,_,_,_,_,_,rfl,hh2,by omega,hes2⟩)) (by simp [hdl]) ?_
    refine zJV (hd:=[x1.cell 0,x1.cell 1,y.cell 0,y.cell 1]) (xs:=[x4,x5,x6,x7]) (ho.mono (oD _) hN5) ho2 hf (by omega) (by omega) (by omega) (r5 hf fun b hb=>?_) (r5 hf fun b hb=>?_)
    ·simp only [nA,oZ,zE,oI] at hb
     rcases hb with hb | hb | hb | hb | hb
     ·exact ⟨_,by simp,hb⟩
     ·exact ⟨x1.cell 1,by simp,hb⟩
     ·exact ⟨y.cell 0,by simp,hb⟩
     ·exact ⟨y.cell 1,by simp,hb⟩
     ·exact ⟨.ag done,by simp,by simpa only [D.foot] using hb⟩
    ·simp only [nA,oZ,zE,oI] at hb
     rcases hb with hb | hb | hb | hb | hb
     ·exact ⟨x4,by simp,hb⟩
     ·exact ⟨x5,by simp,hb⟩
     ·exact ⟨x6,by simp,hb⟩
     ·exact ⟨x7,by simp,hb⟩
     ·exact ⟨.ag es2,by simp,by simpa only [D.foot] using hb⟩
/-- a term's head anew; its parts are those handed in, and come back -/
theorem zPG {k:Int} {nm ot:ByteArray} {n0:Int} {ty re:Ty} {t0 t1 r0 r1 x:D} (hh:Tm.Hd nm ot ty re t0 t1 r0 r1) (h1:ty.cnt<=1073741824) (h2:re.cnt<=1073741824) (a:Option Addr) (es:List D) (c:Nat) (N:Nat)
  (Q:QT [.pk,.int .i64,.str,.str,.int .i64,.dc,.dc,.dc,.dc,.bk 1]) (hQ:∀ x4 x5 x6 x7 N',N<=N'->Tm.Hd nm ot ty re x4 x5 x6 x7->OwnL N N' [x4,x5,x6,x7]->Q k nm ot n0 x4 x5 x6 x7 (.sl a 9 es c) N') :
  ACalls prog 198 [.pk,.int .i64,.str,.str,.int .i64,.dc,.dc,.dc,.dc,.bk 1] [.dg 9 (.ag [.lit (.int .i64 k),.lit (.string nm),.lit (.string ot),.lit (.int .i64 n0),t0,t1,r0,r1,x]),.sv a 9 es c] N Q:=by
 refine zAz N _ a es c Q fun _ _=>?_
 repeat' first|with_reducible intro _|simp only[Y1,Y2,Y3,Y4]|with_reducible refine X ?_ ?_|refine⟨_,_,_,rfl,?_⟩|refine⟨_,rfl,?_⟩|refine And.intro (by first|omega|trivial|(show _=_;rfl)|(with_reducible constructor)<;>first|omega|trivial|rfl) ?_|refine (zQJ _ _ hh.ty h1) _ _ ?_|refine (zQJ _ _ hh.re h2) _ _ ?_|fail
 rename_i N1 hN1 x1 N2 hN2 hx hox _ _ N3 hN3 y N4 hN4 hy hoy _ _ N5 hN5
 refine hQ _ _ _ _ _ (by omega) ⟨hh.nm,hh.ot,Ty.is_cells hx,Ty.is_cells hy⟩ ?_
 exact wb ((uQ hx hox).mono hN1 (oD _)) ((uQ hy hoy).mono hN3 hN5) (by omega) (by omega)
theorem zOV:∀ (t:Tm) (d:D),t.Is d->t.G->∀ (N:Nat) (Q:QT [.pk,.int .i64,.str,.str,.int .i64,.dc,.dc,.dc,.dc,.row 30 9]),zAy t N Q ->
  ACalls prog 121 [.pk,.int .i64,.str,.str,.int .i64,.dc,.dc,.dc,.dc,.row 30 9] [.dg 9 d] N Q:=by
 refine Tm.ind fun k nm ot n0 ty re l ih d hd hG N Q hQ=>?_
 obtain ⟨t0,t1,r0,r1,a,es,c,rfl,hh,hlen,hes⟩:=Tm.is_mk.1 hd
 have hl:=hes.len
 obtain ⟨g1,g2,g3,g4⟩:=hG
 simp only [zAy] at hQ
 refine zBi N _ Q fun _ N1 hN1=>?_
 refine sI N1 _ _ fun _=>⟨_,_,_,rfl,?_⟩
 refine up hes hlen (fun i xs=>∀ (done:List D) (q N':Nat),N1<=N'->All2 Tm.Is (l.take i) done->done.length=i->OwnL N1 N' done ->
  yN _ N1 done.length q a es c es.length i (.ag [.lit (.int .i64 k),.lit (.string nm),.lit (.string ot),.lit (.int .i64 n0),t0,t1,r0,r1,.sl a 9 es c]) 0 (bytes []) (bytes []) 0 0 none [] 0 0 none [] 0 none [] 0 done q N') ?_ ?_ [] 0 N1 (oD _) rfl rfl zJZ
 ·intro i hlt hi done q N' hN' hd hdl ho
  refine w7 _ _ _ _ _ _ _ _ _ _ _ _ _ _ _ _ _ _ _ _ _ _ _ _ _ _ _ _ ?_
  rw [nB (by omega)] at hd
  rw [hlt]
  refine ⟨⟨rfl,rfl⟩,fun a1 hap _ N4 hN4 hbel=>?_⟩
  refine zPG hh g1 g2 a1 done q N4 _ fun x4 x5 x6 x7 N5 hN5 hh5 ho5 _=>⟨rfl,?_⟩
  have off:∀ y∈[x4,x5,x6,x7],Off [a1] y:=fun y hy a' ha' ad had hc=>by
   have h1:=hbel a' ha' ad had
   have h2:=ho5.lo _ (zG.2 ⟨y,hy,hc⟩)
   omega
  refine ⟨off x4 (by simp),off x5 (by simp),off x6 (by simp),off x7 (by simp),⟨rfl,rfl⟩,fun N6 hN6 _ _=>⟨⟨rfl,rfl⟩,fun N7 hN7=>?_⟩⟩
  exact hQ _ _ _ _ _ _ _ (by omega) hh5 hd (zGy (N1:=N4) (ho5.mono (oD _) (by omega)) (ho.mono hN1 hN4) (by omega) (by omega))
 ·intro i x xs hat _ ih2 done q N' hN' hd hdl ho
  have hb:=hat.b
  have hxG:=yF g4 hat.m
  refine w7 _ _ _ _ _ _ _ _ _ _ _ _ _ _ _ _ _ _ _ _ _ _ _ _ _ _ _ _ ?_
  rw [hat.lt]
  refine ⟨⟨by omega,by omega⟩,fun N5 hN5=>?_⟩
  rw [oJ,hat.w]
  refine ih x hat.m _ hat.r hxG _ _ ?_
  cases x with
  | mk k2 nm2 ot2 n2 ty2 re2 l2=>
    intro x4 x5 x6 x7 es2 c2 N6 hN6 hh2 hes2 ho2 _ _
    have hl2:=hes2.len
    have hg2:=hxG.2.2.1
    refine ⟨⟨rfl,rfl⟩,fun a2 N7 hN7 hf=>⟨⟨rfl,rfl⟩,by unfold zB;rw [oH];simp only [oP,od];omega,fun c3=>?_⟩⟩
    refine ih2 _ _ _ (by omega) (by rw [wt hat.g];exact hd.snoc (Tm.is_mk.2 ⟨_,_,_,_,_,_,_,rfl,hh2,by omega,hes2⟩)) (by simp [hdl]) ?_
    refine zJV (hd:=[]) (xs:=[x4,x5,x6,x7]) (ho.mono (oD _) hN5) ho2 hf (by omega) (by omega) (by omega) (r5 hf fun b hb=>?_) (r5 hf fun b hb=>?_)
    ·exact ⟨.ag done,by simp,by simpa only [D.foot,oZ] using hb⟩
    ·simp only [nA,oZ,zE,oI] at hb
     rcases hb with hb | hb | hb | hb | hb
     ·exact ⟨x4,by simp,hb⟩
     ·exact ⟨x5,by simp,hb⟩
     ·exact ⟨x6,by simp,hb⟩
     ·exact ⟨x7,by simp,hb⟩
     ·exact ⟨.ag es2,by simp,by simpa only [D.foot] using hb⟩
theorem uY:∀ l:List ByteArray,zE (zA l)=[]
 | []=>rfl
 | s::l=>by have:=uY l;simp only [zA,o6,zE,D.foot,oZ] at this ⊢;exact this
theorem zEK:∀ l:List ByteArray,xQ (zA l)
 | []=>trivial
 | s::l=>⟨trivial,zEK l⟩
theorem zKO {N N':Nat} (l:List ByteArray):OwnL N N' (zA l):=⟨by rw [uY];exact mL,zEK l,by rw [uY];simp,by rw [uY];simp⟩
theorem xq {N N' M:Nat} {a:Option Addr} {l:List ByteArray} {c:Nat} {ds:List D} (hf:Fresh N N' a (.ag (zA l)::ds)) (h:N'<=M):Own N M (.sl a 0 (zA l) c):=(zEN (N1:=N') (zKO l) hf (oD _)).mono (oD _) h
theorem zCf {bs:List (Option Addr)} (l:List ByteArray):Off bs (.ag (zA l)):=fun a _ ad _ hc=>by simp only [D.foot,uY] at hc;simp at hc
/-- names, handed back as a row of their own -/
def zO1 (f:FuncId) (args:List PV) (l:List ByteArray):Prop:=∀ (N:Nat) (Q:QT [.sl 0]),(∀ a c N',N<=N'->Own N N' (.sl a 0 (zA l) c)->Q a (zA l) c N')->ACalls prog f [.sl 0] args N Q
def zO4 (f:FuncId) (args:List PV) (l:List ByteArray):Prop:=∀ (N:Nat) (Q:QT [.row 9 0]),(∀ c N',N<=N'->Q (zA l) c N')->ACalls prog f [.row 9 0] args N Q
theorem qJ {l:List ByteArray} {s:ByteArray} (h:l.length<=8796093022207):zB (zA l) [.lit (.string s)] 16:=by
 unfold zB;rw [oH,zH];simp only [oP,od];omega
theorem zGE (l:List ByteArray) (hl:l.length<=2199023255552) (a:Option Addr) (c:Nat) (s:ByteArray):zO1 77 [.sv a 0 (zA l) c,.str s] (l.filter fun x=>decide (x≠s)):=fun N Q hQ=>by
 have hes:=yx l
 have hlen:(zA l).length<=4611686018427387904:=by rw [zH];omega
 refine qD N a _ c s Q fun _=>?_
 refine up hes hlen (fun i xs=>∀ (done:List ByteArray) (q N':Nat),N<=N'->done.length<=i->i<=l.length->done++xs.filter (fun x=>decide (x≠s))=l.filter (fun x=>decide (x≠s)) ->
  zw Q N a (zA l) c s (zA done).length q i (zA done) q N') ?_ ?_ [] 0 N (oD _) (by simp) (by omega) rfl
 ·intro i hlt hi done q N' hN' hdl hil hd
  refine w6 _ _ _ _ _ _ _ _ _ _ _ _ ?_
  rw [hlt]
  rw [List.filter_nil,nW] at hd
  subst hd
  exact ⟨⟨rfl,rfl⟩,⟨rfl,rfl⟩,⟨rfl,rfl⟩,fun a1 N1 hN1 hf N2 hN2=>hQ _ _ _ (by omega) (xq hf hN2)⟩
 ·intro i x xs hat _ ih2 done q N' hN' hdl hil hd
  have hb:=hat.b
  have hr:=hat.r
  have hlw:=zH l
  refine w6 _ _ _ _ _ _ _ _ _ _ _ _ ?_
  rw [hat.lt,oJ,hr,hat.w]
  refine ⟨⟨by omega,by omega⟩,_,rfl,Br.nstr (fun h=>⟨⟨by omega,by omega⟩,_,rfl,⟨rfl,rfl⟩,qJ (by omega),fun c1=>?_⟩) fun h=>?_⟩
  ·rw [wX]
   refine ih2 _ _ _ hN' (by simp;omega) (by omega) ?_
   rw [<-hd]
   simp [List.filter_cons,h]
  ·refine ih2 _ _ _ hN' (by omega) (by omega) ?_
   rw [<-hd]
   simp [List.filter_cons,h]
theorem zCW (s:ByteArray) (l:List ByteArray):decide (zBQ (fun x=>decide (x=s)) l 0<0)=decide (s∉l):=by
 have h:=qU (fun x=>decide (x=s)) l 0 (by omega)
 rw [mE,mA,mA]
 have h2:(decide (zBQ (fun x=>decide (x=s)) l 0≥0)=true)↔(l.any fun x=>decide (x=s))=true:=by rw [h]
 rw [mA] at h2
 simp only [List.any_eq_true,nP,exists_eq_right] at h2
 constructor
 ·intro h3 h4;have:=h2.2 h4;omega
 ·intro h3;exact Int.not_le.1 fun h4=>h3 (h2.1 h4)
theorem p7 {out xs:List ByteArray} {x:ByteArray}:dd out (x::xs)=dd (if x∈out then out else out++[x]) xs:=rfl
theorem zH1 {out:List ByteArray} {x:ByteArray}:(if x∈out then out else out++[x]).length<=out.length+1:=by split<;>simp
theorem uS (l m:List ByteArray) (hl:l.length<=2199023255552) (hm:m.length<=2199023255552) (a b:Option Addr) (c c':Nat):zO4 78 [.sv a 0 (zA l) c,.sv b 0 (zA m) c'] (t4 l m):=fun N Q hQ=>by
 have hes:=yx l
 have hlen:(zA l).length<=4611686018427387904:=by rw [zH];omega
 have hms:=yx m
 have hmen:(zA m).length<=4611686018427387904:=by rw [zH];omega
 have hlw:=zH l
 have hmw:=zH m
 refine pu N a _ c b _ c' Q fun _ _=>?_
 have second:∀ (done:List ByteArray) (q N':Nat),N<=N'->done.length<=l.length->done=dd [] l->zj Q N b (zA m) c' (zA done).length q 0 (zA done) q N':=fun done0 q0 N0 hN0 hdl0 hd0=>
  up hms hmen (fun i xs=>∀ (done:List ByteArray) (q N':Nat),N<=N'->done.length<=l.length+i->dd done xs=t4 l m->zj Q N b (zA m) c' (zA done).length q i (zA done) q N')
   (fun i hlt hi done q N' hN' hdl hd=>by
    refine vT _ _ _ _ _ _ _ _ _ _ _ ?_
    rw [hlt]
    simp only [dd] at hd
    subst hd
    exact ⟨⟨rfl,rfl⟩,fun N2 hN2=>hQ _ _ (by omega)⟩)
   (fun i x xs hat _ ih2 done q N' hN' hdl hd=>by
    have hb:=hat.b
    have hr:=hat.r
    have hdl2:=zH1 (out:=done) (x:=x)
    refine vT _ _ _ _ _ _ _ _ _ _ _ ?_
    rw [hat.lt,oJ,hr,hat.w]
    refine ⟨⟨by omega,by omega⟩,_,rfl,⟨rfl,rfl⟩,fun a1 _ N1 hN1 _=>yg done (by omega) a1 q x N1 _ fun N2 hN2 hle2=>?_⟩
    rw [zCW]
    refine Br.dec (fun h=>⟨⟨by omega,by omega⟩,_,rfl,⟨rfl,rfl⟩,qJ (by omega),fun c1=>?_⟩) fun h=>?_
    ·rw [wX]
     rw [if_neg h] at hdl2
     refine ih2 _ _ _ (by omega) (by omega) ?_
     rw [<-hd,p7,if_neg h]
    ·refine ih2 _ _ _ (by omega) (by omega) ?_
     rw [<-hd,p7,if_pos (mC.1 h)]) done0 q0 N0 hN0 (by omega) (by rw [hd0];rfl)
 refine up hes hlen (fun i xs=>∀ (done:List ByteArray) (q N':Nat),N<=N'->done.length<=i->dd done xs=dd [] l ->
  yD Q N a (zA l) c b (zA m) c' (zA done).length q i (zA done) q N') ?_ ?_ [] 0 N (oD _) (by simp) rfl
 ·intro i hlt hi done q N' hN' hdl hd
  refine vV _ _ _ _ _ _ _ _ _ _ _ _ _ _ ?_
  rw [hlt]
  exact second done q N' hN' (by omega) hd
 ·intro i x xs hat _ ih2 done q N' hN' hdl hd
  have hb:=hat.b
  have hr:=hat.r
  have hdl2:=zH1 (out:=done) (x:=x)
  refine vV _ _ _ _ _ _ _ _ _ _ _ _ _ _ ?_
  rw [hat.lt,oJ,hr,hat.w]
  refine ⟨⟨by omega,by omega⟩,_,rfl,⟨rfl,rfl⟩,fun a1 _ N1 hN1 _=>yg done (by omega) a1 q x N1 _ fun N2 hN2 hle2=>?_⟩
  rw [zCW]
  refine Br.dec (fun h=>⟨⟨by omega,by omega⟩,_,rfl,⟨rfl,rfl⟩,qJ (by omega),fun c1=>?_⟩) fun h=>?_
  ·rw [wX]
   rw [if_neg h] at hdl2
   refine ih2 _ _ _ (by omega) (by omega) ?_
   rw [<-hd,p7,if_neg h]
  ·refine ih2 _ _ _ (by omega) (by omega) ?_
   rw [<-hd,p7,if_pos (mC.1 h)]
theorem zNo {N N' z c:Nat}:Own N N' (.sl none z [] c):=⟨by simp [D.foot,zE],⟨by simp,trivial⟩,by simp [D.foot,zE],by simp [D.foot,zE]⟩
theorem Qbd {Q:QT [.sl 0,.int .i64]} {a:Option Addr} {es es':List D} {c:Nat} {n n':Int} {N:Nat} (h:Q a es c n N) (e1:es=es') (e2:n=n'):Q a es' c n' N:=e1 ▸ e2 ▸ h
def zQx (f:FuncId) (args:List PV) (l:List ByteArray) (n:Int):Prop:=∀ (N:Nat) (Q:QT [.sl 0,.int .i64]),(∀ a c N',N<=N'->Own N N' (.sl a 0 (zA l) c)->Q a (zA l) c n N')->ACalls prog f [.sl 0,.int .i64] args N Q
theorem zO5 {k n0:Int} {nm ot:ByteArray} {t0 t1 r0 r1:D} {a:Option Addr} {es:List D} {c n:Nat} (hn:es.length=n) :
  zQx 232 [.dg 9 (.ag [.lit (.int .i64 k),.lit (.string nm),.lit (.string ot),.lit (.int .i64 n0),t0,t1,r0,r1,.sl a 9 es c])] (bdN k nm ot n) (yZ k n):=fun N Q hQ=>by
 subst hn
 have one:∀ (x:ByteArray) (m:Int),bdN k nm ot es.length=[x]->yZ k es.length=m->((1:Nat)=([D.lit (.string x)]).length/\(1:Nat)=1)/\((1:Nat)=([D.lit (.string x)]).length/\(1:Nat)=1)/\∀ a1 N1,N<=N1->Fresh N N1 a1 [D.ag [D.lit (.string x)]]->∀ N2,N1<=N2->Q a1 [D.lit (.string x)] 1 m N2:=fun x m h1 h2=>
  ⟨⟨rfl,rfl⟩,⟨rfl,rfl⟩,fun a1 N1 hN1 hf N2 hN2=>Qbd (hQ a1 1 N2 (by omega) (by rw [h1];exact xq (l:=[x]) hf hN2)) (by rw [h1];rfl) h2⟩
 have two:bdN k nm ot es.length=[nm,ot]->yZ k es.length=0->((2:Nat)=([D.lit (.string nm),D.lit (.string ot)]).length/\(2:Nat)=2)/\((2:Nat)=([D.lit (.string nm),D.lit (.string ot)]).length/\(2:Nat)=2)/\∀ a1 N1,N<=N1->Fresh N N1 a1 [D.ag [D.lit (.string nm),D.lit (.string ot)]]->∀ N2,N1<=N2->Q a1 [D.lit (.string nm),D.lit (.string ot)] 2 0 N2:=fun h1 h2=>
  ⟨⟨rfl,rfl⟩,⟨rfl,rfl⟩,fun a1 N1 hN1 hf N2 hN2=>Qbd (hQ a1 2 N2 (by omega) (by rw [h1];exact xq (l:=[nm,ot]) hf hN2)) (by rw [h1];rfl) h2⟩
 have nil:bdN k nm ot es.length=[]->yZ k es.length = -1->∀ N1,N<=N1->Q none [] 0 (-1) N1:=fun h1 h2 N1 hN1=>Qbd (hQ none 0 N1 hN1 (by rw [h1];exact zNo)) (by rw [h1];rfl) h2
 refine zHL N _ Q fun _=>⟨_,rfl,Br.beq (fun h6=>⟨_,_,_,rfl,Br.beq (fun h1=>⟨_,rfl,?_⟩) fun h1=>?_⟩) fun h6=>?_⟩
 ·exact one _ _ (by unfold bdN;rw [if_pos ⟨h6,by omega⟩]) (by unfold yZ;rw [if_pos ⟨h6,by omega⟩])
 ·refine ⟨_,rfl,Br.beq (fun h8=>by omega) fun h8=>⟨_,rfl,Br.beq (fun h9=>by omega) fun h9=>?_⟩⟩
  exact nil (by unfold bdN;rw [if_neg (by omega),if_neg (by omega),if_neg (by omega)]) (by unfold yZ;rw [if_neg (by omega),if_neg (by omega),if_neg (by omega)])
 ·refine ⟨_,rfl,Br.beq (fun h8=>⟨_,_,_,rfl,Br.beq (fun h1=>⟨_,rfl,?_⟩) fun h1=>?_⟩) fun h8=>?_⟩
  ·exact one _ _ (by unfold bdN;rw [if_neg (by omega),if_pos ⟨h8,by omega⟩]) (by unfold yZ;rw [if_neg (by omega),if_pos ⟨h8,by omega⟩])
  ·refine ⟨_,rfl,Br.beq (fun h9=>by omega) fun h9=>?_⟩
   exact nil (by unfold bdN;rw [if_neg (by omega),if_neg (by omega),if_neg (by omega)]) (by unfold yZ;rw [if_neg (by omega),if_neg (by omega),if_neg (by omega)])
  ·refine ⟨_,rfl,Br.beq (fun h9=>⟨_,_,_,rfl,Br.beq (fun h1=>⟨_,rfl,_,rfl,?_⟩) fun h1=>?_⟩) fun h9=>?_⟩
   ·exact two (by unfold bdN;rw [if_neg (by omega),if_neg (by omega),if_pos ⟨h9,by omega⟩]) (by unfold yZ;rw [if_neg (by omega),if_neg (by omega),if_pos ⟨h9,by omega⟩])
   ·exact nil (by unfold bdN;rw [if_neg (by omega),if_neg (by omega),if_neg (by omega)]) (by unfold yZ;rw [if_neg (by omega),if_neg (by omega),if_neg (by omega)])
   ·exact nil (by unfold bdN;rw [if_neg (by omega),if_neg (by omega),if_neg (by omega)]) (by unfold yZ;rw [if_neg (by omega),if_neg (by omega),if_neg (by omega)])
theorem rz {k n0:Int} {nm ot:ByteArray} {t0 t1 r0 r1:D} {a:Option Addr} {es:List D} {c n:Nat} (hn:es.length=n) :
  zQx 76 [.dg 9 (.ag [.lit (.int .i64 k),.lit (.string nm),.lit (.string ot),.lit (.int .i64 n0),t0,t1,r0,r1,.sl a 9 es c])] (bdN k nm ot n) (yZ k n):=fun N Q hQ=>by
 subst hn
 have one:∀ (x:ByteArray) (m:Int),bdN k nm ot es.length=[x]->yZ k es.length=m->((1:Nat)=([D.lit (.string x)]).length/\(1:Nat)=1)/\((1:Nat)=([D.lit (.string x)]).length/\(1:Nat)=1)/\∀ a1 N1,N<=N1->Fresh N N1 a1 [D.ag [D.lit (.string x)]]->∀ N2,N1<=N2->Q a1 [D.lit (.string x)] 1 m N2:=fun x m h1 h2=>
  ⟨⟨rfl,rfl⟩,⟨rfl,rfl⟩,fun a1 N1 hN1 hf N2 hN2=>Qbd (hQ a1 1 N2 (by omega) (by rw [h1];exact xq (l:=[x]) hf hN2)) (by rw [h1];rfl) h2⟩
 have two:bdN k nm ot es.length=[nm,ot]->yZ k es.length=0->((2:Nat)=([D.lit (.string nm),D.lit (.string ot)]).length/\(2:Nat)=2)/\((2:Nat)=([D.lit (.string nm),D.lit (.string ot)]).length/\(2:Nat)=2)/\∀ a1 N1,N<=N1->Fresh N N1 a1 [D.ag [D.lit (.string nm),D.lit (.string ot)]]->∀ N2,N1<=N2->Q a1 [D.lit (.string nm),D.lit (.string ot)] 2 0 N2:=fun h1 h2=>
  ⟨⟨rfl,rfl⟩,⟨rfl,rfl⟩,fun a1 N1 hN1 hf N2 hN2=>Qbd (hQ a1 2 N2 (by omega) (by rw [h1];exact xq (l:=[nm,ot]) hf hN2)) (by rw [h1];rfl) h2⟩
 have nil:bdN k nm ot es.length=[]->yZ k es.length = -1->((0:Nat)=0/\(0:Nat)=0)/\((0:Nat)=0/\(0:Nat)=0)/\∀ a1 N1,N<=N1->Fresh N N1 a1 [D.ag []]->∀ N2,N1<=N2->Q a1 [] 0 (-1) N2:=fun h1 h2=>
  ⟨⟨rfl,rfl⟩,⟨rfl,rfl⟩,fun a1 N1 hN1 hf N2 hN2=>Qbd (hQ a1 0 N2 (by omega) (by rw [h1];exact xq (l:=[]) hf hN2)) (by rw [h1];rfl) h2⟩
 refine zDo N _ Q fun _=>⟨_,rfl,Br.beq (fun h6=>⟨_,_,_,rfl,Br.beq (fun h1=>⟨_,rfl,?_⟩) fun h1=>?_⟩) fun h6=>?_⟩
 ·exact one _ _ (by unfold bdN;rw [if_pos ⟨h6,by omega⟩]) (by unfold yZ;rw [if_pos ⟨h6,by omega⟩])
 ·refine ⟨_,rfl,Br.beq (fun h8=>by omega) fun h8=>⟨_,rfl,Br.beq (fun h9=>by omega) fun h9=>?_⟩⟩
  exact nil (by unfold bdN;rw [if_neg (by omega),if_neg (by omega),if_neg (by omega)]) (by unfold yZ;rw [if_neg (by omega),if_neg (by omega),if_neg (by omega)])
 ·refine ⟨_,rfl,Br.beq (fun h8=>⟨_,_,_,rfl,Br.beq (fun h1=>⟨_,rfl,?_⟩) fun h1=>?_⟩) fun h8=>?_⟩
  ·exact one _ _ (by unfold bdN;rw [if_neg (by omega),if_pos ⟨h8,by omega⟩]) (by unfold yZ;rw [if_neg (by omega),if_pos ⟨h8,by omega⟩])
  ·refine ⟨_,rfl,Br.beq (fun h9=>by omega) fun h9=>?_⟩
   exact nil (by unfold bdN;rw [if_neg (by omega),if_neg (by omega),if_neg (by omega)]) (by unfold yZ;rw [if_neg (by omega),if_neg (by omega),if_neg (by omega)])
  ·refine ⟨_,rfl,Br.beq (fun h9=>⟨_,_,_,rfl,Br.beq (fun h1=>⟨_,rfl,_,rfl,?_⟩) fun h1=>?_⟩) fun h9=>?_⟩
   ·exact two (by unfold bdN;rw [if_neg (by omega),if_neg (by omega),if_pos ⟨h9,by omega⟩]) (by unfold yZ;rw [if_neg (by omega),if_neg (by omega),if_pos ⟨h9,by omega⟩])
   ·exact nil (by unfold bdN;rw [if_neg (by omega),if_neg (by omega),if_neg (by omega)]) (by unfold yZ;rw [if_neg (by omega),if_neg (by omega),if_neg (by omega)])
   ·exact nil (by unfold bdN;rw [if_neg (by omega),if_neg (by omega),if_neg (by omega)]) (by unfold yZ;rw [if_neg (by omega),if_neg (by omega),if_neg (by omega)])
/-- a row made by append, cut to nothing -/
theorem zQF (n:Nat) (hn:n<=8796093022208) (N:Nat) (Q:QT [.row 9 0]) (hQ:∀ c N',N<=N'->Q [] c N'):ACalls prog 260 [.row 9 0] [.sv none 0 [] 0,.int .i64 n] N Q:=by
 have hw:IntKind.i64.wrap ((n:Int) - 0)=n:=by rw [Int.sub_zero];exact i64_in _ (by omega)
 refine qH N n Q fun _=>Br.dec (fun h=>by omega) fun _=>?_
 rw [hw]
 refine Br.dec (fun h=>⟨⟨by omega,by omega,by omega⟩,⟨by omega,by omega,by omega⟩,fun c=>⟨⟨by omega,by omega⟩,Nat.zero_le _,⟨rfl,rfl⟩,fun N1 hN1=>hQ c N1 hN1⟩⟩) fun h N1 hN1=>hQ 0 N1 hN1
def zI9:List (List ByteArray)->List ByteArray
 | []=>[]
 | l::ls=>l++zI9 ls
def IsW (l:List ByteArray) (d:D):Prop:=∃ a c,d=.sl a 0 (zA l) c
theorem zEX (l m:List ByteArray):zA l++zA m=zA (l++m):=by simp [zA]
theorem zN9 {ls:List (List ByteArray)} {es:List D} (hes:All2 IsW ls es) (hlen:es.length<=2199023255552) (hc:(zI9 ls).length<=8796093022208) (a:Option Addr) (c:Nat):zO1 252 [.sv a 0 es c] (zI9 ls):=fun N Q hQ=>by
 refine rA N a es c Q fun _=>?_
 have second:∀ (q N':Nat),N<=N'->zW Q N 0 q a es c (es.length:Int) 0 [] q N':=fun q0 N0 hN0=>
  up hes (by omega) (fun i xs=>∀ (done:List ByteArray) (q N':Nat),N<=N'->done++zI9 xs=zI9 ls->zW Q N (zA done).length q a es c (es.length:Int) i (zA done) q N')
   (fun i hlt hi done q N' hN' hd=>by
    refine xu _ _ _ _ _ _ _ _ _ _ _ _ ?_
    rw [hlt]
    simp only [zI9,nW] at hd
    subst hd
    exact ⟨⟨rfl,rfl⟩,⟨rfl,rfl⟩,⟨rfl,rfl⟩,fun a1 N1 hN1 hf N2 hN2=>hQ _ _ _ (by omega) (xq hf hN2)⟩)
   (fun i x xs hat _ ih2 done q N' hN' hd=>by
    have hb:=hat.b
    obtain ⟨a1,c1,hr⟩:=hat.r
    refine xu _ _ _ _ _ _ _ _ _ _ _ _ ?_
    rw [hat.lt,oJ,hr,hat.w]
    have hl2:=mU List.length hd
    simp only [zI9,oH] at hl2
    refine ⟨⟨by omega,by omega⟩,_,_,_,rfl,⟨rfl,rfl⟩,by unfold zB;rw [oH,zH,zH];omega,fun c2=>?_⟩
    rw [zEX]
    refine ih2 _ _ _ hN' ?_
    rw [<-hd]
    simp [zI9,nc]) [] q0 N0 hN0 rfl
 refine up hes (by omega) (fun i xs=>∀ (t:Nat) (N':Nat),N<=N'->t+(zI9 xs).length=(zI9 ls).length ->
  yE Q N a es c t a es c (es.length:Int) i N') ?_ ?_ 0 N (oD _) (by simp)
 ·intro i hlt hi t N' hN' ht
  refine wU _ _ _ _ _ _ _ _ _ _ _ _ ?_
  rw [hlt]
  simp only [zI9,od] at ht
  exact fun N1 hN1=>zQF t (by omega) N1 _ fun c1 N2 hN2 _ _=>second c1 N2 (by omega)
 ·intro i x xs hat _ ih2 t N' hN' ht
  have hb:=hat.b
  obtain ⟨a1,c1,hr⟩:=hat.r
  refine wU _ _ _ _ _ _ _ _ _ _ _ _ ?_
  simp only [zI9,oH] at ht
  rw [hat.lt,oJ,hr,hat.w]
  have hw:IntKind.i64.wrap ((t:Int)+((zA x).length:Int))=((t+x.length:Nat):Int):=by rw [zH];rw [i64_in _ (by omega)];omega
  refine ⟨⟨by omega,by omega⟩,_,_,_,rfl,?_⟩
  rw [hw]
  exact Br.dec (fun h=>by omega) fun _=>ih2 _ _ hN' (by omega)
theorem zLs (s:ByteArray) (l:List ByteArray):(l.any fun x=>decide (s=x))=decide (s∈l):=by
 rw [mE];simp
theorem uZ (l m:List ByteArray) (hl:l.length<=2199023255552) (hm:m.length<=2199023255552) (a b:Option Addr) (c c':Nat):zO4 235 [.sv a 0 (zA l) c,.sv b 0 (zA m) c'] (t4 l m):=fun N Q hQ=>by
 refine p6 N a _ c b _ c' Q fun _ _=>⟨⟨rfl,rfl⟩,fun a1 _ N1 hN1 hbel=>?_⟩
 have hes:All2 IsW [l,m] [.sl a 0 (zA l) c,.sl b 0 (zA m) c']:=⟨_,_,rfl,⟨_,_,rfl⟩,_,_,rfl,⟨_,_,rfl⟩,rfl⟩
 have hcat:zI9 [l,m]=l++m:=by simp [zI9]
 refine zN9 hes (by simp) (by rw [hcat,oH];omega) a1 2 N1 _ fun a2 c2 N2 hN2 ho _=>⟨wC hbel ho,fun _=>?_⟩
 rw [hcat]
 have hws:=yx (l++m)
 have hwl:=zH (l++m)
 rw [oH] at hwl
 refine up hws (by omega) (fun i xs=>∀ (done:List ByteArray) (q N':Nat),N<=N'->done.length<=i->dd done xs=t4 l m ->
  yC Q N (zA done).length q a2 (zA (l++m)) c2 ((zA (l++m)).length:Int) i (zA done) q N') ?_ ?_ [] 0 N2 (by omega) (by simp) (by unfold t4;rw [zOL])
 ·intro i hlt hi done q N' hN' hdl hd
  refine vS _ _ _ _ _ _ _ _ _ _ _ _ ?_
  rw [hlt]
  simp only [dd] at hd
  subst hd
  exact ⟨⟨rfl,rfl⟩,fun N3 hN3=>hQ _ _ (by omega)⟩
 ·intro i x xs hat _ ih2 done q N' hN' hdl hd
  have hb:=hat.b
  have hr:=hat.r
  have hdl2:=zH1 (out:=done) (x:=x)
  refine vS _ _ _ _ _ _ _ _ _ _ _ _ ?_
  rw [hat.lt,oJ,hr,hat.w]
  refine ⟨⟨by omega,by omega⟩,_,rfl,⟨rfl,rfl⟩,fun a1 _ N1 hN1 _=>uL done (by omega) a1 q x N1 _ fun N2 hN2 hle2=>?_⟩
  rw [zLs]
  refine Br.ndec (fun h=>⟨⟨rfl,rfl⟩,qJ (by omega),fun c1=>?_⟩) fun h=>?_
  ·rw [wX]
   rw [if_neg h] at hdl2
   refine ih2 _ _ _ (by omega) (by omega) ?_
   rw [<-hd,p7,if_neg h]
  ·refine ih2 _ _ _ (by omega) (by omega) ?_
   rw [<-hd,p7,if_pos h]
end Go.Proofs.YtkdjhkfiolhkiaaGreat
