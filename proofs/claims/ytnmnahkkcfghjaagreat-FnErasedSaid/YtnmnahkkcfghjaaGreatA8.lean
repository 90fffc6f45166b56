/- Free names: the program's and the reference's. -/
import Derived.Test.YtnmnahkkcfghjaaGreatA7
set_option linter.unusedVariables false
set_option linter.unusedSimpArgs false
namespace Go.Proofs.YtnmnahkkcfghjaaGreat
open Go Go.Proofs Go.Proofs.Tryz Go.IntWalk
mutual
/-- variables -/
def Tm.vc:Tm->Nat
 | .mk k _ _ _ _ _ l=>if k=1 then 1 else rn l
def rn:List Tm->Nat
 | []=>0
 | t::I=>t.vc+rn I
end
theorem zEU:∀ {l:List Tm} {t:Tm},t∈l->t.vc<=rn l
 | u::us,t,h=>by
   simp only [rn]
   rcases oF.1 h with rfl | h
   ·omega
   ·have:=zEU h;omega
mutual
theorem Tm.vc_cnt:∀ t:Tm,3*t.vc<=t.cnt
 | .mk k nm ot n ty re l=>by
   have:=Ty.cnt_pos ty
   have:=Ty.cnt_pos re
   have:=zHl l
   simp only [Tm.vc,Tm.cnt]
   split<;>omega
theorem zHl:∀ l:List Tm,3*rn l<=zI l
 | []=>oD _
 | t::I=>by
   have:=Tm.vc_cnt t
   have:=zHl I
   simp only [rn,zI];omega
end
mutual
theorem Tm.fv_len:∀ t:Tm,t.fv.length<=t.vc
 | .mk k nm ot n ty re l=>by
   simp only [Tm.fv,Tm.vc]
   split
   ·simp
   ·have:=zHZ l (ze k l.length) (bdN k nm ot l.length) 0 []
    simp at this;omega
theorem zHZ:∀ (l:List Tm) (at_:Int) (ns:List ByteArray) (i:Nat) (out:List ByteArray),(rD l at_ ns i out).length<=out.length+rn l
 | [],_,_,_,out=>by simp [rD]
 | x::xs,at_,ns,i,out=>by
   simp only [rD,rn]
   have O:=zHZ xs at_ ns (i+1) (sF out (if (i:Int)=at_ then zAd ns x.fv else x.fv))
   have I:=Tm.fv_len x
   have U:(if (i:Int)=at_ then zAd ns x.fv else x.fv).length<=x.vc:=by
    split
    ·exact oN (mU _ _) I
    ·exact I
   have Y:(sF out (if (i:Int)=at_ then zAd ns x.fv else x.fv)).length<=out.length+(if (i:Int)=at_ then zAd ns x.fv else x.fv).length:=by
    unfold sF
    have a1:=zDD (dd [] out) (if (i:Int)=at_ then zAd ns x.fv else x.fv)
    have J:=zDD [] out
    simp at J;omega
   omega
end
/-- free names of the parts, counted -/
def rl:List Tm->Nat
 | []=>0
 | t::I=>t.fv.length+rl I
mutual
/-- how many free names stand side by side, anywhere -/
def Tm.wd:Tm->Nat
 | .mk k _ _ _ _ _ l=>if k=1 then 1 else max (rl l) (pL l)
def pL:List Tm->Nat
 | []=>0
 | t::I=>max t.wd (pL I)
end
theorem zE8:∀ {l:List Tm} {n:Nat},pL l<=n↔∀ x∈l,x.wd<=n
 | [],n=>by simp [pL]
 | t::I,n=>by simp only [pL,Nat.max_le,zE8 (l:=I),oF,nY]
theorem zAc {l:List Tm} {t:Tm} (h:t∈l):t.wd<=pL l:=zE8.1 (oD _) t h
theorem zJe:∀ (l:List Tm) (at_:Int) (ns:List ByteArray) (i:Nat) (out:List ByteArray),(rD l at_ ns i out).length<=out.length+rl l
 | [],_,_,_,out=>by simp [rD]
 | x::xs,at_,ns,i,out=>by
   simp only [rD,rl]
   have J:=zJe xs at_ ns (i+1) (sF out (if (i:Int)=at_ then zAd ns x.fv else x.fv))
   have O:(if (i:Int)=at_ then zAd ns x.fv else x.fv).length<=x.fv.length:=by
    split
    ·exact mU _ _
    ·exact oD _
   have U:(sF out (if (i:Int)=at_ then zAd ns x.fv else x.fv)).length<=out.length+(if (i:Int)=at_ then zAd ns x.fv else x.fv).length:=by
    unfold sF
    have a1:=zDD (dd [] out) (if (i:Int)=at_ then zAd ns x.fv else x.fv)
    have I:=zDD [] out
    simp at I;omega
   omega
theorem Tm.fv_wd (t:Tm):t.fv.length<=t.wd:=by
 cases t with
 | mk k nm ot n ty re l=>
 simp only [Tm.fv,Tm.wd]
 split
 ·simp
 ·have:=zJe l (ze k l.length) (bdN k nm ot l.length) 0 []
  simp at this;omega
theorem zIo:∀ l:List Tm,rl l<=rn l
 | []=>oD _
 | t::I=>by
   have:=zIo I
   have:=t.fv_len
   simp only [rl,rn];omega
theorem Tm.wd_vc:∀ t:Tm,t.wd<=t.vc:=by
 refine Tm.ind λk nm ot n ty re l J=>?_
 simp only [Tm.wd,Tm.vc]
 split
 ·exact oD _
 ·have O:=zIo l
  have U:pL l<=rn l:=zE8.2 λx I=>oN (J x I) (zEU I)
  omega
theorem zHk (a b:List ByteArray):(sF a b).length<=a.length+b.length:=by
 unfold sF
 have a1:=zDD (dd [] a) b
 have I:=zDD [] a
 simp at I;omega
theorem zK7 (ns l:List ByteArray) (s:ByteArray):(zAd ns l).filter (λx=>decide (x≠s))=zAd (ns++[s]) l:=by
 unfold zAd
 rw [List.filter_filter]
 congr 1
 funext x
 rw [mf]
 simp
 exact And.comm
theorem zFW (l:List ByteArray):zAd [] l=l:=by simp [zAd]
theorem vI:∀ (t:Tm) (d:D),t.Is d->t.wd<=2199023255552->zR1 112 [.dg 9 d] t.fv:=by
 refine Tm.ind λk nm ot n0 ty re l ih d hd hG N Q hQ=>?_
 obtain ⟨t0,t1,r0,r1,a,es,c,rfl,hh,ak,al⟩:=Tm.is_mk.1 hd
 have hl:=al.len
 simp only [Tm.wd] at hG
 refine zCw N _ Q λ_=>⟨_,rfl,Br.beq (λh1=>⟨_,rfl,⟨rfl,rfl⟩,⟨rfl,rfl⟩,λa1 N1 aw hf N2 am=>?_⟩) λh1 N3 a5=>pW (n:=l.length) (by omega) N3 _ λa3 c3 N4 ba _ _ _=>?_⟩
 ·have e:(Tm.mk k nm ot n0 ty re l).fv=[nm]:=by simp [Tm.fv,h1]
  rw [e] at hQ
  exact hQ _ _ _ (by omega) (uw (l:=[nm]) hf am)
 ·have e:(Tm.mk k nm ot n0 ty re l).fv=rD l (ze k l.length) (bdN k nm ot l.length) 0 []:=by simp [Tm.fv,h1]
  rw [e] at hQ
  rw [if_neg h1] at hG
  have bb:rl l<=2199023255552:=by omega
  have bc:pL l<=2199023255552:=by omega
  have ax:=zCf k nm ot l.length
  generalize bdN k nm ot l.length=ns at hQ ax ⊢
  generalize ze k l.length=at_ at hQ ⊢
  generalize hy:(D.ag [.j k,.t nm,.t ot,.j n0,t0,t1,r0,r1,.sl a 9 es c])=y
  have ah:y.cell 8=.sl a 9 es c:=by rw [<-hy];rfl
  have bg:=zS ns
  have inner:∀ (i:Nat) (x:Tm) (out:List ByteArray) (q N1:Nat),N<=N1->out.length<=2199023255552->x.fv.length<=2199023255552 ->
    (∀ c N'',N1<=N''->zp Q N a3 (zB ns) c3 at_ (zB (sF out (if (i:Int)=at_ then zAd ns x.fv else x.fv))).length c (IntKind.i64.wrap (i+1)) y (zB (sF out (if (i:Int)=at_ then zAd ns x.fv else x.fv))) c N'') ->
    ∀ O U,Own N N1 (.sl O 0 (zB x.fv) U)->yO Q N a3 (zB ns) c3 at_ (zB out).length q i O (zB x.fv) U 0 y (zB out) q N1:=λi x out q N1 aw ho hx hc O U h7=>by
   have fin:∀ (Y:List ByteArray) (O:Option Addr) (U N':Nat),N1<=N'->Y=(if (i:Int)=at_ then zAd ns x.fv else x.fv) ->
     ((zB out).length=(zB out).length/\q=q)/\∀ ac,ApA ac (zB out)->Off [ac] (.sl O 0 (zB Y) U)->∀ N3,N'<=N3->ux N3 [ac]->ACalls prog 122 [.row 9 0] [.sv ac 0 (zB out) q,.sv O 0 (zB Y) U] N3 (λaa ao N4=>N3<=N4->Off [ac] (D.ag aa)/\(Bel N4 (D.ag aa)->zp Q N a3 (zB ns) c3 at_ aa.length ao (IntKind.i64.wrap (i+1)) y aa ao N4)):=λY O U N' ab J=>⟨⟨rfl,rfl⟩,λa9 _ _ N5 aq a4=>by
    have h5:Y.length<=2199023255552:=by
     rw [J];split
     ·exact oN (mU _ _) hx
     ·exact hx
    refine uz out Y ho h5 a9 O q U N5 _ λc8 N8 ay _=>⟨zMh _,λ_=>?_⟩
    subst J
    exact hc _ _ (by omega)⟩
   refine up (wx ns) (by omega) (λj xs=>∀ (Y:List ByteArray) O U N',N1<=N'->Y=zAd (ns.take j) x.fv->((i:Int)≠at_->j=0)->yO Q N a3 (zB ns) c3 at_ (zB out).length q i O (zB Y) U j y (zB out) q N') ?_ ?_ x.fv O U N1 (oD _) (by rw [mn,zFW]) (λ_=>rfl)
   ·intro j ai hj Y O U N' ab J I
    refine uT _ _ _ _ _ _ _ _ _ _ _ _ _ _ _ _ _ ?_
    rw [ai]
    refine fin Y O U N' ab ?_
    rw [J,oi (by omega)]
    split
    ·rfl
    ·rename_i ae
     have:=I ae
     have:ns=[]:=oP (by omega)
     rw [this,zFW]
   ·intro j s xs I _ aj Y O U N' ab J hj
    have hb:=I.b
    have hr:=I.r
    refine uT _ _ _ _ _ _ _ _ _ _ _ _ _ _ _ _ _ ?_
    rw [I.lt]
    refine Br.beq (λhe=>⟨⟨by omega,by omega⟩,s,?_,λN2 am=>zE1 Y ?_ O U s N2 _ λa8 c8 N8 ay _ _ _=>?_⟩) λae=>fin Y O U N' ab ?_
    ·rw [oK,hr]
    ·rw [J];exact oN (mU _ _) hx
    ·rw [I.w]
     refine aj _ _ _ _ (by omega) ?_ (λhc=>absurd he hc)
     rw [J,zK7,vH I.g]
    ·rw [if_neg ae,J,hj ae,mn,zFW]
  refine up al ak (λi xs=>∀ (out:List ByteArray) (q N':Nat),N<=N'->out.length+rl xs<=rl l->rD xs at_ ns i out=rD l at_ ns 0 []->zp Q N a3 (zB ns) c3 at_ (zB out).length q i y (zB out) q N') ?_ ?_ [] 0 N4 (by omega) (by simp) rfl
  ·intro i ai hi out q N' ab _ he
   refine u6 _ _ _ _ _ _ _ _ _ _ _ _ _ ⟨_,_,_,ah,?_⟩
   rw [ai]
   simp only [rD] at he
   subst he
   exact ⟨⟨rfl,rfl⟩,⟨rfl,rfl⟩,⟨rfl,rfl⟩,λa1 N5 aq hf N6 au=>hQ _ _ _ (by omega) (uw hf au)⟩
  ·intro i x xs I _ aj out q N' ab az he
   have hb:=I.b
   simp only [rl] at az
   have bh:=zAc I.m
   have bi:=zHk out (if (i:Int)=at_ then zAd ns x.fv else x.fv)
   have bj:(if (i:Int)=at_ then zAd ns x.fv else x.fv).length<=x.fv.length:=by
    split
    ·exact mU _ _
    ·exact oD _
   refine u6 _ _ _ _ _ _ _ _ _ _ _ _ _ ⟨_,_,_,ah,?_⟩
   rw [I.lt]
   refine ⟨_,_,_,ah,⟨by omega,by omega⟩,λN5 aq=>?_⟩
   rw [oK]
   refine ih x I.m _ I.r (by omega) N5 _ λa6 c6 N6 au a2 _ _=>inner i x out q N6 (by omega) (by omega) (by omega) (λc N'' h1=>?_) a6 c6 (a2.mono (by omega) (oD _))
   rw [I.w]
   exact aj _ _ _ (by omega) (by omega) (by rw [<-he];rfl)
def zOj (f:FuncId) (args:List PV) (s:ByteArray):Prop:=∀ (N:Nat) (Q:QT [.str]),(∀ N',N<=N'->Q s N')->ACalls prog f [.str] args N Q
theorem Qst {Q:QT [.str]} {a b:ByteArray} {N:Nat} (h:Q a N) (e:a=b):Q b N:=e ▸ h
def zSP (u:Nat):ByteArray:=⟨(Lib.decDigits u).toArray⟩
theorem zIU (u:Nat) (h:u<=4611686018427387904):Lib.nDigits u<=20:=by
 by_cases I:1<=u
 ·have:=Lib.numDigits_eq u I (by omega);split at this<;>omega
 ·rw [Lib.nDigits_small (by omega)];omega
theorem zLa (u:Nat):(zSP u).size=Lib.nDigits u:=by
 show (Lib.decDigits u).toArray.size=_
 rw [nj,Lib.decDigits_length]
theorem zB7 {a b:ByteArray} (h:a.data.toList=b.data.toList):a=b:=by
 cases a;cases b;simp at h;rw [h]
theorem zOq (a b:ByteArray):(a++b).data.toList=a.data.toList++b.data.toList:=by simp
theorem zNg (k:Nat):bytes [118]++zSP k=uG k:=zB7 (by rw [zOq];rfl)
theorem zKP (k:Nat) (h:k<=4611686018427387904):(uG k).size<=21:=by
 have:=zIU k h
 show (118::Lib.decDigits k).toArray.size<=21
 rw [nj,oO,Lib.decDigits_length];omega
theorem zNR (m:Nat) (s:ByteArray) (hs:∀ u,u<10->Lib.decDigits u=[UInt8.ofNat (48+u)]):(bytesOf [IntKind.u8.wrap (IntKind.i64.wrap (48+Int.tmod (m:Int) 10))]++s).data.toList=UInt8.ofNat (48+m % 10)::s.data.toList:=by
 rw [zOq]
 have e:IntKind.u8.wrap (IntKind.i64.wrap (48+Int.tmod (m:Int) 10))=((48+m % 10:Nat):Int):=by
  have:Int.tmod (m:Int) 10=((m % 10:Nat):Int):=by rw [np (by omega)];omega
  rw [this,i64_in _ (by omega),IntKind.wrap_u8];omega
 rw [e]
 have I:bytesOf [((48+m % 10:Nat):Int)]=⟨#[UInt8.ofNat (48+m % 10)]⟩:=rfl
 rw [I]
 rfl
theorem zBj (u:Nat) (h:u<=4611686018427387904):zOj 131 [.j u] (zSP u):=λN Q hQ=>by
 have e1:∀ u,u<10->Lib.decDigits u=[UInt8.ofNat (48+u)]:=λu h=>by rw [Lib.decDigits,dif_pos h]
 have e2:∀ u,¬u<10->Lib.decDigits u=Lib.decDigits (u / 10)++[UInt8.ofNat (48+u % 10)]:=λu h=>by rw [Lib.decDigits,dif_neg h]
 refine ti N u Q (Br.beq (λh0 N1 Y=>?_) λh0=>?_)
 ·have:u=0:=by omega
  subst this
  refine Qst (hQ _ Y) (zB7 ?_)
  show Lib.decDigits 0=[48]
  rw [e1 0 (by omega)]
  rfl
 ·rw [mg (by omega)]
  have key:∀ (m:Nat) (s:ByteArray),m<=u->s.size+Lib.nDigits m<=20\/(m=0/\s.size<=20)->(if m=0 then [] else Lib.decDigits m)++s.data.toList=Lib.decDigits u->zZ Q N m false s N:=by
   intro m
   induction m using Nat.strongRecOn with
   | _ m ih=>
     intro s hm O he
     refine wZ _ _ _ _ _ _ ?_
     refine Br.bne (λI=>?_) λI=>?_
     ·have I:m≠0:=by omega
      have ht:Int.tmod (m:Int) 10=((m % 10:Nat):Int):=by rw [np (by omega)];omega
      have hd:Int.tdiv (m:Int) 10=((m / 10:Nat):Int):=by rw [Int.tdiv_eq_ediv_of_nonneg (by omega)];omega
      have O:s.size+Lib.nDigits m<=20:=by rcases O with U | ⟨U,_⟩;exact U;exact absurd U I
      refine ⟨by omega,?_⟩
      rw [mg (by omega)]
      refine ⟨by simp,[IntKind.u8.wrap (IntKind.i64.wrap (48+Int.tmod (m:Int) 10))],rfl,?_,by omega,?_⟩
      ·have:(bytesOf [IntKind.u8.wrap (IntKind.i64.wrap (48+Int.tmod (m:Int) 10))]).size=1:=rfl
       omega
      ·rw [hd,i64_in _ (by omega)]
       refine ih (m / 10) (by omega) _ (by omega) ?_ ?_
       ·have U:(bytesOf [IntKind.u8.wrap (IntKind.i64.wrap (48+Int.tmod (m:Int) 10))]++s).size=1+s.size:=by
         rw [oL];rfl
        by_cases J:m<10
        ·right
         have:=Lib.nDigits_pos m
         exact ⟨by omega,by omega⟩
        ·left
         have:=Lib.nDigits_big J
         omega
       ·rw [zNR m s e1,<-he,if_neg I]
        by_cases J:m<10
        ·rw [if_pos (by omega),e1 m J,show m % 10=m by omega];rfl
        ·rw [if_neg (by omega),e2 m J];simp
     ·have:m=0:=by omega
      subst this
      refine λN2 aa=>Qst (hQ _ aa) (zB7 ?_)
      rw [if_pos rfl] at he
      exact he.symm
  refine key u (bytes []) (oD _) (.inl ?_) ?_
  ·have:=zIU u h
   show 0+_<=_
   omega
  ·rw [if_neg (by omega)];exact nO _
theorem zKL (l:List ByteArray) (P:Nat->Nat->Prop) (N:Nat) (F:ByteArray->Nat->Prop) (hF:∀ N',N<=N'->F (fresh l) N')
  (step:∀ (k N':Nat),N<=N'->k<=l.length+1->(∀ N'',N'<=N''->uG k∈l->P (k+1) N'')->(∀ N'',N'<=N''->uG k∉l->F (uG k) N'')->P k N'):P 1 N:=by
 have key:∀ (f k:Nat) (N':Nat),N<=N'->1<=k->k+f=l.length+1->(∀ j,1<=j->j<k->uG j∈l)->sV f k l=sV l.length 1 l->P k N':=by
  intro f
  induction f with
  | zero=>
    intro k N' J aa ab I O
    refine step k N' J (by omega) (λN'' Y U=>?_) λN'' Y U=>?_
    ·exfalso
     have:=zOs l (k+1) (λj h4 h5=>by
      by_cases h6:j=k
      ·subst h6;exact U
      ·exact I j h4 (by omega)) (by omega)
     omega
    ·have:=hF N'' (by omega)
     unfold fresh at this
     rw [<-O] at this
     exact this
  | succ f ih=>
    intro k N' J aa ab I O
    simp only [sV] at O
    refine step k N' J (by omega) (λN'' Y U=>?_) λN'' Y U=>?_
    ·rw [if_pos U] at O
     exact ih (k+1) N'' (by omega) (by omega) (by omega) (λj h4 h5=>by
      by_cases h6:j=k
      ·subst h6;exact U
      ·exact I j h4 (by omega)) O
    ·rw [if_neg U] at O
     have:=hF N'' (by omega)
     unfold fresh at this
     rw [<-O] at this
     exact this
 exact key l.length 1 N (oD _) (oD _) (by omega) (λj Y h2=>by omega) rfl
theorem zBT (l:List ByteArray) (hl:l.length<=8796093022208) (a:Option Addr) (c:Nat):zOj 123 [.sv a 0 (zB l) c] (fresh l):=λN Q O=>by
 refine zBG N a _ c Q λ_=>?_
 refine zKL l (λk N'=>xE Q N a (zB l) c k N') N (λs N'=>Q s N') O λk N' U hk J I=>?_
 have Y:=zIU k (by omega)
 have aa:=zLa k
 refine qb _ _ _ _ _ _ _ λN1 ab=>zBj k (by omega) N1 _ λN2 ac _=>⟨by omega,λN3 ae=>?_⟩
 rw [zNg]
 refine yp l (by omega) a c (uG k) N3 _ λN4 ah _=>?_
 simp only [zCM]
 refine Br.dec (λh N5 ai=>I _ (by omega) h) λh=>?_
 rw [i64_in _ (by omega)]
 exact J _ (by omega) (mE.1 h)
end Go.Proofs.YtnmnahkkcfghjaaGreat
