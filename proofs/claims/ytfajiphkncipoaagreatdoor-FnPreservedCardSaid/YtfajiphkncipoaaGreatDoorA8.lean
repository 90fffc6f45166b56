/- Free names: the program's and the reference's. -/
import Derived.Test.YtfajiphkncipoaaGreatDoorA7
import Derived.Shelf.Strconv.Itoa3
set_option linter.unusedVariables false
set_option linter.unusedSimpArgs false
namespace Go.Proofs.YtfajiphkncipoaaGreatDoor
open Go Go.Proofs Go.Proofs.Tryz Go.IntWalk
mutual
/-- variables -/
def Tm.vc:Tm->Nat
 | .mk k _ _ _ _ _ l=>if k=1 then 1 else zAv l
def zAv:List Tm->Nat
 | []=>0
 | t::I=>t.vc+zAv I
end
theorem zGD:∀ {l:List Tm} {t:Tm},t∈l->t.vc<=zAv l
 | u::us,t,h=>by
   simp only [zAv]
   rcases oF.1 h with rfl | h
   ·omega
   ·have:=zGD h;omega
mutual
theorem Tm.vc_cnt:∀ t:Tm,3*t.vc<=t.cnt
 | .mk k nm ot n ty re l=>by
   have:=Ty.cnt_pos ty
   have:=Ty.cnt_pos re
   have:=zJi l
   simp only [Tm.vc,Tm.cnt]
   split<;>omega
theorem zJi:∀ l:List Tm,3*zAv l<=zh l
 | []=>oD _
 | t::I=>by
   have:=Tm.vc_cnt t
   have:=zJi I
   simp only [zAv,zh];omega
end
mutual
theorem Tm.fv_len:∀ t:Tm,t.fv.length<=t.vc
 | .mk k nm ot n ty re l=>by
   simp only [Tm.fv,Tm.vc]
   split
   ·simp
   ·have:=zJV l (zQ k l.length) (bdN k nm ot l.length) 0 []
    simp at this;omega
theorem zJV:∀ (l:List Tm) (at_:Int) (ns:List ByteArray) (i:Nat) (out:List ByteArray),(uF l at_ ns i out).length<=out.length+zAv l
 | [],_,_,_,out=>by simp [uF]
 | x::xs,at_,ns,i,out=>by
   simp only [uF,zAv]
   have J:=zJV xs at_ ns (i+1) (tQ out (if (i:Int)=at_ then uv ns x.fv else x.fv))
   have I:=Tm.fv_len x
   have O:(if (i:Int)=at_ then uv ns x.fv else x.fv).length<=x.vc:=by
    split
    ·exact oO (mH _ _) I
    ·exact I
   have U:(tQ out (if (i:Int)=at_ then uv ns x.fv else x.fv)).length<=out.length+(if (i:Int)=at_ then uv ns x.fv else x.fv).length:=by
    unfold tQ
    have a1:=zEm (dd [] out) (if (i:Int)=at_ then uv ns x.fv else x.fv)
    have a2:=zEm [] out
    simp at a2;omega
   omega
end
/-- free names of the parts, counted -/
def vJ:List Tm->Nat
 | []=>0
 | t::I=>t.fv.length+vJ I
mutual
/-- how many free names stand side by side, anywhere -/
def Tm.wd:Tm->Nat
 | .mk k _ _ _ _ _ l=>if k=1 then 1 else max (vJ l) (rI l)
def rI:List Tm->Nat
 | []=>0
 | t::I=>max t.wd (rI I)
end
theorem zDF:∀ {l:List Tm} {n:Nat},rI l<=n↔∀ x∈l,x.wd<=n
 | [],n=>by simp [rI]
 | t::I,n=>by simp only [rI,Nat.max_le,zDF (l:=I),oF,nk]
theorem yE {l:List Tm} {t:Tm} (h:t∈l):t.wd<=rI l:=zDF.1 (oD _) t h
theorem zLw:∀ (l:List Tm) (at_:Int) (ns:List ByteArray) (i:Nat) (out:List ByteArray),(uF l at_ ns i out).length<=out.length+vJ l
 | [],_,_,_,out=>by simp [uF]
 | x::xs,at_,ns,i,out=>by
   simp only [uF,vJ]
   have I:=zLw xs at_ ns (i+1) (tQ out (if (i:Int)=at_ then uv ns x.fv else x.fv))
   have J:(if (i:Int)=at_ then uv ns x.fv else x.fv).length<=x.fv.length:=by
    split
    ·exact mH _ _
    ·exact oD _
   have O:(tQ out (if (i:Int)=at_ then uv ns x.fv else x.fv)).length<=out.length+(if (i:Int)=at_ then uv ns x.fv else x.fv).length:=by
    unfold tQ
    have a1:=zEm (dd [] out) (if (i:Int)=at_ then uv ns x.fv else x.fv)
    have a2:=zEm [] out
    simp at a2;omega
   omega
theorem Tm.fv_wd (t:Tm):t.fv.length<=t.wd:=by
 cases t with
 | mk k nm ot n ty re l=>
 simp only [Tm.fv,Tm.wd]
 split
 ·simp
 ·have:=zLw l (zQ k l.length) (bdN k nm ot l.length) 0 []
  simp at this;omega
theorem zK4:∀ l:List Tm,vJ l<=zAv l
 | []=>oD _
 | t::I=>by
   have:=zK4 I
   have:=t.fv_len
   simp only [vJ,zAv];omega
theorem Tm.wd_vc:∀ t:Tm,t.wd<=t.vc:=by
 refine Tm.ind λk nm ot n ty re l J=>?_
 simp only [Tm.wd,Tm.vc]
 split
 ·exact oD _
 ·have O:=zK4 l
  have U:rI l<=zAv l:=zDF.2 λx I=>oO (J x I) (zGD I)
  omega
theorem zEw (a b:List ByteArray):(tQ a b).length<=a.length+b.length:=by
 unfold tQ
 have a1:=zEm (dd [] a) b
 have a2:=zEm [] a
 simp at a2;omega
theorem zNO (ns l:List ByteArray) (s:ByteArray):(uv ns l).filter (λx=>decide (x≠s))=uv (ns++[s]) l:=by
 unfold uv
 rw [List.filter_filter]
 congr 1
 funext x
 rw [mP]
 simp
 exact And.comm
theorem zHF (l:List ByteArray):uv [] l=l:=by simp [uv]
theorem vm:∀ (t:Tm) (d:D),t.Is d->t.wd<=2199023255552->zSR 49 [.dg 9 d] t.fv:=by
 refine Tm.ind λk nm ot n0 ty re l ih d hd hG N Q hQ=>?_
 obtain ⟨t0,t1,r0,r1,a,es,c,rfl,hh,ak,al⟩:=Tm.is_mk.1 hd
 have hl:=al.len
 simp only [Tm.wd] at hG
 refine zET N _ Q λ_=>⟨_,rfl,Br.beq (λh1=>⟨_,rfl,⟨rfl,rfl⟩,⟨rfl,rfl⟩,λa1 N1 aw hf N2 am=>?_⟩) λh1 N3 bc=>zAw (n:=l.length) (by omega) N3 _ λa3 c3 N4 bg _ _ _=>?_⟩
 ·have e:(Tm.mk k nm ot n0 ty re l).fv=[nm]:=by simp [Tm.fv,h1]
  rw [e] at hQ
  exact hQ _ _ _ (by omega) (wW (l:=[nm]) hf am)
 ·have e:(Tm.mk k nm ot n0 ty re l).fv=uF l (zQ k l.length) (bdN k nm ot l.length) 0 []:=by simp [Tm.fv,h1]
  rw [e] at hQ
  rw [if_neg h1] at hG
  have bh:vJ l<=2199023255552:=by omega
  have bi:rI l<=2199023255552:=by omega
  have ax:=pX k nm ot l.length
  generalize bdN k nm ot l.length=ns at hQ ax ⊢
  generalize zQ k l.length=at_ at hQ ⊢
  generalize hy:(D.ag [.j k,.t nm,.t ot,.j n0,t0,t1,r0,r1,.sl a 9 es c])=y
  have ah:y.cell 8=.sl a 9 es c:=by rw [<-hy];rfl
  have bj:=zF ns
  have inner:∀ (i:Nat) (x:Tm) (out:List ByteArray) (q N1:Nat),N<=N1->out.length<=2199023255552->x.fv.length<=2199023255552 ->
    (∀ c N'',N1<=N''->zt Q N a3 (zA ns) c3 at_ (zA (tQ out (if (i:Int)=at_ then uv ns x.fv else x.fv))).length c (IntKind.i64.wrap (i+1)) y (zA (tQ out (if (i:Int)=at_ then uv ns x.fv else x.fv))) c N'') ->
    ∀ O U,Own N N1 (.sl O 0 (zA x.fv) U)->yc Q N a3 (zA ns) c3 at_ (zA out).length q i O (zA x.fv) U 0 y (zA out) q N1:=λi x out q N1 aw ho hx hc O U h7=>by
   have fin:∀ (Y:List ByteArray) (O:Option Addr) (U N':Nat),N1<=N'->Y=(if (i:Int)=at_ then uv ns x.fv else x.fv) ->
     ((zA out).length=(zA out).length/\q=q)/\∀ ac,ApA ac (zA out)->Off [ac] (.sl O 0 (zA Y) U)->∀ N3,N'<=N3->wU N3 [ac]->ACalls prog 84 [.row 9 0] [.sv ac 0 (zA out) q,.sv O 0 (zA Y) U] N3 (λaa ao N4=>N3<=N4->Off [ac] (D.ag aa)/\(Bel N4 (D.ag aa)->zt Q N a3 (zA ns) c3 at_ aa.length ao (IntKind.i64.wrap (i+1)) y aa ao N4)):=λY O U N' ab J=>⟨⟨rfl,rfl⟩,λa9 _ _ N5 aq bb=>by
    have h5:Y.length<=2199023255552:=by
     rw [J];split
     ·exact oO (mH _ _) hx
     ·exact hx
    refine tg out Y ho h5 a9 O q U N5 _ λc8 N8 ay _=>⟨zEq _,λ_=>?_⟩
    subst J
    exact hc _ _ (by omega)⟩
   refine up (xC ns) (by omega) (λj xs=>∀ (Y:List ByteArray) O U N',N1<=N'->Y=uv (ns.take j) x.fv->((i:Int)≠at_->j=0)->yc Q N a3 (zA ns) c3 at_ (zA out).length q i O (zA Y) U j y (zA out) q N') ?_ ?_ x.fv O U N1 (oD _) (by rw [mt,zHF]) (λ_=>rfl)
   ·intro j ai hj Y O U N' ab J I
    refine tA _ _ _ _ _ _ _ _ _ _ _ _ _ _ _ _ _ ?_
    rw [ai]
    refine fin Y O U N' ab ?_
    rw [J,ow (by omega)]
    split
    ·rfl
    ·rename_i ae
     have:=I ae
     have:ns=[]:=oU (by omega)
     rw [this,zHF]
   ·intro j s xs I _ aj Y O U N' ab J hj
    have hb:=I.b
    have hr:=I.r
    refine tA _ _ _ _ _ _ _ _ _ _ _ _ _ _ _ _ _ ?_
    rw [I.lt]
    refine Br.beq (λhe=>⟨⟨by omega,by omega⟩,s,?_,λN2 am=>zGl Y ?_ O U s N2 _ λa8 c8 N8 ay _ _ _=>?_⟩) λae=>fin Y O U N' ab ?_
    ·rw [oJ,hr]
    ·rw [J];exact oO (mH _ _) hx
    ·rw [I.w]
     refine aj _ _ _ _ (by omega) ?_ (λhc=>absurd he hc)
     rw [J,zNO,wV I.g]
    ·rw [if_neg ae,J,hj ae,mt,zHF]
  refine up al ak (λi xs=>∀ (out:List ByteArray) (q N':Nat),N<=N'->out.length+vJ xs<=vJ l->uF xs at_ ns i out=uF l at_ ns 0 []->zt Q N a3 (zA ns) c3 at_ (zA out).length q i y (zA out) q N') ?_ ?_ [] 0 N4 (by omega) (by simp) rfl
  ·intro i ai hi out q N' ab _ he
   refine tu _ _ _ _ _ _ _ _ _ _ _ _ _ ⟨_,_,_,ah,?_⟩
   rw [ai]
   simp only [uF] at he
   subst he
   exact ⟨⟨rfl,rfl⟩,⟨rfl,rfl⟩,⟨rfl,rfl⟩,λa1 N5 aq hf N6 au=>hQ _ _ _ (by omega) (wW hf au)⟩
  ·intro i x xs I _ aj out q N' ab az he
   have hb:=I.b
   simp only [vJ] at az
   have bm:=yE I.m
   have bp:=zEw out (if (i:Int)=at_ then uv ns x.fv else x.fv)
   have bq:(if (i:Int)=at_ then uv ns x.fv else x.fv).length<=x.fv.length:=by
    split
    ·exact mH _ _
    ·exact oD _
   refine tu _ _ _ _ _ _ _ _ _ _ _ _ _ ⟨_,_,_,ah,?_⟩
   rw [I.lt]
   refine ⟨_,_,_,ah,⟨by omega,by omega⟩,λN5 aq=>?_⟩
   rw [oJ]
   refine ih x I.m _ I.r (by omega) N5 _ λa6 c6 N6 au ba _ _=>inner i x out q N6 (by omega) (by omega) (by omega) (λc N'' h1=>?_) a6 c6 (ba.mono (by omega) (oD _))
   rw [I.w]
   exact aj _ _ _ (by omega) (by omega) (by rw [<-he];rfl)
theorem BCalls.cap {f:FuncId} {full:List Sh} {args:List PV} {bx:List Bx} {N:Nat} {Q:QT full} (hc:xf prog f=true) (h:(∀ t z es n,Bx.arr t z es n∈bx->es.length<=n)->BCalls prog f full args bx N Q):BCalls prog f full args bx N Q:=
 ⟨hc,λav w0 E J O I U Y=>(h λt z es n hm=>by
  obtain ⟨k,hk⟩:=oP.1 hm
  rcases I.br k _ hk (by simp) with ⟨_,e1,e2⟩ | ⟨b,c,_,_,_,e,_⟩
  ·rw [e1,e2];exact oD _
  ·exact e).h av w0 E J O I U Y⟩
theorem zGV {α:Type} (p:α->Bool):∀ (l:List α) (i:Int),(zCK p l i = -1/\∀ x∈l,p x=false)\/∃ pre x post,l=pre++x::post/\zCK p l i=i+(pre.length:Int)/\p x=true/\∀ y∈pre,p y=false
 | [],i=>.inl ⟨rfl,by simp⟩
 | x :: l,i=>by
   simp only [zCK]
   by_cases I:p x=true
   ·exact .inr ⟨[],x,l,rfl,by simp [I],I,by simp⟩
   ·rcases zGV p l (i+1) with ⟨J,O⟩ | ⟨pre,y,post,J,O,U,Y⟩
    ·refine .inl ⟨by rw [if_neg I,J],λy hy=>?_⟩
     rcases oF.1 hy with rfl | hy
     ·simpa using I
     ·exact O y hy
    ·refine .inr ⟨x::pre,y,post,by rw [J];rfl,by rw [if_neg I,O];simp only [oM];omega,U,λz hz=>?_⟩
     rcases oF.1 hz with rfl | hz
     ·simpa using I
     ·exact Y z hz
theorem zIO (s:ByteArray) (ns:List ByteArray) (I:ns.length<=4611686018427387904) (ad:Addr) (a:Option Addr) (c:Nat):ur 174 [.str s,.pd ad 0 (.sl a 0 (zA ns) c)] (decide (s∈ns)):=λN Q J=>by
 refine qj N s ad _ Q ⟨_,_,_,rfl,λN1 O=>yf ns I a c s N1 _ λN2 U _ N3 Y=>Qb (J _ (by omega)) (zBt s ns).symm⟩
theorem zKr (l:List ByteArray) (hl:l.length<=2199023255552) (a:Option Addr) (c:Nat) (ad:Addr) (ns:List ByteArray) (hn:ns.length<=4611686018427387904) (a1:Option Addr) (c1:Nat) :
  zCS 191 [.sv a 0 (zA l) c,.fn 174 [.pd ad 0 (.sl a1 0 (zA ns) c1)]] (zCK (λx=>decide (x∈ns)) l 0):=λN Q hQ=>by
 have aa:=zF l
 refine uu N a _ c ad _ Q λ_=>?_
 refine up (xC l) (by omega) (λi xs=>∀ (N':Nat),N<=N'->(∀ N'',N'<=N''->Q (zCK (λx=>decide (x∈ns)) xs i) N'')->zu Q N a (zA l) c ad (.sl a1 0 (zA ns) c1) ((zA l).length:Int) i N') ?_ ?_ N (oD _) hQ
 ·intro i O _ N' U I
  refine xt _ _ _ _ _ _ _ _ _ _ ?_
  rw [O]
  exact λN'' h=>I _ (by omega)
 ·intro i x xs J _ Y N' U I
  have hb:=J.b
  have hr:=J.r
  simp only [zCK] at I
  refine xt _ _ _ _ _ _ _ _ _ _ ?_
  rw [J.lt,J.w,oJ,hr]
  refine ⟨⟨by omega,by omega⟩,x,rfl,λN1 ab=>zIO x ns hn ad a1 c1 N1 _ λN2 ac _=>Br.dec (λh N3 ae=>Qi (I _ (by omega)) (by simp [h])) λh=>Y _ (by omega) λN'' h2=>Qi (I _ (by omega)) (by rw [if_neg (by simpa using h)];simp)⟩
theorem zRJ (done:List D) (y s:D) (r:List D):(done++y::r).set done.length s=done++s::r:=by
 rw [lE _ _ (oD _),Nat.sub_self];rfl
theorem zIt (l:List ByteArray) (hl:l.length<=2199023255552) (ns:List ByteArray) (hn:ns.length<=4611686018427387904) (c:Nat) (a1:Option Addr) (c1:Nat) (N:Nat) (Q:QT [Sh.bk 0,.sl 0,.sl 0])
  (hQ:∀ x N',N<=N'->Q x none (zA (uv ns l)) c a1 (zA ns) c1 N') :
  BCalls prog 173 [Sh.bk 0,.sl 0,.sl 0] [.sb 0 0 0 (zA l).length c,.fn 174 [.pb 1 0 0 0]] [.arr 9 0 (zA l) c,.var [.sv a1 0 (zA ns) c1]] N Q:=by
 refine BCalls.cap (by kernel_rfl) λY=>?_
 have hc:=Y _ _ _ _ (nh)
 have aq:=zF l
 refine um N _ _ _ _ _ _ _ Q λE _ _=>⟨⟨rfl,rfl⟩,λa2 _ ad _ N1 ae _=>zKr l hl a2 c ad ns hn a1 c1 N1 _ λN2 ah _=>?_⟩
 rcases zGV (λx=>decide (x∈ns)) l 0 with ⟨U,h2⟩ | ⟨pre,x,post,U,h2,h3,h4⟩
 ·rw [U]
  refine ⟨ze,⟨rfl,rfl⟩,λN3 ai=>?_⟩
  have e:uv ns l=l:=by
   unfold uv
   rw [List.filter_eq_self]
   intro s hs
   simpa using h2 s hs
  rw [e] at hQ
  exact hQ _ _ (by omega)
 ·rw [h2,Int.zero_add]
  have aj:=nu List.length U
  rw [oH,oM] at aj
  have aa:uv ns l=pre++uv ns post:=by
   rw [U]
   unfold uv
   rw [List.filter_append,List.filter_cons_of_neg (by simpa using h3),List.filter_eq_self.2 λs hs=>by simpa using h4 s hs]
  rw [aa] at hQ
  refine Br.beq (λh=>by omega) λ_=>?_
  rw [i64_in _ (by omega)]
  have key:∀ (xs done:List ByteArray) (I:List D) (j:Int) (N':Nat),N<=N'->I≠[]->done++uv ns xs=pre++uv ns post->j=((done.length+I.length:Nat):Int)->done.length+I.length+xs.length=l.length ->
    zR E Q N (zA l).length c (done.length:Int) j (zA done++(I++zA xs)) c a1 (zA ns) c1 N':=by
   intro xs
   induction xs with
   | nil=>
     intro done I j N' ak hj hd O J
     have ab:=zF done
     have al:=mw.2 hj
     simp only [oS,mL] at J
     refine xg _ _ _ _ _ _ _ _ _ _ _ _ _ ?_
     rw [mQ (by omega)]
     have e1:List.take (done.length:Int).toNat (List.take (0+(done.length:Int).toNat) (zA done++(I++zA []))++(List.replicate (((zA l).length:Int).toNat - (done.length:Int).toNat) (D.t (bytes []))++List.drop (0+(done.length:Int).toNat+(((zA l).length:Int).toNat - (done.length:Int).toNat)) (zA done++(I++zA []))))=zA done:=by
      rw [oJ,om,mj (by rw [nG,oH];omega),List.take_take,Nat.min_self,mj (by omega),ow (by omega)]
     rw [e1]
     simp only [uv,List.filter_nil,nH] at hd
     have hd:done=pre++uv ns post:=hd
     have am:(zA done++(I++zA [])).length=l.length:=by simp [zA];omega
     refine ⟨⟨by omega,by omega,by omega,by omega⟩,by omega,⟨by omega,by omega⟩,?_,ze,⟨by omega,rfl⟩,λN3 ai=>?_⟩
     ·rw [oH,nG];omega
     ·rw [hd];exact hQ _ _ (by omega)
   | cons s xs ih=>
     intro done I j N' ak hj hd O J
     have ab:=zF done
     have al:=mw.2 hj
     have ao:=zF (s::xs)
     simp only [oM] at J ao
     refine xg _ _ _ _ _ _ _ _ _ _ _ _ _ ?_
     rw [mM (by omega)]
     have am:(zA done++(I++zA (s::xs))).length=l.length:=by simp only [oH];omega
     have ac:(zA done++(I++zA (s::xs))).getD (0+j.toNat) default=.t s:=by
      rw [O,oJ,om,oA,oR (by omega),oR (by omega)]
      rw [show done.length+I.length - (zA done).length - I.length=0 by omega]
      rfl
     refine ⟨⟨by omega,by omega,by omega⟩,by omega,s,ac,λad _ N1 ae _=>zIO s ns hn ad a1 c1 N1 _ λN2 ah _=>Br.ndec (λh=>⟨⟨by omega,by omega,by omega⟩,by omega,?_⟩) λh=>?_⟩
     ·rw [i64_in _ (by omega),i64_in _ (by omega),om,oJ]
      obtain ⟨y,ys,rfl⟩:=List.exists_cons_of_ne_nil hj
      have e2:(zA done++(y::ys++zA (s::xs))).set done.length (.t s)=zA (done++[s])++((ys++[.t s])++zA xs):=by
       rw [<-ab,o0,zRJ,<-vQ]
       simp [zA]
      rw [e2]
      have:=ih (done++[s]) (ys++[.t s]) (j+1) N2 (by omega) (by simp) (by rw [<-hd];simp [uv,h]) (by simp only [oH,oM,oS] at O ⊢;omega) (by simp only [oH,oM,oS] at J ⊢;omega)
      simpa using this
     ·rw [i64_in _ (by omega)]
      have:=ih done (I++[.t s]) (j+1) N2 (by omega) (by simp) (by rw [<-hd];simp [uv,h]) (by simp only [oH,oM,oS];omega) (by simp only [oH,oM,oS];omega)
      simpa [zA] using this
  have:=key post pre [.t x] ((pre.length:Int)+1) N2 (by omega) (by simp) rfl (by simp) (by simp;omega)
  rw [U]
  rw [U] at this
  simpa [zA] using this
theorem vn:∀ (t:Tm) (d:D),t.Is d->t.wd<=2199023255552->zRy 148 [.dg 9 d] t.fv:=by
 refine Tm.ind λk nm ot n0 ty re l ih d hd hG N Q O=>?_
 obtain ⟨t0,t1,r0,r1,a,es,c,rfl,hh,U,Y⟩:=Tm.is_mk.1 hd
 have hl:=Y.len
 simp only [Tm.wd] at hG
 refine zEH N _ Q λ_=>⟨_,rfl,Br.beq (λh1=>⟨_,rfl,⟨rfl,rfl⟩,λN1 au=>?_⟩) λh1 N3 aw=>zKe (n:=l.length) (by omega) N3 _ λa3 c3 N4 ax _ _ _=>⟨_,_,_,rfl,?_⟩⟩
 ·have e:(Tm.mk k nm ot n0 ty re l).fv=[nm]:=by simp [Tm.fv,h1]
  rw [e] at O
  exact O _ _ (by omega)
 ·have e:(Tm.mk k nm ot n0 ty re l).fv=uF l (zQ k l.length) (bdN k nm ot l.length) 0 []:=by simp [Tm.fv,h1]
  rw [e] at O
  rw [if_neg h1] at hG
  have ay:vJ l<=2199023255552:=by omega
  have az:rI l<=2199023255552:=by omega
  have ai:=pX k nm ot l.length
  generalize bdN k nm ot l.length=ns at O ai ⊢
  generalize zQ k l.length=at_ at O ⊢
  refine up Y U (λi xs=>∀ (out:List ByteArray) q a5 c5 N',N<=N'->out.length+vJ xs<=vJ l->uF xs at_ ns i out=uF l at_ ns 0 []->yv Q N at_ (zA out).length q a es c (es.length:Int) i a5 (zA ns) c5 (zA out) q N') ?_ ?_ [] 0 a3 c3 N4 (by omega) (by simp) rfl
  ·intro i aj hi out q a5 c5 N' ak aa he
   refine sD _ _ _ _ _ _ _ _ _ _ _ _ _ _ _ _ ?_
   rw [aj]
   simp only [uF] at he
   subst he
   exact ⟨⟨rfl,rfl⟩,λN5 al=>O _ _ (by omega)⟩
  ·intro i x xs I _ ab out q a5 c5 N' ak aa he
   have hb:=I.b
   simp only [vJ] at aa
   have a6:=yE I.m
   have ac:=zEw out (if (i:Int)=at_ then uv ns x.fv else x.fv)
   have a7:(uv ns x.fv).length<=x.fv.length:=mH _ _
   refine sD _ _ _ _ _ _ _ _ _ _ _ _ _ _ _ _ ?_
   rw [I.lt]
   refine ⟨⟨by omega,by omega⟩,λN5 al=>?_⟩
   rw [oJ,I.w]
   refine ih x I.m _ I.r (by omega) N5 _ λc6 N6 a8 _ _=>Br.beq (λh N7 ba=>zIt x.fv (by omega) ns (by omega) c6 a5 c5 N7 _ λx8 N8 bb _ _ _=>⟨⟨rfl,rfl⟩,λa9 _=>⟨⟨rfl,rfl⟩,λJ _ N9 am ae=>?_⟩⟩) λh=>⟨⟨rfl,rfl⟩,λa9 _=>⟨⟨rfl,rfl⟩,λJ _ N9 am ae=>?_⟩⟩
   ·refine tW out (uv ns x.fv) (by omega) (by omega) a9 J q c6 N9 _ λao aq ah _=>⟨zEq _,λ_=>?_⟩
    rw [if_pos h] at ac
    exact ab _ _ _ _ _ (by omega) (by omega) (by rw [<-he];simp only [uF];rw [if_pos h])
   ·refine tW out x.fv (by omega) (by omega) a9 J q c6 N9 _ λao aq ah _=>⟨zEq _,λ_=>?_⟩
    rw [if_neg h] at ac
    exact ab _ _ _ _ _ (by omega) (by omega) (by rw [<-he];simp only [uF];rw [if_neg h])
end Go.Proofs.YtfajiphkncipoaaGreatDoor
namespace Go.Proofs
namespace YtfajiphkncipoaaGreatDoor
open Go Go.Proofs Go.Proofs.Tryz Go.RowKit Go.Shelf Go.Sort Go.Lib
def itoaR:Go.Shelf.Ren:=⟨λx=>match x with | 171=>210 | 243=>211 | 246=>212 | 283=>213 | 284=>214 | 285=>215 | 286=>216 | 129=>218 | 317=>217 | 318=>219 | 319=>220 | 320=>221 | 337=>222 | 338=>223 | n=>n,λx=>match x with | 3=>3 | 9=>9 | 2=>2 | 4=>4 | 171=>166 | 0=>0 | 53=>167 | 37=>22 | 5=>5 | 173=>170 | 212=>172 | 51=>173 | 20=>20 | 213=>174 | 46=>114 | 232=>177 | 233=>178 | n=>n,λx=>match x with | 17=>0 | 18=>1 | 19=>2 | n=>n⟩
theorem itoaL:LaysM.n171 Tryz.prog itoaR where
 mixed:=by kernel_rfl
 f129:=Tryz.func218.trans (nu some (by kernel_rfl))
 f171:=Tryz.func210.trans (nu some (by kernel_rfl))
 f243:=Tryz.func211.trans (nu some (by kernel_rfl))
 f246:=Tryz.func212.trans (nu some (by kernel_rfl))
 f283:=Tryz.func213.trans (nu some (by kernel_rfl))
 f284:=Tryz.func214.trans (nu some (by kernel_rfl))
 f285:=Tryz.func215.trans (nu some (by kernel_rfl))
 f286:=Tryz.func216.trans (nu some (by kernel_rfl))
 f317:=Tryz.func217.trans (nu some (by kernel_rfl))
 f318:=Tryz.func219.trans (nu some (by kernel_rfl))
 f319:=Tryz.func220.trans (nu some (by kernel_rfl))
 f320:=Tryz.func221.trans (nu some (by kernel_rfl))
 f337:=Tryz.func222.trans (nu some (by kernel_rfl))
 f338:=Tryz.func223.trans (nu some (by kernel_rfl))
 t0:=Tryz.underlying0
 a0:=Tryz.isAgg0
 z0:=Tryz.sizeOf0
 v0:=Tryz.zeroValue0
 t2:=Tryz.underlying2
 a2:=Tryz.isAgg2
 z2:=Tryz.sizeOf2
 v2:=Tryz.zeroValue2
 t3:=Tryz.underlying3
 a3:=Tryz.isAgg3
 z3:=Tryz.sizeOf3
 v3:=Tryz.zeroValue3
 t4:=Tryz.underlying4
 a4:=Tryz.isAgg4
 z4:=Tryz.sizeOf4
 v4:=Tryz.zeroValue4
 t5:=Tryz.underlying5
 a5:=Tryz.isAgg5
 z5:=Tryz.sizeOf5
 v5:=Tryz.zeroValue5
 t9:=Tryz.underlying9
 a9:=Tryz.isAgg9
 z9:=Tryz.sizeOf9
 v9:=Tryz.zeroValue9
 t20:=Tryz.underlying20
 a20:=Tryz.isAgg20
 z20:=Tryz.sizeOf20
 v20:=Tryz.zeroValue20
 t37:=Tryz.underlying22
 a37:=Tryz.isAgg22
 z37:=Tryz.sizeOf22
 v37:=Tryz.zeroValue22
 t46:=Tryz.underlying114
 a46:=Tryz.isAgg114
 z46:=Tryz.sizeOf114
 v46:=Tryz.zeroValue114
 t51:=Tryz.underlying173
 a51:=Tryz.isAgg173
 z51:=Tryz.sizeOf173
 v51:=Tryz.zeroValue173
 t53:=Tryz.underlying167
 a53:=Tryz.isAgg167
 z53:=Tryz.sizeOf167
 v53:=Tryz.zeroValue167
 t171:=Tryz.underlying166
 a171:=Tryz.isAgg166
 z171:=Tryz.sizeOf166
 v171:=Tryz.zeroValue166
 t173:=Tryz.underlying170
 a173:=Tryz.isAgg170
 z173:=Tryz.sizeOf170
 v173:=Tryz.zeroValue170
 t212:=Tryz.underlying172
 a212:=Tryz.isAgg172
 z212:=Tryz.sizeOf172
 v212:=Tryz.zeroValue172
 t213:=Tryz.underlying174
 a213:=Tryz.isAgg174
 z213:=Tryz.sizeOf174
 t232:=Tryz.underlying177
 a232:=Tryz.isAgg177
 z232:=Tryz.sizeOf177
 v232:=Tryz.zeroValue177
 t233:=Tryz.underlying178
 a233:=Tryz.isAgg178
 z233:=Tryz.sizeOf178
 v233:=Tryz.zeroValue178
 g17:=by kernel_rfl
 g18:=by kernel_rfl
 g19:=by kernel_rfl
 i0:=by kernel_rfl
 i2:=by kernel_rfl
 i3:=by kernel_rfl
 i4:=by kernel_rfl
 i5:=by kernel_rfl
 i9:=by kernel_rfl
 i20:=by kernel_rfl
 i37:=by kernel_rfl
 i46:=by kernel_rfl
 i51:=by kernel_rfl
 i53:=by kernel_rfl
 i171:=by kernel_rfl
 i173:=by kernel_rfl
 i212:=by kernel_rfl
 i232:=by kernel_rfl
 i233:=by kernel_rfl
 m17:=by kernel_rfl
 m18:=by kernel_rfl
 m19:=by kernel_rfl
theorem zQj {w : World} (h : GlobIs w) : Lib.TabIs prog w "internal/strconv.uint64pow10" .u64 Lib.pow10Tab := by
 obtain ⟨t,fz,I⟩:=h.h _ (nh)
 unfold Lib.TabIs World.var?
 rw [itoaL.m17]
 have J:w.heap[itoaR.g 17]?=some (.cells (Lib.pow10Tab.map λn=>Value.int .u64 n).toArray t fz):=I
 simp only [me,J]
theorem zTc (u:Nat) (h1:u<=9223372036854775807) (N:Nat) (Q:QT [.str]) (U:∀ N',N<=N'->Q ⟨(Lib.decDigits u).toArray⟩ N'):ACalls prog 210 [.str] [.int .i64 u] N Q:=
 ⟨by kernel_rfl,λav w0 hN J _=>(Any.strconv_Itoa itoaL (u:Int) (by omega) (by omega) w0 (zQj J.g)).mono λe w ⟨Y,k,os,hw⟩=>by
  subst Y
  subst hN
  subst hw
  rw [Lib.itoa_nonneg]
  have I:(Go.Sort.grow (w0.drewN k) os).heap.size=w0.heap.size+os.size:=by unfold Go.Sort.grow;rw [mc];rfl
  refine ⟨[.str ⟨(Lib.decDigits u).toArray⟩],[],[],?_⟩
  exact { q:=U _ (by rw [I];omega),v:=rfl,m:=⟨rfl,by simp,by simp,by simp,λk j b h=>by obtain ⟨_,h2,_⟩:=h;simp [Env.at] at h2⟩,ok:=λp O=>by simp at O;subst O;trivial,fresh:=λk b h=>by simp [Env.at] at h,size:=by rw [I];omega,old:=λb hb=>Array.getElem?_append_left hb,fz:=λ_ _ _ _ _ _=>trivial,ku:=⟨rfl,rfl⟩ }⟩
end YtfajiphkncipoaaGreatDoor
end Go.Proofs
namespace Go.Proofs.YtfajiphkncipoaaGreatDoor
open Go Go.Proofs Go.Proofs.Tryz Go.IntWalk
def zFt (f:FuncId) (args:List PV) (s:ByteArray):Prop:=∀ (N:Nat) (Q:QT [.str]),(∀ N',N<=N'->Q s N')->ACalls prog f [.str] args N Q
theorem Qst {Q:QT [.str]} {a b:ByteArray} {N:Nat} (h:Q a N) (e:a=b):Q b N:=e ▸ h
def zTv (u:Nat):ByteArray:=⟨(Lib.decDigits u).toArray⟩
theorem zHo (u:Nat) (h:u<=4611686018427387904):Lib.nDigits u<=20:=by
 by_cases I:1<=u
 ·have:=Lib.numDigits_eq u I (by omega);split at this<;>omega
 ·rw [Lib.nDigits_small (by omega)];omega
theorem zIs (u:Nat):(zTv u).size=Lib.nDigits u:=by
 show (Lib.decDigits u).toArray.size=_
 rw [nq,Lib.decDigits_length]
theorem zDY {a b:ByteArray} (h:a.data.toList=b.data.toList):a=b:=by
 cases a;cases b;simp at h;rw [h]
theorem zQw (a b:ByteArray):(a++b).data.toList=a.data.toList++b.data.toList:=by simp
theorem zLP (k:Nat):bytes [118]++zTv k=uS k:=zDY (by rw [zQw];rfl)
theorem zMc (k:Nat) (h:k<=4611686018427387904):(uS k).size<=21:=by
 have:=zHo k h
 show (118::Lib.decDigits k).toArray.size<=21
 rw [nq,oM,Lib.decDigits_length];omega
theorem zCh (u:Nat) (h:u<=4611686018427387904):zFt 205 [.j u] (zTv u):=λN Q I=>
 zCg N u Q λN1 J=>zTc u (by omega) N1 _ λN2 O _ N3 U=>I _ (by omega)
theorem zPc (m:Nat) (s:ByteArray) (hs:∀ u,u<10->Lib.decDigits u=[UInt8.ofNat (48+u)]):(bytesOf [IntKind.u8.wrap (IntKind.i64.wrap (48+Int.tmod (m:Int) 10))]++s).data.toList=UInt8.ofNat (48+m % 10)::s.data.toList:=by
 rw [zQw]
 have e:IntKind.u8.wrap (IntKind.i64.wrap (48+Int.tmod (m:Int) 10))=((48+m % 10:Nat):Int):=by
  have:Int.tmod (m:Int) 10=((m % 10:Nat):Int):=by rw [na (by omega)];omega
  rw [this,i64_in _ (by omega),IntKind.wrap_u8];omega
 rw [e]
 have I:bytesOf [((48+m % 10:Nat):Int)]=⟨#[UInt8.ofNat (48+m % 10)]⟩:=rfl
 rw [I]
 rfl
theorem zC3 (u:Nat) (h:u<=4611686018427387904):zFt 194 [.j u] (zTv u):=λN Q hQ=>by
 have e1:∀ u,u<10->Lib.decDigits u=[UInt8.ofNat (48+u)]:=λu h=>by rw [Lib.decDigits,dif_pos h]
 have e2:∀ u,¬u<10->Lib.decDigits u=Lib.decDigits (u / 10)++[UInt8.ofNat (48+u % 10)]:=λu h=>by rw [Lib.decDigits,dif_neg h]
 refine sf N u Q (Br.beq (λh0 N1 Y=>?_) λh0=>?_)
 ·have:u=0:=by omega
  subst this
  refine Qst (hQ _ Y) (zDY ?_)
  show Lib.decDigits 0=[48]
  rw [e1 0 (by omega)]
  rfl
 ·rw [mQ (by omega)]
  have key:∀ (m:Nat) (s:ByteArray),m<=u->s.size+Lib.nDigits m<=20\/(m=0/\s.size<=20)->(if m=0 then [] else Lib.decDigits m)++s.data.toList=Lib.decDigits u->za Q N m false s N:=by
   intro m
   induction m using Nat.strongRecOn with
   | _ m ih=>
     intro s hm O he
     refine w8 _ _ _ _ _ _ ?_
     refine Br.bne (λI=>?_) λI=>?_
     ·have I:m≠0:=by omega
      have ht:Int.tmod (m:Int) 10=((m % 10:Nat):Int):=by rw [na (by omega)];omega
      have hd:Int.tdiv (m:Int) 10=((m / 10:Nat):Int):=by rw [Int.tdiv_eq_ediv_of_nonneg (by omega)];omega
      have O:s.size+Lib.nDigits m<=20:=by rcases O with U | ⟨U,_⟩;exact U;exact absurd U I
      refine ⟨by omega,?_⟩
      rw [mQ (by omega)]
      refine ⟨by simp,[IntKind.u8.wrap (IntKind.i64.wrap (48+Int.tmod (m:Int) 10))],rfl,?_,by omega,?_⟩
      ·have:(bytesOf [IntKind.u8.wrap (IntKind.i64.wrap (48+Int.tmod (m:Int) 10))]).size=1:=rfl
       omega
      ·rw [hd,i64_in _ (by omega)]
       refine ih (m / 10) (by omega) _ (by omega) ?_ ?_
       ·have U:(bytesOf [IntKind.u8.wrap (IntKind.i64.wrap (48+Int.tmod (m:Int) 10))]++s).size=1+s.size:=by
         rw [oL];rfl
        by_cases J:m<10
        ·right
         have:=Lib.nDigits_pos m
         exact ⟨by omega,by omega⟩
        ·left
         have:=Lib.nDigits_big J
         omega
       ·rw [zPc m s e1,<-he,if_neg I]
        by_cases J:m<10
        ·rw [if_pos (by omega),e1 m J,show m % 10=m by omega];rfl
        ·rw [if_neg (by omega),e2 m J];simp
     ·have:m=0:=by omega
      subst this
      refine λN2 aa=>Qst (hQ _ aa) (zDY ?_)
      rw [if_pos rfl] at he
      exact he.symm
  refine key u (bytes []) (oD _) (.inl ?_) ?_
  ·have:=zHo u h
   show 0+_<=_
   omega
  ·rw [if_neg (by omega)];exact nH _
theorem zGF (l:List ByteArray) (P:Nat->Nat->Prop) (N:Nat) (F:ByteArray->Nat->Prop) (hF:∀ N',N<=N'->F (fresh l) N')
  (step:∀ (k N':Nat),N<=N'->k<=l.length+1->(∀ N'',N'<=N''->uS k∈l->P (k+1) N'')->(∀ N'',N'<=N''->uS k∉l->F (uS k) N'')->P k N'):P 1 N:=by
 have key:∀ (f k:Nat) (N':Nat),N<=N'->1<=k->k+f=l.length+1->(∀ j,1<=j->j<k->uS j∈l)->rk f k l=rk l.length 1 l->P k N':=by
  intro f
  induction f with
  | zero=>
    intro k N' J aa ab I O
    refine step k N' J (by omega) (λN'' Y U=>?_) λN'' Y U=>?_
    ·exfalso
     have:=zQx l (k+1) (λj h4 h5=>by
      by_cases h6:j=k
      ·subst h6;exact U
      ·exact I j h4 (by omega)) (by omega)
     omega
    ·have:=hF N'' (by omega)
     unfold fresh at this
     rw [<-O] at this
     exact this
  | succ f ih=>
    intro k N' J aa ab I O
    simp only [rk] at O
    refine step k N' J (by omega) (λN'' Y U=>?_) λN'' Y U=>?_
    ·rw [if_pos U] at O
     exact ih (k+1) N'' (by omega) (by omega) (by omega) (λj h4 h5=>by
      by_cases h6:j=k
      ·subst h6;exact U
      ·exact I j h4 (by omega)) O
    ·rw [if_neg U] at O
     have:=hF N'' (by omega)
     unfold fresh at this
     rw [<-O] at this
     exact this
 exact key l.length 1 N (oD _) (oD _) (by omega) (λj Y h2=>by omega) rfl
theorem zCp (l:List ByteArray) (hl:l.length<=8796093022208) (a:Option Addr) (c:Nat):zFt 179 [.sv a 0 (zA l) c] (fresh l):=λN Q O=>by
 refine zCY N a _ c Q λ_=>?_
 refine zGF l (λk N'=>xS Q N a (zA l) c k N') N (λs N'=>Q s N') O λk N' U hk J I=>?_
 have Y:=zHo k (by omega)
 have aa:=zIs k
 refine pz _ _ _ _ _ _ _ λN1 ab=>zC3 k (by omega) N1 _ λN2 ac _=>⟨by omega,λN3 ae=>?_⟩
 rw [zLP]
 refine xH l (by omega) a c (uS k) N3 _ λN4 ah _=>?_
 simp only [zDp]
 refine Br.dec (λh N5 ai=>I _ (by omega) h) λh=>?_
 rw [i64_in _ (by omega)]
 exact J _ (by omega) (mN.1 h)
theorem zC6 (l:List ByteArray) (hl:l.length<=8796093022208) (a:Option Addr) (c:Nat):zFt 176 [.sv a 0 (zA l) c] (fresh l):=λN Q O=>by
 refine zDA N a _ c Q λ_ N1 U=>zJg N1 _ a _ c _ λ_=>?_
 refine zGF l (λk N'=>vY _ N1 (bytes [118]) a (zA l) c k N') N1 (λs N'=>∀ N'',N'<=N''->Q s N'') (λN' h N'' h2=>O _ (by omega)) λk N' Y hk J I=>?_
 have aa:=zHo k (by omega)
 have ab:=zIs k
 have hb:(bytes [118]).size=1:=rfl
 refine zFI _ _ _ _ _ _ _ _ λN2 ac=>zCh k (by omega) N2 _ λN3 ae _=>⟨by omega,λN4 ah=>?_⟩
 rw [zLP]
 refine yf l (by omega) a c (uS k) N4 _ λN5 ai _=>?_
 rw [zBt]
 refine Br.ndec (λh N6 aj=>?_) λh=>?_
 ·exact λ_ N7 ak=>I N7 (by omega) h _ (oD _)
 ·rw [i64_in _ (by omega)]
  exact J _ (by omega) h
end Go.Proofs.YtfajiphkncipoaaGreatDoor
