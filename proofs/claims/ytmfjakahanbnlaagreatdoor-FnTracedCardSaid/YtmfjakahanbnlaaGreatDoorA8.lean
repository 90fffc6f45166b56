/- Free names: the program's and the reference's. -/
import Derived.Test.YtmfjakahanbnlaaGreatDoorA7
import Derived.Shelf.Strconv.Itoa3
set_option linter.unusedVariables false
set_option linter.unusedSimpArgs false
namespace Go.Proofs.YtmfjakahanbnlaaGreatDoor
open Go Go.Proofs Go.Proofs.Tryz Go.IntWalk
mutual
/-- variables -/
def Tm.vc:Tm->Nat
 | .mk k _ _ _ _ _ l=>if k=1 then 1 else wy l
def wy:List Tm->Nat
 | []=>0
 | t::I=>t.vc+wy I
end
theorem zBo:∀ {l:List Tm} {t:Tm},t∈l->t.vc<=wy l
 | u::us,t,h=>by
   simp only [wy]
   rcases oI.1 h with rfl | h
   ·omega
   ·have:=zBo h;omega
mutual
theorem Tm.vc_cnt:∀ t:Tm,3*t.vc<=t.cnt
 | .mk k nm ot n ty re l=>by
   have:=Ty.cnt_pos ty
   have:=Ty.cnt_pos re
   have:=zKB l
   simp only [Tm.vc,Tm.cnt]
   split<;>omega
theorem zKB:∀ l:List Tm,3*wy l<=zJ l
 | []=>oD _
 | t::I=>by
   have:=Tm.vc_cnt t
   have:=zKB I
   simp only [wy,zJ];omega
end
mutual
theorem Tm.fv_len:∀ t:Tm,t.fv.length<=t.vc
 | .mk k nm ot n ty re l=>by
   simp only [Tm.fv,Tm.vc]
   split
   ·simp
   ·have:=zJK l (yr k l.length) (bdN k nm ot l.length) 0 []
    simp at this;omega
theorem zJK:∀ (l:List Tm) (at_:Int) (ns:List ByteArray) (i:Nat) (out:List ByteArray),(rB l at_ ns i out).length<=out.length+wy l
 | [],_,_,_,out=>by simp [rB]
 | x::xs,at_,ns,i,out=>by
   simp only [rB,wy]
   have J:=zJK xs at_ ns (i+1) (rn out (if (i:Int)=at_ then qC ns x.fv else x.fv))
   have I:=Tm.fv_len x
   have O:(if (i:Int)=at_ then qC ns x.fv else x.fv).length<=x.vc:=by
    split
    ·exact oT (mR _ _) I
    ·exact I
   have U:(rn out (if (i:Int)=at_ then qC ns x.fv else x.fv)).length<=out.length+(if (i:Int)=at_ then qC ns x.fv else x.fv).length:=by
    unfold rn
    have Y:=zI8 (dd [] out) (if (i:Int)=at_ then qC ns x.fv else x.fv)
    have a2:=zI8 [] out
    simp at a2;omega
   omega
end
theorem zEZ (a b:List ByteArray):(rn a b).length<=a.length+b.length:=by
 unfold rn
 have I:=zI8 (dd [] a) b
 have a2:=zI8 [] a
 simp at a2;omega
theorem zNX (ns l:List ByteArray) (s:ByteArray):(qC ns l).filter (λx=>decide (x≠s))=qC (ns++[s]) l:=by
 unfold qC
 rw [List.filter_filter]
 congr 1
 funext x
 rw [mG]
 simp
 exact And.comm
theorem zH3 (l:List ByteArray):qC [] l=l:=by simp [qC]
theorem uR:∀ (t:Tm) (d:D),t.Is d->t.vc<=2199023255552->zRs 109 [.dg 9 d] t.fv:=by
 refine Tm.ind λk nm ot n0 ty re l ih d hd hG N Q hQ=>?_
 obtain ⟨t0,t1,r0,r1,a,es,c,rfl,hh,ak,al⟩:=Tm.is_mk.1 hd
 have hl:=al.len
 simp only [Tm.vc] at hG
 refine zEC N _ Q λ_=>⟨_,rfl,Br.beq (λh1=>⟨_,rfl,⟨rfl,rfl⟩,⟨rfl,rfl⟩,λa1 N1 ax hf N2 am=>?_⟩) λh1 N3 bd=>p5 (n:=l.length) (by omega) N3 _ λa3 c3 N4 bg _ _ _=>?_⟩
 ·have e:(Tm.mk k nm ot n0 ty re l).fv=[nm]:=by simp [Tm.fv,h1]
  rw [e] at hQ
  exact hQ _ _ _ (by omega) (wZ (l:=[nm]) hf am)
 ·have e:(Tm.mk k nm ot n0 ty re l).fv=rB l (yr k l.length) (bdN k nm ot l.length) 0 []:=by simp [Tm.fv,h1]
  rw [e] at hQ
  rw [if_neg h1] at hG
  have ay:=ro k nm ot l.length
  generalize bdN k nm ot l.length=ns at hQ ay ⊢
  generalize yr k l.length=at_ at hQ ⊢
  generalize hy:(D.ag [.lit (.int .i64 k),.lit (.string nm),.lit (.string ot),.lit (.int .i64 n0),t0,t1,r0,r1,.sl a 9 es c])=y
  have ah:y.cell 8=.sl a 9 es c:=by rw [<-hy];rfl
  have bh:=zE ns
  have inner:∀ (i:Nat) (x:Tm) (out:List ByteArray) (q N1:Nat),N<=N1->out.length<=2199023255552->x.fv.length<=2199023255552 ->
    (∀ c N'',N1<=N''->zl Q N a3 (zA ns) c3 at_ (zA (rn out (if (i:Int)=at_ then qC ns x.fv else x.fv))).length c (IntKind.i64.wrap (i+1)) y (zA (rn out (if (i:Int)=at_ then qC ns x.fv else x.fv))) c N'') ->
    ∀ O U,Own N N1 (.sl O 0 (zA x.fv) U)->yU Q N a3 (zA ns) c3 at_ (zA out).length q i O (zA x.fv) U 0 y (zA out) q N1:=λi x out q N1 ax ho hx hc O U h7=>by
   have fin:∀ (Y:List ByteArray) (O:Option Addr) (U N':Nat),N1<=N'->Y=(if (i:Int)=at_ then qC ns x.fv else x.fv) ->
     ((zA out).length=(zA out).length/\q=q)/\∀ ac,ApA ac (zA out)->Off [ac] (.sl O 0 (zA Y) U)->∀ N3,N'<=N3->wL N3 [ac]->ACalls prog 175 [.row 9 0] [.sv ac 0 (zA out) q,.sv O 0 (zA Y) U] N3 (λaa ao N4=>N3<=N4->Off [ac] (D.ag aa)/\(Bel N4 (D.ag aa)->zl Q N a3 (zA ns) c3 at_ aa.length ao (IntKind.i64.wrap (i+1)) y aa ao N4)):=λY O U N' ab J=>⟨⟨rfl,rfl⟩,λa9 _ _ N5 aq bc=>by
    have h5:Y.length<=2199023255552:=by
     rw [J];split
     ·exact oT (mR _ _) hx
     ·exact hx
    refine tX out Y ho h5 a9 O q U N5 _ λc8 N8 az _=>⟨zD2 _,λ_=>?_⟩
    subst J
    exact hc _ _ (by omega)⟩
   refine up (yn ns) (by omega) (λj xs=>∀ (Y:List ByteArray) O U N',N1<=N'->Y=qC (ns.take j) x.fv->((i:Int)≠at_->j=0)->yU Q N a3 (zA ns) c3 at_ (zA out).length q i O (zA Y) U j y (zA out) q N') ?_ ?_ x.fv O U N1 (oD _) (by rw [mg,zH3]) (λ_=>rfl)
   ·intro j ai hj Y O U N' ab J I
    refine u4 _ _ _ _ _ _ _ _ _ _ _ _ _ _ _ _ _ ?_
    rw [ai]
    refine fin Y O U N' ab ?_
    rw [J,oi (by omega)]
    split
    ·rfl
    ·rename_i ae
     have:=I ae
     have:ns=[]:=oa (by omega)
     rw [this,zH3]
   ·intro j s xs I _ aj Y O U N' ab J hj
    have hb:=I.b
    have hr:=I.r
    refine u4 _ _ _ _ _ _ _ _ _ _ _ _ _ _ _ _ _ ?_
    rw [I.lt]
    refine Br.beq (λhe=>⟨⟨by omega,by omega⟩,s,?_,λN2 am=>zIf Y ?_ O U s N2 _ λa8 c8 N8 az _ _ _=>?_⟩) λae=>fin Y O U N' ab ?_
    ·rw [oG,hr]
    ·rw [J];exact oT (mR _ _) hx
    ·rw [I.w]
     refine aj _ _ _ _ (by omega) ?_ (λhc=>absurd he hc)
     rw [J,zNX,wm I.g]
    ·rw [if_neg ae,J,hj ae,mg,zH3]
  refine up al ak (λi xs=>∀ (out:List ByteArray) (q N':Nat),N<=N'->out.length+wy xs<=wy l->rB xs at_ ns i out=rB l at_ ns 0 []->zl Q N a3 (zA ns) c3 at_ (zA out).length q i y (zA out) q N') ?_ ?_ [] 0 N4 (by omega) (by simp) rfl
  ·intro i ai hi out q N' ab _ he
   refine t6 _ _ _ _ _ _ _ _ _ _ _ _ _ ⟨_,_,_,ah,?_⟩
   rw [ai]
   simp only [rB] at he
   subst he
   exact ⟨⟨rfl,rfl⟩,⟨rfl,rfl⟩,⟨rfl,rfl⟩,λa1 N5 aq hf N6 au=>hQ _ _ _ (by omega) (wZ hf au)⟩
  ·intro i x xs I _ aj out q N' ab ba he
   have hb:=I.b
   simp only [wy] at ba
   have aw:=Tm.fv_len x
   have bi:=zEZ out (if (i:Int)=at_ then qC ns x.fv else x.fv)
   have bj:(if (i:Int)=at_ then qC ns x.fv else x.fv).length<=x.vc:=by
    split
    ·exact oT (mR _ _) aw
    ·exact aw
   refine t6 _ _ _ _ _ _ _ _ _ _ _ _ _ ⟨_,_,_,ah,?_⟩
   rw [I.lt]
   refine ⟨_,_,_,ah,⟨by omega,by omega⟩,λN5 aq=>?_⟩
   rw [oG]
   refine ih x I.m _ I.r (by omega) N5 _ λa6 c6 N6 au bb _ _=>inner i x out q N6 (by omega) (by omega) (by omega) (λc N'' h1=>?_) a6 c6 (bb.mono (by omega) (oD _))
   rw [I.w]
   exact aj _ _ _ (by omega) (by omega) (by rw [<-he];rfl)
theorem BCalls.cap {f:FuncId} {full:List Sh} {args:List PV} {bx:List Bx} {N:Nat} {Q:QT full} (hc:yv prog f=true) (h:(∀ t z es n,Bx.arr t z es n∈bx->es.length<=n)->BCalls prog f full args bx N Q):BCalls prog f full args bx N Q:=
 ⟨hc,λav w0 E J O I U Y=>(h λt z es n hm=>by
  obtain ⟨k,hk⟩:=oO.1 hm
  rcases I.br k _ hk (by simp) with ⟨_,e1,e2⟩ | ⟨b,c,_,_,_,e,_⟩
  ·rw [e1,e2];exact oD _
  ·exact e).h av w0 E J O I U Y⟩
theorem zG0 {α:Type} (p:α->Bool):∀ (l:List α) (i:Int),(zC4 p l i = -1/\∀ x∈l,p x=false)\/∃ pre x post,l=pre++x::post/\zC4 p l i=i+(pre.length:Int)/\p x=true/\∀ y∈pre,p y=false
 | [],i=>.inl ⟨rfl,by simp⟩
 | x :: l,i=>by
   simp only [zC4]
   by_cases I:p x=true
   ·exact .inr ⟨[],x,l,rfl,by simp [I],I,by simp⟩
   ·rcases zG0 p l (i+1) with ⟨J,O⟩ | ⟨pre,y,post,J,O,U,Y⟩
    ·refine .inl ⟨by rw [if_neg I,J],λy hy=>?_⟩
     rcases oI.1 hy with rfl | hy
     ·simpa using I
     ·exact O y hy
    ·refine .inr ⟨x::pre,y,post,by rw [J];rfl,by rw [if_neg I,O];simp only [oN];omega,U,λz hz=>?_⟩
     rcases oI.1 hz with rfl | hz
     ·simpa using I
     ·exact Y z hz
theorem zJI (s:ByteArray) (ns:List ByteArray) (I:ns.length<=4611686018427387904) (ad:Addr) (a:Option Addr) (c:Nat):ue 183 [.str s,.pd ad 0 (.sl a 0 (zA ns) c)] (decide (s∈ns)):=λN Q J=>by
 refine qr N s ad _ Q ⟨_,_,_,rfl,λN1 O=>yb ns I a c s N1 _ λN2 U _ N3 Y=>Qb (J _ (by omega)) (zBP s ns).symm⟩
theorem zLR (l:List ByteArray) (hl:l.length<=2199023255552) (a:Option Addr) (c:Nat) (ad:Addr) (ns:List ByteArray) (hn:ns.length<=4611686018427387904) (O:Option Addr) (U:Nat) :
  pc 240 [.sv a 0 (zA l) c,.fn 183 [.pd ad 0 (.sl O 0 (zA ns) U)]] (zC4 (λx=>decide (x∈ns)) l 0):=λN Q hQ=>by
 have ac:=zE l
 refine uc N a _ c ad _ Q λ_=>?_
 refine up (yn l) (by omega) (λi xs=>∀ (N':Nat),N<=N'->(∀ N'',N'<=N''->Q (zC4 (λx=>decide (x∈ns)) xs i) N'')->zq Q N a (zA l) c ad (.sl O 0 (zA ns) U) ((zA l).length:Int) i N') ?_ ?_ N (oD _) hQ
 ·intro i Y _ N' aa I
  refine xk _ _ _ _ _ _ _ _ _ _ ?_
  rw [Y]
  exact λN'' h=>I _ (by omega)
 ·intro i x xs J _ ab N' aa I
  have hb:=J.b
  have hr:=J.r
  simp only [zC4] at I
  refine xk _ _ _ _ _ _ _ _ _ _ ?_
  rw [J.lt,J.w,oG,hr]
  refine ⟨⟨by omega,by omega⟩,x,rfl,λN1 ae=>zJI x ns hn ad O U N1 _ λN2 ah _=>Br.dec (λh N3 ai=>Qi (I _ (by omega)) (by simp [h])) λh=>ab _ (by omega) λN'' h2=>Qi (I _ (by omega)) (by rw [if_neg (by simpa using h)];simp)⟩
theorem zSI (done:List D) (y s:D) (r:List D):(done++y::r).set done.length s=done++s::r:=by
 rw [mz _ _ (oD _),Nat.sub_self];rfl
theorem zI3 (l:List ByteArray) (hl:l.length<=2199023255552) (ns:List ByteArray) (hn:ns.length<=4611686018427387904) (c:Nat) (Y:Option Addr) (c1:Nat) (N:Nat) (Q:QT [Sh.bk 0,.sl 0,.sl 0])
  (hQ:∀ x N',N<=N'->Q x none (zA (qC ns l)) c Y (zA ns) c1 N') :
  BCalls prog 182 [Sh.bk 0,.sl 0,.sl 0] [.sb 0 0 0 (zA l).length c,.fn 183 [.pb 1 0 0 0]] [.arr 9 0 (zA l) c,.var [.sv Y 0 (zA ns) c1]] N Q:=by
 refine BCalls.cap (by kernel_rfl) λaa=>?_
 have hc:=aa _ _ _ _ (List.mem_cons_self)
 have au:=zE l
 refine uI N _ _ _ _ _ _ _ Q λE _ _=>⟨⟨rfl,rfl⟩,λa2 _ ad _ N1 ah _=>zLR l hl a2 c ad ns hn Y c1 N1 _ λN2 ai _=>?_⟩
 rcases zG0 (λx=>decide (x∈ns)) l 0 with ⟨U,h2⟩ | ⟨pre,x,post,U,h2,h3,h4⟩
 ·rw [U]
  refine ⟨zU,⟨rfl,rfl⟩,λN3 aj=>?_⟩
  have e:qC ns l=l:=by
   unfold qC
   rw [List.filter_eq_self]
   intro s hs
   simpa using h2 s hs
  rw [e] at hQ
  exact hQ _ _ (by omega)
 ·rw [h2,Int.zero_add]
  have ak:=nP List.length U
  rw [oH,oN] at ak
  have ab:qC ns l=pre++qC ns post:=by
   rw [U]
   unfold qC
   rw [List.filter_append,List.filter_cons_of_neg (by simpa using h3),List.filter_eq_self.2 λs hs=>by simpa using h4 s hs]
  rw [ab] at hQ
  refine Br.beq (λh=>by omega) λ_=>?_
  rw [i64_in _ (by omega)]
  have key:∀ (xs done:List ByteArray) (I:List D) (j:Int) (N':Nat),N<=N'->I≠[]->done++qC ns xs=pre++qC ns post->j=((done.length+I.length:Nat):Int)->done.length+I.length+xs.length=l.length ->
    zO E Q N (zA l).length c (done.length:Int) j (zA done++(I++zA xs)) c Y (zA ns) c1 N':=by
   intro xs
   induction xs with
   | nil=>
     intro done I j N' al hj hd O J
     have ac:=zE done
     have am:=mm.2 hj
     simp only [oV,mI] at J
     refine xc _ _ _ _ _ _ _ _ _ _ _ _ _ ?_
     rw [mH (by omega)]
     have e1:List.take (done.length:Int).toNat (List.take (0+(done.length:Int).toNat) (zA done++(I++zA []))++(List.replicate (((zA l).length:Int).toNat - (done.length:Int).toNat) (D.lit (.string (bytes [])))++List.drop (0+(done.length:Int).toNat+(((zA l).length:Int).toNat - (done.length:Int).toNat)) (zA done++(I++zA []))))=zA done:=by
      rw [oG,o0,ma (by rw [nD,oH];omega),List.take_take,Nat.min_self,ma (by omega),oi (by omega)]
     rw [e1]
     simp only [qC,List.filter_nil,om] at hd
     have hd:done=pre++qC ns post:=hd
     have ao:(zA done++(I++zA [])).length=l.length:=by simp [zA];omega
     refine ⟨⟨by omega,by omega,by omega,by omega⟩,by omega,⟨by omega,by omega⟩,?_,zU,⟨by omega,rfl⟩,λN3 aj=>?_⟩
     ·rw [oH,nD];omega
     ·rw [hd];exact hQ _ _ (by omega)
   | cons s xs ih=>
     intro done I j N' al hj hd O J
     have ac:=zE done
     have am:=mm.2 hj
     have aq:=zE (s::xs)
     simp only [oN] at J aq
     refine xc _ _ _ _ _ _ _ _ _ _ _ _ _ ?_
     rw [mD (by omega)]
     have ao:(zA done++(I++zA (s::xs))).length=l.length:=by simp only [oH];omega
     have ae:(zA done++(I++zA (s::xs))).getD (0+j.toNat) default=.lit (.string s):=by
      rw [O,oG,o0,oA,oP (by omega),oP (by omega)]
      rw [show done.length+I.length - (zA done).length - I.length=0 by omega]
      rfl
     refine ⟨⟨by omega,by omega,by omega⟩,by omega,s,ae,λad _ N1 ah _=>zJI s ns hn ad Y c1 N1 _ λN2 ai _=>Br.ndec (λh=>⟨⟨by omega,by omega,by omega⟩,by omega,?_⟩) λh=>?_⟩
     ·rw [i64_in _ (by omega),i64_in _ (by omega),o0,oG]
      obtain ⟨y,ys,rfl⟩:=List.exists_cons_of_ne_nil hj
      have e2:(zA done++(y::ys++zA (s::xs))).set done.length (.lit (.string s))=zA (done++[s])++((ys++[.lit (.string s)])++zA xs):=by
       rw [<-ac,nC,zSI,<-w7]
       simp [zA]
      rw [e2]
      have:=ih (done++[s]) (ys++[.lit (.string s)]) (j+1) N2 (by omega) (by simp) (by rw [<-hd];simp [qC,h]) (by simp only [oH,oN,oV] at O ⊢;omega) (by simp only [oH,oN,oV] at J ⊢;omega)
      simpa using this
     ·rw [i64_in _ (by omega)]
      have:=ih done (I++[.lit (.string s)]) (j+1) N2 (by omega) (by simp) (by rw [<-hd];simp [qC,h]) (by simp only [oH,oN,oV];omega) (by simp only [oH,oN,oV];omega)
      simpa [zA] using this
  have:=key post pre [.lit (.string x)] ((pre.length:Int)+1) N2 (by omega) (by simp) rfl (by simp) (by simp;omega)
  rw [U]
  rw [U] at this
  simpa [zA] using this
theorem uA:∀ (t:Tm) (d:D),t.Is d->t.vc<=2199023255552->zRh 116 [.dg 9 d] t.fv:=by
 refine Tm.ind λk nm ot n0 ty re l ih d hd hG N Q O=>?_
 obtain ⟨t0,t1,r0,r1,a,es,c,rfl,hh,U,Y⟩:=Tm.is_mk.1 hd
 have hl:=Y.len
 simp only [Tm.vc] at hG
 refine zEc N _ Q λ_=>⟨_,rfl,Br.beq (λh1=>⟨_,rfl,⟨rfl,rfl⟩,λN1 aw=>?_⟩) λh1 N3 ax=>zLY (n:=l.length) (by omega) N3 _ λa3 c3 N4 ay _ _ _=>⟨_,_,_,rfl,?_⟩⟩
 ·have e:(Tm.mk k nm ot n0 ty re l).fv=[nm]:=by simp [Tm.fv,h1]
  rw [e] at O
  exact O _ _ (by omega)
 ·have e:(Tm.mk k nm ot n0 ty re l).fv=rB l (yr k l.length) (bdN k nm ot l.length) 0 []:=by simp [Tm.fv,h1]
  rw [e] at O
  rw [if_neg h1] at hG
  have ai:=ro k nm ot l.length
  generalize bdN k nm ot l.length=ns at O ai ⊢
  generalize yr k l.length=at_ at O ⊢
  refine up Y U (λi xs=>∀ (out:List ByteArray) q a5 c5 N',N<=N'->out.length+wy xs<=wy l->rB xs at_ ns i out=rB l at_ ns 0 []->yo Q N at_ (zA out).length q a es c (es.length:Int) i a5 (zA ns) c5 (zA out) q N') ?_ ?_ [] 0 a3 c3 N4 (by omega) (by simp) rfl
  ·intro i aj hi out q a5 c5 N' ak aa he
   refine tw _ _ _ _ _ _ _ _ _ _ _ _ _ _ _ _ ?_
   rw [aj]
   simp only [rB] at he
   subst he
   exact ⟨⟨rfl,rfl⟩,λN5 al=>O _ _ (by omega)⟩
  ·intro i x xs I _ ab out q a5 c5 N' ak aa he
   have hb:=I.b
   simp only [wy] at aa
   have am:=Tm.fv_len x
   have ac:=zEZ out (if (i:Int)=at_ then qC ns x.fv else x.fv)
   have az:(qC ns x.fv).length<=x.vc:=oT (mR _ _) am
   refine tw _ _ _ _ _ _ _ _ _ _ _ _ _ _ _ _ ?_
   rw [I.lt]
   refine ⟨⟨by omega,by omega⟩,λN5 al=>?_⟩
   rw [oG,I.w]
   refine ih x I.m _ I.r (by omega) N5 _ λc6 N6 a1 _ _=>Br.beq (λh N7 a6=>zI3 x.fv (by omega) ns (by omega) c6 a5 c5 N7 _ λx8 N8 a7 _ _ _=>⟨⟨rfl,rfl⟩,λa9 _=>⟨⟨rfl,rfl⟩,λJ _ N9 ao ae=>?_⟩⟩) λh=>⟨⟨rfl,rfl⟩,λa9 _=>⟨⟨rfl,rfl⟩,λJ _ N9 ao ae=>?_⟩⟩
   ·refine te out (qC ns x.fv) (by omega) (by omega) a9 J q c6 N9 _ λaq au ah _=>⟨zD2 _,λ_=>?_⟩
    rw [if_pos h] at ac
    exact ab _ _ _ _ _ (by omega) (by omega) (by rw [<-he];simp only [rB];rw [if_pos h])
   ·refine te out x.fv (by omega) (by omega) a9 J q c6 N9 _ λaq au ah _=>⟨zD2 _,λ_=>?_⟩
    rw [if_neg h] at ac
    exact ab _ _ _ _ _ (by omega) (by omega) (by rw [<-he];simp only [rB];rw [if_neg h])
end Go.Proofs.YtmfjakahanbnlaaGreatDoor
namespace Go.Proofs
namespace YtmfjakahanbnlaaGreatDoor
open Go Go.Proofs Go.Proofs.Tryz Go.RowKit Go.Shelf Go.Sort Go.Lib
def itoaR:Go.Shelf.Ren:=⟨λx=>match x with | 171=>246 | 243=>279 | 246=>295 | 283=>304 | 284=>305 | 285=>306 | 286=>307 | 129=>310 | 317=>309 | 318=>311 | 319=>312 | 320=>313 | 337=>314 | 338=>315 | n=>n,λx=>match x with | 3=>3 | 9=>9 | 2=>2 | 4=>4 | 171=>269 | 0=>0 | 53=>270 | 37=>59 | 5=>5 | 173=>273 | 212=>276 | 51=>277 | 20=>20 | 213=>278 | 46=>208 | 232=>281 | 233=>282 | n=>n,λx=>match x with | 17=>1 | 18=>2 | 19=>3 | n=>n⟩
theorem itoaL:LaysM.n171 Tryz.prog itoaR where
 mixed:=by kernel_rfl
 f129:=Tryz.func310.trans (nP some (by kernel_rfl))
 f171:=Tryz.func246.trans (nP some (by kernel_rfl))
 f243:=Tryz.func279.trans (nP some (by kernel_rfl))
 f246:=Tryz.func295.trans (nP some (by kernel_rfl))
 f283:=Tryz.func304.trans (nP some (by kernel_rfl))
 f284:=Tryz.func305.trans (nP some (by kernel_rfl))
 f285:=Tryz.func306.trans (nP some (by kernel_rfl))
 f286:=Tryz.func307.trans (nP some (by kernel_rfl))
 f317:=Tryz.func309.trans (nP some (by kernel_rfl))
 f318:=Tryz.func311.trans (nP some (by kernel_rfl))
 f319:=Tryz.func312.trans (nP some (by kernel_rfl))
 f320:=Tryz.func313.trans (nP some (by kernel_rfl))
 f337:=Tryz.func314.trans (nP some (by kernel_rfl))
 f338:=Tryz.func315.trans (nP some (by kernel_rfl))
 t0:=Tryz.underlying0
 a0:=Tryz.isAgg0
 z0:=Tryz.sizeOf0
 v0:=Tryz.zeroValue0
 t2:=Tryz.underlying2
 a2:=Tryz.isAgg2
 z2:=Tryz.sizeOf2
 v2:=Tryz.zeroValue2
 t3:=Tryz.underlying3
 a3:=Tryz.isAgg3
 z3:=Tryz.sizeOf3
 v3:=Tryz.zeroValue3
 t4:=Tryz.underlying4
 a4:=Tryz.isAgg4
 z4:=Tryz.sizeOf4
 v4:=Tryz.zeroValue4
 t5:=Tryz.underlying5
 a5:=Tryz.isAgg5
 z5:=Tryz.sizeOf5
 v5:=Tryz.zeroValue5
 t9:=Tryz.underlying9
 a9:=Tryz.isAgg9
 z9:=Tryz.sizeOf9
 v9:=Tryz.zeroValue9
 t20:=Tryz.underlying20
 a20:=Tryz.isAgg20
 z20:=Tryz.sizeOf20
 v20:=Tryz.zeroValue20
 t37:=Tryz.underlying59
 a37:=Tryz.isAgg59
 z37:=Tryz.sizeOf59
 v37:=Tryz.zeroValue59
 t46:=Tryz.underlying208
 a46:=Tryz.isAgg208
 z46:=Tryz.sizeOf208
 v46:=Tryz.zeroValue208
 t51:=Tryz.underlying277
 a51:=Tryz.isAgg277
 z51:=Tryz.sizeOf277
 v51:=Tryz.zeroValue277
 t53:=Tryz.underlying270
 a53:=Tryz.isAgg270
 z53:=Tryz.sizeOf270
 v53:=Tryz.zeroValue270
 t171:=Tryz.underlying269
 a171:=Tryz.isAgg269
 z171:=Tryz.sizeOf269
 v171:=Tryz.zeroValue269
 t173:=Tryz.underlying273
 a173:=Tryz.isAgg273
 z173:=Tryz.sizeOf273
 v173:=Tryz.zeroValue273
 t212:=Tryz.underlying276
 a212:=Tryz.isAgg276
 z212:=Tryz.sizeOf276
 v212:=Tryz.zeroValue276
 t213:=Tryz.underlying278
 a213:=Tryz.isAgg278
 z213:=Tryz.sizeOf278
 t232:=Tryz.underlying281
 a232:=Tryz.isAgg281
 z232:=Tryz.sizeOf281
 v232:=Tryz.zeroValue281
 t233:=Tryz.underlying282
 a233:=Tryz.isAgg282
 z233:=Tryz.sizeOf282
 v233:=Tryz.zeroValue282
 g17:=by kernel_rfl
 g18:=by kernel_rfl
 g19:=by kernel_rfl
 i0:=by kernel_rfl
 i2:=by kernel_rfl
 i3:=by kernel_rfl
 i4:=by kernel_rfl
 i5:=by kernel_rfl
 i9:=by kernel_rfl
 i20:=by kernel_rfl
 i37:=by kernel_rfl
 i46:=by kernel_rfl
 i51:=by kernel_rfl
 i53:=by kernel_rfl
 i171:=by kernel_rfl
 i173:=by kernel_rfl
 i212:=by kernel_rfl
 i232:=by kernel_rfl
 i233:=by kernel_rfl
 m17:=by kernel_rfl
 m18:=by kernel_rfl
 m19:=by kernel_rfl
theorem zPj {w : World} (h : GlobIs w) : Lib.TabIs prog w "internal/strconv.uint64pow10" .u64 Lib.pow10Tab := by
 obtain ⟨t,fz,I⟩:=h.h _ (List.mem_cons_self)
 unfold Lib.TabIs World.var?
 rw [itoaL.m17]
 have J:w.heap[itoaR.g 17]?=some (.cells (Lib.pow10Tab.map λn=>Value.int .u64 n).toArray t fz):=I
 simp only [mW,J]
theorem zS0 (u:Nat) (h1:u<=9223372036854775807) (N:Nat) (Q:QT [.str]) (U:∀ N',N<=N'->Q ⟨(Lib.decDigits u).toArray⟩ N'):ACalls prog 246 [.str] [.int .i64 u] N Q:=
 ⟨by kernel_rfl,λav w0 hN J _=>(Any.strconv_Itoa itoaL (u:Int) (by omega) (by omega) w0 (zPj J.g)).mono λe w ⟨Y,k,os,hw⟩=>by
  subst Y
  subst hN
  subst hw
  rw [Lib.itoa_nonneg]
  have I:(Go.Sort.grow (w0.drewN k) os).heap.size=w0.heap.size+os.size:=by unfold Go.Sort.grow;rw [mU];rfl
  refine ⟨[.str ⟨(Lib.decDigits u).toArray⟩],[],[],?_⟩
  exact { q:=U _ (by rw [I];omega),v:=rfl,m:=⟨rfl,by simp,by simp,by simp,λk j b h=>by obtain ⟨_,h2,_⟩:=h;simp [Env.at] at h2⟩,ok:=λp O=>by simp at O;subst O;trivial,fresh:=λk b h=>by simp [Env.at] at h,size:=by rw [I];omega,old:=λb hb=>Array.getElem?_append_left hb,fz:=λ_ _ _ _ _ _=>trivial,ku:=⟨rfl,rfl⟩ }⟩
end YtmfjakahanbnlaaGreatDoor
end Go.Proofs
namespace Go.Proofs.YtmfjakahanbnlaaGreatDoor
open Go Go.Proofs Go.Proofs.Tryz Go.IntWalk
def rT (f:FuncId) (args:List PV) (s:ByteArray):Prop:=∀ (N:Nat) (Q:QT [.str]),(∀ N',N<=N'->Q s N')->ACalls prog f [.str] args N Q
theorem Qst {Q:QT [.str]} {a b:ByteArray} {N:Nat} (h:Q a N) (e:a=b):Q b N:=e ▸ h
def zTm (u:Nat):ByteArray:=⟨(Lib.decDigits u).toArray⟩
theorem zHf (u:Nat) (h:u<=4611686018427387904):Lib.nDigits u<=20:=by
 by_cases I:1<=u
 ·have:=Lib.numDigits_eq u I (by omega);split at this<;>omega
 ·rw [Lib.nDigits_small (by omega)];omega
theorem zJ7 (u:Nat):(zTm u).size=Lib.nDigits u:=by
 show (Lib.decDigits u).toArray.size=_
 rw [nh,Lib.decDigits_length]
theorem uG {a b:ByteArray} (h:a.data.toList=b.data.toList):a=b:=by
 cases a;cases b;simp at h;rw [h]
theorem zGX (a b:ByteArray):(a++b).data.toList=a.data.toList++b.data.toList:=by simp
theorem zLx (k:Nat):bytes [118]++zTm k=uT k:=uG (by rw [zGX];rfl)
theorem zM9 (k:Nat) (h:k<=4611686018427387904):(uT k).size<=21:=by
 have:=zHf k h
 show (118::Lib.decDigits k).toArray.size<=21
 rw [nh,oN,Lib.decDigits_length];omega
theorem zCn (u:Nat) (h:u<=4611686018427387904):rT 190 [.int .i64 u] (zTm u):=λN Q I=>
 zDJ N u Q λN1 J=>zS0 u (by omega) N1 _ λN2 O _ N3 U=>I _ (by omega)
theorem zQx (m:Nat) (s:ByteArray) (hs:∀ u,u<10->Lib.decDigits u=[UInt8.ofNat (48+u)]):(bytesOf [IntKind.u8.wrap (IntKind.i64.wrap (48+Int.tmod (m:Int) 10))]++s).data.toList=UInt8.ofNat (48+m % 10)::s.data.toList:=by
 rw [zGX]
 have e:IntKind.u8.wrap (IntKind.i64.wrap (48+Int.tmod (m:Int) 10))=((48+m % 10:Nat):Int):=by
  have:Int.tmod (m:Int) 10=((m % 10:Nat):Int):=by rw [nX (by omega)];omega
  rw [this,i64_in _ (by omega),IntKind.wrap_u8];omega
 rw [e]
 have I:bytesOf [((48+m % 10:Nat):Int)]=⟨#[UInt8.ofNat (48+m % 10)]⟩:=rfl
 rw [I]
 rfl
theorem zCe (u:Nat) (h:u<=4611686018427387904):rT 188 [.int .i64 u] (zTm u):=λN Q hQ=>by
 have e1:∀ u,u<10->Lib.decDigits u=[UInt8.ofNat (48+u)]:=λu h=>by rw [Lib.decDigits,dif_pos h]
 have e2:∀ u,¬u<10->Lib.decDigits u=Lib.decDigits (u / 10)++[UInt8.ofNat (48+u % 10)]:=λu h=>by rw [Lib.decDigits,dif_neg h]
 refine sU N u Q (Br.beq (λh0 N1 Y=>?_) λh0=>?_)
 ·have:u=0:=by omega
  subst this
  refine Qst (hQ _ Y) (uG ?_)
  show Lib.decDigits 0=[48]
  rw [e1 0 (by omega)]
  rfl
 ·rw [mH (by omega)]
  have key:∀ (m:Nat) (s:ByteArray),m<=u->s.size+Lib.nDigits m<=20\/(m=0/\s.size<=20)->(if m=0 then [] else Lib.decDigits m)++s.data.toList=Lib.decDigits u->zY Q N m false s N:=by
   intro m
   induction m using Nat.strongRecOn with
   | _ m ih=>
     intro s hm O he
     refine wu _ _ _ _ _ _ ?_
     refine Br.bne (λI=>?_) λI=>?_
     ·have I:m≠0:=by omega
      have ht:Int.tmod (m:Int) 10=((m % 10:Nat):Int):=by rw [nX (by omega)];omega
      have hd:Int.tdiv (m:Int) 10=((m / 10:Nat):Int):=by rw [Int.tdiv_eq_ediv_of_nonneg (by omega)];omega
      have O:s.size+Lib.nDigits m<=20:=by rcases O with U | ⟨U,_⟩;exact U;exact absurd U I
      refine ⟨by omega,?_⟩
      rw [mH (by omega)]
      refine ⟨by simp,[IntKind.u8.wrap (IntKind.i64.wrap (48+Int.tmod (m:Int) 10))],rfl,?_,by omega,?_⟩
      ·have:(bytesOf [IntKind.u8.wrap (IntKind.i64.wrap (48+Int.tmod (m:Int) 10))]).size=1:=rfl
       omega
      ·rw [hd,i64_in _ (by omega)]
       refine ih (m / 10) (by omega) _ (by omega) ?_ ?_
       ·have U:(bytesOf [IntKind.u8.wrap (IntKind.i64.wrap (48+Int.tmod (m:Int) 10))]++s).size=1+s.size:=by
         rw [oJ];rfl
        by_cases J:m<10
        ·right
         have:=Lib.nDigits_pos m
         exact ⟨by omega,by omega⟩
        ·left
         have:=Lib.nDigits_big J
         omega
       ·rw [zQx m s e1,<-he,if_neg I]
        by_cases J:m<10
        ·rw [if_pos (by omega),e1 m J,show m % 10=m by omega];rfl
        ·rw [if_neg (by omega),e2 m J];simp
     ·have:m=0:=by omega
      subst this
      refine λN2 aa=>Qst (hQ _ aa) (uG ?_)
      rw [if_pos rfl] at he
      exact he.symm
  refine key u (bytes []) (oD _) (.inl ?_) ?_
  ·have:=zHf u h
   show 0+_<=_
   omega
  ·rw [if_neg (by omega)];exact om _
theorem zGu (l:List ByteArray) (P:Nat->Nat->Prop) (N:Nat) (F:ByteArray->Nat->Prop) (hF:∀ N',N<=N'->F (fresh l) N')
  (step:∀ (k N':Nat),N<=N'->k<=l.length+1->(∀ N'',N'<=N''->uT k∈l->P (k+1) N'')->(∀ N'',N'<=N''->uT k∉l->F (uT k) N'')->P k N'):P 1 N:=by
 have key:∀ (f k:Nat) (N':Nat),N<=N'->1<=k->k+f=l.length+1->(∀ j,1<=j->j<k->uT j∈l)->rq f k l=rq l.length 1 l->P k N':=by
  intro f
  induction f with
  | zero=>
    intro k N' J aa ab I O
    refine step k N' J (by omega) (λN'' Y U=>?_) λN'' Y U=>?_
    ·exfalso
     have:=zQ3 l (k+1) (λj h4 h5=>by
      by_cases h6:j=k
      ·subst h6;exact U
      ·exact I j h4 (by omega)) (by omega)
     omega
    ·have:=hF N'' (by omega)
     unfold fresh at this
     rw [<-O] at this
     exact this
  | succ f ih=>
    intro k N' J aa ab I O
    simp only [rq] at O
    refine step k N' J (by omega) (λN'' Y U=>?_) λN'' Y U=>?_
    ·rw [if_pos U] at O
     exact ih (k+1) N'' (by omega) (by omega) (by omega) (λj h4 h5=>by
      by_cases h6:j=k
      ·subst h6;exact U
      ·exact I j h4 (by omega)) O
    ·rw [if_neg U] at O
     have:=hF N'' (by omega)
     unfold fresh at this
     rw [<-O] at this
     exact this
 exact key l.length 1 N (oD _) (oD _) (by omega) (λj Y h2=>by omega) rfl
theorem zDN (l:List ByteArray) (hl:l.length<=8796093022208) (a:Option Addr) (c:Nat):rT 282 [.sv a 0 (zA l) c] (fresh l):=λN Q O=>by
 refine zC9 N a _ c Q λ_=>?_
 refine zGu l (λk N'=>xK Q N a (zA l) c k N') N (λs N'=>Q s N') O λk N' U hk J I=>?_
 have Y:=zHf k (by omega)
 have aa:=zJ7 k
 refine zAR _ _ _ _ _ _ _ λN1 ab=>zCe k (by omega) N1 _ λN2 ac _=>⟨by omega,λN3 ae=>?_⟩
 rw [zLx]
 refine y9 l (by omega) a c (uT k) N3 _ λN4 ah _=>?_
 rw [zE8]
 refine Br.dec (λh N5 ai=>I _ (by omega) h) λh=>?_
 rw [i64_in _ (by omega)]
 exact J _ (by omega) (mE.1 h)
theorem zCv (l:List ByteArray) (hl:l.length<=8796093022208) (a:Option Addr) (c:Nat):rT 293 [.sv a 0 (zA l) c] (fresh l):=λN Q O=>by
 refine zCf N a _ c Q λ_ N1 U=>zJj N1 _ a _ c _ λ_=>?_
 refine zGu l (λk N'=>vL _ N1 (bytes [118]) a (zA l) c k N') N1 (λs N'=>∀ N'',N'<=N''->Q s N'') (λN' h N'' h2=>O _ (by omega)) λk N' Y hk J I=>?_
 have aa:=zHf k (by omega)
 have ab:=zJ7 k
 have hb:(bytes [118]).size=1:=rfl
 refine zGN _ _ _ _ _ _ _ _ λN2 ac=>zCn k (by omega) N2 _ λN3 ae _=>⟨by omega,λN4 ah=>?_⟩
 rw [zLx]
 refine yb l (by omega) a c (uT k) N4 _ λN5 ai _=>?_
 rw [zBP]
 refine Br.ndec (λh N6 aj=>?_) λh=>?_
 ·exact λ_ N7 ak=>I N7 (by omega) h _ (oD _)
 ·rw [i64_in _ (by omega)]
  exact J _ (by omega) h
end Go.Proofs.YtmfjakahanbnlaaGreatDoor
