/- Free names: the program's and the reference's. -/
import Derived.Test.YtfajiphkncipoaaGreatDoorA7
import Derived.Shelf.Strconv.Itoa3
set_option linter.unusedVariables false
set_option linter.unusedSimpArgs false
namespace Go.Proofs.YtfajiphkncipoaaGreatDoor
open Go Go.Proofs Go.Proofs.Tryz Go.IntWalk
mutual
/-- variables -/
def Tm.vc:Tm->Nat
 | .mk k _ _ _ _ _ l=>if k=1 then 1 else vI l
def vI:List Tm->Nat
 | []=>0
 | t::I=>t.vc+vI I
end
theorem zBw:∀ {l:List Tm} {t:Tm},t∈l->t.vc<=vI l
 | u::us,t,h=>by
   simp only [vI]
   rcases oI.1 h with rfl | h
   ·omega
   ·have:=zBw h;omega
mutual
theorem Tm.vc_cnt:∀ t:Tm,3*t.vc<=t.cnt
 | .mk k nm ot n ty re l=>by
   have:=Ty.cnt_pos ty
   have:=Ty.cnt_pos re
   have:=zJk l
   simp only [Tm.vc,Tm.cnt]
   split<;>omega
theorem zJk:∀ l:List Tm,3*vI l<=zN l
 | []=>oB _
 | t::I=>by
   have:=Tm.vc_cnt t
   have:=zJk I
   simp only [vI,zN];omega
end
mutual
theorem Tm.fv_len:∀ t:Tm,t.fv.length<=t.vc
 | .mk k nm ot n ty re l=>by
   simp only [Tm.fv,Tm.vc]
   split
   ·simp
   ·have:=zJV l (xB k l.length) (bdN k nm ot l.length) 0 []
    simp at this;omega
theorem zJV:∀ (l:List Tm) (at_:Int) (ns:List ByteArray) (i:Nat) (out:List ByteArray),(rE l at_ ns i out).length<=out.length+vI l
 | [],_,_,_,out=>by simp [rE]
 | x::xs,at_,ns,i,out=>by
   simp only [rE,vI]
   have J:=zJV xs at_ ns (i+1) (rR out (if (i:Int)=at_ then rl ns x.fv else x.fv))
   have I:=Tm.fv_len x
   have O:(if (i:Int)=at_ then rl ns x.fv else x.fv).length<=x.vc:=by
    split
    ·exact oR (mc _ _) I
    ·exact I
   have U:(rR out (if (i:Int)=at_ then rl ns x.fv else x.fv)).length<=out.length+(if (i:Int)=at_ then rl ns x.fv else x.fv).length:=by
    unfold rR
    have Y:=zJb (dd [] out) (if (i:Int)=at_ then rl ns x.fv else x.fv)
    have a2:=zJb [] out
    simp at a2;omega
   omega
end
theorem zEy (a b:List ByteArray):(rR a b).length<=a.length+b.length:=by
 unfold rR
 have I:=zJb (dd [] a) b
 have a2:=zJb [] a
 simp at a2;omega
theorem zNJ (ns l:List ByteArray) (s:ByteArray):(rl ns l).filter (λx=>decide (x≠s))=rl (ns++[s]) l:=by
 unfold rl
 rw [List.filter_filter]
 congr 1
 funext x
 rw [mR]
 simp
 exact And.comm
theorem zHS (l:List ByteArray):rl [] l=l:=by simp [rl]
theorem uT:∀ (t:Tm) (d:D),t.Is d->t.vc<=2199023255552->zSC 49 [.dg 9 d] t.fv:=by
 refine Tm.ind λk nm ot n0 ty re l ih d hd hG N Q hQ=>?_
 obtain ⟨t0,t1,r0,r1,a,es,c,rfl,hh,ak,al⟩:=Tm.is_mk.1 hd
 have hl:=al.len
 simp only [Tm.vc] at hG
 refine zEZ N _ Q λ_=>⟨_,rfl,Br.beq (λh1=>⟨_,rfl,⟨rfl,rfl⟩,⟨rfl,rfl⟩,λa1 N1 ax hf N2 am=>?_⟩) λh1 N3 bd=>zAt (n:=l.length) (by omega) N3 _ λa3 c3 N4 bg _ _ _=>?_⟩
 ·have e:(Tm.mk k nm ot n0 ty re l).fv=[nm]:=by simp [Tm.fv,h1]
  rw [e] at hQ
  exact hQ _ _ _ (by omega) (wY (l:=[nm]) hf am)
 ·have e:(Tm.mk k nm ot n0 ty re l).fv=rE l (xB k l.length) (bdN k nm ot l.length) 0 []:=by simp [Tm.fv,h1]
  rw [e] at hQ
  rw [if_neg h1] at hG
  have ay:=ri k nm ot l.length
  generalize bdN k nm ot l.length=ns at hQ ay ⊢
  generalize xB k l.length=at_ at hQ ⊢
  generalize hy:(D.ag [.j k,.t nm,.t ot,.j n0,t0,t1,r0,r1,.sl a 9 es c])=y
  have ah:y.cell 8=.sl a 9 es c:=by rw [<-hy];rfl
  have bh:=zJ ns
  have inner:∀ (i:Nat) (x:Tm) (out:List ByteArray) (q N1:Nat),N<=N1->out.length<=2199023255552->x.fv.length<=2199023255552 ->
    (∀ c N'',N1<=N''->zy Q N a3 (zA ns) c3 at_ (zA (rR out (if (i:Int)=at_ then rl ns x.fv else x.fv))).length c (IntKind.i64.wrap (i+1)) y (zA (rR out (if (i:Int)=at_ then rl ns x.fv else x.fv))) c N'') ->
    ∀ O U,Own N N1 (.sl O 0 (zA x.fv) U)->yd Q N a3 (zA ns) c3 at_ (zA out).length q i O (zA x.fv) U 0 y (zA out) q N1:=λi x out q N1 ax ho hx hc O U h7=>by
   have fin:∀ (Y:List ByteArray) (O:Option Addr) (U N':Nat),N1<=N'->Y=(if (i:Int)=at_ then rl ns x.fv else x.fv) ->
     ((zA out).length=(zA out).length/\q=q)/\∀ ac,ApA ac (zA out)->Off [ac] (.sl O 0 (zA Y) U)->∀ N3,N'<=N3->xX N3 [ac]->ACalls prog 84 [.row 9 0] [.sv ac 0 (zA out) q,.sv O 0 (zA Y) U] N3 (λaa ao N4=>N3<=N4->Off [ac] (D.ag aa)/\(Bel N4 (D.ag aa)->zy Q N a3 (zA ns) c3 at_ aa.length ao (IntKind.i64.wrap (i+1)) y aa ao N4)):=λY O U N' ab J=>⟨⟨rfl,rfl⟩,λa9 _ _ N5 aq bc=>by
    have h5:Y.length<=2199023255552:=by
     rw [J];split
     ·exact oR (mc _ _) hx
     ·exact hx
    refine tY out Y ho h5 a9 O q U N5 _ λc8 N8 az _=>⟨zEs _,λ_=>?_⟩
    subst J
    exact hc _ _ (by omega)⟩
   refine up (xI ns) (by omega) (λj xs=>∀ (Y:List ByteArray) O U N',N1<=N'->Y=rl (ns.take j) x.fv->((i:Int)≠at_->j=0)->yd Q N a3 (zA ns) c3 at_ (zA out).length q i O (zA Y) U j y (zA out) q N') ?_ ?_ x.fv O U N1 (oB _) (by rw [mN,zHS]) (λ_=>rfl)
   ·intro j ai hj Y O U N' ab J I
    refine tB _ _ _ _ _ _ _ _ _ _ _ _ _ _ _ _ _ ?_
    rw [ai]
    refine fin Y O U N' ab ?_
    rw [J,od (by omega)]
    split
    ·rfl
    ·rename_i ae
     have:=I ae
     have:ns=[]:=oa (by omega)
     rw [this,zHS]
   ·intro j s xs I _ aj Y O U N' ab J hj
    have hb:=I.b
    have hr:=I.r
    refine tB _ _ _ _ _ _ _ _ _ _ _ _ _ _ _ _ _ ?_
    rw [I.lt]
    refine Br.beq (λhe=>⟨⟨by omega,by omega⟩,s,?_,λN2 am=>zGy Y ?_ O U s N2 _ λa8 c8 N8 az _ _ _=>?_⟩) λae=>fin Y O U N' ab ?_
    ·rw [oF,hr]
    ·rw [J];exact oR (mc _ _) hx
    ·rw [I.w]
     refine aj _ _ _ _ (by omega) ?_ (λhc=>absurd he hc)
     rw [J,zNJ,xN I.g]
    ·rw [if_neg ae,J,hj ae,mN,zHS]
  refine up al ak (λi xs=>∀ (out:List ByteArray) (q N':Nat),N<=N'->out.length+vI xs<=vI l->rE xs at_ ns i out=rE l at_ ns 0 []->zy Q N a3 (zA ns) c3 at_ (zA out).length q i y (zA out) q N') ?_ ?_ [] 0 N4 (by omega) (by simp) rfl
  ·intro i ai hi out q N' ab _ he
   refine tj _ _ _ _ _ _ _ _ _ _ _ _ _ ⟨_,_,_,ah,?_⟩
   rw [ai]
   simp only [rE] at he
   subst he
   exact ⟨⟨rfl,rfl⟩,⟨rfl,rfl⟩,⟨rfl,rfl⟩,λa1 N5 aq hf N6 au=>hQ _ _ _ (by omega) (wY hf au)⟩
  ·intro i x xs I _ aj out q N' ab ba he
   have hb:=I.b
   simp only [vI] at ba
   have aw:=Tm.fv_len x
   have bi:=zEy out (if (i:Int)=at_ then rl ns x.fv else x.fv)
   have bj:(if (i:Int)=at_ then rl ns x.fv else x.fv).length<=x.vc:=by
    split
    ·exact oR (mc _ _) aw
    ·exact aw
   refine tj _ _ _ _ _ _ _ _ _ _ _ _ _ ⟨_,_,_,ah,?_⟩
   rw [I.lt]
   refine ⟨_,_,_,ah,⟨by omega,by omega⟩,λN5 aq=>?_⟩
   rw [oF]
   refine ih x I.m _ I.r (by omega) N5 _ λa6 c6 N6 au bb _ _=>inner i x out q N6 (by omega) (by omega) (by omega) (λc N'' h1=>?_) a6 c6 (bb.mono (by omega) (oB _))
   rw [I.w]
   exact aj _ _ _ (by omega) (by omega) (by rw [<-he];rfl)
theorem BCalls.cap {f:FuncId} {full:List Sh} {args:List PV} {bx:List Bx} {N:Nat} {Q:QT full} (hc:xG prog f=true) (h:(∀ t z es n,Bx.arr t z es n∈bx->es.length<=n)->BCalls prog f full args bx N Q):BCalls prog f full args bx N Q:=
 ⟨hc,λav w0 E J O I U Y=>(h λt z es n hm=>by
  obtain ⟨k,hk⟩:=oO.1 hm
  rcases I.br k _ hk (by simp) with ⟨_,e1,e2⟩ | ⟨b,c,_,_,_,e,_⟩
  ·rw [e1,e2];exact oB _
  ·exact e).h av w0 E J O I U Y⟩
theorem zGi {α:Type} (p:α->Bool):∀ (l:List α) (i:Int),(zCP p l i = -1/\∀ x∈l,p x=false)\/∃ pre x post,l=pre++x::post/\zCP p l i=i+(pre.length:Int)/\p x=true/\∀ y∈pre,p y=false
 | [],i=>.inl ⟨rfl,by simp⟩
 | x :: l,i=>by
   simp only [zCP]
   by_cases I:p x=true
   ·exact .inr ⟨[],x,l,rfl,by simp [I],I,by simp⟩
   ·rcases zGi p l (i+1) with ⟨J,O⟩ | ⟨pre,y,post,J,O,U,Y⟩
    ·refine .inl ⟨by rw [if_neg I,J],λy hy=>?_⟩
     rcases oI.1 hy with rfl | hy
     ·simpa using I
     ·exact O y hy
    ·refine .inr ⟨x::pre,y,post,by rw [J];rfl,by rw [if_neg I,O];simp only [oN];omega,U,λz hz=>?_⟩
     rcases oI.1 hz with rfl | hz
     ·simpa using I
     ·exact Y z hz
theorem zIU (s:ByteArray) (ns:List ByteArray) (I:ns.length<=4611686018427387904) (ad:Addr) (a:Option Addr) (c:Nat):uo 174 [.str s,.pd ad 0 (.sl a 0 (zA ns) c)] (decide (s∈ns)):=λN Q J=>by
 refine qi N s ad _ Q ⟨_,_,_,rfl,λN1 O=>yj ns I a c s N1 _ λN2 U _ N3 Y=>Qb (J _ (by omega)) (zBt s ns).symm⟩
theorem zKp (l:List ByteArray) (hl:l.length<=2199023255552) (a:Option Addr) (c:Nat) (ad:Addr) (ns:List ByteArray) (hn:ns.length<=4611686018427387904) (O:Option Addr) (U:Nat) :
  zBL 191 [.sv a 0 (zA l) c,.fn 174 [.pd ad 0 (.sl O 0 (zA ns) U)]] (zCP (λx=>decide (x∈ns)) l 0):=λN Q hQ=>by
 have ac:=zJ l
 refine uu N a _ c ad _ Q λ_=>?_
 refine up (xI l) (by omega) (λi xs=>∀ (N':Nat),N<=N'->(∀ N'',N'<=N''->Q (zCP (λx=>decide (x∈ns)) xs i) N'')->yA Q N a (zA l) c ad (.sl O 0 (zA ns) U) ((zA l).length:Int) i N') ?_ ?_ N (oB _) hQ
 ·intro i Y _ N' aa I
  refine wB _ _ _ _ _ _ _ _ _ _ ?_
  rw [Y]
  exact λN'' h=>I _ (by omega)
 ·intro i x xs J _ ab N' aa I
  have hb:=J.b
  have hr:=J.r
  simp only [zCP] at I
  refine wB _ _ _ _ _ _ _ _ _ _ ?_
  rw [J.lt,J.w,oF,hr]
  refine ⟨⟨by omega,by omega⟩,x,rfl,λN1 ae=>zIU x ns hn ad O U N1 _ λN2 ah _=>Br.dec (λh N3 ai=>Qi (I _ (by omega)) (by simp [h])) λh=>ab _ (by omega) λN'' h2=>Qi (I _ (by omega)) (by rw [if_neg (by simpa using h)];simp)⟩
theorem zRB (done:List D) (y s:D) (r:List D):(done++y::r).set done.length s=done++s::r:=by
 rw [ma _ _ (oB _),Nat.sub_self];rfl
theorem zIt (l:List ByteArray) (hl:l.length<=2199023255552) (ns:List ByteArray) (hn:ns.length<=4611686018427387904) (c:Nat) (Y:Option Addr) (c1:Nat) (N:Nat) (Q:QT [Sh.bk 0,.sl 0,.sl 0])
  (hQ:∀ x N',N<=N'->Q x none (zA (rl ns l)) c Y (zA ns) c1 N') :
  BCalls prog 173 [Sh.bk 0,.sl 0,.sl 0] [.sb 0 0 0 (zA l).length c,.fn 174 [.pb 1 0 0 0]] [.arr 9 0 (zA l) c,.var [.sv Y 0 (zA ns) c1]] N Q:=by
 refine BCalls.cap (by kernel_rfl) λaa=>?_
 have hc:=aa _ _ _ _ (List.mem_cons_self)
 have au:=zJ l
 refine uk N _ _ _ _ _ _ _ Q λE _ _=>⟨⟨rfl,rfl⟩,λa2 _ ad _ N1 ah _=>zKp l hl a2 c ad ns hn Y c1 N1 _ λN2 ai _=>?_⟩
 rcases zGi (λx=>decide (x∈ns)) l 0 with ⟨U,h2⟩ | ⟨pre,x,post,U,h2,h3,h4⟩
 ·rw [U]
  refine ⟨zP,⟨rfl,rfl⟩,λN3 aj=>?_⟩
  have e:rl ns l=l:=by
   unfold rl
   rw [List.filter_eq_self]
   intro s hs
   simpa using h2 s hs
  rw [e] at hQ
  exact hQ _ _ (by omega)
 ·rw [h2,Int.zero_add]
  have ak:=nh List.length U
  rw [oH,oN] at ak
  have ab:rl ns l=pre++rl ns post:=by
   rw [U]
   unfold rl
   rw [List.filter_append,List.filter_cons_of_neg (by simpa using h3),List.filter_eq_self.2 λs hs=>by simpa using h4 s hs]
  rw [ab] at hQ
  refine Br.beq (λh=>by omega) λ_=>?_
  rw [i64_in _ (by omega)]
  have key:∀ (xs done:List ByteArray) (I:List D) (j:Int) (N':Nat),N<=N'->I≠[]->done++rl ns xs=pre++rl ns post->j=((done.length+I.length:Nat):Int)->done.length+I.length+xs.length=l.length ->
    zT E Q N (zA l).length c (done.length:Int) j (zA done++(I++zA xs)) c Y (zA ns) c1 N':=by
   intro xs
   induction xs with
   | nil=>
     intro done I j N' al hj hd O J
     have ac:=zJ done
     have am:=mv.2 hj
     simp only [oZ,mT] at J
     refine xp _ _ _ _ _ _ _ _ _ _ _ _ _ ?_
     rw [mS (by omega)]
     have e1:List.take (done.length:Int).toNat (List.take (0+(done.length:Int).toNat) (zA done++(I++zA []))++(List.replicate (((zA l).length:Int).toNat - (done.length:Int).toNat) (D.t (bytes []))++List.drop (0+(done.length:Int).toNat+(((zA l).length:Int).toNat - (done.length:Int).toNat)) (zA done++(I++zA []))))=zA done:=by
      rw [oF,oe,mM (by rw [ou,oH];omega),List.take_take,Nat.min_self,mM (by omega),od (by omega)]
     rw [e1]
     simp only [rl,List.filter_nil,o7] at hd
     have hd:done=pre++rl ns post:=hd
     have ao:(zA done++(I++zA [])).length=l.length:=by simp [zA];omega
     refine ⟨⟨by omega,by omega,by omega,by omega⟩,by omega,⟨by omega,by omega⟩,?_,zP,⟨by omega,rfl⟩,λN3 aj=>?_⟩
     ·rw [oH,ou];omega
     ·rw [hd];exact hQ _ _ (by omega)
   | cons s xs ih=>
     intro done I j N' al hj hd O J
     have ac:=zJ done
     have am:=mv.2 hj
     have aq:=zJ (s::xs)
     simp only [oN] at J aq
     refine xp _ _ _ _ _ _ _ _ _ _ _ _ _ ?_
     rw [mO (by omega)]
     have ao:(zA done++(I++zA (s::xs))).length=l.length:=by simp only [oH];omega
     have ae:(zA done++(I++zA (s::xs))).getD (0+j.toNat) default=.t s:=by
      rw [O,oF,oe,oA,oP (by omega),oP (by omega)]
      rw [show done.length+I.length - (zA done).length - I.length=0 by omega]
      rfl
     refine ⟨⟨by omega,by omega,by omega⟩,by omega,s,ae,λad _ N1 ah _=>zIU s ns hn ad Y c1 N1 _ λN2 ai _=>Br.ndec (λh=>⟨⟨by omega,by omega,by omega⟩,by omega,?_⟩) λh=>?_⟩
     ·rw [i64_in _ (by omega),i64_in _ (by omega),oe,oF]
      obtain ⟨y,ys,rfl⟩:=List.exists_cons_of_ne_nil hj
      have e2:(zA done++(y::ys++zA (s::xs))).set done.length (.t s)=zA (done++[s])++((ys++[.t s])++zA xs):=by
       rw [<-ac,oq,zRB,<-vR]
       simp [zA]
      rw [e2]
      have:=ih (done++[s]) (ys++[.t s]) (j+1) N2 (by omega) (by simp) (by rw [<-hd];simp [rl,h]) (by simp only [oH,oN,oZ] at O ⊢;omega) (by simp only [oH,oN,oZ] at J ⊢;omega)
      simpa using this
     ·rw [i64_in _ (by omega)]
      have:=ih done (I++[.t s]) (j+1) N2 (by omega) (by simp) (by rw [<-hd];simp [rl,h]) (by simp only [oH,oN,oZ];omega) (by simp only [oH,oN,oZ];omega)
      simpa [zA] using this
  have:=key post pre [.t x] ((pre.length:Int)+1) N2 (by omega) (by simp) rfl (by simp) (by simp;omega)
  rw [U]
  rw [U] at this
  simpa [zA] using this
theorem uW:∀ (t:Tm) (d:D),t.Is d->t.vc<=2199023255552->zRm 148 [.dg 9 d] t.fv:=by
 refine Tm.ind λk nm ot n0 ty re l ih d hd hG N Q O=>?_
 obtain ⟨t0,t1,r0,r1,a,es,c,rfl,hh,U,Y⟩:=Tm.is_mk.1 hd
 have hl:=Y.len
 simp only [Tm.vc] at hG
 refine zEN N _ Q λ_=>⟨_,rfl,Br.beq (λh1=>⟨_,rfl,⟨rfl,rfl⟩,λN1 aw=>?_⟩) λh1 N3 ax=>zKa (n:=l.length) (by omega) N3 _ λa3 c3 N4 ay _ _ _=>⟨_,_,_,rfl,?_⟩⟩
 ·have e:(Tm.mk k nm ot n0 ty re l).fv=[nm]:=by simp [Tm.fv,h1]
  rw [e] at O
  exact O _ _ (by omega)
 ·have e:(Tm.mk k nm ot n0 ty re l).fv=rE l (xB k l.length) (bdN k nm ot l.length) 0 []:=by simp [Tm.fv,h1]
  rw [e] at O
  rw [if_neg h1] at hG
  have ai:=ri k nm ot l.length
  generalize bdN k nm ot l.length=ns at O ai ⊢
  generalize xB k l.length=at_ at O ⊢
  refine up Y U (λi xs=>∀ (out:List ByteArray) q a5 c5 N',N<=N'->out.length+vI xs<=vI l->rE xs at_ ns i out=rE l at_ ns 0 []->yy Q N at_ (zA out).length q a es c (es.length:Int) i a5 (zA ns) c5 (zA out) q N') ?_ ?_ [] 0 a3 c3 N4 (by omega) (by simp) rfl
  ·intro i aj hi out q a5 c5 N' ak aa he
   refine t6 _ _ _ _ _ _ _ _ _ _ _ _ _ _ _ _ ?_
   rw [aj]
   simp only [rE] at he
   subst he
   exact ⟨⟨rfl,rfl⟩,λN5 al=>O _ _ (by omega)⟩
  ·intro i x xs I _ ab out q a5 c5 N' ak aa he
   have hb:=I.b
   simp only [vI] at aa
   have am:=Tm.fv_len x
   have ac:=zEy out (if (i:Int)=at_ then rl ns x.fv else x.fv)
   have az:(rl ns x.fv).length<=x.vc:=oR (mc _ _) am
   refine t6 _ _ _ _ _ _ _ _ _ _ _ _ _ _ _ _ ?_
   rw [I.lt]
   refine ⟨⟨by omega,by omega⟩,λN5 al=>?_⟩
   rw [oF,I.w]
   refine ih x I.m _ I.r (by omega) N5 _ λc6 N6 a1 _ _=>Br.beq (λh N7 a6=>zIt x.fv (by omega) ns (by omega) c6 a5 c5 N7 _ λx8 N8 a7 _ _ _=>⟨⟨rfl,rfl⟩,λa9 _=>⟨⟨rfl,rfl⟩,λJ _ N9 ao ae=>?_⟩⟩) λh=>⟨⟨rfl,rfl⟩,λa9 _=>⟨⟨rfl,rfl⟩,λJ _ N9 ao ae=>?_⟩⟩
   ·refine tU out (rl ns x.fv) (by omega) (by omega) a9 J q c6 N9 _ λaq au ah _=>⟨zEs _,λ_=>?_⟩
    rw [if_pos h] at ac
    exact ab _ _ _ _ _ (by omega) (by omega) (by rw [<-he];simp only [rE];rw [if_pos h])
   ·refine tU out x.fv (by omega) (by omega) a9 J q c6 N9 _ λaq au ah _=>⟨zEs _,λ_=>?_⟩
    rw [if_neg h] at ac
    exact ab _ _ _ _ _ (by omega) (by omega) (by rw [<-he];simp only [rE];rw [if_neg h])
end Go.Proofs.YtfajiphkncipoaaGreatDoor
namespace Go.Proofs
namespace YtfajiphkncipoaaGreatDoor
open Go Go.Proofs Go.Proofs.Tryz Go.RowKit Go.Shelf Go.Sort Go.Lib
def itoaR:Go.Shelf.Ren:=⟨λx=>match x with | 171=>210 | 243=>211 | 246=>212 | 283=>213 | 284=>214 | 285=>215 | 286=>216 | 129=>218 | 317=>217 | 318=>219 | 319=>220 | 320=>221 | 337=>222 | 338=>223 | n=>n,λx=>match x with | 3=>3 | 9=>9 | 2=>2 | 4=>4 | 171=>166 | 0=>0 | 53=>167 | 37=>22 | 5=>5 | 173=>170 | 212=>172 | 51=>173 | 20=>20 | 213=>174 | 46=>114 | 232=>177 | 233=>178 | n=>n,λx=>match x with | 17=>0 | 18=>1 | 19=>2 | n=>n⟩
theorem itoaL:LaysM.n171 Tryz.prog itoaR where
 mixed:=by kernel_rfl
 f129:=Tryz.func218.trans (nh some (by kernel_rfl))
 f171:=Tryz.func210.trans (nh some (by kernel_rfl))
 f243:=Tryz.func211.trans (nh some (by kernel_rfl))
 f246:=Tryz.func212.trans (nh some (by kernel_rfl))
 f283:=Tryz.func213.trans (nh some (by kernel_rfl))
 f284:=Tryz.func214.trans (nh some (by kernel_rfl))
 f285:=Tryz.func215.trans (nh some (by kernel_rfl))
 f286:=Tryz.func216.trans (nh some (by kernel_rfl))
 f317:=Tryz.func217.trans (nh some (by kernel_rfl))
 f318:=Tryz.func219.trans (nh some (by kernel_rfl))
 f319:=Tryz.func220.trans (nh some (by kernel_rfl))
 f320:=Tryz.func221.trans (nh some (by kernel_rfl))
 f337:=Tryz.func222.trans (nh some (by kernel_rfl))
 f338:=Tryz.func223.trans (nh some (by kernel_rfl))
 t0:=Tryz.underlying0
 a0:=Tryz.isAgg0
 z0:=Tryz.sizeOf0
 v0:=Tryz.zeroValue0
 t2:=Tryz.underlying2
 a2:=Tryz.isAgg2
 z2:=Tryz.sizeOf2
 v2:=Tryz.zeroValue2
 t3:=Tryz.underlying3
 a3:=Tryz.isAgg3
 z3:=Tryz.sizeOf3
 v3:=Tryz.zeroValue3
 t4:=Tryz.underlying4
 a4:=Tryz.isAgg4
 z4:=Tryz.sizeOf4
 v4:=Tryz.zeroValue4
 t5:=Tryz.underlying5
 a5:=Tryz.isAgg5
 z5:=Tryz.sizeOf5
 v5:=Tryz.zeroValue5
 t9:=Tryz.underlying9
 a9:=Tryz.isAgg9
 z9:=Tryz.sizeOf9
 v9:=Tryz.zeroValue9
 t20:=Tryz.underlying20
 a20:=Tryz.isAgg20
 z20:=Tryz.sizeOf20
 v20:=Tryz.zeroValue20
 t37:=Tryz.underlying22
 a37:=Tryz.isAgg22
 z37:=Tryz.sizeOf22
 v37:=Tryz.zeroValue22
 t46:=Tryz.underlying114
 a46:=Tryz.isAgg114
 z46:=Tryz.sizeOf114
 v46:=Tryz.zeroValue114
 t51:=Tryz.underlying173
 a51:=Tryz.isAgg173
 z51:=Tryz.sizeOf173
 v51:=Tryz.zeroValue173
 t53:=Tryz.underlying167
 a53:=Tryz.isAgg167
 z53:=Tryz.sizeOf167
 v53:=Tryz.zeroValue167
 t171:=Tryz.underlying166
 a171:=Tryz.isAgg166
 z171:=Tryz.sizeOf166
 v171:=Tryz.zeroValue166
 t173:=Tryz.underlying170
 a173:=Tryz.isAgg170
 z173:=Tryz.sizeOf170
 v173:=Tryz.zeroValue170
 t212:=Tryz.underlying172
 a212:=Tryz.isAgg172
 z212:=Tryz.sizeOf172
 v212:=Tryz.zeroValue172
 t213:=Tryz.underlying174
 a213:=Tryz.isAgg174
 z213:=Tryz.sizeOf174
 t232:=Tryz.underlying177
 a232:=Tryz.isAgg177
 z232:=Tryz.sizeOf177
 v232:=Tryz.zeroValue177
 t233:=Tryz.underlying178
 a233:=Tryz.isAgg178
 z233:=Tryz.sizeOf178
 v233:=Tryz.zeroValue178
 g17:=by kernel_rfl
 g18:=by kernel_rfl
 g19:=by kernel_rfl
 i0:=by kernel_rfl
 i2:=by kernel_rfl
 i3:=by kernel_rfl
 i4:=by kernel_rfl
 i5:=by kernel_rfl
 i9:=by kernel_rfl
 i20:=by kernel_rfl
 i37:=by kernel_rfl
 i46:=by kernel_rfl
 i51:=by kernel_rfl
 i53:=by kernel_rfl
 i171:=by kernel_rfl
 i173:=by kernel_rfl
 i212:=by kernel_rfl
 i232:=by kernel_rfl
 i233:=by kernel_rfl
 m17:=by kernel_rfl
 m18:=by kernel_rfl
 m19:=by kernel_rfl
theorem zQc {w : World} (h : GlobIs w) : Lib.TabIs prog w "internal/strconv.uint64pow10" .u64 Lib.pow10Tab := by
 obtain ⟨t,fz,I⟩:=h.h _ (List.mem_cons_self)
 unfold Lib.TabIs World.var?
 rw [itoaL.m17]
 have J:w.heap[itoaR.g 17]?=some (.cells (Lib.pow10Tab.map λn=>Value.int .u64 n).toArray t fz):=I
 simp only [mi,J]
theorem zTG (u:Nat) (h1:u<=9223372036854775807) (N:Nat) (Q:QT [.str]) (U:∀ N',N<=N'->Q ⟨(Lib.decDigits u).toArray⟩ N'):ACalls prog 210 [.str] [.j u] N Q:=
 ⟨by kernel_rfl,λav w0 hN J _=>(Any.strconv_Itoa itoaL (u:Int) (by omega) (by omega) w0 (zQc J.g)).mono λe w ⟨Y,k,os,hw⟩=>by
  subst Y
  subst hN
  subst hw
  rw [Lib.itoa_nonneg]
  have I:(Go.Sort.grow (w0.drewN k) os).heap.size=w0.heap.size+os.size:=by unfold Go.Sort.grow;rw [mf];rfl
  refine ⟨[.str ⟨(Lib.decDigits u).toArray⟩],[],[],?_⟩
  exact { q:=U _ (by rw [I];omega),v:=rfl,m:=⟨rfl,by simp,by simp,by simp,λk j b h=>by obtain ⟨_,h2,_⟩:=h;simp [Env.at] at h2⟩,ok:=λp O=>by simp at O;subst O;trivial,fresh:=λk b h=>by simp [Env.at] at h,size:=by rw [I];omega,old:=λb hb=>Array.getElem?_append_left hb,fz:=λ_ _ _ _ _ _=>trivial,ku:=⟨rfl,rfl⟩ }⟩
end YtfajiphkncipoaaGreatDoor
end Go.Proofs
namespace Go.Proofs.YtfajiphkncipoaaGreatDoor
open Go Go.Proofs Go.Proofs.Tryz Go.IntWalk
def zF8 (f:FuncId) (args:List PV) (s:ByteArray):Prop:=∀ (N:Nat) (Q:QT [.str]),(∀ N',N<=N'->Q s N')->ACalls prog f [.str] args N Q
theorem Qst {Q:QT [.str]} {a b:ByteArray} {N:Nat} (h:Q a N) (e:a=b):Q b N:=e ▸ h
def zTU (u:Nat):ByteArray:=⟨(Lib.decDigits u).toArray⟩
theorem zHz (u:Nat) (h:u<=4611686018427387904):Lib.nDigits u<=20:=by
 by_cases I:1<=u
 ·have:=Lib.numDigits_eq u I (by omega);split at this<;>omega
 ·rw [Lib.nDigits_small (by omega)];omega
theorem zIs (u:Nat):(zTU u).size=Lib.nDigits u:=by
 show (Lib.decDigits u).toArray.size=_
 rw [nl,Lib.decDigits_length]
theorem zDf {a b:ByteArray} (h:a.data.toList=b.data.toList):a=b:=by
 cases a;cases b;simp at h;rw [h]
theorem zQn (a b:ByteArray):(a++b).data.toList=a.data.toList++b.data.toList:=by simp
theorem zLE (k:Nat):bytes [118]++zTU k=uO k:=zDf (by rw [zQn];rfl)
theorem zMU (k:Nat) (h:k<=4611686018427387904):(uO k).size<=21:=by
 have:=zHz k h
 show (118::Lib.decDigits k).toArray.size<=21
 rw [nl,oN,Lib.decDigits_length];omega
theorem zCm (u:Nat) (h:u<=4611686018427387904):zF8 205 [.j u] (zTU u):=λN Q I=>
 zCk N u Q λN1 J=>zTG u (by omega) N1 _ λN2 O _ N3 U=>I _ (by omega)
theorem zPW (m:Nat) (s:ByteArray) (hs:∀ u,u<10->Lib.decDigits u=[UInt8.ofNat (48+u)]):(bytesOf [IntKind.u8.wrap (IntKind.i64.wrap (48+Int.tmod (m:Int) 10))]++s).data.toList=UInt8.ofNat (48+m % 10)::s.data.toList:=by
 rw [zQn]
 have e:IntKind.u8.wrap (IntKind.i64.wrap (48+Int.tmod (m:Int) 10))=((48+m % 10:Nat):Int):=by
  have:Int.tmod (m:Int) 10=((m % 10:Nat):Int):=by rw [nc (by omega)];omega
  rw [this,i64_in _ (by omega),IntKind.wrap_u8];omega
 rw [e]
 have I:bytesOf [((48+m % 10:Nat):Int)]=⟨#[UInt8.ofNat (48+m % 10)]⟩:=rfl
 rw [I]
 rfl
theorem zC7 (u:Nat) (h:u<=4611686018427387904):zF8 194 [.j u] (zTU u):=λN Q hQ=>by
 have e1:∀ u,u<10->Lib.decDigits u=[UInt8.ofNat (48+u)]:=λu h=>by rw [Lib.decDigits,dif_pos h]
 have e2:∀ u,¬u<10->Lib.decDigits u=Lib.decDigits (u / 10)++[UInt8.ofNat (48+u % 10)]:=λu h=>by rw [Lib.decDigits,dif_neg h]
 refine sR N u Q (Br.beq (λh0 N1 Y=>?_) λh0=>?_)
 ·have:u=0:=by omega
  subst this
  refine Qst (hQ _ Y) (zDf ?_)
  show Lib.decDigits 0=[48]
  rw [e1 0 (by omega)]
  rfl
 ·rw [mS (by omega)]
  have key:∀ (m:Nat) (s:ByteArray),m<=u->s.size+Lib.nDigits m<=20\/(m=0/\s.size<=20)->(if m=0 then [] else Lib.decDigits m)++s.data.toList=Lib.decDigits u->zh Q N m false s N:=by
   intro m
   induction m using Nat.strongRecOn with
   | _ m ih=>
     intro s hm O he
     refine vB _ _ _ _ _ _ ?_
     refine Br.bne (λI=>?_) λI=>?_
     ·have I:m≠0:=by omega
      have ht:Int.tmod (m:Int) 10=((m % 10:Nat):Int):=by rw [nc (by omega)];omega
      have hd:Int.tdiv (m:Int) 10=((m / 10:Nat):Int):=by rw [Int.tdiv_eq_ediv_of_nonneg (by omega)];omega
      have O:s.size+Lib.nDigits m<=20:=by rcases O with U | ⟨U,_⟩;exact U;exact absurd U I
      refine ⟨by omega,?_⟩
      rw [mS (by omega)]
      refine ⟨by simp,[IntKind.u8.wrap (IntKind.i64.wrap (48+Int.tmod (m:Int) 10))],rfl,?_,by omega,?_⟩
      ·have:(bytesOf [IntKind.u8.wrap (IntKind.i64.wrap (48+Int.tmod (m:Int) 10))]).size=1:=rfl
       omega
      ·rw [hd,i64_in _ (by omega)]
       refine ih (m / 10) (by omega) _ (by omega) ?_ ?_
       ·have U:(bytesOf [IntKind.u8.wrap (IntKind.i64.wrap (48+Int.tmod (m:Int) 10))]++s).size=1+s.size:=by
         rw [oL];rfl
        by_cases J:m<10
        ·right
         have:=Lib.nDigits_pos m
         exact ⟨by omega,by omega⟩
        ·left
         have:=Lib.nDigits_big J
         omega
       ·rw [zPW m s e1,<-he,if_neg I]
        by_cases J:m<10
        ·rw [if_pos (by omega),e1 m J,show m % 10=m by omega];rfl
        ·rw [if_neg (by omega),e2 m J];simp
     ·have:m=0:=by omega
      subst this
      refine λN2 aa=>Qst (hQ _ aa) (zDf ?_)
      rw [if_pos rfl] at he
      exact he.symm
  refine key u (bytes []) (oB _) (.inl ?_) ?_
  ·have:=zHz u h
   show 0+_<=_
   omega
  ·rw [if_neg (by omega)];exact o7 _
theorem zGV (l:List ByteArray) (P:Nat->Nat->Prop) (N:Nat) (F:ByteArray->Nat->Prop) (hF:∀ N',N<=N'->F (fresh l) N')
  (step:∀ (k N':Nat),N<=N'->k<=l.length+1->(∀ N'',N'<=N''->uO k∈l->P (k+1) N'')->(∀ N'',N'<=N''->uO k∉l->F (uO k) N'')->P k N'):P 1 N:=by
 have key:∀ (f k:Nat) (N':Nat),N<=N'->1<=k->k+f=l.length+1->(∀ j,1<=j->j<k->uO j∈l)->rW f k l=rW l.length 1 l->P k N':=by
  intro f
  induction f with
  | zero=>
    intro k N' J aa ab I O
    refine step k N' J (by omega) (λN'' Y U=>?_) λN'' Y U=>?_
    ·exfalso
     have:=zQq l (k+1) (λj h4 h5=>by
      by_cases h6:j=k
      ·subst h6;exact U
      ·exact I j h4 (by omega)) (by omega)
     omega
    ·have:=hF N'' (by omega)
     unfold fresh at this
     rw [<-O] at this
     exact this
  | succ f ih=>
    intro k N' J aa ab I O
    simp only [rW] at O
    refine step k N' J (by omega) (λN'' Y U=>?_) λN'' Y U=>?_
    ·rw [if_pos U] at O
     exact ih (k+1) N'' (by omega) (by omega) (by omega) (λj h4 h5=>by
      by_cases h6:j=k
      ·subst h6;exact U
      ·exact I j h4 (by omega)) O
    ·rw [if_neg U] at O
     have:=hF N'' (by omega)
     unfold fresh at this
     rw [<-O] at this
     exact this
 exact key l.length 1 N (oB _) (oB _) (by omega) (λj Y h2=>by omega) rfl
theorem zCu (l:List ByteArray) (hl:l.length<=8796093022208) (a:Option Addr) (c:Nat):zF8 179 [.sv a 0 (zA l) c] (fresh l):=λN Q O=>by
 refine zCb N a _ c Q λ_=>?_
 refine zGV l (λk N'=>xW Q N a (zA l) c k N') N (λs N'=>Q s N') O λk N' U hk J I=>?_
 have Y:=zHz k (by omega)
 have aa:=zIs k
 refine pp _ _ _ _ _ _ _ λN1 ab=>zC7 k (by omega) N1 _ λN2 ac _=>⟨by omega,λN3 ae=>?_⟩
 rw [zLE]
 refine xL l (by omega) a c (uO k) N3 _ λN4 ah _=>?_
 simp only [zDx]
 refine Br.dec (λh N5 ai=>I _ (by omega) h) λh=>?_
 rw [i64_in _ (by omega)]
 exact J _ (by omega) (mP.1 h)
theorem zDA (l:List ByteArray) (hl:l.length<=8796093022208) (a:Option Addr) (c:Nat):zF8 176 [.sv a 0 (zA l) c] (fresh l):=λN Q O=>by
 refine zDH N a _ c Q λ_ N1 U=>zJi N1 _ a _ c _ λ_=>?_
 refine zGV l (λk N'=>vZ _ N1 (bytes [118]) a (zA l) c k N') N1 (λs N'=>∀ N'',N'<=N''->Q s N'') (λN' h N'' h2=>O _ (by omega)) λk N' Y hk J I=>?_
 have aa:=zHz k (by omega)
 have ab:=zIs k
 have hb:(bytes [118]).size=1:=rfl
 refine zFM _ _ _ _ _ _ _ _ λN2 ac=>zCm k (by omega) N2 _ λN3 ae _=>⟨by omega,λN4 ah=>?_⟩
 rw [zLE]
 refine yj l (by omega) a c (uO k) N4 _ λN5 ai _=>?_
 rw [zBt]
 refine Br.ndec (λh N6 aj=>?_) λh=>?_
 ·exact λ_ N7 ak=>I N7 (by omega) h _ (oB _)
 ·rw [i64_in _ (by omega)]
  exact J _ (by omega) h
end Go.Proofs.YtfajiphkncipoaaGreatDoor
