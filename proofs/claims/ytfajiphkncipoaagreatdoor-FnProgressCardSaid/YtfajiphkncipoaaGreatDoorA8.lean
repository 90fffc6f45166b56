/- Free names: the program's and the reference's. -/
import Derived.Test.YtfajiphkncipoaaGreatDoorA7
import Derived.Shelf.Strconv.Itoa3
set_option linter.unusedVariables false
set_option linter.unusedSimpArgs false
namespace Go.Proofs.YtfajiphkncipoaaGreatDoor
open Go Go.Proofs Go.Proofs.Tryz Go.IntWalk
mutual
/-- variables -/
def Tm.vc:Tm->Nat
 | .mk k _ _ _ _ _ l=>if k=1 then 1 else zAK l
def zAK:List Tm->Nat
 | []=>0
 | t::I=>t.vc+zAK I
end
theorem zFd:∀ {l:List Tm} {t:Tm},t∈l->t.vc<=zAK l
 | u::us,t,h=>by
   simp only [zAK]
   rcases oF.1 h with rfl | h
   ·omega
   ·have:=zFd h;omega
mutual
theorem Tm.vc_cnt:∀ t:Tm,3*t.vc<=t.cnt
 | .mk k nm ot n ty re l=>by
   have:=Ty.cnt_pos ty
   have:=Ty.cnt_pos re
   have:=zIu l
   simp only [Tm.vc,Tm.cnt]
   split<;>omega
theorem zIu:∀ l:List Tm,3*zAK l<=zM l
 | []=>oD _
 | t::I=>by
   have:=Tm.vc_cnt t
   have:=zIu I
   simp only [zAK,zM];omega
end
mutual
theorem Tm.fv_len:∀ t:Tm,t.fv.length<=t.vc
 | .mk k nm ot n ty re l=>by
   simp only [Tm.fv,Tm.vc]
   split
   ·simp
   ·have:=zIh l (yG k l.length) (bdN k nm ot l.length) 0 []
    simp at this;omega
theorem zIh:∀ (l:List Tm) (at_:Int) (ns:List ByteArray) (i:Nat) (out:List ByteArray),(vn l at_ ns i out).length<=out.length+zAK l
 | [],_,_,_,out=>by simp [vn]
 | x::xs,at_,ns,i,out=>by
   simp only [vn,zAK]
   have J:=zIh xs at_ ns (i+1) (u6 out (if (i:Int)=at_ then tM ns x.fv else x.fv))
   have I:=Tm.fv_len x
   have O:(if (i:Int)=at_ then tM ns x.fv else x.fv).length<=x.vc:=by
    split
    ·exact oS (mE _ _) I
    ·exact I
   have U:(u6 out (if (i:Int)=at_ then tM ns x.fv else x.fv)).length<=out.length+(if (i:Int)=at_ then tM ns x.fv else x.fv).length:=by
    unfold u6
    have a1:=zEC (dd [] out) (if (i:Int)=at_ then tM ns x.fv else x.fv)
    have a2:=zEC [] out
    simp at a2;omega
   omega
end
/-- free names of the parts, counted -/
def wy:List Tm->Nat
 | []=>0
 | t::I=>t.fv.length+wy I
mutual
/-- how many free names stand side by side, anywhere -/
def Tm.wd:Tm->Nat
 | .mk k _ _ _ _ _ l=>if k=1 then 1 else max (wy l) (sf l)
def sf:List Tm->Nat
 | []=>0
 | t::I=>max t.wd (sf I)
end
theorem zCe:∀ {l:List Tm} {n:Nat},sf l<=n↔∀ x∈l,x.wd<=n
 | [],n=>by simp [sf]
 | t::I,n=>by simp only [sf,Nat.max_le,zCe (l:=I),oF,mH]
theorem zx {l:List Tm} {t:Tm} (h:t∈l):t.wd<=sf l:=zCe.1 (oD _) t h
theorem zK4:∀ (l:List Tm) (at_:Int) (ns:List ByteArray) (i:Nat) (out:List ByteArray),(vn l at_ ns i out).length<=out.length+wy l
 | [],_,_,_,out=>by simp [vn]
 | x::xs,at_,ns,i,out=>by
   simp only [vn,wy]
   have I:=zK4 xs at_ ns (i+1) (u6 out (if (i:Int)=at_ then tM ns x.fv else x.fv))
   have J:(if (i:Int)=at_ then tM ns x.fv else x.fv).length<=x.fv.length:=by
    split
    ·exact mE _ _
    ·exact oD _
   have O:(u6 out (if (i:Int)=at_ then tM ns x.fv else x.fv)).length<=out.length+(if (i:Int)=at_ then tM ns x.fv else x.fv).length:=by
    unfold u6
    have a1:=zEC (dd [] out) (if (i:Int)=at_ then tM ns x.fv else x.fv)
    have a2:=zEC [] out
    simp at a2;omega
   omega
theorem Tm.fv_wd (t:Tm):t.fv.length<=t.wd:=by
 cases t with
 | mk k nm ot n ty re l=>
 simp only [Tm.fv,Tm.wd]
 split
 ·simp
 ·have:=zK4 l (yG k l.length) (bdN k nm ot l.length) 0 []
  simp at this;omega
theorem zKB:∀ l:List Tm,wy l<=zAK l
 | []=>oD _
 | t::I=>by
   have:=zKB I
   have:=t.fv_len
   simp only [wy,zAK];omega
theorem Tm.wd_vc:∀ t:Tm,t.wd<=t.vc:=by
 refine Tm.ind λk nm ot n ty re l J=>?_
 simp only [Tm.wd,Tm.vc]
 split
 ·exact oD _
 ·have O:=zKB l
  have U:sf l<=zAK l:=zCe.2 λx I=>oS (J x I) (zFd I)
  omega
theorem zEL (a b:List ByteArray):(u6 a b).length<=a.length+b.length:=by
 unfold u6
 have a1:=zEC (dd [] a) b
 have a2:=zEC [] a
 simp at a2;omega
theorem zMP (ns l:List ByteArray) (s:ByteArray):(tM ns l).filter (λx=>decide (x≠s))=tM (ns++[s]) l:=by
 unfold tM
 rw [List.filter_filter]
 congr 1
 funext x
 rw [mM]
 simp
 exact And.comm
theorem zGc (l:List ByteArray):tM [] l=l:=by simp [tM]
theorem vS:∀ (t:Tm) (d:D),t.Is d->t.wd<=2199023255552->zQ6 49 [.dg 9 d] t.fv:=by
 refine Tm.ind λk nm ot n0 ty re l ih d hd hG N Q hQ=>?_
 obtain ⟨t0,t1,r0,r1,a,es,c,rfl,hh,ak,al⟩:=Tm.is_mk.1 hd
 have hl:=al.len
 simp only [Tm.wd] at hG
 refine zDs N _ Q λ_=>⟨_,rfl,Br.beq (λh1=>⟨_,rfl,⟨rfl,rfl⟩,⟨rfl,rfl⟩,λa1 N1 aw hf N2 am=>?_⟩) λh1 N3 bc=>zAM (n:=l.length) (by omega) N3 _ λa3 c3 N4 bd _ _ _=>?_⟩
 ·have e:(Tm.mk k nm ot n0 ty re l).fv=[nm]:=by simp [Tm.fv,h1]
  rw [e] at hQ
  exact hQ _ _ _ (by omega) (wL (l:=[nm]) hf am)
 ·have e:(Tm.mk k nm ot n0 ty re l).fv=vn l (yG k l.length) (bdN k nm ot l.length) 0 []:=by simp [Tm.fv,h1]
  rw [e] at hQ
  rw [if_neg h1] at hG
  have bg:wy l<=2199023255552:=by omega
  have bh:sf l<=2199023255552:=by omega
  have ax:=qt k nm ot l.length
  generalize bdN k nm ot l.length=ns at hQ ax ⊢
  generalize yG k l.length=at_ at hQ ⊢
  generalize hy:(D.ag [.j k,.t nm,.t ot,.j n0,t0,t1,r0,r1,.sl a 9 es c])=y
  have ah:y.cell 8=.sl a 9 es c:=by rw [<-hy];rfl
  have bi:=zE ns
  have inner:∀ (i:Nat) (x:Tm) (out:List ByteArray) (q N1:Nat),N<=N1->out.length<=2199023255552->x.fv.length<=2199023255552 ->
    (∀ c N'',N1<=N''->zm Q N a3 (zA ns) c3 at_ (zA (u6 out (if (i:Int)=at_ then tM ns x.fv else x.fv))).length c (IntKind.i64.wrap (i+1)) y (zA (u6 out (if (i:Int)=at_ then tM ns x.fv else x.fv))) c N'') ->
    ∀ O U,Own N N1 (.sl O 0 (zA x.fv) U)->yW Q N a3 (zA ns) c3 at_ (zA out).length q i O (zA x.fv) U 0 y (zA out) q N1:=λi x out q N1 aw ho hx hc O U h7=>by
   have fin:∀ (Y:List ByteArray) (O:Option Addr) (U N':Nat),N1<=N'->Y=(if (i:Int)=at_ then tM ns x.fv else x.fv) ->
     ((zA out).length=(zA out).length/\q=q)/\∀ ac,ApA ac (zA out)->Off [ac] (.sl O 0 (zA Y) U)->∀ N3,N'<=N3->wJ N3 [ac]->ACalls prog 84 [.row 9 0] [.sv ac 0 (zA out) q,.sv O 0 (zA Y) U] N3 (λaa ao N4=>N3<=N4->Off [ac] (D.ag aa)/\(Bel N4 (D.ag aa)->zm Q N a3 (zA ns) c3 at_ aa.length ao (IntKind.i64.wrap (i+1)) y aa ao N4)):=λY O U N' ab J=>⟨⟨rfl,rfl⟩,λa9 _ _ N5 aq bb=>by
    have h5:Y.length<=2199023255552:=by
     rw [J];split
     ·exact oS (mE _ _) hx
     ·exact hx
    refine tH out Y ho h5 a9 O q U N5 _ λc8 N8 ay _=>⟨zEF _,λ_=>?_⟩
    subst J
    exact hc _ _ (by omega)⟩
   refine up (yu ns) (by omega) (λj xs=>∀ (Y:List ByteArray) O U N',N1<=N'->Y=tM (ns.take j) x.fv->((i:Int)≠at_->j=0)->yW Q N a3 (zA ns) c3 at_ (zA out).length q i O (zA Y) U j y (zA out) q N') ?_ ?_ x.fv O U N1 (oD _) (by rw [ml,zGc]) (λ_=>rfl)
   ·intro j ai hj Y O U N' ab J I
    refine uo _ _ _ _ _ _ _ _ _ _ _ _ _ _ _ _ _ ?_
    rw [ai]
    refine fin Y O U N' ab ?_
    rw [J,oq (by omega)]
    split
    ·rfl
    ·rename_i ae
     have:=I ae
     have:ns=[]:=oU (by omega)
     rw [this,zGc]
   ·intro j s xs I _ aj Y O U N' ab J hj
    have hb:=I.b
    have hr:=I.r
    refine uo _ _ _ _ _ _ _ _ _ _ _ _ _ _ _ _ _ ?_
    rw [I.lt]
    refine Br.beq (λhe=>⟨⟨by omega,by omega⟩,s,?_,λN2 am=>zF7 Y ?_ O U s N2 _ λa8 c8 N8 ay _ _ _=>?_⟩) λae=>fin Y O U N' ab ?_
    ·rw [oH,hr]
    ·rw [J];exact oS (mE _ _) hx
    ·rw [I.w]
     refine aj _ _ _ _ (by omega) ?_ (λhc=>absurd he hc)
     rw [J,zMP,wK I.g]
    ·rw [if_neg ae,J,hj ae,ml,zGc]
  refine up al ak (λi xs=>∀ (out:List ByteArray) (q N':Nat),N<=N'->out.length+wy xs<=wy l->vn xs at_ ns i out=vn l at_ ns 0 []->zm Q N a3 (zA ns) c3 at_ (zA out).length q i y (zA out) q N') ?_ ?_ [] 0 N4 (by omega) (by simp) rfl
  ·intro i ai hi out q N' ab _ he
   refine tO _ _ _ _ _ _ _ _ _ _ _ _ _ ⟨_,_,_,ah,?_⟩
   rw [ai]
   simp only [vn] at he
   subst he
   exact ⟨⟨rfl,rfl⟩,⟨rfl,rfl⟩,⟨rfl,rfl⟩,λa1 N5 aq hf N6 au=>hQ _ _ _ (by omega) (wL hf au)⟩
  ·intro i x xs I _ aj out q N' ab az he
   have hb:=I.b
   simp only [wy] at az
   have bj:=zx I.m
   have bm:=zEL out (if (i:Int)=at_ then tM ns x.fv else x.fv)
   have bn:(if (i:Int)=at_ then tM ns x.fv else x.fv).length<=x.fv.length:=by
    split
    ·exact mE _ _
    ·exact oD _
   refine tO _ _ _ _ _ _ _ _ _ _ _ _ _ ⟨_,_,_,ah,?_⟩
   rw [I.lt]
   refine ⟨_,_,_,ah,⟨by omega,by omega⟩,λN5 aq=>?_⟩
   rw [oH]
   refine ih x I.m _ I.r (by omega) N5 _ λa6 c6 N6 au ba _ _=>inner i x out q N6 (by omega) (by omega) (by omega) (λc N'' h1=>?_) a6 c6 (ba.mono (by omega) (oD _))
   rw [I.w]
   exact aj _ _ _ (by omega) (by omega) (by rw [<-he];rfl)
theorem BCalls.cap {f:FuncId} {full:List Sh} {args:List PV} {bx:List Bx} {N:Nat} {Q:QT full} (hc:xT prog f=true) (h:(∀ t z es n,Bx.arr t z es n∈bx->es.length<=n)->BCalls prog f full args bx N Q):BCalls prog f full args bx N Q:=
 ⟨hc,λav w0 E J O I U Y=>(h λt z es n hm=>by
  obtain ⟨k,hk⟩:=oO.1 hm
  rcases I.br k _ hk (by simp) with ⟨_,e1,e2⟩ | ⟨b,c,_,_,_,e,_⟩
  ·rw [e1,e2];exact oD _
  ·exact e).h av w0 E J O I U Y⟩
theorem zFr {α:Type} (p:α->Bool):∀ (l:List α) (i:Int),(zBl p l i = -1/\∀ x∈l,p x=false)\/∃ pre x post,l=pre++x::post/\zBl p l i=i+(pre.length:Int)/\p x=true/\∀ y∈pre,p y=false
 | [],i=>.inl ⟨rfl,by simp⟩
 | x :: l,i=>by
   simp only [zBl]
   by_cases I:p x=true
   ·exact .inr ⟨[],x,l,rfl,by simp [I],I,by simp⟩
   ·rcases zFr p l (i+1) with ⟨J,O⟩ | ⟨pre,y,post,J,O,U,Y⟩
    ·refine .inl ⟨by rw [if_neg I,J],λy hy=>?_⟩
     rcases oF.1 hy with rfl | hy
     ·simpa using I
     ·exact O y hy
    ·refine .inr ⟨x::pre,y,post,by rw [J];rfl,by rw [if_neg I,O];simp only [oM];omega,U,λz hz=>?_⟩
     rcases oF.1 hz with rfl | hz
     ·simpa using I
     ·exact Y z hz
theorem zHf (s:ByteArray) (ns:List ByteArray) (I:ns.length<=4611686018427387904) (ad:Addr) (a:Option Addr) (c:Nat):uX 174 [.str s,.pd ad 0 (.sl a 0 (zA ns) c)] (decide (s∈ns)):=λN Q J=>by
 refine qK N s ad _ Q ⟨_,_,_,rfl,λN1 O=>ya ns I a c s N1 _ λN2 U _ N3 Y=>Qb (J _ (by omega)) (zBK s ns).symm⟩
theorem zJ2 (l:List ByteArray) (hl:l.length<=2199023255552) (a:Option Addr) (c:Nat) (ad:Addr) (ns:List ByteArray) (hn:ns.length<=4611686018427387904) (a1:Option Addr) (c1:Nat) :
  zBs 191 [.sv a 0 (zA l) c,.fn 174 [.pd ad 0 (.sl a1 0 (zA ns) c1)]] (zBl (λx=>decide (x∈ns)) l 0):=λN Q hQ=>by
 have aa:=zE l
 refine ua N a _ c ad _ Q λ_=>?_
 refine up (yu l) (by omega) (λi xs=>∀ (N':Nat),N<=N'->(∀ N'',N'<=N''->Q (zBl (λx=>decide (x∈ns)) xs i) N'')->zn Q N a (zA l) c ad (.sl a1 0 (zA ns) c1) ((zA l).length:Int) i N') ?_ ?_ N (oD _) hQ
 ·intro i O _ N' U I
  refine xg _ _ _ _ _ _ _ _ _ _ ?_
  rw [O]
  exact λN'' h=>I _ (by omega)
 ·intro i x xs J _ Y N' U I
  have hb:=J.b
  have hr:=J.r
  simp only [zBl] at I
  refine xg _ _ _ _ _ _ _ _ _ _ ?_
  rw [J.lt,J.w,oH,hr]
  refine ⟨⟨by omega,by omega⟩,x,rfl,λN1 ab=>zHf x ns hn ad a1 c1 N1 _ λN2 ac _=>Br.dec (λh N3 ae=>Qi (I _ (by omega)) (by simp [h])) λh=>Y _ (by omega) λN'' h2=>Qi (I _ (by omega)) (by rw [if_neg (by simpa using h)];simp)⟩
theorem zP3 (done:List D) (y s:D) (r:List D):(done++y::r).set done.length s=done++s::r:=by
 rw [lA _ _ (oD _),Nat.sub_self];rfl
theorem zH6 (l:List ByteArray) (hl:l.length<=2199023255552) (ns:List ByteArray) (hn:ns.length<=4611686018427387904) (c:Nat) (a1:Option Addr) (c1:Nat) (N:Nat) (Q:QT [Sh.bk 0,.sl 0,.sl 0])
  (hQ:∀ x N',N<=N'->Q x none (zA (tM ns l)) c a1 (zA ns) c1 N') :
  BCalls prog 173 [Sh.bk 0,.sl 0,.sl 0] [.sb 0 0 0 (zA l).length c,.fn 174 [.pb 1 0 0 0]] [.arr 9 0 (zA l) c,.var [.sv a1 0 (zA ns) c1]] N Q:=by
 refine BCalls.cap (by kernel_rfl) λY=>?_
 have hc:=Y _ _ _ _ (nZ)
 have aq:=zE l
 refine uU N _ _ _ _ _ _ _ Q λE _ _=>⟨⟨rfl,rfl⟩,λa2 _ ad _ N1 ae _=>zJ2 l hl a2 c ad ns hn a1 c1 N1 _ λN2 ah _=>?_⟩
 rcases zFr (λx=>decide (x∈ns)) l 0 with ⟨U,h2⟩ | ⟨pre,x,post,U,h2,h3,h4⟩
 ·rw [U]
  refine ⟨zY,⟨rfl,rfl⟩,λN3 ai=>?_⟩
  have e:tM ns l=l:=by
   unfold tM
   rw [List.filter_eq_self]
   intro s hs
   simpa using h2 s hs
  rw [e] at hQ
  exact hQ _ _ (by omega)
 ·rw [h2,Int.zero_add]
  have aj:=np List.length U
  rw [oI,oM] at aj
  have aa:tM ns l=pre++tM ns post:=by
   rw [U]
   unfold tM
   rw [List.filter_append,List.filter_cons_of_neg (by simpa using h3),List.filter_eq_self.2 λs hs=>by simpa using h4 s hs]
  rw [aa] at hQ
  refine Br.beq (λh=>by omega) λ_=>?_
  rw [i64_in _ (by omega)]
  have key:∀ (xs done:List ByteArray) (I:List D) (j:Int) (N':Nat),N<=N'->I≠[]->done++tM ns xs=pre++tM ns post->j=((done.length+I.length:Nat):Int)->done.length+I.length+xs.length=l.length ->
    zO E Q N (zA l).length c (done.length:Int) j (zA done++(I++zA xs)) c a1 (zA ns) c1 N':=by
   intro xs
   induction xs with
   | nil=>
     intro done I j N' ak hj hd O J
     have ab:=zE done
     have al:=mr.2 hj
     simp only [oQ,mO] at J
     refine xU _ _ _ _ _ _ _ _ _ _ _ _ _ ?_
     rw [mN (by omega)]
     have e1:List.take (done.length:Int).toNat (List.take (0+(done.length:Int).toNat) (zA done++(I++zA []))++(List.replicate (((zA l).length:Int).toNat - (done.length:Int).toNat) (D.t (bytes []))++List.drop (0+(done.length:Int).toNat+(((zA l).length:Int).toNat - (done.length:Int).toNat)) (zA done++(I++zA []))))=zA done:=by
      rw [oH,o6,mb (by rw [nA,oI];omega),List.take_take,Nat.min_self,mb (by omega),oq (by omega)]
     rw [e1]
     simp only [tM,List.filter_nil,nD] at hd
     have hd:done=pre++tM ns post:=hd
     have am:(zA done++(I++zA [])).length=l.length:=by simp [zA];omega
     refine ⟨⟨by omega,by omega,by omega,by omega⟩,by omega,⟨by omega,by omega⟩,?_,zY,⟨by omega,rfl⟩,λN3 ai=>?_⟩
     ·rw [oI,nA];omega
     ·rw [hd];exact hQ _ _ (by omega)
   | cons s xs ih=>
     intro done I j N' ak hj hd O J
     have ab:=zE done
     have al:=mr.2 hj
     have ao:=zE (s::xs)
     simp only [oM] at J ao
     refine xU _ _ _ _ _ _ _ _ _ _ _ _ _ ?_
     rw [mJ (by omega)]
     have am:(zA done++(I++zA (s::xs))).length=l.length:=by simp only [oI];omega
     have ac:(zA done++(I++zA (s::xs))).getD (0+j.toNat) default=.t s:=by
      rw [O,oH,o6,oA,oP (by omega),oP (by omega)]
      rw [show done.length+I.length - (zA done).length - I.length=0 by omega]
      rfl
     refine ⟨⟨by omega,by omega,by omega⟩,by omega,s,ac,λad _ N1 ae _=>zHf s ns hn ad a1 c1 N1 _ λN2 ah _=>Br.ndec (λh=>⟨⟨by omega,by omega,by omega⟩,by omega,?_⟩) λh=>?_⟩
     ·rw [i64_in _ (by omega),i64_in _ (by omega),o6,oH]
      obtain ⟨y,ys,rfl⟩:=List.exists_cons_of_ne_nil hj
      have e2:(zA done++(y::ys++zA (s::xs))).set done.length (.t s)=zA (done++[s])++((ys++[.t s])++zA xs):=by
       rw [<-ab,o5,zP3,<-vB]
       simp [zA]
      rw [e2]
      have:=ih (done++[s]) (ys++[.t s]) (j+1) N2 (by omega) (by simp) (by rw [<-hd];simp [tM,h]) (by simp only [oI,oM,oQ] at O ⊢;omega) (by simp only [oI,oM,oQ] at J ⊢;omega)
      simpa using this
     ·rw [i64_in _ (by omega)]
      have:=ih done (I++[.t s]) (j+1) N2 (by omega) (by simp) (by rw [<-hd];simp [tM,h]) (by simp only [oI,oM,oQ];omega) (by simp only [oI,oM,oQ];omega)
      simpa [zA] using this
  have:=key post pre [.t x] ((pre.length:Int)+1) N2 (by omega) (by simp) rfl (by simp) (by simp;omega)
  rw [U]
  rw [U] at this
  simpa [zA] using this
theorem vT:∀ (t:Tm) (d:D),t.Is d->t.wd<=2199023255552->zQf 148 [.dg 9 d] t.fv:=by
 refine Tm.ind λk nm ot n0 ty re l ih d hd hG N Q O=>?_
 obtain ⟨t0,t1,r0,r1,a,es,c,rfl,hh,U,Y⟩:=Tm.is_mk.1 hd
 have hl:=Y.len
 simp only [Tm.wd] at hG
 refine zDh N _ Q λ_=>⟨_,rfl,Br.beq (λh1=>⟨_,rfl,⟨rfl,rfl⟩,λN1 au=>?_⟩) λh1 N3 aw=>zJo (n:=l.length) (by omega) N3 _ λa3 c3 N4 ax _ _ _=>⟨_,_,_,rfl,?_⟩⟩
 ·have e:(Tm.mk k nm ot n0 ty re l).fv=[nm]:=by simp [Tm.fv,h1]
  rw [e] at O
  exact O _ _ (by omega)
 ·have e:(Tm.mk k nm ot n0 ty re l).fv=vn l (yG k l.length) (bdN k nm ot l.length) 0 []:=by simp [Tm.fv,h1]
  rw [e] at O
  rw [if_neg h1] at hG
  have ay:wy l<=2199023255552:=by omega
  have az:sf l<=2199023255552:=by omega
  have ai:=qt k nm ot l.length
  generalize bdN k nm ot l.length=ns at O ai ⊢
  generalize yG k l.length=at_ at O ⊢
  refine up Y U (λi xs=>∀ (out:List ByteArray) q a5 c5 N',N<=N'->out.length+wy xs<=wy l->vn xs at_ ns i out=vn l at_ ns 0 []->yk Q N at_ (zA out).length q a es c (es.length:Int) i a5 (zA ns) c5 (zA out) q N') ?_ ?_ [] 0 a3 c3 N4 (by omega) (by simp) rfl
  ·intro i aj hi out q a5 c5 N' ak aa he
   refine tV _ _ _ _ _ _ _ _ _ _ _ _ _ _ _ _ ?_
   rw [aj]
   simp only [vn] at he
   subst he
   exact ⟨⟨rfl,rfl⟩,λN5 al=>O _ _ (by omega)⟩
  ·intro i x xs I _ ab out q a5 c5 N' ak aa he
   have hb:=I.b
   simp only [wy] at aa
   have a6:=zx I.m
   have ac:=zEL out (if (i:Int)=at_ then tM ns x.fv else x.fv)
   have a7:(tM ns x.fv).length<=x.fv.length:=mE _ _
   refine tV _ _ _ _ _ _ _ _ _ _ _ _ _ _ _ _ ?_
   rw [I.lt]
   refine ⟨⟨by omega,by omega⟩,λN5 al=>?_⟩
   rw [oH,I.w]
   refine ih x I.m _ I.r (by omega) N5 _ λc6 N6 a8 _ _=>Br.beq (λh N7 ba=>zH6 x.fv (by omega) ns (by omega) c6 a5 c5 N7 _ λx8 N8 bb _ _ _=>⟨⟨rfl,rfl⟩,λa9 _=>⟨⟨rfl,rfl⟩,λJ _ N9 am ae=>?_⟩⟩) λh=>⟨⟨rfl,rfl⟩,λa9 _=>⟨⟨rfl,rfl⟩,λJ _ N9 am ae=>?_⟩⟩
   ·refine tE out (tM ns x.fv) (by omega) (by omega) a9 J q c6 N9 _ λao aq ah _=>⟨zEF _,λ_=>?_⟩
    rw [if_pos h] at ac
    exact ab _ _ _ _ _ (by omega) (by omega) (by rw [<-he];simp only [vn];rw [if_pos h])
   ·refine tE out x.fv (by omega) (by omega) a9 J q c6 N9 _ λao aq ah _=>⟨zEF _,λ_=>?_⟩
    rw [if_neg h] at ac
    exact ab _ _ _ _ _ (by omega) (by omega) (by rw [<-he];simp only [vn];rw [if_neg h])
end Go.Proofs.YtfajiphkncipoaaGreatDoor
namespace Go.Proofs
namespace YtfajiphkncipoaaGreatDoor
open Go Go.Proofs Go.Proofs.Tryz Go.RowKit Go.Shelf Go.Sort Go.Lib
def itoaR:Go.Shelf.Ren:=⟨λx=>match x with | 171=>210 | 243=>211 | 246=>212 | 283=>213 | 284=>214 | 285=>215 | 286=>216 | 129=>218 | 317=>217 | 318=>219 | 319=>220 | 320=>221 | 337=>222 | 338=>223 | n=>n,λx=>match x with | 3=>3 | 9=>9 | 2=>2 | 4=>4 | 171=>166 | 0=>0 | 53=>167 | 37=>22 | 5=>5 | 173=>170 | 212=>172 | 51=>173 | 20=>20 | 213=>174 | 46=>114 | 232=>177 | 233=>178 | n=>n,λx=>match x with | 17=>0 | 18=>1 | 19=>2 | n=>n⟩
theorem itoaL:LaysM.n171 Tryz.prog itoaR where
 mixed:=by kernel_rfl
 f129:=Tryz.func218.trans (np some (by kernel_rfl))
 f171:=Tryz.func210.trans (np some (by kernel_rfl))
 f243:=Tryz.func211.trans (np some (by kernel_rfl))
 f246:=Tryz.func212.trans (np some (by kernel_rfl))
 f283:=Tryz.func213.trans (np some (by kernel_rfl))
 f284:=Tryz.func214.trans (np some (by kernel_rfl))
 f285:=Tryz.func215.trans (np some (by kernel_rfl))
 f286:=Tryz.func216.trans (np some (by kernel_rfl))
 f317:=Tryz.func217.trans (np some (by kernel_rfl))
 f318:=Tryz.func219.trans (np some (by kernel_rfl))
 f319:=Tryz.func220.trans (np some (by kernel_rfl))
 f320:=Tryz.func221.trans (np some (by kernel_rfl))
 f337:=Tryz.func222.trans (np some (by kernel_rfl))
 f338:=Tryz.func223.trans (np some (by kernel_rfl))
 t0:=Tryz.underlying0
 a0:=Tryz.isAgg0
 z0:=Tryz.sizeOf0
 v0:=Tryz.zeroValue0
 t2:=Tryz.underlying2
 a2:=Tryz.isAgg2
 z2:=Tryz.sizeOf2
 v2:=Tryz.zeroValue2
 t3:=Tryz.underlying3
 a3:=Tryz.isAgg3
 z3:=Tryz.sizeOf3
 v3:=Tryz.zeroValue3
 t4:=Tryz.underlying4
 a4:=Tryz.isAgg4
 z4:=Tryz.sizeOf4
 v4:=Tryz.zeroValue4
 t5:=Tryz.underlying5
 a5:=Tryz.isAgg5
 z5:=Tryz.sizeOf5
 v5:=Tryz.zeroValue5
 t9:=Tryz.underlying9
 a9:=Tryz.isAgg9
 z9:=Tryz.sizeOf9
 v9:=Tryz.zeroValue9
 t20:=Tryz.underlying20
 a20:=Tryz.isAgg20
 z20:=Tryz.sizeOf20
 v20:=Tryz.zeroValue20
 t37:=Tryz.underlying22
 a37:=Tryz.isAgg22
 z37:=Tryz.sizeOf22
 v37:=Tryz.zeroValue22
 t46:=Tryz.underlying114
 a46:=Tryz.isAgg114
 z46:=Tryz.sizeOf114
 v46:=Tryz.zeroValue114
 t51:=Tryz.underlying173
 a51:=Tryz.isAgg173
 z51:=Tryz.sizeOf173
 v51:=Tryz.zeroValue173
 t53:=Tryz.underlying167
 a53:=Tryz.isAgg167
 z53:=Tryz.sizeOf167
 v53:=Tryz.zeroValue167
 t171:=Tryz.underlying166
 a171:=Tryz.isAgg166
 z171:=Tryz.sizeOf166
 v171:=Tryz.zeroValue166
 t173:=Tryz.underlying170
 a173:=Tryz.isAgg170
 z173:=Tryz.sizeOf170
 v173:=Tryz.zeroValue170
 t212:=Tryz.underlying172
 a212:=Tryz.isAgg172
 z212:=Tryz.sizeOf172
 v212:=Tryz.zeroValue172
 t213:=Tryz.underlying174
 a213:=Tryz.isAgg174
 z213:=Tryz.sizeOf174
 t232:=Tryz.underlying177
 a232:=Tryz.isAgg177
 z232:=Tryz.sizeOf177
 v232:=Tryz.zeroValue177
 t233:=Tryz.underlying178
 a233:=Tryz.isAgg178
 z233:=Tryz.sizeOf178
 v233:=Tryz.zeroValue178
 g17:=by kernel_rfl
 g18:=by kernel_rfl
 g19:=by kernel_rfl
 i0:=by kernel_rfl
 i2:=by kernel_rfl
 i3:=by kernel_rfl
 i4:=by kernel_rfl
 i5:=by kernel_rfl
 i9:=by kernel_rfl
 i20:=by kernel_rfl
 i37:=by kernel_rfl
 i46:=by kernel_rfl
 i51:=by kernel_rfl
 i53:=by kernel_rfl
 i171:=by kernel_rfl
 i173:=by kernel_rfl
 i212:=by kernel_rfl
 i232:=by kernel_rfl
 i233:=by kernel_rfl
 m17:=by kernel_rfl
 m18:=by kernel_rfl
 m19:=by kernel_rfl
theorem zPU {w : World} (h : GlobIs w) : Lib.TabIs prog w "internal/strconv.uint64pow10" .u64 Lib.pow10Tab := by
 obtain ⟨t,fz,I⟩:=h.h _ (nZ)
 unfold Lib.TabIs World.var?
 rw [itoaL.m17]
 have J:w.heap[itoaR.g 17]?=some (.cells (Lib.pow10Tab.map λn=>Value.int .u64 n).toArray t fz):=I
 simp only [mY,J]
theorem zR7 (u:Nat) (h1:u<=9223372036854775807) (N:Nat) (Q:QT [.str]) (U:∀ N',N<=N'->Q ⟨(Lib.decDigits u).toArray⟩ N'):ACalls prog 210 [.str] [.int .i64 u] N Q:=
 ⟨by kernel_rfl,λav w0 hN J _=>(Any.strconv_Itoa itoaL (u:Int) (by omega) (by omega) w0 (zPU J.g)).mono λe w ⟨Y,k,os,hw⟩=>by
  subst Y
  subst hN
  subst hw
  rw [Lib.itoa_nonneg]
  have I:(Go.Sort.grow (w0.drewN k) os).heap.size=w0.heap.size+os.size:=by unfold Go.Sort.grow;rw [mW];rfl
  refine ⟨[.str ⟨(Lib.decDigits u).toArray⟩],[],[],?_⟩
  exact { q:=U _ (by rw [I];omega),v:=rfl,m:=⟨rfl,by simp,by simp,by simp,λk j b h=>by obtain ⟨_,h2,_⟩:=h;simp [Env.at] at h2⟩,ok:=λp O=>by simp at O;subst O;trivial,fresh:=λk b h=>by simp [Env.at] at h,size:=by rw [I];omega,old:=λb hb=>Array.getElem?_append_left hb,fz:=λ_ _ _ _ _ _=>trivial,ku:=⟨rfl,rfl⟩ }⟩
end YtfajiphkncipoaaGreatDoor
end Go.Proofs
namespace Go.Proofs.YtfajiphkncipoaaGreatDoor
open Go Go.Proofs Go.Proofs.Tryz Go.IntWalk
def zKL (f:FuncId) (args:List PV) (s:ByteArray):Prop:=∀ (N:Nat) (Q:QT [.str]),(∀ N',N<=N'->Q s N')->ACalls prog f [.str] args N Q
theorem Qst {Q:QT [.str]} {a b:ByteArray} {N:Nat} (h:Q a N) (e:a=b):Q b N:=e ▸ h
def zSN (u:Nat):ByteArray:=⟨(Lib.decDigits u).toArray⟩
theorem zG7 (u:Nat) (h:u<=4611686018427387904):Lib.nDigits u<=20:=by
 by_cases I:1<=u
 ·have:=Lib.numDigits_eq u I (by omega);split at this<;>omega
 ·rw [Lib.nDigits_small (by omega)];omega
theorem zH5 (u:Nat):(zSN u).size=Lib.nDigits u:=by
 show (Lib.decDigits u).toArray.size=_
 rw [nl,Lib.decDigits_length]
theorem zCy {a b:ByteArray} (h:a.data.toList=b.data.toList):a=b:=by
 cases a;cases b;simp at h;rw [h]
theorem zPh (a b:ByteArray):(a++b).data.toList=a.data.toList++b.data.toList:=by simp
theorem zKX (k:Nat):bytes [118]++zSN k=u3 k:=zCy (by rw [zPh];rfl)
theorem zLj (k:Nat) (h:k<=4611686018427387904):(u3 k).size<=21:=by
 have:=zG7 k h
 show (118::Lib.decDigits k).toArray.size<=21
 rw [nl,oM,Lib.decDigits_length];omega
theorem zB7 (u:Nat) (h:u<=4611686018427387904):zKL 205 [.j u] (zSN u):=λN Q I=>
 zB6 N u Q λN1 J=>zR7 u (by omega) N1 _ λN2 O _ N3 U=>I _ (by omega)
theorem zOM (m:Nat) (s:ByteArray) (hs:∀ u,u<10->Lib.decDigits u=[UInt8.ofNat (48+u)]):(bytesOf [IntKind.u8.wrap (IntKind.i64.wrap (48+Int.tmod (m:Int) 10))]++s).data.toList=UInt8.ofNat (48+m % 10)::s.data.toList:=by
 rw [zPh]
 have e:IntKind.u8.wrap (IntKind.i64.wrap (48+Int.tmod (m:Int) 10))=((48+m % 10:Nat):Int):=by
  have:Int.tmod (m:Int) 10=((m % 10:Nat):Int):=by rw [nW (by omega)];omega
  rw [this,i64_in _ (by omega),IntKind.wrap_u8];omega
 rw [e]
 have I:bytesOf [((48+m % 10:Nat):Int)]=⟨#[UInt8.ofNat (48+m % 10)]⟩:=rfl
 rw [I]
 rfl
theorem zCS (u:Nat) (h:u<=4611686018427387904):zKL 194 [.j u] (zSN u):=λN Q hQ=>by
 have e1:∀ u,u<10->Lib.decDigits u=[UInt8.ofNat (48+u)]:=λu h=>by rw [Lib.decDigits,dif_pos h]
 have e2:∀ u,¬u<10->Lib.decDigits u=Lib.decDigits (u / 10)++[UInt8.ofNat (48+u % 10)]:=λu h=>by rw [Lib.decDigits,dif_neg h]
 refine sF N u Q (Br.beq (λh0 N1 Y=>?_) λh0=>?_)
 ·have:u=0:=by omega
  subst this
  refine Qst (hQ _ Y) (zCy ?_)
  show Lib.decDigits 0=[48]
  rw [e1 0 (by omega)]
  rfl
 ·rw [mN (by omega)]
  have key:∀ (m:Nat) (s:ByteArray),m<=u->s.size+Lib.nDigits m<=20\/(m=0/\s.size<=20)->(if m=0 then [] else Lib.decDigits m)++s.data.toList=Lib.decDigits u->zX Q N m false s N:=by
   intro m
   induction m using Nat.strongRecOn with
   | _ m ih=>
     intro s hm O he
     refine wo _ _ _ _ _ _ ?_
     refine Br.bne (λI=>?_) λI=>?_
     ·have I:m≠0:=by omega
      have ht:Int.tmod (m:Int) 10=((m % 10:Nat):Int):=by rw [nW (by omega)];omega
      have hd:Int.tdiv (m:Int) 10=((m / 10:Nat):Int):=by rw [Int.tdiv_eq_ediv_of_nonneg (by omega)];omega
      have O:s.size+Lib.nDigits m<=20:=by rcases O with U | ⟨U,_⟩;exact U;exact absurd U I
      refine ⟨by omega,?_⟩
      rw [mN (by omega)]
      refine ⟨by simp,[IntKind.u8.wrap (IntKind.i64.wrap (48+Int.tmod (m:Int) 10))],rfl,?_,by omega,?_⟩
      ·have:(bytesOf [IntKind.u8.wrap (IntKind.i64.wrap (48+Int.tmod (m:Int) 10))]).size=1:=rfl
       omega
      ·rw [hd,i64_in _ (by omega)]
       refine ih (m / 10) (by omega) _ (by omega) ?_ ?_
       ·have U:(bytesOf [IntKind.u8.wrap (IntKind.i64.wrap (48+Int.tmod (m:Int) 10))]++s).size=1+s.size:=by
         rw [oL];rfl
        by_cases J:m<10
        ·right
         have:=Lib.nDigits_pos m
         exact ⟨by omega,by omega⟩
        ·left
         have:=Lib.nDigits_big J
         omega
       ·rw [zOM m s e1,<-he,if_neg I]
        by_cases J:m<10
        ·rw [if_pos (by omega),e1 m J,show m % 10=m by omega];rfl
        ·rw [if_neg (by omega),e2 m J];simp
     ·have:m=0:=by omega
      subst this
      refine λN2 aa=>Qst (hQ _ aa) (zCy ?_)
      rw [if_pos rfl] at he
      exact he.symm
  refine key u (bytes []) (oD _) (.inl ?_) ?_
  ·have:=zG7 u h
   show 0+_<=_
   omega
  ·rw [if_neg (by omega)];exact nD _
theorem zFf (l:List ByteArray) (P:Nat->Nat->Prop) (N:Nat) (F:ByteArray->Nat->Prop) (hF:∀ N',N<=N'->F (fresh l) N')
  (step:∀ (k N':Nat),N<=N'->k<=l.length+1->(∀ N'',N'<=N''->u3 k∈l->P (k+1) N'')->(∀ N'',N'<=N''->u3 k∉l->F (u3 k) N'')->P k N'):P 1 N:=by
 have key:∀ (f k:Nat) (N':Nat),N<=N'->1<=k->k+f=l.length+1->(∀ j,1<=j->j<k->u3 j∈l)->rD f k l=rD l.length 1 l->P k N':=by
  intro f
  induction f with
  | zero=>
    intro k N' J aa ab I O
    refine step k N' J (by omega) (λN'' Y U=>?_) λN'' Y U=>?_
    ·exfalso
     have:=zPi l (k+1) (λj h4 h5=>by
      by_cases h6:j=k
      ·subst h6;exact U
      ·exact I j h4 (by omega)) (by omega)
     omega
    ·have:=hF N'' (by omega)
     unfold fresh at this
     rw [<-O] at this
     exact this
  | succ f ih=>
    intro k N' J aa ab I O
    simp only [rD] at O
    refine step k N' J (by omega) (λN'' Y U=>?_) λN'' Y U=>?_
    ·rw [if_pos U] at O
     exact ih (k+1) N'' (by omega) (by omega) (by omega) (λj h4 h5=>by
      by_cases h6:j=k
      ·subst h6;exact U
      ·exact I j h4 (by omega)) O
    ·rw [if_neg U] at O
     have:=hF N'' (by omega)
     unfold fresh at this
     rw [<-O] at this
     exact this
 exact key l.length 1 N (oD _) (oD _) (by omega) (λj Y h2=>by omega) rfl
theorem zCF (l:List ByteArray) (hl:l.length<=8796093022208) (a:Option Addr) (c:Nat):zKL 179 [.sv a 0 (zA l) c] (fresh l):=λN Q O=>by
 refine zBy N a _ c Q λ_=>?_
 refine zFf l (λk N'=>xE Q N a (zA l) c k N') N (λs N'=>Q s N') O λk N' U hk J I=>?_
 have Y:=zG7 k (by omega)
 have aa:=zH5 k
 refine pG _ _ _ _ _ _ _ λN1 ab=>zCS k (by omega) N1 _ λN2 ac _=>⟨by omega,λN3 ae=>?_⟩
 rw [zKX]
 refine yx l (by omega) a c (u3 k) N3 _ λN4 ah _=>?_
 simp only [zDH]
 refine Br.dec (λh N5 ai=>I _ (by omega) h) λh=>?_
 rw [i64_in _ (by omega)]
 exact J _ (by omega) (mK.1 h)
theorem zCV (l:List ByteArray) (hl:l.length<=8796093022208) (a:Option Addr) (c:Nat):zKL 176 [.sv a 0 (zA l) c] (fresh l):=λN Q O=>by
 refine zCZ N a _ c Q λ_ N1 U=>zIs N1 _ a _ c _ λ_=>?_
 refine zFf l (λk N'=>vI _ N1 (bytes [118]) a (zA l) c k N') N1 (λs N'=>∀ N'',N'<=N''->Q s N'') (λN' h N'' h2=>O _ (by omega)) λk N' Y hk J I=>?_
 have aa:=zG7 k (by omega)
 have ab:=zH5 k
 have hb:(bytes [118]).size=1:=rfl
 refine zEh _ _ _ _ _ _ _ _ λN2 ac=>zB7 k (by omega) N2 _ λN3 ae _=>⟨by omega,λN4 ah=>?_⟩
 rw [zKX]
 refine ya l (by omega) a c (u3 k) N4 _ λN5 ai _=>?_
 rw [zBK]
 refine Br.ndec (λh N6 aj=>?_) λh=>?_
 ·exact λ_ N7 ak=>I N7 (by omega) h _ (oD _)
 ·rw [i64_in _ (by omega)]
  exact J _ (by omega) h
end Go.Proofs.YtfajiphkncipoaaGreatDoor
