/- Free names: the program's and the reference's. -/
import Derived.Test.YtlahkdflngobiaaGreatDoorB4
set_option linter.unusedVariables false
set_option linter.unusedSimpArgs false
namespace Go.Proofs.YtlahkdflngobiaaGreatDoor
open Go Go.Proofs Go.Proofs.Tryz Go.IntWalk
mutual
/-- variables -/
def Tm.vc:Tm->Nat
 | .mk k _ _ _ _ _ l=>if k=1 then 1 else zEh l
def zEh:List Tm->Nat
 | []=>0
 | t::I=>t.vc+zEh I
end
mutual
theorem Tm.vc_cnt:∀ t:Tm,3*t.vc<=t.cnt
 | .mk k nm ot n ty re l=>by
   have:=Ty.cnt_pos ty
   have:=Ty.cnt_pos re
   have:=zLh l
   simp only [Tm.vc,Tm.cnt]
   split<;>omega
theorem zLh:∀ l:List Tm,3*zEh l<=za l
 | []=>oB _
 | t::I=>by
   have:=Tm.vc_cnt t
   have:=zLh I
   simp only [zEh,za];omega
end
mutual
theorem Tm.fv_len:∀ t:Tm,t.fv.length<=t.vc
 | .mk k nm ot n ty re l=>by
   simp only [Tm.fv,Tm.vc]
   split
   ·simp
   ·have:=zLJ l (qk k l.length) (bdN k nm ot l.length) 0 []
    simp at this;omega
theorem zLJ:∀ (l:List Tm) (at_:Int) (ns:List ByteArray) (i:Nat) (out:List ByteArray),(qj l at_ ns i out).length<=out.length+zEh l
 | [],_,_,_,out=>by simp [qj]
 | x::xs,at_,ns,i,out=>by
   simp only [qj,zEh]
   have J:=zLJ xs at_ ns (i+1) (si out (if (i:Int)=at_ then pP ns x.fv else x.fv))
   have I:=Tm.fv_len x
   have O:(if (i:Int)=at_ then pP ns x.fv else x.fv).length<=x.vc:=by
    split
    ·exact oZ (mU _ _) I
    ·exact I
   have h4:(si out (if (i:Int)=at_ then pP ns x.fv else x.fv)).length<=out.length+(if (i:Int)=at_ then pP ns x.fv else x.fv).length:=by
    unfold si
    have a1:=zLR (dd [] out) (if (i:Int)=at_ then pP ns x.fv else x.fv)
    have a2:=zLR [] out
    simp at a2;omega
   omega
end
theorem uq (a b:List ByteArray):(si a b).length<=a.length+b.length:=by
 unfold si
 have a1:=zLR (dd [] a) b
 have a2:=zLR [] a
 simp at a2;omega
theorem zPH (ns l:List ByteArray) (s:ByteArray):(pP ns l).filter (λx=>decide (x≠s))=pP (ns++[s]) l:=by
 unfold pP
 rw [List.filter_filter]
 congr 1
 funext x
 rw [nP]
 simp
 exact And.comm
theorem zIv (l:List ByteArray):pP [] l=l:=by simp [pP]
theorem qz:∀ (t:Tm) (d:D),t.Is d->t.vc<=2199023255552->zQg 81 [.dg 9 d] t.fv:=by
 refine Tm.ind λk nm ot n0 ty re l ih d hd hG N Q hQ=>?_
 obtain ⟨t0,t1,r0,r1,a,es,c,rfl,hh,hlen,ak⟩:=Tm.is_mk.1 hd
 have hl:=ak.len
 simp only [Tm.vc] at hG
 refine zF3 N _ Q λ_=>⟨_,rfl,Br.beq (λh1=>⟨_,rfl,⟨rfl,rfl⟩,⟨rfl,rfl⟩,λa1 N1 aw hf N2 al=>?_⟩) λh1 N3 bc=>zQI (n:=l.length) (by omega) N3 _ λa3 c3 N4 bd _ _ _=>?_⟩
 ·have e:(Tm.mk k nm ot n0 ty re l).fv=[nm]:=by simp [Tm.fv,h1]
  rw [e] at hQ
  exact hQ _ _ _ (by omega) (wP (l:=[nm]) hf al)
 ·have e:(Tm.mk k nm ot n0 ty re l).fv=qj l (qk k l.length) (bdN k nm ot l.length) 0 []:=by simp [Tm.fv,h1]
  rw [e] at hQ
  rw [if_neg h1] at hG
  have ax:=zPr k nm ot l.length
  generalize bdN k nm ot l.length=ns at hQ ax ⊢
  generalize qk k l.length=at_ at hQ ⊢
  generalize hy:(D.ag [.j k,.t nm,.t ot,.j n0,t0,t1,r0,r1,.sl a 9 es c])=y
  have ah:y.cell 8=.sl a 9 es c:=by rw [<-hy];rfl
  have bg:=zO ns
  have inner:∀ (i:Nat) (x:Tm) (out:List ByteArray) (q N1:Nat),N<=N1->out.length<=2199023255552->x.fv.length<=2199023255552 ->
    (∀ c N'',N1<=N''->yM Q N a3 (zA ns) c3 at_ (zA (si out (if (i:Int)=at_ then pP ns x.fv else x.fv))).length c (IntKind.i64.wrap (i+1)) y (zA (si out (if (i:Int)=at_ then pP ns x.fv else x.fv))) c N'') ->
    ∀ O c7,Own N N1 (.sl O 0 (zA x.fv) c7)->yw Q N a3 (zA ns) c3 at_ (zA out).length q i O (zA x.fv) c7 0 y (zA out) q N1:=λi x out q N1 aw ho hx hc O c7 h7=>by
   have fin:∀ (lw:List ByteArray) (O:Option Addr) (c7 N':Nat),N1<=N'->lw=(if (i:Int)=at_ then pP ns x.fv else x.fv) ->
     ((zA out).length=(zA out).length/\q=q)/\∀ ac,ApA ac (zA out)->Off [ac] (.sl O 0 (zA lw) c7)->∀ N3,N'<=N3->wa N3 [ac]->ACalls prog 36 [.row 9 0] [.sv ac 0 (zA out) q,.sv O 0 (zA lw) c7] N3 (λaa am N4=>N3<=N4->Off [ac] (D.ag aa)/\(Bel N4 (D.ag aa)->yM Q N a3 (zA ns) c3 at_ aa.length am (IntKind.i64.wrap (i+1)) y aa am N4)):=λlw O c7 N' ab J=>⟨⟨rfl,rfl⟩,λa9 _ _ N5 ao bb=>by
    have h5:lw.length<=2199023255552:=by
     rw [J];split
     ·exact oZ (mU _ _) hx
     ·exact hx
    refine we out lw ho h5 a9 O q c7 N5 _ λc8 N8 ay _=>⟨rT _,λ_=>?_⟩
    subst J
    exact hc _ _ (by omega)⟩
   refine up (xk ns) (by omega) (λj xs=>∀ (lw:List ByteArray) O c7 N',N1<=N'->lw=pP (ns.take j) x.fv->((i:Int)≠at_->j=0)->yw Q N a3 (zA ns) c3 at_ (zA out).length q i O (zA lw) c7 j y (zA out) q N') ?_ ?_ x.fv O c7 N1 (oB _) (by rw [mZ,zIv]) (λ_=>rfl)
   ·intro j ai hj lw O c7 N' ab J I
    refine sO _ _ _ _ _ _ _ _ _ _ _ _ _ _ _ _ _ ?_
    rw [ai]
    refine fin lw O c7 N' ab ?_
    rw [J,od (by omega)]
    split
    ·rfl
    ·rename_i ae
     have:=I ae
     have:ns=[]:=oO (by omega)
     rw [this,zIv]
   ·intro j s xs I _ aj lw O c7 N' ab J hj
    have hb:=I.b
    have hr:=I.r
    refine sO _ _ _ _ _ _ _ _ _ _ _ _ _ _ _ _ _ ?_
    rw [I.lt]
    refine Br.beq (λhe=>⟨⟨by omega,by omega⟩,s,?_,λN2 al=>zIQ lw ?_ O c7 s N2 _ λa8 c8 N8 ay _ _ _=>?_⟩) λae=>fin lw O c7 N' ab ?_
    ·rw [oK,hr]
    ·rw [J];exact oZ (mU _ _) hx
    ·rw [I.w]
     refine aj _ _ _ _ (by omega) ?_ (λhc=>absurd he hc)
     rw [J,zPH,xK I.g]
    ·rw [if_neg ae,J,hj ae,mZ,zIv]
  refine up ak hlen (λi xs=>∀ (out:List ByteArray) (q N':Nat),N<=N'->out.length+zEh xs<=zEh l->qj xs at_ ns i out=qj l at_ ns 0 []->yM Q N a3 (zA ns) c3 at_ (zA out).length q i y (zA out) q N') ?_ ?_ [] 0 N4 (by omega) (by simp) rfl
  ·intro i ai hi out q N' ab _ he
   refine rF _ _ _ _ _ _ _ _ _ _ _ _ _ ⟨_,_,_,ah,?_⟩
   rw [ai]
   simp only [qj] at he
   subst he
   exact ⟨⟨rfl,rfl⟩,⟨rfl,rfl⟩,⟨rfl,rfl⟩,λa1 N5 ao hf N6 aq=>hQ _ _ _ (by omega) (wP hf aq)⟩
  ·intro i x xs I _ aj out q N' ab az he
   have hb:=I.b
   simp only [zEh] at az
   have au:=Tm.fv_len x
   have bh:=uq out (if (i:Int)=at_ then pP ns x.fv else x.fv)
   have bi:(if (i:Int)=at_ then pP ns x.fv else x.fv).length<=x.vc:=by
    split
    ·exact oZ (mU _ _) au
    ·exact au
   refine rF _ _ _ _ _ _ _ _ _ _ _ _ _ ⟨_,_,_,ah,?_⟩
   rw [I.lt]
   refine ⟨_,_,_,ah,⟨by omega,by omega⟩,λN5 ao=>?_⟩
   rw [oK]
   refine ih x I.m _ I.r (by omega) N5 _ λa6 c6 N6 aq ba _ _=>inner i x out q N6 (by omega) (by omega) (by omega) (λc N'' h1=>?_) a6 c6 (ba.mono (by omega) (oB _))
   rw [I.w]
   exact aj _ _ _ (by omega) (by omega) (by rw [<-he];rfl)
theorem BCalls.cap {f:FuncId} {full:List Sh} {args:List PV} {bx:List Bx} {N:Nat} {Q:QT full} (hc:yW prog f=true) (h:(∀ t z es n,Bx.arr t z es n∈bx->es.length<=n)->BCalls prog f full args bx N Q):BCalls prog f full args bx N Q:=
 ⟨hc,λav w0 E J O I h4 h5=>(h λt z es n hm=>by
  obtain ⟨k,hk⟩:=oQ.1 hm
  rcases I.br k _ hk (by simp) with ⟨_,e1,e2⟩ | ⟨b,c,_,_,_,e,_⟩
  ·rw [e1,e2];exact oB _
  ·exact e).h av w0 E J O I h4 h5⟩
theorem zH7 {α:Type} (p:α->Bool):∀ (l:List α) (i:Int),(s8 p l i = -1/\∀ x∈l,p x=false)\/∃ pre x post,l=pre++x::post/\s8 p l i=i+(pre.length:Int)/\p x=true/\∀ y∈pre,p y=false
 | [],i=>.inl ⟨rfl,by simp⟩
 | x :: l,i=>by
   simp only [s8]
   by_cases I:p x=true
   ·exact .inr ⟨[],x,l,rfl,by simp [I],I,by simp⟩
   ·rcases zH7 p l (i+1) with ⟨J,O⟩ | ⟨pre,y,post,J,O,h3,h4⟩
    ·refine .inl ⟨by rw [if_neg I,J],λy hy=>?_⟩
     rcases oH.1 hy with rfl | hy
     ·simpa using I
     ·exact O y hy
    ·refine .inr ⟨x::pre,y,post,by rw [J];rfl,by rw [if_neg I,O];simp only [oJ];omega,h3,λz hz=>?_⟩
     rcases oH.1 hz with rfl | hz
     ·simpa using I
     ·exact h4 z hz
theorem zJ1 (s:ByteArray) (ns:List ByteArray) (I:ns.length<=4611686018427387904) (ad:Addr) (a:Option Addr) (c:Nat):uN 165 [.str s,.pd ad 0 (.sl a 0 (zA ns) c)] (decide (s∈ns)):=λN Q J=>by
 refine zAY N s ad _ Q ⟨_,_,_,rfl,λN1 O=>xw ns I a c s N1 _ λN2 aa _ N3 ab=>Qb (J _ (by omega)) (zDS s ns).symm⟩
theorem zMn (l:List ByteArray) (hl:l.length<=2199023255552) (a:Option Addr) (c:Nat) (ad:Addr) (ns:List ByteArray) (hn:ns.length<=4611686018427387904) (a1:Option Addr) (c1:Nat) :
  zAO 162 [.sv a 0 (zA l) c,.fn 165 [.pd ad 0 (.sl a1 0 (zA ns) c1)]] (s8 (λx=>decide (x∈ns)) l 0):=λN Q hQ=>by
 have hlen:=zO l
 refine t7 N a _ c ad _ Q λ_=>?_
 refine up (xk l) (by omega) (λi xs=>∀ (N':Nat),N<=N'->(∀ N'',N'<=N''->Q (s8 (λx=>decide (x∈ns)) xs i) N'')->yO Q N a (zA l) c ad (.sl a1 0 (zA ns) c1) ((zA l).length:Int) i N') ?_ ?_ N (oB _) hQ
 ·intro i O _ N' aa I
  refine wx _ _ _ _ _ _ _ _ _ _ ?_
  rw [O]
  exact λN'' h=>I _ (by omega)
 ·intro i x xs J _ ab N' aa I
  have hb:=J.b
  have hr:=J.r
  simp only [s8] at I
  refine wx _ _ _ _ _ _ _ _ _ _ ?_
  rw [J.lt,J.w,oK,hr]
  refine ⟨⟨by omega,by omega⟩,x,rfl,λN1 ac=>zJ1 x ns hn ad a1 c1 N1 _ λN2 ae _=>Br.dec (λh N3 ah=>Qi (I _ (by omega)) (by simp [h])) λh=>ab _ (by omega) λN'' h2=>Qi (I _ (by omega)) (by rw [if_neg (by simpa using h)];simp)⟩
theorem zS0 (done:List D) (y s:D) (r:List D):(done++y::r).set done.length s=done++s::r:=by
 rw [lH _ _ (oB _),Nat.sub_self];rfl
theorem zKX (l:List ByteArray) (hl:l.length<=2199023255552) (ns:List ByteArray) (hn:ns.length<=4611686018427387904) (c:Nat) (a1:Option Addr) (c1:Nat) (N:Nat) (Q:QT [Sh.bk 0,.sl 0,.sl 0])
  (hQ:∀ x N',N<=N'->Q x none (zA (pP ns l)) c a1 (zA ns) c1 N') :
  BCalls prog 164 [Sh.bk 0,.sl 0,.sl 0] [.sb 0 0 0 (zA l).length c,.fn 165 [.pb 1 0 0 0]] [.arr 9 0 (zA l) c,.var [.sv a1 0 (zA ns) c1]] N Q:=by
 refine BCalls.cap (by kernel_rfl) λaa=>?_
 have hc:=aa _ _ _ _ (nS)
 have au:=zO l
 refine tv N _ _ _ _ _ _ _ Q λE _ _=>⟨⟨rfl,rfl⟩,λa2 _ ad _ N1 ah _=>zMn l hl a2 c ad ns hn a1 c1 N1 _ λN2 ai _=>?_⟩
 rcases zH7 (λx=>decide (x∈ns)) l 0 with ⟨O,h2⟩ | ⟨pre,x,post,O,h2,h3,h4⟩
 ·rw [O]
  refine ⟨vV,⟨rfl,rfl⟩,λN3 aj=>?_⟩
  have e:pP ns l=l:=by
   unfold pP
   rw [List.filter_eq_self]
   intro s hs
   simpa using h2 s hs
  rw [e] at hQ
  exact hQ _ _ (by omega)
 ·rw [h2,Int.zero_add]
  have ak:=nL List.length O
  rw [oE,oJ] at ak
  have ab:pP ns l=pre++pP ns post:=by
   rw [O]
   unfold pP
   rw [mi,List.filter_cons_of_neg (by simpa using h3),List.filter_eq_self.2 λs hs=>by simpa using h4 s hs]
  rw [ab] at hQ
  refine Br.beq (λh=>by omega) λ_=>?_
  rw [i64_in _ (by omega)]
  have key:∀ (xs done:List ByteArray) (I:List D) (j:Int) (N':Nat),N<=N'->I≠[]->done++pP ns xs=pre++pP ns post->j=((done.length+I.length:Nat):Int)->done.length+I.length+xs.length=l.length ->
    zm E Q N (zA l).length c (done.length:Int) j (zA done++(I++zA xs)) c a1 (zA ns) c1 N':=by
   intro xs
   induction xs with
   | nil=>
     intro done I j N' al hj hd J hlen
     have ac:=zO done
     have am:=oS.2 hj
     simp only [oM,mV] at hlen
     refine wh _ _ _ _ _ _ _ _ _ _ _ _ _ ?_
     rw [mM (by omega)]
     have e1:List.take (done.length:Int).toNat (List.take (0+(done.length:Int).toNat) (zA done++(I++zA []))++(List.replicate (((zA l).length:Int).toNat - (done.length:Int).toNat) (D.t (bytes []))++List.drop (0+(done.length:Int).toNat+(((zA l).length:Int).toNat - (done.length:Int).toNat)) (zA done++(I++zA []))))=zA done:=by
      rw [oK,nM,me (by rw [o8,oE];omega),List.take_take,Nat.min_self,me (by omega),od (by omega)]
     rw [e1]
     simp only [pP,List.filter_nil,o6] at hd
     have hd:done=pre++pP ns post:=hd
     have ao:(zA done++(I++zA [])).length=l.length:=by simp [zA];omega
     refine ⟨⟨by omega,by omega,by omega,by omega⟩,by omega,⟨by omega,by omega⟩,?_,vV,⟨by omega,rfl⟩,λN3 aj=>?_⟩
     ·rw [oE,o8];omega
     ·rw [hd];exact hQ _ _ (by omega)
   | cons s xs ih=>
     intro done I j N' al hj hd J hlen
     have ac:=zO done
     have am:=oS.2 hj
     have aq:=zO (s::xs)
     simp only [oJ] at hlen aq
     refine wh _ _ _ _ _ _ _ _ _ _ _ _ _ ?_
     rw [mF (by omega)]
     have ao:(zA done++(I++zA (s::xs))).length=l.length:=by simp only [oE];omega
     have ae:(zA done++(I++zA (s::xs))).getD (0+j.toNat) default=.t s:=by
      rw [J,oK,nM,oA,oP (by omega),oP (by omega)]
      rw [show done.length+I.length - (zA done).length - I.length=0 by omega]
      rfl
     refine ⟨⟨by omega,by omega,by omega⟩,by omega,s,ae,λad _ N1 ah _=>zJ1 s ns hn ad a1 c1 N1 _ λN2 ai _=>Br.ndec (λh=>⟨⟨by omega,by omega,by omega⟩,by omega,?_⟩) λh=>?_⟩
     ·rw [i64_in _ (by omega),i64_in _ (by omega),nM,oK]
      obtain ⟨y,ys,rfl⟩:=List.exists_cons_of_ne_nil hj
      have e2:(zA done++(y::ys++zA (s::xs))).set done.length (.t s)=zA (done++[s])++((ys++[.t s])++zA xs):=by
       rw [<-ac,o9,zS0,<-xi]
       simp [zA]
      rw [e2]
      have:=ih (done++[s]) (ys++[.t s]) (j+1) N2 (by omega) (by simp) (by rw [<-hd];simp [pP,h]) (by simp only [oE,oJ,oM] at J ⊢;omega) (by simp only [oE,oJ,oM] at hlen ⊢;omega)
      simpa using this
     ·rw [i64_in _ (by omega)]
      have:=ih done (I++[.t s]) (j+1) N2 (by omega) (by simp) (by rw [<-hd];simp [pP,h]) (by simp only [oE,oJ,oM];omega) (by simp only [oE,oJ,oM];omega)
      simpa [zA] using this
  have:=key post pre [.t x] ((pre.length:Int)+1) N2 (by omega) (by simp) rfl (by simp) (by simp;omega)
  rw [O]
  rw [O] at this
  simpa [zA] using this
theorem zFe:∀ (t:Tm) (d:D),t.Is d->t.vc<=2199023255552->zRm 124 [.dg 9 d] t.fv:=by
 refine Tm.ind λk nm ot n0 ty re l ih d hd hG N Q O=>?_
 obtain ⟨t0,t1,r0,r1,a,es,c,rfl,hh,hlen,aa⟩:=Tm.is_mk.1 hd
 have hl:=aa.len
 simp only [Tm.vc] at hG
 refine zFs N _ Q λ_=>⟨_,rfl,Br.beq (λh1=>⟨_,rfl,⟨rfl,rfl⟩,λN1 ax=>?_⟩) λh1 N3 ay=>zTl (n:=l.length) (by omega) N3 _ λa3 c3 N4 az _ _ _=>⟨_,_,_,rfl,?_⟩⟩
 ·have e:(Tm.mk k nm ot n0 ty re l).fv=[nm]:=by simp [Tm.fv,h1]
  rw [e] at O
  exact O _ _ (by omega)
 ·have e:(Tm.mk k nm ot n0 ty re l).fv=qj l (qk k l.length) (bdN k nm ot l.length) 0 []:=by simp [Tm.fv,h1]
  rw [e] at O
  rw [if_neg h1] at hG
  have aj:=zPr k nm ot l.length
  generalize bdN k nm ot l.length=ns at O aj ⊢
  generalize qk k l.length=at_ at O ⊢
  refine up aa hlen (λi xs=>∀ (out:List ByteArray) q a5 c5 N',N<=N'->out.length+zEh xs<=zEh l->qj xs at_ ns i out=qj l at_ ns 0 []->xR Q N at_ (zA out).length q a es c (es.length:Int) i a5 (zA ns) c5 (zA out) q N') ?_ ?_ [] 0 a3 c3 N4 (by omega) (by simp) rfl
  ·intro i ak hi out q a5 c5 N' al ab he
   refine rU _ _ _ _ _ _ _ _ _ _ _ _ _ _ _ _ ?_
   rw [ak]
   simp only [qj] at he
   subst he
   exact ⟨⟨rfl,rfl⟩,λN5 am=>O _ _ (by omega)⟩
  ·intro i x xs I _ ac out q a5 c5 N' al ab he
   have hb:=I.b
   simp only [zEh] at ab
   have ao:=Tm.fv_len x
   have ae:=uq out (if (i:Int)=at_ then pP ns x.fv else x.fv)
   have a6:(pP ns x.fv).length<=x.vc:=oZ (mU _ _) ao
   refine rU _ _ _ _ _ _ _ _ _ _ _ _ _ _ _ _ ?_
   rw [I.lt]
   refine ⟨⟨by omega,by omega⟩,λN5 am=>?_⟩
   rw [oK,I.w]
   refine ih x I.m _ I.r (by omega) N5 _ λc6 N6 a7 _ _=>Br.beq (λh N7 a8=>zKX x.fv (by omega) ns (by omega) c6 a5 c5 N7 _ λx8 N8 ba _ _ _=>⟨⟨rfl,rfl⟩,λa9 _=>⟨⟨rfl,rfl⟩,λJ _ N9 aq ah=>?_⟩⟩) λh=>⟨⟨rfl,rfl⟩,λa9 _=>⟨⟨rfl,rfl⟩,λJ _ N9 aq ah=>?_⟩⟩
   ·refine uO out (pP ns x.fv) (by omega) (by omega) a9 J q c6 N9 _ λau aw ai _=>⟨rT _,λ_=>?_⟩
    rw [if_pos h] at ae
    exact ac _ _ _ _ _ (by omega) (by omega) (by rw [<-he];simp only [qj];rw [if_pos h])
   ·refine uO out x.fv (by omega) (by omega) a9 J q c6 N9 _ λau aw ai _=>⟨rT _,λ_=>?_⟩
    rw [if_neg h] at ae
    exact ac _ _ _ _ _ (by omega) (by omega) (by rw [<-he];simp only [qj];rw [if_neg h])
end Go.Proofs.YtlahkdflngobiaaGreatDoor
