/- Free names: the program's and the reference's. -/
import Derived.Test.YtlahkdflngobiaaGreatDoorB4
set_option linter.unusedVariables false
set_option linter.unusedSimpArgs false
namespace Go.Proofs.YtlahkdflngobiaaGreatDoor
open Go Go.Proofs Go.Proofs.Tryz Go.IntWalk
mutual
/-- variables -/
def Tm.vc:Tm->Nat
 | .mk k _ _ _ _ _ l=>if k=1 then 1 else zEJ l
def zEJ:List Tm->Nat
 | []=>0
 | t::I=>t.vc+zEJ I
end
mutual
theorem Tm.vc_cnt:∀ t:Tm,3*t.vc<=t.cnt
 | .mk k nm ot n ty re l=>by
   have:=Ty.cnt_pos ty
   have:=Ty.cnt_pos re
   have:=zLS l
   simp only [Tm.vc,Tm.cnt]
   split<;>omega
theorem zLS:∀ l:List Tm,3*zEJ l<=zh l
 | []=>oA _
 | t::I=>by
   have:=Tm.vc_cnt t
   have:=zLS I
   simp only [zEJ,zh];omega
end
mutual
theorem Tm.fv_len:∀ t:Tm,t.fv.length<=t.vc
 | .mk k nm ot n ty re l=>by
   simp only [Tm.fv,Tm.vc]
   split
   ·simp
   ·have:=zK4 l (zCQ k l.length) (bdN k nm ot l.length) 0 []
    simp at this;omega
theorem zK4:∀ (l:List Tm) (at_:Int) (ns:List ByteArray) (i:Nat) (out:List ByteArray),(zBB l at_ ns i out).length<=out.length+zEJ l
 | [],_,_,_,out=>by simp [zBB]
 | x::xs,at_,ns,i,out=>by
   simp only [zBB,zEJ]
   have J:=zK4 xs at_ ns (i+1) (sf out (if (i:Int)=at_ then zAi ns x.fv else x.fv))
   have I:=Tm.fv_len x
   have O:(if (i:Int)=at_ then zAi ns x.fv else x.fv).length<=x.vc:=by
    split
    ·exact oe (mX _ _) I
    ·exact I
   have h4:(sf out (if (i:Int)=at_ then zAi ns x.fv else x.fv)).length<=out.length+(if (i:Int)=at_ then zAi ns x.fv else x.fv).length:=by
    unfold sf
    have a1:=zLD (dd [] out) (if (i:Int)=at_ then zAi ns x.fv else x.fv)
    have a2:=zLD [] out
    simp at a2;omega
   omega
end
theorem uR (a b:List ByteArray):(sf a b).length<=a.length+b.length:=by
 unfold sf
 have a1:=zLD (dd [] a) b
 have a2:=zLD [] a
 simp at a2;omega
theorem zOs (ns l:List ByteArray) (s:ByteArray):(zAi ns l).filter (λx=>decide (x≠s))=zAi (ns++[s]) l:=by
 unfold zAi
 rw [List.filter_filter]
 congr 1
 funext x
 rw [nQ]
 simp
 exact And.comm
theorem zIn (l:List ByteArray):zAi [] l=l:=by simp [zAi]
theorem qq:∀ (t:Tm) (d:D),t.Is d->t.vc<=2199023255552->zQH 81 [.dg 9 d] t.fv:=by
 refine Tm.ind λk nm ot n0 ty re l ih d hd hG N Q hQ=>?_
 obtain ⟨t0,t1,r0,r1,a,es,c,rfl,hh,hlen,ak⟩:=Tm.is_mk.1 hd
 have hl:=ak.len
 simp only [Tm.vc] at hG
 refine zFn N _ Q λ_=>⟨_,rfl,Br.beq (λh1=>⟨_,rfl,⟨rfl,rfl⟩,⟨rfl,rfl⟩,λa1 N1 aw hf N2 al=>?_⟩) λh1 N3 bc=>zPs (n:=l.length) (by omega) N3 _ λa3 c3 N4 bd _ _ _=>?_⟩
 ·have e:(Tm.mk k nm ot n0 ty re l).fv=[nm]:=by simp [Tm.fv,h1]
  rw [e] at hQ
  exact hQ _ _ _ (by omega) (wD (l:=[nm]) hf al)
 ·have e:(Tm.mk k nm ot n0 ty re l).fv=zBB l (zCQ k l.length) (bdN k nm ot l.length) 0 []:=by simp [Tm.fv,h1]
  rw [e] at hQ
  rw [if_neg h1] at hG
  have ax:=zPS k nm ot l.length
  generalize bdN k nm ot l.length=ns at hQ ax ⊢
  generalize zCQ k l.length=at_ at hQ ⊢
  generalize hy:(D.ag [.j k,.t nm,.t ot,.j n0,t0,t1,r0,r1,.sl a 9 es c])=y
  have ah:y.cell 8=.sl a 9 es c:=by rw [<-hy];rfl
  have bg:=zQ ns
  have inner:∀ (i:Nat) (x:Tm) (out:List ByteArray) (q N1:Nat),N<=N1->out.length<=2199023255552->x.fv.length<=2199023255552 ->
    (∀ c N'',N1<=N''->yN Q N a3 (zA ns) c3 at_ (zA (sf out (if (i:Int)=at_ then zAi ns x.fv else x.fv))).length c (IntKind.i64.wrap (i+1)) y (zA (sf out (if (i:Int)=at_ then zAi ns x.fv else x.fv))) c N'') ->
    ∀ O c7,Own N N1 (.sl O 0 (zA x.fv) c7)->yv Q N a3 (zA ns) c3 at_ (zA out).length q i O (zA x.fv) c7 0 y (zA out) q N1:=λi x out q N1 aw ho hx hc O c7 h7=>by
   have fin:∀ (lw:List ByteArray) (O:Option Addr) (c7 N':Nat),N1<=N'->lw=(if (i:Int)=at_ then zAi ns x.fv else x.fv) ->
     ((zA out).length=(zA out).length/\q=q)/\∀ ac,ApA ac (zA out)->Off [ac] (.sl O 0 (zA lw) c7)->∀ N3,N'<=N3->ud N3 [ac]->ACalls prog 36 [.row 9 0] [.sv ac 0 (zA out) q,.sv O 0 (zA lw) c7] N3 (λaa am N4=>N3<=N4->Off [ac] (D.ag aa)/\(Bel N4 (D.ag aa)->yN Q N a3 (zA ns) c3 at_ aa.length am (IntKind.i64.wrap (i+1)) y aa am N4)):=λlw O c7 N' ab J=>⟨⟨rfl,rfl⟩,λa9 _ _ N5 ao bb=>by
    have h5:lw.length<=2199023255552:=by
     rw [J];split
     ·exact oe (mX _ _) hx
     ·exact hx
    refine wS out lw ho h5 a9 O q c7 N5 _ λc8 N8 ay _=>⟨rF _,λ_=>?_⟩
    subst J
    exact hc _ _ (by omega)⟩
   refine up (wE ns) (by omega) (λj xs=>∀ (lw:List ByteArray) O c7 N',N1<=N'->lw=zAi (ns.take j) x.fv->((i:Int)≠at_->j=0)->yv Q N a3 (zA ns) c3 at_ (zA out).length q i O (zA lw) c7 j y (zA out) q N') ?_ ?_ x.fv O c7 N1 (oA _) (by rw [mb,zIn]) (λ_=>rfl)
   ·intro j ai hj lw O c7 N' ab J I
    refine tv _ _ _ _ _ _ _ _ _ _ _ _ _ _ _ _ _ ?_
    rw [ai]
    refine fin lw O c7 N' ab ?_
    rw [J,oi (by omega)]
    split
    ·rfl
    ·rename_i ae
     have:=I ae
     have:ns=[]:=oM (by omega)
     rw [this,zIn]
   ·intro j s xs I _ aj lw O c7 N' ab J hj
    have hb:=I.b
    have hr:=I.r
    refine tv _ _ _ _ _ _ _ _ _ _ _ _ _ _ _ _ _ ?_
    rw [I.lt]
    refine Br.beq (λhe=>⟨⟨by omega,by omega⟩,s,?_,λN2 al=>zIF lw ?_ O c7 s N2 _ λa8 c8 N8 ay _ _ _=>?_⟩) λae=>fin lw O c7 N' ab ?_
    ·rw [oH,hr]
    ·rw [J];exact oe (mX _ _) hx
    ·rw [I.w]
     refine aj _ _ _ _ (by omega) ?_ (λhc=>absurd he hc)
     rw [J,zOs,xo I.g]
    ·rw [if_neg ae,J,hj ae,mb,zIn]
  refine up ak hlen (λi xs=>∀ (out:List ByteArray) (q N':Nat),N<=N'->out.length+zEJ xs<=zEJ l->zBB xs at_ ns i out=zBB l at_ ns 0 []->yN Q N a3 (zA ns) c3 at_ (zA out).length q i y (zA out) q N') ?_ ?_ [] 0 N4 (by omega) (by simp) rfl
  ·intro i ai hi out q N' ab _ he
   refine sn _ _ _ _ _ _ _ _ _ _ _ _ _ ⟨_,_,_,ah,?_⟩
   rw [ai]
   simp only [zBB] at he
   subst he
   exact ⟨⟨rfl,rfl⟩,⟨rfl,rfl⟩,⟨rfl,rfl⟩,λa1 N5 ao hf N6 aq=>hQ _ _ _ (by omega) (wD hf aq)⟩
  ·intro i x xs I _ aj out q N' ab az he
   have hb:=I.b
   simp only [zEJ] at az
   have au:=Tm.fv_len x
   have bh:=uR out (if (i:Int)=at_ then zAi ns x.fv else x.fv)
   have bi:(if (i:Int)=at_ then zAi ns x.fv else x.fv).length<=x.vc:=by
    split
    ·exact oe (mX _ _) au
    ·exact au
   refine sn _ _ _ _ _ _ _ _ _ _ _ _ _ ⟨_,_,_,ah,?_⟩
   rw [I.lt]
   refine ⟨_,_,_,ah,⟨by omega,by omega⟩,λN5 ao=>?_⟩
   rw [oH]
   refine ih x I.m _ I.r (by omega) N5 _ λa6 c6 N6 aq ba _ _=>inner i x out q N6 (by omega) (by omega) (by omega) (λc N'' h1=>?_) a6 c6 (ba.mono (by omega) (oA _))
   rw [I.w]
   exact aj _ _ _ (by omega) (by omega) (by rw [<-he];rfl)
theorem BCalls.cap {f:FuncId} {full:List Sh} {args:List PV} {bx:List Bx} {N:Nat} {Q:QT full} (hc:yD prog f=true) (h:(∀ t z es n,Bx.arr t z es n∈bx->es.length<=n)->BCalls prog f full args bx N Q):BCalls prog f full args bx N Q:=
 ⟨hc,λav w0 E J O I h4 h5=>(h λt z es n hm=>by
  obtain ⟨k,hk⟩:=oQ.1 hm
  rcases I.br k _ hk (by simp) with ⟨_,e1,e2⟩ | ⟨b,c,_,_,_,e,_⟩
  ·rw [e1,e2];exact oA _
  ·exact e).h av w0 E J O I h4 h5⟩
theorem zHv {α:Type} (p:α->Bool):∀ (l:List α) (i:Int),(sd p l i = -1/\∀ x∈l,p x=false)\/∃ pre x post,l=pre++x::post/\sd p l i=i+(pre.length:Int)/\p x=true/\∀ y∈pre,p y=false
 | [],i=>.inl ⟨rfl,by simp⟩
 | x :: l,i=>by
   simp only [sd]
   by_cases I:p x=true
   ·exact .inr ⟨[],x,l,rfl,by simp [I],I,by simp⟩
   ·rcases zHv p l (i+1) with ⟨J,O⟩ | ⟨pre,y,post,J,O,h3,h4⟩
    ·refine .inl ⟨by rw [if_neg I,J],λy hy=>?_⟩
     rcases oJ.1 hy with rfl | hy
     ·simpa using I
     ·exact O y hy
    ·refine .inr ⟨x::pre,y,post,by rw [J];rfl,by rw [if_neg I,O];simp only [oK];omega,h3,λz hz=>?_⟩
     rcases oJ.1 hz with rfl | hz
     ·simpa using I
     ·exact h4 z hz
theorem zJn (s:ByteArray) (ns:List ByteArray) (I:ns.length<=4611686018427387904) (ad:Addr) (a:Option Addr) (c:Nat):vn 165 [.str s,.pd ad 0 (.sl a 0 (zA ns) c)] (decide (s∈ns)):=λN Q J=>by
 refine zAG N s ad _ Q ⟨_,_,_,rfl,λN1 O=>xn ns I a c s N1 _ λN2 aa _ N3 ab=>Qb (J _ (by omega)) (zC2 s ns).symm⟩
theorem zMP (l:List ByteArray) (hl:l.length<=2199023255552) (a:Option Addr) (c:Nat) (ad:Addr) (ns:List ByteArray) (hn:ns.length<=4611686018427387904) (a1:Option Addr) (c1:Nat) :
  p9 162 [.sv a 0 (zA l) c,.fn 165 [.pd ad 0 (.sl a1 0 (zA ns) c1)]] (sd (λx=>decide (x∈ns)) l 0):=λN Q hQ=>by
 have hlen:=zQ l
 refine tY N a _ c ad _ Q λ_=>?_
 refine up (wE l) (by omega) (λi xs=>∀ (N':Nat),N<=N'->(∀ N'',N'<=N''->Q (sd (λx=>decide (x∈ns)) xs i) N'')->yP Q N a (zA l) c ad (.sl a1 0 (zA ns) c1) ((zA l).length:Int) i N') ?_ ?_ N (oA _) hQ
 ·intro i O _ N' aa I
  refine wl _ _ _ _ _ _ _ _ _ _ ?_
  rw [O]
  exact λN'' h=>I _ (by omega)
 ·intro i x xs J _ ab N' aa I
  have hb:=J.b
  have hr:=J.r
  simp only [sd] at I
  refine wl _ _ _ _ _ _ _ _ _ _ ?_
  rw [J.lt,J.w,oH,hr]
  refine ⟨⟨by omega,by omega⟩,x,rfl,λN1 ac=>zJn x ns hn ad a1 c1 N1 _ λN2 ae _=>Br.dec (λh N3 ah=>Qi (I _ (by omega)) (by simp [h])) λh=>ab _ (by omega) λN'' h2=>Qi (I _ (by omega)) (by rw [if_neg (by simpa using h)];simp)⟩
theorem zSP (done:List D) (y s:D) (r:List D):(done++y::r).set done.length s=done++s::r:=by
 rw [lN _ _ (oA _),Nat.sub_self];rfl
theorem zKH (l:List ByteArray) (hl:l.length<=2199023255552) (ns:List ByteArray) (hn:ns.length<=4611686018427387904) (c:Nat) (a1:Option Addr) (c1:Nat) (N:Nat) (Q:QT [Sh.bk 0,.sl 0,.sl 0])
  (hQ:∀ x N',N<=N'->Q x none (zA (zAi ns l)) c a1 (zA ns) c1 N') :
  BCalls prog 164 [Sh.bk 0,.sl 0,.sl 0] [.sb 0 0 0 (zA l).length c,.fn 165 [.pb 1 0 0 0]] [.arr 9 0 (zA l) c,.var [.sv a1 0 (zA ns) c1]] N Q:=by
 refine BCalls.cap (by kernel_rfl) λO=>?_
 have hc:=O _ _ _ _ (nT)
 have aq:=zQ l
 refine tU N _ _ _ _ _ _ _ Q λE _ _=>⟨⟨rfl,rfl⟩,λa2 _ ad _ N1 ae _=>zMP l hl a2 c ad ns hn a1 c1 N1 _ λN2 ah _=>?_⟩
 rcases zHv (λx=>decide (x∈ns)) l 0 with ⟨J,h2⟩ | ⟨pre,x,post,J,h2,h3,h4⟩
 ·rw [J]
  refine ⟨zVD,⟨rfl,rfl⟩,λN3 ai=>?_⟩
  have e:zAi ns l=l:=by
   unfold zAi
   rw [List.filter_eq_self]
   intro s hs
   simpa using h2 s hs
  rw [e] at hQ
  exact hQ _ _ (by omega)
 ·rw [h2,Int.zero_add]
  have aj:=nH List.length J
  rw [oE,oK] at aj
  have aa:zAi ns l=pre++zAi ns post:=by
   rw [J]
   unfold zAi
   rw [ml,List.filter_cons_of_neg (by simpa using h3),List.filter_eq_self.2 λs hs=>by simpa using h4 s hs]
  rw [aa] at hQ
  refine Br.beq (λh=>by omega) λ_=>?_
  rw [i64_in _ (by omega)]
  have key:∀ (xs done:List ByteArray) (junk:List D) (j:Int) (N':Nat),N<=N'->junk≠[]->done++zAi ns xs=pre++zAi ns post->j=((done.length+junk.length:Nat):Int)->done.length+junk.length+xs.length=l.length ->
    zl E Q N (zA l).length c (done.length:Int) j (zA done++(junk++zA xs)) c a1 (zA ns) c1 N':=by
   intro xs
   induction xs with
   | nil=>
     intro done junk j N' ak hj hd I hlen
     have ab:=zQ done
     have al:=oT.2 hj
     simp only [oO,mY] at hlen
     refine wW _ _ _ _ _ _ _ _ _ _ _ _ _ ?_
     rw [lF (by omega)]
     have e1:List.take (done.length:Int).toNat (List.take (0+(done.length:Int).toNat) (zA done++(junk++zA []))++(List.replicate (((zA l).length:Int).toNat - (done.length:Int).toNat) (D.t (bytes []))++List.drop (0+(done.length:Int).toNat+(((zA l).length:Int).toNat - (done.length:Int).toNat)) (zA done++(junk++zA []))))=zA done:=by
      rw [oH,o6,mg (by rw [o8,oE];omega),List.take_take,Nat.min_self,mg (by omega),oi (by omega)]
     rw [e1]
     simp only [zAi,List.filter_nil,oY] at hd
     have hd:done=pre++zAi ns post:=hd
     have am:(zA done++(junk++zA [])).length=l.length:=by simp [zA];omega
     refine ⟨⟨by omega,by omega,by omega,by omega⟩,by omega,⟨by omega,by omega⟩,?_,zVD,⟨by omega,rfl⟩,λN3 ai=>?_⟩
     ·rw [oE,o8];omega
     ·rw [hd];exact hQ _ _ (by omega)
   | cons s xs ih=>
     intro done junk j N' ak hj hd I hlen
     have ab:=zQ done
     have al:=oT.2 hj
     have ao:=zQ (s::xs)
     simp only [oK] at hlen ao
     refine wW _ _ _ _ _ _ _ _ _ _ _ _ _ ?_
     rw [mu (by omega)]
     have am:(zA done++(junk++zA (s::xs))).length=l.length:=by simp only [oE];omega
     have ac:(zA done++(junk++zA (s::xs))).getD (0+j.toNat) default=.t s:=by
      rw [I,oH,o6,oB,oP (by omega),oP (by omega)]
      rw [show done.length+junk.length - (zA done).length - junk.length=0 by omega]
      rfl
     refine ⟨⟨by omega,by omega,by omega⟩,by omega,s,ac,λad _ N1 ae _=>zJn s ns hn ad a1 c1 N1 _ λN2 ah _=>Br.ndec (λh=>⟨⟨by omega,by omega,by omega⟩,by omega,?_⟩) λh=>?_⟩
     ·rw [i64_in _ (by omega),i64_in _ (by omega),o6,oH]
      obtain ⟨y,ys,rfl⟩:=List.exists_cons_of_ne_nil hj
      have e2:(zA done++(y::ys++zA (s::xs))).set done.length (.t s)=zA (done++[s])++((ys++[.t s])++zA xs):=by
       rw [<-ab,nB,zSP,<-xd]
       simp [zA]
      rw [e2]
      have:=ih (done++[s]) (ys++[.t s]) (j+1) N2 (by omega) (by simp) (by rw [<-hd];simp [zAi,h]) (by simp only [oE,oK,oO] at I ⊢;omega) (by simp only [oE,oK,oO] at hlen ⊢;omega)
      simpa using this
     ·rw [i64_in _ (by omega)]
      have:=ih done (junk++[.t s]) (j+1) N2 (by omega) (by simp) (by rw [<-hd];simp [zAi,h]) (by simp only [oE,oK,oO];omega) (by simp only [oE,oK,oO];omega)
      simpa [zA] using this
  have:=key post pre [.t x] ((pre.length:Int)+1) N2 (by omega) (by simp) rfl (by simp) (by simp;omega)
  rw [J]
  rw [J] at this
  simpa [zA] using this
theorem zFK:∀ (t:Tm) (d:D),t.Is d->t.vc<=2199023255552->zRH 124 [.dg 9 d] t.fv:=by
 refine Tm.ind λk nm ot n0 ty re l ih d hd hG N Q O=>?_
 obtain ⟨t0,t1,r0,r1,a,es,c,rfl,hh,hlen,aa⟩:=Tm.is_mk.1 hd
 have hl:=aa.len
 simp only [Tm.vc] at hG
 refine zFZ N _ Q λ_=>⟨_,rfl,Br.beq (λh1=>⟨_,rfl,⟨rfl,rfl⟩,λN1 ax=>?_⟩) λh1 N3 ay=>zS8 (n:=l.length) (by omega) N3 _ λa3 c3 N4 az _ _ _=>⟨_,_,_,rfl,?_⟩⟩
 ·have e:(Tm.mk k nm ot n0 ty re l).fv=[nm]:=by simp [Tm.fv,h1]
  rw [e] at O
  exact O _ _ (by omega)
 ·have e:(Tm.mk k nm ot n0 ty re l).fv=zBB l (zCQ k l.length) (bdN k nm ot l.length) 0 []:=by simp [Tm.fv,h1]
  rw [e] at O
  rw [if_neg h1] at hG
  have aj:=zPS k nm ot l.length
  generalize bdN k nm ot l.length=ns at O aj ⊢
  generalize zCQ k l.length=at_ at O ⊢
  refine up aa hlen (λi xs=>∀ (out:List ByteArray) q a5 c5 N',N<=N'->out.length+zEJ xs<=zEJ l->zBB xs at_ ns i out=zBB l at_ ns 0 []->xP Q N at_ (zA out).length q a es c (es.length:Int) i a5 (zA ns) c5 (zA out) q N') ?_ ?_ [] 0 a3 c3 N4 (by omega) (by simp) rfl
  ·intro i ak hi out q a5 c5 N' al ab he
   refine rG _ _ _ _ _ _ _ _ _ _ _ _ _ _ _ _ ?_
   rw [ak]
   simp only [zBB] at he
   subst he
   exact ⟨⟨rfl,rfl⟩,λN5 am=>O _ _ (by omega)⟩
  ·intro i x xs I _ ac out q a5 c5 N' al ab he
   have hb:=I.b
   simp only [zEJ] at ab
   have ao:=Tm.fv_len x
   have ae:=uR out (if (i:Int)=at_ then zAi ns x.fv else x.fv)
   have a6:(zAi ns x.fv).length<=x.vc:=oe (mX _ _) ao
   refine rG _ _ _ _ _ _ _ _ _ _ _ _ _ _ _ _ ?_
   rw [I.lt]
   refine ⟨⟨by omega,by omega⟩,λN5 am=>?_⟩
   rw [oH,I.w]
   refine ih x I.m _ I.r (by omega) N5 _ λc6 N6 a7 _ _=>Br.beq (λh N7 a8=>zKH x.fv (by omega) ns (by omega) c6 a5 c5 N7 _ λx8 N8 ba _ _ _=>⟨⟨rfl,rfl⟩,λa9 _=>⟨⟨rfl,rfl⟩,λJ _ N9 aq ah=>?_⟩⟩) λh=>⟨⟨rfl,rfl⟩,λa9 _=>⟨⟨rfl,rfl⟩,λJ _ N9 aq ah=>?_⟩⟩
   ·refine vz out (zAi ns x.fv) (by omega) (by omega) a9 J q c6 N9 _ λau aw ai _=>⟨rF _,λ_=>?_⟩
    rw [if_pos h] at ae
    exact ac _ _ _ _ _ (by omega) (by omega) (by rw [<-he];simp only [zBB];rw [if_pos h])
   ·refine vz out x.fv (by omega) (by omega) a9 J q c6 N9 _ λau aw ai _=>⟨rF _,λ_=>?_⟩
    rw [if_neg h] at ae
    exact ac _ _ _ _ _ (by omega) (by omega) (by rw [<-he];simp only [zBB];rw [if_neg h])
end Go.Proofs.YtlahkdflngobiaaGreatDoor
