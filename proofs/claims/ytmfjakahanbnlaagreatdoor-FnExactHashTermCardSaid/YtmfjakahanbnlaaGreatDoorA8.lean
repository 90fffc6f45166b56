/- Free names: the program's and the reference's. -/
import Derived.Test.YtmfjakahanbnlaaGreatDoorA7
import Derived.Shelf.Strconv.Itoa3
set_option linter.unusedVariables false
set_option linter.unusedSimpArgs false
namespace Go.Proofs.YtmfjakahanbnlaaGreatDoor
open Go Go.Proofs Go.Proofs.Tryz Go.IntWalk
mutual
/-- variables -/
def Tm.vc:Tm->Nat
 | .mk k _ _ _ _ _ l=>if k=1 then 1 else rc l
def rc:List Tm->Nat
 | []=>0
 | t::ts=>t.vc+rc ts
end
mutual
theorem Tm.vc_cnt:∀ t:Tm,3*t.vc<=t.cnt
 | .mk k nm ot n ty re l=>by
   have:=Ty.cnt_pos ty
   have:=Ty.cnt_pos re
   have:=zCS l
   simp only [Tm.vc,Tm.cnt]
   split<;>omega
theorem zCS:∀ l:List Tm,3*rc l<=z8 l
 | []=>oF _
 | t::ts=>by
   have:=Tm.vc_cnt t
   have:=zCS ts
   simp only [rc,z8];omega
end
mutual
theorem Tm.fv_len:∀ t:Tm,t.fv.length<=t.vc
 | .mk k nm ot n ty re l=>by
   simp only [Tm.fv,Tm.vc]
   split
   ·simp
   ·have:=zC7 l (xL k l.length) (bdN k nm ot l.length) 0 []
    simp at this;omega
theorem zC7:∀ (l:List Tm) (at_:Int) (ns:List ByteArray) (i:Nat) (out:List ByteArray),(tS l at_ ns i out).length<=out.length+rc l
 | [],_,_,_,out=>by simp [tS]
 | x::xs,at_,ns,i,out=>by
   simp only [tS,rc]
   have h1:=zC7 xs at_ ns (i+1) (s9 out (if (i:Int)=at_ then tA ns x.fv else x.fv))
   have h2:=Tm.fv_len x
   have h3:(if (i:Int)=at_ then tA ns x.fv else x.fv).length<=x.vc:=by
    split
    ·exact ol (mD _ _) h2
    ·exact h2
   have h4:(s9 out (if (i:Int)=at_ then tA ns x.fv else x.fv)).length<=out.length+(if (i:Int)=at_ then tA ns x.fv else x.fv).length:=by
    unfold s9
    have a1:=zCq (dd [] out) (if (i:Int)=at_ then tA ns x.fv else x.fv)
    have a2:=zCq [] out
    simp at a2;omega
   omega
end
theorem zDF (a b:List ByteArray):(s9 a b).length<=a.length+b.length:=by
 unfold s9
 have a1:=zCq (dd [] a) b
 have a2:=zCq [] a
 simp at a2;omega
theorem zHU (ns l:List ByteArray) (s:ByteArray):(tA ns l).filter (fun x=>decide (x≠s))=tA (ns++[s]) l:=by
 unfold tA
 rw [List.filter_filter]
 congr 1
 funext x
 rw [mG]
 simp
 exact And.comm
theorem zBA (l:List ByteArray):tA [] l=l:=by simp [tA]
theorem qj:∀ (t:Tm) (d:D),t.Is d->t.vc<=2199023255552->zJq 109 [.dg 9 d] t.fv:=by
 refine Tm.ind fun k nm ot n0 ty re l ih d hd hG N Q hQ=>?_
 obtain ⟨t0,t1,r0,r1,a,es,c,rfl,hh,hlen,hes⟩:=Tm.is_mk.1 hd
 have hl:=hes.len
 simp only [Tm.vc] at hG
 refine pi N _ Q fun _=>⟨_,rfl,Br.beq (fun h1=>⟨_,rfl,⟨rfl,rfl⟩,⟨rfl,rfl⟩,fun a1 N1 hN1 hf N2 hN2=>?_⟩) fun h1 N3 hN3=>pG (n:=l.length) (by omega) N3 _ fun a3 c3 N4 hN4 _ _ _=>?_⟩
 ·have e:(Tm.mk k nm ot n0 ty re l).fv=[nm]:=by simp [Tm.fv,h1]
  rw [e] at hQ
  exact hQ _ _ _ (by omega) (xF (l:=[nm]) hf hN2)
 ·have e:(Tm.mk k nm ot n0 ty re l).fv=tS l (xL k l.length) (bdN k nm ot l.length) 0 []:=by simp [Tm.fv,h1]
  rw [e] at hQ
  rw [if_neg h1] at hG
  have hns:=pP k nm ot l.length
  generalize bdN k nm ot l.length=ns at hQ hns ⊢
  generalize xL k l.length=at_ at hQ ⊢
  generalize hy:(D.ag [.lit (.int .i64 k),.lit (.string nm),.lit (.string ot),.lit (.int .i64 n0),t0,t1,r0,r1,.sl a 9 es c])=y
  have hy8:y.cell 8=.sl a 9 es c:=by rw [<-hy];rfl
  have hnw:=zB ns
  have inner:∀ (i:Nat) (x:Tm) (out:List ByteArray) (q N1:Nat),N<=N1->out.length<=2199023255552->x.fv.length<=2199023255552 ->
    (∀ c N'',N1<=N''->zV Q N a3 (zA ns) c3 at_ (zA (s9 out (if (i:Int)=at_ then tA ns x.fv else x.fv))).length c (IntKind.i64.wrap (i+1)) y (zA (s9 out (if (i:Int)=at_ then tA ns x.fv else x.fv))) c N'') ->
    ∀ a7 c7,Own N N1 (.sl a7 0 (zA x.fv) c7)->zm Q N a3 (zA ns) c3 at_ (zA out).length q i a7 (zA x.fv) c7 0 y (zA out) q N1:=fun i x out q N1 hN1 ho hx hc a7 c7 h7=>by
   have fin:∀ (lw:List ByteArray) (a7:Option Addr) (c7 N':Nat),N1<=N'->lw=(if (i:Int)=at_ then tA ns x.fv else x.fv) ->
     ((zA out).length=(zA out).length/\q=q)/\∀ a_1,ApA a_1 (zA out)->Off [a_1] (.sl a7 0 (zA lw) c7)->∀ N3,N'<=N3->rx N3 [a_1]->ACalls prog 175 [.row 9 0] [.sv a_1 0 (zA out) q,.sv a7 0 (zA lw) c7] N3 (fun es_1 c_1 N4=>N3<=N4->Off [a_1] (D.ag es_1)/\(Bel N4 (D.ag es_1)->zV Q N a3 (zA ns) c3 at_ es_1.length c_1 (IntKind.i64.wrap (i+1)) y es_1 c_1 N4)):=fun lw a7 c7 N' hN' hlw=>⟨⟨rfl,rfl⟩,fun a9 _ _ N5 hN5 hbel=>by
    have h5:lw.length<=2199023255552:=by
     rw [hlw];split
     ·exact ol (mD _ _) hx
     ·exact hx
    refine rB out lw ho h5 a9 a7 q c7 N5 _ fun c8 N8 hN8 _=>⟨qx _,fun _=>?_⟩
    subst hlw
    exact hc _ _ (by omega)⟩
   refine up (yF ns) (by omega) (fun j xs=>∀ (lw:List ByteArray) a7 c7 N',N1<=N'->lw=tA (ns.take j) x.fv->((i:Int)≠at_->j=0)->zm Q N a3 (zA ns) c3 at_ (zA out).length q i a7 (zA lw) c7 j y (zA out) q N') ?_ ?_ x.fv a7 c7 N1 (oF _) (by rw [ma,zBA]) (fun _=>rfl)
   ·intro j hlt hj lw a7 c7 N' hN' hlw hat
    refine wY _ _ _ _ _ _ _ _ _ _ _ _ _ _ _ _ _ ?_
    rw [hlt]
    refine fin lw a7 c7 N' hN' ?_
    rw [hlw,nH (by omega)]
    split
    ·rfl
    ·rename_i hne
     have:=hat hne
     have:ns=[]:=oX (by omega)
     rw [this,zBA]
   ·intro j s xs hat _ ih2 lw a7 c7 N' hN' hlw hj
    have hb:=hat.b
    have hr:=hat.r
    refine wY _ _ _ _ _ _ _ _ _ _ _ _ _ _ _ _ _ ?_
    rw [hat.lt]
    refine Br.beq (fun he=>⟨⟨by omega,by omega⟩,s,?_,fun N2 hN2=>zB8 lw ?_ a7 c7 s N2 _ fun a8 c8 N8 hN8 _ _ _=>?_⟩) fun hne=>fin lw a7 c7 N' hN' ?_
    ·rw [oJ,hr]
    ·rw [hlw];exact ol (mD _ _) hx
    ·rw [hat.w]
     refine ih2 _ _ _ _ (by omega) ?_ (fun hc=>absurd he hc)
     rw [hlw,zHU,vq hat.g]
    ·rw [if_neg hne,hlw,hj hne,ma,zBA]
  refine up hes hlen (fun i xs=>∀ (out:List ByteArray) (q N':Nat),N<=N'->out.length+rc xs<=rc l->tS xs at_ ns i out=tS l at_ ns 0 []->zV Q N a3 (zA ns) c3 at_ (zA out).length q i y (zA out) q N') ?_ ?_ [] 0 N4 (by omega) (by simp) rfl
  ·intro i hlt hi out q N' hN' _ he
   refine wu _ _ _ _ _ _ _ _ _ _ _ _ _ ⟨_,_,_,hy8,?_⟩
   rw [hlt]
   simp only [tS] at he
   subst he
   exact ⟨⟨rfl,rfl⟩,⟨rfl,rfl⟩,⟨rfl,rfl⟩,fun a1 N5 hN5 hf N6 hN6=>hQ _ _ _ (by omega) (xF hf hN6)⟩
  ·intro i x xs hat _ ih2 out q N' hN' hle he
   have hb:=hat.b
   simp only [rc] at hle
   have hxc:=Tm.fv_len x
   have hlx:=zDF out (if (i:Int)=at_ then tA ns x.fv else x.fv)
   have hcx:(if (i:Int)=at_ then tA ns x.fv else x.fv).length<=x.vc:=by
    split
    ·exact ol (mD _ _) hxc
    ·exact hxc
   refine wu _ _ _ _ _ _ _ _ _ _ _ _ _ ⟨_,_,_,hy8,?_⟩
   rw [hat.lt]
   refine ⟨_,_,_,hy8,⟨by omega,by omega⟩,fun N5 hN5=>?_⟩
   rw [oJ]
   refine ih x hat.m _ hat.r (by omega) N5 _ fun a6 c6 N6 hN6 ho6 _ _=>inner i x out q N6 (by omega) (by omega) (by omega) (fun c N'' h1=>?_) a6 c6 (ho6.mono (by omega) (oF _))
   rw [hat.w]
   exact ih2 _ _ _ (by omega) (by omega) (by rw [<-he];rfl)
theorem BCalls.cap {f:FuncId} {full:List Sh} {args:List PV} {bx:List Bx} {N:Nat} {Q:QT full} (hc:yo prog f=true) (h:(∀ t z es n,Bx.arr t z es n∈bx->es.length<=n)->BCalls prog f full args bx N Q):BCalls prog f full args bx N Q:=
 ⟨hc,fun av w0 E h1 h2 h3 h4 h5=>(h fun t z es n hm=>by
  obtain ⟨k,hk⟩:=oP.1 hm
  rcases h3.br k _ hk (by simp) with ⟨_,e1,e2⟩ | ⟨b,c,_,_,_,e,_⟩
  ·rw [e1,e2];exact oF _
  ·exact e).h av w0 E h1 h2 h3 h4 h5⟩
theorem zA0 {α:Type} (p:α->Bool):∀ (l:List α) (i:Int),(r8 p l i = -1/\∀ x∈l,p x=false)\/∃ pre x post,l=pre++x::post/\r8 p l i=i+(pre.length:Int)/\p x=true/\∀ y∈pre,p y=false
 | [],i=>.inl ⟨rfl,by simp⟩
 | x :: l,i=>by
   simp only [r8]
   by_cases hx:p x=true
   ·exact .inr ⟨[],x,l,rfl,by simp [hx],hx,by simp⟩
   ·rcases zA0 p l (i+1) with ⟨h1,h2⟩ | ⟨pre,y,post,h1,h2,h3,h4⟩
    ·refine .inl ⟨by rw [if_neg hx,h1],fun y hy=>?_⟩
     rcases oI.1 hy with rfl | hy
     ·simpa using hx
     ·exact h2 y hy
    ·refine .inr ⟨x::pre,y,post,by rw [h1];rfl,by rw [if_neg hx,h2];simp only [oR];omega,h3,fun z hz=>?_⟩
     rcases oI.1 hz with rfl | hz
     ·simpa using hx
     ·exact h4 z hz
theorem zC0 (s:ByteArray) (ns:List ByteArray) (hn:ns.length<=4611686018427387904) (ad:Addr) (a:Option Addr) (c:Nat):tW 183 [.str s,.pd ad 0 (.sl a 0 (zA ns) c)] (decide (s∈ns)):=fun N Q hQ=>by
 refine uq N s ad _ Q ⟨_,_,_,rfl,fun N1 hN1=>xc ns hn a c s N1 _ fun N2 hN2 _ N3 hN3=>Qb (hQ _ (by omega)) (zD5 s ns).symm⟩
theorem zDq (l:List ByteArray) (hl:l.length<=2199023255552) (a:Option Addr) (c:Nat) (ad:Addr) (ns:List ByteArray) (hn:ns.length<=4611686018427387904) (a1:Option Addr) (c1:Nat) :
  zCJ 240 [.sv a 0 (zA l) c,.fn 183 [.pd ad 0 (.sl a1 0 (zA ns) c1)]] (r8 (fun x=>decide (x∈ns)) l 0):=fun N Q hQ=>by
 have hlen:=zB l
 refine wX N a _ c ad _ Q fun _=>?_
 refine up (yF l) (by omega) (fun i xs=>∀ (N':Nat),N<=N'->(∀ N'',N'<=N''->Q (r8 (fun x=>decide (x∈ns)) xs i) N'')->za Q N a (zA l) c ad (.sl a1 0 (zA ns) c1) ((zA l).length:Int) i N') ?_ ?_ N (oF _) hQ
 ·intro i hlt _ N' hN' hQ'
  refine yZ _ _ _ _ _ _ _ _ _ _ ?_
  rw [hlt]
  exact fun N'' h=>hQ' _ (by omega)
 ·intro i x xs hat _ ih2 N' hN' hQ'
  have hb:=hat.b
  have hr:=hat.r
  simp only [r8] at hQ'
  refine yZ _ _ _ _ _ _ _ _ _ _ ?_
  rw [hat.lt,hat.w,oJ,hr]
  refine ⟨⟨by omega,by omega⟩,x,rfl,fun N1 hN1=>zC0 x ns hn ad a1 c1 N1 _ fun N2 hN2 _=>Br.dec (fun h N3 hN3=>Qi (hQ' _ (by omega)) (by simp [h])) fun h=>ih2 _ (by omega) fun N'' h2=>Qi (hQ' _ (by omega)) (by rw [if_neg (by simpa using h)];simp)⟩
theorem zJT (done:List D) (y s:D) (r:List D):(done++y::r).set done.length s=done++s::r:=by
 rw [md _ _ (oF _),Nat.sub_self];rfl
theorem zC2 (l:List ByteArray) (hl:l.length<=2199023255552) (ns:List ByteArray) (hn:ns.length<=4611686018427387904) (c:Nat) (a1:Option Addr) (c1:Nat) (N:Nat) (Q:QT [Sh.bk 0,.sl 0,.sl 0])
  (hQ:∀ x N',N<=N'->Q x none (zA (tA ns l)) c a1 (zA ns) c1 N') :
  BCalls prog 182 [Sh.bk 0,.sl 0,.sl 0] [.sb 0 0 0 (zA l).length c,.fn 183 [.pb 1 0 0 0]] [.arr 9 0 (zA l) c,.var [.sv a1 0 (zA ns) c1]] N Q:=by
 refine BCalls.cap (by kernel_rfl) fun hcap=>?_
 have hc:=hcap _ _ _ _ (List.mem_cons_self)
 have hlw:=zB l
 refine wO N _ _ _ _ _ _ _ Q fun E _ _=>⟨⟨rfl,rfl⟩,fun a2 _ ad _ N1 hN1 _=>zDq l hl a2 c ad ns hn a1 c1 N1 _ fun N2 hN2 _=>?_⟩
 rcases zA0 (fun x=>decide (x∈ns)) l 0 with ⟨h1,h2⟩ | ⟨pre,x,post,h1,h2,h3,h4⟩
 ·rw [h1]
  refine ⟨zGf,⟨rfl,rfl⟩,fun N3 hN3=>?_⟩
  have e:tA ns l=l:=by
   unfold tA
   rw [List.filter_eq_self]
   intro s hs
   simpa using h2 s hs
  rw [e] at hQ
  exact hQ _ _ (by omega)
 ·rw [h2,Int.zero_add]
  have hll:=o9 List.length h1
  rw [oH,oR] at hll
  have hpre:tA ns l=pre++tA ns post:=by
   rw [h1]
   unfold tA
   rw [List.filter_append,List.filter_cons_of_neg (by simpa using h3),List.filter_eq_self.2 fun s hs=>by simpa using h4 s hs]
  rw [hpre] at hQ
  refine Br.beq (fun h=>by omega) fun _=>?_
  rw [i64_in _ (by omega)]
  have key:∀ (xs done:List ByteArray) (junk:List D) (j:Int) (N':Nat),N<=N'->junk≠[]->done++tA ns xs=pre++tA ns post->j=((done.length+junk.length:Nat):Int)->done.length+junk.length+xs.length=l.length ->
    zH E Q N (zA l).length c (done.length:Int) j (zA done++(junk++zA xs)) c a1 (zA ns) c1 N':=by
   intro xs
   induction xs with
   | nil=>
     intro done junk j N' hN' hj hd hjj hlen
     have hdw:=zB done
     have hjl:=mV.2 hj
     simp only [nN,nw] at hlen
     refine yW _ _ _ _ _ _ _ _ _ _ _ _ _ ?_
     rw [decide_eq_false (by omega)]
     have e1:List.take (done.length:Int).toNat (List.take (0+(done.length:Int).toNat) (zA done++(junk++zA []))++(List.replicate (((zA l).length:Int).toNat - (done.length:Int).toNat) (D.lit (.string (bytes [])))++List.drop (0+(done.length:Int).toNat+(((zA l).length:Int).toNat - (done.length:Int).toNat)) (zA done++(junk++zA []))))=zA done:=by
      rw [oJ,nE,mM (by rw [nB,oH];omega),List.take_take,Nat.min_self,mM (by omega),nH (by omega)]
     rw [e1]
     simp only [tA,List.filter_nil,od] at hd
     have hd:done=pre++tA ns post:=hd
     have hrl:(zA done++(junk++zA [])).length=l.length:=by simp [zA];omega
     refine ⟨⟨by omega,by omega,by omega,by omega⟩,by omega,⟨by omega,by omega⟩,?_,zGf,⟨by omega,rfl⟩,fun N3 hN3=>?_⟩
     ·rw [oH,nB];omega
     ·rw [hd];exact hQ _ _ (by omega)
   | cons s xs ih=>
     intro done junk j N' hN' hj hd hjj hlen
     have hdw:=zB done
     have hjl:=mV.2 hj
     have hxw:=zB (s::xs)
     simp only [oR] at hlen hxw
     refine yW _ _ _ _ _ _ _ _ _ _ _ _ _ ?_
     rw [decide_eq_true (by omega)]
     have hrl:(zA done++(junk++zA (s::xs))).length=l.length:=by simp only [oH];omega
     have hget:(zA done++(junk++zA (s::xs))).getD (0+j.toNat) default=.lit (.string s):=by
      rw [hjj,oJ,nE,oA,oM (by omega),oM (by omega)]
      rw [show done.length+junk.length - (zA done).length - junk.length=0 by omega]
      rfl
     refine ⟨⟨by omega,by omega,by omega⟩,by omega,s,hget,fun ad _ N1 hN1 _=>zC0 s ns hn ad a1 c1 N1 _ fun N2 hN2 _=>Br.ndec (fun h=>⟨⟨by omega,by omega,by omega⟩,by omega,?_⟩) fun h=>?_⟩
     ·rw [i64_in _ (by omega),i64_in _ (by omega),nE,oJ]
      obtain ⟨y,ys,rfl⟩:=List.exists_cons_of_ne_nil hj
      have e2:(zA done++(y::ys++zA (s::xs))).set done.length (.lit (.string s))=zA (done++[s])++((ys++[.lit (.string s)])++zA xs):=by
       rw [<-hdw,nY,zJT,<-yN]
       simp [zA]
      rw [e2]
      have:=ih (done++[s]) (ys++[.lit (.string s)]) (j+1) N2 (by omega) (by simp) (by rw [<-hd];simp [tA,h]) (by simp only [oH,oR,nN] at hjj ⊢;omega) (by simp only [oH,oR,nN] at hlen ⊢;omega)
      simpa using this
     ·rw [i64_in _ (by omega)]
      have:=ih done (junk++[.lit (.string s)]) (j+1) N2 (by omega) (by simp) (by rw [<-hd];simp [tA,h]) (by simp only [oH,oR,nN];omega) (by simp only [oH,oR,nN];omega)
      simpa [zA] using this
  have:=key post pre [.lit (.string x)] ((pre.length:Int)+1) N2 (by omega) (by simp) rfl (by simp) (by simp;omega)
  rw [h1]
  rw [h1] at this
  simpa [zA] using this
theorem pu:∀ (t:Tm) (d:D),t.Is d->t.vc<=2199023255552->zHi 116 [.dg 9 d] t.fv:=by
 refine Tm.ind fun k nm ot n0 ty re l ih d hd hG N Q hQ=>?_
 obtain ⟨t0,t1,r0,r1,a,es,c,rfl,hh,hlen,hes⟩:=Tm.is_mk.1 hd
 have hl:=hes.len
 simp only [Tm.vc] at hG
 refine qb N _ Q fun _=>⟨_,rfl,Br.beq (fun h1=>⟨_,rfl,⟨rfl,rfl⟩,fun N1 hN1=>?_⟩) fun h1 N3 hN3=>zHb (n:=l.length) (by omega) N3 _ fun a3 c3 N4 hN4 _ _ _=>⟨_,_,_,rfl,?_⟩⟩
 ·have e:(Tm.mk k nm ot n0 ty re l).fv=[nm]:=by simp [Tm.fv,h1]
  rw [e] at hQ
  exact hQ _ _ (by omega)
 ·have e:(Tm.mk k nm ot n0 ty re l).fv=tS l (xL k l.length) (bdN k nm ot l.length) 0 []:=by simp [Tm.fv,h1]
  rw [e] at hQ
  rw [if_neg h1] at hG
  have hns:=pP k nm ot l.length
  generalize bdN k nm ot l.length=ns at hQ hns ⊢
  generalize xL k l.length=at_ at hQ ⊢
  refine up hes hlen (fun i xs=>∀ (out:List ByteArray) q a5 c5 N',N<=N'->out.length+rc xs<=rc l->tS xs at_ ns i out=tS l at_ ns 0 []->yA Q N at_ (zA out).length q a es c (es.length:Int) i a5 (zA ns) c5 (zA out) q N') ?_ ?_ [] 0 a3 c3 N4 (by omega) (by simp) rfl
  ·intro i hlt hi out q a5 c5 N' hN' hle he
   refine ww _ _ _ _ _ _ _ _ _ _ _ _ _ _ _ _ ?_
   rw [hlt]
   simp only [tS] at he
   subst he
   exact ⟨⟨rfl,rfl⟩,fun N5 hN5=>hQ _ _ (by omega)⟩
  ·intro i x xs hat _ ih2 out q a5 c5 N' hN' hle he
   have hb:=hat.b
   simp only [rc] at hle
   have hxc:=Tm.fv_len x
   have hlx:=zDF out (if (i:Int)=at_ then tA ns x.fv else x.fv)
   have hcx:(tA ns x.fv).length<=x.vc:=ol (mD _ _) hxc
   refine ww _ _ _ _ _ _ _ _ _ _ _ _ _ _ _ _ ?_
   rw [hat.lt]
   refine ⟨⟨by omega,by omega⟩,fun N5 hN5=>?_⟩
   rw [oJ,hat.w]
   refine ih x hat.m _ hat.r (by omega) N5 _ fun c6 N6 hN6 _ _=>Br.beq (fun h N7 hN7=>zC2 x.fv (by omega) ns (by omega) c6 a5 c5 N7 _ fun x8 N8 hN8 _ _ _=>⟨⟨rfl,rfl⟩,fun a9 _=>⟨⟨rfl,rfl⟩,fun a10 _ N9 hN9 hbel=>?_⟩⟩) fun h=>⟨⟨rfl,rfl⟩,fun a9 _=>⟨⟨rfl,rfl⟩,fun a10 _ N9 hN9 hbel=>?_⟩⟩
   ·refine vE out (tA ns x.fv) (by omega) (by omega) a9 a10 q c6 N9 _ fun c11 N11 hN11 _=>⟨qx _,fun _=>?_⟩
    rw [if_pos h] at hlx
    exact ih2 _ _ _ _ _ (by omega) (by omega) (by rw [<-he];simp only [tS];rw [if_pos h])
   ·refine vE out x.fv (by omega) (by omega) a9 a10 q c6 N9 _ fun c11 N11 hN11 _=>⟨qx _,fun _=>?_⟩
    rw [if_neg h] at hlx
    exact ih2 _ _ _ _ _ (by omega) (by omega) (by rw [<-he];simp only [tS];rw [if_neg h])
end Go.Proofs.YtmfjakahanbnlaaGreatDoor
namespace Go.Proofs
namespace YtmfjakahanbnlaaGreatDoor
open Go Go.Proofs Go.Proofs.Tryz Go.RowKit Go.Shelf Go.Sort Go.Lib
def itoaR:Go.Shelf.Ren:=⟨fun x=>match x with | 171=>246 | 243=>279 | 246=>295 | 283=>304 | 284=>305 | 285=>306 | 286=>307 | 129=>310 | 317=>309 | 318=>311 | 319=>312 | 320=>313 | 337=>314 | 338=>315 | n=>n,fun x=>match x with | 3=>3 | 9=>9 | 2=>2 | 4=>4 | 171=>269 | 0=>0 | 53=>270 | 37=>59 | 5=>5 | 173=>273 | 212=>276 | 51=>277 | 20=>20 | 213=>278 | 46=>208 | 232=>281 | 233=>282 | n=>n,fun x=>match x with | 17=>1 | 18=>2 | 19=>3 | n=>n⟩
theorem itoaL:LaysM.n171 Tryz.prog itoaR where
 mixed:=by kernel_rfl
 f129:=Tryz.func310.trans (o9 some (by kernel_rfl))
 f171:=Tryz.func246.trans (o9 some (by kernel_rfl))
 f243:=Tryz.func279.trans (o9 some (by kernel_rfl))
 f246:=Tryz.func295.trans (o9 some (by kernel_rfl))
 f283:=Tryz.func304.trans (o9 some (by kernel_rfl))
 f284:=Tryz.func305.trans (o9 some (by kernel_rfl))
 f285:=Tryz.func306.trans (o9 some (by kernel_rfl))
 f286:=Tryz.func307.trans (o9 some (by kernel_rfl))
 f317:=Tryz.func309.trans (o9 some (by kernel_rfl))
 f318:=Tryz.func311.trans (o9 some (by kernel_rfl))
 f319:=Tryz.func312.trans (o9 some (by kernel_rfl))
 f320:=Tryz.func313.trans (o9 some (by kernel_rfl))
 f337:=Tryz.func314.trans (o9 some (by kernel_rfl))
 f338:=Tryz.func315.trans (o9 some (by kernel_rfl))
 t0:=Tryz.underlying0
 a0:=Tryz.isAgg0
 z0:=Tryz.sizeOf0
 v0:=Tryz.zeroValue0
 t2:=Tryz.underlying2
 a2:=Tryz.isAgg2
 z2:=Tryz.sizeOf2
 v2:=Tryz.zeroValue2
 t3:=Tryz.underlying3
 a3:=Tryz.isAgg3
 z3:=Tryz.sizeOf3
 v3:=Tryz.zeroValue3
 t4:=Tryz.underlying4
 a4:=Tryz.isAgg4
 z4:=Tryz.sizeOf4
 v4:=Tryz.zeroValue4
 t5:=Tryz.underlying5
 a5:=Tryz.isAgg5
 z5:=Tryz.sizeOf5
 v5:=Tryz.zeroValue5
 t9:=Tryz.underlying9
 a9:=Tryz.isAgg9
 z9:=Tryz.sizeOf9
 v9:=Tryz.zeroValue9
 t20:=Tryz.underlying20
 a20:=Tryz.isAgg20
 z20:=Tryz.sizeOf20
 v20:=Tryz.zeroValue20
 t37:=Tryz.underlying59
 a37:=Tryz.isAgg59
 z37:=Tryz.sizeOf59
 v37:=Tryz.zeroValue59
 t46:=Tryz.underlying208
 a46:=Tryz.isAgg208
 z46:=Tryz.sizeOf208
 v46:=Tryz.zeroValue208
 t51:=Tryz.underlying277
 a51:=Tryz.isAgg277
 z51:=Tryz.sizeOf277
 v51:=Tryz.zeroValue277
 t53:=Tryz.underlying270
 a53:=Tryz.isAgg270
 z53:=Tryz.sizeOf270
 v53:=Tryz.zeroValue270
 t171:=Tryz.underlying269
 a171:=Tryz.isAgg269
 z171:=Tryz.sizeOf269
 v171:=Tryz.zeroValue269
 t173:=Tryz.underlying273
 a173:=Tryz.isAgg273
 z173:=Tryz.sizeOf273
 v173:=Tryz.zeroValue273
 t212:=Tryz.underlying276
 a212:=Tryz.isAgg276
 z212:=Tryz.sizeOf276
 v212:=Tryz.zeroValue276
 t213:=Tryz.underlying278
 a213:=Tryz.isAgg278
 z213:=Tryz.sizeOf278
 t232:=Tryz.underlying281
 a232:=Tryz.isAgg281
 z232:=Tryz.sizeOf281
 v232:=Tryz.zeroValue281
 t233:=Tryz.underlying282
 a233:=Tryz.isAgg282
 z233:=Tryz.sizeOf282
 v233:=Tryz.zeroValue282
 g17:=by kernel_rfl
 g18:=by kernel_rfl
 g19:=by kernel_rfl
 i0:=by kernel_rfl
 i2:=by kernel_rfl
 i3:=by kernel_rfl
 i4:=by kernel_rfl
 i5:=by kernel_rfl
 i9:=by kernel_rfl
 i20:=by kernel_rfl
 i37:=by kernel_rfl
 i46:=by kernel_rfl
 i51:=by kernel_rfl
 i53:=by kernel_rfl
 i171:=by kernel_rfl
 i173:=by kernel_rfl
 i212:=by kernel_rfl
 i232:=by kernel_rfl
 i233:=by kernel_rfl
 m17:=by kernel_rfl
 m18:=by kernel_rfl
 m19:=by kernel_rfl
theorem zIK {w : World} (h : GlobIs w) : Lib.TabIs prog w "internal/strconv.uint64pow10" .u64 Lib.pow10Tab := by
 obtain ⟨t,fz,h1⟩:=h.h _ (List.mem_cons_self)
 unfold Lib.TabIs World.var?
 rw [itoaL.m17]
 have h2:w.heap[itoaR.g 17]?=some (.cells (Lib.pow10Tab.map fun n=>Value.int .u64 n).toArray t fz):=h1
 simp only [mK,h2]
theorem zKR (u:Nat) (h1:u<=9223372036854775807) (N:Nat) (Q:QT [.str]) (hQ:∀ N',N<=N'->Q ⟨(Lib.decDigits u).toArray⟩ N'):ACalls prog 246 [.str] [.int .i64 u] N Q:=
 ⟨by kernel_rfl,fun av w0 hN hav _=>(Any.strconv_Itoa itoaL (u:Int) (by omega) (by omega) w0 (zIK hav.g)).mono fun e w ⟨he,k,os,hw⟩=>by
  subst he
  subst hN
  subst hw
  rw [Lib.itoa_nonneg]
  have hsz:(Go.Sort.grow (w0.drewN k) os).heap.size=w0.heap.size+os.size:=by unfold Go.Sort.grow;rw [mI];rfl
  refine ⟨[.str ⟨(Lib.decDigits u).toArray⟩],[],[],?_⟩
  exact { q:=hQ _ (by rw [hsz];omega),v:=rfl,m:=⟨rfl,by simp,by simp,by simp,fun k j b h=>by obtain ⟨_,h2,_⟩:=h;simp [Env.at] at h2⟩,ok:=fun p hp=>by simp at hp;subst hp;trivial,fresh:=fun k b h=>by simp [Env.at] at h,size:=by rw [hsz];omega,old:=fun b hb=>Array.getElem?_append_left hb,fz:=fun _ _ _ _ _ _=>trivial,ku:=⟨rfl,rfl⟩ }⟩
end YtmfjakahanbnlaaGreatDoor
end Go.Proofs
namespace Go.Proofs.YtmfjakahanbnlaaGreatDoor
open Go Go.Proofs Go.Proofs.Tryz Go.IntWalk
def wM (f:FuncId) (args:List PV) (s:ByteArray):Prop:=∀ (N:Nat) (Q:QT [.str]),(∀ N',N<=N'->Q s N')->ACalls prog f [.str] args N Q
theorem Qst {Q:QT [.str]} {a b:ByteArray} {N:Nat} (h:Q a N) (e:a=b):Q b N:=e ▸ h
def zJW (u:Nat):ByteArray:=⟨(Lib.decDigits u).toArray⟩
theorem px (u:Nat) (h:u<=4611686018427387904):Lib.nDigits u<=20:=by
 by_cases h1:1<=u
 ·have:=Lib.numDigits_eq u h1 (by omega);split at this<;>omega
 ·rw [Lib.nDigits_small (by omega)];omega
theorem qz (u:Nat):(zJW u).size=Lib.nDigits u:=by
 show (Lib.decDigits u).toArray.size=_
 rw [nS,Lib.decDigits_length]
theorem wP {a b:ByteArray} (h:a.data.toList=b.data.toList):a=b:=by
 cases a;cases b;simp at h;rw [h]
theorem zA2 (a b:ByteArray):(a++b).data.toList=a.data.toList++b.data.toList:=by simp
theorem vZ (u:Nat) (h:u<=4611686018427387904):wM 190 [.int .i64 u] (zJW u):=fun N Q hQ=>
 rp N u Q fun N1 hN1=>zKR u (by omega) N1 _ fun N2 hN2 _ N3 hN3=>hQ _ (by omega)
theorem zIf (m:Nat) (s:ByteArray) (hs:∀ u,u<10->Lib.decDigits u=[UInt8.ofNat (48+u)]):(bytesOf [IntKind.u8.wrap (IntKind.i64.wrap (48+Int.tmod (m:Int) 10))]++s).data.toList=UInt8.ofNat (48+m % 10)::s.data.toList:=by
 rw [zA2]
 have e:IntKind.u8.wrap (IntKind.i64.wrap (48+Int.tmod (m:Int) 10))=((48+m % 10:Nat):Int):=by
  have:Int.tmod (m:Int) 10=((m % 10:Nat):Int):=by rw [mQ (by omega)];omega
  rw [this,i64_in _ (by omega),IntKind.wrap_u8];omega
 rw [e]
 have h2:bytesOf [((48+m % 10:Nat):Int)]=⟨#[UInt8.ofNat (48+m % 10)]⟩:=rfl
 rw [h2]
 rfl
theorem vU (u:Nat) (h:u<=4611686018427387904):wM 188 [.int .i64 u] (zJW u):=fun N Q hQ=>by
 have e1:∀ u,u<10->Lib.decDigits u=[UInt8.ofNat (48+u)]:=fun u h=>by rw [Lib.decDigits,dif_pos h]
 have e2:∀ u,¬u<10->Lib.decDigits u=Lib.decDigits (u / 10)++[UInt8.ofNat (48+u % 10)]:=fun u h=>by rw [Lib.decDigits,dif_neg h]
 refine rj N u Q (Br.beq (fun h0 N1 hN1=>?_) fun h0=>?_)
 ·have:u=0:=by omega
  subst this
  refine Qst (hQ _ hN1) (wP ?_)
  show Lib.decDigits 0=[48]
  rw [e1 0 (by omega)]
  rfl
 ·rw [decide_eq_false (by omega)]
  have key:∀ (m:Nat) (s:ByteArray),m<=u->s.size+Lib.nDigits m<=20\/(m=0/\s.size<=20)->(if m=0 then [] else Lib.decDigits m)++s.data.toList=Lib.decDigits u->zn Q N m false s N:=by
   intro m
   induction m using Nat.strongRecOn with
   | _ m ih=>
     intro s hm hsz he
     refine tn _ _ _ _ _ _ ?_
     refine Br.bne (fun hm0=>?_) fun hm0=>?_
     ·have hm0:m≠0:=by omega
      have ht:Int.tmod (m:Int) 10=((m % 10:Nat):Int):=by rw [mQ (by omega)];omega
      have hd:Int.tdiv (m:Int) 10=((m / 10:Nat):Int):=by rw [Int.tdiv_eq_ediv_of_nonneg (by omega)];omega
      have hsz:s.size+Lib.nDigits m<=20:=by rcases hsz with h1 | ⟨h1,_⟩;exact h1;exact absurd h1 hm0
      refine ⟨by omega,?_⟩
      rw [decide_eq_false (by omega)]
      refine ⟨by simp,[IntKind.u8.wrap (IntKind.i64.wrap (48+Int.tmod (m:Int) 10))],rfl,?_,by omega,?_⟩
      ·have:(bytesOf [IntKind.u8.wrap (IntKind.i64.wrap (48+Int.tmod (m:Int) 10))]).size=1:=rfl
       omega
      ·rw [hd,i64_in _ (by omega)]
       refine ih (m / 10) (by omega) _ (by omega) ?_ ?_
       ·have h1:(bytesOf [IntKind.u8.wrap (IntKind.i64.wrap (48+Int.tmod (m:Int) 10))]++s).size=1+s.size:=by
         rw [oD];rfl
        by_cases h10:m<10
        ·right
         have:=Lib.nDigits_pos m
         exact ⟨by omega,by omega⟩
        ·left
         have:=Lib.nDigits_big h10
         omega
       ·rw [zIf m s e1,<-he,if_neg hm0]
        by_cases h10:m<10
        ·rw [if_pos (by omega),e1 m h10,show m % 10=m by omega];rfl
        ·rw [if_neg (by omega),e2 m h10];simp
     ·have:m=0:=by omega
      subst this
      refine fun N2 hN2=>Qst (hQ _ hN2) (wP ?_)
      rw [if_pos rfl] at he
      exact he.symm
  refine key u (bytes []) (oF _) (.inl ?_) ?_
  ·have:=px u h
   show 0+_<=_
   omega
  ·rw [if_neg (by omega)];exact od _
end Go.Proofs.YtmfjakahanbnlaaGreatDoor
