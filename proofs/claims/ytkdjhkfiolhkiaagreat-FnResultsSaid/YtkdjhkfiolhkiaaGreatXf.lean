/- Free names: the program's and the reference's. -/
import Derived.Test.YtkdjhkfiolhkiaaGreatXa
set_option linter.unusedVariables false
set_option linter.unusedSimpArgs false
namespace Go.Proofs.YtkdjhkfiolhkiaaGreat
open Go Go.Proofs Go.Proofs.Tryz Go.IntWalk
mutual
/-- variables -/
def Tm.vc:Tm->Nat
 | .mk k _ _ _ _ _ l=>if k=1 then 1 else wT l
def wT:List Tm->Nat
 | []=>0
 | t::ts=>t.vc+wT ts
end
theorem pi:∀ {l:List Tm} {t:Tm},t∈l->t.vc<=wT l
 | u::us,t,h=>by
   simp only [wT]
   rcases oG.1 h with rfl | h
   ·omega
   ·have:=pi h;omega
mutual
theorem Tm.vc_cnt:∀ t:Tm,3*t.vc<=t.cnt
 | .mk k nm ot n ty re l=>by
   have:=Ty.cnt_pos ty
   have:=Ty.cnt_pos re
   have:=zG3 l
   simp only [Tm.vc,Tm.cnt]
   split<;>omega
theorem zG3:∀ l:List Tm,3*wT l<=zI l
 | []=>oD _
 | t::ts=>by
   have:=Tm.vc_cnt t
   have:=zG3 ts
   simp only [wT,zI];omega
end
mutual
theorem Tm.fv_len:∀ t:Tm,t.fv.length<=t.vc
 | .mk k nm ot n ty re l=>by
   simp only [Tm.fv,Tm.vc]
   split
   ·simp
   ·have:=zGf l (yZ k l.length) (bdN k nm ot l.length) 0 []
    simp at this;omega
theorem zGf:∀ (l:List Tm) (at_:Int) (ns:List ByteArray) (i:Nat) (out:List ByteArray),(tX l at_ ns i out).length<=out.length+wT l
 | [],_,_,_,out=>by simp [tX]
 | x::xs,at_,ns,i,out=>by
   simp only [tX,wT]
   have h1:=zGf xs at_ ns (i+1) (t4 out (if (i:Int)=at_ then tf ns x.fv else x.fv))
   have h2:=Tm.fv_len x
   have h3:(if (i:Int)=at_ then tf ns x.fv else x.fv).length<=x.vc:=by
    split
    ·exact oS (mP _ _) h2
    ·exact h2
   have h4:(t4 out (if (i:Int)=at_ then tf ns x.fv else x.fv)).length<=out.length+(if (i:Int)=at_ then tf ns x.fv else x.fv).length:=by
    unfold t4
    have a1:=zGs (dd [] out) (if (i:Int)=at_ then tf ns x.fv else x.fv)
    have a2:=zGs [] out
    simp at a2;omega
   omega
end
theorem zDF (a b:List ByteArray):(t4 a b).length<=a.length+b.length:=by
 unfold t4
 have a1:=zGs (dd [] a) b
 have a2:=zGs [] a
 simp at a2;omega
theorem zLa (ns l:List ByteArray) (s:ByteArray):(tf ns l).filter (fun x=>decide (x≠s))=tf (ns++[s]) l:=by
 unfold tf
 rw [List.filter_filter]
 congr 1
 funext x
 rw [mE]
 simp
 exact And.comm
theorem zGJ (l:List ByteArray):tf [] l=l:=by simp [tf]
theorem xy:∀ (t:Tm) (d:D),t.Is d->t.vc<=2199023255552->zO1 21 [.dg 9 d] t.fv:=by
 refine Tm.ind fun k nm ot n0 ty re l ih d hd hG N Q hQ=>?_
 obtain ⟨t0,t1,r0,r1,a,es,c,rfl,hh,hlen,hes⟩:=Tm.is_mk.1 hd
 have hl:=hes.len
 simp only [Tm.vc] at hG
 refine zCr N _ Q fun _=>⟨_,rfl,Br.beq (fun h1=>⟨_,rfl,⟨rfl,rfl⟩,⟨rfl,rfl⟩,fun a1 N1 hN1 hf N2 hN2=>?_⟩) fun h1 N3 hN3=>rz (n:=l.length) (by omega) N3 _ fun a3 c3 N4 hN4 _ _ _=>?_⟩
 ·have e:(Tm.mk k nm ot n0 ty re l).fv=[nm]:=by simp [Tm.fv,h1]
  rw [e] at hQ
  exact hQ _ _ _ (by omega) (xq (l:=[nm]) hf hN2)
 ·have e:(Tm.mk k nm ot n0 ty re l).fv=tX l (yZ k l.length) (bdN k nm ot l.length) 0 []:=by simp [Tm.fv,h1]
  rw [e] at hQ
  rw [if_neg h1] at hG
  have hns:=zAO k nm ot l.length
  generalize bdN k nm ot l.length=ns at hQ hns ⊢
  generalize yZ k l.length=at_ at hQ ⊢
  generalize hy:(D.ag [.lit (.int .i64 k),.lit (.string nm),.lit (.string ot),.lit (.int .i64 n0),t0,t1,r0,r1,.sl a 9 es c])=y
  have hy8:y.cell 8=.sl a 9 es c:=by rw [<-hy];rfl
  have hnw:=zH ns
  have inner:∀ (i:Nat) (x:Tm) (out:List ByteArray) (q N1:Nat),N<=N1->out.length<=2199023255552->x.fv.length<=2199023255552 ->
    (∀ c N'',N1<=N''->zi Q N a3 (zA ns) c3 at_ (zA (t4 out (if (i:Int)=at_ then tf ns x.fv else x.fv))).length c (IntKind.i64.wrap (i+1)) y (zA (t4 out (if (i:Int)=at_ then tf ns x.fv else x.fv))) c N'') ->
    ∀ a7 c7,Own N N1 (.sl a7 0 (zA x.fv) c7)->yJ Q N a3 (zA ns) c3 at_ (zA out).length q i a7 (zA x.fv) c7 0 y (zA out) q N1:=fun i x out q N1 hN1 ho hx hc a7 c7 h7=>by
   have fin:∀ (lw:List ByteArray) (a7:Option Addr) (c7 N':Nat),N1<=N'->lw=(if (i:Int)=at_ then tf ns x.fv else x.fv) ->
     ((zA out).length=(zA out).length/\q=q)/\∀ a_1,ApA a_1 (zA out)->Off [a_1] (.sl a7 0 (zA lw) c7)->∀ N3,N'<=N3->ww N3 [a_1]->ACalls prog 78 [.row 9 0] [.sv a_1 0 (zA out) q,.sv a7 0 (zA lw) c7] N3 (fun es_1 c_1 N4=>N3<=N4->Off [a_1] (D.ag es_1)/\(Bel N4 (D.ag es_1)->zi Q N a3 (zA ns) c3 at_ es_1.length c_1 (IntKind.i64.wrap (i+1)) y es_1 c_1 N4)):=fun lw a7 c7 N' hN' hlw=>⟨⟨rfl,rfl⟩,fun a9 _ _ N5 hN5 hbel=>by
    have h5:lw.length<=2199023255552:=by
     rw [hlw];split
     ·exact oS (mP _ _) hx
     ·exact hx
    refine uS out lw ho h5 a9 a7 q c7 N5 _ fun c8 N8 hN8 _=>⟨zCf _,fun _=>?_⟩
    subst hlw
    exact hc _ _ (by omega)⟩
   refine up (yx ns) (by omega) (fun j xs=>∀ (lw:List ByteArray) a7 c7 N',N1<=N'->lw=tf (ns.take j) x.fv->((i:Int)≠at_->j=0)->yJ Q N a3 (zA ns) c3 at_ (zA out).length q i a7 (zA lw) c7 j y (zA out) q N') ?_ ?_ x.fv a7 c7 N1 (oD _) (by rw [mg,zGJ]) (fun _=>rfl)
   ·intro j hlt hj lw a7 c7 N' hN' hlw hat
    refine uG _ _ _ _ _ _ _ _ _ _ _ _ _ _ _ _ _ ?_
    rw [hlt]
    refine fin lw a7 c7 N' hN' ?_
    rw [hlw,nB (by omega)]
    split
    ·rfl
    ·rename_i hne
     have:=hat hne
     have:ns=[]:=oa (by omega)
     rw [this,zGJ]
   ·intro j s xs hat _ ih2 lw a7 c7 N' hN' hlw hj
    have hb:=hat.b
    have hr:=hat.r
    refine uG _ _ _ _ _ _ _ _ _ _ _ _ _ _ _ _ _ ?_
    rw [hat.lt]
    refine Br.beq (fun he=>⟨⟨by omega,by omega⟩,s,?_,fun N2 hN2=>zGE lw ?_ a7 c7 s N2 _ fun a8 c8 N8 hN8 _ _ _=>?_⟩) fun hne=>fin lw a7 c7 N' hN' ?_
    ·rw [oJ,hr]
    ·rw [hlw];exact oS (mP _ _) hx
    ·rw [hat.w]
     refine ih2 _ _ _ _ (by omega) ?_ (fun hc=>absurd he hc)
     rw [hlw,zLa,wt hat.g]
    ·rw [if_neg hne,hlw,hj hne,mg,zGJ]
  refine up hes hlen (fun i xs=>∀ (out:List ByteArray) (q N':Nat),N<=N'->out.length+wT xs<=wT l->tX xs at_ ns i out=tX l at_ ns 0 []->zi Q N a3 (zA ns) c3 at_ (zA out).length q i y (zA out) q N') ?_ ?_ [] 0 N4 (by omega) (by simp) rfl
  ·intro i hlt hi out q N' hN' _ he
   refine ub _ _ _ _ _ _ _ _ _ _ _ _ _ ⟨_,_,_,hy8,?_⟩
   rw [hlt]
   simp only [tX] at he
   subst he
   exact ⟨⟨rfl,rfl⟩,⟨rfl,rfl⟩,⟨rfl,rfl⟩,fun a1 N5 hN5 hf N6 hN6=>hQ _ _ _ (by omega) (xq hf hN6)⟩
  ·intro i x xs hat _ ih2 out q N' hN' hle he
   have hb:=hat.b
   simp only [wT] at hle
   have hxc:=Tm.fv_len x
   have hlx:=zDF out (if (i:Int)=at_ then tf ns x.fv else x.fv)
   have hcx:(if (i:Int)=at_ then tf ns x.fv else x.fv).length<=x.vc:=by
    split
    ·exact oS (mP _ _) hxc
    ·exact hxc
   refine ub _ _ _ _ _ _ _ _ _ _ _ _ _ ⟨_,_,_,hy8,?_⟩
   rw [hat.lt]
   refine ⟨_,_,_,hy8,⟨by omega,by omega⟩,fun N5 hN5=>?_⟩
   rw [oJ]
   refine ih x hat.m _ hat.r (by omega) N5 _ fun a6 c6 N6 hN6 ho6 _ _=>inner i x out q N6 (by omega) (by omega) (by omega) (fun c N'' h1=>?_) a6 c6 (ho6.mono (by omega) (oD _))
   rw [hat.w]
   exact ih2 _ _ _ (by omega) (by omega) (by rw [<-he];rfl)
theorem BCalls.cap {f:FuncId} {full:List Sh} {args:List PV} {bx:List Bx} {N:Nat} {Q:QT full} (hc:yb prog f=true) (h:(∀ t z es n,Bx.arr t z es n∈bx->es.length<=n)->BCalls prog f full args bx N Q):BCalls prog f full args bx N Q:=
 ⟨hc,fun av w0 E h1 h2 h3 h4 h5=>(h fun t z es n hm=>by
  obtain ⟨k,hk⟩:=oN.1 hm
  rcases h3.br k _ hk (by simp) with ⟨_,e1,e2⟩ | ⟨b,c,_,_,_,e,_⟩
  ·rw [e1,e2];exact oD _
  ·exact e).h av w0 E h1 h2 h3 h4 h5⟩
theorem zEU {α:Type} (p:α->Bool):∀ (l:List α) (i:Int),(zBQ p l i = -1/\∀ x∈l,p x=false)\/∃ pre x post,l=pre++x::post/\zBQ p l i=i+(pre.length:Int)/\p x=true/\∀ y∈pre,p y=false
 | [],i=>.inl ⟨rfl,by simp⟩
 | x :: l,i=>by
   simp only [zBQ]
   by_cases hx:p x=true
   ·exact .inr ⟨[],x,l,rfl,by simp [hx],hx,by simp⟩
   ·rcases zEU p l (i+1) with ⟨h1,h2⟩ | ⟨pre,y,post,h1,h2,h3,h4⟩
    ·refine .inl ⟨by rw [if_neg hx,h1],fun y hy=>?_⟩
     rcases oG.1 hy with rfl | hy
     ·simpa using hx
     ·exact h2 y hy
    ·refine .inr ⟨x::pre,y,post,by rw [h1];rfl,by rw [if_neg hx,h2];simp only [oP];omega,h3,fun z hz=>?_⟩
     rcases oG.1 hz with rfl | hz
     ·simpa using hx
     ·exact h4 z hz
theorem zGu (s:ByteArray) (ns:List ByteArray) (hn:ns.length<=4611686018427387904) (ad:Addr) (a:Option Addr) (c:Nat):vK 234 [.str s,.pd ad 0 (.sl a 0 (zA ns) c)] (decide (s∈ns)):=fun N Q hQ=>by
 refine rI N s ad _ Q ⟨_,_,_,rfl,fun N1 hN1=>uL ns hn a c s N1 _ fun N2 hN2 _ N3 hN3=>Qb (hQ _ (by omega)) (zLs s ns).symm⟩
theorem zH6 (l:List ByteArray) (hl:l.length<=2199023255552) (a:Option Addr) (c:Nat) (ad:Addr) (ns:List ByteArray) (hn:ns.length<=4611686018427387904) (a1:Option Addr) (c1:Nat) :
  zBW 251 [.sv a 0 (zA l) c,.fn 234 [.pd ad 0 (.sl a1 0 (zA ns) c1)]] (zBQ (fun x=>decide (x∈ns)) l 0):=fun N Q hQ=>by
 have hlen:=zH l
 refine vm N a _ c ad _ Q fun _=>?_
 refine up (yx l) (by omega) (fun i xs=>∀ (N':Nat),N<=N'->(∀ N'',N'<=N''->Q (zBQ (fun x=>decide (x∈ns)) xs i) N'')->zk Q N a (zA l) c ad (.sl a1 0 (zA ns) c1) ((zA l).length:Int) i N') ?_ ?_ N (oD _) hQ
 ·intro i hlt _ N' hN' hQ'
  refine xK _ _ _ _ _ _ _ _ _ _ ?_
  rw [hlt]
  exact fun N'' h=>hQ' _ (by omega)
 ·intro i x xs hat _ ih2 N' hN' hQ'
  have hb:=hat.b
  have hr:=hat.r
  simp only [zBQ] at hQ'
  refine xK _ _ _ _ _ _ _ _ _ _ ?_
  rw [hat.lt,hat.w,oJ,hr]
  refine ⟨⟨by omega,by omega⟩,x,rfl,fun N1 hN1=>zGu x ns hn ad a1 c1 N1 _ fun N2 hN2 _=>Br.dec (fun h N3 hN3=>Qi (hQ' _ (by omega)) (by simp [h])) fun h=>ih2 _ (by omega) fun N'' h2=>Qi (hQ' _ (by omega)) (by rw [if_neg (by simpa using h)];simp)⟩
theorem zPC (done:List D) (y s:D) (r:List D):(done++y::r).set done.length s=done++s::r:=by
 rw [mw _ _ (oD _),Nat.sub_self];rfl
theorem zGc (l:List ByteArray) (hl:l.length<=2199023255552) (ns:List ByteArray) (hn:ns.length<=4611686018427387904) (c:Nat) (a1:Option Addr) (c1:Nat) (N:Nat) (Q:QT [Sh.bk 0,.sl 0,.sl 0])
  (hQ:∀ x N',N<=N'->Q x none (zA (tf ns l)) c a1 (zA ns) c1 N') :
  BCalls prog 233 [Sh.bk 0,.sl 0,.sl 0] [.sb 0 0 0 (zA l).length c,.fn 234 [.pb 1 0 0 0]] [.arr 9 0 (zA l) c,.var [.sv a1 0 (zA ns) c1]] N Q:=by
 refine BCalls.cap (by kernel_rfl) fun hcap=>?_
 have hc:=hcap _ _ _ _ (List.mem_cons_self)
 have hlw:=zH l
 refine vb N _ _ _ _ _ _ _ Q fun E _ _=>⟨⟨rfl,rfl⟩,fun a2 _ ad _ N1 hN1 _=>zH6 l hl a2 c ad ns hn a1 c1 N1 _ fun N2 hN2 _=>?_⟩
 rcases zEU (fun x=>decide (x∈ns)) l 0 with ⟨h1,h2⟩ | ⟨pre,x,post,h1,h2,h3,h4⟩
 ·rw [h1]
  refine ⟨zZ,⟨rfl,rfl⟩,fun N3 hN3=>?_⟩
  have e:tf ns l=l:=by
   unfold tf
   rw [List.filter_eq_self]
   intro s hs
   simpa using h2 s hs
  rw [e] at hQ
  exact hQ _ _ (by omega)
 ·rw [h2,Int.zero_add]
  have hll:=mU List.length h1
  rw [oH,oP] at hll
  have hpre:tf ns l=pre++tf ns post:=by
   rw [h1]
   unfold tf
   rw [List.filter_append,List.filter_cons_of_neg (by simpa using h3),List.filter_eq_self.2 fun s hs=>by simpa using h4 s hs]
  rw [hpre] at hQ
  refine Br.beq (fun h=>by omega) fun _=>?_
  rw [i64_in _ (by omega)]
  have key:∀ (xs done:List ByteArray) (junk:List D) (j:Int) (N':Nat),N<=N'->junk≠[]->done++tf ns xs=pre++tf ns post->j=((done.length+junk.length:Nat):Int)->done.length+junk.length+xs.length=l.length ->
    zN E Q N (zA l).length c (done.length:Int) j (zA done++(junk++zA xs)) c a1 (zA ns) c1 N':=by
   intro xs
   induction xs with
   | nil=>
     intro done junk j N' hN' hj hd hjj hlen
     have hdw:=zH done
     have hjl:=mV.2 hj
     simp only [od,mF] at hlen
     refine xF _ _ _ _ _ _ _ _ _ _ _ _ _ ?_
     rw [mT (by omega)]
     have e1:List.take (done.length:Int).toNat (List.take (0+(done.length:Int).toNat) (zA done++(junk++zA []))++(List.replicate (((zA l).length:Int).toNat - (done.length:Int).toNat) (D.lit (.string (bytes [])))++List.drop (0+(done.length:Int).toNat+(((zA l).length:Int).toNat - (done.length:Int).toNat)) (zA done++(junk++zA []))))=zA done:=by
      rw [oJ,nE,mZ (by rw [nH,oH];omega),List.take_take,Nat.min_self,mZ (by omega),nB (by omega)]
     rw [e1]
     simp only [tf,List.filter_nil,nW] at hd
     have hd:done=pre++tf ns post:=hd
     have hrl:(zA done++(junk++zA [])).length=l.length:=by simp [zA];omega
     refine ⟨⟨by omega,by omega,by omega,by omega⟩,by omega,⟨by omega,by omega⟩,?_,zZ,⟨by omega,rfl⟩,fun N3 hN3=>?_⟩
     ·rw [oH,nH];omega
     ·rw [hd];exact hQ _ _ (by omega)
   | cons s xs ih=>
     intro done junk j N' hN' hj hd hjj hlen
     have hdw:=zH done
     have hjl:=mV.2 hj
     have hxw:=zH (s::xs)
     simp only [oP] at hlen hxw
     refine xF _ _ _ _ _ _ _ _ _ _ _ _ _ ?_
     rw [mN (by omega)]
     have hrl:(zA done++(junk++zA (s::xs))).length=l.length:=by simp only [oH];omega
     have hget:(zA done++(junk++zA (s::xs))).getD (0+j.toNat) default=.lit (.string s):=by
      rw [hjj,oJ,nE,oA,oO (by omega),oO (by omega)]
      rw [show done.length+junk.length - (zA done).length - junk.length=0 by omega]
      rfl
     refine ⟨⟨by omega,by omega,by omega⟩,by omega,s,hget,fun ad _ N1 hN1 _=>zGu s ns hn ad a1 c1 N1 _ fun N2 hN2 _=>Br.ndec (fun h=>⟨⟨by omega,by omega,by omega⟩,by omega,?_⟩) fun h=>?_⟩
     ·rw [i64_in _ (by omega),i64_in _ (by omega),nE,oJ]
      obtain ⟨y,ys,rfl⟩:=List.exists_cons_of_ne_nil hj
      have e2:(zA done++(y::ys++zA (s::xs))).set done.length (.lit (.string s))=zA (done++[s])++((ys++[.lit (.string s)])++zA xs):=by
       rw [<-hdw,nA,zPC,<-wX]
       simp [zA]
      rw [e2]
      have:=ih (done++[s]) (ys++[.lit (.string s)]) (j+1) N2 (by omega) (by simp) (by rw [<-hd];simp [tf,h]) (by simp only [oH,oP,od] at hjj ⊢;omega) (by simp only [oH,oP,od] at hlen ⊢;omega)
      simpa using this
     ·rw [i64_in _ (by omega)]
      have:=ih done (junk++[.lit (.string s)]) (j+1) N2 (by omega) (by simp) (by rw [<-hd];simp [tf,h]) (by simp only [oH,oP,od];omega) (by simp only [oH,oP,od];omega)
      simpa [zA] using this
  have:=key post pre [.lit (.string x)] ((pre.length:Int)+1) N2 (by omega) (by simp) rfl (by simp) (by simp;omega)
  rw [h1]
  rw [h1] at this
  simpa [zA] using this
theorem zCz:∀ (t:Tm) (d:D),t.Is d->t.vc<=2199023255552->zO4 185 [.dg 9 d] t.fv:=by
 refine Tm.ind fun k nm ot n0 ty re l ih d hd hG N Q hQ=>?_
 obtain ⟨t0,t1,r0,r1,a,es,c,rfl,hh,hlen,hes⟩:=Tm.is_mk.1 hd
 have hl:=hes.len
 simp only [Tm.vc] at hG
 refine zCQ N _ Q fun _=>⟨_,rfl,Br.beq (fun h1=>⟨_,rfl,⟨rfl,rfl⟩,fun N1 hN1=>?_⟩) fun h1 N3 hN3=>zO5 (n:=l.length) (by omega) N3 _ fun a3 c3 N4 hN4 _ _ _=>⟨_,_,_,rfl,?_⟩⟩
 ·have e:(Tm.mk k nm ot n0 ty re l).fv=[nm]:=by simp [Tm.fv,h1]
  rw [e] at hQ
  exact hQ _ _ (by omega)
 ·have e:(Tm.mk k nm ot n0 ty re l).fv=tX l (yZ k l.length) (bdN k nm ot l.length) 0 []:=by simp [Tm.fv,h1]
  rw [e] at hQ
  rw [if_neg h1] at hG
  have hns:=zAO k nm ot l.length
  generalize bdN k nm ot l.length=ns at hQ hns ⊢
  generalize yZ k l.length=at_ at hQ ⊢
  refine up hes hlen (fun i xs=>∀ (out:List ByteArray) q a5 c5 N',N<=N'->out.length+wT xs<=wT l->tX xs at_ ns i out=tX l at_ ns 0 []->yU Q N at_ (zA out).length q a es c (es.length:Int) i a5 (zA ns) c5 (zA out) q N') ?_ ?_ [] 0 a3 c3 N4 (by omega) (by simp) rfl
  ·intro i hlt hi out q a5 c5 N' hN' hle he
   refine uc _ _ _ _ _ _ _ _ _ _ _ _ _ _ _ _ ?_
   rw [hlt]
   simp only [tX] at he
   subst he
   exact ⟨⟨rfl,rfl⟩,fun N5 hN5=>hQ _ _ (by omega)⟩
  ·intro i x xs hat _ ih2 out q a5 c5 N' hN' hle he
   have hb:=hat.b
   simp only [wT] at hle
   have hxc:=Tm.fv_len x
   have hlx:=zDF out (if (i:Int)=at_ then tf ns x.fv else x.fv)
   have hcx:(tf ns x.fv).length<=x.vc:=oS (mP _ _) hxc
   refine uc _ _ _ _ _ _ _ _ _ _ _ _ _ _ _ _ ?_
   rw [hat.lt]
   refine ⟨⟨by omega,by omega⟩,fun N5 hN5=>?_⟩
   rw [oJ,hat.w]
   refine ih x hat.m _ hat.r (by omega) N5 _ fun c6 N6 hN6 _ _=>Br.beq (fun h N7 hN7=>zGc x.fv (by omega) ns (by omega) c6 a5 c5 N7 _ fun x8 N8 hN8 _ _ _=>⟨⟨rfl,rfl⟩,fun a9 _=>⟨⟨rfl,rfl⟩,fun a10 _ N9 hN9 hbel=>?_⟩⟩) fun h=>⟨⟨rfl,rfl⟩,fun a9 _=>⟨⟨rfl,rfl⟩,fun a10 _ N9 hN9 hbel=>?_⟩⟩
   ·refine uZ out (tf ns x.fv) (by omega) (by omega) a9 a10 q c6 N9 _ fun c11 N11 hN11 _=>⟨zCf _,fun _=>?_⟩
    rw [if_pos h] at hlx
    exact ih2 _ _ _ _ _ (by omega) (by omega) (by rw [<-he];simp only [tX];rw [if_pos h])
   ·refine uZ out x.fv (by omega) (by omega) a9 a10 q c6 N9 _ fun c11 N11 hN11 _=>⟨zCf _,fun _=>?_⟩
    rw [if_neg h] at hlx
    exact ih2 _ _ _ _ _ (by omega) (by omega) (by rw [<-he];simp only [tX];rw [if_neg h])
def zJY (f:FuncId) (args:List PV) (s:ByteArray):Prop:=∀ (N:Nat) (Q:QT [.str]),(∀ N',N<=N'->Q s N')->ACalls prog f [.str] args N Q
theorem Qst {Q:QT [.str]} {a b:ByteArray} {N:Nat} (h:Q a N) (e:a=b):Q b N:=e ▸ h
def zRE (u:Nat):ByteArray:=⟨(Lib.decDigits u).toArray⟩
theorem zIs (u:Nat) (h:u<=4611686018427387904):Lib.nDigits u<=20:=by
 by_cases h1:1<=u
 ·have:=Lib.numDigits_eq u h1 (by omega);split at this<;>omega
 ·rw [Lib.nDigits_small (by omega)];omega
theorem zLi (u:Nat):(zRE u).size=Lib.nDigits u:=by
 show (Lib.decDigits u).toArray.size=_
 rw [nf,Lib.decDigits_length]
theorem zBy {a b:ByteArray} (h:a.data.toList=b.data.toList):a=b:=by
 cases a;cases b;simp at h;rw [h]
theorem zOM (a b:ByteArray):(a++b).data.toList=a.data.toList++b.data.toList:=by simp
theorem zMz (k:Nat):bytes [118]++zRE k=vg k:=zBy (by rw [zOM];rfl)
theorem zJ0 (k:Nat) (h:k<=4611686018427387904):(vg k).size<=21:=by
 have:=zIs k h
 show (118::Lib.decDigits k).toArray.size<=21
 rw [nf,oP,Lib.decDigits_length];omega
theorem zM3 (m:Nat) (s:ByteArray) (hs:∀ u,u<10->Lib.decDigits u=[UInt8.ofNat (48+u)]):(bytesOf [IntKind.u8.wrap (IntKind.i64.wrap (48+Int.tmod (m:Int) 10))]++s).data.toList=UInt8.ofNat (48+m % 10)::s.data.toList:=by
 rw [zOM]
 have e:IntKind.u8.wrap (IntKind.i64.wrap (48+Int.tmod (m:Int) 10))=((48+m % 10:Nat):Int):=by
  have:Int.tmod (m:Int) 10=((m % 10:Nat):Int):=by rw [ni (by omega)];omega
  rw [this,i64_in _ (by omega),IntKind.wrap_u8];omega
 rw [e]
 have h2:bytesOf [((48+m % 10:Nat):Int)]=⟨#[UInt8.ofNat (48+m % 10)]⟩:=rfl
 rw [h2]
 rfl
theorem zA0 (u:Nat) (h:u<=4611686018427387904):zJY 266 [.int .i64 u] (zRE u):=fun N Q hQ=>by
 have e1:∀ u,u<10->Lib.decDigits u=[UInt8.ofNat (48+u)]:=fun u h=>by rw [Lib.decDigits,dif_pos h]
 have e2:∀ u,¬u<10->Lib.decDigits u=Lib.decDigits (u / 10)++[UInt8.ofNat (48+u % 10)]:=fun u h=>by rw [Lib.decDigits,dif_neg h]
 refine tJ N u Q (Br.beq (fun h0 N1 hN1=>?_) fun h0=>?_)
 ·have:u=0:=by omega
  subst this
  refine Qst (hQ _ hN1) (zBy ?_)
  show Lib.decDigits 0=[48]
  rw [e1 0 (by omega)]
  rfl
 ·rw [mT (by omega)]
  have key:∀ (m:Nat) (s:ByteArray),m<=u->s.size+Lib.nDigits m<=20\/(m=0/\s.size<=20)->(if m=0 then [] else Lib.decDigits m)++s.data.toList=Lib.decDigits u->zU Q N m false s N:=by
   intro m
   induction m using Nat.strongRecOn with
   | _ m ih=>
     intro s hm hsz he
     refine wB _ _ _ _ _ _ ?_
     refine Br.bne (fun hm0=>?_) fun hm0=>?_
     ·have hm0:m≠0:=by omega
      have ht:Int.tmod (m:Int) 10=((m % 10:Nat):Int):=by rw [ni (by omega)];omega
      have hd:Int.tdiv (m:Int) 10=((m / 10:Nat):Int):=by rw [Int.tdiv_eq_ediv_of_nonneg (by omega)];omega
      have hsz:s.size+Lib.nDigits m<=20:=by rcases hsz with h1 | ⟨h1,_⟩;exact h1;exact absurd h1 hm0
      refine ⟨by omega,?_⟩
      rw [mT (by omega)]
      refine ⟨by simp,[IntKind.u8.wrap (IntKind.i64.wrap (48+Int.tmod (m:Int) 10))],rfl,?_,by omega,?_⟩
      ·have:(bytesOf [IntKind.u8.wrap (IntKind.i64.wrap (48+Int.tmod (m:Int) 10))]).size=1:=rfl
       omega
      ·rw [hd,i64_in _ (by omega)]
       refine ih (m / 10) (by omega) _ (by omega) ?_ ?_
       ·have h1:(bytesOf [IntKind.u8.wrap (IntKind.i64.wrap (48+Int.tmod (m:Int) 10))]++s).size=1+s.size:=by
         rw [oK];rfl
        by_cases h10:m<10
        ·right
         have:=Lib.nDigits_pos m
         exact ⟨by omega,by omega⟩
        ·left
         have:=Lib.nDigits_big h10
         omega
       ·rw [zM3 m s e1,<-he,if_neg hm0]
        by_cases h10:m<10
        ·rw [if_pos (by omega),e1 m h10,show m % 10=m by omega];rfl
        ·rw [if_neg (by omega),e2 m h10];simp
     ·have:m=0:=by omega
      subst this
      refine fun N2 hN2=>Qst (hQ _ hN2) (zBy ?_)
      rw [if_pos rfl] at he
      exact he.symm
  refine key u (bytes []) (oD _) (.inl ?_) ?_
  ·have:=zIs u h
   show 0+_<=_
   omega
  ·rw [if_neg (by omega)];exact nW _
theorem zJu (l:List ByteArray) (P:Nat->Nat->Prop) (N:Nat) (F:ByteArray->Nat->Prop) (hF:∀ N',N<=N'->F (fresh l) N')
  (step:∀ (k N':Nat),N<=N'->k<=l.length+1->(∀ N'',N'<=N''->vg k∈l->P (k+1) N'')->(∀ N'',N'<=N''->vg k∉l->F (vg k) N'')->P k N'):P 1 N:=by
 have key:∀ (f k:Nat) (N':Nat),N<=N'->1<=k->k+f=l.length+1->(∀ j,1<=j->j<k->vg j∈l)->sJ f k l=sJ l.length 1 l->P k N':=by
  intro f
  induction f with
  | zero=>
    intro k N' hN' hk1 hkf hall he
    refine step k N' hN' (by omega) (fun N'' h1 hm=>?_) fun N'' h1 hm=>?_
    ·exfalso
     have:=zOj l (k+1) (fun j h4 h5=>by
      by_cases h6:j=k
      ·subst h6;exact hm
      ·exact hall j h4 (by omega)) (by omega)
     omega
    ·have:=hF N'' (by omega)
     unfold fresh at this
     rw [<-he] at this
     exact this
  | succ f ih=>
    intro k N' hN' hk1 hkf hall he
    simp only [sJ] at he
    refine step k N' hN' (by omega) (fun N'' h1 hm=>?_) fun N'' h1 hm=>?_
    ·rw [if_pos hm] at he
     exact ih (k+1) N'' (by omega) (by omega) (by omega) (fun j h4 h5=>by
      by_cases h6:j=k
      ·subst h6;exact hm
      ·exact hall j h4 (by omega)) he
    ·rw [if_neg hm] at he
     have:=hF N'' (by omega)
     unfold fresh at this
     rw [<-he] at this
     exact this
 exact key l.length 1 N (oD _) (oD _) (by omega) (fun j h1 h2=>by omega) rfl
theorem zBF (l:List ByteArray) (hl:l.length<=8796093022208) (a:Option Addr) (c:Nat):zJY 268 [.sv a 0 (zA l) c] (fresh l):=fun N Q hQ=>by
 refine zBK N a _ c Q fun _=>?_
 refine zJu l (fun k N'=>yk Q N a (zA l) c k N') N (fun s N'=>Q s N') hQ fun k N' hN' hk hin hout=>?_
 have hnd:=zIs k (by omega)
 have hds:=zLi k
 refine qS _ _ _ _ _ _ _ fun N1 hN1=>zA0 k (by omega) N1 _ fun N2 hN2 _=>⟨by omega,fun N3 hN3=>?_⟩
 rw [zMz]
 refine yg l (by omega) a c (vg k) N3 _ fun N4 hN4 _=>?_
 rw [zCW]
 refine Br.dec (fun h N5 hN5=>hout _ (by omega) h) fun h=>?_
 rw [i64_in _ (by omega)]
 exact hin _ (by omega) (mC.1 h)
end Go.Proofs.YtkdjhkfiolhkiaaGreat
