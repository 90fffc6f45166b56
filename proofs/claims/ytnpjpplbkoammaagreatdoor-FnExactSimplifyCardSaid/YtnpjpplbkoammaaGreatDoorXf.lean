/- Free names: the program's and the reference's. -/
import Derived.Test.YtnpjpplbkoammaaGreatDoorXa
import Derived.Shelf.Strconv.Itoa3
set_option linter.unusedVariables false
set_option linter.unusedSimpArgs false
namespace Go.Proofs.YtnpjpplbkoammaaGreatDoor
open Go Go.Proofs Go.Proofs.Tryz Go.IntWalk
mutual
/-- variables -/
def Tm.vc:Tm→Nat
 | .mk k _ _ _ _ _ l=>if k=1 then 1 else wL l
def wL:List Tm→Nat
 | []=>0
 | t::ts=>t.vc+wL ts
end
theorem pZ:∀ {l:List Tm} {t:Tm},t∈l→t.vc≤wL l
 | u::us,t,h=>by
   simp only [wL]
   rcases List.mem_cons.1 h with rfl | h
   ·omega
   ·have:=pZ h;omega
mutual
theorem Tm.vc_cnt:∀ t:Tm,3*t.vc≤t.cnt
 | .mk k nm ot n ty re l=>by
   have:=Ty.cnt_pos ty
   have:=Ty.cnt_pos re
   have:=zGN l
   simp only [Tm.vc,Tm.cnt]
   split<;>omega
theorem zGN:∀ l:List Tm,3*wL l≤zX l
 | []=>Nat.le_refl _
 | t::ts=>by
   have:=Tm.vc_cnt t
   have:=zGN ts
   simp only [wL,zX];omega
end
mutual
theorem Tm.fv_len:∀ t:Tm,t.fv.length≤t.vc
 | .mk k nm ot n ty re l=>by
   simp only [Tm.fv,Tm.vc]
   split
   ·simp
   ·have:=zHV l (xk k l.length) (bdN k nm ot l.length) 0 []
    simp at this;omega
theorem zHV:∀ (l:List Tm) (at_:Int) (ns:List ByteArray) (i:Nat) (out:List ByteArray),(ta l at_ ns i out).length≤out.length+wL l
 | [],_,_,_,out=>by simp [ta]
 | x::xs,at_,ns,i,out=>by
   simp only [ta,wL]
   have h1:=zHV xs at_ ns (i+1) (sJ out (if (i:Int)=at_ then sB ns x.fv else x.fv))
   have h2:=Tm.fv_len x
   have h3:(if (i:Int)=at_ then sB ns x.fv else x.fv).length≤x.vc:=by
    split
    ·exact Nat.le_trans (List.length_filter_le _ _) h2
    ·exact h2
   have h4:(sJ out (if (i:Int)=at_ then sB ns x.fv else x.fv)).length≤out.length+(if (i:Int)=at_ then sB ns x.fv else x.fv).length:=by
    unfold sJ
    have a1:=zGT (dd [] out) (if (i:Int)=at_ then sB ns x.fv else x.fv)
    have a2:=zGT [] out
    simp at a2;omega
   omega
end
theorem zCU (a b:List ByteArray):(sJ a b).length≤a.length+b.length:=by
 unfold sJ
 have a1:=zGT (dd [] a) b
 have a2:=zGT [] a
 simp at a2;omega
theorem zK1 (ns l:List ByteArray) (s:ByteArray):(sB ns l).filter (fun x=>decide (x≠s))=sB (ns++[s]) l:=by
 unfold sB
 rw [List.filter_filter]
 congr 1
 funext x
 rw [Bool.eq_iff_iff]
 simp
 exact And.comm
theorem zE6 (l:List ByteArray):sB [] l=l:=by simp [sB]
theorem wE:∀ (t:Tm) (d:D),t.Is d→t.vc≤2199023255552→zOI 122 [.dg 9 d] t.fv:=by
 refine Tm.ind fun k nm ot n0 ty re l ih d hd hG N Q hQ=>?_
 obtain ⟨t0,t1,r0,r1,a,es,c,rfl,hh,hlen,hes⟩:=Tm.is_mk.1 hd
 have hl:=hes.len
 simp only [Tm.vc] at hG
 refine zBW N _ Q fun _=>⟨_,rfl,Br.beq (fun h1=>⟨_,rfl,⟨rfl,rfl⟩,⟨rfl,rfl⟩,fun a1 N1 hN1 hf N2 hN2=>?_⟩) fun h1 N3 hN3=>qR (n:=l.length) (by omega) N3 _ fun a3 c3 N4 hN4 _ _ _=>?_⟩
 ·have e:(Tm.mk k nm ot n0 ty re l).fv=[nm]:=by simp [Tm.fv,h1]
  rw [e] at hQ
  exact hQ _ _ _ (by omega) (xo (l:=[nm]) hf hN2)
 ·have e:(Tm.mk k nm ot n0 ty re l).fv=ta l (xk k l.length) (bdN k nm ot l.length) 0 []:=by simp [Tm.fv,h1]
  rw [e] at hQ
  rw [if_neg h1] at hG
  have hns:=rt k nm ot l.length
  generalize bdN k nm ot l.length=ns at hQ hns ⊢
  generalize xk k l.length=at_ at hQ ⊢
  generalize hy:(D.ag [.lit (.int .i64 k),.lit (.string nm),.lit (.string ot),.lit (.int .i64 n0),t0,t1,r0,r1,.sl a 9 es c])=y
  have hy8:y.cell 8=.sl a 9 es c:=by rw [←hy];rfl
  have hnw:=zH ns
  have inner:∀ (i:Nat) (x:Tm) (out:List ByteArray) (q N1:Nat),N≤N1→out.length≤2199023255552→x.fv.length≤2199023255552 →
    (∀ c N'',N1≤N''→ze Q N a3 (zA ns) c3 at_ (zA (sJ out (if (i:Int)=at_ then sB ns x.fv else x.fv))).length c (IntKind.i64.wrap (i+1)) y (zA (sJ out (if (i:Int)=at_ then sB ns x.fv else x.fv))) c N'') →
    ∀ a7 c7,Own N N1 (.sl a7 0 (zA x.fv) c7)→yN Q N a3 (zA ns) c3 at_ (zA out).length q i a7 (zA x.fv) c7 0 y (zA out) q N1:=fun i x out q N1 hN1 ho hx hc a7 c7 h7=>by
   have fin:∀ (lw:List ByteArray) (a7:Option Addr) (c7 N':Nat),N1≤N'→lw=(if (i:Int)=at_ then sB ns x.fv else x.fv) →
     ((zA out).length=(zA out).length∧q=q)∧∀ a_1,ApA a_1 (zA out)→Off [a_1] (.sl a7 0 (zA lw) c7)→∀ N3,N'≤N3→tL N3 [a_1]→ACalls prog 155 [.row 9 0] [.sv a_1 0 (zA out) q,.sv a7 0 (zA lw) c7] N3 (fun es_1 c_1 N4=>N3≤N4→Off [a_1] (D.ag es_1)∧(Bel N4 (D.ag es_1)→ze Q N a3 (zA ns) c3 at_ es_1.length c_1 (IntKind.i64.wrap (i+1)) y es_1 c_1 N4)):=fun lw a7 c7 N' hN' hlw=>⟨⟨rfl,rfl⟩,fun a9 _ _ N5 hN5 hbel=>by
    have h5:lw.length≤2199023255552:=by
     rw [hlw];split
     ·exact Nat.le_trans (List.length_filter_le _ _) hx
     ·exact hx
    refine uX out lw ho h5 a9 a7 q c7 N5 _ fun c8 N8 hN8 _=>⟨zBS _,fun _=>?_⟩
    subst hlw
    exact hc _ _ (by omega)⟩
   refine up (yr ns) (by omega) (fun j xs=>∀ (lw:List ByteArray) a7 c7 N',N1≤N'→lw=sB (ns.take j) x.fv→((i:Int)≠at_→j=0)→yN Q N a3 (zA ns) c3 at_ (zA out).length q i a7 (zA lw) c7 j y (zA out) q N') ?_ ?_ x.fv a7 c7 N1 (Nat.le_refl _) (by rw [List.take_zero,zE6]) (fun _=>rfl)
   ·intro j hlt hj lw a7 c7 N' hN' hlw hat
    refine uL _ _ _ _ _ _ _ _ _ _ _ _ _ _ _ _ _ ?_
    rw [hlt]
    refine fin lw a7 c7 N' hN' ?_
    rw [hlw,List.take_of_length_le (by omega)]
    split
    ·rfl
    ·rename_i hne
     have:=hat hne
     have:ns=[]:=List.eq_nil_of_length_eq_zero (by omega)
     rw [this,zE6]
   ·intro j s xs hat _ ih2 lw a7 c7 N' hN' hlw hj
    have hb:=hat.b
    have hr:=hat.r
    refine uL _ _ _ _ _ _ _ _ _ _ _ _ _ _ _ _ _ ?_
    rw [hat.lt]
    refine Br.beq (fun he=>⟨⟨by omega,by omega⟩,s,?_,fun N2 hN2=>zFv lw ?_ a7 c7 s N2 _ fun a8 c8 N8 hN8 _ _ _=>?_⟩) fun hne=>fin lw a7 c7 N' hN' ?_
    ·rw [Int.toNat_natCast,hr]
    ·rw [hlw];exact Nat.le_trans (List.length_filter_le _ _) hx
    ·rw [hat.w]
     refine ih2 _ _ _ _ (by omega) ?_ (fun hc=>absurd he hc)
     rw [hlw,zK1,wv hat.g]
    ·rw [if_neg hne,hlw,hj hne,List.take_zero,zE6]
  refine up hes hlen (fun i xs=>∀ (out:List ByteArray) (q N':Nat),N≤N'→out.length+wL xs≤wL l→ta xs at_ ns i out=ta l at_ ns 0 []→ze Q N a3 (zA ns) c3 at_ (zA out).length q i y (zA out) q N') ?_ ?_ [] 0 N4 (by omega) (by simp) rfl
  ·intro i hlt hi out q N' hN' _ he
   refine uj _ _ _ _ _ _ _ _ _ _ _ _ _ ⟨_,_,_,hy8,?_⟩
   rw [hlt]
   simp only [ta] at he
   subst he
   exact ⟨⟨rfl,rfl⟩,⟨rfl,rfl⟩,⟨rfl,rfl⟩,fun a1 N5 hN5 hf N6 hN6=>hQ _ _ _ (by omega) (xo hf hN6)⟩
  ·intro i x xs hat _ ih2 out q N' hN' hle he
   have hb:=hat.b
   simp only [wL] at hle
   have hxc:=Tm.fv_len x
   have hlx:=zCU out (if (i:Int)=at_ then sB ns x.fv else x.fv)
   have hcx:(if (i:Int)=at_ then sB ns x.fv else x.fv).length≤x.vc:=by
    split
    ·exact Nat.le_trans (List.length_filter_le _ _) hxc
    ·exact hxc
   refine uj _ _ _ _ _ _ _ _ _ _ _ _ _ ⟨_,_,_,hy8,?_⟩
   rw [hat.lt]
   refine ⟨_,_,_,hy8,⟨by omega,by omega⟩,fun N5 hN5=>?_⟩
   rw [Int.toNat_natCast]
   refine ih x hat.m _ hat.r (by omega) N5 _ fun a6 c6 N6 hN6 ho6 _ _=>inner i x out q N6 (by omega) (by omega) (by omega) (fun c N'' h1=>?_) a6 c6 (ho6.mono (by omega) (Nat.le_refl _))
   rw [hat.w]
   exact ih2 _ _ _ (by omega) (by omega) (by rw [←he];rfl)
theorem BCalls.cap {f:FuncId} {full:List Sh} {args:List PV} {bx:List Bx} {N:Nat} {Q:QT full} (hc:yB prog f=true) (h:(∀ t z es n,Bx.arr t z es n∈bx→es.length≤n)→BCalls prog f full args bx N Q):BCalls prog f full args bx N Q:=
 ⟨hc,fun av w0 E h1 h2 h3 h4 h5=>(h fun t z es n hm=>by
  obtain ⟨k,hk⟩:=List.mem_iff_getElem?.1 hm
  rcases h3.br k _ hk (by simp) with ⟨_,e1,e2⟩ | ⟨b,c,_,_,_,e,_⟩
  ·rw [e1,e2];exact Nat.le_refl _
  ·exact e).h av w0 E h1 h2 h3 h4 h5⟩
theorem zEh {α:Type} (p:α→Bool):∀ (l:List α) (i:Int),(rx p l i = -1∧∀ x∈l,p x=false)∨∃ pre x post,l=pre++x::post∧rx p l i=i+(pre.length:Int)∧p x=true∧∀ y∈pre,p y=false
 | [],i=>.inl ⟨rfl,by simp⟩
 | x :: l,i=>by
   simp only [rx]
   by_cases hx:p x=true
   ·exact .inr ⟨[],x,l,rfl,by simp [hx],hx,by simp⟩
   ·rcases zEh p l (i+1) with ⟨h1,h2⟩ | ⟨pre,y,post,h1,h2,h3,h4⟩
    ·refine .inl ⟨by rw [if_neg hx,h1],fun y hy=>?_⟩
     rcases List.mem_cons.1 hy with rfl | hy
     ·simpa using hx
     ·exact h2 y hy
    ·refine .inr ⟨x::pre,y,post,by rw [h1];rfl,by rw [if_neg hx,h2];simp only [List.length_cons];omega,h3,fun z hz=>?_⟩
     rcases List.mem_cons.1 hz with rfl | hz
     ·simpa using hx
     ·exact h4 z hz
theorem zGs (s:ByteArray) (ns:List ByteArray) (hn:ns.length≤4611686018427387904) (ad:Addr) (a:Option Addr) (c:Nat):wU 167 [.str s,.pd ad 0 (.sl a 0 (zA ns) c)] (decide (s∈ns)):=fun N Q hQ=>by
 refine rH N s ad _ Q ⟨_,_,_,rfl,fun N1 hN1=>zr ns hn a c s N1 _ fun N2 hN2 _ N3 hN3=>Qb (hQ _ (by omega)) (qB s ns).symm⟩
theorem zH3 (l:List ByteArray) (hl:l.length≤2199023255552) (a:Option Addr) (c:Nat) (ad:Addr) (ns:List ByteArray) (hn:ns.length≤4611686018427387904) (a1:Option Addr) (c1:Nat) :
  zAa 186 [.sv a 0 (zA l) c,.fn 167 [.pd ad 0 (.sl a1 0 (zA ns) c1)]] (rx (fun x=>decide (x∈ns)) l 0):=fun N Q hQ=>by
 have hlen:=zH l
 refine vz N a _ c ad _ Q fun _=>?_
 refine up (yr l) (by omega) (fun i xs=>∀ (N':Nat),N≤N'→(∀ N'',N'≤N''→Q (rx (fun x=>decide (x∈ns)) xs i) N'')→zk Q N a (zA l) c ad (.sl a1 0 (zA ns) c1) ((zA l).length:Int) i N') ?_ ?_ N (Nat.le_refl _) hQ
 ·intro i hlt _ N' hN' hQ'
  refine xM _ _ _ _ _ _ _ _ _ _ ?_
  rw [hlt]
  exact fun N'' h=>hQ' _ (by omega)
 ·intro i x xs hat _ ih2 N' hN' hQ'
  have hb:=hat.b
  have hr:=hat.r
  simp only [rx] at hQ'
  refine xM _ _ _ _ _ _ _ _ _ _ ?_
  rw [hat.lt,hat.w,Int.toNat_natCast,hr]
  refine ⟨⟨by omega,by omega⟩,x,rfl,fun N1 hN1=>zGs x ns hn ad a1 c1 N1 _ fun N2 hN2 _=>Br.dec (fun h N3 hN3=>Qi (hQ' _ (by omega)) (by simp [h])) fun h=>ih2 _ (by omega) fun N'' h2=>Qi (hQ' _ (by omega)) (by rw [if_neg (by simpa using h)];simp)⟩
theorem zOZ (done:List D) (y s:D) (r:List D):(done++y::r).set done.length s=done++s::r:=by
 rw [List.set_append_right _ _ (Nat.le_refl _),Nat.sub_self];rfl
theorem zGq (l:List ByteArray) (hl:l.length≤2199023255552) (ns:List ByteArray) (hn:ns.length≤4611686018427387904) (c:Nat) (a1:Option Addr) (c1:Nat) (N:Nat) (Q:QT [Sh.bk 0,.sl 0,.sl 0])
  (hQ:∀ x N',N≤N'→Q x none (zA (sB ns l)) c a1 (zA ns) c1 N') :
  BCalls prog 166 [Sh.bk 0,.sl 0,.sl 0] [.sb 0 0 0 (zA l).length c,.fn 167 [.pb 1 0 0 0]] [.arr 9 0 (zA l) c,.var [.sv a1 0 (zA ns) c1]] N Q:=by
 refine BCalls.cap (by kernel_rfl) fun hcap=>?_
 have hc:=hcap _ _ _ _ (List.mem_cons_self)
 have hlw:=zH l
 refine vm N _ _ _ _ _ _ _ Q fun E _ _=>⟨⟨rfl,rfl⟩,fun a2 _ ad _ N1 hN1 _=>zH3 l hl a2 c ad ns hn a1 c1 N1 _ fun N2 hN2 _=>?_⟩
 rcases zEh (fun x=>decide (x∈ns)) l 0 with ⟨h1,h2⟩ | ⟨pre,x,post,h1,h2,h3,h4⟩
 ·rw [h1]
  refine ⟨zQa,⟨rfl,rfl⟩,fun N3 hN3=>?_⟩
  have e:sB ns l=l:=by
   unfold sB
   rw [List.filter_eq_self]
   intro s hs
   simpa using h2 s hs
  rw [e] at hQ
  exact hQ _ _ (by omega)
 ·rw [h2,Int.zero_add]
  have hll:=congrArg List.length h1
  rw [List.length_append,List.length_cons] at hll
  have hpre:sB ns l=pre++sB ns post:=by
   rw [h1]
   unfold sB
   rw [List.filter_append,List.filter_cons_of_neg (by simpa using h3),List.filter_eq_self.2 fun s hs=>by simpa using h4 s hs]
  rw [hpre] at hQ
  refine Br.beq (fun h=>by omega) fun _=>?_
  rw [i64_in _ (by omega)]
  have key:∀ (xs done:List ByteArray) (junk:List D) (j:Int) (N':Nat),N≤N'→junk≠[]→done++sB ns xs=pre++sB ns post→j=((done.length+junk.length:Nat):Int)→done.length+junk.length+xs.length=l.length →
    zO E Q N (zA l).length c (done.length:Int) j (zA done++(junk++zA xs)) c a1 (zA ns) c1 N':=by
   intro xs
   induction xs with
   | nil=>
     intro done junk j N' hN' hj hd hjj hlen
     have hdw:=zH done
     have hjl:=List.length_pos_iff.2 hj
     simp only [List.length_nil,Nat.add_zero] at hlen
     refine xF _ _ _ _ _ _ _ _ _ _ _ _ _ ?_
     rw [decide_eq_false (by omega)]
     have e1:List.take (done.length:Int).toNat (List.take (0+(done.length:Int).toNat) (zA done++(junk++zA []))++(List.replicate (((zA l).length:Int).toNat - (done.length:Int).toNat) (D.lit (.string (bytes [])))++List.drop (0+(done.length:Int).toNat+(((zA l).length:Int).toNat - (done.length:Int).toNat)) (zA done++(junk++zA []))))=zA done:=by
      rw [Int.toNat_natCast,Nat.zero_add,List.take_append_of_le_length (by rw [List.length_take,List.length_append];omega),List.take_take,Nat.min_self,List.take_append_of_le_length (by omega),List.take_of_length_le (by omega)]
     rw [e1]
     simp only [sB,List.filter_nil,List.append_nil] at hd
     have hd:done=pre++sB ns post:=hd
     have hrl:(zA done++(junk++zA [])).length=l.length:=by simp [zA];omega
     refine ⟨⟨by omega,by omega,by omega,by omega⟩,by omega,⟨by omega,by omega⟩,?_,zQa,⟨by omega,rfl⟩,fun N3 hN3=>?_⟩
     ·rw [List.length_append,List.length_take];omega
     ·rw [hd];exact hQ _ _ (by omega)
   | cons s xs ih=>
     intro done junk j N' hN' hj hd hjj hlen
     have hdw:=zH done
     have hjl:=List.length_pos_iff.2 hj
     have hxw:=zH (s::xs)
     simp only [List.length_cons] at hlen hxw
     refine xF _ _ _ _ _ _ _ _ _ _ _ _ _ ?_
     rw [decide_eq_true (by omega)]
     have hrl:(zA done++(junk++zA (s::xs))).length=l.length:=by simp only [List.length_append];omega
     have hget:(zA done++(junk++zA (s::xs))).getD (0+j.toNat) default=.lit (.string s):=by
      rw [hjj,Int.toNat_natCast,Nat.zero_add,List.getD_eq_getElem?_getD,List.getElem?_append_right (by omega),List.getElem?_append_right (by omega)]
      rw [show done.length+junk.length - (zA done).length - junk.length=0 by omega]
      rfl
     refine ⟨⟨by omega,by omega,by omega⟩,by omega,s,hget,fun ad _ N1 hN1 _=>zGs s ns hn ad a1 c1 N1 _ fun N2 hN2 _=>Br.ndec (fun h=>⟨⟨by omega,by omega,by omega⟩,by omega,?_⟩) fun h=>?_⟩
     ·rw [i64_in _ (by omega),i64_in _ (by omega),Nat.zero_add,Int.toNat_natCast]
      obtain ⟨y,ys,rfl⟩:=List.exists_cons_of_ne_nil hj
      have e2:(zA done++(y::ys++zA (s::xs))).set done.length (.lit (.string s))=zA (done++[s])++((ys++[.lit (.string s)])++zA xs):=by
       rw [←hdw,List.cons_append,zOZ,←wO]
       simp [zA]
      rw [e2]
      have:=ih (done++[s]) (ys++[.lit (.string s)]) (j+1) N2 (by omega) (by simp) (by rw [←hd];simp [sB,h]) (by simp only [List.length_append,List.length_cons,List.length_nil] at hjj ⊢;omega) (by simp only [List.length_append,List.length_cons,List.length_nil] at hlen ⊢;omega)
      simpa using this
     ·rw [i64_in _ (by omega)]
      have:=ih done (junk++[.lit (.string s)]) (j+1) N2 (by omega) (by simp) (by rw [←hd];simp [sB,h]) (by simp only [List.length_append,List.length_cons,List.length_nil];omega) (by simp only [List.length_append,List.length_cons,List.length_nil];omega)
      simpa [zA] using this
  have:=key post pre [.lit (.string x)] ((pre.length:Int)+1) N2 (by omega) (by simp) rfl (by simp) (by simp;omega)
  rw [h1]
  rw [h1] at this
  simpa [zA] using this
theorem xu:∀ (t:Tm) (d:D),t.Is d→t.vc≤2199023255552→zOm 132 [.dg 9 d] t.fv:=by
 refine Tm.ind fun k nm ot n0 ty re l ih d hd hG N Q hQ=>?_
 obtain ⟨t0,t1,r0,r1,a,es,c,rfl,hh,hlen,hes⟩:=Tm.is_mk.1 hd
 have hl:=hes.len
 simp only [Tm.vc] at hG
 refine zCi N _ Q fun _=>⟨_,rfl,Br.beq (fun h1=>⟨_,rfl,⟨rfl,rfl⟩,fun N1 hN1=>?_⟩) fun h1 N3 hN3=>zIb (n:=l.length) (by omega) N3 _ fun a3 c3 N4 hN4 _ _ _=>⟨_,_,_,rfl,?_⟩⟩
 ·have e:(Tm.mk k nm ot n0 ty re l).fv=[nm]:=by simp [Tm.fv,h1]
  rw [e] at hQ
  exact hQ _ _ (by omega)
 ·have e:(Tm.mk k nm ot n0 ty re l).fv=ta l (xk k l.length) (bdN k nm ot l.length) 0 []:=by simp [Tm.fv,h1]
  rw [e] at hQ
  rw [if_neg h1] at hG
  have hns:=rt k nm ot l.length
  generalize bdN k nm ot l.length=ns at hQ hns ⊢
  generalize xk k l.length=at_ at hQ ⊢
  refine up hes hlen (fun i xs=>∀ (out:List ByteArray) q a5 c5 N',N≤N'→out.length+wL xs≤wL l→ta xs at_ ns i out=ta l at_ ns 0 []→yW Q N at_ (zA out).length q a es c (es.length:Int) i a5 (zA ns) c5 (zA out) q N') ?_ ?_ [] 0 a3 c3 N4 (by omega) (by simp) rfl
  ·intro i hlt hi out q a5 c5 N' hN' hle he
   refine uY _ _ _ _ _ _ _ _ _ _ _ _ _ _ _ _ ?_
   rw [hlt]
   simp only [ta] at he
   subst he
   exact ⟨⟨rfl,rfl⟩,fun N5 hN5=>hQ _ _ (by omega)⟩
  ·intro i x xs hat _ ih2 out q a5 c5 N' hN' hle he
   have hb:=hat.b
   simp only [wL] at hle
   have hxc:=Tm.fv_len x
   have hlx:=zCU out (if (i:Int)=at_ then sB ns x.fv else x.fv)
   have hcx:(sB ns x.fv).length≤x.vc:=Nat.le_trans (List.length_filter_le _ _) hxc
   refine uY _ _ _ _ _ _ _ _ _ _ _ _ _ _ _ _ ?_
   rw [hat.lt]
   refine ⟨⟨by omega,by omega⟩,fun N5 hN5=>?_⟩
   rw [Int.toNat_natCast,hat.w]
   refine ih x hat.m _ hat.r (by omega) N5 _ fun c6 N6 hN6 _ _=>Br.beq (fun h N7 hN7=>zGq x.fv (by omega) ns (by omega) c6 a5 c5 N7 _ fun x8 N8 hN8 _ _ _=>⟨⟨rfl,rfl⟩,fun a9 _=>⟨⟨rfl,rfl⟩,fun a10 _ N9 hN9 hbel=>?_⟩⟩) fun h=>⟨⟨rfl,rfl⟩,fun a9 _=>⟨⟨rfl,rfl⟩,fun a10 _ N9 hN9 hbel=>?_⟩⟩
   ·refine ui out (sB ns x.fv) (by omega) (by omega) a9 a10 q c6 N9 _ fun c11 N11 hN11 _=>⟨zBS _,fun _=>?_⟩
    rw [if_pos h] at hlx
    exact ih2 _ _ _ _ _ (by omega) (by omega) (by rw [←he];simp only [ta];rw [if_pos h])
   ·refine ui out x.fv (by omega) (by omega) a9 a10 q c6 N9 _ fun c11 N11 hN11 _=>⟨zBS _,fun _=>?_⟩
    rw [if_neg h] at hlx
    exact ih2 _ _ _ _ _ (by omega) (by omega) (by rw [←he];simp only [ta];rw [if_neg h])
end Go.Proofs.YtnpjpplbkoammaaGreatDoor
namespace Go.Proofs
namespace YtnpjpplbkoammaaGreatDoor
open Go Go.Proofs Go.Proofs.Tryz Go.RowKit Go.Shelf Go.Sort Go.Lib
def itoaR:Go.Shelf.Ren:=⟨fun x=>match x with | 171=>192 | 243=>193 | 246=>194 | 283=>195 | 284=>196 | 285=>197 | 286=>198 | 129=>200 | 317=>199 | 318=>201 | 319=>202 | 320=>203 | 337=>204 | 338=>205 | n=>n,fun x=>match x with | 3=>3 | 9=>9 | 2=>2 | 4=>4 | 171=>140 | 0=>0 | 53=>141 | 37=>102 | 5=>5 | 173=>144 | 212=>146 | 51=>147 | 20=>20 | 213=>148 | 46=>149 | 232=>152 | 233=>153 | n=>n,fun x=>match x with | 17=>0 | 18=>1 | 19=>2 | n=>n⟩
theorem itoaL:LaysM.n171 Tryz.prog itoaR where
 mixed:=by kernel_rfl
 f129:=Tryz.func200.trans (congrArg some (by kernel_rfl))
 f171:=Tryz.func192.trans (congrArg some (by kernel_rfl))
 f243:=Tryz.func193.trans (congrArg some (by kernel_rfl))
 f246:=Tryz.func194.trans (congrArg some (by kernel_rfl))
 f283:=Tryz.func195.trans (congrArg some (by kernel_rfl))
 f284:=Tryz.func196.trans (congrArg some (by kernel_rfl))
 f285:=Tryz.func197.trans (congrArg some (by kernel_rfl))
 f286:=Tryz.func198.trans (congrArg some (by kernel_rfl))
 f317:=Tryz.func199.trans (congrArg some (by kernel_rfl))
 f318:=Tryz.func201.trans (congrArg some (by kernel_rfl))
 f319:=Tryz.func202.trans (congrArg some (by kernel_rfl))
 f320:=Tryz.func203.trans (congrArg some (by kernel_rfl))
 f337:=Tryz.func204.trans (congrArg some (by kernel_rfl))
 f338:=Tryz.func205.trans (congrArg some (by kernel_rfl))
 t0:=Tryz.underlying0
 a0:=Tryz.isAgg0
 z0:=Tryz.sizeOf0
 v0:=Tryz.zeroValue0
 t2:=Tryz.underlying2
 a2:=Tryz.isAgg2
 z2:=Tryz.sizeOf2
 v2:=Tryz.zeroValue2
 t3:=Tryz.underlying3
 a3:=Tryz.isAgg3
 z3:=Tryz.sizeOf3
 v3:=Tryz.zeroValue3
 t4:=Tryz.underlying4
 a4:=Tryz.isAgg4
 z4:=Tryz.sizeOf4
 v4:=Tryz.zeroValue4
 t5:=Tryz.underlying5
 a5:=Tryz.isAgg5
 z5:=Tryz.sizeOf5
 v5:=Tryz.zeroValue5
 t9:=Tryz.underlying9
 a9:=Tryz.isAgg9
 z9:=Tryz.sizeOf9
 v9:=Tryz.zeroValue9
 t20:=Tryz.underlying20
 a20:=Tryz.isAgg20
 z20:=Tryz.sizeOf20
 v20:=Tryz.zeroValue20
 t37:=Tryz.underlying102
 a37:=Tryz.isAgg102
 z37:=Tryz.sizeOf102
 v37:=Tryz.zeroValue102
 t46:=Tryz.underlying149
 a46:=Tryz.isAgg149
 z46:=Tryz.sizeOf149
 v46:=Tryz.zeroValue149
 t51:=Tryz.underlying147
 a51:=Tryz.isAgg147
 z51:=Tryz.sizeOf147
 v51:=Tryz.zeroValue147
 t53:=Tryz.underlying141
 a53:=Tryz.isAgg141
 z53:=Tryz.sizeOf141
 v53:=Tryz.zeroValue141
 t171:=Tryz.underlying140
 a171:=Tryz.isAgg140
 z171:=Tryz.sizeOf140
 v171:=Tryz.zeroValue140
 t173:=Tryz.underlying144
 a173:=Tryz.isAgg144
 z173:=Tryz.sizeOf144
 v173:=Tryz.zeroValue144
 t212:=Tryz.underlying146
 a212:=Tryz.isAgg146
 z212:=Tryz.sizeOf146
 v212:=Tryz.zeroValue146
 t213:=Tryz.underlying148
 a213:=Tryz.isAgg148
 z213:=Tryz.sizeOf148
 t232:=Tryz.underlying152
 a232:=Tryz.isAgg152
 z232:=Tryz.sizeOf152
 v232:=Tryz.zeroValue152
 t233:=Tryz.underlying153
 a233:=Tryz.isAgg153
 z233:=Tryz.sizeOf153
 v233:=Tryz.zeroValue153
 g17:=by kernel_rfl
 g18:=by kernel_rfl
 g19:=by kernel_rfl
 i0:=by kernel_rfl
 i2:=by kernel_rfl
 i3:=by kernel_rfl
 i4:=by kernel_rfl
 i5:=by kernel_rfl
 i9:=by kernel_rfl
 i20:=by kernel_rfl
 i37:=by kernel_rfl
 i46:=by kernel_rfl
 i51:=by kernel_rfl
 i53:=by kernel_rfl
 i171:=by kernel_rfl
 i173:=by kernel_rfl
 i212:=by kernel_rfl
 i232:=by kernel_rfl
 i233:=by kernel_rfl
 m17:=by kernel_rfl
 m18:=by kernel_rfl
 m19:=by kernel_rfl
abbrev u8v:UInt8→Value:=fun b=>Value.int .u8 (b.toNat:Int)
section
variable {P:Program} {ρ:Go.Shelf.Ren}
set_option maxHeartbeats 6400000 in
set_option maxRecDepth 100000 in
/-- from a hundred on: one new block -/
theorem zP5 (L : LaysM.n246 P ρ) (u : Nat) (h0 : 100 ≤ u) (h1 : u ≤ 9223372036854775807) (w : World) (htab : Lib.TabIs P w "internal/strconv.uint64pow10" .u64 Lib.pow10Tab) :
  Calls P (ρ.f 246) #[.int .i64 u,.int .i64 10] w fun e w'=>e=.returned (.string ⟨(Lib.decDigits u).toArray⟩)∧∃ k dk,w'=(putRow u8v (w.alloc (.cells Lib.zeros24 (ρ.t 171))) w.heap.size 1 dk).drewN k:=by
 have mixed:=L.mixed
 have t2:=L.t2;have a2:=L.a2;have z2:=L.z2;have v2:=L.v2
 have t3:=L.t3;have a3:=L.a3;have z3:=L.z3;have v3:=L.v3
 have t9:=L.t9;have a9:=L.a9;have z9:=L.z9;have v9:=L.v9
 have t4:=L.t4;have a4:=L.a4;have z4:=L.z4;have v4:=L.v4
 have t171:=L.t171;have a171:=L.a171;have z171:=L.z171;have v171:=L.v171
 have t0:=L.t0;have a0:=L.a0;have z0:=L.z0;have v0:=L.v0
 have t53:=L.t53;have a53:=L.a53;have z53:=L.z53;have v53:=L.v53
 have t37:=L.t37;have a37:=L.a37;have z37:=L.z37;have v37:=L.v37
 have t5:=L.t5;have a5:=L.a5;have z5:=L.z5;have v5:=L.v5
 have t173:=L.t173;have a173:=L.a173;have z173:=L.z173;have v173:=L.v173
 have e283:∀ args w,(callFunc (ρ.f 283) args).run P w=.ok (.enter (ρ.f 283) args) w:=enters_of L.f283 (by kernel_rfl) rfl
 have e284:∀ args w,(callFunc (ρ.f 284) args).run P w=.ok (.enter (ρ.f 284) args) w:=enters_of L.f284 (by kernel_rfl) rfl
 have e285:∀ args w,(callFunc (ρ.f 285) args).run P w=.ok (.enter (ρ.f 285) args) w:=enters_of L.f285 (by kernel_rfl) rfl
 have hu64:u<18446744073709551616:=by omega
 have hnd20:Lib.nDigits u≤20:=by have:=Lib.numDigits_eq u (by omega) hu64;split at this<;>omega
 have hb3:Lib.nDigits u≤23:=by omega
 have hal:P.arrayLen (ρ.t 171)=24:=by simp [Program.arrayLen,L.t171]
 have hsl1:∀ W,(Instr.sliceAt (ρ.t 171) (.pointer (some ⟨w.heap.size,0,none⟩)) (some (.int .i64 1)) (some (.int .i64 (1+(Lib.nDigits u:Int)))) none).run P W=.ok (.slice (some ⟨w.heap.size,1,none⟩) (Lib.nDigits u) 23) W:=fun W=>by
  rw [run_sliceAt_array_lh W (ρ.t 171) ⟨w.heap.size,0,none⟩ (by simp [Program.arrayLen,Program.elem,L.t171]) .i64 .i64 1 (1+(Lib.nDigits u:Int)) (by omega) (by omega) (by rw [hal];omega)]
  go_simp
  omega
 have hH0:=Lib.holds_zero w (ρ.t 171) (Lib.nDigits u) (by omega)
 have hfmt:=Any.internal_strconv_formatBase10 { L with } w.heap.size 1 23 u (Array.replicate (Lib.nDigits u) 0) (w.alloc (.cells Lib.zeros24 (ρ.t 171))) hH0 (by rw [Array.size_replicate];exact Lib.lt_pow_nDigits u) hu64 (by rw [Array.size_replicate];omega)
 rw [Array.size_replicate] at hfmt
 have HH0:=Lib.hid hH0
 clear hH0 hal
 go_enter L.f246,Body.n246_ntmps ρ
 go_wp2_with (first
  | (go_at_fn (ρ.f 284);refine (Any.internal_strconv_numDigits { L with } u (by omega) hu64 _ (Lib.tabIs_alloc htab _)).mono ?_;rintro e w' ⟨rfl,rfl⟩))
 go_at_fn (ρ.f 285)
 refine hfmt.mono ?_
 rintro e w' ⟨rfl,k,v',dk,rfl,hF⟩
 have hcv:(convert (ρ.t 37) (ρ.t 9) (.slice (some ⟨w.heap.size,1,none⟩) (Lib.nDigits u) 23)).run P ((putRow (fun (b:UInt8)=>Value.int .u8 (b.toNat:Int)) (w.alloc (.cells Lib.zeros24 (ρ.t 171))) w.heap.size 1 dk).drewN k)=.ok (.string ⟨(Lib.decDigits u).toArray⟩) ((putRow (fun (b:UInt8)=>Value.int .u8 (b.toNat:Int)) (w.alloc (.cells Lib.zeros24 (ρ.t 171))) w.heap.size 1 dk).drewN k):=by
  have h:=run_convert_bytes_back (P:=P) ((putRow (fun (b:UInt8)=>Value.int .u8 (b.toNat:Int)) (w.alloc (.cells Lib.zeros24 (ρ.t 171))) w.heap.size 1 dk).drewN k) (ρ.t 37) (ρ.t 9) (ρ.t 5) ⟨w.heap.size,1,none⟩ 23 (Lib.decDigits u) L.t37 L.t5 L.t9 (fun j hj=>by
   rw [Lib.row_is_numeral hF j hj,Lib.add_plain,World.cell?_drewN]
   exact cell?_putRow (fun (b:UInt8)=>Value.int .u8 (b.toNat:Int)) _ w.heap.size 1 _ dk HH0.out (by rw [hF.size,Array.size_replicate]) j (by rw [hF.size];rw [Lib.decDigits_length] at hj;exact hj))
  rw [Lib.decDigits_length] at h
  exact h
 go_wp2
 go_ret
 exact ⟨rfl,k,dk,rfl⟩
/-- what a call leaves: old memory as it was, new memory unfrozen -/
structure Kp (w w':World):Prop where
 size:w.heap.size≤w'.heap.size
 old:∀ b,b<w.heap.size→w'.heap[b]?=w.heap[b]?
 fz:∀ (b:Nat) (c:Array Value) (t:TypeId) (z:Nat × Nat),w.heap.size≤b→w'.heap[b]?=some (.cells c t z)→z=(0,0)
 ku:KU w w'
theorem Kp.rfl {w:World}:Kp w w:=⟨Nat.le_refl _,fun _ _=>Eq.refl _,fun b c t z hb h=>(by rw [Array.getElem?_eq_none hb] at h;cases h),KU.rfl⟩
theorem zPO (w:World) (t:TypeId) (c:Array Value) (dk:Array UInt8) (k:Nat):Kp w ((putRow u8v (w.alloc (.cells c t)) w.heap.size 1 dk).drewN k):=by
 have hh:((putRow u8v (w.alloc (.cells c t)) w.heap.size 1 dk).drewN k).heap=(w.heap.push (.cells c t)).modify w.heap.size (onCells (putCells u8v 1 dk)):=Eq.refl _
 refine ⟨?_,fun b hb=>?_,fun b c' t' z hb h=>?_,⟨Eq.refl _,Eq.refl _⟩⟩
 ·rw [hh];simp
 ·rw [hh,Array.getElem?_modify,if_neg (by omega),Array.getElem?_push,if_neg (by omega)]
 ·rw [hh,Array.getElem?_modify] at h
  by_cases hb2:w.heap.size=b
  ·rw [if_pos hb2,←hb2,Array.getElem?_push,if_pos (Eq.refl _)] at h
   simp [onCells] at h
   exact h.2.2.symm
  ·rw [if_neg hb2,Array.getElem?_push,if_neg (by omega),Array.getElem?_eq_none hb] at h
   cases h
set_option maxRecDepth 100000 in
theorem zOB (L : LaysM.n171 P ρ) (u : Nat) (h1 : u ≤ 9223372036854775807) (w : World) (htab : Lib.TabIs P w "internal/strconv.uint64pow10" .u64 Lib.pow10Tab) :
  Calls P (ρ.f 171) #[.int .i64 u] w fun e w'=>e=.returned (.string ⟨(Lib.decDigits u).toArray⟩)∧Kp w w':=by
 by_cases hu:u<100
 ·exact (Any.strconv_Itoa_small { L with } u hu w).mono fun e w' h=>⟨h.1,h.2 ▸ Kp.rfl⟩
 have mixed:=L.mixed
 have t3:=L.t3;have a3:=L.a3;have z3:=L.z3;have v3:=L.v3
 have t9:=L.t9;have a9:=L.a9;have z9:=L.z9;have v9:=L.v9
 have t2:=L.t2;have a2:=L.a2;have z2:=L.z2;have v2:=L.v2
 have e243:∀ args w,(callFunc (ρ.f 243) args).run P w=.ok (.enter (ρ.f 243) args) w:=enters_of L.f243 (by kernel_rfl) rfl
 have e246:∀ args w,(callFunc (ρ.f 246) args).run P w=.ok (.enter (ρ.f 246) args) w:=enters_of L.f246 (by kernel_rfl) rfl
 have mid:Calls P (ρ.f 243) #[.int .i64 u] w fun e w'=>e=.returned (.string ⟨(Lib.decDigits u).toArray⟩)∧∃ k dk,w'=(putRow u8v (w.alloc (.cells Lib.zeros24 (ρ.t 171))) w.heap.size 1 dk).drewN k:=by
  go_enter L.f243,Body.n243_ntmps ρ
  go_wp2_with (go_at_fn (ρ.f 246);refine (zP5 { L with } u (by omega) h1 _ htab).mono ?_;rintro e w' ⟨rfl,k,dk,rfl⟩)
  go_ret
  exact ⟨rfl,k,dk,rfl⟩
 have top:Calls P (ρ.f 171) #[.int .i64 u] w fun e w'=>e=.returned (.string ⟨(Lib.decDigits u).toArray⟩)∧∃ k dk,w'=(putRow u8v (w.alloc (.cells Lib.zeros24 (ρ.t 171))) w.heap.size 1 dk).drewN k:=by
  go_enter L.f171,Body.n171_ntmps ρ
  go_wp2_with (go_at_fn (ρ.f 243);refine mid.mono ?_;rintro e w' ⟨rfl,k,dk,rfl⟩)
  go_ret
  exact ⟨rfl,k,dk,rfl⟩
 exact top.mono fun e w' ⟨h,k,dk,h2⟩=>⟨h,h2 ▸ zPO w _ _ dk k⟩
end
theorem zMV {w : World} (h : GlobIs w) : Lib.TabIs prog w "internal/strconv.uint64pow10" .u64 Lib.pow10Tab := by
 obtain ⟨t,fz,h1⟩:=h.h _ (List.mem_cons_self)
 unfold Lib.TabIs World.var?
 rw [itoaL.m17]
 have h2:w.heap[itoaR.g 17]?=some (.cells (Lib.pow10Tab.map fun n=>Value.int .u64 n).toArray t fz):=h1
 simp only [Option.bind_some,h2]
theorem zPY (u:Nat) (h1:u≤9223372036854775807) (N:Nat) (Q:QT [.str]) (hQ:∀ N',N≤N'→Q ⟨(Lib.decDigits u).toArray⟩ N'):ACalls prog 192 [.str] [.int .i64 u] N Q:=
 ⟨by kernel_rfl,fun av w0 hN hav _=>(zOB itoaL u h1 w0 (zMV hav.g)).mono fun e w ⟨he,hk⟩=>by
  subst he
  subst hN
  refine ⟨[.str ⟨(Lib.decDigits u).toArray⟩],[],[],?_⟩
  exact { q:=hQ _ hk.size,v:=rfl,m:=⟨rfl,by simp,by simp,by simp,fun k j b h=>by obtain ⟨_,h2,_⟩:=h;simp [Env.at] at h2⟩,ok:=fun p hp=>by simp at hp;subst hp;trivial,fresh:=fun k b h=>by simp [Env.at] at h,size:=hk.size,old:=hk.old,fz:=hk.fz,ku:=hk.ku }⟩
end YtnpjpplbkoammaaGreatDoor
end Go.Proofs
namespace Go.Proofs.YtnpjpplbkoammaaGreatDoor
open Go Go.Proofs Go.Proofs.Tryz Go.IntWalk
def zJH (f:FuncId) (args:List PV) (s:ByteArray):Prop:=∀ (N:Nat) (Q:QT [.str]),(∀ N',N≤N'→Q s N')→ACalls prog f [.str] args N Q
theorem Qst {Q:QT [.str]} {a b:ByteArray} {N:Nat} (h:Q a N) (e:a=b):Q b N:=e ▸ h
def zPe (u:Nat):ByteArray:=⟨(Lib.decDigits u).toArray⟩
theorem zE3 (u:Nat) (h:u≤4611686018427387904):Lib.nDigits u≤20:=by
 by_cases h1:1≤u
 ·have:=Lib.numDigits_eq u h1 (by omega);split at this<;>omega
 ·rw [Lib.nDigits_small (by omega)];omega
theorem zGi (u:Nat):(zPe u).size=Lib.nDigits u:=by
 show (Lib.decDigits u).toArray.size=_
 rw [List.size_toArray,Lib.decDigits_length]
theorem zB3 {a b:ByteArray} (h:a.data.toList=b.data.toList):a=b:=by
 cases a;cases b;simp at h;rw [h]
theorem zNj (a b:ByteArray):(a++b).data.toList=a.data.toList++b.data.toList:=by simp
theorem zJT (k:Nat):bytes [118]++zPe k=uS k:=zB3 (by rw [zNj];rfl)
theorem zJv (k:Nat) (h:k≤4611686018427387904):(uS k).size≤21:=by
 have:=zE3 k h
 show (118::Lib.decDigits k).toArray.size≤21
 rw [List.size_toArray,List.length_cons,Lib.decDigits_length];omega
theorem zBC (u:Nat) (h:u≤4611686018427387904):zJH 191 [.int .i64 u] (zPe u):=fun N Q hQ=>
 zBG N u Q fun N1 hN1=>zPY u (by omega) N1 _ fun N2 hN2 _ N3 hN3=>hQ _ (by omega)
theorem zMq (m:Nat) (s:ByteArray) (hs:∀ u,u<10→Lib.decDigits u=[UInt8.ofNat (48+u)]):(bytesOf [IntKind.u8.wrap (IntKind.i64.wrap (48+Int.tmod (m:Int) 10))]++s).data.toList=UInt8.ofNat (48+m % 10)::s.data.toList:=by
 rw [zNj]
 have e:IntKind.u8.wrap (IntKind.i64.wrap (48+Int.tmod (m:Int) 10))=((48+m % 10:Nat):Int):=by
  have:Int.tmod (m:Int) 10=((m % 10:Nat):Int):=by rw [Int.tmod_eq_emod_of_nonneg (by omega)];omega
  rw [this,i64_in _ (by omega),IntKind.wrap_u8];omega
 rw [e]
 have h2:bytesOf [((48+m % 10:Nat):Int)]=⟨#[UInt8.ofNat (48+m % 10)]⟩:=rfl
 rw [h2]
 rfl
theorem zAj (u:Nat) (h:u≤4611686018427387904):zJH 188 [.int .i64 u] (zPe u):=fun N Q hQ=>by
 have e1:∀ u,u<10→Lib.decDigits u=[UInt8.ofNat (48+u)]:=fun u h=>by rw [Lib.decDigits,dif_pos h]
 have e2:∀ u,¬u<10→Lib.decDigits u=Lib.decDigits (u / 10)++[UInt8.ofNat (48+u % 10)]:=fun u h=>by rw [Lib.decDigits,dif_neg h]
 refine zBE N u Q (Br.beq (fun h0 N1 hN1=>?_) fun h0=>?_)
 ·have:u=0:=by omega
  subst this
  refine Qst (hQ _ hN1) (zB3 ?_)
  show Lib.decDigits 0=[48]
  rw [e1 0 (by omega)]
  rfl
 ·rw [decide_eq_false (by omega)]
  have key:∀ (m:Nat) (s:ByteArray),m≤u→s.size+Lib.nDigits m≤20∨(m=0∧s.size≤20)→(if m=0 then [] else Lib.decDigits m)++s.data.toList=Lib.decDigits u→yF Q N m false s N:=by
   intro m
   induction m using Nat.strongRecOn with
   | _ m ih=>
     intro s hm hsz he
     refine qn _ _ _ _ _ _ ?_
     refine Br.bne (fun hm0=>?_) fun hm0=>?_
     ·have hm0:m≠0:=by omega
      have ht:Int.tmod (m:Int) 10=((m % 10:Nat):Int):=by rw [Int.tmod_eq_emod_of_nonneg (by omega)];omega
      have hd:Int.tdiv (m:Int) 10=((m / 10:Nat):Int):=by rw [Int.tdiv_eq_ediv_of_nonneg (by omega)];omega
      have hsz:s.size+Lib.nDigits m≤20:=by rcases hsz with h1 | ⟨h1,_⟩;exact h1;exact absurd h1 hm0
      refine ⟨by omega,?_⟩
      rw [decide_eq_false (by omega)]
      refine ⟨by simp,[IntKind.u8.wrap (IntKind.i64.wrap (48+Int.tmod (m:Int) 10))],rfl,?_,by omega,?_⟩
      ·have:(bytesOf [IntKind.u8.wrap (IntKind.i64.wrap (48+Int.tmod (m:Int) 10))]).size=1:=rfl
       omega
      ·rw [hd,i64_in _ (by omega)]
       refine ih (m / 10) (by omega) _ (by omega) ?_ ?_
       ·have h1:(bytesOf [IntKind.u8.wrap (IntKind.i64.wrap (48+Int.tmod (m:Int) 10))]++s).size=1+s.size:=by
         rw [ByteArray.size_append];rfl
        by_cases h10:m<10
        ·right
         have:=Lib.nDigits_pos m
         exact ⟨by omega,by omega⟩
        ·left
         have:=Lib.nDigits_big h10
         omega
       ·rw [zMq m s e1,←he,if_neg hm0]
        by_cases h10:m<10
        ·rw [if_pos (by omega),e1 m h10,show m % 10=m by omega];rfl
        ·rw [if_neg (by omega),e2 m h10];simp
     ·have:m=0:=by omega
      subst this
      refine fun N2 hN2=>Qst (hQ _ hN2) (zB3 ?_)
      rw [if_pos rfl] at he
      exact he.symm
  refine key u (bytes []) (Nat.le_refl _) (.inl ?_) ?_
  ·have:=zE3 u h
   show 0+_≤_
   omega
  ·rw [if_neg (by omega)];exact List.append_nil _
theorem zEd (l:List ByteArray) (P:Nat→Nat→Prop) (N:Nat) (F:ByteArray→Nat→Prop) (hF:∀ N',N≤N'→F (fresh l) N')
  (step:∀ (k N':Nat),N≤N'→k≤l.length+1→(∀ N'',N'≤N''→uS k∈l→P (k+1) N'')→(∀ N'',N'≤N''→uS k∉l→F (uS k) N'')→P k N'):P 1 N:=by
 have key:∀ (f k:Nat) (N':Nat),N≤N'→1≤k→k+f=l.length+1→(∀ j,1≤j→j<k→uS j∈l)→sK f k l=sK l.length 1 l→P k N':=by
  intro f
  induction f with
  | zero=>
    intro k N' hN' hk1 hkf hall he
    refine step k N' hN' (by omega) (fun N'' h1 hm=>?_) fun N'' h1 hm=>?_
    ·exfalso
     have:=zNn l (k+1) (fun j h4 h5=>by
      by_cases h6:j=k
      ·subst h6;exact hm
      ·exact hall j h4 (by omega)) (by omega)
     omega
    ·have:=hF N'' (by omega)
     unfold fresh at this
     rw [←he] at this
     exact this
  | succ f ih=>
    intro k N' hN' hk1 hkf hall he
    simp only [sK] at he
    refine step k N' hN' (by omega) (fun N'' h1 hm=>?_) fun N'' h1 hm=>?_
    ·rw [if_pos hm] at he
     exact ih (k+1) N'' (by omega) (by omega) (by omega) (fun j h4 h5=>by
      by_cases h6:j=k
      ·subst h6;exact hm
      ·exact hall j h4 (by omega)) he
    ·rw [if_neg hm] at he
     have:=hF N'' (by omega)
     unfold fresh at this
     rw [←he] at this
     exact this
 exact key l.length 1 N (Nat.le_refl _) (Nat.le_refl _) (by omega) (fun j h1 h2=>by omega) rfl
theorem zAe (l:List ByteArray) (hl:l.length≤8796093022208) (a:Option Addr) (c:Nat):zJH 173 [.sv a 0 (zA l) c] (fresh l):=fun N Q hQ=>by
 refine zAl N a _ c Q fun _=>?_
 refine zEd l (fun k N'=>yk Q N a (zA l) c k N') N (fun s N'=>Q s N') hQ fun k N' hN' hk hin hout=>?_
 have hnd:=zE3 k (by omega)
 have hds:=zGi k
 refine qt _ _ _ _ _ _ _ fun N1 hN1=>zAj k (by omega) N1 _ fun N2 hN2 _=>⟨by omega,fun N3 hN3=>?_⟩
 rw [zJT]
 refine yO l (by omega) a c (uS k) N3 _ fun N4 hN4 _=>?_
 rw [zBh]
 refine Br.dec (fun h N5 hN5=>hout _ (by omega) h) fun h=>?_
 rw [i64_in _ (by omega)]
 exact hin _ (by omega) (Decidable.not_not.1 h)
theorem zAs (l:List ByteArray) (hl:l.length≤8796093022208) (a:Option Addr) (c:Nat):zJH 182 [.sv a 0 (zA l) c] (fresh l):=fun N Q hQ=>by
 refine zBB N a _ c Q fun _ N1 hN1=>zGg N1 _ a _ c _ fun _=>?_
 refine zEd l (fun k N'=>wb _ N1 (bytes [118]) a (zA l) c k N') N1 (fun s N'=>∀ N'',N'≤N''→Q s N'') (fun N' h N'' h2=>hQ _ (by omega)) fun k N' hN' hk hin hout=>?_
 have hnd:=zE3 k (by omega)
 have hds:=zGi k
 have hb:(bytes [118]).size=1:=rfl
 refine zDX _ _ _ _ _ _ _ _ fun N2 hN2=>zBC k (by omega) N2 _ fun N3 hN3 _=>⟨by omega,fun N4 hN4=>?_⟩
 rw [zJT]
 refine zr l (by omega) a c (uS k) N4 _ fun N5 hN5 _=>?_
 rw [qB]
 refine Br.ndec (fun h N6 hN6=>?_) fun h=>?_
 ·exact fun _ N7 hN7=>hout N7 (by omega) h _ (Nat.le_refl _)
 ·rw [i64_in _ (by omega)]
  exact hin _ (by omega) h
end Go.Proofs.YtnpjpplbkoammaaGreatDoor
