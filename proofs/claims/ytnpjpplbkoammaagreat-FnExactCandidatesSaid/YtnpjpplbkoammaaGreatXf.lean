/- Free names: the program's and the reference's. -/
import Derived.Test.YtnpjpplbkoammaaGreatXa
set_option linter.unusedVariables false
set_option linter.unusedSimpArgs false
namespace Go.Proofs.YtnpjpplbkoammaaGreat
open Go Go.Proofs Go.Proofs.Tryz Go.IntWalk
mutual
/-- variables -/
def Tm.vc:Tm→Nat
 | .mk k _ _ _ _ _ l=>if k=1 then 1 else zCi l
def zCi:List Tm→Nat
 | []=>0
 | t::ts=>t.vc+zCi ts
end
mutual
theorem Tm.vc_cnt:∀ t:Tm,3*t.vc≤t.cnt
 | .mk k nm ot n ty re l=>by
   have:=Ty.cnt_pos ty
   have:=Ty.cnt_pos re
   have:=zIP l
   simp only [Tm.vc,Tm.cnt]
   split<;>omega
theorem zIP:∀ l:List Tm,3*zCi l≤yM l
 | []=>Nat.le_refl _
 | t::ts=>by
   have:=Tm.vc_cnt t
   have:=zIP ts
   simp only [zCi,yM];omega
end
mutual
theorem Tm.fv_len:∀ t:Tm,t.fv.length≤t.vc
 | .mk k nm ot n ty re l=>by
   simp only [Tm.fv,Tm.vc]
   split
   ·simp
   ·have:=zIQ l (zBK k l.length) (bdN k nm ot l.length) 0 []
    simp at this;omega
theorem zIQ:∀ (l:List Tm) (at_:Int) (ns:List ByteArray) (i:Nat) (out:List ByteArray),(zAB l at_ ns i out).length≤out.length+zCi l
 | [],_,_,_,out=>by simp [zAB]
 | x::xs,at_,ns,i,out=>by
   simp only [zAB,zCi]
   have h1:=zIQ xs at_ ns (i+1) (qL out (if (i:Int)=at_ then pL ns x.fv else x.fv))
   have h2:=Tm.fv_len x
   have h3:(if (i:Int)=at_ then pL ns x.fv else x.fv).length≤x.vc:=by
    split
    ·exact Nat.le_trans (List.length_filter_le _ _) h2
    ·exact h2
   have h4:(qL out (if (i:Int)=at_ then pL ns x.fv else x.fv)).length≤out.length+(if (i:Int)=at_ then pL ns x.fv else x.fv).length:=by
    unfold qL
    have a1:=zJb (dd [] out) (if (i:Int)=at_ then pL ns x.fv else x.fv)
    have a2:=zJb [] out
    simp at a2;omega
   omega
end
theorem zDY (a b:List ByteArray):(qL a b).length≤a.length+b.length:=by
 unfold qL
 have a1:=zJb (dd [] a) b
 have a2:=zJb [] a
 simp at a2;omega
theorem zNO (ns l:List ByteArray) (s:ByteArray):(pL ns l).filter (fun x=>decide (x≠s))=pL (ns++[s]) l:=by
 unfold pL
 rw [List.filter_filter]
 congr 1
 funext x
 rw [Bool.eq_iff_iff]
 simp
 exact And.comm
theorem zGY (l:List ByteArray):pL [] l=l:=by simp [pL]
theorem zEP:∀ (t:Tm) (d:D),t.Is d→t.vc≤2199023255552→zQB 79 [.dg 9 d] t.fv:=by
 refine Tm.ind fun k nm ot n0 ty re l ih d hd hG N Q hQ=>?_
 obtain ⟨t0,t1,r0,r1,a,es,c,rfl,hh,hlen,hes⟩:=Tm.is_mk.1 hd
 have hl:=hes.len
 simp only [Tm.vc] at hG
 refine zDk N _ Q fun _=>⟨_,rfl,Br.beq (fun h1=>⟨_,rfl,⟨rfl,rfl⟩,⟨rfl,rfl⟩,fun a1 N1 hN1 hf N2 hN2=>?_⟩) fun h1 N3 hN3=>zNt (n:=l.length) (by omega) N3 _ fun a3 c3 N4 hN4 _ _ _=>?_⟩
 ·have e:(Tm.mk k nm ot n0 ty re l).fv=[nm]:=by simp [Tm.fv,h1]
  rw [e] at hQ
  exact hQ _ _ _ (by omega) (ww (l:=[nm]) hf hN2)
 ·have e:(Tm.mk k nm ot n0 ty re l).fv=zAB l (zBK k l.length) (bdN k nm ot l.length) 0 []:=by simp [Tm.fv,h1]
  rw [e] at hQ
  rw [if_neg h1] at hG
  have hns:=zNm k nm ot l.length
  generalize bdN k nm ot l.length=ns at hQ hns ⊢
  generalize zBK k l.length=at_ at hQ ⊢
  generalize hy:(D.ag [.lit (.int .i64 k),.lit (.string nm),.lit (.string ot),.lit (.int .i64 n0),t0,t1,r0,r1,.sl a 9 es c])=y
  have hy8:y.cell 8=.sl a 9 es c:=by rw [←hy];rfl
  have hnw:=zP ns
  have inner:∀ (i:Nat) (x:Tm) (out:List ByteArray) (q N1:Nat),N≤N1→out.length≤2199023255552→x.fv.length≤2199023255552 →
    (∀ c N'',N1≤N''→yD Q N a3 (zA ns) c3 at_ (zA (qL out (if (i:Int)=at_ then pL ns x.fv else x.fv))).length c (IntKind.i64.wrap (i+1)) y (zA (qL out (if (i:Int)=at_ then pL ns x.fv else x.fv))) c N'') →
    ∀ a7 c7,Own N N1 (.sl a7 0 (zA x.fv) c7)→yj Q N a3 (zA ns) c3 at_ (zA out).length q i a7 (zA x.fv) c7 0 y (zA out) q N1:=fun i x out q N1 hN1 ho hx hc a7 c7 h7=>by
   have fin:∀ (lw:List ByteArray) (a7:Option Addr) (c7 N':Nat),N1≤N'→lw=(if (i:Int)=at_ then pL ns x.fv else x.fv) →
     ((zA out).length=(zA out).length∧q=q)∧∀ a_1,ApA a_1 (zA out)→Off [a_1] (.sl a7 0 (zA lw) c7)→∀ N3,N'≤N3→tW N3 [a_1]→ACalls prog 80 [.row 9 0] [.sv a_1 0 (zA out) q,.sv a7 0 (zA lw) c7] N3 (fun es_1 c_1 N4=>N3≤N4→Off [a_1] (D.ag es_1)∧(Bel N4 (D.ag es_1)→yD Q N a3 (zA ns) c3 at_ es_1.length c_1 (IntKind.i64.wrap (i+1)) y es_1 c_1 N4)):=fun lw a7 c7 N' hN' hlw=>⟨⟨rfl,rfl⟩,fun a9 _ _ N5 hN5 hbel=>by
    have h5:lw.length≤2199023255552:=by
     rw [hlw];split
     ·exact Nat.le_trans (List.length_filter_le _ _) hx
     ·exact hx
    refine sM out lw ho h5 a9 a7 q c7 N5 _ fun c8 N8 hN8 _=>⟨zAM _,fun _=>?_⟩
    subst hlw
    exact hc _ _ (by omega)⟩
   refine up (xm ns) (by omega) (fun j xs=>∀ (lw:List ByteArray) a7 c7 N',N1≤N'→lw=pL (ns.take j) x.fv→((i:Int)≠at_→j=0)→yj Q N a3 (zA ns) c3 at_ (zA out).length q i a7 (zA lw) c7 j y (zA out) q N') ?_ ?_ x.fv a7 c7 N1 (Nat.le_refl _) (by rw [List.take_zero,zGY]) (fun _=>rfl)
   ·intro j hlt hj lw a7 c7 N' hN' hlw hat
    refine tC _ _ _ _ _ _ _ _ _ _ _ _ _ _ _ _ _ ?_
    rw [hlt]
    refine fin lw a7 c7 N' hN' ?_
    rw [hlw,List.take_of_length_le (by omega)]
    split
    ·rfl
    ·rename_i hne
     have:=hat hne
     have:ns=[]:=List.eq_nil_of_length_eq_zero (by omega)
     rw [this,zGY]
   ·intro j s xs hat _ ih2 lw a7 c7 N' hN' hlw hj
    have hb:=hat.b
    have hr:=hat.r
    refine tC _ _ _ _ _ _ _ _ _ _ _ _ _ _ _ _ _ ?_
    rw [hat.lt]
    refine Br.beq (fun he=>⟨⟨by omega,by omega⟩,s,?_,fun N2 hN2=>zHN lw ?_ a7 c7 s N2 _ fun a8 c8 N8 hN8 _ _ _=>?_⟩) fun hne=>fin lw a7 c7 N' hN' ?_
    ·rw [Int.toNat_natCast,hr]
    ·rw [hlw];exact Nat.le_trans (List.length_filter_le _ _) hx
    ·rw [hat.w]
     refine ih2 _ _ _ _ (by omega) ?_ (fun hc=>absurd he hc)
     rw [hlw,zNO,wi hat.g]
    ·rw [if_neg hne,hlw,hj hne,List.take_zero,zGY]
  refine up hes hlen (fun i xs=>∀ (out:List ByteArray) (q N':Nat),N≤N'→out.length+zCi xs≤zCi l→zAB xs at_ ns i out=zAB l at_ ns 0 []→yD Q N a3 (zA ns) c3 at_ (zA out).length q i y (zA out) q N') ?_ ?_ [] 0 N4 (by omega) (by simp) rfl
  ·intro i hlt hi out q N' hN' _ he
   refine tc _ _ _ _ _ _ _ _ _ _ _ _ _ ⟨_,_,_,hy8,?_⟩
   rw [hlt]
   simp only [zAB] at he
   subst he
   exact ⟨⟨rfl,rfl⟩,⟨rfl,rfl⟩,⟨rfl,rfl⟩,fun a1 N5 hN5 hf N6 hN6=>hQ _ _ _ (by omega) (ww hf hN6)⟩
  ·intro i x xs hat _ ih2 out q N' hN' hle he
   have hb:=hat.b
   simp only [zCi] at hle
   have hxc:=Tm.fv_len x
   have hlx:=zDY out (if (i:Int)=at_ then pL ns x.fv else x.fv)
   have hcx:(if (i:Int)=at_ then pL ns x.fv else x.fv).length≤x.vc:=by
    split
    ·exact Nat.le_trans (List.length_filter_le _ _) hxc
    ·exact hxc
   refine tc _ _ _ _ _ _ _ _ _ _ _ _ _ ⟨_,_,_,hy8,?_⟩
   rw [hat.lt]
   refine ⟨_,_,_,hy8,⟨by omega,by omega⟩,fun N5 hN5=>?_⟩
   rw [Int.toNat_natCast]
   refine ih x hat.m _ hat.r (by omega) N5 _ fun a6 c6 N6 hN6 ho6 _ _=>inner i x out q N6 (by omega) (by omega) (by omega) (fun c N'' h1=>?_) a6 c6 (ho6.mono (by omega) (Nat.le_refl _))
   rw [hat.w]
   exact ih2 _ _ _ (by omega) (by omega) (by rw [←he];rfl)
theorem BCalls.cap {f:FuncId} {full:List Sh} {args:List PV} {bx:List Bx} {N:Nat} {Q:QT full} (hc:zt prog f=true) (h:(∀ t z es n,Bx.arr t z es n∈bx→es.length≤n)→BCalls prog f full args bx N Q):BCalls prog f full args bx N Q:=
 ⟨hc,fun av w0 E h1 h2 h3 h4 h5=>(h fun t z es n hm=>by
  obtain ⟨k,hk⟩:=List.mem_iff_getElem?.1 hm
  rcases h3.br k _ hk (by simp) with ⟨_,e1,e2⟩ | ⟨b,c,_,_,_,e,_⟩
  ·rw [e1,e2];exact Nat.le_refl _
  ·exact e).h av w0 E h1 h2 h3 h4 h5⟩
theorem zFl {α:Type} (p:α→Bool):∀ (l:List α) (i:Int),(t8 p l i = -1∧∀ x∈l,p x=false)∨∃ pre x post,l=pre++x::post∧t8 p l i=i+(pre.length:Int)∧p x=true∧∀ y∈pre,p y=false
 | [],i=>.inl ⟨rfl,by simp⟩
 | x :: l,i=>by
   simp only [t8]
   by_cases hx:p x=true
   ·exact .inr ⟨[],x,l,rfl,by simp [hx],hx,by simp⟩
   ·rcases zFl p l (i+1) with ⟨h1,h2⟩ | ⟨pre,y,post,h1,h2,h3,h4⟩
    ·refine .inl ⟨by rw [if_neg hx,h1],fun y hy=>?_⟩
     rcases List.mem_cons.1 hy with rfl | hy
     ·simpa using hx
     ·exact h2 y hy
    ·refine .inr ⟨x::pre,y,post,by rw [h1];rfl,by rw [if_neg hx,h2];simp only [List.length_cons];omega,h3,fun z hz=>?_⟩
     rcases List.mem_cons.1 hz with rfl | hz
     ·simpa using hx
     ·exact h4 z hz
theorem zIp (s:ByteArray) (ns:List ByteArray) (hn:ns.length≤4611686018427387904) (ad:Addr) (a:Option Addr) (c:Nat):vE 124 [.str s,.pd ad 0 (.sl a 0 (zA ns) c)] (decide (s∈ns)):=fun N Q hQ=>by
 refine pF N s ad _ Q ⟨_,_,_,rfl,fun N1 hN1=>wQ ns hn a c s N1 _ fun N2 hN2 _ N3 hN3=>Qb (hQ _ (by omega)) (zEH s ns).symm⟩
theorem zJ4 (l:List ByteArray) (hl:l.length≤2199023255552) (a:Option Addr) (c:Nat) (ad:Addr) (ns:List ByteArray) (hn:ns.length≤4611686018427387904) (a1:Option Addr) (c1:Nat) :
  pe 121 [.sv a 0 (zA l) c,.fn 124 [.pd ad 0 (.sl a1 0 (zA ns) c1)]] (t8 (fun x=>decide (x∈ns)) l 0):=fun N Q hQ=>by
 have hlen:=zP l
 refine u3 N a _ c ad _ Q fun _=>?_
 refine up (xm l) (by omega) (fun i xs=>∀ (N':Nat),N≤N'→(∀ N'',N'≤N''→Q (t8 (fun x=>decide (x∈ns)) xs i) N'')→yH Q N a (zA l) c ad (.sl a1 0 (zA ns) c1) ((zA l).length:Int) i N') ?_ ?_ N (Nat.le_refl _) hQ
 ·intro i hlt _ N' hN' hQ'
  refine wL _ _ _ _ _ _ _ _ _ _ ?_
  rw [hlt]
  exact fun N'' h=>hQ' _ (by omega)
 ·intro i x xs hat _ ih2 N' hN' hQ'
  have hb:=hat.b
  have hr:=hat.r
  simp only [t8] at hQ'
  refine wL _ _ _ _ _ _ _ _ _ _ ?_
  rw [hat.lt,hat.w,Int.toNat_natCast,hr]
  refine ⟨⟨by omega,by omega⟩,x,rfl,fun N1 hN1=>zIp x ns hn ad a1 c1 N1 _ fun N2 hN2 _=>Br.dec (fun h N3 hN3=>Qi (hQ' _ (by omega)) (by simp [h])) fun h=>ih2 _ (by omega) fun N'' h2=>Qi (hQ' _ (by omega)) (by rw [if_neg (by simpa using h)];simp)⟩
theorem zQC (done:List D) (y s:D) (r:List D):(done++y::r).set done.length s=done++s::r:=by
 rw [List.set_append_right _ _ (Nat.le_refl _),Nat.sub_self];rfl
theorem zIR (l:List ByteArray) (hl:l.length≤2199023255552) (ns:List ByteArray) (hn:ns.length≤4611686018427387904) (c:Nat) (a1:Option Addr) (c1:Nat) (N:Nat) (Q:QT [Sh.bk 0,.sl 0,.sl 0])
  (hQ:∀ x N',N≤N'→Q x none (zA (pL ns l)) c a1 (zA ns) c1 N') :
  BCalls prog 123 [Sh.bk 0,.sl 0,.sl 0] [.sb 0 0 0 (zA l).length c,.fn 124 [.pb 1 0 0 0]] [.arr 9 0 (zA l) c,.var [.sv a1 0 (zA ns) c1]] N Q:=by
 refine BCalls.cap (by kernel_rfl) fun hcap=>?_
 have hc:=hcap _ _ _ _ (List.mem_cons_self)
 have hlw:=zP l
 refine ua N _ _ _ _ _ _ _ Q fun E _ _=>⟨⟨rfl,rfl⟩,fun a2 _ ad _ N1 hN1 _=>zJ4 l hl a2 c ad ns hn a1 c1 N1 _ fun N2 hN2 _=>?_⟩
 rcases zFl (fun x=>decide (x∈ns)) l 0 with ⟨h1,h2⟩ | ⟨pre,x,post,h1,h2,h3,h4⟩
 ·rw [h1]
  refine ⟨zSC,⟨rfl,rfl⟩,fun N3 hN3=>?_⟩
  have e:pL ns l=l:=by
   unfold pL
   rw [List.filter_eq_self]
   intro s hs
   simpa using h2 s hs
  rw [e] at hQ
  exact hQ _ _ (by omega)
 ·rw [h2,Int.zero_add]
  have hll:=congrArg List.length h1
  rw [List.length_append,List.length_cons] at hll
  have hpre:pL ns l=pre++pL ns post:=by
   rw [h1]
   unfold pL
   rw [List.filter_append,List.filter_cons_of_neg (by simpa using h3),List.filter_eq_self.2 fun s hs=>by simpa using h4 s hs]
  rw [hpre] at hQ
  refine Br.beq (fun h=>by omega) fun _=>?_
  rw [i64_in _ (by omega)]
  have key:∀ (xs done:List ByteArray) (junk:List D) (j:Int) (N':Nat),N≤N'→junk≠[]→done++pL ns xs=pre++pL ns post→j=((done.length+junk.length:Nat):Int)→done.length+junk.length+xs.length=l.length →
    zk E Q N (zA l).length c (done.length:Int) j (zA done++(junk++zA xs)) c a1 (zA ns) c1 N':=by
   intro xs
   induction xs with
   | nil=>
     intro done junk j N' hN' hj hd hjj hlen
     have hdw:=zP done
     have hjl:=List.length_pos_iff.2 hj
     simp only [List.length_nil,Nat.add_zero] at hlen
     refine wF _ _ _ _ _ _ _ _ _ _ _ _ _ ?_
     rw [decide_eq_false (by omega)]
     have e1:List.take (done.length:Int).toNat (List.take (0+(done.length:Int).toNat) (zA done++(junk++zA []))++(List.replicate (((zA l).length:Int).toNat - (done.length:Int).toNat) (D.lit (.string (bytes [])))++List.drop (0+(done.length:Int).toNat+(((zA l).length:Int).toNat - (done.length:Int).toNat)) (zA done++(junk++zA []))))=zA done:=by
      rw [Int.toNat_natCast,Nat.zero_add,List.take_append_of_le_length (by rw [List.length_take,List.length_append];omega),List.take_take,Nat.min_self,List.take_append_of_le_length (by omega),List.take_of_length_le (by omega)]
     rw [e1]
     simp only [pL,List.filter_nil,List.append_nil] at hd
     have hd:done=pre++pL ns post:=hd
     have hrl:(zA done++(junk++zA [])).length=l.length:=by simp [zA];omega
     refine ⟨⟨by omega,by omega,by omega,by omega⟩,by omega,⟨by omega,by omega⟩,?_,zSC,⟨by omega,rfl⟩,fun N3 hN3=>?_⟩
     ·rw [List.length_append,List.length_take];omega
     ·rw [hd];exact hQ _ _ (by omega)
   | cons s xs ih=>
     intro done junk j N' hN' hj hd hjj hlen
     have hdw:=zP done
     have hjl:=List.length_pos_iff.2 hj
     have hxw:=zP (s::xs)
     simp only [List.length_cons] at hlen hxw
     refine wF _ _ _ _ _ _ _ _ _ _ _ _ _ ?_
     rw [decide_eq_true (by omega)]
     have hrl:(zA done++(junk++zA (s::xs))).length=l.length:=by simp only [List.length_append];omega
     have hget:(zA done++(junk++zA (s::xs))).getD (0+j.toNat) default=.lit (.string s):=by
      rw [hjj,Int.toNat_natCast,Nat.zero_add,List.getD_eq_getElem?_getD,List.getElem?_append_right (by omega),List.getElem?_append_right (by omega)]
      rw [show done.length+junk.length - (zA done).length - junk.length=0 by omega]
      rfl
     refine ⟨⟨by omega,by omega,by omega⟩,by omega,s,hget,fun ad _ N1 hN1 _=>zIp s ns hn ad a1 c1 N1 _ fun N2 hN2 _=>Br.ndec (fun h=>⟨⟨by omega,by omega,by omega⟩,by omega,?_⟩) fun h=>?_⟩
     ·rw [i64_in _ (by omega),i64_in _ (by omega),Nat.zero_add,Int.toNat_natCast]
      obtain ⟨y,ys,rfl⟩:=List.exists_cons_of_ne_nil hj
      have e2:(zA done++(y::ys++zA (s::xs))).set done.length (.lit (.string s))=zA (done++[s])++((ys++[.lit (.string s)])++zA xs):=by
       rw [←hdw,List.cons_append,zQC,←xN]
       simp [zA]
      rw [e2]
      have:=ih (done++[s]) (ys++[.lit (.string s)]) (j+1) N2 (by omega) (by simp) (by rw [←hd];simp [pL,h]) (by simp only [List.length_append,List.length_cons,List.length_nil] at hjj ⊢;omega) (by simp only [List.length_append,List.length_cons,List.length_nil] at hlen ⊢;omega)
      simpa using this
     ·rw [i64_in _ (by omega)]
      have:=ih done (junk++[.lit (.string s)]) (j+1) N2 (by omega) (by simp) (by rw [←hd];simp [pL,h]) (by simp only [List.length_append,List.length_cons,List.length_nil];omega) (by simp only [List.length_append,List.length_cons,List.length_nil];omega)
      simpa [zA] using this
  have:=key post pre [.lit (.string x)] ((pre.length:Int)+1) N2 (by omega) (by simp) rfl (by simp) (by simp;omega)
  rw [h1]
  rw [h1] at this
  simpa [zA] using this
theorem zEQ:∀ (t:Tm) (d:D),t.Is d→t.vc≤2199023255552→zPH 91 [.dg 9 d] t.fv:=by
 refine Tm.ind fun k nm ot n0 ty re l ih d hd hG N Q hQ=>?_
 obtain ⟨t0,t1,r0,r1,a,es,c,rfl,hh,hlen,hes⟩:=Tm.is_mk.1 hd
 have hl:=hes.len
 simp only [Tm.vc] at hG
 refine zEd N _ Q fun _=>⟨_,rfl,Br.beq (fun h1=>⟨_,rfl,⟨rfl,rfl⟩,fun N1 hN1=>?_⟩) fun h1 N3 hN3=>zQG (n:=l.length) (by omega) N3 _ fun a3 c3 N4 hN4 _ _ _=>⟨_,_,_,rfl,?_⟩⟩
 ·have e:(Tm.mk k nm ot n0 ty re l).fv=[nm]:=by simp [Tm.fv,h1]
  rw [e] at hQ
  exact hQ _ _ (by omega)
 ·have e:(Tm.mk k nm ot n0 ty re l).fv=zAB l (zBK k l.length) (bdN k nm ot l.length) 0 []:=by simp [Tm.fv,h1]
  rw [e] at hQ
  rw [if_neg h1] at hG
  have hns:=zNm k nm ot l.length
  generalize bdN k nm ot l.length=ns at hQ hns ⊢
  generalize zBK k l.length=at_ at hQ ⊢
  refine up hes hlen (fun i xs=>∀ (out:List ByteArray) q a5 c5 N',N≤N'→out.length+zCi xs≤zCi l→zAB xs at_ ns i out=zAB l at_ ns 0 []→xC Q N at_ (zA out).length q a es c (es.length:Int) i a5 (zA ns) c5 (zA out) q N') ?_ ?_ [] 0 a3 c3 N4 (by omega) (by simp) rfl
  ·intro i hlt hi out q a5 c5 N' hN' hle he
   refine tv _ _ _ _ _ _ _ _ _ _ _ _ _ _ _ _ ?_
   rw [hlt]
   simp only [zAB] at he
   subst he
   exact ⟨⟨rfl,rfl⟩,fun N5 hN5=>hQ _ _ (by omega)⟩
  ·intro i x xs hat _ ih2 out q a5 c5 N' hN' hle he
   have hb:=hat.b
   simp only [zCi] at hle
   have hxc:=Tm.fv_len x
   have hlx:=zDY out (if (i:Int)=at_ then pL ns x.fv else x.fv)
   have hcx:(pL ns x.fv).length≤x.vc:=Nat.le_trans (List.length_filter_le _ _) hxc
   refine tv _ _ _ _ _ _ _ _ _ _ _ _ _ _ _ _ ?_
   rw [hat.lt]
   refine ⟨⟨by omega,by omega⟩,fun N5 hN5=>?_⟩
   rw [Int.toNat_natCast,hat.w]
   refine ih x hat.m _ hat.r (by omega) N5 _ fun c6 N6 hN6 _ _=>Br.beq (fun h N7 hN7=>zIR x.fv (by omega) ns (by omega) c6 a5 c5 N7 _ fun x8 N8 hN8 _ _ _=>⟨⟨rfl,rfl⟩,fun a9 _=>⟨⟨rfl,rfl⟩,fun a10 _ N9 hN9 hbel=>?_⟩⟩) fun h=>⟨⟨rfl,rfl⟩,fun a9 _=>⟨⟨rfl,rfl⟩,fun a10 _ N9 hN9 hbel=>?_⟩⟩
   ·refine sC out (pL ns x.fv) (by omega) (by omega) a9 a10 q c6 N9 _ fun c11 N11 hN11 _=>⟨zAM _,fun _=>?_⟩
    rw [if_pos h] at hlx
    exact ih2 _ _ _ _ _ (by omega) (by omega) (by rw [←he];simp only [zAB];rw [if_pos h])
   ·refine sC out x.fv (by omega) (by omega) a9 a10 q c6 N9 _ fun c11 N11 hN11 _=>⟨zAM _,fun _=>?_⟩
    rw [if_neg h] at hlx
    exact ih2 _ _ _ _ _ (by omega) (by omega) (by rw [←he];simp only [zAB];rw [if_neg h])
end Go.Proofs.YtnpjpplbkoammaaGreat
