/- The program's canonical terms. -/
import Derived.Test.YtmfjakahanbnlaaGreatDoorB1
import Derived.Test.YtmfjakahanbnlaaGreatDoorA9
import Derived.Test.YtmfjakahanbnlaaGreatDoorKf
import Derived.Test.YtmfjakahanbnlaaGreatDoorA4
set_option linter.unusedVariables false
set_option linter.unusedSimpArgs false
set_option maxHeartbeats 1000000
namespace Go.Proofs.YtmfjakahanbnlaaGreatDoor
open Go Go.Proofs Go.Proofs.Tryz Go.IntWalk
theorem zH1 {es:Array MapEntry} {env:NEnv} (h:MapIs es env) (c:Nat) (s:ByteArray):zED prog 134 es c s (env s):=
 zID Tryz.underlying134 Tryz.underlying9 Tryz.zeroValue9 h c s
theorem zIP {es:Array MapEntry} {env:NEnv} (h:MapIs es env) (c:Nat) (s u:ByteArray):∃ es' c',zDp prog 134 es c s u es' c'∧MapIs es' (zHU env s u):=
 zH9 Tryz.underlying134 Tryz.underlying9 h c s u
theorem zDl:∀ l:List ByteArray,zL (zA l)=[]
 | []=>rfl
 | x::l=>by
   have:=zDl l
   simp only [zA] at this
   simp [zA,zL,D.foot,this]
theorem zHO {done tl:List D} {i:Nat} {x:D} (h:done.length=i) (hlt:i<tl.length):(done++tl.drop i).set (0+i) x=(done++[x])++tl.drop (i+1):=by
 rw [Nat.zero_add,List.set_append_right _ _ (by omega),h,Nat.sub_self,List.drop_eq_getElem_cons hlt,List.set_cons_zero];simp
/-- what the program's walk is asked for -/
def zKT (t:Tm):Prop:=∀ (d:D),t.Is d→t.G→∀ (env:NEnv) (u:List ByteArray),EnvS env→u.length+2*t.cnt≤1099511627776→∀ (b:Nat) (em:Array MapEntry) (cm:Nat),MapIs em env →
 ∀ (q N:Nat),b<N→∀ (Q:QT [.ag 9,.sl 0]),(∀ (d':D) (q' N':Nat),N≤N'→(can true t env u).1.Is d'→Q d' none (zA (can true t env u).2) q' N') →
 BCalls prog 117 [.ag 9,.sl 0] [.pb 0 0 0 0,.dg 9 d,.dc (.mp b em cm)] [.var [.sb 1 0 0 (zA u).length q],.arr 9 0 (zA u) q] N Q
theorem zIU:∀ t,zKT t:=by
 refine Tm.ind fun k nm ot n0 ty re l ih d hd hG env u hS hu b em cm hM q N hbN Q hQ=>?_
 have hd0:=hd
 have hG0:=hG
 obtain ⟨t0,t1,r0,r1,a9,es,c9,rfl,hh,hlen,hes⟩:=Tm.is_mk.1 hd
 have hl:=hes.len
 obtain ⟨g1,g2,g3,g4⟩:=hG
 have hb2:=qp k nm ot l.length
 simp only [Tm.cnt] at hu
 have hty:=Ty.cnt_pos ty
 refine wj N _ _ _ _ _ _ Q fun E hBel _=>⟨_,rfl,Br.beq (fun h1 N1 hN1=>zHd _ _ hd0 hG0 N1 _ ?_) fun h1 N7 hN7=>zE8 (n:=l.length) (by omega) N7 _ fun a1 c1 N8 hN8 ho8 _ _ N9 hN9=>zCh N9 _ fun bm N10 hbm hbm2 hN10=>?_⟩
 ·intro x4 x5 x6 x7 es' c' N2 hN2 hh' hes' ho' _ _
  refine ⟨nm,rfl,b,em,cm,rfl,env nm,zH1 hM cm nm,?_⟩
  have hcan:can true (.mk k nm ot n0 ty re l) env u=(.mk k ((env nm).getD nm) ot n0 ty re l,u):=by simp only [can,and_true,if_pos h1]
  rw [hcan] at hQ
  have hel:=hes'.len
  have hsz:((env nm).getD nm).size≤4611686018427387904:=by
   cases hv:env nm with
   | none=>exact hh.nm
   | some v=>exact hS _ _ hv
  refine Br.of (fun hv=>?_) fun hv=>?_
  ·have e:(env nm).getD (bytes [])=(env nm).getD nm:=by cases he:env nm with
    | none=>rw [he] at hv;simp at hv
    | some v=>rfl
   rw [e]
   exact ⟨⟨rfl,rfl⟩,⟨rfl,rfl⟩,⟨rfl,rfl⟩,⟨rfl,rfl⟩,fun a2 N3 hN3 _=>⟨zF5,⟨rfl,rfl⟩,fun N4 hN4=>hQ _ _ _ (by omega) (Tm.is_mk.2 ⟨_,_,_,_,_,_,_,rfl,⟨hsz,hh'.ot,hh'.ty,hh'.re⟩,by omega,hes'⟩)⟩⟩
  ·have e:(env nm).getD nm=nm:=by cases he:env nm with
    | none=>rfl
    | some v=>rw [he] at hv;simp at hv
   rw [e] at hQ
   exact ⟨⟨rfl,rfl⟩,⟨rfl,rfl⟩,⟨rfl,rfl⟩,⟨rfl,rfl⟩,fun a2 N3 hN3 _=>⟨zF5,⟨rfl,rfl⟩,fun N4 hN4=>hQ _ _ _ (by omega) (Tm.is_mk.2 ⟨_,_,_,_,_,_,_,rfl,hh',by omega,hes'⟩)⟩⟩
 ·generalize hns:bdN k nm ot l.length=ns at hb2 ho8
  generalize hnow:yK ns.length u=now
  have hnl:now.length=ns.length:=by rw [←hnow,yF]
  generalize hR:zBH true l (xC k l.length) env (yR env ns now) 0 (u++now)=R
  have hnowS:∀ s∈now,s.size≤4611686018427387904:=fun s hs=>by
   rw [←hnow] at hs
   have:=sy ns.length u (by omega) s hs
   omega
  have hcan:can true (.mk k nm ot n0 ty re l) env u=(.mk k (now.headD nm) (now.tail.headD ot) n0 ty re R.1,R.2):=by simp only [can,and_true,if_neg h1,hns,hnow,hR]
  rw [hcan] at hQ
  simp only at hQ
  have hS':EnvS (yR env ns now):=hS.bind hnowS
  have parts:∀ (x4 x5 x6 x7:D) (es':List D) (c':Nat),Tm.Hd nm ot ty re x4 x5 x6 x7→All2 Tm.Is l es'→∀ (em':Array MapEntry) (cm':Nat),MapIs em' (yR env ns now)→∀ (c13 q3 qu N':Nat),N10≤N' →
    zE E Q N (.mp b em cm) (xC k l.length) (.mp bm em' cm') (zA now).length c13 a9 es c9 (es.length:Int) (0:Nat) (zA (u++now)).length qu (zA (u++now)) qu 0 (bytes []) (bytes []) 0 0 none [] 0 0 none [] 0 none [] 0 (zA now) q3 k nm ot n0 x4 x5 x6 x7 es'.length c' es' c' N':=by
   intro x4 x5 x6 x7 es' c' hH hA em' cm' hM' c13 q3 qu N' hN'
   have hal:=hA.len
   have key:=up hes hlen (fun i xs=>∀ (pre:List Tm) (done:List D) (ui:List ByteArray) (qi M:Nat),N10≤M→done.length=i→All2 Tm.Is pre done→ui.length+2*yT xs≤1099511627776 →
    R.1=pre++(zBH true xs (xC k l.length) env (yR env ns now) i ui).1→R.2=(zBH true xs (xC k l.length) env (yR env ns now) i ui).2 →
    zE E Q N (.mp b em cm) (xC k l.length) (.mp bm em' cm') (zA now).length c13 a9 es c9 (es.length:Int) (i:Nat) (zA ui).length qi (zA ui) qi 0 (bytes []) (bytes []) 0 0 none [] 0 0 none [] 0 none [] 0 (zA now) q3 k nm ot n0 x4 x5 x6 x7 es'.length c' (done++es'.drop i) c' M) ?_ ?_
   ·exact key [] [] (u++now) qu N' hN' rfl rfl (by rw [List.length_append];omega) (by rw [hR];rfl) (by rw [hR])
   ·intro i hlt hi pre done ui qi M hMM hdl hd2 hu1 hR1 hR2
    simp only [zBH,List.append_nil] at hR1 hR2
    subst hR1
    refine yY _ _ _ _ _ _ _ _ _ _ _ _ _ _ _ _ _ _ _ _ _ _ _ _ _ _ _ _ _ _ _ _ _ _ _ _ _ _ _ _ _ _ _ _ _ _ _ ?_
    rw [hlt]
    refine Br.of (fun h=>by cases h) fun _=>?_
    have e:done++es'.drop i=done:=by rw [List.drop_eq_nil_of_le (by omega)];simp
    rw [e]
    rw [hR2] at hQ
    have fin:∀ (nm3 ot3:ByteArray),now.headD nm=nm3→now.tail.headD ot=ot3→nm3.size≤4611686018427387904→ot3.size≤4611686018427387904→∀ (aa:Option Addr) (M':Nat),M≤M' →
      Q (.ag [.lit (.int .i64 k),.lit (.string nm3),.lit (.string ot3),.lit (.int .i64 n0),x4,x5,x6,x7,.sl aa 9 done c']) none (zA ui) qi M':=fun nm3 ot3 e1 e2 h3 h4 aa M' hM3=>by
     subst e1;subst e2
     exact hQ _ _ _ (by omega) (Tm.is_mk.2 ⟨_,_,_,_,_,_,_,rfl,⟨h3,h4,hH.ty,hH.re⟩,by omega,hd2⟩)
    rcases now with _ | ⟨v,_ | ⟨w,_ | ⟨z,rest⟩⟩⟩
    ·exact Br.dec (fun h=>by simp [zA] at h) fun _=>Br.dec (fun h=>by simp [zA] at h) fun _=>⟨⟨by omega,rfl⟩,⟨by omega,rfl⟩,⟨by omega,rfl⟩,fun aa N5 hN5 _=>⟨zF5,⟨rfl,rfl⟩,fun N6 hN6=>fin nm ot rfl rfl hh.nm hh.ot _ _ (by omega)⟩⟩
    ·exact Br.dec (fun _=>⟨⟨by omega,by simp [zA],by simp [zA]⟩,by simp [zA],v,rfl,Br.dec (fun h=>by simp [zA] at h) fun _=>⟨⟨by omega,rfl⟩,⟨by omega,rfl⟩,⟨by omega,rfl⟩,fun aa N5 hN5 _=>⟨zF5,⟨rfl,rfl⟩,fun N6 hN6=>fin v ot rfl rfl (hnowS v (by simp)) hh.ot _ _ (by omega)⟩⟩⟩) fun h=>absurd (by simp [zA]) h
    ·exact Br.dec (fun _=>⟨⟨by omega,by simp [zA],by simp [zA]⟩,by simp [zA],v,rfl,Br.dec (fun _=>⟨⟨by omega,by simp [zA],by simp [zA]⟩,by simp [zA],w,rfl,⟨by omega,rfl⟩,⟨by omega,rfl⟩,⟨by omega,rfl⟩,fun aa N5 hN5 _=>⟨zF5,⟨rfl,rfl⟩,fun N6 hN6=>fin v w rfl rfl (hnowS v (by simp)) (hnowS w (by simp)) _ _ (by omega)⟩⟩) fun h=>absurd (by simp [zA]) h⟩) fun h=>absurd (by simp [zA]) h
    ·simp only [List.length_cons] at hnl
     omega
   ·intro i z xs hat _ ih2 pre done ui qi M hMM hdl hd2 hu1 hR1 hR2
    have hb:=hat.b
    have hle:i<es'.length:=by omega
    simp only [yT] at hu1
    simp only [zBH] at hR1 hR2
    have hzl:=zDR true z (if (i:Int)=xC k l.length then yR env ns now else env) ui
    have h5:(done++es'.drop i).length=es'.length:=by rw [List.length_append,List.length_drop];omega
    have next:∀ (d':D) (q' M':Nat),M≤M'→(can true z (if (i:Int)=xC k l.length then yR env ns now else env) ui).1.Is d' →
      zE E Q N (.mp b em cm) (xC k l.length) (.mp bm em' cm') (zA now).length c13 a9 es c9 (es.length:Int) (IntKind.i64.wrap ((i:Int)+1)) (zA (can true z (if (i:Int)=xC k l.length then yR env ns now else env) ui).2).length q' (zA (can true z (if (i:Int)=xC k l.length then yR env ns now else env) ui).2) q' 0 (bytes []) (bytes []) 0 0 none [] 0 0 none [] 0 none [] 0 (zA now) q3 k nm ot n0 x4 x5 x6 x7 es'.length c' ((done++es'.drop i).set (0+(i:Int).toNat) d') c' M':=fun d' q' M' h1 h2=>by
     rw [hat.w,Int.toNat_natCast,zHO hdl hle]
     exact ih2 (pre++[_]) (done++[d']) _ q' M' (by omega) (by simp [hdl]) (hd2.snoc h2) (by omega) (by rw [hR1];simp) hR2
    refine yY _ _ _ _ _ _ _ _ _ _ _ _ _ _ _ _ _ _ _ _ _ _ _ _ _ _ _ _ _ _ _ _ _ _ _ _ _ _ _ _ _ _ _ _ _ _ _ ?_
    rw [hat.lt]
    refine ⟨⟨by omega,by omega⟩,Br.beq (fun he N1 hN1=>?_) fun he N1 hN1=>?_⟩
    ·rw [if_pos he] at next hzl
     rw [Int.toNat_natCast]
     exact ih z hat.m _ hat.r (uU g4 hat.m) _ ui hS' (by omega) bm em' cm' hM' qi N1 (by omega) _ fun d' q' N2 hN2 h2 _ _ _=>⟨⟨by omega,by omega,by omega⟩,by omega,next d' q' N2 (by omega) h2⟩
    ·rw [if_neg he] at next hzl
     rw [Int.toNat_natCast]
     exact ih z hat.m _ hat.r (uU g4 hat.m) _ ui hS (by omega) b em cm hM qi N1 (by omega) _ fun d' q' N2 hN2 h2 _ _ _=>⟨⟨by omega,by omega,by omega⟩,by omega,next d' q' N2 (by omega) h2⟩
  have off:∀ x:D,Bel N9 x→bm∉x.foot:=fun x hb hc=>by
   have:=hb _ hc
   omega
  have lp:=up (yQ ns) (by rw [zC];omega) (fun i xs=>∀ (emi:Array MapEntry) (cmi q4 qu M:Nat),N10≤M→MapIs emi (yR env (ns.take i) (yK i u))→xs.length+i=ns.length →
   zZ E Q N (.mp b em cm) (xC k l.length) (.mp bm emi cmi) (zA (yK i u)).length q4 a1 (zA ns) c1 ((zA ns).length:Int) (i:Nat) (zA (u++yK i u)).length qu (zA (u++yK i u)) qu
    (.ag [.lit (.int .i64 k),.lit (.string nm),.lit (.string ot),.lit (.int .i64 n0),t0,t1,r0,r1,.sl a9 9 es c9]) 0 (bytes []) (bytes []) 0 0 none [] 0 0 none [] 0 none [] 0 (zA (yK i u)) q4 M) ?_ ?_
  ·have:=lp em cm 0 q N10 (Nat.le_refl _) hM (by simp)
   simp only [yK,List.append_nil] at this
   exact this
  ·intro i hlt hi emi cmi q4 qu M hMM hMi hx1
   have hii:i=ns.length:=by rw [zC] at hi;exact hi
   subst hii
   rw [List.take_length] at hMi
   rw [hnow] at hMi ⊢
   refine yg _ _ _ _ _ _ _ _ _ _ _ _ _ _ _ _ _ _ _ _ _ _ _ _ _ _ _ _ _ _ _ _ _ _ _ _ ?_
   rw [hlt]
   refine Br.of (fun h=>by cases h) fun _ N3 hN3=>zHd _ _ hd0 hG0 N3 _ ?_
   intro x4 x5 x6 x7 es' c' N4 hN4 hh' hes' ho' _ _
   exact ⟨_,_,_,rfl,parts x4 x5 x6 x7 es' c' hh' hes' emi cmi hMi q4 q4 qu N4 (by omega)⟩
  ·intro i z xs hat hdrop ih2 emi cmi q4 qu M hMM hMi hx1
   have hb:=hat.b
   have hwl:=zC ns
   simp only [List.length_cons] at hx1
   refine yg _ _ _ _ _ _ _ _ _ _ _ _ _ _ _ _ _ _ _ _ _ _ _ _ _ _ _ _ _ _ _ _ _ _ _ _ ?_
   rw [hat.lt]
   refine ⟨⟨by omega,by omega⟩,z,by rw [Int.toNat_natCast];exact hat.r,fun N1 hN1=>zI6 (u++yK i u) (by rw [List.length_append,yF];omega) qu N1 _ fun cq N2 hN2 _ _=>⟨⟨rfl,rfl⟩,vG (by rw [yF];omega),fun c_1=>?_⟩⟩
   rw [yN,List.append_assoc,←xt]
   have hg:(zA (yK (i+1) u)).length=i+1:=by rw [zC,yF]
   have hw:IntKind.i64.wrap (((zA (yK (i+1) u)).length:Int) - 1)=(i:Int):=by rw [hg,i64_in _ (by omega)];omega
   have hg2:(yK (i+1) u)[i]?=some (xf (u++yK i u)):=by
    rw [xt,List.getElem?_append_right (by rw [yF];exact Nat.le_refl _),yF];simp
   obtain ⟨emn,cmn,hput,hMn⟩:=zIP hMi cmi z (xf (u++yK i u))
   rw [hw]
   refine ⟨⟨by omega,by omega,by omega⟩,by omega,xf (u++yK i u),by rw [Int.toNat_natCast,Nat.zero_add];exact sn hg2,bm,emi,cmi,rfl,rfl,by omega,⟨fun x hx j hj=>?_⟩,emn,cmn,hput,?_⟩
   ·simp only [D.foot,List.mem_singleton] at hj
    subst hj
    simp only [List.mem_cons,List.not_mem_nil,or_false] at hx
    rcases hx with rfl | rfl | rfl | rfl | rfl | rfl | rfl | rfl | rfl
    ·simp only [D.foot,List.mem_singleton];omega
    ·exact off _ fun j hj=>by have:=ho8.hi j hj;omega
    ·simp only [D.foot];rw [zDl];simp
    ·exact off _ fun j hj=>by have:=hBel j hj;omega
    ·simp [D.foot,zL]
    ·simp [D.foot,zL]
    ·simp [D.foot,zL]
    ·simp only [D.foot];rw [zDl];simp
    ·simp [D.foot,zL]
   ·rw [hat.w]
    refine ih2 emn cmn c_1 cq N2 (by omega) ?_ (by omega)
    rw [vr hat.g,xt,zAW _ _ _ _ _ (by rw [List.length_take,yF];omega)]
    exact hMn
theorem zEt (l:List ByteArray) (hl:l.length≤2199023255552) (a:Option Addr) (c:Nat):zHV 115 [.sv a 0 (zA l) c] l:=fun N Q hQ=>by
 have hlen:=zC l
 have hb0:zB [] (zA l) 16:=by unfold zB;simp only [List.nil_append];omega
 have main:(a=none→zA l=[])→ACalls prog 115 [.row 9 0] [.sv a 0 (zA l) c] N Q:=fun hn=>by
  refine u9 N a _ c Q fun _=>Br.of (fun hi N1 hN1=>?_) fun hi=>⟨⟨rfl,rfl⟩,hb0,fun c1=>⟨⟨rfl,rfl⟩,fun N2 hN2=>?_⟩⟩
  ·have:zA l=[]:=hn (by simpa using hi)
   have h0:=hQ 0 N1 hN1
   rwa [this] at h0
  ·exact hQ _ _ (by omega)
 cases a with
 | some ad=>exact main (by simp)
 | none=>
   by_cases hne:zA l=[]
   ·exact main fun _=>hne
   ·exact zJO (z:=0) (c:=c) (es:=zA l) (by kernel_rfl) (by simp) hne
noncomputable def zIB (b:Bool) (t:Tm):Tm:=(can b t (fun _=>none) t.fv).1
theorem zFX {t:Tm} (h:t.vok=true):zIB true t=zIB false t:=by unfold zIB;rw [zHo t _ _ h]
theorem zGr:EnvR [] [] fun _=>none:=⟨rfl,fun s=>rfl⟩
def zI3 (f:FuncId) (args:List PV) (t:Tm):Prop:=∀ (N:Nat) (Q:QT [.ag 9]),(∀ d N',N≤N'→t.Is d→Q d N')→ACalls prog f [.ag 9] args N Q
theorem vS (t:Tm) (d:D) (hd:t.Is d) (hc:t.cnt≤1073741824):zI3 47 [.dg 9 d] (zIB false t):=fun N Q hQ=>by
 have hv:=Tm.vc_cnt t
 have hf:=Tm.fv_len t
 have hG:=Tm.G_cnt t hc
 exact rd N d Q fun _ N1 hN1=>qh t d hd (by omega) N1 _ fun a c N2 hN2 _ _ _=>⟨⟨rfl,rfl⟩,fun a1 N3 hN3 _=>⟨⟨rfl,rfl⟩,fun a2 N4 hN4 _ N5 hN5=>
  zGp t d hd hG [] [] (fun _=>none) t.fv t.fv 0 zGr zEK (zEv _) (by omega) (by omega) (by simp;omega) a1 0 a2 0 a c N5 _ fun d' n' N6 hN6 h1 _ _ _ _ N7 hN7=>hQ _ _ (by omega) h1⟩⟩
theorem vX (t:Tm) (d:D) (hd:t.Is d) (hc:t.cnt≤1073741824):zI3 52 [.dg 9 d] (zIB true t):=fun N Q hQ=>by
 have hv:=Tm.vc_cnt t
 have hf:=Tm.fv_len t
 have hG:=Tm.G_cnt t hc
 exact rJ N d Q fun _ N1 hN1=>pG t d hd (by omega) N1 _ fun c N2 hN2 _ _=>⟨⟨rfl,rfl⟩,fun a _ N3 hN3 _=>zEt t.fv (by omega) a c N3 _ fun c' N4 hN4 _=>
  ⟨fun a' _ ad _ hc2=>by simp only [D.foot] at hc2;rw [zDl] at hc2;simp at hc2,fun _ b N5 hb hb2 N6 hN6=>zIU t d hd hG (fun _=>none) t.fv zEK (by omega) b #[] 0 zFD c' N6 (by omega) _ fun d' q' N7 hN7 h1 _ _ _ N8 hN8=>hQ _ _ (by omega) h1⟩⟩
noncomputable def zCX (a b:Tm):Bool:=a.ok&&b.ok&&zGa (zIB false a) (zIB false b)
theorem t6 (a b:Tm) (d e:D) (hd:a.Is d) (he:b.Is e) (ha:a.cnt≤1073741824) (hb:b.cnt≤1073741824):vb 9 [.dg 9 d,.dg 9 e] (zCX a b):=fun N Q hQ=>
 tI N d e Q fun _ _ N1 hN1=>tM a d hd ha N1 _ fun N2 hN2 _=>Br.of (fun h1 N3 hN3=>tM b e he hb N3 _ fun N4 hN4 _=>Br.of (fun h2 N5 hN5=>vS a d hd ha N5 _ fun x N6 hN6 hx _ _ N7 hN7=>vS b e he hb N7 _ fun y N8 hN8 hy _ _ N9 hN9=>
  rT _ _ x y hx hy N9 _ fun N10 hN10 _ N11 hN11=>Qb (hQ _ (by omega)) (by simp [zCX,h1,h2])) fun h2 N5 hN5=>Qb (hQ _ (by omega)) (by simp [zCX,h2])) fun h1 N3 hN3=>Qb (hQ _ (by omega)) (by simp [zCX,h1])
theorem t8 (a b:Tm) (d e:D) (hd:a.Is d) (he:b.Is e) (ha:a.cnt≤1073741824) (hb:b.cnt≤1073741824):vb 11 [.dg 9 d,.dg 9 e] (zCX a b):=fun N Q hQ=>
 te N d e Q fun _ _ N1 hN1=>t7 a d hd ha N1 _ fun N2 hN2 _=>Br.of (fun h1 N3 hN3=>t7 b e he hb N3 _ fun N4 hN4 _=>Br.of (fun h2 N5 hN5=>vX a d hd ha N5 _ fun x N6 hN6 hx _ _ N7 hN7=>vX b e he hb N7 _ fun y N8 hN8 hy _ _ N9 hN9=>
  rI _ _ x y hx hy N9 _ fun N10 hN10 _ N11 hN11=>Qb (hQ _ (by omega)) (by simp [zCX,h1,h2,zFX (zGN a h1),zFX (zGN b h2)])) fun h2 N5 hN5=>Qb (hQ _ (by omega)) (by simp [zCX,h2])) fun h1 N3 hN3=>Qb (hQ _ (by omega)) (by simp [zCX,h1])
/-- the law FnExactSameProgram: for all data it answers true -/
theorem qA {t s:Tm} {d e:D} (he:t.Is d) (hs:s.Is e) (N:Nat):ACalls prog 3 [.bool] [.dg 9 d,.dg 9 e] N (fun r _=>r=true):=by
 refine wk N d e _ fun _ _ N1 hN1=>?_
 refine zD0 t d he 1048576 (by omega) (by omega) N1 _ fun r2 N2 hN2 hr2 _=>Br.dec (fun _ N6 _=>rfl) fun hneg2 N4 hN4=>?_
 obtain ⟨hq0,hq1,hcn⟩:=hr2.resolve_left (by omega)
 refine zD0 s e hs r2 (by omega) (by omega) N4 _ fun r3 N5 hN5 hr3 _=>Br.dec (fun _ N6 _=>rfl) fun hneg3 N7 hN7=>?_
 obtain ⟨hq2,hq3,hcm⟩:=hr3.resolve_left (by omega)
 have hct:t.cnt≤1073741824:=by omega
 have hcs:s.cnt≤1073741824:=by omega
 clear hr2 hr3
 refine uD t d he hct N7 _ fun d1 N8 hN8 he1 _ _ _ N9 hN9=>uD s e hs hcs N9 _ fun e1 N10 hN10 hs1 _ _ _ N11 hN11=>?_
 refine t6 t s d1 e1 he1 hs1 hct hcs N11 _ fun N12 hN12 _ N13 hN13=>?_
 refine uD t d he hct N13 _ fun d2 N14 hN14 he2 _ _ _ N15 hN15=>uD s e hs hcs N15 _ fun e2 N16 hN16 hs2 _ _ _ N17 hN17=>?_
 refine t8 t s d2 e2 he2 hs2 hct hcs N17 _ fun N18 hN18 _=>Br.of (fun h=>by simp at h) fun _ N20 hN20=>?_
 refine uD t d he hct N20 _ fun d3 N21 hN21 he3 _ _ _ N22 hN22=>zDr t d2 d3 he2 he3 N22 _ fun N23 hN23 _=>Br.of (fun h=>by simp at h) fun _ N25 hN25=>?_
 exact uD s e hs hcs N25 _ fun e3 N26 hN26 hs3 _ _ _ N27 hN27=>zDr s e2 e3 hs2 hs3 N27 _ fun N28 hN28 _=>Br.of (fun h=>by simp at h) fun _ N30 hN30=>rfl
end Go.Proofs.YtmfjakahanbnlaaGreatDoor
