/- The program's canonical terms. -/
import Derived.Test.YtmfjakahanbnlaaGreatDoorB1
import Derived.Test.YtmfjakahanbnlaaGreatDoorA9
set_option linter.unusedVariables false
set_option linter.unusedSimpArgs false
set_option maxHeartbeats 1000000
namespace Go.Proofs.YtmfjakahanbnlaaGreatDoor
open Go Go.Proofs Go.Proofs.Tryz Go.IntWalk
theorem zJn {es:Array MapEntry} {env:NEnv} (h:MapIs es env) (c:Nat) (s:ByteArray):zEr prog 134 es c s (env s):=
 zJK Tryz.underlying134 Tryz.underlying9 Tryz.zeroValue9 h c s
theorem zJh {es:Array MapEntry} {env:NEnv} (h:MapIs es env) (c:Nat) (s u:ByteArray):∃ es' c',zE8 prog 134 es c s u es' c'/\MapIs es' (zIR env s u):=
 zJk Tryz.underlying134 Tryz.underlying9 h c s u
theorem zES:∀ l:List ByteArray,zM (zA l)=[]
 | []=>rfl
 | x::l=>by
   have:=zES l
   simp only [zA] at this
   simp [zA,zM,D.foot,this]
theorem zIV {done tl:List D} {i:Nat} {x:D} (h:done.length=i) (hlt:i<tl.length):(done++tl.drop i).set (0+i) x=(done++[x])++tl.drop (i+1):=by
 rw [nE,md _ _ (by omega),h,Nat.sub_self,mU hlt,List.set_cons_zero];simp
/-- what the program's walk is asked for -/
def zLs (t:Tm):Prop:=∀ (d:D),t.Is d->t.G->∀ (env:NEnv) (u:List ByteArray),EnvS env->u.length+2*t.cnt<=1099511627776->∀ (b:Nat) (em:Array MapEntry) (cm:Nat),MapIs em env ->
 ∀ (q N:Nat),b<N->∀ (Q:QT [.ag 9,.sl 0]),(∀ (d':D) (q' N':Nat),N<=N'->(can true t env u).1.Is d'->Q d' none (zA (can true t env u).2) q' N') ->
 BCalls prog 117 [.ag 9,.sl 0] [.pb 0 0 0 0,.dg 9 d,.dc (.mp b em cm)] [.var [.sb 1 0 0 (zA u).length q],.arr 9 0 (zA u) q] N Q
theorem zJz:∀ t,zLs t:=by
 refine Tm.ind fun k nm ot n0 ty re l ih d hd hG env u hS hu b em cm hM q N hbN Q hQ=>?_
 have hd0:=hd
 have hG0:=hG
 obtain ⟨t0,t1,r0,r1,a9,es,c9,rfl,hh,hlen,hes⟩:=Tm.is_mk.1 hd
 have hl:=hes.len
 obtain ⟨g1,g2,g3,g4⟩:=hG
 have hb2:=pP k nm ot l.length
 simp only [Tm.cnt] at hu
 have hty:=Ty.cnt_pos ty
 refine wt N _ _ _ _ _ _ Q fun E hBel _=>⟨_,rfl,Br.beq (fun h1 N1 hN1=>zIo _ _ hd0 hG0 N1 _ ?_) fun h1 N7 hN7=>zHb (n:=l.length) (by omega) N7 _ fun a1 c1 N8 hN8 ho8 _ _ N9 hN9=>zC6 N9 _ fun bm N10 hbm hbm2 hN10=>?_⟩
 ·intro x4 x5 x6 x7 es' c' N2 hN2 hh' hes' ho' _ _
  refine ⟨nm,rfl,b,em,cm,rfl,env nm,zJn hM cm nm,?_⟩
  have hcan:can true (.mk k nm ot n0 ty re l) env u=(.mk k ((env nm).getD nm) ot n0 ty re l,u):=by simp only [can,and_true,if_pos h1]
  rw [hcan] at hQ
  have hel:=hes'.len
  have hsz:((env nm).getD nm).size<=4611686018427387904:=by
   cases hv:env nm with
   | none=>exact hh.nm
   | some v=>exact hS _ _ hv
  refine Br.of (fun hv=>?_) fun hv=>?_
  ·have e:(env nm).getD (bytes [])=(env nm).getD nm:=by cases he:env nm with
    | none=>rw [he] at hv;simp at hv
    | some v=>rfl
   rw [e]
   exact ⟨⟨rfl,rfl⟩,⟨rfl,rfl⟩,⟨rfl,rfl⟩,⟨rfl,rfl⟩,fun a2 N3 hN3 _=>⟨zGf,⟨rfl,rfl⟩,fun N4 hN4=>hQ _ _ _ (by omega) (Tm.is_mk.2 ⟨_,_,_,_,_,_,_,rfl,⟨hsz,hh'.ot,hh'.ty,hh'.re⟩,by omega,hes'⟩)⟩⟩
  ·have e:(env nm).getD nm=nm:=by cases he:env nm with
    | none=>rfl
    | some v=>rw [he] at hv;simp at hv
   rw [e] at hQ
   exact ⟨⟨rfl,rfl⟩,⟨rfl,rfl⟩,⟨rfl,rfl⟩,⟨rfl,rfl⟩,fun a2 N3 hN3 _=>⟨zGf,⟨rfl,rfl⟩,fun N4 hN4=>hQ _ _ _ (by omega) (Tm.is_mk.2 ⟨_,_,_,_,_,_,_,rfl,hh',by omega,hes'⟩)⟩⟩
 ·generalize hns:bdN k nm ot l.length=ns at hb2 ho8
  generalize hnow:yM ns.length u=now
  have hnl:now.length=ns.length:=by rw [<-hnow,yE]
  generalize hR:r7 true l (xL k l.length) env (yU env ns now) 0 (u++now)=R
  have hnowS:∀ s∈now,s.size<=4611686018427387904:=fun s hs=>by
   rw [<-hnow] at hs
   have:=sa ns.length u (by omega) s hs
   omega
  have hcan:can true (.mk k nm ot n0 ty re l) env u=(.mk k (now.headD nm) (now.tail.headD ot) n0 ty re R.1,R.2):=by simp only [can,and_true,if_neg h1,hns,hnow,hR]
  rw [hcan] at hQ
  simp only at hQ
  have hS':EnvS (yU env ns now):=hS.bind hnowS
  have parts:∀ (x4 x5 x6 x7:D) (es':List D) (c':Nat),Tm.Hd nm ot ty re x4 x5 x6 x7->All2 Tm.Is l es'->∀ (em':Array MapEntry) (cm':Nat),MapIs em' (yU env ns now)->∀ (c13 q3 qu N':Nat),N10<=N' ->
    zE E Q N (.mp b em cm) (xL k l.length) (.mp bm em' cm') (zA now).length c13 a9 es c9 (es.length:Int) (0:Nat) (zA (u++now)).length qu (zA (u++now)) qu 0 (bytes []) (bytes []) 0 0 none [] 0 0 none [] 0 none [] 0 (zA now) q3 k nm ot n0 x4 x5 x6 x7 es'.length c' es' c' N':=by
   intro x4 x5 x6 x7 es' c' hH hA em' cm' hM' c13 q3 qu N' hN'
   have hal:=hA.len
   have key:=up hes hlen (fun i xs=>∀ (pre:List Tm) (done:List D) (ui:List ByteArray) (qi M:Nat),N10<=M->done.length=i->All2 Tm.Is pre done->ui.length+2*z8 xs<=1099511627776 ->
    R.1=pre++(r7 true xs (xL k l.length) env (yU env ns now) i ui).1->R.2=(r7 true xs (xL k l.length) env (yU env ns now) i ui).2 ->
    zE E Q N (.mp b em cm) (xL k l.length) (.mp bm em' cm') (zA now).length c13 a9 es c9 (es.length:Int) (i:Nat) (zA ui).length qi (zA ui) qi 0 (bytes []) (bytes []) 0 0 none [] 0 0 none [] 0 none [] 0 (zA now) q3 k nm ot n0 x4 x5 x6 x7 es'.length c' (done++es'.drop i) c' M) ?_ ?_
   ·exact key [] [] (u++now) qu N' hN' rfl rfl (by rw [oH];omega) (by rw [hR];rfl) (by rw [hR])
   ·intro i hlt hi pre done ui qi M hMM hdl hd2 hu1 hR1 hR2
    simp only [r7,od] at hR1 hR2
    subst hR1
    refine ye _ _ _ _ _ _ _ _ _ _ _ _ _ _ _ _ _ _ _ _ _ _ _ _ _ _ _ _ _ _ _ _ _ _ _ _ _ _ _ _ _ _ _ _ _ _ _ ?_
    rw [hlt]
    refine Br.of (fun h=>by cases h) fun _=>?_
    have e:done++es'.drop i=done:=by rw [nh (by omega)];simp
    rw [e]
    rw [hR2] at hQ
    have fin:∀ (nm3 ot3:ByteArray),now.headD nm=nm3->now.tail.headD ot=ot3->nm3.size<=4611686018427387904->ot3.size<=4611686018427387904->∀ (aa:Option Addr) (M':Nat),M<=M' ->
      Q (.ag [.lit (.int .i64 k),.lit (.string nm3),.lit (.string ot3),.lit (.int .i64 n0),x4,x5,x6,x7,.sl aa 9 done c']) none (zA ui) qi M':=fun nm3 ot3 e1 e2 h3 h4 aa M' hM3=>by
     subst e1;subst e2
     exact hQ _ _ _ (by omega) (Tm.is_mk.2 ⟨_,_,_,_,_,_,_,rfl,⟨h3,h4,hH.ty,hH.re⟩,by omega,hd2⟩)
    rcases now with _ | ⟨v,_ | ⟨w,_ | ⟨z,rest⟩⟩⟩
    ·exact Br.dec (fun h=>by simp [zA] at h) fun _=>Br.dec (fun h=>by simp [zA] at h) fun _=>⟨⟨by omega,rfl⟩,⟨by omega,rfl⟩,⟨by omega,rfl⟩,fun aa N5 hN5 _=>⟨zGf,⟨rfl,rfl⟩,fun N6 hN6=>fin nm ot rfl rfl hh.nm hh.ot _ _ (by omega)⟩⟩
    ·exact Br.dec (fun _=>⟨⟨by omega,by simp [zA],by simp [zA]⟩,by simp [zA],v,rfl,Br.dec (fun h=>by simp [zA] at h) fun _=>⟨⟨by omega,rfl⟩,⟨by omega,rfl⟩,⟨by omega,rfl⟩,fun aa N5 hN5 _=>⟨zGf,⟨rfl,rfl⟩,fun N6 hN6=>fin v ot rfl rfl (hnowS v (by simp)) hh.ot _ _ (by omega)⟩⟩⟩) fun h=>absurd (by simp [zA]) h
    ·exact Br.dec (fun _=>⟨⟨by omega,by simp [zA],by simp [zA]⟩,by simp [zA],v,rfl,Br.dec (fun _=>⟨⟨by omega,by simp [zA],by simp [zA]⟩,by simp [zA],w,rfl,⟨by omega,rfl⟩,⟨by omega,rfl⟩,⟨by omega,rfl⟩,fun aa N5 hN5 _=>⟨zGf,⟨rfl,rfl⟩,fun N6 hN6=>fin v w rfl rfl (hnowS v (by simp)) (hnowS w (by simp)) _ _ (by omega)⟩⟩) fun h=>absurd (by simp [zA]) h⟩) fun h=>absurd (by simp [zA]) h
    ·simp only [oR] at hnl
     omega
   ·intro i z xs hat _ ih2 pre done ui qi M hMM hdl hd2 hu1 hR1 hR2
    have hb:=hat.b
    have hle:i<es'.length:=by omega
    simp only [z8] at hu1
    simp only [r7] at hR1 hR2
    have hzl:=zDy true z (if (i:Int)=xL k l.length then yU env ns now else env) ui
    have h5:(done++es'.drop i).length=es'.length:=by rw [oH,nx];omega
    have next:∀ (d':D) (q' M':Nat),M<=M'->(can true z (if (i:Int)=xL k l.length then yU env ns now else env) ui).1.Is d' ->
      zE E Q N (.mp b em cm) (xL k l.length) (.mp bm em' cm') (zA now).length c13 a9 es c9 (es.length:Int) (IntKind.i64.wrap ((i:Int)+1)) (zA (can true z (if (i:Int)=xL k l.length then yU env ns now else env) ui).2).length q' (zA (can true z (if (i:Int)=xL k l.length then yU env ns now else env) ui).2) q' 0 (bytes []) (bytes []) 0 0 none [] 0 0 none [] 0 none [] 0 (zA now) q3 k nm ot n0 x4 x5 x6 x7 es'.length c' ((done++es'.drop i).set (0+(i:Int).toNat) d') c' M':=fun d' q' M' h1 h2=>by
     rw [hat.w,oJ,zIV hdl hle]
     exact ih2 (pre++[_]) (done++[d']) _ q' M' (by omega) (by simp [hdl]) (hd2.snoc h2) (by omega) (by rw [hR1];simp) hR2
    refine ye _ _ _ _ _ _ _ _ _ _ _ _ _ _ _ _ _ _ _ _ _ _ _ _ _ _ _ _ _ _ _ _ _ _ _ _ _ _ _ _ _ _ _ _ _ _ _ ?_
    rw [hat.lt]
    refine ⟨⟨by omega,by omega⟩,Br.beq (fun he N1 hN1=>?_) fun he N1 hN1=>?_⟩
    ·rw [if_pos he] at next hzl
     rw [oJ]
     exact ih z hat.m _ hat.r (uk g4 hat.m) _ ui hS' (by omega) bm em' cm' hM' qi N1 (by omega) _ fun d' q' N2 hN2 h2 _ _ _=>⟨⟨by omega,by omega,by omega⟩,by omega,next d' q' N2 (by omega) h2⟩
    ·rw [if_neg he] at next hzl
     rw [oJ]
     exact ih z hat.m _ hat.r (uk g4 hat.m) _ ui hS (by omega) b em cm hM qi N1 (by omega) _ fun d' q' N2 hN2 h2 _ _ _=>⟨⟨by omega,by omega,by omega⟩,by omega,next d' q' N2 (by omega) h2⟩
  have off:∀ x:D,Bel N9 x->bm∉x.foot:=fun x hb hc=>by
   have:=hb _ hc
   omega
  have lp:=up (yF ns) (by rw [zB];omega) (fun i xs=>∀ (emi:Array MapEntry) (cmi q4 qu M:Nat),N10<=M->MapIs emi (yU env (ns.take i) (yM i u))->xs.length+i=ns.length ->
   zY E Q N (.mp b em cm) (xL k l.length) (.mp bm emi cmi) (zA (yM i u)).length q4 a1 (zA ns) c1 ((zA ns).length:Int) (i:Nat) (zA (u++yM i u)).length qu (zA (u++yM i u)) qu
    (.ag [.lit (.int .i64 k),.lit (.string nm),.lit (.string ot),.lit (.int .i64 n0),t0,t1,r0,r1,.sl a9 9 es c9]) 0 (bytes []) (bytes []) 0 0 none [] 0 0 none [] 0 none [] 0 (zA (yM i u)) q4 M) ?_ ?_
  ·have:=lp em cm 0 q N10 (oF _) hM (by simp)
   simp only [yM,od] at this
   exact this
  ·intro i hlt hi emi cmi q4 qu M hMM hMi hx1
   have hii:i=ns.length:=by rw [zB] at hi;exact hi
   subst hii
   rw [List.take_length] at hMi
   rw [hnow] at hMi ⊢
   refine yg _ _ _ _ _ _ _ _ _ _ _ _ _ _ _ _ _ _ _ _ _ _ _ _ _ _ _ _ _ _ _ _ _ _ _ _ ?_
   rw [hlt]
   refine Br.of (fun h=>by cases h) fun _ N3 hN3=>zIo _ _ hd0 hG0 N3 _ ?_
   intro x4 x5 x6 x7 es' c' N4 hN4 hh' hes' ho' _ _
   exact ⟨_,_,_,rfl,parts x4 x5 x6 x7 es' c' hh' hes' emi cmi hMi q4 q4 qu N4 (by omega)⟩
  ·intro i z xs hat hdrop ih2 emi cmi q4 qu M hMM hMi hx1
   have hb:=hat.b
   have hwl:=zB ns
   simp only [oR] at hx1
   refine yg _ _ _ _ _ _ _ _ _ _ _ _ _ _ _ _ _ _ _ _ _ _ _ _ _ _ _ _ _ _ _ _ _ _ _ _ ?_
   rw [hat.lt]
   refine ⟨⟨by omega,by omega⟩,z,by rw [oJ];exact hat.r,fun N1 hN1=>zKF (u++yM i u) (by rw [oH,yE];omega) qu N1 _ fun cq N2 hN2 _ _=>⟨⟨rfl,rfl⟩,vN (by rw [yE];omega),fun c_1=>?_⟩⟩
   rw [yN,nC,<-wA]
   have hg:(zA (yM (i+1) u)).length=i+1:=by rw [zB,yE]
   have hw:IntKind.i64.wrap (((zA (yM (i+1) u)).length:Int) - 1)=(i:Int):=by rw [hg,i64_in _ (by omega)];omega
   have hg2:(yM (i+1) u)[i]?=some (xi (u++yM i u)):=by
    rw [wA,oM (by rw [yE];exact oF _),yE];simp
   obtain ⟨emn,cmn,hput,hMn⟩:=zJh hMi cmi z (xi (u++yM i u))
   rw [hw]
   refine ⟨⟨by omega,by omega,by omega⟩,by omega,xi (u++yM i u),by rw [oJ,nE];exact uT hg2,bm,emi,cmi,rfl,rfl,by omega,⟨fun x hx j hj=>?_⟩,emn,cmn,hput,?_⟩
   ·simp only [D.foot,o8] at hj
    subst hj
    simp only [oI,ny,or_false] at hx
    rcases hx with rfl | rfl | rfl | rfl | rfl | rfl | rfl | rfl | rfl
    ·simp only [D.foot,o8];omega
    ·exact off _ fun j hj=>by have:=ho8.hi j hj;omega
    ·simp only [D.foot];rw [zES];simp
    ·exact off _ fun j hj=>by have:=hBel j hj;omega
    ·simp [D.foot,zM]
    ·simp [D.foot,zM]
    ·simp [D.foot,zM]
    ·simp only [D.foot];rw [zES];simp
    ·simp [D.foot,zM]
   ·rw [hat.w]
    refine ih2 emn cmn c_1 cq N2 (by omega) ?_ (by omega)
    rw [vq hat.g,wA,zAf _ _ _ _ _ (by rw [nB,yE];omega)]
    exact hMn
theorem zFP (l:List ByteArray) (hl:l.length<=2199023255552) (a:Option Addr) (c:Nat):zHi 115 [.sv a 0 (zA l) c] l:=fun N Q hQ=>by
 have hlen:=zB l
 have hb0:zC [] (zA l) 16:=by unfold zC;simp only [ou];omega
 have main:(a=none->zA l=[])->ACalls prog 115 [.row 9 0] [.sv a 0 (zA l) c] N Q:=fun hn=>by
  refine tP N a _ c Q fun _=>Br.of (fun hi N1 hN1=>?_) fun hi=>⟨⟨rfl,rfl⟩,hb0,fun c1=>⟨⟨rfl,rfl⟩,fun N2 hN2=>?_⟩⟩
  ·have:zA l=[]:=hn (by simpa using hi)
   have h0:=hQ 0 N1 hN1
   rwa [this] at h0
  ·exact hQ _ _ (by omega)
 cases a with
 | some ad=>exact main (by simp)
 | none=>
   by_cases hne:zA l=[]
   ·exact main fun _=>hne
   ·exact zKX (z:=0) (c:=c) (es:=zA l) (by kernel_rfl) (by simp) hne
noncomputable def zGu (b:Bool) (t:Tm):Tm:=(can b t (fun _=>none) t.fv).1
theorem zJN {t:Tm} (h:t.vok=true):zGu true t=zGu false t:=by unfold zGu;rw [zIp t _ _ h]
theorem zGb {b:Bool} {t:Tm} (h:(zGu b t).ok=true):t.vok=true:=zGy b t _ _ (zIw _ h)
theorem zIY:EnvR [] [] fun _=>none:=⟨rfl,fun s=>rfl⟩
def zKg (f:FuncId) (args:List PV) (t:Tm):Prop:=∀ (N:Nat) (Q:QT [.ag 9]),(∀ d N',N<=N'->t.Is d->Q d N')->ACalls prog f [.ag 9] args N Q
theorem rZ (t:Tm) (d:D) (hd:t.Is d) (hc:t.cnt<=1073741824):zKg 47 [.dg 9 d] (zGu false t):=fun N Q hQ=>by
 have hv:=Tm.vc_cnt t
 have hf:=Tm.fv_len t
 have hG:=Tm.G_cnt t hc
 exact rq N d Q fun _ N1 hN1=>qj t d hd (by omega) N1 _ fun a c N2 hN2 _ _ _=>⟨⟨rfl,rfl⟩,fun a1 N3 hN3 _=>⟨⟨rfl,rfl⟩,fun a2 N4 hN4 _ N5 hN5=>
  zHs t d hd hG [] [] (fun _=>none) t.fv t.fv 0 zIY zE4 (zFs _) (by omega) (by omega) (by simp;omega) a1 0 a2 0 a c N5 _ fun d' n' N6 hN6 h1 _ _ _ _ N7 hN7=>hQ _ _ (by omega) h1⟩⟩
theorem rn (t:Tm) (d:D) (hd:t.Is d) (hc:t.cnt<=1073741824):zKg 52 [.dg 9 d] (zGu true t):=fun N Q hQ=>by
 have hv:=Tm.vc_cnt t
 have hf:=Tm.fv_len t
 have hG:=Tm.G_cnt t hc
 exact rd N d Q fun _ N1 hN1=>pu t d hd (by omega) N1 _ fun c N2 hN2 _ _=>⟨⟨rfl,rfl⟩,fun a _ N3 hN3 _=>zFP t.fv (by omega) a c N3 _ fun c' N4 hN4 _=>
  ⟨fun a' _ ad _ hc2=>by simp only [D.foot] at hc2;rw [zES] at hc2;simp at hc2,fun _ b N5 hb hb2 N6 hN6=>zJz t d hd hG (fun _=>none) t.fv zE4 (by omega) b #[] 0 zFz c' N6 (by omega) _ fun d' q' N7 hN7 h1 _ _ _ N8 hN8=>hQ _ _ (by omega) h1⟩⟩
end Go.Proofs.YtmfjakahanbnlaaGreatDoor
